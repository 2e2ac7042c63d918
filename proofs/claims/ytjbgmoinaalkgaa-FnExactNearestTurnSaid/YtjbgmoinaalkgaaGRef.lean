/- A contract by hand for spec.l03Nearest: it tells the nearest tube behind some rings, as 'near' does. -/
import Derived.Test.YtjbgmoinaalkgaaQ0
import Derived.Test.YtjbgmoinaalkgaaQ8
import Derived.Test.YtjbgmoinaalkgaaQ9
import Derived.Test.YtjbgmoinaalkgaaQ10
import Derived.Test.YtjbgmoinaalkgaaQ11
import Derived.Test.YtjbgmoinaalkgaaGNearP
namespace Go.Proofs.Ytjbgmoinaalkgaa.Q
open Go.RowKit Go.Proofs.YtjbgmoinaalkgaaW.PrintWords Go.Proofs.YtjbgmoinaalkgaaW.PrintLast Go.Proofs.YtjbgmoinaalkgaaW.PrintMore
set_option linter.unusedVariables false
set_option linter.unusedSimpArgs false

def ref_T : Bool × List (List Nat × List Nat) := (true,
  [([], []), ([], []), ([0, 1], [0, 1]), ([], []), ([], []), ([3, 4], [3, 4]), ([5], [5]), ([6], [6]),
    ([2, 7, 2], [2, 7]), ([8, 8, 0, 1, 2, 3, 4, 5, 6, 7, 8], [8])])
def ref_B : List Nat := [0, 0, 3, 0, 0, 24, 56, 120, 255, 511]
theorem ref_tab : rtab .any (opsOf Try.f12 10) = ref_T := by kernel_rfl
theorem ref_bits : waitsOk ref_T.2 ref_B = true := by kernel_rfl

structure RS (w : World) (Ar : Option Addr) (cr : Nat) (F : List S27) (v : Value) (best : List S27) (W : World) : Prop where
  made : Below w.heap.size w W
  rings : Kd.R k27 27 W w.heap.size (fun _ => True) (.slice Ar F.length cr) F
  out : Kd.R k27 27 W w.heap.size (fun _ => True) v best
theorem RS.below {w : World} {Ar : Option Addr} {cr : Nat} {F : List S27} {v : Value} {best : List S27} {W W1 : World} (h : RS w Ar cr F v best W) (hb : Below W.heap.size W W1) : RS w Ar cr F v best W1 :=
  ⟨below_step h.made hb, Kd.R_below h.rings hb, Kd.R_below h.out hb⟩

abbrev Lit (r : S27) : Obj := .cells [.int .i64 r.f0, .int .i64 r.f1].toArray 27
structure J2 (w3 W : World) (t : List S27) (r : S27) (v : Value) (g : Nat) : Prop where
  own : Kd.R k27 27 W w3.heap.size (fun k => k ≠ g) v t
  lit : W.heap[g]? = some (Lit r)
  made : Below w3.heap.size w3 W
theorem J2.lit7 (w : World) (r : S27) : (w.alloc (Lit r)).heap[w.heap.size]? = some (Lit r) := blk_new w _
theorem J2.own7 {w3 w4 : World} {v : Value} {t : List S27} (h : Kd.R k27 27 w4 w3.heap.size (fun _ => True) v t) (hb : Below w3.heap.size w3 w4) (o : Obj) : Kd.R k27 27 (w4.alloc o) w3.heap.size (fun k => k ≠ w4.heap.size) v t :=
  Kd.R_below (Kd.R_mono (Kd.R_bound h) (fun k hk => Nat.ne_of_lt hk.2.2.1)) (below_alloc (Below.refl _ _) o)
theorem J2.of7 {w3 w5 : World} {v : Value} {t : List S27} {r : S27} (h : Kd.R k27 27 w5 w3.heap.size (fun _ => True) v t) (hb : Below w3.heap.size w3 w5) : J2 w3 (w5.alloc (Lit r)) t r v w5.heap.size :=
  ⟨J2.own7 h hb _, J2.lit7 w5 r, hb.alloc hb.size _⟩
theorem J2.fresh7 {w4 : World} {o : Obj} {k : Nat} (hk : (w4.alloc o).heap.size ≤ k) : k ≠ w4.heap.size := by
  rw [World.size_alloc] at hk; omega
theorem J2.fresh0 (w : World) (o : Obj) : (w.alloc o).heap.size ≠ w.heap.size := by
  rw [World.size_alloc]; omega
theorem J2.fresh5 {w5 : World} {g k : Nat} {o : Obj} (h : w5.heap[g]? = some o) (hk : w5.heap.size ≤ k) : k ≠ g := by
  have := blk_lt h; omega
theorem J2.fresh6 {w3 W : World} {t : List S27} {r : S27} {v : Value} {g k : Nat} (h : J2 w3 W t r v g) (hk : W.heap.size ≤ k) : k ≠ g := J2.fresh5 h.lit hk
theorem J2.mk3 {w3 w5 w6 : World} {v0 v : Value} {t xs : List S27} {r : S27} {g : Nat} (ho : Kd.R k27 27 w6 w3.heap.size (fun k => k ≠ g) v t) (hb : Below w3.heap.size w3 w6) (ho5 : Kd.R k27 27 w5 w3.heap.size (fun k => k ≠ g) v0 xs) (hl : w5.heap[g]? = some (Lit r)) (hg : w5.grownBy w6 v0.ownBlock) : J2 w3 w6 t r v g :=
  ⟨ho, blk_grown hl hg (fun e => ho5.1 g e.symm rfl), hb⟩
theorem J2.mk2 {w3 w4 w5 w6 : World} {v0 v : Value} {t xs : List S27} {r : S27} {g : Nat} (ho : Kd.R k27 27 w6 w3.heap.size (fun k => k ≠ g) v t) (hb : Below w3.heap.size w3 w6) (hb4 : Below w3.heap.size w3 w4) (ho5 : Kd.R k27 27 w5 w3.heap.size (fun k => k ≠ g) v0 xs) (hl : w5.heap[g]? = some (Lit r)) (hg : w5.grownBy w6 v0.ownBlock) : J2 w3 w6 t r v g := J2.mk3 ho hb ho5 hl hg
theorem J2.reads {w3 W : World} {t : List S27} {r : S27} {v : Value} {g : Nat} (h : J2 w3 W t r v g) : ReadsRow (k27.K W) k27.sz W (some ⟨g, 0, none⟩) 1 [r] := by
  refine ⟨rfl, by decide, fun _ => ⟨_, rfl, fun j p hj => ?_⟩⟩
  cases j with
  | succ j => simp at hj
  | zero =>
    obtain rfl : r = p := by simpa using hj
    refine ⟨[.int .i64 r.f0, .int .i64 r.f1], rfl, k27_mk _ _, fun i u hu => ?_⟩
    cases i with
    | zero =>
      obtain rfl : _ = u := by simpa using hu
      exact (blk_cell h.lit 0).trans rfl
    | succ i =>
      cases i with
      | zero =>
        obtain rfl : _ = u := by simpa using hu
        exact (blk_cell h.lit 1).trans rfl
      | succ i => simp at hu

theorem sabs_eq {x : Int} (h : -9223372036854775807 ≤ x ∧ x ≤ 9223372036854775807) : spec_l03Abs.f x = some (iab x) := by
  unfold spec_l03Abs.f spec_l00Max.f iab mx
  rw [nw64 (by omega)]
  by_cases c : x > -x
  · rw [if_pos c, if_neg (by omega)]; rfl
  · rw [if_neg c]
    by_cases d : x < -x
    · rw [if_pos d]; rfl
    · rw [if_neg d]
      have : x = -x := by omega
      rw [← this]; rfl

def RefPost (w : World) (p : List S27 × Int) (e : Ending) (w' : World) : Prop := ∃ v, e = .returned (.tuple #[v, .int .i64 p.2]) ∧ Kd.R k27 27 w' w.heap.size (fun _ => True) v p.1 ∧ Below w.heap.size w w'

set_option maxHeartbeats 8000000 in
set_option maxRecDepth 100000 in
theorem ref_zero (B R : Int) (hB : -100000 ≤ B ∧ B ≤ 100000) (hR : -100000 ≤ R ∧ R ≤ 100000) (last : S27) (t : List S27) (hv : validT t) (A1 : Option Addr) (c1 : Nat) (w : World) (hr0 : Kd.C k27 w A1 t.length t) (hc0 : t.length ≤ c1) (cnt : Int) (hcnt : (t.length : Int) = cnt) :
    Calls Try.prog 12 #[.agg #[.int .i64 last.f0, .int .i64 last.f1], .slice A1 t.length c1, .int .i64 cnt, .int .i64 B, .int .i64 R] w (RefPost w (t, cst B R t)) := by
  have hu24 := Try.underlying24
  have hu27 := Try.underlying27
  obtain ⟨t1, t2, t3, t4⟩ := tot_both hv
  have hL := hv.1
  unfold cst
  generalize tot t = bh at t1 t3 t4
  obtain ⟨b, h⟩ := bh
  simp only at t3 t4 ⊢
  have w1_ : wrap64 (B - b) = B - b := nw64 (by omega)
  have w2_ : wrap64 (R - h) = R - h := nw64 (by omega)
  have l1 := iab_le (x := B - b) (m := 200000) (by omega)
  have l2 := iab_le (x := R - h) (m := 200000) (by omega)
  have w3_ : wrap64 (iab (B - b) + iab (R - h)) = iab (B - b) + iab (R - h) := nw64 (by omega)
  have HAB : Aside0 (spec_l03Abs.f (B - b) = some (iab (B - b))) := ⟨sabs_eq (by omega)⟩
  have HAR : Aside0 (spec_l03Abs.f (R - h) = some (iab (R - h))) := ⟨sabs_eq (by omega)⟩
  have HAB' : Aside0 (spec_l03Abs.f (wrap64 (B - b)) = some (iab (B - b))) := ⟨by rw [w1_]; exact HAB.out⟩
  have HAR' : Aside0 (spec_l03Abs.f (wrap64 (R - h)) = some (iab (R - h))) := ⟨by rw [w2_]; exact HAR.out⟩
  have HR0 := Aside0.mk hr0
  have HC0 := Aside0.mk hc0
  have HT := Aside0.mk t1
  have HL := Aside0.mk hL
  have HW3 := Aside0.mk w3_
  have hct : ((t.length : Int) == cnt) = true := by rw [hcnt]; simp
  have HP : Aside0 (RefPost w (t, iab (B - b) + iab (R - h)) = RefPost w (t, iab (B - b) + iab (R - h))) := ⟨rfl⟩
  obtain ⟨F, hF⟩ : ∃ F : Ending → World → Prop, F = RefPost w (t, iab (B - b) + iab (R - h)) := ⟨_, rfl⟩
  rw [← hF]
  have HF := Aside0.mk hF
  clear hF HP hr0 hc0 t1 t2 t3 t4 hL hv hB hR l1 l2 w3_
  go_enter Try.func12, Try.ntmps12
  go_wp2_with (first
    | ((with_reducible refine gate_dst (N := 5) rfl ?_); go_loud (refine box_event ?hg (N := 5) ?hd (cs := #[.int .i64 last.f0, .int .i64 last.f1]) (t := 27) ?hr ?_; (case hd => rfl); (case hg => rfl); (case hr => first | (go_simp; done) | (go_simp; rfl)); intro gl hgl w1 hbox hbw; have HB1 := Aside0.mk hbw; clear hgl hbox hbw))
    | (go_at_call 20; go_loud (refine (spec_l03Total.calls 100 A1 c1 t b h _ (Kd.C_below HR0.out HB1.out) HC0.out HT.out).mono ?_; rintro e w2 ⟨rfl, hb2⟩; have HB2 := Aside0.mk (below_step HB1.out hb2); clear hb2))
    | ((with_reducible refine gate_dst (N := 30) rfl ?_); go_loud (refine Kd.R_lit k27 (w0 := w) w.heap.size 27 ?hg (N := 30) ?hd (xs := ([] : List S27)) (inner := []) (ok := fun _ => True) (okp := fun _ => True) ?hr ?hp (fun _ hk => hk) trivial HB2.out HB2.out.size (by simp) ?_; (case hd => rfl); (case hg => rfl); (case hr => first | (go_simp; done) | (go_simp; rfl)); (case hp => exact (Reps.none _ _)); intro v30 w3 ho3 hb3 hg_ hnew_; clear hg_ hnew_; have HO3 := Aside0.mk ho3; have HB3 := Aside0.mk hb3; clear ho3 hb3))
    | ((with_reducible refine gate_builtin (b := .append) (xs := #[.tmp 30, .tmp 31]) rfl ?_); at_builtin; go_loud (refine Kd.R_append_rows k27 (Rr := k27.K w) (w0 := w) w.heap.size rfl (.tmp 30) (.tmp 31) 24 27 (.agg #[(.int .i64 0), (.int .i64 0)]) 16 rfl hu24 info27 rfl (by decide) (by omega) v30 ([] : List S27) t A1 t.length c1 (fun _ => True) (fun _ => False) rfl rfl ?aO ?aR ?aM (fun _ hk => hk.elim) ?aF ?aB ?aS ?aL ?_; (case aO => exact HO3.out); (case aR => exact ReadsRow.imp_ HR0.out HB3.out (fun _ _ hp => hp)); (case aM => exact fun x cs hx => k27_re _ _ _ x cs hx); (case aF => exact fun _ _ => trivial); (case aB => exact HB3.out); (case aS => exact HB3.out.size); (case aL => have := HL.out; simp; omega); intro v32 w4 ho hb hg hat; rw [List.nil_append] at ho; have HO4 := Aside0.mk ho; have HB4 := Aside0.mk hb; clear ho hb hg hat))
    | (go_at_call 21; refine (spec_l03Abs.calls _ (iab (B - b)) _ ?ha).mono ?_; (case ha => first | exact HAB.out | exact HAB'.out); rintro e w' ⟨rfl, ⟨nd, rfl⟩⟩)
    | (go_at_call 21; go_loud (refine (spec_l03Abs.calls _ (iab (R - h)) _ ?ha).mono ?_; (case ha => first | exact HAR.out | exact HAR'.out); rintro e w' ⟨rfl, ⟨nd, rfl⟩⟩)))
  try go_ret2
  rw [HF.out]
  refine ⟨_, by first | rfl | (rw [HW3.out]; rfl), ?_, ?_⟩
  · repeat (first | exact HO4.out | apply Kd.R_drewN | apply Kd.R_drew)
  · repeat (first | exact HB4.out | apply pw_below_drewN | apply below_drew1)

set_option maxHeartbeats 16000000 in
set_option maxRecDepth 100000 in
theorem ref_succ (B R : Int) (hB : -100000 ≤ B ∧ B ≤ 100000) (hR : -100000 ≤ R ∧ R ≤ 100000) (n : Nat) (cnt : Int) (hcnt4 : 1 ≤ cnt ∧ cnt ≤ 4)
    (ih : ∀ (last : S27) (t : List S27) (A1 : Option Addr) (c1 : Nat) (w : World), ringB last.f0 last.f1 = true → validT t → (t.length : Int) + n = cnt → Kd.C k27 w A1 t.length t → t.length ≤ c1 →
      Calls Try.prog 12 #[.agg #[.int .i64 last.f0, .int .i64 last.f1], .slice A1 t.length c1, .int .i64 cnt, .int .i64 B, .int .i64 R] w (RefPost w (near B R n last t)))
    (last : S27) (t : List S27) (A1 : Option Addr) (c1 : Nat) (w : World) (hl : ringB last.f0 last.f1 = true) (hv : validT t) (hcnt : (t.length : Int) + (n + 1 : Nat) = cnt) (hr0 : Kd.C k27 w A1 t.length t) (hc0 : t.length ≤ c1) :
    Calls Try.prog 12 #[.agg #[.int .i64 last.f0, .int .i64 last.f1], .slice A1 t.length c1, .int .i64 cnt, .int .i64 B, .int .i64 R] w (RefPost w (near B R (n + 1) last t)) := by
  have hu24 := Try.underlying24
  have hu27 := Try.underlying27
  have hu37 := Try.underlying37
  obtain ⟨nl, hn1, hn2, hn3⟩ := fol_both hl
  obtain ⟨F, hF⟩ : ∃ F, F = folY last.f1 := ⟨_, rfl⟩
  have hFok : ∀ r ∈ F, ringB r.f0 r.f1 = true := by rw [hF]; exact fol_ok
  have hnear : near B R (n + 1) last t = nearL (fun r => near B R n r (t ++ [r])) F ([], -1) := by rw [near, hF]
  rw [hnear]
  obtain ⟨P, hP⟩ : ∃ P, P = nearL (fun r => near B R n r (t ++ [r])) F ([], -1) := ⟨_, rfl⟩
  rw [← hP]
  rw [← hF] at hn2 hn3
  obtain ⟨l0, l1⟩ := last
  simp only at hl hn1 hn2 hn3 ⊢
  have hct : ((t.length : Int) == cnt) = false := by rw [beq_eq_false_iff_ne]; omega
  have hL4 : t.length ≤ 3 := by omega
  obtain ⟨G, hG⟩ : ∃ G : Ending → World → Prop, G = RefPost w P := ⟨_, rfl⟩
  rw [← hG]
  have HG := Aside0.mk hG
  have HP := Aside0.mk hP
  have HN1 := Aside0.mk hn1
  have HN2 := Aside0.mk hn2
  have HN3 := Aside0.mk hn3
  have HFO := Aside0.mk hFok
  have HL4 := Aside0.mk hL4
  have HCN := Aside0.mk hcnt
  have HV := Aside0.mk hv
  have HR0 := Aside0.mk hr0
  have HC0 := Aside0.mk hc0
  have IH := Aside0.mk ih
  have HFl : Aside0 ((F.length : Int) = 10) := ⟨by omega⟩
  clear hG hP hn1 hn2 hn3 hFok hL4 hcnt hv hr0 hc0 ih hB hR hcnt4 hnear hF hl
  go_enter Try.func12, Try.ntmps12
  go_wp2_with (first
    | ((with_reducible refine gate_dst (N := 5) rfl ?_); go_loud (refine box_event ?hg (N := 5) ?hd (cs := #[.int .i64 l0, .int .i64 l1]) (t := 27) ?hr ?_; (case hd => rfl); (case hg => rfl); (case hr => first | (go_simp; done) | (go_simp; rfl)); intro gl hgl w1 hbox hbw; have HB1 := Aside0.mk hbw; have HX1 := Aside0.mk hbox; clear hgl hbox hbw))
    | ((with_reducible refine gate_dst (N := 42) rfl ?_); go_loud (refine Kd.R_lit k27 (w0 := w) w.heap.size 27 ?hg (N := 42) ?hd (xs := ([] : List S27)) (inner := []) (ok := fun _ => True) (okp := fun _ => True) ?hr ?hp (fun _ hk => hk) trivial HB1.out HB1.out.size (by simp) ?_; (case hd => rfl); (case hg => rfl); (case hr => first | (go_simp; done) | (go_simp; rfl)); (case hp => exact (Reps.none _ _)); intro v42 w3 ho3 hb3 hg_ hnew_; have HX3 := Aside0.mk (blk_grown HX1.out hg_ (by simp)); clear hg_ hnew_; have HO3 := Aside0.mk ho3; have HB3 := Aside0.mk hb3; have hx1 : w3.cell? ⟨gl, 1, none⟩ = some (.int .i64 l1) := (blk_cell HX3.out 1).trans rfl; clear ho3 hb3))
    | (go_at_call 23; go_loud (refine (spec_l03Next.calls 100 l1 nl _ HN1.out).mono ?_; rintro e w4 ⟨v45, rfl, ho, hb4⟩; obtain ⟨An, cn, en⟩ := Kd.R_slice ho; subst en; have HN4 := Aside0.mk (Kd.R_reads' ho); have HB4 := Aside0.mk (below_step HB3.out hb4); have HO4 := Aside0.mk (Kd.R_below HO3.out hb4); clear ho hb4))
    | (go_at_call 22; go_loud (refine (spec_l03All.calls 100 An cn nl F _ HN4.out.2.2 HN4.out.2.1 HN2.out).mono ?_; rintro e w5 ⟨v46, rfl, ho, hb5⟩; obtain ⟨Ar, cr, en⟩ := Kd.R_slice ho; subst en; have HS5 : Aside0 (RS w Ar cr F v42 [] w5) := ⟨below_step HB4.out hb5, Kd.R_lower ho HB4.out.size, Kd.R_below HO4.out hb5⟩; clear ho hb5)))
  clear HN4 HB4 HO4 HO3 HB3 HX3 HX1 HB1 hx1
  go_loopg [14, 15, 17] F.length (fun gg v14 v15 v17 w' => ∃ (b14 : List S27) (m i : Int), v15 = .int .i64 m ∧ v17 = .int .i64 i ∧ Aside0 (0 ≤ i ∧ i ≤ F.length ∧ F.length - i.toNat ≤ gg) ∧ Aside0 (nearL (fun r => near B R n r (t ++ [r])) (F.drop i.toNat) (b14, m) = P) ∧ Aside0 (RS w Ar cr F v14 b14 w'))
  case atStart => exact ⟨[], -1, 0, rfl, rfl, ⟨by omega, by omega, by simp⟩, ⟨HP.out.symm⟩, HS5⟩
  case round =>
    clear HS5
    obtain ⟨b14, m, i, rfl, rfl, HI, HF, HS⟩ := hrel
    by_cases hi : i < (F.length : Int)
    · have hi0 : 0 ≤ i := HI.out.1
      obtain ⟨ar, e4, hx0, hx1⟩ := at_T27 (Kd.R_reads' HS.out.rings).2.2 i hi0 hi
      cases e4
      have hst : F.drop i.toNat = rd_T27 F i :: F.drop (i + 1).toNat := by
        have hl : i.toNat < F.length := by omega
        rw [List.drop_eq_getElem_cons hl]
        have e1 : (i + 1).toNat = i.toNat + 1 := by omega
        have e2 : rd_T27 F i = F[i.toNat] := by simp [rd_T27, hl]
        rw [e1, e2]
      have hmem : rd_T27 F i ∈ F := by
        have hl : i.toNat < F.length := by omega
        have e2 : rd_T27 F i = F[i.toNat] := by simp [rd_T27, hl]
        rw [e2]
        exact List.getElem_mem _
      have hok := HFO.out _ hmem
      have hF1 := HF.out
      rw [hst, nearL] at hF1
      generalize hxy : rd_T27 F i = xy at hx0 hx1 hok hF1
      clear hst hmem hxy
      obtain ⟨x, y⟩ := xy
      simp only at hx0 hx1 hok hF1
      obtain ⟨q, hq⟩ : ∃ q, q = near B R n ⟨x, y⟩ (t ++ [⟨x, y⟩]) := ⟨_, rfl⟩
      rw [← hq] at hF1
      have HQ := Aside0.mk hq
      have HOK := Aside0.mk hok
      have HF1 := Aside0.mk hF1
      have HSx : Aside0 (∀ W, Below wr.heap.size wr W → W.cell? (ar.add (i.toNat * 2)) = some (.int .i64 x) ∧ W.cell? ⟨(ar.add (i.toNat * 2)).block, (ar.add (i.toNat * 2)).off + 1, none⟩ = some (.int .i64 y)) :=
        ⟨fun W hb => ⟨(hb.cell (World.block_lt_of_cell? wr _ hx0)).trans hx0, (hb.cell (World.block_lt_of_cell? wr _ hx1)).trans hx1⟩⟩
      have hwi : wrap64 (i + 1) = i + 1 := nw64 (by have := HFl.out; omega)
      clear hx0 hx1 hok hF1 hq HF
      have p208 := eq_true hi0
      have q208 := eq_true hi
      have hlt : decide (i < (F.length : Int)) = true := decide_eq_true hi
      clear hi hi0
      go_wp2
      refine start_ (n := 10) (S := fun w' => w'.cell? (ar.add (i.toNat * 2)) = some (.int .i64 x) ∧ w'.cell? ⟨(ar.add (i.toNat * 2)).block, (ar.add (i.toNat * 2)).off + 1, none⟩ = some (.int .i64 y)) (ds := []) #[false, false, false, false, false, false, false, false, false, false] (by kernel_rfl) rfl rfl (HSx.out _ (below_drew (Below.refl _ _))) (fun hHeld => ?_)
      refine with_tabW ref_tab ref_bits (fun HT_ HW_ => ?_)
      generalize hw3 : wr.drew = w3 at hHeld ⊢
      have HS3 : Aside0 (RS w (some ar) cr F u14 b14 w3) := ⟨by rw [← hw3]; exact HS.out.below (below_drew (Below.refl _ _))⟩
      replace HSx : Aside0 (∀ W, Below w3.heap.size w3 W → W.cell? (ar.add (i.toNat * 2)) = some (.int .i64 x) ∧ W.cell? ⟨(ar.add (i.toNat * 2)).block, (ar.add (i.toNat * 2)).off + 1, none⟩ = some (.int .i64 y)) := ⟨by rw [← hw3]; exact fun W hb => HSx.out W ((below_drew (Below.refl _ _)).trans hb)⟩
      clear hw3
      refine pure_ (i := 1) (N := some 54) (v := ?_) (a' := ?_) #[false, true, false, false, false, false, false, false, false, false] rfl rfl (any_of HT_.out (by kernel_rfl)) (fun _ _ _ h => h) (Or.inl ⟨by rfl, ?_⟩) ?_ ?_
      rotate_left
      · intro w'
        go_simp
        with_reducible rfl
      rotate_left
      · simp only [Act.put, List.setIfInBounds_toArray, List.set_cons_zero, List.set_cons_succ, i64_w, i32_w]
        rfl
      refine pure_ (i := 3) (N := some 56) (v := ?_) (a' := ?_) #[false, true, false, true, false, false, false, false, false, false] rfl rfl (any_of HT_.out (by kernel_rfl)) (fun _ _ _ h => h) (Or.inl ⟨by rfl, ?_⟩) ?_ ?_
      rotate_left
      · intro w'
        go_simp
        with_reducible rfl
      rotate_left
      · simp only [Act.put, List.setIfInBounds_toArray, List.set_cons_zero, List.set_cons_succ, i64_w, i32_w]
        rfl
      refine pure_ (i := 4) (N := some 57) (v := ?_) (a' := ?_) #[false, true, false, true, true, false, false, false, false, false] rfl rfl (any_of HT_.out (by kernel_rfl)) (fun _ _ _ h => h) (Or.inl ⟨by rfl, ?_⟩) ?_ ?_
      rotate_left
      · intro w'
        go_simp
        with_reducible rfl
      rotate_left
      · simp only [Act.put, List.setIfInBounds_toArray, List.set_cons_zero, List.set_cons_succ, i64_w, i32_w]
        rfl
      refine pure_ (i := 5) (N := some 58) (v := ?_) (a' := ?_) #[false, true, false, true, true, true, false, false, false, false] rfl rfl (any_of HT_.out (by kernel_rfl)) (fun _ _ _ h => h) (Or.inl ⟨by rfl, ?_⟩) ?_ ?_
      rotate_left
      · intro w'
        go_simp
        with_reducible rfl
      rotate_left
      · simp only [Act.put, List.setIfInBounds_toArray, List.set_cons_zero, List.set_cons_succ, i64_w, i32_w]
        rfl
      refine take_ (i := 6) (N := some 59) (v := ?_) (a' := ?_) #[false, true, false, true, true, true, true, false, false, false] rfl rfl (take_ofW HT_.out HW_.out (by kernel_rfl)) (fun _ _ _ h => h) (Or.inl ⟨by rfl, ?_⟩) hHeld ?_ ?_
      rotate_left
      · rintro w' ⟨s0, s1⟩
        go_simp
        with_reducible rfl
      rotate_left
      · simp only [Act.put, List.setIfInBounds_toArray, List.set_cons_zero, List.set_cons_succ, i64_w, i32_w]
        rfl
      refine join_ (ds := []) (σ := Value × Value × Nat) 2 #[true, true, true, true, true, true, true, true, false, false] (fun s => [(53, s.1), (55, s.2.1), (60, .slice (some ⟨s.2.2, 0, none⟩) 1 1)]) (fun s W => J2 w3 W t ⟨x, y⟩ s.2.1 s.2.2) ?jn (fun HJ => ?_)
      rotate_left
      refine two_ (ds := []) (i := 0) (j := 7) (Ni := some 53) (Nj := some 60) #[true, true, false, true, true, true, true, false, false, false] #[false, true, false, true, true, true, true, true, false, false] rfl rfl rfl rfl (two_of HT_.out (by kernel_rfl)) (by decide) (by decide) (fun K hK => ?b0) (fun K hK => ?b7)
      case b0 =>
        refine Kd.R_lit_step k27 (w0 := w3) w3.heap.size 27 (by rfl) (N := 53) rfl (xs := ([] : List S27)) (inner := []) (ok := fun _ => True) (okp := fun _ => False) ?hr (Reps.none _ _) (fun _ hk => hk.elim) ?hf (Below.refl w3.heap.size w3) ?hs (by simp) ?_
        case hr => first | (go_simp; done) | (go_simp; rfl)
        case hf => exact trivial
        case hs => exact ((Below.refl w3.heap.size w3)).size
        intro v53 w4 ho4 hb4 hg_ hnew_
        clear hg_ hnew_
        refine hK.out _ _ (HSx.out _ hb4) (fun hHeld => ?_)
        clear hK K
        refine two_ (ds := []) (i := 2) (j := 7) (Ni := some 55) (Nj := some 60) #[true, true, true, true, true, true, true, false, false, false] #[true, true, false, true, true, true, true, true, false, false] rfl rfl rfl rfl (two_of HT_.out (by kernel_rfl)) (by decide) (by decide) (fun K hK => ?c2) (fun K hK => ?c7)
        case c2 =>
          refine Kd.R_append_rows_step k27 (Rr := k27.K w) (w0 := w3) w3.heap.size (by rfl) (.tmp 53) (.tmp 54) 24 27 (.agg #[(.int .i64 0), (.int .i64 0)]) 16 rfl hu24 info27 rfl (by decide) (by omega) v53 ([] : List S27) t A1 t.length c1 (fun _ => True) (fun _ => False) rfl rfl ?aO ?aR ?aM (fun _ hk => hk.elim) ?aF ?aB ?aS ?aL ?_
          case aO => exact ho4
          case aR => exact ReadsRow.imp_ HR0.out (below_step HS3.out.made (hb4)) (fun _ _ hp => hp)
          case aM => exact fun x cs hx => k27_re _ _ _ x cs hx
          case aF => exact fun _ _ => trivial
          case aB => exact hb4
          case aS => exact (hb4).size
          case aL => exact by have := HL4.out; simp; omega
          intro v55 w5 ho5 hb5 hg5 hat5
          rw [List.nil_append] at ho5
          refine hK.out _ _ (HSx.out _ hb5) (fun hHeld => ?_)
          clear hK K
          refine one_ (i := 7) (N := some 60) #[true, true, true, true, true, true, true, true, false, false] rfl rfl (one_of HT_.out (by kernel_rfl)) (by decide) (fun K hK => ?_)
          refine value_ (v := .slice (some ⟨w5.heap.size, 0, none⟩) 1 1) (w1 := w5.alloc (.cells [.int .i64 x, .int .i64 y].toArray 27)) (by rfl) rfl (by go_simp; first | done | rfl | exact ⟨rfl, rfl⟩) ?_
          refine hK.out _ _ (HSx.out _ (hb5.alloc hb5.size _)) (fun hHeld => ?_)
          clear hK K
          exact HJ (v53, v55, w5.heap.size) _ (J2.of7 (r := ⟨x, y⟩) ho5 hb5)
        case c7 =>
          refine value_ (v := .slice (some ⟨w4.heap.size, 0, none⟩) 1 1) (w1 := w4.alloc (.cells [.int .i64 x, .int .i64 y].toArray 27)) (by rfl) rfl (by go_simp; first | done | rfl | exact ⟨rfl, rfl⟩) ?_
          refine hK.out _ _ (HSx.out _ (hb4.alloc hb4.size _)) (fun hHeld => ?_)
          clear hK K
          refine one_ (i := 2) (N := some 55) #[true, true, true, true, true, true, true, true, false, false] rfl rfl (one_of HT_.out (by kernel_rfl)) (by decide) (fun K hK => ?_)
          have ho4' := J2.own7 ho4 hb4 (.cells [.int .i64 x, .int .i64 y].toArray 27)
          have hb4' := hb4.alloc hb4.size (.cells [.int .i64 x, .int .i64 y].toArray 27)
          have hl4 := J2.lit7 w4 ⟨x, y⟩
          refine Kd.R_append_rows_step k27 (Rr := k27.K w) (w0 := w3) w3.heap.size (by rfl) (.tmp 53) (.tmp 54) 24 27 (.agg #[(.int .i64 0), (.int .i64 0)]) 16 rfl hu24 info27 rfl (by decide) (by omega) v53 ([] : List S27) t A1 t.length c1 (fun k => k ≠ w4.heap.size) (fun _ => False) rfl rfl ?aO ?aR ?aM (fun _ hk => hk.elim) ?aF ?aB ?aS ?aL ?_
          case aO => exact ho4'
          case aR => exact ReadsRow.imp_ HR0.out (below_step HS3.out.made hb4') (fun _ _ hp => hp)
          case aM => exact fun x cs hx => k27_re _ _ _ x cs hx
          case aF => exact fun k hk => J2.fresh7 hk
          case aB => exact hb4'
          case aS => exact (hb4').size
          case aL => exact by have := HL4.out; simp; omega
          intro v55 w5 ho5 hb5 hg5 hat5
          rw [List.nil_append] at ho5
          refine hK.out _ _ (HSx.out _ hb5) (fun hHeld => ?_)
          clear hK K
          exact HJ (v53, v55, w4.heap.size) _ (J2.mk2 (r := ⟨x, y⟩) ho5 hb5 hb4 ho4' hl4 hg5)
      case b7 =>
        refine value_ (v := .slice (some ⟨w3.heap.size, 0, none⟩) 1 1) (w1 := w3.alloc (.cells [.int .i64 x, .int .i64 y].toArray 27)) (by rfl) rfl (by go_simp; first | done | rfl | exact ⟨rfl, rfl⟩) ?_
        refine hK.out _ _ (HSx.out _ ((Below.refl w3.heap.size w3).alloc (Nat.le_refl _) _)) (fun hHeld => ?_)
        clear hK K
        refine one_ (i := 0) (N := some 53) #[true, true, false, true, true, true, true, true, false, false] rfl rfl (one_of HT_.out (by kernel_rfl)) (by decide) (fun K hK => ?_)
        have hb4 := (Below.refl w3.heap.size w3).alloc (Nat.le_refl _) (.cells [.int .i64 x, .int .i64 y].toArray 27)
        have hl4 := J2.lit7 w3 ⟨x, y⟩
        refine Kd.R_lit_step k27 (w0 := w3) w3.heap.size 27 (by rfl) (N := 53) rfl (xs := ([] : List S27)) (inner := []) (ok := fun k => k ≠ w3.heap.size) (okp := fun _ => False) ?hr (Reps.none _ _) (fun _ hk => hk.elim) ?hf hb4 ?hs (by simp) ?_
        case hr => first | (go_simp; done) | (go_simp; rfl)
        case hf => exact J2.fresh0 w3 _
        case hs => exact (hb4).size
        intro v53 w5 ho5 hb5 hg5 hnew_
        clear hnew_
        have hl5 := blk_grown hl4 hg5 (by simp)
        refine hK.out _ _ (HSx.out _ hb5) (fun hHeld => ?_)
        clear hK K
        refine one_ (i := 2) (N := some 55) #[true, true, true, true, true, true, true, true, false, false] rfl rfl (one_of HT_.out (by kernel_rfl)) (by decide) (fun K hK => ?_)
        refine Kd.R_append_rows_step k27 (Rr := k27.K w) (w0 := w3) w3.heap.size (by rfl) (.tmp 53) (.tmp 54) 24 27 (.agg #[(.int .i64 0), (.int .i64 0)]) 16 rfl hu24 info27 rfl (by decide) (by omega) v53 ([] : List S27) t A1 t.length c1 (fun k => k ≠ w3.heap.size) (fun _ => False) rfl rfl ?aO ?aR ?aM (fun _ hk => hk.elim) ?aF ?aB ?aS ?aL ?_
        case aO => exact ho5
        case aR => exact ReadsRow.imp_ HR0.out (below_step HS3.out.made hb5) (fun _ _ hp => hp)
        case aM => exact fun x cs hx => k27_re _ _ _ x cs hx
        case aF => exact fun k hk => J2.fresh5 hl5 hk
        case aB => exact hb5
        case aS => exact (hb5).size
        case aL => exact by have := HL4.out; simp; omega
        intro v55 w6 ho6 hb6 hg6 hat6
        rw [List.nil_append] at ho6
        refine hK.out _ _ (HSx.out _ hb6) (fun hHeld => ?_)
        clear hK K
        exact HJ (v53, v55, w3.heap.size) _ (J2.mk3 (r := ⟨x, y⟩) ho6 hb6 ho5 hl5 hg6)
      case jn =>
        rintro ⟨v53, v55, g⟩ w6 HJ6
        have HJ6 := Aside0.mk HJ6
        have hHeld := HSx.out _ HJ6.out.made
        refine norm_ (a' := ?_) ?_ ?_
        rotate_left
        · simp only [putAll, Act.put, List.setIfInBounds_toArray, List.set_cons_zero, List.set_cons_succ, i64_w, i32_w]
          rfl
        refine one_ (i := 8) (N := some 61) #[true, true, true, true, true, true, true, true, true, false] rfl rfl (one_of HT_.out (by kernel_rfl)) (by decide) (fun K hK => ?_)
        refine Kd.R_append_rows_step k27 (Rr := k27.K w6) (w0 := w3) w3.heap.size (by rfl) (.tmp 55) (.tmp 60) 24 27 (.agg #[(.int .i64 0), (.int .i64 0)]) 16 rfl hu24 info27 rfl (by decide) (by omega) v55 t [(⟨x, y⟩ : S27)] (some ⟨g, 0, none⟩) 1 1 (fun k => k ≠ g) (fun _ => False) rfl rfl ?aO ?aR ?aM (fun _ hk => hk.elim) ?aF ?aB ?aS ?aL ?_
        case aO => exact HJ6.out.own
        case aR => exact J2.reads HJ6.out
        case aM => exact fun x cs hx => k27_re _ _ _ x cs hx
        case aF => exact fun k hk => J2.fresh6 HJ6.out hk
        case aB => exact HJ6.out.made
        case aS => exact (HJ6.out.made).size
        case aL => exact by have := HL4.out; omega
        intro v61 w7 ho7 hb7 hg7 hat7
        have HO7 := Aside0.mk (Kd.R_lower (Kd.R_mono ho7 (fun _ _ => trivial)) HS3.out.made.size : Kd.R k27 27 w7 w.heap.size (fun _ => True) v61 (t ++ [⟨x, y⟩]))
        have HS7 := Aside0.mk (HS3.out.below hb7)
        have hHeld7 := HSx.out _ hb7
        clear ho7 hg7 hat7
        refine hK.out _ _ hHeld7 (fun hHeld => ?_)
        clear hK K
        refine norm_ (a' := ?_) ?_ ?_
        rotate_left
        · show Act.put _ (some 61) _ = _
          simp only [Act.put, List.setIfInBounds_toArray, List.set_cons_zero, List.set_cons_succ, i64_w, i32_w]
          rfl
        refine pure_ (i := 9) (N := some 18) (v := ?_) (a' := ?_) #[true, true, true, true, true, true, true, true, true, true] rfl rfl (any_of HT_.out (by kernel_rfl)) (fun _ _ _ h => h) (Or.inl ⟨by rfl, ?_⟩) ?_ ?_
        rotate_left
        · intro w'
          go_simp
          with_reducible rfl
        rotate_left
        · simp only [Act.put, List.setIfInBounds_toArray, List.set_cons_zero, List.set_cons_succ, i64_w, i32_w]
          rfl
        refine done_ (done_of HT_.out (by kernel_rfl)) ?_
        obtain ⟨hs0, hs1⟩ := hHeld7
        have HVN : Aside0 (validT (t ++ [(⟨x, y⟩ : S27)])) := ⟨⟨by have := HL4.out; simp; omega, fun z hz => by
          rcases List.mem_append.1 hz with hz | hz
          · exact HV.out.2 z hz
          · obtain rfl : z = ⟨x, y⟩ := by simpa using hz
            exact HOK.out⟩⟩
        have HLN : Aside0 (((t ++ [(⟨x, y⟩ : S27)]).length : Int) + n = cnt) := ⟨by have := HCN.out; simp; omega⟩
        have HQ2 : Aside0 (near B R n ⟨x, y⟩ (t ++ [⟨x, y⟩]) = q) := ⟨HQ.out.symm⟩
        generalize t ++ [(⟨x, y⟩ : S27)] = tx at HO7 HVN HLN HQ2
        obtain ⟨A61, c61, e61⟩ := Kd.R_slice HO7.out
        subst e61
        have HC7 := Aside0.mk (Kd.R_reads' HO7.out)
        obtain ⟨q1, q2⟩ := q
        clear HS3 HJ6 hb7 HSx hHeld HT_ HW_ HQ
        by_cases h0 : m < 0
        · have hd0 : decide (m < 0) = true := decide_eq_true h0
          have HF2 : Aside0 (nearL (fun r => near B R n r (t ++ [r])) (F.drop (i + 1).toNat) (q1, q2) = P) := ⟨by have := HF1.out; rwa [if_pos (Or.inl h0)] at this⟩
          clear h0
          go_wp2_with (go_at_call 12; go_loud (refine (IH.out ⟨x, y⟩ tx A61 c61 _ HOK.out HVN.out HLN.out HC7.out.2.2 HC7.out.2.1).mono ?_; rw [HQ2.out]; rintro e w8 ⟨v71, rfl, ho, hb8⟩; have HO8 := Aside0.mk (Kd.R_lower ho HS7.out.made.size); have HS8 := Aside0.mk (HS7.out.below hb8); clear ho hb8))
          go_roundg (F.length - (i + 1).toNat)
          case measure => have := HI.out; have := of_eq_true q208; omega
          case rel => exact ⟨q1, q2, i + 1, rfl, by first | rfl | rw [hwi], ⟨by have := HI.out; omega, by have := HI.out; have := of_eq_true q208; omega, by omega⟩, HF2, ⟨⟨HS8.out.made, HS8.out.rings, HO8.out⟩⟩⟩
        · by_cases h1 : q2 < m
          · have hd0 : decide (m < 0) = false := decide_eq_false h0
            have hd1 : decide (q2 < m) = true := decide_eq_true h1
            have HF2 : Aside0 (nearL (fun r => near B R n r (t ++ [r])) (F.drop (i + 1).toNat) (q1, q2) = P) := ⟨by have := HF1.out; rwa [if_pos (Or.inr h1)] at this⟩
            clear h0 h1
            go_wp2_with (go_at_call 12; go_loud (refine (IH.out ⟨x, y⟩ tx A61 c61 _ HOK.out HVN.out HLN.out HC7.out.2.2 HC7.out.2.1).mono ?_; rw [HQ2.out]; rintro e w8 ⟨v71, rfl, ho, hb8⟩; have HO8 := Aside0.mk (Kd.R_lower ho HS7.out.made.size); have HS8 := Aside0.mk (HS7.out.below hb8); clear ho hb8))
            go_roundg (F.length - (i + 1).toNat)
            case measure => have := HI.out; have := of_eq_true q208; omega
            case rel => exact ⟨q1, q2, i + 1, rfl, by first | rfl | rw [hwi], ⟨by have := HI.out; omega, by have := HI.out; have := of_eq_true q208; omega, by omega⟩, HF2, ⟨⟨HS8.out.made, HS8.out.rings, HO8.out⟩⟩⟩
          · have hd0 : decide (m < 0) = false := decide_eq_false h0
            have hd1 : decide (q2 < m) = false := decide_eq_false h1
            have HF2 : Aside0 (nearL (fun r => near B R n r (t ++ [r])) (F.drop (i + 1).toNat) (b14, m) = P) := ⟨by have := HF1.out; rwa [if_neg (fun h => h.elim h0 h1)] at this⟩
            clear h0 h1
            go_wp2_with (go_at_call 12; go_loud (refine (IH.out ⟨x, y⟩ tx A61 c61 _ HOK.out HVN.out HLN.out HC7.out.2.2 HC7.out.2.1).mono ?_; rw [HQ2.out]; rintro e w8 ⟨v71, rfl, ho, hb8⟩; have HO8 := Aside0.mk (Kd.R_lower ho HS7.out.made.size); have HS8 := Aside0.mk (HS7.out.below hb8); clear ho hb8))
            go_roundg (F.length - (i + 1).toNat)
            case measure => have := HI.out; have := of_eq_true q208; omega
            case rel => exact ⟨b14, m, i + 1, rfl, by first | rfl | rw [hwi], ⟨by have := HI.out; omega, by have := HI.out; have := of_eq_true q208; omega, by omega⟩, HF2, HS8⟩
    · have hlt : decide (i < (F.length : Int)) = false := decide_eq_false hi
      have hE : (b14, m) = P := by
        have := HF.out
        rwa [List.drop_eq_nil_of_le (by have := HI.out; omega), nearL] at this
      clear hi HF
      go_wp2
      try go_ret2
      rw [HG.out, ← hE]
      exact ⟨_, rfl, HS.out.out, HS.out.made⟩

theorem ref_calls (B R : Int) (hB : -100000 ≤ B ∧ B ≤ 100000) (hR : -100000 ≤ R ∧ R ≤ 100000) (cnt : Int) (hcnt4 : 1 ≤ cnt ∧ cnt ≤ 4) : ∀ (n : Nat) (last : S27) (t : List S27) (A1 : Option Addr) (c1 : Nat) (w : World), ringB last.f0 last.f1 = true → validT t → (t.length : Int) + n = cnt → Kd.C k27 w A1 t.length t → t.length ≤ c1 →
      Calls Try.prog 12 #[.agg #[.int .i64 last.f0, .int .i64 last.f1], .slice A1 t.length c1, .int .i64 cnt, .int .i64 B, .int .i64 R] w (RefPost w (near B R n last t))
  | 0, last, t, A1, c1, w, hl, hv, hn, hr, hc => ref_zero B R hB hR last t hv A1 c1 w hr hc cnt (by simpa using hn)
  | n + 1, last, t, A1, c1, w, hl, hv, hn, hr, hc => ref_succ B R hB hR n cnt hcnt4 (ref_calls B R hB hR cnt hcnt4 n) last t A1 c1 w hl hv hn hr hc

theorem spec_l03Nearest.calls (a0_0 a0_1 : Int) (A1 : Option Addr) (c1 : Nat) (l1 : List S27) (a2 a3 a4 : Int) (r1 : List S27) (r2 : Int) (w : World) (hr1 : Kd.C k27 w A1 l1.length l1) (hc1 : l1.length ≤ c1) (h : spec_l03Nearest.f a0_0 a0_1 l1 a2 a3 a4 = some (r1, r2)) :
    Calls Try.prog 12 #[.agg #[.int .i64 a0_0, .int .i64 a0_1], .slice A1 l1.length c1, .int .i64 a2, .int .i64 a3, .int .i64 a4] w fun e w' => ∃ v0_ : Value, e = .returned (.tuple #[v0_, .int .i64 r2]) ∧ Kd.R k27 27 w' w.heap.size (fun _ => True) v0_ r1 ∧ Below w.heap.size w w' := by
  unfold spec_l03Nearest.f at h
  by_cases hv : inR (-100000) 100000 a3 = true ∧ inR (-100000) 100000 a4 = true ∧ ringB a0_0 a0_1 = true ∧ inR 1 4 a2 = true ∧ l1 = []
  · rw [if_pos hv] at h
    obtain ⟨h3, h4, h0, h2, rfl⟩ := hv
    have hp := Option.some.inj h
    have i3 := ninR h3
    have i4 := ninR h4
    have i2 := ninR h2
    have := ref_calls a3 a4 i3 i4 a2 i2 a2.toNat ⟨a0_0, a0_1⟩ [] A1 c1 w h0 ⟨by simp, fun z hz => by cases hz⟩ (by simp; omega) hr1 hc1
    rw [hp] at this
    exact this
  · rw [if_neg hv] at h
    cases h

end Go.Proofs.Ytjbgmoinaalkgaa.Q
