/- Contracts by hand for impl.NearestTurn: the search's closure, which calls itself, the search, and what is found. -/
import Derived.Test.YtjbgmoinaalkgaaQ0
import Derived.Test.YtjbgmoinaalkgaaQ4
import Derived.Test.YtjbgmoinaalkgaaGNearP
import Derived.Test.YtjbgmoinaalkgaaGRef
namespace Go.Proofs.Ytjbgmoinaalkgaa.Q
open Go.RowKit Go.Proofs.YtjbgmoinaalkgaaW.PrintWords Go.Proofs.YtjbgmoinaalkgaaW.PrintLast Go.Proofs.YtjbgmoinaalkgaaW.PrintMore
set_option linter.unusedVariables false
set_option linter.unusedSimpArgs false

def ext_T : Bool × List (List Nat × List Nat) := (true, [([], []), ([], []), ([1], [1]), ([], []), ([3], [3]), ([2, 4, 2], [2, 4]), ([0, 5, 5], [0, 5])])
def ext_B : List Nat := [0, 0, 2, 0, 8, 30, 63]
theorem ext_tab : rtab .any (opsOf Try.f28 15) = ext_T := by kernel_rfl
theorem ext_bits : waitsOk ext_T.2 ext_B = true := by kernel_rfl

section
variable {P : Program} {ops : Array Oper} {Q : Exit → Act → World → Prop}
/-- A call of a closure, by its contract, as one step of a region that draws its order. -/
theorem goesC_ {oi : Oper} {N : Option Tmp} {a : Act} {w : World} {K : Act → World → Prop} {f : FuncId} {caps : Array Value} {fn : Func} {y : Operand} {xs : Array Operand} {ts : Array TypeId} (hf : P.funcs[f]? = some fn) (hname : (fn.name == "runtime.NumGoroutine") = false) (hb : fn.body.isSome = true) (args : Array Value)
    (hw : Region.wanted oi (yielded ops a.tmps) = true) (hN : oi.dst = N) (hop : oi.op = .call { callee := .value y, args := xs, argTypes := ts }) (hy : a.eval y = .func (.func f) #[] caps) (hargs : xs.map a.eval ++ caps = args)
    (h : Calls P f args w fun e w' => ∃ v, e = .returned v ∧ K (a.put N v) w') : if Region.wanted oi (yielded ops a.tmps) = true then Oper.wp P oi a w K Q else K (a.put N undef) w := by
  refine call_ f args hw hN ?_ h
  have he := enters_ hf hname hb args w
  unfold execOp
  simp [hop, resolve, Deferred.ofValue, invoke, hy, hargs, he]
end

structure Bx where
  gB : Nat
  gR : Nat
  bp : Nat
  bc : Nat
  bk : Nat
  bb : Nat
  bl : Nat
  bf : Nat
  be : Nat
def Bx.ord (x : Bx) : Prop := x.gB < x.gR ∧ x.gR < x.bp ∧ x.bp < x.bc ∧ x.bc < x.bk ∧ x.bk < x.bb ∧ x.bb < x.bl ∧ x.bl < x.bf ∧ x.bf < x.be
def Bx.mut (x : Bx) (k : Nat) : Prop := k = x.bb ∨ k = x.bl ∨ k = x.bf
def Bx.caps (x : Bx) : Array Value := #[.pointer (some ⟨x.bc, 0, none⟩), .pointer (some ⟨x.bk, 0, none⟩), .pointer (some ⟨x.bf, 0, none⟩), .pointer (some ⟨x.bl, 0, none⟩), .pointer (some ⟨x.bb, 0, none⟩), .pointer (some ⟨x.bp, 0, none⟩), .pointer (some ⟨x.be, 0, none⟩)]
theorem kept_blk {W W1 : World} {S : Nat → Prop} {g : Nat} {o : Obj} (h : W.heap[g]? = some o) (hg : ¬ S g) (hk : Kept W W1 S) : W1.heap[g]? = some o := (hk.2 g (blk_lt h) hg).trans h

structure XS (x : Bx) (B R cnt : Int) (before : S27) (wz : World) (v : Value) (s : St) (W : World) : Prop where
  gB : W.heap[x.gB]? = some (.cells #[.int .i64 B] 2 (0, 0))
  gR : W.heap[x.gR]? = some (.cells #[.int .i64 R] 2 (0, 0))
  bp : W.heap[x.bp]? = some (.cells #[.int .i64 before.f0, .int .i64 before.f1] 27 (0, 0))
  bc : W.heap[x.bc]? = some (.cells #[.int .i64 cnt] 2 (0, 0))
  bk : W.heap[x.bk]? = some (.cells #[.func (.func 16) #[] #[.pointer (some ⟨x.gB, 0, none⟩), .pointer (some ⟨x.gR, 0, none⟩)]] 43 (0, 0))
  bb : W.heap[x.bb]? = some (.cells #[v] 24 (0, 0))
  bl : W.heap[x.bl]? = some (.cells #[.int .i64 s.2.1] 2 (0, 0))
  bf : W.heap[x.bf]? = some (.cells #[.bool s.2.2] 4 (0, 0))
  be : W.heap[x.be]? = some (.cells #[.func (.func 28) #[] x.caps] 49 (0, 0))
  own : Kd.R k27 27 W wz.heap.size (fun k => ¬ x.mut k) v s.1
  made : Below wz.heap.size wz W
  ge : wz.heap.size ≤ x.bb
section
variable {x : Bx} {B R cnt : Int} {before : S27} {wz : World} {v : Value} {s : St} {W W1 : World}
theorem XS.below (h : XS x B R cnt before wz v s W) (hb : Below W.heap.size W W1) : XS x B R cnt before wz v s W1 :=
  ⟨blk_below h.gB hb, blk_below h.gR hb, blk_below h.bp hb, blk_below h.bc hb, blk_below h.bk hb, blk_below h.bb hb, blk_below h.bl hb, blk_below h.bf hb, blk_below h.be hb, Kd.R_below h.own hb, below_step h.made hb, h.ge⟩
theorem XS.fresh {w3 w7 : World} {g : Nat} {u : Value} {l : List S27} (h : XS x B R cnt before wz v s w3) (ho : Kd.R k27 27 w7 w3.heap.size (fun k => k ≠ g) u l) : Kd.R k27 27 w7 w3.heap.size (fun k => ¬ x.mut k) u l :=
  Kd.R_mono (Kd.R_bound ho) (fun k hk hm => by
    have h1 := blk_lt h.bb
    have h2 := blk_lt h.bl
    have h3 := blk_lt h.bf
    have h4 := hk.2.1
    rcases hm with rfl | rfl | rfl <;> omega)
theorem XS.kept3 (u : Value) (c : Int) : Kept W (((W.setCell ⟨x.bb, 0, none⟩ u).setCell ⟨x.bl, 0, none⟩ (.int .i64 c)).setCell ⟨x.bf, 0, none⟩ (.bool true)) x.mut :=
  Kept.setCell (Kept.setCell (Kept.setCell (Kept.refl W x.mut) (Or.inl (Or.inl rfl)) _) (Or.inl (Or.inr (Or.inl rfl))) _) (Or.inl (Or.inr (Or.inr rfl))) _
theorem XS.store (h : XS x B R cnt before wz v s W) (ho : x.ord) {u : Value} {l : List S27} (hu : Kd.R k27 27 W wz.heap.size (fun k => ¬ x.mut k) u l) (c : Int) :
    XS x B R cnt before wz u (l, c, true) (((W.setCell ⟨x.bb, 0, none⟩ u).setCell ⟨x.bl, 0, none⟩ (.int .i64 c)).setCell ⟨x.bf, 0, none⟩ (.bool true)) := by
  obtain ⟨o1, o2, o3, o4, o5, o6, o7, o8⟩ := ho
  have far : ∀ {g : Nat} {t : TypeId} {cs : Array Value}, W.heap[g]? = some (.cells cs t (0, 0)) → g ≠ x.bb → g ≠ x.bl → g ≠ x.bf → (((W.setCell ⟨x.bb, 0, none⟩ u).setCell ⟨x.bl, 0, none⟩ (.int .i64 c)).setCell ⟨x.bf, 0, none⟩ (.bool true)).heap[g]? = some (.cells cs t (0, 0)) :=
    fun hg h1 h2 h3 => blk_far (p := ⟨x.bf, 0, none⟩) (blk_far (p := ⟨x.bl, 0, none⟩) (blk_far (p := ⟨x.bb, 0, none⟩) hg h1 _) h2 _) h3 _
  refine ⟨far h.gB (by omega) (by omega) (by omega), far h.gR (by omega) (by omega) (by omega), far h.bp (by omega) (by omega) (by omega), far h.bc (by omega) (by omega) (by omega), far h.bk (by omega) (by omega) (by omega), ?_, ?_, ?_, far h.be (by omega) (by omega) (by omega), ?_, ((h.made.setCell (p := ⟨x.bb, 0, none⟩) h.ge _).setCell (p := ⟨x.bl, 0, none⟩) (Nat.le_trans h.ge (Nat.le_of_lt o6)) _).setCell (p := ⟨x.bf, 0, none⟩) (Nat.le_trans h.ge (by simp only; omega)) _, h.ge⟩
  · exact blk_far (p := ⟨x.bf, 0, none⟩) (blk_far (p := ⟨x.bl, 0, none⟩) (blk_set h.bb 0 u) (by simp only; omega) _) (by simp only; omega) _
  · exact blk_far (p := ⟨x.bf, 0, none⟩) (blk_set (blk_far (p := ⟨x.bb, 0, none⟩) h.bl (by simp only; omega) _) 0 _) (by simp only; omega) _
  · exact blk_set (blk_far (p := ⟨x.bl, 0, none⟩) (blk_far (p := ⟨x.bb, 0, none⟩) h.bf (by simp only; omega) _) (by simp only; omega) _) 0 _
  · exact Kd.R_kept hu (Kept.setCell (Kept.setCell (Kept.setCell (Kept.refl W x.mut) (Or.inl (Or.inl rfl)) _) (Or.inl (Or.inr (Or.inl rfl))) _) (Or.inl (Or.inr (Or.inr rfl))) _) (fun k hk => hk)
end

/-- Between two rounds of the search's closure. -/
structure LS (x : Bx) (B R cnt : Int) (before : S27) (wz : World) (baseT : Nat) (t : List S27) (A1 : Option Addr) (c1 gl : Nat) (l0 l1 : Int) (w : World) (v : Value) (s : St) (W : World) : Prop where
  xs : XS x B R cnt before wz v s W
  kept : Kept w W x.mut
  box : W.heap[gl]? = some (.cells #[.int .i64 l0, .int .i64 l1] 27 (0, 0))
  far : ¬ x.mut gl
  tube : Kd.R k27 27 W baseT (fun k => ¬ x.mut k) (.slice A1 t.length c1) t
section
variable {x : Bx} {B R cnt : Int} {before : S27} {wz : World} {baseT : Nat} {t : List S27} {A1 : Option Addr} {c1 gl : Nat} {l0 l1 : Int} {w W W1 : World} {v v2 : Value} {s s2 : St}
theorem LS.below (h : LS x B R cnt before wz baseT t A1 c1 gl l0 l1 w v s W) (hb : Below W.heap.size W W1) : LS x B R cnt before wz baseT t A1 c1 gl l0 l1 w v s W1 :=
  ⟨h.xs.below hb, h.kept.below hb, blk_below h.box hb, h.far, Kd.R_below h.tube hb⟩
theorem LS.kept' (h : LS x B R cnt before wz baseT t A1 c1 gl l0 l1 w v s W) (hx : XS x B R cnt before wz v2 s2 W1) (hk : Kept W W1 x.mut) : LS x B R cnt before wz baseT t A1 c1 gl l0 l1 w v2 s2 W1 :=
  ⟨hx, h.kept.then_ hk (fun k hk => Or.inl hk), kept_blk h.box h.far hk, h.far, Kd.R_kept h.tube hk (fun k hk => hk)⟩
end
theorem J2.mk4 {w3 w4 w5 : World} {v : Value} {t : List S27} {r : S27} (ho : Kd.R k27 27 w5 w4.heap.size (fun _ => True) v t) (hb4 : Below w3.heap.size w3 w4) (hb5 : Below w4.heap.size w4 w5) (hl : w4.heap[w3.heap.size]? = some (Lit r)) : J2 w3 w5 t r v w3.heap.size :=
  ⟨Kd.R_lower (Kd.R_mono (Kd.R_bound ho) (fun k hk e => by have := blk_lt hl; have := hk.2.1; omega)) hb4.size, blk_below hl hb5, below_step hb4 hb5⟩

def lastOk (before : S27) (t : List S27) (last : S27) : Prop := (t = [] → last = before) ∧ (t ≠ [] → rd_T27 t ((t.length : Int) - 1) = last)
theorem lastOk_snoc (before : S27) (t : List S27) (r : S27) : lastOk before (t ++ [r]) r := by
  refine ⟨fun h => by simp at h, fun _ => ?_⟩
  have e : (((t ++ [r]).length : Int) - 1).toNat = t.length := by simp
  unfold rd_T27
  rw [e]
  simp

def ExtPost (x : Bx) (B R cnt : Int) (before : S27) (wz : World) (W : World) (s2 : St) (e : Ending) (w' : World) : Prop := e = .returned (.tuple #[]) ∧ ∃ v', XS x B R cnt before wz v' s2 w' ∧ Kept W w' x.mut

section
variable {P : Program} {ops : Array Oper} {Q : Exit → Act → World → Prop} {a : Act} {W : World}
theorem gen_alloc {l : List Oper} {cs : Array Value} {t : TypeId} (h : ∀ w1 : World, w1.heap[W.heap.size]? = some (.cells cs t (0, 0)) → Below W.heap.size W w1 → wpList P ops Q l a w1) : wpList P ops Q l a (W.alloc (.cells cs t (0, 0))) :=
  h _ (blk_new W _) (below_alloc (Below.refl _ _) _)
end

set_option maxHeartbeats 8000000 in
set_option maxRecDepth 100000 in
theorem ext_zero (x : Bx) (hx : x.ord) (B R : Int) (hB : -100000 ≤ B ∧ B ≤ 100000) (hR : -100000 ≤ R ∧ R ≤ 100000) (cnt : Int) (before : S27) (wz : World) (t : List S27) (hv : validT t) (hcnt : (t.length : Int) = cnt) (A1 : Option Addr) (c1 baseT : Nat) (W : World) (s : St) (v : Value)
    (ht : Kd.R k27 27 W baseT (fun k => ¬ x.mut k) (.slice A1 t.length c1) t) (hs : XS x B R cnt before wz v s W) :
    Calls Try.prog 28 #[.slice A1 t.length c1, .pointer (some ⟨x.bc, 0, none⟩), .pointer (some ⟨x.bk, 0, none⟩), .pointer (some ⟨x.bf, 0, none⟩), .pointer (some ⟨x.bl, 0, none⟩), .pointer (some ⟨x.bb, 0, none⟩), .pointer (some ⟨x.bp, 0, none⟩), .pointer (some ⟨x.be, 0, none⟩)] W (ExtPost x B R cnt before wz W (upd B R t s)) := by
  obtain ⟨t1, t2, t3, t4⟩ := tot_both hv
  have hL := hv.1
  have hcnn := cst_nn B R t
  obtain ⟨F, hF⟩ : ∃ F : Ending → World → Prop, F = ExtPost x B R cnt before wz W (upd B R t s) := ⟨_, rfl⟩
  rw [← hF]
  have HF := Aside0.mk hF
  obtain ⟨sb, sl, sf⟩ := s
  have HT := Aside0.mk ht
  have HS := Aside0.mk hs
  have HL := Aside0.mk hL
  have HBa := Aside0.mk hs.made.size
  have HX := Aside0.mk hx
  have hcost := fun w' hr hgb hgr => cost_calls 100 A1 c1 t x.gB x.gR B R (tot t).1 (tot t).2 w' hr (Kd.R_reads' ht).2.1 hgb hgr t2 hB hR (by omega) (by omega)
  have HC := Aside0.mk hcost
  have hct : ((t.length : Int) == cnt) = true := by rw [hcnt]; simp
  have hcc : W.cell? ⟨x.bc, 0, none⟩ = some (.int .i64 cnt) := (blk_cell hs.bc 0).trans rfl
  have hck : W.cell? ⟨x.bk, 0, none⟩ = some (.func (.func 16) #[] #[.pointer (some ⟨x.gB, 0, none⟩), .pointer (some ⟨x.gR, 0, none⟩)]) := (blk_cell hs.bk 0).trans rfl
  have eg : ∀ args w, (callFunc 16 args).run Try.prog w = .ok (.enter 16 args) w := enters_of Try.func16 (by kernel_rfl) rfl
  have hn1 : x.bb ≠ x.bl := by unfold Bx.ord at hx; omega
  have hn2 : x.bb ≠ x.bf := by unfold Bx.ord at hx; omega
  have hn3 : x.bl ≠ x.bf := by unfold Bx.ord at hx; omega
  have hcs : iab (B - (tot t).1) + iab (R - (tot t).2) = cst B R t := rfl
  rw [hcs] at HC
  generalize hC : cst B R t = C at HC hcnn
  have HCC := Aside0.mk hC
  clear hF ht hs hL hx hcost t1 t2 t3 t4 hv hB hR hcs hC hcnn
  by_cases hup : sf = false ∨ C < sl
  · have HU : Aside0 (upd B R t (sb, sl, sf) = (t, C, true)) := ⟨by unfold upd; rw [HCC.out, if_pos hup]⟩
    cases sf with
    | false =>
      clear hup
      go_enter Try.func28, Try.ntmps28
      go_wp2_with (first
        | (go_at_fn 16; go_loud (refine (HC.out _ (Kd.R_reads' HT.out).2.2 HS.out.gB HS.out.gR).mono ?_; rintro e w2 ⟨rfl, hb2⟩; have HS2 := Aside0.mk (HS.out.below hb2); have HT2 := Aside0.mk (Kd.R_below HT.out hb2); have HK2 := Aside0.mk (Kept.of_below hb2 x.mut); clear hb2; have hf2 : w2.cell? ⟨x.bf, 0, none⟩ = some (.bool false) := (blk_cell HS2.out.bf 0).trans rfl; have hl2 : w2.cell? ⟨x.bl, 0, none⟩ = some (.int .i64 sl) := (blk_cell HS2.out.bl 0).trans rfl))
        | (go_at_call 29; go_loud (refine (Clone_calls A1 c1 t _ (Kd.R_reads' HT2.out).2.2 (Kd.R_reads' HT2.out).2.1 (by have := HL.out; omega)).mono ?_; rintro e w3 ⟨v36, rfl, ho, hb3⟩; obtain ⟨A36, c36, e36⟩ := Kd.R_slice ho; subst e36; have HO3 := Aside0.mk (Kd.R_lower (XS.fresh (g := w3.heap.size) HS2.out (Kd.R_mono (Kd.R_bound ho) (fun k hk => Nat.ne_of_lt hk.2.2.1))) (Nat.le_trans HBa.out HK2.out.1)); have HS3 := Aside0.mk (HS2.out.below hb3); have HK3 := Aside0.mk (HK2.out.below hb3); clear ho hb3; have hb3 : w3.cell? ⟨x.bb, 0, none⟩ = some v := (blk_cell HS3.out.bb 0).trans rfl; have hf3 : w3.cell? ⟨x.bf, 0, none⟩ = some (.bool false) := (blk_cell HS3.out.bf 0).trans rfl; have hl3 : w3.cell? ⟨x.bl, 0, none⟩ = some (.int .i64 sl) := (blk_cell HS3.out.bl 0).trans rfl; have hz1 := blk_frozen HS3.out.bb 0; have hz2 := blk_frozen HS3.out.bl 0; have hz3 := blk_frozen HS3.out.bf 0)))
      first | go_end0 | ((try simp only [Exit.inBlock, Exit.then]); refine bodyPost_ret (results_none rfl _ _ _) rfl ?_)
      rw [HF.out, HU.out]
      exact ⟨rfl, _, HS3.out.store HX.out HO3.out C, HK3.out.then_ (XS.kept3 _ _) (fun k hk => Or.inl hk)⟩
    | true =>
      have hup : C < sl := by rcases hup with h | h; cases h; exact h
      have hd : decide (C < sl) = true := decide_eq_true hup
      clear hup
      go_enter Try.func28, Try.ntmps28
      go_wp2_with (first
        | (go_at_fn 16; go_loud (refine (HC.out _ (Kd.R_reads' HT.out).2.2 HS.out.gB HS.out.gR).mono ?_; rintro e w2 ⟨rfl, hb2⟩; have HS2 := Aside0.mk (HS.out.below hb2); have HT2 := Aside0.mk (Kd.R_below HT.out hb2); have HK2 := Aside0.mk (Kept.of_below hb2 x.mut); clear hb2; have hf2 : w2.cell? ⟨x.bf, 0, none⟩ = some (.bool true) := (blk_cell HS2.out.bf 0).trans rfl; have hl2 : w2.cell? ⟨x.bl, 0, none⟩ = some (.int .i64 sl) := (blk_cell HS2.out.bl 0).trans rfl))
        | (go_at_call 29; go_loud (refine (Clone_calls A1 c1 t _ (Kd.R_reads' HT2.out).2.2 (Kd.R_reads' HT2.out).2.1 (by have := HL.out; omega)).mono ?_; rintro e w3 ⟨v36, rfl, ho, hb3⟩; obtain ⟨A36, c36, e36⟩ := Kd.R_slice ho; subst e36; have HO3 := Aside0.mk (Kd.R_lower (XS.fresh (g := w3.heap.size) HS2.out (Kd.R_mono (Kd.R_bound ho) (fun k hk => Nat.ne_of_lt hk.2.2.1))) (Nat.le_trans HBa.out HK2.out.1)); have HS3 := Aside0.mk (HS2.out.below hb3); have HK3 := Aside0.mk (HK2.out.below hb3); clear ho hb3; have hb3 : w3.cell? ⟨x.bb, 0, none⟩ = some v := (blk_cell HS3.out.bb 0).trans rfl; have hf3 : w3.cell? ⟨x.bf, 0, none⟩ = some (.bool true) := (blk_cell HS3.out.bf 0).trans rfl; have hl3 : w3.cell? ⟨x.bl, 0, none⟩ = some (.int .i64 sl) := (blk_cell HS3.out.bl 0).trans rfl; have hz1 := blk_frozen HS3.out.bb 0; have hz2 := blk_frozen HS3.out.bl 0; have hz3 := blk_frozen HS3.out.bf 0)))
      first | go_end0 | ((try simp only [Exit.inBlock, Exit.then]); refine bodyPost_ret (results_none rfl _ _ _) rfl ?_)
      rw [HF.out, HU.out]
      exact ⟨rfl, _, HS3.out.store HX.out HO3.out C, HK3.out.then_ (XS.kept3 _ _) (fun k hk => Or.inl hk)⟩
  · have HU : Aside0 (upd B R t (sb, sl, sf) = (sb, sl, sf)) := ⟨by unfold upd; rw [HCC.out, if_neg hup]⟩
    cases sf with
    | false => exact absurd (Or.inl rfl) hup
    | true =>
      have hd : decide (C < sl) = false := decide_eq_false (fun h => hup (Or.inr h))
      clear hup
      go_enter Try.func28, Try.ntmps28
      go_wp2_with (first
        | (go_at_fn 16; go_loud (refine (HC.out _ (Kd.R_reads' HT.out).2.2 HS.out.gB HS.out.gR).mono ?_; rintro e w2 ⟨rfl, hb2⟩; have HS2 := Aside0.mk (HS.out.below hb2); have HT2 := Aside0.mk (Kd.R_below HT.out hb2); have HK2 := Aside0.mk (Kept.of_below hb2 x.mut); clear hb2; have hf2 : w2.cell? ⟨x.bf, 0, none⟩ = some (.bool true) := (blk_cell HS2.out.bf 0).trans rfl; have hl2 : w2.cell? ⟨x.bl, 0, none⟩ = some (.int .i64 sl) := (blk_cell HS2.out.bl 0).trans rfl)))
      first | go_end0 | ((try simp only [Exit.inBlock, Exit.then]); refine bodyPost_ret (results_none rfl _ _ _) rfl ?_)
      rw [HF.out, HU.out]
      exact ⟨rfl, _, HS2.out, HK2.out⟩

set_option maxHeartbeats 16000000 in
set_option maxRecDepth 100000 in
theorem ext_nil (x : Bx) (hx : x.ord) (B R : Int) (n : Nat) (cnt : Int) (hcnt4 : 1 ≤ cnt ∧ cnt ≤ 4) (before : S27) (wz : World)
    (ih : ∀ (last : S27) (t : List S27) (A1 : Option Addr) (c1 baseT : Nat) (W : World) (s : St) (v : Value), ringB last.f0 last.f1 = true → validT t → (t.length : Int) + n = cnt → lastOk before t last →
      Kd.R k27 27 W baseT (fun k => ¬ x.mut k) (.slice A1 t.length c1) t → XS x B R cnt before wz v s W →
      Calls Try.prog 28 #[.slice A1 t.length c1, .pointer (some ⟨x.bc, 0, none⟩), .pointer (some ⟨x.bk, 0, none⟩), .pointer (some ⟨x.bf, 0, none⟩), .pointer (some ⟨x.bl, 0, none⟩), .pointer (some ⟨x.bb, 0, none⟩), .pointer (some ⟨x.bp, 0, none⟩), .pointer (some ⟨x.be, 0, none⟩)] W (ExtPost x B R cnt before wz W (ext B R n last t s)))
    (last : S27) (t : List S27) (hnil : t = []) (A1 : Option Addr) (c1 baseT : Nat) (w : World) (s0 : St) (v0 : Value) (hl : ringB last.f0 last.f1 = true) (hv : validT t) (hcnt : (t.length : Int) + (n + 1 : Nat) = cnt) (hla : lastOk before t last)
    (ht : Kd.R k27 27 w baseT (fun k => ¬ x.mut k) (.slice A1 t.length c1) t) (hs : XS x B R cnt before wz v0 s0 w) :
    Calls Try.prog 28 #[.slice A1 t.length c1, .pointer (some ⟨x.bc, 0, none⟩), .pointer (some ⟨x.bk, 0, none⟩), .pointer (some ⟨x.bf, 0, none⟩), .pointer (some ⟨x.bl, 0, none⟩), .pointer (some ⟨x.bb, 0, none⟩), .pointer (some ⟨x.bp, 0, none⟩), .pointer (some ⟨x.be, 0, none⟩)] w (ExtPost x B R cnt before wz w (ext B R (n + 1) last t s0)) := by
  have hu24 := Try.underlying24
  have hu27 := Try.underlying27
  obtain ⟨S, hS⟩ : ∃ S, S = ext B R (n + 1) last t s0 := ⟨_, rfl⟩
  rw [← hS]
  obtain ⟨F, hF⟩ : ∃ F : Ending → World → Prop, F = ExtPost x B R cnt before wz w S := ⟨_, rfl⟩
  rw [← hF]
  have HF := Aside0.mk hF
  rw [ext] at hS
  have hS0 : extL (fun r s => ext B R n r (t ++ [r]) s) last.f1 (rest 2 0) s0 = S := hS.symm
  have HS0 := Aside0.mk hS0
  have hct : ((t.length : Int) == cnt) = false := by rw [beq_eq_false_iff_ne]; omega
  have hL4 : t.length ≤ 3 := by omega
  have hcc : w.cell? ⟨x.bc, 0, none⟩ = some (.int .i64 cnt) := (blk_cell hs.bc 0).trans rfl
  have hlb : last = before := hla.1 hnil
  subst hlb
  have hlen : (t.length : Int) = 0 := by rw [hnil]; rfl
  have hgt : decide ((t.length : Int) > 0) = false := decide_eq_false (by omega)
  have hgt' : decide ((0 : Int) < (t.length : Int)) = false := decide_eq_false (by omega)
  have hp0 : w.cell? ⟨x.bp, 0, none⟩ = some (.int .i64 last.f0) := (blk_cell hs.bp 0).trans rfl
  have hp1 : w.cell? ⟨x.bp, 1, none⟩ = some (.int .i64 last.f1) := (blk_cell hs.bp 1).trans rfl
  obtain ⟨l0, l1⟩ := last
  simp only at hl hS0 HS0
  have HL := Aside0.mk hl
  have HL4 := Aside0.mk hL4
  have HCN := Aside0.mk hcnt
  have HV := Aside0.mk hv
  have HX := Aside0.mk hx
  have IH := Aside0.mk ih
  have HT := Aside0.mk ht
  have HXS := Aside0.mk hs
  clear hF hS hS0 hL4 hcnt hv ih ht hs hcnt4 hl hla hnil hx
  go_enter Try.func28, Try.ntmps28
  go_wp2
  clear hlen hgt hgt' hp0 hp1 hcc hct
  have hfar : ¬ x.mut w.heap.size := fun hm => by
    have h1 := blk_lt HXS.out.bb
    have h2 := blk_lt HXS.out.bl
    have h3 := blk_lt HXS.out.bf
    unfold Bx.mut at hm
    omega
  have HS1 : Aside0 (LS x B R cnt ⟨l0, l1⟩ wz baseT t A1 c1 w.heap.size l0 l1 w v0 s0 (w.alloc (.cells #[.int .i64 l0, .int .i64 l1] 27))) :=
    ⟨⟨HXS.out.below (below_alloc (Below.refl _ _) _), Kept.alloc (Kept.refl _ _) _, blk_new _ _, hfar, Kd.R_below HT.out (below_alloc (Below.refl _ _) _)⟩⟩
  obtain ⟨gl, hgl⟩ : ∃ gl, gl = w.heap.size := ⟨_, rfl⟩
  rw [← hgl] at HS1 ⊢
  clear hfar HT HXS
  go_loopg [12] 2 (fun gg v12 w' => ∃ (kd : Int) (m : Nat) (s : St) (v : Value), v12 = .int .i64 kd ∧ Aside0 (0 ≤ kd ∧ kd + m = 2 ∧ m ≤ gg) ∧ Aside0 (extL (fun r s => ext B R n r (t ++ [r]) s) l1 (rest m kd) s = S) ∧ Aside0 (LS x B R cnt ⟨l0, l1⟩ wz baseT t A1 c1 gl l0 l1 w v s w'))
  case atStart => exact ⟨0, 2, s0, v0, rfl, ⟨by omega, by omega, by omega⟩, HS0, HS1⟩
  case round =>
    clear HS1 HS0 hgl
    obtain ⟨kd, m, s, v, rfl, HI, HE, HS⟩ := hrel
    cases m with
    | zero =>
      have hk : decide (kd ≤ 1) = false := decide_eq_false (by have := HI.out; omega)
      have hE : s = S := HE.out
      go_wp2
      first | go_end0 | ((try simp only [Exit.inBlock, Exit.then]); refine bodyPost_ret (results_none rfl _ _ _) rfl ?_)
      rw [HF.out, ← hE]
      exact ⟨rfl, v, HS.out.xs, HS.out.kept⟩
    | succ m =>
      have hk : decide (kd ≤ 1) = true := decide_eq_true (by have := HI.out; omega)
      have hwk : wrap64 (kd + 1) = kd + 1 := nw64 (by have := HI.out; omega)
      have HE1 : Aside0 (extL (fun r s => ext B R n r (t ++ [r]) s) l1 (rowF 16 kd 0 ++ rest m (kd + 1)) s = S) := ⟨HE.out⟩
      clear HE
      go_wp2
      go_loopg [52] 16 (fun gg v52 w' => ∃ (ky : Int) (j : Nat) (s : St) (v : Value), v52 = .int .i64 ky ∧ Aside0 (0 ≤ ky ∧ ky + j = 16 ∧ j ≤ gg) ∧ Aside0 (extL (fun r s => ext B R n r (t ++ [r]) s) l1 (rowF j kd ky ++ rest m (kd + 1)) s = S) ∧ Aside0 (LS x B R cnt ⟨l0, l1⟩ wz baseT t A1 c1 gl l0 l1 w v s w'))
      case atStart => exact ⟨0, 16, s, v, rfl, ⟨by omega, by omega, by omega⟩, HE1, HS⟩
      case round =>
        clear HS HE1
        obtain ⟨ky, j, s, v, rfl, HJ, HE, HS⟩ := hrel
        cases j with
        | zero =>
          have hy : decide (ky < 16) = false := decide_eq_false (by have := HJ.out; omega)
          have HE2 : Aside0 (extL (fun r s => ext B R n r (t ++ [r]) s) l1 (rest m (kd + 1)) s = S) := ⟨HE.out⟩
          clear HE
          go_wp2
          go_roundg m
          case measure => have := HI.out; omega
          case rel => exact ⟨kd + 1, m, s, v, by first | rfl | rw [hwk], ⟨by have := HI.out; omega, by have := HI.out; omega, by omega⟩, HE2, HS⟩
        | succ j =>
          have hy : decide (ky < 16) = true := decide_eq_true (by have := HJ.out; omega)
          have hwy : wrap64 (ky + 1) = ky + 1 := nw64 (by have := HJ.out; omega)
          have hok : ringB kd ky = true := by
            have h1 := HI.out
            have h2 := HJ.out
            unfold ringB inR
            rw [decide_eq_true (show 0 ≤ kd by omega), decide_eq_true (show kd ≤ 1 by omega), decide_eq_true (show 0 ≤ ky by omega), decide_eq_true (show ky ≤ 15 by omega)]
            rfl
          have HOK := Aside0.mk hok
          obtain ⟨ml, hm1, hm2, hm3⟩ := ok_meet HL.out hok
          have HM := Aside0.mk hm1
          have hE2 := HE.out
          rw [rowF, List.cons_append, extL] at hE2
          simp only at hE2
          clear hok hm1 HE
          cases hq : okK l1 ky with
          | false =>
            rw [hq, if_neg (by decide)] at hE2
            rw [hq] at hm2
            have HE2 := Aside0.mk hE2
            have hm2' : ((ml.length : Int) == 0) = false := by
              rw [beq_eq_false_iff_ne]
              exact of_decide_eq_false hm2
            clear hE2 hq hm2
            go_wp2_with (first
              | ((with_reducible refine gate_dst (N := 58) rfl ?_); (with_reducible refine gen_alloc ?_); go_loud (intro w8 hbox hbw; have HX8 := Aside0.mk hbox; have HS8 := Aside0.mk (HS.out.below hbw); clear hbox hbw; have hz0 : w8.cell? ⟨gl, 0, none⟩ = some (.int .i64 l0) := (blk_cell HS8.out.box 0).trans rfl; have hz1 : w8.cell? ⟨gl, 1, none⟩ = some (.int .i64 l1) := (blk_cell HS8.out.box 1).trans rfl; have hz2 : w8.cell? ⟨wr.heap.size, 0, none⟩ = some (.int .i64 kd) := (blk_cell HX8.out 0).trans rfl; have hz3 : w8.cell? ⟨wr.heap.size, 1, none⟩ = some (.int .i64 ky) := (blk_cell HX8.out 1).trans rfl))
              | (go_at_call 30; go_loud (refine (impl_meeting.calls 100 l0 l1 kd ky ml _ HM.out).mono ?_; rintro e w9 ⟨v60, rfl, ho, hb9⟩; obtain ⟨A60, c60, e60⟩ := Kd.R_slice ho; subst e60; have HS9 := Aside0.mk (HS8.out.below hb9); clear ho hb9)))
            go_roundg j
            case measure => have := HJ.out; omega
            case rel => exact ⟨ky + 1, j, s, v, by first | rfl | rw [hwy], ⟨by have := HJ.out; omega, by have := HJ.out; omega, by omega⟩, HE2, HS9⟩
          | true =>
            rw [hq, if_pos rfl] at hE2
            rw [hq] at hm2
            obtain ⟨s2, hs2⟩ : ∃ s2, s2 = ext B R n ⟨kd, ky⟩ (t ++ [⟨kd, ky⟩]) s := ⟨_, rfl⟩
            rw [← hs2] at hE2
            have HS2 := Aside0.mk hs2
            have HE2 := Aside0.mk hE2
            have hm2' : ((ml.length : Int) == 0) = true := by
              rw [beq_iff_eq]
              exact of_decide_eq_true hm2
            clear hE2 hq hm2 hs2
            go_wp2_with (first
              | ((with_reducible refine gate_dst (N := 58) rfl ?_); (with_reducible refine gen_alloc ?_); go_loud (intro w8 hbox hbw; have HX8 := Aside0.mk hbox; have HS8 := Aside0.mk (HS.out.below hbw); clear hbox hbw; have hz0 : w8.cell? ⟨gl, 0, none⟩ = some (.int .i64 l0) := (blk_cell HS8.out.box 0).trans rfl; have hz1 : w8.cell? ⟨gl, 1, none⟩ = some (.int .i64 l1) := (blk_cell HS8.out.box 1).trans rfl; have hz2 : w8.cell? ⟨wr.heap.size, 0, none⟩ = some (.int .i64 kd) := (blk_cell HX8.out 0).trans rfl; have hz3 : w8.cell? ⟨wr.heap.size, 1, none⟩ = some (.int .i64 ky) := (blk_cell HX8.out 1).trans rfl))
              | (go_at_call 30; go_loud (refine (impl_meeting.calls 100 l0 l1 kd ky ml _ HM.out).mono ?_; rintro e w9 ⟨v60, rfl, ho, hb9⟩; obtain ⟨A60, c60, e60⟩ := Kd.R_slice ho; subst e60; have HS9 := Aside0.mk (HS8.out.below hb9); have HX9 := Aside0.mk (blk_below HX8.out hb9); clear ho hb9)))
            have hg2 : ¬ x.mut wr.heap.size := fun hm => by
              have h1 := blk_lt HS.out.xs.bb
              have h2 := blk_lt HS.out.xs.bl
              have h3 := blk_lt HS.out.xs.bf
              unfold Bx.mut at hm
              omega
            clear hz0 hz1 hz2 hz3 HX8 HS8 HS hm2' HM
            have HSx : Aside0 (∀ W, Below w9.heap.size w9 W → W.cell? ⟨x.be, 0, none⟩ = some (.func (.func 28) #[] x.caps) ∧ W.cell? ⟨wr.heap.size, 0, none⟩ = some (.int .i64 kd) ∧ W.cell? ⟨wr.heap.size, 1, none⟩ = some (.int .i64 ky)) := ⟨fun W hb => ⟨(blk_cell (blk_below HS9.out.xs.be hb) 0).trans rfl, (blk_cell (blk_below HX9.out hb) 0).trans rfl, (blk_cell (blk_below HX9.out hb) 1).trans rfl⟩⟩
            refine start_ (n := 7) (S := fun w' => w'.cell? ⟨x.be, 0, none⟩ = some (.func (.func 28) #[] x.caps) ∧ w'.cell? ⟨wr.heap.size, 0, none⟩ = some (.int .i64 kd) ∧ w'.cell? ⟨wr.heap.size, 1, none⟩ = some (.int .i64 ky)) (ds := []) #[false, false, false, false, false, false, false] (by kernel_rfl) rfl rfl (HSx.out _ (below_drew (Below.refl _ _))) (fun hHeld => ?_)
            refine with_tabW ext_tab ext_bits (fun HT_ HW_ => ?_)
            generalize hw3 : w9.drew = w3 at hHeld ⊢
            have HS3 : Aside0 (LS x B R cnt ⟨l0, l1⟩ wz baseT t A1 c1 gl l0 l1 w v s w3) := ⟨by rw [← hw3]; exact HS9.out.below (below_drew (Below.refl _ _))⟩
            replace HSx : Aside0 (∀ W, Below w3.heap.size w3 W → W.cell? ⟨x.be, 0, none⟩ = some (.func (.func 28) #[] x.caps) ∧ W.cell? ⟨wr.heap.size, 0, none⟩ = some (.int .i64 kd) ∧ W.cell? ⟨wr.heap.size, 1, none⟩ = some (.int .i64 ky)) := ⟨by rw [← hw3]; exact fun W hb => HSx.out W ((below_drew (Below.refl _ _)).trans hb)⟩
            have HX3 : Aside0 (w3.heap[wr.heap.size]? = some (.cells #[.int .i64 kd, .int .i64 ky] 27 (0, 0))) := ⟨by rw [← hw3]; exact blk_drew HX9.out⟩
            clear hw3 HS9 HX9
            refine take_ (i := 0) (N := some 63) (v := ?_) (a' := ?_) #[true, false, false, false, false, false, false] rfl rfl (take_ofW HT_.out HW_.out (by kernel_rfl)) (fun _ _ _ h => h) (Or.inl ⟨by rfl, ?_⟩) hHeld ?_ ?_
            rotate_left
            · rintro w' ⟨s0, s1, s2⟩
              go_simp
              with_reducible rfl
            rotate_left
            · simp only [Act.put, List.setIfInBounds_toArray, List.set_cons_zero, List.set_cons_succ, i64_w, i32_w]
              rfl
            refine take_ (i := 3) (N := some 66) (v := ?_) (a' := ?_) #[true, false, false, true, false, false, false] rfl rfl (take_ofW HT_.out HW_.out (by kernel_rfl)) (fun _ _ _ h => h) (Or.inl ⟨by rfl, ?_⟩) hHeld ?_ ?_
            rotate_left
            · rintro w' ⟨s0, s1, s2⟩
              go_simp
              with_reducible rfl
            rotate_left
            · simp only [Act.put, List.setIfInBounds_toArray, List.set_cons_zero, List.set_cons_succ, i64_w, i32_w]
              rfl
            refine pure_ (i := 1) (N := some 64) (v := ?_) (a' := ?_) #[true, true, false, true, false, false, false] rfl rfl (any_of HT_.out (by kernel_rfl)) (fun _ _ _ h => h) (Or.inl ⟨by rfl, ?_⟩) ?_ ?_
            rotate_left
            · intro w'
              go_simp
              with_reducible rfl
            rotate_left
            · simp only [Act.put, List.setIfInBounds_toArray, List.set_cons_zero, List.set_cons_succ, i64_w, i32_w]
              rfl
            refine join_ (ds := []) (σ := Value × Nat) 2 #[true, true, true, true, true, false, false] (fun s => [(65, s.1), (67, .slice (some ⟨s.2, 0, none⟩) 1 1)]) (fun s W => J2 w3 W t ⟨kd, ky⟩ s.1 s.2) ?jn (fun HJ => ?_)
            rotate_left
            refine two_ (ds := []) (i := 2) (j := 4) (Ni := some 65) (Nj := some 67) #[true, true, true, true, false, false, false] #[true, true, false, true, true, false, false] rfl rfl rfl rfl (two_of HT_.out (by kernel_rfl)) (by decide) (by decide) (fun K hK => ?b2) (fun K hK => ?b4)
            case b2 =>
              refine goes_ Try.func29 (by kernel_rfl) rfl #[.slice A1 t.length c1] (by rfl) rfl rfl (by (try simp only [List.map_toArray, List.map_cons, List.map_nil]); first | done | rfl | (simp only [List.length_drop, List.length_take]; rfl)) ?_
              refine (Clone_calls A1 c1 t _ (Kd.R_reads' HS3.out.tube).2.2 (Kd.R_reads' HS3.out.tube).2.1 (by have := HL4.out; omega)).mono ?_
              rintro e w4 ⟨v65, rfl, ho4, hb4⟩
              refine ⟨_, rfl, ?_⟩
              refine hK.out _ _ (HSx.out _ hb4) (fun hHeld => ?_)
              clear hK K
              refine one_ (i := 4) (N := some 67) #[true, true, true, true, true, false, false] rfl rfl (one_of HT_.out (by kernel_rfl)) (by decide) (fun K hK => ?_)
              refine value_ (v := .slice (some ⟨w4.heap.size, 0, none⟩) 1 1) (w1 := w4.alloc (.cells [.int .i64 kd, .int .i64 ky].toArray 27)) (by rfl) rfl (by go_simp; first | done | rfl | exact ⟨rfl, rfl⟩) ?_
              refine hK.out _ _ (HSx.out _ (hb4.alloc hb4.size _)) (fun hHeld => ?_)
              clear hK K
              exact HJ (v65, w4.heap.size) _ (J2.of7 (r := ⟨kd, ky⟩) ho4 hb4)
            case b4 =>
              refine value_ (v := .slice (some ⟨w3.heap.size, 0, none⟩) 1 1) (w1 := w3.alloc (.cells [.int .i64 kd, .int .i64 ky].toArray 27)) (by rfl) rfl (by go_simp; first | done | rfl | exact ⟨rfl, rfl⟩) ?_
              refine hK.out _ _ (HSx.out _ ((Below.refl w3.heap.size w3).alloc (Nat.le_refl _) _)) (fun hHeld => ?_)
              clear hK K
              refine one_ (i := 2) (N := some 65) #[true, true, true, true, true, false, false] rfl rfl (one_of HT_.out (by kernel_rfl)) (by decide) (fun K hK => ?_)
              have hb4 := (Below.refl w3.heap.size w3).alloc (Nat.le_refl _) (.cells [.int .i64 kd, .int .i64 ky].toArray 27)
              have hl4 := J2.lit7 w3 ⟨kd, ky⟩
              have HS4 := HS3.out.below hb4
              refine goes_ Try.func29 (by kernel_rfl) rfl #[.slice A1 t.length c1] (by rfl) rfl rfl (by (try simp only [List.map_toArray, List.map_cons, List.map_nil]); first | done | rfl | (simp only [List.length_drop, List.length_take]; rfl)) ?_
              refine (Clone_calls A1 c1 t _ (Kd.R_reads' HS4.tube).2.2 (Kd.R_reads' HS4.tube).2.1 (by have := HL4.out; omega)).mono ?_
              rintro e w5 ⟨v65, rfl, ho5, hb5⟩
              refine ⟨_, rfl, ?_⟩
              refine hK.out _ _ (HSx.out _ (below_step hb4 hb5)) (fun hHeld => ?_)
              clear hK K
              exact HJ (v65, w3.heap.size) _ (J2.mk4 (r := ⟨kd, ky⟩) ho5 hb4 hb5 hl4)
            case jn =>
              rintro ⟨v65, g⟩ w6 HJ6
              have HJ6 := Aside0.mk HJ6
              have hHeld := HSx.out _ HJ6.out.made
              refine norm_ (a' := ?_) ?_ ?_
              rotate_left
              · simp only [putAll, Act.put, List.setIfInBounds_toArray, List.set_cons_zero, List.set_cons_succ, i64_w, i32_w]
                rfl
              refine one_ (i := 5) (N := some 68) #[true, true, true, true, true, true, false] rfl rfl (one_of HT_.out (by kernel_rfl)) (by decide) (fun K hK => ?_)
              refine Kd.R_append_rows_step k27 (Rr := k27.K w6) (w0 := w3) w3.heap.size (by rfl) (.tmp 65) (.tmp 67) 24 27 (.agg #[(.int .i64 0), (.int .i64 0)]) 16 rfl hu24 info27 rfl (by decide) (by omega) v65 t [(⟨kd, ky⟩ : S27)] (some ⟨g, 0, none⟩) 1 1 (fun k => k ≠ g) (fun _ => False) rfl rfl ?aO ?aR ?aM (fun _ hk => hk.elim) ?aF ?aB ?aS ?aL ?_
              case aO => exact HJ6.out.own
              case aR => exact J2.reads HJ6.out
              case aM => exact fun x cs hx => k27_re _ _ _ x cs hx
              case aF => exact fun k hk => J2.fresh6 HJ6.out hk
              case aB => exact HJ6.out.made
              case aS => exact HJ6.out.made.size
              case aL => have := HL4.out; omega
              intro v68 w7 ho7 hb7 hg7 hat7
              have HO7 : Aside0 (Kd.R k27 27 w7 w3.heap.size (fun k => ¬ x.mut k) v68 (t ++ [⟨kd, ky⟩])) := ⟨XS.fresh HS3.out.xs ho7⟩
              have HS7 := Aside0.mk (HS3.out.below hb7)
              have hHeld7 := HSx.out _ hb7
              clear ho7 hg7 hat7
              refine hK.out _ _ hHeld7 (fun hHeld => ?_)
              clear hK K
              refine norm_ (a' := ?_) ?_ ?_
              rotate_left
              · show Act.put _ (some 68) _ = _
                simp only [Act.put, List.setIfInBounds_toArray, List.set_cons_zero, List.set_cons_succ, i64_w, i32_w]
                rfl
              have HVN : Aside0 (validT (t ++ [(⟨kd, ky⟩ : S27)])) := ⟨⟨by have := HL4.out; simp; omega, fun z hz => by
                rcases List.mem_append.1 hz with hz | hz
                · exact HV.out.2 z hz
                · obtain rfl : z = ⟨kd, ky⟩ := by simpa using hz
                  exact HOK.out⟩⟩
              have HLN : Aside0 (((t ++ [(⟨kd, ky⟩ : S27)]).length : Int) + n = cnt) := ⟨by have := HCN.out; simp; omega⟩
              have HLA : Aside0 (lastOk ⟨l0, l1⟩ (t ++ [(⟨kd, ky⟩ : S27)]) ⟨kd, ky⟩) := ⟨lastOk_snoc _ _ _⟩
              have HEX : Aside0 (ext B R n ⟨kd, ky⟩ (t ++ [⟨kd, ky⟩]) s = s2) := ⟨HS2.out.symm⟩
              generalize t ++ [(⟨kd, ky⟩ : S27)] = tx at HO7 HVN HLN HLA HEX
              obtain ⟨A68, c68, e68⟩ := Kd.R_slice HO7.out
              subst e68
              refine one_ (i := 6) (N := some 69) #[true, true, true, true, true, true, true] rfl rfl (one_of HT_.out (by kernel_rfl)) (by decide) (fun K hK => ?_)
              refine goesC_ (f := 28) (caps := x.caps) Try.func28 (by kernel_rfl) rfl #[.slice A68 tx.length c68, .pointer (some ⟨x.bc, 0, none⟩), .pointer (some ⟨x.bk, 0, none⟩), .pointer (some ⟨x.bf, 0, none⟩), .pointer (some ⟨x.bl, 0, none⟩), .pointer (some ⟨x.bb, 0, none⟩), .pointer (some ⟨x.bp, 0, none⟩), .pointer (some ⟨x.be, 0, none⟩)] (by rfl) rfl rfl rfl (by simp only [List.map_toArray, List.map_cons, List.map_nil, Bx.caps, List.append_toArray, List.cons_append, List.nil_append]; rfl) ?_
              refine (IH.out ⟨kd, ky⟩ tx A68 c68 w3.heap.size _ s v HOK.out HVN.out HLN.out HLA.out HO7.out HS7.out.xs).mono ?_
              rintro e w8 ⟨rfl, v2, hx8, hk8⟩
              rw [HEX.out] at hx8
              refine ⟨_, rfl, ?_⟩
              have HS8 := Aside0.mk (HS7.out.kept' hx8 hk8)
              refine hK.out _ _ ⟨(blk_cell HS8.out.xs.be 0).trans rfl, (blk_cell (kept_blk (blk_below HX3.out hb7) hg2 hk8) 0).trans rfl, (blk_cell (kept_blk (blk_below HX3.out hb7) hg2 hk8) 1).trans rfl⟩ (fun hHeld => ?_)
              clear hK K
              refine norm_ (a' := ?_) ?_ ?_
              rotate_left
              · show Act.put _ (some 69) _ = _
                simp only [Act.put, List.setIfInBounds_toArray, List.set_cons_zero, List.set_cons_succ, i64_w, i32_w]
                rfl
              refine done_ (done_of HT_.out (by kernel_rfl)) ?_
              clear hHeld HT_ HW_ HSx hHeld7 HS3 HX3 HJ6 HS7
              go_wp2
              go_roundg j
              case measure => have := HJ.out; omega
              case rel => exact ⟨ky + 1, j, s2, v2, by first | rfl | rw [hwy], ⟨by have := HJ.out; omega, by have := HJ.out; omega, by omega⟩, HE2, HS8⟩

set_option maxHeartbeats 16000000 in
set_option maxRecDepth 100000 in
theorem ext_cons (x : Bx) (hx : x.ord) (B R : Int) (n : Nat) (cnt : Int) (hcnt4 : 1 ≤ cnt ∧ cnt ≤ 4) (before : S27) (wz : World)
    (ih : ∀ (last : S27) (t : List S27) (A1 : Option Addr) (c1 baseT : Nat) (W : World) (s : St) (v : Value), ringB last.f0 last.f1 = true → validT t → (t.length : Int) + n = cnt → lastOk before t last →
      Kd.R k27 27 W baseT (fun k => ¬ x.mut k) (.slice A1 t.length c1) t → XS x B R cnt before wz v s W →
      Calls Try.prog 28 #[.slice A1 t.length c1, .pointer (some ⟨x.bc, 0, none⟩), .pointer (some ⟨x.bk, 0, none⟩), .pointer (some ⟨x.bf, 0, none⟩), .pointer (some ⟨x.bl, 0, none⟩), .pointer (some ⟨x.bb, 0, none⟩), .pointer (some ⟨x.bp, 0, none⟩), .pointer (some ⟨x.be, 0, none⟩)] W (ExtPost x B R cnt before wz W (ext B R n last t s)))
    (last : S27) (t : List S27) (hnil : t ≠ []) (A1 : Option Addr) (c1 baseT : Nat) (w : World) (s0 : St) (v0 : Value) (hl : ringB last.f0 last.f1 = true) (hv : validT t) (hcnt : (t.length : Int) + (n + 1 : Nat) = cnt) (hla : lastOk before t last)
    (ht : Kd.R k27 27 w baseT (fun k => ¬ x.mut k) (.slice A1 t.length c1) t) (hs : XS x B R cnt before wz v0 s0 w) :
    Calls Try.prog 28 #[.slice A1 t.length c1, .pointer (some ⟨x.bc, 0, none⟩), .pointer (some ⟨x.bk, 0, none⟩), .pointer (some ⟨x.bf, 0, none⟩), .pointer (some ⟨x.bl, 0, none⟩), .pointer (some ⟨x.bb, 0, none⟩), .pointer (some ⟨x.bp, 0, none⟩), .pointer (some ⟨x.be, 0, none⟩)] w (ExtPost x B R cnt before wz w (ext B R (n + 1) last t s0)) := by
  have hu24 := Try.underlying24
  have hu27 := Try.underlying27
  obtain ⟨S, hS⟩ : ∃ S, S = ext B R (n + 1) last t s0 := ⟨_, rfl⟩
  rw [← hS]
  obtain ⟨F, hF⟩ : ∃ F : Ending → World → Prop, F = ExtPost x B R cnt before wz w S := ⟨_, rfl⟩
  rw [← hF]
  have HF := Aside0.mk hF
  rw [ext] at hS
  have hS0 : extL (fun r s => ext B R n r (t ++ [r]) s) last.f1 (rest 2 0) s0 = S := hS.symm
  have HS0 := Aside0.mk hS0
  have hct : ((t.length : Int) == cnt) = false := by rw [beq_eq_false_iff_ne]; omega
  have hL4 : t.length ≤ 3 := by omega
  have hcc : w.cell? ⟨x.bc, 0, none⟩ = some (.int .i64 cnt) := (blk_cell hs.bc 0).trans rfl
  have hlen : 0 < t.length := List.length_pos_iff.2 hnil
  have hgt : decide ((t.length : Int) > 0) = true := decide_eq_true (by omega)
  have hgt' : decide ((0 : Int) < (t.length : Int)) = true := decide_eq_true (by omega)
  have hp0 : w.cell? ⟨x.bp, 0, none⟩ = some (.int .i64 before.f0) := (blk_cell hs.bp 0).trans rfl
  have hp1 : w.cell? ⟨x.bp, 1, none⟩ = some (.int .i64 before.f1) := (blk_cell hs.bp 1).trans rfl
  have hw1 : wrap64 ((t.length : Int) - 1) = (t.length : Int) - 1 := nw64 (by omega)
  have p1 : 0 ≤ (t.length : Int) - 1 := by omega
  have q1 : (t.length : Int) - 1 < (t.length : Int) := by omega
  obtain ⟨at_, eat, hy0, hy1⟩ := at_T27 (Kd.R_reads' ht).2.2 ((t.length : Int) - 1) p1 q1
  cases eat
  rw [hla.2 hnil] at hy0 hy1
  generalize hjj : ((t.length : Int) - 1).toNat = jj at hy0 hy1
  have hz0 : ∀ o, (w.alloc o).cell? (at_.add (jj * 2)) = some (.int .i64 last.f0) := fun o => ((below_alloc (Below.refl w.heap.size w) o).cell (World.block_lt_of_cell? w _ hy0)).trans hy0
  have hz1 : ∀ o, (w.alloc o).cell? ⟨(at_.add (jj * 2)).block, (at_.add (jj * 2)).off + 1, none⟩ = some (.int .i64 last.f1) := fun o => ((below_alloc (Below.refl w.heap.size w) o).cell (World.block_lt_of_cell? w _ hy1)).trans hy1
  clear hy0 hy1
  replace p1 := eq_true p1
  replace q1 := eq_true q1
  obtain ⟨l0, l1⟩ := last
  simp only at hl hS0 HS0
  simp only at hz0 hz1
  have HL := Aside0.mk hl
  have HL4 := Aside0.mk hL4
  have HCN := Aside0.mk hcnt
  have HV := Aside0.mk hv
  have HX := Aside0.mk hx
  have IH := Aside0.mk ih
  have HT := Aside0.mk ht
  have HXS := Aside0.mk hs
  clear hF hS hS0 hL4 hcnt hv ih ht hs hcnt4 hl hla hnil hx
  go_enter Try.func28, Try.ntmps28
  go_wp2
  clear hlen hgt hgt' hp0 hp1 hcc hct hw1 p1 q1 hz0 hz1 hjj
  have hfar : ¬ x.mut w.heap.size := fun hm => by
    have h1 := blk_lt HXS.out.bb
    have h2 := blk_lt HXS.out.bl
    have h3 := blk_lt HXS.out.bf
    unfold Bx.mut at hm
    omega
  have HS1 : Aside0 (LS x B R cnt before wz baseT t (some at_) c1 w.heap.size l0 l1 w v0 s0 (w.alloc (.cells #[.int .i64 l0, .int .i64 l1] 27))) :=
    ⟨⟨HXS.out.below (below_alloc (Below.refl _ _) _), Kept.alloc (Kept.refl _ _) _, blk_new _ _, hfar, Kd.R_below HT.out (below_alloc (Below.refl _ _) _)⟩⟩
  obtain ⟨gl, hgl⟩ : ∃ gl, gl = w.heap.size := ⟨_, rfl⟩
  rw [← hgl] at HS1 ⊢
  clear hfar HT HXS
  go_loopg [12] 2 (fun gg v12 w' => ∃ (kd : Int) (m : Nat) (s : St) (v : Value), v12 = .int .i64 kd ∧ Aside0 (0 ≤ kd ∧ kd + m = 2 ∧ m ≤ gg) ∧ Aside0 (extL (fun r s => ext B R n r (t ++ [r]) s) l1 (rest m kd) s = S) ∧ Aside0 (LS x B R cnt before wz baseT t (some at_) c1 gl l0 l1 w v s w'))
  case atStart => exact ⟨0, 2, s0, v0, rfl, ⟨by omega, by omega, by omega⟩, HS0, HS1⟩
  case round =>
    clear HS1 HS0 hgl
    obtain ⟨kd, m, s, v, rfl, HI, HE, HS⟩ := hrel
    cases m with
    | zero =>
      have hk : decide (kd ≤ 1) = false := decide_eq_false (by have := HI.out; omega)
      have hE : s = S := HE.out
      go_wp2
      first | go_end0 | ((try simp only [Exit.inBlock, Exit.then]); refine bodyPost_ret (results_none rfl _ _ _) rfl ?_)
      rw [HF.out, ← hE]
      exact ⟨rfl, v, HS.out.xs, HS.out.kept⟩
    | succ m =>
      have hk : decide (kd ≤ 1) = true := decide_eq_true (by have := HI.out; omega)
      have hwk : wrap64 (kd + 1) = kd + 1 := nw64 (by have := HI.out; omega)
      have HE1 : Aside0 (extL (fun r s => ext B R n r (t ++ [r]) s) l1 (rowF 16 kd 0 ++ rest m (kd + 1)) s = S) := ⟨HE.out⟩
      clear HE
      go_wp2
      go_loopg [52] 16 (fun gg v52 w' => ∃ (ky : Int) (j : Nat) (s : St) (v : Value), v52 = .int .i64 ky ∧ Aside0 (0 ≤ ky ∧ ky + j = 16 ∧ j ≤ gg) ∧ Aside0 (extL (fun r s => ext B R n r (t ++ [r]) s) l1 (rowF j kd ky ++ rest m (kd + 1)) s = S) ∧ Aside0 (LS x B R cnt before wz baseT t (some at_) c1 gl l0 l1 w v s w'))
      case atStart => exact ⟨0, 16, s, v, rfl, ⟨by omega, by omega, by omega⟩, HE1, HS⟩
      case round =>
        clear HS HE1
        obtain ⟨ky, j, s, v, rfl, HJ, HE, HS⟩ := hrel
        cases j with
        | zero =>
          have hy : decide (ky < 16) = false := decide_eq_false (by have := HJ.out; omega)
          have HE2 : Aside0 (extL (fun r s => ext B R n r (t ++ [r]) s) l1 (rest m (kd + 1)) s = S) := ⟨HE.out⟩
          clear HE
          go_wp2
          go_roundg m
          case measure => have := HI.out; omega
          case rel => exact ⟨kd + 1, m, s, v, by first | rfl | rw [hwk], ⟨by have := HI.out; omega, by have := HI.out; omega, by omega⟩, HE2, HS⟩
        | succ j =>
          have hy : decide (ky < 16) = true := decide_eq_true (by have := HJ.out; omega)
          have hwy : wrap64 (ky + 1) = ky + 1 := nw64 (by have := HJ.out; omega)
          have hok : ringB kd ky = true := by
            have h1 := HI.out
            have h2 := HJ.out
            unfold ringB inR
            rw [decide_eq_true (show 0 ≤ kd by omega), decide_eq_true (show kd ≤ 1 by omega), decide_eq_true (show 0 ≤ ky by omega), decide_eq_true (show ky ≤ 15 by omega)]
            rfl
          have HOK := Aside0.mk hok
          obtain ⟨ml, hm1, hm2, hm3⟩ := ok_meet HL.out hok
          have HM := Aside0.mk hm1
          have hE2 := HE.out
          rw [rowF, List.cons_append, extL] at hE2
          simp only at hE2
          clear hok hm1 HE
          cases hq : okK l1 ky with
          | false =>
            rw [hq, if_neg (by decide)] at hE2
            rw [hq] at hm2
            have HE2 := Aside0.mk hE2
            have hm2' : ((ml.length : Int) == 0) = false := by
              rw [beq_eq_false_iff_ne]
              exact of_decide_eq_false hm2
            clear hE2 hq hm2
            go_wp2_with (first
              | ((with_reducible refine gate_dst (N := 58) rfl ?_); (with_reducible refine gen_alloc ?_); go_loud (intro w8 hbox hbw; have HX8 := Aside0.mk hbox; have HS8 := Aside0.mk (HS.out.below hbw); clear hbox hbw; have hz0 : w8.cell? ⟨gl, 0, none⟩ = some (.int .i64 l0) := (blk_cell HS8.out.box 0).trans rfl; have hz1 : w8.cell? ⟨gl, 1, none⟩ = some (.int .i64 l1) := (blk_cell HS8.out.box 1).trans rfl; have hz2 : w8.cell? ⟨wr.heap.size, 0, none⟩ = some (.int .i64 kd) := (blk_cell HX8.out 0).trans rfl; have hz3 : w8.cell? ⟨wr.heap.size, 1, none⟩ = some (.int .i64 ky) := (blk_cell HX8.out 1).trans rfl))
              | (go_at_call 30; go_loud (refine (impl_meeting.calls 100 l0 l1 kd ky ml _ HM.out).mono ?_; rintro e w9 ⟨v60, rfl, ho, hb9⟩; obtain ⟨A60, c60, e60⟩ := Kd.R_slice ho; subst e60; have HS9 := Aside0.mk (HS8.out.below hb9); clear ho hb9)))
            go_roundg j
            case measure => have := HJ.out; omega
            case rel => exact ⟨ky + 1, j, s, v, by first | rfl | rw [hwy], ⟨by have := HJ.out; omega, by have := HJ.out; omega, by omega⟩, HE2, HS9⟩
          | true =>
            rw [hq, if_pos rfl] at hE2
            rw [hq] at hm2
            obtain ⟨s2, hs2⟩ : ∃ s2, s2 = ext B R n ⟨kd, ky⟩ (t ++ [⟨kd, ky⟩]) s := ⟨_, rfl⟩
            rw [← hs2] at hE2
            have HS2 := Aside0.mk hs2
            have HE2 := Aside0.mk hE2
            have hm2' : ((ml.length : Int) == 0) = true := by
              rw [beq_iff_eq]
              exact of_decide_eq_true hm2
            clear hE2 hq hm2 hs2
            go_wp2_with (first
              | ((with_reducible refine gate_dst (N := 58) rfl ?_); (with_reducible refine gen_alloc ?_); go_loud (intro w8 hbox hbw; have HX8 := Aside0.mk hbox; have HS8 := Aside0.mk (HS.out.below hbw); clear hbox hbw; have hz0 : w8.cell? ⟨gl, 0, none⟩ = some (.int .i64 l0) := (blk_cell HS8.out.box 0).trans rfl; have hz1 : w8.cell? ⟨gl, 1, none⟩ = some (.int .i64 l1) := (blk_cell HS8.out.box 1).trans rfl; have hz2 : w8.cell? ⟨wr.heap.size, 0, none⟩ = some (.int .i64 kd) := (blk_cell HX8.out 0).trans rfl; have hz3 : w8.cell? ⟨wr.heap.size, 1, none⟩ = some (.int .i64 ky) := (blk_cell HX8.out 1).trans rfl))
              | (go_at_call 30; go_loud (refine (impl_meeting.calls 100 l0 l1 kd ky ml _ HM.out).mono ?_; rintro e w9 ⟨v60, rfl, ho, hb9⟩; obtain ⟨A60, c60, e60⟩ := Kd.R_slice ho; subst e60; have HS9 := Aside0.mk (HS8.out.below hb9); have HX9 := Aside0.mk (blk_below HX8.out hb9); clear ho hb9)))
            have hg2 : ¬ x.mut wr.heap.size := fun hm => by
              have h1 := blk_lt HS.out.xs.bb
              have h2 := blk_lt HS.out.xs.bl
              have h3 := blk_lt HS.out.xs.bf
              unfold Bx.mut at hm
              omega
            clear hz0 hz1 hz2 hz3 HX8 HS8 HS hm2' HM
            have HSx : Aside0 (∀ W, Below w9.heap.size w9 W → W.cell? ⟨x.be, 0, none⟩ = some (.func (.func 28) #[] x.caps) ∧ W.cell? ⟨wr.heap.size, 0, none⟩ = some (.int .i64 kd) ∧ W.cell? ⟨wr.heap.size, 1, none⟩ = some (.int .i64 ky)) := ⟨fun W hb => ⟨(blk_cell (blk_below HS9.out.xs.be hb) 0).trans rfl, (blk_cell (blk_below HX9.out hb) 0).trans rfl, (blk_cell (blk_below HX9.out hb) 1).trans rfl⟩⟩
            refine start_ (n := 7) (S := fun w' => w'.cell? ⟨x.be, 0, none⟩ = some (.func (.func 28) #[] x.caps) ∧ w'.cell? ⟨wr.heap.size, 0, none⟩ = some (.int .i64 kd) ∧ w'.cell? ⟨wr.heap.size, 1, none⟩ = some (.int .i64 ky)) (ds := []) #[false, false, false, false, false, false, false] (by kernel_rfl) rfl rfl (HSx.out _ (below_drew (Below.refl _ _))) (fun hHeld => ?_)
            refine with_tabW ext_tab ext_bits (fun HT_ HW_ => ?_)
            generalize hw3 : w9.drew = w3 at hHeld ⊢
            have HS3 : Aside0 (LS x B R cnt before wz baseT t (some at_) c1 gl l0 l1 w v s w3) := ⟨by rw [← hw3]; exact HS9.out.below (below_drew (Below.refl _ _))⟩
            replace HSx : Aside0 (∀ W, Below w3.heap.size w3 W → W.cell? ⟨x.be, 0, none⟩ = some (.func (.func 28) #[] x.caps) ∧ W.cell? ⟨wr.heap.size, 0, none⟩ = some (.int .i64 kd) ∧ W.cell? ⟨wr.heap.size, 1, none⟩ = some (.int .i64 ky)) := ⟨by rw [← hw3]; exact fun W hb => HSx.out W ((below_drew (Below.refl _ _)).trans hb)⟩
            have HX3 : Aside0 (w3.heap[wr.heap.size]? = some (.cells #[.int .i64 kd, .int .i64 ky] 27 (0, 0))) := ⟨by rw [← hw3]; exact blk_drew HX9.out⟩
            clear hw3 HS9 HX9
            refine take_ (i := 0) (N := some 63) (v := ?_) (a' := ?_) #[true, false, false, false, false, false, false] rfl rfl (take_ofW HT_.out HW_.out (by kernel_rfl)) (fun _ _ _ h => h) (Or.inl ⟨by rfl, ?_⟩) hHeld ?_ ?_
            rotate_left
            · rintro w' ⟨s0, s1, s2⟩
              go_simp
              with_reducible rfl
            rotate_left
            · simp only [Act.put, List.setIfInBounds_toArray, List.set_cons_zero, List.set_cons_succ, i64_w, i32_w]
              rfl
            refine take_ (i := 3) (N := some 66) (v := ?_) (a' := ?_) #[true, false, false, true, false, false, false] rfl rfl (take_ofW HT_.out HW_.out (by kernel_rfl)) (fun _ _ _ h => h) (Or.inl ⟨by rfl, ?_⟩) hHeld ?_ ?_
            rotate_left
            · rintro w' ⟨s0, s1, s2⟩
              go_simp
              with_reducible rfl
            rotate_left
            · simp only [Act.put, List.setIfInBounds_toArray, List.set_cons_zero, List.set_cons_succ, i64_w, i32_w]
              rfl
            refine pure_ (i := 1) (N := some 64) (v := ?_) (a' := ?_) #[true, true, false, true, false, false, false] rfl rfl (any_of HT_.out (by kernel_rfl)) (fun _ _ _ h => h) (Or.inl ⟨by rfl, ?_⟩) ?_ ?_
            rotate_left
            · intro w'
              go_simp
              with_reducible rfl
            rotate_left
            · simp only [Act.put, List.setIfInBounds_toArray, List.set_cons_zero, List.set_cons_succ, i64_w, i32_w]
              rfl
            refine join_ (ds := []) (σ := Value × Nat) 2 #[true, true, true, true, true, false, false] (fun s => [(65, s.1), (67, .slice (some ⟨s.2, 0, none⟩) 1 1)]) (fun s W => J2 w3 W t ⟨kd, ky⟩ s.1 s.2) ?jn (fun HJ => ?_)
            rotate_left
            refine two_ (ds := []) (i := 2) (j := 4) (Ni := some 65) (Nj := some 67) #[true, true, true, true, false, false, false] #[true, true, false, true, true, false, false] rfl rfl rfl rfl (two_of HT_.out (by kernel_rfl)) (by decide) (by decide) (fun K hK => ?b2) (fun K hK => ?b4)
            case b2 =>
              refine goes_ Try.func29 (by kernel_rfl) rfl #[.slice (some at_) t.length c1] (by rfl) rfl rfl (by (try simp only [List.map_toArray, List.map_cons, List.map_nil]); first | done | rfl | (simp only [List.length_drop, List.length_take]; rfl)) ?_
              refine (Clone_calls (some at_) c1 t _ (Kd.R_reads' HS3.out.tube).2.2 (Kd.R_reads' HS3.out.tube).2.1 (by have := HL4.out; omega)).mono ?_
              rintro e w4 ⟨v65, rfl, ho4, hb4⟩
              refine ⟨_, rfl, ?_⟩
              refine hK.out _ _ (HSx.out _ hb4) (fun hHeld => ?_)
              clear hK K
              refine one_ (i := 4) (N := some 67) #[true, true, true, true, true, false, false] rfl rfl (one_of HT_.out (by kernel_rfl)) (by decide) (fun K hK => ?_)
              refine value_ (v := .slice (some ⟨w4.heap.size, 0, none⟩) 1 1) (w1 := w4.alloc (.cells [.int .i64 kd, .int .i64 ky].toArray 27)) (by rfl) rfl (by go_simp; first | done | rfl | exact ⟨rfl, rfl⟩) ?_
              refine hK.out _ _ (HSx.out _ (hb4.alloc hb4.size _)) (fun hHeld => ?_)
              clear hK K
              exact HJ (v65, w4.heap.size) _ (J2.of7 (r := ⟨kd, ky⟩) ho4 hb4)
            case b4 =>
              refine value_ (v := .slice (some ⟨w3.heap.size, 0, none⟩) 1 1) (w1 := w3.alloc (.cells [.int .i64 kd, .int .i64 ky].toArray 27)) (by rfl) rfl (by go_simp; first | done | rfl | exact ⟨rfl, rfl⟩) ?_
              refine hK.out _ _ (HSx.out _ ((Below.refl w3.heap.size w3).alloc (Nat.le_refl _) _)) (fun hHeld => ?_)
              clear hK K
              refine one_ (i := 2) (N := some 65) #[true, true, true, true, true, false, false] rfl rfl (one_of HT_.out (by kernel_rfl)) (by decide) (fun K hK => ?_)
              have hb4 := (Below.refl w3.heap.size w3).alloc (Nat.le_refl _) (.cells [.int .i64 kd, .int .i64 ky].toArray 27)
              have hl4 := J2.lit7 w3 ⟨kd, ky⟩
              have HS4 := HS3.out.below hb4
              refine goes_ Try.func29 (by kernel_rfl) rfl #[.slice (some at_) t.length c1] (by rfl) rfl rfl (by (try simp only [List.map_toArray, List.map_cons, List.map_nil]); first | done | rfl | (simp only [List.length_drop, List.length_take]; rfl)) ?_
              refine (Clone_calls (some at_) c1 t _ (Kd.R_reads' HS4.tube).2.2 (Kd.R_reads' HS4.tube).2.1 (by have := HL4.out; omega)).mono ?_
              rintro e w5 ⟨v65, rfl, ho5, hb5⟩
              refine ⟨_, rfl, ?_⟩
              refine hK.out _ _ (HSx.out _ (below_step hb4 hb5)) (fun hHeld => ?_)
              clear hK K
              exact HJ (v65, w3.heap.size) _ (J2.mk4 (r := ⟨kd, ky⟩) ho5 hb4 hb5 hl4)
            case jn =>
              rintro ⟨v65, g⟩ w6 HJ6
              have HJ6 := Aside0.mk HJ6
              have hHeld := HSx.out _ HJ6.out.made
              refine norm_ (a' := ?_) ?_ ?_
              rotate_left
              · simp only [putAll, Act.put, List.setIfInBounds_toArray, List.set_cons_zero, List.set_cons_succ, i64_w, i32_w]
                rfl
              refine one_ (i := 5) (N := some 68) #[true, true, true, true, true, true, false] rfl rfl (one_of HT_.out (by kernel_rfl)) (by decide) (fun K hK => ?_)
              refine Kd.R_append_rows_step k27 (Rr := k27.K w6) (w0 := w3) w3.heap.size (by rfl) (.tmp 65) (.tmp 67) 24 27 (.agg #[(.int .i64 0), (.int .i64 0)]) 16 rfl hu24 info27 rfl (by decide) (by omega) v65 t [(⟨kd, ky⟩ : S27)] (some ⟨g, 0, none⟩) 1 1 (fun k => k ≠ g) (fun _ => False) rfl rfl ?aO ?aR ?aM (fun _ hk => hk.elim) ?aF ?aB ?aS ?aL ?_
              case aO => exact HJ6.out.own
              case aR => exact J2.reads HJ6.out
              case aM => exact fun x cs hx => k27_re _ _ _ x cs hx
              case aF => exact fun k hk => J2.fresh6 HJ6.out hk
              case aB => exact HJ6.out.made
              case aS => exact HJ6.out.made.size
              case aL => have := HL4.out; omega
              intro v68 w7 ho7 hb7 hg7 hat7
              have HO7 : Aside0 (Kd.R k27 27 w7 w3.heap.size (fun k => ¬ x.mut k) v68 (t ++ [⟨kd, ky⟩])) := ⟨XS.fresh HS3.out.xs ho7⟩
              have HS7 := Aside0.mk (HS3.out.below hb7)
              have hHeld7 := HSx.out _ hb7
              clear ho7 hg7 hat7
              refine hK.out _ _ hHeld7 (fun hHeld => ?_)
              clear hK K
              refine norm_ (a' := ?_) ?_ ?_
              rotate_left
              · show Act.put _ (some 68) _ = _
                simp only [Act.put, List.setIfInBounds_toArray, List.set_cons_zero, List.set_cons_succ, i64_w, i32_w]
                rfl
              have HVN : Aside0 (validT (t ++ [(⟨kd, ky⟩ : S27)])) := ⟨⟨by have := HL4.out; simp; omega, fun z hz => by
                rcases List.mem_append.1 hz with hz | hz
                · exact HV.out.2 z hz
                · obtain rfl : z = ⟨kd, ky⟩ := by simpa using hz
                  exact HOK.out⟩⟩
              have HLN : Aside0 (((t ++ [(⟨kd, ky⟩ : S27)]).length : Int) + n = cnt) := ⟨by have := HCN.out; simp; omega⟩
              have HLA : Aside0 (lastOk before (t ++ [(⟨kd, ky⟩ : S27)]) ⟨kd, ky⟩) := ⟨lastOk_snoc _ _ _⟩
              have HEX : Aside0 (ext B R n ⟨kd, ky⟩ (t ++ [⟨kd, ky⟩]) s = s2) := ⟨HS2.out.symm⟩
              generalize t ++ [(⟨kd, ky⟩ : S27)] = tx at HO7 HVN HLN HLA HEX
              obtain ⟨A68, c68, e68⟩ := Kd.R_slice HO7.out
              subst e68
              refine one_ (i := 6) (N := some 69) #[true, true, true, true, true, true, true] rfl rfl (one_of HT_.out (by kernel_rfl)) (by decide) (fun K hK => ?_)
              refine goesC_ (f := 28) (caps := x.caps) Try.func28 (by kernel_rfl) rfl #[.slice A68 tx.length c68, .pointer (some ⟨x.bc, 0, none⟩), .pointer (some ⟨x.bk, 0, none⟩), .pointer (some ⟨x.bf, 0, none⟩), .pointer (some ⟨x.bl, 0, none⟩), .pointer (some ⟨x.bb, 0, none⟩), .pointer (some ⟨x.bp, 0, none⟩), .pointer (some ⟨x.be, 0, none⟩)] (by rfl) rfl rfl rfl (by simp only [List.map_toArray, List.map_cons, List.map_nil, Bx.caps, List.append_toArray, List.cons_append, List.nil_append]; rfl) ?_
              refine (IH.out ⟨kd, ky⟩ tx A68 c68 w3.heap.size _ s v HOK.out HVN.out HLN.out HLA.out HO7.out HS7.out.xs).mono ?_
              rintro e w8 ⟨rfl, v2, hx8, hk8⟩
              rw [HEX.out] at hx8
              refine ⟨_, rfl, ?_⟩
              have HS8 := Aside0.mk (HS7.out.kept' hx8 hk8)
              refine hK.out _ _ ⟨(blk_cell HS8.out.xs.be 0).trans rfl, (blk_cell (kept_blk (blk_below HX3.out hb7) hg2 hk8) 0).trans rfl, (blk_cell (kept_blk (blk_below HX3.out hb7) hg2 hk8) 1).trans rfl⟩ (fun hHeld => ?_)
              clear hK K
              refine norm_ (a' := ?_) ?_ ?_
              rotate_left
              · show Act.put _ (some 69) _ = _
                simp only [Act.put, List.setIfInBounds_toArray, List.set_cons_zero, List.set_cons_succ, i64_w, i32_w]
                rfl
              refine done_ (done_of HT_.out (by kernel_rfl)) ?_
              clear hHeld HT_ HW_ HSx hHeld7 HS3 HX3 HJ6 HS7
              go_wp2
              go_roundg j
              case measure => have := HJ.out; omega
              case rel => exact ⟨ky + 1, j, s2, v2, by first | rfl | rw [hwy], ⟨by have := HJ.out; omega, by have := HJ.out; omega, by omega⟩, HE2, HS8⟩

theorem ext_calls (x : Bx) (hx : x.ord) (B R : Int) (hB : -100000 ≤ B ∧ B ≤ 100000) (hR : -100000 ≤ R ∧ R ≤ 100000) (cnt : Int) (hcnt4 : 1 ≤ cnt ∧ cnt ≤ 4) (before : S27) (wz : World) : ∀ (n : Nat) (last : S27) (t : List S27) (A1 : Option Addr) (c1 baseT : Nat) (W : World) (s : St) (v : Value), ringB last.f0 last.f1 = true → validT t → (t.length : Int) + n = cnt → lastOk before t last →
      Kd.R k27 27 W baseT (fun k => ¬ x.mut k) (.slice A1 t.length c1) t → XS x B R cnt before wz v s W →
      Calls Try.prog 28 #[.slice A1 t.length c1, .pointer (some ⟨x.bc, 0, none⟩), .pointer (some ⟨x.bk, 0, none⟩), .pointer (some ⟨x.bf, 0, none⟩), .pointer (some ⟨x.bl, 0, none⟩), .pointer (some ⟨x.bb, 0, none⟩), .pointer (some ⟨x.bp, 0, none⟩), .pointer (some ⟨x.be, 0, none⟩)] W (ExtPost x B R cnt before wz W (ext B R n last t s))
  | 0, last, t, A1, c1, baseT, W, s, v, hl, hv, hn, hla, ht, hs => ext_zero x hx B R hB hR cnt before wz t hv (by simpa using hn) A1 c1 baseT W s v ht hs
  | n + 1, last, t, A1, c1, baseT, W, s, v, hl, hv, hn, hla, ht, hs => by
    by_cases h : t = []
    · exact ext_nil x hx B R n cnt hcnt4 before wz (ext_calls x hx B R hB hR cnt hcnt4 before wz n) last t h A1 c1 baseT W s v hl hv hn hla ht hs
    · exact ext_cons x hx B R n cnt hcnt4 before wz (ext_calls x hx B R hB hR cnt hcnt4 before wz n) last t h A1 c1 baseT W s v hl hv hn hla ht hs

end Go.Proofs.Ytjbgmoinaalkgaa.Q
