/- Contracts by hand for impl.readIn and the library's strings.Split, out of the shelf's: the number that a text is in decimal; a text cut at another one. -/
import Derived.Test.YtlmdoapjcnaflaaDoorQ0
import Derived.Test.YtlmdoapjcnaflaaDoorQ3
import Derived.Test.YtlmdoapjcnaflaaDoorGTextT
import Derived.Test.YtlmdoapjcnaflaaDoorGLayR
import Derived.Lib.AtoiErrMem
import Derived.WalkSmall
import Derived.WideShapes
import Derived.Lib.SplitLaws
import Derived.Lib.ParseIntBTie
namespace Go.Proofs.YtlmdoapjcnaflaaDoor.Q
open Go.RowKit Go.Sort Go.Shelf Go.Proofs.YtlmdoapjcnaflaaDoorW.PrintWords Go.Proofs.YtlmdoapjcnaflaaDoorW.PrintLast Go.Proofs.YtlmdoapjcnaflaaDoorW.PrintMore
set_option linter.unusedVariables false
set_option linter.unusedSimpArgs false

theorem bytes_toList (s : ByteArray) : s.toList = s.data.toList := by
  obtain ⟨⟨l⟩⟩ := s
  simp
theorem bytes_eq {a b : ByteArray} (h : a.toList = b.toList) : a = b := by
  rw [bytes_toList, bytes_toList] at h
  exact Go.WideShapes.bytes_inj h

/-- The library's two errors of a number's text are interface values. -/
def LibE (w : World) : Prop := (∃ tp p, w.var? Tryd.prog "strconv.ErrSyntax" = some #[.iface tp p]) ∧ (∃ tp p, w.var? Tryd.prog "strconv.ErrRange" = some #[.iface tp p])
theorem var_keeps {w w' : World} {n : String} {cs : Array Value} (h : w.var? Tryd.prog n = some cs) (hb : Below w.heap.size w w') : w'.var? Tryd.prog n = some cs := by
  unfold World.var? at *
  cases hg : Tryd.prog.globalNamed n with
  | none => simp [hg] at h
  | some g =>
    simp only [hg, Option.bind_some] at h ⊢
    have hlt : g < w.heap.size := by
      rcases Nat.lt_or_ge g w.heap.size with h' | h'
      · exact h'
      · rw [Array.getElem?_eq_none h'] at h; simp at h
    rw [hb.block g hlt]
    exact h
theorem LibE.below {w w' : World} (h : LibE w) (hb : Below w.heap.size w w') : LibE w' := by
  obtain ⟨⟨t1, p1, h1⟩, t2, p2, h2⟩ := h
  exact ⟨⟨t1, p1, var_keeps h1 hb⟩, t2, p2, var_keeps h2 hb⟩

theorem parse_ok (s : ByteArray) (v : Int) (w : World) (hs : s.size ≤ 281474976710656) (h : Lib.parseIntB 64 s.data.toList = .ok v) :
    Calls Tryd.prog 87 #[.string s, .int .i64 10, .int .i64 64] w fun e w' => e = .returned (.tuple #[.int .i64 v, .nilIface]) ∧ Below w.heap.size w w' :=
  (Go.Proofs.Any.strconv_ParseInt_10_at64_ok Tryd.laysC174 s (by omega) v h w).mono fun e w' ⟨he, hw⟩ => ⟨he, by
    rcases hw with hw | ⟨t, hw⟩
    · rw [hw]; exact Below.refl _ _
    · rw [hw]; exact Lib.bytesWorld_below _ _ _⟩
theorem parse_bad (s : ByteArray) (w : World) (hs : s.size ≤ 281474976710656) (h : ∀ v, Lib.parseIntB 64 s.data.toList ≠ .ok v) (hE : LibE w) :
    Calls Tryd.prog 87 #[.string s, .int .i64 10, .int .i64 64] w fun e w' => ∃ (n : Int) (t : TypeId) (p : Value), e = .returned (.tuple #[.int .i64 n, .iface t p]) ∧ Below w.heap.size w w' := by
  obtain ⟨⟨t1, p1, h1⟩, t2, p2, h2⟩ := hE
  cases hp : Lib.parseIntB 64 s.data.toList with
  | ok v => exact absurd hp (h v)
  | range => exact (Go.Proofs.Any.strconv_ParseInt_10_at64_range_var Tryd.laysC174 s hs hp t2 p2 w h2).mono fun e w' ⟨N, he, _, _, hb⟩ => ⟨_, _, _, he, hb⟩
  | _ => exact (Go.Proofs.Any.strconv_ParseInt_10_at64_syntax_var Tryd.laysC174 s hs hp t1 p1 w h1).mono fun e w' ⟨N, he, _, _, hb⟩ => ⟨_, _, _, he, hb⟩

def readV (s : ByteArray) (lo hi : Int) : Int × Bool :=
  match Lib.parseIntB 64 s.data.toList with
  | .ok v => if itoaS v = s then (if lo ≤ v ∧ v ≤ hi then (v, true) else (0, false)) else (0, false)
  | _ => (0, false)
def impl_readIn.f (a0 : ByteArray) (a1 a2 : Int) : Option (Int × Bool) := if a0.size ≤ 281474976710656 then some (readV a0 a1 a2) else none

def strings_Split.f (a0 a1 : ByteArray) : Option (List ByteArray) := if a0.size < 4294967281 then (if 1 ≤ a1.size then some (Lib.splitB a1 0 (Lib.countB a0 a1) a0) else none) else none
/-- The library's variable MaxLen holds some number. -/
def LibS (w : World) : Prop := ∃ m, w.cell? ⟨Tryd.laysM146_ren.g 1, 0, none⟩ = some (.int .i64 m)
theorem LibS.below {w w' : World} (h : LibS w) (hb : Below w.heap.size w w') : LibS w' := by
  obtain ⟨m, hm⟩ := h
  exact ⟨m, (hb.cell (World.block_lt_of_cell? w _ hm)).trans hm⟩
theorem countB_split (s sep : ByteArray) (h : 1 ≤ sep.size) : (Lib.splitB sep 0 (Lib.countB s sep) s).length = Lib.countB s sep + 1 := by
  exact Lib.splitB_all sep h 0 _ s rfl
theorem strings_Split.calls (a0 a1 : ByteArray) (r : List ByteArray) (w : World) (hLS : LibS w) (h : strings_Split.f a0 a1 = some r) :
    Calls Tryd.prog 61 #[.string a0, .string a1] w fun e w' => ∃ v0_ : Value, e = .returned v0_ ∧ Kd.R Kd.string 9 w' w.heap.size (fun _ => True) v0_ r ∧ Below w.heap.size w w' := by
  unfold strings_Split.f at h
  by_cases h0 : a0.size < 4294967281
  · rw [if_pos h0] at h
    by_cases h1 : 1 ≤ a1.size
    · rw [if_pos h1] at h
      obtain rfl := Option.some.inj h
      obtain ⟨m, hm⟩ := hLS
      refine (Go.Proofs.Any.strings_Split { Tryd.laysM146 with } Tryd.laysM146.i9 a0 a1 m w h0 hm h1).mono fun e w' ⟨he, hw⟩ => ⟨_, he, ?_, ?_⟩
      · have hlen := countB_split a0 a1 h1
        rw [hw]
        refine Kd.R_of_own (enc := Value.string) ?_ (fun _ _ => trivial)
        have h3 := World.ownsRow_lit (base := w.heap.size) (e := 9) (size := 1) w ((Lib.splitB a1 0 (Lib.countB a0 a1) a0).map Value.string).toArray (Lib.countB a0 a1 + 1) (Nat.le_refl _) (by have := Lib.countB_le a1 h1 a0.size a0 (Nat.le_refl _); unfold maxLen; omega) (by simp [hlen])
        rw [hlen]
        have h4 : (w.alloc (.cells ((Lib.splitB a1 0 (Lib.countB a0 a1) a0).map Value.string).toArray 9)).ownsRow w.heap.size 9 1 (.slice (some ⟨w.heap.size, 0, none⟩) (Lib.countB a0 a1 + 1) (Lib.countB a0 a1 + 1)) (Lib.countB a0 a1 + 1) ((Lib.splitB a1 0 (Lib.countB a0 a1) a0).map Value.string) := by simpa using h3
        exact h4
      · rw [hw]
        exact below_alloc (Below.refl _ _) _
    · rw [if_neg h1] at h
      cases h
  · rw [if_neg h0] at h
    cases h

theorem impl_readIn.calls (a0 : ByteArray) (a1 a2 : Int) (r1 : Int) (r2 : Bool) (w : World) (hLE : LibE w) (hLT : LibT w) (h : impl_readIn.f a0 a1 a2 = some (r1, r2)) :
    Calls Tryd.prog 57 #[.string a0, .int .i64 a1, .int .i64 a2] w fun e w' => e = .returned (.tuple #[.int .i64 r1, .bool r2]) ∧ Below w.heap.size w w' := by
  unfold impl_readIn.f at h
  by_cases h0 : a0.size ≤ 281474976710656
  · rw [if_pos h0] at h
    have hv : readV a0 a1 a2 = (r1, r2) := Option.some.inj h
    clear h
    have HE := Aside0.mk hLE
    have HT := Aside0.mk hLT
    have H0 := Aside0.mk h0
    clear hLE hLT h0
    cases hp : Lib.parseIntB 64 a0.data.toList with
    | ok v =>
      have hb := Lib.parseIntB_bounds hp
      have HP := Aside0.mk hp
      unfold readV at hv
      rw [hp] at hv
      simp only at hv
      have HK := Aside0.mk (parse_ok a0 v · H0.out hp)
      have hb1 : -9223372036854775808 ≤ v := hb.1
      have hb2 : v ≤ 9223372036854775807 := by have := hb.2; omega
      have HD := Aside0.mk (show impl_Decimal.f v = some (itoaS v) by unfold impl_Decimal.f; rw [if_pos hb1, if_pos hb2])
      clear hp hb hb1 hb2
      generalize itoaS v = ds at HD hv
      by_cases c1 : ds = a0
      · rw [if_pos c1] at hv
        subst c1
        have HW := Aside0.mk (show impl_within.f v a1 a2 = some r2 by
          unfold impl_within.f
          by_cases d1 : a1 ≤ v <;> by_cases d2 : v ≤ a2 <;> simp [d1, d2] at hv ⊢ <;> exact hv.2)
        have hr : r1 = if r2 = true then v else 0 := by
          by_cases d : a1 ≤ v ∧ v ≤ a2
          · rw [if_pos d] at hv; cases hv; rfl
          · rw [if_neg d] at hv; cases hv; rfl
        clear hv
        have hq : (ds.toList == ds.toList) = true := beq_self_eq_true _
        cases r2 with
        | true =>
          subst hr
          go_enter Tryd.func57, Tryd.ntmps57
          go_wp2_with (first
            | (go_at_call 87; refine (HK.out _).mono ?_; rintro e w1 ⟨rfl, hb1⟩; have HB1 := Aside0.mk hb1; clear hb1)
            | (go_at_call 12; refine (impl_Decimal.calls r1 ds _ (HT.out.below HB1.out) HD.out).mono ?_; rintro e w2 ⟨rfl, hb2⟩; have HB2 := Aside0.mk hb2; clear hb2)
            | (go_at_call 75; refine (impl_within.calls r1 a1 a2 true _ HW.out).mono ?_; rintro e w3 ⟨rfl, ⟨nd, rfl⟩⟩))
          go_ret2
          exact ⟨rfl, by repeat (first | exact Below.refl _ _ | apply pw_below_drewN | exact HB1.out.trans (HB2.out.mono HB1.out.size))⟩
        | false =>
          have hr0 : r1 = 0 := hr
          clear hr
          subst hr0
          go_enter Tryd.func57, Tryd.ntmps57
          go_wp2_with (first
            | (go_at_call 87; refine (HK.out _).mono ?_; rintro e w1 ⟨rfl, hb1⟩; have HB1 := Aside0.mk hb1; clear hb1)
            | (go_at_call 12; refine (impl_Decimal.calls v ds _ (HT.out.below HB1.out) HD.out).mono ?_; rintro e w2 ⟨rfl, hb2⟩; have HB2 := Aside0.mk hb2; clear hb2)
            | (go_at_call 75; refine (impl_within.calls v a1 a2 false _ HW.out).mono ?_; rintro e w3 ⟨rfl, ⟨nd, rfl⟩⟩))
          go_ret2
          exact ⟨rfl, by repeat (first | exact Below.refl _ _ | apply pw_below_drewN | exact HB1.out.trans (HB2.out.mono HB1.out.size))⟩
      · rw [if_neg c1] at hv
        have hq : (ds.toList == a0.toList) = false := beq_eq_false_iff_ne.mpr (fun e => c1 (bytes_eq e))
        cases hv
        go_enter Tryd.func57, Tryd.ntmps57
        go_wp2_with (first
          | (go_at_call 87; refine (HK.out _).mono ?_; rintro e w1 ⟨rfl, hb1⟩; have HB1 := Aside0.mk hb1; clear hb1)
          | (go_at_call 12; refine (impl_Decimal.calls v ds _ (HT.out.below HB1.out) HD.out).mono ?_; rintro e w2 ⟨rfl, hb2⟩; have HB2 := Aside0.mk hb2; clear hb2))
        go_ret2
        exact ⟨rfl, by repeat (first | exact Below.refl _ _ | apply pw_below_drewN | exact HB1.out.trans (HB2.out.mono HB1.out.size))⟩
    | _ =>
      have HB := Aside0.mk (parse_bad a0 w H0.out (by rw [hp]; intro v hh; cases hh) HE.out)
      have : (r1, r2) = (0, false) := by rw [← hv]; unfold readV; rw [hp]
      cases this
      clear hv hp
      go_enter Tryd.func57, Tryd.ntmps57
      go_wp2_with (go_at_call 87; refine (HB.out).mono ?_; rintro e w' ⟨n, t, p, rfl, hb⟩)
      go_ret2
      exact ⟨rfl, hb⟩
  · rw [if_neg h0] at h
    cases h

end Go.Proofs.YtlmdoapjcnaflaaDoor.Q
