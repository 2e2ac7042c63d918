/- Contracts by hand for impl.Decimal and the library's strings.Join, out of the shelf's: a number's decimal digits; texts put together. -/
import Derived.Test.YtlmdoapjcnaflaaDoorQ0
import Derived.Test.YtlmdoapjcnaflaaDoorGLayW
import Derived.Lib.AppendIntMem
namespace Go.Proofs.YtlmdoapjcnaflaaDoor.Q
open Go.RowKit Go.Sort Go.Shelf Go.Proofs.YtlmdoapjcnaflaaDoorW.PrintWords Go.Proofs.YtlmdoapjcnaflaaDoorW.PrintLast Go.Proofs.YtlmdoapjcnaflaaDoorW.PrintMore
set_option linter.unusedVariables false
set_option linter.unusedSimpArgs false

/-- The library's table of the powers of ten reads as it does. -/
def LibT (w : World) : Prop := Lib.TabIs Tryd.prog w "internal/strconv.uint64pow10" .u64 Lib.pow10Tab
theorem LibT.below {w w' : World} (h : LibT w) (hb : Below w.heap.size w w') : LibT w' := Lib.tabBelow_of_tabIs h w' hb

def itoaS (n : Int) : ByteArray := ⟨(Lib.itoa n).toArray⟩
def impl_Decimal.f (a0 : Int) : Option (ByteArray) := if -9223372036854775808 ≤ a0 then (if a0 ≤ 9223372036854775807 then some (itoaS a0) else none) else none

theorem fmt_calls (n : Int) (w : World) (h0 : -9223372036854775808 ≤ n) (h1 : n ≤ 9223372036854775807) (hT : LibT w) :
    Calls Tryd.prog 39 #[.int .i64 n, .int .i64 10] w fun e w' => e = .returned (.string (itoaS n)) ∧ Below w.heap.size w w' :=
  (Go.Proofs.Any.strconv_FormatInt_10 Tryd.laysM173 n h0 h1 w hT).mono fun e w' ⟨he, k, os, hw⟩ => ⟨he, by rw [hw]; exact Lib.below_grow _ _ (Nat.le_refl _) k os⟩

theorem impl_Decimal.calls (a0 : Int) (r : ByteArray) (w : World) (hLT : LibT w) (h : impl_Decimal.f a0 = some r) :
    Calls Tryd.prog 12 #[.int .i64 a0] w fun e w' => e = .returned (.string r) ∧ Below w.heap.size w w' := by
  unfold impl_Decimal.f at h
  by_cases h0 : -9223372036854775808 ≤ a0
  · rw [if_pos h0] at h
    by_cases h1 : a0 ≤ 9223372036854775807
    · rw [if_pos h1] at h
      obtain rfl := Option.some.inj h
      clear h
      have HT := Aside0.mk hLT
      clear hLT
      have H0 := Aside0.mk h0
      have H1 := Aside0.mk h1
      clear h0 h1
      go_enter Tryd.func12, Tryd.ntmps12
      go_wp2_with (go_at_call 39; refine (fmt_calls a0 _ H0.out H1.out HT.out).mono ?_; rintro e w' ⟨rfl, hb⟩)
      go_ret
      exact ⟨rfl, hb⟩
    · rw [if_neg h1] at h
      cases h
  · rw [if_neg h0] at h
    cases h

def joinS (l : List ByteArray) (sep : ByteArray) : ByteArray := ⟨(Lib.join (l.map (·.data.toList)) sep.data.toList).toArray⟩
def strings_Join.f (l0 : List ByteArray) (a1 : ByteArray) : Option (ByteArray) := if l0.length ≤ 140737488355328 then (if (Lib.join (l0.map (·.data.toList)) a1.data.toList).length ≤ 140737488355328 then some (joinS l0 a1) else none) else none
theorem strings_Join.calls (A0 : Option Addr) (c0 : Nat) (l0 : List ByteArray) (a1 : ByteArray) (r : ByteArray) (w : World) (hr0 : Kd.C Kd.string w A0 l0.length l0) (hc0 : l0.length ≤ c0) (h : strings_Join.f l0 a1 = some r) :
    Calls Tryd.prog 54 #[.slice A0 l0.length c0, .string a1] w fun e w' => e = .returned (.string r) ∧ Below w.heap.size w w' := by
  unfold strings_Join.f at h
  by_cases h0 : l0.length ≤ 140737488355328
  · rw [if_pos h0] at h
    by_cases h1 : (Lib.join (l0.map (·.data.toList)) a1.data.toList).length ≤ 140737488355328
    · rw [if_pos h1] at h
      obtain rfl := Option.some.inj h
      rcases Nat.eq_zero_or_pos l0.length with hz | hp
      · have hl : l0 = [] := List.eq_nil_of_length_eq_zero hz
        subst hl
        exact (Go.Proofs.Any.strings_Join_none Tryd.lays156 Tryd.Builder_Extra_156 A0 c0 a1 w).mono fun e w' ⟨he, hw⟩ => ⟨he, hw ▸ Below.refl _ _⟩
      · obtain ⟨⟨b, o, sp⟩, rfl, hcell⟩ := hr0.2.2 hp
        have h00 : ∀ (j : Nat) x, l0[j]? = some x → w.cell? ((⟨b, o, sp⟩ : Addr).add j) = some (.string x) := by
          intro j x hx
          obtain ⟨c, hl, hK, hc⟩ := hcell j x hx
          have hK' : c = [Value.string x] := hK
          subst hK'
          have h2 := hc 0 _ rfl
          have e : j * Kd.string.sz + 0 = j := by show j * 1 + 0 = j; omega
          rwa [e] at h2
        have hsp : sp = none := by
          have h2 := h00 0 l0[0] (List.getElem?_eq_getElem hp)
          cases sp with
          | none => rfl
          | some z =>
            simp only [Addr.add, if_true, World.cell?, Option.isSome_some] at h2
            split at h2 <;> cases h2
        subst hsp
        have hone : ∀ (j : Nat) x, l0[j]? = some x → w.cell? (⟨b, o + j, none⟩ : Addr) = some (.string x) := by
          intro j x hx
          have h2 := h00 j x hx
          by_cases hj : j = 0
          · subst hj; simpa [Addr.add] using h2
          · simpa [Addr.add, hj] using h2
        have hbk : b < w.heap.size := World.block_lt_of_cell? w _ (hone 0 l0[0] (List.getElem?_eq_getElem hp))
        exact Go.Proofs.Any.strings_Join Tryd.lays156 Tryd.Builder_Extra_156 b o c0 l0 a1 w hone hbk h0 hc0 h1
    · rw [if_neg h1] at h
      cases h
  · rw [if_neg h0] at h
    cases h

end Go.Proofs.YtlmdoapjcnaflaaDoor.Q
