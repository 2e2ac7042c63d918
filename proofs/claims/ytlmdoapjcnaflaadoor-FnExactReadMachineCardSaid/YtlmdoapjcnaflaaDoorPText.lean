/- Plain lemmas by hand: texts put together, in the program and in the reference. -/
import Derived.Test.YtlmdoapjcnaflaaDoorQ0
import Derived.Test.YtlmdoapjcnaflaaDoorQ6
import Derived.Test.YtlmdoapjcnaflaaDoorPDec
namespace Go.Proofs.YtlmdoapjcnaflaaDoor.Pure
open Go.RowKit Go.Proofs.YtlmdoapjcnaflaaDoor.Q Go.Proofs.YtlmdoapjcnaflaaDoorW.PrintWords Go.Proofs.YtlmdoapjcnaflaaDoorW.PrintLast
set_option linter.unusedVariables false
set_option linter.unusedSimpArgs false

theorem dec_len (u : Nat) (h : u ≤ 9223372036854775808) : (Lib.decDigits u).length ≤ 21 := by
  rw [dec_digs]
  have := digs_len 19 (u / 10) (by omega)
  simp; omega
theorem itoa_len (n : Int) (h0 : -9223372036854775808 ≤ n) (h1 : n ≤ 9223372036854775807) : (Lib.itoa n).length ≤ 22 := by
  unfold Lib.itoa
  by_cases h : n < 0
  · rw [if_pos h]; have := dec_len n.natAbs (by omega); simp; omega
  · rw [if_neg h]; have := dec_len n.toNat (by omega); omega
theorem itoaS_bs (n : Int) : itoaS n = bs (Lib.itoa n) := rfl
theorem tail_cons (sep x : List UInt8) (r : List (List UInt8)) : Lib.joinTail sep (x :: r) = sep ++ x ++ Lib.joinTail sep r := by simp [Lib.joinTail]
theorem tail_nil (sep : List UInt8) : Lib.joinTail sep [] = [] := rfl
theorem tail_len (sep : List UInt8) (B : Nat) : ∀ (r : List (List UInt8)), (∀ x ∈ r, x.length ≤ B) → (Lib.joinTail sep r).length ≤ (B + sep.length) * r.length
  | [], _ => by simp [tail_nil]
  | x :: r, h => by
    have h1 := tail_len sep B r (fun y hy => h y (by simp [hy]))
    have h2 := h x (by simp)
    rw [tail_cons, List.length_append, List.length_append, List.length_cons, Nat.mul_add, Nat.mul_one]
    omega
theorem join_len (sep : List UInt8) (B : Nat) (l : List (List UInt8)) (h : ∀ x ∈ l, x.length ≤ B) : (Lib.join l sep).length ≤ (B + sep.length) * l.length := by
  cases l with
  | nil => simp [Lib.join_nil]
  | cons x r =>
    have h1 := tail_len sep B r (fun y hy => h y (by simp [hy]))
    have h2 := h x (by simp)
    rw [Lib.join_cons, List.length_append, List.length_cons, Nat.mul_add, Nat.mul_one]
    omega
theorem joinS_bs (l : List (List UInt8)) (sep : List UInt8) : joinS (l.map bs) (bs sep) = bs (Lib.join l sep) := by
  unfold joinS
  rw [List.map_map]
  have e : (List.map ((fun x : ByteArray => x.data.toList) ∘ bs) l) = l := by
    induction l with
    | nil => rfl
    | cons x r ih => rw [List.map_cons, ih]; rfl
  rw [e, bs_data]
  rfl
theorem join_eq (l : List (List UInt8)) (sep : List UInt8) (h0 : l.length ≤ 100) (h1 : ∀ x ∈ l, x.length ≤ 30) (h2 : sep.length ≤ 1) : strings_Join.f (l.map bs) (bs sep) = some (bs (Lib.join l sep)) := by
  have hl := join_len sep 30 l h1
  have hm : (30 + sep.length) * l.length ≤ 31 * 100 := Nat.mul_le_mul (by omega) h0
  have hj : (Lib.join ((l.map bs).map (·.data.toList)) (bs sep).data.toList) = Lib.join l sep := by
    have := joinS_bs l sep
    unfold joinS at this
    have h3 := congrArg (fun x : ByteArray => x.data.toList) this
    simpa [bs] using h3
  unfold strings_Join.f
  rw [if_pos (by simp; omega), hj, if_pos (by omega), joinS_bs]
def Num (n : Int) : Prop := -9223372036854775808 ≤ n ∧ n ≤ 9223372036854775807
theorem decimals_at (sep : List UInt8) (hs : sep.length ≤ 1) (post : List Int) : ∀ (pre : List Int) (acc : List (List UInt8)) (k : Nat), (∀ n ∈ post, Num n) → (∀ x ∈ acc, x.length ≤ 30) → acc.length ≤ pre.length → pre.length + post.length ≤ 100 → post.length < k →
    impl_decimals.l0 k (bs sep) (acc.map bs) (pre ++ post) ((pre ++ post).length : Int) pre.length = some (bs (Lib.join (acc ++ post.map Lib.itoa) sep)) := by
  induction post with
  | nil =>
    intro pre acc k hn ha hl hp hk
    obtain ⟨k, rfl⟩ : ∃ m, k = m + 1 := ⟨k - 1, by omega⟩
    rw [impl_decimals.l0, if_neg (by simp), join_eq acc sep (by simp at hp; omega) ha hs]
    simp
  | cons p post ih =>
    intro pre acc k hn ha hl hp hk
    simp only [List.length_cons] at hp hk
    obtain ⟨k, rfl⟩ : ∃ m, k = m + 1 := ⟨k - 1, by omega⟩
    have hlt : (pre.length : Int) < ((pre ++ p :: post).length : Int) := by simp; omega
    have h0' : (0 : Int) ≤ (pre.length : Int) := by omega
    have er : rd (pre ++ p :: post) (pre.length : Int) = p := by simp [rd]
    have e2 : wrap64 ((pre.length : Int) + 1) = ((pre ++ [p]).length : Int) := by rw [w64 (by omega)]; simp
    have e3 : pre ++ p :: post = (pre ++ [p]) ++ post := by simp
    have hp1 := hn p (by simp)
    have e4 : (acc.map bs) ++ [itoaS p] = (acc ++ [Lib.itoa p]).map bs := by simp [itoaS_bs]
    rw [impl_decimals.l0, if_pos hlt, if_pos h0', if_pos hlt, er, idec_eq p hp1.1 hp1.2, Option.bind_some, if_pos (by simp; omega), e2, e3, e4]
    rw [ih (pre ++ [p]) (acc ++ [Lib.itoa p]) k (fun n h => hn n (by simp [h])) (fun x hx => by
      rcases List.mem_append.1 hx with hx | hx
      · exact ha x hx
      · rw [List.mem_singleton.1 hx]; have := itoa_len p hp1.1 hp1.2; omega) (by simp; omega) (by simp; omega) (by omega)]
    simp
theorem decimals_eq (sep : List UInt8) (hs : sep.length ≤ 1) (l : List Int) (k : Nat) (hn : ∀ n ∈ l, Num n) (hl : l.length ≤ 100) (hk : l.length < k) : impl_decimals.f k l (bs sep) = some (bs (Lib.join (l.map Lib.itoa) sep)) := by
  unfold impl_decimals.f
  exact decimals_at sep hs l [] [] k hn (by simp) (by simp) (by simpa using hl) hk

end Go.Proofs.YtlmdoapjcnaflaaDoor.Pure
