/- Maps of the call's own, whatever their elements: what a block of entries answers at each key, and how a store and a new block turn it. -/
import Derived.Test.YtpccannjeppmbaaQ0
import Derived.Maps.OwnOps
import Derived.Maps.Views
namespace Go.Proofs.Ytpccannjeppmbaa.Q
open Go.RowKit Go.Maps Go.Proofs.YtpccannjeppmbaaW.PrintWords Go.Proofs.YtpccannjeppmbaaW.PrintLast Go.Proofs.YtpccannjeppmbaaW.PrintMore
set_option linter.unusedVariables false
set_option linter.unusedSimpArgs false

/-- An element is told as itself. -/
def Rv (v : Value) : Option (DataW Value × List MemPlace) := some (.held v, [])
def toD : Option Value → DataW Value
  | none => .nil
  | some v => .held v
theorem toD_nil {o : Option Value} (h : toD o = .nil) : o = none := by cases o with
  | none => rfl
  | some v => simp [toD] at h
theorem toD_held {o : Option Value} {v : Value} (h : toD o = .held v) : o = some v := by cases o with
  | none => simp [toD] at h
  | some x => simp only [toD, DataW.held.injEq] at h; rw [h]

section
variable {α : Type} {P : Program} {k : TypeId} {enc : α → Value} {w : World} {b n : Nat} {G : α → Option Value}

/-- Block b of w is a map of at most n entries that has at each key the element that G tells. -/
def MapG (P : Program) (k : TypeId) (enc : α → Value) (w : World) (b n : Nat) (G : α → Option Value) : Prop :=
  ∃ D, w.ownsMap P k Rv b n D ∧ ∀ a kl, keyOf P k (enc a) = some kl → D.atKey kl .nil = toD (G a)

theorem MapG.made (w : World) (P : Program) (k : TypeId) (enc : α → Value) : MapG P k enc (w.alloc (.map #[] 0)) w.heap.size 0 (fun _ => none) :=
  ⟨_, World.ownsMap_made w P k Rv, fun a kl h => rfl⟩

theorem MapG.lt (h : MapG P k enc w b n G) : b < w.heap.size := by
  obtain ⟨D, h, _⟩ := h
  exact h.lt

theorem MapG.obj (h : MapG P k enc w b n G) : ∃ es clock, w.heap[b]? = some (.map es clock) := by
  obtain ⟨D, ⟨es, clock, h, _⟩, _⟩ := h
  exact ⟨es, clock, h⟩

theorem MapG.of_block (h : MapG P k enc w b n G) {w' : World} (hb : w'.heap[b]? = w.heap[b]?) : MapG P k enc w' b n G := by
  obtain ⟨D, ⟨es, clock, h1, h2⟩, h3⟩ := h
  exact ⟨D, ⟨es, clock, hb.trans h1, h2⟩, h3⟩

theorem MapG.kept (h : MapG P k enc w b n G) {w' : World} {S : Nat → Prop} (hk : Kept w w' S) (hn : ¬ S b) : MapG P k enc w' b n G := h.of_block (hk.2 b h.lt hn)
theorem MapG.below (h : MapG P k enc w b n G) {w' : World} (hb : Below w.heap.size w w') : MapG P k enc w' b n G := h.of_block (hb.block b h.lt)
theorem MapG.alloc (h : MapG P k enc w b n G) (o : Obj) : MapG P k enc (w.alloc o) b n G := h.below (below_alloc (Below.refl _ _) o)
theorem MapG.drewN (h : MapG P k enc w b n G) (m : Nat) : MapG P k enc (w.drewN m) b n G := h
theorem MapG.drew (h : MapG P k enc w b n G) : MapG P k enc w.drew b n G := h
theorem MapG.grown (h : MapG P k enc w b n G) {w' : World} {row : Option Nat} (hg : w.grownBy w' row) (hn : some b ≠ row) : MapG P k enc w' b n G := h.of_block (hg.block b h.lt hn)
/-- A cell of another block is written. -/
theorem MapG.far (h : MapG P k enc w b n G) {p : Addr} (hp : b ≠ p.block) (u : Value) : MapG P k enc (w.setCell p u) b n G := h.of_block (Below.heap_setCell w p u b hp)
/-- The block of a map is none of cells. -/
theorem MapG.ne (h : MapG P k enc w b n G) {g : Nat} {cs : Array Value} {t : TypeId} {fr : Nat × Nat} (hg : w.heap[g]? = some (.cells cs t fr)) : b ≠ g := by
  rintro rfl
  obtain ⟨es, clock, h⟩ := h.obj
  rw [h] at hg
  cases hg

variable {t e : TypeId} {z : Value} {a : α} {kl : Lit}

/-- 'm[k]' and 'x, ok := m[k]'. -/
theorem MapG.look (h : MapG P k enc w b n G) (c : Bool) (K : Keyed P k) (ht : P.underlying t = some (.map k e)) (hz : (zeroValue e).run P w = .ok z w) (hkey : keyOf P k (enc a) = some kl) :
    (Instr.lookup t (.map (some b)) (enc a) c).run P w = .ok (if c then .tuple #[(G a).getD z, .bool (G a).isSome] else (G a).getD z) w := by
  obtain ⟨D, ⟨es, clock, hb, F, hs, rfl⟩, hG⟩ := h
  rcases fit_look c K ht hz hb F hkey with ⟨hrun, _, hat⟩ | ⟨e0, y, _, _, hrun, hRv, hat, _⟩
  · have hg : G a = none := toD_nil ((hG a kl hkey).symm.trans (hat .nil))
    rw [hrun, hg]
    rfl
  · have hy : y.1 = .held e0.val := by
      simp only [Rv, Option.some.injEq] at hRv
      rw [← hRv]
    have hg : G a = some e0.val := toD_held (((hG a kl hkey).symm.trans (hat .nil)).trans hy)
    rw [hrun, hg]
    rfl

variable [DecidableEq α]
/-- 'm[k] = v'. -/
theorem MapG.update (h : MapG P k enc w b n G) (K : Keyed P k) (hinj : ∀ x y, enc x = enc y → x = y) (ht : P.underlying t = some (.map k e)) (hn : n < maxLen) (hkey : keyOf P k (enc a) = some kl) (val : Value) :
    ∃ w', (Instr.mapUpdate t (.map (some b)) (enc a) val).run P w = .ok () w' ∧ MapG P k enc w' b (n + 1) (fun q => if q = a then some val else G q) ∧ w.grownBy w' (some b) := by
  obtain ⟨D, hown, hG⟩ := h
  have hm : IsMap D := by obtain ⟨es, clock, _, _, _, rfl⟩ := hown; exact ⟨_, rfl⟩
  obtain ⟨w', hrun, hown', hg⟩ := hown.update (d := .held val) (ps := []) K ht hn hkey rfl
  refine ⟨w', hrun, ⟨_, hown', fun q kl' hq => ?_⟩, hg⟩
  by_cases c : q = a
  · subst c
    dsimp only
    rw [hkey] at hq
    obtain rfl := Option.some.inj hq
    rw [if_pos rfl, atKey_put_same hm (K.key hkey)]
    rfl
  · have hne : kl' ≠ kl := fun e' => c (hinj _ _ (K.inj hq (e' ▸ hkey)))
    dsimp only
    rw [if_neg c, atKey_put_other hne]
    exact hG q kl' hq
end

section
variable {α : Type} {P : Program} {k : TypeId} {enc : α → Value} {w : World} {b n : Nat} {G : α → Option Value} {t e : TypeId} {z : Value} {x : α} {kl : Lit}
variable {ops : Array Oper} {rest : List Oper} {o : Oper} {a : Act} {Q : Exit → Act → World → Prop}

/-- The look-up at the operation. -/
theorem wpList_look (c : Bool) (hg : o.guard = none) (m y : Operand) (hop : o.op = Op.lookup t m y c) (K : Keyed P k) (ht : P.underlying t = some (.map k e)) (hz : (zeroValue e).run P w = .ok z w)
    (hm : a.eval m = .map (some b)) (h : MapG P k enc w b n G) (hx : a.eval y = enc x) (hkey : keyOf P k (enc x) = some kl)
    (hK : wpList P ops Q rest (a.put o.dst (if c then .tuple #[(G x).getD z, .bool (G x).isSome] else (G x).getD z)) w) : wpList P ops Q (o :: rest) a w := by
  refine wpList_plain hg fun K' hK' => ?_
  have hrun := h.look c K ht hz hkey
  unfold Oper.wp
  simp [execOp, hop, hm, hx, hrun, Result.andThen]
  exact hK' _ _ hK

variable [DecidableEq α]
/-- The store at the operation. -/
theorem wpList_put (hg : o.guard = none) (m y v : Operand) (hop : o.op = Op.mapUpdate t m y v) (K : Keyed P k) (hinj : ∀ x y, enc x = enc y → x = y) (ht : P.underlying t = some (.map k e)) (hn : n < maxLen)
    (hm : a.eval m = .map (some b)) (h : MapG P k enc w b n G) (hx : a.eval y = enc x) (hkey : keyOf P k (enc x) = some kl)
    (hK : ∀ w', MapG P k enc w' b (n + 1) (fun q => if q = x then some (a.eval v) else G q) → w.grownBy w' (some b) → wpList P ops Q rest (a.put o.dst undef) w') : wpList P ops Q (o :: rest) a w := by
  refine wpList_plain hg fun K' hK' => ?_
  obtain ⟨w', hrun, h', hgr⟩ := h.update K hinj ht hn hkey (a.eval v)
  unfold Oper.wp
  simp [execOp, hop, hm, hx, hrun, Result.andThen]
  exact hK' _ _ (hK w' h' hgr)
end

end Go.Proofs.Ytpccannjeppmbaa.Q
