/- The plain law: the reference's tables hold the sums of the plain plans, and its plan is the plain plan. -/
import Derived.Test.YtpccannjeppmbaaQ0
import Derived.Test.YtpccannjeppmbaaScR
namespace Go.Proofs.Ytpccannjeppmbaa.Q
open Go.Proofs.YtpccannjeppmbaaW.PrintWords
set_option linter.unusedVariables false
set_option linter.unusedSimpArgs false

/-! ### what the fold over the turns comes to -/
def valS' (f : S31 → Pl) (c : S31) (t : Int) : Int := (f (stepTo c t)).1 + (t - c.f2) * (t - c.f2)
def okS (f : S31 → Pl) (c : S31) (t : Int) : Prop := (f (stepTo c t)).2.2 = true
theorem foldS_spec (f : S31 → Pl) (c : S31) : ∀ (l : List Int) (s : Pl),
    (foldS f c l s = s ∧ ∀ t ∈ l, okS f c t → s.2.2 = true ∧ s.1 ≤ valS' f c t) ∨
    (∃ l1 t l2, l = l1 ++ t :: l2 ∧ okS f c t ∧ foldS f c l s = (valS' f c t, t :: (f (stepTo c t)).2.1, true) ∧ (s.2.2 = true → valS' f c t < s.1) ∧ (∀ x ∈ l1, okS f c x → valS' f c t < valS' f c x) ∧ ∀ x ∈ l2, okS f c x → valS' f c t ≤ valS' f c x)
  | [], s => Or.inl ⟨rfl, fun t ht => by cases ht⟩
  | u :: r, s => by
    have hstep : foldS f c (u :: r) s = foldS f c r (pickS (f (stepTo c u)) c u s) := rfl
    by_cases h : (f (stepTo c u)).2.2 = true ∧ (s.2.2 = false ∨ (f (stepTo c u)).1 + (u - c.f2) * (u - c.f2) < s.1)
    · have hp : pickS (f (stepTo c u)) c u s = (valS' f c u, u :: (f (stepTo c u)).2.1, true) := by unfold pickS valS'; rw [if_pos h]
      rw [hstep, hp]
      right
      rcases foldS_spec f c r (valS' f c u, u :: (f (stepTo c u)).2.1, true) with ⟨e, hall⟩ | ⟨l1, t, l2, el, hok, e, hlt, h1, h2⟩
      · refine ⟨[], u, r, rfl, h.1, e, fun hs => ?_, (fun x hx => by cases hx), fun x hx hok => (hall x hx hok).2⟩
        rcases h.2 with hf | hv
        · rw [hs] at hf; cases hf
        · exact hv
      · have hlt' : valS' f c t < valS' f c u := hlt rfl
        refine ⟨u :: l1, t, l2, by rw [el]; rfl, hok, e, fun hs => ?_, ?_, h2⟩
        · rcases h.2 with hf | hv
          · rw [hs] at hf; cases hf
          · exact Int.lt_trans hlt' hv
        · intro x hx hxo
          rcases List.mem_cons.1 hx with rfl | hx
          · exact hlt'
          · exact h1 x hx hxo
    · have hp : pickS (f (stepTo c u)) c u s = s := by unfold pickS; rw [if_neg h]
      rw [hstep, hp]
      have hu : okS f c u → s.2.2 = true ∧ s.1 ≤ valS' f c u := fun ho => by
        cases hs : s.2.2 with
        | false => exact absurd ⟨ho, Or.inl hs⟩ h
        | true =>
          refine ⟨rfl, ?_⟩
          by_cases hv : (f (stepTo c u)).1 + (u - c.f2) * (u - c.f2) < s.1
          · exact absurd ⟨ho, Or.inr hv⟩ h
          · unfold valS'; omega
      rcases foldS_spec f c r s with ⟨e, hall⟩ | ⟨l1, t, l2, el, hok, e, hlt, h1, h2⟩
      · left
        refine ⟨e, fun x hx hxo => ?_⟩
        rcases List.mem_cons.1 hx with rfl | hx
        · exact hu hxo
        · exact hall x hx hxo
      · right
        refine ⟨u :: l1, t, l2, by rw [el]; rfl, hok, e, hlt, ?_, h2⟩
        intro x hx hxo
        rcases List.mem_cons.1 hx with rfl | hx
        · have := hu hxo
          have := hlt this.1
          omega
        · exact h1 x hx hxo

theorem turnsG_has {a b : Int} {c : S31} : ∀ (k : Nat) (u t : Int), okTo a b c t = true → u ≤ t → t < u + k → t ∈ turnsG a b c k u
  | 0, u, t, h, h0, h1 => by omega
  | k + 1, u, t, h, h0, h1 => by
    unfold turnsG
    by_cases e : t = u
    · subst e
      rw [if_pos h]
      exact List.mem_cons_self
    · have := turnsG_has k (u + 1) t h (by omega) (by omega)
      split
      · exact List.mem_cons_of_mem _ this
      · exact this
theorem turnsP_has {a b : Int} (ha : 1 ≤ a ∧ a ≤ 3) {c : S31} {t : Int} (h : okTo a b c t = true) : t ∈ turnsP a b c := by
  have h3 := (insS_iff.1 (okTo_ins h)).2.2
  have h3 : -a ≤ t ∧ t ≤ a := h3
  exact turnsG_has _ _ t h h3.1 (by omega)

/-! ### what one ring of tables comes to -/
def Hit (a b : Int) (p c : S31) (u : Int) : Prop := fitP a b c u = true ∧ prevOf c u = p
structure RI (a b : Int) (P : List Int) (Pr : S31 → Int → Prop) (s : CB) : Prop where
  len : s.1.length = 11907
  ins : ∀ p ∈ s.2, insS a p = true
  val : ∀ p, insS a p = true → (rd s.1 (spotZ p) = 0 ∧ p ∉ s.2 ∧ ∀ c u, Pr c u → ¬ Hit a b p c u) ∨
    (p ∈ s.2 ∧ 0 < rd s.1 (spotZ p) ∧ (∃ c u, Pr c u ∧ Hit a b p c u ∧ rd s.1 (spotZ p) = costC P c u) ∧ ∀ c u, Pr c u → Hit a b p c u → rd s.1 (spotZ p) ≤ costC P c u)
theorem RI.cong {a b : Int} {P : List Int} {Pr Pr' : S31 → Int → Prop} {s : CB} (h : RI a b P Pr s) (he : ∀ c u, Pr c u ↔ Pr' c u) : RI a b P Pr' s := by
  have : Pr = Pr' := funext fun c => funext fun u => propext (he c u)
  rw [← this]; exact h
theorem RI.start (a b : Int) (P : List Int) : RI a b P (fun _ _ => False) (zerosC, []) :=
  ⟨by unfold zerosC; exact List.length_replicate, (fun p hp => by cases hp), fun p _ => Or.inl ⟨rd_zeros _, by simp, fun _ _ h => h.elim⟩⟩
theorem RI.step {a b : Int} (ha : 1 ≤ a ∧ a ≤ 3) {P : List Int} {Pr : S31 → Int → Prop} {s : CB} (h : RI a b P Pr s) (c : S31) (u : Int) (hpos : 0 < costC P c u) :
    RI a b P (fun c' u' => Pr c' u' ∨ (c' = c ∧ u' = u)) (stepC a b P c s u) := by
  unfold stepC
  by_cases hf : fitP a b c u = true
  · rw [if_pos hf]
    have hq : insS a (prevOf c u) = true := (Bool.and_eq_true_iff.1 hf).1
    have hqb := spotZ_le ha.2 hq
    have hfar : ∀ p, insS a p = true → p ≠ prevOf c u → ∀ x, rd (s.1.set (spotZ (prevOf c u)).toNat x) (spotZ p) = rd s.1 (spotZ p) := fun p hp hne x => by
      rw [rd_set, if_neg]
      rintro ⟨e, _⟩
      have := spotZ_le ha.2 hp
      exact hne (spotZ_inj ha.2 hp hq (by omega))
    have hnear : ∀ x, rd (s.1.set (spotZ (prevOf c u)).toNat x) (spotZ (prevOf c u)) = x := fun x => by
      rw [rd_set, if_pos ⟨rfl, by rw [h.len]; omega⟩]
    unfold putC
    refine ⟨?_, ?_, ?_⟩
    · dsimp only
      split
      · rw [List.length_set]; exact h.len
      · exact h.len
    · intro p hp
      dsimp only at hp
      split at hp
      · rcases List.mem_append.1 hp with hp | hp
        · exact h.ins p hp
        · simp only [List.mem_singleton] at hp
          rw [hp]; exact hq
      · exact h.ins p hp
    · intro p hp
      dsimp only
      by_cases hpq : p = prevOf c u
      · subst hpq
        right
        rcases h.val _ hp with ⟨h0, hnm, hno⟩ | ⟨hm, h0, ⟨c1, u1, hp1, hh1, e1⟩, hall⟩
        · rw [if_pos (Or.inl h0), if_pos h0, hnear]
          refine ⟨by simp, hpos, ⟨c, u, Or.inr ⟨rfl, rfl⟩, ⟨hf, rfl⟩, rfl⟩, ?_⟩
          rintro c2 u2 (hp2 | ⟨rfl, rfl⟩) hh2
          · exact absurd hh2 (hno c2 u2 hp2)
          · exact Int.le_refl _
        · have hn0 : ¬ rd s.1 (spotZ (prevOf c u)) = 0 := by omega
          rw [if_neg hn0]
          by_cases hlt : costC P c u < rd s.1 (spotZ (prevOf c u))
          · rw [if_pos (Or.inr hlt), hnear]
            refine ⟨hm, hpos, ⟨c, u, Or.inr ⟨rfl, rfl⟩, ⟨hf, rfl⟩, rfl⟩, ?_⟩
            rintro c2 u2 (hp2 | ⟨rfl, rfl⟩) hh2
            · have := hall c2 u2 hp2 hh2; omega
            · exact Int.le_refl _
          · rw [if_neg (fun q => q.elim hn0 hlt)]
            refine ⟨hm, h0, ⟨c1, u1, Or.inl hp1, hh1, e1⟩, ?_⟩
            rintro c2 u2 (hp2 | ⟨rfl, rfl⟩) hh2
            · exact hall c2 u2 hp2 hh2
            · omega
      · have hv : ∀ (q : Prop) [Decidable q] (x : Int), rd (if q then s.1.set (spotZ (prevOf c u)).toNat x else s.1) (spotZ p) = rd s.1 (spotZ p) := fun q _ x => by
          split
          · exact hfar p hp hpq x
          · rfl
        have hmem : ∀ (q : Prop) [Decidable q], (p ∈ (if q then s.2 ++ [prevOf c u] else s.2)) ↔ p ∈ s.2 := fun q _ => by
          split
          · simp [hpq]
          · exact Iff.rfl
        rw [hv, hmem]
        rcases h.val p hp with ⟨h0, hnm, hno⟩ | ⟨hm, h0, ⟨c1, u1, hp1, hh1, e1⟩, hall⟩
        · left
          refine ⟨h0, hnm, ?_⟩
          rintro c2 u2 (hp2 | ⟨rfl, rfl⟩) hh2
          · exact hno c2 u2 hp2 hh2
          · exact hpq hh2.2.symm
        · right
          refine ⟨hm, h0, ⟨c1, u1, Or.inl hp1, hh1, e1⟩, ?_⟩
          rintro c2 u2 (hp2 | ⟨rfl, rfl⟩) hh2
          · exact hall c2 u2 hp2 hh2
          · exact absurd hh2.2.symm hpq
  · rw [if_neg hf]
    refine ⟨h.len, h.ins, fun p hp => ?_⟩
    rcases h.val p hp with ⟨h0, hnm, hno⟩ | ⟨hm, h0, ⟨c1, u1, hp1, hh1, e1⟩, hall⟩
    · left
      refine ⟨h0, hnm, ?_⟩
      rintro c2 u2 (hp2 | ⟨rfl, rfl⟩) hh2
      · exact hno c2 u2 hp2 hh2
      · exact hf hh2.1
    · right
      refine ⟨hm, h0, ⟨c1, u1, Or.inl hp1, hh1, e1⟩, ?_⟩
      rintro c2 u2 (hp2 | ⟨rfl, rfl⟩) hh2
      · exact hall c2 u2 hp2 hh2
      · exact absurd hh2.1 hf
theorem costC_pos {a : Int} (ha : 1 ≤ a ∧ a ≤ 3) {P : List Int} {c : S31} {u : Int} (hc : insS a c = true) (hp : 0 < rd P (spotZ c)) (hu : -a ≤ u ∧ u ≤ a) : 0 < costC P c u := by
  have h3 := (insS_iff.1 hc).2.2
  have := square_le (d := c.f2 - u) (by omega)
  unfold costC
  omega
theorem RI.inner {a b : Int} (ha : 1 ≤ a ∧ a ≤ 3) {P : List Int} {c : S31} (hc : insS a c = true) (hpc : 0 < rd P (spotZ c)) : ∀ (n : Nat) (u : Int) (Pr : S31 → Int → Prop) (s : CB), -a ≤ u → u + n ≤ a + 1 → RI a b P Pr s →
    RI a b P (fun c' u' => Pr c' u' ∨ (c' = c ∧ u ≤ u' ∧ u' < u + n)) (innerC a b P c n u s)
  | 0, u, Pr, s, h0, h1, h => h.cong (fun c' u' => ⟨Or.inl, fun q => q.elim id (fun q => by have := q.2; omega)⟩)
  | n + 1, u, Pr, s, h0, h1, h => by
    have := RI.inner ha hc hpc n (u + 1) _ _ (by omega) (by omega) (h.step ha c u (costC_pos ha hc hpc ⟨h0, by omega⟩))
    refine RI.cong this (fun c' u' => ⟨?_, ?_⟩)
    · rintro ((q | ⟨e1, e2⟩) | ⟨e1, e2, e3⟩)
      · exact Or.inl q
      · exact Or.inr ⟨e1, by omega, by omega⟩
      · exact Or.inr ⟨e1, by omega, by omega⟩
    · rintro (q | ⟨e1, e2, e3⟩)
      · exact Or.inl (Or.inl q)
      · by_cases e : u' = u
        · exact Or.inl (Or.inr ⟨e1, e⟩)
        · exact Or.inr ⟨e1, by omega, by omega⟩
theorem RI.ring {a b : Int} (ha : 1 ≤ a ∧ a ≤ 3) {P : List Int} : ∀ (r : List S31) (Pr : S31 → Int → Prop) (s : CB), (∀ c ∈ r, insS a c = true ∧ 0 < rd P (spotZ c)) → RI a b P Pr s →
    RI a b P (fun c' u' => Pr c' u' ∨ (c' ∈ r ∧ -a ≤ u' ∧ u' ≤ a)) (ringC a b P r s)
  | [], Pr, s, hr, h => h.cong (fun c' u' => ⟨Or.inl, fun q => q.elim id (fun q => by cases q.1)⟩)
  | c :: r, Pr, s, hr, h => by
    have hc := hr c (by simp)
    have := RI.ring ha r _ _ (fun d hd => hr d (by simp [hd])) (RI.inner ha hc.1 hc.2 (2 * a + 1).toNat (-a) Pr s (by omega) (by omega) h)
    refine RI.cong this (fun c' u' => ⟨?_, ?_⟩)
    · rintro ((q | ⟨e1, e2, e3⟩) | ⟨e1, e2⟩)
      · exact Or.inl q
      · exact Or.inr ⟨by simp [e1], by omega, by omega⟩
      · exact Or.inr ⟨by simp [e1], e2⟩
    · rintro (q | ⟨e1, e2, e3⟩)
      · exact Or.inl (Or.inl q)
      · rcases List.mem_cons.1 e1 with e | e
        · exact Or.inl (Or.inr ⟨e, by omega, by omega⟩)
        · exact Or.inr ⟨e, e2, e3⟩

/-! ### tables and plans -/
def cvS (s : Pl) : Int := if s.2.2 = true then s.1 + 1 else 0
structure Rel (a b : Int) (k : Nat) (s : CB) : Prop where
  val : ∀ c, insS a c = true → rd s.1 (spotZ c) = cvS (smP a b k c)
  mem : ∀ c, c ∈ s.2 ↔ (insS a c = true ∧ (smP a b k c).2.2 = true)
theorem home_ins {a : Int} (ha : 1 ≤ a ∧ a ≤ 3) : insS a home = true := insS_iff.2 ⟨by decide, by decide, by show -a ≤ 0 ∧ 0 ≤ a; omega⟩
theorem Rel.zero {a b : Int} (ha : 1 ≤ a ∧ a ≤ 3) : Rel a b 0 (firstC, [home]) := by
  have hh := home_ins ha
  refine ⟨fun c hc => ?_, fun c => ?_⟩
  · show rd firstC (spotZ c) = cvS (0, [], decide (c = home))
    have hb := spotZ_le ha.2 hc
    have hhb := spotZ_le ha.2 hh
    unfold firstC cvS
    rw [rd_set]
    by_cases e : c = home
    · rw [e, if_pos ⟨rfl, by unfold zerosC; rw [List.length_replicate]; omega⟩]
      simp
    · rw [if_neg (fun q => e (spotZ_inj ha.2 hc hh (by have := q.1; omega))), rd_zeros]
      simp [e]
  · show c ∈ [home] ↔ (insS a c = true ∧ decide (c = home) = true)
    simp only [List.mem_singleton, decide_eq_true_eq]
    exact ⟨fun e => ⟨by rw [e]; exact hh, e⟩, fun h => h.2⟩
theorem hit_iff {a b : Int} {p c : S31} {u : Int} (hp : insS a p = true) (hc : insS a c = true) (h : Hit a b p c u) : okTo a b p c.f2 = true ∧ stepTo p c.f2 = c ∧ u = p.f2 := by
  obtain ⟨hf, e⟩ := h
  have e0 : c.f0 - (c.f1 - c.f2) = p.f0 := congrArg S31.f0 e
  have e1 : c.f1 - c.f2 = p.f1 := congrArg S31.f1 e
  have e2 : u = p.f2 := congrArg S31.f2 e
  have hst : stepTo p c.f2 = c := by
    obtain ⟨x, y, z⟩ := c
    simp only at e0 e1
    unfold stepTo
    simp only [S31.mk.injEq]
    refine ⟨by omega, by omega, trivial⟩
  refine ⟨?_, hst, e2⟩
  unfold okTo
  rw [hst, hc, Bool.and_true]
  have := of_decide_eq_true (Bool.and_eq_true_iff.1 hf).2
  exact decide_eq_true (by omega)
theorem hit_mk {a b : Int} {p : S31} {t : Int} (hp : insS a p = true) (h : okTo a b p t = true) : Hit a b p (stepTo p t) p.f2 := by
  have e : prevOf (stepTo p t) p.f2 = p := by
    obtain ⟨x, y, z⟩ := p
    unfold prevOf stepTo
    simp only [S31.mk.injEq]
    refine ⟨by omega, by omega, trivial⟩
  refine ⟨?_, e⟩
  unfold fitP
  rw [e, hp, Bool.true_and]
  have := of_decide_eq_true (Bool.and_eq_true_iff.1 h).1
  exact decide_eq_true (by show -b ≤ t - p.f2 ∧ t - p.f2 ≤ b; omega)
theorem Rel.next {a b : Int} (ha : 1 ≤ a ∧ a ≤ 3) {k : Nat} {s : CB} (h : Rel a b k s) : Rel a b (k + 1) (ringC a b s.1 s.2 (zerosC, [])) := by
  have hfair := smP_fair (b := b) ha k
  have hpos : ∀ c ∈ s.2, insS a c = true ∧ 0 < rd s.1 (spotZ c) := fun c hc => by
    obtain ⟨h1, h2⟩ := (h.mem c).1 hc
    refine ⟨h1, ?_⟩
    rw [h.val c h1]
    unfold cvS
    rw [if_pos h2]
    have := (hfair c h1).1
    omega
  have hR := (RI.ring (b := b) ha s.2 (fun _ _ => False) (zerosC, []) hpos (RI.start a b s.1)).cong (Pr' := fun c u => c ∈ s.2 ∧ -a ≤ u ∧ u ≤ a) (fun c u => ⟨fun q => q.elim False.elim id, Or.inr⟩)
  have hsm : ∀ p, smP a b (k + 1) p = foldS (smP a b k) p (turnsP a b p) (0, [], false) := fun p => rfl
  -- each course comes out alike
  have key : ∀ p, insS a p = true → (rd (ringC a b s.1 s.2 (zerosC, [])).1 (spotZ p) = cvS (smP a b (k + 1) p) ∧ (p ∈ (ringC a b s.1 s.2 (zerosC, [])).2 ↔ (smP a b (k + 1) p).2.2 = true)) := by
    intro p hp
    have hp2 := (insS_iff.1 hp).2.2
    rcases hR.val p hp with ⟨h0, hnm, hno⟩ | ⟨hm, h0, ⟨c1, u1, hp1, hh1, e1⟩, hall⟩
    · rcases foldS_spec (smP a b k) p (turnsP a b p) (0, [], false) with ⟨e, _⟩ | ⟨l1, t, l2, el, hok, e, _, _, _⟩
      · rw [hsm, e]
        exact ⟨h0, by simp [hnm]⟩
      · have ht := turnsP_mem ha (show t ∈ turnsP a b p by rw [el]; simp)
        exact absurd (hit_mk hp ht.1) (hno _ _ ⟨(h.mem _).2 ⟨okTo_ins ht.1, hok⟩, hp2⟩)
    · obtain ⟨hc1, hc2⟩ := (h.mem c1).1 hp1.1
      obtain ⟨ho1, hs1, hu1⟩ := hit_iff hp hc1 hh1
      rcases foldS_spec (smP a b k) p (turnsP a b p) (0, [], false) with ⟨e, hn⟩ | ⟨l1, t, l2, el, hok, e, _, hl1, hl2⟩
      · have := (hn _ (turnsP_has ha ho1) (by unfold okS; rw [hs1]; exact hc2)).1
        cases this
      · have ht := turnsP_mem ha (show t ∈ turnsP a b p by rw [el]; simp)
        have hcost : ∀ x, okTo a b p x = true → okS (smP a b k) p x → costC s.1 (stepTo p x) p.f2 = valS' (smP a b k) p x + 1 := fun x hx hxo => by
          unfold costC valS'
          rw [h.val _ (okTo_ins hx)]
          unfold cvS
          unfold okS at hxo
          rw [if_pos hxo]
          show (smP a b k (stepTo p x)).1 + 1 + (x - p.f2) * (x - p.f2) = _
          omega
        have hle : valS' (smP a b k) p t ≤ valS' (smP a b k) p c1.f2 := by
          have hm1 : c1.f2 ∈ l1 ++ t :: l2 := by rw [← el]; exact turnsP_has ha ho1
          have hok1 : okS (smP a b k) p c1.f2 := by unfold okS; rw [hs1]; exact hc2
          rcases List.mem_append.1 hm1 with q | q
          · exact Int.le_of_lt (hl1 _ q hok1)
          · rcases List.mem_cons.1 q with q | q
            · rw [q]; exact Int.le_refl _
            · exact hl2 _ q hok1
        have hge := hall _ _ ⟨(h.mem _).2 ⟨okTo_ins ht.1, hok⟩, hp2⟩ (hit_mk hp ht.1)
        rw [hcost t ht.1 hok] at hge
        have hev : rd (ringC a b s.1 s.2 (zerosC, [])).1 (spotZ p) = valS' (smP a b k) p c1.f2 + 1 := by
          rw [e1, hu1]
          have := hcost c1.f2 ho1 (by unfold okS; rw [hs1]; exact hc2)
          rw [hs1] at this
          exact this
        rw [hsm, e]
        refine ⟨?_, by simp [hm]⟩
        show _ = (if true = true then valS' (smP a b k) p t + 1 else 0)
        rw [if_pos rfl]
        omega
  exact ⟨fun c hc => (key c hc).1, fun c => ⟨fun hc => ⟨hR.ins c hc, ((key c (hR.ins c hc)).2).1 hc⟩, fun hc => ((key c hc.1).2).2 hc.2⟩⟩

/-! ### the tables one by one -/
def stC (a b : Int) : Nat → CB
  | 0 => (firstC, [home])
  | k + 1 => ringC a b (stC a b k).1 (stC a b k).2 (zerosC, [])
theorem stC_rel {a b : Int} (ha : 1 ≤ a ∧ a ≤ 3) : ∀ k, Rel a b k (stC a b k)
  | 0 => Rel.zero ha
  | k + 1 => (stC_rel ha k).next ha
theorem levelsC_st (a b : Int) : ∀ (n i : Nat) (outs : List (List Int)), outs.length = i + 1 → (∀ j : Nat, j ≤ i → rdL outs j = (stC a b j).1) →
    ∀ j : Nat, j ≤ i + n → rdL (levelsC a b n i outs (stC a b i).2) j = (stC a b j).1
  | 0, i, outs, hl, h, j, hj => h j hj
  | n + 1, i, outs, hl, h, j, hj => by
    rw [levelsC, h i (Nat.le_refl i)]
    have e : ((i : Int) + 1) = ((i + 1 : Nat) : Int) := by omega
    rw [e]
    refine levelsC_st a b n (i + 1) (outs ++ [(stC a b (i + 1)).1]) (by simp [hl]) (fun j' hj' => ?_) j (by omega)
    by_cases e : j' = i + 1
    · subst e
      exact rdL_last _ _ _ (by rw [hl])
    · rw [rdL_init _ _ _ (by omega) (by rw [hl]; omega)]
      exact h j' (by omega)
theorem costsP_st (a b k : Int) (j : Nat) (hj : (j : Int) ≤ k) : rdL (costsP a b k) j = (stC a b j).1 :=
  levelsC_st a b k.toNat 0 [firstC] rfl (fun j' hj' => by
    have : j' = 0 := by omega
    subst this
    rfl) j (by omega)

/-! ### the plan -/
theorem findC_turns {D : List (List Int)} {a b m : Int} {c : S31} : ∀ (n : Nat) (u : Int) (l1 : List Int) (t : Int) (l2 : List Int), turnsG a b c n u = l1 ++ t :: l2 → (∀ x ∈ l1, hitC D a b m c x = false) → hitC D a b m c t = true → findC D a b m c n u = some t
  | 0, u, l1, t, l2, h, _, _ => by simp [turnsG] at h
  | n + 1, u, l1, t, l2, h, h1, ht => by
    rw [findC]
    unfold turnsG at h
    by_cases hu : okTo a b c u = true
    · rw [if_pos hu] at h
      cases l1 with
      | nil =>
        simp only [List.nil_append, List.cons.injEq] at h
        rw [h.1, if_pos ht]
      | cons x l1 =>
        simp only [List.cons_append, List.cons.injEq] at h
        rw [h.1, h1 x (by simp), if_neg (by decide)]
        rw [h.1] at h
        exact findC_turns n (x + 1) l1 t l2 h.2 (fun y hy => h1 y (by simp [hy])) ht
    · rw [if_neg hu] at h
      rw [if_neg (by unfold hitC; simp [hu])]
      exact findC_turns n (u + 1) l1 t l2 h h1 ht
theorem planC_eq {a b : Int} (ha : 1 ≤ a ∧ a ≤ 3) {D : List (List Int)} : ∀ (k : Nat) (c : S31) (acc : List Int), (∀ j : Nat, j ≤ k → rdL D j = (stC a b j).1) → insS a c = true → (smP a b k c).2.2 = true → planC D a b k k c acc = acc ++ (smP a b k c).2.1
  | 0, c, acc, hD, hc, hok => by simp [planC, smP]
  | k + 1, c, acc, hD, hc, hok => by
    have hsm : smP a b (k + 1) c = foldS (smP a b k) c (turnsP a b c) (0, [], false) := rfl
    rcases foldS_spec (smP a b k) c (turnsP a b c) (0, [], false) with ⟨e, _⟩ | ⟨l1, t, l2, el, hokt, e, _, hl1, hl2⟩
    · rw [hsm, e] at hok
      cases hok
    · have ht := turnsP_mem ha (show t ∈ turnsP a b c by rw [el]; simp)
      have em : (((k + 1 : Nat) : Int) - 1) = (k : Int) := by omega
      have hcur : rd (rdL D ((k + 1 : Nat) : Int)) (spotZ c) = valS' (smP a b k) c t + 1 := by
        rw [hD (k + 1) (Nat.le_refl _), (stC_rel ha (k + 1)).val c hc, hsm, e]
        rfl
      have hent : ∀ x, okTo a b c x = true → rd (rdL D (((k + 1 : Nat) : Int) - 1)) (spotZ (stepTo c x)) = cvS (smP a b k (stepTo c x)) := fun x hx => by
        rw [em, hD k (Nat.le_succ k), (stC_rel ha k).val _ (okTo_ins hx)]
      have hhit : ∀ x, okTo a b c x = true → (hitC D a b ((k + 1 : Nat) : Int) c x = true ↔ (okS (smP a b k) c x ∧ valS' (smP a b k) c x = valS' (smP a b k) c t)) := fun x hx => by
        unfold hitC
        rw [hent x hx, hcur, hx, Bool.true_and, Bool.and_eq_true_iff, decide_eq_true_iff, decide_eq_true_iff]
        have hf := (smP_fair (b := b) ha k _ (okTo_ins hx)).1
        unfold cvS okS valS'
        by_cases ho : (smP a b k (stepTo c x)).2.2 = true
        · rw [if_pos ho]
          constructor
          · rintro ⟨_, q⟩
            exact ⟨ho, by omega⟩
          · rintro ⟨_, q⟩
            exact ⟨by omega, by omega⟩
        · rw [if_neg ho]
          constructor
          · rintro ⟨q, _⟩
            omega
          · rintro ⟨q, _⟩
            exact absurd q ho
      have hfind : findC D a b ((k + 1 : Nat) : Int) c (2 * a + 1).toNat (-a) = some t := by
        refine findC_turns _ _ l1 t l2 el (fun x hx => ?_) ((hhit t ht.1).2 ⟨hokt, rfl⟩)
        have hx2 := turnsP_mem ha (show x ∈ turnsP a b c by rw [el]; simp [hx])
        cases hc2 : hitC D a b ((k + 1 : Nat) : Int) c x with
        | false => rfl
        | true =>
          obtain ⟨q1, q2⟩ := (hhit x hx2.1).1 hc2
          have := hl1 x hx q1
          omega
      have hplan : planC D a b (k + 1) ((k + 1 : Nat) : Int) c acc = planC D a b k k (stepTo c t) (acc ++ [t]) := by
        rw [planC, hfind]
        show planC D a b k (((k + 1 : Nat) : Int) - 1) (stepTo c t) (acc ++ [t]) = _
        rw [em]
      rw [hplan, planC_eq ha k (stepTo c t) (acc ++ [t]) (fun j hj => hD j (by omega)) (okTo_ins ht.1) hokt, hsm, e]
      simp

theorem ansC_eq {a b k : Int} (ha : 1 ≤ a ∧ a ≤ 3) (hk : 0 ≤ k ∧ k ≤ 8) {c : S31} (hc : insS a c = true) :
    ansC a b k c = if (smP a b k.toNat c).2.2 = true then ((smP a b k.toNat c).2.1, (smP a b k.toNat c).1, true) else ([], 0, false) := by
  obtain ⟨n, rfl⟩ : ∃ n : Nat, k = n := ⟨k.toNat, by omega⟩
  have hv : rd (rdL (costsP a b n) n) (spotZ c) = cvS (smP a b n c) := by
    rw [costsP_st a b n n (Int.le_refl _)]
    exact (stC_rel ha n).val c hc
  have e : ((n : Nat) : Int).toNat = n := Int.toNat_natCast n
  have hf := (smP_fair (b := b) ha n c hc).1
  unfold ansC
  rw [hv, e]
  unfold cvS
  by_cases ho : (smP a b n c).2.2 = true
  · rw [if_pos ho, if_neg (by omega), if_pos ho, planC_eq ha n c [] (fun j hj => costsP_st a b n j (by omega)) hc ho, List.nil_append, show (smP a b n c).1 + 1 - 1 = (smP a b n c).1 from by omega]
  · rw [if_neg ho, if_pos rfl, if_neg ho]

end Go.Proofs.Ytpccannjeppmbaa.Q
