/- Plain words on how a slice of slices of integers that came in is read, for the rows of this seat's statements; no condition. -/
import Derived.Test.YtpeiefgkjfnfgaaWMore
import Derived.Deep.Matrix
namespace Go.Proofs.Ytpeiefgkjfnfgaa.Rd
open Go.RowKit Go.Proofs.YtpeiefgkjfnfgaaW.PrintWords Go.Proofs.YtpeiefgkjfnfgaaW.PrintLast Go.Proofs.YtpeiefgkjfnfgaaW.PrintMore
open Go.Deep
set_option linter.unusedVariables false
set_option linter.unusedSimpArgs false
theorem open_rows {H : Type} {enc : TypeId × Value → H} {P : Program} {w : World} {base : Nat} {held : Bool} {t e q : TypeId} {k : IntKind} {fuel : Nat} {cs : List Value} {x : DataW H × List MemPlace} (ht : P.underlying t = some (.slice e)) (he : P.underlying e = some (.slice q)) (hq : P.underlying q = some (.int k))
    (ce : P.cellsOf e = 1) (cq : P.cellsOf q = 1) (h : DataW.trod enc P w base (fun _ => true) held fuel t cs = some x) :
    ∃ (A : Option Addr) (c : Nat) (l : List (List Int)), cs = [.slice A l.length c] ∧ l.length ≤ c ∧ l.length ≤ maxLen ∧ Kd.C (Kd.slice q (Kd.int k)) w A l.length l ∧ ∀ x ∈ l, x.length ≤ maxLen ∧ ∀ y ∈ x, (Lit.int k y).wf = true := by
  rcases open_int_rows ht he hq ce cq h with ⟨hcs, _⟩ | ⟨a, len, cap, A, L, C, Z, hcs, _, hl, hm, _, hc⟩
  · exact ⟨none, 0, [], hcs, Nat.le_refl _, Nat.zero_le _, Kd.C_nil _ _, fun x hx => by simp at hx⟩
  · have hlen : ((List.range len).map fun r => (Z r).take (L r)).length = len := by simp
    have hpl : ∀ j, j < cap → ((Z j).take (L j)).length = L j := fun j hj => by
      obtain ⟨_, h2, _, h4, _⟩ := hc j hj
      simp; omega
    refine ⟨some a, cap, (List.range len).map fun r => (Z r).take (L r), by rw [hlen]; exact hcs, by omega, by omega, ?_, ?_⟩
    · refine ⟨rfl, by rw [hlen]; unfold maxLen at hm; omega, fun _ => ⟨a, rfl, fun j p hp => ?_⟩⟩
      have hj : j < len := by
        have := (List.getElem?_eq_some_iff.1 hp).1
        omega
      have hpe : p = (Z j).take (L j) := by
        simp [List.getElem?_range hj] at hp
        exact hp.symm
      obtain ⟨h1, h2, h3, h4, h5, h6, h7⟩ := hc j (by omega)
      have hp2 := hpl j (by omega)
      rw [← hpe] at hp2
      refine ⟨[.slice (A j) p.length (C j)], rfl, ⟨A j, C j, rfl, by omega, rfl, by unfold maxLen at h3; omega, fun hpos => ?_⟩, fun i u hu => ?_⟩
      · obtain ⟨a', ha'⟩ : ∃ a', A j = some a' := by
          cases hA : A j with
          | none => have := h6 hA; omega
          | some a' => exact ⟨a', rfl⟩
        refine ⟨a', ha', fun i y hy => ⟨[.int k y], rfl, rfl, fun i2 u hu => ?_⟩⟩
        have hi : i < p.length := (List.getElem?_eq_some_iff.1 hy).1
        have hcell := (h7 a' ha').2 i (by omega)
        have hi2 : i2 = 0 := by
          have := (List.getElem?_eq_some_iff.1 hu).1
          simp at this
          exact this
        subst hi2
        simp at hu
        subst hu
        have hyz : (Z j).getD i 0 = y := by
          rw [hpe, List.getElem?_take] at hy
          rw [if_pos (by omega)] at hy
          rw [List.getD_eq_getElem?_getD, hy]; rfl
        rw [hyz] at hcell
        show w.cell? (a'.add (i * 1 + 0)) = _
        simpa using hcell
      · have hi2 : i = 0 := by
          have := (List.getElem?_eq_some_iff.1 hu).1
          simp at this
          exact this
        subst hi2
        simp at hu
        subst hu
        rw [hp2]
        show w.cell? (a.add (j * 1 + 0)) = _
        simpa using h1
    · intro x hx
      simp only [List.mem_map, List.mem_range] at hx
      obtain ⟨r, hr, rfl⟩ := hx
      obtain ⟨_, h2, h3, h4, h5, _⟩ := hc r (by omega)
      exact ⟨by rw [hpl r (by omega)]; omega, fun y hy => h5 y (List.mem_of_mem_take hy)⟩
end Go.Proofs.Ytpeiefgkjfnfgaa.Rd
