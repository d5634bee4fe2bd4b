-- written by a program of this session (wip/gen/drive.py), which calls the kit's print.py
import Derived.Test.YtpeiefgkjfnfgaaPHx0
namespace Go.Proofs.Ytpeiefgkjfnfgaa.PH
open Go.RowKit Go.Proofs.YtpeiefgkjfnfgaaW.PrintWords Go.Proofs.YtpeiefgkjfnfgaaW.PrintLast Go.Proofs.YtpeiefgkjfnfgaaW.PrintMore
attribute [local go_sem] max2_int min2_int max_two min_two max_three min_three max_four min_four   -- for this text's walks alone
set_option linter.unusedVariables false
set_option linter.unusedSimpArgs false

/-! ### spec_l6sCorners: function 48 -/
/-! The cut 'out[1:]' (a stand-in's place in the print: its text is a cut, not a call). -/
def tailRow.f (l0 : List (List Int)) : Option (List (List Int)) := if 1 ≤ l0.length then some (l0.drop 1) else none
theorem tail_some {l t : List (List Int)} (h : tailRow.f l = some t) : 1 ≤ l.length ∧ l.drop 1 = t := by
  unfold tailRow.f at h
  by_cases c : 1 ≤ l.length
  · rw [if_pos c] at h
    exact ⟨c, Option.some.inj h⟩
  · rw [if_neg c] at h
    cases h
theorem tail_ex (A : Option Addr) (c : Nat) (xs : List (List Int)) (h1 : 1 ≤ xs.length) (hc : xs.length ≤ c) : ∃ A' : Option Addr, (∀ W : World, (Instr.slice 22 (.slice A xs.length c) (some (.int .i64 1)) none none).run Try.prog W = .ok (.slice A' (xs.length - 1) (c - 1)) W) ∧
    ∀ (w : World) (base base' : Nat) (ok : Nat → Prop), Kd.N (Kd.slice 3 (Kd.int .i64)) 39 w base ok (.slice A xs.length c) xs → Kd.V (Kd.slice 3 (Kd.int .i64)) 39 w base' ok (.slice A' (xs.length - 1) (c - 1)) (xs.drop 1) := by
  have hi : (Try.prog.info? 39).map (fun i => (i.zero, i.size, i.bytes)) = some (some (.slice none 0 0), 1, 24) := by kernel_rfl
  obtain ⟨i, hi, hz⟩ := Option.map_eq_some_iff.1 hi
  simp only [Prod.mk.injEq] at hz
  have hr := cut_from 22 39 .i64 Try.underlying22 hi 1 hz.2.1 A xs.length c 1 (by omega) (by omega)
  refine ⟨_, hr, fun w base base' ok hN => ?_⟩
  obtain ⟨A2, c2, he, hl, hF⟩ := Kd.N_V (base' := base) hN
  injection he with e1 e2 e3
  subst e1 e3
  have hlen : (xs.drop 1).length = xs.length - 1 := List.length_drop
  refine ⟨_, _, by rw [hlen], by rw [hlen]; show xs.length - 1 ≤ c - 1; omega, ?_⟩
  have key : ∀ W : World, Kd.C (Kd.slice 3 (Kd.int .i64)) W A xs.length xs → Kd.C (Kd.slice 3 (Kd.int .i64)) W (if c = (1 : Int).toNat then A else A.map (·.add ((1 : Int).toNat * 1))) (xs.drop 1).length (xs.drop 1) := fun W h => Kd.C_drop (m := 1) h h1 hl
  exact fun W' hW => key W' (hF W' hW)

end Go.Proofs.Ytpeiefgkjfnfgaa.PH
