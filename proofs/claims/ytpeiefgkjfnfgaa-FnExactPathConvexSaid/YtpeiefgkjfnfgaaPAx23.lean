-- written by a program of this session (wip/gen/drive.py), which calls the kit's print.py
import Derived.Test.YtpeiefgkjfnfgaaPAx0
import Derived.Test.YtpeiefgkjfnfgaaPAx14
import Derived.Test.YtpeiefgkjfnfgaaPAx22
namespace Go.Proofs.Ytpeiefgkjfnfgaa.PA
open Go.RowKit Go.Proofs.YtpeiefgkjfnfgaaW.PrintWords Go.Proofs.YtpeiefgkjfnfgaaW.PrintLast Go.Proofs.YtpeiefgkjfnfgaaW.PrintMore
attribute [local go_sem] max2_int min2_int max_two min_two max_three min_three max_four min_four   -- for this text's walks alone
set_option linter.unusedVariables false
set_option linter.unusedSimpArgs false

/-! ### spec_l6sConvex: function 55 -/
mutual
def spec_l6sConvex.l0 : Nat → List (List Int) → Int → Int → Option (Bool)
  | 0, _, _, _ => none
  | k + 1, x0, x3, x4 => if x4 < (x0.length : Int) then (if 0 ≤ x4 then (if (x0.length : Int) = 0 then (none) else (if 0 ≤ (Int.tmod (wrap64 (x4 + 1)) (x0.length : Int)) then (if (Int.tmod (wrap64 (x4 + 1)) (x0.length : Int)) < (x0.length : Int) then ((spec_l6sCross.f (rd_L1 x0 x4) (rd_L1 x0 (Int.tmod (wrap64 (x4 + 1)) (x0.length : Int)))).bind fun t304 => (if t304 < 0 then (spec_l6sConvex.j1 k x0 x3 x4 (rd_L1 x0 x4) (rd_L1 x0 (Int.tmod (wrap64 (x4 + 1)) (x0.length : Int))) true) else (if t304 = 0 then (if 0 < ((rd_L1 x0 x4).length : Int) then (if 0 < ((rd_L1 x0 (Int.tmod (wrap64 (x4 + 1)) (x0.length : Int))).length : Int) then (if 1 < ((rd_L1 x0 x4).length : Int) then (if 1 < ((rd_L1 x0 (Int.tmod (wrap64 (x4 + 1)) (x0.length : Int))).length : Int) then (spec_l6sConvex.j1 k x0 x3 x4 (rd_L1 x0 x4) (rd_L1 x0 (Int.tmod (wrap64 (x4 + 1)) (x0.length : Int))) (decide ((wrap64 ((wrap64 ((rd (rd_L1 x0 x4) 0) * (rd (rd_L1 x0 (Int.tmod (wrap64 (x4 + 1)) (x0.length : Int))) 0))) + (wrap64 ((rd (rd_L1 x0 x4) 1) * (rd (rd_L1 x0 (Int.tmod (wrap64 (x4 + 1)) (x0.length : Int))) 1))))) < 0))) else (none)) else (none)) else (none)) else (none)) else (spec_l6sConvex.j1 k x0 x3 x4 (rd_L1 x0 x4) (rd_L1 x0 (Int.tmod (wrap64 (x4 + 1)) (x0.length : Int))) false)))) else (none)) else (none))) else (none)) else (some (x3 == 1))
def spec_l6sConvex.j1 : Nat → List (List Int) → Int → Int → List Int → List Int → Bool → Option (Bool)
  | 0, _, _, _, _, _, _ => none
  | k + 1, x0, x3, x4, x5, x6, x52 => if x52 = true then (some false) else ((spec_l6sBefore.f x6 x5).bind fun t309 => (if t309 = true then (spec_l6sConvex.l0 k x0 (wrap64 (x3 + 1)) (wrap64 (x4 + 1))) else (spec_l6sConvex.l0 k x0 x3 (wrap64 (x4 + 1)))))
end
def spec_l6sConvex.f (k : Nat) (l0 : List (List Int)) : Option (Bool) := spec_l6sConvex.l0 k l0 0 0
theorem spec_l6sConvex.mono_l : ∀ k, (∀ y0 y1 y2, LeO (spec_l6sConvex.l0 k y0 y1 y2) (spec_l6sConvex.l0 (k + 1) y0 y1 y2)) ∧ (∀ y0 y1 y2 y3 y4 y5, LeO (spec_l6sConvex.j1 k y0 y1 y2 y3 y4 y5) (spec_l6sConvex.j1 (k + 1) y0 y1 y2 y3 y4 y5))
  | 0 => ⟨fun _ _ _ r h => by simp [spec_l6sConvex.l0] at h, fun _ _ _ _ _ _ r h => by simp [spec_l6sConvex.j1] at h⟩
  | k + 1 => by
    obtain ⟨ih0, ih1⟩ := spec_l6sConvex.mono_l k
    refine ⟨?_, ?_⟩
    · intro y0 y1 y2
      unfold spec_l6sConvex.l0
      repeat' first
      | (with_reducible exact ih0 _ _ _)
      | (with_reducible exact ih1 _ _ _ _ _ _)
      | (with_reducible exact LeO.refl _)
      | (with_reducible exact LeO.none _)
      | (with_reducible refine LeO.ite ?_ ?_)
      | (with_reducible refine LeO.bind ?_ (fun _ => ?_))
      | exact ih0 _ _ _
      | exact ih1 _ _ _ _ _ _
      | exact LeO.none _
      | refine LeO.ite ?_ ?_
      | refine LeO.bind ?_ (fun _ => ?_)
    · intro y0 y1 y2 y3 y4 y5
      unfold spec_l6sConvex.j1
      repeat' first
      | (with_reducible exact ih0 _ _ _)
      | (with_reducible exact ih1 _ _ _ _ _ _)
      | (with_reducible exact LeO.refl _)
      | (with_reducible exact LeO.none _)
      | (with_reducible refine LeO.ite ?_ ?_)
      | (with_reducible refine LeO.bind ?_ (fun _ => ?_))
      | exact ih0 _ _ _
      | exact ih1 _ _ _ _ _ _
      | exact LeO.none _
      | refine LeO.ite ?_ ?_
      | refine LeO.bind ?_ (fun _ => ?_)
theorem spec_l6sConvex.mono : ∀ a0 k, LeO (spec_l6sConvex.f k a0) (spec_l6sConvex.f (k + 1) a0) := by
  intro a0 k
  obtain ⟨ih0, ih1⟩ := spec_l6sConvex.mono_l k
  unfold spec_l6sConvex.f
  repeat' first
      | (with_reducible exact ih0 _ _ _)
      | (with_reducible exact ih1 _ _ _ _ _ _)
      | (with_reducible exact LeO.refl _)
      | (with_reducible exact LeO.none _)
      | (with_reducible refine LeO.ite ?_ ?_)
      | (with_reducible refine LeO.bind ?_ (fun _ => ?_))
      | exact ih0 _ _ _
      | exact ih1 _ _ _ _ _ _
      | exact LeO.none _
      | refine LeO.ite ?_ ?_
      | refine LeO.bind ?_ (fun _ => ?_)
set_option maxHeartbeats 8000000 in
set_option maxRecDepth 100000 in
theorem spec_l6sConvex.calls (k : Nat) (A0 : Option Addr) (c0 : Nat) (l0 : List (List Int)) (r : Bool) (w : World) (hr0 : Kd.C (Kd.slice 3 (Kd.int .i64)) w A0 l0.length l0) (hc0 : l0.length ≤ c0) (h : spec_l6sConvex.f k l0 = some r) :
    Calls Try.prog 55 #[.slice A0 l0.length c0] w fun e w' => e = .returned (.bool r) ∧ Drawn0 w w' := by
  have HR0 := Aside0.mk hr0
  have HC0 := Aside0.mk hc0
  clear hr0 hc0
  have H : (spec_l6sConvex.l0 k l0 0 0) = some r := h
  clear h
  have H' := Aside0.mk H
  clear H
  go_enter Try.func55, Try.ntmps55
  go_wp2
  repeat (go_quiet (fail); try go_wp2)
  go_loopg [3, 4] k (fun kq v3 v4 w' => ∃ (x3_1 : Int) (x4_1 : Int), v3 = .int .i64 x3_1 ∧ v4 = .int .i64 x4_1 ∧ Aside0 (spec_l6sConvex.l0 kq l0 x3_1 x4_1 = some r) ∧ Aside0 (kq ≤ k) ∧ Drawn0 w w')
  case atStart => exact ⟨(0), (0), (by first | rfl | (simp; done) | (simp only [i64_w]; first | done | rfl) | (simp [*]; done)), (by first | rfl | (simp; done) | (simp only [i64_w]; first | done | rfl) | (simp [*]; done)), H', ⟨Nat.le_refl _⟩, by repeat (first | exact Drawn0.refl _ | apply Drawn0.step)⟩
  case round =>
    clear H'
    obtain ⟨x3_1, x4_1, rfl, rfl, HA, HK1, ⟨m1, rfl⟩⟩ := hrel
    cases gk with
    | zero => exact absurd HA.out (by simp [spec_l6sConvex.l0])
    | succ k1 =>
      have H := HA.out
      clear HA
      simp only [spec_l6sConvex.l0] at H
      by_cases c2 : x4_1 < (l0.length : Int)
      · rw [if_pos c2] at H
        have c2b0 : decide (x4_1 < (l0.length : Int)) = true := decide_eq_true c2
        clear c2
        by_cases c3 : 0 ≤ x4_1
        · rw [if_pos c3] at H
          have c3b0 : decide (0 ≤ x4_1) = true := decide_eq_true c3
          clear c3
          by_cases c4 : (l0.length : Int) = 0
          · rw [if_pos c4] at H
            exact absurd H (by simp)
          · rw [if_neg c4] at H
            have c4b0 : ((l0.length : Int) == 0) = false := beq_eq_false_iff_ne.mpr c4
            have c4b1 : ((l0.length : Int) != 0) = true := bne_iff_ne.mpr c4
            have c4b2 : ¬ (l0 = []) := fun h_ => c4 (by rw [h_]; rfl)
            obtain ⟨ji5, hji5⟩ : ∃ j_ : Int, (Int.tmod (wrap64 (x4_1 + 1)) (l0.length : Int)) = j_ := ⟨_, rfl⟩
            replace H : (if 0 ≤ (ji5) then (if (ji5) < (l0.length : Int) then ((spec_l6sCross.f (rd_L1 l0 x4_1) (rd_L1 l0 (ji5))).bind fun t304 => (if t304 < 0 then (spec_l6sConvex.j1 k1 l0 x3_1 x4_1 (rd_L1 l0 x4_1) (rd_L1 l0 (ji5)) true) else (if t304 = 0 then (if 0 < ((rd_L1 l0 x4_1).length : Int) then (if 0 < ((rd_L1 l0 (ji5)).length : Int) then (if 1 < ((rd_L1 l0 x4_1).length : Int) then (if 1 < ((rd_L1 l0 (ji5)).length : Int) then (spec_l6sConvex.j1 k1 l0 x3_1 x4_1 (rd_L1 l0 x4_1) (rd_L1 l0 (ji5)) (decide ((wrap64 ((wrap64 ((rd (rd_L1 l0 x4_1) 0) * (rd (rd_L1 l0 (ji5)) 0))) + (wrap64 ((rd (rd_L1 l0 x4_1) 1) * (rd (rd_L1 l0 (ji5)) 1))))) < 0))) else (none)) else (none)) else (none)) else (none)) else (spec_l6sConvex.j1 k1 l0 x3_1 x4_1 (rd_L1 l0 x4_1) (rd_L1 l0 (ji5)) false)))) else (none)) else (none)) = some r := by first | (rw [hji5] at H; exact H) | (simp only [hji5] at H ⊢; exact H)
            by_cases c6 : 0 ≤ (ji5)
            · rw [if_pos c6] at H
              have c6b0 : decide (0 ≤ (ji5)) = true := decide_eq_true c6
              clear c6
              by_cases c7 : (ji5) < (l0.length : Int)
              · rw [if_pos c7] at H
                have c7b0 : decide ((ji5) < (l0.length : Int)) = true := decide_eq_true c7
                clear c7
                replace H := Option.bind_eq_some_iff.mp H
                obtain ⟨t304, A80, H⟩ := H
                replace H : (if t304 < 0 then (spec_l6sConvex.j1 k1 l0 x3_1 x4_1 (rd_L1 l0 x4_1) (rd_L1 l0 (ji5)) true) else (if t304 = 0 then (if 0 < ((rd_L1 l0 x4_1).length : Int) then (if 0 < ((rd_L1 l0 (ji5)).length : Int) then (if 1 < ((rd_L1 l0 x4_1).length : Int) then (if 1 < ((rd_L1 l0 (ji5)).length : Int) then (spec_l6sConvex.j1 k1 l0 x3_1 x4_1 (rd_L1 l0 x4_1) (rd_L1 l0 (ji5)) (decide ((wrap64 ((wrap64 ((rd (rd_L1 l0 x4_1) 0) * (rd (rd_L1 l0 (ji5)) 0))) + (wrap64 ((rd (rd_L1 l0 x4_1) 1) * (rd (rd_L1 l0 (ji5)) 1))))) < 0))) else (none)) else (none)) else (none)) else (none)) else (spec_l6sConvex.j1 k1 l0 x3_1 x4_1 (rd_L1 l0 x4_1) (rd_L1 l0 (ji5)) false))) = some r := H
                have A8 := Aside0.mk A80
                clear A80
                have HC9 := Aside0.mk H
                clear H
                have p302 : 0 ≤ (x4_1 : Int) := of_decide_eq_true (by first | (with_reducible assumption) | assumption)
                have q302 : x4_1 < (l0.length : Int) := of_decide_eq_true (by first | (with_reducible assumption) | assumption)
                obtain ⟨ad302, A302_0, c302_0, e302, hx302_0, hl302_0, hi302_0⟩ := at_L1 HR0.out x4_1 p302 q302
                cases e302
                have HR302_0 := Aside0.mk hi302_0
                have HC302_0 := Aside0.mk hl302_0
                clear hi302_0 hl302_0
                replace p302 := eq_true p302
                replace q302 := eq_true q302
                have p303 : 0 ≤ ((ji5) : Int) := of_decide_eq_true (by first | (with_reducible assumption) | assumption)
                have q303 : (ji5) < (l0.length : Int) := of_decide_eq_true (by first | (with_reducible assumption) | assumption)
                obtain ⟨ad303, A303_0, c303_0, e303, hx303_0, hl303_0, hi303_0⟩ := at_L1 HR0.out (ji5) p303 q303
                obtain rfl : ad302 = ad303 := (by injection e303)
                have HR303_0 := Aside0.mk hi303_0
                have HC303_0 := Aside0.mk hl303_0
                clear hi303_0 hl303_0
                replace p303 := eq_true p303
                replace q303 := eq_true q303
                go_upto_region 8 with (first | (go_at_call 58; (with_reducible refine (spec_l6sCross.calls _ _ (rd_L1 l0 x4_1) _ _ (rd_L1 l0 (ji5)) t304 _ ?side1 ?side2 ?side3 ?side4 A8.out).mono ?_); (case side1 => repeat (first | exact HR302_0.out | (with_reducible refine Kd.C_alloc ?_ _) | (with_reducible refine Kd.C_drewN ?_ _) | (with_reducible refine Kd.C_drew ?_))); (case side2 => exact HC302_0.out); (case side3 => repeat (first | exact HR303_0.out | (with_reducible refine Kd.C_alloc ?_ _) | (with_reducible refine Kd.C_drewN ?_ _) | (with_reducible refine Kd.C_drew ?_))); (case side4 => exact HC303_0.out); rintro e w' ⟨rfl, ⟨nd, rfl⟩⟩; (try first | exact ⟨rfl, _, World.drewN_drewN _ _ _⟩ | exact ⟨rfl, _, Eq.trans (World.drewN_drewN _ _ _) (congrArg (World.drewN _) (Nat.add_assoc _ _ _))⟩)))
                repeat (go_quiet (first | (go_at_call 58; (with_reducible refine (spec_l6sCross.calls _ _ (rd_L1 l0 x4_1) _ _ (rd_L1 l0 (ji5)) t304 _ ?side1 ?side2 ?side3 ?side4 A8.out).mono ?_); (case side1 => repeat (first | exact HR302_0.out | (with_reducible refine Kd.C_alloc ?_ _) | (with_reducible refine Kd.C_drewN ?_ _) | (with_reducible refine Kd.C_drew ?_))); (case side2 => exact HC302_0.out); (case side3 => repeat (first | exact HR303_0.out | (with_reducible refine Kd.C_alloc ?_ _) | (with_reducible refine Kd.C_drewN ?_ _) | (with_reducible refine Kd.C_drew ?_))); (case side4 => exact HC303_0.out); rintro e w' ⟨rfl, ⟨nd, rfl⟩⟩; (try first | exact ⟨rfl, _, World.drewN_drewN _ _ _⟩ | exact ⟨rfl, _, Eq.trans (World.drewN_drewN _ _ _) (congrArg (World.drewN _) (Nat.add_assoc _ _ _))⟩))); go_upto_region 8 with (first | (go_at_call 58; (with_reducible refine (spec_l6sCross.calls _ _ (rd_L1 l0 x4_1) _ _ (rd_L1 l0 (ji5)) t304 _ ?side1 ?side2 ?side3 ?side4 A8.out).mono ?_); (case side1 => repeat (first | exact HR302_0.out | (with_reducible refine Kd.C_alloc ?_ _) | (with_reducible refine Kd.C_drewN ?_ _) | (with_reducible refine Kd.C_drew ?_))); (case side2 => exact HC302_0.out); (case side3 => repeat (first | exact HR303_0.out | (with_reducible refine Kd.C_alloc ?_ _) | (with_reducible refine Kd.C_drewN ?_ _) | (with_reducible refine Kd.C_drew ?_))); (case side4 => exact HC303_0.out); rintro e w' ⟨rfl, ⟨nd, rfl⟩⟩; (try first | exact ⟨rfl, _, World.drewN_drewN _ _ _⟩ | exact ⟨rfl, _, Eq.trans (World.drewN_drewN _ _ _) (congrArg (World.drewN _) (Nat.add_assoc _ _ _))⟩))))
                (try simp only [Act.put, List.setIfInBounds_toArray, List.set_cons_zero, List.set_cons_succ])
                go_cut [52] (fun v52 wc => ∃ (kq : Nat) (x52_8 : Bool), v52 = .bool x52_8 ∧ Aside0 (spec_l6sConvex.j1 kq l0 x3_1 x4_1 (rd_L1 l0 x4_1) (rd_L1 l0 (ji5)) x52_8 = some r) ∧ Aside0 (kq ≤ k1) ∧ Drawn0 w wc)
                case first =>
                  have H := HC9.out
                  clear HC9
                  by_cases c10 : t304 < 0
                  · rw [if_pos c10] at H
                    have c10b0 : decide (t304 < 0) = true := decide_eq_true c10
                    clear c10
                    (first | rw [c10b0] | (simp only [i64_w, i32_w]; rw [c10b0]) | skip)
                    have H' := Aside0.mk H
                    clear H
                    go_wp2
                    repeat (go_quiet (fail); try go_wp2)
                    go_meet
                    case rel => exact ⟨_, (true), (by first | rfl | (simp; done) | (simp only [i64_w]; first | done | rfl) | (simp [*]; done)), H', ⟨by have := HK1.out; first | omega | exact Nat.le_refl _⟩, by repeat (first | exact Drawn0.refl _ | apply Drawn0.step)⟩
                  · rw [if_neg c10] at H
                    have c10b0 : decide (t304 < 0) = false := decide_eq_false c10
                    clear c10
                    (first | rw [c10b0] | (simp only [i64_w, i32_w]; rw [c10b0]) | skip)
                    by_cases c11 : t304 = 0
                    · rw [if_pos c11] at H
                      have c11b0 : (t304 == 0) = true := beq_iff_eq.mpr c11
                      have c11b1 : (t304 != 0) = false := bne_eq_false_iff_eq.mpr c11
                      clear c11
                      by_cases c12 : 0 < ((rd_L1 l0 x4_1).length : Int)
                      · rw [if_pos c12] at H
                        have c12b0 : decide (0 < ((rd_L1 l0 x4_1).length : Int)) = true := decide_eq_true c12
                        have c12b1 : decide (0 < (rd_L1 l0 x4_1).length) = true := decide_eq_true (by omega)
                        clear c12
                        by_cases c13 : 0 < ((rd_L1 l0 (ji5)).length : Int)
                        · rw [if_pos c13] at H
                          have c13b0 : decide (0 < ((rd_L1 l0 (ji5)).length : Int)) = true := decide_eq_true c13
                          have c13b1 : decide (0 < (rd_L1 l0 (ji5)).length) = true := decide_eq_true (by omega)
                          clear c13
                          by_cases c14 : 1 < ((rd_L1 l0 x4_1).length : Int)
                          · rw [if_pos c14] at H
                            have c14b0 : decide (1 < ((rd_L1 l0 x4_1).length : Int)) = true := decide_eq_true c14
                            have c14b1 : decide (1 < (rd_L1 l0 x4_1).length) = true := decide_eq_true (by omega)
                            clear c14
                            by_cases c15 : 1 < ((rd_L1 l0 (ji5)).length : Int)
                            · rw [if_pos c15] at H
                              have c15b0 : decide (1 < ((rd_L1 l0 (ji5)).length : Int)) = true := decide_eq_true c15
                              have c15b1 : decide (1 < (rd_L1 l0 (ji5)).length) = true := decide_eq_true (by omega)
                              clear c15
                              have H' := Aside0.mk H
                              clear H
                              have p305 : 0 ≤ (0 : Int) := (by omega)
                              have q305 : 0 < ((rd_L1 l0 x4_1).length : Int) := of_decide_eq_true (by first | (with_reducible assumption) | assumption)
                              obtain ⟨ad305, e305, hx305_0⟩ := Kd.at_int HR302_0.out 0 p305 q305
                              cases e305
                              have qi305 : (0 < (rd_L1 l0 x4_1).length) = True := eq_true (by omega)
                              (try rw [show ((0 : Int)).toNat = 0 from rfl] at hx305_0)
                              (try rw [Addr.add_zero'] at hx305_0)
                              replace p305 := eq_true p305
                              replace q305 := eq_true q305
                              have p306 : 0 ≤ (0 : Int) := (by omega)
                              have q306 : 0 < ((rd_L1 l0 (ji5)).length : Int) := of_decide_eq_true (by first | (with_reducible assumption) | assumption)
                              obtain ⟨ad306, e306, hx306_0⟩ := Kd.at_int HR303_0.out 0 p306 q306
                              cases e306
                              have qi306 : (0 < (rd_L1 l0 (ji5)).length) = True := eq_true (by omega)
                              (try rw [show ((0 : Int)).toNat = 0 from rfl] at hx306_0)
                              (try rw [Addr.add_zero'] at hx306_0)
                              replace p306 := eq_true p306
                              replace q306 := eq_true q306
                              have p307 : 0 ≤ (1 : Int) := (by omega)
                              have q307 : 1 < ((rd_L1 l0 x4_1).length : Int) := of_decide_eq_true (by first | (with_reducible assumption) | assumption)
                              obtain ⟨ad307, e307, hx307_0⟩ := Kd.at_int HR302_0.out 1 p307 q307
                              obtain rfl : ad305 = ad307 := (by injection e307)
                              (try simp only [show (1 : Int).toNat = 1 from rfl, Nat.reduceMul, Nat.reduceEqDiff, Go.Addr.add, ↓reduceIte] at hx307_0)
                              have qi307 : (1 < (rd_L1 l0 x4_1).length) = True := eq_true (by omega)
                              (try rw [show ((1 : Int)).toNat = 1 from rfl] at hx307_0)
                              replace p307 := eq_true p307
                              replace q307 := eq_true q307
                              have p308 : 0 ≤ (1 : Int) := (by omega)
                              have q308 : 1 < ((rd_L1 l0 (ji5)).length : Int) := of_decide_eq_true (by first | (with_reducible assumption) | assumption)
                              obtain ⟨ad308, e308, hx308_0⟩ := Kd.at_int HR303_0.out 1 p308 q308
                              obtain rfl : ad306 = ad308 := (by injection e308)
                              (try simp only [show (1 : Int).toNat = 1 from rfl, Nat.reduceMul, Nat.reduceEqDiff, Go.Addr.add, ↓reduceIte] at hx308_0)
                              have qi308 : (1 < (rd_L1 l0 (ji5)).length) = True := eq_true (by omega)
                              (try rw [show ((1 : Int)).toNat = 1 from rfl] at hx308_0)
                              replace p308 := eq_true p308
                              replace q308 := eq_true q308
                              go_wp2
                              repeat (go_quiet (fail); try go_wp2)
                              go_meet
                              case rel => exact ⟨_, (decide ((wrap64 ((wrap64 ((rd (rd_L1 l0 x4_1) 0) * (rd (rd_L1 l0 (ji5)) 0))) + (wrap64 ((rd (rd_L1 l0 x4_1) 1) * (rd (rd_L1 l0 (ji5)) 1))))) < 0)), (by first | rfl | (simp; done) | (simp only [i64_w]; first | done | rfl) | (simp only [← hji5, i64_w]; first | done | rfl) | (simp only [← hji5] <;> (first | rfl | (simp; done))) | (simp [*]; done)), H', ⟨by have := HK1.out; first | omega | exact Nat.le_refl _⟩, by repeat (first | exact Drawn0.refl _ | apply Drawn0.step)⟩
                            · rw [if_neg c15] at H
                              exact absurd H (by simp)
                          · rw [if_neg c14] at H
                            exact absurd H (by simp)
                        · rw [if_neg c13] at H
                          exact absurd H (by simp)
                      · rw [if_neg c12] at H
                        exact absurd H (by simp)
                    · rw [if_neg c11] at H
                      have c11b0 : (t304 == 0) = false := beq_eq_false_iff_ne.mpr c11
                      have c11b1 : (t304 != 0) = true := bne_iff_ne.mpr c11
                      have H' := Aside0.mk H
                      clear H
                      go_wp2
                      repeat (go_quiet (fail); try go_wp2)
                      go_meet
                      case rel => exact ⟨_, (false), (by first | rfl | (simp; done) | (simp only [i64_w]; first | done | rfl) | (simp [*]; done)), H', ⟨by have := HK1.out; first | omega | exact Nat.le_refl _⟩, by repeat (first | exact Drawn0.refl _ | apply Drawn0.step)⟩
                case rest =>
                  clear HC9
                  try clear c1
                  try clear c2
                  try clear c2b0
                  try clear p2
                  try clear c3
                  try clear c3b0
                  try clear p3
                  try clear q3
                  try clear hx3
                  try clear qi3
                  try clear c4
                  try clear c4b0
                  try clear c4b1
                  try clear c4b2
                  try clear c5
                  try clear c6
                  try clear c6b0
                  try clear p6
                  try clear c7
                  try clear c7b0
                  try clear c10
                  try clear c10b0
                  try clear c11
                  try clear c11b0
                  try clear c11b1
                  try clear c12
                  try clear c12b0
                  try clear c12b1
                  try clear c13
                  try clear c13b0
                  try clear c13b1
                  try clear c14
                  try clear c14b0
                  try clear c14b1
                  try clear c15
                  try clear c15b0
                  try clear c15b1
                  try clear hx302_0
                  try clear hx303_0
                  try clear hx305_0
                  try clear hx306_0
                  try clear hx307_0
                  try clear hx308_0
                  try clear p302
                  try clear p303
                  try clear p305
                  try clear p306
                  try clear p307
                  try clear p308
                  try clear q302
                  try clear q303
                  try clear q305
                  try clear q306
                  try clear q307
                  try clear q308
                  obtain ⟨kq, x52_8, rfl, HA, HJ8, ⟨mc8, rfl⟩⟩ := hcut
                  cases kq with
                  | zero => exact absurd HA.out (by simp [spec_l6sConvex.j1])
                  | succ kj8 =>
                    have H := HA.out
                    clear HA
                    simp only [spec_l6sConvex.j1] at H
                    by_cases c16 : x52_8 = true
                    · subst c16
                      have H1 : (some false) = some r := by rw [if_pos rfl] at H; exact H
                      clear H
                      have H := H1
                      clear H1
                      obtain rfl := Option.some.inj H
                      go_wp2
                      repeat (go_quiet (fail); try go_wp2)
                      go_ret
                      exact ⟨by first | rfl | (simp; done) | (simp only [i64_w]; first | done | rfl) | (simp only [← hji5, i64_w]; first | done | rfl) | (simp only [← hji5] <;> (first | rfl | (simp; done))) | (simp [*]; done), by repeat (first | exact Drawn0.refl _ | apply Drawn0.step)⟩
                    · replace c16 := Bool.eq_false_iff.mpr c16
                      subst c16
                      have H1 : ((spec_l6sBefore.f (rd_L1 l0 (ji5)) (rd_L1 l0 x4_1)).bind fun t309 => (if t309 = true then (spec_l6sConvex.l0 kj8 l0 (wrap64 (x3_1 + 1)) (wrap64 (x4_1 + 1))) else (spec_l6sConvex.l0 kj8 l0 x3_1 (wrap64 (x4_1 + 1))))) = some r := by rw [if_neg (show ¬ (false = true) by decide)] at H; exact H
                      clear H
                      have H := H1
                      clear H1
                      replace H := Option.bind_eq_some_iff.mp H
                      obtain ⟨t309, A170, H⟩ := H
                      replace H : (if t309 = true then (spec_l6sConvex.l0 kj8 l0 (wrap64 (x3_1 + 1)) (wrap64 (x4_1 + 1))) else (spec_l6sConvex.l0 kj8 l0 x3_1 (wrap64 (x4_1 + 1)))) = some r := H
                      have A17 := Aside0.mk A170
                      clear A170
                      by_cases c18 : t309 = true
                      · subst c18
                        have H1 : (spec_l6sConvex.l0 kj8 l0 (wrap64 (x3_1 + 1)) (wrap64 (x4_1 + 1))) = some r := by rw [if_pos rfl] at H; exact H
                        clear H
                        have H := H1
                        clear H1
                        have H' := Aside0.mk H
                        clear H
                        go_wp2_with (first | (go_at_call 63; (with_reducible refine (spec_l6sBefore.calls _ _ (rd_L1 l0 (ji5)) _ _ (rd_L1 l0 x4_1) true _ ?side1 ?side2 ?side3 ?side4 A17.out).mono ?_); (case side1 => repeat (first | exact HR303_0.out | (with_reducible refine Kd.C_alloc ?_ _) | (with_reducible refine Kd.C_drewN ?_ _) | (with_reducible refine Kd.C_drew ?_))); (case side2 => exact HC303_0.out); (case side3 => repeat (first | exact HR302_0.out | (with_reducible refine Kd.C_alloc ?_ _) | (with_reducible refine Kd.C_drewN ?_ _) | (with_reducible refine Kd.C_drew ?_))); (case side4 => exact HC302_0.out); rintro e w' ⟨rfl, ⟨nd, rfl⟩⟩; (try first | exact ⟨rfl, _, World.drewN_drewN _ _ _⟩ | exact ⟨rfl, _, Eq.trans (World.drewN_drewN _ _ _) (congrArg (World.drewN _) (Nat.add_assoc _ _ _))⟩)))
                        repeat (go_quiet (first | (go_at_call 63; (with_reducible refine (spec_l6sBefore.calls _ _ (rd_L1 l0 (ji5)) _ _ (rd_L1 l0 x4_1) true _ ?side1 ?side2 ?side3 ?side4 A17.out).mono ?_); (case side1 => repeat (first | exact HR303_0.out | (with_reducible refine Kd.C_alloc ?_ _) | (with_reducible refine Kd.C_drewN ?_ _) | (with_reducible refine Kd.C_drew ?_))); (case side2 => exact HC303_0.out); (case side3 => repeat (first | exact HR302_0.out | (with_reducible refine Kd.C_alloc ?_ _) | (with_reducible refine Kd.C_drewN ?_ _) | (with_reducible refine Kd.C_drew ?_))); (case side4 => exact HC302_0.out); rintro e w' ⟨rfl, ⟨nd, rfl⟩⟩; (try first | exact ⟨rfl, _, World.drewN_drewN _ _ _⟩ | exact ⟨rfl, _, Eq.trans (World.drewN_drewN _ _ _) (congrArg (World.drewN _) (Nat.add_assoc _ _ _))⟩))); try go_wp2_with (first | (go_at_call 63; (with_reducible refine (spec_l6sBefore.calls _ _ (rd_L1 l0 (ji5)) _ _ (rd_L1 l0 x4_1) true _ ?side1 ?side2 ?side3 ?side4 A17.out).mono ?_); (case side1 => repeat (first | exact HR303_0.out | (with_reducible refine Kd.C_alloc ?_ _) | (with_reducible refine Kd.C_drewN ?_ _) | (with_reducible refine Kd.C_drew ?_))); (case side2 => exact HC303_0.out); (case side3 => repeat (first | exact HR302_0.out | (with_reducible refine Kd.C_alloc ?_ _) | (with_reducible refine Kd.C_drewN ?_ _) | (with_reducible refine Kd.C_drew ?_))); (case side4 => exact HC302_0.out); rintro e w' ⟨rfl, ⟨nd, rfl⟩⟩; (try first | exact ⟨rfl, _, World.drewN_drewN _ _ _⟩ | exact ⟨rfl, _, Eq.trans (World.drewN_drewN _ _ _) (congrArg (World.drewN _) (Nat.add_assoc _ _ _))⟩))))
                        go_roundg kj8
                        case measure => have := HK1.out; have := HJ8.out; omega
                        case rel => exact ⟨(wrap64 (x3_1 + 1)), (wrap64 (x4_1 + 1)), (by first | rfl | (simp; done) | (simp only [i64_w]; first | done | rfl) | (simp [*]; done)), (by first | rfl | (simp; done) | (simp only [i64_w]; first | done | rfl) | (simp [*]; done)), H', ⟨by have := HK1.out; have := HJ8.out; omega⟩, by repeat (first | exact Drawn0.refl _ | apply Drawn0.step)⟩
                      · replace c18 := Bool.eq_false_iff.mpr c18
                        subst c18
                        have H1 : (spec_l6sConvex.l0 kj8 l0 x3_1 (wrap64 (x4_1 + 1))) = some r := by rw [if_neg (show ¬ (false = true) by decide)] at H; exact H
                        clear H
                        have H := H1
                        clear H1
                        have H' := Aside0.mk H
                        clear H
                        go_wp2_with (first | (go_at_call 63; (with_reducible refine (spec_l6sBefore.calls _ _ (rd_L1 l0 (ji5)) _ _ (rd_L1 l0 x4_1) false _ ?side1 ?side2 ?side3 ?side4 A17.out).mono ?_); (case side1 => repeat (first | exact HR303_0.out | (with_reducible refine Kd.C_alloc ?_ _) | (with_reducible refine Kd.C_drewN ?_ _) | (with_reducible refine Kd.C_drew ?_))); (case side2 => exact HC303_0.out); (case side3 => repeat (first | exact HR302_0.out | (with_reducible refine Kd.C_alloc ?_ _) | (with_reducible refine Kd.C_drewN ?_ _) | (with_reducible refine Kd.C_drew ?_))); (case side4 => exact HC302_0.out); rintro e w' ⟨rfl, ⟨nd, rfl⟩⟩; (try first | exact ⟨rfl, _, World.drewN_drewN _ _ _⟩ | exact ⟨rfl, _, Eq.trans (World.drewN_drewN _ _ _) (congrArg (World.drewN _) (Nat.add_assoc _ _ _))⟩)))
                        repeat (go_quiet (first | (go_at_call 63; (with_reducible refine (spec_l6sBefore.calls _ _ (rd_L1 l0 (ji5)) _ _ (rd_L1 l0 x4_1) false _ ?side1 ?side2 ?side3 ?side4 A17.out).mono ?_); (case side1 => repeat (first | exact HR303_0.out | (with_reducible refine Kd.C_alloc ?_ _) | (with_reducible refine Kd.C_drewN ?_ _) | (with_reducible refine Kd.C_drew ?_))); (case side2 => exact HC303_0.out); (case side3 => repeat (first | exact HR302_0.out | (with_reducible refine Kd.C_alloc ?_ _) | (with_reducible refine Kd.C_drewN ?_ _) | (with_reducible refine Kd.C_drew ?_))); (case side4 => exact HC302_0.out); rintro e w' ⟨rfl, ⟨nd, rfl⟩⟩; (try first | exact ⟨rfl, _, World.drewN_drewN _ _ _⟩ | exact ⟨rfl, _, Eq.trans (World.drewN_drewN _ _ _) (congrArg (World.drewN _) (Nat.add_assoc _ _ _))⟩))); try go_wp2_with (first | (go_at_call 63; (with_reducible refine (spec_l6sBefore.calls _ _ (rd_L1 l0 (ji5)) _ _ (rd_L1 l0 x4_1) false _ ?side1 ?side2 ?side3 ?side4 A17.out).mono ?_); (case side1 => repeat (first | exact HR303_0.out | (with_reducible refine Kd.C_alloc ?_ _) | (with_reducible refine Kd.C_drewN ?_ _) | (with_reducible refine Kd.C_drew ?_))); (case side2 => exact HC303_0.out); (case side3 => repeat (first | exact HR302_0.out | (with_reducible refine Kd.C_alloc ?_ _) | (with_reducible refine Kd.C_drewN ?_ _) | (with_reducible refine Kd.C_drew ?_))); (case side4 => exact HC302_0.out); rintro e w' ⟨rfl, ⟨nd, rfl⟩⟩; (try first | exact ⟨rfl, _, World.drewN_drewN _ _ _⟩ | exact ⟨rfl, _, Eq.trans (World.drewN_drewN _ _ _) (congrArg (World.drewN _) (Nat.add_assoc _ _ _))⟩))))
                        go_roundg kj8
                        case measure => have := HK1.out; have := HJ8.out; omega
                        case rel => exact ⟨(x3_1), (wrap64 (x4_1 + 1)), (by first | rfl | (simp; done) | (simp only [i64_w]; first | done | rfl) | (simp [*]; done)), (by first | rfl | (simp; done) | (simp only [i64_w]; first | done | rfl) | (simp [*]; done)), H', ⟨by have := HK1.out; have := HJ8.out; omega⟩, by repeat (first | exact Drawn0.refl _ | apply Drawn0.step)⟩
              · rw [if_neg c7] at H
                exact absurd H (by simp)
            · rw [if_neg c6] at H
              exact absurd H (by simp)
        · rw [if_neg c3] at H
          exact absurd H (by simp)
      · rw [if_neg c2] at H
        have c2b0 : decide (x4_1 < (l0.length : Int)) = false := decide_eq_false c2
        clear c2
        obtain rfl := Option.some.inj H
        go_wp2
        repeat (go_quiet (fail); try go_wp2)
        go_ret
        exact ⟨by first | rfl | (simp; done) | (simp only [i64_w]; first | done | rfl) | (simp [*]; done), by repeat (first | exact Drawn0.refl _ | apply Drawn0.step)⟩

end Go.Proofs.Ytpeiefgkjfnfgaa.PA
