-- written by a program of this session (wip/gen/drive.py), which calls the kit's print.py
import Derived.Test.YtiogpecgmbpmlaaPCx0
namespace Go.Proofs.Ytiogpecgmbpmlaa.PC
open Go.RowKit Go.Proofs.YtiogpecgmbpmlaaW.PrintWords Go.Proofs.YtiogpecgmbpmlaaW.PrintLast Go.Proofs.YtiogpecgmbpmlaaW.PrintMore
attribute [local go_sem] max2_int min2_int max_two min_two max_three min_three max_four min_four   -- for this text's walks alone
set_option linter.unusedVariables false
set_option linter.unusedSimpArgs false

/-! ### spec_l5Fits: function 50 -/
mutual
def spec_l5Fits.l0 : Nat → List Int → Int → List Bool → Int → Option (Bool)
  | 0, _, _, _, _ => none
  | k + 1, x0, x1, x5, x6 => if x6 ≤ x1 then (if 0 ≤ x6 then (if x6 < (x5.length : Int) then (spec_l5Fits.l0 k x0 x1 (x5.set (x6 : Int).toNat true) (wrap64 (x6 + 1))) else (none)) else (none)) else (spec_l5Fits.l1 k x0 x1 x5 0)
def spec_l5Fits.l1 : Nat → List Int → Int → List Bool → Int → Option (Bool)
  | 0, _, _, _, _ => none
  | k + 1, x0, x1, x5, x7 => if x7 < (x0.length : Int) then (if 0 ≤ (wrap64 (x1 + 1)) then (if (wrap64 (x1 + 1) : Int).toNat ≤ 281474976710656 then (spec_l5Fits.l2 k x0 x1 x5 x7 (List.replicate (wrap64 (x1 + 1) : Int).toNat false) 0) else (none)) else (none)) else (spec_l5Fits.l3 k x1 x5 0)
def spec_l5Fits.l2 : Nat → List Int → Int → List Bool → Int → List Bool → Int → Option (Bool)
  | 0, _, _, _, _, _, _ => none
  | k + 1, x0, x1, x5, x7, x8, x9 => if x9 ≤ x1 then (if 0 ≤ x9 then (if x9 < (x5.length : Int) then (if rdOf false x5 x9 = true then (if 0 ≤ x7 then (if x7 < (x0.length : Int) then (spec_l5Fits.j3 k x0 x1 x5 x7 x8 x9 (decide ((wrap64 (x9 + (rd x0 x7))) ≤ x1))) else (none)) else (none)) else (spec_l5Fits.j3 k x0 x1 x5 x7 x8 x9 false)) else (none)) else (none)) else (spec_l5Fits.l1 k x0 x1 x8 (wrap64 (x7 + 1)))
def spec_l5Fits.j3 : Nat → List Int → Int → List Bool → Int → List Bool → Int → Bool → Option (Bool)
  | 0, _, _, _, _, _, _, _ => none
  | k + 1, x0, x1, x5, x7, x8, x9, x49 => if x49 = true then (if 0 ≤ x7 then (if x7 < (x0.length : Int) then (if 0 ≤ (wrap64 (x9 + (rd x0 x7))) then (if (wrap64 (x9 + (rd x0 x7))) < (x8.length : Int) then ((some (x8.set ((wrap64 (x9 + (rd x0 x7))) : Int).toNat true : List Bool)).bind fun y310 => (if 0 ≤ x9 then (if x9 < (x5.length : Int) then (if rdOf false x5 x9 = true then (if x9 ≥ (rd x0 x7) then (if 0 ≤ (wrap64 (x9 - (rd x0 x7))) then (if (wrap64 (x9 - (rd x0 x7))) < (x8.length : Int) then (spec_l5Fits.l2 k x0 x1 x5 x7 (y310.set ((wrap64 (x9 - (rd x0 x7))) : Int).toNat true) (wrap64 (x9 + 1))) else (none)) else (none)) else (spec_l5Fits.l2 k x0 x1 x5 x7 y310 (wrap64 (x9 + 1)))) else (spec_l5Fits.l2 k x0 x1 x5 x7 y310 (wrap64 (x9 + 1)))) else (none)) else (none))) else (none)) else (none)) else (none)) else (none)) else (if 0 ≤ x9 then (if x9 < (x5.length : Int) then (if rdOf false x5 x9 = true then (if 0 ≤ x7 then (if x7 < (x0.length : Int) then (if x9 ≥ (rd x0 x7) then (if 0 ≤ (wrap64 (x9 - (rd x0 x7))) then (if (wrap64 (x9 - (rd x0 x7))) < (x8.length : Int) then (spec_l5Fits.l2 k x0 x1 x5 x7 (x8.set ((wrap64 (x9 - (rd x0 x7))) : Int).toNat true) (wrap64 (x9 + 1))) else (none)) else (none)) else (spec_l5Fits.l2 k x0 x1 x5 x7 x8 (wrap64 (x9 + 1)))) else (none)) else (none)) else (spec_l5Fits.l2 k x0 x1 x5 x7 x8 (wrap64 (x9 + 1)))) else (none)) else (none))
def spec_l5Fits.l3 : Nat → Int → List Bool → Int → Option (Bool)
  | 0, _, _, _ => none
  | k + 1, x1, x5, x10 => if x10 ≤ x1 then (if 0 ≤ x10 then (if x10 < (x5.length : Int) then (if rdOf false x5 x10 = true then (some true) else (spec_l5Fits.l3 k x1 x5 (wrap64 (x10 + 1)))) else (none)) else (none)) else (some false)
end
def spec_l5Fits.f (k : Nat) (l0 : List Int) (a1 : Int) : Option (Bool) := if 0 ≤ (wrap64 (a1 + 1)) then (if (wrap64 (a1 + 1) : Int).toNat ≤ 281474976710656 then (spec_l5Fits.l0 k l0 a1 (List.replicate (wrap64 (a1 + 1) : Int).toNat false) 0) else (none)) else (none)
theorem spec_l5Fits.mono_l : ∀ k, (∀ y0 y1 y2 y3, LeO (spec_l5Fits.l0 k y0 y1 y2 y3) (spec_l5Fits.l0 (k + 1) y0 y1 y2 y3)) ∧ (∀ y0 y1 y2 y3, LeO (spec_l5Fits.l1 k y0 y1 y2 y3) (spec_l5Fits.l1 (k + 1) y0 y1 y2 y3)) ∧ (∀ y0 y1 y2 y3 y4 y5, LeO (spec_l5Fits.l2 k y0 y1 y2 y3 y4 y5) (spec_l5Fits.l2 (k + 1) y0 y1 y2 y3 y4 y5)) ∧ (∀ y0 y1 y2 y3 y4 y5 y6, LeO (spec_l5Fits.j3 k y0 y1 y2 y3 y4 y5 y6) (spec_l5Fits.j3 (k + 1) y0 y1 y2 y3 y4 y5 y6)) ∧ (∀ y0 y1 y2, LeO (spec_l5Fits.l3 k y0 y1 y2) (spec_l5Fits.l3 (k + 1) y0 y1 y2))
  | 0 => ⟨fun _ _ _ _ r h => by simp [spec_l5Fits.l0] at h, fun _ _ _ _ r h => by simp [spec_l5Fits.l1] at h, fun _ _ _ _ _ _ r h => by simp [spec_l5Fits.l2] at h, fun _ _ _ _ _ _ _ r h => by simp [spec_l5Fits.j3] at h, fun _ _ _ r h => by simp [spec_l5Fits.l3] at h⟩
  | k + 1 => by
    obtain ⟨ih0, ih1, ih2, ih3, ih4⟩ := spec_l5Fits.mono_l k
    refine ⟨?_, ?_, ?_, ?_, ?_⟩
    · intro y0 y1 y2 y3
      unfold spec_l5Fits.l0
      repeat' first
      | (with_reducible exact ih0 _ _ _ _)
      | (with_reducible exact ih1 _ _ _ _)
      | (with_reducible exact ih2 _ _ _ _ _ _)
      | (with_reducible exact ih3 _ _ _ _ _ _ _)
      | (with_reducible exact ih4 _ _ _)
      | (with_reducible exact LeO.refl _)
      | (with_reducible exact LeO.none _)
      | (with_reducible refine LeO.ite ?_ ?_)
      | (with_reducible refine LeO.bind ?_ (fun _ => ?_))
      | exact ih0 _ _ _ _
      | exact ih1 _ _ _ _
      | exact ih2 _ _ _ _ _ _
      | exact ih3 _ _ _ _ _ _ _
      | exact ih4 _ _ _
      | exact LeO.none _
      | refine LeO.ite ?_ ?_
      | refine LeO.bind ?_ (fun _ => ?_)
    · intro y0 y1 y2 y3
      unfold spec_l5Fits.l1
      repeat' first
      | (with_reducible exact ih0 _ _ _ _)
      | (with_reducible exact ih1 _ _ _ _)
      | (with_reducible exact ih2 _ _ _ _ _ _)
      | (with_reducible exact ih3 _ _ _ _ _ _ _)
      | (with_reducible exact ih4 _ _ _)
      | (with_reducible exact LeO.refl _)
      | (with_reducible exact LeO.none _)
      | (with_reducible refine LeO.ite ?_ ?_)
      | (with_reducible refine LeO.bind ?_ (fun _ => ?_))
      | exact ih0 _ _ _ _
      | exact ih1 _ _ _ _
      | exact ih2 _ _ _ _ _ _
      | exact ih3 _ _ _ _ _ _ _
      | exact ih4 _ _ _
      | exact LeO.none _
      | refine LeO.ite ?_ ?_
      | refine LeO.bind ?_ (fun _ => ?_)
    · intro y0 y1 y2 y3 y4 y5
      unfold spec_l5Fits.l2
      repeat' first
      | (with_reducible exact ih0 _ _ _ _)
      | (with_reducible exact ih1 _ _ _ _)
      | (with_reducible exact ih2 _ _ _ _ _ _)
      | (with_reducible exact ih3 _ _ _ _ _ _ _)
      | (with_reducible exact ih4 _ _ _)
      | (with_reducible exact LeO.refl _)
      | (with_reducible exact LeO.none _)
      | (with_reducible refine LeO.ite ?_ ?_)
      | (with_reducible refine LeO.bind ?_ (fun _ => ?_))
      | exact ih0 _ _ _ _
      | exact ih1 _ _ _ _
      | exact ih2 _ _ _ _ _ _
      | exact ih3 _ _ _ _ _ _ _
      | exact ih4 _ _ _
      | exact LeO.none _
      | refine LeO.ite ?_ ?_
      | refine LeO.bind ?_ (fun _ => ?_)
    · intro y0 y1 y2 y3 y4 y5 y6
      unfold spec_l5Fits.j3
      repeat' first
      | (with_reducible exact ih0 _ _ _ _)
      | (with_reducible exact ih1 _ _ _ _)
      | (with_reducible exact ih2 _ _ _ _ _ _)
      | (with_reducible exact ih3 _ _ _ _ _ _ _)
      | (with_reducible exact ih4 _ _ _)
      | (with_reducible exact LeO.refl _)
      | (with_reducible exact LeO.none _)
      | (with_reducible refine LeO.ite ?_ ?_)
      | (with_reducible refine LeO.bind ?_ (fun _ => ?_))
      | exact ih0 _ _ _ _
      | exact ih1 _ _ _ _
      | exact ih2 _ _ _ _ _ _
      | exact ih3 _ _ _ _ _ _ _
      | exact ih4 _ _ _
      | exact LeO.none _
      | refine LeO.ite ?_ ?_
      | refine LeO.bind ?_ (fun _ => ?_)
    · intro y0 y1 y2
      unfold spec_l5Fits.l3
      repeat' first
      | (with_reducible exact ih0 _ _ _ _)
      | (with_reducible exact ih1 _ _ _ _)
      | (with_reducible exact ih2 _ _ _ _ _ _)
      | (with_reducible exact ih3 _ _ _ _ _ _ _)
      | (with_reducible exact ih4 _ _ _)
      | (with_reducible exact LeO.refl _)
      | (with_reducible exact LeO.none _)
      | (with_reducible refine LeO.ite ?_ ?_)
      | (with_reducible refine LeO.bind ?_ (fun _ => ?_))
      | exact ih0 _ _ _ _
      | exact ih1 _ _ _ _
      | exact ih2 _ _ _ _ _ _
      | exact ih3 _ _ _ _ _ _ _
      | exact ih4 _ _ _
      | exact LeO.none _
      | refine LeO.ite ?_ ?_
      | refine LeO.bind ?_ (fun _ => ?_)
theorem spec_l5Fits.mono : ∀ a0 a1 k, LeO (spec_l5Fits.f k a0 a1) (spec_l5Fits.f (k + 1) a0 a1) := by
  intro a0 a1 k
  obtain ⟨ih0, ih1, ih2, ih3, ih4⟩ := spec_l5Fits.mono_l k
  unfold spec_l5Fits.f
  repeat' first
      | (with_reducible exact ih0 _ _ _ _)
      | (with_reducible exact ih1 _ _ _ _)
      | (with_reducible exact ih2 _ _ _ _ _ _)
      | (with_reducible exact ih3 _ _ _ _ _ _ _)
      | (with_reducible exact ih4 _ _ _)
      | (with_reducible exact LeO.refl _)
      | (with_reducible exact LeO.none _)
      | (with_reducible refine LeO.ite ?_ ?_)
      | (with_reducible refine LeO.bind ?_ (fun _ => ?_))
      | exact ih0 _ _ _ _
      | exact ih1 _ _ _ _
      | exact ih2 _ _ _ _ _ _
      | exact ih3 _ _ _ _ _ _ _
      | exact ih4 _ _ _
      | exact LeO.none _
      | refine LeO.ite ?_ ?_
      | refine LeO.bind ?_ (fun _ => ?_)
set_option maxHeartbeats 8000000 in
set_option maxRecDepth 100000 in
theorem spec_l5Fits.calls (k : Nat) (A0 : Option Addr) (c0 : Nat) (l0 : List Int) (a1 : Int) (r : Bool) (w : World) (hr0 : Kd.C (Kd.int .i64) w A0 l0.length l0) (hc0 : l0.length ≤ c0) (h : spec_l5Fits.f k l0 a1 = some r) :
    Calls Try.prog 50 #[.slice A0 l0.length c0, .int .i64 a1] w fun e w' => e = .returned (.bool r) ∧ Below w.heap.size w w' := by
  have HR0 := Aside0.mk hr0
  have HC0 := Aside0.mk hc0
  clear hr0 hc0
  have HB := Aside0.mk (Below.refl w.heap.size w)
  have H : (if 0 ≤ (wrap64 (a1 + 1)) then (if (wrap64 (a1 + 1) : Int).toNat ≤ 281474976710656 then (spec_l5Fits.l0 k l0 a1 (List.replicate (wrap64 (a1 + 1) : Int).toNat false) 0) else (none)) else (none)) = some r := h
  clear h
  obtain ⟨ji3, hji3⟩ : ∃ j_ : Int, (wrap64 (a1 + 1)) = j_ := ⟨_, rfl⟩
  replace H : (if 0 ≤ (ji3) then (if (ji3 : Int).toNat ≤ 281474976710656 then (spec_l5Fits.l0 k l0 a1 (List.replicate (ji3 : Int).toNat false) 0) else (none)) else (none)) = some r := by first | (rw [hji3] at H; exact H) | (simp only [hji3] at H ⊢; exact H)
  have hji3w : (IntKind.i64.wrap (a1 + 1)) = ji3 := (i64_w _).trans hji3
  by_cases c4 : 0 ≤ (ji3)
  · rw [if_pos c4] at H
    have c4b0 := eq_true c4
    have c4b1 : decide (0 ≤ (ji3)) = true := decide_eq_true c4
    clear c4
    by_cases c5 : (ji3 : Int).toNat ≤ 281474976710656
    · rw [if_pos c5] at H
      have c5b0 := eq_true c5
      have c5b1 : decide ((ji3 : Int).toNat ≤ 281474976710656) = true := decide_eq_true c5
      clear c5
      obtain ⟨y300, hy300⟩ : ∃ y_ : List Bool, y_ = (List.replicate (ji3 : Int).toNat false) := ⟨_, rfl⟩
      replace H : (spec_l5Fits.l0 k l0 a1 y300 0) = some r := by first | (rw [hy300]; with_reducible exact H) | (have H2_ := (Option.bind_some _ _).symm.trans H; rw [hy300]; with_reducible exact H2_) | (have H2_ := (Option.bind_some _ _).symm.trans H; with_reducible exact H2_) | with_reducible exact H | (rw [hy300]; exact H) | exact H
      have Ny300 := Aside0.mk hy300
      clear hy300
      have H' := Aside0.mk H
      clear H
      go_enter Try.func50, Try.ntmps50
      go_wp2_with (first | ((with_reducible refine gate_dst (N := 13) rfl ?_); refine Kd.R_make Kd.bool _ 4 rfl (N := 13) rfl 47 _ _ rfl ji3 rfl rfl Try.underlying47 (.bool false) 1 info4 rfl (by decide) (by omega) false (ok := fun _ => True) (okp := fun _ => True) rfl (fun _ hk => hk) trivial (of_decide_eq_true (by first | (with_reducible assumption) | assumption)) (Nat.le_trans (Nat.mul_le_mul_right _ (of_decide_eq_true (by first | (with_reducible assumption) | assumption) : ji3.toNat ≤ 281474976710656)) (by omega)) (Below.refl _ _) (Nat.le_refl _) ?_; intro v301 w6 ho7 hb hg_ hnew_; clear hg_ hnew_; (first | rw [← Ny300.out] at ho7 | (simp only [Int.reduceToNat] at ho7; rw [← Ny300.out] at ho7)); have n0_ := Aside0.mk (Kd.R_lower ho7 (below_size (by repeat (first | (with_reducible first | exact HB.out | apply below_alloc | apply pw_below_drewN | apply below_drew1) | exact HB.out)))); have n1_ := Aside0.mk (below_step (by repeat (first | (with_reducible first | exact HB.out | apply below_alloc | apply pw_below_drewN | apply below_drew1) | exact HB.out)) hb); clear HB; have HO302 := n0_; have HB := n1_; clear n0_ n1_; clear hb ho7))
      go_loopg [6] k (fun kq v6 w' => ∃ (x5_1 : List Bool) (x6_1 : Int), v6 = .int .i64 x6_1 ∧ Aside0 (spec_l5Fits.l0 kq l0 a1 x5_1 x6_1 = some r) ∧ Aside0 (kq ≤ k) ∧ Aside0 (Kd.R Kd.bool 4 w' w.heap.size (fun _ => True) v301 x5_1) ∧ Aside0 (Below w.heap.size w w'))
      case atStart => exact ⟨(y300), (0), (by first | rfl | (simp; done) | (simp only [i64_w]; first | done | rfl) | (simp [*]; done)), H', ⟨Nat.le_refl _⟩, ⟨by (with_reducible repeat (first | apply Kd.R_alloc | apply Kd.R_drewN | apply Kd.R_drew)); exact HO302.out⟩, ⟨by repeat (first | (with_reducible first | exact HB.out | apply below_alloc | apply pw_below_drewN | apply below_drew1) | exact HB.out)⟩⟩
      case round =>
        clear H'
        try clear p2
        try clear c4
        try clear c4b0
        try clear c4b1
        try clear c5
        try clear c5b0
        try clear c5b1
        try clear p6
        obtain ⟨x5_1, x6_1, rfl, HA, HK1, HO_5, HB⟩ := hrel
        cases gk with
        | zero => exact absurd HA.out (by simp [spec_l5Fits.l0])
        | succ k1 =>
          have H := HA.out
          clear HA
          simp only [spec_l5Fits.l0] at H
          by_cases c8 : x6_1 ≤ a1
          · rw [if_pos c8] at H
            have c8b0 : decide (x6_1 ≤ a1) = true := decide_eq_true c8
            clear c8
            by_cases c9 : 0 ≤ x6_1
            · rw [if_pos c9] at H
              have c9b0 : decide (0 ≤ x6_1) = true := decide_eq_true c9
              clear c9
              by_cases c10 : x6_1 < (x5_1.length : Int)
              · rw [if_pos c10] at H
                have c10b0 : decide (x6_1 < (x5_1.length : Int)) = true := decide_eq_true c10
                clear c10
                obtain ⟨y303, hy303⟩ : ∃ y_ : List Bool, y_ = (x5_1.set (x6_1 : Int).toNat true) := ⟨_, rfl⟩
                replace H : (spec_l5Fits.l0 k1 l0 a1 y303 (wrap64 (x6_1 + 1))) = some r := by first | (rw [hy303]; with_reducible exact H) | (have H2_ := (Option.bind_some _ _).symm.trans H; rw [hy303]; with_reducible exact H2_) | (have H2_ := (Option.bind_some _ _).symm.trans H; with_reducible exact H2_) | with_reducible exact H | (rw [hy303]; exact H) | exact H
                have Ny303 := Aside0.mk hy303
                clear hy303
                have H' := Aside0.mk H
                clear H
                have p11 : 0 ≤ (x6_1 : Int) := of_decide_eq_true (by first | (with_reducible assumption) | assumption)
                have q11 : (x6_1 : Int) < ((x5_1.length : Int) : Int) := of_decide_eq_true (by first | (with_reducible assumption) | assumption)
                obtain ⟨go11, co11, eo11, gb11, gl11, cl11, HG11⟩ := Kd.R_form HO_5.out (by omega)
                (first | cases eo11 | (injection eo11 with ea_ en_ ec_; (first | subst ea_ | (injection ea_ with ea_; subst ea_)); subst ec_; clear en_))
                have GB11 := Aside0.mk gb11
                have GG11 := Aside0.mk HG11
                clear gb11 gl11 HG11
                obtain ⟨hx11_0, hf11_0⟩ := Kd.R_celln false HO_5.out (x6_1 : Int) p11 q11
                replace p11 := eq_true p11
                replace q11 := eq_true q11
                have HP12 := Kd.R_putg HO_5.out (x6_1 : Int) true
                go_wp2_with (first | ((with_reducible refine gate_store (t := 4) (p := 21) rfl ?_); refine store_event (t := 4) (p := 21) (v := ?vo_w13) (w1 := (wr.setCell ⟨go11, (x6_1 : Int).toNat, none⟩ (.bool true))) ?hg ?ho ?hn ?hr ?_; (case ho => rfl); (case hg => rfl); (case hn => rfl); (case hr => first | (go_simp; done) | (go_simp; rfl)); intro w13 hw; have hg : wr.grownBy w13 (some go11) := (by rw [hw]; exact HP12.2); have hp_ : Kd.R Kd.bool 4 w13 w.heap.size (fun _ => True) (.slice (some ⟨go11, 0, none⟩) x5_1.length co11) y303 := (by rw [hw, Ny303.out]; exact HP12.1); clear HP12; have n0_ := Aside0.mk (hp_); have n1_ := Aside0.mk ((by rw [hw]; exact below_set (HB.out) GB11.out : Below w.heap.size w w13)); clear HO_5; clear HB; have HO_5 := n0_; have HB := n1_; clear n0_ n1_; clear hg hw hp_))
                first | go_roundg k1 | (subst hji3; go_roundg k1)
                case measure => have := HK1.out; omega
                case rel => exact ⟨(y303), (wrap64 (x6_1 + 1)), (by first | rfl | (simp; done) | (simp only [i64_w]; first | done | rfl) | (simp [*]; done)), H', ⟨by have := HK1.out; omega⟩, ⟨by (with_reducible repeat (first | apply Kd.R_alloc | apply Kd.R_drewN | apply Kd.R_drew)); exact HO_5.out⟩, ⟨by repeat (first | (with_reducible first | exact HB.out | apply below_alloc | apply pw_below_drewN | apply below_drew1) | exact HB.out)⟩⟩
              · rw [if_neg c10] at H
                exact absurd H (by simp)
            · rw [if_neg c9] at H
              exact absurd H (by simp)
          · rw [if_neg c8] at H
            have c8b0 : decide (x6_1 ≤ a1) = false := decide_eq_false c8
            clear c8
            have H' := Aside0.mk H
            clear H
            go_wp2
            go_loopg [5, 7] k1 (fun kq v5 v7 w' => ∃ (x5_2 : List Bool) (x7_2 : Int), v7 = .int .i64 x7_2 ∧ Aside0 (spec_l5Fits.l1 kq l0 a1 x5_2 x7_2 = some r) ∧ Aside0 (kq ≤ k1) ∧ Aside0 (Kd.R Kd.bool 4 w' w.heap.size (fun _ => True) v5 x5_2) ∧ Aside0 (Below w.heap.size w w'))
            case atStart => exact ⟨(x5_1), (0), (by first | rfl | (simp; done) | (simp only [i64_w]; first | done | rfl) | (simp [*]; done)), H', ⟨Nat.le_refl _⟩, ⟨by (with_reducible repeat (first | apply Kd.R_alloc | apply Kd.R_drewN | apply Kd.R_drew)); exact HO_5.out⟩, ⟨by repeat (first | (with_reducible first | exact HB.out | apply below_alloc | apply pw_below_drewN | apply below_drew1) | exact HB.out)⟩⟩
            case round =>
              clear H'
              try clear c1
              try clear p1
              try clear q1
              try clear hx1
              try clear p2
              try clear c4
              try clear c4b0
              try clear c4b1
              try clear c5
              try clear c5b0
              try clear c5b1
              try clear p6
              try clear c8
              try clear c8b0
              try clear c9
              try clear c9b0
              try clear c10
              try clear c10b0
              try clear p11
              try clear q11
              try clear hx11
              try clear hf11
              try clear hx11_0
              try clear p11
              try clear p2
              try clear p6
              try clear q11
              obtain ⟨x5_2, x7_2, rfl, HA, HK2, HO_5, HB⟩ := hrel
              cases gk with
              | zero => exact absurd HA.out (by simp [spec_l5Fits.l1])
              | succ k2 =>
                have H := HA.out
                clear HA
                simp only [spec_l5Fits.l1] at H
                by_cases c14 : x7_2 < (l0.length : Int)
                · rw [if_pos c14] at H
                  have c14b0 : decide (x7_2 < (l0.length : Int)) = true := decide_eq_true c14
                  clear c14
                  obtain ⟨ji15, hji15⟩ : ∃ j_ : Int, (wrap64 (a1 + 1)) = j_ := ⟨_, rfl⟩
                  replace H : (if 0 ≤ (ji15) then (if (ji15 : Int).toNat ≤ 281474976710656 then (spec_l5Fits.l2 k2 l0 a1 x5_2 x7_2 (List.replicate (ji15 : Int).toNat false) 0) else (none)) else (none)) = some r := by first | (rw [hji15] at H; exact H) | (simp only [hji15] at H ⊢; exact H)
                  (try (obtain rfl : ji15 = ji3 := hji15.symm.trans hji3))
                  have hji15w : (IntKind.i64.wrap (a1 + 1)) = ji15 := (i64_w _).trans hji15
                  by_cases c16 : 0 ≤ (ji15)
                  · rw [if_pos c16] at H
                    have c16b0 := eq_true c16
                    have c16b1 : decide (0 ≤ (ji15)) = true := decide_eq_true c16
                    clear c16
                    by_cases c17 : (ji15 : Int).toNat ≤ 281474976710656
                    · rw [if_pos c17] at H
                      have c17b0 := eq_true c17
                      have c17b1 : decide ((ji15 : Int).toNat ≤ 281474976710656) = true := decide_eq_true c17
                      clear c17
                      obtain ⟨y304, hy304⟩ : ∃ y_ : List Bool, y_ = (List.replicate (ji15 : Int).toNat false) := ⟨_, rfl⟩
                      replace H : (spec_l5Fits.l2 k2 l0 a1 x5_2 x7_2 y304 0) = some r := by first | (rw [hy304]; with_reducible exact H) | (have H2_ := (Option.bind_some _ _).symm.trans H; rw [hy304]; with_reducible exact H2_) | (have H2_ := (Option.bind_some _ _).symm.trans H; with_reducible exact H2_) | with_reducible exact H | (rw [hy304]; exact H) | exact H
                      have Ny304 := Aside0.mk hy304
                      clear hy304
                      have H' := Aside0.mk H
                      clear H
                      go_wp2_with (first | ((with_reducible refine gate_dst (N := 30) rfl ?_); refine Kd.R_make Kd.bool _ 4 rfl (N := 30) rfl 47 _ _ rfl ji15 rfl rfl Try.underlying47 (.bool false) 1 info4 rfl (by decide) (by omega) false (ok := fun _ => True) (okp := fun _ => True) rfl (fun _ hk => hk) trivial (of_decide_eq_true (by first | (with_reducible assumption) | assumption)) (Nat.le_trans (Nat.mul_le_mul_right _ (of_decide_eq_true (by first | (with_reducible assumption) | assumption) : ji15.toNat ≤ 281474976710656)) (by omega)) (Below.refl _ _) (Nat.le_refl _) ?_; intro v305 w18 ho19 hb hg_ hnew_; clear hg_ hnew_; (first | rw [← Ny304.out] at ho19 | (simp only [Int.reduceToNat] at ho19; rw [← Ny304.out] at ho19)); have n0_ := Aside0.mk (Kd.R_elder' (by (with_reducible repeat (first | apply Kd.R_alloc | apply Kd.R_drewN | apply Kd.R_drew)); exact HO_5.out) (Kd.R_base ho19) hb); have n1_ := Aside0.mk (Kd.R_lower (Kd.R_new' ho19 (Kd.R_lt (by (with_reducible repeat (first | apply Kd.R_alloc | apply Kd.R_drewN | apply Kd.R_drew)); exact HO_5.out))) (below_size (by repeat (first | (with_reducible first | exact HB.out | apply below_alloc | apply pw_below_drewN | apply below_drew1) | exact HB.out)))); have n2_ := Aside0.mk (below_step (by repeat (first | (with_reducible first | exact HB.out | apply below_alloc | apply pw_below_drewN | apply below_drew1) | exact HB.out)) hb); clear HO_5; clear HB; have HO_5 := n0_; have HO306 := n1_; have HB := n2_; clear n0_ n1_ n2_; clear hb ho19))
                      go_loopg [9] k2 (fun kq v9 w' => ∃ (x8_3 : List Bool) (x9_3 : Int), v9 = .int .i64 x9_3 ∧ Aside0 (spec_l5Fits.l2 kq l0 a1 x5_2 x7_2 x8_3 x9_3 = some r) ∧ Aside0 (kq ≤ k2) ∧ Aside0 (Kd.R Kd.bool 4 w' w.heap.size (fun k_ => some k_ ≠ (v305 : Value).ownBlock) u5 x5_2) ∧ Aside0 (Kd.R Kd.bool 4 w' w.heap.size (fun k_ => some k_ ≠ (u5 : Value).ownBlock) v305 x8_3) ∧ Aside0 (Below w.heap.size w w'))
                      case atStart => exact ⟨(y304), (0), (by first | rfl | (simp; done) | (simp only [i64_w]; first | done | rfl) | (simp [*]; done)), H', ⟨Nat.le_refl _⟩, ⟨by (with_reducible repeat (first | apply Kd.R_alloc | apply Kd.R_drewN | apply Kd.R_drew)); exact Kd.R_mono HO_5.out (fun _ hk => hk.2)⟩, ⟨by (with_reducible repeat (first | apply Kd.R_alloc | apply Kd.R_drewN | apply Kd.R_drew)); exact Kd.R_mono HO306.out (fun _ hk => hk.2)⟩, ⟨by repeat (first | (with_reducible first | exact HB.out | apply below_alloc | apply pw_below_drewN | apply below_drew1) | exact HB.out)⟩⟩
                      case round =>
                        clear H'
                        try clear c1
                        try clear p1
                        try clear q1
                        try clear hx1
                        try clear p2
                        try clear c4
                        try clear c4b0
                        try clear c4b1
                        try clear c5
                        try clear c5b0
                        try clear c5b1
                        try clear p6
                        try clear c8
                        try clear c8b0
                        try clear c9
                        try clear c9b0
                        try clear c10
                        try clear c10b0
                        try clear p11
                        try clear q11
                        try clear hx11
                        try clear hf11
                        try clear c14
                        try clear c14b0
                        try clear c16
                        try clear c16b0
                        try clear c16b1
                        try clear c17
                        try clear c17b0
                        try clear c17b1
                        try clear hx11_0
                        try clear p1
                        try clear p11
                        try clear p2
                        try clear p6
                        try clear q1
                        try clear q11
                        obtain ⟨x8_3, x9_3, rfl, HA, HK3, HO_5, HO_8, HB⟩ := hrel
                        cases gk with
                        | zero => exact absurd HA.out (by simp [spec_l5Fits.l2])
                        | succ k3 =>
                          have H := HA.out
                          clear HA
                          simp only [spec_l5Fits.l2] at H
                          by_cases c20 : x9_3 ≤ a1
                          · rw [if_pos c20] at H
                            have c20b0 : decide (x9_3 ≤ a1) = true := decide_eq_true c20
                            clear c20
                            have HC21 := Aside0.mk H
                            clear H
                            go_upto_region 13 with (fail)
                            go_cut [49] (fun v49 wc => ∃ (kq : Nat) (x49_20 : Bool), v49 = .bool x49_20 ∧ Aside0 (spec_l5Fits.j3 kq l0 a1 x5_2 x7_2 x8_3 x9_3 x49_20 = some r) ∧ Aside0 (kq ≤ k3) ∧ Aside0 (Kd.R Kd.bool 4 wc w.heap.size (fun k_ => some k_ ≠ (v305 : Value).ownBlock) u5 x5_2) ∧ Aside0 (Kd.R Kd.bool 4 wc w.heap.size (fun k_ => some k_ ≠ (u5 : Value).ownBlock) v305 x8_3) ∧ Aside0 (Below w.heap.size w wc))
                            case first =>
                              have H := HC21.out
                              clear HC21
                              by_cases c22 : 0 ≤ x9_3
                              · rw [if_pos c22] at H
                                have c22b0 : decide (0 ≤ x9_3) = true := decide_eq_true c22
                                clear c22
                                (first | rw [c22b0] | (simp only [i64_w, i32_w]; rw [c22b0]) | skip)
                                by_cases c23 : x9_3 < (x5_2.length : Int)
                                · rw [if_pos c23] at H
                                  have c23b0 : decide (x9_3 < (x5_2.length : Int)) = true := decide_eq_true c23
                                  clear c23
                                  obtain ⟨bq24, hbq24⟩ : ∃ b_ : Bool, b_ = (rdOf false x5_2 x9_3) := ⟨_, rfl⟩
                                  replace H : (if bq24 = true then (if 0 ≤ x7_2 then (if x7_2 < (l0.length : Int) then (spec_l5Fits.j3 k3 l0 a1 x5_2 x7_2 x8_3 x9_3 (decide ((wrap64 (x9_3 + (rd l0 x7_2))) ≤ a1))) else (none)) else (none)) else (spec_l5Fits.j3 k3 l0 a1 x5_2 x7_2 x8_3 x9_3 false)) = some r := by rw [← hbq24] at H; exact H
                                  have Nbq24 := Aside0.mk hbq24
                                  clear hbq24
                                  by_cases c25 : bq24 = true
                                  · subst c25
                                    have H1 : (if 0 ≤ x7_2 then (if x7_2 < (l0.length : Int) then (spec_l5Fits.j3 k3 l0 a1 x5_2 x7_2 x8_3 x9_3 (decide ((wrap64 (x9_3 + (rd l0 x7_2))) ≤ a1))) else (none)) else (none)) = some r := by rw [if_pos rfl] at H; exact H
                                    clear H
                                    have H := H1
                                    clear H1
                                    by_cases c26 : 0 ≤ x7_2
                                    · rw [if_pos c26] at H
                                      have c26b0 : decide (0 ≤ x7_2) = true := decide_eq_true c26
                                      clear c26
                                      by_cases c27 : x7_2 < (l0.length : Int)
                                      · rw [if_pos c27] at H
                                        have c27b0 : decide (x7_2 < (l0.length : Int)) = true := decide_eq_true c27
                                        clear c27
                                        have H' := Aside0.mk H
                                        clear H
                                        obtain ⟨Ao28, co28, eo28⟩ := Kd.R_slice HO_5.out
                                        subst eo28
                                        have p307 : 0 ≤ (x9_3 : Int) := of_decide_eq_true (by first | (with_reducible assumption) | assumption)
                                        have q307 : x9_3 < (x5_2.length : Int) := of_decide_eq_true (by first | (with_reducible assumption) | assumption)
                                        obtain ⟨ad307, e307, hx307_0⟩ := Kd.at_bool (Kd.R_reads' HO_5.out).2.2 x9_3 p307 q307
                                        (try rw [← Nbq24.out] at hx307_0)
                                        cases e307
                                        replace p307 := eq_true p307
                                        replace q307 := eq_true q307
                                        have p308 : 0 ≤ (x7_2 : Int) := of_decide_eq_true (by first | (with_reducible assumption) | assumption)
                                        have q308 : x7_2 < (l0.length : Int) := of_decide_eq_true (by first | (with_reducible assumption) | assumption)
                                        obtain ⟨ad308, e308, hx308_0⟩ := Kd.at_int HR0.out x7_2 p308 q308
                                        cases e308
                                        replace hx308_0 := (HB.out.cell (World.block_lt_of_cell? w _ hx308_0)).trans hx308_0
                                        replace p308 := eq_true p308
                                        replace q308 := eq_true q308
                                        go_wp2
                                        go_meet
                                        case rel => exact ⟨_, (decide ((wrap64 (x9_3 + (rd l0 x7_2))) ≤ a1)), (by first | rfl | (simp; done) | (simp only [i64_w]; first | done | rfl) | (simp [*]; done)), H', ⟨by have := HK1.out; have := HK2.out; have := HK3.out; first | omega | exact Nat.le_refl _⟩, ⟨by (with_reducible repeat (first | apply Kd.R_alloc | apply Kd.R_drewN | apply Kd.R_drew)); exact HO_5.out⟩, ⟨by (with_reducible repeat (first | apply Kd.R_alloc | apply Kd.R_drewN | apply Kd.R_drew)); exact HO_8.out⟩, ⟨by repeat (first | (with_reducible first | exact HB.out | apply below_alloc | apply pw_below_drewN | apply below_drew1) | exact HB.out)⟩⟩
                                      · rw [if_neg c27] at H
                                        exact absurd H (by simp)
                                    · rw [if_neg c26] at H
                                      exact absurd H (by simp)
                                  · replace c25 := Bool.eq_false_iff.mpr c25
                                    subst c25
                                    have H1 : (spec_l5Fits.j3 k3 l0 a1 x5_2 x7_2 x8_3 x9_3 false) = some r := by rw [if_neg (show ¬ (false = true) by decide)] at H; exact H
                                    clear H
                                    have H := H1
                                    clear H1
                                    have H' := Aside0.mk H
                                    clear H
                                    obtain ⟨Ao29, co29, eo29⟩ := Kd.R_slice HO_5.out
                                    subst eo29
                                    have p307 : 0 ≤ (x9_3 : Int) := of_decide_eq_true (by first | (with_reducible assumption) | assumption)
                                    have q307 : x9_3 < (x5_2.length : Int) := of_decide_eq_true (by first | (with_reducible assumption) | assumption)
                                    obtain ⟨ad307, e307, hx307_0⟩ := Kd.at_bool (Kd.R_reads' HO_5.out).2.2 x9_3 p307 q307
                                    (try rw [← Nbq24.out] at hx307_0)
                                    cases e307
                                    replace p307 := eq_true p307
                                    replace q307 := eq_true q307
                                    go_wp2
                                    go_meet
                                    case rel => exact ⟨_, (false), (by first | rfl | (simp; done) | (simp only [i64_w]; first | done | rfl) | (simp [*]; done)), H', ⟨by have := HK1.out; have := HK2.out; have := HK3.out; first | omega | exact Nat.le_refl _⟩, ⟨by (with_reducible repeat (first | apply Kd.R_alloc | apply Kd.R_drewN | apply Kd.R_drew)); exact HO_5.out⟩, ⟨by (with_reducible repeat (first | apply Kd.R_alloc | apply Kd.R_drewN | apply Kd.R_drew)); exact HO_8.out⟩, ⟨by repeat (first | (with_reducible first | exact HB.out | apply below_alloc | apply pw_below_drewN | apply below_drew1) | exact HB.out)⟩⟩
                                · rw [if_neg c23] at H
                                  exact absurd H (by simp)
                              · rw [if_neg c22] at H
                                exact absurd H (by simp)
                            case rest =>
                              clear HC21
                              try clear c1
                              try clear p1
                              try clear q1
                              try clear hx1
                              try clear c2
                              try clear p2
                              try clear q2
                              try clear p3
                              try clear q3
                              try clear hx3
                              try clear c4
                              try clear c4b0
                              try clear c4b1
                              try clear c5
                              try clear c5b0
                              try clear c5b1
                              try clear p6
                              try clear c8
                              try clear c8b0
                              try clear c9
                              try clear c9b0
                              try clear c10
                              try clear c10b0
                              try clear p11
                              try clear q11
                              try clear hx11
                              try clear hf11
                              try clear c14
                              try clear c14b0
                              try clear c16
                              try clear c16b0
                              try clear c16b1
                              try clear c17
                              try clear c17b0
                              try clear c17b1
                              try clear c20
                              try clear c20b0
                              try clear c22
                              try clear c22b0
                              try clear c23
                              try clear c23b0
                              try clear q24
                              try clear c25
                              try clear c26
                              try clear c26b0
                              try clear c27
                              try clear c27b0
                              try clear hx11_0
                              try clear hx307_0
                              try clear hx308_0
                              try clear p1
                              try clear p11
                              try clear p2
                              try clear p307
                              try clear p308
                              try clear p6
                              try clear q1
                              try clear q11
                              try clear q307
                              try clear q308
                              obtain ⟨kq, x49_20, rfl, HA, HJ20, HO_5, HO_8, HB⟩ := hcut
                              cases kq with
                              | zero => exact absurd HA.out (by simp [spec_l5Fits.j3])
                              | succ kj20 =>
                                have H := HA.out
                                clear HA
                                simp only [spec_l5Fits.j3] at H
                                by_cases c30 : x49_20 = true
                                · subst c30
                                  have H1 : (if 0 ≤ x7_2 then (if x7_2 < (l0.length : Int) then (if 0 ≤ (wrap64 (x9_3 + (rd l0 x7_2))) then (if (wrap64 (x9_3 + (rd l0 x7_2))) < (x8_3.length : Int) then ((some (x8_3.set ((wrap64 (x9_3 + (rd l0 x7_2))) : Int).toNat true : List Bool)).bind fun y310 => (if 0 ≤ x9_3 then (if x9_3 < (x5_2.length : Int) then (if rdOf false x5_2 x9_3 = true then (if x9_3 ≥ (rd l0 x7_2) then (if 0 ≤ (wrap64 (x9_3 - (rd l0 x7_2))) then (if (wrap64 (x9_3 - (rd l0 x7_2))) < (x8_3.length : Int) then (spec_l5Fits.l2 kj20 l0 a1 x5_2 x7_2 (y310.set ((wrap64 (x9_3 - (rd l0 x7_2))) : Int).toNat true) (wrap64 (x9_3 + 1))) else (none)) else (none)) else (spec_l5Fits.l2 kj20 l0 a1 x5_2 x7_2 y310 (wrap64 (x9_3 + 1)))) else (spec_l5Fits.l2 kj20 l0 a1 x5_2 x7_2 y310 (wrap64 (x9_3 + 1)))) else (none)) else (none))) else (none)) else (none)) else (none)) else (none)) = some r := by rw [if_pos rfl] at H; exact H
                                  clear H
                                  have H := H1
                                  clear H1
                                  by_cases c31 : 0 ≤ x7_2
                                  · rw [if_pos c31] at H
                                    have c31b0 : decide (0 ≤ x7_2) = true := decide_eq_true c31
                                    clear c31
                                    by_cases c32 : x7_2 < (l0.length : Int)
                                    · rw [if_pos c32] at H
                                      have c32b0 : decide (x7_2 < (l0.length : Int)) = true := decide_eq_true c32
                                      clear c32
                                      obtain ⟨ji33, hji33⟩ : ∃ j_ : Int, (wrap64 (x9_3 + (rd l0 x7_2))) = j_ := ⟨_, rfl⟩
                                      replace H : (if 0 ≤ (ji33) then (if (ji33) < (x8_3.length : Int) then ((some (x8_3.set ((ji33) : Int).toNat true : List Bool)).bind fun y310 => (if 0 ≤ x9_3 then (if x9_3 < (x5_2.length : Int) then (if rdOf false x5_2 x9_3 = true then (if x9_3 ≥ (rd l0 x7_2) then (if 0 ≤ (wrap64 (x9_3 - (rd l0 x7_2))) then (if (wrap64 (x9_3 - (rd l0 x7_2))) < (x8_3.length : Int) then (spec_l5Fits.l2 kj20 l0 a1 x5_2 x7_2 (y310.set ((wrap64 (x9_3 - (rd l0 x7_2))) : Int).toNat true) (wrap64 (x9_3 + 1))) else (none)) else (none)) else (spec_l5Fits.l2 kj20 l0 a1 x5_2 x7_2 y310 (wrap64 (x9_3 + 1)))) else (spec_l5Fits.l2 kj20 l0 a1 x5_2 x7_2 y310 (wrap64 (x9_3 + 1)))) else (none)) else (none))) else (none)) else (none)) = some r := by first | (rw [hji33] at H; exact H) | (simp only [hji33] at H ⊢; exact H)
                                      have hji33w : (IntKind.i64.wrap (x9_3 + (rd l0 x7_2))) = ji33 := (i64_w _).trans hji33
                                      by_cases c34 : 0 ≤ (ji33)
                                      · rw [if_pos c34] at H
                                        have c34b0 : decide (0 ≤ (ji33)) = true := decide_eq_true c34
                                        clear c34
                                        by_cases c35 : (ji33) < (x8_3.length : Int)
                                        · rw [if_pos c35] at H
                                          have c35b0 : decide ((ji33) < (x8_3.length : Int)) = true := decide_eq_true c35
                                          clear c35
                                          obtain ⟨y310, hy310⟩ : ∃ y_ : List Bool, y_ = (x8_3.set ((ji33) : Int).toNat true) := ⟨_, rfl⟩
                                          replace H : (if 0 ≤ x9_3 then (if x9_3 < (x5_2.length : Int) then (if rdOf false x5_2 x9_3 = true then (if x9_3 ≥ (rd l0 x7_2) then (if 0 ≤ (wrap64 (x9_3 - (rd l0 x7_2))) then (if (wrap64 (x9_3 - (rd l0 x7_2))) < (x8_3.length : Int) then (spec_l5Fits.l2 kj20 l0 a1 x5_2 x7_2 (y310.set ((wrap64 (x9_3 - (rd l0 x7_2))) : Int).toNat true) (wrap64 (x9_3 + 1))) else (none)) else (none)) else (spec_l5Fits.l2 kj20 l0 a1 x5_2 x7_2 y310 (wrap64 (x9_3 + 1)))) else (spec_l5Fits.l2 kj20 l0 a1 x5_2 x7_2 y310 (wrap64 (x9_3 + 1)))) else (none)) else (none)) = some r := by first | (rw [hy310]; with_reducible exact H) | (have H2_ := (Option.bind_some _ _).symm.trans H; rw [hy310]; with_reducible exact H2_) | (have H2_ := (Option.bind_some _ _).symm.trans H; with_reducible exact H2_) | with_reducible exact H | (rw [hy310]; exact H) | exact H
                                          have Ny310 := Aside0.mk hy310
                                          clear hy310
                                          by_cases c37 : 0 ≤ x9_3
                                          · rw [if_pos c37] at H
                                            have c37b0 : decide (0 ≤ x9_3) = true := decide_eq_true c37
                                            clear c37
                                            by_cases c38 : x9_3 < (x5_2.length : Int)
                                            · rw [if_pos c38] at H
                                              have c38b0 : decide (x9_3 < (x5_2.length : Int)) = true := decide_eq_true c38
                                              clear c38
                                              obtain ⟨bq39, hbq39⟩ : ∃ b_ : Bool, b_ = (rdOf false x5_2 x9_3) := ⟨_, rfl⟩
                                              replace H : (if bq39 = true then (if x9_3 ≥ (rd l0 x7_2) then (if 0 ≤ (wrap64 (x9_3 - (rd l0 x7_2))) then (if (wrap64 (x9_3 - (rd l0 x7_2))) < (x8_3.length : Int) then (spec_l5Fits.l2 kj20 l0 a1 x5_2 x7_2 (y310.set ((wrap64 (x9_3 - (rd l0 x7_2))) : Int).toNat true) (wrap64 (x9_3 + 1))) else (none)) else (none)) else (spec_l5Fits.l2 kj20 l0 a1 x5_2 x7_2 y310 (wrap64 (x9_3 + 1)))) else (spec_l5Fits.l2 kj20 l0 a1 x5_2 x7_2 y310 (wrap64 (x9_3 + 1)))) = some r := by rw [← hbq39] at H; exact H
                                              have Nbq39 := Aside0.mk hbq39
                                              clear hbq39
                                              by_cases c40 : bq39 = true
                                              · subst c40
                                                have H1 : (if x9_3 ≥ (rd l0 x7_2) then (if 0 ≤ (wrap64 (x9_3 - (rd l0 x7_2))) then (if (wrap64 (x9_3 - (rd l0 x7_2))) < (x8_3.length : Int) then (spec_l5Fits.l2 kj20 l0 a1 x5_2 x7_2 (y310.set ((wrap64 (x9_3 - (rd l0 x7_2))) : Int).toNat true) (wrap64 (x9_3 + 1))) else (none)) else (none)) else (spec_l5Fits.l2 kj20 l0 a1 x5_2 x7_2 y310 (wrap64 (x9_3 + 1)))) = some r := by rw [if_pos rfl] at H; exact H
                                                clear H
                                                have H := H1
                                                clear H1
                                                by_cases c41 : x9_3 ≥ (rd l0 x7_2)
                                                · rw [if_pos c41] at H
                                                  have c41b0 : decide ((rd l0 x7_2) ≤ x9_3) = true := decide_eq_true c41
                                                  clear c41
                                                  obtain ⟨ji42, hji42⟩ : ∃ j_ : Int, (wrap64 (x9_3 - (rd l0 x7_2))) = j_ := ⟨_, rfl⟩
                                                  replace H : (if 0 ≤ (ji42) then (if (ji42) < (x8_3.length : Int) then (spec_l5Fits.l2 kj20 l0 a1 x5_2 x7_2 (y310.set ((ji42) : Int).toNat true) (wrap64 (x9_3 + 1))) else (none)) else (none)) = some r := by first | (rw [hji42] at H; exact H) | (simp only [hji42] at H ⊢; exact H)
                                                  have hji42w : (IntKind.i64.wrap (x9_3 - (rd l0 x7_2))) = ji42 := (i64_w _).trans hji42
                                                  by_cases c43 : 0 ≤ (ji42)
                                                  · rw [if_pos c43] at H
                                                    have c43b0 : decide (0 ≤ (ji42)) = true := decide_eq_true c43
                                                    clear c43
                                                    by_cases c44 : (ji42) < (x8_3.length : Int)
                                                    · rw [if_pos c44] at H
                                                      have c44b0 : decide ((ji42) < (x8_3.length : Int)) = true := decide_eq_true c44
                                                      clear c44
                                                      obtain ⟨y314, hy314⟩ : ∃ y_ : List Bool, y_ = (y310.set ((ji42) : Int).toNat true) := ⟨_, rfl⟩
                                                      replace H : (spec_l5Fits.l2 kj20 l0 a1 x5_2 x7_2 y314 (wrap64 (x9_3 + 1))) = some r := by first | (rw [hy314]; with_reducible exact H) | (have H2_ := (Option.bind_some _ _).symm.trans H; rw [hy314]; with_reducible exact H2_) | (have H2_ := (Option.bind_some _ _).symm.trans H; with_reducible exact H2_) | with_reducible exact H | (rw [hy314]; exact H) | exact H
                                                      have Ny314 := Aside0.mk hy314
                                                      clear hy314
                                                      have H' := Aside0.mk H
                                                      clear H
                                                      have p309 : 0 ≤ (x7_2 : Int) := of_decide_eq_true (by first | (with_reducible assumption) | assumption)
                                                      have q309 : x7_2 < (l0.length : Int) := of_decide_eq_true (by first | (with_reducible assumption) | assumption)
                                                      obtain ⟨ad309, e309, hx309_0⟩ := Kd.at_int HR0.out x7_2 p309 q309
                                                      cases e309
                                                      replace hx309_0 := (HB.out.cell (World.block_lt_of_cell? w _ hx309_0)).trans hx309_0
                                                      replace p309 := eq_true p309
                                                      replace q309 := eq_true q309
                                                      have p36 : 0 ≤ ((ji33) : Int) := of_decide_eq_true (by first | (with_reducible assumption) | assumption)
                                                      have q36 : ((ji33) : Int) < ((x8_3.length : Int) : Int) := of_decide_eq_true (by first | (with_reducible assumption) | assumption)
                                                      obtain ⟨go36, co36, eo36, gb36, gl36, cl36, HG36⟩ := Kd.R_form HO_8.out (by omega)
                                                      (first | cases eo36 | (injection eo36 with ea_ en_ ec_; (first | subst ea_ | (injection ea_ with ea_; subst ea_)); subst ec_; clear en_))
                                                      have GB36 := Aside0.mk gb36
                                                      have GG36 := Aside0.mk HG36
                                                      clear gb36 gl36 HG36
                                                      obtain ⟨hx36_0, hf36_0⟩ := Kd.R_celln false HO_8.out ((ji33) : Int) p36 q36
                                                      replace p36 := eq_true p36
                                                      replace q36 := eq_true q36
                                                      have HP46 := Kd.R_putg HO_8.out ((ji33) : Int) true
                                                      go_wp2_with (first | ((with_reducible refine gate_store (t := 4) (p := 57) rfl ?_); refine store_event (t := 4) (p := 57) (v := ?vo_w47) (w1 := (wc.setCell ⟨go36, ((ji33) : Int).toNat, none⟩ (.bool true))) ?hg ?ho ?hn ?hr ?_; (case ho => rfl); (case hg => rfl); (case hn => rfl); (case hr => first | (go_simp; done) | (go_simp; rfl)); intro w47 hw; have hg : wc.grownBy w47 (some go36) := (by rw [hw]; exact HP46.2); have hp_ : Kd.R Kd.bool 4 w47 w.heap.size (fun k_ => some k_ ≠ (u5 : Value).ownBlock) (.slice (some ⟨go36, 0, none⟩) x8_3.length co36) y310 := (by rw [hw, Ny310.out]; exact HP46.1); clear HP46; have n0_ := Aside0.mk (Kd.R_after (v := (.slice (some ⟨go36, 0, none⟩) x8_3.length co36)) (v1 := (.slice (some ⟨go36, 0, none⟩) x8_3.length co36)) (ok := (fun _ => True)) (by (with_reducible repeat (first | apply Kd.R_alloc | apply Kd.R_drewN | apply Kd.R_drew)); exact Kd.R_mono HO_5.out (fun _ hk => ⟨trivial, hk⟩)) hg (.inl rfl)); have n1_ := Aside0.mk (hp_); have n2_ := Aside0.mk ((by rw [hw]; exact below_set (HB.out) GB36.out : Below w.heap.size w w47)); clear HO_5; clear HO_8; clear HB; have HO_5 := n0_; have HO_8 := n1_; have HB := n2_; clear n0_ n1_ n2_; clear hg hw hp_; obtain ⟨Ao48, co48, eo48⟩ := Kd.R_slice HO_5.out; subst eo48; have p311 : 0 ≤ (x9_3 : Int) := of_decide_eq_true (by first | (with_reducible assumption) | assumption); have q311 : x9_3 < (x5_2.length : Int) := of_decide_eq_true (by first | (with_reducible assumption) | assumption); obtain ⟨ad311, e311, hx311_0⟩ := Kd.at_bool (Kd.R_reads' HO_5.out).2.2 x9_3 p311 q311; (try rw [← Nbq39.out] at hx311_0); cases e311; replace p311 := eq_true p311; replace q311 := eq_true q311; have p312 : 0 ≤ (x7_2 : Int) := of_decide_eq_true (by first | (with_reducible assumption) | assumption); have q312 : x7_2 < (l0.length : Int) := of_decide_eq_true (by first | (with_reducible assumption) | assumption); obtain ⟨ad312, e312, hx312_0⟩ := Kd.at_int HR0.out x7_2 p312 q312; obtain rfl : ad309 = ad312 := (by injection e312); replace hx312_0 := (HB.out.cell (World.block_lt_of_cell? w _ hx312_0)).trans hx312_0; replace p312 := eq_true p312; replace q312 := eq_true q312; have p313 : 0 ≤ (x7_2 : Int) := of_decide_eq_true (by first | (with_reducible assumption) | assumption); have q313 : x7_2 < (l0.length : Int) := of_decide_eq_true (by first | (with_reducible assumption) | assumption); obtain ⟨ad313, e313, hx313_0⟩ := Kd.at_int HR0.out x7_2 p313 q313; obtain rfl : ad309 = ad313 := (by injection e313); replace hx313_0 := (HB.out.cell (World.block_lt_of_cell? w _ hx313_0)).trans hx313_0; replace p313 := eq_true p313; replace q313 := eq_true q313; have p45 : 0 ≤ ((ji42) : Int) := of_decide_eq_true (by first | (with_reducible assumption) | assumption); have q45 : ((ji42) : Int) < ((x8_3.length : Int) : Int) := of_decide_eq_true (by first | (with_reducible assumption) | assumption); obtain ⟨hx45_0, hf45_0⟩ := Kd.R_celln false HO_8.out ((ji42) : Int) p45 q45; replace p45 := eq_true p45; replace q45 := eq_true q45; obtain ⟨hy49_, hz49_⟩ := Kd.R_celln false HO_8.out ((ji42) : Int) (of_decide_eq_true (by first | (with_reducible assumption) | assumption)) (of_decide_eq_true (by first | (with_reducible assumption) | assumption)); have HP49 := Kd.R_putg HO_8.out ((ji42) : Int) true) | ((with_reducible refine gate_store (t := 4) (p := 77) rfl ?_); refine store_event (t := 4) (p := 77) (v := ?vo_w50) (w1 := (w47.setCell ⟨go36, ((ji42) : Int).toNat, none⟩ (.bool true))) ?hg ?ho ?hn ?hr ?_; (case ho => rfl); (case hg => rfl); (case hn => rfl); (case hr => first | (go_simp; done) | (go_simp; rfl)); intro w50 hw; have hg : w47.grownBy w50 (some go36) := (by rw [hw]; exact HP49.2); have hp_ : Kd.R Kd.bool 4 w50 w.heap.size (fun k_ => some k_ ≠ (.slice (some ad311) x5_2.length co48 : Value).ownBlock) (.slice (some ⟨go36, 0, none⟩) x8_3.length co36) y314 := (by rw [hw, Ny314.out]; exact HP49.1); clear HP49; have n0_ := Aside0.mk (Kd.R_after (v := (.slice (some ⟨go36, 0, none⟩) x8_3.length co36)) (v1 := (.slice (some ⟨go36, 0, none⟩) x8_3.length co36)) (ok := (fun _ => True)) (by (with_reducible repeat (first | apply Kd.R_alloc | apply Kd.R_drewN | apply Kd.R_drew)); exact HO_5.out) hg (.inl rfl)); have n1_ := Aside0.mk (hp_); have n2_ := Aside0.mk ((by rw [hw]; exact below_set (HB.out) GB36.out : Below w.heap.size w w50)); clear HO_5; clear HO_8; clear HB; have HO_5 := n0_; have HO_8 := n1_; have HB := n2_; clear n0_ n1_ n2_; clear hg hw hp_))
                                                      first | go_roundg kj20 | (subst hji42; go_roundg kj20) | (subst hji33; go_roundg kj20) | (subst hji15; go_roundg kj20) | (subst hji3; go_roundg kj20)
                                                      case measure => have := HK1.out; have := HK2.out; have := HK3.out; have := HJ20.out; omega
                                                      case rel => exact ⟨(y314), (wrap64 (x9_3 + 1)), (by first | rfl | (simp; done) | (simp only [i64_w]; first | done | rfl) | (simp [*]; done)), H', ⟨by have := HK1.out; have := HK2.out; have := HK3.out; have := HJ20.out; omega⟩, ⟨by (with_reducible repeat (first | apply Kd.R_alloc | apply Kd.R_drewN | apply Kd.R_drew)); exact Kd.R_mono HO_5.out (fun _ hk => hk.2)⟩, ⟨by (with_reducible repeat (first | apply Kd.R_alloc | apply Kd.R_drewN | apply Kd.R_drew)); exact HO_8.out⟩, ⟨by repeat (first | (with_reducible first | exact HB.out | apply below_alloc | apply pw_below_drewN | apply below_drew1) | exact HB.out)⟩⟩
                                                    · rw [if_neg c44] at H
                                                      exact absurd H (by simp)
                                                  · rw [if_neg c43] at H
                                                    exact absurd H (by simp)
                                                · rw [if_neg c41] at H
                                                  have c41b0 : decide ((rd l0 x7_2) ≤ x9_3) = false := decide_eq_false c41
                                                  clear c41
                                                  have H' := Aside0.mk H
                                                  clear H
                                                  have p309 : 0 ≤ (x7_2 : Int) := of_decide_eq_true (by first | (with_reducible assumption) | assumption)
                                                  have q309 : x7_2 < (l0.length : Int) := of_decide_eq_true (by first | (with_reducible assumption) | assumption)
                                                  obtain ⟨ad309, e309, hx309_0⟩ := Kd.at_int HR0.out x7_2 p309 q309
                                                  cases e309
                                                  replace hx309_0 := (HB.out.cell (World.block_lt_of_cell? w _ hx309_0)).trans hx309_0
                                                  replace p309 := eq_true p309
                                                  replace q309 := eq_true q309
                                                  have p36 : 0 ≤ ((ji33) : Int) := of_decide_eq_true (by first | (with_reducible assumption) | assumption)
                                                  have q36 : ((ji33) : Int) < ((x8_3.length : Int) : Int) := of_decide_eq_true (by first | (with_reducible assumption) | assumption)
                                                  obtain ⟨go36, co36, eo36, gb36, gl36, cl36, HG36⟩ := Kd.R_form HO_8.out (by omega)
                                                  (first | cases eo36 | (injection eo36 with ea_ en_ ec_; (first | subst ea_ | (injection ea_ with ea_; subst ea_)); subst ec_; clear en_))
                                                  have GB36 := Aside0.mk gb36
                                                  have GG36 := Aside0.mk HG36
                                                  clear gb36 gl36 HG36
                                                  obtain ⟨hx36_0, hf36_0⟩ := Kd.R_celln false HO_8.out ((ji33) : Int) p36 q36
                                                  replace p36 := eq_true p36
                                                  replace q36 := eq_true q36
                                                  have HP51 := Kd.R_putg HO_8.out ((ji33) : Int) true
                                                  go_wp2_with (first | ((with_reducible refine gate_store (t := 4) (p := 57) rfl ?_); refine store_event (t := 4) (p := 57) (v := ?vo_w52) (w1 := (wc.setCell ⟨go36, ((ji33) : Int).toNat, none⟩ (.bool true))) ?hg ?ho ?hn ?hr ?_; (case ho => rfl); (case hg => rfl); (case hn => rfl); (case hr => first | (go_simp; done) | (go_simp; rfl)); intro w52 hw; have hg : wc.grownBy w52 (some go36) := (by rw [hw]; exact HP51.2); have hp_ : Kd.R Kd.bool 4 w52 w.heap.size (fun k_ => some k_ ≠ (u5 : Value).ownBlock) (.slice (some ⟨go36, 0, none⟩) x8_3.length co36) y310 := (by rw [hw, Ny310.out]; exact HP51.1); clear HP51; have n0_ := Aside0.mk (Kd.R_after (v := (.slice (some ⟨go36, 0, none⟩) x8_3.length co36)) (v1 := (.slice (some ⟨go36, 0, none⟩) x8_3.length co36)) (ok := (fun _ => True)) (by (with_reducible repeat (first | apply Kd.R_alloc | apply Kd.R_drewN | apply Kd.R_drew)); exact Kd.R_mono HO_5.out (fun _ hk => ⟨trivial, hk⟩)) hg (.inl rfl)); have n1_ := Aside0.mk (hp_); have n2_ := Aside0.mk ((by rw [hw]; exact below_set (HB.out) GB36.out : Below w.heap.size w w52)); clear HO_5; clear HO_8; clear HB; have HO_5 := n0_; have HO_8 := n1_; have HB := n2_; clear n0_ n1_ n2_; clear hg hw hp_; obtain ⟨Ao53, co53, eo53⟩ := Kd.R_slice HO_5.out; subst eo53; have p311 : 0 ≤ (x9_3 : Int) := of_decide_eq_true (by first | (with_reducible assumption) | assumption); have q311 : x9_3 < (x5_2.length : Int) := of_decide_eq_true (by first | (with_reducible assumption) | assumption); obtain ⟨ad311, e311, hx311_0⟩ := Kd.at_bool (Kd.R_reads' HO_5.out).2.2 x9_3 p311 q311; (try rw [← Nbq39.out] at hx311_0); cases e311; replace p311 := eq_true p311; replace q311 := eq_true q311; have p312 : 0 ≤ (x7_2 : Int) := of_decide_eq_true (by first | (with_reducible assumption) | assumption); have q312 : x7_2 < (l0.length : Int) := of_decide_eq_true (by first | (with_reducible assumption) | assumption); obtain ⟨ad312, e312, hx312_0⟩ := Kd.at_int HR0.out x7_2 p312 q312; obtain rfl : ad309 = ad312 := (by injection e312); replace hx312_0 := (HB.out.cell (World.block_lt_of_cell? w _ hx312_0)).trans hx312_0; replace p312 := eq_true p312; replace q312 := eq_true q312))
                                                  first | go_roundg kj20 | (subst hji33; go_roundg kj20) | (subst hji15; go_roundg kj20) | (subst hji3; go_roundg kj20)
                                                  case measure => have := HK1.out; have := HK2.out; have := HK3.out; have := HJ20.out; omega
                                                  case rel => exact ⟨(y310), (wrap64 (x9_3 + 1)), (by first | rfl | (simp; done) | (simp only [i64_w]; first | done | rfl) | (simp [*]; done)), H', ⟨by have := HK1.out; have := HK2.out; have := HK3.out; have := HJ20.out; omega⟩, ⟨by (with_reducible repeat (first | apply Kd.R_alloc | apply Kd.R_drewN | apply Kd.R_drew)); exact Kd.R_mono HO_5.out (fun _ hk => hk.2)⟩, ⟨by (with_reducible repeat (first | apply Kd.R_alloc | apply Kd.R_drewN | apply Kd.R_drew)); exact HO_8.out⟩, ⟨by repeat (first | (with_reducible first | exact HB.out | apply below_alloc | apply pw_below_drewN | apply below_drew1) | exact HB.out)⟩⟩
                                              · replace c40 := Bool.eq_false_iff.mpr c40
                                                subst c40
                                                have H1 : (spec_l5Fits.l2 kj20 l0 a1 x5_2 x7_2 y310 (wrap64 (x9_3 + 1))) = some r := by rw [if_neg (show ¬ (false = true) by decide)] at H; exact H
                                                clear H
                                                have H := H1
                                                clear H1
                                                have H' := Aside0.mk H
                                                clear H
                                                have p309 : 0 ≤ (x7_2 : Int) := of_decide_eq_true (by first | (with_reducible assumption) | assumption)
                                                have q309 : x7_2 < (l0.length : Int) := of_decide_eq_true (by first | (with_reducible assumption) | assumption)
                                                obtain ⟨ad309, e309, hx309_0⟩ := Kd.at_int HR0.out x7_2 p309 q309
                                                cases e309
                                                replace hx309_0 := (HB.out.cell (World.block_lt_of_cell? w _ hx309_0)).trans hx309_0
                                                replace p309 := eq_true p309
                                                replace q309 := eq_true q309
                                                have p36 : 0 ≤ ((ji33) : Int) := of_decide_eq_true (by first | (with_reducible assumption) | assumption)
                                                have q36 : ((ji33) : Int) < ((x8_3.length : Int) : Int) := of_decide_eq_true (by first | (with_reducible assumption) | assumption)
                                                obtain ⟨go36, co36, eo36, gb36, gl36, cl36, HG36⟩ := Kd.R_form HO_8.out (by omega)
                                                (first | cases eo36 | (injection eo36 with ea_ en_ ec_; (first | subst ea_ | (injection ea_ with ea_; subst ea_)); subst ec_; clear en_))
                                                have GB36 := Aside0.mk gb36
                                                have GG36 := Aside0.mk HG36
                                                clear gb36 gl36 HG36
                                                obtain ⟨hx36_0, hf36_0⟩ := Kd.R_celln false HO_8.out ((ji33) : Int) p36 q36
                                                replace p36 := eq_true p36
                                                replace q36 := eq_true q36
                                                have HP54 := Kd.R_putg HO_8.out ((ji33) : Int) true
                                                go_wp2_with (first | ((with_reducible refine gate_store (t := 4) (p := 57) rfl ?_); refine store_event (t := 4) (p := 57) (v := ?vo_w55) (w1 := (wc.setCell ⟨go36, ((ji33) : Int).toNat, none⟩ (.bool true))) ?hg ?ho ?hn ?hr ?_; (case ho => rfl); (case hg => rfl); (case hn => rfl); (case hr => first | (go_simp; done) | (go_simp; rfl)); intro w55 hw; have hg : wc.grownBy w55 (some go36) := (by rw [hw]; exact HP54.2); have hp_ : Kd.R Kd.bool 4 w55 w.heap.size (fun k_ => some k_ ≠ (u5 : Value).ownBlock) (.slice (some ⟨go36, 0, none⟩) x8_3.length co36) y310 := (by rw [hw, Ny310.out]; exact HP54.1); clear HP54; have n0_ := Aside0.mk (Kd.R_after (v := (.slice (some ⟨go36, 0, none⟩) x8_3.length co36)) (v1 := (.slice (some ⟨go36, 0, none⟩) x8_3.length co36)) (ok := (fun _ => True)) (by (with_reducible repeat (first | apply Kd.R_alloc | apply Kd.R_drewN | apply Kd.R_drew)); exact Kd.R_mono HO_5.out (fun _ hk => ⟨trivial, hk⟩)) hg (.inl rfl)); have n1_ := Aside0.mk (hp_); have n2_ := Aside0.mk ((by rw [hw]; exact below_set (HB.out) GB36.out : Below w.heap.size w w55)); clear HO_5; clear HO_8; clear HB; have HO_5 := n0_; have HO_8 := n1_; have HB := n2_; clear n0_ n1_ n2_; clear hg hw hp_; obtain ⟨Ao56, co56, eo56⟩ := Kd.R_slice HO_5.out; subst eo56; have p311 : 0 ≤ (x9_3 : Int) := of_decide_eq_true (by first | (with_reducible assumption) | assumption); have q311 : x9_3 < (x5_2.length : Int) := of_decide_eq_true (by first | (with_reducible assumption) | assumption); obtain ⟨ad311, e311, hx311_0⟩ := Kd.at_bool (Kd.R_reads' HO_5.out).2.2 x9_3 p311 q311; (try rw [← Nbq39.out] at hx311_0); cases e311; replace p311 := eq_true p311; replace q311 := eq_true q311))
                                                first | go_roundg kj20 | (subst hji33; go_roundg kj20) | (subst hji15; go_roundg kj20) | (subst hji3; go_roundg kj20)
                                                case measure => have := HK1.out; have := HK2.out; have := HK3.out; have := HJ20.out; omega
                                                case rel => exact ⟨(y310), (wrap64 (x9_3 + 1)), (by first | rfl | (simp; done) | (simp only [i64_w]; first | done | rfl) | (simp [*]; done)), H', ⟨by have := HK1.out; have := HK2.out; have := HK3.out; have := HJ20.out; omega⟩, ⟨by (with_reducible repeat (first | apply Kd.R_alloc | apply Kd.R_drewN | apply Kd.R_drew)); exact Kd.R_mono HO_5.out (fun _ hk => hk.2)⟩, ⟨by (with_reducible repeat (first | apply Kd.R_alloc | apply Kd.R_drewN | apply Kd.R_drew)); exact HO_8.out⟩, ⟨by repeat (first | (with_reducible first | exact HB.out | apply below_alloc | apply pw_below_drewN | apply below_drew1) | exact HB.out)⟩⟩
                                            · rw [if_neg c38] at H
                                              exact absurd H (by simp)
                                          · rw [if_neg c37] at H
                                            exact absurd H (by simp)
                                        · rw [if_neg c35] at H
                                          exact absurd H (by simp)
                                      · rw [if_neg c34] at H
                                        exact absurd H (by simp)
                                    · rw [if_neg c32] at H
                                      exact absurd H (by simp)
                                  · rw [if_neg c31] at H
                                    exact absurd H (by simp)
                                · replace c30 := Bool.eq_false_iff.mpr c30
                                  subst c30
                                  have H1 : (if 0 ≤ x9_3 then (if x9_3 < (x5_2.length : Int) then (if rdOf false x5_2 x9_3 = true then (if 0 ≤ x7_2 then (if x7_2 < (l0.length : Int) then (if x9_3 ≥ (rd l0 x7_2) then (if 0 ≤ (wrap64 (x9_3 - (rd l0 x7_2))) then (if (wrap64 (x9_3 - (rd l0 x7_2))) < (x8_3.length : Int) then (spec_l5Fits.l2 kj20 l0 a1 x5_2 x7_2 (x8_3.set ((wrap64 (x9_3 - (rd l0 x7_2))) : Int).toNat true) (wrap64 (x9_3 + 1))) else (none)) else (none)) else (spec_l5Fits.l2 kj20 l0 a1 x5_2 x7_2 x8_3 (wrap64 (x9_3 + 1)))) else (none)) else (none)) else (spec_l5Fits.l2 kj20 l0 a1 x5_2 x7_2 x8_3 (wrap64 (x9_3 + 1)))) else (none)) else (none)) = some r := by rw [if_neg (show ¬ (false = true) by decide)] at H; exact H
                                  clear H
                                  have H := H1
                                  clear H1
                                  by_cases c57 : 0 ≤ x9_3
                                  · rw [if_pos c57] at H
                                    have c57b0 : decide (0 ≤ x9_3) = true := decide_eq_true c57
                                    clear c57
                                    by_cases c58 : x9_3 < (x5_2.length : Int)
                                    · rw [if_pos c58] at H
                                      have c58b0 : decide (x9_3 < (x5_2.length : Int)) = true := decide_eq_true c58
                                      clear c58
                                      obtain ⟨bq59, hbq59⟩ : ∃ b_ : Bool, b_ = (rdOf false x5_2 x9_3) := ⟨_, rfl⟩
                                      replace H : (if bq59 = true then (if 0 ≤ x7_2 then (if x7_2 < (l0.length : Int) then (if x9_3 ≥ (rd l0 x7_2) then (if 0 ≤ (wrap64 (x9_3 - (rd l0 x7_2))) then (if (wrap64 (x9_3 - (rd l0 x7_2))) < (x8_3.length : Int) then (spec_l5Fits.l2 kj20 l0 a1 x5_2 x7_2 (x8_3.set ((wrap64 (x9_3 - (rd l0 x7_2))) : Int).toNat true) (wrap64 (x9_3 + 1))) else (none)) else (none)) else (spec_l5Fits.l2 kj20 l0 a1 x5_2 x7_2 x8_3 (wrap64 (x9_3 + 1)))) else (none)) else (none)) else (spec_l5Fits.l2 kj20 l0 a1 x5_2 x7_2 x8_3 (wrap64 (x9_3 + 1)))) = some r := by rw [← hbq59] at H; exact H
                                      have Nbq59 := Aside0.mk hbq59
                                      clear hbq59
                                      by_cases c60 : bq59 = true
                                      · subst c60
                                        have H1 : (if 0 ≤ x7_2 then (if x7_2 < (l0.length : Int) then (if x9_3 ≥ (rd l0 x7_2) then (if 0 ≤ (wrap64 (x9_3 - (rd l0 x7_2))) then (if (wrap64 (x9_3 - (rd l0 x7_2))) < (x8_3.length : Int) then (spec_l5Fits.l2 kj20 l0 a1 x5_2 x7_2 (x8_3.set ((wrap64 (x9_3 - (rd l0 x7_2))) : Int).toNat true) (wrap64 (x9_3 + 1))) else (none)) else (none)) else (spec_l5Fits.l2 kj20 l0 a1 x5_2 x7_2 x8_3 (wrap64 (x9_3 + 1)))) else (none)) else (none)) = some r := by rw [if_pos rfl] at H; exact H
                                        clear H
                                        have H := H1
                                        clear H1
                                        by_cases c61 : 0 ≤ x7_2
                                        · rw [if_pos c61] at H
                                          have c61b0 : decide (0 ≤ x7_2) = true := decide_eq_true c61
                                          clear c61
                                          by_cases c62 : x7_2 < (l0.length : Int)
                                          · rw [if_pos c62] at H
                                            have c62b0 : decide (x7_2 < (l0.length : Int)) = true := decide_eq_true c62
                                            clear c62
                                            by_cases c63 : x9_3 ≥ (rd l0 x7_2)
                                            · rw [if_pos c63] at H
                                              have c63b0 : decide ((rd l0 x7_2) ≤ x9_3) = true := decide_eq_true c63
                                              clear c63
                                              obtain ⟨ji64, hji64⟩ : ∃ j_ : Int, (wrap64 (x9_3 - (rd l0 x7_2))) = j_ := ⟨_, rfl⟩
                                              replace H : (if 0 ≤ (ji64) then (if (ji64) < (x8_3.length : Int) then (spec_l5Fits.l2 kj20 l0 a1 x5_2 x7_2 (x8_3.set ((ji64) : Int).toNat true) (wrap64 (x9_3 + 1))) else (none)) else (none)) = some r := by first | (rw [hji64] at H; exact H) | (simp only [hji64] at H ⊢; exact H)
                                              have hji64w : (IntKind.i64.wrap (x9_3 - (rd l0 x7_2))) = ji64 := (i64_w _).trans hji64
                                              by_cases c65 : 0 ≤ (ji64)
                                              · rw [if_pos c65] at H
                                                have c65b0 : decide (0 ≤ (ji64)) = true := decide_eq_true c65
                                                clear c65
                                                by_cases c66 : (ji64) < (x8_3.length : Int)
                                                · rw [if_pos c66] at H
                                                  have c66b0 : decide ((ji64) < (x8_3.length : Int)) = true := decide_eq_true c66
                                                  clear c66
                                                  obtain ⟨y318, hy318⟩ : ∃ y_ : List Bool, y_ = (x8_3.set ((ji64) : Int).toNat true) := ⟨_, rfl⟩
                                                  replace H : (spec_l5Fits.l2 kj20 l0 a1 x5_2 x7_2 y318 (wrap64 (x9_3 + 1))) = some r := by first | (rw [hy318]; with_reducible exact H) | (have H2_ := (Option.bind_some _ _).symm.trans H; rw [hy318]; with_reducible exact H2_) | (have H2_ := (Option.bind_some _ _).symm.trans H; with_reducible exact H2_) | with_reducible exact H | (rw [hy318]; exact H) | exact H
                                                  have Ny318 := Aside0.mk hy318
                                                  clear hy318
                                                  have H' := Aside0.mk H
                                                  clear H
                                                  obtain ⟨Ao68, co68, eo68⟩ := Kd.R_slice HO_5.out
                                                  subst eo68
                                                  have p315 : 0 ≤ (x9_3 : Int) := of_decide_eq_true (by first | (with_reducible assumption) | assumption)
                                                  have q315 : x9_3 < (x5_2.length : Int) := of_decide_eq_true (by first | (with_reducible assumption) | assumption)
                                                  obtain ⟨ad315, e315, hx315_0⟩ := Kd.at_bool (Kd.R_reads' HO_5.out).2.2 x9_3 p315 q315
                                                  (try rw [← Nbq59.out] at hx315_0)
                                                  cases e315
                                                  replace p315 := eq_true p315
                                                  replace q315 := eq_true q315
                                                  have p316 : 0 ≤ (x7_2 : Int) := of_decide_eq_true (by first | (with_reducible assumption) | assumption)
                                                  have q316 : x7_2 < (l0.length : Int) := of_decide_eq_true (by first | (with_reducible assumption) | assumption)
                                                  obtain ⟨ad316, e316, hx316_0⟩ := Kd.at_int HR0.out x7_2 p316 q316
                                                  cases e316
                                                  replace hx316_0 := (HB.out.cell (World.block_lt_of_cell? w _ hx316_0)).trans hx316_0
                                                  replace p316 := eq_true p316
                                                  replace q316 := eq_true q316
                                                  have p317 : 0 ≤ (x7_2 : Int) := of_decide_eq_true (by first | (with_reducible assumption) | assumption)
                                                  have q317 : x7_2 < (l0.length : Int) := of_decide_eq_true (by first | (with_reducible assumption) | assumption)
                                                  obtain ⟨ad317, e317, hx317_0⟩ := Kd.at_int HR0.out x7_2 p317 q317
                                                  obtain rfl : ad316 = ad317 := (by injection e317)
                                                  replace hx317_0 := (HB.out.cell (World.block_lt_of_cell? w _ hx317_0)).trans hx317_0
                                                  replace p317 := eq_true p317
                                                  replace q317 := eq_true q317
                                                  have p67 : 0 ≤ ((ji64) : Int) := of_decide_eq_true (by first | (with_reducible assumption) | assumption)
                                                  have q67 : ((ji64) : Int) < ((x8_3.length : Int) : Int) := of_decide_eq_true (by first | (with_reducible assumption) | assumption)
                                                  obtain ⟨go67, co67, eo67, gb67, gl67, cl67, HG67⟩ := Kd.R_form HO_8.out (by omega)
                                                  (first | cases eo67 | (injection eo67 with ea_ en_ ec_; (first | subst ea_ | (injection ea_ with ea_; subst ea_)); subst ec_; clear en_))
                                                  have GB67 := Aside0.mk gb67
                                                  have GG67 := Aside0.mk HG67
                                                  clear gb67 gl67 HG67
                                                  obtain ⟨hx67_0, hf67_0⟩ := Kd.R_celln false HO_8.out ((ji64) : Int) p67 q67
                                                  replace p67 := eq_true p67
                                                  replace q67 := eq_true q67
                                                  have HP69 := Kd.R_putg HO_8.out ((ji64) : Int) true
                                                  go_wp2_with (first | ((with_reducible refine gate_store (t := 4) (p := 77) rfl ?_); refine store_event (t := 4) (p := 77) (v := ?vo_w70) (w1 := (wc.setCell ⟨go67, ((ji64) : Int).toNat, none⟩ (.bool true))) ?hg ?ho ?hn ?hr ?_; (case ho => rfl); (case hg => rfl); (case hn => rfl); (case hr => first | (go_simp; done) | (go_simp; rfl)); intro w70 hw; have hg : wc.grownBy w70 (some go67) := (by rw [hw]; exact HP69.2); have hp_ : Kd.R Kd.bool 4 w70 w.heap.size (fun k_ => some k_ ≠ (.slice (some ad315) x5_2.length co68 : Value).ownBlock) (.slice (some ⟨go67, 0, none⟩) x8_3.length co67) y318 := (by rw [hw, Ny318.out]; exact HP69.1); clear HP69; have n0_ := Aside0.mk (Kd.R_after (v := (.slice (some ⟨go67, 0, none⟩) x8_3.length co67)) (v1 := (.slice (some ⟨go67, 0, none⟩) x8_3.length co67)) (ok := (fun _ => True)) (by (with_reducible repeat (first | apply Kd.R_alloc | apply Kd.R_drewN | apply Kd.R_drew)); exact Kd.R_mono HO_5.out (fun _ hk => ⟨trivial, hk⟩)) hg (.inl rfl)); have n1_ := Aside0.mk (hp_); have n2_ := Aside0.mk ((by rw [hw]; exact below_set (HB.out) GB67.out : Below w.heap.size w w70)); clear HO_5; clear HO_8; clear HB; have HO_5 := n0_; have HO_8 := n1_; have HB := n2_; clear n0_ n1_ n2_; clear hg hw hp_))
                                                  first | go_roundg kj20 | (subst hji64; go_roundg kj20) | (subst hji15; go_roundg kj20) | (subst hji3; go_roundg kj20)
                                                  case measure => have := HK1.out; have := HK2.out; have := HK3.out; have := HJ20.out; omega
                                                  case rel => exact ⟨(y318), (wrap64 (x9_3 + 1)), (by first | rfl | (simp; done) | (simp only [i64_w]; first | done | rfl) | (simp [*]; done)), H', ⟨by have := HK1.out; have := HK2.out; have := HK3.out; have := HJ20.out; omega⟩, ⟨by (with_reducible repeat (first | apply Kd.R_alloc | apply Kd.R_drewN | apply Kd.R_drew)); exact Kd.R_mono HO_5.out (fun _ hk => hk.2)⟩, ⟨by (with_reducible repeat (first | apply Kd.R_alloc | apply Kd.R_drewN | apply Kd.R_drew)); exact HO_8.out⟩, ⟨by repeat (first | (with_reducible first | exact HB.out | apply below_alloc | apply pw_below_drewN | apply below_drew1) | exact HB.out)⟩⟩
                                                · rw [if_neg c66] at H
                                                  exact absurd H (by simp)
                                              · rw [if_neg c65] at H
                                                exact absurd H (by simp)
                                            · rw [if_neg c63] at H
                                              have c63b0 : decide ((rd l0 x7_2) ≤ x9_3) = false := decide_eq_false c63
                                              clear c63
                                              have H' := Aside0.mk H
                                              clear H
                                              obtain ⟨Ao71, co71, eo71⟩ := Kd.R_slice HO_5.out
                                              subst eo71
                                              have p315 : 0 ≤ (x9_3 : Int) := of_decide_eq_true (by first | (with_reducible assumption) | assumption)
                                              have q315 : x9_3 < (x5_2.length : Int) := of_decide_eq_true (by first | (with_reducible assumption) | assumption)
                                              obtain ⟨ad315, e315, hx315_0⟩ := Kd.at_bool (Kd.R_reads' HO_5.out).2.2 x9_3 p315 q315
                                              (try rw [← Nbq59.out] at hx315_0)
                                              cases e315
                                              replace p315 := eq_true p315
                                              replace q315 := eq_true q315
                                              have p316 : 0 ≤ (x7_2 : Int) := of_decide_eq_true (by first | (with_reducible assumption) | assumption)
                                              have q316 : x7_2 < (l0.length : Int) := of_decide_eq_true (by first | (with_reducible assumption) | assumption)
                                              obtain ⟨ad316, e316, hx316_0⟩ := Kd.at_int HR0.out x7_2 p316 q316
                                              cases e316
                                              replace hx316_0 := (HB.out.cell (World.block_lt_of_cell? w _ hx316_0)).trans hx316_0
                                              replace p316 := eq_true p316
                                              replace q316 := eq_true q316
                                              go_wp2
                                              first | go_roundg kj20 | (subst hji15; go_roundg kj20) | (subst hji3; go_roundg kj20)
                                              case measure => have := HK1.out; have := HK2.out; have := HK3.out; have := HJ20.out; omega
                                              case rel => exact ⟨(x8_3), (wrap64 (x9_3 + 1)), (by first | rfl | (simp; done) | (simp only [i64_w]; first | done | rfl) | (simp [*]; done)), H', ⟨by have := HK1.out; have := HK2.out; have := HK3.out; have := HJ20.out; omega⟩, ⟨by (with_reducible repeat (first | apply Kd.R_alloc | apply Kd.R_drewN | apply Kd.R_drew)); exact HO_5.out⟩, ⟨by (with_reducible repeat (first | apply Kd.R_alloc | apply Kd.R_drewN | apply Kd.R_drew)); exact HO_8.out⟩, ⟨by repeat (first | (with_reducible first | exact HB.out | apply below_alloc | apply pw_below_drewN | apply below_drew1) | exact HB.out)⟩⟩
                                          · rw [if_neg c62] at H
                                            exact absurd H (by simp)
                                        · rw [if_neg c61] at H
                                          exact absurd H (by simp)
                                      · replace c60 := Bool.eq_false_iff.mpr c60
                                        subst c60
                                        have H1 : (spec_l5Fits.l2 kj20 l0 a1 x5_2 x7_2 x8_3 (wrap64 (x9_3 + 1))) = some r := by rw [if_neg (show ¬ (false = true) by decide)] at H; exact H
                                        clear H
                                        have H := H1
                                        clear H1
                                        have H' := Aside0.mk H
                                        clear H
                                        obtain ⟨Ao72, co72, eo72⟩ := Kd.R_slice HO_5.out
                                        subst eo72
                                        have p315 : 0 ≤ (x9_3 : Int) := of_decide_eq_true (by first | (with_reducible assumption) | assumption)
                                        have q315 : x9_3 < (x5_2.length : Int) := of_decide_eq_true (by first | (with_reducible assumption) | assumption)
                                        obtain ⟨ad315, e315, hx315_0⟩ := Kd.at_bool (Kd.R_reads' HO_5.out).2.2 x9_3 p315 q315
                                        (try rw [← Nbq59.out] at hx315_0)
                                        cases e315
                                        replace p315 := eq_true p315
                                        replace q315 := eq_true q315
                                        go_wp2
                                        first | go_roundg kj20 | (subst hji15; go_roundg kj20) | (subst hji3; go_roundg kj20)
                                        case measure => have := HK1.out; have := HK2.out; have := HK3.out; have := HJ20.out; omega
                                        case rel => exact ⟨(x8_3), (wrap64 (x9_3 + 1)), (by first | rfl | (simp; done) | (simp only [i64_w]; first | done | rfl) | (simp [*]; done)), H', ⟨by have := HK1.out; have := HK2.out; have := HK3.out; have := HJ20.out; omega⟩, ⟨by (with_reducible repeat (first | apply Kd.R_alloc | apply Kd.R_drewN | apply Kd.R_drew)); exact HO_5.out⟩, ⟨by (with_reducible repeat (first | apply Kd.R_alloc | apply Kd.R_drewN | apply Kd.R_drew)); exact HO_8.out⟩, ⟨by repeat (first | (with_reducible first | exact HB.out | apply below_alloc | apply pw_below_drewN | apply below_drew1) | exact HB.out)⟩⟩
                                    · rw [if_neg c58] at H
                                      exact absurd H (by simp)
                                  · rw [if_neg c57] at H
                                    exact absurd H (by simp)
                          · rw [if_neg c20] at H
                            have c20b0 : decide (x9_3 ≤ a1) = false := decide_eq_false c20
                            clear c20
                            have H' := Aside0.mk H
                            clear H
                            go_wp2
                            first | go_roundg k3 | (subst hji15; go_roundg k3) | (subst hji3; go_roundg k3)
                            case measure => have := HK1.out; have := HK2.out; have := HK3.out; omega
                            case rel => exact ⟨(x8_3), (wrap64 (x7_2 + 1)), (by first | rfl | (simp; done) | (simp only [i64_w]; first | done | rfl) | (simp [*]; done)), H', ⟨by have := HK1.out; have := HK2.out; have := HK3.out; omega⟩, ⟨by (with_reducible repeat (first | apply Kd.R_alloc | apply Kd.R_drewN | apply Kd.R_drew)); exact Kd.R_mono HO_8.out (fun _ hk => trivial)⟩, ⟨by repeat (first | (with_reducible first | exact HB.out | apply below_alloc | apply pw_below_drewN | apply below_drew1) | exact HB.out)⟩⟩
                    · rw [if_neg c17] at H
                      exact absurd H (by simp)
                  · rw [if_neg c16] at H
                    exact absurd H (by simp)
                · rw [if_neg c14] at H
                  have c14b0 : decide (x7_2 < (l0.length : Int)) = false := decide_eq_false c14
                  clear c14
                  have H' := Aside0.mk H
                  clear H
                  go_wp2
                  go_loopg [10] k2 (fun kq v10 w' => ∃ (x10_3 : Int), v10 = .int .i64 x10_3 ∧ Aside0 (spec_l5Fits.l3 kq a1 x5_2 x10_3 = some r) ∧ Aside0 (kq ≤ k2) ∧ Aside0 (Kd.R Kd.bool 4 w' w.heap.size (fun _ => True) u5 x5_2) ∧ Aside0 (Below w.heap.size w w'))
                  case atStart => exact ⟨(0), (by first | rfl | (simp; done) | (simp only [i64_w]; first | done | rfl) | (simp [*]; done)), H', ⟨Nat.le_refl _⟩, ⟨by (with_reducible repeat (first | apply Kd.R_alloc | apply Kd.R_drewN | apply Kd.R_drew)); exact HO_5.out⟩, ⟨by repeat (first | (with_reducible first | exact HB.out | apply below_alloc | apply pw_below_drewN | apply below_drew1) | exact HB.out)⟩⟩
                  case round =>
                    clear H'
                    try clear c1
                    try clear p1
                    try clear q1
                    try clear hx1
                    try clear c2
                    try clear p2
                    try clear q2
                    try clear c3
                    try clear p3
                    try clear q3
                    try clear hx3
                    try clear hf3
                    try clear c4
                    try clear c4b0
                    try clear c4b1
                    try clear p4
                    try clear q4
                    try clear hx4
                    try clear hf4
                    try clear c5
                    try clear c5b0
                    try clear c5b1
                    try clear q5
                    try clear c6
                    try clear p6
                    try clear q6
                    try clear hx6
                    try clear hf6
                    try clear c8
                    try clear c8b0
                    try clear c9
                    try clear c9b0
                    try clear c10
                    try clear c10b0
                    try clear p11
                    try clear q11
                    try clear hx11
                    try clear hf11
                    try clear c14
                    try clear c14b0
                    try clear c16
                    try clear c16b0
                    try clear c16b1
                    try clear c17
                    try clear c17b0
                    try clear c17b1
                    try clear c20
                    try clear c20b0
                    try clear c22
                    try clear c22b0
                    try clear c23
                    try clear c23b0
                    try clear q24
                    try clear c25
                    try clear c26
                    try clear c26b0
                    try clear c27
                    try clear c27b0
                    try clear c30
                    try clear p30
                    try clear q30
                    try clear hx30
                    try clear c31
                    try clear c31b0
                    try clear p31
                    try clear q31
                    try clear hx31
                    try clear c32
                    try clear c32b0
                    try clear c34
                    try clear c34b0
                    try clear c35
                    try clear c35b0
                    try clear p36
                    try clear q36
                    try clear hx36
                    try clear hf36
                    try clear c37
                    try clear c37b0
                    try clear c38
                    try clear c38b0
                    try clear q39
                    try clear c40
                    try clear c41
                    try clear c41b0
                    try clear c43
                    try clear c43b0
                    try clear c44
                    try clear c44b0
                    try clear p45
                    try clear q45
                    try clear hx45
                    try clear hf45
                    try clear c57
                    try clear c57b0
                    try clear c58
                    try clear c58b0
                    try clear q59
                    try clear c60
                    try clear c61
                    try clear c61b0
                    try clear c62
                    try clear c62b0
                    try clear c63
                    try clear c63b0
                    try clear p64
                    try clear c65
                    try clear c65b0
                    try clear c66
                    try clear c66b0
                    try clear p67
                    try clear q67
                    try clear hx67
                    try clear hf67
                    try clear hx11_0
                    try clear hx307_0
                    try clear hx308_0
                    try clear hx309_0
                    try clear hx311_0
                    try clear hx312_0
                    try clear hx313_0
                    try clear hx315_0
                    try clear hx316_0
                    try clear hx317_0
                    try clear hx36_0
                    try clear hx45_0
                    try clear hx67_0
                    try clear p1
                    try clear p11
                    try clear p2
                    try clear p3
                    try clear p307
                    try clear p308
                    try clear p309
                    try clear p311
                    try clear p312
                    try clear p313
                    try clear p315
                    try clear p316
                    try clear p317
                    try clear p36
                    try clear p45
                    try clear p6
                    try clear p67
                    try clear q1
                    try clear q11
                    try clear q2
                    try clear q24
                    try clear q3
                    try clear q307
                    try clear q308
                    try clear q309
                    try clear q311
                    try clear q312
                    try clear q313
                    try clear q315
                    try clear q316
                    try clear q317
                    try clear q36
                    try clear q45
                    try clear q67
                    obtain ⟨x10_3, rfl, HA, HK3, HO_5, HB⟩ := hrel
                    cases gk with
                    | zero => exact absurd HA.out (by simp [spec_l5Fits.l3])
                    | succ k3 =>
                      have H := HA.out
                      clear HA
                      simp only [spec_l5Fits.l3] at H
                      by_cases c73 : x10_3 ≤ a1
                      · rw [if_pos c73] at H
                        have c73b0 : decide (x10_3 ≤ a1) = true := decide_eq_true c73
                        clear c73
                        by_cases c74 : 0 ≤ x10_3
                        · rw [if_pos c74] at H
                          have c74b0 : decide (0 ≤ x10_3) = true := decide_eq_true c74
                          clear c74
                          by_cases c75 : x10_3 < (x5_2.length : Int)
                          · rw [if_pos c75] at H
                            have c75b0 : decide (x10_3 < (x5_2.length : Int)) = true := decide_eq_true c75
                            clear c75
                            obtain ⟨bq76, hbq76⟩ : ∃ b_ : Bool, b_ = (rdOf false x5_2 x10_3) := ⟨_, rfl⟩
                            replace H : (if bq76 = true then (some true) else (spec_l5Fits.l3 k3 a1 x5_2 (wrap64 (x10_3 + 1)))) = some r := by rw [← hbq76] at H; exact H
                            have Nbq76 := Aside0.mk hbq76
                            clear hbq76
                            by_cases c77 : bq76 = true
                            · subst c77
                              have H1 : (some true) = some r := by rw [if_pos rfl] at H; exact H
                              clear H
                              have H := H1
                              clear H1
                              obtain rfl := Option.some.inj H
                              obtain ⟨Ao78, co78, eo78⟩ := Kd.R_slice HO_5.out
                              subst eo78
                              have p319 : 0 ≤ (x10_3 : Int) := of_decide_eq_true (by first | (with_reducible assumption) | assumption)
                              have q319 : x10_3 < (x5_2.length : Int) := of_decide_eq_true (by first | (with_reducible assumption) | assumption)
                              obtain ⟨ad319, e319, hx319_0⟩ := Kd.at_bool (Kd.R_reads' HO_5.out).2.2 x10_3 p319 q319
                              (try rw [← Nbq76.out] at hx319_0)
                              cases e319
                              replace p319 := eq_true p319
                              replace q319 := eq_true q319
                              go_wp2
                              go_ret
                              exact ⟨by first | rfl | (simp [errW_none, errW_some] <;> rfl) | (simp only [← hji3]; first | rfl | (simp [errW_none, errW_some] <;> rfl)) | (simp [*, errW_none, errW_some] <;> rfl), by repeat (first | (with_reducible first | exact HB.out | apply below_alloc | apply pw_below_drewN | apply below_drew1) | exact HB.out)⟩
                            · replace c77 := Bool.eq_false_iff.mpr c77
                              subst c77
                              have H1 : (spec_l5Fits.l3 k3 a1 x5_2 (wrap64 (x10_3 + 1))) = some r := by rw [if_neg (show ¬ (false = true) by decide)] at H; exact H
                              clear H
                              have H := H1
                              clear H1
                              have H' := Aside0.mk H
                              clear H
                              obtain ⟨Ao79, co79, eo79⟩ := Kd.R_slice HO_5.out
                              subst eo79
                              have p319 : 0 ≤ (x10_3 : Int) := of_decide_eq_true (by first | (with_reducible assumption) | assumption)
                              have q319 : x10_3 < (x5_2.length : Int) := of_decide_eq_true (by first | (with_reducible assumption) | assumption)
                              obtain ⟨ad319, e319, hx319_0⟩ := Kd.at_bool (Kd.R_reads' HO_5.out).2.2 x10_3 p319 q319
                              (try rw [← Nbq76.out] at hx319_0)
                              cases e319
                              replace p319 := eq_true p319
                              replace q319 := eq_true q319
                              go_wp2
                              first | go_roundg k3 | (subst hji3; go_roundg k3)
                              case measure => have := HK1.out; have := HK2.out; have := HK3.out; omega
                              case rel => exact ⟨(wrap64 (x10_3 + 1)), (by first | rfl | (simp; done) | (simp only [i64_w]; first | done | rfl) | (simp [*]; done)), H', ⟨by have := HK1.out; have := HK2.out; have := HK3.out; omega⟩, ⟨by (with_reducible repeat (first | apply Kd.R_alloc | apply Kd.R_drewN | apply Kd.R_drew)); exact HO_5.out⟩, ⟨by repeat (first | (with_reducible first | exact HB.out | apply below_alloc | apply pw_below_drewN | apply below_drew1) | exact HB.out)⟩⟩
                          · rw [if_neg c75] at H
                            exact absurd H (by simp)
                        · rw [if_neg c74] at H
                          exact absurd H (by simp)
                      · rw [if_neg c73] at H
                        have c73b0 : decide (x10_3 ≤ a1) = false := decide_eq_false c73
                        clear c73
                        obtain rfl := Option.some.inj H
                        go_wp2
                        go_ret
                        exact ⟨by first | rfl | (simp [errW_none, errW_some] <;> rfl) | (simp only [← hji3]; first | rfl | (simp [errW_none, errW_some] <;> rfl)) | (simp [*, errW_none, errW_some] <;> rfl), by repeat (first | (with_reducible first | exact HB.out | apply below_alloc | apply pw_below_drewN | apply below_drew1) | exact HB.out)⟩
    · rw [if_neg c5] at H
      exact absurd H (by simp)
  · rw [if_neg c4] at H
    exact absurd H (by simp)

end Go.Proofs.Ytiogpecgmbpmlaa.PC
