-- written by a program of this session (wip/gen/drive.py), which calls the kit's print.py
import Derived.Test.YtfihnemjaademaaPDx0
import Derived.Test.YtfihnemjaademaaPDx4
namespace Go.Proofs.Ytfihnemjaademaa.PD
open Go.RowKit Go.Proofs.YtfihnemjaademaaW.PrintWords Go.Proofs.YtfihnemjaademaaW.PrintLast Go.Proofs.YtfihnemjaademaaW.PrintMore
attribute [local go_sem] max2_int min2_int max_two min_two max_three min_three max_four min_four   -- for this text's walks alone
set_option linter.unusedVariables false
set_option linter.unusedSimpArgs false

/-! ### impl_FoldWays: function 35 -/
theorem alloc_lastW (w : World) (v : Value) (T : TypeId) : (w.alloc (.cells #[v] T)).heap[w.heap.size]? = some (.cells #[v] T (0, 0)) := by
  show (w.heap.push (.cells #[v] T))[w.heap.size]? = _
  simp
theorem below_drewNW (w : World) (n B : Nat) : Below B w (w.drewN n) := pw_below_drewN (Below.refl B w) n
def impl_FoldWays_1.f (a0 : Int) (a1 : ByteArray) (a2 : Int) (a3 : Int) : Option Int := if a2 = 0 then some (wrap64 (a0 + 1)) else some a0

theorem impl_FoldWays_1.calls (g : Nat) (a0 : Int) (a1 : ByteArray) (a2 a3 : Int) (r : Int) (w : World) (hg : w.heap[g]? = some (.cells #[.int .i64 a0] 3 (0, 0))) (h : impl_FoldWays_1.f a0 a1 a2 a3 = some r) :
    Calls Try.prog 65 #[.string a1, .int .i64 a2, .int .i64 a3, .pointer (some ⟨g, 0, none⟩)] w fun e w' => e = .returned (.tuple #[]) ∧ w'.heap[g]? = some (.cells #[.int .i64 r] 3 (0, 0)) ∧ True ∧ ∀ n, n ≤ g → Below n w w' := by
  have cW := cell_of_one hg
  have fW := free_of_one hg
  unfold impl_FoldWays_1.f at h
  by_cases h0 : a2 = 0
  · rw [if_pos h0] at h
    obtain rfl := Option.some.inj h
    have hd0 : (a2 == 0) = true := beq_iff_eq.mpr h0
    clear h h0
    go_enter Try.func65, Try.ntmps65
    go_wp2
    go_end0
    exact ⟨rfl, one_setCell hg, trivial, fun n hn => (Below.refl n w).setCell hn _⟩
  · rw [if_neg h0] at h
    obtain rfl := Option.some.inj h
    have hd0 : (a2 == 0) = false := beq_eq_false_iff_ne.mpr h0
    clear h h0
    go_enter Try.func65, Try.ntmps65
    go_wp2
    go_end0
    exact ⟨rfl, hg, trivial, fun n hn => Below.refl n w⟩
/-! ### impl_foldingsW: function 45 -/
mutual
def impl_foldingsW.l0 : Nat → List Int → Int → Int → Int → Option (Int)
  | 0, _, _, _, _ => none
  | k + 1, x0, x1, x13, x14 => if x14 < x13 then (impl_foldingsW.l1 k x0 x1 x14 (([] : List Int)) 0 0 0 x13 x14 x0 (x0.length : Int) 0) else (some x1)
def impl_foldingsW.l1 : Nat → List Int → Int → Int → List Int → Int → Int → Int → Int → Int → List Int → Int → Int → Option (Int)
  | 0, _, _, _, _, _, _, _, _, _, _, _, _ => none
  | k + 1, x0, x1, x4, x5, x6, x7, x8, x13, x14, x18, x19, x20 => if x20 < x19 then (if 0 ≤ x20 then (if x20 < (x18.length : Int) then (if 0 ≤ (wrap64 ((wrap64 ((x0.length : Int) - 1)) - x20)) then (if (Go.bits .and .i64 (shr .i64 x4 (wrap64 ((wrap64 ((x0.length : Int) - 1)) - x20))) 1) = 0 then (if x5.length < 140737488355328 then (impl_foldingsW.l1 k x0 x1 x4 (x5 ++ [114]) (wrap64 (x6 + (rd x18 x20))) (mn x7 (wrap64 (x6 + (rd x18 x20)))) (mx x8 (wrap64 (x6 + (rd x18 x20)))) x13 x14 x18 x19 (wrap64 (x20 + 1))) else (none)) else (if x5.length < 140737488355328 then (impl_foldingsW.l1 k x0 x1 x4 (x5 ++ [108]) (wrap64 (x6 - (rd x18 x20))) (mn x7 (wrap64 (x6 - (rd x18 x20)))) (mx x8 (wrap64 (x6 - (rd x18 x20)))) x13 x14 x18 x19 (wrap64 (x20 + 1))) else (none))) else (none)) else (none)) else (none)) else ((impl_FoldWays_1.f x1 (strOfNums x5) x6 (wrap64 (x8 - x7))).bind fun t128 => (impl_foldingsW.l0 k x0 t128 x13 (wrap64 (x14 + 1))))
end
def impl_foldingsW.f (k : Nat) (l0 : List Int) (a1 : Int) : Option (Int) := impl_foldingsW.l0 k l0 a1 (shl .i64 1 (l0.length : Int)) 0
theorem impl_foldingsW.mono_l : ∀ k, (∀ y0 y1 y2 y3, LeO (impl_foldingsW.l0 k y0 y1 y2 y3) (impl_foldingsW.l0 (k + 1) y0 y1 y2 y3)) ∧ (∀ y0 y1 y2 y3 y4 y5 y6 y7 y8 y9 y10 y11, LeO (impl_foldingsW.l1 k y0 y1 y2 y3 y4 y5 y6 y7 y8 y9 y10 y11) (impl_foldingsW.l1 (k + 1) y0 y1 y2 y3 y4 y5 y6 y7 y8 y9 y10 y11))
  | 0 => ⟨fun _ _ _ _ r h => by simp [impl_foldingsW.l0] at h, fun _ _ _ _ _ _ _ _ _ _ _ _ r h => by simp [impl_foldingsW.l1] at h⟩
  | k + 1 => by
    obtain ⟨ih0, ih1⟩ := impl_foldingsW.mono_l k
    refine ⟨?_, ?_⟩
    · intro y0 y1 y2 y3
      unfold impl_foldingsW.l0
      repeat' first
      | (with_reducible exact ih0 _ _ _ _)
      | (with_reducible exact ih1 _ _ _ _ _ _ _ _ _ _ _ _)
      | (with_reducible exact LeO.refl _)
      | (with_reducible exact LeO.none _)
      | (with_reducible refine LeO.ite ?_ ?_)
      | (with_reducible refine LeO.bind ?_ (fun _ => ?_))
      | exact ih0 _ _ _ _
      | exact ih1 _ _ _ _ _ _ _ _ _ _ _ _
      | exact LeO.none _
      | refine LeO.ite ?_ ?_
      | refine LeO.bind ?_ (fun _ => ?_)
    · intro y0 y1 y2 y3 y4 y5 y6 y7 y8 y9 y10 y11
      unfold impl_foldingsW.l1
      repeat' first
      | (with_reducible exact ih0 _ _ _ _)
      | (with_reducible exact ih1 _ _ _ _ _ _ _ _ _ _ _ _)
      | (with_reducible exact LeO.refl _)
      | (with_reducible exact LeO.none _)
      | (with_reducible refine LeO.ite ?_ ?_)
      | (with_reducible refine LeO.bind ?_ (fun _ => ?_))
      | exact ih0 _ _ _ _
      | exact ih1 _ _ _ _ _ _ _ _ _ _ _ _
      | exact LeO.none _
      | refine LeO.ite ?_ ?_
      | refine LeO.bind ?_ (fun _ => ?_)
theorem impl_foldingsW.mono : ∀ a0 a1 k, LeO (impl_foldingsW.f k a0 a1) (impl_foldingsW.f (k + 1) a0 a1) := by
  intro a0 a1 k
  obtain ⟨ih0, ih1⟩ := impl_foldingsW.mono_l k
  unfold impl_foldingsW.f
  repeat' first
      | (with_reducible exact ih0 _ _ _ _)
      | (with_reducible exact ih1 _ _ _ _ _ _ _ _ _ _ _ _)
      | (with_reducible exact LeO.refl _)
      | (with_reducible exact LeO.none _)
      | (with_reducible refine LeO.ite ?_ ?_)
      | (with_reducible refine LeO.bind ?_ (fun _ => ?_))
      | exact ih0 _ _ _ _
      | exact ih1 _ _ _ _ _ _ _ _ _ _ _ _
      | exact LeO.none _
      | refine LeO.ite ?_ ?_
      | refine LeO.bind ?_ (fun _ => ?_)
set_option maxHeartbeats 8000000 in
set_option maxRecDepth 100000 in
theorem impl_foldingsW.calls (k : Nat) (A0 : Option Addr) (c0 : Nat) (l0 : List Int) (a1 : Int) (r : Int) (g : Nat) (w0 w : World) (hr0 : Kd.C (Kd.int .i64) w0 A0 l0.length l0) (hc0 : l0.length ≤ c0) (hb0 : Below w0.heap.size w0 w) (hg0 : w0.heap.size ≤ g) (hg : w.heap[g]? = some (.cells #[.int .i64 a1] 3 (0, 0))) (h_ : impl_foldingsW.f k l0 a1 = some r) :
    Calls Try.prog 60 #[.slice A0 l0.length c0, .func (.func 65) #[] #[.pointer (some ⟨g, 0, none⟩)]] w fun e w' => e = .returned (.tuple #[]) ∧ w'.heap[g]? = some (.cells #[.int .i64 r] 3 (0, 0)) ∧ Below w0.heap.size w0 w' := by
  have HR0 := Aside0.mk hr0
  have HC0 := Aside0.mk hc0
  clear hr0 hc0
  have HB := Aside0.mk hb0
  have HI := Aside0.mk hg
  clear hb0 hg
  have H : (impl_foldingsW.l0 k l0 a1 (shl .i64 1 (l0.length : Int)) 0) = some r := h_
  clear h_
  obtain ⟨ji3, hji3⟩ : ∃ j_ : Int, (shl .i64 1 (l0.length : Int)) = j_ := ⟨_, rfl⟩
  replace H : (impl_foldingsW.l0 k l0 a1 ji3 0) = some r := by first | (rw [hji3] at H; exact H) | (simp only [hji3] at H ⊢; exact H)
  have hji3_ : (IntKind.i64.wrap (1 * 2 ^ min (l0.length : Int).toNat 64)) = ji3 := hji3
  have hji3z : (l0.length : Int) ≤ 64 → (IntKind.i64.wrap (1 * 2 ^ (l0.length : Int).toNat)) = ji3 := shl_small hji3
  have hji3p : (IntKind.i64.wrap (1 * 2 ^ min l0.length 64)) = ji3 := hji3_
  have hji3q : (l0.length : Int) ≤ 64 → (IntKind.i64.wrap (1 * 2 ^ l0.length)) = ji3 := hji3z
  have hji3r : (IntKind.i64.wrap (2 ^ min l0.length 64)) = ji3 := by have h_ := hji3p; rw [Int.one_mul] at h_; exact h_
  have hji3s : (l0.length : Int) ≤ 64 → (IntKind.i64.wrap (2 ^ l0.length)) = ji3 := fun hle_ => by have h_ := hji3q hle_; rw [Int.one_mul] at h_; exact h_
  have hji3u : (IntKind.i64.wrap (2 ^ min (l0.length : Int).toNat 64)) = ji3 := by have h_ := hji3_; rw [Int.one_mul] at h_; exact h_
  have hji3v : (l0.length : Int) ≤ 64 → (IntKind.i64.wrap (2 ^ (l0.length : Int).toNat)) = ji3 := fun hle_ => by have h_ := hji3z hle_; rw [Int.one_mul] at h_; exact h_
  have hji3y : (wrap64 (1 * 2 ^ min (l0.length : Int).toNat 64)) = ji3 := (i64_w _).symm.trans hji3_
  have hji3x : (l0.length : Int) ≤ 64 → (wrap64 (1 * 2 ^ (l0.length : Int).toNat)) = ji3 := fun h_ => (i64_w _).symm.trans (hji3z h_)
  have H' := Aside0.mk H
  clear H
  go_enter Try.func60, Try.ntmps60
  go_wp2
  go_loopg [14] k (fun kq v14 w' => ∃ (x1_1 : Int) (x14_1 : Int), v14 = .int .i64 x14_1 ∧ Aside0 (impl_foldingsW.l0 kq l0 x1_1 ji3 x14_1 = some r) ∧ Aside0 (kq ≤ k) ∧ Aside0 (w'.heap[g]? = some (.cells #[.int .i64 x1_1] 3 (0, 0))) ∧ Aside0 (Below w0.heap.size w0 w'))
  case atStart => exact ⟨(a1), (0), (by first | rfl | (simp; done)), H', ⟨Nat.le_refl _⟩, HI, HB⟩
  case round =>
    clear H'
    try clear p2
    try clear HI
    obtain ⟨x1_1, x14_1, rfl, HA, HK1, HI, HB1⟩ := hrel
    rename World => ws
    have HB := Aside0.mk (Below.refl ws.heap.size ws)
    have HR1 := Aside0.mk (Kd.C_below HR0.out HB1.out)
    have HGL := Aside0.mk (lt_of_block HI.out)
    cases gk with
    | zero => exact absurd HA.out (by simp [impl_foldingsW.l0])
    | succ k1 =>
      have H := HA.out
      clear HA
      simp only [impl_foldingsW.l0] at H
      by_cases c4 : x14_1 < ji3
      · rw [if_pos c4] at H
        have c4b0 : decide (x14_1 < ji3) = true := decide_eq_true c4
        clear c4
        obtain ⟨y118, hy118⟩ : ∃ y_ : List Int, y_ = (([] : List Int)) := ⟨_, rfl⟩
        replace H : (impl_foldingsW.l1 k1 l0 x1_1 x14_1 y118 0 0 0 ji3 x14_1 l0 (l0.length : Int) 0) = some r := by first | (rw [hy118]; with_reducible exact H) | (have H2_ := (Option.bind_some _ _).symm.trans H; rw [hy118]; with_reducible exact H2_) | (have H2_ := (Option.bind_some _ _).symm.trans H; with_reducible exact H2_) | with_reducible exact H | (rw [hy118]; exact H) | exact H
        have Ny118 := Aside0.mk hy118
        clear hy118
        have H' := Aside0.mk H
        clear H
        go_wp2_with (first | ((with_reducible refine gate_dst (N := 17) rfl ?_); refine Kd.R_lit (Kd.int .u8) _ 5 ?hg (N := 17) ?hd (xs := ([] : List Int)) (inner := []) (ok := fun _ => True) (okp := fun _ => True) ?hr ?hp (fun _ hk => hk) trivial (Below.refl _ _) (Nat.le_refl _) (by simp) ?_; (case hd => rfl); (case hg => rfl); (case hr => first | (go_simp; done) | (go_simp; rfl)); (case hp => exact (Reps.none _ _)); intro v119 w5 ho6 hb hg_ hnew_; clear hg_ hnew_; (first | rw [← Ny118.out] at ho6 | (simp only [Int.reduceToNat] at ho6; rw [← Ny118.out] at ho6)); have n0_ := Aside0.mk (Kd.R_lower ho6 (below_size (by repeat (first | (with_reducible first | exact HB.out | apply below_alloc | apply pw_below_drewN | apply below_drew1) | exact HB.out)))); have n1_ := Aside0.mk (below_step (by repeat (first | (with_reducible first | exact HB.out | apply below_alloc | apply pw_below_drewN | apply below_drew1) | exact HB.out)) hb); clear HB; have HO120 := n0_; have HB := n1_; clear n0_ n1_; clear hb ho6))
        go_loopg [5, 6, 7, 8, 20] k1 (fun kq v5 v6 v7 v8 v20 w' => ∃ (x5_2 : List Int) (x6_2 : Int) (x7_2 : Int) (x8_2 : Int) (x20_2 : Int), v6 = .int .i64 x6_2 ∧ v7 = .int .i64 x7_2 ∧ v8 = .int .i64 x8_2 ∧ v20 = .int .i64 x20_2 ∧ Aside0 (impl_foldingsW.l1 kq l0 x1_1 x14_1 x5_2 x6_2 x7_2 x8_2 ji3 x14_1 l0 (l0.length : Int) x20_2 = some r) ∧ Aside0 (kq ≤ k1) ∧ Aside0 (Kd.R (Kd.int .u8) 5 w' ws.heap.size (fun _ => True) v5 x5_2) ∧ Aside0 (Below ws.heap.size ws w'))
        case atStart => exact ⟨(y118), (0), (0), (0), (0), (by first | rfl | (simp; done) | (simp only [i64_w]; first | done | rfl) | (simp [*]; done)), (by first | rfl | (simp; done) | (simp only [i64_w]; first | done | rfl) | (simp [*]; done)), (by first | rfl | (simp; done) | (simp only [i64_w]; first | done | rfl) | (simp [*]; done)), (by first | rfl | (simp; done) | (simp only [i64_w]; first | done | rfl) | (simp [*]; done)), H', ⟨Nat.le_refl _⟩, ⟨by (with_reducible repeat (first | apply Kd.R_alloc | apply Kd.R_drewN | apply Kd.R_drew)); exact HO120.out⟩, ⟨by repeat (first | (with_reducible first | exact HB.out | apply below_alloc | apply pw_below_drewN | apply below_drew1) | exact HB.out)⟩⟩
        case round =>
          clear H'
          try clear p2
          try clear c4
          try clear c4b0
          try clear p6
          try clear p2
          obtain ⟨x5_2, x6_2, x7_2, x8_2, x20_2, rfl, rfl, rfl, rfl, HA, HK2, HO_5, HB⟩ := hrel
          cases gk with
          | zero => exact absurd HA.out (by simp [impl_foldingsW.l1])
          | succ k2 =>
            have H := HA.out
            clear HA
            simp only [impl_foldingsW.l1] at H
            by_cases c7 : x20_2 < (l0.length : Int)
            · rw [if_pos c7] at H
              have c7b0 : decide (x20_2 < (l0.length : Int)) = true := decide_eq_true c7
              clear c7
              by_cases c8 : 0 ≤ x20_2
              · rw [if_pos c8] at H
                have c8b0 : decide (0 ≤ x20_2) = true := decide_eq_true c8
                clear c8
                by_cases c9 : x20_2 < (l0.length : Int)
                · rw [if_pos c9] at H
                  have c9b0 : decide (x20_2 < (l0.length : Int)) = true := decide_eq_true c9
                  clear c9
                  obtain ⟨ji10, hji10⟩ : ∃ j_ : Int, (wrap64 ((wrap64 ((l0.length : Int) - 1)) - x20_2)) = j_ := ⟨_, rfl⟩
                  replace H : (if 0 ≤ (ji10) then (if (Go.bits .and .i64 (shr .i64 x14_1 (ji10)) 1) = 0 then (if x5_2.length < 140737488355328 then (impl_foldingsW.l1 k2 l0 x1_1 x14_1 (x5_2 ++ [114]) (wrap64 (x6_2 + (rd l0 x20_2))) (mn x7_2 (wrap64 (x6_2 + (rd l0 x20_2)))) (mx x8_2 (wrap64 (x6_2 + (rd l0 x20_2)))) ji3 x14_1 l0 (l0.length : Int) (wrap64 (x20_2 + 1))) else (none)) else (if x5_2.length < 140737488355328 then (impl_foldingsW.l1 k2 l0 x1_1 x14_1 (x5_2 ++ [108]) (wrap64 (x6_2 - (rd l0 x20_2))) (mn x7_2 (wrap64 (x6_2 - (rd l0 x20_2)))) (mx x8_2 (wrap64 (x6_2 - (rd l0 x20_2)))) ji3 x14_1 l0 (l0.length : Int) (wrap64 (x20_2 + 1))) else (none))) else (none)) = some r := by first | (rw [hji10] at H; exact H) | (simp only [hji10] at H ⊢; exact H)
                  have hji10w : (IntKind.i64.wrap ((wrap64 ((l0.length : Int) - 1)) - x20_2)) = ji10 := (i64_w _).trans hji10
                  by_cases c11 : 0 ≤ (ji10)
                  · rw [if_pos c11] at H
                    have c11b0 := eq_true c11
                    have c11b1 : decide (0 ≤ (ji10)) = true := decide_eq_true c11
                    clear c11
                    obtain ⟨ji12, hji12⟩ : ∃ j_ : Int, (shr .i64 x14_1 (ji10)) = j_ := ⟨_, rfl⟩
                    replace H : (if (Go.bits .and .i64 (ji12) 1) = 0 then (if x5_2.length < 140737488355328 then (impl_foldingsW.l1 k2 l0 x1_1 x14_1 (x5_2 ++ [114]) (wrap64 (x6_2 + (rd l0 x20_2))) (mn x7_2 (wrap64 (x6_2 + (rd l0 x20_2)))) (mx x8_2 (wrap64 (x6_2 + (rd l0 x20_2)))) ji3 x14_1 l0 (l0.length : Int) (wrap64 (x20_2 + 1))) else (none)) else (if x5_2.length < 140737488355328 then (impl_foldingsW.l1 k2 l0 x1_1 x14_1 (x5_2 ++ [108]) (wrap64 (x6_2 - (rd l0 x20_2))) (mn x7_2 (wrap64 (x6_2 - (rd l0 x20_2)))) (mx x8_2 (wrap64 (x6_2 - (rd l0 x20_2)))) ji3 x14_1 l0 (l0.length : Int) (wrap64 (x20_2 + 1))) else (none))) = some r := by first | (rw [hji12] at H; exact H) | (simp only [hji12] at H ⊢; exact H)
                    have hji12_ : (x14_1 / 2 ^ min (ji10).toNat 64) = ji12 := hji12
                    have hji12z : (ji10) ≤ 64 → (x14_1 / 2 ^ (ji10).toNat) = ji12 := shr_small hji12
                    by_cases c13 : (Go.bits .and .i64 (ji12) 1) = 0
                    · rw [if_pos c13] at H
                      have c13b0 : ((Go.bits .and .i64 (ji12) 1) == 0) = true := beq_iff_eq.mpr c13
                      have c13b1 : ((Go.bits .and .i64 (ji12) 1) != 0) = false := bne_eq_false_iff_eq.mpr c13
                      clear c13
                      by_cases c14 : x5_2.length < 140737488355328
                      · rw [if_pos c14] at H
                        have LMc14 := Aside0.mk c14
                        clear c14
                        obtain ⟨y122, hy122⟩ : ∃ y_ : List Int, y_ = (x5_2 ++ [114]) := ⟨_, rfl⟩
                        replace H : (impl_foldingsW.l1 k2 l0 x1_1 x14_1 y122 (wrap64 (x6_2 + (rd l0 x20_2))) (mn x7_2 (wrap64 (x6_2 + (rd l0 x20_2)))) (mx x8_2 (wrap64 (x6_2 + (rd l0 x20_2)))) ji3 x14_1 l0 (l0.length : Int) (wrap64 (x20_2 + 1))) = some r := by first | (rw [hy122]; with_reducible exact H) | (have H2_ := (Option.bind_some _ _).symm.trans H; rw [hy122]; with_reducible exact H2_) | (have H2_ := (Option.bind_some _ _).symm.trans H; with_reducible exact H2_) | with_reducible exact H | (rw [hy122]; exact H) | exact H
                        have Ny122 := Aside0.mk hy122
                        clear hy122
                        obtain ⟨ji15, hji15⟩ : ∃ j_ : Int, (mn x7_2 (wrap64 (x6_2 + (rd l0 x20_2)))) = j_ := ⟨_, rfl⟩
                        replace H : (impl_foldingsW.l1 k2 l0 x1_1 x14_1 y122 (wrap64 (x6_2 + (rd l0 x20_2))) ji15 (mx x8_2 (wrap64 (x6_2 + (rd l0 x20_2)))) ji3 x14_1 l0 (l0.length : Int) (wrap64 (x20_2 + 1))) = some r := by first | (rw [hji15] at H; exact H) | (simp only [hji15] at H ⊢; exact H)
                        have hji15_ : (if (wrap64 (x6_2 + (rd l0 x20_2))) < x7_2 then (wrap64 (x6_2 + (rd l0 x20_2))) else x7_2) = ji15 := hji15
                        obtain ⟨ji16, hji16⟩ : ∃ j_ : Int, (mx x8_2 (wrap64 (x6_2 + (rd l0 x20_2)))) = j_ := ⟨_, rfl⟩
                        replace H : (impl_foldingsW.l1 k2 l0 x1_1 x14_1 y122 (wrap64 (x6_2 + (rd l0 x20_2))) ji15 ji16 ji3 x14_1 l0 (l0.length : Int) (wrap64 (x20_2 + 1))) = some r := by first | (rw [hji16] at H; exact H) | (simp only [hji16] at H ⊢; exact H)
                        have hji16_ : (if x8_2 < (wrap64 (x6_2 + (rd l0 x20_2))) then (wrap64 (x6_2 + (rd l0 x20_2))) else x8_2) = ji16 := hji16
                        have H' := Aside0.mk H
                        clear H
                        have p121 : 0 ≤ (x20_2 : Int) := of_decide_eq_true (by first | (with_reducible assumption) | assumption)
                        have q121 : x20_2 < (l0.length : Int) := of_decide_eq_true (by first | (with_reducible assumption) | assumption)
                        obtain ⟨ad121, e121, hx121_0⟩ := Kd.at_int HR1.out x20_2 p121 q121
                        cases e121
                        replace hx121_0 := (HB.out.cell (World.block_lt_of_cell? ws _ hx121_0)).trans hx121_0
                        replace p121 := eq_true p121
                        replace q121 := eq_true q121
                        go_wp2_with (first | ((with_reducible refine gate_builtin (b := .append) (xs := #[.tmp 37, .tmp 38]) rfl ?_); at_builtin; refine Kd.R_append (Kd.int .u8) (w0 := ws) ws.heap.size rfl (.tmp 37) (.tmp 38) 22 5 (.int .u8 0) 1 rfl Try.underlying22 info5 rfl (by decide) (by omega) u5 x5_2 114 [.int .u8 114] (fun _ => True) (fun _ => False) rfl rfl ?aP (fun _ hk => hk.elim) ?aF ?aO ?aB ?aS ?aL ?_; (case aP => exact rfl); (case aB => exact (by repeat (first | (with_reducible first | exact HB.out | apply below_alloc | apply pw_below_drewN | apply below_drew1) | exact HB.out))); (case aF => exact (fun _ _ => trivial)); (case aO => exact (by (with_reducible repeat (first | apply Kd.R_alloc | apply Kd.R_drewN | apply Kd.R_drew)); exact HO_5.out)); (case aS => exact (below_size (by repeat (first | (with_reducible first | exact HB.out | apply below_alloc | apply pw_below_drewN | apply below_drew1) | exact HB.out)))); (case aL => have := LMc14.out; omega); intro v123 w17 ho hb hg hat; rw [← Ny122.out] at ho; have n0_ := Aside0.mk (hb); have n1_ := Aside0.mk (ho); clear HB; clear HO_5; have HB := n0_; have HO124 := n1_; clear n0_ n1_; clear ho hb hg hat))
                        first | go_roundg k2 | (subst hji10; go_roundg k2)
                        case measure => have := HK1.out; have := HK2.out; omega
                        case rel => exact ⟨(y122), (wrap64 (x6_2 + (rd l0 x20_2))), (ji15), (ji16), (wrap64 (x20_2 + 1)), (by first | rfl | (simp; done) | (simp only [i64_w]; first | done | rfl) | (simp [*]; done)), (by first | rfl | (simp; done) | (simp only [i64_w]; first | done | rfl) | (simp only [← hji15, i64_w]; first | done | rfl) | (simp only [← hji15] <;> (first | rfl | (simp; done))) | (simp [*]; done)), (by first | rfl | (simp; done) | (simp only [i64_w]; first | done | rfl) | (simp only [← hji16, i64_w]; first | done | rfl) | (simp only [← hji16] <;> (first | rfl | (simp; done))) | (simp [*]; done)), (by first | rfl | (simp; done) | (simp only [i64_w]; first | done | rfl) | (simp [*]; done)), H', ⟨by have := HK1.out; have := HK2.out; omega⟩, ⟨by (with_reducible repeat (first | apply Kd.R_alloc | apply Kd.R_drewN | apply Kd.R_drew)); exact HO124.out⟩, ⟨by repeat (first | (with_reducible first | exact HB.out | apply below_alloc | apply pw_below_drewN | apply below_drew1) | exact HB.out)⟩⟩
                      · rw [if_neg c14] at H
                        exact absurd H (by simp)
                    · rw [if_neg c13] at H
                      have c13b0 : ((Go.bits .and .i64 (ji12) 1) == 0) = false := beq_eq_false_iff_ne.mpr c13
                      have c13b1 : ((Go.bits .and .i64 (ji12) 1) != 0) = true := bne_iff_ne.mpr c13
                      by_cases c18 : x5_2.length < 140737488355328
                      · rw [if_pos c18] at H
                        have LMc18 := Aside0.mk c18
                        clear c18
                        obtain ⟨y125, hy125⟩ : ∃ y_ : List Int, y_ = (x5_2 ++ [108]) := ⟨_, rfl⟩
                        replace H : (impl_foldingsW.l1 k2 l0 x1_1 x14_1 y125 (wrap64 (x6_2 - (rd l0 x20_2))) (mn x7_2 (wrap64 (x6_2 - (rd l0 x20_2)))) (mx x8_2 (wrap64 (x6_2 - (rd l0 x20_2)))) ji3 x14_1 l0 (l0.length : Int) (wrap64 (x20_2 + 1))) = some r := by first | (rw [hy125]; with_reducible exact H) | (have H2_ := (Option.bind_some _ _).symm.trans H; rw [hy125]; with_reducible exact H2_) | (have H2_ := (Option.bind_some _ _).symm.trans H; with_reducible exact H2_) | with_reducible exact H | (rw [hy125]; exact H) | exact H
                        have Ny125 := Aside0.mk hy125
                        clear hy125
                        obtain ⟨ji19, hji19⟩ : ∃ j_ : Int, (mn x7_2 (wrap64 (x6_2 - (rd l0 x20_2)))) = j_ := ⟨_, rfl⟩
                        replace H : (impl_foldingsW.l1 k2 l0 x1_1 x14_1 y125 (wrap64 (x6_2 - (rd l0 x20_2))) ji19 (mx x8_2 (wrap64 (x6_2 - (rd l0 x20_2)))) ji3 x14_1 l0 (l0.length : Int) (wrap64 (x20_2 + 1))) = some r := by first | (rw [hji19] at H; exact H) | (simp only [hji19] at H ⊢; exact H)
                        have hji19_ : (if (wrap64 (x6_2 - (rd l0 x20_2))) < x7_2 then (wrap64 (x6_2 - (rd l0 x20_2))) else x7_2) = ji19 := hji19
                        obtain ⟨ji20, hji20⟩ : ∃ j_ : Int, (mx x8_2 (wrap64 (x6_2 - (rd l0 x20_2)))) = j_ := ⟨_, rfl⟩
                        replace H : (impl_foldingsW.l1 k2 l0 x1_1 x14_1 y125 (wrap64 (x6_2 - (rd l0 x20_2))) ji19 ji20 ji3 x14_1 l0 (l0.length : Int) (wrap64 (x20_2 + 1))) = some r := by first | (rw [hji20] at H; exact H) | (simp only [hji20] at H ⊢; exact H)
                        have hji20_ : (if x8_2 < (wrap64 (x6_2 - (rd l0 x20_2))) then (wrap64 (x6_2 - (rd l0 x20_2))) else x8_2) = ji20 := hji20
                        have H' := Aside0.mk H
                        clear H
                        have p121 : 0 ≤ (x20_2 : Int) := of_decide_eq_true (by first | (with_reducible assumption) | assumption)
                        have q121 : x20_2 < (l0.length : Int) := of_decide_eq_true (by first | (with_reducible assumption) | assumption)
                        obtain ⟨ad121, e121, hx121_0⟩ := Kd.at_int HR1.out x20_2 p121 q121
                        cases e121
                        replace hx121_0 := (HB.out.cell (World.block_lt_of_cell? ws _ hx121_0)).trans hx121_0
                        replace p121 := eq_true p121
                        replace q121 := eq_true q121
                        go_wp2_with (first | ((with_reducible refine gate_builtin (b := .append) (xs := #[.tmp 43, .tmp 44]) rfl ?_); at_builtin; refine Kd.R_append (Kd.int .u8) (w0 := ws) ws.heap.size rfl (.tmp 43) (.tmp 44) 22 5 (.int .u8 0) 1 rfl Try.underlying22 info5 rfl (by decide) (by omega) u5 x5_2 108 [.int .u8 108] (fun _ => True) (fun _ => False) rfl rfl ?aP (fun _ hk => hk.elim) ?aF ?aO ?aB ?aS ?aL ?_; (case aP => exact rfl); (case aB => exact (by repeat (first | (with_reducible first | exact HB.out | apply below_alloc | apply pw_below_drewN | apply below_drew1) | exact HB.out))); (case aF => exact (fun _ _ => trivial)); (case aO => exact (by (with_reducible repeat (first | apply Kd.R_alloc | apply Kd.R_drewN | apply Kd.R_drew)); exact HO_5.out)); (case aS => exact (below_size (by repeat (first | (with_reducible first | exact HB.out | apply below_alloc | apply pw_below_drewN | apply below_drew1) | exact HB.out)))); (case aL => have := LMc18.out; omega); intro v126 w21 ho hb hg hat; rw [← Ny125.out] at ho; have n0_ := Aside0.mk (hb); have n1_ := Aside0.mk (ho); clear HB; clear HO_5; have HB := n0_; have HO127 := n1_; clear n0_ n1_; clear ho hb hg hat))
                        first | go_roundg k2 | (subst hji10; go_roundg k2)
                        case measure => have := HK1.out; have := HK2.out; omega
                        case rel => exact ⟨(y125), (wrap64 (x6_2 - (rd l0 x20_2))), (ji19), (ji20), (wrap64 (x20_2 + 1)), (by first | rfl | (simp; done) | (simp only [i64_w]; first | done | rfl) | (simp [*]; done)), (by first | rfl | (simp; done) | (simp only [i64_w]; first | done | rfl) | (simp only [← hji19, i64_w]; first | done | rfl) | (simp only [← hji19] <;> (first | rfl | (simp; done))) | (simp [*]; done)), (by first | rfl | (simp; done) | (simp only [i64_w]; first | done | rfl) | (simp only [← hji20, i64_w]; first | done | rfl) | (simp only [← hji20] <;> (first | rfl | (simp; done))) | (simp [*]; done)), (by first | rfl | (simp; done) | (simp only [i64_w]; first | done | rfl) | (simp [*]; done)), H', ⟨by have := HK1.out; have := HK2.out; omega⟩, ⟨by (with_reducible repeat (first | apply Kd.R_alloc | apply Kd.R_drewN | apply Kd.R_drew)); exact HO127.out⟩, ⟨by repeat (first | (with_reducible first | exact HB.out | apply below_alloc | apply pw_below_drewN | apply below_drew1) | exact HB.out)⟩⟩
                      · rw [if_neg c18] at H
                        exact absurd H (by simp)
                  · rw [if_neg c11] at H
                    exact absurd H (by simp)
                · rw [if_neg c9] at H
                  exact absurd H (by simp)
              · rw [if_neg c8] at H
                exact absurd H (by simp)
            · rw [if_neg c7] at H
              have c7b0 : decide (x20_2 < (l0.length : Int)) = false := decide_eq_false c7
              clear c7
              replace H := Option.bind_eq_some_iff.mp H
              obtain ⟨t128, A220, H⟩ := H
              replace H : (impl_foldingsW.l0 k2 l0 t128 ji3 (wrap64 (x14_1 + 1))) = some r := H
              have A22 := Aside0.mk A220
              clear A220
              have H' := Aside0.mk H
              clear H
              have hcv23 := own_string (P := Try.prog) Try.underlying22 Try.underlying5 Try.underlying9 (Kd.own_of_R HO_5.out)
              have HI2 := Aside0.mk ((HB.out.block _ HGL.out).trans HI.out)
              have HB2 := Aside0.mk (HB1.out.trans (HB.out.mono HB1.out.size))
              clear HB HI HB1 HR1
              go_wp2_with (first | (go_at_call 65; refine (impl_FoldWays_1.calls g x1_1 (strOfNums x5_2) x6_2 (wrap64 (x8_2 - x7_2)) t128 _ (HI2.out) A22.out).mono ?_; rintro e w' ⟨rfl, hi_, hl_, hb_⟩; have HI3 := Aside0.mk hi_; have HB3 := Aside0.mk (HB2.out.trans (hb_ _ hg0)); clear hi_ hl_ hb_ HB2 HI2))
              go_roundg k2
              case measure => have := HK1.out; have := HK2.out; omega
              case rel => exact ⟨(t128), (wrap64 (x14_1 + 1)), (by first | rfl | (simp; done) | (simp only [i64_w]; first | done | rfl) | (simp [*]; done)), H', ⟨by have := HK1.out; have := HK2.out; omega⟩, HI3, HB3⟩
      · rw [if_neg c4] at H
        have c4b0 : decide (x14_1 < ji3) = false := decide_eq_false c4
        clear c4
        obtain rfl := Option.some.inj H
        go_wp2
        go_end0
        exact ⟨rfl, HI.out, HB1.out⟩


def impl_FoldWays.f (k : Nat) (l0 : List Int) : Option (Int × Bool) := ((impl_isRuler.f k l0).bind fun t => (if t = true then ((impl_foldingsW.f k l0 0).bind fun n => some (n, true)) else (some (0, false))))
theorem impl_FoldWays.mono : ∀ a0 k, LeO (impl_FoldWays.f k a0) (impl_FoldWays.f (k + 1) a0) := by
  intro a0 k
  unfold impl_FoldWays.f
  exact LeO.bind (impl_isRuler.mono _ _) (fun _ => LeO.ite (LeO.bind (impl_foldingsW.mono _ _ _) (fun _ => LeO.refl _)) (LeO.refl _))
set_option maxHeartbeats 8000000 in
set_option maxRecDepth 100000 in
theorem impl_FoldWays.calls (k : Nat) (A0 : Option Addr) (c0 : Nat) (l0 : List Int) (r1 : Int) (r2 : Bool) (w : World) (hr0 : Kd.C (Kd.int .i64) w A0 l0.length l0) (hc0 : l0.length ≤ c0) (h : impl_FoldWays.f k l0 = some (r1, r2)) :
    Calls Try.prog 35 #[.slice A0 l0.length c0] w fun e w' => e = .returned (.tuple #[.int .i64 r1, .bool r2]) ∧ Below w.heap.size w w' := by
  have hmf : ∀ (fn : Fn) (first cap : Array Value) (w : World), (Instr.makeFunc fn first cap).run Try.prog w = .ok (.func fn first cap) w := fun _ _ _ _ => rfl
  have HR0 := Aside0.mk hr0
  have HC0 := Aside0.mk hc0
  clear hr0 hc0
  have HB := Aside0.mk (Below.refl w.heap.size w)
  have H : ((impl_isRuler.f k l0).bind fun t => (if t = true then ((impl_foldingsW.f k l0 0).bind fun n => some (n, true)) else (some (0, false)))) = some (r1, r2) := h
  clear h
  replace H := Option.bind_eq_some_iff.mp H
  obtain ⟨t168, A20, H⟩ := H
  replace H : (if t168 = true then ((impl_foldingsW.f k l0 0).bind fun n => some (n, true)) else (some (0, false))) = some (r1, r2) := H
  have A2 := Aside0.mk A20
  clear A20
  by_cases c3 : t168 = true
  · subst c3
    have H1 : ((impl_foldingsW.f k l0 0).bind fun n => some (n, true)) = some (r1, r2) := by rw [if_pos rfl] at H; exact H
    clear H
    obtain ⟨n, A40, H⟩ := Option.bind_eq_some_iff.mp H1
    clear H1
    have A4 := Aside0.mk A40
    clear A40
    simp only [Option.some.injEq, Prod.mk.injEq] at H
    obtain ⟨rfl, rfl⟩ := H
    go_enter Try.func35, Try.ntmps35
    go_wp2_with (first | ((with_reducible refine gate_callee (f := 57) rfl ?_); refine goesL_ (some 6) rfl rfl Try.func57 (by kernel_rfl) rfl #[.slice A0 l0.length c0] rfl (by (try simp only [List.map_toArray, List.map_cons, List.map_nil]); first | done | rfl | (simp only [List.length_drop, List.length_take]; rfl)) ?_; (with_reducible refine (impl_isRuler.calls k _ _ l0 true _ ?side1 ?side2 A2.out).mono ?_); (case side1 => repeat (first | exact HR0.out | (with_reducible refine Kd.C_alloc ?_ _) | (with_reducible refine Kd.C_drewN ?_ _) | (with_reducible refine Kd.C_drew ?_))); (case side2 => exact HC0.out); rintro e w' ⟨rfl, ⟨nd, rfl⟩⟩; refine ⟨_, rfl, ?_⟩; have FW : ((w.drewN nd).alloc (.cells #[.int .i64 0] 3)).cell? ⟨w.heap.size, 0, none⟩ = some (.int .i64 0) := cell_of_one (alloc_lastW (w.drewN nd) (.int .i64 0) 3); have FF : ((w.drewN nd).alloc (.cells #[.int .i64 0] 3)).frozen? ⟨w.heap.size, 0, none⟩ = false := free_of_one (alloc_lastW (w.drewN nd) (.int .i64 0) 3)) | (go_at_call 60; refine (impl_foldingsW.calls k A0 c0 l0 0 n _ w _ HR0.out HC0.out ?s3 ?s4 ?s5 A4.out).mono ?_; (case s3 => first | exact Below.alloc (HB.out.trans (below_drewNW _ nd _)) (Nat.le_refl _) _ | exact Below.setCell (p := ⟨w.heap.size, 0, none⟩) (Below.alloc (HB.out.trans (below_drewNW _ nd _)) (Nat.le_refl _) _) (Nat.le_refl _) _); (case s4 => exact Nat.le_refl _); (case s5 => first | exact alloc_lastW _ _ _ | exact one_setCell (alloc_lastW _ _ _)); rintro e w1 ⟨rfl, hi, hb⟩; have cg := cell_of_one hi; have HB2 := Aside0.mk hb))
    go_ret2
    exact ⟨rfl, HB2.out⟩
  · replace c3 := Bool.eq_false_iff.mpr c3
    subst c3
    have H1 : (some (0, false)) = some (r1, r2) := by rw [if_neg (show ¬ (false = true) by decide)] at H; exact H
    clear H
    have H := H1
    clear H1
    simp only [Option.some.injEq, Prod.mk.injEq] at H
    obtain ⟨rfl, rfl⟩ := H
    go_enter Try.func35, Try.ntmps35
    go_wp2_with (first | ((with_reducible refine gate_callee (f := 57) rfl ?_); refine goesL_ (some 6) rfl rfl Try.func57 (by kernel_rfl) rfl #[.slice A0 l0.length c0] rfl (by (try simp only [List.map_toArray, List.map_cons, List.map_nil]); first | done | rfl | (simp only [List.length_drop, List.length_take]; rfl)) ?_; (with_reducible refine (impl_isRuler.calls k _ _ l0 false _ ?side1 ?side2 A2.out).mono ?_); (case side1 => repeat (first | exact HR0.out | (with_reducible refine Kd.C_alloc ?_ _) | (with_reducible refine Kd.C_drewN ?_ _) | (with_reducible refine Kd.C_drew ?_))); (case side2 => exact HC0.out); rintro e w' ⟨rfl, ⟨nd, rfl⟩⟩; refine ⟨_, rfl, ?_⟩))
    go_ret2
    exact ⟨rfl, by repeat (first | (with_reducible first | exact HB.out | apply below_alloc | apply pw_below_drewN | apply below_drew1) | exact HB.out)⟩

end Go.Proofs.Ytfihnemjaademaa.PD
