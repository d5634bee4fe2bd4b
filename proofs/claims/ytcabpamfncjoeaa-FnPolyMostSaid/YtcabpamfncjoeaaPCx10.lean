-- written by a program of this session (wip/gen/drive.py), which calls the kit's print.py
import Derived.Test.YtcabpamfncjoeaaPCx0
import Derived.Test.YtcabpamfncjoeaaPCx3
namespace Go.Proofs.Ytcabpamfncjoeaa.PC
open Go.RowKit Go.Proofs.YtcabpamfncjoeaaW.PrintWords Go.Proofs.YtcabpamfncjoeaaW.PrintLast Go.Proofs.YtcabpamfncjoeaaW.PrintMore
attribute [local go_sem] max2_int min2_int max_two min_two max_three min_three max_four min_four   -- for this text's walks alone
set_option linter.unusedVariables false
set_option linter.unusedSimpArgs false

/-! ### impl_StickMany: function 35 -/
theorem alloc_lastM (w : World) (v : Value) (T : TypeId) : (w.alloc (.cells #[v] T)).heap[w.heap.size]? = some (.cells #[v] T (0, 0)) := by
  show (w.heap.push (.cells #[v] T))[w.heap.size]? = _
  simp
theorem below_drewNM (w : World) (n B : Nat) : Below B w (w.drewN n) := pw_below_drewN (Below.refl B w) n
def impl_StickMany_1.f (q : List Int) (a0 a1 a2 a3 : Int) : Option Int := if 0 ≤ a1 then (if a1 < (q.length : Int) then (if 0 ≤ a2 then (if a2 < (q.length : Int) then (if 0 ≤ a3 then (if a3 < (q.length : Int) then (if (rd q a3) < (wrap64 ((rd q a1) + (rd q a2))) then some (wrap64 (a0 + 1)) else some a0) else none) else none) else none) else none) else none) else none
theorem impl_StickMany_1.calls (g h : Nat) (A0 : Option Addr) (c0 : Nat) (l0 : List Int) (a0 a1 a2 a3 r : Int) (w0 w : World) (hr0 : Kd.C (Kd.int .i64) w0 A0 l0.length l0) (hc0 : l0.length ≤ c0) (hb0 : Below w0.heap.size w0 w) (hg0 : w0.heap.size ≤ g) (hg : w.heap[g]? = some (.cells #[.int .i64 a0] 3 (0, 0))) (hz : w.heap[h]? = some (.cells #[.slice A0 l0.length c0] 29 (0, 0))) (hgh : h ≠ g) (hf : impl_StickMany_1.f l0 a0 a1 a2 a3 = some r) :
    Calls Try.prog 53 #[.int .i64 a1, .int .i64 a2, .int .i64 a3, .pointer (some ⟨h, 0, none⟩), .pointer (some ⟨g, 0, none⟩)] w fun e w' => e = .returned (.tuple #[]) ∧ w'.heap[g]? = some (.cells #[.int .i64 r] 3 (0, 0)) ∧ w'.heap[h]? = some (.cells #[.slice A0 l0.length c0] 29 (0, 0)) ∧ Below w0.heap.size w w' := by
  have cW := cell_of_one hg
  have fW := free_of_one hg
  have cZ := cell_of_one hz
  have fZ := free_of_one hz
  unfold impl_StickMany_1.f at hf
  by_cases p1 : 0 ≤ a1
  · rw [if_pos p1] at hf
    by_cases q1 : a1 < (l0.length : Int)
    · rw [if_pos q1] at hf
      by_cases p2 : 0 ≤ a2
      · rw [if_pos p2] at hf
        by_cases q2 : a2 < (l0.length : Int)
        · rw [if_pos q2] at hf
          by_cases p3 : 0 ≤ a3
          · rw [if_pos p3] at hf
            by_cases q3 : a3 < (l0.length : Int)
            · rw [if_pos q3] at hf
              obtain ⟨ad, e1, h1⟩ := Kd.at_int hr0 a1 p1 q1
              cases e1
              obtain ⟨ad2, e2, h2⟩ := Kd.at_int hr0 a2 p2 q2
              cases e2
              obtain ⟨ad3, e3, h3⟩ := Kd.at_int hr0 a3 p3 q3
              cases e3
              replace h1 := (hb0.cell (World.block_lt_of_cell? w0 _ h1)).trans h1
              replace h2 := (hb0.cell (World.block_lt_of_cell? w0 _ h2)).trans h2
              replace h3 := (hb0.cell (World.block_lt_of_cell? w0 _ h3)).trans h3
              replace p1 := eq_true p1
              replace p2 := eq_true p2
              replace p3 := eq_true p3
              replace q1 := eq_true q1
              replace q2 := eq_true q2
              replace q3 := eq_true q3
              by_cases ht : (rd l0 a3) < (wrap64 ((rd l0 a1) + (rd l0 a2)))
              · rw [if_pos ht] at hf
                obtain rfl := Option.some.inj hf
                have hd : decide ((rd l0 a3) < (wrap64 ((rd l0 a1) + (rd l0 a2)))) = true := decide_eq_true ht
                clear hf ht
                go_enter Try.func53, Try.ntmps53
                go_wp2
                go_quiet (fail)
                go_wp2
                go_end0
                exact ⟨rfl, one_setCell hg, (Below.heap_setCell _ ⟨g, 0, none⟩ _ h hgh).trans hz, Below.setCell (p := ⟨g, 0, none⟩) (by repeat (first | exact Below.refl _ w | apply pw_below_drewN | apply below_drew1)) hg0 _⟩
              · rw [if_neg ht] at hf
                obtain rfl := Option.some.inj hf
                have hd : decide ((rd l0 a3) < (wrap64 ((rd l0 a1) + (rd l0 a2)))) = false := decide_eq_false ht
                clear hf ht
                go_enter Try.func53, Try.ntmps53
                go_wp2
                go_quiet (fail)
                go_wp2
                go_end0
                exact ⟨rfl, hg, hz, by repeat (first | exact Below.refl _ w | apply pw_below_drewN | apply below_drew1)⟩
            · rw [if_neg q3] at hf; exact absurd hf (by simp)
          · rw [if_neg p3] at hf; exact absurd hf (by simp)
        · rw [if_neg q2] at hf; exact absurd hf (by simp)
      · rw [if_neg p2] at hf; exact absurd hf (by simp)
    · rw [if_neg q1] at hf; exact absurd hf (by simp)
  · rw [if_neg p1] at hf; exact absurd hf (by simp)
/-! ### impl_threes: function 52 -/
mutual
def impl_threes.l0 (q : List Int) : Nat → List Int → Int → Int → Int → Option (Int)
  | 0, _, _, _, _ => none
  | k + 1, x0, x1, x8, x9 => if x9 < x8 then (impl_threes.l1 q k x0 x1 x9 (wrap64 (x9 + 1)) x8 x9) else (some x1)
def impl_threes.l1 (q : List Int) : Nat → List Int → Int → Int → Int → Int → Int → Option (Int)
  | 0, _, _, _, _, _, _ => none
  | k + 1, x0, x1, x4, x5, x8, x9 => if x5 < (x0.length : Int) then (impl_threes.l2 q k x0 x1 x4 x5 (wrap64 (x5 + 1)) x8 x9) else (impl_threes.l0 q k x0 x1 x8 (wrap64 (x9 + 1)))
def impl_threes.l2 (q : List Int) : Nat → List Int → Int → Int → Int → Int → Int → Int → Option (Int)
  | 0, _, _, _, _, _, _, _ => none
  | k + 1, x0, x1, x4, x5, x6, x8, x9 => if x6 < (x0.length : Int) then ((impl_StickMany_1.f q x1 x4 x5 x6).bind fun t234 => (impl_threes.l2 q k x0 t234 x4 x5 (wrap64 (x6 + 1)) x8 x9)) else (impl_threes.l1 q k x0 x1 x4 (wrap64 (x5 + 1)) x8 x9)
end
def impl_threes.f (q : List Int) (k : Nat) (l0 : List Int) (a1 : Int) : Option (Int) := impl_threes.l0 q k l0 a1 (l0.length : Int) 0
theorem impl_threes.mono_l (q : List Int) : ∀ k, (∀ y0 y1 y2 y3, LeO (impl_threes.l0 q k y0 y1 y2 y3) (impl_threes.l0 q (k + 1) y0 y1 y2 y3)) ∧ (∀ y0 y1 y2 y3 y4 y5, LeO (impl_threes.l1 q k y0 y1 y2 y3 y4 y5) (impl_threes.l1 q (k + 1) y0 y1 y2 y3 y4 y5)) ∧ (∀ y0 y1 y2 y3 y4 y5 y6, LeO (impl_threes.l2 q k y0 y1 y2 y3 y4 y5 y6) (impl_threes.l2 q (k + 1) y0 y1 y2 y3 y4 y5 y6))
  | 0 => ⟨fun _ _ _ _ r h => by simp [impl_threes.l0] at h, fun _ _ _ _ _ _ r h => by simp [impl_threes.l1] at h, fun _ _ _ _ _ _ _ r h => by simp [impl_threes.l2] at h⟩
  | k + 1 => by
    obtain ⟨ih0, ih1, ih2⟩ := impl_threes.mono_l q k
    refine ⟨?_, ?_, ?_⟩
    · intro y0 y1 y2 y3
      unfold impl_threes.l0
      repeat' first
      | (with_reducible exact ih0 _ _ _ _)
      | (with_reducible exact ih1 _ _ _ _ _ _)
      | (with_reducible exact ih2 _ _ _ _ _ _ _)
      | (with_reducible exact LeO.refl _)
      | (with_reducible exact LeO.none _)
      | (with_reducible refine LeO.ite ?_ ?_)
      | (with_reducible refine LeO.bind ?_ (fun _ => ?_))
      | exact ih0 _ _ _ _
      | exact ih1 _ _ _ _ _ _
      | exact ih2 _ _ _ _ _ _ _
      | exact LeO.none _
      | refine LeO.ite ?_ ?_
      | refine LeO.bind ?_ (fun _ => ?_)
    · intro y0 y1 y2 y3 y4 y5
      unfold impl_threes.l1
      repeat' first
      | (with_reducible exact ih0 _ _ _ _)
      | (with_reducible exact ih1 _ _ _ _ _ _)
      | (with_reducible exact ih2 _ _ _ _ _ _ _)
      | (with_reducible exact LeO.refl _)
      | (with_reducible exact LeO.none _)
      | (with_reducible refine LeO.ite ?_ ?_)
      | (with_reducible refine LeO.bind ?_ (fun _ => ?_))
      | exact ih0 _ _ _ _
      | exact ih1 _ _ _ _ _ _
      | exact ih2 _ _ _ _ _ _ _
      | exact LeO.none _
      | refine LeO.ite ?_ ?_
      | refine LeO.bind ?_ (fun _ => ?_)
    · intro y0 y1 y2 y3 y4 y5 y6
      unfold impl_threes.l2
      repeat' first
      | (with_reducible exact ih0 _ _ _ _)
      | (with_reducible exact ih1 _ _ _ _ _ _)
      | (with_reducible exact ih2 _ _ _ _ _ _ _)
      | (with_reducible exact LeO.refl _)
      | (with_reducible exact LeO.none _)
      | (with_reducible refine LeO.ite ?_ ?_)
      | (with_reducible refine LeO.bind ?_ (fun _ => ?_))
      | exact ih0 _ _ _ _
      | exact ih1 _ _ _ _ _ _
      | exact ih2 _ _ _ _ _ _ _
      | exact LeO.none _
      | refine LeO.ite ?_ ?_
      | refine LeO.bind ?_ (fun _ => ?_)
theorem impl_threes.mono (q : List Int) : ∀ a0 a1 k, LeO (impl_threes.f q k a0 a1) (impl_threes.f (q : List Int) (k + 1) a0 a1) := by
  intro a0 a1 k
  obtain ⟨ih0, ih1, ih2⟩ := impl_threes.mono_l q k
  unfold impl_threes.f
  repeat' first
      | (with_reducible exact ih0 _ _ _ _)
      | (with_reducible exact ih1 _ _ _ _ _ _)
      | (with_reducible exact ih2 _ _ _ _ _ _ _)
      | (with_reducible exact LeO.refl _)
      | (with_reducible exact LeO.none _)
      | (with_reducible refine LeO.ite ?_ ?_)
      | (with_reducible refine LeO.bind ?_ (fun _ => ?_))
      | exact ih0 _ _ _ _
      | exact ih1 _ _ _ _ _ _
      | exact ih2 _ _ _ _ _ _ _
      | exact LeO.none _
      | refine LeO.ite ?_ ?_
      | refine LeO.bind ?_ (fun _ => ?_)
set_option maxHeartbeats 8000000 in
set_option maxRecDepth 100000 in
theorem impl_threes.calls (k : Nat) (A0 : Option Addr) (c0 : Nat) (l0 : List Int) (a1 : Int) (r : Int) (g h : Nat) (w0 w : World) (hr0 : Kd.C (Kd.int .i64) w0 A0 l0.length l0) (hc0 : l0.length ≤ c0) (hb0 : Below w0.heap.size w0 w) (hg0 : w0.heap.size ≤ g) (hg : w.heap[g]? = some (.cells #[.int .i64 a1] 3 (0, 0))) (hz : w.heap[h]? = some (.cells #[.slice A0 l0.length c0] 29 (0, 0))) (hgh : h ≠ g) (h_ : impl_threes.f l0 k l0 a1 = some r) :
    Calls Try.prog 52 #[.slice A0 l0.length c0, .func (.func 53) #[] #[.pointer (some ⟨h, 0, none⟩), .pointer (some ⟨g, 0, none⟩)]] w fun e w' => e = .returned (.tuple #[]) ∧ w'.heap[g]? = some (.cells #[.int .i64 r] 3 (0, 0)) ∧ Below w0.heap.size w0 w' := by
  have HI := Aside0.mk hg
  have HZ := Aside0.mk hz
  have HB := Aside0.mk hb0
  clear hg hz hb0
  have HR0 := Aside0.mk hr0
  have HC0 := Aside0.mk hc0
  clear hr0 hc0
  have H : (impl_threes.l0 l0 k l0 a1 (l0.length : Int) 0) = some r := h_
  clear h_
  have H' := Aside0.mk H
  clear H
  go_enter Try.func52, Try.ntmps52
  go_wp2
  go_loopg [9] k (fun kq v9 w' => ∃ (x1_1 : Int) (x9_1 : Int), v9 = .int .i64 x9_1 ∧ Aside0 (impl_threes.l0 l0 kq l0 x1_1 (l0.length : Int) x9_1 = some r) ∧ Aside0 (kq ≤ k) ∧ Aside0 (w'.heap[g]? = some (.cells #[.int .i64 x1_1] 3 (0, 0))) ∧ Aside0 (w'.heap[h]? = some (.cells #[.slice A0 l0.length c0] 29 (0, 0))) ∧ Aside0 (Below w0.heap.size w0 w'))
  case atStart => exact ⟨(a1), (0), (by first | rfl | (simp; done) | (simp only [i64_w]; first | done | rfl) | (simp [*]; done)), H', ⟨Nat.le_refl _⟩, HI, HZ, HB⟩
  case round =>
    clear H'
    try clear p2
    try clear HI HZ HB
    obtain ⟨x1_1, x9_1, rfl, HA, HK1, HI, HZ, HB⟩ := hrel
    cases gk with
    | zero => exact absurd HA.out (by simp [impl_threes.l0])
    | succ k1 =>
      have H := HA.out
      clear HA
      simp only [impl_threes.l0] at H
      by_cases c3 : x9_1 < (l0.length : Int)
      · rw [if_pos c3] at H
        have c3b0 : decide (x9_1 < (l0.length : Int)) = true := decide_eq_true c3
        clear c3
        have H' := Aside0.mk H
        clear H
        go_wp2
        go_loopg [5] k1 (fun kq v5 w' => ∃ (x1_2 : Int) (x5_2 : Int), v5 = .int .i64 x5_2 ∧ Aside0 (impl_threes.l1 l0 kq l0 x1_2 x9_1 x5_2 (l0.length : Int) x9_1 = some r) ∧ Aside0 (kq ≤ k1) ∧ Aside0 (w'.heap[g]? = some (.cells #[.int .i64 x1_2] 3 (0, 0))) ∧ Aside0 (w'.heap[h]? = some (.cells #[.slice A0 l0.length c0] 29 (0, 0))) ∧ Aside0 (Below w0.heap.size w0 w'))
        case atStart => exact ⟨(x1_1), (wrap64 (x9_1 + 1)), (by first | rfl | (simp; done) | (simp only [i64_w]; first | done | rfl) | (simp [*]; done)), H', ⟨Nat.le_refl _⟩, HI, HZ, HB⟩
        case round =>
          clear H'
          try clear p2
          try clear c3
          try clear c3b0
          try clear p2
          try clear HI HZ HB
          obtain ⟨x1_2, x5_2, rfl, HA, HK2, HI, HZ, HB⟩ := hrel
          cases gk with
          | zero => exact absurd HA.out (by simp [impl_threes.l1])
          | succ k2 =>
            have H := HA.out
            clear HA
            simp only [impl_threes.l1] at H
            by_cases c4 : x5_2 < (l0.length : Int)
            · rw [if_pos c4] at H
              have c4b0 : decide (x5_2 < (l0.length : Int)) = true := decide_eq_true c4
              clear c4
              have H' := Aside0.mk H
              clear H
              go_wp2
              go_loopg [6] k2 (fun kq v6 w' => ∃ (x1_3 : Int) (x6_3 : Int), v6 = .int .i64 x6_3 ∧ Aside0 (impl_threes.l2 l0 kq l0 x1_3 x9_1 x5_2 x6_3 (l0.length : Int) x9_1 = some r) ∧ Aside0 (kq ≤ k2) ∧ Aside0 (w'.heap[g]? = some (.cells #[.int .i64 x1_3] 3 (0, 0))) ∧ Aside0 (w'.heap[h]? = some (.cells #[.slice A0 l0.length c0] 29 (0, 0))) ∧ Aside0 (Below w0.heap.size w0 w'))
              case atStart => exact ⟨(x1_2), (wrap64 (x5_2 + 1)), (by first | rfl | (simp; done) | (simp only [i64_w]; first | done | rfl) | (simp [*]; done)), H', ⟨Nat.le_refl _⟩, HI, HZ, HB⟩
              case round =>
                clear H'
                try clear p2
                try clear c3
                try clear c3b0
                try clear c4
                try clear c4b0
                try clear p2
                try clear HI HZ HB
                obtain ⟨x1_3, x6_3, rfl, HA, HK3, HI, HZ, HB⟩ := hrel
                cases gk with
                | zero => exact absurd HA.out (by simp [impl_threes.l2])
                | succ k3 =>
                  have H := HA.out
                  clear HA
                  simp only [impl_threes.l2] at H
                  by_cases c5 : x6_3 < (l0.length : Int)
                  · rw [if_pos c5] at H
                    have c5b0 : decide (x6_3 < (l0.length : Int)) = true := decide_eq_true c5
                    clear c5
                    replace H := Option.bind_eq_some_iff.mp H
                    obtain ⟨t234, A60, H⟩ := H
                    replace H : (impl_threes.l2 l0 k3 l0 t234 x9_1 x5_2 (wrap64 (x6_3 + 1)) (l0.length : Int) x9_1) = some r := H
                    have A6 := Aside0.mk A60
                    clear A60
                    have H' := Aside0.mk H
                    clear H
                    go_wp2_with (first | (go_at_call 53; refine (impl_StickMany_1.calls g h A0 c0 l0 x1_3 x9_1 x5_2 x6_3 t234 w0 _ HR0.out HC0.out HB.out hg0 HI.out HZ.out hgh A6.out).mono ?_; rintro e w' ⟨rfl, hi_, hz_, hb_⟩; have HI3 := Aside0.mk hi_; have HZ3 := Aside0.mk hz_; have HB3 := Aside0.mk (HB.out.trans hb_); clear hi_ hz_ hb_ HB HI HZ; have HI := HI3; have HZ := HZ3; have HB := HB3; clear HI3 HZ3 HB3))
                    go_roundg k3
                    case measure => have := HK1.out; have := HK2.out; have := HK3.out; omega
                    case rel => exact ⟨(t234), (wrap64 (x6_3 + 1)), (by first | rfl | (simp; done) | (simp only [i64_w]; first | done | rfl) | (simp [*]; done)), H', ⟨by have := HK1.out; have := HK2.out; have := HK3.out; omega⟩, HI, HZ, HB⟩
                  · rw [if_neg c5] at H
                    have c5b0 : decide (x6_3 < (l0.length : Int)) = false := decide_eq_false c5
                    clear c5
                    have H' := Aside0.mk H
                    clear H
                    go_wp2
                    go_roundg k3
                    case measure => have := HK1.out; have := HK2.out; have := HK3.out; omega
                    case rel => exact ⟨(x1_3), (wrap64 (x5_2 + 1)), (by first | rfl | (simp; done) | (simp only [i64_w]; first | done | rfl) | (simp [*]; done)), H', ⟨by have := HK1.out; have := HK2.out; have := HK3.out; omega⟩, HI, HZ, HB⟩
            · rw [if_neg c4] at H
              have c4b0 : decide (x5_2 < (l0.length : Int)) = false := decide_eq_false c4
              clear c4
              have H' := Aside0.mk H
              clear H
              go_wp2
              go_roundg k2
              case measure => have := HK1.out; have := HK2.out; omega
              case rel => exact ⟨(x1_2), (wrap64 (x9_1 + 1)), (by first | rfl | (simp; done) | (simp only [i64_w]; first | done | rfl) | (simp [*]; done)), H', ⟨by have := HK1.out; have := HK2.out; omega⟩, HI, HZ, HB⟩
      · rw [if_neg c3] at H
        have c3b0 : decide (x9_1 < (l0.length : Int)) = false := decide_eq_false c3
        clear c3
        obtain rfl := Option.some.inj H
        go_wp2
        go_end0
        exact ⟨rfl, HI.out, HB.out⟩


def impl_StickMany.f (k : Nat) (l0 : List Int) : Option (Int × Bool) := ((impl_StickIn.f k l0).bind fun t => (if t = true then ((impl_threes.f l0 k l0 0).bind fun n => some (n, true)) else (some (0, false))))
theorem impl_StickMany.mono : ∀ a0 k, LeO (impl_StickMany.f k a0) (impl_StickMany.f (k + 1) a0) := by
  intro a0 k
  unfold impl_StickMany.f
  exact LeO.bind (impl_StickIn.mono _ _) (fun _ => LeO.ite (LeO.bind (impl_threes.mono _ _ _ _) (fun _ => LeO.refl _)) (LeO.refl _))
set_option maxHeartbeats 8000000 in
set_option maxRecDepth 100000 in
theorem impl_StickMany.calls (k : Nat) (A0 : Option Addr) (c0 : Nat) (l0 : List Int) (r1 : Int) (r2 : Bool) (w : World) (hr0 : Kd.C (Kd.int .i64) w A0 l0.length l0) (hc0 : l0.length ≤ c0) (h : impl_StickMany.f k l0 = some (r1, r2)) :
    Calls Try.prog 35 #[.slice A0 l0.length c0] w fun e w' => e = .returned (.tuple #[.int .i64 r1, .bool r2]) ∧ Below w.heap.size w w' := by
  have hmf : ∀ (fn : Fn) (first cap : Array Value) (w : World), (Instr.makeFunc fn first cap).run Try.prog w = .ok (.func fn first cap) w := fun _ _ _ _ => rfl
  have HR0 := Aside0.mk hr0
  have HC0 := Aside0.mk hc0
  have HR1 := Aside0.mk (Kd.C_alloc hr0 (.cells #[.slice A0 l0.length c0] 29))
  have FB := cell_of_one (alloc_lastM w (.slice A0 l0.length c0) 29)
  clear hr0 hc0
  have HB := Aside0.mk (Below.refl w.heap.size w)
  unfold impl_StickMany.f at h
  obtain ⟨t168, A20, H⟩ := Option.bind_eq_some_iff.mp h
  clear h
  have A2 := Aside0.mk A20
  clear A20
  cases t168 with
  | true =>
    rw [if_pos rfl] at H
    obtain ⟨n, A40, H1⟩ := Option.bind_eq_some_iff.mp H
    clear H
    have A4 := Aside0.mk A40
    clear A40
    simp only [Option.some.injEq, Prod.mk.injEq] at H1
    obtain ⟨rfl, rfl⟩ := H1
    go_enter Try.func35, Try.ntmps35
    go_wp2_with (first | ((with_reducible refine gate_callee (f := 48) rfl ?_); refine goesL_ (some 6) rfl rfl Try.func48 (by kernel_rfl) rfl #[.slice A0 l0.length c0] rfl (by (try simp only [List.map_toArray, List.map_cons, List.map_nil]); first | done | rfl | (simp only [List.length_drop, List.length_take]; rfl)) ?_; (with_reducible refine (impl_StickIn.calls k _ _ l0 true _ ?side1 ?side2 A2.out).mono ?_); (case side1 => exact HR1.out); (case side2 => exact HC0.out); rintro e w' ⟨rfl, ⟨nd, rfl⟩⟩; refine ⟨_, rfl, ?_⟩; have HS : ((w.alloc (.cells #[.slice A0 l0.length c0] 29)).drewN nd).heap.size = w.heap.size + 1 := (by simp); have HG5 := alloc_lastM ((w.alloc (.cells #[.slice A0 l0.length c0] 29)).drewN nd) (.int .i64 0) 3; rw [HS] at HG5; have HZ6 := (Below.heap_alloc ((w.alloc (.cells #[.slice A0 l0.length c0] 29)).drewN nd) (.cells #[.int .i64 0] 3) w.heap.size (by have := HS; omega)).trans (alloc_lastM w (.slice A0 l0.length c0) 29)) | (go_at_call 52; refine (impl_threes.calls k A0 c0 l0 0 n (w.heap.size + 1) w.heap.size w _ HR0.out HC0.out (Below.alloc ((Below.alloc HB.out (Nat.le_refl _) _).trans (below_drewNM _ nd _)) (by have := HS; omega) _) (Nat.le_succ _) ?s5 ?s6 (by omega) A4.out).mono ?_; (case s5 => exact HG5); (case s6 => exact HZ6); rintro e w1 ⟨rfl, hi, hb⟩; have cg := cell_of_one hi; have HB2 := Aside0.mk hb))
    go_ret2
    exact ⟨rfl, HB2.out⟩
  | false =>
    rw [if_neg (by decide)] at H
    simp only [Option.some.injEq, Prod.mk.injEq] at H
    obtain ⟨rfl, rfl⟩ := H
    go_enter Try.func35, Try.ntmps35
    go_wp2_with (first | ((with_reducible refine gate_callee (f := 48) rfl ?_); refine goesL_ (some 6) rfl rfl Try.func48 (by kernel_rfl) rfl #[.slice A0 l0.length c0] rfl (by (try simp only [List.map_toArray, List.map_cons, List.map_nil]); first | done | rfl | (simp only [List.length_drop, List.length_take]; rfl)) ?_; (with_reducible refine (impl_StickIn.calls k _ _ l0 false _ ?side1 ?side2 A2.out).mono ?_); (case side1 => exact HR1.out); (case side2 => exact HC0.out); rintro e w' ⟨rfl, ⟨nd, rfl⟩⟩; refine ⟨_, rfl, ?_⟩))
    go_ret2
    exact ⟨rfl, (Below.alloc HB.out (Nat.le_refl _) _).trans (below_drewNM _ nd _)⟩

end Go.Proofs.Ytcabpamfncjoeaa.PC
