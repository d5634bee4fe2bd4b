-- written by a program of this session (wip/gen/drive.py), which calls the kit's print.py
import Derived.Test.YtpeiefgkjfnfgaaPBx0
import Derived.Test.YtpeiefgkjfnfgaaPBx1
import Derived.Test.YtpeiefgkjfnfgaaPBx2
import Derived.Test.YtpeiefgkjfnfgaaPBx3
import Derived.Test.YtpeiefgkjfnfgaaPBx10
import Derived.Test.YtpeiefgkjfnfgaaPBx11
import Derived.Test.YtpeiefgkjfnfgaaPBx13
import Derived.Test.YtpeiefgkjfnfgaaPBx14
namespace Go.Proofs.Ytpeiefgkjfnfgaa.PB
open Go.RowKit Go.Proofs.YtpeiefgkjfnfgaaW.PrintWords Go.Proofs.YtpeiefgkjfnfgaaW.PrintLast Go.Proofs.YtpeiefgkjfnfgaaW.PrintMore
attribute [local go_sem] max2_int min2_int max_two min_two max_three min_three max_four min_four   -- for this text's walks alone
set_option linter.unusedVariables false
set_option linter.unusedSimpArgs false

/-! ### laws_FnExactPathTurn: function 8 -/
def laws_FnExactPathTurn.f (k : Nat) (l0 : List (List Int)) : Option (Bool) := ((laws_szIntSS.f k l0 1048576).bind fun m => (if m < 0 then some true else ((laws_toIntSS.f k l0).bind fun t1 => ((spec_PathTurn.f k t1).bind fun w => ((laws_toIntSS.f k l0).bind fun x => ((impl_PathTurn.f k x).bind fun g => ((laws_eqIntSS.f k g.1 w.1).bind fun e1 => (if e1 = true then (if g.2 = w.2 then ((laws_toIntSS.f k l0).bind fun y => ((laws_eqIntSS.f k x y).bind fun e2 => (if e2 = true then ((laws_markIntSS.f k x 1).bind fun mk => (if mk.1 < 0 then none else ((laws_eqIntSS.f k g.1 w.1).bind fun e3 => (if e3 = true then ((laws_markIntSS.f k g.1 1).bind fun mg => ((laws_heldIntSS.f k mg.2 1).bind fun q => (if q < 0 then none else (if q = mg.1 then ((laws_toIntSS.f k l0).bind fun z => ((impl_PathTurn.f k z).bind fun h => ((laws_eqIntSS.f k h.1 w.1).bind fun e4 => (if e4 = true then (if h.2 = w.2 then ((laws_heldIntSS.f k mg.2 1).bind fun q2 => (if q2 < 0 then none else (if q2 = mg.1 then some true else none))) else none) else none)))) else none)))) else none)))) else none))) else none) else none))))))))
theorem laws_FnExactPathTurn.mono : ∀ a0 k, LeO (laws_FnExactPathTurn.f k a0) (laws_FnExactPathTurn.f (k + 1) a0) := by
  intro a0 k
  unfold laws_FnExactPathTurn.f
  repeat' first
      | exact laws_szIntSS.mono _ _ _
      | exact laws_toIntSS.mono _ _
      | exact spec_PathTurn.mono _ _
      | exact impl_PathTurn.mono _ _
      | exact laws_eqIntSS.mono _ _ _
      | exact laws_markIntSS.mono _ _ _
      | exact laws_heldIntSS.mono _ _ _
      | exact LeO.refl _
      | exact LeO.none _
      | refine LeO.ite ?_ ?_
      | refine LeO.bind ?_ (fun _ => ?_)
theorem laws_FnExactPathTurn.heldN (k : Nat) (A : Option Addr) (n c : Nat) (l : List (List Int)) (a r : Int) (w : World) (hn : n = l.length) (hr : Kd.C (Kd.slice 3 (Kd.int .i64)) w A l.length l) (hc : n ≤ c) (h : laws_heldIntSS.f k l a = some r) : Calls Try.prog 27 #[.slice A n c, .int .i64 a] w fun e w' => e = .returned (.int .i64 r) ∧ Drawn0 w w' := by
  subst hn
  exact laws_heldIntSS.calls k A c l a r w hr hc h
set_option maxHeartbeats 8000000 in
set_option maxRecDepth 100000 in
theorem laws_FnExactPathTurn.calls (k : Nat) (A0 : Option Addr) (c0 : Nat) (l0 : List (List Int)) (r : Bool) (w : World) (hr0 : Kd.C (Kd.slice 3 (Kd.int .i64)) w A0 l0.length l0) (hc0 : l0.length ≤ c0) (h : laws_FnExactPathTurn.f k l0 = some r) :
    Calls Try.prog 8 #[.slice A0 l0.length c0] w fun e w' => e = .returned (.bool r) ∧ Below w.heap.size w w' := by
  have HR0 := Aside0.mk hr0
  have HC0 := Aside0.mk hc0
  have HS := Aside0.mk (St_start w)
  clear hr0 hc0
  unfold laws_FnExactPathTurn.f at h
  replace h := Option.bind_eq_some_iff.mp h
  obtain ⟨m, B10, h⟩ := h
  have B1 := Aside0.mk B10
  clear B10
  by_cases c1 : m < 0
  · rw [if_pos c1] at h
    have c1b : decide (m < 0) = true := decide_eq_true c1
    clear c1
    obtain rfl := Option.some.inj h
    go_enter Try.func8, Try.ntmps8
    go_wp2_with (first | ((with_reducible refine gate_callee (f := 13) rfl ?_); refine goesL_ (some 16) rfl rfl Try.func13 (by kernel_rfl) rfl #[.slice A0 l0.length c0, .int .i64 1048576] rfl (by (try simp only [List.map_toArray, List.map_cons, List.map_nil]); first | done | rfl) ?_; (with_reducible refine (laws_szIntSS.calls k _ _ l0 1048576 m _ ?s1 ?s2 B1.out).mono ?_); (case s1 => exact Kd.C_below HR0.out HS.out.1); (case s2 => exact HC0.out); rintro e w9 ⟨rfl, hd9⟩; refine ⟨_, rfl, ?_⟩; have n0_ := St_drawn HS.out hd9; clear HS; have HS := Aside0.mk n0_; clear n0_))
    go_ret
    exact ⟨rfl, HS.out.1⟩
  · rw [if_neg c1] at h
    have c1b : decide (m < 0) = false := decide_eq_false c1
    clear c1
    replace h := Option.bind_eq_some_iff.mp h
    obtain ⟨t1, B20, h⟩ := h
    have B2 := Aside0.mk B20
    clear B20
    replace h := Option.bind_eq_some_iff.mp h
    obtain ⟨⟨w1, w2⟩, B30, h⟩ := h
    try dsimp only at h
    have B3 := Aside0.mk B30
    clear B30
    replace h := Option.bind_eq_some_iff.mp h
    obtain ⟨x, B40, h⟩ := h
    have B4 := Aside0.mk B40
    clear B40
    replace h := Option.bind_eq_some_iff.mp h
    obtain ⟨⟨g1, g2⟩, B50, h⟩ := h
    try dsimp only at h
    have B5 := Aside0.mk B50
    clear B50
    replace h := Option.bind_eq_some_iff.mp h
    obtain ⟨e1, B60, h⟩ := h
    have B6 := Aside0.mk B60
    clear B60
    by_cases c_ : ¬ (e1 = true)
    · rw [if_neg c_] at h; exact absurd h (by simp)
    replace c_ := Decidable.of_not_not c_
    rw [if_pos c_] at h
    subst c_
    by_cases c_ : ¬ (g2 = w2)
    · rw [if_neg c_] at h; exact absurd h (by simp)
    replace c_ := Decidable.of_not_not c_
    rw [if_pos c_] at h
    subst c_
    replace h := Option.bind_eq_some_iff.mp h
    obtain ⟨y, B70, h⟩ := h
    have B7 := Aside0.mk B70
    clear B70
    replace h := Option.bind_eq_some_iff.mp h
    obtain ⟨e2, B80, h⟩ := h
    have B8 := Aside0.mk B80
    clear B80
    by_cases c_ : ¬ (e2 = true)
    · rw [if_neg c_] at h; exact absurd h (by simp)
    replace c_ := Decidable.of_not_not c_
    rw [if_pos c_] at h
    subst c_
    replace h := Option.bind_eq_some_iff.mp h
    obtain ⟨⟨k1, k2⟩, B90, h⟩ := h
    try dsimp only at h
    have B9 := Aside0.mk B90
    clear B90
    by_cases c_ : k1 < 0
    · rw [if_pos c_] at h; exact absurd h (by simp)
    rw [if_neg c_] at h
    have d1 : decide (k1 < 0) = false := decide_eq_false c_
    clear c_
    replace h := Option.bind_eq_some_iff.mp h
    obtain ⟨e3, B100, h⟩ := h
    have B10 := Aside0.mk B100
    clear B100
    by_cases c_ : ¬ (e3 = true)
    · rw [if_neg c_] at h; exact absurd h (by simp)
    replace c_ := Decidable.of_not_not c_
    rw [if_pos c_] at h
    subst c_
    replace h := Option.bind_eq_some_iff.mp h
    obtain ⟨⟨m1, m2⟩, B110, h⟩ := h
    try dsimp only at h
    have B11 := Aside0.mk B110
    clear B110
    replace h := Option.bind_eq_some_iff.mp h
    obtain ⟨q, B120, h⟩ := h
    have B12 := Aside0.mk B120
    clear B120
    by_cases c_ : q < 0
    · rw [if_pos c_] at h; exact absurd h (by simp)
    rw [if_neg c_] at h
    have d2 : decide (q < 0) = false := decide_eq_false c_
    clear c_
    by_cases c_ : ¬ (q = m1)
    · rw [if_neg c_] at h; exact absurd h (by simp)
    replace c_ := Decidable.of_not_not c_
    rw [if_pos c_] at h
    have d3 : (q == m1) = true := beq_iff_eq.mpr c_
    have d3' : (q != m1) = false := bne_eq_false_iff_eq.mpr c_
    clear c_
    replace h := Option.bind_eq_some_iff.mp h
    obtain ⟨z, B130, h⟩ := h
    have B13 := Aside0.mk B130
    clear B130
    replace h := Option.bind_eq_some_iff.mp h
    obtain ⟨⟨h1, h2⟩, B140, h⟩ := h
    try dsimp only at h
    have B14 := Aside0.mk B140
    clear B140
    replace h := Option.bind_eq_some_iff.mp h
    obtain ⟨e4, B150, h⟩ := h
    have B15 := Aside0.mk B150
    clear B150
    by_cases c_ : ¬ (e4 = true)
    · rw [if_neg c_] at h; exact absurd h (by simp)
    replace c_ := Decidable.of_not_not c_
    rw [if_pos c_] at h
    subst c_
    by_cases c_ : ¬ (h2 = g2)
    · rw [if_neg c_] at h; exact absurd h (by simp)
    replace c_ := Decidable.of_not_not c_
    rw [if_pos c_] at h
    subst c_
    replace h := Option.bind_eq_some_iff.mp h
    obtain ⟨q2, B160, h⟩ := h
    have B16 := Aside0.mk B160
    clear B160
    by_cases c_ : q2 < 0
    · rw [if_pos c_] at h; exact absurd h (by simp)
    rw [if_neg c_] at h
    have d4 : decide (q2 < 0) = false := decide_eq_false c_
    clear c_
    by_cases c_ : ¬ (q2 = m1)
    · rw [if_neg c_] at h; exact absurd h (by simp)
    replace c_ := Decidable.of_not_not c_
    rw [if_pos c_] at h
    have d5 : (q2 == m1) = true := beq_iff_eq.mpr c_
    have d5' : (q2 != m1) = false := bne_eq_false_iff_eq.mpr c_
    clear c_
    obtain rfl := Option.some.inj h
    have hbn : (h2 != h2) = false := by simp
    go_enter Try.func8, Try.ntmps8
    go_wp2_with (first | ((with_reducible refine gate_callee (f := 13) rfl ?_); refine goesL_ (some 16) rfl rfl Try.func13 (by kernel_rfl) rfl #[.slice A0 l0.length c0, .int .i64 1048576] rfl (by (try simp only [List.map_toArray, List.map_cons, List.map_nil]); first | done | rfl) ?_; (with_reducible refine (laws_szIntSS.calls k _ _ l0 1048576 m _ ?s1 ?s2 B1.out).mono ?_); (case s1 => exact Kd.C_below HR0.out HS.out.1); (case s2 => exact HC0.out); rintro e w9 ⟨rfl, hd9⟩; refine ⟨_, rfl, ?_⟩; have n0_ := St_drawn HS.out hd9; clear HS; have HS := Aside0.mk n0_; clear n0_) | ((with_reducible refine gate_callee (f := 15) rfl ?_); refine goesL_ (some 21) rfl rfl Try.func15 (by kernel_rfl) rfl #[.slice A0 l0.length c0] rfl (by (try simp only [List.map_toArray, List.map_cons, List.map_nil]); first | done | rfl) ?_; (with_reducible refine (laws_toIntSS.calls k _ _ l0 t1 _ ?s1 ?s2 B2.out).mono ?_); (case s1 => exact Kd.C_below HR0.out HS.out.1); (case s2 => exact HC0.out); rintro e w9 ⟨v9, rfl, ho9, hb9⟩; refine ⟨_, rfl, ?_⟩; obtain ⟨At, ct, eo9⟩ := Kd.S_slice ho9; subst eo9; obtain ⟨lot, hit, n0_⟩ := St_new HS.out ho9 hb9; clear HS ho9 hb9; have HS := Aside0.mk n0_; clear n0_) | ((with_reducible refine gate_callee (f := 28) rfl ?_); refine goesL_ (some 22) rfl rfl Try.func28 (by kernel_rfl) rfl #[.slice At t1.length ct] rfl (by (try simp only [List.map_toArray, List.map_cons, List.map_nil]); first | done | rfl) ?_; (with_reducible refine (spec_PathTurn.calls k _ _ t1 w1 h2 _ ?s1 ?s2 B3.out).mono ?_); (case s1 => exact (St_get HS.out 0 rfl).2.2); (case s2 => exact (St_get HS.out 0 rfl).2.1); rintro e w9 ⟨v9, rfl, ho9, hb9⟩; refine ⟨_, rfl, ?_⟩; obtain ⟨Aw, cw, eo9⟩ := Kd.S_slice ho9; subst eo9; obtain ⟨low, hiw, n0_⟩ := St_new HS.out ho9 hb9; clear HS ho9 hb9; have HS := Aside0.mk n0_; clear n0_) | ((with_reducible refine gate_callee (f := 15) rfl ?_); refine goesL_ (some 26) rfl rfl Try.func15 (by kernel_rfl) rfl #[.slice A0 l0.length c0] rfl (by (try simp only [List.map_toArray, List.map_cons, List.map_nil]); first | done | rfl) ?_; (with_reducible refine (laws_toIntSS.calls k _ _ l0 x _ ?s1 ?s2 B4.out).mono ?_); (case s1 => exact Kd.C_below HR0.out HS.out.1); (case s2 => exact HC0.out); rintro e w9 ⟨v9, rfl, ho9, hb9⟩; refine ⟨_, rfl, ?_⟩; obtain ⟨Ax, cx, eo9⟩ := Kd.S_slice ho9; subst eo9; obtain ⟨lox, hix, n0_⟩ := St_new HS.out ho9 hb9; clear HS ho9 hb9; have HS := Aside0.mk n0_; clear n0_) | ((with_reducible refine gate_callee (f := 29) rfl ?_); refine goesL_ (some 29) rfl rfl Try.func29 (by kernel_rfl) rfl #[.slice Ax x.length cx] rfl (by (try simp only [List.map_toArray, List.map_cons, List.map_nil]); first | done | rfl) ?_; (with_reducible refine (impl_PathTurn.calls k _ _ x g1 h2 _ ?s1 ?s2 B5.out).mono ?_); (case s1 => exact (St_get HS.out 0 rfl).2.2); (case s2 => exact (St_get HS.out 0 rfl).2.1); rintro e w9 ⟨v9, rfl, ho9, hb9⟩; refine ⟨_, rfl, ?_⟩; obtain ⟨Ag, cg, eo9⟩ := Kd.S_slice ho9; subst eo9; obtain ⟨log, hig, n0_⟩ := St_new HS.out ho9 hb9; clear HS ho9 hb9; have HS := Aside0.mk n0_; clear n0_) | ((with_reducible refine gate_callee (f := 17) rfl ?_); refine goesL_ (some 34) rfl rfl Try.func17 (by kernel_rfl) rfl #[.slice Ag g1.length cg, .slice Aw w1.length cw] rfl (by (try simp only [List.map_toArray, List.map_cons, List.map_nil]); first | done | rfl) ?_; (with_reducible refine (laws_eqIntSS.calls k _ _ g1 _ _ w1 true _ ?s1 ?s2 ?s3 ?s4 B6.out).mono ?_); (case s1 => exact (St_get HS.out 0 rfl).2.2); (case s2 => exact (St_get HS.out 0 rfl).2.1); (case s3 => exact (St_get HS.out 2 rfl).2.2); (case s4 => exact (St_get HS.out 2 rfl).2.1); rintro e w9 ⟨rfl, hd9⟩; refine ⟨_, rfl, ?_⟩; have n0_ := St_drawn HS.out hd9; clear HS; have HS := Aside0.mk n0_; clear n0_) | ((with_reducible refine gate_callee (f := 15) rfl ?_); refine goesL_ (some 43) rfl rfl Try.func15 (by kernel_rfl) rfl #[.slice A0 l0.length c0] rfl (by (try simp only [List.map_toArray, List.map_cons, List.map_nil]); first | done | rfl) ?_; (with_reducible refine (laws_toIntSS.calls k _ _ l0 y _ ?s1 ?s2 B7.out).mono ?_); (case s1 => exact Kd.C_below HR0.out HS.out.1); (case s2 => exact HC0.out); rintro e w9 ⟨v9, rfl, ho9, hb9⟩; refine ⟨_, rfl, ?_⟩; obtain ⟨Ay, cy, eo9⟩ := Kd.S_slice ho9; subst eo9; obtain ⟨loy, hiy, n0_⟩ := St_new HS.out ho9 hb9; clear HS ho9 hb9; have HS := Aside0.mk n0_; clear n0_) | ((with_reducible refine gate_callee (f := 17) rfl ?_); refine goesL_ (some 44) rfl rfl Try.func17 (by kernel_rfl) rfl #[.slice Ax x.length cx, .slice Ay y.length cy] rfl (by (try simp only [List.map_toArray, List.map_cons, List.map_nil]); first | done | rfl) ?_; (with_reducible refine (laws_eqIntSS.calls k _ _ x _ _ y true _ ?s1 ?s2 ?s3 ?s4 B8.out).mono ?_); (case s1 => exact (St_get HS.out 2 rfl).2.2); (case s2 => exact (St_get HS.out 2 rfl).2.1); (case s3 => exact (St_get HS.out 0 rfl).2.2); (case s4 => exact (St_get HS.out 0 rfl).2.1); rintro e w9 ⟨rfl, hd9⟩; refine ⟨_, rfl, ?_⟩; have n0_ := St_drawn HS.out hd9; clear HS; have HS := Aside0.mk n0_; clear n0_) | ((with_reducible refine gate_callee (f := 26) rfl ?_); refine goesL_ (some 48) rfl rfl Try.func26 (by kernel_rfl) rfl #[.slice Ax x.length cx, .int .i64 1] rfl (by (try simp only [List.map_toArray, List.map_cons, List.map_nil]); first | done | rfl) ?_; (with_reducible refine (laws_markIntSS.calls2 k (fun k_ => lox ≤ k_ ∧ k_ < hix) (.slice Ax x.length cx) x 1 k1 k2 w _ ?s1 ?s2 B9.out).mono ?_); (case s1 => exact HS.out.1); (case s2 => exact St_row HS.out 2 rfl); rintro e w9 ⟨rfl, hs9, hb9, hk9⟩; refine ⟨_, rfl, ?_⟩; have n0_ := St_mark HS.out 2 rfl hs9 hb9 hk9; clear HS; have HS := Aside0.mk n0_; clear n0_; clear hs9 hb9 hk9) | (go_at_call 17; (with_reducible refine (laws_eqIntSS.calls k _ _ g1 _ _ w1 true _ ?s1 ?s2 ?s3 ?s4 B10.out).mono ?_); (case s1 => exact (St_get HS.out 1 rfl).2.2); (case s2 => exact (St_get HS.out 1 rfl).2.1); (case s3 => exact (St_get HS.out 3 rfl).2.2); (case s4 => exact (St_get HS.out 3 rfl).2.1); rintro e w9 ⟨rfl, hd9⟩; have n0_ := St_drawn HS.out hd9; clear HS; have HS := Aside0.mk n0_; clear n0_) | ((with_reducible refine gate_callee (f := 26) rfl ?_); refine goesL_ (some 64) rfl rfl Try.func26 (by kernel_rfl) rfl #[.slice Ag g1.length cg, .int .i64 1] rfl (by (try simp only [List.map_toArray, List.map_cons, List.map_nil]); first | done | rfl) ?_; (with_reducible refine (laws_markIntSS.calls2 k (fun k_ => log ≤ k_ ∧ k_ < hig) (.slice Ag g1.length cg) g1 1 m1 m2 w _ ?s1 ?s2 B11.out).mono ?_); (case s1 => exact HS.out.1); (case s2 => exact St_row HS.out 1 rfl); rintro e w9 ⟨rfl, hs9, hb9, hk9⟩; refine ⟨_, rfl, ?_⟩; have n0_ := St_mark HS.out 1 rfl hs9 hb9 hk9; clear HS; have HS := Aside0.mk n0_; clear n0_; clear hs9 hb9 hk9) | ((with_reducible refine gate_callee (f := 27) rfl ?_); refine goesL_ (some 67) rfl rfl Try.func27 (by kernel_rfl) rfl #[.slice Ag g1.length cg, .int .i64 1] rfl (by (try simp only [List.map_toArray, List.map_cons, List.map_nil]); first | done | rfl) ?_; (with_reducible refine (laws_FnExactPathTurn.heldN k _ _ _ m2 1 q _ ?s0 ?s1 ?s2 B12.out).mono ?_); (case s0 => exact (St_get HS.out 1 rfl).1); (case s1 => exact (St_get HS.out 1 rfl).2.2); (case s2 => exact (St_get HS.out 1 rfl).2.1); rintro e w9 ⟨rfl, hd9⟩; refine ⟨_, rfl, ?_⟩; have n0_ := St_drawn HS.out hd9; clear HS; have HS := Aside0.mk n0_; clear n0_) | ((with_reducible refine gate_callee (f := 15) rfl ?_); refine goesL_ (some 75) rfl rfl Try.func15 (by kernel_rfl) rfl #[.slice A0 l0.length c0] rfl (by (try simp only [List.map_toArray, List.map_cons, List.map_nil]); first | done | rfl) ?_; (with_reducible refine (laws_toIntSS.calls k _ _ l0 z _ ?s1 ?s2 B13.out).mono ?_); (case s1 => exact Kd.C_below HR0.out HS.out.1); (case s2 => exact HC0.out); rintro e w9 ⟨v9, rfl, ho9, hb9⟩; refine ⟨_, rfl, ?_⟩; obtain ⟨Az, cz, eo9⟩ := Kd.S_slice ho9; subst eo9; obtain ⟨loz, hiz, n0_⟩ := St_new HS.out ho9 hb9; clear HS ho9 hb9; have HS := Aside0.mk n0_; clear n0_) | ((with_reducible refine gate_callee (f := 29) rfl ?_); refine goesL_ (some 76) rfl rfl Try.func29 (by kernel_rfl) rfl #[.slice Az z.length cz] rfl (by (try simp only [List.map_toArray, List.map_cons, List.map_nil]); first | done | rfl) ?_; (with_reducible refine (impl_PathTurn.calls k _ _ z h1 h2 _ ?s1 ?s2 B14.out).mono ?_); (case s1 => exact (St_get HS.out 0 rfl).2.2); (case s2 => exact (St_get HS.out 0 rfl).2.1); rintro e w9 ⟨v9, rfl, ho9, hb9⟩; refine ⟨_, rfl, ?_⟩; obtain ⟨Ah, ch, eo9⟩ := Kd.S_slice ho9; subst eo9; obtain ⟨loh, hih, n0_⟩ := St_new HS.out ho9 hb9; clear HS ho9 hb9; have HS := Aside0.mk n0_; clear n0_) | ((with_reducible refine gate_callee (f := 17) rfl ?_); refine goesL_ (some 81) rfl rfl Try.func17 (by kernel_rfl) rfl #[.slice Ah h1.length ch, .slice Aw w1.length cw] rfl (by (try simp only [List.map_toArray, List.map_cons, List.map_nil]); first | done | rfl) ?_; (with_reducible refine (laws_eqIntSS.calls k _ _ h1 _ _ w1 true _ ?s1 ?s2 ?s3 ?s4 B15.out).mono ?_); (case s1 => exact (St_get HS.out 0 rfl).2.2); (case s2 => exact (St_get HS.out 0 rfl).2.1); (case s3 => exact (St_get HS.out 5 rfl).2.2); (case s4 => exact (St_get HS.out 5 rfl).2.1); rintro e w9 ⟨rfl, hd9⟩; refine ⟨_, rfl, ?_⟩; have n0_ := St_drawn HS.out hd9; clear HS; have HS := Aside0.mk n0_; clear n0_) | ((with_reducible refine gate_callee (f := 27) rfl ?_); refine goesL_ (some 90) rfl rfl Try.func27 (by kernel_rfl) rfl #[.slice Ag g1.length cg, .int .i64 1] rfl (by (try simp only [List.map_toArray, List.map_cons, List.map_nil]); first | done | rfl) ?_; (with_reducible refine (laws_FnExactPathTurn.heldN k _ _ _ m2 1 q2 _ ?s0 ?s1 ?s2 B16.out).mono ?_); (case s0 => exact (St_get HS.out 3 rfl).1); (case s1 => exact (St_get HS.out 3 rfl).2.2); (case s2 => exact (St_get HS.out 3 rfl).2.1); rintro e w9 ⟨rfl, hd9⟩; refine ⟨_, rfl, ?_⟩; have n0_ := St_drawn HS.out hd9; clear HS; have HS := Aside0.mk n0_; clear n0_))
    go_ret
    exact ⟨rfl, HS.out.1⟩
/-- THE ONE PURE STATEMENT of laws_FnExactPathTurn: yours. -/
def laws_FnExactPathTurn.Pure : Prop := ∀ (l0 : List (List Int)), l0.length ≤ maxLen → (∀ x ∈ l0, x.length ≤ maxLen ∧ ∀ y ∈ x, (Lit.int .i64 y).wf = true) → ∃ k, laws_FnExactPathTurn.f k l0 = some true
theorem laws_FnExactPathTurn.walk (P : laws_FnExactPathTurn.Pure) (A0 : Option Addr) (c0 : Nat) (l0 : List (List Int)) (w : World) (hr0 : Kd.C (Kd.slice 3 (Kd.int .i64)) w A0 l0.length l0) (hc0 : l0.length ≤ c0) (hm0 : l0.length ≤ maxLen) (hw0 : ∀ x ∈ l0, x.length ≤ maxLen ∧ ∀ y ∈ x, (Lit.int .i64 y).wf = true) :
    Calls Try.prog 8 #[.slice A0 l0.length c0] w fun e w' => e = .returned (.bool true) ∧ Below w.heap.size w w' := by
  obtain ⟨k, h⟩ := P l0 hm0 hw0
  refine (laws_FnExactPathTurn.calls k _ _ l0 true w hr0 hc0 h).mono ?_
  rintro e w' ⟨rfl, hd⟩
  exact ⟨rfl, hd⟩

/-! ### spec_l6sCorners: function 48 -/
def spec_l6sCorners.l0 : Nat → List (List Int) → List (List Int) → Int → Int → Int → Option ((List (List Int)))
  | 0, _, _, _, _, _ => none
  | k + 1, x0, x3, x4, x5, x6 => if x6 < (x0.length : Int) then (if x3.length < 5864062014805 then (if 0 ≤ x6 then (if 0 < ((rd_L1 x0 x6).length : Int) then (if 1 < ((rd_L1 x0 x6).length : Int) then (spec_l6sCorners.l0 k x0 (x3 ++ [(([x4, x5] : List Int))]) (wrap64 (x4 + (rd (rd_L1 x0 x6) 0))) (wrap64 (x5 + (rd (rd_L1 x0 x6) 1))) (wrap64 (x6 + 1))) else (none)) else (none)) else (none)) else (none)) else (some x3)
def spec_l6sCorners.f (k : Nat) (l0 : List (List Int)) : Option ((List (List Int))) := spec_l6sCorners.l0 k l0 (([] : List (List Int))) 0 0 0
theorem spec_l6sCorners.mono_l : ∀ k, (∀ y0 y1 y2 y3 y4, LeO (spec_l6sCorners.l0 k y0 y1 y2 y3 y4) (spec_l6sCorners.l0 (k + 1) y0 y1 y2 y3 y4))
  | 0 => fun _ _ _ _ _ r h => by simp [spec_l6sCorners.l0] at h
  | k + 1 => by
    have ih0 := spec_l6sCorners.mono_l k
    · intro y0 y1 y2 y3 y4
      unfold spec_l6sCorners.l0
      repeat' first
      | (with_reducible exact ih0 _ _ _ _ _)
      | (with_reducible exact LeO.refl _)
      | (with_reducible exact LeO.none _)
      | (with_reducible refine LeO.ite ?_ ?_)
      | (with_reducible refine LeO.bind ?_ (fun _ => ?_))
      | exact ih0 _ _ _ _ _
      | exact LeO.none _
      | refine LeO.ite ?_ ?_
      | refine LeO.bind ?_ (fun _ => ?_)
theorem spec_l6sCorners.mono : ∀ a0 k, LeO (spec_l6sCorners.f k a0) (spec_l6sCorners.f (k + 1) a0) := by
  intro a0 k
  have ih0 := spec_l6sCorners.mono_l k
  unfold spec_l6sCorners.f
  repeat' first
      | (with_reducible exact ih0 _ _ _ _ _)
      | (with_reducible exact LeO.refl _)
      | (with_reducible exact LeO.none _)
      | (with_reducible refine LeO.ite ?_ ?_)
      | (with_reducible refine LeO.bind ?_ (fun _ => ?_))
      | exact ih0 _ _ _ _ _
      | exact LeO.none _
      | refine LeO.ite ?_ ?_
      | refine LeO.bind ?_ (fun _ => ?_)
set_option maxHeartbeats 8000000 in
set_option maxRecDepth 100000 in
theorem spec_l6sCorners.calls (k : Nat) (A0 : Option Addr) (c0 : Nat) (l0 : List (List Int)) (r : List (List Int)) (w : World) (hr0 : Kd.C (Kd.slice 3 (Kd.int .i64)) w A0 l0.length l0) (hc0 : l0.length ≤ c0) (h : spec_l6sCorners.f k l0 = some r) :
    Calls Try.prog 48 #[.slice A0 l0.length c0] w fun e w' => ∃ v0_ : Value, e = .returned (v0_) ∧ Kd.S (Kd.slice 3 (Kd.int .i64)) 39 w' w.heap.size (fun _ => True) v0_ r ∧ Below w.heap.size w w' := by
  have HR0 := Aside0.mk hr0
  have HC0 := Aside0.mk hc0
  clear hr0 hc0
  have HB := Aside0.mk (Below.refl w.heap.size w)
  have H : (spec_l6sCorners.l0 k l0 (([] : List (List Int))) 0 0 0) = some r := h
  clear h
  obtain ⟨y271, hy271⟩ : ∃ y_ : List (List Int), y_ = (([] : List (List Int))) := ⟨_, rfl⟩
  replace H : (spec_l6sCorners.l0 k l0 y271 0 0 0) = some r := by first | (rw [hy271]; with_reducible exact H) | (have H2_ := (Option.bind_some _ _).symm.trans H; rw [hy271]; with_reducible exact H2_) | (have H2_ := (Option.bind_some _ _).symm.trans H; with_reducible exact H2_) | with_reducible exact H | (rw [hy271]; exact H) | exact H
  have Ny271 := Aside0.mk hy271
  clear hy271
  have H' := Aside0.mk H
  clear H
  go_enter Try.func48, Try.ntmps48
  go_wp2_with (first | ((with_reducible refine gate_dst (N := 7) rfl ?_); refine Kd.S_lit (Kd.slice 3 (Kd.int .i64)) _ 39 ?hg (N := 7) ?hd (xs := ([] : List (List Int))) (inner := []) (ok := fun _ => True) (okp := fun _ => True) ?hr ?hp (fun _ hk => hk) trivial (Below.refl _ _) (Nat.le_refl _) (by simp) ?_; (case hd => rfl); (case hg => rfl); (case hr => first | (go_simp; done) | (go_simp; rfl)); (case hp => exact (Reps.none _ _)); intro v272 w2 ho3 hb hg_ hnew_; clear hg_ hnew_; (first | rw [← Ny271.out] at ho3 | (simp only [Int.reduceToNat] at ho3; rw [← Ny271.out] at ho3)); have n0_ := Aside0.mk (Kd.S_lower ho3 (below_size (by repeat (first | (with_reducible first | exact HB.out | apply below_alloc | apply pw_below_drewN | apply below_drew1) | exact HB.out)))); have n1_ := Aside0.mk (below_step (by repeat (first | (with_reducible first | exact HB.out | apply below_alloc | apply pw_below_drewN | apply below_drew1) | exact HB.out)) hb); clear HB; have HO273 := n0_; have HB := n1_; clear n0_ n1_; clear hb ho3))
  go_loopg [3, 4, 5, 6] k (fun kq v3 v4 v5 v6 w' => ∃ (x3_1 : List (List Int)) (x4_1 : Int) (x5_1 : Int) (x6_1 : Int), v4 = .int .i64 x4_1 ∧ v5 = .int .i64 x5_1 ∧ v6 = .int .i64 x6_1 ∧ Aside0 (spec_l6sCorners.l0 kq l0 x3_1 x4_1 x5_1 x6_1 = some r) ∧ Aside0 (kq ≤ k) ∧ Aside0 (Kd.S (Kd.slice 3 (Kd.int .i64)) 39 w' w.heap.size (fun _ => True) v3 x3_1) ∧ Aside0 (Below w.heap.size w w'))
  case atStart => exact ⟨(y271), (0), (0), (0), (by first | rfl | (simp; done) | (simp only [i64_w]; first | done | rfl) | (simp [*]; done)), (by first | rfl | (simp; done) | (simp only [i64_w]; first | done | rfl) | (simp [*]; done)), (by first | rfl | (simp; done) | (simp only [i64_w]; first | done | rfl) | (simp [*]; done)), H', ⟨Nat.le_refl _⟩, ⟨by (with_reducible repeat (first | apply Kd.S_alloc | apply Kd.S_drewN | apply Kd.S_drew)); exact HO273.out⟩, ⟨by repeat (first | (with_reducible first | exact HB.out | apply below_alloc | apply pw_below_drewN | apply below_drew1) | exact HB.out)⟩⟩
  case round =>
    clear H'
    try clear p2
    obtain ⟨x3_1, x4_1, x5_1, x6_1, rfl, rfl, rfl, HA, HK1, HO_3, HB⟩ := hrel
    cases gk with
    | zero => exact absurd HA.out (by simp [spec_l6sCorners.l0])
    | succ k1 =>
      have H := HA.out
      clear HA
      simp only [spec_l6sCorners.l0] at H
      by_cases c4 : x6_1 < (l0.length : Int)
      · rw [if_pos c4] at H
        have c4b0 : decide (x6_1 < (l0.length : Int)) = true := decide_eq_true c4
        clear c4
        obtain ⟨y274, hy274⟩ : ∃ y_ : List Int, y_ = (([x4_1, x5_1] : List Int)) := ⟨_, rfl⟩
        replace H : (if x3_1.length < 5864062014805 then (if 0 ≤ x6_1 then (if 0 < ((rd_L1 l0 x6_1).length : Int) then (if 1 < ((rd_L1 l0 x6_1).length : Int) then (spec_l6sCorners.l0 k1 l0 (x3_1 ++ [y274]) (wrap64 (x4_1 + (rd (rd_L1 l0 x6_1) 0))) (wrap64 (x5_1 + (rd (rd_L1 l0 x6_1) 1))) (wrap64 (x6_1 + 1))) else (none)) else (none)) else (none)) else (none)) = some r := by first | (rw [hy274]; with_reducible exact H) | (have H2_ := (Option.bind_some _ _).symm.trans H; rw [hy274]; with_reducible exact H2_) | (have H2_ := (Option.bind_some _ _).symm.trans H; with_reducible exact H2_) | with_reducible exact H | (rw [hy274]; exact H) | exact H
        have Ny274 := Aside0.mk hy274
        clear hy274
        by_cases c5 : x3_1.length < 5864062014805
        · rw [if_pos c5] at H
          have LMc5 := Aside0.mk c5
          clear c5
          obtain ⟨y277, hy277⟩ : ∃ y_ : List (List Int), y_ = (x3_1 ++ [y274]) := ⟨_, rfl⟩
          replace H : (if 0 ≤ x6_1 then (if 0 < ((rd_L1 l0 x6_1).length : Int) then (if 1 < ((rd_L1 l0 x6_1).length : Int) then (spec_l6sCorners.l0 k1 l0 y277 (wrap64 (x4_1 + (rd (rd_L1 l0 x6_1) 0))) (wrap64 (x5_1 + (rd (rd_L1 l0 x6_1) 1))) (wrap64 (x6_1 + 1))) else (none)) else (none)) else (none)) = some r := by first | (rw [hy277]; with_reducible exact H) | (have H2_ := (Option.bind_some _ _).symm.trans H; rw [hy277]; with_reducible exact H2_) | (have H2_ := (Option.bind_some _ _).symm.trans H; with_reducible exact H2_) | with_reducible exact H | (rw [hy277]; exact H) | exact H
          have Ny277 := Aside0.mk hy277
          clear hy277
          by_cases c6 : 0 ≤ x6_1
          · rw [if_pos c6] at H
            have c6b0 : decide (0 ≤ x6_1) = true := decide_eq_true c6
            clear c6
            by_cases c7 : 0 < ((rd_L1 l0 x6_1).length : Int)
            · rw [if_pos c7] at H
              have c7b0 : decide (0 < ((rd_L1 l0 x6_1).length : Int)) = true := decide_eq_true c7
              have c7b1 : decide (0 < (rd_L1 l0 x6_1).length) = true := decide_eq_true (by omega)
              clear c7
              by_cases c8 : 1 < ((rd_L1 l0 x6_1).length : Int)
              · rw [if_pos c8] at H
                have c8b0 : decide (1 < ((rd_L1 l0 x6_1).length : Int)) = true := decide_eq_true c8
                have c8b1 : decide (1 < (rd_L1 l0 x6_1).length) = true := decide_eq_true (by omega)
                clear c8
                have H' := Aside0.mk H
                clear H
                go_wp2_with (first | ((with_reducible refine gate_dst (N := 17) rfl ?_); refine Kd.R_lit (Kd.int .i64) _ 3 ?hg (N := 17) ?hd (xs := ([x4_1, x5_1] : List Int)) (inner := [.int .i64 x4_1, .int .i64 x5_1]) (ok := fun _ => True) (okp := fun _ => True) ?hr ?hp (fun _ hk => hk) trivial (Below.refl _ _) (Nat.le_refl _) (by simp) ?_; (case hd => rfl); (case hg => rfl); (case hr => first | (go_simp; done) | (go_simp; rfl)); (case hp => exact (Reps.one (show Kd.M (Kd.int .i64) _ _ _ x4_1 [.int .i64 x4_1] from rfl) (Reps.one (show Kd.M (Kd.int .i64) _ _ _ x5_1 [.int .i64 x5_1] from rfl) (Reps.none _ _)))); intro v275 w9 ho10 hb hg_ hnew_; clear hg_ hnew_; (first | rw [← Ny274.out] at ho10 | (simp only [Int.reduceToNat] at ho10; rw [← Ny274.out] at ho10)); have n0_ := Aside0.mk (Kd.S_elder' (by (with_reducible repeat (first | apply Kd.S_alloc | apply Kd.S_drewN | apply Kd.S_drew)); exact HO_3.out) (Kd.R_base ho10) hb); have n1_ := Aside0.mk (Kd.R_lower ho10 (below_size (by repeat (first | (with_reducible first | exact HB.out | apply below_alloc | apply pw_below_drewN | apply below_drew1) | exact HB.out)))); have n2_ := Aside0.mk (below_step (by repeat (first | (with_reducible first | exact HB.out | apply below_alloc | apply pw_below_drewN | apply below_drew1) | exact HB.out)) hb); clear HO_3; clear HB; have HO_3 := n0_; have HO276 := n1_; have HB := n2_; clear n0_ n1_ n2_; clear hb ho10; obtain ⟨Ao12, co12, eo12⟩ := Kd.R_slice HO276.out; subst eo12) | ((with_reducible refine gate_builtin (b := .append) (xs := #[.tmp 14, .tmp 18]) rfl ?_); at_builtin; refine Kd.S_append (Kd.slice 3 (Kd.int .i64)) (w0 := w) w.heap.size rfl (.tmp 14) (.tmp 18) 22 39 (.slice none 0 0) 24 rfl Try.underlying22 info39 rfl (by decide) (by omega) u3 x3_1 y274 [.slice Ao12 y274.length co12] (fun _ => True) (fun k_ => some k_ = (.slice Ao12 y274.length co12 : Value).ownBlock) rfl rfl ?aP (fun k_ hk_ => ((Kd.R_mono (ok' := fun k_ => ((fun _ => True)) k_ ∧ some k_ ≠ (u3 : Value).ownBlock) (Kd.R_apart' (HO276.out) (Kd.S_typed HO_3.out) (by decide)) (fun k_ hk => ⟨trivial, hk.2⟩))).1 k_ hk_.symm) ?aF ?aO ?aB ?aS ?aL ?_; (case aP => exact Kd.M_row (Kd.R_mono (Kd.R_tight rfl (Kd.R_mono (ok' := fun k_ => ((fun _ => True)) k_ ∧ some k_ ≠ (u3 : Value).ownBlock) (Kd.R_apart' (HO276.out) (Kd.S_typed HO_3.out) (by decide)) (fun k_ hk => ⟨trivial, hk.2⟩))) (fun _ h_ => h_))); (case aB => exact (by repeat (first | (with_reducible first | exact HB.out | apply below_alloc | apply pw_below_drewN | apply below_drew1) | exact HB.out))); (case aF => exact (fun _ _ => trivial)); (case aO => exact (by (with_reducible repeat (first | apply Kd.S_alloc | apply Kd.S_drewN | apply Kd.S_drew)); exact Kd.S_mono HO_3.out (fun k_ hk => ⟨trivial, fun e_ => hk.2 e_⟩))); (case aS => exact (below_size (by repeat (first | (with_reducible first | exact HB.out | apply below_alloc | apply pw_below_drewN | apply below_drew1) | exact HB.out)))); (case aL => have := LMc5.out; omega); intro v278 w11 ho hb hg hat; rw [← Ny277.out] at ho; have n0_ := Aside0.mk (hb); have n1_ := Aside0.mk (ho); clear HB; clear HO_3; clear HO276; have HB := n0_; have HO279 := n1_; clear n0_ n1_; clear ho hb hg hat; have p280 : 0 ≤ (x6_1 : Int) := of_decide_eq_true (by first | (with_reducible assumption) | assumption); have q280 : x6_1 < (l0.length : Int) := of_decide_eq_true (by first | (with_reducible assumption) | assumption); obtain ⟨ad280, A280_0, c280_0, e280, hx280_0, hl280_0, hi280_0⟩ := at_L1 HR0.out x6_1 p280 q280; cases e280; replace hx280_0 := (HB.out.cell (World.block_lt_of_cell? w _ hx280_0)).trans hx280_0; have HR280_0 := Aside0.mk hi280_0; have HC280_0 := Aside0.mk hl280_0; clear hi280_0 hl280_0; replace p280 := eq_true p280; replace q280 := eq_true q280; have p281 : 0 ≤ (0 : Int) := (by omega); have q281 : 0 < ((rd_L1 l0 x6_1).length : Int) := of_decide_eq_true (by first | (with_reducible assumption) | assumption); obtain ⟨ad281, e281, hx281_0⟩ := Kd.at_int HR280_0.out 0 p281 q281; cases e281; have qi281 : (0 < (rd_L1 l0 x6_1).length) = True := eq_true (by omega); (try rw [show ((0 : Int)).toNat = 0 from rfl] at hx281_0); (try rw [Addr.add_zero'] at hx281_0); replace hx281_0 := (HB.out.cell (World.block_lt_of_cell? w _ hx281_0)).trans hx281_0; replace p281 := eq_true p281; replace q281 := eq_true q281; have p282 : 0 ≤ (x6_1 : Int) := of_decide_eq_true (by first | (with_reducible assumption) | assumption); have q282 : x6_1 < (l0.length : Int) := of_decide_eq_true (by first | (with_reducible assumption) | assumption); obtain ⟨ad282, A282_0, c282_0, e282, hx282_0, hl282_0, hi282_0⟩ := at_L1 HR0.out x6_1 p282 q282; obtain rfl : ad280 = ad282 := (by injection e282); replace hx282_0 := (HB.out.cell (World.block_lt_of_cell? w _ hx282_0)).trans hx282_0; have HR282_0 := Aside0.mk hi282_0; have HC282_0 := Aside0.mk hl282_0; clear hi282_0 hl282_0; replace p282 := eq_true p282; replace q282 := eq_true q282; have ea_ := Option.some.inj (hx280_0.symm.trans hx282_0); injection ea_ with ea_ en_ ec_; subst ea_; subst ec_; clear en_; have p283 : 0 ≤ (1 : Int) := (by omega); have q283 : 1 < ((rd_L1 l0 x6_1).length : Int) := of_decide_eq_true (by first | (with_reducible assumption) | assumption); obtain ⟨ad283, e283, hx283_0⟩ := Kd.at_int HR282_0.out 1 p283 q283; obtain rfl : ad281 = ad283 := (by injection e283); (try simp only [show (1 : Int).toNat = 1 from rfl, Nat.reduceMul, Nat.reduceEqDiff, Go.Addr.add, ↓reduceIte] at hx283_0); have qi283 : (1 < (rd_L1 l0 x6_1).length) = True := eq_true (by omega); (try rw [show ((1 : Int)).toNat = 1 from rfl] at hx283_0); replace hx283_0 := (HB.out.cell (World.block_lt_of_cell? w _ hx283_0)).trans hx283_0; replace p283 := eq_true p283; replace q283 := eq_true q283))
                go_roundg k1
                case measure => have := HK1.out; omega
                case rel => exact ⟨(y277), (wrap64 (x4_1 + (rd (rd_L1 l0 x6_1) 0))), (wrap64 (x5_1 + (rd (rd_L1 l0 x6_1) 1))), (wrap64 (x6_1 + 1)), (by first | rfl | (simp; done) | (simp only [i64_w]; first | done | rfl) | (simp [*]; done)), (by first | rfl | (simp; done) | (simp only [i64_w]; first | done | rfl) | (simp [*]; done)), (by first | rfl | (simp; done) | (simp only [i64_w]; first | done | rfl) | (simp [*]; done)), H', ⟨by have := HK1.out; omega⟩, ⟨by (with_reducible repeat (first | apply Kd.S_alloc | apply Kd.S_drewN | apply Kd.S_drew)); exact HO279.out⟩, ⟨by repeat (first | (with_reducible first | exact HB.out | apply below_alloc | apply pw_below_drewN | apply below_drew1) | exact HB.out)⟩⟩
              · rw [if_neg c8] at H
                exact absurd H (by simp)
            · rw [if_neg c7] at H
              exact absurd H (by simp)
          · rw [if_neg c6] at H
            exact absurd H (by simp)
        · rw [if_neg c5] at H
          exact absurd H (by simp)
      · rw [if_neg c4] at H
        have c4b0 : decide (x6_1 < (l0.length : Int)) = false := decide_eq_false c4
        clear c4
        obtain rfl := Option.some.inj H
        go_wp2
        go_ret
        exact ⟨_, by first | rfl | (simp [errW_none, errW_some] <;> rfl) | (simp [*, errW_none, errW_some] <;> rfl), by (with_reducible repeat (first | apply Kd.S_alloc | apply Kd.S_drewN | apply Kd.S_drew)); exact HO_3.out, by repeat (first | (with_reducible first | exact HB.out | apply below_alloc | apply pw_below_drewN | apply below_drew1) | exact HB.out)⟩

end Go.Proofs.Ytpeiefgkjfnfgaa.PB
