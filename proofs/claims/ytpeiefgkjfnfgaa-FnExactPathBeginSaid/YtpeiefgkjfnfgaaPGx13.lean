-- written by a program of this session (wip/gen/drive.py), which calls the kit's print.py
import Derived.Test.YtpeiefgkjfnfgaaPGx0
import Derived.Test.YtpeiefgkjfnfgaaPGx1
import Derived.Test.YtpeiefgkjfnfgaaPGx2
import Derived.Test.YtpeiefgkjfnfgaaPGx3
import Derived.Test.YtpeiefgkjfnfgaaPGx4
import Derived.Test.YtpeiefgkjfnfgaaPGx5
import Derived.Test.YtpeiefgkjfnfgaaPGx9
import Derived.Test.YtpeiefgkjfnfgaaPGx12
namespace Go.Proofs.Ytpeiefgkjfnfgaa.PG
open Go.RowKit Go.Proofs.YtpeiefgkjfnfgaaW.PrintWords Go.Proofs.YtpeiefgkjfnfgaaW.PrintLast Go.Proofs.YtpeiefgkjfnfgaaW.PrintMore
attribute [local go_sem] max2_int min2_int max_two min_two max_three min_three max_four min_four   -- for this text's walks alone
set_option linter.unusedVariables false
set_option linter.unusedSimpArgs false

/-! ### laws_FnExactPathBegin: function 11 -/
def laws_FnExactPathBegin.f (k : Nat) (l0 : List (List Int)) (a1 : Int) : Option (Bool) := ((laws_szIntSS.f k l0 1048576).bind fun m => (if m < 0 then some true else ((laws_toIntSS.f k l0).bind fun t1 => ((spec_PathBegin.f k t1 a1).bind fun w => ((laws_toIntSS.f k l0).bind fun x => ((impl_PathBegin.f k x a1).bind fun g => ((laws_eqIntSS.f k g.1 w.1).bind fun e1 => (if e1 = true then (if g.2 = w.2 then ((laws_toIntSS.f k l0).bind fun y => ((laws_eqIntSS.f k x y).bind fun e2 => (if e2 = true then ((laws_markIntSS.f k x 1).bind fun mk => (if mk.1 < 0 then none else ((laws_eqIntSS.f k g.1 w.1).bind fun e3 => (if e3 = true then ((laws_markIntSS.f k g.1 1).bind fun mg => ((laws_heldIntSS.f k mg.2 1).bind fun q => (if q < 0 then none else (if q = mg.1 then ((laws_toIntSS.f k l0).bind fun z => ((impl_PathBegin.f k z a1).bind fun h => ((laws_eqIntSS.f k h.1 w.1).bind fun e4 => (if e4 = true then (if h.2 = w.2 then ((laws_heldIntSS.f k mg.2 1).bind fun q2 => (if q2 < 0 then none else (if q2 = mg.1 then some true else none))) else none) else none)))) else none)))) else none)))) else none))) else none) else none))))))))
theorem laws_FnExactPathBegin.mono : ∀ a0 a1 k, LeO (laws_FnExactPathBegin.f k a0 a1) (laws_FnExactPathBegin.f (k + 1) a0 a1) := by
  intro a0 a1 k
  unfold laws_FnExactPathBegin.f
  repeat' first
      | exact laws_szIntSS.mono _ _ _
      | exact laws_toIntSS.mono _ _
      | exact spec_PathBegin.mono _ _ _
      | exact impl_PathBegin.mono _ _ _
      | exact laws_eqIntSS.mono _ _ _
      | exact laws_markIntSS.mono _ _ _
      | exact laws_heldIntSS.mono _ _ _
      | exact LeO.refl _
      | exact LeO.none _
      | refine LeO.ite ?_ ?_
      | refine LeO.bind ?_ (fun _ => ?_)
theorem laws_FnExactPathBegin.heldN (k : Nat) (A : Option Addr) (n c : Nat) (l : List (List Int)) (a r : Int) (w : World) (hn : n = l.length) (hr : Kd.C (Kd.slice 3 (Kd.int .i64)) w A l.length l) (hc : n ≤ c) (h : laws_heldIntSS.f k l a = some r) : Calls Try.prog 27 #[.slice A n c, .int .i64 a] w fun e w' => e = .returned (.int .i64 r) ∧ Drawn0 w w' := by
  subst hn
  exact laws_heldIntSS.calls k A c l a r w hr hc h
set_option maxHeartbeats 8000000 in
set_option maxRecDepth 100000 in
theorem laws_FnExactPathBegin.calls (k : Nat) (A0 : Option Addr) (c0 : Nat) (l0 : List (List Int)) (a1 : Int) (r : Bool) (w : World) (hr0 : Kd.C (Kd.slice 3 (Kd.int .i64)) w A0 l0.length l0) (hc0 : l0.length ≤ c0) (h : laws_FnExactPathBegin.f k l0 a1 = some r) :
    Calls Try.prog 11 #[.slice A0 l0.length c0, .int .i64 a1] w fun e w' => e = .returned (.bool r) ∧ Below w.heap.size w w' := by
  have HR0 := Aside0.mk hr0
  have HC0 := Aside0.mk hc0
  have HS := Aside0.mk (St_start w)
  clear hr0 hc0
  unfold laws_FnExactPathBegin.f at h
  replace h := Option.bind_eq_some_iff.mp h
  obtain ⟨m, B10, h⟩ := h
  have B1 := Aside0.mk B10
  clear B10
  by_cases c1 : m < 0
  · rw [if_pos c1] at h
    have c1b : decide (m < 0) = true := decide_eq_true c1
    clear c1
    obtain rfl := Option.some.inj h
    go_enter Try.func11, Try.ntmps11
    go_wp2_with (first | ((with_reducible refine gate_callee (f := 13) rfl ?_); refine goesL_ (some 18) rfl rfl Try.func13 (by kernel_rfl) rfl #[.slice A0 l0.length c0, .int .i64 1048576] rfl (by (try simp only [List.map_toArray, List.map_cons, List.map_nil]); first | done | rfl) ?_; (with_reducible refine (laws_szIntSS.calls k _ _ l0 1048576 m _ ?s1 ?s2 B1.out).mono ?_); (case s1 => exact Kd.C_below HR0.out HS.out.1); (case s2 => exact HC0.out); rintro e w9 ⟨rfl, hd9⟩; refine ⟨_, rfl, ?_⟩; have n0_ := St_drawn HS.out hd9; clear HS; have HS := Aside0.mk n0_; clear n0_))
    go_ret
    exact ⟨rfl, HS.out.1⟩
  · rw [if_neg c1] at h
    have c1b : decide (m < 0) = false := decide_eq_false c1
    clear c1
    replace h := Option.bind_eq_some_iff.mp h
    obtain ⟨t1, B20, h⟩ := h
    have B2 := Aside0.mk B20
    clear B20
    replace h := Option.bind_eq_some_iff.mp h
    obtain ⟨⟨w1, w2⟩, B30, h⟩ := h
    try dsimp only at h
    have B3 := Aside0.mk B30
    clear B30
    replace h := Option.bind_eq_some_iff.mp h
    obtain ⟨x, B40, h⟩ := h
    have B4 := Aside0.mk B40
    clear B40
    replace h := Option.bind_eq_some_iff.mp h
    obtain ⟨⟨g1, g2⟩, B50, h⟩ := h
    try dsimp only at h
    have B5 := Aside0.mk B50
    clear B50
    replace h := Option.bind_eq_some_iff.mp h
    obtain ⟨e1, B60, h⟩ := h
    have B6 := Aside0.mk B60
    clear B60
    by_cases c_ : ¬ (e1 = true)
    · rw [if_neg c_] at h; exact absurd h (by simp)
    replace c_ := Decidable.of_not_not c_
    rw [if_pos c_] at h
    subst c_
    by_cases c_ : ¬ (g2 = w2)
    · rw [if_neg c_] at h; exact absurd h (by simp)
    replace c_ := Decidable.of_not_not c_
    rw [if_pos c_] at h
    subst c_
    replace h := Option.bind_eq_some_iff.mp h
    obtain ⟨y, B70, h⟩ := h
    have B7 := Aside0.mk B70
    clear B70
    replace h := Option.bind_eq_some_iff.mp h
    obtain ⟨e2, B80, h⟩ := h
    have B8 := Aside0.mk B80
    clear B80
    by_cases c_ : ¬ (e2 = true)
    · rw [if_neg c_] at h; exact absurd h (by simp)
    replace c_ := Decidable.of_not_not c_
    rw [if_pos c_] at h
    subst c_
    replace h := Option.bind_eq_some_iff.mp h
    obtain ⟨⟨k1, k2⟩, B90, h⟩ := h
    try dsimp only at h
    have B9 := Aside0.mk B90
    clear B90
    by_cases c_ : k1 < 0
    · rw [if_pos c_] at h; exact absurd h (by simp)
    rw [if_neg c_] at h
    have d1 : decide (k1 < 0) = false := decide_eq_false c_
    clear c_
    replace h := Option.bind_eq_some_iff.mp h
    obtain ⟨e3, B100, h⟩ := h
    have B10 := Aside0.mk B100
    clear B100
    by_cases c_ : ¬ (e3 = true)
    · rw [if_neg c_] at h; exact absurd h (by simp)
    replace c_ := Decidable.of_not_not c_
    rw [if_pos c_] at h
    subst c_
    replace h := Option.bind_eq_some_iff.mp h
    obtain ⟨⟨m1, m2⟩, B110, h⟩ := h
    try dsimp only at h
    have B11 := Aside0.mk B110
    clear B110
    replace h := Option.bind_eq_some_iff.mp h
    obtain ⟨q, B120, h⟩ := h
    have B12 := Aside0.mk B120
    clear B120
    by_cases c_ : q < 0
    · rw [if_pos c_] at h; exact absurd h (by simp)
    rw [if_neg c_] at h
    have d2 : decide (q < 0) = false := decide_eq_false c_
    clear c_
    by_cases c_ : ¬ (q = m1)
    · rw [if_neg c_] at h; exact absurd h (by simp)
    replace c_ := Decidable.of_not_not c_
    rw [if_pos c_] at h
    have d3 : (q == m1) = true := beq_iff_eq.mpr c_
    have d3' : (q != m1) = false := bne_eq_false_iff_eq.mpr c_
    clear c_
    replace h := Option.bind_eq_some_iff.mp h
    obtain ⟨z, B130, h⟩ := h
    have B13 := Aside0.mk B130
    clear B130
    replace h := Option.bind_eq_some_iff.mp h
    obtain ⟨⟨h1, h2⟩, B140, h⟩ := h
    try dsimp only at h
    have B14 := Aside0.mk B140
    clear B140
    replace h := Option.bind_eq_some_iff.mp h
    obtain ⟨e4, B150, h⟩ := h
    have B15 := Aside0.mk B150
    clear B150
    by_cases c_ : ¬ (e4 = true)
    · rw [if_neg c_] at h; exact absurd h (by simp)
    replace c_ := Decidable.of_not_not c_
    rw [if_pos c_] at h
    subst c_
    by_cases c_ : ¬ (h2 = g2)
    · rw [if_neg c_] at h; exact absurd h (by simp)
    replace c_ := Decidable.of_not_not c_
    rw [if_pos c_] at h
    subst c_
    replace h := Option.bind_eq_some_iff.mp h
    obtain ⟨q2, B160, h⟩ := h
    have B16 := Aside0.mk B160
    clear B160
    by_cases c_ : q2 < 0
    · rw [if_pos c_] at h; exact absurd h (by simp)
    rw [if_neg c_] at h
    have d4 : decide (q2 < 0) = false := decide_eq_false c_
    clear c_
    by_cases c_ : ¬ (q2 = m1)
    · rw [if_neg c_] at h; exact absurd h (by simp)
    replace c_ := Decidable.of_not_not c_
    rw [if_pos c_] at h
    have d5 : (q2 == m1) = true := beq_iff_eq.mpr c_
    have d5' : (q2 != m1) = false := bne_eq_false_iff_eq.mpr c_
    clear c_
    obtain rfl := Option.some.inj h
    have hbn : (h2 != h2) = false := by simp
    go_enter Try.func11, Try.ntmps11
    go_wp2_with (first | ((with_reducible refine gate_callee (f := 13) rfl ?_); refine goesL_ (some 18) rfl rfl Try.func13 (by kernel_rfl) rfl #[.slice A0 l0.length c0, .int .i64 1048576] rfl (by (try simp only [List.map_toArray, List.map_cons, List.map_nil]); first | done | rfl) ?_; (with_reducible refine (laws_szIntSS.calls k _ _ l0 1048576 m _ ?s1 ?s2 B1.out).mono ?_); (case s1 => exact Kd.C_below HR0.out HS.out.1); (case s2 => exact HC0.out); rintro e w9 ⟨rfl, hd9⟩; refine ⟨_, rfl, ?_⟩; have n0_ := St_drawn HS.out hd9; clear HS; have HS := Aside0.mk n0_; clear n0_) | ((with_reducible refine gate_callee (f := 15) rfl ?_); refine goesL_ (some 23) rfl rfl Try.func15 (by kernel_rfl) rfl #[.slice A0 l0.length c0] rfl (by (try simp only [List.map_toArray, List.map_cons, List.map_nil]); first | done | rfl) ?_; (with_reducible refine (laws_toIntSS.calls k _ _ l0 t1 _ ?s1 ?s2 B2.out).mono ?_); (case s1 => exact Kd.C_below HR0.out HS.out.1); (case s2 => exact HC0.out); rintro e w9 ⟨v9, rfl, ho9, hb9⟩; refine ⟨_, rfl, ?_⟩; obtain ⟨At, ct, eo9⟩ := Kd.S_slice ho9; subst eo9; obtain ⟨lot, hit, n0_⟩ := St_new HS.out ho9 hb9; clear HS ho9 hb9; have HS := Aside0.mk n0_; clear n0_) | ((with_reducible refine gate_callee (f := 34) rfl ?_); refine goesL_ (some 25) rfl rfl Try.func34 (by kernel_rfl) rfl #[.slice At t1.length ct, .int .i64 a1] rfl (by (try simp only [List.map_toArray, List.map_cons, List.map_nil]); first | done | rfl) ?_; (with_reducible refine (spec_PathBegin.calls k _ _ t1 a1 w1 h2 _ ?s1 ?s2 B3.out).mono ?_); (case s1 => exact (St_get HS.out 0 rfl).2.2); (case s2 => exact (St_get HS.out 0 rfl).2.1); rintro e w9 ⟨v9, rfl, ho9, hb9⟩; refine ⟨_, rfl, ?_⟩; obtain ⟨Aw, cw, eo9⟩ := Kd.S_slice ho9; subst eo9; obtain ⟨low, hiw, n0_⟩ := St_new HS.out ho9 hb9; clear HS ho9 hb9; have HS := Aside0.mk n0_; clear n0_) | ((with_reducible refine gate_callee (f := 15) rfl ?_); refine goesL_ (some 29) rfl rfl Try.func15 (by kernel_rfl) rfl #[.slice A0 l0.length c0] rfl (by (try simp only [List.map_toArray, List.map_cons, List.map_nil]); first | done | rfl) ?_; (with_reducible refine (laws_toIntSS.calls k _ _ l0 x _ ?s1 ?s2 B4.out).mono ?_); (case s1 => exact Kd.C_below HR0.out HS.out.1); (case s2 => exact HC0.out); rintro e w9 ⟨v9, rfl, ho9, hb9⟩; refine ⟨_, rfl, ?_⟩; obtain ⟨Ax, cx, eo9⟩ := Kd.S_slice ho9; subst eo9; obtain ⟨lox, hix, n0_⟩ := St_new HS.out ho9 hb9; clear HS ho9 hb9; have HS := Aside0.mk n0_; clear n0_) | ((with_reducible refine gate_callee (f := 33) rfl ?_); refine goesL_ (some 33) rfl rfl Try.func33 (by kernel_rfl) rfl #[.slice Ax x.length cx, .int .i64 a1] rfl (by (try simp only [List.map_toArray, List.map_cons, List.map_nil]); first | done | rfl) ?_; (with_reducible refine (impl_PathBegin.calls k _ _ x a1 g1 h2 _ ?s1 ?s2 B5.out).mono ?_); (case s1 => exact (St_get HS.out 0 rfl).2.2); (case s2 => exact (St_get HS.out 0 rfl).2.1); rintro e w9 ⟨v9, rfl, ho9, hb9⟩; refine ⟨_, rfl, ?_⟩; obtain ⟨Ag, cg, eo9⟩ := Kd.S_slice ho9; subst eo9; obtain ⟨log, hig, n0_⟩ := St_new HS.out ho9 hb9; clear HS ho9 hb9; have HS := Aside0.mk n0_; clear n0_) | ((with_reducible refine gate_callee (f := 17) rfl ?_); refine goesL_ (some 38) rfl rfl Try.func17 (by kernel_rfl) rfl #[.slice Ag g1.length cg, .slice Aw w1.length cw] rfl (by (try simp only [List.map_toArray, List.map_cons, List.map_nil]); first | done | rfl) ?_; (with_reducible refine (laws_eqIntSS.calls k _ _ g1 _ _ w1 true _ ?s1 ?s2 ?s3 ?s4 B6.out).mono ?_); (case s1 => exact (St_get HS.out 0 rfl).2.2); (case s2 => exact (St_get HS.out 0 rfl).2.1); (case s3 => exact (St_get HS.out 2 rfl).2.2); (case s4 => exact (St_get HS.out 2 rfl).2.1); rintro e w9 ⟨rfl, hd9⟩; refine ⟨_, rfl, ?_⟩; have n0_ := St_drawn HS.out hd9; clear HS; have HS := Aside0.mk n0_; clear n0_) | ((with_reducible refine gate_callee (f := 15) rfl ?_); refine goesL_ (some 47) rfl rfl Try.func15 (by kernel_rfl) rfl #[.slice A0 l0.length c0] rfl (by (try simp only [List.map_toArray, List.map_cons, List.map_nil]); first | done | rfl) ?_; (with_reducible refine (laws_toIntSS.calls k _ _ l0 y _ ?s1 ?s2 B7.out).mono ?_); (case s1 => exact Kd.C_below HR0.out HS.out.1); (case s2 => exact HC0.out); rintro e w9 ⟨v9, rfl, ho9, hb9⟩; refine ⟨_, rfl, ?_⟩; obtain ⟨Ay, cy, eo9⟩ := Kd.S_slice ho9; subst eo9; obtain ⟨loy, hiy, n0_⟩ := St_new HS.out ho9 hb9; clear HS ho9 hb9; have HS := Aside0.mk n0_; clear n0_) | ((with_reducible refine gate_callee (f := 17) rfl ?_); refine goesL_ (some 48) rfl rfl Try.func17 (by kernel_rfl) rfl #[.slice Ax x.length cx, .slice Ay y.length cy] rfl (by (try simp only [List.map_toArray, List.map_cons, List.map_nil]); first | done | rfl) ?_; (with_reducible refine (laws_eqIntSS.calls k _ _ x _ _ y true _ ?s1 ?s2 ?s3 ?s4 B8.out).mono ?_); (case s1 => exact (St_get HS.out 2 rfl).2.2); (case s2 => exact (St_get HS.out 2 rfl).2.1); (case s3 => exact (St_get HS.out 0 rfl).2.2); (case s4 => exact (St_get HS.out 0 rfl).2.1); rintro e w9 ⟨rfl, hd9⟩; refine ⟨_, rfl, ?_⟩; have n0_ := St_drawn HS.out hd9; clear HS; have HS := Aside0.mk n0_; clear n0_) | ((with_reducible refine gate_callee (f := 26) rfl ?_); refine goesL_ (some 52) rfl rfl Try.func26 (by kernel_rfl) rfl #[.slice Ax x.length cx, .int .i64 1] rfl (by (try simp only [List.map_toArray, List.map_cons, List.map_nil]); first | done | rfl) ?_; (with_reducible refine (laws_markIntSS.calls2 k (fun k_ => lox ≤ k_ ∧ k_ < hix) (.slice Ax x.length cx) x 1 k1 k2 w _ ?s1 ?s2 B9.out).mono ?_); (case s1 => exact HS.out.1); (case s2 => exact St_row HS.out 2 rfl); rintro e w9 ⟨rfl, hs9, hb9, hk9⟩; refine ⟨_, rfl, ?_⟩; have n0_ := St_mark HS.out 2 rfl hs9 hb9 hk9; clear HS; have HS := Aside0.mk n0_; clear n0_; clear hs9 hb9 hk9) | (go_at_call 17; (with_reducible refine (laws_eqIntSS.calls k _ _ g1 _ _ w1 true _ ?s1 ?s2 ?s3 ?s4 B10.out).mono ?_); (case s1 => exact (St_get HS.out 1 rfl).2.2); (case s2 => exact (St_get HS.out 1 rfl).2.1); (case s3 => exact (St_get HS.out 3 rfl).2.2); (case s4 => exact (St_get HS.out 3 rfl).2.1); rintro e w9 ⟨rfl, hd9⟩; have n0_ := St_drawn HS.out hd9; clear HS; have HS := Aside0.mk n0_; clear n0_) | ((with_reducible refine gate_callee (f := 26) rfl ?_); refine goesL_ (some 68) rfl rfl Try.func26 (by kernel_rfl) rfl #[.slice Ag g1.length cg, .int .i64 1] rfl (by (try simp only [List.map_toArray, List.map_cons, List.map_nil]); first | done | rfl) ?_; (with_reducible refine (laws_markIntSS.calls2 k (fun k_ => log ≤ k_ ∧ k_ < hig) (.slice Ag g1.length cg) g1 1 m1 m2 w _ ?s1 ?s2 B11.out).mono ?_); (case s1 => exact HS.out.1); (case s2 => exact St_row HS.out 1 rfl); rintro e w9 ⟨rfl, hs9, hb9, hk9⟩; refine ⟨_, rfl, ?_⟩; have n0_ := St_mark HS.out 1 rfl hs9 hb9 hk9; clear HS; have HS := Aside0.mk n0_; clear n0_; clear hs9 hb9 hk9) | ((with_reducible refine gate_callee (f := 27) rfl ?_); refine goesL_ (some 71) rfl rfl Try.func27 (by kernel_rfl) rfl #[.slice Ag g1.length cg, .int .i64 1] rfl (by (try simp only [List.map_toArray, List.map_cons, List.map_nil]); first | done | rfl) ?_; (with_reducible refine (laws_FnExactPathBegin.heldN k _ _ _ m2 1 q _ ?s0 ?s1 ?s2 B12.out).mono ?_); (case s0 => exact (St_get HS.out 1 rfl).1); (case s1 => exact (St_get HS.out 1 rfl).2.2); (case s2 => exact (St_get HS.out 1 rfl).2.1); rintro e w9 ⟨rfl, hd9⟩; refine ⟨_, rfl, ?_⟩; have n0_ := St_drawn HS.out hd9; clear HS; have HS := Aside0.mk n0_; clear n0_) | ((with_reducible refine gate_callee (f := 15) rfl ?_); refine goesL_ (some 79) rfl rfl Try.func15 (by kernel_rfl) rfl #[.slice A0 l0.length c0] rfl (by (try simp only [List.map_toArray, List.map_cons, List.map_nil]); first | done | rfl) ?_; (with_reducible refine (laws_toIntSS.calls k _ _ l0 z _ ?s1 ?s2 B13.out).mono ?_); (case s1 => exact Kd.C_below HR0.out HS.out.1); (case s2 => exact HC0.out); rintro e w9 ⟨v9, rfl, ho9, hb9⟩; refine ⟨_, rfl, ?_⟩; obtain ⟨Az, cz, eo9⟩ := Kd.S_slice ho9; subst eo9; obtain ⟨loz, hiz, n0_⟩ := St_new HS.out ho9 hb9; clear HS ho9 hb9; have HS := Aside0.mk n0_; clear n0_) | ((with_reducible refine gate_callee (f := 33) rfl ?_); refine goesL_ (some 81) rfl rfl Try.func33 (by kernel_rfl) rfl #[.slice Az z.length cz, .int .i64 a1] rfl (by (try simp only [List.map_toArray, List.map_cons, List.map_nil]); first | done | rfl) ?_; (with_reducible refine (impl_PathBegin.calls k _ _ z a1 h1 h2 _ ?s1 ?s2 B14.out).mono ?_); (case s1 => exact (St_get HS.out 0 rfl).2.2); (case s2 => exact (St_get HS.out 0 rfl).2.1); rintro e w9 ⟨v9, rfl, ho9, hb9⟩; refine ⟨_, rfl, ?_⟩; obtain ⟨Ah, ch, eo9⟩ := Kd.S_slice ho9; subst eo9; obtain ⟨loh, hih, n0_⟩ := St_new HS.out ho9 hb9; clear HS ho9 hb9; have HS := Aside0.mk n0_; clear n0_) | ((with_reducible refine gate_callee (f := 17) rfl ?_); refine goesL_ (some 86) rfl rfl Try.func17 (by kernel_rfl) rfl #[.slice Ah h1.length ch, .slice Aw w1.length cw] rfl (by (try simp only [List.map_toArray, List.map_cons, List.map_nil]); first | done | rfl) ?_; (with_reducible refine (laws_eqIntSS.calls k _ _ h1 _ _ w1 true _ ?s1 ?s2 ?s3 ?s4 B15.out).mono ?_); (case s1 => exact (St_get HS.out 0 rfl).2.2); (case s2 => exact (St_get HS.out 0 rfl).2.1); (case s3 => exact (St_get HS.out 5 rfl).2.2); (case s4 => exact (St_get HS.out 5 rfl).2.1); rintro e w9 ⟨rfl, hd9⟩; refine ⟨_, rfl, ?_⟩; have n0_ := St_drawn HS.out hd9; clear HS; have HS := Aside0.mk n0_; clear n0_) | ((with_reducible refine gate_callee (f := 27) rfl ?_); refine goesL_ (some 95) rfl rfl Try.func27 (by kernel_rfl) rfl #[.slice Ag g1.length cg, .int .i64 1] rfl (by (try simp only [List.map_toArray, List.map_cons, List.map_nil]); first | done | rfl) ?_; (with_reducible refine (laws_FnExactPathBegin.heldN k _ _ _ m2 1 q2 _ ?s0 ?s1 ?s2 B16.out).mono ?_); (case s0 => exact (St_get HS.out 3 rfl).1); (case s1 => exact (St_get HS.out 3 rfl).2.2); (case s2 => exact (St_get HS.out 3 rfl).2.1); rintro e w9 ⟨rfl, hd9⟩; refine ⟨_, rfl, ?_⟩; have n0_ := St_drawn HS.out hd9; clear HS; have HS := Aside0.mk n0_; clear n0_))
    go_ret
    exact ⟨rfl, HS.out.1⟩
/-- THE ONE PURE STATEMENT of laws_FnExactPathBegin: yours. -/
def laws_FnExactPathBegin.Pure : Prop := ∀ (l0 : List (List Int)) (a1 : Int), l0.length ≤ maxLen → (∀ x ∈ l0, x.length ≤ maxLen ∧ ∀ y ∈ x, (Lit.int .i64 y).wf = true) → (Lit.int .i64 a1).wf = true → ∃ k, laws_FnExactPathBegin.f k l0 a1 = some true
theorem laws_FnExactPathBegin.walk (P : laws_FnExactPathBegin.Pure) (A0 : Option Addr) (c0 : Nat) (l0 : List (List Int)) (a1 : Int) (w : World) (hr0 : Kd.C (Kd.slice 3 (Kd.int .i64)) w A0 l0.length l0) (hc0 : l0.length ≤ c0) (hm0 : l0.length ≤ maxLen) (hw0 : ∀ x ∈ l0, x.length ≤ maxLen ∧ ∀ y ∈ x, (Lit.int .i64 y).wf = true) (w1 : (Lit.int .i64 a1).wf = true) :
    Calls Try.prog 11 #[.slice A0 l0.length c0, .int .i64 a1] w fun e w' => e = .returned (.bool true) ∧ Below w.heap.size w w' := by
  obtain ⟨k, h⟩ := P l0 a1 hm0 hw0 w1
  refine (laws_FnExactPathBegin.calls k _ _ l0 a1 true w hr0 hc0 h).mono ?_
  rintro e w' ⟨rfl, hd⟩
  exact ⟨rfl, hd⟩

end Go.Proofs.Ytpeiefgkjfnfgaa.PG
