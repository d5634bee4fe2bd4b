-- written by a program of this session (wip/gen/drive.py), which calls the kit's print.py
import Derived.Test.YtcabpamfncjoeaaPDx0
import Derived.Test.YtcabpamfncjoeaaPDx7
import Derived.Test.YtcabpamfncjoeaaPDx8
namespace Go.Proofs.Ytcabpamfncjoeaa.PD
open Go.RowKit Go.Proofs.YtcabpamfncjoeaaW.PrintWords Go.Proofs.YtcabpamfncjoeaaW.PrintLast Go.Proofs.YtcabpamfncjoeaaW.PrintMore
attribute [local go_sem] max2_int min2_int max_two min_two max_three min_three max_four min_four   -- for this text's walks alone
set_option linter.unusedVariables false
set_option linter.unusedSimpArgs false

/-! ### spec_l91Sum: function 42 -/
def spec_l91Sum.f (k : Nat) (l0 : List Int) : Option (Int × Int) := (spec_l6Open.f l0).bind fun bt152 => ((spec_l6Rd_pick.f k bt152.1 bt152.2 4).bind fun bt155 => ((spec_l6Rd_pick.f k bt152.1 bt155.2 24).bind fun bt157 => ((spec_l6Rd_pick.f k bt152.1 bt157.2 24).bind fun bt159 => ((spec_l6Rd_pick.f k bt152.1 bt159.2 24).bind fun bt161 => ((spec_l6Rd_pick.f k bt152.1 bt161.2 6).bind fun bt163 => ((spec_l6Rd_pick.f k bt152.1 bt163.2 7).bind fun bt165 => ((spec_l6Rd_pick.f k bt152.1 bt165.2 24).bind fun bt167 => (some (wrap64 ((wrap64 ((wrap64 (3 + bt155.1)) + (wrap64 (Int.tdiv bt157.1 23)))) - (wrap64 (Int.tdiv bt159.1 23))), wrap64 ((wrap64 ((wrap64 (1 + bt161.1)) + (wrap64 ((wrap64 (Int.tdiv bt163.1 5)) * bt165.1)))) - (wrap64 ((wrap64 (Int.tdiv bt167.1 23)) * 30))))))))))))
theorem spec_l91Sum.mono : ∀ a0 k, LeO (spec_l91Sum.f k a0) (spec_l91Sum.f (k + 1) a0) := by
  intro a0 k
  unfold spec_l91Sum.f
  repeat' first
      | (with_reducible exact spec_l6Rd_pick.mono _ _ _ _)
      | (with_reducible exact LeO.refl _)
      | (with_reducible exact LeO.none _)
      | (with_reducible refine LeO.ite ?_ ?_)
      | (with_reducible refine LeO.bind ?_ (fun _ => ?_))
      | exact spec_l6Rd_pick.mono _ _ _ _
      | exact LeO.none _
      | refine LeO.ite ?_ ?_
      | refine LeO.bind ?_ (fun _ => ?_)
set_option maxHeartbeats 8000000 in
set_option maxRecDepth 100000 in
theorem spec_l91Sum.calls (k : Nat) (A0 : Option Addr) (c0 : Nat) (l0 : List Int) (r1 : Int) (r2 : Int) (w : World) (hr0 : Kd.C (Kd.int .u8) w A0 l0.length l0) (hc0 : l0.length ≤ c0) (h : spec_l91Sum.f k l0 = some (r1, r2)) :
    Calls Try.prog 42 #[.slice A0 l0.length c0] w fun e w' => e = .returned (.tuple #[.int .i64 r1, .int .i64 r2]) ∧ Below w.heap.size w w' := by
  have HR0 := Aside0.mk hr0
  have HC0 := Aside0.mk hc0
  clear hr0 hc0
  have HB := Aside0.mk (Below.refl w.heap.size w)
  have H : ((spec_l6Open.f l0).bind fun bt152 => ((spec_l6Rd_pick.f k bt152.1 bt152.2 4).bind fun bt155 => ((spec_l6Rd_pick.f k bt152.1 bt155.2 24).bind fun bt157 => ((spec_l6Rd_pick.f k bt152.1 bt157.2 24).bind fun bt159 => ((spec_l6Rd_pick.f k bt152.1 bt159.2 24).bind fun bt161 => ((spec_l6Rd_pick.f k bt152.1 bt161.2 6).bind fun bt163 => ((spec_l6Rd_pick.f k bt152.1 bt163.2 7).bind fun bt165 => ((spec_l6Rd_pick.f k bt152.1 bt165.2 24).bind fun bt167 => (some (wrap64 ((wrap64 ((wrap64 (3 + bt155.1)) + (wrap64 (Int.tdiv bt157.1 23)))) - (wrap64 (Int.tdiv bt159.1 23))), wrap64 ((wrap64 ((wrap64 (1 + bt161.1)) + (wrap64 ((wrap64 (Int.tdiv bt163.1 5)) * bt165.1)))) - (wrap64 ((wrap64 (Int.tdiv bt167.1 23)) * 30))))))))))))) = some (r1, r2) := h
  clear h
  replace H := Option.bind_eq_some_iff.mp H
  obtain ⟨⟨t152, t153⟩, A20, H⟩ := H
  replace H : ((spec_l6Rd_pick.f k t152 t153 4).bind fun bt155 => ((spec_l6Rd_pick.f k t152 bt155.2 24).bind fun bt157 => ((spec_l6Rd_pick.f k t152 bt157.2 24).bind fun bt159 => ((spec_l6Rd_pick.f k t152 bt159.2 24).bind fun bt161 => ((spec_l6Rd_pick.f k t152 bt161.2 6).bind fun bt163 => ((spec_l6Rd_pick.f k t152 bt163.2 7).bind fun bt165 => ((spec_l6Rd_pick.f k t152 bt165.2 24).bind fun bt167 => (some (wrap64 ((wrap64 ((wrap64 (3 + bt155.1)) + (wrap64 (Int.tdiv bt157.1 23)))) - (wrap64 (Int.tdiv bt159.1 23))), wrap64 ((wrap64 ((wrap64 (1 + bt161.1)) + (wrap64 ((wrap64 (Int.tdiv bt163.1 5)) * bt165.1)))) - (wrap64 ((wrap64 (Int.tdiv bt167.1 23)) * 30)))))))))))) = some (r1, r2) := H
  have A2 := Aside0.mk A20
  clear A20
  replace H := Option.bind_eq_some_iff.mp H
  obtain ⟨⟨t155, t156⟩, A30, H⟩ := H
  replace H : ((spec_l6Rd_pick.f k t152 t156 24).bind fun bt157 => ((spec_l6Rd_pick.f k t152 bt157.2 24).bind fun bt159 => ((spec_l6Rd_pick.f k t152 bt159.2 24).bind fun bt161 => ((spec_l6Rd_pick.f k t152 bt161.2 6).bind fun bt163 => ((spec_l6Rd_pick.f k t152 bt163.2 7).bind fun bt165 => ((spec_l6Rd_pick.f k t152 bt165.2 24).bind fun bt167 => (some (wrap64 ((wrap64 ((wrap64 (3 + t155)) + (wrap64 (Int.tdiv bt157.1 23)))) - (wrap64 (Int.tdiv bt159.1 23))), wrap64 ((wrap64 ((wrap64 (1 + bt161.1)) + (wrap64 ((wrap64 (Int.tdiv bt163.1 5)) * bt165.1)))) - (wrap64 ((wrap64 (Int.tdiv bt167.1 23)) * 30))))))))))) = some (r1, r2) := H
  have A3 := Aside0.mk A30
  clear A30
  replace H := Option.bind_eq_some_iff.mp H
  obtain ⟨⟨t157, t158⟩, A40, H⟩ := H
  replace H : ((spec_l6Rd_pick.f k t152 t158 24).bind fun bt159 => ((spec_l6Rd_pick.f k t152 bt159.2 24).bind fun bt161 => ((spec_l6Rd_pick.f k t152 bt161.2 6).bind fun bt163 => ((spec_l6Rd_pick.f k t152 bt163.2 7).bind fun bt165 => ((spec_l6Rd_pick.f k t152 bt165.2 24).bind fun bt167 => (some (wrap64 ((wrap64 ((wrap64 (3 + t155)) + (wrap64 (Int.tdiv t157 23)))) - (wrap64 (Int.tdiv bt159.1 23))), wrap64 ((wrap64 ((wrap64 (1 + bt161.1)) + (wrap64 ((wrap64 (Int.tdiv bt163.1 5)) * bt165.1)))) - (wrap64 ((wrap64 (Int.tdiv bt167.1 23)) * 30)))))))))) = some (r1, r2) := H
  have A4 := Aside0.mk A40
  clear A40
  replace H := Option.bind_eq_some_iff.mp H
  obtain ⟨⟨t159, t160⟩, A50, H⟩ := H
  replace H : ((spec_l6Rd_pick.f k t152 t160 24).bind fun bt161 => ((spec_l6Rd_pick.f k t152 bt161.2 6).bind fun bt163 => ((spec_l6Rd_pick.f k t152 bt163.2 7).bind fun bt165 => ((spec_l6Rd_pick.f k t152 bt165.2 24).bind fun bt167 => (some (wrap64 ((wrap64 ((wrap64 (3 + t155)) + (wrap64 (Int.tdiv t157 23)))) - (wrap64 (Int.tdiv t159 23))), wrap64 ((wrap64 ((wrap64 (1 + bt161.1)) + (wrap64 ((wrap64 (Int.tdiv bt163.1 5)) * bt165.1)))) - (wrap64 ((wrap64 (Int.tdiv bt167.1 23)) * 30))))))))) = some (r1, r2) := H
  have A5 := Aside0.mk A50
  clear A50
  replace H := Option.bind_eq_some_iff.mp H
  obtain ⟨⟨t161, t162⟩, A60, H⟩ := H
  replace H : ((spec_l6Rd_pick.f k t152 t162 6).bind fun bt163 => ((spec_l6Rd_pick.f k t152 bt163.2 7).bind fun bt165 => ((spec_l6Rd_pick.f k t152 bt165.2 24).bind fun bt167 => (some (wrap64 ((wrap64 ((wrap64 (3 + t155)) + (wrap64 (Int.tdiv t157 23)))) - (wrap64 (Int.tdiv t159 23))), wrap64 ((wrap64 ((wrap64 (1 + t161)) + (wrap64 ((wrap64 (Int.tdiv bt163.1 5)) * bt165.1)))) - (wrap64 ((wrap64 (Int.tdiv bt167.1 23)) * 30)))))))) = some (r1, r2) := H
  have A6 := Aside0.mk A60
  clear A60
  replace H := Option.bind_eq_some_iff.mp H
  obtain ⟨⟨t163, t164⟩, A70, H⟩ := H
  replace H : ((spec_l6Rd_pick.f k t152 t164 7).bind fun bt165 => ((spec_l6Rd_pick.f k t152 bt165.2 24).bind fun bt167 => (some (wrap64 ((wrap64 ((wrap64 (3 + t155)) + (wrap64 (Int.tdiv t157 23)))) - (wrap64 (Int.tdiv t159 23))), wrap64 ((wrap64 ((wrap64 (1 + t161)) + (wrap64 ((wrap64 (Int.tdiv t163 5)) * bt165.1)))) - (wrap64 ((wrap64 (Int.tdiv bt167.1 23)) * 30))))))) = some (r1, r2) := H
  have A7 := Aside0.mk A70
  clear A70
  replace H := Option.bind_eq_some_iff.mp H
  obtain ⟨⟨t165, t166⟩, A80, H⟩ := H
  replace H : ((spec_l6Rd_pick.f k t152 t166 24).bind fun bt167 => (some (wrap64 ((wrap64 ((wrap64 (3 + t155)) + (wrap64 (Int.tdiv t157 23)))) - (wrap64 (Int.tdiv t159 23))), wrap64 ((wrap64 ((wrap64 (1 + t161)) + (wrap64 ((wrap64 (Int.tdiv t163 5)) * t165)))) - (wrap64 ((wrap64 (Int.tdiv bt167.1 23)) * 30)))))) = some (r1, r2) := H
  have A8 := Aside0.mk A80
  clear A80
  replace H := Option.bind_eq_some_iff.mp H
  obtain ⟨⟨t167, t168⟩, A90, H⟩ := H
  replace H : (some (wrap64 ((wrap64 ((wrap64 (3 + t155)) + (wrap64 (Int.tdiv t157 23)))) - (wrap64 (Int.tdiv t159 23))), wrap64 ((wrap64 ((wrap64 (1 + t161)) + (wrap64 ((wrap64 (Int.tdiv t163 5)) * t165)))) - (wrap64 ((wrap64 (Int.tdiv t167 23)) * 30))))) = some (r1, r2) := H
  have A9 := Aside0.mk A90
  clear A90
  simp only [Option.some.injEq, Prod.mk.injEq] at H
  obtain ⟨rfl, rfl⟩ := H
  go_enter Try.func42, Try.ntmps42
  go_wp2_with (first | ((with_reducible refine gate_callee (f := 58) rfl ?_); refine goesL_ (some 6) rfl rfl Try.func58 (by kernel_rfl) rfl #[.slice A0 l0.length c0] rfl (by (try simp only [List.map_toArray, List.map_cons, List.map_nil]); first | done | rfl | (simp only [List.length_drop, List.length_take]; rfl)) ?_; (with_reducible refine (spec_l6Open.calls _ _ l0 t152 t153 w _ ?side1 ?side2 ?side3 A2.out).mono ?_); (case side1 => repeat (first | (with_reducible first | exact HB.out | apply below_alloc | apply pw_below_drewN | apply below_drew1) | exact HB.out)); (case side2 => exact HR0.out); (case side3 => exact HC0.out); rintro e w10 ⟨g154, rfl, hi, hb, hb2⟩; refine ⟨_, rfl, ?_⟩; have n0_ := Aside0.mk (hb); have n1_ := Aside0.mk (hi); clear HB; have HB := n0_; have HI154 := n1_; clear n0_ n1_; (try clear hb); (try clear hb2); (try clear hk); (try clear hi)) | ((with_reducible refine gate_callee (f := 59) rfl ?_); refine goesL_ (some 8) rfl rfl Try.func59 (by kernel_rfl) rfl #[.pointer (some ⟨g154, 0, none⟩), .int .i64 4] rfl (by (try simp only [List.map_toArray, List.map_cons, List.map_nil]); first | done | rfl | (simp only [List.length_drop, List.length_take]; rfl)) ?_; (with_reducible refine (spec_l6Rd_pick.calls k g154 t152 t153 4 t155 t156 w _ ?side1 ?side2 A3.out).mono ?_); (case side1 => repeat (first | (with_reducible first | exact HI154.out | apply IsS56.alloc | apply IsS56.drewN | apply IsS56.drew | apply IsS56.set_1) | exact HI154.out)); (case side2 => repeat (first | (with_reducible first | exact HB.out | apply below_alloc | apply pw_below_drewN | apply below_drew1 | refine below_set ?_ (IsS56.ge HI154.out)) | exact HB.out)); rintro e w11 ⟨rfl, hi, hb, hk⟩; refine ⟨_, rfl, ?_⟩; have n0_ := Aside0.mk (hb); have n1_ := Aside0.mk (hi); clear HB; clear HI154; have HB := n0_; have HI154 := n1_; clear n0_ n1_; (try clear hb); (try clear hb2); (try clear hk); (try clear hi)) | ((with_reducible refine gate_callee (f := 59) rfl ?_); refine goesL_ (some 11) rfl rfl Try.func59 (by kernel_rfl) rfl #[.pointer (some ⟨g154, 0, none⟩), .int .i64 24] rfl (by (try simp only [List.map_toArray, List.map_cons, List.map_nil]); first | done | rfl | (simp only [List.length_drop, List.length_take]; rfl)) ?_; (with_reducible refine (spec_l6Rd_pick.calls k g154 t152 t156 24 t157 t158 w _ ?side1 ?side2 A4.out).mono ?_); (case side1 => repeat (first | (with_reducible first | exact HI154.out | apply IsS56.alloc | apply IsS56.drewN | apply IsS56.drew | apply IsS56.set_1) | exact HI154.out)); (case side2 => repeat (first | (with_reducible first | exact HB.out | apply below_alloc | apply pw_below_drewN | apply below_drew1 | refine below_set ?_ (IsS56.ge HI154.out)) | exact HB.out)); rintro e w12 ⟨rfl, hi, hb, hk⟩; refine ⟨_, rfl, ?_⟩; have n0_ := Aside0.mk (hb); have n1_ := Aside0.mk (hi); clear HB; clear HI154; have HB := n0_; have HI154 := n1_; clear n0_ n1_; (try clear hb); (try clear hb2); (try clear hk); (try clear hi)) | ((with_reducible refine gate_callee (f := 59) rfl ?_); refine goesL_ (some 15) rfl rfl Try.func59 (by kernel_rfl) rfl #[.pointer (some ⟨g154, 0, none⟩), .int .i64 24] rfl (by (try simp only [List.map_toArray, List.map_cons, List.map_nil]); first | done | rfl | (simp only [List.length_drop, List.length_take]; rfl)) ?_; (with_reducible refine (spec_l6Rd_pick.calls k g154 t152 t158 24 t159 t160 w _ ?side1 ?side2 A5.out).mono ?_); (case side1 => repeat (first | (with_reducible first | exact HI154.out | apply IsS56.alloc | apply IsS56.drewN | apply IsS56.drew | apply IsS56.set_1) | exact HI154.out)); (case side2 => repeat (first | (with_reducible first | exact HB.out | apply below_alloc | apply pw_below_drewN | apply below_drew1 | refine below_set ?_ (IsS56.ge HI154.out)) | exact HB.out)); rintro e w13 ⟨rfl, hi, hb, hk⟩; refine ⟨_, rfl, ?_⟩; have n0_ := Aside0.mk (hb); have n1_ := Aside0.mk (hi); clear HB; clear HI154; have HB := n0_; have HI154 := n1_; clear n0_ n1_; (try clear hb); (try clear hb2); (try clear hk); (try clear hi)) | ((with_reducible refine gate_callee (f := 59) rfl ?_); refine goesL_ (some 19) rfl rfl Try.func59 (by kernel_rfl) rfl #[.pointer (some ⟨g154, 0, none⟩), .int .i64 24] rfl (by (try simp only [List.map_toArray, List.map_cons, List.map_nil]); first | done | rfl | (simp only [List.length_drop, List.length_take]; rfl)) ?_; (with_reducible refine (spec_l6Rd_pick.calls k g154 t152 t160 24 t161 t162 w _ ?side1 ?side2 A6.out).mono ?_); (case side1 => repeat (first | (with_reducible first | exact HI154.out | apply IsS56.alloc | apply IsS56.drewN | apply IsS56.drew | apply IsS56.set_1) | exact HI154.out)); (case side2 => repeat (first | (with_reducible first | exact HB.out | apply below_alloc | apply pw_below_drewN | apply below_drew1 | refine below_set ?_ (IsS56.ge HI154.out)) | exact HB.out)); rintro e w14 ⟨rfl, hi, hb, hk⟩; refine ⟨_, rfl, ?_⟩; have n0_ := Aside0.mk (hb); have n1_ := Aside0.mk (hi); clear HB; clear HI154; have HB := n0_; have HI154 := n1_; clear n0_ n1_; (try clear hb); (try clear hb2); (try clear hk); (try clear hi)) | ((with_reducible refine gate_callee (f := 59) rfl ?_); refine goesL_ (some 22) rfl rfl Try.func59 (by kernel_rfl) rfl #[.pointer (some ⟨g154, 0, none⟩), .int .i64 6] rfl (by (try simp only [List.map_toArray, List.map_cons, List.map_nil]); first | done | rfl | (simp only [List.length_drop, List.length_take]; rfl)) ?_; (with_reducible refine (spec_l6Rd_pick.calls k g154 t152 t162 6 t163 t164 w _ ?side1 ?side2 A7.out).mono ?_); (case side1 => repeat (first | (with_reducible first | exact HI154.out | apply IsS56.alloc | apply IsS56.drewN | apply IsS56.drew | apply IsS56.set_1) | exact HI154.out)); (case side2 => repeat (first | (with_reducible first | exact HB.out | apply below_alloc | apply pw_below_drewN | apply below_drew1 | refine below_set ?_ (IsS56.ge HI154.out)) | exact HB.out)); rintro e w15 ⟨rfl, hi, hb, hk⟩; refine ⟨_, rfl, ?_⟩; have n0_ := Aside0.mk (hb); have n1_ := Aside0.mk (hi); clear HB; clear HI154; have HB := n0_; have HI154 := n1_; clear n0_ n1_; (try clear hb); (try clear hb2); (try clear hk); (try clear hi)) | ((with_reducible refine gate_callee (f := 59) rfl ?_); refine goesL_ (some 25) rfl rfl Try.func59 (by kernel_rfl) rfl #[.pointer (some ⟨g154, 0, none⟩), .int .i64 7] rfl (by (try simp only [List.map_toArray, List.map_cons, List.map_nil]); first | done | rfl | (simp only [List.length_drop, List.length_take]; rfl)) ?_; (with_reducible refine (spec_l6Rd_pick.calls k g154 t152 t164 7 t165 t166 w _ ?side1 ?side2 A8.out).mono ?_); (case side1 => repeat (first | (with_reducible first | exact HI154.out | apply IsS56.alloc | apply IsS56.drewN | apply IsS56.drew | apply IsS56.set_1) | exact HI154.out)); (case side2 => repeat (first | (with_reducible first | exact HB.out | apply below_alloc | apply pw_below_drewN | apply below_drew1 | refine below_set ?_ (IsS56.ge HI154.out)) | exact HB.out)); rintro e w16 ⟨rfl, hi, hb, hk⟩; refine ⟨_, rfl, ?_⟩; have n0_ := Aside0.mk (hb); have n1_ := Aside0.mk (hi); clear HB; clear HI154; have HB := n0_; have HI154 := n1_; clear n0_ n1_; (try clear hb); (try clear hb2); (try clear hk); (try clear hi)) | ((with_reducible refine gate_callee (f := 59) rfl ?_); refine goesL_ (some 29) rfl rfl Try.func59 (by kernel_rfl) rfl #[.pointer (some ⟨g154, 0, none⟩), .int .i64 24] rfl (by (try simp only [List.map_toArray, List.map_cons, List.map_nil]); first | done | rfl | (simp only [List.length_drop, List.length_take]; rfl)) ?_; (with_reducible refine (spec_l6Rd_pick.calls k g154 t152 t166 24 t167 t168 w _ ?side1 ?side2 A9.out).mono ?_); (case side1 => repeat (first | (with_reducible first | exact HI154.out | apply IsS56.alloc | apply IsS56.drewN | apply IsS56.drew | apply IsS56.set_1) | exact HI154.out)); (case side2 => repeat (first | (with_reducible first | exact HB.out | apply below_alloc | apply pw_below_drewN | apply below_drew1 | refine below_set ?_ (IsS56.ge HI154.out)) | exact HB.out)); rintro e w17 ⟨rfl, hi, hb, hk⟩; refine ⟨_, rfl, ?_⟩; have n0_ := Aside0.mk (hb); have n1_ := Aside0.mk (hi); clear HB; clear HI154; have HB := n0_; have HI154 := n1_; clear n0_ n1_; (try clear hb); (try clear hb2); (try clear hk); (try clear hi)))
  go_ret2
  exact ⟨by first | rfl | (simp [errW_none, errW_some] <;> rfl) | (simp [*, errW_none, errW_some] <;> rfl), by repeat (first | (with_reducible first | exact HB.out | apply below_alloc | apply pw_below_drewN | apply below_drew1 | refine below_set ?_ (IsS56.ge HI154.out)) | exact HB.out)⟩

/-! ### spec_DrawPolyRest: function 13 -/
def spec_DrawPolyRest.f (k : Nat) (l0 : List Int) : Option (Int × Int) := (spec_l91Sum.f k l0).bind fun bt169 => (some (bt169.1, bt169.2))
theorem spec_DrawPolyRest.mono : ∀ a0 k, LeO (spec_DrawPolyRest.f k a0) (spec_DrawPolyRest.f (k + 1) a0) := by
  intro a0 k
  unfold spec_DrawPolyRest.f
  repeat' first
      | (with_reducible exact spec_l91Sum.mono _ _)
      | (with_reducible exact LeO.refl _)
      | (with_reducible exact LeO.none _)
      | (with_reducible refine LeO.ite ?_ ?_)
      | (with_reducible refine LeO.bind ?_ (fun _ => ?_))
      | exact spec_l91Sum.mono _ _
      | exact LeO.none _
      | refine LeO.ite ?_ ?_
      | refine LeO.bind ?_ (fun _ => ?_)
set_option maxHeartbeats 8000000 in
set_option maxRecDepth 100000 in
theorem spec_DrawPolyRest.calls (k : Nat) (A0 : Option Addr) (c0 : Nat) (l0 : List Int) (r1 : Int) (r2 : Int) (w : World) (hr0 : Kd.C (Kd.int .u8) w A0 l0.length l0) (hc0 : l0.length ≤ c0) (h : spec_DrawPolyRest.f k l0 = some (r1, r2)) :
    Calls Try.prog 13 #[.slice A0 l0.length c0] w fun e w' => e = .returned (.tuple #[.int .i64 r1, .int .i64 r2]) ∧ Below w.heap.size w w' := by
  have HR0 := Aside0.mk hr0
  have HC0 := Aside0.mk hc0
  clear hr0 hc0
  have HB := Aside0.mk (Below.refl w.heap.size w)
  have H : ((spec_l91Sum.f k l0).bind fun bt169 => (some (bt169.1, bt169.2))) = some (r1, r2) := h
  clear h
  replace H := Option.bind_eq_some_iff.mp H
  obtain ⟨⟨t169, t170⟩, A20, H⟩ := H
  replace H : (some (t169, t170)) = some (r1, r2) := H
  have A2 := Aside0.mk A20
  clear A20
  simp only [Option.some.injEq, Prod.mk.injEq] at H
  obtain ⟨rfl, rfl⟩ := H
  go_enter Try.func13, Try.ntmps13
  go_wp2_with (first | ((with_reducible refine gate_callee (f := 42) rfl ?_); refine goesL_ (some 5) rfl rfl Try.func42 (by kernel_rfl) rfl #[.slice A0 l0.length c0] rfl (by (try simp only [List.map_toArray, List.map_cons, List.map_nil]); first | done | rfl | (simp only [List.length_drop, List.length_take]; rfl)) ?_; (with_reducible refine (spec_l91Sum.calls k _ _ l0 t169 t170 _ ?side1 ?side2 A2.out).mono ?_); (case side1 => repeat (first | exact HR0.out | (with_reducible refine Kd.C_alloc ?_ _) | (with_reducible refine Kd.C_drewN ?_ _) | (with_reducible refine Kd.C_drew ?_))); (case side2 => exact HC0.out); rintro e w3 ⟨rfl, hb⟩; refine ⟨_, rfl, ?_⟩; have n0_ := Aside0.mk (below_step (by repeat (first | (with_reducible first | exact HB.out | apply below_alloc | apply pw_below_drewN | apply below_drew1) | exact HB.out)) hb); clear HB; have HB := n0_; clear n0_; (try clear hb); (try clear hb2); (try clear hk); (try clear hi)))
  go_ret2
  exact ⟨by first | rfl | (simp [errW_none, errW_some] <;> rfl) | (simp [*, errW_none, errW_some] <;> rfl), by repeat (first | (with_reducible first | exact HB.out | apply below_alloc | apply pw_below_drewN | apply below_drew1) | exact HB.out)⟩

end Go.Proofs.Ytcabpamfncjoeaa.PD
