-- written by a program of this session (wip/gen/drive.py), which calls the kit's print.py
import Derived.Test.YtcabpamfncjoeaaPDx0
import Derived.Test.YtcabpamfncjoeaaPDx5
namespace Go.Proofs.Ytcabpamfncjoeaa.PD
open Go.RowKit Go.Proofs.YtcabpamfncjoeaaW.PrintWords Go.Proofs.YtcabpamfncjoeaaW.PrintLast Go.Proofs.YtcabpamfncjoeaaW.PrintMore
attribute [local go_sem] max2_int min2_int max_two min_two max_three min_three max_four min_four   -- for this text's walks alone
set_option linter.unusedVariables false
set_option linter.unusedSimpArgs false

/-! ### impl_PolyShares: function 16 -/
theorem goesV_S {ops : Array Oper} {Q : Exit → Act → World → Prop} {oi : Oper} {N : Option Tmp} {a : Act} {w : World} {K : Act → World → Prop} {f : FuncId} {fn : Func} {t : Tmp} {aso : Array Operand} {ts : Array TypeId} (hf : Try.prog.funcs[f]? = some fn) (hname : (fn.name == "runtime.NumGoroutine") = false) (hb : fn.body.isSome = true) (cap args all : Array Value) (hall : args ++ cap = all)
    (hw : Region.wanted oi (yielded ops a.tmps) = true) (hN : oi.dst = N) (hop : oi.op = .call { callee := .value (.tmp t), args := aso, argTypes := ts }) (ht : a.eval (.tmp t) = .func (.func f) #[] cap) (hargs : aso.map a.eval = args)
    (h : Calls Try.prog f all w fun e w' => ∃ v, e = .returned v ∧ K (a.put N v) w') : if Region.wanted oi (yielded ops a.tmps) = true then Oper.wp Try.prog oi a w K Q else K (a.put N undef) w := by
  subst hall
  refine call_ f (args ++ cap) hw hN ?_ h
  have he := enters_ hf hname hb (args ++ cap) w
  unfold execOp
  simp [hop, resolve, Deferred.ofValue, invoke, hargs, ht, he]
theorem kept_set_S {w W1 : World} (g : Nat) (v : Value) (hW : Below w.heap.size w W1) : Kept w (W1.setCell ⟨g, 0, none⟩ v) (fun k => k = g) :=
  ⟨Nat.le_trans hW.size (Below.setCell (p := ⟨g, 0, none⟩) (Below.refl 0 W1) (Nat.zero_le _) v).size, fun i hi hn => (Below.heap_setCell W1 ⟨g, 0, none⟩ v i hn).trans (hW.block i hi)⟩
theorem drewN_S (w : World) (n : Nat) : Below w.heap.size w (w.drewN n) := pw_below_drewN (Below.refl _ _) n
theorem alloc_lastS (w : World) (v : Value) (T : TypeId) : (w.alloc (.cells #[v] T)).heap[w.heap.size]? = some (.cells #[v] T (0, 0)) := by
  show (w.heap.push (.cells #[v] T))[w.heap.size]? = _
  simp
/-- What the closure keeps: a number. -/
def InvS (g base : Nat) (st : Int) (w : World) : Prop := w.heap[g]? = some (.cells #[.int .i64 st] 3 (0, 0))
theorem InvS_lt {g base : Nat} {st : Int} {w : World} (h : InvS g base st w) : g < w.heap.size := lt_of_block h
theorem InvS_below {g base : Nat} {st : Int} {w w1 : World} (h : InvS g base st w) (hb : Below w.heap.size w w1) : InvS g base st w1 := (hb.block g (lt_of_block h)).trans h
def tellS.f (k : Nat) (st : Int) (xs : List Int) : Option (Int × Bool) := some (wrap64 (st + 1), true)
theorem tellS.mono (st : Int) (xs : List Int) (k : Nat) : LeO (tellS.f k st xs) (tellS.f (k + 1) st xs) := LeO.refl _
set_option maxHeartbeats 1000000 in
set_option maxRecDepth 100000 in
theorem tellS.calls (k g : Nat) (st : Int) (v : Value) (xs : List Int) (rs : Int) (rb : Bool) (w0 w : World) (hB : Below w0.heap.size w0 w) (hg0 : w0.heap.size ≤ g) (hI : InvS g w0.heap.size st w) (hR : Kd.R (Kd.int .i64) 3 w w0.heap.size (fun k => k ≠ g) v xs) (h : tellS.f k st xs = some (rs, rb)) :
    Calls Try.prog 44 #[v, .pointer (some ⟨g, 0, none⟩)] w fun e w' => e = .returned (.bool rb) ∧ InvS g w0.heap.size rs w' ∧ Kept w w' (fun k => k = g) ∧ Below w0.heap.size w0 w' := by
  have cW := cell_of_one hI
  have fW := free_of_one hI
  unfold tellS.f at h
  simp only [Option.some.injEq, Prod.mk.injEq] at h
  obtain ⟨rfl, rfl⟩ := h
  go_enter Try.func44, Try.ntmps44
  go_wp2
  go_ret
  exact ⟨rfl, one_setCell hI, kept_set_S g _ (Below.refl _ _), hB.setCell hg0 _⟩
def lowS (al : List Int) : Int := if 0 < (al.length : Int) then rd al (wrap64 ((al.length : Int) - 1)) else 1
mutual
def tryS.f (n : Int) : Nat → Int → List Int → Int → Option (Int × Bool)
  | 0, _, _, _ => none
  | k + 1, st, al, lf => if al.length < 1000 then (if wrap64 (n - (al.length : Int)) = 1 then (if lf < lowS al then some (st, true) else tellS.f k st (al ++ [lf])) else tryS.l n k st al lf (lowS al) (wrap64 (n - (al.length : Int)))) else none
def tryS.l (n : Int) : Nat → Int → List Int → Int → Int → Int → Option (Int × Bool)
  | 0, _, _, _, _, _ => none
  | k + 1, st, al, lf, x, rest => if wrap64 (x * rest) ≤ lf then ((tryS.f n k st (al ++ [x]) (wrap64 (lf - x))).bind fun q => if q.2 = true then tryS.l n k q.1 al lf (wrap64 (x + 1)) rest else some (q.1, false)) else some (st, true)
end
theorem tryS.mono_l (n : Int) : ∀ k, (∀ st al lf, LeO (tryS.f n k st al lf) (tryS.f n (k + 1) st al lf)) ∧ (∀ st al lf x rest, LeO (tryS.l n k st al lf x rest) (tryS.l n (k + 1) st al lf x rest))
  | 0 => ⟨fun _ _ _ r h => by simp [tryS.f] at h, fun _ _ _ _ _ r h => by simp [tryS.l] at h⟩
  | k + 1 => by
    obtain ⟨ih0, ih1⟩ := tryS.mono_l n k
    refine ⟨?_, ?_⟩
    · intro st al lf
      unfold tryS.f
      exact LeO.ite (LeO.ite (LeO.ite (LeO.refl _) (tellS.mono _ _ _)) (ih1 _ _ _ _ _)) (LeO.none _)
    · intro st al lf x rest
      unfold tryS.l
      exact LeO.ite (LeO.bind (ih0 _ _ _) (fun _ => LeO.ite (ih1 _ _ _ _ _) (LeO.refl _))) (LeO.refl _)
/-- The variables that 'try' captures. -/
def CapsS (n : Int) (g cn ct cy : Nat) (w : World) : Prop := w.heap[cn]? = some (.cells #[.int .i64 n] 3 (0, 0)) ∧ w.heap[ct]? = some (.cells #[(.func (.func 44) #[] #[.pointer (some ⟨g, 0, none⟩)])] 35 (0, 0)) ∧ w.heap[cy]? = some (.cells #[(.func (.func 56) #[] #[.pointer (some ⟨cn, 0, none⟩), .pointer (some ⟨ct, 0, none⟩), .pointer (some ⟨cy, 0, none⟩)])] 50 (0, 0))
theorem CapsS_kept {n : Int} {g cn ct cy : Nat} {w w1 : World} (h : CapsS n g cn ct cy w) (hn : cn ≠ g) (ht : ct ≠ g) (hy : cy ≠ g) (hk : Kept w w1 (fun k => k = g)) : CapsS n g cn ct cy w1 :=
  ⟨(hk.2 cn (lt_of_block h.1) hn).trans h.1, (hk.2 ct (lt_of_block h.2.1) ht).trans h.2.1, (hk.2 cy (lt_of_block h.2.2) hy).trans h.2.2⟩
theorem RS_kept {g base : Nat} {v : Value} {xs : List Int} {w w1 : World} (h : Kd.R (Kd.int .i64) 3 w base (fun k => k ≠ g) v xs) (hk : Kept w w1 (fun k => k = g)) : Kd.R (Kd.int .i64) 3 w1 base (fun k => k ≠ g) v xs := Kd.R_step h (fun k h1 h2 => hk.2 k h2 h1)
theorem RS_new {g base b2 : Nat} {v : Value} {xs : List Int} {w : World} (h : Kd.R (Kd.int .i64) 3 w b2 (fun _ => True) v xs) (h1 : base ≤ b2) (h2 : g < b2) : Kd.R (Kd.int .i64) 3 w base (fun k => k ≠ g) v xs := Kd.R_lower (Kd.R_mono (Kd.R_bound h) (fun k hk => by have := hk.2.1; omega)) h1
def tryS.T8 : Bool × List (List Nat × List Nat) := (true, [([], []), ([], []), ([1], [1]), ([], []), ([3], [3]), ([2, 4, 2], [2, 4]), ([0, 5, 5], [0, 5]), ([6, 6, 0, 1, 2, 3, 4, 5, 6], [6])])
def tryS.B8 : List Nat := [0, 0, 2, 0, 8, 30, 63, 127]
theorem tryS.tab8 : rtab .any (opsOf Try.f56 8) = tryS.T8 := by kernel_rfl
theorem tryS.bits8 : waitsOk tryS.T8.2 tryS.B8 = true := by kernel_rfl
def tryS.T12 : Bool × List (List Nat × List Nat) := (true, [([], []), ([], []), ([1], [1]), ([], []), ([3], [3]), ([2, 4, 2], [2, 4]), ([], []), ([], []), ([6, 7], [6, 7]), ([0, 5, 8, 5], [0, 5, 8]), ([9], [9])])
def tryS.B12 : List Nat := [0, 0, 2, 0, 8, 30, 0, 0, 192, 511, 1023]
theorem tryS.tab12 : rtab .any (opsOf Try.f56 12) = tryS.T12 := by kernel_rfl
theorem tryS.bits12 : waitsOk tryS.T12.2 tryS.B12 = true := by kernel_rfl
set_option maxHeartbeats 8000000 in
set_option maxRecDepth 100000 in
theorem tryS.calls (n : Int) (g cn ct cy : Nat) (w0 : World) (hg0 : w0.heap.size ≤ g) (hcn : cn ≠ g) (hct : ct ≠ g) (hcy : cy ≠ g) : ∀ (KK k : Nat), k ≤ KK → ∀ (st : Int) (al : List Int) (lf : Int) (rs : Int) (rb : Bool) (va : Value) (w : World), Below w0.heap.size w0 w → CapsS n g cn ct cy w → InvS g w0.heap.size st w → Kd.R (Kd.int .i64) 3 w w0.heap.size (fun k => k ≠ g) va al → tryS.f n k st al lf = some (rs, rb) →
    Calls Try.prog 56 #[va, .int .i64 lf, .pointer (some ⟨cn, 0, none⟩), .pointer (some ⟨ct, 0, none⟩), .pointer (some ⟨cy, 0, none⟩)] w fun e w' => e = .returned (.bool rb) ∧ InvS g w0.heap.size rs w' ∧ Kept w w' (fun k => k = g) ∧ Below w0.heap.size w0 w' := by
  intro KK
  induction KK with
  | zero =>
    intro k hk st al lf rs rb va w _ _ _ _ h
    have : k = 0 := by omega
    subst this
    simp [tryS.f] at h
  | succ KK ih =>
    intro k hk st al lf rs rb va w hB hC hI hR h
    cases k with
    | zero => simp [tryS.f] at h
    | succ k =>
      obtain ⟨A0, c0, rfl⟩ := Kd.R_slice hR
      simp only [tryS.f] at h
      by_cases hln : al.length < 1000
      case neg => rw [if_neg hln] at h; exact absurd h (by simp)
      rw [if_pos hln] at h
      have HBw0 := Aside0.mk hB
      have HI0 := Aside0.mk hI
      have HR0 := Aside0.mk hR
      have HC0 := Aside0.mk hC
      have cN := cell_of_one hC.1
      have HLK0 := Aside0.mk (show k ≤ KK by omega)
      have HCL : Aside0 (slices_Clone_int_int.f al = some al) := ⟨by unfold slices_Clone_int_int.f; rw [if_pos (by omega)]⟩
      have HLL : Aside0 ((al.length + 1) * 8 ≤ 140737488355328) := ⟨by omega⟩
      obtain ⟨lo, hlo⟩ : ∃ lo, lo = lowS al := ⟨_, rfl⟩
      rw [← hlo] at h
      have HH := Aside0.mk h
      clear h hB hI hC
      by_cases c2 : 0 < (al.length : Int)
      · have c2b0 : decide (0 < (al.length : Int)) = true := decide_eq_true c2
        have c2b1 : decide (0 < al.length) = true := decide_eq_true (by omega)
        have ew : wrap64 ((al.length : Int) - 1) = (al.length : Int) - 1 := by unfold wrap64; omega
        have p3 : 0 ≤ wrap64 ((al.length : Int) - 1) := by rw [ew]; omega
        have q3 : wrap64 ((al.length : Int) - 1) < (al.length : Int) := by rw [ew]; omega
        obtain ⟨ad, e3, hx3⟩ := Kd.at_int (Kd.R_reads' hR).2.2 (wrap64 ((al.length : Int) - 1)) p3 q3
        cases e3
        unfold lowS at hlo
        rw [if_pos c2] at hlo
        rw [← hlo] at hx3
        replace p3 := eq_true p3
        replace q3 := eq_true q3
        have HLN := Aside0.mk hln
        clear hln c2 ew hR hlo hk
        have H := HH.out
        clear HH
        by_cases c4 : wrap64 (n - (al.length : Int)) = 1
        · rw [if_pos c4] at H
          have c4b0 : (wrap64 (n - (al.length : Int)) == 1) = true := beq_iff_eq.mpr c4
          clear c4
          by_cases c5 : lf < lo
          · rw [if_pos c5] at H
            have c5b0 : decide (lf < lo) = true := decide_eq_true c5
            clear c5
            simp only [Option.some.injEq, Prod.mk.injEq] at H
            obtain ⟨rfl, rfl⟩ := H
            go_enter Try.func56, Try.ntmps56
            go_wp2
            go_ret
            exact ⟨rfl, HI0.out, Kept.refl _ _, HBw0.out⟩
          · rw [if_neg c5] at H
            have c5b0 : decide (lf < lo) = false := decide_eq_false c5
            clear c5
            have AT := Aside0.mk H
            clear H
            go_enter Try.func56, Try.ntmps56
            go_wp2
            have HBw := Aside0.mk (below_drew1 HBw0.out)
            have HIw := Aside0.mk (InvS_below HI0.out (below_drew (Below.refl _ _)))
            have HRw := Aside0.mk (Kd.R_drew HR0.out)
            have HCw := Aside0.mk (CapsS_kept HC0.out hcn hct hcy (Kept.of_below (below_drew (Below.refl _ _)) _))
            have HKw := Aside0.mk (Kept.then_ (Kept.refl w (fun k => k = g)) (Kept.of_below (w := w) (W := w.drew) (below_drew (Below.refl _ _)) (fun k => k = g)) (fun k e_ => .inl e_))
            refine start_ (n := 8) (S := fun w' => True) (ds := []) #[false, false, false, false, false, false, false, false] (by kernel_rfl) rfl rfl trivial (fun hHeld => ?_); refine with_tabW tryS.tab8 tryS.bits8 (fun HT_ HW_ => ?_)
            generalize w.drew = w2 at HBw HIw HRw HCw HKw hHeld ⊢
            have HE2 := Aside0.mk (Below.refl w2.heap.size w2)
            refine pure_ (i := 1) (N := some 30) (v := ?_) (a' := ?_) #[false, true, false, false, false, false, false, false] rfl rfl (any_of HT_.out (by kernel_rfl)) (fun _ _ _ h => h) (Or.inl ⟨by rfl, ?_⟩) ?_ ?_
            rotate_left
            · intro w'
              go_simp
              with_reducible rfl
            rotate_left
            · simp only [Act.put, List.setIfInBounds_toArray, List.set_cons_zero, List.set_cons_succ, i64_w, i32_w]
              rfl
            refine pure_ (i := 3) (N := some 32) (v := ?_) (a' := ?_) #[false, true, false, true, false, false, false, false] rfl rfl (any_of HT_.out (by kernel_rfl)) (fun _ _ _ h => h) (Or.inl ⟨by rfl, ?_⟩) ?_ ?_
            rotate_left
            · intro w'
              go_simp
              with_reducible rfl
            rotate_left
            · simp only [Act.put, List.setIfInBounds_toArray, List.set_cons_zero, List.set_cons_succ, i64_w, i32_w]
              rfl
            refine inv_at [0, 2, 4, 5, 6, 7] (fun a0_ b a w' => ∃ (v_cl : Value) (v_bu : Value) (v_ap : Value), a = putSel a0_ b [(0, 29, .func (.func 44) #[] #[.pointer (some ⟨g, 0, none⟩)]), (2, 31, v_cl), (4, 33, v_bu), (5, 34, v_ap), (6, 35, .bool rb), (7, 7, .bool rb)] ∧ (b 6 = false → Below w2.heap.size w2 w') ∧ (b 2 = true → b 5 = false → Kd.R (Kd.int .i64) 3 w' w2.heap.size (fun _ => True) v_cl al) ∧ (b 4 = true → b 5 = false → Kd.R (Kd.int .i64) 3 w' w2.heap.size (fun _ => True) v_bu [lf]) ∧ (b 5 = true → b 6 = false → Kd.R (Kd.int .i64) 3 w' w2.heap.size (fun _ => True) v_ap (al ++ [lf])) ∧ (b 6 = true → InvS g w0.heap.size rs w') ∧ (b 6 = true → Kept w2 w' (fun k => k = g)) ∧ (b 6 = true → Below w0.heap.size w0 w')) HT_.out HW_.out (by kernel_rfl) (by kernel_rfl) ?_ ?_ ?_
            · exact ⟨.bool false, .bool false, .bool false, by simp only [putSel, Bool.false_eq_true, if_false], fun _ => HE2.out, fun h_ => absurd h_ (by decide), fun h_ => absurd h_ (by decide), fun h_ => absurd h_ (by decide), fun h_ => absurd h_ (by decide), fun h_ => absurd h_ (by decide), fun h_ => absurd h_ (by decide)⟩
            · skip
              clear HE2
              refine steps_cons ?_ ?_
              · rintro b a w' ⟨v_cl, v_bu, v_ap, ha, Q_HE2, Q_HO1, Q_HS, Q_HO2, Q_HI, Q_HE3, Q_HB3⟩ hb_ hon hoff
                refine ⟨_, rfl, fun K hK => ?_⟩
                have e3 : a.tmps[3]? = some (.pointer (some ⟨ct, 0, none⟩)) := by rw [ha]; exact (putSel_off rfl).trans rfl
                replace ha := Aside0.mk ha
                have HE2 := Aside0.mk (Q_HE2 (hoff 6 (by kernel_rfl)))
                have hc0_ : w'.cell? ⟨ct, 0, none⟩ = some (.func (.func 44) #[] #[.pointer (some ⟨g, 0, none⟩)]) := cell_of_one ((HE2.out.block ct (lt_of_block HCw.out.2.1)).trans HCw.out.2.1)
                refine value_ (w1 := w') (v := .func (.func 44) #[] #[.pointer (some ⟨g, 0, none⟩)]) (by rfl) rfl ?_ ?_
                · go_simp
                  (try simp only [i64_w])
                  try rfl
                refine hK.out _ _ ⟨v_cl, v_bu, v_ap, (by rw [ha.out]; exact putSel_upk 0 hb_ rfl rfl rfl), Q_HE2, Q_HO1, Q_HS, Q_HO2, fun h0_ => absurd ((hoff 6 (by kernel_rfl)).symm.trans h0_) (by decide), fun h0_ => absurd ((hoff 6 (by kernel_rfl)).symm.trans h0_) (by decide), fun h0_ => absurd ((hoff 6 (by kernel_rfl)).symm.trans h0_) (by decide)⟩
              refine steps_cons ?_ ?_
              · rintro b a w' ⟨v_cl, v_bu, v_ap, ha, Q_HE2, Q_HO1, Q_HS, Q_HO2, Q_HI, Q_HE3, Q_HB3⟩ hb_ hon hoff
                refine ⟨_, rfl, fun K hK => ?_⟩
                have e30 : a.tmps[30]? = some (.slice (some ad) al.length c0) := by rw [ha]; exact (putSel_off rfl).trans rfl
                replace ha := Aside0.mk ha
                have HE2 := Aside0.mk (Q_HE2 (hoff 6 (by kernel_rfl)))
                refine goes_ Try.func46 (by kernel_rfl) rfl #[.slice (some ad) al.length c0] (by rfl) rfl rfl (by first | (simp only [List.map_toArray, List.map_cons, List.map_nil, Act.eval, Array.getD_eq_getD_getElem?, Option.getD_some, e30]; done) | (simp only [List.map_toArray, List.map_cons, List.map_nil, Act.eval, Array.getD_eq_getD_getElem?, Option.getD_some, e30]; rfl)) ?_
                with_reducible refine (slices_Clone_int_int.calls (some ad) c0 al al w' (Kd.C_below (Kd.R_reads' HRw.out).2.2 HE2.out) (Kd.R_reads' HRw.out).2.1 HCL.out).mono ?_
                rintro e w3 ⟨v3_, rfl, ho3, hb3⟩
                refine ⟨_, rfl, ?_⟩
                refine hK.out _ _ ⟨v3_, v_bu, v_ap, (by rw [ha.out]; exact putSel_upk 1 hb_ rfl rfl rfl), fun _ => (HE2.out.trans (hb3.mono HE2.out.size)), fun _ _ => (Kd.R_lower ho3 HE2.out.size), fun h0_ h1_ => (Kd.R_below (Q_HS h0_ h1_) hb3), fun h0_ _ => absurd ((hoff 5 (by kernel_rfl)).symm.trans h0_) (by decide), fun h0_ => absurd ((hoff 6 (by kernel_rfl)).symm.trans h0_) (by decide), fun h0_ => absurd ((hoff 6 (by kernel_rfl)).symm.trans h0_) (by decide), fun h0_ => absurd ((hoff 6 (by kernel_rfl)).symm.trans h0_) (by decide)⟩
              refine steps_cons ?_ ?_
              · rintro b a w' ⟨v_cl, v_bu, v_ap, ha, Q_HE2, Q_HO1, Q_HS, Q_HO2, Q_HI, Q_HE3, Q_HB3⟩ hb_ hon hoff
                refine ⟨_, rfl, fun K hK => ?_⟩
                have e32 : a.tmps[32]? = some (.int .i64 lf) := by rw [ha]; exact (putSel_off rfl).trans rfl
                replace ha := Aside0.mk ha
                have HE2 := Aside0.mk (Q_HE2 (hoff 6 (by kernel_rfl)))
                refine Kd.R_lit_step (Kd.int .i64) (w0 := w2) w2.heap.size 3 (by rfl) (N := 33) rfl (xs := ([lf] : List Int)) (inner := [.int .i64 lf]) (ok := fun _ => True) (okp := fun _ => False) ?hr ?hp (fun _ hk => hk.elim) trivial HE2.out HE2.out.size (by simp) ?_
                (case hr => first | (go_simp; done) | (go_simp; rfl))
                (case hp => exact (Reps.one (show Kd.M (Kd.int .i64) _ _ _ _ [.int .i64 lf] from rfl) (Reps.none _ _)))
                intro v4_ w3 ho4 hb4 hg4 hat4
                refine hK.out _ _ ⟨v_cl, v4_, v_ap, (by rw [ha.out]; exact putSel_upk 2 hb_ rfl rfl rfl), fun _ => hb4, fun h0_ h1_ => (Kd.R_grown (Q_HO1 h0_ h1_) hg4 (fun _ _ => by simp)), fun _ _ => ho4, fun h0_ _ => absurd ((hoff 5 (by kernel_rfl)).symm.trans h0_) (by decide), fun h0_ => absurd ((hoff 6 (by kernel_rfl)).symm.trans h0_) (by decide), fun h0_ => absurd ((hoff 6 (by kernel_rfl)).symm.trans h0_) (by decide), fun h0_ => absurd ((hoff 6 (by kernel_rfl)).symm.trans h0_) (by decide)⟩
              refine steps_cons ?_ ?_
              · rintro b a w' ⟨v_cl, v_bu, v_ap, ha, Q_HE2, Q_HO1, Q_HS, Q_HO2, Q_HI, Q_HE3, Q_HB3⟩ hb_ hon hoff
                refine ⟨_, rfl, fun K hK => ?_⟩
                have e31 : a.tmps[31]? = some (v_cl) := by rw [ha]; exact putSel_on (e := (2, 31, v_cl)) 1 rfl rfl (hon 2 (by kernel_rfl)) rfl
                have e33 : a.tmps[33]? = some (v_bu) := by rw [ha]; exact putSel_on (e := (4, 33, v_bu)) 2 rfl rfl (hon 4 (by kernel_rfl)) rfl
                replace ha := Aside0.mk ha
                have HE2 := Aside0.mk (Q_HE2 (hoff 6 (by kernel_rfl)))
                have HO1 := Aside0.mk (Q_HO1 (hon 2 (by kernel_rfl)) hb_)
                have HS := Aside0.mk (Q_HS (hon 4 (by kernel_rfl)) hb_)
                obtain ⟨Al_, cl_, el_⟩ := Kd.R_slice HS.out
                have hev_ := eval_of e33
                rw [el_] at hev_
                have hrl_ := HS.out
                rw [el_] at hrl_
                refine Kd.R_append_rows_step (Kd.int .i64) (Rr := (Kd.int .i64).K w') (w0 := w2) w2.heap.size (by rfl) (.tmp 31) (.tmp 33) 29 3 (.int .i64 0) 8 rfl Try.underlying29 info3 rfl (by decide) (by omega) v_cl al [lf] Al_ _ cl_ (fun _ => True) (fun _ => False) (eval_of e31) hev_ HO1.out (Kd.R_reads' hrl_).2.2 (fun _ _ h => h) (fun _ h => h.elim) (fun _ _ => trivial) HE2.out HE2.out.size HLL.out ?_
                intro v5_ w3 ho5 hb5 hg5 hat5
                refine hK.out _ _ ⟨v_cl, v_bu, v5_, (by rw [ha.out]; exact putSel_upk 3 hb_ rfl rfl rfl), fun _ => hb5, fun _ h1_ => absurd ((up_self b 5).symm.trans h1_) (by decide), fun _ h1_ => absurd ((up_self b 5).symm.trans h1_) (by decide), fun _ _ => ho5, fun h0_ => absurd ((hoff 6 (by kernel_rfl)).symm.trans h0_) (by decide), fun h0_ => absurd ((hoff 6 (by kernel_rfl)).symm.trans h0_) (by decide), fun h0_ => absurd ((hoff 6 (by kernel_rfl)).symm.trans h0_) (by decide)⟩
              refine steps_cons ?_ ?_
              · rintro b a w' ⟨v_cl, v_bu, v_ap, ha, Q_HE2, Q_HO1, Q_HS, Q_HO2, Q_HI, Q_HE3, Q_HB3⟩ hb_ hon hoff
                refine ⟨_, rfl, fun K hK => ?_⟩
                have e29 : a.tmps[29]? = some (.func (.func 44) #[] #[.pointer (some ⟨g, 0, none⟩)]) := by rw [ha]; exact putSel_on (e := (0, 29, .func (.func 44) #[] #[.pointer (some ⟨g, 0, none⟩)])) 0 rfl rfl (hon 0 (by kernel_rfl)) rfl
                have e34 : a.tmps[34]? = some (v_ap) := by rw [ha]; exact putSel_on (e := (5, 34, v_ap)) 3 rfl rfl (hon 5 (by kernel_rfl)) rfl
                replace ha := Aside0.mk ha
                have HE2 := Aside0.mk (Q_HE2 hb_)
                have HO2 := Aside0.mk (Q_HO2 (hon 5 (by kernel_rfl)) hb_)
                refine goesV_S (f := 44) Try.func44 (by kernel_rfl) rfl #[.pointer (some ⟨g, 0, none⟩)] #[v_ap] #[v_ap, .pointer (some ⟨g, 0, none⟩)] rfl (by rfl) rfl rfl (eval_of e29) (by first | (simp only [List.map_toArray, List.map_cons, List.map_nil, Act.eval, Array.getD_eq_getD_getElem?, Option.getD_some, e29, e34]; done) | (simp only [List.map_toArray, List.map_cons, List.map_nil, Act.eval, Array.getD_eq_getD_getElem?, Option.getD_some, e29, e34]; rfl)) ?_
                with_reducible refine (tellS.calls k g st v_ap (al ++ [lf]) rs rb w0 w' (HBw.out.trans (HE2.out.mono HBw.out.size)) hg0 (InvS_below HIw.out HE2.out) (RS_new HO2.out HBw.out.size (InvS_lt HIw.out)) AT.out).mono ?_
                rintro e w3 ⟨rfl, hi3, hk3, hb3⟩
                refine ⟨_, rfl, ?_⟩
                refine hK.out _ _ ⟨v_cl, v_bu, v_ap, (by rw [ha.out]; exact putSel_upk 4 hb_ rfl rfl rfl), fun h0_ => absurd ((up_self b 6).symm.trans h0_) (by decide), fun _ h1_ => absurd ((hon 5 (by kernel_rfl)).symm.trans h1_) (by decide), fun _ h1_ => absurd ((hon 5 (by kernel_rfl)).symm.trans h1_) (by decide), fun _ h1_ => absurd ((up_self b 6).symm.trans h1_) (by decide), fun _ => hi3, fun _ => (Kept.then_ (Kept.of_below HE2.out (fun k => k = g)) hk3 (fun k e_ => .inl e_)), fun _ => hb3⟩
              refine steps_cons ?_ ?_
              · rintro b a w' ⟨v_cl, v_bu, v_ap, ha, Q_HE2, Q_HO1, Q_HS, Q_HO2, Q_HI, Q_HE3, Q_HB3⟩ hb_ hon hoff
                refine ⟨_, rfl, fun K hK => ?_⟩
                have e35 : a.tmps[35]? = some (.bool rb) := by rw [ha]; exact putSel_on (e := (6, 35, .bool rb)) 4 rfl rfl (hon 6 (by kernel_rfl)) rfl
                replace ha := Aside0.mk ha
                have HI := Aside0.mk (Q_HI (hon 6 (by kernel_rfl)))
                have HE3 := Aside0.mk (Q_HE3 (hon 6 (by kernel_rfl)))
                have HB3 := Aside0.mk (Q_HB3 (hon 6 (by kernel_rfl)))
                refine value_ (w1 := w') (v := .bool rb) (by rfl) rfl ?_ ?_
                · go_simp
                  (try simp only [i64_w])
                  try rfl
                refine hK.out _ _ ⟨v_cl, v_bu, v_ap, (by rw [ha.out]; exact putSel_upk 5 hb_ rfl rfl rfl), fun h0_ => absurd ((hon 6 (by kernel_rfl)).symm.trans h0_) (by decide), fun _ h1_ => absurd ((hon 5 (by kernel_rfl)).symm.trans h1_) (by decide), fun _ h1_ => absurd ((hon 5 (by kernel_rfl)).symm.trans h1_) (by decide), fun _ h1_ => absurd ((hon 6 (by kernel_rfl)).symm.trans h1_) (by decide), Q_HI, Q_HE3, Q_HB3⟩
              exact steps_nil
            rintro b a wz hall ⟨v_cl, v_bu, v_ap, ha, Q_HE2, Q_HO1, Q_HS, Q_HO2, Q_HI, Q_HE3, Q_HB3⟩
            clear HE2
            have hb0_ := hall 0 (by kernel_rfl)
            have hb2_ := hall 2 (by kernel_rfl)
            have hb4_ := hall 4 (by kernel_rfl)
            have hb5_ := hall 5 (by kernel_rfl)
            have hb6_ := hall 6 (by kernel_rfl)
            have hb7_ := hall 7 (by kernel_rfl)
            subst ha
            simp only [putSel, hb0_, hb2_, hb4_, hb5_, hb6_, hb7_, if_true, Act.put, List.setIfInBounds_toArray, List.set_cons_zero, List.set_cons_succ]
            clear Q_HE2
            clear Q_HO1
            clear Q_HS
            clear Q_HO2
            have HI := Aside0.mk (Q_HI hb6_)
            clear Q_HI
            have HE3 := Aside0.mk (Q_HE3 hb6_)
            clear Q_HE3
            have HB3 := Aside0.mk (Q_HB3 hb6_)
            clear Q_HB3
            clear hall hb0_ hb2_ hb4_ hb5_ hb6_ hb7_
            go_wp2
            go_ret
            exact ⟨rfl, HI.out, Kept.then_ HKw.out HE3.out (fun k e_ => .inl e_), HB3.out⟩
        · rw [if_neg c4] at H
          have c4b0 : (wrap64 (n - (al.length : Int)) == 1) = false := beq_eq_false_iff_ne.mpr c4
          clear c4
          have H' := Aside0.mk H
          clear H
          go_enter Try.func56, Try.ntmps56
          go_wp2
          go_loopg [10] k (fun kq v10 w' => ∃ (st1 : Int) (x1 : Int), v10 = .int .i64 x1 ∧ Aside0 (tryS.l n kq st1 al lf x1 (wrap64 (n - (al.length : Int))) = some (rs, rb)) ∧ Aside0 (kq ≤ k) ∧ Aside0 (InvS g w0.heap.size st1 w') ∧ Aside0 (Kept w w' (fun k => k = g)) ∧ Aside0 (Below w0.heap.size w0 w'))
          case atStart => exact ⟨st, lo, (by first | rfl | (simp; done)), H', ⟨Nat.le_refl _⟩, HI0, ⟨Kept.refl _ _⟩, HBw0⟩
          case round =>
            clear H'
            obtain ⟨st1, x1, rfl, HA, HK1, HIr, HKr, HBr⟩ := hrel
            cases gk with
            | zero => exact absurd HA.out (by simp [tryS.l])
            | succ k1 =>
              have H := HA.out
              clear HA
              simp only [tryS.l] at H
              by_cases c7 : wrap64 (x1 * wrap64 (n - (al.length : Int))) ≤ lf
              · rw [if_pos c7] at H
                have c7b0 : decide (wrap64 (x1 * wrap64 (n - (al.length : Int))) ≤ lf) = true := decide_eq_true c7
                clear c7
                replace H := Option.bind_eq_some_iff.mp H
                obtain ⟨⟨st2, b2⟩, AT0, H⟩ := H
                try dsimp only at H
                have AT := Aside0.mk AT0
                clear AT0
                have HLK := Aside0.mk (show k1 ≤ KK by have := HK1.out; have := HLK0.out; omega)
                have H' := Aside0.mk H
                clear H
                go_wp2
                have HBw := Aside0.mk (below_drew1 HBr.out)
                have HIw := Aside0.mk (InvS_below HIr.out (below_drew (Below.refl _ _)))
                have HRw := Aside0.mk (Kd.R_drew (RS_kept HR0.out HKr.out))
                have HCw := Aside0.mk (CapsS_kept (CapsS_kept HC0.out hcn hct hcy HKr.out) hcn hct hcy (Kept.of_below (below_drew (Below.refl _ _)) _))
                have HKw := Aside0.mk (Kept.then_ HKr.out (Kept.of_below (w := wr) (W := wr.drew) (below_drew (Below.refl _ _)) (fun k => k = g)) (fun k e_ => .inl e_))
                refine start_ (n := 11) (S := fun w' => True) (ds := []) #[false, false, false, false, false, false, false, false, false, false, false] (by kernel_rfl) rfl rfl trivial (fun hHeld => ?_); refine with_tabW tryS.tab12 tryS.bits12 (fun HT_ HW_ => ?_)
                generalize wr.drew = w2 at HBw HIw HRw HCw HKw hHeld ⊢
                have HE2 := Aside0.mk (Below.refl w2.heap.size w2)
                refine pure_ (i := 1) (N := some 45) (v := ?_) (a' := ?_) #[false, true, false, false, false, false, false, false, false, false, false] rfl rfl (any_of HT_.out (by kernel_rfl)) (fun _ _ _ h => h) (Or.inl ⟨by rfl, ?_⟩) ?_ ?_
                rotate_left
                · intro w'
                  go_simp
                  with_reducible rfl
                rotate_left
                · simp only [Act.put, List.setIfInBounds_toArray, List.set_cons_zero, List.set_cons_succ, i64_w, i32_w]
                  rfl
                refine pure_ (i := 3) (N := some 47) (v := ?_) (a' := ?_) #[false, true, false, true, false, false, false, false, false, false, false] rfl rfl (any_of HT_.out (by kernel_rfl)) (fun _ _ _ h => h) (Or.inl ⟨by rfl, ?_⟩) ?_ ?_
                rotate_left
                · intro w'
                  go_simp
                  with_reducible rfl
                rotate_left
                · simp only [Act.put, List.setIfInBounds_toArray, List.set_cons_zero, List.set_cons_succ, i64_w, i32_w]
                  rfl
                refine pure_ (i := 6) (N := some 50) (v := ?_) (a' := ?_) #[false, true, false, true, false, false, true, false, false, false, false] rfl rfl (any_of HT_.out (by kernel_rfl)) (fun _ _ _ h => h) (Or.inl ⟨by rfl, ?_⟩) ?_ ?_
                rotate_left
                · intro w'
                  go_simp
                  with_reducible rfl
                rotate_left
                · simp only [Act.put, List.setIfInBounds_toArray, List.set_cons_zero, List.set_cons_succ, i64_w, i32_w]
                  rfl
                refine pure_ (i := 7) (N := some 51) (v := ?_) (a' := ?_) #[false, true, false, true, false, false, true, true, false, false, false] rfl rfl (any_of HT_.out (by kernel_rfl)) (fun _ _ _ h => h) (Or.inl ⟨by rfl, ?_⟩) ?_ ?_
                rotate_left
                · intro w'
                  go_simp
                  with_reducible rfl
                rotate_left
                · simp only [Act.put, List.setIfInBounds_toArray, List.set_cons_zero, List.set_cons_succ, i64_w, i32_w]
                  rfl
                refine pure_ (i := 8) (N := some 52) (v := ?_) (a' := ?_) #[false, true, false, true, false, false, true, true, true, false, false] rfl rfl (any_of HT_.out (by kernel_rfl)) (fun _ _ _ h => h) (Or.inl ⟨by rfl, ?_⟩) ?_ ?_
                rotate_left
                · intro w'
                  go_simp
                  with_reducible rfl
                rotate_left
                · simp only [Act.put, List.setIfInBounds_toArray, List.set_cons_zero, List.set_cons_succ, i64_w, i32_w]
                  rfl
                refine inv_at [0, 2, 4, 5, 9, 10] (fun a0_ b a w' => ∃ (v_cl : Value) (v_bu : Value) (v_ap : Value), a = putSel a0_ b [(0, 44, .func (.func 56) #[] #[.pointer (some ⟨cn, 0, none⟩), .pointer (some ⟨ct, 0, none⟩), .pointer (some ⟨cy, 0, none⟩)]), (2, 46, v_cl), (4, 48, v_bu), (5, 49, v_ap), (9, 53, .bool b2), (10, 54, .bool (!b2))] ∧ (b 9 = false → Below w2.heap.size w2 w') ∧ (b 2 = true → b 5 = false → Kd.R (Kd.int .i64) 3 w' w2.heap.size (fun _ => True) v_cl al) ∧ (b 4 = true → b 5 = false → Kd.R (Kd.int .i64) 3 w' w2.heap.size (fun _ => True) v_bu [x1]) ∧ (b 5 = true → b 9 = false → Kd.R (Kd.int .i64) 3 w' w2.heap.size (fun _ => True) v_ap (al ++ [x1])) ∧ (b 9 = true → InvS g w0.heap.size st2 w') ∧ (b 9 = true → Kept w2 w' (fun k => k = g)) ∧ (b 9 = true → Below w0.heap.size w0 w')) HT_.out HW_.out (by kernel_rfl) (by kernel_rfl) ?_ ?_ ?_
                · exact ⟨.bool false, .bool false, .bool false, by simp only [putSel, Bool.false_eq_true, if_false], fun _ => HE2.out, fun h_ => absurd h_ (by decide), fun h_ => absurd h_ (by decide), fun h_ => absurd h_ (by decide), fun h_ => absurd h_ (by decide), fun h_ => absurd h_ (by decide), fun h_ => absurd h_ (by decide)⟩
                · skip
                  clear HE2
                  refine steps_cons ?_ ?_
                  · rintro b a w' ⟨v_cl, v_bu, v_ap, ha, Q_HE2, Q_HO1, Q_HS, Q_HO2, Q_HI, Q_HE3, Q_HB3⟩ hb_ hon hoff
                    refine ⟨_, rfl, fun K hK => ?_⟩
                    have e4 : a.tmps[4]? = some (.pointer (some ⟨cy, 0, none⟩)) := by rw [ha]; exact (putSel_off rfl).trans rfl
                    replace ha := Aside0.mk ha
                    have HE2 := Aside0.mk (Q_HE2 (hoff 9 (by kernel_rfl)))
                    have hc0_ : w'.cell? ⟨cy, 0, none⟩ = some (.func (.func 56) #[] #[.pointer (some ⟨cn, 0, none⟩), .pointer (some ⟨ct, 0, none⟩), .pointer (some ⟨cy, 0, none⟩)]) := cell_of_one ((HE2.out.block cy (lt_of_block HCw.out.2.2)).trans HCw.out.2.2)
                    refine value_ (w1 := w') (v := .func (.func 56) #[] #[.pointer (some ⟨cn, 0, none⟩), .pointer (some ⟨ct, 0, none⟩), .pointer (some ⟨cy, 0, none⟩)]) (by rfl) rfl ?_ ?_
                    · go_simp
                      (try simp only [i64_w])
                      try rfl
                    refine hK.out _ _ ⟨v_cl, v_bu, v_ap, (by rw [ha.out]; exact putSel_upk 0 hb_ rfl rfl rfl), Q_HE2, Q_HO1, Q_HS, Q_HO2, fun h0_ => absurd ((hoff 9 (by kernel_rfl)).symm.trans h0_) (by decide), fun h0_ => absurd ((hoff 9 (by kernel_rfl)).symm.trans h0_) (by decide), fun h0_ => absurd ((hoff 9 (by kernel_rfl)).symm.trans h0_) (by decide)⟩
                  refine steps_cons ?_ ?_
                  · rintro b a w' ⟨v_cl, v_bu, v_ap, ha, Q_HE2, Q_HO1, Q_HS, Q_HO2, Q_HI, Q_HE3, Q_HB3⟩ hb_ hon hoff
                    refine ⟨_, rfl, fun K hK => ?_⟩
                    have e45 : a.tmps[45]? = some (.slice (some ad) al.length c0) := by rw [ha]; exact (putSel_off rfl).trans rfl
                    replace ha := Aside0.mk ha
                    have HE2 := Aside0.mk (Q_HE2 (hoff 9 (by kernel_rfl)))
                    refine goes_ Try.func46 (by kernel_rfl) rfl #[.slice (some ad) al.length c0] (by rfl) rfl rfl (by first | (simp only [List.map_toArray, List.map_cons, List.map_nil, Act.eval, Array.getD_eq_getD_getElem?, Option.getD_some, e45]; done) | (simp only [List.map_toArray, List.map_cons, List.map_nil, Act.eval, Array.getD_eq_getD_getElem?, Option.getD_some, e45]; rfl)) ?_
                    with_reducible refine (slices_Clone_int_int.calls (some ad) c0 al al w' (Kd.C_below (Kd.R_reads' HRw.out).2.2 HE2.out) (Kd.R_reads' HRw.out).2.1 HCL.out).mono ?_
                    rintro e w3 ⟨v3_, rfl, ho3, hb3⟩
                    refine ⟨_, rfl, ?_⟩
                    refine hK.out _ _ ⟨v3_, v_bu, v_ap, (by rw [ha.out]; exact putSel_upk 1 hb_ rfl rfl rfl), fun _ => (HE2.out.trans (hb3.mono HE2.out.size)), fun _ _ => (Kd.R_lower ho3 HE2.out.size), fun h0_ h1_ => (Kd.R_below (Q_HS h0_ h1_) hb3), fun h0_ _ => absurd ((hoff 5 (by kernel_rfl)).symm.trans h0_) (by decide), fun h0_ => absurd ((hoff 9 (by kernel_rfl)).symm.trans h0_) (by decide), fun h0_ => absurd ((hoff 9 (by kernel_rfl)).symm.trans h0_) (by decide), fun h0_ => absurd ((hoff 9 (by kernel_rfl)).symm.trans h0_) (by decide)⟩
                  refine steps_cons ?_ ?_
                  · rintro b a w' ⟨v_cl, v_bu, v_ap, ha, Q_HE2, Q_HO1, Q_HS, Q_HO2, Q_HI, Q_HE3, Q_HB3⟩ hb_ hon hoff
                    refine ⟨_, rfl, fun K hK => ?_⟩
                    have e47 : a.tmps[47]? = some (.int .i64 x1) := by rw [ha]; exact (putSel_off rfl).trans rfl
                    replace ha := Aside0.mk ha
                    have HE2 := Aside0.mk (Q_HE2 (hoff 9 (by kernel_rfl)))
                    refine Kd.R_lit_step (Kd.int .i64) (w0 := w2) w2.heap.size 3 (by rfl) (N := 48) rfl (xs := ([x1] : List Int)) (inner := [.int .i64 x1]) (ok := fun _ => True) (okp := fun _ => False) ?hr ?hp (fun _ hk => hk.elim) trivial HE2.out HE2.out.size (by simp) ?_
                    (case hr => first | (go_simp; done) | (go_simp; rfl))
                    (case hp => exact (Reps.one (show Kd.M (Kd.int .i64) _ _ _ _ [.int .i64 x1] from rfl) (Reps.none _ _)))
                    intro v4_ w3 ho4 hb4 hg4 hat4
                    refine hK.out _ _ ⟨v_cl, v4_, v_ap, (by rw [ha.out]; exact putSel_upk 2 hb_ rfl rfl rfl), fun _ => hb4, fun h0_ h1_ => (Kd.R_grown (Q_HO1 h0_ h1_) hg4 (fun _ _ => by simp)), fun _ _ => ho4, fun h0_ _ => absurd ((hoff 5 (by kernel_rfl)).symm.trans h0_) (by decide), fun h0_ => absurd ((hoff 9 (by kernel_rfl)).symm.trans h0_) (by decide), fun h0_ => absurd ((hoff 9 (by kernel_rfl)).symm.trans h0_) (by decide), fun h0_ => absurd ((hoff 9 (by kernel_rfl)).symm.trans h0_) (by decide)⟩
                  refine steps_cons ?_ ?_
                  · rintro b a w' ⟨v_cl, v_bu, v_ap, ha, Q_HE2, Q_HO1, Q_HS, Q_HO2, Q_HI, Q_HE3, Q_HB3⟩ hb_ hon hoff
                    refine ⟨_, rfl, fun K hK => ?_⟩
                    have e46 : a.tmps[46]? = some (v_cl) := by rw [ha]; exact putSel_on (e := (2, 46, v_cl)) 1 rfl rfl (hon 2 (by kernel_rfl)) rfl
                    have e48 : a.tmps[48]? = some (v_bu) := by rw [ha]; exact putSel_on (e := (4, 48, v_bu)) 2 rfl rfl (hon 4 (by kernel_rfl)) rfl
                    replace ha := Aside0.mk ha
                    have HE2 := Aside0.mk (Q_HE2 (hoff 9 (by kernel_rfl)))
                    have HO1 := Aside0.mk (Q_HO1 (hon 2 (by kernel_rfl)) hb_)
                    have HS := Aside0.mk (Q_HS (hon 4 (by kernel_rfl)) hb_)
                    obtain ⟨Al_, cl_, el_⟩ := Kd.R_slice HS.out
                    have hev_ := eval_of e48
                    rw [el_] at hev_
                    have hrl_ := HS.out
                    rw [el_] at hrl_
                    refine Kd.R_append_rows_step (Kd.int .i64) (Rr := (Kd.int .i64).K w') (w0 := w2) w2.heap.size (by rfl) (.tmp 46) (.tmp 48) 29 3 (.int .i64 0) 8 rfl Try.underlying29 info3 rfl (by decide) (by omega) v_cl al [x1] Al_ _ cl_ (fun _ => True) (fun _ => False) (eval_of e46) hev_ HO1.out (Kd.R_reads' hrl_).2.2 (fun _ _ h => h) (fun _ h => h.elim) (fun _ _ => trivial) HE2.out HE2.out.size HLL.out ?_
                    intro v5_ w3 ho5 hb5 hg5 hat5
                    refine hK.out _ _ ⟨v_cl, v_bu, v5_, (by rw [ha.out]; exact putSel_upk 3 hb_ rfl rfl rfl), fun _ => hb5, fun _ h1_ => absurd ((up_self b 5).symm.trans h1_) (by decide), fun _ h1_ => absurd ((up_self b 5).symm.trans h1_) (by decide), fun _ _ => ho5, fun h0_ => absurd ((hoff 9 (by kernel_rfl)).symm.trans h0_) (by decide), fun h0_ => absurd ((hoff 9 (by kernel_rfl)).symm.trans h0_) (by decide), fun h0_ => absurd ((hoff 9 (by kernel_rfl)).symm.trans h0_) (by decide)⟩
                  refine steps_cons ?_ ?_
                  · rintro b a w' ⟨v_cl, v_bu, v_ap, ha, Q_HE2, Q_HO1, Q_HS, Q_HO2, Q_HI, Q_HE3, Q_HB3⟩ hb_ hon hoff
                    refine ⟨_, rfl, fun K hK => ?_⟩
                    have e44 : a.tmps[44]? = some (.func (.func 56) #[] #[.pointer (some ⟨cn, 0, none⟩), .pointer (some ⟨ct, 0, none⟩), .pointer (some ⟨cy, 0, none⟩)]) := by rw [ha]; exact putSel_on (e := (0, 44, .func (.func 56) #[] #[.pointer (some ⟨cn, 0, none⟩), .pointer (some ⟨ct, 0, none⟩), .pointer (some ⟨cy, 0, none⟩)])) 0 rfl rfl (hon 0 (by kernel_rfl)) rfl
                    have e49 : a.tmps[49]? = some (v_ap) := by rw [ha]; exact putSel_on (e := (5, 49, v_ap)) 3 rfl rfl (hon 5 (by kernel_rfl)) rfl
                    have e52 : a.tmps[52]? = some (.int .i64 (wrap64 (lf - x1))) := by rw [ha]; exact (putSel_off rfl).trans rfl
                    replace ha := Aside0.mk ha
                    have HE2 := Aside0.mk (Q_HE2 hb_)
                    have HO2 := Aside0.mk (Q_HO2 (hon 5 (by kernel_rfl)) hb_)
                    refine goesV_S (f := 56) Try.func56 (by kernel_rfl) rfl #[.pointer (some ⟨cn, 0, none⟩), .pointer (some ⟨ct, 0, none⟩), .pointer (some ⟨cy, 0, none⟩)] #[v_ap, .int .i64 (wrap64 (lf - x1))] #[v_ap, .int .i64 (wrap64 (lf - x1)), .pointer (some ⟨cn, 0, none⟩), .pointer (some ⟨ct, 0, none⟩), .pointer (some ⟨cy, 0, none⟩)] rfl (by rfl) rfl rfl (eval_of e44) (by first | (simp only [List.map_toArray, List.map_cons, List.map_nil, Act.eval, Array.getD_eq_getD_getElem?, Option.getD_some, e44, e49, e52]; done) | (simp only [List.map_toArray, List.map_cons, List.map_nil, Act.eval, Array.getD_eq_getD_getElem?, Option.getD_some, e44, e49, e52]; rfl)) ?_
                    with_reducible refine (ih k1 HLK.out st1 (al ++ [x1]) (wrap64 (lf - x1)) st2 b2 v_ap w' (HBw.out.trans (HE2.out.mono HBw.out.size)) (CapsS_kept HCw.out hcn hct hcy (Kept.of_below HE2.out _)) (InvS_below HIw.out HE2.out) (RS_new HO2.out HBw.out.size (InvS_lt HIw.out)) AT.out).mono ?_
                    rintro e w3 ⟨rfl, hi3, hk3, hb3⟩
                    refine ⟨_, rfl, ?_⟩
                    refine hK.out _ _ ⟨v_cl, v_bu, v_ap, (by rw [ha.out]; exact putSel_upk 4 hb_ rfl rfl rfl), fun h0_ => absurd ((up_self b 9).symm.trans h0_) (by decide), fun _ h1_ => absurd ((hon 5 (by kernel_rfl)).symm.trans h1_) (by decide), fun _ h1_ => absurd ((hon 5 (by kernel_rfl)).symm.trans h1_) (by decide), fun _ h1_ => absurd ((up_self b 9).symm.trans h1_) (by decide), fun _ => hi3, fun _ => (Kept.then_ (Kept.of_below HE2.out (fun k => k = g)) hk3 (fun k e_ => .inl e_)), fun _ => hb3⟩
                  refine steps_cons ?_ ?_
                  · rintro b a w' ⟨v_cl, v_bu, v_ap, ha, Q_HE2, Q_HO1, Q_HS, Q_HO2, Q_HI, Q_HE3, Q_HB3⟩ hb_ hon hoff
                    refine ⟨_, rfl, fun K hK => ?_⟩
                    have e53 : a.tmps[53]? = some (.bool b2) := by rw [ha]; exact putSel_on (e := (9, 53, .bool b2)) 4 rfl rfl (hon 9 (by kernel_rfl)) rfl
                    replace ha := Aside0.mk ha
                    have HI := Aside0.mk (Q_HI (hon 9 (by kernel_rfl)))
                    have HE3 := Aside0.mk (Q_HE3 (hon 9 (by kernel_rfl)))
                    have HB3 := Aside0.mk (Q_HB3 (hon 9 (by kernel_rfl)))
                    refine value_ (w1 := w') (v := .bool (!b2)) (by rfl) rfl ?_ ?_
                    · go_simp
                      (try simp only [i64_w])
                      try rfl
                    refine hK.out _ _ ⟨v_cl, v_bu, v_ap, (by rw [ha.out]; exact putSel_upk 5 hb_ rfl rfl rfl), fun h0_ => absurd ((hon 9 (by kernel_rfl)).symm.trans h0_) (by decide), fun _ h1_ => absurd ((hon 5 (by kernel_rfl)).symm.trans h1_) (by decide), fun _ h1_ => absurd ((hon 5 (by kernel_rfl)).symm.trans h1_) (by decide), fun _ h1_ => absurd ((hon 9 (by kernel_rfl)).symm.trans h1_) (by decide), Q_HI, Q_HE3, Q_HB3⟩
                  exact steps_nil
                rintro b a wz hall ⟨v_cl, v_bu, v_ap, ha, Q_HE2, Q_HO1, Q_HS, Q_HO2, Q_HI, Q_HE3, Q_HB3⟩
                clear HE2
                have hb0_ := hall 0 (by kernel_rfl)
                have hb2_ := hall 2 (by kernel_rfl)
                have hb4_ := hall 4 (by kernel_rfl)
                have hb5_ := hall 5 (by kernel_rfl)
                have hb9_ := hall 9 (by kernel_rfl)
                have hb10_ := hall 10 (by kernel_rfl)
                subst ha
                simp only [putSel, hb0_, hb2_, hb4_, hb5_, hb9_, hb10_, if_true, Act.put, List.setIfInBounds_toArray, List.set_cons_zero, List.set_cons_succ]
                clear Q_HE2
                clear Q_HO1
                clear Q_HS
                clear Q_HO2
                have HI := Aside0.mk (Q_HI hb9_)
                clear Q_HI
                have HE3 := Aside0.mk (Q_HE3 hb9_)
                clear Q_HE3
                have HB3 := Aside0.mk (Q_HB3 hb9_)
                clear Q_HB3
                clear hall hb0_ hb2_ hb4_ hb5_ hb9_ hb10_
                have HK' := Aside0.mk (Kept.then_ HKw.out HE3.out (fun k e_ => .inl e_))
                have H := H'.out
                clear H'
                cases b2 with
                | true =>
                  rw [if_pos rfl] at H
                  have H' := Aside0.mk H
                  clear H
                  go_wp2
                  go_roundg k1
                  case measure => have := HK1.out; omega
                  case rel => exact ⟨st2, wrap64 (x1 + 1), (by first | rfl | (simp; done) | (simp only [i64_w]; first | done | rfl) | (simp [*]; done)), H', ⟨by have := HK1.out; omega⟩, HI, HK', HB3⟩
                | false =>
                  rw [if_neg (by decide)] at H
                  simp only [Option.some.injEq, Prod.mk.injEq] at H
                  obtain ⟨rfl, rfl⟩ := H
                  go_wp2
                  go_ret
                  exact ⟨rfl, HI.out, HK'.out, HB3.out⟩
              · rw [if_neg c7] at H
                have c7b0 : decide (wrap64 (x1 * wrap64 (n - (al.length : Int))) ≤ lf) = false := decide_eq_false c7
                clear c7
                simp only [Option.some.injEq, Prod.mk.injEq] at H
                obtain ⟨rfl, rfl⟩ := H
                go_wp2
                go_ret
                exact ⟨rfl, HIr.out, HKr.out, HBr.out⟩
      · have c2b0 : decide (0 < (al.length : Int)) = false := decide_eq_false c2
        have c2b1 : decide (0 < al.length) = false := decide_eq_false (by omega)
        unfold lowS at hlo
        rw [if_neg c2] at hlo
        subst hlo
        have HLN := Aside0.mk hln
        clear hln c2 hR hk
        have H := HH.out
        clear HH
        by_cases c4 : wrap64 (n - (al.length : Int)) = 1
        · rw [if_pos c4] at H
          have c4b0 : (wrap64 (n - (al.length : Int)) == 1) = true := beq_iff_eq.mpr c4
          clear c4
          by_cases c5 : lf < 1
          · rw [if_pos c5] at H
            have c5b0 : decide (lf < 1) = true := decide_eq_true c5
            clear c5
            simp only [Option.some.injEq, Prod.mk.injEq] at H
            obtain ⟨rfl, rfl⟩ := H
            go_enter Try.func56, Try.ntmps56
            go_wp2
            go_ret
            exact ⟨rfl, HI0.out, Kept.refl _ _, HBw0.out⟩
          · rw [if_neg c5] at H
            have c5b0 : decide (lf < 1) = false := decide_eq_false c5
            clear c5
            have AT := Aside0.mk H
            clear H
            go_enter Try.func56, Try.ntmps56
            go_wp2
            have HBw := Aside0.mk (below_drew1 HBw0.out)
            have HIw := Aside0.mk (InvS_below HI0.out (below_drew (Below.refl _ _)))
            have HRw := Aside0.mk (Kd.R_drew HR0.out)
            have HCw := Aside0.mk (CapsS_kept HC0.out hcn hct hcy (Kept.of_below (below_drew (Below.refl _ _)) _))
            have HKw := Aside0.mk (Kept.then_ (Kept.refl w (fun k => k = g)) (Kept.of_below (w := w) (W := w.drew) (below_drew (Below.refl _ _)) (fun k => k = g)) (fun k e_ => .inl e_))
            refine start_ (n := 8) (S := fun w' => True) (ds := []) #[false, false, false, false, false, false, false, false] (by kernel_rfl) rfl rfl trivial (fun hHeld => ?_); refine with_tabW tryS.tab8 tryS.bits8 (fun HT_ HW_ => ?_)
            generalize w.drew = w2 at HBw HIw HRw HCw HKw hHeld ⊢
            have HE2 := Aside0.mk (Below.refl w2.heap.size w2)
            refine pure_ (i := 1) (N := some 30) (v := ?_) (a' := ?_) #[false, true, false, false, false, false, false, false] rfl rfl (any_of HT_.out (by kernel_rfl)) (fun _ _ _ h => h) (Or.inl ⟨by rfl, ?_⟩) ?_ ?_
            rotate_left
            · intro w'
              go_simp
              with_reducible rfl
            rotate_left
            · simp only [Act.put, List.setIfInBounds_toArray, List.set_cons_zero, List.set_cons_succ, i64_w, i32_w]
              rfl
            refine pure_ (i := 3) (N := some 32) (v := ?_) (a' := ?_) #[false, true, false, true, false, false, false, false] rfl rfl (any_of HT_.out (by kernel_rfl)) (fun _ _ _ h => h) (Or.inl ⟨by rfl, ?_⟩) ?_ ?_
            rotate_left
            · intro w'
              go_simp
              with_reducible rfl
            rotate_left
            · simp only [Act.put, List.setIfInBounds_toArray, List.set_cons_zero, List.set_cons_succ, i64_w, i32_w]
              rfl
            refine inv_at [0, 2, 4, 5, 6, 7] (fun a0_ b a w' => ∃ (v_cl : Value) (v_bu : Value) (v_ap : Value), a = putSel a0_ b [(0, 29, .func (.func 44) #[] #[.pointer (some ⟨g, 0, none⟩)]), (2, 31, v_cl), (4, 33, v_bu), (5, 34, v_ap), (6, 35, .bool rb), (7, 7, .bool rb)] ∧ (b 6 = false → Below w2.heap.size w2 w') ∧ (b 2 = true → b 5 = false → Kd.R (Kd.int .i64) 3 w' w2.heap.size (fun _ => True) v_cl al) ∧ (b 4 = true → b 5 = false → Kd.R (Kd.int .i64) 3 w' w2.heap.size (fun _ => True) v_bu [lf]) ∧ (b 5 = true → b 6 = false → Kd.R (Kd.int .i64) 3 w' w2.heap.size (fun _ => True) v_ap (al ++ [lf])) ∧ (b 6 = true → InvS g w0.heap.size rs w') ∧ (b 6 = true → Kept w2 w' (fun k => k = g)) ∧ (b 6 = true → Below w0.heap.size w0 w')) HT_.out HW_.out (by kernel_rfl) (by kernel_rfl) ?_ ?_ ?_
            · exact ⟨.bool false, .bool false, .bool false, by simp only [putSel, Bool.false_eq_true, if_false], fun _ => HE2.out, fun h_ => absurd h_ (by decide), fun h_ => absurd h_ (by decide), fun h_ => absurd h_ (by decide), fun h_ => absurd h_ (by decide), fun h_ => absurd h_ (by decide), fun h_ => absurd h_ (by decide)⟩
            · skip
              clear HE2
              refine steps_cons ?_ ?_
              · rintro b a w' ⟨v_cl, v_bu, v_ap, ha, Q_HE2, Q_HO1, Q_HS, Q_HO2, Q_HI, Q_HE3, Q_HB3⟩ hb_ hon hoff
                refine ⟨_, rfl, fun K hK => ?_⟩
                have e3 : a.tmps[3]? = some (.pointer (some ⟨ct, 0, none⟩)) := by rw [ha]; exact (putSel_off rfl).trans rfl
                replace ha := Aside0.mk ha
                have HE2 := Aside0.mk (Q_HE2 (hoff 6 (by kernel_rfl)))
                have hc0_ : w'.cell? ⟨ct, 0, none⟩ = some (.func (.func 44) #[] #[.pointer (some ⟨g, 0, none⟩)]) := cell_of_one ((HE2.out.block ct (lt_of_block HCw.out.2.1)).trans HCw.out.2.1)
                refine value_ (w1 := w') (v := .func (.func 44) #[] #[.pointer (some ⟨g, 0, none⟩)]) (by rfl) rfl ?_ ?_
                · go_simp
                  (try simp only [i64_w])
                  try rfl
                refine hK.out _ _ ⟨v_cl, v_bu, v_ap, (by rw [ha.out]; exact putSel_upk 0 hb_ rfl rfl rfl), Q_HE2, Q_HO1, Q_HS, Q_HO2, fun h0_ => absurd ((hoff 6 (by kernel_rfl)).symm.trans h0_) (by decide), fun h0_ => absurd ((hoff 6 (by kernel_rfl)).symm.trans h0_) (by decide), fun h0_ => absurd ((hoff 6 (by kernel_rfl)).symm.trans h0_) (by decide)⟩
              refine steps_cons ?_ ?_
              · rintro b a w' ⟨v_cl, v_bu, v_ap, ha, Q_HE2, Q_HO1, Q_HS, Q_HO2, Q_HI, Q_HE3, Q_HB3⟩ hb_ hon hoff
                refine ⟨_, rfl, fun K hK => ?_⟩
                have e30 : a.tmps[30]? = some (.slice A0 al.length c0) := by rw [ha]; exact (putSel_off rfl).trans rfl
                replace ha := Aside0.mk ha
                have HE2 := Aside0.mk (Q_HE2 (hoff 6 (by kernel_rfl)))
                refine goes_ Try.func46 (by kernel_rfl) rfl #[.slice A0 al.length c0] (by rfl) rfl rfl (by first | (simp only [List.map_toArray, List.map_cons, List.map_nil, Act.eval, Array.getD_eq_getD_getElem?, Option.getD_some, e30]; done) | (simp only [List.map_toArray, List.map_cons, List.map_nil, Act.eval, Array.getD_eq_getD_getElem?, Option.getD_some, e30]; rfl)) ?_
                with_reducible refine (slices_Clone_int_int.calls A0 c0 al al w' (Kd.C_below (Kd.R_reads' HRw.out).2.2 HE2.out) (Kd.R_reads' HRw.out).2.1 HCL.out).mono ?_
                rintro e w3 ⟨v3_, rfl, ho3, hb3⟩
                refine ⟨_, rfl, ?_⟩
                refine hK.out _ _ ⟨v3_, v_bu, v_ap, (by rw [ha.out]; exact putSel_upk 1 hb_ rfl rfl rfl), fun _ => (HE2.out.trans (hb3.mono HE2.out.size)), fun _ _ => (Kd.R_lower ho3 HE2.out.size), fun h0_ h1_ => (Kd.R_below (Q_HS h0_ h1_) hb3), fun h0_ _ => absurd ((hoff 5 (by kernel_rfl)).symm.trans h0_) (by decide), fun h0_ => absurd ((hoff 6 (by kernel_rfl)).symm.trans h0_) (by decide), fun h0_ => absurd ((hoff 6 (by kernel_rfl)).symm.trans h0_) (by decide), fun h0_ => absurd ((hoff 6 (by kernel_rfl)).symm.trans h0_) (by decide)⟩
              refine steps_cons ?_ ?_
              · rintro b a w' ⟨v_cl, v_bu, v_ap, ha, Q_HE2, Q_HO1, Q_HS, Q_HO2, Q_HI, Q_HE3, Q_HB3⟩ hb_ hon hoff
                refine ⟨_, rfl, fun K hK => ?_⟩
                have e32 : a.tmps[32]? = some (.int .i64 lf) := by rw [ha]; exact (putSel_off rfl).trans rfl
                replace ha := Aside0.mk ha
                have HE2 := Aside0.mk (Q_HE2 (hoff 6 (by kernel_rfl)))
                refine Kd.R_lit_step (Kd.int .i64) (w0 := w2) w2.heap.size 3 (by rfl) (N := 33) rfl (xs := ([lf] : List Int)) (inner := [.int .i64 lf]) (ok := fun _ => True) (okp := fun _ => False) ?hr ?hp (fun _ hk => hk.elim) trivial HE2.out HE2.out.size (by simp) ?_
                (case hr => first | (go_simp; done) | (go_simp; rfl))
                (case hp => exact (Reps.one (show Kd.M (Kd.int .i64) _ _ _ _ [.int .i64 lf] from rfl) (Reps.none _ _)))
                intro v4_ w3 ho4 hb4 hg4 hat4
                refine hK.out _ _ ⟨v_cl, v4_, v_ap, (by rw [ha.out]; exact putSel_upk 2 hb_ rfl rfl rfl), fun _ => hb4, fun h0_ h1_ => (Kd.R_grown (Q_HO1 h0_ h1_) hg4 (fun _ _ => by simp)), fun _ _ => ho4, fun h0_ _ => absurd ((hoff 5 (by kernel_rfl)).symm.trans h0_) (by decide), fun h0_ => absurd ((hoff 6 (by kernel_rfl)).symm.trans h0_) (by decide), fun h0_ => absurd ((hoff 6 (by kernel_rfl)).symm.trans h0_) (by decide), fun h0_ => absurd ((hoff 6 (by kernel_rfl)).symm.trans h0_) (by decide)⟩
              refine steps_cons ?_ ?_
              · rintro b a w' ⟨v_cl, v_bu, v_ap, ha, Q_HE2, Q_HO1, Q_HS, Q_HO2, Q_HI, Q_HE3, Q_HB3⟩ hb_ hon hoff
                refine ⟨_, rfl, fun K hK => ?_⟩
                have e31 : a.tmps[31]? = some (v_cl) := by rw [ha]; exact putSel_on (e := (2, 31, v_cl)) 1 rfl rfl (hon 2 (by kernel_rfl)) rfl
                have e33 : a.tmps[33]? = some (v_bu) := by rw [ha]; exact putSel_on (e := (4, 33, v_bu)) 2 rfl rfl (hon 4 (by kernel_rfl)) rfl
                replace ha := Aside0.mk ha
                have HE2 := Aside0.mk (Q_HE2 (hoff 6 (by kernel_rfl)))
                have HO1 := Aside0.mk (Q_HO1 (hon 2 (by kernel_rfl)) hb_)
                have HS := Aside0.mk (Q_HS (hon 4 (by kernel_rfl)) hb_)
                obtain ⟨Al_, cl_, el_⟩ := Kd.R_slice HS.out
                have hev_ := eval_of e33
                rw [el_] at hev_
                have hrl_ := HS.out
                rw [el_] at hrl_
                refine Kd.R_append_rows_step (Kd.int .i64) (Rr := (Kd.int .i64).K w') (w0 := w2) w2.heap.size (by rfl) (.tmp 31) (.tmp 33) 29 3 (.int .i64 0) 8 rfl Try.underlying29 info3 rfl (by decide) (by omega) v_cl al [lf] Al_ _ cl_ (fun _ => True) (fun _ => False) (eval_of e31) hev_ HO1.out (Kd.R_reads' hrl_).2.2 (fun _ _ h => h) (fun _ h => h.elim) (fun _ _ => trivial) HE2.out HE2.out.size HLL.out ?_
                intro v5_ w3 ho5 hb5 hg5 hat5
                refine hK.out _ _ ⟨v_cl, v_bu, v5_, (by rw [ha.out]; exact putSel_upk 3 hb_ rfl rfl rfl), fun _ => hb5, fun _ h1_ => absurd ((up_self b 5).symm.trans h1_) (by decide), fun _ h1_ => absurd ((up_self b 5).symm.trans h1_) (by decide), fun _ _ => ho5, fun h0_ => absurd ((hoff 6 (by kernel_rfl)).symm.trans h0_) (by decide), fun h0_ => absurd ((hoff 6 (by kernel_rfl)).symm.trans h0_) (by decide), fun h0_ => absurd ((hoff 6 (by kernel_rfl)).symm.trans h0_) (by decide)⟩
              refine steps_cons ?_ ?_
              · rintro b a w' ⟨v_cl, v_bu, v_ap, ha, Q_HE2, Q_HO1, Q_HS, Q_HO2, Q_HI, Q_HE3, Q_HB3⟩ hb_ hon hoff
                refine ⟨_, rfl, fun K hK => ?_⟩
                have e29 : a.tmps[29]? = some (.func (.func 44) #[] #[.pointer (some ⟨g, 0, none⟩)]) := by rw [ha]; exact putSel_on (e := (0, 29, .func (.func 44) #[] #[.pointer (some ⟨g, 0, none⟩)])) 0 rfl rfl (hon 0 (by kernel_rfl)) rfl
                have e34 : a.tmps[34]? = some (v_ap) := by rw [ha]; exact putSel_on (e := (5, 34, v_ap)) 3 rfl rfl (hon 5 (by kernel_rfl)) rfl
                replace ha := Aside0.mk ha
                have HE2 := Aside0.mk (Q_HE2 hb_)
                have HO2 := Aside0.mk (Q_HO2 (hon 5 (by kernel_rfl)) hb_)
                refine goesV_S (f := 44) Try.func44 (by kernel_rfl) rfl #[.pointer (some ⟨g, 0, none⟩)] #[v_ap] #[v_ap, .pointer (some ⟨g, 0, none⟩)] rfl (by rfl) rfl rfl (eval_of e29) (by first | (simp only [List.map_toArray, List.map_cons, List.map_nil, Act.eval, Array.getD_eq_getD_getElem?, Option.getD_some, e29, e34]; done) | (simp only [List.map_toArray, List.map_cons, List.map_nil, Act.eval, Array.getD_eq_getD_getElem?, Option.getD_some, e29, e34]; rfl)) ?_
                with_reducible refine (tellS.calls k g st v_ap (al ++ [lf]) rs rb w0 w' (HBw.out.trans (HE2.out.mono HBw.out.size)) hg0 (InvS_below HIw.out HE2.out) (RS_new HO2.out HBw.out.size (InvS_lt HIw.out)) AT.out).mono ?_
                rintro e w3 ⟨rfl, hi3, hk3, hb3⟩
                refine ⟨_, rfl, ?_⟩
                refine hK.out _ _ ⟨v_cl, v_bu, v_ap, (by rw [ha.out]; exact putSel_upk 4 hb_ rfl rfl rfl), fun h0_ => absurd ((up_self b 6).symm.trans h0_) (by decide), fun _ h1_ => absurd ((hon 5 (by kernel_rfl)).symm.trans h1_) (by decide), fun _ h1_ => absurd ((hon 5 (by kernel_rfl)).symm.trans h1_) (by decide), fun _ h1_ => absurd ((up_self b 6).symm.trans h1_) (by decide), fun _ => hi3, fun _ => (Kept.then_ (Kept.of_below HE2.out (fun k => k = g)) hk3 (fun k e_ => .inl e_)), fun _ => hb3⟩
              refine steps_cons ?_ ?_
              · rintro b a w' ⟨v_cl, v_bu, v_ap, ha, Q_HE2, Q_HO1, Q_HS, Q_HO2, Q_HI, Q_HE3, Q_HB3⟩ hb_ hon hoff
                refine ⟨_, rfl, fun K hK => ?_⟩
                have e35 : a.tmps[35]? = some (.bool rb) := by rw [ha]; exact putSel_on (e := (6, 35, .bool rb)) 4 rfl rfl (hon 6 (by kernel_rfl)) rfl
                replace ha := Aside0.mk ha
                have HI := Aside0.mk (Q_HI (hon 6 (by kernel_rfl)))
                have HE3 := Aside0.mk (Q_HE3 (hon 6 (by kernel_rfl)))
                have HB3 := Aside0.mk (Q_HB3 (hon 6 (by kernel_rfl)))
                refine value_ (w1 := w') (v := .bool rb) (by rfl) rfl ?_ ?_
                · go_simp
                  (try simp only [i64_w])
                  try rfl
                refine hK.out _ _ ⟨v_cl, v_bu, v_ap, (by rw [ha.out]; exact putSel_upk 5 hb_ rfl rfl rfl), fun h0_ => absurd ((hon 6 (by kernel_rfl)).symm.trans h0_) (by decide), fun _ h1_ => absurd ((hon 5 (by kernel_rfl)).symm.trans h1_) (by decide), fun _ h1_ => absurd ((hon 5 (by kernel_rfl)).symm.trans h1_) (by decide), fun _ h1_ => absurd ((hon 6 (by kernel_rfl)).symm.trans h1_) (by decide), Q_HI, Q_HE3, Q_HB3⟩
              exact steps_nil
            rintro b a wz hall ⟨v_cl, v_bu, v_ap, ha, Q_HE2, Q_HO1, Q_HS, Q_HO2, Q_HI, Q_HE3, Q_HB3⟩
            clear HE2
            have hb0_ := hall 0 (by kernel_rfl)
            have hb2_ := hall 2 (by kernel_rfl)
            have hb4_ := hall 4 (by kernel_rfl)
            have hb5_ := hall 5 (by kernel_rfl)
            have hb6_ := hall 6 (by kernel_rfl)
            have hb7_ := hall 7 (by kernel_rfl)
            subst ha
            simp only [putSel, hb0_, hb2_, hb4_, hb5_, hb6_, hb7_, if_true, Act.put, List.setIfInBounds_toArray, List.set_cons_zero, List.set_cons_succ]
            clear Q_HE2
            clear Q_HO1
            clear Q_HS
            clear Q_HO2
            have HI := Aside0.mk (Q_HI hb6_)
            clear Q_HI
            have HE3 := Aside0.mk (Q_HE3 hb6_)
            clear Q_HE3
            have HB3 := Aside0.mk (Q_HB3 hb6_)
            clear Q_HB3
            clear hall hb0_ hb2_ hb4_ hb5_ hb6_ hb7_
            go_wp2
            go_ret
            exact ⟨rfl, HI.out, Kept.then_ HKw.out HE3.out (fun k e_ => .inl e_), HB3.out⟩
        · rw [if_neg c4] at H
          have c4b0 : (wrap64 (n - (al.length : Int)) == 1) = false := beq_eq_false_iff_ne.mpr c4
          clear c4
          have H' := Aside0.mk H
          clear H
          go_enter Try.func56, Try.ntmps56
          go_wp2
          go_loopg [10] k (fun kq v10 w' => ∃ (st1 : Int) (x1 : Int), v10 = .int .i64 x1 ∧ Aside0 (tryS.l n kq st1 al lf x1 (wrap64 (n - (al.length : Int))) = some (rs, rb)) ∧ Aside0 (kq ≤ k) ∧ Aside0 (InvS g w0.heap.size st1 w') ∧ Aside0 (Kept w w' (fun k => k = g)) ∧ Aside0 (Below w0.heap.size w0 w'))
          case atStart => exact ⟨st, 1, (by first | rfl | (simp; done)), H', ⟨Nat.le_refl _⟩, HI0, ⟨Kept.refl _ _⟩, HBw0⟩
          case round =>
            clear H'
            obtain ⟨st1, x1, rfl, HA, HK1, HIr, HKr, HBr⟩ := hrel
            cases gk with
            | zero => exact absurd HA.out (by simp [tryS.l])
            | succ k1 =>
              have H := HA.out
              clear HA
              simp only [tryS.l] at H
              by_cases c7 : wrap64 (x1 * wrap64 (n - (al.length : Int))) ≤ lf
              · rw [if_pos c7] at H
                have c7b0 : decide (wrap64 (x1 * wrap64 (n - (al.length : Int))) ≤ lf) = true := decide_eq_true c7
                clear c7
                replace H := Option.bind_eq_some_iff.mp H
                obtain ⟨⟨st2, b2⟩, AT0, H⟩ := H
                try dsimp only at H
                have AT := Aside0.mk AT0
                clear AT0
                have HLK := Aside0.mk (show k1 ≤ KK by have := HK1.out; have := HLK0.out; omega)
                have H' := Aside0.mk H
                clear H
                go_wp2
                have HBw := Aside0.mk (below_drew1 HBr.out)
                have HIw := Aside0.mk (InvS_below HIr.out (below_drew (Below.refl _ _)))
                have HRw := Aside0.mk (Kd.R_drew (RS_kept HR0.out HKr.out))
                have HCw := Aside0.mk (CapsS_kept (CapsS_kept HC0.out hcn hct hcy HKr.out) hcn hct hcy (Kept.of_below (below_drew (Below.refl _ _)) _))
                have HKw := Aside0.mk (Kept.then_ HKr.out (Kept.of_below (w := wr) (W := wr.drew) (below_drew (Below.refl _ _)) (fun k => k = g)) (fun k e_ => .inl e_))
                refine start_ (n := 11) (S := fun w' => True) (ds := []) #[false, false, false, false, false, false, false, false, false, false, false] (by kernel_rfl) rfl rfl trivial (fun hHeld => ?_); refine with_tabW tryS.tab12 tryS.bits12 (fun HT_ HW_ => ?_)
                generalize wr.drew = w2 at HBw HIw HRw HCw HKw hHeld ⊢
                have HE2 := Aside0.mk (Below.refl w2.heap.size w2)
                refine pure_ (i := 1) (N := some 45) (v := ?_) (a' := ?_) #[false, true, false, false, false, false, false, false, false, false, false] rfl rfl (any_of HT_.out (by kernel_rfl)) (fun _ _ _ h => h) (Or.inl ⟨by rfl, ?_⟩) ?_ ?_
                rotate_left
                · intro w'
                  go_simp
                  with_reducible rfl
                rotate_left
                · simp only [Act.put, List.setIfInBounds_toArray, List.set_cons_zero, List.set_cons_succ, i64_w, i32_w]
                  rfl
                refine pure_ (i := 3) (N := some 47) (v := ?_) (a' := ?_) #[false, true, false, true, false, false, false, false, false, false, false] rfl rfl (any_of HT_.out (by kernel_rfl)) (fun _ _ _ h => h) (Or.inl ⟨by rfl, ?_⟩) ?_ ?_
                rotate_left
                · intro w'
                  go_simp
                  with_reducible rfl
                rotate_left
                · simp only [Act.put, List.setIfInBounds_toArray, List.set_cons_zero, List.set_cons_succ, i64_w, i32_w]
                  rfl
                refine pure_ (i := 6) (N := some 50) (v := ?_) (a' := ?_) #[false, true, false, true, false, false, true, false, false, false, false] rfl rfl (any_of HT_.out (by kernel_rfl)) (fun _ _ _ h => h) (Or.inl ⟨by rfl, ?_⟩) ?_ ?_
                rotate_left
                · intro w'
                  go_simp
                  with_reducible rfl
                rotate_left
                · simp only [Act.put, List.setIfInBounds_toArray, List.set_cons_zero, List.set_cons_succ, i64_w, i32_w]
                  rfl
                refine pure_ (i := 7) (N := some 51) (v := ?_) (a' := ?_) #[false, true, false, true, false, false, true, true, false, false, false] rfl rfl (any_of HT_.out (by kernel_rfl)) (fun _ _ _ h => h) (Or.inl ⟨by rfl, ?_⟩) ?_ ?_
                rotate_left
                · intro w'
                  go_simp
                  with_reducible rfl
                rotate_left
                · simp only [Act.put, List.setIfInBounds_toArray, List.set_cons_zero, List.set_cons_succ, i64_w, i32_w]
                  rfl
                refine pure_ (i := 8) (N := some 52) (v := ?_) (a' := ?_) #[false, true, false, true, false, false, true, true, true, false, false] rfl rfl (any_of HT_.out (by kernel_rfl)) (fun _ _ _ h => h) (Or.inl ⟨by rfl, ?_⟩) ?_ ?_
                rotate_left
                · intro w'
                  go_simp
                  with_reducible rfl
                rotate_left
                · simp only [Act.put, List.setIfInBounds_toArray, List.set_cons_zero, List.set_cons_succ, i64_w, i32_w]
                  rfl
                refine inv_at [0, 2, 4, 5, 9, 10] (fun a0_ b a w' => ∃ (v_cl : Value) (v_bu : Value) (v_ap : Value), a = putSel a0_ b [(0, 44, .func (.func 56) #[] #[.pointer (some ⟨cn, 0, none⟩), .pointer (some ⟨ct, 0, none⟩), .pointer (some ⟨cy, 0, none⟩)]), (2, 46, v_cl), (4, 48, v_bu), (5, 49, v_ap), (9, 53, .bool b2), (10, 54, .bool (!b2))] ∧ (b 9 = false → Below w2.heap.size w2 w') ∧ (b 2 = true → b 5 = false → Kd.R (Kd.int .i64) 3 w' w2.heap.size (fun _ => True) v_cl al) ∧ (b 4 = true → b 5 = false → Kd.R (Kd.int .i64) 3 w' w2.heap.size (fun _ => True) v_bu [x1]) ∧ (b 5 = true → b 9 = false → Kd.R (Kd.int .i64) 3 w' w2.heap.size (fun _ => True) v_ap (al ++ [x1])) ∧ (b 9 = true → InvS g w0.heap.size st2 w') ∧ (b 9 = true → Kept w2 w' (fun k => k = g)) ∧ (b 9 = true → Below w0.heap.size w0 w')) HT_.out HW_.out (by kernel_rfl) (by kernel_rfl) ?_ ?_ ?_
                · exact ⟨.bool false, .bool false, .bool false, by simp only [putSel, Bool.false_eq_true, if_false], fun _ => HE2.out, fun h_ => absurd h_ (by decide), fun h_ => absurd h_ (by decide), fun h_ => absurd h_ (by decide), fun h_ => absurd h_ (by decide), fun h_ => absurd h_ (by decide), fun h_ => absurd h_ (by decide)⟩
                · skip
                  clear HE2
                  refine steps_cons ?_ ?_
                  · rintro b a w' ⟨v_cl, v_bu, v_ap, ha, Q_HE2, Q_HO1, Q_HS, Q_HO2, Q_HI, Q_HE3, Q_HB3⟩ hb_ hon hoff
                    refine ⟨_, rfl, fun K hK => ?_⟩
                    have e4 : a.tmps[4]? = some (.pointer (some ⟨cy, 0, none⟩)) := by rw [ha]; exact (putSel_off rfl).trans rfl
                    replace ha := Aside0.mk ha
                    have HE2 := Aside0.mk (Q_HE2 (hoff 9 (by kernel_rfl)))
                    have hc0_ : w'.cell? ⟨cy, 0, none⟩ = some (.func (.func 56) #[] #[.pointer (some ⟨cn, 0, none⟩), .pointer (some ⟨ct, 0, none⟩), .pointer (some ⟨cy, 0, none⟩)]) := cell_of_one ((HE2.out.block cy (lt_of_block HCw.out.2.2)).trans HCw.out.2.2)
                    refine value_ (w1 := w') (v := .func (.func 56) #[] #[.pointer (some ⟨cn, 0, none⟩), .pointer (some ⟨ct, 0, none⟩), .pointer (some ⟨cy, 0, none⟩)]) (by rfl) rfl ?_ ?_
                    · go_simp
                      (try simp only [i64_w])
                      try rfl
                    refine hK.out _ _ ⟨v_cl, v_bu, v_ap, (by rw [ha.out]; exact putSel_upk 0 hb_ rfl rfl rfl), Q_HE2, Q_HO1, Q_HS, Q_HO2, fun h0_ => absurd ((hoff 9 (by kernel_rfl)).symm.trans h0_) (by decide), fun h0_ => absurd ((hoff 9 (by kernel_rfl)).symm.trans h0_) (by decide), fun h0_ => absurd ((hoff 9 (by kernel_rfl)).symm.trans h0_) (by decide)⟩
                  refine steps_cons ?_ ?_
                  · rintro b a w' ⟨v_cl, v_bu, v_ap, ha, Q_HE2, Q_HO1, Q_HS, Q_HO2, Q_HI, Q_HE3, Q_HB3⟩ hb_ hon hoff
                    refine ⟨_, rfl, fun K hK => ?_⟩
                    have e45 : a.tmps[45]? = some (.slice A0 al.length c0) := by rw [ha]; exact (putSel_off rfl).trans rfl
                    replace ha := Aside0.mk ha
                    have HE2 := Aside0.mk (Q_HE2 (hoff 9 (by kernel_rfl)))
                    refine goes_ Try.func46 (by kernel_rfl) rfl #[.slice A0 al.length c0] (by rfl) rfl rfl (by first | (simp only [List.map_toArray, List.map_cons, List.map_nil, Act.eval, Array.getD_eq_getD_getElem?, Option.getD_some, e45]; done) | (simp only [List.map_toArray, List.map_cons, List.map_nil, Act.eval, Array.getD_eq_getD_getElem?, Option.getD_some, e45]; rfl)) ?_
                    with_reducible refine (slices_Clone_int_int.calls A0 c0 al al w' (Kd.C_below (Kd.R_reads' HRw.out).2.2 HE2.out) (Kd.R_reads' HRw.out).2.1 HCL.out).mono ?_
                    rintro e w3 ⟨v3_, rfl, ho3, hb3⟩
                    refine ⟨_, rfl, ?_⟩
                    refine hK.out _ _ ⟨v3_, v_bu, v_ap, (by rw [ha.out]; exact putSel_upk 1 hb_ rfl rfl rfl), fun _ => (HE2.out.trans (hb3.mono HE2.out.size)), fun _ _ => (Kd.R_lower ho3 HE2.out.size), fun h0_ h1_ => (Kd.R_below (Q_HS h0_ h1_) hb3), fun h0_ _ => absurd ((hoff 5 (by kernel_rfl)).symm.trans h0_) (by decide), fun h0_ => absurd ((hoff 9 (by kernel_rfl)).symm.trans h0_) (by decide), fun h0_ => absurd ((hoff 9 (by kernel_rfl)).symm.trans h0_) (by decide), fun h0_ => absurd ((hoff 9 (by kernel_rfl)).symm.trans h0_) (by decide)⟩
                  refine steps_cons ?_ ?_
                  · rintro b a w' ⟨v_cl, v_bu, v_ap, ha, Q_HE2, Q_HO1, Q_HS, Q_HO2, Q_HI, Q_HE3, Q_HB3⟩ hb_ hon hoff
                    refine ⟨_, rfl, fun K hK => ?_⟩
                    have e47 : a.tmps[47]? = some (.int .i64 x1) := by rw [ha]; exact (putSel_off rfl).trans rfl
                    replace ha := Aside0.mk ha
                    have HE2 := Aside0.mk (Q_HE2 (hoff 9 (by kernel_rfl)))
                    refine Kd.R_lit_step (Kd.int .i64) (w0 := w2) w2.heap.size 3 (by rfl) (N := 48) rfl (xs := ([x1] : List Int)) (inner := [.int .i64 x1]) (ok := fun _ => True) (okp := fun _ => False) ?hr ?hp (fun _ hk => hk.elim) trivial HE2.out HE2.out.size (by simp) ?_
                    (case hr => first | (go_simp; done) | (go_simp; rfl))
                    (case hp => exact (Reps.one (show Kd.M (Kd.int .i64) _ _ _ _ [.int .i64 x1] from rfl) (Reps.none _ _)))
                    intro v4_ w3 ho4 hb4 hg4 hat4
                    refine hK.out _ _ ⟨v_cl, v4_, v_ap, (by rw [ha.out]; exact putSel_upk 2 hb_ rfl rfl rfl), fun _ => hb4, fun h0_ h1_ => (Kd.R_grown (Q_HO1 h0_ h1_) hg4 (fun _ _ => by simp)), fun _ _ => ho4, fun h0_ _ => absurd ((hoff 5 (by kernel_rfl)).symm.trans h0_) (by decide), fun h0_ => absurd ((hoff 9 (by kernel_rfl)).symm.trans h0_) (by decide), fun h0_ => absurd ((hoff 9 (by kernel_rfl)).symm.trans h0_) (by decide), fun h0_ => absurd ((hoff 9 (by kernel_rfl)).symm.trans h0_) (by decide)⟩
                  refine steps_cons ?_ ?_
                  · rintro b a w' ⟨v_cl, v_bu, v_ap, ha, Q_HE2, Q_HO1, Q_HS, Q_HO2, Q_HI, Q_HE3, Q_HB3⟩ hb_ hon hoff
                    refine ⟨_, rfl, fun K hK => ?_⟩
                    have e46 : a.tmps[46]? = some (v_cl) := by rw [ha]; exact putSel_on (e := (2, 46, v_cl)) 1 rfl rfl (hon 2 (by kernel_rfl)) rfl
                    have e48 : a.tmps[48]? = some (v_bu) := by rw [ha]; exact putSel_on (e := (4, 48, v_bu)) 2 rfl rfl (hon 4 (by kernel_rfl)) rfl
                    replace ha := Aside0.mk ha
                    have HE2 := Aside0.mk (Q_HE2 (hoff 9 (by kernel_rfl)))
                    have HO1 := Aside0.mk (Q_HO1 (hon 2 (by kernel_rfl)) hb_)
                    have HS := Aside0.mk (Q_HS (hon 4 (by kernel_rfl)) hb_)
                    obtain ⟨Al_, cl_, el_⟩ := Kd.R_slice HS.out
                    have hev_ := eval_of e48
                    rw [el_] at hev_
                    have hrl_ := HS.out
                    rw [el_] at hrl_
                    refine Kd.R_append_rows_step (Kd.int .i64) (Rr := (Kd.int .i64).K w') (w0 := w2) w2.heap.size (by rfl) (.tmp 46) (.tmp 48) 29 3 (.int .i64 0) 8 rfl Try.underlying29 info3 rfl (by decide) (by omega) v_cl al [x1] Al_ _ cl_ (fun _ => True) (fun _ => False) (eval_of e46) hev_ HO1.out (Kd.R_reads' hrl_).2.2 (fun _ _ h => h) (fun _ h => h.elim) (fun _ _ => trivial) HE2.out HE2.out.size HLL.out ?_
                    intro v5_ w3 ho5 hb5 hg5 hat5
                    refine hK.out _ _ ⟨v_cl, v_bu, v5_, (by rw [ha.out]; exact putSel_upk 3 hb_ rfl rfl rfl), fun _ => hb5, fun _ h1_ => absurd ((up_self b 5).symm.trans h1_) (by decide), fun _ h1_ => absurd ((up_self b 5).symm.trans h1_) (by decide), fun _ _ => ho5, fun h0_ => absurd ((hoff 9 (by kernel_rfl)).symm.trans h0_) (by decide), fun h0_ => absurd ((hoff 9 (by kernel_rfl)).symm.trans h0_) (by decide), fun h0_ => absurd ((hoff 9 (by kernel_rfl)).symm.trans h0_) (by decide)⟩
                  refine steps_cons ?_ ?_
                  · rintro b a w' ⟨v_cl, v_bu, v_ap, ha, Q_HE2, Q_HO1, Q_HS, Q_HO2, Q_HI, Q_HE3, Q_HB3⟩ hb_ hon hoff
                    refine ⟨_, rfl, fun K hK => ?_⟩
                    have e44 : a.tmps[44]? = some (.func (.func 56) #[] #[.pointer (some ⟨cn, 0, none⟩), .pointer (some ⟨ct, 0, none⟩), .pointer (some ⟨cy, 0, none⟩)]) := by rw [ha]; exact putSel_on (e := (0, 44, .func (.func 56) #[] #[.pointer (some ⟨cn, 0, none⟩), .pointer (some ⟨ct, 0, none⟩), .pointer (some ⟨cy, 0, none⟩)])) 0 rfl rfl (hon 0 (by kernel_rfl)) rfl
                    have e49 : a.tmps[49]? = some (v_ap) := by rw [ha]; exact putSel_on (e := (5, 49, v_ap)) 3 rfl rfl (hon 5 (by kernel_rfl)) rfl
                    have e52 : a.tmps[52]? = some (.int .i64 (wrap64 (lf - x1))) := by rw [ha]; exact (putSel_off rfl).trans rfl
                    replace ha := Aside0.mk ha
                    have HE2 := Aside0.mk (Q_HE2 hb_)
                    have HO2 := Aside0.mk (Q_HO2 (hon 5 (by kernel_rfl)) hb_)
                    refine goesV_S (f := 56) Try.func56 (by kernel_rfl) rfl #[.pointer (some ⟨cn, 0, none⟩), .pointer (some ⟨ct, 0, none⟩), .pointer (some ⟨cy, 0, none⟩)] #[v_ap, .int .i64 (wrap64 (lf - x1))] #[v_ap, .int .i64 (wrap64 (lf - x1)), .pointer (some ⟨cn, 0, none⟩), .pointer (some ⟨ct, 0, none⟩), .pointer (some ⟨cy, 0, none⟩)] rfl (by rfl) rfl rfl (eval_of e44) (by first | (simp only [List.map_toArray, List.map_cons, List.map_nil, Act.eval, Array.getD_eq_getD_getElem?, Option.getD_some, e44, e49, e52]; done) | (simp only [List.map_toArray, List.map_cons, List.map_nil, Act.eval, Array.getD_eq_getD_getElem?, Option.getD_some, e44, e49, e52]; rfl)) ?_
                    with_reducible refine (ih k1 HLK.out st1 (al ++ [x1]) (wrap64 (lf - x1)) st2 b2 v_ap w' (HBw.out.trans (HE2.out.mono HBw.out.size)) (CapsS_kept HCw.out hcn hct hcy (Kept.of_below HE2.out _)) (InvS_below HIw.out HE2.out) (RS_new HO2.out HBw.out.size (InvS_lt HIw.out)) AT.out).mono ?_
                    rintro e w3 ⟨rfl, hi3, hk3, hb3⟩
                    refine ⟨_, rfl, ?_⟩
                    refine hK.out _ _ ⟨v_cl, v_bu, v_ap, (by rw [ha.out]; exact putSel_upk 4 hb_ rfl rfl rfl), fun h0_ => absurd ((up_self b 9).symm.trans h0_) (by decide), fun _ h1_ => absurd ((hon 5 (by kernel_rfl)).symm.trans h1_) (by decide), fun _ h1_ => absurd ((hon 5 (by kernel_rfl)).symm.trans h1_) (by decide), fun _ h1_ => absurd ((up_self b 9).symm.trans h1_) (by decide), fun _ => hi3, fun _ => (Kept.then_ (Kept.of_below HE2.out (fun k => k = g)) hk3 (fun k e_ => .inl e_)), fun _ => hb3⟩
                  refine steps_cons ?_ ?_
                  · rintro b a w' ⟨v_cl, v_bu, v_ap, ha, Q_HE2, Q_HO1, Q_HS, Q_HO2, Q_HI, Q_HE3, Q_HB3⟩ hb_ hon hoff
                    refine ⟨_, rfl, fun K hK => ?_⟩
                    have e53 : a.tmps[53]? = some (.bool b2) := by rw [ha]; exact putSel_on (e := (9, 53, .bool b2)) 4 rfl rfl (hon 9 (by kernel_rfl)) rfl
                    replace ha := Aside0.mk ha
                    have HI := Aside0.mk (Q_HI (hon 9 (by kernel_rfl)))
                    have HE3 := Aside0.mk (Q_HE3 (hon 9 (by kernel_rfl)))
                    have HB3 := Aside0.mk (Q_HB3 (hon 9 (by kernel_rfl)))
                    refine value_ (w1 := w') (v := .bool (!b2)) (by rfl) rfl ?_ ?_
                    · go_simp
                      (try simp only [i64_w])
                      try rfl
                    refine hK.out _ _ ⟨v_cl, v_bu, v_ap, (by rw [ha.out]; exact putSel_upk 5 hb_ rfl rfl rfl), fun h0_ => absurd ((hon 9 (by kernel_rfl)).symm.trans h0_) (by decide), fun _ h1_ => absurd ((hon 5 (by kernel_rfl)).symm.trans h1_) (by decide), fun _ h1_ => absurd ((hon 5 (by kernel_rfl)).symm.trans h1_) (by decide), fun _ h1_ => absurd ((hon 9 (by kernel_rfl)).symm.trans h1_) (by decide), Q_HI, Q_HE3, Q_HB3⟩
                  exact steps_nil
                rintro b a wz hall ⟨v_cl, v_bu, v_ap, ha, Q_HE2, Q_HO1, Q_HS, Q_HO2, Q_HI, Q_HE3, Q_HB3⟩
                clear HE2
                have hb0_ := hall 0 (by kernel_rfl)
                have hb2_ := hall 2 (by kernel_rfl)
                have hb4_ := hall 4 (by kernel_rfl)
                have hb5_ := hall 5 (by kernel_rfl)
                have hb9_ := hall 9 (by kernel_rfl)
                have hb10_ := hall 10 (by kernel_rfl)
                subst ha
                simp only [putSel, hb0_, hb2_, hb4_, hb5_, hb9_, hb10_, if_true, Act.put, List.setIfInBounds_toArray, List.set_cons_zero, List.set_cons_succ]
                clear Q_HE2
                clear Q_HO1
                clear Q_HS
                clear Q_HO2
                have HI := Aside0.mk (Q_HI hb9_)
                clear Q_HI
                have HE3 := Aside0.mk (Q_HE3 hb9_)
                clear Q_HE3
                have HB3 := Aside0.mk (Q_HB3 hb9_)
                clear Q_HB3
                clear hall hb0_ hb2_ hb4_ hb5_ hb9_ hb10_
                have HK' := Aside0.mk (Kept.then_ HKw.out HE3.out (fun k e_ => .inl e_))
                have H := H'.out
                clear H'
                cases b2 with
                | true =>
                  rw [if_pos rfl] at H
                  have H' := Aside0.mk H
                  clear H
                  go_wp2
                  go_roundg k1
                  case measure => have := HK1.out; omega
                  case rel => exact ⟨st2, wrap64 (x1 + 1), (by first | rfl | (simp; done) | (simp only [i64_w]; first | done | rfl) | (simp [*]; done)), H', ⟨by have := HK1.out; omega⟩, HI, HK', HB3⟩
                | false =>
                  rw [if_neg (by decide)] at H
                  simp only [Option.some.injEq, Prod.mk.injEq] at H
                  obtain ⟨rfl, rfl⟩ := H
                  go_wp2
                  go_ret
                  exact ⟨rfl, HI.out, HK'.out, HB3.out⟩
              · rw [if_neg c7] at H
                have c7b0 : decide (wrap64 (x1 * wrap64 (n - (al.length : Int))) ≤ lf) = false := decide_eq_false c7
                clear c7
                simp only [Option.some.injEq, Prod.mk.injEq] at H
                obtain ⟨rfl, rfl⟩ := H
                go_wp2
                go_ret
                exact ⟨rfl, HIr.out, HKr.out, HBr.out⟩
theorem sharesS.calls (k g : Nat) (n p : Int) (st rs : Int) (rb : Bool) (w0 w : World) (hB : Below w0.heap.size w0 w) (hg0 : w0.heap.size ≤ g) (hI : InvS g w0.heap.size st w) (h : tryS.f n k st [] p = some (rs, rb)) :
    Calls Try.prog 39 #[.int .i64 n, .int .i64 p, (.func (.func 44) #[] #[.pointer (some ⟨g, 0, none⟩)])] w fun e w' => e = .returned (.tuple #[]) ∧ InvS g w0.heap.size rs w' ∧ Below w0.heap.size w0 w' := by
  have hmf : ∀ (fn : Fn) (first cap : Array Value) (w : World), (Instr.makeFunc fn first cap).run Try.prog w = .ok (.func fn first cap) w := fun _ _ _ _ => rfl
  have hgl := InvS_lt hI
  have hgn : w.heap.size ≠ g ∧ w.heap.size + 1 ≠ g ∧ w.heap.size + 2 ≠ g := by omega
  have hW : Below w.heap.size w (((w.alloc (.cells #[.int .i64 n] 3)).alloc (.cells #[(.func (.func 44) #[] #[.pointer (some ⟨g, 0, none⟩)])] 35)).alloc (.cells #[(.func (.func 56) #[] #[.pointer (some ⟨w.heap.size, 0, none⟩), .pointer (some ⟨w.heap.size + 1, 0, none⟩), .pointer (some ⟨w.heap.size + 2, 0, none⟩)])] 50)) := by
    refine Below.alloc (Below.alloc (Below.alloc (Below.refl _ _) (Nat.le_refl _) _) ?_ _) ?_ _
    · simp
    · simp; omega
  have HC : CapsS n g w.heap.size (w.heap.size + 1) (w.heap.size + 2) (((w.alloc (.cells #[.int .i64 n] 3)).alloc (.cells #[(.func (.func 44) #[] #[.pointer (some ⟨g, 0, none⟩)])] 35)).alloc (.cells #[(.func (.func 56) #[] #[.pointer (some ⟨w.heap.size, 0, none⟩), .pointer (some ⟨w.heap.size + 1, 0, none⟩), .pointer (some ⟨w.heap.size + 2, 0, none⟩)])] 50)) := by
    refine ⟨?_, ?_, ?_⟩
    · exact (Below.heap_alloc _ _ _ (by simp; omega)).trans ((Below.heap_alloc _ _ _ (by simp)).trans (alloc_lastS w _ 3))
    · have h1 := alloc_lastS (w.alloc (.cells #[.int .i64 n] 3)) (.func (.func 44) #[] #[.pointer (some ⟨g, 0, none⟩)]) 35
      rw [show (w.alloc (.cells #[.int .i64 n] 3)).heap.size = w.heap.size + 1 from by simp] at h1
      exact (Below.heap_alloc _ _ _ (by simp)).trans h1
    · have h1 := alloc_lastS ((w.alloc (.cells #[.int .i64 n] 3)).alloc (.cells #[(.func (.func 44) #[] #[.pointer (some ⟨g, 0, none⟩)])] 35)) (.func (.func 56) #[] #[.pointer (some ⟨w.heap.size, 0, none⟩), .pointer (some ⟨w.heap.size + 1, 0, none⟩), .pointer (some ⟨w.heap.size + 2, 0, none⟩)]) 50
      rw [show ((w.alloc (.cells #[.int .i64 n] 3)).alloc (.cells #[(.func (.func 44) #[] #[.pointer (some ⟨g, 0, none⟩)])] 35)).heap.size = w.heap.size + 2 from by simp] at h1
      exact h1
  have HI := Aside0.mk (InvS_below hI hW)
  have HBB := Aside0.mk (hB.trans (hW.mono hB.size))
  have HCC := Aside0.mk HC
  have FT := cell_of_one HC.2.2
  have HH := Aside0.mk h
  clear HC hW hI hB h
  go_enter Try.func39, Try.ntmps39
  go_wp2_with (first | (go_at_call 56; refine (tryS.calls n g w.heap.size (w.heap.size + 1) (w.heap.size + 2) w0 hg0 hgn.1 hgn.2.1 hgn.2.2 k k (Nat.le_refl _) st [] p rs rb (.slice none 0 0) _ HBB.out HCC.out HI.out (Kd.R_nil _ _ _ _ _) HH.out).mono ?_; rintro e w1 ⟨rfl, hi, hk, hb⟩))
  go_end0
  exact ⟨rfl, hi, hb⟩
def impl_PolyShares.f (k : Nat) (n p : Int) : Option (Int × Bool) := (if n < 1 then some (0, false) else (if n > 6 then some (0, false) else (if p < 0 then some (0, false) else (if p > 30 then some (0, false) else ((tryS.f n k 0 [] p).bind fun q => some (q.1, true))))))
theorem tryS.mono (n : Int) (st : Int) (al : List Int) (lf : Int) (k : Nat) : LeO (tryS.f n k st al lf) (tryS.f n (k + 1) st al lf) := (tryS.mono_l n k).1 st al lf
theorem impl_PolyShares.mono : ∀ a0 a1 k, LeO (impl_PolyShares.f k a0 a1) (impl_PolyShares.f (k + 1) a0 a1) := by
  intro n p k
  unfold impl_PolyShares.f
  exact LeO.ite (LeO.refl _) (LeO.ite (LeO.refl _) (LeO.ite (LeO.refl _) (LeO.ite (LeO.refl _) (LeO.bind (tryS.mono _ _ _ _ _) (fun _ => LeO.refl _)))))
set_option maxHeartbeats 8000000 in
set_option maxRecDepth 100000 in
theorem impl_PolyShares.calls (k : Nat) (n p : Int) (r1 : Int) (r2 : Bool) (w : World) (h : impl_PolyShares.f k n p = some (r1, r2)) :
    Calls Try.prog 16 #[.int .i64 n, .int .i64 p] w fun e w' => e = .returned (.tuple #[.int .i64 r1, .bool r2]) ∧ Below w.heap.size w w' := by
  have hmf : ∀ (fn : Fn) (first cap : Array Value) (w : World), (Instr.makeFunc fn first cap).run Try.prog w = .ok (.func fn first cap) w := fun _ _ _ _ => rfl
  unfold impl_PolyShares.f at h
  by_cases c0 : n < 1
  · rw [if_pos c0] at h
    have d0 : decide (n < 1) = true := decide_eq_true c0
    simp only [Option.some.injEq, Prod.mk.injEq] at h
    obtain ⟨rfl, rfl⟩ := h
    clear c0
    go_enter Try.func16, Try.ntmps16
    go_wp2
    go_ret2
    exact ⟨rfl, Below.refl _ _⟩
  rw [if_neg c0] at h
  have d0 : decide (n < 1) = false := decide_eq_false c0
  by_cases c1 : n > 6
  · rw [if_pos c1] at h
    have d1 : decide (6 < n) = true := decide_eq_true c1
    simp only [Option.some.injEq, Prod.mk.injEq] at h
    obtain ⟨rfl, rfl⟩ := h
    clear c0 c1
    go_enter Try.func16, Try.ntmps16
    go_wp2
    go_ret2
    exact ⟨rfl, Below.refl _ _⟩
  rw [if_neg c1] at h
  have d1 : decide (6 < n) = false := decide_eq_false c1
  by_cases c2 : p < 0
  · rw [if_pos c2] at h
    have d2 : decide (p < 0) = true := decide_eq_true c2
    simp only [Option.some.injEq, Prod.mk.injEq] at h
    obtain ⟨rfl, rfl⟩ := h
    clear c0 c1 c2
    go_enter Try.func16, Try.ntmps16
    go_wp2
    go_ret2
    exact ⟨rfl, Below.refl _ _⟩
  rw [if_neg c2] at h
  have d2 : decide (p < 0) = false := decide_eq_false c2
  by_cases c3 : p > 30
  · rw [if_pos c3] at h
    have d3 : decide (30 < p) = true := decide_eq_true c3
    simp only [Option.some.injEq, Prod.mk.injEq] at h
    obtain ⟨rfl, rfl⟩ := h
    clear c0 c1 c2 c3
    go_enter Try.func16, Try.ntmps16
    go_wp2
    go_ret2
    exact ⟨rfl, Below.refl _ _⟩
  rw [if_neg c3] at h
  have d3 : decide (30 < p) = false := decide_eq_false c3
  clear c0 c1 c2 c3
  replace h := Option.bind_eq_some_iff.mp h
  obtain ⟨⟨rs, rb⟩, A10, h⟩ := h
  try dsimp only at h
  have A1 := Aside0.mk A10
  clear A10
  simp only [Option.some.injEq, Prod.mk.injEq] at h
  obtain ⟨rfl, rfl⟩ := h
  go_enter Try.func16, Try.ntmps16
  go_wp2_with (first | (go_at_call 39; refine (sharesS.calls k w.heap.size n p 0 rs rb w _ (Below.alloc (Below.refl _ _) (Nat.le_refl _) _) (Nat.le_refl _) (alloc_lastS w _ 3) A1.out).mono ?_; rintro e w1 ⟨rfl, hi, hb⟩; have cg := cell_of_one hi; have HB2 := Aside0.mk hb))
  go_ret2
  exact ⟨rfl, HB2.out⟩

end Go.Proofs.Ytcabpamfncjoeaa.PD
