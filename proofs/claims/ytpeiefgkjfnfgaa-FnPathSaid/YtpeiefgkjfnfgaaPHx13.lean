-- written by a program of this session (wip/gen/drive.py), which calls the kit's print.py
import Derived.Test.YtpeiefgkjfnfgaaPHx0
import Derived.Test.YtpeiefgkjfnfgaaPHx4
import Derived.Test.YtpeiefgkjfnfgaaPHx12
namespace Go.Proofs.Ytpeiefgkjfnfgaa.PH
open Go.RowKit Go.Proofs.YtpeiefgkjfnfgaaW.PrintWords Go.Proofs.YtpeiefgkjfnfgaaW.PrintLast Go.Proofs.YtpeiefgkjfnfgaaW.PrintMore
attribute [local go_sem] max2_int min2_int max_two min_two max_three min_three max_four min_four   -- for this text's walks alone
set_option linter.unusedVariables false
set_option linter.unusedSimpArgs false

/-! ### impl_PathBegin: function 33 -/
theorem info_slice : (Try.prog.info? 39).map (fun i => (i.zero, i.size, i.bytes)) = some (some (.slice none 0 0), 1, 24) := by kernel_rfl
theorem info_of {e : TypeId} {z : Value} {s b : Nat} (h : (Try.prog.info? e).map (fun i => (i.zero, i.size, i.bytes)) = some (some z, s, b)) : ∃ i : TypeInfo, Try.prog.info? e = some i ∧ i.size = s := by
  obtain ⟨i, hi, hz⟩ := Option.map_eq_some_iff.1 h
  simp only [Prod.mk.injEq] at hz
  exact ⟨i, hi, hz.2.1⟩
/-- What is read as cells, and whose cells tell elements, is read as those. -/
theorem C_of_raw {w : World} {A : Option Addr} {n : Nat} {news : List (List Value)} {xs : List (List Int)} (h : Kd.C (Kd.raw 1) w A n news) (hl : news.length = xs.length) (hf : ∀ (j : Nat) (x : List Int) (c : List Value), xs[j]? = some x → news[j]? = some c → (Kd.slice 3 (Kd.int .i64)).K w x c) : Kd.C (Kd.slice 3 (Kd.int .i64)) w A n xs := by
  refine ⟨hl.symm.trans h.1, h.2.1, fun hp => ?_⟩
  obtain ⟨ad, e, hc⟩ := h.2.2 hp
  refine ⟨ad, e, fun j x hj => ?_⟩
  have hjl : j < xs.length := (List.getElem?_eq_some_iff.1 hj).1
  obtain ⟨c, h1, h2, h3⟩ := hc j _ (List.getElem?_eq_getElem (show j < news.length by omega))
  refine ⟨c, h1, ?_, h3⟩
  have h4 := hf j x _ hj (List.getElem?_eq_getElem (show j < news.length by omega))
  rw [h2.1]
  exact h4
theorem rows_V {w w1 : World} {base : Nat} {ok : Nat → Prop} {v : Value} {zs : List (List Value)} {xs : List (List Int)} (hb : Below w.heap.size w w1) (h : Kd.R (Kd.raw 1) 39 w1 base ok v zs) (hf : ∀ (j : Nat) (x : List Int) (c : List Value), xs[j]? = some x → zs[j]? = some c → (Kd.slice 3 (Kd.int .i64)).K w x c) (hl : zs.length = xs.length) : ∃ A c, v = .slice A xs.length c ∧ xs.length ≤ c ∧ Kd.C (Kd.slice 3 (Kd.int .i64)) w1 A xs.length xs := by
  obtain ⟨A, c, rfl, h1, h2⟩ := Kd.R_reads h
  exact ⟨A, c, by rw [hl], by omega, by rw [← hl]; exact C_of_raw h2 hl (fun j x c hx hc => (Kd.slice 3 (Kd.int .i64)).K_below hb (hf j x c hx hc))⟩
theorem copySteps.callsV (k : Nat) (v : Value) (l0 r : List (List Int)) (w : World) (hv : ∃ A c, v = .slice A l0.length c ∧ l0.length ≤ c ∧ Kd.C (Kd.slice 3 (Kd.int .i64)) w A l0.length l0) (h : impl_copySteps.f k l0 = some r) :
    Calls Try.prog 53 #[v] w fun e w' => ∃ v0_ : Value, e = .returned (v0_) ∧ Kd.S (Kd.slice 3 (Kd.int .i64)) 39 w' w.heap.size (fun _ => True) v0_ r ∧ Below w.heap.size w w' := by
  obtain ⟨A, c, rfl, h1, h2⟩ := hv
  exact impl_copySteps.calls k A c l0 r w h2 h1 h
set_option maxHeartbeats 8000000 in
set_option maxRecDepth 100000 in
theorem rowsClone.calls (A0 : Option Addr) (n c0 : Nat) (l0 : List (List Value)) (w : World) (hr0 : Kd.C (Kd.raw 1) w A0 n l0) (hc0 : n ≤ c0) (hl : n < 1000000000000) :
    Calls Try.prog 54 #[.slice A0 n c0] w fun e w' => ∃ v0_ : Value, e = .returned (v0_) ∧ Kd.R (Kd.raw 1) 39 w' w.heap.size (fun _ => True) v0_ l0 ∧ Below w.heap.size w w' := by
  have hn := hr0.1
  subst hn
  have HR0 := Aside0.mk hr0
  have HC0 := Aside0.mk hc0
  have HB := Aside0.mk (Below.refl w.heap.size w)
  have LM := Aside0.mk hl
  clear hl hc0
  cases A0 with
  | none =>
    have hz : l0.length = 0 := by have h3 := hr0.2.2; by_cases e : 0 < l0.length; (obtain ⟨_, h4, _⟩ := h3 e; cases h4); omega
    have hnil : l0 = [] := List.length_eq_zero_iff.mp hz
    subst hnil
    clear hz hr0
    clear HR0
    have hq := fun W => Go.Lib.run_eql_slice_nil (P := Try.prog) W 22 39 none 0 c0 0 0 Try.underlying22
    go_enter Try.func54, Try.ntmps54
    go_wp2
    go_ret
    exact ⟨_, rfl, Kd.R_nil _ _ _ _ _, Below.refl _ _⟩
  | some ad =>
    clear hr0
    have y1 : ∃ y : List (List Value), y = ([] : List (List Value)) := ⟨_, rfl⟩
    obtain ⟨y121, hy121⟩ := y1
    obtain ⟨y126, hy126⟩ : ∃ y : List (List Value), y = y121 ++ l0 := ⟨_, rfl⟩
    have hr : y126 = l0 := by rw [hy126, hy121]; simp
    have Ny121 := Aside0.mk hy121
    have Ny126 := Aside0.mk hy126
    have LMc11 : Aside0 ((y121.length + l0.length) * 24 ≤ 140737488355328) := ⟨by have := LM.out; rw [hy121]; simp only [List.length_nil]; omega⟩
    clear hy121 hy126 LM
    have hq := fun W => Go.Lib.run_eql_slice_nil (P := Try.prog) W 22 39 (some ad) l0.length c0 0 0 Try.underlying22
    have Hr := Aside0.mk hr
    clear hr
    go_enter Try.func54, Try.ntmps54
    go_wp2_with (first | ((with_reducible refine gate_dst (N := 5) rfl ?_); refine Kd.R_lit (Kd.raw 1) _ 39 ?hg (N := 5) ?hd (xs := ([] : List (List Value))) (inner := []) (ok := fun _ => True) (okp := fun _ => True) ?hr ?hp (fun _ hk => hk) trivial (Below.refl _ _) (Nat.le_refl _) (by simp) ?_; (case hd => rfl); (case hg => rfl); (case hr => first | (go_simp; done) | (go_simp; rfl)); (case hp => exact (Reps.none _ _)); intro v122 w12 ho13 hb hg_ hnew_; clear hg_ hnew_; (first | rw [← Ny121.out] at ho13 | (simp only [Int.reduceToNat] at ho13; rw [← Ny121.out] at ho13)); have n0_ := Aside0.mk (Kd.R_lower ho13 (below_size HB.out)); have n1_ := Aside0.mk (below_step HB.out hb); clear HB; have HO123 := n0_; have HB := n1_; clear n0_ n1_; clear hb ho13) | ((with_reducible refine gate_builtin (b := .append) (xs := #[.tmp 5, .tmp 6]) rfl ?_); at_builtin; refine Kd.R_append_rows (Kd.raw 1) (Rr := (Kd.raw 1).K w) (w0 := w) w.heap.size rfl (.tmp 5) (.tmp 6) 22 39 (.slice none 0 0) 24 rfl Try.underlying22 info_slice rfl (by decide) (by omega) v122 y121 l0 _ _ _ (fun _ => True) (fun _ => False) rfl rfl ?aO ?aR (fun _ _ h => h) (fun _ h => h.elim) ?aF ?aB ?aS ?aL ?_; (case aR => exact Kd.C_below HR0.out HB.out); (case aB => exact HB.out); (case aF => exact (fun _ _ => trivial)); (case aO => exact HO123.out); (case aS => exact below_size HB.out); (case aL => exact LMc11.out); intro v127 w15 ho hb hg hat; rw [← Ny126.out] at ho; have n0_ := Aside0.mk (hb); have n1_ := Aside0.mk (ho); clear HB; clear HO123; have HB := n0_; have HO128 := n1_; clear n0_ n1_; clear ho hb hg hat))
    go_ret
    exact ⟨_, by first | rfl | (simp; done), by rw [← Hr.out]; exact HO128.out, HB.out⟩
def impl_PathBegin.f (k : Nat) (l0 : List (List Int)) (a1 : Int) : Option (List (List Int) × Bool) := (impl_PathIn.f k l0).bind fun t => (if t = true then (if a1 < 0 then (some ([], false)) else (if a1 ≥ (l0.length : Int) then (some ([], false)) else (if l0.length < 1000000000 then ((impl_copySteps.f k (l0.drop a1.toNat ++ l0.take a1.toNat)).bind fun r => (some (r, true))) else (none)))) else (some ([], false)))
theorem impl_PathBegin.mono : ∀ a0 a1 k, LeO (impl_PathBegin.f k a0 a1) (impl_PathBegin.f (k + 1) a0 a1) := by
  intro a0 a1 k
  unfold impl_PathBegin.f
  exact LeO.bind (impl_PathIn.mono _ _) (fun _ => LeO.ite (LeO.ite (LeO.refl _) (LeO.ite (LeO.refl _) (LeO.ite (LeO.bind (impl_copySteps.mono _ _) (fun _ => LeO.refl _)) (LeO.none _)))) (LeO.refl _))
def impl_PathBegin.T3 : Bool × List (List Nat × List Nat) := (true, [([], []), ([], []), ([0, 1], [0, 1]), ([2], [2]), ([], []), ([], []), ([4, 5], [4, 5]), ([3, 6, 3], [3, 6]), ([7, 7], [7]), ([8, 8, 0, 1, 2, 3, 4, 5, 6, 7, 8], [8]), ([9, 0, 1, 2, 3, 4, 5, 6, 7, 8, 9], [])])
def impl_PathBegin.B3 : List Nat := [0, 0, 3, 7, 0, 0, 48, 127, 255, 511, 1023]
theorem impl_PathBegin.tab3 : rtab .any (opsOf Try.f33 3) = impl_PathBegin.T3 := by kernel_rfl
theorem impl_PathBegin.bits3 : waitsOk impl_PathBegin.T3.2 impl_PathBegin.B3 = true := by kernel_rfl
set_option maxHeartbeats 8000000 in
set_option maxRecDepth 100000 in
theorem impl_PathBegin.calls (k : Nat) (A0 : Option Addr) (c0 : Nat) (l0 : List (List Int)) (a1 : Int) (r1 : List (List Int)) (r2 : Bool) (w : World) (hr0 : Kd.C (Kd.slice 3 (Kd.int .i64)) w A0 l0.length l0) (hc0 : l0.length ≤ c0) (h : impl_PathBegin.f k l0 a1 = some (r1, r2)) :
    Calls Try.prog 33 #[.slice A0 l0.length c0, .int .i64 a1] w fun e w' => ∃ v0_ : Value, e = .returned (.tuple #[v0_, .bool r2]) ∧ Kd.S (Kd.slice 3 (Kd.int .i64)) 39 w' w.heap.size (fun _ => True) v0_ r1 ∧ Below w.heap.size w w' := by
  have HR0 := Aside0.mk hr0
  have HC0 := Aside0.mk hc0
  have HB := Aside0.mk (Below.refl w.heap.size w)
  unfold impl_PathBegin.f at h
  replace h := Option.bind_eq_some_iff.mp h
  obtain ⟨t, A20, h⟩ := h
  have A2 := Aside0.mk A20
  clear A20
  cases t with
  | false =>
    rw [if_neg (by decide)] at h
    simp only [Option.some.injEq, Prod.mk.injEq] at h
    obtain ⟨rfl, rfl⟩ := h
    go_enter Try.func33, Try.ntmps33
    go_wp2_with (first | ((with_reducible refine gate_callee (f := 16) rfl ?_); refine goesL_ (some 7) rfl rfl Try.func16 (by kernel_rfl) rfl #[.slice A0 l0.length c0] rfl (by (try simp only [List.map_toArray, List.map_cons, List.map_nil]); first | done | rfl) ?_; (with_reducible refine (impl_PathIn.calls k _ _ l0 false _ ?side1 ?side2 A2.out).mono ?_); (case side1 => exact HR0.out); (case side2 => exact HC0.out); rintro e w9 ⟨rfl, hd9⟩; refine ⟨_, rfl, ?_⟩; have n0_ := Aside0.mk (show Below w.heap.size w w9 by obtain ⟨n_, rfl⟩ := hd9; exact pw_below_drewN (Below.refl _ _) n_); clear HB hd9; have HB := n0_; clear n0_))
    go_ret2
    exact ⟨_, rfl, Kd.S_nil _ _ _ _ _, HB.out⟩
  | true =>
    rw [if_pos rfl] at h
    by_cases c1 : a1 < 0
    · rw [if_pos c1] at h
      have c1b : decide (a1 < 0) = true := decide_eq_true c1
      simp only [Option.some.injEq, Prod.mk.injEq] at h
      obtain ⟨rfl, rfl⟩ := h
      clear c1
      go_enter Try.func33, Try.ntmps33
      go_wp2_with (first | ((with_reducible refine gate_callee (f := 16) rfl ?_); refine goesL_ (some 7) rfl rfl Try.func16 (by kernel_rfl) rfl #[.slice A0 l0.length c0] rfl (by (try simp only [List.map_toArray, List.map_cons, List.map_nil]); first | done | rfl) ?_; (with_reducible refine (impl_PathIn.calls k _ _ l0 true _ ?side1 ?side2 A2.out).mono ?_); (case side1 => exact HR0.out); (case side2 => exact HC0.out); rintro e w9 ⟨rfl, hd9⟩; refine ⟨_, rfl, ?_⟩; have n0_ := Aside0.mk (show Below w.heap.size w w9 by obtain ⟨n_, rfl⟩ := hd9; exact pw_below_drewN (Below.refl _ _) n_); clear HB hd9; have HB := n0_; clear n0_))
      go_ret2
      exact ⟨_, rfl, Kd.S_nil _ _ _ _ _, HB.out⟩
    · rw [if_neg c1] at h
      have c1b : decide (a1 < 0) = false := decide_eq_false c1
      by_cases c2 : a1 ≥ (l0.length : Int)
      · rw [if_pos c2] at h
        have c2b : decide ((l0.length : Int) ≤ a1) = true := decide_eq_true c2
        simp only [Option.some.injEq, Prod.mk.injEq] at h
        obtain ⟨rfl, rfl⟩ := h
        clear c1 c2
        go_enter Try.func33, Try.ntmps33
        go_wp2_with (first | ((with_reducible refine gate_callee (f := 16) rfl ?_); refine goesL_ (some 7) rfl rfl Try.func16 (by kernel_rfl) rfl #[.slice A0 l0.length c0] rfl (by (try simp only [List.map_toArray, List.map_cons, List.map_nil]); first | done | rfl) ?_; (with_reducible refine (impl_PathIn.calls k _ _ l0 true _ ?side1 ?side2 A2.out).mono ?_); (case side1 => exact HR0.out); (case side2 => exact HC0.out); rintro e w9 ⟨rfl, hd9⟩; refine ⟨_, rfl, ?_⟩; have n0_ := Aside0.mk (show Below w.heap.size w w9 by obtain ⟨n_, rfl⟩ := hd9; exact pw_below_drewN (Below.refl _ _) n_); clear HB hd9; have HB := n0_; clear n0_))
        go_ret2
        exact ⟨_, rfl, Kd.S_nil _ _ _ _ _, HB.out⟩
      · rw [if_neg c2] at h
        have c2b : decide ((l0.length : Int) ≤ a1) = false := decide_eq_false c2
        by_cases c3 : l0.length < 1000000000
        · rw [if_pos c3] at h
          replace h := Option.bind_eq_some_iff.mp h
          obtain ⟨r, A80, h⟩ := h
          simp only [Option.some.injEq, Prod.mk.injEq] at h
          obtain ⟨rfl, rfl⟩ := h
          obtain ⟨news, hnl, hnr, hnf⟩ := Kd.reads_raw (W := w) hr0 (fun x c hk => ⟨(Kd.slice 3 (Kd.int .i64)).K_len hk, (Kd.slice 3 (Kd.int .i64)).K_one hk⟩)
          obtain ⟨i0, hi0, hi1⟩ := info_of info_slice
          have hj : (a1.toNat : Int) = a1 := Int.toNat_of_nonneg (by omega)
          have hlt : a1.toNat ≤ l0.length := by omega
          have hnr' : Kd.C (Kd.raw 1) w A0 news.length news := by rw [hnl]; exact hnr
          obtain ⟨A1, hA1⟩ : ∃ A1, A1 = (if c0 = a1.toNat then A0 else A0.map (·.add (a1.toNat * 1))) := ⟨_, rfl⟩
          obtain ⟨n1, hn1⟩ : ∃ n1, n1 = l0.length - a1.toNat := ⟨_, rfl⟩
          obtain ⟨c1_, hc1⟩ : ∃ c1_, c1_ = c0 - a1.toNat := ⟨_, rfl⟩
          obtain ⟨n2, hn2⟩ : ∃ n2, n2 = a1.toNat := ⟨_, rfl⟩
          have hsl1 : ∀ W : World, (Instr.slice 22 (.slice A0 l0.length c0) (some (.int .i64 a1)) none none).run Try.prog W = .ok (.slice A1 n1 c1_) W := by
            rw [hA1, hn1, hc1]
            exact cut_from 22 39 .i64 Try.underlying22 hi0 1 hi1 A0 l0.length c0 a1 (by omega) (by omega)
          have hsl2 : ∀ W : World, (Instr.slice 22 (.slice A0 l0.length c0) none (some (.int .i64 a1)) none).run Try.prog W = .ok (.slice A0 n2 c0) W := by
            rw [hn2]
            exact cut_to 22 39 .i64 Try.underlying22 hi0 A0 l0.length c0 a1 (by omega) (by omega) hc0
          obtain ⟨zs1, hz1⟩ : ∃ zs1, zs1 = news.drop a1.toNat := ⟨_, rfl⟩
          obtain ⟨zs2, hz2⟩ : ∃ zs2, zs2 = news.take a1.toNat := ⟨_, rfl⟩
          obtain ⟨lst, hlst⟩ : ∃ lst, lst = l0.drop a1.toNat ++ l0.take a1.toNat := ⟨_, rfl⟩
          have HZ1 : Aside0 (Kd.C (Kd.raw 1) w A1 n1 zs1) := ⟨by
            have h1 := Kd.C_drop (c := c0) (m := a1.toNat) hnr' (by omega) (by omega)
            rw [hA1, hn1, hz1, ← hnl]
            have e : (news.drop a1.toNat).length = news.length - a1.toNat := List.length_drop
            rw [e] at h1
            exact h1⟩
          have HZ2 : Aside0 (Kd.C (Kd.raw 1) w A0 n2 zs2) := ⟨by
            have h1 := Kd.C_take (m := a1.toNat) hnr' (by omega)
            rw [hn2, hz2]
            have e : (news.take a1.toNat).length = a1.toNat := by rw [List.length_take]; omega
            rw [e] at h1
            exact h1⟩
          have HN1 := Aside0.mk (show n1 ≤ c1_ by omega)
          have HL1 := Aside0.mk (show n1 < 1000000000000 by omega)
          have HLL := Aside0.mk (show (zs1.length + n2) * 24 ≤ 140737488355328 by rw [hz1, hn2, List.length_drop]; omega)
          have HFL := Aside0.mk (show (zs1 ++ zs2).length = lst.length by rw [hz1, hz2, hlst]; simp only [List.length_append, List.length_drop, List.length_take]; omega)
          have HF : Aside0 (∀ (j : Nat) (x : List Int) (c : List Value), lst[j]? = some x → (zs1 ++ zs2)[j]? = some c → (Kd.slice 3 (Kd.int .i64)).K w x c) := ⟨by
            intro j x c hx hc
            rw [hlst] at hx
            rw [hz1, hz2] at hc
            rcases Nat.lt_or_ge j (l0.length - a1.toNat) with q | q
            · rw [List.getElem?_append_left (by rw [List.length_drop]; exact q), List.getElem?_drop] at hx
              rw [List.getElem?_append_left (by rw [List.length_drop]; omega), List.getElem?_drop] at hc
              exact hnf _ x c hx hc
            · rw [List.getElem?_append_right (by rw [List.length_drop]; exact q), List.length_drop, List.getElem?_take] at hx
              rw [List.getElem?_append_right (by rw [List.length_drop]; omega), List.length_drop, List.getElem?_take, hnl] at hc
              split at hx
              · rename_i q2
                rw [if_pos q2] at hc
                exact hnf _ x c hx hc
              · cases hx⟩
          have A8 : Aside0 (impl_copySteps.f k lst = some r) := ⟨by rw [hlst]; exact A80⟩
          clear A80 hnl hnr hnr' hnf hA1 hn1 hc1 hn2 hz1 hz2 hlst hj hlt hi0 hi1 c1 c2 c3 hr0 hc0
          go_enter Try.func33, Try.ntmps33
          go_wp2_with (first | ((with_reducible refine gate_callee (f := 16) rfl ?_); refine goesL_ (some 7) rfl rfl Try.func16 (by kernel_rfl) rfl #[.slice A0 l0.length c0] rfl (by (try simp only [List.map_toArray, List.map_cons, List.map_nil]); first | done | rfl) ?_; (with_reducible refine (impl_PathIn.calls k _ _ l0 true _ ?side1 ?side2 A2.out).mono ?_); (case side1 => exact HR0.out); (case side2 => exact HC0.out); rintro e w9 ⟨rfl, hd9⟩; refine ⟨_, rfl, ?_⟩; have n0_ := Aside0.mk (show Below w.heap.size w w9 by obtain ⟨n_, rfl⟩ := hd9; exact pw_below_drewN (Below.refl _ _) n_); clear HB hd9; have HB := n0_; clear n0_))
          rename World => w1
          have n0_ := Aside0.mk (below_drew1 HB.out)
          clear HB
          have HB := n0_
          clear n0_
          refine start_ (n := 11) (S := fun w' => True) (ds := []) #[false, false, false, false, false, false, false, false, false, false, false] (by kernel_rfl) rfl rfl trivial (fun hHeld => ?_); refine with_tabW impl_PathBegin.tab3 impl_PathBegin.bits3 (fun HT_ HW_ => ?_)
          generalize w1.drew = w2 at HB hHeld ⊢
          refine pure_ (i := 0) (N := some 19) (v := ?_) (a' := ?_) #[true, false, false, false, false, false, false, false, false, false, false] rfl rfl (any_of HT_.out (by kernel_rfl)) (fun _ _ _ h => h) (Or.inl ⟨by rfl, ?_⟩) ?_ ?_
          rotate_left
          · intro w'
            go_simp
            with_reducible rfl
          rotate_left
          · simp only [Act.put, List.setIfInBounds_toArray, List.set_cons_zero, List.set_cons_succ, i64_w, i32_w]
            rfl
          refine pure_ (i := 1) (N := some 20) (v := ?_) (a' := ?_) #[true, true, false, false, false, false, false, false, false, false, false] rfl rfl (any_of HT_.out (by kernel_rfl)) (fun _ _ _ h => h) (Or.inl ⟨by rfl, ?_⟩) ?_ ?_
          rotate_left
          · intro w'
            go_simp
            with_reducible rfl
          rotate_left
          · simp only [Act.put, List.setIfInBounds_toArray, List.set_cons_zero, List.set_cons_succ, i64_w, i32_w]
            rfl
          refine pure_ (i := 2) (N := some 21) (v := ?_) (a' := ?_) #[true, true, true, false, false, false, false, false, false, false, false] rfl rfl (any_of HT_.out (by kernel_rfl)) (fun _ _ _ h => h) (Or.inl ⟨by rfl, ?_⟩) ?_ ?_
          rotate_left
          · intro w'
            go_simp
            with_reducible rfl
          rotate_left
          · simp only [Act.put, List.setIfInBounds_toArray, List.set_cons_zero, List.set_cons_succ, i64_w, i32_w]
            rfl
          refine pure_ (i := 4) (N := some 23) (v := ?_) (a' := ?_) #[true, true, true, false, true, false, false, false, false, false, false] rfl rfl (any_of HT_.out (by kernel_rfl)) (fun _ _ _ h => h) (Or.inl ⟨by rfl, ?_⟩) ?_ ?_
          rotate_left
          · intro w'
            go_simp
            with_reducible rfl
          rotate_left
          · simp only [Act.put, List.setIfInBounds_toArray, List.set_cons_zero, List.set_cons_succ, i64_w, i32_w]
            rfl
          refine pure_ (i := 5) (N := some 24) (v := ?_) (a' := ?_) #[true, true, true, false, true, true, false, false, false, false, false] rfl rfl (any_of HT_.out (by kernel_rfl)) (fun _ _ _ h => h) (Or.inl ⟨by rfl, ?_⟩) ?_ ?_
          rotate_left
          · intro w'
            go_simp
            with_reducible rfl
          rotate_left
          · simp only [Act.put, List.setIfInBounds_toArray, List.set_cons_zero, List.set_cons_succ, i64_w, i32_w]
            rfl
          refine pure_ (i := 6) (N := some 25) (v := ?_) (a' := ?_) #[true, true, true, false, true, true, true, false, false, false, false] rfl rfl (any_of HT_.out (by kernel_rfl)) (fun _ _ _ h => h) (Or.inl ⟨by rfl, ?_⟩) ?_ ?_
          rotate_left
          · intro w'
            go_simp
            with_reducible rfl
          rotate_left
          · simp only [Act.put, List.setIfInBounds_toArray, List.set_cons_zero, List.set_cons_succ, i64_w, i32_w]
            rfl
          refine inv_at [3, 7, 8, 9, 10] (fun a0_ b a w' => ∃ (v22 : Value) (v26 : Value) (v27 : Value) (m9_ : Value), a = putSel a0_ b [(3, 22, v22), (7, 26, v26), (8, 27, v27), (9, 4, m9_), (10, 5, .bool true)] ∧ (Below w.heap.size w w') ∧ (b 3 = true → b 7 = false → Kd.R (Kd.raw 1) 39 w' w.heap.size (fun _ => True) v22 zs1) ∧ (b 7 = true → b 8 = false → Kd.R (Kd.raw 1) 39 w' w.heap.size (fun _ => True) v26 (zs1 ++ zs2)) ∧ (b 8 = true → Kd.S (Kd.slice 3 (Kd.int .i64)) 39 w' w.heap.size (fun _ => True) v27 r) ∧ (b 9 = true → (m9_ : Value) = v27)) HT_.out HW_.out (by kernel_rfl) (by kernel_rfl) ?_ ?_ ?_
          · exact ⟨.bool false, .bool false, .bool false, .bool false, by simp only [putSel, Bool.false_eq_true, if_false], HB.out, fun h_ => absurd h_ (by decide), fun h_ => absurd h_ (by decide), fun h_ => absurd h_ (by decide), fun h_ => absurd h_ (by decide)⟩
          · skip
            clear HB
            refine steps_cons ?_ ?_
            · rintro b a w' ⟨v22, v26, v27, m9_, ha, Q_HB, Q_HO1, Q_HO2, Q_HO3, Q_X9_⟩ hb_ hon hoff
              refine ⟨_, rfl, fun K hK => ?_⟩
              have e21 : a.tmps[21]? = some (.slice A1 n1 c1_) := by rw [ha]; exact (putSel_off rfl).trans rfl
              replace ha := Aside0.mk ha
              have HB := Aside0.mk Q_HB
              refine goes_ Try.func54 (by kernel_rfl) rfl #[.slice A1 n1 c1_] (by rfl) rfl rfl (by first | (simp only [List.map_toArray, List.map_cons, List.map_nil, Act.eval, Array.getD_eq_getD_getElem?, Option.getD_some, e21]; done) | (simp only [List.map_toArray, List.map_cons, List.map_nil, Act.eval, Array.getD_eq_getD_getElem?, Option.getD_some, e21]; rfl)) ?_
              with_reducible refine (rowsClone.calls A1 n1 c1_ zs1 w' (Kd.C_below HZ1.out HB.out) HN1.out HL1.out).mono ?_
              rintro e w3 ⟨v3_, rfl, ho3, hb3⟩
              refine ⟨_, rfl, ?_⟩
              refine hK.out _ _ ⟨v3_, v26, v27, m9_, (by rw [ha.out]; exact putSel_upk 0 hb_ rfl rfl rfl), (HB.out.trans (hb3.mono HB.out.size)), fun _ _ => (Kd.R_lower ho3 HB.out.size), fun h0_ _ => absurd ((hoff 7 (by kernel_rfl)).symm.trans h0_) (by decide), fun h0_ => absurd ((hoff 8 (by kernel_rfl)).symm.trans h0_) (by decide), fun h0_ => absurd ((hoff 9 (by kernel_rfl)).symm.trans h0_) (by decide)⟩
            refine steps_cons ?_ ?_
            · rintro b a w' ⟨v22, v26, v27, m9_, ha, Q_HB, Q_HO1, Q_HO2, Q_HO3, Q_X9_⟩ hb_ hon hoff
              refine ⟨_, rfl, fun K hK => ?_⟩
              have e22 : a.tmps[22]? = some (v22) := by rw [ha]; exact putSel_on (e := (3, 22, v22)) 0 rfl rfl (hon 3 (by kernel_rfl)) rfl
              have e25 : a.tmps[25]? = some (.slice A0 n2 c0) := by rw [ha]; exact (putSel_off rfl).trans rfl
              replace ha := Aside0.mk ha
              have HB := Aside0.mk Q_HB
              have HO1 := Aside0.mk (Q_HO1 (hon 3 (by kernel_rfl)) hb_)
              refine Kd.R_append_rows_step (Kd.raw 1) (Rr := (Kd.raw 1).K w') (w0 := w) w.heap.size (by rfl) (.tmp 22) (.tmp 25) 22 39 (.slice none 0 0) 24 rfl Try.underlying22 info_slice rfl (by decide) (by omega) v22 zs1 zs2 A0 n2 c0 (fun _ => True) (fun _ => False) (eval_of e22) (eval_of e25) HO1.out (Kd.C_below HZ2.out HB.out) (fun _ _ h => h) (fun _ h => h.elim) (fun _ _ => trivial) HB.out HB.out.size HLL.out ?_
              intro v7_ w3 ho7 hb7 hg7 hat7
              refine hK.out _ _ ⟨v22, v7_, v27, m9_, (by rw [ha.out]; exact putSel_upk 1 hb_ rfl rfl rfl), hb7, fun _ h1_ => absurd ((up_self b 7).symm.trans h1_) (by decide), fun _ _ => ho7, fun h0_ => absurd ((hoff 8 (by kernel_rfl)).symm.trans h0_) (by decide), fun h0_ => absurd ((hoff 9 (by kernel_rfl)).symm.trans h0_) (by decide)⟩
            refine steps_cons ?_ ?_
            · rintro b a w' ⟨v22, v26, v27, m9_, ha, Q_HB, Q_HO1, Q_HO2, Q_HO3, Q_X9_⟩ hb_ hon hoff
              refine ⟨_, rfl, fun K hK => ?_⟩
              have e26 : a.tmps[26]? = some (v26) := by rw [ha]; exact putSel_on (e := (7, 26, v26)) 1 rfl rfl (hon 7 (by kernel_rfl)) rfl
              replace ha := Aside0.mk ha
              have HB := Aside0.mk Q_HB
              have HO2 := Aside0.mk (Q_HO2 (hon 7 (by kernel_rfl)) hb_)
              refine goes_ Try.func53 (by kernel_rfl) rfl #[v26] (by rfl) rfl rfl (by first | (simp only [List.map_toArray, List.map_cons, List.map_nil, Act.eval, Array.getD_eq_getD_getElem?, Option.getD_some, e26]; done) | (simp only [List.map_toArray, List.map_cons, List.map_nil, Act.eval, Array.getD_eq_getD_getElem?, Option.getD_some, e26]; rfl)) ?_
              with_reducible refine (copySteps.callsV k v26 lst r w' (rows_V HB.out HO2.out HF.out HFL.out) A8.out).mono ?_
              rintro e w3 ⟨v8_, rfl, ho8, hb8⟩
              refine ⟨_, rfl, ?_⟩
              refine hK.out _ _ ⟨v22, v26, v8_, m9_, (by rw [ha.out]; exact putSel_upk 2 hb_ rfl rfl rfl), (HB.out.trans (hb8.mono HB.out.size)), fun _ h1_ => absurd ((hon 7 (by kernel_rfl)).symm.trans h1_) (by decide), fun _ h1_ => absurd ((up_self b 8).symm.trans h1_) (by decide), fun _ => (Kd.S_lower ho8 HB.out.size), fun h0_ => absurd ((hoff 9 (by kernel_rfl)).symm.trans h0_) (by decide)⟩
            refine steps_cons ?_ ?_
            · rintro b a w' ⟨v22, v26, v27, m9_, ha, Q_HB, Q_HO1, Q_HO2, Q_HO3, Q_X9_⟩ hb_ hon hoff
              refine ⟨_, rfl, fun K hK => ?_⟩
              have e27 : a.tmps[27]? = some (v27) := by rw [ha]; exact putSel_on (e := (8, 27, v27)) 2 rfl rfl (hon 8 (by kernel_rfl)) rfl
              replace ha := Aside0.mk ha
              have HB := Aside0.mk Q_HB
              have HO3 := Aside0.mk (Q_HO3 (hon 8 (by kernel_rfl)))
              refine value_ (w1 := w') (v := v27) (by rfl) rfl ?_ ?_
              · go_simp
                (try simp only [i64_w])
                try rfl
              refine hK.out _ _ ⟨v22, v26, v27, (v27), (by rw [ha.out]; exact putSel_upk 3 hb_ rfl rfl rfl), Q_HB, fun _ h1_ => absurd ((hon 7 (by kernel_rfl)).symm.trans h1_) (by decide), fun _ h1_ => absurd ((hon 8 (by kernel_rfl)).symm.trans h1_) (by decide), Q_HO3, fun _ => rfl⟩
            refine steps_cons ?_ ?_
            · rintro b a w' ⟨v22, v26, v27, m9_, ha, Q_HB, Q_HO1, Q_HO2, Q_HO3, Q_X9_⟩ hb_ hon hoff
              refine ⟨_, rfl, fun K hK => ?_⟩
              replace ha := Aside0.mk ha
              have HB := Aside0.mk Q_HB
              have HO3 := Aside0.mk (Q_HO3 (hon 8 (by kernel_rfl)))
              refine value_ (w1 := w') (v := .bool true) (by rfl) rfl ?_ ?_
              · go_simp
                (try simp only [i64_w])
                try rfl
              refine hK.out _ _ ⟨v22, v26, v27, m9_, (by rw [ha.out]; exact putSel_upk 4 hb_ rfl rfl rfl), Q_HB, fun _ h1_ => absurd ((hon 7 (by kernel_rfl)).symm.trans h1_) (by decide), fun _ h1_ => absurd ((hon 8 (by kernel_rfl)).symm.trans h1_) (by decide), Q_HO3, Q_X9_⟩
            exact steps_nil
          rintro b a wz hall ⟨v22, v26, v27, m9_, ha, Q_HB, Q_HO1, Q_HO2, Q_HO3, Q_X9_⟩
          clear HB
          have hb3_ := hall 3 (by kernel_rfl)
          have hb7_ := hall 7 (by kernel_rfl)
          have hb8_ := hall 8 (by kernel_rfl)
          have hb9_ := hall 9 (by kernel_rfl)
          have hb10_ := hall 10 (by kernel_rfl)
          subst ha
          obtain rfl := Q_X9_ hb9_
          simp only [putSel, hb3_, hb7_, hb8_, hb9_, hb10_, if_true, Act.put, List.setIfInBounds_toArray, List.set_cons_zero, List.set_cons_succ]
          have HB := Aside0.mk Q_HB
          clear Q_HB
          clear Q_HO1
          clear Q_HO2
          have HO3 := Aside0.mk (Q_HO3 hb8_)
          clear Q_HO3
          clear hall hb3_ hb7_ hb8_ hb9_ hb10_
          go_wp2
          go_ret2
          exact ⟨_, rfl, HO3.out, HB.out⟩
        · rw [if_neg c3] at h
          exact absurd h (by simp)

end Go.Proofs.Ytpeiefgkjfnfgaa.PH
