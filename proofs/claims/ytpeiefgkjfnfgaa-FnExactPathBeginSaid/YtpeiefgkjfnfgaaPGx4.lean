-- written by a program of this session (wip/gen/drive.py), which calls the kit's print.py
import Derived.Test.YtpeiefgkjfnfgaaPGx0
import Derived.Test.YtpeiefgkjfnfgaaPGx3
namespace Go.Proofs.Ytpeiefgkjfnfgaa.PG
open Go.RowKit Go.Proofs.YtpeiefgkjfnfgaaW.PrintWords Go.Proofs.YtpeiefgkjfnfgaaW.PrintLast Go.Proofs.YtpeiefgkjfnfgaaW.PrintMore
attribute [local go_sem] max2_int min2_int max_two min_two max_three min_three max_four min_four   -- for this text's walks alone
set_option linter.unusedVariables false
set_option linter.unusedSimpArgs false

/-! ### laws_markIntSS: function 26 -/
def laws_markIntSS.l0 : Nat → List (List Int) → Int → Int → Option (Int × List (List Int))
  | 0, _, _, _ => none
  | k + 1, x0, x1, x5 => if x5 < (x0.length : Int) then (if 0 ≤ x5 then ((laws_markIntS.f k (rd_L1 x0 x5) x1).bind fun bt => laws_markIntSS.l0 k (x0.set (x5 : Int).toNat bt.2) bt.1 (wrap64 (x5 + 1))) else (none)) else (some (x1, x0))
def laws_markIntSS.f (k : Nat) (l0 : List (List Int)) (a1 : Int) : Option (Int × List (List Int)) := laws_markIntSS.l0 k l0 a1 0
theorem laws_markIntSS.mono_l : ∀ k, (∀ y0 y1 y2, LeO (laws_markIntSS.l0 k y0 y1 y2) (laws_markIntSS.l0 (k + 1) y0 y1 y2))
  | 0 => fun _ _ _ r h => by simp [laws_markIntSS.l0] at h
  | k + 1 => by
    have ih0 := laws_markIntSS.mono_l k
    intro y0 y1 y2
    unfold laws_markIntSS.l0
    exact LeO.ite (LeO.ite (LeO.bind (laws_markIntS.mono _ _ _) (fun _ => ih0 _ _ _)) (LeO.none _)) (LeO.refl _)
theorem laws_markIntSS.mono : ∀ a0 a1 k, LeO (laws_markIntSS.f k a0 a1) (laws_markIntSS.f (k + 1) a0 a1) := by
  intro a0 a1 k
  exact laws_markIntSS.mono_l k _ _ _
set_option maxHeartbeats 8000000 in
set_option maxRecDepth 100000 in
theorem laws_markIntSS.calls2 (k : Nat) (P0_ : Nat → Prop) (u9000_ : Value) (l0 : List (List Int)) (a1 : Int) (r1 : Int) (r2 : List (List Int)) (w0 w : World) (hB : Below w0.heap.size w0 w) (ho0 : Kd.S (Kd.slice 3 (Kd.int .i64)) 39 w w0.heap.size P0_ u9000_ l0) (h : laws_markIntSS.f k l0 a1 = some (r1, r2)) :
    Calls Try.prog 26 #[u9000_, .int .i64 a1] w fun e w' => e = .returned (.int .i64 r1) ∧ Kd.S (Kd.slice 3 (Kd.int .i64)) 39 w' w0.heap.size P0_ u9000_ r2 ∧ Below w0.heap.size w0 w' ∧ Kept w w' (fun k_ => P0_ k_) := by
  have HO0 := Aside0.mk ho0
  have HK := Aside0.mk (Kept.refl w (fun k_ => P0_ k_))
  have HB := Aside0.mk hB
  clear hB ho0
  have H : (laws_markIntSS.l0 k l0 a1 0) = some (r1, r2) := h
  clear h
  have H' := Aside0.mk H
  clear H
  go_enter Try.func26, Try.ntmps26
  go_wp2
  go_loopg [1, 5] k (fun kq v1 v5 w' => ∃ (x0_1 : List (List Int)) (x1_1 : Int) (x5_1 : Int), v1 = .int .i64 x1_1 ∧ v5 = .int .i64 x5_1 ∧ Aside0 (laws_markIntSS.l0 kq x0_1 x1_1 x5_1 = some (r1, r2)) ∧ Aside0 (kq ≤ k) ∧ Aside0 (Kd.S (Kd.slice 3 (Kd.int .i64)) 39 w' w0.heap.size P0_ u9000_ x0_1) ∧ Aside0 (Kept w w' (fun k_ => P0_ k_)) ∧ Aside0 (Below w0.heap.size w0 w'))
  case atStart => exact ⟨(l0), (a1), (0), (by first | rfl | (simp; done)), (by first | rfl | (simp; done)), H', ⟨Nat.le_refl _⟩, HO0, HK, HB⟩
  case round =>
    clear H'
    try clear HO0 HK HB
    obtain ⟨x0_1, x1_1, x5_1, rfl, rfl, HA, HK1, HO_0, HK, HB⟩ := hrel
    cases gk with
    | zero => exact absurd HA.out (by simp [laws_markIntSS.l0])
    | succ k1 =>
      have H := HA.out
      clear HA
      simp only [laws_markIntSS.l0] at H
      by_cases c3 : x5_1 < (x0_1.length : Int)
      · rw [if_pos c3] at H
        have c3b0 : decide (x5_1 < (x0_1.length : Int)) = true := decide_eq_true c3
        by_cases c4 : 0 ≤ x5_1
        · rw [if_pos c4] at H
          have c4b0 : decide (0 ≤ x5_1) = true := decide_eq_true c4
          replace H := Option.bind_eq_some_iff.mp H
          obtain ⟨⟨t1, t2⟩, A50, H⟩ := H
          replace H : (laws_markIntSS.l0 k1 (x0_1.set (x5_1 : Int).toNat t2) t1 (wrap64 (x5_1 + 1))) = some (r1, r2) := H
          have A5 := Aside0.mk (show laws_markIntS.f k1 (x0_1.getD (x5_1 : Int).toNat ([] : List Int)) x1_1 = some (t1, t2) from A50)
          clear A50
          have H' := Aside0.mk H
          clear H
          obtain ⟨go5, co5, eo5, gb5, gl5, HG5⟩ := Kd.S_form HO_0.out (by omega)
          subst eo5
          have p5 : 0 ≤ (x5_1 : Int) := c4
          have q5 : (x5_1 : Int) < ((x0_1.length : Int) : Int) := c3
          obtain ⟨oki, ce, hcl, hMe, hcc, hok, hHH⟩ := Kd.S_lend HO_0.out ([] : List Int) (x5_1 : Int) c4 (by omega)
          obtain ⟨ve, rfl, hRe⟩ := hMe
          have hx5 : wr.cell? ⟨go5, (x5_1 : Int).toNat, none⟩ = some ve := by
            have h_ := hcc 0 ve rfl
            have e_ : (x5_1 : Int).toNat * (Kd.slice 3 (Kd.int .i64)).sz + 0 = (x5_1 : Int).toNat := Nat.mul_one _
            rw [e_] at h_
            exact h_
          have HRe := Aside0.mk hRe
          have HHH := Aside0.mk hHH
          have HOK := Aside0.mk hok
          clear hRe hHH hok hcc hcl c3 c4 HG5 gb5 gl5 HO_0
          replace p5 := eq_true p5
          replace q5 := eq_true q5
          go_wp2_with (first | ((with_reducible refine gate_callee (f := 49) rfl ?_); refine goesL_ (some 17) rfl rfl Try.func49 (by kernel_rfl) rfl #[ve, .int .i64 x1_1] rfl (by (try simp only [List.map_toArray, List.map_cons, List.map_nil]); first | done | rfl) ?_; (with_reducible refine (laws_markIntS.calls k1 oki ve (x0_1.getD (x5_1 : Int).toNat []) x1_1 t1 t2 w0 _ ?side1 ?side2 A5.out).mono ?_); (case side1 => exact HB.out); (case side2 => exact HRe.out); rintro e w8 ⟨rfl, hy0, hb, hkp⟩; refine ⟨_, rfl, ?_⟩; have n0_ := Aside0.mk (Kd.H_back (Kd.H_step HHH.out (fun k_ h1_ h2_ h3_ => hkp.2 k_ h3_ h2_)) (x' := t2) (okp := oki) ⟨ve, rfl, Kd.R_reok rfl hy0 (fun k_ e_ => HRe.out.1 k_ e_)⟩ (fun k_ h_ => h_)); have n1_ := Aside0.mk hb; have n2_ := Aside0.mk (Kept.then_ HK.out hkp (fun k_ h_ => .inl (HOK.out k_ h_).1)); clear HHH HB HK; have HO_0 := n0_; have HB := n1_; have HK := n2_; clear n0_ n1_ n2_ hb hkp hy0))
          go_roundg k1
          case measure => have := HK1.out; omega
          case rel => exact ⟨_, (t1), (wrap64 (x5_1 + 1)), (by first | rfl | (simp; done)), (by first | rfl | (simp; done) | (simp only [i64_w]; first | done | rfl) | (simp [*]; done)), H', ⟨by have := HK1.out; omega⟩, HO_0, HK, HB⟩
        · rw [if_neg c4] at H
          exact absurd H (by simp)
      · rw [if_neg c3] at H
        have c3b0 : decide (x5_1 < (x0_1.length : Int)) = false := decide_eq_false c3
        clear c3
        simp only [Option.some.injEq, Prod.mk.injEq] at H
        obtain ⟨rfl, rfl⟩ := H
        obtain ⟨Ao9, co9, eo9⟩ := Kd.S_slice HO_0.out
        subst eo9
        go_wp2
        go_ret
        exact ⟨rfl, HO_0.out, HB.out, HK.out⟩
theorem laws_markIntSS.calls (k : Nat) (P0_ : Nat → Prop) (u9000_ : Value) (l0 : List (List Int)) (a1 : Int) (r1 : Int) (r2 : List (List Int)) (w0 w : World) (hB : Below w0.heap.size w0 w) (ho0 : Kd.S (Kd.slice 3 (Kd.int .i64)) 39 w w0.heap.size P0_ u9000_ l0) (h : laws_markIntSS.f k l0 a1 = some (r1, r2)) :
    Calls Try.prog 26 #[u9000_, .int .i64 a1] w fun e w' => e = .returned (.int .i64 r1) ∧ Kd.S (Kd.slice 3 (Kd.int .i64)) 39 w' w0.heap.size (fun k_ => (P0_ k_ ∨ w.heap.size ≤ k_)) u9000_ r2 ∧ Below w0.heap.size w0 w' ∧ Kept w w' (fun k_ => P0_ k_) := by
  refine (laws_markIntSS.calls2 k P0_ u9000_ l0 a1 r1 r2 w0 w hB ho0 h).mono ?_
  rintro e w' ⟨rfl, h1, h2, h3⟩
  exact ⟨rfl, Kd.S_mono h1 (fun k_ h_ => .inl h_), h2, h3⟩
/-! Rows of rows that were made one behind the other: each lies in an interval of blocks of its own. -/
def IvR (B : Nat) (w : World) (q : Nat × Nat × Value × List (List Int)) : Prop := B ≤ q.1 ∧ q.2.1 ≤ w.heap.size ∧ Kd.S (Kd.slice 3 (Kd.int .i64)) 39 w B (fun k => q.1 ≤ k ∧ k < q.2.1) q.2.2.1 q.2.2.2
def St (w0 w : World) (rows : List (Nat × Nat × Value × List (List Int))) : Prop := Below w0.heap.size w0 w ∧ (∀ (i : Nat) q, rows[i]? = some q → IvR w0.heap.size w q) ∧ ∀ (i j : Nat) a b, i < j → rows[i]? = some a → rows[j]? = some b → b.2.1 ≤ a.1
theorem St_start (w : World) : St w w [] := ⟨Below.refl _ _, fun i q h => by simp at h, fun i j a b _ h => by simp at h⟩
theorem St_same {w0 w w1 : World} {rows : List (Nat × Nat × Value × List (List Int))} (h : St w0 w rows) (hb : Below w.heap.size w w1) : St w0 w1 rows := by
  refine ⟨h.1.trans (hb.mono h.1.size), fun i q hq => ?_, h.2.2⟩
  obtain ⟨h1, h2, h3⟩ := h.2.1 i q hq
  exact ⟨h1, Nat.le_trans h2 hb.size, Kd.S_below h3 hb⟩
theorem St_drawn {w0 w w1 : World} {rows : List (Nat × Nat × Value × List (List Int))} (h : St w0 w rows) (hd : Drawn0 w w1) : St w0 w1 rows := by
  obtain ⟨n, rfl⟩ := hd
  exact St_same h (pw_below_drewN (Below.refl _ _) n)
theorem St_new {w0 w w1 : World} {rows : List (Nat × Nat × Value × List (List Int))} {v : Value} {xs : List (List Int)} (h : St w0 w rows) (hS : Kd.S (Kd.slice 3 (Kd.int .i64)) 39 w1 w.heap.size (fun _ => True) v xs) (hb : Below w.heap.size w w1) : ∃ lo hi, St w0 w1 ((lo, hi, v, xs) :: rows) := by
  have h0 := St_same h hb
  refine ⟨w.heap.size, w1.heap.size, h0.1, fun i q hq => ?_, fun i j a b hij ha hb2 => ?_⟩
  · cases i with
    | zero =>
      rw [List.getElem?_cons_zero] at hq
      obtain rfl := Option.some.inj hq
      exact ⟨h.1.size, Nat.le_refl _, Kd.S_lower (Kd.S_mono (Kd.S_bound hS) (fun k hk => ⟨hk.2.1, hk.2.2.1⟩)) h.1.size⟩
    | succ i =>
      rw [List.getElem?_cons_succ] at hq
      exact h0.2.1 i q hq
  · cases j with
    | zero => exact absurd hij (Nat.not_lt_zero _)
    | succ j =>
      rw [List.getElem?_cons_succ] at hb2
      cases i with
      | zero =>
        rw [List.getElem?_cons_zero] at ha
        obtain rfl := Option.some.inj ha
        exact (h.2.1 j b hb2).2.1
      | succ i =>
        rw [List.getElem?_cons_succ] at ha
        exact h.2.2 i j a b (Nat.lt_of_succ_lt_succ hij) ha hb2
theorem St_row {w0 w : World} {rows : List (Nat × Nat × Value × List (List Int))} {lo hi : Nat} {v : Value} {xs : List (List Int)} (h : St w0 w rows) (i : Nat) (hq : rows[i]? = some (lo, hi, v, xs)) : Kd.S (Kd.slice 3 (Kd.int .i64)) 39 w w0.heap.size (fun k => lo ≤ k ∧ k < hi) v xs := (h.2.1 i _ hq).2.2
theorem St_get {w0 w : World} {rows : List (Nat × Nat × Value × List (List Int))} {lo hi n c : Nat} {A : Option Addr} {xs : List (List Int)} (h : St w0 w rows) (i : Nat) (hq : rows[i]? = some (lo, hi, .slice A n c, xs)) : n = xs.length ∧ n ≤ c ∧ Kd.C (Kd.slice 3 (Kd.int .i64)) w A xs.length xs := Kd.S_reads' (St_row h i hq)
theorem St_mark {w0 w w1 : World} {rows : List (Nat × Nat × Value × List (List Int))} {lo hi : Nat} {v : Value} {xs ys : List (List Int)} (h : St w0 w rows) (i : Nat) (hq : rows[i]? = some (lo, hi, v, xs)) (hS : Kd.S (Kd.slice 3 (Kd.int .i64)) 39 w1 w0.heap.size (fun k => lo ≤ k ∧ k < hi) v ys) (hb : Below w0.heap.size w0 w1) (hk : Kept w w1 (fun k => lo ≤ k ∧ k < hi)) : St w0 w1 (rows.set i (lo, hi, v, ys)) := by
  have hi0 := (h.2.1 i _ hq)
  refine ⟨hb, fun j q hj => ?_, fun j1 j2 a b hij ha hb2 => ?_⟩
  · rw [List.getElem?_set] at hj
    by_cases e : i = j
    · rw [if_pos e] at hj
      split at hj
      · obtain rfl := Option.some.inj hj
        exact ⟨hi0.1, Nat.le_trans hi0.2.1 hk.1, hS⟩
      · cases hj
    · rw [if_neg e] at hj
      obtain ⟨h1, h2, h3⟩ := h.2.1 j q hj
      refine ⟨h1, Nat.le_trans h2 hk.1, Kd.S_step h3 (fun k hk2 hlt => hk.2 k hlt (fun hin => ?_))⟩
      rcases Nat.lt_or_ge i j with q1 | q1
      · have := h.2.2 i j _ _ q1 hq hj
        simp only [] at this hin hk2
        omega
      · have := h.2.2 j i _ _ (by omega) hj hq
        simp only [] at this hin hk2
        omega
  · have key : ∀ (j : Nat) q, (rows.set i (lo, hi, v, ys))[j]? = some q → ∃ q0, rows[j]? = some q0 ∧ q0.1 = q.1 ∧ q0.2.1 = q.2.1 := by
      intro j q hj
      rw [List.getElem?_set] at hj
      by_cases e : i = j
      · rw [if_pos e] at hj
        split at hj
        · obtain rfl := Option.some.inj hj
          subst e
          exact ⟨_, hq, rfl, rfl⟩
        · cases hj
      · rw [if_neg e] at hj
        exact ⟨q, hj, rfl, rfl⟩
    obtain ⟨a0, e1, e2, _⟩ := key j1 a ha
    obtain ⟨b0, e4, _, e6⟩ := key j2 b hb2
    have := h.2.2 j1 j2 a0 b0 hij e1 e4
    omega

/-! ### laws_heldIntS: function 50 -/
def laws_heldIntS.l0 : Nat → List Int → Int → Int → Option (Int)
  | 0, _, _, _ => none
  | k + 1, x0, x1, x5 => if x5 < (x0.length : Int) then (if 0 ≤ x5 then (if (rd x0 x5) = x1 then (laws_heldIntS.l0 k x0 (wrap64 (x1 + 1)) (wrap64 (x5 + 1))) else (some (-1))) else (none)) else (some x1)
def laws_heldIntS.f (k : Nat) (l0 : List Int) (a1 : Int) : Option (Int) := laws_heldIntS.l0 k l0 a1 0
theorem laws_heldIntS.mono_l : ∀ k, (∀ y0 y1 y2, LeO (laws_heldIntS.l0 k y0 y1 y2) (laws_heldIntS.l0 (k + 1) y0 y1 y2))
  | 0 => fun _ _ _ r h => by simp [laws_heldIntS.l0] at h
  | k + 1 => by
    have ih0 := laws_heldIntS.mono_l k
    · intro y0 y1 y2
      unfold laws_heldIntS.l0
      repeat' first
      | (with_reducible exact ih0 _ _ _)
      | (with_reducible exact LeO.refl _)
      | (with_reducible exact LeO.none _)
      | (with_reducible refine LeO.ite ?_ ?_)
      | (with_reducible refine LeO.bind ?_ (fun _ => ?_))
      | exact ih0 _ _ _
      | exact LeO.none _
      | refine LeO.ite ?_ ?_
      | refine LeO.bind ?_ (fun _ => ?_)
theorem laws_heldIntS.mono : ∀ a0 a1 k, LeO (laws_heldIntS.f k a0 a1) (laws_heldIntS.f (k + 1) a0 a1) := by
  intro a0 a1 k
  have ih0 := laws_heldIntS.mono_l k
  unfold laws_heldIntS.f
  repeat' first
      | (with_reducible exact ih0 _ _ _)
      | (with_reducible exact LeO.refl _)
      | (with_reducible exact LeO.none _)
      | (with_reducible refine LeO.ite ?_ ?_)
      | (with_reducible refine LeO.bind ?_ (fun _ => ?_))
      | exact ih0 _ _ _
      | exact LeO.none _
      | refine LeO.ite ?_ ?_
      | refine LeO.bind ?_ (fun _ => ?_)
set_option maxHeartbeats 8000000 in
set_option maxRecDepth 100000 in
theorem laws_heldIntS.calls (k : Nat) (A0 : Option Addr) (c0 : Nat) (l0 : List Int) (a1 : Int) (r : Int) (w : World) (hr0 : Kd.C (Kd.int .i64) w A0 l0.length l0) (hc0 : l0.length ≤ c0) (h : laws_heldIntS.f k l0 a1 = some r) :
    Calls Try.prog 50 #[.slice A0 l0.length c0, .int .i64 a1] w fun e w' => e = .returned (.int .i64 r) ∧ Drawn0 w w' := by
  have HR0 := Aside0.mk hr0
  have HC0 := Aside0.mk hc0
  clear hr0 hc0
  have H : (laws_heldIntS.l0 k l0 a1 0) = some r := h
  clear h
  have H' := Aside0.mk H
  clear H
  go_enter Try.func50, Try.ntmps50
  go_wp2
  go_loopg [1, 5] k (fun kq v1 v5 w' => ∃ (x1_1 : Int) (x5_1 : Int), v1 = .int .i64 x1_1 ∧ v5 = .int .i64 x5_1 ∧ Aside0 (laws_heldIntS.l0 kq l0 x1_1 x5_1 = some r) ∧ Aside0 (kq ≤ k) ∧ Drawn0 w w')
  case atStart => exact ⟨(a1), (0), (by first | rfl | (simp; done) | (simp only [i64_w]; first | done | rfl) | (simp [*]; done)), (by first | rfl | (simp; done) | (simp only [i64_w]; first | done | rfl) | (simp [*]; done)), H', ⟨Nat.le_refl _⟩, by repeat (first | exact Drawn0.refl _ | apply Drawn0.step)⟩
  case round =>
    clear H'
    try clear p2
    obtain ⟨x1_1, x5_1, rfl, rfl, HA, HK1, ⟨m1, rfl⟩⟩ := hrel
    cases gk with
    | zero => exact absurd HA.out (by simp [laws_heldIntS.l0])
    | succ k1 =>
      have H := HA.out
      clear HA
      simp only [laws_heldIntS.l0] at H
      by_cases c3 : x5_1 < (l0.length : Int)
      · rw [if_pos c3] at H
        have c3b0 : decide (x5_1 < (l0.length : Int)) = true := decide_eq_true c3
        clear c3
        by_cases c4 : 0 ≤ x5_1
        · rw [if_pos c4] at H
          have c4b0 : decide (0 ≤ x5_1) = true := decide_eq_true c4
          clear c4
          by_cases c5 : (rd l0 x5_1) = x1_1
          · rw [if_pos c5] at H
            have c5b0 : ((rd l0 x5_1) == x1_1) = true := beq_iff_eq.mpr c5
            have c5b1 : ((rd l0 x5_1) != x1_1) = false := bne_eq_false_iff_eq.mpr c5
            clear c5
            have H' := Aside0.mk H
            clear H
            have p122 : 0 ≤ (x5_1 : Int) := of_decide_eq_true (by first | (with_reducible assumption) | assumption)
            have q122 : x5_1 < (l0.length : Int) := of_decide_eq_true (by first | (with_reducible assumption) | assumption)
            obtain ⟨ad122, e122, hx122_0⟩ := Kd.at_int HR0.out x5_1 p122 q122
            cases e122
            replace p122 := eq_true p122
            replace q122 := eq_true q122
            go_wp2
            go_roundg k1
            case measure => have := HK1.out; omega
            case rel => exact ⟨(wrap64 (x1_1 + 1)), (wrap64 (x5_1 + 1)), (by first | rfl | (simp; done) | (simp only [i64_w]; first | done | rfl) | (simp [*]; done)), (by first | rfl | (simp; done) | (simp only [i64_w]; first | done | rfl) | (simp [*]; done)), H', ⟨by have := HK1.out; omega⟩, by repeat (first | exact Drawn0.refl _ | apply Drawn0.step)⟩
          · rw [if_neg c5] at H
            have c5b0 : ((rd l0 x5_1) == x1_1) = false := beq_eq_false_iff_ne.mpr c5
            have c5b1 : ((rd l0 x5_1) != x1_1) = true := bne_iff_ne.mpr c5
            obtain rfl := Option.some.inj H
            have p122 : 0 ≤ (x5_1 : Int) := of_decide_eq_true (by first | (with_reducible assumption) | assumption)
            have q122 : x5_1 < (l0.length : Int) := of_decide_eq_true (by first | (with_reducible assumption) | assumption)
            obtain ⟨ad122, e122, hx122_0⟩ := Kd.at_int HR0.out x5_1 p122 q122
            cases e122
            replace p122 := eq_true p122
            replace q122 := eq_true q122
            go_wp2
            go_ret
            exact ⟨by first | rfl | (simp; done) | (simp only [i64_w]; first | done | rfl) | (simp [*]; done), by repeat (first | exact Drawn0.refl _ | apply Drawn0.step)⟩
        · rw [if_neg c4] at H
          exact absurd H (by simp)
      · rw [if_neg c3] at H
        have c3b0 : decide (x5_1 < (l0.length : Int)) = false := decide_eq_false c3
        clear c3
        obtain rfl := Option.some.inj H
        go_wp2
        go_ret
        exact ⟨by first | rfl | (simp; done) | (simp only [i64_w]; first | done | rfl) | (simp [*]; done), by repeat (first | exact Drawn0.refl _ | apply Drawn0.step)⟩

end Go.Proofs.Ytpeiefgkjfnfgaa.PG
