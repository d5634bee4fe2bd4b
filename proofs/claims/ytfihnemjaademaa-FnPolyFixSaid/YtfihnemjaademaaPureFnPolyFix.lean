/- The plain part of the proof that the law FnPolyFix answers true for every input: what its printed functions compute answers true, for all lists and numbers that the walk hands over; no condition beyond those. -/
import Derived.Test.YtfihnemjaademaaPAx13
import Derived.Test.YtfihnemjaademaaM
import Derived.Test.YtfihnemjaademaaMs
namespace Go.Proofs.Ytfihnemjaademaa.Pure
open Go.RowKit Go.Proofs.Ytfihnemjaademaa.PA Go.Proofs.YtfihnemjaademaaW.PrintWords Go.Proofs.YtfihnemjaademaaW.PrintLast Go.Proofs.YtfihnemjaademaaW.PrintMore Go.Proofs.Ytfihnemjaademaa.M
set_option linter.unusedVariables false
set_option linter.unusedSimpArgs false
set_option maxRecDepth 4000

theorem spec_pick_ev (l : List Int) (p n : Int) (hl : l.length ≤ 2000) (hb : ∀ x ∈ l, 0 ≤ x ∧ x ≤ 255) (hp0 : 0 ≤ p) (hp1 : p ≤ 1000000) :
    ∃ v : Int, Ev (fun k => spec_l6Rd_pick.f k l p n) (v, p + 1) ∧ 0 ≤ v ∧ (v < n ∨ v = 0) := by
  have hw : wrap64 (p + 1) = p + 1 := wid (by omega) (by omega)
  by_cases hn : n < 1
  · refine ⟨0, ?_, by omega, Or.inr rfl⟩
    refine Ev.congr (fun k => by rw [spec_l6Rd_pick.f]) (ev_pos hn ?_)
    refine Ev.step (fun k => by rw [spec_l6Rd_pick.j0]) (ev_pos rfl (ev_val ?_))
    rw [hw]
  · by_cases h0 : l.length = 0
    · refine ⟨0, ?_, by omega, Or.inr rfl⟩
      refine Ev.congr (fun k => by rw [spec_l6Rd_pick.f]) (ev_neg hn ?_)
      have e : ((l.length : Int) == 0) = true := by rw [beq_iff_eq]; omega
      rw [e]
      refine Ev.step (fun k => by rw [spec_l6Rd_pick.j0]) (ev_pos rfl (ev_val ?_))
      rw [hw]
    · have e : ((l.length : Int) == 0) = false := by rw [beq_eq_false_iff_ne]; omega
      have hw2 : wrap64 (p + 1 - 1) = p := by rw [wid (by omega) (by omega)]; omega
      have tm : ∀ a : Int, 0 ≤ a → 0 ≤ Int.tmod a n ∧ Int.tmod a n < n := fun a ha => by
        rw [Int.tmod_eq_emod_of_nonneg ha]
        exact ⟨Int.emod_nonneg _ (by omega), Int.emod_lt_of_pos _ (by omega)⟩
      have rb : ∀ i : Int, 0 ≤ i → i < l.length → 0 ≤ rd l i ∧ rd l i ≤ 255 := fun i h0 h1 => by
        obtain ⟨j, rfl⟩ := Int.eq_ofNat_of_zero_le h0
        exact hb _ (rd_mem (by omega))
      by_cases hk : p < (l.length : Int)
      · have hr := rb p hp0 hk
        refine ⟨Int.tmod (wrap64 (rd l p)) n, ?_, ?_, ?_⟩
        · refine Ev.congr (fun k => by rw [spec_l6Rd_pick.f]) (ev_neg hn ?_)
          rw [e, hw]
          refine Ev.step (fun k => by rw [spec_l6Rd_pick.j0]) (ev_neg (by simp) ?_)
          rw [hw2]
          exact ev_pos hk (ev_pos hp0 (ev_neg (by omega) (ev_val rfl)))
        · rw [wid (by omega) (by omega)]; exact (tm _ hr.1).1
        · rw [wid (by omega) (by omega)]; exact Or.inl (tm _ hr.1).2
      · have tl : ∀ a : Int, 0 ≤ a → 0 ≤ Int.tmod a (l.length : Int) ∧ Int.tmod a (l.length : Int) < (l.length : Int) := fun a ha => by
          rw [Int.tmod_eq_emod_of_nonneg ha]
          exact ⟨Int.emod_nonneg _ (by omega), Int.emod_lt_of_pos _ (by omega)⟩
        have h1 := tl p hp0
        have hw3 : wrap64 (p * 7) = p * 7 := wid (by omega) (by omega)
        have hw4 : wrap64 (p * 7 + 3) = p * 7 + 3 := wid (by omega) (by omega)
        have h2 := tl (p * 7 + 3) (by omega)
        have r1 := rb _ h1.1 h1.2
        have r2 := rb _ h2.1 h2.2
        generalize hA : Int.tmod p (l.length : Int) = A at *
        generalize hB : Int.tmod (p * 7 + 3) (l.length : Int) = B at *
        have hq : 0 ≤ Int.tdiv p (l.length : Int) ∧ Int.tdiv p (l.length : Int) ≤ 1000000 := by
          rw [Int.tdiv_eq_ediv_of_nonneg hp0]
          exact ⟨Int.ediv_nonneg hp0 (by omega), Int.le_trans (Int.ediv_le_self _ hp0) hp1⟩
        generalize hQ : Int.tdiv p (l.length : Int) = Q at *
        have hx : wrap64 (wrap64 (wrap64 (wrap64 (wrap64 (rd l A) * 131) + wrap64 (wrap64 (rd l B) * 1117)) + wrap64 (p * 29)) + wrap64 (wrap64 Q * 53)) = rd l A * 131 + rd l B * 1117 + p * 29 + Q * 53 := by
          rw [wid (x := rd l A) (by omega) (by omega), wid (x := rd l B) (by omega) (by omega), wid (x := Q) (by omega) (by omega), wid (x := rd l A * 131) (by omega) (by omega), wid (x := rd l B * 1117) (by omega) (by omega), wid (x := p * 29) (by omega) (by omega), wid (x := Q * 53) (by omega) (by omega)]
          rw [wid (x := rd l A * 131 + rd l B * 1117) (by omega) (by omega), wid (x := rd l A * 131 + rd l B * 1117 + p * 29) (by omega) (by omega), wid (by omega) (by omega)]
        obtain ⟨X, hX⟩ : ∃ X, X = rd l A * 131 + rd l B * 1117 + p * 29 + Q * 53 := ⟨_, rfl⟩
        have hX0 : 0 ≤ X ∧ X < 1099511627776 := by omega
        have hd : 0 ≤ Int.tdiv X 64 ∧ Int.tdiv X 64 < 1099511627776 := by
          rw [Int.tdiv_eq_ediv_of_nonneg hX0.1]
          omega
        have hb := xor_nonneg X (Int.tdiv X 64) hX0.1 hX0.2 hd.1 hd.2
        refine ⟨Int.tmod (Go.bits .xor .i64 X (Int.tdiv X 64)) n, ?_, (tm _ hb).1, Or.inl (tm _ hb).2⟩
        refine Ev.congr (fun k => by rw [spec_l6Rd_pick.f]) (ev_neg hn ?_)
        rw [e, hw]
        refine Ev.step (fun k => by rw [spec_l6Rd_pick.j0]) (ev_neg (by simp) ?_)
        rw [hw2, hw3, hw4, hA, hB, hQ, hx, ← hX, wid (x := Int.tdiv X 64) (by omega) (by omega)]
        exact ev_neg hk (ev_neg (by omega) (ev_pos h1.1 (ev_pos h1.2 (ev_pos h2.1 (ev_pos h2.2 (ev_neg (by omega) (ev_val rfl)))))))

theorem spec_l91Length_ev (l : List Int) (p : Int) (hl : l.length ≤ 2000) (hb : ∀ x ∈ l, 0 ≤ x ∧ x ≤ 255) (hp0 : 0 ≤ p) (hp1 : p ≤ 100000) :
    ∃ v : Int, Ev (fun k => spec_l91Length.f k l p) (v, p + 3) ∧ 1 ≤ v ∧ v ≤ 60 := by
  obtain ⟨v1, e1, a1, b1⟩ := spec_pick_ev l p 12 hl hb hp0 (by omega)
  obtain ⟨v2, e2, a2, b2⟩ := spec_pick_ev l (p + 1) 6 hl hb (by omega) (by omega)
  obtain ⟨v3, e3, a3, b3⟩ := spec_pick_ev l (p + 1 + 1) 48 hl hb (by omega) (by omega)
  have h2 : 0 ≤ Int.tdiv v2 5 ∧ Int.tdiv v2 5 ≤ 1 := by
    rw [Int.tdiv_eq_ediv_of_nonneg a2]
    omega
  have h3 : 0 ≤ Int.tdiv v2 5 * v3 ∧ Int.tdiv v2 5 * v3 ≤ 47 := by
    generalize Int.tdiv v2 5 = q at *
    rcases (by omega : q = 0 ∨ q = 1) with rfl | rfl <;> omega
  refine ⟨1 + v1 + Int.tdiv v2 5 * v3, ?_, by omega, by omega⟩
  refine Ev.congr (fun k => by rw [spec_l91Length.f]) (Ev.bind e1 ?_)
  refine Ev.bind e2 ?_
  refine Ev.bind e3 (ev_val ?_)
  show (wrap64 (wrap64 (1 + v1) + wrap64 (wrap64 (Int.tdiv v2 5) * v3)), p + 1 + 1 + 1) = _
  rw [wid (x := Int.tdiv v2 5) (by omega) (by omega), wid (x := Int.tdiv v2 5 * v3) (by omega) (by omega), wid (x := 1 + v1) (by omega) (by omega), wid (by omega) (by omega)]
  congr 1
  omega

theorem spec_l1Sort_ev (l : List Int) (hn : l.length ≤ 1000) : ∃ m : List Int, Ev (fun k => spec_l1Sort.f k l) m ∧ m.length = l.length ∧ (∀ x ∈ m, x ∈ l) := by
  have key := up_ex (σ := List Int) l.length (fun k s i => spec_l1Sort.l0 k l s i) (fun m => m.length = l.length ∧ (∀ x ∈ m, x ∈ l)) (fun s i => s.length = i ∧ ∀ x ∈ s, x ∈ l)
    (by
      intro s hs
      refine ⟨s, ?_, hs.1, hs.2⟩
      refine Ev.step (fun k => by rw [spec_l1Sort.l0]) ?_
      exact ev_neg (by omega) (ev_val rfl))
    (by
      intro s i hi hs ih
      have hfin : ∀ j : Nat, j ≤ s.length → ∃ r, Ev (fun k => (some (([] : List Int) : List Int)).bind fun y118 => (if 0 ≤ (j : Int) then (if (j : Int) ≤ (s.length : Int) then ((some (s.take (j : Int).toNat : List Int)).bind fun y121 => (if y118.length + y121.length < 17592186044416 then ((some (y118 ++ y121 : List Int)).bind fun y125 => ((some (([rd l (i : Int)] : List Int) : List Int)).bind fun y129 => (if y125.length + y129.length < 17592186044416 then ((some (y125 ++ y129 : List Int)).bind fun y132 => ((some (s.drop (j : Int).toNat : List Int)).bind fun y135 => (if y132.length + y135.length < 17592186044416 then (spec_l1Sort.l0 k l (y132 ++ y135) (wrap64 ((i : Int) + 1))) else (none)))) else (none)))) else (none))) else (none)) else (none))) r ∧ r.length = l.length ∧ (∀ x ∈ r, x ∈ l) := by
        intro j hj
        obtain ⟨r, h1, h2⟩ := ih ([] ++ s.take j ++ [rd l (i : Int)] ++ s.drop j) ⟨by simp; omega, by
          intro x hx
          simp only [List.nil_append, List.append_assoc, List.mem_append, List.mem_singleton] at hx
          rcases hx with hx | hx | hx
          · exact hs.2 x (List.mem_of_mem_take hx)
          · rw [hx]; exact rd_mem hi
          · exact hs.2 x (List.mem_of_mem_drop hx)⟩
        refine ⟨r, ?_, h2⟩
        rw [wsucc hi (by omega), show ((j : Nat) : Int).toNat = j by omega]
        refine ev_opt rfl (ev_pos (by omega) (ev_pos (by omega) (ev_opt rfl (ev_pos (by simp; omega) (ev_opt rfl (ev_opt rfl (ev_pos (by simp; omega) (ev_opt rfl (ev_opt rfl (ev_pos (by simp; omega) h1))))))))))
      have hin : ∀ j : Nat, j ≤ s.length → ∃ r, Ev (fun k => spec_l1Sort.l1 k l s (i : Int) (j : Int)) r ∧ r.length = l.length ∧ (∀ x ∈ r, x ∈ l) := by
        intro j
        induction j with
        | zero =>
          intro _
          obtain ⟨r, h1, h2⟩ := hfin 0 (by omega)
          refine ⟨r, ?_, h2⟩
          refine Ev.step (fun k => by rw [spec_l1Sort.l1]) (ev_neg (by omega) ?_)
          obtain ⟨K, h1⟩ := h1
          refine ⟨K, fun k hk => ?_⟩
          have h1 := h1 k hk
          simp only [Option.bind_some] at h1 ⊢
          rw [if_pos (show 0 ≤ (i : Int) by omega), if_pos (show (i : Int) < (l.length : Int) by omega)]
          exact h1
        | succ j ihj =>
          intro hj
          obtain ⟨r0, h0⟩ := ihj (by omega)
          obtain ⟨r1, h1⟩ := hfin (j + 1) hj
          by_cases c : rd l (i : Int) < rd s (j : Int)
          · refine ⟨r0, ?_, h0.2⟩
            refine Ev.step (fun k => by rw [spec_l1Sort.l1]) ?_
            rw [wid (x := ((j + 1 : Nat) : Int) - 1) (by omega) (by omega), show ((j + 1 : Nat) : Int) - 1 = (j : Int) by omega]
            exact ev_pos (by omega) (ev_pos (by omega) (ev_pos (by omega) (ev_pos (by omega) (ev_pos (by omega) (ev_pos c h0.1)))))
          · refine ⟨r1, ?_, h1.2⟩
            refine Ev.step (fun k => by rw [spec_l1Sort.l1]) ?_
            rw [wid (x := ((j + 1 : Nat) : Int) - 1) (by omega) (by omega), show ((j + 1 : Nat) : Int) - 1 = (j : Int) by omega]
            exact ev_pos (by omega) (ev_pos (by omega) (ev_pos (by omega) (ev_pos (by omega) (ev_pos (by omega) (ev_neg c h1.1)))))
      obtain ⟨r, h1, h2⟩ := hin s.length (Nat.le_refl _)
      refine ⟨r, ?_, h2⟩
      refine Ev.step (fun k => by rw [spec_l1Sort.l0]) ?_
      exact ev_pos (by omega) h1)
  obtain ⟨r, h1, h2⟩ := key [] 0 (by omega) ⟨rfl, fun x hx => by simp at hx⟩
  exact ⟨r, Ev.congr (fun k => by rw [spec_l1Sort.f]; rfl) h1, h2⟩

theorem spec_l91Sticks_ev (l : List Int) (p a : Int) (hl : l.length ≤ 2000) (hb : ∀ x ∈ l, 0 ≤ x ∧ x ≤ 255) (hp0 : 0 ≤ p) (hp1 : p ≤ 5000) (ha : a ≤ 100) :
    ∃ (m : List Int) (q : Int), Ev (fun k => spec_l91Sticks.f k l p a) (m, q) ∧ m.length ≤ 101 ∧ (∀ x ∈ m, 0 ≤ x ∧ x ≤ 60) ∧ p ≤ q ∧ q ≤ p + 301 := by
  have hend : ∀ (s : List Int) (c : Int), s.length ≤ 100 → (∀ x ∈ s, 0 ≤ x ∧ x ≤ 60) → 0 ≤ c → c ≤ 6000 → ∃ r : List Int × Int, Ev (fun k => (spec_l1Sort.f k s).bind fun t174 => ((spec_l6Rd_pick.f k l c 40).bind fun bt177 => (if bt177.1 = 0 then (if t174.length < 17592186044416 then (some ((t174 ++ [1]), bt177.2)) else (none)) else (if bt177.1 = 1 then ((some (([0] : List Int) : List Int)).bind fun y182 => (if y182.length + t174.length < 17592186044416 then (some ((y182 ++ t174), bt177.2)) else (none))) else (some (t174, bt177.2)))))) r ∧ r.1.length ≤ 101 ∧ (∀ x ∈ r.1, 0 ≤ x ∧ x ≤ 60) ∧ r.2 = c + 1 := by
    intro s c hs hx hc0 hc1
    obtain ⟨m, h1, h2, h3⟩ := spec_l1Sort_ev s (by omega)
    obtain ⟨v, e1, _, _⟩ := spec_pick_ev l c 40 hl hb hc0 (by omega)
    have hm : ∀ x ∈ m, 0 ≤ x ∧ x ≤ 60 := fun x hxm => hx x (h3 x hxm)
    by_cases c0 : v = 0
    · refine ⟨(m ++ [1], c + 1), Ev.bind h1 (Ev.bind e1 (ev_pos c0 (ev_pos (by omega) (ev_val rfl)))), by simp; omega, ?_, rfl⟩
      intro x hxm
      simp only [List.mem_append, List.mem_singleton] at hxm
      rcases hxm with hxm | hxm
      · exact hm x hxm
      · omega
    · by_cases c1 : v = 1
      · refine ⟨([0] ++ m, c + 1), Ev.bind h1 (Ev.bind e1 (ev_neg c0 (ev_pos c1 (ev_opt rfl (ev_pos (by simp; omega) (ev_val rfl)))))), by simp; omega, ?_, rfl⟩
        intro x hxm
        simp only [List.mem_append, List.mem_singleton] at hxm
        rcases hxm with hxm | hxm
        · omega
        · exact hm x hxm
      · exact ⟨(m, c + 1), Ev.bind h1 (Ev.bind e1 (ev_neg c0 (ev_neg c1 (ev_val rfl)))), by show m.length ≤ 101; omega, hm, rfl⟩
  have hb0 : ∀ (d : Nat) (i : Nat) (s : List Int) (c : Int), i ≤ 100 → (i : Int) + d = (if (i : Int) ≤ a then a else i) → s.length = i → (∀ x ∈ s, 0 ≤ x ∧ x ≤ 60) → p ≤ c → c ≤ p + 3 * i → ∃ r : List Int × Int, Ev (fun k => spec_l91Sticks.l0 k a s (i : Int) l c) r ∧ r.1.length ≤ 101 ∧ (∀ x ∈ r.1, 0 ≤ x ∧ x ≤ 60) ∧ p ≤ r.2 ∧ r.2 ≤ p + 301 := by
    intro d
    induction d with
    | zero =>
      intro i s c hi hd hs hx h1 h2
      obtain ⟨r, e, r1, r2, r3⟩ := hend s c (by omega) hx (by omega) (by omega)
      refine ⟨r, ?_, r1, r2, by omega, by omega⟩
      refine Ev.step (fun k => by rw [spec_l91Sticks.l0]) (ev_neg ?_ e)
      split at hd <;> omega
    | succ d ih =>
      intro i s c hi hd hs hx h1 h2
      have hia : (i : Int) < a := by split at hd <;> omega
      obtain ⟨v, e, v1, v2⟩ := spec_l91Length_ev l c hl hb (by omega) (by omega)
      obtain ⟨r, e2, hr⟩ := ih (i + 1) (s ++ [v]) (c + 3) (by omega) (by
        rw [if_pos (by omega)] at hd
        rw [if_pos (by omega)]
        omega) (by simp; omega) (by
        intro x hxm
        simp only [List.mem_append, List.mem_singleton] at hxm
        rcases hxm with hxm | hxm
        · exact hx x hxm
        · omega) (by omega) (by omega)
      refine ⟨r, ?_, hr⟩
      refine Ev.step (fun k => by rw [spec_l91Sticks.l0]) (ev_pos hia ?_)
      refine Ev.bind e ?_
      refine ev_pos (by omega) ?_
      rw [wsucc (i := i) (n := 101) (by omega) (by omega)]
      exact e2
  obtain ⟨⟨m, q⟩, e, r1, r2, r3, r4⟩ := hb0 (if 0 ≤ a then a.toNat else 0) 0 [] p (by omega) (by split <;> split <;> omega) rfl (fun x hx => by simp at hx) (by omega) (by omega)
  refine ⟨m, q, Ev.congr (fun k => by rw [spec_l91Sticks.f]; rfl) e, r1, r2, r3, r4⟩

theorem spec_l91Bundle_ev (l : List Int) (p : Int) (hl : l.length ≤ 2000) (hb : ∀ x ∈ l, 0 ≤ x ∧ x ≤ 255) (hp0 : 0 ≤ p) (hp1 : p ≤ 1000) :
    ∃ (m : List Int) (q : Int), Ev (fun k => spec_l91Bundle.f k l p) (m, q) ∧ m.length ≤ 101 ∧ (∀ x ∈ m, 0 ≤ x ∧ x ≤ 60) ∧ p ≤ q ∧ q ≤ p + 302 := by
  obtain ⟨v, e1, v1, v2⟩ := spec_pick_ev l p 9 hl hb hp0 (by omega)
  obtain ⟨m, q, e2, h1, h2, h3, h4⟩ := spec_l91Sticks_ev l (p + 1) (1 + v) hl hb (by omega) (by omega) (by omega)
  refine ⟨m, q, ?_, h1, h2, by omega, by omega⟩
  refine Ev.congr (fun k => by rw [spec_l91Bundle.f]) (Ev.bind e1 ?_)
  rw [wid (x := 1 + v) (by omega) (by omega)]
  exact Ev.bind e2 (ev_val rfl)

theorem spec_l6Open_ev (l : List Int) : ∃ m : List Int, spec_l6Open.f l = some (m, 0) ∧ m.length ≤ 2000 ∧ (∀ x ∈ m, x ∈ l) := by
  unfold spec_l6Open.f
  by_cases h : (l.length : Int) > 2000
  · rw [if_pos h, if_pos (by omega)]
    exact ⟨_, rfl, by simp; omega, fun x hx => List.mem_of_mem_take hx⟩
  · rw [if_neg h]
    exact ⟨_, rfl, by omega, fun x hx => hx⟩

theorem spec_l91One_ev (l : List Int) (hb : ∀ x ∈ l, 0 ≤ x ∧ x ≤ 255) : ∃ m : List Int, Ev (fun k => spec_l91One.f k l) m ∧ m.length ≤ 101 ∧ (∀ x ∈ m, 0 ≤ x ∧ x ≤ 60) := by
  obtain ⟨c, hc, hc1, hc2⟩ := spec_l6Open_ev l
  obtain ⟨m, q, e, h1, h2, _⟩ := spec_l91Bundle_ev c 0 hc1 (fun x hx => hb x (hc2 x hx)) (by omega) (by omega)
  refine ⟨m, ?_, h1, h2⟩
  refine Ev.congr (fun k => by rw [spec_l91One.f]) (ev_opt hc ?_)
  exact Ev.bind e (ev_val rfl)

theorem l6In_eq (a b c : Int) : spec_l6In.f a b c = some (decide (b ≤ a ∧ a ≤ c)) := by
  unfold spec_l6In.f
  by_cases h : a ≥ b
  · rw [if_pos h]
    simp [show b ≤ a from h]
  · rw [if_neg h]
    simp [show ¬ b ≤ a from h]

theorem spec_l1Bundle_ev (l : List Int) (hn : l.length ≤ 1000000000000000) : Ev (fun k => spec_l1Bundle.f k l) (bl (Bun l)) := by
  have key := up_ev (σ := Unit) l.length (fun k _ i => spec_l1Bundle.l0 k l i) (fun _ i => bl (Ok l i ∧ (∀ j : Nat, i ≤ j + 1 → j + 1 < l.length → rd l (j : Int) ≤ rd l ((j + 1 : Nat) : Int)) ∧ Len9 l)) (fun _ _ => True)
    (by
      intro _ _
      refine Ev.step (fun k => by rw [spec_l1Bundle.l0]) ?_
      refine ev_neg (by omega) (ev_opt (l6In_eq _ _ _) (ev_val ?_))
      refine bl_dec ⟨fun h => ⟨fun j hj hl => by omega, fun j hj hl => by omega, by unfold Len9; omega⟩, fun h => ?_⟩
      have := h.2.2
      unfold Len9 at this
      omega)
    (by
      intro _ i hi _ ih
      have h1 := ih () trivial
      refine Ev.step (fun k => by rw [spec_l1Bundle.l0]) ?_
      refine ev_pos (by omega) (ev_pos (by omega) (ev_opt (l6In_eq _ _ _) ?_))
      refine ev_ite (fun c => ?_) (fun c => ev_val ?_)
      · have c := of_decide_eq_true c
        refine ev_ite (fun c2 => ?_) (fun c2 => ?_)
        · rw [wid (x := (i : Int) - 1) (by omega) (by omega)]
          obtain ⟨m, rfl⟩ : ∃ m, i = m + 1 := ⟨i - 1, by omega⟩
          have e : ((m + 1 : Nat) : Int) - 1 = (m : Int) := by omega
          rw [e]
          refine ev_pos (by omega) (ev_pos (by omega) (ev_ite (fun c3 => ev_val ?_) (fun c3 => ?_)))
          · refine (bl_false fun h => ?_).symm
            have := h.2.1 m (by omega) hi
            omega
          · rw [wsucc hi hn]
            refine ev_eq h1 (bl_congr ⟨fun h => ⟨h.1.cons c.1 c.2, fun j hj hl => ?_, h.2.2⟩, fun h => ⟨h.1.tail, fun j hj hl => h.2.1 j (by omega) hl, h.2.2⟩⟩)
            by_cases e2 : j = m
            · subst e2; omega
            · exact h.2.1 j (by omega) hl
        · rw [wsucc hi hn]
          refine ev_eq h1 (bl_congr ⟨fun h => ⟨h.1.cons c.1 c.2, fun j hj hl => ?_, h.2.2⟩, fun h => ⟨h.1.tail, fun j hj hl => h.2.1 j (by omega) hl, h.2.2⟩⟩)
          exact h.2.1 j (by omega) hl
      · refine (bl_false fun h => c (decide_eq_true ?_)).symm
        exact h.1 i (by omega) hi)
  refine Ev.congr (fun k => by rw [spec_l1Bundle.f]) ?_
  refine ev_eq (key () 0 (by omega) trivial) (bl_congr ?_)
  exact ⟨fun h => ⟨⟨h.1, h.2.2⟩, fun j hj => h.2.1 j (by omega) hj⟩, fun h => ⟨h.1.1, fun j _ hj => h.2 j hj, h.1.2⟩⟩

theorem impl_sum_ev (l : List Int) (h : Rul l) : Ev (fun k => impl_sum.f k l) (tot l) := by
  have hl := h.len
  have key := up_ev (σ := Int) l.length (fun k s i => impl_sum.l0 k s l (l.length : Int) i) (fun s i => s + tot (l.drop i)) (fun s i => 0 ≤ s ∧ s ≤ 60 * i)
    (by
      intro s _
      refine Ev.step (fun k => by rw [impl_sum.l0]) ?_
      exact ev_neg (by omega) (ev_val (by rw [tot_drop_end]; omega)))
    (by
      intro s i hi hs ih
      have := h.1.at hi
      refine Ev.step (fun k => by rw [impl_sum.l0]) ?_
      refine ev_pos (by omega) (ev_pos (by omega) (ev_pos (by omega) ?_))
      rw [wsucc hi (by omega), wid (by omega) (by omega)]
      exact ev_eq (ih _ (by omega)) (by rw [tot_drop hi]; omega))
  refine Ev.congr (fun k => by rw [impl_sum.f]) ?_
  exact ev_eq (key 0 0 (by omega) (by omega)) (by simp)

theorem impl_gap_ev (l : List Int) (h : Rul l) : Ev (fun k => impl_gap.f k l) (gap l) := by
  have hl := h.len
  have ht := h.tot
  have hb := lst_bd h
  refine Ev.congr (fun k => by rw [impl_gap.f]) (Ev.bind (impl_sum_ev l h) ?_)
  rw [wid (x := (l.length : Int) - 1) (by omega) (by omega)]
  refine ev_pos (by omega) (ev_pos (by omega) (ev_val ?_))
  show wrap64 (tot l - wrap64 (2 * lst l)) = gap l
  rw [wid (x := 2 * lst l) (by omega) (by omega), wid (by omega) (by omega)]
  rfl

theorem spec_l1Sum_ev (l : List Int) (h : Rul l) : Ev (fun k => spec_l1Sum.f k l) (tot l) := by
  have hl := h.len
  have key := up_ev (σ := Int) l.length (fun k s i => spec_l1Sum.l0 k l s i) (fun s i => s + tot (l.drop i)) (fun s i => 0 ≤ s ∧ s ≤ 60 * i)
    (by
      intro s _
      refine Ev.step (fun k => by rw [spec_l1Sum.l0]) ?_
      exact ev_neg (by omega) (ev_val (by rw [tot_drop_end]; omega)))
    (by
      intro s i hi hs ih
      have := h.1.at hi
      refine Ev.step (fun k => by rw [spec_l1Sum.l0]) ?_
      refine ev_pos (by omega) (ev_pos (by omega) ?_)
      rw [wsucc hi (by omega), wid (by omega) (by omega)]
      exact ev_eq (ih _ (by omega)) (by rw [tot_drop hi]; omega))
  refine Ev.congr (fun k => by rw [spec_l1Sum.f]) ?_
  exact ev_eq (key 0 0 (by omega) (by omega)) (by simp)

theorem spec_l3Gap_ev (l : List Int) (h : Rul l) : Ev (fun k => spec_l3Gap.f k l) (gap l) := by
  have hl := h.len
  have ht := h.tot
  have hb := lst_bd h
  refine Ev.congr (fun k => by rw [spec_l3Gap.f]) (Ev.bind (spec_l1Sum_ev l h) ?_)
  rw [wid (x := (l.length : Int) - 1) (by omega) (by omega)]
  refine ev_pos (by omega) (ev_pos (by omega) (ev_val ?_))
  show wrap64 (tot l - wrap64 (2 * lst l)) = gap l
  rw [wid (x := 2 * lst l) (by omega) (by omega), wid (by omega) (by omega)]
  rfl

theorem impl_isRuler_ev (l : List Int) (hn : l.length ≤ 1000000000000000) : Ev (fun k => impl_isRuler.f k l) (bl (Rul l)) := by
  have key := up_ev (σ := Unit) l.length (fun k _ i => impl_isRuler.l0 k l l (l.length : Int) i) (fun _ i => bl (Ok l i ∧ Len9 l)) (fun _ _ => True)
    (by
      intro _ _
      refine Ev.step (fun k => by rw [impl_isRuler.l0]) ?_
      refine ev_neg (by omega) (ev_ite (fun c => ev_val ?_) (fun c => ev_val ?_))
      · refine bl_dec ⟨fun h => ⟨fun j hj hl => by omega, by unfold Len9; omega⟩, fun h => ?_⟩
        have := h.2
        unfold Len9 at this
        omega
      · refine (bl_false fun h => ?_).symm
        have := h.2
        unfold Len9 at this
        omega)
    (by
      intro _ i hi _ ih
      have h1 := ih () trivial
      refine Ev.step (fun k => by rw [impl_isRuler.l0]) ?_
      refine ev_pos (by omega) (ev_pos (by omega) (ev_pos (by omega) ?_))
      refine ev_ite (fun c => ev_val ?_) (fun c => ev_ite (fun c2 => ev_val ?_) (fun c2 => ?_))
      · refine (bl_false fun h => ?_).symm
        have := h.1 i (by omega) hi
        omega
      · refine (bl_false fun h => ?_).symm
        have := h.1 i (by omega) hi
        omega
      · rw [wsucc hi hn]
        exact ev_eq h1 (bl_congr ⟨fun h => ⟨h.1.cons (by omega) (by omega), h.2⟩, fun h => ⟨h.1.tail, h.2⟩⟩))
  refine Ev.congr (fun k => by rw [impl_isRuler.f]) ?_
  refine ev_eq (key () 0 (by omega) trivial) (bl_congr ?_)
  exact ⟨fun h => ⟨h.1, h.2⟩, fun h => ⟨h.1, h.2⟩⟩

theorem less_eq (a b : Int) : cmp_Less_int.f a b = some (decide (a < b)) := by
  simp [cmp_Less_int.f, cmp_isNaN_int.f]
theorem slices_IsSorted_ev (l : List Int) (hn : l.length ≤ 1000000000000000) : Ev (fun k => slices_IsSorted_int_int.f k l) (bl (Asc l)) := by
  have key := down_ev (σ := Unit) (fun k _ i => slices_IsSorted_int_int.l0 k l i) (fun _ i => bl (∀ j : Nat, j < i → rd l (j : Int) ≤ rd l ((j + 1 : Nat) : Int))) (fun _ i => i < l.length)
    (by
      intro _ _
      refine Ev.step (fun k => by rw [slices_IsSorted_int_int.l0]) ?_
      exact ev_neg (by omega) (ev_val (bl_true (fun j hj => by omega)).symm))
    (by
      intro _ i hi ih
      have h1 := ih () (by omega)
      refine Ev.step (fun k => by rw [slices_IsSorted_int_int.l0]) ?_
      rw [wid (x := ((i + 1 : Nat) : Int) - 1) (by omega) (by omega), show ((i + 1 : Nat) : Int) - 1 = (i : Int) by omega]
      refine ev_pos (by omega) (ev_pos (by omega) (ev_pos (by omega) (ev_pos (by omega) (ev_pos (by omega) (ev_opt (less_eq _ _) ?_)))))
      refine ev_ite (fun c => ev_val ?_) (fun c => ?_)
      · have c := of_decide_eq_true c
        refine (bl_false fun h => ?_).symm
        have := h i (by omega)
        omega
      · have c : ¬ _ := fun h => c (decide_eq_true h)
        refine ev_eq h1 (bl_congr ⟨fun h j hj => ?_, fun h j hj => h j (by omega)⟩)
        by_cases e : j = i
        · subst e; omega
        · exact h j (by omega))
  refine Ev.congr (fun k => by rw [slices_IsSorted_int_int.f]) ?_
  rw [wid (x := (l.length : Int) - 1) (by omega) (by omega)]
  by_cases h0 : l.length = 0
  · rw [h0]
    refine Ev.step (fun k => by rw [slices_IsSorted_int_int.l0]) ?_
    exact ev_neg (by omega) (ev_val (bl_true (fun j hj => by omega)).symm)
  · obtain ⟨m, hm⟩ : ∃ m, l.length = m + 1 := ⟨l.length - 1, by omega⟩
    rw [hm, show ((m + 1 : Nat) : Int) - 1 = (m : Int) by omega]
    refine ev_eq (key m () (by omega)) (bl_congr ⟨fun h j hj => h j (by omega), fun h j hj => h j (by omega)⟩)

theorem impl_StickIn_ev (l : List Int) (hn : l.length ≤ 1000000000000000) : Ev (fun k => impl_StickIn.f k l) (bl (Bun l)) := by
  refine Ev.congr (fun k => by rw [impl_StickIn.f]) (Ev.bind (impl_isRuler_ev l hn) ?_)
  refine ev_ite (fun c => Ev.bind (slices_IsSorted_ev l hn) (ev_val (bl_congr ⟨fun h => ⟨bl_iff.1 c, h⟩, fun h => h.2⟩))) (fun c => ev_val ?_)
  exact (bl_false fun h => c (bl_true h.1)).symm

theorem impl_closes_ev (l : List Int) (h : Rul l) : Ev (fun k => impl_closes.f k l) (decide (3 ≤ l.length ∧ 0 < gap l)) := by
  refine Ev.congr (fun k => by rw [impl_closes.f]) (ev_ite (fun c => Ev.bind (impl_gap_ev l h) (ev_val ?_)) (fun c => ev_val ?_))
  · exact decide_eq_decide.2 ⟨fun h => ⟨by omega, h⟩, fun h => h.2⟩
  · exact (decide_eq_false (fun h => by omega)).symm

theorem impl_PolyCloses_ev (l : List Int) (hn : l.length ≤ 1000000000000000) : Ev (fun k => impl_PolyCloses.f k l) (bif bl (Bun l) then decide (3 ≤ l.length ∧ 0 < gap l) else false) := by
  refine Ev.congr (fun k => by rw [impl_PolyCloses.f]) (Ev.bind (impl_StickIn_ev l hn) ?_)
  refine ev_ite (fun c => ?_) (fun c => ev_val ?_)
  · have hb := bl_iff.1 c
    exact Ev.bind (impl_closes_ev l hb.1) (ev_val (by rw [c]; rfl))
  · rw [Bool.not_eq_true] at c
    rw [c]; rfl

theorem impl_StickPut_ev (l : List Int) (x : Int) (hn : l.length ≤ 1048576) : Ev (fun k => impl_StickPut.f k l x) (putM l x) := by
  have es := impl_StickIn_ev l (by omega)
  have e1 : slices_Clone_int_int.f l = some l := by
    unfold slices_Clone_int_int.f
    rw [if_pos (by omega)]
  have hn2 : (l ++ [x]).length ≤ 1048577 := by simp; omega
  have e2 : slices_Clone_int_int.f (l ++ [x]) = some (l ++ [x]) := by
    unfold slices_Clone_int_int.f
    rw [if_pos (by omega)]
  have e3 : slices_Sort_int_int.f (l ++ [x]) = some (srt (l ++ [x])) := by
    unfold slices_Sort_int_int.f
    rw [if_pos (by omega)]
    rfl
  unfold putM
  refine Ev.congr (fun k => by rw [impl_StickPut.f]) (Ev.bind es ?_)
  by_cases h : Bun l
  · rw [bl_true h]
    simp only [cond_true]
    refine ev_pos trivial (ev_opt e1 (ev_pos (by omega) ?_))
    have er := impl_isRuler_ev (l ++ [x]) (by omega)
    have est : Ev (fun k => impl_StickSort.f k (l ++ [x])) (bif bl (Rul (l ++ [x])) then (srt (l ++ [x]), true) else ([], false)) := by
      refine Ev.congr (fun k => by rw [impl_StickSort.f]) (Ev.bind er ?_)
      by_cases q : Rul (l ++ [x])
      · rw [bl_true q]
        exact ev_pos rfl (ev_opt e2 (ev_opt e3 (ev_val rfl)))
      · rw [bl_false q]
        exact ev_neg (by simp) (ev_val rfl)
    exact Ev.bind est (ev_val rfl)
  · rw [bl_false h]
    exact ev_neg (by simp) (ev_val rfl)

theorem FnPolyFix : laws_FnPolyFix.Pure := by
  intro l0 hm h8 hw
  refine Ev.rounds (g := fun k => laws_FnPolyFix.f k l0) ?_
  refine Ev.congr (fun k => by rw [laws_FnPolyFix.f]) ?_
  refine ev_ite (fun c => ev_val rfl) (fun c => ?_)
  obtain ⟨a, em, m1, _⟩ := spec_l91One_ev l0 (fun x hx => wf8 (hw x hx))
  have hn : a.length ≤ 1048576 := by omega
  refine Ev.bind (a := a) (Ev.congr (fun k => by rw [spec_DrawPolyFix.f]) (Ev.bind em (ev_val rfl))) ?_
  have no : Ev (fun k => impl_PolyFix.f k a) (0, false) → Ev (fun k => spec_PolyFix.f k a) (0, false) → Ev (fun n => (impl_PolyFix.f n a).bind fun bt270 => ((spec_PolyFix.f n a).bind fun bt272 => (if (bt270.2 != bt272.2) = true then (laws_FnPolyFix.j0 n a bt270.1 bt270.2 bt272.1 bt272.2 true) else (if bt270.1 = bt272.1 then (laws_FnPolyFix.j0 n a bt270.1 bt270.2 bt272.1 bt272.2 (!bt270.2)) else (laws_FnPolyFix.j0 n a bt270.1 bt270.2 bt272.1 bt272.2 true))))) true := by
    intro e1 e2
    refine Ev.bind e1 (Ev.bind e2 (ev_neg (by simp) (ev_pos rfl ?_)))
    refine Ev.step (fun k => by rw [laws_FnPolyFix.j0]) ?_
    exact ev_pos rfl (ev_pos rfl (ev_val rfl))
  by_cases hb : Bun a
  · have hl := hb.1.len
    have ht := hb.1.tot
    have lb := lst_bd hb.1
    have e1 := impl_StickIn_ev a (by omega)
    have e2 := spec_l1Bundle_ev a (by omega)
    rw [bl_true hb] at e1 e2
    by_cases h2 : 2 ≤ a.length ∧ a.length ≤ 8
    · have lt1 : lst a + 1 ≤ tot a := by
        obtain ⟨n, hn2⟩ : ∃ n, a.length = n + 1 := ⟨a.length - 1, by omega⟩
        have q := (tot_bd (l := a.take n) (fun j hj hjl => by
          have hj' : j < n := by simp at hjl; omega
          rw [rd_take hj' (by omega)]
          exact hb.1.1.at (by omega))).1
        have q2 : ((a.take n).length : Int) = (n : Int) := by simp; omega
        have q3 := tot_split a n
        rw [tot_drop (l := a) (i := n) (by omega), List.drop_of_length_le (by omega)] at q3
        rw [lst_at hn2]
        simp only [tot] at q3
        omega
      have eg : wrap64 (1 - gap a) = 1 - gap a := by
        unfold gap
        exact wid (by omega) (by omega)
      have hp : 1 ≤ mx 1 (1 - gap a) ∧ mx 1 (1 - gap a) ≤ lst a ∧ 1 - gap a ≤ mx 1 (1 - gap a) ∧ (2 ≤ mx 1 (1 - gap a) → mx 1 (1 - gap a) = 1 - gap a) := by
        unfold gap mx
        split <;> omega
      have ei : Ev (fun k => impl_PolyFix.f k a) (mx 1 (1 - gap a), true) := by
        refine Ev.congr (fun k => by rw [impl_PolyFix.f]) (Ev.bind e1 ?_)
        refine ev_pos rfl ?_
        refine ev_neg (by omega) ?_
        refine ev_neg (by omega) ?_
        refine Ev.bind (impl_gap_ev a hb.1) (ev_val ?_)
        rw [eg]
      have es : Ev (fun k => spec_PolyFix.f k a) (mx 1 (1 - gap a), true) := by
        refine Ev.congr (fun k => by rw [spec_PolyFix.f]) (Ev.bind e2 ?_)
        refine ev_pos rfl ?_
        refine ev_neg (by omega) ?_
        refine ev_neg (by omega) ?_
        refine Ev.bind (spec_l3Gap_ev a hb.1) (ev_val ?_)
        rw [eg, decide_eq_true (by omega)]
      refine Ev.bind ei (Ev.bind es (ev_neg (by simp) (ev_pos rfl ?_)))
      have gd : gap a = tot a - 2 * lst a := rfl
      generalize mx 1 (1 - gap a) = p at hp ⊢
      refine Ev.step (fun k => by rw [laws_FnPolyFix.j0]) (ev_neg (by simp) ?_)
      rw [wid (x := p - 1) (by omega) (by omega)]
      have hr := (rul_put hb p).2 ⟨by omega, by omega, by omega⟩
      have ep := impl_StickPut_ev a p hn
      have ep1 := impl_StickPut_ev a (p - 1) hn
      rw [putM_yes hb hr] at ep
      obtain ⟨p1, p2, p3, p4⟩ := put_facts hb hr
      have ec := impl_PolyCloses_ev (srt (a ++ [p])) (by omega)
      have hq : 3 ≤ (srt (a ++ [p])).length ∧ 0 < gap (srt (a ++ [p])) := by
        refine ⟨by omega, ?_⟩
        unfold gap
        rw [p3, p4]
        unfold mx
        split <;> omega
      rw [bl_true p1, decide_eq_true hq] at ec
      by_cases hr1 : Rul (a ++ [p - 1])
      · rw [putM_yes hb hr1] at ep1
        obtain ⟨r1, r2, r3, r4⟩ := put_facts hb hr1
        have q1 := (rul_put hb (p - 1)).1 hr1
        have ec1 := impl_PolyCloses_ev (srt (a ++ [p - 1])) (by omega)
        have hq1 : ¬ (3 ≤ (srt (a ++ [p - 1])).length ∧ 0 < gap (srt (a ++ [p - 1]))) := by
          rintro ⟨_, q⟩
          unfold gap at q
          rw [r3, r4] at q
          have := hp.2.2.2 (by omega)
          unfold mx at q
          split at q <;> omega
        rw [bl_true r1, decide_eq_false hq1] at ec1
        exact Ev.bind ep (Ev.bind ep1 (ev_pos rfl (Ev.bind ec (ev_pos rfl (ev_pos rfl (Ev.bind ec1 (ev_val rfl)))))))
      · rw [putM_no hb hr1] at ep1
        exact Ev.bind ep (Ev.bind ep1 (ev_pos rfl (Ev.bind ec (ev_pos rfl (ev_neg (by simp) (ev_val rfl))))))
    · refine no ?_ ?_
      · refine Ev.congr (fun k => by rw [impl_PolyFix.f]) (Ev.bind e1 ?_)
        refine ev_pos rfl ?_
        exact ev_ite (fun c => ev_val rfl) (fun c => ev_pos (by omega) (ev_val rfl))
      · refine Ev.congr (fun k => by rw [spec_PolyFix.f]) (Ev.bind e2 ?_)
        refine ev_pos rfl ?_
        exact ev_ite (fun c => ev_val rfl) (fun c => ev_pos (by omega) (ev_val rfl))
  · have e1 := impl_StickIn_ev a (by omega)
    have e2 := spec_l1Bundle_ev a (by omega)
    rw [bl_false hb] at e1 e2
    refine no ?_ ?_
    · refine Ev.congr (fun k => by rw [impl_PolyFix.f]) (Ev.bind e1 ?_)
      exact ev_neg (by simp) (ev_val rfl)
    · refine Ev.congr (fun k => by rw [spec_PolyFix.f]) (Ev.bind e2 ?_)
      exact ev_neg (by simp) (ev_val rfl)

end Go.Proofs.Ytfihnemjaademaa.Pure
