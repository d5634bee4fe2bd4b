/- The plain part of the proof that the law FnPath answers true for every input: what its printed functions compute answers true, for all lists and numbers that the walk hands over; no condition beyond those. -/
import Derived.Test.YtpeiefgkjfnfgaaPHx14
import Derived.Test.YtpeiefgkjfnfgaaM
import Derived.Test.YtpeiefgkjfnfgaaMf
import Derived.Test.YtpeiefgkjfnfgaaMp
namespace Go.Proofs.Ytpeiefgkjfnfgaa.Pure
open Go.RowKit Go.Proofs.Ytpeiefgkjfnfgaa.PH Go.Proofs.YtpeiefgkjfnfgaaW.PrintWords Go.Proofs.YtpeiefgkjfnfgaaW.PrintLast Go.Proofs.YtpeiefgkjfnfgaaW.PrintMore Go.Proofs.Ytpeiefgkjfnfgaa.M
set_option linter.unusedVariables false
set_option linter.unusedSimpArgs false
set_option maxRecDepth 4000

theorem spec_pick_ev (l : List Int) (p n : Int) (hl : l.length ≤ 2000) (hb : ∀ x ∈ l, 0 ≤ x ∧ x ≤ 255) (hp0 : 0 ≤ p) (hp1 : p ≤ 1000000) :
    ∃ v : Int, Ev (fun k => spec_l6Rd_pick.f k l p n) (v, p + 1) ∧ 0 ≤ v ∧ (v < n ∨ v = 0) := by
  have hw : wrap64 (p + 1) = p + 1 := wid (by omega) (by omega)
  by_cases hn : n < 1
  · refine ⟨0, ?_, by omega, Or.inr rfl⟩
    refine Ev.congr (fun k => by rw [spec_l6Rd_pick.f]) (ev_pos hn ?_)
    refine Ev.step (fun k => by rw [spec_l6Rd_pick.j0]) (ev_pos rfl (ev_val ?_))
    rw [hw]
  · by_cases h0 : l.length = 0
    · refine ⟨0, ?_, by omega, Or.inr rfl⟩
      refine Ev.congr (fun k => by rw [spec_l6Rd_pick.f]) (ev_neg hn ?_)
      have e : ((l.length : Int) == 0) = true := by rw [beq_iff_eq]; omega
      rw [e]
      refine Ev.step (fun k => by rw [spec_l6Rd_pick.j0]) (ev_pos rfl (ev_val ?_))
      rw [hw]
    · have e : ((l.length : Int) == 0) = false := by rw [beq_eq_false_iff_ne]; omega
      have hw2 : wrap64 (p + 1 - 1) = p := by rw [wid (by omega) (by omega)]; omega
      have tm : ∀ a : Int, 0 ≤ a → 0 ≤ Int.tmod a n ∧ Int.tmod a n < n := fun a ha => by
        rw [Int.tmod_eq_emod_of_nonneg ha]
        exact ⟨Int.emod_nonneg _ (by omega), Int.emod_lt_of_pos _ (by omega)⟩
      have rb : ∀ i : Int, 0 ≤ i → i < l.length → 0 ≤ rd l i ∧ rd l i ≤ 255 := fun i h0 h1 => by
        obtain ⟨j, rfl⟩ := Int.eq_ofNat_of_zero_le h0
        exact hb _ (rd_mem (by omega))
      by_cases hk : p < (l.length : Int)
      · have hr := rb p hp0 hk
        refine ⟨Int.tmod (wrap64 (rd l p)) n, ?_, ?_, ?_⟩
        · refine Ev.congr (fun k => by rw [spec_l6Rd_pick.f]) (ev_neg hn ?_)
          rw [e, hw]
          refine Ev.step (fun k => by rw [spec_l6Rd_pick.j0]) (ev_neg (by simp) ?_)
          rw [hw2]
          exact ev_pos hk (ev_pos hp0 (ev_neg (by omega) (ev_val rfl)))
        · rw [wid (by omega) (by omega)]; exact (tm _ hr.1).1
        · rw [wid (by omega) (by omega)]; exact Or.inl (tm _ hr.1).2
      · have tl : ∀ a : Int, 0 ≤ a → 0 ≤ Int.tmod a (l.length : Int) ∧ Int.tmod a (l.length : Int) < (l.length : Int) := fun a ha => by
          rw [Int.tmod_eq_emod_of_nonneg ha]
          exact ⟨Int.emod_nonneg _ (by omega), Int.emod_lt_of_pos _ (by omega)⟩
        have h1 := tl p hp0
        have hw3 : wrap64 (p * 7) = p * 7 := wid (by omega) (by omega)
        have hw4 : wrap64 (p * 7 + 3) = p * 7 + 3 := wid (by omega) (by omega)
        have h2 := tl (p * 7 + 3) (by omega)
        have r1 := rb _ h1.1 h1.2
        have r2 := rb _ h2.1 h2.2
        generalize hA : Int.tmod p (l.length : Int) = A at *
        generalize hB : Int.tmod (p * 7 + 3) (l.length : Int) = B at *
        have hq : 0 ≤ Int.tdiv p (l.length : Int) ∧ Int.tdiv p (l.length : Int) ≤ 1000000 := by
          rw [Int.tdiv_eq_ediv_of_nonneg hp0]
          exact ⟨Int.ediv_nonneg hp0 (by omega), Int.le_trans (Int.ediv_le_self _ hp0) hp1⟩
        generalize hQ : Int.tdiv p (l.length : Int) = Q at *
        have hx : wrap64 (wrap64 (wrap64 (wrap64 (wrap64 (rd l A) * 131) + wrap64 (wrap64 (rd l B) * 1117)) + wrap64 (p * 29)) + wrap64 (wrap64 Q * 53)) = rd l A * 131 + rd l B * 1117 + p * 29 + Q * 53 := by
          rw [wid (x := rd l A) (by omega) (by omega), wid (x := rd l B) (by omega) (by omega), wid (x := Q) (by omega) (by omega), wid (x := rd l A * 131) (by omega) (by omega), wid (x := rd l B * 1117) (by omega) (by omega), wid (x := p * 29) (by omega) (by omega), wid (x := Q * 53) (by omega) (by omega)]
          rw [wid (x := rd l A * 131 + rd l B * 1117) (by omega) (by omega), wid (x := rd l A * 131 + rd l B * 1117 + p * 29) (by omega) (by omega), wid (by omega) (by omega)]
        obtain ⟨X, hX⟩ : ∃ X, X = rd l A * 131 + rd l B * 1117 + p * 29 + Q * 53 := ⟨_, rfl⟩
        have hX0 : 0 ≤ X ∧ X < 1099511627776 := by omega
        have hd : 0 ≤ Int.tdiv X 64 ∧ Int.tdiv X 64 < 1099511627776 := by
          rw [Int.tdiv_eq_ediv_of_nonneg hX0.1]
          omega
        have hb := xor_nonneg X (Int.tdiv X 64) hX0.1 hX0.2 hd.1 hd.2
        refine ⟨Int.tmod (Go.bits .xor .i64 X (Int.tdiv X 64)) n, ?_, (tm _ hb).1, Or.inl (tm _ hb).2⟩
        refine Ev.congr (fun k => by rw [spec_l6Rd_pick.f]) (ev_neg hn ?_)
        rw [e, hw]
        refine Ev.step (fun k => by rw [spec_l6Rd_pick.j0]) (ev_neg (by simp) ?_)
        rw [hw2, hw3, hw4, hA, hB, hQ, hx, ← hX, wid (x := Int.tdiv X 64) (by omega) (by omega)]
        exact ev_neg hk (ev_neg (by omega) (ev_pos h1.1 (ev_pos h1.2 (ev_pos h2.1 (ev_pos h2.2 (ev_neg (by omega) (ev_val rfl)))))))

theorem spec_l92Step_ev (l : List Int) (p : Int) (hl : l.length ≤ 2000) (hb : ∀ x ∈ l, 0 ≤ x ∧ x ≤ 255) (hp0 : 0 ≤ p) (hp1 : p ≤ 100000) : ∃ s : List Int, Ev (fun k => spec_l92Step.f k l p 3) (s, p + 2) ∧ s.length = 2 := by
  obtain ⟨u, eu, u1, u2⟩ := spec_pick_ev l p (wrap64 ((wrap64 (2 * 3)) + 1)) hl hb hp0 (by omega)
  obtain ⟨v, ev, v1, v2⟩ := spec_pick_ev l (p + 1) (wrap64 ((wrap64 (2 * 3)) + 1)) hl hb (by omega) (by omega)
  have e : p + 1 + 1 = p + 2 := by omega
  rw [e] at ev
  by_cases c1 : wrap64 (u - 3) = 0
  · by_cases c2 : wrap64 (v - 3) = 0
    · exact ⟨_, Ev.congr (fun k => by rw [spec_l92Step.f]) (Ev.bind eu (Ev.bind ev (ev_pos c1 (ev_pos c2 (ev_val rfl))))), rfl⟩
    · exact ⟨_, Ev.congr (fun k => by rw [spec_l92Step.f]) (Ev.bind eu (Ev.bind ev (ev_pos c1 (ev_neg c2 (ev_val rfl))))), rfl⟩
  · exact ⟨_, Ev.congr (fun k => by rw [spec_l92Step.f]) (Ev.bind eu (Ev.bind ev (ev_neg c1 (ev_val rfl)))), rfl⟩

theorem spec_l6sHalf_some (a : List Int) (ha : a.length = 2) : ∃ t, spec_l6sHalf.f a = some t := by
  match a, ha with
  | [x, y], _ =>
    unfold spec_l6sHalf.f
    simp only [List.length_cons, List.length_nil]
    repeat (first | exact ⟨_, rfl⟩ | rw [if_pos (by omega)] | split)
theorem spec_l6sCross_two (a b : List Int) (ha : a.length = 2) (hb : b.length = 2) : ∃ t, spec_l6sCross.f a b = some t := by
  unfold spec_l6sCross.f
  rw [if_pos (by omega), if_pos (by omega), if_pos (by omega), if_pos (by omega)]
  exact ⟨_, rfl⟩
theorem spec_l6sBefore_some (a b : List Int) (ha : a.length = 2) (hb : b.length = 2) : ∃ t, spec_l6sBefore.f a b = some t := by
  obtain ⟨x, hx⟩ := spec_l6sHalf_some a ha
  obtain ⟨y, hy⟩ := spec_l6sHalf_some b hb
  obtain ⟨z, hz⟩ := spec_l6sCross_two a b ha hb
  unfold spec_l6sBefore.f
  rw [hx, hy, hz]
  simp only [Option.bind_some]
  split
  · exact ⟨_, rfl⟩
  · exact ⟨_, rfl⟩

def rot (p : List (List Int)) (a : Nat) : List (List Int) := p.drop a ++ p.take a
theorem rot_len {p : List (List Int)} {a : Nat} (h : a ≤ p.length) : (rot p a).length = p.length := by
  unfold rot
  rw [List.length_append, List.length_drop, List.length_take]
  omega
theorem rot_rl {p : List (List Int)} {a i : Nat} (h : a < p.length) (hi : i < p.length) : rl (rot p a) (i : Int) = rl p (((a + i) % p.length : Nat) : Int) := by
  have hm : (a + i) % p.length < p.length := Nat.mod_lt _ (by omega)
  rw [rl_get (by rw [rot_len (by omega)]; exact hi), rl_get hm]
  unfold rot
  by_cases c : i < p.length - a
  · rw [List.getElem_append_left (by rw [List.length_drop]; exact c), List.getElem_drop]
    congr 1
    rw [Nat.mod_eq_of_lt (by omega)]
  · rw [List.getElem_append_right (by rw [List.length_drop]; omega), List.getElem_take]
    congr 1
    rw [List.length_drop, Nat.mod_eq_sub_mod (by omega), Nat.mod_eq_of_lt (by omega)]
    omega
theorem take_rl {l : List (List Int)} {i : Nat} (h : i < l.length) : l.take (i + 1) = l.take i ++ [rl l (i : Int)] := by
  rw [rl_get h]
  exact List.take_succ_eq_append_getElem h
theorem two_list {s : List Int} (h : s.length = 2) : [rd s 0, rd s 1] = s := by
  match s, h with
  | [a, b], _ => rfl
theorem rot_mem {p : List (List Int)} {a : Nat} {x : List Int} (h : x ∈ rot p a) : x ∈ p := by
  unfold rot at h
  rw [List.mem_append] at h
  rcases h with h | h
  · exact List.mem_of_mem_drop h
  · exact List.mem_of_mem_take h
noncomputable def beginM (p : List (List Int)) (a : Int) : List (List Int) × Bool := bif bl (PIn p ∧ 0 ≤ a ∧ a < p.length) then (rot p a.toNat, true) else ([], false)
theorem pin_all2 {p : List (List Int)} (h : PIn p) {x : List Int} (hx : x ∈ p) : x.length = 2 := by
  obtain ⟨i, hi, rfl⟩ := List.getElem_of_mem hx
  rw [← rl_get hi]
  exact (h.step hi).1

theorem spec_l7Sorted_ev (l : List (List Int)) (hn : l.length ≤ 1000) (h2 : ∀ x ∈ l, x.length = 2) : ∃ m : List (List Int), Ev (fun k => spec_l7Sorted.f k l) m ∧ m.length = l.length ∧ (∀ x ∈ m, x ∈ l) := by
  have key := up_ex (σ := List (List Int)) l.length (fun k s i => spec_l7Sorted.l0 k l s i) (fun m => m.length = l.length ∧ (∀ x ∈ m, x ∈ l)) (fun s i => s.length = i ∧ ∀ x ∈ s, x ∈ l)
    (by
      intro s hs
      refine ⟨s, ?_, hs.1, hs.2⟩
      refine Ev.step (fun k => by rw [spec_l7Sorted.l0]) ?_
      exact ev_neg (by omega) (ev_val rfl))
    (by
      intro s i hi hs ih
      have hfin : ∀ j : Nat, j ≤ s.length → ∃ r, Ev (fun k => (some (([] : List (List Int)) : List (List Int))).bind fun y118 => (if 0 ≤ (j : Int) then (if (j : Int) ≤ (s.length : Int) then ((some (s.take (j : Int).toNat : List (List Int))).bind fun y121 => (if y118.length + y121.length < 5864062014805 then ((some (y118 ++ y121 : List (List Int))).bind fun y125 => ((some (([(([rd (rl l (i : Int)) 0, rd (rl l (i : Int)) 1] : List Int))] : List (List Int)) : List (List Int))).bind fun y129 => (if y125.length + y129.length < 5864062014805 then ((some (y125 ++ y129 : List (List Int))).bind fun y132 => ((some (s.drop (j : Int).toNat : List (List Int))).bind fun y135 => (if y132.length + y135.length < 5864062014805 then (spec_l7Sorted.l0 k l (y132 ++ y135) (wrap64 ((i : Int) + 1))) else (none)))) else (none)))) else (none))) else (none)) else (none))) r ∧ r.length = l.length ∧ (∀ x ∈ r, x ∈ l) := by
        intro j hj
        obtain ⟨r, h1, hq⟩ := ih ([] ++ s.take j ++ [[rd (rl l (i : Int)) 0, rd (rl l (i : Int)) 1]] ++ s.drop j) ⟨by simp; omega, by
          intro x hx
          simp only [List.nil_append, List.append_assoc, List.mem_append, List.mem_singleton] at hx
          rcases hx with hx | hx | hx
          · exact hs.2 x (List.mem_of_mem_take hx)
          · rw [hx, two_list (h2 _ (rl_mem hi))]; exact rl_mem hi
          · exact hs.2 x (List.mem_of_mem_drop hx)⟩
        refine ⟨r, ?_, hq⟩
        rw [wsucc hi (by omega), show ((j : Nat) : Int).toNat = j by omega]
        refine ev_opt rfl (ev_pos (by omega) (ev_pos (by omega) (ev_opt rfl (ev_pos (by simp; omega) (ev_opt rfl (ev_opt rfl (ev_pos (by simp; omega) (ev_opt rfl (ev_opt rfl (ev_pos (by simp; omega) h1))))))))))
      have hli := h2 _ (rl_mem hi)
      have hin : ∀ j : Nat, j ≤ s.length → ∃ r, Ev (fun k => spec_l7Sorted.l1 k l s (i : Int) (j : Int)) r ∧ r.length = l.length ∧ (∀ x ∈ r, x ∈ l) := by
        intro j
        induction j with
        | zero =>
          intro _
          obtain ⟨r, h1, hq⟩ := hfin 0 (by omega)
          refine ⟨r, ?_, hq⟩
          refine Ev.step (fun k => by rw [spec_l7Sorted.l1]) (ev_neg (by omega) ?_)
          exact ev_pos (by omega) (ev_pos (by omega) (ev_pos (by show 0 < ((rl l (i : Int)).length : Int); omega) (ev_pos (by show 1 < ((rl l (i : Int)).length : Int); omega) h1)))
        | succ j ihj =>
          intro hj
          obtain ⟨r0, h0⟩ := ihj (by omega)
          obtain ⟨r1, h1⟩ := hfin (j + 1) hj
          obtain ⟨t, ht⟩ := spec_l6sBefore_some (rl l (i : Int)) (rl s (j : Int)) hli (h2 _ (hs.2 _ (rl_mem (by omega))))
          cases t with
          | true =>
            refine ⟨r0, ?_, h0.2⟩
            refine Ev.step (fun k => by rw [spec_l7Sorted.l1]) ?_
            rw [wid (x := ((j + 1 : Nat) : Int) - 1) (by omega) (by omega), show ((j + 1 : Nat) : Int) - 1 = (j : Int) by omega]
            exact ev_pos (by omega) (ev_pos (by omega) (ev_pos (by omega) (ev_pos (by omega) (ev_pos (by omega) (ev_opt ht (ev_pos rfl h0.1))))))
          | false =>
            refine ⟨r1, ?_, h1.2⟩
            refine Ev.step (fun k => by rw [spec_l7Sorted.l1]) ?_
            rw [wid (x := ((j + 1 : Nat) : Int) - 1) (by omega) (by omega), show ((j + 1 : Nat) : Int) - 1 = (j : Int) by omega]
            exact ev_pos (by omega) (ev_pos (by omega) (ev_pos (by omega) (ev_pos (by omega) (ev_pos (by omega) (ev_opt ht (ev_neg (by simp) (ev_pos (by show 0 < ((rl l (i : Int)).length : Int); omega) (ev_pos (by show 1 < ((rl l (i : Int)).length : Int); omega) h1.1))))))))
      obtain ⟨r, h1, hq⟩ := hin s.length (Nat.le_refl _)
      refine ⟨r, ?_, hq⟩
      refine Ev.step (fun k => by rw [spec_l7Sorted.l0]) ?_
      exact ev_pos (by omega) h1)
  obtain ⟨r, h1, hq⟩ := key [] 0 (by omega) ⟨rfl, fun x hx => by simp at hx⟩
  exact ⟨r, Ev.congr (fun k => by rw [spec_l7Sorted.f]; rfl) h1, hq⟩

def Two (s : List (List Int)) : Prop := ∀ x ∈ s, x.length = 2
theorem two_app {s : List (List Int)} (h : Two s) (a b : Int) : Two (s ++ [[a, b]]) := by
  intro x hx
  rw [List.mem_append, List.mem_singleton] at hx
  rcases hx with hx | hx
  · exact h x hx
  · rw [hx]; rfl
theorem l92j3 (l : List Int) (p : Int) (s : List (List Int)) (hl : l.length ≤ 2000) (hb : ∀ x ∈ l, 0 ≤ x ∧ x ≤ 255) (hp0 : 0 ≤ p) (hp1 : p ≤ 100000) (h1 : 1 ≤ s.length) (h2 : s.length ≤ 900) : ∃ (m : List (List Int)) (q : Int), Ev (fun k => spec_l92Path.j3 k s l p) (m, q) ∧ m.length ≤ 1000 := by
  obtain ⟨u, eu, _, _⟩ := spec_pick_ev l p 40 hl hb hp0 (by omega)
  by_cases c0 : u = 0
  · refine ⟨s ++ [[1, 0]], p + 1, Ev.step (fun k => by rw [spec_l92Path.j3]) ?_, by simp; omega⟩
    exact Ev.bind eu (ev_pos c0 (ev_pos (by omega) (ev_val rfl)))
  · by_cases c1 : u = 1
    · have et : tailRow.f s = some (s.drop 1) := by unfold tailRow.f; rw [if_pos h1]
      refine ⟨s.drop 1, p + 1, Ev.step (fun k => by rw [spec_l92Path.j3]) ?_, by rw [List.length_drop]; omega⟩
      exact Ev.bind eu (ev_neg c0 (ev_pos c1 (ev_opt et (ev_val rfl))))
    · refine ⟨s, p + 1, Ev.step (fun k => by rw [spec_l92Path.j3]) ?_, by omega⟩
      exact Ev.bind eu (ev_neg c0 (ev_neg c1 (ev_val rfl)))
theorem l92j2 (l : List Int) (p : Int) (s : List (List Int)) (x y : Int) (hl : l.length ≤ 2000) (hb : ∀ x ∈ l, 0 ≤ x ∧ x ≤ 255) (hp0 : 0 ≤ p) (hp1 : p ≤ 99000) (h2 : s.length ≤ 800) (hs : Two s) : ∃ (m : List (List Int)) (q : Int), Ev (fun k => spec_l92Path.j2 k s x y l p) (m, q) ∧ m.length ≤ 1000 := by
  obtain ⟨u, eu, _, _⟩ := spec_pick_ev l p 2 hl hb hp0 (by omega)
  have hlen : (s ++ [[wrap64 (-x), wrap64 (-y)]]).length = s.length + 1 := by simp
  by_cases c0 : u = 0
  · obtain ⟨t, et, t1, t2⟩ := spec_l7Sorted_ev (s ++ [[wrap64 (-x), wrap64 (-y)]]) (by omega) (two_app hs _ _)
    obtain ⟨m, q, e3, hm⟩ := l92j3 l (p + 1) t hl hb (by omega) (by omega) (by omega) (by omega)
    refine ⟨m, q, Ev.step (fun k => by rw [spec_l92Path.j2]) ?_, hm⟩
    refine ev_pos (by omega) (ev_opt rfl (Ev.bind eu ?_))
    exact ev_pos c0 (Ev.bind et e3)
  · obtain ⟨m, q, e3, hm⟩ := l92j3 l (p + 1) (s ++ [[wrap64 (-x), wrap64 (-y)]]) hl hb (by omega) (by omega) (by omega) (by omega)
    refine ⟨m, q, Ev.step (fun k => by rw [spec_l92Path.j2]) ?_, hm⟩
    refine ev_pos (by omega) (ev_opt rfl (Ev.bind eu ?_))
    exact ev_neg c0 e3
theorem l92j1 (l : List Int) (p : Int) (s : List (List Int)) (x y : Int) (b : Bool) (hl : l.length ≤ 2000) (hb : ∀ x ∈ l, 0 ≤ x ∧ x ≤ 255) (hp0 : 0 ≤ p) (hp1 : p ≤ 99000) (h2 : s.length ≤ 800) (hs : Two s) : ∃ (m : List (List Int)) (q : Int), Ev (fun k => spec_l92Path.j1 k s x y b l p) (m, q) ∧ m.length ≤ 1000 := by
  cases b with
  | true =>
    obtain ⟨m, q, e, hm⟩ := l92j2 l p [[2, 1], [-1, 2]] 1 3 hl hb hp0 hp1 (by simp) (by intro x hx; simp at hx; rcases hx with hx | hx <;> (rw [hx]; rfl))
    exact ⟨m, q, Ev.step (fun k => by rw [spec_l92Path.j1]) (ev_pos rfl e), hm⟩
  | false =>
    obtain ⟨m, q, e, hm⟩ := l92j2 l p s x y hl hb hp0 hp1 h2 hs
    exact ⟨m, q, Ev.step (fun k => by rw [spec_l92Path.j1]) (ev_neg (by simp) e), hm⟩
theorem spec_l92Path_ev (l : List Int) (p : Int) (hl : l.length ≤ 2000) (hb : ∀ x ∈ l, 0 ≤ x ∧ x ≤ 255) (hp0 : 0 ≤ p) (hp1 : p ≤ 1000) : ∃ (m : List (List Int)) (q : Int), Ev (fun k => spec_l92Path.f k l p 8) (m, q) ∧ m.length ≤ 1000 := by
  obtain ⟨u, eu, u1, u2⟩ := spec_pick_ev l p (wrap64 (8 - 2)) hl hb hp0 (by omega)
  have e6 : wrap64 (8 - 2) = 6 := wid (by omega) (by omega)
  rw [e6] at u2
  obtain ⟨n, rfl⟩ := Int.eq_ofNat_of_zero_le u1
  have key := up_ex (σ := List (List Int) × Int × Int × Int) (n + 2) (fun k s i => spec_l92Path.l0 k ((n + 2 : Nat) : Int) s.1 s.2.1 s.2.2.1 i l s.2.2.2) (fun r => r.1.length ≤ 1000) (fun s i => s.1.length = i ∧ Two s.1 ∧ s.2.2.2 = p + 1 + 2 * (i : Int))
    (by
      rintro ⟨s, x, y, q⟩ ⟨h1, h2, h3⟩
      simp only [] at h1 h2 h3
      have go : ∀ b : Bool, ∃ r, Ev (fun k => spec_l92Path.j1 k s x y b l q) r ∧ r.1.length ≤ 1000 := by
        intro b
        obtain ⟨m, q2, e, hm⟩ := l92j1 l q s x y b hl hb (by omega) (by omega) (by omega) h2
        exact ⟨(m, q2), e, hm⟩
      by_cases c1 : mx x (wrap64 (-x)) > 9
      · obtain ⟨r, e, hr⟩ := go true
        exact ⟨r, Ev.step (fun k => by rw [spec_l92Path.l0]) (ev_neg (by omega) (ev_pos c1 e)), hr⟩
      · by_cases c2 : mx y (wrap64 (-y)) > 9
        · obtain ⟨r, e, hr⟩ := go true
          exact ⟨r, Ev.step (fun k => by rw [spec_l92Path.l0]) (ev_neg (by omega) (ev_neg c1 (ev_pos c2 e))), hr⟩
        · by_cases c3 : x = 0
          · obtain ⟨r, e, hr⟩ := go (y == 0)
            exact ⟨r, Ev.step (fun k => by rw [spec_l92Path.l0]) (ev_neg (by omega) (ev_neg c1 (ev_neg c2 (ev_pos c3 e)))), hr⟩
          · obtain ⟨r, e, hr⟩ := go false
            exact ⟨r, Ev.step (fun k => by rw [spec_l92Path.l0]) (ev_neg (by omega) (ev_neg c1 (ev_neg c2 (ev_neg c3 e)))), hr⟩)
    (by
      rintro ⟨s, x, y, q⟩ i hi ⟨h1, h2, h3⟩ ih
      simp only [] at h1 h2 h3
      obtain ⟨t, et, ht⟩ := spec_l92Step_ev l q hl hb (by omega) (by omega)
      obtain ⟨r, e, hr⟩ := ih (s ++ [t], wrap64 (x + rd t 0), wrap64 (y + rd t 1), q + 2) ⟨by simp [h1], by
        intro z hz
        rw [List.mem_append, List.mem_singleton] at hz
        rcases hz with hz | hz
        · exact h2 z hz
        · rw [hz]; exact ht, by show q + 2 = _; omega⟩
      refine ⟨r, ?_, hr⟩
      refine Ev.step (fun k => by rw [spec_l92Path.l0]) ?_
      rw [wsucc hi (by omega)]
      refine ev_pos (by omega) (Ev.bind et (ev_pos (by show s.length < 5864062014805; omega) (ev_pos (by show 0 < (t.length : Int); omega) (ev_pos (by show 1 < (t.length : Int); omega) e))))
      )
  obtain ⟨r, e, hr⟩ := key ([], 0, 0, p + 1) 0 (by omega) ⟨rfl, fun x hx => by simp at hx, by show p + 1 = _; omega⟩
  obtain ⟨m, q⟩ := r
  refine ⟨m, q, Ev.congr (fun k => by rw [spec_l92Path.f]) (Ev.bind eu ?_), hr⟩
  rw [wid (x := 2 + (n : Int)) (by omega) (by omega), show (2 + (n : Int)) = ((n + 2 : Nat) : Int) from by omega]
  exact e

theorem spec_l6Open_ev (l : List Int) : ∃ m : List Int, spec_l6Open.f l = some (m, 0) ∧ m.length ≤ 2000 ∧ (∀ x ∈ m, x ∈ l) := by
  unfold spec_l6Open.f
  by_cases h : (l.length : Int) > 2000
  · rw [if_pos h, if_pos (by omega)]
    exact ⟨_, rfl, by simp; omega, fun x hx => List.mem_of_mem_take hx⟩
  · rw [if_neg h]
    exact ⟨_, rfl, by omega, fun x hx => hx⟩

theorem l6In_eq (a b c : Int) : spec_l6In.f a b c = some (decide (b ≤ a ∧ a ≤ c)) := by
  unfold spec_l6In.f
  by_cases h : a ≥ b
  · rw [if_pos h]
    simp [show b ≤ a from h]
  · rw [if_neg h]
    simp [show ¬ b ≤ a from h]

theorem spec_l6sStep_eq (s : List Int) : spec_l6sStep.f s = some (bl (StepOk s)) := by
  unfold spec_l6sStep.f
  by_cases h : s.length = 2
  · rw [if_pos (by omega), if_pos (by omega), l6In_eq, Option.bind_some]
    by_cases h0 : -9 ≤ rd s 0 ∧ rd s 0 ≤ 9
    · rw [decide_eq_true h0, if_pos rfl, if_pos (by omega), l6In_eq, Option.bind_some]
      by_cases h1 : -9 ≤ rd s 1 ∧ rd s 1 ≤ 9
      · rw [decide_eq_true h1, if_pos rfl]
        by_cases h2 : rd s 0 = 0
        · rw [if_pos h2]
          congr 1
          by_cases h3 : rd s 1 = 0
          · rw [h3, bl_false (fun h => h.2.2.2 ⟨h2, h3⟩)]; rfl
          · rw [bl_true ⟨h, h0, h1, fun h => h3 h.2⟩, bne_iff_ne]; exact h3
        · rw [if_neg h2, bl_true ⟨h, h0, h1, fun h => h2 h.1⟩]
      · rw [decide_eq_false h1, if_neg (by simp), bl_false (fun h => h1 h.2.2.1)]
    · rw [decide_eq_false h0, if_neg (by simp), bl_false (fun h => h0 h.2.1)]
  · rw [if_neg (by omega), bl_false (fun hs => h hs.1)]
theorem spec_l6sSum_ev (p : List (List Int)) (hn : p.length ≤ 1048576) (h : PSteps p) : Ev (fun k => spec_l6sSum.f k p) (sX p p.length, sY p p.length) := by
  have key := up_ev (σ := Int × Int) p.length (fun k s i => spec_l6sSum.l0 k p s.1 s.2 i) (fun _ _ => (sX p p.length, sY p p.length)) (fun s i => s = (sX p i, sY p i))
    (by
      intro s hs
      refine Ev.step (fun k => by rw [spec_l6sSum.l0]) ?_
      exact ev_neg (by omega) (ev_val (by rw [hs])))
    (by
      intro s i hi hs ih
      have hi2 := h i hi
      have bx := sX_bd (p := p) i fun j hj => h j (by omega)
      have by_ := sY_bd (p := p) i fun j hj => h j (by omega)
      refine Ev.step (fun k => by rw [spec_l6sSum.l0]) ?_
      have hlen : ((rl p (i : Int)).length : Int) = 2 := by have := hi2.1; omega
      refine ev_pos (by omega) (ev_pos (by omega) (ev_pos (by show 0 < ((rl p (i : Int)).length : Int); omega) (ev_pos (by show 1 < ((rl p (i : Int)).length : Int); omega) ?_)))
      have b1 := hi2.2.1
      have b2 := hi2.2.2.1
      subst hs
      show Ev (fun k => spec_l6sSum.l0 k p (wrap64 (sX p i + rd (rl p (i : Int)) 0)) (wrap64 (sY p i + rd (rl p (i : Int)) 1)) (wrap64 ((i : Int) + 1))) _
      rw [wsucc hi (by omega), wid (x := sX p i + rd (rl p (i : Int)) 0) (by omega) (by omega), wid (x := sY p i + rd (rl p (i : Int)) 1) (by omega) (by omega)]
      exact ih (_, _) rfl)
  refine Ev.congr (fun k => by rw [spec_l6sSum.f]) ?_
  exact key (0, 0) 0 (by omega) rfl
theorem spec_PathIn_ev (p : List (List Int)) (hn : p.length ≤ 1048576) : Ev (fun k => spec_PathIn.f k p) (bl (PIn p)) := by
  have key := up_ev (σ := Unit) p.length (fun k _ i => spec_PathIn.l0 k p i) (fun _ _ => bl (PIn p)) (fun _ i => ∀ j : Nat, j < i → StepOk (rl p (j : Int)))
    (by
      intro _ hs
      refine Ev.step (fun k => by rw [spec_PathIn.l0]) ?_
      refine ev_neg (by omega) (Ev.bind (spec_l6sSum_ev p hn hs) (ev_opt (l6In_eq _ _ _) ?_))
      refine ev_ite (fun c => ?_) (fun c => ev_val ?_)
      · have c := of_decide_eq_true c
        refine ev_ite (fun c1 => ev_val ?_) (fun c1 => ev_val ?_)
        · by_cases c2 : sY p p.length = 0
          · rw [bl_true ⟨by omega, hs, c1, c2⟩, beq_iff_eq]; exact c2
          · rw [bl_false (fun h => c2 h.2.2.2), beq_eq_false_iff_ne]; exact c2
        · exact (bl_false (fun h => c1 h.2.2.1)).symm
      · refine (bl_false (fun h => c (decide_eq_true ?_))).symm
        have := h.1
        omega)
    (by
      intro _ i hi hs ih
      refine Ev.step (fun k => by rw [spec_PathIn.l0]) ?_
      refine ev_pos (by omega) (ev_pos (by omega) (ev_opt (spec_l6sStep_eq _) ?_))
      refine ev_ite (fun c => ?_) (fun c => ev_val ?_)
      · rw [wsucc hi (by omega)]
        refine ih () fun j hj => ?_
        by_cases e : j = i
        · subst e; exact bl_iff.1 c
        · exact hs j (by omega)
      · exact (bl_false (fun h => c (bl_true (h.2.1 i hi)))).symm)
  refine Ev.congr (fun k => by rw [spec_PathIn.f]) ?_
  exact key () 0 (by omega) fun j hj => by omega

theorem impl_isStep_eq (s : List Int) : impl_isStep.f s = some (bl (StepOk s)) := by
  unfold impl_isStep.f
  by_cases h : s.length = 2
  · rw [if_pos (by omega), if_pos (by omega)]
    by_cases a1 : rd s 0 ≥ -9
    · rw [if_pos a1]
      by_cases a2 : rd s 0 ≤ 9
      · rw [if_pos a2, if_pos (by omega)]
        by_cases b1 : rd s 1 ≥ -9
        · rw [if_pos b1]
          by_cases b2 : rd s 1 ≤ 9
          · rw [if_pos b2]
            by_cases h2 : rd s 0 = 0
            · rw [if_pos h2]
              congr 1
              by_cases h3 : rd s 1 = 0
              · rw [h3, bl_false (fun h => h.2.2.2 ⟨h2, h3⟩)]; rfl
              · rw [bl_true ⟨h, ⟨a1, a2⟩, ⟨b1, b2⟩, fun h => h3 h.2⟩, bne_iff_ne]; exact h3
            · rw [if_neg h2, bl_true ⟨h, ⟨a1, a2⟩, ⟨b1, b2⟩, fun h => h2 h.1⟩]
          · rw [if_neg b2, bl_false (fun h => b2 h.2.2.1.2)]
        · rw [if_neg b1, bl_false (fun h => b1 h.2.2.1.1)]
      · rw [if_neg a2, bl_false (fun h => a2 h.2.1.2)]
    · rw [if_neg a1, bl_false (fun h => a1 h.2.1.1)]
  · rw [if_neg (by omega), bl_false (fun hs => h hs.1)]
theorem impl_PathIn_ev (p : List (List Int)) (hn : p.length ≤ 1048576) : Ev (fun k => impl_PathIn.f k p) (bl (PIn p)) := by
  have ht : ¬ (3 ≤ p.length ∧ p.length ≤ 8) → Ev (fun k => impl_PathIn.j0 k p true) (bl (PIn p)) := by
    intro h
    refine Ev.step (fun k => by rw [impl_PathIn.j0]) ?_
    exact ev_pos rfl (ev_val (bl_false (fun hp => h hp.1)).symm)
  refine Ev.congr (fun k => by rw [impl_PathIn.f]) (ev_ite (fun c => ht (by omega)) (fun c => ?_))
  by_cases c2 : (p.length : Int) > 8
  · rw [decide_eq_true c2]
    exact ht (by omega)
  · rw [decide_eq_false c2]
    refine Ev.step (fun k => by rw [impl_PathIn.j0]) (ev_neg (by simp) ?_)
    have key := up_ev (σ := Int × Int) p.length (fun k s i => impl_PathIn.l0 k s.1 s.2 p (p.length : Int) i) (fun _ _ => bl (PIn p)) (fun s i => s = (sX p i, sY p i) ∧ ∀ j : Nat, j < i → StepOk (rl p (j : Int)))
      (by
        intro s hs
        obtain ⟨rfl, hs⟩ := hs
        refine Ev.step (fun k => by rw [impl_PathIn.l0]) ?_
        refine ev_neg (by omega) (ev_ite (fun c1 => ev_val ?_) (fun c1 => ev_val ?_))
        · by_cases c2 : sY p p.length = 0
          · rw [bl_true ⟨by omega, hs, c1, c2⟩, beq_iff_eq]; exact c2
          · rw [bl_false (fun h => c2 h.2.2.2), beq_eq_false_iff_ne]; exact c2
        · exact (bl_false (fun h => c1 h.2.2.1)).symm)
      (by
        intro s i hi hs ih
        obtain ⟨rfl, hs⟩ := hs
        refine Ev.step (fun k => by rw [impl_PathIn.l0]) ?_
        refine ev_pos (by omega) (ev_pos (by omega) (ev_pos (by omega) (ev_opt (impl_isStep_eq _) ?_)))
        refine ev_ite (fun c => ?_) (fun c => ev_val ?_)
        · have hi2 : StepOk (rl p (i : Int)) := bl_iff.1 c
          have bx := sX_bd (p := p) i hs
          have by_ := sY_bd (p := p) i hs
          have hlen : ((rl p (i : Int)).length : Int) = 2 := by have := hi2.1; omega
          have b1 := hi2.2.1
          have b2 := hi2.2.2.1
          refine ev_pos (by show 0 < ((rl p (i : Int)).length : Int); omega) (ev_pos (by show 1 < ((rl p (i : Int)).length : Int); omega) ?_)
          show Ev (fun k => impl_PathIn.l0 k (wrap64 (sX p i + rd (rl p (i : Int)) 0)) (wrap64 (sY p i + rd (rl p (i : Int)) 1)) p (p.length : Int) (wrap64 ((i : Int) + 1))) _
          rw [wsucc hi (by omega), wid (x := sX p i + rd (rl p (i : Int)) 0) (by omega) (by omega), wid (x := sY p i + rd (rl p (i : Int)) 1) (by omega) (by omega)]
          refine ih (_, _) ⟨rfl, fun j hj => ?_⟩
          by_cases e : j = i
          · subst e; exact hi2
          · exact hs j (by omega)
        · exact (bl_false (fun h => c (bl_true (h.2.1 i hi)))).symm)
    exact key (0, 0) 0 (by omega) ⟨rfl, fun j hj => by omega⟩

theorem impl_copySteps_ev (l : List (List Int)) (hn : l.length ≤ 1048576) (hw : ∀ x ∈ l, x.length ≤ 1048576) : Ev (fun k => impl_copySteps.f k l) l := by
  refine Ev.congr (fun k => by rw [impl_copySteps.f]) ?_
  have key := up_ev (σ := List (List Int)) l.length (fun k s i => impl_copySteps.l0 k s l (l.length : Int) i) (fun _ _ => l) (fun s i => s = l.take i)
    (by
      intro s hs
      refine Ev.step (fun k => by rw [impl_copySteps.l0]) ?_
      exact ev_neg (by omega) (ev_val (by rw [hs, List.take_length])))
    (by
      intro s i hi hs ih
      have hx := hw _ (rl_mem hi)
      have ec : slices_Clone_int_int.f (rl l (i : Int)) = some (rl l (i : Int)) := by
        unfold slices_Clone_int_int.f
        rw [if_pos (by omega)]
      have hl : s.length ≤ 1048576 := by rw [hs, List.length_take]; omega
      refine Ev.step (fun k => by rw [impl_copySteps.l0]) ?_
      rw [wsucc hi (by omega)]
      exact ev_pos (by omega) (ev_pos (by omega) (ev_pos (by omega) (ev_opt ec (ev_pos (by omega) (ih _ (by rw [take_rl hi, hs])))))))
  exact key [] 0 (by omega) (by simp)

theorem impl_PathBegin_ev (p : List (List Int)) (a : Int) (hn : p.length ≤ 1048576) : Ev (fun k => impl_PathBegin.f k p a) (beginM p a) := by
  unfold beginM
  refine Ev.congr (fun k => by rw [impl_PathBegin.f]) (Ev.bind (impl_PathIn_ev p hn) ?_)
  by_cases h : PIn p
  · have hl := h.1
    rw [bl_true h]
    refine ev_pos rfl (ev_ite (fun c1 => ev_val ?_) (fun c1 => ev_ite (fun c2 => ev_val ?_) (fun c2 => ?_)))
    · rw [bl_false (by omega)]; rfl
    · rw [bl_false (by omega)]; rfl
    · rw [bl_true ⟨h, by omega, by omega⟩]
      refine ev_pos (by omega) (Ev.bind (impl_copySteps_ev (rot p a.toNat) (by rw [rot_len (by omega)]; exact hn) (fun x hx => ?_)) (ev_val rfl))
      have := pin_all2 h (rot_mem hx)
      omega
  · rw [bl_false h, bl_false (fun q => h q.1)]
    exact ev_neg (by simp) (ev_val rfl)

def bk (p : List (List Int)) (n : Nat) : List (List Int) := (List.range n).map fun m => [-PX p (p.length - 1 - m), -PY p (p.length - 1 - m)]
theorem bk_len (p : List (List Int)) (n : Nat) : (bk p n).length = n := by simp [bk]
theorem bk_succ (p : List (List Int)) (n : Nat) : bk p (n + 1) = bk p n ++ [[-PX p (p.length - 1 - n), -PY p (p.length - 1 - n)]] := by
  simp [bk, List.range_succ]
theorem bdBack {p : List (List Int)} (h : PIn p) : (bk p p.length).length ≤ 1048576 ∧ ∀ x ∈ bk p p.length, x.length ≤ 1048576 := by
  have hl := h.1
  refine ⟨by rw [bk_len]; omega, fun x hx => ?_⟩
  obtain ⟨m, _, rfl⟩ := List.mem_map.1 hx
  simp

theorem impl_PathBack_ev (p : List (List Int)) (hn : p.length ≤ 1048576) : Ev (fun k => impl_PathBack.f k p) (bif bl (PIn p) then (bk p p.length, true) else ([], false)) := by
  refine Ev.congr (fun k => by rw [impl_PathBack.f]) (Ev.bind (impl_PathIn_ev p hn) (ev_ite (fun c => ?_) (fun c => ev_val ?_)))
  · have h := bl_iff.1 c
    have hl := h.1
    rw [c]
    have key : ∀ (d : Nat) (n : Nat), n + d = p.length → Ev (fun k => impl_PathBack.l0 k p (bk p n) ((d : Int) - 1)) (bk p p.length, true) := by
      intro d
      induction d with
      | zero =>
        intro n hn
        obtain rfl : n = p.length := by omega
        refine Ev.step (fun k => by rw [impl_PathBack.l0]) ?_
        exact ev_neg (by omega) (ev_val rfl)
      | succ d ih =>
        intro n hn
        have e1 : ((d + 1 : Nat) : Int) - 1 = (d : Int) := by omega
        rw [e1]
        have hst := h.step (i := d) (by omega)
        have hlen : ((rl p (d : Int)).length : Int) = 2 := by have := hst.1; omega
        have b1 := hst.2.1
        have b2 := hst.2.2.1
        have hi := ih (n + 1) (by omega)
        rw [bk_succ, show p.length - 1 - n = d from by omega] at hi
        refine Ev.step (fun k => by rw [impl_PathBack.l0]) ?_
        refine ev_pos (by omega) (ev_pos (by omega) (ev_pos (by omega) (ev_pos (by show 0 < ((rl p (d : Int)).length : Int); omega) (ev_pos (by show 1 < ((rl p (d : Int)).length : Int); omega) (ev_pos (by rw [bk_len]; omega) ?_)))))
        show Ev (fun k => impl_PathBack.l0 k p (bk p n ++ [[wrap64 (-(PX p d)), wrap64 (-(PY p d))]]) (wrap64 ((d : Int) - 1))) _
        rw [wid (x := -(PX p d)) (by omega) (by omega), wid (x := -(PY p d)) (by omega) (by omega), wid (x := (d : Int) - 1) (by omega) (by omega)]
        exact hi
    have := key p.length 0 (by omega)
    rw [show (p.length : Int) - 1 = wrap64 ((p.length : Int) - 1) from by rw [wid (by omega) (by omega)]] at this
    exact this
  · rw [Bool.not_eq_true] at c
    rw [c]; rfl

theorem sX_tot (p : List (List Int)) : ∀ n : Nat, n ≤ p.length → sX p n = tot ((p.map fun s => rd s 0).take n) := by
  intro n
  induction n with
  | zero => intro _; simp [sX, tot]
  | succ n ih =>
    intro hn
    have hl : n < (p.map fun s => rd s 0).length := by rw [List.length_map]; omega
    rw [tot_take hl, ← ih (by omega), rd_get hl]
    show sX p n + rd (rl p (n : Int)) 0 = _
    rw [rl_get (by omega), List.getElem_map]
theorem sY_tot (p : List (List Int)) : ∀ n : Nat, n ≤ p.length → sY p n = tot ((p.map fun s => rd s 1).take n) := by
  intro n
  induction n with
  | zero => intro _; simp [sY, tot]
  | succ n ih =>
    intro hn
    have hl : n < (p.map fun s => rd s 1).length := by rw [List.length_map]; omega
    rw [tot_take hl, ← ih (by omega), rd_get hl]
    show sY p n + rd (rl p (n : Int)) 1 = _
    rw [rl_get (by omega), List.getElem_map]
theorem rot_in {p : List (List Int)} (h : PIn p) {a : Nat} (ha : a < p.length) : PIn (rot p a) := by
  have hl := rot_len (p := p) (a := a) (by omega)
  have tt : ∀ f : List Int → Int, tot ((rot p a).map f) = tot (p.map f) := by
    intro f
    unfold rot
    rw [List.map_append, tot_app]
    have := tot_split (p.map f) a
    rw [← List.map_drop, ← List.map_take] at this
    omega
  refine ⟨by rw [hl]; exact h.1, fun j hj => ?_, ?_, ?_⟩
  · rw [hl] at hj
    rw [rot_rl ha hj]
    exact h.2.1 _ (Nat.mod_lt _ (by omega))
  · have e1 := sX_tot (rot p a) _ (Nat.le_refl _)
    have e2 := sX_tot p _ (Nat.le_refl _)
    rw [List.take_of_length_le (by simp)] at e1 e2
    rw [e1, tt, ← e2]
    exact h.2.2.1
  · have e1 := sY_tot (rot p a) _ (Nat.le_refl _)
    have e2 := sY_tot p _ (Nat.le_refl _)
    rw [List.take_of_length_le (by simp)] at e1 e2
    rw [e1, tt, ← e2]
    exact h.2.2.2
theorem bk_rl (p : List (List Int)) {n i : Nat} (h : i < n) : rl (bk p n) (i : Int) = [-PX p (p.length - 1 - i), -PY p (p.length - 1 - i)] := by
  rw [rl_get (by rw [bk_len]; exact h)]
  simp [bk]
theorem bk_in {p : List (List Int)} (h : PIn p) : PIn (bk p p.length) := by
  have hl := h.1
  have hx : ∀ n : Nat, n ≤ p.length → sX (bk p p.length) n = sX p (p.length - n) - sX p p.length := by
    intro n
    induction n with
    | zero => intro _; simp [sX]
    | succ n ih =>
      intro hn
      have e1 : sX (bk p p.length) (n + 1) = sX (bk p p.length) n + PX (bk p p.length) n := rfl
      have e2 : sX p (p.length - (n + 1) + 1) = sX p (p.length - (n + 1)) + PX p (p.length - (n + 1)) := rfl
      have e3 : PX (bk p p.length) n = -PX p (p.length - 1 - n) := by unfold PX; rw [bk_rl p (by omega)]; rfl
      rw [show p.length - (n + 1) + 1 = p.length - n from by omega] at e2
      rw [e1, ih (by omega), e3, show p.length - 1 - n = p.length - (n + 1) from by omega]
      omega
  have hy : ∀ n : Nat, n ≤ p.length → sY (bk p p.length) n = sY p (p.length - n) - sY p p.length := by
    intro n
    induction n with
    | zero => intro _; simp [sY]
    | succ n ih =>
      intro hn
      have e1 : sY (bk p p.length) (n + 1) = sY (bk p p.length) n + PY (bk p p.length) n := rfl
      have e2 : sY p (p.length - (n + 1) + 1) = sY p (p.length - (n + 1)) + PY p (p.length - (n + 1)) := rfl
      have e3 : PY (bk p p.length) n = -PY p (p.length - 1 - n) := by unfold PY; rw [bk_rl p (by omega)]; rfl
      rw [show p.length - (n + 1) + 1 = p.length - n from by omega] at e2
      rw [e1, ih (by omega), e3, show p.length - 1 - n = p.length - (n + 1) from by omega]
      omega
  refine ⟨by rw [bk_len]; exact hl, fun j hj => ?_, ?_, ?_⟩
  · rw [bk_len] at hj
    rw [bk_rl p hj]
    have hs := h.step (i := p.length - 1 - j) (by omega)
    refine ⟨rfl, ?_, ?_, ?_⟩
    · show -9 ≤ -PX p (p.length - 1 - j) ∧ -PX p (p.length - 1 - j) ≤ 9
      omega
    · show -9 ≤ -PY p (p.length - 1 - j) ∧ -PY p (p.length - 1 - j) ≤ 9
      omega
    · show ¬ (-PX p (p.length - 1 - j) = 0 ∧ -PY p (p.length - 1 - j) = 0)
      omega
  · rw [bk_len, hx _ (Nat.le_refl _), Nat.sub_self, h.2.2.1]
    rfl
  · rw [bk_len, hy _ (Nat.le_refl _), Nat.sub_self, h.2.2.2]
    rfl

theorem FnPath : laws_FnPath.Pure := by
  intro l0 hm h8 hw
  refine Ev.rounds (g := fun k => laws_FnPath.f k l0) ?_
  refine Ev.congr (fun k => by rw [laws_FnPath.f]) ?_
  refine ev_ite (fun c => ev_val rfl) (fun c => ?_)
  obtain ⟨c0, hc, hc1, hc2⟩ := spec_l6Open_ev l0
  have hbc : ∀ x ∈ c0, 0 ≤ x ∧ x ≤ 255 := fun x hx => wf8 (hw x (hc2 x hx))
  obtain ⟨p, q, em, hp⟩ := spec_l92Path_ev c0 0 hc1 hbc (by omega) (by omega)
  have hn : p.length ≤ 1048576 := by omega
  have ed : Ev (fun k => spec_DrawPathIn.f k l0) p := by
    refine Ev.congr (fun k => by rw [spec_DrawPathIn.f]) ?_
    refine ev_opt hc ?_
    exact Ev.bind em (ev_val rfl)
  refine Ev.bind ed (Ev.bind (impl_PathIn_ev p hn) (Ev.bind (spec_PathIn_ev p hn) (ev_neg (by simp) ?_)))
  by_cases h : PIn p
  · have hl := h.1
    rw [bl_true h]
    refine Ev.step (fun k => by rw [laws_FnPath.j0]) (ev_neg (by simp) ?_)
    have e1 := impl_PathBegin_ev p 1 hn
    have e2 := impl_PathBack_ev p hn
    unfold beginM at e1
    rw [bl_true ⟨h, by omega, by omega⟩] at e1
    rw [bl_true h] at e2
    have e3 := impl_PathIn_ev (rot p 1) (by rw [rot_len (by omega)]; exact hn)
    have e4 := impl_PathIn_ev (bk p p.length) (by rw [bk_len]; exact hn)
    rw [bl_true (rot_in h (a := 1) (by omega))] at e3
    rw [bl_true (bk_in h)] at e4
    exact Ev.bind e1 (Ev.bind e2 (ev_pos rfl (ev_pos rfl (Ev.bind e3 (ev_pos rfl (Ev.bind e4 (ev_val rfl)))))))
  · rw [bl_false h]
    refine Ev.step (fun k => by rw [laws_FnPath.j0]) ?_
    exact ev_pos rfl (ev_val rfl)

end Go.Proofs.Ytpeiefgkjfnfgaa.Pure
