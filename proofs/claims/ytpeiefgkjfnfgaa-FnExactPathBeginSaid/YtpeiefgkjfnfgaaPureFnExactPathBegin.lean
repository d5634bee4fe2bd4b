/- The plain part of the proof that the law FnExactPathBegin answers true for every input: what its printed functions compute answers true, for all lists and numbers that the walk hands over; no condition beyond those. -/
import Derived.Test.YtpeiefgkjfnfgaaPGx13
import Derived.Test.YtpeiefgkjfnfgaaM
import Derived.Test.YtpeiefgkjfnfgaaMf
import Derived.Test.YtpeiefgkjfnfgaaMp
namespace Go.Proofs.Ytpeiefgkjfnfgaa.Pure
open Go.RowKit Go.Proofs.Ytpeiefgkjfnfgaa.PG Go.Proofs.YtpeiefgkjfnfgaaW.PrintWords Go.Proofs.YtpeiefgkjfnfgaaW.PrintLast Go.Proofs.YtpeiefgkjfnfgaaW.PrintMore Go.Proofs.Ytpeiefgkjfnfgaa.M
set_option linter.unusedVariables false
set_option linter.unusedSimpArgs false
set_option maxRecDepth 4000

theorem laws_szIntS_eq (l : List Int) (a : Int) (hl : l.length ≤ 9223372036854775807) (h0 : 0 ≤ a) (h1 : a ≤ 1048576) : laws_szIntS.f l a = some (if a < l.length then -1 else a - l.length) := by
  unfold laws_szIntS.f
  rw [wid (by omega) (by omega)]
  by_cases h : a < l.length
  · rw [if_pos (by omega), if_pos h]
  · rw [if_neg (by omega), if_neg h]
theorem laws_szIntSS_ev (l : List (List Int)) (hl : l.length ≤ 9223372036854775807) (hw : ∀ x ∈ l, x.length ≤ 9223372036854775807) :
    ∃ r : Int, Ev (fun k => laws_szIntSS.f k l 1048576) r ∧ (r < 0 ∨ (l.length ≤ 1048576 ∧ ∀ x ∈ l, x.length ≤ 1048576)) := by
  by_cases h : (1048576 : Int) < l.length
  · refine ⟨-1, ?_, by omega⟩
    refine Ev.congr (fun k => by rw [laws_szIntSS.f]) ?_
    exact ev_pos (by rw [wid (by omega) (by omega)]; omega) (ev_val rfl)
  · have key := up_ex (σ := Int) l.length (fun k s i => laws_szIntSS.l0 k l s i) (fun r => r < 0 ∨ ∀ j : Nat, j < l.length → (rl l (j : Int)).length ≤ 1048576) (fun s i => (0 ≤ s ∧ s ≤ 1048576) ∧ ∀ j : Nat, j < i → (rl l (j : Int)).length ≤ 1048576)
      (by
        intro s hs
        refine ⟨s, ?_, Or.inr fun j hj => hs.2 j hj⟩
        refine Ev.step (fun k => by rw [laws_szIntSS.l0]) ?_
        exact ev_neg (by omega) (ev_val rfl))
      (by
        intro s i hi hs ih
        have hx := hw _ (rl_mem hi)
        have e := laws_szIntS_eq (rl l (i : Int)) s hx hs.1.1 hs.1.2
        by_cases c : s < (rl l (i : Int)).length
        · refine ⟨-1, ?_, by omega⟩
          rw [if_pos c] at e
          refine Ev.step (fun k => by rw [laws_szIntSS.l0]) ?_
          exact ev_pos (by omega) (ev_pos (by omega) (ev_opt e (ev_pos (by omega) (ev_val rfl))))
        · rw [if_neg c] at e
          obtain ⟨r, h1, h2⟩ := ih (s - (rl l (i : Int)).length) ⟨by omega, fun j hj => by
            by_cases e : j = i
            · subst e; omega
            · exact hs.2 j (by omega)⟩
          refine ⟨r, ?_, h2⟩
          refine Ev.step (fun k => by rw [laws_szIntSS.l0]) ?_
          rw [wsucc hi (by omega)]
          exact ev_pos (by omega) (ev_pos (by omega) (ev_opt e (ev_neg (by omega) h1))))
    have w : wrap64 (1048576 - (l.length : Int)) = 1048576 - (l.length : Int) := wid (by omega) (by omega)
    obtain ⟨r, h1, h2⟩ := key (1048576 - (l.length : Int)) 0 (by omega) ⟨by omega, fun j hj => by omega⟩
    refine ⟨r, ?_, h2.imp id fun h2 => ⟨by omega, fun x hx => ?_⟩⟩
    · refine Ev.congr (fun k => by rw [laws_szIntSS.f]) ?_
      rw [w]
      exact ev_neg (by omega) h1
    · obtain ⟨i, hi, rfl⟩ := List.getElem_of_mem hx
      rw [← rl_get hi]
      exact h2 i hi

theorem laws_toIntS_ev (l : List Int) (hn : l.length ≤ 1048576) : Ev (fun k => laws_toIntS.f k l) l := by
  refine Ev.congr (fun k => by rw [laws_toIntS.f]) (ev_pos (by omega) (ev_pos (by omega) ?_))
  refine up_ev (σ := List Int) l.length (fun k s i => laws_toIntS.l0 k l s i) (fun _ _ => l) (fun s i => s.length = l.length ∧ ∀ j : Nat, j < i → rd s (j : Int) = rd l (j : Int)) ?_ ?_ _ 0 (by omega) ⟨by simp, fun j hj => by omega⟩
  · intro s hs
    refine Ev.step (fun k => by rw [laws_toIntS.l0]) ?_
    exact ev_neg (by omega) (ev_val (ext_rd hs.1 fun j hj => hs.2 j (by omega)))
  · intro s i hi hs ih
    refine Ev.step (fun k => by rw [laws_toIntS.l0]) ?_
    refine ev_pos (by omega) (ev_pos (by omega) (ev_pos (by omega) ?_))
    rw [wsucc hi (by omega), show ((i : Nat) : Int).toNat = i by omega]
    refine ih _ ⟨by simp [hs.1], fun j hj => ?_⟩
    have hl : (s.set i (rd l (i : Int))).length = l.length := by simp [hs.1]
    rw [rd_get (by omega), List.getElem_set]
    by_cases e : i = j
    · rw [if_pos e]; subst e; rfl
    · rw [if_neg e, ← rd_get (by omega)]
      exact hs.2 j (by omega)

theorem laws_toIntSS_ev (l : List (List Int)) (hn : l.length ≤ 1048576) (hw : ∀ x ∈ l, x.length ≤ 1048576) : Ev (fun k => laws_toIntSS.f k l) l := by
  refine Ev.congr (fun k => by rw [laws_toIntSS.f]) (ev_pos (by omega) (ev_pos (by omega) ?_))
  refine up_ev (σ := List (List Int)) l.length (fun k s i => laws_toIntSS.l0 k l s i) (fun _ _ => l) (fun s i => s.length = l.length ∧ ∀ j : Nat, j < i → rl s (j : Int) = rl l (j : Int)) ?_ ?_ _ 0 (by omega) ⟨by simp, fun j hj => by omega⟩
  · intro s hs
    refine Ev.step (fun k => by rw [laws_toIntSS.l0]) ?_
    exact ev_neg (by omega) (ev_val (ext_rl hs.1 fun j hj => hs.2 j (by omega)))
  · intro s i hi hs ih
    refine Ev.step (fun k => by rw [laws_toIntSS.l0]) ?_
    refine ev_pos (by omega) (ev_pos (by omega) ?_)
    refine Ev.bind (laws_toIntS_ev (rl l (i : Int)) (hw _ (rl_mem hi))) (ev_pos (by omega) ?_)
    rw [wsucc hi (by omega), show ((i : Nat) : Int).toNat = i by omega]
    refine ih _ ⟨by simp [hs.1], fun j hj => ?_⟩
    have hl : (s.set i (rl l (i : Int))).length = l.length := by simp [hs.1]
    rw [rl_get (by omega), List.getElem_set]
    by_cases e : i = j
    · rw [if_pos e]; subst e; rfl
    · rw [if_neg e, ← rl_get (by omega)]
      exact hs.2 j (by omega)

theorem laws_eqIntS_ev (l : List Int) (hn : l.length ≤ 1000000000000000) : Ev (fun k => laws_eqIntS.f k l l) true := by
  refine Ev.congr (fun k => by rw [laws_eqIntS.f]) (ev_pos rfl ?_)
  refine up_ev (σ := Unit) l.length (fun k _ i => laws_eqIntS.l0 k l l i) (fun _ _ => true) (fun _ _ => True) ?_ ?_ () 0 (by omega) trivial
  · intro _ _
    refine Ev.step (fun k => by rw [laws_eqIntS.l0]) ?_
    exact ev_neg (by omega) (ev_val rfl)
  · intro _ i hi _ ih
    refine Ev.step (fun k => by rw [laws_eqIntS.l0]) ?_
    refine ev_pos (by omega) (ev_pos (by omega) (ev_pos (by omega) (ev_pos rfl ?_)))
    rw [wsucc hi hn]
    exact ih () trivial

theorem laws_eqIntSS_ev (l : List (List Int)) (hn : l.length ≤ 1000000000000000) (hw : ∀ x ∈ l, x.length ≤ 1000000000000000) : Ev (fun k => laws_eqIntSS.f k l l) true := by
  refine Ev.congr (fun k => by rw [laws_eqIntSS.f]) (ev_pos rfl ?_)
  refine up_ev (σ := Unit) l.length (fun k _ i => laws_eqIntSS.l0 k l l i) (fun _ _ => true) (fun _ _ => True) ?_ ?_ () 0 (by omega) trivial
  · intro _ _
    refine Ev.step (fun k => by rw [laws_eqIntSS.l0]) ?_
    exact ev_neg (by omega) (ev_val rfl)
  · intro _ i hi _ ih
    refine Ev.step (fun k => by rw [laws_eqIntSS.l0]) ?_
    refine ev_pos (by omega) (ev_pos (by omega) (ev_pos (by omega) ?_))
    refine Ev.bind (laws_eqIntS_ev (rl l (i : Int)) (hw _ (rl_mem hi))) (ev_pos rfl ?_)
    rw [wsucc hi hn]
    exact ih () trivial

theorem laws_markIntS_ev (l : List Int) (a : Int) (h0 : 0 ≤ a) (h1 : a ≤ 3000000000000) (hn : l.length ≤ 1048576) : Ev (fun k => laws_markIntS.f k l a) (a + (l.length : Int), mkL a l.length) := by
  have key := up_ev (σ := List Int × Int) l.length (fun k s i => laws_markIntS.l0 k s.1 s.2 i) (fun _ _ => (a + (l.length : Int), mkL a l.length)) (fun s i => s.1.length = l.length ∧ s.2 = a + (i : Int) ∧ ∀ j : Nat, j < i → rd s.1 (j : Int) = a + (j : Int))
    (by
      intro s hs
      refine Ev.step (fun k => by rw [laws_markIntS.l0]) ?_
      refine ev_neg (by omega) (ev_val ?_)
      rw [hs.2.1]
      congr 1
      refine ext_rd (by rw [mkL_len, hs.1]) fun j hj => ?_
      rw [hs.2.2 j (by omega), mkL_rd a (by omega)])
    (by
      intro s i hi hs ih
      refine Ev.step (fun k => by rw [laws_markIntS.l0]) ?_
      rw [wsucc hi (by omega), wid (x := s.2 + 1) (by omega) (by omega), show ((i : Nat) : Int).toNat = i by omega]
      refine ev_pos (by omega) (ev_pos (by omega) (ih (_, _) ⟨by simp [hs.1], by show s.2 + 1 = _; omega, fun j hj => ?_⟩))
      show rd (s.1.set i s.2) (j : Int) = _
      rw [rd_set _ (by omega) j (by omega)]
      by_cases e : i = j
      · rw [if_pos e]; omega
      · rw [if_neg e]; exact hs.2.2 j (by omega))
  refine Ev.congr (fun k => by rw [laws_markIntS.f]) ?_
  exact key (l, a) 0 (by omega) ⟨rfl, by show a = a + _; omega, fun j hj => by omega⟩
theorem laws_heldIntS_ev (n : Nat) (a : Int) (h0 : 0 ≤ a) (h1 : a ≤ 3000000000000) (hn : n ≤ 1048576) : Ev (fun k => laws_heldIntS.f k (mkL a n) a) (a + (n : Int)) := by
  have hl := mkL_len a n
  have key := up_ev (σ := Int) n (fun k s i => laws_heldIntS.l0 k (mkL a n) s i) (fun _ _ => a + (n : Int)) (fun s i => s = a + (i : Int))
    (by
      intro s hs
      refine Ev.step (fun k => by rw [laws_heldIntS.l0]) ?_
      exact ev_neg (by omega) (ev_val hs))
    (by
      intro s i hi hs ih
      refine Ev.step (fun k => by rw [laws_heldIntS.l0]) ?_
      rw [wsucc hi (by omega), wid (x := s + 1) (by omega) (by omega)]
      refine ev_pos (by omega) (ev_pos (by omega) (ev_pos (by rw [mkL_rd a hi, hs]) (ih _ (by omega)))))
  refine Ev.congr (fun k => by rw [laws_heldIntS.f]) ?_
  exact key a 0 (by omega) (by omega)

def mkT (l : List (List Int)) : Nat → Int
  | 0 => 1
  | n + 1 => mkT l n + ((rl l (n : Int)).length : Int)
theorem mkT_bd {l : List (List Int)} (hw : ∀ x ∈ l, x.length ≤ 1048576) : ∀ n : Nat, n ≤ l.length → 1 ≤ mkT l n ∧ mkT l n ≤ 1 + 1048576 * (n : Int) := by
  intro n
  induction n with
  | zero => intro _; unfold mkT; omega
  | succ n ih =>
    intro hn
    have h1 := ih (by omega)
    have h2 := hw _ (rl_mem (l := l) (i := n) (by omega))
    unfold mkT
    omega
def mkLL (l : List (List Int)) : List (List Int) := (List.range l.length).map fun i => mkL (mkT l i) (rl l (i : Int)).length
theorem mkLL_len (l : List (List Int)) : (mkLL l).length = l.length := by simp [mkLL]
theorem mkLL_rl {l : List (List Int)} {i : Nat} (h : i < l.length) : rl (mkLL l) (i : Int) = mkL (mkT l i) (rl l (i : Int)).length := by
  rw [rl_get (by rw [mkLL_len]; exact h)]
  simp [mkLL]
theorem rl_set {s : List (List Int)} {n : Nat} (v : List Int) (h : n < s.length) (j : Nat) (hj : j < s.length) : rl (s.set n v) (j : Int) = if n = j then v else rl s (j : Int) := by
  rw [rl_get (by simpa using hj), List.getElem_set]
  by_cases e : n = j
  · rw [if_pos e, if_pos e]
  · rw [if_neg e, if_neg e, rl_get hj]
theorem laws_markIntSS_ev (l : List (List Int)) (hn : l.length ≤ 1048576) (hw : ∀ x ∈ l, x.length ≤ 1048576) : Ev (fun k => laws_markIntSS.f k l 1) (mkT l l.length, mkLL l) := by
  refine Ev.congr (fun k => by rw [laws_markIntSS.f]) ?_
  have key := up_ev (σ := List (List Int) × Int) l.length (fun k s i => laws_markIntSS.l0 k s.1 s.2 i) (fun _ _ => (mkT l l.length, mkLL l)) (fun s i => s.1.length = l.length ∧ s.2 = mkT l i ∧ (∀ j : Nat, j < i → rl s.1 (j : Int) = mkL (mkT l j) (rl l (j : Int)).length) ∧ ∀ j : Nat, i ≤ j → j < l.length → rl s.1 (j : Int) = rl l (j : Int))
    (by
      intro s hs
      refine Ev.step (fun k => by rw [laws_markIntSS.l0]) ?_
      refine ev_neg (by omega) (ev_val ?_)
      rw [hs.2.1]
      congr 1
      refine ext_rl (by rw [mkLL_len, hs.1]) fun j hj => ?_
      rw [hs.2.2.1 j (by omega), mkLL_rl (by omega)])
    (by
      intro s i hi hs ih
      have hb := mkT_bd hw i (by omega)
      have hx := hw _ (rl_mem (l := l) (i := i) hi)
      have em := laws_markIntS_ev (rl l (i : Int)) (mkT l i) (by omega) (by omega) hx
      refine Ev.step (fun k => by rw [laws_markIntSS.l0]) ?_
      rw [wsucc hi (by omega), show ((i : Nat) : Int).toNat = i by omega]
      refine ev_pos (by omega) (ev_pos (by omega) (Ev.bind (a := (mkT l i + ((rl l (i : Int)).length : Int), mkL (mkT l i) (rl l (i : Int)).length)) ?_ (ih (_, _) ⟨by simp [hs.1], rfl, fun j hj => ?_, fun j hj hjl => ?_⟩)))
      · have e1 := hs.2.2.2 i (Nat.le_refl _) hi
        have e2 := hs.2.1
        rw [← e2] at em ⊢
        rw [← e1] at em ⊢
        exact em
      · show rl (s.1.set i _) (j : Int) = _
        rw [rl_set _ (by omega) j (by omega)]
        by_cases e : i = j
        · rw [if_pos e, ← e]
        · rw [if_neg e]; exact hs.2.2.1 j (by omega)
      · show rl (s.1.set i _) (j : Int) = _
        rw [rl_set _ (by omega) j (by omega), if_neg (by omega)]
        exact hs.2.2.2 j (by omega) hjl)
  exact key (l, 1) 0 (by omega) ⟨rfl, rfl, fun j hj => by omega, fun j _ _ => rfl⟩
theorem laws_heldIntSS_ev (l : List (List Int)) (hn : l.length ≤ 1048576) (hw : ∀ x ∈ l, x.length ≤ 1048576) : Ev (fun k => laws_heldIntSS.f k (mkLL l) 1) (mkT l l.length) := by
  refine Ev.congr (fun k => by rw [laws_heldIntSS.f]) ?_
  have hl := mkLL_len l
  have key := up_ev (σ := Int) l.length (fun k s i => laws_heldIntSS.l0 k (mkLL l) s i) (fun _ _ => mkT l l.length) (fun s i => s = mkT l i)
    (by
      intro s hs
      refine Ev.step (fun k => by rw [laws_heldIntSS.l0]) ?_
      exact ev_neg (by omega) (ev_val hs))
    (by
      intro s i hi hs ih
      have hb := mkT_bd hw i (by omega)
      have hx := hw _ (rl_mem (l := l) (i := i) hi)
      have em := laws_heldIntS_ev (rl l (i : Int)).length (mkT l i) (by omega) (by omega) hx
      refine Ev.step (fun k => by rw [laws_heldIntSS.l0]) ?_
      rw [wsucc hi (by omega)]
      refine ev_pos (by omega) (ev_pos (by omega) (Ev.bind (a := mkT l i + ((rl l (i : Int)).length : Int)) ?_ (ev_neg (by omega) (ih _ rfl))))
      rw [← mkLL_rl hi] at em
      subst hs
      exact em)
  exact key 1 0 (by omega) rfl

def rot (p : List (List Int)) (a : Nat) : List (List Int) := p.drop a ++ p.take a
theorem rot_len {p : List (List Int)} {a : Nat} (h : a ≤ p.length) : (rot p a).length = p.length := by
  unfold rot
  rw [List.length_append, List.length_drop, List.length_take]
  omega
theorem rot_rl {p : List (List Int)} {a i : Nat} (h : a < p.length) (hi : i < p.length) : rl (rot p a) (i : Int) = rl p (((a + i) % p.length : Nat) : Int) := by
  have hm : (a + i) % p.length < p.length := Nat.mod_lt _ (by omega)
  rw [rl_get (by rw [rot_len (by omega)]; exact hi), rl_get hm]
  unfold rot
  by_cases c : i < p.length - a
  · rw [List.getElem_append_left (by rw [List.length_drop]; exact c), List.getElem_drop]
    congr 1
    rw [Nat.mod_eq_of_lt (by omega)]
  · rw [List.getElem_append_right (by rw [List.length_drop]; omega), List.getElem_take]
    congr 1
    rw [List.length_drop, Nat.mod_eq_sub_mod (by omega), Nat.mod_eq_of_lt (by omega)]
    omega
theorem take_rl {l : List (List Int)} {i : Nat} (h : i < l.length) : l.take (i + 1) = l.take i ++ [rl l (i : Int)] := by
  rw [rl_get h]
  exact List.take_succ_eq_append_getElem h
theorem two_list {s : List Int} (h : s.length = 2) : [rd s 0, rd s 1] = s := by
  match s, h with
  | [a, b], _ => rfl
theorem rot_mem {p : List (List Int)} {a : Nat} {x : List Int} (h : x ∈ rot p a) : x ∈ p := by
  unfold rot at h
  rw [List.mem_append] at h
  rcases h with h | h
  · exact List.mem_of_mem_drop h
  · exact List.mem_of_mem_take h
noncomputable def beginM (p : List (List Int)) (a : Int) : List (List Int) × Bool := bif bl (PIn p ∧ 0 ≤ a ∧ a < p.length) then (rot p a.toNat, true) else ([], false)
theorem pin_all2 {p : List (List Int)} (h : PIn p) {x : List Int} (hx : x ∈ p) : x.length = 2 := by
  obtain ⟨i, hi, rfl⟩ := List.getElem_of_mem hx
  rw [← rl_get hi]
  exact (h.step hi).1

theorem l6In_eq (a b c : Int) : spec_l6In.f a b c = some (decide (b ≤ a ∧ a ≤ c)) := by
  unfold spec_l6In.f
  by_cases h : a ≥ b
  · rw [if_pos h]
    simp [show b ≤ a from h]
  · rw [if_neg h]
    simp [show ¬ b ≤ a from h]

theorem spec_l6sStep_eq (s : List Int) : spec_l6sStep.f s = some (bl (StepOk s)) := by
  unfold spec_l6sStep.f
  by_cases h : s.length = 2
  · rw [if_pos (by omega), if_pos (by omega), l6In_eq, Option.bind_some]
    by_cases h0 : -9 ≤ rd s 0 ∧ rd s 0 ≤ 9
    · rw [decide_eq_true h0, if_pos rfl, if_pos (by omega), l6In_eq, Option.bind_some]
      by_cases h1 : -9 ≤ rd s 1 ∧ rd s 1 ≤ 9
      · rw [decide_eq_true h1, if_pos rfl]
        by_cases h2 : rd s 0 = 0
        · rw [if_pos h2]
          congr 1
          by_cases h3 : rd s 1 = 0
          · rw [h3, bl_false (fun h => h.2.2.2 ⟨h2, h3⟩)]; rfl
          · rw [bl_true ⟨h, h0, h1, fun h => h3 h.2⟩, bne_iff_ne]; exact h3
        · rw [if_neg h2, bl_true ⟨h, h0, h1, fun h => h2 h.1⟩]
      · rw [decide_eq_false h1, if_neg (by simp), bl_false (fun h => h1 h.2.2.1)]
    · rw [decide_eq_false h0, if_neg (by simp), bl_false (fun h => h0 h.2.1)]
  · rw [if_neg (by omega), bl_false (fun hs => h hs.1)]
theorem spec_l6sSum_ev (p : List (List Int)) (hn : p.length ≤ 1048576) (h : PSteps p) : Ev (fun k => spec_l6sSum.f k p) (sX p p.length, sY p p.length) := by
  have key := up_ev (σ := Int × Int) p.length (fun k s i => spec_l6sSum.l0 k p s.1 s.2 i) (fun _ _ => (sX p p.length, sY p p.length)) (fun s i => s = (sX p i, sY p i))
    (by
      intro s hs
      refine Ev.step (fun k => by rw [spec_l6sSum.l0]) ?_
      exact ev_neg (by omega) (ev_val (by rw [hs])))
    (by
      intro s i hi hs ih
      have hi2 := h i hi
      have bx := sX_bd (p := p) i fun j hj => h j (by omega)
      have by_ := sY_bd (p := p) i fun j hj => h j (by omega)
      refine Ev.step (fun k => by rw [spec_l6sSum.l0]) ?_
      have hlen : ((rl p (i : Int)).length : Int) = 2 := by have := hi2.1; omega
      refine ev_pos (by omega) (ev_pos (by omega) (ev_pos (by show 0 < ((rl p (i : Int)).length : Int); omega) (ev_pos (by show 1 < ((rl p (i : Int)).length : Int); omega) ?_)))
      have b1 := hi2.2.1
      have b2 := hi2.2.2.1
      subst hs
      show Ev (fun k => spec_l6sSum.l0 k p (wrap64 (sX p i + rd (rl p (i : Int)) 0)) (wrap64 (sY p i + rd (rl p (i : Int)) 1)) (wrap64 ((i : Int) + 1))) _
      rw [wsucc hi (by omega), wid (x := sX p i + rd (rl p (i : Int)) 0) (by omega) (by omega), wid (x := sY p i + rd (rl p (i : Int)) 1) (by omega) (by omega)]
      exact ih (_, _) rfl)
  refine Ev.congr (fun k => by rw [spec_l6sSum.f]) ?_
  exact key (0, 0) 0 (by omega) rfl
theorem spec_PathIn_ev (p : List (List Int)) (hn : p.length ≤ 1048576) : Ev (fun k => spec_PathIn.f k p) (bl (PIn p)) := by
  have key := up_ev (σ := Unit) p.length (fun k _ i => spec_PathIn.l0 k p i) (fun _ _ => bl (PIn p)) (fun _ i => ∀ j : Nat, j < i → StepOk (rl p (j : Int)))
    (by
      intro _ hs
      refine Ev.step (fun k => by rw [spec_PathIn.l0]) ?_
      refine ev_neg (by omega) (Ev.bind (spec_l6sSum_ev p hn hs) (ev_opt (l6In_eq _ _ _) ?_))
      refine ev_ite (fun c => ?_) (fun c => ev_val ?_)
      · have c := of_decide_eq_true c
        refine ev_ite (fun c1 => ev_val ?_) (fun c1 => ev_val ?_)
        · by_cases c2 : sY p p.length = 0
          · rw [bl_true ⟨by omega, hs, c1, c2⟩, beq_iff_eq]; exact c2
          · rw [bl_false (fun h => c2 h.2.2.2), beq_eq_false_iff_ne]; exact c2
        · exact (bl_false (fun h => c1 h.2.2.1)).symm
      · refine (bl_false (fun h => c (decide_eq_true ?_))).symm
        have := h.1
        omega)
    (by
      intro _ i hi hs ih
      refine Ev.step (fun k => by rw [spec_PathIn.l0]) ?_
      refine ev_pos (by omega) (ev_pos (by omega) (ev_opt (spec_l6sStep_eq _) ?_))
      refine ev_ite (fun c => ?_) (fun c => ev_val ?_)
      · rw [wsucc hi (by omega)]
        refine ih () fun j hj => ?_
        by_cases e : j = i
        · subst e; exact bl_iff.1 c
        · exact hs j (by omega)
      · exact (bl_false (fun h => c (bl_true (h.2.1 i hi)))).symm)
  refine Ev.congr (fun k => by rw [spec_PathIn.f]) ?_
  exact key () 0 (by omega) fun j hj => by omega

theorem spec_PathBegin_ev (p : List (List Int)) (a : Int) (hn : p.length ≤ 1048576) : Ev (fun k => spec_PathBegin.f k p a) (beginM p a) := by
  unfold beginM
  refine Ev.congr (fun k => by rw [spec_PathBegin.f]) ?_
  refine ev_opt rfl (Ev.bind (spec_PathIn_ev p hn) ?_)
  by_cases h : PIn p
  · have hl := h.1
    rw [bl_true h]
    refine ev_pos rfl (ev_opt (l6In_eq _ _ _) ?_)
    rw [wid (x := (p.length : Int) - 1) (by omega) (by omega)]
    by_cases c : 0 ≤ a ∧ a ≤ (p.length : Int) - 1
    · rw [bl_true ⟨h, c.1, by omega⟩, decide_eq_true c]
      refine Ev.step (fun k => by rw [spec_PathBegin.j0]) (ev_neg (by simp) ?_)
      obtain ⟨n, rfl⟩ := Int.eq_ofNat_of_zero_le c.1
      have hnl : n < p.length := by omega
      have key := up_ev (σ := List (List Int)) p.length (fun k s i => spec_PathBegin.l0 k p (n : Int) s i) (fun _ _ => (rot p n, true)) (fun s i => s = (rot p n).take i)
        (by
          intro s hs
          refine Ev.step (fun k => by rw [spec_PathBegin.l0]) ?_
          refine ev_neg (by omega) (ev_val ?_)
          rw [hs, List.take_of_length_le (by rw [rot_len (by omega)]; exact Nat.le_refl _)])
        (by
          intro s i hi hs ih
          have hm : (n + i) % p.length < p.length := Nat.mod_lt _ (by omega)
          have em : Int.tmod (wrap64 ((n : Int) + (i : Int))) (p.length : Int) = (((n + i) % p.length : Nat) : Int) := by
            rw [wid (by omega) (by omega), Int.tmod_eq_emod_of_nonneg (by omega)]
            simp
          have hst := h.step hm
          have hlen : ((rl p (((n + i) % p.length : Nat) : Int)).length : Int) = 2 := by have := hst.1; omega
          have hi2 := ih _ rfl
          rw [take_rl (by rw [rot_len (by omega)]; exact hi), rot_rl hnl hi, ← two_list hst.1, ← hs] at hi2
          have hsl : s.length ≤ 1048576 := by rw [hs, List.length_take, rot_len (by omega)]; omega
          refine Ev.step (fun k => by rw [spec_PathBegin.l0]) ?_
          rw [em, wsucc hi (by omega)]
          generalize ((n + i) % p.length : Nat) = m at *
          exact ev_pos (by omega) (ev_neg (by omega) (ev_pos (by omega) (ev_pos (by omega) (ev_pos (by show 0 < ((rl p (m : Int)).length : Int); omega) (ev_pos (by show 1 < ((rl p (m : Int)).length : Int); omega) (ev_pos (by omega) hi2)))))))
      exact key [] 0 (by omega) (by simp)
    · rw [bl_false (fun q => c ⟨q.2.1, by omega⟩), decide_eq_false c]
      refine Ev.step (fun k => by rw [spec_PathBegin.j0]) ?_
      exact ev_pos rfl (ev_val rfl)
  · rw [bl_false h, bl_false (fun q => h q.1)]
    refine ev_neg (by simp) ?_
    refine Ev.step (fun k => by rw [spec_PathBegin.j0]) ?_
    exact ev_pos rfl (ev_val rfl)

theorem impl_copySteps_ev (l : List (List Int)) (hn : l.length ≤ 1048576) (hw : ∀ x ∈ l, x.length ≤ 1048576) : Ev (fun k => impl_copySteps.f k l) l := by
  refine Ev.congr (fun k => by rw [impl_copySteps.f]) ?_
  have key := up_ev (σ := List (List Int)) l.length (fun k s i => impl_copySteps.l0 k s l (l.length : Int) i) (fun _ _ => l) (fun s i => s = l.take i)
    (by
      intro s hs
      refine Ev.step (fun k => by rw [impl_copySteps.l0]) ?_
      exact ev_neg (by omega) (ev_val (by rw [hs, List.take_length])))
    (by
      intro s i hi hs ih
      have hx := hw _ (rl_mem hi)
      have ec : slices_Clone_int_int.f (rl l (i : Int)) = some (rl l (i : Int)) := by
        unfold slices_Clone_int_int.f
        rw [if_pos (by omega)]
      have hl : s.length ≤ 1048576 := by rw [hs, List.length_take]; omega
      refine Ev.step (fun k => by rw [impl_copySteps.l0]) ?_
      rw [wsucc hi (by omega)]
      exact ev_pos (by omega) (ev_pos (by omega) (ev_pos (by omega) (ev_opt ec (ev_pos (by omega) (ih _ (by rw [take_rl hi, hs])))))))
  exact key [] 0 (by omega) (by simp)

theorem impl_isStep_eq (s : List Int) : impl_isStep.f s = some (bl (StepOk s)) := by
  unfold impl_isStep.f
  by_cases h : s.length = 2
  · rw [if_pos (by omega), if_pos (by omega)]
    by_cases a1 : rd s 0 ≥ -9
    · rw [if_pos a1]
      by_cases a2 : rd s 0 ≤ 9
      · rw [if_pos a2, if_pos (by omega)]
        by_cases b1 : rd s 1 ≥ -9
        · rw [if_pos b1]
          by_cases b2 : rd s 1 ≤ 9
          · rw [if_pos b2]
            by_cases h2 : rd s 0 = 0
            · rw [if_pos h2]
              congr 1
              by_cases h3 : rd s 1 = 0
              · rw [h3, bl_false (fun h => h.2.2.2 ⟨h2, h3⟩)]; rfl
              · rw [bl_true ⟨h, ⟨a1, a2⟩, ⟨b1, b2⟩, fun h => h3 h.2⟩, bne_iff_ne]; exact h3
            · rw [if_neg h2, bl_true ⟨h, ⟨a1, a2⟩, ⟨b1, b2⟩, fun h => h2 h.1⟩]
          · rw [if_neg b2, bl_false (fun h => b2 h.2.2.1.2)]
        · rw [if_neg b1, bl_false (fun h => b1 h.2.2.1.1)]
      · rw [if_neg a2, bl_false (fun h => a2 h.2.1.2)]
    · rw [if_neg a1, bl_false (fun h => a1 h.2.1.1)]
  · rw [if_neg (by omega), bl_false (fun hs => h hs.1)]
theorem impl_PathIn_ev (p : List (List Int)) (hn : p.length ≤ 1048576) : Ev (fun k => impl_PathIn.f k p) (bl (PIn p)) := by
  have ht : ¬ (3 ≤ p.length ∧ p.length ≤ 8) → Ev (fun k => impl_PathIn.j0 k p true) (bl (PIn p)) := by
    intro h
    refine Ev.step (fun k => by rw [impl_PathIn.j0]) ?_
    exact ev_pos rfl (ev_val (bl_false (fun hp => h hp.1)).symm)
  refine Ev.congr (fun k => by rw [impl_PathIn.f]) (ev_ite (fun c => ht (by omega)) (fun c => ?_))
  by_cases c2 : (p.length : Int) > 8
  · rw [decide_eq_true c2]
    exact ht (by omega)
  · rw [decide_eq_false c2]
    refine Ev.step (fun k => by rw [impl_PathIn.j0]) (ev_neg (by simp) ?_)
    have key := up_ev (σ := Int × Int) p.length (fun k s i => impl_PathIn.l0 k s.1 s.2 p (p.length : Int) i) (fun _ _ => bl (PIn p)) (fun s i => s = (sX p i, sY p i) ∧ ∀ j : Nat, j < i → StepOk (rl p (j : Int)))
      (by
        intro s hs
        obtain ⟨rfl, hs⟩ := hs
        refine Ev.step (fun k => by rw [impl_PathIn.l0]) ?_
        refine ev_neg (by omega) (ev_ite (fun c1 => ev_val ?_) (fun c1 => ev_val ?_))
        · by_cases c2 : sY p p.length = 0
          · rw [bl_true ⟨by omega, hs, c1, c2⟩, beq_iff_eq]; exact c2
          · rw [bl_false (fun h => c2 h.2.2.2), beq_eq_false_iff_ne]; exact c2
        · exact (bl_false (fun h => c1 h.2.2.1)).symm)
      (by
        intro s i hi hs ih
        obtain ⟨rfl, hs⟩ := hs
        refine Ev.step (fun k => by rw [impl_PathIn.l0]) ?_
        refine ev_pos (by omega) (ev_pos (by omega) (ev_pos (by omega) (ev_opt (impl_isStep_eq _) ?_)))
        refine ev_ite (fun c => ?_) (fun c => ev_val ?_)
        · have hi2 : StepOk (rl p (i : Int)) := bl_iff.1 c
          have bx := sX_bd (p := p) i hs
          have by_ := sY_bd (p := p) i hs
          have hlen : ((rl p (i : Int)).length : Int) = 2 := by have := hi2.1; omega
          have b1 := hi2.2.1
          have b2 := hi2.2.2.1
          refine ev_pos (by show 0 < ((rl p (i : Int)).length : Int); omega) (ev_pos (by show 1 < ((rl p (i : Int)).length : Int); omega) ?_)
          show Ev (fun k => impl_PathIn.l0 k (wrap64 (sX p i + rd (rl p (i : Int)) 0)) (wrap64 (sY p i + rd (rl p (i : Int)) 1)) p (p.length : Int) (wrap64 ((i : Int) + 1))) _
          rw [wsucc hi (by omega), wid (x := sX p i + rd (rl p (i : Int)) 0) (by omega) (by omega), wid (x := sY p i + rd (rl p (i : Int)) 1) (by omega) (by omega)]
          refine ih (_, _) ⟨rfl, fun j hj => ?_⟩
          by_cases e : j = i
          · subst e; exact hi2
          · exact hs j (by omega)
        · exact (bl_false (fun h => c (bl_true (h.2.1 i hi)))).symm)
    exact key (0, 0) 0 (by omega) ⟨rfl, fun j hj => by omega⟩

theorem impl_PathBegin_ev (p : List (List Int)) (a : Int) (hn : p.length ≤ 1048576) : Ev (fun k => impl_PathBegin.f k p a) (beginM p a) := by
  unfold beginM
  refine Ev.congr (fun k => by rw [impl_PathBegin.f]) (Ev.bind (impl_PathIn_ev p hn) ?_)
  by_cases h : PIn p
  · have hl := h.1
    rw [bl_true h]
    refine ev_pos rfl (ev_ite (fun c1 => ev_val ?_) (fun c1 => ev_ite (fun c2 => ev_val ?_) (fun c2 => ?_)))
    · rw [bl_false (by omega)]; rfl
    · rw [bl_false (by omega)]; rfl
    · rw [bl_true ⟨h, by omega, by omega⟩]
      refine ev_pos (by omega) (Ev.bind (impl_copySteps_ev (rot p a.toNat) (by rw [rot_len (by omega)]; exact hn) (fun x hx => ?_)) (ev_val rfl))
      have := pin_all2 h (rot_mem hx)
      omega
  · rw [bl_false h, bl_false (fun q => h q.1)]
    exact ev_neg (by simp) (ev_val rfl)

theorem FnExactPathBegin : laws_FnExactPathBegin.Pure := by
  intro l0 a1 hm hw ha
  unfold maxLen at hm hw
  obtain ⟨r, er, hr⟩ := laws_szIntSS_ev l0 (by omega) (fun x hx => by have := (hw x hx).1; omega)
  refine Ev.rounds (g := fun k => laws_FnExactPathBegin.f k l0 a1) ?_
  refine Ev.congr (fun k => by rw [laws_FnExactPathBegin.f]) (Ev.bind er ?_)
  refine ev_ite (fun c => ev_val rfl) (fun c => ?_)
  obtain ⟨hn, hx⟩ := hr.resolve_left c
  have et := laws_toIntSS_ev l0 hn hx
  have ee := laws_eqIntSS_ev l0 (by omega) (fun x h => by have := hx x h; omega)
  have es := spec_PathBegin_ev l0 a1 hn
  have ei := impl_PathBegin_ev l0 a1 hn
  obtain ⟨v, hv⟩ : ∃ v : List (List Int) × Bool, v = beginM l0 a1 := ⟨_, rfl⟩
  have hvl : v.1.length ≤ 1048576 ∧ ∀ x ∈ v.1, x.length ≤ 1048576 := by
    rw [hv]
    unfold beginM
    by_cases h : PIn l0 ∧ 0 ≤ a1 ∧ a1 < l0.length
    · rw [bl_true h]
      refine ⟨by show (rot l0 a1.toNat).length ≤ 1048576; rw [rot_len (by omega)]; exact hn, fun x hq => ?_⟩
      have := pin_all2 h.1 (rot_mem hq)
      omega
    · rw [bl_false h]
      exact ⟨by simp, fun x hx => by simp at hx⟩
  rw [← hv] at es ei
  clear hv
  obtain ⟨g, b⟩ := v
  obtain ⟨hg1, hg2⟩ := hvl
  simp only [] at hg1 hg2
  have eg := laws_eqIntSS_ev g (by omega) (fun x h => by have := hg2 x h; omega)
  have mx0 := laws_markIntSS_ev l0 hn hx
  have mg := laws_markIntSS_ev g hg1 hg2
  have hg := laws_heldIntSS_ev g hg1 hg2
  have b1 := mkT_bd hx l0.length (Nat.le_refl _)
  have b2 := mkT_bd hg2 g.length (Nat.le_refl _)
  refine Ev.bind et (Ev.bind es (Ev.bind et (Ev.bind ei (Ev.bind eg (ev_pos rfl (ev_pos rfl (Ev.bind et (Ev.bind ee (ev_pos rfl (Ev.bind mx0 ?_))))))))))
  refine ev_neg (by show ¬ mkT l0 l0.length < 0; omega) (Ev.bind eg (ev_pos rfl (Ev.bind mg (Ev.bind hg (ev_neg (by omega) (ev_pos rfl ?_))))))
  exact Ev.bind et (Ev.bind ei (Ev.bind eg (ev_pos rfl (ev_pos rfl (Ev.bind hg (ev_neg (by omega) (ev_pos rfl (ev_val rfl))))))))

end Go.Proofs.Ytpeiefgkjfnfgaa.Pure
