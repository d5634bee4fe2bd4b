-- written by a program of this session (wip/gen/drive.py), which calls the kit's print.py
import Derived.Test.YtfihnemjaademaaPEx0
import Derived.Test.YtfihnemjaademaaPEx1
namespace Go.Proofs.Ytfihnemjaademaa.PE
open Go.RowKit Go.Proofs.YtfihnemjaademaaW.PrintWords Go.Proofs.YtfihnemjaademaaW.PrintLast Go.Proofs.YtfihnemjaademaaW.PrintMore
attribute [local go_sem] max2_int min2_int max_two min_two max_three min_three max_four min_four   -- for this text's walks alone
set_option linter.unusedVariables false
set_option linter.unusedSimpArgs false

/-! ### impl_FoldEnds: function 34 -/
theorem alloc_lastE (w : World) (v : Value) (T : TypeId) : (w.alloc (.cells #[v] T)).heap[w.heap.size]? = some (.cells #[v] T (0, 0)) := by
  show (w.heap.push (.cells #[v] T))[w.heap.size]? = _
  simp
theorem below_drewNE (w : World) (n B : Nat) : Below B w (w.drewN n) := pw_below_drewN (Below.refl B w) n
namespace Kx
/-- A row of the call's own whose slice may have been clipped: with its whole capacity it is a row as ever. -/
def R {α : Type} (d : Kd α) (e : Nat) (w : World) (base : Nat) (ok : Nat → Prop) (v : Value) (xs : List α) : Prop :=
  (∀ k, v.ownBlock = some k → ok k) ∧ ∃ A n c c', v = .slice A n c ∧ n ≤ c ∧ d.R e w base ok (.slice A n c') xs
section
variable {α : Type} {d : Kd α} {e b : Nat} {w w1 W W2 : World} {base base' : Nat} {ok ok' ok1 : Nat → Prop} {v u : Value} {xs : List α} {S : Nat → Prop}
theorem own_same (A : Option Addr) (n c n' c' : Nat) : (Value.slice A n c).ownBlock = (Value.slice A n' c').ownBlock := by cases A <;> rfl
theorem mk {A : Option Addr} {n c c' : Nat} (hl : n ≤ c) (h : d.R e w base ok (.slice A n c') xs) : R d e w base ok (.slice A n c) xs :=
  ⟨fun k hk => h.1 k (by rw [own_same A n c' n c]; exact hk), A, n, c, c', rfl, hl, h⟩
theorem of_R (h : d.R e w base ok v xs) : R d e w base ok v xs := by
  obtain ⟨A, c, rfl, hl, _⟩ := Kd.R_reads h
  exact mk hl h
theorem R_mono (h : R d e w base ok v xs) (hok : ∀ k, ok k → ok' k) : R d e w base ok' v xs := by
  obtain ⟨_, A, n, c, c', rfl, hl, h⟩ := h
  exact mk hl (Kd.R_mono h hok)
theorem R_lower (h : R d e w base ok v xs) (hb : base' ≤ base) : R d e w base' ok v xs := by
  obtain ⟨_, A, n, c, c', rfl, hl, h⟩ := h
  exact mk hl (Kd.R_lower h hb)
theorem R_below (h : R d e w base ok v xs) (hb : Below w.heap.size w w1) : R d e w1 base ok v xs := by
  obtain ⟨_, A, n, c, c', rfl, hl, h⟩ := h
  exact mk hl (Kd.R_below h hb)
theorem R_alloc (h : R d e w base ok v xs) (o : Obj) : R d e (w.alloc o) base ok v xs := R_below h (below_alloc (Below.refl _ _) o)
theorem R_drew (h : R d e w base ok v xs) : R d e w.drew base ok v xs := R_below h (below_drew (Below.refl _ _))
theorem R_drewN (h : R d e w base ok v xs) (m : Nat) : R d e (w.drewN m) base ok v xs := R_below h (pw_below_drewN (Below.refl _ _) m)
theorem R_keptB (h : R d e W base ok v xs) (hk : Kept W W2 S) (hne : ∀ k, ok k → ¬ S k) : R d e W2 base (fun k => ok k ∧ (¬ S k ∧ k < W.heap.size)) v xs := by
  obtain ⟨_, A, n, c, c', rfl, hl, h⟩ := h
  exact mk hl (Kd.R_keptB h hk hne)
theorem R_tight (hE : d.E = []) (h : R d e w base ok v xs) : R d e w base (fun k => some k = v.ownBlock) v xs := by
  obtain ⟨_, A, n, c, c', rfl, hl, h⟩ := h
  exact mk hl (Kd.R_mono (Kd.R_tight hE h) (fun k hk => by rw [own_same A n c n c']; exact hk))
theorem R_reok (hE : d.E = []) (h : R d e W base ok1 v xs) (hok : ∀ k, v.ownBlock = some k → ok k) : R d e W base ok v xs := R_mono (R_tight hE h) (fun k hk => hok k hk.symm)
theorem R_lt (h : R d e w base ok v xs) : ∀ k, v.ownBlock = some k → k < w.heap.size := by
  obtain ⟨_, A, n, c, c', rfl, hl, h⟩ := h
  intro k hk
  exact Kd.R_lt h k (by rw [own_same A n c' n c]; exact hk)
theorem R_base (h : R d e w base ok v xs) : ∀ k, v.ownBlock = some k → base ≤ k := by
  obtain ⟨_, A, n, c, c', rfl, hl, h⟩ := h
  intro k hk
  exact Kd.R_base h k (by rw [own_same A n c' n c]; exact hk)
theorem R_elder' (hu : R d e W base ok u xs) (hbase : ∀ k, v.ownBlock = some k → W.heap.size ≤ k) (hb : Below W.heap.size W w1) : R d e w1 base (fun k => ok k ∧ some k ≠ v.ownBlock) u xs := by
  obtain ⟨_, A, n, c, c', rfl, hl, h⟩ := hu
  exact mk hl (Kd.R_elder' h hbase hb)
theorem R_new' (h : R d e w1 W.heap.size ok v xs) (hlt : ∀ k, u.ownBlock = some k → k < W.heap.size) : R d e w1 W.heap.size (fun k => ok k ∧ some k ≠ u.ownBlock) v xs := by
  obtain ⟨_, A, n, c, c', rfl, hl, h⟩ := h
  exact mk hl (Kd.R_new' h hlt)
theorem R_slice (h : R d e w base ok v xs) : ∃ A c, v = .slice A xs.length c := by
  obtain ⟨_, A, n, c, c', rfl, hl, h⟩ := h
  have := (Kd.R_reads' h).1
  subst this
  exact ⟨A, c, rfl⟩
theorem R_reads' {A : Option Addr} {n c : Nat} (h : R d e w base ok (.slice A n c) xs) : n = xs.length ∧ n ≤ c ∧ d.C w A xs.length xs := by
  obtain ⟨_, A', n', c1, c', he, hl, h⟩ := h
  injection he with h1 h2 h3
  subst h1 h2 h3
  have := Kd.R_reads' h
  exact ⟨this.1, hl, this.2.2⟩
theorem R_form (h : R d e w base ok v xs) (hp : 0 < xs.length) : ∃ g cap, v = .slice (some ⟨g, 0, none⟩) xs.length cap ∧ base ≤ g ∧ g < w.heap.size ∧ ∃ cells, w.heap[g]? = some (.cells cells e (0, 0)) := by
  obtain ⟨_, A, n, c, c', rfl, hl, h⟩ := h
  obtain ⟨g, cap, he, r⟩ := Kd.R_form h hp
  injection he with h1 h2 h3
  subst h1 h2
  exact ⟨g, c, rfl, r⟩
end
section
variable {α : Type} {enc : α → Value} {h1 : ∀ x, (enc x).oneCell' = true} {e : Nat} {W : World} {base : Nat} {ok : Nat → Prop} {g n cap : Nat} {xs : List α}
theorem R_celln (d : α) (h : R (Kd.scalar enc h1) e W base ok (.slice (some ⟨g, 0, none⟩) n cap) xs) (i : Int) (h0 : 0 ≤ i) (hi : i < n) : W.cell? ⟨g, i.toNat, none⟩ = some (enc (rdOf d xs i)) ∧ W.frozen? ⟨g, i.toNat, none⟩ = false := by
  obtain ⟨_, A', n', c1, c', he, hl, h⟩ := h
  injection he with h1 h2 h3
  subst h1 h2 h3
  exact Kd.R_celln d h i h0 hi
theorem R_putg (h : R (Kd.scalar enc h1) e W base ok (.slice (some ⟨g, 0, none⟩) n cap) xs) (i : Int) (x : α) : R (Kd.scalar enc h1) e (W.setCell ⟨g, i.toNat, none⟩ (enc x)) base ok (.slice (some ⟨g, 0, none⟩) n cap) (xs.set i.toNat x) ∧ W.grownBy (W.setCell ⟨g, i.toNat, none⟩ (enc x)) (some g) := by
  obtain ⟨_, A', n', c1, c', he, hl, h⟩ := h
  injection he with h1 h2 h3
  subst h1 h2 h3
  have := Kd.R_putg h i x
  exact ⟨mk hl this.1, this.2⟩
end
end Kx
/-- The variable in block g holds a slice of the call's own, apart from that block: its list is xs. -/
def LS (g base : Nat) (xs : List Int) (w : World) : Prop := ∃ v, w.heap[g]? = some (.cells #[v] 23 (0, 0)) ∧ Kd.R (Kd.int .i64) 3 w base (fun k => k ≠ g) v xs
theorem LS_lt {g base : Nat} {xs : List Int} {w : World} (h : LS g base xs w) : g < w.heap.size := by
  obtain ⟨v, h1, _⟩ := h
  exact lt_of_block h1
theorem LS_below {g base : Nat} {xs : List Int} {w w1 : World} (h : LS g base xs w) (hb : Below w.heap.size w w1) : LS g base xs w1 := by
  obtain ⟨v, h1, h2⟩ := h
  exact ⟨v, (hb.block g (lt_of_block h1)).trans h1, Kd.R_below h2 hb⟩
def impl_FoldEnds_1.f (a0 : List Int) (a1 : ByteArray) (a2 : Int) (a3 : Int) : Option (List Int) := if a2 ≥ 0 then (if a0.length < 17592186044416 then some (a0 ++ [a2]) else none) else some a0
set_option maxHeartbeats 1000000 in
set_option maxRecDepth 100000 in
theorem impl_FoldEnds_1.calls (g : Nat) (a0 : List Int) (a1 : ByteArray) (a2 a3 : Int) (r : List Int) (w0 w : World) (hB : Below w0.heap.size w0 w) (hg0 : w0.heap.size ≤ g) (hI : LS g w0.heap.size a0 w) (h : impl_FoldEnds_1.f a0 a1 a2 a3 = some r) :
    Calls Try.prog 61 #[.string a1, .int .i64 a2, .int .i64 a3, .pointer (some ⟨g, 0, none⟩)] w fun e w' => e = .returned (.tuple #[]) ∧ LS g w0.heap.size r w' ∧ True ∧ Below w0.heap.size w w' := by
  have hI0 := hI
  obtain ⟨v, hg, hR⟩ := hI
  have cW := cell_of_one hg
  have fW := free_of_one hg
  unfold impl_FoldEnds_1.f at h
  by_cases h0 : a2 ≥ 0
  · rw [if_pos h0] at h
    have hd0 : decide (0 ≤ a2) = true := decide_eq_true h0
    by_cases hl : a0.length < 17592186044416
    · rw [if_pos hl] at h
      obtain rfl := Option.some.inj h
      clear h h0
      obtain ⟨A0, c0, e0⟩ := Kd.R_slice hR
      subst e0
      have hgl := lt_of_block hg
      have hge : w0.heap.size ≤ (w.alloc (.cells #[.int .i64 a2] 3)).heap.size := by simp; have := hB.size; omega
      have hgA : (w.alloc (.cells #[.int .i64 a2] 3)).heap[g]? = some (.cells #[.slice A0 a0.length c0] 23 (0, 0)) := (Below.heap_alloc w _ g hgl).trans hg
      have hgl2 := lt_of_block hgA
      go_enter Try.func61, Try.ntmps61
      go_wp2_with (first | ((with_reducible refine gate_builtin (b := .append) (xs := #[.tmp 9, .tmp 11]) rfl ?_); at_builtin; refine Kd.R_append (Kd.int .i64) (w0 := w) w0.heap.size rfl (.tmp 9) (.tmp 11) 23 3 (.int .i64 0) 8 rfl Try.underlying23 info3 rfl (by decide) (by omega) (.slice A0 a0.length c0) a0 a2 [.int .i64 a2] (fun k => k ≠ g) (fun _ => False) rfl rfl ?aP (fun _ hk => hk.elim) ?aF ?aO ?aB ?aS ?aL ?_; (case aP => exact rfl); (case aB => first | exact Below.refl _ w | exact (Below.refl _ w).alloc hB.size _); (case aF => exact (fun k hk => by intro e; subst e; omega)); (case aO => first | exact hR | exact Kd.R_alloc hR _); (case aS => first | exact hB.size | exact hge); (case aL => omega); intro v' w17 ho hb hgr hat; have hg17 : w17.heap[g]? = some (.cells #[.slice A0 a0.length c0] 23 (0, 0)) := (by first | exact (hgr.block g hgl (fun e => (hR.1 g e.symm) rfl)).trans hg | exact (hgr.block g hgl2 (fun e => (hR.1 g e.symm) rfl)).trans hgA); have cW17 := cell_of_one hg17; have fW17 := free_of_one hg17; obtain ⟨A1, c1, e1⟩ := Kd.R_slice ho; subst e1; have hlen : (a0 ++ [a2]).length = a0.length + 1 := (by simp); rw [hlen] at ho))
      go_end0
      exact ⟨rfl, ⟨_, one_setCell hg17, Kd.R_set ho hg17 (by intro q hq; simp [Kd.int, Kd.scalar] at hq; subst hq; decide) 0 _⟩, trivial, hb.setCell hg0 _⟩
    · rw [if_neg hl] at h
      exact absurd h (by simp)
  · rw [if_neg h0] at h
    obtain rfl := Option.some.inj h
    have hd0 : decide (0 ≤ a2) = false := decide_eq_false h0
    clear h h0
    go_enter Try.func61, Try.ntmps61
    go_wp2
    go_end0
    exact ⟨rfl, hI0, trivial, Below.refl _ w⟩
/-! ### impl_foldingsE: function 60 -/
mutual
def impl_foldingsE.l0 : Nat → List Int → List Int → Int → Int → Option (List Int)
  | 0, _, _, _, _ => none
  | k + 1, x0, x1, x13, x14 => if x14 < x13 then (impl_foldingsE.l1 k x0 x1 x14 (([] : List Int)) 0 0 0 x13 x14 x0 (x0.length : Int) 0) else (some x1)
def impl_foldingsE.l1 : Nat → List Int → List Int → Int → List Int → Int → Int → Int → Int → Int → List Int → Int → Int → Option (List Int)
  | 0, _, _, _, _, _, _, _, _, _, _, _, _ => none
  | k + 1, x0, x1, x4, x5, x6, x7, x8, x13, x14, x18, x19, x20 => if x20 < x19 then (if 0 ≤ x20 then (if x20 < (x18.length : Int) then (if 0 ≤ (wrap64 ((wrap64 ((x0.length : Int) - 1)) - x20)) then (if (Go.bits .and .i64 (shr .i64 x4 (wrap64 ((wrap64 ((x0.length : Int) - 1)) - x20))) 1) = 0 then (if x5.length < 140737488355328 then (impl_foldingsE.l1 k x0 x1 x4 (x5 ++ [114]) (wrap64 (x6 + (rd x18 x20))) (mn x7 (wrap64 (x6 + (rd x18 x20)))) (mx x8 (wrap64 (x6 + (rd x18 x20)))) x13 x14 x18 x19 (wrap64 (x20 + 1))) else (none)) else (if x5.length < 140737488355328 then (impl_foldingsE.l1 k x0 x1 x4 (x5 ++ [108]) (wrap64 (x6 - (rd x18 x20))) (mn x7 (wrap64 (x6 - (rd x18 x20)))) (mx x8 (wrap64 (x6 - (rd x18 x20)))) x13 x14 x18 x19 (wrap64 (x20 + 1))) else (none))) else (none)) else (none)) else (none)) else ((impl_FoldEnds_1.f x1 (strOfNums x5) x6 (wrap64 (x8 - x7))).bind fun t112 => (impl_foldingsE.l0 k x0 t112 x13 (wrap64 (x14 + 1))))
end
def impl_foldingsE.f (k : Nat) (l0 : List Int) (a1 : List Int) : Option (List Int) := impl_foldingsE.l0 k l0 a1 (shl .i64 1 (l0.length : Int)) 0
theorem impl_foldingsE.mono_l : ∀ k, (∀ y0 y1 y2 y3, LeO (impl_foldingsE.l0 k y0 y1 y2 y3) (impl_foldingsE.l0 (k + 1) y0 y1 y2 y3)) ∧ (∀ y0 y1 y2 y3 y4 y5 y6 y7 y8 y9 y10 y11, LeO (impl_foldingsE.l1 k y0 y1 y2 y3 y4 y5 y6 y7 y8 y9 y10 y11) (impl_foldingsE.l1 (k + 1) y0 y1 y2 y3 y4 y5 y6 y7 y8 y9 y10 y11))
  | 0 => ⟨fun _ _ _ _ r h => by simp [impl_foldingsE.l0] at h, fun _ _ _ _ _ _ _ _ _ _ _ _ r h => by simp [impl_foldingsE.l1] at h⟩
  | k + 1 => by
    obtain ⟨ih0, ih1⟩ := impl_foldingsE.mono_l k
    refine ⟨?_, ?_⟩
    · intro y0 y1 y2 y3
      unfold impl_foldingsE.l0
      repeat' first
      | (with_reducible exact ih0 _ _ _ _)
      | (with_reducible exact ih1 _ _ _ _ _ _ _ _ _ _ _ _)
      | (with_reducible exact LeO.refl _)
      | (with_reducible exact LeO.none _)
      | (with_reducible refine LeO.ite ?_ ?_)
      | (with_reducible refine LeO.bind ?_ (fun _ => ?_))
      | exact ih0 _ _ _ _
      | exact ih1 _ _ _ _ _ _ _ _ _ _ _ _
      | exact LeO.none _
      | refine LeO.ite ?_ ?_
      | refine LeO.bind ?_ (fun _ => ?_)
    · intro y0 y1 y2 y3 y4 y5 y6 y7 y8 y9 y10 y11
      unfold impl_foldingsE.l1
      repeat' first
      | (with_reducible exact ih0 _ _ _ _)
      | (with_reducible exact ih1 _ _ _ _ _ _ _ _ _ _ _ _)
      | (with_reducible exact LeO.refl _)
      | (with_reducible exact LeO.none _)
      | (with_reducible refine LeO.ite ?_ ?_)
      | (with_reducible refine LeO.bind ?_ (fun _ => ?_))
      | exact ih0 _ _ _ _
      | exact ih1 _ _ _ _ _ _ _ _ _ _ _ _
      | exact LeO.none _
      | refine LeO.ite ?_ ?_
      | refine LeO.bind ?_ (fun _ => ?_)
theorem impl_foldingsE.mono : ∀ a0 a1 k, LeO (impl_foldingsE.f k a0 a1) (impl_foldingsE.f (k + 1) a0 a1) := by
  intro a0 a1 k
  obtain ⟨ih0, ih1⟩ := impl_foldingsE.mono_l k
  unfold impl_foldingsE.f
  repeat' first
      | (with_reducible exact ih0 _ _ _ _)
      | (with_reducible exact ih1 _ _ _ _ _ _ _ _ _ _ _ _)
      | (with_reducible exact LeO.refl _)
      | (with_reducible exact LeO.none _)
      | (with_reducible refine LeO.ite ?_ ?_)
      | (with_reducible refine LeO.bind ?_ (fun _ => ?_))
      | exact ih0 _ _ _ _
      | exact ih1 _ _ _ _ _ _ _ _ _ _ _ _
      | exact LeO.none _
      | refine LeO.ite ?_ ?_
      | refine LeO.bind ?_ (fun _ => ?_)
set_option maxHeartbeats 8000000 in
set_option maxRecDepth 100000 in
theorem impl_foldingsE.calls (k : Nat) (A0 : Option Addr) (c0 : Nat) (l0 : List Int) (a1 : List Int) (r : List Int) (g : Nat) (w0 w : World) (hr0 : Kd.C (Kd.int .i64) w0 A0 l0.length l0) (hc0 : l0.length ≤ c0) (hb0 : Below w0.heap.size w0 w) (hg0 : w0.heap.size ≤ g) (hg : LS g w0.heap.size a1 w) (h_ : impl_foldingsE.f k l0 a1 = some r) :
    Calls Try.prog 60 #[.slice A0 l0.length c0, .func (.func 61) #[] #[.pointer (some ⟨g, 0, none⟩)]] w fun e w' => e = .returned (.tuple #[]) ∧ LS g w0.heap.size r w' ∧ Below w0.heap.size w0 w' := by
  have HR0 := Aside0.mk hr0
  have HC0 := Aside0.mk hc0
  clear hr0 hc0
  have HB := Aside0.mk hb0
  have HI := Aside0.mk hg
  clear hb0 hg
  have H : (impl_foldingsE.l0 k l0 a1 (shl .i64 1 (l0.length : Int)) 0) = some r := h_
  clear h_
  obtain ⟨ji3, hji3⟩ : ∃ j_ : Int, (shl .i64 1 (l0.length : Int)) = j_ := ⟨_, rfl⟩
  replace H : (impl_foldingsE.l0 k l0 a1 ji3 0) = some r := by first | (rw [hji3] at H; exact H) | (simp only [hji3] at H ⊢; exact H)
  have hji3_ : (IntKind.i64.wrap (1 * 2 ^ min (l0.length : Int).toNat 64)) = ji3 := hji3
  have hji3z : (l0.length : Int) ≤ 64 → (IntKind.i64.wrap (1 * 2 ^ (l0.length : Int).toNat)) = ji3 := shl_small hji3
  have hji3p : (IntKind.i64.wrap (1 * 2 ^ min l0.length 64)) = ji3 := hji3_
  have hji3q : (l0.length : Int) ≤ 64 → (IntKind.i64.wrap (1 * 2 ^ l0.length)) = ji3 := hji3z
  have hji3r : (IntKind.i64.wrap (2 ^ min l0.length 64)) = ji3 := by have h_ := hji3p; rw [Int.one_mul] at h_; exact h_
  have hji3s : (l0.length : Int) ≤ 64 → (IntKind.i64.wrap (2 ^ l0.length)) = ji3 := fun hle_ => by have h_ := hji3q hle_; rw [Int.one_mul] at h_; exact h_
  have hji3u : (IntKind.i64.wrap (2 ^ min (l0.length : Int).toNat 64)) = ji3 := by have h_ := hji3_; rw [Int.one_mul] at h_; exact h_
  have hji3v : (l0.length : Int) ≤ 64 → (IntKind.i64.wrap (2 ^ (l0.length : Int).toNat)) = ji3 := fun hle_ => by have h_ := hji3z hle_; rw [Int.one_mul] at h_; exact h_
  have hji3y : (wrap64 (1 * 2 ^ min (l0.length : Int).toNat 64)) = ji3 := (i64_w _).symm.trans hji3_
  have hji3x : (l0.length : Int) ≤ 64 → (wrap64 (1 * 2 ^ (l0.length : Int).toNat)) = ji3 := fun h_ => (i64_w _).symm.trans (hji3z h_)
  have H' := Aside0.mk H
  clear H
  go_enter Try.func60, Try.ntmps60
  go_wp2
  go_loopg [14] k (fun kq v14 w' => ∃ (x1_1 : List Int) (x14_1 : Int), v14 = .int .i64 x14_1 ∧ Aside0 (impl_foldingsE.l0 kq l0 x1_1 ji3 x14_1 = some r) ∧ Aside0 (kq ≤ k) ∧ Aside0 (LS g w0.heap.size x1_1 w') ∧ Aside0 (Below w0.heap.size w0 w'))
  case atStart => exact ⟨(a1), (0), (by first | rfl | (simp; done)), H', ⟨Nat.le_refl _⟩, HI, HB⟩
  case round =>
    clear H'
    try clear p2
    try clear HI
    obtain ⟨x1_1, x14_1, rfl, HA, HK1, HI, HB1⟩ := hrel
    rename World => ws
    have HB := Aside0.mk (Below.refl ws.heap.size ws)
    have HR1 := Aside0.mk (Kd.C_below HR0.out HB1.out)
    have HGL := Aside0.mk (LS_lt HI.out)
    cases gk with
    | zero => exact absurd HA.out (by simp [impl_foldingsE.l0])
    | succ k1 =>
      have H := HA.out
      clear HA
      simp only [impl_foldingsE.l0] at H
      by_cases c4 : x14_1 < ji3
      · rw [if_pos c4] at H
        have c4b0 : decide (x14_1 < ji3) = true := decide_eq_true c4
        clear c4
        obtain ⟨y102, hy102⟩ : ∃ y_ : List Int, y_ = (([] : List Int)) := ⟨_, rfl⟩
        replace H : (impl_foldingsE.l1 k1 l0 x1_1 x14_1 y102 0 0 0 ji3 x14_1 l0 (l0.length : Int) 0) = some r := by first | (rw [hy102]; with_reducible exact H) | (have H2_ := (Option.bind_some _ _).symm.trans H; rw [hy102]; with_reducible exact H2_) | (have H2_ := (Option.bind_some _ _).symm.trans H; with_reducible exact H2_) | with_reducible exact H | (rw [hy102]; exact H) | exact H
        have Ny102 := Aside0.mk hy102
        clear hy102
        have H' := Aside0.mk H
        clear H
        go_wp2_with (first | ((with_reducible refine gate_dst (N := 17) rfl ?_); refine Kd.R_lit (Kd.int .u8) _ 5 ?hg (N := 17) ?hd (xs := ([] : List Int)) (inner := []) (ok := fun _ => True) (okp := fun _ => True) ?hr ?hp (fun _ hk => hk) trivial (Below.refl _ _) (Nat.le_refl _) (by simp) ?_; (case hd => rfl); (case hg => rfl); (case hr => first | (go_simp; done) | (go_simp; rfl)); (case hp => exact (Reps.none _ _)); intro v103 w5 ho6 hb hg_ hnew_; clear hg_ hnew_; (first | rw [← Ny102.out] at ho6 | (simp only [Int.reduceToNat] at ho6; rw [← Ny102.out] at ho6)); have n0_ := Aside0.mk (Kd.R_lower ho6 (below_size (by repeat (first | (with_reducible first | exact HB.out | apply below_alloc | apply pw_below_drewN | apply below_drew1) | exact HB.out)))); have n1_ := Aside0.mk (below_step (by repeat (first | (with_reducible first | exact HB.out | apply below_alloc | apply pw_below_drewN | apply below_drew1) | exact HB.out)) hb); clear HB; have HO104 := n0_; have HB := n1_; clear n0_ n1_; clear hb ho6))
        go_loopg [5, 6, 7, 8, 20] k1 (fun kq v5 v6 v7 v8 v20 w' => ∃ (x5_2 : List Int) (x6_2 : Int) (x7_2 : Int) (x8_2 : Int) (x20_2 : Int), v6 = .int .i64 x6_2 ∧ v7 = .int .i64 x7_2 ∧ v8 = .int .i64 x8_2 ∧ v20 = .int .i64 x20_2 ∧ Aside0 (impl_foldingsE.l1 kq l0 x1_1 x14_1 x5_2 x6_2 x7_2 x8_2 ji3 x14_1 l0 (l0.length : Int) x20_2 = some r) ∧ Aside0 (kq ≤ k1) ∧ Aside0 (Kd.R (Kd.int .u8) 5 w' ws.heap.size (fun _ => True) v5 x5_2) ∧ Aside0 (Below ws.heap.size ws w'))
        case atStart => exact ⟨(y102), (0), (0), (0), (0), (by first | rfl | (simp; done) | (simp only [i64_w]; first | done | rfl) | (simp [*]; done)), (by first | rfl | (simp; done) | (simp only [i64_w]; first | done | rfl) | (simp [*]; done)), (by first | rfl | (simp; done) | (simp only [i64_w]; first | done | rfl) | (simp [*]; done)), (by first | rfl | (simp; done) | (simp only [i64_w]; first | done | rfl) | (simp [*]; done)), H', ⟨Nat.le_refl _⟩, ⟨by (with_reducible repeat (first | apply Kd.R_alloc | apply Kd.R_drewN | apply Kd.R_drew)); exact HO104.out⟩, ⟨by repeat (first | (with_reducible first | exact HB.out | apply below_alloc | apply pw_below_drewN | apply below_drew1) | exact HB.out)⟩⟩
        case round =>
          clear H'
          try clear p2
          try clear c4
          try clear c4b0
          try clear c6
          try clear p6
          try clear p2
          obtain ⟨x5_2, x6_2, x7_2, x8_2, x20_2, rfl, rfl, rfl, rfl, HA, HK2, HO_5, HB⟩ := hrel
          cases gk with
          | zero => exact absurd HA.out (by simp [impl_foldingsE.l1])
          | succ k2 =>
            have H := HA.out
            clear HA
            simp only [impl_foldingsE.l1] at H
            by_cases c7 : x20_2 < (l0.length : Int)
            · rw [if_pos c7] at H
              have c7b0 : decide (x20_2 < (l0.length : Int)) = true := decide_eq_true c7
              clear c7
              by_cases c8 : 0 ≤ x20_2
              · rw [if_pos c8] at H
                have c8b0 : decide (0 ≤ x20_2) = true := decide_eq_true c8
                clear c8
                by_cases c9 : x20_2 < (l0.length : Int)
                · rw [if_pos c9] at H
                  have c9b0 : decide (x20_2 < (l0.length : Int)) = true := decide_eq_true c9
                  clear c9
                  obtain ⟨ji10, hji10⟩ : ∃ j_ : Int, (wrap64 ((wrap64 ((l0.length : Int) - 1)) - x20_2)) = j_ := ⟨_, rfl⟩
                  replace H : (if 0 ≤ (ji10) then (if (Go.bits .and .i64 (shr .i64 x14_1 (ji10)) 1) = 0 then (if x5_2.length < 140737488355328 then (impl_foldingsE.l1 k2 l0 x1_1 x14_1 (x5_2 ++ [114]) (wrap64 (x6_2 + (rd l0 x20_2))) (mn x7_2 (wrap64 (x6_2 + (rd l0 x20_2)))) (mx x8_2 (wrap64 (x6_2 + (rd l0 x20_2)))) ji3 x14_1 l0 (l0.length : Int) (wrap64 (x20_2 + 1))) else (none)) else (if x5_2.length < 140737488355328 then (impl_foldingsE.l1 k2 l0 x1_1 x14_1 (x5_2 ++ [108]) (wrap64 (x6_2 - (rd l0 x20_2))) (mn x7_2 (wrap64 (x6_2 - (rd l0 x20_2)))) (mx x8_2 (wrap64 (x6_2 - (rd l0 x20_2)))) ji3 x14_1 l0 (l0.length : Int) (wrap64 (x20_2 + 1))) else (none))) else (none)) = some r := by first | (rw [hji10] at H; exact H) | (simp only [hji10] at H ⊢; exact H)
                  have hji10w : (IntKind.i64.wrap ((wrap64 ((l0.length : Int) - 1)) - x20_2)) = ji10 := (i64_w _).trans hji10
                  by_cases c11 : 0 ≤ (ji10)
                  · rw [if_pos c11] at H
                    have c11b0 := eq_true c11
                    have c11b1 : decide (0 ≤ (ji10)) = true := decide_eq_true c11
                    clear c11
                    obtain ⟨ji12, hji12⟩ : ∃ j_ : Int, (shr .i64 x14_1 (ji10)) = j_ := ⟨_, rfl⟩
                    replace H : (if (Go.bits .and .i64 (ji12) 1) = 0 then (if x5_2.length < 140737488355328 then (impl_foldingsE.l1 k2 l0 x1_1 x14_1 (x5_2 ++ [114]) (wrap64 (x6_2 + (rd l0 x20_2))) (mn x7_2 (wrap64 (x6_2 + (rd l0 x20_2)))) (mx x8_2 (wrap64 (x6_2 + (rd l0 x20_2)))) ji3 x14_1 l0 (l0.length : Int) (wrap64 (x20_2 + 1))) else (none)) else (if x5_2.length < 140737488355328 then (impl_foldingsE.l1 k2 l0 x1_1 x14_1 (x5_2 ++ [108]) (wrap64 (x6_2 - (rd l0 x20_2))) (mn x7_2 (wrap64 (x6_2 - (rd l0 x20_2)))) (mx x8_2 (wrap64 (x6_2 - (rd l0 x20_2)))) ji3 x14_1 l0 (l0.length : Int) (wrap64 (x20_2 + 1))) else (none))) = some r := by first | (rw [hji12] at H; exact H) | (simp only [hji12] at H ⊢; exact H)
                    have hji12_ : (x14_1 / 2 ^ min (ji10).toNat 64) = ji12 := hji12
                    have hji12z : (ji10) ≤ 64 → (x14_1 / 2 ^ (ji10).toNat) = ji12 := shr_small hji12
                    by_cases c13 : (Go.bits .and .i64 (ji12) 1) = 0
                    · rw [if_pos c13] at H
                      have c13b0 : ((Go.bits .and .i64 (ji12) 1) == 0) = true := beq_iff_eq.mpr c13
                      have c13b1 : ((Go.bits .and .i64 (ji12) 1) != 0) = false := bne_eq_false_iff_eq.mpr c13
                      clear c13
                      by_cases c14 : x5_2.length < 140737488355328
                      · rw [if_pos c14] at H
                        have LMc14 := Aside0.mk c14
                        clear c14
                        obtain ⟨y106, hy106⟩ : ∃ y_ : List Int, y_ = (x5_2 ++ [114]) := ⟨_, rfl⟩
                        replace H : (impl_foldingsE.l1 k2 l0 x1_1 x14_1 y106 (wrap64 (x6_2 + (rd l0 x20_2))) (mn x7_2 (wrap64 (x6_2 + (rd l0 x20_2)))) (mx x8_2 (wrap64 (x6_2 + (rd l0 x20_2)))) ji3 x14_1 l0 (l0.length : Int) (wrap64 (x20_2 + 1))) = some r := by first | (rw [hy106]; with_reducible exact H) | (have H2_ := (Option.bind_some _ _).symm.trans H; rw [hy106]; with_reducible exact H2_) | (have H2_ := (Option.bind_some _ _).symm.trans H; with_reducible exact H2_) | with_reducible exact H | (rw [hy106]; exact H) | exact H
                        have Ny106 := Aside0.mk hy106
                        clear hy106
                        obtain ⟨ji15, hji15⟩ : ∃ j_ : Int, (mn x7_2 (wrap64 (x6_2 + (rd l0 x20_2)))) = j_ := ⟨_, rfl⟩
                        replace H : (impl_foldingsE.l1 k2 l0 x1_1 x14_1 y106 (wrap64 (x6_2 + (rd l0 x20_2))) ji15 (mx x8_2 (wrap64 (x6_2 + (rd l0 x20_2)))) ji3 x14_1 l0 (l0.length : Int) (wrap64 (x20_2 + 1))) = some r := by first | (rw [hji15] at H; exact H) | (simp only [hji15] at H ⊢; exact H)
                        have hji15_ : (if (wrap64 (x6_2 + (rd l0 x20_2))) < x7_2 then (wrap64 (x6_2 + (rd l0 x20_2))) else x7_2) = ji15 := hji15
                        obtain ⟨ji16, hji16⟩ : ∃ j_ : Int, (mx x8_2 (wrap64 (x6_2 + (rd l0 x20_2)))) = j_ := ⟨_, rfl⟩
                        replace H : (impl_foldingsE.l1 k2 l0 x1_1 x14_1 y106 (wrap64 (x6_2 + (rd l0 x20_2))) ji15 ji16 ji3 x14_1 l0 (l0.length : Int) (wrap64 (x20_2 + 1))) = some r := by first | (rw [hji16] at H; exact H) | (simp only [hji16] at H ⊢; exact H)
                        have hji16_ : (if x8_2 < (wrap64 (x6_2 + (rd l0 x20_2))) then (wrap64 (x6_2 + (rd l0 x20_2))) else x8_2) = ji16 := hji16
                        have H' := Aside0.mk H
                        clear H
                        have p105 : 0 ≤ (x20_2 : Int) := of_decide_eq_true (by first | (with_reducible assumption) | assumption)
                        have q105 : x20_2 < (l0.length : Int) := of_decide_eq_true (by first | (with_reducible assumption) | assumption)
                        obtain ⟨ad105, e105, hx105_0⟩ := Kd.at_int HR1.out x20_2 p105 q105
                        cases e105
                        replace hx105_0 := (HB.out.cell (World.block_lt_of_cell? ws _ hx105_0)).trans hx105_0
                        replace p105 := eq_true p105
                        replace q105 := eq_true q105
                        go_wp2_with (first | ((with_reducible refine gate_builtin (b := .append) (xs := #[.tmp 37, .tmp 38]) rfl ?_); at_builtin; refine Kd.R_append (Kd.int .u8) (w0 := ws) ws.heap.size rfl (.tmp 37) (.tmp 38) 22 5 (.int .u8 0) 1 rfl Try.underlying22 info5 rfl (by decide) (by omega) u5 x5_2 114 [.int .u8 114] (fun _ => True) (fun _ => False) rfl rfl ?aP (fun _ hk => hk.elim) ?aF ?aO ?aB ?aS ?aL ?_; (case aP => exact rfl); (case aB => exact (by repeat (first | (with_reducible first | exact HB.out | apply below_alloc | apply pw_below_drewN | apply below_drew1) | exact HB.out))); (case aF => exact (fun _ _ => trivial)); (case aO => exact (by (with_reducible repeat (first | apply Kd.R_alloc | apply Kd.R_drewN | apply Kd.R_drew)); exact HO_5.out)); (case aS => exact (below_size (by repeat (first | (with_reducible first | exact HB.out | apply below_alloc | apply pw_below_drewN | apply below_drew1) | exact HB.out)))); (case aL => have := LMc14.out; omega); intro v107 w17 ho hb hg hat; rw [← Ny106.out] at ho; have n0_ := Aside0.mk (hb); have n1_ := Aside0.mk (ho); clear HB; clear HO_5; have HB := n0_; have HO108 := n1_; clear n0_ n1_; clear ho hb hg hat))
                        first | go_roundg k2 | (subst hji10; go_roundg k2)
                        case measure => have := HK1.out; have := HK2.out; omega
                        case rel => exact ⟨(y106), (wrap64 (x6_2 + (rd l0 x20_2))), (ji15), (ji16), (wrap64 (x20_2 + 1)), (by first | rfl | (simp; done) | (simp only [i64_w]; first | done | rfl) | (simp [*]; done)), (by first | rfl | (simp; done) | (simp only [i64_w]; first | done | rfl) | (simp only [← hji15, i64_w]; first | done | rfl) | (simp only [← hji15] <;> (first | rfl | (simp; done))) | (simp [*]; done)), (by first | rfl | (simp; done) | (simp only [i64_w]; first | done | rfl) | (simp only [← hji16, i64_w]; first | done | rfl) | (simp only [← hji16] <;> (first | rfl | (simp; done))) | (simp [*]; done)), (by first | rfl | (simp; done) | (simp only [i64_w]; first | done | rfl) | (simp [*]; done)), H', ⟨by have := HK1.out; have := HK2.out; omega⟩, ⟨by (with_reducible repeat (first | apply Kd.R_alloc | apply Kd.R_drewN | apply Kd.R_drew)); exact HO108.out⟩, ⟨by repeat (first | (with_reducible first | exact HB.out | apply below_alloc | apply pw_below_drewN | apply below_drew1) | exact HB.out)⟩⟩
                      · rw [if_neg c14] at H
                        exact absurd H (by simp)
                    · rw [if_neg c13] at H
                      have c13b0 : ((Go.bits .and .i64 (ji12) 1) == 0) = false := beq_eq_false_iff_ne.mpr c13
                      have c13b1 : ((Go.bits .and .i64 (ji12) 1) != 0) = true := bne_iff_ne.mpr c13
                      by_cases c18 : x5_2.length < 140737488355328
                      · rw [if_pos c18] at H
                        have LMc18 := Aside0.mk c18
                        clear c18
                        obtain ⟨y109, hy109⟩ : ∃ y_ : List Int, y_ = (x5_2 ++ [108]) := ⟨_, rfl⟩
                        replace H : (impl_foldingsE.l1 k2 l0 x1_1 x14_1 y109 (wrap64 (x6_2 - (rd l0 x20_2))) (mn x7_2 (wrap64 (x6_2 - (rd l0 x20_2)))) (mx x8_2 (wrap64 (x6_2 - (rd l0 x20_2)))) ji3 x14_1 l0 (l0.length : Int) (wrap64 (x20_2 + 1))) = some r := by first | (rw [hy109]; with_reducible exact H) | (have H2_ := (Option.bind_some _ _).symm.trans H; rw [hy109]; with_reducible exact H2_) | (have H2_ := (Option.bind_some _ _).symm.trans H; with_reducible exact H2_) | with_reducible exact H | (rw [hy109]; exact H) | exact H
                        have Ny109 := Aside0.mk hy109
                        clear hy109
                        obtain ⟨ji19, hji19⟩ : ∃ j_ : Int, (mn x7_2 (wrap64 (x6_2 - (rd l0 x20_2)))) = j_ := ⟨_, rfl⟩
                        replace H : (impl_foldingsE.l1 k2 l0 x1_1 x14_1 y109 (wrap64 (x6_2 - (rd l0 x20_2))) ji19 (mx x8_2 (wrap64 (x6_2 - (rd l0 x20_2)))) ji3 x14_1 l0 (l0.length : Int) (wrap64 (x20_2 + 1))) = some r := by first | (rw [hji19] at H; exact H) | (simp only [hji19] at H ⊢; exact H)
                        have hji19_ : (if (wrap64 (x6_2 - (rd l0 x20_2))) < x7_2 then (wrap64 (x6_2 - (rd l0 x20_2))) else x7_2) = ji19 := hji19
                        obtain ⟨ji20, hji20⟩ : ∃ j_ : Int, (mx x8_2 (wrap64 (x6_2 - (rd l0 x20_2)))) = j_ := ⟨_, rfl⟩
                        replace H : (impl_foldingsE.l1 k2 l0 x1_1 x14_1 y109 (wrap64 (x6_2 - (rd l0 x20_2))) ji19 ji20 ji3 x14_1 l0 (l0.length : Int) (wrap64 (x20_2 + 1))) = some r := by first | (rw [hji20] at H; exact H) | (simp only [hji20] at H ⊢; exact H)
                        have hji20_ : (if x8_2 < (wrap64 (x6_2 - (rd l0 x20_2))) then (wrap64 (x6_2 - (rd l0 x20_2))) else x8_2) = ji20 := hji20
                        have H' := Aside0.mk H
                        clear H
                        have p105 : 0 ≤ (x20_2 : Int) := of_decide_eq_true (by first | (with_reducible assumption) | assumption)
                        have q105 : x20_2 < (l0.length : Int) := of_decide_eq_true (by first | (with_reducible assumption) | assumption)
                        obtain ⟨ad105, e105, hx105_0⟩ := Kd.at_int HR1.out x20_2 p105 q105
                        cases e105
                        replace hx105_0 := (HB.out.cell (World.block_lt_of_cell? ws _ hx105_0)).trans hx105_0
                        replace p105 := eq_true p105
                        replace q105 := eq_true q105
                        go_wp2_with (first | ((with_reducible refine gate_builtin (b := .append) (xs := #[.tmp 43, .tmp 44]) rfl ?_); at_builtin; refine Kd.R_append (Kd.int .u8) (w0 := ws) ws.heap.size rfl (.tmp 43) (.tmp 44) 22 5 (.int .u8 0) 1 rfl Try.underlying22 info5 rfl (by decide) (by omega) u5 x5_2 108 [.int .u8 108] (fun _ => True) (fun _ => False) rfl rfl ?aP (fun _ hk => hk.elim) ?aF ?aO ?aB ?aS ?aL ?_; (case aP => exact rfl); (case aB => exact (by repeat (first | (with_reducible first | exact HB.out | apply below_alloc | apply pw_below_drewN | apply below_drew1) | exact HB.out))); (case aF => exact (fun _ _ => trivial)); (case aO => exact (by (with_reducible repeat (first | apply Kd.R_alloc | apply Kd.R_drewN | apply Kd.R_drew)); exact HO_5.out)); (case aS => exact (below_size (by repeat (first | (with_reducible first | exact HB.out | apply below_alloc | apply pw_below_drewN | apply below_drew1) | exact HB.out)))); (case aL => have := LMc18.out; omega); intro v110 w21 ho hb hg hat; rw [← Ny109.out] at ho; have n0_ := Aside0.mk (hb); have n1_ := Aside0.mk (ho); clear HB; clear HO_5; have HB := n0_; have HO111 := n1_; clear n0_ n1_; clear ho hb hg hat))
                        first | go_roundg k2 | (subst hji10; go_roundg k2)
                        case measure => have := HK1.out; have := HK2.out; omega
                        case rel => exact ⟨(y109), (wrap64 (x6_2 - (rd l0 x20_2))), (ji19), (ji20), (wrap64 (x20_2 + 1)), (by first | rfl | (simp; done) | (simp only [i64_w]; first | done | rfl) | (simp [*]; done)), (by first | rfl | (simp; done) | (simp only [i64_w]; first | done | rfl) | (simp only [← hji19, i64_w]; first | done | rfl) | (simp only [← hji19] <;> (first | rfl | (simp; done))) | (simp [*]; done)), (by first | rfl | (simp; done) | (simp only [i64_w]; first | done | rfl) | (simp only [← hji20, i64_w]; first | done | rfl) | (simp only [← hji20] <;> (first | rfl | (simp; done))) | (simp [*]; done)), (by first | rfl | (simp; done) | (simp only [i64_w]; first | done | rfl) | (simp [*]; done)), H', ⟨by have := HK1.out; have := HK2.out; omega⟩, ⟨by (with_reducible repeat (first | apply Kd.R_alloc | apply Kd.R_drewN | apply Kd.R_drew)); exact HO111.out⟩, ⟨by repeat (first | (with_reducible first | exact HB.out | apply below_alloc | apply pw_below_drewN | apply below_drew1) | exact HB.out)⟩⟩
                      · rw [if_neg c18] at H
                        exact absurd H (by simp)
                  · rw [if_neg c11] at H
                    exact absurd H (by simp)
                · rw [if_neg c9] at H
                  exact absurd H (by simp)
              · rw [if_neg c8] at H
                exact absurd H (by simp)
            · rw [if_neg c7] at H
              have c7b0 : decide (x20_2 < (l0.length : Int)) = false := decide_eq_false c7
              clear c7
              replace H := Option.bind_eq_some_iff.mp H
              obtain ⟨t112, A220, H⟩ := H
              replace H : (impl_foldingsE.l0 k2 l0 t112 ji3 (wrap64 (x14_1 + 1))) = some r := H
              have A22 := Aside0.mk A220
              clear A220
              have H' := Aside0.mk H
              clear H
              have hcv23 := own_string (P := Try.prog) Try.underlying22 Try.underlying5 Try.underlying9 (Kd.own_of_R HO_5.out)
              have HI2 := Aside0.mk (LS_below HI.out HB.out)
              have HB2 := Aside0.mk (HB1.out.trans (HB.out.mono HB1.out.size))
              clear HB HI HB1 HR1
              go_wp2_with (first | (go_at_call 61; refine (impl_FoldEnds_1.calls g x1_1 (strOfNums x5_2) x6_2 (wrap64 (x8_2 - x7_2)) t112 w0 _ HB2.out hg0 (HI2.out) A22.out).mono ?_; rintro e w' ⟨rfl, hi_, hl_, hb_⟩; have HI3 := Aside0.mk hi_; have HB3 := Aside0.mk (HB2.out.trans (hb_)); clear hi_ hl_ hb_ HB2 HI2))
              go_roundg k2
              case measure => have := HK1.out; have := HK2.out; omega
              case rel => exact ⟨(t112), (wrap64 (x14_1 + 1)), (by first | rfl | (simp; done) | (simp only [i64_w]; first | done | rfl) | (simp [*]; done)), H', ⟨by have := HK1.out; have := HK2.out; omega⟩, HI3, HB3⟩
      · rw [if_neg c4] at H
        have c4b0 : decide (x14_1 < ji3) = false := decide_eq_false c4
        clear c4
        obtain rfl := Option.some.inj H
        go_wp2
        go_end0
        exact ⟨rfl, HI.out, HB1.out⟩


def laysCompact_ren : Go.Shelf.Ren := ⟨fun | 20 => 64 | n => n, fun | 22 => 23 | 3 => 3 | 4 => 4 | 0 => 0 | n => n, fun | n => n⟩
theorem laysCompact : Go.Proofs.Lays2.n20 Try.prog laysCompact_ren := {
  mixed := by kernel_rfl
  f20 := Try.func64.trans (congrArg some (by kernel_rfl))
  t0 := Try.underlying0
  a0 := Try.isAgg0
  z0 := Try.sizeOf0
  v0 := Try.zeroValue0
  t3 := Try.underlying3
  a3 := Try.isAgg3
  z3 := Try.sizeOf3
  v3 := Try.zeroValue3
  t4 := Try.underlying4
  a4 := Try.isAgg4
  z4 := Try.sizeOf4
  v4 := Try.zeroValue4
  t22 := Try.underlying23
  a22 := Try.isAgg23
  z22 := Try.sizeOf23
  v22 := Try.zeroValue23
  i3 := by kernel_rfl }
theorem compact_le : ∀ zs : List Int, (Lib.compact zs).length ≤ zs.length := by

  exact Lib.compact_length_le
set_option maxRecDepth 100000 in
theorem compact_own (P0_ : Nat → Prop) (v : Value) (l0 : List Int) (w0 w : World) (hB : Below w0.heap.size w0 w) (ho0 : Kd.R (Kd.int .i64) 3 w w0.heap.size P0_ v l0) (hl : l0.length < 4611686018427387904) :
    Calls Try.prog 64 #[v] w fun e w' => ∃ v', e = .returned v' ∧ Kd.R (Kd.int .i64) 3 w' w0.heap.size P0_ v' (Lib.compact l0) ∧ Below w0.heap.size w w' := by
  have hown := Kd.own_of_R ho0
  rcases hown.2 with ⟨hv, hx0⟩ | ⟨g, cap, cur, hv, hb, hh, hnc, hcm, hcs, htake⟩
  · have hnil : l0 = [] := List.length_eq_zero_iff.mp hx0
    subst hnil
    rw [hv] at ho0 ⊢
    refine Calls.mono (Any.slices_Compact_int_empty laysCompact none 0 w) ?_
    rintro e w' ⟨rfl, rfl⟩
    exact ⟨_, rfl, by have e0 : Lib.compact ([] : List Int) = [] := List.length_eq_zero_iff.mp (by have := compact_le []; simpa using this); rw [e0]; exact ho0, Below.refl _ _⟩
  · have hlt : g < w.heap.size := lt_of_block hh
    have hn : l0.length ≤ cur.size := by rw [hcs]; omega
    have hH : Go.Sort.Holds (Value.int .i64) w g 0 l0.toArray := fun j hj => by
      have hj' : j < l0.length := by simpa using hj
      rw [Nat.zero_add]
      have hc := own_at_of (d := (0 : Int)) (g := g) (cap := cap) (by rw [← hv]; exact hown) (j : Int) (by omega) (by omega)
      have e0 : l0.toArray[j]! = rdOf (0 : Int) l0 (j : Int) := by
        rw [getElem!_pos l0.toArray j hj]
        unfold rdOf
        simp [List.getD_eq_getElem?_getD, hj']
      rw [e0]
      exact hc
    have hP := ho0.1 g (by rw [hv]; rfl)
    have hcl := compact_le l0
    rw [hv] at ho0 ⊢
    refine Calls.mono (Any.slices_Compact_int laysCompact g 0 cap l0 w hH (by omega) hnc) ?_
    rintro e w' ⟨rfl, q, hw⟩
    have hw2 := Lib.sorted_world (Value.int .i64) w g 0 q l0.toArray (Lib.compact l0 ++ List.replicate (l0.length - (Lib.compact l0).length) 0) #[] hH (by simp; omega)
    rw [Go.Sort.grow_empty, Go.Sort.grow_empty] at hw2
    rw [hw2] at hw
    clear hw2
    generalize hzs : Lib.compact l0 = zs at hw hcl ⊢
    have hnl : ((zs ++ List.replicate (l0.length - zs.length) 0).map (Value.int .i64)).length = l0.length := by simp; omega
    have hhd : (w.drewN q).heap[g]? = some (.cells cur 3 (0, 0)) := hh
    obtain ⟨cur', h3, h4, h5⟩ := setCells_row ((zs ++ List.replicate (l0.length - zs.length) 0).map (Value.int .i64)) 0 (w.drewN q) cur hhd (by rw [hnl]; omega)
    obtain ⟨s1, s2, s3, s4⟩ := setCells_same g ((zs ++ List.replicate (l0.length - zs.length) 0).map (Value.int .i64)) 0 (w.drewN q)
    have far : ∀ k, k < w.heap.size → k ≠ g → w'.heap[k]? = w.heap[k]? := by
      intro k hk hkg
      rw [hw, setCells_far _ 0 k hkg]
      rfl
    have near : w'.heap[g]? = some (.cells cur' 3 (0, 0)) := by rw [hw, h3]
    have hsz : w.heap.size ≤ w'.heap.size := by
      rw [hw, s4]
      exact Nat.le_refl _
    have hb2 : Below w0.heap.size w w' := by
      refine ⟨?_, ?_, ?_, hsz, fun k hk => far k (Nat.lt_of_lt_of_le hk hB.size) (by omega)⟩
      · rw [hw]; exact s1
      · rw [hw]; exact s2
      · rw [hw]; exact s3
    refine ⟨_, rfl, Kd.R_of_own ?_ (fun k hk => ho0.1 k hk), hb2⟩
    refine ⟨by simp [encs], .inr ⟨g, cap, cur', rfl, hb, near, by omega, hcm, by rw [h4, hcs], ?_⟩⟩
    rw [h5, List.take_zero, List.nil_append, Nat.zero_add, Nat.mul_one, List.map_append, List.append_assoc, List.take_append, List.length_map, Nat.sub_self, List.take_zero, List.append_nil, List.take_of_length_le (by rw [List.length_map]; exact Nat.le_refl _)]
    rfl
set_option maxRecDepth 100000 in
theorem clip_calls (A : Option Addr) (n c : Nat) (w : World) (hn : n ≤ c) (hA : A = none → n = 0 ∧ c = 0) : Calls Try.prog 63 #[.slice A n c] w fun e w' => e = .returned (.slice A n n) ∧ Drawn0 w w' := by
  cases A with
  | none =>
    obtain ⟨rfl, rfl⟩ := hA rfl
    go_enter Try.func63, Try.ntmps63
    go_wp2
    repeat (go_quiet (fail); try go_wp2)
    go_ret
    exact ⟨rfl, by repeat (first | exact Drawn0.refl _ | apply Drawn0.step)⟩
  | some ad =>
    go_enter Try.func63, Try.ntmps63
    go_wp2
    repeat (go_quiet (fail); try go_wp2)
    go_ret
    exact ⟨rfl, by repeat (first | exact Drawn0.refl _ | apply Drawn0.step)⟩
theorem slice_nil {w : World} {base n c : Nat} {A : Option Addr} {ys : List Value} (h : w.ownsRow base 3 1 (.slice A n c) n ys) (hA : A = none) : n = 0 ∧ c = 0 := by
  subst hA
  rcases h.2 with ⟨hv, _⟩ | ⟨g, cap, cur, hv, _⟩
  · injection hv with _ h1 h2; exact ⟨h1, h2⟩
  · injection hv with h0; cases h0
theorem clip_V {w : World} {base c : Nat} {ok : Nat → Prop} {A : Option Addr} {ys : List Int} (h : Kd.R (Kd.int .i64) 3 w base ok (.slice A ys.length c) ys) (m : Nat) : Kd.V (Kd.int .i64) 3 (w.drewN m) base (fun k => base ≤ k) (.slice A ys.length ys.length) ys := by
  refine ⟨A, ys.length, rfl, Nat.le_refl _, fun W' hW => ?_⟩
  have h1 := Kd.R_mono (ok' := fun k => base ≤ k) (Kd.R_bound h) (fun k hk => hk.2.1)
  have h2 := Kd.R_step (w1 := W') h1 (fun k hk hlt => hW k hk hlt)
  obtain ⟨A', c', e, _, hc⟩ := Kd.R_reads h2
  injection e with e1
  subst e1
  exact hc
def impl_FoldEnds.f (k : Nat) (l0 : List Int) : Option (List Int × Bool) := ((impl_isRuler.f k l0).bind fun t => (if t = true then ((impl_foldingsE.f k l0 []).bind fun xs => (if xs.length < 4611686018427387904 then some (Lib.compact (xs.mergeSort fun x y => decide (x ≤ y)), true) else none)) else (some (([] : List Int), false))))
theorem impl_FoldEnds.mono : ∀ a0 k, LeO (impl_FoldEnds.f k a0) (impl_FoldEnds.f (k + 1) a0) := by
  intro a0 k
  unfold impl_FoldEnds.f
  exact LeO.bind (impl_isRuler.mono _ _) (fun _ => LeO.ite (LeO.bind (impl_foldingsE.mono _ _ _) (fun _ => LeO.refl _)) (LeO.refl _))
set_option maxHeartbeats 8000000 in
set_option maxRecDepth 100000 in
theorem impl_FoldEnds.callsX (k : Nat) (A0 : Option Addr) (c0 : Nat) (l0 : List Int) (r1 : List Int) (r2 : Bool) (w : World) (hr0 : Kd.C (Kd.int .i64) w A0 l0.length l0) (hc0 : l0.length ≤ c0) (h : impl_FoldEnds.f k l0 = some (r1, r2)) :
    Calls Try.prog 34 #[.slice A0 l0.length c0] w fun e w' => ∃ v0_ : Value, e = .returned (.tuple #[v0_, .bool r2]) ∧ Kx.R (Kd.int .i64) 3 w' w.heap.size (fun _ => True) v0_ r1 ∧ Below w.heap.size w w' := by
  have hmf : ∀ (fn : Fn) (first cap : Array Value) (w : World), (Instr.makeFunc fn first cap).run Try.prog w = .ok (.func fn first cap) w := fun _ _ _ _ => rfl
  have HR0 := Aside0.mk hr0
  have HC0 := Aside0.mk hc0
  clear hr0 hc0
  have HB := Aside0.mk (Below.refl w.heap.size w)
  unfold impl_FoldEnds.f at h
  obtain ⟨t, A20, H⟩ := Option.bind_eq_some_iff.mp h
  clear h
  have A2 := Aside0.mk A20
  clear A20
  cases t with
  | true =>
    rw [if_pos rfl] at H
    obtain ⟨xs, A40, H1⟩ := Option.bind_eq_some_iff.mp H
    clear H
    have A4 := Aside0.mk A40
    clear A40
    by_cases hl : xs.length < 4611686018427387904
    · rw [if_pos hl] at H1
      simp only [Option.some.injEq, Prod.mk.injEq] at H1
      obtain ⟨rfl, rfl⟩ := H1
      have HL := Aside0.mk hl
      clear hl
      go_enter Try.func34, Try.ntmps34
      go_wp2_with (first | ((with_reducible refine gate_callee (f := 57) rfl ?_); refine goesL_ (some 6) rfl rfl Try.func57 (by kernel_rfl) rfl #[.slice A0 l0.length c0] rfl (by (try simp only [List.map_toArray, List.map_cons, List.map_nil]); first | done | rfl | (simp only [List.length_drop, List.length_take]; rfl)) ?_; (with_reducible refine (impl_isRuler.calls k _ _ l0 true _ ?side1 ?side2 A2.out).mono ?_); (case side1 => exact HR0.out); (case side2 => exact HC0.out); rintro e w' ⟨rfl, ⟨nd, rfl⟩⟩; refine ⟨_, rfl, ?_⟩) | ((with_reducible refine gate_dst (N := 8) rfl ?_); refine Kd.R_lit (Kd.int .i64) _ 3 ?hg (N := 8) ?hd (xs := ([] : List Int)) (inner := []) (ok := fun _ => True) (okp := fun _ => True) ?hr ?hp (fun _ hk => hk) trivial (Below.refl _ _) (Nat.le_refl _) (by simp) ?_; (case hd => rfl); (case hg => rfl); (case hr => first | (go_simp; done) | (go_simp; rfl)); (case hp => exact (Reps.none _ _)); intro v119 w5 ho6 hb hg_ hnew_; clear hg_ hnew_; obtain ⟨A8, c8, e8⟩ := Kd.R_slice ho6; subst e8; have HO6 := Aside0.mk ho6; have HB5 := Aside0.mk hb; clear ho6 hb; have FW := cell_of_one (alloc_lastE w5 (.slice none 0 0) 23); have FF := free_of_one (alloc_lastE w5 (.slice none 0 0) 23)) | (go_at_call 60; (refine (impl_foldingsE.calls k A0 c0 l0 [] xs w5.heap.size w _ HR0.out HC0.out ?s3 ?s4 ?s5 A4.out).mono ?_; (case s3 => exact ((below_drewNE w nd _).trans HB5.out).alloc HB5.out.size _); (case s4 => exact HB5.out.size); (case s5 => exact ⟨_, alloc_lastE w5 _ 23, Kd.R_alloc (Kd.R_mono (Kd.R_bound HO6.out) (fun k hk => by have := hk.2.2.1; omega)) _⟩); rintro e w1 ⟨rfl, ⟨v1, hg1, hR1⟩, hb1⟩; obtain ⟨A1, c1, e1⟩ := Kd.R_slice hR1; subst e1; have cg1 := cell_of_one hg1; have HB1 := Aside0.mk hb1; have HR1 := Aside0.mk hR1; have HG1 := Aside0.mk hg1; clear hg1 hR1 hb1)) | (go_at_call 62; (refine (slices_Sort_int_int.calls (fun k => k ≠ w5.heap.size) (.slice A1 xs.length c1) xs (xs.mergeSort fun x y => decide (x ≤ y)) w _ HB1.out HR1.out (by unfold slices_Sort_int_int.f; rw [if_pos HL.out])).mono ?_; rintro e w2 ⟨rfl, hR2, hB2, hK2⟩; have HG2 := Aside0.mk ((hK2.2 _ (lt_of_block HG1.out) (fun q => q rfl)).trans HG1.out); have cg2 := cell_of_one HG2.out; have HB2 := Aside0.mk hB2; have HR2 := Aside0.mk hR2; clear hR2 hB2 hK2)) | (go_at_call 64; (refine (compact_own _ (.slice A1 xs.length c1) (xs.mergeSort fun x y => decide (x ≤ y)) w _ HB2.out HR2.out (by rw [List.length_mergeSort]; exact HL.out)).mono ?_; rintro e w3 ⟨v3, rfl, hR3, hB3⟩; obtain ⟨A3, c3, e3, hn3, _⟩ := Kd.R_reads hR3; subst e3; have HN3 := Aside0.mk hn3; have HB3 := Aside0.mk (HB2.out.trans hB3); have HR3 := Aside0.mk hR3; clear hn3 hB3 hR3)) | (go_at_call 63; (refine (clip_calls A3 _ c3 _ HN3.out (slice_nil (Kd.own_of_R HR3.out))).mono ?_; rintro e w4 ⟨rfl, ⟨nd4, rfl⟩⟩)))
      go_ret2
      exact ⟨_, rfl, Kx.mk (Nat.le_refl _) (Kd.R_drewN (Kd.R_mono HR3.out (fun _ _ => trivial)) nd4), HB3.out.trans (below_drewNE _ _ _)⟩
    · rw [if_neg hl] at H1
      exact absurd H1 (by simp)
  | false =>
    rw [if_neg (by decide)] at H
    simp only [Option.some.injEq, Prod.mk.injEq] at H
    obtain ⟨rfl, rfl⟩ := H
    go_enter Try.func34, Try.ntmps34
    go_wp2_with (first | ((with_reducible refine gate_callee (f := 57) rfl ?_); refine goesL_ (some 6) rfl rfl Try.func57 (by kernel_rfl) rfl #[.slice A0 l0.length c0] rfl (by (try simp only [List.map_toArray, List.map_cons, List.map_nil]); first | done | rfl | (simp only [List.length_drop, List.length_take]; rfl)) ?_; (with_reducible refine (impl_isRuler.calls k _ _ l0 false _ ?side1 ?side2 A2.out).mono ?_); (case side1 => exact HR0.out); (case side2 => exact HC0.out); rintro e w' ⟨rfl, ⟨nd, rfl⟩⟩; refine ⟨_, rfl, ?_⟩))
    go_ret2
    exact ⟨_, rfl, Kx.of_R (Kd.R_nil _ _ _ _ _), below_drewNE _ _ _⟩
theorem impl_FoldEnds.calls (k : Nat) (A0 : Option Addr) (c0 : Nat) (l0 : List Int) (r1 : List Int) (r2 : Bool) (w : World) (hr0 : Kd.C (Kd.int .i64) w A0 l0.length l0) (hc0 : l0.length ≤ c0) (h : impl_FoldEnds.f k l0 = some (r1, r2)) :
    Calls Try.prog 34 #[.slice A0 l0.length c0] w fun e w' => ∃ v0_ : Value, e = .returned (.tuple #[v0_, .bool r2]) ∧ Kd.V (Kd.int .i64) 3 w' w.heap.size (fun k_ => w.heap.size ≤ k_) v0_ r1 ∧ Below w.heap.size w w' := by
  refine (impl_FoldEnds.callsX k A0 c0 l0 r1 r2 w hr0 hc0 h).mono ?_
  rintro e w' ⟨v, rfl, ⟨_, A, n, c, c', rfl, hl, hR⟩, hb⟩
  refine ⟨_, rfl, ?_, hb⟩
  have hn := (Kd.R_reads' hR).1
  subst hn
  refine ⟨A, c, rfl, hl, fun W' hW => ?_⟩
  have h1 := Kd.R_mono (ok' := fun k => w.heap.size ≤ k) (Kd.R_bound hR) (fun k hk => hk.2.1)
  have h2 := Kd.R_step (w1 := W') h1 (fun k hk hlt => hW k hk hlt)
  exact (Kd.R_reads' h2).2.2

end Go.Proofs.Ytfihnemjaademaa.PE
