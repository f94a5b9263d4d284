/- The first goals: both sides' search, told as plain functions; what it finds is a sum. No condition beside the types' own bounds. -/
import Derived.Test.YthcbaogbncakdaaGreatDoorcGKC
namespace Go.Proofs.YthcbaogbncakdaaGreatDoor.Pure
open Go.RowKit Go.Proofs.YthcbaogbncakdaaGreatDoor.QFnGoalsReached Go.Proofs.YthcbaogbncakdaaGreatDoorW.PrintWords Go.Proofs.YthcbaogbncakdaaGreatDoorW.PrintLast Go.Proofs.YthcbaogbncakdaaGreatDoorW.PrintMore
set_option linter.unusedVariables false
set_option linter.unusedSimpArgs false
set_option linter.unusedSectionVars false
def gl (kk : Int) (rec : Int → Int → List Int × Bool) (s m : Int) : Nat → List Int × Bool
  | 0 => ([], false)
  | n + 1 => if (rec (s - n * kk) (m - n)).2 = true then ((rec (s - n * kk) (m - n)).1 ++ [(n : Int)], true) else gl kk rec s m n
def gf (ks : List Int) : Nat → Int → Int → List Int × Bool
  | 0, s, m => ([], decide (s = 0) && decide (m = 0))
  | k + 1, s, m => gl (rd ks k) (gf ks k) s m (min m (s / rd ks k) + 1).toNat
theorem gl_len {kk : Int} {rec : Int → Int → List Int × Bool} {k : Nat} (h : ∀ s m, (rec s m).2 = true → (rec s m).1.length = k) (s m : Int) (n : Nat) : (gl kk rec s m n).2 = true → (gl kk rec s m n).1.length = k + 1 := by
  induction n with
  | zero => intro e; cases e
  | succ n ih =>
    rw [gl]
    by_cases c : (rec (s - n * kk) (m - n)).2 = true
    · rw [if_pos c]
      intro _
      simp only
      rw [List.length_append, h _ _ c]
      rfl
    · rw [if_neg c]; exact ih
theorem gf_len (ks : List Int) (k : Nat) : ∀ s m, (gf ks k s m).2 = true → (gf ks k s m).1.length = k := by
  induction k with
  | zero => intro s m _; rfl
  | succ k ih => intro s m; exact gl_len ih s m _
theorem upd_drop (out : List Int) (k : Nat) (v : Int) (h : k < out.length) : (upd out k v).drop k = v :: out.drop (k + 1) := by
  unfold upd
  rw [Int.toNat_natCast, List.drop_eq_getElem_cons (by rw [List.length_set]; exact h), List.getElem_set_self, List.drop_set, if_pos (by omega)]
theorem drop_succ {a b : List Int} {k : Nat} (h : a.drop k = b.drop k) : a.drop (k + 1) = b.drop (k + 1) := by
  rw [← List.drop_drop (i := 1) (j := k), ← List.drop_drop (i := 1) (j := k), h]
theorem lp_gl {ks : List Int} {k : Nat} (hk : k < ks.length) (ih : ∀ out : List Int, out.length = ks.length → ∀ s m, (fd ks k out s m).1 = (gf ks k s m).2 ∧ (fd ks k out s m).2.drop k = out.drop k ∧ ((gf ks k s m).2 = true → (fd ks k out s m).2 = (gf ks k s m).1 ++ out.drop k)) (kk s m : Int) (n : Nat) : ∀ out : List Int, out.length = ks.length →
    (lp kk k (fd ks k) s m n out).1 = (gl kk (gf ks k) s m n).2 ∧ (lp kk k (fd ks k) s m n out).2.drop (k + 1) = out.drop (k + 1) ∧ ((gl kk (gf ks k) s m n).2 = true → (lp kk k (fd ks k) s m n out).2 = (gl kk (gf ks k) s m n).1 ++ out.drop (k + 1)) := by
  induction n with
  | zero => intro out ho; exact ⟨rfl, rfl, fun e => by cases e⟩
  | succ n ihn =>
    intro out ho
    have hu : (upd out (k : Int) (n : Int)).length = ks.length := by rw [upd_length]; exact ho
    obtain ⟨i1, i2, i3⟩ := ih (upd out k n) hu (s - n * kk) (m - n)
    have hd := upd_drop out k (n : Int) (by omega)
    simp only [lp, gl]
    rw [i1]
    by_cases c : (gf ks k (s - n * kk) (m - n)).2 = true
    · rw [if_pos c, if_pos c]
      refine ⟨rfl, ?_, fun _ => ?_⟩
      · have := drop_succ i2
        have h2 := List.drop_drop (i := 1) (j := k) (l := upd out k n)
        rw [hd] at h2
        simp only
        rw [this, ← h2]
        rfl
      · simp only
        rw [i3 c, hd, List.append_assoc]
        rfl
    · rw [if_neg c, if_neg c]
      have hl : (fd ks k (upd out k n) (s - n * kk) (m - n)).2.length = ks.length := by rw [fd_len]; exact hu
      obtain ⟨j1, j2, j3⟩ := ihn _ hl
      have e : (fd ks k (upd out k n) (s - n * kk) (m - n)).2.drop (k + 1) = out.drop (k + 1) := by
        have := drop_succ i2
        have h2 := List.drop_drop (i := 1) (j := k) (l := upd out k n)
        rw [hd] at h2
        rw [this, ← h2]
        rfl
      rw [e] at j2 j3
      exact ⟨j1, j2, j3⟩
theorem fd_gf (ks : List Int) (k : Nat) : k ≤ ks.length → ∀ out : List Int, out.length = ks.length → ∀ s m, (fd ks k out s m).1 = (gf ks k s m).2 ∧ (fd ks k out s m).2.drop k = out.drop k ∧ ((gf ks k s m).2 = true → (fd ks k out s m).2 = (gf ks k s m).1 ++ out.drop k) := by
  induction k with
  | zero => intro _ out _ s m; exact ⟨rfl, rfl, fun _ => rfl⟩
  | succ k ih => intro hk out ho s m; exact lp_gl (by omega) (ih (by omega)) _ s m _ out ho
theorem first_l0 {l : List Int} (hK : IsK l) {j : Nat} (hj : j < l.length) (ih : ∀ s m : Int, 0 ≤ s → s ≤ 1000000 → 0 ≤ m → m ≤ 1000000 → Ev (fun k => spec_goFirst.f k l ((j : Int) - 1) s m) (gf l j s m)) (s m : Int) (s0 : 0 ≤ s) (s1 : s ≤ 1000000) (m0 : 0 ≤ m) (m1 : m ≤ 1000000) (n : Nat) : (n : Int) ≤ m + 1 → ((n : Int) - 1) * l[j] ≤ s →
    Ev (fun k => spec_goFirst.l0 k l (j : Int) s m ((n : Int) - 1)) (gl l[j] (gf l j) s m n) := by
  obtain ⟨n1, n2⟩ := hK.rng j hj
  have h5 := hK.l5
  induction n with
  | zero =>
    intro _ _
    refine ev_some fun k => ?_
    simp only [spec_goFirst.l0]
    rw [if_neg (by omega)]
    rfl
  | succ n ihn =>
    intro h1 h2
    have hp0 : 0 ≤ (n : Int) * l[j] := Int.mul_nonneg (by omega) (by omega)
    have hp1 : (n : Int) * l[j] ≤ s := by rwa [show ((n + 1 : Nat) : Int) - 1 = (n : Int) by omega] at h2
    have hp2 : ((n : Int) - 1) * l[j] ≤ s := by rw [Int.sub_mul]; omega
    have hi := ihn (by omega) hp2
    obtain ⟨p, hp⟩ : ∃ p, p = (n : Int) * l[j] := ⟨_, rfl⟩
    have hrec := ih (s - p) (m - n) (by omega) (by omega) (by omega) (by omega)
    rw [gl, ← hp]
    have hlen := gf_len l j (s - p) (m - n)
    rw [show ((n + 1 : Nat) : Int) - 1 = (n : Int) by omega]
    have goal : Ev (fun k => (spec_goFirst.f k l ((j : Int) - 1) (s - p) (m - n)).bind fun bt => if bt.2 = true then (if bt.1.length < 17592186044416 then some ((bt.1 ++ [(n : Int)]), true) else none) else spec_goFirst.l0 k l (j : Int) s m ((n : Int) - 1)) (if (gf l j (s - p) (m - n)).2 = true then ((gf l j (s - p) (m - n)).1 ++ [(n : Int)], true) else gl l[j] (gf l j) s m n) := by
      refine Ev.bind hrec ?_
      by_cases c : (gf l j (s - p) (m - n)).2 = true
      · have := hlen c
        have q : (gf l j (s - p) (m - n)).1.length < 17592186044416 := by omega
        simp only [if_pos c, if_pos q]
        exact Ev.now _
      · simp only [if_neg c]
        exact hi
    refine Ev.step (fun k => ?_) goal
    simp only [spec_goFirst.l0]
    rw [if_pos (by omega), if_pos (by omega), if_pos (by omega), rdI l j hj, ← hp, wrap_id (i := p) (by omega) (by omega), wrap_id (i := (j : Int) - 1) (by omega) (by omega), wrap_id (i := s - p) (by omega) (by omega), wrap_id (i := m - (n : Int)) (by omega) (by omega), wrap_id (i := (n : Int) - 1) (by omega) (by omega)]
theorem first_ev {l : List Int} (hK : IsK l) (j : Nat) : j ≤ l.length → ∀ s m : Int, 0 ≤ s → s ≤ 1000000 → 0 ≤ m → m ≤ 1000000 → Ev (fun k => spec_goFirst.f k l ((j : Int) - 1) s m) (gf l j s m) := by
  induction j with
  | zero =>
    intro _ s m _ _ _ _
    refine ev_some fun k => ?_
    simp only [spec_goFirst.f]
    rw [if_pos (by omega)]
    by_cases c : s = 0
    · rw [if_pos c]
      simp only [gf]
      rw [decide_eq_true c, Bool.true_and]
      congr 2
    · rw [if_neg c]
      simp only [gf]
      rw [decide_eq_false c, Bool.false_and]
  | succ j ih =>
    intro hj s m s0 s1 m0 m1
    obtain ⟨n1, n2⟩ := hK.rng j (by omega)
    have h5 := hK.l5
    obtain ⟨q, hq⟩ : ∃ q, q = s / l[j] := ⟨_, rfl⟩
    have q0 : 0 ≤ q := by rw [hq]; exact Int.ediv_nonneg s0 (by omega)
    have q1 : q ≤ s := by rw [hq]; exact Int.ediv_le_self _ s0
    have q2 : q * l[j] ≤ s := by rw [hq]; exact Int.ediv_mul_le _ (by omega)
    have ht : wrap64 (Int.tdiv s l[j]) = q := by rw [Int.tdiv_eq_ediv_of_nonneg s0, ← hq, wrap_id (by omega) (by omega)]
    obtain ⟨M, hM⟩ : ∃ M, M = min m q := ⟨_, rfl⟩
    have hM2 : mn m q = M := by unfold mn; split <;> omega
    have hMq : M * l[j] ≤ s := Int.le_trans (Int.mul_le_mul_of_nonneg_right (by omega) (by omega)) q2
    have h := first_l0 hK (by omega) (ih (by omega)) s m s0 s1 m0 m1 (M + 1).toNat (by omega) (by rw [show (((M + 1).toNat : Nat) : Int) - 1 = M by omega]; exact hMq)
    rw [show (((M + 1).toNat : Nat) : Int) - 1 = M by omega] at h
    have e : gf l (j + 1) s m = gl l[j] (gf l j) s m (M + 1).toNat := by
      show gl (rd l j) (gf l j) s m (min m (s / rd l j) + 1).toNat = _
      rw [rdI l j (by omega), ← hq, ← hM]
    rw [e, show ((j + 1 : Nat) : Int) - 1 = (j : Int) by omega]
    refine Ev.step (fun k => ?_) h
    simp only [spec_goFirst.f]
    rw [if_neg (by omega), if_pos (by omega), if_pos (by omega), rdI l j (by omega), if_neg (by omega), ht, least_mn, hM2]
    rfl
def dotN (o l : List Int) : Nat → Int
  | 0 => 0
  | i + 1 => dotN o l i + rd o i * rd l i
def cntN (o : List Int) : Nat → Int
  | 0 => 0
  | i + 1 => cntN o i + rd o i
theorem dot_left (o l : List Int) (x : Int) (i : Nat) (h : i ≤ o.length) : dotN (o ++ [x]) l i = dotN o l i := by
  induction i with
  | zero => rfl
  | succ i ih =>
    have e : rd (o ++ [x]) (i : Int) = rd o (i : Int) := by
      rw [rd_left o [x] i (by omega)]
      have := rd_left o [] i (by omega)
      rw [List.append_nil] at this
      exact this.symm
    simp only [dotN]
    rw [ih (by omega), e]
theorem cnt_left (o : List Int) (x : Int) (i : Nat) (h : i ≤ o.length) : cntN (o ++ [x]) i = cntN o i := by
  induction i with
  | zero => rfl
  | succ i ih =>
    have e : rd (o ++ [x]) (i : Int) = rd o (i : Int) := by
      rw [rd_left o [x] i (by omega)]
      have := rd_left o [] i (by omega)
      rw [List.append_nil] at this
      exact this.symm
    simp only [cntN]
    rw [ih (by omega), e]
def Good (ks : List Int) (k : Nat) (s m : Int) (o : List Int) : Prop := o.length = k ∧ (∀ t : Nat, t < k → 0 ≤ rd o t) ∧ dotN o ks k = s ∧ cntN o k = m
theorem gl_good {ks : List Int} {k : Nat} {rec : Int → Int → List Int × Bool} (h : ∀ s m, (rec s m).2 = true → Good ks k s m (rec s m).1) (s m : Int) (n : Nat) : (gl (rd ks k) rec s m n).2 = true → Good ks (k + 1) s m (gl (rd ks k) rec s m n).1 := by
  induction n with
  | zero => intro e; cases e
  | succ n ih =>
    rw [gl]
    by_cases c : (rec (s - n * rd ks k) (m - n)).2 = true
    · rw [if_pos c]
      intro _
      obtain ⟨g1, g2, g3, g4⟩ := h _ _ c
      simp only
      generalize (rec (s - n * rd ks k) (m - n)).1 = o at g1 g2 g3 g4
      have hm : rd (o ++ [(n : Int)]) (k : Int) = (n : Int) := by rw [← g1]; exact rd_mid o [] n
      refine ⟨by rw [List.length_append, g1]; rfl, fun t ht => ?_, ?_, ?_⟩
      · by_cases e : t = k
        · subst e; rw [hm]; omega
        · have e2 : rd (o ++ [(n : Int)]) (t : Int) = rd o (t : Int) := by
            rw [rd_left o _ t (by omega)]
            have := rd_left o [] t (by omega)
            rw [List.append_nil] at this
            exact this.symm
          rw [e2]
          exact g2 t (by omega)
      · simp only [dotN]
        rw [dot_left o ks n k (by omega), hm, g3]
        omega
      · simp only [cntN]
        rw [cnt_left o n k (by omega), hm, g4]
        omega
    · rw [if_neg c]; exact ih
theorem gf_good (ks : List Int) (k : Nat) : ∀ s m, (gf ks k s m).2 = true → Good ks k s m (gf ks k s m).1 := by
  induction k with
  | zero =>
    intro s m h
    simp only [gf, Bool.and_eq_true, decide_eq_true_eq] at h
    exact ⟨rfl, fun t ht => by omega, h.1.symm, h.2.symm⟩
  | succ k ih => intro s m; exact gl_good ih s m _
def Comb (ks : List Int) : Nat → Int → Int → Prop
  | 0, s, m => s = 0 ∧ m = 0
  | k + 1, s, m => ∃ n : Nat, Comb ks k (s - n * rd ks k) (m - n)
theorem comb_nn {ks : List Int} (hk : ∀ j : Nat, j < ks.length → 1 ≤ rd ks j) (k : Nat) : k ≤ ks.length → ∀ s m, Comb ks k s m → 0 ≤ s ∧ 0 ≤ m := by
  induction k with
  | zero => intro _ s m h; exact ⟨by rw [h.1]; omega, by rw [h.2]; omega⟩
  | succ k ih =>
    rintro hkl s m ⟨n, h⟩
    have h1 := ih (by omega) _ _ h
    have h2 : 0 ≤ (n : Int) * rd ks k := Int.mul_nonneg (by omega) (by have := hk k (by omega); omega)
    omega
theorem comb_zero (ks : List Int) (k : Nat) : Comb ks k 0 0 := by
  induction k with
  | zero => exact ⟨rfl, rfl⟩
  | succ k ih => exact ⟨0, by simpa using ih⟩
theorem comb_add (ks : List Int) (i : Nat) (k : Nat) : i < k → ∀ s m, Comb ks k s m → Comb ks k (s + rd ks i) (m + 1) := by
  induction k with
  | zero => intro h; omega
  | succ k ih =>
    rintro hi s m ⟨n, h⟩
    by_cases e : i = k
    · subst e
      refine ⟨n + 1, ?_⟩
      have e1 : s + rd ks i - ((n + 1 : Nat) : Int) * rd ks i = s - n * rd ks i := by rw [Int.natCast_add, Int.add_mul]; omega
      have e2 : m + 1 - ((n + 1 : Nat) : Int) = m - n := by omega
      rw [e1, e2]
      exact h
    · refine ⟨n, ?_⟩
      have := ih (by omega) _ _ h
      rwa [show s - n * rd ks k + rd ks i = s + rd ks i - n * rd ks k by omega, show m - n + 1 = m + 1 - (n : Int) by omega] at this
theorem gl_comp {kk : Int} {rec : Int → Int → List Int × Bool} {s m : Int} {n : Nat} (h : (rec (s - n * kk) (m - n)).2 = true) (N : Nat) : n < N → (gl kk rec s m N).2 = true := by
  induction N with
  | zero => intro h; omega
  | succ N ih =>
    intro hn
    rw [gl]
    by_cases c : (rec (s - N * kk) (m - N)).2 = true
    · rw [if_pos c]
    · rw [if_neg c]
      by_cases e : n = N
      · subst e; exact absurd h c
      · exact ih (by omega)
theorem gf_comp {ks : List Int} (hk : ∀ j : Nat, j < ks.length → 1 ≤ rd ks j) (k : Nat) : k ≤ ks.length → ∀ s m, Comb ks k s m → (gf ks k s m).2 = true := by
  induction k with
  | zero => intro _ s m h; simp only [gf, h.1, h.2]; decide
  | succ k ih =>
    rintro hkl s m ⟨n, h⟩
    have hk1 := hk k (by omega)
    have h1 := comb_nn hk k (by omega) _ _ h
    have h2 := ih (by omega) _ _ h
    have h3 : (n : Int) ≤ s / rd ks k := (Int.le_ediv_iff_mul_le (by omega)).2 (by omega)
    exact gl_comp h2 _ (by omega)
theorem fw_comb {l : List Int} (hK : IsK l) (s : Nat) : 0 ≤ fw l s → Comb l l.length (s : Int) (fw l s) := by
  have hl : ∀ x ∈ l, 1 ≤ x := fun x hx => (hK.mem x hx).1
  induction s using Nat.strongRecOn with
  | ind s ih =>
    intro h
    by_cases c : s = 0
    · subst c
      rw [fw_zero]
      exact comb_zero l _
    · obtain ⟨n, hn, h1, h2, h3, h4⟩ := fw_from hl c h
      have h5 := ih (s - n.toNat) (by omega) h3
      obtain ⟨i, hi, rfl⟩ := List.getElem_of_mem hn
      have h6 := comb_add l i l.length hi _ _ h5
      rw [rdI l i hi] at h6
      rw [h4]
      rwa [show (((s - l[i].toNat : Nat) : Int)) + l[i] = (s : Int) by omega] at h6
def fg (l : List Int) (m : Nat) : List Int := (gf l l.length (m : Int) (fw l m)).1
theorem fg_good {l : List Int} (hK : IsK l) (m : Nat) (h : 0 ≤ fw l m) : (gf l l.length (m : Int) (fw l m)).2 = true ∧ Good l l.length (m : Int) (fw l m) (fg l m) := by
  have hk : ∀ j : Nat, j < l.length → 1 ≤ rd l j := fun j hj => by rw [rdI l j hj]; exact (hK.rng j hj).1
  have h1 := gf_comp hk l.length (Nat.le_refl _) _ _ (fw_comb hK m h)
  exact ⟨h1, gf_good l l.length _ _ h1⟩
theorem fewest_ev {l : List Int} (hK : IsK l) {m : Nat} (hm : m ≤ 200) (hS : Ev (fun k => spec_goAsked.f k l (m : Int)) true) (hI : Ev (fun k => impl_isAsked.f k l (m : Int)) true) : Ev (fun k => spec_FewestGoals.f k l (m : Int)) (mx (fw l m) 0, decide (fw l m ≥ 0)) ∧ Ev (fun k => impl_FewestGoals.f k l (m : Int)) (mx (fw l m) 0, decide (fw l m ≥ 0)) := by
  have hf := few_ev hK m (by omega)
  have hr := rd_few l m m (Nat.le_refl _)
  have c1 : (0 : Int) ≤ (m : Int) := by omega
  have c2 : (m : Int) < ((fewT l m).length : Int) := by rw [fewT_len]; omega
  unfold spec_FewestGoals.f impl_FewestGoals.f
  refine ⟨Ev.bind hS ?_, Ev.bind hI ?_⟩
  · simp only [if_true, few_eq]
    refine Ev.bind hf ?_
    simp only [if_pos c1, if_pos c2, hr]
    by_cases c : fw l m < 0
    · have e1 : mx (fw l m) 0 = 0 := by unfold mx; rw [if_pos c]
      have e2 : decide (fw l m ≥ 0) = false := decide_eq_false (by omega)
      simp only [if_pos c, e1, e2]
      exact Ev.now _
    · have e1 : mx (fw l m) 0 = fw l m := by unfold mx; rw [if_neg c]
      have e2 : decide (fw l m ≥ 0) = true := decide_eq_true (by omega)
      simp only [if_neg c, e1, e2]
      exact Ev.now _
  · simp only [if_true]
    refine Ev.bind hf ?_
    simp only [if_pos c1, if_pos c2, hr]
    exact Ev.now _
theorem can_ev {l : List Int} (hK : IsK l) {m : Nat} (hm : m ≤ 200) (hS : Ev (fun k => spec_goAsked.f k l (m : Int)) true) (hI : Ev (fun k => impl_isAsked.f k l (m : Int)) true) : Ev (fun k => spec_CanReach.f k l (m : Int)) (decide (fw l m ≥ 0), true) ∧ Ev (fun k => impl_CanReach.f k l (m : Int)) (decide (fw l m ≥ 0), true) := by
  have hf := few_ev hK m (by omega)
  have hr := rd_few l m m (Nat.le_refl _)
  have c1 : (0 : Int) ≤ (m : Int) := by omega
  have c2 : (m : Int) < ((fewT l m).length : Int) := by rw [fewT_len]; omega
  unfold spec_CanReach.f impl_CanReach.f
  refine ⟨Ev.bind hS ?_, Ev.bind hI ?_⟩
  · simp only [if_true, few_eq]
    refine Ev.bind hf ?_
    simp only [if_pos c1, if_pos c2, hr]
    exact Ev.now _
  · simp only [if_true]
    refine Ev.bind hf ?_
    simp only [if_pos c1, if_pos c2, hr]
    exact Ev.now _
def fgB (l : List Int) (m : Nat) : List Int × Bool := if fw l m < 0 then ([], false) else (fg l m, true)
theorem firstG_ev {l : List Int} (hK : IsK l) {m : Nat} (hm : m ≤ 200) (hS : Ev (fun k => spec_goAsked.f k l (m : Int)) true) (hI : Ev (fun k => impl_isAsked.f k l (m : Int)) true) : Ev (fun k => spec_FirstGoals.f k l (m : Int)) (fgB l m) ∧ Ev (fun k => impl_FirstGoals.f k l (m : Int)) (fgB l m) := by
  have hl : ∀ x ∈ l, 1 ≤ x := fun x hx => (hK.mem x hx).1
  have hf := few_ev hK m (by omega)
  have hr := rd_few l m m (Nat.le_refl _)
  have c1 : (0 : Int) ≤ (m : Int) := by omega
  have c2 : (m : Int) < ((fewT l m).length : Int) := by rw [fewT_len]; omega
  have h1 := hK.l1
  have h5 := hK.l5
  have hb := fw_bound hl m
  have hw : wrap64 ((l.length : Int) - 1) = (l.length : Int) - 1 := wrap_id (by omega) (by omega)
  unfold spec_FirstGoals.f impl_FirstGoals.f
  refine ⟨Ev.bind hS ?_, Ev.bind (fewest_ev hK hm hS hI).2 ?_⟩
  · simp only [if_true, few_eq]
    refine Ev.bind hf ?_
    simp only [if_pos c1, if_pos c2, hr]
    by_cases c : fw l m < 0
    · simp only [fgB, if_pos c]
      exact Ev.now _
    · simp only [fgB, if_neg c, hw]
      exact Ev.bind (first_ev hK l.length (Nat.le_refl _) (m : Int) (fw l m) (by omega) (by omega) (by omega) (by omega)) (Ev.now _)
  · by_cases c : fw l m < 0
    · have e2 : decide (fw l m ≥ 0) = false := decide_eq_false (by omega)
      simp only [fgB, if_pos c, e2, Bool.false_eq_true, if_false]
      exact Ev.now _
    · have e1 : mx (fw l m) 0 = fw l m := by unfold mx; rw [if_neg c]
      have e2 : decide (fw l m ≥ 0) = true := decide_eq_true (by omega)
      have hok : okFG l (m : Int) (fw l m) = true := by
        unfold okFG
        simp only [Bool.and_eq_true, decide_eq_true_eq]
        refine ⟨List.all_eq_true.2 fun x hx => ?_, by omega, by omega, by omega, by omega⟩
        have := hK.mem x hx
        simp only [Bool.and_eq_true, decide_eq_true_eq]
        omega
      obtain ⟨g1, g2⟩ := fg_good hK m (by omega)
      have hfd := (fd_gf l l.length (Nat.le_refl _) (List.replicate l.length 0) List.length_replicate (m : Int) (fw l m)).2.2 g1
      rw [List.drop_of_length_le (l := List.replicate l.length (0 : Int)) (by rw [List.length_replicate]; exact Nat.le_refl _), List.append_nil] at hfd
      simp only [fgB, if_neg c, e1, e2, if_true, if_pos hok, hfd]
      exact Ev.now _
theorem good_step {l o : List Int} (hK : IsK l) {s m : Int} (hG : Good l l.length s m o) (d : Nat) : ∀ i, i + d = l.length → (0 ≤ dotN o l i ∧ dotN o l i ≤ s) ∧ (0 ≤ cntN o i ∧ cntN o i ≤ m) := by
  obtain ⟨g1, g2, g3, g4⟩ := hG
  have nn : ∀ i, i ≤ l.length → 0 ≤ dotN o l i ∧ 0 ≤ cntN o i := fun i => by
    induction i with
    | zero => intro _; exact ⟨Int.le_refl _, Int.le_refl _⟩
    | succ i ih =>
      intro hi
      have := ih (by omega)
      have h1 := g2 i (by omega)
      have h2 : 0 ≤ rd o i * rd l i := Int.mul_nonneg h1 (by rw [rdI l i (by omega)]; have := (hK.rng i (by omega)).1; omega)
      simp only [dotN, cntN]
      omega
  induction d with
  | zero =>
    intro i hi
    obtain rfl : i = l.length := by omega
    have := nn l.length (Nat.le_refl _)
    omega
  | succ d ih =>
    intro i hi
    have h0 := ih (i + 1) (by omega)
    have h1 := g2 i (by omega)
    have h2 : 0 ≤ rd o i * rd l i := Int.mul_nonneg h1 (by rw [rdI l i (by omega)]; have := (hK.rng i (by omega)).1; omega)
    have h3 := nn i (by omega)
    simp only [dotN, cntN] at h0
    omega
theorem kinds_mono {l : List Int} (hK : IsK l) (d : Nat) : ∀ i (h : i + d < l.length), l[i] ≤ l[i + d] := by
  induction d with
  | zero => intro i h; exact Int.le_refl _
  | succ d ih =>
    intro i h
    have h1 := ih i (by omega)
    have h2 := hK.inc (i + d) (by omega)
    have e : l[i + (d + 1)] = l[i + d + 1] := rfl
    omega
theorem good_ends {l o : List Int} (hK : IsK l) {s m : Int} (hG : Good l l.length s m o) : m * rd l 0 ≤ s ∧ s ≤ m * rd l ((l.length - 1 : Nat) : Int) := by
  obtain ⟨g1, g2, g3, g4⟩ := hG
  have h1 := hK.l1
  rw [show rd l 0 = l[0] from rdI l 0 (by omega), rdI l (l.length - 1) (by omega)]
  have key : ∀ i, i ≤ l.length → cntN o i * l[0] ≤ dotN o l i ∧ dotN o l i ≤ cntN o i * l[l.length - 1] := fun i => by
    induction i with
    | zero => intro _; simp only [cntN, dotN, Int.zero_mul]; omega
    | succ i ih =>
      intro hi
      have h2 := ih (by omega)
      have h3 := g2 i (by omega)
      have h4 : l[0] ≤ l[i] := by
        have := kinds_mono hK i 0 (by omega)
        simpa using this
      have h5 : l[i] ≤ l[l.length - 1] := by
        have := kinds_mono hK (l.length - 1 - i) i (by omega)
        simp only [show i + (l.length - 1 - i) = l.length - 1 by omega] at this
        exact this
      have h6 := Int.mul_le_mul_of_nonneg_left h4 h3
      have h7 := Int.mul_le_mul_of_nonneg_left h5 h3
      simp only [cntN, dotN]
      rw [rdI l i (by omega), Int.add_mul, Int.add_mul]
      omega
  have := key l.length (Nat.le_refl _)
  rw [g3, g4] at this
  exact this
end Go.Proofs.YthcbaogbncakdaaGreatDoor.Pure
