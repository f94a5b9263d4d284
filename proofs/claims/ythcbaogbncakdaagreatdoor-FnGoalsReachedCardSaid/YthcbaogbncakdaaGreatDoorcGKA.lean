/- Kinds of goals, and the fewest goals of each score: what the printed functions answer, told as plain functions. No condition beside the types' own bounds. -/
import Derived.Test.YthcbaogbncakdaaGreatDoorcQFnGoalsReachedx
import Derived.Test.YthcbaogbncakdaaGreatDoorcGFG
namespace Go.Proofs.YthcbaogbncakdaaGreatDoor.Pure
open Go.RowKit Go.Proofs.YthcbaogbncakdaaGreatDoor.QFnGoalsReached Go.Proofs.YthcbaogbncakdaaGreatDoorW.PrintWords Go.Proofs.YthcbaogbncakdaaGreatDoorW.PrintLast Go.Proofs.YthcbaogbncakdaaGreatDoorW.PrintMore
set_option linter.unusedVariables false
set_option linter.unusedSimpArgs false
set_option linter.unusedSectionVars false
theorem ev_some {α : Type} {g : Nat → Option α} {r : α} (h : ∀ k, g (k + 1) = some r) : Ev g r := Ev.step h (Ev.now r)
theorem ev_const {α : Type} {g : Nat → Option α} {r : α} (h : ∀ k, g k = some r) : Ev g r := ⟨0, fun k _ => h k⟩
theorem wrap_id {i : Int} (h0 : -9223372036854775808 ≤ i) (h1 : i ≤ 9223372036854775807) : wrap64 i = i := by unfold wrap64; omega
theorem rdI (l : List Int) (n : Nat) (h : n < l.length) : rd l (n : Int) = l[n] := by
  unfold rd
  simp [List.getD_eq_getElem?_getD, List.getElem?_eq_getElem h]
theorem mid_set (xs ys : List Int) (r v : Int) : (xs ++ r :: ys).set xs.length v = xs ++ v :: ys := by simp
theorem rd_mid (xs ys : List Int) (r : Int) : rd (xs ++ r :: ys) (xs.length : Int) = r := by unfold rd; simp
theorem rd_left (P Q : List Int) (i : Nat) (h : i < P.length) : rd (P ++ Q) (i : Int) = P.getD i (-1) := by
  unfold rd
  rw [Int.toNat_natCast, List.getD_eq_getElem?_getD, List.getD_eq_getElem?_getD, List.getElem?_append_left h, List.getElem?_eq_getElem h]
  rfl
theorem l1In_eq (a b c : Int) : spec_l1In.f a b c = some (decide (b ≤ a ∧ a ≤ c)) := by
  unfold spec_l1In.f
  by_cases h : a ≥ b
  · rw [if_pos h]; congr 1; exact decide_eq_decide.2 (by omega)
  · rw [if_neg h]; congr 1; symm; exact decide_eq_false (by omega)
theorem within_eq (a b c : Int) : impl_within.f a b c = some (decide (b ≤ a ∧ a ≤ c)) := by
  unfold impl_within.f
  by_cases h : b ≤ a
  · rw [if_pos h]; congr 1; exact decide_eq_decide.2 (by omega)
  · rw [if_neg h]; congr 1; symm; exact decide_eq_false (by omega)
structure IsK (l : List Int) : Prop where
  l1 : 1 ≤ l.length
  l5 : l.length ≤ 5
  rng : ∀ j (h : j < l.length), 1 ≤ l[j] ∧ l[j] ≤ 20
  inc : ∀ j (h : j + 1 < l.length), l[j] < l[j + 1]
theorem IsK.mem {l : List Int} (h : IsK l) : ∀ x ∈ l, 1 ≤ x ∧ x ≤ 20 := fun x hx => by
  obtain ⟨j, hj, rfl⟩ := List.getElem_of_mem hx
  exact h.rng j hj
theorem kinds_l0 (l : List Int) (hl : l.length ≤ 5) (d : Nat) : ∀ i : Nat, i + d = l.length → ∃ b : Bool,
    Ev (fun k => spec_l1Rising.l0 k l 1 20 l (l.length : Int) (i : Int)) b ∧ Ev (fun k => impl_AreKinds.l0 k l l (l.length : Int) (i : Int)) b ∧
    (b = true → (∀ j, i ≤ j → (h : j < l.length) → 1 ≤ l[j] ∧ l[j] ≤ 20) ∧ (∀ j, i ≤ j + 1 → (h : j + 1 < l.length) → l[j] < l[j + 1])) := by
  induction d with
  | zero =>
    intro i hi
    refine ⟨true, ev_some fun k => ?_, ev_some fun k => ?_, fun _ => ⟨fun j h1 h2 => by omega, fun j h1 h2 => by omega⟩⟩
    · simp only [spec_l1Rising.l0]
      rw [if_neg (by omega)]
    · simp only [impl_AreKinds.l0]
      rw [if_neg (by omega)]
  | succ d ih =>
    intro i hi
    have hlt : i < l.length := by omega
    obtain ⟨b, hs, hm, hb⟩ := ih (i + 1) (by omega)
    have hr := rdI l i hlt
    have hwi : wrap64 ((i : Int) + 1) = ((i + 1 : Nat) : Int) := by rw [wrap_id (by omega) (by omega)]; omega
    by_cases hin : 1 ≤ l[i] ∧ l[i] ≤ 20
    · have hd : decide (1 ≤ l[i] ∧ l[i] ≤ 20) = true := decide_eq_true hin
      by_cases h0 : i = 0
      · subst h0
        refine ⟨b, Ev.step (fun k => ?_) hs, Ev.step (fun k => ?_) hm, fun ht => ⟨fun j h1 h2 => ?_, fun j h1 h2 => (hb ht).2 j (by omega) h2⟩⟩
        · simp only [spec_l1Rising.l0]
          rw [if_pos (by omega), if_pos (by omega), if_pos (by omega), hr, l1In_eq, hd]
          simp only [Option.bind_some, if_true]
          rw [if_neg (by omega), hwi]
        · simp only [impl_AreKinds.l0]
          rw [if_pos (by omega), if_pos (by omega), if_pos (by omega), hr, within_eq, hd]
          simp only [Option.bind_some, if_true]
          rw [if_neg (by omega), hwi]
        · by_cases e : j = 0
          · subst e; exact hin
          · exact (hb ht).1 j (by omega) h2
      · have hwp : wrap64 ((i : Int) - 1) = ((i - 1 : Nat) : Int) := by rw [wrap_id (by omega) (by omega)]; omega
        have hrp := rdI l (i - 1) (by omega)
        by_cases hle : l[i] ≤ l[i - 1]
        · refine ⟨false, ev_some fun k => ?_, ev_some fun k => ?_, fun ht => by cases ht⟩
          · simp only [spec_l1Rising.l0]
            rw [if_pos (by omega), if_pos (by omega), if_pos (by omega), hr, l1In_eq, hd]
            simp only [Option.bind_some, if_true]
            rw [if_pos (by omega), hwp, if_pos (by omega), if_pos (by omega), hrp, if_pos hle]
          · simp only [impl_AreKinds.l0]
            rw [if_pos (by omega), if_pos (by omega), if_pos (by omega), hr, within_eq, hd]
            simp only [Option.bind_some, if_true]
            rw [if_pos (by omega), hwp, if_pos (by omega), if_pos (by omega), hrp, if_pos hle]
        · refine ⟨b, Ev.step (fun k => ?_) hs, Ev.step (fun k => ?_) hm, fun ht => ⟨fun j h1 h2 => ?_, fun j h1 h2 => ?_⟩⟩
          · simp only [spec_l1Rising.l0]
            rw [if_pos (by omega), if_pos (by omega), if_pos (by omega), hr, l1In_eq, hd]
            simp only [Option.bind_some, if_true]
            rw [if_pos (by omega), hwp, if_pos (by omega), if_pos (by omega), hrp, if_neg hle, hwi]
          · simp only [impl_AreKinds.l0]
            rw [if_pos (by omega), if_pos (by omega), if_pos (by omega), hr, within_eq, hd]
            simp only [Option.bind_some, if_true]
            rw [if_pos (by omega), hwp, if_pos (by omega), if_pos (by omega), hrp, if_neg hle, hwi]
          · by_cases e : j = i
            · subst e; exact hin
            · exact (hb ht).1 j (by omega) h2
          · by_cases e : j + 1 = i
            · subst e
              have : l[j + 1 - 1] = l[j] := by congr 1
              omega
            · exact (hb ht).2 j (by omega) h2
    · have hd : decide (1 ≤ l[i] ∧ l[i] ≤ 20) = false := decide_eq_false hin
      refine ⟨false, ev_some fun k => ?_, ev_some fun k => ?_, fun ht => by cases ht⟩
      · simp only [spec_l1Rising.l0]
        rw [if_pos (by omega), if_pos (by omega), if_pos (by omega), hr, l1In_eq, hd]
        simp
      · simp only [impl_AreKinds.l0]
        rw [if_pos (by omega), if_pos (by omega), if_pos (by omega), hr, within_eq, hd]
        simp
theorem areK_ev (l : List Int) (hl : l.length ≤ 1048577) : ∃ b : Bool, Ev (fun k => spec_goKinds.f k l) b ∧ Ev (fun k => impl_AreKinds.f k l) b ∧ (b = true → IsK l) := by
  unfold spec_goKinds.f impl_AreKinds.f spec_l1Rising.f
  by_cases c : 1 ≤ l.length ∧ l.length ≤ 5
  · obtain ⟨b, h1, h2, h3⟩ := kinds_l0 l c.2 l.length 0 (by omega)
    have hd : decide ((1 : Int) ≤ (l.length : Int) ∧ (l.length : Int) ≤ 5) = true := decide_eq_true (by omega)
    refine ⟨b, ?_, ?_, fun hb => ⟨c.1, c.2, fun j hj => (h3 hb).1 j (Nat.zero_le _) hj, fun j hj => (h3 hb).2 j (Nat.zero_le _) hj⟩⟩
    · simp only [l1In_eq, hd, Option.bind_some, if_true]
      exact Ev.bind h1 (Ev.now _)
    · simp only [within_eq, hd, Option.bind_some, if_true]
      exact h2
  · have hd : decide ((1 : Int) ≤ (l.length : Int) ∧ (l.length : Int) ≤ 5) = false := decide_eq_false (by omega)
    refine ⟨false, ?_, ?_, fun hb => by cases hb⟩
    · simp only [l1In_eq, hd, Option.bind_some, Bool.false_eq_true, if_false]; exact Ev.now _
    · simp only [within_eq, hd, Option.bind_some, Bool.false_eq_true, if_false]; exact Ev.now _
theorem asked_ev {l : List Int} {b : Bool} (h1 : Ev (fun k => spec_goKinds.f k l) b) (h2 : Ev (fun k => impl_AreKinds.f k l) b) (s : Int) : Ev (fun k => spec_goAsked.f k l s) (b && decide (0 ≤ s ∧ s ≤ 200)) ∧ Ev (fun k => impl_isAsked.f k l s) (b && decide (0 ≤ s ∧ s ≤ 200)) := by
  unfold spec_goAsked.f impl_isAsked.f spec_goScore.f
  simp only [l1In_eq, within_eq, Option.bind_some]
  cases b
  · exact ⟨Ev.bind h1 (by simpa using Ev.now _), Ev.bind h2 (by simpa using Ev.now _)⟩
  · exact ⟨Ev.bind h1 (by simpa using Ev.now _), Ev.bind h2 (by simpa using Ev.now _)⟩
def stp (g : Nat → Int) (s : Int) (acc n : Int) : Int := if n ≤ s then (if g (s - n).toNat ≥ 0 then (if acc < 0 then g (s - n).toNat + 1 else (if g (s - n).toNat + 1 < acc then g (s - n).toNat + 1 else acc)) else acc) else acc
def fewT (l : List Int) : Nat → List Int
  | 0 => [0]
  | s + 1 => fewT l s ++ [l.foldl (stp (fun i => (fewT l s).getD i (-1)) ((s + 1 : Nat) : Int)) (-1)]
def fw (l : List Int) (s : Nat) : Int := (fewT l s).getD s (-1)
theorem fewT_len (l : List Int) (s : Nat) : (fewT l s).length = s + 1 := by
  induction s with
  | zero => rfl
  | succ s ih => rw [fewT, List.length_append, ih]; rfl
theorem fewT_get (l : List Int) (s : Nat) : ∀ i, i ≤ s → (fewT l s).getD i (-1) = fw l i := by
  induction s with
  | zero =>
    intro i hi
    obtain rfl : i = 0 := by omega
    rfl
  | succ s ih =>
    intro i hi
    by_cases e : i = s + 1
    · subst e; rfl
    · rw [fewT, List.getD_eq_getElem?_getD, List.getElem?_append_left (by rw [fewT_len]; omega), ← List.getD_eq_getElem?_getD]
      exact ih i (by omega)
theorem foldl_same {g g' : Int → Int → Int} (l : List Int) (h : ∀ n ∈ l, ∀ a, g a n = g' a n) : ∀ a, l.foldl g a = l.foldl g' a := by
  induction l with
  | nil => intro a; rfl
  | cons n l ih =>
    intro a
    rw [List.foldl_cons, List.foldl_cons, h n List.mem_cons_self]
    exact ih (fun m hm => h m (List.mem_cons_of_mem _ hm)) _
theorem foldl_inv {g : Int → Int → Int} {P : Int → Prop} (l : List Int) (h : ∀ n ∈ l, ∀ a, P a → P (g a n)) : ∀ a, P a → P (l.foldl g a) := by
  induction l with
  | nil => intro a ha; exact ha
  | cons n l ih =>
    intro a ha
    exact ih (fun m hm => h m (List.mem_cons_of_mem _ hm)) _ (h n List.mem_cons_self a ha)
theorem fw_zero (l : List Int) : fw l 0 = 0 := rfl
theorem fw_succ {l : List Int} (hl : ∀ x ∈ l, 1 ≤ x) (s : Nat) : fw l (s + 1) = l.foldl (stp (fw l) ((s + 1 : Nat) : Int)) (-1) := by
  have : fw l (s + 1) = l.foldl (stp (fun i => (fewT l s).getD i (-1)) ((s + 1 : Nat) : Int)) (-1) := by
    unfold fw
    rw [fewT, List.getD_eq_getElem?_getD, List.getElem?_append_right (by rw [fewT_len]; omega), fewT_len]
    simp
  rw [this]
  refine foldl_same l (fun n hn a => ?_) _
  unfold stp
  by_cases c : n ≤ ((s + 1 : Nat) : Int)
  · have hn1 := hl n hn
    have e := fewT_get l s (((s + 1 : Nat) : Int) - n).toNat (by omega)
    simp only [e]
  · rw [if_neg c, if_neg c]
theorem stp_bound {g : Nat → Int} {s : Int} {n a : Int} (hn : 1 ≤ n) (hg : ∀ i : Nat, (i : Int) < s → g i ≤ i) (ha : -1 ≤ a ∧ a ≤ s) : -1 ≤ stp g s a n ∧ stp g s a n ≤ s := by
  unfold stp
  by_cases c : n ≤ s
  · rw [if_pos c]
    have := hg (s - n).toNat (by omega)
    split
    · split
      · omega
      · split <;> omega
    · exact ha
  · rw [if_neg c]; exact ha
theorem fw_bound {l : List Int} (hl : ∀ x ∈ l, 1 ≤ x) (s : Nat) : -1 ≤ fw l s ∧ fw l s ≤ s := by
  induction s using Nat.strongRecOn with
  | ind s ih =>
    cases s with
    | zero => rw [fw_zero]; omega
    | succ s =>
      rw [fw_succ hl]
      exact foldl_inv (P := fun a => -1 ≤ a ∧ a ≤ ((s + 1 : Nat) : Int)) l (fun n hn a ha => stp_bound (hl n hn) (fun i hi => (ih i (by omega)).2) ha) _ (by omega)
theorem few_l1 {l : List Int} (hK : IsK l) (most s : Nat) (h1 : 1 ≤ s) (hm : s ≤ most) (hmost : most ≤ 1000) (P Z : List Int) (hP : P.length = s) (hb : ∀ i : Nat, (i : Int) < (s : Int) → P.getD i (-1) ≤ i) (res : List Int) (d : Nat) : ∀ (j : Nat) (acc : Int), j + d = l.length → (-1 ≤ acc ∧ acc ≤ (s : Int)) →
    Ev (fun k => impl_fewGoals.l0 k l (most : Int) (P ++ (l.drop j).foldl (stp (fun i => P.getD i (-1)) (s : Int)) acc :: Z) ((s + 1 : Nat) : Int)) res →
    Ev (fun k => impl_fewGoals.l1 k l (most : Int) (P ++ acc :: Z) (s : Int) l (l.length : Int) (j : Int)) res := by
  induction d with
  | zero =>
    intro j acc hj _ h
    rw [List.drop_of_length_le (by omega)] at h
    refine Ev.step (fun k => ?_) h
    simp only [impl_fewGoals.l1]
    rw [if_neg (by omega), wrap_id (by omega) (by omega)]
    rfl
  | succ d ih =>
    intro j acc hj ha h
    have hlt : j < l.length := by omega
    obtain ⟨n1, n2⟩ := hK.rng j hlt
    have hwj : wrap64 ((j : Int) + 1) = ((j + 1 : Nat) : Int) := by have := hK.l5; rw [wrap_id (by omega) (by omega)]; omega
    have hlen : (P ++ acc :: Z).length = s + 1 + Z.length := by simp [hP]; omega
    rw [List.drop_eq_getElem_cons hlt, List.foldl_cons] at h
    have hst := stp_bound (g := fun i => P.getD i (-1)) n1 hb ha
    have hi := ih (j + 1) _ (by omega) hst h
    have hra : rd (P ++ acc :: Z) (s : Int) = acc := by rw [← hP]; exact rd_mid P Z acc
    have hset : ∀ v, (P ++ acc :: Z).set s v = P ++ v :: Z := fun v => by rw [← hP]; exact mid_set P Z acc v
    refine Ev.step (fun k => ?_) hi
    simp only [impl_fewGoals.l1]
    rw [if_pos (by omega), if_pos (by omega), if_pos (by omega), rdI l j hlt, hwj]
    by_cases c : l[j] ≤ (s : Int)
    · have hsub : wrap64 ((s : Int) - l[j]) = (((s : Int) - l[j]).toNat : Int) := by rw [wrap_id (by omega) (by omega)]; omega
      have hrp := rd_left P (acc :: Z) ((s : Int) - l[j]).toNat (by omega)
      have hbq := hb ((s : Int) - l[j]).toNat (by omega)
      rw [if_pos c, hsub, if_pos (by omega), if_pos (by omega), hrp, Int.toNat_natCast, hra]
      unfold stp
      rw [if_pos c]
      by_cases c2 : P.getD ((s : Int) - l[j]).toNat (-1) ≥ 0
      · rw [if_pos c2, if_pos c2, if_pos (by omega), if_pos (by omega), wrap_id (i := P.getD ((s : Int) - l[j]).toNat (-1) + 1) (by omega) (by omega)]
        by_cases c3 : acc < 0
        · rw [if_pos c3, if_pos c3, hset]
        · rw [if_neg c3, if_neg c3]
          by_cases c4 : P.getD ((s : Int) - l[j]).toNat (-1) + 1 < acc
          · rw [if_pos c4, if_pos c4, hset]
          · rw [if_neg c4, if_neg c4]
      · rw [if_neg c2, if_neg c2]
    · unfold stp
      rw [if_neg c, if_neg c]
theorem few_l0 {l : List Int} (hK : IsK l) (most : Nat) (hmost : most ≤ 1000) (d : Nat) : ∀ t : Nat, t + d = most →
    Ev (fun k => impl_fewGoals.l0 k l (most : Int) (fewT l t ++ List.replicate d 0) ((t + 1 : Nat) : Int)) (fewT l most) := by
  induction d with
  | zero =>
    intro t ht
    refine ev_some fun k => ?_
    simp only [impl_fewGoals.l0]
    rw [if_neg (by omega), show t = most by omega]
    simp
  | succ d ih =>
    intro t ht
    have hi := ih (t + 1) (by omega)
    have hb : ∀ i : Nat, (i : Int) < ((t + 1 : Nat) : Int) → (fewT l t).getD i (-1) ≤ i := fun i hi => by rw [fewT_get l t i (by omega)]; exact (fw_bound (fun x hx => (hK.mem x hx).1) i).2
    have e1 : fewT l (t + 1) ++ List.replicate d 0 = fewT l t ++ l.foldl (stp (fun i => (fewT l t).getD i (-1)) ((t + 1 : Nat) : Int)) (-1) :: List.replicate d 0 := by rw [fewT]; simp
    rw [e1] at hi
    have h1 := few_l1 hK most (t + 1) (by omega) (by omega) hmost (fewT l t) (List.replicate d 0) (fewT_len l t) hb (fewT l most) l.length 0 (-1) (by omega) (by omega) (by rw [List.drop_zero]; exact hi)
    refine Ev.step (fun k => ?_) h1
    simp only [impl_fewGoals.l0]
    have hlen : (fewT l t ++ List.replicate (d + 1) (0 : Int)).length = t + 1 + (d + 1) := by rw [List.length_append, fewT_len, List.length_replicate]
    have hset : (fewT l t ++ List.replicate (d + 1) (0 : Int)).set (t + 1) (-1) = fewT l t ++ (-1) :: List.replicate d 0 := by
      rw [List.replicate_succ]
      have := mid_set (fewT l t) (List.replicate d 0) 0 (-1)
      rwa [fewT_len] at this
    rw [if_pos (by omega), if_pos (by omega), if_pos (by omega), Int.toNat_natCast, hset]
    rfl
theorem few_ev {l : List Int} (hK : IsK l) (most : Nat) (hmost : most ≤ 1000) : Ev (fun k => impl_fewGoals.f k l (most : Int)) (fewT l most) := by
  have hw : wrap64 ((most : Int) + 1) = ((most + 1 : Nat) : Int) := by rw [wrap_id (by omega) (by omega)]; omega
  have h := few_l0 hK most hmost most 0 (by omega)
  refine Ev.congr (fun k => ?_) h
  unfold impl_fewGoals.f
  rw [hw, if_pos (by omega), Int.toNat_natCast, if_pos (by omega), List.replicate_succ]
  rfl
theorem few_same (k : Nat) : (∀ x0 x1 x5 x6, spec_goFew.l0 k x0 x1 x5 x6 = impl_fewGoals.l0 k x0 x1 x5 x6) ∧ (∀ x0 x1 x5 x6 x20 x21 x22, spec_goFew.l1 k x0 x1 x5 x6 x20 x21 x22 = impl_fewGoals.l1 k x0 x1 x5 x6 x20 x21 x22) := by
  induction k with
  | zero => exact ⟨fun _ _ _ _ => by simp only [spec_goFew.l0, impl_fewGoals.l0], fun _ _ _ _ _ _ _ => by simp only [spec_goFew.l1, impl_fewGoals.l1]⟩
  | succ k ih => exact ⟨fun _ _ _ _ => by simp only [spec_goFew.l0, impl_fewGoals.l0, ih.2], fun _ _ _ _ _ _ _ => by simp only [spec_goFew.l1, impl_fewGoals.l1, ih.1, ih.2]⟩
theorem few_eq (k : Nat) (l : List Int) (s : Int) : spec_goFew.f k l s = impl_fewGoals.f k l s := by
  unfold spec_goFew.f impl_fewGoals.f
  simp only [(few_same k).1]
theorem rd_few (l : List Int) (m i : Nat) (h : i ≤ m) : rd (fewT l m) (i : Int) = fw l i := by
  rw [← fewT_get l m i h]
  have := rd_left (fewT l m) [] i (by rw [fewT_len]; omega)
  rwa [List.append_nil] at this
end Go.Proofs.YthcbaogbncakdaaGreatDoor.Pure
