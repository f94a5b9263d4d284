/- Counts, rows and comparisons: the printed functions' loops. No condition beside the types' own bounds. -/
import Derived.Test.YthcbaogbncakdaaGreatDoorcGKB
namespace Go.Proofs.YthcbaogbncakdaaGreatDoor.Pure
open Go.RowKit Go.Proofs.YthcbaogbncakdaaGreatDoor.QFnGoalsReached Go.Proofs.YthcbaogbncakdaaGreatDoorW.PrintWords Go.Proofs.YthcbaogbncakdaaGreatDoorW.PrintLast Go.Proofs.YthcbaogbncakdaaGreatDoorW.PrintMore
set_option linter.unusedVariables false
set_option linter.unusedSimpArgs false
set_option linter.unusedSectionVars false
theorem rd_set_self (x : List Int) (i : Nat) (v : Int) (h : i < x.length) : rd (x.set i v) (i : Int) = v := by
  unfold rd
  rw [Int.toNat_natCast, List.getD_eq_getElem?_getD, List.getElem?_set_self h]
  rfl
theorem rd_set_ne (x : List Int) (i j : Nat) (v : Int) (h : i ≠ j) : rd (x.set i v) (j : Int) = rd x (j : Int) := by
  unfold rd
  rw [Int.toNat_natCast, List.getD_eq_getElem?_getD, List.getD_eq_getElem?_getD, List.getElem?_set_ne h]
theorem lists_l1 {l : List Int} {m : Nat} (hm : m ≤ 200) {n : Int} (hn : 1 ≤ n) (hn2 : n ≤ 20) (g : Nat → Int) (B : Int) (hB : 0 ≤ B) (hB2 : B ≤ 328080401001) (hg : ∀ i, i ≤ 200 → 0 ≤ g i ∧ g i ≤ B) (ha : ∀ i, i ≤ 200 → 0 ≤ ak g n i) (j : Nat) (hj : j < l.length) (hl5 : l.length ≤ 5) (res : Int × Bool)
    (hnext : ∀ x6 : List Int, x6.length = m + 1 → (∀ i, i ≤ m → rd x6 (i : Int) = ak g n i) → Ev (fun k => impl_CountGoalLists.l0 k (m : Int) x6 l (l.length : Int) ((j + 1 : Nat) : Int)) res) (d : Nat) :
    ∀ (s : Nat) (x6 : List Int), s + d = m + 1 + (if n.toNat ≤ m + 1 then 0 else n.toNat - (m + 1)) → n.toNat ≤ s → x6.length = m + 1 → (∀ i, i ≤ m → rd x6 (i : Int) = if i < s then ak g n i else g i) →
    Ev (fun k => impl_CountGoalLists.l1 k (m : Int) x6 n (s : Int) l (l.length : Int) (j : Int)) res := by
  induction d with
  | zero =>
    intro s x6 hs hns hx hr
    have hsm : m + 1 ≤ s := by split at hs <;> omega
    refine Ev.step (fun k => ?_) (hnext x6 hx (fun i hi => by rw [hr i hi, if_pos (by omega)]))
    simp only [impl_CountGoalLists.l1]
    rw [if_neg (by omega), wrap_id (by omega) (by omega)]
    rfl
  | succ d ih =>
    intro s x6 hs hns hx hr
    have hsm : s ≤ m := by split at hs <;> omega
    have hA := ak_hi (g := g) hn hns
    have h1 := hg s (by omega)
    have h2 := ha (s - n.toNat) (by omega)
    have h3 := ak_bound (g := g) hn (s - n.toNat) (fun i hi => (hg i (by omega)).2) hB
    have h4 : (((s - n.toNat : Nat) : Int) + 1) * B ≤ 201 * B := Int.mul_le_mul_of_nonneg_right (by omega) hB
    have hsub : wrap64 ((s : Int) - n) = ((s - n.toNat : Nat) : Int) := by rw [wrap_id (by omega) (by omega)]; omega
    have e1 : rd x6 (s : Int) = g s := by rw [hr s hsm, if_neg (by omega)]
    have e2 : rd x6 ((s - n.toNat : Nat) : Int) = ak g n (s - n.toNat) := by rw [hr _ (by omega), if_pos (by omega)]
    refine Ev.step (fun k => ?_) (ih (s + 1) (x6.set s (ak g n s)) (by omega) (by omega) (by rw [List.length_set]; exact hx) (fun i hi => ?_))
    · simp only [impl_CountGoalLists.l1]
      rw [if_pos (by omega), if_pos (by omega), if_pos (by omega), hsub, if_pos (by omega), if_pos (by omega), e1, e2, ← hA, wrap_id (i := (s : Int) + 1) (by omega) (by omega), Int.toNat_natCast, wrap_id (i := ak g n s) (by omega) (by omega)]
      rfl
    · by_cases e : i = s
      · subst e
        rw [rd_set_self _ _ _ (by omega), if_pos (by omega)]
      · rw [rd_set_ne _ _ _ _ (by omega), hr i hi]
        by_cases c : i < s
        · rw [if_pos c, if_pos (by omega)]
        · rw [if_neg c, if_neg (by omega)]
theorem lists_l0 {l : List Int} (hK : IsK l) {m : Nat} (hm : m ≤ 200) (d : Nat) : ∀ (j : Nat) (g : Nat → Int) (B : Int) (x6 : List Int), j + d = l.length → 0 ≤ B → B * 201 ^ d ≤ 328080401001 → (∀ i, 0 ≤ g i) → (∀ i, i ≤ 200 → g i ≤ B) → x6.length = m + 1 → (∀ i, i ≤ m → rd x6 (i : Int) = g i) →
    Ev (fun k => impl_CountGoalLists.l0 k (m : Int) x6 l (l.length : Int) (j : Int)) ((l.drop j).foldl ak g m, true) := by
  have hl5 := hK.l5
  induction d with
  | zero =>
    intro j g B x6 hj hB hB2 hg hgB hx hr
    refine ev_some fun k => ?_
    simp only [impl_CountGoalLists.l0]
    rw [if_neg (by omega), if_pos (by omega), if_pos (by omega), hr m (Nat.le_refl _), List.drop_of_length_le (by omega)]
    rfl
  | succ d ih =>
    intro j g B x6 hj hB hB2 hg hgB hx hr
    have hlt : j < l.length := by omega
    obtain ⟨n1, n2⟩ := hK.rng j hlt
    have hp : (1 : Int) ≤ 201 ^ (d + 1) := Int.pow_pos (by decide)
    have hB1 : B ≤ 328080401001 := by
      have := Int.mul_le_mul_of_nonneg_left hp hB
      omega
    rw [List.drop_eq_getElem_cons hlt, List.foldl_cons]
    have ha := fun i => ak_pos n1 hg i
    have hab : ∀ i, i ≤ 200 → ak g l[j] i ≤ B * 201 := fun i hi => by
      have h2 := ak_bound n1 i (fun j hj => hgB j (by omega)) hB
      have h3 : ((i : Int) + 1) * B ≤ 201 * B := Int.mul_le_mul_of_nonneg_right (by omega) hB
      omega
    have hnext := fun (x6 : List Int) (hx : x6.length = m + 1) (hr : ∀ i, i ≤ m → rd x6 (i : Int) = ak g l[j] i) => ih (j + 1) (ak g l[j]) (B * 201) x6 (by omega) (by omega) (by rw [Int.mul_assoc, Int.mul_comm 201, ← Int.pow_succ]; exact hB2) (fun i => (ha i).2) hab hx hr
    have h1 := lists_l1 (l := l) (m := m) hm n1 n2 g B hB hB1 (fun i hi => ⟨hg i, hgB i hi⟩) (fun i _ => (ha i).2) j hlt hl5 _ hnext (m + 1 + (if l[j].toNat ≤ m + 1 then 0 else l[j].toNat - (m + 1)) - l[j].toNat) l[j].toNat x6 (by split <;> omega) (Nat.le_refl _) hx (fun i hi => by
      rw [hr i hi]
      by_cases c : i < l[j].toNat
      · rw [if_pos c, ak_lo n1 c]
      · rw [if_neg c])
    refine Ev.step (fun k => ?_) h1
    simp only [impl_CountGoalLists.l0]
    rw [if_pos (by omega), if_pos (by omega), if_pos (by omega), rdI l j hlt, show ((l[j].toNat : Nat) : Int) = l[j] by omega]
theorem lists_same (k : Nat) : (∀ x1 x6 x19 x20 x21, spec_CountGoalLists.l0 k x1 x6 x19 x20 x21 = impl_CountGoalLists.l0 k x1 x6 x19 x20 x21) ∧ (∀ x1 x6 x8 x9 x19 x20 x21, spec_CountGoalLists.l1 k x1 x6 x8 x9 x19 x20 x21 = impl_CountGoalLists.l1 k x1 x6 x8 x9 x19 x20 x21) := by
  induction k with
  | zero => exact ⟨fun _ _ _ _ _ => by simp only [spec_CountGoalLists.l0, impl_CountGoalLists.l0], fun _ _ _ _ _ _ _ => by simp only [spec_CountGoalLists.l1, impl_CountGoalLists.l1]⟩
  | succ k ih => exact ⟨fun _ _ _ _ _ => by simp only [spec_CountGoalLists.l0, impl_CountGoalLists.l0, ih.2], fun _ _ _ _ _ _ _ => by simp only [spec_CountGoalLists.l1, impl_CountGoalLists.l1, ih.1, ih.2]⟩
theorem zeros_set (m : Nat) : (List.replicate (m + 1) (0 : Int)).set 0 1 = 1 :: List.replicate m 0 := by rw [List.replicate_succ, List.set_cons_zero]
theorem zeros_rd (m i : Nat) (hi : i ≤ m) : rd (1 :: List.replicate m 0) (i : Int) = t0 i := by
  unfold rd t0
  cases i with
  | zero => rfl
  | succ i =>
    rw [Int.toNat_natCast, List.getD_eq_getElem?_getD, List.getElem?_cons_succ, List.getElem?_replicate, if_pos (by omega), if_neg (by omega)]
    rfl
theorem lists_go {l : List Int} (hK : IsK l) {m : Nat} (hm : m ≤ 200) : Ev (fun k => impl_CountGoalLists.l0 k (m : Int) (1 :: List.replicate m 0) l (l.length : Int) 0) (lc l m, true) := by
  have h := pow201 hK.l5
  have := lists_l0 hK hm l.length 0 t0 1 (1 :: List.replicate m 0) (by omega) (by omega) (by omega) t0_nn (fun i _ => by unfold t0; split <;> omega) (by simp) (fun i hi => zeros_rd m i hi)
  rwa [List.drop_zero] at this
theorem lists_ev {l : List Int} (hK : IsK l) {m : Nat} (hm : m ≤ 200) (hS : Ev (fun k => spec_goAsked.f k l (m : Int)) true) (hI : Ev (fun k => impl_isAsked.f k l (m : Int)) true) : Ev (fun k => spec_CountGoalLists.f k l (m : Int)) (lc l m, true) ∧ Ev (fun k => impl_CountGoalLists.f k l (m : Int)) (lc l m, true) := by
  have hw : wrap64 ((m : Int) + 1) = ((m + 1 : Nat) : Int) := by rw [wrap_id (by omega) (by omega)]; omega
  have h := lists_go hK hm
  have c1 : (0 : Int) ≤ ((m + 1 : Nat) : Int) := by omega
  have c2 : m + 1 ≤ 35184372088832 := by omega
  have c3 : (0 : Int) < ((List.replicate (m + 1) (0 : Int)).length : Int) := by rw [List.length_replicate]; omega
  unfold spec_CountGoalLists.f impl_CountGoalLists.f
  refine ⟨Ev.bind hS ?_, Ev.bind hI ?_⟩
  · simp only [if_true, hw, if_pos c1, Int.toNat_natCast, if_pos c2, Option.bind_some, if_pos c3, Int.toNat_zero, zeros_set, (lists_same _).1]
    exact h
  · simp only [if_true, hw, if_pos c1, Int.toNat_natCast, if_pos c2, Option.bind_some, if_pos c3, Int.toNat_zero, zeros_set]
    exact h
theorem ord_l1 {l : List Int} (hK : IsK l) (m s : Nat) (h1 : 1 ≤ s) (hm : s ≤ m) (hmost : m ≤ 200) (P Z : List Int) (hP : P.length = s) (hb : ∀ i : Nat, (i : Int) < (s : Int) → 0 ≤ P.getD i (-1) ∧ P.getD i (-1) ≤ 1000000000000001) (res : Int × Bool) (d : Nat) : ∀ (j : Nat) (acc : Int), j + d = l.length → (0 ≤ acc ∧ acc ≤ 1000000000000001) →
    Ev (fun k => impl_CountGoalOrders.l0 k l (m : Int) (P ++ (l.drop j).foldl (ostp (fun i => P.getD i (-1)) (s : Int)) acc :: Z) ((s + 1 : Nat) : Int)) res →
    Ev (fun k => impl_CountGoalOrders.l1 k l (m : Int) (P ++ acc :: Z) (s : Int) l (l.length : Int) (j : Int)) res := by
  induction d with
  | zero =>
    intro j acc hj _ h
    rw [List.drop_of_length_le (by omega)] at h
    refine Ev.step (fun k => ?_) h
    simp only [impl_CountGoalOrders.l1]
    rw [if_neg (by omega), wrap_id (by omega) (by omega)]
    rfl
  | succ d ih =>
    intro j acc hj ha h
    have hlt : j < l.length := by omega
    obtain ⟨n1, n2⟩ := hK.rng j hlt
    have hwj : wrap64 ((j : Int) + 1) = ((j + 1 : Nat) : Int) := by have := hK.l5; rw [wrap_id (by omega) (by omega)]; omega
    have hlen : (P ++ acc :: Z).length = s + 1 + Z.length := by simp [hP]; omega
    rw [List.drop_eq_getElem_cons hlt, List.foldl_cons] at h
    have hst := ostp_bound (g := fun i => P.getD i (-1)) n1 (fun i hi => (hb i hi).1) ha
    have hi := ih (j + 1) _ (by omega) ⟨by omega, hst.2⟩ h
    have hra : rd (P ++ acc :: Z) (s : Int) = acc := by rw [← hP]; exact rd_mid P Z acc
    have hset : ∀ v, (P ++ acc :: Z).set s v = P ++ v :: Z := fun v => by rw [← hP]; exact mid_set P Z acc v
    refine Ev.step (fun k => ?_) hi
    simp only [impl_CountGoalOrders.l1]
    rw [if_pos (by omega), if_pos (by omega), if_pos (by omega), rdI l j hlt, hwj]
    by_cases c : l[j] ≤ (s : Int)
    · have hsub : wrap64 ((s : Int) - l[j]) = (((s : Int) - l[j]).toNat : Int) := by rw [wrap_id (by omega) (by omega)]; omega
      have hrp := rd_left P (acc :: Z) ((s : Int) - l[j]).toNat (by omega)
      have hbq := hb ((s : Int) - l[j]).toNat (by omega)
      rw [if_pos c, if_pos (by omega), if_pos (by omega), hsub, if_pos (by omega), if_pos (by omega), hrp, Int.toNat_natCast, hra, wrap_id (by omega) (by omega), hset]
      unfold ostp
      rw [if_pos c]
    · unfold ostp
      rw [if_neg c, if_neg c]
theorem ord_l0 {l : List Int} (hK : IsK l) (m : Nat) (hmost : m ≤ 200) (d : Nat) : ∀ t : Nat, t + d = m →
    Ev (fun k => impl_CountGoalOrders.l0 k l (m : Int) (ordT l t ++ List.replicate d 0) ((t + 1 : Nat) : Int)) (if oc l m > 1000000000000000 then (0, false) else (oc l m, true)) := by
  have hl : ∀ x ∈ l, 1 ≤ x := fun x hx => (hK.mem x hx).1
  induction d with
  | zero =>
    intro t ht
    refine ev_some fun k => ?_
    simp only [impl_CountGoalOrders.l0]
    have e : rd (ordT l t) (m : Int) = oc l m := by
      rw [← ordT_get l t m (by omega)]
      have := rd_left (ordT l t) [] m (by rw [ordT_len]; omega)
      rwa [List.append_nil] at this
    rw [if_neg (by omega), List.replicate_zero, List.append_nil, if_pos (by omega), if_pos (by rw [ordT_len]; omega), e]
    unfold impl_few.f
    split
    · rfl
    · rfl
  | succ d ih =>
    intro t ht
    have hi := ih (t + 1) (by omega)
    have hb : ∀ i : Nat, (i : Int) < ((t + 1 : Nat) : Int) → 0 ≤ (ordT l t).getD i (-1) ∧ (ordT l t).getD i (-1) ≤ 1000000000000001 := fun i hi => by rw [ordT_get l t i (by omega)]; exact oc_bound hl i
    have e1 : ordT l (t + 1) ++ List.replicate d 0 = ordT l t ++ l.foldl (ostp (fun i => (ordT l t).getD i (-1)) ((t + 1 : Nat) : Int)) 0 :: List.replicate d 0 := by rw [ordT]; simp
    rw [e1] at hi
    have h1 := ord_l1 hK m (t + 1) (by omega) (by omega) hmost (ordT l t) (List.replicate d 0) (ordT_len l t) hb _ l.length 0 0 (by omega) (by omega) (by rw [List.drop_zero]; exact hi)
    refine Ev.step (fun k => ?_) h1
    simp only [impl_CountGoalOrders.l0]
    rw [if_pos (by omega), List.replicate_succ]
    rfl
theorem least_mn (a b : Int) : spec_l1Least.f a b = some (mn a b) := by
  unfold spec_l1Least.f mn
  by_cases c : a < b
  · rw [if_pos c, if_neg (by omega)]
  · rw [if_neg c]
    by_cases c2 : b < a
    · rw [if_pos c2]
    · rw [if_neg c2, show a = b by omega]
theorem few_f (a b : Int) : impl_few.f a b = if a > b then some (0, false) else some (a, true) := rfl
theorem ord_same (k : Nat) : (∀ x0 x1 x6 x7, spec_CountGoalOrders.l0 k x0 x1 x6 x7 = impl_CountGoalOrders.l0 k x0 x1 x6 x7) ∧ (∀ x0 x1 x6 x7 x24 x25 x26, spec_CountGoalOrders.l1 k x0 x1 x6 x7 x24 x25 x26 = impl_CountGoalOrders.l1 k x0 x1 x6 x7 x24 x25 x26) := by
  induction k with
  | zero => exact ⟨fun _ _ _ _ => by simp only [spec_CountGoalOrders.l0, impl_CountGoalOrders.l0], fun _ _ _ _ _ _ _ => by simp only [spec_CountGoalOrders.l1, impl_CountGoalOrders.l1]⟩
  | succ k ih =>
    refine ⟨fun x0 x1 x6 x7 => ?_, fun _ _ _ _ _ _ _ => by simp only [spec_CountGoalOrders.l1, impl_CountGoalOrders.l1, ih.1, ih.2, least_mn, Option.bind_some]⟩
    simp only [spec_CountGoalOrders.l0, impl_CountGoalOrders.l0, ih.2, few_f]
    by_cases c : rd x6 x1 > 1000000000000000
    · simp only [if_pos c, Option.bind_some]
    · simp only [if_neg c, Option.bind_some]
theorem ord_ev {l : List Int} (hK : IsK l) {m : Nat} (hm : m ≤ 200) (hS : Ev (fun k => spec_goAsked.f k l (m : Int)) true) (hI : Ev (fun k => impl_isAsked.f k l (m : Int)) true) : Ev (fun k => spec_CountGoalOrders.f k l (m : Int)) (if oc l m > 1000000000000000 then (0, false) else (oc l m, true)) ∧ Ev (fun k => impl_CountGoalOrders.f k l (m : Int)) (if oc l m > 1000000000000000 then (0, false) else (oc l m, true)) := by
  have hw : wrap64 ((m : Int) + 1) = ((m + 1 : Nat) : Int) := by rw [wrap_id (by omega) (by omega)]; omega
  have h := ord_l0 hK m hm m 0 (by omega)
  rw [show ordT l 0 ++ List.replicate m 0 = 1 :: List.replicate m 0 from rfl, show ((0 + 1 : Nat) : Int) = 1 from rfl] at h
  have c1 : (0 : Int) ≤ ((m + 1 : Nat) : Int) := by omega
  have c2 : m + 1 ≤ 35184372088832 := by omega
  have c3 : (0 : Int) < ((List.replicate (m + 1) (0 : Int)).length : Int) := by rw [List.length_replicate]; omega
  unfold spec_CountGoalOrders.f impl_CountGoalOrders.f
  refine ⟨Ev.bind hS ?_, Ev.bind hI ?_⟩
  · simp only [if_true, hw, if_pos c1, Int.toNat_natCast, if_pos c2, Option.bind_some, if_pos c3, Int.toNat_zero, zeros_set, (ord_same _).1]
    exact h
  · simp only [if_true, hw, if_pos c1, Int.toNat_natCast, if_pos c2, Option.bind_some, if_pos c3, Int.toNat_zero, zeros_set]
    exact h
def nrL (l : List Int) : Nat → Nat → List Int
  | _, 0 => []
  | i, d + 1 => if fw l i < 0 then (i : Int) :: nrL l (i + 1) d else nrL l (i + 1) d
theorem nrL_len (l : List Int) (d : Nat) : ∀ i, (nrL l i d).length ≤ d := by
  induction d with
  | zero => intro i; exact Nat.le_refl _
  | succ d ih =>
    intro i
    have := ih (i + 1)
    rw [nrL]
    split
    · rw [List.length_cons]; omega
    · omega
theorem nrL_mem (l : List Int) (d : Nat) : ∀ i x, x ∈ nrL l i d ↔ ∃ j : Nat, i ≤ j ∧ j < i + d ∧ fw l j < 0 ∧ x = (j : Int) := by
  induction d with
  | zero => intro i x; exact ⟨fun h => (by cases h), fun ⟨j, h1, h2, _⟩ => (by omega)⟩
  | succ d ih =>
    intro i x
    rw [nrL]
    by_cases c : fw l i < 0
    · rw [if_pos c, List.mem_cons, ih]
      constructor
      · rintro (rfl | ⟨j, h1, h2, h3⟩)
        · exact ⟨i, by omega, by omega, c, rfl⟩
        · exact ⟨j, by omega, by omega, h3⟩
      · rintro ⟨j, h1, h2, h3, rfl⟩
        by_cases e : j = i
        · exact .inl (by rw [e])
        · exact .inr ⟨j, by omega, by omega, h3, rfl⟩
    · rw [if_neg c, ih]
      constructor
      · rintro ⟨j, h1, h2, h3⟩
        exact ⟨j, by omega, by omega, h3⟩
      · rintro ⟨j, h1, h2, h3, rfl⟩
        by_cases e : j = i
        · subst e; exact absurd h3 c
        · exact ⟨j, by omega, by omega, h3, rfl⟩
theorem nrL_sorted (l : List Int) (d : Nat) : ∀ i, (nrL l i d).Pairwise (· < ·) := by
  induction d with
  | zero => intro i; exact List.Pairwise.nil
  | succ d ih =>
    intro i
    rw [nrL]
    split
    · refine List.Pairwise.cons (fun x hx => ?_) (ih _)
      obtain ⟨j, h1, _, _, rfl⟩ := (nrL_mem l d (i + 1) x).1 hx
      omega
    · exact ih _
theorem nr_l0 (l : List Int) (m : Nat) (hm : m ≤ 200) (d : Nat) : ∀ (i : Nat) (acc : List Int), i + d = m + 1 → acc.length ≤ i → Ev (fun k => impl_NotReached.l0 k acc (fewT l m) ((fewT l m).length : Int) (i : Int)) (acc ++ nrL l i d, true) := by
  have hlen := fewT_len l m
  induction d with
  | zero =>
    intro i acc hi ha
    refine ev_some fun k => ?_
    simp only [impl_NotReached.l0]
    rw [if_neg (by omega), nrL, List.append_nil]
  | succ d ih =>
    intro i acc hi ha
    have hw : wrap64 ((i : Int) + 1) = ((i + 1 : Nat) : Int) := by rw [wrap_id (by omega) (by omega)]; omega
    by_cases c : fw l i < 0
    · have h := ih (i + 1) (acc ++ [(i : Int)]) (by omega) (by simp; omega)
      rw [nrL, if_pos c]
      rw [List.append_assoc] at h
      refine Ev.step (fun k => ?_) h
      simp only [impl_NotReached.l0]
      rw [if_pos (by omega), if_pos (by omega), if_pos (by omega), rd_few l m i (by omega), if_pos c, if_pos (by omega), hw]
    · have h := ih (i + 1) acc (by omega) (by omega)
      rw [nrL, if_neg c]
      refine Ev.step (fun k => ?_) h
      simp only [impl_NotReached.l0]
      rw [if_pos (by omega), if_pos (by omega), if_pos (by omega), rd_few l m i (by omega), if_neg c, hw]
theorem nr_same (k : Nat) : ∀ x6 x16 x17 x18, spec_NotReached.l0 k x6 x16 x17 x18 = impl_NotReached.l0 k x6 x16 x17 x18 := by
  induction k with
  | zero => intro _ _ _ _; simp only [spec_NotReached.l0, impl_NotReached.l0]
  | succ k ih => intro _ _ _ _; simp only [spec_NotReached.l0, impl_NotReached.l0, ih]
theorem nr_ev {l : List Int} (hK : IsK l) {m : Nat} (hm : m ≤ 200) (hS : Ev (fun k => spec_goAsked.f k l (m : Int)) true) (hI : Ev (fun k => impl_isAsked.f k l (m : Int)) true) : Ev (fun k => spec_NotReached.f k l (m : Int)) (nrL l 0 (m + 1), true) ∧ Ev (fun k => impl_NotReached.f k l (m : Int)) (nrL l 0 (m + 1), true) := by
  have h := nr_l0 l m hm (m + 1) 0 [] (by omega) (Nat.le_refl _)
  have hf := few_ev hK m (by omega)
  unfold spec_NotReached.f impl_NotReached.f
  refine ⟨Ev.bind hS ?_, Ev.bind hI ?_⟩
  · simp only [if_true, few_eq, nr_same]
    exact Ev.bind hf h
  · simp only [if_true]
    exact Ev.bind hf h
theorem same_l0 (l : List Int) (hl : l.length ≤ 1048576) (d : Nat) : ∀ i : Nat, i + d = l.length → Ev (fun k => laws_bSame.l0 k l l (l.length : Int) (i : Int)) true := by
  induction d with
  | zero =>
    intro i hi
    refine ev_some fun k => ?_
    simp only [laws_bSame.l0]
    rw [if_neg (by omega)]
  | succ d ih =>
    intro i hi
    refine Ev.step (f := fun k => laws_bSame.l0 k l l (l.length : Int) ((i + 1 : Nat) : Int)) (fun k => ?_) (ih (i + 1) (by omega))
    simp only [laws_bSame.l0]
    rw [if_pos (by omega), if_pos (by omega), if_pos (by omega), if_pos (by omega)]
    simp only [if_true]
    rw [wrap_id (by omega) (by omega)]
    rfl
theorem same_ev (l : List Int) (hl : l.length ≤ 1048576) : Ev (fun k => laws_bSame.f k l l) true := by
  have := same_l0 l hl l.length 0 (by omega)
  simpa [laws_bSame.f] using this
theorem rises_l0 (a : List Int) (ha : a.Pairwise (· < ·)) (hl : a.length ≤ 1048576) (d : Nat) : ∀ i : Nat, i + d = a.length → 1 ≤ i → Ev (fun k => laws_bRises.l0 k a (i : Int)) true := by
  induction d with
  | zero =>
    intro i hi _
    refine ev_some fun k => ?_
    simp only [laws_bRises.l0]
    rw [if_neg (by omega)]
  | succ d ih =>
    intro i hi h1
    have hw : wrap64 ((i : Int) - 1) = ((i - 1 : Nat) : Int) := by rw [wrap_id (by omega) (by omega)]; omega
    have hlt := List.pairwise_iff_getElem.1 ha (i - 1) i (by omega) (by omega) (by omega)
    refine Ev.step (f := fun k => laws_bRises.l0 k a ((i + 1 : Nat) : Int)) (fun k => ?_) (ih (i + 1) (by omega) (by omega))
    simp only [laws_bRises.l0]
    rw [if_pos (by omega), hw, if_pos (by omega), if_pos (by omega), if_pos (by omega), rdI a (i - 1) (by omega), rdI a i (by omega), if_neg (by omega), wrap_id (by omega) (by omega)]
    rfl
theorem rises_ev (a : List Int) (ha : a.Pairwise (· < ·)) (hl : a.length ≤ 1048576) : Ev (fun k => laws_bRises.f k a) true := by
  unfold laws_bRises.f
  by_cases c : 1 ≤ a.length
  · exact rises_l0 a ha hl (a.length - 1) 1 (by omega) (Nat.le_refl _)
  · refine ev_some fun k => ?_
    simp only [laws_bRises.l0]
    rw [if_neg (by omega)]
theorem has_l0 (a : List Int) (n : Int) (hl : a.length ≤ 1048576) (d : Nat) : ∀ i : Nat, i + d = a.length → Ev (fun k => laws_bHas.l0 k n a (a.length : Int) (i : Int)) (decide (n ∈ a.drop i)) := by
  induction d with
  | zero =>
    intro i hi
    refine ev_some fun k => ?_
    simp only [laws_bHas.l0]
    rw [if_neg (by omega), List.drop_of_length_le (by omega)]
    simp
  | succ d ih =>
    intro i hi
    have hlt : i < a.length := by omega
    rw [List.drop_eq_getElem_cons hlt]
    by_cases c : a[i] = n
    · refine ev_some fun k => ?_
      simp only [laws_bHas.l0]
      rw [if_pos (by omega), if_pos (by omega), if_pos (by omega), rdI a i hlt, if_pos c]
      simp [c]
    · have h := ih (i + 1) (by omega)
      have e : decide (n ∈ a[i] :: a.drop (i + 1)) = decide (n ∈ a.drop (i + 1)) := decide_eq_decide.2 ⟨fun h => (List.mem_cons.1 h).resolve_left (fun e => c e.symm), fun h => List.mem_cons_of_mem _ h⟩
      rw [e]
      refine Ev.step (fun k => ?_) h
      simp only [laws_bHas.l0]
      rw [if_pos (by omega), if_pos (by omega), if_pos (by omega), rdI a i hlt, if_neg c, wrap_id (by omega) (by omega)]
      rfl
theorem has_ev (a : List Int) (n : Int) (hl : a.length ≤ 1048576) : Ev (fun k => laws_bHas.f k a n) (decide (n ∈ a)) := by
  have := has_l0 a n hl a.length 0 (by omega)
  rwa [List.drop_zero] at this
theorem has_nr (l : List Int) (m : Nat) (hm : m ≤ 200) : Ev (fun k => laws_bHas.f k (nrL l 0 (m + 1)) (m : Int)) (decide (fw l m < 0)) := by
  have h := has_ev (nrL l 0 (m + 1)) (m : Int) (by have := nrL_len l (m + 1) 0; omega)
  have e : decide ((m : Int) ∈ nrL l 0 (m + 1)) = decide (fw l m < 0) := decide_eq_decide.2 (by
    rw [nrL_mem]
    constructor
    · rintro ⟨j, _, _, h3, h4⟩
      rwa [show m = j by omega]
    · intro h
      exact ⟨m, by omega, by omega, h, rfl⟩)
  rwa [e] at h
theorem miss_ev {l : List Int} (hK : IsK l) {m : Nat} (hm : m ≤ 200) (hS : Ev (fun k => spec_goAsked.f k l (m : Int)) true) (hI : Ev (fun k => impl_isAsked.f k l (m : Int)) true) : ∃ g v : Int, rd l (wrap64 ((l.length : Int) - 1)) = g ∧ 1 ≤ g ∧ g ≤ 20 ∧ 1 ≤ v ∧ v ≤ 201 ∧ (m : Int) < v * g ∧ (v - 1) * g ≤ (m : Int) ∧ Ev (fun k => spec_GoalsMissing.f k l (m : Int)) (v, true) ∧ Ev (fun k => impl_GoalsMissing.f k l (m : Int)) (v, true) := by
  have h1 := hK.l1
  have h5 := hK.l5
  have hw : wrap64 ((l.length : Int) - 1) = ((l.length - 1 : Nat) : Int) := by rw [wrap_id (by omega) (by omega)]; omega
  obtain ⟨g1, g2⟩ := hK.rng (l.length - 1) (by omega)
  have hr := rdI l (l.length - 1) (by omega)
  obtain ⟨g, hg⟩ : ∃ g, g = l[l.length - 1] := ⟨_, rfl⟩
  rw [← hg] at g1 g2 hr
  obtain ⟨q, hq⟩ : ∃ q, q = (m : Int) / g := ⟨_, rfl⟩
  have q0 : 0 ≤ q := by rw [hq]; exact Int.ediv_nonneg (by omega) (by omega)
  have q1 : q ≤ (m : Int) := by rw [hq]; exact Int.ediv_le_self _ (by omega)
  have q2 : q * g ≤ (m : Int) := by rw [hq]; exact Int.ediv_mul_le _ (by omega)
  have q3 : (m : Int) < (q + 1) * g := by rw [hq]; exact Int.lt_ediv_add_one_mul_self _ (by omega)
  have ht : Int.tdiv (m : Int) g = q := by rw [Int.tdiv_eq_ediv_of_nonneg (by omega), hq]
  have hv : wrap64 (wrap64 (Int.tdiv (m : Int) g) + 1) = q + 1 := by rw [ht, wrap_id (i := q) (by omega) (by omega), wrap_id (by omega) (by omega)]
  refine ⟨g, q + 1, by rw [hw, hr], g1, g2, by omega, by omega, q3, by rw [Int.add_sub_cancel]; exact q2, ?_, ?_⟩
  · unfold spec_GoalsMissing.f
    refine Ev.bind hS ?_
    rw [hw, hr, hv]
    have c1 : (0 : Int) ≤ ((l.length - 1 : Nat) : Int) := by omega
    have c2 : ((l.length - 1 : Nat) : Int) < (l.length : Int) := by omega
    have c3 : ¬ g = 0 := by omega
    simp only [if_true, if_pos c1, if_pos c2, if_neg c3]
    exact Ev.now _
  · unfold impl_GoalsMissing.f
    refine Ev.bind hI ?_
    rw [hw, hr, hv]
    have c1 : (0 : Int) ≤ ((l.length - 1 : Nat) : Int) := by omega
    have c2 : ((l.length - 1 : Nat) : Int) < (l.length : Int) := by omega
    have c3 : ¬ g = 0 := by omega
    simp only [if_true, if_pos c1, if_pos c2, if_neg c3]
    exact Ev.now _
end Go.Proofs.YthcbaogbncakdaaGreatDoor.Pure
