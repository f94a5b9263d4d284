/- The greatest score that is not reached: both sides find the same, behind 400 all scores are reached if the kinds have no common divisor. No condition beside the types' own bounds. -/
import Derived.Test.YthcbaogbncakdaaGreatDoorcGKD
namespace Go.Proofs.YthcbaogbncakdaaGreatDoor.Pure
open Go.RowKit Go.Proofs.YthcbaogbncakdaaGreatDoor.QFnGoalsReached Go.Proofs.YthcbaogbncakdaaGreatDoorW.PrintWords Go.Proofs.YthcbaogbncakdaaGreatDoorW.PrintLast Go.Proofs.YthcbaogbncakdaaGreatDoorW.PrintMore
set_option linter.unusedVariables false
set_option linter.unusedSimpArgs false
set_option linter.unusedSectionVars false
def pw (n : Nat) : Nat := 2 ^ n
theorem pw_mod (x n i : Nat) : (x % pw n).testBit i = (decide (i < n) && x.testBit i) := Nat.testBit_mod_two_pow ..
theorem pw_sub (n i : Nat) : (pw n - 1).testBit i = decide (i < n) := Nat.testBit_two_pow_sub_one ..
def clo (n m : Nat) : Nat := [1, 2, 4, 8, 16, 32, 64, 128, 256, 512].foldl (fun a c => (a ||| (a <<< (n * c))) % pw 1001) m
def okAll : Nat → Nat → Nat → Nat → Bool
  | 0, _, _, _ => true
  | f + 1, last, mask, g => (List.range 20).all fun i => if i + 1 ≤ last then true else if Nat.gcd g (i + 1) = 1 then Nat.beq ((clo (i + 1) mask) >>> 401) (pw 600 - 1) else
      match clo (i + 1) mask with
      | 0 => false
      | k + 1 => okAll f (i + 1) (k + 1) (Nat.gcd g (i + 1))
theorem okAll_true : okAll 5 0 1 0 = true := by decide +kernel
theorem clo_sound {l : List Int} (hl : ∀ x ∈ l, 1 ≤ x) {n : Int} (hn : n ∈ l) {m : Nat} (hm : ∀ i, m.testBit i = true → 0 ≤ fw l i) : ∀ i, (clo n.toNat m).testBit i = true → 0 ≤ fw l i := by
  unfold clo
  generalize [1, 2, 4, 8, 16, 32, 64, 128, 256, 512] = cs
  induction cs generalizing m with
  | nil => exact hm
  | cons c cs ih =>
    refine ih (fun i h => ?_)
    rw [pw_mod, Bool.and_eq_true, Nat.testBit_or, Bool.or_eq_true, Nat.testBit_shiftLeft, Bool.and_eq_true] at h
    rcases h.2 with h1 | ⟨h1, h2⟩
    · exact hm i h1
    · have h1 := of_decide_eq_true h1
      have := fw_mul hl hn c (hm _ h2)
      rwa [Nat.sub_add_cancel h1] at this
def gcdL (g : Nat) (l : List Int) : Nat := l.foldl (fun g n => Nat.gcd g n.toNat) g
theorem okAll_sound {l : List Int} (hl : ∀ x ∈ l, 1 ≤ x ∧ x ≤ 20) : ∀ (rest : List Int) (f last mask g : Nat), rest.length ≤ f → (∀ x ∈ rest, x ∈ l) → rest.Pairwise (· < ·) → (∀ x ∈ rest, (last : Int) < x) → okAll f last mask g = true → (∀ i, mask.testBit i = true → 0 ≤ fw l i) → g ≠ 1 → gcdL g rest = 1 → ∀ i, 401 ≤ i → i ≤ 1000 → 0 ≤ fw l i := by
  intro rest
  induction rest with
  | nil => intro f last mask g _ _ _ _ _ _ hg h; exact absurd h hg
  | cons n r ih =>
    intro f last mask g hf hr hp hlast hok hm hg hgcd
    obtain ⟨f, rfl⟩ : ∃ f', f = f' + 1 := ⟨f - 1, by simp at hf; omega⟩
    have hn := hr n List.mem_cons_self
    obtain ⟨n1, n2⟩ := hl n hn
    have hla := hlast n List.mem_cons_self
    rw [okAll, List.all_eq_true] at hok
    have h0 := hok (n.toNat - 1) (List.mem_range.2 (by omega))
    rw [show n.toNat - 1 + 1 = n.toNat by omega, if_neg (by omega)] at h0
    have hs := clo_sound (fun x hx => (hl x hx).1) hn hm
    by_cases c : Nat.gcd g n.toNat = 1
    · rw [if_pos c] at h0
      have h1 : clo n.toNat mask >>> 401 = pw 600 - 1 := Nat.eq_of_beq_eq_true h0
      intro i i1 i2
      refine hs i ?_
      have h2 : (clo n.toNat mask >>> 401).testBit (i - 401) = true := by
        rw [h1, pw_sub]
        exact decide_eq_true (by omega)
      rwa [Nat.testBit_shiftRight, show 401 + (i - 401) = i by omega] at h2
    · rw [if_neg c] at h0
      rw [List.pairwise_cons] at hp
      have hgcd2 : gcdL (Nat.gcd g n.toNat) r = 1 := hgcd
      cases hq : clo n.toNat mask with
      | zero => rw [hq] at h0; cases h0
      | succ k =>
        rw [hq] at h0 hs
        exact ih f n.toNat (k + 1) (Nat.gcd g n.toNat) (by simp at hf; omega) (fun x hx => hr x (List.mem_cons_of_mem _ hx)) hp.2 (fun x hx => by have := hp.1 x hx; omega) h0 hs c hgcd2
theorem all_reached {l : List Int} (hK : IsK l) (hg : gcdL 0 l = 1) : ∀ i, 401 ≤ i → i ≤ 1000 → 0 ≤ fw l i := by
  have hl : ∀ x ∈ l, 1 ≤ x ∧ x ≤ 20 := hK.mem
  refine okAll_sound hl l 5 0 1 0 hK.l5 (fun x hx => hx) ?_ (fun x hx => by have := (hl x hx).1; omega) okAll_true (fun i h => ?_) (by decide) hg
  · refine List.pairwise_iff_getElem.2 fun i j hi hj hij => ?_
    have h1 := hK.inc i (by omega)
    have h2 := kinds_mono hK (j - (i + 1)) (i + 1) (by omega)
    simp only [show i + 1 + (j - (i + 1)) = j by omega] at h2
    omega
  · rw [Nat.testBit_one_eq_true_iff_self_eq_zero.1 h, fw_zero]
    omega
theorem gcd_step (n b : Nat) : Nat.gcd n b = Nat.gcd b (n % b) := by rw [Nat.gcd_comm n b, Nat.gcd_rec b n, Nat.gcd_comm]
theorem tmod_nat (n b : Nat) : Int.tmod (n : Int) (b : Int) = ((n % b : Nat) : Int) := rfl
theorem implG_l1 (x0 x13 : List Int) (x14 x15 : Int) (res : Int × Bool) (b : Nat) : ∀ n : Nat, Ev (fun k => impl_GreatestNotReached.l0 k x0 ((Nat.gcd n b : Nat) : Int) x13 x14 (wrap64 (x15 + 1))) res → Ev (fun k => impl_GreatestNotReached.l1 k x0 (n : Int) (b : Int) x13 x14 x15) res := by
  induction b using Nat.strongRecOn with
  | ind b ih =>
    intro n h
    by_cases c : b = 0
    · subst c
      rw [Nat.gcd_zero_right] at h
      refine Ev.step (fun k => ?_) h
      simp only [impl_GreatestNotReached.l1]
      rw [if_pos (by omega)]
    · rw [gcd_step] at h
      refine Ev.step (fun k => ?_) (ih (n % b) (Nat.mod_lt _ (by omega)) b h)
      simp only [impl_GreatestNotReached.l1]
      rw [if_neg (by omega), tmod_nat]
theorem specG_l1 (x0 x12 : List Int) (x13 x14 : Int) (res : Int × Bool) (b : Nat) : ∀ n : Nat, Ev (fun k => spec_GreatestNotReached.l0 k x0 ((Nat.gcd n b : Nat) : Int) x12 x13 (wrap64 (x14 + 1))) res → Ev (fun k => spec_GreatestNotReached.l1 k x0 (n : Int) (b : Int) x12 x13 x14) res := by
  induction b using Nat.strongRecOn with
  | ind b ih =>
    intro n h
    by_cases c : b = 0
    · subst c
      rw [Nat.gcd_zero_right] at h
      refine Ev.step (fun k => ?_) h
      simp only [spec_GreatestNotReached.l1]
      rw [if_neg (by omega)]
    · rw [gcd_step] at h
      refine Ev.step (fun k => ?_) (ih (n % b) (Nat.mod_lt _ (by omega)) b h)
      simp only [spec_GreatestNotReached.l1]
      rw [if_pos (by omega), if_neg (by omega), tmod_nat]
theorem implG_l0 {l : List Int} (hK : IsK l) (res : Int × Bool) (d : Nat) : ∀ (j g : Nat), j + d = l.length →
    Ev (fun k => if ((gcdL g (l.drop j) : Nat) : Int) > 1 then some (0, false) else (impl_fewGoals.f k l 1000).bind fun t337 => impl_GreatestNotReached.l2 k t337 1000) res →
    Ev (fun k => impl_GreatestNotReached.l0 k l (g : Int) l (l.length : Int) (j : Int)) res := by
  have h5 := hK.l5
  induction d with
  | zero =>
    intro j g hj h
    rw [List.drop_of_length_le (by omega)] at h
    refine Ev.step (fun k => ?_) h
    simp only [impl_GreatestNotReached.l0]
    rw [if_neg (by omega)]
    rfl
  | succ d ih =>
    intro j g hj h
    have hlt : j < l.length := by omega
    obtain ⟨n1, n2⟩ := hK.rng j hlt
    rw [List.drop_eq_getElem_cons hlt] at h
    have hi := ih (j + 1) (Nat.gcd g l[j].toNat) (by omega) h
    rw [Nat.gcd_comm] at hi
    have h1 := implG_l1 l l (l.length : Int) (j : Int) res g l[j].toNat (by rw [wrap_id (i := (j : Int) + 1) (by omega) (by omega)]; exact hi)
    refine Ev.step (fun k => ?_) h1
    simp only [impl_GreatestNotReached.l0]
    rw [if_pos (by omega), if_pos (by omega), if_pos (by omega), rdI l j hlt, show ((l[j].toNat : Nat) : Int) = l[j] by omega]
theorem specG_l0 {l : List Int} (hK : IsK l) (res : Int × Bool) (d : Nat) : ∀ (j g : Nat), j + d = l.length →
    Ev (fun k => if ((gcdL g (l.drop j) : Nat) : Int) > 1 then spec_GreatestNotReached.j2 k l true else spec_GreatestNotReached.j2 k l (rd l 0 == 1)) res →
    Ev (fun k => spec_GreatestNotReached.l0 k l (g : Int) l (l.length : Int) (j : Int)) res := by
  have h5 := hK.l5
  have h1 := hK.l1
  induction d with
  | zero =>
    intro j g hj h
    rw [List.drop_of_length_le (by omega)] at h
    refine Ev.step (fun k => ?_) h
    simp only [spec_GreatestNotReached.l0]
    rw [if_neg (by omega)]
    have c : (0 : Int) < (l.length : Int) := by omega
    rw [if_pos c]
    rfl
  | succ d ih =>
    intro j g hj h
    have hlt : j < l.length := by omega
    obtain ⟨n1, n2⟩ := hK.rng j hlt
    rw [List.drop_eq_getElem_cons hlt] at h
    have hi := ih (j + 1) (Nat.gcd g l[j].toNat) (by omega) h
    have h1 := specG_l1 l l (l.length : Int) (j : Int) res l[j].toNat g (by rw [wrap_id (i := (j : Int) + 1) (by omega) (by omega)]; exact hi)
    refine Ev.step (fun k => ?_) h1
    simp only [spec_GreatestNotReached.l0]
    rw [if_pos (by omega), if_pos (by omega), if_pos (by omega), rdI l j hlt, show ((l[j].toNat : Nat) : Int) = l[j] by omega]
theorem implG_l2 (l : List Int) (g : Nat) (hg : 1 ≤ g) (hP : fw l g < 0) (d : Nat) : g + d ≤ 1000 → (∀ i, g < i → i ≤ g + d → 0 ≤ fw l i) → Ev (fun k => impl_GreatestNotReached.l2 k (fewT l 1000) ((g + d : Nat) : Int)) ((g : Int), true) := by
  have hlen := fewT_len l 1000
  induction d with
  | zero =>
    intro hd _
    refine ev_some fun k => ?_
    simp only [impl_GreatestNotReached.l2]
    rw [Nat.add_zero, if_pos (by omega), if_pos (by omega), if_pos (by omega), rd_few l 1000 g (by omega), if_pos hP]
  | succ d ih =>
    intro hd h
    have h1 := h (g + (d + 1)) (by omega) (by omega)
    refine Ev.step (fun k => ?_) (ih (by omega) (fun i i1 i2 => h i i1 (by omega)))
    simp only [impl_GreatestNotReached.l2]
    rw [if_pos (by omega), if_pos (by omega), if_pos (by omega), rd_few l 1000 (g + (d + 1)) (by omega), if_neg (by omega), wrap_id (by omega) (by omega), show ((g + (d + 1) : Nat) : Int) - 1 = ((g + d : Nat) : Int) by omega]
theorem implG_l2n (l : List Int) (d : Nat) : d ≤ 1000 → (∀ i, i ≤ d → 0 ≤ fw l i) → Ev (fun k => impl_GreatestNotReached.l2 k (fewT l 1000) (d : Int)) (0, false) := by
  have hlen := fewT_len l 1000
  induction d with
  | zero =>
    intro hd _
    refine ev_some fun k => ?_
    simp only [impl_GreatestNotReached.l2]
    rw [if_neg (by omega)]
  | succ d ih =>
    intro hd h
    have h1 := h (d + 1) (by omega)
    refine Ev.step (fun k => ?_) (ih (by omega) (fun i i1 => h i (by omega)))
    simp only [impl_GreatestNotReached.l2]
    rw [if_pos (by omega), if_pos (by omega), if_pos (by omega), rd_few l 1000 (d + 1) (by omega), if_neg (by omega), wrap_id (by omega) (by omega), show ((d + 1 : Nat) : Int) - 1 = (d : Int) by omega]
theorem specG_l2 (l : List Int) (g : Nat) (hP : fw l g < 0) (d : Nat) : g + d ≤ 800 → (∀ i, g < i → i ≤ g + d → 0 ≤ fw l i) → Ev (fun k => spec_GreatestNotReached.l2 k (fewT l 800) ((g + d : Nat) : Int)) ((g : Int), true) := by
  have hlen := fewT_len l 800
  induction d with
  | zero =>
    intro hd _
    refine ev_some fun k => ?_
    simp only [spec_GreatestNotReached.l2]
    rw [Nat.add_zero, if_pos (by omega), if_pos (by omega), rd_few l 800 g (by omega), if_neg (by omega)]
  | succ d ih =>
    intro hd h
    have h1 := h (g + (d + 1)) (by omega) (by omega)
    refine Ev.step (fun k => ?_) (ih (by omega) (fun i i1 i2 => h i i1 (by omega)))
    simp only [spec_GreatestNotReached.l2]
    rw [if_pos (by omega), if_pos (by omega), rd_few l 800 (g + (d + 1)) (by omega), if_pos (by omega), wrap_id (by omega) (by omega), show ((g + (d + 1) : Nat) : Int) - 1 = ((g + d : Nat) : Int) by omega]
theorem greatest_of {P : Nat → Prop} (hd : ∀ i, P i ∨ ¬ P i) (n : Nat) : (∃ i, i ≤ n ∧ P i) → ∃ g, g ≤ n ∧ P g ∧ ∀ i, g < i → i ≤ n → ¬ P i := by
  induction n with
  | zero => rintro ⟨i, h1, h2⟩; exact ⟨i, h1, h2, fun j j1 j2 => by omega⟩
  | succ n ih =>
    rintro ⟨i, h1, h2⟩
    rcases hd (n + 1) with h | h
    · exact ⟨n + 1, Nat.le_refl _, h, fun j j1 j2 => by omega⟩
    · obtain ⟨g, g1, g2, g3⟩ := ih ⟨i, by
        rcases Nat.lt_or_ge n i with q | q
        · obtain rfl : i = n + 1 := by omega
          exact absurd h2 h
        · exact q, h2⟩
      refine ⟨g, by omega, g2, fun j j1 j2 => ?_⟩
      by_cases e : j = n + 1
      · subst e; exact h
      · exact g3 j j1 (by omega)
theorem gcdL_pos (l : List Int) : ∀ g : Nat, 1 ≤ g → 1 ≤ gcdL g l := by
  induction l with
  | nil => intro g h; exact h
  | cons n l ih => intro g h; exact ih _ (Nat.gcd_pos_of_pos_left _ h)
theorem great_ev {l : List Int} {b : Bool} (h1 : Ev (fun k => spec_goKinds.f k l) b) (h2 : Ev (fun k => impl_AreKinds.f k l) b) (hb : b = true → IsK l) : ∃ v : Int × Bool, Ev (fun k => spec_GreatestNotReached.f k l) v ∧ Ev (fun k => impl_GreatestNotReached.f k l) v ∧
    (v.2 = true → b = true ∧ ∃ g : Nat, v.1 = (g : Int) ∧ 1 ≤ g ∧ g ≤ 800 ∧ fw l g < 0 ∧ ∀ i, g < i → i ≤ 1000 → 0 ≤ fw l i) := by
  unfold spec_GreatestNotReached.f impl_GreatestNotReached.f
  cases b with
  | false =>
    refine ⟨(0, false), Ev.bind h1 ?_, Ev.bind h2 ?_, fun h => by cases h⟩
    · simp only [Bool.false_eq_true, if_false]; exact Ev.now _
    · simp only [Bool.false_eq_true, if_false]; exact Ev.now _
  | true =>
    have hK := hb rfl
    have hl : ∀ x ∈ l, 1 ≤ x := fun x hx => (hK.mem x hx).1
    have l1 := hK.l1
    have l5 := hK.l5
    have hf := few_ev hK 1000 (Nat.le_refl _)
    have hf8 := few_ev hK 800 (by omega)
    have key : ∀ v : Int × Bool, Ev (fun k => if ((gcdL 0 l : Nat) : Int) > 1 then some (0, false) else (impl_fewGoals.f k l 1000).bind fun t337 => impl_GreatestNotReached.l2 k t337 1000) v →
        Ev (fun k => if ((gcdL 0 l : Nat) : Int) > 1 then spec_GreatestNotReached.j2 k l true else spec_GreatestNotReached.j2 k l (rd l 0 == 1)) v →
        Ev (fun k => (spec_goKinds.f k l).bind fun t341 => if t341 = true then spec_GreatestNotReached.l0 k l 0 l (l.length : Int) 0 else some (0, false)) v ∧ Ev (fun k => (impl_AreKinds.f k l).bind fun t335 => if t335 = true then impl_GreatestNotReached.l0 k l 0 l (l.length : Int) 0 else some (0, false)) v := fun v hi hs => by
      refine ⟨Ev.bind h1 ?_, Ev.bind h2 ?_⟩
      · simp only [if_true]
        have := specG_l0 hK v l.length 0 0 (by omega) (by rw [List.drop_zero]; exact hs)
        exact this
      · simp only [if_true]
        have := implG_l0 hK v l.length 0 0 (by omega) (by rw [List.drop_zero]; exact hi)
        exact this
    have hone : 1 ≤ gcdL 0 l := by
      obtain ⟨n, r, rfl⟩ : ∃ n r, l = n :: r := by
        cases l with
        | nil => simp at l1
        | cons n r => exact ⟨n, r, rfl⟩
      have hn := hl n List.mem_cons_self
      exact gcdL_pos r (Nat.gcd 0 n.toNat) (by rw [Nat.gcd_zero_left]; omega)
    by_cases cg : ((gcdL 0 l : Nat) : Int) > 1
    · have := key (0, false) (by simp only [if_pos cg]; exact Ev.now _) (by simp only [if_pos cg]; exact ev_some fun k => by simp only [spec_GreatestNotReached.j2, if_true])
      exact ⟨(0, false), this.1, this.2, fun h => by cases h⟩
    · have hg1 : gcdL 0 l = 1 := by omega
      have hall := all_reached hK hg1
      have hr0 : rd l 0 = l[0] := rdI l 0 (by omega)
      by_cases c1 : l[0] = 1
      · have hm : (1 : Int) ∈ l := by rw [← c1]; exact List.getElem_mem _
        have all : ∀ i, i ≤ 1000 → 0 ≤ fw l i := fun i _ => by
          have := fw_mul hl hm i (s := 0) (by rw [fw_zero]; omega)
          simpa using this
        have := key (0, false) (by simp only [if_neg cg]; exact Ev.bind hf (implG_l2n l 1000 (Nat.le_refl _) all)) (by simp only [if_neg cg, hr0, c1]; exact ev_some fun k => by simp [spec_GreatestNotReached.j2])
        exact ⟨(0, false), this.1, this.2, fun h => by cases h⟩
      · have h02 : 2 ≤ l[0] := by have := (hK.rng 0 (by omega)).1; omega
        have hall2 : ∀ x ∈ l, 2 ≤ x := fun x hx => by
          obtain ⟨j, hj, rfl⟩ := List.getElem_of_mem hx
          have := kinds_mono hK j 0 (by omega)
          simp only [Nat.zero_add] at this
          omega
        have hP1 : fw l 1 < 0 := by
          rcases Int.lt_or_le (fw l 1) 0 with q | q
          · exact q
          · obtain ⟨n, hn, n1, n2, _⟩ := fw_from hl (by omega) q
            have := hall2 n hn
            omega
        obtain ⟨g, g1, g2, g3⟩ := greatest_of (P := fun i => fw l i < 0) (fun i => Int.lt_or_le (fw l i) 0 |>.imp id (fun h => by omega)) 1000 ⟨1, by omega, hP1⟩
        have hge : 1 ≤ g := by
          rcases Nat.lt_or_ge g 1 with q | q
          · exact absurd hP1 (g3 1 q (by omega))
          · exact q
        have hgl : g ≤ 400 := by
          rcases Nat.lt_or_ge 400 g with q | q
          · have := hall g (by omega) g1
            omega
          · exact q
        have hup : ∀ i, g < i → i ≤ 1000 → 0 ≤ fw l i := fun i i1 i2 => by have := g3 i i1 i2; omega
        have hi := implG_l2 l g hge g2 (1000 - g) (by omega) (fun i i1 i2 => hup i i1 (by omega))
        have hs := specG_l2 l g g2 (800 - g) (by omega) (fun i i1 i2 => hup i i1 (by omega))
        rw [show g + (1000 - g) = 1000 by omega] at hi
        rw [show g + (800 - g) = 800 by omega] at hs
        have hj : Ev (fun k => spec_GreatestNotReached.j2 k l false) ((g : Int), true) := by
          refine Ev.step (f := fun k => (impl_fewGoals.f k l 800).bind fun t344 => spec_GreatestNotReached.l2 k t344 (wrap64 ((t344.length : Int) - 1))) (fun k => by simp [spec_GreatestNotReached.j2, few_eq]) ?_
          refine Ev.bind hf8 ?_
          rw [fewT_len, show wrap64 (((800 + 1 : Nat) : Int) - 1) = ((800 : Nat) : Int) by rw [wrap_id (by omega) (by omega)]; omega]
          exact hs
        have hne : (rd l 0 == 1) = false := by rw [hr0]; exact beq_eq_false_iff_ne.2 c1
        have := key ((g : Int), true) (by simp only [if_neg cg]; exact Ev.bind hf hi) (by simp only [if_neg cg, hne]; exact hj)
        exact ⟨((g : Int), true), this.1, this.2, fun _ => ⟨rfl, g, rfl, hge, by omega, g2, hup⟩⟩
end Go.Proofs.YthcbaogbncakdaaGreatDoor.Pure
