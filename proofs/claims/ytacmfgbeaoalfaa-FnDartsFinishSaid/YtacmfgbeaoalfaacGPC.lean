/- What spec's daCount and impl's waysTo answer: tables of the counts, each held in 64 bits. No condition. -/
import Derived.Test.YtacmfgbeaoalfaacGPK
import Derived.Test.YtacmfgbeaoalfaacQFnDartsFinishx7
namespace Go.Proofs.Ytacmfgbeaoalfaa.Pure
open Go.RowKit Go.Proofs.Ytacmfgbeaoalfaa.QFnDartsFinish Go.Proofs.YtacmfgbeaoalfaaW.PrintWords Go.Proofs.YtacmfgbeaoalfaaW.PrintLast Go.Proofs.YtacmfgbeaoalfaaW.PrintMore
set_option linter.unusedVariables false
set_option linter.unusedSimpArgs false
theorem ev_some {α : Type} {g : Nat → Option α} {r : α} (h : ∀ k, g (k + 1) = some r) : Ev g r := Ev.step h (Ev.now r)
theorem wrap_id {i : Int} (h0 : -9223372036854775808 ≤ i) (h1 : i ≤ 9223372036854775807) : wrap64 i = i := by unfold wrap64; omega
theorem wrap_add (a b : Int) : wrap64 (wrap64 a + wrap64 b) = wrap64 (a + b) := by unfold wrap64; omega
def wt (n : Nat) (F : Nat → Nat) : List Int := tab n (fun j => wrap64 (F j : Int))
theorem wt_len (n : Nat) (F : Nat → Nat) : (wt n F).length = n := tab_len _ _
theorem rd_wt {n : Nat} {F : Nat → Nat} (i : Nat) (h : i < n) : rd (wt n F) (i : Int) = wrap64 (F i : Int) := by
  unfold wt
  rw [rd_tab _ (by omega) (by omega), Int.toNat_natCast]
theorem wt_ext {n : Nat} {F G : Nat → Nat} (h : ∀ j, j < n → F j = G j) : wt n F = wt n G := tab_ext fun j hj => by rw [h j hj]
theorem set_wt (n : Nat) (F : Nat → Nat) (i v : Nat) : (wt n F).set i (wrap64 (v : Int)) = wt n (fun j => if j = i then v else F j) := by
  unfold wt
  rw [set_tab]
  refine tab_ext fun j _ => ?_
  show (if j = i then wrap64 (v : Int) else wrap64 (F j : Int)) = wrap64 ((if j = i then v else F j : Nat) : Int)
  by_cases c : j = i
  · rw [if_pos c, if_pos c]
  · rw [if_neg c, if_neg c]
theorem rep_wt (n : Nat) : List.replicate n (0 : Int) = wt n (fun _ => 0) := (rep_tab n).trans (tab_ext fun j _ => (wrap_id (i := ((0 : Nat) : Int)) (by omega) (by omega)).symm)
def part (F G : Nat → Nat) (c s : Nat) : Nat → Nat := fun j => if c ≤ j ∧ j < s then G j + F (j - c) else G j
theorem part_start (F G : Nat → Nat) (c : Nat) : part F G c c = G := by
  funext j
  unfold part
  rw [if_neg (by omega)]
theorem part_end (F G : Nat → Nat) (c n s : Nat) (h : n ≤ s) : ∀ j, j < n → part F G c s j = G j + sh c F j := by
  intro j hj
  unfold part sh
  by_cases e : c ≤ j
  · rw [if_pos ⟨e, by omega⟩, if_pos e]
  · rw [if_neg (by omega), if_neg e, Nat.add_zero]
theorem part_set (F G : Nat → Nat) (c s n : Nat) (h : c ≤ s) : (wt n (part F G c s)).set s (wrap64 ((G s + F (s - c) : Nat) : Int)) = wt n (part F G c (s + 1)) := by
  rw [set_wt]
  refine wt_ext fun j _ => ?_
  unfold part
  by_cases e : j = s
  · subst e
    rw [if_pos rfl, if_pos ⟨h, by omega⟩]
  · rw [if_neg e]
    by_cases e2 : c ≤ j ∧ j < s
    · rw [if_pos e2, if_pos ⟨e2.1, by omega⟩]
    · rw [if_neg e2, if_neg (by omega)]
theorem part_at (F G : Nat → Nat) (c s : Nat) : part F G c s s = G s := by
  unfold part
  rw [if_neg (by omega)]
def scs (b : Bool) (L : List S43) : List Nat := (L.filter (fun d => !b || d.f1 == 2)).map (fun d => (sc d).toNat)
theorem scs_f : scs false boardL = scN := by kernel_rfl
theorem scs_t : scs true boardL = dbN := by kernel_rfl
theorem daAll_ev : Ev (fun k => spec_daAll.f k) boardL := Ev.of spec_daAll.mono (k := 400) (by kernel_rfl)
section
variable (a0 a1 : Int) (a2 : Bool) (r : List Int)
theorem cnt_l2 (n : Nat) (hn : a1 = (n : Int) - 1) (h1 : 1 ≤ n) (h2 : n ≤ 1002) (F G : Nat → Nat) (x9 : Int) (L : List S43) (i : Int) (d : S43) (hd : 1 ≤ sc d ∧ sc d ≤ 60) :
    Ev (fun k => spec_daCount.l1 k a0 a1 a2 (wt n F) boardL x9 (wt n (fun j => G j + sh (sc d).toNat F j)) L (L.length : Int) (wrap64 (i + 1))) r →
    ∀ m s : Nat, (sc d).toNat ≤ s → (s + m = n ∨ (m = 0 ∧ n ≤ s)) → s ≤ 2000 →
    Ev (fun k => spec_daCount.l2 k a0 a1 a2 (wt n F) boardL x9 (wt n (part F G (sc d).toNat s)) (s : Int) L (L.length : Int) i d.f0 d.f1) r := by
  intro h m
  have hw : wrap64 (d.f0 * d.f1) = sc d := wrap_id (by unfold sc at hd; omega) (by unfold sc at hd; omega)
  induction m with
  | zero =>
    intro s hs hm hz
    rw [wt_ext (part_end F G (sc d).toNat n s (by omega))]
    refine Ev.step (fun k => ?_) h
    simp only [spec_daCount.l2]
    rw [if_neg (by omega)]
  | succ m ih =>
    intro s hs hm hz
    have hsn : s < n := by omega
    refine Ev.step (fun k => ?_) (ih (s + 1) (by omega) (by omega) (by omega))
    obtain ⟨c, hc⟩ : ∃ c, (sc d).toNat = c := ⟨_, rfl⟩
    have hc2 : (s : Int) - sc d = ((s - c : Nat) : Int) := by omega
    have w1 : wrap64 (((s - c : Nat) : Int)) = ((s - c : Nat) : Int) := wrap_id (by omega) (by omega)
    have w2 : wrap64 ((s : Int) + 1) = ((s + 1 : Nat) : Int) := by rw [wrap_id (by omega) (by omega)]; omega
    rw [hc] at hs ⊢
    simp only [spec_daCount.l2]
    rw [if_pos (by omega), if_pos (by omega), if_pos (by rw [wt_len]; omega), hw, hc2, w1, if_pos (by omega), if_pos (by rw [wt_len]; omega), w2, rd_wt s hsn, rd_wt (s - c) (by omega), part_at, wrap_add, Int.toNat_natCast, ← Int.natCast_add, part_set F G c s n hs]
theorem cnt_l1 (n : Nat) (hn : a1 = (n : Int) - 1) (h1 : 1 ≤ n) (h2 : n ≤ 1002) (F : Nat → Nat) (x9 : Int) (L : List S43) (hL : ∀ d ∈ L, 1 ≤ sc d ∧ sc d ≤ 60) (hl : L.length ≤ 100) : ∀ (m i : Nat), i + m = L.length → ∀ G : Nat → Nat,
    Ev (fun k => spec_daCount.l0 k a0 a1 a2 (wt n (fun j => G j + cv (scs (a2 && decide (x9 = a0)) (L.drop i)) F j)) boardL (wrap64 (x9 + 1))) r →
    Ev (fun k => spec_daCount.l1 k a0 a1 a2 (wt n F) boardL x9 (wt n G) L (L.length : Int) (i : Int)) r := by
  intro m
  induction m with
  | zero =>
    intro i him G h
    have hi : i = L.length := by omega
    subst hi
    rw [List.drop_length] at h
    refine Ev.step (fun k => ?_) h
    simp only [spec_daCount.l1]
    rw [if_neg (by omega)]
    rfl
  | succ m ih =>
    intro i him G h
    have hi : i < L.length := by omega
    have hd := hL L[i] (List.getElem_mem hi)
    have ed : rd_T43 L (i : Int) = L[i] := by unfold rd_T43; simp [List.getD, hi]
    rw [List.drop_eq_getElem_cons hi] at h
    generalize L[i] = d at h hd ed
    have hi1 : wrap64 ((i : Int) + 1) = ((i + 1 : Nat) : Int) := by rw [wrap_id (by omega) (by omega)]; rfl
    have hw : wrap64 (d.f0 * d.f1) = sc d := wrap_id (by unfold sc at hd; omega) (by unfold sc at hd; omega)
    obtain ⟨b, hb⟩ : ∃ b, (a2 && decide (x9 = a0)) = b := ⟨_, rfl⟩
    rw [hb] at h
    have e0 : ∀ k, spec_daCount.l1 (k + 1) a0 a1 a2 (wt n F) boardL x9 (wt n G) L (L.length : Int) (i : Int) = spec_daCount.j2 k a0 a1 a2 (wt n F) boardL x9 (wt n G) L (L.length : Int) (i : Int) (b && (d.f1 != 2)) d.f0 d.f1 := by
      intro k
      have a1_ : ((i : Int) < (L.length : Int)) = True := eq_true (by omega)
      have a2_ : (0 ≤ (i : Int)) = True := eq_true (by omega)
      simp only [spec_daCount.l1, a1_, a2_, if_true, ed]
      subst hb
      cases a2
      · simp
      · by_cases c : x9 = a0
        · simp [c]
        · simp [c]
    by_cases cs : (b && (d.f1 != 2)) = true
    · have hsk : scs b (d :: L.drop (i + 1)) = scs b (L.drop (i + 1)) := by
        rw [Bool.and_eq_true] at cs
        have : (!b || d.f1 == 2) = false := by
          rw [cs.1]
          have := cs.2
          simp only [bne_iff_ne, ne_eq] at this
          simp [this]
        unfold scs
        rw [List.filter_cons, if_neg (by rw [this]; decide)]
      rw [hsk, ← hb] at h
      refine Ev.step e0 (Ev.step (fun k => ?_) (ih (i + 1) (by omega) G h))
      simp only [spec_daCount.j2]
      rw [if_pos cs, hi1]
    · have hsk : scs b (d :: L.drop (i + 1)) = (sc d).toNat :: scs b (L.drop (i + 1)) := by
        have : (!b || d.f1 == 2) = true := by
          cases b
          · rfl
          · simp at cs
            simp [cs]
        unfold scs
        rw [List.filter_cons, if_pos this, List.map_cons]
      have e2 : (fun j => G j + cv (scs b (d :: L.drop (i + 1))) F j) = fun j => (G j + sh (sc d).toNat F j) + cv (scs b (L.drop (i + 1))) F j := by
        funext j
        rw [hsk]
        show G j + (sh _ F j + cv _ F j) = _
        omega
      rw [e2, ← hb] at h
      have h3 := ih (i + 1) (by omega) (fun j => G j + sh (sc d).toNat F j) h
      rw [← hi1] at h3
      have h4 := cnt_l2 a0 a1 a2 r n hn h1 h2 F G x9 L (i : Int) d hd h3 (n - (sc d).toNat) (sc d).toNat (Nat.le_refl _) (by omega) (by omega)
      rw [part_start] at h4
      refine Ev.step e0 (Ev.step (fun k => ?_) h4)
      simp only [spec_daCount.j2]
      rw [if_neg cs, hw, show ((sc d).toNat : Int) = sc d by omega]
def rowS (dbl : Bool) : Nat → (Nat → Nat) → Nat → Nat
  | 0, F => F
  | m + 1, F => rowS dbl m (cv (if (dbl && decide (m = 0)) = true then dbN else scN) F)
theorem cnt_l0 (n : Nat) (hn : a1 = (n : Int) - 1) (h1 : 1 ≤ n) (h2 : n ≤ 1002) (K : Nat) (hK : K ≤ 100) (hk : a0 = (K : Int)) : ∀ (m x : Nat), x + m = K + 1 → ∀ F : Nat → Nat,
    Ev (fun k => spec_daCount.l0 k a0 a1 a2 (wt n F) boardL (x : Int)) (wt n (rowS a2 m F)) := by
  intro m
  induction m with
  | zero =>
    intro x hx F
    refine ev_some fun k => ?_
    simp only [spec_daCount.l0]
    rw [if_neg (by omega)]
    rfl
  | succ m ih =>
    intro x hx F
    have hx1 : wrap64 ((x : Int) + 1) = ((x + 1 : Nat) : Int) := by rw [wrap_id (by omega) (by omega)]; rfl
    have e1 : wrap64 (a1 + 1) = (n : Int) := by rw [wrap_id (by omega) (by omega)]; omega
    have e2 : scs (a2 && decide ((x : Int) = a0)) boardL = if (a2 && decide (m = 0)) = true then dbN else scN := by
      have : decide ((x : Int) = a0) = decide (m = 0) := decide_eq_decide.2 (by omega)
      rw [this]
      cases (a2 && decide (m = 0))
      · rw [if_neg (by decide)]; exact scs_f
      · rw [if_pos rfl]; exact scs_t
    have h := ih (x + 1) (by omega) (cv (if (a2 && decide (m = 0)) = true then dbN else scN) F)
    rw [← hx1] at h
    have h3 := cnt_l1 a0 a1 a2 (wt n (rowS a2 (m + 1) F)) n hn h1 h2 F (x : Int) boardL brd_ok (by rw [brd_len]; omega) 62 0 (by rw [brd_len]) (fun _ => 0) (by
      rw [List.drop_zero, e2]
      have e3 : (fun j => 0 + cv (if (a2 && decide (m = 0)) = true then dbN else scN) F j) = cv (if (a2 && decide (m = 0)) = true then dbN else scN) F := by
        funext j
        rw [Nat.zero_add]
      rw [e3]
      exact h)
    refine Ev.step (fun k => ?_) h3
    simp only [spec_daCount.l0]
    rw [if_pos (by omega), e1, if_pos (by omega), if_pos (by omega), Int.toNat_natCast]
    have e4 : List.replicate n (0 : Int) = wt n (fun _ => 0) := rep_wt n
    rw [e4]
    rfl
end
theorem dl_tab (n : Nat) (h : 1 ≤ n) : (List.replicate n (0 : Int)).set (0 : Int).toNat 1 = wt n dl := by
  have e : List.replicate n (0 : Int) = wt n (fun _ => 0) := rep_wt n
  rw [e, show (0 : Int).toNat = 0 from rfl, show (1 : Int) = wrap64 ((1 : Nat) : Int) from (wrap_id (i := ((1 : Nat) : Int)) (by omega) (by omega)).symm, set_wt]
  rfl
theorem daCount_ev (K n : Nat) (dbl : Bool) (hK : K ≤ 100) (h1 : 1 ≤ n) (h2 : n ≤ 1002) : Ev (fun k => spec_daCount.f k (K : Int) ((n : Int) - 1) dbl) (wt n (rowS dbl K dl)) := by
  have e1 : wrap64 ((n : Int) - 1 + 1) = (n : Int) := by rw [wrap_id (by omega) (by omega)]; omega
  have h := cnt_l0 (K : Int) ((n : Int) - 1) dbl n rfl h1 h2 K hK rfl K 1 (by omega) dl
  have h5 : Ev (fun k => (spec_daAll.f k).bind fun t207 => spec_daCount.l0 k (K : Int) ((n : Int) - 1) dbl (wt n dl) t207 1) (wt n (rowS dbl K dl)) := Ev.bind daAll_ev h
  refine Ev.congr (fun k => ?_) h5
  unfold spec_daCount.f
  rw [e1, if_pos (by omega), if_pos (by omega), Int.toNat_natCast, Option.bind_some, if_pos (by rw [List.length_replicate]; omega), dl_tab n h1]
theorem rowS_f : ∀ (m : Nat) (F : Nat → Nat), rowS false m F = itB m F
  | 0, F => rfl
  | m + 1, F => rowS_f m (cv scN F)
theorem rowS_t : ∀ (m : Nat) (F : Nat → Nat), rowS true (m + 1) F = cv dbN (itB m F)
  | 0, F => rfl
  | m + 1, F => by
    show rowS true (m + 1) (cv (if (true && decide (m + 1 = 0)) = true then dbN else scN) F) = _
    rw [if_neg (by simp), rowS_t m (cv scN F)]
    rfl
theorem cntB_ev (K n : Nat) (hK : K ≤ 17) (h1 : 1 ≤ n) (h2 : n ≤ 1002) : Ev (fun k => spec_daCount.f k (K : Int) ((n : Int) - 1) false) (wt n (cB K)) := by
  have h := daCount_ev K n false (by omega) h1 h2
  rw [rowS_f] at h
  rwa [wt_ext fun j _ => cB_eq hK j] at h
theorem cntF_ev (K n : Nat) (hK : K ≤ 17) (h1 : 1 ≤ n) (h2 : n ≤ 1002) : Ev (fun k => spec_daCount.f k ((K + 1 : Nat) : Int) ((n : Int) - 1) true) (wt n (cF K)) := by
  have h := daCount_ev (K + 1) n true (by omega) h1 h2
  rw [rowS_t] at h
  rwa [wt_ext fun j _ => cF_eqS hK j] at h
section
variable (x1 : Bool) (x6 x14 x15 : Int) (r : List Int)
theorem ways_l2 (F G : Nat → Nat) (L : List S43) (i : Int) (d : S43) (hd : 1 ≤ sc d ∧ sc d ≤ 60) :
    Ev (fun k => impl_waysTo.l1 k x1 (wt 181 F) x6 (wt 181 (fun j => G j + sh (sc d).toNat F j)) x14 x15 L (L.length : Int) (wrap64 (i + 1))) r →
    ∀ m s : Nat, s + (sc d).toNat + m = 181 →
    Ev (fun k => impl_waysTo.l2 k x1 (wt 181 F) x6 (wt 181 (part F G (sc d).toNat (s + (sc d).toNat))) x14 x15 L (L.length : Int) i (181 - sc d) (s : Int) d.f0 d.f1) r := by
  intro h m
  have hw : wrap64 (d.f0 * d.f1) = sc d := wrap_id (by unfold sc at hd; omega) (by unfold sc at hd; omega)
  obtain ⟨n, hn⟩ : ∃ n : Nat, n = 181 := ⟨_, rfl⟩
  rw [← hn] at h ⊢
  induction m with
  | zero =>
    intro s hs
    rw [wt_ext (part_end F G (sc d).toNat n (s + (sc d).toNat) (by omega))]
    refine Ev.step (fun k => ?_) h
    simp only [impl_waysTo.l2]
    rw [if_neg (by omega)]
  | succ m ih =>
    intro s hs
    have h3 := ih (s + 1) (by omega)
    obtain ⟨c, hc⟩ : ∃ c, (sc d).toNat = c := ⟨_, rfl⟩
    rw [hc] at hs h3 ⊢
    have e : s + 1 + c = s + c + 1 := by omega
    rw [e, ← part_set F G c (s + c) n (by omega)] at h3
    refine Ev.step (fun k => ?_) h3
    have hc2 : (s : Int) + sc d = ((s + c : Nat) : Int) := by omega
    have w1 : wrap64 (((s + c : Nat) : Int)) = ((s + c : Nat) : Int) := wrap_id (by omega) (by omega)
    have w2 : wrap64 ((s : Int) + 1) = ((s + 1 : Nat) : Int) := by rw [wrap_id (by omega) (by omega)]; omega
    simp only [impl_waysTo.l2, impl_Dart_score.f, Option.bind_some]
    rw [if_pos (by omega), hw, hc2, w1, if_pos (by omega), if_pos (by rw [wt_len]; omega), if_pos (by omega), if_pos (by rw [wt_len]; omega), w2, rd_wt (s + c) (by omega), rd_wt s (by omega), part_at, wrap_add, Int.toNat_natCast, ← Int.natCast_add, show s + c - c = s by omega]
theorem ways_l1 (F : Nat → Nat) (L : List S43) (hL : ∀ d ∈ L, 1 ≤ sc d ∧ sc d ≤ 60) (hl : L.length ≤ 100) : ∀ (m i : Nat), i + m = L.length → ∀ G : Nat → Nat,
    Ev (fun k => impl_waysTo.l0 k x1 (wt 181 (fun j => G j + cv (scs (x1 && decide (x6 = 0)) (L.drop i)) F j)) x14 (wrap64 (x15 + 1))) r →
    Ev (fun k => impl_waysTo.l1 k x1 (wt 181 F) x6 (wt 181 G) x14 x15 L (L.length : Int) (i : Int)) r := by
  intro m
  induction m with
  | zero =>
    intro i him G h
    have hi : i = L.length := by omega
    subst hi
    rw [List.drop_length] at h
    refine Ev.step (fun k => ?_) h
    simp only [impl_waysTo.l1]
    rw [if_neg (by omega)]
    rfl
  | succ m ih =>
    intro i him G h
    have hi : i < L.length := by omega
    have hd := hL L[i] (List.getElem_mem hi)
    have ed : rd_T43 L (i : Int) = L[i] := by unfold rd_T43; simp [List.getD, hi]
    rw [List.drop_eq_getElem_cons hi] at h
    generalize L[i] = d at h hd ed
    have hi1 : wrap64 ((i : Int) + 1) = ((i + 1 : Nat) : Int) := by rw [wrap_id (by omega) (by omega)]; rfl
    have hw : wrap64 (d.f0 * d.f1) = sc d := wrap_id (by unfold sc at hd; omega) (by unfold sc at hd; omega)
    obtain ⟨b, hb⟩ : ∃ b, (x1 && decide (x6 = 0)) = b := ⟨_, rfl⟩
    rw [hb] at h
    have e0 : ∀ k, impl_waysTo.l1 (k + 1) x1 (wt 181 F) x6 (wt 181 G) x14 x15 L (L.length : Int) (i : Int) = impl_waysTo.j2 k x1 (wt 181 F) x6 (wt 181 G) x14 x15 L (L.length : Int) (i : Int) (b && (d.f1 != 2)) d.f0 d.f1 := by
      intro k
      have a1_ : ((i : Int) < (L.length : Int)) = True := eq_true (by omega)
      have a2_ : (0 ≤ (i : Int)) = True := eq_true (by omega)
      simp only [impl_waysTo.l1, a1_, a2_, if_true, ed]
      subst hb
      cases x1
      · simp
      · by_cases c : x6 = 0
        · simp [c]
        · simp [c]
    by_cases cs : (b && (d.f1 != 2)) = true
    · have hsk : scs b (d :: L.drop (i + 1)) = scs b (L.drop (i + 1)) := by
        rw [Bool.and_eq_true] at cs
        have : (!b || d.f1 == 2) = false := by
          rw [cs.1]
          have := cs.2
          simp only [bne_iff_ne, ne_eq] at this
          simp [this]
        unfold scs
        rw [List.filter_cons, if_neg (by rw [this]; decide)]
      rw [hsk, ← hb] at h
      refine Ev.step e0 (Ev.step (fun k => ?_) (ih (i + 1) (by omega) G h))
      simp only [impl_waysTo.j2]
      rw [if_pos cs, hi1]
    · have hsk : scs b (d :: L.drop (i + 1)) = (sc d).toNat :: scs b (L.drop (i + 1)) := by
        have : (!b || d.f1 == 2) = true := by
          cases b
          · rfl
          · simp at cs
            simp [cs]
        unfold scs
        rw [List.filter_cons, if_pos this, List.map_cons]
      have e2 : (fun j => G j + cv (scs b (d :: L.drop (i + 1))) F j) = fun j => (G j + sh (sc d).toNat F j) + cv (scs b (L.drop (i + 1))) F j := by
        funext j
        rw [hsk]
        show G j + (sh _ F j + cv _ F j) = _
        omega
      rw [e2, ← hb] at h
      have h3 := ih (i + 1) (by omega) (fun j => G j + sh (sc d).toNat F j) h
      rw [← hi1] at h3
      have h4 := ways_l2 x1 x6 x14 x15 r F G L (i : Int) d hd h3 (181 - (sc d).toNat) 0 (by omega)
      rw [Nat.zero_add, part_start] at h4
      have w3 : wrap64 (181 - sc d) = 181 - sc d := wrap_id (by omega) (by omega)
      refine Ev.step e0 (Ev.step (fun k => ?_) h4)
      simp only [impl_waysTo.j2, impl_Dart_score.f, Option.bind_some]
      rw [if_neg cs, hw, w3]
      rfl
end
def rowI (fin : Bool) : Nat → Nat → (Nat → Nat) → Nat → Nat
  | 0, _, F => F
  | m + 1, x, F => rowI fin m (x + 1) (cv (if (fin && decide (x = 0)) = true then dbN else scN) F)
theorem ways_l0 (fin : Bool) (K : Nat) (hK : K ≤ 100) : ∀ (m x : Nat), x + m = K → ∀ F : Nat → Nat,
    Ev (fun k => impl_waysTo.l0 k fin (wt 181 F) (K : Int) (x : Int)) (wt 181 (rowI fin m x F)) := by
  intro m
  induction m with
  | zero =>
    intro x hx F
    refine ev_some fun k => ?_
    simp only [impl_waysTo.l0]
    rw [if_neg (by omega)]
    rfl
  | succ m ih =>
    intro x hx F
    have hx1 : wrap64 ((x : Int) + 1) = ((x + 1 : Nat) : Int) := by rw [wrap_id (by omega) (by omega)]; rfl
    have e2 : scs (fin && decide ((x : Int) = 0)) boardL = if (fin && decide (x = 0)) = true then dbN else scN := by
      have : decide ((x : Int) = 0) = decide (x = 0) := decide_eq_decide.2 (by omega)
      rw [this]
      cases (fin && decide (x = 0))
      · rw [if_neg (by decide)]; exact scs_f
      · rw [if_pos rfl]; exact scs_t
    have h := ih (x + 1) (by omega) (cv (if (fin && decide (x = 0)) = true then dbN else scN) F)
    rw [← hx1] at h
    have h3 := ways_l1 fin (x : Int) (K : Int) (x : Int) (wt 181 (rowI fin (m + 1) x F)) F boardL brd_ok (by rw [brd_len]; omega) 62 0 (by rw [brd_len]) (fun _ => 0) (by
      rw [List.drop_zero, e2]
      have e3 : (fun j => 0 + cv (if (fin && decide (x = 0)) = true then dbN else scN) F j) = cv (if (fin && decide (x = 0)) = true then dbN else scN) F := by
        funext j
        rw [Nat.zero_add]
      rw [e3]
      exact h)
    refine Ev.step (fun k => ?_) h3
    have e4 : List.replicate 181 (0 : Int) = wt 181 (fun _ => 0) := rep_wt 181
    simp only [impl_waysTo.l0, impl_board.f, Option.bind_some]
    rw [if_pos (by omega), if_pos (by omega), e4]
    rfl
theorem waysTo_ev (K : Nat) (fin : Bool) (hK : K ≤ 100) : Ev (fun k => impl_waysTo.f k (K : Int) fin) (wt 181 (rowI fin K 0 dl)) := by
  refine Ev.congr (fun k => ?_) (ways_l0 fin K hK K 0 (by omega) dl)
  unfold impl_waysTo.f
  rw [if_pos (by omega), Option.bind_some, if_pos (by rw [List.length_replicate]; omega), dl_tab 181 (by omega)]
  rfl
theorem rowI_f : ∀ (m x : Nat) (F : Nat → Nat), rowI false m x F = itB m F
  | 0, x, F => rfl
  | m + 1, x, F => rowI_f m (x + 1) (cv scN F)
theorem rowI_s : ∀ (m x : Nat) (F : Nat → Nat), rowI true m (x + 1) F = itB m F
  | 0, x, F => rfl
  | m + 1, x, F => by
    show rowI true m (x + 1 + 1) (cv (if (true && decide (x + 1 = 0)) = true then dbN else scN) F) = _
    rw [if_neg (by simp), rowI_s m (x + 1) (cv scN F)]
    rfl
theorem waysB_ev (K : Nat) (hK : K ≤ 17) : Ev (fun k => impl_waysTo.f k (K : Int) false) (wt 181 (cB K)) := by
  have h := waysTo_ev K false (by omega)
  rw [rowI_f] at h
  rwa [wt_ext fun j _ => cB_eq hK j] at h
theorem waysF_ev (K : Nat) (hK : K ≤ 17) : Ev (fun k => impl_waysTo.f k ((K + 1 : Nat) : Int) true) (wt 181 (cF K)) := by
  have h := waysTo_ev (K + 1) true (by omega)
  rw [show rowI true (K + 1) 0 dl = rowI true K (0 + 1) (cv dbN dl) from rfl, rowI_s] at h
  rwa [wt_ext fun j _ => cF_eqI hK j] at h
end Go.Proofs.Ytacmfgbeaoalfaa.Pure
