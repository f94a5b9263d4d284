/- impl's newInt, exactInt.Set, exactRat.Num and Denom, walked. -/
import Derived.Test.YtmkjkcfmjfeheaaGInt
import Derived.StillTailTactics
namespace Go.Proofs.Ytmkjkcfmjfeheaa.QFnExactMeanDeuce
open Go.RowKit Go.Proofs.YtmkjkcfmjfeheaaW.PrintWords Go.Proofs.YtmkjkcfmjfeheaaW.PrintLast Go.Proofs.YtmkjkcfmjfeheaaW.PrintMore
set_option linter.unusedVariables false
set_option linter.unusedSimpArgs false
theorem putI.calls (w0 w : World) (b : Nat) (x y : Value) (hb : w.heap[b]? = some (.cells #[x, y] 41 (0, 0))) (less : Bool) (v : Value) (ds : List Int) (hd : Dg w v ds) (hr : inR ds) (z : Int) (hz : z = if less = true then -vl ds else vl ds)
    (hB : Below w0.heap.size w0 w) (hge : w0.heap.size ≤ b) :
    Calls Try.prog 42 #[.pointer (some ⟨b, 0, none⟩), .bool less, v] w fun e w' => e = .returned (.pointer (some ⟨b, 0, none⟩)) ∧ IsJ w w' b z ∧ Kept w w' (fun k => k = b) ∧ Below w0.heap.size w0 w' := by
  refine (put.calls w0 w b 41 x y [] hb less v ds hd hr (by decide) hB hge).mono ?_
  rintro e w' ⟨rfl, v', h1, h2, h3, h4, h5, h6⟩
  have hn := vl_nonneg hr
  have hna : z.natAbs = (vl ds).toNat := by subst hz; cases less <;> simp <;> omega
  rw [← hna] at h2 h6
  refine ⟨rfl, ⟨v', ?_, h2, h6⟩, h3, h4⟩
  · rw [h1]
    have : decide (z < 0) = (less && decide (vl ds ≠ 0)) := by
      subst hz
      cases less
      · have : ¬ (vl ds < 0) := by omega
        simp [this]
      · rcases Int.lt_or_eq_of_le hn with h | h
        · have h2 : -vl ds < 0 := by omega
          have h3 : vl ds ≠ 0 := by omega
          rw [if_pos rfl, decide_eq_true h2, decide_eq_true h3]; rfl
        · rw [← h]; rfl
    rw [this]
theorem C_two (w : World) (g : Nat) (x y : Int) (hx : w.cell? ⟨g, 0, none⟩ = some (.int .u32 x)) (hy : w.cell? ⟨g, 1, none⟩ = some (.int .u32 y)) : Kd.C (Kd.int .u32) w (some ⟨g, 0, none⟩) 2 [x, y] := by
  refine ⟨rfl, by decide, fun _ => ⟨_, rfl, fun j p hj => ?_⟩⟩
  match j with
  | 0 =>
    have e : x = p := by simpa using hj
    subst e
    refine ⟨[.int .u32 x], rfl, rfl, fun i u hu => ?_⟩
    match i with
    | 0 =>
      have e : Value.int .u32 x = u := by simpa using hu
      subst e
      rw [add_plain]; exact hx
    | i + 1 => simp at hu
  | 1 =>
    have e : y = p := by simpa using hj
    subst e
    refine ⟨[.int .u32 y], rfl, rfl, fun i u hu => ?_⟩
    match i with
    | 0 =>
      have e : Value.int .u32 y = u := by simpa using hu
      subst e
      rw [add_plain]; exact hy
    | i + 1 => simp at hu
  | j + 2 => simp at hj
theorem C_one (w : World) (g o : Nat) (x : Int) (hx : w.cell? ⟨g, o, none⟩ = some (.int .u32 x)) : Kd.C (Kd.int .u32) w (some ⟨g, o, none⟩) 1 [x] := by
  refine ⟨rfl, by decide, fun _ => ⟨_, rfl, fun j p hj => ?_⟩⟩
  match j with
  | 0 =>
    have e : x = p := by simpa using hj
    subst e
    refine ⟨[.int .u32 x], rfl, rfl, fun i u hu => ?_⟩
    match i with
    | 0 =>
      have e : Value.int .u32 x = u := by simpa using hu
      subst e
      rw [add_at]; exact hx
    | i + 1 => simp at hu
  | j + 1 => simp at hj
theorem Dg.two (w : World) (g c : Nat) (x y : Int) (cs : Array Value) (hg : w.heap[g]? = some (.cells cs 61 (0, 0))) (h0 : cs[0]? = some (.int .u32 x)) (h1 : cs[1]? = some (.int .u32 y)) (hc : 2 ≤ c) : Dg w (.slice (some ⟨g, 0, none⟩) 2 c) [x, y] :=
  ⟨_, c, rfl, hc, C_two w g x y ((blk_cell hg 0).trans h0) ((blk_cell hg 1).trans h1), fun ad ha _ => by injection ha with ha; subst ha; exact ⟨cs, hg⟩⟩
theorem Dg.one (w : World) (g c : Nat) (x : Int) (cs : Array Value) (hg : w.heap[g]? = some (.cells cs 61 (0, 0))) (h0 : cs[0]? = some (.int .u32 x)) (hc : 1 ≤ c) : Dg w (.slice (some ⟨g, 0, none⟩) 1 c) [x] :=
  ⟨_, c, rfl, hc, C_one w g 0 x ((blk_cell hg 0).trans h0), fun ad ha _ => by injection ha with ha; subst ha; exact ⟨cs, hg⟩⟩
set_option maxHeartbeats 8000000 in
set_option maxRecDepth 100000 in
theorem newInt.calls (w : World) (n : Int) (h0 : 0 ≤ n) (h1 : n < 9223372036854775808) :
    Calls Try.prog 38 #[.int .i64 n] w fun e w' => ∃ b, e = .returned (.pointer (some ⟨b, 0, none⟩)) ∧ IsI w' b n ∧ w.heap.size ≤ b ∧ Below w.heap.size w w' := by
  have hw : IntKind.u64.wrap n = n := by unfold IntKind.wrap; simp [IntKind.bits, IntKind.signed]; omega
  have hn : ¬ (n < 0) := by omega
  go_enter Try.func38, Try.ntmps38
  have h41 : ∀ o : Obj, ((w.alloc (.cells #[.bool false, .slice none 0 0] 41)).alloc o).heap[w.heap.size]? = some (.cells #[.bool false, .slice none 0 0] 41 (0, 0)) := fun o => blk_below (blk_new w _) (below_alloc (Below.refl _ _) o)
  have hd : ∀ x y : Int, Dg ((w.alloc (.cells #[.bool false, .slice none 0 0] 41)).alloc (.cells #[.int .u32 x, .int .u32 y] 61)) (.slice (some ⟨w.heap.size + 1, 0, none⟩) 2 2) [x, y] := fun x y => by
    have h := blk_new (w.alloc (.cells #[.bool false, .slice none 0 0] 41)) (.cells #[.int .u32 x, .int .u32 y] 61 (0, 0))
    have e : (w.alloc (.cells #[.bool false, .slice none 0 0] 41)).heap.size = w.heap.size + 1 := World.size_alloc _ _
    rw [e] at h
    exact Dg.two _ _ 2 x y _ h rfl rfl (Nat.le_refl _)
  have hv : vl [n % 4294967296, n / 4294967296] = n := by simp only [vl]; omega
  have hr : inR [n % 4294967296, n / 4294967296] := by
    intro d hd
    rcases List.mem_cons.1 hd with e | hd
    · omega
    · rcases List.mem_cons.1 hd with e | hd
      · omega
      · cases hd
  have hB : ∀ o : Obj, Below w.heap.size w ((w.alloc (.cells #[.bool false, .slice none 0 0] 41)).alloc o) := fun o => below_alloc (below_alloc (Below.refl _ _) _) o
  have H1 := Aside0.mk h41
  have H2 := Aside0.mk hd
  have H3 := Aside0.mk hv
  have H4 := Aside0.mk hr
  have H5 := Aside0.mk hB
  clear h41 hd hv hr hB
  go_wp2_with fail
  refine (putI.calls w _ w.heap.size (.bool false) (.slice none 0 0) (H1.out _) false _ [n % 4294967296, n / 4294967296] (H2.out _ _) H4.out n (by rw [H3.out]; rfl) (H5.out _) (Nat.le_refl _)).mono ?_
  rintro e w' ⟨rfl, hI, hK, hB⟩
  have HI := Aside0.mk hI
  have HB := Aside0.mk hB
  clear hI hK hB H1 H2 H3 H4 H5
  go_wp2
  go_ret
  exact ⟨_, rfl, HI.out.isI, Nat.le_refl _, HB.out⟩
/-- a fraction in a block: d = 0 stands for 'no digits below' -/
def IsQ (w : World) (b : Nat) (n : Int) (d : Nat) : Prop := ∃ v u, w.heap[b]? = some (.cells #[.bool (decide (n < 0)), v, u] 43 (0, 0)) ∧ Dg w v (dig n.natAbs) ∧ Dg w u (dig d)
theorem IsQ.kept {w w' : World} {S : Nat → Prop} {b : Nat} {n : Int} {d : Nat} (h : IsQ w b n d) (hk : Kept w w' S) (hS : NoDg w S) (hb : ¬ S b) : IsQ w' b n d := by
  obtain ⟨v, u, h1, h2, h3⟩ := h
  exact ⟨v, u, blk_kept h1 hk hb, h2.kept hk hS, h3.kept hk hS⟩
theorem IsQ.below {w w' : World} {b : Nat} {n : Int} {d : Nat} (h : IsQ w b n d) (hb : Below w.heap.size w w') : IsQ w' b n d := h.kept (Kept.of_below hb (fun _ => False)) (fun _ _ hk => hk.elim) (fun hk => hk)
/-- what was read behind an allocation of no digits was there before -/
theorem Dg.back {w : World} {v : Value} {ds : List Int} {cs : Array Value} {t : Nat} (ht : t ≠ 61) (h : Dg (w.alloc (.cells cs t (0, 0))) v ds) : Dg w v ds := by
  obtain ⟨A, c, rfl, hc, hC, hty⟩ := h
  have hlt : ∀ ad, A = some ad → 0 < ds.length → ad.block < w.heap.size := by
    intro ad ha hp
    obtain ⟨cells, hcell⟩ := hty ad ha hp
    have h1 := blk_lt hcell
    rw [World.size_alloc] at h1
    rcases Nat.lt_or_ge ad.block w.heap.size with h2 | h2
    · exact h2
    · have h3 : ad.block = w.heap.size := by omega
      rw [h3, blk_new] at hcell
      injection hcell with hcell
      injection hcell with _ hcell
      exact absurd hcell ht
  have hb : ∀ k, k < w.heap.size → (w.alloc (.cells cs t (0, 0))).heap[k]? = w.heap[k]? := fun k hk => (below_alloc (Below.refl _ w) _).block k hk
  refine ⟨A, c, rfl, hc, ⟨hC.1, hC.2.1, fun hn => ?_⟩, fun ad ha hp => ?_⟩
  · obtain ⟨ad, he, hcl⟩ := hC.2.2 hn
    refine ⟨ad, he, fun j p hj => ?_⟩
    obtain ⟨cs', h1, h2, h3⟩ := hcl j p hj
    refine ⟨cs', h1, h2, fun i u hu => ?_⟩
    have h4 := h3 i u hu
    have h5 := hb ad.block (hlt ad he hn)
    have h6 : (ad.add (j * (Kd.int .u32).sz + i)).block = ad.block := add_block _ _
    rw [← h6] at h5
    simpa [World.cell?, h5] using h4
  · obtain ⟨cells, hcell⟩ := hty ad ha hp
    exact ⟨cells, (hb _ (hlt ad ha hp)).symm.trans hcell⟩
theorem z_of_dig (z : Int) : z = if decide (z < 0) = true then -vl (dig z.natAbs) else vl (dig z.natAbs) := by
  rw [vl_dig]
  by_cases h : z < 0
  · rw [if_pos (decide_eq_true h)]; omega
  · rw [if_neg (by simp [h])]; omega
set_option maxHeartbeats 8000000 in
set_option maxRecDepth 100000 in
theorem set.calls (w0 w : World) (b : Nat) (x y : Value) (hb : w.heap[b]? = some (.cells #[x, y] 41 (0, 0))) (a : Nat) (v : Value) (z : Int) (hc0 : w.cell? ⟨a, 0, none⟩ = some (.bool (decide (z < 0)))) (hc1 : w.cell? ⟨a, 1, none⟩ = some v) (hd : Dg w v (dig z.natAbs))
    (hB : Below w0.heap.size w0 w) (hge : w0.heap.size ≤ b) :
    Calls Try.prog 41 #[.pointer (some ⟨b, 0, none⟩), .pointer (some ⟨a, 0, none⟩)] w fun e w' => e = .returned (.pointer (some ⟨b, 0, none⟩)) ∧ IsJ w w' b z ∧ Kept w w' (fun k => k = b) ∧ Below w0.heap.size w0 w' := by
  have HB := Aside0.mk hB
  have HBK := Aside0.mk hb
  have HD := Aside0.mk hd
  clear hB hb hd
  obtain ⟨l, hl⟩ : ∃ l, l = decide (z < 0) := ⟨_, rfl⟩
  rw [← hl] at hc0
  have HL := Aside0.mk hl
  clear hl
  go_enter Try.func41, Try.ntmps41
  go_wp2
  go_still_tail 9, (by kernel_rfl)
  change wpList _ _ _ _ _ w.drew
  go_wp2_with fail
  refine (putI.calls w0 w.drew b x y HBK.out l v _ HD.out (inR_dig _) z (by rw [HL.out]; exact z_of_dig z) (below_drew1 HB.out) hge).mono ?_
  rintro e w' ⟨rfl, hI, hK, hB⟩
  have HI := Aside0.mk (show IsJ w w' b z from hI)
  have HK := Aside0.mk (show Kept w w' (fun k => k = b) from hK)
  have HBB := Aside0.mk hB
  clear hI hK hB HB HBK HD HL
  go_wp2
  go_ret
  exact ⟨rfl, HI.out, HK.out, HBB.out⟩
theorem IsQ.cells {w : World} {b : Nat} {n : Int} {d : Nat} (h : IsQ w b n d) : ∃ v u, w.cell? ⟨b, 0, none⟩ = some (.bool (decide (n < 0))) ∧ w.cell? ⟨b, 1, none⟩ = some v ∧ w.cell? ⟨b, 2, none⟩ = some u ∧ Dg w v (dig n.natAbs) ∧ Dg w u (dig d) := by
  obtain ⟨v, u, h1, h2, h3⟩ := h
  exact ⟨v, u, (blk_cell h1 0).trans rfl, (blk_cell h1 1).trans rfl, (blk_cell h1 2).trans rfl, h2, h3⟩
set_option maxHeartbeats 8000000 in
set_option maxRecDepth 100000 in
theorem num.calls (w : World) (a : Nat) (n : Int) (d : Nat) (h : IsQ w a n d) :
    Calls Try.prog 33 #[.pointer (some ⟨a, 0, none⟩)] w fun e w' => ∃ b, e = .returned (.pointer (some ⟨b, 0, none⟩)) ∧ IsJ w w' b n ∧ w.heap.size ≤ b ∧ Below w.heap.size w w' := by
  have HQ := Aside0.mk h
  clear h
  have hn : IsQ (w.alloc (.cells #[.bool false, .slice none 0 0] 41)) a n d := HQ.out.below (below_alloc (Below.refl _ _) _)
  obtain ⟨v, u, c0, c1, -, hv, -⟩ := hn.cells
  have C0 := Aside0.mk c0
  have C1 := Aside0.mk c1
  have HV := Aside0.mk hv
  clear c0 c1 hv hn
  go_enter Try.func33, Try.ntmps33
  go_wp2_with fail
  refine (set.calls w _ w.heap.size (.bool false) (.slice none 0 0) (blk_new w _) a v n C0.out C1.out HV.out (below_alloc (Below.refl _ _) _) (Nat.le_refl _)).mono ?_
  rintro e w' ⟨rfl, hI, hK, hB⟩
  obtain ⟨v', h1, h2, h3⟩ := hI
  have HI := Aside0.mk (show IsJ w w' w.heap.size n from ⟨v', h1, h2, h3.back (by decide)⟩)
  have HBB := Aside0.mk hB
  clear h1 h2 h3 hK hB HQ C0 C1 HV
  go_wp2
  go_ret
  exact ⟨_, rfl, HI.out, Nat.le_refl _, HBB.out⟩
theorem dig_len_zero (d : Nat) : (dig d).length = 0 ↔ d = 0 := by
  constructor
  · intro h
    by_cases h0 : d = 0
    · exact h0
    · rw [dig_pos d h0] at h; simp at h
  · rintro rfl; rw [dig_zero]; rfl
set_option maxHeartbeats 8000000 in
set_option maxRecDepth 100000 in
theorem denom.calls (w : World) (a : Nat) (n : Int) (d : Nat) (h : IsQ w a n d) (hd : d ≠ 0) :
    Calls Try.prog 35 #[.pointer (some ⟨a, 0, none⟩)] w fun e w' => ∃ b, e = .returned (.pointer (some ⟨b, 0, none⟩)) ∧ IsJ w w' b (d : Int) ∧ w.heap.size ≤ b ∧ Below w.heap.size w w' := by
  have HQ := Aside0.mk h
  obtain ⟨v, u, -, -, c2, -, hu⟩ := h.cells
  clear h
  have HU := Aside0.mk (hu.below (below_alloc (Below.refl _ w) (.cells #[.bool false, .slice none 0 0] 41)))
  obtain ⟨A, c, rfl, -, -, -⟩ := hu
  have hz : ((dig d).length == 0) = false := by
    have := dig_len_zero d
    rw [beq_eq_false_iff_ne]
    intro h
    exact hd (this.1 h)
  have hz' : (((dig d).length : Int) == 0) = false := by
    rw [beq_eq_false_iff_ne] at hz ⊢
    omega
  have hz2 : ¬ ((dig d).length = 0) := by simpa using hz
  have hz3 : ¬ (dig d = []) := fun e => hz2 (by rw [e]; rfl)
  have hw2 : (w.alloc (.cells #[.bool false, .slice none 0 0] 41)).cell? ⟨a, 2, none⟩ = some (.slice A (dig d).length c) := pw_cell_below (below_alloc (Below.refl _ _) _) c2
  go_enter Try.func35, Try.ntmps35
  go_wp2_with fail
  refine (putI.calls w _ w.heap.size (.bool false) (.slice none 0 0) (blk_new w _) false _ _ HU.out (inR_dig _) (d : Int) (by rw [vl_dig]; rfl) (below_alloc (Below.refl _ _) _) (Nat.le_refl _)).mono ?_
  rintro e w' ⟨rfl, hI, hK, hB⟩
  obtain ⟨v', h1, h2, h3⟩ := hI
  have HI := Aside0.mk (show IsJ w w' w.heap.size (d : Int) from ⟨v', h1, h2, h3.back (by decide)⟩)
  have HBB := Aside0.mk hB
  clear h1 h2 h3 hK hB HQ HU
  go_wp2
  go_ret
  exact ⟨_, rfl, HI.out, Nat.le_refl _, HBB.out⟩
set_option maxHeartbeats 8000000 in
set_option maxRecDepth 100000 in
theorem denom0.calls (w : World) (a : Nat) (n : Int) (h : IsQ w a n 0) :
    Calls Try.prog 35 #[.pointer (some ⟨a, 0, none⟩)] w fun e w' => ∃ b, e = .returned (.pointer (some ⟨b, 0, none⟩)) ∧ IsI w' b 1 ∧ w.heap.size ≤ b ∧ Below w.heap.size w w' := by
  obtain ⟨v, u, -, -, c2, -, hu⟩ := h.cells
  clear h
  obtain ⟨A, c, rfl, -, -, -⟩ := hu
  rw [dig_zero] at c2
  replace c2 : w.cell? ⟨a, 2, none⟩ = some (.slice A 0 c) := c2
  go_enter Try.func35, Try.ntmps35
  go_wp2_with fail
  refine (newInt.calls w 1 (by decide) (by decide)).mono ?_
  rintro e w' ⟨b, rfl, hI, hb, hB⟩
  have HI := Aside0.mk hI
  have HBB := Aside0.mk hB
  clear hI hB
  go_wp2
  go_ret
  exact ⟨_, rfl, HI.out, hb, HBB.out⟩
def den (d : Nat) : Nat := if d = 0 then 1 else d
theorem den_ne (d : Nat) : den d ≠ 0 := by unfold den; split <;> omega
theorem denI.calls (w : World) (a : Nat) (n : Int) (d : Nat) (h : IsQ w a n d) :
    Calls Try.prog 35 #[.pointer (some ⟨a, 0, none⟩)] w fun e w' => ∃ b, e = .returned (.pointer (some ⟨b, 0, none⟩)) ∧ IsI w' b (den d : Int) ∧ w.heap.size ≤ b ∧ Below w.heap.size w w' := by
  unfold den
  by_cases hd : d = 0
  · subst hd
    exact denom0.calls w a n h
  · rw [if_neg hd]
    refine (denom.calls w a n d h hd).mono ?_
    rintro e w' ⟨b, rfl, hI, hb, hB⟩
    exact ⟨b, rfl, hI.isI, hb, hB⟩
theorem numI.calls (w : World) (a : Nat) (n : Int) (d : Nat) (h : IsQ w a n d) :
    Calls Try.prog 33 #[.pointer (some ⟨a, 0, none⟩)] w fun e w' => ∃ b, e = .returned (.pointer (some ⟨b, 0, none⟩)) ∧ IsI w' b n ∧ w.heap.size ≤ b ∧ Below w.heap.size w w' := by
  refine (num.calls w a n d h).mono ?_
  rintro e w' ⟨b, rfl, hI, hb, hB⟩
  exact ⟨b, rfl, hI.isI, hb, hB⟩
end Go.Proofs.Ytmkjkcfmjfeheaa.QFnExactMeanDeuce
