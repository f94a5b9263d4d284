/- Digits of 32 bits that are only read; a whole number in a block; impl's exactInt.put walked. -/
import Derived.Test.YtmkjkcfmjfeheaaQFnExactMeanDeucex1
import Derived.Test.YtmkjkcfmjfeheaaQFnExactMeanDeucex2
import Derived.Test.YtmkjkcfmjfeheaaQFnExactMeanDeucex3
namespace Go.Proofs.Ytmkjkcfmjfeheaa.QFnExactMeanDeuce
open Go.RowKit Go.Proofs.YtmkjkcfmjfeheaaW.PrintWords Go.Proofs.YtmkjkcfmjfeheaaW.PrintLast Go.Proofs.YtmkjkcfmjfeheaaW.PrintMore
set_option linter.unusedVariables false
set_option linter.unusedSimpArgs false

/-! ### the plain side: digits -/
def vl : List Int → Int
  | [] => 0
  | d :: ds => d + 4294967296 * vl ds
def inR (ds : List Int) : Prop := ∀ d ∈ ds, 0 ≤ d ∧ d < 4294967296
def dig (n : Nat) : List Int := if h : n = 0 then [] else ((n % 4294967296 : Nat) : Int) :: dig (n / 4294967296)
termination_by n
decreasing_by omega
theorem dig_zero : dig 0 = [] := by rw [dig.eq_def]; simp
theorem dig_pos (n : Nat) (h : n ≠ 0) : dig n = ((n % 4294967296 : Nat) : Int) :: dig (n / 4294967296) := by rw [dig.eq_def]; simp [h]
theorem vl_dig (n : Nat) : vl (dig n) = n := by
  induction n using Nat.strongRecOn with
  | _ n ih =>
    by_cases h : n = 0
    · subst h; rw [dig_zero]; rfl
    · rw [dig_pos n h]
      show ((n % 4294967296 : Nat) : Int) + 4294967296 * vl (dig (n / 4294967296)) = n
      rw [ih (n / 4294967296) (by omega)]
      omega
theorem inR_dig (n : Nat) : inR (dig n) := by
  induction n using Nat.strongRecOn with
  | _ n ih =>
    by_cases h : n = 0
    · subst h; rw [dig_zero]; intro d hd; cases hd
    · rw [dig_pos n h]
      intro d hd
      rcases List.mem_cons.1 hd with e | e
      · subst e; omega
      · exact ih (n / 4294967296) (by omega) d e
theorem inR_cons {d : Int} {ds : List Int} (h : inR (d :: ds)) : (0 ≤ d ∧ d < 4294967296) ∧ inR ds := ⟨h d List.mem_cons_self, fun x hx => h x (List.mem_cons_of_mem _ hx)⟩
theorem vl_nonneg : ∀ {ds : List Int}, inR ds → 0 ≤ vl ds
  | [], _ => Int.le_refl 0
  | d :: ds, h => by
    have := vl_nonneg (inR_cons h).2
    have := (inR_cons h).1
    show 0 ≤ d + 4294967296 * vl ds
    omega
theorem vl_append (xs ys : List Int) : vl (xs ++ ys) = vl xs + 4294967296 ^ xs.length * vl ys := by
  induction xs with
  | nil => simp [vl]
  | cons d xs ih => simp only [List.cons_append, vl, ih, List.length_cons]; rw [Int.pow_succ, Int.mul_add, Int.add_assoc, Int.mul_comm (4294967296 ^ xs.length) 4294967296, Int.mul_assoc]
/-- no last digit is 0 -/
def canon (ds : List Int) : Prop := inR ds ∧ ∀ xs x, ds = xs ++ [x] → x ≠ 0
theorem canon_tail {d : Int} {ds : List Int} (h : canon (d :: ds)) : canon ds := ⟨(inR_cons h.1).2, fun xs x e => h.2 (d :: xs) x (by rw [e]; rfl)⟩
theorem canon_pos : ∀ {ds : List Int}, canon ds → ds ≠ [] → 0 < vl ds
  | [], _, h => absurd rfl h
  | d :: ds, h, _ => by
    have h0 := (inR_cons h.1).1
    have hn := vl_nonneg (inR_cons h.1).2
    show 0 < d + 4294967296 * vl ds
    cases ds with
    | nil =>
      have := h.2 [] d rfl
      simp only [vl]
      omega
    | cons e es =>
      have := canon_pos (canon_tail h) (by simp)
      omega
theorem canon_dig : ∀ {ds : List Int}, canon ds → ds = dig (vl ds).toNat
  | [], _ => by simp [vl, dig_zero]
  | d :: ds, h => by
    have hp := canon_pos h (by simp)
    have h0 := (inR_cons h.1).1
    have hn := vl_nonneg (inR_cons h.1).2
    have e : vl (d :: ds) = d + 4294967296 * vl ds := rfl
    rw [dig_pos _ (by omega), e]
    have e1 : ((d + 4294967296 * vl ds).toNat % 4294967296 : Nat) = d.toNat := by omega
    have e2 : (d + 4294967296 * vl ds).toNat / 4294967296 = (vl ds).toNat := by omega
    rw [e1, e2, ← canon_dig (canon_tail h)]
    congr 1
    omega

/-! ### digits in memory: a row of []uint32 that nobody writes -/
def Dg (w : World) (v : Value) (ds : List Int) : Prop := ∃ A c, v = .slice A ds.length c ∧ ds.length ≤ c ∧ Kd.C (Kd.int .u32) w A ds.length ds ∧ ∀ ad, A = some ad → 0 < ds.length → ∃ cells, w.heap[ad.block]? = some (.cells cells 61 (0, 0))
/-- what may be written: no block of digits -/
def NoDg (w : World) (S : Nat → Prop) : Prop := ∀ k cells, S k → w.heap[k]? ≠ some (.cells cells 61 (0, 0))
theorem Dg.kept {w w' : World} {S : Nat → Prop} {v : Value} {ds : List Int} (h : Dg w v ds) (hk : Kept w w' S) (hS : NoDg w S) : Dg w' v ds := by
  obtain ⟨A, c, rfl, hc, hC, ht⟩ := h
  refine ⟨A, c, rfl, hc, ?_, fun ad ha hp => ?_⟩
  · refine Kd.C_foot_neS (fun h => h) hC (fun ad ha hp hs => ?_) w' hk
    obtain ⟨cells, hcell⟩ := ht ad ha hp
    exact hS _ _ hs hcell
  · obtain ⟨cells, hcell⟩ := ht ad ha hp
    exact ⟨cells, blk_kept hcell hk (fun hs => hS _ _ hs hcell)⟩
theorem Dg.below {w w' : World} {v : Value} {ds : List Int} (h : Dg w v ds) (hb : Below w.heap.size w w') : Dg w' v ds := h.kept (Kept.of_below hb (fun _ => False)) (fun _ _ hk => hk.elim)
theorem Dg.nil (w : World) : Dg w (.slice none 0 0) [] := ⟨none, 0, rfl, Nat.le_refl _, Kd.C_nil _ _, fun _ h => by cases h⟩
theorem Dg.empty {w : World} {A : Option Addr} {c : Nat} : Dg w (.slice A 0 c) [] := ⟨A, c, rfl, Nat.zero_le _, ⟨rfl, by simp, fun h => absurd h (Nat.lt_irrefl 0)⟩, fun _ _ h => absurd h (Nat.lt_irrefl 0)⟩
/-- a row of one's own, as digits -/
theorem Dg.of_R {w : World} {base : Nat} {ok : Nat → Prop} {v : Value} {ds : List Int} (h : Kd.R (Kd.int .u32) 61 w base ok v ds) : Dg w v ds := by
  obtain ⟨A, c, rfl⟩ := own_slice h.2.choose_spec.1
  obtain ⟨_, h2, h3⟩ := Kd.R_reads' h
  exact ⟨A, c, rfl, h2, h3, fun ad ha hp => Kd.R_typed h ad.block (by rw [ha]; rfl)⟩
theorem Dg.take {w : World} {A : Option Addr} {c m : Nat} {ds : List Int} (h : Dg w (.slice A ds.length c) ds) (hm : m ≤ ds.length) : Dg w (.slice A (ds.take m).length c) (ds.take m) := by
  obtain ⟨A', c', e, hc, hC, ht⟩ := h
  injection e with e1 e2 e3
  subst e1 e3
  refine ⟨A, c, rfl, ?_, Kd.C_take hC hm, fun ad ha hp => ht ad ha ?_⟩
  · rw [List.length_take]; omega
  · rw [List.length_take] at hp; omega

theorem Dg.front {w : World} {A : Option Addr} {c : Nat} {ys : List Int} {z : Int} (h : Dg w (.slice A (ys.length + 1) c) (ys ++ [z])) : Dg w (.slice A ys.length c) ys := by
  have hl : (ys ++ [z]).length = ys.length + 1 := by simp
  rw [← hl] at h
  have := Dg.take (m := ys.length) h (by rw [hl]; omega)
  simpa using this

/-- a whole number in a block -/
def IsI (w : World) (b : Nat) (z : Int) : Prop := ∃ v, w.heap[b]? = some (.cells #[.bool (decide (z < 0)), v] 41 (0, 0)) ∧ Dg w v (dig z.natAbs)
theorem IsI.kept {w w' : World} {S : Nat → Prop} {b : Nat} {z : Int} (h : IsI w b z) (hk : Kept w w' S) (hS : NoDg w S) (hb : ¬ S b) : IsI w' b z := by
  obtain ⟨v, h1, h2⟩ := h
  exact ⟨v, blk_kept h1 hk hb, h2.kept hk hS⟩
theorem IsI.below {w w' : World} {b : Nat} {z : Int} (h : IsI w b z) (hb : Below w.heap.size w w') : IsI w' b z := h.kept (Kept.of_below hb (fun _ => False)) (fun _ _ hk => hk.elim) (fun hk => hk)
/-- .. whose digits were there before -/
def IsJ (w0 w : World) (b : Nat) (z : Int) : Prop := ∃ v, w.heap[b]? = some (.cells #[.bool (decide (z < 0)), v] 41 (0, 0)) ∧ Dg w v (dig z.natAbs) ∧ Dg w0 v (dig z.natAbs)
theorem IsJ.isI {w0 w : World} {b : Nat} {z : Int} (h : IsJ w0 w b z) : IsI w b z := by
  obtain ⟨v, h1, h2, h3⟩ := h
  exact ⟨v, h1, h2⟩
theorem noDg_one {w : World} {b t : Nat} {cs : Array Value} {f : Nat × Nat} (h : w.heap[b]? = some (.cells cs t f)) (ht : t ≠ 61) : NoDg w (fun k => k = b) := by
  intro k cells hk hc
  subst hk
  rw [h] at hc
  injection hc with hc
  injection hc with _ hc
  exact ht hc
theorem rd_last (xs : List Int) (x : Int) : rd (xs ++ [x]) (xs.length : Int) = x := by simp [rd]
theorem heap_two {w : World} {b t : Nat} {x y : Value} {rest : List Value} (h : w.heap[b]? = some (.cells (x :: y :: rest).toArray t (0, 0))) (u v : Value) :
    ((w.setCell ⟨b, 0, none⟩ u).setCell ⟨b, 1, none⟩ v).heap[b]? = some (.cells (u :: v :: rest).toArray t (0, 0)) := by
  have h1 := blk_set h 0 u
  have h2 := blk_set h1 1 v
  simpa using h2
theorem cells_two {w : World} {b t : Nat} {x y : Value} {rest : List Value} (h : w.heap[b]? = some (.cells (x :: y :: rest).toArray t (0, 0))) :
    w.cell? ⟨b, 0, none⟩ = some x ∧ w.cell? ⟨b, 1, none⟩ = some y ∧ w.frozen? ⟨b, 0, none⟩ = false ∧ w.frozen? ⟨b, 1, none⟩ = false := by
  refine ⟨?_, ?_, blk_frozen h 0, blk_frozen h 1⟩
  · rw [blk_cell h 0]; simp
  · rw [blk_cell h 1]; simp
theorem put_end {w0 w : World} {b t : Nat} {x y : Value} {rest : List Value} (hB : Below w0.heap.size w0 w) (hb : w.heap[b]? = some (.cells (x :: y :: rest).toArray t (0, 0))) (ht : t ≠ 61) (hge : w0.heap.size ≤ b)
    (l : Bool) {u : Value} {ds : List Int} (hd : Dg w u ds) : ((w.setCell ⟨b, 0, none⟩ (.bool l)).setCell ⟨b, 1, none⟩ u).heap[b]? = some (.cells (.bool l :: u :: rest).toArray t (0, 0)) ∧
      Dg ((w.setCell ⟨b, 0, none⟩ (.bool l)).setCell ⟨b, 1, none⟩ u) u ds ∧ Kept w ((w.setCell ⟨b, 0, none⟩ (.bool l)).setCell ⟨b, 1, none⟩ u) (fun k => k = b) ∧
      Below w0.heap.size w0 ((w.setCell ⟨b, 0, none⟩ (.bool l)).setCell ⟨b, 1, none⟩ u) ∧ ((w.setCell ⟨b, 0, none⟩ (.bool l)).setCell ⟨b, 1, none⟩ u).heap.size = w.heap.size := by
  have hk0 : Kept w (w.setCell ⟨b, 0, none⟩ (.bool l)) (fun k => k = b) := (Kept.refl w (fun k => k = b)).setCell (p := ⟨b, 0, none⟩) (Or.inl rfl) (.bool l)
  have hk : Kept w ((w.setCell ⟨b, 0, none⟩ (.bool l)).setCell ⟨b, 1, none⟩ u) (fun k => k = b) := hk0.setCell (p := ⟨b, 1, none⟩) (Or.inl rfl) u
  have h1 := hB.setCell (p := ⟨b, 0, none⟩) hge (.bool l)
  have h2 := h1.setCell (p := ⟨b, 1, none⟩) hge u
  have h3 : ((w.setCell ⟨b, 0, none⟩ (.bool l)).setCell ⟨b, 1, none⟩ u).heap.size = w.heap.size := by simp [World.setCell]
  exact ⟨heap_two hb _ _, hd.kept hk (noDg_one hb ht), hk, h2, h3⟩
set_option maxHeartbeats 8000000 in
set_option maxRecDepth 100000 in
theorem put.calls (w0 w : World) (b t : Nat) (x y : Value) (rest : List Value) (hb : w.heap[b]? = some (.cells (x :: y :: rest).toArray t (0, 0))) (less : Bool) (v : Value) (ds : List Int) (hd : Dg w v ds) (hr : inR ds) (ht : t ≠ 61)
    (hB : Below w0.heap.size w0 w) (hge : w0.heap.size ≤ b) :
    Calls Try.prog 42 #[.pointer (some ⟨b, 0, none⟩), .bool less, v] w fun e w' => e = .returned (.pointer (some ⟨b, 0, none⟩)) ∧
      ∃ v', w'.heap[b]? = some (.cells (.bool (less && decide (vl ds ≠ 0)) :: v' :: rest).toArray t (0, 0)) ∧ Dg w' v' (dig (vl ds).toNat) ∧ Kept w w' (fun k => k = b) ∧ Below w0.heap.size w0 w' ∧ w'.heap.size = w.heap.size ∧ Dg w v' (dig (vl ds).toNat) := by
  obtain ⟨hx, hy, hfx, hfy⟩ := cells_two hb
  have HB := Aside0.mk hB
  have HBK := Aside0.mk hb
  have HD := Aside0.mk hd
  have HR := Aside0.mk hr
  clear hB hb hd hr
  go_enter Try.func42, Try.ntmps42
  go_wp2
  go_loopg [2] ds.length (fun kq v2 w' => ∃ (xs : List Int), Aside0 (xs.length = kq) ∧ Aside0 (Dg w v2 xs) ∧ Aside0 (inR xs) ∧ Aside0 (vl xs = vl ds) ∧ w' = w)
  case atStart => exact ⟨ds, ⟨rfl⟩, HD, HR, ⟨rfl⟩, rfl⟩
  case round =>
    obtain ⟨xs, hk, hD, hR, hV, rfl⟩ := hrel
    rcases List.eq_nil_or_concat xs with rfl | ⟨ys, z, exs⟩
    · obtain ⟨A, c, rfl, -, -, -⟩ := hD.out
      have hv0 : vl ds = 0 := hV.out.symm
      have HV0 := Aside0.mk hv0
      have hdec : decide (vl ds ≠ 0) = false := by rw [hv0]; rfl
      clear hV hv0
      go_wp2
      all_goals
        go_ret
        have h := put_end HB.out HBK.out ht hge false hD.out
        rw [HV0.out]
        refine ⟨rfl, .slice A 0 c, ?_, ?_, h.2.2.1, h.2.2.2.1, h.2.2.2.2, ?_⟩
        · simpa using h.1
        · simpa [dig_zero] using h.2.1
        · simpa [dig_zero] using hD.out
    · rw [List.concat_eq_append] at exs
      subst exs
      obtain ⟨A, c, hv, hc, hC, -⟩ := hD.out
      have hl : (ys ++ [z]).length = ys.length + 1 := by simp
      rw [hl] at hv hc hC
      have hm := Kd.C_max hC
      obtain ⟨ad, rfl, hcell⟩ := Kd.at_int hC (ys.length : Int) (by omega) (by omega)
      rw [rd_last, Int.toNat_natCast] at hcell
      subst hv
      have hw1 : IntKind.i64.wrap ((ys.length : Int) + 1 - 1) = (ys.length : Int) := by rw [i64_w]; unfold wrap64; omega
      have hp : (0 : Int) < (ys.length : Int) + 1 := by omega
      have HV := hV
      have HRX := hR
      have HDX := hD
      have HL := Aside0.mk hl
      clear hD hC hl hV hR
      by_cases hz : z = 0
      · have hz1 : (z == 0) = true := by rw [hz]; rfl
        have hv1 : vl ys = vl ds := by rw [← HV.out, vl_append, hz]; simp [vl]
        have HVV := Aside0.mk hv1
        clear hv1
        go_wp2
        go_roundg ys.length
        case measure => have := hk.out; simp at this; omega
        case rel => exact ⟨ys, ⟨rfl⟩, ⟨Dg.front HDX.out⟩, ⟨fun d hd => HRX.out d (List.mem_append_left _ hd)⟩, HVV, rfl⟩
      · have hz1 : (z == 0) = false := by simp [hz]
        have hcan : canon (ys ++ [z]) := ⟨HRX.out, fun xs x e => by
          have := (List.append_inj' e rfl).2
          rw [← List.cons.inj this |>.1]
          exact hz⟩
        have hpos : vl ds ≠ 0 := by
          have := canon_pos hcan (by simp)
          rw [HV.out] at this
          omega
        have hdig := canon_dig hcan
        rw [HV.out] at hdig
        have HN := Aside0.mk hpos
        have HG := Aside0.mk hdig
        clear hpos hdig hcan
        cases less
        · go_wp2
          go_ret
          have h := put_end HB.out HBK.out ht hge false HDX.out
          refine ⟨rfl, .slice (some ad) (ys.length + 1) c, ?_, ?_, h.2.2.1, h.2.2.2.1, h.2.2.2.2, by rw [← HG.out]; exact HDX.out⟩
          rotate_left
          · rw [← HG.out]; exact h.2.1
          · simpa using h.1
        · go_wp2
          go_ret
          have h := put_end HB.out HBK.out ht hge true HDX.out
          refine ⟨rfl, .slice (some ad) (ys.length + 1) c, ?_, ?_, h.2.2.1, h.2.2.2.1, h.2.2.2.2, by rw [← HG.out]; exact HDX.out⟩
          rotate_left
          · rw [← HG.out]; exact h.2.1
          · have hd1 : decide (vl ds ≠ 0) = true := decide_eq_true HN.out
            rw [hd1]
            exact h.1
end Go.Proofs.Ytmkjkcfmjfeheaa.QFnExactMeanDeuce
