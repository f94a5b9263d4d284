-- Written by a program of this session (wip/tools/gprint.sh) out of the translation, with some contracts given by hand.
import Derived.Test.YtolcneiniojdfaaQFnExactDropResultx0
import Derived.Lib.SliceRun
import Derived.Test.YtolcneiniojdfaaGDel
namespace Go.Proofs.Ytolcneiniojdfaa.QFnExactDropResult
open Go.RowKit Go.Proofs.YtolcneiniojdfaaW.PrintWords Go.Proofs.YtolcneiniojdfaaW.PrintLast Go.Proofs.YtolcneiniojdfaaW.PrintMore
attribute [local go_sem] max2_int min2_int max_two min_two max_three min_three max_four min_four   -- for this text's walks alone
set_option linter.unusedVariables false
set_option linter.unusedSimpArgs false

/-! ### impl_Result: function 69 -/
def slices_Clone.f (l0 : List (S51)) : Option ((List (S51))) := (some (([] : List (S51)) : List (S51))).bind fun y101 => (if y101.length + l0.length < 4398046511104 then (some (y101 ++ l0)) else (none))
theorem eql33_none (w : World) (n c n' c' : Nat) : (binOp .eql 33 (.slice none n c) (.slice none n' c')).run Try.prog w = .ok (.bool true) w := Lib.run_eql_slice_nil w _ _ none n c n' c' Try.underlying33
theorem eql33_some (w : World) (a : Addr) (n c n' c' : Nat) : (binOp .eql 33 (.slice (some a) n c) (.slice none n' c')).run Try.prog w = .ok (.bool false) w := Lib.run_eql_slice_nil w _ _ (some a) n c n' c' Try.underlying33
attribute [local go_sem] eql33_none eql33_some
set_option maxHeartbeats 8000000 in
set_option maxRecDepth 100000 in
theorem slices_Clone.calls (A0 : Option Addr) (c0 : Nat) (l0 : List (S51)) (r : List (S51)) (w : World) (hr0 : Kd.C k51 w A0 l0.length l0) (hc0 : l0.length ≤ c0) (h : slices_Clone.f l0 = some r) :
    Calls Try.prog 69 #[.slice A0 l0.length c0] w fun e w' => ∃ v0_ : Value, e = .returned (v0_) ∧ Kd.R k51 51 w' w.heap.size (fun _ => True) v0_ r ∧ Below w.heap.size w w' := by
  have HR0 := Aside0.mk hr0
  have HC0 := Aside0.mk hc0
  clear hr0 hc0
  have HB := Aside0.mk (Below.refl w.heap.size w)
  have H : ((some (([] : List (S51)) : List (S51))).bind fun y101 => (if y101.length + l0.length < 4398046511104 then (some (y101 ++ l0)) else (none))) = some r := h
  clear h
  obtain ⟨y101, hy101⟩ : ∃ y_ : List (S51), y_ = (([] : List (S51))) := ⟨_, rfl⟩
  replace H : (if y101.length + l0.length < 4398046511104 then (some (y101 ++ l0)) else (none)) = some r := by first | (rw [hy101]; with_reducible exact H) | (have H2_ := (Option.bind_some _ _).symm.trans H; rw [hy101]; with_reducible exact H2_) | (have H2_ := (Option.bind_some _ _).symm.trans H; with_reducible exact H2_) | with_reducible exact H | (rw [hy101]; exact H) | exact H
  have Ny101 := Aside0.mk hy101
  clear hy101
  by_cases c2 : y101.length + l0.length < 4398046511104
  · rw [if_pos c2] at H
    have LMc2 := Aside0.mk c2
    clear c2
    obtain ⟨y104, hy104⟩ : ∃ y_ : List (S51), y_ = (y101 ++ l0) := ⟨_, rfl⟩
    replace H : (some y104) = some r := by first | (rw [hy104]; with_reducible exact H) | (have H2_ := (Option.bind_some _ _).symm.trans H; rw [hy104]; with_reducible exact H2_) | (have H2_ := (Option.bind_some _ _).symm.trans H; with_reducible exact H2_) | with_reducible exact H | (rw [hy104]; exact H) | exact H
    have Ny104 := Aside0.mk hy104
    clear hy104
    obtain rfl := Option.some.inj H
    cases A0 with
    | none =>
      have hl : l0 = [] := by
        by_cases h0 : 0 < l0.length
        · obtain ⟨ad, he, _⟩ := HR0.out.2.2 h0
          exact absurd he (by simp)
        · exact List.eq_nil_of_length_eq_zero (by omega)
      subst hl
      go_enter Try.func69, Try.ntmps69
      go_wp2
      go_ret
      refine ⟨_, rfl, ?_, HB.out⟩
      rw [Ny104.out, Ny101.out]
      exact Kd.R_nil _ _ _ _ _
    | some A0x =>
      go_enter Try.func69, Try.ntmps69
      go_wp2_with (first | ((with_reducible refine gate_dst (N := 5) rfl ?_); refine Kd.R_lit k51 _ 51 ?hg (N := 5) ?hd (xs := ([] : List (S51))) (inner := []) (ok := fun _ => True) (okp := fun _ => True) ?hr ?hp (fun _ hk => hk) trivial (Below.refl _ _) (Nat.le_refl _) (by simp) ?_; (case hd => rfl); (case hg => rfl); (case hr => first | (go_simp; done) | (go_simp; rfl)); (case hp => exact (Reps.none _ _)); intro v102 w3 ho4 hb hg_ hnew_; clear hg_ hnew_; (first | rw [← Ny101.out] at ho4 | (simp only [Int.reduceToNat] at ho4; rw [← Ny101.out] at ho4)); have n0_ := Aside0.mk (Kd.R_lower ho4 (below_size (by repeat (first | (with_reducible first | exact HB.out | apply below_alloc | apply pw_below_drewN | apply below_drew1) | exact HB.out)))); have n1_ := Aside0.mk (below_step (by repeat (first | (with_reducible first | exact HB.out | apply below_alloc | apply pw_below_drewN | apply below_drew1) | exact HB.out)) hb); clear HB; have HO103 := n0_; have HB := n1_; clear n0_ n1_; clear hb ho4) | ((with_reducible refine gate_builtin (b := .append) (xs := #[.tmp 5, .tmp 6]) rfl ?_); at_builtin; refine Kd.R_append_rows k51 (w0 := w) w.heap.size rfl (.tmp 5) (.tmp 6) 33 51 (.agg #[(.int .i64 0), (.int .i64 0), (.int .i64 0), (.int .i64 0)]) 32 rfl Try.underlying33 info51 rfl (by decide) (by omega) v102 y101 l0 _ _ _ (fun _ => True) (fun _ => False) rfl rfl ?aO ?aR (fun _ _ h => h) (fun _ h => h.elim) ?aF ?aB ?aS ?aL ?_; (case aR => repeat (first | exact (Kd.C_below HR0.out HB.out) | (with_reducible refine Kd.C_alloc ?_ _) | (with_reducible refine Kd.C_drewN ?_ _) | (with_reducible refine Kd.C_drew ?_))); (case aB => exact (by repeat (first | (with_reducible first | exact HB.out | apply below_alloc | apply pw_below_drewN | apply below_drew1) | exact HB.out))); (case aF => exact (fun _ _ => trivial)); (case aO => exact (by (with_reducible repeat (first | apply Kd.R_alloc | apply Kd.R_drewN | apply Kd.R_drew)); exact HO103.out)); (case aS => exact (below_size (by repeat (first | (with_reducible first | exact HB.out | apply below_alloc | apply pw_below_drewN | apply below_drew1) | exact HB.out)))); (case aL => have := LMc2.out; omega); intro v105 w5 ho hb hg hat; rw [← Ny104.out] at ho; have n0_ := Aside0.mk (hb); have n1_ := Aside0.mk (ho); clear HB; clear HO103; have HB := n0_; have HO106 := n1_; clear n0_ n1_; clear ho hb hg hat))
      go_ret
      exact ⟨_, by first | rfl | (simp [errW_none, errW_some] <;> rfl) | (simp [*, errW_none, errW_some] <;> rfl), by (with_reducible repeat (first | apply Kd.R_alloc | apply Kd.R_drewN | apply Kd.R_drew)); exact HO106.out, by repeat (first | (with_reducible first | exact HB.out | apply below_alloc | apply pw_below_drewN | apply below_drew1) | exact HB.out)⟩
  · rw [if_neg c2] at H
    exact absurd H (by simp)


/-- A row without the elements from i to j. -/
def dropAt.f (l0 : List (S51)) (a1 : Int) (a2 : Int) : Option (List (S51)) := if 0 ≤ a1 ∧ a1 < a2 ∧ a2 ≤ (l0.length : Int) ∧ l0.length < 4398046511104 then some (l0.take a1.toNat ++ l0.drop a2.toNat) else none
theorem dropAt_clone {l r : List S51} {i j : Int} (h : dropAt.f l i j = some r) : slices_Clone.f l = some l := by
  unfold dropAt.f at h
  split at h
  · unfold slices_Clone.f
    rw [Option.bind_some, if_pos (by simp; omega)]
    rfl
  · cases h
theorem chunk_one {w : World} {base : Nat} {ok : Nat → Prop} {l : List S51} {inner : List Value} (h : Reps (k51.M w base ok) 4 l inner) : ∀ u ∈ inner, u.oneCell' = true := by
  intro u hu
  obtain ⟨p, hp, rfl⟩ := List.getElem_of_mem hu
  have hl := h.1
  have hj : p / 4 < l.length := by omega
  have hm := k51_openM (h.2 (p / 4) l[p / 4] (List.getElem?_eq_getElem hj))
  have hin : inner[p] ∈ (inner.drop (p / 4 * 4)).take 4 := by
    refine List.mem_of_getElem? (i := p % 4) ?_
    rw [List.getElem?_take, if_pos (by omega), List.getElem?_drop, show p / 4 * 4 + p % 4 = p by omega, List.getElem?_eq_getElem hp]
  rw [hm] at hin
  simp only [List.mem_cons, List.not_mem_nil, or_false] at hin
  rcases hin with e | e | e | e <;> rw [e] <;> rfl
theorem dropAt_delete {w : World} {base : Nat} {ok : Nat → Prop} {v : Value} {l r : List S51} {i j : Int} (ho : Kd.R k51 51 w base ok v l) (h : dropAt.f l i j = some r) :
    Calls Try.prog 72 #[v, .int .i64 i, .int .i64 j] w fun e w' => ∃ v0_ : Value, e = .returned v0_ ∧ Kd.R k51 51 w' base (fun _ => True) v0_ r ∧ w.grownBy w' v.ownBlock ∧ Below base w w' := by
  unfold dropAt.f at h
  split at h
  · rename_i hc
    obtain rfl := Option.some.inj h
    obtain ⟨c1, c2, c3, c4⟩ := hc
    obtain ⟨i, rfl⟩ := Int.eq_ofNat_of_zero_le c1
    obtain ⟨j, rfl⟩ := Int.eq_ofNat_of_zero_le (show 0 ≤ j by omega)
    obtain ⟨_, inner, hown, hreps⟩ := ho
    obtain ⟨hlen, hown⟩ := hown
    have hlen2 : inner.length = l.length * 4 := hlen
    rcases hown with ⟨rfl, hn⟩ | ⟨g, cap, cur, rfl, hb, hh, hnc, hcm, hsz, htk⟩
    · omega
    · have htk2 : cur.toList.take (l.length * 4) = inner := htk
      have hd := GDel.delete_run g cap l.length i j cur w hh hnc hcm hsz (by rw [htk2]; exact chunk_one hreps) (by omega) (by omega)
      refine hd.mono ?_
      rintro e w' ⟨rfl, c2, rfl, hs2, ht2⟩
      have hlr : (l.take (i : Int).toNat ++ l.drop (j : Int).toNat).length = i + (l.length - j) := by simp; omega
      have hti : cur.toList.take (i * 4) = inner.take (i * 4) := by rw [← htk2, List.take_take, Nat.min_eq_left (by omega)]
      rw [htk2, hti] at ht2
      have hc4 : (i + (l.length - j)) * 4 = i * 4 + (inner.length - j * 4) := by omega
      refine ⟨_, rfl, ⟨fun _ _ => trivial, inner.take (i * 4) ++ inner.drop (j * 4), ?_, ?_⟩, ?_, ?_⟩
      · rw [hlr]
        refine ⟨?_, .inr ⟨g, cap, c2, rfl, hb, setRow_heap w.drew g cur c2 51 (0, 0) hh, by omega, hcm, hs2, ht2⟩⟩
        show _ = (i + (l.length - j)) * 4
        rw [hc4]
        simp
        omega
      · refine ⟨?_, fun t p hp => ?_⟩
        · rw [hlr]
          show _ = (i + (l.length - j)) * 4
          rw [hc4]
          simp
          omega
        · have hmk : ∀ cs, k51.M w base (fun k => ok k ∧ some k ≠ (Value.slice (some ⟨g, 0, none⟩) l.length cap).ownBlock) p cs → cs = [.int .i64 p.f0, .int .i64 p.f1, .int .i64 p.f2, .int .i64 p.f3] := fun cs h => k51_openM h
          rw [Int.toNat_natCast, Int.toNat_natCast] at hp
          have hsz4 : k51.sz = 4 := rfl
          suffices hs : ((inner.take (i * 4) ++ inner.drop (j * 4)).drop (t * k51.sz)).take k51.sz = [.int .i64 p.f0, .int .i64 p.f1, .int .i64 p.f2, .int .i64 p.f3] by
            rw [hs]
            exact k51_mkM _ _ _ p
          rw [hsz4]
          by_cases ht : t < i
          · rw [List.getElem?_append_left (by simp; omega), List.getElem?_take, if_pos ht] at hp
            have := hmk _ (hreps.2 t p hp)
            rw [List.drop_append_of_le_length (by simp; omega), List.take_append_of_le_length (by simp; omega), List.drop_take, List.take_take, Nat.min_eq_left (by omega)]
            exact this
          · have hli : (l.take i).length = i := by simp; omega
            have hii : (inner.take (i * 4)).length = i * 4 := by simp; omega
            rw [List.getElem?_append_right (by omega), hli, List.getElem?_drop] at hp
            have := hmk _ (hreps.2 _ p hp)
            rw [List.drop_append, hii, List.drop_of_length_le (by omega), List.nil_append, List.drop_drop]
            rw [hsz4] at this
            rw [show j * 4 + (t * 4 - i * 4) = (j + (t - i)) * 4 by omega]
            exact this
      · exact ⟨rfl, rfl, rfl, Nat.le_of_eq (size_setRow w.drew g c2).symm, fun k _ hk => (setRow_other w.drew g k c2 (fun e => hk (by rw [e]; rfl))).trans rfl⟩
      · exact ⟨rfl, rfl, rfl, Nat.le_of_eq (size_setRow w.drew g c2).symm, fun k hk => (setRow_other w.drew g k c2 (by omega)).trans rfl⟩
  · cases h

end Go.Proofs.Ytolcneiniojdfaa.QFnExactDropResult
