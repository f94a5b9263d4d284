/- impl.RoundsFor, walked: the rounds' rows lie apart. -/
import Derived.Test.YtpaffojjkkmnlaaPFnExactRoundsForx2
import Derived.Test.YtpaffojjkkmnlaaGS3
namespace Go.Proofs.Ytpaffojjkkmnlaa.PFnExactRoundsFor
open Go.RowKit Go.Proofs.YtpaffojjkkmnlaaW.PrintWords Go.Proofs.YtpaffojjkkmnlaaW.PrintLast Go.Proofs.YtpaffojjkkmnlaaW.PrintMore
set_option linter.unusedVariables false
set_option linter.unusedSimpArgs false
def gameF (last r : Int) : List Int := if r % 2 = 1 then [r, last] else [last, r]
def gameK (last r k : Int) : List Int := [Int.tmod (wrap64 (r + k)) last, Int.tmod (wrap64 (wrap64 (r - k) + last)) last]
def roundK (last r : Int) (n : Nat) : List (List Int) := gameF last r :: (List.range n).map fun (i : Nat) => gameK last r ((i + 1 : Nat) : Int)
def roundsK (last : Int) (h : Nat) (n : Nat) : List (List (List Int)) := (List.range n).map fun (r : Nat) => roundK last (r : Int) h
theorem roundK_succ (last r : Int) (n : Nat) : roundK last r (n + 1) = roundK last r n ++ [gameK last r ((n + 1 : Nat) : Int)] := by
  unfold roundK
  rw [List.range_succ, List.map_append]
  rfl
theorem roundsK_succ (last : Int) (h n : Nat) : roundsK last h (n + 1) = roundsK last h n ++ [roundK last (n : Int) h] := by
  unfold roundsK
  rw [List.range_succ, List.map_append]
  rfl
theorem roundK_len (last r : Int) (n : Nat) : (roundK last r n).length = n + 1 := by unfold roundK; simp
theorem roundsK_len (last : Int) (h n : Nat) : (roundsK last h n).length = n := by unfold roundsK; simp
theorem one_at {α : Type} {x y : α} {j : Nat} (h : ([x] : List α)[j]? = some y) : j = 0 ∧ x = y := by
  cases j with
  | zero => exact ⟨rfl, Option.some.inj h⟩
  | succ j => simp at h
set_option maxHeartbeats 8000000 in
set_option maxRecDepth 100000 in
theorem impl_RoundsFor.callsS (a0 : Int) (n h : Nat) (ha : a0 = 2 * ((h + 1 : Nat) : Int)) (hh : h < 4) (hn : wrap64 (a0 - 1) = (n : Int)) (w : World) :
    Calls Try.prog 5 #[.int .i64 a0] w fun e w' => ∃ v0_ : Value, e = .returned (.tuple #[v0_, .bool true]) ∧ Kd.S (S3.apart 29 (Kd.slice 3 (Kd.int .i64))) 30 w' w.heap.size (fun _ => True) v0_ (roundsK (wrap64 (a0 - 1)) h n) ∧ Below w.heap.size w w' := by
  have hw : impl_within.f a0 2 8 = some true := by
    unfold impl_within.f
    rw [if_pos (by omega)]
    simp only [Option.some.injEq, decide_eq_true_eq]
    omega
  have hm : Int.tmod a0 2 = 0 := by rw [ha]; exact Int.mul_tmod_right 2 _
  have hmb : (Int.tmod a0 2 != 0) = false := by rw [hm]; rfl
  have hmc : (Int.tmod a0 2 == 0) = true := by rw [hm]; rfl
  have HA := Aside0.mk ha
  have HH := Aside0.mk hh
  have HN := Aside0.mk hn
  have HW := Aside0.mk hw
  have h0 : n = 2 * h + 1 := by
    have : wrap64 (a0 - 1) = a0 - 1 := by unfold wrap64; omega
    omega
  have HNH := Aside0.mk h0
  have hdv : wrap64 (Int.tdiv a0 2) = ((h + 1 : Nat) : Int) := by
    have : Int.tdiv a0 2 = ((h + 1 : Nat) : Int) := by rw [ha]; exact Int.mul_tdiv_cancel_left _ (by decide)
    rw [this]; unfold wrap64; omega
  have HDV := Aside0.mk hdv
  have hz : (wrap64 (a0 - 1) == 0) = false := beq_eq_false_iff_ne.2 (by omega)
  have hz2 : (wrap64 (a0 - 1) = 0) = False := eq_false (by omega)
  have HB := Aside0.mk (Below.refl w.heap.size w)
  clear ha hh hn hw hm h0 hdv
  go_enter Try.func5, Try.ntmps5
  go_wp2_with (first
    | (go_at_call 10; (with_reducible refine (impl_within.calls a0 2 8 true _ HW.out).mono ?_); rintro e w' ⟨rfl, ⟨nd, rfl⟩⟩)
    | ((with_reducible refine gate_dst (N := 20) rfl ?_); refine Kd.S_lit (S3.apart 29 (Kd.slice 3 (Kd.int .i64))) _ 30 ?hg (N := 20) ?hd (xs := ([] : List (List (List Int)))) (inner := []) (ok := fun _ => True) (okp := fun _ => True) ?hr ?hp (fun _ hk => hk) trivial (Below.refl _ _) (Nat.le_refl _) (by simp) ?_; (case hd => rfl); (case hg => rfl); (case hr => first | (go_simp; done) | (go_simp; rfl)); (case hp => exact (Reps.none _ _)); intro v4 w4 ho4 hb4 hg_ hnew_; clear hg_ hnew_; have HO4 := Aside0.mk (Kd.S_lower ho4 (below_size (by repeat (first | (with_reducible first | exact HB.out | apply below_alloc | apply pw_below_drewN | apply below_drew1) | exact HB.out)))); have HB4 := Aside0.mk (below_step (by repeat (first | (with_reducible first | exact HB.out | apply below_alloc | apply pw_below_drewN | apply below_drew1) | exact HB.out)) hb4); clear ho4 hb4))
  go_loopg [5, 22] n (fun gq v5 v22 w' => ∃ r : Nat, v22 = .int .i64 (r : Int) ∧ Aside0 (r ≤ n ∧ n - r ≤ gq) ∧ Aside0 (Kd.S (S3.apart 29 (Kd.slice 3 (Kd.int .i64))) 30 w' w.heap.size (fun _ => True) v5 (roundsK (wrap64 (a0 - 1)) h r)) ∧ Aside0 (Below w.heap.size w w'))
  case atStart => exact ⟨0, rfl, ⟨Nat.zero_le _, Nat.sub_le _ _⟩, HO4, HB4⟩
  case round =>
    clear HO4 HB4 HB
    obtain ⟨r, rfl, HR, HO5, HB⟩ := hrel
    obtain ⟨w5, rfl⟩ : ∃ x, x = wr := ⟨wr, rfl⟩
    by_cases c : (r : Int) < wrap64 (a0 - 1)
    · have cb : decide ((r : Int) < wrap64 (a0 - 1)) = true := decide_eq_true c
      have hrn : r < n := by have := HN.out; omega
      have HRN := Aside0.mk hrn
      clear c hrn
      have HI := Aside0.mk (Below.refl w5.heap.size w5)
      go_upto_if 30 with (first | ((with_reducible refine gate_dst (N := 27) rfl ?_); refine Kd.R_lit (Kd.int .i64) _ 3 ?hg (N := 27) ?hd (xs := ([(wrap64 (a0 - 1)), (r : Int)] : List Int)) (inner := [.int .i64 (wrap64 (a0 - 1)), .int .i64 (r : Int)]) (ok := fun _ => True) (okp := fun _ => True) ?hr ?hp (fun _ hk => hk) trivial (Below.refl _ _) (Nat.le_refl _) (by simp) ?_; (case hd => rfl); (case hg => rfl); (case hr => first | (go_simp; done) | (go_simp; rfl)); (case hp => exact (Reps.one (show Kd.M (Kd.int .i64) _ _ _ (wrap64 (a0 - 1)) [.int .i64 (wrap64 (a0 - 1))] from rfl) (Reps.one (show Kd.M (Kd.int .i64) _ _ _ (r : Int) [.int .i64 (r : Int)] from rfl) (Reps.none _ _)))); intro v7 w7 ho7 hb7 hg_ hnew_; clear hg_ hnew_; have HO7 := Aside0.mk ho7; have HI7 := Aside0.mk (below_step (by repeat (first | (with_reducible first | exact HI.out | apply below_alloc | apply pw_below_drewN | apply below_drew1) | exact HI.out)) hb7); clear ho7 hb7))
      (try simp only [Act.put, List.setIfInBounds_toArray, List.set_cons_zero, List.set_cons_succ])
      go_cut [7] (fun v7 wc => Aside0 (Kd.R (Kd.int .i64) 3 wc w5.heap.size (fun _ => True) v7 (gameF (wrap64 (a0 - 1)) (r : Int))) ∧ Aside0 (Below w5.heap.size w5 wc))
      case first =>
        by_cases c2 : (r : Int) % 2 = 1
        · have c2b : ((r : Int) % 2 == 1) = true := beq_iff_eq.2 c2
          have hg : gameF (wrap64 (a0 - 1)) (r : Int) = [(r : Int), wrap64 (a0 - 1)] := if_pos c2
          have HG := Aside0.mk hg
          clear c2 hg
          (first | rw [c2b] | skip)
          go_wp2_with (first | ((with_reducible refine gate_dst (N := 33) rfl ?_); refine Kd.R_lit (Kd.int .i64) _ 3 ?hg (N := 33) ?hd (xs := ([(r : Int), (wrap64 (a0 - 1))] : List Int)) (inner := [.int .i64 (r : Int), .int .i64 (wrap64 (a0 - 1))]) (ok := fun _ => True) (okp := fun _ => True) ?hr ?hp (fun _ hk => hk) trivial (Below.refl _ _) (Nat.le_refl _) (by simp) ?_; (case hd => rfl); (case hg => rfl); (case hr => first | (go_simp; done) | (go_simp; rfl)); (case hp => exact (Reps.one (show Kd.M (Kd.int .i64) _ _ _ (r : Int) [.int .i64 (r : Int)] from rfl) (Reps.one (show Kd.M (Kd.int .i64) _ _ _ (wrap64 (a0 - 1)) [.int .i64 (wrap64 (a0 - 1))] from rfl) (Reps.none _ _)))); intro v8 w8 ho8 hb8 hg_ hnew_; clear hg_ hnew_; have HO8 := Aside0.mk (Kd.R_lower ho8 (below_size HI7.out)); have HI8 := Aside0.mk (below_step HI7.out hb8); clear ho8 hb8))
          go_meet
          case rel => exact ⟨⟨by rw [HG.out]; exact HO8.out⟩, HI8⟩
        · have c2b : ((r : Int) % 2 == 1) = false := beq_eq_false_iff_ne.2 c2
          have hg : gameF (wrap64 (a0 - 1)) (r : Int) = [wrap64 (a0 - 1), (r : Int)] := if_neg c2
          have HG := Aside0.mk hg
          clear c2 hg
          (first | rw [c2b] | skip)
          go_wp2
          go_meet
          case rel => exact ⟨⟨by rw [HG.out]; exact HO7.out⟩, HI7⟩
      case rest =>
        clear HO7 HI7 HI
        obtain ⟨HO7, HI⟩ := hcut
        obtain ⟨A7, c7, e7⟩ := Kd.R_slice HO7.out
        subst e7
        go_wp2_with (first | ((with_reducible refine gate_dst (N := 35) rfl ?_); refine Kd.S_lits (Kd.slice 3 (Kd.int .i64)) (w0 := w5) w5.heap.size 29 ?hg (N := 35) ?hd (xs := ([gameF (wrap64 (a0 - 1)) (r : Int)] : List (List Int))) (inner := [.slice A7 (gameF (wrap64 (a0 - 1)) (r : Int)).length c7]) (ok := fun _ => True) (fun jq _ => jq = 0) ?hr rfl ?hp (fun _ _ _ h1_ h2_ => h1_.trans h2_.symm) (fun _ _ _ => trivial) trivial HI.out (below_size HI.out) (by simp) ?_; (case hd => rfl); (case hg => rfl); (case hr => first | (go_simp; done) | (go_simp; rfl)); (case hp => intro jq xq hx_; obtain ⟨rfl, rfl⟩ := one_at hx_; exact ⟨_, rfl, Kd.R_mono HO7.out (fun _ _ => rfl)⟩); intro v8 w8 ho8 hb8 hg_ hnew_; clear hg_ hnew_; have HO8 := Aside0.mk ho8; have HI8 := Aside0.mk hb8; clear ho8 hb8))
        go_loopg [8, 9] h (fun gq v8 v9 w' => ∃ (q : Nat) (x9 : Int), v9 = .int .i64 x9 ∧ Aside0 (x9 = ((q + 1 : Nat) : Int)) ∧ Aside0 (q ≤ h ∧ h - q ≤ gq) ∧ Aside0 (Kd.S (Kd.slice 3 (Kd.int .i64)) 29 w' w5.heap.size (fun _ => True) v8 (roundK (wrap64 (a0 - 1)) (r : Int) q)) ∧ Aside0 (Below w5.heap.size w5 w'))
        case atStart => exact ⟨0, 1, rfl, ⟨rfl⟩, ⟨Nat.zero_le _, Nat.sub_le _ _⟩, HO8, HI8⟩
        case round =>
          clear HO8 HI8 HI HO7
          obtain ⟨q, x9, rfl, HX, HQ, HO8, HI⟩ := hrel
          obtain ⟨w6, rfl⟩ : ∃ x, x = wr := ⟨wr, rfl⟩
          by_cases c9 : x9 < wrap64 (Int.tdiv a0 2)
          · have c9b : decide (x9 < wrap64 (Int.tdiv a0 2)) = true := decide_eq_true c9
            have hqh : q < h := by have := HDV.out; have := HX.out; omega
            have HQH := Aside0.mk hqh
            clear c9 hqh
            have HJ := Aside0.mk (Below.refl w6.heap.size w6)
            obtain ⟨y, hy⟩ : ∃ y : List Int, y = ([Int.tmod (wrap64 ((r : Int) + x9)) (wrap64 (a0 - 1)), Int.tmod (wrap64 ((wrap64 ((r : Int) - x9)) + (wrap64 (a0 - 1)))) (wrap64 (a0 - 1))] : List Int) := ⟨_, rfl⟩
            have HY := Aside0.mk hy
            clear hy
            try go_wp2
            have HJ0 := Aside0.mk (below_drew1 HJ.out)
            clear HJ
            have HJ := HJ0
            clear HJ0
            refine start_ (n := 17) (S := fun w' => True) (ds := []) #[false, false, false, false, false, false, false, false, false, false, false, false, false, false, false, false, false] (by kernel_rfl) rfl rfl trivial (fun hHeld => ?_); refine with_tabW impl_RoundsFor.tab15 impl_RoundsFor.bits15 (fun HT_ HW_ => ?_)
            generalize w6.drew = w21 at HJ hHeld ⊢
            refine pure_ (i := 0) (N := some 42) (v := ?_) (a' := ?_) #[true, false, false, false, false, false, false, false, false, false, false, false, false, false, false, false, false] rfl rfl (any_of HT_.out (by kernel_rfl)) (fun _ _ _ h => h) (Or.inl ⟨by rfl, ?_⟩) ?_ ?_
            rotate_left
            · intro w'
              go_simp
              with_reducible rfl
            rotate_left
            · simp only [Act.put, List.setIfInBounds_toArray, List.set_cons_zero, List.set_cons_succ, i64_w, i32_w]
              rfl
            refine pure_ (i := 1) (N := some 43) (v := ?_) (a' := ?_) #[true, true, false, false, false, false, false, false, false, false, false, false, false, false, false, false, false] rfl rfl (any_of HT_.out (by kernel_rfl)) (fun _ _ _ h => h) (Or.inl ⟨by rfl, ?_⟩) ?_ ?_
            rotate_left
            · intro w'
              go_simp
              with_reducible rfl
            rotate_left
            · simp only [Act.put, List.setIfInBounds_toArray, List.set_cons_zero, List.set_cons_succ, i64_w, i32_w]
              rfl
            refine pure_ (i := 2) (N := some 44) (v := ?_) (a' := ?_) #[true, true, true, false, false, false, false, false, false, false, false, false, false, false, false, false, false] rfl rfl (any_of HT_.out (by kernel_rfl)) (fun _ _ _ h => h) (Or.inl ⟨by rfl, ?_⟩) ?_ ?_
            rotate_left
            · intro w'
              go_simp
              with_reducible rfl
            rotate_left
            · simp only [Act.put, List.setIfInBounds_toArray, List.set_cons_zero, List.set_cons_succ, i64_w, i32_w]
              rfl
            refine pure_ (i := 3) (N := some 45) (v := ?_) (a' := ?_) #[true, true, true, true, false, false, false, false, false, false, false, false, false, false, false, false, false] rfl rfl (any_of HT_.out (by kernel_rfl)) (fun _ _ _ h => h) (Or.inl ⟨by rfl, ?_⟩) ?_ ?_
            rotate_left
            · intro w'
              go_simp
              with_reducible rfl
            rotate_left
            · simp only [Act.put, List.setIfInBounds_toArray, List.set_cons_zero, List.set_cons_succ, i64_w, i32_w]
              rfl
            refine pure_ (i := 4) (N := some 46) (v := ?_) (a' := ?_) #[true, true, true, true, true, false, false, false, false, false, false, false, false, false, false, false, false] rfl rfl (any_of HT_.out (by kernel_rfl)) (fun _ _ _ h => h) (Or.inl ⟨by rfl, ?_⟩) ?_ ?_
            rotate_left
            · intro w'
              go_simp
              with_reducible rfl
            rotate_left
            · simp only [Act.put, List.setIfInBounds_toArray, List.set_cons_zero, List.set_cons_succ, i64_w, i32_w]
              rfl
            refine pure_ (i := 5) (N := some 47) (v := ?_) (a' := ?_) #[true, true, true, true, true, true, false, false, false, false, false, false, false, false, false, false, false] rfl rfl (any_of HT_.out (by kernel_rfl)) (fun _ _ _ h => h) (Or.inl ⟨by rfl, ?_⟩) ?_ ?_
            rotate_left
            · intro w'
              go_simp
              with_reducible rfl
            rotate_left
            · simp only [Act.put, List.setIfInBounds_toArray, List.set_cons_zero, List.set_cons_succ, i64_w, i32_w]
              rfl
            refine pure_ (i := 6) (N := some 48) (v := ?_) (a' := ?_) #[true, true, true, true, true, true, true, false, false, false, false, false, false, false, false, false, false] rfl rfl (any_of HT_.out (by kernel_rfl)) (fun _ _ _ h => h) (Or.inl ⟨by rfl, ?_⟩) ?_ ?_
            rotate_left
            · intro w'
              go_simp
              with_reducible rfl
            rotate_left
            · simp only [Act.put, List.setIfInBounds_toArray, List.set_cons_zero, List.set_cons_succ, i64_w, i32_w]
              rfl
            refine pure_ (i := 7) (N := some 49) (v := ?_) (a' := ?_) #[true, true, true, true, true, true, true, true, false, false, false, false, false, false, false, false, false] rfl rfl (any_of HT_.out (by kernel_rfl)) (fun _ _ _ h => h) (Or.inl ⟨by rfl, ?_⟩) ?_ ?_
            rotate_left
            · intro w'
              go_simp
              with_reducible rfl
            rotate_left
            · simp only [Act.put, List.setIfInBounds_toArray, List.set_cons_zero, List.set_cons_succ, i64_w, i32_w]
              rfl
            refine pure_ (i := 8) (N := some 50) (v := ?_) (a' := ?_) #[true, true, true, true, true, true, true, true, true, false, false, false, false, false, false, false, false] rfl rfl (any_of HT_.out (by kernel_rfl)) (fun _ _ _ h => h) (Or.inl ⟨by rfl, ?_⟩) ?_ ?_
            rotate_left
            · intro w'
              go_simp
              with_reducible rfl
            rotate_left
            · simp only [Act.put, List.setIfInBounds_toArray, List.set_cons_zero, List.set_cons_succ, i64_w, i32_w]
              rfl
            refine pure_ (i := 9) (N := some 51) (v := ?_) (a' := ?_) #[true, true, true, true, true, true, true, true, true, true, false, false, false, false, false, false, false] rfl rfl (any_of HT_.out (by kernel_rfl)) (fun _ _ _ h => h) (Or.inl ⟨by rfl, ?_⟩) ?_ ?_
            rotate_left
            · intro w'
              go_simp
              with_reducible rfl
            rotate_left
            · simp only [Act.put, List.setIfInBounds_toArray, List.set_cons_zero, List.set_cons_succ, i64_w, i32_w]
              rfl
            refine pure_ (i := 10) (N := some 52) (v := ?_) (a' := ?_) #[true, true, true, true, true, true, true, true, true, true, true, false, false, false, false, false, false] rfl rfl (any_of HT_.out (by kernel_rfl)) (fun _ _ _ h => h) (Or.inl ⟨by rfl, ?_⟩) ?_ ?_
            rotate_left
            · intro w'
              go_simp
              with_reducible rfl
            rotate_left
            · simp only [Act.put, List.setIfInBounds_toArray, List.set_cons_zero, List.set_cons_succ, i64_w, i32_w]
              rfl
            refine pure_ (i := 11) (N := some 53) (v := ?_) (a' := ?_) #[true, true, true, true, true, true, true, true, true, true, true, true, false, false, false, false, false] rfl rfl (any_of HT_.out (by kernel_rfl)) (fun _ _ _ h => h) (Or.inl ⟨by rfl, ?_⟩) ?_ ?_
            rotate_left
            · intro w'
              go_simp
              with_reducible rfl
            rotate_left
            · simp only [Act.put, List.setIfInBounds_toArray, List.set_cons_zero, List.set_cons_succ, i64_w, i32_w]
              rfl
            refine pure_ (i := 12) (N := some 54) (v := ?_) (a' := ?_) #[true, true, true, true, true, true, true, true, true, true, true, true, true, false, false, false, false] rfl rfl (any_of HT_.out (by kernel_rfl)) (fun _ _ _ h => h) (Or.inl ⟨by rfl, ?_⟩) ?_ ?_
            rotate_left
            · intro w'
              go_simp
              with_reducible rfl
            rotate_left
            · simp only [Act.put, List.setIfInBounds_toArray, List.set_cons_zero, List.set_cons_succ, i64_w, i32_w]
              rfl
            refine one_ (i := 13) (N := some 55) #[true, true, true, true, true, true, true, true, true, true, true, true, true, true, false, false, false] rfl rfl (one_of HT_.out (by kernel_rfl)) (by decide) (fun K hK => ?_)
            refine Kd.R_lit_step (Kd.int .i64) _ 3 ?hg (N := 55) ?hd (xs := ([Int.tmod (wrap64 ((r : Int) + x9)) (wrap64 (a0 - 1)), Int.tmod (wrap64 ((wrap64 ((r : Int) - x9)) + (wrap64 (a0 - 1)))) (wrap64 (a0 - 1))] : List Int)) (inner := [.int .i64 (Int.tmod (wrap64 ((r : Int) + x9)) (wrap64 (a0 - 1))), .int .i64 (Int.tmod (wrap64 ((wrap64 ((r : Int) - x9)) + (wrap64 (a0 - 1)))) (wrap64 (a0 - 1)))]) (ok := fun _ => True) (okp := fun _ => True) ?hr ?hp (fun _ hk => hk) trivial (Below.refl _ _) (Nat.le_refl _) (by simp) ?_; (case hd => rfl); (case hg => rfl); (case hr => first | (go_simp; done) | (go_simp; rfl)); (case hp => exact (Reps.one (show Kd.M (Kd.int .i64) _ _ _ (Int.tmod (wrap64 ((r : Int) + x9)) (wrap64 (a0 - 1))) [.int .i64 (Int.tmod (wrap64 ((r : Int) + x9)) (wrap64 (a0 - 1)))] from rfl) (Reps.one (show Kd.M (Kd.int .i64) _ _ _ (Int.tmod (wrap64 ((wrap64 ((r : Int) - x9)) + (wrap64 (a0 - 1)))) (wrap64 (a0 - 1))) [.int .i64 (Int.tmod (wrap64 ((wrap64 ((r : Int) - x9)) + (wrap64 (a0 - 1)))) (wrap64 (a0 - 1)))] from rfl) (Reps.none _ _))))
            intro v7 w7 ho7 hb7 hg_ hnew_
            clear hg_ hnew_
            rw [← HY.out] at ho7
            have hj7 := below_step (by repeat (first | (with_reducible first | exact HJ.out | apply below_alloc | apply pw_below_drewN | apply below_drew1) | exact HJ.out)) hb7
            have n0_ := Aside0.mk (Kd.R_lower (Kd.R_mono (Kd.R_bound ho7) (ok' := fun k_ => w6.heap.size ≤ k_) (fun k_ hk_ => Nat.le_trans (below_size (by repeat (first | (with_reducible first | exact HJ.out | apply below_alloc | apply pw_below_drewN | apply below_drew1) | exact HJ.out))) hk_.2.1)) (Nat.le_trans (below_size HI.out) (below_size (by repeat (first | (with_reducible first | exact HJ.out | apply below_alloc | apply pw_below_drewN | apply below_drew1) | exact HJ.out)) : w6.heap.size ≤ _)))
            clear HJ
            have HJ := Aside0.mk hj7
            have HE7 := n0_
            clear n0_ ho7 hb7 hj7
            obtain ⟨A8, c8, e8⟩ := Kd.R_slice HE7.out
            (first | subst e8 | (injection e8 with f1_ f2_ f3_; have f4_ := f1_.symm; have f5_ := f3_.symm; clear f1_ f2_ f3_; subst f4_; subst f5_))
            refine hK.out _ _ trivial (fun hHeld => ?_)
            clear hK K
            refine norm_ (a' := ?_) ?_ ?_
            rotate_left
            · show Act.put _ (some 55) _ = _
              simp only [Act.put, List.setIfInBounds_toArray, List.set_cons_zero, List.set_cons_succ, i64_w, i32_w]
              rfl
            refine one_ (i := 14) (N := some 56) #[true, true, true, true, true, true, true, true, true, true, true, true, true, true, true, false, false] rfl rfl (one_of HT_.out (by kernel_rfl)) (by decide) (fun K hK => ?_)
            refine value_ (w1 := ?_) (v := ?_) (by rfl) rfl ?_ ?_
            rotate_left 2
            · go_simp
              constructor
              · rfl
              · rfl
            refine hK.out _ _ trivial (fun hHeld => ?_)
            clear hK K
            refine norm_ (a' := ?_) ?_ ?_
            rotate_left
            · show Act.put _ (some 56) _ = _
              simp only [Act.put, List.setIfInBounds_toArray, List.set_cons_zero, List.set_cons_succ, i64_w, i32_w]
              rfl
            refine one_ (i := 15) (N := some 57) #[true, true, true, true, true, true, true, true, true, true, true, true, true, true, true, true, false] rfl rfl (one_of HT_.out (by kernel_rfl)) (by decide) (fun K hK => ?_)
            refine Kd.S_append_step (Kd.slice 3 (Kd.int .i64)) (w0 := w5) w5.heap.size (by rfl) (.tmp 42) (.tmp 56) 30 29 (.slice none 0 0) 24 rfl Try.underlying30 info29 rfl (by decide) (by omega) u8 (roundK (wrap64 (a0 - 1)) (r : Int) q) y [.slice A8 y.length c8] (fun _ => True) (fun k_ => w6.heap.size ≤ k_) rfl rfl ?aP ?aK ?aF ?aO ?aB ?aS ?aL ?_
            (case aP => exact ⟨_, rfl, HE7.out⟩)
            (case aK => exact fun k_ hk_ => ⟨trivial, fun e_ => by have := Kd.S_lt HO8.out k_ e_.symm; omega⟩)
            (case aF => exact (fun _ _ => trivial))
            (case aO => exact Kd.S_below (Kd.S_mono (Kd.S_bound HO8.out) (fun k_ hk_ => ⟨trivial, fun h_ => by have := hk_.2.2.1; omega⟩)) HJ.out)
            (case aB => exact below_step HI.out HJ.out)
            (case aS => exact Nat.le_trans (below_size HI.out) (below_size HJ.out))
            (case aL => have := HQH.out; have := HH.out; rw [roundK_len]; omega)
            intro v9 w9 ho9 hb9 hg9 hat9
            have n0_ := Aside0.mk ho9
            have n1_ := Aside0.mk hb9
            clear HO8 HI HJ
            have HO8 := n0_
            have HI := n1_
            clear n0_ n1_ ho9 hb9 hg9 hat9
            refine hK.out _ _ trivial (fun hHeld => ?_)
            clear hK K
            refine norm_ (a' := ?_) ?_ ?_
            rotate_left
            · show Act.put _ (some 57) _ = _
              simp only [Act.put, List.setIfInBounds_toArray, List.set_cons_zero, List.set_cons_succ, i64_w, i32_w]
              rfl
            refine pure_ (i := 16) (N := some 8) (v := ?_) (a' := ?_) #[true, true, true, true, true, true, true, true, true, true, true, true, true, true, true, true, true] rfl rfl (any_of HT_.out (by kernel_rfl)) (fun _ _ _ h => h) (Or.inl ⟨by rfl, ?_⟩) ?_ ?_
            rotate_left
            · intro w'
              go_simp
              with_reducible rfl
            rotate_left
            · simp only [Act.put, List.setIfInBounds_toArray, List.set_cons_zero, List.set_cons_succ, i64_w, i32_w]
              rfl
            refine done_ (done_of HT_.out (by kernel_rfl)) ?_
            try go_wp2
            go_roundg (h - (q + 1))
            case measure => have := HQ.out; have := HQH.out; omega
            case rel => exact ⟨q + 1, _, rfl, ⟨by have := HX.out; have := HQH.out; have := HH.out; unfold wrap64; omega⟩, ⟨HQH.out, Nat.le_refl _⟩, ⟨by rw [roundK_succ]; unfold gameK; rw [← HX.out, ← HY.out]; exact HO8.out⟩, HI⟩
          · have c9b : decide (x9 < wrap64 (Int.tdiv a0 2)) = false := decide_eq_false c9
            have hqh : q = h := by have := HDV.out; have := HX.out; have := HQ.out; omega
            have HQH := Aside0.mk hqh
            clear c9 hqh
            obtain ⟨A8, c8, e8⟩ := Kd.S_slice HO8.out
            subst e8
            have hwr : wrap64 ((r : Int) + 1) = ((r + 1 : Nat) : Int) := by have := HRN.out; have := HNH.out; have := HH.out; unfold wrap64; omega
            have HWR := Aside0.mk hwr
            clear hwr
            go_wp2_with (first | ((with_reducible refine gate_builtin (b := .append) (xs := #[.tmp 58, .tmp 60]) rfl ?_); at_builtin; refine Kd.S_append (S3.apart 29 (Kd.slice 3 (Kd.int .i64))) (w0 := w) w.heap.size rfl (.tmp 58) (.tmp 60) 22 30 (.slice none 0 0) 24 rfl Try.underlying22 info30 rfl (by decide) (by omega) u5 (roundsK (wrap64 (a0 - 1)) h r) (roundK (wrap64 (a0 - 1)) (r : Int) q) [.slice A8 (roundK (wrap64 (a0 - 1)) (r : Int) q).length c8] (fun _ => True) (fun k_ => w5.heap.size ≤ k_) rfl rfl ?aP ?aK ?aF ?aO ?aB ?aS ?aL ?_; (case aP => exact ⟨_, rfl, Kd.S_lower (Kd.S_mono (Kd.S_bound HO8.out) (fun k_ hk_ => hk_.2.1)) (below_size HB.out)⟩); (case aK => exact fun k_ hk_ => ⟨trivial, fun e_ => by have := Kd.S_lt HO5.out k_ e_.symm; omega⟩); (case aF => exact (fun _ _ => trivial)); (case aO => exact Kd.S_below (Kd.S_mono (Kd.S_bound HO5.out) (fun k_ hk_ => ⟨trivial, fun h_ => by have := hk_.2.2.1; omega⟩)) HI.out); (case aB => exact below_step HB.out HI.out); (case aS => exact Nat.le_trans (below_size HB.out) (below_size HI.out)); (case aL => have := HRN.out; have := HNH.out; have := HH.out; rw [roundsK_len]; omega); intro v9 w9 ho9 hb9 hg9 hat9; have n0_ := Aside0.mk ho9; have n1_ := Aside0.mk hb9; clear HO8 HI HB HO5; have HO5 := n0_; have HB := n1_; clear n0_ n1_ ho9 hb9 hg9 hat9))
            go_roundg (n - (r + 1))
            case measure => have := HR.out; have := HRN.out; omega
            case rel => exact ⟨r + 1, by first | rfl | (rw [HWR.out]; done) | (rw [HWR.out]) , ⟨by have := HRN.out; omega, Nat.le_refl _⟩, ⟨by rw [roundsK_succ]; rw [← HQH.out]; rw [← HQH.out] at HO5; exact HO5.out⟩, HB⟩
    · have cb : decide ((r : Int) < wrap64 (a0 - 1)) = false := decide_eq_false c
      have hr : r = n := by have := HR.out; have := HN.out; omega
      have HE := Aside0.mk hr
      clear c hr
      go_wp2
      go_ret2
      exact ⟨_, rfl, by rw [← HE.out]; exact HO5.out, HB.out⟩
end Go.Proofs.Ytpaffojjkkmnlaa.PFnExactRoundsFor
