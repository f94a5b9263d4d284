/- impl.PointsOnServe, walked, with ServersOf by its contract. Condition: the points are letters a and b, no more than a million, and there are as many servers. -/
import Derived.Test.YtiknaldhjbdnbaaGreatDoorcGPoints
import Derived.Test.YtiknaldhjbdnbaaGreatDoorcQFnRacesWonx7
import Derived.WalkKit
import Derived.KernelRfl
import Derived.Deep.QuietTactic
import Derived.BigQuiet
namespace Go.Proofs.YtiknaldhjbdnbaaGreatDoor
open Go.RowKit Go.Proofs.YtiknaldhjbdnbaaGreatDoorW.PrintWords Go.Proofs.YtiknaldhjbdnbaaGreatDoorW.PrintLast Go.Proofs.YtiknaldhjbdnbaaGreatDoorW.PrintMore
set_option linter.unusedVariables false
set_option linter.unusedSimpArgs false
def served (c : UInt8) : List UInt8 → List UInt8 → Int
  | x :: l, y :: m => (if x = y ∧ x = c then 1 else 0) + served c l m
  | _, _ => 0
theorem served_snoc (c : UInt8) (l : List UInt8) : ∀ (m : List UInt8) (x y : UInt8), l.length = m.length → served c (l ++ [x]) (m ++ [y]) = served c l m + if x = y ∧ x = c then 1 else 0 := by
  induction l with
  | nil =>
    intro m x y h
    cases m with
    | nil => simp [served]
    | cons _ _ => simp at h
  | cons a l ih =>
    intro m x y h
    cases m with
    | nil => simp at h
    | cons b m =>
      simp only [List.cons_append, served]
      rw [ih m x y (by simpa using h)]
      omega
theorem served_bd (c : UInt8) (l : List UInt8) : ∀ m : List UInt8, 0 ≤ served c l m ∧ served c l m ≤ l.length := by
  induction l with
  | nil => intro m; simp [served]
  | cons a l ih =>
    intro m
    cases m with
    | nil => simp [served]; omega
    | cons b m =>
      have := ih m
      simp only [served, List.length_cons]
      split <;> omega
def impl_PointsOnServe.f (k : Nat) (a0 : ByteArray) (a1 : Int) : Option (Int × Int × Bool) :=
  (QFnRacesWon.impl_ServersOf.f k a0 a1).bind fun v => if v.2 = true then (if a0.size ≤ 1048576 ∧ v.1.size = a0.size ∧ a0.data.toList.all abB = true then some (served 97 a0.data.toList v.1.data.toList, served 98 a0.data.toList v.1.data.toList, true) else none) else some (0, 0, false)
theorem take_snoc_c (s : ByteArray) (k : Nat) (h : k < s.size) : s.data.toList.take (k + 1) = s.data.toList.take k ++ [s[k]] := by
  rw [List.take_succ_eq_append_getElem (by simpa using h)]; rfl
set_option maxHeartbeats 4000000 in
set_option maxRecDepth 100000 in
theorem impl_PointsOnServe.calls (k : Nat) (a0 : ByteArray) (a1 : Int) (r1 : Int) (r2 : Int) (r3 : Bool) (w : World) (h : impl_PointsOnServe.f k a0 a1 = some (r1, r2, r3)) :
    Calls Tryz.prog 27 #[.string a0, .int .i64 a1] w fun e w' => e = .returned (.tuple #[.int .i64 r1, .int .i64 r2, .bool r3]) ∧ Below w.heap.size w w' := by
  unfold impl_PointsOnServe.f at h
  obtain ⟨⟨sv, ok⟩, hsv, H⟩ := Option.bind_eq_some_iff.1 h
  clear h
  have HS := Aside0.mk hsv
  clear hsv
  simp only at H
  cases ok
  · rw [if_neg (by decide)] at H
    simp only [Option.some.injEq, Prod.mk.injEq] at H
    obtain ⟨rfl, rfl, rfl⟩ := H
    go_enter Tryz.func27, Tryz.ntmps27
    go_wp2_with (go_at_call 25; (with_reducible refine (QFnRacesWon.impl_ServersOf.calls k a0 a1 sv false _ HS.out).mono ?_); rintro e w' ⟨rfl, hb⟩)
    go_ret3
    exact ⟨rfl, hb⟩
  · rw [if_pos rfl] at H
    by_cases c : a0.size ≤ 1048576 ∧ sv.size = a0.size ∧ a0.data.toList.all abB = true
    · rw [if_pos c] at H
      obtain ⟨hn, hz, hab⟩ := c
      simp only [Option.some.injEq, Prod.mk.injEq] at H
      obtain ⟨rfl, rfl, rfl⟩ := H
      have HZ := Aside0.mk hz
      have HA := Aside0.mk hab
      clear hz hab
      go_enter Tryz.func27, Tryz.ntmps27
      go_wp2_with (go_at_call 25; (with_reducible refine (QFnRacesWon.impl_ServersOf.calls k a0 a1 sv true _ HS.out).mono ?_); rintro e w1 ⟨rfl, hb⟩; have HB := Aside0.mk hb; clear hb)
      go_loopw [22] (fun i wr => ∃ n : Nat, n ≤ a0.size ∧ i = .int .i64 n ∧ Aside0 (wr.heap[w1.heap.size]? = some (.cells #[.int .i64 (served 97 (a0.data.toList.take n) (sv.data.toList.take n)), .int .i64 (served 98 (a0.data.toList.take n) (sv.data.toList.take n))] 74 (0, 0))) ∧ Aside0 (Below w.heap.size w wr)) (fun i _ => a0.size - (intOf i).toNat)
      case atStart =>
        exact ⟨0, Nat.zero_le _, rfl, ⟨by simpa [served] using blk_new w1 (.cells #[.int .i64 0, .int .i64 0] 74)⟩, ⟨below_alloc HB.out _⟩⟩
      case round =>
        obtain ⟨n, hle, rfl, HP, HB2⟩ := hrel
        have HL := Aside0.mk hle
        by_cases hlt : n < a0.size
        · have hlt2 : n < sv.size := by rw [HZ.out]; exact hlt
          have hi1 : (n : Int) < (a0.size : Int) := by omega
          have hi2 : (n : Int) < (sv.size : Int) := by omega
          have ha : a0[n]'hlt = 97 ∨ a0[n]'hlt = 98 := by
            have := List.all_eq_true.1 HA.out (a0[n]'hlt) (List.getElem_mem (l := a0.data.toList) (by simpa using hlt))
            unfold abB at this
            simpa using this
          have hl : (a0.data.toList.take n).length = (sv.data.toList.take n).length := by
            have h1 : a0.data.toList.length = a0.size := by simp
            have h2 : sv.data.toList.length = sv.size := by simp
            rw [List.length_take, List.length_take, h1, h2, HZ.out]
          have st1 := served_snoc 97 (a0.data.toList.take n) (sv.data.toList.take n) (a0[n]'hlt) (sv[n]'hlt2) hl
          have st2 := served_snoc 98 (a0.data.toList.take n) (sv.data.toList.take n) (a0[n]'hlt) (sv[n]'hlt2) hl
          rw [← take_snoc_c a0 n hlt, ← take_snoc_c sv n hlt2] at st1 st2
          have bd1 := served_bd 97 (a0.data.toList.take n) (sv.data.toList.take n)
          have bd2 := served_bd 98 (a0.data.toList.take n) (sv.data.toList.take n)
          have hln : (a0.data.toList.take n).length ≤ n := List.length_take_le _ _
          obtain ⟨x, hx⟩ : ∃ x, served 97 (a0.data.toList.take n) (sv.data.toList.take n) = x := ⟨_, rfl⟩
          obtain ⟨y, hy⟩ : ∃ y, served 98 (a0.data.toList.take n) (sv.data.toList.take n) = y := ⟨_, rfl⟩
          rw [hx] at st1 bd1 HP
          rw [hy] at st2 bd2 HP
          have bx0 : 0 ≤ x := bd1.1
          have bx1 : x ≤ 1048576 := by omega
          have by0 : 0 ≤ y := bd2.1
          have by1 : y ≤ 1048576 := by omega
          have ST1 := Aside0.mk st1
          have ST2 := Aside0.mk st2
          clear st1 st2 bd1 bd2 hln hl hx hy
          have hc0 : wr.cell? ⟨w1.heap.size, 0, none⟩ = some (.int .i64 x) := blk_cell HP.out 0
          have hc1 : wr.cell? ⟨w1.heap.size, 1, none⟩ = some (.int .i64 y) := blk_cell HP.out 1
          have hf : ∀ i, wr.frozen? ⟨w1.heap.size, i, none⟩ = false := fun i => blk_frozen HP.out i
          have hsz : w.heap.size ≤ w1.heap.size := HB.out.size
          rcases ha with ha | ha
          · have hv : ((a0[n]'hlt).toNat : Int) = 97 := by rw [ha]; rfl
            by_cases heq : sv[n]'hlt2 = 97
            · have hv2 : ((sv[n]'hlt2).toNat : Int) = 97 := by rw [heq]; rfl
              have e1 : served 97 (a0.data.toList.take (n + 1)) (sv.data.toList.take (n + 1)) = x + 1 := by rw [ST1.out, ha, heq]; simp
              have e2 : served 98 (a0.data.toList.take (n + 1)) (sv.data.toList.take (n + 1)) = y := by rw [ST2.out, ha, heq]; simp
              have E1 := Aside0.mk e1
              have E2 := Aside0.mk e2
              clear e1 e2 heq ha
              go_wp2
              go_quiet (fail)
              go_wp2
              go_roundw
              case rel => exact ⟨n + 1, hlt, by go_num, ⟨by rw [E1.out, E2.out]; exact blk_put (blk_drewN HP.out _) 0 _ rfl⟩, ⟨below_set (pw_below_drewN HB2.out _) hsz⟩⟩
              case measure => simp [intOf]; omega
            · have hne : ((97 : Int) == ((sv[n]'hlt2).toNat : Int)) = false := by
                rw [beq_eq_false_iff_ne]
                intro e
                apply heq
                apply UInt8.toNat_inj.1
                show _ = 97
                omega
              have e1 : served 97 (a0.data.toList.take (n + 1)) (sv.data.toList.take (n + 1)) = x := by rw [ST1.out, ha, if_neg (fun h => heq h.1.symm)]; omega
              have e2 : served 98 (a0.data.toList.take (n + 1)) (sv.data.toList.take (n + 1)) = y := by rw [ST2.out, ha, if_neg (fun h => heq h.1.symm)]; omega
              have E1 := Aside0.mk e1
              have E2 := Aside0.mk e2
              clear e1 e2 heq ha
              go_wp2
              go_quiet (fail)
              go_wp2
              go_roundw
              case rel => exact ⟨n + 1, hlt, by go_num, ⟨by rw [E1.out, E2.out]; exact blk_drewN HP.out _⟩, ⟨pw_below_drewN HB2.out _⟩⟩
              case measure => simp [intOf]; omega
          · have hv : ((a0[n]'hlt).toNat : Int) = 98 := by rw [ha]; rfl
            by_cases heq : sv[n]'hlt2 = 98
            · have hv2 : ((sv[n]'hlt2).toNat : Int) = 98 := by rw [heq]; rfl
              have e1 : served 97 (a0.data.toList.take (n + 1)) (sv.data.toList.take (n + 1)) = x := by rw [ST1.out, ha, heq]; simp
              have e2 : served 98 (a0.data.toList.take (n + 1)) (sv.data.toList.take (n + 1)) = y + 1 := by rw [ST2.out, ha, heq]; simp
              have E1 := Aside0.mk e1
              have E2 := Aside0.mk e2
              clear e1 e2 heq ha
              go_wp2
              go_quiet (fail)
              go_wp2
              go_roundw
              case rel => exact ⟨n + 1, hlt, by go_num, ⟨by rw [E1.out, E2.out]; exact blk_put (blk_drewN HP.out _) 1 _ rfl⟩, ⟨below_set (pw_below_drewN HB2.out _) hsz⟩⟩
              case measure => simp [intOf]; omega
            · have hne : ((98 : Int) == ((sv[n]'hlt2).toNat : Int)) = false := by
                rw [beq_eq_false_iff_ne]
                intro e
                apply heq
                apply UInt8.toNat_inj.1
                show _ = 98
                omega
              have e1 : served 97 (a0.data.toList.take (n + 1)) (sv.data.toList.take (n + 1)) = x := by rw [ST1.out, ha, if_neg (fun h => heq h.1.symm)]; omega
              have e2 : served 98 (a0.data.toList.take (n + 1)) (sv.data.toList.take (n + 1)) = y := by rw [ST2.out, ha, if_neg (fun h => heq h.1.symm)]; omega
              have E1 := Aside0.mk e1
              have E2 := Aside0.mk e2
              clear e1 e2 heq ha
              go_wp2
              go_quiet (fail)
              go_wp2
              go_roundw
              case rel => exact ⟨n + 1, hlt, by go_num, ⟨by rw [E1.out, E2.out]; exact blk_drewN HP.out _⟩, ⟨pw_below_drewN HB2.out _⟩⟩
              case measure => simp [intOf]; omega
        · obtain rfl : n = a0.size := by omega
          have t1 : a0.data.toList.take a0.size = a0.data.toList := List.take_of_length_le (Nat.le_refl _)
          have t2 : sv.data.toList.take a0.size = sv.data.toList := by
            rw [← HZ.out]
            exact List.take_of_length_le (Nat.le_refl _)
          rw [t1, t2] at HP
          clear t1 t2
          have hc0 : wr.cell? ⟨w1.heap.size, 0, none⟩ = some (.int .i64 (served 97 a0.data.toList sv.data.toList)) := blk_cell HP.out 0
          have hc1 : wr.cell? ⟨w1.heap.size, 1, none⟩ = some (.int .i64 (served 98 a0.data.toList sv.data.toList)) := blk_cell HP.out 1
          go_wp2
          go_quiet (fail)
          go_wp2
          go_ret3
          exact ⟨rfl, pw_below_drewN HB2.out _⟩
    · rw [if_neg c] at H
      cases H
end Go.Proofs.YtiknaldhjbdnbaaGreatDoor
