/- impl.follow, walked: how a race stands behind points. Condition: the points are ASCII letters, no more than a thousand. -/
import Derived.Test.YtiknaldhjbdnbaaGreatDoorProg
import Derived.Test.YtiknaldhjbdnbaaGreatDoorV1
import Derived.Lib.OthersKept
import Derived.WalkKit
import Derived.KernelRfl
import Derived.Laws.ResultCell
namespace Go.Proofs.YtiknaldhjbdnbaaGreatDoor
open Go.RowKit Go.Proofs.YtiknaldhjbdnbaaGreatDoorW.PrintWords Go.Proofs.YtiknaldhjbdnbaaGreatDoorW.PrintLast Go.Proofs.YtiknaldhjbdnbaaGreatDoorW.PrintMore
set_option linter.unusedVariables false
set_option linter.unusedSimpArgs false
structure Stand where
  a : Int
  b : Int
  won : Nat
  play : Bool
def wonText (n : Nat) : ByteArray := if n = 0 then ⟨#[45]⟩ else if n = 1 then ⟨#[97]⟩ else ⟨#[98]⟩
def wonB (To Lead own other : Int) : Bool := decide (To ≤ own) && decide (Lead ≤ own - other)
def Stand.step (To Lead : Int) (s : Stand) (c : UInt8) : Stand :=
  let play := s.play && decide (s.won = 0)
  let a := if c = 97 then s.a + 1 else s.a
  let b := if c = 97 then s.b else s.b + 1
  ⟨a, b, if play then (if wonB To Lead a b then 1 else if wonB To Lead b a then 2 else s.won) else s.won, play⟩
def Stand.run (To Lead : Int) (l : List UInt8) : Stand := l.foldl (Stand.step To Lead) ⟨0, 0, 0, true⟩
def impl_follow.f (a0_0 : Int) (a0_1 : Int) (a1 : ByteArray) : Option (Int × Int × ByteArray × Bool) :=
  if a1.size ≤ 1000 ∧ a1.data.toList.all (fun c => decide (c.toNat < 128)) = true then
    some ((Stand.run a0_0 a0_1 a1.data.toList).a, (Stand.run a0_0 a0_1 a1.data.toList).b, wonText (Stand.run a0_0 a0_1 a1.data.toList).won, (Stand.run a0_0 a0_1 a1.data.toList).play)
  else none
theorem Stand.bounds (To Lead : Int) (l : List UInt8) : 0 ≤ (Stand.run To Lead l).a ∧ 0 ≤ (Stand.run To Lead l).b ∧ (Stand.run To Lead l).a + (Stand.run To Lead l).b = l.length := by
  have gen : ∀ (l : List UInt8) (s : Stand), 0 ≤ s.a → 0 ≤ s.b → 0 ≤ (l.foldl (Stand.step To Lead) s).a ∧ 0 ≤ (l.foldl (Stand.step To Lead) s).b ∧ (l.foldl (Stand.step To Lead) s).a + (l.foldl (Stand.step To Lead) s).b = s.a + s.b + l.length := by
    intro l
    induction l with
    | nil => intro s ha hb; simp [ha, hb]
    | cons c l ih =>
      intro s ha hb
      have hs : 0 ≤ (s.step To Lead c).a ∧ 0 ≤ (s.step To Lead c).b ∧ (s.step To Lead c).a + (s.step To Lead c).b = s.a + s.b + 1 := by
        simp only [Stand.step]
        split <;> omega
      obtain ⟨h1, h2, h3⟩ := ih (s.step To Lead c) hs.1 hs.2.1
      simp only [List.foldl_cons, List.length_cons]
      refine ⟨h1, h2, ?_⟩
      rw [h3, hs.2.2]
      omega
  have := gen l ⟨0, 0, 0, true⟩ (Int.le_refl 0) (Int.le_refl 0)
  unfold Stand.run
  simpa using this
theorem Stand.snoc (To Lead : Int) (l : List UInt8) (c : UInt8) : Stand.run To Lead (l ++ [c]) = (Stand.run To Lead l).step To Lead c := by
  simp [Stand.run, List.foldl_append]
theorem take_snoc_b (s : ByteArray) (k : Nat) (h : k < s.size) : s.data.toList.take (k + 1) = s.data.toList.take k ++ [s[k]] := by
  rw [List.take_succ_eq_append_getElem (by simpa using h)]; rfl
theorem hasWon_any (To Lead own other : Int) (w : World) (h1 : -2000 ≤ own - other) (h2 : own - other ≤ 2000) :
    Calls Tryz.prog 39 #[.agg #[.int .i64 To, .int .i64 Lead], .int .i64 own, .int .i64 other] w fun e w' => e = .returned (.bool (wonB To Lead own other)) ∧ Below w.heap.size w w' := by
  unfold wonB
  by_cases c : To ≤ own
  · have cb : decide (To ≤ own) = true := decide_eq_true c
    clear c
    go_enter Tryz.func39, Tryz.ntmps39
    go_wp2
    go_ret
    exact ⟨by simp [cb], (Below.refl _ _).alloc (Nat.le_refl _) _⟩
  · have cb : decide (To ≤ own) = false := decide_eq_false c
    clear c
    go_enter Tryz.func39, Tryz.ntmps39
    go_wp2
    go_ret
    exact ⟨by simp [cb], (Below.refl _ _).alloc (Nat.le_refl _) _⟩
theorem Stand.inv (To Lead : Int) (l : List UInt8) : (Stand.run To Lead l).won ≤ 2 ∧ ((Stand.run To Lead l).play = false → (Stand.run To Lead l).won ≠ 0) := by
  have gen : ∀ (l : List UInt8) (s : Stand), s.won ≤ 2 → (s.play = false → s.won ≠ 0) → (l.foldl (Stand.step To Lead) s).won ≤ 2 ∧ ((l.foldl (Stand.step To Lead) s).play = false → (l.foldl (Stand.step To Lead) s).won ≠ 0) := by
    intro l
    induction l with
    | nil => intro s ha hb; exact ⟨ha, hb⟩
    | cons c l ih =>
      intro s ha hb
      refine ih (s.step To Lead c) ?_ ?_
      · simp only [Stand.step]
        repeat' split
        all_goals omega
      · simp only [Stand.step]
        intro hp
        rw [hp]
        simp only [Bool.false_eq_true, if_false]
        intro h0
        cases hpl : s.play
        · exact hb hpl h0
        · simp [hpl, h0] at hp
  exact gen l ⟨0, 0, 0, true⟩ (by decide) (by first | (simp; done) | (simp; omega))
theorem idx_data (s : ByteArray) (k : Nat) (h : k < s.size) : s[k] = s.data.toList[k]'(by simpa using h) := rfl
theorem it_far {w : World} {g : Nat} {o : Obj} (h : w.heap[g]? = some o) {p : Addr} (hp : g ≠ p.block) (u : Value) : (w.setCell p u).heap[g]? = some o := (Below.heap_setCell w p u g hp).trans h
theorem it_pos {w : World} {g : Nat} {s : ByteArray} {k : Nat} (h : w.heap[g]? = some (.stringIter s k)) : w.iterPos g = k := by simp [World.iterPos, h]
theorem lt_of_it {w : World} {g n k : Nat} (h : w.iterPos g = k + 1) (hp : k < n) : n - w.iterPos g < n - k := by omega
theorem start_other {w : World} {g : Nat} {o : Obj} {s : ByteArray} {k : Nat} (h : w.heap[g]? = some o) : (w.iter s k).heap[g]? = some o := blk_alloc h _
structure Lies (To Lead : Int) (s : ByteArray) (B k : Nat) (st : Stand) (wr : World) : Prop where
  it : wr.heap[B + 3]? = some (.stringIter s k)
  p : wr.heap[B + 2]? = some (.cells #[.int .i64 st.a, .int .i64 st.b, .string (wonText st.won), .bool st.play] 53 (0, 0))
  r : wr.heap[B]? = some (.cells #[.int .i64 To, .int .i64 Lead] 25 (0, 0))
  o : wr.heap[B + 1]? = some (.cells #[.int .i64 0, .int .i64 0, .string ⟨#[]⟩, .bool false] 53 (0, 0))
set_option maxHeartbeats 4000000 in
set_option maxRecDepth 100000 in
theorem impl_follow.calls (a0_0 : Int) (a0_1 : Int) (a1 : ByteArray) (r1 : Int) (r2 : Int) (r3 : ByteArray) (r4 : Bool) (w : World) (h : impl_follow.f a0_0 a0_1 a1 = some (r1, r2, r3, r4)) :
    Calls Tryz.prog 43 #[.agg #[.int .i64 a0_0, .int .i64 a0_1], .string a1] w fun e w' => e = .returned (.agg #[.int .i64 r1, .int .i64 r2, .string r3, .bool r4]) ∧ Below w.heap.size w w' := by
  unfold impl_follow.f at h
  by_cases c : a1.size ≤ 1000 ∧ a1.data.toList.all (fun c => decide (c.toNat < 128)) = true
  · rw [if_pos c] at h
    obtain ⟨hn, hasc⟩ := c
    simp only [Option.some.injEq, Prod.mk.injEq] at h
    obtain ⟨rfl, rfl, rfl, rfl⟩ := h
    have hA := Aside0.mk hasc
    clear hasc
    go_enter Tryz.func43, Tryz.ntmps43
    go_wp2
    go_loopw [] (fun wr => ∃ k : Nat, k ≤ a1.size ∧ Aside0 (Lies a0_0 a0_1 a1 w.heap.size k (Stand.run a0_0 a0_1 (a1.data.toList.take k)) wr) ∧ Aside0 (Below w.heap.size w wr)) (fun wr => a1.size - wr.iterPos (w.heap.size + 3))
    case atStart =>
      refine ⟨0, Nat.zero_le _, ⟨⟨?_, ?_, ?_, ?_⟩⟩, ⟨?_⟩⟩
      · simpa using World.iter_heap (((w.alloc (.cells #[.int .i64 a0_0, .int .i64 a0_1] 25)).alloc (.cells #[.int .i64 0, .int .i64 0, .string ⟨#[]⟩, .bool false] 53)).alloc (.cells #[.int .i64 0, .int .i64 0, .string ⟨#[45]⟩, .bool true] 53)) a1 0
      · refine start_other ?_
        have := blk_new ((w.alloc (.cells #[.int .i64 a0_0, .int .i64 a0_1] 25)).alloc (.cells #[.int .i64 0, .int .i64 0, .string ⟨#[]⟩, .bool false] 53)) (.cells #[.int .i64 0, .int .i64 0, .string ⟨#[45]⟩, .bool true] 53)
        rw [show ((w.alloc (.cells #[.int .i64 a0_0, .int .i64 a0_1] 25)).alloc (.cells #[.int .i64 0, .int .i64 0, .string ⟨#[]⟩, .bool false] 53)).heap.size = w.heap.size + 2 by simp] at this
        exact this
      · refine start_other ?_
        refine blk_alloc (blk_alloc ?_ _) _
        exact blk_new _ _
      · refine start_other ?_
        refine blk_alloc ?_ _
        have := blk_new (w.alloc (.cells #[.int .i64 a0_0, .int .i64 a0_1] 25)) (.cells #[.int .i64 0, .int .i64 0, .string ⟨#[]⟩, .bool false] 53)
        simpa using this
      · refine below_alloc (w := w) ?_ _
        exact below_alloc (below_alloc (below_alloc (Below.refl _ _) _) _) _
    case round =>
      obtain ⟨k, hk, hL, hB⟩ := hrel
      have hi3 := blk_lt hL.out.it
      by_cases hp : k < a1.size
      · have h128 : (a1[k]'hp).toNat < 128 := by
          have := List.all_eq_true.1 hA.out (a1[k]'hp) (by rw [idx_data]; exact List.getElem_mem _)
          simpa using this
        have hnx0 := fun ty => Lib.run_next_ascii_at (P := Tryz.prog) wr (w.heap.size + 3) a1 k ty hL.out.it hp h128
        have hit0 := Lib.iterAt_heap wr (w.heap.size + 3) a1 k (k + 1) hL.out.it
        have hp0 := (Lib.iterAt_other wr (w.heap.size + 3) (w.heap.size + 2) a1 (k + 1) (by omega)).trans hL.out.p
        have hr0 := (Lib.iterAt_other wr (w.heap.size + 3) w.heap.size a1 (k + 1) (by omega)).trans hL.out.r
        have ho0 := (Lib.iterAt_other wr (w.heap.size + 3) (w.heap.size + 1) a1 (k + 1) (by omega)).trans hL.out.o
        have hb0 := Lib.below_iterAt hB.out (k := w.heap.size + 3) (by omega) a1 (k + 1)
        obtain ⟨W1, hW1⟩ : ∃ W1, wr.iterAt (w.heap.size + 3) a1 (k + 1) = W1 := ⟨_, rfl⟩
        rw [hW1] at hit0 hp0 hr0 ho0 hb0
        have hnx : ∀ ty, (Instr.next (.pointer (some ⟨w.heap.size + 3, 0, none⟩)) true ty).run Tryz.prog wr = .ok (.tuple #[.bool true, .int .i64 k, .int .i32 (a1[k]'hp).toNat]) W1 := fun ty => by rw [← hW1]; exact hnx0 ty
        clear hnx0 hW1
        have hst := take_snoc_b a1 k hp
        have hsn := Stand.snoc a0_0 a0_1 (a1.data.toList.take k) (a1[k]'hp)
        rw [← hst] at hsn
        have hbd := Stand.bounds a0_0 a0_1 (a1.data.toList.take k)
        have hin := Stand.inv a0_0 a0_1 (a1.data.toList.take k)
        have hle : (a1.data.toList.take k).length ≤ k := List.length_take_le _ _
        obtain ⟨st, hst2⟩ : ∃ st, Stand.run a0_0 a0_1 (a1.data.toList.take k) = st := ⟨_, rfl⟩
        rw [hst2] at hsn hbd hin hp0
        have HSN := Aside0.mk hsn
        have HI := Aside0.mk hit0
        have HP := Aside0.mk hp0
        have HR := Aside0.mk hr0
        have HO := Aside0.mk ho0
        have HB := Aside0.mk hb0
        have AIT := Aside0.mk hL.out.it
        obtain ⟨a, b, won, play⟩ := st
        simp only at hbd hin
        have ba0 : 0 ≤ a := hbd.1
        have ba1 : a ≤ 1000 := by omega
        have bb0 : 0 ≤ b := hbd.2.1
        have bb1 : b ≤ 1000 := by omega
        have hp_0 : W1.cell? ⟨w.heap.size + 2, 0, none⟩ = some (.int .i64 a) := blk_cell HP.out 0
        have hp_1 : W1.cell? ⟨w.heap.size + 2, 1, none⟩ = some (.int .i64 b) := blk_cell HP.out 1
        have hp_3 : W1.cell? ⟨w.heap.size + 2, 3, none⟩ = some (.bool play) := blk_cell HP.out 3
        have hr_0 : W1.cell? ⟨w.heap.size, 0, none⟩ = some (.int .i64 a0_0) := blk_cell HR.out 0
        have hr_1 : W1.cell? ⟨w.heap.size, 1, none⟩ = some (.int .i64 a0_1) := blk_cell HR.out 1
        have hf : ∀ i, W1.frozen? ⟨w.heap.size + 2, i, none⟩ = false := fun i => blk_frozen HP.out i
        have hz : w.heap.size + 3 < W1.heap.size := blk_lt HI.out
        clear hst hsn hbd hL hB hst2 hit0 hr0 ho0 hb0 hle
        by_cases c97 : a1[k]'hp = 97
        · have e97 : ((a1[k]'hp).toNat : Int) = 97 := by rw [c97]; rfl
          rw [e97] at hnx
          obtain rfl | rfl | rfl : won = 0 ∨ won = 1 ∨ won = 2 := by have := hin.1; omega
          · have hpl : play = true := by
              cases play
              · exact absurd rfl (hin.2 rfl)
              · rfl
            subst hpl
            have hp_2 : W1.cell? ⟨w.heap.size + 2, 2, none⟩ = some (.string ⟨#[45]⟩) := blk_cell HP.out 2
            clear hp0 hin
            go_wp2_with (go_at_call 39; (with_reducible refine (hasWon_any _ _ _ _ _ (by omega) (by omega)).mono ?_))
            rintro e w2 rfl hb0
            have hb : Below (W1.setCell ⟨w.heap.size + 2, 0, none⟩ (.int .i64 (a + 1))).heap.size (W1.setCell ⟨w.heap.size + 2, 0, none⟩ (.int .i64 (a + 1))) w2 := by
              rw [show (W1.setCell ⟨w.heap.size + 2, 0, none⟩ (.int .i64 (a + 1))).heap.size = W1.heap.size by simp]
              exact hb0
            clear hb0
            have HP2 : w2.heap[w.heap.size + 2]? = some (.cells #[.int .i64 (a + 1), .int .i64 b, .string ⟨#[45]⟩, .bool true] 53 (0, 0)) := blk_below (blk_put HP.out 0 _ rfl) hb
            have HI2 := blk_below (it_far HI.out (p := ⟨w.heap.size + 2, 0, none⟩) (by first | (simp; done) | (simp; omega)) (.int .i64 (a + 1))) hb
            have HR2 := blk_below (blk_far HR.out (p := ⟨w.heap.size + 2, 0, none⟩) (by first | (simp; done) | (simp; omega)) (.int .i64 (a + 1))) hb
            have HO2 := blk_below (blk_far HO.out (p := ⟨w.heap.size + 2, 0, none⟩) (by first | (simp; done) | (simp; omega)) (.int .i64 (a + 1))) hb
            have HB2 := below_step (below_set HB.out (g := w.heap.size + 2) (j := 0) (v := .int .i64 (a + 1)) (by omega)) hb
            have AI2 := Aside0.mk HI2
            have AP2 := Aside0.mk HP2
            have AR2 := Aside0.mk HR2
            have AO2 := Aside0.mk HO2
            have AB2 := Aside0.mk HB2
            clear HI2 HP2 HR2 HO2 HB2 hb
            have hq_0 : w2.cell? ⟨w.heap.size + 2, 0, none⟩ = some (.int .i64 (a + 1)) := blk_cell AP2.out 0
            have hq_1 : w2.cell? ⟨w.heap.size + 2, 1, none⟩ = some (.int .i64 b) := blk_cell AP2.out 1
            have hq_2 : w2.cell? ⟨w.heap.size + 2, 2, none⟩ = some (.string ⟨#[45]⟩) := blk_cell AP2.out 2
            have hs_0 : w2.cell? ⟨w.heap.size, 0, none⟩ = some (.int .i64 a0_0) := blk_cell AR2.out 0
            have hs_1 : w2.cell? ⟨w.heap.size, 1, none⟩ = some (.int .i64 a0_1) := blk_cell AR2.out 1
            have hg : ∀ i, w2.frozen? ⟨w.heap.size + 2, i, none⟩ = false := fun i => blk_frozen AP2.out i
            by_cases hw1 : wonB a0_0 a0_1 (a + 1) b = true
            · go_wp2
              go_roundw
              case rel =>
                have e : Stand.step a0_0 a0_1 ⟨a, b, 0, true⟩ (a1[k]'hp) = ⟨(a + 1), b, 1, true⟩ := by simp [Stand.step, c97, hw1]
                refine ⟨k + 1, hp, ⟨⟨it_far AI2.out (by first | (simp; done) | (simp; omega)) _, ?_, blk_far AR2.out (by first | (simp; done) | (simp; omega)) _, blk_far AO2.out (by first | (simp; done) | (simp; omega)) _⟩⟩, ⟨below_set AB2.out (by omega)⟩⟩
                rw [HSN.out, e]
                exact blk_put AP2.out 2 _ rfl
              case measure =>
                have h1 := it_pos AIT.out
                have h2 := it_pos (it_far AI2.out (p := ⟨w.heap.size + 2, 2, none⟩) (by first | (simp; done) | (simp; omega)) (.string ⟨#[97]⟩))
                rw [h1]
                refine lt_of_it h2 hp
            · replace hw1 : wonB a0_0 a0_1 (a + 1) b = false := by simpa using hw1
              go_wp2_with (go_at_call 39; (with_reducible refine (hasWon_any _ _ _ _ _ (by omega) (by omega)).mono ?_))
              rintro e w3 ⟨rfl, hb⟩
              have AP3 := Aside0.mk (blk_below AP2.out hb)
              have AI3 := Aside0.mk (blk_below AI2.out hb)
              have AR3 := Aside0.mk (blk_below AR2.out hb)
              have AO3 := Aside0.mk (blk_below AO2.out hb)
              have AB3 := Aside0.mk (below_step AB2.out hb)
              clear hb
              have hk_2 : w3.cell? ⟨w.heap.size + 2, 2, none⟩ = some (.string ⟨#[45]⟩) := blk_cell AP3.out 2
              have hl : ∀ i, w3.frozen? ⟨w.heap.size + 2, i, none⟩ = false := fun i => blk_frozen AP3.out i
              by_cases hw2 : wonB a0_0 a0_1 b (a + 1) = true
              · go_wp2
                go_roundw
                case rel =>
                  have e : Stand.step a0_0 a0_1 ⟨a, b, 0, true⟩ (a1[k]'hp) = ⟨(a + 1), b, 2, true⟩ := by simp [Stand.step, c97, hw1, hw2]
                  refine ⟨k + 1, hp, ⟨⟨it_far AI3.out (by first | (simp; done) | (simp; omega)) _, ?_, blk_far AR3.out (by first | (simp; done) | (simp; omega)) _, blk_far AO3.out (by first | (simp; done) | (simp; omega)) _⟩⟩, ⟨below_set AB3.out (by omega)⟩⟩
                  rw [HSN.out, e]
                  exact blk_put AP3.out 2 _ rfl
                case measure =>
                  have h1 := it_pos AIT.out
                  have h2 := it_pos (it_far AI3.out (p := ⟨w.heap.size + 2, 2, none⟩) (by first | (simp; done) | (simp; omega)) (.string ⟨#[98]⟩))
                  rw [h1]
                  refine lt_of_it h2 hp
              · replace hw2 : wonB a0_0 a0_1 b (a + 1) = false := by simpa using hw2
                go_wp2
                go_roundw
                case rel =>
                  have e : Stand.step a0_0 a0_1 ⟨a, b, 0, true⟩ (a1[k]'hp) = ⟨(a + 1), b, 0, true⟩ := by simp [Stand.step, c97, hw1, hw2]
                  refine ⟨k + 1, hp, ⟨⟨AI3.out, ?_, AR3.out, AO3.out⟩⟩, ⟨AB3.out⟩⟩
                  rw [HSN.out, e]
                  exact AP3.out
                case measure =>
                  have h1 := it_pos AIT.out
                  have h2 := it_pos AI3.out
                  rw [h1]
                  refine lt_of_it h2 hp
          · have hp_2 : W1.cell? ⟨w.heap.size + 2, 2, none⟩ = some (.string ⟨#[97]⟩) := blk_cell HP.out 2
            clear hp0 hin
            go_wp2_with (fail)
            go_roundw
            case rel =>
              have e : Stand.step a0_0 a0_1 ⟨a, b, 1, play⟩ (a1[k]'hp) = ⟨(a + 1), b, 1, false⟩ := by simp [Stand.step, c97]
              refine ⟨k + 1, hp, ⟨⟨it_far (it_far HI.out (by first | (simp; done) | (simp; omega)) _) (by first | (simp; done) | (simp; omega)) _, ?_, blk_far (blk_far HR.out (by first | (simp; done) | (simp; omega)) _) (by first | (simp; done) | (simp; omega)) _, blk_far (blk_far HO.out (by first | (simp; done) | (simp; omega)) _) (by first | (simp; done) | (simp; omega)) _⟩⟩, ⟨below_set (below_set HB.out (by omega)) (by omega)⟩⟩
              rw [HSN.out, e]
              exact blk_put (blk_put HP.out 3 _ rfl) 0 _ rfl
            case measure =>
              have h1 := it_pos AIT.out
              have h2 := it_pos (it_far (it_far HI.out (p := ⟨w.heap.size + 2, 3, none⟩) (by first | (simp; done) | (simp; omega)) (.bool false)) (p := ⟨w.heap.size + 2, 0, none⟩) (by first | (simp; done) | (simp; omega)) (.int .i64 (a + 1)))
              rw [h1]
              refine lt_of_it h2 hp
          · have hp_2 : W1.cell? ⟨w.heap.size + 2, 2, none⟩ = some (.string ⟨#[98]⟩) := blk_cell HP.out 2
            clear hp0 hin
            go_wp2_with (fail)
            go_roundw
            case rel =>
              have e : Stand.step a0_0 a0_1 ⟨a, b, 2, play⟩ (a1[k]'hp) = ⟨(a + 1), b, 2, false⟩ := by simp [Stand.step, c97]
              refine ⟨k + 1, hp, ⟨⟨it_far (it_far HI.out (by first | (simp; done) | (simp; omega)) _) (by first | (simp; done) | (simp; omega)) _, ?_, blk_far (blk_far HR.out (by first | (simp; done) | (simp; omega)) _) (by first | (simp; done) | (simp; omega)) _, blk_far (blk_far HO.out (by first | (simp; done) | (simp; omega)) _) (by first | (simp; done) | (simp; omega)) _⟩⟩, ⟨below_set (below_set HB.out (by omega)) (by omega)⟩⟩
              rw [HSN.out, e]
              exact blk_put (blk_put HP.out 3 _ rfl) 0 _ rfl
            case measure =>
              have h1 := it_pos AIT.out
              have h2 := it_pos (it_far (it_far HI.out (p := ⟨w.heap.size + 2, 3, none⟩) (by first | (simp; done) | (simp; omega)) (.bool false)) (p := ⟨w.heap.size + 2, 0, none⟩) (by first | (simp; done) | (simp; omega)) (.int .i64 (a + 1)))
              rw [h1]
              refine lt_of_it h2 hp
        · have e97 : (((a1[k]'hp).toNat : Int) == 97) = false := by
            rw [beq_eq_false_iff_ne]
            intro e
            apply c97
            apply UInt8.toNat_inj.1
            show _ = 97
            omega
          obtain rfl | rfl | rfl : won = 0 ∨ won = 1 ∨ won = 2 := by have := hin.1; omega
          · have hpl : play = true := by
              cases play
              · exact absurd rfl (hin.2 rfl)
              · rfl
            subst hpl
            have hp_2 : W1.cell? ⟨w.heap.size + 2, 2, none⟩ = some (.string ⟨#[45]⟩) := blk_cell HP.out 2
            clear hp0 hin
            go_wp2_with (go_at_call 39; (with_reducible refine (hasWon_any _ _ _ _ _ (by omega) (by omega)).mono ?_))
            rintro e w2 rfl hb0
            have hb : Below (W1.setCell ⟨w.heap.size + 2, 1, none⟩ (.int .i64 (b + 1))).heap.size (W1.setCell ⟨w.heap.size + 2, 1, none⟩ (.int .i64 (b + 1))) w2 := by
              rw [show (W1.setCell ⟨w.heap.size + 2, 1, none⟩ (.int .i64 (b + 1))).heap.size = W1.heap.size by simp]
              exact hb0
            clear hb0
            have HP2 : w2.heap[w.heap.size + 2]? = some (.cells #[.int .i64 a, .int .i64 (b + 1), .string ⟨#[45]⟩, .bool true] 53 (0, 0)) := blk_below (blk_put HP.out 1 _ rfl) hb
            have HI2 := blk_below (it_far HI.out (p := ⟨w.heap.size + 2, 1, none⟩) (by first | (simp; done) | (simp; omega)) (.int .i64 (b + 1))) hb
            have HR2 := blk_below (blk_far HR.out (p := ⟨w.heap.size + 2, 1, none⟩) (by first | (simp; done) | (simp; omega)) (.int .i64 (b + 1))) hb
            have HO2 := blk_below (blk_far HO.out (p := ⟨w.heap.size + 2, 1, none⟩) (by first | (simp; done) | (simp; omega)) (.int .i64 (b + 1))) hb
            have HB2 := below_step (below_set HB.out (g := w.heap.size + 2) (j := 1) (v := .int .i64 (b + 1)) (by omega)) hb
            have AI2 := Aside0.mk HI2
            have AP2 := Aside0.mk HP2
            have AR2 := Aside0.mk HR2
            have AO2 := Aside0.mk HO2
            have AB2 := Aside0.mk HB2
            clear HI2 HP2 HR2 HO2 HB2 hb
            have hq_0 : w2.cell? ⟨w.heap.size + 2, 0, none⟩ = some (.int .i64 a) := blk_cell AP2.out 0
            have hq_1 : w2.cell? ⟨w.heap.size + 2, 1, none⟩ = some (.int .i64 (b + 1)) := blk_cell AP2.out 1
            have hq_2 : w2.cell? ⟨w.heap.size + 2, 2, none⟩ = some (.string ⟨#[45]⟩) := blk_cell AP2.out 2
            have hs_0 : w2.cell? ⟨w.heap.size, 0, none⟩ = some (.int .i64 a0_0) := blk_cell AR2.out 0
            have hs_1 : w2.cell? ⟨w.heap.size, 1, none⟩ = some (.int .i64 a0_1) := blk_cell AR2.out 1
            have hg : ∀ i, w2.frozen? ⟨w.heap.size + 2, i, none⟩ = false := fun i => blk_frozen AP2.out i
            by_cases hw1 : wonB a0_0 a0_1 a (b + 1) = true
            · go_wp2
              go_roundw
              case rel =>
                have e : Stand.step a0_0 a0_1 ⟨a, b, 0, true⟩ (a1[k]'hp) = ⟨a, (b + 1), 1, true⟩ := by simp [Stand.step, c97, hw1]
                refine ⟨k + 1, hp, ⟨⟨it_far AI2.out (by first | (simp; done) | (simp; omega)) _, ?_, blk_far AR2.out (by first | (simp; done) | (simp; omega)) _, blk_far AO2.out (by first | (simp; done) | (simp; omega)) _⟩⟩, ⟨below_set AB2.out (by omega)⟩⟩
                rw [HSN.out, e]
                exact blk_put AP2.out 2 _ rfl
              case measure =>
                have h1 := it_pos AIT.out
                have h2 := it_pos (it_far AI2.out (p := ⟨w.heap.size + 2, 2, none⟩) (by first | (simp; done) | (simp; omega)) (.string ⟨#[97]⟩))
                rw [h1]
                refine lt_of_it h2 hp
            · replace hw1 : wonB a0_0 a0_1 a (b + 1) = false := by simpa using hw1
              go_wp2_with (go_at_call 39; (with_reducible refine (hasWon_any _ _ _ _ _ (by omega) (by omega)).mono ?_))
              rintro e w3 ⟨rfl, hb⟩
              have AP3 := Aside0.mk (blk_below AP2.out hb)
              have AI3 := Aside0.mk (blk_below AI2.out hb)
              have AR3 := Aside0.mk (blk_below AR2.out hb)
              have AO3 := Aside0.mk (blk_below AO2.out hb)
              have AB3 := Aside0.mk (below_step AB2.out hb)
              clear hb
              have hk_2 : w3.cell? ⟨w.heap.size + 2, 2, none⟩ = some (.string ⟨#[45]⟩) := blk_cell AP3.out 2
              have hl : ∀ i, w3.frozen? ⟨w.heap.size + 2, i, none⟩ = false := fun i => blk_frozen AP3.out i
              by_cases hw2 : wonB a0_0 a0_1 (b + 1) a = true
              · go_wp2
                go_roundw
                case rel =>
                  have e : Stand.step a0_0 a0_1 ⟨a, b, 0, true⟩ (a1[k]'hp) = ⟨a, (b + 1), 2, true⟩ := by simp [Stand.step, c97, hw1, hw2]
                  refine ⟨k + 1, hp, ⟨⟨it_far AI3.out (by first | (simp; done) | (simp; omega)) _, ?_, blk_far AR3.out (by first | (simp; done) | (simp; omega)) _, blk_far AO3.out (by first | (simp; done) | (simp; omega)) _⟩⟩, ⟨below_set AB3.out (by omega)⟩⟩
                  rw [HSN.out, e]
                  exact blk_put AP3.out 2 _ rfl
                case measure =>
                  have h1 := it_pos AIT.out
                  have h2 := it_pos (it_far AI3.out (p := ⟨w.heap.size + 2, 2, none⟩) (by first | (simp; done) | (simp; omega)) (.string ⟨#[98]⟩))
                  rw [h1]
                  refine lt_of_it h2 hp
              · replace hw2 : wonB a0_0 a0_1 (b + 1) a = false := by simpa using hw2
                go_wp2
                go_roundw
                case rel =>
                  have e : Stand.step a0_0 a0_1 ⟨a, b, 0, true⟩ (a1[k]'hp) = ⟨a, (b + 1), 0, true⟩ := by simp [Stand.step, c97, hw1, hw2]
                  refine ⟨k + 1, hp, ⟨⟨AI3.out, ?_, AR3.out, AO3.out⟩⟩, ⟨AB3.out⟩⟩
                  rw [HSN.out, e]
                  exact AP3.out
                case measure =>
                  have h1 := it_pos AIT.out
                  have h2 := it_pos AI3.out
                  rw [h1]
                  refine lt_of_it h2 hp
          · have hp_2 : W1.cell? ⟨w.heap.size + 2, 2, none⟩ = some (.string ⟨#[97]⟩) := blk_cell HP.out 2
            clear hp0 hin
            go_wp2_with (fail)
            go_roundw
            case rel =>
              have e : Stand.step a0_0 a0_1 ⟨a, b, 1, play⟩ (a1[k]'hp) = ⟨a, (b + 1), 1, false⟩ := by simp [Stand.step, c97]
              refine ⟨k + 1, hp, ⟨⟨it_far (it_far HI.out (by first | (simp; done) | (simp; omega)) _) (by first | (simp; done) | (simp; omega)) _, ?_, blk_far (blk_far HR.out (by first | (simp; done) | (simp; omega)) _) (by first | (simp; done) | (simp; omega)) _, blk_far (blk_far HO.out (by first | (simp; done) | (simp; omega)) _) (by first | (simp; done) | (simp; omega)) _⟩⟩, ⟨below_set (below_set HB.out (by omega)) (by omega)⟩⟩
              rw [HSN.out, e]
              exact blk_put (blk_put HP.out 3 _ rfl) 1 _ rfl
            case measure =>
              have h1 := it_pos AIT.out
              have h2 := it_pos (it_far (it_far HI.out (p := ⟨w.heap.size + 2, 3, none⟩) (by first | (simp; done) | (simp; omega)) (.bool false)) (p := ⟨w.heap.size + 2, 1, none⟩) (by first | (simp; done) | (simp; omega)) (.int .i64 (b + 1)))
              rw [h1]
              refine lt_of_it h2 hp
          · have hp_2 : W1.cell? ⟨w.heap.size + 2, 2, none⟩ = some (.string ⟨#[98]⟩) := blk_cell HP.out 2
            clear hp0 hin
            go_wp2_with (fail)
            go_roundw
            case rel =>
              have e : Stand.step a0_0 a0_1 ⟨a, b, 2, play⟩ (a1[k]'hp) = ⟨a, (b + 1), 2, false⟩ := by simp [Stand.step, c97]
              refine ⟨k + 1, hp, ⟨⟨it_far (it_far HI.out (by first | (simp; done) | (simp; omega)) _) (by first | (simp; done) | (simp; omega)) _, ?_, blk_far (blk_far HR.out (by first | (simp; done) | (simp; omega)) _) (by first | (simp; done) | (simp; omega)) _, blk_far (blk_far HO.out (by first | (simp; done) | (simp; omega)) _) (by first | (simp; done) | (simp; omega)) _⟩⟩, ⟨below_set (below_set HB.out (by omega)) (by omega)⟩⟩
              rw [HSN.out, e]
              exact blk_put (blk_put HP.out 3 _ rfl) 1 _ rfl
            case measure =>
              have h1 := it_pos AIT.out
              have h2 := it_pos (it_far (it_far HI.out (p := ⟨w.heap.size + 2, 3, none⟩) (by first | (simp; done) | (simp; omega)) (.bool false)) (p := ⟨w.heap.size + 2, 1, none⟩) (by first | (simp; done) | (simp; omega)) (.int .i64 (b + 1)))
              rw [h1]
              refine lt_of_it h2 hp
      · have hnx : ∀ ty, (Instr.next (.pointer (some ⟨w.heap.size + 3, 0, none⟩)) true ty).run Tryz.prog wr = .ok (.tuple #[.bool false]) wr := fun ty => Lib.run_next_end_at wr (w.heap.size + 3) a1 k ty hL.out.it hp
        obtain rfl : k = a1.size := by omega
        have htake : a1.data.toList.take a1.size = a1.data.toList := List.take_of_length_le (Nat.le_refl _)
        rw [htake] at hL
        have HP := Aside0.mk hL.out.p
        have HO := Aside0.mk hL.out.o
        have HT := Aside0.mk htake
        clear htake hL
        have hp_0 : wr.cell? ⟨w.heap.size + 2, 0, none⟩ = some (.int .i64 (Stand.run a0_0 a0_1 a1.data.toList).a) := blk_cell HP.out 0
        have hp_1 : wr.cell? ⟨w.heap.size + 2, 1, none⟩ = some (.int .i64 (Stand.run a0_0 a0_1 a1.data.toList).b) := blk_cell HP.out 1
        have hp_2 : wr.cell? ⟨w.heap.size + 2, 2, none⟩ = some (.string (wonText (Stand.run a0_0 a0_1 a1.data.toList).won)) := blk_cell HP.out 2
        have hp_3 : wr.cell? ⟨w.heap.size + 2, 3, none⟩ = some (.bool (Stand.run a0_0 a0_1 a1.data.toList).play) := blk_cell HP.out 3
        have hf : ∀ i, wr.frozen? ⟨w.heap.size + 1, i, none⟩ = false := fun i => blk_frozen HO.out i
        have ho_0 : wr.cell? ⟨w.heap.size + 1, 0, none⟩ = some (.int .i64 0) := blk_cell HO.out 0
        have ho_1 : wr.cell? ⟨w.heap.size + 1, 1, none⟩ = some (.int .i64 0) := blk_cell HO.out 1
        have ho_2 : wr.cell? ⟨w.heap.size + 1, 2, none⟩ = some (.string ⟨#[]⟩) := blk_cell HO.out 2
        have ho_3 : wr.cell? ⟨w.heap.size + 1, 3, none⟩ = some (.bool false) := blk_cell HO.out 3
        go_wp2
        refine bodyPost_ret (results_cell_row rfl _ _ (w.heap.size + 1) 53 #[.int .i64 (Stand.run a0_0 a0_1 a1.data.toList).a, .int .i64 (Stand.run a0_0 a0_1 a1.data.toList).b, .string (wonText (Stand.run a0_0 a0_1 a1.data.toList).won), .bool (Stand.run a0_0 a0_1 a1.data.toList).play] (0, 0) _ rfl (blk_put (blk_put (blk_put (blk_put HO.out 0 _ rfl) 1 _ rfl) 2 _ rfl) 3 _ rfl) Tryz.underlying53 rfl (by kernel_rfl)) rfl ?_
        exact ⟨rfl, below_set (below_set (below_set (below_set hB.out (by omega)) (by omega)) (by omega)) (by omega)⟩
  · rw [if_neg c] at h
    cases h
theorem play_field (a b : Int) (s : ByteArray) (p : Bool) (w : World) : (Instr.field 53 (.agg #[.int .i64 a, .int .i64 b, .string s, .bool p]) 3).run Tryz.prog w = .ok (.bool p) w := by kernel_rfl
end Go.Proofs.YtiknaldhjbdnbaaGreatDoor
