-- Written by a program of this session (wip/tools/gprint.sh) out of the translation, with some contracts given by hand.
import Derived.Test.YtmijfimjlenmpaaQFnExactMostPointsx0
import Derived.Test.YtmijfimjlenmpaaGTL
import Derived.Test.YtmijfimjlenmpaaGShort
namespace Go.Proofs.Ytmijfimjlenmpaa.QFnExactMostPoints
open Go.RowKit Go.Proofs.YtmijfimjlenmpaaW.PrintWords Go.Proofs.YtmijfimjlenmpaaW.PrintLast Go.Proofs.YtmijfimjlenmpaaW.PrintMore Go.Proofs.Ytmijfimjlenmpaa.Sh
attribute [local go_sem] max2_int min2_int max_two min_two max_three min_three max_four min_four   -- for this text's walks alone
set_option linter.unusedVariables false
set_option linter.unusedSimpArgs false

/-! ### impl_GoalsOfTeams: function 44 -/
mutual
def impl_GoalsOfTeams.l0 : Nat → List (List Int) → Int → Int → Int → Int → List (S68) → Option ((List (List Int)) × Bool)
 | 0, _, _, _, _, _, _ => none
 | k + 1, x4, x15, x16, x168000, x168001, x168002 => if x16 < x15 then (if 0 ≤ x16 then (if x16 < (x4.length : Int) then (impl_GoalsOfTeams.l0 k (x4.set (x16 : Int).toNat (([0, 0] : List Int))) x15 (wrap64 (x16 + 1)) x168000 x168001 x168002) else (none)) else (none)) else (impl_GoalsOfTeams.l1 k x4 x168002 (x168002.length : Int) 0)
def impl_GoalsOfTeams.l1 : Nat → List (List Int) → List (S68) → Int → Int → Option ((List (List Int)) × Bool)
 | 0, _, _, _, _ => none
 | k + 1, x4, x25, x26, x27 => if x27 < x26 then (if 0 ≤ x27 then (if x27 < (x25.length : Int) then (if 0 ≤ ((rd_T68 x25 x27).f0) then (if ((rd_T68 x25 x27).f0) < (x4.length : Int) then (if 0 < ((rd_L3 x4 ((rd_T68 x25 x27).f0)).length : Int) then ((some (x4.set (((rd_T68 x25 x27).f0) : Int).toNat ((rd_L3 x4 ((rd_T68 x25 x27).f0)).set (0 : Int).toNat (wrap64 ((rd (rd_L3 x4 ((rd_T68 x25 x27).f0)) 0) + ((rd_T68 x25 x27).f2)))) : List (List Int))).bind fun y182 => (if 1 < ((rd_L3 y182 ((rd_T68 x25 x27).f0)).length : Int) then ((some (y182.set (((rd_T68 x25 x27).f0) : Int).toNat ((rd_L3 y182 ((rd_T68 x25 x27).f0)).set (1 : Int).toNat (wrap64 ((rd (rd_L3 y182 ((rd_T68 x25 x27).f0)) 1) + ((rd_T68 x25 x27).f3)))) : List (List Int))).bind fun y187 => (if 0 ≤ ((rd_T68 x25 x27).f1) then (if ((rd_T68 x25 x27).f1) < (x4.length : Int) then (if 0 < ((rd_L3 y187 ((rd_T68 x25 x27).f1)).length : Int) then ((some (y187.set (((rd_T68 x25 x27).f1) : Int).toNat ((rd_L3 y187 ((rd_T68 x25 x27).f1)).set (0 : Int).toNat (wrap64 ((rd (rd_L3 y187 ((rd_T68 x25 x27).f1)) 0) + ((rd_T68 x25 x27).f3)))) : List (List Int))).bind fun y192 => (if 1 < ((rd_L3 y192 ((rd_T68 x25 x27).f1)).length : Int) then (impl_GoalsOfTeams.l1 k (y192.set (((rd_T68 x25 x27).f1) : Int).toNat ((rd_L3 y192 ((rd_T68 x25 x27).f1)).set (1 : Int).toNat (wrap64 ((rd (rd_L3 y192 ((rd_T68 x25 x27).f1)) 1) + ((rd_T68 x25 x27).f2))))) x25 x26 (wrap64 (x27 + 1))) else (none))) else (none)) else (none)) else (none))) else (none))) else (none)) else (none)) else (none)) else (none)) else (none)) else (some (x4, true))
end
def impl_GoalsOfTeams.f (k : Nat) (a0_0 : Int) (a0_1 : Int) (l0_2 : List (S68)) : Option ((List (List Int)) × Bool) := (impl_IsLeague.f k a0_0 a0_1 l0_2).bind fun t168 => (if t168 = true then (if 0 ≤ a0_0 then (if (a0_0 : Int).toNat ≤ 11728124029610 then ((some (List.replicate (a0_0 : Int).toNat [] : List (List Int))).bind fun y169 => (impl_GoalsOfTeams.l0 k y169 (y169.length : Int) 0 a0_0 a0_1 l0_2)) else (none)) else (none)) else (some (([] : List (List Int)), false)))
theorem impl_GoalsOfTeams.mono_l : ∀ k, (∀ y0 y1 y2 y3 y4 y5, LeO (impl_GoalsOfTeams.l0 k y0 y1 y2 y3 y4 y5) (impl_GoalsOfTeams.l0 (k + 1) y0 y1 y2 y3 y4 y5)) ∧ (∀ y0 y1 y2 y3, LeO (impl_GoalsOfTeams.l1 k y0 y1 y2 y3) (impl_GoalsOfTeams.l1 (k + 1) y0 y1 y2 y3))
 | 0 => ⟨fun _ _ _ _ _ _ r h => by simp [impl_GoalsOfTeams.l0] at h, fun _ _ _ _ r h => by simp [impl_GoalsOfTeams.l1] at h⟩
 | k + 1 => by
  obtain ⟨ih0, ih1⟩ := impl_GoalsOfTeams.mono_l k
  refine ⟨?_, ?_⟩
  ·
   intro y0 y1 y2 y3 y4 y5
   unfold impl_GoalsOfTeams.l0
   repeat' first
   | (with_reducible exact ih0 _ _ _ _ _ _)
   | (with_reducible exact ih1 _ _ _ _)
   | (with_reducible exact impl_IsLeague.mono _ _ _ _)
   | (with_reducible exact LeO.refl _)
   | (with_reducible exact LeO.none _)
   | (with_reducible refine LeO.ite ?_ ?_)
   | (with_reducible refine LeO.bind ?_ (fun _ => ?_))
   | exact ih0 _ _ _ _ _ _
   | exact ih1 _ _ _ _
   | exact impl_IsLeague.mono _ _ _ _
   | exact LeO.none _
   | refine LeO.ite ?_ ?_
   | refine LeO.bind ?_ (fun _ => ?_)
  ·
   intro y0 y1 y2 y3
   unfold impl_GoalsOfTeams.l1
   repeat' first
   | (with_reducible exact ih0 _ _ _ _ _ _)
   | (with_reducible exact ih1 _ _ _ _)
   | (with_reducible exact impl_IsLeague.mono _ _ _ _)
   | (with_reducible exact LeO.refl _)
   | (with_reducible exact LeO.none _)
   | (with_reducible refine LeO.ite ?_ ?_)
   | (with_reducible refine LeO.bind ?_ (fun _ => ?_))
   | exact ih0 _ _ _ _ _ _
   | exact ih1 _ _ _ _
   | exact impl_IsLeague.mono _ _ _ _
   | exact LeO.none _
   | refine LeO.ite ?_ ?_
   | refine LeO.bind ?_ (fun _ => ?_)
theorem impl_GoalsOfTeams.mono : ∀ a0 a1 a2 k, LeO (impl_GoalsOfTeams.f k a0 a1 a2) (impl_GoalsOfTeams.f (k + 1) a0 a1 a2) := by
 intro a0 a1 a2 k
 obtain ⟨ih0, ih1⟩ := impl_GoalsOfTeams.mono_l k
 unfold impl_GoalsOfTeams.f
 repeat' first
   | (with_reducible exact ih0 _ _ _ _ _ _)
   | (with_reducible exact ih1 _ _ _ _)
   | (with_reducible exact impl_IsLeague.mono _ _ _ _)
   | (with_reducible exact LeO.refl _)
   | (with_reducible exact LeO.none _)
   | (with_reducible refine LeO.ite ?_ ?_)
   | (with_reducible refine LeO.bind ?_ (fun _ => ?_))
   | exact ih0 _ _ _ _ _ _
   | exact ih1 _ _ _ _
   | exact impl_IsLeague.mono _ _ _ _
   | exact LeO.none _
   | refine LeO.ite ?_ ?_
   | refine LeO.bind ?_ (fun _ => ?_)
def impl_GoalsOfTeams.T12 : Bool × List (List Nat × List Nat) := (true, [([], []), ([], []), ([1], [1]), ([0, 2], [0, 2]), ([3], [3]), ([4], [4]), ([5], [5]), ([], []), ([7], [7]), ([6, 8], [6, 8]), ([4, 0, 1, 2, 3, 4, 5, 6, 7, 8, 9], [4]), ([10, 9, 0, 1, 2, 3, 4, 5, 6, 7, 8, 9], [9, 10])])
def impl_GoalsOfTeams.B12 : List Nat := [0, 0, 2, 7, 15, 31, 63, 0, 128, 511, 1023, 2047]
theorem impl_GoalsOfTeams.tab12 : rtab .any (opsOf Try.f44 12) = impl_GoalsOfTeams.T12 := by kernel_rfl
theorem impl_GoalsOfTeams.bits12 : waitsOk impl_GoalsOfTeams.T12.2 impl_GoalsOfTeams.B12 = true := by kernel_rfl
def impl_GoalsOfTeams.T13 : Bool × List (List Nat × List Nat) := (true, [([], []), ([], []), ([1], [1]), ([0, 2], [0, 2]), ([3], [3]), ([4], [4]), ([5], [5]), ([], []), ([7], [7]), ([6, 8], [6, 8]), ([4, 0, 1, 2, 3, 4, 5, 6, 7, 8, 9], [4]), ([10, 9, 0, 1, 2, 3, 4, 5, 6, 7, 8, 9], [9, 10])])
def impl_GoalsOfTeams.B13 : List Nat := [0, 0, 2, 7, 15, 31, 63, 0, 128, 511, 1023, 2047]
theorem impl_GoalsOfTeams.tab13 : rtab .any (opsOf Try.f44 13) = impl_GoalsOfTeams.T13 := by kernel_rfl
theorem impl_GoalsOfTeams.bits13 : waitsOk impl_GoalsOfTeams.T13.2 impl_GoalsOfTeams.B13 = true := by kernel_rfl
def impl_GoalsOfTeams.T14 : Bool × List (List Nat × List Nat) := (true, [([], []), ([], []), ([1], [1]), ([0, 2], [0, 2]), ([3], [3]), ([4], [4]), ([5], [5]), ([], []), ([7], [7]), ([6, 8], [6, 8]), ([4, 0, 1, 2, 3, 4, 5, 6, 7, 8, 9], [4]), ([10, 9, 0, 1, 2, 3, 4, 5, 6, 7, 8, 9], [9, 10])])
def impl_GoalsOfTeams.B14 : List Nat := [0, 0, 2, 7, 15, 31, 63, 0, 128, 511, 1023, 2047]
theorem impl_GoalsOfTeams.tab14 : rtab .any (opsOf Try.f44 14) = impl_GoalsOfTeams.T14 := by kernel_rfl
theorem impl_GoalsOfTeams.bits14 : waitsOk impl_GoalsOfTeams.T14.2 impl_GoalsOfTeams.B14 = true := by kernel_rfl
def impl_GoalsOfTeams.T15 : Bool × List (List Nat × List Nat) := (true, [([], []), ([], []), ([1], [1]), ([0, 2], [0, 2]), ([3], [3]), ([4], [4]), ([5], [5]), ([], []), ([7], [7]), ([6, 8], [6, 8]), ([4, 0, 1, 2, 3, 4, 5, 6, 7, 8, 9], [4]), ([10, 9, 0, 1, 2, 3, 4, 5, 6, 7, 8, 9], [9, 10])])
def impl_GoalsOfTeams.B15 : List Nat := [0, 0, 2, 7, 15, 31, 63, 0, 128, 511, 1023, 2047]
theorem impl_GoalsOfTeams.tab15 : rtab .any (opsOf Try.f44 15) = impl_GoalsOfTeams.T15 := by kernel_rfl
theorem impl_GoalsOfTeams.bits15 : waitsOk impl_GoalsOfTeams.T15.2 impl_GoalsOfTeams.B15 = true := by kernel_rfl
set_option maxHeartbeats 8000000 in
set_option maxRecDepth 100000 in
theorem impl_GoalsOfTeams.calls (k : Nat) (a0_0 : Int) (a0_1 : Int) (A0_2 : Option Addr) (c0_2 : Nat) (l0_2 : List (S68)) (r1 : List (List Int)) (r2 : Bool) (w : World) (hr0_2 : Kd.C k68 w A0_2 l0_2.length l0_2) (hc0_2 : l0_2.length ≤ c0_2) (h : impl_GoalsOfTeams.f k a0_0 a0_1 l0_2 = some (r1, r2)) :
  Calls Try.prog 44 #[.agg #[.int .i64 a0_0, .int .i64 a0_1, .slice A0_2 l0_2.length c0_2]] w fun e w' => ∃ v0_ : Value, e = .returned (.tuple #[v0_, .bool r2]) ∧ Kd.S (Kd.slice 3 (Kd.int .i64)) 36 w' w.heap.size (fun _ => True) v0_ r1 ∧ Below w.heap.size w w' := by
 have hu35 := Try.underlying30; have hu51 := Try.underlying68; have HR0_2 := a_ hr0_2; have HC0_2 := a_ hc0_2; clear hr0_2 hc0_2; have HB := a_ (Below.refl w.heap.size w); have H : ((impl_IsLeague.f k a0_0 a0_1 l0_2).bind fun t168 => (if t168 = true then (if 0 ≤ a0_0 then (if (a0_0 : Int).toNat ≤ 11728124029610 then ((some (List.replicate (a0_0 : Int).toNat [] : List (List Int))).bind fun y169 => (impl_GoalsOfTeams.l0 k y169 (y169.length : Int) 0 a0_0 a0_1 l0_2)) else (none)) else (none)) else (some (([] : List (List Int)), false)))) = some (r1, r2) := h; clear h; replace H := Option.bind_eq_some_iff.mp H; obtain ⟨t168, A20, H⟩ := H; replace H : (if t168 = true then (if 0 ≤ a0_0 then (if (a0_0 : Int).toNat ≤ 11728124029610 then ((some (List.replicate (a0_0 : Int).toNat [] : List (List Int))).bind fun y169 => (impl_GoalsOfTeams.l0 k y169 (y169.length : Int) 0 a0_0 a0_1 l0_2)) else (none)) else (none)) else (some (([] : List (List Int)), false))) = some (r1, r2) := H; have A2 := a_ A20; clear A20
 by_cases c3 : t168 = true
 ·
  subst c3; have H1 : (if 0 ≤ a0_0 then (if (a0_0 : Int).toNat ≤ 11728124029610 then ((some (List.replicate (a0_0 : Int).toNat [] : List (List Int))).bind fun y169 => (impl_GoalsOfTeams.l0 k y169 (y169.length : Int) 0 a0_0 a0_1 l0_2)) else (none)) else (none)) = some (r1, r2) := by rw [if_pos rfl] at H; exact H
  clear H; have H := H1; clear H1
  by_cases c4 : 0 ≤ a0_0
  ·
   rw [if_pos c4] at H; have c4b0 := eq_true c4; have c4b1 : decide (0 ≤ a0_0) = true := decide_eq_true c4; clear c4
   by_cases c5 : (a0_0 : Int).toNat ≤ 11728124029610
   ·
    rw [if_pos c5] at H; have c5b0 := eq_true c5; have c5b1 : decide ((a0_0 : Int).toNat ≤ 11728124029610) = true := decide_eq_true c5; clear c5; obtain ⟨y169, hy169⟩ : ∃ y_ : List (List Int), y_ = (List.replicate (a0_0 : Int).toNat []) := ⟨_, rfl⟩; replace H : (impl_GoalsOfTeams.l0 k y169 (y169.length : Int) 0 a0_0 a0_1 l0_2) = some (r1, r2) := by first | (rw [hy169]; with_reducible exact H) | (have H2_ := (Option.bind_some _ _).symm.trans H; rw [hy169]; with_reducible exact H2_) | (have H2_ := (Option.bind_some _ _).symm.trans H; with_reducible exact H2_) | with_reducible exact H | (rw [hy169]; exact H) | exact H
    have Ny169 := a_ hy169; clear hy169; have H' := a_ H; clear H
    go_enter Try.func44, Try.ntmps44
    go_wp2_with (first | ((with_reducible refine gate_dst (N := 1) rfl ?_); refine box_event ?hg (N := 1) ?hd (cs := #[.int .i64 a0_0, .int .i64 a0_1, .slice A0_2 l0_2.length c0_2]) (t := 30) ?hr ?_; (case hd => rfl); (case hg => rfl); (case hr => first | (go_simp; done) | (go_simp; rfl)); intro gb167 hg w6 hbox hb; have n0_ := a_ (below_step (L_ HB.out (Nat.le_refl _) (Nat.le_refl _) (Nat.le_refl _)) hb); have n1_ := a_ (hbox); have n2_ := a_ ((by rw [hg]; exact (below_size (L_ HB.out (Nat.le_refl _) (Nat.le_refl _) (Nat.le_refl _))) : w.heap.size ≤ gb167)); have n3_ := a_ ((by rw [hg]; exact (below_size (L_ HB.out (Nat.le_refl _) (Nat.le_refl _) (Nat.le_refl _))) : w.heap.size ≤ gb167)); clear HB; have HB := n0_; have BK167 := n1_; have GW167 := n2_; have GE167 := n3_; clear n0_ n1_ n2_ n3_; clear hb hbox hg; have hcz7_0 : w6.cell? ⟨gb167, 0, none⟩ = some (.int .i64 a0_0) := c_ BK167.out 0; have hcz7_1 : w6.cell? ⟨gb167, 1, none⟩ = some (.int .i64 a0_1) := c_ BK167.out 1; have hcz7_2 : w6.cell? ⟨gb167, 2, none⟩ = some (.slice A0_2 l0_2.length c0_2) := c_ BK167.out 2; have hfz7_0 := blk_frozen BK167.out 0; have hfz7_1 := blk_frozen BK167.out 1; have hfz7_2 := blk_frozen BK167.out 2) | ((with_reducible refine gate_callee (f := 51) rfl ?_); refine goesL_ (some 9) rfl rfl Try.func51 (by kernel_rfl) rfl #[.agg #[.int .i64 a0_0, .int .i64 a0_1, .slice A0_2 l0_2.length c0_2]] rfl (by (try simp only [m1_, m2_, m3_]); first | done | rfl) ?_; (with_reducible refine (impl_IsLeague.calls k a0_0 a0_1 _ _ l0_2 true _ ?side1 ?side2 A2.out).mono ?_); (case side1 => repeat (first | exact (Kd.C_below HR0_2.out HB.out) | (with_reducible refine Kd.C_alloc ?_ _) | (with_reducible refine Kd.C_drewN ?_ _) | (with_reducible refine Kd.C_drew ?_))); (case side2 => exact HC0_2.out); rintro e w8 ⟨rfl, hb⟩; refine ⟨_, rfl, ?_⟩; have n0_ := bb_ BK167 hb; have n1_ := a_ (below_step (L_ HB.out GE167.out GE167.out GE167.out) hb); clear BK167; clear HB; have BK167 := n0_; have HB := n1_; clear n0_ n1_; (try clear hb); (try clear hb2); (try clear hk); (try clear hi); have hcz9_0 : w8.cell? ⟨gb167, 0, none⟩ = some (.int .i64 a0_0) := c_ BK167.out 0; have hcz9_1 : w8.cell? ⟨gb167, 1, none⟩ = some (.int .i64 a0_1) := c_ BK167.out 1; have hcz9_2 : w8.cell? ⟨gb167, 2, none⟩ = some (.slice A0_2 l0_2.length c0_2) := c_ BK167.out 2; have hfz9_0 := blk_frozen BK167.out 0; have hfz9_1 := blk_frozen BK167.out 1; have hfz9_2 := blk_frozen BK167.out 2) | ((with_reducible refine gate_dst (N := 13) rfl ?_); refine Kd.S_make (Kd.slice 3 (Kd.int .i64)) _ 36 rfl (N := 13) rfl 46 _ _ rfl a0_0 rfl rfl Try.underlying46 (.slice none 0 0) 24 info36 rfl (by decide) (by omega) [] (ok := fun _ => True) (okp := fun _ => True) ⟨_, rfl, Kd.R_nil _ _ _ _ _⟩ (fun _ hk => hk) trivial (of_decide_eq_true (by first | (with_reducible assumption) | assumption)) (Nat.le_trans (Nat.mul_le_mul_right _ (of_decide_eq_true (by first | (with_reducible assumption) | assumption) : a0_0.toNat ≤ 11728124029610)) (by omega)) (Below.refl _ _) (Nat.le_refl _) ?_; intro v170 w10 ho11 hb hg_ hnew_; clear hg_ hnew_; (first | rw [← Ny169.out] at ho11 | (simp only [Int.reduceToNat] at ho11; rw [← Ny169.out] at ho11)); have n0_ := a_ (Kd.S_lower ho11 (below_size (L_ HB.out GE167.out GE167.out GE167.out))); have n1_ := bb_ BK167 hb; have n2_ := a_ (below_step (L_ HB.out GE167.out GE167.out GE167.out) hb); clear BK167; clear HB; have HO171 := n0_; have BK167 := n1_; have HB := n2_; clear n0_ n1_ n2_; clear hb ho11; obtain ⟨Ao12, co12, eo12⟩ := Kd.S_slice HO171.out; subst eo12))
    go_loopg [16] k (fun kq v16 w' => ∃ (x4_1 : List (List Int)) (x16_1 : Int), v16 = .int .i64 x16_1 ∧ Aside0 (impl_GoalsOfTeams.l0 kq x4_1 (y169.length : Int) x16_1 a0_0 a0_1 l0_2 = some (r1, r2)) ∧ Aside0 (kq ≤ k) ∧ Aside0 (Kd.S (Kd.slice 3 (Kd.int .i64)) 36 w' w.heap.size (fun _ => True) (.slice Ao12 y169.length co12) x4_1) ∧ Aside0 (w'.heap[gb167]? = some (.cells #[.int .i64 a0_0, .int .i64 a0_1, (.slice A0_2 l0_2.length c0_2)] 30 (0, 0))) ∧ Aside0 (Below w.heap.size w w'))
    case atStart => exact ⟨(y169), (0), (by first | rfl | (simp; done) | (simp [*]; done)), H', ⟨Nat.le_refl _⟩, ⟨S_ HO171.out⟩, ⟨B_ BK167.out⟩, ⟨L_ HB.out GE167.out GE167.out GE167.out⟩⟩
    case round =>
     clear H'
     try clear c2
     try clear p2
     try clear c3
     try clear c4
     try clear c4b0
     try clear c4b1
     try clear c5
     try clear c5b0
     try clear c5b1
     try clear hcz7_0 hcz7_1 hcz7_2
     try clear hcz9_0 hcz9_1 hcz9_2
     try clear hfz7_0 hfz7_1 hfz7_2
     try clear hfz9_0 hfz9_1 hfz9_2
     obtain ⟨x4_1, x16_1, rfl, HA, HK1, HO_4, BK167, HB⟩ := hrel; have hl4_1 := (Kd.S_reads' HO_4.out).1; rw [hl4_1] at HO_4
     (try simp only [hl4_1])
     (try simp only [hl4_1] at BK167)
     cases gk with
     | zero => exact absurd HA.out (by simp [impl_GoalsOfTeams.l0])
     | succ k1 =>
      have H := HA.out; clear HA; simp only [impl_GoalsOfTeams.l0] at H
      by_cases c13 : x16_1 < (y169.length : Int)
      ·
       rw [if_pos c13] at H; have c13b0 : decide (x16_1 < (y169.length : Int)) = true := decide_eq_true c13; clear c13; obtain ⟨y172, hy172⟩ : ∃ y_ : List Int, y_ = (([0, 0] : List Int)) := ⟨_, rfl⟩; replace H : (if 0 ≤ x16_1 then (if x16_1 < (x4_1.length : Int) then (impl_GoalsOfTeams.l0 k1 (x4_1.set (x16_1 : Int).toNat y172) (y169.length : Int) (wrap64 (x16_1 + 1)) a0_0 a0_1 l0_2) else (none)) else (none)) = some (r1, r2) := by first | (rw [hy172]; with_reducible exact H) | (have H2_ := (Option.bind_some _ _).symm.trans H; rw [hy172]; with_reducible exact H2_) | (have H2_ := (Option.bind_some _ _).symm.trans H; with_reducible exact H2_) | with_reducible exact H | (rw [hy172]; exact H) | exact H
       have Ny172 := a_ hy172; clear hy172
       by_cases c14 : 0 ≤ x16_1
       ·
        rw [if_pos c14] at H; have c14b0 : decide (0 ≤ x16_1) = true := decide_eq_true c14; clear c14
        by_cases c15 : x16_1 < (x4_1.length : Int)
        ·
         rw [if_pos c15] at H; have c15b0 : decide (x16_1 < (x4_1.length : Int)) = true := decide_eq_true c15; clear c15; obtain ⟨y175, hy175⟩ : ∃ y_ : List (List Int), y_ = (x4_1.set (x16_1 : Int).toNat y172) := ⟨_, rfl⟩; replace H : (impl_GoalsOfTeams.l0 k1 y175 (y169.length : Int) (wrap64 (x16_1 + 1)) a0_0 a0_1 l0_2) = some (r1, r2) := by first | (rw [hy175]; with_reducible exact H) | (have H2_ := (Option.bind_some _ _).symm.trans H; rw [hy175]; with_reducible exact H2_) | (have H2_ := (Option.bind_some _ _).symm.trans H; with_reducible exact H2_) | with_reducible exact H | (rw [hy175]; exact H) | exact H
         have Ny175 := a_ hy175; clear hy175; have H' := a_ H; clear H
         go_wp2_with (first | ((with_reducible refine gate_dst (N := 21) rfl ?_); refine Kd.R_lit (Kd.int .i64) _ 3 ?hg (N := 21) ?hd (xs := ([0, 0] : List Int)) (inner := [.int .i64 0, .int .i64 0]) (ok := fun _ => True) (okp := fun _ => True) ?hr ?hp (fun _ hk => hk) trivial (Below.refl _ _) (Nat.le_refl _) (by simp) ?_; (case hd => rfl); (case hg => rfl); (case hr => first | (go_simp; done) | (go_simp; rfl)); (case hp => exact (Reps.one (show Kd.M (Kd.int .i64) _ _ _ 0 [.int .i64 0] from rfl) (Reps.one (show Kd.M (Kd.int .i64) _ _ _ 0 [.int .i64 0] from rfl) (Reps.none _ _)))); intro v173 w17 ho18 hb hg_ hnew_; clear hg_ hnew_; (first | rw [← Ny172.out] at ho18 | (simp only [Int.reduceToNat] at ho18; rw [← Ny172.out] at ho18)); have n0_ := a_ (Kd.S_elder' (S_ HO_4.out) (Kd.R_base ho18) hb); have n1_ := a_ (Kd.R_lower ho18 (below_size (L_ HB.out GE167.out GE167.out GE167.out))); have n2_ := bb_ BK167 hb; have n3_ := a_ (below_step (L_ HB.out GE167.out GE167.out GE167.out) hb); clear HO_4; clear BK167; clear HB; have HO_4 := n0_; have HO174 := n1_; have BK167 := n2_; have HB := n3_; clear n0_ n1_ n2_ n3_; clear hb ho18; have p16 : 0 ≤ (x16_1 : Int) := of_decide_eq_true (by first | (with_reducible assumption) | assumption); have q16 : (x16_1 : Int) < ((x4_1.length : Int) : Int) := of_decide_eq_true (by first | (with_reducible assumption) | assumption); obtain ⟨go16, co16, eo16, gb16, gl16, cl16, HG16⟩ := Kd.S_form HO_4.out (by omega); (first | cases eo16 | (injection eo16 with ea_ en_ ec_; (first | subst ea_ | (injection ea_ with ea_; subst ea_)); subst ec_; clear en_)); have GB16 := a_ gb16; have GG16 := a_ HG16; clear gb16 gl16 HG16; obtain ⟨_, ce16, hcl16, hM16, hcc16, hfr16, _, _⟩ := Kd.S_elem HO_4.out [] (x16_1 : Int) p16 q16; obtain ⟨ve16_0, rfl, ge16_0⟩ := hM16; have hx16_0 := hcc16 0 _ rfl; have hf16_0 := hfr16 0; (try simp only [show ((Kd.slice 3 (Kd.int .i64))).sz = 1 from rfl, Nat.mul_one, Nat.add_zero] at hx16_0); (try simp only [show ((Kd.slice 3 (Kd.int .i64))).sz = 1 from rfl, Nat.mul_one, Nat.add_zero] at hf16_0); clear hcl16 hcc16 hfr16; replace p16 := eq_true p16; replace q16 := eq_true q16; have n_ := a_ (Kd.S_mono (ok' := (fun k_ => some k_ ≠ (v173 : Value).ownBlock)) HO_4.out (fun k_ hk => hk.2)); clear HO_4; have HO_4 := n_; clear n_; have HX19 := a_ (show Kd.S (Kd.slice 3 (Kd.int .i64)) 36 w17 w.heap.size (fun k_ => ((fun _ => True)) k_ ∧ ¬ ((fun k_ => some k_ = (v173 : Value).ownBlock)) k_) (.slice (some ⟨go16, 0, none⟩) x4_1.length co12) x4_1 from (by (with_reducible repeat (first | apply Kd.S_alloc | apply Kd.S_drewN | apply Kd.S_drew)); exact Kd.S_mono HO_4.out (fun k_ hk => ⟨trivial, fun e_ => hk e_⟩))); obtain ⟨oki19, ce19, hcl19, hM19, hcc19, hfr19, hoki19, hH19⟩ := Kd.S_elem HX19.out [] (x16_1 : Int) (of_decide_eq_true (by first | (with_reducible assumption) | assumption)) (by have h_ : (x16_1 : Int) < ((x4_1.length : Int) : Int) := of_decide_eq_true (by first | (with_reducible assumption) | assumption); first | exact h_ | (have e_ := (Kd.S_reads' HO_4.out).1; omega) | simpa using h_); obtain ⟨ve19_0, rfl, ge19_0⟩ := hM19; have HP19 := Kd.S_seg hH19 (of_decide_eq_true (by first | (with_reducible assumption) | assumption)) (by have h_ : (x16_1 : Int) < ((x4_1.length : Int) : Int) := of_decide_eq_true (by first | (with_reducible assumption) | assumption); first | exact h_ | (have e_ := (Kd.S_reads' HO_4.out).1; omega) | simpa using h_) (seg := [v173]) (j := 0) (show 1 ≤ 1 from by decide) (x' := y172) (Kd.M_row (Kd.R_mono (Kd.R_tight rfl (Kd.R_mono (ok' := fun k_ => ((fun _ => True)) k_ ∧ k_ ≠ go16) (Kd.R_apart' (HO174.out) (Kd.S_typed HO_4.out) (by decide)) (fun k_ hk => ⟨trivial, fun e_ => (hk.2) (by rw [e_]; rfl)⟩))) (fun _ h_ => Or.inr (h_)))) (fun _ hk => hk) (fun k_ hk_ => ((Kd.R_mono (ok' := fun k_ => ((fun _ => True)) k_ ∧ k_ ≠ go16) (Kd.R_apart' (HO174.out) (Kd.S_typed HO_4.out) (by decide)) (fun k_ hk => ⟨trivial, fun e_ => (hk.2) (by rw [e_]; rfl)⟩))).1 k_ hk_.symm); have hx19_0 := hcc19 0 _ rfl; (try simp only [show ((Kd.slice 3 (Kd.int .i64))).sz = 1 from rfl, Nat.mul_one, Nat.add_zero] at hx19_0); have hf19_0 := hfr19 0; (try simp only [show ((Kd.slice 3 (Kd.int .i64))).sz = 1 from rfl, Nat.mul_one, Nat.add_zero] at hf19_0); clear hcl19 hcc19 hfr19 hoki19 hH19; (try simp only [show ((Kd.slice 3 (Kd.int .i64))).sz = 1 from rfl, Nat.mul_one, Nat.add_zero] at HP19)) | ((with_reducible refine gate_store (t := 36) (p := 22) rfl ?_); refine store_event (t := 36) (p := 22) (v := ?vo_w20) (w1 := (w17.setCell ⟨go16, (x16_1 : Int).toNat, none⟩ (v173))) ?hg ?ho ?hn ?hr ?_; (case ho => rfl); (case hg => rfl); (case hn => rfl); (case hr => (obtain ⟨Aq_, cq_, eq_⟩ := Kd.R_slice HO174.out; subst eq_; first | (go_simp; done) | (go_simp; rfl))); intro w20 hw; have hg : w17.grownBy w20 (some go16) := (by rw [hw]; exact HP19.2); have hp_ : Kd.S (Kd.slice 3 (Kd.int .i64)) 36 w20 w.heap.size (fun _ => True) (.slice (some ⟨go16, 0, none⟩) x4_1.length co12) y175 := (by rw [hw, Ny175.out]; exact HP19.1); clear HP19; have n0_ := a_ (hp_); have n1_ := a_ (blk_grown (B_ BK167.out) hg (Kd.S_ne HO_4.out BK167.out (by decide))); have n2_ := a_ ((by rw [hw]; exact below_set (HB.out) GB16.out : Below w.heap.size w w20)); clear HO_4; clear BK167; clear HB; clear HO174; have HO_4 := n0_; have BK167 := n1_; have HB := n2_; clear n0_ n1_ n2_; clear hg hw hp_))
         (try simp only [← hl4_1])
         go_roundg k1
         case measure => have := HK1.out; omega
         case rel => exact ⟨(y175), (wrap64 (x16_1 + 1)), (by first | rfl | (simp; done) | (simp [*]; done)), H', ⟨by have := HK1.out; omega⟩, ⟨by (try simp only [hl4_1]); (with_reducible repeat (first | apply Kd.S_alloc | apply Kd.S_drewN | apply Kd.S_drew)); exact HO_4.out⟩, ⟨by (try simp only [hl4_1]); exact B_ BK167.out⟩, ⟨L_ HB.out GE167.out GE167.out GE167.out⟩⟩
        ·
         rw [if_neg c15] at H
         exact absurd H (by simp)
       ·
        rw [if_neg c14] at H
        exact absurd H (by simp)
      ·
       rw [if_neg c13] at H; have c13b0 : decide (x16_1 < (y169.length : Int)) = false := decide_eq_false c13; have c13b1 : decide (x16_1 < (x4_1.length : Int)) = false := by rw [← hl4_1]; exact c13b0
       clear c13; have H' := a_ H; clear H; have hcz21_0 : wr.cell? ⟨gb167, 0, none⟩ = some (.int .i64 a0_0) := c_ BK167.out 0; have hcz21_1 : wr.cell? ⟨gb167, 1, none⟩ = some (.int .i64 a0_1) := c_ BK167.out 1; have hcz21_2 : wr.cell? ⟨gb167, 2, none⟩ = some (.slice A0_2 l0_2.length c0_2) := c_ BK167.out 2; have hfz21_0 := blk_frozen BK167.out 0; have hfz21_1 := blk_frozen BK167.out 1; have hfz21_2 := blk_frozen BK167.out 2
       go_wp2
       go_loopg [27] k1 (fun kq v27 w' => ∃ (x4_2 : List (List Int)) (x27_2 : Int), v27 = .int .i64 x27_2 ∧ Aside0 (impl_GoalsOfTeams.l1 kq x4_2 l0_2 (l0_2.length : Int) x27_2 = some (r1, r2)) ∧ Aside0 (kq ≤ k1) ∧ Aside0 (Kd.S (Kd.slice 3 (Kd.int .i64)) 36 w' w.heap.size (fun _ => True) (.slice Ao12 x4_1.length co12) x4_2) ∧ Aside0 (w'.heap[gb167]? = some (.cells #[.int .i64 a0_0, .int .i64 a0_1, (.slice A0_2 l0_2.length c0_2)] 30 (0, 0))) ∧ Aside0 (Below w.heap.size w w'))
       case atStart => exact ⟨(x4_1), (0), (by first | rfl | (simp; done) | (simp [*]; done)), H', ⟨Nat.le_refl _⟩, ⟨by (try simp only [hl4_1]); (with_reducible repeat (first | apply Kd.S_alloc | apply Kd.S_drewN | apply Kd.S_drew)); exact HO_4.out⟩, ⟨by (try simp only [hl4_1]); exact B_ BK167.out⟩, ⟨L_ HB.out GE167.out GE167.out GE167.out⟩⟩
       case round =>
        clear H'
        try clear c1
        try clear p1
        try clear q1
        try clear hx1
        try clear hf1
        try clear c2
        try clear p2
        try clear c3
        try clear c4
        try clear c4b0
        try clear c4b1
        try clear c5
        try clear c5b0
        try clear c5b1
        try clear p6
        try clear c13
        try clear c13b0
        try clear c14
        try clear c14b0
        try clear c15
        try clear c15b0
        try clear c16
        try clear p16
        try clear q16
        try clear hx16
        try clear hf16
        try clear c19
        try clear hx19
        try clear hf19
        try clear hcz21_0 hcz21_1 hcz21_2
        try clear hcz7_0 hcz7_1 hcz7_2
        try clear hcz9_0 hcz9_1 hcz9_2
        try clear hfz21_0 hfz21_1 hfz21_2
        try clear hfz7_0 hfz7_1 hfz7_2
        try clear hfz9_0 hfz9_1 hfz9_2
        try clear hx16_0
        try clear hx19_0
        try clear p16
        try clear p2
        try clear q16
        obtain ⟨x4_2, x27_2, rfl, HA, HK2, HO_4, BK167, HB⟩ := hrel; have hl4_2 := (Kd.S_reads' HO_4.out).1; rw [hl4_2] at HO_4
        (try simp only [hl4_2])
        (try simp only [hl4_2] at BK167)
        cases gk with
        | zero => exact absurd HA.out (by simp [impl_GoalsOfTeams.l1])
        | succ k2 =>
         have H := HA.out; clear HA; simp only [impl_GoalsOfTeams.l1] at H
         by_cases c22 : x27_2 < (l0_2.length : Int)
         ·
          rw [if_pos c22] at H; have c22b0 : decide (x27_2 < (l0_2.length : Int)) = true := decide_eq_true c22; clear c22
          by_cases c23 : 0 ≤ x27_2
          ·
           rw [if_pos c23] at H; have c23b0 : decide (0 ≤ x27_2) = true := decide_eq_true c23; clear c23
           by_cases c24 : x27_2 < (l0_2.length : Int)
           ·
            rw [if_pos c24] at H; have c24b0 : decide (x27_2 < (l0_2.length : Int)) = true := decide_eq_true c24; clear c24
            by_cases c25 : 0 ≤ ((rd_T68 l0_2 x27_2).f0)
            ·
             rw [if_pos c25] at H; have c25b0 : decide (0 ≤ ((rd_T68 l0_2 x27_2).f0)) = true := decide_eq_true c25; clear c25
             by_cases c26 : ((rd_T68 l0_2 x27_2).f0) < (x4_2.length : Int)
             ·
              rw [if_pos c26] at H; have c26b0 : decide (((rd_T68 l0_2 x27_2).f0) < (x4_2.length : Int)) = true := decide_eq_true c26; clear c26
              by_cases c27 : 0 < ((rd_L3 x4_2 ((rd_T68 l0_2 x27_2).f0)).length : Int)
              ·
               rw [if_pos c27] at H; have c27b0 : decide (0 < ((rd_L3 x4_2 ((rd_T68 l0_2 x27_2).f0)).length : Int)) = true := decide_eq_true c27; have c27b1 : decide (0 < (rd_L3 x4_2 ((rd_T68 l0_2 x27_2).f0)).length) = true := decide_eq_true (by omega); clear c27; obtain ⟨y180, hy180⟩ : ∃ y_ : List Int, y_ = ((rd_L3 x4_2 ((rd_T68 l0_2 x27_2).f0)).set (0 : Int).toNat (wrap64 ((rd (rd_L3 x4_2 ((rd_T68 l0_2 x27_2).f0)) 0) + ((rd_T68 l0_2 x27_2).f2)))) := ⟨_, rfl⟩; replace H : ((some (x4_2.set (((rd_T68 l0_2 x27_2).f0) : Int).toNat y180 : List (List Int))).bind fun y182 => (if 1 < ((rd_L3 y182 ((rd_T68 l0_2 x27_2).f0)).length : Int) then ((some (y182.set (((rd_T68 l0_2 x27_2).f0) : Int).toNat ((rd_L3 y182 ((rd_T68 l0_2 x27_2).f0)).set (1 : Int).toNat (wrap64 ((rd (rd_L3 y182 ((rd_T68 l0_2 x27_2).f0)) 1) + ((rd_T68 l0_2 x27_2).f3)))) : List (List Int))).bind fun y187 => (if 0 ≤ ((rd_T68 l0_2 x27_2).f1) then (if ((rd_T68 l0_2 x27_2).f1) < (x4_2.length : Int) then (if 0 < ((rd_L3 y187 ((rd_T68 l0_2 x27_2).f1)).length : Int) then ((some (y187.set (((rd_T68 l0_2 x27_2).f1) : Int).toNat ((rd_L3 y187 ((rd_T68 l0_2 x27_2).f1)).set (0 : Int).toNat (wrap64 ((rd (rd_L3 y187 ((rd_T68 l0_2 x27_2).f1)) 0) + ((rd_T68 l0_2 x27_2).f3)))) : List (List Int))).bind fun y192 => (if 1 < ((rd_L3 y192 ((rd_T68 l0_2 x27_2).f1)).length : Int) then (impl_GoalsOfTeams.l1 k2 (y192.set (((rd_T68 l0_2 x27_2).f1) : Int).toNat ((rd_L3 y192 ((rd_T68 l0_2 x27_2).f1)).set (1 : Int).toNat (wrap64 ((rd (rd_L3 y192 ((rd_T68 l0_2 x27_2).f1)) 1) + ((rd_T68 l0_2 x27_2).f2))))) l0_2 (l0_2.length : Int) (wrap64 (x27_2 + 1))) else (none))) else (none)) else (none)) else (none))) else (none))) = some (r1, r2) := by first | (rw [hy180]; with_reducible exact H) | (have H2_ := (Option.bind_some _ _).symm.trans H; rw [hy180]; with_reducible exact H2_) | (have H2_ := (Option.bind_some _ _).symm.trans H; with_reducible exact H2_) | with_reducible exact H | (rw [hy180]; exact H) | exact H
               have Ny180 := a_ hy180; clear hy180; obtain ⟨y182, hy182⟩ : ∃ y_ : List (List Int), y_ = (x4_2.set (((rd_T68 l0_2 x27_2).f0) : Int).toNat y180) := ⟨_, rfl⟩; replace H : (if 1 < ((rd_L3 y182 ((rd_T68 l0_2 x27_2).f0)).length : Int) then ((some (y182.set (((rd_T68 l0_2 x27_2).f0) : Int).toNat ((rd_L3 y182 ((rd_T68 l0_2 x27_2).f0)).set (1 : Int).toNat (wrap64 ((rd (rd_L3 y182 ((rd_T68 l0_2 x27_2).f0)) 1) + ((rd_T68 l0_2 x27_2).f3)))) : List (List Int))).bind fun y187 => (if 0 ≤ ((rd_T68 l0_2 x27_2).f1) then (if ((rd_T68 l0_2 x27_2).f1) < (x4_2.length : Int) then (if 0 < ((rd_L3 y187 ((rd_T68 l0_2 x27_2).f1)).length : Int) then ((some (y187.set (((rd_T68 l0_2 x27_2).f1) : Int).toNat ((rd_L3 y187 ((rd_T68 l0_2 x27_2).f1)).set (0 : Int).toNat (wrap64 ((rd (rd_L3 y187 ((rd_T68 l0_2 x27_2).f1)) 0) + ((rd_T68 l0_2 x27_2).f3)))) : List (List Int))).bind fun y192 => (if 1 < ((rd_L3 y192 ((rd_T68 l0_2 x27_2).f1)).length : Int) then (impl_GoalsOfTeams.l1 k2 (y192.set (((rd_T68 l0_2 x27_2).f1) : Int).toNat ((rd_L3 y192 ((rd_T68 l0_2 x27_2).f1)).set (1 : Int).toNat (wrap64 ((rd (rd_L3 y192 ((rd_T68 l0_2 x27_2).f1)) 1) + ((rd_T68 l0_2 x27_2).f2))))) l0_2 (l0_2.length : Int) (wrap64 (x27_2 + 1))) else (none))) else (none)) else (none)) else (none))) else (none)) = some (r1, r2) := by first | (rw [hy182]; with_reducible exact H) | (have H2_ := (Option.bind_some _ _).symm.trans H; rw [hy182]; with_reducible exact H2_) | (have H2_ := (Option.bind_some _ _).symm.trans H; with_reducible exact H2_) | with_reducible exact H | (rw [hy182]; exact H) | exact H
               have Ny182 := a_ hy182; clear hy182
               by_cases c29 : 1 < ((rd_L3 y182 ((rd_T68 l0_2 x27_2).f0)).length : Int)
               ·
                rw [if_pos c29] at H; have c29b0 : decide (1 < ((rd_L3 y182 ((rd_T68 l0_2 x27_2).f0)).length : Int)) = true := decide_eq_true c29; have c29b1 : decide (1 < (rd_L3 y182 ((rd_T68 l0_2 x27_2).f0)).length) = true := decide_eq_true (by omega); clear c29; obtain ⟨y185, hy185⟩ : ∃ y_ : List Int, y_ = ((rd_L3 y182 ((rd_T68 l0_2 x27_2).f0)).set (1 : Int).toNat (wrap64 ((rd (rd_L3 y182 ((rd_T68 l0_2 x27_2).f0)) 1) + ((rd_T68 l0_2 x27_2).f3)))) := ⟨_, rfl⟩; replace H : ((some (y182.set (((rd_T68 l0_2 x27_2).f0) : Int).toNat y185 : List (List Int))).bind fun y187 => (if 0 ≤ ((rd_T68 l0_2 x27_2).f1) then (if ((rd_T68 l0_2 x27_2).f1) < (x4_2.length : Int) then (if 0 < ((rd_L3 y187 ((rd_T68 l0_2 x27_2).f1)).length : Int) then ((some (y187.set (((rd_T68 l0_2 x27_2).f1) : Int).toNat ((rd_L3 y187 ((rd_T68 l0_2 x27_2).f1)).set (0 : Int).toNat (wrap64 ((rd (rd_L3 y187 ((rd_T68 l0_2 x27_2).f1)) 0) + ((rd_T68 l0_2 x27_2).f3)))) : List (List Int))).bind fun y192 => (if 1 < ((rd_L3 y192 ((rd_T68 l0_2 x27_2).f1)).length : Int) then (impl_GoalsOfTeams.l1 k2 (y192.set (((rd_T68 l0_2 x27_2).f1) : Int).toNat ((rd_L3 y192 ((rd_T68 l0_2 x27_2).f1)).set (1 : Int).toNat (wrap64 ((rd (rd_L3 y192 ((rd_T68 l0_2 x27_2).f1)) 1) + ((rd_T68 l0_2 x27_2).f2))))) l0_2 (l0_2.length : Int) (wrap64 (x27_2 + 1))) else (none))) else (none)) else (none)) else (none))) = some (r1, r2) := by first | (rw [hy185]; with_reducible exact H) | (have H2_ := (Option.bind_some _ _).symm.trans H; rw [hy185]; with_reducible exact H2_) | (have H2_ := (Option.bind_some _ _).symm.trans H; with_reducible exact H2_) | with_reducible exact H | (rw [hy185]; exact H) | exact H
                have Ny185 := a_ hy185; clear hy185; obtain ⟨y187, hy187⟩ : ∃ y_ : List (List Int), y_ = (y182.set (((rd_T68 l0_2 x27_2).f0) : Int).toNat y185) := ⟨_, rfl⟩; replace H : (if 0 ≤ ((rd_T68 l0_2 x27_2).f1) then (if ((rd_T68 l0_2 x27_2).f1) < (x4_2.length : Int) then (if 0 < ((rd_L3 y187 ((rd_T68 l0_2 x27_2).f1)).length : Int) then ((some (y187.set (((rd_T68 l0_2 x27_2).f1) : Int).toNat ((rd_L3 y187 ((rd_T68 l0_2 x27_2).f1)).set (0 : Int).toNat (wrap64 ((rd (rd_L3 y187 ((rd_T68 l0_2 x27_2).f1)) 0) + ((rd_T68 l0_2 x27_2).f3)))) : List (List Int))).bind fun y192 => (if 1 < ((rd_L3 y192 ((rd_T68 l0_2 x27_2).f1)).length : Int) then (impl_GoalsOfTeams.l1 k2 (y192.set (((rd_T68 l0_2 x27_2).f1) : Int).toNat ((rd_L3 y192 ((rd_T68 l0_2 x27_2).f1)).set (1 : Int).toNat (wrap64 ((rd (rd_L3 y192 ((rd_T68 l0_2 x27_2).f1)) 1) + ((rd_T68 l0_2 x27_2).f2))))) l0_2 (l0_2.length : Int) (wrap64 (x27_2 + 1))) else (none))) else (none)) else (none)) else (none)) = some (r1, r2) := by first | (rw [hy187]; with_reducible exact H) | (have H2_ := (Option.bind_some _ _).symm.trans H; rw [hy187]; with_reducible exact H2_) | (have H2_ := (Option.bind_some _ _).symm.trans H; with_reducible exact H2_) | with_reducible exact H | (rw [hy187]; exact H) | exact H
                have Ny187 := a_ hy187; clear hy187
                by_cases c31 : 0 ≤ ((rd_T68 l0_2 x27_2).f1)
                ·
                 rw [if_pos c31] at H; have c31b0 : decide (0 ≤ ((rd_T68 l0_2 x27_2).f1)) = true := decide_eq_true c31; clear c31
                 by_cases c32 : ((rd_T68 l0_2 x27_2).f1) < (x4_2.length : Int)
                 ·
                  rw [if_pos c32] at H; have c32b0 : decide (((rd_T68 l0_2 x27_2).f1) < (x4_2.length : Int)) = true := decide_eq_true c32; clear c32
                  by_cases c33 : 0 < ((rd_L3 y187 ((rd_T68 l0_2 x27_2).f1)).length : Int)
                  ·
                   rw [if_pos c33] at H; have c33b0 : decide (0 < ((rd_L3 y187 ((rd_T68 l0_2 x27_2).f1)).length : Int)) = true := decide_eq_true c33; have c33b1 : decide (0 < (rd_L3 y187 ((rd_T68 l0_2 x27_2).f1)).length) = true := decide_eq_true (by omega); clear c33; obtain ⟨y190, hy190⟩ : ∃ y_ : List Int, y_ = ((rd_L3 y187 ((rd_T68 l0_2 x27_2).f1)).set (0 : Int).toNat (wrap64 ((rd (rd_L3 y187 ((rd_T68 l0_2 x27_2).f1)) 0) + ((rd_T68 l0_2 x27_2).f3)))) := ⟨_, rfl⟩; replace H : ((some (y187.set (((rd_T68 l0_2 x27_2).f1) : Int).toNat y190 : List (List Int))).bind fun y192 => (if 1 < ((rd_L3 y192 ((rd_T68 l0_2 x27_2).f1)).length : Int) then (impl_GoalsOfTeams.l1 k2 (y192.set (((rd_T68 l0_2 x27_2).f1) : Int).toNat ((rd_L3 y192 ((rd_T68 l0_2 x27_2).f1)).set (1 : Int).toNat (wrap64 ((rd (rd_L3 y192 ((rd_T68 l0_2 x27_2).f1)) 1) + ((rd_T68 l0_2 x27_2).f2))))) l0_2 (l0_2.length : Int) (wrap64 (x27_2 + 1))) else (none))) = some (r1, r2) := by first | (rw [hy190]; with_reducible exact H) | (have H2_ := (Option.bind_some _ _).symm.trans H; rw [hy190]; with_reducible exact H2_) | (have H2_ := (Option.bind_some _ _).symm.trans H; with_reducible exact H2_) | with_reducible exact H | (rw [hy190]; exact H) | exact H
                   have Ny190 := a_ hy190; clear hy190; obtain ⟨y192, hy192⟩ : ∃ y_ : List (List Int), y_ = (y187.set (((rd_T68 l0_2 x27_2).f1) : Int).toNat y190) := ⟨_, rfl⟩; replace H : (if 1 < ((rd_L3 y192 ((rd_T68 l0_2 x27_2).f1)).length : Int) then (impl_GoalsOfTeams.l1 k2 (y192.set (((rd_T68 l0_2 x27_2).f1) : Int).toNat ((rd_L3 y192 ((rd_T68 l0_2 x27_2).f1)).set (1 : Int).toNat (wrap64 ((rd (rd_L3 y192 ((rd_T68 l0_2 x27_2).f1)) 1) + ((rd_T68 l0_2 x27_2).f2))))) l0_2 (l0_2.length : Int) (wrap64 (x27_2 + 1))) else (none)) = some (r1, r2) := by first | (rw [hy192]; with_reducible exact H) | (have H2_ := (Option.bind_some _ _).symm.trans H; rw [hy192]; with_reducible exact H2_) | (have H2_ := (Option.bind_some _ _).symm.trans H; with_reducible exact H2_) | with_reducible exact H | (rw [hy192]; exact H) | exact H
                   have Ny192 := a_ hy192; clear hy192
                   by_cases c35 : 1 < ((rd_L3 y192 ((rd_T68 l0_2 x27_2).f1)).length : Int)
                   ·
                    rw [if_pos c35] at H; have c35b0 : decide (1 < ((rd_L3 y192 ((rd_T68 l0_2 x27_2).f1)).length : Int)) = true := decide_eq_true c35; have c35b1 : decide (1 < (rd_L3 y192 ((rd_T68 l0_2 x27_2).f1)).length) = true := decide_eq_true (by omega); clear c35; obtain ⟨y195, hy195⟩ : ∃ y_ : List Int, y_ = ((rd_L3 y192 ((rd_T68 l0_2 x27_2).f1)).set (1 : Int).toNat (wrap64 ((rd (rd_L3 y192 ((rd_T68 l0_2 x27_2).f1)) 1) + ((rd_T68 l0_2 x27_2).f2)))) := ⟨_, rfl⟩; replace H : (impl_GoalsOfTeams.l1 k2 (y192.set (((rd_T68 l0_2 x27_2).f1) : Int).toNat y195) l0_2 (l0_2.length : Int) (wrap64 (x27_2 + 1))) = some (r1, r2) := by first | (rw [hy195]; with_reducible exact H) | (have H2_ := (Option.bind_some _ _).symm.trans H; rw [hy195]; with_reducible exact H2_) | (have H2_ := (Option.bind_some _ _).symm.trans H; with_reducible exact H2_) | with_reducible exact H | (rw [hy195]; exact H) | exact H
                    have Ny195 := a_ hy195; clear hy195; obtain ⟨y197, hy197⟩ : ∃ y_ : List (List Int), y_ = (y192.set (((rd_T68 l0_2 x27_2).f1) : Int).toNat y195) := ⟨_, rfl⟩; replace H : (impl_GoalsOfTeams.l1 k2 y197 l0_2 (l0_2.length : Int) (wrap64 (x27_2 + 1))) = some (r1, r2) := by first | (rw [hy197]; with_reducible exact H) | (have H2_ := (Option.bind_some _ _).symm.trans H; rw [hy197]; with_reducible exact H2_) | (have H2_ := (Option.bind_some _ _).symm.trans H; with_reducible exact H2_) | with_reducible exact H | (rw [hy197]; exact H) | exact H
                    have Ny197 := a_ hy197; clear hy197; have H' := a_ H; clear H; have p176 : 0 ≤ (x27_2 : Int) := of_decide_eq_true (by first | (with_reducible assumption) | assumption); have q176 : x27_2 < (l0_2.length : Int) := of_decide_eq_true (by first | (with_reducible assumption) | assumption); obtain ⟨ad176, e176, hx176_0, hx176_1, hx176_2, hx176_3⟩ := at_T68 HR0_2.out x27_2 p176 q176
                    cases e176
                    replace hx176_0 := (HB.out.cell (World.block_lt_of_cell? w _ hx176_0)).trans hx176_0; replace hx176_1 := (HB.out.cell (World.block_lt_of_cell? w _ hx176_1)).trans hx176_1; replace hx176_2 := (HB.out.cell (World.block_lt_of_cell? w _ hx176_2)).trans hx176_2; replace hx176_3 := (HB.out.cell (World.block_lt_of_cell? w _ hx176_3)).trans hx176_3; replace p176 := eq_true p176; replace q176 := eq_true q176
                    try go_wp2_with (first | ((with_reducible refine gate_dst (N := 7) rfl ?_); refine box_event ?hg (N := 7) ?hd (cs := #[.int .i64 0, .int .i64 0, .int .i64 0, .int .i64 0]) (t := 68) ?hr ?_; (case hd => rfl); (case hg => rfl); (case hr => first | (go_simp; done) | (go_simp; rfl)); intro gb177 hg w37 hbox hb; have n0_ := a_ (Kd.S_below (S_ HO_4.out) hb); have n1_ := bb_ BK167 hb; have n2_ := a_ (below_step (L_ HB.out GE167.out GE167.out GE167.out) hb); have n3_ := a_ (hbox); have n4_ := a_ ((by rw [hg]; exact (below_size (L_ HB.out GE167.out GE167.out GE167.out)) : w.heap.size ≤ gb177)); have n5_ := a_ ((by rw [hg]; exact (below_size (L_ HB.out GE167.out GE167.out GE167.out)) : w.heap.size ≤ gb177)); have n6_ := a_ ((by rw [hg]; exact Nat.ne_of_lt (blk_lt (B_ BK167.out)) : gb167 ≠ gb177)); have n7_ := a_ ((by rw [hg]; exact Nat.ne_of_gt (blk_lt (B_ BK167.out)) : gb177 ≠ gb167)); clear HO_4; clear BK167; clear HB; have HO_4 := n0_; have BK167 := n1_; have HB := n2_; have BK177 := n3_; have GW177 := n4_; have GE177 := n5_; have NB167_177 := n6_; have NB177_167 := n7_; clear n0_ n1_ n2_ n3_ n4_ n5_ n6_ n7_; clear hb hbox hg; have hnb38 := NB177_167.out; have hnc38 := NB167_177.out; have hcz39_0 : w37.cell? ⟨gb177, 0, none⟩ = some (.int .i64 0) := c_ BK177.out 0; have hcz39_1 : w37.cell? ⟨gb177, 1, none⟩ = some (.int .i64 0) := c_ BK177.out 1; have hcz39_2 : w37.cell? ⟨gb177, 2, none⟩ = some (.int .i64 0) := c_ BK177.out 2; have hcz39_3 : w37.cell? ⟨gb177, 3, none⟩ = some (.int .i64 0) := c_ BK177.out 3; have hfz39_0 := blk_frozen BK177.out 0; have hfz39_1 := blk_frozen BK177.out 1; have hfz39_2 := blk_frozen BK177.out 2; have hfz39_3 := blk_frozen BK177.out 3))
                    have n0_ : Aside0 (Kd.S (Kd.slice 3 (Kd.int .i64)) 36 ((((w37.setCell ⟨gb177, 0, none⟩ (.int .i64 ((rd_T68 l0_2 x27_2).f0))).setCell ⟨gb177, 1, none⟩ (.int .i64 ((rd_T68 l0_2 x27_2).f1))).setCell ⟨gb177, 2, none⟩ (.int .i64 ((rd_T68 l0_2 x27_2).f2))).setCell ⟨gb177, 3, none⟩ (.int .i64 ((rd_T68 l0_2 x27_2).f3))) w.heap.size (fun _ => True) (.slice Ao12 x4_2.length co12) x4_2) := ⟨by (with_reducible repeat (first | apply Kd.S_alloc | apply Kd.S_drewN | apply Kd.S_drew)); exact Kd.S_mono (Kd.S_far (p := ⟨gb177, 3, none⟩) (Kd.S_far (p := ⟨gb177, 2, none⟩) (Kd.S_far (p := ⟨gb177, 1, none⟩) (Kd.S_far (p := ⟨gb177, 0, none⟩) (Kd.S_types HO_4.out BK177.out (by decide)) (fun _ hk => hk.2) (.int .i64 ((rd_T68 l0_2 x27_2).f0))) (fun _ hk => hk.2) (.int .i64 ((rd_T68 l0_2 x27_2).f1))) (fun _ hk => hk.2) (.int .i64 ((rd_T68 l0_2 x27_2).f2))) (fun _ hk => hk.2) (.int .i64 ((rd_T68 l0_2 x27_2).f3))) (fun _ hk => trivial)⟩; have n1_ : Aside0 (((((w37.setCell ⟨gb177, 0, none⟩ (.int .i64 ((rd_T68 l0_2 x27_2).f0))).setCell ⟨gb177, 1, none⟩ (.int .i64 ((rd_T68 l0_2 x27_2).f1))).setCell ⟨gb177, 2, none⟩ (.int .i64 ((rd_T68 l0_2 x27_2).f2))).setCell ⟨gb177, 3, none⟩ (.int .i64 ((rd_T68 l0_2 x27_2).f3))).heap[gb167]? = some (.cells #[.int .i64 a0_0, .int .i64 a0_1, .slice (some ad176) l0_2.length c0_2] 30 (0, 0))) := ⟨by (with_reducible repeat (first | refine blk_drewN ?_ _ | refine blk_drew ?_ | refine blk_alloc ?_ _)); refine blk_far ?_ NB167_177.out _; refine blk_far ?_ NB167_177.out _; refine blk_far ?_ NB167_177.out _; refine blk_far ?_ NB167_177.out _; exact B_ BK167.out⟩; have n2_ : Aside0 (((((w37.setCell ⟨gb177, 0, none⟩ (.int .i64 ((rd_T68 l0_2 x27_2).f0))).setCell ⟨gb177, 1, none⟩ (.int .i64 ((rd_T68 l0_2 x27_2).f1))).setCell ⟨gb177, 2, none⟩ (.int .i64 ((rd_T68 l0_2 x27_2).f2))).setCell ⟨gb177, 3, none⟩ (.int .i64 ((rd_T68 l0_2 x27_2).f3))).heap[gb177]? = some (.cells #[.int .i64 ((rd_T68 l0_2 x27_2).f0), .int .i64 ((rd_T68 l0_2 x27_2).f1), .int .i64 ((rd_T68 l0_2 x27_2).f2), .int .i64 ((rd_T68 l0_2 x27_2).f3)] 68 (0, 0))) := ⟨by (with_reducible repeat (first | refine blk_drewN ?_ _ | refine blk_drew ?_ | refine blk_alloc ?_ _)); refine blk_put (cs := #[.int .i64 ((rd_T68 l0_2 x27_2).f0), .int .i64 ((rd_T68 l0_2 x27_2).f1), .int .i64 ((rd_T68 l0_2 x27_2).f2), .int .i64 0]) ?_ 3 _ rfl; (with_reducible repeat (first | refine blk_drewN ?_ _ | refine blk_drew ?_ | refine blk_alloc ?_ _)); refine blk_put (cs := #[.int .i64 ((rd_T68 l0_2 x27_2).f0), .int .i64 ((rd_T68 l0_2 x27_2).f1), .int .i64 0, .int .i64 0]) ?_ 2 _ rfl; (with_reducible repeat (first | refine blk_drewN ?_ _ | refine blk_drew ?_ | refine blk_alloc ?_ _)); refine blk_put (cs := #[.int .i64 ((rd_T68 l0_2 x27_2).f0), .int .i64 0, .int .i64 0, .int .i64 0]) ?_ 1 _ rfl; (with_reducible repeat (first | refine blk_drewN ?_ _ | refine blk_drew ?_ | refine blk_alloc ?_ _)); refine blk_put (cs := #[.int .i64 0, .int .i64 0, .int .i64 0, .int .i64 0]) ?_ 0 _ rfl; exact B_ BK177.out⟩; have n3_ : Aside0 (Below w.heap.size w ((((w37.setCell ⟨gb177, 0, none⟩ (.int .i64 ((rd_T68 l0_2 x27_2).f0))).setCell ⟨gb177, 1, none⟩ (.int .i64 ((rd_T68 l0_2 x27_2).f1))).setCell ⟨gb177, 2, none⟩ (.int .i64 ((rd_T68 l0_2 x27_2).f2))).setCell ⟨gb177, 3, none⟩ (.int .i64 ((rd_T68 l0_2 x27_2).f3)))) := ⟨L_ HB.out GE167.out GE177.out GE177.out⟩
                    (try clear HO_4)
                    (try clear BK167)
                    (try clear BK177)
                    (try clear HB)
                    generalize ((((w37.setCell ⟨gb177, 0, none⟩ (.int .i64 ((rd_T68 l0_2 x27_2).f0))).setCell ⟨gb177, 1, none⟩ (.int .i64 ((rd_T68 l0_2 x27_2).f1))).setCell ⟨gb177, 2, none⟩ (.int .i64 ((rd_T68 l0_2 x27_2).f2))).setCell ⟨gb177, 3, none⟩ (.int .i64 ((rd_T68 l0_2 x27_2).f3))) = w40 at n0_ n1_ n2_ n3_ ⊢; have HO_4 := n0_; have BK167 := n1_; have BK177 := n2_; have HB := n3_; clear n0_ n1_ n2_ n3_; have n0_ := a_ (Kd.S_drew HO_4.out); have n1_ := a_ (blk_drew BK167.out); have n2_ := a_ (blk_drew BK177.out); have n3_ := a_ (below_drew1 HB.out); clear HO_4; clear BK167; clear BK177; clear HB; have HO_4 := n0_; have BK167 := n1_; have BK177 := n2_; have HB := n3_; clear n0_ n1_ n2_ n3_; have p178 : 0 ≤ (((rd_T68 l0_2 x27_2).f0) : Int) := of_decide_eq_true (by first | (with_reducible assumption) | assumption); have q178 : ((rd_T68 l0_2 x27_2).f0) < (x4_2.length : Int) := of_decide_eq_true (by first | (with_reducible assumption) | assumption); obtain ⟨ad178, A178_0, c178_0, e178, hx178_0, hl178_0, hi178_0⟩ := at_L3 (Kd.S_reads' HO_4.out).2.2 ((rd_T68 l0_2 x27_2).f0) p178 q178
                    cases e178
                    obtain ⟨ce178, hce178, hMe178, hcc178⟩ := Kd.S_get HO_4.out [] ((rd_T68 l0_2 x27_2).f0) p178 (by first | exact q178 | exact of_decide_eq_true (by first | (with_reducible assumption) | assumption) | (have e_ := (Kd.S_reads' HO_4.out).1; omega)); obtain ⟨ve178_0, rfl, ge178_0⟩ := hMe178; have hv178_0 := hcc178 0 _ rfl; rw [Nat.add_zero, show ((Kd.slice 3 (Kd.int .i64))).sz = 1 from rfl, Nat.mul_one] at hv178_0; replace hv178_0 := Option.some.inj (hv178_0.symm.trans hx178_0); rw [hv178_0] at ge178_0; have HL178_0 := a_ (show Kd.R (Kd.int .i64) 3 _ _ _ _ (rd_L3 x4_2 ((rd_T68 l0_2 x27_2).f0)) from ge178_0); clear hv178_0 ge178_0; have HX178_0 := a_ hx178_0; clear hcc178 hce178; have HR178_0 := a_ hi178_0; have HC178_0 := a_ hl178_0; clear hi178_0 hl178_0; replace p178 := eq_true p178; replace q178 := eq_true q178; have p179 : 0 ≤ (0 : Int) := (by omega); have q179 : 0 < ((rd_L3 x4_2 ((rd_T68 l0_2 x27_2).f0)).length : Int) := of_decide_eq_true (by first | (with_reducible assumption) | assumption); obtain ⟨ad179, e179, hx179_0⟩ := Kd.at_int (by repeat (first | (with_reducible exact HR178_0.out) | (with_reducible refine Kd.C_alloc ?_ _) | (with_reducible refine Kd.C_drewN ?_ _) | (with_reducible refine Kd.C_drew ?_) | exact HR178_0.out)) 0 p179 q179
                    cases e179
                    have qi179 : (0 < (rd_L3 x4_2 ((rd_T68 l0_2 x27_2).f0)).length) = True := eq_true (by omega)
                    (try rw [show ((0 : Int)).toNat = 0 from rfl] at hx179_0)
                    (try rw [Addr.add_zero'] at hx179_0)
                    replace p179 := eq_true p179; replace q179 := eq_true q179; have p28 : 0 ≤ (0 : Int) := (by omega); have q28 : (0 : Int) < (((rd_L3 x4_2 ((rd_T68 l0_2 x27_2).f0)).length : Int) : Int) := of_decide_eq_true (by first | (with_reducible assumption) | assumption); have qi28 : (0 < (rd_L3 x4_2 ((rd_T68 l0_2 x27_2).f0)).length) = True := eq_true (by omega); obtain ⟨go28, co28, eo28, gb28, gl28, cl28, HG28⟩ := Kd.R_form HL178_0.out (by omega)
                    (first | cases eo28 | (injection eo28 with ea_ en_ ec_; (first | subst ea_ | (injection ea_ with ea_; subst ea_)); subst ec_; clear en_))
                    have GB28 := a_ gb28; have GG28 := a_ HG28; clear gb28 gl28 HG28
                    (first | simp only [add_plain] at hx179_0 | skip)
                    obtain ⟨hx28_0, hf28_0⟩ := Kd.R_celln 0 HL178_0.out (0 : Int) p28 q28
                    (try rw [show ((0 : Int)).toNat = 0 from rfl] at hx28_0)
                    (try simp only [Nat.reduceMul, Nat.zero_mul, Nat.zero_add, Nat.reduceAdd] at hx28_0)
                    (try rw [show ((0 : Int)).toNat = 0 from rfl] at hf28_0)
                    (try simp only [Nat.reduceMul, Nat.zero_mul, Nat.zero_add, Nat.reduceAdd] at hf28_0)
                    replace p28 := eq_true p28; replace q28 := eq_true q28; have hq42 : (((rd_T68 l0_2 x27_2).f0) : Int) < (x4_2.length : Int) := (by have h_ : (((rd_T68 l0_2 x27_2).f0) : Int) < ((x4_2.length : Int) : Int) := of_decide_eq_true (by first | (with_reducible assumption) | assumption); first | exact h_ | (have e_ := (Kd.S_reads' HO_4.out).1; omega) | simpa only [List.length_set, List.length_set] using h_); obtain ⟨oki42, ce42, hcl42, hM42, hcc42, hok42, hbk42⟩ := Kd.S_borrow HO_4.out [] (((rd_T68 l0_2 x27_2).f0) : Int) (of_decide_eq_true (by first | (with_reducible assumption) | assumption)) hq42; obtain ⟨ve42_0, rfl, ge42_0⟩ := hM42; have hv42 := hcc42 0 _ rfl; rw [Nat.add_zero, show ((Kd.slice 3 (Kd.int .i64))).sz = 1 from rfl, Nat.mul_one] at hv42; replace hv42 := Option.some.inj (hv42.symm.trans HX178_0.out); subst hv42; clear hcc42 hcl42; replace ge42_0 := (show Kd.R (Kd.int .i64) 3 _ _ _ _ (rd_L3 x4_2 ((rd_T68 l0_2 x27_2).f0)) from ge42_0); have HP42 := Kd.R_putg ge42_0 (0 : Int) (wrap64 ((rd (rd_L3 x4_2 ((rd_T68 l0_2 x27_2).f0)) 0) + ((rd_T68 l0_2 x27_2).f2))); rw [← Ny180.out] at HP42; have HS42 := hbk42 HP42.2 (fun k_ e_ => by injection e_ with e_; subst e_; exact ge42_0.1 _ rfl) (x' := y180) (Kd.M_row HP42.1); rw [← Ny182.out] at HS42; have HQ42 := a_ HS42; clear HP42 HS42 hbk42 hok42
                    refine start_ (n := 12) (S := fun w' => w'.cell? ⟨gb177, 0, none⟩ = some (.int .i64 ((rd_T68 l0_2 x27_2).f0)) ∧ w'.cell? ⟨gb177, 1, none⟩ = some (.int .i64 ((rd_T68 l0_2 x27_2).f1)) ∧ w'.cell? ⟨gb177, 2, none⟩ = some (.int .i64 ((rd_T68 l0_2 x27_2).f2)) ∧ w'.cell? ⟨gb177, 3, none⟩ = some (.int .i64 ((rd_T68 l0_2 x27_2).f3)) ∧ w'.cell? (ad178.add (((rd_T68 l0_2 x27_2).f0)).toNat) = some (.slice (some ⟨go28, 0, none⟩) (rd_L3 x4_2 ((rd_T68 l0_2 x27_2).f0)).length c178_0) ∧ w'.cell? ⟨go28, 0, none⟩ = some (.int .i64 (rd (rd_L3 x4_2 ((rd_T68 l0_2 x27_2).f0)) 0))) (ds := [11]) #[false, false, false, false, false, false, false, false, false, false, false, false] (by kernel_rfl) rfl rfl ⟨c_ BK177.out 0, c_ BK177.out 1, c_ BK177.out 2, c_ BK177.out 3, hx178_0, hx179_0⟩ (fun hHeld => ?_); refine with_tabW impl_GoalsOfTeams.tab12 impl_GoalsOfTeams.bits12 (fun HT_ HW_ => ?_)
                    generalize w40.drew = w41 at HO_4 BK167 BK177 HB GG28 HL178_0 HQ42 HR178_0 HX178_0 hf28_0 hx178_0 hx179_0 hx28_0 hHeld ⊢
                    refine pure_ (i := 0) (N := some 31) (v := ?_) (a' := ?_) #[true, false, false, false, false, false, false, false, false, false, false, false] rfl rfl (any_of HT_.out (by kernel_rfl)) (fun _ _ _ h => h) (Or.inl ⟨by rfl, ?_⟩) ?_ ?_
                    rotate_left
                    ·
                     intro w'
                     go_simp
                     with_reducible rfl
                    rotate_left
                    ·
                     simp only [Act.put, List.setIfInBounds_toArray, List.set_cons_zero, List.set_cons_succ, i64_w, i32_w]
                     rfl
                    refine pure_ (i := 1) (N := some 32) (v := ?_) (a' := ?_) #[true, true, false, false, false, false, false, false, false, false, false, false] rfl rfl (any_of HT_.out (by kernel_rfl)) (fun _ _ _ h => h) (Or.inl ⟨by rfl, ?_⟩) ?_ ?_
                    rotate_left
                    ·
                     intro w'
                     go_simp
                     with_reducible rfl
                    rotate_left
                    ·
                     simp only [Act.put, List.setIfInBounds_toArray, List.set_cons_zero, List.set_cons_succ, i64_w, i32_w]
                     rfl
                    refine pure_ (i := 7) (N := some 38) (v := ?_) (a' := ?_) #[true, true, false, false, false, false, false, true, false, false, false, false] rfl rfl (any_of HT_.out (by kernel_rfl)) (fun _ _ _ h => h) (Or.inl ⟨by rfl, ?_⟩) ?_ ?_
                    rotate_left
                    ·
                     intro w'
                     go_simp
                     with_reducible rfl
                    rotate_left
                    ·
                     simp only [Act.put, List.setIfInBounds_toArray, List.set_cons_zero, List.set_cons_succ, i64_w, i32_w]
                     rfl
                    refine take_ (i := 2) (N := some 33) (v := ?_) (a' := ?_) #[true, true, true, false, false, false, false, true, false, false, false, false] rfl rfl (take_ofW HT_.out HW_.out (by kernel_rfl)) (fun _ _ _ h => h) (Or.inl ⟨by rfl, ?_⟩) hHeld ?_ ?_
                    rotate_left
                    ·
                     rintro w' ⟨s0, s1, s2, s3, s4, s5⟩
                     go_simp
                     with_reducible rfl
                    rotate_left
                    ·
                     simp only [Act.put, List.setIfInBounds_toArray, List.set_cons_zero, List.set_cons_succ, i64_w, i32_w]
                     rfl
                    refine pure_ (i := 3) (N := some 34) (v := ?_) (a' := ?_) #[true, true, true, true, false, false, false, true, false, false, false, false] rfl rfl (any_of HT_.out (by kernel_rfl)) (fun _ _ _ h => h) (Or.inl ⟨by rfl, ?_⟩) ?_ ?_
                    rotate_left
                    ·
                     intro w'
                     go_simp
                     with_reducible rfl
                    rotate_left
                    ·
                     simp only [Act.put, List.setIfInBounds_toArray, List.set_cons_zero, List.set_cons_succ, i64_w, i32_w]
                     rfl
                    refine take_ (i := 4) (N := some 35) (v := ?_) (a' := ?_) #[true, true, true, true, true, false, false, true, false, false, false, false] rfl rfl (take_ofW HT_.out HW_.out (by kernel_rfl)) (fun _ _ _ h => h) (Or.inl ⟨by rfl, ?_⟩) hHeld ?_ ?_
                    rotate_left
                    ·
                     rintro w' ⟨s0, s1, s2, s3, s4, s5⟩
                     go_simp
                     with_reducible rfl
                    rotate_left
                    ·
                     simp only [Act.put, List.setIfInBounds_toArray, List.set_cons_zero, List.set_cons_succ, i64_w, i32_w]
                     rfl
                    refine pure_ (i := 5) (N := some 36) (v := ?_) (a' := ?_) #[true, true, true, true, true, true, false, true, false, false, false, false] rfl rfl (any_of HT_.out (by kernel_rfl)) (fun _ _ _ h => h) (Or.inl ⟨by rfl, ?_⟩) ?_ ?_
                    rotate_left
                    ·
                     intro w'
                     go_simp
                     with_reducible rfl
                    rotate_left
                    ·
                     simp only [Act.put, List.setIfInBounds_toArray, List.set_cons_zero, List.set_cons_succ, i64_w, i32_w]
                     rfl
                    refine take_ (i := 6) (N := some 37) (v := ?_) (a' := ?_) #[true, true, true, true, true, true, true, true, false, false, false, false] rfl rfl (take_ofW HT_.out HW_.out (by kernel_rfl)) (fun _ _ _ h => h) (Or.inl ⟨by rfl, ?_⟩) hHeld ?_ ?_
                    rotate_left
                    ·
                     rintro w' ⟨s0, s1, s2, s3, s4, s5⟩
                     go_simp
                     with_reducible rfl
                    rotate_left
                    ·
                     simp only [Act.put, List.setIfInBounds_toArray, List.set_cons_zero, List.set_cons_succ, i64_w, i32_w]
                     rfl
                    refine take_ (i := 8) (N := some 39) (v := ?_) (a' := ?_) #[true, true, true, true, true, true, true, true, true, false, false, false] rfl rfl (take_ofW HT_.out HW_.out (by kernel_rfl)) (fun _ _ _ h => h) (Or.inl ⟨by rfl, ?_⟩) hHeld ?_ ?_
                    rotate_left
                    ·
                     rintro w' ⟨s0, s1, s2, s3, s4, s5⟩
                     go_simp
                     with_reducible rfl
                    rotate_left
                    ·
                     simp only [Act.put, List.setIfInBounds_toArray, List.set_cons_zero, List.set_cons_succ, i64_w, i32_w]
                     rfl
                    refine pure_ (i := 9) (N := some 40) (v := ?_) (a' := ?_) #[true, true, true, true, true, true, true, true, true, true, false, false] rfl rfl (any_of HT_.out (by kernel_rfl)) (fun _ _ _ h => h) (Or.inl ⟨by rfl, ?_⟩) ?_ ?_
                    rotate_left
                    ·
                     intro w'
                     go_simp
                     with_reducible rfl
                    rotate_left
                    ·
                     simp only [Act.put, List.setIfInBounds_toArray, List.set_cons_zero, List.set_cons_succ, i64_w, i32_w]
                     rfl
                    refine pure_ (i := 10) (N := some 41) (v := ?_) (a' := ?_) #[true, true, true, true, true, true, true, true, true, true, true, false] rfl rfl (any_of HT_.out (by kernel_rfl)) (fun _ _ _ h => h) (Or.inl ⟨by rfl, ?_⟩) ?_ ?_
                    rotate_left
                    ·
                     intro w'
                     go_simp
                     with_reducible rfl
                    rotate_left
                    ·
                     simp only [Act.put, List.setIfInBounds_toArray, List.set_cons_zero, List.set_cons_succ, i64_w, i32_w]
                     rfl
                    refine last_ (i := 11) (N := none) #[true, true, true, true, true, true, true, true, true, true, true, true] rfl rfl (one_of HT_.out (by kernel_rfl)) (by decide) (fun K hK => ?_)
                    refine skip_ (w1 := ?_) (by rfl) rfl ?_ ?_
                    rotate_left
                    ·
                     go_simp
                     rfl
                    refine hK.out _ _ ?_
                    clear hK K
                    refine done_ (done_of HT_.out (by kernel_rfl)) ?_
                    try go_wp2
                    have n0_ : Aside0 (Kd.S (Kd.slice 3 (Kd.int .i64)) 36 (w41.setCell ⟨go28, 0, none⟩ (.int .i64 (wrap64 ((rd (rd_L3 x4_2 ((rd_T68 l0_2 x27_2).f0)) 0) + ((rd_T68 l0_2 x27_2).f2))))) w.heap.size (fun _ => True) (.slice (some ad178) x4_2.length co12) y182) := ⟨by (with_reducible repeat (first | apply Kd.S_alloc | apply Kd.S_drewN | apply Kd.S_drew)); exact HQ42.out⟩; have n1_ : Aside0 ((w41.setCell ⟨go28, 0, none⟩ (.int .i64 (wrap64 ((rd (rd_L3 x4_2 ((rd_T68 l0_2 x27_2).f0)) 0) + ((rd_T68 l0_2 x27_2).f2))))).heap[gb167]? = some (.cells #[.int .i64 a0_0, .int .i64 a0_1, .slice (some ad176) l0_2.length c0_2] 30 (0, 0))) := ⟨by (with_reducible repeat (first | refine blk_drewN ?_ _ | refine blk_drew ?_ | refine blk_alloc ?_ _)); refine blk_far ?_ (by have h_ := Kd.R_ne HL178_0.out BK167.out (by decide); intro e_; exact h_ (by rw [e_]; rfl)) _; exact B_ BK167.out⟩; have n2_ : Aside0 ((w41.setCell ⟨go28, 0, none⟩ (.int .i64 (wrap64 ((rd (rd_L3 x4_2 ((rd_T68 l0_2 x27_2).f0)) 0) + ((rd_T68 l0_2 x27_2).f2))))).heap[gb177]? = some (.cells #[.int .i64 ((rd_T68 l0_2 x27_2).f0), .int .i64 ((rd_T68 l0_2 x27_2).f1), .int .i64 ((rd_T68 l0_2 x27_2).f2), .int .i64 ((rd_T68 l0_2 x27_2).f3)] 68 (0, 0))) := ⟨by (with_reducible repeat (first | refine blk_drewN ?_ _ | refine blk_drew ?_ | refine blk_alloc ?_ _)); refine blk_far ?_ (by have h_ := Kd.R_ne HL178_0.out BK177.out (by decide); intro e_; exact h_ (by rw [e_]; rfl)) _; exact B_ BK177.out⟩; have n3_ : Aside0 (Below w.heap.size w (w41.setCell ⟨go28, 0, none⟩ (.int .i64 (wrap64 ((rd (rd_L3 x4_2 ((rd_T68 l0_2 x27_2).f0)) 0) + ((rd_T68 l0_2 x27_2).f2)))))) := ⟨by repeat (first | (with_reducible first | exact HB.out | apply below_alloc | apply pw_below_drewN | apply below_drew1 | refine below_set ?_ GB28.out | refine below_set ?_ GE167.out | refine below_set ?_ GE177.out) | exact HB.out)⟩
                    (try clear HO_4)
                    (try clear BK167)
                    (try clear BK177)
                    (try clear HB)
                    generalize (w41.setCell ⟨go28, 0, none⟩ (.int .i64 (wrap64 ((rd (rd_L3 x4_2 ((rd_T68 l0_2 x27_2).f0)) 0) + ((rd_T68 l0_2 x27_2).f2))))) = w44 at n0_ n1_ n2_ n3_ ⊢; have HO_4 := n0_; have BK167 := n1_; have BK177 := n2_; have HB := n3_; clear n0_ n1_ n2_ n3_; have n0_ := a_ (Kd.S_drew HO_4.out); have n1_ := a_ (blk_drew BK167.out); have n2_ := a_ (blk_drew BK177.out); have n3_ := a_ (below_drew1 HB.out); clear HO_4; clear BK167; clear BK177; clear HB; have HO_4 := n0_; have BK167 := n1_; have BK177 := n2_; have HB := n3_; clear n0_ n1_ n2_ n3_; have p183 : 0 ≤ (((rd_T68 l0_2 x27_2).f0) : Int) := of_decide_eq_true (by first | (with_reducible assumption) | assumption); have q183 : ((rd_T68 l0_2 x27_2).f0) < (y182.length : Int) := (by have h_ : (((rd_T68 l0_2 x27_2).f0) : Int) < ((x4_2.length : Int) : Int) := of_decide_eq_true (by first | (with_reducible assumption) | assumption); first | (have e_ := (Kd.S_reads' HO_4.out).1; omega) | simpa only [Ny182.out, List.length_set] using h_); have ql183 : ((((rd_T68 l0_2 x27_2).f0) : Int) < ((x4_2.length : Int) : Int)) = True := eq_true (of_decide_eq_true (by first | (with_reducible assumption) | assumption)); obtain ⟨ad183, A183_0, c183_0, e183, hx183_0, hl183_0, hi183_0⟩ := at_L3 (Kd.S_reads' HO_4.out).2.2 ((rd_T68 l0_2 x27_2).f0) p183 q183; obtain rfl : ad178 = ad183 := (by injection e183); obtain ⟨ce183, hce183, hMe183, hcc183⟩ := Kd.S_get HO_4.out [] ((rd_T68 l0_2 x27_2).f0) p183 (by first | exact q183 | exact of_decide_eq_true (by first | (with_reducible assumption) | assumption) | (have e_ := (Kd.S_reads' HO_4.out).1; omega)); obtain ⟨ve183_0, rfl, ge183_0⟩ := hMe183; have hv183_0 := hcc183 0 _ rfl; rw [Nat.add_zero, show ((Kd.slice 3 (Kd.int .i64))).sz = 1 from rfl, Nat.mul_one] at hv183_0; replace hv183_0 := Option.some.inj (hv183_0.symm.trans hx183_0); rw [hv183_0] at ge183_0; have HL183_0 := a_ (show Kd.R (Kd.int .i64) 3 _ _ _ _ (rd_L3 y182 ((rd_T68 l0_2 x27_2).f0)) from ge183_0); clear hv183_0 ge183_0; have HX183_0 := a_ hx183_0; clear hcc183 hce183; have HR183_0 := a_ hi183_0; have HC183_0 := a_ hl183_0; clear hi183_0 hl183_0; replace p183 := eq_true p183; replace q183 := eq_true q183; have p184 : 0 ≤ (1 : Int) := (by omega); have q184 : 1 < ((rd_L3 y182 ((rd_T68 l0_2 x27_2).f0)).length : Int) := of_decide_eq_true (by first | (with_reducible assumption) | assumption); obtain ⟨ad184, e184, hx184_0⟩ := Kd.at_int (by repeat (first | (with_reducible exact HR183_0.out) | (with_reducible refine Kd.C_alloc ?_ _) | (with_reducible refine Kd.C_drewN ?_ _) | (with_reducible refine Kd.C_drew ?_) | exact HR183_0.out)) 1 p184 q184
                    cases e184
                    (try simp only [show (1 : Int).toNat = 1 from rfl, Nat.reduceMul, Nat.reduceEqDiff, Go.Addr.add, ↓reduceIte] at hx184_0)
                    have qi184 : (1 < (rd_L3 y182 ((rd_T68 l0_2 x27_2).f0)).length) = True := eq_true (by omega)
                    (try rw [show ((1 : Int)).toNat = 1 from rfl] at hx184_0)
                    replace p184 := eq_true p184; replace q184 := eq_true q184; have p30 : 0 ≤ (1 : Int) := (by omega); have q30 : (1 : Int) < (((rd_L3 y182 ((rd_T68 l0_2 x27_2).f0)).length : Int) : Int) := of_decide_eq_true (by first | (with_reducible assumption) | assumption); have qi30 : (1 < (rd_L3 y182 ((rd_T68 l0_2 x27_2).f0)).length) = True := eq_true (by omega); obtain ⟨go30, co30, eo30, gb30, gl30, cl30, HG30⟩ := Kd.R_form HL183_0.out (by omega)
                    (first | cases eo30 | (injection eo30 with ea_ en_ ec_; (first | subst ea_ | (injection ea_ with ea_; subst ea_)); subst ec_; clear en_))
                    have GB30 := a_ gb30; have GG30 := a_ HG30; clear gb30 gl30 HG30
                    (first | simp only [add_plain] at hx184_0 | skip)
                    obtain ⟨hx30_0, hf30_0⟩ := Kd.R_celln 0 HL183_0.out (1 : Int) p30 q30
                    (try rw [show ((1 : Int)).toNat = 1 from rfl] at hx30_0)
                    (try simp only [Nat.reduceMul, Nat.zero_mul, Nat.zero_add, Nat.reduceAdd] at hx30_0)
                    (try rw [show ((1 : Int)).toNat = 1 from rfl] at hf30_0)
                    (try simp only [Nat.reduceMul, Nat.zero_mul, Nat.zero_add, Nat.reduceAdd] at hf30_0)
                    replace p30 := eq_true p30; replace q30 := eq_true q30; have hq46 : (((rd_T68 l0_2 x27_2).f0) : Int) < (y182.length : Int) := (by have h_ : (((rd_T68 l0_2 x27_2).f0) : Int) < ((x4_2.length : Int) : Int) := of_decide_eq_true (by first | (with_reducible assumption) | assumption); first | exact h_ | (have e_ := (Kd.S_reads' HO_4.out).1; omega) | simpa only [Ny182.out, List.length_set] using h_); obtain ⟨oki46, ce46, hcl46, hM46, hcc46, hok46, hbk46⟩ := Kd.S_borrow HO_4.out [] (((rd_T68 l0_2 x27_2).f0) : Int) (of_decide_eq_true (by first | (with_reducible assumption) | assumption)) (by have e_ := (Kd.S_reads' HO_4.out).1; have h_ := hq46; omega); obtain ⟨ve46_0, rfl, ge46_0⟩ := hM46; have hv46 := hcc46 0 _ rfl; rw [Nat.add_zero, show ((Kd.slice 3 (Kd.int .i64))).sz = 1 from rfl, Nat.mul_one] at hv46; replace hv46 := Option.some.inj (hv46.symm.trans HX183_0.out); subst hv46; clear hcc46 hcl46; replace ge46_0 := (show Kd.R (Kd.int .i64) 3 _ _ _ _ (rd_L3 y182 ((rd_T68 l0_2 x27_2).f0)) from ge46_0); have HP46 := Kd.R_putg ge46_0 (1 : Int) (wrap64 ((rd (rd_L3 y182 ((rd_T68 l0_2 x27_2).f0)) 1) + ((rd_T68 l0_2 x27_2).f3))); rw [← Ny185.out] at HP46; have HS46 := hbk46 HP46.2 (fun k_ e_ => by injection e_ with e_; subst e_; exact ge46_0.1 _ rfl) (x' := y185) (Kd.M_row HP46.1); rw [← Ny187.out] at HS46; have HQ46 := a_ HS46; clear HP46 HS46 hbk46 hok46
                    refine start_ (n := 12) (S := fun w' => w'.cell? ⟨gb177, 0, none⟩ = some (.int .i64 ((rd_T68 l0_2 x27_2).f0)) ∧ w'.cell? ⟨gb177, 1, none⟩ = some (.int .i64 ((rd_T68 l0_2 x27_2).f1)) ∧ w'.cell? ⟨gb177, 2, none⟩ = some (.int .i64 ((rd_T68 l0_2 x27_2).f2)) ∧ w'.cell? ⟨gb177, 3, none⟩ = some (.int .i64 ((rd_T68 l0_2 x27_2).f3)) ∧ w'.cell? (ad178.add (((rd_T68 l0_2 x27_2).f0)).toNat) = some (.slice (some ⟨go30, 0, none⟩) (rd_L3 y182 ((rd_T68 l0_2 x27_2).f0)).length c183_0) ∧ w'.cell? ⟨go30, 1, none⟩ = some (.int .i64 (rd (rd_L3 y182 ((rd_T68 l0_2 x27_2).f0)) 1))) (ds := [11]) #[false, false, false, false, false, false, false, false, false, false, false, false] (by kernel_rfl) rfl rfl ⟨c_ BK177.out 0, c_ BK177.out 1, c_ BK177.out 2, c_ BK177.out 3, hx183_0, hx184_0⟩ (fun hHeld => ?_); refine with_tabW impl_GoalsOfTeams.tab13 impl_GoalsOfTeams.bits13 (fun HT_ HW_ => ?_)
                    generalize w44.drew = w45 at HO_4 BK167 BK177 HB GG30 HL183_0 HQ42 HQ46 HR183_0 HX183_0 hf30_0 hx183_0 hx184_0 hx30_0 hHeld ⊢
                    refine pure_ (i := 0) (N := some 42) (v := ?_) (a' := ?_) #[true, false, false, false, false, false, false, false, false, false, false, false] rfl rfl (any_of HT_.out (by kernel_rfl)) (fun _ _ _ h => h) (Or.inl ⟨by rfl, ?_⟩) ?_ ?_
                    rotate_left
                    ·
                     intro w'
                     go_simp
                     with_reducible rfl
                    rotate_left
                    ·
                     simp only [Act.put, List.setIfInBounds_toArray, List.set_cons_zero, List.set_cons_succ, i64_w, i32_w]
                     rfl
                    refine pure_ (i := 1) (N := some 43) (v := ?_) (a' := ?_) #[true, true, false, false, false, false, false, false, false, false, false, false] rfl rfl (any_of HT_.out (by kernel_rfl)) (fun _ _ _ h => h) (Or.inl ⟨by rfl, ?_⟩) ?_ ?_
                    rotate_left
                    ·
                     intro w'
                     go_simp
                     with_reducible rfl
                    rotate_left
                    ·
                     simp only [Act.put, List.setIfInBounds_toArray, List.set_cons_zero, List.set_cons_succ, i64_w, i32_w]
                     rfl
                    refine pure_ (i := 7) (N := some 49) (v := ?_) (a' := ?_) #[true, true, false, false, false, false, false, true, false, false, false, false] rfl rfl (any_of HT_.out (by kernel_rfl)) (fun _ _ _ h => h) (Or.inl ⟨by rfl, ?_⟩) ?_ ?_
                    rotate_left
                    ·
                     intro w'
                     go_simp
                     with_reducible rfl
                    rotate_left
                    ·
                     simp only [Act.put, List.setIfInBounds_toArray, List.set_cons_zero, List.set_cons_succ, i64_w, i32_w]
                     rfl
                    refine take_ (i := 2) (N := some 44) (v := ?_) (a' := ?_) #[true, true, true, false, false, false, false, true, false, false, false, false] rfl rfl (take_ofW HT_.out HW_.out (by kernel_rfl)) (fun _ _ _ h => h) (Or.inl ⟨by rfl, ?_⟩) hHeld ?_ ?_
                    rotate_left
                    ·
                     rintro w' ⟨s0, s1, s2, s3, s4, s5⟩
                     go_simp
                     with_reducible rfl
                    rotate_left
                    ·
                     simp only [Act.put, List.setIfInBounds_toArray, List.set_cons_zero, List.set_cons_succ, i64_w, i32_w]
                     rfl
                    refine pure_ (i := 3) (N := some 45) (v := ?_) (a' := ?_) #[true, true, true, true, false, false, false, true, false, false, false, false] rfl rfl (any_of HT_.out (by kernel_rfl)) (fun _ _ _ h => h) (Or.inl ⟨by rfl, ?_⟩) ?_ ?_
                    rotate_left
                    ·
                     intro w'
                     go_simp
                     with_reducible rfl
                    rotate_left
                    ·
                     simp only [Act.put, List.setIfInBounds_toArray, List.set_cons_zero, List.set_cons_succ, i64_w, i32_w]
                     rfl
                    refine take_ (i := 4) (N := some 46) (v := ?_) (a' := ?_) #[true, true, true, true, true, false, false, true, false, false, false, false] rfl rfl (take_ofW HT_.out HW_.out (by kernel_rfl)) (fun _ _ _ h => h) (Or.inl ⟨by rfl, ?_⟩) hHeld ?_ ?_
                    rotate_left
                    ·
                     rintro w' ⟨s0, s1, s2, s3, s4, s5⟩
                     go_simp
                     with_reducible rfl
                    rotate_left
                    ·
                     simp only [Act.put, List.setIfInBounds_toArray, List.set_cons_zero, List.set_cons_succ, i64_w, i32_w]
                     rfl
                    refine pure_ (i := 5) (N := some 47) (v := ?_) (a' := ?_) #[true, true, true, true, true, true, false, true, false, false, false, false] rfl rfl (any_of HT_.out (by kernel_rfl)) (fun _ _ _ h => h) (Or.inl ⟨by rfl, ?_⟩) ?_ ?_
                    rotate_left
                    ·
                     intro w'
                     go_simp
                     with_reducible rfl
                    rotate_left
                    ·
                     simp only [Act.put, List.setIfInBounds_toArray, List.set_cons_zero, List.set_cons_succ, i64_w, i32_w]
                     rfl
                    refine take_ (i := 6) (N := some 48) (v := ?_) (a' := ?_) #[true, true, true, true, true, true, true, true, false, false, false, false] rfl rfl (take_ofW HT_.out HW_.out (by kernel_rfl)) (fun _ _ _ h => h) (Or.inl ⟨by rfl, ?_⟩) hHeld ?_ ?_
                    rotate_left
                    ·
                     rintro w' ⟨s0, s1, s2, s3, s4, s5⟩
                     go_simp
                     with_reducible rfl
                    rotate_left
                    ·
                     simp only [Act.put, List.setIfInBounds_toArray, List.set_cons_zero, List.set_cons_succ, i64_w, i32_w]
                     rfl
                    refine take_ (i := 8) (N := some 50) (v := ?_) (a' := ?_) #[true, true, true, true, true, true, true, true, true, false, false, false] rfl rfl (take_ofW HT_.out HW_.out (by kernel_rfl)) (fun _ _ _ h => h) (Or.inl ⟨by rfl, ?_⟩) hHeld ?_ ?_
                    rotate_left
                    ·
                     rintro w' ⟨s0, s1, s2, s3, s4, s5⟩
                     go_simp
                     with_reducible rfl
                    rotate_left
                    ·
                     simp only [Act.put, List.setIfInBounds_toArray, List.set_cons_zero, List.set_cons_succ, i64_w, i32_w]
                     rfl
                    refine pure_ (i := 9) (N := some 51) (v := ?_) (a' := ?_) #[true, true, true, true, true, true, true, true, true, true, false, false] rfl rfl (any_of HT_.out (by kernel_rfl)) (fun _ _ _ h => h) (Or.inl ⟨by rfl, ?_⟩) ?_ ?_
                    rotate_left
                    ·
                     intro w'
                     go_simp
                     with_reducible rfl
                    rotate_left
                    ·
                     simp only [Act.put, List.setIfInBounds_toArray, List.set_cons_zero, List.set_cons_succ, i64_w, i32_w]
                     rfl
                    refine pure_ (i := 10) (N := some 52) (v := ?_) (a' := ?_) #[true, true, true, true, true, true, true, true, true, true, true, false] rfl rfl (any_of HT_.out (by kernel_rfl)) (fun _ _ _ h => h) (Or.inl ⟨by rfl, ?_⟩) ?_ ?_
                    rotate_left
                    ·
                     intro w'
                     go_simp
                     with_reducible rfl
                    rotate_left
                    ·
                     simp only [Act.put, List.setIfInBounds_toArray, List.set_cons_zero, List.set_cons_succ, i64_w, i32_w]
                     rfl
                    refine last_ (i := 11) (N := none) #[true, true, true, true, true, true, true, true, true, true, true, true] rfl rfl (one_of HT_.out (by kernel_rfl)) (by decide) (fun K hK => ?_)
                    refine skip_ (w1 := ?_) (by rfl) rfl ?_ ?_
                    rotate_left
                    ·
                     go_simp
                     rfl
                    refine hK.out _ _ ?_
                    clear hK K
                    refine done_ (done_of HT_.out (by kernel_rfl)) ?_
                    try go_wp2
                    have n0_ : Aside0 (Kd.S (Kd.slice 3 (Kd.int .i64)) 36 (w45.setCell ⟨go30, 1, none⟩ (.int .i64 (wrap64 ((rd (rd_L3 y182 ((rd_T68 l0_2 x27_2).f0)) 1) + ((rd_T68 l0_2 x27_2).f3))))) w.heap.size (fun _ => True) (.slice (some ad178) x4_2.length co12) y187) := ⟨by (with_reducible repeat (first | apply Kd.S_alloc | apply Kd.S_drewN | apply Kd.S_drew)); exact HQ46.out⟩; have n1_ : Aside0 ((w45.setCell ⟨go30, 1, none⟩ (.int .i64 (wrap64 ((rd (rd_L3 y182 ((rd_T68 l0_2 x27_2).f0)) 1) + ((rd_T68 l0_2 x27_2).f3))))).heap[gb167]? = some (.cells #[.int .i64 a0_0, .int .i64 a0_1, .slice (some ad176) l0_2.length c0_2] 30 (0, 0))) := ⟨by (with_reducible repeat (first | refine blk_drewN ?_ _ | refine blk_drew ?_ | refine blk_alloc ?_ _)); refine blk_far ?_ (by have h_ := Kd.R_ne HL183_0.out BK167.out (by decide); intro e_; exact h_ (by rw [e_]; rfl)) _; exact B_ BK167.out⟩; have n2_ : Aside0 ((w45.setCell ⟨go30, 1, none⟩ (.int .i64 (wrap64 ((rd (rd_L3 y182 ((rd_T68 l0_2 x27_2).f0)) 1) + ((rd_T68 l0_2 x27_2).f3))))).heap[gb177]? = some (.cells #[.int .i64 ((rd_T68 l0_2 x27_2).f0), .int .i64 ((rd_T68 l0_2 x27_2).f1), .int .i64 ((rd_T68 l0_2 x27_2).f2), .int .i64 ((rd_T68 l0_2 x27_2).f3)] 68 (0, 0))) := ⟨by (with_reducible repeat (first | refine blk_drewN ?_ _ | refine blk_drew ?_ | refine blk_alloc ?_ _)); refine blk_far ?_ (by have h_ := Kd.R_ne HL183_0.out BK177.out (by decide); intro e_; exact h_ (by rw [e_]; rfl)) _; exact B_ BK177.out⟩; have n3_ : Aside0 (Below w.heap.size w (w45.setCell ⟨go30, 1, none⟩ (.int .i64 (wrap64 ((rd (rd_L3 y182 ((rd_T68 l0_2 x27_2).f0)) 1) + ((rd_T68 l0_2 x27_2).f3)))))) := ⟨by repeat (first | (with_reducible first | exact HB.out | apply below_alloc | apply pw_below_drewN | apply below_drew1 | refine below_set ?_ GB30.out | refine below_set ?_ GE167.out | refine below_set ?_ GE177.out) | exact HB.out)⟩
                    (try clear HO_4)
                    (try clear BK167)
                    (try clear BK177)
                    (try clear HB)
                    generalize (w45.setCell ⟨go30, 1, none⟩ (.int .i64 (wrap64 ((rd (rd_L3 y182 ((rd_T68 l0_2 x27_2).f0)) 1) + ((rd_T68 l0_2 x27_2).f3))))) = w48 at n0_ n1_ n2_ n3_ ⊢; have HO_4 := n0_; have BK167 := n1_; have BK177 := n2_; have HB := n3_; clear n0_ n1_ n2_ n3_; have n0_ := a_ (Kd.S_drew HO_4.out); have n1_ := a_ (blk_drew BK167.out); have n2_ := a_ (blk_drew BK177.out); have n3_ := a_ (below_drew1 HB.out); clear HO_4; clear BK167; clear BK177; clear HB; have HO_4 := n0_; have BK167 := n1_; have BK177 := n2_; have HB := n3_; clear n0_ n1_ n2_ n3_; have p188 : 0 ≤ (((rd_T68 l0_2 x27_2).f1) : Int) := of_decide_eq_true (by first | (with_reducible assumption) | assumption); have q188 : ((rd_T68 l0_2 x27_2).f1) < (y187.length : Int) := (by have h_ : (((rd_T68 l0_2 x27_2).f1) : Int) < ((x4_2.length : Int) : Int) := of_decide_eq_true (by first | (with_reducible assumption) | assumption); first | (have e_ := (Kd.S_reads' HO_4.out).1; omega) | simpa only [Ny182.out, Ny187.out, List.length_set] using h_); have ql188 : ((((rd_T68 l0_2 x27_2).f1) : Int) < ((x4_2.length : Int) : Int)) = True := eq_true (of_decide_eq_true (by first | (with_reducible assumption) | assumption)); obtain ⟨ad188, A188_0, c188_0, e188, hx188_0, hl188_0, hi188_0⟩ := at_L3 (Kd.S_reads' HO_4.out).2.2 ((rd_T68 l0_2 x27_2).f1) p188 q188; obtain rfl : ad178 = ad188 := (by injection e188); obtain ⟨ce188, hce188, hMe188, hcc188⟩ := Kd.S_get HO_4.out [] ((rd_T68 l0_2 x27_2).f1) p188 (by first | exact q188 | exact of_decide_eq_true (by first | (with_reducible assumption) | assumption) | (have e_ := (Kd.S_reads' HO_4.out).1; omega)); obtain ⟨ve188_0, rfl, ge188_0⟩ := hMe188; have hv188_0 := hcc188 0 _ rfl; rw [Nat.add_zero, show ((Kd.slice 3 (Kd.int .i64))).sz = 1 from rfl, Nat.mul_one] at hv188_0; replace hv188_0 := Option.some.inj (hv188_0.symm.trans hx188_0); rw [hv188_0] at ge188_0; have HL188_0 := a_ (show Kd.R (Kd.int .i64) 3 _ _ _ _ (rd_L3 y187 ((rd_T68 l0_2 x27_2).f1)) from ge188_0); clear hv188_0 ge188_0; have HX188_0 := a_ hx188_0; clear hcc188 hce188; have HR188_0 := a_ hi188_0; have HC188_0 := a_ hl188_0; clear hi188_0 hl188_0; replace p188 := eq_true p188; replace q188 := eq_true q188; have p189 : 0 ≤ (0 : Int) := (by omega); have q189 : 0 < ((rd_L3 y187 ((rd_T68 l0_2 x27_2).f1)).length : Int) := of_decide_eq_true (by first | (with_reducible assumption) | assumption); obtain ⟨ad189, e189, hx189_0⟩ := Kd.at_int (by repeat (first | (with_reducible exact HR188_0.out) | (with_reducible refine Kd.C_alloc ?_ _) | (with_reducible refine Kd.C_drewN ?_ _) | (with_reducible refine Kd.C_drew ?_) | exact HR188_0.out)) 0 p189 q189
                    cases e189
                    have qi189 : (0 < (rd_L3 y187 ((rd_T68 l0_2 x27_2).f1)).length) = True := eq_true (by omega)
                    (try rw [show ((0 : Int)).toNat = 0 from rfl] at hx189_0)
                    (try rw [Addr.add_zero'] at hx189_0)
                    replace p189 := eq_true p189; replace q189 := eq_true q189; have p34 : 0 ≤ (0 : Int) := (by omega); have q34 : (0 : Int) < (((rd_L3 y187 ((rd_T68 l0_2 x27_2).f1)).length : Int) : Int) := of_decide_eq_true (by first | (with_reducible assumption) | assumption); have qi34 : (0 < (rd_L3 y187 ((rd_T68 l0_2 x27_2).f1)).length) = True := eq_true (by omega); obtain ⟨go34, co34, eo34, gb34, gl34, cl34, HG34⟩ := Kd.R_form HL188_0.out (by omega)
                    (first | cases eo34 | (injection eo34 with ea_ en_ ec_; (first | subst ea_ | (injection ea_ with ea_; subst ea_)); subst ec_; clear en_))
                    have GB34 := a_ gb34; have GG34 := a_ HG34; clear gb34 gl34 HG34
                    (first | simp only [add_plain] at hx189_0 | skip)
                    obtain ⟨hx34_0, hf34_0⟩ := Kd.R_celln 0 HL188_0.out (0 : Int) p34 q34
                    (try rw [show ((0 : Int)).toNat = 0 from rfl] at hx34_0)
                    (try simp only [Nat.reduceMul, Nat.zero_mul, Nat.zero_add, Nat.reduceAdd] at hx34_0)
                    (try rw [show ((0 : Int)).toNat = 0 from rfl] at hf34_0)
                    (try simp only [Nat.reduceMul, Nat.zero_mul, Nat.zero_add, Nat.reduceAdd] at hf34_0)
                    replace p34 := eq_true p34; replace q34 := eq_true q34; have hq50 : (((rd_T68 l0_2 x27_2).f1) : Int) < (y187.length : Int) := (by have h_ : (((rd_T68 l0_2 x27_2).f1) : Int) < ((x4_2.length : Int) : Int) := of_decide_eq_true (by first | (with_reducible assumption) | assumption); first | exact h_ | (have e_ := (Kd.S_reads' HO_4.out).1; omega) | simpa only [Ny182.out, Ny187.out, List.length_set] using h_); obtain ⟨oki50, ce50, hcl50, hM50, hcc50, hok50, hbk50⟩ := Kd.S_borrow HO_4.out [] (((rd_T68 l0_2 x27_2).f1) : Int) (of_decide_eq_true (by first | (with_reducible assumption) | assumption)) (by have e_ := (Kd.S_reads' HO_4.out).1; have h_ := hq50; omega); obtain ⟨ve50_0, rfl, ge50_0⟩ := hM50; have hv50 := hcc50 0 _ rfl; rw [Nat.add_zero, show ((Kd.slice 3 (Kd.int .i64))).sz = 1 from rfl, Nat.mul_one] at hv50; replace hv50 := Option.some.inj (hv50.symm.trans HX188_0.out); subst hv50; clear hcc50 hcl50; replace ge50_0 := (show Kd.R (Kd.int .i64) 3 _ _ _ _ (rd_L3 y187 ((rd_T68 l0_2 x27_2).f1)) from ge50_0); have HP50 := Kd.R_putg ge50_0 (0 : Int) (wrap64 ((rd (rd_L3 y187 ((rd_T68 l0_2 x27_2).f1)) 0) + ((rd_T68 l0_2 x27_2).f3))); rw [← Ny190.out] at HP50; have HS50 := hbk50 HP50.2 (fun k_ e_ => by injection e_ with e_; subst e_; exact ge50_0.1 _ rfl) (x' := y190) (Kd.M_row HP50.1); rw [← Ny192.out] at HS50; have HQ50 := a_ HS50; clear HP50 HS50 hbk50 hok50
                    refine start_ (n := 12) (S := fun w' => w'.cell? ⟨gb177, 0, none⟩ = some (.int .i64 ((rd_T68 l0_2 x27_2).f0)) ∧ w'.cell? ⟨gb177, 1, none⟩ = some (.int .i64 ((rd_T68 l0_2 x27_2).f1)) ∧ w'.cell? ⟨gb177, 2, none⟩ = some (.int .i64 ((rd_T68 l0_2 x27_2).f2)) ∧ w'.cell? ⟨gb177, 3, none⟩ = some (.int .i64 ((rd_T68 l0_2 x27_2).f3)) ∧ w'.cell? (ad178.add (((rd_T68 l0_2 x27_2).f1)).toNat) = some (.slice (some ⟨go34, 0, none⟩) (rd_L3 y187 ((rd_T68 l0_2 x27_2).f1)).length c188_0) ∧ w'.cell? ⟨go34, 0, none⟩ = some (.int .i64 (rd (rd_L3 y187 ((rd_T68 l0_2 x27_2).f1)) 0))) (ds := [11]) #[false, false, false, false, false, false, false, false, false, false, false, false] (by kernel_rfl) rfl rfl ⟨c_ BK177.out 0, c_ BK177.out 1, c_ BK177.out 2, c_ BK177.out 3, hx188_0, hx189_0⟩ (fun hHeld => ?_); refine with_tabW impl_GoalsOfTeams.tab14 impl_GoalsOfTeams.bits14 (fun HT_ HW_ => ?_)
                    generalize w48.drew = w49 at HO_4 BK167 BK177 HB GG34 HL188_0 HQ46 HQ50 HR188_0 HX188_0 hf34_0 hx188_0 hx189_0 hx34_0 hHeld ⊢
                    refine pure_ (i := 0) (N := some 53) (v := ?_) (a' := ?_) #[true, false, false, false, false, false, false, false, false, false, false, false] rfl rfl (any_of HT_.out (by kernel_rfl)) (fun _ _ _ h => h) (Or.inl ⟨by rfl, ?_⟩) ?_ ?_
                    rotate_left
                    ·
                     intro w'
                     go_simp
                     with_reducible rfl
                    rotate_left
                    ·
                     simp only [Act.put, List.setIfInBounds_toArray, List.set_cons_zero, List.set_cons_succ, i64_w, i32_w]
                     rfl
                    refine pure_ (i := 1) (N := some 54) (v := ?_) (a' := ?_) #[true, true, false, false, false, false, false, false, false, false, false, false] rfl rfl (any_of HT_.out (by kernel_rfl)) (fun _ _ _ h => h) (Or.inl ⟨by rfl, ?_⟩) ?_ ?_
                    rotate_left
                    ·
                     intro w'
                     go_simp
                     with_reducible rfl
                    rotate_left
                    ·
                     simp only [Act.put, List.setIfInBounds_toArray, List.set_cons_zero, List.set_cons_succ, i64_w, i32_w]
                     rfl
                    refine pure_ (i := 7) (N := some 60) (v := ?_) (a' := ?_) #[true, true, false, false, false, false, false, true, false, false, false, false] rfl rfl (any_of HT_.out (by kernel_rfl)) (fun _ _ _ h => h) (Or.inl ⟨by rfl, ?_⟩) ?_ ?_
                    rotate_left
                    ·
                     intro w'
                     go_simp
                     with_reducible rfl
                    rotate_left
                    ·
                     simp only [Act.put, List.setIfInBounds_toArray, List.set_cons_zero, List.set_cons_succ, i64_w, i32_w]
                     rfl
                    refine take_ (i := 2) (N := some 55) (v := ?_) (a' := ?_) #[true, true, true, false, false, false, false, true, false, false, false, false] rfl rfl (take_ofW HT_.out HW_.out (by kernel_rfl)) (fun _ _ _ h => h) (Or.inl ⟨by rfl, ?_⟩) hHeld ?_ ?_
                    rotate_left
                    ·
                     rintro w' ⟨s0, s1, s2, s3, s4, s5⟩
                     go_simp
                     with_reducible rfl
                    rotate_left
                    ·
                     simp only [Act.put, List.setIfInBounds_toArray, List.set_cons_zero, List.set_cons_succ, i64_w, i32_w]
                     rfl
                    refine pure_ (i := 3) (N := some 56) (v := ?_) (a' := ?_) #[true, true, true, true, false, false, false, true, false, false, false, false] rfl rfl (any_of HT_.out (by kernel_rfl)) (fun _ _ _ h => h) (Or.inl ⟨by rfl, ?_⟩) ?_ ?_
                    rotate_left
                    ·
                     intro w'
                     go_simp
                     with_reducible rfl
                    rotate_left
                    ·
                     simp only [Act.put, List.setIfInBounds_toArray, List.set_cons_zero, List.set_cons_succ, i64_w, i32_w]
                     rfl
                    refine take_ (i := 4) (N := some 57) (v := ?_) (a' := ?_) #[true, true, true, true, true, false, false, true, false, false, false, false] rfl rfl (take_ofW HT_.out HW_.out (by kernel_rfl)) (fun _ _ _ h => h) (Or.inl ⟨by rfl, ?_⟩) hHeld ?_ ?_
                    rotate_left
                    ·
                     rintro w' ⟨s0, s1, s2, s3, s4, s5⟩
                     go_simp
                     with_reducible rfl
                    rotate_left
                    ·
                     simp only [Act.put, List.setIfInBounds_toArray, List.set_cons_zero, List.set_cons_succ, i64_w, i32_w]
                     rfl
                    refine pure_ (i := 5) (N := some 58) (v := ?_) (a' := ?_) #[true, true, true, true, true, true, false, true, false, false, false, false] rfl rfl (any_of HT_.out (by kernel_rfl)) (fun _ _ _ h => h) (Or.inl ⟨by rfl, ?_⟩) ?_ ?_
                    rotate_left
                    ·
                     intro w'
                     go_simp
                     with_reducible rfl
                    rotate_left
                    ·
                     simp only [Act.put, List.setIfInBounds_toArray, List.set_cons_zero, List.set_cons_succ, i64_w, i32_w]
                     rfl
                    refine take_ (i := 6) (N := some 59) (v := ?_) (a' := ?_) #[true, true, true, true, true, true, true, true, false, false, false, false] rfl rfl (take_ofW HT_.out HW_.out (by kernel_rfl)) (fun _ _ _ h => h) (Or.inl ⟨by rfl, ?_⟩) hHeld ?_ ?_
                    rotate_left
                    ·
                     rintro w' ⟨s0, s1, s2, s3, s4, s5⟩
                     go_simp
                     with_reducible rfl
                    rotate_left
                    ·
                     simp only [Act.put, List.setIfInBounds_toArray, List.set_cons_zero, List.set_cons_succ, i64_w, i32_w]
                     rfl
                    refine take_ (i := 8) (N := some 61) (v := ?_) (a' := ?_) #[true, true, true, true, true, true, true, true, true, false, false, false] rfl rfl (take_ofW HT_.out HW_.out (by kernel_rfl)) (fun _ _ _ h => h) (Or.inl ⟨by rfl, ?_⟩) hHeld ?_ ?_
                    rotate_left
                    ·
                     rintro w' ⟨s0, s1, s2, s3, s4, s5⟩
                     go_simp
                     with_reducible rfl
                    rotate_left
                    ·
                     simp only [Act.put, List.setIfInBounds_toArray, List.set_cons_zero, List.set_cons_succ, i64_w, i32_w]
                     rfl
                    refine pure_ (i := 9) (N := some 62) (v := ?_) (a' := ?_) #[true, true, true, true, true, true, true, true, true, true, false, false] rfl rfl (any_of HT_.out (by kernel_rfl)) (fun _ _ _ h => h) (Or.inl ⟨by rfl, ?_⟩) ?_ ?_
                    rotate_left
                    ·
                     intro w'
                     go_simp
                     with_reducible rfl
                    rotate_left
                    ·
                     simp only [Act.put, List.setIfInBounds_toArray, List.set_cons_zero, List.set_cons_succ, i64_w, i32_w]
                     rfl
                    refine pure_ (i := 10) (N := some 63) (v := ?_) (a' := ?_) #[true, true, true, true, true, true, true, true, true, true, true, false] rfl rfl (any_of HT_.out (by kernel_rfl)) (fun _ _ _ h => h) (Or.inl ⟨by rfl, ?_⟩) ?_ ?_
                    rotate_left
                    ·
                     intro w'
                     go_simp
                     with_reducible rfl
                    rotate_left
                    ·
                     simp only [Act.put, List.setIfInBounds_toArray, List.set_cons_zero, List.set_cons_succ, i64_w, i32_w]
                     rfl
                    refine last_ (i := 11) (N := none) #[true, true, true, true, true, true, true, true, true, true, true, true] rfl rfl (one_of HT_.out (by kernel_rfl)) (by decide) (fun K hK => ?_)
                    refine skip_ (w1 := ?_) (by rfl) rfl ?_ ?_
                    rotate_left
                    ·
                     go_simp
                     rfl
                    refine hK.out _ _ ?_
                    clear hK K
                    refine done_ (done_of HT_.out (by kernel_rfl)) ?_
                    try go_wp2
                    have n0_ : Aside0 (Kd.S (Kd.slice 3 (Kd.int .i64)) 36 (w49.setCell ⟨go34, 0, none⟩ (.int .i64 (wrap64 ((rd (rd_L3 y187 ((rd_T68 l0_2 x27_2).f1)) 0) + ((rd_T68 l0_2 x27_2).f3))))) w.heap.size (fun _ => True) (.slice (some ad178) x4_2.length co12) y192) := ⟨by (with_reducible repeat (first | apply Kd.S_alloc | apply Kd.S_drewN | apply Kd.S_drew)); exact HQ50.out⟩; have n1_ : Aside0 ((w49.setCell ⟨go34, 0, none⟩ (.int .i64 (wrap64 ((rd (rd_L3 y187 ((rd_T68 l0_2 x27_2).f1)) 0) + ((rd_T68 l0_2 x27_2).f3))))).heap[gb167]? = some (.cells #[.int .i64 a0_0, .int .i64 a0_1, .slice (some ad176) l0_2.length c0_2] 30 (0, 0))) := ⟨by (with_reducible repeat (first | refine blk_drewN ?_ _ | refine blk_drew ?_ | refine blk_alloc ?_ _)); refine blk_far ?_ (by have h_ := Kd.R_ne HL188_0.out BK167.out (by decide); intro e_; exact h_ (by rw [e_]; rfl)) _; exact B_ BK167.out⟩; have n2_ : Aside0 ((w49.setCell ⟨go34, 0, none⟩ (.int .i64 (wrap64 ((rd (rd_L3 y187 ((rd_T68 l0_2 x27_2).f1)) 0) + ((rd_T68 l0_2 x27_2).f3))))).heap[gb177]? = some (.cells #[.int .i64 ((rd_T68 l0_2 x27_2).f0), .int .i64 ((rd_T68 l0_2 x27_2).f1), .int .i64 ((rd_T68 l0_2 x27_2).f2), .int .i64 ((rd_T68 l0_2 x27_2).f3)] 68 (0, 0))) := ⟨by (with_reducible repeat (first | refine blk_drewN ?_ _ | refine blk_drew ?_ | refine blk_alloc ?_ _)); refine blk_far ?_ (by have h_ := Kd.R_ne HL188_0.out BK177.out (by decide); intro e_; exact h_ (by rw [e_]; rfl)) _; exact B_ BK177.out⟩; have n3_ : Aside0 (Below w.heap.size w (w49.setCell ⟨go34, 0, none⟩ (.int .i64 (wrap64 ((rd (rd_L3 y187 ((rd_T68 l0_2 x27_2).f1)) 0) + ((rd_T68 l0_2 x27_2).f3)))))) := ⟨by repeat (first | (with_reducible first | exact HB.out | apply below_alloc | apply pw_below_drewN | apply below_drew1 | refine below_set ?_ GB34.out | refine below_set ?_ GE167.out | refine below_set ?_ GE177.out) | exact HB.out)⟩
                    (try clear HO_4)
                    (try clear BK167)
                    (try clear BK177)
                    (try clear HB)
                    generalize (w49.setCell ⟨go34, 0, none⟩ (.int .i64 (wrap64 ((rd (rd_L3 y187 ((rd_T68 l0_2 x27_2).f1)) 0) + ((rd_T68 l0_2 x27_2).f3))))) = w52 at n0_ n1_ n2_ n3_ ⊢; have HO_4 := n0_; have BK167 := n1_; have BK177 := n2_; have HB := n3_; clear n0_ n1_ n2_ n3_; have n0_ := a_ (Kd.S_drew HO_4.out); have n1_ := a_ (blk_drew BK167.out); have n2_ := a_ (blk_drew BK177.out); have n3_ := a_ (below_drew1 HB.out); clear HO_4; clear BK167; clear BK177; clear HB; have HO_4 := n0_; have BK167 := n1_; have BK177 := n2_; have HB := n3_; clear n0_ n1_ n2_ n3_; have p193 : 0 ≤ (((rd_T68 l0_2 x27_2).f1) : Int) := of_decide_eq_true (by first | (with_reducible assumption) | assumption); have q193 : ((rd_T68 l0_2 x27_2).f1) < (y192.length : Int) := (by have h_ : (((rd_T68 l0_2 x27_2).f1) : Int) < ((x4_2.length : Int) : Int) := of_decide_eq_true (by first | (with_reducible assumption) | assumption); first | (have e_ := (Kd.S_reads' HO_4.out).1; omega) | simpa only [Ny182.out, Ny187.out, Ny192.out, List.length_set] using h_); have ql193 : ((((rd_T68 l0_2 x27_2).f1) : Int) < ((x4_2.length : Int) : Int)) = True := eq_true (of_decide_eq_true (by first | (with_reducible assumption) | assumption)); obtain ⟨ad193, A193_0, c193_0, e193, hx193_0, hl193_0, hi193_0⟩ := at_L3 (Kd.S_reads' HO_4.out).2.2 ((rd_T68 l0_2 x27_2).f1) p193 q193; obtain rfl : ad178 = ad193 := (by injection e193); obtain ⟨ce193, hce193, hMe193, hcc193⟩ := Kd.S_get HO_4.out [] ((rd_T68 l0_2 x27_2).f1) p193 (by first | exact q193 | exact of_decide_eq_true (by first | (with_reducible assumption) | assumption) | (have e_ := (Kd.S_reads' HO_4.out).1; omega)); obtain ⟨ve193_0, rfl, ge193_0⟩ := hMe193; have hv193_0 := hcc193 0 _ rfl; rw [Nat.add_zero, show ((Kd.slice 3 (Kd.int .i64))).sz = 1 from rfl, Nat.mul_one] at hv193_0; replace hv193_0 := Option.some.inj (hv193_0.symm.trans hx193_0); rw [hv193_0] at ge193_0; have HL193_0 := a_ (show Kd.R (Kd.int .i64) 3 _ _ _ _ (rd_L3 y192 ((rd_T68 l0_2 x27_2).f1)) from ge193_0); clear hv193_0 ge193_0; have HX193_0 := a_ hx193_0; clear hcc193 hce193; have HR193_0 := a_ hi193_0; have HC193_0 := a_ hl193_0; clear hi193_0 hl193_0; replace p193 := eq_true p193; replace q193 := eq_true q193; have p194 : 0 ≤ (1 : Int) := (by omega); have q194 : 1 < ((rd_L3 y192 ((rd_T68 l0_2 x27_2).f1)).length : Int) := of_decide_eq_true (by first | (with_reducible assumption) | assumption); obtain ⟨ad194, e194, hx194_0⟩ := Kd.at_int (by repeat (first | (with_reducible exact HR193_0.out) | (with_reducible refine Kd.C_alloc ?_ _) | (with_reducible refine Kd.C_drewN ?_ _) | (with_reducible refine Kd.C_drew ?_) | exact HR193_0.out)) 1 p194 q194
                    cases e194
                    (try simp only [show (1 : Int).toNat = 1 from rfl, Nat.reduceMul, Nat.reduceEqDiff, Go.Addr.add, ↓reduceIte] at hx194_0)
                    have qi194 : (1 < (rd_L3 y192 ((rd_T68 l0_2 x27_2).f1)).length) = True := eq_true (by omega)
                    (try rw [show ((1 : Int)).toNat = 1 from rfl] at hx194_0)
                    replace p194 := eq_true p194; replace q194 := eq_true q194; have p36 : 0 ≤ (1 : Int) := (by omega); have q36 : (1 : Int) < (((rd_L3 y192 ((rd_T68 l0_2 x27_2).f1)).length : Int) : Int) := of_decide_eq_true (by first | (with_reducible assumption) | assumption); have qi36 : (1 < (rd_L3 y192 ((rd_T68 l0_2 x27_2).f1)).length) = True := eq_true (by omega); obtain ⟨go36, co36, eo36, gb36, gl36, cl36, HG36⟩ := Kd.R_form HL193_0.out (by omega)
                    (first | cases eo36 | (injection eo36 with ea_ en_ ec_; (first | subst ea_ | (injection ea_ with ea_; subst ea_)); subst ec_; clear en_))
                    have GB36 := a_ gb36; have GG36 := a_ HG36; clear gb36 gl36 HG36
                    (first | simp only [add_plain] at hx194_0 | skip)
                    obtain ⟨hx36_0, hf36_0⟩ := Kd.R_celln 0 HL193_0.out (1 : Int) p36 q36
                    (try rw [show ((1 : Int)).toNat = 1 from rfl] at hx36_0)
                    (try simp only [Nat.reduceMul, Nat.zero_mul, Nat.zero_add, Nat.reduceAdd] at hx36_0)
                    (try rw [show ((1 : Int)).toNat = 1 from rfl] at hf36_0)
                    (try simp only [Nat.reduceMul, Nat.zero_mul, Nat.zero_add, Nat.reduceAdd] at hf36_0)
                    replace p36 := eq_true p36; replace q36 := eq_true q36; have hq54 : (((rd_T68 l0_2 x27_2).f1) : Int) < (y192.length : Int) := (by have h_ : (((rd_T68 l0_2 x27_2).f1) : Int) < ((x4_2.length : Int) : Int) := of_decide_eq_true (by first | (with_reducible assumption) | assumption); first | exact h_ | (have e_ := (Kd.S_reads' HO_4.out).1; omega) | simpa only [Ny182.out, Ny187.out, Ny192.out, List.length_set] using h_); obtain ⟨oki54, ce54, hcl54, hM54, hcc54, hok54, hbk54⟩ := Kd.S_borrow HO_4.out [] (((rd_T68 l0_2 x27_2).f1) : Int) (of_decide_eq_true (by first | (with_reducible assumption) | assumption)) (by have e_ := (Kd.S_reads' HO_4.out).1; have h_ := hq54; omega); obtain ⟨ve54_0, rfl, ge54_0⟩ := hM54; have hv54 := hcc54 0 _ rfl; rw [Nat.add_zero, show ((Kd.slice 3 (Kd.int .i64))).sz = 1 from rfl, Nat.mul_one] at hv54; replace hv54 := Option.some.inj (hv54.symm.trans HX193_0.out); subst hv54; clear hcc54 hcl54; replace ge54_0 := (show Kd.R (Kd.int .i64) 3 _ _ _ _ (rd_L3 y192 ((rd_T68 l0_2 x27_2).f1)) from ge54_0); have HP54 := Kd.R_putg ge54_0 (1 : Int) (wrap64 ((rd (rd_L3 y192 ((rd_T68 l0_2 x27_2).f1)) 1) + ((rd_T68 l0_2 x27_2).f2))); rw [← Ny195.out] at HP54; have HS54 := hbk54 HP54.2 (fun k_ e_ => by injection e_ with e_; subst e_; exact ge54_0.1 _ rfl) (x' := y195) (Kd.M_row HP54.1); rw [← Ny197.out] at HS54; have HQ54 := a_ HS54; clear HP54 HS54 hbk54 hok54
                    refine start_ (n := 12) (S := fun w' => w'.cell? ⟨gb177, 0, none⟩ = some (.int .i64 ((rd_T68 l0_2 x27_2).f0)) ∧ w'.cell? ⟨gb177, 1, none⟩ = some (.int .i64 ((rd_T68 l0_2 x27_2).f1)) ∧ w'.cell? ⟨gb177, 2, none⟩ = some (.int .i64 ((rd_T68 l0_2 x27_2).f2)) ∧ w'.cell? ⟨gb177, 3, none⟩ = some (.int .i64 ((rd_T68 l0_2 x27_2).f3)) ∧ w'.cell? (ad178.add (((rd_T68 l0_2 x27_2).f1)).toNat) = some (.slice (some ⟨go36, 0, none⟩) (rd_L3 y192 ((rd_T68 l0_2 x27_2).f1)).length c193_0) ∧ w'.cell? ⟨go36, 1, none⟩ = some (.int .i64 (rd (rd_L3 y192 ((rd_T68 l0_2 x27_2).f1)) 1))) (ds := [11]) #[false, false, false, false, false, false, false, false, false, false, false, false] (by kernel_rfl) rfl rfl ⟨c_ BK177.out 0, c_ BK177.out 1, c_ BK177.out 2, c_ BK177.out 3, hx193_0, hx194_0⟩ (fun hHeld => ?_); refine with_tabW impl_GoalsOfTeams.tab15 impl_GoalsOfTeams.bits15 (fun HT_ HW_ => ?_)
                    generalize w52.drew = w53 at HO_4 BK167 BK177 HB GG36 HL193_0 HQ50 HQ54 HR193_0 HX193_0 hf36_0 hx193_0 hx194_0 hx36_0 hHeld ⊢
                    refine pure_ (i := 0) (N := some 64) (v := ?_) (a' := ?_) #[true, false, false, false, false, false, false, false, false, false, false, false] rfl rfl (any_of HT_.out (by kernel_rfl)) (fun _ _ _ h => h) (Or.inl ⟨by rfl, ?_⟩) ?_ ?_
                    rotate_left
                    ·
                     intro w'
                     go_simp
                     with_reducible rfl
                    rotate_left
                    ·
                     simp only [Act.put, List.setIfInBounds_toArray, List.set_cons_zero, List.set_cons_succ, i64_w, i32_w]
                     rfl
                    refine pure_ (i := 1) (N := some 65) (v := ?_) (a' := ?_) #[true, true, false, false, false, false, false, false, false, false, false, false] rfl rfl (any_of HT_.out (by kernel_rfl)) (fun _ _ _ h => h) (Or.inl ⟨by rfl, ?_⟩) ?_ ?_
                    rotate_left
                    ·
                     intro w'
                     go_simp
                     with_reducible rfl
                    rotate_left
                    ·
                     simp only [Act.put, List.setIfInBounds_toArray, List.set_cons_zero, List.set_cons_succ, i64_w, i32_w]
                     rfl
                    refine pure_ (i := 7) (N := some 71) (v := ?_) (a' := ?_) #[true, true, false, false, false, false, false, true, false, false, false, false] rfl rfl (any_of HT_.out (by kernel_rfl)) (fun _ _ _ h => h) (Or.inl ⟨by rfl, ?_⟩) ?_ ?_
                    rotate_left
                    ·
                     intro w'
                     go_simp
                     with_reducible rfl
                    rotate_left
                    ·
                     simp only [Act.put, List.setIfInBounds_toArray, List.set_cons_zero, List.set_cons_succ, i64_w, i32_w]
                     rfl
                    refine take_ (i := 2) (N := some 66) (v := ?_) (a' := ?_) #[true, true, true, false, false, false, false, true, false, false, false, false] rfl rfl (take_ofW HT_.out HW_.out (by kernel_rfl)) (fun _ _ _ h => h) (Or.inl ⟨by rfl, ?_⟩) hHeld ?_ ?_
                    rotate_left
                    ·
                     rintro w' ⟨s0, s1, s2, s3, s4, s5⟩
                     go_simp
                     with_reducible rfl
                    rotate_left
                    ·
                     simp only [Act.put, List.setIfInBounds_toArray, List.set_cons_zero, List.set_cons_succ, i64_w, i32_w]
                     rfl
                    refine pure_ (i := 3) (N := some 67) (v := ?_) (a' := ?_) #[true, true, true, true, false, false, false, true, false, false, false, false] rfl rfl (any_of HT_.out (by kernel_rfl)) (fun _ _ _ h => h) (Or.inl ⟨by rfl, ?_⟩) ?_ ?_
                    rotate_left
                    ·
                     intro w'
                     go_simp
                     with_reducible rfl
                    rotate_left
                    ·
                     simp only [Act.put, List.setIfInBounds_toArray, List.set_cons_zero, List.set_cons_succ, i64_w, i32_w]
                     rfl
                    refine take_ (i := 4) (N := some 68) (v := ?_) (a' := ?_) #[true, true, true, true, true, false, false, true, false, false, false, false] rfl rfl (take_ofW HT_.out HW_.out (by kernel_rfl)) (fun _ _ _ h => h) (Or.inl ⟨by rfl, ?_⟩) hHeld ?_ ?_
                    rotate_left
                    ·
                     rintro w' ⟨s0, s1, s2, s3, s4, s5⟩
                     go_simp
                     with_reducible rfl
                    rotate_left
                    ·
                     simp only [Act.put, List.setIfInBounds_toArray, List.set_cons_zero, List.set_cons_succ, i64_w, i32_w]
                     rfl
                    refine pure_ (i := 5) (N := some 69) (v := ?_) (a' := ?_) #[true, true, true, true, true, true, false, true, false, false, false, false] rfl rfl (any_of HT_.out (by kernel_rfl)) (fun _ _ _ h => h) (Or.inl ⟨by rfl, ?_⟩) ?_ ?_
                    rotate_left
                    ·
                     intro w'
                     go_simp
                     with_reducible rfl
                    rotate_left
                    ·
                     simp only [Act.put, List.setIfInBounds_toArray, List.set_cons_zero, List.set_cons_succ, i64_w, i32_w]
                     rfl
                    refine take_ (i := 6) (N := some 70) (v := ?_) (a' := ?_) #[true, true, true, true, true, true, true, true, false, false, false, false] rfl rfl (take_ofW HT_.out HW_.out (by kernel_rfl)) (fun _ _ _ h => h) (Or.inl ⟨by rfl, ?_⟩) hHeld ?_ ?_
                    rotate_left
                    ·
                     rintro w' ⟨s0, s1, s2, s3, s4, s5⟩
                     go_simp
                     with_reducible rfl
                    rotate_left
                    ·
                     simp only [Act.put, List.setIfInBounds_toArray, List.set_cons_zero, List.set_cons_succ, i64_w, i32_w]
                     rfl
                    refine take_ (i := 8) (N := some 72) (v := ?_) (a' := ?_) #[true, true, true, true, true, true, true, true, true, false, false, false] rfl rfl (take_ofW HT_.out HW_.out (by kernel_rfl)) (fun _ _ _ h => h) (Or.inl ⟨by rfl, ?_⟩) hHeld ?_ ?_
                    rotate_left
                    ·
                     rintro w' ⟨s0, s1, s2, s3, s4, s5⟩
                     go_simp
                     with_reducible rfl
                    rotate_left
                    ·
                     simp only [Act.put, List.setIfInBounds_toArray, List.set_cons_zero, List.set_cons_succ, i64_w, i32_w]
                     rfl
                    refine pure_ (i := 9) (N := some 73) (v := ?_) (a' := ?_) #[true, true, true, true, true, true, true, true, true, true, false, false] rfl rfl (any_of HT_.out (by kernel_rfl)) (fun _ _ _ h => h) (Or.inl ⟨by rfl, ?_⟩) ?_ ?_
                    rotate_left
                    ·
                     intro w'
                     go_simp
                     with_reducible rfl
                    rotate_left
                    ·
                     simp only [Act.put, List.setIfInBounds_toArray, List.set_cons_zero, List.set_cons_succ, i64_w, i32_w]
                     rfl
                    refine pure_ (i := 10) (N := some 74) (v := ?_) (a' := ?_) #[true, true, true, true, true, true, true, true, true, true, true, false] rfl rfl (any_of HT_.out (by kernel_rfl)) (fun _ _ _ h => h) (Or.inl ⟨by rfl, ?_⟩) ?_ ?_
                    rotate_left
                    ·
                     intro w'
                     go_simp
                     with_reducible rfl
                    rotate_left
                    ·
                     simp only [Act.put, List.setIfInBounds_toArray, List.set_cons_zero, List.set_cons_succ, i64_w, i32_w]
                     rfl
                    refine last_ (i := 11) (N := none) #[true, true, true, true, true, true, true, true, true, true, true, true] rfl rfl (one_of HT_.out (by kernel_rfl)) (by decide) (fun K hK => ?_)
                    refine skip_ (w1 := ?_) (by rfl) rfl ?_ ?_
                    rotate_left
                    ·
                     go_simp
                     rfl
                    refine hK.out _ _ ?_
                    clear hK K
                    refine done_ (done_of HT_.out (by kernel_rfl)) ?_
                    try go_wp2
                    (try simp only [← hl4_2])
                    go_roundg k2
                    case measure => have := HK1.out; have := HK2.out; omega
                    case rel => exact ⟨(y197), (wrap64 (x27_2 + 1)), (by first | rfl | (simp; done) | (simp [*]; done)), H', ⟨by have := HK1.out; have := HK2.out; omega⟩, ⟨by (try simp only [hl4_1]); (try simp only [hl4_2]); (with_reducible repeat (first | apply Kd.S_alloc | apply Kd.S_drewN | apply Kd.S_drew)); exact HQ54.out⟩, ⟨by (try simp only [hl4_1]); (try simp only [hl4_2]); (with_reducible repeat (first | refine blk_drewN ?_ _ | refine blk_drew ?_ | refine blk_alloc ?_ _)); refine blk_far ?_ (by have h_ := Kd.R_ne HL193_0.out BK167.out (by decide); intro e_; exact h_ (by rw [e_]; rfl)) _; exact B_ BK167.out⟩, ⟨by repeat (first | (with_reducible first | exact HB.out | apply below_alloc | apply pw_below_drewN | apply below_drew1 | refine below_set ?_ GB36.out | refine below_set ?_ GE167.out | refine below_set ?_ GE177.out) | exact HB.out)⟩⟩
                   ·
                    rw [if_neg c35] at H
                    exact absurd H (by simp)
                  ·
                   rw [if_neg c33] at H
                   exact absurd H (by simp)
                 ·
                  rw [if_neg c32] at H
                  exact absurd H (by simp)
                ·
                 rw [if_neg c31] at H
                 exact absurd H (by simp)
               ·
                rw [if_neg c29] at H
                exact absurd H (by simp)
              ·
               rw [if_neg c27] at H
               exact absurd H (by simp)
             ·
              rw [if_neg c26] at H
              exact absurd H (by simp)
            ·
             rw [if_neg c25] at H
             exact absurd H (by simp)
           ·
            rw [if_neg c24] at H
            exact absurd H (by simp)
          ·
           rw [if_neg c23] at H
           exact absurd H (by simp)
         ·
          rw [if_neg c22] at H; have c22b0 : decide (x27_2 < (l0_2.length : Int)) = false := decide_eq_false c22; clear c22; simp only [Option.some.injEq, Prod.mk.injEq] at H; obtain ⟨rfl, rfl⟩ := H
          go_wp2
          go_ret2
          exact ⟨_, by first | rfl | (simp [errW_none, errW_some] <;> rfl) | (simp [*, errW_none, errW_some] <;> rfl), by (with_reducible repeat (first | apply Kd.S_alloc | apply Kd.S_drewN | apply Kd.S_drew)); exact HO_4.out, by repeat (first | (with_reducible first | exact HB.out | apply below_alloc | apply pw_below_drewN | apply below_drew1 | refine below_set ?_ GE167.out) | exact HB.out)⟩
   ·
    rw [if_neg c5] at H
    exact absurd H (by simp)
  ·
   rw [if_neg c4] at H
   exact absurd H (by simp)
 ·
  replace c3 := Bool.eq_false_iff.mpr c3; subst c3; have H1 : (some (([] : List (List Int)), false)) = some (r1, r2) := by rw [if_neg (show ¬ (false = true) by decide)] at H; exact H
  clear H; have H := H1; clear H1; simp only [Option.some.injEq, Prod.mk.injEq] at H; obtain ⟨rfl, rfl⟩ := H
  go_enter Try.func44, Try.ntmps44
  go_wp2_with (first | ((with_reducible refine gate_dst (N := 1) rfl ?_); refine box_event ?hg (N := 1) ?hd (cs := #[.int .i64 a0_0, .int .i64 a0_1, .slice A0_2 l0_2.length c0_2]) (t := 30) ?hr ?_; (case hd => rfl); (case hg => rfl); (case hr => first | (go_simp; done) | (go_simp; rfl)); intro gb167 hg w56 hbox hb; have n0_ := a_ (below_step (L_ HB.out (Nat.le_refl _) (Nat.le_refl _) (Nat.le_refl _)) hb); have n1_ := a_ (hbox); have n2_ := a_ ((by rw [hg]; exact (below_size (L_ HB.out (Nat.le_refl _) (Nat.le_refl _) (Nat.le_refl _))) : w.heap.size ≤ gb167)); have n3_ := a_ ((by rw [hg]; exact (below_size (L_ HB.out (Nat.le_refl _) (Nat.le_refl _) (Nat.le_refl _))) : w.heap.size ≤ gb167)); clear HB; have HB := n0_; have BK167 := n1_; have GW167 := n2_; have GE167 := n3_; clear n0_ n1_ n2_ n3_; clear hb hbox hg; have hcz57_0 : w56.cell? ⟨gb167, 0, none⟩ = some (.int .i64 a0_0) := c_ BK167.out 0; have hcz57_1 : w56.cell? ⟨gb167, 1, none⟩ = some (.int .i64 a0_1) := c_ BK167.out 1; have hcz57_2 : w56.cell? ⟨gb167, 2, none⟩ = some (.slice A0_2 l0_2.length c0_2) := c_ BK167.out 2; have hfz57_0 := blk_frozen BK167.out 0; have hfz57_1 := blk_frozen BK167.out 1; have hfz57_2 := blk_frozen BK167.out 2) | ((with_reducible refine gate_callee (f := 51) rfl ?_); refine goesL_ (some 9) rfl rfl Try.func51 (by kernel_rfl) rfl #[.agg #[.int .i64 a0_0, .int .i64 a0_1, .slice A0_2 l0_2.length c0_2]] rfl (by (try simp only [m1_, m2_, m3_]); first | done | rfl) ?_; (with_reducible refine (impl_IsLeague.calls k a0_0 a0_1 _ _ l0_2 false _ ?side1 ?side2 A2.out).mono ?_); (case side1 => repeat (first | exact (Kd.C_below HR0_2.out HB.out) | (with_reducible refine Kd.C_alloc ?_ _) | (with_reducible refine Kd.C_drewN ?_ _) | (with_reducible refine Kd.C_drew ?_))); (case side2 => exact HC0_2.out); rintro e w58 ⟨rfl, hb⟩; refine ⟨_, rfl, ?_⟩; have n0_ := bb_ BK167 hb; have n1_ := a_ (below_step (L_ HB.out GE167.out GE167.out GE167.out) hb); clear BK167; clear HB; have BK167 := n0_; have HB := n1_; clear n0_ n1_; (try clear hb); (try clear hb2); (try clear hk); (try clear hi)))
  go_ret2
  exact ⟨_, by first | rfl | (simp [errW_none, errW_some] <;> rfl) | (simp [*, errW_none, errW_some] <;> rfl), by first | exact Kd.S_nil _ _ _ _ _ | exact Kd.N_nil _ _ _ _ _ | exact Kd.V_nil _ _ _ _ _ | exact Kd.Q_nil _ _ _ _ _ | exact Kd.R_nil _ _ _ _ _, by repeat (first | (with_reducible first | exact HB.out | apply below_alloc | apply pw_below_drewN | apply below_drew1 | refine below_set ?_ GE167.out) | exact HB.out)⟩

end Go.Proofs.Ytmijfimjlenmpaa.QFnExactMostPoints
