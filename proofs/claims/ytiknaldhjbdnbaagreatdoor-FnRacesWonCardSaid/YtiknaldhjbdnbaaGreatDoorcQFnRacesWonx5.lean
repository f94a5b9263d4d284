import Derived.Test.YtiknaldhjbdnbaaGreatDoorcQFnRacesWonx0
import Derived.Test.YtiknaldhjbdnbaaGreatDoorcQFnRacesWonx1
import Derived.Test.YtiknaldhjbdnbaaGreatDoorcQFnRacesWonx2
import Derived.Test.YtiknaldhjbdnbaaGreatDoorcQFnRacesWonx3
import Derived.Test.YtiknaldhjbdnbaaGreatDoorcQFnRacesWonx4
import Derived.Test.YtiknaldhjbdnbaaGreatDoorcGCur
import Derived.Test.YtiknaldhjbdnbaaGreatDoorcGQ
namespace Go.Proofs.YtiknaldhjbdnbaaGreatDoor.QFnRacesWon
open Go.RowKit Go.Proofs.YtiknaldhjbdnbaaGreatDoorW.PrintWords Go.Proofs.YtiknaldhjbdnbaaGreatDoorW.PrintLast Go.Proofs.YtiknaldhjbdnbaaGreatDoorW.PrintMore Go.Proofs.YtiknaldhjbdnbaaGreatDoor.Sh
attribute [local go_sem] max2_int min2_int max_two min_two max_three min_three max_four min_four
set_option linter.unusedVariables false
set_option linter.unusedSimpArgs false
def impl_FewestToWin.j0 : Nat → ByteArray → Bool → Int → Int → Int → Int → ByteArray → Bool → Option (Int × Bool)
 | 0, _, _, _, _, _, _, _, _ => none
 | k + 1, x2, x24, x312000, x312001, x318000, x318001, x318002, x318003 => if x24 = true then (some (0, false)) else (if x318002.toList = ([45] : List UInt8) then (if x2.toList = ([98] : List UInt8) then (some (mx (wrap64 (x312000 - x318001)) (wrap64 ((wrap64 (x312001 + x318000)) - x318001)), true)) else (some (mx (wrap64 (x312000 - x318000)) (wrap64 ((wrap64 (x312001 + x318001)) - x318000)), true))) else (some (0, (x318002.toList == x2.toList))))
def impl_FewestToWin.f (k : Nat) (a0_0 : Int) (a0_1 : Int) (a1 : ByteArray) (a2 : ByteArray) : Option (Int × Bool) := (impl_played.f a0_0 a0_1 a1).bind fun bt312 => (if bt312.2.2.2.2 = true then ((impl_isSide.f a2).bind fun t318 => (impl_FewestToWin.j0 k a2 (!t318) a0_0 a0_1 bt312.1 bt312.2.1 bt312.2.2.1 bt312.2.2.2.1)) else (impl_FewestToWin.j0 k a2 true a0_0 a0_1 bt312.1 bt312.2.1 bt312.2.2.1 bt312.2.2.2.1))
set_option maxHeartbeats 8000000 in
set_option maxRecDepth 100000 in
theorem impl_FewestToWin.calls (k : Nat) (a0_0 : Int) (a0_1 : Int) (a1 : ByteArray) (a2 : ByteArray) (r1 : Int) (r2 : Bool) (w : World) (h : impl_FewestToWin.f k a0_0 a0_1 a1 a2 = some (r1, r2)) :
  Calls Tryz.prog 18 #[.agg #[.int .i64 a0_0, .int .i64 a0_1], .string a1, .string a2] w fun e w' => e = .returned (.tuple #[.int .i64 r1, .bool r2]) ∧ Below w.heap.size w w' := by
 have hu25 := Tryz.underlying25; have hu53 := Tryz.underlying53; have HB := a_ (Below.refl w.heap.size w); have H : ((impl_played.f a0_0 a0_1 a1).bind fun bt312 => (if bt312.2.2.2.2 = true then ((impl_isSide.f a2).bind fun t318 => (impl_FewestToWin.j0 k a2 (!t318) a0_0 a0_1 bt312.1 bt312.2.1 bt312.2.2.1 bt312.2.2.2.1)) else (impl_FewestToWin.j0 k a2 true a0_0 a0_1 bt312.1 bt312.2.1 bt312.2.2.1 bt312.2.2.2.1))) = some (r1, r2) := h; clear h; replace H := Option.bind_eq_some_iff.mp H; obtain ⟨⟨t312, t313, t314, t315, t316⟩, A40, H⟩ := H; replace H : (if t316 = true then ((impl_isSide.f a2).bind fun t318 => (impl_FewestToWin.j0 k a2 (!t318) a0_0 a0_1 t312 t313 t314 t315)) else (impl_FewestToWin.j0 k a2 true a0_0 a0_1 t312 t313 t314 t315)) = some (r1, r2) := H; have A4 := a_ A40; clear A40; have HC5 := a_ H; clear H
 go_enter Tryz.func18, Tryz.ntmps18
 go_upto_region 2 with (first | ((with_reducible refine gate_dst (N := 3) rfl ?_); refine box_event ?hg (N := 3) ?hd (cs := #[.int .i64 a0_0, .int .i64 a0_1]) (t := 25) ?hr ?_; (case hd => rfl); (case hg => rfl); (case hr => first | (go_simp; done) | (go_simp; rfl)); intro gb311 hg w6 hbox hb; have n0_ := a_ (below_step (L_ HB.out (Nat.le_refl _) (Nat.le_refl _) (Nat.le_refl _)) hb); have n1_ := a_ (hbox); have n2_ := a_ ((by rw [hg]; exact (below_size (L_ HB.out (Nat.le_refl _) (Nat.le_refl _) (Nat.le_refl _))) : w.heap.size ≤ gb311)); have n3_ := a_ ((by rw [hg]; exact (below_size (L_ HB.out (Nat.le_refl _) (Nat.le_refl _) (Nat.le_refl _))) : w.heap.size ≤ gb311)); clear HB; have HB := n0_; have BK311 := n1_; have GW311 := n2_; have GE311 := n3_; clear n0_ n1_ n2_ n3_; clear hb hbox hg; have hcz7_0 : w6.cell? ⟨gb311, 0, none⟩ = some (.int .i64 a0_0) := c_ BK311.out 0; have hcz7_1 : w6.cell? ⟨gb311, 1, none⟩ = some (.int .i64 a0_1) := c_ BK311.out 1; have hfz7_0 := blk_frozen BK311.out 0; have hfz7_1 := blk_frozen BK311.out 1) | (go_at_call 35; (with_reducible refine (impl_played.calls a0_0 a0_1 a1 t312 t313 t314 t315 t316 _ A4.out).mono ?_); rintro e w8 ⟨rfl, hb⟩; have n0_ := bb_ BK311 hb; have n1_ := a_ (below_step (L_ HB.out GE311.out GE311.out GE311.out) hb); clear BK311; clear HB; have BK311 := n0_; have HB := n1_; clear n0_ n1_; (try clear hb); (try clear hb2); (try clear hk); (try clear hi)) | ((with_reducible refine gate_dst (N := 8) rfl ?_); refine box_event ?hg (N := 8) ?hd (cs := #[.int .i64 0, .int .i64 0, .string (⟨#[]⟩ : ByteArray), .bool false]) (t := 53) ?hr ?_; (case hd => rfl); (case hg => rfl); (case hr => first | (go_simp; done) | (go_simp; rfl)); intro gb317 hg w9 hbox hb; have n0_ := bb_ BK311 hb; have n1_ := a_ (below_step (L_ HB.out GE311.out GE311.out GE311.out) hb); have n2_ := a_ (hbox); have n3_ := a_ ((by rw [hg]; exact (below_size (L_ HB.out GE311.out GE311.out GE311.out)) : w.heap.size ≤ gb317)); have n4_ := a_ ((by rw [hg]; exact (below_size (L_ HB.out GE311.out GE311.out GE311.out)) : w.heap.size ≤ gb317)); have n5_ := a_ ((by rw [hg]; exact Nat.ne_of_lt (blk_lt (B_ BK311.out)) : gb311 ≠ gb317)); have n6_ := a_ ((by rw [hg]; exact Nat.ne_of_gt (blk_lt (B_ BK311.out)) : gb317 ≠ gb311)); clear BK311; clear HB; have BK311 := n0_; have HB := n1_; have BK317 := n2_; have GW317 := n3_; have GE317 := n4_; have NB311_317 := n5_; have NB317_311 := n6_; clear n0_ n1_ n2_ n3_ n4_ n5_ n6_; clear hb hbox hg; have hnb10 := NB317_311.out; have hnc10 := NB311_317.out; have hcz11_0 : w9.cell? ⟨gb317, 0, none⟩ = some (.int .i64 0) := c_ BK317.out 0; have hcz11_1 : w9.cell? ⟨gb317, 1, none⟩ = some (.int .i64 0) := c_ BK317.out 1; have hcz11_2 : w9.cell? ⟨gb317, 2, none⟩ = some (.string (⟨#[]⟩ : ByteArray)) := c_ BK317.out 2; have hcz11_3 : w9.cell? ⟨gb317, 3, none⟩ = some (.bool false) := c_ BK317.out 3; have hfz11_0 := blk_frozen BK317.out 0; have hfz11_1 := blk_frozen BK317.out 1; have hfz11_2 := blk_frozen BK317.out 2; have hfz11_3 := blk_frozen BK317.out 3))
 repeat (go_quiet (first | ((with_reducible refine gate_dst (N := 3) rfl ?_); refine box_event ?hg (N := 3) ?hd (cs := #[.int .i64 a0_0, .int .i64 a0_1]) (t := 25) ?hr ?_; (case hd => rfl); (case hg => rfl); (case hr => first | (go_simp; done) | (go_simp; rfl)); intro gb311 hg w6 hbox hb; have n0_ := a_ (below_step (L_ HB.out (Nat.le_refl _) (Nat.le_refl _) (Nat.le_refl _)) hb); have n1_ := a_ (hbox); have n2_ := a_ ((by rw [hg]; exact (below_size (L_ HB.out (Nat.le_refl _) (Nat.le_refl _) (Nat.le_refl _))) : w.heap.size ≤ gb311)); have n3_ := a_ ((by rw [hg]; exact (below_size (L_ HB.out (Nat.le_refl _) (Nat.le_refl _) (Nat.le_refl _))) : w.heap.size ≤ gb311)); clear HB; have HB := n0_; have BK311 := n1_; have GW311 := n2_; have GE311 := n3_; clear n0_ n1_ n2_ n3_; clear hb hbox hg; have hcz7_0 : w6.cell? ⟨gb311, 0, none⟩ = some (.int .i64 a0_0) := c_ BK311.out 0; have hcz7_1 : w6.cell? ⟨gb311, 1, none⟩ = some (.int .i64 a0_1) := c_ BK311.out 1; have hfz7_0 := blk_frozen BK311.out 0; have hfz7_1 := blk_frozen BK311.out 1) | (go_at_call 35; (with_reducible refine (impl_played.calls a0_0 a0_1 a1 t312 t313 t314 t315 t316 _ A4.out).mono ?_); rintro e w8 ⟨rfl, hb⟩; have n0_ := bb_ BK311 hb; have n1_ := a_ (below_step (L_ HB.out GE311.out GE311.out GE311.out) hb); clear BK311; clear HB; have BK311 := n0_; have HB := n1_; clear n0_ n1_; (try clear hb); (try clear hb2); (try clear hk); (try clear hi)) | ((with_reducible refine gate_dst (N := 8) rfl ?_); refine box_event ?hg (N := 8) ?hd (cs := #[.int .i64 0, .int .i64 0, .string (⟨#[]⟩ : ByteArray), .bool false]) (t := 53) ?hr ?_; (case hd => rfl); (case hg => rfl); (case hr => first | (go_simp; done) | (go_simp; rfl)); intro gb317 hg w9 hbox hb; have n0_ := bb_ BK311 hb; have n1_ := a_ (below_step (L_ HB.out GE311.out GE311.out GE311.out) hb); have n2_ := a_ (hbox); have n3_ := a_ ((by rw [hg]; exact (below_size (L_ HB.out GE311.out GE311.out GE311.out)) : w.heap.size ≤ gb317)); have n4_ := a_ ((by rw [hg]; exact (below_size (L_ HB.out GE311.out GE311.out GE311.out)) : w.heap.size ≤ gb317)); have n5_ := a_ ((by rw [hg]; exact Nat.ne_of_lt (blk_lt (B_ BK311.out)) : gb311 ≠ gb317)); have n6_ := a_ ((by rw [hg]; exact Nat.ne_of_gt (blk_lt (B_ BK311.out)) : gb317 ≠ gb311)); clear BK311; clear HB; have BK311 := n0_; have HB := n1_; have BK317 := n2_; have GW317 := n3_; have GE317 := n4_; have NB311_317 := n5_; have NB317_311 := n6_; clear n0_ n1_ n2_ n3_ n4_ n5_ n6_; clear hb hbox hg; have hnb10 := NB317_311.out; have hnc10 := NB311_317.out; have hcz11_0 : w9.cell? ⟨gb317, 0, none⟩ = some (.int .i64 0) := c_ BK317.out 0; have hcz11_1 : w9.cell? ⟨gb317, 1, none⟩ = some (.int .i64 0) := c_ BK317.out 1; have hcz11_2 : w9.cell? ⟨gb317, 2, none⟩ = some (.string (⟨#[]⟩ : ByteArray)) := c_ BK317.out 2; have hcz11_3 : w9.cell? ⟨gb317, 3, none⟩ = some (.bool false) := c_ BK317.out 3; have hfz11_0 := blk_frozen BK317.out 0; have hfz11_1 := blk_frozen BK317.out 1; have hfz11_2 := blk_frozen BK317.out 2; have hfz11_3 := blk_frozen BK317.out 3)); go_upto_region 2 with (first | ((with_reducible refine gate_dst (N := 3) rfl ?_); refine box_event ?hg (N := 3) ?hd (cs := #[.int .i64 a0_0, .int .i64 a0_1]) (t := 25) ?hr ?_; (case hd => rfl); (case hg => rfl); (case hr => first | (go_simp; done) | (go_simp; rfl)); intro gb311 hg w6 hbox hb; have n0_ := a_ (below_step (L_ HB.out (Nat.le_refl _) (Nat.le_refl _) (Nat.le_refl _)) hb); have n1_ := a_ (hbox); have n2_ := a_ ((by rw [hg]; exact (below_size (L_ HB.out (Nat.le_refl _) (Nat.le_refl _) (Nat.le_refl _))) : w.heap.size ≤ gb311)); have n3_ := a_ ((by rw [hg]; exact (below_size (L_ HB.out (Nat.le_refl _) (Nat.le_refl _) (Nat.le_refl _))) : w.heap.size ≤ gb311)); clear HB; have HB := n0_; have BK311 := n1_; have GW311 := n2_; have GE311 := n3_; clear n0_ n1_ n2_ n3_; clear hb hbox hg; have hcz7_0 : w6.cell? ⟨gb311, 0, none⟩ = some (.int .i64 a0_0) := c_ BK311.out 0; have hcz7_1 : w6.cell? ⟨gb311, 1, none⟩ = some (.int .i64 a0_1) := c_ BK311.out 1; have hfz7_0 := blk_frozen BK311.out 0; have hfz7_1 := blk_frozen BK311.out 1) | (go_at_call 35; (with_reducible refine (impl_played.calls a0_0 a0_1 a1 t312 t313 t314 t315 t316 _ A4.out).mono ?_); rintro e w8 ⟨rfl, hb⟩; have n0_ := bb_ BK311 hb; have n1_ := a_ (below_step (L_ HB.out GE311.out GE311.out GE311.out) hb); clear BK311; clear HB; have BK311 := n0_; have HB := n1_; clear n0_ n1_; (try clear hb); (try clear hb2); (try clear hk); (try clear hi)) | ((with_reducible refine gate_dst (N := 8) rfl ?_); refine box_event ?hg (N := 8) ?hd (cs := #[.int .i64 0, .int .i64 0, .string (⟨#[]⟩ : ByteArray), .bool false]) (t := 53) ?hr ?_; (case hd => rfl); (case hg => rfl); (case hr => first | (go_simp; done) | (go_simp; rfl)); intro gb317 hg w9 hbox hb; have n0_ := bb_ BK311 hb; have n1_ := a_ (below_step (L_ HB.out GE311.out GE311.out GE311.out) hb); have n2_ := a_ (hbox); have n3_ := a_ ((by rw [hg]; exact (below_size (L_ HB.out GE311.out GE311.out GE311.out)) : w.heap.size ≤ gb317)); have n4_ := a_ ((by rw [hg]; exact (below_size (L_ HB.out GE311.out GE311.out GE311.out)) : w.heap.size ≤ gb317)); have n5_ := a_ ((by rw [hg]; exact Nat.ne_of_lt (blk_lt (B_ BK311.out)) : gb311 ≠ gb317)); have n6_ := a_ ((by rw [hg]; exact Nat.ne_of_gt (blk_lt (B_ BK311.out)) : gb317 ≠ gb311)); clear BK311; clear HB; have BK311 := n0_; have HB := n1_; have BK317 := n2_; have GW317 := n3_; have GE317 := n4_; have NB311_317 := n5_; have NB317_311 := n6_; clear n0_ n1_ n2_ n3_ n4_ n5_ n6_; clear hb hbox hg; have hnb10 := NB317_311.out; have hnc10 := NB311_317.out; have hcz11_0 : w9.cell? ⟨gb317, 0, none⟩ = some (.int .i64 0) := c_ BK317.out 0; have hcz11_1 : w9.cell? ⟨gb317, 1, none⟩ = some (.int .i64 0) := c_ BK317.out 1; have hcz11_2 : w9.cell? ⟨gb317, 2, none⟩ = some (.string (⟨#[]⟩ : ByteArray)) := c_ BK317.out 2; have hcz11_3 : w9.cell? ⟨gb317, 3, none⟩ = some (.bool false) := c_ BK317.out 3; have hfz11_0 := blk_frozen BK317.out 0; have hfz11_1 := blk_frozen BK317.out 1; have hfz11_2 := blk_frozen BK317.out 2; have hfz11_3 := blk_frozen BK317.out 3)))
 (try simp only [Act.put, List.setIfInBounds_toArray, List.set_cons_zero, List.set_cons_succ])
 go_cut [24] (fun v24 wc => ∃ (kq : Nat) (x24_4 : Bool), v24 = .bool x24_4 ∧ Aside0 (impl_FewestToWin.j0 kq a2 x24_4 a0_0 a0_1 t312 t313 t314 t315 = some (r1, r2)) ∧ Aside0 (kq ≤ k) ∧ Aside0 (wc.heap[gb311]? = some (.cells #[.int .i64 a0_0, .int .i64 a0_1] 25 (0, 0))) ∧ Aside0 (wc.heap[gb317]? = some (.cells #[.int .i64 t312, .int .i64 t313, .string t314, .bool t315] 53 (0, 0))) ∧ Aside0 (Below w.heap.size w wc))
 case first =>
  have H := HC5.out; clear HC5
  by_cases c12 : t316 = true
  ·
   subst c12; have H1 : ((impl_isSide.f a2).bind fun t318 => (impl_FewestToWin.j0 k a2 (!t318) a0_0 a0_1 t312 t313 t314 t315)) = some (r1, r2) := by rw [if_pos rfl] at H; exact H
   clear H; have H := H1; clear H1; replace H := Option.bind_eq_some_iff.mp H; obtain ⟨t318, A130, H⟩ := H; replace H : (impl_FewestToWin.j0 k a2 (!t318) a0_0 a0_1 t312 t313 t314 t315) = some (r1, r2) := H; have A13 := a_ A130; clear A130; have H' := a_ H; clear H
   go_wp2_with (first | (go_at_call 47; (with_reducible refine (impl_isSide.calls a2 t318 _ A13.out).mono ?_); rintro e w' ⟨rfl, ⟨nd, rfl⟩⟩; (try first | exact ⟨rfl, _, World.drewN_drewN _ _ _⟩ | exact ⟨rfl, _, Eq.trans (World.drewN_drewN _ _ _) (congrArg (World.drewN _) (Nat.add_assoc _ _ _))⟩)))
   repeat (go_quiet (first | (go_at_call 47; (with_reducible refine (impl_isSide.calls a2 t318 _ A13.out).mono ?_); rintro e w' ⟨rfl, ⟨nd, rfl⟩⟩; (try first | exact ⟨rfl, _, World.drewN_drewN _ _ _⟩ | exact ⟨rfl, _, Eq.trans (World.drewN_drewN _ _ _) (congrArg (World.drewN _) (Nat.add_assoc _ _ _))⟩))); try go_wp2_with (first | (go_at_call 47; (with_reducible refine (impl_isSide.calls a2 t318 _ A13.out).mono ?_); rintro e w' ⟨rfl, ⟨nd, rfl⟩⟩; (try first | exact ⟨rfl, _, World.drewN_drewN _ _ _⟩ | exact ⟨rfl, _, Eq.trans (World.drewN_drewN _ _ _) (congrArg (World.drewN _) (Nat.add_assoc _ _ _))⟩))))
   go_meet
   case rel => exact ⟨_, (!t318), t1_, H', ⟨t16_⟩, ⟨t37_⟩, ⟨t14_⟩, ⟨L_ HB.out GE311.out GE317.out GE317.out⟩⟩
  ·
   replace c12 := Bool.eq_false_iff.mpr c12; subst c12; have H1 : (impl_FewestToWin.j0 k a2 true a0_0 a0_1 t312 t313 t314 t315) = some (r1, r2) := by rw [if_neg (show ¬ (false = true) by decide)] at H; exact H
   clear H; have H := H1; clear H1; have H' := a_ H; clear H
   go_wp2
   repeat (go_quiet (fail); try go_wp2)
   go_meet
   case rel => exact ⟨_, (true), t1_, H', ⟨t16_⟩, ⟨t37_⟩, ⟨t14_⟩, ⟨L_ HB.out GE311.out GE317.out GE317.out⟩⟩
 case rest =>
  clear HC5; obtain ⟨kq, x24_4, rfl, HA, HJ4, BK311, BK317, HB⟩ := hcut
  cases kq with
  | zero => exact absurd HA.out (by simp [impl_FewestToWin.j0])
  | succ kj4 =>
   have H := HA.out; clear HA; simp only [impl_FewestToWin.j0] at H
   by_cases c14 : x24_4 = true
   ·
    subst c14; have H1 : (some (0, false)) = some (r1, r2) := by rw [if_pos rfl] at H; exact H
    clear H; have H := H1; clear H1; simp only [Option.some.injEq, Prod.mk.injEq] at H; obtain ⟨rfl, rfl⟩ := H
    go_wp2
    repeat (go_quiet (fail); try go_wp2)
    go_ret2
    exact ⟨by first | rfl | (simp [errW_none, errW_some] <;> rfl) | (simp [*, errW_none, errW_some] <;> rfl), by repeat (first | (with_reducible first | exact HB.out | apply below_alloc | apply pw_below_drewN | apply below_drew1 | refine below_set ?_ GE311.out | refine below_set ?_ GE317.out) | exact HB.out)⟩
   ·
    replace c14 := Bool.eq_false_iff.mpr c14; subst c14; have H1 : (if t314.toList = ([45] : List UInt8) then (if a2.toList = ([98] : List UInt8) then (some (mx (wrap64 (a0_0 - t313)) (wrap64 ((wrap64 (a0_1 + t312)) - t313)), true)) else (some (mx (wrap64 (a0_0 - t312)) (wrap64 ((wrap64 (a0_1 + t313)) - t312)), true))) else (some (0, (t314.toList == a2.toList)))) = some (r1, r2) := by rw [if_neg (show ¬ (false = true) by decide)] at H; exact H
    clear H; have H := H1; clear H1
    by_cases c15 : t314.toList = ([45] : List UInt8)
    ·
     rw [if_pos c15] at H; have c15b0 : (t314.toList == ([45] : List UInt8)) = true := beq_iff_eq.mpr c15; have c15b1 : (t314.toList != ([45] : List UInt8)) = false := bne_eq_false_iff_eq.mpr c15; clear c15
     by_cases c16 : a2.toList = ([98] : List UInt8)
     ·
      rw [if_pos c16] at H; have c16b0 : (a2.toList == ([98] : List UInt8)) = true := beq_iff_eq.mpr c16; have c16b1 : (a2.toList != ([98] : List UInt8)) = false := bne_eq_false_iff_eq.mpr c16; clear c16; obtain ⟨ji17, hji17⟩ : ∃ j_ : Int, (mx (wrap64 (a0_0 - t313)) (wrap64 ((wrap64 (a0_1 + t312)) - t313))) = j_ := ⟨_, rfl⟩; replace H : (some (ji17, true)) = some (r1, r2) := by first | (rw [hji17] at H; exact H) | (simp only [hji17] at H ⊢; exact H)
      have hji17_ : (if (wrap64 (a0_0 - t313)) < (wrap64 ((wrap64 (a0_1 + t312)) - t313)) then (wrap64 ((wrap64 (a0_1 + t312)) - t313)) else (wrap64 (a0_0 - t313))) = ji17 := hji17; simp only [Option.some.injEq, Prod.mk.injEq] at H; obtain ⟨rfl, rfl⟩ := H; have hnb18 := NB317_311.out; have hnc18 := NB311_317.out; have hcz19_0 : wc.cell? ⟨gb317, 0, none⟩ = some (.int .i64 t312) := c_ BK317.out 0; have hcz19_1 : wc.cell? ⟨gb317, 1, none⟩ = some (.int .i64 t313) := c_ BK317.out 1; have hcz19_2 : wc.cell? ⟨gb317, 2, none⟩ = some (.string t314) := c_ BK317.out 2; have hcz19_3 : wc.cell? ⟨gb317, 3, none⟩ = some (.bool t315) := c_ BK317.out 3; have hfz19_0 := blk_frozen BK317.out 0; have hfz19_1 := blk_frozen BK317.out 1; have hfz19_2 := blk_frozen BK317.out 2; have hfz19_3 := blk_frozen BK317.out 3; have hcz20_0 : wc.cell? ⟨gb311, 0, none⟩ = some (.int .i64 a0_0) := c_ BK311.out 0; have hcz20_1 : wc.cell? ⟨gb311, 1, none⟩ = some (.int .i64 a0_1) := c_ BK311.out 1; have hfz20_0 := blk_frozen BK311.out 0; have hfz20_1 := blk_frozen BK311.out 1
      go_wp2
      repeat (go_quiet (fail); try go_wp2)
      go_ret2
      exact ⟨by first | rfl | (simp [errW_none, errW_some] <;> rfl) | (simp only [← hji17]; first | rfl | (simp [errW_none, errW_some] <;> rfl)) | (simp [*, errW_none, errW_some] <;> rfl), by repeat (first | (with_reducible first | exact HB.out | apply below_alloc | apply pw_below_drewN | apply below_drew1 | refine below_set ?_ GE311.out | refine below_set ?_ GE317.out) | exact HB.out)⟩
     ·
      rw [if_neg c16] at H; have c16b0 : (a2.toList == ([98] : List UInt8)) = false := beq_eq_false_iff_ne.mpr c16; have c16b1 : (a2.toList != ([98] : List UInt8)) = true := bne_iff_ne.mpr c16; obtain ⟨ji21, hji21⟩ : ∃ j_ : Int, (mx (wrap64 (a0_0 - t312)) (wrap64 ((wrap64 (a0_1 + t313)) - t312))) = j_ := ⟨_, rfl⟩; replace H : (some (ji21, true)) = some (r1, r2) := by first | (rw [hji21] at H; exact H) | (simp only [hji21] at H ⊢; exact H)
      have hji21_ : (if (wrap64 (a0_0 - t312)) < (wrap64 ((wrap64 (a0_1 + t313)) - t312)) then (wrap64 ((wrap64 (a0_1 + t313)) - t312)) else (wrap64 (a0_0 - t312))) = ji21 := hji21; simp only [Option.some.injEq, Prod.mk.injEq] at H; obtain ⟨rfl, rfl⟩ := H; have hnb22 := NB317_311.out; have hnc22 := NB311_317.out; have hcz23_0 : wc.cell? ⟨gb317, 0, none⟩ = some (.int .i64 t312) := c_ BK317.out 0; have hcz23_1 : wc.cell? ⟨gb317, 1, none⟩ = some (.int .i64 t313) := c_ BK317.out 1; have hcz23_2 : wc.cell? ⟨gb317, 2, none⟩ = some (.string t314) := c_ BK317.out 2; have hcz23_3 : wc.cell? ⟨gb317, 3, none⟩ = some (.bool t315) := c_ BK317.out 3; have hfz23_0 := blk_frozen BK317.out 0; have hfz23_1 := blk_frozen BK317.out 1; have hfz23_2 := blk_frozen BK317.out 2; have hfz23_3 := blk_frozen BK317.out 3; have hcz24_0 : wc.cell? ⟨gb311, 0, none⟩ = some (.int .i64 a0_0) := c_ BK311.out 0; have hcz24_1 : wc.cell? ⟨gb311, 1, none⟩ = some (.int .i64 a0_1) := c_ BK311.out 1; have hfz24_0 := blk_frozen BK311.out 0; have hfz24_1 := blk_frozen BK311.out 1
      go_wp2
      repeat (go_quiet (fail); try go_wp2)
      go_ret2
      exact ⟨by first | rfl | (simp [errW_none, errW_some] <;> rfl) | (simp only [← hji21]; first | rfl | (simp [errW_none, errW_some] <;> rfl)) | (simp [*, errW_none, errW_some] <;> rfl), by repeat (first | (with_reducible first | exact HB.out | apply below_alloc | apply pw_below_drewN | apply below_drew1 | refine below_set ?_ GE311.out | refine below_set ?_ GE317.out) | exact HB.out)⟩
    ·
     rw [if_neg c15] at H; have c15b0 : (t314.toList == ([45] : List UInt8)) = false := beq_eq_false_iff_ne.mpr c15; have c15b1 : (t314.toList != ([45] : List UInt8)) = true := bne_iff_ne.mpr c15; simp only [Option.some.injEq, Prod.mk.injEq] at H; obtain ⟨rfl, rfl⟩ := H; have hnb25 := NB317_311.out; have hnc25 := NB311_317.out; have hcz26_0 : wc.cell? ⟨gb317, 0, none⟩ = some (.int .i64 t312) := c_ BK317.out 0; have hcz26_1 : wc.cell? ⟨gb317, 1, none⟩ = some (.int .i64 t313) := c_ BK317.out 1; have hcz26_2 : wc.cell? ⟨gb317, 2, none⟩ = some (.string t314) := c_ BK317.out 2; have hcz26_3 : wc.cell? ⟨gb317, 3, none⟩ = some (.bool t315) := c_ BK317.out 3; have hfz26_0 := blk_frozen BK317.out 0; have hfz26_1 := blk_frozen BK317.out 1; have hfz26_2 := blk_frozen BK317.out 2; have hfz26_3 := blk_frozen BK317.out 3
     go_wp2
     repeat (go_quiet (fail); try go_wp2)
     go_ret2
     exact ⟨by first | rfl | (simp [errW_none, errW_some] <;> rfl) | (simp [*, errW_none, errW_some] <;> rfl), by repeat (first | (with_reducible first | exact HB.out | apply below_alloc | apply pw_below_drewN | apply below_drew1 | refine below_set ?_ GE311.out | refine below_set ?_ GE317.out) | exact HB.out)⟩
def spec_DrawFewestToWin.f (k : Nat) (l0 : List Int) : Option (Int × Int × ByteArray × ByteArray) := (mkCur.f l0).bind fun bt320 => ((spec_l1Cur_play.f k bt320.1 bt320.2.1 bt320.2.2).bind fun bt324 => ((spec_l1Cur_of.f bt320.1 bt324.2.2.2.1 bt324.2.2.2.2 (([(⟨#[97]⟩ : ByteArray), (⟨#[97]⟩ : ByteArray), (⟨#[97]⟩ : ByteArray), (⟨#[98]⟩ : ByteArray), (⟨#[98]⟩ : ByteArray), (⟨#[98]⟩ : ByteArray), (⟨#[]⟩ : ByteArray), (⟨#[99]⟩ : ByteArray), (⟨#[97, 98]⟩ : ByteArray)] : List ByteArray))).bind fun bt333 => (some (bt324.1, bt324.2.1, bt324.2.2.1, bt333.1))))
def spec_DrawFewestToWin.T3 : Bool × List (List Nat × List Nat) := (true, [([], []), ([], []), ([], []), ([], []), ([2, 3], [2, 3]), ([0, 4, 0], [0]), ([1, 5, 0, 1, 5], [1]), ([4, 6, 0, 1, 2, 3, 4, 5, 6], [4])])
def spec_DrawFewestToWin.B3 : List Nat := [0, 0, 0, 0, 12, 29, 63, 127]
theorem spec_DrawFewestToWin.tab3 : rtab .any (opsOf Tryz.f19 3) = spec_DrawFewestToWin.T3 := by kernel_rfl
theorem spec_DrawFewestToWin.bits3 : waitsOk spec_DrawFewestToWin.T3.2 spec_DrawFewestToWin.B3 = true := by kernel_rfl
set_option maxHeartbeats 8000000 in
set_option maxRecDepth 100000 in
theorem spec_DrawFewestToWin.calls (k : Nat) (A0 : Option Addr) (c0 : Nat) (l0 : List Int) (r1 : Int) (r2 : Int) (r3 : ByteArray) (r4 : ByteArray) (w : World) (hr0 : Kd.C (Kd.int .u8) w A0 l0.length l0) (hc0 : l0.length ≤ c0) (h : spec_DrawFewestToWin.f k l0 = some (r1, r2, r3, r4)) :
  Calls Tryz.prog 19 #[.slice A0 l0.length c0] w fun e w' => e = .returned (.tuple #[.agg #[.int .i64 r1, .int .i64 r2], .string r3, .string r4]) ∧ Below w.heap.size w w' := by
 have hu53 := Tryz.underlying53; have hu25 := Tryz.underlying25; have HR0 := a_ hr0; have HC0 := a_ hc0; clear hr0 hc0; have HB := a_ (Below.refl w.heap.size w); have H : ((mkCur.f l0).bind fun bt320 => ((spec_l1Cur_play.f k bt320.1 bt320.2.1 bt320.2.2).bind fun bt324 => ((spec_l1Cur_of.f bt320.1 bt324.2.2.2.1 bt324.2.2.2.2 (([(⟨#[97]⟩ : ByteArray), (⟨#[97]⟩ : ByteArray), (⟨#[97]⟩ : ByteArray), (⟨#[98]⟩ : ByteArray), (⟨#[98]⟩ : ByteArray), (⟨#[98]⟩ : ByteArray), (⟨#[]⟩ : ByteArray), (⟨#[99]⟩ : ByteArray), (⟨#[97, 98]⟩ : ByteArray)] : List ByteArray))).bind fun bt333 => (some (bt324.1, bt324.2.1, bt324.2.2.1, bt333.1))))) = some (r1, r2, r3, r4) := h; clear h; replace H := Option.bind_eq_some_iff.mp H; obtain ⟨⟨t320, t321, t322⟩, A20, H⟩ := H; replace H : ((spec_l1Cur_play.f k t320 t321 t322).bind fun bt324 => ((spec_l1Cur_of.f t320 bt324.2.2.2.1 bt324.2.2.2.2 (([(⟨#[97]⟩ : ByteArray), (⟨#[97]⟩ : ByteArray), (⟨#[97]⟩ : ByteArray), (⟨#[98]⟩ : ByteArray), (⟨#[98]⟩ : ByteArray), (⟨#[98]⟩ : ByteArray), (⟨#[]⟩ : ByteArray), (⟨#[99]⟩ : ByteArray), (⟨#[97, 98]⟩ : ByteArray)] : List ByteArray))).bind fun bt333 => (some (bt324.1, bt324.2.1, bt324.2.2.1, bt333.1)))) = some (r1, r2, r3, r4) := H; have A2 := a_ A20; clear A20; replace H := Option.bind_eq_some_iff.mp H; obtain ⟨⟨t324, t325, t326, t327, t328⟩, A30, H⟩ := H; replace H : ((spec_l1Cur_of.f t320 t327 t328 (([(⟨#[97]⟩ : ByteArray), (⟨#[97]⟩ : ByteArray), (⟨#[97]⟩ : ByteArray), (⟨#[98]⟩ : ByteArray), (⟨#[98]⟩ : ByteArray), (⟨#[98]⟩ : ByteArray), (⟨#[]⟩ : ByteArray), (⟨#[99]⟩ : ByteArray), (⟨#[97, 98]⟩ : ByteArray)] : List ByteArray))).bind fun bt333 => (some (t324, t325, t326, bt333.1))) = some (r1, r2, r3, r4) := H; have A3 := a_ A30; clear A30; obtain ⟨y330, hy330⟩ : ∃ y_ : List ByteArray, y_ = (([(⟨#[97]⟩ : ByteArray), (⟨#[97]⟩ : ByteArray), (⟨#[97]⟩ : ByteArray), (⟨#[98]⟩ : ByteArray), (⟨#[98]⟩ : ByteArray), (⟨#[98]⟩ : ByteArray), (⟨#[]⟩ : ByteArray), (⟨#[99]⟩ : ByteArray), (⟨#[97, 98]⟩ : ByteArray)] : List ByteArray)) := ⟨_, rfl⟩; replace H : ((spec_l1Cur_of.f t320 t327 t328 y330).bind fun bt333 => (some (t324, t325, t326, bt333.1))) = some (r1, r2, r3, r4) := by first | (rw [hy330]; with_reducible exact H) | (have H2_ := (Option.bind_some _ _).symm.trans H; rw [hy330]; with_reducible exact H2_) | (have H2_ := (Option.bind_some _ _).symm.trans H; with_reducible exact H2_) | with_reducible exact H | (rw [hy330]; exact H) | exact H
 have Ny330 := a_ hy330; clear hy330; replace H := Option.bind_eq_some_iff.mp H; obtain ⟨⟨t333, t334, t335⟩, A40, H⟩ := H; replace H : (some (t324, t325, t326, t333)) = some (r1, r2, r3, r4) := H; have A4 := a_ A40; clear A40; simp only [Option.some.injEq, Prod.mk.injEq] at H; obtain ⟨rfl, rfl, rfl, rfl⟩ := H
 go_enter Tryz.func19, Tryz.ntmps19
 try go_wp2_with (first | ((with_reducible refine gate_dst (N := 2) rfl ?_); refine box_event ?hg (N := 2) ?hd (cs := #[.int .i64 0, .int .i64 0]) (t := 25) ?hr ?_; (case hd => rfl); (case hg => rfl); (case hr => first | (go_simp; done) | (go_simp; rfl)); intro gb319 hg w5 hbox hb; have n0_ := a_ (below_step (L_ HB.out (Nat.le_refl _) (Nat.le_refl _) (Nat.le_refl _)) hb); have n1_ := a_ (hbox); have n2_ := a_ ((by rw [hg]; exact (below_size (L_ HB.out (Nat.le_refl _) (Nat.le_refl _) (Nat.le_refl _))) : w.heap.size ≤ gb319)); have n3_ := a_ ((by rw [hg]; exact (below_size (L_ HB.out (Nat.le_refl _) (Nat.le_refl _) (Nat.le_refl _))) : w.heap.size ≤ gb319)); clear HB; have HB := n0_; have BK319 := n1_; have GW319 := n2_; have GE319 := n3_; clear n0_ n1_ n2_ n3_; clear hb hbox hg) | ((with_reducible refine gate_dst (N := 10) rfl ?_); refine box_event ?hg (N := 10) ?hd (cs := #[.slice A0 l0.length c0, .int .i64 0, .int .u64 0]) (t := 68) ?hr ?_; (case hd => rfl); (case hg => rfl); (case hr => first | (go_simp; done) | (go_simp; rfl)); intro g323 hg w6 hbox hb2; have hge_ : w.heap.size ≤ g323 := (by rw [hg]; exact (below_size (L_ HB.out GE319.out GE319.out GE319.out))); have hb := below_step (L_ HB.out GE319.out GE319.out GE319.out) hb2; have hi : IsS68 w w6 g323 t320 t321 t322 := t32_; clear hge_ hg hbox; have n0_ := a_ (blk_below (B_ BK319.out) hb2); have n1_ := a_ (hb); have n2_ := a_ (hi); have n3_ := a_ (IsS68.ne_blk hi (blk_below (B_ BK319.out) hb2) t40_); have n4_ := a_ (Ne.symm (IsS68.ne_blk hi (blk_below (B_ BK319.out) hb2) t40_)); clear BK319; clear HB; have BK319 := n0_; have HB := n1_; have HI323 := n2_; have NB323_319 := n3_; have NB319_323 := n4_; clear n0_ n1_ n2_ n3_ n4_; (try clear hb); (try clear hb2); (try clear hk); (try clear hi)) | ((with_reducible refine gate_callee (f := 48) rfl ?_); refine goesL_ (some 13) rfl rfl Tryz.func48 t9_ rfl #[.pointer (some ⟨g323, 0, none⟩)] rfl (by (try simp only [m1_, m2_, m3_]); first | done | rfl) ?_; (with_reducible refine (spec_l1Cur_play.calls k g323 t320 t321 t322 t324 t325 t326 t327 t328 w _ ?side1 ?side2 A3.out).mono ?_); (case side1 => repeat (first | (with_reducible first | exact HI323.out | apply IsS68.alloc | apply IsS68.drewN | apply IsS68.drew | apply IsS68.set_1 | apply IsS68.set_2 | refine IsS68.far ?_ NB323_319.out _) | exact HI323.out)); (case side2 => repeat (first | (with_reducible first | exact HB.out | apply below_alloc | apply pw_below_drewN | apply below_drew1 | refine below_set ?_ (IsS68.ge HI323.out) | refine below_set ?_ GE319.out) | exact HB.out)); rintro e w7 ⟨rfl, hi, hb, hk⟩; refine ⟨_, rfl, ?_⟩; have n0_ := a_ (KeepBut.blk hk (g' := gb319) (o := .cells #[.int .i64 0, .int .i64 0] 25 (0, 0)) (B_ BK319.out) NB319_323.out t19_); have n1_ := a_ (hb); have n2_ := a_ (hi); clear BK319; clear HB; clear HI323; have BK319 := n0_; have HB := n1_; have HI323 := n2_; clear n0_ n1_ n2_; (try clear hb); (try clear hb2); (try clear hk); (try clear hi)) | ((with_reducible refine gate_dst (N := 6) rfl ?_); refine box_event ?hg (N := 6) ?hd (cs := #[.int .i64 0, .int .i64 0]) (t := 25) ?hr ?_; (case hd => rfl); (case hg => rfl); (case hr => first | (go_simp; done) | (go_simp; rfl)); intro gb329 hg w8 hbox hb; have n0_ := bb_ BK319 hb; have n1_ := a_ (IsS68.below (by repeat (first | (with_reducible first | exact HI323.out | apply IsS68.alloc | apply IsS68.drewN | apply IsS68.drew | apply IsS68.set_1 | apply IsS68.set_2 | refine IsS68.far ?_ NB323_319.out _) | exact HI323.out)) hb); have n2_ := a_ (below_step t28_ hb); have n3_ := a_ (hbox); have n4_ := a_ ((by rw [hg]; exact (below_size t28_) : w.heap.size ≤ gb329)); have n5_ := a_ ((by rw [hg]; exact (below_size t28_) : w.heap.size ≤ gb329)); have n6_ := a_ ((by rw [hg]; exact Nat.ne_of_lt (blk_lt (B_ BK319.out)) : gb319 ≠ gb329)); have n7_ := a_ ((by rw [hg]; exact Nat.ne_of_gt (blk_lt (B_ BK319.out)) : gb329 ≠ gb319)); have n8_ := a_ ((by rw [hg]; exact Nat.ne_of_lt (IsS68.lt (show IsS68 w _ g323 t320 t327 t328 from by repeat (first | (with_reducible first | exact HI323.out | apply IsS68.alloc | apply IsS68.drewN | apply IsS68.drew | apply IsS68.set_1 | apply IsS68.set_2 | refine IsS68.far ?_ NB323_319.out _) | exact HI323.out))) : g323 ≠ gb329)); have n9_ := a_ ((by rw [hg]; exact Nat.ne_of_gt (IsS68.lt (show IsS68 w _ g323 t320 t327 t328 from by repeat (first | (with_reducible first | exact HI323.out | apply IsS68.alloc | apply IsS68.drewN | apply IsS68.drew | apply IsS68.set_1 | apply IsS68.set_2 | refine IsS68.far ?_ NB323_319.out _) | exact HI323.out))) : gb329 ≠ g323)); clear BK319; clear HI323; clear HB; have BK319 := n0_; have HI323 := n1_; have HB := n2_; have BK329 := n3_; have GW329 := n4_; have GE329 := n5_; have NB319_329 := n6_; have NB329_319 := n7_; have NB323_329 := n8_; have NB329_323 := n9_; clear n0_ n1_ n2_ n3_ n4_ n5_ n6_ n7_ n8_ n9_; clear hb hbox hg; have hnb9 := NB329_319.out; have hnc9 := NB319_329.out; have hnb10 := NB329_323.out; have hnc10 := NB323_329.out; have hcz11_0 : w8.cell? ⟨gb329, 0, none⟩ = some (.int .i64 0) := c_ BK329.out 0; have hcz11_1 : w8.cell? ⟨gb329, 1, none⟩ = some (.int .i64 0) := c_ BK329.out 1; have hfz11_0 := blk_frozen BK329.out 0; have hfz11_1 := blk_frozen BK329.out 1))
 have n0_ : Aside0 (((w8.setCell ⟨gb329, 0, none⟩ (.int .i64 t324)).setCell ⟨gb329, 1, none⟩ (.int .i64 t325)).heap[gb319]? = some (.cells #[.int .i64 0, .int .i64 0] 25 (0, 0))) := ⟨by (with_reducible repeat (first | refine blk_drewN ?_ _ | refine blk_drew ?_ | refine blk_alloc ?_ _)); refine blk_far ?_ NB319_329.out _; refine blk_far ?_ NB319_329.out _; exact B_ BK319.out⟩; have n1_ : Aside0 (((w8.setCell ⟨gb329, 0, none⟩ (.int .i64 t324)).setCell ⟨gb329, 1, none⟩ (.int .i64 t325)).heap[gb329]? = some (.cells #[.int .i64 t324, .int .i64 t325] 25 (0, 0))) := ⟨by (with_reducible repeat (first | refine blk_drewN ?_ _ | refine blk_drew ?_ | refine blk_alloc ?_ _)); refine blk_put (cs := #[.int .i64 t324, .int .i64 0]) ?_ 1 _ rfl; (with_reducible repeat (first | refine blk_drewN ?_ _ | refine blk_drew ?_ | refine blk_alloc ?_ _)); refine blk_put (cs := #[.int .i64 0, .int .i64 0]) ?_ 0 _ rfl; exact B_ BK329.out⟩; have n2_ : Aside0 (IsS68 w ((w8.setCell ⟨gb329, 0, none⟩ (.int .i64 t324)).setCell ⟨gb329, 1, none⟩ (.int .i64 t325)) g323 t320 t327 t328) := ⟨t38_⟩; have n3_ : Aside0 (Below w.heap.size w ((w8.setCell ⟨gb329, 0, none⟩ (.int .i64 t324)).setCell ⟨gb329, 1, none⟩ (.int .i64 t325))) := ⟨t26_⟩
 (try clear BK319)
 (try clear BK329)
 (try clear HI323)
 (try clear HB)
 generalize ((w8.setCell ⟨gb329, 0, none⟩ (.int .i64 t324)).setCell ⟨gb329, 1, none⟩ (.int .i64 t325)) = w12 at n0_ n1_ n2_ n3_ ⊢; have BK319 := n0_; have BK329 := n1_; have HI323 := n2_; have HB := n3_; clear n0_ n1_ n2_ n3_; have n0_ := a_ (blk_drew BK319.out); have n1_ := a_ (blk_drew BK329.out); have n2_ := a_ (IsS68.drew HI323.out); have n3_ := a_ (below_drew1 HB.out); clear BK319; clear BK329; clear HI323; clear HB; have BK319 := n0_; have BK329 := n1_; have HI323 := n2_; have HB := n3_; clear n0_ n1_ n2_ n3_
 refine start_ (n := 8) (S := fun w' => w'.cell? ⟨gb329, 0, none⟩ = some (.int .i64 t324) ∧ w'.cell? ⟨gb329, 1, none⟩ = some (.int .i64 t325)) (ds := []) #[false, false, false, false, false, false, false, false] t9_ rfl rfl ⟨c_ BK329.out 0, c_ BK329.out 1⟩ (fun hHeld => ?_); refine with_tabW spec_DrawFewestToWin.tab3 spec_DrawFewestToWin.bits3 (fun HT_ HW_ => ?_)
 generalize w12.drew = w13 at BK319 BK329 HI323 HB hHeld ⊢
 refine pure_ (i := 1) (N := some 17) (v := ?_) (a' := ?_) #[false, true, false, false, false, false, false, false] rfl rfl (any_of HT_.out t9_) (fun _ _ _ h => h) (Or.inl ⟨by rfl, ?_⟩) ?_ ?_
 rotate_left
 ·
  intro w'
  go_simp
  with_reducible rfl
 rotate_left
 ·
  simp only [Act.put, List.setIfInBounds_toArray, List.set_cons_zero, List.set_cons_succ, i64_w, i32_w]
  rfl
 refine pure_ (i := 2) (N := some 18) (v := ?_) (a' := ?_) #[false, true, true, false, false, false, false, false] rfl rfl (any_of HT_.out t9_) (fun _ _ _ h => h) (Or.inl ⟨by rfl, ?_⟩) ?_ ?_
 rotate_left
 ·
  intro w'
  go_simp
  with_reducible rfl
 rotate_left
 ·
  simp only [Act.put, List.setIfInBounds_toArray, List.set_cons_zero, List.set_cons_succ, i64_w, i32_w]
  rfl
 refine take_ (i := 0) (N := some 16) (v := ?_) (a' := ?_) #[true, true, true, false, false, false, false, false] rfl rfl (take_ofW HT_.out HW_.out t9_) (fun _ _ _ h => h) (Or.inl ⟨by rfl, ?_⟩) hHeld ?_ ?_
 rotate_left
 ·
  rintro w' ⟨s0, s1⟩
  go_simp
  with_reducible rfl
 rotate_left
 ·
  simp only [Act.put, List.setIfInBounds_toArray, List.set_cons_zero, List.set_cons_succ, i64_w, i32_w]
  rfl
 refine one_ (i := 3) (N := some 19) #[true, true, true, true, false, false, false, false] rfl rfl (one_of HT_.out t9_) t40_ (fun K hK => ?_)
 refine Kd.R_lit_step Kd.string _ 9 ?hg (N := 19) ?hd (xs := ([(⟨#[97]⟩ : ByteArray), (⟨#[97]⟩ : ByteArray), (⟨#[97]⟩ : ByteArray), (⟨#[98]⟩ : ByteArray), (⟨#[98]⟩ : ByteArray), (⟨#[98]⟩ : ByteArray), (⟨#[]⟩ : ByteArray), (⟨#[99]⟩ : ByteArray), (⟨#[97, 98]⟩ : ByteArray)] : List ByteArray)) (inner := [.string (⟨#[97]⟩ : ByteArray), .string (⟨#[97]⟩ : ByteArray), .string (⟨#[97]⟩ : ByteArray), .string (⟨#[98]⟩ : ByteArray), .string (⟨#[98]⟩ : ByteArray), .string (⟨#[98]⟩ : ByteArray), .string (⟨#[]⟩ : ByteArray), .string (⟨#[99]⟩ : ByteArray), .string (⟨#[97, 98]⟩ : ByteArray)]) (ok := fun _ => True) (okp := fun _ => True) ?hr ?hp (fun _ hk => hk) trivial (Below.refl _ _) (Nat.le_refl _) t19_ ?_; (case hd => rfl); (case hg => rfl); (case hr => first | (go_simp; done) | (go_simp; rfl)); (case hp => exact (Reps.one (show Kd.M Kd.string _ _ _ (⟨#[97]⟩ : ByteArray) [.string (⟨#[97]⟩ : ByteArray)] from rfl) (Reps.one (show Kd.M Kd.string _ _ _ (⟨#[97]⟩ : ByteArray) [.string (⟨#[97]⟩ : ByteArray)] from rfl) (Reps.one (show Kd.M Kd.string _ _ _ (⟨#[97]⟩ : ByteArray) [.string (⟨#[97]⟩ : ByteArray)] from rfl) (Reps.one (show Kd.M Kd.string _ _ _ (⟨#[98]⟩ : ByteArray) [.string (⟨#[98]⟩ : ByteArray)] from rfl) (Reps.one (show Kd.M Kd.string _ _ _ (⟨#[98]⟩ : ByteArray) [.string (⟨#[98]⟩ : ByteArray)] from rfl) (Reps.one (show Kd.M Kd.string _ _ _ (⟨#[98]⟩ : ByteArray) [.string (⟨#[98]⟩ : ByteArray)] from rfl) (Reps.one (show Kd.M Kd.string _ _ _ (⟨#[]⟩ : ByteArray) [.string (⟨#[]⟩ : ByteArray)] from rfl) (Reps.one (show Kd.M Kd.string _ _ _ (⟨#[99]⟩ : ByteArray) [.string (⟨#[99]⟩ : ByteArray)] from rfl) (Reps.one (show Kd.M Kd.string _ _ _ (⟨#[97, 98]⟩ : ByteArray) [.string (⟨#[97, 98]⟩ : ByteArray)] from rfl) (Reps.none _ _)))))))))))
 intro v331 w14 ho15 hb hg_ hnew_
 clear hg_ hnew_
 (first | rw [← Ny330.out] at ho15 | (simp only [Int.reduceToNat] at ho15; rw [← Ny330.out] at ho15))
 have n0_ := a_ (Kd.R_lower ho15 (below_size t26_)); have n1_ := bb_ BK319 hb; have n2_ := a_ (IsS68.below t38_ hb); have n3_ := bb_ BK329 hb; have n4_ := a_ (below_step t26_ hb); clear BK319; clear HI323; clear BK329; clear HB; have HO332 := n0_; have BK319 := n1_; have HI323 := n2_; have BK329 := n3_; have HB := n4_; clear n0_ n1_ n2_ n3_ n4_; clear hb ho15; obtain ⟨Ao16, co16, eo16⟩ := Kd.R_slice HO332.out
 (first | subst eo16 | (injection eo16 with f1_ f2_ f3_; have f4_ := f1_.symm; have f5_ := f3_.symm; clear f1_ f2_ f3_; subst f4_; subst f5_))
 refine hK.out _ _ ⟨c_ BK329.out 0, c_ BK329.out 1⟩ (fun hHeld => ?_)
 clear hK K
 refine norm_ (a' := ?_) ?_ ?_
 rotate_left
 ·
  show Act.put _ (some 19) _ = _
  simp only [Act.put, List.setIfInBounds_toArray, List.set_cons_zero, List.set_cons_succ, i64_w, i32_w]
  rfl
 refine one_ (i := 4) (N := some 20) #[true, true, true, true, true, false, false, false] rfl rfl (one_of HT_.out t9_) t40_ (fun K hK => ?_)
 refine goes_ Tryz.func49 t9_ rfl #[.pointer (some ⟨g323, 0, none⟩), .slice Ao16 y330.length co16] (by rfl) rfl rfl (by (try simp only [m1_, m2_, m3_]); first | done | rfl) ?_
 with_reducible refine (spec_l1Cur_of.calls g323 t320 t327 t328 _ _ y330 t333 t334 t335 w _ ?side1 ?side2 ?side3 ?side4 ?side5 A4.out).mono ?_
 (case side1 => repeat (first | (with_reducible first | exact HI323.out | apply IsS68.alloc | apply IsS68.drewN | apply IsS68.drew | apply IsS68.set_1 | apply IsS68.set_2 | refine IsS68.far ?_ NB323_319.out _ | refine IsS68.far ?_ NB323_329.out _) | exact HI323.out))
 (case side2 => repeat (first | (with_reducible first | exact HB.out | apply below_alloc | apply pw_below_drewN | apply below_drew1 | refine below_set ?_ (IsS68.ge HI323.out) | refine below_set ?_ GE319.out | refine below_set ?_ GE329.out) | exact HB.out))
 (case side3 => repeat (first | exact (Kd.R_reads' HO332.out).2.2 | (with_reducible refine Kd.C_alloc ?_ _) | (with_reducible refine Kd.C_drewN ?_ _) | (with_reducible refine Kd.C_drew ?_)))
 (case side4 => exact (Kd.R_reads' HO332.out).2.1)
 (case side5 => exact far_slice (IsS68.own_ne HI323.out HO332.out t40_))
 rintro e w17 ⟨rfl, hi, hb, hk⟩
 refine ⟨_, rfl, ?_⟩
 have n0_ := a_ (KeepBut.blk hk (g' := gb319) (o := .cells #[.int .i64 0, .int .i64 0] 25 (0, 0)) (B_ BK319.out) NB319_323.out t19_); have n1_ := a_ (KeepBut.blk hk (g' := gb329) (o := .cells #[.int .i64 t324, .int .i64 t325] 25 (0, 0)) (B_ BK329.out) NB329_323.out t19_); have n2_ := a_ (Kd.R_mono (Kd.R_keep (IsS68.apart (show IsS68 w _ g323 t320 t327 t328 from by repeat (first | (with_reducible first | exact HI323.out | apply IsS68.alloc | apply IsS68.drewN | apply IsS68.drew | apply IsS68.set_1 | apply IsS68.set_2 | refine IsS68.far ?_ NB323_319.out _ | refine IsS68.far ?_ NB323_329.out _) | exact HI323.out)) (R_ HO332.out) t40_) hk (fun _ h => h.2)) (fun _ h => h.1)); have n3_ := a_ (hb); have n4_ := a_ (hi); clear BK319; clear BK329; clear HO332; clear HB; clear HI323; have BK319 := n0_; have BK329 := n1_; have HO332 := n2_; have HB := n3_; have HI323 := n4_; clear n0_ n1_ n2_ n3_ n4_
 (try clear hb)
 (try clear hb2)
 (try clear hk)
 (try clear hi)
 refine hK.out _ _ ⟨c_ BK329.out 0, c_ BK329.out 1⟩ (fun hHeld => ?_)
 clear hK K
 refine norm_ (a' := ?_) ?_ ?_
 rotate_left
 ·
  show Act.put _ (some 20) _ = _
  simp only [Act.put, List.setIfInBounds_toArray, List.set_cons_zero, List.set_cons_succ, i64_w, i32_w]
  rfl
 refine one_ (i := 5) (N := none) #[true, true, true, true, true, true, false, false] rfl rfl (one_of HT_.out t9_) t40_ (fun K hK => ?_)
 have hs18 : w17.cell? ⟨gb319, 0, none⟩ = some (.int .i64 0) := c_ BK319.out 0; have hfs18 := blk_frozen BK319.out 0; have hns18_1 := NB329_319.out; have hms18_1 := NB319_329.out; have hs19 : w17.cell? ⟨gb319, 1, none⟩ = some (.int .i64 0) := c_ BK319.out 1; have hfs19 := blk_frozen BK319.out 1; have hns19_1 := NB329_319.out; have hms19_1 := NB319_329.out
 refine skip_ (w1 := ?_) (by rfl) rfl ?_ ?_
 rotate_left
 ·
  go_simp
  rfl
 refine hK.out _ _ ⟨((cell_far (p := ⟨gb319, _, none⟩) NB329_319.out _).trans (((cell_far (p := ⟨gb319, _, none⟩) NB329_319.out _).trans (hHeld.1)))), ((cell_far (p := ⟨gb319, _, none⟩) NB329_319.out _).trans (((cell_far (p := ⟨gb319, _, none⟩) NB329_319.out _).trans (hHeld.2))))⟩ (fun hHeld => ?_)
 clear hK K
 refine pure_ (i := 6) (N := some 3) (v := ?_) (a' := ?_) #[true, true, true, true, true, true, true, false] rfl rfl (any_of HT_.out t9_) (fun _ _ _ h => h) (Or.inl ⟨by rfl, ?_⟩) ?_ ?_
 rotate_left
 ·
  intro w'
  go_simp
  with_reducible rfl
 rotate_left
 ·
  simp only [Act.put, List.setIfInBounds_toArray, List.set_cons_zero, List.set_cons_succ, i64_w, i32_w]
  rfl
 refine pure_ (i := 7) (N := some 4) (v := ?_) (a' := ?_) #[true, true, true, true, true, true, true, true] rfl rfl (any_of HT_.out t9_) (fun _ _ _ h => h) (Or.inl ⟨by rfl, ?_⟩) ?_ ?_
 rotate_left
 ·
  intro w'
  go_simp
  with_reducible rfl
 rotate_left
 ·
  simp only [Act.put, List.setIfInBounds_toArray, List.set_cons_zero, List.set_cons_succ, i64_w, i32_w]
  rfl
 refine done_ (done_of HT_.out t9_) ?_
 try go_wp2
 refine bodyPost_ret (results_ctt rfl _ _ gb319 25 #[.int .i64 t324, .int .i64 t325] (0, 0) _ rfl (by (with_reducible repeat (first | refine blk_drewN ?_ _ | refine blk_drew ?_ | refine blk_alloc ?_ _)); refine blk_put (cs := #[.int .i64 t324, .int .i64 0]) ?_ 1 _ rfl; (with_reducible repeat (first | refine blk_drewN ?_ _ | refine blk_drew ?_ | refine blk_alloc ?_ _)); refine blk_put (cs := #[.int .i64 0, .int .i64 0]) ?_ 0 _ rfl; exact B_ BK319.out) Tryz.underlying25 rfl t9_) rfl ?_
 exact ⟨by first | rfl | (simp [errW_none, errW_some] <;> rfl) | (simp [*, errW_none, errW_some] <;> rfl), by repeat (first | (with_reducible first | exact HB.out | apply below_alloc | apply pw_below_drewN | apply below_drew1 | refine below_set ?_ (IsS68.ge HI323.out) | refine below_set ?_ GE319.out | refine below_set ?_ GE329.out) | exact HB.out)⟩
mutual
def spec_FewestToWin.j0 : Nat → ByteArray → ByteArray → Bool → Int → Int → Option (Int × Bool)
 | 0, _, _, _, _, _ => none
 | k + 1, x1, x2, x22, x337000, x337001 => if x22 = true then (some (0, false)) else ((spec_raCount.f k x337000 x337001 x1).bind fun bt338 => (if x2.toList = ([98] : List UInt8) then (spec_FewestToWin.j1 k bt338.2.1 bt338.1 x337000 x337001) else (spec_FewestToWin.j1 k bt338.1 bt338.2.1 x337000 x337001)))
def spec_FewestToWin.j1 : Nat → Int → Int → Int → Int → Option (Int × Bool)
 | 0, _, _, _, _ => none
 | k + 1, x8, x9, x337000, x337001 => (spec_raWon.f k x337000 x337001 x8 x9).bind fun t341 => (if t341 < 0 then (some (0, false)) else ((spec_l1Most.f x337000 (wrap64 (x9 + x337001))).bind fun t342 => ((spec_l1Most.f 0 (wrap64 (t342 - x8))).bind fun t343 => (some (t343, true)))))
end
def spec_FewestToWin.f (k : Nat) (a0_0 : Int) (a0_1 : Int) (a1 : ByteArray) (a2 : ByteArray) : Option (Int × Bool) := (spec_raIs.f k a0_0 a0_1 a1).bind fun t337 => (if t337 = true then (if a2.toList = ([97] : List UInt8) then (spec_FewestToWin.j0 k a1 a2 false a0_0 a0_1) else (spec_FewestToWin.j0 k a1 a2 (a2.toList != ([98] : List UInt8)) a0_0 a0_1)) else (spec_FewestToWin.j0 k a1 a2 true a0_0 a0_1))
set_option maxHeartbeats 8000000 in
set_option maxRecDepth 100000 in
theorem spec_FewestToWin.calls (k : Nat) (a0_0 : Int) (a0_1 : Int) (a1 : ByteArray) (a2 : ByteArray) (r1 : Int) (r2 : Bool) (w : World) (h : spec_FewestToWin.f k a0_0 a0_1 a1 a2 = some (r1, r2)) :
  Calls Tryz.prog 20 #[.agg #[.int .i64 a0_0, .int .i64 a0_1], .string a1, .string a2] w fun e w' => e = .returned (.tuple #[.int .i64 r1, .bool r2]) ∧ Below w.heap.size w w' := by
 have hu53 := Tryz.underlying53; have hu25 := Tryz.underlying25; have HB := a_ (Below.refl w.heap.size w); have H : ((spec_raIs.f k a0_0 a0_1 a1).bind fun t337 => (if t337 = true then (if a2.toList = ([97] : List UInt8) then (spec_FewestToWin.j0 k a1 a2 false a0_0 a0_1) else (spec_FewestToWin.j0 k a1 a2 (a2.toList != ([98] : List UInt8)) a0_0 a0_1)) else (spec_FewestToWin.j0 k a1 a2 true a0_0 a0_1))) = some (r1, r2) := h; clear h; have HC4 := a_ H; clear H
 go_enter Tryz.func20, Tryz.ntmps20
 go_upto_region 1 with (first | ((with_reducible refine gate_dst (N := 3) rfl ?_); refine box_event ?hg (N := 3) ?hd (cs := #[.int .i64 a0_0, .int .i64 a0_1]) (t := 25) ?hr ?_; (case hd => rfl); (case hg => rfl); (case hr => first | (go_simp; done) | (go_simp; rfl)); intro gb336 hg w5 hbox hb; have n0_ := a_ (below_step (L_ HB.out (Nat.le_refl _) (Nat.le_refl _) (Nat.le_refl _)) hb); have n1_ := a_ (hbox); have n2_ := a_ ((by rw [hg]; exact (below_size (L_ HB.out (Nat.le_refl _) (Nat.le_refl _) (Nat.le_refl _))) : w.heap.size ≤ gb336)); have n3_ := a_ ((by rw [hg]; exact (below_size (L_ HB.out (Nat.le_refl _) (Nat.le_refl _) (Nat.le_refl _))) : w.heap.size ≤ gb336)); clear HB; have HB := n0_; have BK336 := n1_; have GW336 := n2_; have GE336 := n3_; clear n0_ n1_ n2_ n3_; clear hb hbox hg))
 (try simp only [Act.put, List.setIfInBounds_toArray, List.set_cons_zero, List.set_cons_succ])
 go_cut [22] (fun v22 wc => ∃ (kq : Nat) (x22_3 : Bool), v22 = .bool x22_3 ∧ Aside0 (spec_FewestToWin.j0 kq a1 a2 x22_3 a0_0 a0_1 = some (r1, r2)) ∧ Aside0 (kq ≤ k) ∧ Aside0 (wc.heap[gb336]? = some (.cells #[.int .i64 a0_0, .int .i64 a0_1] 25 (0, 0))) ∧ Aside0 (Below w.heap.size w wc))
 case first =>
  have H := HC4.out; clear HC4; replace H := Option.bind_eq_some_iff.mp H; obtain ⟨t337, A60, H⟩ := H; replace H : (if t337 = true then (if a2.toList = ([97] : List UInt8) then (spec_FewestToWin.j0 k a1 a2 false a0_0 a0_1) else (spec_FewestToWin.j0 k a1 a2 (a2.toList != ([98] : List UInt8)) a0_0 a0_1)) else (spec_FewestToWin.j0 k a1 a2 true a0_0 a0_1)) = some (r1, r2) := H; have A6 := a_ A60; clear A60
  by_cases c7 : t337 = true
  ·
   subst c7; have H1 : (if a2.toList = ([97] : List UInt8) then (spec_FewestToWin.j0 k a1 a2 false a0_0 a0_1) else (spec_FewestToWin.j0 k a1 a2 (a2.toList != ([98] : List UInt8)) a0_0 a0_1)) = some (r1, r2) := by rw [if_pos rfl] at H; exact H
   clear H; have H := H1; clear H1
   by_cases c8 : a2.toList = ([97] : List UInt8)
   ·
    rw [if_pos c8] at H; have c8b0 : (a2.toList == ([97] : List UInt8)) = true := beq_iff_eq.mpr c8; have c8b1 : (a2.toList != ([97] : List UInt8)) = false := bne_eq_false_iff_eq.mpr c8; clear c8
    (first | rw [c8b0] | (simp only [i64_w, i32_w]; rw [c8b0]) | skip)
    have H' := a_ H; clear H; have hcz9_0 : w5.cell? ⟨gb336, 0, none⟩ = some (.int .i64 a0_0) := c_ BK336.out 0; have hcz9_1 : w5.cell? ⟨gb336, 1, none⟩ = some (.int .i64 a0_1) := c_ BK336.out 1; have hfz9_0 := blk_frozen BK336.out 0; have hfz9_1 := blk_frozen BK336.out 1
    go_wp2_with (first | ((with_reducible refine gate_callee (f := 36) rfl ?_); refine goesL_ (some 13) rfl rfl Tryz.func36 t9_ rfl #[.agg #[.int .i64 a0_0, .int .i64 a0_1], .string a1] rfl (by (try simp only [m1_, m2_, m3_]); first | done | rfl) ?_; (with_reducible refine (spec_raIs.calls k a0_0 a0_1 a1 true _ A6.out).mono ?_); rintro e w10 ⟨rfl, hb⟩; refine ⟨_, rfl, ?_⟩; have n0_ := bb_ BK336 hb; have n1_ := a_ (below_step (L_ HB.out GE336.out GE336.out GE336.out) hb); clear BK336; clear HB; have BK336 := n0_; have HB := n1_; clear n0_ n1_; (try clear hb); (try clear hb2); (try clear hk); (try clear hi)))
    go_meet
    case rel => exact ⟨_, (false), t1_, H', ⟨t16_⟩, ⟨B_ BK336.out⟩, ⟨L_ HB.out GE336.out GE336.out GE336.out⟩⟩
   ·
    rw [if_neg c8] at H; have c8b0 : (a2.toList == ([97] : List UInt8)) = false := beq_eq_false_iff_ne.mpr c8; have c8b1 : (a2.toList != ([97] : List UInt8)) = true := bne_iff_ne.mpr c8
    (first | rw [c8b0] | (simp only [i64_w, i32_w]; rw [c8b0]) | skip)
    have H' := a_ H; clear H; have hcz11_0 : w5.cell? ⟨gb336, 0, none⟩ = some (.int .i64 a0_0) := c_ BK336.out 0; have hcz11_1 : w5.cell? ⟨gb336, 1, none⟩ = some (.int .i64 a0_1) := c_ BK336.out 1; have hfz11_0 := blk_frozen BK336.out 0; have hfz11_1 := blk_frozen BK336.out 1
    go_wp2_with (first | ((with_reducible refine gate_callee (f := 36) rfl ?_); refine goesL_ (some 13) rfl rfl Tryz.func36 t9_ rfl #[.agg #[.int .i64 a0_0, .int .i64 a0_1], .string a1] rfl (by (try simp only [m1_, m2_, m3_]); first | done | rfl) ?_; (with_reducible refine (spec_raIs.calls k a0_0 a0_1 a1 true _ A6.out).mono ?_); rintro e w12 ⟨rfl, hb⟩; refine ⟨_, rfl, ?_⟩; have n0_ := bb_ BK336 hb; have n1_ := a_ (below_step (L_ HB.out GE336.out GE336.out GE336.out) hb); clear BK336; clear HB; have BK336 := n0_; have HB := n1_; clear n0_ n1_; (try clear hb); (try clear hb2); (try clear hk); (try clear hi)))
    go_meet
    case rel => exact ⟨_, ((a2.toList != ([98] : List UInt8))), t1_, H', ⟨t16_⟩, ⟨B_ BK336.out⟩, ⟨L_ HB.out GE336.out GE336.out GE336.out⟩⟩
  ·
   replace c7 := Bool.eq_false_iff.mpr c7; subst c7; have H1 : (spec_FewestToWin.j0 k a1 a2 true a0_0 a0_1) = some (r1, r2) := by rw [if_neg (show ¬ (false = true) by decide)] at H; exact H
   clear H; have H := H1; clear H1; have H' := a_ H; clear H; have hcz13_0 : w5.cell? ⟨gb336, 0, none⟩ = some (.int .i64 a0_0) := c_ BK336.out 0; have hcz13_1 : w5.cell? ⟨gb336, 1, none⟩ = some (.int .i64 a0_1) := c_ BK336.out 1; have hfz13_0 := blk_frozen BK336.out 0; have hfz13_1 := blk_frozen BK336.out 1
   go_wp2_with (first | ((with_reducible refine gate_callee (f := 36) rfl ?_); refine goesL_ (some 13) rfl rfl Tryz.func36 t9_ rfl #[.agg #[.int .i64 a0_0, .int .i64 a0_1], .string a1] rfl (by (try simp only [m1_, m2_, m3_]); first | done | rfl) ?_; (with_reducible refine (spec_raIs.calls k a0_0 a0_1 a1 false _ A6.out).mono ?_); rintro e w14 ⟨rfl, hb⟩; refine ⟨_, rfl, ?_⟩; have n0_ := bb_ BK336 hb; have n1_ := a_ (below_step (L_ HB.out GE336.out GE336.out GE336.out) hb); clear BK336; clear HB; have BK336 := n0_; have HB := n1_; clear n0_ n1_; (try clear hb); (try clear hb2); (try clear hk); (try clear hi)))
   go_meet
   case rel => exact ⟨_, (true), t1_, H', ⟨t16_⟩, ⟨B_ BK336.out⟩, ⟨L_ HB.out GE336.out GE336.out GE336.out⟩⟩
 case rest =>
  clear HC4; obtain ⟨kq, x22_3, rfl, HA, HJ3, BK336, HB⟩ := hcut
  cases kq with
  | zero => exact absurd HA.out (by simp [spec_FewestToWin.j0])
  | succ kj3 =>
   have H := HA.out; clear HA; simp only [spec_FewestToWin.j0] at H
   by_cases c15 : x22_3 = true
   ·
    subst c15; have H1 : (some (0, false)) = some (r1, r2) := by rw [if_pos rfl] at H; exact H
    clear H; have H := H1; clear H1; simp only [Option.some.injEq, Prod.mk.injEq] at H; obtain ⟨rfl, rfl⟩ := H
    go_wp2
    go_ret2
    exact ⟨by first | rfl | (simp [errW_none, errW_some] <;> rfl) | (simp [*, errW_none, errW_some] <;> rfl), by repeat (first | (with_reducible first | exact HB.out | apply below_alloc | apply pw_below_drewN | apply below_drew1 | refine below_set ?_ GE336.out) | exact HB.out)⟩
   ·
    replace c15 := Bool.eq_false_iff.mpr c15; subst c15; have H1 : ((spec_raCount.f kj3 a0_0 a0_1 a1).bind fun bt338 => (if a2.toList = ([98] : List UInt8) then (spec_FewestToWin.j1 kj3 bt338.2.1 bt338.1 a0_0 a0_1) else (spec_FewestToWin.j1 kj3 bt338.1 bt338.2.1 a0_0 a0_1))) = some (r1, r2) := by rw [if_neg (show ¬ (false = true) by decide)] at H; exact H
    clear H; have H := H1; clear H1; replace H := Option.bind_eq_some_iff.mp H; obtain ⟨⟨t338, t339, t340⟩, A160, H⟩ := H; replace H : (if a2.toList = ([98] : List UInt8) then (spec_FewestToWin.j1 kj3 t339 t338 a0_0 a0_1) else (spec_FewestToWin.j1 kj3 t338 t339 a0_0 a0_1)) = some (r1, r2) := H; have A16 := a_ A160; clear A160; have HC17 := a_ H; clear H; have hcz18_0 : wc.cell? ⟨gb336, 0, none⟩ = some (.int .i64 a0_0) := c_ BK336.out 0; have hcz18_1 : wc.cell? ⟨gb336, 1, none⟩ = some (.int .i64 a0_1) := c_ BK336.out 1; have hfz18_0 := blk_frozen BK336.out 0; have hfz18_1 := blk_frozen BK336.out 1
    go_upto_if 31 with (first | ((with_reducible refine gate_callee (f := 38) rfl ?_); refine goesL_ (some 26) rfl rfl Tryz.func38 t9_ rfl #[.agg #[.int .i64 a0_0, .int .i64 a0_1], .string a1] rfl (by (try simp only [m1_, m2_, m3_]); first | done | rfl) ?_; (with_reducible refine (spec_raCount.calls kj3 a0_0 a0_1 a1 t338 t339 t340 _ A16.out).mono ?_); rintro e w19 ⟨rfl, hb⟩; refine ⟨_, rfl, ?_⟩; have n0_ := bb_ BK336 hb; have n1_ := a_ (below_step (L_ HB.out GE336.out GE336.out GE336.out) hb); clear BK336; clear HB; have BK336 := n0_; have HB := n1_; clear n0_ n1_; (try clear hb); (try clear hb2); (try clear hk); (try clear hi)))
    (try simp only [Act.put, List.setIfInBounds_toArray, List.set_cons_zero, List.set_cons_succ])
    go_cut [8, 9] (fun v8 v9 wc => ∃ (kq : Nat) (x8_16 : Int) (x9_16 : Int), v8 = .int .i64 x8_16 ∧ v9 = .int .i64 x9_16 ∧ Aside0 (spec_FewestToWin.j1 kq x8_16 x9_16 a0_0 a0_1 = some (r1, r2)) ∧ Aside0 (kq ≤ kj3) ∧ Aside0 (wc.heap[gb336]? = some (.cells #[.int .i64 a0_0, .int .i64 a0_1] 25 (0, 0))) ∧ Aside0 (Below w.heap.size w wc))
    case first =>
     have H := HC17.out; clear HC17
     by_cases c20 : a2.toList = ([98] : List UInt8)
     ·
      rw [if_pos c20] at H; have c20b0 : (a2.toList == ([98] : List UInt8)) = true := beq_iff_eq.mpr c20; have c20b1 : (a2.toList != ([98] : List UInt8)) = false := bne_eq_false_iff_eq.mpr c20; clear c20
      (first | rw [c20b0] | (simp only [i64_w, i32_w]; rw [c20b0]) | skip)
      have H' := a_ H; clear H
      go_wp2
      go_meet
      case rel => exact ⟨_, (t339), (t338), t1_, t1_, H', ⟨by have := HJ3.out; first | omega | exact Nat.le_refl _⟩, ⟨B_ BK336.out⟩, ⟨L_ HB.out GE336.out GE336.out GE336.out⟩⟩
     ·
      rw [if_neg c20] at H; have c20b0 : (a2.toList == ([98] : List UInt8)) = false := beq_eq_false_iff_ne.mpr c20; have c20b1 : (a2.toList != ([98] : List UInt8)) = true := bne_iff_ne.mpr c20
      (first | rw [c20b0] | (simp only [i64_w, i32_w]; rw [c20b0]) | skip)
      have H' := a_ H; clear H
      go_wp2
      go_meet
      case rel => exact ⟨_, (t338), (t339), t1_, t1_, H', ⟨by have := HJ3.out; first | omega | exact Nat.le_refl _⟩, ⟨B_ BK336.out⟩, ⟨L_ HB.out GE336.out GE336.out GE336.out⟩⟩
    case rest =>
     clear HC17; obtain ⟨kq, x8_16, x9_16, rfl, rfl, HA, HJ16, BK336, HB⟩ := hcut
     cases kq with
     | zero => exact absurd HA.out (by simp [spec_FewestToWin.j1])
     | succ kj16 =>
      have H := HA.out; clear HA; simp only [spec_FewestToWin.j1] at H; replace H := Option.bind_eq_some_iff.mp H; obtain ⟨t341, A210, H⟩ := H; replace H : (if t341 < 0 then (some (0, false)) else ((spec_l1Most.f a0_0 (wrap64 (x9_16 + a0_1))).bind fun t342 => ((spec_l1Most.f 0 (wrap64 (t342 - x8_16))).bind fun t343 => (some (t343, true))))) = some (r1, r2) := H; have A21 := a_ A210; clear A210
      by_cases c22 : t341 < 0
      ·
       rw [if_pos c22] at H; have c22b0 : decide (t341 < 0) = true := decide_eq_true c22; clear c22; simp only [Option.some.injEq, Prod.mk.injEq] at H; obtain ⟨rfl, rfl⟩ := H; have hcz23_0 : wc.cell? ⟨gb336, 0, none⟩ = some (.int .i64 a0_0) := c_ BK336.out 0; have hcz23_1 : wc.cell? ⟨gb336, 1, none⟩ = some (.int .i64 a0_1) := c_ BK336.out 1; have hfz23_0 := blk_frozen BK336.out 0; have hfz23_1 := blk_frozen BK336.out 1
       go_wp2_with (first | ((with_reducible refine gate_callee (f := 40) rfl ?_); refine goesL_ (some 37) rfl rfl Tryz.func40 t9_ rfl #[.agg #[.int .i64 a0_0, .int .i64 a0_1], .int .i64 x8_16, .int .i64 x9_16] rfl (by (try simp only [m1_, m2_, m3_]); first | done | rfl) ?_; (with_reducible refine (spec_raWon.calls kj16 a0_0 a0_1 x8_16 x9_16 t341 _ A21.out).mono ?_); rintro e w24 ⟨rfl, hb⟩; refine ⟨_, rfl, ?_⟩; have n0_ := bb_ BK336 hb; have n1_ := a_ (below_step (L_ HB.out GE336.out GE336.out GE336.out) hb); clear BK336; clear HB; have BK336 := n0_; have HB := n1_; clear n0_ n1_; (try clear hb); (try clear hb2); (try clear hk); (try clear hi)))
       go_ret2
       exact ⟨by first | rfl | (simp [errW_none, errW_some] <;> rfl) | (simp [*, errW_none, errW_some] <;> rfl), by repeat (first | (with_reducible first | exact HB.out | apply below_alloc | apply pw_below_drewN | apply below_drew1 | refine below_set ?_ GE336.out) | exact HB.out)⟩
      ·
       rw [if_neg c22] at H; have c22b0 : decide (t341 < 0) = false := decide_eq_false c22; clear c22; replace H := Option.bind_eq_some_iff.mp H; obtain ⟨t342, A250, H⟩ := H; replace H : ((spec_l1Most.f 0 (wrap64 (t342 - x8_16))).bind fun t343 => (some (t343, true))) = some (r1, r2) := H; have A25 := a_ A250; clear A250; replace H := Option.bind_eq_some_iff.mp H; obtain ⟨t343, A260, H⟩ := H; replace H : (some (t343, true)) = some (r1, r2) := H; have A26 := a_ A260; clear A260; simp only [Option.some.injEq, Prod.mk.injEq] at H; obtain ⟨rfl, rfl⟩ := H; have hcz27_0 : wc.cell? ⟨gb336, 0, none⟩ = some (.int .i64 a0_0) := c_ BK336.out 0; have hcz27_1 : wc.cell? ⟨gb336, 1, none⟩ = some (.int .i64 a0_1) := c_ BK336.out 1; have hfz27_0 := blk_frozen BK336.out 0; have hfz27_1 := blk_frozen BK336.out 1
       go_wp2_with (first | ((with_reducible refine gate_callee (f := 40) rfl ?_); refine goesL_ (some 37) rfl rfl Tryz.func40 t9_ rfl #[.agg #[.int .i64 a0_0, .int .i64 a0_1], .int .i64 x8_16, .int .i64 x9_16] rfl (by (try simp only [m1_, m2_, m3_]); first | done | rfl) ?_; (with_reducible refine (spec_raWon.calls kj16 a0_0 a0_1 x8_16 x9_16 t341 _ A21.out).mono ?_); rintro e w28 ⟨rfl, hb⟩; refine ⟨_, rfl, ?_⟩; have n0_ := bb_ BK336 hb; have n1_ := a_ (below_step (L_ HB.out GE336.out GE336.out GE336.out) hb); clear BK336; clear HB; have BK336 := n0_; have HB := n1_; clear n0_ n1_; (try clear hb); (try clear hb2); (try clear hk); (try clear hi); have hcz29_0 : w28.cell? ⟨gb336, 0, none⟩ = some (.int .i64 a0_0) := c_ BK336.out 0; have hcz29_1 : w28.cell? ⟨gb336, 1, none⟩ = some (.int .i64 a0_1) := c_ BK336.out 1; have hfz29_0 := blk_frozen BK336.out 0; have hfz29_1 := blk_frozen BK336.out 1) | ((with_reducible refine gate_callee (f := 41) rfl ?_); refine goesL_ (some 45) rfl rfl Tryz.func41 t9_ rfl #[.int .i64 a0_0, .int .i64 (wrap64 (x9_16 + a0_1))] rfl (by (try simp only [m1_, m2_, m3_]); first | done | rfl) ?_; (with_reducible refine (spec_l1Most.calls a0_0 (wrap64 (x9_16 + a0_1)) t342 _ A25.out).mono ?_); rintro e w' ⟨rfl, ⟨nd, rfl⟩⟩; refine ⟨_, rfl, ?_⟩) | ((with_reducible refine gate_callee (f := 41) rfl ?_); refine goesL_ (some 48) rfl rfl Tryz.func41 t9_ rfl #[.int .i64 0, .int .i64 (wrap64 (t342 - x8_16))] rfl (by (try simp only [m1_, m2_, m3_]); first | done | rfl) ?_; (with_reducible refine (spec_l1Most.calls 0 (wrap64 (t342 - x8_16)) t343 _ A26.out).mono ?_); rintro e w' ⟨rfl, ⟨nd, rfl⟩⟩; refine ⟨_, rfl, ?_⟩))
       go_ret2
       exact ⟨by first | rfl | (simp [errW_none, errW_some] <;> rfl) | (simp [*, errW_none, errW_some] <;> rfl), by repeat (first | (with_reducible first | exact HB.out | apply below_alloc | apply pw_below_drewN | apply below_drew1 | refine below_set ?_ GE336.out) | exact HB.out)⟩
def spec_DrawLongestRun.f (k : Nat) (l0 : List Int) : Option (ByteArray) := (spec_DrawIsPlay.f k l0).bind fun bt344 => (some bt344.2.2)
set_option maxHeartbeats 8000000 in
set_option maxRecDepth 100000 in
theorem spec_DrawLongestRun.calls (k : Nat) (A0 : Option Addr) (c0 : Nat) (l0 : List Int) (r : ByteArray) (w : World) (hr0 : Kd.C (Kd.int .u8) w A0 l0.length l0) (hc0 : l0.length ≤ c0) (h : spec_DrawLongestRun.f k l0 = some r) :
  Calls Tryz.prog 21 #[.slice A0 l0.length c0] w fun e w' => e = .returned (.string r) ∧ Below w.heap.size w w' := by
 have hu53 := Tryz.underlying53; have hu25 := Tryz.underlying25; have HR0 := a_ hr0; have HC0 := a_ hc0; clear hr0 hc0; have HB := a_ (Below.refl w.heap.size w); have H : ((spec_DrawIsPlay.f k l0).bind fun bt344 => (some bt344.2.2)) = some r := h; clear h; replace H := Option.bind_eq_some_iff.mp H; obtain ⟨⟨t344, t345, t346⟩, A20, H⟩ := H; replace H : (some t346) = some r := H; have A2 := a_ A20; clear A20; obtain rfl := Option.some.inj H
 go_enter Tryz.func21, Tryz.ntmps21
 go_wp2_with (first | ((with_reducible refine gate_callee (f := 34) rfl ?_); refine goesL_ (some 7) rfl rfl Tryz.func34 t9_ rfl #[.slice A0 l0.length c0] rfl (by (try simp only [m1_, m2_, m3_]); first | done | rfl) ?_; (with_reducible refine (spec_DrawIsPlay.calls k _ _ l0 t344 t345 t346 _ ?side1 ?side2 A2.out).mono ?_); (case side1 => repeat (first | exact HR0.out | (with_reducible refine Kd.C_alloc ?_ _) | (with_reducible refine Kd.C_drewN ?_ _) | (with_reducible refine Kd.C_drew ?_))); (case side2 => exact HC0.out); rintro e w3 ⟨rfl, hb⟩; refine ⟨_, rfl, ?_⟩; have n0_ := a_ (below_step (L_ HB.out (Nat.le_refl _) (Nat.le_refl _) (Nat.le_refl _)) hb); clear HB; have HB := n0_; clear n0_; (try clear hb); (try clear hb2); (try clear hk); (try clear hi)) | ((with_reducible refine gate_dst (N := 3) rfl ?_); refine box_event ?hg (N := 3) ?hd (cs := #[.int .i64 0, .int .i64 0]) (t := 25) ?hr ?_; (case hd => rfl); (case hg => rfl); (case hr => first | (go_simp; done) | (go_simp; rfl)); intro gb347 hg w4 hbox hb; have n0_ := a_ (below_step (L_ HB.out (Nat.le_refl _) (Nat.le_refl _) (Nat.le_refl _)) hb); have n1_ := a_ (hbox); have n2_ := a_ ((by rw [hg]; exact (below_size (L_ HB.out (Nat.le_refl _) (Nat.le_refl _) (Nat.le_refl _))) : w.heap.size ≤ gb347)); have n3_ := a_ ((by rw [hg]; exact (below_size (L_ HB.out (Nat.le_refl _) (Nat.le_refl _) (Nat.le_refl _))) : w.heap.size ≤ gb347)); clear HB; have HB := n0_; have BK347 := n1_; have GW347 := n2_; have GE347 := n3_; clear n0_ n1_ n2_ n3_; clear hb hbox hg; have hcz5_0 : w4.cell? ⟨gb347, 0, none⟩ = some (.int .i64 0) := c_ BK347.out 0; have hcz5_1 : w4.cell? ⟨gb347, 1, none⟩ = some (.int .i64 0) := c_ BK347.out 1; have hfz5_0 := blk_frozen BK347.out 0; have hfz5_1 := blk_frozen BK347.out 1))
 go_ret
 exact ⟨by first | rfl | (simp [errW_none, errW_some] <;> rfl) | (simp [*, errW_none, errW_some] <;> rfl), by repeat (first | (with_reducible first | exact HB.out | apply below_alloc | apply pw_below_drewN | apply below_drew1 | refine below_set ?_ GE347.out) | exact HB.out)⟩
end Go.Proofs.YtiknaldhjbdnbaaGreatDoor.QFnRacesWon
