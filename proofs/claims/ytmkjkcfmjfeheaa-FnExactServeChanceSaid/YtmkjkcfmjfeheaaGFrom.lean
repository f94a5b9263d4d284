/- The closure of impl.ServeChance, walked. -/
import Derived.Test.YtmkjkcfmjfeheaaGMix
namespace Go.Proofs.Ytmkjkcfmjfeheaa.QFnExactMeanDeuce
open Go.RowKit Go.Proofs.YtmkjkcfmjfeheaaW.PrintWords Go.Proofs.YtmkjkcfmjfeheaaW.PrintLast Go.Proofs.YtmkjkcfmjfeheaaW.PrintMore
set_option linter.unusedVariables false
set_option linter.unusedSimpArgs false
/-- who serves: the numerator and the denominator of the chance -/
def svN (on tn : Int) (t : Nat) : Int := if t % 2 = 1 then tn else on
def prodD (f : Nat → Int) : Nat → Nat → Int
  | _, 0 => 1
  | t, L + 1 => f t * prodD f (t + 1) L
def fromV (sn sd : Nat → Int) (nn : Nat) : Nat → Nat → Nat → Q2
  | 0, a, b => if a = nn then rN 1 1 else (0, 0)
  | L + 1, a, b => if a = nn then rN 1 1 else if b = nn then (0, 0) else mixV (rN (sn (a + b)) (sd (a + b))) (fromV sn sd nn L (a + 1) b) (fromV sn sd nn L a (b + 1))
def fromU (sn sd : Nat → Int) (nn : Nat) : Nat → Nat → Nat → Int
  | 0, a, b => if a = nn then 1 else 0
  | L + 1, a, b => if a = nn then prodD sd (a + b) (L + 1) else if b = nn then 0 else sn (a + b) * fromU sn sd nn L (a + 1) b + (sd (a + b) - sn (a + b)) * fromU sn sd nn L a (b + 1)
/-- the servers' odds -/
structure Srv (sn sd : Nat → Int) : Prop where
  d0 : ∀ t, 0 < sd t
  d1 : ∀ t, sd t ≤ 10
  n0 : ∀ t, 0 ≤ sn t
  n1 : ∀ t, sn t ≤ sd t
theorem prodD_pos {sn sd : Nat → Int} (h : Srv sn sd) : ∀ (L t : Nat), 0 < prodD sd t L
  | 0, _ => by show (0 : Int) < 1; decide
  | L + 1, t => Int.mul_pos (h.d0 t) (prodD_pos h L (t + 1))
theorem prodD_le {sn sd : Nat → Int} (h : Srv sn sd) : ∀ (L t : Nat), prodD sd t L ≤ 10 ^ L
  | 0, _ => by show (1 : Int) ≤ 10 ^ 0; decide
  | L + 1, t => by
    have h1 := prodD_le h L (t + 1)
    have h2 : sd t * prodD sd (t + 1) L ≤ 10 * prodD sd (t + 1) L := Int.mul_le_mul_of_nonneg_right (h.d1 t) (Int.le_of_lt (prodD_pos h L (t + 1)))
    show sd t * prodD sd (t + 1) L ≤ 10 ^ (L + 1)
    rw [Int.pow_succ]
    omega
theorem Rep.one {D : Int} (h : 0 < D) : Rep (rN 1 1) D D := by
  rw [rN_one]
  exact ⟨by decide, by rw [den_one]; simp, by decide, by omega, by omega, h⟩
theorem Rep.zero {D : Int} (h : 0 < D) : Rep (0, 0) 0 D := ⟨by decide, by simp, by decide, by omega, by omega, h⟩
theorem fromRep {sn sd : Nat → Int} (h : Srv sn sd) (nn : Nat) : ∀ (L a b : Nat), a ≤ nn → b ≤ nn → a + b + L + 1 = 2 * nn → Rep (fromV sn sd nn L a b) (fromU sn sd nn L a b) (prodD sd (a + b) L)
  | 0, a, b, ha, hb, hs => by
    unfold fromV fromU prodD
    by_cases e : a = nn
    · rw [if_pos e, if_pos e]; exact Rep.one (by decide)
    · rw [if_neg e, if_neg e]; exact Rep.zero (by decide)
  | L + 1, a, b, ha, hb, hs => by
    unfold fromV fromU
    by_cases e : a = nn
    · rw [if_pos e, if_pos e]; exact Rep.one (prodD_pos h _ _)
    · rw [if_neg e, if_neg e]
      by_cases e2 : b = nn
      · rw [if_pos e2, if_pos e2]; exact Rep.zero (prodD_pos h _ _)
      · rw [if_neg e2, if_neg e2]
        have h1 := fromRep h nn L (a + 1) b (by omega) hb (by omega)
        have h2 := fromRep h nn L a (b + 1) ha (by omega) (by omega)
        rw [show a + 1 + b = a + b + 1 by omega] at h1
        rw [show a + (b + 1) = a + b + 1 by omega] at h2
        exact Rep.mix (Rep.new (h.n0 _) (h.n1 _) (h.d0 _)) h1 h2
/-- what the closure holds -/
structure EnvF (bt bo bp bf : Nat) (nn on od tn td : Int) (w : World) : Prop where
  et : w.heap[bt]? = some (.cells #[.int .i64 nn] 3 (0, 0))
  eo : w.heap[bo]? = some (.cells #[.int .i64 on, .int .i64 od] 26 (0, 0))
  ep : w.heap[bp]? = some (.cells #[.int .i64 tn, .int .i64 td] 26 (0, 0))
  ef : w.heap[bf]? = some (.cells #[.func (.func 28) #[] #[.pointer (some ⟨bt, 0, none⟩), .pointer (some ⟨bo, 0, none⟩), .pointer (some ⟨bp, 0, none⟩), .pointer (some ⟨bf, 0, none⟩)]] 50 (0, 0))
theorem EnvF.below {bt bo bp bf : Nat} {nn on od tn td : Int} {w w' : World} (h : EnvF bt bo bp bf nn on od tn td w) (hb : Below w.heap.size w w') : EnvF bt bo bp bf nn on od tn td w' :=
  ⟨blk_below h.et hb, blk_below h.eo hb, blk_below h.ep hb, blk_below h.ef hb⟩
theorem zeroQ (w : World) : IsQ (w.alloc (.cells #[.bool false, .slice none 0 0, .slice none 0 0] 43 (0, 0))) w.heap.size 0 0 := by
  refine ⟨_, _, blk_new w _, ?_, ?_⟩
  · show Dg _ _ (dig 0)
    rw [dig_zero]; exact Dg.nil _
  · rw [dig_zero]; exact Dg.nil _
set_option maxHeartbeats 8000000 in
set_option maxRecDepth 100000 in
theorem from.calls (D22 : Div22) (bt bo bp bf nn : Nat) (on od tn td : Int) (hS : Srv (svN on tn) (svN od td)) (hto : nn ≤ 4) : ∀ (L a b : Nat) (w : World), EnvF bt bo bp bf (nn : Int) on od tn td w → a ≤ nn → b ≤ nn → a + b + L + 1 = 2 * nn →
    Calls Try.prog 28 #[.int .i64 (a : Int), .int .i64 (b : Int), .pointer (some ⟨bt, 0, none⟩), .pointer (some ⟨bo, 0, none⟩), .pointer (some ⟨bp, 0, none⟩), .pointer (some ⟨bf, 0, none⟩)] w fun e w' =>
      ∃ r, e = .returned (.pointer (some ⟨r, 0, none⟩)) ∧ IsQ w' r (fromV (svN on tn) (svN od td) nn L a b).1 (fromV (svN on tn) (svN od td) nn L a b).2 ∧ w.heap.size ≤ r ∧ Below w.heap.size w w' := by
  intro L
  induction L with
  | zero =>
    intro a b w hE ha hb hs
    have hu26 := Try.underlying26
    have ct : w.cell? ⟨bt, 0, none⟩ = some (.int .i64 (nn : Int)) := (blk_cell hE.et 0).trans rfl
    have HE := Aside0.mk hE
    clear hE
    by_cases e : a = nn
    · have hv : fromV (svN on tn) (svN od td) nn 0 a b = rN 1 1 := by unfold fromV; rw [if_pos e]
      rw [hv]
      have e1 : ((a : Int) == (nn : Int)) = true := by rw [e]; simp
      clear e hs ha hb
      go_enter Try.func28, Try.ntmps28
      go_wp2_with fail
      refine (newQ.calls w 1 1 (by decide) (by decide) (by decide) (by decide)).mono ?_
      rintro e w1 ⟨r, rfl, hq, hg, hb⟩
      have Q1 := Aside0.mk hq
      have B1 := Aside0.mk hb
      clear hq hb
      go_wp2
      go_ret
      exact ⟨_, rfl, Q1.out, hg, B1.out⟩
    · have e2 : b = nn := by omega
      have hv : fromV (svN on tn) (svN od td) nn 0 a b = (0, 0) := by unfold fromV; rw [if_neg e]
      rw [hv]
      have e1 : ((a : Int) == (nn : Int)) = false := by rw [beq_eq_false_iff_ne]; omega
      have e3 : ((b : Int) == (nn : Int)) = true := by rw [e2]; simp
      clear e e2 hs ha hb
      go_enter Try.func28, Try.ntmps28
      go_wp2
      go_ret
      exact ⟨_, rfl, zeroQ w, Nat.le_refl _, below_alloc (Below.refl _ _) _⟩
  | succ L ih =>
    intro a b w hE ha hb hs
    have hu26 := Try.underlying26
    have ct : w.cell? ⟨bt, 0, none⟩ = some (.int .i64 (nn : Int)) := (blk_cell hE.et 0).trans rfl
    have HE := Aside0.mk hE
    have IH := Aside0.mk ih
    clear ih
    by_cases e : a = nn
    · have hv : fromV (svN on tn) (svN od td) nn (L + 1) a b = rN 1 1 := by unfold fromV; rw [if_pos e]
      rw [hv]
      have e1 : ((a : Int) == (nn : Int)) = true := by rw [e]; simp
      clear e hs ha hb
      go_enter Try.func28, Try.ntmps28
      go_wp2_with fail
      refine (newQ.calls w 1 1 (by decide) (by decide) (by decide) (by decide)).mono ?_
      rintro e w1 ⟨r, rfl, hq, hg, hb⟩
      have Q1 := Aside0.mk hq
      have B1 := Aside0.mk hb
      clear hq hb
      go_wp2
      go_ret
      exact ⟨_, rfl, Q1.out, hg, B1.out⟩
    · by_cases e2 : b = nn
      · have hv : fromV (svN on tn) (svN od td) nn (L + 1) a b = (0, 0) := by unfold fromV; rw [if_neg e, if_pos e2]
        rw [hv]
        have e1 : ((a : Int) == (nn : Int)) = false := by rw [beq_eq_false_iff_ne]; omega
        have e3 : ((b : Int) == (nn : Int)) = true := by rw [e2]; simp
        clear e e2 hs ha hb
        go_enter Try.func28, Try.ntmps28
        go_wp2
        go_ret
        exact ⟨_, rfl, zeroQ w, Nat.le_refl _, below_alloc (Below.refl _ _) _⟩
      · have hv : fromV (svN on tn) (svN od td) nn (L + 1) a b = mixV (rN (svN on tn (a + b)) (svN od td (a + b))) (fromV (svN on tn) (svN od td) nn L (a + 1) b) (fromV (svN on tn) (svN od td) nn L a (b + 1)) := by
          conv => lhs; unfold fromV
          rw [if_neg e, if_neg e2]
        rw [hv]
        have e1 : ((a : Int) == (nn : Int)) = false := by rw [beq_eq_false_iff_ne]; omega
        have e3 : ((b : Int) == (nn : Int)) = false := by rw [beq_eq_false_iff_ne]; omega
        have co0 : w.cell? ⟨bo, 0, none⟩ = some (.int .i64 on) := (blk_cell HE.out.eo 0).trans rfl
        have co1 : w.cell? ⟨bo, 1, none⟩ = some (.int .i64 od) := (blk_cell HE.out.eo 1).trans rfl
        have cp0 : w.cell? ⟨bp, 0, none⟩ = some (.int .i64 tn) := (blk_cell HE.out.ep 0).trans rfl
        have cp1 : w.cell? ⟨bp, 1, none⟩ = some (.int .i64 td) := (blk_cell HE.out.ep 1).trans rfl
        have hnum : 0 ≤ svN on tn (a + b) ∧ svN on tn (a + b) ≤ svN od td (a + b) ∧ 0 < svN od td (a + b) ∧ svN od td (a + b) ≤ 10 := ⟨hS.n0 _, hS.n1 _, hS.d0 _, hS.d1 _⟩
        have h1 := fromRep hS nn L (a + 1) b (by omega) hb (by omega)
        have h2 := fromRep hS nn L a (b + 1) ha (by omega) (by omega)
        rw [show a + 1 + b = a + b + 1 by omega] at h1
        rw [show a + (b + 1) = a + b + 1 by omega] at h2
        have hD6 : prodD (svN od td) (a + b + 1) L ≤ 1000000 := by
          have h3 := prodD_le hS L (a + b + 1)
          have h4 : (10 : Int) ^ L ≤ 10 ^ 6 := by
            have h5 : (10 : Nat) ^ L ≤ 10 ^ 6 := Nat.pow_le_pow_right (by decide) (by omega)
            have h6 : ((10 ^ L : Nat) : Int) ≤ ((10 ^ 6 : Nat) : Int) := Int.ofNat_le.2 h5
            simpa using h6
          have h7 : (10 : Int) ^ 6 = 1000000 := by decide
          omega
        have HD6 := Aside0.mk hD6
        have hab1 : a + 1 ≤ nn ∧ b + 1 ≤ nn := by omega
        have HAB := Aside0.mk (show a ≤ nn ∧ b + 1 ≤ nn ∧ a + (b + 1) + L + 1 = 2 * nn ∧ a + 1 ≤ nn ∧ b ≤ nn ∧ a + 1 + b + L + 1 = 2 * nn from ⟨ha, hab1.2, by omega, hab1.1, hb, by omega⟩)
        have ca0 : ∀ o : Obj, (w.alloc o).cell? ⟨bp, 0, none⟩ = some (.int .i64 tn) := fun o => pw_cell_below (below_alloc (Below.refl _ w) o) cp0
        have ca1 : ∀ o : Obj, (w.alloc o).cell? ⟨bp, 1, none⟩ = some (.int .i64 td) := fun o => pw_cell_below (below_alloc (Below.refl _ w) o) cp1
        have wa : IntKind.i64.wrap ((a : Int) + 1) = ((a + 1 : Nat) : Int) := by rw [i64_w, w64_of (by omega) (by omega)]; omega
        have wb : IntKind.i64.wrap ((b : Int) + 1) = ((b + 1 : Nat) : Int) := by rw [i64_w, w64_of (by omega) (by omega)]; omega
        clear hD6 hab1
        by_cases hpar : (a + b) % 2 = 1
        · have hsv : svN on tn (a + b) = tn ∧ svN od td (a + b) = td := by unfold svN; constructor <;> exact if_pos hpar
          rw [hsv.1, hsv.2]
          rw [hsv.1, hsv.2] at hnum
          have dpar : (((a : Int) + (b : Int)) % 2 == 1) = true := by rw [beq_iff_eq]; omega
          have HN := Aside0.mk (show 0 ≤ tn ∧ tn < 4294967296 ∧ 0 < td ∧ td < 4294967296 from ⟨hnum.1, by omega, by omega, by omega⟩)
          have rpp := Rep.new hnum.1 hnum.2.1 hnum.2.2.1
          have HR := Aside0.mk (And.intro rpp (And.intro h1 h2))
          have HD10 := Aside0.mk hnum.2.2.2
          have HB0 := Aside0.mk (below_alloc (Below.refl _ w) (.cells #[.int .i64 tn, .int .i64 td] 26 (0, 0)))
          have HW := Aside0.mk (blk_new w (.cells #[.int .i64 tn, .int .i64 td] 26 (0, 0)))
          have HEW := Aside0.mk (HE.out.below HB0.out)
          clear hpar hsv hnum h1 h2 rpp hE
          go_enter Try.func28, Try.ntmps28
          go_wp2
          generalize w.alloc (.cells #[.int .i64 tn, .int .i64 td] 26) = W at HW HB0 HEW ⊢
          have c0 : W.cell? ⟨w.heap.size, 0, none⟩ = some (.int .i64 tn) := (blk_cell HW.out 0).trans rfl
          have c1 : W.cell? ⟨w.heap.size, 1, none⟩ = some (.int .i64 td) := (blk_cell HW.out 1).trans rfl
          have cf : W.cell? ⟨bf, 0, none⟩ = some (.func (.func 28) #[] #[.pointer (some ⟨bt, 0, none⟩), .pointer (some ⟨bo, 0, none⟩), .pointer (some ⟨bp, 0, none⟩), .pointer (some ⟨bf, 0, none⟩)]) := (blk_cell HEW.out.ef 0).trans rfl
          go_region_held3 (fun w' => w'.cell? ⟨w.heap.size, 0, none⟩ = some (.int .i64 tn) ∧ w'.cell? ⟨w.heap.size, 1, none⟩ = some (.int .i64 td) ∧ w'.cell? ⟨bf, 0, none⟩ = some (.func (.func 28) #[] #[.pointer (some ⟨bt, 0, none⟩), .pointer (some ⟨bo, 0, none⟩), .pointer (some ⟨bp, 0, none⟩), .pointer (some ⟨bf, 0, none⟩)]))
            (first | exact ⟨c0, c1, cf⟩ | exact ⟨k10, k11, k1f⟩ | exact ⟨k20, k21, k2f⟩ | exact ⟨k30, k31, k3f⟩ | exact ⟨k40, k41, k4f⟩) (first
            | (go_at_call 29
               refine (mix.calls D22 w3 p x y (rN tn td) _ _ P3.out X3.out Y3.out HR.out.1 HR.out.2.1 HR.out.2.2 HD10.out HD6.out).mono ?_
               rintro e w4 ⟨r, rfl, hq, hg, hb⟩
               have k40 := cells_below hb k30
               have k41 := cells_below hb k31
               have k4f := cells_below hb k3f
               have Q4 := Aside0.mk hq
               have G4 := Aside0.mk hg
               have B4 := Aside0.mk (below_then B3.out B3.out.size hb)
               clear hq hg hb)
            | (go_at_call 28
               refine (IH.out a (b + 1) w2 E2.out HAB.out.1 HAB.out.2.1 HAB.out.2.2.1).mono ?_
               rintro e w3 ⟨y, rfl, hq, hg, hb⟩
               have k30 := cells_below hb k20
               have k31 := cells_below hb k21
               have k3f := cells_below hb k2f
               have Y3 := Aside0.mk hq
               have X3 := Aside0.mk (X2.out.below hb)
               have P3 := Aside0.mk (P2.out.below hb)
               have B3 := Aside0.mk (below_then B2.out B2.out.size hb)
               clear hq hg hb)
            | (go_at_call 28
               refine (IH.out (a + 1) b w1 E1.out HAB.out.2.2.2.1 HAB.out.2.2.2.2.1 HAB.out.2.2.2.2.2).mono ?_
               rintro e w2 ⟨x, rfl, hq, hg, hb⟩
               have k20 := cells_below hb k10
               have k21 := cells_below hb k11
               have k2f := cells_below hb k1f
               have X2 := Aside0.mk hq
               have P2 := Aside0.mk (P1.out.below hb)
               have E2 := Aside0.mk (E1.out.below hb)
               have B2 := Aside0.mk (below_then B1.out B1.out.size hb)
               clear hq hg hb)
            | (go_at_call 30
               refine (rat.calls W.drew tn td HN.out.1 HN.out.2.1 HN.out.2.2.1 HN.out.2.2.2).mono ?_
               rintro e w1 ⟨p, rfl, hq, hg, hb⟩
               have hb' : Below W.heap.size W w1 := below_then (below_drew1 (Below.refl _ W)) (Nat.le_refl _) hb
               have k10 := cells_below hb' c0
               have k11 := cells_below hb' c1
               have k1f := cells_below hb' cf
               have P1 := Aside0.mk hq
               have E1 := Aside0.mk (HEW.out.below hb')
               have B1 := Aside0.mk (below_then HB0.out HB0.out.size hb')
               clear hq hg hb hb'))
          go_wp2
          go_ret
          exact ⟨_, rfl, Q4.out, Nat.le_trans B3.out.size G4.out, B4.out⟩
        · have hsv : svN on tn (a + b) = on ∧ svN od td (a + b) = od := by unfold svN; constructor <;> exact if_neg hpar
          rw [hsv.1, hsv.2]
          rw [hsv.1, hsv.2] at hnum
          have dpar : (((a : Int) + (b : Int)) % 2 == 1) = false := by rw [beq_eq_false_iff_ne]; omega
          have HN := Aside0.mk (show 0 ≤ on ∧ on < 4294967296 ∧ 0 < od ∧ od < 4294967296 from ⟨hnum.1, by omega, by omega, by omega⟩)
          have rpp := Rep.new hnum.1 hnum.2.1 hnum.2.2.1
          have HR := Aside0.mk (And.intro rpp (And.intro h1 h2))
          have HD10 := Aside0.mk hnum.2.2.2
          have HB0 := Aside0.mk (below_alloc (Below.refl _ w) (.cells #[.int .i64 on, .int .i64 od] 26 (0, 0)))
          have HW := Aside0.mk (blk_new w (.cells #[.int .i64 on, .int .i64 od] 26 (0, 0)))
          have HEW := Aside0.mk (HE.out.below HB0.out)
          clear hpar hsv hnum h1 h2 rpp hE
          go_enter Try.func28, Try.ntmps28
          go_wp2
          generalize w.alloc (.cells #[.int .i64 on, .int .i64 od] 26) = W at HW HB0 HEW ⊢
          have c0 : W.cell? ⟨w.heap.size, 0, none⟩ = some (.int .i64 on) := (blk_cell HW.out 0).trans rfl
          have c1 : W.cell? ⟨w.heap.size, 1, none⟩ = some (.int .i64 od) := (blk_cell HW.out 1).trans rfl
          have cf : W.cell? ⟨bf, 0, none⟩ = some (.func (.func 28) #[] #[.pointer (some ⟨bt, 0, none⟩), .pointer (some ⟨bo, 0, none⟩), .pointer (some ⟨bp, 0, none⟩), .pointer (some ⟨bf, 0, none⟩)]) := (blk_cell HEW.out.ef 0).trans rfl
          go_region_held3 (fun w' => w'.cell? ⟨w.heap.size, 0, none⟩ = some (.int .i64 on) ∧ w'.cell? ⟨w.heap.size, 1, none⟩ = some (.int .i64 od) ∧ w'.cell? ⟨bf, 0, none⟩ = some (.func (.func 28) #[] #[.pointer (some ⟨bt, 0, none⟩), .pointer (some ⟨bo, 0, none⟩), .pointer (some ⟨bp, 0, none⟩), .pointer (some ⟨bf, 0, none⟩)]))
            (first | exact ⟨c0, c1, cf⟩ | exact ⟨k10, k11, k1f⟩ | exact ⟨k20, k21, k2f⟩ | exact ⟨k30, k31, k3f⟩ | exact ⟨k40, k41, k4f⟩) (first
            | (go_at_call 29
               refine (mix.calls D22 w3 p x y (rN on od) _ _ P3.out X3.out Y3.out HR.out.1 HR.out.2.1 HR.out.2.2 HD10.out HD6.out).mono ?_
               rintro e w4 ⟨r, rfl, hq, hg, hb⟩
               have k40 := cells_below hb k30
               have k41 := cells_below hb k31
               have k4f := cells_below hb k3f
               have Q4 := Aside0.mk hq
               have G4 := Aside0.mk hg
               have B4 := Aside0.mk (below_then B3.out B3.out.size hb)
               clear hq hg hb)
            | (go_at_call 28
               refine (IH.out a (b + 1) w2 E2.out HAB.out.1 HAB.out.2.1 HAB.out.2.2.1).mono ?_
               rintro e w3 ⟨y, rfl, hq, hg, hb⟩
               have k30 := cells_below hb k20
               have k31 := cells_below hb k21
               have k3f := cells_below hb k2f
               have Y3 := Aside0.mk hq
               have X3 := Aside0.mk (X2.out.below hb)
               have P3 := Aside0.mk (P2.out.below hb)
               have B3 := Aside0.mk (below_then B2.out B2.out.size hb)
               clear hq hg hb)
            | (go_at_call 28
               refine (IH.out (a + 1) b w1 E1.out HAB.out.2.2.2.1 HAB.out.2.2.2.2.1 HAB.out.2.2.2.2.2).mono ?_
               rintro e w2 ⟨x, rfl, hq, hg, hb⟩
               have k20 := cells_below hb k10
               have k21 := cells_below hb k11
               have k2f := cells_below hb k1f
               have X2 := Aside0.mk hq
               have P2 := Aside0.mk (P1.out.below hb)
               have E2 := Aside0.mk (E1.out.below hb)
               have B2 := Aside0.mk (below_then B1.out B1.out.size hb)
               clear hq hg hb)
            | (go_at_call 30
               refine (rat.calls W.drew on od HN.out.1 HN.out.2.1 HN.out.2.2.1 HN.out.2.2.2).mono ?_
               rintro e w1 ⟨p, rfl, hq, hg, hb⟩
               have hb' : Below W.heap.size W w1 := below_then (below_drew1 (Below.refl _ W)) (Nat.le_refl _) hb
               have k10 := cells_below hb' c0
               have k11 := cells_below hb' c1
               have k1f := cells_below hb' cf
               have P1 := Aside0.mk hq
               have E1 := Aside0.mk (HEW.out.below hb')
               have B1 := Aside0.mk (below_then HB0.out HB0.out.size hb')
               clear hq hg hb hb'))
          go_wp2
          go_ret
          exact ⟨_, rfl, Q4.out, Nat.le_trans B3.out.size G4.out, B4.out⟩
end Go.Proofs.Ytmkjkcfmjfeheaa.QFnExactMeanDeuce
