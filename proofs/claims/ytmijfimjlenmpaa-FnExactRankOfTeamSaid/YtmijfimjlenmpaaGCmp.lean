/- The closure of impl.LeagueTable, walked: by which of two teams stands ahead. -/
import Derived.Test.YtmijfimjlenmpaaGTG
import Derived.BigQuiet
namespace Go.Proofs.Ytmijfimjlenmpaa.QFnExactMostPoints
open Go.RowKit Go.Proofs.YtmijfimjlenmpaaW.PrintWords Go.Proofs.YtmijfimjlenmpaaW.PrintLast Go.Proofs.YtmijfimjlenmpaaW.PrintMore
set_option linter.unusedVariables false
set_option linter.unusedSimpArgs false
def gdf (gs : List (List Int)) (a : Int) : Int := wrap64 (rd (rd_L3 gs a) 0 - rd (rd_L3 gs a) 1)
def cmpT (pts : List Int) (gs : List (List Int)) (a b : Int) : Int :=
  if rd pts a = rd pts b then (if gdf gs a = gdf gs b then (if rd (rd_L3 gs a) 0 = rd (rd_L3 gs b) 0 then wrap64 (a - b) else wrap64 (rd (rd_L3 gs b) 0 - rd (rd_L3 gs a) 0)) else wrap64 (gdf gs b - gdf gs a)) else wrap64 (rd pts b - rd pts a)
/-- What the closure reads, at one team. -/
structure AtTeam (pts : List Int) (gs : List (List Int)) (a : Int) : Prop where
  a0 : 0 ≤ a
  a1 : a < (pts.length : Int)
  a2 : a < (gs.length : Int)
  a3 : (rd_L3 gs a).length = 2
set_option maxHeartbeats 8000000 in
set_option maxRecDepth 100000 in
theorem ahead.calls (pts : List Int) (gs : List (List Int)) (AP AG : Option Addr) (cp cg bp bg : Nat) (a b : Int) (w : World)
    (ep : w.cell? ⟨bp, 0, none⟩ = some (.slice AP pts.length cp)) (eg : w.cell? ⟨bg, 0, none⟩ = some (.slice AG gs.length cg))
    (hp : Kd.C (Kd.int .i64) w AP pts.length pts) (hg : Kd.C (Kd.slice 3 (Kd.int .i64)) w AG gs.length gs) (ta : AtTeam pts gs a) (tb : AtTeam pts gs b) :
    Calls Try.prog 46 #[.int .i64 a, .int .i64 b, .pointer (some ⟨bp, 0, none⟩), .pointer (some ⟨bg, 0, none⟩)] w fun e w' => e = .returned (.int .i64 (cmpT pts gs a b)) ∧ ∃ q, w' = w.drewN q := by
  obtain ⟨a0, a1, a2, a3⟩ := ta
  obtain ⟨b0, b1, b2, b3⟩ := tb
  obtain ⟨ap, e1, pa⟩ := Kd.at_int hp a a0 a1
  subst e1
  obtain ⟨ap', e1, pb⟩ := Kd.at_int hp b b0 b1
  cases e1
  obtain ⟨ag, Ra, ca, e2, ga, la, ra⟩ := at_L3 hg a a0 a2
  subst e2
  obtain ⟨ag', Rb, cb, e2, gb, lb, rb⟩ := at_L3 hg b b0 b2
  cases e2
  obtain ⟨xa, e3, xa0⟩ := Kd.at_int ra 0 (by omega) (by omega)
  subst e3
  obtain ⟨xa', e3, xa1⟩ := Kd.at_int ra 1 (by omega) (by omega)
  cases e3
  obtain ⟨xb, e4, xb0⟩ := Kd.at_int rb 0 (by omega) (by omega)
  subst e4
  obtain ⟨xb', e4, xb1⟩ := Kd.at_int rb 1 (by omega) (by omega)
  cases e4
  rw [show ((0 : Int)).toNat = 0 from rfl] at xa0 xb0
  rw [Addr.add_zero'] at xa0 xb0
  rw [show ((1 : Int)).toNat = 1 from rfl] at xa1 xb1
  rw [a3] at ga
  rw [b3] at gb
  clear hp hg ra rb la lb a3 b3
  replace xa1 : w.cell? ⟨xa.block, xa.off + 1, none⟩ = some (.int .i64 (rd (rd_L3 gs a) 1)) := xa1
  replace xb1 : w.cell? ⟨xb.block, xb.off + 1, none⟩ = some (.int .i64 (rd (rd_L3 gs b) 1)) := xb1
  obtain ⟨va, hva⟩ : ∃ v, rd pts a = v := ⟨_, rfl⟩
  obtain ⟨vb, hvb⟩ : ∃ v, rd pts b = v := ⟨_, rfl⟩
  obtain ⟨ua0, hua0⟩ : ∃ v, rd (rd_L3 gs a) 0 = v := ⟨_, rfl⟩
  obtain ⟨ua1, hua1⟩ : ∃ v, rd (rd_L3 gs a) 1 = v := ⟨_, rfl⟩
  obtain ⟨ub0, hub0⟩ : ∃ v, rd (rd_L3 gs b) 0 = v := ⟨_, rfl⟩
  obtain ⟨ub1, hub1⟩ : ∃ v, rd (rd_L3 gs b) 1 = v := ⟨_, rfl⟩
  have hc : cmpT pts gs a b = if va = vb then (if wrap64 (ua0 - ua1) = wrap64 (ub0 - ub1) then (if ua0 = ub0 then wrap64 (a - b) else wrap64 (ub0 - ua0)) else wrap64 (wrap64 (ub0 - ub1) - wrap64 (ua0 - ua1))) else wrap64 (vb - va) := by
    unfold cmpT gdf
    rw [hva, hvb, hua0, hua1, hub0, hub1]
  rw [hva] at pa
  rw [hvb] at pb
  rw [hua0] at xa0
  rw [hua1] at xa1
  rw [hub0] at xb0
  rw [hub1] at xb1
  rw [hc]
  clear hc hva hvb hua0 hua1 hub0 hub1
  replace a0 := eq_true a0
  replace a1 := eq_true a1
  replace a2 := eq_true a2
  replace b0 := eq_true b0
  replace b1 := eq_true b1
  replace b2 := eq_true b2
  by_cases c : va = vb
  · rw [if_pos c]
    have cA : (va == vb) = true := beq_iff_eq.2 c
    have cB : (va != vb) = false := by rw [bne, cA]; rfl
    clear c
    by_cases d : wrap64 (ua0 - ua1) = wrap64 (ub0 - ub1)
    · rw [if_pos d]
      have dA : (wrap64 (ua0 - ua1) == wrap64 (ub0 - ub1)) = true := beq_iff_eq.2 d
      have dB : (wrap64 (ua0 - ua1) != wrap64 (ub0 - ub1)) = false := by rw [bne, dA]; rfl
      clear d
      by_cases f : ua0 = ub0
      · rw [if_pos f]
        have fA : (ua0 == ub0) = true := beq_iff_eq.2 f
        have fB : (ua0 != ub0) = false := by rw [bne, fA]; rfl
        clear f
        go_enter Try.func46, Try.ntmps46
        go_wp2
        repeat (go_quiet (fail); try go_wp2)
        go_ret
        exact ⟨by first | rfl | (simp; done) | (simp [*]; done), (show Drawn0 _ _ from by repeat (first | exact Drawn0.refl _ | apply Drawn0.step)).out⟩
      · rw [if_neg f]
        have fA : (ua0 == ub0) = false := beq_eq_false_iff_ne.2 f
        have fB : (ua0 != ub0) = true := bne_iff_ne.2 f
        clear f
        go_enter Try.func46, Try.ntmps46
        go_wp2
        repeat (go_quiet (fail); try go_wp2)
        go_ret
        exact ⟨by first | rfl | (simp; done) | (simp [*]; done), (show Drawn0 _ _ from by repeat (first | exact Drawn0.refl _ | apply Drawn0.step)).out⟩
    · rw [if_neg d]
      have dA : (wrap64 (ua0 - ua1) == wrap64 (ub0 - ub1)) = false := beq_eq_false_iff_ne.2 d
      have dB : (wrap64 (ua0 - ua1) != wrap64 (ub0 - ub1)) = true := bne_iff_ne.2 d
      clear d
      go_enter Try.func46, Try.ntmps46
      go_wp2
      repeat (go_quiet (fail); try go_wp2)
      go_ret
      exact ⟨by first | rfl | (simp; done) | (simp [*]; done), (show Drawn0 _ _ from by repeat (first | exact Drawn0.refl _ | apply Drawn0.step)).out⟩
  · rw [if_neg c]
    have cA : (va == vb) = false := beq_eq_false_iff_ne.2 c
    have cB : (va != vb) = true := bne_iff_ne.2 c
    clear c
    go_enter Try.func46, Try.ntmps46
    go_wp2
    repeat (go_quiet (fail); try go_wp2)
    go_ret
    exact ⟨by first | rfl | (simp; done) | (simp [*]; done), (show Drawn0 _ _ from by repeat (first | exact Drawn0.refl _ | apply Drawn0.step)).out⟩
end Go.Proofs.Ytmijfimjlenmpaa.QFnExactMostPoints
