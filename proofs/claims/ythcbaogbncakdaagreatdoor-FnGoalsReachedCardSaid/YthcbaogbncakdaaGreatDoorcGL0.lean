/- What the functions that laws.FnGoalsReached asks answer, named; a piece of the law's code. No condition. -/
import Derived.Test.YthcbaogbncakdaaGreatDoorcQFnGoalsReachedx
import Derived.Test.YthcbaogbncakdaaGreatDoorcGFG
namespace Go.Proofs.YthcbaogbncakdaaGreatDoor.QFnGoalsReached
open Go.RowKit Go.Proofs.YthcbaogbncakdaaGreatDoorW.PrintWords Go.Proofs.YthcbaogbncakdaaGreatDoorW.PrintLast Go.Proofs.YthcbaogbncakdaaGreatDoorW.PrintMore
set_option linter.unusedVariables false
set_option linter.unusedSimpArgs false
def piece : List Nat → Code → Code
  | 0 :: r, .seq a _ => piece r a
  | 1 :: r, .seq _ b => piece r b
  | 2 :: r, .cond _ a _ => piece r a
  | 3 :: r, .cond _ _ b => piece r b
  | 4 :: r, .block _ a => piece r a
  | 4 :: r, .loop a => piece r a
  | 4 :: r, .scope a => piece r a
  | _, c => c
structure TF (l : List Int) (s : Int) (can seven : Bool) (lists orders : Int) (none_ : List Int) (miss : Int) : Prop where
  len : 1 ≤ l.length ∧ l.length ≤ 5
  sc : 0 ≤ s ∧ s ≤ 200
  lis : decide (0 < lists) = can
  ord : seven = true → decide (0 < orders) = can ∧ lists ≤ orders
  rises : ∃ k, laws_bRises.f k none_ = some true
  has : ∃ k, laws_bHas.f k none_ s = some (!can)
  g : ∃ g, rd l ((l.length : Int) - 1) = g ∧ 1 ≤ g ∧ g ≤ 20 ∧ 1 ≤ miss ∧ miss ≤ 201 ∧ s < miss * g ∧ (miss - 1) * g ≤ s
structure OF (l : List Int) (s : Int) (first : List Int) (few : Int) (X Y : Nat → Int) : Prop where
  len : 1 ≤ l.length ∧ l.length ≤ 5
  same : first.length = l.length
  x0 : X 0 = 0
  y0 : Y 0 = 0
  xb : ∀ i, i ≤ l.length → 0 ≤ X i ∧ X i ≤ 1000
  yb : ∀ i, i ≤ l.length → 0 ≤ Y i ∧ Y i ≤ 1000
  each : ∀ i : Nat, i < l.length → 0 ≤ rd first i ∧ rd first i ≤ 1000 ∧ 0 ≤ rd first i * rd l i ∧ rd first i * rd l i ≤ 1000 ∧ X (i + 1) = X i + rd first i * rd l i ∧ Y (i + 1) = Y i + rd first i
  xe : X l.length = s
  ye : Y l.length = few
  lo : 0 ≤ few * rd l 0 ∧ few * rd l 0 ≤ s
  hi : few * rd l ((l.length : Int) - 1) ≤ 1000000 ∧ s ≤ few * rd l ((l.length : Int) - 1)
  sb : 0 ≤ s ∧ s ≤ 1000
structure A1 (l0 l : List Int) (s : Int) (first : List Int) (ok can three seven : Bool) (few lists orders miss : Int) (none_ : List Int) : Prop where
  draw : ∃ k, spec_DrawFirstGoals.f k l0 = some (l, s)
  a6 : ∃ k, impl_FirstGoals.f k l s = some (first, ok)
  a7 : ∃ k, spec_FirstGoals.f k l s = some (first, ok)
  a8 : ∃ k, impl_FewestGoals.f k l s = some (few, ok)
  a9 : ∃ k, spec_FewestGoals.f k l s = some (few, ok)
  a10 : ∃ k, impl_CanReach.f k l s = some (can, three)
  a11 : ∃ k, spec_CanReach.f k l s = some (can, three)
  a12 : ∃ k, impl_CountGoalLists.f k l s = some (lists, three)
  a13 : ∃ k, spec_CountGoalLists.f k l s = some (lists, three)
  a14 : ∃ k, impl_CountGoalOrders.f k l s = some (orders, seven)
  a15 : ∃ k, spec_CountGoalOrders.f k l s = some (orders, seven)
  a16 : ∃ k, impl_NotReached.f k l s = some (none_, three)
  a17 : ∃ k, spec_NotReached.f k l s = some (none_, three)
  a18 : ∃ k, impl_GoalsMissing.f k l s = some (miss, three)
  a19 : ∃ k, spec_GoalsMissing.f k l s = some (miss, three)
  sF : ∃ k, laws_bSame.f k first first = some true
  sN : ∃ k, laws_bSame.f k none_ none_ = some true
  rel : ok = (three && can) ∧ (seven = true → three = true)
  tf : three = true → TF l s can seven lists orders none_ miss
  of_ : ∃ X Y, ok = true → OF l s first few X Y
end Go.Proofs.YthcbaogbncakdaaGreatDoor.QFnGoalsReached
