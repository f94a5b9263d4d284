/- What the functions that laws.FnDartsFinish asks answer, named; a piece of the law's code. No condition. -/
import Derived.Test.YtacmfgbeaoalfaacQFnDartsFinishx8
import Derived.Test.YtacmfgbeaoalfaacQFnDartsFinishx9
import Derived.Test.YtacmfgbeaoalfaacQFnDartsFinishx10
import Derived.Test.YtacmfgbeaoalfaacQFnDartsFinishx11
import Derived.Test.YtacmfgbeaoalfaacQFnDartsFinishx12
namespace Go.Proofs.Ytacmfgbeaoalfaa.QFnDartsFinish
open Go.RowKit Go.Proofs.YtacmfgbeaoalfaaW.PrintWords Go.Proofs.YtacmfgbeaoalfaaW.PrintLast Go.Proofs.YtacmfgbeaoalfaaW.PrintMore
set_option linter.unusedVariables false
set_option linter.unusedSimpArgs false
def piece : List Nat → Code → Code
  | 0 :: r, .seq a _ => piece r a
  | 1 :: r, .seq _ b => piece r b
  | 2 :: r, .cond _ a _ => piece r a
  | 3 :: r, .cond _ _ b => piece r b
  | 4 :: r, .block _ a => piece r a
  | 4 :: r, .loop a => piece r a
  | 4 :: r, .scope a => piece r a
  | _, c => c
structure TF (left darts : Int) (can score : Bool) (count ways : Int) (none_ : List Int) : Prop where
  sc : decide (0 < ways) = score
  le : count ≤ ways
  pos : 0 < count → can = true
  rises : ∃ k, laws_bRises.f k none_ = some true
  has : ∃ k, laws_bHas.f k none_ left = some (decide (1 < left) && !can)
  db : 1 ≤ darts ∧ darts ≤ 3
  less : 1 < darts → ∃ ls, impl_CanFinish.f left (darts - 1) = some (ls, true) ∧ (ls = true → can = true) ∧ (can = true → ls = false → 1 ≤ count)
structure OF (left darts : Int) (first : List S43) : Prop where
  all : ∃ k, laws_bAll.f k first = some (left, true)
  few : impl_FewestDarts.f left = some ((first.length : Int), true)
  len : 1 ≤ first.length ∧ (first.length : Int) ≤ darts ∧ darts ≤ 3
  last : (rd_T43 first ((first.length : Int) - 1)).f1 = 2
  la : ∃ k, impl_LeftAfter.f k left first = some (0, true)
  ib : ∃ k, impl_IsBust.f k left first = some (false, true)
structure A1 (l0 : List Int) (left darts : Int) (first : List S43) (ok vv can score : Bool) (count ways : Int) (none_ : List Int) : Prop where
  draw : spec_DrawFirstFinish.f l0 = some (left, darts)
  a6 : ∃ k, impl_FirstFinish.f k left darts = some (first, ok)
  a7 : ∃ k, spec_FirstFinish.f k left darts = some (first, ok)
  a8 : impl_CanFinish.f left darts = some (can, vv)
  a9 : ∃ k, spec_CanFinish.f k left darts = some (can, vv)
  a10 : ∃ k, impl_CountFinishes.f k left darts = some (count, vv)
  a11 : ∃ k, spec_CountFinishes.f k left darts = some (count, vv)
  a12 : ∃ k, impl_CanScore.f k left darts = some (score, vv)
  a13 : ∃ k, spec_CanScore.f k left darts = some (score, vv)
  a14 : ∃ k, impl_CountWaysTo.f k left darts = some (ways, vv)
  a15 : ∃ k, spec_CountWaysTo.f k left darts = some (ways, vv)
  a16 : ∃ k, impl_NoFinishes.f k left darts = some (none_, vv)
  a17 : ∃ k, spec_NoFinishes.f k left darts = some (none_, vv)
  sF : ∃ k, laws_bDarts.f k first first = some true
  sN : ∃ k, laws_bSame.f k none_ none_ = some true
  rel : ok = (vv && can)
  tf : vv = true → TF left darts can score count ways none_
  of_ : ok = true → OF left darts first
structure EF (n few : Int) : Prop where
  lo : 1 ≤ few ∧ few ≤ 1000
  nb : 0 ≤ n ∧ n ≤ 1001
  hi : n ≤ 60 * few
  three : few ≤ 3 → n ≤ 180 ∧ impl_CanFinish.f n few = some (true, true)
structure HF (q high scores : Int) : Prop where
  hb : 0 ≤ high ∧ high ≤ 1001
  can : impl_CanFinish.f high q = some (true, true)
  beyond : impl_CanFinish.f (high + 1) q = some (false, true)
  sc : 43 ≤ scores ∧ scores ≤ 180
structure A2 (l1 : List Int) (n few q high scores : Int) (e t : Bool) : Prop where
  dN : spec_DrawFewestDarts.f l1 = some n
  a35 : impl_FewestDarts.f n = some (few, e)
  a36 : ∃ k, spec_FewestDarts.f k n = some (few, e)
  dK : spec_DrawHighestFinish.f l1 = some q
  a38 : ∃ k, impl_HighestFinish.f k q = some (high, t)
  a39 : ∃ k, spec_HighestFinish.f k q = some (high, t)
  a40 : ∃ k, impl_CountScores.f k q = some (scores, t)
  a41 : ∃ k, spec_CountScores.f k q = some (scores, t)
  ef : e = true → EF n few
  hf : t = true → HF q high scores
end Go.Proofs.Ytacmfgbeaoalfaa.QFnDartsFinish
