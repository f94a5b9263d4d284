import Derived.Test.YtjidebaganmeoaaQBackx2
namespace Go.Proofs.Ytjidebaganmeoaa
open Go.RowKit Go.Proofs.YtjidebaganmeoaaW.PrintWords Go.Proofs.YtjidebaganmeoaaW.PrintLast Go.Proofs.YtjidebaganmeoaaW.PrintMore
def spec_raBack.f (k : Nat) (a0_0 : Int) (a0_1 : Int) (a1 : Int) (a2 : Int) : Option ((List (List Int))) := QBack.spec_raBack.f k a0_0 a0_1 a1 a2
theorem spec_raBack.mono : ∀ a0 a1 a2 a3 k, LeO (spec_raBack.f k a0 a1 a2 a3) (spec_raBack.f (k + 1) a0 a1 a2 a3) := QBack.spec_raBack.mono
theorem spec_raBack.calls (k : Nat) (a0_0 : Int) (a0_1 : Int) (a1 : Int) (a2 : Int) (r : List (List Int)) (w : World) (h : spec_raBack.f k a0_0 a0_1 a1 a2 = some r) :
    Calls Try.prog 50 #[.agg #[.int .i64 a0_0, .int .i64 a0_1], .int .i64 a1, .int .i64 a2] w fun e w' => ∃ v0_ : Value, e = .returned (v0_) ∧ Kd.S (Kd.slice 3 (Kd.int .i64)) 52 w' w.heap.size (fun _ => True) v0_ r ∧ Below w.heap.size w w' := QBack.spec_raBack.calls k a0_0 a0_1 a1 a2 r w h
end Go.Proofs.Ytjidebaganmeoaa
