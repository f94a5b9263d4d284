import Derived.Test.YtjidebaganmeoaaGRow
/-! A row of rows: a second hold, taken from a load. -/
namespace Go.Proofs.Ytjidebaganmeoaa.GRow
open Go.RowKit Go.Proofs.YtjidebaganmeoaaW.PrintWords Go.Proofs.YtjidebaganmeoaaW.PrintLast Go.Proofs.YtjidebaganmeoaaW.PrintMore

theorem RowAt.of {α : Type} {d : Kd α} {e base : Nat} {ok : Nat → Prop} {w : World} {ad : Addr} {n c i : Nat} {xs : List α} {u : Value} (h : Kd.S d e w base ok (.slice (some ad) n c) xs) (hx : w.cell? (ad.add i) = some u) : RowAt e w (.slice (some ad) 0 0) i u := by
  obtain ⟨inner, ho⟩ := Kd.S_own h
  rcases ho.2 with ⟨hv, _⟩ | ⟨g, cap, cur, hv, _, hg, _⟩
  · exact absurd hv (by simp)
  · injection hv with hv _ _
    injection hv with hv
    subst hv
    have h2 : w.cell? ((⟨g, 0, none⟩ : Addr).add i) = cur[i]? := by
      rw [show ((⟨g, 0, none⟩ : Addr).add i) = ⟨g, i, none⟩ by unfold Addr.add; split <;> simp_all]
      exact blk_cell hg i
    rw [h2] at hx
    exact ⟨g, 0, 0, cur, rfl, hg, hx⟩
theorem RowAt.same2 {e : Nat} {w : World} {ad : Addr} {l c n : Nat} {u u' : Value} (h : RowAt e w (.slice (some ad) l c) n u) (hx : w.cell? (ad.add n) = some u') : u = u' := RowAt.same h hx rfl
end Go.Proofs.Ytjidebaganmeoaa.GRow
