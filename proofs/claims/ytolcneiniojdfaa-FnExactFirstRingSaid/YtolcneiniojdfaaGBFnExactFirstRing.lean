/- What the map 'beat' of impl.FirstRing holds, in plain Lean. -/
import Derived.Test.YtolcneiniojdfaaQFnExactFirstRingx0
import Derived.Test.YtolcneiniojdfaaGMap
namespace Go.Proofs.Ytolcneiniojdfaa.QFnExactFirstRing
open Go.RowKit Go.Proofs.YtolcneiniojdfaaW.PrintWords Go.Proofs.YtolcneiniojdfaaW.PrintLast Go.Proofs.YtolcneiniojdfaaW.PrintMore Go.Proofs.Ytolcneiniojdfaa.GMap
set_option linter.unusedVariables false
set_option linter.unusedSimpArgs false

def stepB (r : S51) (s : List (Int × Int)) : List (Int × Int) := if r.f2 > r.f3 then (r.f0, r.f1) :: s else if r.f2 < r.f3 then (r.f1, r.f0) :: s else s
def beatL (l : List S51) (i : Int) : List (Int × Int) := (l.take i.toNat).foldl (fun s r => stepB r s) []
theorem beatL_zero (l : List S51) : beatL l 0 = [] := by simp [beatL]
theorem beatL_end (l : List S51) {i : Int} (h : (l.length : Int) ≤ i) : beatL l i = beatL l (l.length : Int) := by
  unfold beatL
  rw [List.take_of_length_le (by omega), List.take_of_length_le (by omega)]
theorem beat_fold_len (l : List S51) : ∀ s : List (Int × Int), (l.foldl (fun s r => stepB r s) s).length ≤ s.length + l.length := by
  induction l with
  | nil => intro s; simp
  | cons r l ih =>
    intro s
    have h1 := ih (stepB r s)
    have h2 : (stepB r s).length ≤ s.length + 1 := by unfold stepB; split <;> (try split) <;> simp
    simp only [List.foldl_cons, List.length_cons]
    exact Nat.le_trans h1 (by omega)
theorem beatL_room {w : World} {A : Option Addr} {l : List S51} {i : Int} (h : Kd.C k51 w A l.length l) (h0 : 0 ≤ i) (h1 : i < (l.length : Int)) : (beatL l i).length < maxLen := by
  have h2 : l.length ≤ 9223372036854775807 := h.2.1
  have h3 := beat_fold_len (l.take i.toNat) []
  unfold beatL maxLen
  simp only [List.length_nil, List.length_take] at h3
  omega
theorem beatL_step {w : World} {A : Option Addr} {l : List S51} {i : Int} (h : Kd.C k51 w A l.length l) (h0 : 0 ≤ i) (h1 : i < (l.length : Int)) : beatL l (wrap64 (i + 1)) = stepB (rd_T51 l i) (beatL l i) := by
  have h2 : l.length ≤ 9223372036854775807 := h.2.1
  have hw : wrap64 (i + 1) = i + 1 := by unfold wrap64; omega
  obtain ⟨n, rfl⟩ : ∃ n : Nat, i = n := ⟨i.toNat, by omega⟩
  have hn : n < l.length := by omega
  rw [hw]
  have e : ((n : Int) + 1).toNat = n + 1 := by omega
  unfold beatL
  rw [e, Int.toNat_natCast, List.take_succ_eq_append_getElem hn, List.foldl_append]
  have er : rd_T51 l (n : Int) = l[n] := by unfold rd_T51; simp [List.getD_eq_getElem?_getD, List.getElem?_eq_getElem hn]
  rw [er]
  rfl
theorem beatL_gt {w : World} {A : Option Addr} {l : List S51} {i : Int} (h : Kd.C k51 w A l.length l) (h0 : 0 ≤ i) (h1 : i < (l.length : Int)) (hb : decide ((rd_T51 l i).f3 < (rd_T51 l i).f2) = true) : beatL l (wrap64 (i + 1)) = ((rd_T51 l i).f0, (rd_T51 l i).f1) :: beatL l i := by
  rw [beatL_step h h0 h1, stepB, if_pos (of_decide_eq_true hb)]
theorem beatL_lt {w : World} {A : Option Addr} {l : List S51} {i : Int} (h : Kd.C k51 w A l.length l) (h0 : 0 ≤ i) (h1 : i < (l.length : Int)) (hb : decide ((rd_T51 l i).f3 < (rd_T51 l i).f2) = false) (hc : decide ((rd_T51 l i).f2 < (rd_T51 l i).f3) = true) : beatL l (wrap64 (i + 1)) = ((rd_T51 l i).f1, (rd_T51 l i).f0) :: beatL l i := by
  rw [beatL_step h h0 h1, stepB, if_neg (of_decide_eq_false hb), if_pos (of_decide_eq_true hc)]
theorem beatL_eq {w : World} {A : Option Addr} {l : List S51} {i : Int} (h : Kd.C k51 w A l.length l) (h0 : 0 ≤ i) (h1 : i < (l.length : Int)) (hb : decide ((rd_T51 l i).f3 < (rd_T51 l i).f2) = false) (hc : decide ((rd_T51 l i).f2 < (rd_T51 l i).f3) = false) : beatL l (wrap64 (i + 1)) = beatL l i := by
  rw [beatL_step h h0 h1, stepB, if_neg (of_decide_eq_false hb), if_neg (of_decide_eq_false hc)]
def beatPut.f (x y : Int) : Option Int := if (Lit.int .i64 x).wf = true ∧ (Lit.int .i64 y).wf = true then some 0 else none
theorem beatPut_wf {x y t : Int} (h : beatPut.f x y = some t) : (Lit.int .i64 x).wf = true ∧ (Lit.int .i64 y).wf = true := by
  unfold beatPut.f at h
  split at h
  · assumption
  · exact absurd h (by simp)
def beatHas.f (l : List S51) (x y : Int) : Option Bool := if (Lit.int .i64 x).wf = true ∧ (Lit.int .i64 y).wf = true then some (decide ((x, y) ∈ beatL l (l.length : Int))) else none
theorem beatHas_inv {l : List S51} {x y : Int} {t : Bool} (h : beatHas.f l x y = some t) : ((Lit.int .i64 x).wf = true ∧ (Lit.int .i64 y).wf = true) ∧ decide ((x, y) ∈ beatL l (l.length : Int)) = t := by
  unfold beatHas.f at h
  split at h
  · exact ⟨by assumption, Option.some.inj h⟩
  · exact absurd h (by simp)
end Go.Proofs.Ytolcneiniojdfaa.QFnExactFirstRing
