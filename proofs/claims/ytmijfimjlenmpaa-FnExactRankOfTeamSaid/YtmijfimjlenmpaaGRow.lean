/- The row of the teams put in order: slices.SortStableFunc at the table's closure, in the words of the rows. -/
import Derived.Test.YtmijfimjlenmpaaGSrt
namespace Go.Proofs.Ytmijfimjlenmpaa.QFnExactMostPoints
open Go.RowKit Go.Proofs.YtmijfimjlenmpaaW.PrintWords Go.Proofs.YtmijfimjlenmpaaW.PrintLast Go.Proofs.YtmijfimjlenmpaaW.PrintMore
set_option linter.unusedVariables false
set_option linter.unusedSimpArgs false
def rowT (N : Nat) : Array (Fin (N + 1)) := Array.ofFn fun i => i
def sortT (N : Nat) (pts : List Int) (gs : List (List Int)) : Array (Fin (N + 1)) := Go.Sort.insertionSort (ltOf (cfF N pts gs)) (rowT N) 0 (rowT N).size
def outT (N : Nat) (d : Array (Fin (N + 1))) : List Int := d.toList.map fun x => (x.val : Int)
def okLT (N : Nat) (pts : List Int) (gs : List (List Int)) : Bool := decide (N < 8) && (decide (pts.length = N + 1) && (decide (gs.length = N + 1) && gs.all fun g => decide (g.length = 2)))
def upT (n : Nat) : List Int := (List.range n).map fun (i : Nat) => (i : Int)
theorem size_insInner' {α : Type} [Inhabited α] (lt : α → α → Bool) (a : Nat) : ∀ (j : Nat) (d : Array α), (Go.Sort.insInner lt a j d).size = d.size
  | 0, d => rfl
  | j + 1, d => by
    unfold Go.Sort.insInner
    split
    · rw [size_insInner' lt a j, Go.Sort.size_swp]
    · rfl
theorem size_insOuter' {α : Type} [Inhabited α] (lt : α → α → Bool) (a b : Nat) : ∀ (n i : Nat) (d : Array α), b - i ≤ n → (Go.Sort.insOuter lt a b i d).size = d.size
  | 0, i, d, h => by
    unfold Go.Sort.insOuter
    rw [if_neg (by omega)]
  | n + 1, i, d, h => by
    unfold Go.Sort.insOuter
    split
    · rw [size_insOuter' lt a b n (i + 1) _ (by omega), size_insInner']
    · rfl
theorem size_sortT (N : Nat) (pts : List Int) (gs : List (List Int)) : (sortT N pts gs).size = N + 1 := by
  unfold sortT Go.Sort.insertionSort
  rw [size_insOuter' _ _ _ _ _ _ (Nat.le_refl _)]
  unfold rowT
  exact Array.size_ofFn
theorem size_rowT (N : Nat) : (rowT N).size = N + 1 := Array.size_ofFn
theorem atTeams {N : Nat} {pts : List Int} {gs : List (List Int)} (h : okLT N pts gs = true) (x : Fin (N + 1)) : AtTeam pts gs (x.val : Int) := by
  unfold okLT at h
  simp only [Bool.and_eq_true, decide_eq_true_eq] at h
  obtain ⟨_, h1, h2, h3⟩ := h
  have := x.isLt
  refine ⟨by omega, by omega, by omega, ?_⟩
  have hlt : x.val < gs.length := by omega
  have : rd_L3 gs (x.val : Int) = gs[x.val] := by unfold rd_L3; simp [List.getD_eq_getElem?_getD, List.getElem?_eq_getElem hlt]
  rw [this]
  have := List.all_eq_true.1 h3 _ (List.getElem_mem hlt)
  exact of_decide_eq_true this
theorem rowT_get (N j : Nat) (h : j < (rowT N).size) : (rowT N)[j] = ⟨j, by rw [size_rowT] at h; exact h⟩ := by
  exact Array.getElem_ofFn (f := fun i : Fin (N + 1) => i) h
theorem upT_get (n i : Nat) (h : i < n) : (upT n)[i]? = some (i : Int) := by
  unfold upT
  rw [List.getElem?_map, List.getElem?_range h]
  rfl
theorem upT_length (n : Nat) : (upT n).length = n := by unfold upT; rw [List.length_map, List.length_range]
theorem outT_get (N : Nat) (d : Array (Fin (N + 1))) (i : Nat) (h : i < d.size) : (outT N d)[i]? = some ((d[i]!).val : Int) := by
  unfold outT
  rw [List.getElem?_map, Array.getElem?_toList, Array.getElem?_eq_getElem h, getElem!_pos d i h]
  rfl
theorem outT_length (N : Nat) (d : Array (Fin (N + 1))) : (outT N d).length = d.size := by unfold outT; rw [List.length_map, Array.length_toList]
theorem sort.row (N : Nat) (pts : List Int) (gs : List (List Int)) (AP AG : Option Addr) (cp cg bp bg : Nat) (w0 w : World) (ep : w.heap[bp]? = some (.cells #[.slice AP pts.length cp] 36 (0, 0))) (eg : w0.heap[bg]? = some (.cells #[.slice AG gs.length cg] 46 (0, 0))) (hp : Kd.C (Kd.int .i64) w0 AP pts.length pts) (hgs : Kd.C (Kd.slice 3 (Kd.int .i64)) w0 AG gs.length gs) (hok : okLT N pts gs = true)
    (hB : Below w0.heap.size w0 w) (v : Value) (hR : Kd.R (Kd.int .i64) 3 w w0.heap.size (fun _ => True) v (upT (N + 1))) :
    Calls Try.prog 45 #[v, .func (.func 46) #[] #[.pointer (some ⟨bp, 0, none⟩), .pointer (some ⟨bg, 0, none⟩)]] w fun e w' =>
      e = .returned (.tuple #[]) ∧ Kd.R (Kd.int .i64) 3 w' w0.heap.size (fun _ => True) v (outT N (sortT N pts gs)) ∧ Below w0.heap.size w0 w' := by
  have hne := Kd.R_ne hR ep (by decide)
  have ho := Kd.own_of_R hR
  rw [upT_length] at ho
  obtain ⟨hl, ho⟩ := ho
  rcases ho with ⟨_, h0⟩ | ⟨g, cap, cur, rfl, hg, hh, hcap, hmax, hsz, htk⟩
  · omega
  have hN : N < 8 := by
    unfold okLT at hok
    simp only [Bool.and_eq_true, decide_eq_true_eq] at hok
    exact hok.1
  have hcell : ∀ j, j < N + 1 → cur[j]? = some (.int .i64 (j : Int)) := by
    intro j hj
    have h1 : (cur.toList.take ((N + 1) * 1))[j]? = (encs (Value.int .i64) (upT (N + 1)))[j]? := by rw [htk]
    rw [List.getElem?_take, if_pos (by omega), Array.getElem?_toList] at h1
    rw [h1]
    unfold encs
    rw [List.getElem?_map, upT_get _ _ hj]
    rfl
  have hH : Go.Sort.Holds (encF N) w g 0 (rowT N) := by
    intro j hj
    have hj' : j < N + 1 := by rw [size_rowT] at hj; exact hj
    refine ⟨?_, ?_⟩
    · rw [Nat.zero_add, blk_cell hh, hcell j hj', getElem!_pos (rowT N) j hj]
      rw [rowT_get N j hj]
      rfl
    · rw [Nat.zero_add]; exact blk_frozen hh j
  have hcon := sort.calls N pts gs AP AG cp cg bp bg w0 w (atTeams hok) hB g cap hg ⟨ep, fun e => hne (congrArg some e), eg, hp, hgs⟩ (rowT N) hH (by rw [size_rowT]; omega)
  rw [size_rowT] at hcon
  refine hcon.mono ?_
  rintro e w' ⟨he, n, rfl⟩
  refine ⟨he, ?_, ?_⟩
  · have hs : Go.Sort.insertionSort (ltOf (cfF N pts gs)) (rowT N) 0 (N + 1) = sortT N pts gs := by unfold sortT; rw [size_rowT]
    rw [hs]
    refine Kd.R_of_own ?_ (fun _ _ => trivial)
    rw [outT_length, size_sortT]
    refine ⟨by unfold encs; rw [List.length_map, outT_length, size_sortT]; omega, .inr ⟨g, cap, Go.Sort.putCells (encF N) 0 (sortT N pts gs) cur, rfl, hg, ?_, hcap, hmax, ?_, ?_⟩⟩
    · show (Go.Sort.putRow (encF N) w g 0 (sortT N pts gs)).heap[g]? = _
      unfold Go.Sort.putRow Go.Sort.mapBlock
      rw [Array.getElem?_modify, if_pos rfl, hh]
      rfl
    · unfold Go.Sort.putCells
      rw [Array.size_mapIdx, hsz]
    · apply List.ext_getElem?
      intro i
      by_cases hi : i < N + 1
      · rw [List.getElem?_take, if_pos (by omega), Array.getElem?_toList]
        unfold Go.Sort.putCells encs
        rw [Array.getElem?_mapIdx, hcell i hi, List.getElem?_map, outT_get _ _ _ (by rw [size_sortT]; exact hi), Option.map_some, Option.map_some, if_pos ⟨Nat.zero_le _, by rw [size_sortT]; omega⟩, Nat.sub_zero]
        rfl
      · rw [List.getElem?_eq_none (by rw [List.length_take]; omega), List.getElem?_eq_none (by unfold encs; rw [List.length_map, outT_length, size_sortT]; omega)]
  · have := below_put (encF N) w0 w g 0 (Go.Sort.insertionSort (ltOf (cfF N pts gs)) (rowT N) 0 (N + 1)) hB hg
    exact ⟨this.os, this.tape, this.output, this.size, this.block⟩
end Go.Proofs.Ytmijfimjlenmpaa.QFnExactMostPoints
