/- slices.SortStableFunc at the table's closure, eight teams at most: the row put in order by insertion. -/
import Derived.Test.YtmijfimjlenmpaaGCmp
import Derived.Test.YtmijfimjlenmpaaIns
namespace Go.Proofs.Ytmijfimjlenmpaa.QFnExactMostPoints
open Go.RowKit Go.Proofs.YtmijfimjlenmpaaW.PrintWords Go.Proofs.YtmijfimjlenmpaaW.PrintLast Go.Proofs.YtmijfimjlenmpaaW.PrintMore
set_option linter.unusedVariables false
set_option linter.unusedSimpArgs false
def encF (N : Nat) (x : Fin (N + 1)) : Value := .int .i64 (x.val : Int)
def cfF (N : Nat) (pts : List Int) (gs : List (List Int)) (x y : Fin (N + 1)) : Int := cmpT pts gs (x.val : Int) (y.val : Int)
theorem below_put {α : Type} [Inhabited α] (enc : α → Value) (w0 w : World) (blk off : Nat) (d : Array α) (h : Below w0.heap.size w0 w) (hb : w0.heap.size ≤ blk) : Below w0.heap.size w0 (Go.Sort.putRow enc w blk off d) := by
  refine ⟨h.os, h.tape, h.output, ?_, fun k hk => ?_⟩
  · rw [Go.Sort.size_putRow]; exact h.size
  · rw [← h.block k hk]
    unfold Go.Sort.putRow Go.Sort.mapBlock
    rw [Array.getElem?_modify, if_neg (by omega)]
theorem below_grow (w0 w : World) (os : Array Obj) (h : Below w0.heap.size w0 w) : Below w0.heap.size w0 (Go.Sort.grow w os) := by
  refine ⟨h.os, h.tape, h.output, ?_, fun k hk => ?_⟩
  · rw [Go.Sort.size_grow]; have := h.size; omega
  · rw [← h.block k hk]
    unfold Go.Sort.grow
    rw [Array.getElem?_append_left (by have := h.size; omega)]
theorem below_ahead (B : Nat) (w0 w : World) (n : Nat) (h : Below B w0 w) : Below B w0 (Go.Sort.ahead w n) := ⟨h.os, h.tape, h.output, h.size, h.block⟩
theorem sort_block {α : Type} [Inhabited α] (enc : α → Value) (w : World) (blk off m : Nat) (d : Array α) (os : Array Obj) (k : Nat) (hk : k < w.heap.size) (hn : k ≠ blk) : (sortWorld enc w blk off m d os).heap[k]? = w.heap[k]? := by
  show (Go.Sort.grow (Go.Sort.putRow enc (Go.Sort.ahead w m) blk off d) os).heap[k]? = _
  unfold Go.Sort.grow
  rw [Array.getElem?_append_left (by rw [Go.Sort.size_putRow]; exact hk)]
  unfold Go.Sort.putRow Go.Sort.mapBlock
  rw [Array.getElem?_modify, if_neg (fun e => hn e.symm)]
  rfl
/-- What the closure reads: the points' box in the world of the sort, all else in an elder one. -/
structure Env3 (pts : List Int) (gs : List (List Int)) (AP AG : Option Addr) (cp cg bp bg : Nat) (w0 w : World) (blk : Nat) : Prop where
  ep : w.heap[bp]? = some (.cells #[.slice AP pts.length cp] 36 (0, 0))
  ne : bp ≠ blk
  eg : w0.heap[bg]? = some (.cells #[.slice AG gs.length cg] 46 (0, 0))
  hp : Kd.C (Kd.int .i64) w0 AP pts.length pts
  hg : Kd.C (Kd.slice 3 (Kd.int .i64)) w0 AG gs.length gs
theorem cmpReads (N : Nat) (pts : List Int) (gs : List (List Int)) (AP AG : Option Addr) (cp cg bp bg : Nat) (w0 w : World) (hT : ∀ x : Fin (N + 1), AtTeam pts gs (x.val : Int))
    (hB : Below w0.heap.size w0 w) (blk off size : Nat) (hb : w0.heap.size ≤ blk) (E : Env3 pts gs AP AG cp cg bp bg w0 w blk) : CmpReads Try.prog 46 #[.pointer (some ⟨bp, 0, none⟩), .pointer (some ⟨bg, 0, none⟩)] (encF N) (cfF N pts gs) blk off size w := by
  intro m os dk hs x y
  have h : Below w0.heap.size w0 (sortWorld (encF N) w blk off m dk os) := below_grow _ _ _ (below_put _ _ _ _ _ _ (below_ahead _ _ _ _ hB) hb)
  have e1 := (sort_block (encF N) w blk off m dk os bp (blk_lt E.ep) E.ne).trans E.ep
  exact ahead.calls pts gs AP AG cp cg bp bg _ _ _ ((blk_cell e1 0).trans rfl) ((blk_cell (blk_below E.eg h) 0).trans rfl) (Kd.C_below E.hp h) (Kd.C_below E.hg h) (hT x) (hT y)
theorem ins.calls (N : Nat) (pts : List Int) (gs : List (List Int)) (AP AG : Option Addr) (cp cg bp bg : Nat) (w0 w : World) (hT : ∀ x : Fin (N + 1), AtTeam pts gs (x.val : Int))
    (hB : Below w0.heap.size w0 w) (blk cap : Nat) (hb : w0.heap.size ≤ blk) (E : Env3 pts gs AP AG cp cg bp bg w0 w blk) (d : Array (Fin (N + 1))) (hH : Go.Sort.Holds (encF N) w blk 0 d) (hd : d.size ≤ 8) :
    Calls Try.prog 62 #[.slice (some ⟨blk, 0, none⟩) d.size cap, .int .i64 0, .int .i64 (d.size : Int), .func (.func 46) #[] #[.pointer (some ⟨bp, 0, none⟩), .pointer (some ⟨bg, 0, none⟩)]] w fun e w' =>
      e = .returned (.tuple #[]) ∧ ∃ n, w' = (Go.Sort.putRow (encF N) w blk 0 (Go.Sort.insertionSort (ltOf (cfF N pts gs)) d 0 d.size)).drewN n := by
  have eg : ∀ args w, (callFunc 46 args).run Try.prog w = .ok (.enter 46 args) w := enters_of Try.func46 (by kernel_rfl) rfl
  exact Any.insertionSortCmpFunc_one Try.insS (encF N) (fun _ => rfl) (cfF N pts gs) 46 _ blk 0 cap 0 d.size d w eg (cmpReads N pts gs AP AG cp cg bp bg w0 w hT hB blk 0 d.size hb E) hH (Nat.zero_le _) (Nat.le_refl _) (by omega)
set_option maxHeartbeats 8000000 in
set_option maxRecDepth 100000 in
theorem stable.calls (N : Nat) (pts : List Int) (gs : List (List Int)) (AP AG : Option Addr) (cp cg bp bg : Nat) (w0 w : World) (hT : ∀ x : Fin (N + 1), AtTeam pts gs (x.val : Int))
    (hB : Below w0.heap.size w0 w) (blk cap : Nat) (hb : w0.heap.size ≤ blk) (E : Env3 pts gs AP AG cp cg bp bg w0 w blk) (d : Array (Fin (N + 1))) (hH : Go.Sort.Holds (encF N) w blk 0 d) (hd : d.size ≤ 8) :
    Calls Try.prog 60 #[.slice (some ⟨blk, 0, none⟩) d.size cap, .int .i64 (d.size : Int), .func (.func 46) #[] #[.pointer (some ⟨bp, 0, none⟩), .pointer (some ⟨bg, 0, none⟩)]] w fun e w' =>
      e = .returned (.tuple #[]) ∧ ∃ n, w' = (Go.Sort.putRow (encF N) w blk 0 (Go.Sort.insertionSort (ltOf (cfF N pts gs)) d 0 d.size)).drewN n := by
  have hcon := ins.calls N pts gs AP AG cp cg bp bg w0 w hT hB blk cap hb E d hH hd
  have h20 : decide ((20 : Int) ≤ (d.size : Int)) = false := decide_eq_false (by omega)
  have h20' : ((20 : Int) ≤ (d.size : Int)) = False := eq_false (by omega)
  have h21 : decide ((20 : Int) < (d.size : Int)) = false := decide_eq_false (by omega)
  have h21' : ((20 : Int) < (d.size : Int)) = False := eq_false (by omega)
  clear E hT hB hb hH hd
  generalize Go.Sort.insertionSort (ltOf (cfF N pts gs)) d 0 d.size = r at hcon ⊢
  generalize d.size = n at hcon h20 h20' h21 h21' ⊢
  have HCON := Aside0.mk hcon
  clear hcon
  go_enter Try.func60, Try.ntmps60
  go_wp2
  go_loopg [7, 8] 0 (fun g1 va vb wr => va = .int .i64 0 ∧ vb = .int .i64 20 ∧ w = wr)
  case atStart => exact ⟨rfl, rfl, rfl⟩
  case round =>
    obtain ⟨rfl, rfl, rfl⟩ := hrel
    go_wp2_with (go_at_call 62; refine HCON.out.mono ?_; rintro e w' ⟨rfl, n2, rfl⟩)
    go_loopg [6, 7, 8, 9] 0 (fun g1 v6 va vb v9 wr => v6 = .int .i64 20 ∧ wr = (Go.Sort.putRow (encF N) w blk 0 r).drewN n2)
    case atStart => exact ⟨rfl, rfl⟩
    case round =>
      obtain ⟨rfl, rfl⟩ := hrel
      go_wp2
      go_end0
      exact ⟨rfl, n2, rfl⟩
set_option maxHeartbeats 8000000 in
theorem sort.calls (N : Nat) (pts : List Int) (gs : List (List Int)) (AP AG : Option Addr) (cp cg bp bg : Nat) (w0 w : World) (hT : ∀ x : Fin (N + 1), AtTeam pts gs (x.val : Int))
    (hB : Below w0.heap.size w0 w) (blk cap : Nat) (hb : w0.heap.size ≤ blk) (E : Env3 pts gs AP AG cp cg bp bg w0 w blk) (d : Array (Fin (N + 1))) (hH : Go.Sort.Holds (encF N) w blk 0 d) (hd : d.size ≤ 8) :
    Calls Try.prog 45 #[.slice (some ⟨blk, 0, none⟩) d.size cap, .func (.func 46) #[] #[.pointer (some ⟨bp, 0, none⟩), .pointer (some ⟨bg, 0, none⟩)]] w fun e w' =>
      e = .returned (.tuple #[]) ∧ ∃ n, w' = (Go.Sort.putRow (encF N) w blk 0 (Go.Sort.insertionSort (ltOf (cfF N pts gs)) d 0 d.size)).drewN n := by
  have hcon := stable.calls N pts gs AP AG cp cg bp bg w0 w hT hB blk cap hb E d hH hd
  clear E hT hB hb hH hd
  generalize Go.Sort.insertionSort (ltOf (cfF N pts gs)) d 0 d.size = r at hcon ⊢
  generalize d.size = n at hcon ⊢
  have HCON := Aside0.mk hcon
  clear hcon
  go_enter Try.func45, Try.ntmps45
  go_wp2_with (go_at_call 60; refine HCON.out.mono ?_; rintro e w' ⟨rfl, n2, rfl⟩)
  go_end0
  exact ⟨rfl, n2, rfl⟩
end Go.Proofs.Ytmijfimjlenmpaa.QFnExactMostPoints
