/- Short words for what the printed walks say over and over: a fact of an older world holds in a world that grew out of it. -/
import Derived.Test.YtacmfgbeaoalfaaV1
namespace Go.Proofs.Ytacmfgbeaoalfaa.Sh
open Go.RowKit Go.Proofs.YtacmfgbeaoalfaaW.PrintWords Go.Proofs.YtacmfgbeaoalfaaW.PrintLast
abbrev Up (w w' : World) : Prop := Below w.heap.size w w'
theorem Up.rfl_ (w : World) : Up w w := Below.refl _ _
theorem Up.alloc {w w' : World} (h : Up w w') (o : Obj) : Up w (w'.alloc o) := below_alloc h o
theorem Up.drewN {w w' : World} (h : Up w w') (n : Nat) : Up w (w'.drewN n) := pw_below_drewN h n
theorem Up.drew {w w' : World} (h : Up w w') : Up w w'.drew := below_drew1 h
theorem B_ {w w' : World} {g : Nat} {o : Obj} (h : w.heap[g]? = some o) (hw : Up w w' := by (with_reducible repeat (first | refine Up.drewN ?_ _ | refine Up.drew ?_ | refine Up.alloc ?_ _)); exact Up.rfl_ _) : w'.heap[g]? = some o := blk_below h hw
theorem R_ {α : Type} {d : Kd α} {e base : Nat} {w w' : World} {ok : Nat → Prop} {v : Value} {xs : List α} (h : Kd.R d e w base ok v xs) (hw : Up w w' := by (with_reducible repeat (first | refine Up.drewN ?_ _ | refine Up.drew ?_ | refine Up.alloc ?_ _)); exact Up.rfl_ _) : Kd.R d e w' base ok v xs := Kd.R_below h hw
theorem S_ {α : Type} {d : Kd α} {e base : Nat} {w w' : World} {ok : Nat → Prop} {v : Value} {xs : List α} (h : Kd.S d e w base ok v xs) (hw : Up w w' := by (with_reducible repeat (first | refine Up.drewN ?_ _ | refine Up.drew ?_ | refine Up.alloc ?_ _)); exact Up.rfl_ _) : Kd.S d e w' base ok v xs := Kd.S_below h hw
def US (a b c : Nat) (w w' : World) : Prop := ∀ w0 : World, Below w0.heap.size w0 w → w0.heap.size ≤ a → w0.heap.size ≤ b → w0.heap.size ≤ c → Below w0.heap.size w0 w'
theorem US.rfl_ (a b c : Nat) (w : World) : US a b c w w := fun _ h _ _ _ => h
theorem US.alloc {a b c : Nat} {w w' : World} (h : US a b c w w') (o : Obj) : US a b c w (w'.alloc o) := fun w0 h0 h1 h2 h3 => below_alloc (h w0 h0 h1 h2 h3) o
theorem US.drewN {a b c : Nat} {w w' : World} (h : US a b c w w') (n : Nat) : US a b c w (w'.drewN n) := fun w0 h0 h1 h2 h3 => pw_below_drewN (h w0 h0 h1 h2 h3) n
theorem US.drew {a b c : Nat} {w w' : World} (h : US a b c w w') : US a b c w w'.drew := fun w0 h0 h1 h2 h3 => below_drew1 (h w0 h0 h1 h2 h3)
theorem US.set1 {a b c : Nat} {w w' : World} (h : US a b c w w') (j : Nat) (v : Value) : US a b c w (w'.setCell ⟨a, j, none⟩ v) := fun w0 h0 h1 h2 h3 => below_set (h w0 h0 h1 h2 h3) h1
theorem US.set2 {a b c : Nat} {w w' : World} (h : US a b c w w') (j : Nat) (v : Value) : US a b c w (w'.setCell ⟨b, j, none⟩ v) := fun w0 h0 h1 h2 h3 => below_set (h w0 h0 h1 h2 h3) h2
theorem US.set3 {a b c : Nat} {w w' : World} (h : US a b c w w') (j : Nat) (v : Value) : US a b c w (w'.setCell ⟨c, j, none⟩ v) := fun w0 h0 h1 h2 h3 => below_set (h w0 h0 h1 h2 h3) h3
theorem L_ {w0 w w' : World} {a b c : Nat} (h : Below w0.heap.size w0 w) (ha : w0.heap.size ≤ a) (hb : w0.heap.size ≤ b) (hc : w0.heap.size ≤ c)
    (hw : US a b c w w' := by (with_reducible repeat (first | refine US.drewN ?_ _ | refine US.drew ?_ | refine US.alloc ?_ _ | refine US.set1 ?_ _ _ | refine US.set2 ?_ _ _ | refine US.set3 ?_ _ _)); exact US.rfl_ _ _ _ _) : Below w0.heap.size w0 w' := hw w0 h ha hb hc
def U6 (a b c d e f : Nat) (w w' : World) : Prop := ∀ w0 : World, Below w0.heap.size w0 w → w0.heap.size ≤ a ∧ w0.heap.size ≤ b ∧ w0.heap.size ≤ c ∧ w0.heap.size ≤ d ∧ w0.heap.size ≤ e ∧ w0.heap.size ≤ f → Below w0.heap.size w0 w'
section
variable {a b c d e f : Nat} {w w' : World}
theorem U6.rfl_ (a b c d e f : Nat) (w : World) : U6 a b c d e f w w := fun _ h _ => h
theorem U6.alloc (h : U6 a b c d e f w w') (o : Obj) : U6 a b c d e f w (w'.alloc o) := fun w0 h0 h1 => below_alloc (h w0 h0 h1) o
theorem U6.drewN (h : U6 a b c d e f w w') (n : Nat) : U6 a b c d e f w (w'.drewN n) := fun w0 h0 h1 => pw_below_drewN (h w0 h0 h1) n
theorem U6.drew (h : U6 a b c d e f w w') : U6 a b c d e f w w'.drew := fun w0 h0 h1 => below_drew1 (h w0 h0 h1)
theorem U6.set1 (h : U6 a b c d e f w w') (j : Nat) (v : Value) : U6 a b c d e f w (w'.setCell ⟨a, j, none⟩ v) := fun w0 h0 h1 => below_set (h w0 h0 h1) h1.1
theorem U6.set2 (h : U6 a b c d e f w w') (j : Nat) (v : Value) : U6 a b c d e f w (w'.setCell ⟨b, j, none⟩ v) := fun w0 h0 h1 => below_set (h w0 h0 h1) h1.2.1
theorem U6.set3 (h : U6 a b c d e f w w') (j : Nat) (v : Value) : U6 a b c d e f w (w'.setCell ⟨c, j, none⟩ v) := fun w0 h0 h1 => below_set (h w0 h0 h1) h1.2.2.1
theorem U6.set4 (h : U6 a b c d e f w w') (j : Nat) (v : Value) : U6 a b c d e f w (w'.setCell ⟨d, j, none⟩ v) := fun w0 h0 h1 => below_set (h w0 h0 h1) h1.2.2.2.1
theorem U6.set5 (h : U6 a b c d e f w w') (j : Nat) (v : Value) : U6 a b c d e f w (w'.setCell ⟨e, j, none⟩ v) := fun w0 h0 h1 => below_set (h w0 h0 h1) h1.2.2.2.2.1
theorem U6.set6 (h : U6 a b c d e f w w') (j : Nat) (v : Value) : U6 a b c d e f w (w'.setCell ⟨f, j, none⟩ v) := fun w0 h0 h1 => below_set (h w0 h0 h1) h1.2.2.2.2.2
theorem L6_ {w0 : World} (h : Below w0.heap.size w0 w) (ha : w0.heap.size ≤ a) (hb : w0.heap.size ≤ b) (hc : w0.heap.size ≤ c) (hd : w0.heap.size ≤ d) (he : w0.heap.size ≤ e) (hf : w0.heap.size ≤ f)
    (hw : U6 a b c d e f w w' := by (with_reducible repeat (first | refine U6.drewN ?_ _ | refine U6.drew ?_ | refine U6.alloc ?_ _ | refine U6.set1 ?_ _ _ | refine U6.set2 ?_ _ _ | refine U6.set3 ?_ _ _ | refine U6.set4 ?_ _ _ | refine U6.set5 ?_ _ _ | refine U6.set6 ?_ _ _)); exact U6.rfl_ _ _ _ _ _ _ _) : Below w0.heap.size w0 w' := hw w0 h ⟨ha, hb, hc, hd, he, hf⟩
end
theorem a_ {p : Prop} (h : p) : Aside0 p := ⟨h⟩
theorem c_ {w : World} {g : Nat} {t : TypeId} {cs : Array Value} (h : w.heap[g]? = some (.cells cs t (0, 0))) (i : Nat) {v : Value} (hv : cs[i]? = some v := by rfl) : w.cell? ⟨g, i, none⟩ = some v := (blk_cell h i).trans hv
theorem bb_ {w w' w1 : World} {g : Nat} {o : Obj} (h : Aside0 (w.heap[g]? = some o)) (hb : Below w'.heap.size w' w1) (hw : Up w w' := by (with_reducible repeat (first | refine Up.drewN ?_ _ | refine Up.drew ?_ | refine Up.alloc ?_ _)); exact Up.rfl_ _) : Aside0 (w1.heap[g]? = some o) := ⟨blk_below (blk_below h.out hw) hb⟩
theorem m1_ {α β : Type} (f : α → β) (a : α) : (#[a] : Array α).map f = #[f a] := by simp
theorem m2_ {α β : Type} (f : α → β) (a b : α) : (#[a, b] : Array α).map f = #[f a, f b] := by simp
theorem m3_ {α β : Type} (f : α → β) (a b c : α) : (#[a, b, c] : Array α).map f = #[f a, f b, f c] := by simp
end Go.Proofs.Ytacmfgbeaoalfaa.Sh
