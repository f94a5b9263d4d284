import Derived.Test.YtjidebaganmeoaaWMore
/-! A row of rows: the cell at a row's place, kept through a walk (a second hold on the row that was appended). -/
namespace Go.Proofs.Ytjidebaganmeoaa.GRow
open Go.RowKit Go.Proofs.YtjidebaganmeoaaW.PrintWords Go.Proofs.YtjidebaganmeoaaW.PrintLast Go.Proofs.YtjidebaganmeoaaW.PrintMore

def RowAt (e : Nat) (w : World) (v : Value) (n : Nat) (u : Value) : Prop :=
  ∃ g l c cells, v = .slice (some ⟨g, 0, none⟩) l c ∧ w.heap[g]? = some (.cells cells e (0, 0)) ∧ cells[n]? = some u

theorem RowAt.below {e : Nat} {w w1 : World} {v : Value} {n : Nat} {u : Value} (h : RowAt e w v n u) (hb : Below w.heap.size w w1) : RowAt e w1 v n u := by
  obtain ⟨g, l, c, cells, hv, hg, hc⟩ := h
  exact ⟨g, l, c, cells, hv, blk_below hg hb, hc⟩
theorem RowAt.alloc {e : Nat} {w : World} {v : Value} {n : Nat} {u : Value} (h : RowAt e w v n u) (o : Obj) : RowAt e (w.alloc o) v n u := by
  obtain ⟨g, l, c, cells, hv, hg, hc⟩ := h
  exact ⟨g, l, c, cells, hv, blk_alloc hg o, hc⟩
theorem RowAt.drew {e : Nat} {w : World} {v : Value} {n : Nat} {u : Value} (h : RowAt e w v n u) : RowAt e w.drew v n u := h
theorem RowAt.drewN {e : Nat} {w : World} {v : Value} {n : Nat} {u : Value} (h : RowAt e w v n u) (m : Nat) : RowAt e (w.drewN m) v n u := h
theorem RowAt.grown {e t : Nat} {w w1 : World} {v : Value} {n g : Nat} {u : Value} (h : RowAt e w v n u) (hg : w.grownBy w1 (some g))
    (hb : ∃ cells, w.heap[g]? = some (.cells cells t (0, 0))) (ht : e ≠ t) : RowAt e w1 v n u := by
  obtain ⟨g', l, c, cells, hv, hg', hc⟩ := h
  obtain ⟨cells', hb⟩ := hb
  exact ⟨g', l, c, cells, hv, blk_grown hg' hg (fun he => blk_ne hg' hb ht (Option.some.inj he)), hc⟩
theorem RowAt.same {e : Nat} {w : World} {ad : Addr} {l c n i : Nat} {u u' : Value} (h : RowAt e w (.slice (some ad) l c) n u) (hx : w.cell? (ad.add i) = some u') (hi : i = n) : u = u' := by
  obtain ⟨g, l', c', cells, hv, hg, hc⟩ := h
  injection hv with hv _ _
  injection hv with hv
  subst hv
  subst hi
  have h2 : w.cell? ((⟨g, 0, none⟩ : Addr).add i) = cells[i]? := by
    rw [show ((⟨g, 0, none⟩ : Addr).add i) = ⟨g, i, none⟩ by unfold Addr.add; split <;> simp_all]
    exact blk_cell hg i
  rw [h2, hc] at hx
  exact Option.some.inj hx

section
open Classical in
theorem S_append_cell {P : Program} {ops : Array Oper} {rest : List Oper} {o : Oper} {a : Act} {Q : Exit → Act → World → Prop} {α : Type} (d : Kd α) {w0 W : World} (base : Nat) (hgd : o.guard = none) (s x : Operand) (t e : TypeId) (z : Value) (bytes : Nat)
    (ho : o.op = .call { callee := .builtin .append, args := #[s, x], argTypes := #[t, t] })
    (ht : P.underlying t = some (.slice e)) (hinfo : (P.info? e).map (fun i => (i.zero, i.size, i.bytes)) = some (some z, d.sz, bytes)) (hz : z.cells.size = d.sz) (hs0 : 0 < d.sz) (hb0 : 0 < bytes)
    (v : Value) (xs : List α) (p : α) (cs : List Value) (ok okp : Nat → Prop) (hs : a.eval s = v) (hx : a.eval x = .slice (some ⟨W.heap.size, 0, none⟩) 1 1) (hp : d.M W base okp p cs) (hokp : ∀ k, okp k → ok k ∧ some k ≠ v.ownBlock) (hfresh : ∀ k, W.heap.size ≤ k → ok k)
    (HO : Kd.S d e W base (fun k => ok k ∧ ¬ okp k) v xs) (HB : Below base w0 W) (hbase : base ≤ W.heap.size) (hl : (xs.length + 1) * bytes ≤ 140737488355328)
    (h : ∀ v1 w1, Kd.S d e w1 base ok v1 (xs ++ [p]) → Below base w0 w1 → W.grownBy w1 v.ownBlock → (v1.ownBlock = v.ownBlock ∨ ∃ b, v1.ownBlock = some b ∧ W.heap.size ≤ b) → (d.sz = 1 → ∀ u, cs = [u] → RowAt e w1 v1 xs.length u) → wpList P ops Q rest (a.put o.dst v1) w1) :
    wpList P ops Q (o :: rest) a (W.alloc (.cells cs.toArray e)) := by
  obtain ⟨f, hf, hR⟩ := Kd.S_tag HO xs.length okp (fun _ hk h2 => h2.2 hk)
  obtain ⟨h0, inner, hown, hr⟩ := (Kd.R_mono hR (fun _ hk => hk.1) : (Kd.tag f d).R e W base ok v xs.zipIdx)
  have hp' : (Kd.tag f d).M W base okp (p, xs.length) cs := d.M_mono (fun k hk => ⟨hk, hf k hk⟩) hp
  refine print_append_cells base hgd s x t e z d.sz bytes ho ht hinfo hz hs0 hb0 v xs.zipIdx.length inner cs hs hx (d.K_len (d.K_of_M hp)) (d.K_one (d.K_of_M hp)) hown HB hbase (by rw [List.length_zipIdx]; exact hl) ?_
  intro v1 w1 hown1 hb1 hg1 hat1
  have hr1 := Kd.R_appended h0 hr hp' hokp hfresh hown1 hg1 hat1
  rw [← Kd.zip_snoc] at hr1
  refine h v1 w1 ⟨f, hr1⟩ hb1 hg1 hat1 ?_
  intro hsz u hu
  subst hu
  obtain ⟨hl1, hor⟩ := hown1
  have h9 : inner.length = xs.zipIdx.length * d.sz := hown.1
  have hil : inner.length = xs.length := by rw [hsz, List.length_zipIdx, Nat.mul_one] at h9; exact h9
  rcases hor with ⟨_, hn⟩ | ⟨g, cap, cur, hv, _, hg, _, _, _, htake⟩
  · exact absurd hn (by omega)
  · refine ⟨g, _, cap, cur, hv, hg, ?_⟩
    have h3 : (inner ++ [u])[xs.length]? = some u := by rw [← hil]; simp
    rw [← htake, List.getElem?_take] at h3
    split at h3
    · simpa using h3
    · exact absurd h3 (by simp)
end
end Go.Proofs.Ytjidebaganmeoaa.GRow
