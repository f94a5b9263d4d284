/- slices.Delete at a row of structs of four whole numbers that is the call's own. Condition: 0 ≤ i < j ≤ length. -/
import Derived.Test.YtolcneiniojdfaaProg
import Derived.Lib.SliceRun
import Derived.Deep.RegionLaw
import Derived.Laws.AppendOwn
import Derived.Laws.CopyOwn
import Derived.Laws.CopyRow
import Derived.WalkKit
import Derived.KernelRfl
import Derived.Test.YtolcneiniojdfaaWWords
namespace Go.Proofs.Ytolcneiniojdfaa.GDel
open Go.RowKit Go.Lib Go.Proofs.YtolcneiniojdfaaW.PrintWords
set_option linter.unusedVariables false
set_option linter.unusedSimpArgs false

theorem clear_own {P : Program} (w : World) (t e ty : TypeId) (z : Value) (ht : P.underlying t = some (.slice e)) (hv : ∀ w, (zeroValue e).run P w = .ok z w) (g o n c : Nat) (hn : 0 < n)
    (h1 : ∀ u ∈ (Builtin.zeroCells z.cells n).toList, u.oneCell' = true) (cur : Array Value) (hg : w.heap[g]? = some (.cells cur e (0, 0))) (hfit : o + (Builtin.zeroCells z.cells n).toList.length ≤ cur.size) :
    (Builtin.clear_ #[t] ty #[.slice (some ⟨g, o, none⟩) n c]).run P w = .ok (.tuple #[]) (w.setRow g (cur.toList.take o ++ (Builtin.zeroCells z.cells n).toList ++ cur.toList.drop (o + (Builtin.zeroCells z.cells n).toList.length)).toArray) := by
  have hst := run_storeCells_at P g o e (Builtin.zeroCells z.cells n).toList 0 cur w hg (by simpa using hfit) h1
  simp only [Nat.add_zero] at hst
  obtain ⟨m, rfl⟩ : ∃ m, n = m + 1 := ⟨n - 1, by omega⟩
  obtain ⟨zs, hz⟩ : ∃ zs, (Builtin.zeroCells z.cells (m + 1)).toList = zs := ⟨_, rfl⟩
  rw [hz] at hst ⊢
  simp [Builtin.clear_, run_underlying ht, hv, hz, hst]
theorem step_append_row {P : Program} {ops : Array Oper} {o : Oper} {a : Act} {w : World} {K : Act → World → Prop} {Q : Exit → Act → World → Prop} {E : Prop}
    (hg : o.guard = none) (s x : Operand) (t : TypeId) (hop : o.op = Op.call { callee := Callee.builtin Builtin.append, args := #[s, x], argTypes := #[t, t] })
    (e : TypeId) (i : TypeInfo) (h1 : P.underlying t = some (.slice e)) (h2 : P.info? e = some i)
    (g n cap : Nat) (hs : a.eval s = .slice (some ⟨g, 0, none⟩) n cap)
    (ad : Addr) (m c : Nat) (news : List Value) (hx : a.eval x = .slice (some ad) m c) (hn : news.length = m * i.size) (hc : ∀ j u, news[j]? = some u → w.cell? (ad.add j) = some u) (h1c : ∀ u ∈ news, u.oneCell' = true)
    (hroom : n + m ≤ cap) (cur : Array Value) (hcur : w.heap[g]? = some (.cells cur e (0, 0))) (hfit : n * i.size + news.length ≤ cur.size)
    (hK : K (a.put o.dst (.slice (some ⟨g, 0, none⟩) (n + m) cap)) (w.setRow g (cur.toList.take (n * i.size) ++ news ++ cur.toList.drop (n * i.size + news.length)).toArray)) :
    if Region.wanted o (yielded ops a.tmps) = true then Oper.wp P o a w K Q else E := by
  have hw : Region.wanted o (yielded ops a.tmps) = true := by simp [Region.wanted, hg]
  rw [if_pos hw]
  have hrun := run_append_room (P := P) (w := w) t o.type e i h1 h2 g n cap cur hcur ad m c news hn hc h1c hroom hfit
  unfold Oper.wp
  simp [execOp, hop, resolve, invoke, builtin, hs, hx, hrun, Result.andThen]
  rw [List.append_assoc] at hK
  exact hK

theorem infoE : ∃ i0, Try.prog.info? 51 = some i0 ∧ i0.size = 4 ∧ i0.zero = some (.agg #[.int .i64 0, .int .i64 0, .int .i64 0, .int .i64 0]) := by
  have h : (Try.prog.info? 51).map (fun i => (i.zero, i.size)) = some (some (.agg #[.int .i64 0, .int .i64 0, .int .i64 0, .int .i64 0]), 4) := by kernel_rfl
  obtain ⟨i0, h1, h2⟩ := Option.map_eq_some_iff.1 h
  simp only [Prod.mk.injEq] at h2
  exact ⟨i0, h1, h2.2, h2.1⟩
theorem zeroE (w : World) : (zeroValue 51).run Try.prog w = .ok (.agg #[.int .i64 0, .int .i64 0, .int .i64 0, .int .i64 0]) w := by
  obtain ⟨i0, h1, _, h3⟩ := infoE
  simp [zeroValue, typeInfo, h1, h3]
theorem zero_len (n : Nat) : (Builtin.zeroCells (Value.agg #[.int .i64 0, .int .i64 0, .int .i64 0, .int .i64 0]).cells n).toList.length = n * 4 := by
  simp [Builtin.zeroCells, Value.cells]
theorem zero_one (n : Nat) : ∀ u ∈ (Builtin.zeroCells (Value.agg #[.int .i64 0, .int .i64 0, .int .i64 0, .int .i64 0]).cells n).toList, u.oneCell' = true := by
  intro u hu
  simp only [Builtin.zeroCells, Value.cells, Array.toList_map, List.mem_map] at hu
  obtain ⟨i, _, rfl⟩ := hu
  have h4 : i % 4 < 4 := Nat.mod_lt _ (by omega)
  show (#[Value.int .i64 0, .int .i64 0, .int .i64 0, .int .i64 0][i % 4]!).oneCell' = true
  generalize i % 4 = m at h4
  match m, h4 with
  | 0, _ => rfl
  | 1, _ => rfl
  | 2, _ => rfl
  | 3, _ => rfl

set_option maxHeartbeats 4000000 in
set_option maxRecDepth 1000000 in
theorem delete_run (g cap n i j : Nat) (cur : Array Value) (w : World) (hg : w.heap[g]? = some (.cells cur 51 (0, 0))) (hcap : n ≤ cap) (hm : cap ≤ maxLen) (hsz : cur.size = cap * 4)
    (hone : ∀ u ∈ cur.toList.take (n * 4), u.oneCell' = true) (hij : i < j) (hj : j ≤ n) :
    Calls Try.prog 72 #[.slice (some ⟨g, 0, none⟩) n cap, .int .i64 (i : Int), .int .i64 (j : Int)] w fun e w' => e = .returned (.slice (some ⟨g, 0, none⟩) (i + (n - j)) cap) ∧
      ∃ c2 : Array Value, w' = (w.drew.setRow g c2) ∧ c2.size = cap * 4 ∧ c2.toList.take ((i + (n - j)) * 4) = cur.toList.take (i * 4) ++ (cur.toList.take (n * 4)).drop (j * 4) := by
  obtain ⟨i0, hi0, hz1, hz0⟩ := infoE
  have hm2 : cap ≤ 9223372036854775807 := hm
  obtain ⟨news, hnews⟩ : ∃ news, news = (cur.toList.take (n * 4)).drop (j * 4) := ⟨_, rfl⟩
  have hlen : news.length = (n - j) * 4 := by rw [hnews]; simp [hsz]; omega
  have hget : ∀ t u, news[t]? = some u → cur[j * 4 + t]? = some u := by
    intro t u hu
    rw [hnews, List.getElem?_drop, List.getElem?_take] at hu
    split at hu
    · simpa using hu
    · cases hu
  have hcell : ∀ k, w.drew.cell? ⟨g, k, none⟩ = cur[k]? := fun k => cell_of_row w.drew g k cur 51 (0, 0) hg
  obtain ⟨A, hA, hsrc⟩ : ∃ A : Addr, (if cap = j then some (⟨g, 0, none⟩ : Addr) else some ⟨g, j * 4, none⟩) = some A ∧ Aside0 (∀ t u, news[t]? = some u → w.drew.cell? (A.add t) = some u) := by
    by_cases h : cap = j
    · refine ⟨⟨g, 0, none⟩, by simp [h], ⟨fun t u hu => ?_⟩⟩
      have h0 : news.length = 0 := by rw [hlen]; omega
      rw [List.length_eq_zero_iff.1 h0] at hu
      simp at hu
    · refine ⟨⟨g, j * 4, none⟩, by simp [h], ⟨fun t u hu => ?_⟩⟩
      rw [Addr.add_lit, hcell]
      exact hget t u hu
  have s1 : Aside0 (news.length = (n - j) * i0.size) := ⟨by rw [hz1]; exact hlen⟩
  have s2 : Aside0 (∀ u ∈ news, u.oneCell' = true) := ⟨by
    intro u hu
    rw [hnews] at hu
    exact hone u (List.mem_of_mem_drop hu)⟩
  have s3 : Aside0 (w.drew.heap[g]? = some (.cells cur 51 (0, 0))) := ⟨hg⟩
  have s4 : Aside0 (i * i0.size + news.length ≤ cur.size) := ⟨by rw [hz1, hlen, hsz]; omega⟩
  obtain ⟨c1, hc1⟩ : ∃ c1, c1 = (cur.toList.take (i * i0.size) ++ news ++ cur.toList.drop (i * i0.size + news.length)).toArray := ⟨_, rfl⟩
  have hc1s : c1.size = cap * 4 := by rw [hc1, hz1]; simp [hlen, hsz]; omega
  obtain ⟨W1, hW1⟩ : ∃ W1, W1 = w.drew.setRow g c1 := ⟨_, rfl⟩
  have hH1 : W1.heap[g]? = some (.cells c1 51 (0, 0)) := by rw [hW1]; exact setRow_heap w.drew g cur c1 51 (0, 0) hg
  obtain ⟨c2, hc2⟩ : ∃ c2, c2 = (c1.toList.take ((i + (n - j)) * 4) ++ (Builtin.zeroCells (Value.agg #[.int .i64 0, .int .i64 0, .int .i64 0, .int .i64 0]).cells (n - (i + (n - j)))).toList ++ c1.toList.drop ((i + (n - j)) * 4 + (Builtin.zeroCells (Value.agg #[.int .i64 0, .int .i64 0, .int .i64 0, .int .i64 0]).cells (n - (i + (n - j)))).toList.length)).toArray := ⟨_, rfl⟩
  obtain ⟨W2, hW2⟩ : ∃ W2, W2 = W1.setRow g c2 := ⟨_, rfl⟩
  have hcl : ∀ ty, (Builtin.clear_ #[33] ty #[.slice (some ⟨g, (i + (n - j)) * 4, none⟩) (n - (i + (n - j))) (cap - (i + (n - j)))]).run Try.prog W1 = .ok (.tuple #[]) W2 := by
    intro ty
    rw [hW2, hc2]
    exact clear_own W1 33 51 ty _ Try.underlying33 zeroE g ((i + (n - j)) * 4) (n - (i + (n - j))) (cap - (i + (n - j))) (by omega) (zero_one _) c1 hH1 (by rw [zero_len, hc1s]; omega)
  have hend : Aside0 (∃ c2 : Array Value, W2 = (w.drew.setRow g c2) ∧ c2.size = cap * 4 ∧ c2.toList.take ((i + (n - j)) * 4) = cur.toList.take (i * 4) ++ (cur.toList.take (n * 4)).drop (j * 4)) := by
    refine ⟨c2, by rw [hW2, hW1, setRow_setRow], ?_, ?_⟩
    · rw [hc2]
      have hzl := zero_len (n - (i + (n - j)))
      rw [Array.length_toList] at hzl
      simp only [List.size_toArray, List.length_append, List.length_take, List.length_drop, Array.length_toList, hc1s, hzl]
      omega
    · rw [hc2, ← hnews]
      have e1 : (c1.toList.take ((i + (n - j)) * 4)).length = (i + (n - j)) * 4 := by simp [hc1s]; omega
      rw [List.append_assoc]
      show List.take _ (_ ++ _) = _
      rw [List.take_append_of_le_length (by omega), List.take_take, Nat.min_self, hc1, hz1]
      have e2 : (cur.toList.take (i * 4) ++ news).length = (i + (n - j)) * 4 := by simp [hlen, hsz]; omega
      show List.take _ (_ ++ _) = _
      rw [List.take_append_of_le_length (by omega), List.take_of_length_le (by omega)]
  have hW : Aside0 (W1 = w.drew.setRow g (cur.toList.take (i * i0.size) ++ news ++ cur.toList.drop (i * i0.size + news.length)).toArray) := ⟨by rw [hW1, hc1]⟩
  have hic : i ≤ cap := by omega
  have hjc : j ≤ cap := by omega
  clear hW1 hH1 hget hnews hlen hc1 hc1s hc2 hW2 hcell hone hz0
  go_enter Try.func72, Try.ntmps72
  go_wp2_with fail
  go_region_law (refine step_append_row rfl (.tmp 22) (.tmp 25) 33 rfl 51 i0 Try.underlying33 hi0 g i cap (by simp [Act.eval, Act.put]) A (n - j) (cap - j) news (by simp [Act.eval, Act.put]) s1.out hsrc.out s2.out (by omega) cur s3.out s4.out ?_; rw [← hW.out])
  go_wp2
  go_ret
  exact ⟨rfl, hend.out⟩
end Go.Proofs.Ytolcneiniojdfaa.GDel
