/- impl.board: the darts in their order. The sort is walked over the row's whole block. -/
import Derived.Test.YtacmfgbeaoalfaacGSw
import Derived.Test.YtacmfgbeaoalfaacGSco
namespace Go.Proofs.Ytacmfgbeaoalfaa.QFnDartsFinish
open Go.RowKit Go.Proofs.YtacmfgbeaoalfaaW.PrintWords Go.Proofs.YtacmfgbeaoalfaaW.PrintLast Go.Proofs.YtacmfgbeaoalfaaW.PrintMore
set_option linter.unusedVariables false
set_option linter.unusedSimpArgs false
theorem R_holdsD {w : World} {base : Nat} {ok : Nat → Prop} {v : Value} {xs : List S43} (h : Kd.R k43 43 w base ok v xs) (hp : 0 < xs.length) :
    ∃ pb cap cur, v = .slice (some ⟨pb, 0, none⟩) xs.length cap ∧ base ≤ pb ∧ w.heap[pb]? = some (.cells cur 43 (0, 0)) ∧ cap ≤ maxLen ∧ HoldsD cap cur xs := by
  have h2 := h
  obtain ⟨_, inner, ho, hr⟩ := h
  rcases ho.2 with ⟨rfl, h0⟩ | ⟨g, cap, cur, rfl, hg, hh, hn, hm, hs, ht⟩
  · omega
  · refine ⟨g, cap, cur, rfl, hg, hh, hm, hs, hn, fun i hi => ?_, fun i hi => ?_⟩
    · obtain ⟨ad, e, h0, h1⟩ := at_T43 (Kd.R_reads' h2).2.2 (i : Int) (by omega) (by omega)
      cases e
      rw [Int.toNat_natCast] at h0
      have e0 : (Addr.add ⟨g, 0, none⟩ (i * 2)) = ⟨g, i * 2, none⟩ := by unfold Addr.add; split <;> simp_all
      rw [e0] at h0
      exact (blk_cell hh _).symm.trans h0
    · obtain ⟨ad, e, h0, h1⟩ := at_T43 (Kd.R_reads' h2).2.2 (i : Int) (by omega) (by omega)
      cases e
      rw [Int.toNat_natCast] at h1
      have e0 : (Addr.add ⟨g, 0, none⟩ (i * 2)) = ⟨g, i * 2, none⟩ := by unfold Addr.add; split <;> simp_all
      rw [e0] at h1
      exact (blk_cell hh _).symm.trans h1
theorem two_at {l : List Value} {i : Nat} {a b : Value} (h0 : l[i]? = some a) (h1 : l[i + 1]? = some b) : (l.drop i).take 2 = [a, b] := by
  have hl : i + 1 < l.length := by
    rcases Nat.lt_or_ge (i + 1) l.length with h | h
    · exact h
    · rw [List.getElem?_eq_none h] at h1
      cases h1
  have e0 : l[i]'(by omega) = a := by rw [List.getElem?_eq_getElem (by omega)] at h0; exact Option.some.inj h0
  have e1 : l[i + 1]'hl = b := by rw [List.getElem?_eq_getElem hl] at h1; exact Option.some.inj h1
  rw [List.drop_eq_getElem_cons (by omega), List.drop_eq_getElem_cons hl, e0, e1]
  rfl
theorem R_of_holdsD {w : World} {base pb cap : Nat} {cur : Array Value} {xs : List S43} (hb : base ≤ pb) (hc : w.heap[pb]? = some (.cells cur 43 (0, 0))) (hh : HoldsD cap cur xs) (hm : cap ≤ maxLen) : Kd.R k43 43 w base (fun _ => True) (.slice (some ⟨pb, 0, none⟩) xs.length cap) xs := by
  have hs := hh.sz
  have hl := hh.le
  have hlen : (cur.toList.take (xs.length * 2)).length = xs.length * 2 := by rw [List.length_take]; have : cur.toList.length = cur.size := rfl; omega
  refine ⟨fun _ _ => trivial, cur.toList.take (xs.length * 2), ⟨hlen, .inr ⟨pb, cap, cur, rfl, hb, hc, hl, hm, hs, rfl⟩⟩, hlen, fun j p hj => ?_⟩
  have hjl : j < xs.length := by
    rcases Nat.lt_or_ge j xs.length with h | h
    · exact h
    · rw [List.getElem?_eq_none h] at hj
      cases hj
  have e : rd_T43 xs (j : Int) = p := by
    unfold rd_T43
    rw [Int.toNat_natCast, List.getD_eq_getElem?_getD, hj]
    rfl
  have h0 := hh.f0 j hjl
  have h1 := hh.f1 j hjl
  rw [e] at h0 h1
  have g0 : (cur.toList.take (xs.length * 2))[j * 2]? = some (.int .i64 p.f0) := by rw [List.getElem?_take_of_lt (by omega), Array.getElem?_toList]; exact h0
  have g1 : (cur.toList.take (xs.length * 2))[j * 2 + 1]? = some (.int .i64 p.f1) := by rw [List.getElem?_take_of_lt (by omega), Array.getElem?_toList]; exact h1
  have := two_at g0 g1
  show k43.M w base _ p (((cur.toList.take (xs.length * 2)).drop (j * 2)).take 2)
  rw [this]
  exact k43_mkM _ _ _ p
set_option maxHeartbeats 16000000 in
theorem sortS.calls (pb cap len : Nat) (hlen : len ≤ 1000) (xs ys : List S43) (hf : srF len xs = some ys) (cur : Array Value) (w : World) (hl : xs.length = len) (hc : w.heap[pb]? = some (.cells cur 43 (0, 0))) (hh : HoldsD cap cur xs) :
    Calls Try.prog 53 #[.slice (some ⟨pb, 0, none⟩) len cap, .func (.func 54) #[] #[]] w fun e w' => e = .returned (.tuple #[]) ∧ Bp pb w w' ∧ ∃ cur', w'.heap[pb]? = some (.cells cur' 43 (0, 0)) ∧ HoldsD cap cur' ys := by
  have HC := Aside0.mk hc
  have HH := Aside0.mk hh
  have HL := Aside0.mk hl
  have HF := Aside0.mk hf
  have HLE := Aside0.mk hlen
  have HBP := Aside0.mk (Bp.rfl_ pb w)
  clear hc hh hl hf hlen
  go_enter Try.func53, Try.ntmps53
  go_wp2_with (go_at_call 60; (with_reducible refine (stable.calls pb cap len HLE.out xs ys HF.out _ _ HL.out ?sa HH.out).mono ?_); (case sa => first | exact HC.out | exact blk_drewN HC.out _); rintro e_ w6 ⟨rfl, hp, cur6, hc6, hh6⟩; have HC9 := Aside0.mk hc6; have HH9 := Aside0.mk hh6; have HP9 := Aside0.mk (HBP.out.trans hp); clear HC HH HBP hp hc6 hh6; have HC := HC9; have HH := HH9; have HBP := HP9; clear HC9 HH9 HP9)
  go_end0
  exact ⟨rfl, HBP.out, _, HC.out, HH.out⟩
def bT : Nat → Int → Int → List S43 → Option (List S43)
  | 0, _, _, _ => none
  | k + 1, n, t, xs => if t ≤ 3 then ((impl_IsDart.f n t).bind fun r => if r = true then (if xs.length < 1000 then bT k n (wrap64 (t + 1)) (xs ++ [(⟨n, t⟩ : S43)]) else none) else bT k n (wrap64 (t + 1)) xs) else some xs
def bN : Nat → Int → List S43 → Option (List S43)
  | 0, _, _ => none
  | k + 1, n, xs => if n ≤ 25 then ((bT 100 n 1 xs).bind fun ys => bN k (wrap64 (n + 1)) ys) else some xs
def boardL : List S43 := [⟨20, 3⟩, ⟨19, 3⟩, ⟨18, 3⟩, ⟨17, 3⟩, ⟨25, 2⟩, ⟨16, 3⟩, ⟨15, 3⟩, ⟨14, 3⟩, ⟨20, 2⟩, ⟨13, 3⟩, ⟨19, 2⟩, ⟨12, 3⟩, ⟨18, 2⟩, ⟨17, 2⟩, ⟨11, 3⟩, ⟨16, 2⟩, ⟨10, 3⟩, ⟨15, 2⟩, ⟨14, 2⟩, ⟨9, 3⟩, ⟨13, 2⟩, ⟨25, 1⟩, ⟨8, 3⟩, ⟨12, 2⟩, ⟨11, 2⟩, ⟨7, 3⟩, ⟨10, 2⟩, ⟨20, 1⟩, ⟨19, 1⟩, ⟨6, 3⟩, ⟨9, 2⟩, ⟨18, 1⟩, ⟨17, 1⟩, ⟨8, 2⟩, ⟨16, 1⟩, ⟨5, 3⟩, ⟨15, 1⟩, ⟨7, 2⟩, ⟨14, 1⟩, ⟨13, 1⟩, ⟨4, 3⟩, ⟨6, 2⟩, ⟨12, 1⟩, ⟨11, 1⟩, ⟨5, 2⟩, ⟨10, 1⟩, ⟨3, 3⟩, ⟨9, 1⟩, ⟨4, 2⟩, ⟨8, 1⟩, ⟨7, 1⟩, ⟨2, 3⟩, ⟨3, 2⟩, ⟨6, 1⟩, ⟨5, 1⟩, ⟨2, 2⟩, ⟨4, 1⟩, ⟨1, 3⟩, ⟨3, 1⟩, ⟨1, 2⟩, ⟨2, 1⟩, ⟨1, 1⟩]
def impl_board.f : Option (List S43) := some boardL
def preL : List S43 := (bN 100 1 []).getD []
theorem pre_eq : bN 100 1 [] = some preL := by kernel_rfl
theorem pre_len : preL.length = 62 := by kernel_rfl
theorem sorted_eq : srF 62 preL = some boardL := by kernel_rfl
set_option maxHeartbeats 16000000 in
set_option maxRecDepth 100000 in
theorem impl_board.calls (r : List S43) (w : World) (h : impl_board.f = some r) :
    Calls Try.prog 35 #[] w fun e w' => ∃ v0_ : Value, e = .returned (v0_) ∧ Kd.R k43 43 w' w.heap.size (fun _ => True) v0_ r ∧ Below w.heap.size w w' := by
  have hu43 := Try.underlying43
  obtain rfl : r = boardL := (Option.some.inj h).symm
  have HB := Aside0.mk (Below.refl w.heap.size w)
  have HN := Aside0.mk pre_eq
  clear h
  go_enter Try.func35, Try.ntmps35
  go_wp2_with ((with_reducible refine gate_dst (N := 5) rfl ?_); refine Kd.R_lit k43 _ 43 ?hg (N := 5) ?hd (xs := ([] : List (S43))) (inner := []) (ok := fun _ => True) (okp := fun _ => True) ?hr ?hp (fun _ hk => hk) trivial (Below.refl _ _) (Nat.le_refl _) (by simp) ?_; (case hd => rfl); (case hg => rfl); (case hr => first | (go_simp; done) | (go_simp; rfl)); (case hp => exact (Reps.none _ _)); intro v1 w12 ho13 hb hg_ hnew_; clear hg_ hnew_; have HO := Aside0.mk (Kd.R_lower ho13 (below_size (by repeat (first | (with_reducible first | exact HB.out | apply below_alloc | apply pw_below_drewN | apply below_drew1) | exact HB.out)))); have n1_ := Aside0.mk (below_step (by repeat (first | (with_reducible first | exact HB.out | apply below_alloc | apply pw_below_drewN | apply below_drew1) | exact HB.out)) hb); clear HB; have HB := n1_; clear n1_ ho13 hb)
  go_loopg [1, 2] 100 (fun kq v1 v2 w' => ∃ (n : Int) (xs : List S43), v2 = .int .i64 n ∧ Aside0 (bN kq n xs = some preL) ∧ Aside0 (Kd.R k43 43 w' w.heap.size (fun _ => True) v1 xs) ∧ Aside0 (Below w.heap.size w w'))
  case atStart => exact ⟨1, [], rfl, HN, HO, HB⟩
  case round =>
    clear HN HO HB
    obtain ⟨n, xs, rfl, HN, HO, HB⟩ := hrel
    cases gk with
    | zero => exact absurd HN.out (by simp [bN])
    | succ kn =>
      have H := HN.out
      rw [bN] at H
      by_cases c : n ≤ 25
      · rw [if_pos c] at H
        have cb : decide (n ≤ 25) = true := decide_eq_true c
        obtain ⟨ys, h1, H⟩ := Option.bind_eq_some_iff.1 H
        have HT := Aside0.mk h1
        have HN2 := Aside0.mk H
        clear H HN h1 c
        go_wp2
        go_loopg [1, 3] 100 (fun kq v1 v3 w' => ∃ (t : Int) (xs : List S43), v3 = .int .i64 t ∧ Aside0 (bT kq n t xs = some ys) ∧ Aside0 (Kd.R k43 43 w' w.heap.size (fun _ => True) v1 xs) ∧ Aside0 (Below w.heap.size w w'))
        case atStart => exact ⟨1, xs, rfl, HT, ⟨by (with_reducible repeat (first | apply Kd.R_alloc | apply Kd.R_drewN | apply Kd.R_drew)); exact HO.out⟩, ⟨(by repeat (first | (with_reducible first | exact HB.out | apply below_alloc | apply pw_below_drewN | apply below_drew1) | exact HB.out))⟩⟩
        case round =>
          clear HT HO HB
          obtain ⟨t, xs, rfl, HT, HO, HB⟩ := hrel
          cases gk with
          | zero => exact absurd HT.out (by simp [bT])
          | succ kt =>
            have H := HT.out
            rw [bT] at H
            by_cases c : t ≤ 3
            · rw [if_pos c] at H
              have ct : decide (t ≤ 3) = true := decide_eq_true c
              obtain ⟨b, h1, H⟩ := Option.bind_eq_some_iff.1 H
              have HID := Aside0.mk h1
              clear h1 c HT
              cases b with
              | true =>
                rw [if_pos rfl] at H
                by_cases c2 : xs.length < 1000
                · rw [if_pos c2] at H
                  have LM := Aside0.mk c2
                  have HT := Aside0.mk H
                  clear H c2
                  go_wp2_with (first | ((with_reducible refine gate_dst (N := 4) rfl ?_); refine box_event ?hg (N := 4) ?hd (cs := #[.int .i64 0, .int .i64 0]) (t := 43) ?hr ?_; (case hd => rfl); (case hg => rfl); (case hr => first | (go_simp; done) | (go_simp; rfl)); intro gb hg w47 hbox hb; have n1_ := Aside0.mk (Kd.R_below (Kd.R_elderB (by (with_reducible repeat (first | apply Kd.R_alloc | apply Kd.R_drewN | apply Kd.R_drew)); exact HO.out) gb (Nat.le_of_eq hg.symm)) hb); have n3_ := Aside0.mk (below_step (by repeat (first | (with_reducible first | exact HB.out | apply below_alloc | apply pw_below_drewN | apply below_drew1) | exact HB.out)) hb); have n4_ := Aside0.mk (hbox); have n6_ := Aside0.mk ((by rw [hg]; exact (below_size (by repeat (first | (with_reducible first | exact HB.out | apply below_alloc | apply pw_below_drewN | apply below_drew1) | exact HB.out)))) : w.heap.size ≤ gb); clear HO; clear HB; have HO := n1_; have HB := n3_; have BK := n4_; have GE := n6_; clear n1_ n3_ n4_ n6_; clear hb hbox hg; have hcz_0 : w47.cell? ⟨gb, 0, none⟩ = some (.int .i64 0) := (blk_cell BK.out 0).trans rfl; have hcz_1 : w47.cell? ⟨gb, 1, none⟩ = some (.int .i64 0) := (blk_cell BK.out 1).trans rfl; have hfz_0 := blk_frozen BK.out 0; have hfz_1 := blk_frozen BK.out 1) | (go_at_call 47; (with_reducible refine (impl_IsDart.calls n t _ _ HID.out).mono ?_); rintro e w49 ⟨rfl, hb⟩; have n1_ := Aside0.mk (Kd.R_below (by (with_reducible repeat (first | apply Kd.R_alloc | apply Kd.R_drewN | apply Kd.R_drew)); exact (Kd.R_mono (Kd.R_far (p := ⟨gb, 1, none⟩) (Kd.R_far (p := ⟨gb, 0, none⟩) (Kd.R_mono HO.out (fun k_ hk => (⟨hk, hk.2⟩ : _ ∧ k_ ≠ gb))) (fun _ hk => hk.2) (.int .i64 n)) (fun _ hk => hk.2) (.int .i64 t)) (fun _ h_ => h_.1))) hb); have n3_ := Aside0.mk (blk_below (g := gb) (o := .cells #[.int .i64 n, .int .i64 t] 43 (0, 0)) (by (with_reducible repeat (first | refine blk_drewN ?_ _ | refine blk_drew ?_ | refine blk_alloc ?_ _)); refine blk_put (cs := #[.int .i64 n, .int .i64 0]) ?_ 1 _ rfl; (with_reducible repeat (first | refine blk_drewN ?_ _ | refine blk_drew ?_ | refine blk_alloc ?_ _)); refine blk_put (cs := #[.int .i64 0, .int .i64 0]) ?_ 0 _ rfl; (with_reducible repeat (first | refine blk_drewN ?_ _ | refine blk_drew ?_ | refine blk_alloc ?_ _)); exact BK.out) hb); have n4_ := Aside0.mk (below_step (by repeat (first | (with_reducible first | exact HB.out | apply below_alloc | apply pw_below_drewN | apply below_drew1 | refine below_set ?_ GE.out) | exact HB.out)) hb); clear HO BK HB; have HO := n1_; have BK := n3_; have HB := n4_; clear n1_ n3_ n4_ hb; have hcz_0 : w49.cell? ⟨gb, 0, none⟩ = some (.int .i64 n) := (blk_cell BK.out 0).trans rfl; have hcz_1 : w49.cell? ⟨gb, 1, none⟩ = some (.int .i64 t) := (blk_cell BK.out 1).trans rfl; have hfz_0 := blk_frozen BK.out 0; have hfz_1 := blk_frozen BK.out 1) | ((with_reducible refine gate_builtin (b := .append) (xs := #[.tmp 19, .tmp 21]) rfl ?_); at_builtin; refine Kd.R_append k43 (w0 := w) w.heap.size rfl (.tmp 19) (.tmp 21) 26 43 (.agg #[(.int .i64 0), (.int .i64 0)]) 16 rfl Try.underlying26 info43 rfl (by decide) (by omega) u1 xs (⟨n, t⟩ : S43) [.int .i64 n, .int .i64 t] (fun k_ => True) (fun _ => False) rfl rfl ?aP (fun _ hk => hk.elim) ?aF ?aO ?aB ?aS ?aL ?_; (case aP => exact k43_mkM _ _ _ (⟨n, t⟩ : S43)); (case aB => exact (by repeat (first | (with_reducible first | exact HB.out | apply below_alloc | apply pw_below_drewN | apply below_drew1 | refine below_set ?_ GE.out) | exact HB.out))); (case aF => exact (fun _ _ => trivial)); (case aO => exact (Kd.R_mono (by (with_reducible repeat (first | apply Kd.R_alloc | apply Kd.R_drewN | apply Kd.R_drew)); exact HO.out) (fun _ _ => trivial))); (case aS => exact (below_size (by repeat (first | (with_reducible first | exact HB.out | apply below_alloc | apply pw_below_drewN | apply below_drew1 | refine below_set ?_ GE.out) | exact HB.out)))); (case aL => have := LM.out; omega); intro v179 w55 ho hb hg hat; have n3_ := Aside0.mk (hb); have n4_ := Aside0.mk (ho); clear HO BK HB; have HB := n3_; have HO := n4_; clear n3_ n4_ ho hb hg hat))
                  go_roundg kt
                  case measure => omega
                  case rel => exact ⟨_, _, rfl, HT, ⟨by (with_reducible repeat (first | apply Kd.R_alloc | apply Kd.R_drewN | apply Kd.R_drew)); exact HO.out⟩, ⟨(by repeat (first | (with_reducible first | exact HB.out | apply below_alloc | apply pw_below_drewN | apply below_drew1) | exact HB.out))⟩⟩
                · rw [if_neg c2] at H
                  cases H
              | false =>
                rw [if_neg (by decide)] at H
                have HT := Aside0.mk H
                clear H
                go_wp2_with (first | ((with_reducible refine gate_dst (N := 4) rfl ?_); refine box_event ?hg (N := 4) ?hd (cs := #[.int .i64 0, .int .i64 0]) (t := 43) ?hr ?_; (case hd => rfl); (case hg => rfl); (case hr => first | (go_simp; done) | (go_simp; rfl)); intro gb hg w47 hbox hb; have n1_ := Aside0.mk (Kd.R_below (Kd.R_elderB (by (with_reducible repeat (first | apply Kd.R_alloc | apply Kd.R_drewN | apply Kd.R_drew)); exact HO.out) gb (Nat.le_of_eq hg.symm)) hb); have n3_ := Aside0.mk (below_step (by repeat (first | (with_reducible first | exact HB.out | apply below_alloc | apply pw_below_drewN | apply below_drew1) | exact HB.out)) hb); have n4_ := Aside0.mk (hbox); have n6_ := Aside0.mk ((by rw [hg]; exact (below_size (by repeat (first | (with_reducible first | exact HB.out | apply below_alloc | apply pw_below_drewN | apply below_drew1) | exact HB.out)))) : w.heap.size ≤ gb); clear HO; clear HB; have HO := n1_; have HB := n3_; have BK := n4_; have GE := n6_; clear n1_ n3_ n4_ n6_; clear hb hbox hg; have hcz_0 : w47.cell? ⟨gb, 0, none⟩ = some (.int .i64 0) := (blk_cell BK.out 0).trans rfl; have hcz_1 : w47.cell? ⟨gb, 1, none⟩ = some (.int .i64 0) := (blk_cell BK.out 1).trans rfl; have hfz_0 := blk_frozen BK.out 0; have hfz_1 := blk_frozen BK.out 1) | (go_at_call 47; (with_reducible refine (impl_IsDart.calls n t _ _ HID.out).mono ?_); rintro e w49 ⟨rfl, hb⟩; have n1_ := Aside0.mk (Kd.R_below (by (with_reducible repeat (first | apply Kd.R_alloc | apply Kd.R_drewN | apply Kd.R_drew)); exact (Kd.R_mono (Kd.R_far (p := ⟨gb, 1, none⟩) (Kd.R_far (p := ⟨gb, 0, none⟩) (Kd.R_mono HO.out (fun k_ hk => (⟨hk, hk.2⟩ : _ ∧ k_ ≠ gb))) (fun _ hk => hk.2) (.int .i64 n)) (fun _ hk => hk.2) (.int .i64 t)) (fun _ h_ => h_.1))) hb); have n3_ := Aside0.mk (blk_below (g := gb) (o := .cells #[.int .i64 n, .int .i64 t] 43 (0, 0)) (by (with_reducible repeat (first | refine blk_drewN ?_ _ | refine blk_drew ?_ | refine blk_alloc ?_ _)); refine blk_put (cs := #[.int .i64 n, .int .i64 0]) ?_ 1 _ rfl; (with_reducible repeat (first | refine blk_drewN ?_ _ | refine blk_drew ?_ | refine blk_alloc ?_ _)); refine blk_put (cs := #[.int .i64 0, .int .i64 0]) ?_ 0 _ rfl; (with_reducible repeat (first | refine blk_drewN ?_ _ | refine blk_drew ?_ | refine blk_alloc ?_ _)); exact BK.out) hb); have n4_ := Aside0.mk (below_step (by repeat (first | (with_reducible first | exact HB.out | apply below_alloc | apply pw_below_drewN | apply below_drew1 | refine below_set ?_ GE.out) | exact HB.out)) hb); clear HO BK HB; have HO := n1_; have BK := n3_; have HB := n4_; clear n1_ n3_ n4_ hb; have hcz_0 : w49.cell? ⟨gb, 0, none⟩ = some (.int .i64 n) := (blk_cell BK.out 0).trans rfl; have hcz_1 : w49.cell? ⟨gb, 1, none⟩ = some (.int .i64 t) := (blk_cell BK.out 1).trans rfl; have hfz_0 := blk_frozen BK.out 0; have hfz_1 := blk_frozen BK.out 1))
                go_roundg kt
                case measure => omega
                case rel => exact ⟨_, _, rfl, HT, ⟨Kd.R_mono (by (with_reducible repeat (first | apply Kd.R_alloc | apply Kd.R_drewN | apply Kd.R_drew)); exact HO.out) (fun _ _ => trivial)⟩, ⟨(by repeat (first | (with_reducible first | exact HB.out | apply below_alloc | apply pw_below_drewN | apply below_drew1) | exact HB.out))⟩⟩
            · rw [if_neg c] at H
              have ct : decide (t ≤ 3) = false := decide_eq_false c
              obtain rfl : ys = xs := (Option.some.inj H).symm
              clear H c HT
              go_wp2
              go_roundg kn
              case measure => omega
              case rel => exact ⟨_, _, rfl, HN2, ⟨by (with_reducible repeat (first | apply Kd.R_alloc | apply Kd.R_drewN | apply Kd.R_drew)); exact HO.out⟩, ⟨(by repeat (first | (with_reducible first | exact HB.out | apply below_alloc | apply pw_below_drewN | apply below_drew1) | exact HB.out))⟩⟩
      · rw [if_neg c] at H
        have cb : decide (n ≤ 25) = false := decide_eq_false c
        obtain rfl : preL = xs := (Option.some.inj H).symm
        clear H HN c
        obtain ⟨pb, cap, cur, rfl, hpb, hc, hm, hh⟩ := R_holdsD HO.out (by rw [pre_len]; decide)
        rw [pre_len]
        have HC := Aside0.mk hc
        have HH := Aside0.mk hh
        have HP := Aside0.mk (And.intro hpb hm)
        clear hc hh hpb hm HO
        go_wp2_with (go_at_call 53; (with_reducible refine (sortS.calls pb cap 62 (by decide) preL boardL sorted_eq _ _ pre_len ?sa HH.out).mono ?_); (case sa => first | exact HC.out | exact blk_drewN HC.out _); rintro e_ w6 ⟨rfl, hp, cur6, hc6, hh6⟩; have HC9 := Aside0.mk hc6; have HH9 := Aside0.mk hh6; have HP9 := Aside0.mk (Bp.under (by repeat (first | (with_reducible first | exact HB.out | apply below_alloc | apply pw_below_drewN | apply below_drew1) | exact HB.out)) hp HP.out.1); clear HC HH HB hp hc6 hh6; have HC := HC9; have HH := HH9; have HB := HP9; clear HC9 HH9 HP9)
        go_ret
        exact ⟨_, rfl, R_of_holdsD HP.out.1 HC.out HH.out HP.out.2, HB.out⟩
end Go.Proofs.Ytacmfgbeaoalfaa.QFnDartsFinish
