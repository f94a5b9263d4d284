/- impl.firstTo, walked: the side that is the first one with so many wins. Condition: no more than a thousand short winners' names. -/
import Derived.Test.YtiknaldhjbdnbaaGreatDoorcGCnt
import Derived.Test.YtiknaldhjbdnbaaGreatDoorV1
namespace Go.Proofs.YtiknaldhjbdnbaaGreatDoor
open Go.RowKit Go.Proofs.YtiknaldhjbdnbaaGreatDoorW.PrintWords Go.Proofs.YtiknaldhjbdnbaaGreatDoorW.PrintLast Go.Proofs.YtiknaldhjbdnbaaGreatDoorW.PrintMore Go.Proofs.YtiknaldhjbdnbaaGreatDoor.GCnt
set_option linter.unusedVariables false
set_option linter.unusedSimpArgs false
def ftGo (wins : Int) : List ByteArray → List (List UInt8) → ByteArray → ByteArray × Bool
  | [], _, won => (won, true)
  | x :: l, done, won => if won.toList = [45] then ftGo wins l (done ++ [x.data.toList]) (if ((done ++ [x.data.toList]).count x.data.toList : Int) = wins then x else won) else (⟨#[]⟩, false)
def impl_firstTo.f (l0 : List ByteArray) (a1 : Int) : Option (ByteArray × Bool) :=
  if l0.length ≤ 1000 ∧ (l0.all fun x => decide (x.size ≤ 1000)) = true then some (ftGo a1 l0 [] ⟨#[45]⟩) else none
def namesUpto (l : List ByteArray) (n : Nat) : List (List UInt8) := (l.take n).map fun x => x.data.toList
theorem names_succ (l : List ByteArray) (n : Nat) (h : n < l.length) : namesUpto l (n + 1) = namesUpto l n ++ [l[n].data.toList] := by
  unfold namesUpto
  rw [List.take_succ_eq_append_getElem h, List.map_append]
  rfl
theorem names_len (l : List ByteArray) (n : Nat) : (namesUpto l n).length ≤ l.length := by
  unfold namesUpto
  rw [List.length_map, List.length_take]
  exact Nat.min_le_right _ _
theorem rdOf_at (l : List ByteArray) (n : Nat) (h : n < l.length) : rdOf ByteArray.empty l (n : Int) = l[n] := by
  unfold rdOf
  simp [List.getD_eq_getElem?_getD, List.getElem?_eq_getElem h]
set_option maxHeartbeats 4000000 in
set_option maxRecDepth 100000 in
theorem impl_firstTo.calls (A0 : Option Addr) (c0 : Nat) (l0 : List ByteArray) (a1 : Int) (r1 : ByteArray) (r2 : Bool) (w : World) (hr0 : Kd.C Kd.string w A0 l0.length l0) (hc0 : l0.length ≤ c0) (h : impl_firstTo.f l0 a1 = some (r1, r2)) :
    Calls Tryz.prog 57 #[.slice A0 l0.length c0, .int .i64 a1] w fun e w' => e = .returned (.tuple #[.string r1, .bool r2]) ∧ Below w.heap.size w w' := by
  unfold impl_firstTo.f at h
  by_cases c : l0.length ≤ 1000 ∧ (l0.all fun x => decide (x.size ≤ 1000)) = true
  · rw [if_pos c] at h
    obtain ⟨hn, hsz⟩ := c
    have h2 := Option.some.inj h
    clear h
    have HF := Aside0.mk h2
    have HZ := Aside0.mk hsz
    have HR := Aside0.mk hr0
    have HC := Aside0.mk hc0
    clear h2 hsz hr0 hc0
    go_enter Tryz.func57, Tryz.ntmps57
    go_wp2_with (first | ((with_reducible refine gate_dst (N := 10) rfl ?_); refine GCnt.make_arm rfl rfl ?_; intro hmap; have HM := Aside0.mk hmap; clear hmap))
    go_loopw [7, 13] (fun v i wr => ∃ (n : Nat) (won : ByteArray), n ≤ l0.length ∧ i = .int .i64 n ∧ v = .string won ∧ Aside0 (ftGo a1 (l0.drop n) (namesUpto l0 n) won = (r1, r2)) ∧ Aside0 (HasCnt wr w.heap.size (namesUpto l0 n)) ∧ Aside0 (Below w.heap.size w wr)) (fun _ i _ => l0.length - (intOf i).toNat)
    case atStart => exact ⟨0, ⟨#[45]⟩, Nat.zero_le _, rfl, rfl, HF, HM, ⟨below_alloc (Below.refl _ _) _⟩⟩
    case round =>
      clear HF HM
      obtain ⟨n, won, hle, rfl, rfl, HF, HM, HB⟩ := hrel
      by_cases hlt : n < l0.length
      · have hi1 : (n : Int) < (l0.length : Int) := by omega
        obtain ⟨ad, had, hx⟩ := Kd.at_string HR.out (n : Int) (by omega) hi1
        subst had
        rw [rdOf_at l0 n hlt, Int.toNat_natCast] at hx
        replace hx := (HB.out.cell (World.block_lt_of_cell? w _ hx)).trans hx
        have hs1 : (l0[n]'hlt).size ≤ 1000 := of_decide_eq_true (List.all_eq_true.1 HZ.out _ (List.getElem_mem hlt))
        have hs2 : Aside0 ((l0[n]'hlt).size ≤ maxLen) := ⟨Nat.le_trans hs1 (by decide)⟩
        have hl1 : Aside0 ((namesUpto l0 n).length ≤ 1000000) := ⟨Nat.le_trans (names_len l0 n) (by omega)⟩
        have hd := List.drop_eq_getElem_cons hlt
        rw [hd] at HF
        have hns := names_succ l0 n hlt
        clear hs1 hd
        have HN := Aside0.mk hns
        clear hns
        obtain ⟨x, hxx⟩ : ∃ x, l0[n]'hlt = x := ⟨_, rfl⟩
        rw [hxx] at hx hs2 HF HN
        clear hxx
        by_cases hw : won.toList = [45]
        · have hb1 : (won.toList == ([45] : List UInt8)) = true := by rw [hw]; rfl
          have hb2 : (won.toList != ([45] : List UInt8)) = false := by rw [hw]; rfl
          have hf := HF.out
          simp only [ftGo] at hf
          rw [if_pos hw, ← HN.out] at hf
          have HF2 := Aside0.mk hf
          clear hf hw HF
          have hcb : ((namesUpto l0 n).count x.data.toList : Int) ≤ 1000000 := by
            have h1 : (namesUpto l0 n).count x.data.toList ≤ (namesUpto l0 n).length := List.count_le_length
            have h2 := names_len l0 n
            omega
          have hcb0 : (0 : Int) ≤ ((namesUpto l0 n).count x.data.toList : Int) := by omega
          by_cases he : ((namesUpto l0 (n + 1)).count x.data.toList : Int) = a1
          · have hte : (((namesUpto l0 (n + 1)).count x.data.toList : Int) == a1) = true := by simpa using he
            rw [if_pos he] at HF2
            clear he
            go_wp2_with (first | ((with_reducible refine gate_dst (N := 21) rfl ?_); refine GCnt.look_arm rfl rfl (b := w.heap.size) (p := x) ?hm ?hx ?hp HM.out ?_; (case hm => rfl); (case hx => rfl); (case hp => exact hs2.out)) | ((with_reducible refine gate_dst (N := 25) rfl ?_); refine GCnt.look_arm rfl rfl (b := w.heap.size) (p := x) ?hm ?hx ?hp HM2.out ?_; (case hm => rfl); (case hx => rfl); (case hp => exact hs2.out)) | (refine GCnt.put_arm rfl rfl (b := w.heap.size) (p := x) ?hm ?hx ?hv ?hp HM.out hl1.out ?_; (case hm => rfl); (case hx => rfl); (case hv => rfl); (case hp => exact hs2.out); intro w1 hput hg; have HM2 : Aside0 (HasCnt w1 w.heap.size (namesUpto l0 (n + 1))) := ⟨by rw [HN.out]; exact hput⟩; have HB2 := Aside0.mk (pw_below_grown HB.out (some w.heap.size) (below_size HB.out) hg (fun k_ hk_ => by injection hk_ with hk_; subst hk_; exact Nat.le_refl _)); clear hput hg HM HB))
            go_roundw
            case rel => exact ⟨n + 1, x, hlt, by go_num, rfl, HF2, HM2, HB2⟩
            case measure => simp [intOf]; omega
          · have hte : (((namesUpto l0 (n + 1)).count x.data.toList : Int) == a1) = false := by simpa using he
            rw [if_neg he] at HF2
            clear he
            go_wp2_with (first | ((with_reducible refine gate_dst (N := 21) rfl ?_); refine GCnt.look_arm rfl rfl (b := w.heap.size) (p := x) ?hm ?hx ?hp HM.out ?_; (case hm => rfl); (case hx => rfl); (case hp => exact hs2.out)) | ((with_reducible refine gate_dst (N := 25) rfl ?_); refine GCnt.look_arm rfl rfl (b := w.heap.size) (p := x) ?hm ?hx ?hp HM2.out ?_; (case hm => rfl); (case hx => rfl); (case hp => exact hs2.out)) | (refine GCnt.put_arm rfl rfl (b := w.heap.size) (p := x) ?hm ?hx ?hv ?hp HM.out hl1.out ?_; (case hm => rfl); (case hx => rfl); (case hv => rfl); (case hp => exact hs2.out); intro w1 hput hg; have HM2 : Aside0 (HasCnt w1 w.heap.size (namesUpto l0 (n + 1))) := ⟨by rw [HN.out]; exact hput⟩; have HB2 := Aside0.mk (pw_below_grown HB.out (some w.heap.size) (below_size HB.out) hg (fun k_ hk_ => by injection hk_ with hk_; subst hk_; exact Nat.le_refl _)); clear hput hg HM HB))
            go_roundw
            case rel => exact ⟨n + 1, won, hlt, by go_num, rfl, HF2, HM2, HB2⟩
            case measure => simp [intOf]; omega
        · have hb1 : (won.toList == ([45] : List UInt8)) = false := by simpa using hw
          have hb2 : (won.toList != ([45] : List UInt8)) = true := by simpa using hw
          have hf := HF.out
          simp only [ftGo] at hf
          rw [if_neg hw] at hf
          obtain ⟨rfl, rfl⟩ := Prod.mk.inj hf
          clear hf hw HF
          go_wp2
          go_ret2
          exact ⟨rfl, HB.out⟩
      · obtain rfl : n = l0.length := by omega
        have hf := HF.out
        rw [List.drop_of_length_le (Nat.le_refl _)] at hf
        simp only [ftGo] at hf
        obtain ⟨rfl, rfl⟩ := Prod.mk.inj hf
        clear hf HF
        go_wp2
        go_ret2
        exact ⟨rfl, HB.out⟩
  · rw [if_neg c] at h
    cases h
end Go.Proofs.YtiknaldhjbdnbaaGreatDoor
