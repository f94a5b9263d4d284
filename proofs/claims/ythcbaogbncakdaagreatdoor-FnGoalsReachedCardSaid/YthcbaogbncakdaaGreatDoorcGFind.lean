/- The closure of impl.FirstGoals, walked: it looks for so many goals of just so many points and writes what it tries into a row. -/
import Derived.Test.YthcbaogbncakdaaGreatDoorcQFnGoalsReachedx2
import Derived.StillTailTactics
import Derived.BigQuiet
namespace Go.Proofs.YthcbaogbncakdaaGreatDoor.QFnGoalsReached
open Go.RowKit Go.Proofs.YthcbaogbncakdaaGreatDoorW.PrintWords Go.Proofs.YthcbaogbncakdaaGreatDoorW.PrintLast Go.Proofs.YthcbaogbncakdaaGreatDoorW.PrintMore
set_option linter.unusedVariables false
set_option linter.unusedSimpArgs false
structure Env (bk bo bf pb : Nat) (AK : Option Addr) (nk ck np cp : Nat) (w : World) : Prop where
  ek : w.heap[bk]? = some (.cells #[.slice AK nk ck] 24 (0, 0))
  eo : w.heap[bo]? = some (.cells #[.slice (some ⟨pb, 0, none⟩) np cp] 24 (0, 0))
  ef : w.heap[bf]? = some (.cells #[.func (.func 34) #[] #[.pointer (some ⟨bk, 0, none⟩), .pointer (some ⟨bo, 0, none⟩), .pointer (some ⟨bf, 0, none⟩)]] 42 (0, 0))
  nk_ : bk ≠ pb
  no : bo ≠ pb
  nf : bf ≠ pb
theorem Env.below {bk bo bf pb : Nat} {AK : Option Addr} {nk ck np cp : Nat} {w w1 : World} (h : Env bk bo bf pb AK nk ck np cp w) (hb : Below w.heap.size w w1) : Env bk bo bf pb AK nk ck np cp w1 :=
  ⟨blk_below h.ek hb, blk_below h.eo hb, blk_below h.ef hb, h.nk_, h.no, h.nf⟩
theorem Env.set {bk bo bf pb : Nat} {AK : Option Addr} {nk ck np cp : Nat} {w : World} (h : Env bk bo bf pb AK nk ck np cp w) (i : Nat) (u : Value) : Env bk bo bf pb AK nk ck np cp (w.setCell ⟨pb, i, none⟩ u) :=
  ⟨blk_far h.ek h.nk_ u, blk_far h.eo h.no u, blk_far h.ef h.nf u, h.nk_, h.no, h.nf⟩
def Holds (cp : Nat) (cur : Array Value) (pts : List Int) : Prop := cur.size = cp ∧ ∀ (i : Int), 0 ≤ i → i < (pts.length : Int) → cur[i.toNat]? = some (.int .i64 (rd pts i))
def upd (pts : List Int) (i v : Int) : List Int := pts.set i.toNat v
theorem rd_upd (pts : List Int) (i v j : Int) (hi0 : 0 ≤ i) (hi : i < (pts.length : Int)) (hj0 : 0 ≤ j) : rd (upd pts i v) j = if j = i then v else rd pts j := by
  unfold rd upd
  by_cases e : j = i
  · subst e
    rw [if_pos rfl, List.getD_eq_getElem?_getD, List.getElem?_set_self (by omega)]
    rfl
  · rw [if_neg e, List.getD_eq_getElem?_getD, List.getD_eq_getElem?_getD, List.getElem?_set_ne (by omega)]
theorem upd_length (pts : List Int) (i v : Int) : (upd pts i v).length = pts.length := List.length_set
theorem Holds.set {cp : Nat} {cur : Array Value} {pts : List Int} (h : Holds cp cur pts) (i v : Int) (hi0 : 0 ≤ i) (hi : i < (pts.length : Int)) : Holds cp (cur.setIfInBounds i.toNat (.int .i64 v)) (upd pts i v) := by
  refine ⟨by rw [Array.size_setIfInBounds]; exact h.1, ?_⟩
  intro j hj0 hj
  rw [upd_length] at hj
  have hc := h.2 i hi0 hi
  have hlt : i.toNat < cur.size := (Array.getElem?_eq_some_iff.1 hc).1
  rw [rd_upd pts i v j hi0 hi hj0]
  by_cases e : j = i
  · subst e
    rw [if_pos rfl, Array.getElem?_setIfInBounds_self_of_lt hlt]
  · rw [if_neg e, Array.getElem?_setIfInBounds_ne (by omega)]
    exact h.2 j hj0 hj
structure Bp (pb : Nat) (w w' : World) : Prop where
  os : w'.os = w.os
  tape : w'.tape = w.tape
  output : w'.output = w.output
  size : w.heap.size ≤ w'.heap.size
  block : ∀ i, i < w.heap.size → i ≠ pb → w'.heap[i]? = w.heap[i]?
theorem Bp.rfl_ (pb : Nat) (w : World) : Bp pb w w := ⟨rfl, rfl, rfl, Nat.le_refl _, fun _ _ _ => rfl⟩
theorem Bp.drew {pb : Nat} {w w' : World} (h : Bp pb w w') : Bp pb w w'.drew := ⟨h.os, h.tape, h.output, h.size, h.block⟩
theorem Bp.drewN {pb : Nat} {w w' : World} (h : Bp pb w w') (n : Nat) : Bp pb w (w'.drewN n) := ⟨h.os, h.tape, h.output, h.size, h.block⟩
theorem Bp.trans {pb : Nat} {w w' w2 : World} (h : Bp pb w w') (k : Bp pb w' w2) : Bp pb w w2 := ⟨k.os.trans h.os, k.tape.trans h.tape, k.output.trans h.output, Nat.le_trans h.size k.size, fun i hi hp => (k.block i (Nat.lt_of_lt_of_le hi h.size) hp).trans (h.block i hi hp)⟩
theorem Bp.set {pb : Nat} {w w' : World} (h : Bp pb w w') (i : Nat) (u : Value) : Bp pb w (w'.setCell ⟨pb, i, none⟩ u) := ⟨h.os, h.tape, h.output, by simpa [World.setCell] using h.size, fun j hj hp => (Below.heap_setCell w' ⟨pb, i, none⟩ u j hp).trans (h.block j hj hp)⟩
theorem Bp.under {pb : Nat} {wL w w' : World} (h : Below wL.heap.size wL w) (k : Bp pb w w') (hp : wL.heap.size ≤ pb) : Below wL.heap.size wL w' := ⟨k.os.trans h.os, k.tape.trans h.tape, k.output.trans h.output, Nat.le_trans h.size k.size, fun i hi => (k.block i (Nat.lt_of_lt_of_le hi h.size) (by omega)).trans (h.block i hi)⟩
theorem Env.bp {bk bo bf pb : Nat} {AK : Option Addr} {nk ck np cp : Nat} {w w1 : World} (h : Env bk bo bf pb AK nk ck np cp w) (k : Bp pb w w1) : Env bk bo bf pb AK nk ck np cp w1 :=
  ⟨(k.block bk (blk_lt h.ek) h.nk_).trans h.ek, (k.block bo (blk_lt h.eo) h.no).trans h.eo, (k.block bf (blk_lt h.ef) h.nf).trans h.ef, h.nk_, h.no, h.nf⟩
def lp (kk i : Int) (rec : List Int → Int → Int → Bool × List Int) (s m : Int) : Nat → List Int → Bool × List Int
  | 0, out => (false, out)
  | n + 1, out => if (rec (upd out i n) (s - n * kk) (m - n)).1 = true then (true, (rec (upd out i n) (s - n * kk) (m - n)).2) else lp kk i rec s m n (rec (upd out i n) (s - n * kk) (m - n)).2
def fd (ks : List Int) : Nat → List Int → Int → Int → Bool × List Int
  | 0, out, s, m => (decide (s = 0) && decide (m = 0), out)
  | k + 1, out, s, m => lp (rd ks k) k (fd ks k) s m (min m (s / rd ks k) + 1).toNat out
theorem lp_len (kk i : Int) (rec : List Int → Int → Int → Bool × List Int) (h : ∀ o s m, (rec o s m).2.length = o.length) (s m : Int) (n : Nat) : ∀ out, (lp kk i rec s m n out).2.length = out.length := by
  induction n with
  | zero => intro out; rfl
  | succ n ih =>
    intro out
    simp only [lp]
    split
    · rw [h, upd_length]
    · rw [ih, h, upd_length]
theorem fd_len (ks : List Int) (k : Nat) : ∀ out s m, (fd ks k out s m).2.length = out.length := by
  induction k with
  | zero => intro out s m; rfl
  | succ k ih => intro out s m; exact lp_len _ _ _ ih s m _ out
set_option maxHeartbeats 8000000 in
set_option maxRecDepth 100000 in
theorem find.zero (bk bo bf pb : Nat) (AK : Option Addr) (nk ck np cp : Nat) (s m : Int) (w : World) (E : Env bk bo bf pb AK nk ck np cp w) (b : Bool) (hb : (decide (s = 0) && decide (m = 0)) = b) :
    Calls Tryz.prog 34 #[.int .i64 (-1), .int .i64 s, .int .i64 m, .pointer (some ⟨bk, 0, none⟩), .pointer (some ⟨bo, 0, none⟩), .pointer (some ⟨bf, 0, none⟩)] w fun e w' => e = .returned (.bool b) ∧ Drawn0 w w' := by
  clear E
  have e1 : decide ((-1 : Int) < 0) = true := rfl
  by_cases c1 : s = 0
  · by_cases c2 : m = 0
    · subst c1 c2
      obtain rfl : true = b := hb
      go_enter Tryz.func34, Tryz.ntmps34
      go_wp2
      go_ret
      first
      | exact ⟨rfl, Drawn0.refl _⟩
      | exact ⟨rfl, 1, rfl⟩
    · obtain rfl : false = b := by rw [← hb, decide_eq_false c2, Bool.and_false]
      subst c1
      have d2 : (m == 0) = false := beq_eq_false_iff_ne.2 c2
      clear hb
      go_enter Tryz.func34, Tryz.ntmps34
      go_wp2
      go_ret
      first
      | exact ⟨rfl, Drawn0.refl _⟩
      | exact ⟨rfl, 1, rfl⟩
  · obtain rfl : false = b := by rw [← hb, decide_eq_false c1, Bool.false_and]
    have d1 : (s == 0) = false := beq_eq_false_iff_ne.2 c1
    clear hb
    go_enter Tryz.func34, Tryz.ntmps34
    go_wp2
    go_ret
    first
      | exact ⟨rfl, Drawn0.refl _⟩
      | exact ⟨rfl, 1, rfl⟩
attribute [local go_sem] max2_int min2_int max_two min_two max_three min_three max_four min_four
set_option maxHeartbeats 8000000 in
set_option maxRecDepth 100000 in
theorem find.calls (ks : List Int) (hks : ∀ j : Nat, j < ks.length → 1 ≤ rd ks j ∧ rd ks j ≤ 1000000) (hkl : ks.length ≤ 1000000) (bk bo bf pb : Nat) (AK : Option Addr) (ck cp : Nat) (wL : World) (HKL : Kd.C (Kd.int .i64) wL AK ks.length ks) (hpb : wL.heap.size ≤ pb) (k : Nat) :
    ∀ (hk : k ≤ ks.length) (s m : Int) (hs : 0 ≤ s ∧ s ≤ 1000000) (hm : 0 ≤ m ∧ m ≤ 1000000) (out : List Int) (hlen : out.length = ks.length) (cur : Array Value) (w : World) (hL : Below wL.heap.size wL w) (E : Env bk bo bf pb AK ks.length ck ks.length cp w) (hb : w.heap[pb]? = some (.cells cur 3 (0, 0))) (hh : Holds cp cur out),
      Calls Tryz.prog 34 #[.int .i64 ((k : Int) - 1), .int .i64 s, .int .i64 m, .pointer (some ⟨bk, 0, none⟩), .pointer (some ⟨bo, 0, none⟩), .pointer (some ⟨bf, 0, none⟩)] w fun e w' => e = .returned (.bool (fd ks k out s m).1) ∧ Bp pb w w' ∧ ∃ cur' : Array Value, w'.heap[pb]? = some (.cells cur' 3 (0, 0)) ∧ Holds cp cur' (fd ks k out s m).2 := by
  induction k with
  | zero =>
    intro hk s m hs hm out hlen cur w hL E hb hh
    refine (find.zero bk bo bf pb AK ks.length ck ks.length cp s m w E _ rfl).mono ?_
    rintro e w' ⟨rfl, ⟨nd, rfl⟩⟩
    exact ⟨rfl, (Bp.rfl_ pb w).drewN nd, cur, hb, hh⟩
  | succ k ih =>
    intro hk s m hs hm out hlen cur w hL E hb hh
    obtain ⟨kk1, kk2⟩ := hks k (by omega)
    have hx := Kd.at_int (Kd.C_below HKL hL) (k : Int) (by omega) (by omega)
    obtain ⟨ad, rfl, hx0⟩ := hx
    rw [Int.toNat_natCast] at hx0
    have ek0 : w.cell? ⟨bk, 0, none⟩ = some (.slice (some ad) ks.length ck) := (blk_cell E.ek 0).trans rfl
    obtain ⟨F, hF⟩ : ∃ F, F = fd ks k := ⟨_, rfl⟩
    obtain ⟨kk, hkk⟩ : ∃ kk, kk = rd ks (k : Int) := ⟨_, rfl⟩
    have hfd : fd ks (k + 1) out s m = lp kk k F s m (min m (s / kk) + 1).toNat out := by rw [hF, hkk]; rfl
    rw [hfd]
    rw [← hF] at ih
    rw [← hkk] at kk1 kk2 hx0
    have hq0 : 0 ≤ s / kk := Int.ediv_nonneg hs.1 (by omega)
    have hq1 : s / kk ≤ s := Int.ediv_le_self _ hs.1
    obtain ⟨q, hq⟩ : ∃ q, q = s / kk := ⟨_, rfl⟩
    have hqm : q * kk ≤ s := by rw [hq]; exact Int.ediv_mul_le s (by omega)
    rw [← hq] at hq0 hq1 ⊢
    have hqw : wrap64 (Int.tdiv s kk) = q := by rw [Int.tdiv_eq_ediv_of_nonneg hs.1, ← hq]; unfold wrap64; omega
    have hk0 : (kk == 0) = false := beq_eq_false_iff_ne.2 (by omega)
    have hk0' : (kk = 0) = False := eq_false (by omega)
    rw [show ((k + 1 : Nat) : Int) - 1 = (k : Int) by omega]
    have p1 : decide ((k : Int) < 0) = false := decide_eq_false (by omega)
    have p2 : (0 ≤ (k : Int)) = True := eq_true (by omega)
    have p3 : ((k : Int) < (ks.length : Int)) = True := eq_true (by omega)
    have p4 : (k < ks.length) = True := eq_true (by omega)
    obtain ⟨N, hN⟩ : ∃ N : Int, N = min m q := ⟨_, rfl⟩
    have hmn : (if q < m then q else m) = N := by rw [hN]; split <;> omega
    rw [← hN]
    have HQ := Aside0.mk hqm
    have HH := Aside0.mk hh
    have HB := Aside0.mk hb
    have HE := Aside0.mk E
    have HL := Aside0.mk hL
    have HLEN := Aside0.mk hlen
    have HS := Aside0.mk hs
    have HM := Aside0.mk hm
    have HK := Aside0.mk hk
    have HPB := Aside0.mk hpb
    have HNN := Aside0.mk hN
    have HKK := Aside0.mk (And.intro kk1 kk2)
    have HBP := Aside0.mk (Bp.rfl_ pb w)
    have HKE := Aside0.mk hkk
    have HFL := Aside0.mk (show ∀ o s m, (F o s m).2.length = o.length by rw [hF]; exact fd_len ks k)
    clear hks hF hfd hqm hh hb E hL hlen hs hm hq hk hpb hN kk1 kk2 hkk
    go_enter Tryz.func34, Tryz.ntmps34
    go_wp2
    clear ek0 hx0
    rw [hqw]
    clear hqw
    go_loopg [10] (N + 1).toNat (fun kq v10 w' => ∃ (out' : List Int) (cur' : Array Value), v10 = .int .i64 ((kq : Int) - 1) ∧ Aside0 ((kq : Int) ≤ N + 1) ∧ Aside0 (lp kk k F s m kq out' = lp kk k F s m (N + 1).toNat out) ∧ Aside0 (out'.length = ks.length) ∧ Aside0 (w'.heap[pb]? = some (.cells cur' 3 (0, 0))) ∧ Aside0 (Holds cp cur' out') ∧ Aside0 (Bp pb w w'))
    case atStart =>
      have hn0 : 0 ≤ N := by have := HNN.out; have := HM.out; omega
      exact ⟨out, cur, by rw [Int.toNat_of_nonneg (by omega)]; congr 1; omega, ⟨by rw [Int.toNat_of_nonneg (by omega)]; exact Int.le_refl _⟩, ⟨rfl⟩, HLEN, HB, HH, HBP⟩
    case round =>
      clear HH HB
      obtain ⟨out1, cur1, rfl, HKQ, HR, HLEN1, HB, HH, HBP⟩ := hrel
      cases gk with
      | zero =>
        have z0 : (0 ≤ ((0 : Nat) : Int) - 1) = False := eq_false (by omega)
        go_wp2
        go_ret
        rw [← HR.out]
        exact ⟨rfl, HBP.out, cur1, HB.out, HH.out⟩
      | succ n =>
        have hn : (n : Int) ≤ N := by have := HKQ.out; omega
        have hnm : (n : Int) ≤ m := by have := HNN.out; omega
        have hnq : (n : Int) ≤ q := by have := HNN.out; omega
        have hnk : (n : Int) * kk ≤ s := Int.le_trans (Int.mul_le_mul_of_nonneg_right hnq (by have := HKK.out; omega)) HQ.out
        have hnk0 : 0 ≤ (n : Int) * kk := Int.mul_nonneg (by omega) (by have := HKK.out; omega)
        rw [show ((n + 1 : Nat) : Int) - 1 = (n : Int) by omega]
        obtain ⟨pr, hpr⟩ : ∃ p, p = (n : Int) * kk := ⟨_, rfl⟩
        rw [← hpr] at hnk hnk0
        have hb1 : 0 ≤ s - pr ∧ s - pr ≤ 1000000 := by have := HS.out; omega
        have hb2 : 0 ≤ m - n ∧ m - n ≤ 1000000 := by have := HM.out; omega
        have z0 : (0 ≤ (n : Int)) = True := eq_true (by omega)
        have z1 : decide (0 ≤ (n : Int)) = true := decide_eq_true (by omega)
        have w1 : wrap64 ((n : Int) * kk) = pr := by rw [← hpr]; unfold wrap64; have := HS.out; omega
        have w2 : wrap64 (s - pr) = s - pr := by unfold wrap64; omega
        have w3 : wrap64 (m - (n : Int)) = m - n := by unfold wrap64; omega
        have w4 : wrap64 ((k : Int) - 1) = (k : Int) - 1 := by have := HK.out; unfold wrap64; omega
        have v1 : IntKind.i64.wrap ((n : Int) * kk) = pr := by rw [i64_w]; exact w1
        have v2 : IntKind.i64.wrap (s - pr) = s - pr := by rw [i64_w]; exact w2
        have v3 : IntKind.i64.wrap (m - (n : Int)) = m - n := by rw [i64_w]; exact w3
        have v4 : IntKind.i64.wrap ((k : Int) - 1) = (k : Int) - 1 := by rw [i64_w]; exact w4
        have hlt : (k : Int) < (out1.length : Int) := by rw [HLEN1.out]; have := HK.out; omega
        have E1 := HE.out.bp HBP.out
        have hL1 := Aside0.mk (Bp.under HL.out HBP.out HPB.out)
        have r1 : wr.cell? ⟨bo, 0, none⟩ = some (.slice (some ⟨pb, 0, none⟩) ks.length cp) := (blk_cell E1.eo 0).trans rfl
        have r2 : wr.cell? ⟨pb, k, none⟩ = some (.int .i64 (rd out1 k)) := (blk_cell HB.out _).trans (by have := HH.out.2 k (by omega) hlt; rw [Int.toNat_natCast] at this; exact this)
        have r3 := blk_frozen HB.out k
        have HE1 := Aside0.mk E1
        have HO := Aside0.mk (HH.out.set k n (by omega) hlt)
        have HLT := Aside0.mk hlt
        have HPR := Aside0.mk hpr
        have HX1 := Aside0.mk hb1
        have HX2 := Aside0.mk hb2
        have HX3 := Aside0.mk (And.intro hnk0 hnk)
        have HNX := Aside0.mk hn
        clear hn hnm hnq hnk hnk0 hb1 hb2 hlt E1 hpr
        go_upto_region 7 with fail
        have HB2 := Aside0.mk (blk_set HB.out k (.int .i64 (n : Int)))
        have HE2 := Aside0.mk (HE1.out.set k (.int .i64 (n : Int)))
        have HBP2 := Aside0.mk (HBP.out.set k (.int .i64 (n : Int)))
        have HL2 := Aside0.mk (hL1.out.setCell (p := ⟨pb, k, none⟩) HPB.out (.int .i64 (n : Int)))
        rw [Int.toNat_natCast] at HO
        clear HB HE1 HBP hL1 HH r1 r2 r3
        generalize wr.setCell ⟨pb, k, none⟩ (.int .i64 (n : Int)) = u1 at HB2 HE2 HBP2 HL2 ⊢
        clear wr
        have r1 : u1.cell? ⟨bf, 0, none⟩ = some (.func (.func 34) #[] #[.pointer (some ⟨bk, 0, none⟩), .pointer (some ⟨bo, 0, none⟩), .pointer (some ⟨bf, 0, none⟩)]) := (blk_cell HE2.out.ef 0).trans rfl
        have r2 : u1.cell? ⟨bk, 0, none⟩ = some (.slice (some ad) ks.length ck) := (blk_cell HE2.out.ek 0).trans rfl
        obtain ⟨ad', had, r3⟩ := Kd.at_int (Kd.C_below HKL HL2.out) (k : Int) (by omega) (by have := HK.out; omega)
        obtain rfl : ad = ad' := Option.some.inj had
        rw [Int.toNat_natCast, ← HKE.out] at r3
        obtain ⟨b, o3, hF3⟩ : ∃ b o3, F (upd out1 k n) (s - pr) (m - n) = (b, o3) := ⟨_, _, rfl⟩
        have hlen3 : (upd out1 k n).length = ks.length := by rw [upd_length]; exact HLEN1.out
        have IH := Aside0.mk (fun (w : World) h1 h2 h3 => ih (by have := HK.out; omega) (s - pr) (m - n) HX1.out HX2.out (upd out1 k n) hlen3 (cur1.setIfInBounds k (.int .i64 (n : Int))) w h1 h2 h3 HO.out)
        have hc := IH.out u1.drew (below_drew1 HL2.out) (HE2.out.below (below_drew1 (Below.refl _ _))) HB2.out
        rw [hF3] at hc
        have HC := Aside0.mk hc
        have HPP := Aside0.mk (And.intro (show (0 : Int) ≤ (k : Int) by omega) (show (k : Int) < (ks.length : Int) by have := HK.out; omega))
        clear hc IH
        have HF3 := Aside0.mk hF3
        clear had hF3 hlen3 HO ih
        go_region_held3 (fun w' => w'.cell? ⟨bf, 0, none⟩ = some (.func (.func 34) #[] #[.pointer (some ⟨bk, 0, none⟩), .pointer (some ⟨bo, 0, none⟩), .pointer (some ⟨bf, 0, none⟩)]) ∧ w'.cell? ⟨bk, 0, none⟩ = some (.slice (some ad) ks.length ck) ∧ w'.cell? (ad.add k) = some (.int .i64 kk)) (exact ⟨r1, r2, r3⟩) (first
          | (go_at_call 34; (with_reducible refine HC.out.mono ?_); rintro e w3 ⟨rfl, hbp, cur3, hb3, hh3⟩; clear r1 r2 r3; have E3 := (HE2.out.below (below_drew1 (Below.refl _ _))).bp hbp; have r1 : w3.cell? ⟨bf, 0, none⟩ = some (.func (.func 34) #[] #[.pointer (some ⟨bk, 0, none⟩), .pointer (some ⟨bo, 0, none⟩), .pointer (some ⟨bf, 0, none⟩)]) := (blk_cell E3.ef 0).trans rfl; have r2 : w3.cell? ⟨bk, 0, none⟩ = some (.slice (some ad) ks.length ck) := (blk_cell E3.ek 0).trans rfl; obtain ⟨ad2, had2, r3⟩ := Kd.at_int (Kd.C_below HKL (Bp.under (below_drew1 HL2.out) hbp HPB.out)) (k : Int) HPP.out.1 HPP.out.2; obtain rfl : ad = ad2 := Option.some.inj had2; rw [Int.toNat_natCast, ← HKE.out] at r3; have HBP3 := Aside0.mk (HBP2.out.drew.trans hbp); have HB3 := Aside0.mk hb3; have HH3 := Aside0.mk hh3; clear hbp hb3 hh3 HBP2 HB2 HE2 HL2 E3 had2))
        have HLEN3 := Aside0.mk (show o3.length = ks.length by have h1 := HFL.out (upd out1 k n) (s - pr) (m - n); rw [HF3.out] at h1; rw [h1, upd_length]; exact HLEN1.out)
        have hlp : lp kk k F s m (n + 1) out1 = if b = true then (true, o3) else lp kk k F s m n o3 := by
          simp only [lp]
          rw [← HPR.out, HF3.out]
        cases b
        · have HR3 := Aside0.mk (hlp.symm.trans HR.out)
          have HPOS := Aside0.mk (show (n : Int) ≤ N + 1 by have := HNX.out; omega)
          have v5 : wrap64 ((n : Int) - 1) = (n : Int) - 1 := by have := HNX.out; have := HNN.out; have := HM.out; unfold wrap64; omega
          have v6 : IntKind.i64.wrap ((n : Int) - 1) = (n : Int) - 1 := by rw [i64_w]; exact v5
          clear hlp HR
          go_wp2
          go_roundg n
          case measure => omega
          case rel => exact ⟨o3, cur3, rfl, HPOS, HR3, HLEN3, HB3, HH3, HBP3⟩
        · have hr : (true, o3) = lp kk k F s m (N + 1).toNat out := hlp.symm.trans HR.out
          have HR3 := Aside0.mk hr
          clear hlp hr HR
          go_wp2
          go_ret
          rw [← HR3.out]
          exact ⟨rfl, HBP3.out, cur3, HB3.out, HH3.out⟩
end Go.Proofs.YthcbaogbncakdaaGreatDoor.QFnGoalsReached
