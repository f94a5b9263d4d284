/- The closure of impl.CountFirsts, walked: by how many ways of the games that are left no team has more points than one. -/
import Derived.Test.YtmijfimjlenmpaaQFnExactMostPointsx4
import Derived.Test.YtmijfimjlenmpaaGMax
import Derived.StillTailTactics
import Derived.BigQuiet
namespace Go.Proofs.Ytmijfimjlenmpaa.QFnExactMostPoints
open Go.RowKit Go.Proofs.YtmijfimjlenmpaaW.PrintWords Go.Proofs.YtmijfimjlenmpaaW.PrintLast Go.Proofs.YtmijfimjlenmpaaW.PrintMore
set_option linter.unusedVariables false
set_option linter.unusedSimpArgs false
/-- What the closure holds: the games left, the points (a row in block pb), the team, the league, itself. -/
structure Env (bl bp bt bL bc pb : Nat) (AL : Option Addr) (nL cL np cp : Nat) (team a0 a1 : Int) (A2 : Option Addr) (n2 c2 : Nat) (w : World) : Prop where
  el : w.heap[bl]? = some (.cells #[.slice AL nL cL] 46 (0, 0))
  ep : w.heap[bp]? = some (.cells #[.slice (some ⟨pb, 0, none⟩) np cp] 36 (0, 0))
  et : w.heap[bt]? = some (.cells #[.int .i64 team] 3 (0, 0))
  eL : w.heap[bL]? = some (.cells #[.int .i64 a0, .int .i64 a1, .slice A2 n2 c2] 30 (0, 0))
  ec : w.heap[bc]? = some (.cells #[.func (.func 38) #[] #[.pointer (some ⟨bl, 0, none⟩), .pointer (some ⟨bp, 0, none⟩), .pointer (some ⟨bt, 0, none⟩), .pointer (some ⟨bL, 0, none⟩), .pointer (some ⟨bc, 0, none⟩)]] 56 (0, 0))
  nl : bl ≠ pb
  np_ : bp ≠ pb
  nt : bt ≠ pb
  nL_ : bL ≠ pb
  nc : bc ≠ pb
theorem Env.below {bl bp bt bL bc pb : Nat} {AL : Option Addr} {nL cL np cp : Nat} {team a0 a1 : Int} {A2 : Option Addr} {n2 c2 : Nat} {w w1 : World} (h : Env bl bp bt bL bc pb AL nL cL np cp team a0 a1 A2 n2 c2 w) (hb : Below w.heap.size w w1) :
    Env bl bp bt bL bc pb AL nL cL np cp team a0 a1 A2 n2 c2 w1 := ⟨blk_below h.el hb, blk_below h.ep hb, blk_below h.et hb, blk_below h.eL hb, blk_below h.ec hb, h.nl, h.np_, h.nt, h.nL_, h.nc⟩
theorem Env.set {bl bp bt bL bc pb : Nat} {AL : Option Addr} {nL cL np cp : Nat} {team a0 a1 : Int} {A2 : Option Addr} {n2 c2 : Nat} {w : World} (h : Env bl bp bt bL bc pb AL nL cL np cp team a0 a1 A2 n2 c2 w) (i : Nat) (u : Value) :
    Env bl bp bt bL bc pb AL nL cL np cp team a0 a1 A2 n2 c2 (w.setCell ⟨pb, i, none⟩ u) := ⟨blk_far h.el h.nl u, blk_far h.ep h.np_ u, blk_far h.et h.nt u, blk_far h.eL h.nL_ u, blk_far h.ec h.nc u, h.nl, h.np_, h.nt, h.nL_, h.nc⟩
/-- The cells of the points' block. -/
def Holds (cur : Array Value) (pts : List Int) : Prop := ∀ (i : Int), 0 ≤ i → i < (pts.length : Int) → cur[i.toNat]? = some (.int .i64 (rd pts i))
def upd (pts : List Int) (i v : Int) : List Int := pts.set i.toNat v
theorem rd_upd (pts : List Int) (i v j : Int) (hi0 : 0 ≤ i) (hi : i < (pts.length : Int)) (hj0 : 0 ≤ j) : rd (upd pts i v) j = if j = i then v else rd pts j := by
  unfold rd upd
  by_cases e : j = i
  · subst e
    rw [if_pos rfl, List.getD_eq_getElem?_getD, List.getElem?_set_self (by omega)]
    rfl
  · rw [if_neg e, List.getD_eq_getElem?_getD, List.getD_eq_getElem?_getD, List.getElem?_set_ne (by omega)]
theorem upd_length (pts : List Int) (i v : Int) : (upd pts i v).length = pts.length := List.length_set
theorem Holds.set {cur : Array Value} {pts : List Int} (h : Holds cur pts) (i v : Int) (hi0 : 0 ≤ i) (hi : i < (pts.length : Int)) : Holds (cur.setIfInBounds i.toNat (.int .i64 v)) (upd pts i v) := by
  intro j hj0 hj
  rw [upd_length] at hj
  have hc := h i hi0 hi
  have hlt : i.toNat < cur.size := (Array.getElem?_eq_some_iff.1 hc).1
  rw [rd_upd pts i v j hi0 hi hj0]
  by_cases e : j = i
  · subst e
    rw [if_pos rfl, Array.getElem?_setIfInBounds_self_of_lt hlt]
  · rw [if_neg e, Array.getElem?_setIfInBounds_ne (by omega)]
    exact h j hj0 hj
/-- The games' ways. -/
def gain (win : Int) (g0 g1 : Int) : Int × Int := if g0 > g1 then (win, 0) else (if g0 < g1 then (0, win) else (1, 1))
def after (pts : List Int) (g : List Int) (a b : Int) : List Int := upd (upd pts (rd g 0) (wrap64 (rd pts (rd g 0) + a))) (rd g 1) (wrap64 (rd (upd pts (rd g 0) (wrap64 (rd pts (rd g 0) + a))) (rd g 1) + b))
def cnt (win team : Int) : List (List Int) → List Int → Int
  | [], pts => if mxl (rd pts 0) (pts.drop 1) = rd pts team then 1 else 0
  | g :: gs, pts => wrap64 (wrap64 (wrap64 (0 + cnt win team gs (after pts g win 0)) + cnt win team gs (after pts g 0 win)) + cnt win team gs (after pts g 1 1))
theorem add_mk (pb i : Nat) : (⟨pb, 0, none⟩ : Addr).add i = ⟨pb, i, none⟩ := by
  unfold Addr.add
  by_cases e : i = 0
  · subst e; rfl
  · simp [e]
theorem C_of_holds {w : World} {pb : Nat} {cur : Array Value} {pts : List Int} (hb : w.heap[pb]? = some (.cells cur 3 (0, 0))) (h : Holds cur pts) (hl : pts.length ≤ 9223372036854775807) : Kd.C (Kd.int .i64) w (some ⟨pb, 0, none⟩) pts.length pts := by
  refine ⟨rfl, hl, fun _ => ⟨_, rfl, fun j p hj => ?_⟩⟩
  obtain ⟨hlt, rfl⟩ := List.getElem?_eq_some_iff.1 hj
  have hc := h j (by omega) (by omega)
  have hr : rd pts (j : Int) = pts[j] := by unfold rd; simp [List.getD_eq_getElem?_getD, List.getElem?_eq_getElem hlt]
  refine ⟨[.int .i64 pts[j]], rfl, rfl, fun i u hu => ?_⟩
  match i, hu with
  | 0, hu =>
    cases hu
    have := (blk_cell hb j).trans (by simpa [hr] using hc)
    rw [show ((Kd.int .i64)).sz = 1 from rfl, Nat.mul_one, Nat.add_zero, add_mk]
    exact this
set_option maxHeartbeats 8000000 in
set_option maxRecDepth 100000 in
theorem count.base (bl bp bt bL bc pb : Nat) (AL : Option Addr) (nL cL np cp : Nat) (team a0 a1 : Int) (A2 : Option Addr) (n2 c2 : Nat) (pts : List Int) (cur : Array Value) (w : World)
    (E : Env bl bp bt bL bc pb AL nL cL pts.length cp team a0 a1 A2 n2 c2 w) (hb : w.heap[pb]? = some (.cells cur 3 (0, 0))) (hh : Holds cur pts) (hl : pts.length ≤ 9223372036854775807) (hcp : pts.length ≤ cp) (t0 : 0 ≤ team) (t1 : team < (pts.length : Int)) :
    Calls Try.prog 38 #[.int .i64 (nL : Int), .pointer (some ⟨bl, 0, none⟩), .pointer (some ⟨bp, 0, none⟩), .pointer (some ⟨bt, 0, none⟩), .pointer (some ⟨bL, 0, none⟩), .pointer (some ⟨bc, 0, none⟩)] w fun e w' => e = .returned (.int .i64 (cnt a1 team [] pts)) ∧ Below w.heap.size w w' := by
  have hC := Aside0.mk (C_of_holds hb hh hl)
  have h1 : w.cell? ⟨bl, 0, none⟩ = some (.slice AL nL cL) := (blk_cell E.el 0).trans rfl
  have h2 : w.cell? ⟨bp, 0, none⟩ = some (.slice (some ⟨pb, 0, none⟩) pts.length cp) := (blk_cell E.ep 0).trans rfl
  have h3 : w.cell? ⟨bt, 0, none⟩ = some (.int .i64 team) := (blk_cell E.et 0).trans rfl
  have h4 : w.cell? ⟨pb, team.toNat, none⟩ = some (.int .i64 (rd pts team)) := (blk_cell hb _).trans (hh team t0 t1)
  have hn : 0 < pts.length := by omega
  have HN := Aside0.mk hn
  have HCP := Aside0.mk hcp
  clear hb hh E hl hcp hn
  replace t0 := eq_true t0
  replace t1 := eq_true t1
  by_cases c : mxl (rd pts 0) (pts.drop 1) = rd pts team
  · have hr : cnt a1 team [] pts = 1 := if_pos c
    rw [hr]
    clear hr
    obtain ⟨m, hm⟩ : ∃ m, mxl (rd pts 0) (pts.drop 1) = m := ⟨_, rfl⟩
    have HM := Aside0.mk hm
    have cb : (m == rd pts team) = true := beq_iff_eq.2 (hm.symm.trans c)
    clear hm c
    go_enter Try.func38, Try.ntmps38
    go_wp2
    go_quiet (first | (go_at_call 39; (with_reducible refine (max.calls _ cp pts _ (Kd.C_drewN hC.out _) HCP.out HN.out).mono ?_); rw [HM.out]; rintro e w' ⟨rfl, ⟨nd, rfl⟩⟩; (try first | exact ⟨rfl, _, World.drewN_drewN _ _ _⟩ | exact ⟨rfl, _, Eq.trans (World.drewN_drewN _ _ _) (congrArg (World.drewN _) (Nat.add_assoc _ _ _))⟩)) | (go_at_call 34; (with_reducible refine (impl_btoi.calls true 1 _ rfl).mono ?_); rintro e w' ⟨rfl, ⟨nd, rfl⟩⟩; (try first | exact ⟨rfl, _, World.drewN_drewN _ _ _⟩ | exact ⟨rfl, _, Eq.trans (World.drewN_drewN _ _ _) (congrArg (World.drewN _) (Nat.add_assoc _ _ _))⟩)))
    go_wp2
    go_ret
    exact ⟨rfl, by repeat (first | exact Below.refl _ _ | apply pw_below_drewN | apply below_drew1)⟩
  · have hr : cnt a1 team [] pts = 0 := if_neg c
    rw [hr]
    clear hr
    obtain ⟨m, hm⟩ : ∃ m, mxl (rd pts 0) (pts.drop 1) = m := ⟨_, rfl⟩
    have HM := Aside0.mk hm
    have cb : (m == rd pts team) = false := beq_eq_false_iff_ne.2 (fun e => c (hm.trans e))
    clear hm c
    go_enter Try.func38, Try.ntmps38
    go_wp2
    go_quiet (first | (go_at_call 39; (with_reducible refine (max.calls _ cp pts _ (Kd.C_drewN hC.out _) HCP.out HN.out).mono ?_); rw [HM.out]; rintro e w' ⟨rfl, ⟨nd, rfl⟩⟩; (try first | exact ⟨rfl, _, World.drewN_drewN _ _ _⟩ | exact ⟨rfl, _, Eq.trans (World.drewN_drewN _ _ _) (congrArg (World.drewN _) (Nat.add_assoc _ _ _))⟩)) | (go_at_call 34; (with_reducible refine (impl_btoi.calls false 0 _ rfl).mono ?_); rintro e w' ⟨rfl, ⟨nd, rfl⟩⟩; (try first | exact ⟨rfl, _, World.drewN_drewN _ _ _⟩ | exact ⟨rfl, _, Eq.trans (World.drewN_drewN _ _ _) (congrArg (World.drewN _) (Nat.add_assoc _ _ _))⟩)))
    go_wp2
    go_ret
    exact ⟨rfl, by repeat (first | exact Below.refl _ _ | apply pw_below_drewN | apply below_drew1)⟩
/-- As it was, but for the points' block. -/
structure Bp (pb : Nat) (w w' : World) : Prop where
  os : w'.os = w.os
  tape : w'.tape = w.tape
  output : w'.output = w.output
  size : w.heap.size ≤ w'.heap.size
  block : ∀ i, i < w.heap.size → i ≠ pb → w'.heap[i]? = w.heap[i]?
theorem Bp.of {pb : Nat} {w w' : World} (h : Below w.heap.size w w') : Bp pb w w' := ⟨h.os, h.tape, h.output, h.size, fun i hi _ => h.block i hi⟩
theorem Bp.step {pb : Nat} {w w' w2 : World} (h : Bp pb w w') (k : Below w'.heap.size w' w2) : Bp pb w w2 := ⟨k.os.trans h.os, k.tape.trans h.tape, k.output.trans h.output, Nat.le_trans h.size k.size, fun i hi hp => (k.block i (Nat.lt_of_lt_of_le hi h.size)).trans (h.block i hi hp)⟩
theorem Bp.set {pb : Nat} {w w' : World} (h : Bp pb w w') (i : Nat) (u : Value) : Bp pb w (w'.setCell ⟨pb, i, none⟩ u) := ⟨h.os, h.tape, h.output, by simpa [World.setCell] using h.size, fun j hj hp => (Below.heap_setCell w' ⟨pb, i, none⟩ u j hp).trans (h.block j hj hp)⟩
theorem Bp.back {pb : Nat} {w w' : World} (h : Bp pb w w') (hb : w'.heap[pb]? = w.heap[pb]?) : Below w.heap.size w w' := ⟨h.os, h.tape, h.output, h.size, fun i hi => by
  by_cases e : i = pb
  · rw [e]; exact hb
  · exact h.block i hi e⟩
theorem wrap_in {x : Int} (h : -9223372036854775808 ≤ x ∧ x < 9223372036854775808) (y : Int) : wrap64 (wrap64 (x + y) - y) = x := by unfold wrap64; omega
theorem wrap_in2 {x : Int} (h : -9223372036854775808 ≤ x ∧ x < 9223372036854775808) (y z : Int) : wrap64 (wrap64 (wrap64 (wrap64 (x + y) + z) - y) - z) = x := by unfold wrap64; omega
theorem wrap_range (x : Int) : -9223372036854775808 ≤ wrap64 x ∧ wrap64 x < 9223372036854775808 := by unfold wrap64; omega
theorem restore {cur : Array Value} {pts : List Int} (hh : Holds cur pts) (h a x y : Int) (h0 : 0 ≤ h) (h1 : h < (pts.length : Int)) (z0 : 0 ≤ a) (z1 : a < (pts.length : Int)) (i1 : -9223372036854775808 ≤ rd pts h ∧ rd pts h < 9223372036854775808) (i2 : -9223372036854775808 ≤ rd pts a ∧ rd pts a < 9223372036854775808)
    (p1 p2 p3 : List Int) (e1 : p1 = upd pts h (wrap64 (rd pts h + x))) (e2 : p2 = upd p1 a (wrap64 (rd p1 a + y))) (e3 : p3 = upd p2 h (wrap64 (rd p2 h - x))) :
    (((cur.setIfInBounds h.toNat (.int .i64 (wrap64 (rd pts h + x)))).setIfInBounds a.toNat (.int .i64 (wrap64 (rd p1 a + y)))).setIfInBounds h.toNat (.int .i64 (wrap64 (rd p2 h - x)))).setIfInBounds a.toNat (.int .i64 (wrap64 (rd p3 a - y))) = cur := by
  have c1 := hh h h0 h1
  have c2 := hh a z0 z1
  have l1 : h.toNat < cur.size := (Array.getElem?_eq_some_iff.1 c1).1
  have l2 : a.toNat < cur.size := (Array.getElem?_eq_some_iff.1 c2).1
  have le1 : p1.length = pts.length := by rw [e1, upd_length]
  have le2 : p2.length = pts.length := by rw [e2, upd_length, le1]
  have v4 : wrap64 (rd p3 a - y) = rd pts a := by
    rw [e3, rd_upd p2 h _ a h0 (by omega) z0]
    by_cases e : a = h
    · subst e
      rw [if_pos rfl, e2, rd_upd p1 a _ a z0 (by omega) z0, if_pos rfl, e1, rd_upd pts a _ a z0 z1 z0, if_pos rfl]
      exact wrap_in2 i1 x y
    · rw [if_neg e, e2, rd_upd p1 a _ a z0 (by omega) z0, if_pos rfl, e1, rd_upd pts h _ a h0 h1 z0, if_neg e]
      exact wrap_in i2 y
  have v3 : a ≠ h → wrap64 (rd p2 h - x) = rd pts h := by
    intro e
    rw [e2, rd_upd p1 a _ h z0 (by omega) h0, if_neg (fun q => e q.symm), e1, rd_upd pts h _ h h0 h1 h0, if_pos rfl]
    exact wrap_in i1 x
  refine Array.ext_getElem? (fun j => ?_)
  by_cases ja : j = a.toNat
  · subst ja
    rw [Array.getElem?_setIfInBounds_self_of_lt (by simpa using l2), v4, c2]
  · rw [Array.getElem?_setIfInBounds_ne (fun q => ja q.symm)]
    by_cases jh : j = h.toNat
    · subst jh
      rw [Array.getElem?_setIfInBounds_self_of_lt (by simpa using l1), v3 (by intro q; subst q; exact ja rfl), c1]
    · rw [Array.getElem?_setIfInBounds_ne (fun q => jh q.symm), Array.getElem?_setIfInBounds_ne (fun q => ja q.symm), Array.getElem?_setIfInBounds_ne (fun q => jh q.symm)]
def part (win : Int) (F : Int → Int → Int) : Nat → Int
  | 0 => 0
  | 1 => wrap64 (0 + F win 0)
  | 2 => wrap64 (wrap64 (0 + F win 0) + F 0 win)
  | _ => wrap64 (wrap64 (wrap64 (0 + F win 0) + F 0 win) + F 1 1)
def aft (pts : List Int) (h a x y : Int) : List Int := upd (upd pts h (wrap64 (rd pts h + x))) a (wrap64 (rd (upd pts h (wrap64 (rd pts h + x))) a + y))
def litCells : Array Value := #[.int .i64 1, .int .i64 0, .int .i64 0, .int .i64 1, .int .i64 0, .int .i64 0]
theorem lit_round (w : World) (g : Nat) (hg : w.heap[g]? = some (.cells litCells 58 (0, 0))) (a0 a1 : Int) (l2 : List S68) (F : Int → Int → Int) (j : Nat) (hj : j < 3) :
    ∃ g0 g1 x y, w.cell? ⟨g, j * 2, none⟩ = some (.int .i64 g0) ∧ w.cell? ⟨g, j * 2 + 1, none⟩ = some (.int .i64 g1) ∧ impl_League_points.f a0 a1 l2 g0 g1 = some (x, y) ∧ part a1 F (j + 1) = wrap64 (part a1 F j + F x y) := by
  match j, hj with
  | 0, _ => exact ⟨1, 0, a1, 0, (blk_cell hg _).trans rfl, (blk_cell hg _).trans rfl, rfl, rfl⟩
  | 1, _ => exact ⟨0, 1, 0, a1, (blk_cell hg _).trans rfl, (blk_cell hg _).trans rfl, rfl, rfl⟩
  | 2, _ => exact ⟨0, 0, 1, 1, (blk_cell hg _).trans rfl, (blk_cell hg _).trans rfl, rfl, rfl⟩
set_option maxHeartbeats 8000000 in
set_option maxRecDepth 100000 in
theorem count.step (bl bp bt bL bc pb : Nat) (AL : Option Addr) (nL cL np cp : Nat) (team a0 a1 : Int) (A2 : Option Addr) (n2 c2 : Nat) (l2 : List S68) (wL : World)
    (HL2 : Kd.C k68 wL A2 l2.length l2) (hc2 : l2.length ≤ c2) (hpb : wL.heap.size ≤ pb)
    (k : Nat) (hk : k < nL) (ad ad2 : Addr) (eAL : AL = some ad) (lg cg : Nat) (h a : Int)
    (x1 : wL.cell? (ad.add k) = some (.slice (some ad2) lg cg)) (x2 : wL.cell? ad2 = some (.int .i64 h)) (x3 : wL.cell? (ad2.add 1) = some (.int .i64 a)) (hlg : 1 < lg)
    (h0 : 0 ≤ h) (h1 : h < (np : Int)) (z0 : 0 ≤ a) (z1 : a < (np : Int)) (F : List Int → Int)
    (IH : Aside0 (∀ (pts : List Int) (cur : Array Value) (w : World), Below wL.heap.size wL w → Env bl bp bt bL bc pb AL nL cL np cp team a0 a1 A2 n2 c2 w → w.heap[pb]? = some (.cells cur 3 (0, 0)) → Holds cur pts → pts.length = np → (∀ i, 0 ≤ i → i < (np : Int) → -9223372036854775808 ≤ rd pts i ∧ rd pts i < 9223372036854775808) →
      Calls Try.prog 38 #[.int .i64 ((k : Int) + 1), .pointer (some ⟨bl, 0, none⟩), .pointer (some ⟨bp, 0, none⟩), .pointer (some ⟨bt, 0, none⟩), .pointer (some ⟨bL, 0, none⟩), .pointer (some ⟨bc, 0, none⟩)] w fun e w' => e = .returned (.int .i64 (F pts)) ∧ Below w.heap.size w w'))
    (pts : List Int) (cur : Array Value) (w : World) (hbL : Below wL.heap.size wL w) (E : Env bl bp bt bL bc pb AL nL cL np cp team a0 a1 A2 n2 c2 w) (hb : w.heap[pb]? = some (.cells cur 3 (0, 0))) (hh : Holds cur pts) (hlen : pts.length = np) (hin : ∀ i, 0 ≤ i → i < (np : Int) → -9223372036854775808 ≤ rd pts i ∧ rd pts i < 9223372036854775808)
    (hn2 : n2 = l2.length) (hnp : np ≤ cp) (hnm : np ≤ 9223372036854775807) (hnL : nL ≤ 9223372036854775807) :
    Calls Try.prog 38 #[.int .i64 (k : Int), .pointer (some ⟨bl, 0, none⟩), .pointer (some ⟨bp, 0, none⟩), .pointer (some ⟨bt, 0, none⟩), .pointer (some ⟨bL, 0, none⟩), .pointer (some ⟨bc, 0, none⟩)] w fun e w' => e = .returned (.int .i64 (part a1 (fun x y => F (aft pts h a x y)) 3)) ∧ Below w.heap.size w w' := by
  subst hn2
  subst eAL
  have hu30 := Try.underlying30
  have hu58 := Try.underlying58
  have h1c : w.cell? ⟨bl, 0, none⟩ = some (.slice (some ad) nL cL) := (blk_cell E.el 0).trans rfl
  have ckb : ((k : Int) == (nL : Int)) = false := beq_eq_false_iff_ne.2 (by omega)
  have HBL := Aside0.mk hbL
  have HE := Aside0.mk E
  have HP := Aside0.mk hb
  have HH := Aside0.mk hh
  have HLEN := Aside0.mk hlen
  have HIN := Aside0.mk hin
  have HL2' := Aside0.mk HL2
  have HC2 := Aside0.mk hc2
  have HPB := Aside0.mk hpb
  have X1 := Aside0.mk x1
  have X2 := Aside0.mk x2
  have X3 := Aside0.mk x3
  have HK := Aside0.mk hk
  have HLG := Aside0.mk hlg
  have B0 := Aside0.mk (And.intro h0 h1)
  have B1 := Aside0.mk (And.intro z0 z1)
  have HNP := Aside0.mk hnp
  have HNM := Aside0.mk hnm
  have HNL := Aside0.mk hnL
  clear hbL E hb hh hlen hin HL2 hc2 hpb x1 x2 x3 hk hlg h0 h1 z0 z1 hnp hnm hnL
  obtain ⟨g, hg⟩ : ∃ g, g = w.heap.size := ⟨_, rfl⟩
  have GB : Aside0 ((w.alloc (.cells litCells 58)).heap[g]? = some (.cells litCells 58 (0, 0))) := ⟨by rw [hg]; exact heap_alloc_new w _⟩
  have HB : Aside0 (Below w.heap.size w (w.alloc (.cells litCells 58))) := ⟨below_alloc (Below.refl _ _) _⟩
  go_enter Try.func38, Try.ntmps38
  go_wp2
  rw [← hg]
  have HGE := Aside0.mk hg
  clear hg
  go_loopg [8, 30] 3 (fun kq v8 v30 w' => ∃ j : Nat, v8 = .int .i64 (part a1 (fun x y => F (aft pts h a x y)) j) ∧ v30 = .int .i64 (j : Int) ∧ Aside0 (kq + j = 3) ∧ Aside0 (w'.heap[g]? = some (.cells litCells 58 (0, 0))) ∧ Aside0 (Below w.heap.size w w'))
  case atStart => exact ⟨0, rfl, rfl, ⟨rfl⟩, GB, HB⟩
  case round =>
    clear GB HB
    obtain ⟨j, rfl, rfl, HJ, GB, HB⟩ := hrel
    cases gk with
    | zero =>
      have hj : j = 3 := by have := HJ.out; omega
      subst hj
      go_wp2
      go_ret
      exact ⟨rfl, HB.out⟩
    | succ k1 =>
      have hj : j < 3 := by have := HJ.out; omega
      obtain ⟨g0, g1, x, y, y1, y2, hf, hp⟩ := lit_round wr g GB.out a0 a1 l2 (fun x y => F (aft pts h a x y)) j hj
      have cj : decide ((j : Int) < 3) = true := decide_eq_true (by omega)
      have HF := Aside0.mk hf
      have HPt := Aside0.mk hp
      have HJ3 := Aside0.mk hj
      clear hf hp
      have q1 : ((j : Int) < 3) = True := eq_true (by omega)
      clear hj
      have E1 := HE.out.below HB.out
      have l0 : wr.cell? ⟨bL, 0, none⟩ = some (.int .i64 a0) := (blk_cell E1.eL 0).trans rfl
      have l1 : wr.cell? ⟨bL, 1, none⟩ = some (.int .i64 a1) := (blk_cell E1.eL 1).trans rfl
      have l2_ : wr.cell? ⟨bL, 2, none⟩ = some (.slice A2 l2.length c2) := (blk_cell E1.eL 2).trans rfl
      have l0' : ∀ o, (wr.alloc o).cell? ⟨bL, 0, none⟩ = some (.int .i64 a0) := fun o => Lib.cell?_alloc_some o l0
      have l1' : ∀ o, (wr.alloc o).cell? ⟨bL, 1, none⟩ = some (.int .i64 a1) := fun o => Lib.cell?_alloc_some o l1
      have l2' : ∀ o, (wr.alloc o).cell? ⟨bL, 2, none⟩ = some (.slice A2 l2.length c2) := fun o => Lib.cell?_alloc_some o l2_
      clear E1 l0 l1 l2_
      go_wp2_with (go_at_call 40; (with_reducible refine (impl_League_points.calls a0 a1 A2 c2 l2 g0 g1 x y _ ?sa ?sb HF.out).mono ?_); (case sa => exact Kd.C_alloc (Kd.C_below HL2'.out (below_step (HBL.out) (HB.out.mono (by have := HBL.out.size; omega)))) _); (case sb => exact HC2.out); rintro e w1 ⟨rfl, hb1⟩; have HB1 := Aside0.mk hb1; clear hb1)
      have HBw1 := below_step (below_alloc HB.out _) HB1.out
      have G0 := Aside0.mk (blk_below (blk_alloc GB.out _) HB1.out)
      have Ew0 := Aside0.mk (HE.out.below HBw1)
      have P0 := Aside0.mk (blk_below HP.out HBw1)
      have L0 := Aside0.mk (below_then HBL.out HBL.out.size HBw1)
      have D0 := Aside0.mk (Bp.of (pb := pb) HBw1)
      clear HB1 GB HB l0' l1' l2' y1 y2 q1 cj HF HBw1
      have k1_ : (k < nL) = True := eq_true HK.out
      have k2_ : (0 < lg) = True := eq_true (by have := HLG.out; omega)
      have k3_ : ((1 : Int) < (lg : Int)) = True := eq_true (by have := HLG.out; omega)
      have k3b_ : (1 < lg) = True := eq_true HLG.out
      have k4_ : (0 ≤ h) = True := eq_true B0.out.1
      have k5_ : (h < (np : Int)) = True := eq_true B0.out.2
      have k6_ : (0 ≤ a) = True := eq_true B1.out.1
      have k7_ : (a < (np : Int)) = True := eq_true B1.out.2
      have NG := Aside0.mk (show g ≠ pb by have := blk_lt HP.out; have := HGE.out; omega)
      have HH0 := HH
      have HLEN0 := HLEN
      have r1 : w1.cell? ⟨bl, 0, none⟩ = some (.slice (some ad) nL cL) := (blk_cell Ew0.out.el 0).trans rfl
      have r2 : w1.cell? ⟨bp, 0, none⟩ = some (.slice (some ⟨pb, 0, none⟩) np cp) := (blk_cell Ew0.out.ep 0).trans rfl
      have r3 : w1.cell? (ad.add k) = some (.slice (some ad2) lg cg) := (L0.out.cell (World.block_lt_of_cell? wL _ X1.out)).trans X1.out
      have r4 : w1.cell? ad2 = some (.int .i64 h) := (L0.out.cell (World.block_lt_of_cell? wL _ X2.out)).trans X2.out
      have r5 : w1.cell? ⟨ad2.block, ad2.off + 1, none⟩ = some (.int .i64 a) := (L0.out.cell (World.block_lt_of_cell? wL _ X3.out)).trans X3.out
      have r6 : w1.cell? ⟨pb, h.toNat, none⟩ = some (.int .i64 (rd pts h)) := (blk_cell P0.out _).trans (HH0.out h B0.out.1 (by rw [HLEN0.out]; exact B0.out.2))
      have r7 := blk_frozen P0.out h.toNat
      go_still_tail 12, (by kernel_rfl)
      change wpList _ _ _ _ _ w1.drew
      have Ew0d := Aside0.mk (Ew0.out.below (below_drew1 (Below.refl _ w1)))
      have P0d := Aside0.mk (blk_drew P0.out)
      have G0d := Aside0.mk (blk_drew G0.out)
      have L0d := Aside0.mk (below_drew1 L0.out)
      have D0d := Aside0.mk (D0.out.step (below_drew1 (Below.refl _ w1)))
      clear Ew0 P0 G0 L0 D0
      replace r6 : w1.drew.cell? ⟨pb, h.toNat, none⟩ = _ := r6
      replace r7 : w1.drew.frozen? ⟨pb, h.toNat, none⟩ = _ := r7
      clear r1 r2 r3 r4 r5
      generalize w1.drew = v0 at r6 r7 Ew0d P0d G0d L0d D0d ⊢
      clear w1
      have Ew1 := Aside0.mk (Ew0d.out.set h.toNat (.int .i64 (wrap64 (rd pts h + x))))
      have P1 := Aside0.mk (blk_set P0d.out h.toNat (.int .i64 (wrap64 (rd pts h + x))))
      have G1 := Aside0.mk (blk_far G0d.out (p := ⟨pb, h.toNat, none⟩) NG.out (.int .i64 (wrap64 (rd pts h + x))))
      have L1 := Aside0.mk (L0d.out.setCell (p := ⟨pb, h.toNat, none⟩) HPB.out (.int .i64 (wrap64 (rd pts h + x))))
      have D1 := Aside0.mk (D0d.out.set h.toNat (.int .i64 (wrap64 (rd pts h + x))))
      clear Ew0d P0d G0d L0d D0d
      have HH1 := Aside0.mk (HH0.out.set h (wrap64 (rd pts h + x)) B0.out.1 (by rw [HLEN0.out]; exact B0.out.2))
      have HLEN1 := Aside0.mk ((upd_length pts h (wrap64 (rd pts h + x))).trans HLEN0.out)
      obtain ⟨p1, hp1⟩ : ∃ p, p = upd pts h (wrap64 (rd pts h + x)) := ⟨_, rfl⟩
      rw [← hp1] at HH1 HLEN1
      have HP1 := Aside0.mk hp1
      clear hp1
      go_wp2
      clear r6 r7
      generalize v0.setCell ⟨pb, h.toNat, none⟩ (.int .i64 (wrap64 (rd pts h + x))) = u1 at Ew1 P1 G1 L1 D1 ⊢
      clear v0
      have r1 : u1.cell? ⟨bl, 0, none⟩ = some (.slice (some ad) nL cL) := (blk_cell Ew1.out.el 0).trans rfl
      have r2 : u1.cell? ⟨bp, 0, none⟩ = some (.slice (some ⟨pb, 0, none⟩) np cp) := (blk_cell Ew1.out.ep 0).trans rfl
      have r3 : u1.cell? (ad.add k) = some (.slice (some ad2) lg cg) := (L1.out.cell (World.block_lt_of_cell? wL _ X1.out)).trans X1.out
      have r4 : u1.cell? ad2 = some (.int .i64 h) := (L1.out.cell (World.block_lt_of_cell? wL _ X2.out)).trans X2.out
      have r5 : u1.cell? ⟨ad2.block, ad2.off + 1, none⟩ = some (.int .i64 a) := (L1.out.cell (World.block_lt_of_cell? wL _ X3.out)).trans X3.out
      have r6 : u1.cell? ⟨pb, a.toNat, none⟩ = some (.int .i64 (rd p1 a)) := (blk_cell P1.out _).trans (HH1.out a B1.out.1 (by rw [HLEN1.out]; exact B1.out.2))
      have r7 := blk_frozen P1.out a.toNat
      go_still_tail 12, (by kernel_rfl)
      change wpList _ _ _ _ _ u1.drew
      have Ew1d := Aside0.mk (Ew1.out.below (below_drew1 (Below.refl _ u1)))
      have P1d := Aside0.mk (blk_drew P1.out)
      have G1d := Aside0.mk (blk_drew G1.out)
      have L1d := Aside0.mk (below_drew1 L1.out)
      have D1d := Aside0.mk (D1.out.step (below_drew1 (Below.refl _ u1)))
      clear Ew1 P1 G1 L1 D1
      replace r6 : u1.drew.cell? ⟨pb, a.toNat, none⟩ = _ := r6
      replace r7 : u1.drew.frozen? ⟨pb, a.toNat, none⟩ = _ := r7
      clear r1 r2 r3 r4 r5
      generalize u1.drew = v1 at r6 r7 Ew1d P1d G1d L1d D1d ⊢
      clear u1
      have Ew2 := Aside0.mk (Ew1d.out.set a.toNat (.int .i64 (wrap64 (rd p1 a + y))))
      have P2 := Aside0.mk (blk_set P1d.out a.toNat (.int .i64 (wrap64 (rd p1 a + y))))
      have G2 := Aside0.mk (blk_far G1d.out (p := ⟨pb, a.toNat, none⟩) NG.out (.int .i64 (wrap64 (rd p1 a + y))))
      have L2 := Aside0.mk (L1d.out.setCell (p := ⟨pb, a.toNat, none⟩) HPB.out (.int .i64 (wrap64 (rd p1 a + y))))
      have D2 := Aside0.mk (D1d.out.set a.toNat (.int .i64 (wrap64 (rd p1 a + y))))
      clear Ew1d P1d G1d L1d D1d
      have HH2 := Aside0.mk (HH1.out.set a (wrap64 (rd p1 a + y)) B1.out.1 (by rw [HLEN1.out]; exact B1.out.2))
      have HLEN2 := Aside0.mk ((upd_length p1 a (wrap64 (rd p1 a + y))).trans HLEN1.out)
      obtain ⟨p2, hp2⟩ : ∃ p, p = upd p1 a (wrap64 (rd p1 a + y)) := ⟨_, rfl⟩
      rw [← hp2] at HH2 HLEN2
      have HP2 := Aside0.mk hp2
      clear hp2
      have f1 : (v1.setCell ⟨pb, a.toNat, none⟩ (.int .i64 (wrap64 (rd p1 a + y)))).cell? ⟨bc, 0, none⟩ = some (.func (.func 38) #[] #[.pointer (some ⟨bl, 0, none⟩), .pointer (some ⟨bp, 0, none⟩), .pointer (some ⟨bt, 0, none⟩), .pointer (some ⟨bL, 0, none⟩), .pointer (some ⟨bc, 0, none⟩)]) := (blk_cell Ew2.out.ec 0).trans rfl
      have HIN2 : Aside0 (∀ i, 0 ≤ i → i < (np : Int) → -9223372036854775808 ≤ rd p2 i ∧ rd p2 i < 9223372036854775808) := ⟨fun i hi0 hi1 => by
        rw [HP2.out, rd_upd p1 a _ i B1.out.1 (by rw [HLEN1.out]; exact B1.out.2) hi0]
        by_cases e : i = a
        · rw [if_pos e]; exact wrap_range _
        · rw [if_neg e, HP1.out, rd_upd pts h _ i B0.out.1 (by rw [HLEN.out]; exact B0.out.2) hi0]
          by_cases e2 : i = h
          · rw [if_pos e2]; exact wrap_range _
          · rw [if_neg e2]; exact HIN.out i hi0 hi1⟩
      have kw : wrap64 ((k : Int) + 1) = (k : Int) + 1 := by have := HK.out; have := HNL.out; unfold wrap64; omega
      go_wp2_with (go_at_call 38; (with_reducible refine (IH.out p2 _ _ L2.out Ew2.out P2.out HH2.out HLEN2.out HIN2.out).mono ?_); rintro e w3 ⟨rfl, hb3⟩; have HB3 := Aside0.mk hb3; clear hb3)
      have Ew3 := Aside0.mk (Ew2.out.below HB3.out)
      have P3 := Aside0.mk (blk_below P2.out HB3.out)
      have G3 := Aside0.mk (blk_below G2.out HB3.out)
      have L3 := Aside0.mk (below_then L2.out L2.out.size HB3.out)
      have D3 := Aside0.mk (D2.out.step HB3.out)
      clear Ew2 P2 G2 L2 D2 HB3 f1 r6 r7 v1
      have HH3 := HH2
      have HLEN3 := HLEN2
      have r1 : w3.cell? ⟨bl, 0, none⟩ = some (.slice (some ad) nL cL) := (blk_cell Ew3.out.el 0).trans rfl
      have r2 : w3.cell? ⟨bp, 0, none⟩ = some (.slice (some ⟨pb, 0, none⟩) np cp) := (blk_cell Ew3.out.ep 0).trans rfl
      have r3 : w3.cell? (ad.add k) = some (.slice (some ad2) lg cg) := (L3.out.cell (World.block_lt_of_cell? wL _ X1.out)).trans X1.out
      have r4 : w3.cell? ad2 = some (.int .i64 h) := (L3.out.cell (World.block_lt_of_cell? wL _ X2.out)).trans X2.out
      have r5 : w3.cell? ⟨ad2.block, ad2.off + 1, none⟩ = some (.int .i64 a) := (L3.out.cell (World.block_lt_of_cell? wL _ X3.out)).trans X3.out
      have r6 : w3.cell? ⟨pb, h.toNat, none⟩ = some (.int .i64 (rd p2 h)) := (blk_cell P3.out _).trans (HH3.out h B0.out.1 (by rw [HLEN3.out]; exact B0.out.2))
      have r7 := blk_frozen P3.out h.toNat
      go_still_tail 12, (by kernel_rfl)
      change wpList _ _ _ _ _ w3.drew
      have Ew3d := Aside0.mk (Ew3.out.below (below_drew1 (Below.refl _ w3)))
      have P3d := Aside0.mk (blk_drew P3.out)
      have G3d := Aside0.mk (blk_drew G3.out)
      have L3d := Aside0.mk (below_drew1 L3.out)
      have D3d := Aside0.mk (D3.out.step (below_drew1 (Below.refl _ w3)))
      clear Ew3 P3 G3 L3 D3
      replace r6 : w3.drew.cell? ⟨pb, h.toNat, none⟩ = _ := r6
      replace r7 : w3.drew.frozen? ⟨pb, h.toNat, none⟩ = _ := r7
      clear r1 r2 r3 r4 r5
      generalize w3.drew = v3 at r6 r7 Ew3d P3d G3d L3d D3d ⊢
      clear w3
      have Ew4 := Aside0.mk (Ew3d.out.set h.toNat (.int .i64 (wrap64 (rd p2 h - x))))
      have P4 := Aside0.mk (blk_set P3d.out h.toNat (.int .i64 (wrap64 (rd p2 h - x))))
      have G4 := Aside0.mk (blk_far G3d.out (p := ⟨pb, h.toNat, none⟩) NG.out (.int .i64 (wrap64 (rd p2 h - x))))
      have L4 := Aside0.mk (L3d.out.setCell (p := ⟨pb, h.toNat, none⟩) HPB.out (.int .i64 (wrap64 (rd p2 h - x))))
      have D4 := Aside0.mk (D3d.out.set h.toNat (.int .i64 (wrap64 (rd p2 h - x))))
      clear Ew3d P3d G3d L3d D3d
      have HH4 := Aside0.mk (HH3.out.set h (wrap64 (rd p2 h - x)) B0.out.1 (by rw [HLEN3.out]; exact B0.out.2))
      have HLEN4 := Aside0.mk ((upd_length p2 h (wrap64 (rd p2 h - x))).trans HLEN3.out)
      obtain ⟨p4, hp4⟩ : ∃ p, p = upd p2 h (wrap64 (rd p2 h - x)) := ⟨_, rfl⟩
      rw [← hp4] at HH4 HLEN4
      have HP4 := Aside0.mk hp4
      clear hp4
      go_wp2
      clear r6 r7
      generalize v3.setCell ⟨pb, h.toNat, none⟩ (.int .i64 (wrap64 (rd p2 h - x))) = u4 at Ew4 P4 G4 L4 D4 ⊢
      clear v3
      have r1 : u4.cell? ⟨bl, 0, none⟩ = some (.slice (some ad) nL cL) := (blk_cell Ew4.out.el 0).trans rfl
      have r2 : u4.cell? ⟨bp, 0, none⟩ = some (.slice (some ⟨pb, 0, none⟩) np cp) := (blk_cell Ew4.out.ep 0).trans rfl
      have r3 : u4.cell? (ad.add k) = some (.slice (some ad2) lg cg) := (L4.out.cell (World.block_lt_of_cell? wL _ X1.out)).trans X1.out
      have r4 : u4.cell? ad2 = some (.int .i64 h) := (L4.out.cell (World.block_lt_of_cell? wL _ X2.out)).trans X2.out
      have r5 : u4.cell? ⟨ad2.block, ad2.off + 1, none⟩ = some (.int .i64 a) := (L4.out.cell (World.block_lt_of_cell? wL _ X3.out)).trans X3.out
      have r6 : u4.cell? ⟨pb, a.toNat, none⟩ = some (.int .i64 (rd p4 a)) := (blk_cell P4.out _).trans (HH4.out a B1.out.1 (by rw [HLEN4.out]; exact B1.out.2))
      have r7 := blk_frozen P4.out a.toNat
      go_still_tail 12, (by kernel_rfl)
      change wpList _ _ _ _ _ u4.drew
      have Ew4d := Aside0.mk (Ew4.out.below (below_drew1 (Below.refl _ u4)))
      have P4d := Aside0.mk (blk_drew P4.out)
      have G4d := Aside0.mk (blk_drew G4.out)
      have L4d := Aside0.mk (below_drew1 L4.out)
      have D4d := Aside0.mk (D4.out.step (below_drew1 (Below.refl _ u4)))
      clear Ew4 P4 G4 L4 D4
      replace r6 : u4.drew.cell? ⟨pb, a.toNat, none⟩ = _ := r6
      replace r7 : u4.drew.frozen? ⟨pb, a.toNat, none⟩ = _ := r7
      clear r1 r2 r3 r4 r5
      generalize u4.drew = v4 at r6 r7 Ew4d P4d G4d L4d D4d ⊢
      clear u4
      have Ew5 := Aside0.mk (Ew4d.out.set a.toNat (.int .i64 (wrap64 (rd p4 a - y))))
      have P5 := Aside0.mk (blk_set P4d.out a.toNat (.int .i64 (wrap64 (rd p4 a - y))))
      have G5 := Aside0.mk (blk_far G4d.out (p := ⟨pb, a.toNat, none⟩) NG.out (.int .i64 (wrap64 (rd p4 a - y))))
      have L5 := Aside0.mk (L4d.out.setCell (p := ⟨pb, a.toNat, none⟩) HPB.out (.int .i64 (wrap64 (rd p4 a - y))))
      have D5 := Aside0.mk (D4d.out.set a.toNat (.int .i64 (wrap64 (rd p4 a - y))))
      clear Ew4d P4d G4d L4d D4d
      have HH5 := Aside0.mk (HH4.out.set a (wrap64 (rd p4 a - y)) B1.out.1 (by rw [HLEN4.out]; exact B1.out.2))
      have HLEN5 := Aside0.mk ((upd_length p4 a (wrap64 (rd p4 a - y))).trans HLEN4.out)
      obtain ⟨p5, hp5⟩ : ∃ p, p = upd p4 a (wrap64 (rd p4 a - y)) := ⟨_, rfl⟩
      rw [← hp5] at HH5 HLEN5
      have HP5 := Aside0.mk hp5
      clear hp5
      have hcur := restore HH.out h a x y B0.out.1 (by rw [HLEN.out]; exact B0.out.2) B1.out.1 (by rw [HLEN.out]; exact B1.out.2) (HIN.out h B0.out.1 B0.out.2) (HIN.out a B1.out.1 B1.out.2) p1 p2 p4 HP1.out HP2.out HP4.out
      have P6 := P5.out
      rw [hcur] at P6
      have HBe := Aside0.mk (D5.out.back (P6.trans HP.out.symm))
      have hp2 : wrap64 (part a1 (fun x y => F (aft pts h a x y)) j + F p2) = part a1 (fun x y => F (aft pts h a x y)) (j + 1) := by
        rw [HPt.out, HP2.out, HP1.out]
        rfl
      have HV := Aside0.mk hp2
      have qj : (j : Int) ≤ 2 := by have := HJ3.out; omega
      have HEw5 := Ew5
      clear hcur P6 hp2 P5 D5 L5 Ew5 HEw5 HH1 HH2 HH3 HH4 HH5 HP1 HP2 HP4 HP5 HPt
      go_wp2
      go_roundg k1
      case measure => omega
      case rel => exact ⟨j + 1, congrArg (Value.int .i64) HV.out, (by first | rfl | (simp; done) | (congr 1; simp [wrap64]; omega)), ⟨by have := HJ.out; omega⟩, G5, HBe⟩
def rowOk (n : Nat) (g : List Int) : Bool := decide (g.length = 2) && decide (0 ≤ rd g 0) && decide (rd g 0 < (n : Int)) && decide (0 ≤ rd g 1) && decide (rd g 1 < (n : Int))
theorem count.calls (bl bp bt bL bc pb : Nat) (AL : Option Addr) (cL np cp : Nat) (team a0 a1 : Int) (A2 : Option Addr) (c2 : Nat) (l2 : List S68) (wL : World) (left : List (List Int))
    (HL : Kd.C (Kd.slice 3 (Kd.int .i64)) wL AL left.length left) (HL2 : Kd.C k68 wL A2 l2.length l2) (hc2 : l2.length ≤ c2) (hpb : wL.heap.size ≤ pb)
    (hrows : ∀ g ∈ left, rowOk np g = true) (t0 : 0 ≤ team) (t1 : team < (np : Int)) (hnp : np ≤ cp) (hnm : np ≤ 9223372036854775807) :
    ∀ d k, k + d = left.length → ∀ (pts : List Int) (cur : Array Value) (w : World), Below wL.heap.size wL w → Env bl bp bt bL bc pb AL left.length cL np cp team a0 a1 A2 l2.length c2 w → w.heap[pb]? = some (.cells cur 3 (0, 0)) → Holds cur pts → pts.length = np → (∀ i, 0 ≤ i → i < (np : Int) → -9223372036854775808 ≤ rd pts i ∧ rd pts i < 9223372036854775808) →
      Calls Try.prog 38 #[.int .i64 (k : Int), .pointer (some ⟨bl, 0, none⟩), .pointer (some ⟨bp, 0, none⟩), .pointer (some ⟨bt, 0, none⟩), .pointer (some ⟨bL, 0, none⟩), .pointer (some ⟨bc, 0, none⟩)] w fun e w' => e = .returned (.int .i64 (cnt a1 team (left.drop k) pts)) ∧ Below w.heap.size w w' := by
  intro d
  induction d with
  | zero =>
    intro k hk pts cur w hbL E hb hh hlen hin
    obtain rfl : k = left.length := by omega
    rw [List.drop_length]
    subst hlen
    exact count.base bl bp bt bL bc pb AL left.length cL pts.length cp team a0 a1 A2 l2.length c2 pts cur w E hb hh hnm hnp t0 t1
  | succ d ih =>
    intro k hk pts cur w hbL E hb hh hlen hin
    have hlt : k < left.length := by omega
    rw [List.drop_eq_getElem_cons hlt]
    have hg : rd_L3 left (k : Int) = left[k] := by unfold rd_L3; simp [List.getD_eq_getElem?_getD, List.getElem?_eq_getElem hlt]
    obtain ⟨ad, A0, c0, eA, hx, hl0, hK⟩ := at_L3 HL (k : Int) (by omega) (by omega)
    rw [hg] at hx hl0 hK
    have hr := hrows left[k] (List.getElem_mem hlt)
    unfold rowOk at hr
    simp only [Bool.and_eq_true, decide_eq_true_eq] at hr
    obtain ⟨⟨⟨⟨r0, r1⟩, r2⟩, r3⟩, r4⟩ := hr
    obtain ⟨ad2, e2, hx0⟩ := Kd.at_int hK 0 (by omega) (by omega)
    obtain ⟨ad3, e3, hx1⟩ := Kd.at_int hK 1 (by omega) (by omega)
    have e23 : ad3 = ad2 := by rw [e2] at e3; injection e3 with e3; exact e3.symm
    subst e23
    rw [e2] at hx
    rw [show ((0 : Int)).toNat = 0 from rfl, Addr.add_zero'] at hx0
    have hHL := HL.2.1
    exact count.step bl bp bt bL bc pb AL left.length cL np cp team a0 a1 A2 l2.length c2 l2 wL HL2 hc2 hpb k hlt ad ad3 eA left[k].length c0 (rd left[k] 0) (rd left[k] 1) hx hx0 hx1 (by omega) r1 r2 r3 r4 (cnt a1 team (left.drop (k + 1)))
      ⟨fun p c w1 h1 h2 h3 h4 h5 h6 => ih (k + 1) (by omega) p c w1 h1 h2 h3 h4 h5 h6⟩ pts cur w hbL E hb hh hlen hin rfl hnp hnm hHL
end Go.Proofs.Ytmijfimjlenmpaa.QFnExactMostPoints
