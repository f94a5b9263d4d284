/- impl.divideDigits, walked: fewer digits than those by which is divided; one digit by which is divided. -/
import Derived.Test.YtmkjkcfmjfeheaaGNew
import Derived.Test.YtmkjkcfmjfeheaaGDivP
namespace Go.Proofs.Ytmkjkcfmjfeheaa.QFnExactMeanDeuce
open Go.RowKit Go.Proofs.YtmkjkcfmjfeheaaW.PrintWords Go.Proofs.YtmkjkcfmjfeheaaW.PrintLast Go.Proofs.YtmkjkcfmjfeheaaW.PrintMore
set_option linter.unusedVariables false
set_option linter.unusedSimpArgs false
/-- digits out of a block -/
theorem Dg.of_block {w : World} {g c n : Nat} {ds : List Int} {cs : Array Value} (hg : w.heap[g]? = some (.cells cs 61 (0, 0))) (hn : ds.length = n) (hc : n ≤ c) (hm : n ≤ 1000) (h : ∀ i : Nat, i < n → cs[i]? = some (.int .u32 (rd ds (i : Int)))) : Dg w (.slice (some ⟨g, 0, none⟩) n c) ds := by
  subst hn
  refine ⟨_, c, rfl, hc, ⟨rfl, by omega, fun _ => ⟨_, rfl, fun j p hj => ?_⟩⟩, fun ad ha _ => by injection ha with ha; subst ha; exact ⟨cs, hg⟩⟩
  obtain ⟨hjl, hjp⟩ := List.getElem?_eq_some_iff.1 hj
  refine ⟨[.int .u32 p], rfl, rfl, fun i u hu => ?_⟩
  match i with
  | 0 =>
    have e : Value.int .u32 p = u := by simpa using hu
    subst e
    have h1 := h j hjl
    rw [add_plain, blk_cell hg]
    show cs[j * 1 + 0]? = _
    rw [show j * 1 + 0 = j by omega, h1]
    congr 2
    simp [rd, List.getElem?_eq_getElem hjl, hjp]
  | i + 1 => simp at hu
theorem shl_nn {b P sh : Int} (hb : 0 < b) (hs : sh = b * 2 ^ P.toNat) : 0 < sh := by
  rw [hs]; exact Int.mul_pos hb (Int.pow_pos (by decide))
/-- a row of one's own, as a block -/
theorem R_block {w : World} {base n : Nat} {ok : Nat → Prop} {v : Value} {xs : List Int} (h : Kd.R (Kd.int .u32) 61 w base ok v xs) (hn : xs.length = n) (hp : 0 < n) :
    ∃ g c cs, v = .slice (some ⟨g, 0, none⟩) n c ∧ n ≤ c ∧ base ≤ g ∧ w.heap[g]? = some (.cells cs 61 (0, 0)) ∧ ∀ i : Nat, i < n → cs[i]? = some (.int .u32 (rd xs (i : Int))) := by
  subst hn
  have h' := h
  obtain ⟨_, inner, ho, _⟩ := h'
  rcases ho.2 with ⟨_, hn⟩ | ⟨g, cap, cur, hv, hb, hg, hc, _⟩
  · omega
  · subst hv
    obtain ⟨_, _, hC⟩ := Kd.R_reads' h
    refine ⟨g, cap, cur, rfl, hc, hb, hg, fun i hi => ?_⟩
    obtain ⟨ad, e, h0⟩ := Kd.at_int hC (i : Int) (by omega) (by omega)
    injection e with e; subst e
    rw [add_plain, blk_cell hg, Int.toNat_natCast] at h0
    exact h0
theorem doubledN.calls (w : World) (A : Option Addr) (n c : Nat) (l : List Int) (P : Int) (r : List Int) (hn : l.length = n) (hr : Kd.C (Kd.int .u32) w A n l) (hc : n ≤ c) (h : impl_doubled.f 1001 l P = some r) :
    Calls Try.prog 49 #[.slice A n c, .int .u64 P] w fun e w' => ∃ v0_ : Value, e = .returned (v0_) ∧ Kd.R (Kd.int .u32) 61 w' w.heap.size (fun _ => True) v0_ r ∧ Below w.heap.size w w' := by
  subst hn
  exact impl_doubled.calls 1001 A c l P r w hr hc h
/-- behind one round of the division -/
theorem div_round {w wr : World} {n g9 gO g8 M : Nat} {us : List Int} {top sh j q r : Int} {cu co : Array Value} (hne : g9 ≠ gO) (h8 : g8 ≠ gO) (h89 : g9 ≠ g8) (hj : 0 ≤ j) (hjM : j ≤ M)
    (HU : wr.heap[g9]? = some (.cells cu 61 (0, 0))) (HUA : ∀ i : Nat, (i : Int) ≤ j → cu[i]? = some (.int .u32 (rd us (i : Int)))) (HUR : cu[(j + 1).toNat]? = some (.int .u32 (hzS sh (us.drop (j + 1).toNat) top)))
    (HO : wr.heap[gO]? = some (.cells co 61 (0, 0))) (HOS : co.size = M + 1) (HOA : ∀ i : Nat, j < i → i ≤ M → co[i]? = some (.int .u32 (rd (hzQ sh us top) (i : Int)))) (HZ : wr.cell? ⟨g8, 0, none⟩ = some (.int .u32 sh)) (HB : Below w.heap.size w wr)
    (hg9 : w.heap.size ≤ g9) (hgO : w.heap.size ≤ gO) (hq : q = rd (hzQ sh us top) j) (hr : r = hzS sh (us.drop j.toNat) top) :
    ∃ cu' co' : Array Value, ((((wr.drewN n).setCell ⟨g9, j.toNat, none⟩ (.int .u32 r)).setCell ⟨g9, (j + 1).toNat, none⟩ (.int .u32 0)).setCell ⟨gO, j.toNat, none⟩ (.int .u32 q)).heap[g9]? = some (.cells cu' 61 (0, 0)) ∧
      (∀ i : Nat, (i : Int) ≤ j - 1 → cu'[i]? = some (.int .u32 (rd us (i : Int)))) ∧ cu'[(j - 1 + 1).toNat]? = some (.int .u32 (hzS sh (us.drop (j - 1 + 1).toNat) top)) ∧
      ((((wr.drewN n).setCell ⟨g9, j.toNat, none⟩ (.int .u32 r)).setCell ⟨g9, (j + 1).toNat, none⟩ (.int .u32 0)).setCell ⟨gO, j.toNat, none⟩ (.int .u32 q)).heap[gO]? = some (.cells co' 61 (0, 0)) ∧ co'.size = M + 1 ∧
      (∀ i : Nat, j - 1 < i → i ≤ M → co'[i]? = some (.int .u32 (rd (hzQ sh us top) (i : Int)))) ∧
      ((((wr.drewN n).setCell ⟨g9, j.toNat, none⟩ (.int .u32 r)).setCell ⟨g9, (j + 1).toNat, none⟩ (.int .u32 0)).setCell ⟨gO, j.toNat, none⟩ (.int .u32 q)).cell? ⟨g8, 0, none⟩ = some (.int .u32 sh) ∧
      Below w.heap.size w ((((wr.drewN n).setCell ⟨g9, j.toNat, none⟩ (.int .u32 r)).setCell ⟨g9, (j + 1).toNat, none⟩ (.int .u32 0)).setCell ⟨gO, j.toNat, none⟩ (.int .u32 q)) := by
  have h0 : (wr.drewN n).heap[g9]? = some (.cells cu 61 (0, 0)) := HU
  have h1 := blk_set h0 j.toNat (.int .u32 r)
  have h2 := blk_set h1 (j + 1).toNat (.int .u32 0)
  have h3 := blk_far (p := ⟨gO, j.toNat, none⟩) h2 hne (.int .u32 q)
  have o0 : (wr.drewN n).heap[gO]? = some (.cells co 61 (0, 0)) := HO
  have o1 := blk_far (p := ⟨g9, j.toNat, none⟩) o0 (fun e => hne e.symm) (.int .u32 r)
  have o2 := blk_far (p := ⟨g9, (j + 1).toNat, none⟩) o1 (fun e => hne e.symm) (.int .u32 0)
  have o3 := blk_set o2 j.toNat (.int .u32 q)
  have hsz : (j + 1).toNat < cu.size := (Array.getElem?_eq_some_iff.1 HUR).1
  have z0 : (wr.drewN n).cell? ⟨g8, 0, none⟩ = some (.int .u32 sh) := HZ
  have z1 := (World.cell?_setCell_other (wr.drewN n) ⟨g9, j.toNat, none⟩ ⟨g8, 0, none⟩ (.int .u32 r) (by intro e; have h := congrArg Addr.block e; simp at h; omega)).trans z0
  have z2 := (World.cell?_setCell_other _ ⟨g9, (j + 1).toNat, none⟩ ⟨g8, 0, none⟩ (.int .u32 0) (by intro e; have h := congrArg Addr.block e; simp at h; omega)).trans z1
  have z3 := (World.cell?_setCell_other _ ⟨gO, j.toNat, none⟩ ⟨g8, 0, none⟩ (.int .u32 q) (by intro e; have h := congrArg Addr.block e; simp at h; omega)).trans z2
  have b1 := ((pw_below_drewN HB n).setCell (p := ⟨g9, j.toNat, none⟩) hg9 (.int .u32 r)).setCell (p := ⟨g9, (j + 1).toNat, none⟩) hg9 (.int .u32 0)
  have b2 := b1.setCell (p := ⟨gO, j.toNat, none⟩) hgO (.int .u32 q)
  refine ⟨_, _, h3, fun i hi => ?_, ?_, o3, by simpa using HOS, fun i hi hiM => ?_, z3, b2⟩
  · rw [Array.getElem?_setIfInBounds_ne (by omega), Array.getElem?_setIfInBounds_ne (by omega)]
    exact HUA i (by omega)
  · rw [show j - 1 + 1 = j by omega, Array.getElem?_setIfInBounds_ne (by omega), Array.getElem?_setIfInBounds_self_of_lt (by omega), hr]
  · by_cases e : i = j.toNat
    · subst e
      rw [Array.getElem?_setIfInBounds_self_of_lt (by omega), hq, show ((j.toNat : Nat) : Int) = j by omega]
    · rw [Array.getElem?_setIfInBounds_ne (by omega)]
      exact HOA i (by omega) hiM
set_option maxHeartbeats 8000000 in
set_option maxRecDepth 100000 in
/-- fewer digits than those by which is divided -/
theorem divLess.calls (w : World) (A0 : Option Addr) (n0 c0 : Nat) (A1 : Option Addr) (n1 c1 : Nat) (h : n0 < n1) :
    Calls Try.prog 43 #[.slice A0 n0 c0, .slice A1 n1 c1] w fun e w' => e = .returned (.tuple #[.slice none 0 0, .slice A0 n0 c0]) ∧ w' = w := by
  have hd : (n0 : Int) < (n1 : Int) := by omega
  go_enter Try.func43, Try.ntmps43
  go_wp2
  go_ret2
  exact ⟨rfl, rfl⟩
set_option maxHeartbeats 8000000 in
set_option maxRecDepth 100000 in
theorem divOne.calls (w : World) (A0 A1 : Option Addr) (c0 c1 M : Nat) (l0 : List Int) (b0 : Int) (hl0 : l0.length = M + 1) (hr0 : Kd.C (Kd.int .u32) w A0 (M + 1) l0) (hc0 : M + 1 ≤ c0) (hr1 : Kd.C (Kd.int .u32) w A1 1 [b0]) (hc1 : 1 ≤ c1)
    (hM : M ≤ 100) (ha : inR l0) (hb : 0 < b0) (hb1 : b0 < 4294967296) :
    Calls Try.prog 43 #[.slice A0 (M + 1) c0, .slice A1 1 c1] w fun e w' => ∃ vq vr ds r, e = .returned (.tuple #[vq, vr]) ∧ Dg w' vq ds ∧ Dg w' vr [r] ∧ inR ds ∧ inR [r] ∧ vl ds = vl l0 / b0 ∧ r = vl l0 % b0 ∧ Below w.heap.size w w' := by
  obtain ⟨ad1, rfl, cb⟩ := Kd.at_int hr1 0 (by omega) (by omega)
  replace cb : w.cell? (ad1.add 0) = some (.int .u32 b0) := cb
  replace cb : w.cell? ad1 = some (.int .u32 b0) := by rw [show ad1.add 0 = ad1 by simp [Addr.add]] at cb; exact cb
  have HR0 := Aside0.mk hr0
  have HR1 := Aside0.mk hr1
  have HL0 := Aside0.mk hl0
  have HA := Aside0.mk ha
  clear hr0 hr1 hl0 ha
  have hba : b0 * 2 ^ (0 : Int).toNat < 4294967296 := by simp; omega
  have HBA := Aside0.mk hba
  clear hba
  have hnl : ¬ ((M : Int) + 1 < 1) := by omega
  have hwm : IntKind.i64.wrap ((M : Int) + 1 - 1) = (M : Int) := by rw [i64_w, w64_of (by omega) (by omega)]; omega
  have hwm1 : IntKind.i64.wrap ((M : Int) + 1) = (M : Int) + 1 := by rw [i64_w, w64_of (by omega) (by omega)]
  go_enter Try.func43, Try.ntmps43
  go_wp2
  go_loopg [7] 32 (fun kq v7 w' => ∃ P : Int, v7 = .int .u64 P ∧ Aside0 (0 ≤ P ∧ P + kq = 32) ∧ Aside0 (b0 * 2 ^ P.toNat < 4294967296) ∧ w = w')
  case atStart => exact ⟨0, rfl, ⟨by omega⟩, HBA, rfl⟩
  case round =>
    obtain ⟨P, rfl, hk, hp, rfl⟩ := hrel
    obtain ⟨sh, hsh⟩ : ∃ sh, sh = b0 * 2 ^ P.toNat := ⟨_, rfl⟩
    have hlt : P ≤ 31 := pow_lt hb hp.out
    have hw : IntKind.u32.wrap (b0 * 2 ^ min P.toNat 32) = sh := shl32 hb hsh hp.out hk.out.1 hlt
    have hw2 : IntKind.u32.wrap (b0 * 2 ^ P.toNat) = sh := by rw [show min P.toNat 32 = P.toNat by omega] at hw; exact hw
    have hP0 : (0 ≤ P) = True := eq_true hk.out.1
    have hP1 : decide (0 ≤ P) = true := decide_eq_true hk.out.1
    have HSH := Aside0.mk hsh
    have HLT := Aside0.mk hlt
    clear hsh hlt
    by_cases hcc : sh < 2147483648
    · have hcd : decide (sh < 2147483648) = true := decide_eq_true hcc
      have hs2 := pow_step hb hk.out.1 HSH.out hcc
      have HS2 := Aside0.mk hs2.2
      have hw3 : IntKind.u64.wrap (P + 1) = P + 1 := u64_of (by have := hk.out; omega) (by have := HLT.out; omega)
      clear hs2
      go_wp2
      go_roundg (gk - 1)
      case measure => have := hk.out; have := HLT.out; omega
      case rel => exact ⟨P + 1, rfl, ⟨by have := hk.out; have := HLT.out; omega⟩, HS2, rfl⟩
    · have hcd : decide (sh < 2147483648) = false := decide_eq_false hcc
      have hdA := doubleD l0 P hk.out.1 HLT.out HA.out (by have := HL0.out; omega)
      have hdB := doubleD [b0] P hk.out.1 HLT.out (inR_one (by omega) hb1) (by simp)
      have HDA := Aside0.mk hdA
      have HDB := Aside0.mk hdB
      have hla : (dbD (2 ^ P.toNat) l0 0 ++ [dbT (2 ^ P.toNat) l0 0]).length = M + 2 := by rw [List.length_append, dbD_length, HL0.out]; rfl
      have hlb : (dbD (2 ^ P.toNat) [b0] 0 ++ [dbT (2 ^ P.toNat) [b0] 0]).length = 2 := by rw [List.length_append, dbD_length]; rfl
      have HLA := Aside0.mk hla
      have HLB := Aside0.mk hlb
      clear hdA hdB hla hlb
      go_wp2
      go_region_held3 (fun w' => True) (exact trivial) (first
        | (go_at_call 49
           refine (doubledN.calls w9 (some ad1) 1 c1 [b0] P _ rfl (Kd.C_below HR1.out HB9.out) hc1 HDB.out).mono ?_
           rintro e w8 ⟨v8, rfl, hR8, hB8⟩
           have HB8 := Aside0.mk hB8
           obtain ⟨g8, k8, cs8, e8, hk8, hgb8, hg8, hcs8⟩ := R_block hR8 HLB.out (by decide)
           subst e8
           have hk8a : (1 : Int) ≤ (k8 : Int) := by omega
           have hk8b : 1 ≤ k8 := by omega
           have HG8 := Aside0.mk hg8
           have HCS8 := Aside0.mk hcs8
           clear hR8 hB8 hg8 hcs8)
        | (go_at_call 49
           refine (doubledN.calls w.drew A0 (M + 1) c0 l0 P _ HL0.out (Kd.C_drew HR0.out) hc0 HDA.out).mono ?_
           rintro e w9 ⟨v9, rfl, hR9, hB9⟩
           have HB9 := Aside0.mk (show Below w.heap.size w w9 from below_then (below_drew1 (Below.refl _ w)) (Nat.le_refl _) hB9)
           obtain ⟨g9, k9, cs9, e9, hk9, hgb9, hg9, hcs9⟩ := R_block hR9 HLA.out (by omega)
           subst e9
           have HG9 := Aside0.mk hg9
           have HCS9 := Aside0.mk hcs9
           clear hR9 hB9 hg9 hcs9))
      have hBall := below_then HB9.out HB9.out.size HB8.out
      have hg9' := blk_below HG9.out HB8.out
      have hne : g9 ≠ g8 := by have := blk_lt HG9.out; omega
      have hge9 : w.heap.size ≤ g9 := hgb9
      have hge8 : w.heap.size ≤ g8 := Nat.le_trans HB9.out.size hgb8
      have hsh0 := shl_nn hb HSH.out
      have hz0 : w8.cell? ⟨g8, 0, none⟩ = some (.int .u32 sh) := by
        rw [blk_cell HG8.out, HCS8.out 0 (by decide)]
        show some (Value.int .u32 ((0 + b0 * 2 ^ P.toNat) % 4294967296)) = _
        rw [Int.zero_add, ← HSH.out, Int.emod_eq_of_lt (by omega) (by rw [HSH.out]; exact hp.out)]
      have HBX := Aside0.mk hBall
      have HG9X := Aside0.mk hg9'
      have HZ0 := Aside0.mk hz0
      have HGN := Aside0.mk (And.intro hge9 hge8)
      have HSH0 := Aside0.mk hsh0
      have HNE := Aside0.mk hne
      have hlt9 : g9 < w8.heap.size := blk_lt hg9'
      have hlt8 : g8 < w8.heap.size := blk_lt HG8.out
      have HLT2 := Aside0.mk (And.intro hlt9 hlt8)
      clear hBall hg9' hz0 hge9 hge8 hsh0 hne hlt9 hlt8 HG9 HG8 HCS8 HB9 HB8 cb HDA HDB HLA HLB hw hw2 hcd hcc HR0 HR1 HBA hgb8 hgb9 hk8
      generalize w8 = v at HBX HG9X HZ0 HLT2 ⊢
      have hmk : ∀ w, (Instr.makeSlice 39 (.int .i64 ((M : Int) + 1)) (.int .i64 ((M : Int) + 1))).run Try.prog w = .ok (.slice (some ⟨w.heap.size, 0, none⟩) (M + 1) (M + 1)) (w.alloc (.cells (madeCells #[.int .u32 0] (M + 1)) 61)) := fun w => by
        have h := print_make_int (P := Try.prog) 39 61 (.int .u32 0) 4 Try.underlying39 (by kernel_rfl) rfl (by decide) ((M : Int) + 1) (by omega) (by omega) w
        rw [show ((M : Int) + 1).toNat = M + 1 by omega] at h
        exact h
      go_wp2
      have hO := blk_new v (.cells (madeCells #[.int .u32 0] (M + 1)) 61 (0, 0))
      have hbO : Below v.heap.size v (v.alloc (.cells (madeCells #[.int .u32 0] (M + 1)) 61 (0, 0))) := below_alloc (Below.refl _ _) _
      have hbW := below_then HBX.out HBX.out.size hbO
      have hg9W := blk_below HG9X.out hbO
      have hz0W := pw_cell_below hbO HZ0.out
      have h9O : g9 ≠ v.heap.size := by have := HLT2.out; omega
      have h8O : g8 ≠ v.heap.size := by have := HLT2.out; omega
      have hgeO : w.heap.size ≤ v.heap.size := HBX.out.size
      obtain ⟨gO, egO⟩ : ∃ gO, v.heap.size = gO := ⟨_, rfl⟩
      rw [egO] at hO h9O h8O hgeO
      clear hbO HBX HG9X HZ0 HLT2 hmk
      rw [egO]
      clear egO
      have HOW := Aside0.mk hO
      have HBW := Aside0.mk hbW
      have HG9W := Aside0.mk hg9W
      have HZW := Aside0.mk hz0W
      have H9O := Aside0.mk h9O
      have H8O := Aside0.mk h8O
      have HGEO := Aside0.mk hgeO
      clear hO hbW hg9W hz0W h9O h8O hgeO
      generalize v.alloc (.cells (madeCells #[.int .u32 0] (M + 1)) 61) = W at HOW HBW HG9W HZW ⊢
      obtain ⟨us, eus⟩ : ∃ us, us = dbD (2 ^ P.toNat) l0 0 := ⟨_, rfl⟩
      obtain ⟨top, etop⟩ : ∃ top, top = dbT (2 ^ P.toNat) l0 0 := ⟨_, rfl⟩
      have hlen : us.length = M + 1 := by rw [eus, dbD_length, HL0.out]
      have hus : inR us := by rw [eus]; exact dbD_inR _ _ _
      have hS1 : (0 : Int) < 2 ^ P.toNat := Int.pow_pos (by decide)
      have htop : 0 ≤ top ∧ top < sh := by
        have h := dbT_lt (2 ^ P.toNat) hS1 l0 0 HA.out (by decide) hS1
        have h2 : (1 : Int) * 2 ^ P.toNat ≤ b0 * 2 ^ P.toNat := Int.mul_le_mul_of_nonneg_right (by omega) (by omega)
        rw [etop, HSH.out]
        omega
      have hcs : ∀ i : Nat, i < M + 1 → cs9[i]? = some (.int .u32 (rd us (i : Int))) := fun i hi => by
        rw [HCS9.out i (by omega), ← eus, ← etop]
        congr 2
        simp [rd, List.getElem?_append_left (by omega : i < us.length)]
      have hct : cs9[M + 1]? = some (.int .u32 top) := by
        rw [HCS9.out (M + 1) (by omega), ← eus, ← etop]
        congr 2
        simp [rd, hlen]
      have HLEN := Aside0.mk hlen
      have HUS := Aside0.mk hus
      have HTOP := Aside0.mk htop
      have EUS := Aside0.mk eus
      have ETOP := Aside0.mk etop
      clear hlen hus htop hS1
      go_loopg [12] (M + 1) (fun kq v12 w' => ∃ (j : Int) (cu co : Array Value), v12 = .int .i64 j ∧ Aside0 (-1 ≤ j ∧ j ≤ M ∧ (kq : Int) = j + 1) ∧ Aside0 (w'.heap[g9]? = some (.cells cu 61 (0, 0))) ∧ Aside0 (∀ i : Nat, (i : Int) ≤ j → cu[i]? = some (.int .u32 (rd us (i : Int)))) ∧
        Aside0 (cu[(j + 1).toNat]? = some (.int .u32 (hzS sh (us.drop (j + 1).toNat) top))) ∧ Aside0 (w'.heap[gO]? = some (.cells co 61 (0, 0))) ∧ Aside0 (co.size = M + 1) ∧ Aside0 (∀ i : Nat, j < i → i ≤ M → co[i]? = some (.int .u32 (rd (hzQ sh us top) (i : Int)))) ∧
        Aside0 (w'.cell? ⟨g8, 0, none⟩ = some (.int .u32 sh)) ∧ Aside0 (Below w.heap.size w w'))
      case atStart =>
        refine ⟨(M : Int), cs9, _, rfl, ⟨by omega⟩, HG9W, ⟨fun i hi => hcs i (by omega)⟩, ⟨?_⟩, HOW, ⟨by simp [size_madeCells]⟩, ⟨fun i hi hi2 => by omega⟩, HZW, HBW⟩
        have e1 : ((M : Int) + 1).toNat = M + 1 := by omega
        have e2 : us.drop (M + 1) = [] := List.drop_eq_nil_of_le (by have := HLEN.out; omega)
        rw [e1, hct, e2]
        rfl
      case round =>
        clear HG9W HOW HZW HBW hcs hct
        obtain ⟨j, cu, co, rfl, HJ, HU, HUA, HUR, HO, HOS, HOA, HZ, HB⟩ := hrel
        by_cases hj : 0 ≤ j
        · have hjd : decide (0 ≤ j) = true := decide_eq_true hj
          have hjd' : decide (j ≥ 0) = true := decide_eq_true hj
          have hw1 : IntKind.i64.wrap (j + 1) = j + 1 := by rw [i64_w, w64_of (by omega) (by have := HJ.out; omega)]
          have hw2 : IntKind.i64.wrap (j + 1 - 1) = j := by rw [i64_w, w64_of (by omega) (by have := HJ.out; omega)]; omega
          obtain ⟨R, hR⟩ : ∃ R, R = hzS sh (us.drop (j + 1).toNat) top := ⟨_, rfl⟩
          obtain ⟨x, hx⟩ : ∃ x, x = rd us j := ⟨_, rfl⟩
          have cR : wr.cell? ⟨g9, (j + 1).toNat, none⟩ = some (.int .u32 R) := by rw [blk_cell HU.out, hR]; exact HUR.out
          have cx : wr.cell? ⟨g9, j.toNat, none⟩ = some (.int .u32 x) := by rw [blk_cell HU.out, hx, HUA.out j.toNat (by omega), show ((j.toNat : Nat) : Int) = j by omega]
          have fR := blk_frozen HU.out (j + 1).toNat
          have fx := blk_frozen HU.out j.toNat
          have cO : ∃ o, wr.cell? ⟨gO, j.toNat, none⟩ = some o := by
            rw [blk_cell HO.out]
            exact ⟨_, Array.getElem?_eq_getElem (by have := HOS.out; have := HJ.out; omega)⟩
          obtain ⟨o, cO⟩ := cO
          have fO := blk_frozen HO.out j.toNat
          have b1 : j + 1 < (M : Int) + 2 := by have := HJ.out; omega
          have b2 : j < (M : Int) + 2 := by have := HJ.out; omega
          have b3 : j < (M : Int) + 1 := by have := HJ.out; omega
          have b0' : 0 ≤ j + 1 := by omega
          have cV := HZ.out
          have hxb := inR_rd HUS.out j.toNat (by have := HLEN.out; have := HJ.out; omega)
          rw [show ((j.toNat : Nat) : Int) = j by omega, ← hx] at hxb
          have hRb := hzS_bound sh HSH0.out (us.drop (j + 1).toNat) top HTOP.out.1 HTOP.out.2
          rw [← hR] at hRb
          have HXB := Aside0.mk hxb
          have HRB := Aside0.mk hRb
          have uR : IntKind.u64.wrap R = R := u64_of hRb.1 (by have := HSH.out; have := hp.out; omega)
          have ux : IntKind.u64.wrap x = x := u64_of hxb.1 (by omega)
          have uV : IntKind.u64.wrap sh = sh := u64_of (by omega) (by have := HSH.out; have := hp.out; omega)
          have uRB : IntKind.u64.wrap (R * 4294967296) = R * 4294967296 := u64_of (by omega) (by have := HSH.out; have := hp.out; omega)
          obtain ⟨T, hT⟩ : ∃ T, T = R * 4294967296 + x := ⟨_, rfl⟩
          have oT : bits .or .u64 (R * 4294967296) x = T := by
            rw [hT]
            exact (or_add 32 (Nat.le_refl _) hxb.1 (by simpa using hxb.2) (by omega) (by have := HSH.out; have := hp.out; omega) (by simp)).2
          have hV0 : (sh == 0) = false := by have := HSH0.out; rw [beq_eq_false_iff_ne]; omega
          have hV1 : ¬ sh = 0 := by have := HSH0.out; omega
          obtain ⟨q, r, G, L, H, hst, hqe, hre⟩ := step_of hT HSH0.out (by rw [HSH.out]; exact hp.out) hRb.1 hRb.2 hxb.1 hxb.2
          have hshB : sh < 4294967296 := by rw [HSH.out]; exact hp.out
          have tq := hst.tq
          have tr := hst.tr
          have eG := hst.g
          have eL := hst.l
          have eH := hst.h
          have uq : IntKind.u64.wrap q = q := u64_of hst.q0.1 (by have := hst.q0; omega)
          have uG : IntKind.u64.wrap G = G := u64_of hst.g0.1 (by have := hst.g0; omega)
          have ur : IntKind.u64.wrap (r * 4294967296) = r * 4294967296 := u64_of (by have := hst.r0; omega) (by have := hst.r0; omega)
          have orr : bits .or .u64 (r * 4294967296) 0 = r * 4294967296 := by
            have h := (or_add (c := 0) (y := r * 4294967296) 32 (Nat.le_refl _) (by decide) (by decide) (by have := hst.r0; omega) (by have := hst.r0; omega) (by simp)).2
            rwa [Int.add_zero] at h
          have d1 : decide (r < 4294967296) = true := decide_eq_true (by have := hst.r0; omega)
          have d2 : decide (4294967296 ≤ q) = false := decide_eq_false (by have := hst.q0; omega)
          have d2' : decide (q ≥ 4294967296) = false := d2
          have d3 : decide (r * 4294967296 < 0) = false := decide_eq_false (by have := hst.r0; omega)
          have d3' : decide (0 > r * 4294967296) = false := d3
          have uz : IntKind.u64.wrap 0 = 0 := u64_0
          have hwj : IntKind.i64.wrap j = j := by rw [i64_w, w64_of (by omega) (by have := HJ.out; omega)]
          have hwj1 : IntKind.i64.wrap (j - 1) = j - 1 := by rw [i64_w, w64_of (by omega) (by have := HJ.out; omega)]
          have xr : IntKind.u64.wrap (x - L) % 4294967296 = r := by
            rw [IntKind.wrap_u64]
            have := hst.tg; have := hst.le; have := hst.h; have := hst.r0
            omega
          have mR : R % 4294967296 = R := by omega
          have mq : q % 4294967296 = q := by have := hst.q0; omega
          have u32z : IntKind.u32.wrap 0 = 0 := u32_of (by decide) (by decide)
          have hRH : (x < L → H + 1 = R) ∧ (¬ x < L → H = R) := by have := hst.tg; have := hst.le; have := hst.h; have := hst.r0; have := hst.g0; omega
          have HST := Aside0.mk hst
          have HQE := Aside0.mk hqe
          have HRE := Aside0.mk hre
          clear hst hqe hre
          have HT := Aside0.mk hT
          have HX := Aside0.mk hx
          have HR := Aside0.mk hR
          clear hT
          have HJ0 := Aside0.mk hj
          clear hxb hRb hx hR
          have n9O := H9O.out
          have n9O' : gO ≠ g9 := fun e => n9O e.symm
          by_cases hxl : x < L
          · have dL : decide (x < L) = true := decide_eq_true hxl
            have eH1 := hRH.1 hxl
            have uH : IntKind.u64.wrap (H + 1) = R := by rw [eH1]; exact uR
            clear hRH hxl eH1
            go_wp2
            go_quiet (fail)
            go_wp2
            go_quiet (fail)
            go_wp2
            refine wp_loop_rounds 1 ?_
            rw [rounds_succ]
            go_wp2
            refine wp_loop_rounds 2 ?_
            rw [rounds_succ]
            go_wp2
            rw [rounds_succ]
            go_wp2
            go_roundg (gk - 1)
            case measure => have := HJ.out; have := HJ0.out; omega
            case rel =>
              have hat := hz_at sh us top j.toNat (by have := HLEN.out; have := HJ.out; omega)
              rw [show ((j.toNat : Nat) : Int) = j by omega, show j.toNat + 1 = (j + 1).toNat by omega, ← HX.out, ← HR.out, ← HT.out] at hat
              obtain ⟨cu', co', e1, e2, e3, e4, e5, e6, e7, e8⟩ := div_round (n := _) H9O.out H8O.out HNE.out HJ0.out (by have := HJ.out; omega) HU.out HUA.out HUR.out HO.out HOS.out HOA.out HZ.out HB.out HGN.out.1 HGEO.out (HQE.out.trans hat.1.symm) (HRE.out.trans hat.2.symm)
              exact ⟨j - 1, cu', co', rfl, ⟨by have := HJ.out; have := HJ0.out; omega⟩, ⟨e1⟩, ⟨e2⟩, ⟨e3⟩, ⟨e4⟩, ⟨e5⟩, ⟨e6⟩, ⟨e7⟩, ⟨e8⟩⟩
          · have dL : decide (x < L) = false := decide_eq_false hxl
            have eH1 := hRH.2 hxl
            rw [eH1] at eH
            clear hRH hxl
            clear eH1
            go_wp2
            go_quiet (fail)
            go_wp2
            go_quiet (fail)
            go_wp2
            refine wp_loop_rounds 1 ?_
            rw [rounds_succ]
            go_wp2
            refine wp_loop_rounds 2 ?_
            rw [rounds_succ]
            go_wp2
            rw [rounds_succ]
            go_wp2
            go_roundg (gk - 1)
            case measure => have := HJ.out; have := HJ0.out; omega
            case rel =>
              have hat := hz_at sh us top j.toNat (by have := HLEN.out; have := HJ.out; omega)
              rw [show ((j.toNat : Nat) : Int) = j by omega, show j.toNat + 1 = (j + 1).toNat by omega, ← HX.out, ← HR.out, ← HT.out] at hat
              obtain ⟨cu', co', e1, e2, e3, e4, e5, e6, e7, e8⟩ := div_round (n := _) H9O.out H8O.out HNE.out HJ0.out (by have := HJ.out; omega) HU.out HUA.out HUR.out HO.out HOS.out HOA.out HZ.out HB.out HGN.out.1 HGEO.out (HQE.out.trans hat.1.symm) (HRE.out.trans hat.2.symm)
              exact ⟨j - 1, cu', co', rfl, ⟨by have := HJ.out; have := HJ0.out; omega⟩, ⟨e1⟩, ⟨e2⟩, ⟨e3⟩, ⟨e4⟩, ⟨e5⟩, ⟨e6⟩, ⟨e7⟩, ⟨e8⟩⟩
        · have hjd : decide (0 ≤ j) = false := decide_eq_false hj
          have hjd' : decide (j ≥ 0) = false := decide_eq_false hj
          have ej : j = -1 := by have := HJ.out; omega
          have EJ := Aside0.mk ej
          obtain ⟨Rf, hRf⟩ : ∃ Rf, Rf = hzS sh us top := ⟨_, rfl⟩
          obtain ⟨F, hF⟩ : ∃ F, F = vl l0 % b0 := ⟨_, rfl⟩
          have hvl := db_vl (2 ^ P.toNat) l0 0
          rw [← EUS.out, ← ETOP.out, Int.add_zero] at hvl
          have hz := hz_vl sh us top
          rw [show us.length = l0.length by rw [HLEN.out, HL0.out], hvl, HSH.out] at hz
          have hS1 : (0 : Int) < 2 ^ P.toNat := Int.pow_pos (by decide)
          have hb2 := hzS_bound sh HSH0.out us top HTOP.out.1 HTOP.out.2
          rw [HSH.out] at hb2
          have hds := div_scaled (vl l0) b0 (2 ^ P.toNat) hS1 hb _ _ hz hb2.1 hb2.2
          rw [← HSH.out, ← hRf, ← hF] at hds
          rw [← HSH.out, ← hRf] at hb2
          have hF0 : 0 ≤ F ∧ F < b0 := by rw [hF]; exact ⟨Int.emod_nonneg _ (by omega), Int.emod_lt_of_pos _ hb⟩
          have cR : wr.cell? ⟨g9, 0, none⟩ = some (.int .u32 Rf) := by
            rw [blk_cell HU.out, hRf]
            have h := HUR.out
            rw [ej] at h
            simpa using h
          have fR := blk_frozen HU.out 0
          have uR : IntKind.u64.wrap Rf = Rf := u64_of hb2.1 (by have := HSH.out; have := hp.out; omega)
          have oR : bits .or .u64 0 Rf = Rf := by
            have h := (or_add (c := 0) (y := Rf) 0 (by decide) (by decide) (by decide) hb2.1 (by have := HSH.out; have := hp.out; omega) (by simp [Int.emod_one])).1
            rwa [Int.zero_add] at h
          have sR : Rf / 2 ^ P.toNat = F := by rw [hds.2, Int.mul_ediv_cancel_left _ (by omega)]
          have sR2 : Rf / 2 ^ min P.toNat 64 = F := by rw [show min P.toNat 64 = P.toNat by have := HLT.out; omega]; exact sR
          have mF : F % 4294967296 = F := by omega
          have uz : IntKind.u64.wrap 0 = 0 := u64_0
          have hk9a : (1 : Int) ≤ (k9 : Int) := by omega
          have hk9b : 1 ≤ k9 := by omega
          have HFF := Aside0.mk hF
          have HDS := Aside0.mk hds
          clear hRf hF hvl hz hS1 hb2 hds
          go_wp2
          refine wp_loop_rounds 2 ?_
          rw [rounds_succ]
          go_wp2
          rw [rounds_succ]
          go_wp2
          go_ret2
          refine ⟨.slice (some ⟨gO, 0, none⟩) (M + 1) (M + 1), .slice (some ⟨g9, 0, none⟩) 1 k9, hzQ sh us top, F, rfl, ?_, ?_, ?_, inR_one hF0.1 (by omega), HDS.out.1, HFF.out, ?_⟩
          · have h1 := blk_far (p := ⟨g9, 0, none⟩) HO.out (fun e => H9O.out e.symm) (.int .u32 F)
            refine Dg.of_block h1 (by rw [hzQ_length, HLEN.out]) (Nat.le_refl _) (by omega) (fun i hi => HOA.out i (by omega) (by omega))
          · have h1 := blk_set HU.out 0 (.int .u32 F)
            have hsz : 0 < cu.size := by
              have h := (Array.getElem?_eq_some_iff.1 HUR.out).1
              omega
            refine Dg.of_block h1 rfl (by omega) (by decide) (fun i hi => ?_)
            have e : i = 0 := by omega
            subst e
            rw [Array.getElem?_setIfInBounds_self_of_lt hsz]
            rfl
          · exact hzQ_inR sh HSH0.out us top HUS.out HTOP.out.1 HTOP.out.2
          · exact HB.out.setCell (p := ⟨g9, 0, none⟩) HGN.out.1 _
end Go.Proofs.Ytmkjkcfmjfeheaa.QFnExactMeanDeuce
