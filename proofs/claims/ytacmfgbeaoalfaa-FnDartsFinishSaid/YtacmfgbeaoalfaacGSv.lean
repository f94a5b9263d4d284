/- slices' symMergeCmpFunc at darts, walked over the row's whole block. Condition: the plain function, which asks for each place that is read, has a value. -/
import Derived.Test.YtacmfgbeaoalfaacGSu
import Derived.Test.YtacmfgbeaoalfaacGSr
namespace Go.Proofs.Ytacmfgbeaoalfaa.QFnDartsFinish
open Go.RowKit Go.Proofs.YtacmfgbeaoalfaaW.PrintWords Go.Proofs.YtacmfgbeaoalfaaW.PrintLast Go.Proofs.YtacmfgbeaoalfaaW.PrintMore
set_option linter.unusedVariables false
set_option linter.unusedSimpArgs false
theorem symF_len (len f : Nat) : ∀ a m b xs ys, symF len f a m b xs = some ys → ys.length = xs.length := by
  induction f with
  | zero => intro a m b xs ys h; cases h
  | succ f ih =>
    intro a m b xs ys h
    rw [symF] at h
    split at h
    · split at h
      · obtain ⟨i, _, h⟩ := Option.bind_eq_some_iff.1 h
        split at h
        · rw [← Option.some.inj h, shU_len]
        · cases h
      · split at h
        · obtain ⟨i, _, h⟩ := Option.bind_eq_some_iff.1 h
          split at h
          · rw [← Option.some.inj h, shD_len]
          · cases h
        · obtain ⟨st, _, h⟩ := Option.bind_eq_some_iff.1 h
          split at h
          · obtain ⟨x1, h1, h⟩ := Option.bind_eq_some_iff.1 h
            obtain ⟨x2, h2, h⟩ := Option.bind_eq_some_iff.1 h
            have e1 : x1.length = xs.length := by
              split at h1
              · exact rotF_len _ _ _ _ _ _ h1
              · rw [← Option.some.inj h1]
            have e2 : x2.length = x1.length := by
              split at h2
              · exact ih _ _ _ _ _ h2
              · rw [← Option.some.inj h2]
            have e3 : ys.length = x2.length := by
              split at h
              · exact ih _ _ _ _ _ h
              · rw [← Option.some.inj h]
            rw [e3, e2, e1]
          · cases h
    · cases h
theorem wr_sub {x y z : Nat} (h : z = x - y) (hy : y ≤ x) (hx : x ≤ 4000) : wrap64 ((x : Int) - (y : Int)) = (z : Int) ∧ IntKind.i64.wrap ((x : Int) - (y : Int)) = (z : Int) := by
  have : wrap64 ((x : Int) - (y : Int)) = (z : Int) := by unfold wrap64; omega
  exact ⟨this, by rw [i64_w]; exact this⟩
theorem wr_add {x y z : Nat} (h : z = x + y) (hx : z ≤ 4000) : wrap64 ((x : Int) + (y : Int)) = (z : Int) ∧ IntKind.i64.wrap ((x : Int) + (y : Int)) = (z : Int) := by
  have : wrap64 ((x : Int) + (y : Int)) = (z : Int) := by unfold wrap64; omega
  exact ⟨this, by rw [i64_w]; exact this⟩
theorem half_ {a b M : Nat} (h : M = (a + b) / 2) : ((a : Int) + (b : Int)) / 2 = (M : Int) := by omega
theorem half_w {a b M : Nat} (h : M = (a + b) / 2) (hab : a + b ≤ 4000) : wrap64 (IntKind.u64.wrap (wrap64 ((a : Int) + (b : Int))) / 2) = (M : Int) := by
  have e1 : wrap64 ((a : Int) + (b : Int)) = ((a + b : Nat) : Int) := by unfold wrap64; omega
  have e2 : IntKind.u64.wrap ((a + b : Nat) : Int) = ((a + b : Nat) : Int) := by
    unfold IntKind.wrap
    simp [IntKind.bits, IntKind.signed]
    omega
  rw [e1, e2]
  unfold wrap64
  omega
theorem nn_ (z : Nat) : (0 ≤ (z : Int)) = True := eq_true (by omega)
theorem lti {x y : Nat} (h : x < y) : (((x : Int) < (y : Int)) = True) ∧ ((x < y) = True) := ⟨eq_true (Int.ofNat_lt.2 h), eq_true h⟩
theorem sm_b {x y len C : Nat} (hc : x < y) (hy : y ≤ len) (hl : len ≤ 1000) (hC : C = (x + y) / 2) : x + y ≤ 4000 ∧ C < y ∧ C ≤ len := by omega
theorem sm_c {n p : Nat} (hn : n ≤ 2000) (hp : p = n - 1) : p ≤ 4000 := by omega
theorem not1 {z : Nat} (h : z ≠ 1) : ((z : Int) == 1) = false ∧ (z == 1) = false ∧ (((z : Int) = 1) = False) ∧ ((z = 1) = False) := ⟨beq_eq_false_iff_ne.2 (by omega), beq_eq_false_iff_ne.2 h, eq_false (by omega), eq_false h⟩
theorem sub_ne1 {x y z : Nat} (h : z = x - y) (h1 : y < x) (h2 : x ≠ y + 1) : z ≠ 1 := by omega
theorem sm_a {a b m M n len : Nat} (hm : a < m) (hmb : m < b) (hb : b ≤ len) (hlen : len ≤ 1000) (hM : M = (a + b) / 2) (hn : n = M + m) : m ≤ 1000 ∧ b ≤ 1000 ∧ M ≤ 1000 ∧ n ≤ 2000 ∧ 1 ≤ n ∧ M ≤ len ∧ m ≤ len ∧ (M < m → b ≤ n) := by omega
theorem lt_dec {x y : Nat} (h : x < y) : decide ((x : Int) < (y : Int)) = true ∧ decide (x < y) = true := ⟨decide_eq_true (Int.ofNat_lt.2 h), decide_eq_true h⟩
theorem ge_dec {x y : Nat} (h : ¬ x < y) : decide ((x : Int) < (y : Int)) = false ∧ decide (x < y) = false := ⟨decide_eq_false (fun q => h (Int.ofNat_lt.1 q)), decide_eq_false h⟩
set_option maxHeartbeats 16000000 in
set_option maxRecDepth 100000 in
theorem symC (pb cap len a m b f : Nat) (hm : a < m ∧ m ≠ a + 1) (hmb : m < b ∧ b ≠ m + 1) (hb : b ≤ len) (hlen : len ≤ 1000)
    (ih : ∀ (a m b : Nat) (xs ys : List S43), symF len f a m b xs = some ys → ∀ (cur : Array Value) (w : World), xs.length = len → w.heap[pb]? = some (.cells cur 43 (0, 0)) → HoldsD cap cur xs →
      Calls Try.prog 66 #[.slice (some ⟨pb, 0, none⟩) len cap, .int .i64 (a : Int), .int .i64 (m : Int), .int .i64 (b : Int), .func (.func 54) #[] #[]] w fun e w' => e = .returned (.tuple #[]) ∧ Bp pb w w' ∧ ∃ cur', w'.heap[pb]? = some (.cells cur' 43 (0, 0)) ∧ HoldsD cap cur' ys)
    (M st e : Nat) (hM : M = (a + b) / 2) (xs2 x1 x2 ys : List S43) (hbs : bsO (qP xs2 (M + m - 1)) 100 (if M < m then M + m - b else a) (if M < m then M else m) = some st) (hst : st ≤ M + m ∧ M + m - st ≤ len) (he : e = M + m - st)
    (h1 : (if st < m ∧ m < e then rotF m 200 (m - st) (e - m) xs2 else some xs2) = some x1) (h2 : (if a < st ∧ st < M then symF len f a st M x1 else some x1) = some x2) (h3 : (if M < e ∧ e < b then symF len f M e b x2 else some x2) = some ys)
    (cur : Array Value) (w : World) (hl : xs2.length = len) (hc : w.heap[pb]? = some (.cells cur 43 (0, 0))) (hh : HoldsD cap cur xs2) :
    Calls Try.prog 66 #[.slice (some ⟨pb, 0, none⟩) len cap, .int .i64 (a : Int), .int .i64 (m : Int), .int .i64 (b : Int), .func (.func 54) #[] #[]] w fun e w' => e = .returned (.tuple #[]) ∧ Bp pb w w' ∧ ∃ cur', w'.heap[pb]? = some (.cells cur' 43 (0, 0)) ∧ HoldsD cap cur' ys := by
  have hu43 := Try.underlying43
  have mixed : Try.prog.follows .mixedOrders = true := by kernel_rfl
  have HL := Aside0.mk hl
  have HC := Aside0.mk hc
  have HH := Aside0.mk hh
  have HBP := Aside0.mk (Bp.rfl_ pb w)
  have HM := Aside0.mk (And.intro hm (And.intro hmb (And.intro hb (And.intro hlen (And.intro hM (And.intro hst he))))))
  have HEL := Aside0.mk (show e ≤ len by rw [he]; exact hst.2)
  have HLE := Aside0.mk hlen
  have IH := Aside0.mk ih
  have H1 := Aside0.mk h1
  have H2 := Aside0.mk h2
  have H3 := Aside0.mk h3
  obtain ⟨D, hD⟩ : ∃ D, D = m - a := ⟨_, rfl⟩
  obtain ⟨E, hE⟩ : ∃ E, E = b - m := ⟨_, rfl⟩
  obtain ⟨n, hn⟩ : ∃ n, n = M + m := ⟨_, rfl⟩
  obtain ⟨p, hp⟩ : ∃ p, p = n - 1 := ⟨_, rfl⟩
  obtain ⟨s0, hs0⟩ : ∃ s, s = if M < m then M + m - b else a := ⟨_, rfl⟩
  obtain ⟨r0, hr0⟩ : ∃ s, s = if M < m then M else m := ⟨_, rfl⟩
  rw [← hs0, ← hr0, ← hn, ← hp] at hbs
  have HBS := Aside0.mk hbs
  obtain ⟨b1, b2, b3, b4, b5, b6, b7, b8⟩ := sm_a hm.1 hmb.1 hb hlen hM hn
  obtain ⟨d1, d2, d3, d4⟩ := not1 (sub_ne1 hD hm.1 hm.2)
  obtain ⟨d5, d6, d7, d8⟩ := not1 (sub_ne1 hE hmb.1 hmb.2)
  have HPE := Aside0.mk (And.intro hn hp)
  obtain ⟨w1, w2_⟩ := wr_sub hD (Nat.le_of_lt hm.1) (Nat.le_trans b1 (by decide))
  obtain ⟨w3_, w4_⟩ := wr_sub hE (Nat.le_of_lt hmb.1) (Nat.le_trans b2 (by decide))
  have e1 := half_w hM (Nat.le_trans (Nat.add_le_add (Nat.le_trans (Nat.le_of_lt hm.1) b1) b2) (by decide))
  have e1' := half_ hM
  have HE1 := Aside0.mk e1'
  clear e1'
  obtain ⟨w5_, w6_⟩ := wr_add hn (Nat.le_trans b4 (by decide))
  obtain ⟨w7_, w8_⟩ := wr_sub hp b5 (Nat.le_trans b4 (by decide))
  have w7' : wrap64 ((n : Int) - 1) = (p : Int) := w7_
  have w8' : IntKind.i64.wrap ((n : Int) - 1) = (p : Int) := w8_
  have HB := Aside0.mk (And.intro b1 (And.intro b2 (And.intro b3 (And.intro b4 (And.intro b6 b7)))))
  by_cases cM : M < m
  all_goals
    first
      | (rw [if_pos cM] at hs0 hr0
         obtain ⟨cm1, cm2⟩ := lt_dec cM
         rw [← hn] at hs0
         have HS0 := Aside0.mk hs0
         have HV := Aside0.mk (show (n : Int) - (b : Int) = (s0 : Int) by rw [hs0]; exact (Int.ofNat_sub (b8 cM)).symm)
         obtain ⟨v1, v2⟩ := wr_sub hs0 (b8 cM) (Nat.le_trans b4 (by decide))
         replace hr0 := hr0.symm
         subst hr0
         have HR0 := Aside0.mk b6)
      | (rw [if_neg cM] at hs0 hr0
         obtain ⟨cm1, cm2⟩ := ge_dec cM
         replace hs0 := hs0.symm
         replace hr0 := hr0.symm
         subst hs0
         subst hr0
         have HR0 := Aside0.mk b7)
    clear hl hc hh hbs hm hmb hb hlen hn hp hst he h1 h2 h3 ih b1 b2 b3 b4 b5 b6 b7 b8 cM hM
    clear hD hE
    go_enter Try.func66, Try.ntmps66
    go_wp2
    (try rw [e1])
    (try rw [HV.out])
    clear d1 d2 d3 d4 d5 d6 d7 d8 w1 w2_ w3_ w4_ w5_ w6_ w7_ w8_ w7' w8' cm1 cm2 e1
    (try clear v1 v2)
    have HSN := Aside0.mk (show st ≤ n by rw [HPE.out.1]; exact HM.out.2.2.2.2.2.1.1)
    go_loopg [20, 21] 100 (fun kq v20 v21 w' => ∃ (x y : Nat) (cur' : Array Value), v20 = .int .i64 (x : Int) ∧ v21 = .int .i64 (y : Int) ∧ Aside0 (bsO (qP xs2 p) kq x y = some st) ∧ Aside0 (y ≤ len) ∧ Aside0 (w'.heap[pb]? = some (.cells cur' 43 (0, 0))) ∧ Aside0 (HoldsD cap cur' xs2) ∧ Aside0 (Bp pb w w'))
    case atStart => first | exact ⟨_, _, cur, rfl, rfl, HBS, HR0, HC, HH, HBP⟩ | exact ⟨_, _, cur, rfl, rfl, ⟨by rw [← HS0.out]; exact HBS.out⟩, HR0, HC, HH, HBP⟩
    case round =>
      clear HC HH HBP HBS HR0
      obtain ⟨x, y, cur1, rfl, rfl, HBS, HY, HC, HH, HBP⟩ := hrel
      cases gk with
      | zero => exact absurd HBS.out (by simp [bsO])
      | succ f =>
        have H := HBS.out
        rw [bsO] at H
        by_cases c : x < y
        · rw [if_pos c] at H
          obtain ⟨t, ht, H⟩ := Option.bind_eq_some_iff.1 H
          obtain ⟨C, hC⟩ : ∃ C, C = (x + y) / 2 := ⟨_, rfl⟩
          rw [← hC] at ht H
          obtain ⟨s1, s2, s3⟩ := sm_b c HY.out HLE.out hC
          unfold qP at ht
          by_cases hcp : C ≤ p
          · rw [if_pos hcp] at ht
            obtain ⟨cv, hcv, htv⟩ := Option.bind_eq_some_iff.1 ht
            obtain ⟨J, hJ⟩ : ∃ J, J = p - C := ⟨_, rfl⟩
            rw [← hJ] at hcv
            obtain ⟨hJ1, hK1, hcv⟩ := qC_some hcv
            have HJ := Aside0.mk hJ1
            have HK := Aside0.mk hK1
            have HCV := Aside0.mk hcv
            have htv : t = !decide (cv < 0) := (Option.some.inj htv).symm
            have HN := Aside0.mk H
            obtain ⟨c1, c2⟩ := lt_dec c
            have p1 := nn_ J
            have p4 := nn_ C
            obtain ⟨p2, p3⟩ := lti (show J < len by rw [HL.out] at hJ1; exact hJ1)
            obtain ⟨p5, p6⟩ := lti (show C < len by rw [HL.out] at hK1; exact hK1)
            have e2 := half_w hC s1
            obtain ⟨w3, w4⟩ := wr_sub hJ hcp (sm_c HB.out.2.2.2.1 HPE.out.2)
            obtain ⟨w5, w6⟩ := wr_add (x := C) (y := 1) rfl (Nat.le_trans (Nat.succ_le_succ s3) (Nat.le_trans (Nat.succ_le_succ HLE.out) (by decide)))
            have HC3 := Aside0.mk s3
            have HC1E := Aside0.mk (show ((C + 1 : Nat) : Int) = (C : Int) + 1 from rfl)
            clear hJ1 hK1 hcv ht H HBS hJ hC hcp s1 s2 s3
            have r0 : wr.cell? ⟨pb, J * 2, none⟩ = some (.int .i64 (rd_T43 xs2 (J : Int)).f0) := (blk_cell HC.out _).trans (HH.out.f0 J HJ.out)
            have r1 : wr.cell? ⟨pb, J * 2 + 1, none⟩ = some (.int .i64 (rd_T43 xs2 (J : Int)).f1) := (blk_cell HC.out _).trans (HH.out.f1 J HJ.out)
            have r2 : wr.cell? ⟨pb, C * 2, none⟩ = some (.int .i64 (rd_T43 xs2 (C : Int)).f0) := (blk_cell HC.out _).trans (HH.out.f0 C HK.out)
            have r3 : wr.cell? ⟨pb, C * 2 + 1, none⟩ = some (.int .i64 (rd_T43 xs2 (C : Int)).f1) := (blk_cell HC.out _).trans (HH.out.f1 C HK.out)
            go_upto_region 35 with fail
            go_region_held3 (fun w' => (w'.cell? ⟨pb, J * 2, none⟩ = some (.int .i64 (rd_T43 xs2 (J : Int)).f0) ∧ w'.cell? ⟨pb, J * 2 + 1, none⟩ = some (.int .i64 (rd_T43 xs2 (J : Int)).f1)) ∧ w'.cell? ⟨pb, C * 2, none⟩ = some (.int .i64 (rd_T43 xs2 (C : Int)).f0) ∧ w'.cell? ⟨pb, C * 2 + 1, none⟩ = some (.int .i64 (rd_T43 xs2 (C : Int)).f1)) (exact ⟨⟨r0, r1⟩, r2, r3⟩) (first
              | (go_at_call 54; (with_reducible refine (cmpD.calls (rd_T43 xs2 (J : Int)) (rd_T43 xs2 (C : Int)) _).mono ?_); rw [← HCV.out]; rintro e w2 ⟨rfl, hb⟩; have HC9 := Aside0.mk (blk_below (by first | exact HC.out | exact blk_drew HC.out) hb); have HP9 := Aside0.mk (HBP.out.trans (Bp.below pb (by first | exact hb | exact below_of_drew hb))); clear HC HBP hb r0 r1 r2 r3; have HC := HC9; have HBP := HP9; clear HC9 HP9; have r0 : w2.cell? ⟨pb, J * 2, none⟩ = some (.int .i64 (rd_T43 xs2 (J : Int)).f0) := (blk_cell HC.out _).trans (HH.out.f0 J HJ.out); have r1 : w2.cell? ⟨pb, J * 2 + 1, none⟩ = some (.int .i64 (rd_T43 xs2 (J : Int)).f1) := (blk_cell HC.out _).trans (HH.out.f1 J HJ.out); have r2 : w2.cell? ⟨pb, C * 2, none⟩ = some (.int .i64 (rd_T43 xs2 (C : Int)).f0) := (blk_cell HC.out _).trans (HH.out.f0 C HK.out); have r3 : w2.cell? ⟨pb, C * 2 + 1, none⟩ = some (.int .i64 (rd_T43 xs2 (C : Int)).f1) := (blk_cell HC.out _).trans (HH.out.f1 C HK.out)))
            clear r0 r1 r2 r3
            cases t with
            | true =>
              have k1 : (!decide (cv < 0)) = true := htv.symm
              rw [k1]
              clear htv
              go_wp2
              go_roundg f
              case measure => omega
              case rel => exact ⟨C + 1, y, _, by first | rfl | go_num, rfl, HN, HY, HC, HH, HBP⟩
            | false =>
              have k1 : (!decide (cv < 0)) = false := htv.symm
              rw [k1]
              clear htv
              go_wp2
              go_roundg f
              case measure => omega
              case rel => exact ⟨x, C, _, rfl, rfl, HN, HC3, HC, HH, HBP⟩
          · rw [if_neg hcp] at ht
            cases ht
        · rw [if_neg c] at H
          obtain rfl : st = x := (Option.some.inj H).symm
          obtain ⟨c1, c2⟩ := ge_dec c
          obtain ⟨w3, w4⟩ := wr_sub (show e = n - st by rw [HPE.out.1]; exact HM.out.2.2.2.2.2.2) HSN.out (Nat.le_trans HB.out.2.2.2.1 (by decide))
          clear c H HBS
          go_upto_region 39 with fail
          clear c1 c2 w3 w4
          have h1 := H1.out
          by_cases c1 : st < m
          · by_cases c2 : m < e
            · rw [if_pos ⟨c1, c2⟩] at h1
              obtain ⟨i1, i2⟩ := lt_dec (x := st) (y := m) c1
              obtain ⟨j1, j2⟩ := lt_dec (x := m) (y := e) c2
              have HL1 := Aside0.mk (show x1.length = len by rw [rotF_len _ _ _ _ _ _ h1]; exact HL.out)
              have hRz := Aside0.mk h1
              have z1 := Aside0.mk c1
              have z2 := Aside0.mk c2
              clear h1 c1 c2
              go_upto_region 41 with (go_at_call 68; (with_reducible refine (rotate.calls pb cap len st m e (Nat.le_of_lt z1.out) (Nat.le_of_lt z2.out) HEL.out HLE.out 200 xs2 x1 hRz.out _ _ HL.out ?sa HH.out).mono ?_); (case sa => first | exact HC.out | exact blk_drewN HC.out _); rintro e_ w5 ⟨rfl, hp, cur5, hc5, hh5⟩; have HC9 := Aside0.mk hc5; have HH9 := Aside0.mk hh5; have HP9 := Aside0.mk (HBP.out.trans hp); clear HC HH HBP hp hc5 hh5; have HC := HC9; have HH := HH9; have HBP := HP9; clear HC9 HH9 HP9)
              clear HL
              have h2 := H2.out
              by_cases c3 : a < st
              · by_cases c4 : st < M
                · rw [if_pos ⟨c3, c4⟩] at h2
                  obtain ⟨k1, k2⟩ := lt_dec (x := a) (y := st) c3
                  obtain ⟨l1, l2⟩ := lt_dec (x := st) (y := M) c4
                  have HLz := HL1
                  have HL2 := Aside0.mk (show x2.length = len by rw [symF_len _ _ _ _ _ _ _ h2]; exact HL1.out)
                  have h2z := Aside0.mk h2
                  clear c3 c4 h2
                  go_upto_region 43 with (go_at_call 66; (with_reducible refine (IH.out a st M x1 x2 h2z.out _ _ HLz.out ?sa HH.out).mono ?_); (case sa => first | exact HC.out | exact blk_drewN HC.out _); rintro e_ w6 ⟨rfl, hp, cur6, hc6, hh6⟩; have HC9 := Aside0.mk hc6; have HH9 := Aside0.mk hh6; have HP9 := Aside0.mk (HBP.out.trans hp); clear HC HH HBP hp hc6 hh6; have HC := HC9; have HH := HH9; have HBP := HP9; clear HC9 HH9 HP9)
                  clear HLz
                  have h3 := H3.out
                  by_cases c5 : M < e
                  · by_cases c6 : e < b
                    · rw [if_pos ⟨c5, c6⟩] at h3
                      obtain ⟨g1, g2⟩ := lt_dec (x := M) (y := e) c5
                      obtain ⟨h1, h2⟩ := lt_dec (x := e) (y := b) c6
                      have HLz := HL2
                      have h3z := Aside0.mk h3
                      clear c5 c6 h3
                      go_wp2_with (go_at_call 66; (with_reducible refine (IH.out M e b x2 ys h3z.out _ _ HLz.out ?sa HH.out).mono ?_); (case sa => first | exact HC.out | exact blk_drewN HC.out _); rintro e_ w6 ⟨rfl, hp, cur6, hc6, hh6⟩; have HC9 := Aside0.mk hc6; have HH9 := Aside0.mk hh6; have HP9 := Aside0.mk (HBP.out.trans hp); clear HC HH HBP hp hc6 hh6; have HC := HC9; have HH := HH9; have HBP := HP9; clear HC9 HH9 HP9)
                      go_end0
                      exact ⟨rfl, HBP.out, _, HC.out, HH.out⟩
                    · rw [if_neg (fun q => c6 q.2)] at h3
                      obtain rfl : ys = x2 := (Option.some.inj h3).symm
                      obtain ⟨g1, g2⟩ := lt_dec (x := M) (y := e) c5
                      obtain ⟨h1, h2⟩ := ge_dec (x := e) (y := b) c6
                      clear c5 c6 h3
                      go_wp2
                      go_end0
                      exact ⟨rfl, HBP.out, _, HC.out, HH.out⟩
                  · rw [if_neg (fun q => c5 q.1)] at h3
                    obtain rfl : ys = x2 := (Option.some.inj h3).symm
                    obtain ⟨g1, g2⟩ := ge_dec (x := M) (y := e) c5
                    clear c5 h3
                    go_wp2
                    go_end0
                    exact ⟨rfl, HBP.out, _, HC.out, HH.out⟩
                · rw [if_neg (fun q => c4 q.2)] at h2
                  obtain rfl : x2 = x1 := (Option.some.inj h2).symm
                  have HL2 := HL1
                  obtain ⟨k1, k2⟩ := lt_dec (x := a) (y := st) c3
                  obtain ⟨l1, l2⟩ := ge_dec (x := st) (y := M) c4
                  clear c3 c4 h2
                  go_upto_region 43 with fail
                  have h3 := H3.out
                  by_cases c5 : M < e
                  · by_cases c6 : e < b
                    · rw [if_pos ⟨c5, c6⟩] at h3
                      obtain ⟨g1, g2⟩ := lt_dec (x := M) (y := e) c5
                      obtain ⟨h1, h2⟩ := lt_dec (x := e) (y := b) c6
                      have HLz := HL2
                      have h3z := Aside0.mk h3
                      clear c5 c6 h3
                      go_wp2_with (go_at_call 66; (with_reducible refine (IH.out M e b x2 ys h3z.out _ _ HLz.out ?sa HH.out).mono ?_); (case sa => first | exact HC.out | exact blk_drewN HC.out _); rintro e_ w6 ⟨rfl, hp, cur6, hc6, hh6⟩; have HC9 := Aside0.mk hc6; have HH9 := Aside0.mk hh6; have HP9 := Aside0.mk (HBP.out.trans hp); clear HC HH HBP hp hc6 hh6; have HC := HC9; have HH := HH9; have HBP := HP9; clear HC9 HH9 HP9)
                      go_end0
                      exact ⟨rfl, HBP.out, _, HC.out, HH.out⟩
                    · rw [if_neg (fun q => c6 q.2)] at h3
                      obtain rfl : ys = x2 := (Option.some.inj h3).symm
                      obtain ⟨g1, g2⟩ := lt_dec (x := M) (y := e) c5
                      obtain ⟨h1, h2⟩ := ge_dec (x := e) (y := b) c6
                      clear c5 c6 h3
                      go_wp2
                      go_end0
                      exact ⟨rfl, HBP.out, _, HC.out, HH.out⟩
                  · rw [if_neg (fun q => c5 q.1)] at h3
                    obtain rfl : ys = x2 := (Option.some.inj h3).symm
                    obtain ⟨g1, g2⟩ := ge_dec (x := M) (y := e) c5
                    clear c5 h3
                    go_wp2
                    go_end0
                    exact ⟨rfl, HBP.out, _, HC.out, HH.out⟩
              · rw [if_neg (fun q => c3 q.1)] at h2
                obtain rfl : x2 = x1 := (Option.some.inj h2).symm
                have HL2 := HL1
                obtain ⟨k1, k2⟩ := ge_dec (x := a) (y := st) c3
                clear c3 h2
                go_upto_region 43 with fail
                have h3 := H3.out
                by_cases c5 : M < e
                · by_cases c6 : e < b
                  · rw [if_pos ⟨c5, c6⟩] at h3
                    obtain ⟨g1, g2⟩ := lt_dec (x := M) (y := e) c5
                    obtain ⟨h1, h2⟩ := lt_dec (x := e) (y := b) c6
                    have HLz := HL2
                    have h3z := Aside0.mk h3
                    clear c5 c6 h3
                    go_wp2_with (go_at_call 66; (with_reducible refine (IH.out M e b x2 ys h3z.out _ _ HLz.out ?sa HH.out).mono ?_); (case sa => first | exact HC.out | exact blk_drewN HC.out _); rintro e_ w6 ⟨rfl, hp, cur6, hc6, hh6⟩; have HC9 := Aside0.mk hc6; have HH9 := Aside0.mk hh6; have HP9 := Aside0.mk (HBP.out.trans hp); clear HC HH HBP hp hc6 hh6; have HC := HC9; have HH := HH9; have HBP := HP9; clear HC9 HH9 HP9)
                    go_end0
                    exact ⟨rfl, HBP.out, _, HC.out, HH.out⟩
                  · rw [if_neg (fun q => c6 q.2)] at h3
                    obtain rfl : ys = x2 := (Option.some.inj h3).symm
                    obtain ⟨g1, g2⟩ := lt_dec (x := M) (y := e) c5
                    obtain ⟨h1, h2⟩ := ge_dec (x := e) (y := b) c6
                    clear c5 c6 h3
                    go_wp2
                    go_end0
                    exact ⟨rfl, HBP.out, _, HC.out, HH.out⟩
                · rw [if_neg (fun q => c5 q.1)] at h3
                  obtain rfl : ys = x2 := (Option.some.inj h3).symm
                  obtain ⟨g1, g2⟩ := ge_dec (x := M) (y := e) c5
                  clear c5 h3
                  go_wp2
                  go_end0
                  exact ⟨rfl, HBP.out, _, HC.out, HH.out⟩
            · rw [if_neg (fun q => c2 q.2)] at h1
              obtain rfl : x1 = xs2 := (Option.some.inj h1).symm
              have HL1 := HL
              obtain ⟨i1, i2⟩ := lt_dec (x := st) (y := m) c1
              obtain ⟨j1, j2⟩ := ge_dec (x := m) (y := e) c2
              clear h1 c1 c2
              go_upto_region 41 with fail
              have h2 := H2.out
              by_cases c3 : a < st
              · by_cases c4 : st < M
                · rw [if_pos ⟨c3, c4⟩] at h2
                  obtain ⟨k1, k2⟩ := lt_dec (x := a) (y := st) c3
                  obtain ⟨l1, l2⟩ := lt_dec (x := st) (y := M) c4
                  have HLz := HL1
                  have HL2 := Aside0.mk (show x2.length = len by rw [symF_len _ _ _ _ _ _ _ h2]; exact HL1.out)
                  have h2z := Aside0.mk h2
                  clear c3 c4 h2
                  go_upto_region 43 with (go_at_call 66; (with_reducible refine (IH.out a st M x1 x2 h2z.out _ _ HLz.out ?sa HH.out).mono ?_); (case sa => first | exact HC.out | exact blk_drewN HC.out _); rintro e_ w6 ⟨rfl, hp, cur6, hc6, hh6⟩; have HC9 := Aside0.mk hc6; have HH9 := Aside0.mk hh6; have HP9 := Aside0.mk (HBP.out.trans hp); clear HC HH HBP hp hc6 hh6; have HC := HC9; have HH := HH9; have HBP := HP9; clear HC9 HH9 HP9)
                  clear HLz
                  have h3 := H3.out
                  by_cases c5 : M < e
                  · by_cases c6 : e < b
                    · rw [if_pos ⟨c5, c6⟩] at h3
                      obtain ⟨g1, g2⟩ := lt_dec (x := M) (y := e) c5
                      obtain ⟨h1, h2⟩ := lt_dec (x := e) (y := b) c6
                      have HLz := HL2
                      have h3z := Aside0.mk h3
                      clear c5 c6 h3
                      go_wp2_with (go_at_call 66; (with_reducible refine (IH.out M e b x2 ys h3z.out _ _ HLz.out ?sa HH.out).mono ?_); (case sa => first | exact HC.out | exact blk_drewN HC.out _); rintro e_ w6 ⟨rfl, hp, cur6, hc6, hh6⟩; have HC9 := Aside0.mk hc6; have HH9 := Aside0.mk hh6; have HP9 := Aside0.mk (HBP.out.trans hp); clear HC HH HBP hp hc6 hh6; have HC := HC9; have HH := HH9; have HBP := HP9; clear HC9 HH9 HP9)
                      go_end0
                      exact ⟨rfl, HBP.out, _, HC.out, HH.out⟩
                    · rw [if_neg (fun q => c6 q.2)] at h3
                      obtain rfl : ys = x2 := (Option.some.inj h3).symm
                      obtain ⟨g1, g2⟩ := lt_dec (x := M) (y := e) c5
                      obtain ⟨h1, h2⟩ := ge_dec (x := e) (y := b) c6
                      clear c5 c6 h3
                      go_wp2
                      go_end0
                      exact ⟨rfl, HBP.out, _, HC.out, HH.out⟩
                  · rw [if_neg (fun q => c5 q.1)] at h3
                    obtain rfl : ys = x2 := (Option.some.inj h3).symm
                    obtain ⟨g1, g2⟩ := ge_dec (x := M) (y := e) c5
                    clear c5 h3
                    go_wp2
                    go_end0
                    exact ⟨rfl, HBP.out, _, HC.out, HH.out⟩
                · rw [if_neg (fun q => c4 q.2)] at h2
                  obtain rfl : x2 = x1 := (Option.some.inj h2).symm
                  have HL2 := HL1
                  obtain ⟨k1, k2⟩ := lt_dec (x := a) (y := st) c3
                  obtain ⟨l1, l2⟩ := ge_dec (x := st) (y := M) c4
                  clear c3 c4 h2
                  go_upto_region 43 with fail
                  have h3 := H3.out
                  by_cases c5 : M < e
                  · by_cases c6 : e < b
                    · rw [if_pos ⟨c5, c6⟩] at h3
                      obtain ⟨g1, g2⟩ := lt_dec (x := M) (y := e) c5
                      obtain ⟨h1, h2⟩ := lt_dec (x := e) (y := b) c6
                      have HLz := HL2
                      have h3z := Aside0.mk h3
                      clear c5 c6 h3
                      go_wp2_with (go_at_call 66; (with_reducible refine (IH.out M e b x2 ys h3z.out _ _ HLz.out ?sa HH.out).mono ?_); (case sa => first | exact HC.out | exact blk_drewN HC.out _); rintro e_ w6 ⟨rfl, hp, cur6, hc6, hh6⟩; have HC9 := Aside0.mk hc6; have HH9 := Aside0.mk hh6; have HP9 := Aside0.mk (HBP.out.trans hp); clear HC HH HBP hp hc6 hh6; have HC := HC9; have HH := HH9; have HBP := HP9; clear HC9 HH9 HP9)
                      go_end0
                      exact ⟨rfl, HBP.out, _, HC.out, HH.out⟩
                    · rw [if_neg (fun q => c6 q.2)] at h3
                      obtain rfl : ys = x2 := (Option.some.inj h3).symm
                      obtain ⟨g1, g2⟩ := lt_dec (x := M) (y := e) c5
                      obtain ⟨h1, h2⟩ := ge_dec (x := e) (y := b) c6
                      clear c5 c6 h3
                      go_wp2
                      go_end0
                      exact ⟨rfl, HBP.out, _, HC.out, HH.out⟩
                  · rw [if_neg (fun q => c5 q.1)] at h3
                    obtain rfl : ys = x2 := (Option.some.inj h3).symm
                    obtain ⟨g1, g2⟩ := ge_dec (x := M) (y := e) c5
                    clear c5 h3
                    go_wp2
                    go_end0
                    exact ⟨rfl, HBP.out, _, HC.out, HH.out⟩
              · rw [if_neg (fun q => c3 q.1)] at h2
                obtain rfl : x2 = x1 := (Option.some.inj h2).symm
                have HL2 := HL1
                obtain ⟨k1, k2⟩ := ge_dec (x := a) (y := st) c3
                clear c3 h2
                go_upto_region 43 with fail
                have h3 := H3.out
                by_cases c5 : M < e
                · by_cases c6 : e < b
                  · rw [if_pos ⟨c5, c6⟩] at h3
                    obtain ⟨g1, g2⟩ := lt_dec (x := M) (y := e) c5
                    obtain ⟨h1, h2⟩ := lt_dec (x := e) (y := b) c6
                    have HLz := HL2
                    have h3z := Aside0.mk h3
                    clear c5 c6 h3
                    go_wp2_with (go_at_call 66; (with_reducible refine (IH.out M e b x2 ys h3z.out _ _ HLz.out ?sa HH.out).mono ?_); (case sa => first | exact HC.out | exact blk_drewN HC.out _); rintro e_ w6 ⟨rfl, hp, cur6, hc6, hh6⟩; have HC9 := Aside0.mk hc6; have HH9 := Aside0.mk hh6; have HP9 := Aside0.mk (HBP.out.trans hp); clear HC HH HBP hp hc6 hh6; have HC := HC9; have HH := HH9; have HBP := HP9; clear HC9 HH9 HP9)
                    go_end0
                    exact ⟨rfl, HBP.out, _, HC.out, HH.out⟩
                  · rw [if_neg (fun q => c6 q.2)] at h3
                    obtain rfl : ys = x2 := (Option.some.inj h3).symm
                    obtain ⟨g1, g2⟩ := lt_dec (x := M) (y := e) c5
                    obtain ⟨h1, h2⟩ := ge_dec (x := e) (y := b) c6
                    clear c5 c6 h3
                    go_wp2
                    go_end0
                    exact ⟨rfl, HBP.out, _, HC.out, HH.out⟩
                · rw [if_neg (fun q => c5 q.1)] at h3
                  obtain rfl : ys = x2 := (Option.some.inj h3).symm
                  obtain ⟨g1, g2⟩ := ge_dec (x := M) (y := e) c5
                  clear c5 h3
                  go_wp2
                  go_end0
                  exact ⟨rfl, HBP.out, _, HC.out, HH.out⟩
          · rw [if_neg (fun q => c1 q.1)] at h1
            obtain rfl : x1 = xs2 := (Option.some.inj h1).symm
            have HL1 := HL
            obtain ⟨i1, i2⟩ := ge_dec (x := st) (y := m) c1
            clear h1 c1
            go_upto_region 41 with fail
            have h2 := H2.out
            by_cases c3 : a < st
            · by_cases c4 : st < M
              · rw [if_pos ⟨c3, c4⟩] at h2
                obtain ⟨k1, k2⟩ := lt_dec (x := a) (y := st) c3
                obtain ⟨l1, l2⟩ := lt_dec (x := st) (y := M) c4
                have HLz := HL1
                have HL2 := Aside0.mk (show x2.length = len by rw [symF_len _ _ _ _ _ _ _ h2]; exact HL1.out)
                have h2z := Aside0.mk h2
                clear c3 c4 h2
                go_upto_region 43 with (go_at_call 66; (with_reducible refine (IH.out a st M x1 x2 h2z.out _ _ HLz.out ?sa HH.out).mono ?_); (case sa => first | exact HC.out | exact blk_drewN HC.out _); rintro e_ w6 ⟨rfl, hp, cur6, hc6, hh6⟩; have HC9 := Aside0.mk hc6; have HH9 := Aside0.mk hh6; have HP9 := Aside0.mk (HBP.out.trans hp); clear HC HH HBP hp hc6 hh6; have HC := HC9; have HH := HH9; have HBP := HP9; clear HC9 HH9 HP9)
                clear HLz
                have h3 := H3.out
                by_cases c5 : M < e
                · by_cases c6 : e < b
                  · rw [if_pos ⟨c5, c6⟩] at h3
                    obtain ⟨g1, g2⟩ := lt_dec (x := M) (y := e) c5
                    obtain ⟨h1, h2⟩ := lt_dec (x := e) (y := b) c6
                    have HLz := HL2
                    have h3z := Aside0.mk h3
                    clear c5 c6 h3
                    go_wp2_with (go_at_call 66; (with_reducible refine (IH.out M e b x2 ys h3z.out _ _ HLz.out ?sa HH.out).mono ?_); (case sa => first | exact HC.out | exact blk_drewN HC.out _); rintro e_ w6 ⟨rfl, hp, cur6, hc6, hh6⟩; have HC9 := Aside0.mk hc6; have HH9 := Aside0.mk hh6; have HP9 := Aside0.mk (HBP.out.trans hp); clear HC HH HBP hp hc6 hh6; have HC := HC9; have HH := HH9; have HBP := HP9; clear HC9 HH9 HP9)
                    go_end0
                    exact ⟨rfl, HBP.out, _, HC.out, HH.out⟩
                  · rw [if_neg (fun q => c6 q.2)] at h3
                    obtain rfl : ys = x2 := (Option.some.inj h3).symm
                    obtain ⟨g1, g2⟩ := lt_dec (x := M) (y := e) c5
                    obtain ⟨h1, h2⟩ := ge_dec (x := e) (y := b) c6
                    clear c5 c6 h3
                    go_wp2
                    go_end0
                    exact ⟨rfl, HBP.out, _, HC.out, HH.out⟩
                · rw [if_neg (fun q => c5 q.1)] at h3
                  obtain rfl : ys = x2 := (Option.some.inj h3).symm
                  obtain ⟨g1, g2⟩ := ge_dec (x := M) (y := e) c5
                  clear c5 h3
                  go_wp2
                  go_end0
                  exact ⟨rfl, HBP.out, _, HC.out, HH.out⟩
              · rw [if_neg (fun q => c4 q.2)] at h2
                obtain rfl : x2 = x1 := (Option.some.inj h2).symm
                have HL2 := HL1
                obtain ⟨k1, k2⟩ := lt_dec (x := a) (y := st) c3
                obtain ⟨l1, l2⟩ := ge_dec (x := st) (y := M) c4
                clear c3 c4 h2
                go_upto_region 43 with fail
                have h3 := H3.out
                by_cases c5 : M < e
                · by_cases c6 : e < b
                  · rw [if_pos ⟨c5, c6⟩] at h3
                    obtain ⟨g1, g2⟩ := lt_dec (x := M) (y := e) c5
                    obtain ⟨h1, h2⟩ := lt_dec (x := e) (y := b) c6
                    have HLz := HL2
                    have h3z := Aside0.mk h3
                    clear c5 c6 h3
                    go_wp2_with (go_at_call 66; (with_reducible refine (IH.out M e b x2 ys h3z.out _ _ HLz.out ?sa HH.out).mono ?_); (case sa => first | exact HC.out | exact blk_drewN HC.out _); rintro e_ w6 ⟨rfl, hp, cur6, hc6, hh6⟩; have HC9 := Aside0.mk hc6; have HH9 := Aside0.mk hh6; have HP9 := Aside0.mk (HBP.out.trans hp); clear HC HH HBP hp hc6 hh6; have HC := HC9; have HH := HH9; have HBP := HP9; clear HC9 HH9 HP9)
                    go_end0
                    exact ⟨rfl, HBP.out, _, HC.out, HH.out⟩
                  · rw [if_neg (fun q => c6 q.2)] at h3
                    obtain rfl : ys = x2 := (Option.some.inj h3).symm
                    obtain ⟨g1, g2⟩ := lt_dec (x := M) (y := e) c5
                    obtain ⟨h1, h2⟩ := ge_dec (x := e) (y := b) c6
                    clear c5 c6 h3
                    go_wp2
                    go_end0
                    exact ⟨rfl, HBP.out, _, HC.out, HH.out⟩
                · rw [if_neg (fun q => c5 q.1)] at h3
                  obtain rfl : ys = x2 := (Option.some.inj h3).symm
                  obtain ⟨g1, g2⟩ := ge_dec (x := M) (y := e) c5
                  clear c5 h3
                  go_wp2
                  go_end0
                  exact ⟨rfl, HBP.out, _, HC.out, HH.out⟩
            · rw [if_neg (fun q => c3 q.1)] at h2
              obtain rfl : x2 = x1 := (Option.some.inj h2).symm
              have HL2 := HL1
              obtain ⟨k1, k2⟩ := ge_dec (x := a) (y := st) c3
              clear c3 h2
              go_upto_region 43 with fail
              have h3 := H3.out
              by_cases c5 : M < e
              · by_cases c6 : e < b
                · rw [if_pos ⟨c5, c6⟩] at h3
                  obtain ⟨g1, g2⟩ := lt_dec (x := M) (y := e) c5
                  obtain ⟨h1, h2⟩ := lt_dec (x := e) (y := b) c6
                  have HLz := HL2
                  have h3z := Aside0.mk h3
                  clear c5 c6 h3
                  go_wp2_with (go_at_call 66; (with_reducible refine (IH.out M e b x2 ys h3z.out _ _ HLz.out ?sa HH.out).mono ?_); (case sa => first | exact HC.out | exact blk_drewN HC.out _); rintro e_ w6 ⟨rfl, hp, cur6, hc6, hh6⟩; have HC9 := Aside0.mk hc6; have HH9 := Aside0.mk hh6; have HP9 := Aside0.mk (HBP.out.trans hp); clear HC HH HBP hp hc6 hh6; have HC := HC9; have HH := HH9; have HBP := HP9; clear HC9 HH9 HP9)
                  go_end0
                  exact ⟨rfl, HBP.out, _, HC.out, HH.out⟩
                · rw [if_neg (fun q => c6 q.2)] at h3
                  obtain rfl : ys = x2 := (Option.some.inj h3).symm
                  obtain ⟨g1, g2⟩ := lt_dec (x := M) (y := e) c5
                  obtain ⟨h1, h2⟩ := ge_dec (x := e) (y := b) c6
                  clear c5 c6 h3
                  go_wp2
                  go_end0
                  exact ⟨rfl, HBP.out, _, HC.out, HH.out⟩
              · rw [if_neg (fun q => c5 q.1)] at h3
                obtain rfl : ys = x2 := (Option.some.inj h3).symm
                obtain ⟨g1, g2⟩ := ge_dec (x := M) (y := e) c5
                clear c5 h3
                go_wp2
                go_end0
                exact ⟨rfl, HBP.out, _, HC.out, HH.out⟩
end Go.Proofs.Ytacmfgbeaoalfaa.QFnDartsFinish
