/- impl.divideDigits, walked: two digits divided by two. -/
import Derived.Test.YtmkjkcfmjfeheaaGFrac
import Derived.Test.YtmkjkcfmjfeheaaGDivQ
namespace Go.Proofs.Ytmkjkcfmjfeheaa.QFnExactMeanDeuce
open Go.RowKit Go.Proofs.YtmkjkcfmjfeheaaW.PrintWords Go.Proofs.YtmkjkcfmjfeheaaW.PrintLast Go.Proofs.YtmkjkcfmjfeheaaW.PrintMore
set_option linter.unusedVariables false
set_option linter.unusedSimpArgs false
theorem end22 {w D : World} {g9 gO k9 : Nat} {cs9 : Array Value} {u2 q F f0 f1 N M : Int} (hne : g9 ≠ gO) (HBD : Below w.heap.size w D) (HGD : D.heap[g9]? = some (.cells cs9 61 (0, 0))) (HOD : D.heap[gO]? = some (.cells #[.int .u32 0] 61 (0, 0))) (h2 : D.cell? ⟨g9, 2, none⟩ = some (.int .u32 u2)) (hk : 2 ≤ k9)
    (hg9 : w.heap.size ≤ g9) (hgO : w.heap.size ≤ gO) (hq : q = N / M) (hqb : 0 ≤ q ∧ q < 4294967296) (hF : F = N % M) (hF0 : 0 ≤ F) (hf0 : F % 4294967296 = f0) (hf1 : f1 = F / 4294967296) (hm : f1 % 4294967296 = f1) {r0 r1 : Int} :
    Dg ((((((D.setCell ⟨g9, 0, none⟩ (.int .u32 r0)).setCell ⟨g9, 1, none⟩ (.int .u32 r1)).setCell ⟨g9, 2, none⟩ (.int .u32 0)).setCell ⟨gO, 0, none⟩ (.int .u32 q)).setCell ⟨g9, 0, none⟩ (.int .u32 f0)).setCell ⟨g9, 1, none⟩ (.int .u32 f1)) (.slice (some ⟨gO, 0, none⟩) 1 1) [q] ∧
    Dg ((((((D.setCell ⟨g9, 0, none⟩ (.int .u32 r0)).setCell ⟨g9, 1, none⟩ (.int .u32 r1)).setCell ⟨g9, 2, none⟩ (.int .u32 0)).setCell ⟨gO, 0, none⟩ (.int .u32 q)).setCell ⟨g9, 0, none⟩ (.int .u32 f0)).setCell ⟨g9, 1, none⟩ (.int .u32 f1)) (.slice (some ⟨g9, 0, none⟩) 2 k9) [f0, f1] ∧
    inR [q] ∧ inR [f0, f1] ∧ vl [q] = N / M ∧ vl [f0, f1] = N % M ∧
    Below w.heap.size w ((((((D.setCell ⟨g9, 0, none⟩ (.int .u32 r0)).setCell ⟨g9, 1, none⟩ (.int .u32 r1)).setCell ⟨g9, 2, none⟩ (.int .u32 0)).setCell ⟨gO, 0, none⟩ (.int .u32 q)).setCell ⟨g9, 0, none⟩ (.int .u32 f0)).setCell ⟨g9, 1, none⟩ (.int .u32 f1)) := by
  have hsz : 2 < cs9.size := by
    rw [blk_cell HGD] at h2
    exact (Array.getElem?_eq_some_iff.1 h2).1
  have a3 := blk_set (blk_set (blk_set HGD 0 (.int .u32 r0)) 1 (.int .u32 r1)) 2 (.int .u32 0)
  have a4 := blk_far (p := ⟨gO, 0, none⟩) a3 hne (.int .u32 q)
  have a6 := blk_set (blk_set a4 0 (.int .u32 f0)) 1 (.int .u32 f1)
  have o1 := blk_far (p := ⟨g9, 0, none⟩) HOD (fun e => hne e.symm) (.int .u32 r0)
  have o2 := blk_far (p := ⟨g9, 1, none⟩) o1 (fun e => hne e.symm) (.int .u32 r1)
  have o3 := blk_far (p := ⟨g9, 2, none⟩) o2 (fun e => hne e.symm) (.int .u32 0)
  have o4 := blk_set o3 0 (.int .u32 q)
  have o5 := blk_far (p := ⟨g9, 0, none⟩) o4 (fun e => hne e.symm) (.int .u32 f0)
  have o6 := blk_far (p := ⟨g9, 1, none⟩) o5 (fun e => hne e.symm) (.int .u32 f1)
  have b1 := HBD.setCell (p := ⟨g9, 0, none⟩) hg9 (.int .u32 r0)
  have b2 := b1.setCell (p := ⟨g9, 1, none⟩) hg9 (.int .u32 r1)
  have b3 := b2.setCell (p := ⟨g9, 2, none⟩) hg9 (.int .u32 0)
  have b4 := b3.setCell (p := ⟨gO, 0, none⟩) hgO (.int .u32 q)
  have b5 := b4.setCell (p := ⟨g9, 0, none⟩) hg9 (.int .u32 f0)
  have b6 := b5.setCell (p := ⟨g9, 1, none⟩) hg9 (.int .u32 f1)
  refine ⟨Dg.of_block o6 rfl (Nat.le_refl _) (by decide) (fun i hi => ?_), Dg.of_block a6 rfl hk (by decide) (fun i hi => ?_), inR_one hqb.1 hqb.2, inR_add (by omega) (by omega) (inR_one (by omega) (by omega)), ?_, ?_, b6⟩
  · have e : i = 0 := by omega
    subst e
    rfl
  · rcases (show i = 0 ∨ i = 1 by omega) with e | e
    · subst e
      rw [Array.getElem?_setIfInBounds_ne (by decide), Array.getElem?_setIfInBounds_self_of_lt (by simp; omega)]
      rfl
    · subst e
      rw [Array.getElem?_setIfInBounds_self_of_lt (by simp; omega)]
      rfl
  · rw [← hq]; simp [vl]
  · rw [← hF]; simp only [vl]; omega
set_option maxHeartbeats 16000000 in
set_option maxRecDepth 100000 in
theorem div22.calls : Div22 := by
  intro w A0 A1 c0 c1 a0 a1 b0 b1 hr0 hc0 hr1 hc1 ha hbb hb
  obtain ⟨ad1, rfl, cb⟩ := Kd.at_int hr1 1 (by omega) (by omega)
  replace cb : w.cell? (ad1.add 1) = some (.int .u32 b1) := cb
  replace cb : w.cell? ⟨ad1.block, ad1.off + 1, none⟩ = some (.int .u32 b1) := by rw [show ad1.add 1 = ⟨ad1.block, ad1.off + 1, none⟩ by simp [Addr.add]] at cb; exact cb
  have ha0 := (inR_cons ha).1
  have ha1 := (inR_cons (inR_cons ha).2).1
  have hb0 := (inR_cons hbb).1
  have hb1 := (inR_cons (inR_cons hbb).2).1.2
  have HR0 := Aside0.mk hr0
  have HR1 := Aside0.mk hr1
  have HA := Aside0.mk ha
  have HBB := Aside0.mk hbb
  have HI := Aside0.mk (And.intro ha0 (And.intro ha1 hb0))
  clear hr0 hr1 ha hbb ha0 ha1 hb0
  have hba : b1 * 2 ^ (0 : Int).toNat < 4294967296 := by simp; omega
  have HBA := Aside0.mk hba
  clear hba
  go_enter Try.func43, Try.ntmps43
  go_wp2
  go_loopg [7] 32 (fun kq v7 w' => ∃ P : Int, v7 = .int .u64 P ∧ Aside0 (0 ≤ P ∧ P + kq = 32) ∧ Aside0 (b1 * 2 ^ P.toNat < 4294967296) ∧ w = w')
  case atStart => exact ⟨0, rfl, ⟨by omega⟩, HBA, rfl⟩
  case round =>
    obtain ⟨P, rfl, hk, hp, rfl⟩ := hrel
    obtain ⟨sh, hsh⟩ : ∃ sh, sh = b1 * 2 ^ P.toNat := ⟨_, rfl⟩
    have hlt : P ≤ 31 := pow_lt hb hp.out
    have hw : IntKind.u32.wrap (b1 * 2 ^ min P.toNat 32) = sh := shl32 hb hsh hp.out hk.out.1 hlt
    have hw2 : IntKind.u32.wrap (b1 * 2 ^ P.toNat) = sh := by rw [show min P.toNat 32 = P.toNat by omega] at hw; exact hw
    have hP0 : (0 ≤ P) = True := eq_true hk.out.1
    have hP1 : decide (0 ≤ P) = true := decide_eq_true hk.out.1
    have HSH := Aside0.mk hsh
    have HLT := Aside0.mk hlt
    clear hsh hlt
    by_cases hcc : sh < 2147483648
    · have hcd : decide (sh < 2147483648) = true := decide_eq_true hcc
      have hs2 := pow_step hb hk.out.1 HSH.out hcc
      have HS2 := Aside0.mk hs2.2
      have hw3 : IntKind.u64.wrap (P + 1) = P + 1 := u64_of (by have := hk.out; omega) (by have := HLT.out; omega)
      clear hs2
      go_wp2
      go_roundg (gk - 1)
      case measure => have := hk.out; have := HLT.out; omega
      case rel => exact ⟨P + 1, rfl, ⟨by have := hk.out; have := HLT.out; omega⟩, HS2, rfl⟩
    · have hcd : decide (sh < 2147483648) = false := decide_eq_false hcc
      have hdA := doubleD [a0, a1] P hk.out.1 HLT.out HA.out (by simp)
      have hdB := doubleD [b0, b1] P hk.out.1 HLT.out HBB.out (by simp)
      have HDA := Aside0.mk hdA
      have HDB := Aside0.mk hdB
      have hla : (dbD (2 ^ P.toNat) [a0, a1] 0 ++ [dbT (2 ^ P.toNat) [a0, a1] 0]).length = 3 := by rw [List.length_append, dbD_length]; rfl
      have hlb : (dbD (2 ^ P.toNat) [b0, b1] 0 ++ [dbT (2 ^ P.toNat) [b0, b1] 0]).length = 3 := by rw [List.length_append, dbD_length]; rfl
      have HLA := Aside0.mk hla
      have HLB := Aside0.mk hlb
      clear hdA hdB hla hlb
      go_wp2
      go_region_held3 (fun w' => True) (exact trivial) (first
        | (go_at_call 49
           refine (doubledN.calls w9 (some ad1) 2 c1 [b0, b1] P _ rfl (Kd.C_below HR1.out HB9.out) hc1 HDB.out).mono ?_
           rintro e w8 ⟨v8, rfl, hR8, hB8⟩
           have HB8 := Aside0.mk hB8
           obtain ⟨g8, k8, cs8, e8, hk8, hgb8, hg8, hcs8⟩ := R_block hR8 HLB.out (by decide)
           subst e8
           have hk8a : (2 : Int) ≤ (k8 : Int) := by omega
           have hk8b : 2 ≤ k8 := by omega
           have HG8 := Aside0.mk hg8
           have HCS8 := Aside0.mk hcs8
           clear hR8 hB8 hg8 hcs8)
        | (go_at_call 49
           refine (doubledN.calls w.drew A0 2 c0 [a0, a1] P _ rfl (Kd.C_drew HR0.out) hc0 HDA.out).mono ?_
           rintro e w9 ⟨v9, rfl, hR9, hB9⟩
           have HB9 := Aside0.mk (show Below w.heap.size w w9 from below_then (below_drew1 (Below.refl _ w)) (Nat.le_refl _) hB9)
           obtain ⟨g9, k9, cs9, e9, hk9, hgb9, hg9, hcs9⟩ := R_block hR9 HLA.out (by omega)
           subst e9
           have HG9 := Aside0.mk hg9
           have HCS9 := Aside0.mk hcs9
           clear hR9 hB9 hg9 hcs9))
      have hBall := below_then HB9.out HB9.out.size HB8.out
      have hg9' := blk_below HG9.out HB8.out
      have hne : g9 ≠ g8 := by have := blk_lt HG9.out; omega
      have hge9 : w.heap.size ≤ g9 := hgb9
      have hge8 : w.heap.size ≤ g8 := Nat.le_trans HB9.out.size hgb8
      have hk9a : (2 : Int) ≤ (k9 : Int) := by omega
      have hk9b : 2 ≤ k9 := by omega
      -- the digits
      obtain ⟨S, hS⟩ : ∃ S : Int, S = 2 ^ P.toNat := ⟨_, rfl⟩
      obtain ⟨u0, hu0⟩ : ∃ u0, u0 = (0 + a0 * S) % 4294967296 := ⟨_, rfl⟩
      obtain ⟨u1, hu1⟩ : ∃ u1, u1 = ((0 + a0 * S) / 4294967296 + a1 * S) % 4294967296 := ⟨_, rfl⟩
      obtain ⟨u2, hu2⟩ : ∃ u2, u2 = ((0 + a0 * S) / 4294967296 + a1 * S) / 4294967296 := ⟨_, rfl⟩
      obtain ⟨v0, hv0⟩ : ∃ v0, v0 = (0 + b0 * S) % 4294967296 := ⟨_, rfl⟩
      obtain ⟨v1, hv1⟩ : ∃ v1, v1 = ((0 + b0 * S) / 4294967296 + b1 * S) % 4294967296 := ⟨_, rfl⟩
      have x0 : w8.cell? ⟨g9, 0, none⟩ = some (.int .u32 u0) := by rw [blk_cell hg9', HCS9.out 0 (by decide), ← hS, hu0]; rfl
      have x1 : w8.cell? ⟨g9, 1, none⟩ = some (.int .u32 u1) := by rw [blk_cell hg9', HCS9.out 1 (by decide), ← hS, hu1]; rfl
      have x2 : w8.cell? ⟨g9, 2, none⟩ = some (.int .u32 u2) := by rw [blk_cell hg9', HCS9.out 2 (by decide), ← hS, hu2]; rfl
      have y0 : w8.cell? ⟨g8, 0, none⟩ = some (.int .u32 v0) := by rw [blk_cell HG8.out, HCS8.out 0 (by decide), ← hS, hv0]; rfl
      have y1 : w8.cell? ⟨g8, 1, none⟩ = some (.int .u32 v1) := by rw [blk_cell HG8.out, HCS8.out 1 (by decide), ← hS, hv1]; rfl
      have fz0 := blk_frozen hg9' 0
      have fz1 := blk_frozen hg9' 1
      have fz2 := blk_frozen hg9' 2
      have hnum := num22 (P := P) hk.out.1 HLT.out hS HI.out.1 HI.out.2.1 HI.out.2.2 hb hb1 hp.out hu0 hu1 hu2 hv0 hv1
      have HNUM := Aside0.mk hnum
      have HX := Aside0.mk (And.intro hS (And.intro hu0 (And.intro hu1 (And.intro hu2 (And.intro hv0 hv1)))))
      have HBX := Aside0.mk hBall
      have HG9X := Aside0.mk hg9'
      have HGN := Aside0.mk (And.intro hge9 hge8)
      have HLT2 := Aside0.mk (And.intro (show g9 < w8.heap.size from blk_lt hg9') (show g8 < w8.heap.size from blk_lt HG8.out))
      clear hBall hg9' hge9 hge8 HG9 HG8 HCS8 HCS9 HB9 HB8 cb HDA HDB HLA HLB hw hw2 hcd hcc HR0 HR1 HBA hgb8 hgb9 hk8 hk9 hS hu0 hu1 hu2 hv0 hv1 HA HBB hnum HSH
      generalize w8 = v at HBX HG9X HLT2 x0 x1 x2 y0 y1 fz0 fz1 fz2 ⊢
      have hmk : ∀ w, (Instr.makeSlice 39 (.int .i64 1) (.int .i64 1)).run Try.prog w = .ok (.slice (some ⟨w.heap.size, 0, none⟩) 1 1) (w.alloc (.cells #[.int .u32 0] 61)) := fun _ => by kernel_rfl
      have uv0 : IntKind.u64.wrap v0 = v0 := u64_of (by have := HNUM.out.v0b; omega) (by have := HNUM.out.v0b; omega)
      have hbO : Below v.heap.size v (v.alloc (.cells #[.int .u32 0] 61 (0, 0))) := below_alloc (Below.refl _ _) _
      have X0 := pw_cell_below hbO x0
      have X1 := pw_cell_below hbO x1
      have X2 := pw_cell_below hbO x2
      have Y0 := pw_cell_below hbO y0
      have Y1 := pw_cell_below hbO y1
      have HGX := blk_below HG9X.out hbO
      have hO := blk_new v (.cells #[.int .u32 0] 61 (0, 0))
      have HBW := Aside0.mk (below_then HBX.out HBX.out.size hbO)
      have HO := Aside0.mk hO
      have HG9 := Aside0.mk HGX
      have N9 := Aside0.mk (show g9 ≠ v.heap.size by have := HLT2.out; omega)
      have N8 := Aside0.mk (show g8 ≠ v.heap.size by have := HLT2.out; omega)
      have HNE := Aside0.mk hne
      have GO := Aside0.mk (show w.heap.size ≤ v.heap.size from HBX.out.size)
      clear hbO x0 x1 x2 y0 y1 fz0 fz1 fz2 HGX hO HBX HG9X HLT2
      go_wp2
      obtain ⟨gO, egO⟩ : ∃ gO, v.heap.size = gO := ⟨_, rfl⟩
      rw [egO] at HO N9 N8 GO
      rw [egO]
      clear egO hmk
      have fz0 := blk_frozen HG9.out 0
      have fz1 := blk_frozen HG9.out 1
      have fz2 := blk_frozen HG9.out 2
      have co : (v.alloc (.cells #[.int .u32 0] 61 (0, 0))).cell? ⟨gO, 0, none⟩ = some (.int .u32 0) := (blk_cell HO.out 0).trans rfl
      have fo := blk_frozen HO.out 0
      generalize v.alloc (.cells #[.int .u32 0] 61) = W at HO HG9 HBW X0 X1 X2 Y0 Y1 fz0 fz1 fz2 co fo ⊢
      have n9 : g9 ≠ gO := N9.out
      have n9' : gO ≠ g9 := fun e => N9.out e.symm
      have n89 : g9 ≠ g8 := HNE.out
      have n89' : g8 ≠ g9 := fun e => HNE.out e.symm
      have n8 : g8 ≠ gO := N8.out
      have n8' : gO ≠ g8 := fun e => N8.out e.symm
      have uu1 : IntKind.u64.wrap u1 = u1 := u64_of (by have := HNUM.out.u1b; omega) (by have := HNUM.out.u1b; omega)
      have uu2 : IntKind.u64.wrap u2 = u2 := u64_of (by have := HNUM.out.u2b; omega) (by have := HNUM.out.u2b; have := HNUM.out.v1b; omega)
      have uu0 : IntKind.u64.wrap u0 = u0 := u64_of (by have := HNUM.out.u0b; omega) (by have := HNUM.out.u0b; omega)
      have uv1 : IntKind.u64.wrap v1 = v1 := u64_of (by have := HNUM.out.v1b; omega) (by have := HNUM.out.v1b; omega)
      have uuB : IntKind.u64.wrap (u2 * 4294967296) = u2 * 4294967296 := u64_of (by have := HNUM.out.u2b; omega) (by have := HNUM.out.u2b; have := HNUM.out.v1b; omega)
      obtain ⟨T, hT⟩ : ∃ T, T = u2 * 4294967296 + u1 := ⟨_, rfl⟩
      have oT : bits .or .u64 (u2 * 4294967296) u1 = T := by
        rw [hT]
        exact (or_add 32 (Nat.le_refl _) HNUM.out.u1b.1 (by simpa using HNUM.out.u1b.2) (by have := HNUM.out.u2b; omega) (by have := HNUM.out.u2b; have := HNUM.out.v1b; omega) (by simp)).2
      obtain ⟨q0, hq0⟩ : ∃ q0, q0 = T / v1 := ⟨_, rfl⟩
      obtain ⟨s0, hs0⟩ : ∃ s0, s0 = T % v1 := ⟨_, rfl⟩
      have hT0 : 0 ≤ T := by have := HNUM.out.u2b; have := HNUM.out.u1b; omega
      have hF0 := first22 HNUM.out.u0b HNUM.out.u1b HNUM.out.u2b HNUM.out.v0b HNUM.out.v1b q0 s0 (by rw [hq0, hT]) (by rw [hs0, hT])
      have tq : T.tdiv v1 = q0 := by rw [hq0]; exact Int.tdiv_eq_ediv_of_nonneg hT0
      have tr : T.tmod v1 = s0 := by rw [hs0]; exact Int.tmod_eq_emod_of_nonneg hT0
      have uq0 : IntKind.u64.wrap q0 = q0 := u64_of hF0.qb.1 (by have := hF0.qb; omega)
      have hV0 : (v1 == 0) = false := by have := HNUM.out.v1b; rw [beq_eq_false_iff_ne]; omega
      have hV1 : ¬ v1 = 0 := by have := HNUM.out.v1b; omega
      have HF0 := Aside0.mk hF0
      clear hT hq0 hs0 hT0 hF0
      refine wp_loop_rounds 2 ?_
      rw [rounds_succ]
      go_wp2
      go_quiet (fail)
      go_wp2
      go_quiet (fail)
      go_wp2
      go_loopg [14, 15] q0.toNat (fun kq v14 v15 w' => ∃ (q rest : Int) (n : Nat), v14 = .int .u64 q ∧ v15 = .int .u64 rest ∧ Aside0 (q ≤ kq) ∧ Aside0 (Fin22 u0 u1 u2 v0 v1 q rest (q * v0) (q * v1)) ∧ w' = W.drewN n)
      case atStart => exact ⟨q0, s0, _, rfl, rfl, ⟨by have := HF0.out.qb; omega⟩, HF0, rfl⟩
      case round =>
        clear tq tr uq0 oT
        obtain ⟨q, rest, n, rfl, rfl, HQ, HF, rfl⟩ := hrel
        obtain ⟨a, hea⟩ : ∃ a, a = q * v0 := ⟨_, rfl⟩
        obtain ⟨b, heb⟩ : ∃ b, b = q * v1 := ⟨_, rfl⟩
        have hF := HF.out
        rw [← hea, ← heb] at hF
        have HFF := Aside0.mk hF
        clear HF hF
        have ea : q * v0 = a := hea.symm
        have eb : q * v1 = b := heb.symm
        have ua : IntKind.u64.wrap a = a := u64_of HFF.out.ab.1 (by have := HFF.out.ab; omega)
        have uq : IntKind.u64.wrap q = q := u64_of HFF.out.qb.1 (by have := HFF.out.qb; omega)
        have d2 : decide (4294967296 ≤ q) = false := decide_eq_false (by have := HFF.out.qb; omega)
        have d2' : decide (q ≥ 4294967296) = false := d2
        clear hea heb
        by_cases hr : rest < 4294967296
        · have d1 : decide (rest < 4294967296) = true := decide_eq_true hr
          have urB : IntKind.u64.wrap (rest * 4294967296) = rest * 4294967296 := u64_of (by have := HFF.out.rb; omega) (by have := HFF.out.rb; omega)
          obtain ⟨Y, hY⟩ : ∃ Y, Y = rest * 4294967296 + u0 := ⟨_, rfl⟩
          have oY : bits .or .u64 (rest * 4294967296) u0 = Y := by
            rw [hY]
            exact (or_add 32 (Nat.le_refl _) HFF.out.u0b.1 (by simpa using HFF.out.u0b.2) (by have := HFF.out.rb; omega) (by have := HFF.out.rb; omega) (by simp)).2
          by_cases hc : Y < a
          · have d3 : decide (Y < a) = true := decide_eq_true hc
            have d3' : decide (a > Y) = true := d3
            have hn := next22 HFF.out (by rw [← hY]; exact hc)
            have uq1 : IntKind.u64.wrap (q - 1) = q - 1 := u64_of (by have := hn.1; omega) (by have := HFF.out.qb; omega)
            have ur1 : IntKind.u64.wrap (rest + v1) = rest + v1 := u64_of (by have := HFF.out.rb; have := HFF.out.v1b; omega) (by have := HFF.out.v1b; omega)
            have HN := Aside0.mk hn
            clear hn hY
            go_wp2
            go_quiet (fail)
            go_wp2
            go_roundg (q - 1).toNat
            case measure => have := HQ.out; have := HN.out.1; omega
            case rel => exact ⟨q - 1, rest + v1, _, rfl, rfl, ⟨by have := HN.out.1; omega⟩, ⟨HN.out.2⟩, World.drewN_drewN _ _ _⟩
          · have d3 : decide (Y < a) = false := decide_eq_false hc
            have d3' : decide (a > Y) = false := d3
            have HC := Aside0.mk (show a ≤ rest * 4294967296 + u0 by rw [← hY]; omega)
            clear hY
            have HBD := Aside0.mk (pw_below_drewN HBW.out n)
            have HGD := Aside0.mk (show (W.drewN n).heap[g9]? = _ from HG9.out)
            have HOD := Aside0.mk (show (W.drewN n).heap[gO]? = _ from HO.out)
            replace X0 : (W.drewN n).cell? ⟨g9, 0, none⟩ = _ := X0
            replace X1 : (W.drewN n).cell? ⟨g9, 1, none⟩ = _ := X1
            replace X2 : (W.drewN n).cell? ⟨g9, 2, none⟩ = _ := X2
            replace Y0 : (W.drewN n).cell? ⟨g8, 0, none⟩ = _ := Y0
            replace Y1 : (W.drewN n).cell? ⟨g8, 1, none⟩ = _ := Y1
            replace fz0 : (W.drewN n).frozen? ⟨g9, 0, none⟩ = _ := fz0
            replace fz1 : (W.drewN n).frozen? ⟨g9, 1, none⟩ = _ := fz1
            replace fz2 : (W.drewN n).frozen? ⟨g9, 2, none⟩ = _ := fz2
            replace co : (W.drewN n).cell? ⟨gO, 0, none⟩ = _ := co
            replace fo : (W.drewN n).frozen? ⟨gO, 0, none⟩ = _ := fo
            clear HBW HG9 HO HF0
            generalize W.drewN n = D at HBD HGD HOD X0 X1 X2 Y0 Y1 fz0 fz1 fz2 co fo ⊢
            obtain ⟨k1, hk1⟩ : ∃ k1, k1 = a / 4294967296 + (if u0 < a % 4294967296 then 1 else 0) := ⟨_, rfl⟩
            obtain ⟨r0, hr0⟩ : ∃ r0, r0 = (u0 - a % 4294967296) % 4294967296 := ⟨_, rfl⟩
            obtain ⟨k2, hk2⟩ : ∃ k2, k2 = (k1 + b) / 4294967296 + (if u1 < (k1 + b) % 4294967296 then 1 else 0) := ⟨_, rfl⟩
            obtain ⟨r1, hr1⟩ : ∃ r1, r1 = (u1 - (k1 + b) % 4294967296) % 4294967296 := ⟨_, rfl⟩
            obtain ⟨hL, hE, hR0, hR1, hK0, hK1, hG⟩ := last22 HFF.out HC.out k1 k2 r0 r1 hk1 hr0 hk2 hr1
            obtain ⟨La, eLa'⟩ : ∃ La, La = a % 4294967296 := ⟨_, rfl⟩
            obtain ⟨Ha, eHa'⟩ : ∃ Ha, Ha = a / 4294967296 := ⟨_, rfl⟩
            obtain ⟨G1, eG1⟩ : ∃ G1, G1 = k1 + b := ⟨_, rfl⟩
            obtain ⟨L1, eL1'⟩ : ∃ L1, L1 = G1 % 4294967296 := ⟨_, rfl⟩
            obtain ⟨H1, eH1'⟩ : ∃ H1, H1 = G1 / 4294967296 := ⟨_, rfl⟩
            have eLa : bits .and .u64 a 4294967295 = La := by rw [eLa']; exact and_mask HFF.out.ab.1 (by have := HFF.out.ab; omega)
            have eHa : a / 4294967296 = Ha := eHa'.symm
            have ub : IntKind.u64.wrap b = b := u64_of HFF.out.bb (by omega)
            have uG1 : IntKind.u64.wrap (k1 + b) = G1 := by rw [u64_of (by have := HFF.out.bb; omega) hG, eG1]
            have eL1 : bits .and .u64 G1 4294967295 = L1 := by rw [eL1']; exact and_mask (by have := HFF.out.bb; omega) (by omega)
            have eH1 : G1 / 4294967296 = H1 := eH1'.symm
            have xr0 : IntKind.u64.wrap (u0 - La) % 4294967296 = r0 := by rw [IntKind.wrap_u64, hr0, eLa']; omega
            have xr1 : IntKind.u64.wrap (u1 - L1) % 4294967296 = r1 := by rw [IntKind.wrap_u64, hr1, eL1', eG1]; omega
            have hk1' : k1 = Ha + (if u0 < La then 1 else 0) := by rw [eHa', eLa']; exact hk1
            have hk2' : u2 = H1 + (if u1 < L1 then 1 else 0) := by rw [← hL, eH1', eL1', eG1]; exact hk2
            have mu2 : u2 % 4294967296 = u2 := by have := HFF.out.u2b; have := HFF.out.v1b; omega
            have mq : q % 4294967296 = q := by have := HFF.out.qb; omega
            have u32z : IntKind.u32.wrap 0 = 0 := u32_of (by decide) (by decide)
            have wz : IntKind.i64.wrap 0 = 0 := by rw [i64_w, w64_of (by decide) (by decide)]
            have wm : IntKind.i64.wrap (-1) = -1 := by rw [i64_w, w64_of (by decide) (by decide)]
            have hr0b : 0 ≤ r0 ∧ r0 < 4294967296 := by omega
            have hr1b : 0 ≤ r1 ∧ r1 < 4294967296 := by omega
            have ur0 : IntKind.u64.wrap r0 = r0 := u64_of hr0b.1 (by omega)
            have ur1 : IntKind.u64.wrap r1 = r1 := u64_of hr1b.1 (by omega)
            have ur1B : IntKind.u64.wrap (r1 * 4294967296) = r1 * 4294967296 := u64_of (by omega) (by omega)
            obtain ⟨Z, hZ⟩ : ∃ Z, Z = r1 * 4294967296 + r0 := ⟨_, rfl⟩
            have oZ : bits .or .u64 (r1 * 4294967296) r0 = Z := by
              rw [hZ]
              exact (or_add 32 (Nat.le_refl _) hr0b.1 (by simpa using hr0b.2) (by omega) (by omega) (by simp)).2
            have o1 : bits .or .u64 0 r1 = r1 := by
              have h := (or_add (c := 0) (y := r1) 0 (by decide) (by decide) (by decide) hr1b.1 (by omega) (by simp [Int.emod_one])).1
              rwa [Int.zero_add] at h
            have uz : IntKind.u64.wrap 0 = 0 := u64_0
            have hds := div_scaled (vl [a0, a1]) (vl [b0, b1]) S HNUM.out.sp (by have := HI.out; simp only [vl]; omega) q Z (by
              have e1 := HNUM.out.eu
              have e2 := HNUM.out.ev
              have e3 : vl [a0, a1] = a0 + 4294967296 * a1 := by simp [vl]
              have e4 : vl [b0, b1] = b0 + 4294967296 * b1 := by simp [vl]
              rw [e3, e4, ← e1, ← e2, hE, hZ]) (by rw [hZ]; exact hR0) (by
              have e2 := HNUM.out.ev
              have e4 : vl [b0, b1] = b0 + 4294967296 * b1 := by simp [vl]
              rw [e4, ← e2, hZ]; exact hR1)
            obtain ⟨F, hF⟩ : ∃ F, F = vl [a0, a1] % vl [b0, b1] := ⟨_, rfl⟩
            rw [← hF] at hds
            have hF0 : 0 ≤ F := by rw [hF]; exact Int.emod_nonneg _ (by have := HI.out; simp only [vl]; omega)
            have hS1 := HX.out.1
            have sZ : Z / 2 ^ P.toNat = F := by rw [← hS1, hds.2, Int.mul_ediv_cancel_left _ (by have := HNUM.out.sp; omega)]
            have sZ2 : Z / 2 ^ min P.toNat 64 = F := by rw [show min P.toNat 64 = P.toNat by have := HLT.out; omega]; exact sZ
            obtain ⟨f0, hf0⟩ : ∃ f0, F % 4294967296 = f0 := ⟨_, rfl⟩
            obtain ⟨f1, hf1⟩ : ∃ f1, f1 = F / 4294967296 := ⟨_, rfl⟩
            have sr1 : r1 / 2 ^ P.toNat = f1 := by
              rw [hf1, ← sZ, Int.ediv_ediv_of_nonneg (Int.pow_nonneg (by decide)), Int.mul_comm, ← Int.ediv_ediv_of_nonneg (by decide), show Z / 4294967296 = r1 by omega]
            have sr12 : r1 / 2 ^ min P.toNat 64 = f1 := by rw [show min P.toNat 64 = P.toNat by have := HLT.out; omega]; exact sr1
            have hFZ : F ≤ Z := by rw [← sZ]; exact Int.ediv_le_self _ (by omega)
            have mf1 : f1 % 4294967296 = f1 := by omega
            have HDS := Aside0.mk hds
            have HFE := Aside0.mk hF
            have HFB := Aside0.mk (And.intro hF0 (And.intro hf0 (And.intro hf1 hFZ)))
            have HZB := Aside0.mk (And.intro hZ (And.intro hr0b hr1b))
            clear hk1 hr0 hk2 hr1 hL hE hR0 hR1 hK0 hK1 hG eLa' eHa' eG1 eL1' eH1' hr0b hr1b hZ hds hF hF0 hS1 hFZ hf1
            by_cases hx0 : u0 < La
            · have dx0 : decide (u0 < La) = true := decide_eq_true hx0
              rw [if_pos hx0] at hk1'
              have uk1 : IntKind.u64.wrap (Ha + 1) = k1 := by rw [hk1']; exact u64_of (by have := HFF.out.ab; omega) (by have := HFF.out.ab; omega)
              clear hk1'
              by_cases hx1 : u1 < L1
              · have dx1 : decide (u1 < L1) = true := decide_eq_true hx1
                rw [if_pos hx1] at hk2'
                have uk2 : IntKind.u64.wrap (H1 + 1) = u2 := by rw [← hk2']; exact uu2
                clear hk2'
                go_wp2
                refine wp_loop_rounds 3 ?_
                rw [rounds_succ]
                go_wp2
                rw [rounds_succ]
                go_wp2
                rw [rounds_succ]
                go_wp2
                rw [rounds_succ]
                go_wp2
                refine wp_loop_rounds 3 ?_
                rw [rounds_succ]
                go_wp2
                rw [rounds_succ]
                go_wp2
                rw [rounds_succ]
                go_wp2
                go_ret2
                exact ⟨.slice (some ⟨gO, 0, none⟩) 1 1, .slice (some ⟨g9, 0, none⟩) 2 k9, [q], [f0, f1], rfl, end22 n9 HBD.out HGD.out HOD.out X2 hk9b HGN.out.1 GO.out HDS.out.1 HFF.out.qb HFE.out HFB.out.1 HFB.out.2.1 HFB.out.2.2.1 mf1⟩
              · have dx1 : decide (u1 < L1) = false := decide_eq_false hx1
                rw [if_neg hx1, Int.add_zero] at hk2'
                rw [← hk2'] at eH1
                clear hk2'
                go_wp2
                refine wp_loop_rounds 3 ?_
                rw [rounds_succ]
                go_wp2
                rw [rounds_succ]
                go_wp2
                rw [rounds_succ]
                go_wp2
                rw [rounds_succ]
                go_wp2
                refine wp_loop_rounds 3 ?_
                rw [rounds_succ]
                go_wp2
                rw [rounds_succ]
                go_wp2
                rw [rounds_succ]
                go_wp2
                go_ret2
                exact ⟨.slice (some ⟨gO, 0, none⟩) 1 1, .slice (some ⟨g9, 0, none⟩) 2 k9, [q], [f0, f1], rfl, end22 n9 HBD.out HGD.out HOD.out X2 hk9b HGN.out.1 GO.out HDS.out.1 HFF.out.qb HFE.out HFB.out.1 HFB.out.2.1 HFB.out.2.2.1 mf1⟩
            · have dx0 : decide (u0 < La) = false := decide_eq_false hx0
              rw [if_neg hx0, Int.add_zero] at hk1'
              rw [← hk1'] at eHa
              clear hk1'
              by_cases hx1 : u1 < L1
              · have dx1 : decide (u1 < L1) = true := decide_eq_true hx1
                rw [if_pos hx1] at hk2'
                have uk2 : IntKind.u64.wrap (H1 + 1) = u2 := by rw [← hk2']; exact uu2
                clear hk2'
                go_wp2
                refine wp_loop_rounds 3 ?_
                rw [rounds_succ]
                go_wp2
                rw [rounds_succ]
                go_wp2
                rw [rounds_succ]
                go_wp2
                rw [rounds_succ]
                go_wp2
                refine wp_loop_rounds 3 ?_
                rw [rounds_succ]
                go_wp2
                rw [rounds_succ]
                go_wp2
                rw [rounds_succ]
                go_wp2
                go_ret2
                exact ⟨.slice (some ⟨gO, 0, none⟩) 1 1, .slice (some ⟨g9, 0, none⟩) 2 k9, [q], [f0, f1], rfl, end22 n9 HBD.out HGD.out HOD.out X2 hk9b HGN.out.1 GO.out HDS.out.1 HFF.out.qb HFE.out HFB.out.1 HFB.out.2.1 HFB.out.2.2.1 mf1⟩
              · have dx1 : decide (u1 < L1) = false := decide_eq_false hx1
                rw [if_neg hx1, Int.add_zero] at hk2'
                rw [← hk2'] at eH1
                clear hk2'
                go_wp2
                refine wp_loop_rounds 3 ?_
                rw [rounds_succ]
                go_wp2
                rw [rounds_succ]
                go_wp2
                rw [rounds_succ]
                go_wp2
                rw [rounds_succ]
                go_wp2
                refine wp_loop_rounds 3 ?_
                rw [rounds_succ]
                go_wp2
                rw [rounds_succ]
                go_wp2
                rw [rounds_succ]
                go_wp2
                go_ret2
                exact ⟨.slice (some ⟨gO, 0, none⟩) 1 1, .slice (some ⟨g9, 0, none⟩) 2 k9, [q], [f0, f1], rfl, end22 n9 HBD.out HGD.out HOD.out X2 hk9b HGN.out.1 GO.out HDS.out.1 HFF.out.qb HFE.out HFB.out.1 HFB.out.2.1 HFB.out.2.2.1 mf1⟩
        · have d1 : decide (rest < 4294967296) = false := decide_eq_false hr
          have HC := Aside0.mk (show a ≤ rest * 4294967296 + u0 by have := HFF.out.ab; have := HFF.out.u0b; omega)
          have HBD := Aside0.mk (pw_below_drewN HBW.out n)
          have HGD := Aside0.mk (show (W.drewN n).heap[g9]? = _ from HG9.out)
          have HOD := Aside0.mk (show (W.drewN n).heap[gO]? = _ from HO.out)
          replace X0 : (W.drewN n).cell? ⟨g9, 0, none⟩ = _ := X0
          replace X1 : (W.drewN n).cell? ⟨g9, 1, none⟩ = _ := X1
          replace X2 : (W.drewN n).cell? ⟨g9, 2, none⟩ = _ := X2
          replace Y0 : (W.drewN n).cell? ⟨g8, 0, none⟩ = _ := Y0
          replace Y1 : (W.drewN n).cell? ⟨g8, 1, none⟩ = _ := Y1
          replace fz0 : (W.drewN n).frozen? ⟨g9, 0, none⟩ = _ := fz0
          replace fz1 : (W.drewN n).frozen? ⟨g9, 1, none⟩ = _ := fz1
          replace fz2 : (W.drewN n).frozen? ⟨g9, 2, none⟩ = _ := fz2
          replace co : (W.drewN n).cell? ⟨gO, 0, none⟩ = _ := co
          replace fo : (W.drewN n).frozen? ⟨gO, 0, none⟩ = _ := fo
          clear HBW HG9 HO HF0
          generalize W.drewN n = D at HBD HGD HOD X0 X1 X2 Y0 Y1 fz0 fz1 fz2 co fo ⊢
          obtain ⟨k1, hk1⟩ : ∃ k1, k1 = a / 4294967296 + (if u0 < a % 4294967296 then 1 else 0) := ⟨_, rfl⟩
          obtain ⟨r0, hr0⟩ : ∃ r0, r0 = (u0 - a % 4294967296) % 4294967296 := ⟨_, rfl⟩
          obtain ⟨k2, hk2⟩ : ∃ k2, k2 = (k1 + b) / 4294967296 + (if u1 < (k1 + b) % 4294967296 then 1 else 0) := ⟨_, rfl⟩
          obtain ⟨r1, hr1⟩ : ∃ r1, r1 = (u1 - (k1 + b) % 4294967296) % 4294967296 := ⟨_, rfl⟩
          obtain ⟨hL, hE, hR0, hR1, hK0, hK1, hG⟩ := last22 HFF.out HC.out k1 k2 r0 r1 hk1 hr0 hk2 hr1
          obtain ⟨La, eLa'⟩ : ∃ La, La = a % 4294967296 := ⟨_, rfl⟩
          obtain ⟨Ha, eHa'⟩ : ∃ Ha, Ha = a / 4294967296 := ⟨_, rfl⟩
          obtain ⟨G1, eG1⟩ : ∃ G1, G1 = k1 + b := ⟨_, rfl⟩
          obtain ⟨L1, eL1'⟩ : ∃ L1, L1 = G1 % 4294967296 := ⟨_, rfl⟩
          obtain ⟨H1, eH1'⟩ : ∃ H1, H1 = G1 / 4294967296 := ⟨_, rfl⟩
          have eLa : bits .and .u64 a 4294967295 = La := by rw [eLa']; exact and_mask HFF.out.ab.1 (by have := HFF.out.ab; omega)
          have eHa : a / 4294967296 = Ha := eHa'.symm
          have ub : IntKind.u64.wrap b = b := u64_of HFF.out.bb (by omega)
          have uG1 : IntKind.u64.wrap (k1 + b) = G1 := by rw [u64_of (by have := HFF.out.bb; omega) hG, eG1]
          have eL1 : bits .and .u64 G1 4294967295 = L1 := by rw [eL1']; exact and_mask (by have := HFF.out.bb; omega) (by omega)
          have eH1 : G1 / 4294967296 = H1 := eH1'.symm
          have xr0 : IntKind.u64.wrap (u0 - La) % 4294967296 = r0 := by rw [IntKind.wrap_u64, hr0, eLa']; omega
          have xr1 : IntKind.u64.wrap (u1 - L1) % 4294967296 = r1 := by rw [IntKind.wrap_u64, hr1, eL1', eG1]; omega
          have hk1' : k1 = Ha + (if u0 < La then 1 else 0) := by rw [eHa', eLa']; exact hk1
          have hk2' : u2 = H1 + (if u1 < L1 then 1 else 0) := by rw [← hL, eH1', eL1', eG1]; exact hk2
          have mu2 : u2 % 4294967296 = u2 := by have := HFF.out.u2b; have := HFF.out.v1b; omega
          have mq : q % 4294967296 = q := by have := HFF.out.qb; omega
          have u32z : IntKind.u32.wrap 0 = 0 := u32_of (by decide) (by decide)
          have wz : IntKind.i64.wrap 0 = 0 := by rw [i64_w, w64_of (by decide) (by decide)]
          have wm : IntKind.i64.wrap (-1) = -1 := by rw [i64_w, w64_of (by decide) (by decide)]
          have hr0b : 0 ≤ r0 ∧ r0 < 4294967296 := by omega
          have hr1b : 0 ≤ r1 ∧ r1 < 4294967296 := by omega
          have ur0 : IntKind.u64.wrap r0 = r0 := u64_of hr0b.1 (by omega)
          have ur1 : IntKind.u64.wrap r1 = r1 := u64_of hr1b.1 (by omega)
          have ur1B : IntKind.u64.wrap (r1 * 4294967296) = r1 * 4294967296 := u64_of (by omega) (by omega)
          obtain ⟨Z, hZ⟩ : ∃ Z, Z = r1 * 4294967296 + r0 := ⟨_, rfl⟩
          have oZ : bits .or .u64 (r1 * 4294967296) r0 = Z := by
            rw [hZ]
            exact (or_add 32 (Nat.le_refl _) hr0b.1 (by simpa using hr0b.2) (by omega) (by omega) (by simp)).2
          have o1 : bits .or .u64 0 r1 = r1 := by
            have h := (or_add (c := 0) (y := r1) 0 (by decide) (by decide) (by decide) hr1b.1 (by omega) (by simp [Int.emod_one])).1
            rwa [Int.zero_add] at h
          have uz : IntKind.u64.wrap 0 = 0 := u64_0
          have hds := div_scaled (vl [a0, a1]) (vl [b0, b1]) S HNUM.out.sp (by have := HI.out; simp only [vl]; omega) q Z (by
            have e1 := HNUM.out.eu
            have e2 := HNUM.out.ev
            have e3 : vl [a0, a1] = a0 + 4294967296 * a1 := by simp [vl]
            have e4 : vl [b0, b1] = b0 + 4294967296 * b1 := by simp [vl]
            rw [e3, e4, ← e1, ← e2, hE, hZ]) (by rw [hZ]; exact hR0) (by
            have e2 := HNUM.out.ev
            have e4 : vl [b0, b1] = b0 + 4294967296 * b1 := by simp [vl]
            rw [e4, ← e2, hZ]; exact hR1)
          obtain ⟨F, hF⟩ : ∃ F, F = vl [a0, a1] % vl [b0, b1] := ⟨_, rfl⟩
          rw [← hF] at hds
          have hF0 : 0 ≤ F := by rw [hF]; exact Int.emod_nonneg _ (by have := HI.out; simp only [vl]; omega)
          have hS1 := HX.out.1
          have sZ : Z / 2 ^ P.toNat = F := by rw [← hS1, hds.2, Int.mul_ediv_cancel_left _ (by have := HNUM.out.sp; omega)]
          have sZ2 : Z / 2 ^ min P.toNat 64 = F := by rw [show min P.toNat 64 = P.toNat by have := HLT.out; omega]; exact sZ
          obtain ⟨f0, hf0⟩ : ∃ f0, F % 4294967296 = f0 := ⟨_, rfl⟩
          obtain ⟨f1, hf1⟩ : ∃ f1, f1 = F / 4294967296 := ⟨_, rfl⟩
          have sr1 : r1 / 2 ^ P.toNat = f1 := by
            rw [hf1, ← sZ, Int.ediv_ediv_of_nonneg (Int.pow_nonneg (by decide)), Int.mul_comm, ← Int.ediv_ediv_of_nonneg (by decide), show Z / 4294967296 = r1 by omega]
          have sr12 : r1 / 2 ^ min P.toNat 64 = f1 := by rw [show min P.toNat 64 = P.toNat by have := HLT.out; omega]; exact sr1
          have hFZ : F ≤ Z := by rw [← sZ]; exact Int.ediv_le_self _ (by omega)
          have mf1 : f1 % 4294967296 = f1 := by omega
          have HDS := Aside0.mk hds
          have HFE := Aside0.mk hF
          have HFB := Aside0.mk (And.intro hF0 (And.intro hf0 (And.intro hf1 hFZ)))
          have HZB := Aside0.mk (And.intro hZ (And.intro hr0b hr1b))
          clear hk1 hr0 hk2 hr1 hL hE hR0 hR1 hK0 hK1 hG eLa' eHa' eG1 eL1' eH1' hr0b hr1b hZ hds hF hF0 hS1 hFZ hf1
          by_cases hx0 : u0 < La
          · have dx0 : decide (u0 < La) = true := decide_eq_true hx0
            rw [if_pos hx0] at hk1'
            have uk1 : IntKind.u64.wrap (Ha + 1) = k1 := by rw [hk1']; exact u64_of (by have := HFF.out.ab; omega) (by have := HFF.out.ab; omega)
            clear hk1'
            by_cases hx1 : u1 < L1
            · have dx1 : decide (u1 < L1) = true := decide_eq_true hx1
              rw [if_pos hx1] at hk2'
              have uk2 : IntKind.u64.wrap (H1 + 1) = u2 := by rw [← hk2']; exact uu2
              clear hk2'
              go_wp2
              refine wp_loop_rounds 3 ?_
              rw [rounds_succ]
              go_wp2
              rw [rounds_succ]
              go_wp2
              rw [rounds_succ]
              go_wp2
              rw [rounds_succ]
              go_wp2
              refine wp_loop_rounds 3 ?_
              rw [rounds_succ]
              go_wp2
              rw [rounds_succ]
              go_wp2
              rw [rounds_succ]
              go_wp2
              go_ret2
              exact ⟨.slice (some ⟨gO, 0, none⟩) 1 1, .slice (some ⟨g9, 0, none⟩) 2 k9, [q], [f0, f1], rfl, end22 n9 HBD.out HGD.out HOD.out X2 hk9b HGN.out.1 GO.out HDS.out.1 HFF.out.qb HFE.out HFB.out.1 HFB.out.2.1 HFB.out.2.2.1 mf1⟩
            · have dx1 : decide (u1 < L1) = false := decide_eq_false hx1
              rw [if_neg hx1, Int.add_zero] at hk2'
              rw [← hk2'] at eH1
              clear hk2'
              go_wp2
              refine wp_loop_rounds 3 ?_
              rw [rounds_succ]
              go_wp2
              rw [rounds_succ]
              go_wp2
              rw [rounds_succ]
              go_wp2
              rw [rounds_succ]
              go_wp2
              refine wp_loop_rounds 3 ?_
              rw [rounds_succ]
              go_wp2
              rw [rounds_succ]
              go_wp2
              rw [rounds_succ]
              go_wp2
              go_ret2
              exact ⟨.slice (some ⟨gO, 0, none⟩) 1 1, .slice (some ⟨g9, 0, none⟩) 2 k9, [q], [f0, f1], rfl, end22 n9 HBD.out HGD.out HOD.out X2 hk9b HGN.out.1 GO.out HDS.out.1 HFF.out.qb HFE.out HFB.out.1 HFB.out.2.1 HFB.out.2.2.1 mf1⟩
          · have dx0 : decide (u0 < La) = false := decide_eq_false hx0
            rw [if_neg hx0, Int.add_zero] at hk1'
            rw [← hk1'] at eHa
            clear hk1'
            by_cases hx1 : u1 < L1
            · have dx1 : decide (u1 < L1) = true := decide_eq_true hx1
              rw [if_pos hx1] at hk2'
              have uk2 : IntKind.u64.wrap (H1 + 1) = u2 := by rw [← hk2']; exact uu2
              clear hk2'
              go_wp2
              refine wp_loop_rounds 3 ?_
              rw [rounds_succ]
              go_wp2
              rw [rounds_succ]
              go_wp2
              rw [rounds_succ]
              go_wp2
              rw [rounds_succ]
              go_wp2
              refine wp_loop_rounds 3 ?_
              rw [rounds_succ]
              go_wp2
              rw [rounds_succ]
              go_wp2
              rw [rounds_succ]
              go_wp2
              go_ret2
              exact ⟨.slice (some ⟨gO, 0, none⟩) 1 1, .slice (some ⟨g9, 0, none⟩) 2 k9, [q], [f0, f1], rfl, end22 n9 HBD.out HGD.out HOD.out X2 hk9b HGN.out.1 GO.out HDS.out.1 HFF.out.qb HFE.out HFB.out.1 HFB.out.2.1 HFB.out.2.2.1 mf1⟩
            · have dx1 : decide (u1 < L1) = false := decide_eq_false hx1
              rw [if_neg hx1, Int.add_zero] at hk2'
              rw [← hk2'] at eH1
              clear hk2'
              go_wp2
              refine wp_loop_rounds 3 ?_
              rw [rounds_succ]
              go_wp2
              rw [rounds_succ]
              go_wp2
              rw [rounds_succ]
              go_wp2
              rw [rounds_succ]
              go_wp2
              refine wp_loop_rounds 3 ?_
              rw [rounds_succ]
              go_wp2
              rw [rounds_succ]
              go_wp2
              rw [rounds_succ]
              go_wp2
              go_ret2
              exact ⟨.slice (some ⟨gO, 0, none⟩) 1 1, .slice (some ⟨g9, 0, none⟩) 2 k9, [q], [f0, f1], rfl, end22 n9 HBD.out HGD.out HOD.out X2 hk9b HGN.out.1 GO.out HDS.out.1 HFF.out.qb HFE.out HFB.out.1 HFB.out.2.1 HFB.out.2.2.1 mf1⟩
end Go.Proofs.Ytmkjkcfmjfeheaa.QFnExactMeanDeuce
