/- laws.FnRacesWon, walked along the answers that are known: it returns true. Conditions: what each function answers, named. -/
import Derived.Test.YtiknaldhjbdnbaaGreatDoorcQFnRacesWonx
import Derived.Test.YtiknaldhjbdnbaaGreatDoorcGTP
import Derived.Test.YtiknaldhjbdnbaaGreatDoorcGServe
import Derived.Test.YtiknaldhjbdnbaaGreatDoorcGFirst
import Derived.Deep.CutRange
import Derived.Test.YtiknaldhjbdnbaaGreatDoorcGR14
import Derived.Test.YtiknaldhjbdnbaaGreatDoorcGB255
import Derived.Test.YtiknaldhjbdnbaaGreatDoorcGP2
namespace Go.Proofs.YtiknaldhjbdnbaaGreatDoor.QFnRacesWon
open Go.RowKit Go.Proofs.YtiknaldhjbdnbaaGreatDoorW.PrintWords Go.Proofs.YtiknaldhjbdnbaaGreatDoorW.PrintLast Go.Proofs.YtiknaldhjbdnbaaGreatDoorW.PrintMore Go.Proofs.YtiknaldhjbdnbaaGreatDoor.Env
set_option linter.unusedVariables false
set_option linter.unusedSimpArgs false
structure A1 (l0 : List Int) (To Lead : Int) (s W nx : ByteArray) (ok is seven five g : Bool) (a b bk : Int) : Prop where
  draw : ∃ k, spec_DrawWinnerOf.f k l0 = some (To, Lead, s)
  win : impl_WinnerOf.f To Lead s = some (W, ok)
  win' : ∃ k, spec_WinnerOf.f k To Lead s = some (W, ok)
  pts : impl_PointsIn.f To Lead s = some (a, b, ok)
  pts' : ∃ k, spec_PointsIn.f k To Lead s = some (a, b, ok)
  nxt : ∃ k, impl_NextWinners.f k To Lead s = some (nx, ok)
  nxt' : ∃ k, spec_NextWinners.f k To Lead s = some (nx, ok)
  back : ∃ k, impl_GreatestComeback.f k To Lead s = some (bk, five)
  back' : ∃ k, spec_GreatestComeback.f k To Lead s = some (bk, five)
  pl : impl_IsPlay.f To Lead s = some (is, seven)
  pl' : ∃ k, spec_IsPlay.f k To Lead s = some (is, seven)
  race : impl_IsRace.f To Lead = some g
  race' : spec_IsRace.f To Lead = some g
  bf : ok = true → BF To Lead s W nx five a b bk
  rel : (ok = true ∧ seven = true ∧ is = true ∧ g = true) ∨ (ok = false ∧ five = false ∧ is = false ∧ (seven = true → g = true))
theorem norm_fr {K : Act → World → Prop} {t t' : Array Value} {w : World} (h : t = t') (hk : K ⟨t', []⟩ w) : K ⟨t, []⟩ w := by
  subst h
  exact hk
set_option maxHeartbeats 16000000 in
set_option maxRecDepth 1000000 in
theorem law.calls (A0 : Option Addr) (c0 : Nat) (l0 : List Int) (A1_ : Option Addr) (c1 : Nat) (l1 : List Int) (w : World) (hr0 : Kd.C (Kd.int .u8) w A0 l0.length l0) (hc0 : l0.length ≤ c0) (hr1 : Kd.C (Kd.int .u8) w A1_ l1.length l1) (hc1 : l1.length ≤ c1)
    (hbig : laws_big.f l0 l1 = some false)
    (To Lead : Int) (s W nx : ByteArray) (ok is seven five g : Bool) (a b bk : Int) (f1 : A1 l0 To Lead s W nx ok is seven five g a b bk)
    (To2 Lead2 : Int) (pt sd : ByteArray) (few : Nat) (nine : Bool) (run who : ByteArray) (long : Int) (eleven : Bool) (sp : ByteArray) (t : Int) (sv : ByteArray) (thirteen : Bool) (c d : Int) (To3 Lead3 : Int) (pl : List ByteArray) (wins : Int) (mt : ByteArray) (seventeen : Bool) (td : ByteArray) (nineteen : Bool) (f2 : A2 l1 To2 Lead2 pt sd few nine run who long eleven sp t sv thirteen c d To3 Lead3 pl wins mt seventeen td nineteen) :
    Calls Tryz.prog 3 #[.slice A0 l0.length c0, .slice A1_ l1.length c1] w fun e w' => e = .returned (.bool true) ∧ Below w.heap.size w w' := by
  have hu25 := Tryz.underlying25
  obtain ⟨k5, h5_⟩ := f1.draw
  obtain ⟨k7, h7_⟩ := f1.win'
  obtain ⟨k9, h9_⟩ := f1.pts'
  obtain ⟨k10, h10_⟩ := f1.nxt
  obtain ⟨k11, h11_⟩ := f1.nxt'
  obtain ⟨k12, h12_⟩ := f1.back
  obtain ⟨k13, h13_⟩ := f1.back'
  obtain ⟨k15, h15_⟩ := f1.pl'
  have F := Aside0.mk f1
  have h5 := Aside0.mk h5_
  have h7 := Aside0.mk h7_
  have h9 := Aside0.mk h9_
  have h10 := Aside0.mk h10_
  have h11 := Aside0.mk h11_
  have h12 := Aside0.mk h12_
  have h13 := Aside0.mk h13_
  have h15 := Aside0.mk h15_
  have F2 := Aside0.mk f2
  clear f2
  have HR0 := Aside0.mk hr0
  have HC0 := Aside0.mk hc0
  have HR1 := Aside0.mk hr1
  have HC1 := Aside0.mk hc1
  have HG := Aside0.mk hbig
  clear f1 h5_ h7_ h9_ h10_ h11_ h12_ h13_ h15_ hr0 hc0 hr1 hc1 hbig
  go_enter Tryz.func3, Tryz.ntmps3
  go_upto_region 4 with (first
    | (go_at_call 4; (with_reducible refine (laws_big.calls A0 c0 l0 A1_ c1 l1 false _ HR0.out HC0.out HR1.out HC1.out HG.out).mono ?_); rintro e w1 ⟨rfl, ⟨m1, rfl⟩⟩)
    | (go_at_call 5; (with_reducible refine (spec_DrawWinnerOf.calls k5 A0 c0 l0 To Lead s _ (Kd.C_drewN HR0.out _) HC0.out h5.out).mono ?_); rintro e w1 ⟨rfl, hb⟩; have HB := Aside0.mk (below_step (pw_below_drewN (Below.refl w.heap.size w) _) hb); clear hb)
    | ((with_reducible refine gate_dst (N := 5) rfl ?_); refine box_event ?hg (N := 5) ?hd (cs := #[.int .i64 0, .int .i64 0]) (t := 25) ?hr ?_; (case hd => rfl); (case hg => rfl); (case hr => first | (go_simp; done) | (go_simp; rfl)); intro gr hg w2 hbox hb; have GE := Aside0.mk (show w.heap.size ≤ gr by (rw [hg]; exact HB.out.size)); have HB2 := Aside0.mk (below_step HB.out hb); clear HB; have HB := HB2; have BK := Aside0.mk hbox; clear HB2 hb hbox hg; have z0 : w2.cell? ⟨gr, 0, none⟩ = some (.int .i64 0) := (blk_cell BK.out 0).trans rfl; have z1 : w2.cell? ⟨gr, 1, none⟩ = some (.int .i64 0) := (blk_cell BK.out 1).trans rfl; have y0 := blk_frozen BK.out 0; have y1 := blk_frozen BK.out 1))
  have HB2 := Aside0.mk (below_set (below_set HB.out GE.out (j := 0) (v := .int .i64 To)) GE.out (j := 1) (v := .int .i64 Lead))
  have BK2 := Aside0.mk (blk_put (blk_put BK.out 0 (.int .i64 To) rfl) 1 (.int .i64 Lead) rfl)
  clear HB BK z0 z1 y0 y1
  generalize (w2.setCell ⟨gr, 0, none⟩ (.int .i64 To)).setCell ⟨gr, 1, none⟩ (.int .i64 Lead) = w3 at HB2 BK2 ⊢
  have HB := HB2
  have BK : Aside0 (w3.heap[gr]? = some (.cells #[.int .i64 To, .int .i64 Lead] 25 (0, 0))) := BK2
  clear HB2 BK2
  have q0 : w3.cell? ⟨gr, 0, none⟩ = some (.int .i64 To) := (blk_cell BK.out 0).trans rfl
  have q1 : w3.cell? ⟨gr, 1, none⟩ = some (.int .i64 Lead) := (blk_cell BK.out 1).trans rfl
  go_upto_region 14 with (first | (go_at_call 6; (with_reducible refine (impl_WinnerOf.calls To Lead s W ok _ F.out.win).mono ?_); rintro e w1 ⟨rfl, hb⟩; have HB2 := Aside0.mk (below_step HB.out hb); have BK2 := Aside0.mk (blk_below BK.out hb); clear HB BK hb; have HB := HB2; have BK := BK2; clear HB2 BK2; (try clear q0 q1); have q0 : w1.cell? ⟨gr, 0, none⟩ = some (.int .i64 To) := (blk_cell BK.out 0).trans rfl; have q1 : w1.cell? ⟨gr, 1, none⟩ = some (.int .i64 Lead) := (blk_cell BK.out 1).trans rfl) | (go_at_call 7; (with_reducible refine (spec_WinnerOf.calls k7 To Lead s W ok _ h7.out).mono ?_); rintro e w1 ⟨rfl, hb⟩; have HB2 := Aside0.mk (below_step HB.out hb); have BK2 := Aside0.mk (blk_below BK.out hb); clear HB BK hb; have HB := HB2; have BK := BK2; clear HB2 BK2; (try clear q0 q1); have q0 : w1.cell? ⟨gr, 0, none⟩ = some (.int .i64 To) := (blk_cell BK.out 0).trans rfl; have q1 : w1.cell? ⟨gr, 1, none⟩ = some (.int .i64 Lead) := (blk_cell BK.out 1).trans rfl) | (go_at_call 8; (with_reducible refine (impl_PointsIn.calls To Lead s a b ok _ F.out.pts).mono ?_); rintro e w1 ⟨rfl, hb⟩; have HB2 := Aside0.mk (below_step HB.out hb); have BK2 := Aside0.mk (blk_below BK.out hb); clear HB BK hb; have HB := HB2; have BK := BK2; clear HB2 BK2; (try clear q0 q1); have q0 : w1.cell? ⟨gr, 0, none⟩ = some (.int .i64 To) := (blk_cell BK.out 0).trans rfl; have q1 : w1.cell? ⟨gr, 1, none⟩ = some (.int .i64 Lead) := (blk_cell BK.out 1).trans rfl) | (go_at_call 9; (with_reducible refine (spec_PointsIn.calls k9 To Lead s a b ok _ h9.out).mono ?_); rintro e w1 ⟨rfl, hb⟩; have HB2 := Aside0.mk (below_step HB.out hb); have BK2 := Aside0.mk (blk_below BK.out hb); clear HB BK hb; have HB := HB2; have BK := BK2; clear HB2 BK2; (try clear q0 q1); have q0 : w1.cell? ⟨gr, 0, none⟩ = some (.int .i64 To) := (blk_cell BK.out 0).trans rfl; have q1 : w1.cell? ⟨gr, 1, none⟩ = some (.int .i64 Lead) := (blk_cell BK.out 1).trans rfl) | (go_at_call 10; (with_reducible refine (impl_NextWinners.calls k10 To Lead s nx ok _ h10.out).mono ?_); rintro e w1 ⟨rfl, hb⟩; have HB2 := Aside0.mk (below_step HB.out hb); have BK2 := Aside0.mk (blk_below BK.out hb); clear HB BK hb; have HB := HB2; have BK := BK2; clear HB2 BK2; (try clear q0 q1); have q0 : w1.cell? ⟨gr, 0, none⟩ = some (.int .i64 To) := (blk_cell BK.out 0).trans rfl; have q1 : w1.cell? ⟨gr, 1, none⟩ = some (.int .i64 Lead) := (blk_cell BK.out 1).trans rfl) | (go_at_call 11; (with_reducible refine (spec_NextWinners.calls k11 To Lead s nx ok _ h11.out).mono ?_); rintro e w1 ⟨rfl, hb⟩; have HB2 := Aside0.mk (below_step HB.out hb); have BK2 := Aside0.mk (blk_below BK.out hb); clear HB BK hb; have HB := HB2; have BK := BK2; clear HB2 BK2; (try clear q0 q1); have q0 : w1.cell? ⟨gr, 0, none⟩ = some (.int .i64 To) := (blk_cell BK.out 0).trans rfl; have q1 : w1.cell? ⟨gr, 1, none⟩ = some (.int .i64 Lead) := (blk_cell BK.out 1).trans rfl) | (go_at_call 12; (with_reducible refine (impl_GreatestComeback.calls k12 To Lead s bk five _ h12.out).mono ?_); rintro e w1 ⟨rfl, hb⟩; have HB2 := Aside0.mk (below_step HB.out hb); have BK2 := Aside0.mk (blk_below BK.out hb); clear HB BK hb; have HB := HB2; have BK := BK2; clear HB2 BK2; (try clear q0 q1); have q0 : w1.cell? ⟨gr, 0, none⟩ = some (.int .i64 To) := (blk_cell BK.out 0).trans rfl; have q1 : w1.cell? ⟨gr, 1, none⟩ = some (.int .i64 Lead) := (blk_cell BK.out 1).trans rfl) | (go_at_call 13; (with_reducible refine (spec_GreatestComeback.calls k13 To Lead s bk five _ h13.out).mono ?_); rintro e w1 ⟨rfl, hb⟩; have HB2 := Aside0.mk (below_step HB.out hb); have BK2 := Aside0.mk (blk_below BK.out hb); clear HB BK hb; have HB := HB2; have BK := BK2; clear HB2 BK2; (try clear q0 q1); have q0 : w1.cell? ⟨gr, 0, none⟩ = some (.int .i64 To) := (blk_cell BK.out 0).trans rfl; have q1 : w1.cell? ⟨gr, 1, none⟩ = some (.int .i64 Lead) := (blk_cell BK.out 1).trans rfl) | (go_at_call 14; (with_reducible refine (impl_IsPlay.calls To Lead s is seven _ F.out.pl).mono ?_); rintro e w1 ⟨rfl, hb⟩; have HB2 := Aside0.mk (below_step HB.out hb); have BK2 := Aside0.mk (blk_below BK.out hb); clear HB BK hb; have HB := HB2; have BK := BK2; clear HB2 BK2; (try clear q0 q1); have q0 : w1.cell? ⟨gr, 0, none⟩ = some (.int .i64 To) := (blk_cell BK.out 0).trans rfl; have q1 : w1.cell? ⟨gr, 1, none⟩ = some (.int .i64 Lead) := (blk_cell BK.out 1).trans rfl) | (go_at_call 15; (with_reducible refine (spec_IsPlay.calls k15 To Lead s is seven _ h15.out).mono ?_); rintro e w1 ⟨rfl, hb⟩; have HB2 := Aside0.mk (below_step HB.out hb); have BK2 := Aside0.mk (blk_below BK.out hb); clear HB BK hb; have HB := HB2; have BK := BK2; clear HB2 BK2; (try clear q0 q1); have q0 : w1.cell? ⟨gr, 0, none⟩ = some (.int .i64 To) := (blk_cell BK.out 0).trans rfl; have q1 : w1.cell? ⟨gr, 1, none⟩ = some (.int .i64 Lead) := (blk_cell BK.out 1).trans rfl))
  go_cut [254] from 92 to 254 (fun v wc => v = .bool false ∧ Aside0 (Below w.heap.size w wc) ∧ Aside0 (wc.heap[gr]? = some (.cells #[.int .i64 To, .int .i64 Lead] 25 (0, 0))))
  case first =>
    change Code.wp Tryz.prog (Code.region 14 ops14 true) _ _ _
    refine r14' _ (by kernel_rfl) gr s W nx ok is seven five g a b bk To Lead F.out.rel F.out.race F.out.race' w _ ?hrho HB.out BK.out _ ?hQ ?hk
    case hQ =>
      intro c a N v w h
      cases N <;> exact h
    case hrho =>
        funext i
        unfold rho
        by_cases h5 : i = 5
        · subst h5
          rfl
        rw [if_neg h5]
        by_cases h6 : i = 6
        · subst h6
          rfl
        rw [if_neg h6]
        by_cases h7 : i = 7
        · subst h7
          rfl
        rw [if_neg h7]
        by_cases h8 : i = 8
        · subst h8
          rfl
        rw [if_neg h8]
        by_cases h9 : i = 9
        · subst h9
          rfl
        rw [if_neg h9]
        by_cases h10 : i = 10
        · subst h10
          rfl
        rw [if_neg h10]
        by_cases h11 : i = 11
        · subst h11
          rfl
        rw [if_neg h11]
        by_cases h12 : i = 12
        · subst h12
          rfl
        rw [if_neg h12]
        by_cases h13 : i = 13
        · subst h13
          rfl
        rw [if_neg h13]
        by_cases h14 : i = 14
        · subst h14
          rfl
        rw [if_neg h14]
        by_cases h15 : i = 15
        · subst h15
          rfl
        rw [if_neg h15]
        by_cases h16 : i = 16
        · subst h16
          rfl
        rw [if_neg h16]
        by_cases h17 : i = 17
        · subst h17
          rfl
        rw [if_neg h17]
        by_cases h18 : i = 18
        · subst h18
          rfl
        rw [if_neg h18]
        by_cases h19 : i = 19
        · subst h19
          rfl
        rw [if_neg h19]
        by_cases h20 : i = 20
        · subst h20
          rfl
        rw [if_neg h20]
        by_cases h21 : i = 21
        · subst h21
          rfl
        rw [if_neg h21]
        by_cases h22 : i = 22
        · subst h22
          rfl
        rw [if_neg h22]
        by_cases h23 : i = 23
        · subst h23
          rfl
        rw [if_neg h23]
        by_cases h24 : i = 24
        · subst h24
          rfl
        rw [if_neg h24]
        by_cases h25 : i = 25
        · subst h25
          rfl
        rw [if_neg h25]
        by_cases h26 : i = 26
        · subst h26
          rfl
        rw [if_neg h26]
        by_cases h27 : i = 27
        · subst h27
          rfl
        rw [if_neg h27]
        by_cases h28 : i = 28
        · subst h28
          rfl
        rw [if_neg h28]
    case hk =>
      intro v w' h254 HB' BK'
      refine norm_fr (t' := List.toArray (.slice A0 l0.length c0::.slice A1_ l1.length c1::undef::undef::.bool false::.pointer (some ⟨gr, 0, none⟩)::.string s::.string W::.bool ok::.string W::.bool ok::.int .i64 a::.int .i64 b::.bool ok::.int .i64 a::.int .i64 b::.bool ok::.string nx::.bool ok::.string nx::.bool ok::.int .i64 bk::.bool five::.int .i64 bk::.bool five::.bool is::.bool seven::.bool is::.bool seven::undef::undef::undef::undef::undef::undef::undef::undef::undef::undef::undef::undef::undef::undef::undef::undef::undef::undef::undef::undef::undef::undef::undef::undef::undef::undef::undef::undef::undef::undef::undef::undef::undef::undef::undef::undef::undef::undef::undef::undef::undef::undef::undef::undef::undef::undef::undef::undef::undef::undef::undef::undef::undef::undef::undef::undef::undef::undef::undef::undef::undef::undef::undef::v 92::v 93::v 94::v 95::v 96::v 97::v 98::v 99::v 100::v 101::v 102::v 103::v 104::v 105::v 106::v 107::v 108::v 109::v 110::v 111::v 112::v 113::v 114::v 115::v 116::v 117::v 118::v 119::v 120::v 121::v 122::v 123::v 124::v 125::v 126::v 127::v 128::v 129::v 130::v 131::v 132::v 133::v 134::v 135::v 136::v 137::v 138::v 139::v 140::v 141::v 142::v 143::v 144::v 145::v 146::v 147::v 148::v 149::v 150::v 151::v 152::v 153::v 154::v 155::v 156::v 157::v 158::v 159::v 160::v 161::v 162::v 163::v 164::v 165::v 166::v 167::v 168::v 169::v 170::v 171::v 172::v 173::v 174::v 175::v 176::v 177::v 178::v 179::v 180::v 181::v 182::v 183::v 184::v 185::v 186::v 187::v 188::v 189::v 190::v 191::v 192::v 193::v 194::v 195::v 196::v 197::v 198::v 199::v 200::v 201::v 202::v 203::v 204::v 205::v 206::v 207::v 208::v 209::v 210::v 211::v 212::v 213::v 214::v 215::v 216::v 217::v 218::v 219::v 220::v 221::v 222::v 223::v 224::v 225::v 226::v 227::v 228::v 229::v 230::v 231::v 232::v 233::v 234::v 235::v 236::v 237::v 238::v 239::v 240::v 241::v 242::v 243::v 244::v 245::v 246::v 247::v 248::v 249::v 250::v 251::v 252::v 253::.bool false::undef::undef::undef::undef::undef::undef::undef::undef::undef::undef::undef::undef::undef::undef::undef::undef::undef::undef::undef::undef::undef::undef::undef::undef::undef::undef::undef::undef::undef::undef::undef::undef::undef::undef::undef::undef::undef::undef::undef::undef::undef::undef::undef::undef::undef::undef::undef::undef::undef::undef::undef::undef::undef::undef::undef::undef::undef::undef::undef::undef::undef::undef::undef::undef::undef::undef::undef::undef::undef::undef::undef::undef::undef::undef::undef::undef::undef::undef::undef::undef::undef::undef::undef::undef::undef::undef::undef::undef::undef::undef::undef::undef::undef::undef::undef::undef::undef::undef::undef::undef::undef::undef::undef::undef::undef::undef::undef::undef::undef::undef::undef::undef::undef::undef::undef::undef::undef::undef::undef::undef::undef::undef::undef::undef::undef::undef::undef::undef::undef::undef::undef::undef::undef::undef::undef::undef::undef::undef::undef::undef::undef::undef::undef::undef::undef::undef::undef::undef::undef::undef::undef::undef::undef::undef::undef::undef::undef::undef::undef::undef::undef::undef::undef::undef::undef::undef::undef::undef::undef::undef::undef::undef::undef::undef::undef::undef::undef::undef::undef::undef::undef::undef::undef::undef::undef::undef::undef::undef::undef::undef::undef::undef::undef::undef::undef::undef::undef::undef::undef::undef::undef::undef::undef::undef::undef::undef::undef::undef::undef::undef::undef::undef::undef::undef::undef::undef::undef::undef::undef::undef::undef::undef::undef::undef::undef::undef::undef::undef::undef::undef::undef::undef::undef::undef::undef::undef::undef::undef::undef::undef::undef::undef::undef::undef::undef::undef::undef::undef::undef::undef::undef::undef::undef::undef::undef::undef::undef::undef::undef::undef::undef::undef::undef::undef::undef::undef::undef::undef::undef::undef::undef::undef::undef::undef::undef::undef::undef::undef::undef::undef::undef::undef::undef::undef::undef::undef::undef::undef::undef::undef::undef::undef::undef::undef::undef::undef::undef::undef::undef::undef::undef::undef::undef::undef::undef::undef::undef::undef::undef::undef::undef::undef::undef::undef::undef::undef::undef::undef::undef::undef::undef::undef::undef::undef::undef::undef::undef::undef::undef::undef::undef::undef::undef::undef::undef::undef::undef::undef::undef::undef::undef::undef::undef::undef::undef::undef::undef::undef::undef::undef::undef::undef::undef::undef::undef::undef::undef::undef::undef::undef::undef::undef::undef::undef::undef::undef::undef::undef::undef::undef::undef::undef::undef::undef::undef::undef::undef::undef::undef::undef::undef::undef::undef::undef::undef::undef::undef::undef::undef::undef::undef::undef::undef::undef::undef::undef::undef::undef::undef::undef::undef::undef::undef::undef::undef::undef::undef::undef::undef::undef::undef::undef::undef::undef::undef::undef::undef::undef::undef::undef::undef::undef::undef::undef::undef::undef::undef::undef::undef::undef::undef::undef::undef::undef::undef::undef::undef::undef::undef::undef::undef::undef::undef::undef::undef::undef::undef::undef::undef::undef::undef::undef::undef::undef::undef::undef::undef::undef::undef::undef::undef::undef::undef::undef::undef::undef::undef::undef::undef::undef::undef::undef::undef::undef::undef::undef::undef::undef::undef::undef::undef::undef::undef::undef::undef::undef::undef::undef::undef::undef::undef::undef::undef::undef::undef::undef::undef::undef::undef::undef::undef::undef::undef::undef::undef::undef::undef::undef::undef::undef::undef::undef::undef::undef::undef::undef::undef::undef::undef::undef::undef::undef::undef::undef::undef::undef::undef::undef::undef::undef::undef::undef::undef::undef::undef::undef::undef::undef::undef::undef::undef::undef::undef::undef::undef::[])) (by (rw [← h254]); kernel_rfl) ?_
      go_wp2
      go_meet
      case rel => exact ⟨rfl, ⟨HB'⟩, ⟨BK'⟩⟩
  case rest =>
    obtain ⟨rfl, HB, BK⟩ := hcut
    have q0 : wc.cell? ⟨gr, 0, none⟩ = some (.int .i64 To) := (blk_cell BK.out 0).trans rfl
    have q1 : wc.cell? ⟨gr, 1, none⟩ = some (.int .i64 Lead) := (blk_cell BK.out 1).trans rfl
    go_upto_if 255 with fail
    rename_i K_ hK_
    refine blk255 gr s W nx five ok a b bk To Lead w _ _ _ _ _ _ _ _ _ _ _ _ _ _ _ _ _ _ _ _ _ _ _ _ _ _ _ _ _ _ _ _ _ _ _ _ _ _ _ _ _ _ _ _ _ _ _ _ _ _ _ _ _ _ _ _ _ _ _ _ _ _ _ _ _ _ _ _ _ _ _ _ _ _ _ _ _ _ _ _ _ _ _ _ _ _ _ _ _ _ _ _ _ _ _ _ _ _ _ _ _ _ _ _ _ _ _ _ _ _ _ _ _ _ _ _ _ _ _ _ _ _ _ _ _ _ _ _ _ _ _ _ _ _ _ _ _ _ _ _ _ _ _ _ _ _ _ _ _ _ _ _ _ _ _ _ _ _ _ _ _ _ _ _ _ _ _ _ _ _ _ _ _ _ _ _ _ _ _ _ _ _ _ _ _ _ _ _ _ _ _ _ _ _ _ _ _ _ _ _ _ _ _ _ _ _ _ _ _ _ _ _ _ _ _ _ _ _ _ _ _ _ _ _ _ _ _ _ _ _ _ _ _ _ _ _ _ _ _ _ _ _ _ _ _ _ _ _ _ _ _ _ _ _ _ _ _ _ _ _ _ _ _ _ _ _ _ _ _ _ _ _ _ _ _ _ _ _ _ _ _ _ _ _ _ _ _ _ _ _ _ _ _ _ _ _ _ _ _ _ _ _ _ _ _ _ _ _ _ _ _ _ _ _ _ _ _ _ _ _ _ _ _ _ _ _ _ _ _ _ _ _ _ _ _ _ _ _ _ _ _ _ _ _ _ _ _ _ _ _ _ _ _ _ _ _ _ _ _ _ _ _ _ _ _ _ _ _ _ _ _ _ _ _ _ _ _ _ _ _ _ _ _ _ _ _ _ _ _ _ _ _ _ _ _ _ _ _ _ _ _ _ _ _ _ _ _ _ _ _ _ _ _ _ _ _ _ _ _ _ _ _ _ _ _ _ _ _ _ _ _ _ _ _ _ _ _ _ _ _ _ _ _ _ _ _ _ _ _ _ _ _ _ _ _ _ _ _ _ _ _ _ _ _ _ _ _ _ _ _ _ _ _ _ _ _ _ _ _ _ _ _ _ _ _ _ _ _ _ _ _ _ _ _ _ _ _ _ _ _ _ _ _ _ _ _ _ _ _ _ _ _ _ _ _ _ _ _ _ _ _ _ _ _ _ _ _ _ _ _ _ _ _ _ _ _ _ _ _ _ _ _ _ _ _ _ _ _ _ _ _ _ _ _ _ _ _ _ _ _ _ _ _ _ _ _ _ _ _ _ _ _ _ _ _ _ _ _ _ _ _ _ _ _ _ _ _ _ _ _ _ _ _ _ _ _ _ _ _ _ _ _ _ _ _ _ _ _ _ _ _ _ _ _ _ _ _ _ _ _ _ _ _ _ _ _ _ _ _ _ _ _ _ _ _ _ _ _ _ _ _ _ _ _ _ _ _ _ _ _ _ _ _ _ _ _ _ _ _ _ _ _ _ _ _ _ _ _ _ _ _ _ _ _ _ _ _ _ _ _ _ _ _ _ _ _ _ _ _ _ _ _ _ _ _ _ _ _ _ _ _ _ _ _ _ _ _ _ _ _ _ _ _ _ _ _ _ _ _ _ _ _ _ _ _ _ _ _ _ _ _ _ _ _ _ _ _ _ _ _ _ _ _ _ _ _ _ _ _ _ _ _ _ _ _ _ _ _ _ _ _ _ _ _ _ _ _ _ _ _ _ _ _ _ _ _ _ _ _ _ _ _ _ _ _ _ _ _ _ _ _ _ _ HB BK F.out.bf ?_
    intro x4 x29 x30 x31 x32 x33 x34 x35 x36 x37 x38 x256 x257 x258 x259 x260 x261 x262 x263 x264 x265 x266 x267 x268 x269 x270 x271 x272 x273 x274 x275 x276 x277 x278 x279 x280 x281 x282 x283 x284 x285 x286 x287 x288 x289 x290 x291 x292 x293 x294 x295 x296 x297 x298 x299 x300 x301 x302 x303 x304 x305 x306 x307 x308 x309 x310 x311 x312 x313 x314 x315 x316 x317 x318 x319 x320 x321 x322 x323 x324 x325 x326 x327 x328 x329 x330 x331 x332 x333 x334 x335 x336 x337 x338 x339 x340 x341 x342 x343 x344 x345 x346 x347 x348 x349 x350 x351 x352 x353 x354 x355 x356 x357 x358 x359 x360 x361 x362 x363 x364 x365 x366 x367 x368 x369 x370 x371 x372 x373 x374 x375 x376 x377 x378 x379 x380 x381 x382 x383 x384 x385 x386 x387 x388 x389 x390 x391 x392 x393 x394 x395 x396 x397 x398 x399 x400 x401 x402 x403 x404 x405 x406 x407 x408 x409 x410 x411 x412 x413 x414 x415 x416 x417 x418 x419 x420 x421 x422 x423 x424 x425 x426 x427 x428 wx hbx
    have HBX := Aside0.mk hbx
    clear hbx HB BK q0 q1
    change K_ _ _
    refine hK_ _ _ ?_
    refine part2 A1_ c1 l1 To2 Lead2 pt sd few nine run who long eleven sp t sv thirteen c d To3 Lead3 pl wins mt seventeen td nineteen w _ _ _ _ _ _ _ _ _ _ _ _ _ _ _ _ _ _ _ _ _ _ _ _ _ _ _ _ _ _ _ _ _ _ _ _ _ _ _ _ _ _ _ _ _ _ _ _ _ _ _ _ _ _ _ _ _ _ _ _ _ _ _ _ _ _ _ _ _ _ _ _ _ _ _ _ _ _ _ _ _ _ _ _ _ _ _ _ _ _ _ _ _ _ _ _ _ _ _ _ _ _ _ _ _ _ _ _ _ _ _ _ _ _ _ _ _ _ _ _ _ _ _ _ _ _ _ _ _ _ _ _ _ _ _ _ _ _ _ _ _ _ _ _ _ _ _ _ _ _ _ _ _ _ _ _ _ _ _ _ _ _ _ _ _ _ _ _ _ _ _ _ _ _ _ _ _ _ _ _ _ _ _ _ _ _ _ _ _ _ _ _ _ _ _ _ _ _ _ _ _ _ _ _ _ _ _ _ _ _ _ _ _ _ _ _ _ _ _ _ _ _ _ _ _ _ _ _ _ _ _ _ _ _ _ _ _ _ _ _ _ _ _ _ _ _ _ _ _ _ _ _ _ _ _ _ _ _ _ _ _ _ _ _ _ _ _ _ _ _ _ _ _ _ _ _ _ _ _ _ _ _ _ _ _ _ _ _ _ _ _ _ _ _ _ _ _ _ _ _ _ _ _ _ _ _ _ _ _ _ _ _ _ _ _ _ _ _ _ _ _ _ _ _ _ _ _ _ _ _ _ _ _ _ _ _ _ _ _ _ _ _ _ _ _ _ _ _ _ _ _ _ _ _ _ _ _ _ _ _ _ _ _ _ _ _ _ _ _ _ _ _ _ _ _ _ _ _ _ _ _ _ _ _ _ _ _ _ _ _ _ _ _ _ _ _ _ _ _ _ _ _ _ _ _ _ _ _ _ _ _ _ _ _ _ _ _ _ _ _ _ _ _ _ _ _ _ _ _ _ _ _ _ _ _ _ _ _ _ _ _ _ _ _ _ _ _ _ _ _ _ _ _ _ _ _ _ _ _ _ _ _ _ _ _ _ _ _ _ _ _ _ _ _ _ _ _ _ _ _ _ _ _ _ _ _ _ _ _ _ _ _ _ _ _ _ _ _ _ _ _ _ _ _ _ _ _ _ _ _ _ _ _ _ _ _ _ _ _ _ _ _ _ _ _ _ _ _ _ _ _ _ _ _ _ _ _ _ _ _ _ _ _ _ _ _ _ _ _ _ _ _ _ _ _ _ _ _ _ _ _ _ _ _ _ _ _ _ _ _ _ _ _ _ _ _ _ _ _ _ _ _ _ _ _ _ _ _ _ _ _ _ _ _ _ _ _ _ _ _ _ _ _ _ _ _ _ _ _ _ _ _ _ _ _ _ _ _ _ _ _ _ _ _ _ _ _ _ _ _ _ _ _ _ _ _ _ _ _ _ _ _ _ _ _ _ _ _ _ _ _ _ _ _ _ _ _ _ _ _ _ _ _ _ _ _ _ _ _ _ _ _ _ _ _ _ _ _ _ _ _ _ _ _ _ _ _ _ _ _ _ _ _ _ _ _ _ _ _ _ _ _ _ _ _ _ _ _ _ _ _ _ _ _ _ _ _ _ _ _ _ _ _ _ _ _ _ _ _ _ _ _ _ _ _ _ _ _ _ _ _ _ _ _ _ _ _ _ _ _ _ _ _ _ _ _ _ _ _ _ _ _ _ _ _ _ _ _ _ _ _ _ _ _ _ _ _ _ _ _ _ _ _ _ _ _ _ _ _ _ _ _ _ _ _ _ _ _ _ _ _ HBX ⟨Kd.C_below HR1.out HBX.out⟩ HC1.out F2.out ?_
    intro y39 y40 y41 y42 y43 y44 y45 y46 y47 y48 y49 y50 y51 y52 y53 y54 y55 y56 y57 y58 y59 y60 y61 y62 y63 y64 y65 y66 y67 y68 y69 y70 y71 y72 y73 y74 y75 y76 y77 y78 y79 y80 y81 y82 y83 y84 y85 y86 y87 y89 y90 y91 y429 y430 y431 y432 y433 y434 y435 y436 y437 y438 y439 y440 y441 y442 y443 y444 y445 y446 y447 y448 y449 y450 y451 y452 y453 y454 y455 y456 y457 y458 y459 y460 y461 y462 y463 y464 y465 y466 y467 y468 y469 y470 y471 y472 y473 y474 y475 y476 y477 y478 y479 y480 y481 y482 y483 y484 y485 y486 y487 y488 y489 y490 y491 y492 y493 y494 y495 y496 y497 y498 y499 y500 y501 y502 y503 y504 y505 y506 y507 y508 y509 y510 y511 y512 y513 y514 y515 y516 y517 y518 y519 y520 y521 y522 y523 y524 y525 y526 y527 y528 y529 y530 y531 y532 y533 y534 y535 y536 y537 y538 y539 y540 y541 y542 y543 y544 y545 y546 y547 y548 y549 y550 y551 y552 y553 y554 y555 y556 y557 y558 y559 y560 y561 y562 y563 y564 y565 y566 y567 y568 y569 y570 y571 y572 y573 y574 y575 y576 y577 y578 y579 y580 y581 y582 y583 y584 y585 y586 y587 y588 y589 y590 y591 y592 y593 y594 y595 y596 y597 y598 y599 y600 y601 y602 y603 y604 y605 y606 y607 y608 y609 y610 y611 y612 y613 y614 y615 y616 y617 y618 y619 y620 y621 y622 y623 y624 y625 y626 y627 y628 y629 y630 y631 y632 y633 y634 y635 y636 y637 y638 y639 y640 y641 y642 y643 y644 y645 y646 y647 y648 y649 y650 y651 y652 y653 y654 y655 y656 y657 y658 y659 y660 y661 y662 y663 y664 y665 y666 y667 y668 y669 y670 y671 y672 y673 y674 y675 y676 y677 y678 y679 y680 y681 y682 y683 y684 y685 y686 y687 y688 y689 y690 y691 y692 y693 y694 y695 y696 y697 y698 y699 y700 y701 y702 y703 y704 y705 y706 y707 y708 y709 y710 y711 y712 y713 y714 y715 y716 y717 y718 y719 y720 y721 y722 y723 y724 y725 y726 y727 y728 y729 y730 y731 y732 y733 y734 y735 y736 y737 y738 y739 y740 y741 y742 y743 y744 y745 y746 y747 y748 y749 y750 y751 y752 y753 y754 y755 y756 y757 y758 y759 y760 y761 y762 y763 y764 y765 y766 y767 y768 y769 y770 y771 y772 y773 y774 y775 y776 y777 y778 y779 y780 y781 y782 y783 y784 y785 y786 y787 y788 y789 y790 y791 y792 y793 y794 y795 y796 y797 y798 y799 wy hby
    first
      | exact ⟨rfl, hby⟩
      | (go_wp2; exact ⟨rfl, hby⟩)
      | (go_ret; exact ⟨rfl, hby⟩)
end Go.Proofs.YtiknaldhjbdnbaaGreatDoor.QFnRacesWon
