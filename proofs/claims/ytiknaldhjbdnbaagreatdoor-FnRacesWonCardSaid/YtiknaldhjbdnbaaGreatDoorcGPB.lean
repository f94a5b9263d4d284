/- What the functions asked of one play answer, as named values. No condition but sizes. -/
import Derived.Test.YtiknaldhjbdnbaaGreatDoorcGPA
namespace Go.Proofs.YtiknaldhjbdnbaaGreatDoor.Pure
open Go.RowKit Go.Proofs.YtiknaldhjbdnbaaGreatDoor.QFnRacesWon Go.Proofs.YtiknaldhjbdnbaaGreatDoorW.PrintWords Go.Proofs.YtiknaldhjbdnbaaGreatDoorW.PrintLast Go.Proofs.YtiknaldhjbdnbaaGreatDoorW.PrintMore
set_option linter.unusedVariables false
set_option linter.unusedSimpArgs false
set_option linter.unusedSectionVars false
theorem app0 (x : ByteArray) : (⟨#[]⟩ : ByteArray) ++ x = x := by
  apply ByteArray.ext
  simp [ByteArray.data_append]
theorem app1 : (⟨#[97]⟩ : ByteArray) ++ ⟨#[98]⟩ = ⟨#[97, 98]⟩ := by
  apply ByteArray.ext
  simp [ByteArray.data_append]
def decided (To Lead : Int) (s : ByteArray) : Nat := if isB To Lead s = true then code (Rw To Lead (cntS To Lead s).1 (cntS To Lead s).2.1) else 0
def winV (To Lead : Int) (s : ByteArray) : ByteArray × Bool := if isB To Lead s = true then (wonText (decided To Lead s), true) else (⟨#[]⟩, false)
theorem winner_eq (To Lead : Int) (p : ByteArray) : impl_WinnerOf.f To Lead p = some (winV To Lead p) := by
  unfold impl_WinnerOf.f winV
  cases hi : isB To Lead p
  · rw [played_no hi]
    rfl
  · rw [played_yes hi]
    have hd : decided To Lead p = code (Rw To Lead (cntS To Lead p).1 (cntS To Lead p).2.1) := by unfold decided; rw [hi]; rfl
    rw [hd]
    rfl
theorem winner_ev (To Lead : Int) (s : ByteArray) (hs2 : s.size ≤ 1048576) : Ev (fun k => spec_WinnerOf.f k To Lead s) (winV To Lead s) := by
  unfold spec_WinnerOf.f winV
  refine Ev.bind (raIs_ev To Lead s hs2) ?_
  cases hi : isB To Lead s
  · exact Ev.now _
  · have hd : decided To Lead s = code (Rw To Lead (cntS To Lead s).1 (cntS To Lead s).2.1) := by unfold decided; rw [hi]; rfl
    rw [hd]
    simp only [if_true]
    exact Ev.bind (f := fun _ t => some (t, true)) (raSide_ev To Lead s hs2) (Ev.now _)
def ptsV (To Lead : Int) (s : ByteArray) : Int × Int × Bool := if isB To Lead s = true then ((cntS To Lead s).1, (cntS To Lead s).2.1, true) else (0, 0, false)
theorem points_eq (To Lead : Int) (s : ByteArray) : impl_PointsIn.f To Lead s = some (ptsV To Lead s) := by
  unfold impl_PointsIn.f ptsV
  cases hi : isB To Lead s
  · rw [played_no hi]
    rfl
  · rw [played_yes hi]
    rfl
theorem points_ev (To Lead : Int) (s : ByteArray) (hs2 : s.size ≤ 1048576) : Ev (fun k => spec_PointsIn.f k To Lead s) (ptsV To Lead s) := by
  unfold spec_PointsIn.f ptsV
  refine Ev.bind (raIs_ev To Lead s hs2) ?_
  cases hi : isB To Lead s
  · exact Ev.now _
  · simp only [if_true]
    exact Ev.bind (f := fun _ bt => some (bt.1, bt.2.1, true)) (raCount_ev To Lead s hs2) (Ev.now _)
theorem isPlay_ev (To Lead : Int) (s : ByteArray) (hs2 : s.size ≤ 1048576) : Ev (fun k => spec_IsPlay.f k To Lead s) (isB To Lead s, goodR To Lead && pointsB s) := by
  unfold spec_IsPlay.f isB
  rw [raGood_eq]
  simp only [Option.bind_some]
  cases goodR To Lead
  · exact Ev.now _
  · simp only [if_true, Bool.true_and]
    refine Ev.bind (raPoints_ev s hs2) ?_
    cases pointsB s
    · exact Ev.now _
    · simp only [if_true, Bool.true_and]
      exact Ev.bind (f := fun _ bt => some (bt.2.2, true)) (raCount_ev To Lead s hs2) (Ev.now _)
def nxV (To Lead a b : Int) : ByteArray := if Rw To Lead a b = 0 then (if Rw To Lead (a + 1) b = 1 then (if Rw To Lead a (b + 1) = -1 then ⟨#[97, 98]⟩ else ⟨#[97]⟩) else (if Rw To Lead a (b + 1) = -1 then ⟨#[98]⟩ else ⟨#[]⟩)) else ⟨#[]⟩
theorem next_no {To Lead : Int} {s : ByteArray} (hs2 : s.size ≤ 1048576) (hi : isB To Lead s = false) : Ev (fun k => spec_NextWinners.f k To Lead s) (⟨#[]⟩, false) ∧ Ev (fun k => impl_NextWinners.f k To Lead s) (⟨#[]⟩, false) := by
  unfold spec_NextWinners.f impl_NextWinners.f
  refine ⟨Ev.bind (raIs_ev To Lead s hs2) ?_, ?_⟩
  · rw [hi]
    exact Ev.now _
  · rw [played_no hi]
    simp only [Option.bind_some, Bool.false_eq_true, if_false]
    exact ev_some fun k => by simp [impl_NextWinners.j0]
theorem next_yes {To Lead : Int} {s : ByteArray} (hs2 : s.size ≤ 1048576) (hi : isB To Lead s = true) : Ev (fun k => spec_NextWinners.f k To Lead s) (nxV To Lead (cntS To Lead s).1 (cntS To Lead s).2.1, true) ∧ Ev (fun k => impl_NextWinners.f k To Lead s) (nxV To Lead (cntS To Lead s).1 (cntS To Lead s).2.1, true) := by
  unfold spec_NextWinners.f impl_NextWinners.f
  obtain ⟨hg, _, _⟩ := isB_parts hi
  have hT := goodR_to hg
  have hb := cntS_bd To Lead s hs2
  rw [played_yes hi]
  simp only [Option.bind_some, if_true]
  have hc := raCount_ev To Lead s hs2
  generalize cntS To Lead s = c at hb hc ⊢
  obtain ⟨a, b, p⟩ := c
  simp only at hb
  have hwa : wrap64 (a + 1) = a + 1 := wrap_id (by omega) (by omega)
  have hwb : wrap64 (b + 1) = b + 1 := wrap_id (by omega) (by omega)
  have hR0 := raWon_ev To Lead a b (by omega) (by omega)
  have hR1 := raWon_ev To Lead (a + 1) b (by omega) (by omega)
  have hR2 := raWon_ev To Lead a (b + 1) (by omega) (by omega)
  have e1 := hasWon_eq To Lead (a + 1) b (by omega) (by omega)
  have e2 := hasWon_eq To Lead (b + 1) a (by omega) (by omega)
  by_cases h0 : Rw To Lead a b = 0
  · have ht : ((wonText (code (Rw To Lead a b))).toList != ([45] : List UInt8)) = false := by rw [h0, Lib.toList_data]; rfl
    rw [show nxV To Lead a b = (if Rw To Lead (a + 1) b = 1 then (if Rw To Lead a (b + 1) = -1 then (((⟨#[]⟩ : ByteArray) ++ (⟨#[97]⟩ : ByteArray)) ++ (⟨#[98]⟩ : ByteArray)) else ((⟨#[]⟩ : ByteArray) ++ (⟨#[97]⟩ : ByteArray))) else (if Rw To Lead a (b + 1) = -1 then ((⟨#[]⟩ : ByteArray) ++ (⟨#[98]⟩ : ByteArray)) else (⟨#[]⟩ : ByteArray))) from by unfold nxV; rw [if_pos h0, app0, app0, app1]]
    refine ⟨Ev.bind (raIs_ev To Lead s hs2) ?_, ?_⟩
    · rw [hi]
      simp only [if_true]
      refine Ev.bind hc ?_
      refine Ev.bind hR0 ?_
      simp only [h0, if_true, hwa, hwb]
      refine Ev.bind hR1 ?_
      by_cases h1 : Rw To Lead (a + 1) b = 1
      · simp only [h1, if_true]
        rw [if_pos (by omega)]
        refine Ev.bind hR2 ?_
        by_cases h2 : Rw To Lead a (b + 1) = -1
        · simp only [h2, if_true]
          exact Ev.now _
        · simp only [h2, if_false]
          exact Ev.now _
      · simp only [h1, if_false]
        refine Ev.bind hR2 ?_
        by_cases h2 : Rw To Lead a (b + 1) = -1
        · simp only [h2, if_true]
          exact Ev.now _
        · simp only [h2, if_false]
          exact Ev.now _
    · rw [ht]
      refine ev_some fun k => ?_
      simp only [impl_NextWinners.j0, Bool.false_eq_true, if_false, hwa, hwb, e1, e2, Option.bind_some]
      by_cases h1 : Rw To Lead (a + 1) b = 1
      · rw [if_pos (Rw_one.1 h1), if_pos h1]
        by_cases h2 : Rw To Lead a (b + 1) = -1
        · rw [if_pos ((Rw_neg hT.2.1).1 h2), if_pos h2]
          rfl
        · rw [if_neg (fun h => h2 ((Rw_neg hT.2.1).2 h)), if_neg h2]
          rfl
      · rw [if_neg (fun h => h1 (Rw_one.2 h)), if_neg h1]
        by_cases h2 : Rw To Lead a (b + 1) = -1
        · rw [if_pos ((Rw_neg hT.2.1).1 h2), if_pos h2]
          rfl
        · rw [if_neg (fun h => h2 ((Rw_neg hT.2.1).2 h)), if_neg h2]
  · have ht : ((wonText (code (Rw To Lead a b))).toList != ([45] : List UInt8)) = true := by
      rcases Rw_three To Lead a b with h | h | h
      · rw [h, Lib.toList_data]; rfl
      · rw [h, Lib.toList_data]; rfl
      · exact absurd h h0
    rw [show nxV To Lead a b = (⟨#[]⟩ : ByteArray) from by unfold nxV; rw [if_neg h0]]
    refine ⟨Ev.bind (raIs_ev To Lead s hs2) ?_, ?_⟩
    · rw [hi]
      simp only [if_true]
      refine Ev.bind hc ?_
      refine Ev.bind hR0 ?_
      simp only [h0, if_false]
      exact Ev.now _
    · rw [ht]
      exact ev_some fun k => by simp [impl_NextWinners.j0]
def fewV (To Lead own other : Int) : Int × Bool := if wonB To Lead other own = true then (0, false) else (mx 0 (mx To (other + Lead) - own), true)
theorem few_both (To Lead : Int) (s side : ByteArray) (hs2 : s.size ≤ 1048576) : ∃ v : Int × Bool, Ev (fun k => spec_FewestToWin.f k To Lead s side) v ∧ Ev (fun k => impl_FewestToWin.f k To Lead s side) v ∧ (isB To Lead s = false → v = (0, false)) ∧ (isB To Lead s = true → side.toList = [97] → v = fewV To Lead (cntS To Lead s).1 (cntS To Lead s).2.1) ∧ (isB To Lead s = true → side.toList = [98] → v = fewV To Lead (cntS To Lead s).2.1 (cntS To Lead s).1) ∧ (side.toList ≠ [97] → side.toList ≠ [98] → v = (0, false)) := by
  cases hi : isB To Lead s
  · refine ⟨(0, false), ?_, ?_, fun _ => rfl, fun h => absurd h Bool.false_ne_true, fun h => absurd h Bool.false_ne_true, fun _ _ => rfl⟩
    · unfold spec_FewestToWin.f
      refine Ev.bind (raIs_ev To Lead s hs2) ?_
      rw [hi]
      simp only [Bool.false_eq_true, if_false]
      exact ev_some fun k => by simp [spec_FewestToWin.j0]
    · unfold impl_FewestToWin.f
      rw [played_no hi]
      simp only [Option.bind_some, Bool.false_eq_true, if_false]
      exact ev_some fun k => by simp [impl_FewestToWin.j0]
  · have HI : ¬ true = false := by decide
    obtain ⟨hg, _, _⟩ := isB_parts hi
    have hT := goodR_to hg
    have hb := cntS_bd To Lead s hs2
    have hc := raCount_ev To Lead s hs2
    have hp := played_yes hi
    generalize cntS To Lead s = c at hb hc hp ⊢
    obtain ⟨a, b, p⟩ := c
    simp only at hb hp ⊢
    have hne : ([97] : List UInt8) ≠ [98] := by decide
    have main : ∀ own other : Int, (0 ≤ own ∧ own ≤ 1048576) → (0 ≤ other ∧ other ≤ 1048576) → Ev (fun k => spec_FewestToWin.j1 k own other To Lead) (if wonB To Lead other own = true then (0, false) else (mx 0 (mx To (other + Lead) - own), true)) := by
      intro own other ho ht
      have hR := raWon_ev To Lead own other (by omega) (by omega)
      have hw1 : wrap64 (other + Lead) = other + Lead := wrap_id (by omega) (by omega)
      refine Ev.step (f := fun k => (spec_raWon.f k To Lead own other).bind fun t121 => (if t121 < 0 then (some (0, false)) else ((spec_l1Most.f To (wrap64 (other + Lead))).bind fun t122 => ((spec_l1Most.f 0 (wrap64 (t122 - own))).bind fun t123 => (some (t123, true)))))) (fun k => by simp only [spec_FewestToWin.j1]) ?_
      refine Ev.bind hR ?_
      by_cases h1 : wonB To Lead other own = true
      · rw [(Rw_neg hT.2.1).2 h1, if_pos h1]
        exact Ev.now _
      · rw [if_neg h1]
        have hnn : ¬ Rw To Lead own other < 0 := by
          rcases Rw_three To Lead own other with h | h | h
          · rw [h]; decide
          · exact absurd ((Rw_neg hT.2.1).1 h) h1
          · rw [h]; decide
        rw [if_neg hnn, hw1]
        refine ev_const fun k => ?_
        have m1 : spec_l1Most.f To (other + Lead) = some (mx To (other + Lead)) := by
          unfold spec_l1Most.f mx
          split <;> split <;> first | rfl | (congr 1; omega)
        have hmx : 0 ≤ mx To (other + Lead) ∧ mx To (other + Lead) ≤ 2000000 := by unfold mx; split <;> omega
        rw [m1, Option.bind_some, wrap_id (i := mx To (other + Lead) - own) (by omega) (by omega)]
        have m2 : spec_l1Most.f 0 (mx To (other + Lead) - own) = some (mx 0 (mx To (other + Lead) - own)) := by
          unfold spec_l1Most.f
          rw [show mx 0 (mx To (other + Lead) - own) = if 0 > mx To (other + Lead) - own then 0 else mx To (other + Lead) - own by unfold mx; split <;> split <;> omega]
          split <;> rfl
        rw [m2]
        rfl
    have prog : ∀ own other : Int, (0 ≤ own ∧ own ≤ 1048576) → (0 ≤ other ∧ other ≤ 1048576) → wonB To Lead own other = false → mx (wrap64 (To - own)) (wrap64 (wrap64 (Lead + other) - own)) = mx 0 (mx To (other + Lead) - own) := by
      intro own other ho ht hn
      rw [wrap_id (i := To - own) (by omega) (by omega), wrap_id (i := Lead + other) (by omega) (by omega), wrap_id (i := Lead + other - own) (by omega) (by omega)]
      unfold wonB at hn
      have hn2 : ¬ (To ≤ own ∧ Lead ≤ own - other) := by
        rintro ⟨h1, h2⟩
        simp [h1, h2] at hn
      unfold mx
      repeat' split
      all_goals omega
    by_cases h97 : side.toList = ([97] : List UInt8)
    · refine ⟨fewV To Lead a b, ?_, ?_, fun h => absurd h HI, fun _ _ => rfl, fun _ h => absurd (h97.symm.trans h) hne, fun h => absurd h97 h⟩
      · unfold spec_FewestToWin.f
        refine Ev.bind (raIs_ev To Lead s hs2) ?_
        rw [hi]
        simp only [if_true, h97]
        refine Ev.step (f := fun k => (spec_raCount.f k To Lead s).bind fun bt118 => (spec_FewestToWin.j1 k bt118.1 bt118.2.1 To Lead)) (fun k => by simp [spec_FewestToWin.j0, h97]) ?_
        refine Ev.bind hc ?_
        exact main a b (by omega) (by omega)
      · unfold impl_FewestToWin.f
        rw [hp]
        simp only [Option.bind_some, if_true]
        have hside : impl_isSide.f side = some true := by unfold impl_isSide.f; rw [if_pos h97]
        rw [hside]
        simp only [Option.bind_some, Bool.not_true]
        refine ev_some fun k => ?_
        simp only [impl_FewestToWin.j0, Bool.false_eq_true, if_false]
        unfold fewV
        rw [h97]
        rcases Rw_three To Lead a b with h | h | h
        · have e : wonB To Lead b a = false := by
            cases h2 : wonB To Lead b a
            · rfl
            · have := (Rw_neg hT.2.1).2 h2; rw [h] at this; cases this
          have e2 : wonB To Lead a b = true := Rw_one.1 h
          rw [h, show (wonText (code 1)).toList = [97] by rw [Lib.toList_data]; rfl, if_neg (by decide), e]
          simp only [Bool.false_eq_true, if_false]
          have : mx 0 (mx To (b + Lead) - a) = 0 := by
            unfold wonB at e2
            simp at e2
            unfold mx
            repeat' split
            all_goals omega
          rw [this]
          rfl
        · have e : wonB To Lead b a = true := (Rw_neg hT.2.1).1 h
          rw [h, show (wonText (code (-1))).toList = [98] by rw [Lib.toList_data]; rfl, if_neg (by decide), if_pos e]
          rfl
        · have e : wonB To Lead b a = false := by
            cases h2 : wonB To Lead b a
            · rfl
            · have := (Rw_neg hT.2.1).2 h2; rw [h] at this; cases this
          have e2 : wonB To Lead a b = false := by
            cases h2 : wonB To Lead a b
            · rfl
            · have := Rw_one.2 h2; rw [h] at this; cases this
          rw [h, show (wonText (code 0)).toList = [45] by rw [Lib.toList_data]; rfl, if_pos rfl, if_neg hne, e, prog a b (by omega) (by omega) e2]
          rfl
    · by_cases h98 : side.toList = ([98] : List UInt8)
      · refine ⟨fewV To Lead b a, ?_, ?_, fun h => absurd h HI, fun _ h => absurd h h97, fun _ _ => rfl, fun _ h => absurd h98 h⟩
        · unfold spec_FewestToWin.f
          refine Ev.bind (raIs_ev To Lead s hs2) ?_
          rw [hi]
          simp only [if_true, h98, hne.symm, if_false, bne_self_eq_false]
          refine Ev.step (f := fun k => (spec_raCount.f k To Lead s).bind fun bt118 => (spec_FewestToWin.j1 k bt118.2.1 bt118.1 To Lead)) (fun k => by simp [spec_FewestToWin.j0, h98]) ?_
          refine Ev.bind hc ?_
          exact main b a (by omega) (by omega)
        · unfold impl_FewestToWin.f
          rw [hp]
          simp only [Option.bind_some, if_true]
          have hside : impl_isSide.f side = some true := by unfold impl_isSide.f; rw [if_neg h97, h98]; rfl
          rw [hside]
          simp only [Option.bind_some, Bool.not_true]
          refine ev_some fun k => ?_
          simp only [impl_FewestToWin.j0, Bool.false_eq_true, if_false]
          unfold fewV
          rw [h98]
          rcases Rw_three To Lead a b with h | h | h
          · have e2 : wonB To Lead a b = true := Rw_one.1 h
            rw [h, show (wonText (code 1)).toList = [97] by rw [Lib.toList_data]; rfl, if_neg (by decide), if_pos e2]
            rfl
          · have e : wonB To Lead b a = true := (Rw_neg hT.2.1).1 h
            have e2 : wonB To Lead a b = false := by
              cases h2 : wonB To Lead a b
              · rfl
              · have := Rw_one.2 h2; rw [h] at this; cases this
            rw [h, show (wonText (code (-1))).toList = [98] by rw [Lib.toList_data]; rfl, if_neg (by decide), e2]
            simp only [Bool.false_eq_true, if_false]
            have : mx 0 (mx To (a + Lead) - b) = 0 := by
              unfold wonB at e
              simp at e
              unfold mx
              repeat' split
              all_goals omega
            rw [this]
            rfl
          · have e : wonB To Lead b a = false := by
              cases h2 : wonB To Lead b a
              · rfl
              · have := (Rw_neg hT.2.1).2 h2; rw [h] at this; cases this
            have e2 : wonB To Lead a b = false := by
              cases h2 : wonB To Lead a b
              · rfl
              · have := Rw_one.2 h2; rw [h] at this; cases this
            rw [h, show (wonText (code 0)).toList = [45] by rw [Lib.toList_data]; rfl, if_pos rfl, if_pos rfl, e2, prog b a (by omega) (by omega) e]
            rfl
      · refine ⟨(0, false), ?_, ?_, fun h => absurd h HI, fun _ h => absurd h h97, fun _ h => absurd h h98, fun _ _ => rfl⟩
        · unfold spec_FewestToWin.f
          refine Ev.bind (raIs_ev To Lead s hs2) ?_
          rw [hi]
          have : (side.toList != ([98] : List UInt8)) = true := by simpa using h98
          simp only [if_true, h97, if_false, this]
          exact ev_some fun k => by simp [spec_FewestToWin.j0]
        · unfold impl_FewestToWin.f
          rw [hp]
          simp only [Option.bind_some, if_true]
          have hside : impl_isSide.f side = some false := by
            unfold impl_isSide.f
            rw [if_neg h97]
            have : (side.toList == ([98] : List UInt8)) = false := by simpa using h98
            rw [this]
          rw [hside]
          simp only [Option.bind_some, Bool.not_false]
          exact ev_some fun k => by simp [impl_FewestToWin.j0]
theorem extract_one (s : ByteArray) (i : Nat) (h : i < s.data.toList.length) : (s.extract i (i + 1)).toList = [s.data.toList[i]] := by
  rw [Lib.toList_data]
  have h2 : i < s.size := by rw [len_data] at h; exact h
  have e : (s.extract i (i + 1)).data.toList = (s.data.toList.drop i).take 1 := by
    rw [ByteArray.data_extract, Array.toList_extract]
    simp [List.extract]
  rw [e, List.drop_eq_getElem_cons h]
  rfl
def cbk (c : UInt8) : List UInt8 → Int → Int → Int
  | [], worst, _ => worst
  | e :: l, worst, lead => if e = c then cbk c l (mx worst (-(lead + 1))) (lead + 1) else cbk c l (mx worst (-(lead - 1))) (lead - 1)
theorem comeback_l0 (s : ByteArray) (hs : s.size ≤ 1048576) (c : UInt8) (w : ByteArray) (hw : w.toList = [c]) (a b : Int) (p : Bool) (d : Nat) : ∀ (i : Nat) (worst lead : Int), i + d = s.size → 0 ≤ worst → worst ≤ i → -(i : Int) ≤ lead → lead ≤ i →
    Ev (fun k => spec_GreatestComeback.l0 k s (c.toNat : Int) (-lead) worst (i : Int)) (cbk c (s.data.toList.drop i) worst lead, true) ∧ Ev (fun k => impl_GreatestComeback.l0 k s worst lead (s.size : Int) (i : Int) a b w p) (cbk c (s.data.toList.drop i) worst lead, true) := by
  induction d with
  | zero =>
    intro i worst lead hi _ _ _ _
    rw [List.drop_of_length_le (by rw [len_data]; omega)]
    refine ⟨ev_some fun k => ?_, ev_some fun k => ?_⟩
    · simp only [spec_GreatestComeback.l0]
      rw [if_neg (by omega)]
      rfl
    · simp only [impl_GreatestComeback.l0]
      rw [if_neg (by omega)]
      rfl
  | succ d ih =>
    intro i worst lead hi h0 h1 h2 h3
    have hlt : i < s.data.toList.length := by rw [len_data]; omega
    have hwi : wrap64 ((i : Int) + 1) = ((i + 1 : Nat) : Int) := by rw [wrap_id (by omega) (by omega)]; omega
    have hbt := bt_nat s i hlt
    have hex := extract_one s i hlt
    have hl1 : wrap64 (lead + 1) = lead + 1 := wrap_id (by omega) (by omega)
    have hl2 : wrap64 (lead - 1) = lead - 1 := wrap_id (by omega) (by omega)
    have hn1 : wrap64 (-(lead + 1)) = -(lead + 1) := wrap_id (by omega) (by omega)
    have hn2 : wrap64 (-(lead - 1)) = -(lead - 1) := wrap_id (by omega) (by omega)
    have hb1 : wrap64 (-lead - 1) = -(lead + 1) := by rw [wrap_id (by omega) (by omega)]; omega
    have hb2 : wrap64 (-lead + 1) = -(lead - 1) := by rw [wrap_id (by omega) (by omega)]; omega
    have most : ∀ x y : Int, spec_l1Most.f x y = some (mx x y) := by
      intro x y
      unfold spec_l1Most.f mx
      split <;> split <;> first | rfl | (congr 1; omega)
    have hmx : ∀ x y : Int, x ≤ mx x y ∧ y ≤ mx x y ∧ (mx x y = x ∨ mx x y = y) := by
      intro x y
      unfold mx
      split <;> omega
    rw [List.drop_eq_getElem_cons hlt]
    generalize s.data.toList[i] = e at hbt hex ⊢
    by_cases hc : e = c
    · subst hc
      have hm := hmx worst (-(lead + 1))
      have ec : ∀ l, cbk e (e :: l) worst lead = cbk e l (mx worst (-(lead + 1))) (lead + 1) := fun l => by simp only [cbk, if_true]
      rw [ec]
      obtain ⟨hv1, hv2⟩ := ih (i + 1) (mx worst (-(lead + 1))) (lead + 1) (by omega) (by omega) (by omega) (by omega) (by omega)
      refine ⟨Ev.step (fun k => ?_) hv1, Ev.step (fun k => ?_) hv2⟩
      · simp only [spec_GreatestComeback.l0]
        rw [if_pos (by omega), if_pos (by omega), hbt, if_pos rfl, hb1, most, hwi]
        rfl
      · simp only [impl_GreatestComeback.l0]
        rw [if_pos (by omega), if_pos (by omega), hwi, if_pos (by omega), if_pos (by omega), Int.toNat_natCast, Int.toNat_natCast, hex, hw, if_pos rfl, hl1, hn1]
    · have hcn : ¬ ((e.toNat : Int) = (c.toNat : Int)) := fun h => hc (UInt8.toNat_inj.1 (by omega))
      have hcl : ¬ ([e] = [c]) := fun h => hc (List.cons.inj h).1
      have hm := hmx worst (-(lead - 1))
      have ec : ∀ l, cbk c (e :: l) worst lead = cbk c l (mx worst (-(lead - 1))) (lead - 1) := fun l => by simp only [cbk, hc, if_false]
      rw [ec]
      obtain ⟨hv1, hv2⟩ := ih (i + 1) (mx worst (-(lead - 1))) (lead - 1) (by omega) (by omega) (by omega) (by omega) (by omega)
      refine ⟨Ev.step (fun k => ?_) hv1, Ev.step (fun k => ?_) hv2⟩
      · simp only [spec_GreatestComeback.l0]
        rw [if_pos (by omega), if_pos (by omega), hbt, if_neg hcn, hb2, most, hwi]
        rfl
      · simp only [impl_GreatestComeback.l0]
        rw [if_pos (by omega), if_pos (by omega), hwi, if_pos (by omega), if_pos (by omega), Int.toNat_natCast, Int.toNat_natCast, hex, hw, if_neg hcl, hl2, hn2]
theorem back_no {To Lead : Int} {s : ByteArray} (hs2 : s.size ≤ 1048576) (hi : isB To Lead s = false) : Ev (fun k => spec_GreatestComeback.f k To Lead s) (0, false) ∧ Ev (fun k => impl_GreatestComeback.f k To Lead s) (0, false) := by
  unfold spec_GreatestComeback.f impl_GreatestComeback.f
  refine ⟨Ev.bind (raIs_ev To Lead s hs2) ?_, ?_⟩
  · rw [hi]
    simp only [Bool.false_eq_true, if_false]
    exact ev_some fun k => by simp [spec_GreatestComeback.j0]
  · rw [played_no hi]
    simp only [Option.bind_some, Bool.false_eq_true, if_false]
    exact ev_some fun k => by simp [impl_GreatestComeback.j0]
def bkV (s : ByteArray) (r : Int) : Int × Bool := if r = 1 then (cbk 97 s.data.toList 0 0, true) else if r = -1 then (cbk 98 s.data.toList 0 0, true) else (0, false)
theorem back_yes {To Lead : Int} {s : ByteArray} (hs2 : s.size ≤ 1048576) (hi : isB To Lead s = true) : Ev (fun k => spec_GreatestComeback.f k To Lead s) (bkV s (Rw To Lead (cntS To Lead s).1 (cntS To Lead s).2.1)) ∧ Ev (fun k => impl_GreatestComeback.f k To Lead s) (bkV s (Rw To Lead (cntS To Lead s).1 (cntS To Lead s).2.1)) := by
  unfold spec_GreatestComeback.f impl_GreatestComeback.f
  have hsd := raSide_ev To Lead s hs2
  have hp := played_yes hi
  generalize cntS To Lead s = c at hsd hp ⊢
  obtain ⟨a, b, p⟩ := c
  simp only at hsd hp ⊢
  rw [hp]
  simp only [Option.bind_some, if_true]
  have fin : ∀ (c : UInt8) (w : ByteArray), w = ⟨#[c]⟩ → c ≠ 45 → Ev (fun k => spec_raSide.f k To Lead s) w → Ev (fun k => (spec_raIs.f k To Lead s).bind fun t126 => (if t126 = true then ((spec_raSide.f k To Lead s).bind fun t127 => (spec_GreatestComeback.j0 k s (t127.toList == ([45] : List UInt8)) To Lead)) else (spec_GreatestComeback.j0 k s true To Lead))) (cbk c s.data.toList 0 0, true) ∧ Ev (fun k => impl_GreatestComeback.j0 k s (w.toList == ([45] : List UInt8)) a b w true) (cbk c s.data.toList 0 0, true) := by
    intro c w hw hc hsw
    have hwl : w.toList = [c] := by rw [hw, Lib.toList_data]
    have ht : (w.toList == ([45] : List UInt8)) = false := by
      rw [hwl]
      simpa using hc
    obtain ⟨hv1, hv2⟩ := comeback_l0 s hs2 c w hwl a b true s.size 0 0 0 (by omega) (by omega) (by omega) (by omega) (by omega)
    refine ⟨Ev.bind (raIs_ev To Lead s hs2) ?_, ?_⟩
    · rw [hi]
      simp only [if_true]
      refine Ev.bind hsw ?_
      rw [ht]
      refine Ev.step (f := fun k => (spec_raSide.f k To Lead s).bind fun t128 => (if 0 < (t128.size : Int) then (spec_GreatestComeback.l0 k s (bt t128 0) 0 0 0) else (none))) (fun k => by simp [spec_GreatestComeback.j0]) ?_
      refine Ev.bind hsw ?_
      have hsz : (0 : Int) < (w.size : Int) := by rw [hw]; show (0 : Int) < ((1 : Nat) : Int); decide
      have hb0 : bt w 0 = (c.toNat : Int) := by rw [hw]; rfl
      simp only [hsz, if_true, hb0]
      simpa using hv1
    · rw [ht]
      refine Ev.step (f := fun k => impl_GreatestComeback.l0 k s 0 0 (s.size : Int) 0 a b w true) (fun k => by simp [impl_GreatestComeback.j0]) ?_
      simpa using hv2
  rcases Rw_three To Lead a b with h | h | h
  · rw [h] at hsd ⊢
    exact fin 97 (wonText (code 1)) rfl (by decide) hsd
  · rw [h] at hsd ⊢
    exact fin 98 (wonText (code (-1))) rfl (by decide) hsd
  · rw [h] at hsd ⊢
    rw [show bkV s 0 = (0, false) from rfl]
    have ht : ((wonText (code 0)).toList == ([45] : List UInt8)) = true := by rw [Lib.toList_data]; rfl
    refine ⟨Ev.bind (raIs_ev To Lead s hs2) ?_, ?_⟩
    · rw [hi]
      simp only [if_true]
      refine Ev.bind hsd ?_
      rw [ht]
      exact ev_some fun k => by simp [spec_GreatestComeback.j0]
    · rw [ht]
      exact ev_some fun k => by simp [impl_GreatestComeback.j0]
end Go.Proofs.YtiknaldhjbdnbaaGreatDoor.Pure
