/- The table of the fewest darts for each score, checked by the kernel. No condition. -/
import Derived.Test.YtacmfgbeaoalfaacQFnDartsFinishx0
import Derived.Test.YtacmfgbeaoalfaacGBrd
namespace Go.Proofs.Ytacmfgbeaoalfaa.QFnDartsFinish
open Go.RowKit Go.Proofs.YtacmfgbeaoalfaaW.PrintWords Go.Proofs.YtacmfgbeaoalfaaW.PrintLast Go.Proofs.YtacmfgbeaoalfaaW.PrintMore
set_option linter.unusedVariables false
set_option linter.unusedSimpArgs false
def tab (n : Nat) (f : Nat → Int) : List Int := (List.range n).map f
theorem tab_len (n : Nat) (f : Nat → Int) : (tab n f).length = n := by simp [tab]
theorem rd_tab {n : Nat} {f : Nat → Int} (i : Int) (h0 : 0 ≤ i) (h1 : i < n) : rd (tab n f) i = f i.toNat := by
  have h : i.toNat < n := by omega
  simp [rd, tab, List.getD, h]
theorem tab_ext {n : Nat} {f g : Nat → Int} (h : ∀ j, j < n → f j = g j) : tab n f = tab n g := List.map_congr_left (fun j hj => h j (List.mem_range.1 hj))
theorem set_tab (n : Nat) (f : Nat → Int) (i : Nat) (v : Int) : (tab n f).set i v = tab n (fun j => if j = i then v else f j) := by
  apply List.ext_getElem
  · simp [tab]
  · intro j h1 h2
    simp only [tab, List.getElem_set, List.getElem_map, List.getElem_range]
    by_cases c : i = j
    · rw [if_pos c, if_pos c.symm]
    · rw [if_neg c, if_neg (fun e => c e.symm)]
theorem rep_tab (n : Nat) : List.replicate n (0 : Int) = tab n (fun _ => 0) := by
  apply List.ext_getElem
  · simp [tab]
  · intro j h1 h2
    simp [tab]
theorem w64_in (n : Int) (h : -9223372036854775808 ≤ n ∧ n ≤ 9223372036854775807) : wrap64 n = n := by unfold wrap64; omega
def sc (d : S43) : Int := d.f0 * d.f1
def tN1 : Nat := 79316858372526220803959128656184170272606918121330618585460265068875772151042921447844111491563515573057217882947357500567205930247659115397553315753906031878110835141107971932312397458816818276366517944716427547314135877131603531991816535060779631501260637125765398652160063256565868350836312538968523074512680804947400901161736004555389783928496261972055385126032100177924598623110291577552786159820451855568863961373003964259296714501659096527039824488295568911493560472617088724959472494949780357278042253906878507965504294984959747622676211671568011360235693372205305867378851880203018434372433780761085110226345204456645970321375051844911635256784098523354202672642429464541174523065303729011696317033368779045066940675926604480383571864349274074670424196025419661206621182911430457814755554661693649711107147899047153278106898423904487302388340658202180527650222482868723485879559340843274724833218136866624620425498322750243080354375058339495170201963577489478643482323420855495251117720523677725997576635194147703720822612624515245929414820678929723088141370266707780301269550918474561720100442690291196701592271911904840720630741504568788020061203630501718040706396015359108897050556902868968859844277873660767451813574814701157473434222232260768892419927244598125378131145724437920248176195104903725957503515095648963039996948535917392447337613470056059586938866679401268134669342408782445865944154811111713270959964410968805922704642547580628378376130467644259985014238686237869800994372559340576
def tN2 : Nat := 83986969883326728322321834489698546925530922723132812546183264705972826418605792878067791886359837142486718776020635545726409560828019791926256250051525265320719459706617161684810436167179864101352984607978458970250655922636377311188677509702249818315732376674470978144414461071310499118495269295226184176559936483657110000202650413335323629777448402556008116312605618861083338434750382717075323478097019449587850522525449027347431766797958911448012318510993026584492336300864786981995640303349868773947230415219621099593716712138868925295919655958653596940352060549024539913773687134122247126415841571340934896605897297011628848016586891036388618018429556201054561916616908758316594402294463303517056494294833788926158179965230623112210111080817122523886408621262986754122279888108889648446867074353349934356591468691203042971926527524360490773668626044347101583930072912251863406907178688480683323939572357336909659565784988915341062755358579944819344604624372544096231391449200601312742180972311958490209732048524300397671435334702095601759858013434958096749354614421850410626571104451052282174767568861762460448005018897244494583499750435990849845824671756828911247957592536703660291878731340418466975730902266370924051013539389653862816590124524813258141241865638065177308348381460444120055353571212225006046584250031565201458559138255368417454501591845028286935128811147087014127440441808349980369552752386779671638322965774216719012198674047797306597049725266938054066881419162149568756476269341804544
def tA (s : Nat) : Nat := tN1 / 2 ^ (5 * s) % 32
def tB (s : Nat) : Nat := tN2 / 2 ^ (5 * s) % 32
theorem tA_lt (s : Nat) : tA s < 32 := Nat.mod_lt _ (by decide)
theorem tB_lt (s : Nat) : tB s < 32 := Nat.mod_lt _ (by decide)
def fewL (b : Bool) : List Int := if b = true then tab 1002 (fun s => (tB s : Int) - 1) else tab 1002 (fun s => (tA s : Int))
def stN (s cur c : Nat) : Nat := bif Nat.ble c s then (bif Nat.beq cur 0 then tA (s - c) + 2 else bif Nat.blt (tA (s - c) + 2) cur then tA (s - c) + 2 else cur) else cur
theorem beq_no {c : Nat} (h : ¬ c = 0) : Nat.beq c 0 = false := by
  cases e : Nat.beq c 0 with
  | false => rfl
  | true => exact absurd (Nat.eq_of_beq_eq_true e) h
def scL : List Nat := boardL.map (fun d => (sc d).toNat)
def dbL : List Nat := (boardL.filter (fun d => d.f1 == 2)).map (fun d => (sc d).toNat)
def scN : List Nat := [60, 57, 54, 51, 50, 48, 45, 42, 40, 39, 38, 36, 36, 34, 33, 32, 30, 30, 28, 27, 26, 25, 24, 24, 22, 21, 20, 20, 19, 18, 18, 18, 17, 16, 16, 15, 15, 14, 14, 13, 12, 12, 12, 11, 10, 10, 9, 9, 8, 8, 7, 6, 6, 6, 5, 4, 4, 3, 3, 2, 2, 1]
def dbN : List Nat := [50, 40, 38, 36, 34, 32, 30, 28, 26, 24, 22, 20, 18, 16, 14, 12, 10, 8, 6, 4, 2]
theorem scL_eq : scL = scN := by kernel_rfl
theorem dbL_eq : dbL = dbN := by kernel_rfl
theorem chkA : (List.range 1001).all (fun s => Nat.beq (scN.foldl (stN (s + 1)) 0) (tA (s + 1) + 1)) = true := by kernel_rfl
theorem chkB : (List.range 1002).all (fun s => Nat.beq (dbN.foldl (stN s) 0) (tB s)) = true := by kernel_rfl
theorem brd_ok : ∀ d ∈ boardL, 1 ≤ sc d ∧ sc d ≤ 60 := by
  have h : boardL.all (fun d => decide (1 ≤ sc d ∧ sc d ≤ 60)) = true := by kernel_rfl
  intro d hd
  exact of_decide_eq_true (List.all_eq_true.1 h d hd)
theorem brd_len : boardL.length = 62 := by kernel_rfl
def up (g : Nat → Int) (s : Nat) (v : Int) : Nat → Int := fun j => if j = s then v else g j
def stA (g : Nat → Int) (s : Nat) (cur : Int) (d : S43) : Int := if sc d ≤ s then (if g ((s : Int) - sc d).toNat ≥ 0 then (if cur < 0 then g ((s : Int) - sc d).toNat + 1 else (if g ((s : Int) - sc d).toNat + 1 < cur then g ((s : Int) - sc d).toNat + 1 else cur)) else cur) else cur
def stB (g : Nat → Int) (s : Nat) (cur : Int) (d : S43) : Int := if d.f1 = 2 then (if sc d ≤ s then (if cur < 0 then g ((s : Int) - sc d).toNat + 1 else (if g ((s : Int) - sc d).toNat + 1 < cur then g ((s : Int) - sc d).toNat + 1 else cur)) else cur) else cur
def gA (s : Nat) : Nat → Int := fun j => if j < s then (tA j : Int) else 0
def gB (s : Nat) : Nat → Int := fun j => if j < s then (tB j : Int) - 1 else 0
theorem gA_b (s j : Nat) : -1 ≤ gA s j ∧ gA s j ≤ 5000 := by
  unfold gA
  have := tA_lt j
  split <;> omega
theorem foldA (s : Nat) (L : List S43) (hL : ∀ d ∈ L, 1 ≤ sc d ∧ sc d ≤ 60) : ∀ (cur : Int) (c : Nat), cur = (c : Int) - 1 → L.foldl (stA (gA s) s) cur = (((L.map (fun d => (sc d).toNat)).foldl (stN s) c : Nat) : Int) - 1 := by
  induction L with
  | nil => intro cur c h; exact h
  | cons d L ih =>
    intro cur c h
    have hd := hL d List.mem_cons_self
    rw [List.foldl_cons, List.map_cons, List.foldl_cons]
    refine ih (fun d h => hL d (List.mem_cons_of_mem _ h)) _ _ ?_
    unfold stA stN
    by_cases c1 : sc d ≤ s
    · have e1 : Nat.ble (sc d).toNat s = true := Nat.ble_eq_true_of_le (by omega)
      have e2 : ((s : Int) - sc d).toNat = s - (sc d).toNat := by omega
      have e3 : gA s ((s : Int) - sc d).toNat = (tA (s - (sc d).toNat) : Int) := by
        rw [e2]; unfold gA; rw [if_pos (by omega)]
      rw [if_pos c1, e3, e1, if_pos (by omega)]
      generalize tA (s - (sc d).toNat) = v
      by_cases c2 : c = 0
      · subst c2
        rw [if_pos (by omega)]
        show _ = ((v + 2 : Nat) : Int) - 1
        omega
      · have e4 : Nat.beq c 0 = false := beq_no c2
        rw [if_neg (by omega), e4]
        by_cases c3 : v + 2 < c
        · have e5 : Nat.blt (v + 2) c = true := Nat.ble_eq_true_of_le (by omega)
          rw [if_pos (by omega), e5]
          show _ = ((v + 2 : Nat) : Int) - 1
          omega
        · have e5 : Nat.blt (v + 2) c = false := by
            cases e : Nat.blt (v + 2) c with
            | false => rfl
            | true => have := Nat.le_of_ble_eq_true e; omega
          rw [if_neg (by omega), e5]
          exact h
    · have e1 : Nat.ble (sc d).toNat s = false := by
        cases e : Nat.ble (sc d).toNat s with
        | false => rfl
        | true => have := Nat.le_of_ble_eq_true e; omega
      rw [if_neg c1, e1]
      exact h
theorem foldB (s : Nat) (hs : s < 1002) (L : List S43) (hL : ∀ d ∈ L, 1 ≤ sc d ∧ sc d ≤ 60) : ∀ (cur : Int) (c : Nat), cur = (c : Int) - 1 → L.foldl (stB (gA 1002) s) cur = ((((L.filter (fun d => d.f1 == 2)).map (fun d => (sc d).toNat)).foldl (stN s) c : Nat) : Int) - 1 := by
  induction L with
  | nil => intro cur c h; exact h
  | cons d L ih =>
    intro cur c h
    have hd := hL d List.mem_cons_self
    have ih' := ih (fun d h => hL d (List.mem_cons_of_mem _ h))
    rw [List.foldl_cons, List.filter_cons]
    by_cases c0 : d.f1 = 2
    · have e0 : (d.f1 == 2) = true := by simp [c0]
      rw [if_pos e0, List.map_cons, List.foldl_cons]
      refine ih' _ _ ?_
      unfold stB stN
      rw [if_pos c0]
      by_cases c1 : sc d ≤ s
      · have e1 : Nat.ble (sc d).toNat s = true := Nat.ble_eq_true_of_le (by omega)
        have e2 : ((s : Int) - sc d).toNat = s - (sc d).toNat := by omega
        have e3 : gA 1002 ((s : Int) - sc d).toNat = (tA (s - (sc d).toNat) : Int) := by
          rw [e2]; unfold gA; rw [if_pos (by omega)]
        rw [if_pos c1, e3, e1]
        generalize tA (s - (sc d).toNat) = v
        by_cases c2 : c = 0
        · subst c2
          rw [if_pos (by omega)]
          show _ = ((v + 2 : Nat) : Int) - 1
          omega
        · have e4 : Nat.beq c 0 = false := beq_no c2
          rw [if_neg (by omega), e4]
          by_cases c3 : v + 2 < c
          · have e5 : Nat.blt (v + 2) c = true := Nat.ble_eq_true_of_le (by omega)
            rw [if_pos (by omega), e5]
            show _ = ((v + 2 : Nat) : Int) - 1
            omega
          · have e5 : Nat.blt (v + 2) c = false := by
              cases e : Nat.blt (v + 2) c with
              | false => rfl
              | true => have := Nat.le_of_ble_eq_true e; omega
            rw [if_neg (by omega), e5]
            exact h
      · have e1 : Nat.ble (sc d).toNat s = false := by
          cases e : Nat.ble (sc d).toNat s with
          | false => rfl
          | true => have := Nat.le_of_ble_eq_true e; omega
        rw [if_neg c1, e1]
        exact h
    · have e0 : (d.f1 == 2) = false := by simp [c0]
      rw [if_neg (by rw [e0]; decide)]
      refine ih' _ _ ?_
      unfold stB
      rw [if_neg c0]
      exact h
theorem cellA (s : Nat) (h0 : 1 ≤ s) (h1 : s ≤ 1001) : boardL.foldl (stA (gA s) s) (-1) = (tA s : Int) := by
  rw [foldA s boardL brd_ok (-1) 0 (by omega)]
  have := Nat.eq_of_beq_eq_true (List.all_eq_true.1 chkA (s - 1) (List.mem_range.2 (by omega)))
  rw [show s - 1 + 1 = s by omega] at this
  change (((scL.foldl (stN s) 0 : Nat) : Int)) - 1 = _
  rw [scL_eq, this]
  omega
theorem cellB (s : Nat) (h1 : s < 1002) : boardL.foldl (stB (gA 1002) s) (-1) = (tB s : Int) - 1 := by
  rw [foldB s h1 boardL brd_ok (-1) 0 (by omega)]
  have := Nat.eq_of_beq_eq_true (List.all_eq_true.1 chkB s (List.mem_range.2 (by omega)))
  change (((dbL.foldl (stN s) 0 : Nat) : Int)) - 1 = _
  rw [dbL_eq, this]
end Go.Proofs.Ytacmfgbeaoalfaa.QFnDartsFinish
