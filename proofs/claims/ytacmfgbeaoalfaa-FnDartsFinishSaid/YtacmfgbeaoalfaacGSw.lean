/- slices' symMergeCmpFunc and stableCmpFunc at darts, walked over the row's whole block. -/
import Derived.Test.YtacmfgbeaoalfaacGSv
namespace Go.Proofs.Ytacmfgbeaoalfaa.QFnDartsFinish
open Go.RowKit Go.Proofs.YtacmfgbeaoalfaaW.PrintWords Go.Proofs.YtacmfgbeaoalfaaW.PrintLast Go.Proofs.YtacmfgbeaoalfaaW.PrintMore
set_option linter.unusedVariables false
set_option linter.unusedSimpArgs false
theorem sym.calls (pb cap len : Nat) (hlen : len ≤ 1000) (f : Nat) : ∀ (a m b : Nat) (xs ys : List S43), symF len f a m b xs = some ys → ∀ (cur : Array Value) (w : World), xs.length = len → w.heap[pb]? = some (.cells cur 43 (0, 0)) → HoldsD cap cur xs →
      Calls Try.prog 66 #[.slice (some ⟨pb, 0, none⟩) len cap, .int .i64 (a : Int), .int .i64 (m : Int), .int .i64 (b : Int), .func (.func 54) #[] #[]] w fun e w' => e = .returned (.tuple #[]) ∧ Bp pb w w' ∧ ∃ cur', w'.heap[pb]? = some (.cells cur' 43 (0, 0)) ∧ HoldsD cap cur' ys := by
  induction f with
  | zero => intro a m b xs ys h; cases h
  | succ f ih =>
    intro a m b xs ys h cur w hl hc hh
    rw [symF] at h
    split at h
    · rename_i g
      split at h
      · rename_i hm
        obtain ⟨i, hi, h⟩ := Option.bind_eq_some_iff.1 h
        split at h
        · rename_i hr
          rw [← Option.some.inj h]
          exact symA pb cap len a m b i hm g.2.1 g.2.2 hlen hr xs hi cur w hl hc hh
        · cases h
      · rename_i hm
        split at h
        · rename_i hb
          obtain ⟨i, hi, h⟩ := Option.bind_eq_some_iff.1 h
          split at h
          · rename_i hr
            rw [← Option.some.inj h]
            exact symB pb cap len a m b i ⟨g.1, hm⟩ hb g.2.2 hlen hr xs hi cur w hl hc hh
          · cases h
        · rename_i hb
          obtain ⟨st, hs, h⟩ := Option.bind_eq_some_iff.1 h
          split at h
          · rename_i hst
            obtain ⟨x1, h1, h⟩ := Option.bind_eq_some_iff.1 h
            obtain ⟨x2, h2, h⟩ := Option.bind_eq_some_iff.1 h
            exact symC pb cap len a m b f ⟨g.1, hm⟩ ⟨g.2.1, hb⟩ g.2.2 hlen ih ((a + b) / 2) st ((a + b) / 2 + m - st) rfl xs x1 x2 ys hs hst rfl h1 h2 h cur w hl hc hh
          · cases h
    · cases h
def srI (n : Nat) : Nat → Nat → List S43 → Option (Nat × List S43)
  | 0, _, _ => none
  | f + 1, a, xs => if a + 20 ≤ n then srI n f (a + 20) (insO a (a + 20 - (a + 1)) (a + 1) xs) else some (a, xs)
def srM (n bs : Nat) : Nat → Nat → List S43 → Option (Nat × List S43)
  | 0, _, _ => none
  | f + 1, a, xs => if a + 2 * bs ≤ n then (symF n 100 a (a + bs) (a + 2 * bs) xs).bind fun ys => srM n bs f (a + 2 * bs) ys else some (a, xs)
def srB (n : Nat) : Nat → Nat → List S43 → Option (List S43)
  | 0, _, _ => none
  | f + 1, bs, xs => if bs < n then (srM n bs 100 0 xs).bind fun r => (if r.1 + bs < n then symF n 100 r.1 (r.1 + bs) n r.2 else some r.2).bind fun ys => srB n f (bs * 2) ys else some xs
def srF (n : Nat) (xs : List S43) : Option (List S43) := (srI n 100 0 xs).bind fun r => srB n 100 20 (insO r.1 (n - (r.1 + 1)) (r.1 + 1) r.2)
theorem le_dec {x y : Nat} (h : x ≤ y) : decide ((x : Int) ≤ (y : Int)) = true ∧ decide (x ≤ y) = true := ⟨decide_eq_true (Int.ofNat_le.2 h), decide_eq_true h⟩
theorem gt_dec {x y : Nat} (h : ¬ x ≤ y) : decide ((x : Int) ≤ (y : Int)) = false ∧ decide (x ≤ y) = false := ⟨decide_eq_false (fun q => h (Int.ofNat_le.1 q)), decide_eq_false h⟩
theorem wr_two {x z : Nat} (h : z = 2 * x) (hx : z ≤ 4000) : wrap64 (2 * (x : Int)) = (z : Int) ∧ IntKind.i64.wrap (2 * (x : Int)) = (z : Int) ∧ wrap64 ((x : Int) * 2) = (z : Int) ∧ IntKind.i64.wrap ((x : Int) * 2) = (z : Int) := by
  have e : wrap64 (2 * (x : Int)) = (z : Int) := by unfold wrap64; omega
  have e2 : wrap64 ((x : Int) * 2) = (z : Int) := by unfold wrap64; omega
  exact ⟨e, by rw [i64_w]; exact e, e2, by rw [i64_w]; exact e2⟩
theorem wr_20 {x z : Nat} (h : z = x + 20) (hx : z ≤ 4000) : wrap64 ((x : Int) + 20) = (z : Int) ∧ IntKind.i64.wrap ((x : Int) + 20) = (z : Int) := by
  have e : wrap64 ((x : Int) + 20) = (z : Int) := by unfold wrap64; omega
  exact ⟨e, by rw [i64_w]; exact e⟩
set_option maxHeartbeats 16000000 in
set_option maxRecDepth 100000 in
theorem stable.calls (pb cap len : Nat) (hlen : len ≤ 1000) (xs ys : List S43) (hf : srF len xs = some ys) (cur : Array Value) (w : World) (hl : xs.length = len) (hc : w.heap[pb]? = some (.cells cur 43 (0, 0))) (hh : HoldsD cap cur xs) :
    Calls Try.prog 60 #[.slice (some ⟨pb, 0, none⟩) len cap, .int .i64 (len : Int), .func (.func 54) #[] #[]] w fun e w' => e = .returned (.tuple #[]) ∧ Bp pb w w' ∧ ∃ cur', w'.heap[pb]? = some (.cells cur' 43 (0, 0)) ∧ HoldsD cap cur' ys := by
  unfold srF at hf
  obtain ⟨⟨a0, z0⟩, h0, hf⟩ := Option.bind_eq_some_iff.1 hf
  have HL := Aside0.mk hl
  have HC := Aside0.mk hc
  have HH := Aside0.mk hh
  have HBP := Aside0.mk (Bp.rfl_ pb w)
  have HLE := Aside0.mk hlen
  have HF := Aside0.mk hf
  have H0 := Aside0.mk h0
  clear hl hc hh hlen hf h0
  go_enter Try.func60, Try.ntmps60
  go_wp2
  go_loopg [7, 8] 100 (fun kq v7 v8 w' => ∃ (x y : Nat) (xs : List S43) (cur' : Array Value), v7 = .int .i64 (x : Int) ∧ v8 = .int .i64 (y : Int) ∧ Aside0 (y = x + 20 ∧ x ≤ len) ∧ Aside0 (srI len kq x xs = some (a0, z0)) ∧ Aside0 (xs.length = len) ∧ Aside0 (w'.heap[pb]? = some (.cells cur' 43 (0, 0))) ∧ Aside0 (HoldsD cap cur' xs) ∧ Aside0 (Bp pb w w'))
  case atStart => exact ⟨0, 20, xs, cur, rfl, rfl, ⟨rfl, Nat.zero_le _⟩, H0, HL, HC, HH, HBP⟩
  case round =>
    clear HC HH HBP HL H0
    obtain ⟨x, y, xs, cur1, rfl, rfl, HXY, H0, HL, HC, HH, HBP⟩ := hrel
    cases gk with
    | zero => exact absurd H0.out (by simp [srI])
    | succ f =>
      have H := H0.out
      rw [srI, ← HXY.out.1] at H
      by_cases c : y ≤ len
      · rw [if_pos c] at H
        obtain ⟨c1, c2⟩ := le_dec c
        obtain ⟨z, hz⟩ : ∃ z, z = y + 20 := ⟨_, rfl⟩
        obtain ⟨w1, w2_⟩ := wr_20 hz (by have := HLE.out; omega)
        have HZ := Aside0.mk (And.intro hz c)
        have HN := Aside0.mk H
        have HL1 := Aside0.mk (show (insO x (y - (x + 1)) (x + 1) xs).length = len by rw [insO_len]; exact HL.out)
        have HXL := Aside0.mk (show x ≤ y by have := HXY.out; omega)
        clear H H0 hz c
        go_wp2_with (go_at_call 65; (with_reducible refine (insSort.calls pb cap len x y HXL.out HZ.out.2 HLE.out xs _ _ HL.out ?sa HH.out).mono ?_); (case sa => first | exact HC.out | exact blk_drewN HC.out _); rintro e_ w6 ⟨rfl, hp, cur6, hc6, hh6⟩; have HC9 := Aside0.mk hc6; have HH9 := Aside0.mk hh6; have HP9 := Aside0.mk (HBP.out.trans hp); clear HC HH HBP hp hc6 hh6; have HC := HC9; have HH := HH9; have HBP := HP9; clear HC9 HH9 HP9)
        go_roundg f
        case measure => omega
        case rel => exact ⟨y, z, _, _, rfl, rfl, HZ, HN, HL1, HC, HH, HBP⟩
      · rw [if_neg c] at H
        obtain ⟨rfl, rfl⟩ := Prod.mk.inj (Option.some.inj H)
        obtain ⟨c1, c2⟩ := gt_dec c
        clear c H H0
        go_upto_region 7 with (go_at_call 65; (with_reducible refine (insSort.calls pb cap len x len HXY.out.2 (Nat.le_refl _) HLE.out xs _ _ HL.out ?sa HH.out).mono ?_); (case sa => first | exact HC.out | exact blk_drewN HC.out _); rintro e_ w6 ⟨rfl, hp, cur6, hc6, hh6⟩; have HC9 := Aside0.mk hc6; have HH9 := Aside0.mk hh6; have HP9 := Aside0.mk (HBP.out.trans hp); clear HC HH HBP hp hc6 hh6; have HC := HC9; have HH := HH9; have HBP := HP9; clear HC9 HH9 HP9)
        have HL1 := Aside0.mk (show (insO x (len - (x + 1)) (x + 1) xs).length = len by rw [insO_len]; exact HL.out)
        clear c1 c2 HL
        go_wp2
        go_loopg [6] 100 (fun kq v6 w' => ∃ (bs : Nat) (xs : List S43) (cur' : Array Value), v6 = .int .i64 (bs : Int) ∧ Aside0 (bs ≤ 2000) ∧ Aside0 (srB len kq bs xs = some ys) ∧ Aside0 (xs.length = len) ∧ Aside0 (w'.heap[pb]? = some (.cells cur' 43 (0, 0))) ∧ Aside0 (HoldsD cap cur' xs) ∧ Aside0 (Bp pb w w'))
        case atStart => exact ⟨20, _, cur6, rfl, ⟨by decide⟩, HF, HL1, HC, HH, HBP⟩
        case round =>
          clear HC HH HBP HL1 HF HXY
          obtain ⟨bs, xs, cur1, rfl, HBS, HF, HL, HC, HH, HBP⟩ := hrel
          cases gk with
          | zero => exact absurd HF.out (by simp [srB])
          | succ f =>
            have H := HF.out
            rw [srB] at H
            by_cases c : bs < len
            · rw [if_pos c] at H
              obtain ⟨⟨a1, z1⟩, h1, H⟩ := Option.bind_eq_some_iff.1 H
              obtain ⟨z2, h2, H⟩ := Option.bind_eq_some_iff.1 H
              have H1 := Aside0.mk h1
              have H2 := Aside0.mk h2
              have HN := Aside0.mk H
              obtain ⟨c1, c2⟩ := lt_dec c
              obtain ⟨t, ht⟩ : ∃ t, t = 2 * bs := ⟨_, rfl⟩
              have htl : t ≤ 2000 := by have := HLE.out; omega
              obtain ⟨w1, w2_, w3, w4⟩ := wr_two ht (Nat.le_trans htl (by decide))
              have HT := Aside0.mk (And.intro ht (And.intro htl c))
              clear h1 h2 H HF c ht htl
              go_wp2
              go_loopg [7, 8] 100 (fun kq v7 v8 w' => ∃ (x y : Nat) (xs : List S43) (cur' : Array Value), v7 = .int .i64 (x : Int) ∧ v8 = .int .i64 (y : Int) ∧ Aside0 (y = x + t ∧ x ≤ len) ∧ Aside0 (srM len bs kq x xs = some (a1, z1)) ∧ Aside0 (xs.length = len) ∧ Aside0 (w'.heap[pb]? = some (.cells cur' 43 (0, 0))) ∧ Aside0 (HoldsD cap cur' xs) ∧ Aside0 (Bp pb w w'))
              case atStart => exact ⟨0, t, xs, cur1, rfl, rfl, ⟨(Nat.zero_add _).symm, Nat.zero_le _⟩, H1, HL, HC, HH, HBP⟩
              case round =>
                clear HC HH HBP HL H1
                skip
                obtain ⟨x, y, xs, cur1, rfl, rfl, HXY, H1, HL, HC, HH, HBP⟩ := hrel
                cases gk with
                | zero => exact absurd H1.out (by simp [srM])
                | succ g =>
                  have H := H1.out
                  rw [srM, ← HT.out.1, ← HXY.out.1] at H
                  obtain ⟨m, hm⟩ : ∃ m, m = x + bs := ⟨_, rfl⟩
                  rw [← hm] at H
                  obtain ⟨w5, w6⟩ := wr_add hm (by have := HXY.out; have := HT.out; have := HLE.out; omega)
                  by_cases c : y ≤ len
                  · rw [if_pos c] at H
                    obtain ⟨z3, h3, H⟩ := Option.bind_eq_some_iff.1 H
                    have H3 := Aside0.mk h3
                    have HN1 := Aside0.mk H
                    obtain ⟨c3, c4⟩ := le_dec c
                    obtain ⟨z, hz⟩ : ∃ z, z = y + t := ⟨_, rfl⟩
                    obtain ⟨w7, w8⟩ := wr_add hz (by have := HXY.out; have := HT.out; have := HLE.out; omega)
                    have HZ := Aside0.mk (And.intro hz c)
                    have HL1 := Aside0.mk (show z3.length = len by rw [symF_len _ _ _ _ _ _ _ h3]; exact HL.out)
                    clear H H1 h3 c hz hm
                    go_wp2_with (go_at_call 66; (with_reducible refine (sym.calls pb cap len HLE.out 100 x m y xs z3 H3.out _ _ HL.out ?sa HH.out).mono ?_); (case sa => first | exact HC.out | exact blk_drewN HC.out _); rintro e_ w6 ⟨rfl, hp, cur6, hc6, hh6⟩; have HC9 := Aside0.mk hc6; have HH9 := Aside0.mk hh6; have HP9 := Aside0.mk (HBP.out.trans hp); clear HC HH HBP hp hc6 hh6; have HC := HC9; have HH := HH9; have HBP := HP9; clear HC9 HH9 HP9)
                    go_roundg g
                    case measure => omega
                    case rel => exact ⟨y, z, _, _, rfl, rfl, HZ, HN1, HL1, HC, HH, HBP⟩
                  · rw [if_neg c] at H
                    obtain ⟨rfl, rfl⟩ := Prod.mk.inj (Option.some.inj H)
                    obtain ⟨c3, c4⟩ := gt_dec c
                    have h2 := H2.out
                    rw [← hm] at h2
                    clear H H1 c hm H2
                    by_cases c5 : m < len
                    · rw [if_pos c5] at h2
                      have H3 := Aside0.mk h2
                      obtain ⟨c6, c7⟩ := lt_dec c5
                      have HL1 := Aside0.mk (show z2.length = len by rw [symF_len _ _ _ _ _ _ _ h2]; exact HL.out)
                      have HBT := Aside0.mk (show bs * 2 ≤ 2000 by have := HT.out; omega)
                      have HBE := Aside0.mk (show (t : Int) = ((bs * 2 : Nat) : Int) by have := HT.out; omega)
                      clear h2 c5
                      go_wp2_with (go_at_call 66; (with_reducible refine (sym.calls pb cap len HLE.out 100 x m len xs z2 H3.out _ _ HL.out ?sa HH.out).mono ?_); (case sa => first | exact HC.out | exact blk_drewN HC.out _); rintro e_ w6 ⟨rfl, hp, cur6, hc6, hh6⟩; have HC9 := Aside0.mk hc6; have HH9 := Aside0.mk hh6; have HP9 := Aside0.mk (HBP.out.trans hp); clear HC HH HBP hp hc6 hh6; have HC := HC9; have HH := HH9; have HBP := HP9; clear HC9 HH9 HP9)
                      go_roundg f
                      case measure => omega
                      case rel => exact ⟨bs * 2, _, _, by first | rfl | (rw [HBE.out]), HBT, HN, HL1, HC, HH, HBP⟩
                    · rw [if_neg c5] at h2
                      obtain rfl : z2 = xs := (Option.some.inj h2).symm
                      obtain ⟨c6, c7⟩ := ge_dec c5
                      have HBT := Aside0.mk (show bs * 2 ≤ 2000 by have := HT.out; omega)
                      have HBE := Aside0.mk (show (t : Int) = ((bs * 2 : Nat) : Int) by have := HT.out; omega)
                      clear h2 c5
                      go_wp2
                      go_roundg f
                      case measure => omega
                      case rel => exact ⟨bs * 2, _, _, by first | rfl | (rw [HBE.out]), HBT, HN, HL, HC, HH, HBP⟩
            · rw [if_neg c] at H
              obtain rfl : ys = xs := (Option.some.inj H).symm
              obtain ⟨c1, c2⟩ := ge_dec c
              clear c H HF
              go_wp2
              go_end0
              exact ⟨rfl, HBP.out, _, HC.out, HH.out⟩
end Go.Proofs.Ytacmfgbeaoalfaa.QFnDartsFinish
