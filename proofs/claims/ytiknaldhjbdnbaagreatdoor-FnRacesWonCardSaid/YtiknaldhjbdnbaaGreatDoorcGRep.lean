/- strings.byteReplacer's Replace over the table of GBuild. -/
import Derived.Test.YtiknaldhjbdnbaaGreatDoorcGSlow
import Derived.Laws.IdiomStrings
import Derived.Lib.SliceRun
namespace Go.Proofs.YtiknaldhjbdnbaaGreatDoor.PFnExactTurnPlay
open Go.RowKit Go.Proofs.YtiknaldhjbdnbaaGreatDoorW.PrintWords Go.Proofs.YtiknaldhjbdnbaaGreatDoorW.PrintLast Go.Proofs.YtiknaldhjbdnbaaGreatDoorW.PrintMore
set_option linter.unusedVariables false
set_option linter.unusedSimpArgs false
def bt (s : ByteArray) (k : Nat) : Int := ((s.data[k]?.getD 0).toNat : Int)
theorem bt_range (s : ByteArray) (k : Nat) : 0 ≤ bt s k ∧ bt s k < 256 := by
  unfold bt
  have := (s.data[k]?.getD 0).toNat_lt
  omega
theorem bt_at (s : ByteArray) (k : Nat) (h : k < s.size) : ((s[k]'h).toNat : Int) = bt s k := by
  unfold bt
  have h' : k < s.data.size := h
  rw [Array.getElem?_eq_getElem h']
  rfl
def Buf (w wr : World) (s : ByteArray) (i : Int) (gb : Nat) : Prop :=
  w.heap.size ≤ gb ∧ Below w.heap.size w wr ∧ ∀ k : Nat, k < s.size → wr.cell? ⟨gb, k, none⟩ = some (.int .u8 (if (k : Int) < i then tr (bt s k) else bt s k)) ∧ wr.frozen? ⟨gb, k, none⟩ = false
theorem buf_new (w : World) (s : ByteArray) (cap : Nat) : Buf w (w.drew.alloc (.cells (bytesRow s cap) 5 ((bytesRow s cap).size, (bytesRow s cap).size + 1))) s 0 w.heap.size := by
  refine ⟨Nat.le_refl _, below_alloc (below_drew1 (Below.refl _ w)) _, fun k hk => ⟨?_, ?_⟩⟩
  · have h := World.cell?_alloc_mark w.drew (bytesRow s cap) 5 ((bytesRow s cap).size, (bytesRow s cap).size + 1) k
    refine h.trans ?_
    have hk' : k < s.data.size := hk
    rw [bytesRow_at s cap k hk', if_neg (by omega)]
    unfold bt
    rw [Array.getElem?_eq_getElem hk']
    rfl
  · have h := World.frozen?_alloc_mark w.drew (bytesRow s cap) 5 (bytesRow s cap).size ((bytesRow s cap).size + 1) k
    refine h.trans ?_
    have hk' : k < s.data.size := hk
    have : k < (bytesRow s cap).size := by
      have hb := bytesRow_at s cap k hk'
      exact (Array.getElem?_eq_some_iff.1 hb).1
    simp
    omega
theorem buf_more {w wr : World} {s : ByteArray} {gb : Nat} {i : Int} (h : Buf w wr s 0 gb) (hv : ∀ k : Nat, (k : Int) < i → tr (bt s k) = bt s k) : Buf w wr s i gb := by
  refine ⟨h.1, h.2.1, fun k hk => ⟨?_, (h.2.2 k hk).2⟩⟩
  rw [(h.2.2 k hk).1, if_neg (by omega)]
  by_cases e : (k : Int) < i
  · rw [if_pos e, hv k e]
  · rw [if_neg e]
theorem buf_keep {w wr : World} {s : ByteArray} {gb : Nat} {i : Int} (h : Buf w wr s i gb) (h0 : 0 ≤ i) (hv : tr (bt s i.toNat) = bt s i.toNat) : Buf w wr s (i + 1) gb := by
  refine ⟨h.1, h.2.1, fun k hk => ⟨?_, (h.2.2 k hk).2⟩⟩
  rw [(h.2.2 k hk).1]
  by_cases e : (k : Int) < i
  · rw [if_pos e, if_pos (by omega)]
  · rw [if_neg e]
    by_cases e' : k = i.toNat
    · subst e'
      rw [if_pos (by omega), hv]
    · rw [if_neg (by omega)]
theorem buf_step {w wr : World} {s : ByteArray} {gb : Nat} {i : Int} (h : Buf w wr s i gb) (h0 : 0 ≤ i) (hi : i < s.size) : Buf w (wr.setCell ⟨gb, i.toNat, none⟩ (.int .u8 (tr (bt s i.toNat)))) s (i + 1) gb := by
  refine ⟨h.1, h.2.1.setCell (p := ⟨gb, i.toNat, none⟩) h.1 _, fun k hk => ⟨?_, ?_⟩⟩
  · by_cases e' : k = i.toNat
    · subst e'
      rw [if_pos (by omega)]
      exact World.cell?_setCell_same _ _ _ (h.2.2 _ hk).1
    · refine (World.cell?_setCell_other _ ⟨gb, i.toNat, none⟩ ⟨gb, k, none⟩ _ (fun e => e' (congrArg Addr.off e).symm)).trans ?_
      rw [(h.2.2 k hk).1]
      by_cases e : (k : Int) < i
      · rw [if_pos e, if_pos (by omega)]
      · rw [if_neg e, if_neg (by omega)]
  · have := (h.2.2 k hk).2
    simpa using this
def trB (x : UInt8) : UInt8 := if x = 97 then 98 else if x = 98 then 97 else x
def trS (s : ByteArray) : ByteArray := ⟨(s.data.toList.map trB).toArray⟩
theorem trB_nat (x : UInt8) : ((trB x).toNat : Int) = tr (x.toNat : Int) := by
  by_cases h : x = 97
  · subst h; rfl
  · by_cases h' : x = 98
    · subst h'; rfl
    · have n1 : ¬ ((x.toNat : Int) = 97) := fun e => h (UInt8.toNat_inj.1 (by show x.toNat = 97; omega))
      have n2 : ¬ ((x.toNat : Int) = 98) := fun e => h' (UInt8.toNat_inj.1 (by show x.toNat = 98; omega))
      unfold trB tr
      rw [if_neg h, if_neg h', if_neg n1, if_neg n2]
theorem trS_same {s : ByteArray} (h : ∀ k : Nat, (k : Int) < s.size → tr (bt s k) = bt s k) : trS s = s := by
  have hl : s.data.toList.map trB = s.data.toList := by
    apply List.ext_getElem (by simp)
    intro k h1 h2
    rw [List.getElem_map]
    have hk : k < s.data.size := by simpa using h2
    have hb : bt s k = (s.data[k].toNat : Int) := by unfold bt; rw [Array.getElem?_eq_getElem hk]; rfl
    have := h k (by have : s.size = s.data.size := rfl; omega)
    rw [hb, ← trB_nat] at this
    rw [Array.getElem_toList]
    exact UInt8.toNat_inj.1 (by omega)
  unfold trS
  rw [hl]
theorem buf_cells {w wr : World} {s : ByteArray} {gb : Nat} (h : Buf w wr s s.size gb) (j : Nat) (hj : j < (s.data.toList.map trB).length) : wr.cell? ((⟨gb, 0, none⟩ : Addr).add j) = some (.int .u8 ((s.data.toList.map trB)[j].toNat : Int)) := by
  have hk : j < s.data.size := by simpa using hj
  have h1 := (h.2.2 j hk).1
  rw [if_pos (by have : s.size = s.data.size := rfl; omega)] at h1
  have hb : bt s j = (s.data[j].toNat : Int) := by unfold bt; rw [Array.getElem?_eq_getElem hk]; rfl
  rw [hb, ← trB_nat] at h1
  rw [List.getElem_map, Array.getElem_toList, ← h1, show (⟨gb, 0, none⟩ : Addr).add j = ⟨gb, j, none⟩ by simp [Addr.add]; exact fun e => e.symm]
set_option maxHeartbeats 4000000 in
set_option maxRecDepth 100000 in
theorem replaceTab.calls (w : World) (g : Nat) (s : ByteArray) (hn : (s.size : Int) < 9223372036854775807) (hT : IsTab w g) :
    Calls Tryz.prog 150 #[.pointer (some ⟨g, 0, none⟩), .string s] w fun e w' => e = .returned (.string (trS s)) ∧ Below w.heap.size w w' := by
  have HT := Aside0.mk hT
  have HN := Aside0.mk hn
  clear hT hn
  have qn := fun (w : World) (a : Option Addr) (n c : Nat) => Lib.run_eql_slice_nil (P := Tryz.prog) w 22 5 a n c 0 0 Tryz.underlying22
  go_enter Tryz.func150, Tryz.ntmps150
  go_wp2
  go_loopg [5, 6] s.size (fun kq v5 v6 w' => ∃ i : Int, v6 = .int .i64 i ∧ Aside0 (0 ≤ i ∧ i + kq = s.size) ∧ ((v5 = .slice none 0 0 ∧ w = w' ∧ Aside0 (∀ k : Nat, (k : Int) < i → tr (bt s k) = bt s k)) ∨ (∃ gb cp, v5 = .slice (some ⟨gb, 0, none⟩) s.size cp ∧ Aside0 (Buf w w' s i gb))))
  case atStart => exact ⟨0, rfl, ⟨by omega⟩, .inl ⟨rfl, rfl, ⟨fun k hk => by omega⟩⟩⟩
  case round =>
    obtain ⟨i, rfl, HI, ⟨rfl, rfl, HV⟩ | ⟨gb, cp, rfl, HV⟩⟩ := hrel
    · by_cases hc : i < (s.size : Int)
      · have hcd : decide (i < (s.size : Int)) = true := decide_eq_true hc
        have h0 : 0 ≤ i := HI.out.1
        have hw : IntKind.i64.wrap (i + 1) = i + 1 := by rw [i64_w, w64_of (by omega) (by have := HN.out; omega)]
        obtain ⟨X, hX⟩ : ∃ X, X = bt s i.toNat := ⟨_, rfl⟩
        have e5 : ∀ h, ((s[i.toNat]'h).toNat : Int) = X := fun h => by rw [hX]; exact bt_at s _ h
        have hr := bt_range s i.toNat
        rw [← hX] at hr
        obtain ⟨hX0, hX1⟩ := hr
        obtain ⟨Y, hY⟩ : ∃ Y, Y = tr X := ⟨_, rfl⟩
        have cT : w.cell? ⟨g, X.toNat, none⟩ = some (.int .u8 Y) := by
          obtain ⟨cs, hg, _, hv⟩ := HT.out
          rw [blk_cell hg, hv _ (by omega), hY, show ((X.toNat : Nat) : Int) = X by omega]
        have HX := Aside0.mk hX
        have HY := Aside0.mk hY
        clear hX hY
        by_cases hxy : Y = X
        · subst hxy
          go_wp2
          go_roundg (gk - 1)
          case measure => have := HI.out; omega
          case rel => exact ⟨i + 1, rfl, ⟨by have := HI.out; omega⟩, .inl ⟨rfl, rfl, ⟨fun k hk => by
            by_cases e : (k : Int) < i
            · exact HV.out k e
            · rw [show k = i.toNat by omega, ← HX.out, ← HY.out]⟩⟩⟩
        · have hxb : (Y != X) = true := by simp [hxy]
          have hconv := run_bytes_of_string (P := Tryz.prog) w 9 22 5 s Tryz.underlying9 Tryz.underlying22 Tryz.underlying5
          have hB0 := buf_new w s (grownCap w s.size 0 5)
          generalize (w.drew.alloc (.cells (bytesRow s (grownCap w s.size 0 5)) 5 ((bytesRow s (grownCap w s.size 0 5)).size, (bytesRow s (grownCap w s.size 0 5)).size + 1))) = w1 at hconv hB0
          generalize grownCap w s.size 0 5 = cp at hconv
          have hB1 := buf_more hB0 HV.out
          have c1 := (hB1.2.2 i.toNat (by omega)).1
          have f1 := (hB1.2.2 i.toNat (by omega)).2
          have cT1 := pw_cell_below hB1.2.1 cT
          have hB2 := buf_step hB1 h0 hc
          rw [← HX.out, ← HY.out] at hB2
          have HB2 := Aside0.mk hB2
          clear hB0 hB1 hB2
          go_wp2
          go_roundg (gk - 1)
          case measure => have := HI.out; omega
          case rel => exact ⟨i + 1, rfl, ⟨by have := HI.out; omega⟩, .inr ⟨_, cp, rfl, HB2⟩⟩
      · have hcd : decide (i < (s.size : Int)) = false := decide_eq_false hc
        have hsame : trS s = s := trS_same (fun k hk => HV.out k (by omega))
        go_wp2
        go_ret
        exact ⟨rfl, Below.refl _ w⟩
    · by_cases hc : i < (s.size : Int)
      · have hcd : decide (i < (s.size : Int)) = true := decide_eq_true hc
        have h0 : 0 ≤ i := HI.out.1
        have hw : IntKind.i64.wrap (i + 1) = i + 1 := by rw [i64_w, w64_of (by omega) (by have := HN.out; omega)]
        obtain ⟨X, hX⟩ : ∃ X, X = bt s i.toNat := ⟨_, rfl⟩
        have e5 : ∀ h, ((s[i.toNat]'h).toNat : Int) = X := fun h => by rw [hX]; exact bt_at s _ h
        have hr := bt_range s i.toNat
        rw [← hX] at hr
        obtain ⟨hX0, hX1⟩ := hr
        obtain ⟨Y, hY⟩ : ∃ Y, Y = tr X := ⟨_, rfl⟩
        have cT : wr.cell? ⟨g, X.toNat, none⟩ = some (.int .u8 Y) := by
          obtain ⟨cs, hg, _, hv⟩ := HT.out
          refine pw_cell_below HV.out.2.1 ?_
          rw [blk_cell hg, hv _ (by omega), hY, show ((X.toNat : Nat) : Int) = X by omega]
        have HX := Aside0.mk hX
        have HY := Aside0.mk hY
        clear hX hY
        by_cases hxy : Y = X
        · have hk := buf_keep HV.out h0 (by rw [← HX.out, ← HY.out]; exact hxy)
          have HK := Aside0.mk hk
          clear hk
          subst hxy
          go_wp2
          go_roundg (gk - 1)
          case measure => have := HI.out; omega
          case rel => exact ⟨i + 1, rfl, ⟨by have := HI.out; omega⟩, .inr ⟨_, cp, rfl, HK⟩⟩
        · have hxb : (Y != X) = true := by simp [hxy]
          have c1 := (HV.out.2.2 i.toNat (by omega)).1
          have f1 := (HV.out.2.2 i.toNat (by omega)).2
          have hB2 := buf_step HV.out h0 hc
          rw [← HX.out, ← HY.out] at hB2
          have HB2 := Aside0.mk hB2
          clear hB2
          go_wp2
          go_roundg (gk - 1)
          case measure => have := HI.out; omega
          case rel => exact ⟨i + 1, rfl, ⟨by have := HI.out; omega⟩, .inr ⟨_, cp, rfl, HB2⟩⟩
      · have hcd : decide (i < (s.size : Int)) = false := decide_eq_false hc
        have hie : i = s.size := by have := HI.out; omega
        subst hie
        have hb := run_convert_bytes_back (P := Tryz.prog) wr 22 9 5 ⟨gb, 0, none⟩ cp (s.data.toList.map trB) Tryz.underlying22 Tryz.underlying5 Tryz.underlying9 (buf_cells HV.out)
        rw [show (s.data.toList.map trB).length = s.size by simp] at hb
        go_wp2
        go_ret
        exact ⟨rfl, HV.out.2.1⟩
end Go.Proofs.YtiknaldhjbdnbaaGreatDoor.PFnExactTurnPlay
