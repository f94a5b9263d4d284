/- laws.markIntSS, walked: rows of a row, none of which leads to another's block, are written in place. -/
import Derived.Test.YtpaffojjkkmnlaaPFnExactRoundsForx3
namespace Go.Proofs.Ytpaffojjkkmnlaa.PFnExactRoundsFor
open Go.RowKit Go.Proofs.YtpaffojjkkmnlaaW.PrintWords Go.Proofs.YtpaffojjkkmnlaaW.PrintLast Go.Proofs.YtpaffojjkkmnlaaW.PrintMore
set_option linter.unusedVariables false
set_option linter.unusedSimpArgs false

def laws_markIntSS.l0 : Nat → List (List Int) → Int → Int → Option (Int × List (List Int))
  | 0, _, _, _ => none
  | k + 1, x0, x1, x5 => if x5 < (x0.length : Int) then (if 0 ≤ x5 then ((laws_markIntS.f k (rd_L1 x0 x5) x1).bind fun bt => laws_markIntSS.l0 k (x0.set (x5 : Int).toNat bt.2) bt.1 (wrap64 (x5 + 1))) else none) else (some (x1, x0))
def laws_markIntSS.f (k : Nat) (l0 : List (List Int)) (a1 : Int) : Option (Int × List (List Int)) := laws_markIntSS.l0 k l0 a1 0
set_option maxHeartbeats 8000000 in
set_option maxRecDepth 100000 in
theorem laws_markIntSS.calls (k : Nat) (P0_ : Nat → Prop) (u9000_ : Value) (l0 : List (List Int)) (a1 : Int) (r1 : Int) (r2 : List (List Int)) (w0 w : World) (hB : Below w0.heap.size w0 w) (ho0 : Kd.S (Kd.slice 3 (Kd.int .i64)) 29 w w0.heap.size P0_ u9000_ l0) (h : laws_markIntSS.f k l0 a1 = some (r1, r2)) :
    Calls Try.prog 12 #[u9000_, .int .i64 a1] w fun e w' => e = .returned (.int .i64 r1) ∧ Kd.S (Kd.slice 3 (Kd.int .i64)) 29 w' w0.heap.size P0_ u9000_ r2 ∧ Below w0.heap.size w0 w' ∧ Kept w w' P0_ := by
  have HO0 := Aside0.mk ho0
  have HK := Aside0.mk (Kept.refl w P0_)
  have HB := Aside0.mk hB
  clear hB ho0
  have H : (laws_markIntSS.l0 k l0 a1 0) = some (r1, r2) := h
  clear h
  have H' := Aside0.mk H
  clear H
  go_enter Try.func12, Try.ntmps12
  go_wp2
  go_loopg [1, 5] k (fun kq v1 v5 w' => ∃ (x0_1 : List (List Int)) (x1_1 : Int) (x5_1 : Int), v1 = .int .i64 x1_1 ∧ v5 = .int .i64 x5_1 ∧ Aside0 (laws_markIntSS.l0 kq x0_1 x1_1 x5_1 = some (r1, r2)) ∧ Aside0 (kq ≤ k) ∧ Aside0 (Kd.S (Kd.slice 3 (Kd.int .i64)) 29 w' w0.heap.size P0_ u9000_ x0_1) ∧ Aside0 (Kept w w' P0_) ∧ Aside0 (Below w0.heap.size w0 w'))
  case atStart => exact ⟨(l0), (a1), (0), (by first | rfl | (simp; done) | (simp [*]; done)), (by first | rfl | (simp; done) | (simp [*]; done)), H', ⟨Nat.le_refl _⟩, ⟨by (with_reducible repeat (first | apply Kd.S_alloc | apply Kd.S_drewN | apply Kd.S_drew)); exact HO0.out⟩, ⟨by repeat (first | (with_reducible first | exact HK.out | apply Kept.alloc | apply Kept.drewN | apply Kept.drew) | exact HK.out)⟩, ⟨by repeat (first | (with_reducible first | exact HB.out | apply below_alloc | apply pw_below_drewN | apply below_drew1) | exact HB.out)⟩⟩
  case round =>
    clear H'
    try clear p2
    obtain ⟨x0_1, x1_1, x5_1, rfl, rfl, HA, HK1, HO_0, HK, HB⟩ := hrel
    cases gk with
    | zero => exact absurd HA.out (by simp [laws_markIntSS.l0])
    | succ k1 =>
      have H := HA.out
      clear HA
      simp only [laws_markIntSS.l0] at H
      by_cases c3 : x5_1 < (x0_1.length : Int)
      · rw [if_pos c3] at H
        have c3b0 : decide (x5_1 < (x0_1.length : Int)) = true := decide_eq_true c3
        clear c3
        by_cases c4 : 0 ≤ x5_1
        · rw [if_pos c4] at H
          have c4b0 : decide (0 ≤ x5_1) = true := decide_eq_true c4
          clear c4
          replace H := Option.bind_eq_some_iff.mp H
          obtain ⟨⟨t1, t2⟩, A50, H⟩ := H
          have A5 := Aside0.mk A50
          clear A50
          have H' := Aside0.mk (show laws_markIntSS.l0 k1 (x0_1.set (x5_1 : Int).toNat t2) t1 (wrap64 (x5_1 + 1)) = some (r1, r2) from H)
          clear H
          obtain ⟨Ao6, co6, eo6⟩ := Kd.S_slice HO_0.out
          subst eo6
          have p5 : 0 ≤ (x5_1 : Int) := of_decide_eq_true (by first | (with_reducible assumption) | assumption)
          have q5 : (x5_1 : Int) < ((x0_1.length : Int) : Int) := of_decide_eq_true (by first | (with_reducible assumption) | assumption)
          obtain ⟨go5, co5, eo5, gb5, gl5, cl5, HG5⟩ := Kd.S_form HO_0.out (by omega)
          (first | cases eo5 | (injection eo5 with ea_ en_ ec_; (first | subst ea_ | (injection ea_ with ea_; subst ea_)); subst ec_; clear en_))
          obtain ⟨oki, cs_, _, hM_, hcc, hoki, hH_⟩ := Kd.S_lend HO_0.out ([] : List Int) x5_1 p5 q5
          obtain ⟨ve, rfl, hRe_⟩ := hM_
          have hx5 : wr.cell? ⟨go5, (x5_1 : Int).toNat, none⟩ = some ve := by
            have := hcc 0 ve rfl
            have e1 : (Kd.slice 3 (Kd.int .i64)).sz = 1 := rfl
            simpa [e1] using this
          have HL := Aside0.mk hH_
          have HE := Aside0.mk hRe_
          have HI := Aside0.mk hoki
          clear hcc hoki hH_ hRe_ gb5 gl5 HG5 HO_0
          replace p5 := eq_true p5
          replace q5 := eq_true q5
          go_wp2_with fail
          refine (laws_markIntS.calls k1 oki ve (rd_L1 x0_1 x5_1) x1_1 t1 t2 w0 wr HB.out HE.out A5.out).mono ?_
          rintro e w9 ⟨rfl, hR9, hB9, hK9⟩
          have n0_ := Aside0.mk (Kd.H_back (Kd.H_step HL.out (fun k_ _ hn_ hlt_ => hK9.2 k_ hlt_ hn_)) (x' := t2) (okp := oki) ⟨ve, rfl, Kd.R_mono (Kd.R_tight rfl hR9) (fun k_ hk_ => HE.out.1 k_ hk_.symm)⟩ (fun _ h_ => h_))
          have n1_ := Aside0.mk hB9
          have n2_ := Aside0.mk (Kept.then_ HK.out hK9 (fun k_ h_ => .inl (HI.out k_ h_).1))
          clear HB HK HL HE HI hK9 hB9 hR9
          have HO_0 := n0_
          have HB := n1_
          have HK := n2_
          clear n0_ n1_ n2_
          go_wp2
          go_roundg k1
          case measure => have := HK1.out; omega
          case rel => exact ⟨(x0_1.set (x5_1 : Int).toNat t2), t1, (wrap64 (x5_1 + 1)), (by first | rfl | (simp; done) | (simp [*]; done)), (by first | rfl | (simp; done) | (simp [*]; done)), H', ⟨by have := HK1.out; omega⟩, ⟨by (with_reducible repeat (first | apply Kd.S_alloc | apply Kd.S_drewN | apply Kd.S_drew)); exact HO_0.out⟩, ⟨by repeat (first | (with_reducible first | exact HK.out | apply Kept.alloc | apply Kept.drewN | apply Kept.drew) | exact HK.out)⟩, ⟨by repeat (first | (with_reducible first | exact HB.out | apply below_alloc | apply pw_below_drewN | apply below_drew1) | exact HB.out)⟩⟩
        · rw [if_neg c4] at H
          exact absurd H (by simp)
      · rw [if_neg c3] at H
        have c3b0 : decide (x5_1 < (x0_1.length : Int)) = false := decide_eq_false c3
        clear c3
        simp only [Option.some.injEq, Prod.mk.injEq] at H
        obtain ⟨rfl, rfl⟩ := H
        obtain ⟨Ao9, co9, eo9⟩ := Kd.S_slice HO_0.out
        subst eo9
        go_wp2
        go_ret
        exact ⟨by first | rfl | (simp [errW_none, errW_some] <;> rfl) | (simp [*, errW_none, errW_some] <;> rfl), by (with_reducible repeat (first | apply Kd.S_alloc | apply Kd.S_drewN | apply Kd.S_drew)); exact HO_0.out, by repeat (first | (with_reducible first | exact HB.out | apply below_alloc | apply pw_below_drewN | apply below_drew1) | exact HB.out), by repeat (first | (with_reducible first | exact HK.out | apply Kept.alloc | apply Kept.drewN | apply Kept.drew) | exact HK.out)⟩
theorem laws_markIntSS.mono_l : ∀ k, (∀ y0 y1 y2, LeO (laws_markIntSS.l0 k y0 y1 y2) (laws_markIntSS.l0 (k + 1) y0 y1 y2))
  | 0 => fun _ _ _ r h => by simp [laws_markIntSS.l0] at h
  | k + 1 => by
    have ih0 := laws_markIntSS.mono_l k
    · intro y0 y1 y2
      unfold laws_markIntSS.l0
      repeat' first
      | (with_reducible exact ih0 _ _ _)
      | (with_reducible exact laws_markIntS.mono _ _ _)
      | (with_reducible exact LeO.refl _)
      | (with_reducible exact LeO.none _)
      | (with_reducible refine LeO.ite ?_ ?_)
      | (with_reducible refine LeO.bind ?_ (fun _ => ?_))
      | exact ih0 _ _ _
      | exact laws_markIntS.mono _ _ _
      | exact LeO.none _
theorem laws_markIntSS.mono : ∀ a0 a1 k, LeO (laws_markIntSS.f k a0 a1) (laws_markIntSS.f (k + 1) a0 a1) := fun a0 a1 k => laws_markIntSS.mono_l k a0 a1 0
/-! what the printer takes for two calls: the number, and the rows -/
def markN.f (k : Nat) (l0 : List (List Int)) (a1 : Int) : Option Int := (laws_markIntSS.f k l0 a1).bind fun p => some p.1
def markRow.f (k : Nat) (l0 : List (List Int)) (a1 : Int) : Option (List (List Int)) := (laws_markIntSS.f k l0 a1).bind fun p => some p.2
theorem markN.mono : ∀ a0 a1 k, LeO (markN.f k a0 a1) (markN.f (k + 1) a0 a1) := fun a0 a1 k => LeO.bind (laws_markIntSS.mono a0 a1 k) (fun _ => LeO.refl _)
theorem markRow.mono : ∀ a0 a1 k, LeO (markRow.f k a0 a1) (markRow.f (k + 1) a0 a1) := fun a0 a1 k => LeO.bind (laws_markIntSS.mono a0 a1 k) (fun _ => LeO.refl _)
theorem mark_both {k : Nat} {l r2 : List (List Int)} {a r1 : Int} (h1 : markN.f k l a = some r1) (h2 : markRow.f k l a = some r2) : laws_markIntSS.f k l a = some (r1, r2) := by
  unfold markN.f at h1
  unfold markRow.f at h2
  obtain ⟨p, hp, e1⟩ := Option.bind_eq_some_iff.1 h1
  rw [hp] at h2 ⊢
  have e2 := Option.some.inj h2
  rw [← Option.some.inj e1, ← e2]
theorem split_fresh {α β : Type} {d : Kd α} {d' : Kd β} {e e' : Nat} {W w1 : World} {base : Nat} {ok ok' : Nat → Prop} {u v : Value} {xs : List α} {ys : List β} (h4 : Kd.S d e W base ok u xs) (h7 : Kd.S d' e' w1 W.heap.size ok' v ys) (hb : Below W.heap.size W w1) (hbase : base ≤ W.heap.size) :
    ∃ NB, Kd.S d e w1 base (fun k_ => k_ < NB) u xs ∧ Kd.S d' e' w1 base (fun k_ => NB ≤ k_) v ys :=
  ⟨W.heap.size, Kd.S_mono (Kd.S_old h4 hb) (fun _ hk => hk.2), Kd.S_lower (Kd.S_mono (Kd.S_bound h7) (fun _ hk => hk.2.1)) hbase⟩
theorem typ_no {w : World} {k t : Nat} {E : List Nat} {A B C : Prop} (h1 : ∃ cells, w.heap[k]? = some (.cells cells t (0, 0))) (ht : ∀ q, q ∈ E → q ≠ t) : ¬ (A ∧ B ∧ C ∧ ∃ q, q ∈ E ∧ ∃ cells, w.heap[k]? = some (.cells cells q (0, 0))) := by
  rintro ⟨_, _, _, q, hq, cells', hc⟩
  obtain ⟨cells, hb⟩ := h1
  rw [hc] at hb
  injection hb with hb
  injection hb with _ hb
  exact ht q hq hb
end Go.Proofs.Ytpaffojjkkmnlaa.PFnExactRoundsFor
