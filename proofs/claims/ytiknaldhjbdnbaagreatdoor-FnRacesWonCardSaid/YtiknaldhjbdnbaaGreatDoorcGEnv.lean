/- A region that draws its order, walked over what its frame reads as, not over the frame: operations that only reckon are run in one go. Conditions beside each law. -/
import Derived.Test.YtiknaldhjbdnbaaGreatDoorV1
import Derived.Test.YtiknaldhjbdnbaaGreatDoorProg
import Derived.WalkKit
import Derived.KernelRfl
namespace Go.Proofs.YtiknaldhjbdnbaaGreatDoor.Env
open Go.RowKit Go.Proofs.YtiknaldhjbdnbaaGreatDoorW.PrintWords Go.Proofs.YtiknaldhjbdnbaaGreatDoorW.PrintLast
set_option linter.unusedVariables false
set_option linter.unusedSimpArgs false
set_option linter.unusedSectionVars false
def ev (n : Nat) (ρ : Nat → Value) : Operand → Value
  | .tmp t => if t < n then ρ t else undef
  | .const v => v
  | .global g => .pointer (some ⟨g, 0, none⟩)
  | .func f => .func (.func f) #[] #[]
def upd (ρ : Nat → Value) (k : Nat) (v : Value) : Nat → Value := fun i => if i = k then v else ρ i
structure Rd (n lo up : Nat) (β : Nat → Value) (a : Act) (ρ : Nat → Value) : Prop where
  sz : a.tmps.size = n
  df : a.defers = []
  at_ : ∀ i, i < n → a.tmps[i]? = some (ρ i)
  out : ∀ i, i < lo ∨ up < i → ρ i = β i
section
variable {a : Act} {n lo up : Nat} {β ρ : Nat → Value}
theorem Rd.of_list (l : List Value) (lo up : Nat) : Rd l.length lo up (fun i => l.getD i undef) ⟨l.toArray, []⟩ (fun i => l.getD i undef) :=
  ⟨by simp, rfl, fun i hi => by simp [List.getD_eq_getElem?_getD, List.getElem?_eq_getElem hi], fun _ _ => rfl⟩
theorem Rd.ev_ (h : Rd n lo up β a ρ) : a.eval = ev n ρ := by
  funext x
  cases x with
  | tmp t =>
    show a.tmps.getD t undef = if t < n then ρ t else undef
    rw [Array.getD_eq_getD_getElem?]
    by_cases ht : t < n
    · rw [if_pos ht, h.at_ t ht]
      rfl
    · rw [if_neg ht, Array.getElem?_eq_none (by rw [h.sz]; exact Nat.le_of_not_lt ht)]
      rfl
  | _ => rfl
theorem Rd.put (h : Rd n lo up β a ρ) {k : Nat} (hk : lo ≤ k ∧ k ≤ up ∧ k < n) (v : Value) : Rd n lo up β (a.put (some k) v) (upd ρ k v) := by
  refine ⟨by simp [Act.put, h.sz], h.df, fun i hi => ?_, fun i hi => ?_⟩
  · show (a.tmps.setIfInBounds k v)[i]? = _
    unfold upd
    by_cases e : i = k
    · subst e
      rw [if_pos rfl, Array.getElem?_setIfInBounds_self_of_lt (by rw [h.sz]; exact hk.2.2)]
    · rw [if_neg e, Array.getElem?_setIfInBounds_ne (fun h => e h.symm), h.at_ i hi]
  · unfold upd
    rw [if_neg (by omega)]
    exact h.out i hi
theorem Rd.frame (h : Rd n lo up β a ρ) : a = ⟨((List.range n).map (fun i => if i < lo then β i else if i ≤ up then ρ i else β i)).toArray, []⟩ := by
  obtain ⟨t, d⟩ := a
  obtain ⟨h1, h2, h3, h4⟩ := h
  simp only at h1 h2 h3
  subst h2
  congr 1
  apply Array.ext_getElem?
  intro i
  by_cases hi : i < n
  · rw [h3 i hi]
    have : (if i < lo then β i else if i ≤ up then ρ i else β i) = ρ i := by
      by_cases c1 : i < lo
      · rw [if_pos c1, h4 i (.inl c1)]
      · rw [if_neg c1]
        by_cases c2 : i ≤ up
        · rw [if_pos c2]
        · rw [if_neg c2, h4 i (.inr (by omega))]
    simp [hi, this]
  · rw [Array.getElem?_eq_none (by omega), Array.getElem?_eq_none (by simp; omega)]
def opsOf (k : Nat) : Code → Option (Array Oper)
  | .region id ops _ => if id = k then some ops else none
  | .seq x y => match opsOf k x with
    | some o => some o
    | none => opsOf k y
  | .cond _ x y => match opsOf k x with
    | some o => some o
    | none => opsOf k y
  | .block _ x => opsOf k x
  | .loop x => opsOf k x
  | .scope x => opsOf k x
  | _ => none
def yl (ops : Array Oper) (n : Nat) (ρ : Nat → Value) (j : Nat) : Option Bool :=
  match (ops[j]?).bind (·.dst) with
  | some t => if t < n then (match ρ t with | .bool b => some b | _ => none) else none
  | none => none
theorem Rd.yl_ (h : Rd n lo up β a ρ) (ops : Array Oper) : yielded ops a.tmps = yl ops n ρ := by
  funext j
  unfold yielded yl
  cases (ops[j]?).bind (·.dst) with
  | none => rfl
  | some t =>
    by_cases ht : t < n
    · simp only [Option.bind_some, ht, if_true]
      rw [h.at_ t ht]
      cases ρ t with
      | bool b => rfl
      | _ => rfl
    · simp only [Option.bind_some, ht, if_false]
      rw [Array.getElem?_eq_none (by rw [h.sz]; exact Nat.le_of_not_lt ht)]
end
def pv (e : Operand → Value) (o : Oper) : Option Value :=
  match o.op with
  | .move x => some (e x)
  | .assign x => some (e x)
  | .pick c x y => match e c with
    | .bool b => some (if b then e x else e y)
    | _ => none
  | .unOp .not 4 x => match e x with
    | .bool b => some (.bool !b)
    | _ => none
  | .binOp .neq 4 x y 4 => match e x, e y with
    | .bool p, .bool q => some (.bool (p != q))
    | _, _ => none
  | _ => none
def Bn (P : Program) : Prop := ∀ (e : Operand → Value) (dst : Option Tmp) (x y : Operand) (ty : TypeId) (pos : String) (after : Array Edge) (guard : Option (Nat × Bool)) (p q : Bool) (w : World), e x = .bool p → e y = .bool q →
  (execOp e { dst := dst, op := .binOp .neq 4 x y 4, type := ty, pos := pos, after := after, guard := guard }).run P w = .ok (.value (.bool (p != q))) w
theorem bn : Bn Tryz.prog := by
  intro e dst x y ty pos after guard p q w hx hy
  go_simp
  cases p <;> cases q <;> rfl
theorem neq_str {e : Operand → Value} {dst : Option Tmp} {x y : Operand} {ty : TypeId} {pos : String} {after : Array Edge} {guard : Option (Nat × Bool)} (W : ByteArray) (hx : e x = .string W) (hy : e y = .string W) (w : World) :
    (execOp e { dst := dst, op := .binOp .neq 9 x y 9, type := ty, pos := pos, after := after, guard := guard }).run Tryz.prog w = .ok (.value (.bool false)) w := by
  go_simp
theorem neq_int {e : Operand → Value} {dst : Option Tmp} {x y : Operand} {ty : TypeId} {pos : String} {after : Array Edge} {guard : Option (Nat × Bool)} (c : Int) (hx : e x = .int .i64 c) (hy : e y = .int .i64 c) (w : World) :
    (execOp e { dst := dst, op := .binOp .neq 3 x y 3, type := ty, pos := pos, after := after, guard := guard }).run Tryz.prog w = .ok (.value (.bool false)) w := by
  go_simp
theorem neq_bool {e : Operand → Value} {dst : Option Tmp} {x y : Operand} {ty : TypeId} {pos : String} {after : Array Edge} {guard : Option (Nat × Bool)} (g : Bool) (hx : e x = .bool g) (hy : e y = .bool g) (w : World) :
    (execOp e { dst := dst, op := .binOp .neq 4 x y 4, type := ty, pos := pos, after := after, guard := guard }).run Tryz.prog w = .ok (.value (.bool false)) w := by
  have := bn e dst x y ty pos after guard g g w hx hy
  rwa [bne_self_eq_false] at this
theorem load_race {e : Operand → Value} {dst : Option Tmp} {x : Operand} {ty : TypeId} {pos : String} {after : Array Edge} {guard : Option (Nat × Bool)} {gr : Nat} {To Lead : Int} (hx : e x = .pointer (some ⟨gr, 0, none⟩)) {w : World} (s0 : w.cell? ⟨gr, 0, none⟩ = some (.int .i64 To)) (s1 : w.cell? ⟨gr, 1, none⟩ = some (.int .i64 Lead)) :
    (execOp e { dst := dst, op := .load 25 x, type := ty, pos := pos, after := after, guard := guard }).run Tryz.prog w = .ok (.value (.agg #[.int .i64 To, .int .i64 Lead])) w := by
  have hu25 := Tryz.underlying25
  go_simp
theorem pv_run {P : Program} (hB : Bn P) {e : Operand → Value} {o : Oper} {v : Value} (h : pv e o = some v) (w : World) : (execOp e o).run P w = .ok (.value v) w := by
  obtain ⟨dst, op, ty, pos, after, guard⟩ := o
  unfold pv at h
  simp only at h
  split at h
  · obtain rfl := Option.some.inj h
    rfl
  · obtain rfl := Option.some.inj h
    rfl
  · rename_i c x y
    split at h
    · rename_i b hb
      obtain rfl := Option.some.inj h
      unfold execOp
      simp only [hb]
      cases b <;> rfl
    · cases h
  · rename_i x
    split at h
    · rename_i b hb
      obtain rfl := Option.some.inj h
      unfold execOp
      simp only [hb]
      rfl
    · cases h
  · rename_i x y
    split at h
    · rename_i p q hp hq
      obtain rfl := Option.some.inj h
      exact hB e dst x y ty pos after guard p q w hp hq
    · cases h
  · cases h
section
variable {P : Program} {ops : Array Oper} {Q : Exit → Act → World → Prop} {md : Region.Mode} {S : World → Prop} {ds : List Nat}
def ordr (md : Region.Mode) (ops : Array Oper) : List Nat → Array Bool → Option (Array Bool)
  | [], l => some l
  | i :: r, l => if anyB md ops l (l.setIfInBounds i true) i = true then ordr md ops r (l.setIfInBounds i true) else none
def vals (ops : Array Oper) (n lo up : Nat) : List Nat → (Nat → Value) → Option (Nat → Value)
  | [], ρ => some ρ
  | i :: r, ρ => match ops[i]? with
    | some o => match o.dst with
      | some N => if lo ≤ N ∧ N ≤ up ∧ N < n then (match Region.wanted o (yl ops n ρ) with
          | true => match pv (ev n ρ) o with
            | some v => vals ops n lo up r (upd ρ N v)
            | none => none
          | false => vals ops n lo up r (upd ρ N undef)) else none
      | none => none
    | none => none
theorem runs_ {n lo up : Nat} {β : Nat → Value} (hB : Bn P) (hQ : ∀ c (a : Act) N v w, Q (.panic c) (a.put N v) w → Q (.panic c) a w) : ∀ (is : List Nat) (fuel : Nat) (l l' : Array Bool) (ρ ρ' : Nat → Value) (a : Act) (w : World),
    Rd n lo up β a ρ → ordr md ops is l = some l' → vals ops n lo up is ρ = some ρ' → (∀ a', Rd n lo up β a' ρ' → wpAnyLast P md ops Q S ds fuel l' a' w) → wpAnyLast P md ops Q S ds (fuel + is.length) l a w := by
  intro is
  induction is with
  | nil =>
    intro fuel l l' ρ ρ' a w hR hl hr h
    obtain rfl := Option.some.inj hr
    obtain rfl := Option.some.inj hl
    exact h a hR
  | cons i r ih =>
    intro fuel l l' ρ ρ' a w hR hl hr h
    simp only [ordr] at hl
    simp only [vals] at hr
    split at hl
    · rename_i hc
      split at hr
      · rename_i o ho
        split at hr
        · rename_i N hN
          split at hr
          · rename_i hlt
            have e : fuel + (i :: r).length = (fuel + r.length) + 1 := by simp; omega
            rw [e]
            split at hr
            · rename_i hw
              split at hr
              · rename_i v hv
                refine pure_ (i := i) (N := some N) (v := v) (a' := a.put (some N) v) _ ho hN hc (fun c a w => hQ c a _ _ w) (Or.inl ⟨?_, fun w' => ?_⟩) rfl ?_
                · rw [hR.yl_]
                  exact hw
                · rw [hR.ev_]
                  exact pv_run hB hv w'
                · exact ih fuel _ l' _ ρ' _ w (hR.put hlt v) hl hr h
              · cases hr
            · rename_i hw
              refine pure_ (i := i) (N := some N) (v := undef) (a' := a.put (some N) undef) _ ho hN hc (fun c a w => hQ c a _ _ w) (Or.inr ⟨?_, rfl⟩) rfl ?_
              · rw [hR.yl_]
                exact hw
              · exact ih fuel _ l' _ ρ' _ w (hR.put hlt undef) hl hr h
          · cases hr
        · cases hr
      · cases hr
    · cases hl
theorem runsD_ {n lo up m fuel : Nat} {β : Nat → Value} {l : Array Bool} {ρ : Nat → Value} {a : Act} {w : World} (is : List Nat) (l' : Array Bool) (hB : Bn P) (hQ : ∀ c (a : Act) N v w, Q (.panic c) (a.put N v) w → Q (.panic c) a w) (hR : Rd n lo up β a ρ) (hm : fuel + is.length = m)
    (hl : ordr md ops is l = some l') (hv : (vals ops n lo up is ρ).isSome = true) (h : ∀ a', Rd n lo up β a' ((vals ops n lo up is ρ).getD ρ) → wpAnyLast P md ops Q S ds fuel l' a' w) : wpAnyLast P md ops Q S ds m l a w := by
  subst hm
  obtain ⟨ρ', e⟩ := Option.isSome_iff_exists.1 hv
  rw [e] at h
  exact runs_ hB hQ is fuel l l' ρ ρ' a w hR hl e h
theorem pureE_ {n lo up i N fuel : Nat} {β : Nat → Value} {oi : Oper} {l l' : Array Bool} {ρ : Nat → Value} {a : Act} {w : World} (v : Value) (hR : Rd n lo up β a ρ) (hi : ops[i]? = some oi) (hN : oi.dst = some N) (hlt : lo ≤ N ∧ N ≤ up ∧ N < n) (hc : anyB md ops l l' i = true)
    (hQ : ∀ c (a : Act) N v w, Q (.panic c) (a.put N v) w → Q (.panic c) a w) (hw : Region.wanted oi (yl ops n ρ) = true) (hrun : ∀ w', (execOp (ev n ρ) oi).run P w' = .ok (.value v) w')
    (h : ∀ a', Rd n lo up β a' (upd ρ N v) → wpAnyLast P md ops Q S ds fuel l' a' w) : wpAnyLast P md ops Q S ds (fuel + 1) l a w := by
  refine pure_ (i := i) (N := some N) (v := v) (a' := a.put (some N) v) _ hi hN hc (fun c a w => hQ c a _ _ w) (Or.inl ⟨?_, fun w' => ?_⟩) rfl (h _ (hR.put hlt v))
  · rw [hR.yl_]
    exact hw
  · rw [hR.ev_]
    exact hrun w'
theorem takeE_ {n lo up i N fuel : Nat} {β : Nat → Value} {oi : Oper} {l l' : Array Bool} {ρ : Nat → Value} {a : Act} {w : World} (v : Value) (hR : Rd n lo up β a ρ) (hi : ops[i]? = some oi) (hN : oi.dst = some N) (hlt : lo ≤ N ∧ N ≤ up ∧ N < n) (hc : takeB md ops ds l l' i = true)
    (hQ : ∀ c (a : Act) N v w, Q (.panic c) (a.put N v) w → Q (.panic c) a w) (hw : Region.wanted oi (yl ops n ρ) = true) (hrun : ∀ w', S w' → (execOp (ev n ρ) oi).run P w' = .ok (.value v) w') (hS : S w)
    (h : ∀ a', Rd n lo up β a' (upd ρ N v) → wpAnyLast P md ops Q S ds fuel l' a' w) : wpAnyLast P md ops Q S ds (fuel + 1) l a w := by
  refine take_ (i := i) (N := some N) (v := v) (a' := a.put (some N) v) _ hi hN hc (fun c a w => hQ c a _ _ w) (Or.inl ⟨?_, fun w' hs => ?_⟩) hS rfl (h _ (hR.put hlt v))
  · rw [hR.yl_]
    exact hw
  · rw [hR.ev_]
    exact hrun w' hs
theorem callE_ {n lo up i N fuel : Nat} {β : Nat → Value} {oi : Oper} {l l' : Array Bool} {ρ : Nat → Value} {a : Act} {w : World} {f : FuncId} {fn : Func} {xs : Array Operand} {ts : Array TypeId} (hR : Rd n lo up β a ρ) (hi : ops[i]? = some oi) (hN : oi.dst = some N) (hlt : lo ≤ N ∧ N ≤ up ∧ N < n) (hc : readyB md ops l l' i = true) (hd : i ∉ ds)
    (hw : Region.wanted oi (yl ops n ρ) = true) (hf : P.funcs[f]? = some fn) (hname : (fn.name == "runtime.NumGoroutine") = false) (hb : fn.body.isSome = true) (args : Array Value) (hop : oi.op = .call { callee := .value (.func f), args := xs, argTypes := ts }) (hargs : xs.map (ev n ρ) = args)
    (h : Calls P f args w fun e w' => ∃ v, e = .returned v ∧ S w' ∧ ∀ a', Rd n lo up β a' (upd ρ N v) → wpAnyLast P md ops Q S ds fuel l' a' w') : wpAnyLast P md ops Q S ds (fuel + 1) l a w := by
  refine one_ (i := i) (N := some N) _ hi hN hc hd (fun K hK => ?_)
  refine goes_ hf hname hb args (by rw [hR.yl_]; exact hw) hN hop (by rw [hR.ev_]; exact hargs) (h.mono ?_)
  rintro e w' ⟨v, he, hS, hk⟩
  exact ⟨v, he, hK.out _ _ hS (fun _ => hk _ (hR.put hlt v))⟩
theorem call1E_ {n lo up i N fuel : Nat} {β : Nat → Value} {oi : Oper} {l l' : Array Bool} {ρ : Nat → Value} {a : Act} {w : World} {f : FuncId} {fn : Func} {x : Operand} {ts : Array TypeId} (V : Value) (hR : Rd n lo up β a ρ) (hi : ops[i]? = some oi) (hN : oi.dst = some N) (hlt : lo ≤ N ∧ N ≤ up ∧ N < n) (hc : readyB md ops l l' i = true) (hd : i ∉ ds)
    (hw : Region.wanted oi (yl ops n ρ) = true) (hf : P.funcs[f]? = some fn) (hname : (fn.name == "runtime.NumGoroutine") = false) (hb : fn.body.isSome = true) (hop : oi.op = .call { callee := .value (.func f), args := #[x], argTypes := ts }) (hx : ev n ρ x = V)
    (h : Calls P f #[V] w fun e w' => ∃ v, e = .returned v ∧ S w' ∧ ∀ a', Rd n lo up β a' (upd ρ N v) → wpAnyLast P md ops Q S ds fuel l' a' w') : wpAnyLast P md ops Q S ds (fuel + 1) l a w :=
  callE_ hR hi hN hlt hc hd hw hf hname hb #[V] hop (by simp [hx]) h
end
end Go.Proofs.YtiknaldhjbdnbaaGreatDoor.Env
