/- How many lists of darts have each score: digits of powers of one great number. No condition. -/
import Derived.Test.YtacmfgbeaoalfaacGFt
namespace Go.Proofs.Ytacmfgbeaoalfaa.Pure
open Go.RowKit Go.Proofs.Ytacmfgbeaoalfaa.QFnDartsFinish Go.Proofs.YtacmfgbeaoalfaaW.PrintWords Go.Proofs.YtacmfgbeaoalfaaW.PrintLast Go.Proofs.YtacmfgbeaoalfaaW.PrintMore
set_option linter.unusedVariables false
set_option linter.unusedSimpArgs false
def enc (X : Nat) (F : Nat → Nat) : Nat → Nat
  | 0 => 0
  | M + 1 => enc X F M + F M * X ^ M
theorem enc_lt {X : Nat} {F : Nat → Nat} (h : ∀ j, F j < X) : ∀ M, enc X F M < X ^ M
  | 0 => by simp [enc]
  | M + 1 => by
    have h1 := enc_lt h M
    have h2 : (F M + 1) * X ^ M ≤ X * X ^ M := Nat.mul_le_mul_right _ (h M)
    rw [Nat.add_mul, Nat.one_mul] at h2
    rw [Nat.pow_succ, Nat.mul_comm (X ^ M) X]
    show enc X F M + F M * X ^ M < _
    omega
theorem enc_dg {X : Nat} {F : Nat → Nat} (hX : 1 ≤ X) (h : ∀ j, F j < X) : ∀ M j, j < M → enc X F M / X ^ j % X = F j := by
  intro M
  induction M with
  | zero => intro j hj; omega
  | succ M ih =>
    intro j hj
    have hp : ∀ i, 0 < X ^ i := fun i => Nat.pow_pos (by omega)
    show (enc X F M + F M * X ^ M) / X ^ j % X = F j
    by_cases c : j = M
    · subst c
      rw [Nat.add_mul_div_right _ _ (hp j), Nat.div_eq_of_lt (enc_lt h j), Nat.zero_add, Nat.mod_eq_of_lt (h j)]
    · have e : F M * X ^ M = F M * X ^ (M - j - 1) * X * X ^ j := by
        rw [Nat.mul_assoc, Nat.mul_assoc, Nat.mul_comm X (X ^ j), ← Nat.pow_succ, ← Nat.pow_add]
        congr 2
        omega
      rw [e, Nat.add_mul_div_right _ _ (hp j), Nat.add_mul_mod_self_right]
      exact ih j (by omega)
theorem enc_dg0 {X : Nat} {F : Nat → Nat} (hX : 1 ≤ X) (h : ∀ j, F j < X) (M : Nat) (h0 : ∀ j, M ≤ j → F j = 0) (j : Nat) : enc X F M / X ^ j % X = F j := by
  by_cases c : j < M
  · exact enc_dg hX h M j c
  · have h1 := enc_lt h M
    have h2 : X ^ M ≤ X ^ j := Nat.pow_le_pow_right hX (by omega)
    rw [Nat.div_eq_of_lt (by omega), Nat.zero_mod, h0 j (by omega)]
theorem enc_add (X : Nat) (f g : Nat → Nat) : ∀ M, enc X (fun j => f j + g j) M = enc X f M + enc X g M
  | 0 => rfl
  | M + 1 => by
    have := enc_add X f g M
    show enc X (fun j => f j + g j) M + (f M + g M) * X ^ M = (enc X f M + f M * X ^ M) + (enc X g M + g M * X ^ M)
    rw [this, Nat.add_mul]
    omega
theorem enc_zero (X : Nat) (f : Nat → Nat) : ∀ M, (∀ j, j < M → f j = 0) → enc X f M = 0
  | 0, _ => rfl
  | M + 1, h => by
    show enc X f M + f M * X ^ M = 0
    rw [enc_zero X f M (fun j hj => h j (by omega)), h M (by omega), Nat.zero_mul]
theorem enc_ext (X : Nat) (f : Nat → Nat) (M : Nat) (h : ∀ j, M ≤ j → f j = 0) : ∀ d, enc X f (M + d) = enc X f M
  | 0 => rfl
  | d + 1 => by
    show enc X f (M + d) + f (M + d) * X ^ (M + d) = _
    rw [enc_ext X f M h d, h (M + d) (by omega), Nat.zero_mul, Nat.add_zero]
def sh (c : Nat) (F : Nat → Nat) (j : Nat) : Nat := if c ≤ j then F (j - c) else 0
theorem enc_sh (X : Nat) (c : Nat) (F : Nat → Nat) : ∀ M, enc X (sh c F) (c + M) = X ^ c * enc X F M
  | 0 => by
    rw [Nat.add_zero, enc_zero X (sh c F) c (fun j hj => if_neg (by omega))]
    show 0 = X ^ c * 0
    rw [Nat.mul_zero]
  | M + 1 => by
    show enc X (sh c F) (c + M) + sh c F (c + M) * X ^ (c + M) = X ^ c * (enc X F M + F M * X ^ M)
    rw [enc_sh X c F M, Nat.mul_add]
    congr 1
    unfold sh
    rw [if_pos (by omega), show c + M - c = M by omega, Nat.pow_add, ← Nat.mul_assoc, ← Nat.mul_assoc, Nat.mul_comm (F M)]
def cv (L : List Nat) (F : Nat → Nat) (j : Nat) : Nat := (L.map (fun c => sh c F j)).sum
def pol (X : Nat) (L : List Nat) : Nat := (L.map (fun c => X ^ c)).sum
theorem cv_sup {L : List Nat} (hL : ∀ c ∈ L, c ≤ 60) {F : Nat → Nat} {M : Nat} (h : ∀ j, M ≤ j → F j = 0) : ∀ j, M + 60 ≤ j → cv L F j = 0 := by
  intro j hj
  unfold cv
  induction L with
  | nil => rfl
  | cons c L ih =>
    rw [List.map_cons, List.sum_cons, ih (fun c h => hL c (List.mem_cons_of_mem _ h))]
    have := hL c List.mem_cons_self
    unfold sh
    rw [if_pos (by omega), h _ (by omega)]
theorem cv_bd {L : List Nat} {F : Nat → Nat} {b : Nat} (h : ∀ j, F j ≤ b) (j : Nat) : cv L F j ≤ L.length * b := by
  unfold cv
  induction L with
  | nil => simp
  | cons c L ih =>
    rw [List.map_cons, List.sum_cons, List.length_cons, Nat.add_mul, Nat.one_mul]
    have : sh c F j ≤ b := by
      unfold sh
      split
      · exact h _
      · omega
    omega
theorem enc_cv (X : Nat) {L : List Nat} (hL : ∀ c ∈ L, c ≤ 60) {F : Nat → Nat} {M : Nat} (h : ∀ j, M ≤ j → F j = 0) : enc X (cv L F) (M + 60) = pol X L * enc X F M := by
  induction L with
  | nil =>
    rw [enc_zero X (cv [] F) _ (fun j _ => rfl)]
    show 0 = 0 * _
    rw [Nat.zero_mul]
  | cons c L ih =>
    have hc := hL c List.mem_cons_self
    have e : cv (c :: L) F = fun j => sh c F j + cv L F j := rfl
    have e2 : pol X (c :: L) = X ^ c + pol X L := by unfold pol; rw [List.map_cons, List.sum_cons]
    rw [e, enc_add, ih (fun c h => hL c (List.mem_cons_of_mem _ h)), e2, Nat.add_mul]
    congr 1
    rw [show M + 60 = (c + M) + (60 - c) by omega, enc_ext X (sh c F) (c + M) (fun j hj => by unfold sh; rw [if_pos (by omega), h _ (by omega)]), enc_sh]
def itB : Nat → (Nat → Nat) → Nat → Nat
  | 0, F => F
  | n + 1, F => itB n (cv scN F)
theorem scN_ok : ∀ c ∈ scN, c ≤ 60 := by
  have h : scN.all (fun c => Nat.ble c 60) = true := by kernel_rfl
  exact fun c hc => Nat.le_of_ble_eq_true (List.all_eq_true.1 h c hc)
theorem dbN_ok : ∀ c ∈ dbN, c ≤ 60 := by
  have h : dbN.all (fun c => Nat.ble c 60) = true := by kernel_rfl
  exact fun c hc => Nat.le_of_ble_eq_true (List.all_eq_true.1 h c hc)
theorem scN_len : scN.length = 62 := by kernel_rfl
theorem dbN_len : dbN.length = 21 := by kernel_rfl
theorem itB_sup : ∀ (n : Nat) (F : Nat → Nat) (M : Nat), (∀ j, M ≤ j → F j = 0) → ∀ j, M + 60 * n ≤ j → itB n F j = 0
  | 0, F, M, h, j, hj => h j (by omega)
  | n + 1, F, M, h, j, hj => itB_sup n (cv scN F) (M + 60) (cv_sup scN_ok h) j (by omega)
theorem itB_bd : ∀ (n : Nat) (F : Nat → Nat) (b : Nat), (∀ j, F j ≤ b) → ∀ j, itB n F j ≤ 62 ^ n * b
  | 0, F, b, h, j => by rw [Nat.pow_zero, Nat.one_mul]; exact h j
  | n + 1, F, b, h, j => by
    have h1 := itB_bd n (cv scN F) (62 * b) (fun j => by have := cv_bd (L := scN) h j; rwa [scN_len] at this) j
    rwa [← Nat.mul_assoc, ← Nat.pow_succ] at h1
theorem itB_enc (X : Nat) : ∀ (n : Nat) (F : Nat → Nat) (M : Nat), (∀ j, M ≤ j → F j = 0) → enc X (itB n F) (M + 60 * n) = pol X scN ^ n * enc X F M
  | 0, F, M, h => by rw [Nat.pow_zero, Nat.one_mul]; rfl
  | n + 1, F, M, h => by
    have h1 := itB_enc X n (cv scN F) (M + 60) (cv_sup scN_ok h)
    rw [enc_cv X scN_ok h, ← Nat.mul_assoc, ← Nat.pow_succ] at h1
    rw [← h1]
    show enc X (itB n (cv scN F)) _ = _
    congr 1
    omega
def dl (j : Nat) : Nat := if j = 0 then 1 else 0
theorem dl_sup : ∀ j, 1 ≤ j → dl j = 0 := fun j hj => if_neg (by omega)
theorem dl_bd (j : Nat) : dl j ≤ 1 := by unfold dl; split <;> omega
theorem dl_enc (X : Nat) : enc X dl 1 = 1 := by
  show enc X dl 0 + dl 0 * X ^ 0 = 1
  rw [Nat.pow_zero]
  rfl
def XX : Nat := 2 ^ 128
def pB : Nat := pol XX scN
def pD : Nat := pol XX dbN
def cB (k j : Nat) : Nat := pB ^ k / XX ^ j % XX
def cF (k j : Nat) : Nat := pD * pB ^ k / XX ^ j % XX
theorem pow62 {n : Nat} (h : n ≤ 17) : 62 ^ n * 21 < XX := by
  have h1 : 62 ^ n ≤ 62 ^ 17 := Nat.pow_le_pow_right (by omega) h
  have h2 : 62 ^ 17 * 21 < XX := by exact Nat.le_of_ble_eq_true (by kernel_rfl)
  have h3 : 62 ^ n * 21 ≤ 62 ^ 17 * 21 := Nat.mul_le_mul_right _ h1
  omega
theorem XX1 : 1 ≤ XX := Nat.pow_pos (by omega)
theorem cB_eq {k : Nat} (hk : k ≤ 17) (j : Nat) : itB k dl j = cB k j := by
  have hb : ∀ j, itB k dl j < XX := fun j => by
    have h1 := itB_bd k dl 1 dl_bd j
    have := pow62 hk
    omega
  have h := enc_dg0 XX1 hb (1 + 60 * k) (itB_sup k dl 1 dl_sup) j
  rw [itB_enc XX k dl 1 dl_sup, dl_enc, Nat.mul_one] at h
  exact h.symm
theorem cF_eqS {k : Nat} (hk : k ≤ 17) (j : Nat) : cv dbN (itB k dl) j = cF k j := by
  have h0 := itB_sup k dl 1 dl_sup
  have hb : ∀ j, cv dbN (itB k dl) j < XX := fun j => by
    have h1 := cv_bd (L := dbN) (itB_bd k dl 1 dl_bd) j
    rw [dbN_len] at h1
    have := pow62 hk
    omega
  have h := enc_dg0 XX1 hb (1 + 60 * k + 60) (cv_sup dbN_ok h0) j
  rw [enc_cv XX dbN_ok h0, itB_enc XX k dl 1 dl_sup, dl_enc, Nat.mul_one] at h
  exact h.symm
theorem cF_eqI {k : Nat} (hk : k ≤ 17) (j : Nat) : itB k (cv dbN dl) j = cF k j := by
  have h0 := cv_sup dbN_ok dl_sup
  have hb : ∀ j, itB k (cv dbN dl) j < XX := fun j => by
    have h1 := itB_bd k (cv dbN dl) 21 (fun j => by have := cv_bd (L := dbN) dl_bd j; rwa [dbN_len, Nat.mul_one] at this) j
    have := pow62 hk
    omega
  have h := enc_dg0 XX1 hb (1 + 60 + 60 * k) (itB_sup k (cv dbN dl) (1 + 60) h0) j
  rw [itB_enc XX k (cv dbN dl) (1 + 60) h0, enc_cv XX dbN_ok dl_sup, dl_enc, Nat.mul_one, Nat.mul_comm] at h
  exact h.symm
theorem cB_bd {k : Nat} (hk : k ≤ 3) (j : Nat) : cB k j ≤ 238328 := by
  rw [← cB_eq (by omega)]
  have h1 := itB_bd k dl 1 dl_bd j
  have h2 : 62 ^ k ≤ 62 ^ 3 := Nat.pow_le_pow_right (by omega) hk
  omega
theorem cF_bd {k : Nat} (hk : k ≤ 3) (j : Nat) : cF k j ≤ 238328 * 21 := by
  rw [← cF_eqS (by omega)]
  have h1 := cv_bd (L := dbN) (itB_bd k dl 1 dl_bd) j
  rw [dbN_len] at h1
  have h2 : 62 ^ k ≤ 62 ^ 3 := Nat.pow_le_pow_right (by omega) hk
  omega
end Go.Proofs.Ytacmfgbeaoalfaa.Pure
