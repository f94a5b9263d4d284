/- Words for what the printed walks prove over and over: the proof is made where the word stands. No condition. -/
import Derived.Test.YthcbaogbncakdaaGreatDoorcGShort
namespace Go.Proofs.YthcbaogbncakdaaGreatDoor.Sh
theorem t0_ {p : Prop} (h : p := by first | (with_reducible assumption) | assumption) : p := h
theorem t1_ {p : Prop} (h : p := by repeat (first | (with_reducible first | exact HK.out | apply KeepBut.set_ | apply keep_drewN | apply keep_drew | apply keep_alloc) | exact HK.out)) : p := h
theorem t2_ {p : Prop} (h : p := by first | rfl | (simp; done) | (simp [*]; done)) : p := h
theorem t3_ {p : Prop} (h : p := by repeat (first | (with_reducible first | exact HB.out | apply below_alloc | apply pw_below_drewN | apply below_drew1 | refine below_set ?_ (IsS52.ge HI0.out)) | exact HB.out)) : p := h
theorem t4_ {p : Prop} (h : p := by repeat (first | (with_reducible first | exact HI0.out | apply IsS52.alloc | apply IsS52.drewN | apply IsS52.drew | apply IsS52.set_1 | apply IsS52.set_2) | exact HI0.out)) : p := h
theorem t5_ {p : Prop} (h : p := by repeat (first | (with_reducible first | exact HB.out | apply below_alloc | apply pw_below_drewN | apply below_drew1) | exact HB.out)) : p := h
theorem t6_ {p : Prop} (h : p := by (try simp only [List.map_toArray, List.map_cons, List.map_nil]); first | done | rfl | (simp only [List.length_drop, List.length_take]; rfl)) : p := h
theorem t7_ {p : Prop} (h : p := by kernel_rfl) : p := h
theorem t8_ {p : Prop} (h : p := by simp) : p := h
theorem t9_ {p : Prop} (h : p := by have := HK1.out; have := HK2.out; omega) : p := h
theorem t10_ {p : Prop} (h : p := by (try simp only [hl5_2]); (with_reducible repeat (first | apply Kd.R_alloc | apply Kd.R_drewN | apply Kd.R_drew)); exact HO_5.out) : p := h
theorem t11_ {p : Prop} (h : p := by first | exact HB.out | refine below_set (pw_below_drewN HB.out _) GB11.out | refine below_set HB.out GB11.out | (repeat (first | (with_reducible first | exact HB.out | apply below_alloc | apply pw_below_drewN | apply below_drew1) | exact HB.out))) : p := h
theorem t12_ {p : Prop} (h : p := by (try simp only [hl6_1]); (try simp only [hl6_2]); (with_reducible repeat (first | apply Kd.R_alloc | apply Kd.R_drewN | apply Kd.R_drew)); exact HO_6.out) : p := h
theorem t13_ {p : Prop} (h : p := by repeat (first | (with_reducible first | exact HB.out | apply below_alloc | apply pw_below_drewN | apply below_drew1 | refine below_set ?_ (IsS52.ge HI389.out)) | exact HB.out)) : p := h
theorem t14_ {p : Prop} (h : p := by repeat (first | (with_reducible first | exact HB.out | apply below_alloc | apply pw_below_drewN | apply below_drew1 | refine below_set ?_ GB9.out) | exact HB.out)) : p := h
theorem t15_ {p : Prop} (h : p := by have z_ := A2.out; simp only [mkCur.f, Option.some.injEq, Prod.mk.injEq] at z_; rw [← z_.1, ← z_.2.1, ← z_.2.2]; exact ⟨A0, c0, hbox, hge_, HR0.out⟩) : p := h
theorem t16_ {p : Prop} (h : p := by first | exact Kd.R_nil _ _ _ _ _ | exact Kd.N_nil _ _ _ _ _ | exact Kd.V_nil _ _ _ _ _ | exact Kd.Q_nil _ _ _ _ _ | exact Kd.S_nil _ _ _ _ _) : p := h
theorem t17_ {p : Prop} (h : p := by have := HK1.out; omega) : p := h
theorem t18_ {p : Prop} (h : p := by omega) : p := h
theorem t19_ {p : Prop} (h : p := by decide) : p := h
theorem t20_ {p : Prop} (h : p := by (try simp only [hl6_1]); (with_reducible repeat (first | apply Kd.R_alloc | apply Kd.R_drewN | apply Kd.R_drew)); exact HO_6.out) : p := h
theorem t21_ {p : Prop} (h : p := by rw [hg]; exact (below_size (L_ HB.out (Nat.le_refl _) (Nat.le_refl _) (Nat.le_refl _)))) : p := h
theorem t22_ {p : Prop} (h : p := by repeat (first | (with_reducible first | exact HI389.out | apply IsS52.alloc | apply IsS52.drewN | apply IsS52.drew | apply IsS52.set_1 | apply IsS52.set_2) | exact HI389.out)) : p := h
theorem t23_ {p : Prop} (h : p := by (try simp only [hl6_1]); (try simp only [hl6_2]); (with_reducible repeat (first | apply Kd.R_alloc | apply Kd.R_drewN | apply Kd.R_drew)); exact HQ25.out) : p := h
theorem t24_ {p : Prop} (h : p := by (try simp only [hl6_1]); (try simp only [hl6_2]); (with_reducible repeat (first | apply Kd.R_alloc | apply Kd.R_drewN | apply Kd.R_drew)); exact HQ27.out) : p := h
theorem t25_ {p : Prop} (h : p := by simp only [putAll, Act.put, List.setIfInBounds_toArray, List.set_cons_zero, List.set_cons_succ]) : p := h
theorem t26_ {p : Prop} (h : p := by rw [hw]; exact HP12.2) : p := h
theorem t27_ {p : Prop} (h : p := by have := HK1.out; first | omega | exact Nat.le_refl _) : p := h
end Go.Proofs.YthcbaogbncakdaaGreatDoor.Sh
