/-
  A division of two words by one.
-/
import Derived.Test.YtglnkfpmogaifaaGreatDoorKB3
set_option linter.unusedSimpArgs false
set_option linter.unusedVariables false
set_option linter.unusedSimpArgs false
set_option linter.unusedVariables false
namespace Go.Proofs.YtglnkfpmogaifaaGreatDoor.V
open Go Go.Proofs Go.RowKit

theorem cDiv64 {hi lo y : Int} (h0 : 0 ≤ hi) (h1 : hi < y) (l0 : 0 ≤ lo) (l1 : lo < 18446744073709551616) (y1 : y < 18446744073709551616) :
    Con Tryz.prog 100 [.sc (.int .u64 hi), .sc (.int .u64 lo), .sc (.int .u64 y)] (.tp [.sc (.int .u64 ((hi * 18446744073709551616 + lo) / y)), .sc (.int .u64 ((hi * 18446744073709551616 + lo) % y))]) [] := by
  obtain ⟨s, s1, s2, s3, cs⟩ := lLz (y := y) (by omega) y1
  refine Con.of_body [(0, .sc (.int .u64 hi)), (1, .sc (.int .u64 lo)), (2, .sc (.int .u64 y))] Tryz.func100 rfl ca100 135 rfl (by simp) rfl ?_; refine T_of_R ?_
  refine go ?_
  refine cnd (fun h => ?_) (fun h => ?_)
  · simp only [decide_eq_true_eq, decide_eq_false_iff_not, Bool.or_eq_true, Bool.and_eq_true, Bool.or_eq_false_iff, Bool.and_eq_false_iff, Bool.not_eq_true', Bool.not_eq_false', bne_iff_ne, beq_iff_eq, ne_eq, bne_eq_false_iff_eq, beq_eq_false_iff_ne, ge_iff_le, gt_iff_lt, Int.not_le, Int.not_lt] at h
    omega
  simp only [decide_eq_true_eq, decide_eq_false_iff_not, Bool.or_eq_true, Bool.and_eq_true, Bool.or_eq_false_iff, Bool.and_eq_false_iff, Bool.not_eq_true', Bool.not_eq_false', bne_iff_ne, beq_iff_eq, ne_eq, bne_eq_false_iff_eq, beq_eq_false_iff_ne, ge_iff_le, gt_iff_lt, Int.not_le, Int.not_lt] at h
  clear h
  refine go ?_
  refine cnd (fun h => ?_) (fun h => ?_)
  · simp only [decide_eq_true_eq, decide_eq_false_iff_not, Bool.or_eq_true, Bool.and_eq_true, Bool.or_eq_false_iff, Bool.and_eq_false_iff, Bool.not_eq_true', Bool.not_eq_false', bne_iff_ne, beq_iff_eq, ne_eq, bne_eq_false_iff_eq, beq_eq_false_iff_ne, ge_iff_le, gt_iff_lt, Int.not_le, Int.not_lt] at h
    omega
  simp only [decide_eq_true_eq, decide_eq_false_iff_not, Bool.or_eq_true, Bool.and_eq_true, Bool.or_eq_false_iff, Bool.and_eq_false_iff, Bool.not_eq_true', Bool.not_eq_false', bne_iff_ne, beq_iff_eq, ne_eq, bne_eq_false_iff_eq, beq_eq_false_iff_ne, ge_iff_le, gt_iff_lt, Int.not_le, Int.not_lt] at h
  clear h
  refine go ?_
  refine cnd (fun h => ?_) (fun h => ?_)
  · simp only [decide_eq_true_eq, decide_eq_false_iff_not, Bool.or_eq_true, Bool.and_eq_true, Bool.or_eq_false_iff, Bool.and_eq_false_iff, Bool.not_eq_true', Bool.not_eq_false', bne_iff_ne, beq_iff_eq, ne_eq, bne_eq_false_iff_eq, beq_eq_false_iff_ne, ge_iff_le, gt_iff_lt, Int.not_le, Int.not_lt] at h
    have e : hi * 18446744073709551616 + lo = lo := by omega
    have e1 : lo.tdiv y = lo / y := Int.tdiv_eq_ediv_of_nonneg l0
    have e2 : lo.tmod y = lo % y := Int.tmod_eq_emod_of_nonneg l0
    have e3 : 0 ≤ lo / y := Int.ediv_nonneg l0 (by omega)
    have e4 : lo / y ≤ lo := Int.ediv_le_self _ l0
    have yn : y ≠ 0 := by omega
    rw [e]
    refine go ?_
    refine R_ret (fin_of (ids := []) (by first | (simp (disch := (first | omega | (simp only [go_sem, ↓reduceIte, Nat.reduceEqDiff, Nat.reduceAdd, Nat.reduceMul, Nat.reduceSub, Nat.reduceLT, Nat.reduceLeDiff, Nat.reduceBNe, Nat.reduceBEq, Int.reduceToNat, Int.reduceAdd, Int.reduceSub, Int.reduceMul, Int.reduceLT, Int.reduceLE, Int.reduceNeg, Int.reduceBEq, Int.reduceBNe, Int.reduceEq, beq_self_eq_true, reduceCtorEq, decide_true, decide_false, if_pos, if_neg]; first | done | omega))) only [go_sem, ↓reduceIte, Nat.reduceEqDiff, Nat.reduceAdd, Nat.reduceMul, Nat.reduceSub, Nat.reduceLT, Nat.reduceLeDiff, Nat.reduceBNe, Nat.reduceBEq, Int.reduceToNat, Int.reduceAdd, Int.reduceSub, Int.reduceMul, Int.reduceLT, Int.reduceLE, Int.reduceNeg, Int.reduceBEq, Int.reduceBNe, Int.reduceEq, beq_self_eq_true, reduceCtorEq, decide_true, decide_false, if_pos, if_neg] <;> rfl) | fail) (by simp (disch := (first | omega | (simp only [go_sem, ↓reduceIte, Nat.reduceEqDiff, Nat.reduceAdd, Nat.reduceMul, Nat.reduceSub, Nat.reduceLT, Nat.reduceLeDiff, Nat.reduceBNe, Nat.reduceBEq, Int.reduceToNat, Int.reduceAdd, Int.reduceSub, Int.reduceMul, Int.reduceLT, Int.reduceLE, Int.reduceNeg, Int.reduceBEq, Int.reduceBNe, Int.reduceEq, beq_self_eq_true, reduceCtorEq, decide_true, decide_false, if_pos, if_neg]; first | done | omega))) only [go_sem, ↓reduceIte, Nat.reduceEqDiff, Nat.reduceAdd, Nat.reduceMul, Nat.reduceSub, Nat.reduceLT, Nat.reduceLeDiff, Nat.reduceBNe, Nat.reduceBEq, Int.reduceToNat, Int.reduceAdd, Int.reduceSub, Int.reduceMul, Int.reduceLT, Int.reduceLE, Int.reduceNeg, Int.reduceBEq, Int.reduceBNe, Int.reduceEq, beq_self_eq_true, reduceCtorEq, decide_true, decide_false, if_pos, if_neg, e1, e2]) (by decide) (by simp (disch := (first | omega | (simp only [go_sem, ↓reduceIte, Nat.reduceEqDiff, Nat.reduceAdd, Nat.reduceMul, Nat.reduceSub, Nat.reduceLT, Nat.reduceLeDiff, Nat.reduceBNe, Nat.reduceBEq, Int.reduceToNat, Int.reduceAdd, Int.reduceSub, Int.reduceMul, Int.reduceLT, Int.reduceLE, Int.reduceNeg, Int.reduceBEq, Int.reduceBNe, Int.reduceEq, beq_self_eq_true, reduceCtorEq, decide_true, decide_false, if_pos, if_neg]; first | done | omega))) only [go_sem, ↓reduceIte, Nat.reduceEqDiff, Nat.reduceAdd, Nat.reduceMul, Nat.reduceSub, Nat.reduceLT, Nat.reduceLeDiff, Nat.reduceBNe, Nat.reduceBEq, Int.reduceToNat, Int.reduceAdd, Int.reduceSub, Int.reduceMul, Int.reduceLT, Int.reduceLE, Int.reduceNeg, Int.reduceBEq, Int.reduceBNe, Int.reduceEq, beq_self_eq_true, reduceCtorEq, decide_true, decide_false, if_pos, if_neg, e1, e2]))
  simp only [decide_eq_true_eq, decide_eq_false_iff_not, Bool.or_eq_true, Bool.and_eq_true, Bool.or_eq_false_iff, Bool.and_eq_false_iff, Bool.not_eq_true', Bool.not_eq_false', bne_iff_ne, beq_iff_eq, ne_eq, bne_eq_false_iff_eq, beq_eq_false_iff_ne, ge_iff_le, gt_iff_lt, Int.not_le, Int.not_lt] at h
  have hp : (0 : Int) < 2 ^ s := Int.pow_pos (by omega)
  have hp' : (0 : Int) < 2 ^ (64 - s) := Int.pow_pos (by omega)
  have hpp : (2 : Int) ^ (64 - s) * 2 ^ s = 18446744073709551616 := by rw [← Int.pow_add, show 64 - s + s = 64 by omega]; rfl
  have hl1 : 0 ≤ lo / 2 ^ (64 - s) := Int.ediv_nonneg l0 (by omega)
  have hl2 : lo / 2 ^ (64 - s) < 2 ^ s := Int.ediv_lt_of_lt_mul hp' (by rw [Int.mul_comm, hpp]; exact l1)
  have hEw : 0 ≤ IntKind.u64.wrap (lo * 2 ^ s) ∧ IntKind.u64.wrap (lo * 2 ^ s) < 18446744073709551616 := by rw [IntKind.wrap_u64]; omega
  have hi1 : 0 ≤ hi * 2 ^ s := Int.mul_nonneg h0 (Int.pow_nonneg (by omega))
  have hi2 : hi * 2 ^ s ≤ y * 2 ^ s := Int.mul_le_mul_of_nonneg_right (by omega) (Int.pow_nonneg (by omega))
  refine go ?_
  refine call (cs) ?_
  refine go ?_
  have hl3 : hi * 2 ^ s + 2 ^ s ≤ y * 2 ^ s := by
    have := Int.mul_le_mul_of_nonneg_right (show hi + 1 ≤ y by omega) (Int.le_of_lt hp)
    rw [Int.add_mul, Int.one_mul] at this
    exact this
  have hU : (hi * 2 ^ s + lo / 2 ^ (64 - s)) * 18446744073709551616 + (lo * 2 ^ s) % 18446744073709551616 = (hi * 18446744073709551616 + lo) * 2 ^ s := by
    have e1 : (lo * 2 ^ s) / 18446744073709551616 = lo / 2 ^ (64 - s) := by rw [← hpp, Int.mul_ediv_mul_of_pos_left _ _ hp]
    have e2 := Int.emod_add_mul_ediv (lo * 2 ^ s) 18446744073709551616
    rw [e1] at e2
    grind
  have hE : IntKind.u64.wrap (lo * 2 ^ s) = (lo * 2 ^ s) % 18446744073709551616 := IntKind.wrap_u64 _
  rw [hE]
  obtain ⟨sh1, sh2⟩ := shifted (x := hi * 18446744073709551616 + lo) (y := y) (p := 2 ^ s) (by omega) hp
  have hE0 : 0 ≤ (lo * 2 ^ s) % 18446744073709551616 ∧ (lo * 2 ^ s) % 18446744073709551616 < 18446744073709551616 := by omega
  rw [← sh1, ← sh2, ← hU]
  clear hU hE sh1 sh2 cs hp' hEw
  generalize (lo * 2 ^ s) % 18446744073709551616 = E at hE0 ⊢
  obtain ⟨u, hu⟩ : ∃ u, u = hi * 2 ^ s + lo / 2 ^ (64 - s) := ⟨_, rfl⟩
  have hu0 : 0 ≤ u := by rw [hu]; omega
  have hu1 : u < y * 2 ^ s := by omega
  rw [← hu]
  generalize y * 2 ^ s = Y at s2 s3 hu1 ⊢
  clear hu hi1 hi2 hl1 hl2 hl3
  obtain ⟨y1, hy1⟩ : ∃ y1, y1 = Y / 4294967296 := ⟨_, rfl⟩
  obtain ⟨y0, hy0⟩ : ∃ y0, y0 = Y % 4294967296 := ⟨_, rfl⟩
  obtain ⟨t1, ht1⟩ : ∃ t1, t1 = E / 4294967296 := ⟨_, rfl⟩
  obtain ⟨t0, ht0⟩ : ∃ t0, t0 = E % 4294967296 := ⟨_, rfl⟩
  have hv : Hv y1 y0 := ⟨by omega, by omega, by omega, by omega⟩
  have hY : Y = hy y1 y0 := by unfold hy; omega
  have hE : E = t1 * 4294967296 + t0 := by omega
  have ht1b : 0 ≤ t1 ∧ t1 < 4294967296 := by omega
  have ht0b : 0 ≤ t0 ∧ t0 < 4294967296 := by omega
  rw [← hy1, ← hy0, ← ht1, ← ht0, hE, hY]
  rw [hY] at hu1
  obtain ⟨hs1, hs2⟩ := halves hv hu0 hu1 ht1b.1 ht1b.2 ht0b.1 ht0b.2
  have e1 : u.tdiv y1 = u / y1 := Int.tdiv_eq_ediv_of_nonneg hu0
  rw [e1]
  obtain ⟨k1, k2, k3, k4, k5, k6⟩ := half_init hv hu0 hu1 ht1b.1 ht1b.2
  have e2 : IntKind.u64.wrap (u - IntKind.u64.wrap (u / y1 * y1)) = u % y1 := by
    have : 0 ≤ u / y1 * y1 := Int.mul_nonneg k5 (by have := hv.a; omega)
    rw [wrapu (n := u / y1 * y1) (by omega) (by omega)]
    rw [wrapu (by omega) (by omega)]
    omega
  refine R_midB (fun _ : Unit => ⟨tl [(2, .sc (.int .u64 (hy y1 y0))), (8, .sc (.int .u64 s)), (9, .sc (.int .u64 y1)), (10, .sc (.int .u64 y0)), (11, .sc (.int .u64 u)), (13, .sc (.int .u64 t1)), (14, .sc (.int .u64 t0)), (15, .sc (.int .u64 (hq y1 y0 u t1)))], ol [], 0, [], 135⟩) (fun _ => True) ?_ ?_
  · refine R_loop (fun p : Int × Int => ⟨tl [(2, .sc (.int .u64 (hy y1 y0))), (8, .sc (.int .u64 s)), (9, .sc (.int .u64 y1)), (10, .sc (.int .u64 y0)), (11, .sc (.int .u64 u)), (13, .sc (.int .u64 t1)), (14, .sc (.int .u64 t0)), (15, .sc (.int .u64 p.1)), (16, .sc (.int .u64 p.2))], ol [], 0, [], 135⟩)
      (fun p => 0 ≤ p.2 ∧ p.2 < 4294967296 ∧ p.1 * y1 + p.2 = u ∧ hq y1 y0 u t1 ≤ p.1 ∧ 0 ≤ p.1 ∧ p.1 ≤ 4294967297) (fun p => p.1.toNat) (u / y1, u % y1) [] (Less.mk' (by simp (disch := (first | omega | (simp only [go_sem, ↓reduceIte, Nat.reduceEqDiff, Nat.reduceAdd, Nat.reduceMul, Nat.reduceSub, Nat.reduceLT, Nat.reduceLeDiff, Nat.reduceBNe, Nat.reduceBEq, Int.reduceToNat, Int.reduceAdd, Int.reduceSub, Int.reduceMul, Int.reduceLT, Int.reduceLE, Int.reduceNeg, Int.reduceBEq, Int.reduceBNe, Int.reduceEq, beq_self_eq_true, reduceCtorEq, decide_true, decide_false, if_pos, if_neg]; first | done | omega))) only [go_sem, ↓reduceIte, Nat.reduceEqDiff, Nat.reduceAdd, Nat.reduceMul, Nat.reduceSub, Nat.reduceLT, Nat.reduceLeDiff, Nat.reduceBNe, Nat.reduceBEq, Int.reduceToNat, Int.reduceAdd, Int.reduceSub, Int.reduceMul, Int.reduceLT, Int.reduceLE, Int.reduceNeg, Int.reduceBEq, Int.reduceBNe, Int.reduceEq, beq_self_eq_true, reduceCtorEq, decide_true, decide_false, if_pos, if_neg, e1, e2]) (by simp (disch := (first | omega | (simp only [go_sem, ↓reduceIte, Nat.reduceEqDiff, Nat.reduceAdd, Nat.reduceMul, Nat.reduceSub, Nat.reduceLT, Nat.reduceLeDiff, Nat.reduceBNe, Nat.reduceBEq, Int.reduceToNat, Int.reduceAdd, Int.reduceSub, Int.reduceMul, Int.reduceLT, Int.reduceLE, Int.reduceNeg, Int.reduceBEq, Int.reduceBNe, Int.reduceEq, beq_self_eq_true, reduceCtorEq, decide_true, decide_false, if_pos, if_neg]; first | done | omega))) only [go_sem, ↓reduceIte, Nat.reduceEqDiff, Nat.reduceAdd, Nat.reduceMul, Nat.reduceSub, Nat.reduceLT, Nat.reduceLeDiff, Nat.reduceBNe, Nat.reduceBEq, Int.reduceToNat, Int.reduceAdd, Int.reduceSub, Int.reduceMul, Int.reduceLT, Int.reduceLE, Int.reduceNeg, Int.reduceBEq, Int.reduceBNe, Int.reduceEq, beq_self_eq_true, reduceCtorEq, decide_true, decide_false, if_pos, if_neg, e1, e2]) (by decide) (by decide)) (half_init hv hu0 hu1 ht1b.1 ht1b.2) fun p hi => ?_
    obtain ⟨q, r⟩ := p
    obtain ⟨i1, i2, i3, i4, i5, i6⟩ := hi
    simp only at i1 i2 i3 i4 i5 i6
    simp only
    have hqn := hq_nonneg hv (u := u) (t := t1) hu0 ht1b.1
    have hwq : q < 4294967296 → IntKind.u64.wrap (q * y0) = q * y0 := fun hc => by
      have m1 : 0 ≤ q * y0 := Int.mul_nonneg i5 (by omega)
      have m2 : q * y0 ≤ 4294967295 * 4294967295 := Int.mul_le_mul (by omega) (by omega) (by omega) (by omega)
      exact wrapu m1 (by omega)
    refine go ?_
    refine cnd (fun h => ?_) (fun h => ?_)
    · simp only [decide_eq_true_eq, decide_eq_false_iff_not, Bool.or_eq_true, Bool.and_eq_true, Bool.or_eq_false_iff, Bool.and_eq_false_iff, Bool.not_eq_true', Bool.not_eq_false', bne_iff_ne, beq_iff_eq, ne_eq, bne_eq_false_iff_eq, beq_eq_false_iff_ne, ge_iff_le, gt_iff_lt, Int.not_le, Int.not_lt] at h
      have hc : 4294967296 ≤ q ∨ 4294967296 * r + t1 < q * y0 := by
        by_cases hc : 4294967296 ≤ q
        · exact .inl hc
        · rw [hwq (by omega)] at h; omega
      obtain ⟨d1, d2⟩ := half_down hv hu0 hu1 ht1b.1 ht1b.2 i3 i4 hc
      refine go ?_
      refine cnd (fun h => ?_) (fun h => ?_)
      · simp only [decide_eq_true_eq, decide_eq_false_iff_not, Bool.or_eq_true, Bool.and_eq_true, Bool.or_eq_false_iff, Bool.and_eq_false_iff, Bool.not_eq_true', Bool.not_eq_false', bne_iff_ne, beq_iff_eq, ne_eq, bne_eq_false_iff_eq, beq_eq_false_iff_ne, ge_iff_le, gt_iff_lt, Int.not_le, Int.not_lt] at h
        have e := half_stop hv ht1b.1 (show 0 ≤ r + y1 by omega) (show 0 ≤ q - 1 by omega) (by omega) d1 d2 (.inr (by omega))
        exact R_exitBR (by decide) ⟨(), trivial, Sub.less (ids := []) (Less.mk' (by simp (disch := (first | omega | (simp only [go_sem, ↓reduceIte, Nat.reduceEqDiff, Nat.reduceAdd, Nat.reduceMul, Nat.reduceSub, Nat.reduceLT, Nat.reduceLeDiff, Nat.reduceBNe, Nat.reduceBEq, Int.reduceToNat, Int.reduceAdd, Int.reduceSub, Int.reduceMul, Int.reduceLT, Int.reduceLE, Int.reduceNeg, Int.reduceBEq, Int.reduceBNe, Int.reduceEq, beq_self_eq_true, reduceCtorEq, decide_true, decide_false, if_pos, if_neg]; first | done | omega))) only [go_sem, ↓reduceIte, Nat.reduceEqDiff, Nat.reduceAdd, Nat.reduceMul, Nat.reduceSub, Nat.reduceLT, Nat.reduceLeDiff, Nat.reduceBNe, Nat.reduceBEq, Int.reduceToNat, Int.reduceAdd, Int.reduceSub, Int.reduceMul, Int.reduceLT, Int.reduceLE, Int.reduceNeg, Int.reduceBEq, Int.reduceBNe, Int.reduceEq, beq_self_eq_true, reduceCtorEq, decide_true, decide_false, if_pos, if_neg, e]) (by simp (disch := (first | omega | (simp only [go_sem, ↓reduceIte, Nat.reduceEqDiff, Nat.reduceAdd, Nat.reduceMul, Nat.reduceSub, Nat.reduceLT, Nat.reduceLeDiff, Nat.reduceBNe, Nat.reduceBEq, Int.reduceToNat, Int.reduceAdd, Int.reduceSub, Int.reduceMul, Int.reduceLT, Int.reduceLE, Int.reduceNeg, Int.reduceBEq, Int.reduceBNe, Int.reduceEq, beq_self_eq_true, reduceCtorEq, decide_true, decide_false, if_pos, if_neg]; first | done | omega))) only [go_sem, ↓reduceIte, Nat.reduceEqDiff, Nat.reduceAdd, Nat.reduceMul, Nat.reduceSub, Nat.reduceLT, Nat.reduceLeDiff, Nat.reduceBNe, Nat.reduceBEq, Int.reduceToNat, Int.reduceAdd, Int.reduceSub, Int.reduceMul, Int.reduceLT, Int.reduceLE, Int.reduceNeg, Int.reduceBEq, Int.reduceBNe, Int.reduceEq, beq_self_eq_true, reduceCtorEq, decide_true, decide_false, if_pos, if_neg]) (by decide) (by decide))⟩
      · simp only [decide_eq_true_eq, decide_eq_false_iff_not, Bool.or_eq_true, Bool.and_eq_true, Bool.or_eq_false_iff, Bool.and_eq_false_iff, Bool.not_eq_true', Bool.not_eq_false', bne_iff_ne, beq_iff_eq, ne_eq, bne_eq_false_iff_eq, beq_eq_false_iff_ne, ge_iff_le, gt_iff_lt, Int.not_le, Int.not_lt] at h
        refine go ?_
        refine R_nilR ⟨[], _, ?_, (q - 1, r + y1), ⟨by simp only; omega, by simp only; omega, d1, d2, by simp only; omega, by simp only; omega⟩, by omega, rfl⟩; exact lessA
    · simp only [decide_eq_true_eq, decide_eq_false_iff_not, Bool.or_eq_true, Bool.and_eq_true, Bool.or_eq_false_iff, Bool.and_eq_false_iff, Bool.not_eq_true', Bool.not_eq_false', bne_iff_ne, beq_iff_eq, ne_eq, bne_eq_false_iff_eq, beq_eq_false_iff_ne, ge_iff_le, gt_iff_lt, Int.not_le, Int.not_lt] at h
      rw [hwq (by omega)] at h
      have e := half_stop hv ht1b.1 i1 i5 (by omega) i3 i4 (.inl (by omega))
      exact R_exitR ⟨(), trivial, Sub.less (ids := []) (Less.mk' (by simp (disch := (first | omega | (simp only [go_sem, ↓reduceIte, Nat.reduceEqDiff, Nat.reduceAdd, Nat.reduceMul, Nat.reduceSub, Nat.reduceLT, Nat.reduceLeDiff, Nat.reduceBNe, Nat.reduceBEq, Int.reduceToNat, Int.reduceAdd, Int.reduceSub, Int.reduceMul, Int.reduceLT, Int.reduceLE, Int.reduceNeg, Int.reduceBEq, Int.reduceBNe, Int.reduceEq, beq_self_eq_true, reduceCtorEq, decide_true, decide_false, if_pos, if_neg]; first | done | omega))) only [go_sem, ↓reduceIte, Nat.reduceEqDiff, Nat.reduceAdd, Nat.reduceMul, Nat.reduceSub, Nat.reduceLT, Nat.reduceLeDiff, Nat.reduceBNe, Nat.reduceBEq, Int.reduceToNat, Int.reduceAdd, Int.reduceSub, Int.reduceMul, Int.reduceLT, Int.reduceLE, Int.reduceNeg, Int.reduceBEq, Int.reduceBNe, Int.reduceEq, beq_self_eq_true, reduceCtorEq, decide_true, decide_false, if_pos, if_neg, e]) (by simp (disch := (first | omega | (simp only [go_sem, ↓reduceIte, Nat.reduceEqDiff, Nat.reduceAdd, Nat.reduceMul, Nat.reduceSub, Nat.reduceLT, Nat.reduceLeDiff, Nat.reduceBNe, Nat.reduceBEq, Int.reduceToNat, Int.reduceAdd, Int.reduceSub, Int.reduceMul, Int.reduceLT, Int.reduceLE, Int.reduceNeg, Int.reduceBEq, Int.reduceBNe, Int.reduceEq, beq_self_eq_true, reduceCtorEq, decide_true, decide_false, if_pos, if_neg]; first | done | omega))) only [go_sem, ↓reduceIte, Nat.reduceEqDiff, Nat.reduceAdd, Nat.reduceMul, Nat.reduceSub, Nat.reduceLT, Nat.reduceLeDiff, Nat.reduceBNe, Nat.reduceBEq, Int.reduceToNat, Int.reduceAdd, Int.reduceSub, Int.reduceMul, Int.reduceLT, Int.reduceLE, Int.reduceNeg, Int.reduceBEq, Int.reduceBNe, Int.reduceEq, beq_self_eq_true, reduceCtorEq, decide_true, decide_false, if_pos, if_neg]) (by decide) (by decide))⟩
  intro _ _
  have q1n := hq_nonneg hv (u := u) (t := t1) hu0 ht1b.1
  have q1l := hq_lt hv hu1 ht1b.2
  have r1 := half_rest (u := u) (t := t1) hv
  have r1b := half_rest_bd (u := u) (t := t1) hv
  have Yb : hy y1 y0 < 18446744073709551616 := by omega
  have e21 : IntKind.u64.wrap (IntKind.u64.wrap (IntKind.u64.wrap (u * 4294967296) + t1) - IntKind.u64.wrap (hq y1 y0 u t1 * hy y1 y0)) = (u * 4294967296 + t1) % hy y1 y0 := by
    rw [IntKind.wrap_u64, IntKind.wrap_u64, IntKind.wrap_u64, IntKind.wrap_u64]
    generalize hq y1 y0 u t1 * hy y1 y0 = m at r1 ⊢
    omega
  refine R_seq ?_
  (first | refine R_region ?_ | refine R_drawA (by kernel_rfl) (by kernel_rfl) ?_); refine gos ?_
  rw [e21]
  generalize hv0 : (u * 4294967296 + t1) % hy y1 y0 = v at *
  obtain ⟨v1, v2⟩ := r1b
  have f1 : v.tdiv y1 = v / y1 := Int.tdiv_eq_ediv_of_nonneg v1
  obtain ⟨k1', k2', k3', k4', k5', k6'⟩ := half_init hv v1 v2 ht0b.1 ht0b.2
  have f2 : IntKind.u64.wrap (v - IntKind.u64.wrap (v / y1 * y1)) = v % y1 := by
    have : 0 ≤ v / y1 * y1 := Int.mul_nonneg k5' (by have := hv.a; omega)
    rw [wrapu (n := v / y1 * y1) (by omega) (by omega)]
    rw [wrapu (by omega) (by omega)]
    omega
  refine go ?_
  rw [f1]
  refine R_midB (fun _ : Unit => ⟨tl [(2, .sc (.int .u64 (hy y1 y0))), (8, .sc (.int .u64 s)), (14, .sc (.int .u64 t0)), (15, .sc (.int .u64 (hq y1 y0 u t1))), (9, .sc (.int .u64 y1)), (10, .sc (.int .u64 y0)), (17, .sc (.int .u64 v)), (18, .sc (.int .u64 (hq y1 y0 v t0)))], ol [], 0, [], 135⟩) (fun _ => True) ?_ ?_
  · refine R_loop (fun p : Int × Int => ⟨tl [(2, .sc (.int .u64 (hy y1 y0))), (8, .sc (.int .u64 s)), (14, .sc (.int .u64 t0)), (15, .sc (.int .u64 (hq y1 y0 u t1))), (9, .sc (.int .u64 y1)), (10, .sc (.int .u64 y0)), (17, .sc (.int .u64 v)), (18, .sc (.int .u64 p.1)), (16, .sc (.int .u64 p.2))], ol [], 0, [], 135⟩)
      (fun p => 0 ≤ p.2 ∧ p.2 < 4294967296 ∧ p.1 * y1 + p.2 = v ∧ hq y1 y0 v t0 ≤ p.1 ∧ 0 ≤ p.1 ∧ p.1 ≤ 4294967297) (fun p => p.1.toNat) (v / y1, v % y1) [] (Less.mk' (by simp (disch := (first | omega | (simp only [go_sem, ↓reduceIte, Nat.reduceEqDiff, Nat.reduceAdd, Nat.reduceMul, Nat.reduceSub, Nat.reduceLT, Nat.reduceLeDiff, Nat.reduceBNe, Nat.reduceBEq, Int.reduceToNat, Int.reduceAdd, Int.reduceSub, Int.reduceMul, Int.reduceLT, Int.reduceLE, Int.reduceNeg, Int.reduceBEq, Int.reduceBNe, Int.reduceEq, beq_self_eq_true, reduceCtorEq, decide_true, decide_false, if_pos, if_neg]; first | done | omega))) only [go_sem, ↓reduceIte, Nat.reduceEqDiff, Nat.reduceAdd, Nat.reduceMul, Nat.reduceSub, Nat.reduceLT, Nat.reduceLeDiff, Nat.reduceBNe, Nat.reduceBEq, Int.reduceToNat, Int.reduceAdd, Int.reduceSub, Int.reduceMul, Int.reduceLT, Int.reduceLE, Int.reduceNeg, Int.reduceBEq, Int.reduceBNe, Int.reduceEq, beq_self_eq_true, reduceCtorEq, decide_true, decide_false, if_pos, if_neg, f1, f2]) (by simp (disch := (first | omega | (simp only [go_sem, ↓reduceIte, Nat.reduceEqDiff, Nat.reduceAdd, Nat.reduceMul, Nat.reduceSub, Nat.reduceLT, Nat.reduceLeDiff, Nat.reduceBNe, Nat.reduceBEq, Int.reduceToNat, Int.reduceAdd, Int.reduceSub, Int.reduceMul, Int.reduceLT, Int.reduceLE, Int.reduceNeg, Int.reduceBEq, Int.reduceBNe, Int.reduceEq, beq_self_eq_true, reduceCtorEq, decide_true, decide_false, if_pos, if_neg]; first | done | omega))) only [go_sem, ↓reduceIte, Nat.reduceEqDiff, Nat.reduceAdd, Nat.reduceMul, Nat.reduceSub, Nat.reduceLT, Nat.reduceLeDiff, Nat.reduceBNe, Nat.reduceBEq, Int.reduceToNat, Int.reduceAdd, Int.reduceSub, Int.reduceMul, Int.reduceLT, Int.reduceLE, Int.reduceNeg, Int.reduceBEq, Int.reduceBNe, Int.reduceEq, beq_self_eq_true, reduceCtorEq, decide_true, decide_false, if_pos, if_neg, f1, f2]) (by decide) (by decide)) (half_init hv v1 v2 ht0b.1 ht0b.2) fun p hi => ?_
    obtain ⟨q, r⟩ := p
    obtain ⟨i1, i2, i3, i4, i5, i6⟩ := hi
    simp only at i1 i2 i3 i4 i5 i6
    simp only
    have hqn := hq_nonneg hv (u := v) (t := t0) v1 ht0b.1
    have hwq : q < 4294967296 → IntKind.u64.wrap (q * y0) = q * y0 := fun hc => by
      have m1 : 0 ≤ q * y0 := Int.mul_nonneg i5 (by omega)
      have m2 : q * y0 ≤ 4294967295 * 4294967295 := Int.mul_le_mul (by omega) (by omega) (by omega) (by omega)
      exact wrapu m1 (by omega)
    refine go ?_
    refine cnd (fun h => ?_) (fun h => ?_)
    · simp only [decide_eq_true_eq, decide_eq_false_iff_not, Bool.or_eq_true, Bool.and_eq_true, Bool.or_eq_false_iff, Bool.and_eq_false_iff, Bool.not_eq_true', Bool.not_eq_false', bne_iff_ne, beq_iff_eq, ne_eq, bne_eq_false_iff_eq, beq_eq_false_iff_ne, ge_iff_le, gt_iff_lt, Int.not_le, Int.not_lt] at h
      have hc : 4294967296 ≤ q ∨ 4294967296 * r + t0 < q * y0 := by
        by_cases hc : 4294967296 ≤ q
        · exact .inl hc
        · rw [hwq (by omega)] at h; omega
      obtain ⟨d1, d2⟩ := half_down hv v1 v2 ht0b.1 ht0b.2 i3 i4 hc
      refine go ?_
      refine cnd (fun h => ?_) (fun h => ?_)
      · simp only [decide_eq_true_eq, decide_eq_false_iff_not, Bool.or_eq_true, Bool.and_eq_true, Bool.or_eq_false_iff, Bool.and_eq_false_iff, Bool.not_eq_true', Bool.not_eq_false', bne_iff_ne, beq_iff_eq, ne_eq, bne_eq_false_iff_eq, beq_eq_false_iff_ne, ge_iff_le, gt_iff_lt, Int.not_le, Int.not_lt] at h
        have e := half_stop hv ht0b.1 (show 0 ≤ r + y1 by omega) (show 0 ≤ q - 1 by omega) (by omega) d1 d2 (.inr (by omega))
        exact R_exitBR (by decide) ⟨(), trivial, Sub.less (ids := []) (Less.mk' (by simp (disch := (first | omega | (simp only [go_sem, ↓reduceIte, Nat.reduceEqDiff, Nat.reduceAdd, Nat.reduceMul, Nat.reduceSub, Nat.reduceLT, Nat.reduceLeDiff, Nat.reduceBNe, Nat.reduceBEq, Int.reduceToNat, Int.reduceAdd, Int.reduceSub, Int.reduceMul, Int.reduceLT, Int.reduceLE, Int.reduceNeg, Int.reduceBEq, Int.reduceBNe, Int.reduceEq, beq_self_eq_true, reduceCtorEq, decide_true, decide_false, if_pos, if_neg]; first | done | omega))) only [go_sem, ↓reduceIte, Nat.reduceEqDiff, Nat.reduceAdd, Nat.reduceMul, Nat.reduceSub, Nat.reduceLT, Nat.reduceLeDiff, Nat.reduceBNe, Nat.reduceBEq, Int.reduceToNat, Int.reduceAdd, Int.reduceSub, Int.reduceMul, Int.reduceLT, Int.reduceLE, Int.reduceNeg, Int.reduceBEq, Int.reduceBNe, Int.reduceEq, beq_self_eq_true, reduceCtorEq, decide_true, decide_false, if_pos, if_neg, e]) (by simp (disch := (first | omega | (simp only [go_sem, ↓reduceIte, Nat.reduceEqDiff, Nat.reduceAdd, Nat.reduceMul, Nat.reduceSub, Nat.reduceLT, Nat.reduceLeDiff, Nat.reduceBNe, Nat.reduceBEq, Int.reduceToNat, Int.reduceAdd, Int.reduceSub, Int.reduceMul, Int.reduceLT, Int.reduceLE, Int.reduceNeg, Int.reduceBEq, Int.reduceBNe, Int.reduceEq, beq_self_eq_true, reduceCtorEq, decide_true, decide_false, if_pos, if_neg]; first | done | omega))) only [go_sem, ↓reduceIte, Nat.reduceEqDiff, Nat.reduceAdd, Nat.reduceMul, Nat.reduceSub, Nat.reduceLT, Nat.reduceLeDiff, Nat.reduceBNe, Nat.reduceBEq, Int.reduceToNat, Int.reduceAdd, Int.reduceSub, Int.reduceMul, Int.reduceLT, Int.reduceLE, Int.reduceNeg, Int.reduceBEq, Int.reduceBNe, Int.reduceEq, beq_self_eq_true, reduceCtorEq, decide_true, decide_false, if_pos, if_neg]) (by decide) (by decide))⟩
      · simp only [decide_eq_true_eq, decide_eq_false_iff_not, Bool.or_eq_true, Bool.and_eq_true, Bool.or_eq_false_iff, Bool.and_eq_false_iff, Bool.not_eq_true', Bool.not_eq_false', bne_iff_ne, beq_iff_eq, ne_eq, bne_eq_false_iff_eq, beq_eq_false_iff_ne, ge_iff_le, gt_iff_lt, Int.not_le, Int.not_lt] at h
        refine go ?_
        refine R_nilR ⟨[], _, ?_, (q - 1, r + y1), ⟨by simp only; omega, by simp only; omega, d1, d2, by simp only; omega, by simp only; omega⟩, by omega, rfl⟩; exact lessA
    · simp only [decide_eq_true_eq, decide_eq_false_iff_not, Bool.or_eq_true, Bool.and_eq_true, Bool.or_eq_false_iff, Bool.and_eq_false_iff, Bool.not_eq_true', Bool.not_eq_false', bne_iff_ne, beq_iff_eq, ne_eq, bne_eq_false_iff_eq, beq_eq_false_iff_ne, ge_iff_le, gt_iff_lt, Int.not_le, Int.not_lt] at h
      rw [hwq (by omega)] at h
      have e := half_stop hv ht0b.1 i1 i5 (by omega) i3 i4 (.inl (by omega))
      exact R_exitR ⟨(), trivial, Sub.less (ids := []) (Less.mk' (by simp (disch := (first | omega | (simp only [go_sem, ↓reduceIte, Nat.reduceEqDiff, Nat.reduceAdd, Nat.reduceMul, Nat.reduceSub, Nat.reduceLT, Nat.reduceLeDiff, Nat.reduceBNe, Nat.reduceBEq, Int.reduceToNat, Int.reduceAdd, Int.reduceSub, Int.reduceMul, Int.reduceLT, Int.reduceLE, Int.reduceNeg, Int.reduceBEq, Int.reduceBNe, Int.reduceEq, beq_self_eq_true, reduceCtorEq, decide_true, decide_false, if_pos, if_neg]; first | done | omega))) only [go_sem, ↓reduceIte, Nat.reduceEqDiff, Nat.reduceAdd, Nat.reduceMul, Nat.reduceSub, Nat.reduceLT, Nat.reduceLeDiff, Nat.reduceBNe, Nat.reduceBEq, Int.reduceToNat, Int.reduceAdd, Int.reduceSub, Int.reduceMul, Int.reduceLT, Int.reduceLE, Int.reduceNeg, Int.reduceBEq, Int.reduceBNe, Int.reduceEq, beq_self_eq_true, reduceCtorEq, decide_true, decide_false, if_pos, if_neg, e]) (by simp (disch := (first | omega | (simp only [go_sem, ↓reduceIte, Nat.reduceEqDiff, Nat.reduceAdd, Nat.reduceMul, Nat.reduceSub, Nat.reduceLT, Nat.reduceLeDiff, Nat.reduceBNe, Nat.reduceBEq, Int.reduceToNat, Int.reduceAdd, Int.reduceSub, Int.reduceMul, Int.reduceLT, Int.reduceLE, Int.reduceNeg, Int.reduceBEq, Int.reduceBNe, Int.reduceEq, beq_self_eq_true, reduceCtorEq, decide_true, decide_false, if_pos, if_neg]; first | done | omega))) only [go_sem, ↓reduceIte, Nat.reduceEqDiff, Nat.reduceAdd, Nat.reduceMul, Nat.reduceSub, Nat.reduceLT, Nat.reduceLeDiff, Nat.reduceBNe, Nat.reduceBEq, Int.reduceToNat, Int.reduceAdd, Int.reduceSub, Int.reduceMul, Int.reduceLT, Int.reduceLE, Int.reduceNeg, Int.reduceBEq, Int.reduceBNe, Int.reduceEq, beq_self_eq_true, reduceCtorEq, decide_true, decide_false, if_pos, if_neg]) (by decide) (by decide))⟩
  intro _ _
  have q0n := hq_nonneg hv (u := v) (t := t0) v1 ht0b.1
  have q0l := hq_lt hv v2 ht0b.2
  have r0 := half_rest (u := v) (t := t0) hv
  have r0b := half_rest_bd (u := v) (t := t0) hv
  have e22 : IntKind.u64.wrap (IntKind.u64.wrap (IntKind.u64.wrap (v * 4294967296) + t0) - IntKind.u64.wrap (hq y1 y0 v t0 * hy y1 y0)) = (v * 4294967296 + t0) % hy y1 y0 := by
    rw [IntKind.wrap_u64, IntKind.wrap_u64, IntKind.wrap_u64, IntKind.wrap_u64]
    generalize hq y1 y0 v t0 * hy y1 y0 = m at r0 ⊢
    omega
  rw [← hs1, ← hs2]
  refine go ?_
  rw [e22]
  refine R_ret (finA [])
end Go.Proofs.YtglnkfpmogaifaaGreatDoor.V

/-
  Products; a quotient by one group.
-/
set_option linter.unusedSimpArgs false
set_option linter.unusedVariables false
namespace Go.Proofs.YtglnkfpmogaifaaGreatDoor.V
open Go Go.Proofs Go.RowKit

theorem eMul {x y : Int} (hx : 0 ≤ x ∧ x < 18446744073709551616) (hy : 0 ≤ y ∧ y < 18446744073709551616) : ∃ h l : Int, x * y = h * 18446744073709551616 + l ∧ 0 ≤ h ∧ 0 ≤ l ∧ l < 18446744073709551616 ∧ Con Tryz.prog 98 [.sc (.int .u64 x), .sc (.int .u64 y)] (.tp [.sc (.int .u64 h), .sc (.int .u64 l)]) [] := by
  have := Int.mul_nonneg hx.1 hy.1
  refine ⟨x * y / 18446744073709551616, x * y % 18446744073709551616, ?_, ?_, ?_, ?_, lMul64 hx hy⟩ <;> omega
theorem eAdd {x y : Int} (hx : 0 ≤ x ∧ x < 18446744073709551616) (hy : 0 ≤ y ∧ y < 18446744073709551616) : ∃ h l : Int, x + y = h * 18446744073709551616 + l ∧ 0 ≤ h ∧ 0 ≤ l ∧ l < 18446744073709551616 ∧
    ∀ w, (callFunc 99 [Value.int .u64 x, .int .u64 y, .int .u64 0].toArray).run Tryz.prog w = .ok (.value (.tuple #[.int .u64 l, .int .u64 h])) w := by
  refine ⟨(x + y) / 18446744073709551616, (x + y) % 18446744073709551616, ?_, ?_, ?_, ?_, xAdd64 hx hy⟩ <;> omega
theorem eDiv {hi lo y : Int} (h0 : 0 ≤ hi) (h1 : hi < y) (l0 : 0 ≤ lo) (l1 : lo < 18446744073709551616) (y1 : y < 18446744073709551616) : ∃ q r : Int, hi * 18446744073709551616 + lo = q * y + r ∧ 0 ≤ q ∧ 0 ≤ r ∧ r < y ∧
    Con Tryz.prog 100 [.sc (.int .u64 hi), .sc (.int .u64 lo), .sc (.int .u64 y)] (.tp [.sc (.int .u64 q), .sc (.int .u64 r)]) [] := by
  refine ⟨(hi * 18446744073709551616 + lo) / y, (hi * 18446744073709551616 + lo) % y, ?_, Int.ediv_nonneg (by omega) (by omega), Int.emod_nonneg _ (by omega), Int.emod_lt_of_pos _ (by omega), cDiv64 h0 h1 l0 l1 y1⟩
  have := Int.emod_add_mul_ediv (hi * 18446744073709551616 + lo) y
  rw [Int.mul_comm y] at this
  omega

theorem cTimes {a b : Nat} (h : ln a + ln b ≤ 1000000000) : Con Tryz.prog 90 [ms a, ms b] (ms (a * b)) [] := by
  obtain ⟨A, hA⟩ : ∃ A, A = dig BB a := ⟨_, rfl⟩
  obtain ⟨B, hB⟩ : ∃ B, B = dig BB b := ⟨_, rfl⟩
  have dA : Dg BB A := hA ▸ dg_dig BB2 a
  have dB : Dg BB B := hB ▸ dg_dig BB2 b
  have vA : val BB A = a := hA ▸ val_dig BB2 a
  have vB : val BB B = b := hB ▸ val_dig BB2 b
  show Con _ _ [msl (dig BB a), msl (dig BB b)] _ _
  unfold ln at h
  rw [← hA, ← hB] at h ⊢
  obtain ⟨n, hn⟩ : ∃ n, n = A.length + B.length := ⟨_, rfl⟩
  have hn1 : ((A.length : Int) + B.length).toNat = n := by omega
  refine Con.of_body [(0, msl A), (1, msl B)] Tryz.func90 rfl ca90 84 rfl (by simp) rfl ?_; refine T_of_R ?_
  refine go ?_
  refine R_loop (fun p : Nat × List Int => ⟨tl [(1, msl B), (5, .rf 0 0 n 1), (20, msl A), (21, .sc (.int .i64 A.length)), (22, .sc (.int .i64 p.1))], ol [(0, ⟨ints .u64 p.2, 98, 1, false⟩)], 1, [], 84⟩)
    (fun p => p.1 ≤ A.length ∧ p.2.length = n ∧ val BB p.2 = val BB (A.take p.1) * b ∧ Dg BB p.2 ∧ ∀ k, p.1 + B.length ≤ k → p.2.getD k 0 = 0) (fun p => A.length - p.1)
    (0, List.replicate n 0) [0] (Less.mk' (by simp (disch := (first | omega | (simp only [go_sem, ↓reduceIte, Nat.reduceEqDiff, Nat.reduceAdd, Nat.reduceMul, Nat.reduceSub, Nat.reduceLT, Nat.reduceLeDiff, Nat.reduceBNe, Nat.reduceBEq, Int.reduceToNat, Int.reduceAdd, Int.reduceSub, Int.reduceMul, Int.reduceLT, Int.reduceLE, Int.reduceNeg, Int.reduceBEq, Int.reduceBNe, Int.reduceEq, beq_self_eq_true, reduceCtorEq, decide_true, decide_false, if_pos, if_neg]; first | done | omega))) only [go_sem, ↓reduceIte, Nat.reduceEqDiff, Nat.reduceAdd, Nat.reduceMul, Nat.reduceSub, Nat.reduceLT, Nat.reduceLeDiff, Nat.reduceBNe, Nat.reduceBEq, Int.reduceToNat, Int.reduceAdd, Int.reduceSub, Int.reduceMul, Int.reduceLT, Int.reduceLE, Int.reduceNeg, Int.reduceBEq, Int.reduceBNe, Int.reduceEq, beq_self_eq_true, reduceCtorEq, decide_true, decide_false, if_pos, if_neg, hn1]) (by simp (disch := (first | omega | (simp only [go_sem, ↓reduceIte, Nat.reduceEqDiff, Nat.reduceAdd, Nat.reduceMul, Nat.reduceSub, Nat.reduceLT, Nat.reduceLeDiff, Nat.reduceBNe, Nat.reduceBEq, Int.reduceToNat, Int.reduceAdd, Int.reduceSub, Int.reduceMul, Int.reduceLT, Int.reduceLE, Int.reduceNeg, Int.reduceBEq, Int.reduceBNe, Int.reduceEq, beq_self_eq_true, reduceCtorEq, decide_true, decide_false, if_pos, if_neg]; first | done | omega))) only [go_sem, ↓reduceIte, Nat.reduceEqDiff, Nat.reduceAdd, Nat.reduceMul, Nat.reduceSub, Nat.reduceLT, Nat.reduceLeDiff, Nat.reduceBNe, Nat.reduceBEq, Int.reduceToNat, Int.reduceAdd, Int.reduceSub, Int.reduceMul, Int.reduceLT, Int.reduceLE, Int.reduceNeg, Int.reduceBEq, Int.reduceBNe, Int.reduceEq, beq_self_eq_true, reduceCtorEq, decide_true, decide_false, if_pos, if_neg, hn1]) (by decide) (by decide)) ⟨by omega, by simp, by simp [val, val_zeros], dg_zeros (by decide) n, fun k _ => gzeros n k⟩ fun p hi => ?_
  obtain ⟨i, C⟩ := p
  obtain ⟨i1, i2, i3, i4, i5⟩ := hi
  simp only at i1 i2 i3 i4 i5
  simp only
  refine go ?_
  refine cnd (fun h => ?_) (fun h => ?_)
  · simp only [decide_eq_true_eq, decide_eq_false_iff_not, Bool.or_eq_true, Bool.and_eq_true, Bool.or_eq_false_iff, Bool.and_eq_false_iff, Bool.not_eq_true', Bool.not_eq_false', bne_iff_ne, beq_iff_eq, ne_eq, bne_eq_false_iff_eq, beq_eq_false_iff_ne, ge_iff_le, gt_iff_lt, Int.not_le, Int.not_lt] at h
    have ai := dA.toB i
    refine go ?_
    refine R_loop (fun p : Nat × List Int × Int => ⟨tl [(1, msl B), (5, .rf 0 0 n 1), (6, .sc (.int .i64 i)), (7, .sc (.int .u64 (A.getD i 0))), (8, .sc (.int .u64 p.2.2)), (20, msl A), (21, .sc (.int .i64 A.length)), (22, .sc (.int .i64 i)), (27, msl B), (28, .sc (.int .i64 B.length)), (29, .sc (.int .i64 p.1))], ol [(0, ⟨ints .u64 p.2.1, 98, 1, false⟩)], 1, [], 84⟩)
      (fun p => p.1 ≤ B.length ∧ p.2.1.length = n ∧ val BB p.2.1 = val BB (A.take i) * b + A.getD i 0 * ((BB ^ i : Nat) : Int) * val BB (B.take p.1) - p.2.2 * ((BB ^ (i + p.1) : Nat) : Int) ∧ Dg BB p.2.1 ∧ (0 ≤ p.2.2 ∧ p.2.2 < 1000000000000000000) ∧ ∀ k, i + B.length ≤ k → p.2.1.getD k 0 = 0) (fun p => B.length - p.1)
      (0, C, 0) [0] lessA ⟨by omega, i2, by simp [val, i3], i4, ⟨Int.le_refl 0, show (0 : Int) < 1000000000000000000 by omega⟩, i5⟩ fun p hi => ?_
    obtain ⟨j, K, w⟩ := p
    obtain ⟨k1, k2, k3, k4, k5, k6⟩ := hi
    simp only at k1 k2 k3 k4 k5 k6
    simp only
    refine go ?_
    refine cnd (fun h => ?_) (fun h => ?_)
    · simp only [decide_eq_true_eq, decide_eq_false_iff_not, Bool.or_eq_true, Bool.and_eq_true, Bool.or_eq_false_iff, Bool.and_eq_false_iff, Bool.not_eq_true', Bool.not_eq_false', bne_iff_ne, beq_iff_eq, ne_eq, bne_eq_false_iff_eq, beq_eq_false_iff_ne, ge_iff_le, gt_iff_lt, Int.not_le, Int.not_lt] at h
      have bj := dB.toB j
      have cj := k4.toB (i + j)
      have hx : ((i : Int) + (j : Int)).toNat = i + j := by omega
      have hm : A.getD i 0 * B.getD j 0 ≤ 999999999999999999 * 999999999999999999 := Int.mul_le_mul (by omega) (by omega) (by omega) (by omega)
      obtain ⟨h1, l1, e1, a1, a2, a3, c1⟩ := eMul (x := A.getD i 0) (y := B.getD j 0) ⟨by omega, by omega⟩ ⟨by omega, by omega⟩
      obtain ⟨h2, l2, e2, b1, b2, b3, c2⟩ := eAdd (x := l1) (y := w) ⟨by omega, by omega⟩ ⟨by omega, by omega⟩
      obtain ⟨h3, l3, e3, d1, d2, d3, c3⟩ := eAdd (x := l2) (y := K.getD (i + j) 0) ⟨by omega, by omega⟩ ⟨by omega, by omega⟩
      obtain ⟨q, r, e4, f1, f2, f3, c4⟩ := eDiv (hi := h1 + h2 + h3) (lo := l3) (y := 1000000000000000000) (by omega) (by omega) (by omega) (by omega) (by omega)
      refine go ?_
      refine call (c1) ?_
      refine go ?_
      refine ext (c2) ?_
      refine go ?_
      rw [hx]
      refine ext (c3) ?_
      refine go ?_
      refine call (c4) ?_
      have hq : q < 1000000000000000000 := by omega
      have hq2 : q * 1000000000000000000 + r = A.getD i 0 * B.getD j 0 + w + K.getD (i + j) 0 := by omega
      refine go ?_
      rw [hx]
      refine R_nilR ⟨[0], _, ?_, (j + 1, K.set (i + j) r, q), ⟨by simp only; omega, by simp only [List.length_set]; exact k2, ?_, k4.set f2 f3, ⟨f1, hq⟩, ?_⟩, by omega, rfl⟩; exact (Less.mk' (by simp (disch := (first | omega | (simp only [go_sem, ↓reduceIte, Nat.reduceEqDiff, Nat.reduceAdd, Nat.reduceMul, Nat.reduceSub, Nat.reduceLT, Nat.reduceLeDiff, Nat.reduceBNe, Nat.reduceBEq, Int.reduceToNat, Int.reduceAdd, Int.reduceSub, Int.reduceMul, Int.reduceLT, Int.reduceLE, Int.reduceNeg, Int.reduceBEq, Int.reduceBNe, Int.reduceEq, beq_self_eq_true, reduceCtorEq, decide_true, decide_false, if_pos, if_neg]; first | done | omega))) only [go_sem, ↓reduceIte, Nat.reduceEqDiff, Nat.reduceAdd, Nat.reduceMul, Nat.reduceSub, Nat.reduceLT, Nat.reduceLeDiff, Nat.reduceBNe, Nat.reduceBEq, Int.reduceToNat, Int.reduceAdd, Int.reduceSub, Int.reduceMul, Int.reduceLT, Int.reduceLE, Int.reduceNeg, Int.reduceBEq, Int.reduceBNe, Int.reduceEq, beq_self_eq_true, reduceCtorEq, decide_true, decide_false, if_pos, if_neg, hx]) (by simp (disch := (first | omega | (simp only [go_sem, ↓reduceIte, Nat.reduceEqDiff, Nat.reduceAdd, Nat.reduceMul, Nat.reduceSub, Nat.reduceLT, Nat.reduceLeDiff, Nat.reduceBNe, Nat.reduceBEq, Int.reduceToNat, Int.reduceAdd, Int.reduceSub, Int.reduceMul, Int.reduceLT, Int.reduceLE, Int.reduceNeg, Int.reduceBEq, Int.reduceBNe, Int.reduceEq, beq_self_eq_true, reduceCtorEq, decide_true, decide_false, if_pos, if_neg]; first | done | omega))) only [go_sem, ↓reduceIte, Nat.reduceEqDiff, Nat.reduceAdd, Nat.reduceMul, Nat.reduceSub, Nat.reduceLT, Nat.reduceLeDiff, Nat.reduceBNe, Nat.reduceBEq, Int.reduceToNat, Int.reduceAdd, Int.reduceSub, Int.reduceMul, Int.reduceLT, Int.reduceLE, Int.reduceNeg, Int.reduceBEq, Int.reduceBNe, Int.reduceEq, beq_self_eq_true, reduceCtorEq, decide_true, decide_false, if_pos, if_neg, hx]) (by decide) (by decide))
      · show val BB (K.set (i + j) r) = val BB (A.take i) * b + A.getD i 0 * ((BB ^ i : Nat) : Int) * val BB (B.take (j + 1)) - q * ((BB ^ (i + (j + 1)) : Nat) : Int)
        rw [val_set _ _ _ _ (by omega), val_take_succ', k3, show i + (j + 1) = i + j + 1 by omega, powB, Nat.pow_add, Int.natCast_mul]
        have hr : r = A.getD i 0 * B.getD j 0 + w + K.getD (i + j) 0 - q * 1000000000000000000 := by omega
        rw [hr]
        grind
      · intro k hk
        simp only
        rw [gset _ _ _ _ (by omega), if_neg (by omega)]
        exact k6 k hk
    · simp only [decide_eq_true_eq, decide_eq_false_iff_not, Bool.or_eq_true, Bool.and_eq_true, Bool.or_eq_false_iff, Bool.and_eq_false_iff, Bool.not_eq_true', Bool.not_eq_false', bne_iff_ne, beq_iff_eq, ne_eq, bne_eq_false_iff_eq, beq_eq_false_iff_ne, ge_iff_le, gt_iff_lt, Int.not_le, Int.not_lt] at h
      obtain rfl : j = B.length := by omega
      have hx : ((i : Int) + (B.length : Int)).toNat = i + B.length := by omega
      rw [List.take_length, vB] at k3
      have e0 := k6 (i + B.length) (Nat.le_refl _)
      refine go ?_
      rw [hx]
      refine R_nilR ⟨[0], _, ?_, (i + 1, K.set (i + B.length) w), ⟨by simp only; omega, by simp only [List.length_set]; exact k2, ?_, k4.set k5.1 (by show w < (1000000000000000000 : Int); exact k5.2), ?_⟩, by omega, rfl⟩; exact (Less.mk' (by simp (disch := (first | omega | (simp only [go_sem, ↓reduceIte, Nat.reduceEqDiff, Nat.reduceAdd, Nat.reduceMul, Nat.reduceSub, Nat.reduceLT, Nat.reduceLeDiff, Nat.reduceBNe, Nat.reduceBEq, Int.reduceToNat, Int.reduceAdd, Int.reduceSub, Int.reduceMul, Int.reduceLT, Int.reduceLE, Int.reduceNeg, Int.reduceBEq, Int.reduceBNe, Int.reduceEq, beq_self_eq_true, reduceCtorEq, decide_true, decide_false, if_pos, if_neg]; first | done | omega))) only [go_sem, ↓reduceIte, Nat.reduceEqDiff, Nat.reduceAdd, Nat.reduceMul, Nat.reduceSub, Nat.reduceLT, Nat.reduceLeDiff, Nat.reduceBNe, Nat.reduceBEq, Int.reduceToNat, Int.reduceAdd, Int.reduceSub, Int.reduceMul, Int.reduceLT, Int.reduceLE, Int.reduceNeg, Int.reduceBEq, Int.reduceBNe, Int.reduceEq, beq_self_eq_true, reduceCtorEq, decide_true, decide_false, if_pos, if_neg, hx]) (by simp (disch := (first | omega | (simp only [go_sem, ↓reduceIte, Nat.reduceEqDiff, Nat.reduceAdd, Nat.reduceMul, Nat.reduceSub, Nat.reduceLT, Nat.reduceLeDiff, Nat.reduceBNe, Nat.reduceBEq, Int.reduceToNat, Int.reduceAdd, Int.reduceSub, Int.reduceMul, Int.reduceLT, Int.reduceLE, Int.reduceNeg, Int.reduceBEq, Int.reduceBNe, Int.reduceEq, beq_self_eq_true, reduceCtorEq, decide_true, decide_false, if_pos, if_neg]; first | done | omega))) only [go_sem, ↓reduceIte, Nat.reduceEqDiff, Nat.reduceAdd, Nat.reduceMul, Nat.reduceSub, Nat.reduceLT, Nat.reduceLeDiff, Nat.reduceBNe, Nat.reduceBEq, Int.reduceToNat, Int.reduceAdd, Int.reduceSub, Int.reduceMul, Int.reduceLT, Int.reduceLE, Int.reduceNeg, Int.reduceBEq, Int.reduceBNe, Int.reduceEq, beq_self_eq_true, reduceCtorEq, decide_true, decide_false, if_pos, if_neg, hx]) (by decide) (by decide))
      · show val BB (K.set (i + B.length) w) = val BB (A.take (i + 1)) * b
        rw [val_set _ _ _ _ (by omega), val_take_succ', k3, e0]
        grind
      · intro k hk
        simp only at hk ⊢
        rw [gset _ _ _ _ (by omega), if_neg (by omega)]
        exact k6 k (by omega)
  · simp only [decide_eq_true_eq, decide_eq_false_iff_not, Bool.or_eq_true, Bool.and_eq_true, Bool.or_eq_false_iff, Bool.and_eq_false_iff, Bool.not_eq_true', Bool.not_eq_false', bne_iff_ne, beq_iff_eq, ne_eq, bne_eq_false_iff_eq, beq_eq_false_iff_ne, ge_iff_le, gt_iff_lt, Int.not_le, Int.not_lt] at h
    obtain rfl : i = A.length := by omega
    rw [List.take_length, vA] at i3
    have e : cutI C = dig BB (a * b) := cut_of i4 (by rw [i3, Int.natCast_mul])
    refine go ?_
    refine callz (cTrim' i2) ?_
    rw [e]
    refine go ?_
    refine R_ret (finA [])

theorem cBy {a d : Nat} (h1 : 1 ≤ d) (h2 : d < 18446744073709551616) (h : ln a ≤ 1000000000) : Con Tryz.prog 91 [ms a, .sc (.int .u64 d)] (.tp [ms (a / d), .sc (.int .u64 (a % d : Nat))]) [] := by
  obtain ⟨A, hA⟩ : ∃ A, A = dig BB a := ⟨_, rfl⟩
  have dA : Dg BB A := hA ▸ dg_dig BB2 a
  have vA : val BB A = a := hA ▸ val_dig BB2 a
  show Con _ _ [msl (dig BB a), _] _ _
  unfold ln at h
  rw [← hA] at h ⊢
  refine Con.of_body [(0, msl A), (1, .sc (.int .u64 d))] Tryz.func91 rfl ca91 51 rfl (by simp) rfl ?_; refine T_of_R ?_
  refine go ?_
  refine R_loop (fun p : Nat × List Int × Int => ⟨tl [(0, msl A), (1, .sc (.int .u64 d)), (6, .rf 0 0 A.length 1), (7, .sc (.int .u64 p.2.2)), (8, .sc (.int .i64 ((p.1 : Int) - 1)))], ol [(0, ⟨ints .u64 p.2.1, 98, 1, false⟩)], 1, [], 51⟩)
    (fun p => p.1 ≤ A.length ∧ p.2.1.length = A.length ∧ Dg BB p.2.1 ∧ (0 ≤ p.2.2 ∧ p.2.2 < d) ∧ val BB (A.drop p.1) = val BB (p.2.1.drop p.1) * d + p.2.2) (fun p => p.1)
    (A.length, List.replicate A.length 0, 0) [0] lessA ⟨by simp, by simp, dg_zeros (by decide) _, ⟨by simp, by simp only; omega⟩, by simp [val]⟩ fun p hi => ?_
  obtain ⟨n, K, w⟩ := p
  obtain ⟨k1, k2, k3, k4, k5⟩ := hi
  simp only at k1 k2 k3 k4 k5
  simp only
  have hx : ((n : Int) - 1).toNat = n - 1 := by omega
  refine go ?_
  refine cnd (fun h => ?_) (fun h => ?_)
  · simp only [decide_eq_true_eq, decide_eq_false_iff_not, Bool.or_eq_true, Bool.and_eq_true, Bool.or_eq_false_iff, Bool.and_eq_false_iff, Bool.not_eq_true', Bool.not_eq_false', bne_iff_ne, beq_iff_eq, ne_eq, bne_eq_false_iff_eq, beq_eq_false_iff_ne, ge_iff_le, gt_iff_lt, Int.not_le, Int.not_lt] at h
    have ai := dA.toB (n - 1)
    obtain ⟨g1, l1, e1, a1, a2, a3, c1⟩ := eMul (x := w) (y := 1000000000000000000) ⟨by omega, by omega⟩ ⟨by omega, by omega⟩
    obtain ⟨g2, l2, e2, b1, b2, b3, c2⟩ := eAdd (x := l1) (y := A.getD (n - 1) 0) ⟨by omega, by omega⟩ ⟨by omega, by omega⟩
    obtain ⟨q, r, e4, f1, f2, f3, c4⟩ := eDiv (hi := g1 + g2) (lo := l2) (y := d) (by omega) (by omega) (by omega) (by omega) (by omega)
    have hq : q < 1000000000000000000 := by
      refine Int.lt_of_mul_lt_mul_right (a := (d : Int)) ?_ (by omega)
      omega
    have hy : (n : Int) - 1 - 1 = ((n - 1 : Nat) : Int) - 1 := by omega
    refine go ?_
    refine call (c1) ?_
    refine go ?_
    rw [hx]
    refine ext (c2) ?_
    refine go ?_
    refine call (c4) ?_
    refine go ?_
    rw [hx]
    refine R_nilR ⟨[0], _, ?_, (n - 1, K.set (n - 1) q, r), ⟨by simp only; omega, by simp only [List.length_set]; exact k2, k3.set f1 (by show q < (1000000000000000000 : Int); exact hq), ⟨f2, f3⟩, ?_⟩, by omega, rfl⟩; exact (Less.mk' (by simp (disch := (first | omega | (simp only [go_sem, ↓reduceIte, Nat.reduceEqDiff, Nat.reduceAdd, Nat.reduceMul, Nat.reduceSub, Nat.reduceLT, Nat.reduceLeDiff, Nat.reduceBNe, Nat.reduceBEq, Int.reduceToNat, Int.reduceAdd, Int.reduceSub, Int.reduceMul, Int.reduceLT, Int.reduceLE, Int.reduceNeg, Int.reduceBEq, Int.reduceBNe, Int.reduceEq, beq_self_eq_true, reduceCtorEq, decide_true, decide_false, if_pos, if_neg]; first | done | omega))) only [go_sem, ↓reduceIte, Nat.reduceEqDiff, Nat.reduceAdd, Nat.reduceMul, Nat.reduceSub, Nat.reduceLT, Nat.reduceLeDiff, Nat.reduceBNe, Nat.reduceBEq, Int.reduceToNat, Int.reduceAdd, Int.reduceSub, Int.reduceMul, Int.reduceLT, Int.reduceLE, Int.reduceNeg, Int.reduceBEq, Int.reduceBNe, Int.reduceEq, beq_self_eq_true, reduceCtorEq, decide_true, decide_false, if_pos, if_neg, hx, hy]) (by simp (disch := (first | omega | (simp only [go_sem, ↓reduceIte, Nat.reduceEqDiff, Nat.reduceAdd, Nat.reduceMul, Nat.reduceSub, Nat.reduceLT, Nat.reduceLeDiff, Nat.reduceBNe, Nat.reduceBEq, Int.reduceToNat, Int.reduceAdd, Int.reduceSub, Int.reduceMul, Int.reduceLT, Int.reduceLE, Int.reduceNeg, Int.reduceBEq, Int.reduceBNe, Int.reduceEq, beq_self_eq_true, reduceCtorEq, decide_true, decide_false, if_pos, if_neg]; first | done | omega))) only [go_sem, ↓reduceIte, Nat.reduceEqDiff, Nat.reduceAdd, Nat.reduceMul, Nat.reduceSub, Nat.reduceLT, Nat.reduceLeDiff, Nat.reduceBNe, Nat.reduceBEq, Int.reduceToNat, Int.reduceAdd, Int.reduceSub, Int.reduceMul, Int.reduceLT, Int.reduceLE, Int.reduceNeg, Int.reduceBEq, Int.reduceBNe, Int.reduceEq, beq_self_eq_true, reduceCtorEq, decide_true, decide_false, if_pos, if_neg, hx, hy]) (by decide) (by decide))
    show val BB (A.drop (n - 1)) = val BB ((K.set (n - 1) q).drop (n - 1)) * d + r
    have z1 : n - 1 < A.length := by omega
    have z2 : n - 1 < (K.set (n - 1) q).length := by rw [List.length_set]; omega
    have z3 : n - 1 + 1 = n := by omega
    rw [List.drop_eq_getElem_cons z1, List.drop_eq_getElem_cons z2, z3]
    simp only [val, List.getElem_set_self]
    rw [List.drop_set_of_lt (by omega), k5]
    have z4 : A[n - 1] = A.getD (n - 1) 0 := by simp [List.getD_eq_getElem?_getD, z1]
    rw [z4]
    have : A.getD (n - 1) 0 = q * d + r - w * 1000000000000000000 := by omega
    rw [this]
    show q * (d : Int) + r - w * 1000000000000000000 + 1000000000000000000 * _ = (q + 1000000000000000000 * _) * (d : Int) + r
    grind
  · simp only [decide_eq_true_eq, decide_eq_false_iff_not, Bool.or_eq_true, Bool.and_eq_true, Bool.or_eq_false_iff, Bool.and_eq_false_iff, Bool.not_eq_true', Bool.not_eq_false', bne_iff_ne, beq_iff_eq, ne_eq, bne_eq_false_iff_eq, beq_eq_false_iff_ne, ge_iff_le, gt_iff_lt, Int.not_le, Int.not_lt] at h
    obtain rfl : n = 0 := by omega
    rw [List.drop_zero, List.drop_zero, vA] at k5
    have kn := k3.val_nonneg
    obtain ⟨v, hv⟩ : ∃ v : Nat, val BB K = v := ⟨(val BB K).toNat, by omega⟩
    obtain ⟨u, rfl⟩ : ∃ u : Nat, w = u := ⟨w.toNat, by omega⟩
    rw [hv] at k5
    have k6 : a = v * d + u := by exact_mod_cast k5
    have hdv : a / d = v ∧ a % d = u := (Nat.div_mod_unique (by omega)).2 ⟨by rw [k6, Nat.mul_comm]; omega, by omega⟩
    rw [hdv.1, hdv.2]
    have e : cutI K = dig BB v := cut_of k3 hv
    refine go ?_
    refine callz (cTrim' k2) ?_
    rw [e]
    refine go ?_
    refine R_ret (finA [])
end Go.Proofs.YtglnkfpmogaifaaGreatDoor.V

/-
  A division of long numbers, digit by digit: plain.
-/
set_option linter.unusedSimpArgs false
set_option linter.unusedVariables false
namespace Go.Proofs.YtglnkfpmogaifaaGreatDoor.V

theorem val_drop {B : Nat} (hB : 2 ≤ B) : ∀ (k n : Nat), val B ((dig B n).drop k) = ((n / B ^ k : Nat) : Int)
  | 0, n => by rw [List.drop_zero, val_dig hB]; simp
  | k + 1, n => by
    by_cases e : n = 0
    · rw [e, dig_zero]; simp [val]
    · rw [dig_pos hB e, List.drop_succ_cons, val_drop hB k, Nat.div_div_eq_div_mul, Nat.pow_succ, Nat.mul_comm (B ^ k)]
theorem val_two {B : Nat} : ∀ {L : List Int}, L.length ≤ 2 → val B L = L.getD 0 0 + B * L.getD 1 0
  | [], _ => by simp [val]
  | [x], _ => by simp [val]
  | [x, y], _ => by simp [val]
  | _ :: _ :: _ :: _, h => by simp at h
theorem getD_drop (L : List Int) (k i : Nat) : (L.drop k).getD i 0 = L.getD (k + i) 0 := by
  simp only [List.getD_eq_getElem?_getD, List.getElem?_drop]
/-- The two highest digits that count. -/
theorem high_two {B : Nat} (hB : 2 ≤ B) {n k : Nat} (h : n < B ^ (k + 2)) : ((n / B ^ k : Nat) : Int) = (dig B n).getD k 0 + B * (dig B n).getD (k + 1) 0 := by
  have hl := dig_length_le hB _ _ h
  rw [← val_drop hB, val_two (by rw [List.length_drop]; omega), getD_drop, getD_drop, Nat.add_zero]
/-- The highest digit, and what it leaves. -/
theorem top_bd {B : Nat} (hB : 2 ≤ B) {n : Nat} (hn : n ≠ 0) : ∃ t : Nat, (dig B n).getD ((dig B n).length - 1) 0 = t ∧ 1 ≤ t ∧ t < B ∧ t * B ^ ((dig B n).length - 1) ≤ n ∧ n < (t + 1) * B ^ ((dig B n).length - 1) := by
  have h1 := dig_top hB n hn
  have hl : (dig B n).length ≠ 0 := fun h => hn ((dig_length_zero hB).1 h)
  have h2 := (dg_dig hB n) ((dig B n).length - 1) (by omega)
  refine ⟨((dig B n).getD ((dig B n).length - 1) 0).toNat, by omega, by omega, by omega, ?_⟩
  obtain ⟨t, ht⟩ : ∃ t : Nat, (dig B n).getD ((dig B n).length - 1) 0 = t := ⟨_, (Int.toNat_of_nonneg h2.1).symm⟩
  have hd := val_drop hB ((dig B n).length - 1) n
  rw [val_two (by rw [List.length_drop]; omega), getD_drop, getD_drop, Nat.add_zero, ht, gout _ _ (by omega)] at hd
  have hd' : t = n / B ^ ((dig B n).length - 1) := by omega
  rw [ht, Int.toNat_natCast]
  have hp : 0 < B ^ ((dig B n).length - 1) := Nat.pow_pos (by omega)
  exact ⟨by rw [hd']; exact Nat.div_mul_le_self _ _, by rw [hd']; exact Nat.lt_mul_of_div_lt (by omega) hp⟩
theorem ln_of {B : Nat} (hB : 2 ≤ B) {n k : Nat} (h1 : B ^ k ≤ n) (h2 : n < B ^ (k + 1)) : (dig B n).length = k + 1 := by
  have := dig_length_le hB _ _ h2
  have := dig_length_gt hB h1
  omega
/-- The scale of a divisor. -/
theorem scale {B : Nat} (hB : 2 ≤ B) {b t k : Nat} (h1 : t * B ^ k ≤ b) (h2 : b < (t + 1) * B ^ k) (ht : 1 ≤ t) (ht' : t < B) : 1 ≤ B / (t + 1) ∧ B / (t + 1) < B ∧ B ^ k ≤ b * (B / (t + 1)) ∧ b * (B / (t + 1)) < B ^ (k + 1) := by
  have hp : 0 < B ^ k := Nat.pow_pos (by omega)
  have e1 : 1 ≤ B / (t + 1) := (Nat.le_div_iff_mul_le (by omega)).2 (by omega)
  refine ⟨e1, Nat.div_lt_self (by omega) (by omega), ?_, ?_⟩
  · have := Nat.mul_le_mul (Nat.mul_le_mul_right (B ^ k) ht) e1
    have := Nat.mul_le_mul_right (B / (t + 1)) h1
    omega
  · have h3 := Nat.mul_lt_mul_of_pos_right h2 e1
    have h4 := Nat.mul_le_mul_right (B ^ k) (Nat.div_mul_le_self B (t + 1))
    have h5 : (t + 1) * B ^ k * (B / (t + 1)) = B / (t + 1) * (t + 1) * B ^ k := by rw [Nat.mul_comm, ← Nat.mul_assoc]
    rw [Nat.pow_succ, Nat.mul_comm (B ^ k)]
    omega
theorem dig_shift {B : Nat} (hB : 2 ≤ B) {d : Nat} (hd : d ≠ 0) (i : Nat) : dig B (d * B ^ i) = List.replicate i 0 ++ dig B d := by
  have hg : Dg B (List.replicate i 0 ++ dig B d) := (dg_zeros (by omega) i).append (dg_dig hB d)
  have hv : val B (List.replicate i 0 ++ dig B d) = ((d * B ^ i : Nat) : Int) := by
    rw [val_append, val_zeros, val_dig hB, List.length_replicate, Int.natCast_mul, Int.mul_comm]
    omega
  rw [hg.dig' hB hv]
  have hl : (dig B d).length ≠ 0 := fun h => hd ((dig_length_zero hB).1 h)
  rw [cutI_take (n := (List.replicate i 0 ++ dig B d).length) (Nat.le_refl _) (fun j h1 h2 => by omega) (.inr ?_), List.take_length]
  rw [List.length_append, List.length_replicate, gappend, List.length_replicate, if_neg (by omega), show i + (dig B d).length - 1 - i = (dig B d).length - 1 by omega]
  have := dig_top hB d hd
  omega
/-- One digit of a quotient. -/
theorem digit_step {B : Nat} (hB : 2 ≤ B) {a d i rest g : Nat} {Q : List Int} (hd : 0 < d) (hi : i < Q.length) (h : (a : Int) = val B (Q.drop (i + 1)) * ((B ^ (i + 1) : Nat) : Int) * d + rest) (hg : g * (d * B ^ i) ≤ rest) :
    (a : Int) = val B ((Q.set i g).drop i) * ((B ^ i : Nat) : Int) * d + ((rest - g * (d * B ^ i) : Nat) : Int) := by
  have z2 : i < (Q.set i (g : Int)).length := by rw [List.length_set]; exact hi
  rw [List.drop_eq_getElem_cons z2]
  simp only [val, List.getElem_set_self]
  rw [List.drop_set_of_lt (by omega), h, Nat.pow_succ, Int.ofNat_sub hg]
  push_cast
  grind
end Go.Proofs.YtglnkfpmogaifaaGreatDoor.V

/-
  Quotient and remainder.
-/
set_option linter.unusedSimpArgs false
set_option linter.unusedVariables false
set_option maxHeartbeats 4000000
namespace Go.Proofs.YtglnkfpmogaifaaGreatDoor.V
open Go Go.Proofs Go.RowKit

theorem cOneN (n : Nat) (h : n < BB) : Con Tryz.prog 74 [.sc (.int .u64 n)] (ms n) [] := by
  have := cOne (n := n) (by omega) (by exact_mod_cast h)
  rwa [Int.toNat_natCast] at this
/-- A list of zeros ahead of a number's digits, cut. -/
theorem cTrimZ (i n : Nat) {m : Nat} (hm : m = i + (dig BB n).length) : Con Tryz.prog 71 [.sl m (ints .u64 (List.replicate i 0 ++ dig BB n))] (ms (n * BB ^ i)) [] := by
  have hg : Dg BB (List.replicate i 0 ++ dig BB n) := (dg_zeros (by decide) i).append (dg_dig BB2 n)
  have e : cutI (List.replicate i 0 ++ dig BB n) = dig BB (n * BB ^ i) := cut_of hg (by rw [val_append, val_zeros, val_dig BB2, List.length_replicate, Int.natCast_mul, Int.mul_comm]; omega)
  have := cTrim' (L := List.replicate i 0 ++ dig BB n) (n := m) (by rw [List.length_append, List.length_replicate, hm])
  rwa [e] at this

/-- Less a shifted number. -/
theorem cMinusZ {x d i m : Nat} (hd : d ≠ 0) (hm : m = i + (dig BB d).length) (hx : d * BB ^ i ≤ x) (h : ln x ≤ 1000000000) : Con Tryz.prog 75 [ms x, .sl m (ints .u64 (List.replicate i 0 ++ dig BB d))] (ms (x - d * BB ^ i)) [] := by
  have := cMinus hx h
  have e : ms (d * BB ^ i) = .sl m (ints .u64 (List.replicate i 0 ++ dig BB d)) := by
    show msl (dig BB (d * BB ^ i)) = _
    rw [dig_shift BB2 hd, msl, List.length_append, List.length_replicate, ← hm]
  rwa [e] at this
theorem minN {g : Int} (h0 : 0 ≤ g) : ∃ G : Nat, (if (999999999999999999 : Int) < g then (999999999999999999 : Int) else g) = G ∧ G < 1000000000000000000 ∧ (G = g ∨ G = 999999999999999999) := by
  split
  · exact ⟨999999999999999999, rfl, by omega, .inr rfl⟩
  · exact ⟨g.toNat, by omega, by omega, .inl (by omega)⟩

theorem cOver {a b : Nat} (hb : b ≠ 0) (h : ln a + ln b ≤ 100000000) : Con Tryz.prog 72 [ms a, ms b] (.tp [ms (a / b), ms (a % b)]) [] := by
  unfold ln at h
  obtain ⟨t, t1, t2, t3, t4, t5⟩ := top_bd BB2 hb
  have t3' : t < 1000000000000000000 := t3
  refine Con.of_bodyD [(0, ms a), (1, ms b)] Tryz.func72 rfl ca72 166 rfl (by simp) rfl ?_; refine T_of_R ?_
  refine go ?_
  refine call (cCmp a b) ?_
  refine go ?_
  refine cnd (fun h => ?_) (fun h => ?_)
  · simp only [decide_eq_true_eq, decide_eq_false_iff_not, Bool.or_eq_true, Bool.and_eq_true, Bool.or_eq_false_iff, Bool.and_eq_false_iff, Bool.not_eq_true', Bool.not_eq_false', bne_iff_ne, beq_iff_eq, ne_eq, bne_eq_false_iff_eq, beq_eq_false_iff_ne, ge_iff_le, gt_iff_lt, Int.not_le, Int.not_lt] at h
    have hlt := (cmpN_lt a b).1 h
    have e1 : a / b = 0 := Nat.div_eq_of_lt hlt
    have e2 : a % b = a := Nat.mod_eq_of_lt hlt
    rw [e1, e2, ms_zero]
    refine go ?_
    refine R_ret (fin_data (by first | (simp (disch := (first | omega | (simp only [go_sem, ↓reduceIte, Nat.reduceEqDiff, Nat.reduceAdd, Nat.reduceMul, Nat.reduceSub, Nat.reduceLT, Nat.reduceLeDiff, Nat.reduceBNe, Nat.reduceBEq, Int.reduceToNat, Int.reduceAdd, Int.reduceSub, Int.reduceMul, Int.reduceLT, Int.reduceLE, Int.reduceNeg, Int.reduceBEq, Int.reduceBNe, Int.reduceEq, beq_self_eq_true, reduceCtorEq, decide_true, decide_false, if_pos, if_neg]; first | done | omega))) only [go_sem, ↓reduceIte, Nat.reduceEqDiff, Nat.reduceAdd, Nat.reduceMul, Nat.reduceSub, Nat.reduceLT, Nat.reduceLeDiff, Nat.reduceBNe, Nat.reduceBEq, Int.reduceToNat, Int.reduceAdd, Int.reduceSub, Int.reduceMul, Int.reduceLT, Int.reduceLE, Int.reduceNeg, Int.reduceBEq, Int.reduceBNe, Int.reduceEq, beq_self_eq_true, reduceCtorEq, decide_true, decide_false, if_pos, if_neg] <;> rfl) | fail) (by simp (disch := (first | omega | (simp only [go_sem, ↓reduceIte, Nat.reduceEqDiff, Nat.reduceAdd, Nat.reduceMul, Nat.reduceSub, Nat.reduceLT, Nat.reduceLeDiff, Nat.reduceBNe, Nat.reduceBEq, Int.reduceToNat, Int.reduceAdd, Int.reduceSub, Int.reduceMul, Int.reduceLT, Int.reduceLE, Int.reduceNeg, Int.reduceBEq, Int.reduceBNe, Int.reduceEq, beq_self_eq_true, reduceCtorEq, decide_true, decide_false, if_pos, if_neg]; first | done | omega))) only [go_sem, ↓reduceIte, Nat.reduceEqDiff, Nat.reduceAdd, Nat.reduceMul, Nat.reduceSub, Nat.reduceLT, Nat.reduceLeDiff, Nat.reduceBNe, Nat.reduceBEq, Int.reduceToNat, Int.reduceAdd, Int.reduceSub, Int.reduceMul, Int.reduceLT, Int.reduceLE, Int.reduceNeg, Int.reduceBEq, Int.reduceBNe, Int.reduceEq, beq_self_eq_true, reduceCtorEq, decide_true, decide_false, if_pos, if_neg]))
  · rename_i hs
    simp only [decide_eq_true_eq, decide_eq_false_iff_not, Bool.or_eq_true, Bool.and_eq_true, Bool.or_eq_false_iff, Bool.and_eq_false_iff, Bool.not_eq_true', Bool.not_eq_false', bne_iff_ne, beq_iff_eq, ne_eq, bne_eq_false_iff_eq, beq_eq_false_iff_ne, ge_iff_le, gt_iff_lt, Int.not_le, Int.not_lt] at h
    have hab : b ≤ a := Nat.le_of_not_lt fun hc => absurd ((cmpN_lt a b).2 hc) (by omega)
    clear h
    refine go ?_
    refine cnd (fun h => ?_) (fun h => ?_)
    · simp only [decide_eq_true_eq, decide_eq_false_iff_not, Bool.or_eq_true, Bool.and_eq_true, Bool.or_eq_false_iff, Bool.and_eq_false_iff, Bool.not_eq_true', Bool.not_eq_false', bne_iff_ne, beq_iff_eq, ne_eq, bne_eq_false_iff_eq, beq_eq_false_iff_ne, ge_iff_le, gt_iff_lt, Int.not_le, Int.not_lt] at h
      have hl1 : (dig BB b).length = 1 := by omega
      rw [hl1] at t1 t4 t5
      have hbt : b = t := by simp only [Nat.sub_self, Nat.pow_zero, Nat.mul_one] at t4 t5; omega
      have g0 : (dig BB b).getD 0 0 = b := by rw [hbt]; rw [hbt] at t1; exact t1
      refine go ?_
      rw [g0]
      refine callz (cBy (a := a) (d := b) (by omega) (by omega) (by unfold ln; omega)) ?_
      refine go ?_
      refine callz (cOneN (a % b) (Nat.lt_trans (Nat.mod_lt _ (by omega)) (by omega))) ?_
      refine go ?_
      refine R_ret (fin_data (by first | (simp (disch := (first | omega | (simp only [go_sem, ↓reduceIte, Nat.reduceEqDiff, Nat.reduceAdd, Nat.reduceMul, Nat.reduceSub, Nat.reduceLT, Nat.reduceLeDiff, Nat.reduceBNe, Nat.reduceBEq, Int.reduceToNat, Int.reduceAdd, Int.reduceSub, Int.reduceMul, Int.reduceLT, Int.reduceLE, Int.reduceNeg, Int.reduceBEq, Int.reduceBNe, Int.reduceEq, beq_self_eq_true, reduceCtorEq, decide_true, decide_false, if_pos, if_neg]; first | done | omega))) only [go_sem, ↓reduceIte, Nat.reduceEqDiff, Nat.reduceAdd, Nat.reduceMul, Nat.reduceSub, Nat.reduceLT, Nat.reduceLeDiff, Nat.reduceBNe, Nat.reduceBEq, Int.reduceToNat, Int.reduceAdd, Int.reduceSub, Int.reduceMul, Int.reduceLT, Int.reduceLE, Int.reduceNeg, Int.reduceBEq, Int.reduceBNe, Int.reduceEq, beq_self_eq_true, reduceCtorEq, decide_true, decide_false, if_pos, if_neg] <;> rfl) | fail) (by simp (disch := (first | omega | (simp only [go_sem, ↓reduceIte, Nat.reduceEqDiff, Nat.reduceAdd, Nat.reduceMul, Nat.reduceSub, Nat.reduceLT, Nat.reduceLeDiff, Nat.reduceBNe, Nat.reduceBEq, Int.reduceToNat, Int.reduceAdd, Int.reduceSub, Int.reduceMul, Int.reduceLT, Int.reduceLE, Int.reduceNeg, Int.reduceBEq, Int.reduceBNe, Int.reduceEq, beq_self_eq_true, reduceCtorEq, decide_true, decide_false, if_pos, if_neg]; first | done | omega))) only [go_sem, ↓reduceIte, Nat.reduceEqDiff, Nat.reduceAdd, Nat.reduceMul, Nat.reduceSub, Nat.reduceLT, Nat.reduceLeDiff, Nat.reduceBNe, Nat.reduceBEq, Int.reduceToNat, Int.reduceAdd, Int.reduceSub, Int.reduceMul, Int.reduceLT, Int.reduceLE, Int.reduceNeg, Int.reduceBEq, Int.reduceBNe, Int.reduceEq, beq_self_eq_true, reduceCtorEq, decide_true, decide_false, if_pos, if_neg]))
    · simp only [decide_eq_true_eq, decide_eq_false_iff_not, Bool.or_eq_true, Bool.and_eq_true, Bool.or_eq_false_iff, Bool.and_eq_false_iff, Bool.not_eq_true', Bool.not_eq_false', bne_iff_ne, beq_iff_eq, ne_eq, bne_eq_false_iff_eq, beq_eq_false_iff_ne, ge_iff_le, gt_iff_lt, Int.not_le, Int.not_lt] at h
      obtain ⟨k, hk⟩ : ∃ k, (dig BB b).length = k + 1 := ⟨(dig BB b).length - 1, by have := mt (dig_length_zero BB2).1 hb; omega⟩
      have hk1 : 1 ≤ k := by omega
      rw [hk, Nat.add_sub_cancel] at t1 t4 t5
      obtain ⟨F, hF⟩ : ∃ F, F = BB / (t + 1) := ⟨_, rfl⟩
      obtain ⟨f1, f2, f3, f4⟩ := scale BB2 t4 t5 t2 t3
      rw [← hF] at f1 f2 f3 f4
      have f2' : F < 1000000000000000000 := f2
      have hab' := dig_mono BB2 hab
      have hlen : ((dig BB b).length : Int) = (k : Int) + 1 := by omega
      have hkk : ((k : Int) + 1 - 1).toNat = k := by omega
      have htop : (dig BB b).getD ((k : Int) + 1 - 1).toNat 0 = t := by rw [hkk]; exact t1
      have hFq : (1000000000000000000 : Int).tdiv ((dig BB b).getD ((k : Int) + 1 - 1).toNat 0 + 1) = F := by
        rw [htop, Int.tdiv_eq_ediv_of_nonneg (by omega), hF]
        rfl
      have lF : ln F ≤ 1 := dig_length_le BB2 1 F (by rw [Nat.pow_one]; exact f2)
      have lm := dig_length_mul BB2 a F
      have ld : (dig BB (b * F)).length = k + 1 := ln_of BB2 f3 f4
      unfold ln at lF
      refine R_less (st' := ⟨tl [(0, ms a), (1, ms b), (6, .sc (.int .i64 ((k : Int) + 1)))], ol [], 0, [], 166⟩) (ids := []) (Less.mk' (by simp (disch := (first | omega | (simp only [go_sem, ↓reduceIte, Nat.reduceEqDiff, Nat.reduceAdd, Nat.reduceMul, Nat.reduceSub, Nat.reduceLT, Nat.reduceLeDiff, Nat.reduceBNe, Nat.reduceBEq, Int.reduceToNat, Int.reduceAdd, Int.reduceSub, Int.reduceMul, Int.reduceLT, Int.reduceLE, Int.reduceNeg, Int.reduceBEq, Int.reduceBNe, Int.reduceEq, beq_self_eq_true, reduceCtorEq, decide_true, decide_false, if_pos, if_neg]; first | done | omega))) only [go_sem, ↓reduceIte, Nat.reduceEqDiff, Nat.reduceAdd, Nat.reduceMul, Nat.reduceSub, Nat.reduceLT, Nat.reduceLeDiff, Nat.reduceBNe, Nat.reduceBEq, Int.reduceToNat, Int.reduceAdd, Int.reduceSub, Int.reduceMul, Int.reduceLT, Int.reduceLE, Int.reduceNeg, Int.reduceBEq, Int.reduceBNe, Int.reduceEq, beq_self_eq_true, reduceCtorEq, decide_true, decide_false, if_pos, if_neg, hlen]) (by simp (disch := (first | omega | (simp only [go_sem, ↓reduceIte, Nat.reduceEqDiff, Nat.reduceAdd, Nat.reduceMul, Nat.reduceSub, Nat.reduceLT, Nat.reduceLeDiff, Nat.reduceBNe, Nat.reduceBEq, Int.reduceToNat, Int.reduceAdd, Int.reduceSub, Int.reduceMul, Int.reduceLT, Int.reduceLE, Int.reduceNeg, Int.reduceBEq, Int.reduceBNe, Int.reduceEq, beq_self_eq_true, reduceCtorEq, decide_true, decide_false, if_pos, if_neg]; first | done | omega))) only [go_sem, ↓reduceIte, Nat.reduceEqDiff, Nat.reduceAdd, Nat.reduceMul, Nat.reduceSub, Nat.reduceLT, Nat.reduceLeDiff, Nat.reduceBNe, Nat.reduceBEq, Int.reduceToNat, Int.reduceAdd, Int.reduceSub, Int.reduceMul, Int.reduceLT, Int.reduceLE, Int.reduceNeg, Int.reduceBEq, Int.reduceBNe, Int.reduceEq, beq_self_eq_true, reduceCtorEq, decide_true, decide_false, if_pos, if_neg, hlen]) (by decide) (by decide)) ?_ (by decide)
      refine go ?_
      rw [hFq]
      refine callz (cOneN F f2) ?_
      refine go ?_
      refine callz (cTimes (a := b) (b := F) (by unfold ln; omega)) ?_
      refine go ?_
      refine callz (cTimes (a := a) (b := F) (by unfold ln; omega)) ?_
      refine go ?_
      obtain ⟨d, hd⟩ : ∃ d, d = b * F := ⟨_, rfl⟩
      rw [← hd] at f3 f4 ld
      obtain ⟨L, hL⟩ : ∃ L, L = (dig BB a).length - k := ⟨_, rfl⟩
      have hLe : (((dig BB a).length : Int) - ((k : Int) + 1) + 1).toNat = L := by omega
      have hd0 : 0 < d := by have : 0 < BB ^ k := Nat.pow_pos (by decide); omega
      obtain ⟨s, s1, s2, s3, s4, s5⟩ := top_bd BB2 (show d ≠ 0 by omega)
      rw [ld, Nat.add_sub_cancel] at s1 s4 s5
      have s3' : s < 1000000000000000000 := s3
      have hL2 : ((dig BB a).length : Int) - ((k : Int) + 1) = (L : Int) - 1 := by omega
      have hL3 : ((L : Int) - 1 + 1).toNat = L := by omega
      have hF0 : (dig BB F).getD 0 0 = F := by rw [dig_pos BB2 (by omega), List.getD_cons_zero, Nat.mod_eq_of_lt f2]
      have hlF : (dig BB F).length ≠ 0 := fun hc => by have := (dig_length_zero BB2).1 hc; omega
      refine R_loop (fun p : Nat × List Int × Nat => ⟨tl [(4, .rf 0 0 L 1), (6, .sc (.int .i64 ((k : Int) + 1))), (9, ms F), (10, ms d), (11, ms p.2.2), (12, .sc (.int .i64 ((p.1 : Int) - 1)))], ol [(0, ⟨ints .u64 p.2.1, 98, 1, false⟩)], 1, [], 166⟩)
        (fun p => p.1 ≤ L ∧ p.2.1.length = L ∧ Dg BB p.2.1 ∧ (∀ j, j < p.1 → p.2.1.getD j 0 = 0) ∧ p.2.2 < d * BB ^ p.1 ∧ ((a * F : Nat) : Int) = val BB (p.2.1.drop p.1) * ((BB ^ p.1 : Nat) : Int) * d + p.2.2) (fun p => p.1)
        (L, List.replicate L 0, a * F) [0] (Less.mk' (by simp (disch := (first | omega | (simp only [go_sem, ↓reduceIte, Nat.reduceEqDiff, Nat.reduceAdd, Nat.reduceMul, Nat.reduceSub, Nat.reduceLT, Nat.reduceLeDiff, Nat.reduceBNe, Nat.reduceBEq, Int.reduceToNat, Int.reduceAdd, Int.reduceSub, Int.reduceMul, Int.reduceLT, Int.reduceLE, Int.reduceNeg, Int.reduceBEq, Int.reduceBNe, Int.reduceEq, beq_self_eq_true, reduceCtorEq, decide_true, decide_false, if_pos, if_neg]; first | done | omega))) only [go_sem, ↓reduceIte, Nat.reduceEqDiff, Nat.reduceAdd, Nat.reduceMul, Nat.reduceSub, Nat.reduceLT, Nat.reduceLeDiff, Nat.reduceBNe, Nat.reduceBEq, Int.reduceToNat, Int.reduceAdd, Int.reduceSub, Int.reduceMul, Int.reduceLT, Int.reduceLE, Int.reduceNeg, Int.reduceBEq, Int.reduceBNe, Int.reduceEq, beq_self_eq_true, reduceCtorEq, decide_true, decide_false, if_pos, if_neg, hLe, hL2, hL3, ← hd]) (by simp (disch := (first | omega | (simp only [go_sem, ↓reduceIte, Nat.reduceEqDiff, Nat.reduceAdd, Nat.reduceMul, Nat.reduceSub, Nat.reduceLT, Nat.reduceLeDiff, Nat.reduceBNe, Nat.reduceBEq, Int.reduceToNat, Int.reduceAdd, Int.reduceSub, Int.reduceMul, Int.reduceLT, Int.reduceLE, Int.reduceNeg, Int.reduceBEq, Int.reduceBNe, Int.reduceEq, beq_self_eq_true, reduceCtorEq, decide_true, decide_false, if_pos, if_neg]; first | done | omega))) only [go_sem, ↓reduceIte, Nat.reduceEqDiff, Nat.reduceAdd, Nat.reduceMul, Nat.reduceSub, Nat.reduceLT, Nat.reduceLeDiff, Nat.reduceBNe, Nat.reduceBEq, Int.reduceToNat, Int.reduceAdd, Int.reduceSub, Int.reduceMul, Int.reduceLT, Int.reduceLE, Int.reduceNeg, Int.reduceBEq, Int.reduceBNe, Int.reduceEq, beq_self_eq_true, reduceCtorEq, decide_true, decide_false, if_pos, if_neg, hLe, hL2, hL3, ← hd]) (by decide) (by decide)) ⟨by simp only; omega, by simp, dg_zeros (by decide) _, fun j _ => gzeros _ _, ?_, by simp [val]⟩ fun p hi => ?_
      · show a * F < d * BB ^ L
        have z1 := Nat.mul_le_mul_right F (show BB ^ k ≤ b by have := Nat.mul_le_mul_right (BB ^ k) t2; omega)
        have z2 := Nat.mul_le_mul_right (BB ^ L) z1
        have z3 : BB ^ k * F * BB ^ L = F * BB ^ (dig BB a).length := by
          rw [Nat.mul_comm (BB ^ k), Nat.mul_assoc, ← Nat.pow_add, show k + L = (dig BB a).length by omega]
        have z4 := Nat.mul_lt_mul_of_pos_left (lt_dig BB2 a) f1
        rw [Nat.mul_comm a, hd]
        omega
      obtain ⟨n, K, rest⟩ := p
      obtain ⟨k1, k2, k3, k4, k5, k6⟩ := hi
      simp only at k1 k2 k3 k4 k5 k6
      simp only
      refine go ?_
      refine cnd (fun h => ?_) (fun h => ?_)
      · simp only [decide_eq_true_eq, decide_eq_false_iff_not, Bool.or_eq_true, Bool.and_eq_true, Bool.or_eq_false_iff, Bool.and_eq_false_iff, Bool.not_eq_true', Bool.not_eq_false', bne_iff_ne, beq_iff_eq, ne_eq, bne_eq_false_iff_eq, beq_eq_false_iff_ne, ge_iff_le, gt_iff_lt, Int.not_le, Int.not_lt] at h
        obtain ⟨i, rfl⟩ : ∃ i, n = i + 1 := ⟨n - 1, by omega⟩
        have hi1 : ((i + 1 : Nat) : Int) - 1 = i := by omega
        have hi2 : (i : Int) + 1 - 1 = i := by omega
        refine R_less (st' := ⟨tl [(4, .rf 0 0 L 1), (6, .sc (.int .i64 ((k : Int) + 1))), (9, ms F), (10, ms d), (11, ms rest), (12, .sc (.int .i64 i))], ol [(0, ⟨ints .u64 (K), 98, 1, false⟩)], 1, [], 166⟩) (ids := [0]) (Less.mk' (by simp (disch := (first | omega | (simp only [go_sem, ↓reduceIte, Nat.reduceEqDiff, Nat.reduceAdd, Nat.reduceMul, Nat.reduceSub, Nat.reduceLT, Nat.reduceLeDiff, Nat.reduceBNe, Nat.reduceBEq, Int.reduceToNat, Int.reduceAdd, Int.reduceSub, Int.reduceMul, Int.reduceLT, Int.reduceLE, Int.reduceNeg, Int.reduceBEq, Int.reduceBNe, Int.reduceEq, beq_self_eq_true, reduceCtorEq, decide_true, decide_false, if_pos, if_neg]; first | done | omega))) only [go_sem, ↓reduceIte, Nat.reduceEqDiff, Nat.reduceAdd, Nat.reduceMul, Nat.reduceSub, Nat.reduceLT, Nat.reduceLeDiff, Nat.reduceBNe, Nat.reduceBEq, Int.reduceToNat, Int.reduceAdd, Int.reduceSub, Int.reduceMul, Int.reduceLT, Int.reduceLE, Int.reduceNeg, Int.reduceBEq, Int.reduceBNe, Int.reduceEq, beq_self_eq_true, reduceCtorEq, decide_true, decide_false, if_pos, if_neg, hi1, hi2]) (by simp (disch := (first | omega | (simp only [go_sem, ↓reduceIte, Nat.reduceEqDiff, Nat.reduceAdd, Nat.reduceMul, Nat.reduceSub, Nat.reduceLT, Nat.reduceLeDiff, Nat.reduceBNe, Nat.reduceBEq, Int.reduceToNat, Int.reduceAdd, Int.reduceSub, Int.reduceMul, Int.reduceLT, Int.reduceLE, Int.reduceNeg, Int.reduceBEq, Int.reduceBNe, Int.reduceEq, beq_self_eq_true, reduceCtorEq, decide_true, decide_false, if_pos, if_neg]; first | done | omega))) only [go_sem, ↓reduceIte, Nat.reduceEqDiff, Nat.reduceAdd, Nat.reduceMul, Nat.reduceSub, Nat.reduceLT, Nat.reduceLeDiff, Nat.reduceBNe, Nat.reduceBEq, Int.reduceToNat, Int.reduceAdd, Int.reduceSub, Int.reduceMul, Int.reduceLT, Int.reduceLE, Int.reduceNeg, Int.reduceBEq, Int.reduceBNe, Int.reduceEq, beq_self_eq_true, reduceCtorEq, decide_true, decide_false, if_pos, if_neg, hi1, hi2]) (by decide) (by decide)) ?_ (by decide)
        have hp : 0 < BB ^ i := Nat.pow_pos (by decide)
        have hD : 0 < d * BB ^ i := Nat.mul_pos hd0 hp
        have lr := dig_length_le BB2 (k + i + 2) rest (by
          refine Nat.lt_of_lt_of_le k5 ?_
          rw [show k + i + 2 = k + 1 + (i + 1) by omega, Nat.pow_add BB (k + 1) (i + 1)]
          exact Nat.mul_le_mul_right _ (Nat.le_of_lt f4))
        refine go ?_
        refine cnd (fun h => ?_) (fun h => ?_)
        · simp only [decide_eq_true_eq, decide_eq_false_iff_not, Bool.or_eq_true, Bool.and_eq_true, Bool.or_eq_false_iff, Bool.and_eq_false_iff, Bool.not_eq_true', Bool.not_eq_false', bne_iff_ne, beq_iff_eq, ne_eq, bne_eq_false_iff_eq, beq_eq_false_iff_ne, ge_iff_le, gt_iff_lt, Int.not_le, Int.not_lt] at h
          have z1 : rest < d * BB ^ i := by
            refine Nat.lt_of_lt_of_le (lt_dig BB2 rest) ?_
            refine Nat.le_trans (Nat.pow_le_pow_right (by decide) (show (dig BB rest).length ≤ k + i by omega)) ?_
            rw [Nat.pow_add]
            exact Nat.mul_le_mul_right _ f3
          refine go ?_
          refine R_nilR ⟨[0], _, ?_, (i, K, rest), ⟨by simp only; omega, k2, k3, fun j hj => k4 j (by simp only at hj; omega), z1, ?_⟩, by omega, rfl⟩; exact lessA
          have z2 : i < K.length := by omega
          have z3 := digit_step BB2 (g := 0) hd0 z2 k6 (by omega)
          have z4 : K.set i ((0 : Nat) : Int) = K := eq_of_g (by simp) fun j hj => by
            rw [gset _ _ _ _ z2]
            split
            · rename_i e; rw [← e, k4 i (by omega)]; rfl
            · rfl
          rw [z4, Nat.zero_mul, Nat.sub_zero] at z3
          exact z3
        · simp only [decide_eq_true_eq, decide_eq_false_iff_not, Bool.or_eq_true, Bool.and_eq_true, Bool.or_eq_false_iff, Bool.and_eq_false_iff, Bool.not_eq_true', Bool.not_eq_false', bne_iff_ne, beq_iff_eq, ne_eq, bne_eq_false_iff_eq, beq_eq_false_iff_ne, ge_iff_le, gt_iff_lt, Int.not_le, Int.not_lt] at h
          have hx1 : ((i : Int) + ((k : Int) + 1)).toNat = i + k + 1 := by omega
          refine go ?_
          refine R_mid (fun _ : Unit => ⟨tl [(4, .rf 0 0 L 1), (6, .sc (.int .i64 ((k : Int) + 1))), (9, ms F), (10, ms d), (11, ms rest), (12, .sc (.int .i64 i)), (13, .sc (.int .u64 ((dig BB rest).getD (i + k + 1) 0)))], ol [(0, ⟨ints .u64 (K), 98, 1, false⟩)], 1, [], 166⟩) (fun _ => True) ?_ ?_
          · refine cnd (fun h => ?_) (fun h => ?_)
            · simp only [decide_eq_true_eq, decide_eq_false_iff_not, Bool.or_eq_true, Bool.and_eq_true, Bool.or_eq_false_iff, Bool.and_eq_false_iff, Bool.not_eq_true', Bool.not_eq_false', bne_iff_ne, beq_iff_eq, ne_eq, bne_eq_false_iff_eq, beq_eq_false_iff_ne, ge_iff_le, gt_iff_lt, Int.not_le, Int.not_lt] at h
              refine go ?_
              exact R_nilM () trivial (Sub.less (ids := [0]) (Less.mk' (by simp (disch := (first | omega | (simp only [go_sem, ↓reduceIte, Nat.reduceEqDiff, Nat.reduceAdd, Nat.reduceMul, Nat.reduceSub, Nat.reduceLT, Nat.reduceLeDiff, Nat.reduceBNe, Nat.reduceBEq, Int.reduceToNat, Int.reduceAdd, Int.reduceSub, Int.reduceMul, Int.reduceLT, Int.reduceLE, Int.reduceNeg, Int.reduceBEq, Int.reduceBNe, Int.reduceEq, beq_self_eq_true, reduceCtorEq, decide_true, decide_false, if_pos, if_neg]; first | done | omega))) only [go_sem, ↓reduceIte, Nat.reduceEqDiff, Nat.reduceAdd, Nat.reduceMul, Nat.reduceSub, Nat.reduceLT, Nat.reduceLeDiff, Nat.reduceBNe, Nat.reduceBEq, Int.reduceToNat, Int.reduceAdd, Int.reduceSub, Int.reduceMul, Int.reduceLT, Int.reduceLE, Int.reduceNeg, Int.reduceBEq, Int.reduceBNe, Int.reduceEq, beq_self_eq_true, reduceCtorEq, decide_true, decide_false, if_pos, if_neg, hx1]) (by simp (disch := (first | omega | (simp only [go_sem, ↓reduceIte, Nat.reduceEqDiff, Nat.reduceAdd, Nat.reduceMul, Nat.reduceSub, Nat.reduceLT, Nat.reduceLeDiff, Nat.reduceBNe, Nat.reduceBEq, Int.reduceToNat, Int.reduceAdd, Int.reduceSub, Int.reduceMul, Int.reduceLT, Int.reduceLE, Int.reduceNeg, Int.reduceBEq, Int.reduceBNe, Int.reduceEq, beq_self_eq_true, reduceCtorEq, decide_true, decide_false, if_pos, if_neg]; first | done | omega))) only [go_sem, ↓reduceIte, Nat.reduceEqDiff, Nat.reduceAdd, Nat.reduceMul, Nat.reduceSub, Nat.reduceLT, Nat.reduceLeDiff, Nat.reduceBNe, Nat.reduceBEq, Int.reduceToNat, Int.reduceAdd, Int.reduceSub, Int.reduceMul, Int.reduceLT, Int.reduceLE, Int.reduceNeg, Int.reduceBEq, Int.reduceBNe, Int.reduceEq, beq_self_eq_true, reduceCtorEq, decide_true, decide_false, if_pos, if_neg]) (by decide) (by decide)))
            · simp only [decide_eq_true_eq, decide_eq_false_iff_not, Bool.or_eq_true, Bool.and_eq_true, Bool.or_eq_false_iff, Bool.and_eq_false_iff, Bool.not_eq_true', Bool.not_eq_false', bne_iff_ne, beq_iff_eq, ne_eq, bne_eq_false_iff_eq, beq_eq_false_iff_ne, ge_iff_le, gt_iff_lt, Int.not_le, Int.not_lt] at h
              have z0 : (dig BB rest).getD (i + k + 1) 0 = 0 := gout _ _ (by omega)
              refine go ?_
              exact R_nilM () trivial (Sub.less (ids := [0]) (Less.mk' (by simp (disch := (first | omega | (simp only [go_sem, ↓reduceIte, Nat.reduceEqDiff, Nat.reduceAdd, Nat.reduceMul, Nat.reduceSub, Nat.reduceLT, Nat.reduceLeDiff, Nat.reduceBNe, Nat.reduceBEq, Int.reduceToNat, Int.reduceAdd, Int.reduceSub, Int.reduceMul, Int.reduceLT, Int.reduceLE, Int.reduceNeg, Int.reduceBEq, Int.reduceBNe, Int.reduceEq, beq_self_eq_true, reduceCtorEq, decide_true, decide_false, if_pos, if_neg]; first | done | omega))) only [go_sem, ↓reduceIte, Nat.reduceEqDiff, Nat.reduceAdd, Nat.reduceMul, Nat.reduceSub, Nat.reduceLT, Nat.reduceLeDiff, Nat.reduceBNe, Nat.reduceBEq, Int.reduceToNat, Int.reduceAdd, Int.reduceSub, Int.reduceMul, Int.reduceLT, Int.reduceLE, Int.reduceNeg, Int.reduceBEq, Int.reduceBNe, Int.reduceEq, beq_self_eq_true, reduceCtorEq, decide_true, decide_false, if_pos, if_neg, z0]) (by simp (disch := (first | omega | (simp only [go_sem, ↓reduceIte, Nat.reduceEqDiff, Nat.reduceAdd, Nat.reduceMul, Nat.reduceSub, Nat.reduceLT, Nat.reduceLeDiff, Nat.reduceBNe, Nat.reduceBEq, Int.reduceToNat, Int.reduceAdd, Int.reduceSub, Int.reduceMul, Int.reduceLT, Int.reduceLE, Int.reduceNeg, Int.reduceBEq, Int.reduceBNe, Int.reduceEq, beq_self_eq_true, reduceCtorEq, decide_true, decide_false, if_pos, if_neg]; first | done | omega))) only [go_sem, ↓reduceIte, Nat.reduceEqDiff, Nat.reduceAdd, Nat.reduceMul, Nat.reduceSub, Nat.reduceLT, Nat.reduceLeDiff, Nat.reduceBNe, Nat.reduceBEq, Int.reduceToNat, Int.reduceAdd, Int.reduceSub, Int.reduceMul, Int.reduceLT, Int.reduceLE, Int.reduceNeg, Int.reduceBEq, Int.reduceBNe, Int.reduceEq, beq_self_eq_true, reduceCtorEq, decide_true, decide_false, if_pos, if_neg]) (by decide) (by decide)))
          intro _ _
          obtain ⟨tp, htp⟩ : ∃ tp, tp = (dig BB rest).getD (i + k + 1) 0 := ⟨_, rfl⟩
          obtain ⟨lw, hlw⟩ : ∃ lw, lw = (dig BB rest).getD (i + k) 0 := ⟨_, rfl⟩
          have tpb := dgB rest (i + k + 1)
          have lwb := dgB rest (i + k)
          rw [← htp] at tpb ⊢
          rw [← hlw] at lwb
          have hh : ((rest / BB ^ (i + k) : Nat) : Int) = lw + 1000000000000000000 * tp := by
            have := high_two BB2 (n := rest) (k := i + k) (by
              refine Nat.lt_of_lt_of_le k5 ?_
              rw [show i + k + 2 = k + 1 + (i + 1) by omega, Nat.pow_add BB (k + 1) (i + 1)]
              exact Nat.mul_le_mul_right _ (Nat.le_of_lt f4))
            rw [← htp, ← hlw] at this
            exact this
          have qB : rest / (d * BB ^ i) < 1000000000000000000 := by
            rw [Nat.div_lt_iff_lt_mul hD]
            rw [Nat.pow_succ] at k5
            have : 1000000000000000000 * (d * BB ^ i) = d * (BB ^ i * BB) := by
              rw [Nat.mul_comm (BB ^ i), ← Nat.mul_assoc, ← Nat.mul_assoc, Nat.mul_comm d]
            omega
          have hkk2 : ((k : Int) + 1 - 1).toNat = k := by omega
          have hx2 : ((i : Int) + ((k : Int) + 1) - 1).toNat = i + k := by omega
          have hsd : (dig BB d).getD ((k : Int) + 1 - 1).toNat 0 = s := by rw [hkk2]; exact s1
          have hld : (dig BB rest).getD ((i : Int) + ((k : Int) + 1) - 1).toNat 0 = lw := by rw [hx2]; exact hlw.symm
          refine R_seq ?_
          (first | refine R_region ?_ | refine R_drawA (by kernel_rfl) (by kernel_rfl) ?_); refine gos ?_
          refine R_seq ?_
          refine R_mid (fun g : Int => ⟨tl [(4, .rf 0 0 L 1), (6, .sc (.int .i64 ((k : Int) + 1))), (9, ms F), (10, ms d), (11, ms rest), (12, .sc (.int .i64 i)), (14, .sc (.int .u64 g))], ol [(0, ⟨ints .u64 (K), 98, 1, false⟩)], 1, [], 166⟩) (fun g => 0 ≤ g ∧ g ≤ 18446744073709551615 ∧ ((rest / (d * BB ^ i) : Nat) : Int) ≤ g) ?_ ?_
          · refine go ?_
            rw [hsd]
            refine cnd (fun h => ?_) (fun h => ?_)
            · simp only [decide_eq_true_eq, decide_eq_false_iff_not, Bool.or_eq_true, Bool.and_eq_true, Bool.or_eq_false_iff, Bool.and_eq_false_iff, Bool.not_eq_true', Bool.not_eq_false', bne_iff_ne, beq_iff_eq, ne_eq, bne_eq_false_iff_eq, beq_eq_false_iff_ne, ge_iff_le, gt_iff_lt, Int.not_le, Int.not_lt] at h
              obtain ⟨g1, l1, e1, a1, a2, a3, c1⟩ := eMul (x := tp) (y := 1000000000000000000) ⟨by omega, by omega⟩ ⟨by omega, by omega⟩
              obtain ⟨g2, l2, e2, b1, b2, b3, c2⟩ := eAdd (x := l1) (y := lw) ⟨by omega, by omega⟩ ⟨by omega, by omega⟩
              obtain ⟨q, r, e4, u1, u2, u3, c4⟩ := eDiv (hi := g1 + g2) (lo := l2) (y := s) (by omega) (by omega) (by omega) (by omega) (by omega)
              have hq : q < 1000000000000000000 := by
                refine Int.lt_of_mul_lt_mul_right (a := (s : Int)) ?_ (by omega)
                omega
              have hqd : ((rest / (d * BB ^ i) : Nat) : Int) ≤ q := by
                have z := guess_ge (rest := rest) (B := BB) (i := i) (n := k) (by decide) s4 s2
                have z2 : ((rest / BB ^ (i + k) / s : Nat) : Int) = q := by
                  rw [Int.natCast_ediv, hh]
                  exact ((Int.ediv_emod_unique (show (0 : Int) < s by omega)).2 ⟨(show r + (s : Int) * q = lw + 1000000000000000000 * tp by rw [Int.mul_comm]; omega), u2, u3⟩).1
                omega
              refine go ?_
              refine call (c1) ?_
              refine go ?_
              rw [hld]
              refine ext (c2) ?_
              refine go ?_
              rw [hsd]
              refine call (c4) ?_
              refine go ?_
              exact R_nilM q ⟨u1, by omega, hqd⟩ (Sub.less (ids := [0]) (Less.mk' (by simp (disch := (first | omega | (simp only [go_sem, ↓reduceIte, Nat.reduceEqDiff, Nat.reduceAdd, Nat.reduceMul, Nat.reduceSub, Nat.reduceLT, Nat.reduceLeDiff, Nat.reduceBNe, Nat.reduceBEq, Int.reduceToNat, Int.reduceAdd, Int.reduceSub, Int.reduceMul, Int.reduceLT, Int.reduceLE, Int.reduceNeg, Int.reduceBEq, Int.reduceBNe, Int.reduceEq, beq_self_eq_true, reduceCtorEq, decide_true, decide_false, if_pos, if_neg]; first | done | omega))) only [go_sem, ↓reduceIte, Nat.reduceEqDiff, Nat.reduceAdd, Nat.reduceMul, Nat.reduceSub, Nat.reduceLT, Nat.reduceLeDiff, Nat.reduceBNe, Nat.reduceBEq, Int.reduceToNat, Int.reduceAdd, Int.reduceSub, Int.reduceMul, Int.reduceLT, Int.reduceLE, Int.reduceNeg, Int.reduceBEq, Int.reduceBNe, Int.reduceEq, beq_self_eq_true, reduceCtorEq, decide_true, decide_false, if_pos, if_neg]) (by simp (disch := (first | omega | (simp only [go_sem, ↓reduceIte, Nat.reduceEqDiff, Nat.reduceAdd, Nat.reduceMul, Nat.reduceSub, Nat.reduceLT, Nat.reduceLeDiff, Nat.reduceBNe, Nat.reduceBEq, Int.reduceToNat, Int.reduceAdd, Int.reduceSub, Int.reduceMul, Int.reduceLT, Int.reduceLE, Int.reduceNeg, Int.reduceBEq, Int.reduceBNe, Int.reduceEq, beq_self_eq_true, reduceCtorEq, decide_true, decide_false, if_pos, if_neg]; first | done | omega))) only [go_sem, ↓reduceIte, Nat.reduceEqDiff, Nat.reduceAdd, Nat.reduceMul, Nat.reduceSub, Nat.reduceLT, Nat.reduceLeDiff, Nat.reduceBNe, Nat.reduceBEq, Int.reduceToNat, Int.reduceAdd, Int.reduceSub, Int.reduceMul, Int.reduceLT, Int.reduceLE, Int.reduceNeg, Int.reduceBEq, Int.reduceBNe, Int.reduceEq, beq_self_eq_true, reduceCtorEq, decide_true, decide_false, if_pos, if_neg]) (by decide) (by decide)))
            · simp only [decide_eq_true_eq, decide_eq_false_iff_not, Bool.or_eq_true, Bool.and_eq_true, Bool.or_eq_false_iff, Bool.and_eq_false_iff, Bool.not_eq_true', Bool.not_eq_false', bne_iff_ne, beq_iff_eq, ne_eq, bne_eq_false_iff_eq, beq_eq_false_iff_ne, ge_iff_le, gt_iff_lt, Int.not_le, Int.not_lt] at h
              refine go ?_
              exact R_nilM 999999999999999999 ⟨by omega, by omega, by omega⟩ (Sub.less (ids := [0]) (Less.mk' (by simp (disch := (first | omega | (simp only [go_sem, ↓reduceIte, Nat.reduceEqDiff, Nat.reduceAdd, Nat.reduceMul, Nat.reduceSub, Nat.reduceLT, Nat.reduceLeDiff, Nat.reduceBNe, Nat.reduceBEq, Int.reduceToNat, Int.reduceAdd, Int.reduceSub, Int.reduceMul, Int.reduceLT, Int.reduceLE, Int.reduceNeg, Int.reduceBEq, Int.reduceBNe, Int.reduceEq, beq_self_eq_true, reduceCtorEq, decide_true, decide_false, if_pos, if_neg]; first | done | omega))) only [go_sem, ↓reduceIte, Nat.reduceEqDiff, Nat.reduceAdd, Nat.reduceMul, Nat.reduceSub, Nat.reduceLT, Nat.reduceLeDiff, Nat.reduceBNe, Nat.reduceBEq, Int.reduceToNat, Int.reduceAdd, Int.reduceSub, Int.reduceMul, Int.reduceLT, Int.reduceLE, Int.reduceNeg, Int.reduceBEq, Int.reduceBNe, Int.reduceEq, beq_self_eq_true, reduceCtorEq, decide_true, decide_false, if_pos, if_neg]) (by simp (disch := (first | omega | (simp only [go_sem, ↓reduceIte, Nat.reduceEqDiff, Nat.reduceAdd, Nat.reduceMul, Nat.reduceSub, Nat.reduceLT, Nat.reduceLeDiff, Nat.reduceBNe, Nat.reduceBEq, Int.reduceToNat, Int.reduceAdd, Int.reduceSub, Int.reduceMul, Int.reduceLT, Int.reduceLE, Int.reduceNeg, Int.reduceBEq, Int.reduceBNe, Int.reduceEq, beq_self_eq_true, reduceCtorEq, decide_true, decide_false, if_pos, if_neg]; first | done | omega))) only [go_sem, ↓reduceIte, Nat.reduceEqDiff, Nat.reduceAdd, Nat.reduceMul, Nat.reduceSub, Nat.reduceLT, Nat.reduceLeDiff, Nat.reduceBNe, Nat.reduceBEq, Int.reduceToNat, Int.reduceAdd, Int.reduceSub, Int.reduceMul, Int.reduceLT, Int.reduceLE, Int.reduceNeg, Int.reduceBEq, Int.reduceBNe, Int.reduceEq, beq_self_eq_true, reduceCtorEq, decide_true, decide_false, if_pos, if_neg]) (by decide) (by decide)))
          intro g hg
          obtain ⟨g0, g1, g2⟩ := hg
          obtain ⟨G, hG, G1, G2⟩ := minN g0
          have lG : (dig BB G).length ≤ 1 := dig_length_le BB2 1 G (by rw [Nat.pow_one]; exact G1)
          have ldG := dig_length_mul BB2 d G
          have hGq : rest / (d * BB ^ i) ≤ G := by omega
          refine go ?_
          rw [hG]
          refine callz (cOneN G G1) ?_
          refine go ?_
          refine callz (cTimes (a := d) (b := G) (by unfold ln; omega)) ?_
          refine go ?_
          refine callz (cTrimZ i (d * G) rfl) ?_
          rw [show d * G * BB ^ i = G * (d * BB ^ i) by rw [Nat.mul_comm d, Nat.mul_assoc]]
          have hi : i < K.length := by omega
          refine go ?_
          rw [hG]
          have lpm := dig_length_mul BB2 G (d * BB ^ i)
          have lD : (dig BB (d * BB ^ i)).length = i + (k + 1) := by rw [dig_shift BB2 (by omega), List.length_append, List.length_replicate, ld]
          refine R_midB (fun g : Nat => ⟨tl [(4, .rf 0 0 L 1), (6, .sc (.int .i64 ((k : Int) + 1))), (9, ms F), (10, ms d), (11, ms rest), (12, .sc (.int .i64 i)), (18, ms (g * (d * BB ^ i)))], ol [(0, ⟨ints .u64 (K.set i (g : Int)), 98, 1, false⟩)], 1, [], 166⟩) (fun g => g = rest / (d * BB ^ i) ∧ g ≤ G) ?_ ?_
          · refine R_loop (fun g : Nat => ⟨tl [(4, .rf 0 0 L 1), (6, .sc (.int .i64 ((k : Int) + 1))), (9, ms F), (10, ms d), (11, ms rest), (12, .sc (.int .i64 i)), (18, ms (g * (d * BB ^ i)))], ol [(0, ⟨ints .u64 (K.set i (g : Int)), 98, 1, false⟩)], 1, [], 166⟩) (fun g => rest / (d * BB ^ i) ≤ g ∧ g ≤ G) (fun g => g) G [0] lessA ⟨hGq, Nat.le_refl _⟩ fun g hgg => ?_
            refine go ?_
            refine call (cCmp rest (g * (d * BB ^ i))) ?_
            refine go ?_
            refine cnd (fun h => ?_) (fun h => ?_)
            · simp only [decide_eq_true_eq, decide_eq_false_iff_not, Bool.or_eq_true, Bool.and_eq_true, Bool.or_eq_false_iff, Bool.and_eq_false_iff, Bool.not_eq_true', Bool.not_eq_false', bne_iff_ne, beq_iff_eq, ne_eq, bne_eq_false_iff_eq, beq_eq_false_iff_ne, ge_iff_le, gt_iff_lt, Int.not_le, Int.not_lt] at h
              have hlt := (cmpN_lt _ _).1 h
              have g1' : 1 ≤ g := by
                rcases Nat.eq_zero_or_pos g with hz | hz
                · rw [hz, Nat.zero_mul] at hlt; omega
                · exact hz
              have hq1 : rest / (d * BB ^ i) < g := (Nat.div_lt_iff_lt_mul hD).2 hlt
              have e1 : (K.set i (g : Int)).getD i 0 = g := by rw [gset _ _ _ _ hi, if_pos rfl]
              have e2 : (K.set i (g : Int)).length = L := by rw [List.length_set]; exact k2
              have e3 : g * (d * BB ^ i) - d * BB ^ i = (g - 1) * (d * BB ^ i) := by rw [Nat.sub_mul, Nat.one_mul]
              have e4 : (g : Int) - 1 = ((g - 1 : Nat) : Int) := by omega
              have lgm := dig_length_mul BB2 g (d * BB ^ i)
              have lg : (dig BB g).length ≤ 1 := Nat.le_trans (dig_mono BB2 hgg.2) lG
              refine go ?_
              rw [e1]
              refine go ?_
              refine callz (cMinusZ (x := g * (d * BB ^ i)) (d := d) (i := i) (by omega) rfl (Nat.le_mul_of_pos_left _ g1') (by unfold ln; omega)) ?_
              rw [e3]
              refine go ?_
              refine R_nilR ⟨[0], _, ?_, g - 1, ⟨by omega, by omega⟩, by omega, rfl⟩; exact (Less.mk' (by simp (disch := (first | omega | (simp only [go_sem, ↓reduceIte, Nat.reduceEqDiff, Nat.reduceAdd, Nat.reduceMul, Nat.reduceSub, Nat.reduceLT, Nat.reduceLeDiff, Nat.reduceBNe, Nat.reduceBEq, Int.reduceToNat, Int.reduceAdd, Int.reduceSub, Int.reduceMul, Int.reduceLT, Int.reduceLE, Int.reduceNeg, Int.reduceBEq, Int.reduceBNe, Int.reduceEq, beq_self_eq_true, reduceCtorEq, decide_true, decide_false, if_pos, if_neg]; first | done | omega))) only [go_sem, ↓reduceIte, Nat.reduceEqDiff, Nat.reduceAdd, Nat.reduceMul, Nat.reduceSub, Nat.reduceLT, Nat.reduceLeDiff, Nat.reduceBNe, Nat.reduceBEq, Int.reduceToNat, Int.reduceAdd, Int.reduceSub, Int.reduceMul, Int.reduceLT, Int.reduceLE, Int.reduceNeg, Int.reduceBEq, Int.reduceBNe, Int.reduceEq, beq_self_eq_true, reduceCtorEq, decide_true, decide_false, if_pos, if_neg, e1, e4, List.set_set]) (by simp (disch := (first | omega | (simp only [go_sem, ↓reduceIte, Nat.reduceEqDiff, Nat.reduceAdd, Nat.reduceMul, Nat.reduceSub, Nat.reduceLT, Nat.reduceLeDiff, Nat.reduceBNe, Nat.reduceBEq, Int.reduceToNat, Int.reduceAdd, Int.reduceSub, Int.reduceMul, Int.reduceLT, Int.reduceLE, Int.reduceNeg, Int.reduceBEq, Int.reduceBNe, Int.reduceEq, beq_self_eq_true, reduceCtorEq, decide_true, decide_false, if_pos, if_neg]; first | done | omega))) only [go_sem, ↓reduceIte, Nat.reduceEqDiff, Nat.reduceAdd, Nat.reduceMul, Nat.reduceSub, Nat.reduceLT, Nat.reduceLeDiff, Nat.reduceBNe, Nat.reduceBEq, Int.reduceToNat, Int.reduceAdd, Int.reduceSub, Int.reduceMul, Int.reduceLT, Int.reduceLE, Int.reduceNeg, Int.reduceBEq, Int.reduceBNe, Int.reduceEq, beq_self_eq_true, reduceCtorEq, decide_true, decide_false, if_pos, if_neg, e1, e4, List.set_set]) (by decide) (by decide))
            · simp only [decide_eq_true_eq, decide_eq_false_iff_not, Bool.or_eq_true, Bool.and_eq_true, Bool.or_eq_false_iff, Bool.and_eq_false_iff, Bool.not_eq_true', Bool.not_eq_false', bne_iff_ne, beq_iff_eq, ne_eq, bne_eq_false_iff_eq, beq_eq_false_iff_ne, ge_iff_le, gt_iff_lt, Int.not_le, Int.not_lt] at h
              have hge : g * (d * BB ^ i) ≤ rest := Nat.le_of_not_lt fun hc => absurd ((cmpN_lt _ _).2 hc) (by omega)
              have hq2 : g ≤ rest / (d * BB ^ i) := (Nat.le_div_iff_mul_le hD).2 hge
              exact R_exitR ⟨g, ⟨by omega, hgg.2⟩, Sub.less (ids := [0]) (Less.mk' (by simp (disch := (first | omega | (simp only [go_sem, ↓reduceIte, Nat.reduceEqDiff, Nat.reduceAdd, Nat.reduceMul, Nat.reduceSub, Nat.reduceLT, Nat.reduceLeDiff, Nat.reduceBNe, Nat.reduceBEq, Int.reduceToNat, Int.reduceAdd, Int.reduceSub, Int.reduceMul, Int.reduceLT, Int.reduceLE, Int.reduceNeg, Int.reduceBEq, Int.reduceBNe, Int.reduceEq, beq_self_eq_true, reduceCtorEq, decide_true, decide_false, if_pos, if_neg]; first | done | omega))) only [go_sem, ↓reduceIte, Nat.reduceEqDiff, Nat.reduceAdd, Nat.reduceMul, Nat.reduceSub, Nat.reduceLT, Nat.reduceLeDiff, Nat.reduceBNe, Nat.reduceBEq, Int.reduceToNat, Int.reduceAdd, Int.reduceSub, Int.reduceMul, Int.reduceLT, Int.reduceLE, Int.reduceNeg, Int.reduceBEq, Int.reduceBNe, Int.reduceEq, beq_self_eq_true, reduceCtorEq, decide_true, decide_false, if_pos, if_neg]) (by simp (disch := (first | omega | (simp only [go_sem, ↓reduceIte, Nat.reduceEqDiff, Nat.reduceAdd, Nat.reduceMul, Nat.reduceSub, Nat.reduceLT, Nat.reduceLeDiff, Nat.reduceBNe, Nat.reduceBEq, Int.reduceToNat, Int.reduceAdd, Int.reduceSub, Int.reduceMul, Int.reduceLT, Int.reduceLE, Int.reduceNeg, Int.reduceBEq, Int.reduceBNe, Int.reduceEq, beq_self_eq_true, reduceCtorEq, decide_true, decide_false, if_pos, if_neg]; first | done | omega))) only [go_sem, ↓reduceIte, Nat.reduceEqDiff, Nat.reduceAdd, Nat.reduceMul, Nat.reduceSub, Nat.reduceLT, Nat.reduceLeDiff, Nat.reduceBNe, Nat.reduceBEq, Int.reduceToNat, Int.reduceAdd, Int.reduceSub, Int.reduceMul, Int.reduceLT, Int.reduceLE, Int.reduceNeg, Int.reduceBEq, Int.reduceBNe, Int.reduceEq, beq_self_eq_true, reduceCtorEq, decide_true, decide_false, if_pos, if_neg]) (by decide) (by decide))⟩
          intro g hgg
          obtain ⟨hq3, hq4⟩ := hgg
          have hge : g * (d * BB ^ i) ≤ rest := by rw [hq3]; exact Nat.div_mul_le_self _ _
          have hrl : rest - g * (d * BB ^ i) < d * BB ^ i := by
            rw [hq3, Nat.mul_comm]
            have := Nat.div_add_mod rest (d * BB ^ i)
            have := Nat.mod_lt rest hD
            omega
          refine go ?_
          refine callz (cMinus hge (by unfold ln; omega)) ?_
          refine go ?_
          refine R_nilR ⟨[0], _, ?_, (i, K.set i (g : Int), rest - g * (d * BB ^ i)), ⟨by simp only; omega, by simp only [List.length_set]; exact k2, k3.set (by omega) (by show (g : Int) < (1000000000000000000 : Int); omega), fun j hj => by
            simp only at hj ⊢
            rw [gset _ _ _ _ hi, if_neg (by omega)]
            exact k4 j (by omega), hrl, digit_step BB2 hd0 hi k6 hge⟩, by omega, rfl⟩; exact lessA
      · simp only [decide_eq_true_eq, decide_eq_false_iff_not, Bool.or_eq_true, Bool.and_eq_true, Bool.or_eq_false_iff, Bool.and_eq_false_iff, Bool.not_eq_true', Bool.not_eq_false', bne_iff_ne, beq_iff_eq, ne_eq, bne_eq_false_iff_eq, beq_eq_false_iff_ne, ge_iff_le, gt_iff_lt, Int.not_le, Int.not_lt] at h
        obtain rfl : n = 0 := by omega
        simp only [Nat.pow_zero, Nat.mul_one, List.drop_zero] at k5 k6
        have vK := k3.val_nonneg
        obtain ⟨v, hv⟩ : ∃ v : Nat, val BB K = v := ⟨(val BB K).toNat, by omega⟩
        rw [hv] at k6
        have k7 : a * F = v * d + rest := by
          have : ((a * F : Nat) : Int) = ((v * d + rest : Nat) : Int) := by rw [k6]; push_cast; grind
          exact_mod_cast this
        have hdm : a * F / d = v ∧ a * F % d = rest := (Nat.div_mod_unique hd0).2 ⟨by rw [k7, Nat.mul_comm]; omega, k5⟩
        rw [hd, Nat.mul_div_mul_right _ _ f1, Nat.mul_mod_mul_right] at hdm
        have e : cutI K = dig BB (a / b) := cut_of k3 (by rw [hv, hdm.1])
        have hr : rest / F = a % b := by rw [← hdm.2, Nat.mul_div_cancel _ f1]
        have lrs : (dig BB rest).length ≤ (dig BB a).length + (dig BB F).length := Nat.le_trans (dig_mono BB2 (by rw [k7]; omega)) lm
        refine go ?_
        rw [hF0]
        refine callz (cBy (a := rest) (d := F) f1 (by omega) (by unfold ln; omega)) ?_
        rw [hr]
        refine go ?_
        refine callz (cTrim' k2) ?_
        rw [e]
        refine go ?_
        refine R_ret (fin_data (by first | (simp (disch := (first | omega | (simp only [go_sem, ↓reduceIte, Nat.reduceEqDiff, Nat.reduceAdd, Nat.reduceMul, Nat.reduceSub, Nat.reduceLT, Nat.reduceLeDiff, Nat.reduceBNe, Nat.reduceBEq, Int.reduceToNat, Int.reduceAdd, Int.reduceSub, Int.reduceMul, Int.reduceLT, Int.reduceLE, Int.reduceNeg, Int.reduceBEq, Int.reduceBNe, Int.reduceEq, beq_self_eq_true, reduceCtorEq, decide_true, decide_false, if_pos, if_neg]; first | done | omega))) only [go_sem, ↓reduceIte, Nat.reduceEqDiff, Nat.reduceAdd, Nat.reduceMul, Nat.reduceSub, Nat.reduceLT, Nat.reduceLeDiff, Nat.reduceBNe, Nat.reduceBEq, Int.reduceToNat, Int.reduceAdd, Int.reduceSub, Int.reduceMul, Int.reduceLT, Int.reduceLE, Int.reduceNeg, Int.reduceBEq, Int.reduceBNe, Int.reduceEq, beq_self_eq_true, reduceCtorEq, decide_true, decide_false, if_pos, if_neg] <;> rfl) | fail) (by simp (disch := (first | omega | (simp only [go_sem, ↓reduceIte, Nat.reduceEqDiff, Nat.reduceAdd, Nat.reduceMul, Nat.reduceSub, Nat.reduceLT, Nat.reduceLeDiff, Nat.reduceBNe, Nat.reduceBEq, Int.reduceToNat, Int.reduceAdd, Int.reduceSub, Int.reduceMul, Int.reduceLT, Int.reduceLE, Int.reduceNeg, Int.reduceBEq, Int.reduceBNe, Int.reduceEq, beq_self_eq_true, reduceCtorEq, decide_true, decide_false, if_pos, if_neg]; first | done | omega))) only [go_sem, ↓reduceIte, Nat.reduceEqDiff, Nat.reduceAdd, Nat.reduceMul, Nat.reduceSub, Nat.reduceLT, Nat.reduceLeDiff, Nat.reduceBNe, Nat.reduceBEq, Int.reduceToNat, Int.reduceAdd, Int.reduceSub, Int.reduceMul, Int.reduceLT, Int.reduceLE, Int.reduceNeg, Int.reduceBEq, Int.reduceBNe, Int.reduceEq, beq_self_eq_true, reduceCtorEq, decide_true, decide_false, if_pos, if_neg]))
end Go.Proofs.YtglnkfpmogaifaaGreatDoor.V

/-
  The greatest common divisor; powers; roots.
-/
set_option linter.unusedSimpArgs false
set_option linter.unusedVariables false
set_option maxHeartbeats 4000000
namespace Go.Proofs.YtglnkfpmogaifaaGreatDoor.V
open Go Go.Proofs Go.RowKit

theorem cCommon {a b : Nat} (h : ln a + ln b ≤ 100000) : Con Tryz.prog 44 [ms a, ms b] (ms (Nat.gcd a b)) [] := by
  unfold ln at h
  refine Con.of_body [(0, ms a), (1, ms b)] Tryz.func44 rfl ca44 19 rfl (by simp) rfl ?_; refine T_of_R ?_
  refine go ?_
  refine R_loop (fun p : Nat × Nat => ⟨tl [(0, ms p.1), (1, ms p.2)], ol [], 0, [], 19⟩) (fun p => Nat.gcd p.1 p.2 = Nat.gcd a b ∧ (dig BB p.1).length ≤ 100000 ∧ (dig BB p.2).length ≤ 100000) (fun p => p.2) (a, b) [] lessA ⟨rfl, by simp only; omega, by simp only; omega⟩ fun p hi => ?_
  obtain ⟨x, y⟩ := p
  obtain ⟨i1, i2, i3⟩ := hi
  simp only at i1 i2 i3
  simp only
  refine go ?_
  refine cnd (fun h => ?_) (fun h => ?_)
  · simp only [decide_eq_true_eq, decide_eq_false_iff_not, Bool.or_eq_true, Bool.and_eq_true, Bool.or_eq_false_iff, Bool.and_eq_false_iff, Bool.not_eq_true', Bool.not_eq_false', bne_iff_ne, beq_iff_eq, ne_eq, bne_eq_false_iff_eq, beq_eq_false_iff_ne, ge_iff_le, gt_iff_lt, Int.not_le, Int.not_lt] at h
    have hy : y ≠ 0 := fun hc => by have := (dig_length_zero (n := y) BB2).2 hc; omega
    have hlt := Nat.mod_lt x (Nat.pos_of_ne_zero hy)
    refine go ?_
    refine callz (cOver (a := x) (b := y) hy (by unfold ln; omega)) ?_
    refine go ?_
    refine R_nilR ⟨[], _, ?_, (y, x % y), ⟨by simp only; rw [← i1, Nat.gcd_comm x y, Nat.gcd_rec y x, Nat.gcd_comm], i3, Nat.le_trans (dig_mono BB2 (Nat.le_of_lt hlt)) i3⟩, by omega, rfl⟩; exact lessA
  · simp only [decide_eq_true_eq, decide_eq_false_iff_not, Bool.or_eq_true, Bool.and_eq_true, Bool.or_eq_false_iff, Bool.and_eq_false_iff, Bool.not_eq_true', Bool.not_eq_false', bne_iff_ne, beq_iff_eq, ne_eq, bne_eq_false_iff_eq, beq_eq_false_iff_ne, ge_iff_le, gt_iff_lt, Int.not_le, Int.not_lt] at h
    have hy : y = 0 := (dig_length_zero BB2).1 (by omega)
    subst hy
    rw [Nat.gcd_zero_right] at i1
    rw [← i1]
    refine go ?_
    refine R_ret (finA [])

theorem lLen (n : Nat) (h : n < 18446744073709551616) : Con Tryz.prog 93 [.sc (.int .u64 n)] (.sc (.int .i64 (Lib.bitLenAux 64 n : Nat))) [] := by
  refine Con.of_calls0 (us := [.int .u64 n]) (v := .int .i64 (Lib.bitLenAux 64 n : Nat)) (by kernel_rfl) (fun X => Vr_sc) fun w => ?_
  have := Tryz.bits_Len n w (by omega) (by omega)
  rwa [Int.toNat_natCast] at this
theorem shrI {x : Int} {s : Nat} (h : s ≤ 64) : shbin .shr .i64 x (s : Int) = some (.sc (.int .i64 (x / 2 ^ s))) := by
  simp only [shbin, IntKind.bits]
  rw [if_neg (by omega), Int.toNat_natCast, Nat.min_eq_left h, Int.fdiv_eq_ediv_of_nonneg _ (Int.pow_nonneg (by omega))]
theorem and1 {x : Int} (h0 : 0 ≤ x) (h1 : x < 9223372036854775808) : ibin .and .i64 x 1 = some (.sc (.int .i64 (x % 2))) := by
  obtain ⟨n, rfl⟩ : ∃ n : Nat, x = n := ⟨x.toNat, by omega⟩
  show some (D.sc (.int .i64 (IntKind.i64.wrap ((BitVec.ofInt 64 (n : Int)) &&& (BitVec.ofInt 64 1)).toNat))) = _
  have e : ((BitVec.ofInt 64 (n : Int)) &&& BitVec.ofInt 64 1).toNat = n % 2 := by
    rw [BitVec.toNat_and, BitVec.ofInt_natCast, BitVec.toNat_ofNat, show (BitVec.ofInt 64 1).toNat = 2 ^ 1 - 1 from rfl, Nat.and_two_pow_sub_one_eq_mod]
    omega
  rw [e, wrap64 (by omega) (by omega)]
  rfl
attribute [go_sem] shrI
attribute [go_sem ↓] and1

theorem ln_pow (a : Nat) : ∀ n, ln (a ^ n) ≤ n * ln a + 1
  | 0 => by
    show (dig BB 1).length ≤ _
    have := dig_length_le BB2 1 1 (by decide)
    omega
  | n + 1 => by
    have := ln_pow a n
    have := dig_length_mul BB2 (a ^ n) a
    unfold ln at *
    rw [Nat.pow_succ, Nat.add_mul]
    omega
theorem cRaised {a n : Nat} (hn : n ≤ 40) (hla : ln a ≤ 10000) : Con Tryz.prog 52 [ms a, .sc (.int .i64 n)] (ms (a ^ n)) [] := by
  obtain ⟨b1, b2, b3⟩ := bitLenAux_bd 64 n (by omega)
  generalize hL : Lib.bitLenAux 64 n = L at b1 b2 b3
  refine Con.of_body [(0, ms a), (1, .sc (.int .i64 n))] Tryz.func52 rfl ca52 28 rfl (by simp) rfl ?_; refine T_of_R ?_
  refine go ?_
  refine callz (cOneN 1 (by decide)) ?_
  refine go ?_
  refine call (lLen n (by omega)) ?_
  rw [hL]
  refine go ?_
  refine R_loop (fun j : Nat => ⟨tl [(0, ms a), (1, .sc (.int .i64 n)), (5, ms (a ^ (n / 2 ^ j))), (6, .sc (.int .i64 ((j : Int) - 1)))], ol [], 0, [], 28⟩) (fun j => j ≤ L) (fun j => j) L [] (Less.mk' (by simp (disch := (first | omega | (simp only [go_sem, ↓reduceIte, Nat.reduceEqDiff, Nat.reduceAdd, Nat.reduceMul, Nat.reduceSub, Nat.reduceLT, Nat.reduceLeDiff, Nat.reduceBNe, Nat.reduceBEq, Int.reduceToNat, Int.reduceAdd, Int.reduceSub, Int.reduceMul, Int.reduceLT, Int.reduceLE, Int.reduceNeg, Int.reduceBEq, Int.reduceBNe, Int.reduceEq, beq_self_eq_true, reduceCtorEq, decide_true, decide_false, if_pos, if_neg]; first | done | omega))) only [go_sem, ↓reduceIte, Nat.reduceEqDiff, Nat.reduceAdd, Nat.reduceMul, Nat.reduceSub, Nat.reduceLT, Nat.reduceLeDiff, Nat.reduceBNe, Nat.reduceBEq, Int.reduceToNat, Int.reduceAdd, Int.reduceSub, Int.reduceMul, Int.reduceLT, Int.reduceLE, Int.reduceNeg, Int.reduceBEq, Int.reduceBNe, Int.reduceEq, beq_self_eq_true, reduceCtorEq, decide_true, decide_false, if_pos, if_neg, Nat.div_eq_of_lt b1, Nat.pow_zero]) (by simp (disch := (first | omega | (simp only [go_sem, ↓reduceIte, Nat.reduceEqDiff, Nat.reduceAdd, Nat.reduceMul, Nat.reduceSub, Nat.reduceLT, Nat.reduceLeDiff, Nat.reduceBNe, Nat.reduceBEq, Int.reduceToNat, Int.reduceAdd, Int.reduceSub, Int.reduceMul, Int.reduceLT, Int.reduceLE, Int.reduceNeg, Int.reduceBEq, Int.reduceBNe, Int.reduceEq, beq_self_eq_true, reduceCtorEq, decide_true, decide_false, if_pos, if_neg]; first | done | omega))) only [go_sem, ↓reduceIte, Nat.reduceEqDiff, Nat.reduceAdd, Nat.reduceMul, Nat.reduceSub, Nat.reduceLT, Nat.reduceLeDiff, Nat.reduceBNe, Nat.reduceBEq, Int.reduceToNat, Int.reduceAdd, Int.reduceSub, Int.reduceMul, Int.reduceLT, Int.reduceLE, Int.reduceNeg, Int.reduceBEq, Int.reduceBNe, Int.reduceEq, beq_self_eq_true, reduceCtorEq, decide_true, decide_false, if_pos, if_neg, Nat.div_eq_of_lt b1, Nat.pow_zero]) (by decide) (by decide)) (Nat.le_refl _) fun j hj => ?_
  refine go ?_
  refine cnd (fun h => ?_) (fun h => ?_)
  · simp only [decide_eq_true_eq, decide_eq_false_iff_not, Bool.or_eq_true, Bool.and_eq_true, Bool.or_eq_false_iff, Bool.and_eq_false_iff, Bool.not_eq_true', Bool.not_eq_false', bne_iff_ne, beq_iff_eq, ne_eq, bne_eq_false_iff_eq, beq_eq_false_iff_ne, ge_iff_le, gt_iff_lt, Int.not_le, Int.not_lt] at h
    obtain ⟨i, rfl⟩ : ∃ i, j = i + 1 := ⟨j - 1, by omega⟩
    have e1 : ((i + 1 : Nat) : Int) - 1 = i := by omega
    have e1' : (i : Int) + 1 - 1 = i := by omega
    refine R_less (st' := ⟨tl [(0, ms a), (1, .sc (.int .i64 n)), (5, ms (a ^ (n / 2 ^ (i + 1)))), (6, .sc (.int .i64 i))], ol [], 0, [], 28⟩) (ids := []) (Less.mk' (by simp (disch := (first | omega | (simp only [go_sem, ↓reduceIte, Nat.reduceEqDiff, Nat.reduceAdd, Nat.reduceMul, Nat.reduceSub, Nat.reduceLT, Nat.reduceLeDiff, Nat.reduceBNe, Nat.reduceBEq, Int.reduceToNat, Int.reduceAdd, Int.reduceSub, Int.reduceMul, Int.reduceLT, Int.reduceLE, Int.reduceNeg, Int.reduceBEq, Int.reduceBNe, Int.reduceEq, beq_self_eq_true, reduceCtorEq, decide_true, decide_false, if_pos, if_neg]; first | done | omega))) only [go_sem, ↓reduceIte, Nat.reduceEqDiff, Nat.reduceAdd, Nat.reduceMul, Nat.reduceSub, Nat.reduceLT, Nat.reduceLeDiff, Nat.reduceBNe, Nat.reduceBEq, Int.reduceToNat, Int.reduceAdd, Int.reduceSub, Int.reduceMul, Int.reduceLT, Int.reduceLE, Int.reduceNeg, Int.reduceBEq, Int.reduceBNe, Int.reduceEq, beq_self_eq_true, reduceCtorEq, decide_true, decide_false, if_pos, if_neg, e1, e1']) (by simp (disch := (first | omega | (simp only [go_sem, ↓reduceIte, Nat.reduceEqDiff, Nat.reduceAdd, Nat.reduceMul, Nat.reduceSub, Nat.reduceLT, Nat.reduceLeDiff, Nat.reduceBNe, Nat.reduceBEq, Int.reduceToNat, Int.reduceAdd, Int.reduceSub, Int.reduceMul, Int.reduceLT, Int.reduceLE, Int.reduceNeg, Int.reduceBEq, Int.reduceBNe, Int.reduceEq, beq_self_eq_true, reduceCtorEq, decide_true, decide_false, if_pos, if_neg]; first | done | omega))) only [go_sem, ↓reduceIte, Nat.reduceEqDiff, Nat.reduceAdd, Nat.reduceMul, Nat.reduceSub, Nat.reduceLT, Nat.reduceLeDiff, Nat.reduceBNe, Nat.reduceBEq, Int.reduceToNat, Int.reduceAdd, Int.reduceSub, Int.reduceMul, Int.reduceLT, Int.reduceLE, Int.reduceNeg, Int.reduceBEq, Int.reduceBNe, Int.reduceEq, beq_self_eq_true, reduceCtorEq, decide_true, decide_false, if_pos, if_neg, e1, e1']) (by decide) (by decide)) ?_ (by decide)
    have hm : n / 2 ^ (i + 1) ≤ 40 := Nat.le_trans (Nat.div_le_self _ _) hn
    have hm2 : n / 2 ^ i ≤ 40 := Nat.le_trans (Nat.div_le_self _ _) hn
    have l1 := ln_pow a (n / 2 ^ (i + 1))
    have l2 : n / 2 ^ (i + 1) * ln a ≤ 40 * 10000 := Nat.mul_le_mul hm hla
    have hd : n / 2 ^ (i + 1) = n / 2 ^ i / 2 := by rw [Nat.pow_succ, Nat.div_div_eq_div_mul]
    have hi : i ≤ 64 := by omega
    have hc : ((n : Int) / 2 ^ i) = ((n / 2 ^ i : Nat) : Int) := by rw [Int.natCast_ediv]; push_cast; rfl
    have hc0 : 0 ≤ (n : Int) / 2 ^ i ∧ (n : Int) / 2 ^ i < 9223372036854775808 := by
      have z1 : 0 ≤ (n : Int) / 2 ^ i := Int.ediv_nonneg (by omega) (Int.pow_nonneg (by omega))
      have z2 : (n : Int) / 2 ^ i ≤ n := Int.ediv_le_self _ (by omega)
      omega
    have l3 := dig_length_mul BB2 (a ^ (n / 2 ^ (i + 1))) (a ^ (n / 2 ^ (i + 1)))
    unfold ln at l1 l2 hla
    refine go ?_
    refine callz (cTimes (a := a ^ (n / 2 ^ (i + 1))) (b := a ^ (n / 2 ^ (i + 1))) (by unfold ln; omega)) ?_
    refine go ?_
    refine cnd (fun h => ?_) (fun h => ?_)
    · simp only [decide_eq_true_eq, decide_eq_false_iff_not, Bool.or_eq_true, Bool.and_eq_true, Bool.or_eq_false_iff, Bool.and_eq_false_iff, Bool.not_eq_true', Bool.not_eq_false', bne_iff_ne, beq_iff_eq, ne_eq, bne_eq_false_iff_eq, beq_eq_false_iff_ne, ge_iff_le, gt_iff_lt, Int.not_le, Int.not_lt] at h
      rename_i hl
      have e2 : a ^ (n / 2 ^ (i + 1)) * a ^ (n / 2 ^ (i + 1)) * a = a ^ (n / 2 ^ i) := by rw [← Nat.pow_add, ← Nat.pow_succ]; congr 1; omega
      have e3 : ((i : Int) - 1) = (i : Int) - 1 := rfl
      refine go ?_
      refine callz (cTimes (a := a ^ (n / 2 ^ (i + 1)) * a ^ (n / 2 ^ (i + 1))) (b := a) (by unfold ln; omega)) ?_
      rw [e2]
      refine go ?_
      refine R_nilR ⟨[], _, ?_, i, by omega, by omega, rfl⟩; exact lessA
    · simp only [decide_eq_true_eq, decide_eq_false_iff_not, Bool.or_eq_true, Bool.and_eq_true, Bool.or_eq_false_iff, Bool.and_eq_false_iff, Bool.not_eq_true', Bool.not_eq_false', bne_iff_ne, beq_iff_eq, ne_eq, bne_eq_false_iff_eq, beq_eq_false_iff_ne, ge_iff_le, gt_iff_lt, Int.not_le, Int.not_lt] at h
      rename_i hl
      have e2 : a ^ (n / 2 ^ (i + 1)) * a ^ (n / 2 ^ (i + 1)) = a ^ (n / 2 ^ i) := by rw [← Nat.pow_add]; congr 1; omega
      rw [e2]
      refine go ?_
      refine R_nilR ⟨[], _, ?_, i, by omega, by omega, rfl⟩; exact lessA
  · simp only [decide_eq_true_eq, decide_eq_false_iff_not, Bool.or_eq_true, Bool.and_eq_true, Bool.or_eq_false_iff, Bool.and_eq_false_iff, Bool.not_eq_true', Bool.not_eq_false', bne_iff_ne, beq_iff_eq, ne_eq, bne_eq_false_iff_eq, beq_eq_false_iff_ne, ge_iff_le, gt_iff_lt, Int.not_le, Int.not_lt] at h
    obtain rfl : j = 0 := by omega
    rw [Nat.pow_zero, Nat.div_one]
    refine go ?_
    refine R_ret (finA [])

theorem list_top (m : Nat) : (List.replicate (m + 1) (0 : Int)).set m 1 = dig BB (BB ^ m) := by
  have h1 : dig BB 1 = [1] := by rw [dig_pos BB2 (by decide), show 1 / BB = 0 by decide, dig_zero]; rfl
  have h2 := dig_shift BB2 (d := 1) (by decide) m
  rw [Nat.one_mul, h1] at h2
  rw [h2]
  refine eq_of_g (by simp) fun i hi => ?_
  simp only [List.length_set, List.length_replicate] at hi
  rw [gset _ _ _ _ (by simp), gzeros, gappend, List.length_replicate, gzeros]
  by_cases e : m = i
  · subst e; simp
  · rw [if_neg e, if_pos (by omega)]
/-- The root's first estimate is not below it. -/
theorem root_first {a r k : Nat} (hk : 1 ≤ k) (hr : r ^ k ≤ a) (ha : a ≠ 0) : r ≤ BB ^ ((ln a + k - 1) / k) := by
  unfold ln
  refine Classical.byContradiction fun hc => ?_
  have h1 : BB ^ (((dig BB a).length + k - 1) / k) < r := Nat.lt_of_not_le hc
  have h2 := Nat.pow_lt_pow_left h1 (show k ≠ 0 by omega)
  rw [← Nat.pow_mul] at h2
  have h3 : (dig BB a).length ≤ ((dig BB a).length + k - 1) / k * k := by
    have := Nat.div_add_mod ((dig BB a).length + k - 1) k
    have := Nat.mod_lt ((dig BB a).length + k - 1) (show 0 < k by omega)
    rw [Nat.mul_comm]
    omega
  have h4 := Nat.pow_le_pow_right (show 0 < BB by decide) h3
  have h5 := lt_dig BB2 a
  omega
theorem cRoot {a k r : Nat} (hk : 1 ≤ k) (hk2 : k ≤ 12) (hla : ln a ≤ 100) (hr : r ^ k ≤ a) (hr2 : a < (r + 1) ^ k) : Con Tryz.prog 51 [ms a, .sc (.int .i64 k)] (ms r) [] := by
  refine Con.of_body [(0, ms a), (1, .sc (.int .i64 k))] Tryz.func51 rfl ca51 61 rfl (by simp) rfl ?_; refine T_of_R ?_
  refine go ?_
  refine cnd (fun h => ?_) (fun h => ?_)
  · simp only [decide_eq_true_eq, decide_eq_false_iff_not, Bool.or_eq_true, Bool.and_eq_true, Bool.or_eq_false_iff, Bool.and_eq_false_iff, Bool.not_eq_true', Bool.not_eq_false', bne_iff_ne, beq_iff_eq, ne_eq, bne_eq_false_iff_eq, beq_eq_false_iff_ne, ge_iff_le, gt_iff_lt, Int.not_le, Int.not_lt] at h
    have e : r = a := by
      rcases h with h | h
      · have ha : a = 0 := (dig_length_zero BB2).1 (by omega)
        subst ha
        have : r ^ k = 0 := by omega
        exact (Nat.pow_eq_zero.1 this).1
      · obtain rfl : k = 1 := by omega
        rw [Nat.pow_one] at hr hr2
        omega
    rw [e]
    refine go ?_
    refine R_ret (finA [])
  · simp only [decide_eq_true_eq, decide_eq_false_iff_not, Bool.or_eq_true, Bool.and_eq_true, Bool.or_eq_false_iff, Bool.and_eq_false_iff, Bool.not_eq_true', Bool.not_eq_false', bne_iff_ne, beq_iff_eq, ne_eq, bne_eq_false_iff_eq, beq_eq_false_iff_ne, ge_iff_le, gt_iff_lt, Int.not_le, Int.not_lt] at h
    have ha : a ≠ 0 := fun hc => h.1 (by rw [hc, dig_zero]; rfl)
    have hk3 : 2 ≤ k := by omega
    obtain ⟨m, hm⟩ : ∃ m, m = (ln a + k - 1) / k := ⟨_, rfl⟩
    have hmb : m ≤ 100 := by
      rw [hm]
      refine Nat.le_of_lt_succ ((Nat.div_lt_iff_lt_mul (by omega)).2 ?_)
      have : 101 * k = 100 * k + k := by omega
      have : ln a ≤ 100 * k := by omega
      omega
    unfold ln at hm hla
    have hm1 : (((dig BB a).length : Int) + k - 1).tdiv k = m := by
      rw [Int.tdiv_eq_ediv_of_nonneg (by omega), hm, Int.natCast_ediv]
      congr 1
      omega
    have hm2 : ((m : Int) + 1).toNat = m + 1 := by omega
    have hm3 : (((m + 1 : Nat) : Int) - 1).toNat = m := by omega
    refine go ?_
    rw [hm1]
    refine R_frz [0] rfl ?_
    refine R_seen [0] [(0, ms a), (1, .sc (.int .i64 k)), (5, ms (BB ^ m))] (frz_cons (fun o h => by cases h; rfl) (frz_nil _)) ⟨.inl (by first | (simp (disch := (first | omega | (simp only [go_sem, ↓reduceIte, Nat.reduceEqDiff, Nat.reduceAdd, Nat.reduceMul, Nat.reduceSub, Nat.reduceLT, Nat.reduceLeDiff, Nat.reduceBNe, Nat.reduceBEq, Int.reduceToNat, Int.reduceAdd, Int.reduceSub, Int.reduceMul, Int.reduceLT, Int.reduceLE, Int.reduceNeg, Int.reduceBEq, Int.reduceBNe, Int.reduceEq, beq_self_eq_true, reduceCtorEq, decide_true, decide_false, if_pos, if_neg]; first | done | omega))) only [go_sem, ↓reduceIte, Nat.reduceEqDiff, Nat.reduceAdd, Nat.reduceMul, Nat.reduceSub, Nat.reduceLT, Nat.reduceLeDiff, Nat.reduceBNe, Nat.reduceBEq, Int.reduceToNat, Int.reduceAdd, Int.reduceSub, Int.reduceMul, Int.reduceLT, Int.reduceLE, Int.reduceNeg, Int.reduceBEq, Int.reduceBNe, Int.reduceEq, beq_self_eq_true, reduceCtorEq, decide_true, decide_false, if_pos, if_neg] <;> rfl) | fail), .inl (by first | (simp (disch := (first | omega | (simp only [go_sem, ↓reduceIte, Nat.reduceEqDiff, Nat.reduceAdd, Nat.reduceMul, Nat.reduceSub, Nat.reduceLT, Nat.reduceLeDiff, Nat.reduceBNe, Nat.reduceBEq, Int.reduceToNat, Int.reduceAdd, Int.reduceSub, Int.reduceMul, Int.reduceLT, Int.reduceLE, Int.reduceNeg, Int.reduceBEq, Int.reduceBNe, Int.reduceEq, beq_self_eq_true, reduceCtorEq, decide_true, decide_false, if_pos, if_neg]; first | done | omega))) only [go_sem, ↓reduceIte, Nat.reduceEqDiff, Nat.reduceAdd, Nat.reduceMul, Nat.reduceSub, Nat.reduceLT, Nat.reduceLeDiff, Nat.reduceBNe, Nat.reduceBEq, Int.reduceToNat, Int.reduceAdd, Int.reduceSub, Int.reduceMul, Int.reduceLT, Int.reduceLE, Int.reduceNeg, Int.reduceBEq, Int.reduceBNe, Int.reduceEq, beq_self_eq_true, reduceCtorEq, decide_true, decide_false, if_pos, if_neg] <;> rfl) | fail), .inr ?_, trivial⟩ ?_
    · rw [hm2, hm3]
      show viewQ _ [0] 5 (.rf 0 0 (m + 1) 1) = msl (dig BB (BB ^ m))
      rw [← list_top]
      simp (disch := (first | omega | (simp only [go_sem, ↓reduceIte, Nat.reduceEqDiff, Nat.reduceAdd, Nat.reduceMul, Nat.reduceSub, Nat.reduceLT, Nat.reduceLeDiff, Nat.reduceBNe, Nat.reduceBEq, Int.reduceToNat, Int.reduceAdd, Int.reduceSub, Int.reduceMul, Int.reduceLT, Int.reduceLE, Int.reduceNeg, Int.reduceBEq, Int.reduceBNe, Int.reduceEq, beq_self_eq_true, reduceCtorEq, decide_true, decide_false, if_pos, if_neg]; first | done | omega))) only [go_sem, ↓reduceIte, Nat.reduceEqDiff, Nat.reduceAdd, Nat.reduceMul, Nat.reduceSub, Nat.reduceLT, Nat.reduceLeDiff, Nat.reduceBNe, Nat.reduceBEq, Int.reduceToNat, Int.reduceAdd, Int.reduceSub, Int.reduceMul, Int.reduceLT, Int.reduceLE, Int.reduceNeg, Int.reduceBEq, Int.reduceBNe, Int.reduceEq, beq_self_eq_true, reduceCtorEq, decide_true, decide_false, if_pos, if_neg, msl, fzO, Sg.app, List.foldl_cons, List.foldl_nil]
    have hr1 : 1 ≤ r := by
      rcases Nat.eq_zero_or_pos r with hz | hz
      · rw [hz, Nat.zero_add, Nat.one_pow] at hr2; omega
      · exact hz
    have hk4 : k - 1 + 1 = k := by omega
    have hkI : (k : Int) - 1 = ((k - 1 : Nat) : Int) := by omega
    have hf := root_first hk hr ha
    unfold ln at hf
    rw [← hm] at hf
    have lk : (dig BB (k - 1)).length ≤ 1 := dig_length_le BB2 1 _ (by rw [Nat.pow_one]; show k - 1 < 1000000000000000000; omega)
    refine R_loop (fun x : Nat => ⟨tl [(0, ms a), (1, .sc (.int .i64 k)), (5, ms x)], ol [], 0, [], 61⟩) (fun x => r ≤ x ∧ x ≤ BB ^ m) (fun x => x) (BB ^ m) [] lessA ⟨hf, Nat.le_refl _⟩ fun x hx => ?_
    obtain ⟨x1, x2⟩ := hx
    have lx : (dig BB x).length ≤ m + 1 := dig_length_le BB2 _ _ (Nat.lt_of_le_of_lt x2 (Nat.pow_lt_pow_right (by decide) (by omega)))
    have lp := ln_pow x (k - 1)
    have lp2 : (k - 1) * ln x ≤ 11 * 101 := Nat.mul_le_mul (by omega) (by unfold ln; omega)
    unfold ln at lp lp2
    have hx0 : x ^ (k - 1) ≠ 0 := Nat.ne_of_gt (Nat.pow_pos (by omega))
    have lq : (dig BB (a / x ^ (k - 1))).length ≤ (dig BB a).length := dig_mono BB2 (Nat.div_le_self _ _)
    have lt1 := dig_length_mul BB2 x (k - 1)
    have ls := dig_length_add BB2 (x * (k - 1)) (a / x ^ (k - 1))
    refine go ?_
    rw [hkI]
    refine callz (cRaised (a := x) (n := k - 1) (by omega) (by unfold ln; omega)) ?_
    refine go ?_
    refine callz (cOver (a := a) (b := x ^ (k - 1)) hx0 (by unfold ln; omega)) ?_
    refine go ?_
    rw [hkI]
    refine callz (cOneN (k - 1) (by show k - 1 < 1000000000000000000; omega)) ?_
    refine go ?_
    refine callz (cTimes (a := x) (b := k - 1) (by unfold ln; omega)) ?_
    refine go ?_
    refine callz (cPlus (a := x * (k - 1)) (b := a / x ^ (k - 1)) (by unfold ln; omega)) ?_
    refine go ?_
    refine callz (cBy (a := x * (k - 1) + a / x ^ (k - 1)) (d := k) hk (by omega) (by unfold ln; omega)) ?_
    obtain ⟨y, hy⟩ : ∃ y, y = (x * (k - 1) + a / x ^ (k - 1)) / k := ⟨_, rfl⟩
    rw [← hy]
    refine go ?_
    refine call (cCmp y x) ?_
    refine go ?_
    have hg := newton_ge (a := a) (x := x) (r := r) (k := k - 1) (by omega) (by rw [hk4]; exact hr)
    rw [hk4, Nat.mul_comm (k - 1), ← hy] at hg
    refine cnd (fun h => ?_) (fun h => ?_)
    · simp only [decide_eq_true_eq, decide_eq_false_iff_not, Bool.or_eq_true, Bool.and_eq_true, Bool.or_eq_false_iff, Bool.and_eq_false_iff, Bool.not_eq_true', Bool.not_eq_false', bne_iff_ne, beq_iff_eq, ne_eq, bne_eq_false_iff_eq, beq_eq_false_iff_ne, ge_iff_le, gt_iff_lt, Int.not_le, Int.not_lt] at h
      have hyx : x ≤ y := Nat.le_of_not_lt fun hc => absurd ((cmpN_lt y x).2 hc) (by omega)
      have hs := newton_stop (a := a) (x := x) (k := k - 1) (by omega) (by rw [hk4, Nat.mul_comm (k - 1), ← hy]; exact hyx)
      rw [hk4] at hs
      have e : x = r := by
        refine Nat.le_antisymm (Nat.le_of_not_lt fun hc => ?_) x1
        have := Nat.pow_le_pow_left (show r + 1 ≤ x by omega) k
        omega
      rw [e]
      refine go ?_
      refine R_ret (finA [])
    · simp only [decide_eq_true_eq, decide_eq_false_iff_not, Bool.or_eq_true, Bool.and_eq_true, Bool.or_eq_false_iff, Bool.and_eq_false_iff, Bool.not_eq_true', Bool.not_eq_false', bne_iff_ne, beq_iff_eq, ne_eq, bne_eq_false_iff_eq, beq_eq_false_iff_ne, ge_iff_le, gt_iff_lt, Int.not_le, Int.not_lt] at h
      have hyx := (cmpN_lt y x).1 h
      refine go ?_
      refine R_nilR ⟨[], _, ?_, y, ⟨hg, by omega⟩, by omega, rfl⟩; exact lessA
end Go.Proofs.YtglnkfpmogaifaaGreatDoor.V

/-
  Signed numbers.
-/
set_option linter.unusedSimpArgs false
set_option linter.unusedVariables false
set_option maxHeartbeats 4000000
namespace Go.Proofs.YtglnkfpmogaifaaGreatDoor.V
open Go Go.Proofs Go.RowKit

/-- A whole number. -/
abbrev nb (z : Int) : D := .ag [.sc (.bool (decide (z < 0))), ms z.natAbs]
theorem ln_gt (n : Nat) : decide (((dig BB n).length : Int) > 0) = decide (n ≠ 0) := by
  have := dig_length_zero (n := n) BB2
  by_cases h : n = 0
  · rw [decide_eq_false (by omega), decide_eq_false (by omega)]
  · rw [decide_eq_true (by omega), decide_eq_true h]
/-- A sign and a size, as a number. -/
theorem nb_of {z : Int} {s : Bool} {n : Nat} (hn : z.natAbs = n) (hs : s = decide (z < 0)) : nb z = .ag [.sc (.bool s), ms n] := by rw [hs, ← hn]

theorem cTurned (z : Int) : Con Tryz.prog 53 [nb z] (nb (-z)) [] := by
  have e := nb_of (z := -z) (s := !decide (z < 0) && decide (((dig BB z.natAbs).length : Int) > 0)) (n := z.natAbs) (Int.natAbs_neg z) (by
    rw [ln_gt]
    by_cases h : z < 0
    · rw [decide_eq_true h, decide_eq_false (show ¬ -z < 0 by omega)]; rfl
    · by_cases h2 : z = 0
      · subst h2; rfl
      · rw [decide_eq_false h, decide_eq_true (show z.natAbs ≠ 0 by omega), decide_eq_true (show -z < 0 by omega)]; rfl)
  rw [e]
  refine Con.of_body [(0, nb z)] Tryz.func53 rfl ca53 15 rfl (by simp) rfl ?_; refine T_of_R ?_
  refine go ?_
  refine R_ret (finA [])

theorem cSide (z : Int) : Con Tryz.prog 42 [nb z] (.sc (.int .i64 z.sign)) [] := by
  refine Con.of_body [(0, nb z)] Tryz.func42 rfl ca42 11 rfl (by simp) rfl ?_; refine T_of_R ?_
  refine go ?_
  refine cnd (fun h => ?_) (fun h => ?_)
  · simp only [decide_eq_true_eq, decide_eq_false_iff_not, Bool.or_eq_true, Bool.and_eq_true, Bool.or_eq_false_iff, Bool.and_eq_false_iff, Bool.not_eq_true', Bool.not_eq_false', bne_iff_ne, beq_iff_eq, ne_eq, bne_eq_false_iff_eq, beq_eq_false_iff_ne, ge_iff_le, gt_iff_lt, Int.not_le, Int.not_lt] at h
    rw [Int.sign_eq_neg_one_of_neg h]
    refine go ?_
    refine R_ret (finA [])
  · simp only [decide_eq_true_eq, decide_eq_false_iff_not, Bool.or_eq_true, Bool.and_eq_true, Bool.or_eq_false_iff, Bool.and_eq_false_iff, Bool.not_eq_true', Bool.not_eq_false', bne_iff_ne, beq_iff_eq, ne_eq, bne_eq_false_iff_eq, beq_eq_false_iff_ne, ge_iff_le, gt_iff_lt, Int.not_le, Int.not_lt] at h
    refine go ?_
    refine cnd (fun h => ?_) (fun h => ?_)
    · rw [ln_gt] at h
      simp only [decide_eq_true_eq, decide_eq_false_iff_not, Bool.or_eq_true, Bool.and_eq_true, Bool.or_eq_false_iff, Bool.and_eq_false_iff, Bool.not_eq_true', Bool.not_eq_false', bne_iff_ne, beq_iff_eq, ne_eq, bne_eq_false_iff_eq, beq_eq_false_iff_ne, ge_iff_le, gt_iff_lt, Int.not_le, Int.not_lt] at h
      rw [Int.sign_eq_one_of_pos (by omega)]
      refine go ?_
      refine R_ret (finA [])
    · rw [ln_gt] at h
      simp only [decide_eq_true_eq, decide_eq_false_iff_not, Bool.or_eq_true, Bool.and_eq_true, Bool.or_eq_false_iff, Bool.and_eq_false_iff, Bool.not_eq_true', Bool.not_eq_false', bne_iff_ne, beq_iff_eq, ne_eq, bne_eq_false_iff_eq, beq_eq_false_iff_ne, ge_iff_le, gt_iff_lt, Int.not_le, Int.not_lt] at h
      rw [show z = 0 by omega]
      refine go ?_
      refine R_ret (fin_of (ids := []) (by first | (simp (disch := (first | omega | (simp only [go_sem, ↓reduceIte, Nat.reduceEqDiff, Nat.reduceAdd, Nat.reduceMul, Nat.reduceSub, Nat.reduceLT, Nat.reduceLeDiff, Nat.reduceBNe, Nat.reduceBEq, Int.reduceToNat, Int.reduceAdd, Int.reduceSub, Int.reduceMul, Int.reduceLT, Int.reduceLE, Int.reduceNeg, Int.reduceBEq, Int.reduceBNe, Int.reduceEq, beq_self_eq_true, reduceCtorEq, decide_true, decide_false, if_pos, if_neg]; first | done | omega))) only [go_sem, ↓reduceIte, Nat.reduceEqDiff, Nat.reduceAdd, Nat.reduceMul, Nat.reduceSub, Nat.reduceLT, Nat.reduceLeDiff, Nat.reduceBNe, Nat.reduceBEq, Int.reduceToNat, Int.reduceAdd, Int.reduceSub, Int.reduceMul, Int.reduceLT, Int.reduceLE, Int.reduceNeg, Int.reduceBEq, Int.reduceBNe, Int.reduceEq, beq_self_eq_true, reduceCtorEq, decide_true, decide_false, if_pos, if_neg] <;> rfl) | fail) (by simp (disch := (first | omega | (simp only [go_sem, ↓reduceIte, Nat.reduceEqDiff, Nat.reduceAdd, Nat.reduceMul, Nat.reduceSub, Nat.reduceLT, Nat.reduceLeDiff, Nat.reduceBNe, Nat.reduceBEq, Int.reduceToNat, Int.reduceAdd, Int.reduceSub, Int.reduceMul, Int.reduceLT, Int.reduceLE, Int.reduceNeg, Int.reduceBEq, Int.reduceBNe, Int.reduceEq, beq_self_eq_true, reduceCtorEq, decide_true, decide_false, if_pos, if_neg]; first | done | omega))) only [go_sem, ↓reduceIte, Nat.reduceEqDiff, Nat.reduceAdd, Nat.reduceMul, Nat.reduceSub, Nat.reduceLT, Nat.reduceLeDiff, Nat.reduceBNe, Nat.reduceBEq, Int.reduceToNat, Int.reduceAdd, Int.reduceSub, Int.reduceMul, Int.reduceLT, Int.reduceLE, Int.reduceNeg, Int.reduceBEq, Int.reduceBNe, Int.reduceEq, beq_self_eq_true, reduceCtorEq, decide_true, decide_false, if_pos, if_neg, Int.sign_zero]) (by decide) (by simp (disch := (first | omega | (simp only [go_sem, ↓reduceIte, Nat.reduceEqDiff, Nat.reduceAdd, Nat.reduceMul, Nat.reduceSub, Nat.reduceLT, Nat.reduceLeDiff, Nat.reduceBNe, Nat.reduceBEq, Int.reduceToNat, Int.reduceAdd, Int.reduceSub, Int.reduceMul, Int.reduceLT, Int.reduceLE, Int.reduceNeg, Int.reduceBEq, Int.reduceBNe, Int.reduceEq, beq_self_eq_true, reduceCtorEq, decide_true, decide_false, if_pos, if_neg]; first | done | omega))) only [go_sem, ↓reduceIte, Nat.reduceEqDiff, Nat.reduceAdd, Nat.reduceMul, Nat.reduceSub, Nat.reduceLT, Nat.reduceLeDiff, Nat.reduceBNe, Nat.reduceBEq, Int.reduceToNat, Int.reduceAdd, Int.reduceSub, Int.reduceMul, Int.reduceLT, Int.reduceLE, Int.reduceNeg, Int.reduceBEq, Int.reduceBNe, Int.reduceEq, beq_self_eq_true, reduceCtorEq, decide_true, decide_false, if_pos, if_neg, Int.sign_zero]))

theorem cProduct {x y : Int} (h : ln x.natAbs + ln y.natAbs ≤ 1000000000) : Con Tryz.prog 69 [nb x, nb y] (nb (x * y)) [] := by
  have e := nb_of (z := x * y) (s := (decide (x < 0) != decide (y < 0)) && decide (((dig BB (x.natAbs * y.natAbs)).length : Int) > 0)) (n := x.natAbs * y.natAbs) (Int.natAbs_mul x y) (by
    rw [ln_gt]
    by_cases hx : x = 0
    · subst hx; simp
    · by_cases hy : y = 0
      · subst hy; simp
      · rw [decide_eq_true (Nat.mul_ne_zero (by omega) (by omega)), Bool.and_true]
        rcases Int.lt_or_gt_of_ne hx with hx | hx <;> rcases Int.lt_or_gt_of_ne hy with hy | hy
        · rw [decide_eq_true hx, decide_eq_true hy, decide_eq_false (Int.not_lt.2 (Int.le_of_lt (Int.mul_pos_of_neg_of_neg hx hy)))]; rfl
        · rw [decide_eq_true hx, decide_eq_false (by omega), decide_eq_true (Int.mul_neg_of_neg_of_pos hx hy)]; rfl
        · rw [decide_eq_false (by omega), decide_eq_true hy, decide_eq_true (Int.mul_neg_of_pos_of_neg hx hy)]; rfl
        · rw [decide_eq_false (by omega), decide_eq_false (by omega), decide_eq_false (Int.not_lt.2 (Int.le_of_lt (Int.mul_pos hx hy)))]; rfl)
  rw [e]
  refine Con.of_body [(0, nb x), (1, nb y)] Tryz.func69 rfl ca69 23 rfl (by simp) rfl ?_; refine T_of_R ?_
  refine go ?_
  refine callz (cTimes h) ?_
  refine go ?_
  refine R_ret (finA [])

theorem cSum1 {x y : Int} (hc : (decide (x < 0) = decide (y < 0)) ∨ y.natAbs ≤ x.natAbs) (h : ln x.natAbs + ln y.natAbs ≤ 1000000000) : Con Tryz.prog 67 [nb x, nb y] (nb (x + y)) [] := by
  refine Con.of_body [(0, nb x), (1, nb y)] Tryz.func67 rfl ca67 44 rfl (by simp) rfl ?_; refine T_of_R ?_
  refine go ?_
  refine cnd (fun h => ?_) (fun h => ?_)
  · have hs : decide (x < 0) = decide (y < 0) := by simpa using h
    have e := nb_of (z := x + y) (s := decide (x < 0)) (n := x.natAbs + y.natAbs) (by by_cases h1 : x < 0 <;> by_cases h2 : y < 0 <;> simp [h1, h2] at hs <;> omega) (by by_cases h1 : x < 0 <;> by_cases h2 : y < 0 <;> simp [h1, h2] at hs <;> simp [h1] <;> omega)
    rw [e]
    rename_i hl
    refine go ?_
    refine callz (cPlus hl) ?_
    refine go ?_
    refine R_ret (finA [])
  · have hs : decide (x < 0) ≠ decide (y < 0) := by simpa using h
    have hxy : y.natAbs ≤ x.natAbs := hc.resolve_left hs
    rename_i hl
    unfold ln at hl
    refine go ?_
    refine call (cCmp x.natAbs y.natAbs) ?_
    refine go ?_
    refine cnd (fun h => ?_) (fun h => ?_)
    · have e := nb_of (z := x + y) (s := decide (x < 0) && decide (((dig BB (x.natAbs - y.natAbs)).length : Int) > 0)) (n := x.natAbs - y.natAbs) (by by_cases h1 : x < 0 <;> by_cases h2 : y < 0 <;> simp [h1, h2] at hs <;> omega) (by
        rw [ln_gt]
        by_cases h1 : x < 0 <;> by_cases h2 : y < 0 <;> simp [h1, h2] at hs
        · rw [decide_eq_true h1, Bool.true_and]
          exact decide_eq_decide.2 (by omega)
        · rw [decide_eq_false h1, Bool.false_and, decide_eq_false (by omega)])
      rw [e]
      refine go ?_
      refine callz (cMinus hxy (by unfold ln; omega)) ?_
      refine go ?_
      refine R_ret (finA [])
    · simp only [decide_eq_true_eq, decide_eq_false_iff_not, Bool.or_eq_true, Bool.and_eq_true, Bool.or_eq_false_iff, Bool.and_eq_false_iff, Bool.not_eq_true', Bool.not_eq_false', bne_iff_ne, beq_iff_eq, ne_eq, bne_eq_false_iff_eq, beq_eq_false_iff_ne, ge_iff_le, gt_iff_lt, Int.not_le, Int.not_lt] at h
      have := (cmpN_lt _ _).1 h
      omega
theorem cSum {x y : Int} (h : ln x.natAbs + ln y.natAbs ≤ 1000000000) : Con Tryz.prog 67 [nb x, nb y] (nb (x + y)) [] := by
  by_cases hc : (decide (x < 0) = decide (y < 0)) ∨ y.natAbs ≤ x.natAbs
  · exact cSum1 hc h
  · have hl := h
    unfold ln at hl
    have h1 : ¬ decide (x < 0) = decide (y < 0) := fun e => hc (.inl e)
    have h2 : x.natAbs < y.natAbs := Nat.lt_of_not_le fun e => hc (.inr e)
    refine Con.of_body [(0, nb x), (1, nb y)] Tryz.func67 rfl ca67 44 rfl (by simp) rfl ?_; refine T_of_R ?_
    refine go ?_
    refine cnd (fun h => ?_) (fun h => ?_)
    · exact absurd (by simpa using h) h1
    · refine go ?_
      refine call (cCmp x.natAbs y.natAbs) ?_
      refine go ?_
      refine cnd (fun h => ?_) (fun h => ?_)
      · simp only [decide_eq_true_eq, decide_eq_false_iff_not, Bool.or_eq_true, Bool.and_eq_true, Bool.or_eq_false_iff, Bool.and_eq_false_iff, Bool.not_eq_true', Bool.not_eq_false', bne_iff_ne, beq_iff_eq, ne_eq, bne_eq_false_iff_eq, beq_eq_false_iff_ne, ge_iff_le, gt_iff_lt, Int.not_le, Int.not_lt] at h
        have := (cmpN_lt _ _).2 h2
        omega
      · rw [Int.add_comm]
        refine go ?_
        refine callz (cSum1 (x := y) (y := x) (.inr (Nat.le_of_lt h2)) (by unfold ln; omega)) ?_
        refine go ?_
        refine R_ret (finA [])
theorem cLess {x y : Int} (h : ln x.natAbs + ln y.natAbs ≤ 1000000000) : Con Tryz.prog 68 [nb x, nb y] (nb (x - y)) [] := by
  refine Con.of_body [(0, nb x), (1, nb y)] Tryz.func68 rfl ca68 9 rfl (by simp) rfl ?_; refine T_of_R ?_
  refine go ?_
  refine callz (cTurned y) ?_
  refine go ?_
  refine callz (cSum (x := x) (y := -y) (by rw [Int.natAbs_neg]; exact h)) ?_
  rw [← Int.sub_eq_add_neg]
  refine go ?_
  refine R_ret (finA [])
theorem cOrder {x y : Int} (h : ln x.natAbs + ln y.natAbs ≤ 1000000000) : Con Tryz.prog 43 [nb x, nb y] (.sc (.int .i64 (x - y).sign)) [] := by
  refine Con.of_body [(0, nb x), (1, nb y)] Tryz.func43 rfl ca43 9 rfl (by simp) rfl ?_; refine T_of_R ?_
  refine go ?_
  refine callz (cLess h) ?_
  refine go ?_
  refine call (cSide (x - y)) ?_
  refine go ?_
  refine R_ret (finA [])
end Go.Proofs.YtglnkfpmogaifaaGreatDoor.V

/-
  Quotient and remainder of signed numbers; numbers of integers.
-/
set_option linter.unusedSimpArgs false
set_option linter.unusedVariables false
set_option maxHeartbeats 4000000
namespace Go.Proofs.YtglnkfpmogaifaaGreatDoor.V
open Go Go.Proofs Go.RowKit

theorem euc {a b q r : Int} (h : a = b * q + r) (h0 : 0 ≤ r) (h1 : r < b.natAbs) : a / b = q ∧ a % b = r := by
  rcases Int.lt_trichotomy b 0 with hb | hb | hb
  · have k := (Int.ediv_emod_unique (a := a) (b := -b) (r := r) (q := -q) (by omega)).2 ⟨by rw [h]; grind, h0, by omega⟩
    rw [Int.ediv_neg, Int.emod_neg] at k
    exact ⟨by omega, k.2⟩
  · subst hb; omega
  · exact (Int.ediv_emod_unique hb).2 ⟨by rw [h]; grind, h0, by omega⟩
theorem parts_sign {a b : Int} {m n : Nat} (hb : b ≠ 0) (hm : m = a.natAbs / b.natAbs) (hn : n = a.natAbs % b.natAbs) :
    (¬ (a < 0 ∧ n ≠ 0) → (a / b).natAbs = m ∧ a % b = n ∧ (decide (a / b < 0) = ((decide (a < 0) != decide (b < 0)) && decide (m ≠ 0)))) ∧
    ((a < 0 ∧ n ≠ 0) → (a / b).natAbs = m + 1 ∧ a % b = ((b.natAbs - n : Nat) : Int) ∧ decide (a / b < 0) = (decide (a < 0) != decide (b < 0))) := by
  have hB : 0 < b.natAbs := by omega
  have e := Nat.div_add_mod a.natAbs b.natAbs
  have hlt := Nat.mod_lt a.natAbs hB
  rw [← hm, ← hn] at e
  rw [← hn] at hlt
  clear hm hn
  have e' : (b.natAbs : Int) * m + n = a.natAbs := by exact_mod_cast e
  constructor
  · intro hc
    by_cases ha : a < 0 <;> by_cases hb0 : b < 0
    · have h0 : n = 0 := Classical.byContradiction fun h => hc ⟨ha, h⟩
      obtain ⟨k1, k2⟩ := euc (a := a) (b := b) (q := m) (r := 0) (by rw [show b = -(b.natAbs : Int) by omega]; grind) (by omega) (by omega)
      rw [k1, k2, h0]
      refine ⟨by omega, rfl, ?_⟩
      rw [decide_eq_true ha, decide_eq_true hb0, decide_eq_false (by omega)]; rfl
    · have h0 : n = 0 := Classical.byContradiction fun h => hc ⟨ha, h⟩
      obtain ⟨k1, k2⟩ := euc (a := a) (b := b) (q := -m) (r := 0) (by rw [show b = (b.natAbs : Int) by omega]; grind) (by omega) (by omega)
      rw [k1, k2, h0]
      refine ⟨by omega, rfl, ?_⟩
      rw [decide_eq_true ha, decide_eq_false hb0]
      by_cases hm : m = 0
      · subst hm; simp
      · rw [decide_eq_true (by omega), decide_eq_true hm]; rfl
    · obtain ⟨k1, k2⟩ := euc (a := a) (b := b) (q := -m) (r := n) (by rw [show b = -(b.natAbs : Int) by omega]; grind) (by omega) (by omega)
      rw [k1, k2]
      refine ⟨by omega, rfl, ?_⟩
      rw [decide_eq_false ha, decide_eq_true hb0]
      by_cases hm : m = 0
      · subst hm; simp
      · rw [decide_eq_true (by omega), decide_eq_true hm]; rfl
    · obtain ⟨k1, k2⟩ := euc (a := a) (b := b) (q := m) (r := n) (by rw [show b = (b.natAbs : Int) by omega]; grind) (by omega) (by omega)
      rw [k1, k2]
      refine ⟨by omega, rfl, ?_⟩
      rw [decide_eq_false ha, decide_eq_false hb0, decide_eq_false (by omega)]; rfl
  · rintro ⟨ha, hn0⟩
    by_cases hb0 : b < 0
    · obtain ⟨k1, k2⟩ := euc (a := a) (b := b) (q := m + 1) (r := b.natAbs - n) (by rw [show b = -(b.natAbs : Int) by omega]; grind) (by omega) (by omega)
      rw [k1, k2]
      refine ⟨by omega, by omega, ?_⟩
      rw [decide_eq_true ha, decide_eq_true hb0, decide_eq_false (by omega)]; rfl
    · obtain ⟨k1, k2⟩ := euc (a := a) (b := b) (q := -(m + 1)) (r := b.natAbs - n) (by rw [show b = (b.natAbs : Int) by omega]; grind) (by omega) (by omega)
      rw [k1, k2]
      refine ⟨by omega, by omega, ?_⟩
      rw [decide_eq_true ha, decide_eq_false hb0, decide_eq_true (by omega)]; rfl

theorem cParts {a b : Int} (hb : b ≠ 0) (h : ln a.natAbs + ln b.natAbs ≤ 100000) : Con Tryz.prog 39 [nb a, nb b] (.tp [nb (a / b), nb (a % b)]) [] := by
  have hb' : b.natAbs ≠ 0 := by omega
  obtain ⟨m, hm⟩ : ∃ m, m = a.natAbs / b.natAbs := ⟨_, rfl⟩
  obtain ⟨n, hn⟩ : ∃ n, n = a.natAbs % b.natAbs := ⟨_, rfl⟩
  obtain ⟨p1, p2⟩ := parts_sign hb hm hn
  have lm : (dig BB m).length ≤ (dig BB a.natAbs).length := dig_mono BB2 (by rw [hm]; exact Nat.div_le_self _ _)
  have l1 : (dig BB 1).length ≤ 1 := dig_length_le BB2 1 1 (by decide)
  have lm1 := dig_length_add BB2 m 1
  unfold ln at h
  refine Con.of_body [(0, nb a), (1, nb b)] Tryz.func39 rfl ca39 44 rfl (by simp) rfl ?_; refine T_of_R ?_
  refine go ?_
  refine callz (cOver (a := a.natAbs) (b := b.natAbs) hb' (by unfold ln; omega)) ?_
  rw [← hm, ← hn]
  refine go ?_
  refine cnd (fun h => ?_) (fun h => ?_)
  · rw [ln_gt] at h
    simp only [decide_eq_true_eq, decide_eq_false_iff_not, Bool.or_eq_true, Bool.and_eq_true, Bool.or_eq_false_iff, Bool.and_eq_false_iff, Bool.not_eq_true', Bool.not_eq_false', bne_iff_ne, beq_iff_eq, ne_eq, bne_eq_false_iff_eq, beq_eq_false_iff_ne, ge_iff_le, gt_iff_lt, Int.not_le, Int.not_lt] at h
    obtain ⟨q1, q2, q3⟩ := p2 ⟨h.1, h.2⟩
    have nlt : n < b.natAbs := by rw [hn]; exact Nat.mod_lt _ (by omega)
    rw [nb_of q1 q3.symm, q2, nb_of (z := ((b.natAbs - n : Nat) : Int)) (s := false) (n := b.natAbs - n) (by omega) (by rw [decide_eq_false (by omega)])]
    have hz : decide (((dig BB (m + 1)).length : Int) > 0) = true := by rw [ln_gt]; exact decide_eq_true (by omega)
    rename_i hl
    refine go ?_
    refine callz (cOneN 1 (by decide)) ?_
    refine go ?_
    refine callz (cPlus (a := m) (b := 1) (by unfold ln; omega)) ?_
    refine go ?_
    refine callz (cMinus (a := b.natAbs) (b := n) (Nat.le_of_lt nlt) (by unfold ln; omega)) ?_
    refine go ?_
    refine R_ret (fin_of (ids := []) (by first | (simp (disch := (first | omega | (simp only [go_sem, ↓reduceIte, Nat.reduceEqDiff, Nat.reduceAdd, Nat.reduceMul, Nat.reduceSub, Nat.reduceLT, Nat.reduceLeDiff, Nat.reduceBNe, Nat.reduceBEq, Int.reduceToNat, Int.reduceAdd, Int.reduceSub, Int.reduceMul, Int.reduceLT, Int.reduceLE, Int.reduceNeg, Int.reduceBEq, Int.reduceBNe, Int.reduceEq, beq_self_eq_true, reduceCtorEq, decide_true, decide_false, if_pos, if_neg]; first | done | omega))) only [go_sem, ↓reduceIte, Nat.reduceEqDiff, Nat.reduceAdd, Nat.reduceMul, Nat.reduceSub, Nat.reduceLT, Nat.reduceLeDiff, Nat.reduceBNe, Nat.reduceBEq, Int.reduceToNat, Int.reduceAdd, Int.reduceSub, Int.reduceMul, Int.reduceLT, Int.reduceLE, Int.reduceNeg, Int.reduceBEq, Int.reduceBNe, Int.reduceEq, beq_self_eq_true, reduceCtorEq, decide_true, decide_false, if_pos, if_neg] <;> rfl) | fail) (by simp (disch := (first | omega | (simp only [go_sem, ↓reduceIte, Nat.reduceEqDiff, Nat.reduceAdd, Nat.reduceMul, Nat.reduceSub, Nat.reduceLT, Nat.reduceLeDiff, Nat.reduceBNe, Nat.reduceBEq, Int.reduceToNat, Int.reduceAdd, Int.reduceSub, Int.reduceMul, Int.reduceLT, Int.reduceLE, Int.reduceNeg, Int.reduceBEq, Int.reduceBNe, Int.reduceEq, beq_self_eq_true, reduceCtorEq, decide_true, decide_false, if_pos, if_neg]; first | done | omega))) only [go_sem, ↓reduceIte, Nat.reduceEqDiff, Nat.reduceAdd, Nat.reduceMul, Nat.reduceSub, Nat.reduceLT, Nat.reduceLeDiff, Nat.reduceBNe, Nat.reduceBEq, Int.reduceToNat, Int.reduceAdd, Int.reduceSub, Int.reduceMul, Int.reduceLT, Int.reduceLE, Int.reduceNeg, Int.reduceBEq, Int.reduceBNe, Int.reduceEq, beq_self_eq_true, reduceCtorEq, decide_true, decide_false, if_pos, if_neg, hz, Bool.and_true]) (by decide) (by simp (disch := (first | omega | (simp only [go_sem, ↓reduceIte, Nat.reduceEqDiff, Nat.reduceAdd, Nat.reduceMul, Nat.reduceSub, Nat.reduceLT, Nat.reduceLeDiff, Nat.reduceBNe, Nat.reduceBEq, Int.reduceToNat, Int.reduceAdd, Int.reduceSub, Int.reduceMul, Int.reduceLT, Int.reduceLE, Int.reduceNeg, Int.reduceBEq, Int.reduceBNe, Int.reduceEq, beq_self_eq_true, reduceCtorEq, decide_true, decide_false, if_pos, if_neg]; first | done | omega))) only [go_sem, ↓reduceIte, Nat.reduceEqDiff, Nat.reduceAdd, Nat.reduceMul, Nat.reduceSub, Nat.reduceLT, Nat.reduceLeDiff, Nat.reduceBNe, Nat.reduceBEq, Int.reduceToNat, Int.reduceAdd, Int.reduceSub, Int.reduceMul, Int.reduceLT, Int.reduceLE, Int.reduceNeg, Int.reduceBEq, Int.reduceBNe, Int.reduceEq, beq_self_eq_true, reduceCtorEq, decide_true, decide_false, if_pos, if_neg, hz, Bool.and_true]))
  · rw [ln_gt] at h
    simp only [decide_eq_true_eq, decide_eq_false_iff_not, Bool.or_eq_true, Bool.and_eq_true, Bool.or_eq_false_iff, Bool.and_eq_false_iff, Bool.not_eq_true', Bool.not_eq_false', bne_iff_ne, beq_iff_eq, ne_eq, bne_eq_false_iff_eq, beq_eq_false_iff_ne, ge_iff_le, gt_iff_lt, Int.not_le, Int.not_lt] at h
    obtain ⟨q1, q2, q3⟩ := p1 (by omega)
    rw [nb_of q1 (by rw [q3, ← ln_gt]), q2, nb_of (z := (n : Int)) (s := false) (n := n) (by omega) (by rw [decide_eq_false (by omega)])]
    refine go ?_
    refine R_ret (finA [])

theorem cFrom {n : Int} (h0 : -9223372036854775808 ≤ n) (h1 : n ≤ 9223372036854775807) : Con Tryz.prog 55 [.sc (.int .i64 n)] (nb n) [] := by
  have e : cutI [(n.natAbs : Int) % 1000000000000000000, (n.natAbs : Int) / 1000000000000000000] = dig BB n.natAbs := cut_of (dg_of fun j hj => by
    rcases j with _ | _ | j
    · simp only [List.getD_cons_zero]; omega
    · simp only [List.getD_cons_succ, List.getD_cons_zero]; omega
    · exact absurd hj (by simp)) (by
    simp only [val]
    show (n.natAbs : Int) % 1000000000000000000 + 1000000000000000000 * ((n.natAbs : Int) / 1000000000000000000 + 1000000000000000000 * 0) = _
    omega)
  have d1 : (n.natAbs : Int).tmod 1000000000000000000 = (n.natAbs : Int) % 1000000000000000000 := Int.tmod_eq_emod_of_nonneg (by omega)
  have d2 : (n.natAbs : Int).tdiv 1000000000000000000 = (n.natAbs : Int) / 1000000000000000000 := Int.tdiv_eq_ediv_of_nonneg (by omega)
  refine Con.of_body [(0, .sc (.int .i64 n))] Tryz.func55 rfl ca55 19 rfl (by simp) rfl ?_; refine T_of_R ?_
  refine go ?_
  refine cnd (fun h => ?_) (fun h => ?_)
  · simp only [decide_eq_true_eq, decide_eq_false_iff_not, Bool.or_eq_true, Bool.and_eq_true, Bool.or_eq_false_iff, Bool.and_eq_false_iff, Bool.not_eq_true', Bool.not_eq_false', bne_iff_ne, beq_iff_eq, ne_eq, bne_eq_false_iff_eq, beq_eq_false_iff_ne, ge_iff_le, gt_iff_lt, Int.not_le, Int.not_lt] at h
    have w1 : IntKind.u64.wrap (0 - IntKind.u64.wrap n) = n.natAbs := by rw [IntKind.wrap_u64, IntKind.wrap_u64]; omega
    (first | refine R_region ?_ | refine R_drawA (by kernel_rfl) (by kernel_rfl) ?_); refine gos ?_
    rw [w1]
    refine go ?_
    rw [d1, d2]
    refine callz (cTrim [(n.natAbs : Int) % 1000000000000000000, (n.natAbs : Int) / 1000000000000000000]) ?_
    rw [e]
    refine go ?_
    refine R_ret (finA [])
  · simp only [decide_eq_true_eq, decide_eq_false_iff_not, Bool.or_eq_true, Bool.and_eq_true, Bool.or_eq_false_iff, Bool.and_eq_false_iff, Bool.not_eq_true', Bool.not_eq_false', bne_iff_ne, beq_iff_eq, ne_eq, bne_eq_false_iff_eq, beq_eq_false_iff_ne, ge_iff_le, gt_iff_lt, Int.not_le, Int.not_lt] at h
    have w1 : IntKind.u64.wrap n = n.natAbs := by rw [IntKind.wrap_u64]; omega
    rw [w1]
    refine go ?_
    rw [d1, d2]
    refine callz (cTrim [(n.natAbs : Int) % 1000000000000000000, (n.natAbs : Int) / 1000000000000000000]) ?_
    rw [e]
    refine go ?_
    refine R_ret (finA [])
end Go.Proofs.YtglnkfpmogaifaaGreatDoor.V

/-
  Decimal texts of whole numbers: plain.
-/
set_option linter.unusedSimpArgs false
set_option linter.unusedVariables false
namespace Go.Proofs.YtglnkfpmogaifaaGreatDoor.V
open Go.Lib

def isD (c : UInt8) : Bool := decide (48 ≤ c.toNat) && decide (c.toNat ≤ 57)
/-- What digits stand for. -/
def dval (l : List UInt8) : Nat := l.foldl (fun a c => a * 10 + (c.toNat - 48)) 0
def neg1 (l : List UInt8) : Bool := l.head? == some 45
/-- Without the sign. -/
def strip (l : List UInt8) : List UInt8 := if neg1 l then l.tail else l
/-- A valid whole number. -/
def okT (l : List UInt8) : Bool := decide (strip l ≠ []) && decide ((strip l).length ≤ 600) && (strip l).all isD && (decide ((strip l).headD 0 ≠ 48) || decide (l.length = 1))
def numT (l : List UInt8) : Int := if neg1 l then -(dval (strip l) : Int) else dval (strip l)

theorem foldl_dval : ∀ (l : List UInt8) (a : Nat), l.foldl (fun a c => a * 10 + (c.toNat - 48)) a = a * 10 ^ l.length + dval l
  | [], a => by simp [dval]
  | c :: l, a => by
    have h1 := foldl_dval l (a * 10 + (c.toNat - 48))
    have h2 := foldl_dval l (0 * 10 + (c.toNat - 48))
    simp only [List.foldl_cons, List.length_cons, Nat.pow_succ, dval] at h1 h2 ⊢
    rw [h1, h2]
    grind
theorem dval_append (a b : List UInt8) : dval (a ++ b) = dval a * 10 ^ b.length + dval b := by
  unfold dval
  rw [List.foldl_append, foldl_dval]
  rfl
theorem dval_one (c : UInt8) : dval [c] = c.toNat - 48 := by simp [dval]
theorem isD_bd {c : UInt8} (h : isD c = true) : 48 ≤ c.toNat ∧ c.toNat ≤ 57 := by simpa [isD] using h
theorem digit_ofNat {c : UInt8} (h : isD c = true) : UInt8.ofNat (48 + (c.toNat - 48)) = c := by
  have := isD_bd h
  rw [show 48 + (c.toNat - 48) = c.toNat by omega]
  exact UInt8.ofNat_toNat
theorem dval_lt : ∀ (l : List UInt8), l.all isD = true → dval l < 10 ^ l.length := by
  intro l
  induction l with
  | nil => intro _; simp [dval]
  | cons c l ih =>
    intro h
    rw [List.all_cons, Bool.and_eq_true] at h
    have h1 := ih h.2
    have h2 := isD_bd h.1
    rw [show c :: l = [c] ++ l from rfl, dval_append, dval_one, List.length_append, List.length_singleton, Nat.pow_add, Nat.pow_one]
    have : (c.toNat - 48) * 10 ^ l.length ≤ 9 * 10 ^ l.length := Nat.mul_le_mul_right _ (by omega)
    omega
theorem dval_pos {l : List UInt8} (h : l.all isD = true) (hh : l.headD 0 ≠ 48) (hn : l ≠ []) : 1 ≤ dval l := by
  cases l with
  | nil => exact (hn rfl).elim
  | cons c l =>
    rw [List.all_cons, Bool.and_eq_true] at h
    have h2 := isD_bd h.1
    simp only [List.headD_cons] at hh
    have h3 : c.toNat ≠ 48 := fun e => hh (by rw [← UInt8.toNat_inj]; exact e)
    rw [show c :: l = [c] ++ l from rfl, dval_append, dval_one]
    have : 1 * 10 ^ l.length ≤ (c.toNat - 48) * 10 ^ l.length := Nat.mul_le_mul_right _ (by omega)
    have := Nat.pow_pos (n := l.length) (show 0 < 10 by omega)
    omega
/-- A numeral is the numeral of what it stands for. -/
theorem decDigits_dval : ∀ (n : Nat) (l : List UInt8), l.length = n → l.all isD = true → l ≠ [] → (l.headD 0 ≠ 48 ∨ l.length = 1) → decDigits (dval l) = l
  | 0, l, hl, _, hn, _ => by exact (hn (List.length_eq_zero_iff.1 hl)).elim
  | n + 1, l, hl, hd, hn, hh => by
    obtain ⟨t, c, rfl⟩ : ∃ t c, l = t ++ [c] := ⟨l.dropLast, l.getLast hn, (List.dropLast_concat_getLast hn).symm⟩
    rw [List.length_append, List.length_singleton] at hl
    rw [List.all_append, Bool.and_eq_true] at hd
    have hc : isD c = true := by simpa using hd.2
    have hcb := isD_bd hc
    rw [dval_append, dval_one, List.length_singleton, Nat.pow_one]
    by_cases ht : t = []
    · subst ht
      rw [show dval [] = 0 from rfl, Nat.zero_mul, Nat.zero_add, decDigits, dif_pos (by omega), digit_ofNat hc]
      rfl
    · have hth : t.headD 0 ≠ 48 := by
        rcases hh with hh | hh
        · cases t with
          | nil => exact (ht rfl).elim
          | cons x t => simpa using hh
        · rw [List.length_append, List.length_singleton] at hh
          exact (ht (List.length_eq_zero_iff.1 (by omega))).elim
      have hp := dval_pos hd.1 hth ht
      rw [decDigits, dif_neg (by omega), show (dval t * 10 + (c.toNat - 48)) / 10 = dval t by omega, show (dval t * 10 + (c.toNat - 48)) % 10 = c.toNat - 48 by omega, digit_ofNat hc,
        decDigits_dval n t (by omega) hd.1 ht (.inl hth)]
theorem isD_ofNat {d : Nat} (h : d < 10) : isD (UInt8.ofNat (48 + d)) = true ∧ (UInt8.ofNat (48 + d)).toNat = 48 + d := by
  have e : (UInt8.ofNat (48 + d)).toNat = 48 + d := by
    rw [UInt8.toNat_ofNat']
    omega
  refine ⟨?_, e⟩
  unfold isD
  rw [e, decide_eq_true (by omega), decide_eq_true (by omega)]
  rfl
/-- The numeral of a number. -/
theorem decDigits_spec (u : Nat) : (decDigits u).all isD = true ∧ dval (decDigits u) = u ∧ decDigits u ≠ [] ∧ ((decDigits u).headD 0 ≠ 48 ∨ u = 0) := by
  induction u using Nat.strongRecOn with
  | ind u ih =>
    rw [decDigits]
    split
    · rename_i h
      obtain ⟨h1, h2⟩ := isD_ofNat h
      refine ⟨by rw [List.all_cons, List.all_nil, h1]; rfl, by rw [dval_one, h2]; omega, by simp, ?_⟩
      by_cases h0 : u = 0
      · exact .inr h0
      · left
        simp only [List.headD_cons]
        intro e
        have : (UInt8.ofNat (48 + u)).toNat = (48 : UInt8).toNat := by rw [e]
        rw [h2] at this
        have e48 : (48 : UInt8).toNat = 48 := rfl
        omega
    · rename_i h
      obtain ⟨i1, i2, i3, i4⟩ := ih (u / 10) (by omega)
      obtain ⟨h1, h2⟩ := isD_ofNat (d := u % 10) (by omega)
      refine ⟨by rw [List.all_append, i1, List.all_cons, List.all_nil, h1]; rfl, by rw [dval_append, i2, dval_one, h2]; simp; omega, by simp, ?_⟩
      left
      rcases i4 with i4 | i4
      · obtain ⟨x, t, e⟩ : ∃ x t, decDigits (u / 10) = x :: t := by
          cases hd : decDigits (u / 10) with
          | nil => exact (i3 hd).elim
          | cons x t => exact ⟨x, t, rfl⟩
        rw [e] at i4 ⊢
        simpa using i4
      · omega
theorem head_ne {l : List UInt8} (h : l.all isD = true) : neg1 l = false := by
  cases l with
  | nil => rfl
  | cons c l =>
    rw [List.all_cons, Bool.and_eq_true] at h
    have := isD_bd h.1
    have : c ≠ 45 := fun e => by rw [e] at this; exact absurd this.1 (by decide)
    simpa [neg1] using this
theorem itoa_ok (z : Int) (h : (decDigits z.natAbs).length ≤ 600) : okT (itoa z) = true ∧ numT (itoa z) = z := by
  obtain ⟨d1, d2, d3, d4⟩ := decDigits_spec z.natAbs
  by_cases hz : z < 0
  · have e : itoa z = 45 :: decDigits z.natAbs := by unfold itoa; rw [if_pos hz]
    have hn : neg1 (itoa z) = true := by rw [e]; rfl
    have hs : strip (itoa z) = decDigits z.natAbs := by unfold strip; rw [hn, e]; rfl
    refine ⟨?_, ?_⟩
    · unfold okT
      rw [hs, decide_eq_true d3, decide_eq_true h, d1, decide_eq_true (d4.resolve_right (by omega))]
      rfl
    · unfold numT
      rw [hn, hs, d2]
      simp only [if_true]
      omega
  · have e : itoa z = decDigits z.natAbs := by unfold itoa; rw [if_neg hz, show z.toNat = z.natAbs by omega]
    have hn : neg1 (itoa z) = false := by rw [e]; exact head_ne d1
    have hs : strip (itoa z) = decDigits z.natAbs := by unfold strip; rw [hn, e]; rfl
    refine ⟨?_, ?_⟩
    · unfold okT
      rw [hs, decide_eq_true d3, decide_eq_true h, d1]
      rcases d4 with d4 | d4
      · rw [decide_eq_true d4]; rfl
      · have : (itoa z).length = 1 := by rw [e, d4, decDigits, dif_pos (by omega)]; rfl
        rw [decide_eq_true this, Bool.or_true]; rfl
    · unfold numT
      rw [hn, hs, d2]
      simp only [Bool.false_eq_true, if_false]
      omega
theorem okT_spec {l : List UInt8} (h : okT l = true) : strip l ≠ [] ∧ (strip l).length ≤ 600 ∧ (strip l).all isD = true ∧ ((strip l).headD 0 ≠ 48 ∨ l.length = 1) := by
  unfold okT at h
  simp only [Bool.and_eq_true, Bool.or_eq_true, decide_eq_true_eq] at h
  exact ⟨h.1.1.1, h.1.1.2, h.1.2, h.2⟩
theorem okT_num {l : List UInt8} (h : okT l = true) : itoa (numT l) = l ∧ (decDigits (numT l).natAbs).length ≤ 600 := by
  obtain ⟨h1, h2, h3, h4⟩ := okT_spec h
  by_cases hn : neg1 l = true
  · obtain ⟨t, rfl⟩ : ∃ t, l = 45 :: t := by
      cases l with
      | nil => exact absurd hn (by decide)
      | cons c t =>
        have : c = 45 := by simpa [neg1] using hn
        exact ⟨t, by rw [this]⟩
    have hs : strip (45 :: t) = t := rfl
    rw [hs] at h1 h2 h3 h4
    have hh : t.headD 0 ≠ 48 := by
      rcases h4 with h4 | h4
      · exact h4
      · exact (h1 (List.length_eq_zero_iff.1 (by simpa using h4))).elim
    have hp := dval_pos h3 hh h1
    have e : numT (45 :: t) = -(dval t : Int) := rfl
    have ed := decDigits_dval _ t rfl h3 h1 (.inl hh)
    have en : (numT (45 :: t)).natAbs = dval t := by rw [e]; omega
    refine ⟨?_, by rw [en, ed]; exact h2⟩
    unfold itoa
    rw [en, ed, if_pos (by rw [e]; omega)]
  · have hn : neg1 l = false := by simpa using hn
    have hs : strip l = l := by unfold strip; rw [hn]; rfl
    rw [hs] at h1 h2 h3 h4
    have e : numT l = (dval l : Int) := by unfold numT; rw [hn, hs]; rfl
    have ed := decDigits_dval _ l rfl h3 h1 h4
    rw [e]
    refine ⟨?_, by rw [Int.natAbs_natCast, ed]; exact h2⟩
    unfold itoa
    rw [if_neg (by omega), Int.toNat_natCast, ed]
theorem okT_iff {l : List UInt8} : okT l = true ↔ ∃ z : Int, l = itoa z ∧ (decDigits z.natAbs).length ≤ 600 := by
  constructor
  · intro h
    have := okT_num h
    exact ⟨numT l, this.1.symm, this.2⟩
  · rintro ⟨z, rfl, h⟩
    exact (itoa_ok z h).1
theorem itoa_inj {a b : Int} (h : itoa a = itoa b) (ha : (decDigits a.natAbs).length ≤ 600) (hb : (decDigits b.natAbs).length ≤ 600) : a = b := by
  rw [← (itoa_ok a ha).2, ← (itoa_ok b hb).2, h]
theorem decDigits_le {u k : Nat} : (decDigits u).length ≤ k + 1 ↔ u < 10 ^ (k + 1) := by
  induction k generalizing u with
  | zero =>
    rw [decDigits]
    split
    · rename_i h; simp; omega
    · rename_i h
      have := (decDigits_spec (u / 10)).2.2.1
      have : (decDigits (u / 10)).length ≠ 0 := fun e => this (List.length_eq_zero_iff.1 e)
      rw [List.length_append, List.length_singleton]
      simp only [Nat.zero_add, Nat.pow_one]
      omega
  | succ k ih =>
    rw [decDigits]
    split
    · rename_i h
      have : 10 ^ 1 ≤ 10 ^ (k + 1 + 1) := Nat.pow_le_pow_right (by omega) (by omega)
      simp only [List.length_singleton]
      omega
    · rename_i h
      rw [List.length_append, List.length_singleton, Nat.pow_succ 10 (k + 1)]
      have := ih (u := u / 10)
      omega

/-- A numeral, filled up with zeros ahead. -/
def pad (k x : Nat) : List UInt8 := List.replicate (k - (decDigits x).length) 48 ++ decDigits x
theorem dval_zeros : ∀ (m : Nat) (l : List UInt8), dval (List.replicate m 48 ++ l) = dval l
  | 0, l => rfl
  | m + 1, l => by
    rw [List.replicate_succ, List.cons_append, show (48 : UInt8) :: (List.replicate m 48 ++ l) = [48] ++ (List.replicate m 48 ++ l) from rfl, dval_append, dval_zeros m l, dval_one]
    have : (48 : UInt8).toNat = 48 := rfl
    simp [this]
theorem pad_length {k x : Nat} (h : x < 10 ^ k) (hk : 1 ≤ k) : (pad k x).length = k := by
  obtain ⟨j, rfl⟩ : ∃ j, k = j + 1 := ⟨k - 1, by omega⟩
  have := decDigits_le.2 h
  unfold pad
  rw [List.length_append, List.length_replicate]
  omega
theorem pad_all (k x : Nat) : (pad k x).all isD = true := by
  unfold pad
  rw [List.all_append, (decDigits_spec x).1, Bool.and_true, List.all_eq_true]
  intro c hc
  rw [List.mem_replicate] at hc
  rw [hc.2]
  rfl
theorem decDigits_split {k t x : Nat} (ht : 1 ≤ t) (hx : x < 10 ^ k) (hk : 1 ≤ k) : decDigits (t * 10 ^ k + x) = decDigits t ++ pad k x := by
  obtain ⟨d1, d2, d3, d4⟩ := decDigits_spec t
  have hv : dval (decDigits t ++ pad k x) = t * 10 ^ k + x := by
    rw [dval_append, d2, pad_length hx hk]
    unfold pad
    rw [dval_zeros, (decDigits_spec x).2.1]
  rw [← hv]
  refine decDigits_dval _ _ rfl (by rw [List.all_append, d1, pad_all]; rfl) (by simp [d3]) (.inl ?_)
  obtain ⟨c, r, e⟩ : ∃ c r, decDigits t = c :: r := by
    cases hd : decDigits t with
    | nil => exact (d3 hd).elim
    | cons c r => exact ⟨c, r, rfl⟩
  rw [e] at d4 ⊢
  simpa using d4.resolve_right (by omega)
end Go.Proofs.YtglnkfpmogaifaaGreatDoor.V

/-
  strconv.FormatUint to the base 10: the number's decimal numeral.
-/
set_option linter.unusedSimpArgs false
set_option linter.unusedVariables false
namespace Go.Proofs
open Go.Shelf Go.RowKit Go.Sort Go.Lib

set_option maxHeartbeats 6400000 in
set_option maxRecDepth 100000 in
theorem Tryz.iFormatUint (u : Nat) (hu64 : u < 18446744073709551616) (w : World) (htab : Lib.TabIs Tryz.prog w "internal/strconv.uint64pow10" .u64 Lib.pow10Tab) :
    Calls Tryz.prog 102 #[.int .u64 u, .int .i64 10] w fun e w' => e = .returned (.string ⟨(Lib.decDigits u).toArray⟩) ∧ Below w.heap.size w w' := by
  by_cases hs : u < 100
  · have hs' : (u : Int) < 100 := by omega
    go_enter Tryz.func102, Tryz.ntmps102
    go_wp2_with (go_at_call 121; refine (Tryz.internal_strconv_small u hs _).mono ?_; rintro e w' ⟨rfl, rfl⟩)
    go_ret
    exact ⟨rfl, Below.refl _ _⟩
  · have hu1 : 1 ≤ u := by omega
    have hs' : ¬ (u : Int) < 100 := by omega
    have hnd20 : Lib.nDigits u ≤ 20 := by have := Lib.numDigits_eq u hu1 hu64; split at this <;> omega
    have hal : Tryz.prog.arrayLen 146 = 24 := by kernel_rfl
    have hsl : ∀ W, (Instr.sliceAt 146 (.pointer (some ⟨w.heap.size, 0, none⟩)) none (some (.int .i64 (Lib.nDigits u : Int))) none).run Tryz.prog W = .ok (.slice (some ⟨w.heap.size, 0, none⟩) (Lib.nDigits u) 24) W := fun W => by
      rw [run_sliceAt_array_h W 146 ⟨w.heap.size, 0, none⟩ Tryz.underlying146 .i64 (Lib.nDigits u : Int) (by omega) (by rw [hal]; omega)]
      go_simp
    have hH0 := Lib.holds_zero0 w 146 (Lib.nDigits u) (by omega)
    have hfmt := Tryz.internal_strconv_formatBase10 w.heap.size 0 24 u (Array.replicate (Lib.nDigits u) 0) (w.alloc (.cells Lib.zeros24 146)) hH0 (by rw [Array.size_replicate]; exact Lib.lt_pow_nDigits u) hu64 (by rw [Array.size_replicate]; omega)
    rw [Array.size_replicate] at hfmt
    have HH0 := Lib.hid hH0
    clear hH0 hal
    go_enter Tryz.func102, Tryz.ntmps102
    go_wp2_with (go_at_call 122; refine (Tryz.internal_strconv_numDigits u hu1 hu64 _ (Lib.tabIs_alloc htab _)).mono ?_; rintro e w' ⟨rfl, rfl⟩)
    go_at_call 123
    refine hfmt.mono ?_
    rintro e w' ⟨rfl, k, v', dk, rfl, hF⟩
    have hcv : (convert 106 9 (.slice (some ⟨w.heap.size, 0, none⟩) (Lib.nDigits u) 24)).run Tryz.prog ((putRow (fun (b : UInt8) => Value.int .u8 (b.toNat : Int)) (w.alloc (.cells Lib.zeros24 146)) w.heap.size 0 dk).drewN k) = .ok (.string ⟨(Lib.decDigits u).toArray⟩) ((putRow (fun (b : UInt8) => Value.int .u8 (b.toNat : Int)) (w.alloc (.cells Lib.zeros24 146)) w.heap.size 0 dk).drewN k) := by
      have h := run_convert_bytes_back (P := Tryz.prog) ((putRow (fun (b : UInt8) => Value.int .u8 (b.toNat : Int)) (w.alloc (.cells Lib.zeros24 146)) w.heap.size 0 dk).drewN k) 106 9 5 ⟨w.heap.size, 0, none⟩ 24 (Lib.decDigits u) Tryz.underlying106 Tryz.underlying5 Tryz.underlying9 (fun j hj => by
        rw [Lib.row_is_numeral hF j hj, Lib.add_plain, World.cell?_drewN]
        exact cell?_putRow (fun (b : UInt8) => Value.int .u8 (b.toNat : Int)) _ w.heap.size 0 _ dk HH0.out (by rw [hF.size, Array.size_replicate]) j (by rw [hF.size]; rw [Lib.decDigits_length] at hj; exact hj))
      rw [Lib.decDigits_length] at h
      exact h
    go_wp2
    go_ret
    obtain ⟨os, eo⟩ := Lib.fin_at w (.cells Lib.zeros24 146) dk k 0
    refine ⟨rfl, ?_⟩
    rw [eo]
    exact Lib.below_grow w.heap.size w (Nat.le_refl _) k os

set_option maxHeartbeats 1000000 in
theorem Tryz.sFormatUint (u : Nat) (hu64 : u < 18446744073709551616) (w : World) (htab : Lib.TabIs Tryz.prog w "internal/strconv.uint64pow10" .u64 Lib.pow10Tab) :
    Calls Tryz.prog 78 #[.int .u64 u, .int .i64 10] w fun e w' => e = .returned (.string ⟨(Lib.decDigits u).toArray⟩) ∧ Below w.heap.size w w' := by
  go_enter Tryz.func78, Tryz.ntmps78
  go_wp2_with (go_at_call 102; refine (Tryz.iFormatUint u hu64 _ htab).mono ?_; rintro e w' ⟨rfl, hb⟩)
  go_ret
  exact ⟨rfl, hb⟩
end Go.Proofs

/-
  Texts; the digits of a number; whether a text is a whole number.
-/
set_option linter.unusedSimpArgs false
set_option linter.unusedVariables false
set_option maxHeartbeats 4000000
namespace Go.Proofs.YtglnkfpmogaifaaGreatDoor.V
open Go Go.Proofs Go.RowKit

/-- A text, by its bytes. -/
abbrev ba (l : List UInt8) : ByteArray := ⟨l.toArray⟩
abbrev tx (l : List UInt8) : D := .sc (.string (ba l))
theorem ba_size (l : List UInt8) : (ba l).size = l.length := by simp [ByteArray.size]
theorem ba_toList (l : List UInt8) : (ba l).toList = l := by rw [ByteArray.toList_eq]
theorem ba_eq (a b : List UInt8) : ((ba a).toList == (ba b).toList) = decide (a = b) := by
  rw [ba_toList, ba_toList]
  by_cases h : a = b <;> simp [h]
theorem ba_append (a b : List UInt8) : ba a ++ ba b = ba (a ++ b) := by
  apply ByteArray.ext
  simp [ByteArray.data_append]
theorem ba_extract (l : List UInt8) (i j : Nat) : (ba l).extract i j = ba ((l.drop i).take (j - i)) := by
  apply ByteArray.ext
  simp [ByteArray.data_extract, List.extract]
theorem ba_get {l : List UInt8} {i : Nat} (h : i < l.length) : (ba l)[i]? = some (l.getD i 0) := by
  have hs : i < (ba l).size := by rw [ba_size]; exact h
  rw [getElem?_pos (ba l) i hs]
  congr 1
  show (ba l).data[i] = _
  simp [List.getD_eq_getElem?_getD, h]
theorem ba_nil : (⟨#[]⟩ : ByteArray) = ba [] := rfl
theorem ba_1 (a : UInt8) : (⟨#[a]⟩ : ByteArray) = ba [a] := rfl
theorem ix_ba {P : Program} {t : TypeId} {k : IntKind} {i : Int} {l : List UInt8} (hu : P.underlying t = some .string) (h0 : 0 ≤ i) (hi : i < l.length) : vindex P t (.sc (.string (ba l))) (.sc (.int k i)) = some (.sc (.int .u8 (l.getD i.toNat 0).toNat)) := by
  unfold vindex
  rw [hu]
  simp only []
  rw [if_pos h0, ba_get (by omega)]
  rfl
attribute [go_sem] ix_ba ba_size List.size_toArray ba_append ba_extract ba_get ba_nil ba_1 sbin
theorem ba_eq0 (a : List UInt8) : ((ba a).toList == (ba []).toList) = decide (a.length < 1) := by
  rw [ba_eq]
  cases a <;> simp
attribute [go_sem ↓] ba_eq
attribute [go_sem ↓ high] ba_eq0

theorem ndata (l : List UInt8) : (ba l).data.toList = l := by simp
theorem lFormat {n : Int} (h0 : 0 ≤ n) (h1 : n < 18446744073709551616) : Con Tryz.prog 78 [.sc (.int .u64 n), .sc (.int .i64 10)] (tx (Lib.decDigits n.toNat)) [] := by
  obtain ⟨u, rfl⟩ : ∃ u : Nat, n = u := ⟨n.toNat, by omega⟩
  rw [Int.toNat_natCast]
  exact Con.of_calls (us := [.int .u64 u, .int .i64 10]) (by kernel_rfl) (fun X => Vr_sc) fun w hgl => Tryz.sFormatUint u (by omega) w hgl.1
theorem lTrim (l : List UInt8) : Con Tryz.prog 41 [tx l, .sc (.string ⟨#[45]⟩)] (tx (strip l)) [] := by
  refine Con.of_calls0 (us := [.string (ba l), .string ⟨#[45]⟩]) (by kernel_rfl) (fun X => Vr_sc) fun w => ?_
  have := Tryz.strings_TrimPrefix (ba l) ⟨#[45]⟩ w
  have e : Lib.trimPrefix (ba l).data.toList (ByteArray.mk #[45]).data.toList = strip l := by
    rw [ndata]
    unfold Lib.trimPrefix strip neg1
    cases l with
    | nil => rfl
    | cons c t =>
      by_cases hc : c = 45
      · subst hc; simp [Lib.hasPrefix]
      · simp [Lib.hasPrefix, hc, Ne.symm hc]
  rwa [e] at this

/-- A number's text, group by group. -/
theorem grp (a i : Nat) (h : BB ^ (i + 1) ≤ a) : Lib.decDigits (a / BB ^ i) = Lib.decDigits (a / BB ^ (i + 1)) ++ pad 18 ((dig BB a).getD i 0).toNat := by
  have hp : 0 < BB ^ (i + 1) := Nat.pow_pos (by decide)
  have e : a / BB ^ i = a / BB ^ (i + 1) * BB + a / BB ^ i % BB := by
    rw [Nat.pow_succ, ← Nat.div_div_eq_div_mul, Nat.mul_comm]
    exact (Nat.div_add_mod _ _).symm
  have g : (dig BB a).getD i 0 = ((a / BB ^ i % BB : Nat) : Int) := by
    have h1 := val_drop BB2 i a
    have h2 := val_drop BB2 (i + 1) a
    have hl := dig_length_gt BB2 h
    have hl' : i < (dig BB a).length := by omega
    rw [List.drop_eq_getElem_cons hl'] at h1
    simp only [val] at h1
    rw [h2] at h1
    have e3 : (dig BB a)[i] = (dig BB a).getD i 0 := by simp [List.getD_eq_getElem?_getD, hl']
    rw [e3] at h1
    generalize (dig BB a).getD i 0 = x at h1 ⊢
    have e4 : ((a / BB ^ i : Nat) : Int) = ((a / BB ^ (i + 1) * BB + a / BB ^ i % BB : Nat) : Int) := by rw [← e]
    rw [e4] at h1
    generalize a / BB ^ i % BB = r at h1 ⊢
    generalize a / BB ^ (i + 1) = t at h1
    rw [Int.natCast_add, Int.natCast_mul, Int.mul_comm] at h1
    omega
  rw [g, Int.toNat_natCast]
  conv => lhs; rw [e]
  exact decDigits_split (k := 18) ((Nat.le_div_iff_mul_le hp).2 (by omega)) (Nat.mod_lt _ (by decide)) (by decide)
theorem grp_length (a : Nat) : ∀ i, BB ^ i ≤ a → (Lib.decDigits a).length = 18 * i + (Lib.decDigits (a / BB ^ i)).length
  | 0, _ => by simp
  | i + 1, h => by
    have h' : BB ^ i ≤ a := Nat.le_trans (Nat.pow_le_pow_right (by decide) (by omega)) h
    rw [grp_length a i h', grp a i h, List.length_append, pad_length (by
      have := dgB a i
      show _ < 1000000000000000000
      omega) (by decide)]
    omega
theorem top_div {a n : Nat} (h : (dig BB a).length = n + 1) : a / BB ^ n = ((dig BB a).getD n 0).toNat := by
  have h1 := val_drop BB2 n a
  rw [val_two (by rw [List.length_drop]; omega), getD_drop, getD_drop, Nat.add_zero, gout _ (n + 1) (by omega)] at h1
  generalize a / BB ^ n = q at h1 ⊢
  omega
theorem cDigits {a : Nat} (hla : ln a ≤ 1000000) : Con Tryz.prog 76 [ms a] (.sc (.int .i64 (Lib.decDigits a).length)) [] := by
  unfold ln at hla
  refine Con.of_body [(0, ms a)] Tryz.func76 rfl ca76 19 rfl (by simp) rfl ?_; refine T_of_R ?_
  refine go ?_
  refine cnd (fun h => ?_) (fun h => ?_)
  · simp only [decide_eq_true_eq, decide_eq_false_iff_not, Bool.or_eq_true, Bool.and_eq_true, Bool.or_eq_false_iff, Bool.and_eq_false_iff, Bool.not_eq_true', Bool.not_eq_false', bne_iff_ne, beq_iff_eq, ne_eq, bne_eq_false_iff_eq, beq_eq_false_iff_ne, ge_iff_le, gt_iff_lt, Int.not_le, Int.not_lt] at h
    have ha : a = 0 := (dig_length_zero BB2).1 (by omega)
    subst ha
    have e : (Lib.decDigits 0).length = 1 := by rw [Lib.decDigits, dif_pos (by omega)]; rfl
    rw [e]
    refine go ?_
    refine R_ret (finA [])
  · simp only [decide_eq_true_eq, decide_eq_false_iff_not, Bool.or_eq_true, Bool.and_eq_true, Bool.or_eq_false_iff, Bool.and_eq_false_iff, Bool.not_eq_true', Bool.not_eq_false', bne_iff_ne, beq_iff_eq, ne_eq, bne_eq_false_iff_eq, beq_eq_false_iff_ne, ge_iff_le, gt_iff_lt, Int.not_le, Int.not_lt] at h
    obtain ⟨n, hn⟩ : ∃ n, (dig BB a).length = n + 1 := ⟨(dig BB a).length - 1, by omega⟩
    have ha : a ≠ 0 := fun hc => by rw [hc, dig_zero] at hn; simp at hn
    have hp := pow_le_dig BB2 ha
    rw [hn, Nat.add_sub_cancel] at hp
    have hlen := grp_length a n hp
    rw [top_div hn] at hlen
    have hnI : ((dig BB a).length : Int) = (n : Int) + 1 := by omega
    have hx : ((n : Int) + 1 - 1).toNat = n := by omega
    have tb := dgB a n
    have tl1 : (Lib.decDigits ((dig BB a).getD n 0).toNat).length ≤ 17 + 1 := decDigits_le.2 (by omega)
    refine R_less (st' := ⟨tl [(0, ms a)], ol [], 0, [], 19⟩) (ids := []) lessA ?_ (by decide)
    have hx2 : ((dig BB a).getD (((dig BB a).length : Int) - 1).toNat 0) = (dig BB a).getD n 0 := by rw [hnI, hx]
    refine go ?_
    rw [hx2]
    refine call (lFormat (n := (dig BB a).getD n 0) (by omega) (by omega)) ?_
    have hfin : 18 * (((dig BB a).length : Int) - 1) + ((Lib.decDigits ((dig BB a).getD n 0).toNat).length : Int) = ((Lib.decDigits a).length : Int) := by omega
    refine go ?_
    refine R_ret (fin_of (ids := []) (by first | (simp (disch := (first | omega | (simp only [go_sem, ↓reduceIte, Nat.reduceEqDiff, Nat.reduceAdd, Nat.reduceMul, Nat.reduceSub, Nat.reduceLT, Nat.reduceLeDiff, Nat.reduceBNe, Nat.reduceBEq, Int.reduceToNat, Int.reduceAdd, Int.reduceSub, Int.reduceMul, Int.reduceLT, Int.reduceLE, Int.reduceNeg, Int.reduceBEq, Int.reduceBNe, Int.reduceEq, beq_self_eq_true, reduceCtorEq, decide_true, decide_false, if_pos, if_neg]; first | done | omega))) only [go_sem, ↓reduceIte, Nat.reduceEqDiff, Nat.reduceAdd, Nat.reduceMul, Nat.reduceSub, Nat.reduceLT, Nat.reduceLeDiff, Nat.reduceBNe, Nat.reduceBEq, Int.reduceToNat, Int.reduceAdd, Int.reduceSub, Int.reduceMul, Int.reduceLT, Int.reduceLE, Int.reduceNeg, Int.reduceBEq, Int.reduceBNe, Int.reduceEq, beq_self_eq_true, reduceCtorEq, decide_true, decide_false, if_pos, if_neg] <;> rfl) | fail) (by simp (disch := (first | omega | (simp only [go_sem, ↓reduceIte, Nat.reduceEqDiff, Nat.reduceAdd, Nat.reduceMul, Nat.reduceSub, Nat.reduceLT, Nat.reduceLeDiff, Nat.reduceBNe, Nat.reduceBEq, Int.reduceToNat, Int.reduceAdd, Int.reduceSub, Int.reduceMul, Int.reduceLT, Int.reduceLE, Int.reduceNeg, Int.reduceBEq, Int.reduceBNe, Int.reduceEq, beq_self_eq_true, reduceCtorEq, decide_true, decide_false, if_pos, if_neg]; first | done | omega))) only [go_sem, ↓reduceIte, Nat.reduceEqDiff, Nat.reduceAdd, Nat.reduceMul, Nat.reduceSub, Nat.reduceLT, Nat.reduceLeDiff, Nat.reduceBNe, Nat.reduceBEq, Int.reduceToNat, Int.reduceAdd, Int.reduceSub, Int.reduceMul, Int.reduceLT, Int.reduceLE, Int.reduceNeg, Int.reduceBEq, Int.reduceBNe, Int.reduceEq, beq_self_eq_true, reduceCtorEq, decide_true, decide_false, if_pos, if_neg, hfin]) (by decide) (by simp (disch := (first | omega | (simp only [go_sem, ↓reduceIte, Nat.reduceEqDiff, Nat.reduceAdd, Nat.reduceMul, Nat.reduceSub, Nat.reduceLT, Nat.reduceLeDiff, Nat.reduceBNe, Nat.reduceBEq, Int.reduceToNat, Int.reduceAdd, Int.reduceSub, Int.reduceMul, Int.reduceLT, Int.reduceLE, Int.reduceNeg, Int.reduceBEq, Int.reduceBNe, Int.reduceEq, beq_self_eq_true, reduceCtorEq, decide_true, decide_false, if_pos, if_neg]; first | done | omega))) only [go_sem, ↓reduceIte, Nat.reduceEqDiff, Nat.reduceAdd, Nat.reduceMul, Nat.reduceSub, Nat.reduceLT, Nat.reduceLeDiff, Nat.reduceBNe, Nat.reduceBEq, Int.reduceToNat, Int.reduceAdd, Int.reduceSub, Int.reduceMul, Int.reduceLT, Int.reduceLE, Int.reduceNeg, Int.reduceBEq, Int.reduceBNe, Int.reduceEq, beq_self_eq_true, reduceCtorEq, decide_true, decide_false, if_pos, if_neg, hfin]))
end Go.Proofs.YtglnkfpmogaifaaGreatDoor.V

/-
  whole.Check: whether a text is a whole number.
-/
set_option linter.unusedSimpArgs false
set_option linter.unusedVariables false
set_option maxHeartbeats 4000000
namespace Go.Proofs.YtglnkfpmogaifaaGreatDoor.V
open Go Go.Proofs Go.RowKit Go.Lib Go.Shelf

/-- The same where an argument is a function. -/
theorem Con.of_callsA {P : Program} {f : FuncId} {ds : List D} {us : List Value} {v : Value} {r : D} (hc : V.callable P f = true) (ha : ∀ (X : Ctx) (vs : List Value), Lr X ds vs → vs = us) (hr : ∀ X, Vr X r v) (h : ∀ w, Gl w → Calls P f us.toArray w fun e w' => e = .returned v ∧ Below w.heap.size w w') : Con P f ds r [] := by
  refine ⟨hc, fun I w vs hgl hI hl => ?_⟩
  rw [ha _ _ hl]
  refine (h w hgl).mono ?_
  rintro e w' ⟨rfl, hb⟩
  exact ⟨v, ⟨fun _ => none, I, w', fun _ => False⟩, rfl, rfl, hr _, hb, fun b hb' => Nat.lt_of_lt_of_le (hI b hb') hb.size, fun b hb' => .inl hb', fun b hb' => hb', fun i o hi => by simp at hi, fun i j li lj hi => by simp at hi⟩
theorem pOther (w : World) : PredAt Tryz.prog 61 #[] encR (fun r => decide (r < 48) || decide (57 < r)) w := fun W r _ => by
  unfold FnGives
  by_cases h1 : r < 48 <;> by_cases h2 : 57 < r
  all_goals
    have z1 : (r : Int) < 48 ↔ r < 48 := by omega
    have z2 : (57 : Int) < (r : Int) ↔ 57 < r := by omega
    go_enter Tryz.func61, Tryz.ntmps61
    go_wp2
    all_goals first | (exfalso; omega) | (go_ret; exact ⟨by simp [h1, h2], 0, rfl⟩)
theorem idxFrom (l : List UInt8) (p : Nat → Bool) (hp : ∀ r, p r = (decide (r < 48) || decide (57 < r))) : ∀ (f pos : Nat), l.length ≤ f + pos → (0 ≤ idxFuncFrom p true (ba l) f pos ↔ (l.drop pos).all isD = false)
  | 0, pos, h => by
    rw [List.drop_eq_nil_of_le (by omega)]
    simp [idxFuncFrom]
  | f + 1, pos, h => by
    unfold idxFuncFrom
    split
    · rename_i hlt
      have hl : pos < l.length := by rw [ba_size] at hlt; exact hlt
      rw [List.drop_eq_getElem_cons hl, List.all_cons]
      have hget : (ba l)[pos]'hlt = l[pos] := by show (ba l).data[pos]'_ = _; simp
      by_cases ha : (l[pos]).toNat < 128
      · have hd := decode_ascii (ba l) pos hlt (by rw [hget]; exact ha)
        rw [hd, hget, hp]
        have ih := idxFrom l p hp f (pos + 1) (by omega)
        by_cases hc : 48 ≤ (l[pos]).toNat ∧ (l[pos]).toNat ≤ 57
        · rw [if_neg (by simp; omega), ih]
          simp [isD, hc.1, hc.2]
        · rw [if_pos (by simp; omega)]
          have : isD l[pos] = false := by
            unfold isD
            by_cases h1 : 48 ≤ (l[pos]).toNat
            · have h2 : ¬ (l[pos]).toNat ≤ 57 := fun h2 => hc ⟨h1, h2⟩
              simp [h2]
            · simp [h1]
          rw [this]
          simp
      · have hd := decode_high (ba l) pos hlt (by rw [hget]; omega)
        rw [hp, if_pos (by simp; omega)]
        have : isD l[pos] = false := by
          unfold isD
          have h2 : ¬ (l[pos]).toNat ≤ 57 := by omega
          simp [h2]
        rw [this]
        simp
    · rename_i hlt
      rw [ba_size] at hlt
      rw [List.drop_eq_nil_of_le (by omega)]
      simp
theorem lContains (l : List UInt8) : Con Tryz.prog 62 [tx l, .fn (.func 61) [] []] (.sc (.bool !(l.all isD))) [] := by
  refine Con.of_callsA (us := [.string (ba l), .func (.func 61) #[] #[]]) (v := .bool !(l.all isD)) (by kernel_rfl) (fun X vs h => ?_) (fun X => Vr_sc) fun w hgl => ?_
  · simp only [Lr, Vr] at h
    obtain ⟨_, _, rfl, rfl, _, _, rfl, ⟨xs, ys, rfl, h1, h2⟩, rfl⟩ := h
    obtain rfl : xs = #[] := by simpa using h1
    obtain rfl : ys = #[] := by simpa using h2
    rfl
  · refine (Tryz.strings_ContainsFunc 61 #[] (enters_of Tryz.func61 (by kernel_rfl) rfl) _ (ba l) w (pOther w)).mono ?_
    rintro e w' ⟨rfl, hb⟩
    refine ⟨?_, hb⟩
    have h := idxFrom l _ (fun r => rfl) (ba l).size 0 (by rw [ba_size]; omega)
    rw [List.drop_zero] at h
    have e1 : decide (0 ≤ idxFunc (fun r => decide (r < 48) || decide (57 < r)) true (ba l)) = !(l.all isD) := by
      unfold idxFunc
      cases hl : l.all isD
      · simp only [Bool.not_false, decide_eq_true_eq]; exact h.2 hl
      · simp only [Bool.not_true, decide_eq_false_iff_not]
        intro hc
        have := h.1 hc
        rw [hl] at this
        exact absurd this (by decide)
    rw [e1]
theorem cCheck (l : List UInt8) : Con Tryz.prog 31 [tx l] (.sc (.int .i64 (if okT l then 0 else 10))) [] := by
  refine Con.of_body [(0, tx l)] Tryz.func31 rfl ca31 34 rfl (by simp) rfl ?_; refine T_of_R ?_
  refine go ?_
  refine call (lTrim l) ?_
  refine go ?_
  refine callg (fun hg => lContains (strip l)) ?_
  refine go ?_
  generalize hA : (decide ((strip l).length < 1) || decide (((strip l).length : Int) > 600) || !(strip l).all isD) = A
  generalize hB : ((((strip l).getD 0 0).toNat : Int) == 48) = B
  have hk : okT l = (!A && !(B && (decide (((strip l).length : Int) > 1) || decide ((l.length : Int) > 1)))) := by
    have hsl : (strip l).length ≤ l.length := by
      unfold strip
      split <;> simp
    have h1 : decide ((strip l).length < 1) = !decide (strip l ≠ []) := by
      cases strip l <;> simp
    have h2 : decide (((strip l).length : Int) > 600) = !decide ((strip l).length ≤ 600) := by
      by_cases h : (strip l).length ≤ 600
      · have : ¬ ((strip l).length : Int) > 600 := by omega
        simp only [decide_eq_false this, decide_eq_true h, Bool.not_true]
      · have : ((strip l).length : Int) > 600 := by omega
        simp only [decide_eq_true this, decide_eq_false h, Bool.not_false]
    have h3 : ((((strip l).getD 0 0).toNat : Int) == 48) = !decide ((strip l).headD 0 ≠ 48) := by
      have e : (strip l).getD 0 0 = (strip l).headD 0 := by cases strip l <;> rfl
      rw [e]
      generalize (strip l).headD 0 = c
      by_cases h : c = 48
      · subst h; rfl
      · have : c.toNat ≠ 48 := fun e => h (by rw [← UInt8.toNat_inj]; exact e)
        have hI : ¬ ((c.toNat : Int) = 48) := by omega
        simp [h, hI]
    have h4 : strip l ≠ [] → (decide (((strip l).length : Int) > 1) || decide ((l.length : Int) > 1)) = !decide (l.length = 1) := fun hn => by
      have := List.length_pos_iff.2 hn
      by_cases h : l.length = 1
      · have a : ¬ ((strip l).length : Int) > 1 := by omega
        have b : ¬ (l.length : Int) > 1 := by omega
        simp [h, a]
      · have b : (l.length : Int) > 1 := by omega
        simp [h, b]
    unfold okT
    rw [← hA, ← hB, h1, h2, h3]
    by_cases hn : strip l = []
    · simp [hn]
    · rw [h4 hn]
      cases decide (strip l ≠ []) <;> cases decide ((strip l).length ≤ 600) <;> cases (strip l).all isD <;> cases decide ((strip l).headD 0 ≠ 48) <;> cases decide (l.length = 1) <;> rfl
  cases A <;> cases B
  · rw [show okT l = true by rw [hk]; rfl]
    refine gon ?_
    refine cnd (b := false) (fun h => by cases h) (fun h => ?_)
    refine go ?_
    refine R_ret (finA [])
  · refine gon ?_
    generalize hC : decide (((strip l).length : Int) > 1) = C
    cases C
    · refine gon ?_
      refine cnd (fun h => ?_) (fun h => ?_)
      · rw [show okT l = false by rw [hk, hC, h]; rfl]
        refine go ?_
        refine R_ret (finA [])
      · rw [show okT l = true by rw [hk, hC, h]; rfl]
        refine go ?_
        refine R_ret (finA [])
    · rw [show okT l = false by rw [hk, hC]; rfl]
      refine gon ?_
      refine cnd (b := true) (fun h => ?_) (fun h => by cases h)
      refine go ?_
      refine R_ret (finA [])
  · rw [show okT l = false by rw [hk]; rfl]
    refine gon ?_
    refine cnd (b := true) (fun h => ?_) (fun h => by cases h)
    refine go ?_
    refine R_ret (finA [])
  · rw [show okT l = false by rw [hk]; rfl]
    refine gon ?_
    refine cnd (b := true) (fun h => ?_) (fun h => by cases h)
    refine go ?_
    refine R_ret (finA [])
end Go.Proofs.YtglnkfpmogaifaaGreatDoor.V

/-
  whole.Read: the number of a text.
-/
set_option linter.unusedSimpArgs false
set_option linter.unusedVariables false
set_option maxHeartbeats 4000000
namespace Go.Proofs.YtglnkfpmogaifaaGreatDoor.V
open Go Go.Proofs Go.RowKit Go.Lib

theorem dval_cons (c : UInt8) (l : List UInt8) : dval (c :: l) = (c.toNat - 48) * 10 ^ l.length + dval l := by
  rw [show c :: l = [c] ++ l from rfl, dval_append, dval_one]
theorem parseM {M : Nat} (hM : M ≤ 18446744073709551615) : ∀ (l : List UInt8) (acc : Nat), l.all isD = true → acc * 10 ^ l.length + dval l ≤ M → parseUintM M acc l = .ok (acc * 10 ^ l.length + dval l)
  | [], acc, _, _ => by simp [parseUintM, dval]
  | c :: l, acc, hd, hb => by
    rw [List.all_cons, Bool.and_eq_true] at hd
    have hc := isD_bd hd.1
    have hp := Nat.pow_pos (n := l.length) (show 0 < 10 by omega)
    have e : acc * 10 ^ (c :: l).length + dval (c :: l) = (acc * 10 + (c.toNat - 48)) * 10 ^ l.length + dval l := by
      rw [dval_cons, List.length_cons, Nat.pow_succ]
      grind
    rw [e] at hb ⊢
    have h1 : (acc * 10 + (c.toNat - 48)) * 1 ≤ (acc * 10 + (c.toNat - 48)) * 10 ^ l.length := Nat.mul_le_mul_left _ hp
    unfold parseUintM
    rw [if_pos hc, if_neg (by omega), if_neg (by omega)]
    exact parseM hM l _ hd.2 hb
theorem lParse {l : List UInt8} (hd : l.all isD = true) (hn : l ≠ []) (hl : l.length ≤ 18) : Con Tryz.prog 70 [tx l, .sc (.int .i64 10), .sc (.int .i64 64)] (.tp [.sc (.int .u64 (dval l : Int)), .sc .nilIface]) [] := by
  have hv := dval_lt l hd
  have hv2 : 10 ^ l.length ≤ 10 ^ 18 := Nat.pow_le_pow_right (by omega) hl
  refine Con.of_calls (us := [.string (ba l), .int .i64 10, .int .i64 64]) (v := .tuple #[.int .u64 (dval l : Int), .nilIface]) (by kernel_rfl) (fun X => by simp [Vr, Lr]) fun w hgl => ?_
  have hp : parseUintB 64 (ba l).data.toList = .ok (dval l) := by
    rw [ndata]
    unfold parseUintB
    rw [if_neg hn, parseM (by omega) l 0 hd (by omega)]
    simp
  refine (Tryz.strconv_ParseUint_10_at64_ok (ba l) (by rw [ba_size]; omega) _ hp w).mono ?_
  rintro e w' ⟨rfl, hb⟩
  refine ⟨rfl, ?_⟩
  rcases hb with rfl | rfl
  · exact Below.refl _ _
  · exact bytesWorld_below _ _ _
theorem cRead {l : List UInt8} (h : okT l = true) : Con Tryz.prog 38 [tx l] (nb (numT l)) [] := by
  obtain ⟨h1, h2, h3, h4⟩ := okT_spec h
  obtain ⟨S, hS⟩ : ∃ S, S = strip l := ⟨_, rfl⟩
  have hn : numT l = if neg1 l then -(dval S : Int) else dval S := by rw [hS]; rfl
  rw [← hS] at h1 h2 h3 h4
  have hn1 : nb (numT l) = .ag [.sc (.bool (!decide (l.length < 1) && (((l.getD 0 0).toNat : Int) == 45))), msl (dig BB (dval S))] := by
    have hsg : (!decide (l.length < 1) && (((l.getD 0 0).toNat : Int) == 45)) = neg1 l := by
      unfold neg1
      cases l with
      | nil => rfl
      | cons c t =>
        by_cases hc : c = 45
        · subst hc; simp
        · have : c.toNat ≠ 45 := fun e => hc (by rw [← UInt8.toNat_inj]; exact e)
          have hI : ¬ ((c.toNat : Int) = 45) := by omega
          have e1 : ((c.toNat : Int) == 45) = false := by rw [beq_eq_false_iff_ne]; exact hI
          have e2 : (c == 45) = false := by rw [beq_eq_false_iff_ne]; exact hc
          simp [e1, e2]
    rw [hsg]
    have hna : (numT l).natAbs = dval S := by rw [hn]; split <;> omega
    have hneg : decide (numT l < 0) = neg1 l := by
      rw [hn]
      cases hg : neg1 l
      · simp
      · have hll : l.length ≠ 1 := fun e => by
          have : (strip l).length = 0 := by unfold strip; rw [if_pos hg, List.length_tail]; omega
          rw [← hS] at this
          exact h1 (List.length_eq_zero_iff.1 this)
        have := dval_pos h3 (h4.resolve_right hll) h1
        rw [if_pos rfl]
        simp only [decide_eq_true_eq]
        omega
    unfold nb ms
    rw [hna, hneg]
  refine Con.of_body [(0, tx l)] Tryz.func38 rfl ca38 40 rfl (by simp) rfl ?_; refine T_of_R ?_
  refine go ?_
  refine R_scope ?_
  refine go ?_
  refine call (lTrim l) ?_
  rw [← hS]
  refine go ?_
  refine R_label ?_
  refine go ?_
  refine R_loop (fun p : List UInt8 × List Int => ⟨tl [(0, tx l), (2, .pt 0 0), (3, tx p.1), (4, if p.2.length = 0 then .em else .rf 1 0 p.2.length 1)], ol ((0, ⟨[.sc (.bool false), .em], 68, 0, false⟩) :: if p.2.length = 0 then [] else [(1, ⟨ints .u64 p.2, 98, 1, false⟩)]), 2, [], 40⟩)
    (fun p => p.1 ≠ [] ∧ 18 * p.2.length ≤ 600 ∧ Dg BB p.2 ∧ ∃ U, S = p.1 ++ U ∧ U.length = 18 * p.2.length ∧ val BB p.2 = dval U) (fun p => p.1.length) (S, []) [0] (Less.mk' (by simp (disch := (first | omega | (simp only [go_sem, ↓reduceIte, Nat.reduceEqDiff, Nat.reduceAdd, Nat.reduceMul, Nat.reduceSub, Nat.reduceLT, Nat.reduceLeDiff, Nat.reduceBNe, Nat.reduceBEq, Int.reduceToNat, Int.reduceAdd, Int.reduceSub, Int.reduceMul, Int.reduceLT, Int.reduceLE, Int.reduceNeg, Int.reduceBEq, Int.reduceBNe, Int.reduceEq, beq_self_eq_true, reduceCtorEq, decide_true, decide_false, if_pos, if_neg]; first | done | omega))) only [go_sem, ↓reduceIte, Nat.reduceEqDiff, Nat.reduceAdd, Nat.reduceMul, Nat.reduceSub, Nat.reduceLT, Nat.reduceLeDiff, Nat.reduceBNe, Nat.reduceBEq, Int.reduceToNat, Int.reduceAdd, Int.reduceSub, Int.reduceMul, Int.reduceLT, Int.reduceLE, Int.reduceNeg, Int.reduceBEq, Int.reduceBNe, Int.reduceEq, beq_self_eq_true, reduceCtorEq, decide_true, decide_false, if_pos, if_neg, List.length_nil]) (by simp (disch := (first | omega | (simp only [go_sem, ↓reduceIte, Nat.reduceEqDiff, Nat.reduceAdd, Nat.reduceMul, Nat.reduceSub, Nat.reduceLT, Nat.reduceLeDiff, Nat.reduceBNe, Nat.reduceBEq, Int.reduceToNat, Int.reduceAdd, Int.reduceSub, Int.reduceMul, Int.reduceLT, Int.reduceLE, Int.reduceNeg, Int.reduceBEq, Int.reduceBNe, Int.reduceEq, beq_self_eq_true, reduceCtorEq, decide_true, decide_false, if_pos, if_neg]; first | done | omega))) only [go_sem, ↓reduceIte, Nat.reduceEqDiff, Nat.reduceAdd, Nat.reduceMul, Nat.reduceSub, Nat.reduceLT, Nat.reduceLeDiff, Nat.reduceBNe, Nat.reduceBEq, Int.reduceToNat, Int.reduceAdd, Int.reduceSub, Int.reduceMul, Int.reduceLT, Int.reduceLE, Int.reduceNeg, Int.reduceBEq, Int.reduceBNe, Int.reduceEq, beq_self_eq_true, reduceCtorEq, decide_true, decide_false, if_pos, if_neg, List.length_nil]) (by decide) (by decide)) ⟨h1, by simp, by intro j hj; simp at hj, [], by simp, by simp, by simp [val, dval]⟩ fun p hi => ?_
  obtain ⟨T, C⟩ := p
  obtain ⟨i1, i2, i3, U, i4, i5, i6⟩ := hi
  simp only at i1 i2 i3 i4 i5 i6
  simp only
  have hT := List.length_pos_iff.2 i1
  have hSl : S.length = T.length + U.length := by rw [i4, List.length_append]
  have hTd : T.all isD = true := by rw [i4, List.all_append, Bool.and_eq_true] at h3; exact h3.1
  obtain ⟨F, hF⟩ : ∃ F, F = T.length - 18 := ⟨_, rfl⟩
  have hFI : (if (0 : Int) > (T.length : Int) - 18 then 0 else (T.length : Int) - 18) = F := by split <;> omega
  have dD : (T.drop F).all isD = true := by rw [List.all_eq_true] at hTd ⊢; exact fun x hx => hTd x (List.mem_of_mem_drop hx)
  have hTl : (T.drop F).length ≤ 18 := by rw [List.length_drop]; omega
  have hTn : T.drop F ≠ [] := by intro hc; have := congrArg List.length hc; simp at this; omega
  have hTk : (T.take F).length = F := by rw [List.length_take]; omega
  have tt : T = T.take F ++ T.drop F := (List.take_append_drop F T).symm
  have bd := dval_lt _ dD
  have bd2 : 10 ^ (T.drop F).length ≤ 10 ^ 18 := Nat.pow_le_pow_right (by omega) hTl
  have hv := dval_append (T.drop F) U
  have hinv : Dg BB (C ++ [(dval (T.drop F) : Int)]) ∧ val BB (C ++ [(dval (T.drop F) : Int)]) = dval (T.drop F ++ U) := by
    refine ⟨dg_of fun j hj => ?_, ?_⟩
    · rw [gappend]
      have := i3.toB j
      split
      · exact this
      · rename_i hc
        rw [List.length_append, List.length_singleton] at hj
        rw [show j - C.length = 0 by omega]
        simp only [List.getD_cons_zero]
        omega
    · rw [val_append, i6, hv, i5, Nat.pow_mul]
      simp only [val, Int.mul_zero, Int.add_zero, Int.natCast_add, Int.natCast_mul]
      rw [Int.add_comm, Int.mul_comm]
  have hSU : S = T.take F ++ (T.drop F ++ U) := by rw [← List.append_assoc, List.take_append_drop, ← i4]
  have hTF : ¬ F < 1 → T.take F ≠ [] := fun h hc => by have := congrArg List.length hc; rw [List.length_nil] at this; omega
  have hUl : ¬ F < 1 → (T.drop F ++ U).length = 18 * (C.length + 1) := fun h => by rw [List.length_append, List.length_drop]; omega
  have hUb : (T.drop F ++ U).length ≤ 600 := by rw [List.length_append, List.length_drop]; omega
  have hCl : (C ++ [(dval (T.drop F) : Int)]).length = C.length + 1 := by rw [List.length_append, List.length_singleton]
  have hmin : min F T.length = F := by omega
  have hm : (((T.take F, C ++ [(dval (T.drop F) : Int)]) : List UInt8 × List Int).fst).length < T.length := by simp only [hTk]; omega
  have hfinal : F < 1 → cutI (C ++ [(dval (T.drop F) : Int)]) = dig BB (dval S) := fun h => by
    rw [cut_of hinv.1 hinv.2, hSU, show F = 0 by omega]
    rfl
  by_cases hC : C.length = 0
  · obtain rfl : C = [] := List.length_eq_zero_iff.1 hC
    simp only [List.length_nil, ↓reduceIte]
    refine R_block ?_
    refine R_seq ?_
    refine R_region ?_
    refine gos ?_
    rw [hFI]
    refine go ?_
    refine call (lParse (l := T.drop F) dD hTn hTl) ?_
    refine go ?_
    rw [Nat.sub_zero, hmin]
    refine cnd (fun h => ?_) (fun h => ?_)
    · simp only [decide_eq_true_eq, decide_eq_false_iff_not, Bool.or_eq_true, Bool.and_eq_true, Bool.or_eq_false_iff, Bool.and_eq_false_iff, Bool.not_eq_true', Bool.not_eq_false', bne_iff_ne, beq_iff_eq, ne_eq, bne_eq_false_iff_eq, beq_eq_false_iff_ne, ge_iff_le, gt_iff_lt, Int.not_le, Int.not_lt] at h
      refine go ?_
      refine R_exitBR (by decide) ?_
      refine R_less (st' := ⟨tl [(0, tx l), (2, .pt 0 0), (4, .rf 1 0 (([] : List Int).length + 1) 1)], ol [(0, ⟨[.sc (.bool false), .em], 68, 0, false⟩), (1, ⟨ints .u64 (([] : List Int) ++ [(dval (T.drop F) : Int)]), 98, 1, false⟩)], 2, [], 40⟩) (ids := [0, 3]) (Less.mk' (by simp (disch := (first | omega | (simp only [go_sem, ↓reduceIte, Nat.reduceEqDiff, Nat.reduceAdd, Nat.reduceMul, Nat.reduceSub, Nat.reduceLT, Nat.reduceLeDiff, Nat.reduceBNe, Nat.reduceBEq, Int.reduceToNat, Int.reduceAdd, Int.reduceSub, Int.reduceMul, Int.reduceLT, Int.reduceLE, Int.reduceNeg, Int.reduceBEq, Int.reduceBNe, Int.reduceEq, beq_self_eq_true, reduceCtorEq, decide_true, decide_false, if_pos, if_neg]; first | done | omega))) only [go_sem, ↓reduceIte, Nat.reduceEqDiff, Nat.reduceAdd, Nat.reduceMul, Nat.reduceSub, Nat.reduceLT, Nat.reduceLeDiff, Nat.reduceBNe, Nat.reduceBEq, Int.reduceToNat, Int.reduceAdd, Int.reduceSub, Int.reduceMul, Int.reduceLT, Int.reduceLE, Int.reduceNeg, Int.reduceBEq, Int.reduceBNe, Int.reduceEq, beq_self_eq_true, reduceCtorEq, decide_true, decide_false, if_pos, if_neg, ints, List.nil_append, List.map_cons, List.map_nil, List.length_nil, Nat.zero_add]) (by simp (disch := (first | omega | (simp only [go_sem, ↓reduceIte, Nat.reduceEqDiff, Nat.reduceAdd, Nat.reduceMul, Nat.reduceSub, Nat.reduceLT, Nat.reduceLeDiff, Nat.reduceBNe, Nat.reduceBEq, Int.reduceToNat, Int.reduceAdd, Int.reduceSub, Int.reduceMul, Int.reduceLT, Int.reduceLE, Int.reduceNeg, Int.reduceBEq, Int.reduceBNe, Int.reduceEq, beq_self_eq_true, reduceCtorEq, decide_true, decide_false, if_pos, if_neg]; first | done | omega))) only [go_sem, ↓reduceIte, Nat.reduceEqDiff, Nat.reduceAdd, Nat.reduceMul, Nat.reduceSub, Nat.reduceLT, Nat.reduceLeDiff, Nat.reduceBNe, Nat.reduceBEq, Int.reduceToNat, Int.reduceAdd, Int.reduceSub, Int.reduceMul, Int.reduceLT, Int.reduceLE, Int.reduceNeg, Int.reduceBEq, Int.reduceBNe, Int.reduceEq, beq_self_eq_true, reduceCtorEq, decide_true, decide_false, if_pos, if_neg, ints, List.nil_append, List.map_cons, List.map_nil, List.length_nil, Nat.zero_add]) (by decide) (by decide)) ?_ (by decide)
      refine go ?_
      have hcn := cTrim' (L := ([] : List Int) ++ [(dval (T.drop F) : Int)]) hCl
      rw [hfinal h] at hcn
      refine callz (hcn) ?_
      refine go ?_
      refine R_ret (fin_of (ids := []) (by first | (simp (disch := (first | omega | (simp only [go_sem, ↓reduceIte, Nat.reduceEqDiff, Nat.reduceAdd, Nat.reduceMul, Nat.reduceSub, Nat.reduceLT, Nat.reduceLeDiff, Nat.reduceBNe, Nat.reduceBEq, Int.reduceToNat, Int.reduceAdd, Int.reduceSub, Int.reduceMul, Int.reduceLT, Int.reduceLE, Int.reduceNeg, Int.reduceBEq, Int.reduceBNe, Int.reduceEq, beq_self_eq_true, reduceCtorEq, decide_true, decide_false, if_pos, if_neg]; first | done | omega))) only [go_sem, ↓reduceIte, Nat.reduceEqDiff, Nat.reduceAdd, Nat.reduceMul, Nat.reduceSub, Nat.reduceLT, Nat.reduceLeDiff, Nat.reduceBNe, Nat.reduceBEq, Int.reduceToNat, Int.reduceAdd, Int.reduceSub, Int.reduceMul, Int.reduceLT, Int.reduceLE, Int.reduceNeg, Int.reduceBEq, Int.reduceBNe, Int.reduceEq, beq_self_eq_true, reduceCtorEq, decide_true, decide_false, if_pos, if_neg] <;> rfl) | fail) (by simp (disch := (first | omega | (simp only [go_sem, ↓reduceIte, Nat.reduceEqDiff, Nat.reduceAdd, Nat.reduceMul, Nat.reduceSub, Nat.reduceLT, Nat.reduceLeDiff, Nat.reduceBNe, Nat.reduceBEq, Int.reduceToNat, Int.reduceAdd, Int.reduceSub, Int.reduceMul, Int.reduceLT, Int.reduceLE, Int.reduceNeg, Int.reduceBEq, Int.reduceBNe, Int.reduceEq, beq_self_eq_true, reduceCtorEq, decide_true, decide_false, if_pos, if_neg]; first | done | omega))) only [go_sem, ↓reduceIte, Nat.reduceEqDiff, Nat.reduceAdd, Nat.reduceMul, Nat.reduceSub, Nat.reduceLT, Nat.reduceLeDiff, Nat.reduceBNe, Nat.reduceBEq, Int.reduceToNat, Int.reduceAdd, Int.reduceSub, Int.reduceMul, Int.reduceLT, Int.reduceLE, Int.reduceNeg, Int.reduceBEq, Int.reduceBNe, Int.reduceEq, beq_self_eq_true, reduceCtorEq, decide_true, decide_false, if_pos, if_neg, hn1]) (by decide) (by simp (disch := (first | omega | (simp only [go_sem, ↓reduceIte, Nat.reduceEqDiff, Nat.reduceAdd, Nat.reduceMul, Nat.reduceSub, Nat.reduceLT, Nat.reduceLeDiff, Nat.reduceBNe, Nat.reduceBEq, Int.reduceToNat, Int.reduceAdd, Int.reduceSub, Int.reduceMul, Int.reduceLT, Int.reduceLE, Int.reduceNeg, Int.reduceBEq, Int.reduceBNe, Int.reduceEq, beq_self_eq_true, reduceCtorEq, decide_true, decide_false, if_pos, if_neg]; first | done | omega))) only [go_sem, ↓reduceIte, Nat.reduceEqDiff, Nat.reduceAdd, Nat.reduceMul, Nat.reduceSub, Nat.reduceLT, Nat.reduceLeDiff, Nat.reduceBNe, Nat.reduceBEq, Int.reduceToNat, Int.reduceAdd, Int.reduceSub, Int.reduceMul, Int.reduceLT, Int.reduceLE, Int.reduceNeg, Int.reduceBEq, Int.reduceBNe, Int.reduceEq, beq_self_eq_true, reduceCtorEq, decide_true, decide_false, if_pos, if_neg, hn1]))
    · simp only [decide_eq_true_eq, decide_eq_false_iff_not, Bool.or_eq_true, Bool.and_eq_true, Bool.or_eq_false_iff, Bool.and_eq_false_iff, Bool.not_eq_true', Bool.not_eq_false', bne_iff_ne, beq_iff_eq, ne_eq, bne_eq_false_iff_eq, beq_eq_false_iff_ne, ge_iff_le, gt_iff_lt, Int.not_le, Int.not_lt] at h
      have := hUl h
      refine go ?_
      refine R_nilR ⟨[0, 3], _, ?_, (T.take F, [] ++ [(dval (T.drop F) : Int)]), ⟨hTF h, by rw [hCl]; omega, hinv.1, T.drop F ++ U, hSU, by rw [hCl]; exact this, hinv.2⟩, by omega, rfl⟩; exact (Less.mk' (by simp (disch := (first | omega | (simp only [go_sem, ↓reduceIte, Nat.reduceEqDiff, Nat.reduceAdd, Nat.reduceMul, Nat.reduceSub, Nat.reduceLT, Nat.reduceLeDiff, Nat.reduceBNe, Nat.reduceBEq, Int.reduceToNat, Int.reduceAdd, Int.reduceSub, Int.reduceMul, Int.reduceLT, Int.reduceLE, Int.reduceNeg, Int.reduceBEq, Int.reduceBNe, Int.reduceEq, beq_self_eq_true, reduceCtorEq, decide_true, decide_false, if_pos, if_neg]; first | done | omega))) only [go_sem, ↓reduceIte, Nat.reduceEqDiff, Nat.reduceAdd, Nat.reduceMul, Nat.reduceSub, Nat.reduceLT, Nat.reduceLeDiff, Nat.reduceBNe, Nat.reduceBEq, Int.reduceToNat, Int.reduceAdd, Int.reduceSub, Int.reduceMul, Int.reduceLT, Int.reduceLE, Int.reduceNeg, Int.reduceBEq, Int.reduceBNe, Int.reduceEq, beq_self_eq_true, reduceCtorEq, decide_true, decide_false, if_pos, if_neg, ints, List.nil_append, List.map_cons, List.map_nil, List.length_cons, List.length_nil]) (by simp (disch := (first | omega | (simp only [go_sem, ↓reduceIte, Nat.reduceEqDiff, Nat.reduceAdd, Nat.reduceMul, Nat.reduceSub, Nat.reduceLT, Nat.reduceLeDiff, Nat.reduceBNe, Nat.reduceBEq, Int.reduceToNat, Int.reduceAdd, Int.reduceSub, Int.reduceMul, Int.reduceLT, Int.reduceLE, Int.reduceNeg, Int.reduceBEq, Int.reduceBNe, Int.reduceEq, beq_self_eq_true, reduceCtorEq, decide_true, decide_false, if_pos, if_neg]; first | done | omega))) only [go_sem, ↓reduceIte, Nat.reduceEqDiff, Nat.reduceAdd, Nat.reduceMul, Nat.reduceSub, Nat.reduceLT, Nat.reduceLeDiff, Nat.reduceBNe, Nat.reduceBEq, Int.reduceToNat, Int.reduceAdd, Int.reduceSub, Int.reduceMul, Int.reduceLT, Int.reduceLE, Int.reduceNeg, Int.reduceBEq, Int.reduceBNe, Int.reduceEq, beq_self_eq_true, reduceCtorEq, decide_true, decide_false, if_pos, if_neg, ints, List.nil_append, List.map_cons, List.map_nil, List.length_cons, List.length_nil]) (by decide) (by decide))
  · simp only [if_neg hC]
    refine R_block ?_
    refine R_seq ?_
    refine R_region ?_
    refine gos ?_
    rw [hFI]
    refine go ?_
    refine call (lParse (l := T.drop F) dD hTn hTl) ?_
    refine go ?_
    rw [Nat.sub_zero, hmin]
    refine cnd (fun h => ?_) (fun h => ?_)
    · simp only [decide_eq_true_eq, decide_eq_false_iff_not, Bool.or_eq_true, Bool.and_eq_true, Bool.or_eq_false_iff, Bool.and_eq_false_iff, Bool.not_eq_true', Bool.not_eq_false', bne_iff_ne, beq_iff_eq, ne_eq, bne_eq_false_iff_eq, beq_eq_false_iff_ne, ge_iff_le, gt_iff_lt, Int.not_le, Int.not_lt] at h
      refine go ?_
      refine R_exitBR (by decide) ?_
      refine R_less (st' := ⟨tl [(0, tx l), (2, .pt 0 0), (4, .rf 1 0 (C.length + 1) 1)], ol [(0, ⟨[.sc (.bool false), .em], 68, 0, false⟩), (1, ⟨ints .u64 (C ++ [(dval (T.drop F) : Int)]), 98, 1, false⟩)], 2, [], 40⟩) (ids := [0, 3]) lessA ?_ (by decide)
      refine go ?_
      have hcn := cTrim' (L := C ++ [(dval (T.drop F) : Int)]) hCl
      rw [hfinal h] at hcn
      refine callz (hcn) ?_
      refine go ?_
      refine R_ret (fin_of (ids := []) (by first | (simp (disch := (first | omega | (simp only [go_sem, ↓reduceIte, Nat.reduceEqDiff, Nat.reduceAdd, Nat.reduceMul, Nat.reduceSub, Nat.reduceLT, Nat.reduceLeDiff, Nat.reduceBNe, Nat.reduceBEq, Int.reduceToNat, Int.reduceAdd, Int.reduceSub, Int.reduceMul, Int.reduceLT, Int.reduceLE, Int.reduceNeg, Int.reduceBEq, Int.reduceBNe, Int.reduceEq, beq_self_eq_true, reduceCtorEq, decide_true, decide_false, if_pos, if_neg]; first | done | omega))) only [go_sem, ↓reduceIte, Nat.reduceEqDiff, Nat.reduceAdd, Nat.reduceMul, Nat.reduceSub, Nat.reduceLT, Nat.reduceLeDiff, Nat.reduceBNe, Nat.reduceBEq, Int.reduceToNat, Int.reduceAdd, Int.reduceSub, Int.reduceMul, Int.reduceLT, Int.reduceLE, Int.reduceNeg, Int.reduceBEq, Int.reduceBNe, Int.reduceEq, beq_self_eq_true, reduceCtorEq, decide_true, decide_false, if_pos, if_neg] <;> rfl) | fail) (by simp (disch := (first | omega | (simp only [go_sem, ↓reduceIte, Nat.reduceEqDiff, Nat.reduceAdd, Nat.reduceMul, Nat.reduceSub, Nat.reduceLT, Nat.reduceLeDiff, Nat.reduceBNe, Nat.reduceBEq, Int.reduceToNat, Int.reduceAdd, Int.reduceSub, Int.reduceMul, Int.reduceLT, Int.reduceLE, Int.reduceNeg, Int.reduceBEq, Int.reduceBNe, Int.reduceEq, beq_self_eq_true, reduceCtorEq, decide_true, decide_false, if_pos, if_neg]; first | done | omega))) only [go_sem, ↓reduceIte, Nat.reduceEqDiff, Nat.reduceAdd, Nat.reduceMul, Nat.reduceSub, Nat.reduceLT, Nat.reduceLeDiff, Nat.reduceBNe, Nat.reduceBEq, Int.reduceToNat, Int.reduceAdd, Int.reduceSub, Int.reduceMul, Int.reduceLT, Int.reduceLE, Int.reduceNeg, Int.reduceBEq, Int.reduceBNe, Int.reduceEq, beq_self_eq_true, reduceCtorEq, decide_true, decide_false, if_pos, if_neg, hn1]) (by decide) (by simp (disch := (first | omega | (simp only [go_sem, ↓reduceIte, Nat.reduceEqDiff, Nat.reduceAdd, Nat.reduceMul, Nat.reduceSub, Nat.reduceLT, Nat.reduceLeDiff, Nat.reduceBNe, Nat.reduceBEq, Int.reduceToNat, Int.reduceAdd, Int.reduceSub, Int.reduceMul, Int.reduceLT, Int.reduceLE, Int.reduceNeg, Int.reduceBEq, Int.reduceBNe, Int.reduceEq, beq_self_eq_true, reduceCtorEq, decide_true, decide_false, if_pos, if_neg]; first | done | omega))) only [go_sem, ↓reduceIte, Nat.reduceEqDiff, Nat.reduceAdd, Nat.reduceMul, Nat.reduceSub, Nat.reduceLT, Nat.reduceLeDiff, Nat.reduceBNe, Nat.reduceBEq, Int.reduceToNat, Int.reduceAdd, Int.reduceSub, Int.reduceMul, Int.reduceLT, Int.reduceLE, Int.reduceNeg, Int.reduceBEq, Int.reduceBNe, Int.reduceEq, beq_self_eq_true, reduceCtorEq, decide_true, decide_false, if_pos, if_neg, hn1]))
    · simp only [decide_eq_true_eq, decide_eq_false_iff_not, Bool.or_eq_true, Bool.and_eq_true, Bool.or_eq_false_iff, Bool.and_eq_false_iff, Bool.not_eq_true', Bool.not_eq_false', bne_iff_ne, beq_iff_eq, ne_eq, bne_eq_false_iff_eq, beq_eq_false_iff_ne, ge_iff_le, gt_iff_lt, Int.not_le, Int.not_lt] at h
      have := hUl h
      refine go ?_
      refine R_nilR ⟨[0, 3], _, ?_, (T.take F, C ++ [(dval (T.drop F) : Int)]), ⟨hTF h, by rw [hCl]; omega, hinv.1, T.drop F ++ U, hSU, by rw [hCl]; exact this, hinv.2⟩, by omega, rfl⟩; exact lessA
end Go.Proofs.YtglnkfpmogaifaaGreatDoor.V

/-
  (whole.Number).Told's closure: a number, written into a builder, over so many places.
-/
set_option linter.unusedSimpArgs false
set_option linter.unusedVariables false
namespace Go.Lib
open Go Go.Proofs Go.RowKit
theorem BuilderAt.belowT {T e : TypeId} {B b : Nat} {p : Value} {bs : List Value} {W W' : World} (h : BuilderAt T e B b p bs W) (hb : Below W.heap.size W W') : BuilderAt T e B b p bs W' := by
  have hlt := h.lt
  obtain ⟨hB, v, hv, hown, hne⟩ := h
  exact ⟨hB, v, (hb.block b hlt).trans hv, hown.kept (row := none) ⟨hb.os, hb.tape, hb.output, hb.size, fun k hk _ => hb.block k hk⟩ (Classical.em _), hne⟩
theorem IsBuilder.belowT {T e : TypeId} {B b : Nat} {bs : List Value} {W W' : World} (h : IsBuilder T e B b bs W) (hb : Below W.heap.size W W') : IsBuilder T e B b bs W' :=
  h.elim (fun x => .inl (x.belowT hb)) (fun x => .inr (x.belowT hb))
theorem repeatL_byte (c : UInt8) : ∀ n, repeatL [c] n = List.replicate n c
  | 0 => rfl
  | n + 1 => by rw [repeatL, repeatL_byte c n]; rfl
end Go.Lib
namespace Go.Proofs
open Go.Shelf Go.RowKit Go.Lib Go.Proofs.YtglnkfpmogaifaaGreatDoor.V

theorem Tryz.repeat0 (m : Nat) (hm : m ≤ 18) (w : World) : Calls Tryz.prog 80 #[.string ⟨#[48]⟩, .int .i64 m] w fun e w' => e = .returned (.string (ba (List.replicate m 48))) ∧ Below w.heap.size w w' := by
  have h := Tryz.strings_Repeat ⟨#[48]⟩ m w (by omega) (by
    have : ByteArray.size ⟨#[48]⟩ = 1 := rfl
    rw [this]
    omega)
  have e : repeatL (ByteArray.mk #[48]).data.toList m = List.replicate m 48 := repeatL_byte 48 m
  rw [e] at h
  exact h
theorem Tryz.writeStr (B b : Nat) (bs l : List UInt8) (w : World) (h : IsBuilder 108 5 B b (byteCells bs) w) (hlen : bs.length + l.length ≤ 1000000) (hBw : B ≤ w.heap.size) :
    Calls Tryz.prog 79 #[.pointer (some ⟨b, 0, none⟩), .string (ba l)] w fun e w' => e = .returned (.tuple #[.int .i64 l.length, .nilIface]) ∧ BuilderAt 108 5 B b (.pointer (some ⟨b, 0, none⟩)) (byteCells (bs ++ l)) w' ∧ Below B w w' := by
  have h := Tryz.Builder_WriteString B b (byteCells bs) (ba l) w h (by rw [byteCells_length, ba_size]; omega) hBw
  rw [ndata, ← byteCells_append, ba_size] at h
  exact h
theorem Tryz.writeByte (B b : Nat) (bs : List UInt8) (c : UInt8) (w : World) (h : IsBuilder 108 5 B b (byteCells bs) w) (hlen : bs.length ≤ 1000000) (hBw : B ≤ w.heap.size) :
    Calls Tryz.prog 81 #[.pointer (some ⟨b, 0, none⟩), .int .u8 c.toNat] w fun e w' => e = .returned .nilIface ∧ BuilderAt 108 5 B b (.pointer (some ⟨b, 0, none⟩)) (byteCells (bs ++ [c])) w' ∧ Below B w w' := by
  have h := Tryz.Builder_WriteByte B b (byteCells bs) c.toNat w h (by rw [byteCells_length]; omega) hBw
  rw [byteCells_append]
  exact h
set_option maxHeartbeats 4000000 in
theorem Tryz.toldWrite (B b n k : Nat) (bs : List UInt8) (w : World) (h : IsBuilder 108 5 B b (byteCells bs) w) (hn : n < 18446744073709551616) (hk : k ≤ 18) (hbs : bs.length ≤ 100000) (hBw : B ≤ w.heap.size) (htab : Lib.TabIs Tryz.prog w "internal/strconv.uint64pow10" .u64 Lib.pow10Tab) :
    Calls Tryz.prog 77 #[.int .u64 n, .int .i64 k, .pointer (some ⟨b, 0, none⟩)] w fun e w' => e = .returned (.tuple #[]) ∧ BuilderAt 108 5 B b (.pointer (some ⟨b, 0, none⟩)) (byteCells (bs ++ pad k n)) w' ∧ Below B w w' := by
  have hd20 : (decDigits n).length ≤ 19 + 1 := decDigits_le.2 (by omega)
  have hF := Tryz.sFormatUint n hn w htab
  unfold pad
  generalize decDigits n = D at hd20 hF ⊢
  obtain ⟨m, hmd⟩ : ∃ m, m = k - D.length := ⟨_, rfl⟩
  rw [← hmd]
  go_enter Tryz.func77, Tryz.ntmps77
  go_wp2_with (go_at_call 78; refine hF.mono ?_; rintro e w1 ⟨rfl, hb1⟩)
  have hm : max ((k : Int) - (D.length : Int)) 0 = (m : Int) := by omega
  rw [hm]
  refine (Tryz.repeat0 m (by omega) w1).mono ?_
  rintro e w2 ⟨rfl, hb2⟩
  have hb02 : Below w.heap.size w w2 := hb1.trans (hb2.mono hb1.size)
  have hw := Tryz.writeStr B b bs (List.replicate m 48 ++ D) w2 (h.belowT hb02) (by simp; omega) (by have := hb02.size; omega)
  have hov : ¬ 9223372036854775807 < m + D.length := by omega
  have HM := Lib.hid hm
  have HD := Lib.hid hmd
  clear hm hmd hb1 hb2
  go_wp2_with (go_at_call 79; refine hw.mono ?_; rintro e w3 ⟨rfl, hB3, hb3⟩)
  go_end0
  exact ⟨rfl, hB3, (hb02.mono hBw).trans hb3⟩
end Go.Proofs

/-
  (whole.Number).Told: a number's text, by the kit's own walk.
-/
set_option linter.unusedSimpArgs false
set_option linter.unusedVariables false
namespace Go.Proofs.YtglnkfpmogaifaaGreatDoor.V
open Go Go.Proofs Go.RowKit Go.Lib
/-- What is written, ahead of the groups below j. -/
def accI (z : Int) (j : Nat) : List UInt8 := (if z < 0 then [45] else []) ++ (if j = (dig BB z.natAbs).length then (if j = 0 then [48] else []) else decDigits (z.natAbs / BB ^ j))
theorem pad_one (x : Nat) : pad 1 x = decDigits x := by
  have := (decDigits_spec x).2.2.1
  have := List.length_pos_iff.2 this
  unfold pad
  rw [show 1 - (decDigits x).length = 0 by omega]
  rfl
theorem accStep {z : Int} {j : Nat} (h0 : 1 ≤ j) (h1 : j ≤ (dig BB z.natAbs).length) : accI z (j - 1) = accI z j ++ pad (if j = (dig BB z.natAbs).length then 1 else 18) ((dig BB z.natAbs).getD (j - 1) 0).toNat := by
  obtain ⟨i, rfl⟩ : ∃ i, j = i + 1 := ⟨j - 1, by omega⟩
  rw [Nat.add_sub_cancel]
  unfold accI
  rw [if_neg (show ¬ i = (dig BB z.natAbs).length by omega)]
  by_cases he : i + 1 = (dig BB z.natAbs).length
  · rw [if_pos he, if_pos he, if_neg (show ¬ i + 1 = 0 by omega), pad_one, top_div he.symm]
    simp
  · rw [if_neg he, if_neg he]
    have ha : z.natAbs ≠ 0 := fun hc => by rw [hc, dig_zero] at h1; simp at h1
    have hp := pow_le_dig BB2 ha
    have hp2 : BB ^ (i + 1) ≤ BB ^ ((dig BB z.natAbs).length - 1) := Nat.pow_le_pow_right (by decide) (by omega)
    rw [grp z.natAbs i (Nat.le_trans hp2 hp), List.append_assoc]
/-- Told's answer. -/
def toldT (z : Int) : List UInt8 := if (decDigits z.natAbs).length ≤ 600 then itoa z else []
def toldE (z : Int) : Int := if (decDigits z.natAbs).length ≤ 600 then 0 else 6
theorem decLen_le {a m : Nat} (h : a < BB ^ m) (hm : 1 ≤ m) : (decDigits a).length ≤ 18 * m := by
  have h1 : a < 10 ^ ((18 * m - 1) + 1) := by
    rw [show (18 * m - 1) + 1 = 18 * m by omega, Nat.pow_mul]
    exact h
  have := decDigits_le.2 h1
  omega
theorem accLen0 {a m : Nat} (h : (dig BB a).length ≤ m) (hm : 1 ≤ m) (j : Nat) : (decDigits (a / BB ^ j)).length ≤ 18 * m :=
  decLen_le (Nat.lt_of_le_of_lt (Nat.div_le_self _ _) (Nat.lt_of_lt_of_le (lt_dig BB2 _) (Nat.pow_le_pow_right (by decide) h))) hm
theorem accLen {z : Int} (h : (dig BB z.natAbs).length ≤ 2000) (j : Nat) : (accI z j).length ≤ 100000 := by
  have h2 := accLen0 h (by omega) j
  unfold accI
  rw [List.length_append]
  split <;> split <;> try split
  all_goals simp only [List.length_cons, List.length_nil] <;> omega
theorem accEnd (z : Int) : accI z 0 = itoa z := by
  unfold accI itoa
  by_cases h0 : 0 = (dig BB z.natAbs).length
  · rw [if_pos h0]
    have : z.natAbs = 0 := (dig_length_zero BB2).1 h0.symm
    have : z = 0 := by omega
    subst this
    have e : decDigits (Int.toNat 0) = [48] := by rw [decDigits, dif_pos (by decide)]; rfl
    rw [e]
    rfl
  · rw [if_neg h0, Nat.pow_zero, Nat.div_one]
    split
    · rfl
    · rw [show z.toNat = z.natAbs by omega]
      rfl
end Go.Proofs.YtglnkfpmogaifaaGreatDoor.V
namespace Go.Proofs
open Go.Shelf Go.RowKit Go.Lib Go.Proofs.YtglnkfpmogaifaaGreatDoor.V

set_option maxHeartbeats 16000000 in
set_option maxRecDepth 100000 in
theorem Tryz.toldWalk (z : Int) (adr : Option Addr) (b0 off cap : Nat) (w : World)
    (hd : ∀ w', Below w.heap.size w w' → Calls Tryz.prog 76 #[.slice adr (dig BB z.natAbs).length cap] w' fun e w'' => e = .returned (.int .i64 (decDigits z.natAbs).length) ∧ Below w'.heap.size w' w'')
    (hc : ∀ i, i < (dig BB z.natAbs).length → adr = some ⟨b0, off, none⟩ ∧ b0 < w.heap.size ∧ w.cell? ⟨b0, off + i, none⟩ = some (.int .u64 ((dig BB z.natAbs).getD i 0)))
    (hL : (dig BB z.natAbs).length ≤ 2000) (hgl : Gl w) :
    Calls Tryz.prog 40 #[.agg #[.bool (decide (z < 0)), .slice adr (dig BB z.natAbs).length cap]] w fun e w' =>
      e = .returned (.tuple #[.string (ba (toldT z)), .int .i64 (toldE z)]) ∧ Below w.heap.size w w' := by
  have hacc := accEnd z
  have hst := fun j => accStep (z := z) (j := j)
  have hdg := dgB z.natAbs
  have hsz : ∀ j, (accI z j).length ≤ 100000 := accLen hL
  have hA0 : accI z (dig BB z.natAbs).length = (if z < 0 then [45] else []) ++ (if (dig BB z.natAbs).length = 0 then [48] else []) := by unfold accI; rw [if_pos rfl]
  have hz0 : (dig BB z.natAbs).length = 0 → ¬ z < 0 := fun h => by have := (dig_length_zero BB2).1 h; omega
  generalize dig BB z.natAbs = L at hd hc hL hst hdg hA0 hz0 ⊢
  generalize accI z = A at hacc hst hsz hA0
  obtain ⟨N, hN⟩ : ∃ N, N = (decDigits z.natAbs).length := ⟨_, rfl⟩
  rw [← hN] at hd
  have HT : Hid (toldT z = if N ≤ 600 then itoa z else []) := hid (by unfold toldT; rw [hN])
  have HE : Hid (toldE z = if N ≤ 600 then 0 else 6) := hid (by unfold toldE; rw [hN])
  have HN := hid hN
  have HA := hid hA0
  have HAC := hid hacc
  have HST := hid hst
  have HC := hid hc
  have HD := hid hd
  have HDG := hid hdg
  have HSZ := hid hsz
  clear hN hA0 hacc hst hc hd hdg hsz
  obtain ⟨sg, hsg⟩ : ∃ sg, sg = decide (z < 0) := ⟨_, rfl⟩
  rw [← hsg]
  have HS := hid hsg
  clear hsg
  have HFR : Hid (∀ W' : World, Below (w.alloc (.cells #[.bool sg, .slice adr L.length cap] 68)).heap.size (w.alloc (.cells #[.bool sg, .slice adr L.length cap] 68)) W' →
      W'.cell? ⟨w.heap.size, 0, none⟩ = some (.bool sg) ∧ W'.cell? ⟨w.heap.size, 1, none⟩ = some (.slice adr L.length cap) ∧ (∀ i, i < L.length → adr = some ⟨b0, off, none⟩ ∧ W'.cell? ⟨b0, off + i, none⟩ = some (.int .u64 (L.getD i 0))) ∧ Gl W') := hid (fun W' hb => by
    have hlt : w.heap.size < (w.alloc (.cells #[.bool sg, .slice adr L.length cap] 68)).heap.size := by simp
    have hbw : Below w.heap.size w (w.alloc (.cells #[.bool sg, .slice adr L.length cap] 68)) := (Below.refl _ w).alloc (Nat.le_refl _) _
    refine ⟨(hb.cell (p := ⟨w.heap.size, 0, none⟩) hlt).trans (Lib.cell_of_heap (World.alloc_heap_new _ _) 0), (hb.cell (p := ⟨w.heap.size, 1, none⟩) hlt).trans (Lib.cell_of_heap (World.alloc_heap_new _ _) 1), fun i hi => ?_, ?_⟩
    · obtain ⟨h1, h2, h3⟩ := HC.out i hi
      exact ⟨h1, (hb.cell (p := ⟨b0, off + i, none⟩) (Nat.lt_trans h2 hlt)).trans ((hbw.cell (p := ⟨b0, off + i, none⟩) h2).trans h3)⟩
    · exact Gl_keep (Gl_keep hgl fun b hb' => hbw.block b hb') fun b hb' => hb.block b hb')
  by_cases h600 : N ≤ 600
  · have h6 : (N : Int) ≤ 600 := by omega
    cases sg
    · have hzn : ¬ z < 0 := by have := HS.out; simpa using this.symm
      have HZ := hid hzn
      clear hz0 hzn
      by_cases hL0 : L.length = 0
      · obtain rfl : L = [] := List.length_eq_zero_iff.1 hL0
        clear hL0
        go_enter Tryz.func40, Tryz.ntmps40
        go_wp2_with (first
          | (go_at_call 76; refine (HD.out _ ((Below.refl _ w).alloc (Nat.le_refl _) _)).mono ?_; rintro e w1 ⟨rfl, hb1⟩; obtain ⟨c0, c1, -, cg⟩ := HFR.out (w1.alloc (.cells #[.pointer none, .slice none 0 0] 108)) (hb1.alloc hb1.size _))
          | (go_at_call 77; refine (Tryz.toldWrite w1.heap.size w1.heap.size 0 1 [] _ (fresh_isBuilder 108 5 w1) (by omega) (by omega) (by simp) (by simp) cg.1).mono ?_; rintro e w2 ⟨rfl, hB2, hb2⟩; obtain ⟨c0', c1', -, -⟩ := HFR.out w2 ((hb1.alloc hb1.size _).trans (hb2.mono hb1.size))))
        have hp0 : byteCells ([] ++ pad 1 0) = byteCells (A 0) := by
          have := HA.out
          rw [List.length_nil, if_neg (Int.not_lt.2 HZ.out)] at this
          rw [this, pad_one, show decDigits 0 = [48] by rw [decDigits, dif_pos (by decide)]; rfl]
          rfl
        go_loopw [6, 7] (fun i wd wr => i = .int .i64 (-1) ∧ wd = .int .i64 1 ∧ IsBuilder 108 5 w1.heap.size w1.heap.size (byteCells (A 0)) wr ∧ Below w1.heap.size (w1.alloc (.cells #[.pointer none, .slice none 0 0] 108)) wr) (fun i _ wr => (intOf i + 1).toNat)
        case atStart => exact ⟨rfl, rfl, hp0 ▸ .inr hB2, hb2⟩
        case round =>
          obtain ⟨rfl, rfl, hI, hb⟩ := hrel
          obtain ⟨c0, c1, c2, cg⟩ := HFR.out wr ((hb1.alloc hb1.size _).trans (hb.mono hb1.size))
          have hbs : w1.heap.size ≤ wr.heap.size := by have := hb.size; simp at this; omega
          have HI := HAC.out
          rw [HI] at hI
          clear HI c2
          go_wp2_with (go_at_call 82; refine (Tryz.Builder_String_any w1.heap.size w1.heap.size (itoa z) _ hI hbs).mono ?_; rintro e w9 ⟨rfl, hb9⟩)
          go_ret2
          refine ⟨?_, ?_⟩
          · rw [HT.out, HE.out, if_pos h600, if_pos h600]
            rfl
          · exact ((((Below.refl _ w).alloc (Nat.le_refl _) _).trans (hb1.mono (by simp))).alloc (by have := hb1.size; simp at this; omega) _).trans ((hb.trans hb9).mono (by have := hb1.size; simp at this; omega))
      · have hLI : ¬ (L.length : Int) = 0 := by omega
        have hLb : ((L.length : Int) == 0) = false := by rw [beq_eq_false_iff_ne]; exact hLI
        go_enter Tryz.func40, Tryz.ntmps40
        go_wp2_with (go_at_call 76; refine (HD.out _ ((Below.refl _ w).alloc (Nat.le_refl _) _)).mono ?_; rintro e w1 ⟨rfl, hb1⟩; obtain ⟨c0, c1, -, -⟩ := HFR.out (w1.alloc (.cells #[.pointer none, .slice none 0 0] 108)) (hb1.alloc hb1.size _))
        go_loopw [6, 7] (fun i wd wr => ∃ j : Nat, j ≤ L.length ∧ i = .int .i64 ((j : Int) - 1) ∧ wd = .int .i64 ((if j = L.length then 1 else 18 : Nat) : Int) ∧ IsBuilder 108 5 w1.heap.size w1.heap.size (byteCells (A j)) wr ∧ Below w1.heap.size (w1.alloc (.cells #[.pointer none, .slice none 0 0] 108)) wr) (fun i _ wr => (intOf i + 1).toNat)
        case atStart => exact ⟨L.length, Nat.le_refl _, rfl, by rw [if_pos rfl]; rfl, by rw [HA.out, if_neg (Int.not_lt.2 HZ.out), if_neg hL0]; exact fresh_isBuilder 108 5 w1, Below.refl _ _⟩
        case round =>
          obtain ⟨j, hj, rfl, rfl, hI, hb⟩ := hrel
          obtain ⟨c0, c1, c2, cg⟩ := HFR.out wr ((hb1.alloc hb1.size _).trans (hb.mono hb1.size))
          have hbs : w1.heap.size ≤ wr.heap.size := by have := hb.size; simp at this; omega
          by_cases hj0 : j = 0
          · subst hj0
            have HI := HAC.out
            rw [HI] at hI
            clear HI c2
            go_wp2_with (go_at_call 82; refine (Tryz.Builder_String_any w1.heap.size w1.heap.size (itoa z) _ hI hbs).mono ?_; rintro e w9 ⟨rfl, hb9⟩)
            go_ret2
            refine ⟨?_, ?_⟩
            · rw [HT.out, HE.out, if_pos h600, if_pos h600]
              rfl
            · exact ((((Below.refl _ w).alloc (Nat.le_refl _) _).trans (hb1.mono (by simp))).alloc (by have := hb1.size; simp at this; omega) _).trans ((hb.trans hb9).mono (by have := hb1.size; simp at this; omega))
          · obtain ⟨m, rfl⟩ : ∃ m, j = m + 1 := ⟨j - 1, by omega⟩
            obtain ⟨ha, cm⟩ := c2 m (by omega)
            have hm1 : (((m + 1 : Nat) : Int) - 1) = m := by omega
            rw [hm1]
            have hgm := HDG.out m
            obtain ⟨x, hx⟩ : ∃ x : Nat, L.getD m 0 = x := ⟨(L.getD m 0).toNat, by omega⟩
            rw [hx] at cm hgm
            have hmL : (m : Int) < L.length := by omega
            have HST' := HST.out (m + 1) (by omega) hj
            rw [Nat.add_sub_cancel, hx, Int.toNat_natCast] at HST'
            have hk18 : (if m + 1 = L.length then 1 else 18 : Nat) ≤ 18 := by split <;> omega
            generalize (if m + 1 = L.length then 1 else 18 : Nat) = kk at HST' hk18 ⊢
            have hw := Tryz.toldWrite w1.heap.size w1.heap.size x kk (A (m + 1)) wr hI (by omega) hk18 (HSZ.out _) hbs cg.1
            rw [← HST'] at hw
            clear HST' hx c2
            subst ha
            go_wp2_with (go_at_call 77; refine hw.mono ?_; rintro e w5 ⟨rfl, hB5, hb5⟩)
            go_roundw
            case rel => exact ⟨m, by omega, rfl, by rw [if_neg (by omega)]; rfl, .inr hB5, hb.trans hb5⟩
            case measure => simp [intOf]
    · have hzn : z < 0 := by have := HS.out; simpa using this.symm
      have hL0 : ¬ L.length = 0 := fun h => hz0 h hzn
      have hLI : ¬ (L.length : Int) = 0 := by omega
      have hLb : ((L.length : Int) == 0) = false := by rw [beq_eq_false_iff_ne]; exact hLI
      clear hz0
      have HZ := hid hzn
      clear hzn
      go_enter Tryz.func40, Tryz.ntmps40
      go_wp2_with (go_at_call 76; refine (HD.out _ ((Below.refl _ w).alloc (Nat.le_refl _) _)).mono ?_; rintro e w1 ⟨rfl, hb1⟩; obtain ⟨c0, c1, -, -⟩ := HFR.out (w1.alloc (.cells #[.pointer none, .slice none 0 0] 108)) (hb1.alloc hb1.size _))
      refine (Tryz.writeByte w1.heap.size w1.heap.size [] 45 _ (fresh_isBuilder 108 5 w1) (by simp) (by simp)).mono ?_
      rintro e w2 ⟨rfl, hB2, hb2⟩
      obtain ⟨c0', c1', -, -⟩ := HFR.out w2 ((hb1.alloc hb1.size _).trans (hb2.mono hb1.size))
      go_wp2
      go_loopw [6, 7] (fun i wd wr => ∃ j : Nat, j ≤ L.length ∧ i = .int .i64 ((j : Int) - 1) ∧ wd = .int .i64 ((if j = L.length then 1 else 18 : Nat) : Int) ∧ IsBuilder 108 5 w1.heap.size w1.heap.size (byteCells (A j)) wr ∧ Below w1.heap.size (w1.alloc (.cells #[.pointer none, .slice none 0 0] 108)) wr) (fun i _ wr => (intOf i + 1).toNat)
      case atStart => exact ⟨L.length, Nat.le_refl _, rfl, by rw [if_pos rfl]; rfl, by rw [HA.out, if_pos HZ.out, if_neg hL0]; exact .inr hB2, hb2⟩
      case round =>
        obtain ⟨j, hj, rfl, rfl, hI, hb⟩ := hrel
        obtain ⟨c0, c1, c2, cg⟩ := HFR.out wr ((hb1.alloc hb1.size _).trans (hb.mono hb1.size))
        have hbs : w1.heap.size ≤ wr.heap.size := by have := hb.size; simp at this; omega
        by_cases hj0 : j = 0
        · subst hj0
          have HI := HAC.out
          rw [HI] at hI
          clear HI c2
          go_wp2_with (go_at_call 82; refine (Tryz.Builder_String_any w1.heap.size w1.heap.size (itoa z) _ hI hbs).mono ?_; rintro e w9 ⟨rfl, hb9⟩)
          go_ret2
          refine ⟨?_, ?_⟩
          · rw [HT.out, HE.out, if_pos h600, if_pos h600]
            rfl
          · exact ((((Below.refl _ w).alloc (Nat.le_refl _) _).trans (hb1.mono (by simp))).alloc (by have := hb1.size; simp at this; omega) _).trans ((hb.trans hb9).mono (by have := hb1.size; simp at this; omega))
        · obtain ⟨m, rfl⟩ : ∃ m, j = m + 1 := ⟨j - 1, by omega⟩
          obtain ⟨ha, cm⟩ := c2 m (by omega)
          have hm1 : (((m + 1 : Nat) : Int) - 1) = m := by omega
          rw [hm1]
          have hgm := HDG.out m
          obtain ⟨x, hx⟩ : ∃ x : Nat, L.getD m 0 = x := ⟨(L.getD m 0).toNat, by omega⟩
          rw [hx] at cm hgm
          have hmL : (m : Int) < L.length := by omega
          have HST' := HST.out (m + 1) (by omega) hj
          rw [Nat.add_sub_cancel, hx, Int.toNat_natCast] at HST'
          have hk18 : (if m + 1 = L.length then 1 else 18 : Nat) ≤ 18 := by split <;> omega
          generalize (if m + 1 = L.length then 1 else 18 : Nat) = kk at HST' hk18 ⊢
          have hw := Tryz.toldWrite w1.heap.size w1.heap.size x kk (A (m + 1)) wr hI (by omega) hk18 (HSZ.out _) hbs cg.1
          rw [← HST'] at hw
          clear HST' hx c2
          subst ha
          go_wp2_with (go_at_call 77; refine hw.mono ?_; rintro e w5 ⟨rfl, hB5, hb5⟩)
          go_roundw
          case rel => exact ⟨m, by omega, rfl, by rw [if_neg (by omega)]; rfl, .inr hB5, hb.trans hb5⟩
          case measure => simp [intOf]
  · have h6 : ¬ (N : Int) ≤ 600 := by omega
    go_enter Tryz.func40, Tryz.ntmps40
    go_wp2_with (go_at_call 76; refine (HD.out _ ((Below.refl _ w).alloc (Nat.le_refl _) _)).mono ?_; rintro e w1 ⟨rfl, hb1⟩)
    go_ret2
    refine ⟨?_, ?_⟩
    · rw [HT.out, HE.out, if_neg h600, if_neg h600]
      rfl
    · exact ((Below.refl _ w).alloc (Nat.le_refl _) _).trans (hb1.mono (by simp))
end Go.Proofs
namespace Go.Proofs.YtglnkfpmogaifaaGreatDoor.V
open Go Go.Proofs Go.RowKit Go.Lib
theorem Cr_cell {X : Ctx} {b off : Nat} {L : List Int} (h : Cr X b off (ints .u64 L)) {i : Nat} (hi : i < L.length) : X.w.cell? ⟨b, off + i, none⟩ = some (.int .u64 (L.getD i 0)) := by
  obtain ⟨u, h1, h2, h3⟩ := Cr_iff.1 h i (.sc (.int .u64 (L.getD i 0))) (ints_get hi)
  simp only [Vr] at h3
  rw [h1, h3]
theorem cTold {z : Int} (hL : ln z.natAbs ≤ 2000) : Con Tryz.prog 40 [nb z] (.tp [tx (toldT z), .sc (.int .i64 (toldE z))]) [] := by
  unfold ln at hL
  refine ⟨by kernel_rfl, fun I w vs hgl hI hl => ?_⟩
  simp only [Lr, Vr] at hl
  obtain ⟨_, _, rfl, ⟨xs, rfl, _, _, hxs, rfl, _, _, rfl, ⟨hm, adr, cap, rfl, hcap, hcs⟩, rfl⟩, rfl⟩ := hl
  obtain rfl : xs = #[.bool (decide (z < 0)), .slice adr (dig BB z.natAbs).length cap] := by
    cases xs
    simp only at hxs
    rw [hxs]
  have hv : Vr ⟨fun _ => none, I, w, fun _ => False⟩ (ms z.natAbs) (.slice adr (dig BB z.natAbs).length cap) := by
    simp only [Vr]
    exact ⟨hm, adr, cap, rfl, hcap, hcs⟩
  have hd : ∀ w', Below w.heap.size w w' → Calls Tryz.prog 76 #[.slice adr (dig BB z.natAbs).length cap] w' fun e w'' => e = .returned (.int .i64 (decDigits z.natAbs).length) ∧ Below w'.heap.size w' w'' := fun w' hb => by
    have hlat : Later (⟨fun _ => none, I, w, fun _ => False⟩ : Ctx) ⟨fun _ => none, I, w', fun _ => False⟩ := ⟨fun _ _ e => e, fun _ e => e, fun b e => hb.block b (hI b e)⟩
    refine ((cDigits (a := z.natAbs) (by unfold ln; omega)).calls I w' [.slice adr (dig BB z.natAbs).length cap] (Gl_keep hgl fun b hb' => hb.block b hb') (fun b e => Nat.lt_of_lt_of_le (hI b e) hb.size) ?_).mono ?_
    · simp only [Lr]
      exact ⟨_, _, rfl, Vr_later hlat _ hv, rfl⟩
    · rintro e w'' ⟨v, Y, rfl, rfl, hp⟩
      have h1 := hp.val
      simp only [Vr] at h1
      rw [h1]
      exact ⟨rfl, hp.below⟩
  have fin : ∀ b0 off, (∀ i, i < (dig BB z.natAbs).length → adr = some ⟨b0, off, none⟩ ∧ b0 < w.heap.size ∧ w.cell? ⟨b0, off + i, none⟩ = some (.int .u64 ((dig BB z.natAbs).getD i 0))) → Calls Tryz.prog 40 #[.agg #[.bool (decide (z < 0)), .slice adr (dig BB z.natAbs).length cap]] w fun e w' => ∃ v Y, Y.w = w' ∧ e = .returned v ∧ CPost I w (.tp [tx (toldT z), .sc (.int .i64 (toldE z))]) [] v Y := fun b0 off hc => by
    refine (Tryz.toldWalk z adr b0 off cap w hd hc hL hgl).mono ?_
    rintro e w' ⟨rfl, hb⟩
    refine ⟨_, ⟨fun _ => none, I, w', fun _ => False⟩, rfl, rfl, ?_, hb, fun b hb' => Nat.lt_of_lt_of_le (hI b hb') hb.size, fun b hb' => .inl hb', fun b hb' => hb', fun i o hi => by simp at hi, fun i j li lj hi => by simp at hi⟩
    simp [Vr, Lr]
  rcases hcs with hcs | ⟨b0, off, rfl, hb0, hcr⟩
  · have h0 : (dig BB z.natAbs).length = 0 := by
      have := congrArg List.length hcs
      rw [ints_length] at this
      exact this
    exact fin 0 0 fun i hi => by omega
  · exact fin b0 off fun i hi => ⟨rfl, hI _ hb0, Cr_cell hcr hi⟩
end Go.Proofs.YtglnkfpmogaifaaGreatDoor.V

/-
  package whole's own functions: texts in, texts out. Part one.
-/
set_option linter.unusedSimpArgs false
set_option linter.unusedVariables false
set_option maxHeartbeats 4000000
namespace Go.Proofs.YtglnkfpmogaifaaGreatDoor.V
open Go Go.Proofs Go.RowKit Go.Lib

/-- What Check tells. -/
def errW (l : List UInt8) : Int := if okT l then 0 else 10
theorem errW_t {l : List UInt8} (h : okT l = true) : errW l = 0 := if_pos h
theorem errW_f {l : List UInt8} (h : okT l = false) : errW l = 10 := if_neg (by rw [h]; decide)
theorem lnLe {a k m : Nat} (h : (decDigits a).length ≤ k) (hk : 1 ≤ k) (hm : k ≤ 18 * m) : ln a ≤ m := by
  have h3 := decDigits_le (k := k - 1) (u := a).1 (by omega)
  rw [show k - 1 + 1 = k by omega] at h3
  refine dig_length_le BB2 m _ (Nat.lt_of_lt_of_le h3 ?_)
  rw [show BB ^ m = 10 ^ (18 * m) from (Nat.pow_mul 10 18 m).symm]
  exact Nat.pow_le_pow_right (by decide) hm
theorem lnum {l : List UInt8} (h : okT l = true) : ln (numT l).natAbs ≤ 34 := lnLe (okT_num h).2 (by omega) (by omega)
theorem cCheck' (l : List UInt8) : Con Tryz.prog 31 [tx l] (.sc (.int .i64 (errW l))) [] := cCheck l
theorem toldT_small {z : Int} (h : (decDigits z.natAbs).length ≤ 600) : toldT z = itoa z ∧ toldE z = 0 := ⟨if_pos h, if_pos h⟩
theorem cOf {n : Int} (h0 : -9223372036854775808 ≤ n) (h1 : n ≤ 9223372036854775807) : Con Tryz.prog 23 [.sc (.int .i64 n)] (tx (itoa n)) [] := by
  have hd : (decDigits n.natAbs).length ≤ 599 + 1 := Nat.le_trans (decDigits_le (k := 19).2 (by omega)) (by decide)
  have ht := (toldT_small (z := n) hd).1
  have hl : ln n.natAbs ≤ 2000 := Nat.le_trans (dig_length_le BB2 2 _ (by show n.natAbs < 1000000000000000000 ^ 2; omega)) (by decide)
  refine Con.of_body [(0, .sc (.int .i64 n))] Tryz.func23 rfl ca23 12 rfl (by simp) rfl ?_; refine T_of_R ?_
  refine go ?_
  refine callz (cFrom h0 h1) ?_
  refine go ?_
  refine callz (cTold (z := n) hl) ?_
  refine go ?_
  rw [ht]
  refine R_ret (finA [])
def sgnV (l : List UInt8) : Int := if okT l then (numT l).sign else 0
theorem cSign (l : List UInt8) : Con Tryz.prog 15 [tx l] (.tp [.sc (.int .i64 (sgnV l)), .sc (.int .i64 (errW l))]) [] := by
  refine Con.of_body [(0, tx l)] Tryz.func15 rfl ca15 13 rfl (by simp) rfl ?_; refine T_of_R ?_
  refine go ?_
  refine call (cCheck' l) ?_
  by_cases h : okT l = true
  · rw [errW_t h, show sgnV l = (numT l).sign from if_pos h]
    refine go ?_
    refine cnd (b := false) (fun h => by cases h) (fun _ => ?_)
    refine go ?_
    refine callz (cRead h) ?_
    refine go ?_
    refine callz (cSide (numT l)) ?_
    refine go ?_
    refine R_ret (finA [])
  · rw [errW_f (by simpa using h), show sgnV l = 0 from if_neg h]
    refine go ?_
    refine cnd (b := true) (fun _ => ?_) (fun h => by cases h)
    refine go ?_
    refine R_ret (finA [])
/-- Both are whole numbers. -/
def ok2 (a b : List UInt8) : Bool := okT a && okT b
def err2 (a b : List UInt8) : Int := if ok2 a b then 0 else 10
def cmpV (a b : List UInt8) : Int := if ok2 a b then (numT a - numT b).sign else 0
theorem ok2_t {a b : List UInt8} (h : ok2 a b = true) : okT a = true ∧ okT b = true := by simpa [ok2] using h
theorem errW_ne (l : List UInt8) : ((errW l : Int) != 0) = !okT l := by
  unfold errW
  cases okT l <;> rfl
theorem ok2_or (a b : List UInt8) : (!okT a || !okT b) = !ok2 a b := by unfold ok2; cases okT a <;> cases okT b <;> rfl
attribute [go_sem] errW_ne ok2_or
theorem cCmpW (a b : List UInt8) : Con Tryz.prog 16 [tx a, tx b] (.tp [.sc (.int .i64 (cmpV a b)), .sc (.int .i64 (err2 a b))]) [] := by
  refine Con.of_body [(0, tx a), (1, tx b)] Tryz.func16 rfl ca16 19 rfl (by simp) rfl ?_; refine T_of_R ?_
  refine go ?_
  refine call (cCheck' a) ?_
  refine go ?_
  refine callg (fun hg => cCheck' b) ?_
  refine go ?_
  by_cases h : ok2 a b = true
  · obtain ⟨ha, hb⟩ := ok2_t h
    have h34 := lnum ha
    have h34' := lnum hb
    rw [h, show cmpV a b = (numT a - numT b).sign from if_pos h, show err2 a b = 0 from if_pos h]
    refine cnd (b := false) (fun h => by cases h) (fun _ => ?_)
    refine go ?_
    refine callz (cRead ha) ?_
    refine go ?_
    refine callz (cRead hb) ?_
    refine go ?_
    refine callz (cOrder (x := numT a) (y := numT b) (by omega)) ?_
    refine go ?_
    refine R_ret (finA [])
  · rw [show ok2 a b = false by simpa using h, show cmpV a b = 0 from if_neg h, show err2 a b = 10 from if_neg h]
    refine cnd (b := true) (fun _ => ?_) (fun h => by cases h)
    refine go ?_
    refine R_ret (finA [])
/-- A number as a text, where the text a is a whole number. -/
def tolT (a : List UInt8) (z : Int) : List UInt8 := if okT a then toldT z else []
def tolE (a : List UInt8) (z : Int) : Int := if okT a then toldE z else 10
end Go.Proofs.YtglnkfpmogaifaaGreatDoor.V

/-
  whole.Int: a whole number as an int.
-/
set_option linter.unusedSimpArgs false
set_option linter.unusedVariables false
set_option maxHeartbeats 4000000
namespace Go.Proofs.YtglnkfpmogaifaaGreatDoor.V
open Go Go.Proofs Go.RowKit Go.Lib

theorem Lr_scs' {X : Ctx} : ∀ (us : List Value), Lr X (us.map .sc) us
  | [] => by simp [Lr]
  | u :: us => by
    simp only [List.map_cons, Lr]
    exact ⟨u, us, rfl, by simp [Vr], Lr_scs' us⟩
theorem Con.raw {P : Program} {f : FuncId} {us : List Value} {v : Value} (hc : Con P f (us.map .sc) (.sc v) []) (w : World) (hgl : Gl w) : Calls P f us.toArray w fun e w' => e = .returned v ∧ Below w.heap.size w w' := by
  refine (hc.calls (fun _ => False) w us hgl (fun _ h => h.elim) (Lr_scs' us)).mono ?_
  rintro e w' ⟨u, Y, rfl, rfl, hp⟩
  have := hp.val
  simp only [Vr] at this
  rw [this]
  exact ⟨rfl, hp.below⟩
theorem p10 : ∀ (l : List UInt8) (acc : Nat), l.all isD = true → acc < 18446744073709551616 → parseUint10 acc l = if acc * 10 ^ l.length + dval l < 18446744073709551616 then .ok (acc * 10 ^ l.length + dval l) else .range
  | [], acc, _, ha => by
    have e : acc * 10 ^ ([] : List UInt8).length + dval [] = acc := by simp [dval]
    rw [e, if_pos ha]
    rfl
  | c :: l, acc, hd, ha => by
    rw [List.all_cons, Bool.and_eq_true] at hd
    have hc := isD_bd hd.1
    have hp := Nat.pow_pos (n := l.length) (show 0 < 10 by omega)
    have e : acc * 10 ^ (c :: l).length + dval (c :: l) = (acc * 10 + (c.toNat - 48)) * 10 ^ l.length + dval l := by
      rw [dval_cons, List.length_cons, Nat.pow_succ]
      grind
    rw [e]
    have h1 : (acc * 10 + (c.toNat - 48)) * 1 ≤ (acc * 10 + (c.toNat - 48)) * 10 ^ l.length := Nat.mul_le_mul_left _ hp
    unfold parseUint10
    rw [if_pos hc]
    split
    · rw [if_neg (by omega)]
    · split
      · rw [if_neg (by omega)]
      · exact p10 l _ hd.2 (by omega)
theorem pMag {l : List UInt8} (hd : l.all isD = true) (hn : l ≠ []) : parseMag l = if dval l < 18446744073709551616 then .ok (dval l) else .range := by
  unfold parseMag
  rw [if_neg hn, p10 l 0 hd (by omega), Nat.zero_mul, Nat.zero_add]
/-- What is an int. -/
def inI (z : Int) : Prop := -9223372036854775808 ≤ z ∧ z ≤ 9223372036854775807
instance (z : Int) : Decidable (inI z) := inferInstanceAs (Decidable (_ ∧ _))
theorem atoiV {l : List UInt8} (h : okT l = true) : atoiAll l = if inI (numT l) then .ok (numT l) else .range := by
  obtain ⟨h1, h2, h3, h4⟩ := okT_spec h
  unfold numT
  cases hg : neg1 l
  · rw [if_neg (show ¬ (false = true) by decide)]
    have hs : strip l = l := by unfold strip; rw [hg]; rfl
    rw [hs] at h1 h3 ⊢
    cases l with
    | nil => exact (h1 rfl).elim
    | cons c r =>
      have hc := isD_bd (by rw [List.all_cons, Bool.and_eq_true] at h3; exact h3.1)
      rw [atoiAll_plain c r (by omega) (by omega), pMag h3 h1]
      split
      · simp only [signless]
        split
        · rw [if_neg (show ¬ inI _ from fun h => by have := h.1; have := h.2; omega)]
        · rw [if_pos (show inI _ from ⟨by omega, by omega⟩)]
      · simp only [signless]
        rw [if_neg (show ¬ inI _ from fun h => by have := h.1; have := h.2; omega)]
  · rw [if_pos rfl]
    cases l with
    | nil => simp [neg1] at hg
    | cons c r =>
      obtain rfl : c = 45 := by simpa [neg1] using hg
      have hs : strip (45 :: r) = r := by unfold strip; rw [if_pos hg]; rfl
      rw [hs] at h1 h3 ⊢
      rw [atoiAll_minus r, pMag h3 h1]
      split
      · simp only [signed]
        split
        · rw [if_neg (show ¬ inI _ from fun h => by have := h.1; have := h.2; omega)]
        · rw [if_pos (show inI _ from ⟨by omega, by omega⟩)]
      · simp only [signed]
        rw [if_neg (show ¬ inI _ from fun h => by have := h.1; have := h.2; omega)]
def intV (l : List UInt8) : Int := if okT l = true ∧ inI (numT l) then numT l else 0
def intE (l : List UInt8) : Int := if okT l = true then (if inI (numT l) then 0 else 6) else 10
theorem ok_length {l : List UInt8} (h : okT l = true) : l.length ≤ 601 := by
  have h2 := (okT_spec h).2.1
  unfold strip at h2
  split at h2
  · rw [List.length_tail] at h2; omega
  · omega
set_option maxRecDepth 100000 in
theorem Tryz.intWalk (l : List UInt8) (w : World) (hgl : Gl w) : Calls Tryz.prog 24 #[.string (ba l)] w fun e w' => e = .returned (.tuple #[.int .i64 (intV l), .int .i64 (intE l)]) ∧ Below w.heap.size w w' := by
  have hcr := Con.raw (us := [.string (ba l)]) (cCheck' l) w hgl
  cases hk : okT l
  · have HV : Hid (intV l = 0 ∧ intE l = 10) := hid ⟨if_neg (by rw [hk]; simp), if_neg (by rw [hk]; simp)⟩
    rw [errW_f hk] at hcr
    clear hk
    go_enter Tryz.func24, Tryz.ntmps24
    go_wp2_with (go_at_call 31; refine hcr.mono ?_; rintro e w1 ⟨rfl, hb1⟩)
    go_ret2
    exact ⟨by rw [HV.out.1, HV.out.2]; rfl, hb1⟩
  · rw [errW_t hk] at hcr
    by_cases hi : inI (numT l)
    · have HV : Hid (intV l = numT l ∧ intE l = 0) := hid ⟨if_pos ⟨hk, hi⟩, by unfold intE; rw [if_pos hk, if_pos hi]⟩
      have ha : atoiAll l = .ok (numT l) := by rw [atoiV hk, if_pos hi]
      have hl := ok_length hk
      have HA : Hid (∀ w, Calls Tryz.prog 56 #[.string (ba l)] w fun e w' => e = .returned (.tuple #[.int .i64 (numT l), .nilIface]) ∧ Below w.heap.size w w') := hid fun w => by
        refine (Tryz.strconv_Atoi_ok (ba l) (by rw [ba_size]; omega) (numT l) (by rw [ndata]; exact ha) w).mono ?_
        rintro e w' ⟨rfl, hb⟩
        refine ⟨rfl, ?_⟩
        rcases hb with rfl | ⟨t, rfl⟩
        · exact Below.refl _ _
        · exact bytesWorld_below _ _ _
      generalize numT l = z at HV HA
      clear hk hi ha hl
      go_enter Tryz.func24, Tryz.ntmps24
      go_wp2_with (first
        | (go_at_call 31; refine hcr.mono ?_; rintro e w1 ⟨rfl, hb1⟩)
        | (go_at_call 56; refine (HA.out _).mono ?_; rintro e w2 ⟨rfl, hb2⟩))
      go_ret2
      exact ⟨by rw [HV.out.1, HV.out.2]; rfl, hb1.trans (hb2.mono hb1.size)⟩
    · have HV : Hid (intV l = 0 ∧ intE l = 6) := hid ⟨if_neg (fun h => hi h.2), by unfold intE; rw [if_pos hk, if_neg hi]⟩
      have ha : atoiAll l = .range := by rw [atoiV hk, if_neg hi]
      have hl := ok_length hk
      have HA : Hid (∀ w, Gl w → Calls Tryz.prog 56 #[.string (ba l)] w fun e w' => ∃ k N, e = .returned (.tuple #[.int .i64 k, .iface 140 (.pointer (some ⟨N, 0, none⟩))]) ∧ Below w.heap.size w w') := hid fun w hg => by
        obtain ⟨_, tp, p, hv⟩ := hg
        refine (Tryz.strconv_Atoi_range_var (ba l) (by rw [ba_size]; omega) (by rw [ndata]; exact ha) tp p w hv).mono ?_
        rintro e w' ⟨N, rfl, _, _, hb⟩
        exact ⟨_, N, rfl, hb⟩
      have HG := hid hgl
      clear hk hi ha hl hgl
      go_enter Tryz.func24, Tryz.ntmps24
      go_wp2_with (first
        | (go_at_call 31; refine hcr.mono ?_; rintro e w1 ⟨rfl, hb1⟩)
        | (go_at_call 56; refine (HA.out _ (Gl_keep HG.out fun b hb' => hb1.block b hb')).mono ?_; rintro e w2 ⟨k, N2, rfl, hb2⟩))
      go_ret2
      exact ⟨by rw [HV.out.1, HV.out.2]; rfl, hb1.trans (hb2.mono hb1.size)⟩
theorem cInt (l : List UInt8) : Con Tryz.prog 24 [tx l] (.tp [.sc (.int .i64 (intV l)), .sc (.int .i64 (intE l))]) [] :=
  Con.of_calls (us := [.string (ba l)]) (v := .tuple #[.int .i64 (intV l), .int .i64 (intE l)]) (by kernel_rfl) (fun X => by simp [Vr, Lr]) fun w hgl => Tryz.intWalk l w hgl
end Go.Proofs.YtglnkfpmogaifaaGreatDoor.V

/-
  package whole's own functions: both, Add, Sub, Mul.
-/
set_option linter.unusedSimpArgs false
set_option linter.unusedVariables false
set_option maxHeartbeats 4000000
namespace Go.Proofs.YtglnkfpmogaifaaGreatDoor.V
open Go Go.Proofs Go.RowKit Go.Lib

abbrev fnD (g : Nat) : D := .fn (.func g) [] []
def opT (op : Int → Int → Int) (a b : List UInt8) : List UInt8 := if ok2 a b then toldT (op (numT a) (numT b)) else []
def opE (op : Int → Int → Int) (a b : List UInt8) : Int := if ok2 a b then toldE (op (numT a) (numT b)) else 10
theorem ldOps (s : Sg) (id off : Nat) : vload Tryz.prog s 63 (.pt id off) = (s id).bind fun o => if off + 3 ≤ o.cells.length then some (.ag ((o.cells.drop off).take 3)) else none := load_ptA k63 a63 z63
attribute [go_sem] ldOps
theorem cOperations : Con Tryz.prog 37 [] (.ag [fnD 67, fnD 68, fnD 69]) [] := by
  refine Con.of_body [] Tryz.func37 rfl ca37 5 rfl (by simp) rfl ?_; refine T_of_R ?_
  refine go ?_
  refine R_ret (finA [])
theorem cBoth {g : Nat} {op : Int → Int → Int} (hop : ∀ x y : Int, ln x.natAbs ≤ 34 → ln y.natAbs ≤ 34 → Con Tryz.prog g [nb x, nb y] (nb (op x y)) [] ∧ ln (op x y).natAbs ≤ 2000) (a b : List UInt8) :
    Con Tryz.prog 36 [tx a, tx b, .ag [fnD g]] (.tp [tx (opT op a b), .sc (.int .i64 (opE op a b))]) [] := by
  refine Con.of_body [(0, tx a), (1, tx b), (2, .ag [fnD g])] Tryz.func36 rfl ca36 26 rfl (by simp) rfl ?_; refine T_of_R ?_
  refine go ?_
  refine call (cCheck' a) ?_
  refine go ?_
  refine callg (fun hg => cCheck' b) ?_
  refine go ?_
  by_cases h : ok2 a b = true
  · obtain ⟨ha, hb⟩ := ok2_t h
    obtain ⟨hc, hl⟩ := hop _ _ (lnum ha) (lnum hb)
    rw [h, show opT op a b = toldT (op (numT a) (numT b)) from if_pos h, show opE op a b = toldE (op (numT a) (numT b)) from if_pos h]
    refine cnd (b := false) (fun h => by cases h) (fun _ => ?_)
    refine go ?_
    refine callz (cRead ha) ?_
    refine go ?_
    refine callz (cRead hb) ?_
    refine go ?_
    refine callz (hc) ?_
    refine go ?_
    refine callz (cTold (z := op (numT a) (numT b)) hl) ?_
    refine go ?_
    refine R_ret (finA [])
  · rw [show ok2 a b = false by simpa using h, show opT op a b = [] from if_neg h, show opE op a b = 10 from if_neg h]
    refine cnd (b := true) (fun _ => ?_) (fun h => by cases h)
    refine go ?_
    refine R_ret (finA [])
end Go.Proofs.YtglnkfpmogaifaaGreatDoor.V

/-
  package whole's own functions: Add, Sub, Mul, Gcd, Pow, Root.
-/
set_option linter.unusedSimpArgs false
set_option linter.unusedVariables false
set_option maxHeartbeats 4000000
namespace Go.Proofs.YtglnkfpmogaifaaGreatDoor.V
open Go Go.Proofs Go.RowKit Go.Lib

theorem ixOps {a b c : D} {i : Int} (h0 : 0 ≤ i) (h1 : i < 3) : vindex Tryz.prog 63 (.ag [a, b, c]) (.sc (.int .i64 i)) = some (.ag [([a, b, c] : List D).getD i.toNat .junk]) := by
  unfold vindex
  rw [Tryz.underlying63]
  simp only []
  rw [if_pos k62, if_pos ⟨h0, h1⟩, a62, z62]
  obtain rfl | rfl | rfl : i = 0 ∨ i = 1 ∨ i = 2 := by omega
  all_goals rfl
theorem ixOps0 {a b c : D} : vindex Tryz.prog 63 (.ag [a, b, c]) (.sc (.int .i64 0)) = some (.ag [a]) := ixOps (by decide) (by decide)
theorem ixOps1 {a b c : D} : vindex Tryz.prog 63 (.ag [a, b, c]) (.sc (.int .i64 1)) = some (.ag [b]) := ixOps (by decide) (by decide)
theorem ixOps2 {a b c : D} : vindex Tryz.prog 63 (.ag [a, b, c]) (.sc (.int .i64 2)) = some (.ag [c]) := ixOps (by decide) (by decide)
attribute [go_sem] ixOps0 ixOps1 ixOps2
theorem lnAdd (x y : Int) : ln (x + y).natAbs ≤ max (ln x.natAbs) (ln y.natAbs) + 1 :=
  Nat.le_trans (dig_mono BB2 (Int.natAbs_add_le x y)) (dig_length_add BB2 _ _)
theorem lnMul (x y : Int) : ln (x * y).natAbs ≤ ln x.natAbs + ln y.natAbs := by
  rw [Int.natAbs_mul]
  exact dig_length_mul BB2 _ _
theorem lnNeg (x : Int) : ln (-x).natAbs = ln x.natAbs := by rw [Int.natAbs_neg]
theorem cAdd (a b : List UInt8) : Con Tryz.prog 10 [tx a, tx b] (.tp [tx (opT (· + ·) a b), .sc (.int .i64 (opE (· + ·) a b))]) [] := by
  have hb := cBoth (op := (· + ·)) (g := 67) (fun x y hx hy => ⟨cSum (by omega), by have := lnAdd x y; show ln (x + y).natAbs ≤ 2000; omega⟩) a b
  refine Con.of_body [(0, tx a), (1, tx b)] Tryz.func10 rfl ca10 13 rfl (by simp) rfl ?_; refine T_of_R ?_
  refine go ?_
  refine callz (cOperations) ?_
  refine go ?_
  refine callz (hb) ?_
  refine go ?_
  refine R_ret (finA [])
theorem cSub (a b : List UInt8) : Con Tryz.prog 11 [tx a, tx b] (.tp [tx (opT (· - ·) a b), .sc (.int .i64 (opE (· - ·) a b))]) [] := by
  have hb := cBoth (op := (· - ·)) (g := 68) (fun x y hx hy => ⟨cLess (by omega), by have := lnAdd x (-y); rw [lnNeg] at this; show ln (x - y).natAbs ≤ 2000; rw [Int.sub_eq_add_neg]; omega⟩) a b
  refine Con.of_body [(0, tx a), (1, tx b)] Tryz.func11 rfl ca11 13 rfl (by simp) rfl ?_; refine T_of_R ?_
  refine go ?_
  refine callz (cOperations) ?_
  refine go ?_
  refine callz (hb) ?_
  refine go ?_
  refine R_ret (finA [])
theorem cMul (a b : List UInt8) : Con Tryz.prog 12 [tx a, tx b] (.tp [tx (opT (· * ·) a b), .sc (.int .i64 (opE (· * ·) a b))]) [] := by
  have hb := cBoth (op := (· * ·)) (g := 69) (fun x y hx hy => ⟨cProduct (by omega), by have := lnMul x y; show ln (x * y).natAbs ≤ 2000; omega⟩) a b
  refine Con.of_body [(0, tx a), (1, tx b)] Tryz.func12 rfl ca12 13 rfl (by simp) rfl ?_; refine T_of_R ?_
  refine go ?_
  refine callz (cOperations) ?_
  refine go ?_
  refine callz (hb) ?_
  refine go ?_
  refine R_ret (finA [])
end Go.Proofs.YtglnkfpmogaifaaGreatDoor.V

/-
  package whole's own functions: Gcd, Pow, Root.
-/
set_option linter.unusedSimpArgs false
set_option linter.unusedVariables false
set_option maxHeartbeats 4000000
namespace Go.Proofs.YtglnkfpmogaifaaGreatDoor.V
open Go Go.Proofs Go.RowKit Go.Lib

def gcdZ (x y : Int) : Int := (Nat.gcd x.natAbs y.natAbs : Nat)
theorem nb_nat (n : Nat) : nb (n : Int) = .ag [.sc (.bool false), ms n] := by
  unfold nb
  rw [decide_eq_false (by omega), Int.natAbs_natCast]
theorem cGcd (a b : List UInt8) : Con Tryz.prog 17 [tx a, tx b] (.tp [tx (opT gcdZ a b), .sc (.int .i64 (opE gcdZ a b))]) [] := by
  refine Con.of_body [(0, tx a), (1, tx b)] Tryz.func17 rfl ca17 28 rfl (by simp) rfl ?_; refine T_of_R ?_
  refine go ?_
  refine call (cCheck' a) ?_
  refine go ?_
  refine callg (fun hg => cCheck' b) ?_
  refine go ?_
  by_cases h : ok2 a b = true
  · obtain ⟨ha, hb⟩ := ok2_t h
    have hla := lnum ha
    have hlb := lnum hb
    have hlg : ln (gcdZ (numT a) (numT b)).natAbs ≤ 2000 := by
      unfold gcdZ
      rw [Int.natAbs_natCast]
      by_cases hz : (numT a).natAbs = 0
      · rw [hz, Nat.gcd_zero_left]; omega
      · exact Nat.le_trans (dig_mono BB2 (Nat.gcd_le_left _ (Nat.pos_of_ne_zero hz))) (Nat.le_trans hla (by omega))
    have hto := cTold (z := gcdZ (numT a) (numT b)) hlg
    rw [show nb (gcdZ (numT a) (numT b)) = .ag [.sc (.bool false), ms (Nat.gcd (numT a).natAbs (numT b).natAbs)] from nb_nat _] at hto
    rw [h, show opT gcdZ a b = toldT (gcdZ (numT a) (numT b)) from if_pos h, show opE gcdZ a b = toldE (gcdZ (numT a) (numT b)) from if_pos h]
    refine cnd (b := false) (fun h => by cases h) (fun _ => ?_)
    refine go ?_
    refine callz (cRead ha) ?_
    refine go ?_
    refine callz (cRead hb) ?_
    refine go ?_
    refine callz (cCommon (a := (numT a).natAbs) (b := (numT b).natAbs) (by omega)) ?_
    refine go ?_
    refine callz (hto) ?_
    refine go ?_
    refine R_ret (finA [])
  · rw [show ok2 a b = false by simpa using h, show opT gcdZ a b = [] from if_neg h, show opE gcdZ a b = 10 from if_neg h]
    refine cnd (b := true) (fun _ => ?_) (fun h => by cases h)
    refine go ?_
    refine R_ret (finA [])
end Go.Proofs.YtglnkfpmogaifaaGreatDoor.V

/-
  package whole's own functions: Pow, Root.
-/
set_option linter.unusedSimpArgs false
set_option linter.unusedVariables false
set_option maxHeartbeats 4000000
namespace Go.Proofs.YtglnkfpmogaifaaGreatDoor.V
open Go Go.Proofs Go.RowKit Go.Lib

def powT (a : List UInt8) (n : Int) : List UInt8 := if okT a = true ∧ 0 ≤ n ∧ n ≤ 40 then toldT (numT a ^ n.toNat) else []
def powE (a : List UInt8) (n : Int) : Int := if okT a = true then (if 0 ≤ n ∧ n ≤ 40 then toldE (numT a ^ n.toNat) else 2) else 10
theorem tmod_nn' {a b : Int} (h : 0 ≤ a) : a.tmod b = a % b := Int.tmod_eq_emod_of_nonneg h
theorem pow_neg (z : Int) (n : Nat) : decide (z ^ n < 0) = (decide (z < 0) && decide (n % 2 = 1)) := by
  by_cases hz : z < 0
  · obtain ⟨m, rfl⟩ : ∃ m : Nat, z = -(m : Int) := ⟨z.natAbs, by omega⟩
    have hm : 0 < (m : Int) := by omega
    have hp : 0 < (m : Int) ^ n := Int.pow_pos hm
    rw [decide_eq_true hz, Bool.true_and]
    by_cases ho : n % 2 = 1
    · rw [decide_eq_true ho, decide_eq_true_eq]
      obtain ⟨k, rfl⟩ : ∃ k, n = 2 * k + 1 := ⟨n / 2, by omega⟩
      have e : (-(m : Int)) ^ (2 * k + 1) = -((m : Int) ^ (2 * k + 1)) := by
        rw [Int.pow_succ, Int.pow_succ, Int.pow_mul, Int.pow_mul, show (-(m : Int)) ^ 2 = (m : Int) ^ 2 by grind, Int.mul_neg]
      rw [e]; omega
    · rw [decide_eq_false ho, decide_eq_false_iff_not]
      obtain ⟨k, rfl⟩ : ∃ k, n = 2 * k := ⟨n / 2, by omega⟩
      have e : (-(m : Int)) ^ (2 * k) = (m : Int) ^ (2 * k) := by
        rw [Int.pow_mul, Int.pow_mul, show (-(m : Int)) ^ 2 = (m : Int) ^ 2 by grind]
      rw [e]; omega
  · rw [decide_eq_false hz, Bool.false_and, decide_eq_false_iff_not]
    have : 0 ≤ z ^ n := Int.pow_nonneg (by omega)
    omega
theorem cPow (a : List UInt8) {n : Int} (h0 : -9223372036854775808 ≤ n) (h1 : n ≤ 9223372036854775807) : Con Tryz.prog 20 [tx a, .sc (.int .i64 n)] (.tp [tx (powT a n), .sc (.int .i64 (powE a n))]) [] := by
  refine Con.of_body [(0, tx a), (1, .sc (.int .i64 n))] Tryz.func20 rfl ca20 36 rfl (by simp) rfl ?_; refine T_of_R ?_
  refine go ?_
  refine call (cCheck' a) ?_
  refine go ?_
  by_cases h : okT a = true
  · have hla := lnum h
    have hok := h
    rw [h]
    refine cnd (b := false) (fun h => by cases h) (fun _ => ?_)
    refine go ?_
    refine cnd (fun h => ?_) (fun h => ?_)
    · simp only [decide_eq_true_eq, decide_eq_false_iff_not, Bool.or_eq_true, Bool.and_eq_true, Bool.or_eq_false_iff, Bool.and_eq_false_iff, Bool.not_eq_true', Bool.not_eq_false', bne_iff_ne, beq_iff_eq, ne_eq, bne_eq_false_iff_eq, beq_eq_false_iff_ne, ge_iff_le, gt_iff_lt, Int.not_le, Int.not_lt] at h
      have hn : ¬ (0 ≤ n ∧ n ≤ 40) := by omega
      rw [show powT a n = [] from if_neg (fun hc => hn hc.2), show powE a n = 2 from by unfold powE; rw [if_pos hok, if_neg hn]]
      refine go ?_
      refine R_ret (finA [])
    · simp only [decide_eq_true_eq, decide_eq_false_iff_not, Bool.or_eq_true, Bool.and_eq_true, Bool.or_eq_false_iff, Bool.and_eq_false_iff, Bool.not_eq_true', Bool.not_eq_false', bne_iff_ne, beq_iff_eq, ne_eq, bne_eq_false_iff_eq, beq_eq_false_iff_ne, ge_iff_le, gt_iff_lt, Int.not_le, Int.not_lt] at h
      have hn : 0 ≤ n ∧ n ≤ 40 := by omega
      obtain ⟨k, rfl⟩ : ∃ k : Nat, n = k := ⟨n.toNat, by omega⟩
      have hk40 : k ≤ 40 := by omega
      rw [show powT a k = toldT (numT a ^ k) from if_pos ⟨hok, hn⟩, show powE a k = toldE (numT a ^ k) from by unfold powE; rw [if_pos hok, if_pos hn, Int.toNat_natCast]]
      have hlp : ln (numT a ^ k).natAbs ≤ 2000 := by
        rw [Int.natAbs_pow]
        have h1 := ln_pow (numT a).natAbs k
        have h2 := Nat.mul_le_mul hk40 hla
        omega
      have hto := cTold (z := numT a ^ k) hlp
      have hmod : (k : Int).tmod 2 = ((k % 2 : Nat) : Int) := by rw [tmod_nn' (by omega)]; omega
      have hcm : (((k % 2 : Nat) : Int) == 1) = decide (k % 2 = 1) := by
        by_cases h2 : k % 2 = 1
        · rw [decide_eq_true h2, beq_iff_eq]; omega
        · rw [decide_eq_false h2, beq_eq_false_iff_ne]; omega
      have hnb : nb (numT a ^ k) = .ag [.sc (.bool (decide (numT a < 0) && decide (k % 2 = 1))), ms ((numT a).natAbs ^ k)] := by
        unfold nb
        rw [pow_neg, Int.natAbs_pow]
      rw [hnb] at hto
      refine go ?_
      refine callz (cRead hok) ?_
      refine go ?_
      rw [hmod, hcm]
      refine callz (cRaised (a := (numT a).natAbs) (n := k) hk40 (by omega)) ?_
      refine go ?_
      refine callz (hto) ?_
      refine go ?_
      refine R_ret (finA [])
  · rw [show okT a = false by simpa using h, show powT a n = [] from if_neg (fun hc => h hc.1), show powE a n = 10 from if_neg h, errW_f (by simpa using h)]
    refine cnd (b := true) (fun _ => ?_) (fun h => by cases h)
    refine go ?_
    refine R_ret (finA [])
end Go.Proofs.YtglnkfpmogaifaaGreatDoor.V

/-
  package whole's own functions: Root.
-/
set_option linter.unusedSimpArgs false
set_option linter.unusedVariables false
set_option maxHeartbeats 4000000
namespace Go.Proofs.YtglnkfpmogaifaaGreatDoor.V
open Go Go.Proofs Go.RowKit Go.Lib

theorem rootEx (a : Nat) {k : Nat} (hk : 1 ≤ k) : ∃ r : Nat, r ^ k ≤ a ∧ a < (r + 1) ^ k := by
  have key : ∀ m : Nat, a < m ^ k → ∃ r : Nat, r ^ k ≤ a ∧ a < (r + 1) ^ k := by
    intro m
    induction m with
    | zero => intro h; rw [Nat.zero_pow (by omega)] at h; omega
    | succ m ih =>
      intro h
      by_cases h1 : a < m ^ k
      · exact ih h1
      · exact ⟨m, by omega, h⟩
  refine key (a + 1) ?_
  have : a + 1 ≤ (a + 1) ^ k := Nat.le_pow (by omega)
  omega
theorem root_uniq {a k r s : Nat} (hr : r ^ k ≤ a) (hr2 : a < (r + 1) ^ k) (hs : s ^ k ≤ a) (hs2 : a < (s + 1) ^ k) : r = s := by
  rcases Nat.lt_trichotomy r s with h | h | h
  · have := Nat.pow_le_pow_left (show r + 1 ≤ s by omega) k
    omega
  · exact h
  · have := Nat.pow_le_pow_left (show s + 1 ≤ r by omega) k
    omega
open Classical in
noncomputable def rootN (a k : Nat) : Nat := if h : 1 ≤ k then Classical.choose (rootEx a h) else 0
theorem rootN_spec (a : Nat) {k : Nat} (hk : 1 ≤ k) : rootN a k ^ k ≤ a ∧ a < (rootN a k + 1) ^ k := by
  unfold rootN
  rw [dif_pos hk]
  exact Classical.choose_spec (rootEx a hk)
theorem rootN_eq {a k r : Nat} (hk : 1 ≤ k) (hr : r ^ k ≤ a) (hr2 : a < (r + 1) ^ k) : rootN a k = r := root_uniq (rootN_spec a hk).1 (rootN_spec a hk).2 hr hr2
/-- Root's arguments are right. -/
def rtOk (a : List UInt8) (k : Int) : Prop := 1 ≤ k ∧ k ≤ 12 ∧ 0 ≤ numT a
instance (a : List UInt8) (k : Int) : Decidable (rtOk a k) := inferInstanceAs (Decidable (_ ∧ _))
noncomputable def rtN (a : List UInt8) (k : Int) : Int := (rootN (numT a).natAbs k.toNat : Nat)
noncomputable def rtT (a : List UInt8) (k : Int) : List UInt8 := if okT a = true ∧ rtOk a k then toldT (rtN a k) else []
noncomputable def rtE (a : List UInt8) (k : Int) : Int := if okT a = true then (if rtOk a k then toldE (rtN a k) else 2) else 10
theorem cRootW (a : List UInt8) {k : Int} (h0 : -9223372036854775808 ≤ k) (h1 : k ≤ 9223372036854775807) : Con Tryz.prog 19 [tx a, .sc (.int .i64 k)] (.tp [tx (rtT a k), .sc (.int .i64 (rtE a k))]) [] := by
  refine Con.of_body [(0, tx a), (1, .sc (.int .i64 k))] Tryz.func19 rfl ca19 33 rfl (by simp) rfl ?_; refine T_of_R ?_
  refine go ?_
  refine call (cCheck' a) ?_
  refine go ?_
  by_cases h : okT a = true
  · have hla := lnum h
    have hok := h
    rw [h]
    refine cnd (b := false) (fun h => by cases h) (fun _ => ?_)
    refine go ?_
    refine callz (cRead hok) ?_
    refine go ?_
    refine cnd (fun h => ?_) (fun h => ?_)
    · simp only [decide_eq_true_eq, decide_eq_false_iff_not, Bool.or_eq_true, Bool.and_eq_true, Bool.or_eq_false_iff, Bool.and_eq_false_iff, Bool.not_eq_true', Bool.not_eq_false', bne_iff_ne, beq_iff_eq, ne_eq, bne_eq_false_iff_eq, beq_eq_false_iff_ne, ge_iff_le, gt_iff_lt, Int.not_le, Int.not_lt] at h
      have hn : ¬ rtOk a k := fun hc => by obtain ⟨c1, c2, c3⟩ := hc; omega
      rw [show rtT a k = [] from if_neg (fun hc => hn hc.2), show rtE a k = 2 from by unfold rtE; rw [if_pos hok, if_neg hn]]
      refine go ?_
      refine R_ret (finA [])
    · simp only [decide_eq_true_eq, decide_eq_false_iff_not, Bool.or_eq_true, Bool.and_eq_true, Bool.or_eq_false_iff, Bool.and_eq_false_iff, Bool.not_eq_true', Bool.not_eq_false', bne_iff_ne, beq_iff_eq, ne_eq, bne_eq_false_iff_eq, beq_eq_false_iff_ne, ge_iff_le, gt_iff_lt, Int.not_le, Int.not_lt] at h
      have hn : rtOk a k := ⟨by omega, by omega, by omega⟩
      obtain ⟨m, rfl⟩ : ∃ m : Nat, k = m := ⟨k.toNat, by omega⟩
      have hm : 1 ≤ m ∧ m ≤ 12 := by omega
      have hrs := rootN_spec (numT a).natAbs hm.1
      have hrt : rtN a m = (rootN (numT a).natAbs m : Nat) := by unfold rtN; rw [Int.toNat_natCast]
      have hle : rootN (numT a).natAbs m ≤ (numT a).natAbs := by
        rcases Nat.eq_zero_or_pos (rootN (numT a).natAbs m) with hz | hz
        · omega
        · exact Nat.le_trans (Nat.le_pow (by omega)) hrs.1
      have hto := cTold (z := rtN a m) (by rw [hrt, Int.natAbs_natCast]; exact Nat.le_trans (dig_mono BB2 hle) (Nat.le_trans hla (by omega)))
      have hcr := cRoot (a := (numT a).natAbs) (k := m) (r := rootN (numT a).natAbs m) hm.1 hm.2 (by omega) hrs.1 hrs.2
      rw [show rtT a m = toldT (rtN a m) from if_pos ⟨hok, hn⟩, show rtE a m = toldE (rtN a m) from by unfold rtE; rw [if_pos hok, if_pos hn]]
      rw [show nb (rtN a m) = .ag [.sc (.bool false), ms (rootN (numT a).natAbs m)] from by rw [hrt]; exact nb_nat _] at hto
      refine go ?_
      refine callz (hcr) ?_
      refine go ?_
      refine callz (hto) ?_
      refine go ?_
      refine R_ret (finA [])
  · rw [show okT a = false by simpa using h, show rtT a k = [] from if_neg (fun hc => h hc.1), show rtE a k = 10 from if_neg h, errW_f (by simpa using h)]
    refine cnd (b := true) (fun _ => ?_) (fun h => by cases h)
    refine go ?_
    refine R_ret (finA [])
end Go.Proofs.YtglnkfpmogaifaaGreatDoor.V

/-
  package whole's own functions: Div.
-/
set_option linter.unusedSimpArgs false
set_option linter.unusedVariables false
set_option maxHeartbeats 4000000
namespace Go.Proofs.YtglnkfpmogaifaaGreatDoor.V
open Go Go.Proofs Go.RowKit Go.Lib

theorem itoa0 : itoa 0 = [48] := by unfold itoa; rw [if_neg (by decide), decDigits, dif_pos (by decide)]; rfl
theorem num_zero {l : List UInt8} (h : okT l = true) : l = [48] ↔ numT l = 0 := by
  constructor
  · intro e; rw [e]; rfl
  · intro e
    have := (okT_num h).1
    rw [e, itoa0] at this
    exact this.symm
theorem ba_eq48 (a : List UInt8) : ((ba a).toList == (ba [48]).toList) = decide (a = [48]) := ba_eq a [48]
/-- Div's answer. -/
def divQ (a b : List UInt8) : List UInt8 := if ok2 a b = true ∧ numT b ≠ 0 ∧ toldE (numT a / numT b) = 0 then toldT (numT a / numT b) else []
def divR (a b : List UInt8) : List UInt8 := if ok2 a b = true ∧ numT b ≠ 0 ∧ toldE (numT a / numT b) = 0 then toldT (numT a % numT b) else []
def divE (a b : List UInt8) : Int := if ok2 a b = true then (if numT b = 0 then 7 else toldE (numT a / numT b)) else 10
theorem cDiv (a b : List UInt8) : Con Tryz.prog 13 [tx a, tx b] (.tp [tx (divQ a b), tx (divR a b), .sc (.int .i64 (divE a b))]) [] := by
  refine Con.of_body [(0, tx a), (1, tx b)] Tryz.func13 rfl ca13 42 rfl (by simp) rfl ?_; refine T_of_R ?_
  refine go ?_
  refine call (cCheck' a) ?_
  refine go ?_
  refine callg (fun hg => cCheck' b) ?_
  refine go ?_
  by_cases h : ok2 a b = true
  · obtain ⟨ha, hb⟩ := ok2_t h
    have hla := lnum ha
    have hlb := lnum hb
    have hok := h
    rw [h]
    refine cnd (b := false) (fun h => by cases h) (fun _ => ?_)
    refine go ?_
    have hnz := num_zero hb
    have hl1 : ln (numT a / numT b).natAbs ≤ 2000 := Nat.le_trans (dig_mono BB2 (Int.natAbs_ediv_le_natAbs _ _)) (Nat.le_trans hla (by omega))
    refine cnd (fun h => ?_) (fun h => ?_)
    · simp only [decide_eq_true_eq, decide_eq_false_iff_not, Bool.or_eq_true, Bool.and_eq_true, Bool.or_eq_false_iff, Bool.and_eq_false_iff, Bool.not_eq_true', Bool.not_eq_false', bne_iff_ne, beq_iff_eq, ne_eq, bne_eq_false_iff_eq, beq_eq_false_iff_ne, ge_iff_le, gt_iff_lt, Int.not_le, Int.not_lt] at h
      have hz : numT b = 0 := hnz.1 (by simpa using h)
      rw [show divQ a b = [] from if_neg (fun hc => hc.2.1 hz), show divR a b = [] from if_neg (fun hc => hc.2.1 hz), show divE a b = 7 from by unfold divE; rw [if_pos hok, if_pos hz]]
      refine go ?_
      refine R_ret (finA [])
    · simp only [decide_eq_true_eq, decide_eq_false_iff_not, Bool.or_eq_true, Bool.and_eq_true, Bool.or_eq_false_iff, Bool.and_eq_false_iff, Bool.not_eq_true', Bool.not_eq_false', bne_iff_ne, beq_iff_eq, ne_eq, bne_eq_false_iff_eq, beq_eq_false_iff_ne, ge_iff_le, gt_iff_lt, Int.not_le, Int.not_lt] at h
      have hz : numT b ≠ 0 := fun e => absurd (hnz.2 e) (by simpa using h)
      have hl2 : ln (numT a % numT b).natAbs ≤ 2000 := by
        have e1 := Int.emod_nonneg (numT a) hz
        have e2 := Int.emod_lt (numT a) hz
        exact Nat.le_trans (dig_mono BB2 (show (numT a % numT b).natAbs ≤ (numT b).natAbs by omega)) (Nat.le_trans hlb (by omega))
      have hp := cParts (a := numT a) (b := numT b) hz (by omega)
      have ht1 := cTold (z := numT a / numT b) hl1
      have ht2 := cTold (z := numT a % numT b) hl2
      rw [show divE a b = toldE (numT a / numT b) from by unfold divE; rw [if_pos hok, if_neg hz]]
      refine go ?_
      refine callz (cRead ha) ?_
      refine go ?_
      refine callz (cRead hb) ?_
      refine go ?_
      refine callz (hp) ?_
      refine go ?_
      refine callz (ht1) ?_
      refine go ?_
      refine cnd (fun h => ?_) (fun h => ?_)
      · simp only [decide_eq_true_eq, decide_eq_false_iff_not, Bool.or_eq_true, Bool.and_eq_true, Bool.or_eq_false_iff, Bool.and_eq_false_iff, Bool.not_eq_true', Bool.not_eq_false', bne_iff_ne, beq_iff_eq, ne_eq, bne_eq_false_iff_eq, beq_eq_false_iff_ne, ge_iff_le, gt_iff_lt, Int.not_le, Int.not_lt] at h
        rw [show divQ a b = [] from if_neg (fun hc => h hc.2.2), show divR a b = [] from if_neg (fun hc => h hc.2.2)]
        refine go ?_
        refine R_ret (finA [])
      · simp only [decide_eq_true_eq, decide_eq_false_iff_not, Bool.or_eq_true, Bool.and_eq_true, Bool.or_eq_false_iff, Bool.and_eq_false_iff, Bool.not_eq_true', Bool.not_eq_false', bne_iff_ne, beq_iff_eq, ne_eq, bne_eq_false_iff_eq, beq_eq_false_iff_ne, ge_iff_le, gt_iff_lt, Int.not_le, Int.not_lt] at h
        rw [show divQ a b = toldT (numT a / numT b) from if_pos ⟨hok, hz, h⟩, show divR a b = toldT (numT a % numT b) from if_pos ⟨hok, hz, h⟩]
        refine go ?_
        refine callz (ht2) ?_
        refine go ?_
        refine R_ret (fin_of (ids := []) (by first | (simp (disch := (first | omega | (simp only [go_sem, ↓reduceIte, Nat.reduceEqDiff, Nat.reduceAdd, Nat.reduceMul, Nat.reduceSub, Nat.reduceLT, Nat.reduceLeDiff, Nat.reduceBNe, Nat.reduceBEq, Int.reduceToNat, Int.reduceAdd, Int.reduceSub, Int.reduceMul, Int.reduceLT, Int.reduceLE, Int.reduceNeg, Int.reduceBEq, Int.reduceBNe, Int.reduceEq, beq_self_eq_true, reduceCtorEq, decide_true, decide_false, if_pos, if_neg]; first | done | omega))) only [go_sem, ↓reduceIte, Nat.reduceEqDiff, Nat.reduceAdd, Nat.reduceMul, Nat.reduceSub, Nat.reduceLT, Nat.reduceLeDiff, Nat.reduceBNe, Nat.reduceBEq, Int.reduceToNat, Int.reduceAdd, Int.reduceSub, Int.reduceMul, Int.reduceLT, Int.reduceLE, Int.reduceNeg, Int.reduceBEq, Int.reduceBNe, Int.reduceEq, beq_self_eq_true, reduceCtorEq, decide_true, decide_false, if_pos, if_neg] <;> rfl) | fail) (by simp (disch := (first | omega | (simp only [go_sem, ↓reduceIte, Nat.reduceEqDiff, Nat.reduceAdd, Nat.reduceMul, Nat.reduceSub, Nat.reduceLT, Nat.reduceLeDiff, Nat.reduceBNe, Nat.reduceBEq, Int.reduceToNat, Int.reduceAdd, Int.reduceSub, Int.reduceMul, Int.reduceLT, Int.reduceLE, Int.reduceNeg, Int.reduceBEq, Int.reduceBNe, Int.reduceEq, beq_self_eq_true, reduceCtorEq, decide_true, decide_false, if_pos, if_neg]; first | done | omega))) only [go_sem, ↓reduceIte, Nat.reduceEqDiff, Nat.reduceAdd, Nat.reduceMul, Nat.reduceSub, Nat.reduceLT, Nat.reduceLeDiff, Nat.reduceBNe, Nat.reduceBEq, Int.reduceToNat, Int.reduceAdd, Int.reduceSub, Int.reduceMul, Int.reduceLT, Int.reduceLE, Int.reduceNeg, Int.reduceBEq, Int.reduceBNe, Int.reduceEq, beq_self_eq_true, reduceCtorEq, decide_true, decide_false, if_pos, if_neg, h]) (by decide) (by simp (disch := (first | omega | (simp only [go_sem, ↓reduceIte, Nat.reduceEqDiff, Nat.reduceAdd, Nat.reduceMul, Nat.reduceSub, Nat.reduceLT, Nat.reduceLeDiff, Nat.reduceBNe, Nat.reduceBEq, Int.reduceToNat, Int.reduceAdd, Int.reduceSub, Int.reduceMul, Int.reduceLT, Int.reduceLE, Int.reduceNeg, Int.reduceBEq, Int.reduceBNe, Int.reduceEq, beq_self_eq_true, reduceCtorEq, decide_true, decide_false, if_pos, if_neg]; first | done | omega))) only [go_sem, ↓reduceIte, Nat.reduceEqDiff, Nat.reduceAdd, Nat.reduceMul, Nat.reduceSub, Nat.reduceLT, Nat.reduceLeDiff, Nat.reduceBNe, Nat.reduceBEq, Int.reduceToNat, Int.reduceAdd, Int.reduceSub, Int.reduceMul, Int.reduceLT, Int.reduceLE, Int.reduceNeg, Int.reduceBEq, Int.reduceBNe, Int.reduceEq, beq_self_eq_true, reduceCtorEq, decide_true, decide_false, if_pos, if_neg, h]))
  · rw [show ok2 a b = false by simpa using h, show divQ a b = [] from if_neg (fun hc => h hc.1), show divR a b = [] from if_neg (fun hc => h hc.1), show divE a b = 10 from if_neg h]
    refine cnd (b := true) (fun _ => ?_) (fun h => by cases h)
    refine go ?_
    refine R_ret (finA [])
end Go.Proofs.YtglnkfpmogaifaaGreatDoor.V

/-
  The law's closures: is, says, stops, fails, parts.
-/
set_option linter.unusedSimpArgs false
set_option linter.unusedVariables false
set_option maxHeartbeats 4000000
namespace Go.Proofs.YtglnkfpmogaifaaGreatDoor.V
open Go Go.Proofs Go.RowKit Go.Lib

theorem cIs1 (w a : List UInt8) (e : Int) : Con Tryz.prog 64 [tx a, .sc (.int .i64 e), .sp [tx w] 0] (.sc (.bool (decide (a = w) && (e == 0)))) [] := by
  refine Con.of_body [(0, tx a), (1, .sc (.int .i64 e)), (2, .sp [tx w] 0)] Tryz.func64 rfl ca64 13 rfl (by simp) rfl ?_; refine T_of_R ?_
  refine go ?_
  refine R_ret (finA [])
theorem cIs (w : List UInt8) : Con Tryz.prog 33 [tx w] (.fn (.func 64) [] [.pt 0 0]) [⟨[tx w], 27, 0, false⟩] := by
  refine Con.of_body [(0, tx w)] Tryz.func33 rfl ca33 4 rfl (by simp) rfl ?_; refine T_of_R ?_
  refine go ?_
  refine R_ret (finA [0])
theorem cSays1 (w a e : Int) : Con Tryz.prog 54 [.sc (.int .i64 a), .sc (.int .i64 e), .sp [.sc (.int .i64 w)] 0] (.sc (.bool ((a == w) && (e == 0)))) [] := by
  refine Con.of_body [(0, .sc (.int .i64 a)), (1, .sc (.int .i64 e)), (2, .sp [.sc (.int .i64 w)] 0)] Tryz.func54 rfl ca54 13 rfl (by simp) rfl ?_; refine T_of_R ?_
  refine go ?_
  refine R_ret (finA [])
theorem cSays (w : Int) : Con Tryz.prog 22 [.sc (.int .i64 w)] (.fn (.func 54) [] [.pt 0 0]) [⟨[.sc (.int .i64 w)], 3, 0, false⟩] := by
  refine Con.of_body [(0, .sc (.int .i64 w))] Tryz.func22 rfl ca22 4 rfl (by simp) rfl ?_; refine T_of_R ?_
  refine go ?_
  refine R_ret (finA [0])
theorem cStops1 (w a e : Int) : Con Tryz.prog 63 [.sc (.int .i64 a), .sc (.int .i64 e), .sp [.sc (.int .i64 w)] 0] (.sc (.bool ((a == 0) && (e == w)))) [] := by
  refine Con.of_body [(0, .sc (.int .i64 a)), (1, .sc (.int .i64 e)), (2, .sp [.sc (.int .i64 w)] 0)] Tryz.func63 rfl ca63 13 rfl (by simp) rfl ?_; refine T_of_R ?_
  refine go ?_
  refine R_ret (finA [])
theorem cStops (w : Int) : Con Tryz.prog 32 [.sc (.int .i64 w)] (.fn (.func 63) [] [.pt 0 0]) [⟨[.sc (.int .i64 w)], 29, 0, false⟩] := by
  refine Con.of_body [(0, .sc (.int .i64 w))] Tryz.func32 rfl ca32 4 rfl (by simp) rfl ?_; refine T_of_R ?_
  refine go ?_
  refine R_ret (finA [0])
theorem cFails1 (w e : Int) (a : List UInt8) : Con Tryz.prog 66 [tx a, .sc (.int .i64 e), .sp [.sc (.int .i64 w)] 0] (.sc (.bool (decide (a.length < 1) && (e == w)))) [] := by
  refine Con.of_body [(0, tx a), (1, .sc (.int .i64 e)), (2, .sp [.sc (.int .i64 w)] 0)] Tryz.func66 rfl ca66 13 rfl (by simp) rfl ?_; refine T_of_R ?_
  refine go ?_
  refine R_ret (finA [])
theorem cFails (w : Int) : Con Tryz.prog 35 [.sc (.int .i64 w)] (.fn (.func 66) [] [.pt 0 0]) [⟨[.sc (.int .i64 w)], 29, 0, false⟩] := by
  refine Con.of_body [(0, .sc (.int .i64 w))] Tryz.func35 rfl ca35 4 rfl (by simp) rfl ?_; refine T_of_R ?_
  refine go ?_
  refine R_ret (finA [0])
theorem cParts1 (q r x y : List UInt8) (e : Int) : Con Tryz.prog 65 [tx x, tx y, .sc (.int .i64 e), .sp [tx q] 0, .sp [tx r] 0] (.sc (.bool (decide (x = q) && decide (y = r) && (e == 0)))) [] := by
  refine Con.of_body [(0, tx x), (1, tx y), (2, .sc (.int .i64 e)), (3, .sp [tx q] 0), (4, .sp [tx r] 0)] Tryz.func65 rfl ca65 21 rfl (by simp) rfl ?_; refine T_of_R ?_
  refine go ?_
  refine R_ret (finA [])
theorem cPartsW (q r : List UInt8) : Con Tryz.prog 34 [tx q, tx r] (.fn (.func 65) [] [.pt 0 0, .pt 1 0]) [⟨[tx q], 27, 0, false⟩, ⟨[tx r], 27, 0, false⟩] := by
  refine Con.of_body [(0, tx q), (1, tx r)] Tryz.func34 rfl ca34 6 rfl (by simp) rfl ?_; refine T_of_R ?_
  refine go ?_
  refine R_ret (finA [0, 1])
end Go.Proofs.YtglnkfpmogaifaaGreatDoor.V

/-
  A region cut in two: what is not needed any more is forgotten midway.
-/
namespace Go.Proofs.YtglnkfpmogaifaaGreatDoor.V
open Go Go.RowKit

theorem vrun_ok2 {p : Nat} {P : Program} {ops : Array Oper} {Q : St → Prop} {ro : Option Nat} {m : Nat} {R : Exit → Act → World → Prop} {tail : List Nat} : ∀ (l : List Oper) (k : Nat) (E : Env) (X : Ctx) (st : St) (a : Act), (∀ j, j < l.length → l[j]? = ops[k + j]?) → Good E X st a → vrun P ops Q l st →
    (∀ a' w', Post p E X st Q a' w' → wpOpsIn (Fw ro) m P ops R tail a' w') → wpOpsIn (Fw ro) m P ops R (List.range' k l.length ++ tail) a X.w
  | [], k, E, X, st, a, _, hg, h, hR => hR a X.w ⟨X, st, rfl, hg, Moved.refl _ _, h⟩
  | o :: l, k, E, X, st, a, hl, hg, h, hR => by
    have h0 : ops[k]? = some o := by simpa using (hl 0 (by simp)).symm
    have hl' : ∀ j, j < l.length → l[j]? = ops[k + 1 + j]? := fun j hj => by have := hl (j + 1) (by simp; omega); simpa [Nat.add_assoc, Nat.add_comm 1 j] using this
    simp only [List.length_cons, List.range'_succ, List.cons_append, wpOpsIn, h0]
    obtain ⟨b, hw, hfit, ht, hf⟩ := h
    rw [vwant_ok hg.tr hw]
    cases b with
    | true =>
      simp only [if_true]
      obtain ⟨f, hL, hK⟩ := vdo_ok (ht rfl)
      refine Oper.wpIn_mono ?_ (hL st.s (fun _ _ => rfl) E ro m X a _ hg.sim (fun x _ => hg.ev x) (fun id h1 _ => hg.fr id h1))
      rintro a' w' ⟨Y, v, rfl, rfl, h1, h2, h3, h4⟩
      exact vrun_ok2 l (k + 1) E Y (st.eff o.dst f) (a.put o.dst v) hl' (hg.eff hfit h1 h2 h3 h4) hK fun a' w' hp => hR a' w' (Post.trans h2.moved hp)
    | false =>
      simp only [Bool.false_eq_true, if_false]
      exact ⟨fun _ _ => trivial, vrun_ok2 l (k + 1) E X (st.set o.dst (.sc undef)) (a.put o.dst undef) hl' (hg.set hfit (d := .sc undef) (v := undef) Vr_sc) (hf rfl)
        fun a' w' hp => hR a' w' (Post.trans (st' := st.set o.dst (.sc undef)) (by rw [St.set_s]; exact Moved.refl _ _) hp)⟩

section
variable {P : Program} {ro : Option (Nat × Nat)} {st : St} {Q : Exit → St → Prop} {K : St → Prop} {k : List Code} {ops : Array Oper}
/-- What the rest of a region owes. -/
def SR (P : Program) (ro : Option (Nat × Nat)) (ops : Array Oper) (K : St → Prop) (l : List Oper) (i : Nat) (st : St) : Prop :=
  ∀ (E : Env) (m : Nat) (X : Ctx) (a : Act) (R : Exit → Act → World → Prop), (∀ j, l[j]? = ops[i + j]?) → Good E X st a → (∀ a' w', Post (pinOf ro) E X st K a' w' → R .normal a' w') → wpOpsIn (Fw (ro.map (·.1))) m P ops R (List.range' i l.length) a X.w
theorem SR_run {l : List Oper} {i : Nat} (h : vrun P ops K l st) : SR P ro ops K l i st := fun E m X a R hl hg hR => vrun_ok l i E X st a hl hg h hR
theorem SR_cut (n : Nat) {l l1 l2 : List Oper} {i : Nat} (h1 : l.take n = l1) (h2 : l.drop n = l2) (hn : Nat.ble n l.length = true) (h : vrun P ops (fun s => ∃ ids s', LessP ro s ids s' ∧ SR P ro ops K l2 (i + n) s') l1 st) : SR P ro ops K l i st := by
  intro E m X a R hl hg hR
  have hn' := Nat.le_of_ble_eq_true hn
  have e1 : l1.length = n := by rw [← h1]; simp; omega
  have e2 : l2.length = l.length - n := by rw [← h2]; simp
  have hcat : List.range' i l.length = List.range' i l1.length ++ List.range' (i + n) l2.length := by
    rw [show l.length = n + (l.length - n) by omega, ← List.range'_append_1, e1, e2]
  rw [hcat]
  refine vrun_ok2 (p := pinOf ro) l1 i E X st a (fun j hj => by rw [← hl j, ← h1, List.getElem?_take, if_pos (by omega)]) hg h fun a' w' hp => ?_
  obtain ⟨Y, s, rfl, hg', hm, ids, s', hL, hS⟩ := hp
  obtain ⟨hL1, hpin⟩ := hL.less
  refine hS E m { Y with μ := fun i => (ids[i]?).bind Y.μ } a' R (fun j => ?_) (hg'.less hL1) fun a'' w'' hp => hR a'' w'' (Post.trans (hm.trans (hL1.moved hg' hpin)) hp)
  rw [← h2, List.getElem?_drop, hl, Nat.add_assoc]
theorem SR_less {l : List Oper} {i : Nat} {ids : List Nat} {st' : St} (hL : LessP ro st ids st') (h : SR P ro ops K l i st') : ∃ ids s', LessP ro st ids s' ∧ SR P ro ops K l i s' := ⟨ids, st', hL, h⟩
theorem R_regionS {id : Nat} {l : List Oper} (h : SR P ro l.toArray (fun s => R P ro k s Q) l 0 st) : R P ro (.region id l.toArray false :: k) st Q := by
  intro E m X a hg
  refine wpIn_region ?_
  rw [List.range_eq_range', show l.toArray.size = l.length by simp]
  exact h E m X a _ (by simp) hg fun _ _ hp => hp
end
end Go.Proofs.YtglnkfpmogaifaaGreatDoor.V

