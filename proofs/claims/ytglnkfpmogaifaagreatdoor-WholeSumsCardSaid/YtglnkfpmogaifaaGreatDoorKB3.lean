/-
  The steps of a walk, as theorems whose last argument is found.
-/
import Derived.Test.YtglnkfpmogaifaaGreatDoorKB2
set_option linter.unusedSimpArgs false
set_option linter.unusedVariables false
namespace Go.Proofs.YtglnkfpmogaifaaGreatDoor.V
open Go Go.RowKit

theorem go {p q : Prop} (hq : q) (h : q → p := by
  intro hgo
  repeat (first
    | refine R_seq ?_ | refine R_region ?_ | refine vs_nil ?_ | refine R_skip ?_ | refine R_nilB ?_ | refine R_exitB ?_ | refine R_exitR ?_ | refine R_block ?_
    | refine R_drawA (by kernel_rfl) (by kernel_rfl) ?_ | refine va_nil ⟨by kernel_rfl, ?_⟩
    | refine vs_val (by first | (simp (disch := (first | omega | (simp only [go_sem, ↓reduceIte, Nat.reduceEqDiff, Nat.reduceAdd, Nat.reduceMul, Nat.reduceSub, Nat.reduceLT, Nat.reduceLeDiff, Nat.reduceBNe, Nat.reduceBEq, Int.reduceToNat, Int.reduceAdd, Int.reduceSub, Int.reduceMul, Int.reduceLT, Int.reduceLE, Int.reduceNeg, Int.reduceBEq, Int.reduceBNe, Int.reduceEq, beq_self_eq_true, reduceCtorEq, decide_true, decide_false, if_pos, if_neg]; first | done | omega))) only [go_sem, ↓reduceIte, Nat.reduceEqDiff, Nat.reduceAdd, Nat.reduceMul, Nat.reduceSub, Nat.reduceLT, Nat.reduceLeDiff, Nat.reduceBNe, Nat.reduceBEq, Int.reduceToNat, Int.reduceAdd, Int.reduceSub, Int.reduceMul, Int.reduceLT, Int.reduceLE, Int.reduceNeg, Int.reduceBEq, Int.reduceBNe, Int.reduceEq, beq_self_eq_true, reduceCtorEq, decide_true, decide_false, if_pos, if_neg] <;> rfl) | fail) (by decide) ?_ | refine va_val (by first | (simp (disch := (first | omega | (simp only [go_sem, ↓reduceIte, Nat.reduceEqDiff, Nat.reduceAdd, Nat.reduceMul, Nat.reduceSub, Nat.reduceLT, Nat.reduceLeDiff, Nat.reduceBNe, Nat.reduceBEq, Int.reduceToNat, Int.reduceAdd, Int.reduceSub, Int.reduceMul, Int.reduceLT, Int.reduceLE, Int.reduceNeg, Int.reduceBEq, Int.reduceBNe, Int.reduceEq, beq_self_eq_true, reduceCtorEq, decide_true, decide_false, if_pos, if_neg]; first | done | omega))) only [go_sem, ↓reduceIte, Nat.reduceEqDiff, Nat.reduceAdd, Nat.reduceMul, Nat.reduceSub, Nat.reduceLT, Nat.reduceLeDiff, Nat.reduceBNe, Nat.reduceBEq, Int.reduceToNat, Int.reduceAdd, Int.reduceSub, Int.reduceMul, Int.reduceLT, Int.reduceLE, Int.reduceNeg, Int.reduceBEq, Int.reduceBNe, Int.reduceEq, beq_self_eq_true, reduceCtorEq, decide_true, decide_false, if_pos, if_neg] <;> rfl) | fail) (by decide) ?_
    | refine vs_store (by first | (simp (disch := (first | omega | (simp only [go_sem, ↓reduceIte, Nat.reduceEqDiff, Nat.reduceAdd, Nat.reduceMul, Nat.reduceSub, Nat.reduceLT, Nat.reduceLeDiff, Nat.reduceBNe, Nat.reduceBEq, Int.reduceToNat, Int.reduceAdd, Int.reduceSub, Int.reduceMul, Int.reduceLT, Int.reduceLE, Int.reduceNeg, Int.reduceBEq, Int.reduceBNe, Int.reduceEq, beq_self_eq_true, reduceCtorEq, decide_true, decide_false, if_pos, if_neg]; first | done | omega))) only [go_sem, ↓reduceIte, Nat.reduceEqDiff, Nat.reduceAdd, Nat.reduceMul, Nat.reduceSub, Nat.reduceLT, Nat.reduceLeDiff, Nat.reduceBNe, Nat.reduceBEq, Int.reduceToNat, Int.reduceAdd, Int.reduceSub, Int.reduceMul, Int.reduceLT, Int.reduceLE, Int.reduceNeg, Int.reduceBEq, Int.reduceBNe, Int.reduceEq, beq_self_eq_true, reduceCtorEq, decide_true, decide_false, if_pos, if_neg] <;> rfl) | fail) ?_ | refine va_store (by first | (simp (disch := (first | omega | (simp only [go_sem, ↓reduceIte, Nat.reduceEqDiff, Nat.reduceAdd, Nat.reduceMul, Nat.reduceSub, Nat.reduceLT, Nat.reduceLeDiff, Nat.reduceBNe, Nat.reduceBEq, Int.reduceToNat, Int.reduceAdd, Int.reduceSub, Int.reduceMul, Int.reduceLT, Int.reduceLE, Int.reduceNeg, Int.reduceBEq, Int.reduceBNe, Int.reduceEq, beq_self_eq_true, reduceCtorEq, decide_true, decide_false, if_pos, if_neg]; first | done | omega))) only [go_sem, ↓reduceIte, Nat.reduceEqDiff, Nat.reduceAdd, Nat.reduceMul, Nat.reduceSub, Nat.reduceLT, Nat.reduceLeDiff, Nat.reduceBNe, Nat.reduceBEq, Int.reduceToNat, Int.reduceAdd, Int.reduceSub, Int.reduceMul, Int.reduceLT, Int.reduceLE, Int.reduceNeg, Int.reduceBEq, Int.reduceBNe, Int.reduceEq, beq_self_eq_true, reduceCtorEq, decide_true, decide_false, if_pos, if_neg] <;> rfl) | fail) ?_
    | refine vs_new (by first | (simp (disch := (first | omega | (simp only [go_sem, ↓reduceIte, Nat.reduceEqDiff, Nat.reduceAdd, Nat.reduceMul, Nat.reduceSub, Nat.reduceLT, Nat.reduceLeDiff, Nat.reduceBNe, Nat.reduceBEq, Int.reduceToNat, Int.reduceAdd, Int.reduceSub, Int.reduceMul, Int.reduceLT, Int.reduceLE, Int.reduceNeg, Int.reduceBEq, Int.reduceBNe, Int.reduceEq, beq_self_eq_true, reduceCtorEq, decide_true, decide_false, if_pos, if_neg]; first | done | omega))) only [go_sem, ↓reduceIte, Nat.reduceEqDiff, Nat.reduceAdd, Nat.reduceMul, Nat.reduceSub, Nat.reduceLT, Nat.reduceLeDiff, Nat.reduceBNe, Nat.reduceBEq, Int.reduceToNat, Int.reduceAdd, Int.reduceSub, Int.reduceMul, Int.reduceLT, Int.reduceLE, Int.reduceNeg, Int.reduceBEq, Int.reduceBNe, Int.reduceEq, beq_self_eq_true, reduceCtorEq, decide_true, decide_false, if_pos, if_neg] <;> rfl) | fail) (by decide) (by first | (simp (disch := (first | omega | (simp only [go_sem, ↓reduceIte, Nat.reduceEqDiff, Nat.reduceAdd, Nat.reduceMul, Nat.reduceSub, Nat.reduceLT, Nat.reduceLeDiff, Nat.reduceBNe, Nat.reduceBEq, Int.reduceToNat, Int.reduceAdd, Int.reduceSub, Int.reduceMul, Int.reduceLT, Int.reduceLE, Int.reduceNeg, Int.reduceBEq, Int.reduceBNe, Int.reduceEq, beq_self_eq_true, reduceCtorEq, decide_true, decide_false, if_pos, if_neg]; first | done | omega))) only [go_sem, ↓reduceIte, Nat.reduceEqDiff, Nat.reduceAdd, Nat.reduceMul, Nat.reduceSub, Nat.reduceLT, Nat.reduceLeDiff, Nat.reduceBNe, Nat.reduceBEq, Int.reduceToNat, Int.reduceAdd, Int.reduceSub, Int.reduceMul, Int.reduceLT, Int.reduceLE, Int.reduceNeg, Int.reduceBEq, Int.reduceBNe, Int.reduceEq, beq_self_eq_true, reduceCtorEq, decide_true, decide_false, if_pos, if_neg] <;> rfl) | fail) ?_ | refine va_new (by first | (simp (disch := (first | omega | (simp only [go_sem, ↓reduceIte, Nat.reduceEqDiff, Nat.reduceAdd, Nat.reduceMul, Nat.reduceSub, Nat.reduceLT, Nat.reduceLeDiff, Nat.reduceBNe, Nat.reduceBEq, Int.reduceToNat, Int.reduceAdd, Int.reduceSub, Int.reduceMul, Int.reduceLT, Int.reduceLE, Int.reduceNeg, Int.reduceBEq, Int.reduceBNe, Int.reduceEq, beq_self_eq_true, reduceCtorEq, decide_true, decide_false, if_pos, if_neg]; first | done | omega))) only [go_sem, ↓reduceIte, Nat.reduceEqDiff, Nat.reduceAdd, Nat.reduceMul, Nat.reduceSub, Nat.reduceLT, Nat.reduceLeDiff, Nat.reduceBNe, Nat.reduceBEq, Int.reduceToNat, Int.reduceAdd, Int.reduceSub, Int.reduceMul, Int.reduceLT, Int.reduceLE, Int.reduceNeg, Int.reduceBEq, Int.reduceBNe, Int.reduceEq, beq_self_eq_true, reduceCtorEq, decide_true, decide_false, if_pos, if_neg] <;> rfl) | fail) (by decide) (by first | (simp (disch := (first | omega | (simp only [go_sem, ↓reduceIte, Nat.reduceEqDiff, Nat.reduceAdd, Nat.reduceMul, Nat.reduceSub, Nat.reduceLT, Nat.reduceLeDiff, Nat.reduceBNe, Nat.reduceBEq, Int.reduceToNat, Int.reduceAdd, Int.reduceSub, Int.reduceMul, Int.reduceLT, Int.reduceLE, Int.reduceNeg, Int.reduceBEq, Int.reduceBNe, Int.reduceEq, beq_self_eq_true, reduceCtorEq, decide_true, decide_false, if_pos, if_neg]; first | done | omega))) only [go_sem, ↓reduceIte, Nat.reduceEqDiff, Nat.reduceAdd, Nat.reduceMul, Nat.reduceSub, Nat.reduceLT, Nat.reduceLeDiff, Nat.reduceBNe, Nat.reduceBEq, Int.reduceToNat, Int.reduceAdd, Int.reduceSub, Int.reduceMul, Int.reduceLT, Int.reduceLE, Int.reduceNeg, Int.reduceBEq, Int.reduceBNe, Int.reduceEq, beq_self_eq_true, reduceCtorEq, decide_true, decide_false, if_pos, if_neg] <;> rfl) | fail) ?_
    | refine vs_app (by first | (simp (disch := (first | omega | (simp only [go_sem, ↓reduceIte, Nat.reduceEqDiff, Nat.reduceAdd, Nat.reduceMul, Nat.reduceSub, Nat.reduceLT, Nat.reduceLeDiff, Nat.reduceBNe, Nat.reduceBEq, Int.reduceToNat, Int.reduceAdd, Int.reduceSub, Int.reduceMul, Int.reduceLT, Int.reduceLE, Int.reduceNeg, Int.reduceBEq, Int.reduceBNe, Int.reduceEq, beq_self_eq_true, reduceCtorEq, decide_true, decide_false, if_pos, if_neg]; first | done | omega))) only [go_sem, ↓reduceIte, Nat.reduceEqDiff, Nat.reduceAdd, Nat.reduceMul, Nat.reduceSub, Nat.reduceLT, Nat.reduceLeDiff, Nat.reduceBNe, Nat.reduceBEq, Int.reduceToNat, Int.reduceAdd, Int.reduceSub, Int.reduceMul, Int.reduceLT, Int.reduceLE, Int.reduceNeg, Int.reduceBEq, Int.reduceBNe, Int.reduceEq, beq_self_eq_true, reduceCtorEq, decide_true, decide_false, if_pos, if_neg] <;> rfl) | fail) (by simp only [apSrc, srt66, srt77]) (by decide) (by first | (simp (disch := (first | omega | (simp only [go_sem, ↓reduceIte, Nat.reduceEqDiff, Nat.reduceAdd, Nat.reduceMul, Nat.reduceSub, Nat.reduceLT, Nat.reduceLeDiff, Nat.reduceBNe, Nat.reduceBEq, Int.reduceToNat, Int.reduceAdd, Int.reduceSub, Int.reduceMul, Int.reduceLT, Int.reduceLE, Int.reduceNeg, Int.reduceBEq, Int.reduceBNe, Int.reduceEq, beq_self_eq_true, reduceCtorEq, decide_true, decide_false, if_pos, if_neg]; first | done | omega))) only [go_sem, ↓reduceIte, Nat.reduceEqDiff, Nat.reduceAdd, Nat.reduceMul, Nat.reduceSub, Nat.reduceLT, Nat.reduceLeDiff, Nat.reduceBNe, Nat.reduceBEq, Int.reduceToNat, Int.reduceAdd, Int.reduceSub, Int.reduceMul, Int.reduceLT, Int.reduceLE, Int.reduceNeg, Int.reduceBEq, Int.reduceBNe, Int.reduceEq, beq_self_eq_true, reduceCtorEq, decide_true, decide_false, if_pos, if_neg] <;> rfl) | fail) (by first | (simp (disch := (first | omega | (simp only [go_sem, ↓reduceIte, Nat.reduceEqDiff, Nat.reduceAdd, Nat.reduceMul, Nat.reduceSub, Nat.reduceLT, Nat.reduceLeDiff, Nat.reduceBNe, Nat.reduceBEq, Int.reduceToNat, Int.reduceAdd, Int.reduceSub, Int.reduceMul, Int.reduceLT, Int.reduceLE, Int.reduceNeg, Int.reduceBEq, Int.reduceBNe, Int.reduceEq, beq_self_eq_true, reduceCtorEq, decide_true, decide_false, if_pos, if_neg]; first | done | omega))) only [go_sem, ↓reduceIte, Nat.reduceEqDiff, Nat.reduceAdd, Nat.reduceMul, Nat.reduceSub, Nat.reduceLT, Nat.reduceLeDiff, Nat.reduceBNe, Nat.reduceBEq, Int.reduceToNat, Int.reduceAdd, Int.reduceSub, Int.reduceMul, Int.reduceLT, Int.reduceLE, Int.reduceNeg, Int.reduceBEq, Int.reduceBNe, Int.reduceEq, beq_self_eq_true, reduceCtorEq, decide_true, decide_false, if_pos, if_neg] <;> rfl) | fail) ?_ | refine va_app (by first | (simp (disch := (first | omega | (simp only [go_sem, ↓reduceIte, Nat.reduceEqDiff, Nat.reduceAdd, Nat.reduceMul, Nat.reduceSub, Nat.reduceLT, Nat.reduceLeDiff, Nat.reduceBNe, Nat.reduceBEq, Int.reduceToNat, Int.reduceAdd, Int.reduceSub, Int.reduceMul, Int.reduceLT, Int.reduceLE, Int.reduceNeg, Int.reduceBEq, Int.reduceBNe, Int.reduceEq, beq_self_eq_true, reduceCtorEq, decide_true, decide_false, if_pos, if_neg]; first | done | omega))) only [go_sem, ↓reduceIte, Nat.reduceEqDiff, Nat.reduceAdd, Nat.reduceMul, Nat.reduceSub, Nat.reduceLT, Nat.reduceLeDiff, Nat.reduceBNe, Nat.reduceBEq, Int.reduceToNat, Int.reduceAdd, Int.reduceSub, Int.reduceMul, Int.reduceLT, Int.reduceLE, Int.reduceNeg, Int.reduceBEq, Int.reduceBNe, Int.reduceEq, beq_self_eq_true, reduceCtorEq, decide_true, decide_false, if_pos, if_neg] <;> rfl) | fail) (by simp only [apSrc, srt66, srt77]) (by decide) (by first | (simp (disch := (first | omega | (simp only [go_sem, ↓reduceIte, Nat.reduceEqDiff, Nat.reduceAdd, Nat.reduceMul, Nat.reduceSub, Nat.reduceLT, Nat.reduceLeDiff, Nat.reduceBNe, Nat.reduceBEq, Int.reduceToNat, Int.reduceAdd, Int.reduceSub, Int.reduceMul, Int.reduceLT, Int.reduceLE, Int.reduceNeg, Int.reduceBEq, Int.reduceBNe, Int.reduceEq, beq_self_eq_true, reduceCtorEq, decide_true, decide_false, if_pos, if_neg]; first | done | omega))) only [go_sem, ↓reduceIte, Nat.reduceEqDiff, Nat.reduceAdd, Nat.reduceMul, Nat.reduceSub, Nat.reduceLT, Nat.reduceLeDiff, Nat.reduceBNe, Nat.reduceBEq, Int.reduceToNat, Int.reduceAdd, Int.reduceSub, Int.reduceMul, Int.reduceLT, Int.reduceLE, Int.reduceNeg, Int.reduceBEq, Int.reduceBNe, Int.reduceEq, beq_self_eq_true, reduceCtorEq, decide_true, decide_false, if_pos, if_neg] <;> rfl) | fail) (by first | (simp (disch := (first | omega | (simp only [go_sem, ↓reduceIte, Nat.reduceEqDiff, Nat.reduceAdd, Nat.reduceMul, Nat.reduceSub, Nat.reduceLT, Nat.reduceLeDiff, Nat.reduceBNe, Nat.reduceBEq, Int.reduceToNat, Int.reduceAdd, Int.reduceSub, Int.reduceMul, Int.reduceLT, Int.reduceLE, Int.reduceNeg, Int.reduceBEq, Int.reduceBNe, Int.reduceEq, beq_self_eq_true, reduceCtorEq, decide_true, decide_false, if_pos, if_neg]; first | done | omega))) only [go_sem, ↓reduceIte, Nat.reduceEqDiff, Nat.reduceAdd, Nat.reduceMul, Nat.reduceSub, Nat.reduceLT, Nat.reduceLeDiff, Nat.reduceBNe, Nat.reduceBEq, Int.reduceToNat, Int.reduceAdd, Int.reduceSub, Int.reduceMul, Int.reduceLT, Int.reduceLE, Int.reduceNeg, Int.reduceBEq, Int.reduceBNe, Int.reduceEq, beq_self_eq_true, reduceCtorEq, decide_true, decide_false, if_pos, if_neg] <;> rfl) | fail) ?_
    | refine vg_val rfl (by first | (simp (disch := (first | omega | (simp only [go_sem, ↓reduceIte, Nat.reduceEqDiff, Nat.reduceAdd, Nat.reduceMul, Nat.reduceSub, Nat.reduceLT, Nat.reduceLeDiff, Nat.reduceBNe, Nat.reduceBEq, Int.reduceToNat, Int.reduceAdd, Int.reduceSub, Int.reduceMul, Int.reduceLT, Int.reduceLE, Int.reduceNeg, Int.reduceBEq, Int.reduceBNe, Int.reduceEq, beq_self_eq_true, reduceCtorEq, decide_true, decide_false, if_pos, if_neg]; first | done | omega))) only [go_sem, ↓reduceIte, Nat.reduceEqDiff, Nat.reduceAdd, Nat.reduceMul, Nat.reduceSub, Nat.reduceLT, Nat.reduceLeDiff, Nat.reduceBNe, Nat.reduceBEq, Int.reduceToNat, Int.reduceAdd, Int.reduceSub, Int.reduceMul, Int.reduceLT, Int.reduceLE, Int.reduceNeg, Int.reduceBEq, Int.reduceBNe, Int.reduceEq, beq_self_eq_true, reduceCtorEq, decide_true, decide_false, if_pos, if_neg] <;> rfl) | fail) (fun hg => by (try (have hg' := hg; simp only [decide_eq_true_eq, decide_eq_false_iff_not, Bool.or_eq_true, Bool.and_eq_true, Bool.or_eq_false_iff, Bool.and_eq_false_iff, Bool.not_eq_true', Bool.not_eq_false', bne_iff_ne, beq_iff_eq, ne_eq, bne_eq_false_iff_eq, beq_eq_false_iff_ne, ge_iff_le, gt_iff_lt, Int.not_le, Int.not_lt] at hg')); first | (simp (disch := (first | omega | (simp only [go_sem, ↓reduceIte, Nat.reduceEqDiff, Nat.reduceAdd, Nat.reduceMul, Nat.reduceSub, Nat.reduceLT, Nat.reduceLeDiff, Nat.reduceBNe, Nat.reduceBEq, Int.reduceToNat, Int.reduceAdd, Int.reduceSub, Int.reduceMul, Int.reduceLT, Int.reduceLE, Int.reduceNeg, Int.reduceBEq, Int.reduceBNe, Int.reduceEq, beq_self_eq_true, reduceCtorEq, decide_true, decide_false, if_pos, if_neg]; first | done | omega))) only [go_sem, ↓reduceIte, Nat.reduceEqDiff, Nat.reduceAdd, Nat.reduceMul, Nat.reduceSub, Nat.reduceLT, Nat.reduceLeDiff, Nat.reduceBNe, Nat.reduceBEq, Int.reduceToNat, Int.reduceAdd, Int.reduceSub, Int.reduceMul, Int.reduceLT, Int.reduceLE, Int.reduceNeg, Int.reduceBEq, Int.reduceBNe, Int.reduceEq, beq_self_eq_true, reduceCtorEq, decide_true, decide_false, if_pos, if_neg, hg] <;> rfl) | fail) (by decide) ?_ | refine vga_val rfl (by first | (simp (disch := (first | omega | (simp only [go_sem, ↓reduceIte, Nat.reduceEqDiff, Nat.reduceAdd, Nat.reduceMul, Nat.reduceSub, Nat.reduceLT, Nat.reduceLeDiff, Nat.reduceBNe, Nat.reduceBEq, Int.reduceToNat, Int.reduceAdd, Int.reduceSub, Int.reduceMul, Int.reduceLT, Int.reduceLE, Int.reduceNeg, Int.reduceBEq, Int.reduceBNe, Int.reduceEq, beq_self_eq_true, reduceCtorEq, decide_true, decide_false, if_pos, if_neg]; first | done | omega))) only [go_sem, ↓reduceIte, Nat.reduceEqDiff, Nat.reduceAdd, Nat.reduceMul, Nat.reduceSub, Nat.reduceLT, Nat.reduceLeDiff, Nat.reduceBNe, Nat.reduceBEq, Int.reduceToNat, Int.reduceAdd, Int.reduceSub, Int.reduceMul, Int.reduceLT, Int.reduceLE, Int.reduceNeg, Int.reduceBEq, Int.reduceBNe, Int.reduceEq, beq_self_eq_true, reduceCtorEq, decide_true, decide_false, if_pos, if_neg] <;> rfl) | fail) (fun hg => by (try (have hg' := hg; simp only [decide_eq_true_eq, decide_eq_false_iff_not, Bool.or_eq_true, Bool.and_eq_true, Bool.or_eq_false_iff, Bool.and_eq_false_iff, Bool.not_eq_true', Bool.not_eq_false', bne_iff_ne, beq_iff_eq, ne_eq, bne_eq_false_iff_eq, beq_eq_false_iff_ne, ge_iff_le, gt_iff_lt, Int.not_le, Int.not_lt] at hg')); first | (simp (disch := (first | omega | (simp only [go_sem, ↓reduceIte, Nat.reduceEqDiff, Nat.reduceAdd, Nat.reduceMul, Nat.reduceSub, Nat.reduceLT, Nat.reduceLeDiff, Nat.reduceBNe, Nat.reduceBEq, Int.reduceToNat, Int.reduceAdd, Int.reduceSub, Int.reduceMul, Int.reduceLT, Int.reduceLE, Int.reduceNeg, Int.reduceBEq, Int.reduceBNe, Int.reduceEq, beq_self_eq_true, reduceCtorEq, decide_true, decide_false, if_pos, if_neg]; first | done | omega))) only [go_sem, ↓reduceIte, Nat.reduceEqDiff, Nat.reduceAdd, Nat.reduceMul, Nat.reduceSub, Nat.reduceLT, Nat.reduceLeDiff, Nat.reduceBNe, Nat.reduceBEq, Int.reduceToNat, Int.reduceAdd, Int.reduceSub, Int.reduceMul, Int.reduceLT, Int.reduceLE, Int.reduceNeg, Int.reduceBEq, Int.reduceBNe, Int.reduceEq, beq_self_eq_true, reduceCtorEq, decide_true, decide_false, if_pos, if_neg, hg] <;> rfl) | fail) (by decide) ?_)
  exact hgo) : p := h hq
theorem gos {p q : Prop} (hq : q) (h : q → p := by
  intro hgo
  repeat (first
    | refine vs_nil ?_ | refine va_nil ⟨by kernel_rfl, ?_⟩
    | refine vs_val (by first | (simp (disch := (first | omega | (simp only [go_sem, ↓reduceIte, Nat.reduceEqDiff, Nat.reduceAdd, Nat.reduceMul, Nat.reduceSub, Nat.reduceLT, Nat.reduceLeDiff, Nat.reduceBNe, Nat.reduceBEq, Int.reduceToNat, Int.reduceAdd, Int.reduceSub, Int.reduceMul, Int.reduceLT, Int.reduceLE, Int.reduceNeg, Int.reduceBEq, Int.reduceBNe, Int.reduceEq, beq_self_eq_true, reduceCtorEq, decide_true, decide_false, if_pos, if_neg]; first | done | omega))) only [go_sem, ↓reduceIte, Nat.reduceEqDiff, Nat.reduceAdd, Nat.reduceMul, Nat.reduceSub, Nat.reduceLT, Nat.reduceLeDiff, Nat.reduceBNe, Nat.reduceBEq, Int.reduceToNat, Int.reduceAdd, Int.reduceSub, Int.reduceMul, Int.reduceLT, Int.reduceLE, Int.reduceNeg, Int.reduceBEq, Int.reduceBNe, Int.reduceEq, beq_self_eq_true, reduceCtorEq, decide_true, decide_false, if_pos, if_neg] <;> rfl) | fail) (by decide) ?_ | refine va_val (by first | (simp (disch := (first | omega | (simp only [go_sem, ↓reduceIte, Nat.reduceEqDiff, Nat.reduceAdd, Nat.reduceMul, Nat.reduceSub, Nat.reduceLT, Nat.reduceLeDiff, Nat.reduceBNe, Nat.reduceBEq, Int.reduceToNat, Int.reduceAdd, Int.reduceSub, Int.reduceMul, Int.reduceLT, Int.reduceLE, Int.reduceNeg, Int.reduceBEq, Int.reduceBNe, Int.reduceEq, beq_self_eq_true, reduceCtorEq, decide_true, decide_false, if_pos, if_neg]; first | done | omega))) only [go_sem, ↓reduceIte, Nat.reduceEqDiff, Nat.reduceAdd, Nat.reduceMul, Nat.reduceSub, Nat.reduceLT, Nat.reduceLeDiff, Nat.reduceBNe, Nat.reduceBEq, Int.reduceToNat, Int.reduceAdd, Int.reduceSub, Int.reduceMul, Int.reduceLT, Int.reduceLE, Int.reduceNeg, Int.reduceBEq, Int.reduceBNe, Int.reduceEq, beq_self_eq_true, reduceCtorEq, decide_true, decide_false, if_pos, if_neg] <;> rfl) | fail) (by decide) ?_
    | refine vs_store (by first | (simp (disch := (first | omega | (simp only [go_sem, ↓reduceIte, Nat.reduceEqDiff, Nat.reduceAdd, Nat.reduceMul, Nat.reduceSub, Nat.reduceLT, Nat.reduceLeDiff, Nat.reduceBNe, Nat.reduceBEq, Int.reduceToNat, Int.reduceAdd, Int.reduceSub, Int.reduceMul, Int.reduceLT, Int.reduceLE, Int.reduceNeg, Int.reduceBEq, Int.reduceBNe, Int.reduceEq, beq_self_eq_true, reduceCtorEq, decide_true, decide_false, if_pos, if_neg]; first | done | omega))) only [go_sem, ↓reduceIte, Nat.reduceEqDiff, Nat.reduceAdd, Nat.reduceMul, Nat.reduceSub, Nat.reduceLT, Nat.reduceLeDiff, Nat.reduceBNe, Nat.reduceBEq, Int.reduceToNat, Int.reduceAdd, Int.reduceSub, Int.reduceMul, Int.reduceLT, Int.reduceLE, Int.reduceNeg, Int.reduceBEq, Int.reduceBNe, Int.reduceEq, beq_self_eq_true, reduceCtorEq, decide_true, decide_false, if_pos, if_neg] <;> rfl) | fail) ?_ | refine va_store (by first | (simp (disch := (first | omega | (simp only [go_sem, ↓reduceIte, Nat.reduceEqDiff, Nat.reduceAdd, Nat.reduceMul, Nat.reduceSub, Nat.reduceLT, Nat.reduceLeDiff, Nat.reduceBNe, Nat.reduceBEq, Int.reduceToNat, Int.reduceAdd, Int.reduceSub, Int.reduceMul, Int.reduceLT, Int.reduceLE, Int.reduceNeg, Int.reduceBEq, Int.reduceBNe, Int.reduceEq, beq_self_eq_true, reduceCtorEq, decide_true, decide_false, if_pos, if_neg]; first | done | omega))) only [go_sem, ↓reduceIte, Nat.reduceEqDiff, Nat.reduceAdd, Nat.reduceMul, Nat.reduceSub, Nat.reduceLT, Nat.reduceLeDiff, Nat.reduceBNe, Nat.reduceBEq, Int.reduceToNat, Int.reduceAdd, Int.reduceSub, Int.reduceMul, Int.reduceLT, Int.reduceLE, Int.reduceNeg, Int.reduceBEq, Int.reduceBNe, Int.reduceEq, beq_self_eq_true, reduceCtorEq, decide_true, decide_false, if_pos, if_neg] <;> rfl) | fail) ?_
    | refine vs_new (by first | (simp (disch := (first | omega | (simp only [go_sem, ↓reduceIte, Nat.reduceEqDiff, Nat.reduceAdd, Nat.reduceMul, Nat.reduceSub, Nat.reduceLT, Nat.reduceLeDiff, Nat.reduceBNe, Nat.reduceBEq, Int.reduceToNat, Int.reduceAdd, Int.reduceSub, Int.reduceMul, Int.reduceLT, Int.reduceLE, Int.reduceNeg, Int.reduceBEq, Int.reduceBNe, Int.reduceEq, beq_self_eq_true, reduceCtorEq, decide_true, decide_false, if_pos, if_neg]; first | done | omega))) only [go_sem, ↓reduceIte, Nat.reduceEqDiff, Nat.reduceAdd, Nat.reduceMul, Nat.reduceSub, Nat.reduceLT, Nat.reduceLeDiff, Nat.reduceBNe, Nat.reduceBEq, Int.reduceToNat, Int.reduceAdd, Int.reduceSub, Int.reduceMul, Int.reduceLT, Int.reduceLE, Int.reduceNeg, Int.reduceBEq, Int.reduceBNe, Int.reduceEq, beq_self_eq_true, reduceCtorEq, decide_true, decide_false, if_pos, if_neg] <;> rfl) | fail) (by decide) (by first | (simp (disch := (first | omega | (simp only [go_sem, ↓reduceIte, Nat.reduceEqDiff, Nat.reduceAdd, Nat.reduceMul, Nat.reduceSub, Nat.reduceLT, Nat.reduceLeDiff, Nat.reduceBNe, Nat.reduceBEq, Int.reduceToNat, Int.reduceAdd, Int.reduceSub, Int.reduceMul, Int.reduceLT, Int.reduceLE, Int.reduceNeg, Int.reduceBEq, Int.reduceBNe, Int.reduceEq, beq_self_eq_true, reduceCtorEq, decide_true, decide_false, if_pos, if_neg]; first | done | omega))) only [go_sem, ↓reduceIte, Nat.reduceEqDiff, Nat.reduceAdd, Nat.reduceMul, Nat.reduceSub, Nat.reduceLT, Nat.reduceLeDiff, Nat.reduceBNe, Nat.reduceBEq, Int.reduceToNat, Int.reduceAdd, Int.reduceSub, Int.reduceMul, Int.reduceLT, Int.reduceLE, Int.reduceNeg, Int.reduceBEq, Int.reduceBNe, Int.reduceEq, beq_self_eq_true, reduceCtorEq, decide_true, decide_false, if_pos, if_neg] <;> rfl) | fail) ?_ | refine va_new (by first | (simp (disch := (first | omega | (simp only [go_sem, ↓reduceIte, Nat.reduceEqDiff, Nat.reduceAdd, Nat.reduceMul, Nat.reduceSub, Nat.reduceLT, Nat.reduceLeDiff, Nat.reduceBNe, Nat.reduceBEq, Int.reduceToNat, Int.reduceAdd, Int.reduceSub, Int.reduceMul, Int.reduceLT, Int.reduceLE, Int.reduceNeg, Int.reduceBEq, Int.reduceBNe, Int.reduceEq, beq_self_eq_true, reduceCtorEq, decide_true, decide_false, if_pos, if_neg]; first | done | omega))) only [go_sem, ↓reduceIte, Nat.reduceEqDiff, Nat.reduceAdd, Nat.reduceMul, Nat.reduceSub, Nat.reduceLT, Nat.reduceLeDiff, Nat.reduceBNe, Nat.reduceBEq, Int.reduceToNat, Int.reduceAdd, Int.reduceSub, Int.reduceMul, Int.reduceLT, Int.reduceLE, Int.reduceNeg, Int.reduceBEq, Int.reduceBNe, Int.reduceEq, beq_self_eq_true, reduceCtorEq, decide_true, decide_false, if_pos, if_neg] <;> rfl) | fail) (by decide) (by first | (simp (disch := (first | omega | (simp only [go_sem, ↓reduceIte, Nat.reduceEqDiff, Nat.reduceAdd, Nat.reduceMul, Nat.reduceSub, Nat.reduceLT, Nat.reduceLeDiff, Nat.reduceBNe, Nat.reduceBEq, Int.reduceToNat, Int.reduceAdd, Int.reduceSub, Int.reduceMul, Int.reduceLT, Int.reduceLE, Int.reduceNeg, Int.reduceBEq, Int.reduceBNe, Int.reduceEq, beq_self_eq_true, reduceCtorEq, decide_true, decide_false, if_pos, if_neg]; first | done | omega))) only [go_sem, ↓reduceIte, Nat.reduceEqDiff, Nat.reduceAdd, Nat.reduceMul, Nat.reduceSub, Nat.reduceLT, Nat.reduceLeDiff, Nat.reduceBNe, Nat.reduceBEq, Int.reduceToNat, Int.reduceAdd, Int.reduceSub, Int.reduceMul, Int.reduceLT, Int.reduceLE, Int.reduceNeg, Int.reduceBEq, Int.reduceBNe, Int.reduceEq, beq_self_eq_true, reduceCtorEq, decide_true, decide_false, if_pos, if_neg] <;> rfl) | fail) ?_
    | refine vs_app (by first | (simp (disch := (first | omega | (simp only [go_sem, ↓reduceIte, Nat.reduceEqDiff, Nat.reduceAdd, Nat.reduceMul, Nat.reduceSub, Nat.reduceLT, Nat.reduceLeDiff, Nat.reduceBNe, Nat.reduceBEq, Int.reduceToNat, Int.reduceAdd, Int.reduceSub, Int.reduceMul, Int.reduceLT, Int.reduceLE, Int.reduceNeg, Int.reduceBEq, Int.reduceBNe, Int.reduceEq, beq_self_eq_true, reduceCtorEq, decide_true, decide_false, if_pos, if_neg]; first | done | omega))) only [go_sem, ↓reduceIte, Nat.reduceEqDiff, Nat.reduceAdd, Nat.reduceMul, Nat.reduceSub, Nat.reduceLT, Nat.reduceLeDiff, Nat.reduceBNe, Nat.reduceBEq, Int.reduceToNat, Int.reduceAdd, Int.reduceSub, Int.reduceMul, Int.reduceLT, Int.reduceLE, Int.reduceNeg, Int.reduceBEq, Int.reduceBNe, Int.reduceEq, beq_self_eq_true, reduceCtorEq, decide_true, decide_false, if_pos, if_neg] <;> rfl) | fail) (by simp only [apSrc, srt66, srt77]) (by decide) (by first | (simp (disch := (first | omega | (simp only [go_sem, ↓reduceIte, Nat.reduceEqDiff, Nat.reduceAdd, Nat.reduceMul, Nat.reduceSub, Nat.reduceLT, Nat.reduceLeDiff, Nat.reduceBNe, Nat.reduceBEq, Int.reduceToNat, Int.reduceAdd, Int.reduceSub, Int.reduceMul, Int.reduceLT, Int.reduceLE, Int.reduceNeg, Int.reduceBEq, Int.reduceBNe, Int.reduceEq, beq_self_eq_true, reduceCtorEq, decide_true, decide_false, if_pos, if_neg]; first | done | omega))) only [go_sem, ↓reduceIte, Nat.reduceEqDiff, Nat.reduceAdd, Nat.reduceMul, Nat.reduceSub, Nat.reduceLT, Nat.reduceLeDiff, Nat.reduceBNe, Nat.reduceBEq, Int.reduceToNat, Int.reduceAdd, Int.reduceSub, Int.reduceMul, Int.reduceLT, Int.reduceLE, Int.reduceNeg, Int.reduceBEq, Int.reduceBNe, Int.reduceEq, beq_self_eq_true, reduceCtorEq, decide_true, decide_false, if_pos, if_neg] <;> rfl) | fail) (by first | (simp (disch := (first | omega | (simp only [go_sem, ↓reduceIte, Nat.reduceEqDiff, Nat.reduceAdd, Nat.reduceMul, Nat.reduceSub, Nat.reduceLT, Nat.reduceLeDiff, Nat.reduceBNe, Nat.reduceBEq, Int.reduceToNat, Int.reduceAdd, Int.reduceSub, Int.reduceMul, Int.reduceLT, Int.reduceLE, Int.reduceNeg, Int.reduceBEq, Int.reduceBNe, Int.reduceEq, beq_self_eq_true, reduceCtorEq, decide_true, decide_false, if_pos, if_neg]; first | done | omega))) only [go_sem, ↓reduceIte, Nat.reduceEqDiff, Nat.reduceAdd, Nat.reduceMul, Nat.reduceSub, Nat.reduceLT, Nat.reduceLeDiff, Nat.reduceBNe, Nat.reduceBEq, Int.reduceToNat, Int.reduceAdd, Int.reduceSub, Int.reduceMul, Int.reduceLT, Int.reduceLE, Int.reduceNeg, Int.reduceBEq, Int.reduceBNe, Int.reduceEq, beq_self_eq_true, reduceCtorEq, decide_true, decide_false, if_pos, if_neg] <;> rfl) | fail) ?_ | refine va_app (by first | (simp (disch := (first | omega | (simp only [go_sem, ↓reduceIte, Nat.reduceEqDiff, Nat.reduceAdd, Nat.reduceMul, Nat.reduceSub, Nat.reduceLT, Nat.reduceLeDiff, Nat.reduceBNe, Nat.reduceBEq, Int.reduceToNat, Int.reduceAdd, Int.reduceSub, Int.reduceMul, Int.reduceLT, Int.reduceLE, Int.reduceNeg, Int.reduceBEq, Int.reduceBNe, Int.reduceEq, beq_self_eq_true, reduceCtorEq, decide_true, decide_false, if_pos, if_neg]; first | done | omega))) only [go_sem, ↓reduceIte, Nat.reduceEqDiff, Nat.reduceAdd, Nat.reduceMul, Nat.reduceSub, Nat.reduceLT, Nat.reduceLeDiff, Nat.reduceBNe, Nat.reduceBEq, Int.reduceToNat, Int.reduceAdd, Int.reduceSub, Int.reduceMul, Int.reduceLT, Int.reduceLE, Int.reduceNeg, Int.reduceBEq, Int.reduceBNe, Int.reduceEq, beq_self_eq_true, reduceCtorEq, decide_true, decide_false, if_pos, if_neg] <;> rfl) | fail) (by simp only [apSrc, srt66, srt77]) (by decide) (by first | (simp (disch := (first | omega | (simp only [go_sem, ↓reduceIte, Nat.reduceEqDiff, Nat.reduceAdd, Nat.reduceMul, Nat.reduceSub, Nat.reduceLT, Nat.reduceLeDiff, Nat.reduceBNe, Nat.reduceBEq, Int.reduceToNat, Int.reduceAdd, Int.reduceSub, Int.reduceMul, Int.reduceLT, Int.reduceLE, Int.reduceNeg, Int.reduceBEq, Int.reduceBNe, Int.reduceEq, beq_self_eq_true, reduceCtorEq, decide_true, decide_false, if_pos, if_neg]; first | done | omega))) only [go_sem, ↓reduceIte, Nat.reduceEqDiff, Nat.reduceAdd, Nat.reduceMul, Nat.reduceSub, Nat.reduceLT, Nat.reduceLeDiff, Nat.reduceBNe, Nat.reduceBEq, Int.reduceToNat, Int.reduceAdd, Int.reduceSub, Int.reduceMul, Int.reduceLT, Int.reduceLE, Int.reduceNeg, Int.reduceBEq, Int.reduceBNe, Int.reduceEq, beq_self_eq_true, reduceCtorEq, decide_true, decide_false, if_pos, if_neg] <;> rfl) | fail) (by first | (simp (disch := (first | omega | (simp only [go_sem, ↓reduceIte, Nat.reduceEqDiff, Nat.reduceAdd, Nat.reduceMul, Nat.reduceSub, Nat.reduceLT, Nat.reduceLeDiff, Nat.reduceBNe, Nat.reduceBEq, Int.reduceToNat, Int.reduceAdd, Int.reduceSub, Int.reduceMul, Int.reduceLT, Int.reduceLE, Int.reduceNeg, Int.reduceBEq, Int.reduceBNe, Int.reduceEq, beq_self_eq_true, reduceCtorEq, decide_true, decide_false, if_pos, if_neg]; first | done | omega))) only [go_sem, ↓reduceIte, Nat.reduceEqDiff, Nat.reduceAdd, Nat.reduceMul, Nat.reduceSub, Nat.reduceLT, Nat.reduceLeDiff, Nat.reduceBNe, Nat.reduceBEq, Int.reduceToNat, Int.reduceAdd, Int.reduceSub, Int.reduceMul, Int.reduceLT, Int.reduceLE, Int.reduceNeg, Int.reduceBEq, Int.reduceBNe, Int.reduceEq, beq_self_eq_true, reduceCtorEq, decide_true, decide_false, if_pos, if_neg] <;> rfl) | fail) ?_
    | refine vg_val rfl (by first | (simp (disch := (first | omega | (simp only [go_sem, ↓reduceIte, Nat.reduceEqDiff, Nat.reduceAdd, Nat.reduceMul, Nat.reduceSub, Nat.reduceLT, Nat.reduceLeDiff, Nat.reduceBNe, Nat.reduceBEq, Int.reduceToNat, Int.reduceAdd, Int.reduceSub, Int.reduceMul, Int.reduceLT, Int.reduceLE, Int.reduceNeg, Int.reduceBEq, Int.reduceBNe, Int.reduceEq, beq_self_eq_true, reduceCtorEq, decide_true, decide_false, if_pos, if_neg]; first | done | omega))) only [go_sem, ↓reduceIte, Nat.reduceEqDiff, Nat.reduceAdd, Nat.reduceMul, Nat.reduceSub, Nat.reduceLT, Nat.reduceLeDiff, Nat.reduceBNe, Nat.reduceBEq, Int.reduceToNat, Int.reduceAdd, Int.reduceSub, Int.reduceMul, Int.reduceLT, Int.reduceLE, Int.reduceNeg, Int.reduceBEq, Int.reduceBNe, Int.reduceEq, beq_self_eq_true, reduceCtorEq, decide_true, decide_false, if_pos, if_neg] <;> rfl) | fail) (fun hg => by (try (have hg' := hg; simp only [decide_eq_true_eq, decide_eq_false_iff_not, Bool.or_eq_true, Bool.and_eq_true, Bool.or_eq_false_iff, Bool.and_eq_false_iff, Bool.not_eq_true', Bool.not_eq_false', bne_iff_ne, beq_iff_eq, ne_eq, bne_eq_false_iff_eq, beq_eq_false_iff_ne, ge_iff_le, gt_iff_lt, Int.not_le, Int.not_lt] at hg')); first | (simp (disch := (first | omega | (simp only [go_sem, ↓reduceIte, Nat.reduceEqDiff, Nat.reduceAdd, Nat.reduceMul, Nat.reduceSub, Nat.reduceLT, Nat.reduceLeDiff, Nat.reduceBNe, Nat.reduceBEq, Int.reduceToNat, Int.reduceAdd, Int.reduceSub, Int.reduceMul, Int.reduceLT, Int.reduceLE, Int.reduceNeg, Int.reduceBEq, Int.reduceBNe, Int.reduceEq, beq_self_eq_true, reduceCtorEq, decide_true, decide_false, if_pos, if_neg]; first | done | omega))) only [go_sem, ↓reduceIte, Nat.reduceEqDiff, Nat.reduceAdd, Nat.reduceMul, Nat.reduceSub, Nat.reduceLT, Nat.reduceLeDiff, Nat.reduceBNe, Nat.reduceBEq, Int.reduceToNat, Int.reduceAdd, Int.reduceSub, Int.reduceMul, Int.reduceLT, Int.reduceLE, Int.reduceNeg, Int.reduceBEq, Int.reduceBNe, Int.reduceEq, beq_self_eq_true, reduceCtorEq, decide_true, decide_false, if_pos, if_neg, hg] <;> rfl) | fail) (by decide) ?_ | refine vga_val rfl (by first | (simp (disch := (first | omega | (simp only [go_sem, ↓reduceIte, Nat.reduceEqDiff, Nat.reduceAdd, Nat.reduceMul, Nat.reduceSub, Nat.reduceLT, Nat.reduceLeDiff, Nat.reduceBNe, Nat.reduceBEq, Int.reduceToNat, Int.reduceAdd, Int.reduceSub, Int.reduceMul, Int.reduceLT, Int.reduceLE, Int.reduceNeg, Int.reduceBEq, Int.reduceBNe, Int.reduceEq, beq_self_eq_true, reduceCtorEq, decide_true, decide_false, if_pos, if_neg]; first | done | omega))) only [go_sem, ↓reduceIte, Nat.reduceEqDiff, Nat.reduceAdd, Nat.reduceMul, Nat.reduceSub, Nat.reduceLT, Nat.reduceLeDiff, Nat.reduceBNe, Nat.reduceBEq, Int.reduceToNat, Int.reduceAdd, Int.reduceSub, Int.reduceMul, Int.reduceLT, Int.reduceLE, Int.reduceNeg, Int.reduceBEq, Int.reduceBNe, Int.reduceEq, beq_self_eq_true, reduceCtorEq, decide_true, decide_false, if_pos, if_neg] <;> rfl) | fail) (fun hg => by (try (have hg' := hg; simp only [decide_eq_true_eq, decide_eq_false_iff_not, Bool.or_eq_true, Bool.and_eq_true, Bool.or_eq_false_iff, Bool.and_eq_false_iff, Bool.not_eq_true', Bool.not_eq_false', bne_iff_ne, beq_iff_eq, ne_eq, bne_eq_false_iff_eq, beq_eq_false_iff_ne, ge_iff_le, gt_iff_lt, Int.not_le, Int.not_lt] at hg')); first | (simp (disch := (first | omega | (simp only [go_sem, ↓reduceIte, Nat.reduceEqDiff, Nat.reduceAdd, Nat.reduceMul, Nat.reduceSub, Nat.reduceLT, Nat.reduceLeDiff, Nat.reduceBNe, Nat.reduceBEq, Int.reduceToNat, Int.reduceAdd, Int.reduceSub, Int.reduceMul, Int.reduceLT, Int.reduceLE, Int.reduceNeg, Int.reduceBEq, Int.reduceBNe, Int.reduceEq, beq_self_eq_true, reduceCtorEq, decide_true, decide_false, if_pos, if_neg]; first | done | omega))) only [go_sem, ↓reduceIte, Nat.reduceEqDiff, Nat.reduceAdd, Nat.reduceMul, Nat.reduceSub, Nat.reduceLT, Nat.reduceLeDiff, Nat.reduceBNe, Nat.reduceBEq, Int.reduceToNat, Int.reduceAdd, Int.reduceSub, Int.reduceMul, Int.reduceLT, Int.reduceLE, Int.reduceNeg, Int.reduceBEq, Int.reduceBNe, Int.reduceEq, beq_self_eq_true, reduceCtorEq, decide_true, decide_false, if_pos, if_neg, hg] <;> rfl) | fail) (by decide) ?_)
  exact hgo) : p := h hq
theorem gon {p q : Prop} (hq : q) (h : q → p := by
  intro hgo
  repeat (first
    | refine R_seq ?_ | refine R_region ?_ | refine vs_nil ?_ | refine R_skip ?_ | refine R_nilB ?_ | refine R_exitB ?_ | refine R_exitR ?_ | refine R_block ?_
    | refine R_drawA (by kernel_rfl) (by kernel_rfl) ?_ | refine va_nil ⟨by kernel_rfl, ?_⟩
    | refine vg_on rfl (by first | (simp (disch := (first | omega | (simp only [go_sem, ↓reduceIte, Nat.reduceEqDiff, Nat.reduceAdd, Nat.reduceMul, Nat.reduceSub, Nat.reduceLT, Nat.reduceLeDiff, Nat.reduceBNe, Nat.reduceBEq, Int.reduceToNat, Int.reduceAdd, Int.reduceSub, Int.reduceMul, Int.reduceLT, Int.reduceLE, Int.reduceNeg, Int.reduceBEq, Int.reduceBNe, Int.reduceEq, beq_self_eq_true, reduceCtorEq, decide_true, decide_false, if_pos, if_neg]; first | done | omega))) only [go_sem, ↓reduceIte, Nat.reduceEqDiff, Nat.reduceAdd, Nat.reduceMul, Nat.reduceSub, Nat.reduceLT, Nat.reduceLeDiff, Nat.reduceBNe, Nat.reduceBEq, Int.reduceToNat, Int.reduceAdd, Int.reduceSub, Int.reduceMul, Int.reduceLT, Int.reduceLE, Int.reduceNeg, Int.reduceBEq, Int.reduceBNe, Int.reduceEq, beq_self_eq_true, reduceCtorEq, decide_true, decide_false, if_pos, if_neg] <;> rfl) | fail) ?_ | refine vga_on rfl (by first | (simp (disch := (first | omega | (simp only [go_sem, ↓reduceIte, Nat.reduceEqDiff, Nat.reduceAdd, Nat.reduceMul, Nat.reduceSub, Nat.reduceLT, Nat.reduceLeDiff, Nat.reduceBNe, Nat.reduceBEq, Int.reduceToNat, Int.reduceAdd, Int.reduceSub, Int.reduceMul, Int.reduceLT, Int.reduceLE, Int.reduceNeg, Int.reduceBEq, Int.reduceBNe, Int.reduceEq, beq_self_eq_true, reduceCtorEq, decide_true, decide_false, if_pos, if_neg]; first | done | omega))) only [go_sem, ↓reduceIte, Nat.reduceEqDiff, Nat.reduceAdd, Nat.reduceMul, Nat.reduceSub, Nat.reduceLT, Nat.reduceLeDiff, Nat.reduceBNe, Nat.reduceBEq, Int.reduceToNat, Int.reduceAdd, Int.reduceSub, Int.reduceMul, Int.reduceLT, Int.reduceLE, Int.reduceNeg, Int.reduceBEq, Int.reduceBNe, Int.reduceEq, beq_self_eq_true, reduceCtorEq, decide_true, decide_false, if_pos, if_neg] <;> rfl) | fail) ?_
    | refine vs_val (by first | (simp (disch := (first | omega | (simp only [go_sem, ↓reduceIte, Nat.reduceEqDiff, Nat.reduceAdd, Nat.reduceMul, Nat.reduceSub, Nat.reduceLT, Nat.reduceLeDiff, Nat.reduceBNe, Nat.reduceBEq, Int.reduceToNat, Int.reduceAdd, Int.reduceSub, Int.reduceMul, Int.reduceLT, Int.reduceLE, Int.reduceNeg, Int.reduceBEq, Int.reduceBNe, Int.reduceEq, beq_self_eq_true, reduceCtorEq, decide_true, decide_false, if_pos, if_neg]; first | done | omega))) only [go_sem, ↓reduceIte, Nat.reduceEqDiff, Nat.reduceAdd, Nat.reduceMul, Nat.reduceSub, Nat.reduceLT, Nat.reduceLeDiff, Nat.reduceBNe, Nat.reduceBEq, Int.reduceToNat, Int.reduceAdd, Int.reduceSub, Int.reduceMul, Int.reduceLT, Int.reduceLE, Int.reduceNeg, Int.reduceBEq, Int.reduceBNe, Int.reduceEq, beq_self_eq_true, reduceCtorEq, decide_true, decide_false, if_pos, if_neg] <;> rfl) | fail) (by decide) ?_ | refine va_val (by first | (simp (disch := (first | omega | (simp only [go_sem, ↓reduceIte, Nat.reduceEqDiff, Nat.reduceAdd, Nat.reduceMul, Nat.reduceSub, Nat.reduceLT, Nat.reduceLeDiff, Nat.reduceBNe, Nat.reduceBEq, Int.reduceToNat, Int.reduceAdd, Int.reduceSub, Int.reduceMul, Int.reduceLT, Int.reduceLE, Int.reduceNeg, Int.reduceBEq, Int.reduceBNe, Int.reduceEq, beq_self_eq_true, reduceCtorEq, decide_true, decide_false, if_pos, if_neg]; first | done | omega))) only [go_sem, ↓reduceIte, Nat.reduceEqDiff, Nat.reduceAdd, Nat.reduceMul, Nat.reduceSub, Nat.reduceLT, Nat.reduceLeDiff, Nat.reduceBNe, Nat.reduceBEq, Int.reduceToNat, Int.reduceAdd, Int.reduceSub, Int.reduceMul, Int.reduceLT, Int.reduceLE, Int.reduceNeg, Int.reduceBEq, Int.reduceBNe, Int.reduceEq, beq_self_eq_true, reduceCtorEq, decide_true, decide_false, if_pos, if_neg] <;> rfl) | fail) (by decide) ?_
    | refine vs_store (by first | (simp (disch := (first | omega | (simp only [go_sem, ↓reduceIte, Nat.reduceEqDiff, Nat.reduceAdd, Nat.reduceMul, Nat.reduceSub, Nat.reduceLT, Nat.reduceLeDiff, Nat.reduceBNe, Nat.reduceBEq, Int.reduceToNat, Int.reduceAdd, Int.reduceSub, Int.reduceMul, Int.reduceLT, Int.reduceLE, Int.reduceNeg, Int.reduceBEq, Int.reduceBNe, Int.reduceEq, beq_self_eq_true, reduceCtorEq, decide_true, decide_false, if_pos, if_neg]; first | done | omega))) only [go_sem, ↓reduceIte, Nat.reduceEqDiff, Nat.reduceAdd, Nat.reduceMul, Nat.reduceSub, Nat.reduceLT, Nat.reduceLeDiff, Nat.reduceBNe, Nat.reduceBEq, Int.reduceToNat, Int.reduceAdd, Int.reduceSub, Int.reduceMul, Int.reduceLT, Int.reduceLE, Int.reduceNeg, Int.reduceBEq, Int.reduceBNe, Int.reduceEq, beq_self_eq_true, reduceCtorEq, decide_true, decide_false, if_pos, if_neg] <;> rfl) | fail) ?_ | refine va_store (by first | (simp (disch := (first | omega | (simp only [go_sem, ↓reduceIte, Nat.reduceEqDiff, Nat.reduceAdd, Nat.reduceMul, Nat.reduceSub, Nat.reduceLT, Nat.reduceLeDiff, Nat.reduceBNe, Nat.reduceBEq, Int.reduceToNat, Int.reduceAdd, Int.reduceSub, Int.reduceMul, Int.reduceLT, Int.reduceLE, Int.reduceNeg, Int.reduceBEq, Int.reduceBNe, Int.reduceEq, beq_self_eq_true, reduceCtorEq, decide_true, decide_false, if_pos, if_neg]; first | done | omega))) only [go_sem, ↓reduceIte, Nat.reduceEqDiff, Nat.reduceAdd, Nat.reduceMul, Nat.reduceSub, Nat.reduceLT, Nat.reduceLeDiff, Nat.reduceBNe, Nat.reduceBEq, Int.reduceToNat, Int.reduceAdd, Int.reduceSub, Int.reduceMul, Int.reduceLT, Int.reduceLE, Int.reduceNeg, Int.reduceBEq, Int.reduceBNe, Int.reduceEq, beq_self_eq_true, reduceCtorEq, decide_true, decide_false, if_pos, if_neg] <;> rfl) | fail) ?_
    | refine vs_new (by first | (simp (disch := (first | omega | (simp only [go_sem, ↓reduceIte, Nat.reduceEqDiff, Nat.reduceAdd, Nat.reduceMul, Nat.reduceSub, Nat.reduceLT, Nat.reduceLeDiff, Nat.reduceBNe, Nat.reduceBEq, Int.reduceToNat, Int.reduceAdd, Int.reduceSub, Int.reduceMul, Int.reduceLT, Int.reduceLE, Int.reduceNeg, Int.reduceBEq, Int.reduceBNe, Int.reduceEq, beq_self_eq_true, reduceCtorEq, decide_true, decide_false, if_pos, if_neg]; first | done | omega))) only [go_sem, ↓reduceIte, Nat.reduceEqDiff, Nat.reduceAdd, Nat.reduceMul, Nat.reduceSub, Nat.reduceLT, Nat.reduceLeDiff, Nat.reduceBNe, Nat.reduceBEq, Int.reduceToNat, Int.reduceAdd, Int.reduceSub, Int.reduceMul, Int.reduceLT, Int.reduceLE, Int.reduceNeg, Int.reduceBEq, Int.reduceBNe, Int.reduceEq, beq_self_eq_true, reduceCtorEq, decide_true, decide_false, if_pos, if_neg] <;> rfl) | fail) (by decide) (by first | (simp (disch := (first | omega | (simp only [go_sem, ↓reduceIte, Nat.reduceEqDiff, Nat.reduceAdd, Nat.reduceMul, Nat.reduceSub, Nat.reduceLT, Nat.reduceLeDiff, Nat.reduceBNe, Nat.reduceBEq, Int.reduceToNat, Int.reduceAdd, Int.reduceSub, Int.reduceMul, Int.reduceLT, Int.reduceLE, Int.reduceNeg, Int.reduceBEq, Int.reduceBNe, Int.reduceEq, beq_self_eq_true, reduceCtorEq, decide_true, decide_false, if_pos, if_neg]; first | done | omega))) only [go_sem, ↓reduceIte, Nat.reduceEqDiff, Nat.reduceAdd, Nat.reduceMul, Nat.reduceSub, Nat.reduceLT, Nat.reduceLeDiff, Nat.reduceBNe, Nat.reduceBEq, Int.reduceToNat, Int.reduceAdd, Int.reduceSub, Int.reduceMul, Int.reduceLT, Int.reduceLE, Int.reduceNeg, Int.reduceBEq, Int.reduceBNe, Int.reduceEq, beq_self_eq_true, reduceCtorEq, decide_true, decide_false, if_pos, if_neg] <;> rfl) | fail) ?_ | refine va_new (by first | (simp (disch := (first | omega | (simp only [go_sem, ↓reduceIte, Nat.reduceEqDiff, Nat.reduceAdd, Nat.reduceMul, Nat.reduceSub, Nat.reduceLT, Nat.reduceLeDiff, Nat.reduceBNe, Nat.reduceBEq, Int.reduceToNat, Int.reduceAdd, Int.reduceSub, Int.reduceMul, Int.reduceLT, Int.reduceLE, Int.reduceNeg, Int.reduceBEq, Int.reduceBNe, Int.reduceEq, beq_self_eq_true, reduceCtorEq, decide_true, decide_false, if_pos, if_neg]; first | done | omega))) only [go_sem, ↓reduceIte, Nat.reduceEqDiff, Nat.reduceAdd, Nat.reduceMul, Nat.reduceSub, Nat.reduceLT, Nat.reduceLeDiff, Nat.reduceBNe, Nat.reduceBEq, Int.reduceToNat, Int.reduceAdd, Int.reduceSub, Int.reduceMul, Int.reduceLT, Int.reduceLE, Int.reduceNeg, Int.reduceBEq, Int.reduceBNe, Int.reduceEq, beq_self_eq_true, reduceCtorEq, decide_true, decide_false, if_pos, if_neg] <;> rfl) | fail) (by decide) (by first | (simp (disch := (first | omega | (simp only [go_sem, ↓reduceIte, Nat.reduceEqDiff, Nat.reduceAdd, Nat.reduceMul, Nat.reduceSub, Nat.reduceLT, Nat.reduceLeDiff, Nat.reduceBNe, Nat.reduceBEq, Int.reduceToNat, Int.reduceAdd, Int.reduceSub, Int.reduceMul, Int.reduceLT, Int.reduceLE, Int.reduceNeg, Int.reduceBEq, Int.reduceBNe, Int.reduceEq, beq_self_eq_true, reduceCtorEq, decide_true, decide_false, if_pos, if_neg]; first | done | omega))) only [go_sem, ↓reduceIte, Nat.reduceEqDiff, Nat.reduceAdd, Nat.reduceMul, Nat.reduceSub, Nat.reduceLT, Nat.reduceLeDiff, Nat.reduceBNe, Nat.reduceBEq, Int.reduceToNat, Int.reduceAdd, Int.reduceSub, Int.reduceMul, Int.reduceLT, Int.reduceLE, Int.reduceNeg, Int.reduceBEq, Int.reduceBNe, Int.reduceEq, beq_self_eq_true, reduceCtorEq, decide_true, decide_false, if_pos, if_neg] <;> rfl) | fail) ?_
    | refine vs_app (by first | (simp (disch := (first | omega | (simp only [go_sem, ↓reduceIte, Nat.reduceEqDiff, Nat.reduceAdd, Nat.reduceMul, Nat.reduceSub, Nat.reduceLT, Nat.reduceLeDiff, Nat.reduceBNe, Nat.reduceBEq, Int.reduceToNat, Int.reduceAdd, Int.reduceSub, Int.reduceMul, Int.reduceLT, Int.reduceLE, Int.reduceNeg, Int.reduceBEq, Int.reduceBNe, Int.reduceEq, beq_self_eq_true, reduceCtorEq, decide_true, decide_false, if_pos, if_neg]; first | done | omega))) only [go_sem, ↓reduceIte, Nat.reduceEqDiff, Nat.reduceAdd, Nat.reduceMul, Nat.reduceSub, Nat.reduceLT, Nat.reduceLeDiff, Nat.reduceBNe, Nat.reduceBEq, Int.reduceToNat, Int.reduceAdd, Int.reduceSub, Int.reduceMul, Int.reduceLT, Int.reduceLE, Int.reduceNeg, Int.reduceBEq, Int.reduceBNe, Int.reduceEq, beq_self_eq_true, reduceCtorEq, decide_true, decide_false, if_pos, if_neg] <;> rfl) | fail) (by simp only [apSrc, srt66, srt77]) (by decide) (by first | (simp (disch := (first | omega | (simp only [go_sem, ↓reduceIte, Nat.reduceEqDiff, Nat.reduceAdd, Nat.reduceMul, Nat.reduceSub, Nat.reduceLT, Nat.reduceLeDiff, Nat.reduceBNe, Nat.reduceBEq, Int.reduceToNat, Int.reduceAdd, Int.reduceSub, Int.reduceMul, Int.reduceLT, Int.reduceLE, Int.reduceNeg, Int.reduceBEq, Int.reduceBNe, Int.reduceEq, beq_self_eq_true, reduceCtorEq, decide_true, decide_false, if_pos, if_neg]; first | done | omega))) only [go_sem, ↓reduceIte, Nat.reduceEqDiff, Nat.reduceAdd, Nat.reduceMul, Nat.reduceSub, Nat.reduceLT, Nat.reduceLeDiff, Nat.reduceBNe, Nat.reduceBEq, Int.reduceToNat, Int.reduceAdd, Int.reduceSub, Int.reduceMul, Int.reduceLT, Int.reduceLE, Int.reduceNeg, Int.reduceBEq, Int.reduceBNe, Int.reduceEq, beq_self_eq_true, reduceCtorEq, decide_true, decide_false, if_pos, if_neg] <;> rfl) | fail) (by first | (simp (disch := (first | omega | (simp only [go_sem, ↓reduceIte, Nat.reduceEqDiff, Nat.reduceAdd, Nat.reduceMul, Nat.reduceSub, Nat.reduceLT, Nat.reduceLeDiff, Nat.reduceBNe, Nat.reduceBEq, Int.reduceToNat, Int.reduceAdd, Int.reduceSub, Int.reduceMul, Int.reduceLT, Int.reduceLE, Int.reduceNeg, Int.reduceBEq, Int.reduceBNe, Int.reduceEq, beq_self_eq_true, reduceCtorEq, decide_true, decide_false, if_pos, if_neg]; first | done | omega))) only [go_sem, ↓reduceIte, Nat.reduceEqDiff, Nat.reduceAdd, Nat.reduceMul, Nat.reduceSub, Nat.reduceLT, Nat.reduceLeDiff, Nat.reduceBNe, Nat.reduceBEq, Int.reduceToNat, Int.reduceAdd, Int.reduceSub, Int.reduceMul, Int.reduceLT, Int.reduceLE, Int.reduceNeg, Int.reduceBEq, Int.reduceBNe, Int.reduceEq, beq_self_eq_true, reduceCtorEq, decide_true, decide_false, if_pos, if_neg] <;> rfl) | fail) ?_ | refine va_app (by first | (simp (disch := (first | omega | (simp only [go_sem, ↓reduceIte, Nat.reduceEqDiff, Nat.reduceAdd, Nat.reduceMul, Nat.reduceSub, Nat.reduceLT, Nat.reduceLeDiff, Nat.reduceBNe, Nat.reduceBEq, Int.reduceToNat, Int.reduceAdd, Int.reduceSub, Int.reduceMul, Int.reduceLT, Int.reduceLE, Int.reduceNeg, Int.reduceBEq, Int.reduceBNe, Int.reduceEq, beq_self_eq_true, reduceCtorEq, decide_true, decide_false, if_pos, if_neg]; first | done | omega))) only [go_sem, ↓reduceIte, Nat.reduceEqDiff, Nat.reduceAdd, Nat.reduceMul, Nat.reduceSub, Nat.reduceLT, Nat.reduceLeDiff, Nat.reduceBNe, Nat.reduceBEq, Int.reduceToNat, Int.reduceAdd, Int.reduceSub, Int.reduceMul, Int.reduceLT, Int.reduceLE, Int.reduceNeg, Int.reduceBEq, Int.reduceBNe, Int.reduceEq, beq_self_eq_true, reduceCtorEq, decide_true, decide_false, if_pos, if_neg] <;> rfl) | fail) (by simp only [apSrc, srt66, srt77]) (by decide) (by first | (simp (disch := (first | omega | (simp only [go_sem, ↓reduceIte, Nat.reduceEqDiff, Nat.reduceAdd, Nat.reduceMul, Nat.reduceSub, Nat.reduceLT, Nat.reduceLeDiff, Nat.reduceBNe, Nat.reduceBEq, Int.reduceToNat, Int.reduceAdd, Int.reduceSub, Int.reduceMul, Int.reduceLT, Int.reduceLE, Int.reduceNeg, Int.reduceBEq, Int.reduceBNe, Int.reduceEq, beq_self_eq_true, reduceCtorEq, decide_true, decide_false, if_pos, if_neg]; first | done | omega))) only [go_sem, ↓reduceIte, Nat.reduceEqDiff, Nat.reduceAdd, Nat.reduceMul, Nat.reduceSub, Nat.reduceLT, Nat.reduceLeDiff, Nat.reduceBNe, Nat.reduceBEq, Int.reduceToNat, Int.reduceAdd, Int.reduceSub, Int.reduceMul, Int.reduceLT, Int.reduceLE, Int.reduceNeg, Int.reduceBEq, Int.reduceBNe, Int.reduceEq, beq_self_eq_true, reduceCtorEq, decide_true, decide_false, if_pos, if_neg] <;> rfl) | fail) (by first | (simp (disch := (first | omega | (simp only [go_sem, ↓reduceIte, Nat.reduceEqDiff, Nat.reduceAdd, Nat.reduceMul, Nat.reduceSub, Nat.reduceLT, Nat.reduceLeDiff, Nat.reduceBNe, Nat.reduceBEq, Int.reduceToNat, Int.reduceAdd, Int.reduceSub, Int.reduceMul, Int.reduceLT, Int.reduceLE, Int.reduceNeg, Int.reduceBEq, Int.reduceBNe, Int.reduceEq, beq_self_eq_true, reduceCtorEq, decide_true, decide_false, if_pos, if_neg]; first | done | omega))) only [go_sem, ↓reduceIte, Nat.reduceEqDiff, Nat.reduceAdd, Nat.reduceMul, Nat.reduceSub, Nat.reduceLT, Nat.reduceLeDiff, Nat.reduceBNe, Nat.reduceBEq, Int.reduceToNat, Int.reduceAdd, Int.reduceSub, Int.reduceMul, Int.reduceLT, Int.reduceLE, Int.reduceNeg, Int.reduceBEq, Int.reduceBNe, Int.reduceEq, beq_self_eq_true, reduceCtorEq, decide_true, decide_false, if_pos, if_neg] <;> rfl) | fail) ?_
    | refine vg_off rfl (by first | (simp (disch := (first | omega | (simp only [go_sem, ↓reduceIte, Nat.reduceEqDiff, Nat.reduceAdd, Nat.reduceMul, Nat.reduceSub, Nat.reduceLT, Nat.reduceLeDiff, Nat.reduceBNe, Nat.reduceBEq, Int.reduceToNat, Int.reduceAdd, Int.reduceSub, Int.reduceMul, Int.reduceLT, Int.reduceLE, Int.reduceNeg, Int.reduceBEq, Int.reduceBNe, Int.reduceEq, beq_self_eq_true, reduceCtorEq, decide_true, decide_false, if_pos, if_neg]; first | done | omega))) only [go_sem, ↓reduceIte, Nat.reduceEqDiff, Nat.reduceAdd, Nat.reduceMul, Nat.reduceSub, Nat.reduceLT, Nat.reduceLeDiff, Nat.reduceBNe, Nat.reduceBEq, Int.reduceToNat, Int.reduceAdd, Int.reduceSub, Int.reduceMul, Int.reduceLT, Int.reduceLE, Int.reduceNeg, Int.reduceBEq, Int.reduceBNe, Int.reduceEq, beq_self_eq_true, reduceCtorEq, decide_true, decide_false, if_pos, if_neg] <;> rfl) | fail) rfl (by decide) ?_ | refine vga_off rfl (by first | (simp (disch := (first | omega | (simp only [go_sem, ↓reduceIte, Nat.reduceEqDiff, Nat.reduceAdd, Nat.reduceMul, Nat.reduceSub, Nat.reduceLT, Nat.reduceLeDiff, Nat.reduceBNe, Nat.reduceBEq, Int.reduceToNat, Int.reduceAdd, Int.reduceSub, Int.reduceMul, Int.reduceLT, Int.reduceLE, Int.reduceNeg, Int.reduceBEq, Int.reduceBNe, Int.reduceEq, beq_self_eq_true, reduceCtorEq, decide_true, decide_false, if_pos, if_neg]; first | done | omega))) only [go_sem, ↓reduceIte, Nat.reduceEqDiff, Nat.reduceAdd, Nat.reduceMul, Nat.reduceSub, Nat.reduceLT, Nat.reduceLeDiff, Nat.reduceBNe, Nat.reduceBEq, Int.reduceToNat, Int.reduceAdd, Int.reduceSub, Int.reduceMul, Int.reduceLT, Int.reduceLE, Int.reduceNeg, Int.reduceBEq, Int.reduceBNe, Int.reduceEq, beq_self_eq_true, reduceCtorEq, decide_true, decide_false, if_pos, if_neg] <;> rfl) | fail) rfl (by decide) ?_
    | refine vg_und rfl (by first | (simp (disch := (first | omega | (simp only [go_sem, ↓reduceIte, Nat.reduceEqDiff, Nat.reduceAdd, Nat.reduceMul, Nat.reduceSub, Nat.reduceLT, Nat.reduceLeDiff, Nat.reduceBNe, Nat.reduceBEq, Int.reduceToNat, Int.reduceAdd, Int.reduceSub, Int.reduceMul, Int.reduceLT, Int.reduceLE, Int.reduceNeg, Int.reduceBEq, Int.reduceBNe, Int.reduceEq, beq_self_eq_true, reduceCtorEq, decide_true, decide_false, if_pos, if_neg]; first | done | omega))) only [go_sem, ↓reduceIte, Nat.reduceEqDiff, Nat.reduceAdd, Nat.reduceMul, Nat.reduceSub, Nat.reduceLT, Nat.reduceLeDiff, Nat.reduceBNe, Nat.reduceBEq, Int.reduceToNat, Int.reduceAdd, Int.reduceSub, Int.reduceMul, Int.reduceLT, Int.reduceLE, Int.reduceNeg, Int.reduceBEq, Int.reduceBNe, Int.reduceEq, beq_self_eq_true, reduceCtorEq, decide_true, decide_false, if_pos, if_neg] <;> rfl) | fail) (by decide) ?_ | refine vga_und rfl (by first | (simp (disch := (first | omega | (simp only [go_sem, ↓reduceIte, Nat.reduceEqDiff, Nat.reduceAdd, Nat.reduceMul, Nat.reduceSub, Nat.reduceLT, Nat.reduceLeDiff, Nat.reduceBNe, Nat.reduceBEq, Int.reduceToNat, Int.reduceAdd, Int.reduceSub, Int.reduceMul, Int.reduceLT, Int.reduceLE, Int.reduceNeg, Int.reduceBEq, Int.reduceBNe, Int.reduceEq, beq_self_eq_true, reduceCtorEq, decide_true, decide_false, if_pos, if_neg]; first | done | omega))) only [go_sem, ↓reduceIte, Nat.reduceEqDiff, Nat.reduceAdd, Nat.reduceMul, Nat.reduceSub, Nat.reduceLT, Nat.reduceLeDiff, Nat.reduceBNe, Nat.reduceBEq, Int.reduceToNat, Int.reduceAdd, Int.reduceSub, Int.reduceMul, Int.reduceLT, Int.reduceLE, Int.reduceNeg, Int.reduceBEq, Int.reduceBNe, Int.reduceEq, beq_self_eq_true, reduceCtorEq, decide_true, decide_false, if_pos, if_neg] <;> rfl) | fail) (by decide) ?_)
  exact hgo) : p := h hq
theorem gog {p q : Prop} (hq : q) (h : q → p := by
  intro hgo
  repeat (first
    | refine RG_seq ?_ | refine RG_region ?_ | refine vs_nil ?_ | refine RG_skip ?_ | refine RG_nilB ?_ | refine RG_exitB ?_ | refine RG_exitR ?_ | refine RG_block ?_
    | refine RG_draw (by kernel_rfl) (by kernel_rfl) ?_ | refine va_nil ⟨by kernel_rfl, ?_⟩
    | refine vs_val (by first | (simp (disch := (first | omega | (simp only [go_sem, ↓reduceIte, Nat.reduceEqDiff, Nat.reduceAdd, Nat.reduceMul, Nat.reduceSub, Nat.reduceLT, Nat.reduceLeDiff, Nat.reduceBNe, Nat.reduceBEq, Int.reduceToNat, Int.reduceAdd, Int.reduceSub, Int.reduceMul, Int.reduceLT, Int.reduceLE, Int.reduceNeg, Int.reduceBEq, Int.reduceBNe, Int.reduceEq, beq_self_eq_true, reduceCtorEq, decide_true, decide_false, if_pos, if_neg]; first | done | omega))) only [go_sem, ↓reduceIte, Nat.reduceEqDiff, Nat.reduceAdd, Nat.reduceMul, Nat.reduceSub, Nat.reduceLT, Nat.reduceLeDiff, Nat.reduceBNe, Nat.reduceBEq, Int.reduceToNat, Int.reduceAdd, Int.reduceSub, Int.reduceMul, Int.reduceLT, Int.reduceLE, Int.reduceNeg, Int.reduceBEq, Int.reduceBNe, Int.reduceEq, beq_self_eq_true, reduceCtorEq, decide_true, decide_false, if_pos, if_neg] <;> rfl) | fail) (by decide) ?_ | refine va_val (by first | (simp (disch := (first | omega | (simp only [go_sem, ↓reduceIte, Nat.reduceEqDiff, Nat.reduceAdd, Nat.reduceMul, Nat.reduceSub, Nat.reduceLT, Nat.reduceLeDiff, Nat.reduceBNe, Nat.reduceBEq, Int.reduceToNat, Int.reduceAdd, Int.reduceSub, Int.reduceMul, Int.reduceLT, Int.reduceLE, Int.reduceNeg, Int.reduceBEq, Int.reduceBNe, Int.reduceEq, beq_self_eq_true, reduceCtorEq, decide_true, decide_false, if_pos, if_neg]; first | done | omega))) only [go_sem, ↓reduceIte, Nat.reduceEqDiff, Nat.reduceAdd, Nat.reduceMul, Nat.reduceSub, Nat.reduceLT, Nat.reduceLeDiff, Nat.reduceBNe, Nat.reduceBEq, Int.reduceToNat, Int.reduceAdd, Int.reduceSub, Int.reduceMul, Int.reduceLT, Int.reduceLE, Int.reduceNeg, Int.reduceBEq, Int.reduceBNe, Int.reduceEq, beq_self_eq_true, reduceCtorEq, decide_true, decide_false, if_pos, if_neg] <;> rfl) | fail) (by decide) ?_
    | refine vs_store (by first | (simp (disch := (first | omega | (simp only [go_sem, ↓reduceIte, Nat.reduceEqDiff, Nat.reduceAdd, Nat.reduceMul, Nat.reduceSub, Nat.reduceLT, Nat.reduceLeDiff, Nat.reduceBNe, Nat.reduceBEq, Int.reduceToNat, Int.reduceAdd, Int.reduceSub, Int.reduceMul, Int.reduceLT, Int.reduceLE, Int.reduceNeg, Int.reduceBEq, Int.reduceBNe, Int.reduceEq, beq_self_eq_true, reduceCtorEq, decide_true, decide_false, if_pos, if_neg]; first | done | omega))) only [go_sem, ↓reduceIte, Nat.reduceEqDiff, Nat.reduceAdd, Nat.reduceMul, Nat.reduceSub, Nat.reduceLT, Nat.reduceLeDiff, Nat.reduceBNe, Nat.reduceBEq, Int.reduceToNat, Int.reduceAdd, Int.reduceSub, Int.reduceMul, Int.reduceLT, Int.reduceLE, Int.reduceNeg, Int.reduceBEq, Int.reduceBNe, Int.reduceEq, beq_self_eq_true, reduceCtorEq, decide_true, decide_false, if_pos, if_neg] <;> rfl) | fail) ?_ | refine va_store (by first | (simp (disch := (first | omega | (simp only [go_sem, ↓reduceIte, Nat.reduceEqDiff, Nat.reduceAdd, Nat.reduceMul, Nat.reduceSub, Nat.reduceLT, Nat.reduceLeDiff, Nat.reduceBNe, Nat.reduceBEq, Int.reduceToNat, Int.reduceAdd, Int.reduceSub, Int.reduceMul, Int.reduceLT, Int.reduceLE, Int.reduceNeg, Int.reduceBEq, Int.reduceBNe, Int.reduceEq, beq_self_eq_true, reduceCtorEq, decide_true, decide_false, if_pos, if_neg]; first | done | omega))) only [go_sem, ↓reduceIte, Nat.reduceEqDiff, Nat.reduceAdd, Nat.reduceMul, Nat.reduceSub, Nat.reduceLT, Nat.reduceLeDiff, Nat.reduceBNe, Nat.reduceBEq, Int.reduceToNat, Int.reduceAdd, Int.reduceSub, Int.reduceMul, Int.reduceLT, Int.reduceLE, Int.reduceNeg, Int.reduceBEq, Int.reduceBNe, Int.reduceEq, beq_self_eq_true, reduceCtorEq, decide_true, decide_false, if_pos, if_neg] <;> rfl) | fail) ?_
    | refine vs_new (by first | (simp (disch := (first | omega | (simp only [go_sem, ↓reduceIte, Nat.reduceEqDiff, Nat.reduceAdd, Nat.reduceMul, Nat.reduceSub, Nat.reduceLT, Nat.reduceLeDiff, Nat.reduceBNe, Nat.reduceBEq, Int.reduceToNat, Int.reduceAdd, Int.reduceSub, Int.reduceMul, Int.reduceLT, Int.reduceLE, Int.reduceNeg, Int.reduceBEq, Int.reduceBNe, Int.reduceEq, beq_self_eq_true, reduceCtorEq, decide_true, decide_false, if_pos, if_neg]; first | done | omega))) only [go_sem, ↓reduceIte, Nat.reduceEqDiff, Nat.reduceAdd, Nat.reduceMul, Nat.reduceSub, Nat.reduceLT, Nat.reduceLeDiff, Nat.reduceBNe, Nat.reduceBEq, Int.reduceToNat, Int.reduceAdd, Int.reduceSub, Int.reduceMul, Int.reduceLT, Int.reduceLE, Int.reduceNeg, Int.reduceBEq, Int.reduceBNe, Int.reduceEq, beq_self_eq_true, reduceCtorEq, decide_true, decide_false, if_pos, if_neg] <;> rfl) | fail) (by decide) (by first | (simp (disch := (first | omega | (simp only [go_sem, ↓reduceIte, Nat.reduceEqDiff, Nat.reduceAdd, Nat.reduceMul, Nat.reduceSub, Nat.reduceLT, Nat.reduceLeDiff, Nat.reduceBNe, Nat.reduceBEq, Int.reduceToNat, Int.reduceAdd, Int.reduceSub, Int.reduceMul, Int.reduceLT, Int.reduceLE, Int.reduceNeg, Int.reduceBEq, Int.reduceBNe, Int.reduceEq, beq_self_eq_true, reduceCtorEq, decide_true, decide_false, if_pos, if_neg]; first | done | omega))) only [go_sem, ↓reduceIte, Nat.reduceEqDiff, Nat.reduceAdd, Nat.reduceMul, Nat.reduceSub, Nat.reduceLT, Nat.reduceLeDiff, Nat.reduceBNe, Nat.reduceBEq, Int.reduceToNat, Int.reduceAdd, Int.reduceSub, Int.reduceMul, Int.reduceLT, Int.reduceLE, Int.reduceNeg, Int.reduceBEq, Int.reduceBNe, Int.reduceEq, beq_self_eq_true, reduceCtorEq, decide_true, decide_false, if_pos, if_neg] <;> rfl) | fail) ?_ | refine va_new (by first | (simp (disch := (first | omega | (simp only [go_sem, ↓reduceIte, Nat.reduceEqDiff, Nat.reduceAdd, Nat.reduceMul, Nat.reduceSub, Nat.reduceLT, Nat.reduceLeDiff, Nat.reduceBNe, Nat.reduceBEq, Int.reduceToNat, Int.reduceAdd, Int.reduceSub, Int.reduceMul, Int.reduceLT, Int.reduceLE, Int.reduceNeg, Int.reduceBEq, Int.reduceBNe, Int.reduceEq, beq_self_eq_true, reduceCtorEq, decide_true, decide_false, if_pos, if_neg]; first | done | omega))) only [go_sem, ↓reduceIte, Nat.reduceEqDiff, Nat.reduceAdd, Nat.reduceMul, Nat.reduceSub, Nat.reduceLT, Nat.reduceLeDiff, Nat.reduceBNe, Nat.reduceBEq, Int.reduceToNat, Int.reduceAdd, Int.reduceSub, Int.reduceMul, Int.reduceLT, Int.reduceLE, Int.reduceNeg, Int.reduceBEq, Int.reduceBNe, Int.reduceEq, beq_self_eq_true, reduceCtorEq, decide_true, decide_false, if_pos, if_neg] <;> rfl) | fail) (by decide) (by first | (simp (disch := (first | omega | (simp only [go_sem, ↓reduceIte, Nat.reduceEqDiff, Nat.reduceAdd, Nat.reduceMul, Nat.reduceSub, Nat.reduceLT, Nat.reduceLeDiff, Nat.reduceBNe, Nat.reduceBEq, Int.reduceToNat, Int.reduceAdd, Int.reduceSub, Int.reduceMul, Int.reduceLT, Int.reduceLE, Int.reduceNeg, Int.reduceBEq, Int.reduceBNe, Int.reduceEq, beq_self_eq_true, reduceCtorEq, decide_true, decide_false, if_pos, if_neg]; first | done | omega))) only [go_sem, ↓reduceIte, Nat.reduceEqDiff, Nat.reduceAdd, Nat.reduceMul, Nat.reduceSub, Nat.reduceLT, Nat.reduceLeDiff, Nat.reduceBNe, Nat.reduceBEq, Int.reduceToNat, Int.reduceAdd, Int.reduceSub, Int.reduceMul, Int.reduceLT, Int.reduceLE, Int.reduceNeg, Int.reduceBEq, Int.reduceBNe, Int.reduceEq, beq_self_eq_true, reduceCtorEq, decide_true, decide_false, if_pos, if_neg] <;> rfl) | fail) ?_)
  exact hgo) : p := h hq
theorem goy {p q : Prop} (hq : q) (h : q → p := by
  intro hgo
  repeat (first
    | refine vy_nil ?_ | refine vy_val (by first | (simp (disch := (first | omega | (simp only [go_sem, ↓reduceIte, Nat.reduceEqDiff, Nat.reduceAdd, Nat.reduceMul, Nat.reduceSub, Nat.reduceLT, Nat.reduceLeDiff, Nat.reduceBNe, Nat.reduceBEq, Int.reduceToNat, Int.reduceAdd, Int.reduceSub, Int.reduceMul, Int.reduceLT, Int.reduceLE, Int.reduceNeg, Int.reduceBEq, Int.reduceBNe, Int.reduceEq, beq_self_eq_true, reduceCtorEq, decide_true, decide_false, if_pos, if_neg]; first | done | omega))) only [go_sem, ↓reduceIte, Nat.reduceEqDiff, Nat.reduceAdd, Nat.reduceMul, Nat.reduceSub, Nat.reduceLT, Nat.reduceLeDiff, Nat.reduceBNe, Nat.reduceBEq, Int.reduceToNat, Int.reduceAdd, Int.reduceSub, Int.reduceMul, Int.reduceLT, Int.reduceLE, Int.reduceNeg, Int.reduceBEq, Int.reduceBNe, Int.reduceEq, beq_self_eq_true, reduceCtorEq, decide_true, decide_false, if_pos, if_neg] <;> rfl) | fail) (by decide) ?_ | refine vy_store (by first | (simp (disch := (first | omega | (simp only [go_sem, ↓reduceIte, Nat.reduceEqDiff, Nat.reduceAdd, Nat.reduceMul, Nat.reduceSub, Nat.reduceLT, Nat.reduceLeDiff, Nat.reduceBNe, Nat.reduceBEq, Int.reduceToNat, Int.reduceAdd, Int.reduceSub, Int.reduceMul, Int.reduceLT, Int.reduceLE, Int.reduceNeg, Int.reduceBEq, Int.reduceBNe, Int.reduceEq, beq_self_eq_true, reduceCtorEq, decide_true, decide_false, if_pos, if_neg]; first | done | omega))) only [go_sem, ↓reduceIte, Nat.reduceEqDiff, Nat.reduceAdd, Nat.reduceMul, Nat.reduceSub, Nat.reduceLT, Nat.reduceLeDiff, Nat.reduceBNe, Nat.reduceBEq, Int.reduceToNat, Int.reduceAdd, Int.reduceSub, Int.reduceMul, Int.reduceLT, Int.reduceLE, Int.reduceNeg, Int.reduceBEq, Int.reduceBNe, Int.reduceEq, beq_self_eq_true, reduceCtorEq, decide_true, decide_false, if_pos, if_neg] <;> rfl) | fail) ?_ | refine vy_new (by first | (simp (disch := (first | omega | (simp only [go_sem, ↓reduceIte, Nat.reduceEqDiff, Nat.reduceAdd, Nat.reduceMul, Nat.reduceSub, Nat.reduceLT, Nat.reduceLeDiff, Nat.reduceBNe, Nat.reduceBEq, Int.reduceToNat, Int.reduceAdd, Int.reduceSub, Int.reduceMul, Int.reduceLT, Int.reduceLE, Int.reduceNeg, Int.reduceBEq, Int.reduceBNe, Int.reduceEq, beq_self_eq_true, reduceCtorEq, decide_true, decide_false, if_pos, if_neg]; first | done | omega))) only [go_sem, ↓reduceIte, Nat.reduceEqDiff, Nat.reduceAdd, Nat.reduceMul, Nat.reduceSub, Nat.reduceLT, Nat.reduceLeDiff, Nat.reduceBNe, Nat.reduceBEq, Int.reduceToNat, Int.reduceAdd, Int.reduceSub, Int.reduceMul, Int.reduceLT, Int.reduceLE, Int.reduceNeg, Int.reduceBEq, Int.reduceBNe, Int.reduceEq, beq_self_eq_true, reduceCtorEq, decide_true, decide_false, if_pos, if_neg] <;> rfl) | fail) (by decide) (by first | (simp (disch := (first | omega | (simp only [go_sem, ↓reduceIte, Nat.reduceEqDiff, Nat.reduceAdd, Nat.reduceMul, Nat.reduceSub, Nat.reduceLT, Nat.reduceLeDiff, Nat.reduceBNe, Nat.reduceBEq, Int.reduceToNat, Int.reduceAdd, Int.reduceSub, Int.reduceMul, Int.reduceLT, Int.reduceLE, Int.reduceNeg, Int.reduceBEq, Int.reduceBNe, Int.reduceEq, beq_self_eq_true, reduceCtorEq, decide_true, decide_false, if_pos, if_neg]; first | done | omega))) only [go_sem, ↓reduceIte, Nat.reduceEqDiff, Nat.reduceAdd, Nat.reduceMul, Nat.reduceSub, Nat.reduceLT, Nat.reduceLeDiff, Nat.reduceBNe, Nat.reduceBEq, Int.reduceToNat, Int.reduceAdd, Int.reduceSub, Int.reduceMul, Int.reduceLT, Int.reduceLE, Int.reduceNeg, Int.reduceBEq, Int.reduceBNe, Int.reduceEq, beq_self_eq_true, reduceCtorEq, decide_true, decide_false, if_pos, if_neg] <;> rfl) | fail) ?_
    | refine vy_gval rfl (by first | (simp (disch := (first | omega | (simp only [go_sem, ↓reduceIte, Nat.reduceEqDiff, Nat.reduceAdd, Nat.reduceMul, Nat.reduceSub, Nat.reduceLT, Nat.reduceLeDiff, Nat.reduceBNe, Nat.reduceBEq, Int.reduceToNat, Int.reduceAdd, Int.reduceSub, Int.reduceMul, Int.reduceLT, Int.reduceLE, Int.reduceNeg, Int.reduceBEq, Int.reduceBNe, Int.reduceEq, beq_self_eq_true, reduceCtorEq, decide_true, decide_false, if_pos, if_neg]; first | done | omega))) only [go_sem, ↓reduceIte, Nat.reduceEqDiff, Nat.reduceAdd, Nat.reduceMul, Nat.reduceSub, Nat.reduceLT, Nat.reduceLeDiff, Nat.reduceBNe, Nat.reduceBEq, Int.reduceToNat, Int.reduceAdd, Int.reduceSub, Int.reduceMul, Int.reduceLT, Int.reduceLE, Int.reduceNeg, Int.reduceBEq, Int.reduceBNe, Int.reduceEq, beq_self_eq_true, reduceCtorEq, decide_true, decide_false, if_pos, if_neg] <;> rfl) | fail) (fun hg => by (try (have hg' := hg; simp only [decide_eq_true_eq, decide_eq_false_iff_not, Bool.or_eq_true, Bool.and_eq_true, Bool.or_eq_false_iff, Bool.and_eq_false_iff, Bool.not_eq_true', Bool.not_eq_false', bne_iff_ne, beq_iff_eq, ne_eq, bne_eq_false_iff_eq, beq_eq_false_iff_ne, ge_iff_le, gt_iff_lt, Int.not_le, Int.not_lt] at hg')); first | (simp (disch := (first | omega | (simp only [go_sem, ↓reduceIte, Nat.reduceEqDiff, Nat.reduceAdd, Nat.reduceMul, Nat.reduceSub, Nat.reduceLT, Nat.reduceLeDiff, Nat.reduceBNe, Nat.reduceBEq, Int.reduceToNat, Int.reduceAdd, Int.reduceSub, Int.reduceMul, Int.reduceLT, Int.reduceLE, Int.reduceNeg, Int.reduceBEq, Int.reduceBNe, Int.reduceEq, beq_self_eq_true, reduceCtorEq, decide_true, decide_false, if_pos, if_neg]; first | done | omega))) only [go_sem, ↓reduceIte, Nat.reduceEqDiff, Nat.reduceAdd, Nat.reduceMul, Nat.reduceSub, Nat.reduceLT, Nat.reduceLeDiff, Nat.reduceBNe, Nat.reduceBEq, Int.reduceToNat, Int.reduceAdd, Int.reduceSub, Int.reduceMul, Int.reduceLT, Int.reduceLE, Int.reduceNeg, Int.reduceBEq, Int.reduceBNe, Int.reduceEq, beq_self_eq_true, reduceCtorEq, decide_true, decide_false, if_pos, if_neg, hg] <;> rfl) | fail) (by decide) ?_)
  exact hgo) : p := h hq
theorem call {C p q : Prop} (c : C) (hq : q) (h : C → q → p := by
  intro hcon hgo
  (first
    | refine vs_call0 (hcon) (by first | (simp (disch := (first | omega | (simp only [go_sem, ↓reduceIte, Nat.reduceEqDiff, Nat.reduceAdd, Nat.reduceMul, Nat.reduceSub, Nat.reduceLT, Nat.reduceLeDiff, Nat.reduceBNe, Nat.reduceBEq, Int.reduceToNat, Int.reduceAdd, Int.reduceSub, Int.reduceMul, Int.reduceLT, Int.reduceLE, Int.reduceNeg, Int.reduceBEq, Int.reduceBNe, Int.reduceEq, beq_self_eq_true, reduceCtorEq, decide_true, decide_false, if_pos, if_neg]; first | done | omega))) only [go_sem, ↓reduceIte, Nat.reduceEqDiff, Nat.reduceAdd, Nat.reduceMul, Nat.reduceSub, Nat.reduceLT, Nat.reduceLeDiff, Nat.reduceBNe, Nat.reduceBEq, Int.reduceToNat, Int.reduceAdd, Int.reduceSub, Int.reduceMul, Int.reduceLT, Int.reduceLE, Int.reduceNeg, Int.reduceBEq, Int.reduceBNe, Int.reduceEq, beq_self_eq_true, reduceCtorEq, decide_true, decide_false, if_pos, if_neg] <;> rfl) | fail) (by first | (simp (disch := (first | omega | (simp only [go_sem, ↓reduceIte, Nat.reduceEqDiff, Nat.reduceAdd, Nat.reduceMul, Nat.reduceSub, Nat.reduceLT, Nat.reduceLeDiff, Nat.reduceBNe, Nat.reduceBEq, Int.reduceToNat, Int.reduceAdd, Int.reduceSub, Int.reduceMul, Int.reduceLT, Int.reduceLE, Int.reduceNeg, Int.reduceBEq, Int.reduceBNe, Int.reduceEq, beq_self_eq_true, reduceCtorEq, decide_true, decide_false, if_pos, if_neg]; first | done | omega))) only [go_sem, ↓reduceIte, Nat.reduceEqDiff, Nat.reduceAdd, Nat.reduceMul, Nat.reduceSub, Nat.reduceLT, Nat.reduceLeDiff, Nat.reduceBNe, Nat.reduceBEq, Int.reduceToNat, Int.reduceAdd, Int.reduceSub, Int.reduceMul, Int.reduceLT, Int.reduceLE, Int.reduceNeg, Int.reduceBEq, Int.reduceBNe, Int.reduceEq, beq_self_eq_true, reduceCtorEq, decide_true, decide_false, if_pos, if_neg] <;> rfl) | fail) (by simp (disch := (first | omega | (simp only [go_sem, ↓reduceIte, Nat.reduceEqDiff, Nat.reduceAdd, Nat.reduceMul, Nat.reduceSub, Nat.reduceLT, Nat.reduceLeDiff, Nat.reduceBNe, Nat.reduceBEq, Int.reduceToNat, Int.reduceAdd, Int.reduceSub, Int.reduceMul, Int.reduceLT, Int.reduceLE, Int.reduceNeg, Int.reduceBEq, Int.reduceBNe, Int.reduceEq, beq_self_eq_true, reduceCtorEq, decide_true, decide_false, if_pos, if_neg]; first | done | omega))) only [go_sem, ↓reduceIte, Nat.reduceEqDiff, Nat.reduceAdd, Nat.reduceMul, Nat.reduceSub, Nat.reduceLT, Nat.reduceLeDiff, Nat.reduceBNe, Nat.reduceBEq, Int.reduceToNat, Int.reduceAdd, Int.reduceSub, Int.reduceMul, Int.reduceLT, Int.reduceLE, Int.reduceNeg, Int.reduceBEq, Int.reduceBNe, Int.reduceEq, beq_self_eq_true, reduceCtorEq, decide_true, decide_false, if_pos, if_neg]) (by decide) (by first | (simp (disch := (first | omega | (simp only [go_sem, ↓reduceIte, Nat.reduceEqDiff, Nat.reduceAdd, Nat.reduceMul, Nat.reduceSub, Nat.reduceLT, Nat.reduceLeDiff, Nat.reduceBNe, Nat.reduceBEq, Int.reduceToNat, Int.reduceAdd, Int.reduceSub, Int.reduceMul, Int.reduceLT, Int.reduceLE, Int.reduceNeg, Int.reduceBEq, Int.reduceBNe, Int.reduceEq, beq_self_eq_true, reduceCtorEq, decide_true, decide_false, if_pos, if_neg]; first | done | omega))) only [go_sem, ↓reduceIte, Nat.reduceEqDiff, Nat.reduceAdd, Nat.reduceMul, Nat.reduceSub, Nat.reduceLT, Nat.reduceLeDiff, Nat.reduceBNe, Nat.reduceBEq, Int.reduceToNat, Int.reduceAdd, Int.reduceSub, Int.reduceMul, Int.reduceLT, Int.reduceLE, Int.reduceNeg, Int.reduceBEq, Int.reduceBNe, Int.reduceEq, beq_self_eq_true, reduceCtorEq, decide_true, decide_false, if_pos, if_neg] <;> rfl) | fail) ?_
    | refine va_call0 (hcon) (by first | (simp (disch := (first | omega | (simp only [go_sem, ↓reduceIte, Nat.reduceEqDiff, Nat.reduceAdd, Nat.reduceMul, Nat.reduceSub, Nat.reduceLT, Nat.reduceLeDiff, Nat.reduceBNe, Nat.reduceBEq, Int.reduceToNat, Int.reduceAdd, Int.reduceSub, Int.reduceMul, Int.reduceLT, Int.reduceLE, Int.reduceNeg, Int.reduceBEq, Int.reduceBNe, Int.reduceEq, beq_self_eq_true, reduceCtorEq, decide_true, decide_false, if_pos, if_neg]; first | done | omega))) only [go_sem, ↓reduceIte, Nat.reduceEqDiff, Nat.reduceAdd, Nat.reduceMul, Nat.reduceSub, Nat.reduceLT, Nat.reduceLeDiff, Nat.reduceBNe, Nat.reduceBEq, Int.reduceToNat, Int.reduceAdd, Int.reduceSub, Int.reduceMul, Int.reduceLT, Int.reduceLE, Int.reduceNeg, Int.reduceBEq, Int.reduceBNe, Int.reduceEq, beq_self_eq_true, reduceCtorEq, decide_true, decide_false, if_pos, if_neg] <;> rfl) | fail) (by first | (simp (disch := (first | omega | (simp only [go_sem, ↓reduceIte, Nat.reduceEqDiff, Nat.reduceAdd, Nat.reduceMul, Nat.reduceSub, Nat.reduceLT, Nat.reduceLeDiff, Nat.reduceBNe, Nat.reduceBEq, Int.reduceToNat, Int.reduceAdd, Int.reduceSub, Int.reduceMul, Int.reduceLT, Int.reduceLE, Int.reduceNeg, Int.reduceBEq, Int.reduceBNe, Int.reduceEq, beq_self_eq_true, reduceCtorEq, decide_true, decide_false, if_pos, if_neg]; first | done | omega))) only [go_sem, ↓reduceIte, Nat.reduceEqDiff, Nat.reduceAdd, Nat.reduceMul, Nat.reduceSub, Nat.reduceLT, Nat.reduceLeDiff, Nat.reduceBNe, Nat.reduceBEq, Int.reduceToNat, Int.reduceAdd, Int.reduceSub, Int.reduceMul, Int.reduceLT, Int.reduceLE, Int.reduceNeg, Int.reduceBEq, Int.reduceBNe, Int.reduceEq, beq_self_eq_true, reduceCtorEq, decide_true, decide_false, if_pos, if_neg] <;> rfl) | fail) (by simp (disch := (first | omega | (simp only [go_sem, ↓reduceIte, Nat.reduceEqDiff, Nat.reduceAdd, Nat.reduceMul, Nat.reduceSub, Nat.reduceLT, Nat.reduceLeDiff, Nat.reduceBNe, Nat.reduceBEq, Int.reduceToNat, Int.reduceAdd, Int.reduceSub, Int.reduceMul, Int.reduceLT, Int.reduceLE, Int.reduceNeg, Int.reduceBEq, Int.reduceBNe, Int.reduceEq, beq_self_eq_true, reduceCtorEq, decide_true, decide_false, if_pos, if_neg]; first | done | omega))) only [go_sem, ↓reduceIte, Nat.reduceEqDiff, Nat.reduceAdd, Nat.reduceMul, Nat.reduceSub, Nat.reduceLT, Nat.reduceLeDiff, Nat.reduceBNe, Nat.reduceBEq, Int.reduceToNat, Int.reduceAdd, Int.reduceSub, Int.reduceMul, Int.reduceLT, Int.reduceLE, Int.reduceNeg, Int.reduceBEq, Int.reduceBNe, Int.reduceEq, beq_self_eq_true, reduceCtorEq, decide_true, decide_false, if_pos, if_neg]) (by decide) (by first | (simp (disch := (first | omega | (simp only [go_sem, ↓reduceIte, Nat.reduceEqDiff, Nat.reduceAdd, Nat.reduceMul, Nat.reduceSub, Nat.reduceLT, Nat.reduceLeDiff, Nat.reduceBNe, Nat.reduceBEq, Int.reduceToNat, Int.reduceAdd, Int.reduceSub, Int.reduceMul, Int.reduceLT, Int.reduceLE, Int.reduceNeg, Int.reduceBEq, Int.reduceBNe, Int.reduceEq, beq_self_eq_true, reduceCtorEq, decide_true, decide_false, if_pos, if_neg]; first | done | omega))) only [go_sem, ↓reduceIte, Nat.reduceEqDiff, Nat.reduceAdd, Nat.reduceMul, Nat.reduceSub, Nat.reduceLT, Nat.reduceLeDiff, Nat.reduceBNe, Nat.reduceBEq, Int.reduceToNat, Int.reduceAdd, Int.reduceSub, Int.reduceMul, Int.reduceLT, Int.reduceLE, Int.reduceNeg, Int.reduceBEq, Int.reduceBNe, Int.reduceEq, beq_self_eq_true, reduceCtorEq, decide_true, decide_false, if_pos, if_neg] <;> rfl) | fail) (by first | (simp (disch := (first | omega | (simp only [go_sem, ↓reduceIte, Nat.reduceEqDiff, Nat.reduceAdd, Nat.reduceMul, Nat.reduceSub, Nat.reduceLT, Nat.reduceLeDiff, Nat.reduceBNe, Nat.reduceBEq, Int.reduceToNat, Int.reduceAdd, Int.reduceSub, Int.reduceMul, Int.reduceLT, Int.reduceLE, Int.reduceNeg, Int.reduceBEq, Int.reduceBNe, Int.reduceEq, beq_self_eq_true, reduceCtorEq, decide_true, decide_false, if_pos, if_neg]; first | done | omega))) only [go_sem, ↓reduceIte, Nat.reduceEqDiff, Nat.reduceAdd, Nat.reduceMul, Nat.reduceSub, Nat.reduceLT, Nat.reduceLeDiff, Nat.reduceBNe, Nat.reduceBEq, Int.reduceToNat, Int.reduceAdd, Int.reduceSub, Int.reduceMul, Int.reduceLT, Int.reduceLE, Int.reduceNeg, Int.reduceBEq, Int.reduceBNe, Int.reduceEq, beq_self_eq_true, reduceCtorEq, decide_true, decide_false, if_pos, if_neg] <;> rfl) | fail) ?_)
  exact hgo) : p := h c hq
theorem ext {C p q : Prop} (c : C) (hq : q) (h : C → q → p := by
  intro hcon hgo
  (first
    | refine vs_ext (hcon) (by first | (simp (disch := (first | omega | (simp only [go_sem, ↓reduceIte, Nat.reduceEqDiff, Nat.reduceAdd, Nat.reduceMul, Nat.reduceSub, Nat.reduceLT, Nat.reduceLeDiff, Nat.reduceBNe, Nat.reduceBEq, Int.reduceToNat, Int.reduceAdd, Int.reduceSub, Int.reduceMul, Int.reduceLT, Int.reduceLE, Int.reduceNeg, Int.reduceBEq, Int.reduceBNe, Int.reduceEq, beq_self_eq_true, reduceCtorEq, decide_true, decide_false, if_pos, if_neg]; first | done | omega))) only [go_sem, ↓reduceIte, Nat.reduceEqDiff, Nat.reduceAdd, Nat.reduceMul, Nat.reduceSub, Nat.reduceLT, Nat.reduceLeDiff, Nat.reduceBNe, Nat.reduceBEq, Int.reduceToNat, Int.reduceAdd, Int.reduceSub, Int.reduceMul, Int.reduceLT, Int.reduceLE, Int.reduceNeg, Int.reduceBEq, Int.reduceBNe, Int.reduceEq, beq_self_eq_true, reduceCtorEq, decide_true, decide_false, if_pos, if_neg] <;> rfl) | fail) (by simp (disch := (first | omega | (simp only [go_sem, ↓reduceIte, Nat.reduceEqDiff, Nat.reduceAdd, Nat.reduceMul, Nat.reduceSub, Nat.reduceLT, Nat.reduceLeDiff, Nat.reduceBNe, Nat.reduceBEq, Int.reduceToNat, Int.reduceAdd, Int.reduceSub, Int.reduceMul, Int.reduceLT, Int.reduceLE, Int.reduceNeg, Int.reduceBEq, Int.reduceBNe, Int.reduceEq, beq_self_eq_true, reduceCtorEq, decide_true, decide_false, if_pos, if_neg]; first | done | omega))) only [go_sem, ↓reduceIte, Nat.reduceEqDiff, Nat.reduceAdd, Nat.reduceMul, Nat.reduceSub, Nat.reduceLT, Nat.reduceLeDiff, Nat.reduceBNe, Nat.reduceBEq, Int.reduceToNat, Int.reduceAdd, Int.reduceSub, Int.reduceMul, Int.reduceLT, Int.reduceLE, Int.reduceNeg, Int.reduceBEq, Int.reduceBNe, Int.reduceEq, beq_self_eq_true, reduceCtorEq, decide_true, decide_false, if_pos, if_neg]) (by first | (simp (disch := (first | omega | (simp only [go_sem, ↓reduceIte, Nat.reduceEqDiff, Nat.reduceAdd, Nat.reduceMul, Nat.reduceSub, Nat.reduceLT, Nat.reduceLeDiff, Nat.reduceBNe, Nat.reduceBEq, Int.reduceToNat, Int.reduceAdd, Int.reduceSub, Int.reduceMul, Int.reduceLT, Int.reduceLE, Int.reduceNeg, Int.reduceBEq, Int.reduceBNe, Int.reduceEq, beq_self_eq_true, reduceCtorEq, decide_true, decide_false, if_pos, if_neg]; first | done | omega))) only [go_sem, ↓reduceIte, Nat.reduceEqDiff, Nat.reduceAdd, Nat.reduceMul, Nat.reduceSub, Nat.reduceLT, Nat.reduceLeDiff, Nat.reduceBNe, Nat.reduceBEq, Int.reduceToNat, Int.reduceAdd, Int.reduceSub, Int.reduceMul, Int.reduceLT, Int.reduceLE, Int.reduceNeg, Int.reduceBEq, Int.reduceBNe, Int.reduceEq, beq_self_eq_true, reduceCtorEq, decide_true, decide_false, if_pos, if_neg] <;> rfl) | fail) (by decide) ?_
    | refine va_ext (hcon) (by first | (simp (disch := (first | omega | (simp only [go_sem, ↓reduceIte, Nat.reduceEqDiff, Nat.reduceAdd, Nat.reduceMul, Nat.reduceSub, Nat.reduceLT, Nat.reduceLeDiff, Nat.reduceBNe, Nat.reduceBEq, Int.reduceToNat, Int.reduceAdd, Int.reduceSub, Int.reduceMul, Int.reduceLT, Int.reduceLE, Int.reduceNeg, Int.reduceBEq, Int.reduceBNe, Int.reduceEq, beq_self_eq_true, reduceCtorEq, decide_true, decide_false, if_pos, if_neg]; first | done | omega))) only [go_sem, ↓reduceIte, Nat.reduceEqDiff, Nat.reduceAdd, Nat.reduceMul, Nat.reduceSub, Nat.reduceLT, Nat.reduceLeDiff, Nat.reduceBNe, Nat.reduceBEq, Int.reduceToNat, Int.reduceAdd, Int.reduceSub, Int.reduceMul, Int.reduceLT, Int.reduceLE, Int.reduceNeg, Int.reduceBEq, Int.reduceBNe, Int.reduceEq, beq_self_eq_true, reduceCtorEq, decide_true, decide_false, if_pos, if_neg] <;> rfl) | fail) (by simp (disch := (first | omega | (simp only [go_sem, ↓reduceIte, Nat.reduceEqDiff, Nat.reduceAdd, Nat.reduceMul, Nat.reduceSub, Nat.reduceLT, Nat.reduceLeDiff, Nat.reduceBNe, Nat.reduceBEq, Int.reduceToNat, Int.reduceAdd, Int.reduceSub, Int.reduceMul, Int.reduceLT, Int.reduceLE, Int.reduceNeg, Int.reduceBEq, Int.reduceBNe, Int.reduceEq, beq_self_eq_true, reduceCtorEq, decide_true, decide_false, if_pos, if_neg]; first | done | omega))) only [go_sem, ↓reduceIte, Nat.reduceEqDiff, Nat.reduceAdd, Nat.reduceMul, Nat.reduceSub, Nat.reduceLT, Nat.reduceLeDiff, Nat.reduceBNe, Nat.reduceBEq, Int.reduceToNat, Int.reduceAdd, Int.reduceSub, Int.reduceMul, Int.reduceLT, Int.reduceLE, Int.reduceNeg, Int.reduceBEq, Int.reduceBNe, Int.reduceEq, beq_self_eq_true, reduceCtorEq, decide_true, decide_false, if_pos, if_neg]) (by first | (simp (disch := (first | omega | (simp only [go_sem, ↓reduceIte, Nat.reduceEqDiff, Nat.reduceAdd, Nat.reduceMul, Nat.reduceSub, Nat.reduceLT, Nat.reduceLeDiff, Nat.reduceBNe, Nat.reduceBEq, Int.reduceToNat, Int.reduceAdd, Int.reduceSub, Int.reduceMul, Int.reduceLT, Int.reduceLE, Int.reduceNeg, Int.reduceBEq, Int.reduceBNe, Int.reduceEq, beq_self_eq_true, reduceCtorEq, decide_true, decide_false, if_pos, if_neg]; first | done | omega))) only [go_sem, ↓reduceIte, Nat.reduceEqDiff, Nat.reduceAdd, Nat.reduceMul, Nat.reduceSub, Nat.reduceLT, Nat.reduceLeDiff, Nat.reduceBNe, Nat.reduceBEq, Int.reduceToNat, Int.reduceAdd, Int.reduceSub, Int.reduceMul, Int.reduceLT, Int.reduceLE, Int.reduceNeg, Int.reduceBEq, Int.reduceBNe, Int.reduceEq, beq_self_eq_true, reduceCtorEq, decide_true, decide_false, if_pos, if_neg] <;> rfl) | fail) (by decide) ?_)
  exact hgo) : p := h c hq
theorem callo {C p q : Prop} (c : C) (hq : q) (h : C → q → p := by
  intro hcon hgo
  (first
    | refine vs_call (hcon) (by first | (simp (disch := (first | omega | (simp only [go_sem, ↓reduceIte, Nat.reduceEqDiff, Nat.reduceAdd, Nat.reduceMul, Nat.reduceSub, Nat.reduceLT, Nat.reduceLeDiff, Nat.reduceBNe, Nat.reduceBEq, Int.reduceToNat, Int.reduceAdd, Int.reduceSub, Int.reduceMul, Int.reduceLT, Int.reduceLE, Int.reduceNeg, Int.reduceBEq, Int.reduceBNe, Int.reduceEq, beq_self_eq_true, reduceCtorEq, decide_true, decide_false, if_pos, if_neg]; first | done | omega))) only [go_sem, ↓reduceIte, Nat.reduceEqDiff, Nat.reduceAdd, Nat.reduceMul, Nat.reduceSub, Nat.reduceLT, Nat.reduceLeDiff, Nat.reduceBNe, Nat.reduceBEq, Int.reduceToNat, Int.reduceAdd, Int.reduceSub, Int.reduceMul, Int.reduceLT, Int.reduceLE, Int.reduceNeg, Int.reduceBEq, Int.reduceBNe, Int.reduceEq, beq_self_eq_true, reduceCtorEq, decide_true, decide_false, if_pos, if_neg] <;> rfl) | fail) (by first | (simp (disch := (first | omega | (simp only [go_sem, ↓reduceIte, Nat.reduceEqDiff, Nat.reduceAdd, Nat.reduceMul, Nat.reduceSub, Nat.reduceLT, Nat.reduceLeDiff, Nat.reduceBNe, Nat.reduceBEq, Int.reduceToNat, Int.reduceAdd, Int.reduceSub, Int.reduceMul, Int.reduceLT, Int.reduceLE, Int.reduceNeg, Int.reduceBEq, Int.reduceBNe, Int.reduceEq, beq_self_eq_true, reduceCtorEq, decide_true, decide_false, if_pos, if_neg]; first | done | omega))) only [go_sem, ↓reduceIte, Nat.reduceEqDiff, Nat.reduceAdd, Nat.reduceMul, Nat.reduceSub, Nat.reduceLT, Nat.reduceLeDiff, Nat.reduceBNe, Nat.reduceBEq, Int.reduceToNat, Int.reduceAdd, Int.reduceSub, Int.reduceMul, Int.reduceLT, Int.reduceLE, Int.reduceNeg, Int.reduceBEq, Int.reduceBNe, Int.reduceEq, beq_self_eq_true, reduceCtorEq, decide_true, decide_false, if_pos, if_neg] <;> rfl) | fail) (by simp (disch := (first | omega | (simp only [go_sem, ↓reduceIte, Nat.reduceEqDiff, Nat.reduceAdd, Nat.reduceMul, Nat.reduceSub, Nat.reduceLT, Nat.reduceLeDiff, Nat.reduceBNe, Nat.reduceBEq, Int.reduceToNat, Int.reduceAdd, Int.reduceSub, Int.reduceMul, Int.reduceLT, Int.reduceLE, Int.reduceNeg, Int.reduceBEq, Int.reduceBNe, Int.reduceEq, beq_self_eq_true, reduceCtorEq, decide_true, decide_false, if_pos, if_neg]; first | done | omega))) only [go_sem, ↓reduceIte, Nat.reduceEqDiff, Nat.reduceAdd, Nat.reduceMul, Nat.reduceSub, Nat.reduceLT, Nat.reduceLeDiff, Nat.reduceBNe, Nat.reduceBEq, Int.reduceToNat, Int.reduceAdd, Int.reduceSub, Int.reduceMul, Int.reduceLT, Int.reduceLE, Int.reduceNeg, Int.reduceBEq, Int.reduceBNe, Int.reduceEq, beq_self_eq_true, reduceCtorEq, decide_true, decide_false, if_pos, if_neg]) (by decide) (by first | (simp (disch := (first | omega | (simp only [go_sem, ↓reduceIte, Nat.reduceEqDiff, Nat.reduceAdd, Nat.reduceMul, Nat.reduceSub, Nat.reduceLT, Nat.reduceLeDiff, Nat.reduceBNe, Nat.reduceBEq, Int.reduceToNat, Int.reduceAdd, Int.reduceSub, Int.reduceMul, Int.reduceLT, Int.reduceLE, Int.reduceNeg, Int.reduceBEq, Int.reduceBNe, Int.reduceEq, beq_self_eq_true, reduceCtorEq, decide_true, decide_false, if_pos, if_neg]; first | done | omega))) only [go_sem, ↓reduceIte, Nat.reduceEqDiff, Nat.reduceAdd, Nat.reduceMul, Nat.reduceSub, Nat.reduceLT, Nat.reduceLeDiff, Nat.reduceBNe, Nat.reduceBEq, Int.reduceToNat, Int.reduceAdd, Int.reduceSub, Int.reduceMul, Int.reduceLT, Int.reduceLE, Int.reduceNeg, Int.reduceBEq, Int.reduceBNe, Int.reduceEq, beq_self_eq_true, reduceCtorEq, decide_true, decide_false, if_pos, if_neg] <;> rfl) | fail) (by first | (simp (disch := (first | omega | (simp only [go_sem, ↓reduceIte, Nat.reduceEqDiff, Nat.reduceAdd, Nat.reduceMul, Nat.reduceSub, Nat.reduceLT, Nat.reduceLeDiff, Nat.reduceBNe, Nat.reduceBEq, Int.reduceToNat, Int.reduceAdd, Int.reduceSub, Int.reduceMul, Int.reduceLT, Int.reduceLE, Int.reduceNeg, Int.reduceBEq, Int.reduceBNe, Int.reduceEq, beq_self_eq_true, reduceCtorEq, decide_true, decide_false, if_pos, if_neg]; first | done | omega))) only [go_sem, ↓reduceIte, Nat.reduceEqDiff, Nat.reduceAdd, Nat.reduceMul, Nat.reduceSub, Nat.reduceLT, Nat.reduceLeDiff, Nat.reduceBNe, Nat.reduceBEq, Int.reduceToNat, Int.reduceAdd, Int.reduceSub, Int.reduceMul, Int.reduceLT, Int.reduceLE, Int.reduceNeg, Int.reduceBEq, Int.reduceBNe, Int.reduceEq, beq_self_eq_true, reduceCtorEq, decide_true, decide_false, if_pos, if_neg] <;> rfl) | fail) (by first | (simp (disch := (first | omega | (simp only [go_sem, ↓reduceIte, Nat.reduceEqDiff, Nat.reduceAdd, Nat.reduceMul, Nat.reduceSub, Nat.reduceLT, Nat.reduceLeDiff, Nat.reduceBNe, Nat.reduceBEq, Int.reduceToNat, Int.reduceAdd, Int.reduceSub, Int.reduceMul, Int.reduceLT, Int.reduceLE, Int.reduceNeg, Int.reduceBEq, Int.reduceBNe, Int.reduceEq, beq_self_eq_true, reduceCtorEq, decide_true, decide_false, if_pos, if_neg]; first | done | omega))) only [go_sem, ↓reduceIte, Nat.reduceEqDiff, Nat.reduceAdd, Nat.reduceMul, Nat.reduceSub, Nat.reduceLT, Nat.reduceLeDiff, Nat.reduceBNe, Nat.reduceBEq, Int.reduceToNat, Int.reduceAdd, Int.reduceSub, Int.reduceMul, Int.reduceLT, Int.reduceLE, Int.reduceNeg, Int.reduceBEq, Int.reduceBNe, Int.reduceEq, beq_self_eq_true, reduceCtorEq, decide_true, decide_false, if_pos, if_neg] <;> rfl) | fail) ?_
    | refine va_call (hcon) (by first | (simp (disch := (first | omega | (simp only [go_sem, ↓reduceIte, Nat.reduceEqDiff, Nat.reduceAdd, Nat.reduceMul, Nat.reduceSub, Nat.reduceLT, Nat.reduceLeDiff, Nat.reduceBNe, Nat.reduceBEq, Int.reduceToNat, Int.reduceAdd, Int.reduceSub, Int.reduceMul, Int.reduceLT, Int.reduceLE, Int.reduceNeg, Int.reduceBEq, Int.reduceBNe, Int.reduceEq, beq_self_eq_true, reduceCtorEq, decide_true, decide_false, if_pos, if_neg]; first | done | omega))) only [go_sem, ↓reduceIte, Nat.reduceEqDiff, Nat.reduceAdd, Nat.reduceMul, Nat.reduceSub, Nat.reduceLT, Nat.reduceLeDiff, Nat.reduceBNe, Nat.reduceBEq, Int.reduceToNat, Int.reduceAdd, Int.reduceSub, Int.reduceMul, Int.reduceLT, Int.reduceLE, Int.reduceNeg, Int.reduceBEq, Int.reduceBNe, Int.reduceEq, beq_self_eq_true, reduceCtorEq, decide_true, decide_false, if_pos, if_neg] <;> rfl) | fail) (by first | (simp (disch := (first | omega | (simp only [go_sem, ↓reduceIte, Nat.reduceEqDiff, Nat.reduceAdd, Nat.reduceMul, Nat.reduceSub, Nat.reduceLT, Nat.reduceLeDiff, Nat.reduceBNe, Nat.reduceBEq, Int.reduceToNat, Int.reduceAdd, Int.reduceSub, Int.reduceMul, Int.reduceLT, Int.reduceLE, Int.reduceNeg, Int.reduceBEq, Int.reduceBNe, Int.reduceEq, beq_self_eq_true, reduceCtorEq, decide_true, decide_false, if_pos, if_neg]; first | done | omega))) only [go_sem, ↓reduceIte, Nat.reduceEqDiff, Nat.reduceAdd, Nat.reduceMul, Nat.reduceSub, Nat.reduceLT, Nat.reduceLeDiff, Nat.reduceBNe, Nat.reduceBEq, Int.reduceToNat, Int.reduceAdd, Int.reduceSub, Int.reduceMul, Int.reduceLT, Int.reduceLE, Int.reduceNeg, Int.reduceBEq, Int.reduceBNe, Int.reduceEq, beq_self_eq_true, reduceCtorEq, decide_true, decide_false, if_pos, if_neg] <;> rfl) | fail) (by simp (disch := (first | omega | (simp only [go_sem, ↓reduceIte, Nat.reduceEqDiff, Nat.reduceAdd, Nat.reduceMul, Nat.reduceSub, Nat.reduceLT, Nat.reduceLeDiff, Nat.reduceBNe, Nat.reduceBEq, Int.reduceToNat, Int.reduceAdd, Int.reduceSub, Int.reduceMul, Int.reduceLT, Int.reduceLE, Int.reduceNeg, Int.reduceBEq, Int.reduceBNe, Int.reduceEq, beq_self_eq_true, reduceCtorEq, decide_true, decide_false, if_pos, if_neg]; first | done | omega))) only [go_sem, ↓reduceIte, Nat.reduceEqDiff, Nat.reduceAdd, Nat.reduceMul, Nat.reduceSub, Nat.reduceLT, Nat.reduceLeDiff, Nat.reduceBNe, Nat.reduceBEq, Int.reduceToNat, Int.reduceAdd, Int.reduceSub, Int.reduceMul, Int.reduceLT, Int.reduceLE, Int.reduceNeg, Int.reduceBEq, Int.reduceBNe, Int.reduceEq, beq_self_eq_true, reduceCtorEq, decide_true, decide_false, if_pos, if_neg]) (by decide) (by first | (simp (disch := (first | omega | (simp only [go_sem, ↓reduceIte, Nat.reduceEqDiff, Nat.reduceAdd, Nat.reduceMul, Nat.reduceSub, Nat.reduceLT, Nat.reduceLeDiff, Nat.reduceBNe, Nat.reduceBEq, Int.reduceToNat, Int.reduceAdd, Int.reduceSub, Int.reduceMul, Int.reduceLT, Int.reduceLE, Int.reduceNeg, Int.reduceBEq, Int.reduceBNe, Int.reduceEq, beq_self_eq_true, reduceCtorEq, decide_true, decide_false, if_pos, if_neg]; first | done | omega))) only [go_sem, ↓reduceIte, Nat.reduceEqDiff, Nat.reduceAdd, Nat.reduceMul, Nat.reduceSub, Nat.reduceLT, Nat.reduceLeDiff, Nat.reduceBNe, Nat.reduceBEq, Int.reduceToNat, Int.reduceAdd, Int.reduceSub, Int.reduceMul, Int.reduceLT, Int.reduceLE, Int.reduceNeg, Int.reduceBEq, Int.reduceBNe, Int.reduceEq, beq_self_eq_true, reduceCtorEq, decide_true, decide_false, if_pos, if_neg] <;> rfl) | fail) (by first | (simp (disch := (first | omega | (simp only [go_sem, ↓reduceIte, Nat.reduceEqDiff, Nat.reduceAdd, Nat.reduceMul, Nat.reduceSub, Nat.reduceLT, Nat.reduceLeDiff, Nat.reduceBNe, Nat.reduceBEq, Int.reduceToNat, Int.reduceAdd, Int.reduceSub, Int.reduceMul, Int.reduceLT, Int.reduceLE, Int.reduceNeg, Int.reduceBEq, Int.reduceBNe, Int.reduceEq, beq_self_eq_true, reduceCtorEq, decide_true, decide_false, if_pos, if_neg]; first | done | omega))) only [go_sem, ↓reduceIte, Nat.reduceEqDiff, Nat.reduceAdd, Nat.reduceMul, Nat.reduceSub, Nat.reduceLT, Nat.reduceLeDiff, Nat.reduceBNe, Nat.reduceBEq, Int.reduceToNat, Int.reduceAdd, Int.reduceSub, Int.reduceMul, Int.reduceLT, Int.reduceLE, Int.reduceNeg, Int.reduceBEq, Int.reduceBNe, Int.reduceEq, beq_self_eq_true, reduceCtorEq, decide_true, decide_false, if_pos, if_neg] <;> rfl) | fail) (by first | (simp (disch := (first | omega | (simp only [go_sem, ↓reduceIte, Nat.reduceEqDiff, Nat.reduceAdd, Nat.reduceMul, Nat.reduceSub, Nat.reduceLT, Nat.reduceLeDiff, Nat.reduceBNe, Nat.reduceBEq, Int.reduceToNat, Int.reduceAdd, Int.reduceSub, Int.reduceMul, Int.reduceLT, Int.reduceLE, Int.reduceNeg, Int.reduceBEq, Int.reduceBNe, Int.reduceEq, beq_self_eq_true, reduceCtorEq, decide_true, decide_false, if_pos, if_neg]; first | done | omega))) only [go_sem, ↓reduceIte, Nat.reduceEqDiff, Nat.reduceAdd, Nat.reduceMul, Nat.reduceSub, Nat.reduceLT, Nat.reduceLeDiff, Nat.reduceBNe, Nat.reduceBEq, Int.reduceToNat, Int.reduceAdd, Int.reduceSub, Int.reduceMul, Int.reduceLT, Int.reduceLE, Int.reduceNeg, Int.reduceBEq, Int.reduceBNe, Int.reduceEq, beq_self_eq_true, reduceCtorEq, decide_true, decide_false, if_pos, if_neg] <;> rfl) | fail) (by first | (simp (disch := (first | omega | (simp only [go_sem, ↓reduceIte, Nat.reduceEqDiff, Nat.reduceAdd, Nat.reduceMul, Nat.reduceSub, Nat.reduceLT, Nat.reduceLeDiff, Nat.reduceBNe, Nat.reduceBEq, Int.reduceToNat, Int.reduceAdd, Int.reduceSub, Int.reduceMul, Int.reduceLT, Int.reduceLE, Int.reduceNeg, Int.reduceBEq, Int.reduceBNe, Int.reduceEq, beq_self_eq_true, reduceCtorEq, decide_true, decide_false, if_pos, if_neg]; first | done | omega))) only [go_sem, ↓reduceIte, Nat.reduceEqDiff, Nat.reduceAdd, Nat.reduceMul, Nat.reduceSub, Nat.reduceLT, Nat.reduceLeDiff, Nat.reduceBNe, Nat.reduceBEq, Int.reduceToNat, Int.reduceAdd, Int.reduceSub, Int.reduceMul, Int.reduceLT, Int.reduceLE, Int.reduceNeg, Int.reduceBEq, Int.reduceBNe, Int.reduceEq, beq_self_eq_true, reduceCtorEq, decide_true, decide_false, if_pos, if_neg] <;> rfl) | fail) (by first | (simp (disch := (first | omega | (simp only [go_sem, ↓reduceIte, Nat.reduceEqDiff, Nat.reduceAdd, Nat.reduceMul, Nat.reduceSub, Nat.reduceLT, Nat.reduceLeDiff, Nat.reduceBNe, Nat.reduceBEq, Int.reduceToNat, Int.reduceAdd, Int.reduceSub, Int.reduceMul, Int.reduceLT, Int.reduceLE, Int.reduceNeg, Int.reduceBEq, Int.reduceBNe, Int.reduceEq, beq_self_eq_true, reduceCtorEq, decide_true, decide_false, if_pos, if_neg]; first | done | omega))) only [go_sem, ↓reduceIte, Nat.reduceEqDiff, Nat.reduceAdd, Nat.reduceMul, Nat.reduceSub, Nat.reduceLT, Nat.reduceLeDiff, Nat.reduceBNe, Nat.reduceBEq, Int.reduceToNat, Int.reduceAdd, Int.reduceSub, Int.reduceMul, Int.reduceLT, Int.reduceLE, Int.reduceNeg, Int.reduceBEq, Int.reduceBNe, Int.reduceEq, beq_self_eq_true, reduceCtorEq, decide_true, decide_false, if_pos, if_neg] <;> rfl) | fail) ?_)
  exact hgo) : p := h c hq
theorem callf {C p q : Prop} (c : C) (hq : q) (h : C → q → p := by
  intro hcon hgo
  (first
    | refine vs_callf (hcon) (by first | (simp (disch := (first | omega | (simp only [go_sem, ↓reduceIte, Nat.reduceEqDiff, Nat.reduceAdd, Nat.reduceMul, Nat.reduceSub, Nat.reduceLT, Nat.reduceLeDiff, Nat.reduceBNe, Nat.reduceBEq, Int.reduceToNat, Int.reduceAdd, Int.reduceSub, Int.reduceMul, Int.reduceLT, Int.reduceLE, Int.reduceNeg, Int.reduceBEq, Int.reduceBNe, Int.reduceEq, beq_self_eq_true, reduceCtorEq, decide_true, decide_false, if_pos, if_neg]; first | done | omega))) only [go_sem, ↓reduceIte, Nat.reduceEqDiff, Nat.reduceAdd, Nat.reduceMul, Nat.reduceSub, Nat.reduceLT, Nat.reduceLeDiff, Nat.reduceBNe, Nat.reduceBEq, Int.reduceToNat, Int.reduceAdd, Int.reduceSub, Int.reduceMul, Int.reduceLT, Int.reduceLE, Int.reduceNeg, Int.reduceBEq, Int.reduceBNe, Int.reduceEq, beq_self_eq_true, reduceCtorEq, decide_true, decide_false, if_pos, if_neg] <;> rfl) | fail) (by first | (simp (disch := (first | omega | (simp only [go_sem, ↓reduceIte, Nat.reduceEqDiff, Nat.reduceAdd, Nat.reduceMul, Nat.reduceSub, Nat.reduceLT, Nat.reduceLeDiff, Nat.reduceBNe, Nat.reduceBEq, Int.reduceToNat, Int.reduceAdd, Int.reduceSub, Int.reduceMul, Int.reduceLT, Int.reduceLE, Int.reduceNeg, Int.reduceBEq, Int.reduceBNe, Int.reduceEq, beq_self_eq_true, reduceCtorEq, decide_true, decide_false, if_pos, if_neg]; first | done | omega))) only [go_sem, ↓reduceIte, Nat.reduceEqDiff, Nat.reduceAdd, Nat.reduceMul, Nat.reduceSub, Nat.reduceLT, Nat.reduceLeDiff, Nat.reduceBNe, Nat.reduceBEq, Int.reduceToNat, Int.reduceAdd, Int.reduceSub, Int.reduceMul, Int.reduceLT, Int.reduceLE, Int.reduceNeg, Int.reduceBEq, Int.reduceBNe, Int.reduceEq, beq_self_eq_true, reduceCtorEq, decide_true, decide_false, if_pos, if_neg] <;> rfl) | fail) (by simp (disch := (first | omega | (simp only [go_sem, ↓reduceIte, Nat.reduceEqDiff, Nat.reduceAdd, Nat.reduceMul, Nat.reduceSub, Nat.reduceLT, Nat.reduceLeDiff, Nat.reduceBNe, Nat.reduceBEq, Int.reduceToNat, Int.reduceAdd, Int.reduceSub, Int.reduceMul, Int.reduceLT, Int.reduceLE, Int.reduceNeg, Int.reduceBEq, Int.reduceBNe, Int.reduceEq, beq_self_eq_true, reduceCtorEq, decide_true, decide_false, if_pos, if_neg]; first | done | omega))) only [go_sem, ↓reduceIte, Nat.reduceEqDiff, Nat.reduceAdd, Nat.reduceMul, Nat.reduceSub, Nat.reduceLT, Nat.reduceLeDiff, Nat.reduceBNe, Nat.reduceBEq, Int.reduceToNat, Int.reduceAdd, Int.reduceSub, Int.reduceMul, Int.reduceLT, Int.reduceLE, Int.reduceNeg, Int.reduceBEq, Int.reduceBNe, Int.reduceEq, beq_self_eq_true, reduceCtorEq, decide_true, decide_false, if_pos, if_neg]) (by decide) (by first | (simp (disch := (first | omega | (simp only [go_sem, ↓reduceIte, Nat.reduceEqDiff, Nat.reduceAdd, Nat.reduceMul, Nat.reduceSub, Nat.reduceLT, Nat.reduceLeDiff, Nat.reduceBNe, Nat.reduceBEq, Int.reduceToNat, Int.reduceAdd, Int.reduceSub, Int.reduceMul, Int.reduceLT, Int.reduceLE, Int.reduceNeg, Int.reduceBEq, Int.reduceBNe, Int.reduceEq, beq_self_eq_true, reduceCtorEq, decide_true, decide_false, if_pos, if_neg]; first | done | omega))) only [go_sem, ↓reduceIte, Nat.reduceEqDiff, Nat.reduceAdd, Nat.reduceMul, Nat.reduceSub, Nat.reduceLT, Nat.reduceLeDiff, Nat.reduceBNe, Nat.reduceBEq, Int.reduceToNat, Int.reduceAdd, Int.reduceSub, Int.reduceMul, Int.reduceLT, Int.reduceLE, Int.reduceNeg, Int.reduceBEq, Int.reduceBNe, Int.reduceEq, beq_self_eq_true, reduceCtorEq, decide_true, decide_false, if_pos, if_neg] <;> rfl) | fail) ?_
    | refine va_callf (hcon) (by first | (simp (disch := (first | omega | (simp only [go_sem, ↓reduceIte, Nat.reduceEqDiff, Nat.reduceAdd, Nat.reduceMul, Nat.reduceSub, Nat.reduceLT, Nat.reduceLeDiff, Nat.reduceBNe, Nat.reduceBEq, Int.reduceToNat, Int.reduceAdd, Int.reduceSub, Int.reduceMul, Int.reduceLT, Int.reduceLE, Int.reduceNeg, Int.reduceBEq, Int.reduceBNe, Int.reduceEq, beq_self_eq_true, reduceCtorEq, decide_true, decide_false, if_pos, if_neg]; first | done | omega))) only [go_sem, ↓reduceIte, Nat.reduceEqDiff, Nat.reduceAdd, Nat.reduceMul, Nat.reduceSub, Nat.reduceLT, Nat.reduceLeDiff, Nat.reduceBNe, Nat.reduceBEq, Int.reduceToNat, Int.reduceAdd, Int.reduceSub, Int.reduceMul, Int.reduceLT, Int.reduceLE, Int.reduceNeg, Int.reduceBEq, Int.reduceBNe, Int.reduceEq, beq_self_eq_true, reduceCtorEq, decide_true, decide_false, if_pos, if_neg] <;> rfl) | fail) (by first | (simp (disch := (first | omega | (simp only [go_sem, ↓reduceIte, Nat.reduceEqDiff, Nat.reduceAdd, Nat.reduceMul, Nat.reduceSub, Nat.reduceLT, Nat.reduceLeDiff, Nat.reduceBNe, Nat.reduceBEq, Int.reduceToNat, Int.reduceAdd, Int.reduceSub, Int.reduceMul, Int.reduceLT, Int.reduceLE, Int.reduceNeg, Int.reduceBEq, Int.reduceBNe, Int.reduceEq, beq_self_eq_true, reduceCtorEq, decide_true, decide_false, if_pos, if_neg]; first | done | omega))) only [go_sem, ↓reduceIte, Nat.reduceEqDiff, Nat.reduceAdd, Nat.reduceMul, Nat.reduceSub, Nat.reduceLT, Nat.reduceLeDiff, Nat.reduceBNe, Nat.reduceBEq, Int.reduceToNat, Int.reduceAdd, Int.reduceSub, Int.reduceMul, Int.reduceLT, Int.reduceLE, Int.reduceNeg, Int.reduceBEq, Int.reduceBNe, Int.reduceEq, beq_self_eq_true, reduceCtorEq, decide_true, decide_false, if_pos, if_neg] <;> rfl) | fail) (by simp (disch := (first | omega | (simp only [go_sem, ↓reduceIte, Nat.reduceEqDiff, Nat.reduceAdd, Nat.reduceMul, Nat.reduceSub, Nat.reduceLT, Nat.reduceLeDiff, Nat.reduceBNe, Nat.reduceBEq, Int.reduceToNat, Int.reduceAdd, Int.reduceSub, Int.reduceMul, Int.reduceLT, Int.reduceLE, Int.reduceNeg, Int.reduceBEq, Int.reduceBNe, Int.reduceEq, beq_self_eq_true, reduceCtorEq, decide_true, decide_false, if_pos, if_neg]; first | done | omega))) only [go_sem, ↓reduceIte, Nat.reduceEqDiff, Nat.reduceAdd, Nat.reduceMul, Nat.reduceSub, Nat.reduceLT, Nat.reduceLeDiff, Nat.reduceBNe, Nat.reduceBEq, Int.reduceToNat, Int.reduceAdd, Int.reduceSub, Int.reduceMul, Int.reduceLT, Int.reduceLE, Int.reduceNeg, Int.reduceBEq, Int.reduceBNe, Int.reduceEq, beq_self_eq_true, reduceCtorEq, decide_true, decide_false, if_pos, if_neg]) (by decide) (by first | (simp (disch := (first | omega | (simp only [go_sem, ↓reduceIte, Nat.reduceEqDiff, Nat.reduceAdd, Nat.reduceMul, Nat.reduceSub, Nat.reduceLT, Nat.reduceLeDiff, Nat.reduceBNe, Nat.reduceBEq, Int.reduceToNat, Int.reduceAdd, Int.reduceSub, Int.reduceMul, Int.reduceLT, Int.reduceLE, Int.reduceNeg, Int.reduceBEq, Int.reduceBNe, Int.reduceEq, beq_self_eq_true, reduceCtorEq, decide_true, decide_false, if_pos, if_neg]; first | done | omega))) only [go_sem, ↓reduceIte, Nat.reduceEqDiff, Nat.reduceAdd, Nat.reduceMul, Nat.reduceSub, Nat.reduceLT, Nat.reduceLeDiff, Nat.reduceBNe, Nat.reduceBEq, Int.reduceToNat, Int.reduceAdd, Int.reduceSub, Int.reduceMul, Int.reduceLT, Int.reduceLE, Int.reduceNeg, Int.reduceBEq, Int.reduceBNe, Int.reduceEq, beq_self_eq_true, reduceCtorEq, decide_true, decide_false, if_pos, if_neg] <;> rfl) | fail) ?_)
  exact hgo) : p := h c hq
theorem callg {C p q : Prop} (c : C) (hq : q) (h : C → q → p := by
  intro hcon hgo
  (first
    | refine vg_call (hcon) rfl (by first | (simp (disch := (first | omega | (simp only [go_sem, ↓reduceIte, Nat.reduceEqDiff, Nat.reduceAdd, Nat.reduceMul, Nat.reduceSub, Nat.reduceLT, Nat.reduceLeDiff, Nat.reduceBNe, Nat.reduceBEq, Int.reduceToNat, Int.reduceAdd, Int.reduceSub, Int.reduceMul, Int.reduceLT, Int.reduceLE, Int.reduceNeg, Int.reduceBEq, Int.reduceBNe, Int.reduceEq, beq_self_eq_true, reduceCtorEq, decide_true, decide_false, if_pos, if_neg]; first | done | omega))) only [go_sem, ↓reduceIte, Nat.reduceEqDiff, Nat.reduceAdd, Nat.reduceMul, Nat.reduceSub, Nat.reduceLT, Nat.reduceLeDiff, Nat.reduceBNe, Nat.reduceBEq, Int.reduceToNat, Int.reduceAdd, Int.reduceSub, Int.reduceMul, Int.reduceLT, Int.reduceLE, Int.reduceNeg, Int.reduceBEq, Int.reduceBNe, Int.reduceEq, beq_self_eq_true, reduceCtorEq, decide_true, decide_false, if_pos, if_neg] <;> rfl) | fail) (by first | (simp (disch := (first | omega | (simp only [go_sem, ↓reduceIte, Nat.reduceEqDiff, Nat.reduceAdd, Nat.reduceMul, Nat.reduceSub, Nat.reduceLT, Nat.reduceLeDiff, Nat.reduceBNe, Nat.reduceBEq, Int.reduceToNat, Int.reduceAdd, Int.reduceSub, Int.reduceMul, Int.reduceLT, Int.reduceLE, Int.reduceNeg, Int.reduceBEq, Int.reduceBNe, Int.reduceEq, beq_self_eq_true, reduceCtorEq, decide_true, decide_false, if_pos, if_neg]; first | done | omega))) only [go_sem, ↓reduceIte, Nat.reduceEqDiff, Nat.reduceAdd, Nat.reduceMul, Nat.reduceSub, Nat.reduceLT, Nat.reduceLeDiff, Nat.reduceBNe, Nat.reduceBEq, Int.reduceToNat, Int.reduceAdd, Int.reduceSub, Int.reduceMul, Int.reduceLT, Int.reduceLE, Int.reduceNeg, Int.reduceBEq, Int.reduceBNe, Int.reduceEq, beq_self_eq_true, reduceCtorEq, decide_true, decide_false, if_pos, if_neg] <;> rfl) | fail) (fun hg => by (try (have hg' := hg; simp only [decide_eq_true_eq, decide_eq_false_iff_not, Bool.or_eq_true, Bool.and_eq_true, Bool.or_eq_false_iff, Bool.and_eq_false_iff, Bool.not_eq_true', Bool.not_eq_false', bne_iff_ne, beq_iff_eq, ne_eq, bne_eq_false_iff_eq, beq_eq_false_iff_ne, ge_iff_le, gt_iff_lt, Int.not_le, Int.not_lt] at hg')); first | (simp (disch := (first | omega | (simp only [go_sem, ↓reduceIte, Nat.reduceEqDiff, Nat.reduceAdd, Nat.reduceMul, Nat.reduceSub, Nat.reduceLT, Nat.reduceLeDiff, Nat.reduceBNe, Nat.reduceBEq, Int.reduceToNat, Int.reduceAdd, Int.reduceSub, Int.reduceMul, Int.reduceLT, Int.reduceLE, Int.reduceNeg, Int.reduceBEq, Int.reduceBNe, Int.reduceEq, beq_self_eq_true, reduceCtorEq, decide_true, decide_false, if_pos, if_neg]; first | done | omega))) only [go_sem, ↓reduceIte, Nat.reduceEqDiff, Nat.reduceAdd, Nat.reduceMul, Nat.reduceSub, Nat.reduceLT, Nat.reduceLeDiff, Nat.reduceBNe, Nat.reduceBEq, Int.reduceToNat, Int.reduceAdd, Int.reduceSub, Int.reduceMul, Int.reduceLT, Int.reduceLE, Int.reduceNeg, Int.reduceBEq, Int.reduceBNe, Int.reduceEq, beq_self_eq_true, reduceCtorEq, decide_true, decide_false, if_pos, if_neg, hg] <;> rfl) | fail) (by simp (disch := (first | omega | (simp only [go_sem, ↓reduceIte, Nat.reduceEqDiff, Nat.reduceAdd, Nat.reduceMul, Nat.reduceSub, Nat.reduceLT, Nat.reduceLeDiff, Nat.reduceBNe, Nat.reduceBEq, Int.reduceToNat, Int.reduceAdd, Int.reduceSub, Int.reduceMul, Int.reduceLT, Int.reduceLE, Int.reduceNeg, Int.reduceBEq, Int.reduceBNe, Int.reduceEq, beq_self_eq_true, reduceCtorEq, decide_true, decide_false, if_pos, if_neg]; first | done | omega))) only [go_sem, ↓reduceIte, Nat.reduceEqDiff, Nat.reduceAdd, Nat.reduceMul, Nat.reduceSub, Nat.reduceLT, Nat.reduceLeDiff, Nat.reduceBNe, Nat.reduceBEq, Int.reduceToNat, Int.reduceAdd, Int.reduceSub, Int.reduceMul, Int.reduceLT, Int.reduceLE, Int.reduceNeg, Int.reduceBEq, Int.reduceBNe, Int.reduceEq, beq_self_eq_true, reduceCtorEq, decide_true, decide_false, if_pos, if_neg]) (by decide) (by first | (simp (disch := (first | omega | (simp only [go_sem, ↓reduceIte, Nat.reduceEqDiff, Nat.reduceAdd, Nat.reduceMul, Nat.reduceSub, Nat.reduceLT, Nat.reduceLeDiff, Nat.reduceBNe, Nat.reduceBEq, Int.reduceToNat, Int.reduceAdd, Int.reduceSub, Int.reduceMul, Int.reduceLT, Int.reduceLE, Int.reduceNeg, Int.reduceBEq, Int.reduceBNe, Int.reduceEq, beq_self_eq_true, reduceCtorEq, decide_true, decide_false, if_pos, if_neg]; first | done | omega))) only [go_sem, ↓reduceIte, Nat.reduceEqDiff, Nat.reduceAdd, Nat.reduceMul, Nat.reduceSub, Nat.reduceLT, Nat.reduceLeDiff, Nat.reduceBNe, Nat.reduceBEq, Int.reduceToNat, Int.reduceAdd, Int.reduceSub, Int.reduceMul, Int.reduceLT, Int.reduceLE, Int.reduceNeg, Int.reduceBEq, Int.reduceBNe, Int.reduceEq, beq_self_eq_true, reduceCtorEq, decide_true, decide_false, if_pos, if_neg] <;> rfl) | fail) ?_
    | refine vga_call (hcon) rfl (by first | (simp (disch := (first | omega | (simp only [go_sem, ↓reduceIte, Nat.reduceEqDiff, Nat.reduceAdd, Nat.reduceMul, Nat.reduceSub, Nat.reduceLT, Nat.reduceLeDiff, Nat.reduceBNe, Nat.reduceBEq, Int.reduceToNat, Int.reduceAdd, Int.reduceSub, Int.reduceMul, Int.reduceLT, Int.reduceLE, Int.reduceNeg, Int.reduceBEq, Int.reduceBNe, Int.reduceEq, beq_self_eq_true, reduceCtorEq, decide_true, decide_false, if_pos, if_neg]; first | done | omega))) only [go_sem, ↓reduceIte, Nat.reduceEqDiff, Nat.reduceAdd, Nat.reduceMul, Nat.reduceSub, Nat.reduceLT, Nat.reduceLeDiff, Nat.reduceBNe, Nat.reduceBEq, Int.reduceToNat, Int.reduceAdd, Int.reduceSub, Int.reduceMul, Int.reduceLT, Int.reduceLE, Int.reduceNeg, Int.reduceBEq, Int.reduceBNe, Int.reduceEq, beq_self_eq_true, reduceCtorEq, decide_true, decide_false, if_pos, if_neg] <;> rfl) | fail) (by first | (simp (disch := (first | omega | (simp only [go_sem, ↓reduceIte, Nat.reduceEqDiff, Nat.reduceAdd, Nat.reduceMul, Nat.reduceSub, Nat.reduceLT, Nat.reduceLeDiff, Nat.reduceBNe, Nat.reduceBEq, Int.reduceToNat, Int.reduceAdd, Int.reduceSub, Int.reduceMul, Int.reduceLT, Int.reduceLE, Int.reduceNeg, Int.reduceBEq, Int.reduceBNe, Int.reduceEq, beq_self_eq_true, reduceCtorEq, decide_true, decide_false, if_pos, if_neg]; first | done | omega))) only [go_sem, ↓reduceIte, Nat.reduceEqDiff, Nat.reduceAdd, Nat.reduceMul, Nat.reduceSub, Nat.reduceLT, Nat.reduceLeDiff, Nat.reduceBNe, Nat.reduceBEq, Int.reduceToNat, Int.reduceAdd, Int.reduceSub, Int.reduceMul, Int.reduceLT, Int.reduceLE, Int.reduceNeg, Int.reduceBEq, Int.reduceBNe, Int.reduceEq, beq_self_eq_true, reduceCtorEq, decide_true, decide_false, if_pos, if_neg] <;> rfl) | fail) (fun hg => by (try (have hg' := hg; simp only [decide_eq_true_eq, decide_eq_false_iff_not, Bool.or_eq_true, Bool.and_eq_true, Bool.or_eq_false_iff, Bool.and_eq_false_iff, Bool.not_eq_true', Bool.not_eq_false', bne_iff_ne, beq_iff_eq, ne_eq, bne_eq_false_iff_eq, beq_eq_false_iff_ne, ge_iff_le, gt_iff_lt, Int.not_le, Int.not_lt] at hg')); first | (simp (disch := (first | omega | (simp only [go_sem, ↓reduceIte, Nat.reduceEqDiff, Nat.reduceAdd, Nat.reduceMul, Nat.reduceSub, Nat.reduceLT, Nat.reduceLeDiff, Nat.reduceBNe, Nat.reduceBEq, Int.reduceToNat, Int.reduceAdd, Int.reduceSub, Int.reduceMul, Int.reduceLT, Int.reduceLE, Int.reduceNeg, Int.reduceBEq, Int.reduceBNe, Int.reduceEq, beq_self_eq_true, reduceCtorEq, decide_true, decide_false, if_pos, if_neg]; first | done | omega))) only [go_sem, ↓reduceIte, Nat.reduceEqDiff, Nat.reduceAdd, Nat.reduceMul, Nat.reduceSub, Nat.reduceLT, Nat.reduceLeDiff, Nat.reduceBNe, Nat.reduceBEq, Int.reduceToNat, Int.reduceAdd, Int.reduceSub, Int.reduceMul, Int.reduceLT, Int.reduceLE, Int.reduceNeg, Int.reduceBEq, Int.reduceBNe, Int.reduceEq, beq_self_eq_true, reduceCtorEq, decide_true, decide_false, if_pos, if_neg, hg] <;> rfl) | fail) (by simp (disch := (first | omega | (simp only [go_sem, ↓reduceIte, Nat.reduceEqDiff, Nat.reduceAdd, Nat.reduceMul, Nat.reduceSub, Nat.reduceLT, Nat.reduceLeDiff, Nat.reduceBNe, Nat.reduceBEq, Int.reduceToNat, Int.reduceAdd, Int.reduceSub, Int.reduceMul, Int.reduceLT, Int.reduceLE, Int.reduceNeg, Int.reduceBEq, Int.reduceBNe, Int.reduceEq, beq_self_eq_true, reduceCtorEq, decide_true, decide_false, if_pos, if_neg]; first | done | omega))) only [go_sem, ↓reduceIte, Nat.reduceEqDiff, Nat.reduceAdd, Nat.reduceMul, Nat.reduceSub, Nat.reduceLT, Nat.reduceLeDiff, Nat.reduceBNe, Nat.reduceBEq, Int.reduceToNat, Int.reduceAdd, Int.reduceSub, Int.reduceMul, Int.reduceLT, Int.reduceLE, Int.reduceNeg, Int.reduceBEq, Int.reduceBNe, Int.reduceEq, beq_self_eq_true, reduceCtorEq, decide_true, decide_false, if_pos, if_neg]) (by decide) (by first | (simp (disch := (first | omega | (simp only [go_sem, ↓reduceIte, Nat.reduceEqDiff, Nat.reduceAdd, Nat.reduceMul, Nat.reduceSub, Nat.reduceLT, Nat.reduceLeDiff, Nat.reduceBNe, Nat.reduceBEq, Int.reduceToNat, Int.reduceAdd, Int.reduceSub, Int.reduceMul, Int.reduceLT, Int.reduceLE, Int.reduceNeg, Int.reduceBEq, Int.reduceBNe, Int.reduceEq, beq_self_eq_true, reduceCtorEq, decide_true, decide_false, if_pos, if_neg]; first | done | omega))) only [go_sem, ↓reduceIte, Nat.reduceEqDiff, Nat.reduceAdd, Nat.reduceMul, Nat.reduceSub, Nat.reduceLT, Nat.reduceLeDiff, Nat.reduceBNe, Nat.reduceBEq, Int.reduceToNat, Int.reduceAdd, Int.reduceSub, Int.reduceMul, Int.reduceLT, Int.reduceLE, Int.reduceNeg, Int.reduceBEq, Int.reduceBNe, Int.reduceEq, beq_self_eq_true, reduceCtorEq, decide_true, decide_false, if_pos, if_neg] <;> rfl) | fail) (fun hg => by (try (have hg' := hg; simp only [decide_eq_true_eq, decide_eq_false_iff_not, Bool.or_eq_true, Bool.and_eq_true, Bool.or_eq_false_iff, Bool.and_eq_false_iff, Bool.not_eq_true', Bool.not_eq_false', bne_iff_ne, beq_iff_eq, ne_eq, bne_eq_false_iff_eq, beq_eq_false_iff_ne, ge_iff_le, gt_iff_lt, Int.not_le, Int.not_lt] at hg')); first | (simp (disch := (first | omega | (simp only [go_sem, ↓reduceIte, Nat.reduceEqDiff, Nat.reduceAdd, Nat.reduceMul, Nat.reduceSub, Nat.reduceLT, Nat.reduceLeDiff, Nat.reduceBNe, Nat.reduceBEq, Int.reduceToNat, Int.reduceAdd, Int.reduceSub, Int.reduceMul, Int.reduceLT, Int.reduceLE, Int.reduceNeg, Int.reduceBEq, Int.reduceBNe, Int.reduceEq, beq_self_eq_true, reduceCtorEq, decide_true, decide_false, if_pos, if_neg]; first | done | omega))) only [go_sem, ↓reduceIte, Nat.reduceEqDiff, Nat.reduceAdd, Nat.reduceMul, Nat.reduceSub, Nat.reduceLT, Nat.reduceLeDiff, Nat.reduceBNe, Nat.reduceBEq, Int.reduceToNat, Int.reduceAdd, Int.reduceSub, Int.reduceMul, Int.reduceLT, Int.reduceLE, Int.reduceNeg, Int.reduceBEq, Int.reduceBNe, Int.reduceEq, beq_self_eq_true, reduceCtorEq, decide_true, decide_false, if_pos, if_neg, hg] <;> rfl) | fail) ?_)
  exact hgo) : p := h c hq
theorem callgf {C p q : Prop} (c : C) (hq : q) (h : C → q → p := by
  intro hcon hgo
  (first
    | refine vg_callf (hcon) rfl (by first | (simp (disch := (first | omega | (simp only [go_sem, ↓reduceIte, Nat.reduceEqDiff, Nat.reduceAdd, Nat.reduceMul, Nat.reduceSub, Nat.reduceLT, Nat.reduceLeDiff, Nat.reduceBNe, Nat.reduceBEq, Int.reduceToNat, Int.reduceAdd, Int.reduceSub, Int.reduceMul, Int.reduceLT, Int.reduceLE, Int.reduceNeg, Int.reduceBEq, Int.reduceBNe, Int.reduceEq, beq_self_eq_true, reduceCtorEq, decide_true, decide_false, if_pos, if_neg]; first | done | omega))) only [go_sem, ↓reduceIte, Nat.reduceEqDiff, Nat.reduceAdd, Nat.reduceMul, Nat.reduceSub, Nat.reduceLT, Nat.reduceLeDiff, Nat.reduceBNe, Nat.reduceBEq, Int.reduceToNat, Int.reduceAdd, Int.reduceSub, Int.reduceMul, Int.reduceLT, Int.reduceLE, Int.reduceNeg, Int.reduceBEq, Int.reduceBNe, Int.reduceEq, beq_self_eq_true, reduceCtorEq, decide_true, decide_false, if_pos, if_neg] <;> rfl) | fail) (fun hg => by (try (have hg' := hg; simp only [decide_eq_true_eq, decide_eq_false_iff_not, Bool.or_eq_true, Bool.and_eq_true, Bool.or_eq_false_iff, Bool.and_eq_false_iff, Bool.not_eq_true', Bool.not_eq_false', bne_iff_ne, beq_iff_eq, ne_eq, bne_eq_false_iff_eq, beq_eq_false_iff_ne, ge_iff_le, gt_iff_lt, Int.not_le, Int.not_lt] at hg')); first | (simp (disch := (first | omega | (simp only [go_sem, ↓reduceIte, Nat.reduceEqDiff, Nat.reduceAdd, Nat.reduceMul, Nat.reduceSub, Nat.reduceLT, Nat.reduceLeDiff, Nat.reduceBNe, Nat.reduceBEq, Int.reduceToNat, Int.reduceAdd, Int.reduceSub, Int.reduceMul, Int.reduceLT, Int.reduceLE, Int.reduceNeg, Int.reduceBEq, Int.reduceBNe, Int.reduceEq, beq_self_eq_true, reduceCtorEq, decide_true, decide_false, if_pos, if_neg]; first | done | omega))) only [go_sem, ↓reduceIte, Nat.reduceEqDiff, Nat.reduceAdd, Nat.reduceMul, Nat.reduceSub, Nat.reduceLT, Nat.reduceLeDiff, Nat.reduceBNe, Nat.reduceBEq, Int.reduceToNat, Int.reduceAdd, Int.reduceSub, Int.reduceMul, Int.reduceLT, Int.reduceLE, Int.reduceNeg, Int.reduceBEq, Int.reduceBNe, Int.reduceEq, beq_self_eq_true, reduceCtorEq, decide_true, decide_false, if_pos, if_neg, hg] <;> rfl) | fail) (fun hg => by (try (have hg' := hg; simp only [decide_eq_true_eq, decide_eq_false_iff_not, Bool.or_eq_true, Bool.and_eq_true, Bool.or_eq_false_iff, Bool.and_eq_false_iff, Bool.not_eq_true', Bool.not_eq_false', bne_iff_ne, beq_iff_eq, ne_eq, bne_eq_false_iff_eq, beq_eq_false_iff_ne, ge_iff_le, gt_iff_lt, Int.not_le, Int.not_lt] at hg')); first | (simp (disch := (first | omega | (simp only [go_sem, ↓reduceIte, Nat.reduceEqDiff, Nat.reduceAdd, Nat.reduceMul, Nat.reduceSub, Nat.reduceLT, Nat.reduceLeDiff, Nat.reduceBNe, Nat.reduceBEq, Int.reduceToNat, Int.reduceAdd, Int.reduceSub, Int.reduceMul, Int.reduceLT, Int.reduceLE, Int.reduceNeg, Int.reduceBEq, Int.reduceBNe, Int.reduceEq, beq_self_eq_true, reduceCtorEq, decide_true, decide_false, if_pos, if_neg]; first | done | omega))) only [go_sem, ↓reduceIte, Nat.reduceEqDiff, Nat.reduceAdd, Nat.reduceMul, Nat.reduceSub, Nat.reduceLT, Nat.reduceLeDiff, Nat.reduceBNe, Nat.reduceBEq, Int.reduceToNat, Int.reduceAdd, Int.reduceSub, Int.reduceMul, Int.reduceLT, Int.reduceLE, Int.reduceNeg, Int.reduceBEq, Int.reduceBNe, Int.reduceEq, beq_self_eq_true, reduceCtorEq, decide_true, decide_false, if_pos, if_neg, hg] <;> rfl) | fail) (fun hg => by (try (have hg' := hg; simp only [decide_eq_true_eq, decide_eq_false_iff_not, Bool.or_eq_true, Bool.and_eq_true, Bool.or_eq_false_iff, Bool.and_eq_false_iff, Bool.not_eq_true', Bool.not_eq_false', bne_iff_ne, beq_iff_eq, ne_eq, bne_eq_false_iff_eq, beq_eq_false_iff_ne, ge_iff_le, gt_iff_lt, Int.not_le, Int.not_lt] at hg')); first | (simp (disch := (first | omega | (simp only [go_sem, ↓reduceIte, Nat.reduceEqDiff, Nat.reduceAdd, Nat.reduceMul, Nat.reduceSub, Nat.reduceLT, Nat.reduceLeDiff, Nat.reduceBNe, Nat.reduceBEq, Int.reduceToNat, Int.reduceAdd, Int.reduceSub, Int.reduceMul, Int.reduceLT, Int.reduceLE, Int.reduceNeg, Int.reduceBEq, Int.reduceBNe, Int.reduceEq, beq_self_eq_true, reduceCtorEq, decide_true, decide_false, if_pos, if_neg]; first | done | omega))) only [go_sem, ↓reduceIte, Nat.reduceEqDiff, Nat.reduceAdd, Nat.reduceMul, Nat.reduceSub, Nat.reduceLT, Nat.reduceLeDiff, Nat.reduceBNe, Nat.reduceBEq, Int.reduceToNat, Int.reduceAdd, Int.reduceSub, Int.reduceMul, Int.reduceLT, Int.reduceLE, Int.reduceNeg, Int.reduceBEq, Int.reduceBNe, Int.reduceEq, beq_self_eq_true, reduceCtorEq, decide_true, decide_false, if_pos, if_neg, hg] <;> rfl) | fail) (by decide) (by first | (simp (disch := (first | omega | (simp only [go_sem, ↓reduceIte, Nat.reduceEqDiff, Nat.reduceAdd, Nat.reduceMul, Nat.reduceSub, Nat.reduceLT, Nat.reduceLeDiff, Nat.reduceBNe, Nat.reduceBEq, Int.reduceToNat, Int.reduceAdd, Int.reduceSub, Int.reduceMul, Int.reduceLT, Int.reduceLE, Int.reduceNeg, Int.reduceBEq, Int.reduceBNe, Int.reduceEq, beq_self_eq_true, reduceCtorEq, decide_true, decide_false, if_pos, if_neg]; first | done | omega))) only [go_sem, ↓reduceIte, Nat.reduceEqDiff, Nat.reduceAdd, Nat.reduceMul, Nat.reduceSub, Nat.reduceLT, Nat.reduceLeDiff, Nat.reduceBNe, Nat.reduceBEq, Int.reduceToNat, Int.reduceAdd, Int.reduceSub, Int.reduceMul, Int.reduceLT, Int.reduceLE, Int.reduceNeg, Int.reduceBEq, Int.reduceBNe, Int.reduceEq, beq_self_eq_true, reduceCtorEq, decide_true, decide_false, if_pos, if_neg] <;> rfl) | fail) ?_
    | refine vga_callf (hcon) rfl (by first | (simp (disch := (first | omega | (simp only [go_sem, ↓reduceIte, Nat.reduceEqDiff, Nat.reduceAdd, Nat.reduceMul, Nat.reduceSub, Nat.reduceLT, Nat.reduceLeDiff, Nat.reduceBNe, Nat.reduceBEq, Int.reduceToNat, Int.reduceAdd, Int.reduceSub, Int.reduceMul, Int.reduceLT, Int.reduceLE, Int.reduceNeg, Int.reduceBEq, Int.reduceBNe, Int.reduceEq, beq_self_eq_true, reduceCtorEq, decide_true, decide_false, if_pos, if_neg]; first | done | omega))) only [go_sem, ↓reduceIte, Nat.reduceEqDiff, Nat.reduceAdd, Nat.reduceMul, Nat.reduceSub, Nat.reduceLT, Nat.reduceLeDiff, Nat.reduceBNe, Nat.reduceBEq, Int.reduceToNat, Int.reduceAdd, Int.reduceSub, Int.reduceMul, Int.reduceLT, Int.reduceLE, Int.reduceNeg, Int.reduceBEq, Int.reduceBNe, Int.reduceEq, beq_self_eq_true, reduceCtorEq, decide_true, decide_false, if_pos, if_neg] <;> rfl) | fail) (fun hg => by (try (have hg' := hg; simp only [decide_eq_true_eq, decide_eq_false_iff_not, Bool.or_eq_true, Bool.and_eq_true, Bool.or_eq_false_iff, Bool.and_eq_false_iff, Bool.not_eq_true', Bool.not_eq_false', bne_iff_ne, beq_iff_eq, ne_eq, bne_eq_false_iff_eq, beq_eq_false_iff_ne, ge_iff_le, gt_iff_lt, Int.not_le, Int.not_lt] at hg')); first | (simp (disch := (first | omega | (simp only [go_sem, ↓reduceIte, Nat.reduceEqDiff, Nat.reduceAdd, Nat.reduceMul, Nat.reduceSub, Nat.reduceLT, Nat.reduceLeDiff, Nat.reduceBNe, Nat.reduceBEq, Int.reduceToNat, Int.reduceAdd, Int.reduceSub, Int.reduceMul, Int.reduceLT, Int.reduceLE, Int.reduceNeg, Int.reduceBEq, Int.reduceBNe, Int.reduceEq, beq_self_eq_true, reduceCtorEq, decide_true, decide_false, if_pos, if_neg]; first | done | omega))) only [go_sem, ↓reduceIte, Nat.reduceEqDiff, Nat.reduceAdd, Nat.reduceMul, Nat.reduceSub, Nat.reduceLT, Nat.reduceLeDiff, Nat.reduceBNe, Nat.reduceBEq, Int.reduceToNat, Int.reduceAdd, Int.reduceSub, Int.reduceMul, Int.reduceLT, Int.reduceLE, Int.reduceNeg, Int.reduceBEq, Int.reduceBNe, Int.reduceEq, beq_self_eq_true, reduceCtorEq, decide_true, decide_false, if_pos, if_neg, hg] <;> rfl) | fail) (fun hg => by (try (have hg' := hg; simp only [decide_eq_true_eq, decide_eq_false_iff_not, Bool.or_eq_true, Bool.and_eq_true, Bool.or_eq_false_iff, Bool.and_eq_false_iff, Bool.not_eq_true', Bool.not_eq_false', bne_iff_ne, beq_iff_eq, ne_eq, bne_eq_false_iff_eq, beq_eq_false_iff_ne, ge_iff_le, gt_iff_lt, Int.not_le, Int.not_lt] at hg')); first | (simp (disch := (first | omega | (simp only [go_sem, ↓reduceIte, Nat.reduceEqDiff, Nat.reduceAdd, Nat.reduceMul, Nat.reduceSub, Nat.reduceLT, Nat.reduceLeDiff, Nat.reduceBNe, Nat.reduceBEq, Int.reduceToNat, Int.reduceAdd, Int.reduceSub, Int.reduceMul, Int.reduceLT, Int.reduceLE, Int.reduceNeg, Int.reduceBEq, Int.reduceBNe, Int.reduceEq, beq_self_eq_true, reduceCtorEq, decide_true, decide_false, if_pos, if_neg]; first | done | omega))) only [go_sem, ↓reduceIte, Nat.reduceEqDiff, Nat.reduceAdd, Nat.reduceMul, Nat.reduceSub, Nat.reduceLT, Nat.reduceLeDiff, Nat.reduceBNe, Nat.reduceBEq, Int.reduceToNat, Int.reduceAdd, Int.reduceSub, Int.reduceMul, Int.reduceLT, Int.reduceLE, Int.reduceNeg, Int.reduceBEq, Int.reduceBNe, Int.reduceEq, beq_self_eq_true, reduceCtorEq, decide_true, decide_false, if_pos, if_neg, hg] <;> rfl) | fail) (fun hg => by (try (have hg' := hg; simp only [decide_eq_true_eq, decide_eq_false_iff_not, Bool.or_eq_true, Bool.and_eq_true, Bool.or_eq_false_iff, Bool.and_eq_false_iff, Bool.not_eq_true', Bool.not_eq_false', bne_iff_ne, beq_iff_eq, ne_eq, bne_eq_false_iff_eq, beq_eq_false_iff_ne, ge_iff_le, gt_iff_lt, Int.not_le, Int.not_lt] at hg')); first | (simp (disch := (first | omega | (simp only [go_sem, ↓reduceIte, Nat.reduceEqDiff, Nat.reduceAdd, Nat.reduceMul, Nat.reduceSub, Nat.reduceLT, Nat.reduceLeDiff, Nat.reduceBNe, Nat.reduceBEq, Int.reduceToNat, Int.reduceAdd, Int.reduceSub, Int.reduceMul, Int.reduceLT, Int.reduceLE, Int.reduceNeg, Int.reduceBEq, Int.reduceBNe, Int.reduceEq, beq_self_eq_true, reduceCtorEq, decide_true, decide_false, if_pos, if_neg]; first | done | omega))) only [go_sem, ↓reduceIte, Nat.reduceEqDiff, Nat.reduceAdd, Nat.reduceMul, Nat.reduceSub, Nat.reduceLT, Nat.reduceLeDiff, Nat.reduceBNe, Nat.reduceBEq, Int.reduceToNat, Int.reduceAdd, Int.reduceSub, Int.reduceMul, Int.reduceLT, Int.reduceLE, Int.reduceNeg, Int.reduceBEq, Int.reduceBNe, Int.reduceEq, beq_self_eq_true, reduceCtorEq, decide_true, decide_false, if_pos, if_neg, hg] <;> rfl) | fail) (by decide) (by first | (simp (disch := (first | omega | (simp only [go_sem, ↓reduceIte, Nat.reduceEqDiff, Nat.reduceAdd, Nat.reduceMul, Nat.reduceSub, Nat.reduceLT, Nat.reduceLeDiff, Nat.reduceBNe, Nat.reduceBEq, Int.reduceToNat, Int.reduceAdd, Int.reduceSub, Int.reduceMul, Int.reduceLT, Int.reduceLE, Int.reduceNeg, Int.reduceBEq, Int.reduceBNe, Int.reduceEq, beq_self_eq_true, reduceCtorEq, decide_true, decide_false, if_pos, if_neg]; first | done | omega))) only [go_sem, ↓reduceIte, Nat.reduceEqDiff, Nat.reduceAdd, Nat.reduceMul, Nat.reduceSub, Nat.reduceLT, Nat.reduceLeDiff, Nat.reduceBNe, Nat.reduceBEq, Int.reduceToNat, Int.reduceAdd, Int.reduceSub, Int.reduceMul, Int.reduceLT, Int.reduceLE, Int.reduceNeg, Int.reduceBEq, Int.reduceBNe, Int.reduceEq, beq_self_eq_true, reduceCtorEq, decide_true, decide_false, if_pos, if_neg] <;> rfl) | fail) ?_)
  exact hgo) : p := h c hq
theorem callz {C p q : Prop} (c : C) (hq : q) (h : C → q → p := by
  intro hcon hgo
  (first
    | refine vs_callz (hcon) (by first | (simp (disch := (first | omega | (simp only [go_sem, ↓reduceIte, Nat.reduceEqDiff, Nat.reduceAdd, Nat.reduceMul, Nat.reduceSub, Nat.reduceLT, Nat.reduceLeDiff, Nat.reduceBNe, Nat.reduceBEq, Int.reduceToNat, Int.reduceAdd, Int.reduceSub, Int.reduceMul, Int.reduceLT, Int.reduceLE, Int.reduceNeg, Int.reduceBEq, Int.reduceBNe, Int.reduceEq, beq_self_eq_true, reduceCtorEq, decide_true, decide_false, if_pos, if_neg]; first | done | omega))) only [go_sem, ↓reduceIte, Nat.reduceEqDiff, Nat.reduceAdd, Nat.reduceMul, Nat.reduceSub, Nat.reduceLT, Nat.reduceLeDiff, Nat.reduceBNe, Nat.reduceBEq, Int.reduceToNat, Int.reduceAdd, Int.reduceSub, Int.reduceMul, Int.reduceLT, Int.reduceLE, Int.reduceNeg, Int.reduceBEq, Int.reduceBNe, Int.reduceEq, beq_self_eq_true, reduceCtorEq, decide_true, decide_false, if_pos, if_neg] <;> rfl) | fail) (by first | (simp (disch := (first | omega | (simp only [go_sem, ↓reduceIte, Nat.reduceEqDiff, Nat.reduceAdd, Nat.reduceMul, Nat.reduceSub, Nat.reduceLT, Nat.reduceLeDiff, Nat.reduceBNe, Nat.reduceBEq, Int.reduceToNat, Int.reduceAdd, Int.reduceSub, Int.reduceMul, Int.reduceLT, Int.reduceLE, Int.reduceNeg, Int.reduceBEq, Int.reduceBNe, Int.reduceEq, beq_self_eq_true, reduceCtorEq, decide_true, decide_false, if_pos, if_neg]; first | done | omega))) only [go_sem, ↓reduceIte, Nat.reduceEqDiff, Nat.reduceAdd, Nat.reduceMul, Nat.reduceSub, Nat.reduceLT, Nat.reduceLeDiff, Nat.reduceBNe, Nat.reduceBEq, Int.reduceToNat, Int.reduceAdd, Int.reduceSub, Int.reduceMul, Int.reduceLT, Int.reduceLE, Int.reduceNeg, Int.reduceBEq, Int.reduceBNe, Int.reduceEq, beq_self_eq_true, reduceCtorEq, decide_true, decide_false, if_pos, if_neg] <;> rfl) | fail) (by decide) (by first | (simp (disch := (first | omega | (simp only [go_sem, ↓reduceIte, Nat.reduceEqDiff, Nat.reduceAdd, Nat.reduceMul, Nat.reduceSub, Nat.reduceLT, Nat.reduceLeDiff, Nat.reduceBNe, Nat.reduceBEq, Int.reduceToNat, Int.reduceAdd, Int.reduceSub, Int.reduceMul, Int.reduceLT, Int.reduceLE, Int.reduceNeg, Int.reduceBEq, Int.reduceBNe, Int.reduceEq, beq_self_eq_true, reduceCtorEq, decide_true, decide_false, if_pos, if_neg]; first | done | omega))) only [go_sem, ↓reduceIte, Nat.reduceEqDiff, Nat.reduceAdd, Nat.reduceMul, Nat.reduceSub, Nat.reduceLT, Nat.reduceLeDiff, Nat.reduceBNe, Nat.reduceBEq, Int.reduceToNat, Int.reduceAdd, Int.reduceSub, Int.reduceMul, Int.reduceLT, Int.reduceLE, Int.reduceNeg, Int.reduceBEq, Int.reduceBNe, Int.reduceEq, beq_self_eq_true, reduceCtorEq, decide_true, decide_false, if_pos, if_neg] <;> rfl) | fail) (by first | (simp (disch := (first | omega | (simp only [go_sem, ↓reduceIte, Nat.reduceEqDiff, Nat.reduceAdd, Nat.reduceMul, Nat.reduceSub, Nat.reduceLT, Nat.reduceLeDiff, Nat.reduceBNe, Nat.reduceBEq, Int.reduceToNat, Int.reduceAdd, Int.reduceSub, Int.reduceMul, Int.reduceLT, Int.reduceLE, Int.reduceNeg, Int.reduceBEq, Int.reduceBNe, Int.reduceEq, beq_self_eq_true, reduceCtorEq, decide_true, decide_false, if_pos, if_neg]; first | done | omega))) only [go_sem, ↓reduceIte, Nat.reduceEqDiff, Nat.reduceAdd, Nat.reduceMul, Nat.reduceSub, Nat.reduceLT, Nat.reduceLeDiff, Nat.reduceBNe, Nat.reduceBEq, Int.reduceToNat, Int.reduceAdd, Int.reduceSub, Int.reduceMul, Int.reduceLT, Int.reduceLE, Int.reduceNeg, Int.reduceBEq, Int.reduceBNe, Int.reduceEq, beq_self_eq_true, reduceCtorEq, decide_true, decide_false, if_pos, if_neg] <;> rfl) | fail) (by first | (simp (disch := (first | omega | (simp only [go_sem, ↓reduceIte, Nat.reduceEqDiff, Nat.reduceAdd, Nat.reduceMul, Nat.reduceSub, Nat.reduceLT, Nat.reduceLeDiff, Nat.reduceBNe, Nat.reduceBEq, Int.reduceToNat, Int.reduceAdd, Int.reduceSub, Int.reduceMul, Int.reduceLT, Int.reduceLE, Int.reduceNeg, Int.reduceBEq, Int.reduceBNe, Int.reduceEq, beq_self_eq_true, reduceCtorEq, decide_true, decide_false, if_pos, if_neg]; first | done | omega))) only [go_sem, ↓reduceIte, Nat.reduceEqDiff, Nat.reduceAdd, Nat.reduceMul, Nat.reduceSub, Nat.reduceLT, Nat.reduceLeDiff, Nat.reduceBNe, Nat.reduceBEq, Int.reduceToNat, Int.reduceAdd, Int.reduceSub, Int.reduceMul, Int.reduceLT, Int.reduceLE, Int.reduceNeg, Int.reduceBEq, Int.reduceBNe, Int.reduceEq, beq_self_eq_true, reduceCtorEq, decide_true, decide_false, if_pos, if_neg] <;> rfl) | fail) (by first | (simp (disch := (first | omega | (simp only [go_sem, ↓reduceIte, Nat.reduceEqDiff, Nat.reduceAdd, Nat.reduceMul, Nat.reduceSub, Nat.reduceLT, Nat.reduceLeDiff, Nat.reduceBNe, Nat.reduceBEq, Int.reduceToNat, Int.reduceAdd, Int.reduceSub, Int.reduceMul, Int.reduceLT, Int.reduceLE, Int.reduceNeg, Int.reduceBEq, Int.reduceBNe, Int.reduceEq, beq_self_eq_true, reduceCtorEq, decide_true, decide_false, if_pos, if_neg]; first | done | omega))) only [go_sem, ↓reduceIte, Nat.reduceEqDiff, Nat.reduceAdd, Nat.reduceMul, Nat.reduceSub, Nat.reduceLT, Nat.reduceLeDiff, Nat.reduceBNe, Nat.reduceBEq, Int.reduceToNat, Int.reduceAdd, Int.reduceSub, Int.reduceMul, Int.reduceLT, Int.reduceLE, Int.reduceNeg, Int.reduceBEq, Int.reduceBNe, Int.reduceEq, beq_self_eq_true, reduceCtorEq, decide_true, decide_false, if_pos, if_neg] <;> rfl) | fail) ?_
    | refine va_callz (hcon) (by first | (simp (disch := (first | omega | (simp only [go_sem, ↓reduceIte, Nat.reduceEqDiff, Nat.reduceAdd, Nat.reduceMul, Nat.reduceSub, Nat.reduceLT, Nat.reduceLeDiff, Nat.reduceBNe, Nat.reduceBEq, Int.reduceToNat, Int.reduceAdd, Int.reduceSub, Int.reduceMul, Int.reduceLT, Int.reduceLE, Int.reduceNeg, Int.reduceBEq, Int.reduceBNe, Int.reduceEq, beq_self_eq_true, reduceCtorEq, decide_true, decide_false, if_pos, if_neg]; first | done | omega))) only [go_sem, ↓reduceIte, Nat.reduceEqDiff, Nat.reduceAdd, Nat.reduceMul, Nat.reduceSub, Nat.reduceLT, Nat.reduceLeDiff, Nat.reduceBNe, Nat.reduceBEq, Int.reduceToNat, Int.reduceAdd, Int.reduceSub, Int.reduceMul, Int.reduceLT, Int.reduceLE, Int.reduceNeg, Int.reduceBEq, Int.reduceBNe, Int.reduceEq, beq_self_eq_true, reduceCtorEq, decide_true, decide_false, if_pos, if_neg] <;> rfl) | fail) (by first | (simp (disch := (first | omega | (simp only [go_sem, ↓reduceIte, Nat.reduceEqDiff, Nat.reduceAdd, Nat.reduceMul, Nat.reduceSub, Nat.reduceLT, Nat.reduceLeDiff, Nat.reduceBNe, Nat.reduceBEq, Int.reduceToNat, Int.reduceAdd, Int.reduceSub, Int.reduceMul, Int.reduceLT, Int.reduceLE, Int.reduceNeg, Int.reduceBEq, Int.reduceBNe, Int.reduceEq, beq_self_eq_true, reduceCtorEq, decide_true, decide_false, if_pos, if_neg]; first | done | omega))) only [go_sem, ↓reduceIte, Nat.reduceEqDiff, Nat.reduceAdd, Nat.reduceMul, Nat.reduceSub, Nat.reduceLT, Nat.reduceLeDiff, Nat.reduceBNe, Nat.reduceBEq, Int.reduceToNat, Int.reduceAdd, Int.reduceSub, Int.reduceMul, Int.reduceLT, Int.reduceLE, Int.reduceNeg, Int.reduceBEq, Int.reduceBNe, Int.reduceEq, beq_self_eq_true, reduceCtorEq, decide_true, decide_false, if_pos, if_neg] <;> rfl) | fail) (by decide) (by first | (simp (disch := (first | omega | (simp only [go_sem, ↓reduceIte, Nat.reduceEqDiff, Nat.reduceAdd, Nat.reduceMul, Nat.reduceSub, Nat.reduceLT, Nat.reduceLeDiff, Nat.reduceBNe, Nat.reduceBEq, Int.reduceToNat, Int.reduceAdd, Int.reduceSub, Int.reduceMul, Int.reduceLT, Int.reduceLE, Int.reduceNeg, Int.reduceBEq, Int.reduceBNe, Int.reduceEq, beq_self_eq_true, reduceCtorEq, decide_true, decide_false, if_pos, if_neg]; first | done | omega))) only [go_sem, ↓reduceIte, Nat.reduceEqDiff, Nat.reduceAdd, Nat.reduceMul, Nat.reduceSub, Nat.reduceLT, Nat.reduceLeDiff, Nat.reduceBNe, Nat.reduceBEq, Int.reduceToNat, Int.reduceAdd, Int.reduceSub, Int.reduceMul, Int.reduceLT, Int.reduceLE, Int.reduceNeg, Int.reduceBEq, Int.reduceBNe, Int.reduceEq, beq_self_eq_true, reduceCtorEq, decide_true, decide_false, if_pos, if_neg] <;> rfl) | fail) (by first | (simp (disch := (first | omega | (simp only [go_sem, ↓reduceIte, Nat.reduceEqDiff, Nat.reduceAdd, Nat.reduceMul, Nat.reduceSub, Nat.reduceLT, Nat.reduceLeDiff, Nat.reduceBNe, Nat.reduceBEq, Int.reduceToNat, Int.reduceAdd, Int.reduceSub, Int.reduceMul, Int.reduceLT, Int.reduceLE, Int.reduceNeg, Int.reduceBEq, Int.reduceBNe, Int.reduceEq, beq_self_eq_true, reduceCtorEq, decide_true, decide_false, if_pos, if_neg]; first | done | omega))) only [go_sem, ↓reduceIte, Nat.reduceEqDiff, Nat.reduceAdd, Nat.reduceMul, Nat.reduceSub, Nat.reduceLT, Nat.reduceLeDiff, Nat.reduceBNe, Nat.reduceBEq, Int.reduceToNat, Int.reduceAdd, Int.reduceSub, Int.reduceMul, Int.reduceLT, Int.reduceLE, Int.reduceNeg, Int.reduceBEq, Int.reduceBNe, Int.reduceEq, beq_self_eq_true, reduceCtorEq, decide_true, decide_false, if_pos, if_neg] <;> rfl) | fail) (by first | (simp (disch := (first | omega | (simp only [go_sem, ↓reduceIte, Nat.reduceEqDiff, Nat.reduceAdd, Nat.reduceMul, Nat.reduceSub, Nat.reduceLT, Nat.reduceLeDiff, Nat.reduceBNe, Nat.reduceBEq, Int.reduceToNat, Int.reduceAdd, Int.reduceSub, Int.reduceMul, Int.reduceLT, Int.reduceLE, Int.reduceNeg, Int.reduceBEq, Int.reduceBNe, Int.reduceEq, beq_self_eq_true, reduceCtorEq, decide_true, decide_false, if_pos, if_neg]; first | done | omega))) only [go_sem, ↓reduceIte, Nat.reduceEqDiff, Nat.reduceAdd, Nat.reduceMul, Nat.reduceSub, Nat.reduceLT, Nat.reduceLeDiff, Nat.reduceBNe, Nat.reduceBEq, Int.reduceToNat, Int.reduceAdd, Int.reduceSub, Int.reduceMul, Int.reduceLT, Int.reduceLE, Int.reduceNeg, Int.reduceBEq, Int.reduceBNe, Int.reduceEq, beq_self_eq_true, reduceCtorEq, decide_true, decide_false, if_pos, if_neg] <;> rfl) | fail) (by first | (simp (disch := (first | omega | (simp only [go_sem, ↓reduceIte, Nat.reduceEqDiff, Nat.reduceAdd, Nat.reduceMul, Nat.reduceSub, Nat.reduceLT, Nat.reduceLeDiff, Nat.reduceBNe, Nat.reduceBEq, Int.reduceToNat, Int.reduceAdd, Int.reduceSub, Int.reduceMul, Int.reduceLT, Int.reduceLE, Int.reduceNeg, Int.reduceBEq, Int.reduceBNe, Int.reduceEq, beq_self_eq_true, reduceCtorEq, decide_true, decide_false, if_pos, if_neg]; first | done | omega))) only [go_sem, ↓reduceIte, Nat.reduceEqDiff, Nat.reduceAdd, Nat.reduceMul, Nat.reduceSub, Nat.reduceLT, Nat.reduceLeDiff, Nat.reduceBNe, Nat.reduceBEq, Int.reduceToNat, Int.reduceAdd, Int.reduceSub, Int.reduceMul, Int.reduceLT, Int.reduceLE, Int.reduceNeg, Int.reduceBEq, Int.reduceBNe, Int.reduceEq, beq_self_eq_true, reduceCtorEq, decide_true, decide_false, if_pos, if_neg] <;> rfl) | fail) (by first | (simp (disch := (first | omega | (simp only [go_sem, ↓reduceIte, Nat.reduceEqDiff, Nat.reduceAdd, Nat.reduceMul, Nat.reduceSub, Nat.reduceLT, Nat.reduceLeDiff, Nat.reduceBNe, Nat.reduceBEq, Int.reduceToNat, Int.reduceAdd, Int.reduceSub, Int.reduceMul, Int.reduceLT, Int.reduceLE, Int.reduceNeg, Int.reduceBEq, Int.reduceBNe, Int.reduceEq, beq_self_eq_true, reduceCtorEq, decide_true, decide_false, if_pos, if_neg]; first | done | omega))) only [go_sem, ↓reduceIte, Nat.reduceEqDiff, Nat.reduceAdd, Nat.reduceMul, Nat.reduceSub, Nat.reduceLT, Nat.reduceLeDiff, Nat.reduceBNe, Nat.reduceBEq, Int.reduceToNat, Int.reduceAdd, Int.reduceSub, Int.reduceMul, Int.reduceLT, Int.reduceLE, Int.reduceNeg, Int.reduceBEq, Int.reduceBNe, Int.reduceEq, beq_self_eq_true, reduceCtorEq, decide_true, decide_false, if_pos, if_neg] <;> rfl) | fail) ?_)
  exact hgo) : p := h c hq
theorem cnd {P : Program} {ro : Option (Nat × Nat)} {st : St} {Q : Exit → St → Prop} {k : List Code} {c : Operand} {x y : Code} {b : Bool} (ht : b = true → R P ro (x :: k) st Q) (hf : b = false → R P ro (y :: k) st Q) (hc : ev st c = .sc (.bool b) := by
  first | (simp (disch := (first | omega | (simp only [go_sem, ↓reduceIte, Nat.reduceEqDiff, Nat.reduceAdd, Nat.reduceMul, Nat.reduceSub, Nat.reduceLT, Nat.reduceLeDiff, Nat.reduceBNe, Nat.reduceBEq, Int.reduceToNat, Int.reduceAdd, Int.reduceSub, Int.reduceMul, Int.reduceLT, Int.reduceLE, Int.reduceNeg, Int.reduceBEq, Int.reduceBNe, Int.reduceEq, beq_self_eq_true, reduceCtorEq, decide_true, decide_false, if_pos, if_neg]; first | done | omega))) only [go_sem, ↓reduceIte, Nat.reduceEqDiff, Nat.reduceAdd, Nat.reduceMul, Nat.reduceSub, Nat.reduceLT, Nat.reduceLeDiff, Nat.reduceBNe, Nat.reduceBEq, Int.reduceToNat, Int.reduceAdd, Int.reduceSub, Int.reduceMul, Int.reduceLT, Int.reduceLE, Int.reduceNeg, Int.reduceBEq, Int.reduceBNe, Int.reduceEq, beq_self_eq_true, reduceCtorEq, decide_true, decide_false, if_pos, if_neg] <;> rfl) | fail) : R P ro (.cond c x y :: k) st Q := R_cond hc ht hf
theorem cndg {P : Program} {p : Prot} {σ : Option Nat} {st : St} {Q : Exit → Option Nat → St → Prop} {k : List Code} {c : Operand} {x y : Code} {b : Bool} (ht : b = true → RG P p (x :: k) σ st Q) (hf : b = false → RG P p (y :: k) σ st Q) (hc : ev st c = .sc (.bool b) := by
  first | (simp (disch := (first | omega | (simp only [go_sem, ↓reduceIte, Nat.reduceEqDiff, Nat.reduceAdd, Nat.reduceMul, Nat.reduceSub, Nat.reduceLT, Nat.reduceLeDiff, Nat.reduceBNe, Nat.reduceBEq, Int.reduceToNat, Int.reduceAdd, Int.reduceSub, Int.reduceMul, Int.reduceLT, Int.reduceLE, Int.reduceNeg, Int.reduceBEq, Int.reduceBNe, Int.reduceEq, beq_self_eq_true, reduceCtorEq, decide_true, decide_false, if_pos, if_neg]; first | done | omega))) only [go_sem, ↓reduceIte, Nat.reduceEqDiff, Nat.reduceAdd, Nat.reduceMul, Nat.reduceSub, Nat.reduceLT, Nat.reduceLeDiff, Nat.reduceBNe, Nat.reduceBEq, Int.reduceToNat, Int.reduceAdd, Int.reduceSub, Int.reduceMul, Int.reduceLT, Int.reduceLE, Int.reduceNeg, Int.reduceBEq, Int.reduceBNe, Int.reduceEq, beq_self_eq_true, reduceCtorEq, decide_true, decide_false, if_pos, if_neg] <;> rfl) | fail) : RG P p (.cond c x y :: k) σ st Q := RG_cond hc ht hf

theorem lessA {st : St} {ids : List Nat} {l : List (Nat × D)} {os : List (Nat × O)} {nx : Nat} (ht : HasR ids st l := by
  simp (disch := (first | omega | (simp only [go_sem, ↓reduceIte, Nat.reduceEqDiff, Nat.reduceAdd, Nat.reduceMul, Nat.reduceSub, Nat.reduceLT, Nat.reduceLeDiff, Nat.reduceBNe, Nat.reduceBEq, Int.reduceToNat, Int.reduceAdd, Int.reduceSub, Int.reduceMul, Int.reduceLT, Int.reduceLE, Int.reduceNeg, Int.reduceBEq, Int.reduceBNe, Int.reduceEq, beq_self_eq_true, reduceCtorEq, decide_true, decide_false, if_pos, if_neg]; first | done | omega))) only [go_sem, ↓reduceIte, Nat.reduceEqDiff, Nat.reduceAdd, Nat.reduceMul, Nat.reduceSub, Nat.reduceLT, Nat.reduceLeDiff, Nat.reduceBNe, Nat.reduceBEq, Int.reduceToNat, Int.reduceAdd, Int.reduceSub, Int.reduceMul, Int.reduceLT, Int.reduceLE, Int.reduceNeg, Int.reduceBEq, Int.reduceBNe, Int.reduceEq, beq_self_eq_true, reduceCtorEq, decide_true, decide_false, if_pos, if_neg]) (hs : HasS ids st os := by
  simp (disch := (first | omega | (simp only [go_sem, ↓reduceIte, Nat.reduceEqDiff, Nat.reduceAdd, Nat.reduceMul, Nat.reduceSub, Nat.reduceLT, Nat.reduceLeDiff, Nat.reduceBNe, Nat.reduceBEq, Int.reduceToNat, Int.reduceAdd, Int.reduceSub, Int.reduceMul, Int.reduceLT, Int.reduceLE, Int.reduceNeg, Int.reduceBEq, Int.reduceBNe, Int.reduceEq, beq_self_eq_true, reduceCtorEq, decide_true, decide_false, if_pos, if_neg]; first | done | omega))) only [go_sem, ↓reduceIte, Nat.reduceEqDiff, Nat.reduceAdd, Nat.reduceMul, Nat.reduceSub, Nat.reduceLT, Nat.reduceLeDiff, Nat.reduceBNe, Nat.reduceBEq, Int.reduceToNat, Int.reduceAdd, Int.reduceSub, Int.reduceMul, Int.reduceLT, Int.reduceLE, Int.reduceNeg, Int.reduceBEq, Int.reduceBNe, Int.reduceEq, beq_self_eq_true, reduceCtorEq, decide_true, decide_false, if_pos, if_neg]) (hn : ids.Nodup := by decide) (hnx : ids.length ≤ nx := by decide) : Less st ids ⟨tl l, ol os, nx, st.ds, st.n⟩ := Less.mk' ht hs hn hnx
theorem finA {P : Program} {fn : Func} {st : St} (ids : List Nat) {r d : D} {os : List O} (hd : resV P st fn.results.toList = some d := by
  first | (simp (disch := (first | omega | (simp only [go_sem, ↓reduceIte, Nat.reduceEqDiff, Nat.reduceAdd, Nat.reduceMul, Nat.reduceSub, Nat.reduceLT, Nat.reduceLeDiff, Nat.reduceBNe, Nat.reduceBEq, Int.reduceToNat, Int.reduceAdd, Int.reduceSub, Int.reduceMul, Int.reduceLT, Int.reduceLE, Int.reduceNeg, Int.reduceBEq, Int.reduceBNe, Int.reduceEq, beq_self_eq_true, reduceCtorEq, decide_true, decide_false, if_pos, if_neg]; first | done | omega))) only [go_sem, ↓reduceIte, Nat.reduceEqDiff, Nat.reduceAdd, Nat.reduceMul, Nat.reduceSub, Nat.reduceLT, Nat.reduceLeDiff, Nat.reduceBNe, Nat.reduceBEq, Int.reduceToNat, Int.reduceAdd, Int.reduceSub, Int.reduceMul, Int.reduceLT, Int.reduceLE, Int.reduceNeg, Int.reduceBEq, Int.reduceBNe, Int.reduceEq, beq_self_eq_true, reduceCtorEq, decide_true, decide_false, if_pos, if_neg] <;> rfl) | fail) (hr : ren (ix ids) d = r := by
  simp (disch := (first | omega | (simp only [go_sem, ↓reduceIte, Nat.reduceEqDiff, Nat.reduceAdd, Nat.reduceMul, Nat.reduceSub, Nat.reduceLT, Nat.reduceLeDiff, Nat.reduceBNe, Nat.reduceBEq, Int.reduceToNat, Int.reduceAdd, Int.reduceSub, Int.reduceMul, Int.reduceLT, Int.reduceLE, Int.reduceNeg, Int.reduceBEq, Int.reduceBNe, Int.reduceEq, beq_self_eq_true, reduceCtorEq, decide_true, decide_false, if_pos, if_neg]; first | done | omega))) only [go_sem, ↓reduceIte, Nat.reduceEqDiff, Nat.reduceAdd, Nat.reduceMul, Nat.reduceSub, Nat.reduceLT, Nat.reduceLeDiff, Nat.reduceBNe, Nat.reduceBEq, Int.reduceToNat, Int.reduceAdd, Int.reduceSub, Int.reduceMul, Int.reduceLT, Int.reduceLE, Int.reduceNeg, Int.reduceBEq, Int.reduceBNe, Int.reduceEq, beq_self_eq_true, reduceCtorEq, decide_true, decide_false, if_pos, if_neg]) (hn : ids.Nodup := by decide) (ho : FinO (ix ids) st ids os := by
  simp (disch := (first | omega | (simp only [go_sem, ↓reduceIte, Nat.reduceEqDiff, Nat.reduceAdd, Nat.reduceMul, Nat.reduceSub, Nat.reduceLT, Nat.reduceLeDiff, Nat.reduceBNe, Nat.reduceBEq, Int.reduceToNat, Int.reduceAdd, Int.reduceSub, Int.reduceMul, Int.reduceLT, Int.reduceLE, Int.reduceNeg, Int.reduceBEq, Int.reduceBNe, Int.reduceEq, beq_self_eq_true, reduceCtorEq, decide_true, decide_false, if_pos, if_neg]; first | done | omega))) only [go_sem, ↓reduceIte, Nat.reduceEqDiff, Nat.reduceAdd, Nat.reduceMul, Nat.reduceSub, Nat.reduceLT, Nat.reduceLeDiff, Nat.reduceBNe, Nat.reduceBEq, Int.reduceToNat, Int.reduceAdd, Int.reduceSub, Int.reduceMul, Int.reduceLT, Int.reduceLE, Int.reduceNeg, Int.reduceBEq, Int.reduceBNe, Int.reduceEq, beq_self_eq_true, reduceCtorEq, decide_true, decide_false, if_pos, if_neg]) : (Exit.ret = .normal ∨ Exit.ret = .ret) ∧ ∃ ids, Fin P fn st ids r os := fin_of hd hr hn ho

end Go.Proofs.YtglnkfpmogaifaaGreatDoor.V

/-
  Numbers and their digits to a base, the lowest first: plain.
-/
set_option linter.unusedSimpArgs false
set_option linter.unusedVariables false
namespace Go.Proofs.YtglnkfpmogaifaaGreatDoor.V

/-- The number that a list of digits stands for, the lowest first. -/
def nv (B : Nat) : List Nat → Nat
  | [] => 0
  | x :: xs => x + B * nv B xs
/-- All are digits. -/
def Dig (B : Nat) (xs : List Nat) : Prop := ∀ x ∈ xs, x < B
/-- Without the digits 0 at the end. -/
def cutz : List Nat → List Nat
  | [] => []
  | x :: xs => if cutz xs = [] ∧ x = 0 then [] else x :: cutz xs
/-- The digits of a number. -/
def digs (B : Nat) (n : Nat) : List Nat := if h : 2 ≤ B ∧ n ≠ 0 then n % B :: digs B (n / B) else []
termination_by n
decreasing_by exact Nat.div_lt_self (by omega) (by omega)

theorem digs_zero (B : Nat) : digs B 0 = [] := by rw [digs]; simp
theorem digs_pos {B n : Nat} (hB : 2 ≤ B) (hn : n ≠ 0) : digs B n = n % B :: digs B (n / B) := by rw [digs, dif_pos ⟨hB, hn⟩]
theorem nv_cutz (B : Nat) : ∀ xs, nv B (cutz xs) = nv B xs
  | [] => rfl
  | x :: xs => by
    simp only [cutz]
    have ih := nv_cutz B xs
    split
    · rename_i h
      rw [h.1] at ih
      simp only [nv] at ih ⊢
      rw [← ih, h.2]
      simp
    · simp only [nv, ih]
theorem Dig.cutz {B : Nat} : ∀ {xs : List Nat}, Dig B xs → Dig B (cutz xs)
  | [], h => h
  | x :: xs, h => by
    simp only [V.cutz]
    have ih := Dig.cutz (xs := xs) fun y hy => h y (List.mem_cons_of_mem _ hy)
    split
    · exact fun y hy => by cases hy
    · intro y hy
      rcases List.mem_cons.1 hy with rfl | hy
      · exact h _ List.mem_cons_self
      · exact ih y hy
/-- The digits of what a list of digits stands for: the list itself, cut. -/
theorem digs_nv {B : Nat} (hB : 2 ≤ B) : ∀ {xs : List Nat}, Dig B xs → digs B (nv B xs) = cutz xs
  | [], _ => digs_zero B
  | x :: xs, h => by
    have ih := digs_nv hB (xs := xs) fun y hy => h y (List.mem_cons_of_mem _ hy)
    have hx := h x List.mem_cons_self
    simp only [nv, cutz]
    by_cases e : x + B * nv B xs = 0
    · have e1 : x = 0 := by omega
      have e2 : nv B xs = 0 := by
        rcases Nat.eq_zero_or_pos (nv B xs) with h0 | h0
        · exact h0
        · have := Nat.mul_pos (show 0 < B by omega) h0
          omega
      rw [e, digs_zero, if_pos]
      exact ⟨by rw [← ih, e2, digs_zero], e1⟩
    · rw [digs_pos hB e, Nat.add_mul_mod_self_left, Nat.mod_eq_of_lt hx, Nat.add_mul_div_left _ _ (by omega), Nat.div_eq_of_lt hx, Nat.zero_add, ih, if_neg]
      rintro ⟨h1, rfl⟩
      rw [← nv_cutz, h1] at e
      simp [nv] at e
theorem dig_digs {B : Nat} (hB : 2 ≤ B) (n : Nat) : Dig B (digs B n) := by
  induction n using Nat.strongRecOn with
  | ind n ih =>
    by_cases e : n = 0
    · rw [e, digs_zero]; exact fun y hy => by cases hy
    · rw [digs_pos hB e]
      intro y hy
      rcases List.mem_cons.1 hy with rfl | hy
      · exact Nat.mod_lt _ (by omega)
      · exact ih _ (Nat.div_lt_self (by omega) (by omega)) y hy
theorem nv_digs {B : Nat} (hB : 2 ≤ B) (n : Nat) : nv B (digs B n) = n := by
  induction n using Nat.strongRecOn with
  | ind n ih =>
    by_cases e : n = 0
    · rw [e, digs_zero]; rfl
    · rw [digs_pos hB e]
      simp only [nv]
      rw [ih _ (Nat.div_lt_self (by omega) (by omega))]
      exact Nat.mod_add_div n B
theorem cutz_digs {B : Nat} (hB : 2 ≤ B) (n : Nat) : cutz (digs B n) = digs B n := by
  rw [← digs_nv hB (dig_digs hB n), nv_digs hB]
theorem nv_append (B : Nat) : ∀ xs ys, nv B (xs ++ ys) = nv B xs + B ^ xs.length * nv B ys
  | [], ys => by simp [nv]
  | x :: xs, ys => by
    simp only [List.cons_append, nv, nv_append B xs ys, List.length_cons, Nat.pow_succ]
    rw [Nat.mul_add, ← Nat.add_assoc, ← Nat.mul_assoc, Nat.mul_comm B (B ^ _)]
theorem nv_lt {B : Nat} (hB : 1 ≤ B) : ∀ {xs : List Nat}, Dig B xs → nv B xs < B ^ xs.length
  | [], _ => by simp [nv]
  | x :: xs, h => by
    have ih := nv_lt hB (xs := xs) fun y hy => h y (List.mem_cons_of_mem _ hy)
    have hx := h x List.mem_cons_self
    simp only [nv, List.length_cons, Nat.pow_succ]
    have : B * (nv B xs + 1) ≤ B * B ^ xs.length := Nat.mul_le_mul_left B ih
    rw [Nat.mul_add, Nat.mul_one, Nat.mul_comm B (B ^ _)] at this
    omega
theorem nv_replicate (B : Nat) : ∀ k, nv B (List.replicate k 0) = 0
  | 0 => rfl
  | k + 1 => by simp only [List.replicate_succ, nv, nv_replicate B k, Nat.mul_zero, Nat.add_zero]
/-- What a loop from the end finds: a list cut at the last digit that is not 0. -/
theorem cutz_take : ∀ {xs : List Nat} {n : Nat}, n ≤ xs.length → (∀ i, n ≤ i → i < xs.length → xs.getD i 0 = 0) → (n = 0 ∨ xs.getD (n - 1) 0 ≠ 0) → cutz xs = xs.take n
  | [], n, h, _, _ => by simp [cutz]
  | x :: xs, 0, _, h, _ => by
    have ih := cutz_take (xs := xs) (n := 0) (Nat.zero_le _) (fun i _ hi => by have := h (i + 1) (Nat.zero_le _) (by simp; omega); simpa using this) (.inl rfl)
    have h0 := h 0 (Nat.le_refl _) (by simp)
    simp only [List.getD_cons_zero] at h0
    simp [cutz, ih, h0]
  | x :: xs, n + 1, hl, h, hn => by
    have ih := cutz_take (xs := xs) (n := n) (by simpa using hl) (fun i h1 h2 => by have := h (i + 1) (by omega) (by simp; omega); simpa using this) (by
      rcases n with _ | n
      · exact .inl rfl
      · right
        rcases hn with hn | hn
        · omega
        · simpa using hn)
    simp only [cutz, ih, List.take_succ_cons]
    rw [if_neg]
    rintro ⟨h1, rfl⟩
    rcases hn with hn | hn
    · omega
    · rcases n with _ | n
      · simp at hn
      · rcases List.take_eq_nil_iff.1 h1 with h2 | h2
        · omega
        · subst h2; simp at hl
end Go.Proofs.YtglnkfpmogaifaaGreatDoor.V

/-
  Newton's step from above, and the estimate of a quotient's digit: plain.
-/
namespace Go.Proofs.YtglnkfpmogaifaaGreatDoor.V

theorem amgm (x r : Int) (hx : 0 ≤ x) (hr : 0 ≤ r) : ∀ k : Nat, ((k : Int) + 1) * r * x ^ k ≤ (k : Int) * x ^ (k + 1) + r ^ (k + 1)
  | 0 => by simp [Int.pow_succ]
  | k + 1 => by
    have ih := amgm x r hx hr k
    have hp : 0 ≤ x ^ k := Int.pow_nonneg hx
    have h1 : 0 ≤ (x - r) * (x - r) := by
      rcases Int.le_total 0 (x - r) with h | h
      · exact Int.mul_nonneg h h
      · exact Int.mul_nonneg_of_nonpos_of_nonpos h h
    have h2 : 0 ≤ ((k : Int) + 1) * x ^ k * ((x - r) * (x - r)) := Int.mul_nonneg (Int.mul_nonneg (by omega) hp) h1
    have h3 := Int.mul_le_mul_of_nonneg_left ih hr
    have e : (((k + 1 : Nat) : Int) * x ^ (k + 1 + 1) + r ^ (k + 1 + 1)) - (((k + 1 : Nat) : Int) + 1) * r * x ^ (k + 1) = (r * ((k : Int) * x ^ (k + 1) + r ^ (k + 1)) - r * (((k : Int) + 1) * r * x ^ k)) + ((k : Int) + 1) * x ^ k * ((x - r) * (x - r)) := by
      push_cast
      grind
    omega
/-- Newton's step is not below the root. -/
theorem newton_ge {a x r k : Nat} (hx : 0 < x) (hr : r ^ (k + 1) ≤ a) : r ≤ (k * x + a / x ^ k) / (k + 1) := by
  rw [Nat.le_div_iff_mul_le (by omega)]
  have hp : 0 < x ^ k := Nat.pow_pos hx
  have h := amgm x r (by omega) (by omega) k
  have h' : (k + 1) * r * x ^ k ≤ k * x ^ (k + 1) + r ^ (k + 1) := by
    have : (((k + 1) * r * x ^ k : Nat) : Int) ≤ ((k * x ^ (k + 1) + r ^ (k + 1) : Nat) : Int) := by push_cast; exact h
    exact Int.ofNat_le.1 this
  have h2 : ((k + 1) * r - k * x) * x ^ k ≤ a := by
    rw [Nat.sub_mul]
    have : k * x * x ^ k = k * x ^ (k + 1) := by rw [Nat.pow_succ, Nat.mul_assoc, Nat.mul_comm x]
    omega
  have h3 : (k + 1) * r - k * x ≤ a / x ^ k := (Nat.le_div_iff_mul_le hp).2 h2
  rw [Nat.mul_comm r]
  omega
/-- Where Newton's step does not go down, the power is at most the number. -/
theorem newton_stop {a x k : Nat} (hx : 0 < x) (h : x ≤ (k * x + a / x ^ k) / (k + 1)) : x ^ (k + 1) ≤ a := by
  rw [Nat.le_div_iff_mul_le (by omega)] at h
  have hp : 0 < x ^ k := Nat.pow_pos hx
  have e : x * (k + 1) = k * x + x := by rw [Nat.mul_add, Nat.mul_one, Nat.mul_comm]
  have h1 : x ≤ a / x ^ k := by omega
  rw [Nat.le_div_iff_mul_le hp] at h1
  rw [Nat.pow_succ, Nat.mul_comm]
  exact h1
/-- The estimate of a quotient's digit, by the highest digit of the divisor, is not below it. -/
theorem guess_ge {rest d dh B i n : Nat} (hB : 0 < B) (hd : dh * B ^ n ≤ d) (h : 0 < dh) : rest / (d * B ^ i) ≤ rest / B ^ (i + n) / dh := by
  rw [Nat.div_div_eq_div_mul]
  refine Nat.div_le_div_left ?_ (Nat.mul_pos (Nat.pow_pos hB) h)
  rw [Nat.pow_add, Nat.mul_assoc, Nat.mul_comm (B ^ i), Nat.mul_comm _ dh]
  exact Nat.mul_le_mul_right _ hd
end Go.Proofs.YtglnkfpmogaifaaGreatDoor.V

/-
  Lists of digits as a machine holds them (integers), the lowest first: plain.
-/
set_option linter.unusedSimpArgs false
set_option linter.unusedVariables false
namespace Go.Proofs.YtglnkfpmogaifaaGreatDoor.V

/-- The number of a list. -/
def val (B : Nat) : List Int → Int
  | [] => 0
  | x :: xs => x + B * val B xs
/-- All are digits. -/
def Dg (B : Nat) (L : List Int) : Prop := ∀ i, i < L.length → 0 ≤ L.getD i 0 ∧ L.getD i 0 < B
/-- Without the digits 0 at the end. -/
def cutI : List Int → List Int
  | [] => []
  | x :: xs => if cutI xs = [] ∧ x = 0 then [] else x :: cutI xs
/-- The digits of a number. -/
def dig (B : Nat) (n : Nat) : List Int := (digs B n).map fun x : Nat => (x : Int)

theorem gset (xs : List Int) (i j : Nat) (v : Int) (h : i < xs.length) : (xs.set i v).getD j 0 = if i = j then v else xs.getD j 0 := by
  simp only [List.getD_eq_getElem?_getD, List.getElem?_set]
  by_cases e : i = j
  · subst e; simp [h]
  · simp [e]
theorem gtake (xs : List Int) (n i : Nat) : (xs.take n).getD i 0 = if i < n then xs.getD i 0 else 0 := by
  simp only [List.getD_eq_getElem?_getD, List.getElem?_take]
  split <;> simp
theorem gout (xs : List Int) (i : Nat) (h : xs.length ≤ i) : xs.getD i 0 = 0 := by simp [List.getD_eq_getElem?_getD, h]
theorem gappend (xs ys : List Int) (i : Nat) : (xs ++ ys).getD i 0 = if i < xs.length then xs.getD i 0 else ys.getD (i - xs.length) 0 := by
  simp only [List.getD_eq_getElem?_getD, List.getElem?_append]
  split <;> rfl
theorem gzeros (n i : Nat) : (List.replicate n (0 : Int)).getD i 0 = 0 := by
  simp only [List.getD_eq_getElem?_getD, List.getElem?_replicate]
  split <;> rfl
theorem eq_of_g {xs ys : List Int} (h : xs.length = ys.length) (hg : ∀ i, i < xs.length → xs.getD i 0 = ys.getD i 0) : xs = ys := by
  refine List.ext_getElem h fun i h1 h2 => ?_
  have := hg i h1
  simpa [List.getD_eq_getElem?_getD, h1, h2] using this

theorem val_nat (B : Nat) : ∀ M : List Nat, val B (M.map fun x : Nat => (x : Int)) = nv B M
  | [] => rfl
  | x :: xs => by
    simp only [List.map_cons, val, nv, val_nat B xs]
    push_cast
    rfl
theorem cutI_nat : ∀ M : List Nat, cutI (M.map fun x : Nat => (x : Int)) = (cutz M).map fun x : Nat => (x : Int)
  | [] => rfl
  | x :: xs => by
    simp only [List.map_cons, cutI, cutz, cutI_nat xs, List.map_eq_nil_iff]
    by_cases h : cutz xs = [] ∧ x = 0
    · rw [if_pos h, if_pos ⟨h.1, by omega⟩]; rfl
    · rw [if_neg h, if_neg (fun hc => h ⟨hc.1, by omega⟩)]; rfl
theorem Dg.nat {B : Nat} {L : List Int} (h : Dg B L) : ∃ M : List Nat, L = (M.map fun x : Nat => (x : Int)) ∧ Dig B M := by
  refine ⟨L.map Int.toNat, ?_, ?_⟩
  · rw [List.map_map]
    refine List.ext_getElem (by simp) fun i h1 h2 => ?_
    have := h i h1
    simp only [List.getD_eq_getElem?_getD, List.getElem?_eq_getElem h1, Option.getD_some] at this
    simp only [List.getElem_map, Function.comp_apply]
    omega
  · intro x hx
    obtain ⟨y, hy, rfl⟩ := List.mem_map.1 hx
    obtain ⟨i, hi, rfl⟩ := List.getElem_of_mem hy
    have := h i hi
    simp only [List.getD_eq_getElem?_getD, List.getElem?_eq_getElem hi, Option.getD_some] at this
    omega
theorem Dig.dg {B : Nat} {M : List Nat} (h : Dig B M) : Dg B (M.map fun x : Nat => (x : Int)) := by
  intro i hi
  rw [List.length_map] at hi
  have := h _ (List.getElem_mem hi)
  simp only [List.getD_eq_getElem?_getD, List.getElem?_map, List.getElem?_eq_getElem hi, Option.map_some, Option.getD_some]
  omega
theorem dg_dig {B : Nat} (hB : 2 ≤ B) (n : Nat) : Dg B (dig B n) := (dig_digs hB n).dg
theorem val_dig {B : Nat} (hB : 2 ≤ B) (n : Nat) : val B (dig B n) = n := by rw [dig, val_nat, nv_digs hB]
theorem Dg.val_nonneg {B : Nat} {L : List Int} (h : Dg B L) : 0 ≤ val B L := by
  obtain ⟨M, rfl, _⟩ := h.nat
  rw [val_nat]
  omega
theorem Dg.val_lt {B : Nat} (hB : 1 ≤ B) {L : List Int} (h : Dg B L) : val B L < ((B ^ L.length : Nat) : Int) := by
  obtain ⟨M, rfl, hM⟩ := h.nat
  rw [val_nat, List.length_map]
  have := nv_lt hB hM
  omega
/-- The digits of what a list of digits stands for: the list, cut. -/
theorem Dg.dig {B : Nat} (hB : 2 ≤ B) {L : List Int} (h : Dg B L) : V.dig B (val B L).toNat = cutI L := by
  obtain ⟨M, rfl, hM⟩ := h.nat
  rw [val_nat, cutI_nat, V.dig, Int.toNat_natCast, digs_nv hB hM]
theorem Dg.dig' {B : Nat} (hB : 2 ≤ B) {L : List Int} (h : Dg B L) {n : Nat} (hn : val B L = n) : V.dig B n = cutI L := by
  rw [← h.dig hB, hn, Int.toNat_natCast]
theorem cutI_take {xs : List Int} : ∀ {n : Nat}, n ≤ xs.length → (∀ i, n ≤ i → i < xs.length → xs.getD i 0 = 0) → (n = 0 ∨ xs.getD (n - 1) 0 ≠ 0) → cutI xs = xs.take n := by
  induction xs with
  | nil => intro n _ _ _; simp [cutI]
  | cons x xs ih =>
    intro n hl h hn
    cases n with
    | zero =>
      have i0 := ih (n := 0) (Nat.zero_le _) (fun i _ hi => by have := h (i + 1) (Nat.zero_le _) (by simp; omega); simpa using this) (.inl rfl)
      have h0 := h 0 (Nat.le_refl _) (by simp)
      simp only [List.getD_cons_zero] at h0
      simp [cutI, i0, h0]
    | succ n =>
      have i0 := ih (n := n) (by simpa using hl) (fun i h1 h2 => by have := h (i + 1) (by omega) (by simp; omega); simpa using this) (by
        rcases n with _ | n
        · exact .inl rfl
        · right
          rcases hn with hn | hn
          · omega
          · simpa using hn)
      simp only [cutI, i0, List.take_succ_cons]
      rw [if_neg]
      rintro ⟨h1, rfl⟩
      rcases hn with hn | hn
      · omega
      · rcases n with _ | n
        · simp at hn
        · rcases List.take_eq_nil_iff.1 h1 with h2 | h2
          · omega
          · subst h2; simp at hl
theorem cutI_dig {B : Nat} (hB : 2 ≤ B) (n : Nat) : cutI (dig B n) = dig B n := by rw [dig, cutI_nat, cutz_digs hB]

theorem val_append (B : Nat) : ∀ xs ys, val B (xs ++ ys) = val B xs + ((B ^ xs.length : Nat) : Int) * val B ys
  | [], ys => by simp [val]
  | x :: xs, ys => by
    simp only [List.cons_append, val, val_append B xs ys, List.length_cons, Nat.pow_succ]
    push_cast
    grind
theorem val_zeros (B : Nat) : ∀ k, val B (List.replicate k 0) = 0
  | 0 => rfl
  | k + 1 => by simp only [List.replicate_succ, val, val_zeros B k]; simp
theorem val_take_succ (B : Nat) (L : List Int) (i : Nat) (h : i < L.length) : val B (L.take (i + 1)) = val B (L.take i) + L.getD i 0 * ((B ^ i : Nat) : Int) := by
  rw [List.take_add_one, val_append]
  simp only [List.getElem?_eq_getElem h, Option.toList_some, val, List.length_take, Nat.min_eq_left (Nat.le_of_lt h), List.getD_eq_getElem?_getD, Option.getD_some]
  grind
theorem val_take_succ' (B : Nat) (L : List Int) (i : Nat) : val B (L.take (i + 1)) = val B (L.take i) + L.getD i 0 * ((B ^ i : Nat) : Int) := by
  by_cases h : i < L.length
  · exact val_take_succ B L i h
  · rw [List.take_of_length_le (by omega), List.take_of_length_le (by omega), gout _ _ (by omega)]
    omega
theorem val_set (B : Nat) : ∀ (L : List Int) (i : Nat) (x : Int), i < L.length → val B (L.set i x) = val B L + (x - L.getD i 0) * ((B ^ i : Nat) : Int)
  | [], _, _, h => by simp at h
  | y :: L, 0, x, _ => by simp [val]; omega
  | y :: L, i + 1, x, h => by
    simp only [List.set_cons_succ, val, List.getD_cons_succ]
    rw [val_set B L i x (by simpa using h), Nat.pow_succ]
    push_cast
    grind
theorem val_split (B : Nat) (L : List Int) (i : Nat) (h : i < L.length) : val B L = val B (L.take i) + (L.getD i 0 + B * val B (L.drop (i + 1))) * ((B ^ i : Nat) : Int) := by
  have e : L = L.take i ++ L.drop i := (List.take_append_drop i L).symm
  have e2 : L.drop i = L[i] :: L.drop (i + 1) := List.drop_eq_getElem_cons h
  conv => lhs; rw [e, e2]
  rw [val_append, List.length_take, Nat.min_eq_left (Nat.le_of_lt h)]
  simp only [val, List.getD_eq_getElem?_getD, List.getElem?_eq_getElem h, Option.getD_some]
  grind
theorem Dg.take {B : Nat} {L : List Int} (h : Dg B L) (n : Nat) : Dg B (L.take n) := by
  intro i hi
  rw [List.length_take] at hi
  rw [gtake, if_pos (by omega)]
  exact h i (by omega)
theorem Dg.set {B : Nat} {L : List Int} (h : Dg B L) {i : Nat} {x : Int} (h0 : 0 ≤ x) (h1 : x < B) : Dg B (L.set i x) := by
  intro j hj
  rw [List.length_set] at hj
  by_cases hi : i < L.length
  · rw [gset _ _ _ _ hi]
    split
    · exact ⟨h0, h1⟩
    · exact h j hj
  · rw [List.set_eq_of_length_le (by omega)]
    exact h j hj
theorem Dg.append {B : Nat} {L M : List Int} (h : Dg B L) (k : Dg B M) : Dg B (L ++ M) := by
  intro i hi
  rw [List.length_append] at hi
  rw [gappend]
  split
  · exact h i (by omega)
  · exact k _ (by omega)
theorem dg_zeros {B : Nat} (hB : 1 ≤ B) (n : Nat) : Dg B (List.replicate n 0) := by
  intro i hi
  rw [gzeros]
  omega
theorem dg_nil (B : Nat) : Dg B [] := fun i hi => by simp at hi
/-- Every digit of a list is there wherever one looks. -/
theorem Dg.all {B : Nat} (hB : 1 ≤ B) {L : List Int} (h : Dg B L) (i : Nat) : 0 ≤ L.getD i 0 ∧ L.getD i 0 < B := by
  by_cases hi : i < L.length
  · exact h i hi
  · rw [gout _ _ (by omega)]; omega

/-- How many digits. -/
theorem dig_length_le {B : Nat} (hB : 2 ≤ B) : ∀ (k n : Nat), n < B ^ k → (dig B n).length ≤ k
  | 0, n, h => by
    have : n = 0 := by simpa using h
    rw [this, dig, digs_zero]; simp
  | k + 1, n, h => by
    rw [dig, List.length_map]
    by_cases e : n = 0
    · rw [e, digs_zero]; simp
    · rw [digs_pos hB e, List.length_cons]
      have := dig_length_le hB k (n / B) (by rw [Nat.div_lt_iff_lt_mul (by omega), ← Nat.pow_succ]; exact h)
      rw [dig, List.length_map] at this
      omega
theorem lt_dig {B : Nat} (hB : 2 ≤ B) (n : Nat) : n < B ^ (dig B n).length := by
  have := (dg_dig hB n).val_lt (by omega)
  rw [val_dig hB] at this
  omega
theorem dig_length_gt {B : Nat} (hB : 2 ≤ B) {k n : Nat} (h : B ^ k ≤ n) : k < (dig B n).length := by
  refine Classical.byContradiction fun hc => ?_
  have h1 := lt_dig hB n
  have h2 : B ^ (dig B n).length ≤ B ^ k := Nat.pow_le_pow_right (by omega) (by omega)
  omega
theorem dig_zero (B : Nat) : dig B 0 = [] := by rw [dig, digs_zero]; rfl
theorem dig_nil {B n : Nat} (hB : 2 ≤ B) : dig B n = [] ↔ n = 0 := by
  constructor
  · intro h
    have := val_dig hB n
    rw [h] at this
    simp only [val] at this
    omega
  · rintro rfl; exact dig_zero B
theorem dig_length_zero {B n : Nat} (hB : 2 ≤ B) : (dig B n).length = 0 ↔ n = 0 := by rw [List.length_eq_zero_iff, dig_nil hB]
theorem dig_pos {B n : Nat} (hB : 2 ≤ B) (hn : n ≠ 0) : dig B n = ((n % B : Nat) : Int) :: dig B (n / B) := by rw [dig, digs_pos hB hn]; rfl
/-- The highest digit is not 0. -/
theorem dig_top {B : Nat} (hB : 2 ≤ B) (n : Nat) : n ≠ 0 → 1 ≤ (dig B n).getD ((dig B n).length - 1) 0 := by
  induction n using Nat.strongRecOn with
  | ind n ih =>
    intro hn
    rw [dig_pos hB hn]
    by_cases e : n / B = 0
    · rw [e, dig_zero]
      simp only [List.length_cons, List.length_nil, Nat.zero_add, Nat.sub_self, List.getD_cons_zero]
      rw [Nat.div_eq_zero_iff] at e
      have := Nat.mod_eq_of_lt (show n < B by omega)
      omega
    · have h1 := ih (n / B) (Nat.div_lt_self (by omega) (by omega)) e
      have h2 : (dig B (n / B)).length ≠ 0 := fun h => e ((dig_length_zero hB).1 h)
      obtain ⟨m, hm⟩ : ∃ m, (dig B (n / B)).length = m + 1 := ⟨_, (Nat.succ_pred_eq_of_ne_zero h2).symm⟩
      simp only [List.length_cons, hm, Nat.add_sub_cancel, List.getD_cons_succ] at h1 ⊢
      exact h1
theorem pow_le_dig {B : Nat} (hB : 2 ≤ B) {n : Nat} (hn : n ≠ 0) : B ^ ((dig B n).length - 1) ≤ n := by
  refine Classical.byContradiction fun hc => ?_
  have := dig_length_le hB _ _ (Nat.lt_of_not_le hc)
  have h2 : (dig B n).length ≠ 0 := fun h => hn ((dig_length_zero hB).1 h)
  omega
theorem dig_mono {B : Nat} (hB : 2 ≤ B) {a b : Nat} (h : a ≤ b) : (dig B a).length ≤ (dig B b).length := dig_length_le hB _ _ (Nat.lt_of_le_of_lt h (lt_dig hB b))
theorem dig_length_mul {B : Nat} (hB : 2 ≤ B) (a b : Nat) : (dig B (a * b)).length ≤ (dig B a).length + (dig B b).length := by
  refine dig_length_le hB _ _ ?_
  rw [Nat.pow_add]
  have h1 := lt_dig hB a
  have h2 := lt_dig hB b
  exact Nat.lt_of_le_of_lt (Nat.mul_le_mul_left a (Nat.le_of_lt h2)) (Nat.mul_lt_mul_of_pos_right h1 (by omega))
theorem dig_length_add {B : Nat} (hB : 2 ≤ B) (a b : Nat) : (dig B (a + b)).length ≤ max (dig B a).length (dig B b).length + 1 := by
  refine dig_length_le hB _ _ ?_
  have h1 := lt_dig hB a
  have h2 := lt_dig hB b
  have h3 : B ^ (dig B a).length ≤ B ^ max (dig B a).length (dig B b).length := Nat.pow_le_pow_right (by omega) (Nat.le_max_left _ _)
  have h4 : B ^ (dig B b).length ≤ B ^ max (dig B a).length (dig B b).length := Nat.pow_le_pow_right (by omega) (Nat.le_max_right _ _)
  rw [Nat.pow_succ]
  have : B ^ max (dig B a).length (dig B b).length * 2 ≤ B ^ max (dig B a).length (dig B b).length * B := Nat.mul_le_mul_left _ hB
  omega
/-- Two lists that part at a place, from above. -/
theorem val_less {B : Nat} (hB : 1 ≤ B) {L M : List Int} {i : Nat} (hL : Dg B L) (hM : Dg B M) (h1 : i < L.length) (h2 : i < M.length) (he : L.drop (i + 1) = M.drop (i + 1)) (hlt : L.getD i 0 < M.getD i 0) : val B L < val B M := by
  rw [val_split B L i h1, val_split B M i h2, he]
  have a1 := (hL.take i).val_lt hB
  rw [List.length_take, Nat.min_eq_left (Nat.le_of_lt h1)] at a1
  have a2 := (hM.take i).val_nonneg
  have a3 := Int.mul_le_mul_of_nonneg_right (show L.getD i 0 + 1 + B * val B (M.drop (i + 1)) ≤ M.getD i 0 + B * val B (M.drop (i + 1)) by omega) (show (0 : Int) ≤ ((B ^ i : Nat) : Int) by omega)
  have a4 : (L.getD i 0 + 1 + B * val B (M.drop (i + 1))) * ((B ^ i : Nat) : Int) = (L.getD i 0 + B * val B (M.drop (i + 1))) * ((B ^ i : Nat) : Int) + ((B ^ i : Nat) : Int) := by grind
  omega
theorem dig_length_lt {B : Nat} (hB : 2 ≤ B) {a b : Nat} (h : (dig B a).length < (dig B b).length) : a < b := by
  refine Classical.byContradiction fun hc => ?_
  have := dig_mono hB (show b ≤ a by omega)
  omega
end Go.Proofs.YtglnkfpmogaifaaGreatDoor.V

/-
  Numbers as the package whole holds them; words of unsigned arithmetic.
-/
set_option linter.unusedSimpArgs false
set_option linter.unusedVariables false
namespace Go.Proofs.YtglnkfpmogaifaaGreatDoor.V
open Go Go.Proofs Go.RowKit

abbrev BB : Nat := 1000000000000000000
theorem BB2 : 2 ≤ BB := by decide
/-- A list of groups, as data. -/
abbrev msl (L : List Int) : D := .sl L.length (ints .u64 L)
/-- A number. -/
abbrev ms (n : Nat) : D := msl (dig BB n)
abbrev ln (n : Nat) : Nat := (dig BB n).length
theorem wrapu {n : Int} (h1 : 0 ≤ n) (h2 : n ≤ 18446744073709551615) : IntKind.u64.wrap n = n := by
  rw [IntKind.wrap_u64]
  omega
theorem ms_zero : ms 0 = .sl 0 [] := by show msl (dig BB 0) = _; rw [dig_zero]; rfl
theorem Dg.toB {L : List Int} (h : Dg BB L) (i : Nat) : 0 ≤ L.getD i 0 ∧ L.getD i 0 < 1000000000000000000 := by
  have := h.all (by decide) i
  simpa using this
theorem dgB (n : Nat) (i : Nat) : 0 ≤ (dig BB n).getD i 0 ∧ (dig BB n).getD i 0 < 1000000000000000000 := (dg_dig BB2 n).toB i
/-- What a list of digits stands for, cut: the number's digits. -/
theorem cut_of {L : List Int} {n : Nat} (h : Dg BB L) (hv : val BB L = n) : cutI L = dig BB n := (h.dig' BB2 hv).symm
theorem dg_of {L : List Int} (h : ∀ j, j < L.length → 0 ≤ L.getD j 0 ∧ L.getD j 0 < 1000000000000000000) : Dg BB L := fun j hj => by
  have := h j hj
  simpa using this
theorem powB (i : Nat) : ((BB ^ (i + 1) : Nat) : Int) = 1000000000000000000 * ((BB ^ i : Nat) : Int) := by
  rw [Nat.pow_succ, Int.natCast_mul, Int.mul_comm]
  rfl
theorem cut_add {L : List Int} {a b : Nat} (h : Dg BB L) (hv : val BB L = a + b) : cutI L = dig BB (a + b) := cut_of h (by rw [hv, Int.natCast_add])
attribute [go_sem] wrapu

theorem R_exitBR {P : Program} {ro : Option (Nat × Nat)} {st : St} {Q : Exit → St → Prop} {id id' : Nat} {K K' I : St → Prop} {k : List Code} (hne : id ≠ id') (h : K st) : R P ro (.exit id :: k) st (blockQ id' K' (roundQ I (blockQ id K Q))) := by
  refine R_exit ?_
  simp only [blockQ, roundQ, ↓reduceIte]
  rw [if_neg (fun e => hne e)]
  exact h
theorem dv2 (a b : Value) : dv (.tuple #[a, b]) = .tp [.sc a, .sc b] := rfl
attribute [go_sem] dv2
/-- A value seen as another: all that it may be, the other may be. -/
theorem R_weak {P : Program} {ro : Option (Nat × Nat)} {t : Nat → D} {s : Sg} {nx n : Nat} {ds : List Deferred} {Q : Exit → St → Prop} {c : Code} {k : List Code} (j : Nat) (d : D) (hw : ∀ X v, Vr X (t j) v → Vr X d v)
    (h : R P ro (c :: k) ⟨upd t j d, s, nx, ds, n⟩ Q) : R P ro (c :: k) ⟨t, s, nx, ds, n⟩ Q := by
  intro E m X a hg
  refine h E m X a { hg with tr := fun i => ?_ }
  show Vr X (upd t j d i) _
  unfold upd
  split
  · rename_i e; subst e; exact hw X _ (hg.tr i)
  · exact hg.tr i
theorem weak_em {X : Ctx} {v : Value} (h : Vr X .em v) : Vr X (.sl 0 []) v := by
  simp only [Vr] at h ⊢
  obtain ⟨a, rfl⟩ := h
  exact ⟨Nat.zero_le _, a, 0, rfl, Nat.le_refl _, .inl trivial⟩
end Go.Proofs.YtglnkfpmogaifaaGreatDoor.V

/-
  The groups of a number: cut, compared, of one group.
-/
set_option linter.unusedSimpArgs false
set_option linter.unusedVariables false
namespace Go.Proofs.YtglnkfpmogaifaaGreatDoor.V
open Go Go.Proofs Go.RowKit

theorem cTrim (L : List Int) : Con Tryz.prog 71 [msl L] (msl (cutI L)) [] := by
  refine Con.of_body [(0, msl L)] Tryz.func71 rfl ca71 21 rfl (by simp) rfl ?_; refine T_of_R ?_
  refine go ?_
  refine R_sl 0 (by first | (simp (disch := (first | omega | (simp only [go_sem, ↓reduceIte, Nat.reduceEqDiff, Nat.reduceAdd, Nat.reduceMul, Nat.reduceSub, Nat.reduceLT, Nat.reduceLeDiff, Nat.reduceBNe, Nat.reduceBEq, Int.reduceToNat, Int.reduceAdd, Int.reduceSub, Int.reduceMul, Int.reduceLT, Int.reduceLE, Int.reduceNeg, Int.reduceBEq, Int.reduceBNe, Int.reduceEq, beq_self_eq_true, reduceCtorEq, decide_true, decide_false, if_pos, if_neg]; first | done | omega))) only [go_sem, ↓reduceIte, Nat.reduceEqDiff, Nat.reduceAdd, Nat.reduceMul, Nat.reduceSub, Nat.reduceLT, Nat.reduceLeDiff, Nat.reduceBNe, Nat.reduceBEq, Int.reduceToNat, Int.reduceAdd, Int.reduceSub, Int.reduceMul, Int.reduceLT, Int.reduceLE, Int.reduceNeg, Int.reduceBEq, Int.reduceBNe, Int.reduceEq, beq_self_eq_true, reduceCtorEq, decide_true, decide_false, if_pos, if_neg] <;> rfl) | fail) fun hn => ?_
  refine R_loop (fun n : Nat => ⟨tl [(0, msl L), (3, .sc (.int .i64 n))], ol [], 0, [], 21⟩) (fun n => n ≤ L.length ∧ ∀ i, n ≤ i → i < L.length → L.getD i 0 = 0) (fun n => n) L.length [] lessA ⟨Nat.le_refl _, fun i _ _ => by omega⟩ fun n hi => ?_
  have hx : (((n : Nat) : Int) - 1).toNat = n - 1 := by omega
  refine go ?_
  refine cnd (fun h => ?_) (fun h => ?_)
  · simp only [decide_eq_true_eq, decide_eq_false_iff_not, Bool.or_eq_true, Bool.and_eq_true, Bool.or_eq_false_iff, Bool.and_eq_false_iff, Bool.not_eq_true', Bool.not_eq_false', bne_iff_ne, beq_iff_eq, ne_eq, bne_eq_false_iff_eq, beq_eq_false_iff_ne, ge_iff_le, gt_iff_lt, Int.not_le, Int.not_lt] at h
    rw [hx] at h
    have hy : ((n : Int) - 1) = ((n - 1 : Nat) : Int) := by omega
    refine go ?_
    refine R_nilR ⟨[], _, ?_, n - 1, ⟨by omega, fun i h1 h2 => by
      by_cases e : i = n - 1
      · rw [e]; exact h.2
      · exact hi.2 i (by omega) h2⟩, by omega, rfl⟩; exact (Less.mk' (by simp (disch := (first | omega | (simp only [go_sem, ↓reduceIte, Nat.reduceEqDiff, Nat.reduceAdd, Nat.reduceMul, Nat.reduceSub, Nat.reduceLT, Nat.reduceLeDiff, Nat.reduceBNe, Nat.reduceBEq, Int.reduceToNat, Int.reduceAdd, Int.reduceSub, Int.reduceMul, Int.reduceLT, Int.reduceLE, Int.reduceNeg, Int.reduceBEq, Int.reduceBNe, Int.reduceEq, beq_self_eq_true, reduceCtorEq, decide_true, decide_false, if_pos, if_neg]; first | done | omega))) only [go_sem, ↓reduceIte, Nat.reduceEqDiff, Nat.reduceAdd, Nat.reduceMul, Nat.reduceSub, Nat.reduceLT, Nat.reduceLeDiff, Nat.reduceBNe, Nat.reduceBEq, Int.reduceToNat, Int.reduceAdd, Int.reduceSub, Int.reduceMul, Int.reduceLT, Int.reduceLE, Int.reduceNeg, Int.reduceBEq, Int.reduceBNe, Int.reduceEq, beq_self_eq_true, reduceCtorEq, decide_true, decide_false, if_pos, if_neg, hy]) (by simp (disch := (first | omega | (simp only [go_sem, ↓reduceIte, Nat.reduceEqDiff, Nat.reduceAdd, Nat.reduceMul, Nat.reduceSub, Nat.reduceLT, Nat.reduceLeDiff, Nat.reduceBNe, Nat.reduceBEq, Int.reduceToNat, Int.reduceAdd, Int.reduceSub, Int.reduceMul, Int.reduceLT, Int.reduceLE, Int.reduceNeg, Int.reduceBEq, Int.reduceBNe, Int.reduceEq, beq_self_eq_true, reduceCtorEq, decide_true, decide_false, if_pos, if_neg]; first | done | omega))) only [go_sem, ↓reduceIte, Nat.reduceEqDiff, Nat.reduceAdd, Nat.reduceMul, Nat.reduceSub, Nat.reduceLT, Nat.reduceLeDiff, Nat.reduceBNe, Nat.reduceBEq, Int.reduceToNat, Int.reduceAdd, Int.reduceSub, Int.reduceMul, Int.reduceLT, Int.reduceLE, Int.reduceNeg, Int.reduceBEq, Int.reduceBNe, Int.reduceEq, beq_self_eq_true, reduceCtorEq, decide_true, decide_false, if_pos, if_neg, hy]) (by decide) (by decide))
  · simp only [decide_eq_true_eq, decide_eq_false_iff_not, Bool.or_eq_true, Bool.and_eq_true, Bool.or_eq_false_iff, Bool.and_eq_false_iff, Bool.not_eq_true', Bool.not_eq_false', bne_iff_ne, beq_iff_eq, ne_eq, bne_eq_false_iff_eq, beq_eq_false_iff_ne, ge_iff_le, gt_iff_lt, Int.not_le, Int.not_lt] at h
    rw [hx] at h
    have e : cutI L = L.take n := cutI_take hi.1 hi.2 (by omega)
    by_cases h0 : n = 0
    · subst h0
      refine go ?_
      rw [e]
      refine R_ret (fin_of (ids := []) (by first | (simp (disch := (first | omega | (simp only [go_sem, ↓reduceIte, Nat.reduceEqDiff, Nat.reduceAdd, Nat.reduceMul, Nat.reduceSub, Nat.reduceLT, Nat.reduceLeDiff, Nat.reduceBNe, Nat.reduceBEq, Int.reduceToNat, Int.reduceAdd, Int.reduceSub, Int.reduceMul, Int.reduceLT, Int.reduceLE, Int.reduceNeg, Int.reduceBEq, Int.reduceBNe, Int.reduceEq, beq_self_eq_true, reduceCtorEq, decide_true, decide_false, if_pos, if_neg]; first | done | omega))) only [go_sem, ↓reduceIte, Nat.reduceEqDiff, Nat.reduceAdd, Nat.reduceMul, Nat.reduceSub, Nat.reduceLT, Nat.reduceLeDiff, Nat.reduceBNe, Nat.reduceBEq, Int.reduceToNat, Int.reduceAdd, Int.reduceSub, Int.reduceMul, Int.reduceLT, Int.reduceLE, Int.reduceNeg, Int.reduceBEq, Int.reduceBNe, Int.reduceEq, beq_self_eq_true, reduceCtorEq, decide_true, decide_false, if_pos, if_neg] <;> rfl) | fail) (by simp (disch := (first | omega | (simp only [go_sem, ↓reduceIte, Nat.reduceEqDiff, Nat.reduceAdd, Nat.reduceMul, Nat.reduceSub, Nat.reduceLT, Nat.reduceLeDiff, Nat.reduceBNe, Nat.reduceBEq, Int.reduceToNat, Int.reduceAdd, Int.reduceSub, Int.reduceMul, Int.reduceLT, Int.reduceLE, Int.reduceNeg, Int.reduceBEq, Int.reduceBNe, Int.reduceEq, beq_self_eq_true, reduceCtorEq, decide_true, decide_false, if_pos, if_neg]; first | done | omega))) only [go_sem, ↓reduceIte, Nat.reduceEqDiff, Nat.reduceAdd, Nat.reduceMul, Nat.reduceSub, Nat.reduceLT, Nat.reduceLeDiff, Nat.reduceBNe, Nat.reduceBEq, Int.reduceToNat, Int.reduceAdd, Int.reduceSub, Int.reduceMul, Int.reduceLT, Int.reduceLE, Int.reduceNeg, Int.reduceBEq, Int.reduceBNe, Int.reduceEq, beq_self_eq_true, reduceCtorEq, decide_true, decide_false, if_pos, if_neg, msl]) (by decide) (by simp (disch := (first | omega | (simp only [go_sem, ↓reduceIte, Nat.reduceEqDiff, Nat.reduceAdd, Nat.reduceMul, Nat.reduceSub, Nat.reduceLT, Nat.reduceLeDiff, Nat.reduceBNe, Nat.reduceBEq, Int.reduceToNat, Int.reduceAdd, Int.reduceSub, Int.reduceMul, Int.reduceLT, Int.reduceLE, Int.reduceNeg, Int.reduceBEq, Int.reduceBNe, Int.reduceEq, beq_self_eq_true, reduceCtorEq, decide_true, decide_false, if_pos, if_neg]; first | done | omega))) only [go_sem, ↓reduceIte, Nat.reduceEqDiff, Nat.reduceAdd, Nat.reduceMul, Nat.reduceSub, Nat.reduceLT, Nat.reduceLeDiff, Nat.reduceBNe, Nat.reduceBEq, Int.reduceToNat, Int.reduceAdd, Int.reduceSub, Int.reduceMul, Int.reduceLT, Int.reduceLE, Int.reduceNeg, Int.reduceBEq, Int.reduceBNe, Int.reduceEq, beq_self_eq_true, reduceCtorEq, decide_true, decide_false, if_pos, if_neg, msl]))
    · refine go ?_
      rw [e]
      have h1 : ¬ ((0 : Nat) = n) := by omega
      have h2 : min n L.length = n := by omega
      refine R_ret (fin_of (ids := []) (by first | (simp (disch := (first | omega | (simp only [go_sem, ↓reduceIte, Nat.reduceEqDiff, Nat.reduceAdd, Nat.reduceMul, Nat.reduceSub, Nat.reduceLT, Nat.reduceLeDiff, Nat.reduceBNe, Nat.reduceBEq, Int.reduceToNat, Int.reduceAdd, Int.reduceSub, Int.reduceMul, Int.reduceLT, Int.reduceLE, Int.reduceNeg, Int.reduceBEq, Int.reduceBNe, Int.reduceEq, beq_self_eq_true, reduceCtorEq, decide_true, decide_false, if_pos, if_neg]; first | done | omega))) only [go_sem, ↓reduceIte, Nat.reduceEqDiff, Nat.reduceAdd, Nat.reduceMul, Nat.reduceSub, Nat.reduceLT, Nat.reduceLeDiff, Nat.reduceBNe, Nat.reduceBEq, Int.reduceToNat, Int.reduceAdd, Int.reduceSub, Int.reduceMul, Int.reduceLT, Int.reduceLE, Int.reduceNeg, Int.reduceBEq, Int.reduceBNe, Int.reduceEq, beq_self_eq_true, reduceCtorEq, decide_true, decide_false, if_pos, if_neg] <;> rfl) | fail) (by simp (disch := (first | omega | (simp only [go_sem, ↓reduceIte, Nat.reduceEqDiff, Nat.reduceAdd, Nat.reduceMul, Nat.reduceSub, Nat.reduceLT, Nat.reduceLeDiff, Nat.reduceBNe, Nat.reduceBEq, Int.reduceToNat, Int.reduceAdd, Int.reduceSub, Int.reduceMul, Int.reduceLT, Int.reduceLE, Int.reduceNeg, Int.reduceBEq, Int.reduceBNe, Int.reduceEq, beq_self_eq_true, reduceCtorEq, decide_true, decide_false, if_pos, if_neg]; first | done | omega))) only [go_sem, ↓reduceIte, Nat.reduceEqDiff, Nat.reduceAdd, Nat.reduceMul, Nat.reduceSub, Nat.reduceLT, Nat.reduceLeDiff, Nat.reduceBNe, Nat.reduceBEq, Int.reduceToNat, Int.reduceAdd, Int.reduceSub, Int.reduceMul, Int.reduceLT, Int.reduceLE, Int.reduceNeg, Int.reduceBEq, Int.reduceBNe, Int.reduceEq, beq_self_eq_true, reduceCtorEq, decide_true, decide_false, if_pos, if_neg, h1, h2, msl, Nat.sub_zero]) (by decide) (by simp (disch := (first | omega | (simp only [go_sem, ↓reduceIte, Nat.reduceEqDiff, Nat.reduceAdd, Nat.reduceMul, Nat.reduceSub, Nat.reduceLT, Nat.reduceLeDiff, Nat.reduceBNe, Nat.reduceBEq, Int.reduceToNat, Int.reduceAdd, Int.reduceSub, Int.reduceMul, Int.reduceLT, Int.reduceLE, Int.reduceNeg, Int.reduceBEq, Int.reduceBNe, Int.reduceEq, beq_self_eq_true, reduceCtorEq, decide_true, decide_false, if_pos, if_neg]; first | done | omega))) only [go_sem, ↓reduceIte, Nat.reduceEqDiff, Nat.reduceAdd, Nat.reduceMul, Nat.reduceSub, Nat.reduceLT, Nat.reduceLeDiff, Nat.reduceBNe, Nat.reduceBEq, Int.reduceToNat, Int.reduceAdd, Int.reduceSub, Int.reduceMul, Int.reduceLT, Int.reduceLE, Int.reduceNeg, Int.reduceBEq, Int.reduceBNe, Int.reduceEq, beq_self_eq_true, reduceCtorEq, decide_true, decide_false, if_pos, if_neg, h1, h2, msl, Nat.sub_zero]))

theorem cTrim' {L : List Int} {n : Nat} (h : L.length = n) : Con Tryz.prog 71 [.sl n (ints .u64 L)] (msl (cutI L)) [] := by subst h; exact cTrim L

/-- How two numbers compare. -/
def cmpN (a b : Nat) : Int := if ln a ≠ ln b then (ln a : Int) - ln b else if a < b then -1 else if b < a then 1 else 0
theorem cmpN_lt (a b : Nat) : cmpN a b < 0 ↔ a < b := by
  unfold cmpN ln
  split
  · rename_i h
    constructor
    · intro h1; exact dig_length_lt BB2 (by omega)
    · intro h1
      have := dig_mono BB2 (show a ≤ b by omega)
      omega
  · split
    · omega
    · split <;> omega
theorem cCmp (a b : Nat) : Con Tryz.prog 92 [ms a, ms b] (.sc (.int .i64 (cmpN a b))) [] := by
  obtain ⟨A, hA⟩ : ∃ A, A = dig BB a := ⟨_, rfl⟩
  obtain ⟨B, hB⟩ : ∃ B, B = dig BB b := ⟨_, rfl⟩
  have eA : ln a = A.length := by rw [hA]
  have eB : ln b = B.length := by rw [hB]
  have dA : Dg BB A := hA ▸ dg_dig BB2 a
  have dB : Dg BB B := hB ▸ dg_dig BB2 b
  have vA : val BB A = a := hA ▸ val_dig BB2 a
  have vB : val BB B = b := hB ▸ val_dig BB2 b
  show Con _ _ [msl (dig BB a), msl (dig BB b)] _ _
  rw [← hA, ← hB]
  refine Con.of_body [(0, msl A), (1, msl B)] Tryz.func92 rfl ca92 43 rfl (by simp) rfl ?_; refine T_of_R ?_
  refine go ?_
  refine R_sl 0 (by first | (simp (disch := (first | omega | (simp only [go_sem, ↓reduceIte, Nat.reduceEqDiff, Nat.reduceAdd, Nat.reduceMul, Nat.reduceSub, Nat.reduceLT, Nat.reduceLeDiff, Nat.reduceBNe, Nat.reduceBEq, Int.reduceToNat, Int.reduceAdd, Int.reduceSub, Int.reduceMul, Int.reduceLT, Int.reduceLE, Int.reduceNeg, Int.reduceBEq, Int.reduceBNe, Int.reduceEq, beq_self_eq_true, reduceCtorEq, decide_true, decide_false, if_pos, if_neg]; first | done | omega))) only [go_sem, ↓reduceIte, Nat.reduceEqDiff, Nat.reduceAdd, Nat.reduceMul, Nat.reduceSub, Nat.reduceLT, Nat.reduceLeDiff, Nat.reduceBNe, Nat.reduceBEq, Int.reduceToNat, Int.reduceAdd, Int.reduceSub, Int.reduceMul, Int.reduceLT, Int.reduceLE, Int.reduceNeg, Int.reduceBEq, Int.reduceBNe, Int.reduceEq, beq_self_eq_true, reduceCtorEq, decide_true, decide_false, if_pos, if_neg] <;> rfl) | fail) fun hn => ?_
  refine R_sl 1 (by first | (simp (disch := (first | omega | (simp only [go_sem, ↓reduceIte, Nat.reduceEqDiff, Nat.reduceAdd, Nat.reduceMul, Nat.reduceSub, Nat.reduceLT, Nat.reduceLeDiff, Nat.reduceBNe, Nat.reduceBEq, Int.reduceToNat, Int.reduceAdd, Int.reduceSub, Int.reduceMul, Int.reduceLT, Int.reduceLE, Int.reduceNeg, Int.reduceBEq, Int.reduceBNe, Int.reduceEq, beq_self_eq_true, reduceCtorEq, decide_true, decide_false, if_pos, if_neg]; first | done | omega))) only [go_sem, ↓reduceIte, Nat.reduceEqDiff, Nat.reduceAdd, Nat.reduceMul, Nat.reduceSub, Nat.reduceLT, Nat.reduceLeDiff, Nat.reduceBNe, Nat.reduceBEq, Int.reduceToNat, Int.reduceAdd, Int.reduceSub, Int.reduceMul, Int.reduceLT, Int.reduceLE, Int.reduceNeg, Int.reduceBEq, Int.reduceBNe, Int.reduceEq, beq_self_eq_true, reduceCtorEq, decide_true, decide_false, if_pos, if_neg] <;> rfl) | fail) fun hn' => ?_
  refine cnd (fun h => ?_) (fun h => ?_)
  · simp only [decide_eq_true_eq, decide_eq_false_iff_not, Bool.or_eq_true, Bool.and_eq_true, Bool.or_eq_false_iff, Bool.and_eq_false_iff, Bool.not_eq_true', Bool.not_eq_false', bne_iff_ne, beq_iff_eq, ne_eq, bne_eq_false_iff_eq, beq_eq_false_iff_ne, ge_iff_le, gt_iff_lt, Int.not_le, Int.not_lt] at h
    have e : cmpN a b = (A.length : Int) - B.length := by unfold cmpN; rw [if_pos (by omega), eA, eB]
    refine go ?_
    refine R_ret (fin_of (ids := []) (by first | (simp (disch := (first | omega | (simp only [go_sem, ↓reduceIte, Nat.reduceEqDiff, Nat.reduceAdd, Nat.reduceMul, Nat.reduceSub, Nat.reduceLT, Nat.reduceLeDiff, Nat.reduceBNe, Nat.reduceBEq, Int.reduceToNat, Int.reduceAdd, Int.reduceSub, Int.reduceMul, Int.reduceLT, Int.reduceLE, Int.reduceNeg, Int.reduceBEq, Int.reduceBNe, Int.reduceEq, beq_self_eq_true, reduceCtorEq, decide_true, decide_false, if_pos, if_neg]; first | done | omega))) only [go_sem, ↓reduceIte, Nat.reduceEqDiff, Nat.reduceAdd, Nat.reduceMul, Nat.reduceSub, Nat.reduceLT, Nat.reduceLeDiff, Nat.reduceBNe, Nat.reduceBEq, Int.reduceToNat, Int.reduceAdd, Int.reduceSub, Int.reduceMul, Int.reduceLT, Int.reduceLE, Int.reduceNeg, Int.reduceBEq, Int.reduceBNe, Int.reduceEq, beq_self_eq_true, reduceCtorEq, decide_true, decide_false, if_pos, if_neg] <;> rfl) | fail) (by simp (disch := (first | omega | (simp only [go_sem, ↓reduceIte, Nat.reduceEqDiff, Nat.reduceAdd, Nat.reduceMul, Nat.reduceSub, Nat.reduceLT, Nat.reduceLeDiff, Nat.reduceBNe, Nat.reduceBEq, Int.reduceToNat, Int.reduceAdd, Int.reduceSub, Int.reduceMul, Int.reduceLT, Int.reduceLE, Int.reduceNeg, Int.reduceBEq, Int.reduceBNe, Int.reduceEq, beq_self_eq_true, reduceCtorEq, decide_true, decide_false, if_pos, if_neg]; first | done | omega))) only [go_sem, ↓reduceIte, Nat.reduceEqDiff, Nat.reduceAdd, Nat.reduceMul, Nat.reduceSub, Nat.reduceLT, Nat.reduceLeDiff, Nat.reduceBNe, Nat.reduceBEq, Int.reduceToNat, Int.reduceAdd, Int.reduceSub, Int.reduceMul, Int.reduceLT, Int.reduceLE, Int.reduceNeg, Int.reduceBEq, Int.reduceBNe, Int.reduceEq, beq_self_eq_true, reduceCtorEq, decide_true, decide_false, if_pos, if_neg, e]) (by decide) (by simp (disch := (first | omega | (simp only [go_sem, ↓reduceIte, Nat.reduceEqDiff, Nat.reduceAdd, Nat.reduceMul, Nat.reduceSub, Nat.reduceLT, Nat.reduceLeDiff, Nat.reduceBNe, Nat.reduceBEq, Int.reduceToNat, Int.reduceAdd, Int.reduceSub, Int.reduceMul, Int.reduceLT, Int.reduceLE, Int.reduceNeg, Int.reduceBEq, Int.reduceBNe, Int.reduceEq, beq_self_eq_true, reduceCtorEq, decide_true, decide_false, if_pos, if_neg]; first | done | omega))) only [go_sem, ↓reduceIte, Nat.reduceEqDiff, Nat.reduceAdd, Nat.reduceMul, Nat.reduceSub, Nat.reduceLT, Nat.reduceLeDiff, Nat.reduceBNe, Nat.reduceBEq, Int.reduceToNat, Int.reduceAdd, Int.reduceSub, Int.reduceMul, Int.reduceLT, Int.reduceLE, Int.reduceNeg, Int.reduceBEq, Int.reduceBNe, Int.reduceEq, beq_self_eq_true, reduceCtorEq, decide_true, decide_false, if_pos, if_neg, e]))
  · simp only [decide_eq_true_eq, decide_eq_false_iff_not, Bool.or_eq_true, Bool.and_eq_true, Bool.or_eq_false_iff, Bool.and_eq_false_iff, Bool.not_eq_true', Bool.not_eq_false', bne_iff_ne, beq_iff_eq, ne_eq, bne_eq_false_iff_eq, beq_eq_false_iff_ne, ge_iff_le, gt_iff_lt, Int.not_le, Int.not_lt] at h
    have hl : A.length = B.length := by omega
    clear h
    refine go ?_
    refine R_loop (fun n : Nat => ⟨tl [(0, msl A), (1, msl B), (5, .sc (.int .i64 ((n : Int) - 1)))], ol [], 0, [], 43⟩) (fun n => n ≤ A.length ∧ A.drop n = B.drop n) (fun n => n) A.length [] lessA ⟨Nat.le_refl _, by rw [List.drop_eq_nil_of_le (by omega), List.drop_eq_nil_of_le (by omega)]⟩ fun n hi => ?_
    have hx : (((n : Nat) : Int) - 1).toNat = n - 1 := by omega
    have nn : ¬ ln a ≠ ln b := by omega
    refine go ?_
    refine cnd (fun h => ?_) (fun h => ?_)
    · simp only [decide_eq_true_eq, decide_eq_false_iff_not, Bool.or_eq_true, Bool.and_eq_true, Bool.or_eq_false_iff, Bool.and_eq_false_iff, Bool.not_eq_true', Bool.not_eq_false', bne_iff_ne, beq_iff_eq, ne_eq, bne_eq_false_iff_eq, beq_eq_false_iff_ne, ge_iff_le, gt_iff_lt, Int.not_le, Int.not_lt] at h
      have e1 : n - 1 + 1 = n := by omega
      refine go ?_
      refine cnd (fun h => ?_) (fun h => ?_)
      · simp only [decide_eq_true_eq, decide_eq_false_iff_not, Bool.or_eq_true, Bool.and_eq_true, Bool.or_eq_false_iff, Bool.and_eq_false_iff, Bool.not_eq_true', Bool.not_eq_false', bne_iff_ne, beq_iff_eq, ne_eq, bne_eq_false_iff_eq, beq_eq_false_iff_ne, ge_iff_le, gt_iff_lt, Int.not_le, Int.not_lt] at h
        rename_i h0
        rw [hx] at h
        have := val_less (by decide) dA dB (show n - 1 < A.length by omega) (by omega) (by rw [e1]; exact hi.2) h
        have e : cmpN a b = -1 := by unfold cmpN; rw [if_neg nn, if_pos (by omega)]
        refine go ?_
        refine R_ret (fin_of (ids := []) (by first | (simp (disch := (first | omega | (simp only [go_sem, ↓reduceIte, Nat.reduceEqDiff, Nat.reduceAdd, Nat.reduceMul, Nat.reduceSub, Nat.reduceLT, Nat.reduceLeDiff, Nat.reduceBNe, Nat.reduceBEq, Int.reduceToNat, Int.reduceAdd, Int.reduceSub, Int.reduceMul, Int.reduceLT, Int.reduceLE, Int.reduceNeg, Int.reduceBEq, Int.reduceBNe, Int.reduceEq, beq_self_eq_true, reduceCtorEq, decide_true, decide_false, if_pos, if_neg]; first | done | omega))) only [go_sem, ↓reduceIte, Nat.reduceEqDiff, Nat.reduceAdd, Nat.reduceMul, Nat.reduceSub, Nat.reduceLT, Nat.reduceLeDiff, Nat.reduceBNe, Nat.reduceBEq, Int.reduceToNat, Int.reduceAdd, Int.reduceSub, Int.reduceMul, Int.reduceLT, Int.reduceLE, Int.reduceNeg, Int.reduceBEq, Int.reduceBNe, Int.reduceEq, beq_self_eq_true, reduceCtorEq, decide_true, decide_false, if_pos, if_neg] <;> rfl) | fail) (by simp (disch := (first | omega | (simp only [go_sem, ↓reduceIte, Nat.reduceEqDiff, Nat.reduceAdd, Nat.reduceMul, Nat.reduceSub, Nat.reduceLT, Nat.reduceLeDiff, Nat.reduceBNe, Nat.reduceBEq, Int.reduceToNat, Int.reduceAdd, Int.reduceSub, Int.reduceMul, Int.reduceLT, Int.reduceLE, Int.reduceNeg, Int.reduceBEq, Int.reduceBNe, Int.reduceEq, beq_self_eq_true, reduceCtorEq, decide_true, decide_false, if_pos, if_neg]; first | done | omega))) only [go_sem, ↓reduceIte, Nat.reduceEqDiff, Nat.reduceAdd, Nat.reduceMul, Nat.reduceSub, Nat.reduceLT, Nat.reduceLeDiff, Nat.reduceBNe, Nat.reduceBEq, Int.reduceToNat, Int.reduceAdd, Int.reduceSub, Int.reduceMul, Int.reduceLT, Int.reduceLE, Int.reduceNeg, Int.reduceBEq, Int.reduceBNe, Int.reduceEq, beq_self_eq_true, reduceCtorEq, decide_true, decide_false, if_pos, if_neg, e]) (by decide) (by simp (disch := (first | omega | (simp only [go_sem, ↓reduceIte, Nat.reduceEqDiff, Nat.reduceAdd, Nat.reduceMul, Nat.reduceSub, Nat.reduceLT, Nat.reduceLeDiff, Nat.reduceBNe, Nat.reduceBEq, Int.reduceToNat, Int.reduceAdd, Int.reduceSub, Int.reduceMul, Int.reduceLT, Int.reduceLE, Int.reduceNeg, Int.reduceBEq, Int.reduceBNe, Int.reduceEq, beq_self_eq_true, reduceCtorEq, decide_true, decide_false, if_pos, if_neg]; first | done | omega))) only [go_sem, ↓reduceIte, Nat.reduceEqDiff, Nat.reduceAdd, Nat.reduceMul, Nat.reduceSub, Nat.reduceLT, Nat.reduceLeDiff, Nat.reduceBNe, Nat.reduceBEq, Int.reduceToNat, Int.reduceAdd, Int.reduceSub, Int.reduceMul, Int.reduceLT, Int.reduceLE, Int.reduceNeg, Int.reduceBEq, Int.reduceBNe, Int.reduceEq, beq_self_eq_true, reduceCtorEq, decide_true, decide_false, if_pos, if_neg, e]))
      · simp only [decide_eq_true_eq, decide_eq_false_iff_not, Bool.or_eq_true, Bool.and_eq_true, Bool.or_eq_false_iff, Bool.and_eq_false_iff, Bool.not_eq_true', Bool.not_eq_false', bne_iff_ne, beq_iff_eq, ne_eq, bne_eq_false_iff_eq, beq_eq_false_iff_ne, ge_iff_le, gt_iff_lt, Int.not_le, Int.not_lt] at h
        rename_i h0
        rw [hx] at h
        refine go ?_
        refine cnd (fun h => ?_) (fun h => ?_)
        · simp only [decide_eq_true_eq, decide_eq_false_iff_not, Bool.or_eq_true, Bool.and_eq_true, Bool.or_eq_false_iff, Bool.and_eq_false_iff, Bool.not_eq_true', Bool.not_eq_false', bne_iff_ne, beq_iff_eq, ne_eq, bne_eq_false_iff_eq, beq_eq_false_iff_ne, ge_iff_le, gt_iff_lt, Int.not_le, Int.not_lt] at h
          rename_i h1
          rw [hx] at h
          have := val_less (by decide) dB dA (show n - 1 < B.length by omega) (by omega) (by rw [e1]; exact hi.2.symm) h
          have e : cmpN a b = 1 := by unfold cmpN; rw [if_neg nn, if_neg (by omega), if_pos (by omega)]
          refine go ?_
          refine R_ret (fin_of (ids := []) (by first | (simp (disch := (first | omega | (simp only [go_sem, ↓reduceIte, Nat.reduceEqDiff, Nat.reduceAdd, Nat.reduceMul, Nat.reduceSub, Nat.reduceLT, Nat.reduceLeDiff, Nat.reduceBNe, Nat.reduceBEq, Int.reduceToNat, Int.reduceAdd, Int.reduceSub, Int.reduceMul, Int.reduceLT, Int.reduceLE, Int.reduceNeg, Int.reduceBEq, Int.reduceBNe, Int.reduceEq, beq_self_eq_true, reduceCtorEq, decide_true, decide_false, if_pos, if_neg]; first | done | omega))) only [go_sem, ↓reduceIte, Nat.reduceEqDiff, Nat.reduceAdd, Nat.reduceMul, Nat.reduceSub, Nat.reduceLT, Nat.reduceLeDiff, Nat.reduceBNe, Nat.reduceBEq, Int.reduceToNat, Int.reduceAdd, Int.reduceSub, Int.reduceMul, Int.reduceLT, Int.reduceLE, Int.reduceNeg, Int.reduceBEq, Int.reduceBNe, Int.reduceEq, beq_self_eq_true, reduceCtorEq, decide_true, decide_false, if_pos, if_neg] <;> rfl) | fail) (by simp (disch := (first | omega | (simp only [go_sem, ↓reduceIte, Nat.reduceEqDiff, Nat.reduceAdd, Nat.reduceMul, Nat.reduceSub, Nat.reduceLT, Nat.reduceLeDiff, Nat.reduceBNe, Nat.reduceBEq, Int.reduceToNat, Int.reduceAdd, Int.reduceSub, Int.reduceMul, Int.reduceLT, Int.reduceLE, Int.reduceNeg, Int.reduceBEq, Int.reduceBNe, Int.reduceEq, beq_self_eq_true, reduceCtorEq, decide_true, decide_false, if_pos, if_neg]; first | done | omega))) only [go_sem, ↓reduceIte, Nat.reduceEqDiff, Nat.reduceAdd, Nat.reduceMul, Nat.reduceSub, Nat.reduceLT, Nat.reduceLeDiff, Nat.reduceBNe, Nat.reduceBEq, Int.reduceToNat, Int.reduceAdd, Int.reduceSub, Int.reduceMul, Int.reduceLT, Int.reduceLE, Int.reduceNeg, Int.reduceBEq, Int.reduceBNe, Int.reduceEq, beq_self_eq_true, reduceCtorEq, decide_true, decide_false, if_pos, if_neg, e]) (by decide) (by simp (disch := (first | omega | (simp only [go_sem, ↓reduceIte, Nat.reduceEqDiff, Nat.reduceAdd, Nat.reduceMul, Nat.reduceSub, Nat.reduceLT, Nat.reduceLeDiff, Nat.reduceBNe, Nat.reduceBEq, Int.reduceToNat, Int.reduceAdd, Int.reduceSub, Int.reduceMul, Int.reduceLT, Int.reduceLE, Int.reduceNeg, Int.reduceBEq, Int.reduceBNe, Int.reduceEq, beq_self_eq_true, reduceCtorEq, decide_true, decide_false, if_pos, if_neg]; first | done | omega))) only [go_sem, ↓reduceIte, Nat.reduceEqDiff, Nat.reduceAdd, Nat.reduceMul, Nat.reduceSub, Nat.reduceLT, Nat.reduceLeDiff, Nat.reduceBNe, Nat.reduceBEq, Int.reduceToNat, Int.reduceAdd, Int.reduceSub, Int.reduceMul, Int.reduceLT, Int.reduceLE, Int.reduceNeg, Int.reduceBEq, Int.reduceBNe, Int.reduceEq, beq_self_eq_true, reduceCtorEq, decide_true, decide_false, if_pos, if_neg, e]))
        · simp only [decide_eq_true_eq, decide_eq_false_iff_not, Bool.or_eq_true, Bool.and_eq_true, Bool.or_eq_false_iff, Bool.and_eq_false_iff, Bool.not_eq_true', Bool.not_eq_false', bne_iff_ne, beq_iff_eq, ne_eq, bne_eq_false_iff_eq, beq_eq_false_iff_ne, ge_iff_le, gt_iff_lt, Int.not_le, Int.not_lt] at h
          rename_i h1
          rw [hx] at h
          refine go ?_
          have hy : ((n : Int) - 1 - 1) = ((n - 1 : Nat) : Int) - 1 := by omega
          refine R_nilR ⟨[], _, ?_, n - 1, ⟨by omega, by
            have g1 : n - 1 < A.length := by omega
            have g2 : n - 1 < B.length := by omega
            rw [List.drop_eq_getElem_cons g1, List.drop_eq_getElem_cons g2, e1, hi.2]
            congr 1
            have := Int.le_antisymm (Int.not_lt.1 (fun hc => absurd hc (by omega))) (Int.not_lt.1 (fun hc => absurd hc (by omega)) : A.getD (n - 1) 0 ≤ B.getD (n - 1) 0)
            simp only [List.getD_eq_getElem?_getD, List.getElem?_eq_getElem g1, List.getElem?_eq_getElem g2, Option.getD_some] at this
            exact this.symm⟩, by omega, rfl⟩; exact (Less.mk' (by simp (disch := (first | omega | (simp only [go_sem, ↓reduceIte, Nat.reduceEqDiff, Nat.reduceAdd, Nat.reduceMul, Nat.reduceSub, Nat.reduceLT, Nat.reduceLeDiff, Nat.reduceBNe, Nat.reduceBEq, Int.reduceToNat, Int.reduceAdd, Int.reduceSub, Int.reduceMul, Int.reduceLT, Int.reduceLE, Int.reduceNeg, Int.reduceBEq, Int.reduceBNe, Int.reduceEq, beq_self_eq_true, reduceCtorEq, decide_true, decide_false, if_pos, if_neg]; first | done | omega))) only [go_sem, ↓reduceIte, Nat.reduceEqDiff, Nat.reduceAdd, Nat.reduceMul, Nat.reduceSub, Nat.reduceLT, Nat.reduceLeDiff, Nat.reduceBNe, Nat.reduceBEq, Int.reduceToNat, Int.reduceAdd, Int.reduceSub, Int.reduceMul, Int.reduceLT, Int.reduceLE, Int.reduceNeg, Int.reduceBEq, Int.reduceBNe, Int.reduceEq, beq_self_eq_true, reduceCtorEq, decide_true, decide_false, if_pos, if_neg, hy]) (by simp (disch := (first | omega | (simp only [go_sem, ↓reduceIte, Nat.reduceEqDiff, Nat.reduceAdd, Nat.reduceMul, Nat.reduceSub, Nat.reduceLT, Nat.reduceLeDiff, Nat.reduceBNe, Nat.reduceBEq, Int.reduceToNat, Int.reduceAdd, Int.reduceSub, Int.reduceMul, Int.reduceLT, Int.reduceLE, Int.reduceNeg, Int.reduceBEq, Int.reduceBNe, Int.reduceEq, beq_self_eq_true, reduceCtorEq, decide_true, decide_false, if_pos, if_neg]; first | done | omega))) only [go_sem, ↓reduceIte, Nat.reduceEqDiff, Nat.reduceAdd, Nat.reduceMul, Nat.reduceSub, Nat.reduceLT, Nat.reduceLeDiff, Nat.reduceBNe, Nat.reduceBEq, Int.reduceToNat, Int.reduceAdd, Int.reduceSub, Int.reduceMul, Int.reduceLT, Int.reduceLE, Int.reduceNeg, Int.reduceBEq, Int.reduceBNe, Int.reduceEq, beq_self_eq_true, reduceCtorEq, decide_true, decide_false, if_pos, if_neg, hy]) (by decide) (by decide))
    · simp only [decide_eq_true_eq, decide_eq_false_iff_not, Bool.or_eq_true, Bool.and_eq_true, Bool.or_eq_false_iff, Bool.and_eq_false_iff, Bool.not_eq_true', Bool.not_eq_false', bne_iff_ne, beq_iff_eq, ne_eq, bne_eq_false_iff_eq, beq_eq_false_iff_ne, ge_iff_le, gt_iff_lt, Int.not_le, Int.not_lt] at h
      have n0 : n = 0 := by omega
      subst n0
      have e0 : A = B := by simpa using hi.2
      have e : cmpN a b = 0 := by unfold cmpN; rw [if_neg nn, if_neg (by rw [e0] at vA; omega), if_neg (by rw [e0] at vA; omega)]
      refine go ?_
      refine R_ret (fin_of (ids := []) (by first | (simp (disch := (first | omega | (simp only [go_sem, ↓reduceIte, Nat.reduceEqDiff, Nat.reduceAdd, Nat.reduceMul, Nat.reduceSub, Nat.reduceLT, Nat.reduceLeDiff, Nat.reduceBNe, Nat.reduceBEq, Int.reduceToNat, Int.reduceAdd, Int.reduceSub, Int.reduceMul, Int.reduceLT, Int.reduceLE, Int.reduceNeg, Int.reduceBEq, Int.reduceBNe, Int.reduceEq, beq_self_eq_true, reduceCtorEq, decide_true, decide_false, if_pos, if_neg]; first | done | omega))) only [go_sem, ↓reduceIte, Nat.reduceEqDiff, Nat.reduceAdd, Nat.reduceMul, Nat.reduceSub, Nat.reduceLT, Nat.reduceLeDiff, Nat.reduceBNe, Nat.reduceBEq, Int.reduceToNat, Int.reduceAdd, Int.reduceSub, Int.reduceMul, Int.reduceLT, Int.reduceLE, Int.reduceNeg, Int.reduceBEq, Int.reduceBNe, Int.reduceEq, beq_self_eq_true, reduceCtorEq, decide_true, decide_false, if_pos, if_neg] <;> rfl) | fail) (by simp (disch := (first | omega | (simp only [go_sem, ↓reduceIte, Nat.reduceEqDiff, Nat.reduceAdd, Nat.reduceMul, Nat.reduceSub, Nat.reduceLT, Nat.reduceLeDiff, Nat.reduceBNe, Nat.reduceBEq, Int.reduceToNat, Int.reduceAdd, Int.reduceSub, Int.reduceMul, Int.reduceLT, Int.reduceLE, Int.reduceNeg, Int.reduceBEq, Int.reduceBNe, Int.reduceEq, beq_self_eq_true, reduceCtorEq, decide_true, decide_false, if_pos, if_neg]; first | done | omega))) only [go_sem, ↓reduceIte, Nat.reduceEqDiff, Nat.reduceAdd, Nat.reduceMul, Nat.reduceSub, Nat.reduceLT, Nat.reduceLeDiff, Nat.reduceBNe, Nat.reduceBEq, Int.reduceToNat, Int.reduceAdd, Int.reduceSub, Int.reduceMul, Int.reduceLT, Int.reduceLE, Int.reduceNeg, Int.reduceBEq, Int.reduceBNe, Int.reduceEq, beq_self_eq_true, reduceCtorEq, decide_true, decide_false, if_pos, if_neg, e]) (by decide) (by simp (disch := (first | omega | (simp only [go_sem, ↓reduceIte, Nat.reduceEqDiff, Nat.reduceAdd, Nat.reduceMul, Nat.reduceSub, Nat.reduceLT, Nat.reduceLeDiff, Nat.reduceBNe, Nat.reduceBEq, Int.reduceToNat, Int.reduceAdd, Int.reduceSub, Int.reduceMul, Int.reduceLT, Int.reduceLE, Int.reduceNeg, Int.reduceBEq, Int.reduceBNe, Int.reduceEq, beq_self_eq_true, reduceCtorEq, decide_true, decide_false, if_pos, if_neg]; first | done | omega))) only [go_sem, ↓reduceIte, Nat.reduceEqDiff, Nat.reduceAdd, Nat.reduceMul, Nat.reduceSub, Nat.reduceLT, Nat.reduceLeDiff, Nat.reduceBNe, Nat.reduceBEq, Int.reduceToNat, Int.reduceAdd, Int.reduceSub, Int.reduceMul, Int.reduceLT, Int.reduceLE, Int.reduceNeg, Int.reduceBEq, Int.reduceBNe, Int.reduceEq, beq_self_eq_true, reduceCtorEq, decide_true, decide_false, if_pos, if_neg, e]))

end Go.Proofs.YtglnkfpmogaifaaGreatDoor.V

/-
  The groups of a number: one group, a copy, the sum.
-/
set_option linter.unusedSimpArgs false
set_option linter.unusedVariables false
namespace Go.Proofs.YtglnkfpmogaifaaGreatDoor.V
open Go Go.Proofs Go.RowKit

theorem ints_spl (k : IntKind) (xs ys : List Int) (n : Nat) : splice (ints k xs) n (ints k ys) = ints k (xs.take n ++ ys ++ xs.drop (n + ys.length)) := by
  unfold splice
  rw [ints_take, ints_length, ints_drop, ints_append, ints_append]
attribute [go_sem] ints_spl

theorem cOne {n : Int} (h0 : 0 ≤ n) (h1 : n < BB) : Con Tryz.prog 74 [.sc (.int .u64 n)] (ms n.toNat) [] := by
  have e : cutI [n] = dig BB n.toNat := cut_of (fun i hi => by
    have : i = 0 := by simpa using hi
    subst this
    exact ⟨h0, h1⟩) (by simp only [val]; omega)
  refine Con.of_body [(0, .sc (.int .u64 n))] Tryz.func74 rfl ca74 6 rfl (by simp) rfl ?_; refine T_of_R ?_
  refine go ?_
  refine callz (cTrim [n]) ?_
  rw [e]
  refine go ?_
  refine R_ret (finA [])

theorem cClone0 : Con Tryz.prog 101 [.sl 0 []] (.sl 0 []) [] := by
  refine Con.of_empty fun a c => ?_
  refine Con.frozen (r := .em) (os := []) 3 ?_
  refine Con.of_body [(0, .sc (.slice a 0 c))] Tryz.func101 rfl ca101 8 rfl (by simp) rfl ?_; refine T_of_R ?_
  refine go ?_
  refine cnd (fun h => ?_) (fun h => ?_)
  · refine go ?_
    refine R_ret (finA [])
  · refine R_skip (R_seq (R_region (vs_em (by kernel_rfl) (by decide) ?_)))
    refine go ?_
    refine R_ret (finA [])
theorem cClone {A : List Int} (h0 : A.length ≠ 0) (h1 : A.length ≤ 1000000000) : Con Tryz.prog 101 [msl A] (.rf 0 0 A.length 1) [⟨ints .u64 A, 98, 1, false⟩] := by
  refine Con.of_body [(0, msl A)] Tryz.func101 rfl ca101 8 rfl (by simp) rfl ?_; refine T_of_R ?_
  refine go ?_
  refine cnd (fun h => ?_) (fun h => ?_)
  · cases h
  · refine R_skip (R_seq (R_region (vs_em (by kernel_rfl) (by decide) ?_)))
    refine go ?_
    refine R_ret (finA [0])

theorem cPlus {a b : Nat} (h : ln a + ln b ≤ 1000000000) : Con Tryz.prog 73 [ms a, ms b] (ms (a + b)) [] := by
  obtain ⟨A, hA⟩ : ∃ A, A = dig BB a := ⟨_, rfl⟩
  obtain ⟨B, hB⟩ : ∃ B, B = dig BB b := ⟨_, rfl⟩
  have dA : Dg BB A := hA ▸ dg_dig BB2 a
  have dB : Dg BB B := hB ▸ dg_dig BB2 b
  have vA : val BB A = a := hA ▸ val_dig BB2 a
  have vB : val BB B = b := hB ▸ val_dig BB2 b
  show Con _ _ [msl (dig BB a), msl (dig BB b)] _ _
  unfold ln at h
  rw [← hA, ← hB] at h ⊢
  obtain ⟨m, hm⟩ : ∃ m, m = max A.length B.length := ⟨_, rfl⟩
  have hmx : (if (B.length : Int) > (A.length : Int) then (B.length : Int) else (A.length : Int)) = m := by split <;> omega
  have hm1 : ((m : Int) + 1).toNat = m + 1 := by omega
  refine Con.of_body [(0, msl A), (1, msl B)] Tryz.func73 rfl ca73 61 rfl (by simp) rfl ?_; refine T_of_R ?_
  refine go ?_
  rw [hmx]
  refine R_sl 1 (by first | (simp (disch := (first | omega | (simp only [go_sem, ↓reduceIte, Nat.reduceEqDiff, Nat.reduceAdd, Nat.reduceMul, Nat.reduceSub, Nat.reduceLT, Nat.reduceLeDiff, Nat.reduceBNe, Nat.reduceBEq, Int.reduceToNat, Int.reduceAdd, Int.reduceSub, Int.reduceMul, Int.reduceLT, Int.reduceLE, Int.reduceNeg, Int.reduceBEq, Int.reduceBNe, Int.reduceEq, beq_self_eq_true, reduceCtorEq, decide_true, decide_false, if_pos, if_neg]; first | done | omega))) only [go_sem, ↓reduceIte, Nat.reduceEqDiff, Nat.reduceAdd, Nat.reduceMul, Nat.reduceSub, Nat.reduceLT, Nat.reduceLeDiff, Nat.reduceBNe, Nat.reduceBEq, Int.reduceToNat, Int.reduceAdd, Int.reduceSub, Int.reduceMul, Int.reduceLT, Int.reduceLE, Int.reduceNeg, Int.reduceBEq, Int.reduceBNe, Int.reduceEq, beq_self_eq_true, reduceCtorEq, decide_true, decide_false, if_pos, if_neg] <;> rfl) | fail) fun hn' => ?_
  refine R_loop (fun p : Nat × List Int => ⟨tl [(5, .rf 0 0 (m + 1) 1), (19, msl B), (20, .sc (.int .i64 B.length)), (21, .sc (.int .i64 p.1))], ol [(0, ⟨ints .u64 p.2, 98, 1, false⟩)], 1, [], 61⟩)
    (fun p => p.1 ≤ B.length ∧ p.2.length = m + 1 ∧ val BB p.2 = a + val BB (B.take p.1) ∧ p.2.getD m 0 = 0 ∧ ∀ j, 0 ≤ p.2.getD j 0 ∧ p.2.getD j 0 ≤ (if j < p.1 then 1999999999999999998 else 999999999999999999)) (fun p => B.length - p.1)
    (0, A ++ List.replicate (m + 1 - A.length) 0) [0] (Less.mk' (by simp (disch := (first | omega | (simp only [go_sem, ↓reduceIte, Nat.reduceEqDiff, Nat.reduceAdd, Nat.reduceMul, Nat.reduceSub, Nat.reduceLT, Nat.reduceLeDiff, Nat.reduceBNe, Nat.reduceBEq, Int.reduceToNat, Int.reduceAdd, Int.reduceSub, Int.reduceMul, Int.reduceLT, Int.reduceLE, Int.reduceNeg, Int.reduceBEq, Int.reduceBNe, Int.reduceEq, beq_self_eq_true, reduceCtorEq, decide_true, decide_false, if_pos, if_neg]; first | done | omega))) only [go_sem, ↓reduceIte, Nat.reduceEqDiff, Nat.reduceAdd, Nat.reduceMul, Nat.reduceSub, Nat.reduceLT, Nat.reduceLeDiff, Nat.reduceBNe, Nat.reduceBEq, Int.reduceToNat, Int.reduceAdd, Int.reduceSub, Int.reduceMul, Int.reduceLT, Int.reduceLE, Int.reduceNeg, Int.reduceBEq, Int.reduceBNe, Int.reduceEq, beq_self_eq_true, reduceCtorEq, decide_true, decide_false, if_pos, if_neg, hm1, List.drop_replicate]) (by simp (disch := (first | omega | (simp only [go_sem, ↓reduceIte, Nat.reduceEqDiff, Nat.reduceAdd, Nat.reduceMul, Nat.reduceSub, Nat.reduceLT, Nat.reduceLeDiff, Nat.reduceBNe, Nat.reduceBEq, Int.reduceToNat, Int.reduceAdd, Int.reduceSub, Int.reduceMul, Int.reduceLT, Int.reduceLE, Int.reduceNeg, Int.reduceBEq, Int.reduceBNe, Int.reduceEq, beq_self_eq_true, reduceCtorEq, decide_true, decide_false, if_pos, if_neg]; first | done | omega))) only [go_sem, ↓reduceIte, Nat.reduceEqDiff, Nat.reduceAdd, Nat.reduceMul, Nat.reduceSub, Nat.reduceLT, Nat.reduceLeDiff, Nat.reduceBNe, Nat.reduceBEq, Int.reduceToNat, Int.reduceAdd, Int.reduceSub, Int.reduceMul, Int.reduceLT, Int.reduceLE, Int.reduceNeg, Int.reduceBEq, Int.reduceBNe, Int.reduceEq, beq_self_eq_true, reduceCtorEq, decide_true, decide_false, if_pos, if_neg, hm1, List.drop_replicate]) (by decide) (by decide)) ⟨by omega, ?_, ?_, ?_, ?_⟩ fun p hi => ?_
  · simp only [List.length_append, List.length_replicate]; omega
  · rw [val_append, val_zeros, vA]; simp [val]
  · show (A ++ List.replicate (m + 1 - A.length) 0).getD m 0 = 0
    rw [gappend, if_neg (by omega), gzeros]
  · intro j
    show 0 ≤ (A ++ List.replicate (m + 1 - A.length) 0).getD j 0 ∧ (A ++ List.replicate (m + 1 - A.length) 0).getD j 0 ≤ (if j < 0 then 1999999999999999998 else 999999999999999999)
    rw [if_neg (by omega), gappend]
    have := dA.toB j
    split
    · omega
    · rw [gzeros]; omega
  obtain ⟨i, C⟩ := p
  obtain ⟨i1, i2, i3, i4, i5⟩ := hi
  simp only at i1 i2 i3 i4 i5
  simp only
  refine go ?_
  refine cnd (fun h => ?_) (fun h => ?_)
  · simp only [decide_eq_true_eq, decide_eq_false_iff_not, Bool.or_eq_true, Bool.and_eq_true, Bool.or_eq_false_iff, Bool.and_eq_false_iff, Bool.not_eq_true', Bool.not_eq_false', bne_iff_ne, beq_iff_eq, ne_eq, bne_eq_false_iff_eq, beq_eq_false_iff_ne, ge_iff_le, gt_iff_lt, Int.not_le, Int.not_lt] at h
    have bi := dB.toB i
    have ci := i5 i
    rw [if_neg (by omega)] at ci
    refine go ?_
    refine R_nilR ⟨[0], _, ?_, (i + 1, C.set i (C.getD i 0 + B.getD i 0)), ⟨by simp only; omega, by simp only [List.length_set]; exact i2, ?_, ?_, ?_⟩, by omega, rfl⟩; exact lessA
    · show val BB (C.set i (C.getD i 0 + B.getD i 0)) = a + val BB (B.take (i + 1))
      rw [val_set _ _ _ _ (by omega), val_take_succ _ _ _ (by omega), i3]
      grind
    · show (C.set i (C.getD i 0 + B.getD i 0)).getD m 0 = 0
      rw [gset _ _ _ _ (by omega), if_neg (by omega)]
      exact i4
    · intro j
      show 0 ≤ (C.set i (C.getD i 0 + B.getD i 0)).getD j 0 ∧ (C.set i (C.getD i 0 + B.getD i 0)).getD j 0 ≤ if j < i + 1 then 1999999999999999998 else 999999999999999999
      rw [gset _ _ _ _ (by omega)]
      have := i5 j
      by_cases e : i = j
      · rw [if_pos e, if_pos (by omega)]; omega
      · rw [if_neg e]
        by_cases e2 : j < i
        · rw [if_pos (by omega)]; rw [if_pos e2] at this; exact this
        · rw [if_neg (by omega)]; rw [if_neg e2] at this; exact this
  · simp only [decide_eq_true_eq, decide_eq_false_iff_not, Bool.or_eq_true, Bool.and_eq_true, Bool.or_eq_false_iff, Bool.and_eq_false_iff, Bool.not_eq_true', Bool.not_eq_false', bne_iff_ne, beq_iff_eq, ne_eq, bne_eq_false_iff_eq, beq_eq_false_iff_ne, ge_iff_le, gt_iff_lt, Int.not_le, Int.not_lt] at h
    obtain rfl : i = B.length := by omega
    rw [List.take_length, vB] at i3
    have i5' : ∀ j, 0 ≤ C.getD j 0 ∧ C.getD j 0 ≤ 1999999999999999998 := fun j => by
      have := i5 j
      split at this <;> omega
    clear i5 h
    refine go ?_
    have hm2 : (m : Int) + 1 - 1 = m := by omega
    rw [hm2]
    refine R_loop (fun p : Nat × List Int => ⟨tl [(5, .rf 0 0 (m + 1) 1), (36, .sc (.int .i64 m)), (37, .sc (.int .i64 p.1))], ol [(0, ⟨ints .u64 p.2, 98, 1, false⟩)], 1, [], 61⟩)
      (fun p => p.1 ≤ m ∧ p.2.length = m + 1 ∧ val BB p.2 = a + b ∧ (∀ j, j < p.1 → p.2.getD j 0 < 1000000000000000000) ∧ (p.2.getD m 0 ≤ 1 ∧ (p.1 < m → p.2.getD m 0 = 0)) ∧ ∀ j, 0 ≤ p.2.getD j 0 ∧ (p.2.getD j 0 ≤ 1999999999999999998 ∨ (j = p.1 ∧ p.2.getD j 0 ≤ 1999999999999999999))) (fun p => m - p.1)
      (0, C) [0] lessA ⟨by omega, by simp only; exact i2, by simp only; exact i3, fun j hj => by simp only at hj; omega, ⟨by simp only; omega, fun _ => i4⟩, fun j => ⟨(i5' j).1, .inl (i5' j).2⟩⟩ fun p hi => ?_
    obtain ⟨i, K⟩ := p
    obtain ⟨k1, k2, k3, k4, k5, k6⟩ := hi
    simp only at k1 k2 k3 k4 k5 k6
    simp only
    refine go ?_
    refine cnd (fun h => ?_) (fun h => ?_)
    · simp only [decide_eq_true_eq, decide_eq_false_iff_not, Bool.or_eq_true, Bool.and_eq_true, Bool.or_eq_false_iff, Bool.and_eq_false_iff, Bool.not_eq_true', Bool.not_eq_false', bne_iff_ne, beq_iff_eq, ne_eq, bne_eq_false_iff_eq, beq_eq_false_iff_ne, ge_iff_le, gt_iff_lt, Int.not_le, Int.not_lt] at h
      have di := k6 i
      have di1 := k6 (i + 1)
      have hx : ((i : Int) + 1).toNat = i + 1 := by omega
      refine go ?_
      refine cnd (fun h => ?_) (fun h => ?_)
      · simp only [decide_eq_true_eq, decide_eq_false_iff_not, Bool.or_eq_true, Bool.and_eq_true, Bool.or_eq_false_iff, Bool.and_eq_false_iff, Bool.not_eq_true', Bool.not_eq_false', bne_iff_ne, beq_iff_eq, ne_eq, bne_eq_false_iff_eq, beq_eq_false_iff_ne, ge_iff_le, gt_iff_lt, Int.not_le, Int.not_lt] at h
        rename_i hlt
        have e1 : (K.set i (K.getD i 0 - 1000000000000000000)).getD (i + 1) 0 = K.getD (i + 1) 0 := by rw [gset _ _ _ _ (by omega), if_neg (by omega)]
        have hlen : (K.set i (K.getD i 0 - 1000000000000000000)).length = m + 1 := by rw [List.length_set]; exact k2
        have hg : ∀ j, ((K.set i (K.getD i 0 - 1000000000000000000)).set (i + 1) (K.getD (i + 1) 0 + 1)).getD j 0 = if i + 1 = j then K.getD (i + 1) 0 + 1 else if i = j then K.getD i 0 - 1000000000000000000 else K.getD j 0 := fun j => by
          rw [gset _ _ _ _ (by omega), gset _ _ _ _ (by omega)]
        have hv : val BB ((K.set i (K.getD i 0 - 1000000000000000000)).set (i + 1) (K.getD (i + 1) 0 + 1)) = a + b := by
          rw [val_set _ _ _ _ (by omega), val_set _ _ _ _ (by omega), e1, k3, powB, show K.getD i 0 - 1000000000000000000 - K.getD i 0 = -1000000000000000000 by omega, show K.getD (i + 1) 0 + 1 - K.getD (i + 1) 0 = 1 by omega]
          omega
        refine go ?_
        rw [hx, e1]
        refine R_nilR ⟨[0], _, ?_, (i + 1, (K.set i (K.getD i 0 - 1000000000000000000)).set (i + 1) (K.getD (i + 1) 0 + 1)), ⟨by simp only; omega, by simp only [List.length_set]; exact k2, hv, ?_, ?_, ?_⟩, by omega, rfl⟩; exact (Less.mk' (by simp (disch := (first | omega | (simp only [go_sem, ↓reduceIte, Nat.reduceEqDiff, Nat.reduceAdd, Nat.reduceMul, Nat.reduceSub, Nat.reduceLT, Nat.reduceLeDiff, Nat.reduceBNe, Nat.reduceBEq, Int.reduceToNat, Int.reduceAdd, Int.reduceSub, Int.reduceMul, Int.reduceLT, Int.reduceLE, Int.reduceNeg, Int.reduceBEq, Int.reduceBNe, Int.reduceEq, beq_self_eq_true, reduceCtorEq, decide_true, decide_false, if_pos, if_neg]; first | done | omega))) only [go_sem, ↓reduceIte, Nat.reduceEqDiff, Nat.reduceAdd, Nat.reduceMul, Nat.reduceSub, Nat.reduceLT, Nat.reduceLeDiff, Nat.reduceBNe, Nat.reduceBEq, Int.reduceToNat, Int.reduceAdd, Int.reduceSub, Int.reduceMul, Int.reduceLT, Int.reduceLE, Int.reduceNeg, Int.reduceBEq, Int.reduceBNe, Int.reduceEq, beq_self_eq_true, reduceCtorEq, decide_true, decide_false, if_pos, if_neg, hx, e1]) (by simp (disch := (first | omega | (simp only [go_sem, ↓reduceIte, Nat.reduceEqDiff, Nat.reduceAdd, Nat.reduceMul, Nat.reduceSub, Nat.reduceLT, Nat.reduceLeDiff, Nat.reduceBNe, Nat.reduceBEq, Int.reduceToNat, Int.reduceAdd, Int.reduceSub, Int.reduceMul, Int.reduceLT, Int.reduceLE, Int.reduceNeg, Int.reduceBEq, Int.reduceBNe, Int.reduceEq, beq_self_eq_true, reduceCtorEq, decide_true, decide_false, if_pos, if_neg]; first | done | omega))) only [go_sem, ↓reduceIte, Nat.reduceEqDiff, Nat.reduceAdd, Nat.reduceMul, Nat.reduceSub, Nat.reduceLT, Nat.reduceLeDiff, Nat.reduceBNe, Nat.reduceBEq, Int.reduceToNat, Int.reduceAdd, Int.reduceSub, Int.reduceMul, Int.reduceLT, Int.reduceLE, Int.reduceNeg, Int.reduceBEq, Int.reduceBNe, Int.reduceEq, beq_self_eq_true, reduceCtorEq, decide_true, decide_false, if_pos, if_neg, hx, e1]) (by decide) (by decide))
        · intro j hj
          simp only at hj ⊢
          rw [hg]
          by_cases e : i = j
          · rw [if_neg (by omega), if_pos e]; omega
          · rw [if_neg (by omega), if_neg e]; exact k4 j (by omega)
        · simp only
          rw [hg]
          have := k5.2 (by omega)
          by_cases e : i + 1 = m
          · rw [if_pos e, e]; omega
          · rw [if_neg e, if_neg (by omega)]; omega
        · intro j
          simp only
          rw [hg]
          have := k6 j
          by_cases e : i + 1 = j
          · rw [if_pos e]; omega
          · rw [if_neg e]
            by_cases e2 : i = j
            · rw [if_pos e2]; omega
            · rw [if_neg e2]; omega
      · simp only [decide_eq_true_eq, decide_eq_false_iff_not, Bool.or_eq_true, Bool.and_eq_true, Bool.or_eq_false_iff, Bool.and_eq_false_iff, Bool.not_eq_true', Bool.not_eq_false', bne_iff_ne, beq_iff_eq, ne_eq, bne_eq_false_iff_eq, beq_eq_false_iff_ne, ge_iff_le, gt_iff_lt, Int.not_le, Int.not_lt] at h
        rename_i hlt
        refine go ?_
        refine R_nilR ⟨[0], _, ?_, (i + 1, K), ⟨by simp only; omega, k2, k3, ?_, ⟨k5.1, fun h2 => k5.2 (by simp only at h2; omega)⟩, ?_⟩, by omega, rfl⟩; exact lessA
        · intro j hj
          simp only at hj ⊢
          by_cases e : j = i
          · rw [e]; omega
          · exact k4 j (by omega)
        · intro j
          simp only
          have := k6 j
          by_cases e : j = i
          · rw [e] at this ⊢; omega
          · omega
    · simp only [decide_eq_true_eq, decide_eq_false_iff_not, Bool.or_eq_true, Bool.and_eq_true, Bool.or_eq_false_iff, Bool.and_eq_false_iff, Bool.not_eq_true', Bool.not_eq_false', bne_iff_ne, beq_iff_eq, ne_eq, bne_eq_false_iff_eq, beq_eq_false_iff_ne, ge_iff_le, gt_iff_lt, Int.not_le, Int.not_lt] at h
      obtain rfl : i = m := by omega
      have dK : Dg BB K := dg_of fun j hj => by
        have := k6 j
        by_cases e : j = i
        · rw [e] at this ⊢; omega
        · have := k4 j (by omega); omega
      have e : cutI K = dig BB (a + b) := cut_add dK k3
      refine go ?_
      refine callz (cTrim' k2) ?_
      rw [e]
      refine go ?_
      refine R_ret (finA [])
end Go.Proofs.YtglnkfpmogaifaaGreatDoor.V

/-
  The difference of two numbers.
-/
set_option linter.unusedSimpArgs false
set_option linter.unusedVariables false
namespace Go.Proofs.YtglnkfpmogaifaaGreatDoor.V
open Go Go.Proofs Go.RowKit

theorem cMinus {a b : Nat} (hab : b ≤ a) (h : ln a ≤ 1000000000) : Con Tryz.prog 75 [ms a, ms b] (ms (a - b)) [] := by
  obtain ⟨A, hA⟩ : ∃ A, A = dig BB a := ⟨_, rfl⟩
  obtain ⟨B, hB⟩ : ∃ B, B = dig BB b := ⟨_, rfl⟩
  have dA : Dg BB A := hA ▸ dg_dig BB2 a
  have dB : Dg BB B := hB ▸ dg_dig BB2 b
  have vA : val BB A = a := hA ▸ val_dig BB2 a
  have vB : val BB B = b := hB ▸ val_dig BB2 b
  have lab : B.length ≤ A.length := by rw [hA, hB]; exact dig_mono BB2 hab
  show Con _ _ [msl (dig BB a), msl (dig BB b)] _ _
  unfold ln at h
  rw [← hA] at h
  rw [← hA, ← hB]
  by_cases h0 : A.length = 0
  · have eA : A = [] := List.length_eq_zero_iff.1 h0
    have eB : B = [] := List.length_eq_zero_iff.1 (by omega)
    have e : cutI [] = dig BB (a - b) := cut_of (dg_nil BB) (by rw [eA] at vA; simp only [val] at vA ⊢; omega)
    subst eA eB
    refine Con.of_body [(0, msl []), (1, msl [])] Tryz.func75 rfl ca75 49 rfl (by simp) rfl ?_; refine T_of_R ?_
    refine go ?_
    refine callz (cClone0) ?_
    refine go ?_
    refine R_loop (fun _ : Unit => ⟨tl [(5, .sl 0 []), (12, .sc (.int .i64 0)), (13, .sc (.int .i64 0))], ol [], 0, [], 49⟩) (fun _ => True) (fun _ => 0) () [] lessA trivial fun _ _ => ?_
    refine go ?_
    refine cnd (fun h => ?_) (fun h => ?_)
    · cases h
    · refine go ?_
      refine callz (cTrim []) ?_
      rw [e]
      refine go ?_
      refine R_ret (finA [])
  · refine Con.of_body [(0, msl A), (1, msl B)] Tryz.func75 rfl ca75 49 rfl (by simp) rfl ?_; refine T_of_R ?_
    refine go ?_
    refine callo (cClone h0 h) ?_
    refine go ?_
    refine R_sl 1 (by first | (simp (disch := (first | omega | (simp only [go_sem, ↓reduceIte, Nat.reduceEqDiff, Nat.reduceAdd, Nat.reduceMul, Nat.reduceSub, Nat.reduceLT, Nat.reduceLeDiff, Nat.reduceBNe, Nat.reduceBEq, Int.reduceToNat, Int.reduceAdd, Int.reduceSub, Int.reduceMul, Int.reduceLT, Int.reduceLE, Int.reduceNeg, Int.reduceBEq, Int.reduceBNe, Int.reduceEq, beq_self_eq_true, reduceCtorEq, decide_true, decide_false, if_pos, if_neg]; first | done | omega))) only [go_sem, ↓reduceIte, Nat.reduceEqDiff, Nat.reduceAdd, Nat.reduceMul, Nat.reduceSub, Nat.reduceLT, Nat.reduceLeDiff, Nat.reduceBNe, Nat.reduceBEq, Int.reduceToNat, Int.reduceAdd, Int.reduceSub, Int.reduceMul, Int.reduceLT, Int.reduceLE, Int.reduceNeg, Int.reduceBEq, Int.reduceBNe, Int.reduceEq, beq_self_eq_true, reduceCtorEq, decide_true, decide_false, if_pos, if_neg] <;> rfl) | fail) fun hn' => ?_
    refine R_loop (fun p : Nat × List Int × Int => ⟨tl [(1, msl B), (5, .rf 0 0 A.length 1), (6, .sc (.int .u64 p.2.2)), (12, .sc (.int .i64 A.length)), (13, .sc (.int .i64 p.1))], ol [(0, ⟨ints .u64 p.2.1, 98, 1, false⟩)], 1, [], 49⟩)
      (fun p => p.1 ≤ A.length ∧ p.2.1.length = A.length ∧ val BB p.2.1 = a - val BB (B.take p.1) + p.2.2 * ((BB ^ p.1 : Nat) : Int) ∧ (0 ≤ p.2.2 ∧ p.2.2 ≤ 1) ∧ Dg BB p.2.1) (fun p => A.length - p.1)
      (0, A, 0) [0] lessA ⟨by omega, rfl, by simp [val, vA], ⟨Int.le_refl 0, show (0 : Int) ≤ 1 by omega⟩, dA⟩ fun p hi => ?_
    obtain ⟨i, C, w⟩ := p
    obtain ⟨i1, i2, i3, i4, i5⟩ := hi
    simp only at i1 i2 i3 i4 i5
    simp only
    refine go ?_
    refine cnd (fun h => ?_) (fun h => ?_)
    · simp only [decide_eq_true_eq, decide_eq_false_iff_not, Bool.or_eq_true, Bool.and_eq_true, Bool.or_eq_false_iff, Bool.and_eq_false_iff, Bool.not_eq_true', Bool.not_eq_false', bne_iff_ne, beq_iff_eq, ne_eq, bne_eq_false_iff_eq, beq_eq_false_iff_ne, ge_iff_le, gt_iff_lt, Int.not_le, Int.not_lt] at h
      have bi := dB.toB i
      have ci := i5.toB i
      rename_i hlt0
      refine go ?_
      refine cnd (fun h => ?_) (fun h => ?_)
      · simp only [decide_eq_true_eq, decide_eq_false_iff_not, Bool.or_eq_true, Bool.and_eq_true, Bool.or_eq_false_iff, Bool.and_eq_false_iff, Bool.not_eq_true', Bool.not_eq_false', bne_iff_ne, beq_iff_eq, ne_eq, bne_eq_false_iff_eq, beq_eq_false_iff_ne, ge_iff_le, gt_iff_lt, Int.not_le, Int.not_lt] at h
        have ls : (w + B.getD i 0 : Int) = w + B.getD i 0 := by rfl
        refine go ?_
        refine cnd (fun h => ?_) (fun h => ?_)
        · simp only [decide_eq_true_eq, decide_eq_false_iff_not, Bool.or_eq_true, Bool.and_eq_true, Bool.or_eq_false_iff, Bool.and_eq_false_iff, Bool.not_eq_true', Bool.not_eq_false', bne_iff_ne, beq_iff_eq, ne_eq, bne_eq_false_iff_eq, beq_eq_false_iff_ne, ge_iff_le, gt_iff_lt, Int.not_le, Int.not_lt] at h
          rename_i hlt
          have e1 : (C.set i (C.getD i 0 + 1000000000000000000)).getD i 0 = C.getD i 0 + 1000000000000000000 := by rw [gset _ _ _ _ (by omega), if_pos rfl]
          have e2 : (C.set i (C.getD i 0 + 1000000000000000000)).length = A.length := by rw [List.length_set]; exact i2
          have nx : val BB (C.set i (C.getD i 0 + 1000000000000000000 - (w + B.getD i 0))) = a - val BB (B.take (i + 1)) + 1 * ((BB ^ (i + 1) : Nat) : Int) := by
            rw [val_set _ _ _ _ (by omega), val_take_succ', i3, powB, ls, show C.getD i 0 + 1000000000000000000 - (w + B.getD i 0) - C.getD i 0 = 1000000000000000000 - w - B.getD i 0 by omega]
            grind
          refine go ?_
          rw [e1]
          refine R_nilR ⟨[0], _, ?_, (i + 1, C.set i (C.getD i 0 + 1000000000000000000 - (w + B.getD i 0)), 1), ⟨by simp only; omega, by simp only [List.length_set]; exact i2, nx, ⟨by simp only; omega, by simp only; omega⟩, i5.set (by omega) (by show _ < (1000000000000000000 : Int); omega)⟩, by omega, rfl⟩; exact (Less.mk' (by simp (disch := (first | omega | (simp only [go_sem, ↓reduceIte, Nat.reduceEqDiff, Nat.reduceAdd, Nat.reduceMul, Nat.reduceSub, Nat.reduceLT, Nat.reduceLeDiff, Nat.reduceBNe, Nat.reduceBEq, Int.reduceToNat, Int.reduceAdd, Int.reduceSub, Int.reduceMul, Int.reduceLT, Int.reduceLE, Int.reduceNeg, Int.reduceBEq, Int.reduceBNe, Int.reduceEq, beq_self_eq_true, reduceCtorEq, decide_true, decide_false, if_pos, if_neg]; first | done | omega))) only [go_sem, ↓reduceIte, Nat.reduceEqDiff, Nat.reduceAdd, Nat.reduceMul, Nat.reduceSub, Nat.reduceLT, Nat.reduceLeDiff, Nat.reduceBNe, Nat.reduceBEq, Int.reduceToNat, Int.reduceAdd, Int.reduceSub, Int.reduceMul, Int.reduceLT, Int.reduceLE, Int.reduceNeg, Int.reduceBEq, Int.reduceBNe, Int.reduceEq, beq_self_eq_true, reduceCtorEq, decide_true, decide_false, if_pos, if_neg, e1, List.set_set]) (by simp (disch := (first | omega | (simp only [go_sem, ↓reduceIte, Nat.reduceEqDiff, Nat.reduceAdd, Nat.reduceMul, Nat.reduceSub, Nat.reduceLT, Nat.reduceLeDiff, Nat.reduceBNe, Nat.reduceBEq, Int.reduceToNat, Int.reduceAdd, Int.reduceSub, Int.reduceMul, Int.reduceLT, Int.reduceLE, Int.reduceNeg, Int.reduceBEq, Int.reduceBNe, Int.reduceEq, beq_self_eq_true, reduceCtorEq, decide_true, decide_false, if_pos, if_neg]; first | done | omega))) only [go_sem, ↓reduceIte, Nat.reduceEqDiff, Nat.reduceAdd, Nat.reduceMul, Nat.reduceSub, Nat.reduceLT, Nat.reduceLeDiff, Nat.reduceBNe, Nat.reduceBEq, Int.reduceToNat, Int.reduceAdd, Int.reduceSub, Int.reduceMul, Int.reduceLT, Int.reduceLE, Int.reduceNeg, Int.reduceBEq, Int.reduceBNe, Int.reduceEq, beq_self_eq_true, reduceCtorEq, decide_true, decide_false, if_pos, if_neg, e1, List.set_set]) (by decide) (by decide))
        · simp only [decide_eq_true_eq, decide_eq_false_iff_not, Bool.or_eq_true, Bool.and_eq_true, Bool.or_eq_false_iff, Bool.and_eq_false_iff, Bool.not_eq_true', Bool.not_eq_false', bne_iff_ne, beq_iff_eq, ne_eq, bne_eq_false_iff_eq, beq_eq_false_iff_ne, ge_iff_le, gt_iff_lt, Int.not_le, Int.not_lt] at h
          rename_i hlt
          have nx : val BB (C.set i (C.getD i 0 - (w + B.getD i 0))) = a - val BB (B.take (i + 1)) + 0 * ((BB ^ (i + 1) : Nat) : Int) := by
            rw [val_set _ _ _ _ (by omega), val_take_succ', i3, ls, show C.getD i 0 - (w + B.getD i 0) - C.getD i 0 = - w - B.getD i 0 by omega]
            grind
          refine go ?_
          refine R_nilR ⟨[0], _, ?_, (i + 1, C.set i (C.getD i 0 - (w + B.getD i 0)), 0), ⟨by simp only; omega, by simp only [List.length_set]; exact i2, nx, ⟨by simp only; omega, by simp only; omega⟩, i5.set (by omega) (by show _ < (1000000000000000000 : Int); omega)⟩, by omega, rfl⟩; exact lessA
      · simp only [decide_eq_true_eq, decide_eq_false_iff_not, Bool.or_eq_true, Bool.and_eq_true, Bool.or_eq_false_iff, Bool.and_eq_false_iff, Bool.not_eq_true', Bool.not_eq_false', bne_iff_ne, beq_iff_eq, ne_eq, bne_eq_false_iff_eq, beq_eq_false_iff_ne, ge_iff_le, gt_iff_lt, Int.not_le, Int.not_lt] at h
        have b0 : B.getD i 0 = 0 := gout _ _ (by omega)
        have ls : (w : Int) = w + B.getD i 0 := by omega
        refine go ?_
        refine cnd (fun h => ?_) (fun h => ?_)
        · simp only [decide_eq_true_eq, decide_eq_false_iff_not, Bool.or_eq_true, Bool.and_eq_true, Bool.or_eq_false_iff, Bool.and_eq_false_iff, Bool.not_eq_true', Bool.not_eq_false', bne_iff_ne, beq_iff_eq, ne_eq, bne_eq_false_iff_eq, beq_eq_false_iff_ne, ge_iff_le, gt_iff_lt, Int.not_le, Int.not_lt] at h
          rename_i hlt
          have e1 : (C.set i (C.getD i 0 + 1000000000000000000)).getD i 0 = C.getD i 0 + 1000000000000000000 := by rw [gset _ _ _ _ (by omega), if_pos rfl]
          have e2 : (C.set i (C.getD i 0 + 1000000000000000000)).length = A.length := by rw [List.length_set]; exact i2
          have nx : val BB (C.set i (C.getD i 0 + 1000000000000000000 - (w))) = a - val BB (B.take (i + 1)) + 1 * ((BB ^ (i + 1) : Nat) : Int) := by
            rw [val_set _ _ _ _ (by omega), val_take_succ', i3, powB, ls, show C.getD i 0 + 1000000000000000000 - (w + B.getD i 0) - C.getD i 0 = 1000000000000000000 - w - B.getD i 0 by omega]
            grind
          refine go ?_
          rw [e1]
          refine R_nilR ⟨[0], _, ?_, (i + 1, C.set i (C.getD i 0 + 1000000000000000000 - (w)), 1), ⟨by simp only; omega, by simp only [List.length_set]; exact i2, nx, ⟨by simp only; omega, by simp only; omega⟩, i5.set (by omega) (by show _ < (1000000000000000000 : Int); omega)⟩, by omega, rfl⟩; exact (Less.mk' (by simp (disch := (first | omega | (simp only [go_sem, ↓reduceIte, Nat.reduceEqDiff, Nat.reduceAdd, Nat.reduceMul, Nat.reduceSub, Nat.reduceLT, Nat.reduceLeDiff, Nat.reduceBNe, Nat.reduceBEq, Int.reduceToNat, Int.reduceAdd, Int.reduceSub, Int.reduceMul, Int.reduceLT, Int.reduceLE, Int.reduceNeg, Int.reduceBEq, Int.reduceBNe, Int.reduceEq, beq_self_eq_true, reduceCtorEq, decide_true, decide_false, if_pos, if_neg]; first | done | omega))) only [go_sem, ↓reduceIte, Nat.reduceEqDiff, Nat.reduceAdd, Nat.reduceMul, Nat.reduceSub, Nat.reduceLT, Nat.reduceLeDiff, Nat.reduceBNe, Nat.reduceBEq, Int.reduceToNat, Int.reduceAdd, Int.reduceSub, Int.reduceMul, Int.reduceLT, Int.reduceLE, Int.reduceNeg, Int.reduceBEq, Int.reduceBNe, Int.reduceEq, beq_self_eq_true, reduceCtorEq, decide_true, decide_false, if_pos, if_neg, e1, List.set_set]) (by simp (disch := (first | omega | (simp only [go_sem, ↓reduceIte, Nat.reduceEqDiff, Nat.reduceAdd, Nat.reduceMul, Nat.reduceSub, Nat.reduceLT, Nat.reduceLeDiff, Nat.reduceBNe, Nat.reduceBEq, Int.reduceToNat, Int.reduceAdd, Int.reduceSub, Int.reduceMul, Int.reduceLT, Int.reduceLE, Int.reduceNeg, Int.reduceBEq, Int.reduceBNe, Int.reduceEq, beq_self_eq_true, reduceCtorEq, decide_true, decide_false, if_pos, if_neg]; first | done | omega))) only [go_sem, ↓reduceIte, Nat.reduceEqDiff, Nat.reduceAdd, Nat.reduceMul, Nat.reduceSub, Nat.reduceLT, Nat.reduceLeDiff, Nat.reduceBNe, Nat.reduceBEq, Int.reduceToNat, Int.reduceAdd, Int.reduceSub, Int.reduceMul, Int.reduceLT, Int.reduceLE, Int.reduceNeg, Int.reduceBEq, Int.reduceBNe, Int.reduceEq, beq_self_eq_true, reduceCtorEq, decide_true, decide_false, if_pos, if_neg, e1, List.set_set]) (by decide) (by decide))
        · simp only [decide_eq_true_eq, decide_eq_false_iff_not, Bool.or_eq_true, Bool.and_eq_true, Bool.or_eq_false_iff, Bool.and_eq_false_iff, Bool.not_eq_true', Bool.not_eq_false', bne_iff_ne, beq_iff_eq, ne_eq, bne_eq_false_iff_eq, beq_eq_false_iff_ne, ge_iff_le, gt_iff_lt, Int.not_le, Int.not_lt] at h
          rename_i hlt
          have nx : val BB (C.set i (C.getD i 0 - (w))) = a - val BB (B.take (i + 1)) + 0 * ((BB ^ (i + 1) : Nat) : Int) := by
            rw [val_set _ _ _ _ (by omega), val_take_succ', i3, ls, show C.getD i 0 - (w + B.getD i 0) - C.getD i 0 = - w - B.getD i 0 by omega]
            grind
          refine go ?_
          refine R_nilR ⟨[0], _, ?_, (i + 1, C.set i (C.getD i 0 - (w)), 0), ⟨by simp only; omega, by simp only [List.length_set]; exact i2, nx, ⟨by simp only; omega, by simp only; omega⟩, i5.set (by omega) (by show _ < (1000000000000000000 : Int); omega)⟩, by omega, rfl⟩; exact lessA
    · simp only [decide_eq_true_eq, decide_eq_false_iff_not, Bool.or_eq_true, Bool.and_eq_true, Bool.or_eq_false_iff, Bool.and_eq_false_iff, Bool.not_eq_true', Bool.not_eq_false', bne_iff_ne, beq_iff_eq, ne_eq, bne_eq_false_iff_eq, beq_eq_false_iff_ne, ge_iff_le, gt_iff_lt, Int.not_le, Int.not_lt] at h
      obtain rfl : i = A.length := by omega
      rw [List.take_of_length_le lab, vB] at i3
      have hlt := i5.val_lt (by decide)
      rw [i2] at hlt
      have hw : w = 0 := by
        rcases (show w = 0 ∨ w = 1 by omega) with hw | hw
        · exact hw
        · rw [hw] at i3; omega
      subst hw
      have e : cutI C = dig BB (a - b) := cut_of i5 (by rw [i3]; omega)
      refine go ?_
      refine callz (cTrim' i2) ?_
      rw [e]
      refine go ?_
      refine R_ret (finA [])
end Go.Proofs.YtglnkfpmogaifaaGreatDoor.V

/-
  A division of two words by one, in halves: plain.
-/
set_option linter.unusedSimpArgs false
set_option linter.unusedVariables false
namespace Go.Proofs.YtglnkfpmogaifaaGreatDoor.V

/-- The divisor's halves; the upper one has its highest bit. -/
structure Hv (y1 y0 : Int) : Prop where
  a : 2147483648 ≤ y1
  b : y1 < 4294967296
  c : 0 ≤ y0
  d : y0 < 4294967296
abbrev hy (y1 y0 : Int) : Int := y1 * 4294967296 + y0
/-- The digit that is sought. -/
abbrev hq (y1 y0 u t : Int) : Int := (u * 4294967296 + t) / hy y1 y0
section
variable {y1 y0 u t q r : Int}
theorem Hv.pos (h : Hv y1 y0) : 0 < hy y1 y0 := by have := h.a; have := h.c; unfold hy; omega
theorem hq_lt (h : Hv y1 y0) (hu : u < hy y1 y0) (ht : t < 4294967296) : hq y1 y0 u t < 4294967296 := by
  refine Int.ediv_lt_of_lt_mul h.pos ?_
  have := Int.mul_le_mul_of_nonneg_right (show u + 1 ≤ hy y1 y0 by omega) (show (0 : Int) ≤ 4294967296 by omega)
  rw [Int.mul_comm 4294967296]
  omega
theorem hq_nonneg (h : Hv y1 y0) (hu : 0 ≤ u) (ht : 0 ≤ t) : 0 ≤ hq y1 y0 u t := Int.ediv_nonneg (by omega) (Int.le_of_lt h.pos)
theorem half_init (h : Hv y1 y0) (hu0 : 0 ≤ u) (hu : u < hy y1 y0) (ht0 : 0 ≤ t) (ht : t < 4294967296) :
    0 ≤ u % y1 ∧ u % y1 < 4294967296 ∧ u / y1 * y1 + u % y1 = u ∧ hq y1 y0 u t ≤ u / y1 ∧ 0 ≤ u / y1 ∧ u / y1 ≤ 4294967297 := by
  have ha := h.a
  have hb := h.b
  have hc := h.c
  have hd := h.d
  have e := Int.emod_add_mul_ediv u y1
  have e0 := Int.emod_nonneg u (show y1 ≠ 0 by omega)
  have e1 := Int.emod_lt_of_pos u (show 0 < y1 by omega)
  have ec : u / y1 * y1 = y1 * (u / y1) := Int.mul_comm _ _
  refine ⟨e0, by omega, by omega, ?_, Int.ediv_nonneg hu0 (by omega), ?_⟩
  · refine (Int.le_ediv_iff_mul_le (by omega)).2 ?_
    have k := Int.ediv_mul_le (u * 4294967296 + t) (show hy y1 y0 ≠ 0 by have := h.pos; omega)
    have k0 := hq_nonneg h hu0 ht0
    have k1 : hq y1 y0 u t * y1 * 4294967296 + hq y1 y0 u t * y0 = hq y1 y0 u t * hy y1 y0 := by unfold hy; grind
    have k2 : 0 ≤ hq y1 y0 u t * y0 := Int.mul_nonneg k0 hc
    have k3 : hq y1 y0 u t * hy y1 y0 ≤ u * 4294967296 + t := k
    omega
  · refine Int.le_of_lt_add_one (Int.ediv_lt_of_lt_mul (by omega) ?_)
    have : hy y1 y0 ≤ (4294967297 + 1) * y1 := by unfold hy; omega
    omega
theorem half_down (h : Hv y1 y0) (hu0 : 0 ≤ u) (hu : u < hy y1 y0) (ht0 : 0 ≤ t) (ht : t < 4294967296) (e : q * y1 + r = u) (hq1 : hq y1 y0 u t ≤ q) (hc : 4294967296 ≤ q ∨ 4294967296 * r + t < q * y0) :
    (q - 1) * y1 + (r + y1) = u ∧ hq y1 y0 u t ≤ q - 1 := by
  refine ⟨by grind, ?_⟩
  rcases hc with hc | hc
  · have := hq_lt h hu ht
    omega
  · have : hq y1 y0 u t < q := by
      refine Int.ediv_lt_of_lt_mul h.pos ?_
      have k : q * hy y1 y0 = (q * y1) * 4294967296 + q * y0 := by unfold hy; grind
      omega
    omega
theorem half_stop (h : Hv y1 y0) (ht0 : 0 ≤ t) (hr : 0 ≤ r) (hq0 : 0 ≤ q) (hq2 : q ≤ 4294967296) (e : q * y1 + r = u) (hq1 : hq y1 y0 u t ≤ q) (hc : q * y0 ≤ 4294967296 * r + t ∨ 4294967296 ≤ r) : q = hq y1 y0 u t := by
  have hd := h.d
  have hc0 := h.c
  refine Int.le_antisymm ?_ hq1
  refine (Int.le_ediv_iff_mul_le h.pos).2 ?_
  have k : q * hy y1 y0 = (q * y1) * 4294967296 + q * y0 := by unfold hy; grind
  rcases hc with hc | hc
  · omega
  · have : q * y0 ≤ 4294967296 * 4294967295 := Int.mul_le_mul hq2 (by omega) hc0 (by omega)
    omega
theorem half_rest (h : Hv y1 y0) : u * 4294967296 + t - hq y1 y0 u t * hy y1 y0 = (u * 4294967296 + t) % hy y1 y0 := by
  have := Int.emod_add_mul_ediv (u * 4294967296 + t) (hy y1 y0)
  have e : hq y1 y0 u t * hy y1 y0 = hy y1 y0 * ((u * 4294967296 + t) / hy y1 y0) := Int.mul_comm _ _
  omega
theorem half_rest_bd (h : Hv y1 y0) : 0 ≤ (u * 4294967296 + t) % hy y1 y0 ∧ (u * 4294967296 + t) % hy y1 y0 < hy y1 y0 := ⟨Int.emod_nonneg _ (by have := h.pos; omega), Int.emod_lt_of_pos _ h.pos⟩
end
/-- Two halves make the quotient. -/
theorem halves {y1 y0 u t1 t0 : Int} (h : Hv y1 y0) (hu0 : 0 ≤ u) (hu : u < hy y1 y0) (h1 : 0 ≤ t1) (h1' : t1 < 4294967296) (h0 : 0 ≤ t0) (h0' : t0 < 4294967296) :
    hq y1 y0 u t1 * 4294967296 + hq y1 y0 ((u * 4294967296 + t1) % hy y1 y0) t0 = (u * 18446744073709551616 + (t1 * 4294967296 + t0)) / hy y1 y0 ∧
    ((u * 4294967296 + t1) % hy y1 y0 * 4294967296 + t0) % hy y1 y0 = (u * 18446744073709551616 + (t1 * 4294967296 + t0)) % hy y1 y0 := by
  have e1 := half_rest (u := u) (t := t1) h
  have e2 := half_rest (u := (u * 4294967296 + t1) % hy y1 y0) (t := t0) h
  have b2 := half_rest_bd (u := (u * 4294967296 + t1) % hy y1 y0) (t := t0) h
  have e : u * 18446744073709551616 + (t1 * 4294967296 + t0) = ((u * 4294967296 + t1) % hy y1 y0 * 4294967296 + t0) % hy y1 y0 + hy y1 y0 * (hq y1 y0 u t1 * 4294967296 + hq y1 y0 ((u * 4294967296 + t1) % hy y1 y0) t0) := by
    grind
  have k := (Int.ediv_emod_unique h.pos).2 ⟨e.symm, b2.1, b2.2⟩
  exact ⟨k.1.symm, k.2.symm⟩
/-- A shift of both sides. -/
theorem shifted {x y p : Int} (hy : 0 < y) (hp : 0 < p) : x * p / (y * p) = x / y ∧ x * p % (y * p) / p = x % y := by
  refine ⟨Int.mul_ediv_mul_of_pos_left _ _ hp, ?_⟩
  rw [Int.mul_comm x, Int.mul_comm y, Int.mul_emod_mul_of_pos _ _ hp, Int.mul_comm, Int.mul_ediv_cancel _ (by omega)]
end Go.Proofs.YtglnkfpmogaifaaGreatDoor.V

/-
  The contracts of Go's library that this seat's walks use, laid at its numbers (by the kit's own tool).
-/
namespace Go.Proofs
open Go.Shelf
def Tryz.lays169_ren : Go.Shelf.Ren := ⟨fun | 169 => 82 | n => n, fun | 70 => 105 | 9 => 9 | 0 => 0 | 72 => 108 | 37 => 106 | 127 => 132 | 3 => 3 | 5 => 5 | n => n, fun | n => n⟩
theorem Tryz.lays169 : Go.Proofs.Lays.n169 Tryz.prog Tryz.lays169_ren := {
  mixed := by kernel_rfl
  f169 := Tryz.func82.trans (congrArg some (by kernel_rfl))
  t0 := Tryz.underlying0
  a0 := Tryz.isAgg0
  z0 := Tryz.sizeOf0
  v0 := Tryz.zeroValue0
  t3 := Tryz.underlying3
  a3 := Tryz.isAgg3
  z3 := Tryz.sizeOf3
  v3 := Tryz.zeroValue3
  t9 := Tryz.underlying9
  a9 := Tryz.isAgg9
  z9 := Tryz.sizeOf9
  v9 := Tryz.zeroValue9
  t37 := Tryz.underlying106
  a37 := Tryz.isAgg106
  z37 := Tryz.sizeOf106
  v37 := Tryz.zeroValue106
  t70 := Tryz.underlying105
  a70 := Tryz.isAgg105
  z70 := Tryz.sizeOf105
  v70 := Tryz.zeroValue105
  t72 := Tryz.underlying108
  a72 := Tryz.isAgg108
  z72 := Tryz.sizeOf108
  v72 := Tryz.zeroValue108
  t127 := Tryz.underlying132
  a127 := Tryz.isAgg132
  z127 := Tryz.sizeOf132
  v127 := Tryz.zeroValue132 }
theorem Tryz.Builder_Extra_169 : Builder.Extra Tryz.prog Tryz.lays169_ren := {
  sizeBuilder := by kernel_rfl
  liesBuilder := by kernel_rfl
  t5 := Tryz.underlying5
  a5 := Tryz.isAgg5
  z5 := Tryz.sizeOf5
  v5 := Tryz.zeroValue5
  infoByte := by kernel_rfl
  cellsByte := by kernel_rfl
  sizeByte := by kernel_rfl
  neB5 := by decide }
open Go.RowKit in
theorem Tryz.Builder_String_any (B b : Nat) (l : List UInt8) (w : World) (h : Lib.IsBuilder 108 5 B b (Lib.byteCells l) w) (hBw : B ≤ w.heap.size) :
    Calls Tryz.prog 82 #[.pointer (some ⟨b, 0, none⟩)] w fun e w' => e = .returned (.string ⟨l.toArray⟩) ∧ Below B w w' := Any.Builder_String_any Tryz.lays169 Tryz.Builder_Extra_169 B b l w h hBw
def Tryz.lays125_ren : Go.Shelf.Ren := ⟨fun | 125 => 93 | 128 => 110 | 129 => 111 | n => n, fun | 46 => 122 | 3 => 3 | 51 => 135 | 53 => 98 | 4 => 4 | 5 => 5 | 9 => 9 | n => n, fun | n => n⟩
theorem Tryz.lays125 : Go.Proofs.Lays.n125 Tryz.prog Tryz.lays125_ren := {
  mixed := by kernel_rfl
  f125 := Tryz.func93.trans (congrArg some (by kernel_rfl))
  f128 := Tryz.func110.trans (congrArg some (by kernel_rfl))
  f129 := Tryz.func111.trans (congrArg some (by kernel_rfl))
  t3 := Tryz.underlying3
  a3 := Tryz.isAgg3
  z3 := Tryz.sizeOf3
  v3 := Tryz.zeroValue3
  t4 := Tryz.underlying4
  a4 := Tryz.isAgg4
  z4 := Tryz.sizeOf4
  v4 := Tryz.zeroValue4
  t5 := Tryz.underlying5
  a5 := Tryz.isAgg5
  z5 := Tryz.sizeOf5
  v5 := Tryz.zeroValue5
  t9 := Tryz.underlying9
  a9 := Tryz.isAgg9
  z9 := Tryz.sizeOf9
  v9 := Tryz.zeroValue9
  t46 := Tryz.underlying122
  a46 := Tryz.isAgg122
  z46 := Tryz.sizeOf122
  v46 := Tryz.zeroValue122
  t51 := Tryz.underlying135
  a51 := Tryz.isAgg135
  z51 := Tryz.sizeOf135
  v51 := Tryz.zeroValue135
  t53 := Tryz.underlying98
  a53 := Tryz.isAgg98
  z53 := Tryz.sizeOf98
  v53 := Tryz.zeroValue98 }
theorem Tryz.bits_Len (x : Int) (w : World) (h0 : 0 ≤ x) (h1 : x ≤ 18446744073709551615) :
    Calls Tryz.prog 93 #[.int .u64 x] w fun e w' => e = .returned (.int .i64 (Lib.bitLen x.toNat)) ∧ w' = w := Any.bits_Len Tryz.lays125 x w h0 h1
def Tryz.lays134_ren : Go.Shelf.Ren := ⟨fun | 134 => 120 | 129 => 111 | n => n, fun | 53 => 98 | 3 => 3 | 4 => 4 | 46 => 122 | 5 => 5 | 9 => 9 | n => n, fun | n => n⟩
theorem Tryz.lays134 : Go.Proofs.Lays.n134 Tryz.prog Tryz.lays134_ren := {
  mixed := by kernel_rfl
  f129 := Tryz.func111.trans (congrArg some (by kernel_rfl))
  f134 := Tryz.func120.trans (congrArg some (by kernel_rfl))
  t3 := Tryz.underlying3
  a3 := Tryz.isAgg3
  z3 := Tryz.sizeOf3
  v3 := Tryz.zeroValue3
  t4 := Tryz.underlying4
  a4 := Tryz.isAgg4
  z4 := Tryz.sizeOf4
  v4 := Tryz.zeroValue4
  t5 := Tryz.underlying5
  a5 := Tryz.isAgg5
  z5 := Tryz.sizeOf5
  v5 := Tryz.zeroValue5
  t9 := Tryz.underlying9
  a9 := Tryz.isAgg9
  z9 := Tryz.sizeOf9
  v9 := Tryz.zeroValue9
  t46 := Tryz.underlying122
  a46 := Tryz.isAgg122
  z46 := Tryz.sizeOf122
  v46 := Tryz.zeroValue122
  t53 := Tryz.underlying98
  a53 := Tryz.isAgg98
  z53 := Tryz.sizeOf98
  v53 := Tryz.zeroValue98 }
theorem Tryz.bits_LeadingZeros64 (x : Int) (w : World) (h0 : 0 ≤ x) (h1 : x ≤ 18446744073709551615) :
    Calls Tryz.prog 120 #[.int .u64 x] w fun e w' => e = .returned (.int .i64 (64 - (Lib.bitLen x.toNat : Int))) ∧ w' = w := Any.bits_LeadingZeros64 Tryz.lays134 x w h0 h1
def Tryz.lays283_ren : Go.Shelf.Ren := ⟨fun | 283 => 121 | n => n, fun | 3 => 3 | 9 => 9 | 4 => 4 | n => n, fun | n => n⟩
theorem Tryz.lays283 : Go.Proofs.Lays.n283 Tryz.prog Tryz.lays283_ren := {
  mixed := by kernel_rfl
  f283 := Tryz.func121.trans (congrArg some (by kernel_rfl))
  t3 := Tryz.underlying3
  a3 := Tryz.isAgg3
  z3 := Tryz.sizeOf3
  v3 := Tryz.zeroValue3
  t4 := Tryz.underlying4
  a4 := Tryz.isAgg4
  z4 := Tryz.sizeOf4
  v4 := Tryz.zeroValue4
  t9 := Tryz.underlying9
  a9 := Tryz.isAgg9
  z9 := Tryz.sizeOf9
  v9 := Tryz.zeroValue9 }
open Go.Lib in
theorem Tryz.internal_strconv_small (i : Nat) (h : i < 100) (w : World) :
    Calls Tryz.prog 121 #[.int .i64 i] w fun e w' => e = .returned (.string ⟨(Lib.decDigits i).toArray⟩) ∧ w' = w := Any.internal_strconv_small Tryz.lays283 i h w
def Tryz.laysM284_ren : Go.Shelf.Ren := ⟨fun | 284 => 122 | 129 => 111 | 317 => 131 | 318 => 132 | n => n, fun | 53 => 98 | 3 => 3 | 212 => 160 | 0 => 0 | 4 => 4 | 46 => 122 | 5 => 5 | 9 => 9 | n => n, fun | 17 => 4 | n => n⟩
theorem Tryz.laysM284 : Go.Proofs.LaysM.n284 Tryz.prog Tryz.laysM284_ren := {
  mixed := by kernel_rfl
  f129 := Tryz.func111.trans (congrArg some (by kernel_rfl))
  f284 := Tryz.func122.trans (congrArg some (by kernel_rfl))
  f317 := Tryz.func131.trans (congrArg some (by kernel_rfl))
  f318 := Tryz.func132.trans (congrArg some (by kernel_rfl))
  t0 := Tryz.underlying0
  a0 := Tryz.isAgg0
  z0 := Tryz.sizeOf0
  v0 := Tryz.zeroValue0
  t3 := Tryz.underlying3
  a3 := Tryz.isAgg3
  z3 := Tryz.sizeOf3
  v3 := Tryz.zeroValue3
  t4 := Tryz.underlying4
  a4 := Tryz.isAgg4
  z4 := Tryz.sizeOf4
  v4 := Tryz.zeroValue4
  t5 := Tryz.underlying5
  a5 := Tryz.isAgg5
  z5 := Tryz.sizeOf5
  v5 := Tryz.zeroValue5
  t9 := Tryz.underlying9
  a9 := Tryz.isAgg9
  z9 := Tryz.sizeOf9
  v9 := Tryz.zeroValue9
  t46 := Tryz.underlying122
  a46 := Tryz.isAgg122
  z46 := Tryz.sizeOf122
  v46 := Tryz.zeroValue122
  t53 := Tryz.underlying98
  a53 := Tryz.isAgg98
  z53 := Tryz.sizeOf98
  v53 := Tryz.zeroValue98
  t212 := Tryz.underlying160
  a212 := Tryz.isAgg160
  z212 := Tryz.sizeOf160
  v212 := Tryz.zeroValue160
  g17 := by kernel_rfl
  i0 := by kernel_rfl
  i3 := by kernel_rfl
  i4 := by kernel_rfl
  i5 := by kernel_rfl
  i9 := by kernel_rfl
  i46 := by kernel_rfl
  i53 := by kernel_rfl
  i212 := by kernel_rfl
  m17 := by kernel_rfl }
open Go.Lib in
theorem Tryz.internal_strconv_numDigits (u : Nat) (h1 : 1 ≤ u) (h2 : u < 18446744073709551616) (w : World) (htab : Lib.TabIs Tryz.prog w "internal/strconv.uint64pow10" .u64 Lib.pow10Tab) :
    Calls Tryz.prog 122 #[.int .u64 u] w fun e w' => e = .returned (.int .i64 (Lib.nDigits u)) ∧ w' = w := Any.internal_strconv_numDigits Tryz.laysM284 u h1 h2 w htab
def Tryz.lays285_ren : Go.Shelf.Ren := ⟨fun | 285 => 123 | n => n, fun | 37 => 106 | 53 => 98 | 3 => 3 | 4 => 4 | 51 => 135 | 9 => 9 | 5 => 5 | 0 => 0 | n => n, fun | n => n⟩
theorem Tryz.lays285 : Go.Proofs.Lays.n285 Tryz.prog Tryz.lays285_ren := {
  mixed := by kernel_rfl
  f285 := Tryz.func123.trans (congrArg some (by kernel_rfl))
  t0 := Tryz.underlying0
  a0 := Tryz.isAgg0
  z0 := Tryz.sizeOf0
  v0 := Tryz.zeroValue0
  t3 := Tryz.underlying3
  a3 := Tryz.isAgg3
  z3 := Tryz.sizeOf3
  v3 := Tryz.zeroValue3
  t4 := Tryz.underlying4
  a4 := Tryz.isAgg4
  z4 := Tryz.sizeOf4
  v4 := Tryz.zeroValue4
  t5 := Tryz.underlying5
  a5 := Tryz.isAgg5
  z5 := Tryz.sizeOf5
  v5 := Tryz.zeroValue5
  t9 := Tryz.underlying9
  a9 := Tryz.isAgg9
  z9 := Tryz.sizeOf9
  v9 := Tryz.zeroValue9
  t37 := Tryz.underlying106
  a37 := Tryz.isAgg106
  z37 := Tryz.sizeOf106
  v37 := Tryz.zeroValue106
  t51 := Tryz.underlying135
  a51 := Tryz.isAgg135
  z51 := Tryz.sizeOf135
  v51 := Tryz.zeroValue135
  t53 := Tryz.underlying98
  a53 := Tryz.isAgg98
  z53 := Tryz.sizeOf98
  v53 := Tryz.zeroValue98 }
open Go.RowKit Go.Sort Go.Lib in
theorem Tryz.internal_strconv_formatBase10 (blk off cap : Nat) (u : Nat) (d : Array UInt8) (w : World) (hH : Holds (fun (b : UInt8) => Value.int .u8 (b.toNat : Int)) w blk off d) (hu : u < 10 ^ d.size) (hu64 : u < 18446744073709551616) (hsz : d.size < 4611686018427387904) :
    Calls Tryz.prog 123 #[.slice (some ⟨blk, off, none⟩) d.size cap, .int .u64 u] w fun e w' =>
      e = .returned (.tuple #[]) ∧ ∃ (n v' : Nat) (dk : Array UInt8), w' = (putRow (fun (b : UInt8) => Value.int .u8 (b.toNat : Int)) w blk off dk).drewN n ∧ FmtInv d.size u 0 v' dk := Any.internal_strconv_formatBase10 Tryz.lays285 blk off cap u d w hH hu hu64 hsz
def Tryz.laysC172_ren : Go.Shelf.Ren := ⟨fun | 172 => 56 | 244 => 94 | 245 => 95 | 247 => 112 | 279 => 113 | 280 => 114 | 281 => 115 | 282 => 116 | 287 => 97 | 316 => 128 | 171 => 130 | 205 => 129 | 321 => 118 | 322 => 119 | 243 => 136 | 246 => 139 | 283 => 121 | 284 => 122 | 285 => 123 | 286 => 124 | 129 => 111 | 317 => 131 | 318 => 132 | 319 => 133 | 320 => 134 | 337 => 137 | 338 => 138 | n => n, fun | 9 => 9 | 3 => 3 | 75 => 89 | 76 => 90 | 4 => 4 | 5 => 5 | 167 => 137 | 37 => 106 | 0 => 0 | 85 => 138 | 2 => 2 | 168 => 140 | 53 => 98 | 175 => 99 | 46 => 122 | 210 => 156 | 127 => 132 | 145 => 166 | 143 => 164 | 21 => 21 | 171 => 146 | 173 => 148 | 212 => 160 | 51 => 135 | 20 => 20 | 213 => 161 | 232 => 168 | 233 => 169 | 80 => 113 | n => n, fun | 15 => 2 | 16 => 3 | 17 => 4 | 18 => 6 | 19 => 7 | n => n⟩
theorem Tryz.laysC172 : Go.Proofs.LaysC.n172 Tryz.prog Tryz.laysC172_ren := {
  mixed := by kernel_rfl
  f129 := Tryz.func111.trans (congrArg some (by kernel_rfl))
  f171 := Tryz.func130.trans (congrArg some (by kernel_rfl))
  f172 := Tryz.func56.trans (congrArg some (by kernel_rfl))
  f205 := Tryz.func129.trans (congrArg some (by kernel_rfl))
  f243 := Tryz.func136.trans (congrArg some (by kernel_rfl))
  f244 := Tryz.func94.trans (congrArg some (by kernel_rfl))
  f245 := Tryz.func95.trans (congrArg some (by kernel_rfl))
  f246 := Tryz.func139.trans (congrArg some (by kernel_rfl))
  f247 := Tryz.func112.trans (congrArg some (by kernel_rfl))
  f279 := Tryz.func113.trans (congrArg some (by kernel_rfl))
  f280 := Tryz.func114.trans (congrArg some (by kernel_rfl))
  f281 := Tryz.func115.trans (congrArg some (by kernel_rfl))
  f282 := Tryz.func116.trans (congrArg some (by kernel_rfl))
  f283 := Tryz.func121.trans (congrArg some (by kernel_rfl))
  f284 := Tryz.func122.trans (congrArg some (by kernel_rfl))
  f285 := Tryz.func123.trans (congrArg some (by kernel_rfl))
  f286 := Tryz.func124.trans (congrArg some (by kernel_rfl))
  f287 := Tryz.func97.trans (congrArg some (by kernel_rfl))
  f316 := Tryz.func128.trans (congrArg some (by kernel_rfl))
  f317 := Tryz.func131.trans (congrArg some (by kernel_rfl))
  f318 := Tryz.func132.trans (congrArg some (by kernel_rfl))
  f319 := Tryz.func133.trans (congrArg some (by kernel_rfl))
  f320 := Tryz.func134.trans (congrArg some (by kernel_rfl))
  f321 := Tryz.func118.trans (congrArg some (by kernel_rfl))
  f322 := Tryz.func119.trans (congrArg some (by kernel_rfl))
  f337 := Tryz.func137.trans (congrArg some (by kernel_rfl))
  f338 := Tryz.func138.trans (congrArg some (by kernel_rfl))
  t0 := Tryz.underlying0
  a0 := Tryz.isAgg0
  z0 := Tryz.sizeOf0
  v0 := Tryz.zeroValue0
  t2 := Tryz.underlying2
  a2 := Tryz.isAgg2
  z2 := Tryz.sizeOf2
  v2 := Tryz.zeroValue2
  t3 := Tryz.underlying3
  a3 := Tryz.isAgg3
  z3 := Tryz.sizeOf3
  v3 := Tryz.zeroValue3
  t4 := Tryz.underlying4
  a4 := Tryz.isAgg4
  z4 := Tryz.sizeOf4
  v4 := Tryz.zeroValue4
  t5 := Tryz.underlying5
  a5 := Tryz.isAgg5
  z5 := Tryz.sizeOf5
  v5 := Tryz.zeroValue5
  t9 := Tryz.underlying9
  a9 := Tryz.isAgg9
  z9 := Tryz.sizeOf9
  v9 := Tryz.zeroValue9
  t20 := Tryz.underlying20
  a20 := Tryz.isAgg20
  z20 := Tryz.sizeOf20
  v20 := Tryz.zeroValue20
  t21 := Tryz.underlying21
  a21 := Tryz.isAgg21
  z21 := Tryz.sizeOf21
  v21 := Tryz.zeroValue21
  t37 := Tryz.underlying106
  a37 := Tryz.isAgg106
  z37 := Tryz.sizeOf106
  v37 := Tryz.zeroValue106
  t46 := Tryz.underlying122
  a46 := Tryz.isAgg122
  z46 := Tryz.sizeOf122
  v46 := Tryz.zeroValue122
  t51 := Tryz.underlying135
  a51 := Tryz.isAgg135
  z51 := Tryz.sizeOf135
  v51 := Tryz.zeroValue135
  t53 := Tryz.underlying98
  a53 := Tryz.isAgg98
  z53 := Tryz.sizeOf98
  v53 := Tryz.zeroValue98
  t75 := Tryz.underlying89
  a75 := Tryz.isAgg89
  z75 := Tryz.sizeOf89
  v75 := Tryz.zeroValue89
  t76 := Tryz.underlying90
  a76 := Tryz.isAgg90
  z76 := Tryz.sizeOf90
  v76 := Tryz.zeroValue90
  t85 := Tryz.underlying138
  a85 := Tryz.isAgg138
  z85 := Tryz.sizeOf138
  v85 := Tryz.zeroValue138
  t127 := Tryz.underlying132
  a127 := Tryz.isAgg132
  z127 := Tryz.sizeOf132
  v127 := Tryz.zeroValue132
  t143 := Tryz.underlying164
  a143 := Tryz.isAgg164
  z143 := Tryz.sizeOf164
  v143 := Tryz.zeroValue164
  t145 := Tryz.underlying166
  a145 := Tryz.isAgg166
  z145 := Tryz.sizeOf166
  v145 := Tryz.zeroValue166
  t167 := Tryz.underlying137
  a167 := Tryz.isAgg137
  z167 := Tryz.sizeOf137
  v167 := Tryz.zeroValue137
  t168 := Tryz.underlying140
  a168 := Tryz.isAgg140
  z168 := Tryz.sizeOf140
  v168 := Tryz.zeroValue140
  t171 := Tryz.underlying146
  a171 := Tryz.isAgg146
  z171 := Tryz.sizeOf146
  v171 := Tryz.zeroValue146
  t173 := Tryz.underlying148
  a173 := Tryz.isAgg148
  z173 := Tryz.sizeOf148
  v173 := Tryz.zeroValue148
  t175 := Tryz.underlying99
  a175 := Tryz.isAgg99
  z175 := Tryz.sizeOf99
  v175 := Tryz.zeroValue99
  t210 := Tryz.underlying156
  a210 := Tryz.isAgg156
  z210 := Tryz.sizeOf156
  v210 := Tryz.zeroValue156
  t212 := Tryz.underlying160
  a212 := Tryz.isAgg160
  z212 := Tryz.sizeOf160
  v212 := Tryz.zeroValue160
  t213 := Tryz.underlying161
  a213 := Tryz.isAgg161
  z213 := Tryz.sizeOf161
  t232 := Tryz.underlying168
  a232 := Tryz.isAgg168
  z232 := Tryz.sizeOf168
  v232 := Tryz.zeroValue168
  t233 := Tryz.underlying169
  a233 := Tryz.isAgg169
  z233 := Tryz.sizeOf169
  v233 := Tryz.zeroValue169
  g15 := by kernel_rfl
  g16 := by kernel_rfl
  g17 := by kernel_rfl
  g18 := by kernel_rfl
  g19 := by kernel_rfl
  t80 := Tryz.underlying113
  a80 := Tryz.isAgg113
  z80 := Tryz.sizeOf113
  v80 := Tryz.zeroValue113
  i0 := by kernel_rfl
  i2 := by kernel_rfl
  i3 := by kernel_rfl
  i4 := by kernel_rfl
  i5 := by kernel_rfl
  i9 := by kernel_rfl
  i20 := by kernel_rfl
  i21 := by kernel_rfl
  i37 := by kernel_rfl
  i46 := by kernel_rfl
  i51 := by kernel_rfl
  i53 := by kernel_rfl
  i75 := by kernel_rfl
  i76 := by kernel_rfl
  i80 := by kernel_rfl
  i85 := by kernel_rfl
  i127 := by kernel_rfl
  i143 := by kernel_rfl
  i145 := by kernel_rfl
  i167 := by kernel_rfl
  i168 := by kernel_rfl
  i171 := by kernel_rfl
  i173 := by kernel_rfl
  i175 := by kernel_rfl
  i210 := by kernel_rfl
  i212 := by kernel_rfl
  i232 := by kernel_rfl
  i233 := by kernel_rfl
  m15 := by kernel_rfl
  m16 := by kernel_rfl
  m17 := by kernel_rfl
  m18 := by kernel_rfl
  m19 := by kernel_rfl
  c0 := by kernel_rfl
  c2 := by kernel_rfl
  c3 := by kernel_rfl
  c4 := by kernel_rfl
  c5 := by kernel_rfl
  c9 := by kernel_rfl
  c20 := by kernel_rfl
  c21 := by kernel_rfl
  c37 := by kernel_rfl
  c46 := by kernel_rfl
  c51 := by kernel_rfl
  c53 := by kernel_rfl
  c75 := by kernel_rfl
  c76 := by kernel_rfl
  c80 := by kernel_rfl
  c85 := by kernel_rfl
  c127 := by kernel_rfl
  c143 := by kernel_rfl
  c145 := by kernel_rfl
  c167 := by kernel_rfl
  c168 := by kernel_rfl
  c171 := by kernel_rfl
  c173 := by kernel_rfl
  c175 := by kernel_rfl
  c210 := by kernel_rfl
  c212 := by kernel_rfl
  c213 := by kernel_rfl
  c232 := by kernel_rfl
  c233 := by kernel_rfl }
open Go.RowKit in
theorem Tryz.strconv_Atoi_ok (s : ByteArray) (hmax : s.size ≤ 9223372036854775806) (v : Int) (h : Lib.atoiAll s.data.toList = .ok v) (w : World) :
    Calls Tryz.prog 56 #[.string s] w fun e w' => e = .returned (.tuple #[.int .i64 v, .nilIface]) ∧ (w' = w ∨ ∃ t, w' = Lib.bytesWorld w 5 t) := Any.strconv_Atoi_ok Tryz.laysC172 s hmax v h w
open Go.RowKit in
theorem Tryz.strconv_Atoi_range_var (s : ByteArray) (hlim : s.size ≤ 281474976710656) (h : Lib.atoiAll s.data.toList = .range) (tp : TypeId) (p : Value) (w : World) (hvar : w.var? Tryz.prog "strconv.ErrRange" = some #[.iface tp p]) :
    Calls Tryz.prog 56 #[.string s] w fun e w' => ∃ N, e = .returned (.tuple #[.int .i64 (Lib.atoiSat s.data.toList), .iface 140 (.pointer (some ⟨N, 0, none⟩))]) ∧ w.heap.size ≤ N ∧ w'.heap[N]? = some (.cells #[.string ⟨#[65, 116, 111, 105]⟩, .string s, .iface tp p] 156 (0, 0)) ∧ Below w.heap.size w w' := Any.strconv_Atoi_range_var Tryz.laysC172 s hlim h tp p w hvar
def Tryz.laysPu14_ren : Go.Shelf.Ren := ⟨fun | 14 => 70 | 16 => 97 | 17 => 95 | 19 => 118 | 20 => 119 | 21 => 113 | 22 => 114 | 23 => 115 | 24 => 116 | 25 => 128 | 27 => 130 | 26 => 129 | 28 => 136 | 29 => 139 | 30 => 121 | 31 => 122 | 32 => 123 | 33 => 124 | 35 => 111 | 34 => 131 | 36 => 132 | 37 => 133 | 38 => 134 | 39 => 137 | 40 => 138 | n => n, fun | 9 => 9 | 3 => 3 | 22 => 98 | 24 => 89 | 25 => 99 | 4 => 4 | 34 => 137 | 5 => 5 | 36 => 122 | 37 => 106 | 0 => 0 | 39 => 140 | 21 => 21 | 44 => 156 | 47 => 132 | 50 => 166 | 48 => 164 | 2 => 2 | 52 => 146 | 55 => 148 | 59 => 160 | 60 => 135 | 20 => 20 | 61 => 161 | 65 => 168 | 66 => 169 | 67 => 113 | n => n, fun | 0 => 2 | 1 => 3 | 2 => 4 | 3 => 6 | 4 => 7 | n => n⟩
theorem Tryz.laysPu14 : Go.Proofs.LaysPu.n14 Tryz.prog Tryz.laysPu14_ren := {
  mixed := by kernel_rfl
  f14 := Tryz.func70.trans (congrArg some (by kernel_rfl))
  f16 := Tryz.func97.trans (congrArg some (by kernel_rfl))
  f17 := Tryz.func95.trans (congrArg some (by kernel_rfl))
  f19 := Tryz.func118.trans (congrArg some (by kernel_rfl))
  f20 := Tryz.func119.trans (congrArg some (by kernel_rfl))
  f21 := Tryz.func113.trans (congrArg some (by kernel_rfl))
  f22 := Tryz.func114.trans (congrArg some (by kernel_rfl))
  f23 := Tryz.func115.trans (congrArg some (by kernel_rfl))
  f24 := Tryz.func116.trans (congrArg some (by kernel_rfl))
  f25 := Tryz.func128.trans (congrArg some (by kernel_rfl))
  f26 := Tryz.func129.trans (congrArg some (by kernel_rfl))
  f27 := Tryz.func130.trans (congrArg some (by kernel_rfl))
  f28 := Tryz.func136.trans (congrArg some (by kernel_rfl))
  f29 := Tryz.func139.trans (congrArg some (by kernel_rfl))
  f30 := Tryz.func121.trans (congrArg some (by kernel_rfl))
  f31 := Tryz.func122.trans (congrArg some (by kernel_rfl))
  f32 := Tryz.func123.trans (congrArg some (by kernel_rfl))
  f33 := Tryz.func124.trans (congrArg some (by kernel_rfl))
  f34 := Tryz.func131.trans (congrArg some (by kernel_rfl))
  f35 := Tryz.func111.trans (congrArg some (by kernel_rfl))
  f36 := Tryz.func132.trans (congrArg some (by kernel_rfl))
  f37 := Tryz.func133.trans (congrArg some (by kernel_rfl))
  f38 := Tryz.func134.trans (congrArg some (by kernel_rfl))
  f39 := Tryz.func137.trans (congrArg some (by kernel_rfl))
  f40 := Tryz.func138.trans (congrArg some (by kernel_rfl))
  t0 := Tryz.underlying0
  a0 := Tryz.isAgg0
  z0 := Tryz.sizeOf0
  v0 := Tryz.zeroValue0
  i0 := by kernel_rfl
  t2 := Tryz.underlying2
  a2 := Tryz.isAgg2
  z2 := Tryz.sizeOf2
  v2 := Tryz.zeroValue2
  i2 := by kernel_rfl
  t3 := Tryz.underlying3
  a3 := Tryz.isAgg3
  z3 := Tryz.sizeOf3
  v3 := Tryz.zeroValue3
  i3 := by kernel_rfl
  t4 := Tryz.underlying4
  a4 := Tryz.isAgg4
  z4 := Tryz.sizeOf4
  v4 := Tryz.zeroValue4
  i4 := by kernel_rfl
  t5 := Tryz.underlying5
  a5 := Tryz.isAgg5
  z5 := Tryz.sizeOf5
  v5 := Tryz.zeroValue5
  i5 := by kernel_rfl
  t9 := Tryz.underlying9
  a9 := Tryz.isAgg9
  z9 := Tryz.sizeOf9
  v9 := Tryz.zeroValue9
  i9 := by kernel_rfl
  t20 := Tryz.underlying20
  a20 := Tryz.isAgg20
  z20 := Tryz.sizeOf20
  v20 := Tryz.zeroValue20
  i20 := by kernel_rfl
  t21 := Tryz.underlying21
  a21 := Tryz.isAgg21
  z21 := Tryz.sizeOf21
  v21 := Tryz.zeroValue21
  i21 := by kernel_rfl
  t22 := Tryz.underlying98
  a22 := Tryz.isAgg98
  z22 := Tryz.sizeOf98
  v22 := Tryz.zeroValue98
  i22 := by kernel_rfl
  t24 := Tryz.underlying89
  a24 := Tryz.isAgg89
  z24 := Tryz.sizeOf89
  v24 := Tryz.zeroValue89
  i24 := by kernel_rfl
  t25 := Tryz.underlying99
  a25 := Tryz.isAgg99
  z25 := Tryz.sizeOf99
  v25 := Tryz.zeroValue99
  i25 := by kernel_rfl
  t34 := Tryz.underlying137
  a34 := Tryz.isAgg137
  z34 := Tryz.sizeOf137
  v34 := Tryz.zeroValue137
  i34 := by kernel_rfl
  c34 := by kernel_rfl
  t36 := Tryz.underlying122
  a36 := Tryz.isAgg122
  z36 := Tryz.sizeOf122
  v36 := Tryz.zeroValue122
  i36 := by kernel_rfl
  t37 := Tryz.underlying106
  a37 := Tryz.isAgg106
  z37 := Tryz.sizeOf106
  v37 := Tryz.zeroValue106
  i37 := by kernel_rfl
  t39 := Tryz.underlying140
  a39 := Tryz.isAgg140
  z39 := Tryz.sizeOf140
  v39 := Tryz.zeroValue140
  i39 := by kernel_rfl
  t44 := Tryz.underlying156
  a44 := Tryz.isAgg156
  z44 := Tryz.sizeOf156
  v44 := Tryz.zeroValue156
  i44 := by kernel_rfl
  t47 := Tryz.underlying132
  a47 := Tryz.isAgg132
  z47 := Tryz.sizeOf132
  v47 := Tryz.zeroValue132
  i47 := by kernel_rfl
  t48 := Tryz.underlying164
  a48 := Tryz.isAgg164
  z48 := Tryz.sizeOf164
  v48 := Tryz.zeroValue164
  i48 := by kernel_rfl
  t50 := Tryz.underlying166
  a50 := Tryz.isAgg166
  z50 := Tryz.sizeOf166
  v50 := Tryz.zeroValue166
  i50 := by kernel_rfl
  t52 := Tryz.underlying146
  a52 := Tryz.isAgg146
  z52 := Tryz.sizeOf146
  v52 := Tryz.zeroValue146
  i52 := by kernel_rfl
  t55 := Tryz.underlying148
  a55 := Tryz.isAgg148
  z55 := Tryz.sizeOf148
  v55 := Tryz.zeroValue148
  i55 := by kernel_rfl
  t59 := Tryz.underlying160
  a59 := Tryz.isAgg160
  z59 := Tryz.sizeOf160
  v59 := Tryz.zeroValue160
  i59 := by kernel_rfl
  t60 := Tryz.underlying135
  a60 := Tryz.isAgg135
  z60 := Tryz.sizeOf135
  v60 := Tryz.zeroValue135
  i60 := by kernel_rfl
  t61 := Tryz.underlying161
  a61 := Tryz.isAgg161
  z61 := Tryz.sizeOf161
  t65 := Tryz.underlying168
  a65 := Tryz.isAgg168
  z65 := Tryz.sizeOf168
  v65 := Tryz.zeroValue168
  i65 := by kernel_rfl
  t66 := Tryz.underlying169
  a66 := Tryz.isAgg169
  z66 := Tryz.sizeOf169
  v66 := Tryz.zeroValue169
  i66 := by kernel_rfl
  t67 := Tryz.underlying113
  a67 := Tryz.isAgg113
  z67 := Tryz.sizeOf113
  v67 := Tryz.zeroValue113
  i67 := by kernel_rfl
  g0 := by kernel_rfl
  m0 := by kernel_rfl
  g1 := by kernel_rfl
  m1 := by kernel_rfl
  g2 := by kernel_rfl
  m2 := by kernel_rfl
  g3 := by kernel_rfl
  m3 := by kernel_rfl
  g4 := by kernel_rfl
  m4 := by kernel_rfl }
open Go.RowKit in
theorem Tryz.strconv_ParseUint_10_at64_ok (s : ByteArray) (hmax : s.size ≤ 9223372036854775806) (u : Nat) (h : Lib.parseUintB 64 s.data.toList = .ok u) (w : World) :
    Calls Tryz.prog 70 #[.string s, .int .i64 10, .int .i64 64] w fun e w' => e = .returned (.tuple #[.int .u64 u, .nilIface]) ∧ (w' = w ∨ w' = Lib.bytesWorld w 5 s) := Any.strconv_ParseUint_10_at64_ok Tryz.laysPu14 s hmax u h w
def Tryz.laysGw17_ren : Go.Shelf.Ren := ⟨fun | 17 => 62 | 15 => 96 | 20 => 117 | n => n, fun | 9 => 9 | 23 => 95 | 4 => 4 | 3 => 3 | 0 => 0 | 21 => 21 | n => n, fun | n => n⟩
theorem Tryz.laysGw17 : Go.Proofs.LaysGw.n17 Tryz.prog Tryz.laysGw17_ren := {
  mixed := by kernel_rfl
  f15 := Tryz.func96.trans (congrArg some (by kernel_rfl))
  f17 := Tryz.func62.trans (congrArg some (by kernel_rfl))
  f20 := Tryz.func117.trans (congrArg some (by kernel_rfl))
  t0 := Tryz.underlying0
  a0 := Tryz.isAgg0
  z0 := Tryz.sizeOf0
  v0 := Tryz.zeroValue0
  i0 := by kernel_rfl
  t3 := Tryz.underlying3
  a3 := Tryz.isAgg3
  z3 := Tryz.sizeOf3
  v3 := Tryz.zeroValue3
  i3 := by kernel_rfl
  t4 := Tryz.underlying4
  a4 := Tryz.isAgg4
  z4 := Tryz.sizeOf4
  v4 := Tryz.zeroValue4
  i4 := by kernel_rfl
  t9 := Tryz.underlying9
  a9 := Tryz.isAgg9
  z9 := Tryz.sizeOf9
  v9 := Tryz.zeroValue9
  i9 := by kernel_rfl
  t21 := Tryz.underlying21
  a21 := Tryz.isAgg21
  z21 := Tryz.sizeOf21
  v21 := Tryz.zeroValue21
  i21 := by kernel_rfl
  t23 := Tryz.underlying95
  a23 := Tryz.isAgg95
  z23 := Tryz.sizeOf95
  v23 := Tryz.zeroValue95
  i23 := by kernel_rfl }
open Go.RowKit Go.Lib in
theorem Tryz.strings_ContainsFunc (g : Nat) (lb : Array Value) (eg : ∀ args w, (callFunc g args).run Tryz.prog w = .ok (.enter g args) w) (p : Nat → Bool) (s : ByteArray) (w : World) (hp : PredAt Tryz.prog g lb encR p w) :
    Calls Tryz.prog 62 #[.string s, .func (.func g) #[] lb] w fun e w' => e = .returned (.bool (decide (0 ≤ Lib.idxFunc p true s))) ∧ Below w.heap.size w w' := Any.strings_ContainsFunc Tryz.laysGw17 g lb eg p s w hp
def Tryz.lays101_ren : Go.Shelf.Ren := ⟨fun | 101 => 41 | 208 => 83 | 206 => 108 | n => n, fun | 9 => 9 | 4 => 4 | 3 => 3 | n => n, fun | n => n⟩
theorem Tryz.lays101 : Go.Proofs.Lays.n101 Tryz.prog Tryz.lays101_ren := {
  mixed := by kernel_rfl
  f101 := Tryz.func41.trans (congrArg some (by kernel_rfl))
  f206 := Tryz.func108.trans (congrArg some (by kernel_rfl))
  f208 := Tryz.func83.trans (congrArg some (by kernel_rfl))
  t3 := Tryz.underlying3
  a3 := Tryz.isAgg3
  z3 := Tryz.sizeOf3
  v3 := Tryz.zeroValue3
  t4 := Tryz.underlying4
  a4 := Tryz.isAgg4
  z4 := Tryz.sizeOf4
  v4 := Tryz.zeroValue4
  t9 := Tryz.underlying9
  a9 := Tryz.isAgg9
  z9 := Tryz.sizeOf9
  v9 := Tryz.zeroValue9 }
open Go.RowKit Go.Lib in
theorem Tryz.strings_TrimPrefix (s p : ByteArray) (w : World) :
    Calls Tryz.prog 41 #[.string s, .string p] w fun e w' => e = .returned (.string ⟨(Lib.trimPrefix s.data.toList p.data.toList).toArray⟩) ∧ w' = w := Any.strings_TrimPrefix Tryz.lays101 s p w
def Tryz.lays264_ren : Go.Shelf.Ren := ⟨fun | 264 => 98 | n => n, fun | 53 => 98 | 46 => 122 | n => n, fun | n => n⟩
theorem Tryz.lays264 : Go.Proofs.Lays.n264 Tryz.prog Tryz.lays264_ren := {
  mixed := by kernel_rfl
  f264 := Tryz.func98.trans (congrArg some (by kernel_rfl))
  t46 := Tryz.underlying122
  a46 := Tryz.isAgg122
  z46 := Tryz.sizeOf122
  v46 := Tryz.zeroValue122
  t53 := Tryz.underlying98
  a53 := Tryz.isAgg98
  z53 := Tryz.sizeOf98
  v53 := Tryz.zeroValue98 }
open Go.RowKit Go.Lib in
theorem Tryz.bits_Mul64 (x y : Nat) (hx : x < 18446744073709551616) (hy : y < 18446744073709551616) (w : World) :
    Calls Tryz.prog 98 #[.int .u64 x, .int .u64 y] w fun e w' => e = .returned (.tuple #[.int .u64 ((x * y / 18446744073709551616 : Nat) : Int), .int .u64 ((x * y % 18446744073709551616 : Nat) : Int)]) ∧ w' = w := Any.bits_Mul64 Tryz.lays264 x y hx hy w
def Tryz.lays105_ren : Go.Shelf.Ren := ⟨fun | 105 => 80 | 212 => 104 | 99 => 105 | 165 => 106 | 166 => 79 | 170 => 107 | 169 => 82 | 263 => 126 | 264 => 98 | 206 => 108 | 240 => 103 | 241 => 127 | 276 => 125 | 277 => 135 | n => n, fun | 9 => 9 | 3 => 3 | 4 => 4 | 20 => 20 | 0 => 0 | 46 => 122 | 109 => 128 | 5 => 5 | 72 => 108 | 76 => 90 | 51 => 135 | 146 => 152 | 53 => 98 | 148 => 125 | 70 => 105 | 37 => 106 | 75 => 89 | 127 => 132 | 164 => 150 | 80 => 113 | n => n, fun | n => n⟩
theorem Tryz.lays105 : Go.Proofs.Lays.n105 Tryz.prog Tryz.lays105_ren := {
  mixed := by kernel_rfl
  f99 := Tryz.func105.trans (congrArg some (by kernel_rfl))
  f105 := Tryz.func80.trans (congrArg some (by kernel_rfl))
  f165 := Tryz.func106.trans (congrArg some (by kernel_rfl))
  f166 := Tryz.func79.trans (congrArg some (by kernel_rfl))
  f169 := Tryz.func82.trans (congrArg some (by kernel_rfl))
  f170 := Tryz.func107.trans (congrArg some (by kernel_rfl))
  f206 := Tryz.func108.trans (congrArg some (by kernel_rfl))
  f212 := Tryz.func104.trans (congrArg some (by kernel_rfl))
  f240 := Tryz.func103.trans (congrArg some (by kernel_rfl))
  f241 := Tryz.func127.trans (congrArg some (by kernel_rfl))
  f263 := Tryz.func126.trans (congrArg some (by kernel_rfl))
  f264 := Tryz.func98.trans (congrArg some (by kernel_rfl))
  f276 := Tryz.func125.trans (congrArg some (by kernel_rfl))
  f277 := Tryz.func135.trans (congrArg some (by kernel_rfl))
  t0 := Tryz.underlying0
  a0 := Tryz.isAgg0
  z0 := Tryz.sizeOf0
  v0 := Tryz.zeroValue0
  t3 := Tryz.underlying3
  a3 := Tryz.isAgg3
  z3 := Tryz.sizeOf3
  v3 := Tryz.zeroValue3
  t4 := Tryz.underlying4
  a4 := Tryz.isAgg4
  z4 := Tryz.sizeOf4
  v4 := Tryz.zeroValue4
  t5 := Tryz.underlying5
  a5 := Tryz.isAgg5
  z5 := Tryz.sizeOf5
  v5 := Tryz.zeroValue5
  t9 := Tryz.underlying9
  a9 := Tryz.isAgg9
  z9 := Tryz.sizeOf9
  v9 := Tryz.zeroValue9
  t20 := Tryz.underlying20
  a20 := Tryz.isAgg20
  z20 := Tryz.sizeOf20
  v20 := Tryz.zeroValue20
  t37 := Tryz.underlying106
  a37 := Tryz.isAgg106
  z37 := Tryz.sizeOf106
  v37 := Tryz.zeroValue106
  t46 := Tryz.underlying122
  a46 := Tryz.isAgg122
  z46 := Tryz.sizeOf122
  v46 := Tryz.zeroValue122
  t51 := Tryz.underlying135
  a51 := Tryz.isAgg135
  z51 := Tryz.sizeOf135
  v51 := Tryz.zeroValue135
  t53 := Tryz.underlying98
  a53 := Tryz.isAgg98
  z53 := Tryz.sizeOf98
  v53 := Tryz.zeroValue98
  t70 := Tryz.underlying105
  a70 := Tryz.isAgg105
  z70 := Tryz.sizeOf105
  v70 := Tryz.zeroValue105
  t72 := Tryz.underlying108
  a72 := Tryz.isAgg108
  z72 := Tryz.sizeOf108
  v72 := Tryz.zeroValue108
  t75 := Tryz.underlying89
  a75 := Tryz.isAgg89
  z75 := Tryz.sizeOf89
  v75 := Tryz.zeroValue89
  t76 := Tryz.underlying90
  a76 := Tryz.isAgg90
  z76 := Tryz.sizeOf90
  v76 := Tryz.zeroValue90
  t109 := Tryz.underlying128
  a109 := Tryz.isAgg128
  z109 := Tryz.sizeOf128
  v109 := Tryz.zeroValue128
  t127 := Tryz.underlying132
  a127 := Tryz.isAgg132
  z127 := Tryz.sizeOf132
  v127 := Tryz.zeroValue132
  t146 := Tryz.underlying152
  a146 := Tryz.isAgg152
  z146 := Tryz.sizeOf152
  v146 := Tryz.zeroValue152
  t148 := Tryz.underlying125
  a148 := Tryz.isAgg125
  z148 := Tryz.sizeOf125
  v148 := Tryz.zeroValue125
  t164 := Tryz.underlying150
  a164 := Tryz.isAgg150
  z164 := Tryz.sizeOf150
  v164 := Tryz.zeroValue150 }
theorem Tryz.Builder_Extra_105 : Builder.Extra Tryz.prog Tryz.lays105_ren := {
  sizeBuilder := by kernel_rfl
  liesBuilder := by kernel_rfl
  t5 := Tryz.underlying5
  a5 := Tryz.isAgg5
  z5 := Tryz.sizeOf5
  v5 := Tryz.zeroValue5
  infoByte := by kernel_rfl
  cellsByte := by kernel_rfl
  sizeByte := by kernel_rfl
  neB5 := by decide }
open Go.RowKit Go.Lib in
theorem Tryz.strings_Repeat (s : ByteArray) (c : Nat) (w : World) (hc : c ≤ 9223372036854775807) (hlen : s.size * c ≤ 140737488355328) :
    Calls Tryz.prog 80 #[.string s, .int .i64 c] w fun e w' => e = .returned (.string ⟨(Lib.repeatL s.data.toList c).toArray⟩) ∧ Below w.heap.size w w' := Any.strings_Repeat Tryz.lays105 Tryz.Builder_Extra_105 s c w hc hlen
theorem Tryz.lays166 : Go.Proofs.Lays.n166 Tryz.prog Tryz.lays105_ren := { Tryz.lays105 with }
open Go.RowKit in
theorem Tryz.Builder_WriteString (B b : Nat) (bs : List Value) (s : ByteArray) (w : World) (h : Lib.IsBuilder 108 5 B b bs w) (hlen : bs.length + s.size ≤ 140737488355328) (hBw : B ≤ w.heap.size) :
    Calls Tryz.prog 79 #[.pointer (some ⟨b, 0, none⟩), .string s] w fun e w' => e = .returned (.tuple #[.int .i64 s.size, .nilIface]) ∧ (Lib.BuilderAt 108 5 B b (.pointer (some ⟨b, 0, none⟩)) (bs ++ Lib.byteCells s.data.toList) w' ∧ Below B w w') := Any.Builder_WriteString Tryz.lays166 Tryz.Builder_Extra_105 B b bs s w h hlen hBw
def Tryz.lays167_ren : Go.Shelf.Ren := ⟨fun | 167 => 81 | 240 => 103 | 276 => 125 | n => n, Tryz.lays105_ren.t, fun n => n⟩
theorem Tryz.lays167 : Go.Proofs.Lays.n167 Tryz.prog Tryz.lays167_ren := {
  mixed := by kernel_rfl
  f167 := Tryz.func81.trans (congrArg some (by kernel_rfl))
  f240 := Tryz.func103.trans (congrArg some (by kernel_rfl))
  f276 := Tryz.func125.trans (congrArg some (by kernel_rfl))
  t0 := Tryz.lays105.t0
  a0 := Tryz.lays105.a0
  z0 := Tryz.lays105.z0
  v0 := Tryz.lays105.v0
  t4 := Tryz.lays105.t4
  a4 := Tryz.lays105.a4
  z4 := Tryz.lays105.z4
  v4 := Tryz.lays105.v4
  t5 := Tryz.lays105.t5
  a5 := Tryz.lays105.a5
  z5 := Tryz.lays105.z5
  v5 := Tryz.lays105.v5
  t9 := Tryz.lays105.t9
  a9 := Tryz.lays105.a9
  z9 := Tryz.lays105.z9
  v9 := Tryz.lays105.v9
  t20 := Tryz.lays105.t20
  a20 := Tryz.lays105.a20
  z20 := Tryz.lays105.z20
  v20 := Tryz.lays105.v20
  t37 := Tryz.lays105.t37
  a37 := Tryz.lays105.a37
  z37 := Tryz.lays105.z37
  v37 := Tryz.lays105.v37
  t70 := Tryz.lays105.t70
  a70 := Tryz.lays105.a70
  z70 := Tryz.lays105.z70
  v70 := Tryz.lays105.v70
  t72 := Tryz.lays105.t72
  a72 := Tryz.lays105.a72
  z72 := Tryz.lays105.z72
  v72 := Tryz.lays105.v72
  t75 := Tryz.lays105.t75
  a75 := Tryz.lays105.a75
  z75 := Tryz.lays105.z75
  v75 := Tryz.lays105.v75
  t164 := Tryz.lays105.t164
  a164 := Tryz.lays105.a164
  z164 := Tryz.lays105.z164
  v164 := Tryz.lays105.v164 }
theorem Tryz.Builder_Extra_167 : Builder.Extra Tryz.prog Tryz.lays167_ren := {
  sizeBuilder := by kernel_rfl
  liesBuilder := by kernel_rfl
  t5 := Tryz.underlying5
  a5 := Tryz.isAgg5
  z5 := Tryz.sizeOf5
  v5 := Tryz.zeroValue5
  infoByte := by kernel_rfl
  cellsByte := by kernel_rfl
  sizeByte := by kernel_rfl
  neB5 := by decide }
open Go.RowKit in
theorem Tryz.Builder_WriteByte (B b : Nat) (bs : List Value) (c : Int) (w : World) (h : Lib.IsBuilder 108 5 B b bs w) (hlen : bs.length + 1 ≤ 140737488355328) (hBw : B ≤ w.heap.size) :
    Calls Tryz.prog 81 #[.pointer (some ⟨b, 0, none⟩), .int .u8 c] w fun e w' => e = .returned .nilIface ∧ (Lib.BuilderAt 108 5 B b (.pointer (some ⟨b, 0, none⟩)) (bs ++ [.int .u8 c]) w' ∧ Below B w w') := Any.Builder_WriteByte Tryz.lays167 Tryz.Builder_Extra_167 B b bs c w h hlen hBw
end Go.Proofs

/-
  Go's library, by contracts in this text's words.
-/
set_option linter.unusedSimpArgs false
set_option linter.unusedVariables false
namespace Go.Proofs.YtglnkfpmogaifaaGreatDoor.V
open Go Go.Proofs Go.RowKit

/-- A contract of the kit's, of values alone. -/
theorem Con.of_calls {P : Program} {f : FuncId} {us : List Value} {v : Value} {r : D} (hc : V.callable P f = true) (hr : ∀ X, Vr X r v) (h : ∀ w, Gl w → Calls P f us.toArray w fun e w' => e = .returned v ∧ Below w.heap.size w w') : Con P f (us.map .sc) r [] := by
  refine ⟨hc, fun I w vs hgl hI hl => ?_⟩
  rw [Lr_scs hl]
  refine (h w hgl).mono ?_
  rintro e w' ⟨rfl, hb⟩
  exact ⟨v, ⟨fun _ => none, I, w', fun _ => False⟩, rfl, rfl, hr _, hb, fun b hb' => Nat.lt_of_lt_of_le (hI b hb') hb.size, fun b hb' => .inl hb', fun b hb' => hb', fun i o hi => by simp at hi, fun i j li lj hi => by simp at hi⟩
theorem Con.of_calls0 {P : Program} {f : FuncId} {us : List Value} {v : Value} {r : D} (hc : V.callable P f = true) (hr : ∀ X, Vr X r v) (h : ∀ w, Calls P f us.toArray w fun e w' => e = .returned v ∧ w' = w) : Con P f (us.map .sc) r [] :=
  Con.of_calls hc hr fun w _ => (h w).mono fun e w' ⟨h1, h2⟩ => ⟨h1, h2 ▸ Below.refl _ _⟩

theorem lMul64 {x y : Int} (hx : 0 ≤ x ∧ x < 18446744073709551616) (hy : 0 ≤ y ∧ y < 18446744073709551616) : Con Tryz.prog 98 [.sc (.int .u64 x), .sc (.int .u64 y)] (.tp [.sc (.int .u64 (x * y / 18446744073709551616)), .sc (.int .u64 (x * y % 18446744073709551616))]) [] := by
  obtain ⟨a, rfl⟩ : ∃ a : Nat, x = a := ⟨x.toNat, by omega⟩
  obtain ⟨b, rfl⟩ : ∃ b : Nat, y = b := ⟨y.toNat, by omega⟩
  refine Con.of_calls0 (us := [.int .u64 a, .int .u64 b]) (by kernel_rfl) (fun X => ?_) (Tryz.bits_Mul64 a b (by omega) (by omega))
  simp [Vr, Lr]
theorem bitLenAux_bd : ∀ (f x : Nat), x < 2 ^ f → x < 2 ^ Lib.bitLenAux f x ∧ (x ≠ 0 → 2 ^ Lib.bitLenAux f x ≤ 2 * x) ∧ Lib.bitLenAux f x ≤ f
  | 0, x, h => by
    have : x = 0 := by simpa using h
    subst this
    simp [Lib.bitLenAux]
  | f + 1, x, h => by
    simp only [Lib.bitLenAux]
    by_cases hx : x = 0
    · rw [if_pos hx, hx]; simp
    · rw [if_neg hx]
      rw [Nat.pow_succ] at h
      obtain ⟨h1, h2, h3⟩ := bitLenAux_bd f (x / 2) (by omega)
      rw [Nat.pow_add, Nat.pow_one]
      refine ⟨by omega, fun _ => ?_, by omega⟩
      by_cases h0 : x / 2 = 0
      · have : x = 1 := by omega
        subst this
        have e0 : Lib.bitLenAux f (1 / 2) = 0 := by cases f <;> simp [Lib.bitLenAux]
        rw [e0]
        omega
      · have := h2 h0
        omega
theorem lLz {y : Int} (h0 : 1 ≤ y) (h1 : y < 18446744073709551616) : ∃ s : Nat, s < 64 ∧ 9223372036854775808 ≤ y * 2 ^ s ∧ y * 2 ^ s < 18446744073709551616 ∧ Con Tryz.prog 120 [.sc (.int .u64 y)] (.sc (.int .i64 s)) [] := by
  obtain ⟨n, rfl⟩ : ∃ n : Nat, y = n := ⟨y.toNat, by omega⟩
  obtain ⟨b1, b2, b3⟩ := bitLenAux_bd 64 n (by omega)
  have b2 := b2 (by omega)
  have hb : Lib.bitLenAux 64 n ≠ 0 := fun h => by rw [h] at b1; omega
  have e : 2 ^ Lib.bitLenAux 64 n * 2 ^ (64 - Lib.bitLenAux 64 n) = 18446744073709551616 := by
    rw [← Nat.pow_add, show Lib.bitLenAux 64 n + (64 - Lib.bitLenAux 64 n) = 64 by omega]
  have hp : 0 < 2 ^ (64 - Lib.bitLenAux 64 n) := Nat.pow_pos (by omega)
  have c1 := Nat.mul_lt_mul_of_pos_right b1 hp
  have c2 := Nat.mul_le_mul_right (2 ^ (64 - Lib.bitLenAux 64 n)) b2
  rw [e] at c1 c2
  rw [Nat.mul_assoc] at c2
  have e2 : ((n : Int) * 2 ^ (64 - Lib.bitLenAux 64 n)) = ((n * 2 ^ (64 - Lib.bitLenAux 64 n) : Nat) : Int) := by push_cast; rfl
  refine ⟨64 - Lib.bitLenAux 64 n, by omega, by rw [e2]; omega, by rw [e2]; omega, ?_⟩
  refine Con.of_calls0 (us := [.int .u64 n]) (v := .int .i64 (64 - (Lib.bitLen n : Int))) (by kernel_rfl) (fun X => ?_) fun w => ?_
  · rw [show ((64 - Lib.bitLenAux 64 n : Nat) : Int) = 64 - (Lib.bitLen n : Int) by show _ = 64 - ((Lib.bitLenAux 64 n : Nat) : Int); omega]
    exact Vr_sc
  · have := Tryz.bits_LeadingZeros64 n w (by omega) (by omega)
    rwa [Int.toNat_natCast] at this
theorem xAdd64 {x y : Int} (hx : 0 ≤ x ∧ x < 18446744073709551616) (hy : 0 ≤ y ∧ y < 18446744073709551616) : ∀ w, (callFunc 99 [Value.int .u64 x, .int .u64 y, .int .u64 0].toArray).run Tryz.prog w =
    .ok (.value (.tuple #[.int .u64 ((x + y) % 18446744073709551616), .int .u64 ((x + y) / 18446744073709551616)])) w := by
  intro w
  rw [run_callFunc_extern Tryz.func99 (by kernel_rfl) (by kernel_rfl) (by kernel_rfl) (e := add64Entry) (by kernel_rfl)]
  rw [show ([Value.int .u64 x, .int .u64 y, .int .u64 0].toArray) = #[.int .u64 x, .int .u64 y, .int .u64 0] from rfl, run_add64 x y 0 (by omega) (by omega) (by omega) (by omega)]
  simp only [Result.andThen, Int.add_zero]

/-! ### shifts and masks -/
theorem shl64 {x : Int} {s : Nat} (h : s ≤ 64) : shbin .shl .u64 x (s : Int) = some (.sc (.int .u64 (IntKind.u64.wrap (x * 2 ^ s)))) := by
  simp only [shbin, IntKind.bits]
  rw [if_neg (by omega), Int.toNat_natCast, Nat.min_eq_left h]
theorem shr64 {x : Int} {s : Nat} (h : s ≤ 64) : shbin .shr .u64 x (s : Int) = some (.sc (.int .u64 (x / 2 ^ s))) := by
  simp only [shbin, IntKind.bits]
  rw [if_neg (by omega), Int.toNat_natCast, Nat.min_eq_left h, Int.fdiv_eq_ediv_of_nonneg _ (Int.pow_nonneg (by omega))]
theorem shr64' {x : Int} {s : Nat} (h : s ≤ 64) : shbin .shr .u64 x (64 - (s : Int)) = some (.sc (.int .u64 (x / 2 ^ (64 - s)))) := by
  rw [← shr64 (by omega), show ((64 - s : Nat) : Int) = 64 - (s : Int) by omega]
theorem shr32 (x : Int) : shbin .shr .u64 x 32 = some (.sc (.int .u64 (x / 4294967296))) := shr64 (s := 32) (by decide)
theorem and32 {x : Int} (h0 : 0 ≤ x) (h1 : x < 18446744073709551616) : ibin .and .u64 x 4294967295 = some (.sc (.int .u64 (x % 4294967296))) := by
  obtain ⟨n, rfl⟩ : ∃ n : Nat, x = n := ⟨x.toNat, by omega⟩
  show some (D.sc (.int .u64 (IntKind.u64.wrap ((BitVec.ofInt 64 (n : Int)) &&& (BitVec.ofInt 64 4294967295)).toNat))) = _
  have e : ((BitVec.ofInt 64 (n : Int)) &&& BitVec.ofInt 64 4294967295).toNat = n % 4294967296 := by
    rw [BitVec.toNat_and, BitVec.ofInt_natCast, BitVec.toNat_ofNat, show (BitVec.ofInt 64 4294967295).toNat = 2 ^ 32 - 1 from rfl, Nat.and_two_pow_sub_one_eq_mod]
    omega
  rw [e, wrapu (by omega) (by omega)]
  rfl
theorem or_add {k b : Int} {s : Nat} (hk : 0 ≤ k) (hb : 0 ≤ b) (hb' : b < 2 ^ s) (hk' : k * 2 ^ s < 18446744073709551616) (hs : s < 64) : ibin .or .u64 (k * 2 ^ s) b = some (.sc (.int .u64 (k * 2 ^ s + b))) := by
  show some (D.sc (.int .u64 (IntKind.u64.wrap ((BitVec.ofInt 64 (k * 2 ^ s)) ||| (BitVec.ofInt 64 b)).toNat))) = _
  obtain ⟨n, rfl⟩ : ∃ n : Nat, k = n := ⟨k.toNat, by omega⟩
  obtain ⟨m, rfl⟩ : ∃ m : Nat, b = m := ⟨b.toNat, by omega⟩
  have e1 : ((n : Int) * 2 ^ s) = ((n * 2 ^ s : Nat) : Int) := by push_cast; rfl
  have e2 : ((2 : Int) ^ s) = ((2 ^ s : Nat) : Int) := by push_cast; rfl
  rw [e2] at hb'
  rw [e1] at hk' ⊢
  have hp : 2 ^ s ≤ 2 ^ 63 := Nat.pow_le_pow_right (by omega) (by omega)
  have hor : n * 2 ^ s ||| m = n * 2 ^ s + m := by rw [← Nat.shiftLeft_eq, ← Nat.shiftLeft_add_eq_or_of_lt (by omega)]
  have hd : n * 2 ^ s + m < 18446744073709551616 := by
    have h1 : (18446744073709551616 : Nat) = 2 ^ (64 - s) * 2 ^ s := by rw [← Nat.pow_add, show 64 - s + s = 64 by omega]
    have h2 : n < 2 ^ (64 - s) := Nat.lt_of_mul_lt_mul_right (a := 2 ^ s) (by omega)
    have h3 : (n + 1) * 2 ^ s ≤ 2 ^ (64 - s) * 2 ^ s := Nat.mul_le_mul_right _ h2
    rw [Nat.add_mul] at h3
    omega
  rw [BitVec.toNat_or, BitVec.ofInt_natCast, BitVec.ofInt_natCast, BitVec.toNat_ofNat, BitVec.toNat_ofNat, Nat.mod_eq_of_lt (by omega), Nat.mod_eq_of_lt (by omega), hor, wrapu (by omega) (by omega), Int.natCast_add]
attribute [go_sem] shl64 shr64 shr64' shr32
attribute [go_sem ↓] and32 or_add
end Go.Proofs.YtglnkfpmogaifaaGreatDoor.V

