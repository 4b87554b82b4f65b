/-
  A changed grid.
-/
import Derived.Test.YtndigibhmfegaaaKB4
set_option linter.unusedSimpArgs false
set_option linter.unusedVariables false
set_option linter.unusedSimpArgs false
set_option linter.unusedVariables false
set_option maxHeartbeats 4000000
namespace Go.Proofs.Ytndigibhmfegaaa.V
open Go Go.Proofs Go.RowKit

def grow (d : List Int) : Nat → List Int
  | 0 => d
  | k + 1 => grow d k ++ (grow d k).take 4096
def twos (z : List Int) : Nat → List Int
  | 0 => z
  | k + 1 => 2 :: twos z k
theorem twos_length (z : List Int) : ∀ k, (twos z k).length = z.length + k
  | 0 => rfl
  | k + 1 => by simp [twos, twos_length z k]; omega
theorem grow_length (d : List Int) (h : d.length ≤ 5000) : ∀ k, (grow d k).length ≤ 5000 + 4096 * k
  | 0 => by simpa [grow] using h
  | k + 1 => by
    have := grow_length d h k
    simp only [grow, List.length_append, List.length_take]
    omega
def bend (w : Int) (a : Nat) (N : Int) (z : List Int) (o : Int) (d : List Int) : List Int × Int × List Int :=
  if w.tmod 8 = 0 then (z, N, d)
  else if w.tmod 8 = 1 then (if z.length = 0 then z else z.set (a % z.length) N, o, d)
  else if w.tmod 8 = 2 then (z, o, if d.length = 0 then d else d.set (a % d.length) N)
  else if w.tmod 8 = 3 then (z.take (a % 2), o, d)
  else if w.tmod 8 = 4 then (z ++ [2], o, d)
  else if w.tmod 8 = 5 then (z, o, d ++ [N])
  else if w.tmod 8 = 6 then (twos z (4 + a % 2 - z.length), o, grow d (4 + a % 2 - z.length))
  else (z, o, d)
theorem tmod_two (a : Nat) : Int.tmod (a : Int) 2 = ((a % 2 : Nat) : Int) := rfl
theorem min_cast (m n : Nat) : (if (m : Int) < (n : Int) then (m : Int) else (n : Int)) = ((min m n : Nat) : Int) := by split <;> omega
theorem min_4096 (n : Nat) : (if (4096 : Int) < (n : Int) then (4096 : Int) else (n : Int)) = ((min 4096 n : Nat) : Int) := by split <;> omega
theorem take_min' (xs : List Int) (c : Nat) : xs.take (min c xs.length) = xs.take c := by rw [Nat.min_comm, take_min]
attribute [go_sem] tmod_two min_cast min_4096 take_min'
/-- A change, as data. -/
abbrev bd (w : Int) (a : Nat) (N : Int) : D := .ag [.sc (.int .u8 w), .sc (.int .u8 a), .sc (.int .i64 N)]

theorem con32z (w : Int) (a : Nat) (N : Int) (sz : List Int) (o : Int) (da z d : List Int) (ha : a ≤ 255) (hz : z.length ≤ 8) (hd : d.length ≤ 5000)
    (c33 : Con Try.prog 33 [gr sz o da] (.ag [.rf 0 0 z.length 1, .sc (.int .i64 o), .rf 1 0 d.length 1]) [⟨ints .i64 z, 3, 1, false⟩, ⟨ints .i64 d, 3, 1, false⟩]) :
    Con Try.prog 32 [bd w a N, gr sz o da] (gr (bend w a N z o d).1 (bend w a N z o d).2.1 (bend w a N z o d).2.2) [] := by
  refine Con.of_bodyD [(0, bd w a N), (1, gr sz o da)] Try.func32 rfl ca32 105 rfl (by simp) rfl ?_; refine T_of_R ?_
  refine go ?_
  refine callo (c33) ?_
  refine go ?_
  refine cnd (fun h => ?_) (fun h => ?_)
  · simp only [decide_eq_true_eq, decide_eq_false_iff_not, Bool.or_eq_true, Bool.and_eq_true, Bool.or_eq_false_iff, Bool.and_eq_false_iff, Bool.not_eq_true', Bool.not_eq_false', bne_iff_ne, beq_iff_eq, ne_eq, bne_eq_false_iff_eq, beq_eq_false_iff_ne, ge_iff_le, gt_iff_lt, Int.not_le, Int.not_lt] at h
    have e : bend w a N z o d = (z, N, d) := by simp (disch := (first | omega | (simp only [go_sem, ↓reduceIte, Nat.reduceEqDiff, Nat.reduceAdd, Nat.reduceMul, Nat.reduceSub, Nat.reduceLT, Nat.reduceLeDiff, Nat.reduceBNe, Nat.reduceBEq, Int.reduceToNat, Int.reduceAdd, Int.reduceSub, Int.reduceMul, Int.reduceLT, Int.reduceLE, Int.reduceNeg, Int.reduceBEq, Int.reduceBNe, Int.reduceEq, beq_self_eq_true, reduceCtorEq, decide_true, decide_false, if_pos, if_neg]; first | done | omega))) only [go_sem, ↓reduceIte, Nat.reduceEqDiff, Nat.reduceAdd, Nat.reduceMul, Nat.reduceSub, Nat.reduceLT, Nat.reduceLeDiff, Nat.reduceBNe, Nat.reduceBEq, Int.reduceToNat, Int.reduceAdd, Int.reduceSub, Int.reduceMul, Int.reduceLT, Int.reduceLE, Int.reduceNeg, Int.reduceBEq, Int.reduceBNe, Int.reduceEq, beq_self_eq_true, reduceCtorEq, decide_true, decide_false, if_pos, if_neg, bend]
    refine go ?_
    refine R_ret (fin_data (by simp (disch := (first | omega | (simp only [go_sem, ↓reduceIte, Nat.reduceEqDiff, Nat.reduceAdd, Nat.reduceMul, Nat.reduceSub, Nat.reduceLT, Nat.reduceLeDiff, Nat.reduceBNe, Nat.reduceBEq, Int.reduceToNat, Int.reduceAdd, Int.reduceSub, Int.reduceMul, Int.reduceLT, Int.reduceLE, Int.reduceNeg, Int.reduceBEq, Int.reduceBNe, Int.reduceEq, beq_self_eq_true, reduceCtorEq, decide_true, decide_false, if_pos, if_neg]; first | done | omega))) only [go_sem, ↓reduceIte, Nat.reduceEqDiff, Nat.reduceAdd, Nat.reduceMul, Nat.reduceSub, Nat.reduceLT, Nat.reduceLeDiff, Nat.reduceBNe, Nat.reduceBEq, Int.reduceToNat, Int.reduceAdd, Int.reduceSub, Int.reduceMul, Int.reduceLT, Int.reduceLE, Int.reduceNeg, Int.reduceBEq, Int.reduceBNe, Int.reduceEq, beq_self_eq_true, reduceCtorEq, decide_true, decide_false, if_pos, if_neg, e, gr] <;> rfl) (by simp (disch := (first | omega | (simp only [go_sem, ↓reduceIte, Nat.reduceEqDiff, Nat.reduceAdd, Nat.reduceMul, Nat.reduceSub, Nat.reduceLT, Nat.reduceLeDiff, Nat.reduceBNe, Nat.reduceBEq, Int.reduceToNat, Int.reduceAdd, Int.reduceSub, Int.reduceMul, Int.reduceLT, Int.reduceLE, Int.reduceNeg, Int.reduceBEq, Int.reduceBNe, Int.reduceEq, beq_self_eq_true, reduceCtorEq, decide_true, decide_false, if_pos, if_neg]; first | done | omega))) only [go_sem, ↓reduceIte, Nat.reduceEqDiff, Nat.reduceAdd, Nat.reduceMul, Nat.reduceSub, Nat.reduceLT, Nat.reduceLeDiff, Nat.reduceBNe, Nat.reduceBEq, Int.reduceToNat, Int.reduceAdd, Int.reduceSub, Int.reduceMul, Int.reduceLT, Int.reduceLE, Int.reduceNeg, Int.reduceBEq, Int.reduceBNe, Int.reduceEq, beq_self_eq_true, reduceCtorEq, decide_true, decide_false, if_pos, if_neg, e, gr]))
  · simp only [decide_eq_true_eq, decide_eq_false_iff_not, Bool.or_eq_true, Bool.and_eq_true, Bool.or_eq_false_iff, Bool.and_eq_false_iff, Bool.not_eq_true', Bool.not_eq_false', bne_iff_ne, beq_iff_eq, ne_eq, bne_eq_false_iff_eq, beq_eq_false_iff_ne, ge_iff_le, gt_iff_lt, Int.not_le, Int.not_lt] at h
    have h0 := h
    refine go ?_
    refine cnd (fun h => ?_) (fun h => ?_)
    · simp only [decide_eq_true_eq, decide_eq_false_iff_not, Bool.or_eq_true, Bool.and_eq_true, Bool.or_eq_false_iff, Bool.and_eq_false_iff, Bool.not_eq_true', Bool.not_eq_false', bne_iff_ne, beq_iff_eq, ne_eq, bne_eq_false_iff_eq, beq_eq_false_iff_ne, ge_iff_le, gt_iff_lt, Int.not_le, Int.not_lt] at h
      refine go ?_
      refine cnd (fun h => ?_) (fun h => ?_)
      · simp only [decide_eq_true_eq, decide_eq_false_iff_not, Bool.or_eq_true, Bool.and_eq_true, Bool.or_eq_false_iff, Bool.and_eq_false_iff, Bool.not_eq_true', Bool.not_eq_false', bne_iff_ne, beq_iff_eq, ne_eq, bne_eq_false_iff_eq, beq_eq_false_iff_ne, ge_iff_le, gt_iff_lt, Int.not_le, Int.not_lt] at h
        have e : bend w a N z o d = (z.set (a % z.length) N, o, d) := by simp (disch := (first | omega | (simp only [go_sem, ↓reduceIte, Nat.reduceEqDiff, Nat.reduceAdd, Nat.reduceMul, Nat.reduceSub, Nat.reduceLT, Nat.reduceLeDiff, Nat.reduceBNe, Nat.reduceBEq, Int.reduceToNat, Int.reduceAdd, Int.reduceSub, Int.reduceMul, Int.reduceLT, Int.reduceLE, Int.reduceNeg, Int.reduceBEq, Int.reduceBNe, Int.reduceEq, beq_self_eq_true, reduceCtorEq, decide_true, decide_false, if_pos, if_neg]; first | done | omega))) only [go_sem, ↓reduceIte, Nat.reduceEqDiff, Nat.reduceAdd, Nat.reduceMul, Nat.reduceSub, Nat.reduceLT, Nat.reduceLeDiff, Nat.reduceBNe, Nat.reduceBEq, Int.reduceToNat, Int.reduceAdd, Int.reduceSub, Int.reduceMul, Int.reduceLT, Int.reduceLE, Int.reduceNeg, Int.reduceBEq, Int.reduceBNe, Int.reduceEq, beq_self_eq_true, reduceCtorEq, decide_true, decide_false, if_pos, if_neg, bend]
        have hm : a % z.length < z.length := Nat.mod_lt _ (by omega)
        have hz0 : (z.length : Int) ≠ 0 := by omega
        refine go ?_
        refine R_ret (fin_data (by simp (disch := (first | omega | (simp only [go_sem, ↓reduceIte, Nat.reduceEqDiff, Nat.reduceAdd, Nat.reduceMul, Nat.reduceSub, Nat.reduceLT, Nat.reduceLeDiff, Nat.reduceBNe, Nat.reduceBEq, Int.reduceToNat, Int.reduceAdd, Int.reduceSub, Int.reduceMul, Int.reduceLT, Int.reduceLE, Int.reduceNeg, Int.reduceBEq, Int.reduceBNe, Int.reduceEq, beq_self_eq_true, reduceCtorEq, decide_true, decide_false, if_pos, if_neg]; first | done | omega))) only [go_sem, ↓reduceIte, Nat.reduceEqDiff, Nat.reduceAdd, Nat.reduceMul, Nat.reduceSub, Nat.reduceLT, Nat.reduceLeDiff, Nat.reduceBNe, Nat.reduceBEq, Int.reduceToNat, Int.reduceAdd, Int.reduceSub, Int.reduceMul, Int.reduceLT, Int.reduceLE, Int.reduceNeg, Int.reduceBEq, Int.reduceBNe, Int.reduceEq, beq_self_eq_true, reduceCtorEq, decide_true, decide_false, if_pos, if_neg, e, gr] <;> rfl) (by simp (disch := (first | omega | (simp only [go_sem, ↓reduceIte, Nat.reduceEqDiff, Nat.reduceAdd, Nat.reduceMul, Nat.reduceSub, Nat.reduceLT, Nat.reduceLeDiff, Nat.reduceBNe, Nat.reduceBEq, Int.reduceToNat, Int.reduceAdd, Int.reduceSub, Int.reduceMul, Int.reduceLT, Int.reduceLE, Int.reduceNeg, Int.reduceBEq, Int.reduceBNe, Int.reduceEq, beq_self_eq_true, reduceCtorEq, decide_true, decide_false, if_pos, if_neg]; first | done | omega))) only [go_sem, ↓reduceIte, Nat.reduceEqDiff, Nat.reduceAdd, Nat.reduceMul, Nat.reduceSub, Nat.reduceLT, Nat.reduceLeDiff, Nat.reduceBNe, Nat.reduceBEq, Int.reduceToNat, Int.reduceAdd, Int.reduceSub, Int.reduceMul, Int.reduceLT, Int.reduceLE, Int.reduceNeg, Int.reduceBEq, Int.reduceBNe, Int.reduceEq, beq_self_eq_true, reduceCtorEq, decide_true, decide_false, if_pos, if_neg, e, gr]))
      · simp only [decide_eq_true_eq, decide_eq_false_iff_not, Bool.or_eq_true, Bool.and_eq_true, Bool.or_eq_false_iff, Bool.and_eq_false_iff, Bool.not_eq_true', Bool.not_eq_false', bne_iff_ne, beq_iff_eq, ne_eq, bne_eq_false_iff_eq, beq_eq_false_iff_ne, ge_iff_le, gt_iff_lt, Int.not_le, Int.not_lt] at h
        have e : bend w a N z o d = (z, o, d) := by simp (disch := (first | omega | (simp only [go_sem, ↓reduceIte, Nat.reduceEqDiff, Nat.reduceAdd, Nat.reduceMul, Nat.reduceSub, Nat.reduceLT, Nat.reduceLeDiff, Nat.reduceBNe, Nat.reduceBEq, Int.reduceToNat, Int.reduceAdd, Int.reduceSub, Int.reduceMul, Int.reduceLT, Int.reduceLE, Int.reduceNeg, Int.reduceBEq, Int.reduceBNe, Int.reduceEq, beq_self_eq_true, reduceCtorEq, decide_true, decide_false, if_pos, if_neg]; first | done | omega))) only [go_sem, ↓reduceIte, Nat.reduceEqDiff, Nat.reduceAdd, Nat.reduceMul, Nat.reduceSub, Nat.reduceLT, Nat.reduceLeDiff, Nat.reduceBNe, Nat.reduceBEq, Int.reduceToNat, Int.reduceAdd, Int.reduceSub, Int.reduceMul, Int.reduceLT, Int.reduceLE, Int.reduceNeg, Int.reduceBEq, Int.reduceBNe, Int.reduceEq, beq_self_eq_true, reduceCtorEq, decide_true, decide_false, if_pos, if_neg, bend]
        refine go ?_
        refine R_ret (fin_data (by simp (disch := (first | omega | (simp only [go_sem, ↓reduceIte, Nat.reduceEqDiff, Nat.reduceAdd, Nat.reduceMul, Nat.reduceSub, Nat.reduceLT, Nat.reduceLeDiff, Nat.reduceBNe, Nat.reduceBEq, Int.reduceToNat, Int.reduceAdd, Int.reduceSub, Int.reduceMul, Int.reduceLT, Int.reduceLE, Int.reduceNeg, Int.reduceBEq, Int.reduceBNe, Int.reduceEq, beq_self_eq_true, reduceCtorEq, decide_true, decide_false, if_pos, if_neg]; first | done | omega))) only [go_sem, ↓reduceIte, Nat.reduceEqDiff, Nat.reduceAdd, Nat.reduceMul, Nat.reduceSub, Nat.reduceLT, Nat.reduceLeDiff, Nat.reduceBNe, Nat.reduceBEq, Int.reduceToNat, Int.reduceAdd, Int.reduceSub, Int.reduceMul, Int.reduceLT, Int.reduceLE, Int.reduceNeg, Int.reduceBEq, Int.reduceBNe, Int.reduceEq, beq_self_eq_true, reduceCtorEq, decide_true, decide_false, if_pos, if_neg, e, gr] <;> rfl) (by simp (disch := (first | omega | (simp only [go_sem, ↓reduceIte, Nat.reduceEqDiff, Nat.reduceAdd, Nat.reduceMul, Nat.reduceSub, Nat.reduceLT, Nat.reduceLeDiff, Nat.reduceBNe, Nat.reduceBEq, Int.reduceToNat, Int.reduceAdd, Int.reduceSub, Int.reduceMul, Int.reduceLT, Int.reduceLE, Int.reduceNeg, Int.reduceBEq, Int.reduceBNe, Int.reduceEq, beq_self_eq_true, reduceCtorEq, decide_true, decide_false, if_pos, if_neg]; first | done | omega))) only [go_sem, ↓reduceIte, Nat.reduceEqDiff, Nat.reduceAdd, Nat.reduceMul, Nat.reduceSub, Nat.reduceLT, Nat.reduceLeDiff, Nat.reduceBNe, Nat.reduceBEq, Int.reduceToNat, Int.reduceAdd, Int.reduceSub, Int.reduceMul, Int.reduceLT, Int.reduceLE, Int.reduceNeg, Int.reduceBEq, Int.reduceBNe, Int.reduceEq, beq_self_eq_true, reduceCtorEq, decide_true, decide_false, if_pos, if_neg, e, gr]))
    · simp only [decide_eq_true_eq, decide_eq_false_iff_not, Bool.or_eq_true, Bool.and_eq_true, Bool.or_eq_false_iff, Bool.and_eq_false_iff, Bool.not_eq_true', Bool.not_eq_false', bne_iff_ne, beq_iff_eq, ne_eq, bne_eq_false_iff_eq, beq_eq_false_iff_ne, ge_iff_le, gt_iff_lt, Int.not_le, Int.not_lt] at h
      have h1 := h
      refine go ?_
      refine cnd (fun h => ?_) (fun h => ?_)
      · simp only [decide_eq_true_eq, decide_eq_false_iff_not, Bool.or_eq_true, Bool.and_eq_true, Bool.or_eq_false_iff, Bool.and_eq_false_iff, Bool.not_eq_true', Bool.not_eq_false', bne_iff_ne, beq_iff_eq, ne_eq, bne_eq_false_iff_eq, beq_eq_false_iff_ne, ge_iff_le, gt_iff_lt, Int.not_le, Int.not_lt] at h
        refine go ?_
        refine cnd (fun h => ?_) (fun h => ?_)
        · simp only [decide_eq_true_eq, decide_eq_false_iff_not, Bool.or_eq_true, Bool.and_eq_true, Bool.or_eq_false_iff, Bool.and_eq_false_iff, Bool.not_eq_true', Bool.not_eq_false', bne_iff_ne, beq_iff_eq, ne_eq, bne_eq_false_iff_eq, beq_eq_false_iff_ne, ge_iff_le, gt_iff_lt, Int.not_le, Int.not_lt] at h
          have e : bend w a N z o d = (z, o, d.set (a % d.length) N) := by simp (disch := (first | omega | (simp only [go_sem, ↓reduceIte, Nat.reduceEqDiff, Nat.reduceAdd, Nat.reduceMul, Nat.reduceSub, Nat.reduceLT, Nat.reduceLeDiff, Nat.reduceBNe, Nat.reduceBEq, Int.reduceToNat, Int.reduceAdd, Int.reduceSub, Int.reduceMul, Int.reduceLT, Int.reduceLE, Int.reduceNeg, Int.reduceBEq, Int.reduceBNe, Int.reduceEq, beq_self_eq_true, reduceCtorEq, decide_true, decide_false, if_pos, if_neg]; first | done | omega))) only [go_sem, ↓reduceIte, Nat.reduceEqDiff, Nat.reduceAdd, Nat.reduceMul, Nat.reduceSub, Nat.reduceLT, Nat.reduceLeDiff, Nat.reduceBNe, Nat.reduceBEq, Int.reduceToNat, Int.reduceAdd, Int.reduceSub, Int.reduceMul, Int.reduceLT, Int.reduceLE, Int.reduceNeg, Int.reduceBEq, Int.reduceBNe, Int.reduceEq, beq_self_eq_true, reduceCtorEq, decide_true, decide_false, if_pos, if_neg, bend]
          have hm : a % d.length < d.length := Nat.mod_lt _ (by omega)
          have hz0 : (d.length : Int) ≠ 0 := by omega
          refine go ?_
          refine R_ret (fin_data (by simp (disch := (first | omega | (simp only [go_sem, ↓reduceIte, Nat.reduceEqDiff, Nat.reduceAdd, Nat.reduceMul, Nat.reduceSub, Nat.reduceLT, Nat.reduceLeDiff, Nat.reduceBNe, Nat.reduceBEq, Int.reduceToNat, Int.reduceAdd, Int.reduceSub, Int.reduceMul, Int.reduceLT, Int.reduceLE, Int.reduceNeg, Int.reduceBEq, Int.reduceBNe, Int.reduceEq, beq_self_eq_true, reduceCtorEq, decide_true, decide_false, if_pos, if_neg]; first | done | omega))) only [go_sem, ↓reduceIte, Nat.reduceEqDiff, Nat.reduceAdd, Nat.reduceMul, Nat.reduceSub, Nat.reduceLT, Nat.reduceLeDiff, Nat.reduceBNe, Nat.reduceBEq, Int.reduceToNat, Int.reduceAdd, Int.reduceSub, Int.reduceMul, Int.reduceLT, Int.reduceLE, Int.reduceNeg, Int.reduceBEq, Int.reduceBNe, Int.reduceEq, beq_self_eq_true, reduceCtorEq, decide_true, decide_false, if_pos, if_neg, e, gr] <;> rfl) (by simp (disch := (first | omega | (simp only [go_sem, ↓reduceIte, Nat.reduceEqDiff, Nat.reduceAdd, Nat.reduceMul, Nat.reduceSub, Nat.reduceLT, Nat.reduceLeDiff, Nat.reduceBNe, Nat.reduceBEq, Int.reduceToNat, Int.reduceAdd, Int.reduceSub, Int.reduceMul, Int.reduceLT, Int.reduceLE, Int.reduceNeg, Int.reduceBEq, Int.reduceBNe, Int.reduceEq, beq_self_eq_true, reduceCtorEq, decide_true, decide_false, if_pos, if_neg]; first | done | omega))) only [go_sem, ↓reduceIte, Nat.reduceEqDiff, Nat.reduceAdd, Nat.reduceMul, Nat.reduceSub, Nat.reduceLT, Nat.reduceLeDiff, Nat.reduceBNe, Nat.reduceBEq, Int.reduceToNat, Int.reduceAdd, Int.reduceSub, Int.reduceMul, Int.reduceLT, Int.reduceLE, Int.reduceNeg, Int.reduceBEq, Int.reduceBNe, Int.reduceEq, beq_self_eq_true, reduceCtorEq, decide_true, decide_false, if_pos, if_neg, e, gr]))
        · simp only [decide_eq_true_eq, decide_eq_false_iff_not, Bool.or_eq_true, Bool.and_eq_true, Bool.or_eq_false_iff, Bool.and_eq_false_iff, Bool.not_eq_true', Bool.not_eq_false', bne_iff_ne, beq_iff_eq, ne_eq, bne_eq_false_iff_eq, beq_eq_false_iff_ne, ge_iff_le, gt_iff_lt, Int.not_le, Int.not_lt] at h
          have e : bend w a N z o d = (z, o, d) := by simp (disch := (first | omega | (simp only [go_sem, ↓reduceIte, Nat.reduceEqDiff, Nat.reduceAdd, Nat.reduceMul, Nat.reduceSub, Nat.reduceLT, Nat.reduceLeDiff, Nat.reduceBNe, Nat.reduceBEq, Int.reduceToNat, Int.reduceAdd, Int.reduceSub, Int.reduceMul, Int.reduceLT, Int.reduceLE, Int.reduceNeg, Int.reduceBEq, Int.reduceBNe, Int.reduceEq, beq_self_eq_true, reduceCtorEq, decide_true, decide_false, if_pos, if_neg]; first | done | omega))) only [go_sem, ↓reduceIte, Nat.reduceEqDiff, Nat.reduceAdd, Nat.reduceMul, Nat.reduceSub, Nat.reduceLT, Nat.reduceLeDiff, Nat.reduceBNe, Nat.reduceBEq, Int.reduceToNat, Int.reduceAdd, Int.reduceSub, Int.reduceMul, Int.reduceLT, Int.reduceLE, Int.reduceNeg, Int.reduceBEq, Int.reduceBNe, Int.reduceEq, beq_self_eq_true, reduceCtorEq, decide_true, decide_false, if_pos, if_neg, bend]
          refine go ?_
          refine R_ret (fin_data (by simp (disch := (first | omega | (simp only [go_sem, ↓reduceIte, Nat.reduceEqDiff, Nat.reduceAdd, Nat.reduceMul, Nat.reduceSub, Nat.reduceLT, Nat.reduceLeDiff, Nat.reduceBNe, Nat.reduceBEq, Int.reduceToNat, Int.reduceAdd, Int.reduceSub, Int.reduceMul, Int.reduceLT, Int.reduceLE, Int.reduceNeg, Int.reduceBEq, Int.reduceBNe, Int.reduceEq, beq_self_eq_true, reduceCtorEq, decide_true, decide_false, if_pos, if_neg]; first | done | omega))) only [go_sem, ↓reduceIte, Nat.reduceEqDiff, Nat.reduceAdd, Nat.reduceMul, Nat.reduceSub, Nat.reduceLT, Nat.reduceLeDiff, Nat.reduceBNe, Nat.reduceBEq, Int.reduceToNat, Int.reduceAdd, Int.reduceSub, Int.reduceMul, Int.reduceLT, Int.reduceLE, Int.reduceNeg, Int.reduceBEq, Int.reduceBNe, Int.reduceEq, beq_self_eq_true, reduceCtorEq, decide_true, decide_false, if_pos, if_neg, e, gr] <;> rfl) (by simp (disch := (first | omega | (simp only [go_sem, ↓reduceIte, Nat.reduceEqDiff, Nat.reduceAdd, Nat.reduceMul, Nat.reduceSub, Nat.reduceLT, Nat.reduceLeDiff, Nat.reduceBNe, Nat.reduceBEq, Int.reduceToNat, Int.reduceAdd, Int.reduceSub, Int.reduceMul, Int.reduceLT, Int.reduceLE, Int.reduceNeg, Int.reduceBEq, Int.reduceBNe, Int.reduceEq, beq_self_eq_true, reduceCtorEq, decide_true, decide_false, if_pos, if_neg]; first | done | omega))) only [go_sem, ↓reduceIte, Nat.reduceEqDiff, Nat.reduceAdd, Nat.reduceMul, Nat.reduceSub, Nat.reduceLT, Nat.reduceLeDiff, Nat.reduceBNe, Nat.reduceBEq, Int.reduceToNat, Int.reduceAdd, Int.reduceSub, Int.reduceMul, Int.reduceLT, Int.reduceLE, Int.reduceNeg, Int.reduceBEq, Int.reduceBNe, Int.reduceEq, beq_self_eq_true, reduceCtorEq, decide_true, decide_false, if_pos, if_neg, e, gr]))
      · simp only [decide_eq_true_eq, decide_eq_false_iff_not, Bool.or_eq_true, Bool.and_eq_true, Bool.or_eq_false_iff, Bool.and_eq_false_iff, Bool.not_eq_true', Bool.not_eq_false', bne_iff_ne, beq_iff_eq, ne_eq, bne_eq_false_iff_eq, beq_eq_false_iff_ne, ge_iff_le, gt_iff_lt, Int.not_le, Int.not_lt] at h
        have h2 := h
        refine go ?_
        refine cnd (fun h => ?_) (fun h => ?_)
        · simp only [decide_eq_true_eq, decide_eq_false_iff_not, Bool.or_eq_true, Bool.and_eq_true, Bool.or_eq_false_iff, Bool.and_eq_false_iff, Bool.not_eq_true', Bool.not_eq_false', bne_iff_ne, beq_iff_eq, ne_eq, bne_eq_false_iff_eq, beq_eq_false_iff_ne, ge_iff_le, gt_iff_lt, Int.not_le, Int.not_lt] at h
          have e : bend w a N z o d = (z.take (a % 2), o, d) := by simp (disch := (first | omega | (simp only [go_sem, ↓reduceIte, Nat.reduceEqDiff, Nat.reduceAdd, Nat.reduceMul, Nat.reduceSub, Nat.reduceLT, Nat.reduceLeDiff, Nat.reduceBNe, Nat.reduceBEq, Int.reduceToNat, Int.reduceAdd, Int.reduceSub, Int.reduceMul, Int.reduceLT, Int.reduceLE, Int.reduceNeg, Int.reduceBEq, Int.reduceBNe, Int.reduceEq, beq_self_eq_true, reduceCtorEq, decide_true, decide_false, if_pos, if_neg]; first | done | omega))) only [go_sem, ↓reduceIte, Nat.reduceEqDiff, Nat.reduceAdd, Nat.reduceMul, Nat.reduceSub, Nat.reduceLT, Nat.reduceLeDiff, Nat.reduceBNe, Nat.reduceBEq, Int.reduceToNat, Int.reduceAdd, Int.reduceSub, Int.reduceMul, Int.reduceLT, Int.reduceLE, Int.reduceNeg, Int.reduceBEq, Int.reduceBNe, Int.reduceEq, beq_self_eq_true, reduceCtorEq, decide_true, decide_false, if_pos, if_neg, bend]
          refine go ?_
          refine R_ret (fin_data (by simp (disch := (first | omega | (simp only [go_sem, ↓reduceIte, Nat.reduceEqDiff, Nat.reduceAdd, Nat.reduceMul, Nat.reduceSub, Nat.reduceLT, Nat.reduceLeDiff, Nat.reduceBNe, Nat.reduceBEq, Int.reduceToNat, Int.reduceAdd, Int.reduceSub, Int.reduceMul, Int.reduceLT, Int.reduceLE, Int.reduceNeg, Int.reduceBEq, Int.reduceBNe, Int.reduceEq, beq_self_eq_true, reduceCtorEq, decide_true, decide_false, if_pos, if_neg]; first | done | omega))) only [go_sem, ↓reduceIte, Nat.reduceEqDiff, Nat.reduceAdd, Nat.reduceMul, Nat.reduceSub, Nat.reduceLT, Nat.reduceLeDiff, Nat.reduceBNe, Nat.reduceBEq, Int.reduceToNat, Int.reduceAdd, Int.reduceSub, Int.reduceMul, Int.reduceLT, Int.reduceLE, Int.reduceNeg, Int.reduceBEq, Int.reduceBNe, Int.reduceEq, beq_self_eq_true, reduceCtorEq, decide_true, decide_false, if_pos, if_neg, e, gr] <;> rfl) (by simp (disch := (first | omega | (simp only [go_sem, ↓reduceIte, Nat.reduceEqDiff, Nat.reduceAdd, Nat.reduceMul, Nat.reduceSub, Nat.reduceLT, Nat.reduceLeDiff, Nat.reduceBNe, Nat.reduceBEq, Int.reduceToNat, Int.reduceAdd, Int.reduceSub, Int.reduceMul, Int.reduceLT, Int.reduceLE, Int.reduceNeg, Int.reduceBEq, Int.reduceBNe, Int.reduceEq, beq_self_eq_true, reduceCtorEq, decide_true, decide_false, if_pos, if_neg]; first | done | omega))) only [go_sem, ↓reduceIte, Nat.reduceEqDiff, Nat.reduceAdd, Nat.reduceMul, Nat.reduceSub, Nat.reduceLT, Nat.reduceLeDiff, Nat.reduceBNe, Nat.reduceBEq, Int.reduceToNat, Int.reduceAdd, Int.reduceSub, Int.reduceMul, Int.reduceLT, Int.reduceLE, Int.reduceNeg, Int.reduceBEq, Int.reduceBNe, Int.reduceEq, beq_self_eq_true, reduceCtorEq, decide_true, decide_false, if_pos, if_neg, e, gr]))
        · simp only [decide_eq_true_eq, decide_eq_false_iff_not, Bool.or_eq_true, Bool.and_eq_true, Bool.or_eq_false_iff, Bool.and_eq_false_iff, Bool.not_eq_true', Bool.not_eq_false', bne_iff_ne, beq_iff_eq, ne_eq, bne_eq_false_iff_eq, beq_eq_false_iff_ne, ge_iff_le, gt_iff_lt, Int.not_le, Int.not_lt] at h
          have h3 := h
          refine go ?_
          refine cnd (fun h => ?_) (fun h => ?_)
          · simp only [decide_eq_true_eq, decide_eq_false_iff_not, Bool.or_eq_true, Bool.and_eq_true, Bool.or_eq_false_iff, Bool.and_eq_false_iff, Bool.not_eq_true', Bool.not_eq_false', bne_iff_ne, beq_iff_eq, ne_eq, bne_eq_false_iff_eq, beq_eq_false_iff_ne, ge_iff_le, gt_iff_lt, Int.not_le, Int.not_lt] at h
            have e : bend w a N z o d = (z ++ [2], o, d) := by simp (disch := (first | omega | (simp only [go_sem, ↓reduceIte, Nat.reduceEqDiff, Nat.reduceAdd, Nat.reduceMul, Nat.reduceSub, Nat.reduceLT, Nat.reduceLeDiff, Nat.reduceBNe, Nat.reduceBEq, Int.reduceToNat, Int.reduceAdd, Int.reduceSub, Int.reduceMul, Int.reduceLT, Int.reduceLE, Int.reduceNeg, Int.reduceBEq, Int.reduceBNe, Int.reduceEq, beq_self_eq_true, reduceCtorEq, decide_true, decide_false, if_pos, if_neg]; first | done | omega))) only [go_sem, ↓reduceIte, Nat.reduceEqDiff, Nat.reduceAdd, Nat.reduceMul, Nat.reduceSub, Nat.reduceLT, Nat.reduceLeDiff, Nat.reduceBNe, Nat.reduceBEq, Int.reduceToNat, Int.reduceAdd, Int.reduceSub, Int.reduceMul, Int.reduceLT, Int.reduceLE, Int.reduceNeg, Int.reduceBEq, Int.reduceBNe, Int.reduceEq, beq_self_eq_true, reduceCtorEq, decide_true, decide_false, if_pos, if_neg, bend]
            refine go ?_
            refine R_ret (fin_data (by simp (disch := (first | omega | (simp only [go_sem, ↓reduceIte, Nat.reduceEqDiff, Nat.reduceAdd, Nat.reduceMul, Nat.reduceSub, Nat.reduceLT, Nat.reduceLeDiff, Nat.reduceBNe, Nat.reduceBEq, Int.reduceToNat, Int.reduceAdd, Int.reduceSub, Int.reduceMul, Int.reduceLT, Int.reduceLE, Int.reduceNeg, Int.reduceBEq, Int.reduceBNe, Int.reduceEq, beq_self_eq_true, reduceCtorEq, decide_true, decide_false, if_pos, if_neg]; first | done | omega))) only [go_sem, ↓reduceIte, Nat.reduceEqDiff, Nat.reduceAdd, Nat.reduceMul, Nat.reduceSub, Nat.reduceLT, Nat.reduceLeDiff, Nat.reduceBNe, Nat.reduceBEq, Int.reduceToNat, Int.reduceAdd, Int.reduceSub, Int.reduceMul, Int.reduceLT, Int.reduceLE, Int.reduceNeg, Int.reduceBEq, Int.reduceBNe, Int.reduceEq, beq_self_eq_true, reduceCtorEq, decide_true, decide_false, if_pos, if_neg, e, gr] <;> rfl) (by simp (disch := (first | omega | (simp only [go_sem, ↓reduceIte, Nat.reduceEqDiff, Nat.reduceAdd, Nat.reduceMul, Nat.reduceSub, Nat.reduceLT, Nat.reduceLeDiff, Nat.reduceBNe, Nat.reduceBEq, Int.reduceToNat, Int.reduceAdd, Int.reduceSub, Int.reduceMul, Int.reduceLT, Int.reduceLE, Int.reduceNeg, Int.reduceBEq, Int.reduceBNe, Int.reduceEq, beq_self_eq_true, reduceCtorEq, decide_true, decide_false, if_pos, if_neg]; first | done | omega))) only [go_sem, ↓reduceIte, Nat.reduceEqDiff, Nat.reduceAdd, Nat.reduceMul, Nat.reduceSub, Nat.reduceLT, Nat.reduceLeDiff, Nat.reduceBNe, Nat.reduceBEq, Int.reduceToNat, Int.reduceAdd, Int.reduceSub, Int.reduceMul, Int.reduceLT, Int.reduceLE, Int.reduceNeg, Int.reduceBEq, Int.reduceBNe, Int.reduceEq, beq_self_eq_true, reduceCtorEq, decide_true, decide_false, if_pos, if_neg, e, gr]))
          · simp only [decide_eq_true_eq, decide_eq_false_iff_not, Bool.or_eq_true, Bool.and_eq_true, Bool.or_eq_false_iff, Bool.and_eq_false_iff, Bool.not_eq_true', Bool.not_eq_false', bne_iff_ne, beq_iff_eq, ne_eq, bne_eq_false_iff_eq, beq_eq_false_iff_ne, ge_iff_le, gt_iff_lt, Int.not_le, Int.not_lt] at h
            have h4 := h
            refine go ?_
            refine cnd (fun h => ?_) (fun h => ?_)
            · simp only [decide_eq_true_eq, decide_eq_false_iff_not, Bool.or_eq_true, Bool.and_eq_true, Bool.or_eq_false_iff, Bool.and_eq_false_iff, Bool.not_eq_true', Bool.not_eq_false', bne_iff_ne, beq_iff_eq, ne_eq, bne_eq_false_iff_eq, beq_eq_false_iff_ne, ge_iff_le, gt_iff_lt, Int.not_le, Int.not_lt] at h
              have e : bend w a N z o d = (z, o, d ++ [N]) := by simp (disch := (first | omega | (simp only [go_sem, ↓reduceIte, Nat.reduceEqDiff, Nat.reduceAdd, Nat.reduceMul, Nat.reduceSub, Nat.reduceLT, Nat.reduceLeDiff, Nat.reduceBNe, Nat.reduceBEq, Int.reduceToNat, Int.reduceAdd, Int.reduceSub, Int.reduceMul, Int.reduceLT, Int.reduceLE, Int.reduceNeg, Int.reduceBEq, Int.reduceBNe, Int.reduceEq, beq_self_eq_true, reduceCtorEq, decide_true, decide_false, if_pos, if_neg]; first | done | omega))) only [go_sem, ↓reduceIte, Nat.reduceEqDiff, Nat.reduceAdd, Nat.reduceMul, Nat.reduceSub, Nat.reduceLT, Nat.reduceLeDiff, Nat.reduceBNe, Nat.reduceBEq, Int.reduceToNat, Int.reduceAdd, Int.reduceSub, Int.reduceMul, Int.reduceLT, Int.reduceLE, Int.reduceNeg, Int.reduceBEq, Int.reduceBNe, Int.reduceEq, beq_self_eq_true, reduceCtorEq, decide_true, decide_false, if_pos, if_neg, bend]
              refine go ?_
              refine R_ret (fin_data (by simp (disch := (first | omega | (simp only [go_sem, ↓reduceIte, Nat.reduceEqDiff, Nat.reduceAdd, Nat.reduceMul, Nat.reduceSub, Nat.reduceLT, Nat.reduceLeDiff, Nat.reduceBNe, Nat.reduceBEq, Int.reduceToNat, Int.reduceAdd, Int.reduceSub, Int.reduceMul, Int.reduceLT, Int.reduceLE, Int.reduceNeg, Int.reduceBEq, Int.reduceBNe, Int.reduceEq, beq_self_eq_true, reduceCtorEq, decide_true, decide_false, if_pos, if_neg]; first | done | omega))) only [go_sem, ↓reduceIte, Nat.reduceEqDiff, Nat.reduceAdd, Nat.reduceMul, Nat.reduceSub, Nat.reduceLT, Nat.reduceLeDiff, Nat.reduceBNe, Nat.reduceBEq, Int.reduceToNat, Int.reduceAdd, Int.reduceSub, Int.reduceMul, Int.reduceLT, Int.reduceLE, Int.reduceNeg, Int.reduceBEq, Int.reduceBNe, Int.reduceEq, beq_self_eq_true, reduceCtorEq, decide_true, decide_false, if_pos, if_neg, e, gr] <;> rfl) (by simp (disch := (first | omega | (simp only [go_sem, ↓reduceIte, Nat.reduceEqDiff, Nat.reduceAdd, Nat.reduceMul, Nat.reduceSub, Nat.reduceLT, Nat.reduceLeDiff, Nat.reduceBNe, Nat.reduceBEq, Int.reduceToNat, Int.reduceAdd, Int.reduceSub, Int.reduceMul, Int.reduceLT, Int.reduceLE, Int.reduceNeg, Int.reduceBEq, Int.reduceBNe, Int.reduceEq, beq_self_eq_true, reduceCtorEq, decide_true, decide_false, if_pos, if_neg]; first | done | omega))) only [go_sem, ↓reduceIte, Nat.reduceEqDiff, Nat.reduceAdd, Nat.reduceMul, Nat.reduceSub, Nat.reduceLT, Nat.reduceLeDiff, Nat.reduceBNe, Nat.reduceBEq, Int.reduceToNat, Int.reduceAdd, Int.reduceSub, Int.reduceMul, Int.reduceLT, Int.reduceLE, Int.reduceNeg, Int.reduceBEq, Int.reduceBNe, Int.reduceEq, beq_self_eq_true, reduceCtorEq, decide_true, decide_false, if_pos, if_neg, e, gr]))
            · simp only [decide_eq_true_eq, decide_eq_false_iff_not, Bool.or_eq_true, Bool.and_eq_true, Bool.or_eq_false_iff, Bool.and_eq_false_iff, Bool.not_eq_true', Bool.not_eq_false', bne_iff_ne, beq_iff_eq, ne_eq, bne_eq_false_iff_eq, beq_eq_false_iff_ne, ge_iff_le, gt_iff_lt, Int.not_le, Int.not_lt] at h
              have h5 := h
              refine go ?_
              refine cnd (fun h => ?_) (fun h => ?_)
              · simp only [decide_eq_true_eq, decide_eq_false_iff_not, Bool.or_eq_true, Bool.and_eq_true, Bool.or_eq_false_iff, Bool.and_eq_false_iff, Bool.not_eq_true', Bool.not_eq_false', bne_iff_ne, beq_iff_eq, ne_eq, bne_eq_false_iff_eq, beq_eq_false_iff_ne, ge_iff_le, gt_iff_lt, Int.not_le, Int.not_lt] at h
                have e : bend w a N z o d = (twos z (4 + a % 2 - z.length), o, grow d (4 + a % 2 - z.length)) := by simp (disch := (first | omega | (simp only [go_sem, ↓reduceIte, Nat.reduceEqDiff, Nat.reduceAdd, Nat.reduceMul, Nat.reduceSub, Nat.reduceLT, Nat.reduceLeDiff, Nat.reduceBNe, Nat.reduceBEq, Int.reduceToNat, Int.reduceAdd, Int.reduceSub, Int.reduceMul, Int.reduceLT, Int.reduceLE, Int.reduceNeg, Int.reduceBEq, Int.reduceBNe, Int.reduceEq, beq_self_eq_true, reduceCtorEq, decide_true, decide_false, if_pos, if_neg]; first | done | omega))) only [go_sem, ↓reduceIte, Nat.reduceEqDiff, Nat.reduceAdd, Nat.reduceMul, Nat.reduceSub, Nat.reduceLT, Nat.reduceLeDiff, Nat.reduceBNe, Nat.reduceBEq, Int.reduceToNat, Int.reduceAdd, Int.reduceSub, Int.reduceMul, Int.reduceLT, Int.reduceLE, Int.reduceNeg, Int.reduceBEq, Int.reduceBNe, Int.reduceEq, beq_self_eq_true, reduceCtorEq, decide_true, decide_false, if_pos, if_neg, bend]
                refine go ?_
                refine R_loop (fun k : Nat => ⟨tl [(2, .pt 0 0), (3, .pt 1 0), (4, .pt 2 0), (5, .sc (.int .i64 a))],
                    ol [(0, ⟨[.sc (.int .u8 w), .sc (.int .u8 a), .sc (.int .i64 N)], 30, 0, false⟩), (1, ⟨[.rf 3 0 (twos z k).length 1, .sc (.int .i64 o), .rf 4 0 (grow d k).length 1], 24, 0, false⟩), (2, ⟨[.em, .sc (.int .i64 0), .em], 24, 0, false⟩), (3, ⟨ints .i64 (twos z k), 3, 1, false⟩), (4, ⟨ints .i64 (grow d k), 3, 1, false⟩)], 5, [], 105⟩)
                  (fun k => k ≤ 4 + a % 2 - z.length) (fun k => 5 - k) 0 [0, 1, 2, 3, 4] (Less.mk' (by simp (disch := (first | omega | (simp only [go_sem, ↓reduceIte, Nat.reduceEqDiff, Nat.reduceAdd, Nat.reduceMul, Nat.reduceSub, Nat.reduceLT, Nat.reduceLeDiff, Nat.reduceBNe, Nat.reduceBEq, Int.reduceToNat, Int.reduceAdd, Int.reduceSub, Int.reduceMul, Int.reduceLT, Int.reduceLE, Int.reduceNeg, Int.reduceBEq, Int.reduceBNe, Int.reduceEq, beq_self_eq_true, reduceCtorEq, decide_true, decide_false, if_pos, if_neg]; first | done | omega))) only [go_sem, ↓reduceIte, Nat.reduceEqDiff, Nat.reduceAdd, Nat.reduceMul, Nat.reduceSub, Nat.reduceLT, Nat.reduceLeDiff, Nat.reduceBNe, Nat.reduceBEq, Int.reduceToNat, Int.reduceAdd, Int.reduceSub, Int.reduceMul, Int.reduceLT, Int.reduceLE, Int.reduceNeg, Int.reduceBEq, Int.reduceBNe, Int.reduceEq, beq_self_eq_true, reduceCtorEq, decide_true, decide_false, if_pos, if_neg, twos, grow]) (by simp (disch := (first | omega | (simp only [go_sem, ↓reduceIte, Nat.reduceEqDiff, Nat.reduceAdd, Nat.reduceMul, Nat.reduceSub, Nat.reduceLT, Nat.reduceLeDiff, Nat.reduceBNe, Nat.reduceBEq, Int.reduceToNat, Int.reduceAdd, Int.reduceSub, Int.reduceMul, Int.reduceLT, Int.reduceLE, Int.reduceNeg, Int.reduceBEq, Int.reduceBNe, Int.reduceEq, beq_self_eq_true, reduceCtorEq, decide_true, decide_false, if_pos, if_neg]; first | done | omega))) only [go_sem, ↓reduceIte, Nat.reduceEqDiff, Nat.reduceAdd, Nat.reduceMul, Nat.reduceSub, Nat.reduceLT, Nat.reduceLeDiff, Nat.reduceBNe, Nat.reduceBEq, Int.reduceToNat, Int.reduceAdd, Int.reduceSub, Int.reduceMul, Int.reduceLT, Int.reduceLE, Int.reduceNeg, Int.reduceBEq, Int.reduceBNe, Int.reduceEq, beq_self_eq_true, reduceCtorEq, decide_true, decide_false, if_pos, if_neg, twos, grow]) (by decide) (by decide)) (by omega) fun k hk => ?_
                have ht := twos_length z k
                have hg := grow_length d hd k
                refine go ?_
                refine cnd (fun h => ?_) (fun h => ?_)
                · simp only [decide_eq_true_eq, decide_eq_false_iff_not, Bool.or_eq_true, Bool.and_eq_true, Bool.or_eq_false_iff, Bool.and_eq_false_iff, Bool.not_eq_true', Bool.not_eq_false', bne_iff_ne, beq_iff_eq, ne_eq, bne_eq_false_iff_eq, beq_eq_false_iff_ne, ge_iff_le, gt_iff_lt, Int.not_le, Int.not_lt] at h
                  refine go ?_
                  refine R_nilR ⟨[0, 1, 2, 6, 7], _, ?_, k + 1, by omega, by omega, rfl⟩
                  exact Less.mk' (by simp (disch := (first | omega | (simp only [go_sem, ↓reduceIte, Nat.reduceEqDiff, Nat.reduceAdd, Nat.reduceMul, Nat.reduceSub, Nat.reduceLT, Nat.reduceLeDiff, Nat.reduceBNe, Nat.reduceBEq, Int.reduceToNat, Int.reduceAdd, Int.reduceSub, Int.reduceMul, Int.reduceLT, Int.reduceLE, Int.reduceNeg, Int.reduceBEq, Int.reduceBNe, Int.reduceEq, beq_self_eq_true, reduceCtorEq, decide_true, decide_false, if_pos, if_neg]; first | done | omega))) only [go_sem, ↓reduceIte, Nat.reduceEqDiff, Nat.reduceAdd, Nat.reduceMul, Nat.reduceSub, Nat.reduceLT, Nat.reduceLeDiff, Nat.reduceBNe, Nat.reduceBEq, Int.reduceToNat, Int.reduceAdd, Int.reduceSub, Int.reduceMul, Int.reduceLT, Int.reduceLE, Int.reduceNeg, Int.reduceBEq, Int.reduceBNe, Int.reduceEq, beq_self_eq_true, reduceCtorEq, decide_true, decide_false, if_pos, if_neg, twos, grow, ints_cons, Nat.add_comm]) (by simp (disch := (first | omega | (simp only [go_sem, ↓reduceIte, Nat.reduceEqDiff, Nat.reduceAdd, Nat.reduceMul, Nat.reduceSub, Nat.reduceLT, Nat.reduceLeDiff, Nat.reduceBNe, Nat.reduceBEq, Int.reduceToNat, Int.reduceAdd, Int.reduceSub, Int.reduceMul, Int.reduceLT, Int.reduceLE, Int.reduceNeg, Int.reduceBEq, Int.reduceBNe, Int.reduceEq, beq_self_eq_true, reduceCtorEq, decide_true, decide_false, if_pos, if_neg]; first | done | omega))) only [go_sem, ↓reduceIte, Nat.reduceEqDiff, Nat.reduceAdd, Nat.reduceMul, Nat.reduceSub, Nat.reduceLT, Nat.reduceLeDiff, Nat.reduceBNe, Nat.reduceBEq, Int.reduceToNat, Int.reduceAdd, Int.reduceSub, Int.reduceMul, Int.reduceLT, Int.reduceLE, Int.reduceNeg, Int.reduceBEq, Int.reduceBNe, Int.reduceEq, beq_self_eq_true, reduceCtorEq, decide_true, decide_false, if_pos, if_neg, twos, grow, ints_cons, Nat.add_comm]) (by decide) (by decide)
                · simp only [decide_eq_true_eq, decide_eq_false_iff_not, Bool.or_eq_true, Bool.and_eq_true, Bool.or_eq_false_iff, Bool.and_eq_false_iff, Bool.not_eq_true', Bool.not_eq_false', bne_iff_ne, beq_iff_eq, ne_eq, bne_eq_false_iff_eq, beq_eq_false_iff_ne, ge_iff_le, gt_iff_lt, Int.not_le, Int.not_lt] at h
                  obtain rfl : k = 4 + a % 2 - z.length := by omega
                  refine go ?_
                  refine R_ret (fin_data (by simp (disch := (first | omega | (simp only [go_sem, ↓reduceIte, Nat.reduceEqDiff, Nat.reduceAdd, Nat.reduceMul, Nat.reduceSub, Nat.reduceLT, Nat.reduceLeDiff, Nat.reduceBNe, Nat.reduceBEq, Int.reduceToNat, Int.reduceAdd, Int.reduceSub, Int.reduceMul, Int.reduceLT, Int.reduceLE, Int.reduceNeg, Int.reduceBEq, Int.reduceBNe, Int.reduceEq, beq_self_eq_true, reduceCtorEq, decide_true, decide_false, if_pos, if_neg]; first | done | omega))) only [go_sem, ↓reduceIte, Nat.reduceEqDiff, Nat.reduceAdd, Nat.reduceMul, Nat.reduceSub, Nat.reduceLT, Nat.reduceLeDiff, Nat.reduceBNe, Nat.reduceBEq, Int.reduceToNat, Int.reduceAdd, Int.reduceSub, Int.reduceMul, Int.reduceLT, Int.reduceLE, Int.reduceNeg, Int.reduceBEq, Int.reduceBNe, Int.reduceEq, beq_self_eq_true, reduceCtorEq, decide_true, decide_false, if_pos, if_neg, e, gr] <;> rfl) (by simp (disch := (first | omega | (simp only [go_sem, ↓reduceIte, Nat.reduceEqDiff, Nat.reduceAdd, Nat.reduceMul, Nat.reduceSub, Nat.reduceLT, Nat.reduceLeDiff, Nat.reduceBNe, Nat.reduceBEq, Int.reduceToNat, Int.reduceAdd, Int.reduceSub, Int.reduceMul, Int.reduceLT, Int.reduceLE, Int.reduceNeg, Int.reduceBEq, Int.reduceBNe, Int.reduceEq, beq_self_eq_true, reduceCtorEq, decide_true, decide_false, if_pos, if_neg]; first | done | omega))) only [go_sem, ↓reduceIte, Nat.reduceEqDiff, Nat.reduceAdd, Nat.reduceMul, Nat.reduceSub, Nat.reduceLT, Nat.reduceLeDiff, Nat.reduceBNe, Nat.reduceBEq, Int.reduceToNat, Int.reduceAdd, Int.reduceSub, Int.reduceMul, Int.reduceLT, Int.reduceLE, Int.reduceNeg, Int.reduceBEq, Int.reduceBNe, Int.reduceEq, beq_self_eq_true, reduceCtorEq, decide_true, decide_false, if_pos, if_neg, e, gr]))
              · simp only [decide_eq_true_eq, decide_eq_false_iff_not, Bool.or_eq_true, Bool.and_eq_true, Bool.or_eq_false_iff, Bool.and_eq_false_iff, Bool.not_eq_true', Bool.not_eq_false', bne_iff_ne, beq_iff_eq, ne_eq, bne_eq_false_iff_eq, beq_eq_false_iff_ne, ge_iff_le, gt_iff_lt, Int.not_le, Int.not_lt] at h
                have e : bend w a N z o d = (z, o, d) := by simp (disch := (first | omega | (simp only [go_sem, ↓reduceIte, Nat.reduceEqDiff, Nat.reduceAdd, Nat.reduceMul, Nat.reduceSub, Nat.reduceLT, Nat.reduceLeDiff, Nat.reduceBNe, Nat.reduceBEq, Int.reduceToNat, Int.reduceAdd, Int.reduceSub, Int.reduceMul, Int.reduceLT, Int.reduceLE, Int.reduceNeg, Int.reduceBEq, Int.reduceBNe, Int.reduceEq, beq_self_eq_true, reduceCtorEq, decide_true, decide_false, if_pos, if_neg]; first | done | omega))) only [go_sem, ↓reduceIte, Nat.reduceEqDiff, Nat.reduceAdd, Nat.reduceMul, Nat.reduceSub, Nat.reduceLT, Nat.reduceLeDiff, Nat.reduceBNe, Nat.reduceBEq, Int.reduceToNat, Int.reduceAdd, Int.reduceSub, Int.reduceMul, Int.reduceLT, Int.reduceLE, Int.reduceNeg, Int.reduceBEq, Int.reduceBNe, Int.reduceEq, beq_self_eq_true, reduceCtorEq, decide_true, decide_false, if_pos, if_neg, bend]
                refine go ?_
                refine R_ret (fin_data (by simp (disch := (first | omega | (simp only [go_sem, ↓reduceIte, Nat.reduceEqDiff, Nat.reduceAdd, Nat.reduceMul, Nat.reduceSub, Nat.reduceLT, Nat.reduceLeDiff, Nat.reduceBNe, Nat.reduceBEq, Int.reduceToNat, Int.reduceAdd, Int.reduceSub, Int.reduceMul, Int.reduceLT, Int.reduceLE, Int.reduceNeg, Int.reduceBEq, Int.reduceBNe, Int.reduceEq, beq_self_eq_true, reduceCtorEq, decide_true, decide_false, if_pos, if_neg]; first | done | omega))) only [go_sem, ↓reduceIte, Nat.reduceEqDiff, Nat.reduceAdd, Nat.reduceMul, Nat.reduceSub, Nat.reduceLT, Nat.reduceLeDiff, Nat.reduceBNe, Nat.reduceBEq, Int.reduceToNat, Int.reduceAdd, Int.reduceSub, Int.reduceMul, Int.reduceLT, Int.reduceLE, Int.reduceNeg, Int.reduceBEq, Int.reduceBNe, Int.reduceEq, beq_self_eq_true, reduceCtorEq, decide_true, decide_false, if_pos, if_neg, e, gr] <;> rfl) (by simp (disch := (first | omega | (simp only [go_sem, ↓reduceIte, Nat.reduceEqDiff, Nat.reduceAdd, Nat.reduceMul, Nat.reduceSub, Nat.reduceLT, Nat.reduceLeDiff, Nat.reduceBNe, Nat.reduceBEq, Int.reduceToNat, Int.reduceAdd, Int.reduceSub, Int.reduceMul, Int.reduceLT, Int.reduceLE, Int.reduceNeg, Int.reduceBEq, Int.reduceBNe, Int.reduceEq, beq_self_eq_true, reduceCtorEq, decide_true, decide_false, if_pos, if_neg]; first | done | omega))) only [go_sem, ↓reduceIte, Nat.reduceEqDiff, Nat.reduceAdd, Nat.reduceMul, Nat.reduceSub, Nat.reduceLT, Nat.reduceLeDiff, Nat.reduceBNe, Nat.reduceBEq, Int.reduceToNat, Int.reduceAdd, Int.reduceSub, Int.reduceMul, Int.reduceLT, Int.reduceLE, Int.reduceNeg, Int.reduceBEq, Int.reduceBNe, Int.reduceEq, beq_self_eq_true, reduceCtorEq, decide_true, decide_false, if_pos, if_neg, e, gr]))

theorem con32 (w : Int) (a : Nat) (N : Int) (sz : List Int) (o : Int) (da : List Int) (ha : a ≤ 255) : ∃ (sz' : List Int) (o' : Int) (da' : List Int), Con Try.prog 32 [bd w a N, gr sz o da] (gr sz' o' da') [] := by
  refine ⟨_, _, _, con32z w a N sz o da (sz.take 8) (da.take 5000) ha (by simp; omega) (by simp; omega) ?_⟩
  have := con33 sz o da
  simp only [List.length_take]
  rwa [Nat.min_comm 8, Nat.min_comm 5000]
end Go.Proofs.Ytndigibhmfegaaa.V

/-
  Four grids.
-/
set_option linter.unusedSimpArgs false
set_option linter.unusedVariables false
set_option maxHeartbeats 4000000
namespace Go.Proofs.Ytndigibhmfegaaa.V
open Go Go.Proofs Go.RowKit

theorem con33D (sz : List Int) (o : Int) (da : List Int) : Con Try.prog 33 [gr sz o da] (gr (sz.take 8) o (da.take 5000)) [] := by
  have := Con.frozen 5 (con33 sz o da)
  rw [show gr (sz.take 8) o (da.take 5000) = _ from ?_]
  · exact this
  · simp only [List.length_take, Nat.min_comm 8, Nat.min_comm 5000, gr]
    simp (disch := (first | omega | (simp only [go_sem, ↓reduceIte, Nat.reduceEqDiff, Nat.reduceAdd, Nat.reduceMul, Nat.reduceSub, Nat.reduceLT, Nat.reduceLeDiff, Nat.reduceBNe, Nat.reduceBEq, Int.reduceToNat, Int.reduceAdd, Int.reduceSub, Int.reduceMul, Int.reduceLT, Int.reduceLE, Int.reduceNeg, Int.reduceBEq, Int.reduceBNe, Int.reduceEq, beq_self_eq_true, reduceCtorEq, decide_true, decide_false, if_pos, if_neg]; first | done | omega))) only [go_sem, ↓reduceIte, Nat.reduceEqDiff, Nat.reduceAdd, Nat.reduceMul, Nat.reduceSub, Nat.reduceLT, Nat.reduceLeDiff, Nat.reduceBNe, Nat.reduceBEq, Int.reduceToNat, Int.reduceAdd, Int.reduceSub, Int.reduceMul, Int.reduceLT, Int.reduceLE, Int.reduceNeg, Int.reduceBEq, Int.reduceBNe, Int.reduceEq, beq_self_eq_true, reduceCtorEq, decide_true, decide_false, if_pos, if_neg]
theorem con11 (sz : List Int) (o : Int) (da S : List Int) (o1 : Int) (V : List Int) (sm : Bool) (w1 : Int) (a1 : Nat) (N1 w2 : Int) (a2 : Nat) (N2 : Int) (h1 : a1 ≤ 255) (h2 : a2 ≤ 255) (hS : Bd 255 S) (ho : 0 ≤ o1 ∧ o1 ≤ 255) (hV : Bd 65535 V) :
    ∃ (z2 : List Int) (p2 : Int) (d2 z3 : List Int) (p3 : Int) (d3 z4 : List Int) (p4 : Int) (d4 : List Int), Con Try.prog 11 [gr sz o da, dr S o1 V sm, .ag [.sc (.int .u8 w1), .sc (.int .u8 a1), .sc (.int .i64 N1), .sc (.int .u8 w2), .sc (.int .u8 a2), .sc (.int .i64 N2)]]
      (.ag [.sl (dsz S).length (ints .i64 (dsz S)), .sc (.int .i64 (dout o1)), .sl (ddat S o1 V sm).length (ints .i64 (ddat S o1 V sm)), .sl z2.length (ints .i64 z2), .sc (.int .i64 p2), .sl d2.length (ints .i64 d2), .sl z3.length (ints .i64 z3), .sc (.int .i64 p3), .sl d3.length (ints .i64 d3), .sl z4.length (ints .i64 z4), .sc (.int .i64 p4), .sl d4.length (ints .i64 d4)]) [] := by
  have c23 := con23 S o1 V sm hS ho hV
  obtain ⟨z2, p2, d2, c2⟩ := con32 w1 a1 N1 (dsz S) (dout o1) (ddat S o1 V sm) h1
  obtain ⟨z3, p3, d3, c3⟩ := con32 w2 a2 N2 z2 p2 d2 h2
  refine ⟨z2, p2, d2, z3, p3, d3, sz.take 8, o, da.take 5000, ?_⟩
  have c33 := con33D sz o da
  refine Con.of_bodyD [(0, gr sz o da), (1, dr S o1 V sm), (2, .ag [.sc (.int .u8 w1), .sc (.int .u8 a1), .sc (.int .i64 N1), .sc (.int .u8 w2), .sc (.int .u8 a2), .sc (.int .i64 N2)])] Try.func11 rfl ca11 24 rfl (by simp) rfl ?_; refine T_of_R ?_
  refine go ?_
  refine callf (c23) ?_
  refine go ?_
  refine callf (c2) ?_
  refine go ?_
  refine callf (c3) ?_
  refine go ?_
  refine callf (c33) ?_
  refine go ?_
  refine R_ret (fin_data (by simp (disch := (first | omega | (simp only [go_sem, ↓reduceIte, Nat.reduceEqDiff, Nat.reduceAdd, Nat.reduceMul, Nat.reduceSub, Nat.reduceLT, Nat.reduceLeDiff, Nat.reduceBNe, Nat.reduceBEq, Int.reduceToNat, Int.reduceAdd, Int.reduceSub, Int.reduceMul, Int.reduceLT, Int.reduceLE, Int.reduceNeg, Int.reduceBEq, Int.reduceBNe, Int.reduceEq, beq_self_eq_true, reduceCtorEq, decide_true, decide_false, if_pos, if_neg]; first | done | omega))) only [go_sem, ↓reduceIte, Nat.reduceEqDiff, Nat.reduceAdd, Nat.reduceMul, Nat.reduceSub, Nat.reduceLT, Nat.reduceLeDiff, Nat.reduceBNe, Nat.reduceBEq, Int.reduceToNat, Int.reduceAdd, Int.reduceSub, Int.reduceMul, Int.reduceLT, Int.reduceLE, Int.reduceNeg, Int.reduceBEq, Int.reduceBNe, Int.reduceEq, beq_self_eq_true, reduceCtorEq, decide_true, decide_false, if_pos, if_neg] <;> rfl) (by simp (disch := (first | omega | (simp only [go_sem, ↓reduceIte, Nat.reduceEqDiff, Nat.reduceAdd, Nat.reduceMul, Nat.reduceSub, Nat.reduceLT, Nat.reduceLeDiff, Nat.reduceBNe, Nat.reduceBEq, Int.reduceToNat, Int.reduceAdd, Int.reduceSub, Int.reduceMul, Int.reduceLT, Int.reduceLE, Int.reduceNeg, Int.reduceBEq, Int.reduceBNe, Int.reduceEq, beq_self_eq_true, reduceCtorEq, decide_true, decide_false, if_pos, if_neg]; first | done | omega))) only [go_sem, ↓reduceIte, Nat.reduceEqDiff, Nat.reduceAdd, Nat.reduceMul, Nat.reduceSub, Nat.reduceLT, Nat.reduceLeDiff, Nat.reduceBNe, Nat.reduceBEq, Int.reduceToNat, Int.reduceAdd, Int.reduceSub, Int.reduceMul, Int.reduceLT, Int.reduceLE, Int.reduceNeg, Int.reduceBEq, Int.reduceBNe, Int.reduceEq, beq_self_eq_true, reduceCtorEq, decide_true, decide_false, if_pos, if_neg]))
end Go.Proofs.Ytndigibhmfegaaa.V

/-
  Places and numbers of points, plain.
-/
set_option linter.unusedSimpArgs false
set_option linter.unusedVariables false
namespace Go.Proofs.Ytndigibhmfegaaa.V
open Go Go.Proofs Go.RowKit

theorem plW_pv {sz xs : List Int} (h4 : sz.length ≤ 4) (hs : Sz sz) (hv : Valid sz xs sz.length) : ∀ n, n ≤ sz.length → plW sz xs n = pv sz xs n
  | 0, _ => rfl
  | n + 1, h => by
    have ih := plW_pv h4 hs hv n (by omega)
    have h1 := pv_range (sz := sz) (ps := xs) n (fun i hi => (hs i (by omega)).1) fun i hi => hv i (by omega)
    have h2 := Pi_4 h4 hs n (by omega)
    have h3 := hs n (by omega)
    have h5 := hv n (by omega)
    have m1 : 0 ≤ pv sz xs n * sz.getD n 0 := Int.mul_nonneg h1.1 (by omega)
    have m2 : pv sz xs n * sz.getD n 0 ≤ 6561 * 9 := Int.mul_le_mul (by omega) h3.2 (by omega) (by omega)
    simp only [plW, pv, ih]
    rw [wrap64 (n := pv sz xs n * sz.getD n 0) (by omega) (by omega), wrap64 (by omega) (by omega)]
theorem Inx.valid {sz xs : List Int} (h : Inx sz xs) : Valid sz xs sz.length := fun i hi => by have := h.2 i hi; omega
theorem Right.len {sz : List Int} {o : Int} {da : List Int} (h : Right sz o da) : (da.length : Int) = points sz * o := by
  obtain ⟨h1, h4, o1, o4, hs, hl, hd, _⟩ := h
  have hp := points_le h4 hs
  have m1 : 0 ≤ (points sz : Int) * o := Int.mul_nonneg (by omega) (by omega)
  have m2 : (points sz : Int) * o ≤ 6561 * 4 := Int.mul_le_mul (by omega) o4 (by omega) (by omega)
  rw [hl, prodW_points h4 hs, wrap64 (by omega) (by omega)]
/-- The place of a valid index. -/
theorem place_ok {sz : List Int} {o : Int} {da xs : List Int} (h : Right sz o da) (hv : Valid sz xs sz.length) :
    IntKind.i64.wrap (plW sz xs sz.length * o) = ((pv sz xs sz.length).toNat * o.toNat : Nat) ∧ (pv sz xs sz.length).toNat < points sz ∧ (((pv sz xs sz.length).toNat * o.toNat : Nat) : Int) + o ≤ da.length := by
  have hl := h.len
  obtain ⟨h1, h4, o1, o4, hs, _, hd, _⟩ := h
  have hp := points_eq fun i hi => (hs i hi).1
  obtain ⟨p1, p2, _⟩ := pv_range (sz := sz) (ps := xs) sz.length (fun i hi => (hs i hi).1) hv
  have hb := points_le h4 hs
  rw [plW_pv h4 hs hv _ (Nat.le_refl _)]
  obtain ⟨k, hk⟩ : ∃ k : Nat, pv sz xs sz.length = k := ⟨(pv sz xs sz.length).toNat, by omega⟩
  obtain ⟨m, hm⟩ : ∃ m : Nat, o = m := ⟨o.toNat, by omega⟩
  subst hm
  rw [hk, Int.toNat_natCast, Int.toNat_natCast]
  have hkp : k < points sz := by omega
  have hle : k * m + m ≤ points sz * m := by
    have := Nat.mul_le_mul_right m (show k + 1 ≤ points sz by omega)
    rwa [Nat.add_mul, Nat.one_mul] at this
  have hle2 : points sz * m ≤ 6561 * 4 := Nat.mul_le_mul hb.2 (by omega)
  refine ⟨?_, hkp, ?_⟩
  · rw [← Int.natCast_mul, wrap64 (by omega) (by omega)]
  · rw [hl, ← Int.natCast_mul]; omega
theorem pv_inj {sz ps qs : List Int} : ∀ n, Valid sz ps n → Valid sz qs n → pv sz ps n = pv sz qs n → ∀ i, i < n → ps.getD i 0 = qs.getD i 0
  | 0, _, _, _, i, hi => by omega
  | n + 1, hp, hq, he, i, hi => by
    have p1 := hp n (by omega)
    have q1 := hq n (by omega)
    simp only [pv] at he
    have e1 : pv sz ps n = pv sz qs n := by
      have h1 : (pv sz ps n * sz.getD n 0 + ps.getD n 0) / sz.getD n 0 = pv sz ps n := by
        rw [Int.mul_comm, Int.mul_add_ediv_left _ _ (by omega), Int.ediv_eq_zero_of_lt (by omega) (by omega)]; omega
      have h2 : (pv sz qs n * sz.getD n 0 + qs.getD n 0) / sz.getD n 0 = pv sz qs n := by
        rw [Int.mul_comm, Int.mul_add_ediv_left _ _ (by omega), Int.ediv_eq_zero_of_lt (by omega) (by omega)]; omega
      rw [← h1, ← h2, he]
    rcases Nat.lt_or_ge i n with h | h
    · exact pv_inj n (fun j hj => hp j (by omega)) (fun j hj => hq j (by omega)) e1 i h
    · obtain rfl : i = n := by omega
      rw [e1] at he
      omega

theorem outD_at (sz : List Int) (n : Int) : ∀ j, j ≤ sz.length → ∀ i, (outD sz n j).getD i 0 = if sz.length - j ≤ i ∧ i < sz.length then (qn sz n (sz.length - 1 - i)).tmod (sz.getD i 0) else 0
  | 0, _, i => by
    simp only [outD, List.getD_eq_getElem?_getD, List.getElem?_replicate]
    rw [if_neg (by omega : ¬ (sz.length - 0 ≤ i ∧ i < sz.length))]
    split <;> simp
  | j + 1, hj, i => by
    simp only [outD]
    rw [getD_set _ _ _ _ (by rw [outD_length]; omega), outD_at sz n j (by omega) i]
    by_cases e : sz.length - 1 - j = i
    · rw [if_pos e, if_pos (by omega)]
      rw [show sz.length - 1 - i = j by omega, e]
    · rw [if_neg e]
      by_cases h : sz.length - j ≤ i ∧ i < sz.length
      · rw [if_pos h, if_pos (by omega)]
      · rw [if_neg h, if_neg (by omega)]
theorem qn_lt {sz : List Int} {n : Int} (hs : Sz sz) (hn : 0 ≤ n) (hN : n ≤ Pi sz sz.length - 1) : ∀ j, j ≤ sz.length → qn sz n j ≤ Pi sz (sz.length - j) - 1
  | 0, _ => by simpa [qn] using hN
  | j + 1, hj => by
    have ih := qn_lt hs hn hN j (by omega)
    have h0 := (qn_bd hs hn j (by omega)).1
    have h1 := hs (sz.length - 1 - j) (by omega)
    have e : Pi sz (sz.length - j) = Pi sz (sz.length - (j + 1)) * sz.getD (sz.length - 1 - j) 0 := by
      rw [show sz.length - j = (sz.length - (j + 1)) + 1 by omega]
      simp only [Pi]
      rw [show sz.length - (j + 1) = sz.length - 1 - j by omega]
    simp only [qn]
    rw [Int.tdiv_eq_ediv_of_nonneg h0]
    have : qn sz n j / sz.getD (sz.length - 1 - j) 0 < Pi sz (sz.length - (j + 1)) := Int.ediv_lt_of_lt_mul (by omega) (by omega)
    omega
theorem outD_spec {sz : List Int} {n : Int} (hs : Sz sz) (hn : 0 ≤ n) (hN : n ≤ Pi sz sz.length - 1) : Valid sz (outD sz n sz.length) sz.length ∧ pv sz (outD sz n sz.length) sz.length = n := by
  have hv : Valid sz (outD sz n sz.length) sz.length := fun i hi => by
    have h1 := hs i hi
    have h2 := (qn_bd hs hn (sz.length - 1 - i) (by omega)).1
    rw [outD_at sz n sz.length (Nat.le_refl _) i, if_pos (by omega), Int.tmod_eq_emod_of_nonneg h2]
    have := Int.emod_nonneg (qn sz n (sz.length - 1 - i)) (show sz.getD i 0 ≠ 0 by omega)
    have := Int.emod_lt_of_pos (qn sz n (sz.length - 1 - i)) (show 0 < sz.getD i 0 by omega)
    omega
  have key : ∀ m, m ≤ sz.length → pv sz (outD sz n sz.length) m = qn sz n (sz.length - m) := by
    intro m
    induction m with
    | zero =>
      intro _
      have h1 := qn_lt hs hn hN sz.length (Nat.le_refl _)
      have h2 := (qn_bd hs hn sz.length (Nat.le_refl _)).1
      simp only [Nat.sub_self, Pi] at h1
      simp only [pv, Nat.sub_zero]
      omega
    | succ m ih =>
      intro hm
      have h1 := hs m (by omega)
      have h2 := (qn_bd hs hn (sz.length - (m + 1)) (by omega)).1
      simp only [pv]
      rw [ih (by omega), outD_at sz n sz.length (Nat.le_refl _) m, if_pos (by omega), show sz.length - m = (sz.length - (m + 1)) + 1 by omega]
      simp only [qn]
      rw [show sz.length - 1 - (sz.length - (m + 1)) = m by omega, show sz.length - 1 - m = sz.length - (m + 1) by omega, Int.tdiv_eq_ediv_of_nonneg h2, Int.tmod_eq_emod_of_nonneg h2, Int.mul_comm]
      exact Int.mul_ediv_add_emod _ _
  refine ⟨hv, ?_⟩
  rw [key sz.length (Nat.le_refl _), Nat.sub_self]
  rfl
/-- Both ways of counting name the same numbers. -/
theorem outD_seqP {sz : List Int} (h4 : sz.length ≤ 4) (hs : Sz sz) {n : Nat} (hn : n < points sz) : ∀ i, i < sz.length → (outD sz n sz.length).getD i 0 = (seqP sz n).getD i 0 := by
  have hp := points_eq fun i hi => (hs i hi).1
  obtain ⟨a1, a2⟩ := outD_spec (n := n) hs (by omega) (by omega)
  obtain ⟨_, b1, b2, _⟩ := seqP_spec h4 (fun i hi => (hs i hi).1) n (by omega)
  exact pv_inj sz.length a1 b1 (by rw [a2, b2])

end Go.Proofs.Ytndigibhmfegaaa.V

/-
  The reference's swap.
-/
set_option linter.unusedSimpArgs false
set_option linter.unusedVariables false
set_option maxHeartbeats 4000000
namespace Go.Proofs.Ytndigibhmfegaaa.V
open Go Go.Proofs Go.RowKit

def swp (a b : Nat) (xs : List Int) : List Int := (xs.set a (xs.getD b 0)).set b (xs.getD a 0)
theorem swp_length (a b : Nat) (xs : List Int) : (swp a b xs).length = xs.length := by simp [swp]
theorem swp_get {a b : Nat} {xs : List Int} (ha : a < xs.length) (hb : b < xs.length) (i : Nat) : (swp a b xs).getD i 0 = if i = b then xs.getD a 0 else if i = a then xs.getD b 0 else xs.getD i 0 := by
  unfold swp
  rw [getD_set _ _ _ _ (by simpa using hb), getD_set _ _ _ _ ha]
  by_cases h1 : b = i
  · rw [if_pos h1, if_pos h1.symm]
  · rw [if_neg h1, if_neg (show ¬ i = b from fun e => h1 e.symm)]
    by_cases h2 : a = i
    · rw [if_pos h2, if_pos h2.symm]
    · rw [if_neg h2, if_neg (show ¬ i = a from fun e => h2 e.symm)]
theorem swp_Sz {a b : Nat} {sz : List Int} (hs : Sz sz) (ha : a < sz.length) (hb : b < sz.length) : Sz (swp a b sz) := fun i hi => by
  rw [swp_length] at hi
  rw [swp_get ha hb]
  split
  · exact hs a ha
  · split
    · exact hs b hb
    · exact hs i hi
theorem swp_Valid {a b : Nat} {sz xs : List Int} (ha : a < sz.length) (hb : b < sz.length) (hl : sz.length ≤ xs.length) (h : Valid (swp a b sz) xs sz.length) : Valid sz (swp a b xs) sz.length := fun i hi => by
  rw [swp_get (xs := xs) (by omega) (by omega)]
  have hA := h a ha
  have hB := h b hb
  have hI := h i hi
  rw [swp_get ha hb] at hA hB hI
  split
  · rename_i e; subst e
    by_cases e2 : a = i
    · subst e2; simpa using hA
    · rw [if_neg e2, if_pos rfl] at hA; exact hA
  · rename_i e
    split
    · rename_i e2; subst e2
      rw [if_pos rfl] at hB; exact hB
    · rename_i e2
      rw [if_neg e, if_neg e2] at hI; exact hI
/-- The values of a point. -/
def blk (da : List Int) (m k : Nat) : List Int := (da.drop (k * m)).take m
theorem blk_length {da : List Int} {m k : Nat} (h : k * m + m ≤ da.length) : (blk da m k).length = m := by
  unfold blk; simp; omega
/-- The number of a swapped grid's point in the grid itself. -/
def snum (a b : Nat) (sz : List Int) (n : Nat) : Nat := (pv sz (swp a b (seqP (swp a b sz) n)) sz.length).toNat
def sall (a b : Nat) (sz da : List Int) (m : Nat) : Nat → List Int
  | 0 => []
  | n + 1 => sall a b sz da m n ++ blk da m (snum a b sz n)

theorem Pi_swp_aux {sz : List Int} {a b : Nat} (ha : a < sz.length) (hb : b < sz.length) (hab : a < b) : ∀ n, n ≤ sz.length →
    (n ≤ a → Pi (swp a b sz) n = Pi sz n) ∧ (a < n → n ≤ b → Pi (swp a b sz) n * sz.getD a 0 = Pi sz n * sz.getD b 0) ∧ (b < n → Pi (swp a b sz) n = Pi sz n)
  | 0, _ => ⟨fun _ => rfl, fun h => by omega, fun h => by omega⟩
  | n + 1, h => by
    obtain ⟨h1, h2, h3⟩ := Pi_swp_aux ha hb hab n (by omega)
    simp only [Pi, swp_get ha hb]
    refine ⟨fun hn => ?_, fun hn hn' => ?_, fun hn => ?_⟩
    · rw [if_neg (by omega), if_neg (by omega), h1 (by omega)]
    · rw [if_neg (by omega)]
      by_cases e : n = a
      · subst e
        rw [if_pos rfl, h1 (Nat.le_refl _), Int.mul_assoc, Int.mul_assoc, Int.mul_comm (sz.getD b 0)]
      · rw [if_neg e]
        have := h2 (by omega) (by omega)
        rw [Int.mul_right_comm, this, Int.mul_right_comm]
    · by_cases e : n = b
      · subst e
        rw [if_pos rfl]
        exact h2 (by omega) (Nat.le_refl _)
      · rw [if_neg e, if_neg (by omega), h3 (by omega)]
theorem swp_comm {a b : Nat} {xs : List Int} (ha : a < xs.length) (hb : b < xs.length) : swp a b xs = swp b a xs := by
  refine eq_of_getD (by simp [swp_length]) fun i _ => ?_
  rw [swp_get ha hb, swp_get hb ha]
  by_cases h1 : i = b
  · subst h1
    by_cases h2 : i = a
    · subst h2; rfl
    · rw [if_pos rfl, if_neg h2, if_pos rfl]
  · rw [if_neg h1]
    by_cases h2 : i = a
    · rw [if_pos h2, if_pos h2]
    · rw [if_neg h2, if_neg h2, if_neg h1]
theorem swp_self {a : Nat} {xs : List Int} (ha : a < xs.length) : swp a a xs = xs := by
  refine eq_of_getD (by simp [swp_length]) fun i _ => ?_
  rw [swp_get ha ha]
  by_cases h1 : i = a
  · rw [if_pos h1, h1]
  · rw [if_neg h1, if_neg h1]
theorem points_swp {sz : List Int} {a b : Nat} (ha : a < sz.length) (hb : b < sz.length) : points (swp a b sz) = points sz := by
  unfold points
  rw [swp_length]
  rcases Nat.lt_trichotomy a b with h | h | h
  · rw [(Pi_swp_aux ha hb h sz.length (Nat.le_refl _)).2.2 hb]
  · subst h; rw [swp_self ha]
  · rw [swp_comm ha hb, (Pi_swp_aux hb ha h sz.length (Nat.le_refl _)).2.2 ha]
theorem seqP_ok {sz : List Int} (h4 : sz.length ≤ 4) (hs : Sz sz) {n : Nat} (hn : n < points sz) : (seqP sz n).length = 4 ∧ Valid sz (seqP sz n) sz.length ∧ pv sz (seqP sz n) sz.length = n ∧ ∀ j, sz.length ≤ j → (seqP sz n).getD j 0 = 0 := by
  have := points_eq fun i hi => (hs i hi).1
  exact seqP_spec h4 (fun i hi => (hs i hi).1) n (by omega)
/-- A point of the swapped grid. -/
theorem snum_ok {sz : List Int} {a b : Nat} (h4 : sz.length ≤ 4) (hs : Sz sz) (ha : a < sz.length) (hb : b < sz.length) {n : Nat} (hn : n < points sz) : Valid sz (swp a b (seqP (swp a b sz) n)) sz.length ∧ snum a b sz n < points sz := by
  have hs' := swp_Sz hs ha hb
  obtain ⟨c1, c2, c3, _⟩ := seqP_ok (sz := swp a b sz) (by rw [swp_length]; exact h4) hs' (n := n) (by rw [points_swp ha hb]; exact hn)
  rw [swp_length] at c2
  have hv := swp_Valid ha hb (by omega) c2
  refine ⟨hv, ?_⟩
  have := points_eq fun i hi => (hs i hi).1
  have := pv_range (sz := sz) (ps := swp a b (seqP (swp a b sz) n)) sz.length (fun i hi => (hs i hi).1) hv
  unfold snum
  omega
theorem blk_ok {sz da : List Int} {m k : Nat} (hl : da.length = points sz * m) (hk : k < points sz) : k * m + m ≤ da.length := by
  rw [hl]
  have := Nat.mul_le_mul_right m (show k + 1 ≤ points sz by omega)
  rwa [Nat.add_mul, Nat.one_mul] at this
theorem sall_length {sz da : List Int} {a b m : Nat} (h4 : sz.length ≤ 4) (hs : Sz sz) (ha : a < sz.length) (hb : b < sz.length) (hl : da.length = points sz * m) : ∀ n, n ≤ points sz → (sall a b sz da m n).length = n * m
  | 0, _ => by simp [sall]
  | n + 1, h => by
    simp only [sall, List.length_append]
    rw [sall_length h4 hs ha hb hl n (by omega), blk_length (blk_ok hl (snum_ok h4 hs ha hb (by omega)).2), Nat.add_mul, Nat.one_mul]
theorem Right.lenN {sz : List Int} {m : Nat} {da : List Int} (h : Right sz m da) : da.length = points sz * m := by
  have := h.len
  rw [← Int.natCast_mul] at this
  omega
/-- The number, by the reference's index. -/
theorem snum_outD {sz : List Int} {a b : Nat} (h4 : sz.length ≤ 4) (hs : Sz sz) (ha : a < sz.length) (hb : b < sz.length) {n : Nat} (hn : n < points sz) :
    Inx sz (swp a b (outD (swp a b sz) n sz.length)) ∧ (pv sz (swp a b (outD (swp a b sz) n sz.length)) sz.length).toNat = snum a b sz n := by
  have hs' := swp_Sz hs ha hb
  have hsl : (swp a b sz).length = sz.length := swp_length a b sz
  have e := outD_seqP (sz := swp a b sz) (by rw [hsl]; exact h4) hs' (n := n) (by rw [points_swp ha hb]; exact hn)
  have hol := outD_length (swp a b sz) n sz.length
  rw [hsl] at e hol
  obtain ⟨c1, _⟩ := seqP_ok (sz := swp a b sz) (by rw [hsl]; exact h4) hs' (n := n) (by rw [points_swp ha hb]; exact hn)
  have hv := (snum_ok h4 hs ha hb hn).1
  have e2 : ∀ i, i < sz.length → (swp a b (outD (swp a b sz) n sz.length)).getD i 0 = (swp a b (seqP (swp a b sz) n)).getD i 0 := fun i hi => by
    rw [swp_get (by omega) (by omega), swp_get (by omega) (by omega), e a ha, e b hb, e i hi]
  refine ⟨⟨by rw [swp_length, hol], fun i hi => ?_⟩, ?_⟩
  · rw [e2 i hi]; have := hv i hi; omega
  · unfold snum
    rw [pv_congr _ e2]

end Go.Proofs.Ytndigibhmfegaaa.V

/-
  The reference's swap: its walk.
-/
set_option linter.unusedSimpArgs false
set_option linter.unusedVariables false
set_option maxHeartbeats 4000000
namespace Go.Proofs.Ytndigibhmfegaaa.V
open Go Go.Proofs Go.RowKit

theorem toNat_add (a b : Nat) : ((a : Int) + (b : Int)).toNat = a + b := rfl
attribute [go_sem] toNat_add Nat.add_sub_cancel_left
theorem con19 (sz : List Int) (m : Nat) (da : List Int) (a b : Nat) (h1 : Right sz m da) (ha : a < sz.length) (hb : b < sz.length) : Con Try.prog 19 [gr sz m da, .sc (.int .i64 a), .sc (.int .i64 b)] (.tp [gr (swp a b sz) m (sall a b sz da m (points sz)), .sc (.int .i64 0)]) [] := by
  have hl := h1.lenN
  have hR := h1
  obtain ⟨hz1, h4, o1, o4, hs, _, hd, _⟩ := h1
  have hp := points_le h4 hs
  obtain ⟨rsz, hrsz⟩ : ∃ r, r = swp a b sz := ⟨_, rfl⟩
  have hrl : rsz.length = sz.length := by rw [hrsz, swp_length]
  have hrs : Sz rsz := by rw [hrsz]; exact swp_Sz hs ha hb
  rw [← hrsz]
  refine Con.of_bodyD [(0, gr sz m da), (1, .sc (.int .i64 a)), (2, .sc (.int .i64 b))] Try.func19 rfl ca19 105 rfl (by simp) rfl ?_; refine T_of_R ?_
  refine go ?_
  refine call (con36t hR) ?_
  refine go ?_
  refine cnd (fun h => ?_) (fun h => ?_)
  · cases h
  · refine go ?_
    refine call (con41 _ _ _) ?_
    refine go ?_
    refine callg (fun hg => con41 _ _ _) ?_
    refine go ?_
    refine cnd (fun h => ?_) (fun h => ?_)
    · simp only [decide_eq_true_eq, decide_eq_false_iff_not, Bool.or_eq_true, Bool.and_eq_true, Bool.or_eq_false_iff, Bool.and_eq_false_iff, Bool.not_eq_true', Bool.not_eq_false', bne_iff_ne, beq_iff_eq, ne_eq, bne_eq_false_iff_eq, beq_eq_false_iff_ne, ge_iff_le, gt_iff_lt, Int.not_le, Int.not_lt] at h
      omega
    · clear h
      refine go ?_
      refine R_loop (fun n : Nat => ⟨tl [(1, .sc (.int .i64 a)), (2, .sc (.int .i64 b)), (3, .pt 0 0), (6, .pt 1 0), (8, .pt 3 0), (9, .sc (.int .i64 n))],
          ol ([(0, ⟨[.sl sz.length (ints .i64 sz), .sc (.int .i64 m), .sl da.length (ints .i64 da)], 24, 0, false⟩), (1, ⟨[.em, .sc (.int .i64 0), .em], 24, 0, false⟩), (2, ⟨ints .i64 rsz, 3, 1, false⟩), (3, ⟨[.rf 2 0 sz.length 1, .sc (.int .i64 m), shD 4 (sall a b sz da m n)], 24, 0, false⟩)] ++ shO 4 (sall a b sz da m n)), 5, [], 105⟩)
        (fun n => n ≤ points sz) (fun n => points sz - n) 0 [0, 1, 3, 4] (Less.mk' (by simp (disch := (first | omega | (simp only [go_sem, ↓reduceIte, Nat.reduceEqDiff, Nat.reduceAdd, Nat.reduceMul, Nat.reduceSub, Nat.reduceLT, Nat.reduceLeDiff, Nat.reduceBNe, Nat.reduceBEq, Int.reduceToNat, Int.reduceAdd, Int.reduceSub, Int.reduceMul, Int.reduceLT, Int.reduceLE, Int.reduceNeg, Int.reduceBEq, Int.reduceBNe, Int.reduceEq, beq_self_eq_true, reduceCtorEq, decide_true, decide_false, if_pos, if_neg]; first | done | omega))) only [go_sem, ↓reduceIte, Nat.reduceEqDiff, Nat.reduceAdd, Nat.reduceMul, Nat.reduceSub, Nat.reduceLT, Nat.reduceLeDiff, Nat.reduceBNe, Nat.reduceBEq, Int.reduceToNat, Int.reduceAdd, Int.reduceSub, Int.reduceMul, Int.reduceLT, Int.reduceLE, Int.reduceNeg, Int.reduceBEq, Int.reduceBNe, Int.reduceEq, beq_self_eq_true, reduceCtorEq, decide_true, decide_false, if_pos, if_neg, sall, shD, shO, hrsz, swp]) (by simp (disch := (first | omega | (simp only [go_sem, ↓reduceIte, Nat.reduceEqDiff, Nat.reduceAdd, Nat.reduceMul, Nat.reduceSub, Nat.reduceLT, Nat.reduceLeDiff, Nat.reduceBNe, Nat.reduceBEq, Int.reduceToNat, Int.reduceAdd, Int.reduceSub, Int.reduceMul, Int.reduceLT, Int.reduceLE, Int.reduceNeg, Int.reduceBEq, Int.reduceBNe, Int.reduceEq, beq_self_eq_true, reduceCtorEq, decide_true, decide_false, if_pos, if_neg]; first | done | omega))) only [go_sem, ↓reduceIte, Nat.reduceEqDiff, Nat.reduceAdd, Nat.reduceMul, Nat.reduceSub, Nat.reduceLT, Nat.reduceLeDiff, Nat.reduceBNe, Nat.reduceBEq, Int.reduceToNat, Int.reduceAdd, Int.reduceSub, Int.reduceMul, Int.reduceLT, Int.reduceLE, Int.reduceNeg, Int.reduceBEq, Int.reduceBNe, Int.reduceEq, beq_self_eq_true, reduceCtorEq, decide_true, decide_false, if_pos, if_neg, sall, shD, shO, hrsz, swp]) (by decide) (by decide)) (by omega) fun n hn => ?_
      have hsl := sall_length h4 hs ha hb hl n hn
      have hml : n * m ≤ points sz * m := Nat.mul_le_mul_right m hn
      have c43 := fun hlt : n < points sz => con43 rsz n (by omega) (by omega) hrs (by omega) (by omega)
      rw [hrl] at c43
      have hol := outD_length rsz n sz.length
      rw [hrl] at hol
      have c37 := fun hlt : n < points sz => con37 sz m da (swp a b (outD rsz n sz.length)) h4 hs (by rw [hrsz]; exact (snum_outD h4 hs ha hb hlt).1)
      rw [swp_length, hol] at c37
      have hpl : n < points sz → pl sz m (swp a b (outD rsz n sz.length)) = ((snum a b sz n * m : Nat) : Int) ∧ snum a b sz n * m + m ≤ da.length := fun hlt => by
        obtain ⟨q1, q2⟩ := snum_outD h4 hs ha hb hlt
        rw [← hrsz] at q1 q2
        have := (place_ok hR q1.valid).1
        rw [q2, Int.toNat_natCast] at this
        exact ⟨this, blk_ok hl (snum_ok h4 hs ha hb hlt).2⟩
      by_cases hy : (sall a b sz da m n).length = 0
      · simp only [shD, shO, hy, ↓reduceIte, List.cons_append, List.nil_append, List.append_nil]
        have hy' : sall a b sz da m n = [] := List.length_eq_zero_iff.1 hy
        refine go ?_
        refine call (con42p h4 hs) ?_
        refine go ?_
        refine cnd (fun h => ?_) (fun h => ?_)
        · simp only [decide_eq_true_eq, decide_eq_false_iff_not, Bool.or_eq_true, Bool.and_eq_true, Bool.or_eq_false_iff, Bool.and_eq_false_iff, Bool.not_eq_true', Bool.not_eq_false', bne_iff_ne, beq_iff_eq, ne_eq, bne_eq_false_iff_eq, beq_eq_false_iff_ne, ge_iff_le, gt_iff_lt, Int.not_le, Int.not_lt] at h
          obtain ⟨q1, q2⟩ := hpl (by omega)
          have cc43 := c43 (by omega)
          have cc37 := c37 (by omega)
          rw [q1] at cc37
          simp only [swp] at cc37
          clear hpl c43 c37
          have ey : (sall a b sz da m n).length + m ≠ 0 := by omega
          refine go ?_
          refine callo (cc43) ?_
          refine go ?_
          refine call (cc37) ?_
          refine go ?_
          have hmin : min m (da.length - snum a b sz n * m) = m := by omega
          have hm0 : m ≠ 0 := by omega
          refine R_nilR ⟨[0, 1, 2, 3, 6], _, ?_, n + 1, by omega, by omega, rfl⟩
          exact Less.mk' (by simp (disch := (first | omega | (simp only [go_sem, ↓reduceIte, Nat.reduceEqDiff, Nat.reduceAdd, Nat.reduceMul, Nat.reduceSub, Nat.reduceLT, Nat.reduceLeDiff, Nat.reduceBNe, Nat.reduceBEq, Int.reduceToNat, Int.reduceAdd, Int.reduceSub, Int.reduceMul, Int.reduceLT, Int.reduceLE, Int.reduceNeg, Int.reduceBEq, Int.reduceBNe, Int.reduceEq, beq_self_eq_true, reduceCtorEq, decide_true, decide_false, if_pos, if_neg]; first | done | omega))) only [go_sem, ↓reduceIte, Nat.reduceEqDiff, Nat.reduceAdd, Nat.reduceMul, Nat.reduceSub, Nat.reduceLT, Nat.reduceLeDiff, Nat.reduceBNe, Nat.reduceBEq, Int.reduceToNat, Int.reduceAdd, Int.reduceSub, Int.reduceMul, Int.reduceLT, Int.reduceLE, Int.reduceNeg, Int.reduceBEq, Int.reduceBNe, Int.reduceEq, beq_self_eq_true, reduceCtorEq, decide_true, decide_false, if_pos, if_neg, sall, shD, shO, ey, hy', hmin, hm0, blk]) (by simp (disch := (first | omega | (simp only [go_sem, ↓reduceIte, Nat.reduceEqDiff, Nat.reduceAdd, Nat.reduceMul, Nat.reduceSub, Nat.reduceLT, Nat.reduceLeDiff, Nat.reduceBNe, Nat.reduceBEq, Int.reduceToNat, Int.reduceAdd, Int.reduceSub, Int.reduceMul, Int.reduceLT, Int.reduceLE, Int.reduceNeg, Int.reduceBEq, Int.reduceBNe, Int.reduceEq, beq_self_eq_true, reduceCtorEq, decide_true, decide_false, if_pos, if_neg]; first | done | omega))) only [go_sem, ↓reduceIte, Nat.reduceEqDiff, Nat.reduceAdd, Nat.reduceMul, Nat.reduceSub, Nat.reduceLT, Nat.reduceLeDiff, Nat.reduceBNe, Nat.reduceBEq, Int.reduceToNat, Int.reduceAdd, Int.reduceSub, Int.reduceMul, Int.reduceLT, Int.reduceLE, Int.reduceNeg, Int.reduceBEq, Int.reduceBNe, Int.reduceEq, beq_self_eq_true, reduceCtorEq, decide_true, decide_false, if_pos, if_neg, sall, shD, shO, ey, hy', hmin, hm0, blk]) (by decide) (by decide)
        · simp only [decide_eq_true_eq, decide_eq_false_iff_not, Bool.or_eq_true, Bool.and_eq_true, Bool.or_eq_false_iff, Bool.and_eq_false_iff, Bool.not_eq_true', Bool.not_eq_false', bne_iff_ne, beq_iff_eq, ne_eq, bne_eq_false_iff_eq, beq_eq_false_iff_ne, ge_iff_le, gt_iff_lt, Int.not_le, Int.not_lt] at h
          exfalso
          have := Nat.mul_le_mul (show 1 ≤ n by omega) (show 1 ≤ m by omega)
          omega
      · simp only [shD, shO, hy, ↓reduceIte, List.cons_append, List.nil_append, List.append_nil]
        have hy' : (sall a b sz da m n).length ≠ 0 := hy
        refine go ?_
        refine call (con42p h4 hs) ?_
        refine go ?_
        refine cnd (fun h => ?_) (fun h => ?_)
        · simp only [decide_eq_true_eq, decide_eq_false_iff_not, Bool.or_eq_true, Bool.and_eq_true, Bool.or_eq_false_iff, Bool.and_eq_false_iff, Bool.not_eq_true', Bool.not_eq_false', bne_iff_ne, beq_iff_eq, ne_eq, bne_eq_false_iff_eq, beq_eq_false_iff_ne, ge_iff_le, gt_iff_lt, Int.not_le, Int.not_lt] at h
          obtain ⟨q1, q2⟩ := hpl (by omega)
          have cc43 := c43 (by omega)
          have cc37 := c37 (by omega)
          rw [q1] at cc37
          simp only [swp] at cc37
          clear hpl c43 c37
          have ey : (sall a b sz da m n).length + m ≠ 0 := by omega
          refine go ?_
          refine callo (cc43) ?_
          refine go ?_
          refine call (cc37) ?_
          refine go ?_
          have hmin : min m (da.length - snum a b sz n * m) = m := by omega
          have hm0 : m ≠ 0 := by omega
          refine R_nilR ⟨[0, 1, 2, 3, 6], _, ?_, n + 1, by omega, by omega, rfl⟩
          exact Less.mk' (by simp (disch := (first | omega | (simp only [go_sem, ↓reduceIte, Nat.reduceEqDiff, Nat.reduceAdd, Nat.reduceMul, Nat.reduceSub, Nat.reduceLT, Nat.reduceLeDiff, Nat.reduceBNe, Nat.reduceBEq, Int.reduceToNat, Int.reduceAdd, Int.reduceSub, Int.reduceMul, Int.reduceLT, Int.reduceLE, Int.reduceNeg, Int.reduceBEq, Int.reduceBNe, Int.reduceEq, beq_self_eq_true, reduceCtorEq, decide_true, decide_false, if_pos, if_neg]; first | done | omega))) only [go_sem, ↓reduceIte, Nat.reduceEqDiff, Nat.reduceAdd, Nat.reduceMul, Nat.reduceSub, Nat.reduceLT, Nat.reduceLeDiff, Nat.reduceBNe, Nat.reduceBEq, Int.reduceToNat, Int.reduceAdd, Int.reduceSub, Int.reduceMul, Int.reduceLT, Int.reduceLE, Int.reduceNeg, Int.reduceBEq, Int.reduceBNe, Int.reduceEq, beq_self_eq_true, reduceCtorEq, decide_true, decide_false, if_pos, if_neg, sall, shD, shO, ey, hy', hmin, hm0, blk]) (by simp (disch := (first | omega | (simp only [go_sem, ↓reduceIte, Nat.reduceEqDiff, Nat.reduceAdd, Nat.reduceMul, Nat.reduceSub, Nat.reduceLT, Nat.reduceLeDiff, Nat.reduceBNe, Nat.reduceBEq, Int.reduceToNat, Int.reduceAdd, Int.reduceSub, Int.reduceMul, Int.reduceLT, Int.reduceLE, Int.reduceNeg, Int.reduceBEq, Int.reduceBNe, Int.reduceEq, beq_self_eq_true, reduceCtorEq, decide_true, decide_false, if_pos, if_neg]; first | done | omega))) only [go_sem, ↓reduceIte, Nat.reduceEqDiff, Nat.reduceAdd, Nat.reduceMul, Nat.reduceSub, Nat.reduceLT, Nat.reduceLeDiff, Nat.reduceBNe, Nat.reduceBEq, Int.reduceToNat, Int.reduceAdd, Int.reduceSub, Int.reduceMul, Int.reduceLT, Int.reduceLE, Int.reduceNeg, Int.reduceBEq, Int.reduceBNe, Int.reduceEq, beq_self_eq_true, reduceCtorEq, decide_true, decide_false, if_pos, if_neg, sall, shD, shO, ey, hy', hmin, hm0, blk]) (by decide) (by decide)
        · simp only [decide_eq_true_eq, decide_eq_false_iff_not, Bool.or_eq_true, Bool.and_eq_true, Bool.or_eq_false_iff, Bool.and_eq_false_iff, Bool.not_eq_true', Bool.not_eq_false', bne_iff_ne, beq_iff_eq, ne_eq, bne_eq_false_iff_eq, beq_eq_false_iff_ne, ge_iff_le, gt_iff_lt, Int.not_le, Int.not_lt] at h
          obtain rfl : n = points sz := by omega
          refine go ?_
          refine R_ret (fin_data (by simp (disch := (first | omega | (simp only [go_sem, ↓reduceIte, Nat.reduceEqDiff, Nat.reduceAdd, Nat.reduceMul, Nat.reduceSub, Nat.reduceLT, Nat.reduceLeDiff, Nat.reduceBNe, Nat.reduceBEq, Int.reduceToNat, Int.reduceAdd, Int.reduceSub, Int.reduceMul, Int.reduceLT, Int.reduceLE, Int.reduceNeg, Int.reduceBEq, Int.reduceBNe, Int.reduceEq, beq_self_eq_true, reduceCtorEq, decide_true, decide_false, if_pos, if_neg]; first | done | omega))) only [go_sem, ↓reduceIte, Nat.reduceEqDiff, Nat.reduceAdd, Nat.reduceMul, Nat.reduceSub, Nat.reduceLT, Nat.reduceLeDiff, Nat.reduceBNe, Nat.reduceBEq, Int.reduceToNat, Int.reduceAdd, Int.reduceSub, Int.reduceMul, Int.reduceLT, Int.reduceLE, Int.reduceNeg, Int.reduceBEq, Int.reduceBNe, Int.reduceEq, beq_self_eq_true, reduceCtorEq, decide_true, decide_false, if_pos, if_neg, gr, hrl] <;> rfl) (by simp (disch := (first | omega | (simp only [go_sem, ↓reduceIte, Nat.reduceEqDiff, Nat.reduceAdd, Nat.reduceMul, Nat.reduceSub, Nat.reduceLT, Nat.reduceLeDiff, Nat.reduceBNe, Nat.reduceBEq, Int.reduceToNat, Int.reduceAdd, Int.reduceSub, Int.reduceMul, Int.reduceLT, Int.reduceLE, Int.reduceNeg, Int.reduceBEq, Int.reduceBNe, Int.reduceEq, beq_self_eq_true, reduceCtorEq, decide_true, decide_false, if_pos, if_neg]; first | done | omega))) only [go_sem, ↓reduceIte, Nat.reduceEqDiff, Nat.reduceAdd, Nat.reduceMul, Nat.reduceSub, Nat.reduceLT, Nat.reduceLeDiff, Nat.reduceBNe, Nat.reduceBEq, Int.reduceToNat, Int.reduceAdd, Int.reduceSub, Int.reduceMul, Int.reduceLT, Int.reduceLE, Int.reduceNeg, Int.reduceBEq, Int.reduceBNe, Int.reduceEq, beq_self_eq_true, reduceCtorEq, decide_true, decide_false, if_pos, if_neg, gr, hrl]))
end Go.Proofs.Ytndigibhmfegaaa.V

/-
  The grid's swap.
-/
set_option linter.unusedSimpArgs false
set_option linter.unusedVariables false
set_option maxHeartbeats 4000000
namespace Go.Proofs.Ytndigibhmfegaaa.V
open Go Go.Proofs Go.RowKit

theorem posL_len (sz : List Int) : ∀ ds ∈ posL sz, ds.length = 1 := fun ds h => by
  simp only [posL, List.mem_map] at h
  obtain ⟨_, _, rfl⟩ := h
  rfl
theorem posL_get {sz : List Int} {i : Nat} {d : List D} (h : (posL sz)[i]? = some d) : i < points sz ∧ d = [.ag (ints .i64 (seqP sz i))] := by
  simp only [posL, List.getElem?_map, Option.map_eq_some_iff, List.getElem?_eq_some_iff] at h
  obtain ⟨a, ⟨h1, h2⟩, rfl⟩ := h
  simp only [List.length_range] at h1
  simp only [List.getElem_range] at h2
  subst h2
  exact ⟨h1, rfl⟩
theorem con18 (sz : List Int) (m : Nat) (da : List Int) (a b : Nat) (h1 : Right sz m da) (ha : a < sz.length) (hb : b < sz.length) : Con Try.prog 18 [gr sz m da, .sc (.int .i64 a), .sc (.int .i64 b)] (.tp [gr (swp a b sz) m (sall a b sz da m (points sz)), .sc (.int .i64 0)]) [] := by
  have hl := h1.lenN
  have hR := h1
  obtain ⟨hz1, h4, o1, o4, hs, _, hd, _⟩ := h1
  have hp := points_le h4 hs
  obtain ⟨rsz, hrsz⟩ : ∃ r, r = swp a b sz := ⟨_, rfl⟩
  have hrl : rsz.length = sz.length := by rw [hrsz, swp_length]
  have hrs : Sz rsz := by rw [hrsz]; exact swp_Sz hs ha hb
  rw [← hrsz]
  refine Con.of_bodyD [(0, gr sz m da), (1, .sc (.int .i64 a)), (2, .sc (.int .i64 b))] Try.func18 rfl ca18 86 rfl (by simp) rfl ?_; refine T_of_R ?_
  refine go ?_
  refine call (con25t hR) ?_
  refine go ?_
  refine cnd (fun h => ?_) (fun h => ?_)
  · cases h
  · refine go ?_
    refine call (con39 sz m da _) ?_
    refine go ?_
    refine callg (fun hg => con39 sz m da _) ?_
    refine go ?_
    refine cnd (fun h => ?_) (fun h => ?_)
    · simp only [decide_eq_true_eq, decide_eq_false_iff_not, Bool.or_eq_true, Bool.and_eq_true, Bool.or_eq_false_iff, Bool.and_eq_false_iff, Bool.not_eq_true', Bool.not_eq_false', bne_iff_ne, beq_iff_eq, ne_eq, bne_eq_false_iff_eq, beq_eq_false_iff_ne, ge_iff_le, gt_iff_lt, Int.not_le, Int.not_lt] at h
      omega
    · clear h
      refine go ?_
      refine callo (con12 sz (by omega) (by omega)) ?_
      refine go ?_
      refine R_less (ids := [4, 1, 2, 3, 7, 5, 6]) (st' := ⟨tl [(4, .pt 1 0), (5, .pt 2 0), (6, .pt 3 0), (9, .pt 0 0), (10, .pt 4 0), (66, .fn (.func 40) [.ag [.rf 5 0 sz.length 1, .sc (.int .i64 m), .rf 6 0 0 1]] [])], ol [(0, ⟨[.sl sz.length (ints .i64 sz), .sc (.int .i64 m), .sl da.length (ints .i64 da)], 67, 0, false⟩), (1, ⟨[.sc (.int .i64 a)], 3, 0, false⟩), (2, ⟨[.sc (.int .i64 b)], 3, 0, false⟩), (3, ⟨[.em, .sc (.int .i64 0), .em], 24, 0, false⟩), (4, ⟨[.rf 5 0 sz.length 1, .sc (.int .i64 m), .rf 6 0 (sall a b sz da m 0).length 1], 24, 0, false⟩), (5, ⟨ints .i64 rsz, 3, 1, false⟩), (6, ⟨ints .i64 (sall a b sz da m 0), 3, 1, false⟩)], 7, [], 86⟩) (Less.mk' (by simp (disch := (first | omega | (simp only [go_sem, ↓reduceIte, Nat.reduceEqDiff, Nat.reduceAdd, Nat.reduceMul, Nat.reduceSub, Nat.reduceLT, Nat.reduceLeDiff, Nat.reduceBNe, Nat.reduceBEq, Int.reduceToNat, Int.reduceAdd, Int.reduceSub, Int.reduceMul, Int.reduceLT, Int.reduceLE, Int.reduceNeg, Int.reduceBEq, Int.reduceBNe, Int.reduceEq, beq_self_eq_true, reduceCtorEq, decide_true, decide_false, if_pos, if_neg]; first | done | omega))) only [go_sem, ↓reduceIte, Nat.reduceEqDiff, Nat.reduceAdd, Nat.reduceMul, Nat.reduceSub, Nat.reduceLT, Nat.reduceLeDiff, Nat.reduceBNe, Nat.reduceBEq, Int.reduceToNat, Int.reduceAdd, Int.reduceSub, Int.reduceMul, Int.reduceLT, Int.reduceLE, Int.reduceNeg, Int.reduceBEq, Int.reduceBNe, Int.reduceEq, beq_self_eq_true, reduceCtorEq, decide_true, decide_false, if_pos, if_neg]) (by simp (disch := (first | omega | (simp only [go_sem, ↓reduceIte, Nat.reduceEqDiff, Nat.reduceAdd, Nat.reduceMul, Nat.reduceSub, Nat.reduceLT, Nat.reduceLeDiff, Nat.reduceBNe, Nat.reduceBEq, Int.reduceToNat, Int.reduceAdd, Int.reduceSub, Int.reduceMul, Int.reduceLT, Int.reduceLE, Int.reduceNeg, Int.reduceBEq, Int.reduceBNe, Int.reduceEq, beq_self_eq_true, reduceCtorEq, decide_true, decide_false, if_pos, if_neg]; first | done | omega))) only [go_sem, ↓reduceIte, Nat.reduceEqDiff, Nat.reduceAdd, Nat.reduceMul, Nat.reduceSub, Nat.reduceLT, Nat.reduceLeDiff, Nat.reduceBNe, Nat.reduceBEq, Int.reduceToNat, Int.reduceAdd, Int.reduceSub, Int.reduceMul, Int.reduceLT, Int.reduceLE, Int.reduceNeg, Int.reduceBEq, Int.reduceBNe, Int.reduceEq, beq_self_eq_true, reduceCtorEq, decide_true, decide_false, if_pos, if_neg, sall, hrsz, swp]) (by decide) (by decide)) ?_ (by simp)
      refine R_frz [5] rfl ?_
      refine R_less (ids := [0, 1, 2, 3, 4, 5, 6]) (st' := ⟨tl [(4, .pt 1 0), (5, .pt 2 0), (6, .pt 3 0), (9, .pt 0 0), (10, .pt 4 0), (66, .fn (.func 40) [.ag [.rf 5 0 sz.length 1, .sc (.int .i64 m), .rf 6 0 0 1]] [])], ol [(0, ⟨[.sl sz.length (ints .i64 sz), .sc (.int .i64 m), .sl da.length (ints .i64 da)], 67, 0, false⟩), (1, ⟨[.sc (.int .i64 a)], 3, 0, false⟩), (2, ⟨[.sc (.int .i64 b)], 3, 0, false⟩), (3, ⟨[.em, .sc (.int .i64 0), .em], 24, 0, false⟩), (4, ⟨[.rf 5 0 sz.length 1, .sc (.int .i64 m), .rf 6 0 (sall a b sz da m 0).length 1], 24, 0, false⟩), (5, ⟨ints .i64 rsz, 3, 1, true⟩), (6, ⟨ints .i64 (sall a b sz da m 0), 3, 1, false⟩)], 7, [], 86⟩) (Less.mk' (by simp (disch := (first | omega | (simp only [go_sem, ↓reduceIte, Nat.reduceEqDiff, Nat.reduceAdd, Nat.reduceMul, Nat.reduceSub, Nat.reduceLT, Nat.reduceLeDiff, Nat.reduceBNe, Nat.reduceBEq, Int.reduceToNat, Int.reduceAdd, Int.reduceSub, Int.reduceMul, Int.reduceLT, Int.reduceLE, Int.reduceNeg, Int.reduceBEq, Int.reduceBNe, Int.reduceEq, beq_self_eq_true, reduceCtorEq, decide_true, decide_false, if_pos, if_neg]; first | done | omega))) only [go_sem, ↓reduceIte, Nat.reduceEqDiff, Nat.reduceAdd, Nat.reduceMul, Nat.reduceSub, Nat.reduceLT, Nat.reduceLeDiff, Nat.reduceBNe, Nat.reduceBEq, Int.reduceToNat, Int.reduceAdd, Int.reduceSub, Int.reduceMul, Int.reduceLT, Int.reduceLE, Int.reduceNeg, Int.reduceBEq, Int.reduceBNe, Int.reduceEq, beq_self_eq_true, reduceCtorEq, decide_true, decide_false, if_pos, if_neg]) (by simp (disch := (first | omega | (simp only [go_sem, ↓reduceIte, Nat.reduceEqDiff, Nat.reduceAdd, Nat.reduceMul, Nat.reduceSub, Nat.reduceLT, Nat.reduceLeDiff, Nat.reduceBNe, Nat.reduceBEq, Int.reduceToNat, Int.reduceAdd, Int.reduceSub, Int.reduceMul, Int.reduceLT, Int.reduceLE, Int.reduceNeg, Int.reduceBEq, Int.reduceBNe, Int.reduceEq, beq_self_eq_true, reduceCtorEq, decide_true, decide_false, if_pos, if_neg]; first | done | omega))) only [go_sem, ↓reduceIte, Nat.reduceEqDiff, Nat.reduceAdd, Nat.reduceMul, Nat.reduceSub, Nat.reduceLT, Nat.reduceLeDiff, Nat.reduceBNe, Nat.reduceBEq, Int.reduceToNat, Int.reduceAdd, Int.reduceSub, Int.reduceMul, Int.reduceLT, Int.reduceLE, Int.reduceNeg, Int.reduceBEq, Int.reduceBNe, Int.reduceEq, beq_self_eq_true, reduceCtorEq, decide_true, decide_false, if_pos, if_neg, fzO, Sg.app, List.foldl_cons, List.foldl_nil]) (by decide) (by decide)) ?_ (by simp)
      have it := con40 rsz m [] (by omega) (by omega) hrs
      simp only [gr, hrl, List.length_nil, ints_nil] at it
      refine R_range it [5] 6 [(4, .pt 1 0), (5, .pt 2 0), (6, .pt 3 0), (9, .pt 0 0), (10, .pt 4 0)] (fun i => ol [(0, ⟨[.sl sz.length (ints .i64 sz), .sc (.int .i64 m), .sl da.length (ints .i64 da)], 67, 0, false⟩), (1, ⟨[.sc (.int .i64 a)], 3, 0, false⟩), (2, ⟨[.sc (.int .i64 b)], 3, 0, false⟩), (3, ⟨[.em, .sc (.int .i64 0), .em], 24, 0, false⟩), (4, ⟨[.rf 5 0 sz.length 1, .sc (.int .i64 m), .rf 6 0 (sall a b sz da m i).length 1], 24, 0, false⟩), (5, ⟨ints .i64 rsz, 3, 1, true⟩), (6, ⟨ints .i64 (sall a b sz da m i), 3, 1, false⟩)]) (by simp (disch := (first | omega | (simp only [go_sem, ↓reduceIte, Nat.reduceEqDiff, Nat.reduceAdd, Nat.reduceMul, Nat.reduceSub, Nat.reduceLT, Nat.reduceLeDiff, Nat.reduceBNe, Nat.reduceBEq, Int.reduceToNat, Int.reduceAdd, Int.reduceSub, Int.reduceMul, Int.reduceLT, Int.reduceLE, Int.reduceNeg, Int.reduceBEq, Int.reduceBNe, Int.reduceEq, beq_self_eq_true, reduceCtorEq, decide_true, decide_false, if_pos, if_neg]; first | done | omega))) only [go_sem, ↓reduceIte, Nat.reduceEqDiff, Nat.reduceAdd, Nat.reduceMul, Nat.reduceSub, Nat.reduceLT, Nat.reduceLeDiff, Nat.reduceBNe, Nat.reduceBEq, Int.reduceToNat, Int.reduceAdd, Int.reduceSub, Int.reduceMul, Int.reduceLT, Int.reduceLE, Int.reduceNeg, Int.reduceBEq, Int.reduceBNe, Int.reduceEq, beq_self_eq_true, reduceCtorEq, decide_true, decide_false, if_pos, if_neg] <;> rfl) (frz_one rfl rfl) (by simp (disch := (first | omega | (simp only [go_sem, ↓reduceIte, Nat.reduceEqDiff, Nat.reduceAdd, Nat.reduceMul, Nat.reduceSub, Nat.reduceLT, Nat.reduceLeDiff, Nat.reduceBNe, Nat.reduceBEq, Int.reduceToNat, Int.reduceAdd, Int.reduceSub, Int.reduceMul, Int.reduceLT, Int.reduceLE, Int.reduceNeg, Int.reduceBEq, Int.reduceBNe, Int.reduceEq, beq_self_eq_true, reduceCtorEq, decide_true, decide_false, if_pos, if_neg]; first | done | omega))) only [go_sem, ↓reduceIte, Nat.reduceEqDiff, Nat.reduceAdd, Nat.reduceMul, Nat.reduceSub, Nat.reduceLT, Nat.reduceLeDiff, Nat.reduceBNe, Nat.reduceBEq, Int.reduceToNat, Int.reduceAdd, Int.reduceSub, Int.reduceMul, Int.reduceLT, Int.reduceLE, Int.reduceNeg, Int.reduceBEq, Int.reduceBNe, Int.reduceEq, beq_self_eq_true, reduceCtorEq, decide_true, decide_false, if_pos, if_neg]) rfl (posL_len rsz) (by decide) ⟨rfl, rfl, rfl, rfl, rfl, trivial⟩ (Pins.at_ ⟨rfl, rfl, rfl, rfl, rfl, trivial⟩) rfl ?_ ?_
      · intro l i d hi
        obtain ⟨hip, rfl⟩ := posL_get hi
        obtain ⟨c1, c2, _, _⟩ := seqP_ok (sz := rsz) (by omega) hrs (n := i) hip
        rw [hrsz, points_swp ha hb] at hip
        obtain ⟨q1, q2⟩ := snum_ok h4 hs ha hb hip
        have q3 := blk_ok hl q2
        have hw := (place_ok hR q1).1
        rw [Int.toNat_natCast] at hw
        have hsl := sall_length h4 hs ha hb hl i (by omega)
        have hml : i * m ≤ points sz * m := Nat.mul_le_mul_right m (by omega)
        have c38 := con38 sz m da (swp a b (seqP (swp a b sz) i)) h4 (by rw [swp_length, ← hrsz, c1]) _ hw o1 (by unfold snum at q3; omega) hd
        rw [Int.toNat_natCast, ← hrsz] at c38
        have hsn : (pv sz (swp a b (seqP rsz i)) sz.length).toNat = snum a b sz i := by rw [hrsz]; rfl
        rw [hsn] at c38
        simp only [swp] at c38
        simp only [putAll]
        refine go ?_
        refine callf (c38) ?_
        refine go ?_
        have hmin : min m (da.length - snum a b sz i * m) = m := by omega
        refine R_nilG [0, 1, 2, 3, 4, 5, 8] ?_ (by decide) ?_ ?_; (simp (disch := (first | omega | (simp only [go_sem, ↓reduceIte, Nat.reduceEqDiff, Nat.reduceAdd, Nat.reduceMul, Nat.reduceSub, Nat.reduceLT, Nat.reduceLeDiff, Nat.reduceBNe, Nat.reduceBEq, Int.reduceToNat, Int.reduceAdd, Int.reduceSub, Int.reduceMul, Int.reduceLT, Int.reduceLE, Int.reduceNeg, Int.reduceBEq, Int.reduceBNe, Int.reduceEq, beq_self_eq_true, reduceCtorEq, decide_true, decide_false, if_pos, if_neg]; first | done | omega))) only [go_sem, ↓reduceIte, Nat.reduceEqDiff, Nat.reduceAdd, Nat.reduceMul, Nat.reduceSub, Nat.reduceLT, Nat.reduceLeDiff, Nat.reduceBNe, Nat.reduceBEq, Int.reduceToNat, Int.reduceAdd, Int.reduceSub, Int.reduceMul, Int.reduceLT, Int.reduceLE, Int.reduceNeg, Int.reduceBEq, Int.reduceBNe, Int.reduceEq, beq_self_eq_true, reduceCtorEq, decide_true, decide_false, if_pos, if_neg, sall, blk, hmin]); (exact Nat.le_of_ble_eq_true rfl); (unfold Pin; decide)
      · intro dm
        have hpl : (posL rsz).length = points sz := by simp only [posL, List.length_map, List.length_range]; rw [hrsz, points_swp ha hb]
        refine go ?_
        refine R_ret (fin_data (by simp (disch := (first | omega | (simp only [go_sem, ↓reduceIte, Nat.reduceEqDiff, Nat.reduceAdd, Nat.reduceMul, Nat.reduceSub, Nat.reduceLT, Nat.reduceLeDiff, Nat.reduceBNe, Nat.reduceBEq, Int.reduceToNat, Int.reduceAdd, Int.reduceSub, Int.reduceMul, Int.reduceLT, Int.reduceLE, Int.reduceNeg, Int.reduceBEq, Int.reduceBNe, Int.reduceEq, beq_self_eq_true, reduceCtorEq, decide_true, decide_false, if_pos, if_neg]; first | done | omega))) only [go_sem, ↓reduceIte, Nat.reduceEqDiff, Nat.reduceAdd, Nat.reduceMul, Nat.reduceSub, Nat.reduceLT, Nat.reduceLeDiff, Nat.reduceBNe, Nat.reduceBEq, Int.reduceToNat, Int.reduceAdd, Int.reduceSub, Int.reduceMul, Int.reduceLT, Int.reduceLE, Int.reduceNeg, Int.reduceBEq, Int.reduceBNe, Int.reduceEq, beq_self_eq_true, reduceCtorEq, decide_true, decide_false, if_pos, if_neg, gr, hpl, hrl] <;> rfl) (by simp (disch := (first | omega | (simp only [go_sem, ↓reduceIte, Nat.reduceEqDiff, Nat.reduceAdd, Nat.reduceMul, Nat.reduceSub, Nat.reduceLT, Nat.reduceLeDiff, Nat.reduceBNe, Nat.reduceBEq, Int.reduceToNat, Int.reduceAdd, Int.reduceSub, Int.reduceMul, Int.reduceLT, Int.reduceLE, Int.reduceNeg, Int.reduceBEq, Int.reduceBNe, Int.reduceEq, beq_self_eq_true, reduceCtorEq, decide_true, decide_false, if_pos, if_neg]; first | done | omega))) only [go_sem, ↓reduceIte, Nat.reduceEqDiff, Nat.reduceAdd, Nat.reduceMul, Nat.reduceSub, Nat.reduceLT, Nat.reduceLeDiff, Nat.reduceBNe, Nat.reduceBEq, Int.reduceToNat, Int.reduceAdd, Int.reduceSub, Int.reduceMul, Int.reduceLT, Int.reduceLE, Int.reduceNeg, Int.reduceBEq, Int.reduceBNe, Int.reduceEq, beq_self_eq_true, reduceCtorEq, decide_true, decide_false, if_pos, if_neg, gr, hpl, hrl]))
end Go.Proofs.Ytndigibhmfegaaa.V

/-
  Swap at inputs that are not there; the reference's pick.
-/
set_option linter.unusedSimpArgs false
set_option linter.unusedVariables false
set_option maxHeartbeats 4000000
namespace Go.Proofs.Ytndigibhmfegaaa.V
open Go Go.Proofs Go.RowKit

theorem con19b (sz : List Int) (o : Int) (da : List Int) (a b : Int) (h1 : Right sz o da) (hab : ¬ (0 ≤ a ∧ a < sz.length ∧ 0 ≤ b ∧ b < sz.length)) : Con Try.prog 19 [gr sz o da, .sc (.int .i64 a), .sc (.int .i64 b)] (.tp [.ag [.em, .sc (.int .i64 0), .em], .sc (.int .i64 2)]) [] := by
  have hz := h1.1
  have h4 := h1.2.1
  refine Con.of_body [(0, gr sz o da), (1, .sc (.int .i64 a)), (2, .sc (.int .i64 b))] Try.func19 rfl ca19 105 rfl (by simp) rfl ?_; refine T_of_R ?_
  refine go ?_
  refine call (con36t h1) ?_
  refine go ?_
  refine cnd (fun h => ?_) (fun h => ?_)
  · cases h
  · refine go ?_
    refine call (con41 _ _ _) ?_
    refine go ?_
    refine callg (fun hg => con41 _ _ _) ?_
    refine go ?_
    refine cnd (fun h => ?_) (fun h => ?_)
    · refine go ?_
      refine R_ret (fin_of (ids := []) (by simp (disch := (first | omega | (simp only [go_sem, ↓reduceIte, Nat.reduceEqDiff, Nat.reduceAdd, Nat.reduceMul, Nat.reduceSub, Nat.reduceLT, Nat.reduceLeDiff, Nat.reduceBNe, Nat.reduceBEq, Int.reduceToNat, Int.reduceAdd, Int.reduceSub, Int.reduceMul, Int.reduceLT, Int.reduceLE, Int.reduceNeg, Int.reduceBEq, Int.reduceBNe, Int.reduceEq, beq_self_eq_true, reduceCtorEq, decide_true, decide_false, if_pos, if_neg]; first | done | omega))) only [go_sem, ↓reduceIte, Nat.reduceEqDiff, Nat.reduceAdd, Nat.reduceMul, Nat.reduceSub, Nat.reduceLT, Nat.reduceLeDiff, Nat.reduceBNe, Nat.reduceBEq, Int.reduceToNat, Int.reduceAdd, Int.reduceSub, Int.reduceMul, Int.reduceLT, Int.reduceLE, Int.reduceNeg, Int.reduceBEq, Int.reduceBNe, Int.reduceEq, beq_self_eq_true, reduceCtorEq, decide_true, decide_false, if_pos, if_neg] <;> rfl) (by simp (disch := (first | omega | (simp only [go_sem, ↓reduceIte, Nat.reduceEqDiff, Nat.reduceAdd, Nat.reduceMul, Nat.reduceSub, Nat.reduceLT, Nat.reduceLeDiff, Nat.reduceBNe, Nat.reduceBEq, Int.reduceToNat, Int.reduceAdd, Int.reduceSub, Int.reduceMul, Int.reduceLT, Int.reduceLE, Int.reduceNeg, Int.reduceBEq, Int.reduceBNe, Int.reduceEq, beq_self_eq_true, reduceCtorEq, decide_true, decide_false, if_pos, if_neg]; first | done | omega))) only [go_sem, ↓reduceIte, Nat.reduceEqDiff, Nat.reduceAdd, Nat.reduceMul, Nat.reduceSub, Nat.reduceLT, Nat.reduceLeDiff, Nat.reduceBNe, Nat.reduceBEq, Int.reduceToNat, Int.reduceAdd, Int.reduceSub, Int.reduceMul, Int.reduceLT, Int.reduceLE, Int.reduceNeg, Int.reduceBEq, Int.reduceBNe, Int.reduceEq, beq_self_eq_true, reduceCtorEq, decide_true, decide_false, if_pos, if_neg]) (by decide) (by simp (disch := (first | omega | (simp only [go_sem, ↓reduceIte, Nat.reduceEqDiff, Nat.reduceAdd, Nat.reduceMul, Nat.reduceSub, Nat.reduceLT, Nat.reduceLeDiff, Nat.reduceBNe, Nat.reduceBEq, Int.reduceToNat, Int.reduceAdd, Int.reduceSub, Int.reduceMul, Int.reduceLT, Int.reduceLE, Int.reduceNeg, Int.reduceBEq, Int.reduceBNe, Int.reduceEq, beq_self_eq_true, reduceCtorEq, decide_true, decide_false, if_pos, if_neg]; first | done | omega))) only [go_sem, ↓reduceIte, Nat.reduceEqDiff, Nat.reduceAdd, Nat.reduceMul, Nat.reduceSub, Nat.reduceLT, Nat.reduceLeDiff, Nat.reduceBNe, Nat.reduceBEq, Int.reduceToNat, Int.reduceAdd, Int.reduceSub, Int.reduceMul, Int.reduceLT, Int.reduceLE, Int.reduceNeg, Int.reduceBEq, Int.reduceBNe, Int.reduceEq, beq_self_eq_true, reduceCtorEq, decide_true, decide_false, if_pos, if_neg]))
    · simp only [decide_eq_true_eq, decide_eq_false_iff_not, Bool.or_eq_true, Bool.and_eq_true, Bool.or_eq_false_iff, Bool.and_eq_false_iff, Bool.not_eq_true', Bool.not_eq_false', bne_iff_ne, beq_iff_eq, ne_eq, bne_eq_false_iff_eq, beq_eq_false_iff_ne, ge_iff_le, gt_iff_lt, Int.not_le, Int.not_lt] at h
      omega
theorem con18b (sz : List Int) (o : Int) (da : List Int) (a b : Int) (h1 : Right sz o da) (hab : ¬ (0 ≤ a ∧ a < sz.length ∧ 0 ≤ b ∧ b < sz.length)) : Con Try.prog 18 [gr sz o da, .sc (.int .i64 a), .sc (.int .i64 b)] (.tp [.ag [.em, .sc (.int .i64 0), .em], .sc (.int .i64 2)]) [] := by
  have hz := h1.1
  have h4 := h1.2.1
  refine Con.of_body [(0, gr sz o da), (1, .sc (.int .i64 a)), (2, .sc (.int .i64 b))] Try.func18 rfl ca18 86 rfl (by simp) rfl ?_; refine T_of_R ?_
  refine go ?_
  refine call (con25t h1) ?_
  refine go ?_
  refine cnd (fun h => ?_) (fun h => ?_)
  · cases h
  · refine go ?_
    refine call (con39 sz o da _) ?_
    refine go ?_
    refine callg (fun hg => con39 sz o da _) ?_
    refine go ?_
    refine cnd (fun h => ?_) (fun h => ?_)
    · refine go ?_
      refine R_ret (fin_of (ids := []) (by simp (disch := (first | omega | (simp only [go_sem, ↓reduceIte, Nat.reduceEqDiff, Nat.reduceAdd, Nat.reduceMul, Nat.reduceSub, Nat.reduceLT, Nat.reduceLeDiff, Nat.reduceBNe, Nat.reduceBEq, Int.reduceToNat, Int.reduceAdd, Int.reduceSub, Int.reduceMul, Int.reduceLT, Int.reduceLE, Int.reduceNeg, Int.reduceBEq, Int.reduceBNe, Int.reduceEq, beq_self_eq_true, reduceCtorEq, decide_true, decide_false, if_pos, if_neg]; first | done | omega))) only [go_sem, ↓reduceIte, Nat.reduceEqDiff, Nat.reduceAdd, Nat.reduceMul, Nat.reduceSub, Nat.reduceLT, Nat.reduceLeDiff, Nat.reduceBNe, Nat.reduceBEq, Int.reduceToNat, Int.reduceAdd, Int.reduceSub, Int.reduceMul, Int.reduceLT, Int.reduceLE, Int.reduceNeg, Int.reduceBEq, Int.reduceBNe, Int.reduceEq, beq_self_eq_true, reduceCtorEq, decide_true, decide_false, if_pos, if_neg] <;> rfl) (by simp (disch := (first | omega | (simp only [go_sem, ↓reduceIte, Nat.reduceEqDiff, Nat.reduceAdd, Nat.reduceMul, Nat.reduceSub, Nat.reduceLT, Nat.reduceLeDiff, Nat.reduceBNe, Nat.reduceBEq, Int.reduceToNat, Int.reduceAdd, Int.reduceSub, Int.reduceMul, Int.reduceLT, Int.reduceLE, Int.reduceNeg, Int.reduceBEq, Int.reduceBNe, Int.reduceEq, beq_self_eq_true, reduceCtorEq, decide_true, decide_false, if_pos, if_neg]; first | done | omega))) only [go_sem, ↓reduceIte, Nat.reduceEqDiff, Nat.reduceAdd, Nat.reduceMul, Nat.reduceSub, Nat.reduceLT, Nat.reduceLeDiff, Nat.reduceBNe, Nat.reduceBEq, Int.reduceToNat, Int.reduceAdd, Int.reduceSub, Int.reduceMul, Int.reduceLT, Int.reduceLE, Int.reduceNeg, Int.reduceBEq, Int.reduceBNe, Int.reduceEq, beq_self_eq_true, reduceCtorEq, decide_true, decide_false, if_pos, if_neg]) (by decide) (by simp (disch := (first | omega | (simp only [go_sem, ↓reduceIte, Nat.reduceEqDiff, Nat.reduceAdd, Nat.reduceMul, Nat.reduceSub, Nat.reduceLT, Nat.reduceLeDiff, Nat.reduceBNe, Nat.reduceBEq, Int.reduceToNat, Int.reduceAdd, Int.reduceSub, Int.reduceMul, Int.reduceLT, Int.reduceLE, Int.reduceNeg, Int.reduceBEq, Int.reduceBNe, Int.reduceEq, beq_self_eq_true, reduceCtorEq, decide_true, decide_false, if_pos, if_neg]; first | done | omega))) only [go_sem, ↓reduceIte, Nat.reduceEqDiff, Nat.reduceAdd, Nat.reduceMul, Nat.reduceSub, Nat.reduceLT, Nat.reduceLeDiff, Nat.reduceBNe, Nat.reduceBEq, Int.reduceToNat, Int.reduceAdd, Int.reduceSub, Int.reduceMul, Int.reduceLT, Int.reduceLE, Int.reduceNeg, Int.reduceBEq, Int.reduceBNe, Int.reduceEq, beq_self_eq_true, reduceCtorEq, decide_true, decide_false, if_pos, if_neg]))
    · simp only [decide_eq_true_eq, decide_eq_false_iff_not, Bool.or_eq_true, Bool.and_eq_true, Bool.or_eq_false_iff, Bool.and_eq_false_iff, Bool.not_eq_true', Bool.not_eq_false', bne_iff_ne, beq_iff_eq, ne_eq, bne_eq_false_iff_eq, beq_eq_false_iff_ne, ge_iff_le, gt_iff_lt, Int.not_le, Int.not_lt] at h
      omega

/-- The chosen values. -/
def prow (da : List Int) (m : Nat) (os : List Int) (n : Nat) : Nat → List Int
  | 0 => []
  | i + 1 => prow da m os n i ++ [da.getD (n * m + (os.getD i 0).toNat) 0]
def pall (da : List Int) (m : Nat) (os : List Int) : Nat → List Int
  | 0 => []
  | n + 1 => pall da m os n ++ prow da m os n os.length
theorem prow_length (da : List Int) (m : Nat) (os : List Int) (n : Nat) : ∀ i, (prow da m os n i).length = i
  | 0 => rfl
  | i + 1 => by simp [prow, prow_length da m os n i]
theorem pall_length (da : List Int) (m : Nat) (os : List Int) : ∀ n, (pall da m os n).length = n * os.length
  | 0 => by simp [pall]
  | n + 1 => by simp [pall, pall_length da m os n, prow_length, Nat.add_mul]
def pdat (da : List Int) (m : Nat) (os : List Int) (n i : Nat) : List Int := pall da m os n ++ prow da m os n i
theorem pdat_length (da : List Int) (m : Nat) (os : List Int) (n i : Nat) : (pdat da m os n i).length = n * os.length + i := by simp [pdat, pall_length, prow_length]
theorem pdat_zero (da : List Int) (m : Nat) (os : List Int) (n : Nat) : pdat da m os n 0 = pall da m os n := by simp [pdat, prow]
theorem pdat_all (da : List Int) (m : Nat) (os : List Int) (n : Nat) : pdat da m os n os.length = pall da m os (n + 1) := by simp [pdat, pall]
theorem pdat_succ (da : List Int) (m : Nat) (os : List Int) (n i : Nat) : pdat da m os n (i + 1) = pdat da m os n i ++ [da.getD (n * m + (os.getD i 0).toNat) 0] := by simp [pdat, prow]
/-- Outputs of a grid. -/
def Pk (m : Int) (os : List Int) : Prop := ∀ i, i < os.length → 0 ≤ os.getD i 0 ∧ os.getD i 0 < m

theorem con22a (sz : List Int) (o : Int) (da os : List Int) (h1 : ¬ Right sz o da) : Con Try.prog 22 [gr sz o da, .sl os.length (ints .i64 os)] (.tp [.ag [.em, .sc (.int .i64 0), .em], .sc (.int .i64 100)]) [] := by
  refine Con.of_body [(0, gr sz o da), (1, .sl os.length (ints .i64 os))] Try.func22 rfl ca22 82 rfl (by simp) rfl ?_; refine T_of_R ?_
  refine go ?_
  refine call (con36f h1) ?_
  refine go ?_
  refine cnd (fun h => ?_) (fun h => ?_)
  · refine go ?_
    refine R_ret (fin_of (ids := []) (by simp (disch := (first | omega | (simp only [go_sem, ↓reduceIte, Nat.reduceEqDiff, Nat.reduceAdd, Nat.reduceMul, Nat.reduceSub, Nat.reduceLT, Nat.reduceLeDiff, Nat.reduceBNe, Nat.reduceBEq, Int.reduceToNat, Int.reduceAdd, Int.reduceSub, Int.reduceMul, Int.reduceLT, Int.reduceLE, Int.reduceNeg, Int.reduceBEq, Int.reduceBNe, Int.reduceEq, beq_self_eq_true, reduceCtorEq, decide_true, decide_false, if_pos, if_neg]; first | done | omega))) only [go_sem, ↓reduceIte, Nat.reduceEqDiff, Nat.reduceAdd, Nat.reduceMul, Nat.reduceSub, Nat.reduceLT, Nat.reduceLeDiff, Nat.reduceBNe, Nat.reduceBEq, Int.reduceToNat, Int.reduceAdd, Int.reduceSub, Int.reduceMul, Int.reduceLT, Int.reduceLE, Int.reduceNeg, Int.reduceBEq, Int.reduceBNe, Int.reduceEq, beq_self_eq_true, reduceCtorEq, decide_true, decide_false, if_pos, if_neg] <;> rfl) (by simp (disch := (first | omega | (simp only [go_sem, ↓reduceIte, Nat.reduceEqDiff, Nat.reduceAdd, Nat.reduceMul, Nat.reduceSub, Nat.reduceLT, Nat.reduceLeDiff, Nat.reduceBNe, Nat.reduceBEq, Int.reduceToNat, Int.reduceAdd, Int.reduceSub, Int.reduceMul, Int.reduceLT, Int.reduceLE, Int.reduceNeg, Int.reduceBEq, Int.reduceBNe, Int.reduceEq, beq_self_eq_true, reduceCtorEq, decide_true, decide_false, if_pos, if_neg]; first | done | omega))) only [go_sem, ↓reduceIte, Nat.reduceEqDiff, Nat.reduceAdd, Nat.reduceMul, Nat.reduceSub, Nat.reduceLT, Nat.reduceLeDiff, Nat.reduceBNe, Nat.reduceBEq, Int.reduceToNat, Int.reduceAdd, Int.reduceSub, Int.reduceMul, Int.reduceLT, Int.reduceLE, Int.reduceNeg, Int.reduceBEq, Int.reduceBNe, Int.reduceEq, beq_self_eq_true, reduceCtorEq, decide_true, decide_false, if_pos, if_neg]) (by decide) (by simp (disch := (first | omega | (simp only [go_sem, ↓reduceIte, Nat.reduceEqDiff, Nat.reduceAdd, Nat.reduceMul, Nat.reduceSub, Nat.reduceLT, Nat.reduceLeDiff, Nat.reduceBNe, Nat.reduceBEq, Int.reduceToNat, Int.reduceAdd, Int.reduceSub, Int.reduceMul, Int.reduceLT, Int.reduceLE, Int.reduceNeg, Int.reduceBEq, Int.reduceBNe, Int.reduceEq, beq_self_eq_true, reduceCtorEq, decide_true, decide_false, if_pos, if_neg]; first | done | omega))) only [go_sem, ↓reduceIte, Nat.reduceEqDiff, Nat.reduceAdd, Nat.reduceMul, Nat.reduceSub, Nat.reduceLT, Nat.reduceLeDiff, Nat.reduceBNe, Nat.reduceBEq, Int.reduceToNat, Int.reduceAdd, Int.reduceSub, Int.reduceMul, Int.reduceLT, Int.reduceLE, Int.reduceNeg, Int.reduceBEq, Int.reduceBNe, Int.reduceEq, beq_self_eq_true, reduceCtorEq, decide_true, decide_false, if_pos, if_neg]))
  · cases h
theorem con22b (sz : List Int) (o : Int) (da os : List Int) (h1 : Right sz o da) (ho : ¬ (1 ≤ os.length ∧ os.length ≤ 4)) : Con Try.prog 22 [gr sz o da, .sl os.length (ints .i64 os)] (.tp [.ag [.em, .sc (.int .i64 0), .em], .sc (.int .i64 2)]) [] := by
  refine Con.of_body [(0, gr sz o da), (1, .sl os.length (ints .i64 os))] Try.func22 rfl ca22 82 rfl (by simp) rfl ?_; refine T_of_R ?_
  refine go ?_
  refine call (con36t h1) ?_
  refine go ?_
  refine cnd (fun h => ?_) (fun h => ?_)
  · cases h
  · refine go ?_
    refine call (con41 _ _ _) ?_
    refine go ?_
    refine cnd (fun h => ?_) (fun h => ?_)
    · refine go ?_
      refine R_ret (fin_of (ids := []) (by simp (disch := (first | omega | (simp only [go_sem, ↓reduceIte, Nat.reduceEqDiff, Nat.reduceAdd, Nat.reduceMul, Nat.reduceSub, Nat.reduceLT, Nat.reduceLeDiff, Nat.reduceBNe, Nat.reduceBEq, Int.reduceToNat, Int.reduceAdd, Int.reduceSub, Int.reduceMul, Int.reduceLT, Int.reduceLE, Int.reduceNeg, Int.reduceBEq, Int.reduceBNe, Int.reduceEq, beq_self_eq_true, reduceCtorEq, decide_true, decide_false, if_pos, if_neg]; first | done | omega))) only [go_sem, ↓reduceIte, Nat.reduceEqDiff, Nat.reduceAdd, Nat.reduceMul, Nat.reduceSub, Nat.reduceLT, Nat.reduceLeDiff, Nat.reduceBNe, Nat.reduceBEq, Int.reduceToNat, Int.reduceAdd, Int.reduceSub, Int.reduceMul, Int.reduceLT, Int.reduceLE, Int.reduceNeg, Int.reduceBEq, Int.reduceBNe, Int.reduceEq, beq_self_eq_true, reduceCtorEq, decide_true, decide_false, if_pos, if_neg] <;> rfl) (by simp (disch := (first | omega | (simp only [go_sem, ↓reduceIte, Nat.reduceEqDiff, Nat.reduceAdd, Nat.reduceMul, Nat.reduceSub, Nat.reduceLT, Nat.reduceLeDiff, Nat.reduceBNe, Nat.reduceBEq, Int.reduceToNat, Int.reduceAdd, Int.reduceSub, Int.reduceMul, Int.reduceLT, Int.reduceLE, Int.reduceNeg, Int.reduceBEq, Int.reduceBNe, Int.reduceEq, beq_self_eq_true, reduceCtorEq, decide_true, decide_false, if_pos, if_neg]; first | done | omega))) only [go_sem, ↓reduceIte, Nat.reduceEqDiff, Nat.reduceAdd, Nat.reduceMul, Nat.reduceSub, Nat.reduceLT, Nat.reduceLeDiff, Nat.reduceBNe, Nat.reduceBEq, Int.reduceToNat, Int.reduceAdd, Int.reduceSub, Int.reduceMul, Int.reduceLT, Int.reduceLE, Int.reduceNeg, Int.reduceBEq, Int.reduceBNe, Int.reduceEq, beq_self_eq_true, reduceCtorEq, decide_true, decide_false, if_pos, if_neg]) (by decide) (by simp (disch := (first | omega | (simp only [go_sem, ↓reduceIte, Nat.reduceEqDiff, Nat.reduceAdd, Nat.reduceMul, Nat.reduceSub, Nat.reduceLT, Nat.reduceLeDiff, Nat.reduceBNe, Nat.reduceBEq, Int.reduceToNat, Int.reduceAdd, Int.reduceSub, Int.reduceMul, Int.reduceLT, Int.reduceLE, Int.reduceNeg, Int.reduceBEq, Int.reduceBNe, Int.reduceEq, beq_self_eq_true, reduceCtorEq, decide_true, decide_false, if_pos, if_neg]; first | done | omega))) only [go_sem, ↓reduceIte, Nat.reduceEqDiff, Nat.reduceAdd, Nat.reduceMul, Nat.reduceSub, Nat.reduceLT, Nat.reduceLeDiff, Nat.reduceBNe, Nat.reduceBEq, Int.reduceToNat, Int.reduceAdd, Int.reduceSub, Int.reduceMul, Int.reduceLT, Int.reduceLE, Int.reduceNeg, Int.reduceBEq, Int.reduceBNe, Int.reduceEq, beq_self_eq_true, reduceCtorEq, decide_true, decide_false, if_pos, if_neg]))
    · simp only [decide_eq_true_eq, decide_eq_false_iff_not, Bool.or_eq_true, Bool.and_eq_true, Bool.or_eq_false_iff, Bool.and_eq_false_iff, Bool.not_eq_true', Bool.not_eq_false', bne_iff_ne, beq_iff_eq, ne_eq, bne_eq_false_iff_eq, beq_eq_false_iff_ne, ge_iff_le, gt_iff_lt, Int.not_le, Int.not_lt] at h
      omega
theorem con22c (sz : List Int) (o : Int) (da os : List Int) (h1 : Right sz o da) (ho : 1 ≤ os.length ∧ os.length ≤ 4) (hk : ¬ Pk o os) : Con Try.prog 22 [gr sz o da, .sl os.length (ints .i64 os)] (.tp [.ag [.em, .sc (.int .i64 0), .em], .sc (.int .i64 2)]) [] := by
  obtain ⟨b, ⟨hb1, hb2⟩, hmin⟩ := first_bad (n := os.length) (p := fun k => 0 ≤ os.getD k 0 ∧ os.getD k 0 < o) hk
  have ho4 := h1.2.2.2.1
  have ho1 := h1.2.2.1
  refine Con.of_body [(0, gr sz o da), (1, .sl os.length (ints .i64 os))] Try.func22 rfl ca22 82 rfl (by simp) rfl ?_; refine T_of_R ?_
  refine go ?_
  refine call (con36t h1) ?_
  refine go ?_
  refine cnd (fun h => ?_) (fun h => ?_)
  · cases h
  · refine go ?_
    refine call (con41 _ _ _) ?_
    refine go ?_
    refine cnd (fun h => ?_) (fun h => ?_)
    · simp only [decide_eq_true_eq, decide_eq_false_iff_not, Bool.or_eq_true, Bool.and_eq_true, Bool.or_eq_false_iff, Bool.and_eq_false_iff, Bool.not_eq_true', Bool.not_eq_false', bne_iff_ne, beq_iff_eq, ne_eq, bne_eq_false_iff_eq, beq_eq_false_iff_ne, ge_iff_le, gt_iff_lt, Int.not_le, Int.not_lt] at h
      omega
    · clear h
      refine go ?_
      refine R_loop (fun i : Nat => ⟨tl [(1, .sl os.length (ints .i64 os)), (2, .pt 0 0), (4, .pt 1 0), (6, .sc (.int .i64 i))], ol [(0, ⟨[.sl sz.length (ints .i64 sz), .sc (.int .i64 o), .sl da.length (ints .i64 da)], 24, 0, false⟩), (1, ⟨[.em, .sc (.int .i64 0), .em], 24, 0, false⟩)], 2, [], 82⟩) (fun i => i ≤ b) (fun i => b - i) 0 [0, 1] (Less.mk' (by simp (disch := (first | omega | (simp only [go_sem, ↓reduceIte, Nat.reduceEqDiff, Nat.reduceAdd, Nat.reduceMul, Nat.reduceSub, Nat.reduceLT, Nat.reduceLeDiff, Nat.reduceBNe, Nat.reduceBEq, Int.reduceToNat, Int.reduceAdd, Int.reduceSub, Int.reduceMul, Int.reduceLT, Int.reduceLE, Int.reduceNeg, Int.reduceBEq, Int.reduceBNe, Int.reduceEq, beq_self_eq_true, reduceCtorEq, decide_true, decide_false, if_pos, if_neg]; first | done | omega))) only [go_sem, ↓reduceIte, Nat.reduceEqDiff, Nat.reduceAdd, Nat.reduceMul, Nat.reduceSub, Nat.reduceLT, Nat.reduceLeDiff, Nat.reduceBNe, Nat.reduceBEq, Int.reduceToNat, Int.reduceAdd, Int.reduceSub, Int.reduceMul, Int.reduceLT, Int.reduceLE, Int.reduceNeg, Int.reduceBEq, Int.reduceBNe, Int.reduceEq, beq_self_eq_true, reduceCtorEq, decide_true, decide_false, if_pos, if_neg]) (by simp (disch := (first | omega | (simp only [go_sem, ↓reduceIte, Nat.reduceEqDiff, Nat.reduceAdd, Nat.reduceMul, Nat.reduceSub, Nat.reduceLT, Nat.reduceLeDiff, Nat.reduceBNe, Nat.reduceBEq, Int.reduceToNat, Int.reduceAdd, Int.reduceSub, Int.reduceMul, Int.reduceLT, Int.reduceLE, Int.reduceNeg, Int.reduceBEq, Int.reduceBNe, Int.reduceEq, beq_self_eq_true, reduceCtorEq, decide_true, decide_false, if_pos, if_neg]; first | done | omega))) only [go_sem, ↓reduceIte, Nat.reduceEqDiff, Nat.reduceAdd, Nat.reduceMul, Nat.reduceSub, Nat.reduceLT, Nat.reduceLeDiff, Nat.reduceBNe, Nat.reduceBEq, Int.reduceToNat, Int.reduceAdd, Int.reduceSub, Int.reduceMul, Int.reduceLT, Int.reduceLE, Int.reduceNeg, Int.reduceBEq, Int.reduceBNe, Int.reduceEq, beq_self_eq_true, reduceCtorEq, decide_true, decide_false, if_pos, if_neg]) (by decide) (by decide)) (by omega) fun i hi => ?_
      refine go ?_
      refine cnd (fun h => ?_) (fun h => ?_)
      · simp only [decide_eq_true_eq, decide_eq_false_iff_not, Bool.or_eq_true, Bool.and_eq_true, Bool.or_eq_false_iff, Bool.and_eq_false_iff, Bool.not_eq_true', Bool.not_eq_false', bne_iff_ne, beq_iff_eq, ne_eq, bne_eq_false_iff_eq, beq_eq_false_iff_ne, ge_iff_le, gt_iff_lt, Int.not_le, Int.not_lt] at h
        refine go ?_
        refine call (con41 _ _ _) ?_
        refine go ?_
        refine cnd (fun h => ?_) (fun h => ?_)
        · refine go ?_
          refine R_ret (fin_of (ids := []) (by simp (disch := (first | omega | (simp only [go_sem, ↓reduceIte, Nat.reduceEqDiff, Nat.reduceAdd, Nat.reduceMul, Nat.reduceSub, Nat.reduceLT, Nat.reduceLeDiff, Nat.reduceBNe, Nat.reduceBEq, Int.reduceToNat, Int.reduceAdd, Int.reduceSub, Int.reduceMul, Int.reduceLT, Int.reduceLE, Int.reduceNeg, Int.reduceBEq, Int.reduceBNe, Int.reduceEq, beq_self_eq_true, reduceCtorEq, decide_true, decide_false, if_pos, if_neg]; first | done | omega))) only [go_sem, ↓reduceIte, Nat.reduceEqDiff, Nat.reduceAdd, Nat.reduceMul, Nat.reduceSub, Nat.reduceLT, Nat.reduceLeDiff, Nat.reduceBNe, Nat.reduceBEq, Int.reduceToNat, Int.reduceAdd, Int.reduceSub, Int.reduceMul, Int.reduceLT, Int.reduceLE, Int.reduceNeg, Int.reduceBEq, Int.reduceBNe, Int.reduceEq, beq_self_eq_true, reduceCtorEq, decide_true, decide_false, if_pos, if_neg] <;> rfl) (by simp (disch := (first | omega | (simp only [go_sem, ↓reduceIte, Nat.reduceEqDiff, Nat.reduceAdd, Nat.reduceMul, Nat.reduceSub, Nat.reduceLT, Nat.reduceLeDiff, Nat.reduceBNe, Nat.reduceBEq, Int.reduceToNat, Int.reduceAdd, Int.reduceSub, Int.reduceMul, Int.reduceLT, Int.reduceLE, Int.reduceNeg, Int.reduceBEq, Int.reduceBNe, Int.reduceEq, beq_self_eq_true, reduceCtorEq, decide_true, decide_false, if_pos, if_neg]; first | done | omega))) only [go_sem, ↓reduceIte, Nat.reduceEqDiff, Nat.reduceAdd, Nat.reduceMul, Nat.reduceSub, Nat.reduceLT, Nat.reduceLeDiff, Nat.reduceBNe, Nat.reduceBEq, Int.reduceToNat, Int.reduceAdd, Int.reduceSub, Int.reduceMul, Int.reduceLT, Int.reduceLE, Int.reduceNeg, Int.reduceBEq, Int.reduceBNe, Int.reduceEq, beq_self_eq_true, reduceCtorEq, decide_true, decide_false, if_pos, if_neg]) (by decide) (by simp (disch := (first | omega | (simp only [go_sem, ↓reduceIte, Nat.reduceEqDiff, Nat.reduceAdd, Nat.reduceMul, Nat.reduceSub, Nat.reduceLT, Nat.reduceLeDiff, Nat.reduceBNe, Nat.reduceBEq, Int.reduceToNat, Int.reduceAdd, Int.reduceSub, Int.reduceMul, Int.reduceLT, Int.reduceLE, Int.reduceNeg, Int.reduceBEq, Int.reduceBNe, Int.reduceEq, beq_self_eq_true, reduceCtorEq, decide_true, decide_false, if_pos, if_neg]; first | done | omega))) only [go_sem, ↓reduceIte, Nat.reduceEqDiff, Nat.reduceAdd, Nat.reduceMul, Nat.reduceSub, Nat.reduceLT, Nat.reduceLeDiff, Nat.reduceBNe, Nat.reduceBEq, Int.reduceToNat, Int.reduceAdd, Int.reduceSub, Int.reduceMul, Int.reduceLT, Int.reduceLE, Int.reduceNeg, Int.reduceBEq, Int.reduceBNe, Int.reduceEq, beq_self_eq_true, reduceCtorEq, decide_true, decide_false, if_pos, if_neg]))
        · simp only [decide_eq_true_eq, decide_eq_false_iff_not, Bool.or_eq_true, Bool.and_eq_true, Bool.or_eq_false_iff, Bool.and_eq_false_iff, Bool.not_eq_true', Bool.not_eq_false', bne_iff_ne, beq_iff_eq, ne_eq, bne_eq_false_iff_eq, beq_eq_false_iff_ne, ge_iff_le, gt_iff_lt, Int.not_le, Int.not_lt] at h
          have hne : i ≠ b := fun e => by subst e; omega
          refine go ?_
          refine R_nilR ⟨[0, 1], _, ?_, i + 1, by omega, by omega, rfl⟩; exact Less.mk' (by simp (disch := (first | omega | (simp only [go_sem, ↓reduceIte, Nat.reduceEqDiff, Nat.reduceAdd, Nat.reduceMul, Nat.reduceSub, Nat.reduceLT, Nat.reduceLeDiff, Nat.reduceBNe, Nat.reduceBEq, Int.reduceToNat, Int.reduceAdd, Int.reduceSub, Int.reduceMul, Int.reduceLT, Int.reduceLE, Int.reduceNeg, Int.reduceBEq, Int.reduceBNe, Int.reduceEq, beq_self_eq_true, reduceCtorEq, decide_true, decide_false, if_pos, if_neg]; first | done | omega))) only [go_sem, ↓reduceIte, Nat.reduceEqDiff, Nat.reduceAdd, Nat.reduceMul, Nat.reduceSub, Nat.reduceLT, Nat.reduceLeDiff, Nat.reduceBNe, Nat.reduceBEq, Int.reduceToNat, Int.reduceAdd, Int.reduceSub, Int.reduceMul, Int.reduceLT, Int.reduceLE, Int.reduceNeg, Int.reduceBEq, Int.reduceBNe, Int.reduceEq, beq_self_eq_true, reduceCtorEq, decide_true, decide_false, if_pos, if_neg]) (by simp (disch := (first | omega | (simp only [go_sem, ↓reduceIte, Nat.reduceEqDiff, Nat.reduceAdd, Nat.reduceMul, Nat.reduceSub, Nat.reduceLT, Nat.reduceLeDiff, Nat.reduceBNe, Nat.reduceBEq, Int.reduceToNat, Int.reduceAdd, Int.reduceSub, Int.reduceMul, Int.reduceLT, Int.reduceLE, Int.reduceNeg, Int.reduceBEq, Int.reduceBNe, Int.reduceEq, beq_self_eq_true, reduceCtorEq, decide_true, decide_false, if_pos, if_neg]; first | done | omega))) only [go_sem, ↓reduceIte, Nat.reduceEqDiff, Nat.reduceAdd, Nat.reduceMul, Nat.reduceSub, Nat.reduceLT, Nat.reduceLeDiff, Nat.reduceBNe, Nat.reduceBEq, Int.reduceToNat, Int.reduceAdd, Int.reduceSub, Int.reduceMul, Int.reduceLT, Int.reduceLE, Int.reduceNeg, Int.reduceBEq, Int.reduceBNe, Int.reduceEq, beq_self_eq_true, reduceCtorEq, decide_true, decide_false, if_pos, if_neg]) (by decide) (by decide)
      · simp only [decide_eq_true_eq, decide_eq_false_iff_not, Bool.or_eq_true, Bool.and_eq_true, Bool.or_eq_false_iff, Bool.and_eq_false_iff, Bool.not_eq_true', Bool.not_eq_false', bne_iff_ne, beq_iff_eq, ne_eq, bne_eq_false_iff_eq, beq_eq_false_iff_ne, ge_iff_le, gt_iff_lt, Int.not_le, Int.not_lt] at h
        omega

end Go.Proofs.Ytndigibhmfegaaa.V

/-
  The reference's pick.
-/
set_option linter.unusedSimpArgs false
set_option linter.unusedVariables false
set_option maxHeartbeats 4000000
namespace Go.Proofs.Ytndigibhmfegaaa.V
open Go Go.Proofs Go.RowKit

theorem Right.pick {sz : List Int} {m : Nat} {da : List Int} (h1 : Right sz m da) {os : List Int} (hk : Pk m os) {n i : Nat} (hn : n < points sz) (hi : i < os.length) : n * m + (os.getD i 0).toNat < da.length := by
  have := hk i hi
  have h := blk_ok h1.lenN hn
  omega
theorem mul_os {n p l : Nat} (hn : n ≤ p) : n * l ≤ p * l := Nat.mul_le_mul_right l hn
theorem con22d (sz : List Int) (m : Nat) (da os : List Int) (h1 : Right sz m da) (ho : 1 ≤ os.length ∧ os.length ≤ 4) (hk : Pk m os) (hl : 4096 < points sz * os.length) : Con Try.prog 22 [gr sz m da, .sl os.length (ints .i64 os)] (.tp [.ag [.em, .sc (.int .i64 0), .em], .sc (.int .i64 3)]) [] := by
  have hR := h1
  have h1p : ∀ {n i : Nat}, n < points sz → i < os.length → n * m + (os.getD i 0).toNat < da.length := fun hn hi => hR.pick hk hn hi
  obtain ⟨hz1, h4, o1, o4, hs, _, hd, _⟩ := h1
  have hp := points_le h4 hs
  have hm5 : points sz * os.length ≤ 6561 * 4 := Nat.mul_le_mul hp.2 ho.2
  have hm6 : ((points sz : Nat) : Int) * ((os.length : Nat) : Int) = ((points sz * os.length : Nat) : Int) := by simp
  refine Con.of_body [(0, gr sz m da), (1, .sl os.length (ints .i64 os))] Try.func22 rfl ca22 82 rfl (by simp) rfl ?_; refine T_of_R ?_
  refine go ?_
  refine call (con36t hR) ?_
  refine go ?_
  refine cnd (fun h => ?_) (fun h => ?_)
  · cases h
  · refine go ?_
    refine call (con41 _ _ _) ?_
    refine go ?_
    refine cnd (fun h => ?_) (fun h => ?_)
    · simp only [decide_eq_true_eq, decide_eq_false_iff_not, Bool.or_eq_true, Bool.and_eq_true, Bool.or_eq_false_iff, Bool.and_eq_false_iff, Bool.not_eq_true', Bool.not_eq_false', bne_iff_ne, beq_iff_eq, ne_eq, bne_eq_false_iff_eq, beq_eq_false_iff_ne, ge_iff_le, gt_iff_lt, Int.not_le, Int.not_lt] at h
      omega
    · clear h
      refine go ?_
      refine R_loop (fun i : Nat => ⟨tl [(1, .sl os.length (ints .i64 os)), (2, .pt 0 0), (4, .pt 1 0), (6, .sc (.int .i64 i))], ol [(0, ⟨[.sl sz.length (ints .i64 sz), .sc (.int .i64 m), .sl da.length (ints .i64 da)], 24, 0, false⟩), (1, ⟨[.em, .sc (.int .i64 0), .em], 24, 0, false⟩)], 2, [], 82⟩) (fun i => i ≤ os.length) (fun i => os.length - i) 0 [0, 1] (Less.mk' (by simp (disch := (first | omega | (simp only [go_sem, ↓reduceIte, Nat.reduceEqDiff, Nat.reduceAdd, Nat.reduceMul, Nat.reduceSub, Nat.reduceLT, Nat.reduceLeDiff, Nat.reduceBNe, Nat.reduceBEq, Int.reduceToNat, Int.reduceAdd, Int.reduceSub, Int.reduceMul, Int.reduceLT, Int.reduceLE, Int.reduceNeg, Int.reduceBEq, Int.reduceBNe, Int.reduceEq, beq_self_eq_true, reduceCtorEq, decide_true, decide_false, if_pos, if_neg]; first | done | omega))) only [go_sem, ↓reduceIte, Nat.reduceEqDiff, Nat.reduceAdd, Nat.reduceMul, Nat.reduceSub, Nat.reduceLT, Nat.reduceLeDiff, Nat.reduceBNe, Nat.reduceBEq, Int.reduceToNat, Int.reduceAdd, Int.reduceSub, Int.reduceMul, Int.reduceLT, Int.reduceLE, Int.reduceNeg, Int.reduceBEq, Int.reduceBNe, Int.reduceEq, beq_self_eq_true, reduceCtorEq, decide_true, decide_false, if_pos, if_neg]) (by simp (disch := (first | omega | (simp only [go_sem, ↓reduceIte, Nat.reduceEqDiff, Nat.reduceAdd, Nat.reduceMul, Nat.reduceSub, Nat.reduceLT, Nat.reduceLeDiff, Nat.reduceBNe, Nat.reduceBEq, Int.reduceToNat, Int.reduceAdd, Int.reduceSub, Int.reduceMul, Int.reduceLT, Int.reduceLE, Int.reduceNeg, Int.reduceBEq, Int.reduceBNe, Int.reduceEq, beq_self_eq_true, reduceCtorEq, decide_true, decide_false, if_pos, if_neg]; first | done | omega))) only [go_sem, ↓reduceIte, Nat.reduceEqDiff, Nat.reduceAdd, Nat.reduceMul, Nat.reduceSub, Nat.reduceLT, Nat.reduceLeDiff, Nat.reduceBNe, Nat.reduceBEq, Int.reduceToNat, Int.reduceAdd, Int.reduceSub, Int.reduceMul, Int.reduceLT, Int.reduceLE, Int.reduceNeg, Int.reduceBEq, Int.reduceBNe, Int.reduceEq, beq_self_eq_true, reduceCtorEq, decide_true, decide_false, if_pos, if_neg]) (by decide) (by decide)) (by omega) fun i hi => ?_
      refine go ?_
      refine cnd (fun h => ?_) (fun h => ?_)
      · simp only [decide_eq_true_eq, decide_eq_false_iff_not, Bool.or_eq_true, Bool.and_eq_true, Bool.or_eq_false_iff, Bool.and_eq_false_iff, Bool.not_eq_true', Bool.not_eq_false', bne_iff_ne, beq_iff_eq, ne_eq, bne_eq_false_iff_eq, beq_eq_false_iff_ne, ge_iff_le, gt_iff_lt, Int.not_le, Int.not_lt] at h
        have hki := hk i (by omega)
        refine go ?_
        refine call (con41 _ _ _) ?_
        refine go ?_
        have hlt := h
        refine cnd (fun h => ?_) (fun h => ?_)
        · simp only [decide_eq_true_eq, decide_eq_false_iff_not, Bool.or_eq_true, Bool.and_eq_true, Bool.or_eq_false_iff, Bool.and_eq_false_iff, Bool.not_eq_true', Bool.not_eq_false', bne_iff_ne, beq_iff_eq, ne_eq, bne_eq_false_iff_eq, beq_eq_false_iff_ne, ge_iff_le, gt_iff_lt, Int.not_le, Int.not_lt] at h
          omega
        · clear h
          refine go ?_
          refine R_nilR ⟨[0, 1], _, ?_, i + 1, by omega, by omega, rfl⟩; exact Less.mk' (by simp (disch := (first | omega | (simp only [go_sem, ↓reduceIte, Nat.reduceEqDiff, Nat.reduceAdd, Nat.reduceMul, Nat.reduceSub, Nat.reduceLT, Nat.reduceLeDiff, Nat.reduceBNe, Nat.reduceBEq, Int.reduceToNat, Int.reduceAdd, Int.reduceSub, Int.reduceMul, Int.reduceLT, Int.reduceLE, Int.reduceNeg, Int.reduceBEq, Int.reduceBNe, Int.reduceEq, beq_self_eq_true, reduceCtorEq, decide_true, decide_false, if_pos, if_neg]; first | done | omega))) only [go_sem, ↓reduceIte, Nat.reduceEqDiff, Nat.reduceAdd, Nat.reduceMul, Nat.reduceSub, Nat.reduceLT, Nat.reduceLeDiff, Nat.reduceBNe, Nat.reduceBEq, Int.reduceToNat, Int.reduceAdd, Int.reduceSub, Int.reduceMul, Int.reduceLT, Int.reduceLE, Int.reduceNeg, Int.reduceBEq, Int.reduceBNe, Int.reduceEq, beq_self_eq_true, reduceCtorEq, decide_true, decide_false, if_pos, if_neg]) (by simp (disch := (first | omega | (simp only [go_sem, ↓reduceIte, Nat.reduceEqDiff, Nat.reduceAdd, Nat.reduceMul, Nat.reduceSub, Nat.reduceLT, Nat.reduceLeDiff, Nat.reduceBNe, Nat.reduceBEq, Int.reduceToNat, Int.reduceAdd, Int.reduceSub, Int.reduceMul, Int.reduceLT, Int.reduceLE, Int.reduceNeg, Int.reduceBEq, Int.reduceBNe, Int.reduceEq, beq_self_eq_true, reduceCtorEq, decide_true, decide_false, if_pos, if_neg]; first | done | omega))) only [go_sem, ↓reduceIte, Nat.reduceEqDiff, Nat.reduceAdd, Nat.reduceMul, Nat.reduceSub, Nat.reduceLT, Nat.reduceLeDiff, Nat.reduceBNe, Nat.reduceBEq, Int.reduceToNat, Int.reduceAdd, Int.reduceSub, Int.reduceMul, Int.reduceLT, Int.reduceLE, Int.reduceNeg, Int.reduceBEq, Int.reduceBNe, Int.reduceEq, beq_self_eq_true, reduceCtorEq, decide_true, decide_false, if_pos, if_neg]) (by decide) (by decide)
      · simp only [decide_eq_true_eq, decide_eq_false_iff_not, Bool.or_eq_true, Bool.and_eq_true, Bool.or_eq_false_iff, Bool.and_eq_false_iff, Bool.not_eq_true', Bool.not_eq_false', bne_iff_ne, beq_iff_eq, ne_eq, bne_eq_false_iff_eq, beq_eq_false_iff_ne, ge_iff_le, gt_iff_lt, Int.not_le, Int.not_lt] at h
        clear h
        refine go ?_
        refine call (con42p h4 hs) ?_
        refine go ?_
        refine cnd (fun h => ?_) (fun h => ?_)
        · refine go ?_
          refine R_ret (fin_of (ids := []) (by simp (disch := (first | omega | (simp only [go_sem, ↓reduceIte, Nat.reduceEqDiff, Nat.reduceAdd, Nat.reduceMul, Nat.reduceSub, Nat.reduceLT, Nat.reduceLeDiff, Nat.reduceBNe, Nat.reduceBEq, Int.reduceToNat, Int.reduceAdd, Int.reduceSub, Int.reduceMul, Int.reduceLT, Int.reduceLE, Int.reduceNeg, Int.reduceBEq, Int.reduceBNe, Int.reduceEq, beq_self_eq_true, reduceCtorEq, decide_true, decide_false, if_pos, if_neg]; first | done | omega))) only [go_sem, ↓reduceIte, Nat.reduceEqDiff, Nat.reduceAdd, Nat.reduceMul, Nat.reduceSub, Nat.reduceLT, Nat.reduceLeDiff, Nat.reduceBNe, Nat.reduceBEq, Int.reduceToNat, Int.reduceAdd, Int.reduceSub, Int.reduceMul, Int.reduceLT, Int.reduceLE, Int.reduceNeg, Int.reduceBEq, Int.reduceBNe, Int.reduceEq, beq_self_eq_true, reduceCtorEq, decide_true, decide_false, if_pos, if_neg] <;> rfl) (by simp (disch := (first | omega | (simp only [go_sem, ↓reduceIte, Nat.reduceEqDiff, Nat.reduceAdd, Nat.reduceMul, Nat.reduceSub, Nat.reduceLT, Nat.reduceLeDiff, Nat.reduceBNe, Nat.reduceBEq, Int.reduceToNat, Int.reduceAdd, Int.reduceSub, Int.reduceMul, Int.reduceLT, Int.reduceLE, Int.reduceNeg, Int.reduceBEq, Int.reduceBNe, Int.reduceEq, beq_self_eq_true, reduceCtorEq, decide_true, decide_false, if_pos, if_neg]; first | done | omega))) only [go_sem, ↓reduceIte, Nat.reduceEqDiff, Nat.reduceAdd, Nat.reduceMul, Nat.reduceSub, Nat.reduceLT, Nat.reduceLeDiff, Nat.reduceBNe, Nat.reduceBEq, Int.reduceToNat, Int.reduceAdd, Int.reduceSub, Int.reduceMul, Int.reduceLT, Int.reduceLE, Int.reduceNeg, Int.reduceBEq, Int.reduceBNe, Int.reduceEq, beq_self_eq_true, reduceCtorEq, decide_true, decide_false, if_pos, if_neg]) (by decide) (by simp (disch := (first | omega | (simp only [go_sem, ↓reduceIte, Nat.reduceEqDiff, Nat.reduceAdd, Nat.reduceMul, Nat.reduceSub, Nat.reduceLT, Nat.reduceLeDiff, Nat.reduceBNe, Nat.reduceBEq, Int.reduceToNat, Int.reduceAdd, Int.reduceSub, Int.reduceMul, Int.reduceLT, Int.reduceLE, Int.reduceNeg, Int.reduceBEq, Int.reduceBNe, Int.reduceEq, beq_self_eq_true, reduceCtorEq, decide_true, decide_false, if_pos, if_neg]; first | done | omega))) only [go_sem, ↓reduceIte, Nat.reduceEqDiff, Nat.reduceAdd, Nat.reduceMul, Nat.reduceSub, Nat.reduceLT, Nat.reduceLeDiff, Nat.reduceBNe, Nat.reduceBEq, Int.reduceToNat, Int.reduceAdd, Int.reduceSub, Int.reduceMul, Int.reduceLT, Int.reduceLE, Int.reduceNeg, Int.reduceBEq, Int.reduceBNe, Int.reduceEq, beq_self_eq_true, reduceCtorEq, decide_true, decide_false, if_pos, if_neg]))
        · simp only [decide_eq_true_eq, decide_eq_false_iff_not, Bool.or_eq_true, Bool.and_eq_true, Bool.or_eq_false_iff, Bool.and_eq_false_iff, Bool.not_eq_true', Bool.not_eq_false', bne_iff_ne, beq_iff_eq, ne_eq, bne_eq_false_iff_eq, beq_eq_false_iff_ne, ge_iff_le, gt_iff_lt, Int.not_le, Int.not_lt] at h
          omega
theorem toNat_mul_add (n m : Nat) (x : Int) (h : 0 ≤ x) : ((n : Int) * (m : Int) + x).toNat = n * m + x.toNat := by
  rw [← Int.natCast_mul]; omega
attribute [go_sem] toNat_mul_add
theorem con22 (sz : List Int) (m : Nat) (da os : List Int) (h1 : Right sz m da) (ho : 1 ≤ os.length ∧ os.length ≤ 4) (hk : Pk m os) (hl : points sz * os.length ≤ 4096) : Con Try.prog 22 [gr sz m da, .sl os.length (ints .i64 os)] (.tp [gr sz os.length (pall da m os (points sz)), .sc (.int .i64 0)]) [] := by
  have hR := h1
  have h1p : ∀ {n i : Nat}, n < points sz → i < os.length → n * m + (os.getD i 0).toNat < da.length := fun hn hi => hR.pick hk hn hi
  obtain ⟨hz1, h4, o1, o4, hs, _, hd, _⟩ := h1
  have hp := points_le h4 hs
  have hm5 : points sz * os.length ≤ 6561 * 4 := Nat.mul_le_mul hp.2 ho.2
  have hm6 : ((points sz : Nat) : Int) * ((os.length : Nat) : Int) = ((points sz * os.length : Nat) : Int) := by simp
  refine Con.of_bodyD [(0, gr sz m da), (1, .sl os.length (ints .i64 os))] Try.func22 rfl ca22 82 rfl (by simp) rfl ?_; refine T_of_R ?_
  refine go ?_
  refine call (con36t hR) ?_
  refine go ?_
  refine cnd (fun h => ?_) (fun h => ?_)
  · cases h
  · refine go ?_
    refine call (con41 _ _ _) ?_
    refine go ?_
    refine cnd (fun h => ?_) (fun h => ?_)
    · simp only [decide_eq_true_eq, decide_eq_false_iff_not, Bool.or_eq_true, Bool.and_eq_true, Bool.or_eq_false_iff, Bool.and_eq_false_iff, Bool.not_eq_true', Bool.not_eq_false', bne_iff_ne, beq_iff_eq, ne_eq, bne_eq_false_iff_eq, beq_eq_false_iff_ne, ge_iff_le, gt_iff_lt, Int.not_le, Int.not_lt] at h
      omega
    · clear h
      refine go ?_
      refine R_loop (fun i : Nat => ⟨tl [(1, .sl os.length (ints .i64 os)), (2, .pt 0 0), (4, .pt 1 0), (6, .sc (.int .i64 i))], ol [(0, ⟨[.sl sz.length (ints .i64 sz), .sc (.int .i64 m), .sl da.length (ints .i64 da)], 24, 0, false⟩), (1, ⟨[.em, .sc (.int .i64 0), .em], 24, 0, false⟩)], 2, [], 82⟩) (fun i => i ≤ os.length) (fun i => os.length - i) 0 [0, 1] (Less.mk' (by simp (disch := (first | omega | (simp only [go_sem, ↓reduceIte, Nat.reduceEqDiff, Nat.reduceAdd, Nat.reduceMul, Nat.reduceSub, Nat.reduceLT, Nat.reduceLeDiff, Nat.reduceBNe, Nat.reduceBEq, Int.reduceToNat, Int.reduceAdd, Int.reduceSub, Int.reduceMul, Int.reduceLT, Int.reduceLE, Int.reduceNeg, Int.reduceBEq, Int.reduceBNe, Int.reduceEq, beq_self_eq_true, reduceCtorEq, decide_true, decide_false, if_pos, if_neg]; first | done | omega))) only [go_sem, ↓reduceIte, Nat.reduceEqDiff, Nat.reduceAdd, Nat.reduceMul, Nat.reduceSub, Nat.reduceLT, Nat.reduceLeDiff, Nat.reduceBNe, Nat.reduceBEq, Int.reduceToNat, Int.reduceAdd, Int.reduceSub, Int.reduceMul, Int.reduceLT, Int.reduceLE, Int.reduceNeg, Int.reduceBEq, Int.reduceBNe, Int.reduceEq, beq_self_eq_true, reduceCtorEq, decide_true, decide_false, if_pos, if_neg]) (by simp (disch := (first | omega | (simp only [go_sem, ↓reduceIte, Nat.reduceEqDiff, Nat.reduceAdd, Nat.reduceMul, Nat.reduceSub, Nat.reduceLT, Nat.reduceLeDiff, Nat.reduceBNe, Nat.reduceBEq, Int.reduceToNat, Int.reduceAdd, Int.reduceSub, Int.reduceMul, Int.reduceLT, Int.reduceLE, Int.reduceNeg, Int.reduceBEq, Int.reduceBNe, Int.reduceEq, beq_self_eq_true, reduceCtorEq, decide_true, decide_false, if_pos, if_neg]; first | done | omega))) only [go_sem, ↓reduceIte, Nat.reduceEqDiff, Nat.reduceAdd, Nat.reduceMul, Nat.reduceSub, Nat.reduceLT, Nat.reduceLeDiff, Nat.reduceBNe, Nat.reduceBEq, Int.reduceToNat, Int.reduceAdd, Int.reduceSub, Int.reduceMul, Int.reduceLT, Int.reduceLE, Int.reduceNeg, Int.reduceBEq, Int.reduceBNe, Int.reduceEq, beq_self_eq_true, reduceCtorEq, decide_true, decide_false, if_pos, if_neg]) (by decide) (by decide)) (by omega) fun i hi => ?_
      refine go ?_
      refine cnd (fun h => ?_) (fun h => ?_)
      · simp only [decide_eq_true_eq, decide_eq_false_iff_not, Bool.or_eq_true, Bool.and_eq_true, Bool.or_eq_false_iff, Bool.and_eq_false_iff, Bool.not_eq_true', Bool.not_eq_false', bne_iff_ne, beq_iff_eq, ne_eq, bne_eq_false_iff_eq, beq_eq_false_iff_ne, ge_iff_le, gt_iff_lt, Int.not_le, Int.not_lt] at h
        have hki := hk i (by omega)
        refine go ?_
        refine call (con41 _ _ _) ?_
        refine go ?_
        have hlt := h
        refine cnd (fun h => ?_) (fun h => ?_)
        · simp only [decide_eq_true_eq, decide_eq_false_iff_not, Bool.or_eq_true, Bool.and_eq_true, Bool.or_eq_false_iff, Bool.and_eq_false_iff, Bool.not_eq_true', Bool.not_eq_false', bne_iff_ne, beq_iff_eq, ne_eq, bne_eq_false_iff_eq, beq_eq_false_iff_ne, ge_iff_le, gt_iff_lt, Int.not_le, Int.not_lt] at h
          omega
        · clear h
          refine go ?_
          refine R_nilR ⟨[0, 1], _, ?_, i + 1, by omega, by omega, rfl⟩; exact Less.mk' (by simp (disch := (first | omega | (simp only [go_sem, ↓reduceIte, Nat.reduceEqDiff, Nat.reduceAdd, Nat.reduceMul, Nat.reduceSub, Nat.reduceLT, Nat.reduceLeDiff, Nat.reduceBNe, Nat.reduceBEq, Int.reduceToNat, Int.reduceAdd, Int.reduceSub, Int.reduceMul, Int.reduceLT, Int.reduceLE, Int.reduceNeg, Int.reduceBEq, Int.reduceBNe, Int.reduceEq, beq_self_eq_true, reduceCtorEq, decide_true, decide_false, if_pos, if_neg]; first | done | omega))) only [go_sem, ↓reduceIte, Nat.reduceEqDiff, Nat.reduceAdd, Nat.reduceMul, Nat.reduceSub, Nat.reduceLT, Nat.reduceLeDiff, Nat.reduceBNe, Nat.reduceBEq, Int.reduceToNat, Int.reduceAdd, Int.reduceSub, Int.reduceMul, Int.reduceLT, Int.reduceLE, Int.reduceNeg, Int.reduceBEq, Int.reduceBNe, Int.reduceEq, beq_self_eq_true, reduceCtorEq, decide_true, decide_false, if_pos, if_neg]) (by simp (disch := (first | omega | (simp only [go_sem, ↓reduceIte, Nat.reduceEqDiff, Nat.reduceAdd, Nat.reduceMul, Nat.reduceSub, Nat.reduceLT, Nat.reduceLeDiff, Nat.reduceBNe, Nat.reduceBEq, Int.reduceToNat, Int.reduceAdd, Int.reduceSub, Int.reduceMul, Int.reduceLT, Int.reduceLE, Int.reduceNeg, Int.reduceBEq, Int.reduceBNe, Int.reduceEq, beq_self_eq_true, reduceCtorEq, decide_true, decide_false, if_pos, if_neg]; first | done | omega))) only [go_sem, ↓reduceIte, Nat.reduceEqDiff, Nat.reduceAdd, Nat.reduceMul, Nat.reduceSub, Nat.reduceLT, Nat.reduceLeDiff, Nat.reduceBNe, Nat.reduceBEq, Int.reduceToNat, Int.reduceAdd, Int.reduceSub, Int.reduceMul, Int.reduceLT, Int.reduceLE, Int.reduceNeg, Int.reduceBEq, Int.reduceBNe, Int.reduceEq, beq_self_eq_true, reduceCtorEq, decide_true, decide_false, if_pos, if_neg]) (by decide) (by decide)
      · simp only [decide_eq_true_eq, decide_eq_false_iff_not, Bool.or_eq_true, Bool.and_eq_true, Bool.or_eq_false_iff, Bool.and_eq_false_iff, Bool.not_eq_true', Bool.not_eq_false', bne_iff_ne, beq_iff_eq, ne_eq, bne_eq_false_iff_eq, beq_eq_false_iff_ne, ge_iff_le, gt_iff_lt, Int.not_le, Int.not_lt] at h
        clear h
        refine go ?_
        refine call (con42p h4 hs) ?_
        refine go ?_
        refine cnd (fun h => ?_) (fun h => ?_)
        · simp only [decide_eq_true_eq, decide_eq_false_iff_not, Bool.or_eq_true, Bool.and_eq_true, Bool.or_eq_false_iff, Bool.and_eq_false_iff, Bool.not_eq_true', Bool.not_eq_false', bne_iff_ne, beq_iff_eq, ne_eq, bne_eq_false_iff_eq, beq_eq_false_iff_ne, ge_iff_le, gt_iff_lt, Int.not_le, Int.not_lt] at h
          omega
        · clear h
          refine go ?_
          refine R_loop (fun n : Nat => ⟨tl [(1, .sl os.length (ints .i64 os)), (2, .pt 0 0), (4, .pt 1 0), (7, .pt 3 0), (8, .sc (.int .i64 n))],
              ol ([(0, ⟨[.sl sz.length (ints .i64 sz), .sc (.int .i64 m), .sl da.length (ints .i64 da)], 24, 0, false⟩), (1, ⟨[.em, .sc (.int .i64 0), .em], 24, 0, false⟩), (2, ⟨ints .i64 sz, 3, 1, false⟩), (3, ⟨[.rf 2 0 sz.length 1, .sc (.int .i64 os.length), shD 4 (pall da m os n)], 24, 0, false⟩)] ++ shO 4 (pall da m os n)), 5, [], 82⟩)
            (fun n => n ≤ points sz) (fun n => points sz - n) 0 [0, 1, 3, 4] (Less.mk' (by simp (disch := (first | omega | (simp only [go_sem, ↓reduceIte, Nat.reduceEqDiff, Nat.reduceAdd, Nat.reduceMul, Nat.reduceSub, Nat.reduceLT, Nat.reduceLeDiff, Nat.reduceBNe, Nat.reduceBEq, Int.reduceToNat, Int.reduceAdd, Int.reduceSub, Int.reduceMul, Int.reduceLT, Int.reduceLE, Int.reduceNeg, Int.reduceBEq, Int.reduceBNe, Int.reduceEq, beq_self_eq_true, reduceCtorEq, decide_true, decide_false, if_pos, if_neg]; first | done | omega))) only [go_sem, ↓reduceIte, Nat.reduceEqDiff, Nat.reduceAdd, Nat.reduceMul, Nat.reduceSub, Nat.reduceLT, Nat.reduceLeDiff, Nat.reduceBNe, Nat.reduceBEq, Int.reduceToNat, Int.reduceAdd, Int.reduceSub, Int.reduceMul, Int.reduceLT, Int.reduceLE, Int.reduceNeg, Int.reduceBEq, Int.reduceBNe, Int.reduceEq, beq_self_eq_true, reduceCtorEq, decide_true, decide_false, if_pos, if_neg, pall, shD, shO]) (by simp (disch := (first | omega | (simp only [go_sem, ↓reduceIte, Nat.reduceEqDiff, Nat.reduceAdd, Nat.reduceMul, Nat.reduceSub, Nat.reduceLT, Nat.reduceLeDiff, Nat.reduceBNe, Nat.reduceBEq, Int.reduceToNat, Int.reduceAdd, Int.reduceSub, Int.reduceMul, Int.reduceLT, Int.reduceLE, Int.reduceNeg, Int.reduceBEq, Int.reduceBNe, Int.reduceEq, beq_self_eq_true, reduceCtorEq, decide_true, decide_false, if_pos, if_neg]; first | done | omega))) only [go_sem, ↓reduceIte, Nat.reduceEqDiff, Nat.reduceAdd, Nat.reduceMul, Nat.reduceSub, Nat.reduceLT, Nat.reduceLeDiff, Nat.reduceBNe, Nat.reduceBEq, Int.reduceToNat, Int.reduceAdd, Int.reduceSub, Int.reduceMul, Int.reduceLT, Int.reduceLE, Int.reduceNeg, Int.reduceBEq, Int.reduceBNe, Int.reduceEq, beq_self_eq_true, reduceCtorEq, decide_true, decide_false, if_pos, if_neg, pall, shD, shO]) (by decide) (by decide)) (by omega) fun n hn => ?_
          have hnl : n * os.length ≤ points sz * os.length := mul_os hn
          have hpl := pall_length da m os n
          by_cases hx : (pall da m os n).length = 0
          · simp only [shD, shO, hx, ↓reduceIte, List.cons_append, List.nil_append, List.append_nil]
            have hx' : pall da m os n = [] := List.length_eq_zero_iff.1 hx
            refine go ?_
            refine call (con42p h4 hs) ?_
            refine go ?_
            refine cnd (fun h => ?_) (fun h => ?_)
            · simp only [decide_eq_true_eq, decide_eq_false_iff_not, Bool.or_eq_true, Bool.and_eq_true, Bool.or_eq_false_iff, Bool.and_eq_false_iff, Bool.not_eq_true', Bool.not_eq_false', bne_iff_ne, beq_iff_eq, ne_eq, bne_eq_false_iff_eq, beq_eq_false_iff_ne, ge_iff_le, gt_iff_lt, Int.not_le, Int.not_lt] at h
              have hnp : n < points sz := by omega
              clear h
              refine go ?_
              refine R_loop (fun i : Nat => ⟨tl [(1, .sl os.length (ints .i64 os)), (2, .pt 0 0), (4, .pt 1 0), (7, .pt 3 0), (8, .sc (.int .i64 n)), (9, .sc (.int .i64 i))],
                  ol ([(0, ⟨[.sl sz.length (ints .i64 sz), .sc (.int .i64 m), .sl da.length (ints .i64 da)], 24, 0, false⟩), (1, ⟨[.em, .sc (.int .i64 0), .em], 24, 0, false⟩), (2, ⟨ints .i64 sz, 3, 1, false⟩), (3, ⟨[.rf 2 0 sz.length 1, .sc (.int .i64 os.length), shD 4 (pdat da m os n i)], 24, 0, false⟩)] ++ shO 4 (pdat da m os n i)), 5, [], 82⟩)
                (fun i => i ≤ os.length) (fun i => os.length - i) 0 [0, 1, 2, 3] (Less.mk' (by simp (disch := (first | omega | (simp only [go_sem, ↓reduceIte, Nat.reduceEqDiff, Nat.reduceAdd, Nat.reduceMul, Nat.reduceSub, Nat.reduceLT, Nat.reduceLeDiff, Nat.reduceBNe, Nat.reduceBEq, Int.reduceToNat, Int.reduceAdd, Int.reduceSub, Int.reduceMul, Int.reduceLT, Int.reduceLE, Int.reduceNeg, Int.reduceBEq, Int.reduceBNe, Int.reduceEq, beq_self_eq_true, reduceCtorEq, decide_true, decide_false, if_pos, if_neg]; first | done | omega))) only [go_sem, ↓reduceIte, Nat.reduceEqDiff, Nat.reduceAdd, Nat.reduceMul, Nat.reduceSub, Nat.reduceLT, Nat.reduceLeDiff, Nat.reduceBNe, Nat.reduceBEq, Int.reduceToNat, Int.reduceAdd, Int.reduceSub, Int.reduceMul, Int.reduceLT, Int.reduceLE, Int.reduceNeg, Int.reduceBEq, Int.reduceBNe, Int.reduceEq, beq_self_eq_true, reduceCtorEq, decide_true, decide_false, if_pos, if_neg, pdat_zero, shD, shO, hx]) (by simp (disch := (first | omega | (simp only [go_sem, ↓reduceIte, Nat.reduceEqDiff, Nat.reduceAdd, Nat.reduceMul, Nat.reduceSub, Nat.reduceLT, Nat.reduceLeDiff, Nat.reduceBNe, Nat.reduceBEq, Int.reduceToNat, Int.reduceAdd, Int.reduceSub, Int.reduceMul, Int.reduceLT, Int.reduceLE, Int.reduceNeg, Int.reduceBEq, Int.reduceBNe, Int.reduceEq, beq_self_eq_true, reduceCtorEq, decide_true, decide_false, if_pos, if_neg]; first | done | omega))) only [go_sem, ↓reduceIte, Nat.reduceEqDiff, Nat.reduceAdd, Nat.reduceMul, Nat.reduceSub, Nat.reduceLT, Nat.reduceLeDiff, Nat.reduceBNe, Nat.reduceBEq, Int.reduceToNat, Int.reduceAdd, Int.reduceSub, Int.reduceMul, Int.reduceLT, Int.reduceLE, Int.reduceNeg, Int.reduceBEq, Int.reduceBNe, Int.reduceEq, beq_self_eq_true, reduceCtorEq, decide_true, decide_false, if_pos, if_neg, pdat_zero, shD, shO, hx]) (by decide) (by decide)) (by omega) fun i hi => ?_
              have hdl := pdat_length da m os n i
              by_cases hy : (pdat da m os n i).length = 0
              · simp only [shD, shO, hy, ↓reduceIte, List.cons_append, List.nil_append, List.append_nil]
                have hy' : pdat da m os n i = [] := List.length_eq_zero_iff.1 hy
                refine go ?_
                refine cnd (fun h => ?_) (fun h => ?_)
                · simp only [decide_eq_true_eq, decide_eq_false_iff_not, Bool.or_eq_true, Bool.and_eq_true, Bool.or_eq_false_iff, Bool.and_eq_false_iff, Bool.not_eq_true', Bool.not_eq_false', bne_iff_ne, beq_iff_eq, ne_eq, bne_eq_false_iff_eq, beq_eq_false_iff_ne, ge_iff_le, gt_iff_lt, Int.not_le, Int.not_lt] at h
                  have hki := hk i (by omega)
                  have hpk := h1p hnp (show i < os.length by omega)
                  have hnm : ((n * m : Nat) : Int) = (n : Int) * (m : Int) := by simp
                  have hnm4 : n * m ≤ 6561 * 4 := Nat.mul_le_mul (by omega) (by omega)
                  have ey : (pdat da m os n i).length + 1 ≠ 0 := by omega
                  refine go ?_
                  refine R_nilR ⟨[0, 1, 2, 3, 6], _, ?_, i + 1, by omega, by omega, rfl⟩
                  exact Less.mk' (by simp (disch := (first | omega | (simp only [go_sem, ↓reduceIte, Nat.reduceEqDiff, Nat.reduceAdd, Nat.reduceMul, Nat.reduceSub, Nat.reduceLT, Nat.reduceLeDiff, Nat.reduceBNe, Nat.reduceBEq, Int.reduceToNat, Int.reduceAdd, Int.reduceSub, Int.reduceMul, Int.reduceLT, Int.reduceLE, Int.reduceNeg, Int.reduceBEq, Int.reduceBNe, Int.reduceEq, beq_self_eq_true, reduceCtorEq, decide_true, decide_false, if_pos, if_neg]; first | done | omega))) only [go_sem, ↓reduceIte, Nat.reduceEqDiff, Nat.reduceAdd, Nat.reduceMul, Nat.reduceSub, Nat.reduceLT, Nat.reduceLeDiff, Nat.reduceBNe, Nat.reduceBEq, Int.reduceToNat, Int.reduceAdd, Int.reduceSub, Int.reduceMul, Int.reduceLT, Int.reduceLE, Int.reduceNeg, Int.reduceBEq, Int.reduceBNe, Int.reduceEq, beq_self_eq_true, reduceCtorEq, decide_true, decide_false, if_pos, if_neg, pdat_succ, shD, shO, ey, hy', ints_cons]) (by simp (disch := (first | omega | (simp only [go_sem, ↓reduceIte, Nat.reduceEqDiff, Nat.reduceAdd, Nat.reduceMul, Nat.reduceSub, Nat.reduceLT, Nat.reduceLeDiff, Nat.reduceBNe, Nat.reduceBEq, Int.reduceToNat, Int.reduceAdd, Int.reduceSub, Int.reduceMul, Int.reduceLT, Int.reduceLE, Int.reduceNeg, Int.reduceBEq, Int.reduceBNe, Int.reduceEq, beq_self_eq_true, reduceCtorEq, decide_true, decide_false, if_pos, if_neg]; first | done | omega))) only [go_sem, ↓reduceIte, Nat.reduceEqDiff, Nat.reduceAdd, Nat.reduceMul, Nat.reduceSub, Nat.reduceLT, Nat.reduceLeDiff, Nat.reduceBNe, Nat.reduceBEq, Int.reduceToNat, Int.reduceAdd, Int.reduceSub, Int.reduceMul, Int.reduceLT, Int.reduceLE, Int.reduceNeg, Int.reduceBEq, Int.reduceBNe, Int.reduceEq, beq_self_eq_true, reduceCtorEq, decide_true, decide_false, if_pos, if_neg, pdat_succ, shD, shO, ey, hy', ints_cons]) (by decide) (by decide)
                · simp only [decide_eq_true_eq, decide_eq_false_iff_not, Bool.or_eq_true, Bool.and_eq_true, Bool.or_eq_false_iff, Bool.and_eq_false_iff, Bool.not_eq_true', Bool.not_eq_false', bne_iff_ne, beq_iff_eq, ne_eq, bne_eq_false_iff_eq, beq_eq_false_iff_ne, ge_iff_le, gt_iff_lt, Int.not_le, Int.not_lt] at h
                  exfalso; omega
              · simp only [shD, shO, hy, ↓reduceIte, List.cons_append, List.nil_append, List.append_nil]
                have hy' : (pdat da m os n i).length ≠ 0 := hy
                refine go ?_
                refine cnd (fun h => ?_) (fun h => ?_)
                · simp only [decide_eq_true_eq, decide_eq_false_iff_not, Bool.or_eq_true, Bool.and_eq_true, Bool.or_eq_false_iff, Bool.and_eq_false_iff, Bool.not_eq_true', Bool.not_eq_false', bne_iff_ne, beq_iff_eq, ne_eq, bne_eq_false_iff_eq, beq_eq_false_iff_ne, ge_iff_le, gt_iff_lt, Int.not_le, Int.not_lt] at h
                  have hki := hk i (by omega)
                  have hpk := h1p hnp (show i < os.length by omega)
                  have hnm : ((n * m : Nat) : Int) = (n : Int) * (m : Int) := by simp
                  have hnm4 : n * m ≤ 6561 * 4 := Nat.mul_le_mul (by omega) (by omega)
                  have ey : (pdat da m os n i).length + 1 ≠ 0 := by omega
                  refine go ?_
                  refine R_nilR ⟨[0, 1, 2, 3, 6], _, ?_, i + 1, by omega, by omega, rfl⟩
                  exact Less.mk' (by simp (disch := (first | omega | (simp only [go_sem, ↓reduceIte, Nat.reduceEqDiff, Nat.reduceAdd, Nat.reduceMul, Nat.reduceSub, Nat.reduceLT, Nat.reduceLeDiff, Nat.reduceBNe, Nat.reduceBEq, Int.reduceToNat, Int.reduceAdd, Int.reduceSub, Int.reduceMul, Int.reduceLT, Int.reduceLE, Int.reduceNeg, Int.reduceBEq, Int.reduceBNe, Int.reduceEq, beq_self_eq_true, reduceCtorEq, decide_true, decide_false, if_pos, if_neg]; first | done | omega))) only [go_sem, ↓reduceIte, Nat.reduceEqDiff, Nat.reduceAdd, Nat.reduceMul, Nat.reduceSub, Nat.reduceLT, Nat.reduceLeDiff, Nat.reduceBNe, Nat.reduceBEq, Int.reduceToNat, Int.reduceAdd, Int.reduceSub, Int.reduceMul, Int.reduceLT, Int.reduceLE, Int.reduceNeg, Int.reduceBEq, Int.reduceBNe, Int.reduceEq, beq_self_eq_true, reduceCtorEq, decide_true, decide_false, if_pos, if_neg, pdat_succ, shD, shO, ey, hy', ints_cons]) (by simp (disch := (first | omega | (simp only [go_sem, ↓reduceIte, Nat.reduceEqDiff, Nat.reduceAdd, Nat.reduceMul, Nat.reduceSub, Nat.reduceLT, Nat.reduceLeDiff, Nat.reduceBNe, Nat.reduceBEq, Int.reduceToNat, Int.reduceAdd, Int.reduceSub, Int.reduceMul, Int.reduceLT, Int.reduceLE, Int.reduceNeg, Int.reduceBEq, Int.reduceBNe, Int.reduceEq, beq_self_eq_true, reduceCtorEq, decide_true, decide_false, if_pos, if_neg]; first | done | omega))) only [go_sem, ↓reduceIte, Nat.reduceEqDiff, Nat.reduceAdd, Nat.reduceMul, Nat.reduceSub, Nat.reduceLT, Nat.reduceLeDiff, Nat.reduceBNe, Nat.reduceBEq, Int.reduceToNat, Int.reduceAdd, Int.reduceSub, Int.reduceMul, Int.reduceLT, Int.reduceLE, Int.reduceNeg, Int.reduceBEq, Int.reduceBNe, Int.reduceEq, beq_self_eq_true, reduceCtorEq, decide_true, decide_false, if_pos, if_neg, pdat_succ, shD, shO, ey, hy', ints_cons]) (by decide) (by decide)
                · simp only [decide_eq_true_eq, decide_eq_false_iff_not, Bool.or_eq_true, Bool.and_eq_true, Bool.or_eq_false_iff, Bool.and_eq_false_iff, Bool.not_eq_true', Bool.not_eq_false', bne_iff_ne, beq_iff_eq, ne_eq, bne_eq_false_iff_eq, beq_eq_false_iff_ne, ge_iff_le, gt_iff_lt, Int.not_le, Int.not_lt] at h
                  obtain rfl : i = os.length := by omega
                  refine go ?_
                  refine R_nilR ⟨[0, 1, 2, 3, 4], _, ?_, n + 1, by omega, by omega, rfl⟩
                  exact Less.mk' (by simp (disch := (first | omega | (simp only [go_sem, ↓reduceIte, Nat.reduceEqDiff, Nat.reduceAdd, Nat.reduceMul, Nat.reduceSub, Nat.reduceLT, Nat.reduceLeDiff, Nat.reduceBNe, Nat.reduceBEq, Int.reduceToNat, Int.reduceAdd, Int.reduceSub, Int.reduceMul, Int.reduceLT, Int.reduceLE, Int.reduceNeg, Int.reduceBEq, Int.reduceBNe, Int.reduceEq, beq_self_eq_true, reduceCtorEq, decide_true, decide_false, if_pos, if_neg]; first | done | omega))) only [go_sem, ↓reduceIte, Nat.reduceEqDiff, Nat.reduceAdd, Nat.reduceMul, Nat.reduceSub, Nat.reduceLT, Nat.reduceLeDiff, Nat.reduceBNe, Nat.reduceBEq, Int.reduceToNat, Int.reduceAdd, Int.reduceSub, Int.reduceMul, Int.reduceLT, Int.reduceLE, Int.reduceNeg, Int.reduceBEq, Int.reduceBNe, Int.reduceEq, beq_self_eq_true, reduceCtorEq, decide_true, decide_false, if_pos, if_neg, ← pdat_all, shD, shO, hy]) (by simp (disch := (first | omega | (simp only [go_sem, ↓reduceIte, Nat.reduceEqDiff, Nat.reduceAdd, Nat.reduceMul, Nat.reduceSub, Nat.reduceLT, Nat.reduceLeDiff, Nat.reduceBNe, Nat.reduceBEq, Int.reduceToNat, Int.reduceAdd, Int.reduceSub, Int.reduceMul, Int.reduceLT, Int.reduceLE, Int.reduceNeg, Int.reduceBEq, Int.reduceBNe, Int.reduceEq, beq_self_eq_true, reduceCtorEq, decide_true, decide_false, if_pos, if_neg]; first | done | omega))) only [go_sem, ↓reduceIte, Nat.reduceEqDiff, Nat.reduceAdd, Nat.reduceMul, Nat.reduceSub, Nat.reduceLT, Nat.reduceLeDiff, Nat.reduceBNe, Nat.reduceBEq, Int.reduceToNat, Int.reduceAdd, Int.reduceSub, Int.reduceMul, Int.reduceLT, Int.reduceLE, Int.reduceNeg, Int.reduceBEq, Int.reduceBNe, Int.reduceEq, beq_self_eq_true, reduceCtorEq, decide_true, decide_false, if_pos, if_neg, ← pdat_all, shD, shO, hy]) (by decide) (by decide)
            · simp only [decide_eq_true_eq, decide_eq_false_iff_not, Bool.or_eq_true, Bool.and_eq_true, Bool.or_eq_false_iff, Bool.and_eq_false_iff, Bool.not_eq_true', Bool.not_eq_false', bne_iff_ne, beq_iff_eq, ne_eq, bne_eq_false_iff_eq, beq_eq_false_iff_ne, ge_iff_le, gt_iff_lt, Int.not_le, Int.not_lt] at h
              exfalso
              have := mul_os (l := os.length) (show 1 ≤ n by omega)
              omega
          · simp only [shD, shO, hx, ↓reduceIte, List.cons_append, List.nil_append, List.append_nil]
            have hx' : (pall da m os n).length ≠ 0 := hx
            refine go ?_
            refine call (con42p h4 hs) ?_
            refine go ?_
            refine cnd (fun h => ?_) (fun h => ?_)
            · simp only [decide_eq_true_eq, decide_eq_false_iff_not, Bool.or_eq_true, Bool.and_eq_true, Bool.or_eq_false_iff, Bool.and_eq_false_iff, Bool.not_eq_true', Bool.not_eq_false', bne_iff_ne, beq_iff_eq, ne_eq, bne_eq_false_iff_eq, beq_eq_false_iff_ne, ge_iff_le, gt_iff_lt, Int.not_le, Int.not_lt] at h
              have hnp : n < points sz := by omega
              clear h
              refine go ?_
              refine R_loop (fun i : Nat => ⟨tl [(1, .sl os.length (ints .i64 os)), (2, .pt 0 0), (4, .pt 1 0), (7, .pt 3 0), (8, .sc (.int .i64 n)), (9, .sc (.int .i64 i))],
                  ol ([(0, ⟨[.sl sz.length (ints .i64 sz), .sc (.int .i64 m), .sl da.length (ints .i64 da)], 24, 0, false⟩), (1, ⟨[.em, .sc (.int .i64 0), .em], 24, 0, false⟩), (2, ⟨ints .i64 sz, 3, 1, false⟩), (3, ⟨[.rf 2 0 sz.length 1, .sc (.int .i64 os.length), shD 4 (pdat da m os n i)], 24, 0, false⟩)] ++ shO 4 (pdat da m os n i)), 5, [], 82⟩)
                (fun i => i ≤ os.length) (fun i => os.length - i) 0 [0, 1, 2, 3, 4] (Less.mk' (by simp (disch := (first | omega | (simp only [go_sem, ↓reduceIte, Nat.reduceEqDiff, Nat.reduceAdd, Nat.reduceMul, Nat.reduceSub, Nat.reduceLT, Nat.reduceLeDiff, Nat.reduceBNe, Nat.reduceBEq, Int.reduceToNat, Int.reduceAdd, Int.reduceSub, Int.reduceMul, Int.reduceLT, Int.reduceLE, Int.reduceNeg, Int.reduceBEq, Int.reduceBNe, Int.reduceEq, beq_self_eq_true, reduceCtorEq, decide_true, decide_false, if_pos, if_neg]; first | done | omega))) only [go_sem, ↓reduceIte, Nat.reduceEqDiff, Nat.reduceAdd, Nat.reduceMul, Nat.reduceSub, Nat.reduceLT, Nat.reduceLeDiff, Nat.reduceBNe, Nat.reduceBEq, Int.reduceToNat, Int.reduceAdd, Int.reduceSub, Int.reduceMul, Int.reduceLT, Int.reduceLE, Int.reduceNeg, Int.reduceBEq, Int.reduceBNe, Int.reduceEq, beq_self_eq_true, reduceCtorEq, decide_true, decide_false, if_pos, if_neg, pdat_zero, shD, shO, hx]) (by simp (disch := (first | omega | (simp only [go_sem, ↓reduceIte, Nat.reduceEqDiff, Nat.reduceAdd, Nat.reduceMul, Nat.reduceSub, Nat.reduceLT, Nat.reduceLeDiff, Nat.reduceBNe, Nat.reduceBEq, Int.reduceToNat, Int.reduceAdd, Int.reduceSub, Int.reduceMul, Int.reduceLT, Int.reduceLE, Int.reduceNeg, Int.reduceBEq, Int.reduceBNe, Int.reduceEq, beq_self_eq_true, reduceCtorEq, decide_true, decide_false, if_pos, if_neg]; first | done | omega))) only [go_sem, ↓reduceIte, Nat.reduceEqDiff, Nat.reduceAdd, Nat.reduceMul, Nat.reduceSub, Nat.reduceLT, Nat.reduceLeDiff, Nat.reduceBNe, Nat.reduceBEq, Int.reduceToNat, Int.reduceAdd, Int.reduceSub, Int.reduceMul, Int.reduceLT, Int.reduceLE, Int.reduceNeg, Int.reduceBEq, Int.reduceBNe, Int.reduceEq, beq_self_eq_true, reduceCtorEq, decide_true, decide_false, if_pos, if_neg, pdat_zero, shD, shO, hx]) (by decide) (by decide)) (by omega) fun i hi => ?_
              have hdl := pdat_length da m os n i
              by_cases hy : (pdat da m os n i).length = 0
              · exfalso; omega
              · simp only [shD, shO, hy, ↓reduceIte, List.cons_append, List.nil_append, List.append_nil]
                have hy' : (pdat da m os n i).length ≠ 0 := hy
                refine go ?_
                refine cnd (fun h => ?_) (fun h => ?_)
                · simp only [decide_eq_true_eq, decide_eq_false_iff_not, Bool.or_eq_true, Bool.and_eq_true, Bool.or_eq_false_iff, Bool.and_eq_false_iff, Bool.not_eq_true', Bool.not_eq_false', bne_iff_ne, beq_iff_eq, ne_eq, bne_eq_false_iff_eq, beq_eq_false_iff_ne, ge_iff_le, gt_iff_lt, Int.not_le, Int.not_lt] at h
                  have hki := hk i (by omega)
                  have hpk := h1p hnp (show i < os.length by omega)
                  have hnm : ((n * m : Nat) : Int) = (n : Int) * (m : Int) := by simp
                  have hnm4 : n * m ≤ 6561 * 4 := Nat.mul_le_mul (by omega) (by omega)
                  have ey : (pdat da m os n i).length + 1 ≠ 0 := by omega
                  refine go ?_
                  refine R_nilR ⟨[0, 1, 2, 3, 6], _, ?_, i + 1, by omega, by omega, rfl⟩
                  exact Less.mk' (by simp (disch := (first | omega | (simp only [go_sem, ↓reduceIte, Nat.reduceEqDiff, Nat.reduceAdd, Nat.reduceMul, Nat.reduceSub, Nat.reduceLT, Nat.reduceLeDiff, Nat.reduceBNe, Nat.reduceBEq, Int.reduceToNat, Int.reduceAdd, Int.reduceSub, Int.reduceMul, Int.reduceLT, Int.reduceLE, Int.reduceNeg, Int.reduceBEq, Int.reduceBNe, Int.reduceEq, beq_self_eq_true, reduceCtorEq, decide_true, decide_false, if_pos, if_neg]; first | done | omega))) only [go_sem, ↓reduceIte, Nat.reduceEqDiff, Nat.reduceAdd, Nat.reduceMul, Nat.reduceSub, Nat.reduceLT, Nat.reduceLeDiff, Nat.reduceBNe, Nat.reduceBEq, Int.reduceToNat, Int.reduceAdd, Int.reduceSub, Int.reduceMul, Int.reduceLT, Int.reduceLE, Int.reduceNeg, Int.reduceBEq, Int.reduceBNe, Int.reduceEq, beq_self_eq_true, reduceCtorEq, decide_true, decide_false, if_pos, if_neg, pdat_succ, shD, shO, ey, hy', ints_cons]) (by simp (disch := (first | omega | (simp only [go_sem, ↓reduceIte, Nat.reduceEqDiff, Nat.reduceAdd, Nat.reduceMul, Nat.reduceSub, Nat.reduceLT, Nat.reduceLeDiff, Nat.reduceBNe, Nat.reduceBEq, Int.reduceToNat, Int.reduceAdd, Int.reduceSub, Int.reduceMul, Int.reduceLT, Int.reduceLE, Int.reduceNeg, Int.reduceBEq, Int.reduceBNe, Int.reduceEq, beq_self_eq_true, reduceCtorEq, decide_true, decide_false, if_pos, if_neg]; first | done | omega))) only [go_sem, ↓reduceIte, Nat.reduceEqDiff, Nat.reduceAdd, Nat.reduceMul, Nat.reduceSub, Nat.reduceLT, Nat.reduceLeDiff, Nat.reduceBNe, Nat.reduceBEq, Int.reduceToNat, Int.reduceAdd, Int.reduceSub, Int.reduceMul, Int.reduceLT, Int.reduceLE, Int.reduceNeg, Int.reduceBEq, Int.reduceBNe, Int.reduceEq, beq_self_eq_true, reduceCtorEq, decide_true, decide_false, if_pos, if_neg, pdat_succ, shD, shO, ey, hy', ints_cons]) (by decide) (by decide)
                · simp only [decide_eq_true_eq, decide_eq_false_iff_not, Bool.or_eq_true, Bool.and_eq_true, Bool.or_eq_false_iff, Bool.and_eq_false_iff, Bool.not_eq_true', Bool.not_eq_false', bne_iff_ne, beq_iff_eq, ne_eq, bne_eq_false_iff_eq, beq_eq_false_iff_ne, ge_iff_le, gt_iff_lt, Int.not_le, Int.not_lt] at h
                  obtain rfl : i = os.length := by omega
                  refine go ?_
                  refine R_nilR ⟨[0, 1, 2, 3, 4], _, ?_, n + 1, by omega, by omega, rfl⟩
                  exact Less.mk' (by simp (disch := (first | omega | (simp only [go_sem, ↓reduceIte, Nat.reduceEqDiff, Nat.reduceAdd, Nat.reduceMul, Nat.reduceSub, Nat.reduceLT, Nat.reduceLeDiff, Nat.reduceBNe, Nat.reduceBEq, Int.reduceToNat, Int.reduceAdd, Int.reduceSub, Int.reduceMul, Int.reduceLT, Int.reduceLE, Int.reduceNeg, Int.reduceBEq, Int.reduceBNe, Int.reduceEq, beq_self_eq_true, reduceCtorEq, decide_true, decide_false, if_pos, if_neg]; first | done | omega))) only [go_sem, ↓reduceIte, Nat.reduceEqDiff, Nat.reduceAdd, Nat.reduceMul, Nat.reduceSub, Nat.reduceLT, Nat.reduceLeDiff, Nat.reduceBNe, Nat.reduceBEq, Int.reduceToNat, Int.reduceAdd, Int.reduceSub, Int.reduceMul, Int.reduceLT, Int.reduceLE, Int.reduceNeg, Int.reduceBEq, Int.reduceBNe, Int.reduceEq, beq_self_eq_true, reduceCtorEq, decide_true, decide_false, if_pos, if_neg, ← pdat_all, shD, shO, hy]) (by simp (disch := (first | omega | (simp only [go_sem, ↓reduceIte, Nat.reduceEqDiff, Nat.reduceAdd, Nat.reduceMul, Nat.reduceSub, Nat.reduceLT, Nat.reduceLeDiff, Nat.reduceBNe, Nat.reduceBEq, Int.reduceToNat, Int.reduceAdd, Int.reduceSub, Int.reduceMul, Int.reduceLT, Int.reduceLE, Int.reduceNeg, Int.reduceBEq, Int.reduceBNe, Int.reduceEq, beq_self_eq_true, reduceCtorEq, decide_true, decide_false, if_pos, if_neg]; first | done | omega))) only [go_sem, ↓reduceIte, Nat.reduceEqDiff, Nat.reduceAdd, Nat.reduceMul, Nat.reduceSub, Nat.reduceLT, Nat.reduceLeDiff, Nat.reduceBNe, Nat.reduceBEq, Int.reduceToNat, Int.reduceAdd, Int.reduceSub, Int.reduceMul, Int.reduceLT, Int.reduceLE, Int.reduceNeg, Int.reduceBEq, Int.reduceBNe, Int.reduceEq, beq_self_eq_true, reduceCtorEq, decide_true, decide_false, if_pos, if_neg, ← pdat_all, shD, shO, hy]) (by decide) (by decide)
            · simp only [decide_eq_true_eq, decide_eq_false_iff_not, Bool.or_eq_true, Bool.and_eq_true, Bool.or_eq_false_iff, Bool.and_eq_false_iff, Bool.not_eq_true', Bool.not_eq_false', bne_iff_ne, beq_iff_eq, ne_eq, bne_eq_false_iff_eq, beq_eq_false_iff_ne, ge_iff_le, gt_iff_lt, Int.not_le, Int.not_lt] at h
              obtain rfl : n = points sz := by omega
              refine go ?_
              refine R_ret (fin_data (by simp (disch := (first | omega | (simp only [go_sem, ↓reduceIte, Nat.reduceEqDiff, Nat.reduceAdd, Nat.reduceMul, Nat.reduceSub, Nat.reduceLT, Nat.reduceLeDiff, Nat.reduceBNe, Nat.reduceBEq, Int.reduceToNat, Int.reduceAdd, Int.reduceSub, Int.reduceMul, Int.reduceLT, Int.reduceLE, Int.reduceNeg, Int.reduceBEq, Int.reduceBNe, Int.reduceEq, beq_self_eq_true, reduceCtorEq, decide_true, decide_false, if_pos, if_neg]; first | done | omega))) only [go_sem, ↓reduceIte, Nat.reduceEqDiff, Nat.reduceAdd, Nat.reduceMul, Nat.reduceSub, Nat.reduceLT, Nat.reduceLeDiff, Nat.reduceBNe, Nat.reduceBEq, Int.reduceToNat, Int.reduceAdd, Int.reduceSub, Int.reduceMul, Int.reduceLT, Int.reduceLE, Int.reduceNeg, Int.reduceBEq, Int.reduceBNe, Int.reduceEq, beq_self_eq_true, reduceCtorEq, decide_true, decide_false, if_pos, if_neg, gr] <;> rfl) (by simp (disch := (first | omega | (simp only [go_sem, ↓reduceIte, Nat.reduceEqDiff, Nat.reduceAdd, Nat.reduceMul, Nat.reduceSub, Nat.reduceLT, Nat.reduceLeDiff, Nat.reduceBNe, Nat.reduceBEq, Int.reduceToNat, Int.reduceAdd, Int.reduceSub, Int.reduceMul, Int.reduceLT, Int.reduceLE, Int.reduceNeg, Int.reduceBEq, Int.reduceBNe, Int.reduceEq, beq_self_eq_true, reduceCtorEq, decide_true, decide_false, if_pos, if_neg]; first | done | omega))) only [go_sem, ↓reduceIte, Nat.reduceEqDiff, Nat.reduceAdd, Nat.reduceMul, Nat.reduceSub, Nat.reduceLT, Nat.reduceLeDiff, Nat.reduceBNe, Nat.reduceBEq, Int.reduceToNat, Int.reduceAdd, Int.reduceSub, Int.reduceMul, Int.reduceLT, Int.reduceLE, Int.reduceNeg, Int.reduceBEq, Int.reduceBNe, Int.reduceEq, beq_self_eq_true, reduceCtorEq, decide_true, decide_false, if_pos, if_neg, gr]))
end Go.Proofs.Ytndigibhmfegaaa.V

/-
  The grid's pick.
-/
set_option linter.unusedSimpArgs false
set_option linter.unusedVariables false
set_option maxHeartbeats 4000000
namespace Go.Proofs.Ytndigibhmfegaaa.V
open Go Go.Proofs Go.RowKit

theorem take_drop_getD (da : List Int) (k m j : Nat) (h : j < m) : ((da.drop k).take m).getD j 0 = da.getD (k + j) 0 := by
  simp [List.getD_eq_getElem?_getD, List.getElem?_take, h, List.getElem?_drop]
theorem con21a (sz : List Int) (o : Int) (da os : List Int) (h1 : ¬ Right sz o da) : Con Try.prog 21 [gr sz o da, .sl os.length (ints .i64 os)] (.tp [.ag [.em, .sc (.int .i64 0), .em], .sc (.int .i64 100)]) [] := by
  refine Con.of_body [(0, gr sz o da), (1, .sl os.length (ints .i64 os))] Try.func21 rfl ca21 88 rfl (by simp) rfl ?_; refine T_of_R ?_
  refine go ?_
  refine R_scope ?_
  refine go ?_
  refine call (con25f h1) ?_
  refine go ?_
  refine cnd (fun h => ?_) (fun h => ?_)
  · refine go ?_
    refine R_ret (fin_of (ids := []) (by simp (disch := (first | omega | (simp only [go_sem, ↓reduceIte, Nat.reduceEqDiff, Nat.reduceAdd, Nat.reduceMul, Nat.reduceSub, Nat.reduceLT, Nat.reduceLeDiff, Nat.reduceBNe, Nat.reduceBEq, Int.reduceToNat, Int.reduceAdd, Int.reduceSub, Int.reduceMul, Int.reduceLT, Int.reduceLE, Int.reduceNeg, Int.reduceBEq, Int.reduceBNe, Int.reduceEq, beq_self_eq_true, reduceCtorEq, decide_true, decide_false, if_pos, if_neg]; first | done | omega))) only [go_sem, ↓reduceIte, Nat.reduceEqDiff, Nat.reduceAdd, Nat.reduceMul, Nat.reduceSub, Nat.reduceLT, Nat.reduceLeDiff, Nat.reduceBNe, Nat.reduceBEq, Int.reduceToNat, Int.reduceAdd, Int.reduceSub, Int.reduceMul, Int.reduceLT, Int.reduceLE, Int.reduceNeg, Int.reduceBEq, Int.reduceBNe, Int.reduceEq, beq_self_eq_true, reduceCtorEq, decide_true, decide_false, if_pos, if_neg] <;> rfl) (by simp (disch := (first | omega | (simp only [go_sem, ↓reduceIte, Nat.reduceEqDiff, Nat.reduceAdd, Nat.reduceMul, Nat.reduceSub, Nat.reduceLT, Nat.reduceLeDiff, Nat.reduceBNe, Nat.reduceBEq, Int.reduceToNat, Int.reduceAdd, Int.reduceSub, Int.reduceMul, Int.reduceLT, Int.reduceLE, Int.reduceNeg, Int.reduceBEq, Int.reduceBNe, Int.reduceEq, beq_self_eq_true, reduceCtorEq, decide_true, decide_false, if_pos, if_neg]; first | done | omega))) only [go_sem, ↓reduceIte, Nat.reduceEqDiff, Nat.reduceAdd, Nat.reduceMul, Nat.reduceSub, Nat.reduceLT, Nat.reduceLeDiff, Nat.reduceBNe, Nat.reduceBEq, Int.reduceToNat, Int.reduceAdd, Int.reduceSub, Int.reduceMul, Int.reduceLT, Int.reduceLE, Int.reduceNeg, Int.reduceBEq, Int.reduceBNe, Int.reduceEq, beq_self_eq_true, reduceCtorEq, decide_true, decide_false, if_pos, if_neg]) (by decide) (by simp (disch := (first | omega | (simp only [go_sem, ↓reduceIte, Nat.reduceEqDiff, Nat.reduceAdd, Nat.reduceMul, Nat.reduceSub, Nat.reduceLT, Nat.reduceLeDiff, Nat.reduceBNe, Nat.reduceBEq, Int.reduceToNat, Int.reduceAdd, Int.reduceSub, Int.reduceMul, Int.reduceLT, Int.reduceLE, Int.reduceNeg, Int.reduceBEq, Int.reduceBNe, Int.reduceEq, beq_self_eq_true, reduceCtorEq, decide_true, decide_false, if_pos, if_neg]; first | done | omega))) only [go_sem, ↓reduceIte, Nat.reduceEqDiff, Nat.reduceAdd, Nat.reduceMul, Nat.reduceSub, Nat.reduceLT, Nat.reduceLeDiff, Nat.reduceBNe, Nat.reduceBEq, Int.reduceToNat, Int.reduceAdd, Int.reduceSub, Int.reduceMul, Int.reduceLT, Int.reduceLE, Int.reduceNeg, Int.reduceBEq, Int.reduceBNe, Int.reduceEq, beq_self_eq_true, reduceCtorEq, decide_true, decide_false, if_pos, if_neg]))
  · cases h
theorem con21b (sz : List Int) (o : Int) (da os : List Int) (h1 : Right sz o da) (ho : ¬ (1 ≤ os.length ∧ os.length ≤ 4)) : Con Try.prog 21 [gr sz o da, .sl os.length (ints .i64 os)] (.tp [.ag [.em, .sc (.int .i64 0), .em], .sc (.int .i64 2)]) [] := by
  refine Con.of_body [(0, gr sz o da), (1, .sl os.length (ints .i64 os))] Try.func21 rfl ca21 88 rfl (by simp) rfl ?_; refine T_of_R ?_
  refine go ?_
  refine R_sl 1 (by simp (disch := (first | omega | (simp only [go_sem, ↓reduceIte, Nat.reduceEqDiff, Nat.reduceAdd, Nat.reduceMul, Nat.reduceSub, Nat.reduceLT, Nat.reduceLeDiff, Nat.reduceBNe, Nat.reduceBEq, Int.reduceToNat, Int.reduceAdd, Int.reduceSub, Int.reduceMul, Int.reduceLT, Int.reduceLE, Int.reduceNeg, Int.reduceBEq, Int.reduceBNe, Int.reduceEq, beq_self_eq_true, reduceCtorEq, decide_true, decide_false, if_pos, if_neg]; first | done | omega))) only [go_sem, ↓reduceIte, Nat.reduceEqDiff, Nat.reduceAdd, Nat.reduceMul, Nat.reduceSub, Nat.reduceLT, Nat.reduceLeDiff, Nat.reduceBNe, Nat.reduceBEq, Int.reduceToNat, Int.reduceAdd, Int.reduceSub, Int.reduceMul, Int.reduceLT, Int.reduceLE, Int.reduceNeg, Int.reduceBEq, Int.reduceBNe, Int.reduceEq, beq_self_eq_true, reduceCtorEq, decide_true, decide_false, if_pos, if_neg] <;> rfl) fun hon => ?_
  refine R_scope ?_
  refine go ?_
  refine call (con25t h1) ?_
  refine go ?_
  refine cnd (fun h => ?_) (fun h => ?_)
  · cases h
  · refine go ?_
    refine cnd (fun h => ?_) (fun h => ?_)
    · refine go ?_
      refine R_ret (fin_of (ids := []) (by simp (disch := (first | omega | (simp only [go_sem, ↓reduceIte, Nat.reduceEqDiff, Nat.reduceAdd, Nat.reduceMul, Nat.reduceSub, Nat.reduceLT, Nat.reduceLeDiff, Nat.reduceBNe, Nat.reduceBEq, Int.reduceToNat, Int.reduceAdd, Int.reduceSub, Int.reduceMul, Int.reduceLT, Int.reduceLE, Int.reduceNeg, Int.reduceBEq, Int.reduceBNe, Int.reduceEq, beq_self_eq_true, reduceCtorEq, decide_true, decide_false, if_pos, if_neg]; first | done | omega))) only [go_sem, ↓reduceIte, Nat.reduceEqDiff, Nat.reduceAdd, Nat.reduceMul, Nat.reduceSub, Nat.reduceLT, Nat.reduceLeDiff, Nat.reduceBNe, Nat.reduceBEq, Int.reduceToNat, Int.reduceAdd, Int.reduceSub, Int.reduceMul, Int.reduceLT, Int.reduceLE, Int.reduceNeg, Int.reduceBEq, Int.reduceBNe, Int.reduceEq, beq_self_eq_true, reduceCtorEq, decide_true, decide_false, if_pos, if_neg] <;> rfl) (by simp (disch := (first | omega | (simp only [go_sem, ↓reduceIte, Nat.reduceEqDiff, Nat.reduceAdd, Nat.reduceMul, Nat.reduceSub, Nat.reduceLT, Nat.reduceLeDiff, Nat.reduceBNe, Nat.reduceBEq, Int.reduceToNat, Int.reduceAdd, Int.reduceSub, Int.reduceMul, Int.reduceLT, Int.reduceLE, Int.reduceNeg, Int.reduceBEq, Int.reduceBNe, Int.reduceEq, beq_self_eq_true, reduceCtorEq, decide_true, decide_false, if_pos, if_neg]; first | done | omega))) only [go_sem, ↓reduceIte, Nat.reduceEqDiff, Nat.reduceAdd, Nat.reduceMul, Nat.reduceSub, Nat.reduceLT, Nat.reduceLeDiff, Nat.reduceBNe, Nat.reduceBEq, Int.reduceToNat, Int.reduceAdd, Int.reduceSub, Int.reduceMul, Int.reduceLT, Int.reduceLE, Int.reduceNeg, Int.reduceBEq, Int.reduceBNe, Int.reduceEq, beq_self_eq_true, reduceCtorEq, decide_true, decide_false, if_pos, if_neg]) (by decide) (by simp (disch := (first | omega | (simp only [go_sem, ↓reduceIte, Nat.reduceEqDiff, Nat.reduceAdd, Nat.reduceMul, Nat.reduceSub, Nat.reduceLT, Nat.reduceLeDiff, Nat.reduceBNe, Nat.reduceBEq, Int.reduceToNat, Int.reduceAdd, Int.reduceSub, Int.reduceMul, Int.reduceLT, Int.reduceLE, Int.reduceNeg, Int.reduceBEq, Int.reduceBNe, Int.reduceEq, beq_self_eq_true, reduceCtorEq, decide_true, decide_false, if_pos, if_neg]; first | done | omega))) only [go_sem, ↓reduceIte, Nat.reduceEqDiff, Nat.reduceAdd, Nat.reduceMul, Nat.reduceSub, Nat.reduceLT, Nat.reduceLeDiff, Nat.reduceBNe, Nat.reduceBEq, Int.reduceToNat, Int.reduceAdd, Int.reduceSub, Int.reduceMul, Int.reduceLT, Int.reduceLE, Int.reduceNeg, Int.reduceBEq, Int.reduceBNe, Int.reduceEq, beq_self_eq_true, reduceCtorEq, decide_true, decide_false, if_pos, if_neg]))
    · simp only [decide_eq_true_eq, decide_eq_false_iff_not, Bool.or_eq_true, Bool.and_eq_true, Bool.or_eq_false_iff, Bool.and_eq_false_iff, Bool.not_eq_true', Bool.not_eq_false', bne_iff_ne, beq_iff_eq, ne_eq, bne_eq_false_iff_eq, beq_eq_false_iff_ne, ge_iff_le, gt_iff_lt, Int.not_le, Int.not_lt] at h
      omega
theorem con21c (sz : List Int) (o : Int) (da os : List Int) (h1 : Right sz o da) (ho : 1 ≤ os.length ∧ os.length ≤ 4) (hk : ¬ Pk o os) : Con Try.prog 21 [gr sz o da, .sl os.length (ints .i64 os)] (.tp [.ag [.em, .sc (.int .i64 0), .em], .sc (.int .i64 2)]) [] := by
  obtain ⟨b, ⟨hb1, hb2⟩, hmin⟩ := first_bad (n := os.length) (p := fun k => 0 ≤ os.getD k 0 ∧ os.getD k 0 < o) hk
  have ho4 := h1.2.2.2.1
  have ho1 := h1.2.2.1
  refine Con.of_body [(0, gr sz o da), (1, .sl os.length (ints .i64 os))] Try.func21 rfl ca21 88 rfl (by simp) rfl ?_; refine T_of_R ?_
  refine go ?_
  refine R_scope ?_
  refine go ?_
  refine call (con25t h1) ?_
  refine go ?_
  refine cnd (fun h => ?_) (fun h => ?_)
  · cases h
  · refine go ?_
    refine cnd (fun h => ?_) (fun h => ?_)
    · simp only [decide_eq_true_eq, decide_eq_false_iff_not, Bool.or_eq_true, Bool.and_eq_true, Bool.or_eq_false_iff, Bool.and_eq_false_iff, Bool.not_eq_true', Bool.not_eq_false', bne_iff_ne, beq_iff_eq, ne_eq, bne_eq_false_iff_eq, beq_eq_false_iff_ne, ge_iff_le, gt_iff_lt, Int.not_le, Int.not_lt] at h
      omega
    · clear h
      refine go ?_
      refine R_label ?_
      refine go ?_
      refine R_loop (fun i : Nat => ⟨tl [(3, .pt 1 0), (4, .pt 2 0), (7, .pt 3 0), (32, .sl os.length (ints .i64 os)), (33, .sc (.int .i64 os.length)), (34, .sc (.int .i64 i))], ol [(0, ⟨[.sl sz.length (ints .i64 sz), .sc (.int .i64 o), .sl da.length (ints .i64 da)], 24, 0, false⟩), (1, ⟨[.sl os.length (ints .i64 os)], 22, 0, false⟩), (2, ⟨[.em, .sc (.int .i64 0), .em], 24, 0, false⟩), (3, ⟨[.sl sz.length (ints .i64 sz), .sc (.int .i64 o), .sl da.length (ints .i64 da)], 67, 0, false⟩)], 4, [], 88⟩) (fun i => i ≤ b) (fun i => b - i) 0 [0, 1, 2, 3] (Less.mk' (by simp (disch := (first | omega | (simp only [go_sem, ↓reduceIte, Nat.reduceEqDiff, Nat.reduceAdd, Nat.reduceMul, Nat.reduceSub, Nat.reduceLT, Nat.reduceLeDiff, Nat.reduceBNe, Nat.reduceBEq, Int.reduceToNat, Int.reduceAdd, Int.reduceSub, Int.reduceMul, Int.reduceLT, Int.reduceLE, Int.reduceNeg, Int.reduceBEq, Int.reduceBNe, Int.reduceEq, beq_self_eq_true, reduceCtorEq, decide_true, decide_false, if_pos, if_neg]; first | done | omega))) only [go_sem, ↓reduceIte, Nat.reduceEqDiff, Nat.reduceAdd, Nat.reduceMul, Nat.reduceSub, Nat.reduceLT, Nat.reduceLeDiff, Nat.reduceBNe, Nat.reduceBEq, Int.reduceToNat, Int.reduceAdd, Int.reduceSub, Int.reduceMul, Int.reduceLT, Int.reduceLE, Int.reduceNeg, Int.reduceBEq, Int.reduceBNe, Int.reduceEq, beq_self_eq_true, reduceCtorEq, decide_true, decide_false, if_pos, if_neg]) (by simp (disch := (first | omega | (simp only [go_sem, ↓reduceIte, Nat.reduceEqDiff, Nat.reduceAdd, Nat.reduceMul, Nat.reduceSub, Nat.reduceLT, Nat.reduceLeDiff, Nat.reduceBNe, Nat.reduceBEq, Int.reduceToNat, Int.reduceAdd, Int.reduceSub, Int.reduceMul, Int.reduceLT, Int.reduceLE, Int.reduceNeg, Int.reduceBEq, Int.reduceBNe, Int.reduceEq, beq_self_eq_true, reduceCtorEq, decide_true, decide_false, if_pos, if_neg]; first | done | omega))) only [go_sem, ↓reduceIte, Nat.reduceEqDiff, Nat.reduceAdd, Nat.reduceMul, Nat.reduceSub, Nat.reduceLT, Nat.reduceLeDiff, Nat.reduceBNe, Nat.reduceBEq, Int.reduceToNat, Int.reduceAdd, Int.reduceSub, Int.reduceMul, Int.reduceLT, Int.reduceLE, Int.reduceNeg, Int.reduceBEq, Int.reduceBNe, Int.reduceEq, beq_self_eq_true, reduceCtorEq, decide_true, decide_false, if_pos, if_neg]) (by decide) (by decide)) (by omega) fun i hi => ?_
      refine go ?_
      refine cnd (fun h => ?_) (fun h => ?_)
      · simp only [decide_eq_true_eq, decide_eq_false_iff_not, Bool.or_eq_true, Bool.and_eq_true, Bool.or_eq_false_iff, Bool.and_eq_false_iff, Bool.not_eq_true', Bool.not_eq_false', bne_iff_ne, beq_iff_eq, ne_eq, bne_eq_false_iff_eq, beq_eq_false_iff_ne, ge_iff_le, gt_iff_lt, Int.not_le, Int.not_lt] at h
        refine go ?_
        refine cnd (fun h => ?_) (fun h => ?_)
        · simp only [decide_eq_true_eq, decide_eq_false_iff_not, Bool.or_eq_true, Bool.and_eq_true, Bool.or_eq_false_iff, Bool.and_eq_false_iff, Bool.not_eq_true', Bool.not_eq_false', bne_iff_ne, beq_iff_eq, ne_eq, bne_eq_false_iff_eq, beq_eq_false_iff_ne, ge_iff_le, gt_iff_lt, Int.not_le, Int.not_lt] at h
          have hne : i ≠ b := fun e => by subst e; omega
          refine go ?_
          refine R_nilR ⟨[0, 1, 2, 3], _, ?_, i + 1, by omega, by omega, rfl⟩; exact Less.mk' (by simp (disch := (first | omega | (simp only [go_sem, ↓reduceIte, Nat.reduceEqDiff, Nat.reduceAdd, Nat.reduceMul, Nat.reduceSub, Nat.reduceLT, Nat.reduceLeDiff, Nat.reduceBNe, Nat.reduceBEq, Int.reduceToNat, Int.reduceAdd, Int.reduceSub, Int.reduceMul, Int.reduceLT, Int.reduceLE, Int.reduceNeg, Int.reduceBEq, Int.reduceBNe, Int.reduceEq, beq_self_eq_true, reduceCtorEq, decide_true, decide_false, if_pos, if_neg]; first | done | omega))) only [go_sem, ↓reduceIte, Nat.reduceEqDiff, Nat.reduceAdd, Nat.reduceMul, Nat.reduceSub, Nat.reduceLT, Nat.reduceLeDiff, Nat.reduceBNe, Nat.reduceBEq, Int.reduceToNat, Int.reduceAdd, Int.reduceSub, Int.reduceMul, Int.reduceLT, Int.reduceLE, Int.reduceNeg, Int.reduceBEq, Int.reduceBNe, Int.reduceEq, beq_self_eq_true, reduceCtorEq, decide_true, decide_false, if_pos, if_neg]) (by simp (disch := (first | omega | (simp only [go_sem, ↓reduceIte, Nat.reduceEqDiff, Nat.reduceAdd, Nat.reduceMul, Nat.reduceSub, Nat.reduceLT, Nat.reduceLeDiff, Nat.reduceBNe, Nat.reduceBEq, Int.reduceToNat, Int.reduceAdd, Int.reduceSub, Int.reduceMul, Int.reduceLT, Int.reduceLE, Int.reduceNeg, Int.reduceBEq, Int.reduceBNe, Int.reduceEq, beq_self_eq_true, reduceCtorEq, decide_true, decide_false, if_pos, if_neg]; first | done | omega))) only [go_sem, ↓reduceIte, Nat.reduceEqDiff, Nat.reduceAdd, Nat.reduceMul, Nat.reduceSub, Nat.reduceLT, Nat.reduceLeDiff, Nat.reduceBNe, Nat.reduceBEq, Int.reduceToNat, Int.reduceAdd, Int.reduceSub, Int.reduceMul, Int.reduceLT, Int.reduceLE, Int.reduceNeg, Int.reduceBEq, Int.reduceBNe, Int.reduceEq, beq_self_eq_true, reduceCtorEq, decide_true, decide_false, if_pos, if_neg]) (by decide) (by decide)
        · refine go ?_
          refine R_ret (fin_of (ids := []) (by simp (disch := (first | omega | (simp only [go_sem, ↓reduceIte, Nat.reduceEqDiff, Nat.reduceAdd, Nat.reduceMul, Nat.reduceSub, Nat.reduceLT, Nat.reduceLeDiff, Nat.reduceBNe, Nat.reduceBEq, Int.reduceToNat, Int.reduceAdd, Int.reduceSub, Int.reduceMul, Int.reduceLT, Int.reduceLE, Int.reduceNeg, Int.reduceBEq, Int.reduceBNe, Int.reduceEq, beq_self_eq_true, reduceCtorEq, decide_true, decide_false, if_pos, if_neg]; first | done | omega))) only [go_sem, ↓reduceIte, Nat.reduceEqDiff, Nat.reduceAdd, Nat.reduceMul, Nat.reduceSub, Nat.reduceLT, Nat.reduceLeDiff, Nat.reduceBNe, Nat.reduceBEq, Int.reduceToNat, Int.reduceAdd, Int.reduceSub, Int.reduceMul, Int.reduceLT, Int.reduceLE, Int.reduceNeg, Int.reduceBEq, Int.reduceBNe, Int.reduceEq, beq_self_eq_true, reduceCtorEq, decide_true, decide_false, if_pos, if_neg] <;> rfl) (by simp (disch := (first | omega | (simp only [go_sem, ↓reduceIte, Nat.reduceEqDiff, Nat.reduceAdd, Nat.reduceMul, Nat.reduceSub, Nat.reduceLT, Nat.reduceLeDiff, Nat.reduceBNe, Nat.reduceBEq, Int.reduceToNat, Int.reduceAdd, Int.reduceSub, Int.reduceMul, Int.reduceLT, Int.reduceLE, Int.reduceNeg, Int.reduceBEq, Int.reduceBNe, Int.reduceEq, beq_self_eq_true, reduceCtorEq, decide_true, decide_false, if_pos, if_neg]; first | done | omega))) only [go_sem, ↓reduceIte, Nat.reduceEqDiff, Nat.reduceAdd, Nat.reduceMul, Nat.reduceSub, Nat.reduceLT, Nat.reduceLeDiff, Nat.reduceBNe, Nat.reduceBEq, Int.reduceToNat, Int.reduceAdd, Int.reduceSub, Int.reduceMul, Int.reduceLT, Int.reduceLE, Int.reduceNeg, Int.reduceBEq, Int.reduceBNe, Int.reduceEq, beq_self_eq_true, reduceCtorEq, decide_true, decide_false, if_pos, if_neg]) (by decide) (by simp (disch := (first | omega | (simp only [go_sem, ↓reduceIte, Nat.reduceEqDiff, Nat.reduceAdd, Nat.reduceMul, Nat.reduceSub, Nat.reduceLT, Nat.reduceLeDiff, Nat.reduceBNe, Nat.reduceBEq, Int.reduceToNat, Int.reduceAdd, Int.reduceSub, Int.reduceMul, Int.reduceLT, Int.reduceLE, Int.reduceNeg, Int.reduceBEq, Int.reduceBNe, Int.reduceEq, beq_self_eq_true, reduceCtorEq, decide_true, decide_false, if_pos, if_neg]; first | done | omega))) only [go_sem, ↓reduceIte, Nat.reduceEqDiff, Nat.reduceAdd, Nat.reduceMul, Nat.reduceSub, Nat.reduceLT, Nat.reduceLeDiff, Nat.reduceBNe, Nat.reduceBEq, Int.reduceToNat, Int.reduceAdd, Int.reduceSub, Int.reduceMul, Int.reduceLT, Int.reduceLE, Int.reduceNeg, Int.reduceBEq, Int.reduceBNe, Int.reduceEq, beq_self_eq_true, reduceCtorEq, decide_true, decide_false, if_pos, if_neg]))
      · simp only [decide_eq_true_eq, decide_eq_false_iff_not, Bool.or_eq_true, Bool.and_eq_true, Bool.or_eq_false_iff, Bool.and_eq_false_iff, Bool.not_eq_true', Bool.not_eq_false', bne_iff_ne, beq_iff_eq, ne_eq, bne_eq_false_iff_eq, beq_eq_false_iff_ne, ge_iff_le, gt_iff_lt, Int.not_le, Int.not_lt] at h
        omega
theorem con21d (sz : List Int) (m : Nat) (da os : List Int) (h1 : Right sz m da) (ho : 1 ≤ os.length ∧ os.length ≤ 4) (hk : Pk m os) (hl : 4096 < points sz * os.length) : Con Try.prog 21 [gr sz m da, .sl os.length (ints .i64 os)] (.tp [.ag [.em, .sc (.int .i64 0), .em], .sc (.int .i64 3)]) [] := by
  have hR := h1
  have h1p : ∀ {n i : Nat}, n < points sz → i < os.length → n * m + (os.getD i 0).toNat < da.length := fun hn hi => hR.pick hk hn hi
  obtain ⟨hz1, h4, o1, o4, hs, _, hd, _⟩ := h1
  have h1 := hR
  have hp := points_le h4 hs
  have hm5 : points sz * os.length ≤ 6561 * 4 := Nat.mul_le_mul hp.2 ho.2
  have hm6 : ((points sz : Nat) : Int) * ((os.length : Nat) : Int) = ((points sz * os.length : Nat) : Int) := by simp
  refine Con.of_body [(0, gr sz m da), (1, .sl os.length (ints .i64 os))] Try.func21 rfl ca21 88 rfl (by simp) rfl ?_; refine T_of_R ?_
  refine go ?_
  refine R_scope ?_
  refine go ?_
  refine call (con25t h1) ?_
  refine go ?_
  refine cnd (fun h => ?_) (fun h => ?_)
  · cases h
  · refine go ?_
    refine cnd (fun h => ?_) (fun h => ?_)
    · simp only [decide_eq_true_eq, decide_eq_false_iff_not, Bool.or_eq_true, Bool.and_eq_true, Bool.or_eq_false_iff, Bool.and_eq_false_iff, Bool.not_eq_true', Bool.not_eq_false', bne_iff_ne, beq_iff_eq, ne_eq, bne_eq_false_iff_eq, beq_eq_false_iff_ne, ge_iff_le, gt_iff_lt, Int.not_le, Int.not_lt] at h
      omega
    · clear h
      refine go ?_
      refine R_label ?_
      refine go ?_
      refine R_loop (fun i : Nat => ⟨tl [(3, .pt 1 0), (4, .pt 2 0), (7, .pt 3 0), (32, .sl os.length (ints .i64 os)), (33, .sc (.int .i64 os.length)), (34, .sc (.int .i64 i))], ol [(0, ⟨[.sl sz.length (ints .i64 sz), .sc (.int .i64 m), .sl da.length (ints .i64 da)], 24, 0, false⟩), (1, ⟨[.sl os.length (ints .i64 os)], 22, 0, false⟩), (2, ⟨[.em, .sc (.int .i64 0), .em], 24, 0, false⟩), (3, ⟨[.sl sz.length (ints .i64 sz), .sc (.int .i64 m), .sl da.length (ints .i64 da)], 67, 0, false⟩)], 4, [], 88⟩) (fun i => i ≤ os.length) (fun i => os.length - i) 0 [0, 1, 2, 3] (Less.mk' (by simp (disch := (first | omega | (simp only [go_sem, ↓reduceIte, Nat.reduceEqDiff, Nat.reduceAdd, Nat.reduceMul, Nat.reduceSub, Nat.reduceLT, Nat.reduceLeDiff, Nat.reduceBNe, Nat.reduceBEq, Int.reduceToNat, Int.reduceAdd, Int.reduceSub, Int.reduceMul, Int.reduceLT, Int.reduceLE, Int.reduceNeg, Int.reduceBEq, Int.reduceBNe, Int.reduceEq, beq_self_eq_true, reduceCtorEq, decide_true, decide_false, if_pos, if_neg]; first | done | omega))) only [go_sem, ↓reduceIte, Nat.reduceEqDiff, Nat.reduceAdd, Nat.reduceMul, Nat.reduceSub, Nat.reduceLT, Nat.reduceLeDiff, Nat.reduceBNe, Nat.reduceBEq, Int.reduceToNat, Int.reduceAdd, Int.reduceSub, Int.reduceMul, Int.reduceLT, Int.reduceLE, Int.reduceNeg, Int.reduceBEq, Int.reduceBNe, Int.reduceEq, beq_self_eq_true, reduceCtorEq, decide_true, decide_false, if_pos, if_neg]) (by simp (disch := (first | omega | (simp only [go_sem, ↓reduceIte, Nat.reduceEqDiff, Nat.reduceAdd, Nat.reduceMul, Nat.reduceSub, Nat.reduceLT, Nat.reduceLeDiff, Nat.reduceBNe, Nat.reduceBEq, Int.reduceToNat, Int.reduceAdd, Int.reduceSub, Int.reduceMul, Int.reduceLT, Int.reduceLE, Int.reduceNeg, Int.reduceBEq, Int.reduceBNe, Int.reduceEq, beq_self_eq_true, reduceCtorEq, decide_true, decide_false, if_pos, if_neg]; first | done | omega))) only [go_sem, ↓reduceIte, Nat.reduceEqDiff, Nat.reduceAdd, Nat.reduceMul, Nat.reduceSub, Nat.reduceLT, Nat.reduceLeDiff, Nat.reduceBNe, Nat.reduceBEq, Int.reduceToNat, Int.reduceAdd, Int.reduceSub, Int.reduceMul, Int.reduceLT, Int.reduceLE, Int.reduceNeg, Int.reduceBEq, Int.reduceBNe, Int.reduceEq, beq_self_eq_true, reduceCtorEq, decide_true, decide_false, if_pos, if_neg]) (by decide) (by decide)) (by omega) fun i hi => ?_
      refine go ?_
      refine cnd (fun h => ?_) (fun h => ?_)
      · simp only [decide_eq_true_eq, decide_eq_false_iff_not, Bool.or_eq_true, Bool.and_eq_true, Bool.or_eq_false_iff, Bool.and_eq_false_iff, Bool.not_eq_true', Bool.not_eq_false', bne_iff_ne, beq_iff_eq, ne_eq, bne_eq_false_iff_eq, beq_eq_false_iff_ne, ge_iff_le, gt_iff_lt, Int.not_le, Int.not_lt] at h
        have hki := hk i (by omega)
        refine go ?_
        have hlt := h
        refine cnd (fun h => ?_) (fun h => ?_)
        · clear h
          refine go ?_
          refine R_nilR ⟨[0, 1, 2, 3], _, ?_, i + 1, by omega, by omega, rfl⟩; exact Less.mk' (by simp (disch := (first | omega | (simp only [go_sem, ↓reduceIte, Nat.reduceEqDiff, Nat.reduceAdd, Nat.reduceMul, Nat.reduceSub, Nat.reduceLT, Nat.reduceLeDiff, Nat.reduceBNe, Nat.reduceBEq, Int.reduceToNat, Int.reduceAdd, Int.reduceSub, Int.reduceMul, Int.reduceLT, Int.reduceLE, Int.reduceNeg, Int.reduceBEq, Int.reduceBNe, Int.reduceEq, beq_self_eq_true, reduceCtorEq, decide_true, decide_false, if_pos, if_neg]; first | done | omega))) only [go_sem, ↓reduceIte, Nat.reduceEqDiff, Nat.reduceAdd, Nat.reduceMul, Nat.reduceSub, Nat.reduceLT, Nat.reduceLeDiff, Nat.reduceBNe, Nat.reduceBEq, Int.reduceToNat, Int.reduceAdd, Int.reduceSub, Int.reduceMul, Int.reduceLT, Int.reduceLE, Int.reduceNeg, Int.reduceBEq, Int.reduceBNe, Int.reduceEq, beq_self_eq_true, reduceCtorEq, decide_true, decide_false, if_pos, if_neg]) (by simp (disch := (first | omega | (simp only [go_sem, ↓reduceIte, Nat.reduceEqDiff, Nat.reduceAdd, Nat.reduceMul, Nat.reduceSub, Nat.reduceLT, Nat.reduceLeDiff, Nat.reduceBNe, Nat.reduceBEq, Int.reduceToNat, Int.reduceAdd, Int.reduceSub, Int.reduceMul, Int.reduceLT, Int.reduceLE, Int.reduceNeg, Int.reduceBEq, Int.reduceBNe, Int.reduceEq, beq_self_eq_true, reduceCtorEq, decide_true, decide_false, if_pos, if_neg]; first | done | omega))) only [go_sem, ↓reduceIte, Nat.reduceEqDiff, Nat.reduceAdd, Nat.reduceMul, Nat.reduceSub, Nat.reduceLT, Nat.reduceLeDiff, Nat.reduceBNe, Nat.reduceBEq, Int.reduceToNat, Int.reduceAdd, Int.reduceSub, Int.reduceMul, Int.reduceLT, Int.reduceLE, Int.reduceNeg, Int.reduceBEq, Int.reduceBNe, Int.reduceEq, beq_self_eq_true, reduceCtorEq, decide_true, decide_false, if_pos, if_neg]) (by decide) (by decide)
        · simp only [decide_eq_true_eq, decide_eq_false_iff_not, Bool.or_eq_true, Bool.and_eq_true, Bool.or_eq_false_iff, Bool.and_eq_false_iff, Bool.not_eq_true', Bool.not_eq_false', bne_iff_ne, beq_iff_eq, ne_eq, bne_eq_false_iff_eq, beq_eq_false_iff_ne, ge_iff_le, gt_iff_lt, Int.not_le, Int.not_lt] at h
          omega
      · simp only [decide_eq_true_eq, decide_eq_false_iff_not, Bool.or_eq_true, Bool.and_eq_true, Bool.or_eq_false_iff, Bool.and_eq_false_iff, Bool.not_eq_true', Bool.not_eq_false', bne_iff_ne, beq_iff_eq, ne_eq, bne_eq_false_iff_eq, beq_eq_false_iff_ne, ge_iff_le, gt_iff_lt, Int.not_le, Int.not_lt] at h
        clear h
        refine go ?_
        refine call (con45p h4 hs) ?_
        refine go ?_
        refine cnd (fun h => ?_) (fun h => ?_)
        · refine go ?_
          refine R_ret (fin_of (ids := []) (by simp (disch := (first | omega | (simp only [go_sem, ↓reduceIte, Nat.reduceEqDiff, Nat.reduceAdd, Nat.reduceMul, Nat.reduceSub, Nat.reduceLT, Nat.reduceLeDiff, Nat.reduceBNe, Nat.reduceBEq, Int.reduceToNat, Int.reduceAdd, Int.reduceSub, Int.reduceMul, Int.reduceLT, Int.reduceLE, Int.reduceNeg, Int.reduceBEq, Int.reduceBNe, Int.reduceEq, beq_self_eq_true, reduceCtorEq, decide_true, decide_false, if_pos, if_neg]; first | done | omega))) only [go_sem, ↓reduceIte, Nat.reduceEqDiff, Nat.reduceAdd, Nat.reduceMul, Nat.reduceSub, Nat.reduceLT, Nat.reduceLeDiff, Nat.reduceBNe, Nat.reduceBEq, Int.reduceToNat, Int.reduceAdd, Int.reduceSub, Int.reduceMul, Int.reduceLT, Int.reduceLE, Int.reduceNeg, Int.reduceBEq, Int.reduceBNe, Int.reduceEq, beq_self_eq_true, reduceCtorEq, decide_true, decide_false, if_pos, if_neg] <;> rfl) (by simp (disch := (first | omega | (simp only [go_sem, ↓reduceIte, Nat.reduceEqDiff, Nat.reduceAdd, Nat.reduceMul, Nat.reduceSub, Nat.reduceLT, Nat.reduceLeDiff, Nat.reduceBNe, Nat.reduceBEq, Int.reduceToNat, Int.reduceAdd, Int.reduceSub, Int.reduceMul, Int.reduceLT, Int.reduceLE, Int.reduceNeg, Int.reduceBEq, Int.reduceBNe, Int.reduceEq, beq_self_eq_true, reduceCtorEq, decide_true, decide_false, if_pos, if_neg]; first | done | omega))) only [go_sem, ↓reduceIte, Nat.reduceEqDiff, Nat.reduceAdd, Nat.reduceMul, Nat.reduceSub, Nat.reduceLT, Nat.reduceLeDiff, Nat.reduceBNe, Nat.reduceBEq, Int.reduceToNat, Int.reduceAdd, Int.reduceSub, Int.reduceMul, Int.reduceLT, Int.reduceLE, Int.reduceNeg, Int.reduceBEq, Int.reduceBNe, Int.reduceEq, beq_self_eq_true, reduceCtorEq, decide_true, decide_false, if_pos, if_neg]) (by decide) (by simp (disch := (first | omega | (simp only [go_sem, ↓reduceIte, Nat.reduceEqDiff, Nat.reduceAdd, Nat.reduceMul, Nat.reduceSub, Nat.reduceLT, Nat.reduceLeDiff, Nat.reduceBNe, Nat.reduceBEq, Int.reduceToNat, Int.reduceAdd, Int.reduceSub, Int.reduceMul, Int.reduceLT, Int.reduceLE, Int.reduceNeg, Int.reduceBEq, Int.reduceBNe, Int.reduceEq, beq_self_eq_true, reduceCtorEq, decide_true, decide_false, if_pos, if_neg]; first | done | omega))) only [go_sem, ↓reduceIte, Nat.reduceEqDiff, Nat.reduceAdd, Nat.reduceMul, Nat.reduceSub, Nat.reduceLT, Nat.reduceLeDiff, Nat.reduceBNe, Nat.reduceBEq, Int.reduceToNat, Int.reduceAdd, Int.reduceSub, Int.reduceMul, Int.reduceLT, Int.reduceLE, Int.reduceNeg, Int.reduceBEq, Int.reduceBNe, Int.reduceEq, beq_self_eq_true, reduceCtorEq, decide_true, decide_false, if_pos, if_neg]))
        · simp only [decide_eq_true_eq, decide_eq_false_iff_not, Bool.or_eq_true, Bool.and_eq_true, Bool.or_eq_false_iff, Bool.and_eq_false_iff, Bool.not_eq_true', Bool.not_eq_false', bne_iff_ne, beq_iff_eq, ne_eq, bne_eq_false_iff_eq, beq_eq_false_iff_ne, ge_iff_le, gt_iff_lt, Int.not_le, Int.not_lt] at h
          omega
end Go.Proofs.Ytndigibhmfegaaa.V

/-
  The grid's pick, where all is well.
-/
set_option linter.unusedSimpArgs false
set_option linter.unusedVariables false
set_option maxHeartbeats 4000000
namespace Go.Proofs.Ytndigibhmfegaaa.V
open Go Go.Proofs Go.RowKit

theorem con21 (sz : List Int) (m : Nat) (da os : List Int) (h1 : Right sz m da) (ho : 1 ≤ os.length ∧ os.length ≤ 4) (hk : Pk m os) (hl : points sz * os.length ≤ 4096) : Con Try.prog 21 [gr sz m da, .sl os.length (ints .i64 os)] (.tp [gr sz os.length (pall da m os (points sz)), .sc (.int .i64 0)]) [] := by
  have hR := h1
  have h1p : ∀ {n i : Nat}, n < points sz → i < os.length → n * m + (os.getD i 0).toNat < da.length := fun hn hi => hR.pick hk hn hi
  obtain ⟨hz1, h4, o1, o4, hs, _, hd, _⟩ := h1
  have h1 := hR
  have hp := points_le h4 hs
  have hm5 : points sz * os.length ≤ 6561 * 4 := Nat.mul_le_mul hp.2 ho.2
  have hm6 : ((points sz : Nat) : Int) * ((os.length : Nat) : Int) = ((points sz * os.length : Nat) : Int) := by simp
  refine Con.of_bodyD [(0, gr sz m da), (1, .sl os.length (ints .i64 os))] Try.func21 rfl ca21 88 rfl (by simp) rfl ?_; refine T_of_R ?_
  refine go ?_
  refine R_scope ?_
  refine go ?_
  refine call (con25t h1) ?_
  refine go ?_
  refine cnd (fun h => ?_) (fun h => ?_)
  · cases h
  · refine go ?_
    refine cnd (fun h => ?_) (fun h => ?_)
    · simp only [decide_eq_true_eq, decide_eq_false_iff_not, Bool.or_eq_true, Bool.and_eq_true, Bool.or_eq_false_iff, Bool.and_eq_false_iff, Bool.not_eq_true', Bool.not_eq_false', bne_iff_ne, beq_iff_eq, ne_eq, bne_eq_false_iff_eq, beq_eq_false_iff_ne, ge_iff_le, gt_iff_lt, Int.not_le, Int.not_lt] at h
      omega
    · clear h
      refine go ?_
      refine R_label ?_
      refine go ?_
      refine R_loop (fun i : Nat => ⟨tl [(3, .pt 1 0), (4, .pt 2 0), (7, .pt 3 0), (32, .sl os.length (ints .i64 os)), (33, .sc (.int .i64 os.length)), (34, .sc (.int .i64 i))], ol [(0, ⟨[.sl sz.length (ints .i64 sz), .sc (.int .i64 m), .sl da.length (ints .i64 da)], 24, 0, false⟩), (1, ⟨[.sl os.length (ints .i64 os)], 22, 0, false⟩), (2, ⟨[.em, .sc (.int .i64 0), .em], 24, 0, false⟩), (3, ⟨[.sl sz.length (ints .i64 sz), .sc (.int .i64 m), .sl da.length (ints .i64 da)], 67, 0, false⟩)], 4, [], 88⟩) (fun i => i ≤ os.length) (fun i => os.length - i) 0 [0, 1, 2, 3] (Less.mk' (by simp (disch := (first | omega | (simp only [go_sem, ↓reduceIte, Nat.reduceEqDiff, Nat.reduceAdd, Nat.reduceMul, Nat.reduceSub, Nat.reduceLT, Nat.reduceLeDiff, Nat.reduceBNe, Nat.reduceBEq, Int.reduceToNat, Int.reduceAdd, Int.reduceSub, Int.reduceMul, Int.reduceLT, Int.reduceLE, Int.reduceNeg, Int.reduceBEq, Int.reduceBNe, Int.reduceEq, beq_self_eq_true, reduceCtorEq, decide_true, decide_false, if_pos, if_neg]; first | done | omega))) only [go_sem, ↓reduceIte, Nat.reduceEqDiff, Nat.reduceAdd, Nat.reduceMul, Nat.reduceSub, Nat.reduceLT, Nat.reduceLeDiff, Nat.reduceBNe, Nat.reduceBEq, Int.reduceToNat, Int.reduceAdd, Int.reduceSub, Int.reduceMul, Int.reduceLT, Int.reduceLE, Int.reduceNeg, Int.reduceBEq, Int.reduceBNe, Int.reduceEq, beq_self_eq_true, reduceCtorEq, decide_true, decide_false, if_pos, if_neg]) (by simp (disch := (first | omega | (simp only [go_sem, ↓reduceIte, Nat.reduceEqDiff, Nat.reduceAdd, Nat.reduceMul, Nat.reduceSub, Nat.reduceLT, Nat.reduceLeDiff, Nat.reduceBNe, Nat.reduceBEq, Int.reduceToNat, Int.reduceAdd, Int.reduceSub, Int.reduceMul, Int.reduceLT, Int.reduceLE, Int.reduceNeg, Int.reduceBEq, Int.reduceBNe, Int.reduceEq, beq_self_eq_true, reduceCtorEq, decide_true, decide_false, if_pos, if_neg]; first | done | omega))) only [go_sem, ↓reduceIte, Nat.reduceEqDiff, Nat.reduceAdd, Nat.reduceMul, Nat.reduceSub, Nat.reduceLT, Nat.reduceLeDiff, Nat.reduceBNe, Nat.reduceBEq, Int.reduceToNat, Int.reduceAdd, Int.reduceSub, Int.reduceMul, Int.reduceLT, Int.reduceLE, Int.reduceNeg, Int.reduceBEq, Int.reduceBNe, Int.reduceEq, beq_self_eq_true, reduceCtorEq, decide_true, decide_false, if_pos, if_neg]) (by decide) (by decide)) (by omega) fun i hi => ?_
      refine go ?_
      refine cnd (fun h => ?_) (fun h => ?_)
      · simp only [decide_eq_true_eq, decide_eq_false_iff_not, Bool.or_eq_true, Bool.and_eq_true, Bool.or_eq_false_iff, Bool.and_eq_false_iff, Bool.not_eq_true', Bool.not_eq_false', bne_iff_ne, beq_iff_eq, ne_eq, bne_eq_false_iff_eq, beq_eq_false_iff_ne, ge_iff_le, gt_iff_lt, Int.not_le, Int.not_lt] at h
        have hki := hk i (by omega)
        refine go ?_
        have hlt := h
        refine cnd (fun h => ?_) (fun h => ?_)
        · clear h
          refine go ?_
          refine R_nilR ⟨[0, 1, 2, 3], _, ?_, i + 1, by omega, by omega, rfl⟩; exact Less.mk' (by simp (disch := (first | omega | (simp only [go_sem, ↓reduceIte, Nat.reduceEqDiff, Nat.reduceAdd, Nat.reduceMul, Nat.reduceSub, Nat.reduceLT, Nat.reduceLeDiff, Nat.reduceBNe, Nat.reduceBEq, Int.reduceToNat, Int.reduceAdd, Int.reduceSub, Int.reduceMul, Int.reduceLT, Int.reduceLE, Int.reduceNeg, Int.reduceBEq, Int.reduceBNe, Int.reduceEq, beq_self_eq_true, reduceCtorEq, decide_true, decide_false, if_pos, if_neg]; first | done | omega))) only [go_sem, ↓reduceIte, Nat.reduceEqDiff, Nat.reduceAdd, Nat.reduceMul, Nat.reduceSub, Nat.reduceLT, Nat.reduceLeDiff, Nat.reduceBNe, Nat.reduceBEq, Int.reduceToNat, Int.reduceAdd, Int.reduceSub, Int.reduceMul, Int.reduceLT, Int.reduceLE, Int.reduceNeg, Int.reduceBEq, Int.reduceBNe, Int.reduceEq, beq_self_eq_true, reduceCtorEq, decide_true, decide_false, if_pos, if_neg]) (by simp (disch := (first | omega | (simp only [go_sem, ↓reduceIte, Nat.reduceEqDiff, Nat.reduceAdd, Nat.reduceMul, Nat.reduceSub, Nat.reduceLT, Nat.reduceLeDiff, Nat.reduceBNe, Nat.reduceBEq, Int.reduceToNat, Int.reduceAdd, Int.reduceSub, Int.reduceMul, Int.reduceLT, Int.reduceLE, Int.reduceNeg, Int.reduceBEq, Int.reduceBNe, Int.reduceEq, beq_self_eq_true, reduceCtorEq, decide_true, decide_false, if_pos, if_neg]; first | done | omega))) only [go_sem, ↓reduceIte, Nat.reduceEqDiff, Nat.reduceAdd, Nat.reduceMul, Nat.reduceSub, Nat.reduceLT, Nat.reduceLeDiff, Nat.reduceBNe, Nat.reduceBEq, Int.reduceToNat, Int.reduceAdd, Int.reduceSub, Int.reduceMul, Int.reduceLT, Int.reduceLE, Int.reduceNeg, Int.reduceBEq, Int.reduceBNe, Int.reduceEq, beq_self_eq_true, reduceCtorEq, decide_true, decide_false, if_pos, if_neg]) (by decide) (by decide)
        · simp only [decide_eq_true_eq, decide_eq_false_iff_not, Bool.or_eq_true, Bool.and_eq_true, Bool.or_eq_false_iff, Bool.and_eq_false_iff, Bool.not_eq_true', Bool.not_eq_false', bne_iff_ne, beq_iff_eq, ne_eq, bne_eq_false_iff_eq, beq_eq_false_iff_ne, ge_iff_le, gt_iff_lt, Int.not_le, Int.not_lt] at h
          omega
      · simp only [decide_eq_true_eq, decide_eq_false_iff_not, Bool.or_eq_true, Bool.and_eq_true, Bool.or_eq_false_iff, Bool.and_eq_false_iff, Bool.not_eq_true', Bool.not_eq_false', bne_iff_ne, beq_iff_eq, ne_eq, bne_eq_false_iff_eq, beq_eq_false_iff_ne, ge_iff_le, gt_iff_lt, Int.not_le, Int.not_lt] at h
        clear h
        refine go ?_
        refine call (con45p h4 hs) ?_
        refine go ?_
        refine cnd (fun h => ?_) (fun h => ?_)
        · simp only [decide_eq_true_eq, decide_eq_false_iff_not, Bool.or_eq_true, Bool.and_eq_true, Bool.or_eq_false_iff, Bool.and_eq_false_iff, Bool.not_eq_true', Bool.not_eq_false', bne_iff_ne, beq_iff_eq, ne_eq, bne_eq_false_iff_eq, beq_eq_false_iff_ne, ge_iff_le, gt_iff_lt, Int.not_le, Int.not_lt] at h
          omega
        · clear h
          refine go ?_
          refine callo (con12 sz (by omega) (by omega)) ?_
          refine go ?_
          refine R_less (ids := [3, 1, 2, 5, 4]) (st' := ⟨tl [(3, .pt 1 0), (4, .pt 2 0), (7, .pt 0 0), (10, .pt 3 0), (66, .fn (.func 40) [gr sz m da] [])], ol ([(0, ⟨[.sl sz.length (ints .i64 sz), .sc (.int .i64 m), .sl da.length (ints .i64 da)], 67, 0, false⟩), (1, ⟨[.sl os.length (ints .i64 os)], 22, 0, false⟩), (2, ⟨[.em, .sc (.int .i64 0), .em], 24, 0, false⟩), (3, ⟨[.rf 4 0 sz.length 1, .sc (.int .i64 os.length), shD 5 (pall da m os 0)], 24, 0, false⟩), (4, ⟨ints .i64 sz, 3, 1, false⟩)] ++ shO 5 (pall da m os 0)), 6, [], 88⟩) (Less.mk' (by simp (disch := (first | omega | (simp only [go_sem, ↓reduceIte, Nat.reduceEqDiff, Nat.reduceAdd, Nat.reduceMul, Nat.reduceSub, Nat.reduceLT, Nat.reduceLeDiff, Nat.reduceBNe, Nat.reduceBEq, Int.reduceToNat, Int.reduceAdd, Int.reduceSub, Int.reduceMul, Int.reduceLT, Int.reduceLE, Int.reduceNeg, Int.reduceBEq, Int.reduceBNe, Int.reduceEq, beq_self_eq_true, reduceCtorEq, decide_true, decide_false, if_pos, if_neg]; first | done | omega))) only [go_sem, ↓reduceIte, Nat.reduceEqDiff, Nat.reduceAdd, Nat.reduceMul, Nat.reduceSub, Nat.reduceLT, Nat.reduceLeDiff, Nat.reduceBNe, Nat.reduceBEq, Int.reduceToNat, Int.reduceAdd, Int.reduceSub, Int.reduceMul, Int.reduceLT, Int.reduceLE, Int.reduceNeg, Int.reduceBEq, Int.reduceBNe, Int.reduceEq, beq_self_eq_true, reduceCtorEq, decide_true, decide_false, if_pos, if_neg]) (by simp (disch := (first | omega | (simp only [go_sem, ↓reduceIte, Nat.reduceEqDiff, Nat.reduceAdd, Nat.reduceMul, Nat.reduceSub, Nat.reduceLT, Nat.reduceLeDiff, Nat.reduceBNe, Nat.reduceBEq, Int.reduceToNat, Int.reduceAdd, Int.reduceSub, Int.reduceMul, Int.reduceLT, Int.reduceLE, Int.reduceNeg, Int.reduceBEq, Int.reduceBNe, Int.reduceEq, beq_self_eq_true, reduceCtorEq, decide_true, decide_false, if_pos, if_neg]; first | done | omega))) only [go_sem, ↓reduceIte, Nat.reduceEqDiff, Nat.reduceAdd, Nat.reduceMul, Nat.reduceSub, Nat.reduceLT, Nat.reduceLeDiff, Nat.reduceBNe, Nat.reduceBEq, Int.reduceToNat, Int.reduceAdd, Int.reduceSub, Int.reduceMul, Int.reduceLT, Int.reduceLE, Int.reduceNeg, Int.reduceBEq, Int.reduceBNe, Int.reduceEq, beq_self_eq_true, reduceCtorEq, decide_true, decide_false, if_pos, if_neg, pall, shD, shO]) (by decide) (by decide)) ?_ (by simp)
          have it := con40 sz m da h4 hz1 hs
          refine R_range it [] 5 [(3, .pt 1 0), (4, .pt 2 0), (7, .pt 0 0), (10, .pt 3 0)] (fun i => ol ([(0, ⟨[.sl sz.length (ints .i64 sz), .sc (.int .i64 m), .sl da.length (ints .i64 da)], 67, 0, false⟩), (1, ⟨[.sl os.length (ints .i64 os)], 22, 0, false⟩), (2, ⟨[.em, .sc (.int .i64 0), .em], 24, 0, false⟩), (3, ⟨[.rf 4 0 sz.length 1, .sc (.int .i64 os.length), shD 5 (pall da m os i)], 24, 0, false⟩), (4, ⟨ints .i64 sz, 3, 1, false⟩)] ++ shO 5 (pall da m os i))) (by simp (disch := (first | omega | (simp only [go_sem, ↓reduceIte, Nat.reduceEqDiff, Nat.reduceAdd, Nat.reduceMul, Nat.reduceSub, Nat.reduceLT, Nat.reduceLeDiff, Nat.reduceBNe, Nat.reduceBEq, Int.reduceToNat, Int.reduceAdd, Int.reduceSub, Int.reduceMul, Int.reduceLT, Int.reduceLE, Int.reduceNeg, Int.reduceBEq, Int.reduceBNe, Int.reduceEq, beq_self_eq_true, reduceCtorEq, decide_true, decide_false, if_pos, if_neg]; first | done | omega))) only [go_sem, ↓reduceIte, Nat.reduceEqDiff, Nat.reduceAdd, Nat.reduceMul, Nat.reduceSub, Nat.reduceLT, Nat.reduceLeDiff, Nat.reduceBNe, Nat.reduceBEq, Int.reduceToNat, Int.reduceAdd, Int.reduceSub, Int.reduceMul, Int.reduceLT, Int.reduceLE, Int.reduceNeg, Int.reduceBEq, Int.reduceBNe, Int.reduceEq, beq_self_eq_true, reduceCtorEq, decide_true, decide_false, if_pos, if_neg] <;> rfl) (by simp) (by simp (disch := (first | omega | (simp only [go_sem, ↓reduceIte, Nat.reduceEqDiff, Nat.reduceAdd, Nat.reduceMul, Nat.reduceSub, Nat.reduceLT, Nat.reduceLeDiff, Nat.reduceBNe, Nat.reduceBEq, Int.reduceToNat, Int.reduceAdd, Int.reduceSub, Int.reduceMul, Int.reduceLT, Int.reduceLE, Int.reduceNeg, Int.reduceBEq, Int.reduceBNe, Int.reduceEq, beq_self_eq_true, reduceCtorEq, decide_true, decide_false, if_pos, if_neg]; first | done | omega))) only [go_sem, ↓reduceIte, Nat.reduceEqDiff, Nat.reduceAdd, Nat.reduceMul, Nat.reduceSub, Nat.reduceLT, Nat.reduceLeDiff, Nat.reduceBNe, Nat.reduceBEq, Int.reduceToNat, Int.reduceAdd, Int.reduceSub, Int.reduceMul, Int.reduceLT, Int.reduceLE, Int.reduceNeg, Int.reduceBEq, Int.reduceBNe, Int.reduceEq, beq_self_eq_true, reduceCtorEq, decide_true, decide_false, if_pos, if_neg, gr]) rfl (posL_len sz) (by decide) ⟨rfl, rfl, rfl, rfl, trivial⟩ (Pins.at_ ⟨rfl, rfl, rfl, rfl, trivial⟩) rfl ?_ ?_
          · intro l n d hi
            obtain ⟨hnp, rfl⟩ := posL_get hi
            obtain ⟨c1, c2, c3, _⟩ := seqP_ok h4 hs hnp
            have hw := (place_ok hR c2).1
            rw [c3, Int.toNat_natCast, Int.toNat_natCast] at hw
            have q3 := blk_ok hR.lenN hnp
            have c38 := con38 sz m da (seqP sz n) h4 c1 _ hw o1 (by omega) hd
            rw [Int.toNat_natCast] at c38
            have hnl : n * os.length ≤ points sz * os.length := mul_os (by omega)
            have hpl := pall_length da m os n
            simp only [putAll]
            by_cases hx : (pall da m os n).length = 0
            · simp only [shD, shO, hx, ↓reduceIte, List.cons_append, List.nil_append, List.append_nil]
              have hx' : pall da m os n = [] := List.length_eq_zero_iff.1 hx
              refine go ?_
              refine callf (c38) ?_
              refine go ?_
              refine R_loop (fun i : Nat => ⟨tl [(3, .pt 1 0), (4, .pt 2 0), (7, .pt 0 0), (10, .pt 3 0), (12, .sl m (ints .i64 ((da.drop (n * m)).take m))), (71, .sl os.length (ints .i64 os)), (72, .sc (.int .i64 os.length)), (73, .sc (.int .i64 i))],
                  ol ([(0, ⟨[.sl sz.length (ints .i64 sz), .sc (.int .i64 m), .sl da.length (ints .i64 da)], 67, 0, false⟩), (1, ⟨[.sl os.length (ints .i64 os)], 22, 0, false⟩), (2, ⟨[.em, .sc (.int .i64 0), .em], 24, 0, false⟩), (3, ⟨[.rf 4 0 sz.length 1, .sc (.int .i64 os.length), shD 5 (pdat da m os n i)], 24, 0, false⟩), (4, ⟨ints .i64 sz, 3, 1, false⟩)] ++ shO 5 (pdat da m os n i)), 6, [], 88⟩)
                (fun i => i ≤ os.length) (fun i => os.length - i) 0 [0, 1, 2, 3, 4] ⟨Less.mk' (by simp (disch := (first | omega | (simp only [go_sem, ↓reduceIte, Nat.reduceEqDiff, Nat.reduceAdd, Nat.reduceMul, Nat.reduceSub, Nat.reduceLT, Nat.reduceLeDiff, Nat.reduceBNe, Nat.reduceBEq, Int.reduceToNat, Int.reduceAdd, Int.reduceSub, Int.reduceMul, Int.reduceLT, Int.reduceLE, Int.reduceNeg, Int.reduceBEq, Int.reduceBNe, Int.reduceEq, beq_self_eq_true, reduceCtorEq, decide_true, decide_false, if_pos, if_neg]; first | done | omega))) only [go_sem, ↓reduceIte, Nat.reduceEqDiff, Nat.reduceAdd, Nat.reduceMul, Nat.reduceSub, Nat.reduceLT, Nat.reduceLeDiff, Nat.reduceBNe, Nat.reduceBEq, Int.reduceToNat, Int.reduceAdd, Int.reduceSub, Int.reduceMul, Int.reduceLT, Int.reduceLE, Int.reduceNeg, Int.reduceBEq, Int.reduceBNe, Int.reduceEq, beq_self_eq_true, reduceCtorEq, decide_true, decide_false, if_pos, if_neg, pdat_zero, shD, shO, hx]) (by simp (disch := (first | omega | (simp only [go_sem, ↓reduceIte, Nat.reduceEqDiff, Nat.reduceAdd, Nat.reduceMul, Nat.reduceSub, Nat.reduceLT, Nat.reduceLeDiff, Nat.reduceBNe, Nat.reduceBEq, Int.reduceToNat, Int.reduceAdd, Int.reduceSub, Int.reduceMul, Int.reduceLT, Int.reduceLE, Int.reduceNeg, Int.reduceBEq, Int.reduceBNe, Int.reduceEq, beq_self_eq_true, reduceCtorEq, decide_true, decide_false, if_pos, if_neg]; first | done | omega))) only [go_sem, ↓reduceIte, Nat.reduceEqDiff, Nat.reduceAdd, Nat.reduceMul, Nat.reduceSub, Nat.reduceLT, Nat.reduceLeDiff, Nat.reduceBNe, Nat.reduceBEq, Int.reduceToNat, Int.reduceAdd, Int.reduceSub, Int.reduceMul, Int.reduceLT, Int.reduceLE, Int.reduceNeg, Int.reduceBEq, Int.reduceBNe, Int.reduceEq, beq_self_eq_true, reduceCtorEq, decide_true, decide_false, if_pos, if_neg, pdat_zero, shD, shO, hx]) (by decide) (by decide), (by unfold Pin; decide : Pin 5 [0, 1, 2, 3, 4])⟩ (by omega) fun i hi => ?_
              have hdl := pdat_length da m os n i
              have hbl : ((da.drop (n * m)).take m).length = m := by simp; omega
              by_cases hy : (pdat da m os n i).length = 0
              · simp only [shD, shO, hy, ↓reduceIte, List.cons_append, List.nil_append, List.append_nil]
                have hy' : pdat da m os n i = [] := List.length_eq_zero_iff.1 hy
                refine go ?_
                refine cnd (fun h => ?_) (fun h => ?_)
                · simp only [decide_eq_true_eq, decide_eq_false_iff_not, Bool.or_eq_true, Bool.and_eq_true, Bool.or_eq_false_iff, Bool.and_eq_false_iff, Bool.not_eq_true', Bool.not_eq_false', bne_iff_ne, beq_iff_eq, ne_eq, bne_eq_false_iff_eq, beq_eq_false_iff_ne, ge_iff_le, gt_iff_lt, Int.not_le, Int.not_lt] at h
                  have hki := hk i (by omega)
                  have hv := take_drop_getD da (n * m) m (os.getD i 0).toNat (by omega)
                  have hnm4 : n * m ≤ 6561 * 4 := Nat.mul_le_mul (by omega) (by omega)
                  have ey : (pdat da m os n i).length + 1 ≠ 0 := by omega
                  refine go ?_
                  refine R_nilR ⟨[0, 1, 2, 3, 4, 7], _, ⟨?_, (by unfold Pin; decide : Pin 5 [0, 1, 2, 3, 4, 7])⟩, i + 1, by omega, by omega, rfl⟩
                  exact Less.mk' (by simp (disch := (first | omega | (simp only [go_sem, ↓reduceIte, Nat.reduceEqDiff, Nat.reduceAdd, Nat.reduceMul, Nat.reduceSub, Nat.reduceLT, Nat.reduceLeDiff, Nat.reduceBNe, Nat.reduceBEq, Int.reduceToNat, Int.reduceAdd, Int.reduceSub, Int.reduceMul, Int.reduceLT, Int.reduceLE, Int.reduceNeg, Int.reduceBEq, Int.reduceBNe, Int.reduceEq, beq_self_eq_true, reduceCtorEq, decide_true, decide_false, if_pos, if_neg]; first | done | omega))) only [go_sem, ↓reduceIte, Nat.reduceEqDiff, Nat.reduceAdd, Nat.reduceMul, Nat.reduceSub, Nat.reduceLT, Nat.reduceLeDiff, Nat.reduceBNe, Nat.reduceBEq, Int.reduceToNat, Int.reduceAdd, Int.reduceSub, Int.reduceMul, Int.reduceLT, Int.reduceLE, Int.reduceNeg, Int.reduceBEq, Int.reduceBNe, Int.reduceEq, beq_self_eq_true, reduceCtorEq, decide_true, decide_false, if_pos, if_neg, pdat_succ, shD, shO, ey, hy', hv, ints_cons]) (by simp (disch := (first | omega | (simp only [go_sem, ↓reduceIte, Nat.reduceEqDiff, Nat.reduceAdd, Nat.reduceMul, Nat.reduceSub, Nat.reduceLT, Nat.reduceLeDiff, Nat.reduceBNe, Nat.reduceBEq, Int.reduceToNat, Int.reduceAdd, Int.reduceSub, Int.reduceMul, Int.reduceLT, Int.reduceLE, Int.reduceNeg, Int.reduceBEq, Int.reduceBNe, Int.reduceEq, beq_self_eq_true, reduceCtorEq, decide_true, decide_false, if_pos, if_neg]; first | done | omega))) only [go_sem, ↓reduceIte, Nat.reduceEqDiff, Nat.reduceAdd, Nat.reduceMul, Nat.reduceSub, Nat.reduceLT, Nat.reduceLeDiff, Nat.reduceBNe, Nat.reduceBEq, Int.reduceToNat, Int.reduceAdd, Int.reduceSub, Int.reduceMul, Int.reduceLT, Int.reduceLE, Int.reduceNeg, Int.reduceBEq, Int.reduceBNe, Int.reduceEq, beq_self_eq_true, reduceCtorEq, decide_true, decide_false, if_pos, if_neg, pdat_succ, shD, shO, ey, hy', hv, ints_cons]) (by decide) (by decide)
                · simp only [decide_eq_true_eq, decide_eq_false_iff_not, Bool.or_eq_true, Bool.and_eq_true, Bool.or_eq_false_iff, Bool.and_eq_false_iff, Bool.not_eq_true', Bool.not_eq_false', bne_iff_ne, beq_iff_eq, ne_eq, bne_eq_false_iff_eq, beq_eq_false_iff_ne, ge_iff_le, gt_iff_lt, Int.not_le, Int.not_lt] at h
                  exfalso; omega
              · simp only [shD, shO, hy, ↓reduceIte, List.cons_append, List.nil_append, List.append_nil]
                have hy' : (pdat da m os n i).length ≠ 0 := hy
                refine go ?_
                refine cnd (fun h => ?_) (fun h => ?_)
                · simp only [decide_eq_true_eq, decide_eq_false_iff_not, Bool.or_eq_true, Bool.and_eq_true, Bool.or_eq_false_iff, Bool.and_eq_false_iff, Bool.not_eq_true', Bool.not_eq_false', bne_iff_ne, beq_iff_eq, ne_eq, bne_eq_false_iff_eq, beq_eq_false_iff_ne, ge_iff_le, gt_iff_lt, Int.not_le, Int.not_lt] at h
                  have hki := hk i (by omega)
                  have hv := take_drop_getD da (n * m) m (os.getD i 0).toNat (by omega)
                  have hnm4 : n * m ≤ 6561 * 4 := Nat.mul_le_mul (by omega) (by omega)
                  have ey : (pdat da m os n i).length + 1 ≠ 0 := by omega
                  refine go ?_
                  refine R_nilR ⟨[0, 1, 2, 3, 4, 7], _, ⟨?_, (by unfold Pin; decide : Pin 5 [0, 1, 2, 3, 4, 7])⟩, i + 1, by omega, by omega, rfl⟩
                  exact Less.mk' (by simp (disch := (first | omega | (simp only [go_sem, ↓reduceIte, Nat.reduceEqDiff, Nat.reduceAdd, Nat.reduceMul, Nat.reduceSub, Nat.reduceLT, Nat.reduceLeDiff, Nat.reduceBNe, Nat.reduceBEq, Int.reduceToNat, Int.reduceAdd, Int.reduceSub, Int.reduceMul, Int.reduceLT, Int.reduceLE, Int.reduceNeg, Int.reduceBEq, Int.reduceBNe, Int.reduceEq, beq_self_eq_true, reduceCtorEq, decide_true, decide_false, if_pos, if_neg]; first | done | omega))) only [go_sem, ↓reduceIte, Nat.reduceEqDiff, Nat.reduceAdd, Nat.reduceMul, Nat.reduceSub, Nat.reduceLT, Nat.reduceLeDiff, Nat.reduceBNe, Nat.reduceBEq, Int.reduceToNat, Int.reduceAdd, Int.reduceSub, Int.reduceMul, Int.reduceLT, Int.reduceLE, Int.reduceNeg, Int.reduceBEq, Int.reduceBNe, Int.reduceEq, beq_self_eq_true, reduceCtorEq, decide_true, decide_false, if_pos, if_neg, pdat_succ, shD, shO, ey, hy', hv, ints_cons]) (by simp (disch := (first | omega | (simp only [go_sem, ↓reduceIte, Nat.reduceEqDiff, Nat.reduceAdd, Nat.reduceMul, Nat.reduceSub, Nat.reduceLT, Nat.reduceLeDiff, Nat.reduceBNe, Nat.reduceBEq, Int.reduceToNat, Int.reduceAdd, Int.reduceSub, Int.reduceMul, Int.reduceLT, Int.reduceLE, Int.reduceNeg, Int.reduceBEq, Int.reduceBNe, Int.reduceEq, beq_self_eq_true, reduceCtorEq, decide_true, decide_false, if_pos, if_neg]; first | done | omega))) only [go_sem, ↓reduceIte, Nat.reduceEqDiff, Nat.reduceAdd, Nat.reduceMul, Nat.reduceSub, Nat.reduceLT, Nat.reduceLeDiff, Nat.reduceBNe, Nat.reduceBEq, Int.reduceToNat, Int.reduceAdd, Int.reduceSub, Int.reduceMul, Int.reduceLT, Int.reduceLE, Int.reduceNeg, Int.reduceBEq, Int.reduceBNe, Int.reduceEq, beq_self_eq_true, reduceCtorEq, decide_true, decide_false, if_pos, if_neg, pdat_succ, shD, shO, ey, hy', hv, ints_cons]) (by decide) (by decide)
                · simp only [decide_eq_true_eq, decide_eq_false_iff_not, Bool.or_eq_true, Bool.and_eq_true, Bool.or_eq_false_iff, Bool.and_eq_false_iff, Bool.not_eq_true', Bool.not_eq_false', bne_iff_ne, beq_iff_eq, ne_eq, bne_eq_false_iff_eq, beq_eq_false_iff_ne, ge_iff_le, gt_iff_lt, Int.not_le, Int.not_lt] at h
                  obtain rfl : i = os.length := by omega
                  refine go ?_
                  refine R_nilG [0, 1, 2, 3, 4, 5] ?_ (by decide) ?_ ?_; (simp (disch := (first | omega | (simp only [go_sem, ↓reduceIte, Nat.reduceEqDiff, Nat.reduceAdd, Nat.reduceMul, Nat.reduceSub, Nat.reduceLT, Nat.reduceLeDiff, Nat.reduceBNe, Nat.reduceBEq, Int.reduceToNat, Int.reduceAdd, Int.reduceSub, Int.reduceMul, Int.reduceLT, Int.reduceLE, Int.reduceNeg, Int.reduceBEq, Int.reduceBNe, Int.reduceEq, beq_self_eq_true, reduceCtorEq, decide_true, decide_false, if_pos, if_neg]; first | done | omega))) only [go_sem, ↓reduceIte, Nat.reduceEqDiff, Nat.reduceAdd, Nat.reduceMul, Nat.reduceSub, Nat.reduceLT, Nat.reduceLeDiff, Nat.reduceBNe, Nat.reduceBEq, Int.reduceToNat, Int.reduceAdd, Int.reduceSub, Int.reduceMul, Int.reduceLT, Int.reduceLE, Int.reduceNeg, Int.reduceBEq, Int.reduceBNe, Int.reduceEq, beq_self_eq_true, reduceCtorEq, decide_true, decide_false, if_pos, if_neg, ← pdat_all, shD, shO, hy]); (exact Nat.le_of_ble_eq_true rfl); (unfold Pin; decide)
            · simp only [shD, shO, hx, ↓reduceIte, List.cons_append, List.nil_append, List.append_nil]
              have hx' : (pall da m os n).length ≠ 0 := hx
              refine go ?_
              refine callf (c38) ?_
              refine go ?_
              refine R_loop (fun i : Nat => ⟨tl [(3, .pt 1 0), (4, .pt 2 0), (7, .pt 0 0), (10, .pt 3 0), (12, .sl m (ints .i64 ((da.drop (n * m)).take m))), (71, .sl os.length (ints .i64 os)), (72, .sc (.int .i64 os.length)), (73, .sc (.int .i64 i))],
                  ol ([(0, ⟨[.sl sz.length (ints .i64 sz), .sc (.int .i64 m), .sl da.length (ints .i64 da)], 67, 0, false⟩), (1, ⟨[.sl os.length (ints .i64 os)], 22, 0, false⟩), (2, ⟨[.em, .sc (.int .i64 0), .em], 24, 0, false⟩), (3, ⟨[.rf 4 0 sz.length 1, .sc (.int .i64 os.length), shD 5 (pdat da m os n i)], 24, 0, false⟩), (4, ⟨ints .i64 sz, 3, 1, false⟩)] ++ shO 5 (pdat da m os n i)), 6, [], 88⟩)
                (fun i => i ≤ os.length) (fun i => os.length - i) 0 [0, 1, 2, 3, 4, 5] ⟨Less.mk' (by simp (disch := (first | omega | (simp only [go_sem, ↓reduceIte, Nat.reduceEqDiff, Nat.reduceAdd, Nat.reduceMul, Nat.reduceSub, Nat.reduceLT, Nat.reduceLeDiff, Nat.reduceBNe, Nat.reduceBEq, Int.reduceToNat, Int.reduceAdd, Int.reduceSub, Int.reduceMul, Int.reduceLT, Int.reduceLE, Int.reduceNeg, Int.reduceBEq, Int.reduceBNe, Int.reduceEq, beq_self_eq_true, reduceCtorEq, decide_true, decide_false, if_pos, if_neg]; first | done | omega))) only [go_sem, ↓reduceIte, Nat.reduceEqDiff, Nat.reduceAdd, Nat.reduceMul, Nat.reduceSub, Nat.reduceLT, Nat.reduceLeDiff, Nat.reduceBNe, Nat.reduceBEq, Int.reduceToNat, Int.reduceAdd, Int.reduceSub, Int.reduceMul, Int.reduceLT, Int.reduceLE, Int.reduceNeg, Int.reduceBEq, Int.reduceBNe, Int.reduceEq, beq_self_eq_true, reduceCtorEq, decide_true, decide_false, if_pos, if_neg, pdat_zero, shD, shO, hx]) (by simp (disch := (first | omega | (simp only [go_sem, ↓reduceIte, Nat.reduceEqDiff, Nat.reduceAdd, Nat.reduceMul, Nat.reduceSub, Nat.reduceLT, Nat.reduceLeDiff, Nat.reduceBNe, Nat.reduceBEq, Int.reduceToNat, Int.reduceAdd, Int.reduceSub, Int.reduceMul, Int.reduceLT, Int.reduceLE, Int.reduceNeg, Int.reduceBEq, Int.reduceBNe, Int.reduceEq, beq_self_eq_true, reduceCtorEq, decide_true, decide_false, if_pos, if_neg]; first | done | omega))) only [go_sem, ↓reduceIte, Nat.reduceEqDiff, Nat.reduceAdd, Nat.reduceMul, Nat.reduceSub, Nat.reduceLT, Nat.reduceLeDiff, Nat.reduceBNe, Nat.reduceBEq, Int.reduceToNat, Int.reduceAdd, Int.reduceSub, Int.reduceMul, Int.reduceLT, Int.reduceLE, Int.reduceNeg, Int.reduceBEq, Int.reduceBNe, Int.reduceEq, beq_self_eq_true, reduceCtorEq, decide_true, decide_false, if_pos, if_neg, pdat_zero, shD, shO, hx]) (by decide) (by decide), (by unfold Pin; decide : Pin 5 [0, 1, 2, 3, 4, 5])⟩ (by omega) fun i hi => ?_
              have hdl := pdat_length da m os n i
              have hbl : ((da.drop (n * m)).take m).length = m := by simp; omega
              by_cases hy : (pdat da m os n i).length = 0
              · exfalso; omega
              · simp only [shD, shO, hy, ↓reduceIte, List.cons_append, List.nil_append, List.append_nil]
                have hy' : (pdat da m os n i).length ≠ 0 := hy
                refine go ?_
                refine cnd (fun h => ?_) (fun h => ?_)
                · simp only [decide_eq_true_eq, decide_eq_false_iff_not, Bool.or_eq_true, Bool.and_eq_true, Bool.or_eq_false_iff, Bool.and_eq_false_iff, Bool.not_eq_true', Bool.not_eq_false', bne_iff_ne, beq_iff_eq, ne_eq, bne_eq_false_iff_eq, beq_eq_false_iff_ne, ge_iff_le, gt_iff_lt, Int.not_le, Int.not_lt] at h
                  have hki := hk i (by omega)
                  have hv := take_drop_getD da (n * m) m (os.getD i 0).toNat (by omega)
                  have hnm4 : n * m ≤ 6561 * 4 := Nat.mul_le_mul (by omega) (by omega)
                  have ey : (pdat da m os n i).length + 1 ≠ 0 := by omega
                  refine go ?_
                  refine R_nilR ⟨[0, 1, 2, 3, 4, 7], _, ⟨?_, (by unfold Pin; decide : Pin 5 [0, 1, 2, 3, 4, 7])⟩, i + 1, by omega, by omega, rfl⟩
                  exact Less.mk' (by simp (disch := (first | omega | (simp only [go_sem, ↓reduceIte, Nat.reduceEqDiff, Nat.reduceAdd, Nat.reduceMul, Nat.reduceSub, Nat.reduceLT, Nat.reduceLeDiff, Nat.reduceBNe, Nat.reduceBEq, Int.reduceToNat, Int.reduceAdd, Int.reduceSub, Int.reduceMul, Int.reduceLT, Int.reduceLE, Int.reduceNeg, Int.reduceBEq, Int.reduceBNe, Int.reduceEq, beq_self_eq_true, reduceCtorEq, decide_true, decide_false, if_pos, if_neg]; first | done | omega))) only [go_sem, ↓reduceIte, Nat.reduceEqDiff, Nat.reduceAdd, Nat.reduceMul, Nat.reduceSub, Nat.reduceLT, Nat.reduceLeDiff, Nat.reduceBNe, Nat.reduceBEq, Int.reduceToNat, Int.reduceAdd, Int.reduceSub, Int.reduceMul, Int.reduceLT, Int.reduceLE, Int.reduceNeg, Int.reduceBEq, Int.reduceBNe, Int.reduceEq, beq_self_eq_true, reduceCtorEq, decide_true, decide_false, if_pos, if_neg, pdat_succ, shD, shO, ey, hy', hv, ints_cons]) (by simp (disch := (first | omega | (simp only [go_sem, ↓reduceIte, Nat.reduceEqDiff, Nat.reduceAdd, Nat.reduceMul, Nat.reduceSub, Nat.reduceLT, Nat.reduceLeDiff, Nat.reduceBNe, Nat.reduceBEq, Int.reduceToNat, Int.reduceAdd, Int.reduceSub, Int.reduceMul, Int.reduceLT, Int.reduceLE, Int.reduceNeg, Int.reduceBEq, Int.reduceBNe, Int.reduceEq, beq_self_eq_true, reduceCtorEq, decide_true, decide_false, if_pos, if_neg]; first | done | omega))) only [go_sem, ↓reduceIte, Nat.reduceEqDiff, Nat.reduceAdd, Nat.reduceMul, Nat.reduceSub, Nat.reduceLT, Nat.reduceLeDiff, Nat.reduceBNe, Nat.reduceBEq, Int.reduceToNat, Int.reduceAdd, Int.reduceSub, Int.reduceMul, Int.reduceLT, Int.reduceLE, Int.reduceNeg, Int.reduceBEq, Int.reduceBNe, Int.reduceEq, beq_self_eq_true, reduceCtorEq, decide_true, decide_false, if_pos, if_neg, pdat_succ, shD, shO, ey, hy', hv, ints_cons]) (by decide) (by decide)
                · simp only [decide_eq_true_eq, decide_eq_false_iff_not, Bool.or_eq_true, Bool.and_eq_true, Bool.or_eq_false_iff, Bool.and_eq_false_iff, Bool.not_eq_true', Bool.not_eq_false', bne_iff_ne, beq_iff_eq, ne_eq, bne_eq_false_iff_eq, beq_eq_false_iff_ne, ge_iff_le, gt_iff_lt, Int.not_le, Int.not_lt] at h
                  obtain rfl : i = os.length := by omega
                  refine go ?_
                  refine R_nilG [0, 1, 2, 3, 4, 5] ?_ (by decide) ?_ ?_; (simp (disch := (first | omega | (simp only [go_sem, ↓reduceIte, Nat.reduceEqDiff, Nat.reduceAdd, Nat.reduceMul, Nat.reduceSub, Nat.reduceLT, Nat.reduceLeDiff, Nat.reduceBNe, Nat.reduceBEq, Int.reduceToNat, Int.reduceAdd, Int.reduceSub, Int.reduceMul, Int.reduceLT, Int.reduceLE, Int.reduceNeg, Int.reduceBEq, Int.reduceBNe, Int.reduceEq, beq_self_eq_true, reduceCtorEq, decide_true, decide_false, if_pos, if_neg]; first | done | omega))) only [go_sem, ↓reduceIte, Nat.reduceEqDiff, Nat.reduceAdd, Nat.reduceMul, Nat.reduceSub, Nat.reduceLT, Nat.reduceLeDiff, Nat.reduceBNe, Nat.reduceBEq, Int.reduceToNat, Int.reduceAdd, Int.reduceSub, Int.reduceMul, Int.reduceLT, Int.reduceLE, Int.reduceNeg, Int.reduceBEq, Int.reduceBNe, Int.reduceEq, beq_self_eq_true, reduceCtorEq, decide_true, decide_false, if_pos, if_neg, ← pdat_all, shD, shO, hy]); (exact Nat.le_of_ble_eq_true rfl); (unfold Pin; decide)
          · intro dm
            have hpl : (posL sz).length = points sz := by simp only [posL, List.length_map, List.length_range]
            have hpl2 : (pall da m os (points sz)).length ≠ 0 := by
              rw [pall_length]
              have := Nat.mul_le_mul hp.1 ho.1
              omega
            simp only [hpl, shD, shO, hpl2, ↓reduceIte, List.cons_append, List.nil_append, List.append_nil]
            refine go ?_
            refine R_ret (fin_data (by simp (disch := (first | omega | (simp only [go_sem, ↓reduceIte, Nat.reduceEqDiff, Nat.reduceAdd, Nat.reduceMul, Nat.reduceSub, Nat.reduceLT, Nat.reduceLeDiff, Nat.reduceBNe, Nat.reduceBEq, Int.reduceToNat, Int.reduceAdd, Int.reduceSub, Int.reduceMul, Int.reduceLT, Int.reduceLE, Int.reduceNeg, Int.reduceBEq, Int.reduceBNe, Int.reduceEq, beq_self_eq_true, reduceCtorEq, decide_true, decide_false, if_pos, if_neg]; first | done | omega))) only [go_sem, ↓reduceIte, Nat.reduceEqDiff, Nat.reduceAdd, Nat.reduceMul, Nat.reduceSub, Nat.reduceLT, Nat.reduceLeDiff, Nat.reduceBNe, Nat.reduceBEq, Int.reduceToNat, Int.reduceAdd, Int.reduceSub, Int.reduceMul, Int.reduceLT, Int.reduceLE, Int.reduceNeg, Int.reduceBEq, Int.reduceBNe, Int.reduceEq, beq_self_eq_true, reduceCtorEq, decide_true, decide_false, if_pos, if_neg, gr] <;> rfl) (by simp (disch := (first | omega | (simp only [go_sem, ↓reduceIte, Nat.reduceEqDiff, Nat.reduceAdd, Nat.reduceMul, Nat.reduceSub, Nat.reduceLT, Nat.reduceLeDiff, Nat.reduceBNe, Nat.reduceBEq, Int.reduceToNat, Int.reduceAdd, Int.reduceSub, Int.reduceMul, Int.reduceLT, Int.reduceLE, Int.reduceNeg, Int.reduceBEq, Int.reduceBNe, Int.reduceEq, beq_self_eq_true, reduceCtorEq, decide_true, decide_false, if_pos, if_neg]; first | done | omega))) only [go_sem, ↓reduceIte, Nat.reduceEqDiff, Nat.reduceAdd, Nat.reduceMul, Nat.reduceSub, Nat.reduceLT, Nat.reduceLeDiff, Nat.reduceBNe, Nat.reduceBEq, Int.reduceToNat, Int.reduceAdd, Int.reduceSub, Int.reduceMul, Int.reduceLT, Int.reduceLE, Int.reduceNeg, Int.reduceBEq, Int.reduceBNe, Int.reduceEq, beq_self_eq_true, reduceCtorEq, decide_true, decide_false, if_pos, if_neg, gr]))
end Go.Proofs.Ytndigibhmfegaaa.V

/-
  The grid's range.
-/
set_option linter.unusedSimpArgs false
set_option linter.unusedVariables false
set_option maxHeartbeats 4000000
namespace Go.Proofs.Ytndigibhmfegaaa.V
open Go Go.Proofs Go.RowKit

abbrev fmin (x y : Int) : Int := if y < x then y else x
abbrev fmax (x y : Int) : Int := if y > x then y else x
def lowG (f : Int → Int → Int) (da : List Int) (m : Nat) : Nat → List Int
  | 0 => da.take m
  | n + 1 => cmb f (lowG f da m n) (blk da m n) m
theorem lowG_length (f : Int → Int → Int) {da : List Int} {m : Nat} (h : m ≤ da.length) : ∀ n, (lowG f da m n).length = m
  | 0 => by simp [lowG]; omega
  | n + 1 => by simp [lowG, cmb_length, lowG_length f h n]
theorem cmb_get (f : Int → Int → Int) (xs ys : List Int) : ∀ j, j ≤ xs.length → ∀ i, (cmb f xs ys j).getD i 0 = if i < j then f (xs.getD i 0) (ys.getD i 0) else xs.getD i 0
  | 0, _, i => by simp [cmb]
  | j + 1, h, i => by
    simp only [cmb]
    rw [getD_set _ _ _ _ (by rw [cmb_length]; omega), cmb_get f xs ys j (by omega) i]
    by_cases e : j = i
    · subst e; simp
    · rw [if_neg e]
      by_cases h2 : i < j
      · rw [if_pos h2, if_pos (by omega)]
      · rw [if_neg h2, if_neg (by omega)]
theorem blk_get {da : List Int} {m n j : Nat} (h : j < m) : (blk da m n).getD j 0 = da.getD (n * m + j) 0 := take_drop_getD da (n * m) m j h
theorem low_eq {da : List Int} {m : Nat} (h : m ≤ da.length) : ∀ n j, j ≤ m → lowR da m (n * m + j) = cmb fmin (lowG fmin da m n) (blk da m n) j ∧ highR da m (n * m + j) = cmb fmax (lowG fmax da m n) (blk da m n) j := by
  have step : ∀ n j, j < m → (lowR da m (n * m + j) = cmb fmin (lowG fmin da m n) (blk da m n) j ∧ highR da m (n * m + j) = cmb fmax (lowG fmax da m n) (blk da m n) j) →
      lowR da m (n * m + (j + 1)) = cmb fmin (lowG fmin da m n) (blk da m n) (j + 1) ∧ highR da m (n * m + (j + 1)) = cmb fmax (lowG fmax da m n) (blk da m n) (j + 1) := by
    intro n j hj ⟨ih1, ih2⟩
    have hm : (n * m + j) % m = j := by rw [Nat.mul_comm, Nat.mul_add_mod, Nat.mod_eq_of_lt hj]
    rw [show n * m + (j + 1) = (n * m + j) + 1 by omega]
    simp only [lowR, highR, cmb, hm, ih1, ih2]
    rw [cmb_get _ _ _ _ (by rw [lowG_length _ h]; omega), cmb_get _ _ _ _ (by rw [lowG_length _ h]; omega), blk_get hj]
    simp only [Nat.lt_irrefl, if_false, and_self]
  intro n
  induction n with
  | zero =>
    intro j
    induction j with
    | zero => intro _; simp [lowR, highR, cmb, lowG]
    | succ j ih => intro hj; exact step 0 j (by omega) (ih (by omega))
  | succ n ihn =>
    intro j
    induction j with
    | zero =>
      intro _
      obtain ⟨e1, e2⟩ := ihn m (Nat.le_refl _)
      rw [Nat.add_zero, Nat.add_mul, Nat.one_mul, e1, e2]
      exact ⟨rfl, rfl⟩
    | succ j ih => intro hj; exact step (n + 1) j (by omega) (ih (by omega))
theorem low_all {da : List Int} {m p : Nat} (h : m ≤ da.length) (hp : da.length = p * m) : lowR da m da.length = lowG fmin da m p ∧ highR da m da.length = lowG fmax da m p := by
  obtain ⟨e1, e2⟩ := low_eq h p 0 (by omega)
  rw [hp]
  exact ⟨e1, e2⟩

theorem con27 (sz : List Int) (m : Nat) (da : List Int) (h1 : Right sz m da) : Con Try.prog 27 [gr sz m da] (.tp [.sl m (ints .i64 (lowR da m da.length)), .sl m (ints .i64 (highR da m da.length)), .sc (.int .i64 0)]) [] := by
  have hR := h1
  have hlN := h1.lenN
  obtain ⟨hz1, h4, o1, o4, hs, _, hd, _⟩ := h1
  have hp := points_le h4 hs
  have hmd : m ≤ da.length := by
    rw [hlN]
    have := Nat.mul_le_mul_right m hp.1
    omega
  obtain ⟨e1, e2⟩ := low_all hmd hlN
  rw [e1, e2]
  have c12 := con12 (da.take m) (by rw [List.length_take]; omega) (by rw [List.length_take]; omega)
  have htl : (da.take m).length = m := by simp; omega
  rw [htl] at c12
  refine Con.of_bodyD [(0, gr sz m da)] Try.func27 rfl ca27 49 rfl (by simp) rfl ?_; refine T_of_R ?_
  refine go ?_
  refine call (con25t hR) ?_
  refine go ?_
  refine cnd (fun h => ?_) (fun h => ?_)
  · cases h
  · refine go ?_
    refine callo (c12) ?_
    refine go ?_
    refine callo (c12) ?_
    refine go ?_
    refine R_less (ids := [1, 2, 3, 6, 4, 5]) (st' := ⟨tl [(2, .pt 0 0), (3, .pt 1 0), (6, .pt 2 0), (7, .pt 3 0), (35, .fn (.func 40) [gr sz m da] [])], ol [(0, ⟨[.rf 4 0 m 1], 22, 0, false⟩), (1, ⟨[.rf 5 0 m 1], 22, 0, false⟩), (2, ⟨[.sl sz.length (ints .i64 sz), .sc (.int .i64 m), .sl da.length (ints .i64 da)], 67, 0, false⟩), (3, ⟨[.fn (.func 38) [gr sz m da] []], 76, 0, false⟩), (4, ⟨ints .i64 (lowG fmin da m 0), 3, 1, false⟩), (5, ⟨ints .i64 (lowG fmax da m 0), 3, 1, false⟩)], 6, [], 49⟩) (Less.mk' (by simp (disch := (first | omega | (simp only [go_sem, ↓reduceIte, Nat.reduceEqDiff, Nat.reduceAdd, Nat.reduceMul, Nat.reduceSub, Nat.reduceLT, Nat.reduceLeDiff, Nat.reduceBNe, Nat.reduceBEq, Int.reduceToNat, Int.reduceAdd, Int.reduceSub, Int.reduceMul, Int.reduceLT, Int.reduceLE, Int.reduceNeg, Int.reduceBEq, Int.reduceBNe, Int.reduceEq, beq_self_eq_true, reduceCtorEq, decide_true, decide_false, if_pos, if_neg]; first | done | omega))) only [go_sem, ↓reduceIte, Nat.reduceEqDiff, Nat.reduceAdd, Nat.reduceMul, Nat.reduceSub, Nat.reduceLT, Nat.reduceLeDiff, Nat.reduceBNe, Nat.reduceBEq, Int.reduceToNat, Int.reduceAdd, Int.reduceSub, Int.reduceMul, Int.reduceLT, Int.reduceLE, Int.reduceNeg, Int.reduceBEq, Int.reduceBNe, Int.reduceEq, beq_self_eq_true, reduceCtorEq, decide_true, decide_false, if_pos, if_neg, gr]) (by simp (disch := (first | omega | (simp only [go_sem, ↓reduceIte, Nat.reduceEqDiff, Nat.reduceAdd, Nat.reduceMul, Nat.reduceSub, Nat.reduceLT, Nat.reduceLeDiff, Nat.reduceBNe, Nat.reduceBEq, Int.reduceToNat, Int.reduceAdd, Int.reduceSub, Int.reduceMul, Int.reduceLT, Int.reduceLE, Int.reduceNeg, Int.reduceBEq, Int.reduceBNe, Int.reduceEq, beq_self_eq_true, reduceCtorEq, decide_true, decide_false, if_pos, if_neg]; first | done | omega))) only [go_sem, ↓reduceIte, Nat.reduceEqDiff, Nat.reduceAdd, Nat.reduceMul, Nat.reduceSub, Nat.reduceLT, Nat.reduceLeDiff, Nat.reduceBNe, Nat.reduceBEq, Int.reduceToNat, Int.reduceAdd, Int.reduceSub, Int.reduceMul, Int.reduceLT, Int.reduceLE, Int.reduceNeg, Int.reduceBEq, Int.reduceBNe, Int.reduceEq, beq_self_eq_true, reduceCtorEq, decide_true, decide_false, if_pos, if_neg, lowG, gr]) (by decide) (by decide)) ?_ (by simp)
    have it := con40 sz m da h4 hz1 hs
    refine R_range it [] 4 [(2, .pt 0 0), (3, .pt 1 0), (6, .pt 2 0), (7, .pt 3 0)] (fun n => ol [(0, ⟨[.rf 4 0 m 1], 22, 0, false⟩), (1, ⟨[.rf 5 0 m 1], 22, 0, false⟩), (2, ⟨[.sl sz.length (ints .i64 sz), .sc (.int .i64 m), .sl da.length (ints .i64 da)], 67, 0, false⟩), (3, ⟨[.fn (.func 38) [gr sz m da] []], 76, 0, false⟩), (4, ⟨ints .i64 (lowG fmin da m n), 3, 1, false⟩), (5, ⟨ints .i64 (lowG fmax da m n), 3, 1, false⟩)]) (by simp (disch := (first | omega | (simp only [go_sem, ↓reduceIte, Nat.reduceEqDiff, Nat.reduceAdd, Nat.reduceMul, Nat.reduceSub, Nat.reduceLT, Nat.reduceLeDiff, Nat.reduceBNe, Nat.reduceBEq, Int.reduceToNat, Int.reduceAdd, Int.reduceSub, Int.reduceMul, Int.reduceLT, Int.reduceLE, Int.reduceNeg, Int.reduceBEq, Int.reduceBNe, Int.reduceEq, beq_self_eq_true, reduceCtorEq, decide_true, decide_false, if_pos, if_neg]; first | done | omega))) only [go_sem, ↓reduceIte, Nat.reduceEqDiff, Nat.reduceAdd, Nat.reduceMul, Nat.reduceSub, Nat.reduceLT, Nat.reduceLeDiff, Nat.reduceBNe, Nat.reduceBEq, Int.reduceToNat, Int.reduceAdd, Int.reduceSub, Int.reduceMul, Int.reduceLT, Int.reduceLE, Int.reduceNeg, Int.reduceBEq, Int.reduceBNe, Int.reduceEq, beq_self_eq_true, reduceCtorEq, decide_true, decide_false, if_pos, if_neg] <;> rfl) (by simp) (by simp (disch := (first | omega | (simp only [go_sem, ↓reduceIte, Nat.reduceEqDiff, Nat.reduceAdd, Nat.reduceMul, Nat.reduceSub, Nat.reduceLT, Nat.reduceLeDiff, Nat.reduceBNe, Nat.reduceBEq, Int.reduceToNat, Int.reduceAdd, Int.reduceSub, Int.reduceMul, Int.reduceLT, Int.reduceLE, Int.reduceNeg, Int.reduceBEq, Int.reduceBNe, Int.reduceEq, beq_self_eq_true, reduceCtorEq, decide_true, decide_false, if_pos, if_neg]; first | done | omega))) only [go_sem, ↓reduceIte, Nat.reduceEqDiff, Nat.reduceAdd, Nat.reduceMul, Nat.reduceSub, Nat.reduceLT, Nat.reduceLeDiff, Nat.reduceBNe, Nat.reduceBEq, Int.reduceToNat, Int.reduceAdd, Int.reduceSub, Int.reduceMul, Int.reduceLT, Int.reduceLE, Int.reduceNeg, Int.reduceBEq, Int.reduceBNe, Int.reduceEq, beq_self_eq_true, reduceCtorEq, decide_true, decide_false, if_pos, if_neg, gr]) rfl (posL_len sz) (by decide) ⟨rfl, rfl, rfl, rfl, trivial⟩ (Pins.at_ ⟨rfl, rfl, rfl, rfl, trivial⟩) rfl ?_ ?_
    · intro l n d hi
      obtain ⟨hnp, rfl⟩ := posL_get hi
      obtain ⟨c1, c2, c3, _⟩ := seqP_ok h4 hs hnp
      have hw := (place_ok hR c2).1
      rw [c3, Int.toNat_natCast, Int.toNat_natCast] at hw
      have q3 := blk_ok hR.lenN hnp
      have c38 := con38 sz m da (seqP sz n) h4 c1 _ hw o1 (by omega) hd
      rw [Int.toNat_natCast] at c38
      have hbl := blk_length q3
      have c50 := con50 fmin 51 con51 (lowG fmin da m n) (blk da m n) (by rw [lowG_length _ hmd]; omega) (by rw [lowG_length _ hmd]; omega) (by rw [lowG_length _ hmd, hbl])
      have c50' := con50 fmax 52 con52 (lowG fmax da m n) (blk da m n) (by rw [lowG_length _ hmd]; omega) (by rw [lowG_length _ hmd]; omega) (by rw [lowG_length _ hmd, hbl])
      rw [lowG_length _ hmd, hbl] at c50 c50'
      have hll := lowG_length fmin hmd n
      have hlh := lowG_length fmax hmd n
      simp only [putAll]
      refine go ?_
      refine callf (c38) ?_
      refine go ?_
      refine callo (c50) ?_
      refine go ?_
      refine callf (c38) ?_
      refine go ?_
      refine callo (c50') ?_
      refine go ?_
      refine R_nilG [0, 1, 2, 3, 7, 8] ?_ (by decide) ?_ ?_; (simp (disch := (first | omega | (simp only [go_sem, ↓reduceIte, Nat.reduceEqDiff, Nat.reduceAdd, Nat.reduceMul, Nat.reduceSub, Nat.reduceLT, Nat.reduceLeDiff, Nat.reduceBNe, Nat.reduceBEq, Int.reduceToNat, Int.reduceAdd, Int.reduceSub, Int.reduceMul, Int.reduceLT, Int.reduceLE, Int.reduceNeg, Int.reduceBEq, Int.reduceBNe, Int.reduceEq, beq_self_eq_true, reduceCtorEq, decide_true, decide_false, if_pos, if_neg]; first | done | omega))) only [go_sem, ↓reduceIte, Nat.reduceEqDiff, Nat.reduceAdd, Nat.reduceMul, Nat.reduceSub, Nat.reduceLT, Nat.reduceLeDiff, Nat.reduceBNe, Nat.reduceBEq, Int.reduceToNat, Int.reduceAdd, Int.reduceSub, Int.reduceMul, Int.reduceLT, Int.reduceLE, Int.reduceNeg, Int.reduceBEq, Int.reduceBNe, Int.reduceEq, beq_self_eq_true, reduceCtorEq, decide_true, decide_false, if_pos, if_neg, lowG, gr]); (exact Nat.le_of_ble_eq_true rfl); (unfold Pin; decide)
    · intro dm
      have hpl : (posL sz).length = points sz := by simp only [posL, List.length_map, List.length_range]
      have hll := lowG_length fmin hmd (points sz)
      have hlh := lowG_length fmax hmd (points sz)
      simp only [hpl]
      refine go ?_
      refine R_ret (fin_data (by simp (disch := (first | omega | (simp only [go_sem, ↓reduceIte, Nat.reduceEqDiff, Nat.reduceAdd, Nat.reduceMul, Nat.reduceSub, Nat.reduceLT, Nat.reduceLeDiff, Nat.reduceBNe, Nat.reduceBEq, Int.reduceToNat, Int.reduceAdd, Int.reduceSub, Int.reduceMul, Int.reduceLT, Int.reduceLE, Int.reduceNeg, Int.reduceBEq, Int.reduceBNe, Int.reduceEq, beq_self_eq_true, reduceCtorEq, decide_true, decide_false, if_pos, if_neg]; first | done | omega))) only [go_sem, ↓reduceIte, Nat.reduceEqDiff, Nat.reduceAdd, Nat.reduceMul, Nat.reduceSub, Nat.reduceLT, Nat.reduceLeDiff, Nat.reduceBNe, Nat.reduceBEq, Int.reduceToNat, Int.reduceAdd, Int.reduceSub, Int.reduceMul, Int.reduceLT, Int.reduceLE, Int.reduceNeg, Int.reduceBEq, Int.reduceBNe, Int.reduceEq, beq_self_eq_true, reduceCtorEq, decide_true, decide_false, if_pos, if_neg, gr] <;> rfl) (by simp (disch := (first | omega | (simp only [go_sem, ↓reduceIte, Nat.reduceEqDiff, Nat.reduceAdd, Nat.reduceMul, Nat.reduceSub, Nat.reduceLT, Nat.reduceLeDiff, Nat.reduceBNe, Nat.reduceBEq, Int.reduceToNat, Int.reduceAdd, Int.reduceSub, Int.reduceMul, Int.reduceLT, Int.reduceLE, Int.reduceNeg, Int.reduceBEq, Int.reduceBNe, Int.reduceEq, beq_self_eq_true, reduceCtorEq, decide_true, decide_false, if_pos, if_neg]; first | done | omega))) only [go_sem, ↓reduceIte, Nat.reduceEqDiff, Nat.reduceAdd, Nat.reduceMul, Nat.reduceSub, Nat.reduceLT, Nat.reduceLeDiff, Nat.reduceBNe, Nat.reduceBEq, Int.reduceToNat, Int.reduceAdd, Int.reduceSub, Int.reduceMul, Int.reduceLT, Int.reduceLE, Int.reduceNeg, Int.reduceBEq, Int.reduceBNe, Int.reduceEq, beq_self_eq_true, reduceCtorEq, decide_true, decide_false, if_pos, if_neg, gr]))
theorem con29D (sz : List Int) (m : Nat) (da : List Int) (h1 : Right sz m da) : Con Try.prog 29 [gr sz m da] (.tp [.sl m (ints .i64 (lowR da m da.length)), .sl m (ints .i64 (highR da m da.length)), .sc (.int .i64 0)]) [] := by
  have hmd : m ≤ da.length := by
    have hR := h1
    have hlN := h1.lenN
    obtain ⟨hz1, h4, o1, o4, hs, _, hd, _⟩ := h1
    have hp := points_le h4 hs
    rw [hlN]
    have := Nat.mul_le_mul_right m hp.1
    omega
  have l1 := lowR_length da m hmd da.length
  have l2 := highR_length da m hmd da.length
  have := Con.frozen 5 (con29 sz m da h1 hmd)
  rw [show (.tp [.sl m (ints .i64 (lowR da m da.length)), .sl m (ints .i64 (highR da m da.length)), .sc (.int .i64 0)] : D) = _ from ?_]
  · exact this
  · simp (disch := (first | omega | (simp only [go_sem, ↓reduceIte, Nat.reduceEqDiff, Nat.reduceAdd, Nat.reduceMul, Nat.reduceSub, Nat.reduceLT, Nat.reduceLeDiff, Nat.reduceBNe, Nat.reduceBEq, Int.reduceToNat, Int.reduceAdd, Int.reduceSub, Int.reduceMul, Int.reduceLT, Int.reduceLE, Int.reduceNeg, Int.reduceBEq, Int.reduceBNe, Int.reduceEq, beq_self_eq_true, reduceCtorEq, decide_true, decide_false, if_pos, if_neg]; first | done | omega))) only [go_sem, ↓reduceIte, Nat.reduceEqDiff, Nat.reduceAdd, Nat.reduceMul, Nat.reduceSub, Nat.reduceLT, Nat.reduceLeDiff, Nat.reduceBNe, Nat.reduceBEq, Int.reduceToNat, Int.reduceAdd, Int.reduceSub, Int.reduceMul, Int.reduceLT, Int.reduceLE, Int.reduceNeg, Int.reduceBEq, Int.reduceBNe, Int.reduceEq, beq_self_eq_true, reduceCtorEq, decide_true, decide_false, if_pos, if_neg]
end Go.Proofs.Ytndigibhmfegaaa.V

/-
  The examples of the chapter: 'wakes'.
-/
set_option linter.unusedSimpArgs false
set_option linter.unusedVariables false
set_option maxHeartbeats 4000000
namespace Go.Proofs.Ytndigibhmfegaaa.V
open Go Go.Proofs Go.RowKit

theorem con15D (sz : List Int) (m : Nat) (da xs : List Int) (h1 : Right sz m da) (h2 : Inx sz xs) (k : Nat) (hk : pl sz m xs = k) (hb : k + m ≤ da.length) : Con Try.prog 15 [gr sz m da, .sl xs.length (ints .i64 xs)] (.tp [.sl m (ints .i64 ((da.drop k).take m)), .sc (.int .i64 0)]) [] := by
  have hl : ((da.drop k).take m).length = m := by simp; omega
  have := Con.frozen 5 (con15 sz m da xs h1 h2 k hk (by omega))
  rw [Int.toNat_natCast] at this
  rw [show (.tp [.sl m (ints .i64 ((da.drop k).take m)), .sc (.int .i64 0)] : D) = _ from ?_]
  · exact this
  · simp (disch := (first | omega | (simp only [go_sem, ↓reduceIte, Nat.reduceEqDiff, Nat.reduceAdd, Nat.reduceMul, Nat.reduceSub, Nat.reduceLT, Nat.reduceLeDiff, Nat.reduceBNe, Nat.reduceBEq, Int.reduceToNat, Int.reduceAdd, Int.reduceSub, Int.reduceMul, Int.reduceLT, Int.reduceLE, Int.reduceNeg, Int.reduceBEq, Int.reduceBNe, Int.reduceEq, beq_self_eq_true, reduceCtorEq, decide_true, decide_false, if_pos, if_neg]; first | done | omega))) only [go_sem, ↓reduceIte, Nat.reduceEqDiff, Nat.reduceAdd, Nat.reduceMul, Nat.reduceSub, Nat.reduceLT, Nat.reduceLeDiff, Nat.reduceBNe, Nat.reduceBEq, Int.reduceToNat, Int.reduceAdd, Int.reduceSub, Int.reduceMul, Int.reduceLT, Int.reduceLE, Int.reduceNeg, Int.reduceBEq, Int.reduceBNe, Int.reduceEq, beq_self_eq_true, reduceCtorEq, decide_true, decide_false, if_pos, if_neg]
theorem con28D : Con Try.prog 28 [] (gr [2, 3] 2 [0, 1, 2, 3, 4, 5, 6, 7, 8, 9, 10, 11]) [] := by
  have := Con.frozen 5 con28
  rw [show gr [2, 3] 2 [0, 1, 2, 3, 4, 5, 6, 7, 8, 9, 10, 11] = _ from ?_]
  · exact this
  · simp (disch := (first | omega | (simp only [go_sem, ↓reduceIte, Nat.reduceEqDiff, Nat.reduceAdd, Nat.reduceMul, Nat.reduceSub, Nat.reduceLT, Nat.reduceLeDiff, Nat.reduceBNe, Nat.reduceBEq, Int.reduceToNat, Int.reduceAdd, Int.reduceSub, Int.reduceMul, Int.reduceLT, Int.reduceLE, Int.reduceNeg, Int.reduceBEq, Int.reduceBNe, Int.reduceEq, beq_self_eq_true, reduceCtorEq, decide_true, decide_false, if_pos, if_neg]; first | done | omega))) only [go_sem, ↓reduceIte, Nat.reduceEqDiff, Nat.reduceAdd, Nat.reduceMul, Nat.reduceSub, Nat.reduceLT, Nat.reduceLeDiff, Nat.reduceBNe, Nat.reduceBEq, Int.reduceToNat, Int.reduceAdd, Int.reduceSub, Int.reduceMul, Int.reduceLT, Int.reduceLE, Int.reduceNeg, Int.reduceBEq, Int.reduceBNe, Int.reduceEq, beq_self_eq_true, reduceCtorEq, decide_true, decide_false, if_pos, if_neg, gr]

/-- The grid of the examples. -/
abbrev G12 : List Int := [0, 1, 2, 3, 4, 5, 6, 7, 8, 9, 10, 11]
theorem right12 : Right [2, 3] 2 G12 := by decide +kernel
theorem inx12 : Inx [2, 3] [1, 2] := by unfold Inx; decide +kernel
theorem inx01 : Inx [2, 3] [0, 1] := by unfold Inx; decide +kernel
theorem ninx20 : ¬ Inx [2, 3] [2, 0] := by unfold Inx; decide +kernel
theorem w13 : Con Try.prog 13 [gr [2, 3] 2 G12, .sl 2 (ints .i64 [1, 2])] (.tp [.sc (.int .i64 10), .sc (.int .i64 0)]) [] := by
  have := con13 [2, 3] 2 G12 [1, 2] right12 inx12
  rwa [show pl [2, 3] 2 [1, 2] = 10 by decide +kernel] at this
theorem w15 : Con Try.prog 15 [gr [2, 3] 2 G12, .sl 2 (ints .i64 [0, 1])] (.tp [.sl 2 (ints .i64 [2, 3]), .sc (.int .i64 0)]) [] :=
  con15D [2, 3] 2 G12 [0, 1] right12 inx01 2 (by decide +kernel) (by decide +kernel)
theorem w15b : Con Try.prog 15 [gr [2, 3] 2 G12, .sl 2 (ints .i64 [2, 0])] (.tp [.em, .sc (.int .i64 2)]) [] :=
  con15b [2, 3] 2 G12 [2, 0] right12 ninx20
theorem w27 : Con Try.prog 27 [gr [2, 3] 2 G12] (.tp [.sl 2 (ints .i64 [0, 1]), .sl 2 (ints .i64 [10, 11]), .sc (.int .i64 0)]) [] := by
  have := con27 [2, 3] 2 G12 right12
  rwa [show lowR G12 2 G12.length = [0, 1] by decide +kernel, show highR G12 2 G12.length = [10, 11] by decide +kernel] at this
theorem w18 : Con Try.prog 18 [gr [2, 3] 2 G12, .sc (.int .i64 0), .sc (.int .i64 1)] (.tp [gr [3, 2] 2 [0, 1, 6, 7, 2, 3, 8, 9, 4, 5, 10, 11], .sc (.int .i64 0)]) [] := by
  have := con18 [2, 3] 2 G12 0 1 right12 (by decide) (by decide)
  rwa [show swp 0 1 [2, 3] = [3, 2] by decide +kernel, show sall 0 1 [2, 3] G12 2 (points [2, 3]) = [0, 1, 6, 7, 2, 3, 8, 9, 4, 5, 10, 11] by decide +kernel] at this
theorem w21 : Con Try.prog 21 [gr [2, 3] 2 G12, .sl 1 (ints .i64 [1])] (.tp [gr [2, 3] 1 [1, 3, 5, 7, 9, 11], .sc (.int .i64 0)]) [] := by
  have := con21 [2, 3] 2 G12 [1] right12 (by decide) (by unfold Pk; decide +kernel) (by decide +kernel)
  rwa [show pall G12 2 [1] (points [2, 3]) = [1, 3, 5, 7, 9, 11] by decide +kernel] at this
theorem w25 : Con Try.prog 25 [gr [2, 3] 2 [0, 1, 2, 3, 4, 5, 6, 7, 8, 9, 10]] (.sc (.int .i64 100)) [] :=
  con25f (by decide +kernel)

theorem w17 (xs : List Int) : Con Try.prog 17 [.sl xs.length (ints .i64 xs), .sl xs.length (ints .i64 xs)] (.sc (.bool true)) [] := by
  have := con17 xs xs
  simpa using this
theorem con10 : Con Try.prog 10 [] (.sc (.bool true)) [] := by
  refine Con.of_body [] Try.func10 rfl ca10 121 rfl (by simp) rfl ?_; refine T_of_R ?_
  refine go ?_
  refine callf (con28D) ?_
  refine go ?_
  refine call (w13) ?_
  refine go ?_
  refine callz (w15) (by simp (disch := (first | omega | (simp only [go_sem, ↓reduceIte, Nat.reduceEqDiff, Nat.reduceAdd, Nat.reduceMul, Nat.reduceSub, Nat.reduceLT, Nat.reduceLeDiff, Nat.reduceBNe, Nat.reduceBEq, Int.reduceToNat, Int.reduceAdd, Int.reduceSub, Int.reduceMul, Int.reduceLT, Int.reduceLE, Int.reduceNeg, Int.reduceBEq, Int.reduceBNe, Int.reduceEq, beq_self_eq_true, reduceCtorEq, decide_true, decide_false, if_pos, if_neg]; first | done | omega))) only [go_sem, ↓reduceIte, Nat.reduceEqDiff, Nat.reduceAdd, Nat.reduceMul, Nat.reduceSub, Nat.reduceLT, Nat.reduceLeDiff, Nat.reduceBNe, Nat.reduceBEq, Int.reduceToNat, Int.reduceAdd, Int.reduceSub, Int.reduceMul, Int.reduceLT, Int.reduceLE, Int.reduceNeg, Int.reduceBEq, Int.reduceBNe, Int.reduceEq, beq_self_eq_true, reduceCtorEq, decide_true, decide_false, if_pos, if_neg, closed, closedL]) ?_
  refine go ?_
  refine callf (w27) ?_
  refine go ?_
  refine callf (w18) ?_
  refine go ?_
  refine callz (w21) (by simp (disch := (first | omega | (simp only [go_sem, ↓reduceIte, Nat.reduceEqDiff, Nat.reduceAdd, Nat.reduceMul, Nat.reduceSub, Nat.reduceLT, Nat.reduceLeDiff, Nat.reduceBNe, Nat.reduceBEq, Int.reduceToNat, Int.reduceAdd, Int.reduceSub, Int.reduceMul, Int.reduceLT, Int.reduceLE, Int.reduceNeg, Int.reduceBEq, Int.reduceBNe, Int.reduceEq, beq_self_eq_true, reduceCtorEq, decide_true, decide_false, if_pos, if_neg]; first | done | omega))) only [go_sem, ↓reduceIte, Nat.reduceEqDiff, Nat.reduceAdd, Nat.reduceMul, Nat.reduceSub, Nat.reduceLT, Nat.reduceLeDiff, Nat.reduceBNe, Nat.reduceBEq, Int.reduceToNat, Int.reduceAdd, Int.reduceSub, Int.reduceMul, Int.reduceLT, Int.reduceLE, Int.reduceNeg, Int.reduceBEq, Int.reduceBNe, Int.reduceEq, beq_self_eq_true, reduceCtorEq, decide_true, decide_false, if_pos, if_neg, closed, closedL]) ?_
  refine go ?_
  refine call (w15b) ?_
  refine go ?_
  refine callf (con28D) ?_
  refine go ?_
  refine gon ?_
  refine call (w17 [2, 3]) ?_
  refine gon ?_
  refine call (w17 [0, 1]) ?_
  refine gon ?_
  refine call (w17 [10, 11]) ?_
  refine gon ?_
  refine call (w17 [3, 2]) ?_
  refine gon ?_
  refine call (w17 [0, 1, 6, 7, 2, 3, 8, 9, 4, 5, 10, 11]) ?_
  refine gon ?_
  refine call (w17 [1, 3, 5, 7, 9, 11]) ?_
  refine gon ?_
  refine call (w25) ?_
  refine gon ?_
  refine R_ret (fin_of (ids := []) (by simp (disch := (first | omega | (simp only [go_sem, ↓reduceIte, Nat.reduceEqDiff, Nat.reduceAdd, Nat.reduceMul, Nat.reduceSub, Nat.reduceLT, Nat.reduceLeDiff, Nat.reduceBNe, Nat.reduceBEq, Int.reduceToNat, Int.reduceAdd, Int.reduceSub, Int.reduceMul, Int.reduceLT, Int.reduceLE, Int.reduceNeg, Int.reduceBEq, Int.reduceBNe, Int.reduceEq, beq_self_eq_true, reduceCtorEq, decide_true, decide_false, if_pos, if_neg]; first | done | omega))) only [go_sem, ↓reduceIte, Nat.reduceEqDiff, Nat.reduceAdd, Nat.reduceMul, Nat.reduceSub, Nat.reduceLT, Nat.reduceLeDiff, Nat.reduceBNe, Nat.reduceBEq, Int.reduceToNat, Int.reduceAdd, Int.reduceSub, Int.reduceMul, Int.reduceLT, Int.reduceLE, Int.reduceNeg, Int.reduceBEq, Int.reduceBNe, Int.reduceEq, beq_self_eq_true, reduceCtorEq, decide_true, decide_false, if_pos, if_neg] <;> rfl) (by simp (disch := (first | omega | (simp only [go_sem, ↓reduceIte, Nat.reduceEqDiff, Nat.reduceAdd, Nat.reduceMul, Nat.reduceSub, Nat.reduceLT, Nat.reduceLeDiff, Nat.reduceBNe, Nat.reduceBEq, Int.reduceToNat, Int.reduceAdd, Int.reduceSub, Int.reduceMul, Int.reduceLT, Int.reduceLE, Int.reduceNeg, Int.reduceBEq, Int.reduceBNe, Int.reduceEq, beq_self_eq_true, reduceCtorEq, decide_true, decide_false, if_pos, if_neg]; first | done | omega))) only [go_sem, ↓reduceIte, Nat.reduceEqDiff, Nat.reduceAdd, Nat.reduceMul, Nat.reduceSub, Nat.reduceLT, Nat.reduceLeDiff, Nat.reduceBNe, Nat.reduceBEq, Int.reduceToNat, Int.reduceAdd, Int.reduceSub, Int.reduceMul, Int.reduceLT, Int.reduceLE, Int.reduceNeg, Int.reduceBEq, Int.reduceBNe, Int.reduceEq, beq_self_eq_true, reduceCtorEq, decide_true, decide_false, if_pos, if_neg]) (by decide) (by simp (disch := (first | omega | (simp only [go_sem, ↓reduceIte, Nat.reduceEqDiff, Nat.reduceAdd, Nat.reduceMul, Nat.reduceSub, Nat.reduceLT, Nat.reduceLeDiff, Nat.reduceBNe, Nat.reduceBEq, Int.reduceToNat, Int.reduceAdd, Int.reduceSub, Int.reduceMul, Int.reduceLT, Int.reduceLE, Int.reduceNeg, Int.reduceBEq, Int.reduceBNe, Int.reduceEq, beq_self_eq_true, reduceCtorEq, decide_true, decide_false, if_pos, if_neg]; first | done | omega))) only [go_sem, ↓reduceIte, Nat.reduceEqDiff, Nat.reduceAdd, Nat.reduceMul, Nat.reduceSub, Nat.reduceLT, Nat.reduceLeDiff, Nat.reduceBNe, Nat.reduceBEq, Int.reduceToNat, Int.reduceAdd, Int.reduceSub, Int.reduceMul, Int.reduceLT, Int.reduceLE, Int.reduceNeg, Int.reduceBEq, Int.reduceBNe, Int.reduceEq, beq_self_eq_true, reduceCtorEq, decide_true, decide_false, if_pos, if_neg]))
end Go.Proofs.Ytndigibhmfegaaa.V

/-
  From a law's contract to the given statement: what the arguments hold, as data; that they read afterwards as they read before.
-/
namespace Go.Proofs.Ytndigibhmfegaaa.V
open Go Go.RowKit Go.ChangeShapes

/-- What a value of a type holds, cell by cell, as data. -/
def Shape (P : Program) : Nat → TypeId → List D → Prop
  | 0, _, _ => False
  | n + 1, t, ds => match P.underlying t with
    | some .bool => ∃ b, ds = [.sc (.bool b)]
    | some (.int k) => ∃ m, (Lit.int k m).wf = true ∧ ds = [.sc (.int k m)]
    | some .string => ∃ s : ByteArray, s.size ≤ maxLen ∧ ds = [.sc (.string s)]
    | some (.slice e) => ∃ rows : List (List D), rows.length ≤ maxLen ∧ (∀ r ∈ rows, Shape P n e r) ∧ ds = [.sl rows.length rows.flatten]
    | some (.struct fs) => ∃ rows : List (List D), rows.length = fs.size ∧ (∀ (i : Nat) f r, fs[i]? = some f → rows[i]? = some r → Shape P n f.type r) ∧ ds = rows.flatten
    | some (.array m e) => ∃ rows : List (List D), rows.length = m ∧ (∀ r ∈ rows, Shape P n e r) ∧ ds = rows.flatten
    | _ => False
/-- The types that this serves. -/
def plainT (P : Program) : Nat → TypeId → Bool
  | 0, _ => false
  | n + 1, t => match P.underlying t with
    | some .bool => true
    | some (.int _) => true
    | some .string => true
    | some (.slice e) => plainT P n e
    | some (.struct fs) => fs.toList.all fun f => plainT P n f.type
    | some (.array _ e) => plainT P n e
    | _ => false

/-- All that is there, quiet. -/
def still (w : World) : Ctx := ⟨fun _ => none, fun b => b < w.heap.size, w, fun _ => False⟩

theorem choose_rows {α : Type} {p : Nat → α → Prop} : ∀ n, (∀ i, i < n → ∃ a, p i a) → ∃ l : List α, l.length = n ∧ ∀ (i : Nat) a, l[i]? = some a → p i a
  | 0, _ => ⟨[], rfl, fun i a h => by simp at h⟩
  | n + 1, h => by
    obtain ⟨l, hl, hp⟩ := choose_rows n fun i hi => h i (by omega)
    obtain ⟨a, ha⟩ := h n (by omega)
    refine ⟨l ++ [a], by simp [hl], fun i b hb => ?_⟩
    by_cases hi : i < n
    · rw [List.getElem?_append_left (by omega)] at hb
      exact hp i b hb
    · have : i = n := by
        have := (List.getElem?_eq_some_iff.1 hb).1
        simp at this
        omega
      subst this
      rw [List.getElem?_append_right (by omega)] at hb
      simp [hl] at hb
      subst hb
      exact ha
theorem Cr_append {X : Ctx} {b : Nat} : ∀ {r s : List D} {off : Nat}, Cr X b off r → Cr X b (off + r.length) s → Cr X b off (r ++ s)
  | [], s, off, _, h => by simpa using h
  | d :: r, s, off, h, h' => by
    simp only [Cr, List.cons_append] at h ⊢
    exact ⟨h.1, Cr_append h.2 (by rwa [show off + 1 + r.length = off + (d :: r).length by simp; omega])⟩
theorem Cr_rows {X : Ctx} {b : Nat} {es : Nat} : ∀ {rows : List (List D)} {off : Nat}, (∀ (i : Nat) r, rows[i]? = some r → r.length = es ∧ Cr X b (off + i * es) r) → Cr X b off rows.flatten
  | [], off, _ => by simp [Cr]
  | r :: rows, off, h => by
    have h0 := h 0 r (by simp)
    rw [List.flatten_cons]
    refine Cr_append (by simpa using h0.2) (Cr_rows (es := es) fun i s hs => ?_)
    obtain ⟨h1, h2⟩ := h (i + 1) s (by simpa using hs)
    refine ⟨h1, ?_⟩
    rw [h0.1]
    rwa [show off + es + i * es = off + (i + 1) * es by rw [Nat.add_mul]; omega]
theorem Lr_rows {X : Ctx} : ∀ {rows : List (List D)} {vs : List (List Value)}, rows.length = vs.length → (∀ (i : Nat) r v, rows[i]? = some r → vs[i]? = some v → Lr X r v) → Lr X rows.flatten vs.flatten
  | [], [], _, _ => by simp [Lr]
  | r :: rows, v :: vs, hl, h => by
    rw [List.flatten_cons, List.flatten_cons]
    exact Lr_append (h 0 r v (by simp) (by simp)) (Lr_rows (by simpa using hl) fun i r v h1 h2 => h (i + 1) r v (by simpa using h1) (by simpa using h2))
  | [], _ :: _, hl, _ => by simp at hl
  | _ :: _, [], hl, _ => by simp at hl

theorem cell_spot {w : World} {a : Addr} {v : Value} (h : w.cell? a = some v) : a = ⟨a.block, a.off, none⟩ ∧ a.block < w.heap.size := by
  unfold World.cell? at h
  split at h
  · rename_i c t fr hb
    split at h
    · cases h
    · rename_i hs
      refine ⟨?_, (Array.getElem?_eq_some_iff.1 hb).1⟩
      obtain ⟨b, o, s⟩ := a
      cases s with
      | none => rfl
      | some s => simp at hs
  · cases h
theorem add_plain (b o n : Nat) : (⟨b, o, none⟩ : Addr).add n = ⟨b, o + n, none⟩ := by
  unfold Addr.add
  split
  · rename_i h; subst h; rfl
  · rfl

/-- A list, cut. -/
theorem cut_flatten {α : Type} : ∀ (sizes : List Nat) (cs : List α), cs.length = sizes.sum → ((List.range sizes.length).map fun i => (cs.drop (sizes.take i).sum).take (sizes.getD i 0)).flatten = cs
  | [], cs, h => by
    have : cs = [] := List.length_eq_zero_iff.1 (by simpa using h)
    simp [this]
  | z :: sizes, cs, h => by
    simp only [List.sum_cons] at h
    rw [List.length_cons, List.range_succ_eq_map, List.map_cons, List.flatten_cons, List.map_map]
    have ih := cut_flatten sizes (cs.drop z) (by simp; omega)
    have e : ((List.range sizes.length).map ((fun i => (cs.drop ((z :: sizes).take i).sum).take ((z :: sizes).getD i 0)) ∘ Nat.succ)) = (List.range sizes.length).map fun i => ((cs.drop z).drop (sizes.take i).sum).take (sizes.getD i 0) := by
      refine List.map_congr_left fun i _ => ?_
      simp [List.drop_drop]
    rw [e, ih]
    simp

section
variable {H : Type} {enc : TypeId × Value → H} {P : Program} {w : World} {base : Nat} {spare : Nat → Bool} {held : Bool}
theorem shape_of (K : Kids P (· < P.types.size)) (hz : ∀ t e, t < P.types.size → P.underlying t = some (.slice e) → 0 < P.cellsOf e) : ∀ (n fuel : Nat) (t : TypeId) (cs : List Value) (x : DataW H × List MemPlace), t < P.types.size → plainT P n t = true →
    DataW.trod enc P w base spare held fuel t cs = some x → ∃ ds, Lr (still w) ds cs ∧ (∀ c ∈ cs, c.oneCell' = true) ∧ Shape P n t ds := by
  intro n
  induction n with
  | zero => intro fuel t cs x _ hp _; simp [plainT] at hp
  | succ n ih =>
    intro fuel t cs x ht hp h
    unfold plainT at hp
    unfold Shape
    split at hp
    · rename_i hu
      obtain ⟨b, rfl, _⟩ := DataW.trod_bool hu h
      exact ⟨[.sc (.bool b)], by simp [Lr, Vr], by simp [Value.oneCell'], b, rfl⟩
    · rename_i k hu
      obtain ⟨m, rfl, _, hw⟩ := DataW.trod_int hu h
      exact ⟨[.sc (.int k m)], by simp [Lr, Vr], by simp [Value.oneCell'], m, hw, rfl⟩
    · rename_i hu
      obtain ⟨s, rfl, _, hs⟩ := DataW.trod_string hu h
      exact ⟨[.sc (.string s)], by simp [Lr, Vr], by simp [Value.oneCell'], s, hs, rfl⟩
    · rename_i e hu
      have he' := K.slice ht hu
      have hes := hz t e ht hu
      rcases DataW.trod_slice hu h with ⟨rfl, _⟩ | ⟨a, len, cap, elems, rest, m, rfl, rfl, _, hb, hl, hc, hel, he, _, _⟩
      · exact ⟨[.sl 0 []], by simp [Lr, Vr], by simp [Value.oneCell'], [], Nat.zero_le _, by simp, rfl⟩
      · have each : ∀ i, i < len → ∃ r : List D, ∃ ci, w.cells? base (a.add (i * P.cellsOf e)) (P.cellsOf e) = some ci ∧ Lr (still w) r ci ∧ (∀ c ∈ ci, c.oneCell' = true) ∧ Shape P n e r := by
          intro i hi
          have h1 := he i hi
          rw [List.getElem?_eq_getElem (by omega), Option.bind_eq_some_iff] at h1
          obtain ⟨ci, hci, htr⟩ := h1
          obtain ⟨r, r1, r2, r3⟩ := ih _ _ _ _ he' hp htr
          exact ⟨r, ci, hci, r1, r2, r3⟩
        obtain ⟨rows, hrl, hrp⟩ := choose_rows len each
        refine ⟨[.sl len rows.flatten], ?_, by simp [Value.oneCell'], rows, by rw [hrl]; exact Nat.le_trans hl hc, fun r hr => ?_, by rw [hrl]⟩
        · simp only [Lr]
          refine ⟨_, _, rfl, ?_, rfl⟩
          simp only [Vr]
          refine ⟨Nat.le_trans hl hc, some a, cap, rfl, hl, ?_⟩
          by_cases h0 : len = 0
          · left
            have : rows = [] := List.length_eq_zero_iff.1 (by omega)
            simp [this]
          · right
            obtain ⟨r0, hr0⟩ : ∃ r, rows[0]? = some r := ⟨_, List.getElem?_eq_getElem (by omega)⟩
            obtain ⟨c0, hc0, _⟩ := hrp 0 r0 hr0
            obtain ⟨_, q1, q2⟩ := World.cells?_some hc0
            have q3 := q2 0 hes
            rw [List.getElem?_eq_getElem (by omega)] at q3
            have e1 : (a.add (0 * P.cellsOf e)).add 0 = a := by simp [Addr.add]
            rw [e1] at q3
            obtain ⟨ea, hlt⟩ := cell_spot q3
            refine ⟨a.block, a.off, by rw [← ea], hlt, Cr_rows (es := P.cellsOf e) fun i r hr => ?_⟩
            obtain ⟨ci, hci, r1, r2, _⟩ := hrp i r hr
            obtain ⟨_, q1, q2⟩ := World.cells?_some hci
            refine ⟨by rw [← q1]; exact (Lr_length r1).symm, Cr_iff.2 fun j d hd => ?_⟩
            obtain ⟨v, hv, hvr⟩ := Lr_get r1 j d hd
            have hj := (List.getElem?_eq_some_iff.1 hv).1
            have q4 := q2 j (by omega)
            rw [hv, ea, add_plain, add_plain] at q4
            exact ⟨v, q4, r2 v (List.mem_of_getElem? hv), hvr⟩
        · obtain ⟨i, hi⟩ := List.getElem?_of_mem hr
          exact (hrp i r hi).choose_spec.2.2.2
    · rename_i fs hu
      obtain ⟨k1, k2, k3⟩ := K.struct ht hu
      obtain ⟨xs, m, rfl, _, hcl, hxl, hx⟩ := DataW.trod_struct hu h
      let sizes := fs.toList.map fun f => P.cellsOf f.type
      have hsl : sizes.length = fs.size := by simp [sizes]
      let piece : Nat → List Value := fun i => (cs.drop (sizes.take i).sum).take (sizes.getD i 0)
      have each : ∀ i, i < fs.size → ∃ r : List D, ∀ f, fs[i]? = some f → Lr (still w) r (piece i) ∧ (∀ c ∈ piece i, c.oneCell' = true) ∧ Shape P n f.type r := by
        intro i hi
        obtain ⟨f, hf⟩ : ∃ f, fs[i]? = some f := ⟨_, Array.getElem?_eq_getElem hi⟩
        have hft : fs.toList[i]? = some f := by simpa using hf
        have hx' := hx i f hf
        rw [List.getElem?_eq_getElem (by omega)] at hx'
        have e : (cs.drop f.offset).take (P.cellsOf f.type) = piece i := by
          simp only [piece, sizes]
          rw [k3 i f hft, ← List.map_take]
          congr 1
          rw [List.getD_eq_getElem?_getD, List.getElem?_map, hft]
          rfl
        rw [e] at hx'
        have hmem : f ∈ fs.toList := List.mem_of_getElem? hft
        obtain ⟨r, r1, r2, r3⟩ := ih _ _ _ _ (k1 f hmem) (List.all_eq_true.1 hp f hmem) hx'
        refine ⟨r, fun f' hf' => ?_⟩
        rw [hf] at hf'; cases hf'
        exact ⟨r1, r2, r3⟩
      obtain ⟨rows, hrl, hrp⟩ := choose_rows fs.size each
      have hcut : ((List.range sizes.length).map piece).flatten = cs := cut_flatten sizes cs (by rw [hcl, k2])
      refine ⟨rows.flatten, ?_, ?_, rows, hrl, fun i f r hf hr => (hrp i r hr f hf).2.2, rfl⟩
      · rw [← hcut]
        refine Lr_rows (by simp [hrl, hsl]) fun i r v hr hv => ?_
        have hi : i < fs.size := by have := (List.getElem?_eq_some_iff.1 hr).1; omega
        have e : v = piece i := by
          rw [List.getElem?_map, List.getElem?_range (by omega)] at hv
          simpa using hv.symm
        subst e
        exact (hrp i r hr _ (Array.getElem?_eq_getElem hi)).1
      · rw [← hcut]
        intro c hc
        obtain ⟨l, hl, hcl'⟩ := List.mem_flatten.1 hc
        obtain ⟨i, hi, rfl⟩ := List.mem_map.1 hl
        have hi' : i < fs.size := by have := List.mem_range.1 hi; omega
        obtain ⟨r, hr⟩ : ∃ r, rows[i]? = some r := ⟨_, List.getElem?_eq_getElem (by omega)⟩
        exact (hrp i r hr _ (Array.getElem?_eq_getElem hi')).2.1 c hcl'
    · rename_i m e hu
      obtain ⟨k1, k2⟩ := K.array ht hu
      obtain ⟨xs, q, rfl, _, hcl, hxl, hx⟩ := DataW.trod_array hu h
      let sizes := List.replicate m (P.cellsOf e)
      have hsl : sizes.length = m := by simp [sizes]
      let piece : Nat → List Value := fun i => (cs.drop (sizes.take i).sum).take (sizes.getD i 0)
      have each : ∀ i, i < m → ∃ r : List D, Lr (still w) r (piece i) ∧ (∀ c ∈ piece i, c.oneCell' = true) ∧ Shape P n e r := by
        intro i hi
        have hx' := hx i hi
        rw [List.getElem?_eq_getElem (by omega)] at hx'
        have e1 : (cs.drop (i * P.cellsOf e)).take (P.cellsOf e) = piece i := by
          simp only [piece, sizes, List.take_replicate, List.sum_replicate_nat, List.getD_eq_getElem?_getD, List.getElem?_replicate, if_pos hi, Option.getD_some, Nat.min_eq_left (Nat.le_of_lt hi)]
        rw [e1] at hx'
        exact ih _ _ _ _ k1 hp hx'
      obtain ⟨rows, hrl, hrp⟩ := choose_rows m each
      have hcut : ((List.range sizes.length).map piece).flatten = cs := cut_flatten sizes cs (by rw [hcl, k2]; simp [sizes, List.sum_replicate_nat])
      refine ⟨rows.flatten, ?_, ?_, rows, hrl, fun r hr => ?_, rfl⟩
      · rw [← hcut]
        refine Lr_rows (by simp [hrl, hsl]) fun i r v hr hv => ?_
        have hi : i < m := by have := (List.getElem?_eq_some_iff.1 hr).1; omega
        have e : v = piece i := by
          rw [List.getElem?_map, List.getElem?_range (by omega)] at hv
          simpa using hv.symm
        subst e
        exact (hrp i r hr).1
      · rw [← hcut]
        intro c hc
        obtain ⟨l, hl, hcl'⟩ := List.mem_flatten.1 hc
        obtain ⟨i, hi, rfl⟩ := List.mem_map.1 hl
        have hi' : i < m := by have := List.mem_range.1 hi; omega
        obtain ⟨r, hr⟩ : ∃ r, rows[i]? = some r := ⟨_, List.getElem?_eq_getElem (by omega)⟩
        exact (hrp i r hr).2.1 c hcl'
      · obtain ⟨i, hi⟩ := List.getElem?_of_mem hr
        exact (hrp i r hi).2.2
    · cases hp
end

end Go.Proofs.Ytndigibhmfegaaa.V

/-
  The bridge to a given law's statement.
-/
namespace Go.Proofs.Ytndigibhmfegaaa.V
open Go Go.RowKit Go.ChangeShapes Go.WideShapes

/-- A whole value of a type, as data. -/
def ShapeV (P : Program) (n : Nat) (t : TypeId) (d : D) : Prop := match P.underlying t with
  | some (.struct _) | some (.array _ _) => ∃ ds, d = .ag ds ∧ Shape P n t ds
  | _ => Shape P n t [d]

section
variable {H : Type} {enc : TypeId × Value → H} {P : Program} {w : World} {base : Nat} {spare : Nat → Bool} {held : Bool}
theorem value_of (K : Kids P (· < P.types.size)) (hz : ∀ t e, t < P.types.size → P.underlying t = some (.slice e) → 0 < P.cellsOf e) {n : Nat} {t : TypeId} {v : Value} {d : DataW H} {ps : List MemPlace} {r : Reach} {b0 : Nat} (ht : t < P.types.size) (hp : plainT P n t = true)
    (hval : Value.okWide P w r b0 t v) (h : DataW.Trod enc P w base spare held t v d ps) : ∃ a, Vr (still w) a v ∧ ShapeV P n t a := by
  obtain ⟨fuel, hf⟩ := h
  obtain ⟨ds, h1, h2, h3⟩ := shape_of K hz n fuel t _ _ ht hp hf
  have one : ∀ {u : Value}, v = u → u.oneCell' = true → ∃ a, Vr (still w) a v ∧ Shape P n t [a] := by
    rintro u rfl hu
    have hc : v.cells.toList = [v] := by cases v <;> simp_all [Value.cells, Value.oneCell']
    rw [hc] at h1
    have hl := Lr_length h1
    obtain ⟨a, rfl⟩ : ∃ a, ds = [a] := by
      cases ds with
      | nil => simp at hl
      | cons a l => cases l with
        | nil => exact ⟨a, rfl⟩
        | cons b l => simp at hl
    simp only [Lr] at h1
    obtain ⟨u, r', e, hv, rfl⟩ := h1
    simp only [List.cons.injEq, and_true] at e
    subst e
    exact ⟨a, hv, h3⟩
  cases n with
  | zero => simp [plainT] at hp
  | succ n =>
  unfold plainT at hp
  unfold ShapeV
  split at hp
  · rename_i hu
    obtain ⟨b, hb⟩ := okWide_bool hu hval
    simp only [hu]
    exact one hb rfl
  · rename_i k hu
    obtain ⟨b, hb⟩ := okWide_int hu hval
    simp only [hu]
    exact one hb rfl
  · rename_i hu
    obtain ⟨b, hb⟩ := okWide_string hu hval
    simp only [hu]
    exact one hb rfl
  · rename_i e hu
    obtain ⟨a, l, c, hb⟩ := okWide_slice hu hval
    simp only [hu]
    exact one hb rfl
  · rename_i fs hu
    simp only [Value.okWide, hu] at hval
    obtain ⟨cs, rfl, _⟩ := hval
    simp only [hu]
    exact ⟨.ag ds, by simp only [Vr]; exact ⟨cs, rfl, by simpa [Value.cells] using h1⟩, ds, rfl, h3⟩
  · rename_i m e hu
    simp only [Value.okWide, hu] at hval
    obtain ⟨cs, rfl, _⟩ := hval
    simp only [hu]
    exact ⟨.ag ds, by simp only [Vr]; exact ⟨cs, rfl, by simpa [Value.cells] using h1⟩, ds, rfl, h3⟩
  · cases hp

theorem args_of (K : Kids P (· < P.types.size)) (hz : ∀ t e, t < P.types.size → P.underlying t = some (.slice e) → 0 < P.cellsOf e) {n : Nat} {r : Reach} {b0 : Nat} : ∀ {ts : List TypeId} {vs : List Value} {ds : List (DataW H)} {ps : List MemPlace}, (∀ t ∈ ts, t < P.types.size ∧ plainT P n t = true) →
    (∀ (j : Nat) t v, ts[j]? = some t → vs[j]? = some v → Value.okWide P w r b0 t v) → DataW.TrodAll enc P w base spare held ts vs ds ps →
    ∃ us, Lr (still w) us vs ∧ us.length = ts.length ∧ ds.length = ts.length ∧ ∀ (j : Nat) t a, ts[j]? = some t → us[j]? = some a → ShapeV P n t a
  | [], [], [], _, _, _, _ => ⟨[], rfl, rfl, rfl, by simp⟩
  | t :: ts, v :: vs, d :: ds, ps, hp, hval, ⟨p, q, h1, h2, _⟩ => by
    obtain ⟨us, a1, a2, a3, a4⟩ := args_of K hz (fun t ht => hp t (by simp [ht])) (fun j t v h h' => hval (j + 1) t v (by simpa using h) (by simpa using h')) h2
    obtain ⟨a, b1, b2⟩ := value_of K hz (hp t (by simp)).1 (hp t (by simp)).2 (hval 0 t v (by simp) (by simp)) h1
    refine ⟨a :: us, ⟨v, vs, rfl, b1, a1⟩, by simp [a2], by simp [a3], fun j t' a' h h' => ?_⟩
    cases j with
    | zero => simp at h h'; subst h h'; exact b2
    | succ j => exact a4 j t' a' (by simpa using h) (by simpa using h')

theorem stays_all (K : Kids P (· < P.types.size)) (hz : ∀ t e, t < P.types.size → P.underlying t = some (.slice e) → 0 < P.cellsOf e) {w' : World} {sp' : Nat → Bool} : ∀ {ts : List TypeId} {vs : List Value} {ds : List (DataW H)} {ps : List MemPlace}, (∀ t ∈ ts, t < P.types.size) →
    DataW.TrodAll enc P w base (fun _ => true) true ts vs ds ps → (∀ p ∈ ps, w.sameAt w' p) → (∀ p ∈ ps, sp' p.block = true) → DataW.TrodAll enc P w' base sp' true ts vs ds ps
  | [], [], [], _, _, h, _, _ => h
  | t :: ts, v :: vs, d :: ds, ps, ht, ⟨p, q, ⟨n, h1⟩, h2, e⟩, hs, hb => by
    refine ⟨p, q, ⟨n, ?_⟩, stays_all K hz (fun t h => ht t (by simp [h])) h2 (fun x hx => hs x (by rw [e]; exact List.mem_append_right _ hx)) (fun x hx => hb x (by rw [e]; exact List.mem_append_right _ hx)), e⟩
    exact DataW.trod_stays K (fun h h' => hz _ _ h h') (fun h => by cases h) (ht t (by simp)) h1 (fun x hx => hs x (by rw [e]; exact List.mem_append_left _ hx)) (fun x hx => hb x (by rw [e]; exact List.mem_append_left _ hx))

theorem still_quiet (w : World) : ∀ b, (still w).I b → b < w.heap.size := fun _ h => h

/-- A law whose contract says 'true' at all data of its parameters' types. -/
theorem law_post {f : FuncId} {fn : Func} {s : ChangeSpec} {tb : TypeId} {n : Nat} (K : Kids P (· < P.types.size)) (hz : ∀ t e, t < P.types.size → P.underlying t = some (.slice e) → 0 < P.cellsOf e)
    (hpl : (fn.params.toList.all fun t => decide (t < P.types.size) && plainT P n t) = true) (hres : fn.resultTypes = #[tb]) (htb : P.underlying tb = some .bool) (hv : s.vars = [])
    (hs : ∀ (ds : List (DataW H)), ds.length = fn.params.size → s.fn H ds = { results := [.lit (.bool true)], args := ds })
    (con : ∀ us : List D, us.length = fn.params.size → (∀ (j : Nat) t a, fn.params[j]? = some t → us[j]? = some a → ShapeV P n t a) → Con P f us (.sc (.bool true)) [])
    (W : World) (b0 : Nat) (args : Array Value) (ds gs : List (DataW H)) (before : List MemPlace) (hval : ∀ (j : Nat) t v, fn.params[j]? = some t → args[j]? = some v → Value.okWide P W .any b0 t v)
    (hW : DataW.Whole enc P fn.params.toList s.vars false W args.toList ds gs before) :
    Calls P f args W fun e W' => ∃ v, e = .returned v ∧ s.post enc P fn false true false false W args v W' := by
  have hW' := hW
  obtain ⟨p, q, hA, hV, rfl, _, _⟩ := hW
  rw [hv] at hV
  obtain ⟨rfl, rfl⟩ : gs = [] ∧ q = [] := by
    cases gs with
    | nil => simp only [DataW.TrodVars] at hV; exact ⟨rfl, hV⟩
    | cons => simp [DataW.TrodVars] at hV
  have hts : ∀ t ∈ fn.params.toList, t < P.types.size ∧ plainT P n t = true := fun t ht => by
    have := List.all_eq_true.1 hpl t ht
    simpa using this
  obtain ⟨us, a1, a2, a3, a4⟩ := args_of K hz hts (fun j t v h h' => hval j t v (by simpa using h) (by simpa using h')) hA
  have hc := (con us (by simpa using a2) fun j t a h h' => a4 j t a (by simpa using h) h').calls (fun b => b < W.heap.size) W args.toList (fun _ h => h) a1
  rw [Array.toArray_toList] at hc
  refine hc.mono ?_
  rintro e W' ⟨v, Y, rfl, rfl, hp⟩
  have hval' := hp.val
  simp only [Vr] at hval'
  subst hval'
  have hlt := hW'.lt
  have hfn := hs ds (by simpa using a3)
  simp only [List.append_nil] at hW' hlt
  refine ⟨_, rfl, ds, [], p, [], p, [], hW', ?_, ?_, ?_, hp.below.frame _, fun h => by cases h⟩
  · rw [List.append_nil, hfn, hres]
    exact trodAll_cons_mk (shut_bool htb _) trodAll_mk0
  · rw [List.append_nil, hfn]
    refine stays_all K hz (fun t ht => (hts t ht).1) hA (fun x hx => ?_) fun x hx => by simpa using hlt x hx
    have hb := hp.below.block x.block (hlt x hx)
    cases x with
    | cell b o => simp only [World.sameAt, World.cell?]; simp only [MemPlace.block] at hb; rw [hb]
    | map b => exact hb
  · rw [List.append_nil, hfn, hv]
    rfl
end

end Go.Proofs.Ytndigibhmfegaaa.V

/-
  The arguments of the statements, as data.
-/
set_option linter.unusedSimpArgs false
set_option linter.unusedVariables false
namespace Go.Proofs.Ytndigibhmfegaaa.V
open Go Go.Proofs Go.RowKit

theorem rows_ints {P : Program} {n : Nat} {e : TypeId} {k : IntKind} (he : P.underlying e = some (.int k)) : ∀ {rows : List (List D)}, (∀ r ∈ rows, Shape P (n + 1) e r) → ∃ xs : List Int, xs.length = rows.length ∧ rows.flatten = ints k xs ∧ ∀ i, i < xs.length → (Lit.int k (xs.getD i 0)).wf = true
  | [], _ => ⟨[], rfl, rfl, fun i hi => by simp at hi⟩
  | r :: rows, h => by
    obtain ⟨xs, h1, h2, h3⟩ := rows_ints he (rows := rows) (fun r hr => h r (by simp [hr]))
    have h0 := h r (by simp)
    simp only [Shape, he] at h0
    obtain ⟨m, hm, rfl⟩ := h0
    refine ⟨m :: xs, by simp [h1], by simp [h2, ints_cons], fun i hi => ?_⟩
    cases i with
    | zero => simpa using hm
    | succ i => simpa using h3 i (by simpa using hi)
theorem shape_ints {P : Program} {n : Nat} {t e : TypeId} {k : IntKind} {ds : List D} (ht : P.underlying t = some (.slice e)) (he : P.underlying e = some (.int k)) (h : Shape P (n + 2) t ds) : ∃ xs : List Int, ds = [.sl xs.length (ints k xs)] ∧ ∀ i, i < xs.length → (Lit.int k (xs.getD i 0)).wf = true := by
  rw [Shape] at h
  simp only [ht] at h
  obtain ⟨rows, _, hr, rfl⟩ := h
  obtain ⟨xs, h1, h2, h3⟩ := rows_ints he hr
  exact ⟨xs, by rw [h1, h2], h3⟩
theorem shape_int {P : Program} {n : Nat} {t : TypeId} {k : IntKind} {ds : List D} (ht : P.underlying t = some (.int k)) (h : Shape P (n + 1) t ds) : ∃ m, (Lit.int k m).wf = true ∧ ds = [.sc (.int k m)] := by
  rw [Shape] at h
  simpa only [ht] using h
theorem shape_bool {P : Program} {n : Nat} {t : TypeId} {ds : List D} (ht : P.underlying t = some .bool) (h : Shape P (n + 1) t ds) : ∃ b, ds = [.sc (.bool b)] := by
  rw [Shape] at h
  simpa only [ht] using h
theorem shape_struct {P : Program} {n : Nat} {t : TypeId} {fs : Array Field} {ds : List D} (ht : P.underlying t = some (.struct fs)) (h : Shape P (n + 1) t ds) : ∃ rows : List (List D), rows.length = fs.size ∧ (∀ (i : Nat) f r, fs[i]? = some f → rows[i]? = some r → Shape P n f.type r) ∧ ds = rows.flatten := by
  rw [Shape] at h
  simpa only [ht] using h
theorem shape_array {P : Program} {n m : Nat} {t e : TypeId} {ds : List D} (ht : P.underlying t = some (.array m e)) (h : Shape P (n + 1) t ds) : ∃ rows : List (List D), rows.length = m ∧ (∀ r ∈ rows, Shape P n e r) ∧ ds = rows.flatten := by
  rw [Shape] at h
  simpa only [ht] using h
theorem len1 {α : Type} {l : List α} (h : l.length = 1) : ∃ a, l = [a] := by
  match l, h with
  | [a], _ => exact ⟨a, rfl⟩
theorem len5 {α : Type} {l : List α} (h : l.length = 5) : ∃ a b c d e, l = [a, b, c, d, e] := by
  match l, h with
  | [a, b, c, d, e], _ => exact ⟨a, b, c, d, e, rfl⟩
theorem len6 {α : Type} {l : List α} (h : l.length = 6) : ∃ a b c d e f, l = [a, b, c, d, e, f] := by
  match l, h with
  | [a, b, c, d, e, f], _ => exact ⟨a, b, c, d, e, f, rfl⟩
theorem len2 {α : Type} {l : List α} (h : l.length = 2) : ∃ a b, l = [a, b] := by
  match l, h with
  | [a, b], _ => exact ⟨a, b, rfl⟩
theorem len3 {α : Type} {l : List α} (h : l.length = 3) : ∃ a b c, l = [a, b, c] := by
  match l, h with
  | [a, b, c], _ => exact ⟨a, b, c, rfl⟩
theorem len4 {α : Type} {l : List α} (h : l.length = 4) : ∃ a b c d, l = [a, b, c, d] := by
  match l, h with
  | [a, b, c, d], _ => exact ⟨a, b, c, d, rfl⟩
theorem wf_u8 {m : Int} (h : (Lit.int .u8 m).wf = true) : 0 ≤ m ∧ m ≤ 255 := by
  simpa [Lit.wf, IntKind.min, IntKind.max, IntKind.signed, IntKind.bits] using h
theorem wf_u16 {m : Int} (h : (Lit.int .u16 m).wf = true) : 0 ≤ m ∧ m ≤ 65535 := by
  simpa [Lit.wf, IntKind.min, IntKind.max, IntKind.signed, IntKind.bits] using h
theorem wf_i64 {m : Int} (h : (Lit.int .i64 m).wf = true) : -9223372036854775808 ≤ m ∧ m ≤ 9223372036854775807 := by
  simpa [Lit.wf, IntKind.min, IntKind.max, IntKind.signed, IntKind.bits] using h
theorem Bd_of {k : IntKind} {b : Int} (hb : 0 ≤ b) (hk : ∀ m, (Lit.int k m).wf = true → 0 ≤ m ∧ m ≤ b) {xs : List Int} (h : ∀ i, i < xs.length → (Lit.int k (xs.getD i 0)).wf = true) : Bd b xs := fun i => by
  by_cases hi : i < xs.length
  · exact hk _ (h i hi)
  · have e : xs.getD i 0 = 0 := by simp [List.getD_eq_getElem?_getD, List.getElem?_eq_none (Nat.le_of_not_lt hi)]
    rw [e]
    exact ⟨Int.le_refl _, hb⟩

theorem sh_ints {n : Nat} {a : D} (h : ShapeV Try.prog (n + 2) 22 a) : ∃ xs : List Int, a = .sl xs.length (ints .i64 xs) ∧ ∀ i, i < xs.length → (Lit.int .i64 (xs.getD i 0)).wf = true := by
  simp only [ShapeV, Try.underlying22] at h
  obtain ⟨xs, hx, hw⟩ := shape_ints Try.underlying22 Try.underlying3 h
  exact ⟨xs, by simpa using hx, hw⟩
theorem sh_u8s {n : Nat} {a : D} (h : ShapeV Try.prog (n + 2) 25 a) : ∃ xs : List Int, a = .sl xs.length (ints .u8 xs) ∧ Bd 255 xs := by
  simp only [ShapeV, Try.underlying25] at h
  obtain ⟨xs, hx, hw⟩ := shape_ints Try.underlying25 Try.underlying5 h
  exact ⟨xs, by simpa using hx, Bd_of (by omega) (fun m => wf_u8) hw⟩
theorem sh_u8 {n : Nat} {a : D} (h : ShapeV Try.prog (n + 1) 5 a) : ∃ m : Nat, a = .sc (.int .u8 m) ∧ m ≤ 255 := by
  simp only [ShapeV, Try.underlying5] at h
  obtain ⟨m, hm, hx⟩ := shape_int Try.underlying5 h
  have := wf_u8 hm
  exact ⟨m.toNat, by simp only [List.cons.injEq, and_true] at hx; rw [hx, Int.toNat_of_nonneg this.1], by omega⟩
theorem sh_u16 {n : Nat} {a : D} (h : ShapeV Try.prog (n + 1) 62 a) : ∃ m : Nat, a = .sc (.int .u16 m) ∧ m ≤ 65535 := by
  simp only [ShapeV, Try.underlying62] at h
  obtain ⟨m, hm, hx⟩ := shape_int Try.underlying62 h
  have := wf_u16 hm
  exact ⟨m.toNat, by simp only [List.cons.injEq, and_true] at hx; rw [hx, Int.toNat_of_nonneg this.1], by omega⟩
theorem sh_gr {n : Nat} {a : D} (h : ShapeV Try.prog (n + 3) 24 a) : ∃ (sz : List Int) (o : Int) (da : List Int), a = gr sz o da := by
  simp only [ShapeV, Try.underlying24] at h
  obtain ⟨ds, rfl, h⟩ := h
  obtain ⟨rows, hl, hr, rfl⟩ := shape_struct Try.underlying24 h
  obtain ⟨r0, r1, r2, rfl⟩ := len3 hl
  obtain ⟨x, rfl, _⟩ := shape_ints Try.underlying22 Try.underlying3 (hr 0 _ r0 rfl rfl)
  obtain ⟨o, _, rfl⟩ := shape_int Try.underlying3 (hr 1 _ r1 rfl rfl)
  obtain ⟨y, rfl, _⟩ := shape_ints Try.underlying22 Try.underlying3 (hr 2 _ r2 rfl rfl)
  exact ⟨x, o, y, rfl⟩
theorem sh_dr {n : Nat} {a : D} (h : ShapeV Try.prog (n + 3) 28 a) : ∃ (S : List Int) (o : Int) (V : List Int) (sm : Bool), a = dr S o V sm ∧ Bd 255 S ∧ (0 ≤ o ∧ o ≤ 255) ∧ Bd 65535 V := by
  simp only [ShapeV, Try.underlying28] at h
  obtain ⟨ds, rfl, h⟩ := h
  obtain ⟨rows, hl, hr, rfl⟩ := shape_struct Try.underlying28 h
  obtain ⟨r0, r1, r2, r3, rfl⟩ := len4 hl
  obtain ⟨x, rfl, h0⟩ := shape_ints Try.underlying25 Try.underlying5 (hr 0 _ r0 rfl rfl)
  obtain ⟨o, h1, rfl⟩ := shape_int Try.underlying5 (hr 1 _ r1 rfl rfl)
  obtain ⟨y, rfl, h2⟩ := shape_ints Try.underlying26 Try.underlying62 (hr 2 _ r2 rfl rfl)
  obtain ⟨b, rfl⟩ := shape_bool Try.underlying4 (hr 3 _ r3 rfl rfl)
  exact ⟨x, o, y, b, rfl, Bd_of (by omega) (fun m => wf_u8) h0, wf_u8 h1, Bd_of (by omega) (fun m => wf_u16) h2⟩
theorem sh_bend {n : Nat} {ds : List D} (h : Shape Try.prog (n + 2) 30 ds) : ∃ (w : Int) (a : Nat) (N : Int), ds = [.sc (.int .u8 w), .sc (.int .u8 a), .sc (.int .i64 N)] ∧ a ≤ 255 := by
  obtain ⟨rows, hl, hr, rfl⟩ := shape_struct Try.underlying30 h
  obtain ⟨r0, r1, r2, rfl⟩ := len3 hl
  obtain ⟨x, _, rfl⟩ := shape_int Try.underlying5 (hr 0 _ r0 rfl rfl)
  obtain ⟨o, h1, rfl⟩ := shape_int Try.underlying5 (hr 1 _ r1 rfl rfl)
  obtain ⟨y, _, rfl⟩ := shape_int Try.underlying3 (hr 2 _ r2 rfl rfl)
  have := wf_u8 h1
  refine ⟨x, o.toNat, y, ?_, by omega⟩
  rw [Int.toNat_of_nonneg this.1]
  rfl
theorem sh_bd2 {n : Nat} {a : D} (h : ShapeV Try.prog (n + 3) 31 a) : ∃ (w1 : Int) (a1 : Nat) (N1 w2 : Int) (a2 : Nat) (N2 : Int), a = .ag [.sc (.int .u8 w1), .sc (.int .u8 a1), .sc (.int .i64 N1), .sc (.int .u8 w2), .sc (.int .u8 a2), .sc (.int .i64 N2)] ∧ a1 ≤ 255 ∧ a2 ≤ 255 := by
  simp only [ShapeV, Try.underlying31] at h
  obtain ⟨ds, rfl, h⟩ := h
  obtain ⟨rows, hl, hr, rfl⟩ := shape_array Try.underlying31 h
  obtain ⟨r0, r1, rfl⟩ := len2 hl
  obtain ⟨w1, a1, N1, rfl, h1⟩ := sh_bend (hr r0 (by simp))
  obtain ⟨w2, a2, N2, rfl, h2⟩ := sh_bend (hr r1 (by simp))
  exact ⟨w1, a1, N1, w2, a2, N2, rfl, h1, h2⟩
theorem sh_near {n : Nat} {a : D} (h : ShapeV Try.prog (n + 2) 32 a) : ∃ xs : List Int, xs.length = 4 ∧ a = .ag (ints .u8 xs) ∧ Bd 255 xs := by
  simp only [ShapeV, Try.underlying32] at h
  obtain ⟨ds, rfl, h⟩ := h
  obtain ⟨rows, hl, hr, rfl⟩ := shape_array Try.underlying32 h
  obtain ⟨xs, h1, h2, h3⟩ := rows_ints Try.underlying5 hr
  exact ⟨xs, by omega, by rw [h2], Bd_of (by omega) (fun m => wf_u8) h3⟩
theorem sh_pair {n : Nat} {a : D} (h : ShapeV Try.prog (n + 2) 45 a) : ∃ x y : Int, a = .ag [.sc (.int .i64 x), .sc (.int .i64 y)] := by
  simp only [ShapeV, Try.underlying45] at h
  obtain ⟨ds, rfl, h⟩ := h
  obtain ⟨rows, hl, hr, rfl⟩ := shape_array Try.underlying45 h
  obtain ⟨r0, r1, rfl⟩ := len2 hl
  obtain ⟨x, _, rfl⟩ := shape_int Try.underlying3 (hr r0 (by simp))
  obtain ⟨y, _, rfl⟩ := shape_int Try.underlying3 (hr r1 (by simp))
  exact ⟨x, y, rfl⟩
end Go.Proofs.Ytndigibhmfegaaa.V

/-
  The grid of a draft is valid; the statement GridOrder, walked.
-/
set_option linter.unusedSimpArgs false
set_option linter.unusedVariables false
set_option maxHeartbeats 4000000
namespace Go.Proofs.Ytndigibhmfegaaa.V
open Go Go.Proofs Go.RowKit

theorem dsz_le (S : List Int) (hS : Bd 255 S) : ∀ k, k < (dsz S).length → (dsz S).getD k 0 ≤ 4 := by
  unfold dsz
  split
  · intro k hk
    have : k = 0 := by simpa using hk
    subst this
    simp
  · intro k hk
    rw [dszN_length _ _ (by omega)] at hk
    have e : (dszN S (min S.length 3)).getD k 0 = 2 + (S.getD k 0).tmod 3 := by
      simp only [dszN, List.getD_eq_getElem?_getD, List.getElem?_map, List.getElem?_take]
      rw [if_pos hk, List.getElem?_eq_getElem (by omega)]
      rfl
    have := tmod_3 (hS k).1
    omega
theorem Pi_64 {sz : List Int} (h : ∀ k, k < sz.length → 2 ≤ sz.getD k 0 ∧ sz.getD k 0 ≤ 4) : ∀ n, n ≤ sz.length → Pi sz n ≤ 4 ^ n
  | 0, _ => by simp [Pi]
  | n + 1, hn => by
    have h1 := Pi_64 h n (by omega)
    have h2 := h n (by omega)
    have h3 := Pi_pos (sz := sz) n fun i hi => (h i (by omega)).1
    simp only [Pi]
    rw [Int.pow_succ]
    exact Int.mul_le_mul h1 h2.2 (by omega) (by omega)
theorem dsz_points (S : List Int) (hS : Bd 255 S) : 1 ≤ points (dsz S) ∧ points (dsz S) ≤ 64 := by
  obtain ⟨d1, d2, d3⟩ := dsz_ok S hS
  have h1 := points_eq fun i hi => (d3 i hi).1
  have h2 := Pi_64 (fun k hk => ⟨(d3 k hk).1, dsz_le S hS k hk⟩) (dsz S).length (Nat.le_refl _)
  have h3 := points_le (by omega) d3
  have : (dsz S).length = 1 ∨ (dsz S).length = 2 ∨ (dsz S).length = 3 := by omega
  refine ⟨h3.1, ?_⟩
  rcases this with e | e | e <;> rw [e] at h1 h2 <;> omega
theorem dout_ok (o : Int) (ho : 0 ≤ o ∧ o ≤ 255) : 1 ≤ dout o ∧ dout o ≤ 3 := by
  have := tmod_3 ho.1
  unfold dout
  omega
theorem mraw_ok {V : List Int} (hV : Bd 65535 V) (out n k : Nat) : 0 ≤ mraw V out n k ∧ mraw V out n k ≤ 65535 := by
  unfold mraw
  split
  · omega
  · exact hV _
theorem mval_ok {sz V : List Int} {sm : Bool} {out n : Nat} (h1 : 1 ≤ sz.length) (hs : Sz sz) (hV : Bd 65535 V) (hn : n < points sz) (k : Nat) : 0 ≤ mval sz V sm out n k ∧ mval sz V sm out n k ≤ 65535 := by
  have hr := mraw_ok hV out n k
  have ht := tmod_5000 hr.1
  unfold mval
  split
  · have hp := points_eq fun i hi => (hs i hi).1
    obtain ⟨hv, _⟩ := outD_spec (n := n) hs (by omega) (by omega)
    have hk : k % sz.length < sz.length := Nat.mod_lt _ (by omega)
    have h2 := hv (k % sz.length) hk
    have h3 := hs (k % sz.length) hk
    have hq : 0 ≤ (60000 * (outD sz n sz.length).getD (k % sz.length) 0).tdiv (sz.getD (k % sz.length) 0 - 1) ∧ (60000 * (outD sz n sz.length).getD (k % sz.length) 0).tdiv (sz.getD (k % sz.length) 0 - 1) ≤ 60000 := by
      rw [Int.tdiv_eq_ediv_of_nonneg (by omega)]
      refine ⟨Int.ediv_nonneg (by omega) (by omega), ?_⟩
      refine Int.ediv_le_of_le_mul (by omega) ?_
      exact Int.mul_le_mul_of_nonneg_left h2.2 (by omega)
    omega
  · exact hr
theorem mrow_all {p : Int → Prop} {sz V : List Int} {sm : Bool} {out n : Nat} (h : ∀ k, p (mval sz V sm out n k)) : ∀ k, ∀ x ∈ mrow sz V sm out n k, p x
  | 0, x, hx => by simp [mrow] at hx
  | k + 1, x, hx => by
    simp only [mrow, List.mem_append, List.mem_singleton] at hx
    rcases hx with hx | rfl
    · exact mrow_all h k x hx
    · exact h k
theorem mall_all {p : Int → Prop} {sz V : List Int} {sm : Bool} {out : Nat} : ∀ n, (∀ m, m < n → ∀ k, p (mval sz V sm out m k)) → ∀ x ∈ mall sz V sm out n, p x
  | 0, _, x, hx => by simp [mall] at hx
  | n + 1, h, x, hx => by
    simp only [mall, List.mem_append] at hx
    rcases hx with hx | hx
    · exact mall_all n (fun m hm => h m (by omega)) x hx
    · exact mrow_all (h n (by omega)) out x hx
theorem draft_right {S : List Int} {o : Int} {V : List Int} {sm : Bool} (hS : Bd 255 S) (ho : 0 ≤ o ∧ o ≤ 255) (hV : Bd 65535 V) : Right (dsz S) (dout o) (ddat S o V sm) := by
  obtain ⟨d1, d2, d3⟩ := dsz_ok S hS
  have hp := dsz_points S hS
  have hm := dout_ok o ho
  have hb : points (dsz S) * dout o ≤ 64 * 3 := Nat.mul_le_mul hp.2 hm.2
  have hl : (ddat S o V sm).length = points (dsz S) * dout o := by unfold ddat; exact mall_length _ _ _ _ _
  refine ⟨d1, by omega, by omega, by omega, d3, ?_, by omega, fun k hk => ?_⟩
  · rw [prodW_points (by omega) d3, ← Int.natCast_mul, wrap64 (by omega) (by omega), hl]
  · have := mall_all (p := fun x => 0 ≤ x ∧ x ≤ 65535) (sz := dsz S) (V := V) (sm := sm) (out := dout o) (points (dsz S)) (fun m hm k => mval_ok d1 d3 hV hm k) ((ddat S o V sm).getD k 0) (by
      rw [List.getD_eq_getElem?_getD, List.getElem?_eq_getElem hk]
      exact List.getElem_mem hk)
    exact this
theorem take_blk (da : List Int) (m n : Nat) : da.take (n * m) ++ blk da m n = da.take ((n + 1) * m) := by
  unfold blk
  rw [Nat.add_mul, Nat.one_mul, List.take_add]
theorem index_ok {sz : List Int} {m : Nat} {da : List Int} (h : Right sz m da) {n : Nat} (hn : n < points sz) : Inx sz (outD sz n sz.length) ∧ pl sz m (outD sz n sz.length) = ((n * m : Nat) : Int) := by
  have hR := h
  obtain ⟨h1, h4, o1, o4, hs, _, hd, _⟩ := h
  have hp := points_eq fun i hi => (hs i hi).1
  obtain ⟨hv, he⟩ := outD_spec (n := n) hs (by omega) (by omega)
  refine ⟨⟨outD_length sz n sz.length, fun i hi => by have := hv i hi; omega⟩, ?_⟩
  have := (place_ok hR hv).1
  rw [he, Int.toNat_natCast, Int.toNat_natCast] at this
  exact this
end Go.Proofs.Ytndigibhmfegaaa.V

/-
  Four grids, as one row of cells.
-/
set_option linter.unusedSimpArgs false
set_option linter.unusedVariables false
set_option maxHeartbeats 4000000
namespace Go.Proofs.Ytndigibhmfegaaa.V
open Go Go.Proofs Go.RowKit

/-- A grid's cells; those of four. -/
abbrev Gr := List Int × Int × List Int
def c3 (g : Gr) : List D := [.sl g.1.length (ints .i64 g.1), .sc (.int .i64 g.2.1), .sl g.2.2.length (ints .i64 g.2.2)]
def C4 (G : Nat → Gr) : List D := c3 (G 0) ++ (c3 (G 1) ++ (c3 (G 2) ++ c3 (G 3)))
theorem C4_length (G : Nat → Gr) : (C4 G).length = 12 := rfl
theorem C4_one (G : Nat → Gr) : (C4 G).all one = true := rfl
theorem ix34 {G : Nat → Gr} {i : Nat} (h : i < 4) : vindex Try.prog 34 (.ag (C4 G)) (.sc (.int .i64 i)) = some (gr (G i).1 (G i).2.1 (G i).2.2) := by
  have : i = 0 ∨ i = 1 ∨ i = 2 ∨ i = 3 := by omega
  rcases this with rfl | rfl | rfl | rfl <;> (simp only [vindex, Try.underlying34, k24, z24, a24]; rfl)
theorem c3_renL (θ : Nat → Option Nat) (g : Gr) : renL θ (c3 g) = c3 g := by
  simp only [c3, renL, ren, ints_renL]
theorem renL_app (θ : Nat → Option Nat) (a b : List D) : renL θ (a ++ b) = renL θ a ++ renL θ b := by rw [renL_eq_map, renL_eq_map, renL_eq_map, List.map_append]
theorem C4_renL (θ : Nat → Option Nat) (G : Nat → Gr) : renL θ (C4 G) = C4 G := by
  simp only [C4, renL_app, c3_renL]
theorem C4_splice {cs : List D} {G : Nat → Gr} (h : cs.length ≤ 12) : splice cs 0 (C4 G) = C4 G := splice_all (by rw [C4_length]; exact h)
theorem C4_take (G : Nat → Gr) : (C4 G).take 12 = C4 G := rfl
attribute [go_sem] C4_length C4_one ix34 C4_renL C4_splice C4_take
theorem con11G (sz : List Int) (o : Int) (da S : List Int) (o1 : Int) (V : List Int) (sm : Bool) (w1 : Int) (a1 : Nat) (N1 w2 : Int) (a2 : Nat) (N2 : Int) (h1 : a1 ≤ 255) (h2 : a2 ≤ 255) (hS : Bd 255 S) (ho : 0 ≤ o1 ∧ o1 ≤ 255) (hV : Bd 65535 V) :
    ∃ G : Nat → Gr, G 0 = (dsz S, (dout o1 : Int), ddat S o1 V sm) ∧ Con Try.prog 11 [gr sz o da, dr S o1 V sm, .ag [.sc (.int .u8 w1), .sc (.int .u8 a1), .sc (.int .i64 N1), .sc (.int .u8 w2), .sc (.int .u8 a2), .sc (.int .i64 N2)]] (.ag (C4 G)) [] := by
  obtain ⟨z2, p2, d2, z3, p3, d3, z4, p4, d4, h⟩ := con11 sz o da S o1 V sm w1 a1 N1 w2 a2 N2 h1 h2 hS ho hV
  exact ⟨fun i => match i with | 0 => (dsz S, (dout o1 : Int), ddat S o1 V sm) | 1 => (z2, p2, d2) | 2 => (z3, p3, d3) | _ => (z4, p4, d4), rfl, h⟩


end Go.Proofs.Ytndigibhmfegaaa.V

