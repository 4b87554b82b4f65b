/-
  Facts of this seat's rows.
-/
import Derived.Test.YtndigibhmfegaaaKB5
import Derived.Test.YtndigibhmfegaaaRows
set_option linter.unusedSimpArgs false
set_option linter.unusedVariables false
namespace Go.Proofs.Ytndigibhmfegaaa
open Go.ChangeShapes

theorem own : ownKnob Try.prog.godebug = none := by kernel_rfl
theorem kids : Kids Try.prog (· < Try.prog.types.size) := kids_rows (by kernel_rfl) (by kernel_rfl)
theorem full : ∀ t e, t < Try.prog.types.size → Try.prog.underlying t = some (.slice e) → 0 < Try.prog.cellsOf e := slices_full_of Try.prog (by kernel_rfl)
end Go.Proofs.Ytndigibhmfegaaa

/-
  The statement GridOrder, walked.
-/
set_option linter.unusedSimpArgs false
set_option linter.unusedVariables false
set_option maxHeartbeats 4000000
namespace Go.Proofs.Ytndigibhmfegaaa.V
open Go Go.Proofs Go.RowKit

theorem con5 (S : List Int) (o : Int) (V : List Int) (sm : Bool) (hS : Bd 255 S) (ho : 0 ≤ o ∧ o ≤ 255) (hV : Bd 65535 V) : Con Try.prog 5 [dr S o V sm] (.sc (.bool true)) [] := by
  have c23 := con23 S o V sm hS ho hV
  have hR := draft_right (sm := sm) hS ho hV
  obtain ⟨sz, hsz⟩ : ∃ x, x = dsz S := ⟨_, rfl⟩
  obtain ⟨m, hm⟩ : ∃ x, x = dout o := ⟨_, rfl⟩
  obtain ⟨da, hda⟩ : ∃ x, x = ddat S o V sm := ⟨_, rfl⟩
  rw [← hsz, ← hm, ← hda] at c23 hR
  have hl := hR.lenN
  have c25 := con25t hR
  have hR' := hR
  obtain ⟨hz1, h4, o1, o4, hs, _, hd, _⟩ := hR'
  have hp := points_le h4 hs
  refine Con.of_body [(0, dr S o V sm)] Try.func5 rfl ca5 70 rfl (by simp) rfl ?_; refine T_of_R ?_
  refine go ?_
  refine call (con10) ?_
  refine go ?_
  refine cnd (fun h => ?_) (fun h => ?_)
  · cases h
  · refine go ?_
    refine callf (c23) ?_
    refine go ?_
    refine R_loop (fun n : Nat => ⟨tl [(3, .pt 0 0), (4, shD 1 (da.take (n * m))), (5, .sc (.int .i64 n))], ol ([(0, ⟨[.sl sz.length (ints .i64 sz), .sc (.int .i64 m), .sl da.length (ints .i64 da)], 24, 0, false⟩)] ++ shO 1 (da.take (n * m))), 2, [], 70⟩) (fun n => n ≤ points sz) (fun n => points sz - n) 0 [1] (Less.mk' (by simp (disch := (first | omega | (simp only [go_sem, ↓reduceIte, Nat.reduceEqDiff, Nat.reduceAdd, Nat.reduceMul, Nat.reduceSub, Nat.reduceLT, Nat.reduceLeDiff, Nat.reduceBNe, Nat.reduceBEq, Int.reduceToNat, Int.reduceAdd, Int.reduceSub, Int.reduceMul, Int.reduceLT, Int.reduceLE, Int.reduceNeg, Int.reduceBEq, Int.reduceBNe, Int.reduceEq, beq_self_eq_true, reduceCtorEq, decide_true, decide_false, if_pos, if_neg]; first | done | omega))) only [go_sem, ↓reduceIte, Nat.reduceEqDiff, Nat.reduceAdd, Nat.reduceMul, Nat.reduceSub, Nat.reduceLT, Nat.reduceLeDiff, Nat.reduceBNe, Nat.reduceBEq, Int.reduceToNat, Int.reduceAdd, Int.reduceSub, Int.reduceMul, Int.reduceLT, Int.reduceLE, Int.reduceNeg, Int.reduceBEq, Int.reduceBNe, Int.reduceEq, beq_self_eq_true, reduceCtorEq, decide_true, decide_false, if_pos, if_neg, shD, shO]) (by simp (disch := (first | omega | (simp only [go_sem, ↓reduceIte, Nat.reduceEqDiff, Nat.reduceAdd, Nat.reduceMul, Nat.reduceSub, Nat.reduceLT, Nat.reduceLeDiff, Nat.reduceBNe, Nat.reduceBEq, Int.reduceToNat, Int.reduceAdd, Int.reduceSub, Int.reduceMul, Int.reduceLT, Int.reduceLE, Int.reduceNeg, Int.reduceBEq, Int.reduceBNe, Int.reduceEq, beq_self_eq_true, reduceCtorEq, decide_true, decide_false, if_pos, if_neg]; first | done | omega))) only [go_sem, ↓reduceIte, Nat.reduceEqDiff, Nat.reduceAdd, Nat.reduceMul, Nat.reduceSub, Nat.reduceLT, Nat.reduceLeDiff, Nat.reduceBNe, Nat.reduceBEq, Int.reduceToNat, Int.reduceAdd, Int.reduceSub, Int.reduceMul, Int.reduceLT, Int.reduceLE, Int.reduceNeg, Int.reduceBEq, Int.reduceBNe, Int.reduceEq, beq_self_eq_true, reduceCtorEq, decide_true, decide_false, if_pos, if_neg, shD, shO]) (by decide) (by decide)) (by omega) fun n hn => ?_
    have hnm : n * m ≤ points sz * m := Nat.mul_le_mul_right m hn
    have htl : (da.take (n * m)).length = n * m := by rw [List.length_take]; omega
    generalize hal : da.take (n * m) = al at htl ⊢
    by_cases hy : al.length = 0
    · simp only [shD, shO, hy, ↓reduceIte, List.cons_append, List.nil_append, List.append_nil]
      have hy' : al = [] := List.length_eq_zero_iff.1 hy
      refine go ?_
      refine cnd (fun h => ?_) (fun h => ?_)
      · simp only [decide_eq_true_eq, decide_eq_false_iff_not, Bool.or_eq_true, Bool.and_eq_true, Bool.or_eq_false_iff, Bool.and_eq_false_iff, Bool.not_eq_true', Bool.not_eq_false', bne_iff_ne, beq_iff_eq, ne_eq, bne_eq_false_iff_eq, beq_eq_false_iff_ne, ge_iff_le, gt_iff_lt, Int.not_le, Int.not_lt] at h
        have hn : n < points sz := by
          refine Classical.byContradiction fun hc => ?_
          have := Nat.mul_le_mul_right m (Nat.le_of_not_lt hc)
          omega
        obtain ⟨i1, i2⟩ := index_ok hR hn
        have ib := blk_ok hl hn
        have hol := i1.1
        have c24 := con24 sz n hz1 h4 hs (by omega) (by omega)
        have c13 := con13 sz m da _ hR i1
        rw [i2, i1.1, ← htl] at c13
        have c13 : Con Try.prog 13 [gr sz m da, .sl sz.length (ints .i64 (outD sz n sz.length))] (.tp [.sc (.int .i64 0), .sc (.int .i64 0)]) [] := by rw [hy] at c13; exact c13
        have c15 := con15D sz m da _ hR i1 (n * m) i2 (by omega)
        rw [i1.1] at c15
        have hm0 : m ≠ 0 := by omega
        have hbl : ((da.drop (n * m)).take m).length = m := by simp; omega
        have hmin : min m (da.length - n * m) = m := by omega
        have hnext : da.take ((n + 1) * m) = al ++ (da.drop (n * m)).take m := by rw [← hal, ← take_blk]; rfl
        have ey : al.length + m ≠ 0 := by omega
        refine go ?_
        refine callo (c24) ?_
        refine go ?_
        refine call (c13) ?_
        refine go ?_
        refine callz (c15) (by simp (disch := (first | omega | (simp only [go_sem, ↓reduceIte, Nat.reduceEqDiff, Nat.reduceAdd, Nat.reduceMul, Nat.reduceSub, Nat.reduceLT, Nat.reduceLeDiff, Nat.reduceBNe, Nat.reduceBEq, Int.reduceToNat, Int.reduceAdd, Int.reduceSub, Int.reduceMul, Int.reduceLT, Int.reduceLE, Int.reduceNeg, Int.reduceBEq, Int.reduceBNe, Int.reduceEq, beq_self_eq_true, reduceCtorEq, decide_true, decide_false, if_pos, if_neg]; first | done | omega))) only [go_sem, ↓reduceIte, Nat.reduceEqDiff, Nat.reduceAdd, Nat.reduceMul, Nat.reduceSub, Nat.reduceLT, Nat.reduceLeDiff, Nat.reduceBNe, Nat.reduceBEq, Int.reduceToNat, Int.reduceAdd, Int.reduceSub, Int.reduceMul, Int.reduceLT, Int.reduceLE, Int.reduceNeg, Int.reduceBEq, Int.reduceBNe, Int.reduceEq, beq_self_eq_true, reduceCtorEq, decide_true, decide_false, if_pos, if_neg, closed, closedL, hbl, hm0]) ?_
        refine gon ?_
        refine cnd (fun h => ?_) (fun h => ?_)
        · cases h
        · refine go ?_
          refine R_nilR ⟨[0, 3], _, ?_, n + 1, hn, by omega, rfl⟩
          exact Less.mk' (by simp (disch := (first | omega | (simp only [go_sem, ↓reduceIte, Nat.reduceEqDiff, Nat.reduceAdd, Nat.reduceMul, Nat.reduceSub, Nat.reduceLT, Nat.reduceLeDiff, Nat.reduceBNe, Nat.reduceBEq, Int.reduceToNat, Int.reduceAdd, Int.reduceSub, Int.reduceMul, Int.reduceLT, Int.reduceLE, Int.reduceNeg, Int.reduceBEq, Int.reduceBNe, Int.reduceEq, beq_self_eq_true, reduceCtorEq, decide_true, decide_false, if_pos, if_neg]; first | done | omega))) only [go_sem, ↓reduceIte, Nat.reduceEqDiff, Nat.reduceAdd, Nat.reduceMul, Nat.reduceSub, Nat.reduceLT, Nat.reduceLeDiff, Nat.reduceBNe, Nat.reduceBEq, Int.reduceToNat, Int.reduceAdd, Int.reduceSub, Int.reduceMul, Int.reduceLT, Int.reduceLE, Int.reduceNeg, Int.reduceBEq, Int.reduceBNe, Int.reduceEq, beq_self_eq_true, reduceCtorEq, decide_true, decide_false, if_pos, if_neg, hnext, shD, shO, hy', hmin, ey]) (by simp (disch := (first | omega | (simp only [go_sem, ↓reduceIte, Nat.reduceEqDiff, Nat.reduceAdd, Nat.reduceMul, Nat.reduceSub, Nat.reduceLT, Nat.reduceLeDiff, Nat.reduceBNe, Nat.reduceBEq, Int.reduceToNat, Int.reduceAdd, Int.reduceSub, Int.reduceMul, Int.reduceLT, Int.reduceLE, Int.reduceNeg, Int.reduceBEq, Int.reduceBNe, Int.reduceEq, beq_self_eq_true, reduceCtorEq, decide_true, decide_false, if_pos, if_neg]; first | done | omega))) only [go_sem, ↓reduceIte, Nat.reduceEqDiff, Nat.reduceAdd, Nat.reduceMul, Nat.reduceSub, Nat.reduceLT, Nat.reduceLeDiff, Nat.reduceBNe, Nat.reduceBEq, Int.reduceToNat, Int.reduceAdd, Int.reduceSub, Int.reduceMul, Int.reduceLT, Int.reduceLE, Int.reduceNeg, Int.reduceBEq, Int.reduceBNe, Int.reduceEq, beq_self_eq_true, reduceCtorEq, decide_true, decide_false, if_pos, if_neg, hnext, shD, shO, hy', hmin, ey]) (by decide) (by decide)
      · simp only [decide_eq_true_eq, decide_eq_false_iff_not, Bool.or_eq_true, Bool.and_eq_true, Bool.or_eq_false_iff, Bool.and_eq_false_iff, Bool.not_eq_true', Bool.not_eq_false', bne_iff_ne, beq_iff_eq, ne_eq, bne_eq_false_iff_eq, beq_eq_false_iff_ne, ge_iff_le, gt_iff_lt, Int.not_le, Int.not_lt] at h
        exfalso
        have := Nat.mul_le_mul hp.1 (show 1 ≤ m by omega)
        omega
    · simp only [shD, shO, hy, ↓reduceIte, List.cons_append, List.nil_append, List.append_nil]
      have hy' : al.length ≠ 0 := hy
      refine go ?_
      refine cnd (fun h => ?_) (fun h => ?_)
      · simp only [decide_eq_true_eq, decide_eq_false_iff_not, Bool.or_eq_true, Bool.and_eq_true, Bool.or_eq_false_iff, Bool.and_eq_false_iff, Bool.not_eq_true', Bool.not_eq_false', bne_iff_ne, beq_iff_eq, ne_eq, bne_eq_false_iff_eq, beq_eq_false_iff_ne, ge_iff_le, gt_iff_lt, Int.not_le, Int.not_lt] at h
        have hn : n < points sz := by
          refine Classical.byContradiction fun hc => ?_
          have := Nat.mul_le_mul_right m (Nat.le_of_not_lt hc)
          omega
        obtain ⟨i1, i2⟩ := index_ok hR hn
        have ib := blk_ok hl hn
        have hol := i1.1
        have c24 := con24 sz n hz1 h4 hs (by omega) (by omega)
        have c13 := con13 sz m da _ hR i1
        rw [i2, i1.1, ← htl] at c13
  
        have c15 := con15D sz m da _ hR i1 (n * m) i2 (by omega)
        rw [i1.1] at c15
        have hm0 : m ≠ 0 := by omega
        have hbl : ((da.drop (n * m)).take m).length = m := by simp; omega
        have hmin : min m (da.length - n * m) = m := by omega
        have hnext : da.take ((n + 1) * m) = al ++ (da.drop (n * m)).take m := by rw [← hal, ← take_blk]; rfl
        have ey : al.length + m ≠ 0 := by omega
        refine go ?_
        refine callo (c24) ?_
        refine go ?_
        refine call (c13) ?_
        refine go ?_
        refine callz (c15) (by simp (disch := (first | omega | (simp only [go_sem, ↓reduceIte, Nat.reduceEqDiff, Nat.reduceAdd, Nat.reduceMul, Nat.reduceSub, Nat.reduceLT, Nat.reduceLeDiff, Nat.reduceBNe, Nat.reduceBEq, Int.reduceToNat, Int.reduceAdd, Int.reduceSub, Int.reduceMul, Int.reduceLT, Int.reduceLE, Int.reduceNeg, Int.reduceBEq, Int.reduceBNe, Int.reduceEq, beq_self_eq_true, reduceCtorEq, decide_true, decide_false, if_pos, if_neg]; first | done | omega))) only [go_sem, ↓reduceIte, Nat.reduceEqDiff, Nat.reduceAdd, Nat.reduceMul, Nat.reduceSub, Nat.reduceLT, Nat.reduceLeDiff, Nat.reduceBNe, Nat.reduceBEq, Int.reduceToNat, Int.reduceAdd, Int.reduceSub, Int.reduceMul, Int.reduceLT, Int.reduceLE, Int.reduceNeg, Int.reduceBEq, Int.reduceBNe, Int.reduceEq, beq_self_eq_true, reduceCtorEq, decide_true, decide_false, if_pos, if_neg, closed, closedL, hbl, hm0]) ?_
        refine gon ?_
        refine cnd (fun h => ?_) (fun h => ?_)
        · cases h
        · refine go ?_
          refine R_nilR ⟨[0, 3], _, ?_, n + 1, hn, by omega, rfl⟩
          exact Less.mk' (by simp (disch := (first | omega | (simp only [go_sem, ↓reduceIte, Nat.reduceEqDiff, Nat.reduceAdd, Nat.reduceMul, Nat.reduceSub, Nat.reduceLT, Nat.reduceLeDiff, Nat.reduceBNe, Nat.reduceBEq, Int.reduceToNat, Int.reduceAdd, Int.reduceSub, Int.reduceMul, Int.reduceLT, Int.reduceLE, Int.reduceNeg, Int.reduceBEq, Int.reduceBNe, Int.reduceEq, beq_self_eq_true, reduceCtorEq, decide_true, decide_false, if_pos, if_neg]; first | done | omega))) only [go_sem, ↓reduceIte, Nat.reduceEqDiff, Nat.reduceAdd, Nat.reduceMul, Nat.reduceSub, Nat.reduceLT, Nat.reduceLeDiff, Nat.reduceBNe, Nat.reduceBEq, Int.reduceToNat, Int.reduceAdd, Int.reduceSub, Int.reduceMul, Int.reduceLT, Int.reduceLE, Int.reduceNeg, Int.reduceBEq, Int.reduceBNe, Int.reduceEq, beq_self_eq_true, reduceCtorEq, decide_true, decide_false, if_pos, if_neg, hnext, shD, shO, hy', hmin, ey]) (by simp (disch := (first | omega | (simp only [go_sem, ↓reduceIte, Nat.reduceEqDiff, Nat.reduceAdd, Nat.reduceMul, Nat.reduceSub, Nat.reduceLT, Nat.reduceLeDiff, Nat.reduceBNe, Nat.reduceBEq, Int.reduceToNat, Int.reduceAdd, Int.reduceSub, Int.reduceMul, Int.reduceLT, Int.reduceLE, Int.reduceNeg, Int.reduceBEq, Int.reduceBNe, Int.reduceEq, beq_self_eq_true, reduceCtorEq, decide_true, decide_false, if_pos, if_neg]; first | done | omega))) only [go_sem, ↓reduceIte, Nat.reduceEqDiff, Nat.reduceAdd, Nat.reduceMul, Nat.reduceSub, Nat.reduceLT, Nat.reduceLeDiff, Nat.reduceBNe, Nat.reduceBEq, Int.reduceToNat, Int.reduceAdd, Int.reduceSub, Int.reduceMul, Int.reduceLT, Int.reduceLE, Int.reduceNeg, Int.reduceBEq, Int.reduceBNe, Int.reduceEq, beq_self_eq_true, reduceCtorEq, decide_true, decide_false, if_pos, if_neg, hnext, shD, shO, hy', hmin, ey]) (by decide) (by decide)
      · simp only [decide_eq_true_eq, decide_eq_false_iff_not, Bool.or_eq_true, Bool.and_eq_true, Bool.or_eq_false_iff, Bool.and_eq_false_iff, Bool.not_eq_true', Bool.not_eq_false', bne_iff_ne, beq_iff_eq, ne_eq, bne_eq_false_iff_eq, beq_eq_false_iff_ne, ge_iff_le, gt_iff_lt, Int.not_le, Int.not_lt] at h
        have hall : al = da := by rw [← hal]; exact List.take_of_length_le (by omega)
        subst hall
        refine go ?_
        refine call (c25) ?_
        refine gon ?_
        refine call (w17 al) ?_
        refine gon ?_
        refine R_ret (fin_of (ids := []) (by simp (disch := (first | omega | (simp only [go_sem, ↓reduceIte, Nat.reduceEqDiff, Nat.reduceAdd, Nat.reduceMul, Nat.reduceSub, Nat.reduceLT, Nat.reduceLeDiff, Nat.reduceBNe, Nat.reduceBEq, Int.reduceToNat, Int.reduceAdd, Int.reduceSub, Int.reduceMul, Int.reduceLT, Int.reduceLE, Int.reduceNeg, Int.reduceBEq, Int.reduceBNe, Int.reduceEq, beq_self_eq_true, reduceCtorEq, decide_true, decide_false, if_pos, if_neg]; first | done | omega))) only [go_sem, ↓reduceIte, Nat.reduceEqDiff, Nat.reduceAdd, Nat.reduceMul, Nat.reduceSub, Nat.reduceLT, Nat.reduceLeDiff, Nat.reduceBNe, Nat.reduceBEq, Int.reduceToNat, Int.reduceAdd, Int.reduceSub, Int.reduceMul, Int.reduceLT, Int.reduceLE, Int.reduceNeg, Int.reduceBEq, Int.reduceBNe, Int.reduceEq, beq_self_eq_true, reduceCtorEq, decide_true, decide_false, if_pos, if_neg] <;> rfl) (by simp (disch := (first | omega | (simp only [go_sem, ↓reduceIte, Nat.reduceEqDiff, Nat.reduceAdd, Nat.reduceMul, Nat.reduceSub, Nat.reduceLT, Nat.reduceLeDiff, Nat.reduceBNe, Nat.reduceBEq, Int.reduceToNat, Int.reduceAdd, Int.reduceSub, Int.reduceMul, Int.reduceLT, Int.reduceLE, Int.reduceNeg, Int.reduceBEq, Int.reduceBNe, Int.reduceEq, beq_self_eq_true, reduceCtorEq, decide_true, decide_false, if_pos, if_neg]; first | done | omega))) only [go_sem, ↓reduceIte, Nat.reduceEqDiff, Nat.reduceAdd, Nat.reduceMul, Nat.reduceSub, Nat.reduceLT, Nat.reduceLeDiff, Nat.reduceBNe, Nat.reduceBEq, Int.reduceToNat, Int.reduceAdd, Int.reduceSub, Int.reduceMul, Int.reduceLT, Int.reduceLE, Int.reduceNeg, Int.reduceBEq, Int.reduceBNe, Int.reduceEq, beq_self_eq_true, reduceCtorEq, decide_true, decide_false, if_pos, if_neg]) (by decide) (by simp (disch := (first | omega | (simp only [go_sem, ↓reduceIte, Nat.reduceEqDiff, Nat.reduceAdd, Nat.reduceMul, Nat.reduceSub, Nat.reduceLT, Nat.reduceLeDiff, Nat.reduceBNe, Nat.reduceBEq, Int.reduceToNat, Int.reduceAdd, Int.reduceSub, Int.reduceMul, Int.reduceLT, Int.reduceLE, Int.reduceNeg, Int.reduceBEq, Int.reduceBNe, Int.reduceEq, beq_self_eq_true, reduceCtorEq, decide_true, decide_false, if_pos, if_neg]; first | done | omega))) only [go_sem, ↓reduceIte, Nat.reduceEqDiff, Nat.reduceAdd, Nat.reduceMul, Nat.reduceSub, Nat.reduceLT, Nat.reduceLeDiff, Nat.reduceBNe, Nat.reduceBEq, Int.reduceToNat, Int.reduceAdd, Int.reduceSub, Int.reduceMul, Int.reduceLT, Int.reduceLE, Int.reduceNeg, Int.reduceBEq, Int.reduceBNe, Int.reduceEq, beq_self_eq_true, reduceCtorEq, decide_true, decide_false, if_pos, if_neg]))
end Go.Proofs.Ytndigibhmfegaaa.V

/-
  GridOrder: for every input the law returns true, and the input reads as it did.
-/
set_option maxRecDepth 100000
set_option maxHeartbeats 4000000
namespace Go.Proofs.Ytndigibhmfegaaa
open Go.ChangeShapes Go.WideShapes Go.ChangeAt Go.RowKit

theorem order_con : ∀ us : List V.D, us.length = Try.f5.params.size → (∀ (j : Nat) t a, Try.f5.params[j]? = some t → us[j]? = some a → V.ShapeV Try.prog 5 t a) → V.Con Try.prog 5 us (.sc (.bool true)) [] := by
  intro us hl h
  rw [Try.params5] at hl h
  obtain ⟨a, rfl⟩ := V.len1 hl
  obtain ⟨S, o1, W, sm, rfl, s1, s2, s3⟩ := V.sh_dr (h 0 28 a rfl rfl)
  exact V.con5 S o1 W sm s1 s2 s3

theorem order_lifted (os : Os) (started : os.Started) (H : Type) (enc : TypeId × Value → H) :
    ReturnsInHanded {} Try.checked os 5 .any (Rows.gridOrderSpec.pre6 enc Try.prog Try.f5 Rows.gridOrderRow.domain false) (Rows.gridOrderSpec.post enc Try.prog Try.f5 false true false false) := by
  refine returnsInHanded_of_change (C := Try.checked) own started (by kernel_rfl) Try.func5
    (ChangeSpec.witness6 (enc := enc) (C := Try.checked) false ⟨#[], #[.agg #[.slice none 0 0, .int .u8 0, .slice none 0 0, .bool false]], []⟩ 8 (by kernel_rfl) (by kernel_rfl) (by kernel_rfl) (by kernel_rfl)) ?_
  intro W base args ds gs before hval hW _ _
  exact V.law_post (n := 5) kids full (by kernel_rfl) rfl Try.underlying4 rfl (fun ds hd => by obtain ⟨a, rfl⟩ := V.len1 hd; rfl) order_con W base args ds gs before hval hW

theorem order_over : Rows.gridOrderRow.holds Try.pinned (OpenSpec.ofChange Rows.gridOrderSpec) :=
  OpenClaim.holds_of_wide 5 Try.f5 rfl rfl rfl rfl rfl rfl rfl ⟨rfl, rfl, rfl, rfl, rfl⟩ rfl rfl rfl rfl rfl (by kernel_rfl) Try.func5 (by kernel_rfl)
    (of_decide_eq_true (by kernel_rfl)) (by unfold Func.isWrapper; first | (rw [if_pos (by decide +kernel)]; kernel_rfl) | (rw [if_neg (by decide +kernel)]; exact ⟨rfl, rfl⟩))
    (fun os started H enc _ => order_lifted os started H enc)
theorem gridOrder_holds : Rows.GridOrderSaid := order_over
end Go.Proofs.Ytndigibhmfegaaa

