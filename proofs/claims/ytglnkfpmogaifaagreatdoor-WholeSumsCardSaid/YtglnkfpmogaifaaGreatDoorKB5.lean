/-
  The law's works: the chapter's examples.
-/
import Derived.Test.YtglnkfpmogaifaaGreatDoorKB4
set_option linter.unusedSimpArgs false
set_option linter.unusedVariables false
set_option linter.unusedSimpArgs false
set_option linter.unusedVariables false
set_option maxHeartbeats 16000000
set_option maxRecDepth 100000
namespace Go.Proofs.YtglnkfpmogaifaaGreatDoor.V
open Go Go.Proofs Go.RowKit Go.Lib

theorem closed_fn' (f : Fn) (a c : List D) : closed (.fn f a c) = (closedL a && closedL c) := rfl
attribute [go_sem] closed_fn'
theorem toldOf {z : Int} (t : List UInt8) (h : okT t = true) (e : numT t = z) : toldT z = t ∧ toldE z = 0 := by
  subst e
  obtain ⟨h1, h2⟩ := okT_num h
  obtain ⟨h3, h4⟩ := toldT_small h2
  exact ⟨h3.trans h1, h4⟩
def mil : List UInt8 := [49, 48, 48, 48, 48, 48, 48, 48, 48, 48, 48, 48, 48, 48, 48, 48, 48, 48, 48]
def mmil : List UInt8 := [45, 49, 48, 48, 48, 48, 48, 48, 48, 48, 48, 48, 48, 48, 48, 48, 48, 48, 48, 48]
def m36 : List UInt8 := [45, 49, 48, 48, 48, 48, 48, 48, 48, 48, 48, 48, 48, 48, 48, 48, 48, 48, 48, 48, 48, 48, 48, 48, 48, 48, 48, 48, 48, 48, 48, 48, 48, 48, 48, 48, 48, 48]
def minT : List UInt8 := [45, 57, 50, 50, 51, 51, 55, 50, 48, 51, 54, 56, 53, 52, 55, 55, 53, 56, 48, 56]
def overT : List UInt8 := [57, 50, 50, 51, 51, 55, 50, 48, 51, 54, 56, 53, 52, 55, 55, 53, 56, 48, 56]
theorem e1 : errW [48, 49, 55] = 10 := by decide
theorem e2 : errW [45, 48] = 10 := by decide
theorem e3 : errW [] = 10 := by decide
theorem e4 : errW [45, 49, 55] = 0 := by decide
theorem opOf {op : Int → Int → Int} {a b : List UInt8} (t : List UInt8) (h : ok2 a b = true) (ht : okT t = true) (e : numT t = op (numT a) (numT b)) : opT op a b = t ∧ opE op a b = 0 := by
  obtain ⟨h1, h2⟩ := toldOf t ht e
  exact ⟨(if_pos h).trans h1, (if_pos h).trans h2⟩
theorem itoaOf (t : List UInt8) (h : okT t = true) {z : Int} (e : numT t = z) : itoa z = t := by subst e; exact (okT_num h).1
theorem intOf1 {l : List UInt8} (h : okT l = true) (hi : inI (numT l)) : intV l = numT l ∧ intE l = 0 := ⟨if_pos ⟨h, hi⟩, by unfold intE; rw [if_pos h, if_pos hi]⟩
theorem intOf2 {l : List UInt8} (h : okT l = true) (hi : ¬ inI (numT l)) : intV l = 0 ∧ intE l = 6 := ⟨if_neg (fun hc => hi hc.2), by unfold intE; rw [if_pos h, if_neg hi]⟩
theorem wOf : Con Tryz.prog 23 [.sc (.int .i64 (-9223372036854775808))] (tx minT) [] := by
  have h := cOf (n := -9223372036854775808) (by decide) (by decide)
  rwa [itoaOf minT (by decide) (by decide)] at h
theorem wInt1 : Con Tryz.prog 24 [tx minT] (.tp [.sc (.int .i64 (-9223372036854775808)), .sc (.int .i64 0)]) [] := by
  have h := cInt minT
  have hn : numT minT = -9223372036854775808 := by decide
  have := intOf1 (l := minT) (by decide) (by rw [hn]; decide)
  rwa [this.1, this.2, hn] at h
theorem wInt2 : Con Tryz.prog 24 [tx overT] (.tp [.sc (.int .i64 0), .sc (.int .i64 6)]) [] := by
  have h := cInt overT
  have hn : numT overT = 9223372036854775808 := by decide
  have := intOf2 (l := overT) (by decide) (by rw [hn]; decide)
  rwa [this.1, this.2] at h
theorem wAdd : Con Tryz.prog 10 [tx [45, 53], tx [51]] (.tp [tx [45, 50], .sc (.int .i64 0)]) [] := by
  have h := cAdd [45, 53] [51]
  have := opOf (op := (· + ·)) (a := [45, 53]) (b := [51]) [45, 50] (by decide) (by decide) (by decide)
  rwa [this.1, this.2] at h
theorem wSub : Con Tryz.prog 11 [tx [51], tx [53]] (.tp [tx [45, 50], .sc (.int .i64 0)]) [] := by
  have h := cSub [51] [53]
  have := opOf (op := (· - ·)) (a := [51]) (b := [53]) [45, 50] (by decide) (by decide) (by decide)
  rwa [this.1, this.2] at h
theorem wMul : Con Tryz.prog 12 [tx mmil, tx mil] (.tp [tx m36, .sc (.int .i64 0)]) [] := by
  have h := cMul mmil mil
  have := opOf (op := (· * ·)) (a := mmil) (b := mil) m36 (by decide) (by decide) (by decide)
  rwa [this.1, this.2] at h
theorem wGcd1 : Con Tryz.prog 17 [tx [45, 49, 50], tx [49, 56]] (.tp [tx [54], .sc (.int .i64 0)]) [] := by
  have h := cGcd [45, 49, 50] [49, 56]
  have := opOf (op := gcdZ) (a := [45, 49, 50]) (b := [49, 56]) [54] (by decide) (by decide) (by decide)
  rwa [this.1, this.2] at h
theorem wGcd2 : Con Tryz.prog 17 [tx [48], tx [48]] (.tp [tx [48], .sc (.int .i64 0)]) [] := by
  have h := cGcd [48] [48]
  have := opOf (op := gcdZ) (a := [48]) (b := [48]) [48] (by decide) (by decide) (by decide)
  rwa [this.1, this.2] at h
theorem divOf {a b : List UInt8} (q r : List UInt8) (h : ok2 a b = true) (hb : numT b ≠ 0) (hq : okT q = true) (hr : okT r = true) (eq : numT q = numT a / numT b) (er : numT r = numT a % numT b) : divQ a b = q ∧ divR a b = r ∧ divE a b = 0 := by
  obtain ⟨h1, h2⟩ := toldOf q hq eq
  obtain ⟨h3, h4⟩ := toldOf r hr er
  refine ⟨(if_pos ⟨h, hb, h2⟩).trans h1, (if_pos ⟨h, hb, h2⟩).trans h3, ?_⟩
  unfold divE
  rw [if_pos h, if_neg hb, h2]
theorem wDiv1 : Con Tryz.prog 13 [tx [45, 55], tx [50]] (.tp [tx [45, 52], tx [49], .sc (.int .i64 0)]) [] := by
  have h := cDiv [45, 55] [50]
  have := divOf (a := [45, 55]) (b := [50]) [45, 52] [49] (by decide) (by decide) (by decide) (by decide) (by decide) (by decide)
  rwa [this.1, this.2.1, this.2.2] at h
theorem wDiv2 : Con Tryz.prog 13 [tx [55], tx [45, 50]] (.tp [tx [45, 51], tx [49], .sc (.int .i64 0)]) [] := by
  have h := cDiv [55] [45, 50]
  have := divOf (a := [55]) (b := [45, 50]) [45, 51] [49] (by decide) (by decide) (by decide) (by decide) (by decide) (by decide)
  rwa [this.1, this.2.1, this.2.2] at h
theorem wDiv3 : Con Tryz.prog 13 [tx [45, 55], tx [45, 50]] (.tp [tx [52], tx [49], .sc (.int .i64 0)]) [] := by
  have h := cDiv [45, 55] [45, 50]
  have := divOf (a := [45, 55]) (b := [45, 50]) [52] [49] (by decide) (by decide) (by decide) (by decide) (by decide) (by decide)
  rwa [this.1, this.2.1, this.2.2] at h
theorem wDiv0 : Con Tryz.prog 13 [tx [49], tx [48]] (.tp [tx [], tx [], .sc (.int .i64 7)]) [] := by
  have h := cDiv [49] [48]
  rwa [show divQ [49] [48] = [] from if_neg (fun hc => hc.2.1 (by decide)), show divR [49] [48] = [] from if_neg (fun hc => hc.2.1 (by decide)), show divE [49] [48] = 7 from by unfold divE; rw [if_pos (by decide), if_pos (by decide)]] at h
theorem wCmp : Con Tryz.prog 16 [tx [45, 49, 48], tx [57]] (.tp [.sc (.int .i64 (-1)), .sc (.int .i64 0)]) [] := by
  have h := cCmpW [45, 49, 48] [57]
  rwa [show cmpV [45, 49, 48] [57] = -1 by decide, show err2 [45, 49, 48] [57] = 0 by decide] at h
theorem wSign : Con Tryz.prog 15 [tx [48]] (.tp [.sc (.int .i64 0), .sc (.int .i64 0)]) [] := by
  have h := cSign [48]
  rwa [show sgnV [48] = 0 by decide, show errW [48] = 0 by decide] at h
theorem wPow1 : Con Tryz.prog 20 [tx [45, 51], .sc (.int .i64 3)] (.tp [tx [45, 50, 55], .sc (.int .i64 0)]) [] := by
  have h := cPow [45, 51] (n := 3) (by decide) (by decide)
  have := toldOf (z := numT [45, 51] ^ (3 : Int).toNat) [45, 50, 55] (by decide) (by decide)
  rwa [show powT [45, 51] 3 = toldT (numT [45, 51] ^ (3 : Int).toNat) from if_pos (by decide), show powE [45, 51] 3 = toldE (numT [45, 51] ^ (3 : Int).toNat) from by unfold powE; rw [if_pos (by decide), if_pos (by decide)], this.1, this.2] at h
theorem wPow2 : Con Tryz.prog 20 [tx [48], .sc (.int .i64 0)] (.tp [tx [49], .sc (.int .i64 0)]) [] := by
  have h := cPow [48] (n := 0) (by decide) (by decide)
  have := toldOf (z := numT [48] ^ (0 : Int).toNat) [49] (by decide) (by decide)
  rwa [show powT [48] 0 = toldT (numT [48] ^ (0 : Int).toNat) from if_pos (by decide), show powE [48] 0 = toldE (numT [48] ^ (0 : Int).toNat) from by unfold powE; rw [if_pos (by decide), if_pos (by decide)], this.1, this.2] at h
theorem wPow3 : Con Tryz.prog 20 [tx [50], .sc (.int .i64 41)] (.tp [tx [], .sc (.int .i64 2)]) [] := by
  have h := cPow [50] (n := 41) (by decide) (by decide)
  rwa [show powT [50] 41 = [] from if_neg (by decide), show powE [50] 41 = 2 from by unfold powE; rw [if_pos (by decide), if_neg (by decide)]] at h
theorem wRoot1 : Con Tryz.prog 19 [tx [56, 48], .sc (.int .i64 4)] (.tp [tx [50], .sc (.int .i64 0)]) [] := by
  have h := cRootW [56, 48] (k := 4) (by decide) (by decide)
  have hr : rtN [56, 48] 4 = 2 := by
    unfold rtN
    rw [show rootN (numT [56, 48]).natAbs (4 : Int).toNat = 2 from rootN_eq (by decide) (by decide) (by decide)]
    rfl
  have := toldOf (z := rtN [56, 48] 4) [50] (by decide) (by rw [hr]; decide)
  rwa [show rtT [56, 48] 4 = toldT (rtN [56, 48] 4) from if_pos (by decide), show rtE [56, 48] 4 = toldE (rtN [56, 48] 4) from by unfold rtE; rw [if_pos (by decide), if_pos (by decide)], this.1, this.2] at h
theorem wRoot2 : Con Tryz.prog 19 [tx [56, 49], .sc (.int .i64 4)] (.tp [tx [51], .sc (.int .i64 0)]) [] := by
  have h := cRootW [56, 49] (k := 4) (by decide) (by decide)
  have hr : rtN [56, 49] 4 = 3 := by
    unfold rtN
    rw [show rootN (numT [56, 49]).natAbs (4 : Int).toNat = 3 from rootN_eq (by decide) (by decide) (by decide)]
    rfl
  have := toldOf (z := rtN [56, 49] 4) [51] (by decide) (by rw [hr]; decide)
  rwa [show rtT [56, 49] 4 = toldT (rtN [56, 49] 4) from if_pos (by decide), show rtE [56, 49] 4 = toldE (rtN [56, 49] 4) from by unfold rtE; rw [if_pos (by decide), if_pos (by decide)], this.1, this.2] at h
theorem wRoot3 : Con Tryz.prog 19 [tx [45, 49], .sc (.int .i64 1)] (.tp [tx [], .sc (.int .i64 2)]) [] := by
  have h := cRootW [45, 49] (k := 1) (by decide) (by decide)
  rwa [show rtT [45, 49] 1 = [] from if_neg (by decide), show rtE [45, 49] 1 = 2 from by unfold rtE; rw [if_pos (by decide), if_neg (by decide)]] at h
theorem wRoot4 : Con Tryz.prog 19 [tx [53], .sc (.int .i64 13)] (.tp [tx [], .sc (.int .i64 2)]) [] := by
  have h := cRootW [53] (k := 13) (by decide) (by decide)
  rwa [show rtT [53] 13 = [] from if_neg (by decide), show rtE [53] 13 = 2 from by unfold rtE; rw [if_pos (by decide), if_neg (by decide)]] at h
theorem cWorks : Con Tryz.prog 8 [] (.sc (.bool true)) [] := by
  have c1 := cCheck' [48, 49, 55]
  have c2 := cCheck' [45, 48]
  have c3 := cCheck' []
  have c4 := cCheck' [45, 49, 55]
  rw [e1] at c1; rw [e2] at c2; rw [e3] at c3; rw [e4] at c4
  have hmil : D.sc (Value.string { data := #[49, 48, 48, 48, 48, 48, 48, 48, 48, 48, 48, 48, 48, 48, 48, 48, 48, 48, 48] }) = tx mil := rfl
  have hmin : decide (minT = [45, 57, 50, 50, 51, 51, 55, 50, 48, 51, 54, 56, 53, 52, 55, 55, 53, 56, 48, 56]) = true := by decide
  refine Con.of_body [] Tryz.func8 rfl ca8 175 rfl (by simp) rfl ?_; refine T_of_R ?_
  repeat (refine R_seq ?_)
  refine R_regionS ?_
  refine SR_cut 1 (by simp only [List.take_succ_cons, List.take_zero]; rfl) (by simp only [List.drop_succ_cons, List.drop_zero]; rfl) (by decide) ?_
  refine gon ?_
  refine SR_less (st' := ⟨tl [], ol [], 0, [], 175⟩) (ids := []) lessA ?_
  refine SR_run (vs_nil ?_)
  repeat (refine R_seq ?_)
  refine R_regionS ?_
  refine SR_cut 1 (by simp only [List.take_succ_cons, List.take_zero]; rfl) (by simp only [List.drop_succ_cons, List.drop_zero]; rfl) (by decide) ?_
  refine gon ?_
  refine SR_less (st' := ⟨tl [(1, tx mil)], ol [], 0, [], 175⟩) (ids := []) (Less.mk' (by simp (disch := (first | omega | (simp only [go_sem, ↓reduceIte, Nat.reduceEqDiff, Nat.reduceAdd, Nat.reduceMul, Nat.reduceSub, Nat.reduceLT, Nat.reduceLeDiff, Nat.reduceBNe, Nat.reduceBEq, Int.reduceToNat, Int.reduceAdd, Int.reduceSub, Int.reduceMul, Int.reduceLT, Int.reduceLE, Int.reduceNeg, Int.reduceBEq, Int.reduceBNe, Int.reduceEq, beq_self_eq_true, reduceCtorEq, decide_true, decide_false, if_pos, if_neg]; first | done | omega))) only [go_sem, ↓reduceIte, Nat.reduceEqDiff, Nat.reduceAdd, Nat.reduceMul, Nat.reduceSub, Nat.reduceLT, Nat.reduceLeDiff, Nat.reduceBNe, Nat.reduceBEq, Int.reduceToNat, Int.reduceAdd, Int.reduceSub, Int.reduceMul, Int.reduceLT, Int.reduceLE, Int.reduceNeg, Int.reduceBEq, Int.reduceBNe, Int.reduceEq, beq_self_eq_true, reduceCtorEq, decide_true, decide_false, if_pos, if_neg, hmil]) (by simp (disch := (first | omega | (simp only [go_sem, ↓reduceIte, Nat.reduceEqDiff, Nat.reduceAdd, Nat.reduceMul, Nat.reduceSub, Nat.reduceLT, Nat.reduceLeDiff, Nat.reduceBNe, Nat.reduceBEq, Int.reduceToNat, Int.reduceAdd, Int.reduceSub, Int.reduceMul, Int.reduceLT, Int.reduceLE, Int.reduceNeg, Int.reduceBEq, Int.reduceBNe, Int.reduceEq, beq_self_eq_true, reduceCtorEq, decide_true, decide_false, if_pos, if_neg]; first | done | omega))) only [go_sem, ↓reduceIte, Nat.reduceEqDiff, Nat.reduceAdd, Nat.reduceMul, Nat.reduceSub, Nat.reduceLT, Nat.reduceLeDiff, Nat.reduceBNe, Nat.reduceBEq, Int.reduceToNat, Int.reduceAdd, Int.reduceSub, Int.reduceMul, Int.reduceLT, Int.reduceLE, Int.reduceNeg, Int.reduceBEq, Int.reduceBNe, Int.reduceEq, beq_self_eq_true, reduceCtorEq, decide_true, decide_false, if_pos, if_neg, hmil]) (by decide) (by decide)) ?_
  refine SR_run (vs_nil ?_)
  repeat (refine R_seq ?_)
  refine R_regionS ?_
  refine SR_cut 3 (by simp only [List.take_succ_cons, List.take_zero]; rfl) (by simp only [List.drop_succ_cons, List.drop_zero]; rfl) (by decide) ?_
  refine gon ?_
  refine call (c1) ?_
  refine gon ?_
  refine SR_less (st' := ⟨tl [(1, tx mil), (8, .sc (.bool true))], ol [], 0, [], 175⟩) (ids := []) lessA ?_
  refine SR_cut 4 (by simp only [List.take_succ_cons, List.take_zero]; rfl) (by simp only [List.drop_succ_cons, List.drop_zero]; rfl) (by decide) ?_
  refine gon ?_
  refine call (c2) ?_
  refine gon ?_
  refine SR_less (st' := ⟨tl [(1, tx mil), (12, .sc (.bool true))], ol [], 0, [], 175⟩) (ids := []) lessA ?_
  refine SR_cut 4 (by simp only [List.take_succ_cons, List.take_zero]; rfl) (by simp only [List.drop_succ_cons, List.drop_zero]; rfl) (by decide) ?_
  refine gon ?_
  refine call (c3) ?_
  refine gon ?_
  refine SR_less (st' := ⟨tl [(1, tx mil), (16, .sc (.bool true))], ol [], 0, [], 175⟩) (ids := []) lessA ?_
  refine SR_cut 4 (by simp only [List.take_succ_cons, List.take_zero]; rfl) (by simp only [List.drop_succ_cons, List.drop_zero]; rfl) (by decide) ?_
  refine gon ?_
  refine call (c4) ?_
  refine gon ?_
  refine SR_less (st' := ⟨tl [(1, tx mil), (20, .sc (.bool true))], ol [], 0, [], 175⟩) (ids := []) lessA ?_
  refine SR_cut 4 (by simp only [List.take_succ_cons, List.take_zero]; rfl) (by simp only [List.drop_succ_cons, List.drop_zero]; rfl) (by decide) ?_
  refine gon ?_
  refine call (wOf) ?_
  refine gon ?_
  refine SR_less (st' := ⟨tl [(1, tx mil), (24, .sc (.bool true))], ol [], 0, [], 175⟩) (ids := []) (Less.mk' (by simp (disch := (first | omega | (simp only [go_sem, ↓reduceIte, Nat.reduceEqDiff, Nat.reduceAdd, Nat.reduceMul, Nat.reduceSub, Nat.reduceLT, Nat.reduceLeDiff, Nat.reduceBNe, Nat.reduceBEq, Int.reduceToNat, Int.reduceAdd, Int.reduceSub, Int.reduceMul, Int.reduceLT, Int.reduceLE, Int.reduceNeg, Int.reduceBEq, Int.reduceBNe, Int.reduceEq, beq_self_eq_true, reduceCtorEq, decide_true, decide_false, if_pos, if_neg]; first | done | omega))) only [go_sem, ↓reduceIte, Nat.reduceEqDiff, Nat.reduceAdd, Nat.reduceMul, Nat.reduceSub, Nat.reduceLT, Nat.reduceLeDiff, Nat.reduceBNe, Nat.reduceBEq, Int.reduceToNat, Int.reduceAdd, Int.reduceSub, Int.reduceMul, Int.reduceLT, Int.reduceLE, Int.reduceNeg, Int.reduceBEq, Int.reduceBNe, Int.reduceEq, beq_self_eq_true, reduceCtorEq, decide_true, decide_false, if_pos, if_neg, hmin]) (by simp (disch := (first | omega | (simp only [go_sem, ↓reduceIte, Nat.reduceEqDiff, Nat.reduceAdd, Nat.reduceMul, Nat.reduceSub, Nat.reduceLT, Nat.reduceLeDiff, Nat.reduceBNe, Nat.reduceBEq, Int.reduceToNat, Int.reduceAdd, Int.reduceSub, Int.reduceMul, Int.reduceLT, Int.reduceLE, Int.reduceNeg, Int.reduceBEq, Int.reduceBNe, Int.reduceEq, beq_self_eq_true, reduceCtorEq, decide_true, decide_false, if_pos, if_neg]; first | done | omega))) only [go_sem, ↓reduceIte, Nat.reduceEqDiff, Nat.reduceAdd, Nat.reduceMul, Nat.reduceSub, Nat.reduceLT, Nat.reduceLeDiff, Nat.reduceBNe, Nat.reduceBEq, Int.reduceToNat, Int.reduceAdd, Int.reduceSub, Int.reduceMul, Int.reduceLT, Int.reduceLE, Int.reduceNeg, Int.reduceBEq, Int.reduceBNe, Int.reduceEq, beq_self_eq_true, reduceCtorEq, decide_true, decide_false, if_pos, if_neg, hmin]) (by decide) (by decide)) ?_
  refine SR_cut 7 (by simp only [List.take_succ_cons, List.take_zero]; rfl) (by simp only [List.drop_succ_cons, List.drop_zero]; rfl) (by decide) ?_
  refine gon ?_
  refine callo (cSays (-9223372036854775808)) ?_
  refine gon ?_
  refine call (wInt1) ?_
  refine gon ?_
  refine call (cSays1 (-9223372036854775808) (-9223372036854775808) 0) ?_
  refine gon ?_
  refine SR_less (st' := ⟨tl [(1, tx mil), (31, .sc (.bool true))], ol [], 0, [], 175⟩) (ids := []) lessA ?_
  refine SR_cut 7 (by simp only [List.take_succ_cons, List.take_zero]; rfl) (by simp only [List.drop_succ_cons, List.drop_zero]; rfl) (by decide) ?_
  refine gon ?_
  refine callo (cStops 6) ?_
  refine gon ?_
  refine call (wInt2) ?_
  refine gon ?_
  refine call (cStops1 6 0 6) ?_
  refine gon ?_
  refine SR_less (st' := ⟨tl [(1, tx mil), (2, .sc (.bool true))], ol [], 0, [], 175⟩) (ids := []) lessA ?_
  refine SR_run (vs_nil ?_)
  repeat (refine R_seq ?_)
  refine R_regionS ?_
  refine SR_cut 9 (by simp only [List.take_succ_cons, List.take_zero]; rfl) (by simp only [List.drop_succ_cons, List.drop_zero]; rfl) (by decide) ?_
  refine gon ?_
  refine callo (cIs [45, 50]) ?_
  refine gon ?_
  refine call (wAdd) ?_
  refine gon ?_
  refine call (cIs1 [45, 50] [45, 50] 0) ?_
  refine gon ?_
  refine SR_less (st' := ⟨tl [(1, tx mil), (46, .sc (.bool true))], ol [], 0, [], 175⟩) (ids := []) lessA ?_
  refine SR_cut 7 (by simp only [List.take_succ_cons, List.take_zero]; rfl) (by simp only [List.drop_succ_cons, List.drop_zero]; rfl) (by decide) ?_
  refine gon ?_
  refine callo (cIs [45, 50]) ?_
  refine gon ?_
  refine call (wSub) ?_
  refine gon ?_
  refine call (cIs1 [45, 50] [45, 50] 0) ?_
  refine gon ?_
  refine SR_less (st' := ⟨tl [(1, tx mil), (53, .sc (.bool true))], ol [], 0, [], 175⟩) (ids := []) lessA ?_
  refine SR_cut 10 (by simp only [List.take_succ_cons, List.take_zero]; rfl) (by simp only [List.drop_succ_cons, List.drop_zero]; rfl) (by decide) ?_
  refine gon ?_
  refine callo (cIs m36) ?_
  refine gon ?_
  refine call (wMul) ?_
  refine gon ?_
  refine call (cIs1 m36 m36 0) ?_
  refine gon ?_
  refine SR_less (st' := ⟨tl [(63, .sc (.bool true))], ol [], 0, [], 175⟩) (ids := []) lessA ?_
  refine SR_cut 8 (by simp only [List.take_succ_cons, List.take_zero]; rfl) (by simp only [List.drop_succ_cons, List.drop_zero]; rfl) (by decide) ?_
  refine gon ?_
  refine callo (cPartsW [45, 52] [49]) ?_
  refine gon ?_
  refine call (wDiv1) ?_
  refine gon ?_
  refine call (cParts1 [45, 52] [49] [45, 52] [49] 0) ?_
  refine gon ?_
  refine SR_less (st' := ⟨tl [(71, .sc (.bool true))], ol [], 0, [], 175⟩) (ids := []) lessA ?_
  refine SR_cut 8 (by simp only [List.take_succ_cons, List.take_zero]; rfl) (by simp only [List.drop_succ_cons, List.drop_zero]; rfl) (by decide) ?_
  refine gon ?_
  refine callo (cPartsW [45, 51] [49]) ?_
  refine gon ?_
  refine call (wDiv2) ?_
  refine gon ?_
  refine call (cParts1 [45, 51] [49] [45, 51] [49] 0) ?_
  refine gon ?_
  refine SR_less (st' := ⟨tl [(79, .sc (.bool true))], ol [], 0, [], 175⟩) (ids := []) lessA ?_
  refine SR_cut 8 (by simp only [List.take_succ_cons, List.take_zero]; rfl) (by simp only [List.drop_succ_cons, List.drop_zero]; rfl) (by decide) ?_
  refine gon ?_
  refine callo (cPartsW [52] [49]) ?_
  refine gon ?_
  refine call (wDiv3) ?_
  refine gon ?_
  refine call (cParts1 [52] [49] [52] [49] 0) ?_
  refine gon ?_
  refine SR_less (st' := ⟨tl [(2, .sc (.bool true))], ol [], 0, [], 175⟩) (ids := []) lessA ?_
  refine SR_run (vs_nil ?_)
  repeat (refine R_seq ?_)
  refine R_regionS ?_
  refine SR_cut 8 (by simp only [List.take_succ_cons, List.take_zero]; rfl) (by simp only [List.drop_succ_cons, List.drop_zero]; rfl) (by decide) ?_
  refine gon ?_
  refine call (wDiv0) ?_
  refine gon ?_
  refine SR_less (st' := ⟨tl [(2, .sc (.bool true)), (5, .sc (.int .i64 7))], ol [], 0, [], 175⟩) (ids := []) lessA ?_
  refine SR_run (vs_nil ?_)
  repeat (refine R_seq ?_)
  refine R_regionS ?_
  refine SR_cut 6 (by simp only [List.take_succ_cons, List.take_zero]; rfl) (by simp only [List.drop_succ_cons, List.drop_zero]; rfl) (by decide) ?_
  refine gon ?_
  refine SR_less (st' := ⟨tl [(97, .sc (.bool true))], ol [], 0, [], 175⟩) (ids := []) lessA ?_
  refine SR_cut 7 (by simp only [List.take_succ_cons, List.take_zero]; rfl) (by simp only [List.drop_succ_cons, List.drop_zero]; rfl) (by decide) ?_
  refine gon ?_
  refine callo (cIs [54]) ?_
  refine gon ?_
  refine call (wGcd1) ?_
  refine gon ?_
  refine call (cIs1 [54] [54] 0) ?_
  refine gon ?_
  refine SR_less (st' := ⟨tl [(104, .sc (.bool true))], ol [], 0, [], 175⟩) (ids := []) lessA ?_
  refine SR_cut 7 (by simp only [List.take_succ_cons, List.take_zero]; rfl) (by simp only [List.drop_succ_cons, List.drop_zero]; rfl) (by decide) ?_
  refine gon ?_
  refine callo (cIs [48]) ?_
  refine gon ?_
  refine call (wGcd2) ?_
  refine gon ?_
  refine call (cIs1 [48] [48] 0) ?_
  refine gon ?_
  refine SR_less (st' := ⟨tl [(111, .sc (.bool true))], ol [], 0, [], 175⟩) (ids := []) lessA ?_
  refine SR_cut 7 (by simp only [List.take_succ_cons, List.take_zero]; rfl) (by simp only [List.drop_succ_cons, List.drop_zero]; rfl) (by decide) ?_
  refine gon ?_
  refine callo (cSays (-1)) ?_
  refine gon ?_
  refine call (wCmp) ?_
  refine gon ?_
  refine call (cSays1 (-1) (-1) 0) ?_
  refine gon ?_
  refine SR_less (st' := ⟨tl [(118, .sc (.bool true))], ol [], 0, [], 175⟩) (ids := []) lessA ?_
  refine SR_cut 7 (by simp only [List.take_succ_cons, List.take_zero]; rfl) (by simp only [List.drop_succ_cons, List.drop_zero]; rfl) (by decide) ?_
  refine gon ?_
  refine callo (cSays 0) ?_
  refine gon ?_
  refine call (wSign) ?_
  refine gon ?_
  refine call (cSays1 0 0 0) ?_
  refine gon ?_
  refine SR_less (st' := ⟨tl [(2, .sc (.bool true))], ol [], 0, [], 175⟩) (ids := []) lessA ?_
  refine SR_run (vs_nil ?_)
  repeat (refine R_seq ?_)
  refine R_regionS ?_
  refine SR_cut 9 (by simp only [List.take_succ_cons, List.take_zero]; rfl) (by simp only [List.drop_succ_cons, List.drop_zero]; rfl) (by decide) ?_
  refine gon ?_
  refine callo (cIs [45, 50, 55]) ?_
  refine gon ?_
  refine call (wPow1) ?_
  refine gon ?_
  refine call (cIs1 [45, 50, 55] [45, 50, 55] 0) ?_
  refine gon ?_
  refine SR_less (st' := ⟨tl [(133, .sc (.bool true))], ol [], 0, [], 175⟩) (ids := []) lessA ?_
  refine SR_cut 7 (by simp only [List.take_succ_cons, List.take_zero]; rfl) (by simp only [List.drop_succ_cons, List.drop_zero]; rfl) (by decide) ?_
  refine gon ?_
  refine callo (cIs [49]) ?_
  refine gon ?_
  refine call (wPow2) ?_
  refine gon ?_
  refine call (cIs1 [49] [49] 0) ?_
  refine gon ?_
  refine SR_less (st' := ⟨tl [(140, .sc (.bool true))], ol [], 0, [], 175⟩) (ids := []) lessA ?_
  refine SR_cut 7 (by simp only [List.take_succ_cons, List.take_zero]; rfl) (by simp only [List.drop_succ_cons, List.drop_zero]; rfl) (by decide) ?_
  refine gon ?_
  refine callo (cFails 2) ?_
  refine gon ?_
  refine call (wPow3) ?_
  refine gon ?_
  refine call (cFails1 2 2 []) ?_
  refine gon ?_
  refine SR_less (st' := ⟨tl [(147, .sc (.bool true))], ol [], 0, [], 175⟩) (ids := []) lessA ?_
  refine SR_cut 7 (by simp only [List.take_succ_cons, List.take_zero]; rfl) (by simp only [List.drop_succ_cons, List.drop_zero]; rfl) (by decide) ?_
  refine gon ?_
  refine callo (cIs [50]) ?_
  refine gon ?_
  refine call (wRoot1) ?_
  refine gon ?_
  refine call (cIs1 [50] [50] 0) ?_
  refine gon ?_
  refine SR_less (st' := ⟨tl [(154, .sc (.bool true))], ol [], 0, [], 175⟩) (ids := []) lessA ?_
  refine SR_cut 7 (by simp only [List.take_succ_cons, List.take_zero]; rfl) (by simp only [List.drop_succ_cons, List.drop_zero]; rfl) (by decide) ?_
  refine gon ?_
  refine callo (cIs [51]) ?_
  refine gon ?_
  refine call (wRoot2) ?_
  refine gon ?_
  refine call (cIs1 [51] [51] 0) ?_
  refine gon ?_
  refine SR_less (st' := ⟨tl [(161, .sc (.bool true))], ol [], 0, [], 175⟩) (ids := []) lessA ?_
  refine SR_cut 7 (by simp only [List.take_succ_cons, List.take_zero]; rfl) (by simp only [List.drop_succ_cons, List.drop_zero]; rfl) (by decide) ?_
  refine gon ?_
  refine callo (cFails 2) ?_
  refine gon ?_
  refine call (wRoot3) ?_
  refine gon ?_
  refine call (cFails1 2 2 []) ?_
  refine gon ?_
  refine SR_less (st' := ⟨tl [(168, .sc (.bool true))], ol [], 0, [], 175⟩) (ids := []) lessA ?_
  refine SR_cut 7 (by simp only [List.take_succ_cons, List.take_zero]; rfl) (by simp only [List.drop_succ_cons, List.drop_zero]; rfl) (by decide) ?_
  refine gon ?_
  refine callo (cFails 2) ?_
  refine gon ?_
  refine call (wRoot4) ?_
  refine gon ?_
  refine call (cFails1 2 2 []) ?_
  refine gon ?_
  refine SR_less (st' := ⟨tl [(0, .sc (.bool true))], ol [], 0, [], 175⟩) (ids := []) lessA ?_
  refine SR_run (vs_nil ?_)
  refine R_ret (finA [])
end Go.Proofs.YtglnkfpmogaifaaGreatDoor.V

/-
  The reference's numbers: lists of digits to the base 10^4; cut, made.
-/
set_option linter.unusedSimpArgs false
set_option linter.unusedVariables false
set_option maxHeartbeats 4000000
namespace Go.Proofs.YtglnkfpmogaifaaGreatDoor.V
open Go Go.Proofs Go.RowKit Go.Lib

abbrev BQ : Nat := 10000
theorem BQ2 : 2 ≤ BQ := by decide
abbrev isl (L : List Int) : D := .sl L.length (ints .i64 L)
abbrev is (n : Nat) : D := isl (dig BQ n)
abbrev lq (n : Nat) : Nat := (dig BQ n).length
/-- A number of the reference's. -/
abbrev pl (z : Int) : D := .ag [.sc (.bool (decide (z < 0))), is z.natAbs]
/-- With a sign. -/
def sg (b : Bool) (n : Nat) : Int := if b then -(n : Int) else n
theorem sg_abs (b : Bool) (n : Nat) : (sg b n).natAbs = n := by cases b <;> simp [sg]
theorem sg_neg (b : Bool) (n : Nat) : decide (sg b n < 0) = (b && decide ((lq n : Int) > 0)) := by
  have h : (lq n : Int) > 0 ↔ n ≠ 0 := by
    have := dig_length_zero (n := n) BQ2
    unfold lq
    constructor
    · intro h hn; have := this.2 hn; omega
    · intro hn; have : ¬ (dig BQ n).length = 0 := fun e => hn (this.1 e); omega
  cases b
  · simp [sg]
  · by_cases hn : n = 0
    · subst hn
      have : ¬ (lq 0 : Int) > 0 := fun e => h.1 e rfl
      rw [decide_eq_false this]
      simp [sg]
    · have : (lq n : Int) > 0 := h.2 hn
      simp only [sg, if_true, Bool.true_and, decide_eq_true this, decide_eq_true_eq]
      omega
theorem Dg.toQ {L : List Int} (h : Dg BQ L) (i : Nat) : 0 ≤ L.getD i 0 ∧ L.getD i 0 < 10000 := by
  have := h.all (by decide) i
  simpa using this
theorem dgQ (n : Nat) (i : Nat) : 0 ≤ (dig BQ n).getD i 0 ∧ (dig BQ n).getD i 0 < 10000 := (dg_dig BQ2 n).toQ i
theorem cut_ofQ {L : List Int} {n : Nat} (h : Dg BQ L) (hv : val BQ L = n) : cutI L = dig BQ n := (h.dig' BQ2 hv).symm
theorem dg_ofQ {L : List Int} (h : ∀ j, j < L.length → 0 ≤ L.getD j 0 ∧ L.getD j 0 < 10000) : Dg BQ L := fun j hj => by
  have := h j hj
  simpa using this

theorem rCut (L : List Int) : Con Tryz.prog 88 [isl L] (isl (cutI L)) [] := by
  refine Con.of_body [(0, isl L)] Tryz.func88 rfl ca88 21 rfl (by simp) rfl ?_; refine T_of_R ?_
  refine go ?_
  refine R_sl 0 (by first | (simp (disch := (first | omega | (simp only [go_sem, ↓reduceIte, Nat.reduceEqDiff, Nat.reduceAdd, Nat.reduceMul, Nat.reduceSub, Nat.reduceLT, Nat.reduceLeDiff, Nat.reduceBNe, Nat.reduceBEq, Int.reduceToNat, Int.reduceAdd, Int.reduceSub, Int.reduceMul, Int.reduceLT, Int.reduceLE, Int.reduceNeg, Int.reduceBEq, Int.reduceBNe, Int.reduceEq, beq_self_eq_true, reduceCtorEq, decide_true, decide_false, if_pos, if_neg]; first | done | omega))) only [go_sem, ↓reduceIte, Nat.reduceEqDiff, Nat.reduceAdd, Nat.reduceMul, Nat.reduceSub, Nat.reduceLT, Nat.reduceLeDiff, Nat.reduceBNe, Nat.reduceBEq, Int.reduceToNat, Int.reduceAdd, Int.reduceSub, Int.reduceMul, Int.reduceLT, Int.reduceLE, Int.reduceNeg, Int.reduceBEq, Int.reduceBNe, Int.reduceEq, beq_self_eq_true, reduceCtorEq, decide_true, decide_false, if_pos, if_neg] <;> rfl) | fail) fun hn => ?_
  refine R_loop (fun n : Nat => ⟨tl [(0, isl L), (3, .sc (.int .i64 n))], ol [], 0, [], 21⟩) (fun n => n ≤ L.length ∧ ∀ i, n ≤ i → i < L.length → L.getD i 0 = 0) (fun n => n) L.length [] lessA ⟨Nat.le_refl _, fun i _ _ => by omega⟩ fun n hi => ?_
  have hx : (((n : Nat) : Int) - 1).toNat = n - 1 := by omega
  refine go ?_
  refine cnd (fun h => ?_) (fun h => ?_)
  · simp only [decide_eq_true_eq, decide_eq_false_iff_not, Bool.or_eq_true, Bool.and_eq_true, Bool.or_eq_false_iff, Bool.and_eq_false_iff, Bool.not_eq_true', Bool.not_eq_false', bne_iff_ne, beq_iff_eq, ne_eq, bne_eq_false_iff_eq, beq_eq_false_iff_ne, ge_iff_le, gt_iff_lt, Int.not_le, Int.not_lt] at h
    rw [hx] at h
    have hy : ((n : Int) - 1) = ((n - 1 : Nat) : Int) := by omega
    refine go ?_
    refine R_nilR ⟨[], _, ?_, n - 1, ⟨by omega, fun i h1 h2 => by
      by_cases e : i = n - 1
      · rw [e]; exact h.2
      · exact hi.2 i (by omega) h2⟩, by omega, rfl⟩; exact (Less.mk' (by simp (disch := (first | omega | (simp only [go_sem, ↓reduceIte, Nat.reduceEqDiff, Nat.reduceAdd, Nat.reduceMul, Nat.reduceSub, Nat.reduceLT, Nat.reduceLeDiff, Nat.reduceBNe, Nat.reduceBEq, Int.reduceToNat, Int.reduceAdd, Int.reduceSub, Int.reduceMul, Int.reduceLT, Int.reduceLE, Int.reduceNeg, Int.reduceBEq, Int.reduceBNe, Int.reduceEq, beq_self_eq_true, reduceCtorEq, decide_true, decide_false, if_pos, if_neg]; first | done | omega))) only [go_sem, ↓reduceIte, Nat.reduceEqDiff, Nat.reduceAdd, Nat.reduceMul, Nat.reduceSub, Nat.reduceLT, Nat.reduceLeDiff, Nat.reduceBNe, Nat.reduceBEq, Int.reduceToNat, Int.reduceAdd, Int.reduceSub, Int.reduceMul, Int.reduceLT, Int.reduceLE, Int.reduceNeg, Int.reduceBEq, Int.reduceBNe, Int.reduceEq, beq_self_eq_true, reduceCtorEq, decide_true, decide_false, if_pos, if_neg, hy]) (by simp (disch := (first | omega | (simp only [go_sem, ↓reduceIte, Nat.reduceEqDiff, Nat.reduceAdd, Nat.reduceMul, Nat.reduceSub, Nat.reduceLT, Nat.reduceLeDiff, Nat.reduceBNe, Nat.reduceBEq, Int.reduceToNat, Int.reduceAdd, Int.reduceSub, Int.reduceMul, Int.reduceLT, Int.reduceLE, Int.reduceNeg, Int.reduceBEq, Int.reduceBNe, Int.reduceEq, beq_self_eq_true, reduceCtorEq, decide_true, decide_false, if_pos, if_neg]; first | done | omega))) only [go_sem, ↓reduceIte, Nat.reduceEqDiff, Nat.reduceAdd, Nat.reduceMul, Nat.reduceSub, Nat.reduceLT, Nat.reduceLeDiff, Nat.reduceBNe, Nat.reduceBEq, Int.reduceToNat, Int.reduceAdd, Int.reduceSub, Int.reduceMul, Int.reduceLT, Int.reduceLE, Int.reduceNeg, Int.reduceBEq, Int.reduceBNe, Int.reduceEq, beq_self_eq_true, reduceCtorEq, decide_true, decide_false, if_pos, if_neg, hy]) (by decide) (by decide))
  · simp only [decide_eq_true_eq, decide_eq_false_iff_not, Bool.or_eq_true, Bool.and_eq_true, Bool.or_eq_false_iff, Bool.and_eq_false_iff, Bool.not_eq_true', Bool.not_eq_false', bne_iff_ne, beq_iff_eq, ne_eq, bne_eq_false_iff_eq, beq_eq_false_iff_ne, ge_iff_le, gt_iff_lt, Int.not_le, Int.not_lt] at h
    rw [hx] at h
    have e : cutI L = L.take n := cutI_take hi.1 hi.2 (by omega)
    by_cases h0 : n = 0
    · subst h0
      refine go ?_
      rw [e]
      refine R_ret (fin_of (ids := []) (by first | (simp (disch := (first | omega | (simp only [go_sem, ↓reduceIte, Nat.reduceEqDiff, Nat.reduceAdd, Nat.reduceMul, Nat.reduceSub, Nat.reduceLT, Nat.reduceLeDiff, Nat.reduceBNe, Nat.reduceBEq, Int.reduceToNat, Int.reduceAdd, Int.reduceSub, Int.reduceMul, Int.reduceLT, Int.reduceLE, Int.reduceNeg, Int.reduceBEq, Int.reduceBNe, Int.reduceEq, beq_self_eq_true, reduceCtorEq, decide_true, decide_false, if_pos, if_neg]; first | done | omega))) only [go_sem, ↓reduceIte, Nat.reduceEqDiff, Nat.reduceAdd, Nat.reduceMul, Nat.reduceSub, Nat.reduceLT, Nat.reduceLeDiff, Nat.reduceBNe, Nat.reduceBEq, Int.reduceToNat, Int.reduceAdd, Int.reduceSub, Int.reduceMul, Int.reduceLT, Int.reduceLE, Int.reduceNeg, Int.reduceBEq, Int.reduceBNe, Int.reduceEq, beq_self_eq_true, reduceCtorEq, decide_true, decide_false, if_pos, if_neg] <;> rfl) | fail) (by simp (disch := (first | omega | (simp only [go_sem, ↓reduceIte, Nat.reduceEqDiff, Nat.reduceAdd, Nat.reduceMul, Nat.reduceSub, Nat.reduceLT, Nat.reduceLeDiff, Nat.reduceBNe, Nat.reduceBEq, Int.reduceToNat, Int.reduceAdd, Int.reduceSub, Int.reduceMul, Int.reduceLT, Int.reduceLE, Int.reduceNeg, Int.reduceBEq, Int.reduceBNe, Int.reduceEq, beq_self_eq_true, reduceCtorEq, decide_true, decide_false, if_pos, if_neg]; first | done | omega))) only [go_sem, ↓reduceIte, Nat.reduceEqDiff, Nat.reduceAdd, Nat.reduceMul, Nat.reduceSub, Nat.reduceLT, Nat.reduceLeDiff, Nat.reduceBNe, Nat.reduceBEq, Int.reduceToNat, Int.reduceAdd, Int.reduceSub, Int.reduceMul, Int.reduceLT, Int.reduceLE, Int.reduceNeg, Int.reduceBEq, Int.reduceBNe, Int.reduceEq, beq_self_eq_true, reduceCtorEq, decide_true, decide_false, if_pos, if_neg, isl]) (by decide) (by simp (disch := (first | omega | (simp only [go_sem, ↓reduceIte, Nat.reduceEqDiff, Nat.reduceAdd, Nat.reduceMul, Nat.reduceSub, Nat.reduceLT, Nat.reduceLeDiff, Nat.reduceBNe, Nat.reduceBEq, Int.reduceToNat, Int.reduceAdd, Int.reduceSub, Int.reduceMul, Int.reduceLT, Int.reduceLE, Int.reduceNeg, Int.reduceBEq, Int.reduceBNe, Int.reduceEq, beq_self_eq_true, reduceCtorEq, decide_true, decide_false, if_pos, if_neg]; first | done | omega))) only [go_sem, ↓reduceIte, Nat.reduceEqDiff, Nat.reduceAdd, Nat.reduceMul, Nat.reduceSub, Nat.reduceLT, Nat.reduceLeDiff, Nat.reduceBNe, Nat.reduceBEq, Int.reduceToNat, Int.reduceAdd, Int.reduceSub, Int.reduceMul, Int.reduceLT, Int.reduceLE, Int.reduceNeg, Int.reduceBEq, Int.reduceBNe, Int.reduceEq, beq_self_eq_true, reduceCtorEq, decide_true, decide_false, if_pos, if_neg, isl]))
    · refine go ?_
      rw [e]
      have h1 : ¬ ((0 : Nat) = n) := by omega
      have h2 : min n L.length = n := by omega
      refine R_ret (fin_of (ids := []) (by first | (simp (disch := (first | omega | (simp only [go_sem, ↓reduceIte, Nat.reduceEqDiff, Nat.reduceAdd, Nat.reduceMul, Nat.reduceSub, Nat.reduceLT, Nat.reduceLeDiff, Nat.reduceBNe, Nat.reduceBEq, Int.reduceToNat, Int.reduceAdd, Int.reduceSub, Int.reduceMul, Int.reduceLT, Int.reduceLE, Int.reduceNeg, Int.reduceBEq, Int.reduceBNe, Int.reduceEq, beq_self_eq_true, reduceCtorEq, decide_true, decide_false, if_pos, if_neg]; first | done | omega))) only [go_sem, ↓reduceIte, Nat.reduceEqDiff, Nat.reduceAdd, Nat.reduceMul, Nat.reduceSub, Nat.reduceLT, Nat.reduceLeDiff, Nat.reduceBNe, Nat.reduceBEq, Int.reduceToNat, Int.reduceAdd, Int.reduceSub, Int.reduceMul, Int.reduceLT, Int.reduceLE, Int.reduceNeg, Int.reduceBEq, Int.reduceBNe, Int.reduceEq, beq_self_eq_true, reduceCtorEq, decide_true, decide_false, if_pos, if_neg] <;> rfl) | fail) (by simp (disch := (first | omega | (simp only [go_sem, ↓reduceIte, Nat.reduceEqDiff, Nat.reduceAdd, Nat.reduceMul, Nat.reduceSub, Nat.reduceLT, Nat.reduceLeDiff, Nat.reduceBNe, Nat.reduceBEq, Int.reduceToNat, Int.reduceAdd, Int.reduceSub, Int.reduceMul, Int.reduceLT, Int.reduceLE, Int.reduceNeg, Int.reduceBEq, Int.reduceBNe, Int.reduceEq, beq_self_eq_true, reduceCtorEq, decide_true, decide_false, if_pos, if_neg]; first | done | omega))) only [go_sem, ↓reduceIte, Nat.reduceEqDiff, Nat.reduceAdd, Nat.reduceMul, Nat.reduceSub, Nat.reduceLT, Nat.reduceLeDiff, Nat.reduceBNe, Nat.reduceBEq, Int.reduceToNat, Int.reduceAdd, Int.reduceSub, Int.reduceMul, Int.reduceLT, Int.reduceLE, Int.reduceNeg, Int.reduceBEq, Int.reduceBNe, Int.reduceEq, beq_self_eq_true, reduceCtorEq, decide_true, decide_false, if_pos, if_neg, h1, h2, isl, Nat.sub_zero]) (by decide) (by simp (disch := (first | omega | (simp only [go_sem, ↓reduceIte, Nat.reduceEqDiff, Nat.reduceAdd, Nat.reduceMul, Nat.reduceSub, Nat.reduceLT, Nat.reduceLeDiff, Nat.reduceBNe, Nat.reduceBEq, Int.reduceToNat, Int.reduceAdd, Int.reduceSub, Int.reduceMul, Int.reduceLT, Int.reduceLE, Int.reduceNeg, Int.reduceBEq, Int.reduceBNe, Int.reduceEq, beq_self_eq_true, reduceCtorEq, decide_true, decide_false, if_pos, if_neg]; first | done | omega))) only [go_sem, ↓reduceIte, Nat.reduceEqDiff, Nat.reduceAdd, Nat.reduceMul, Nat.reduceSub, Nat.reduceLT, Nat.reduceLeDiff, Nat.reduceBNe, Nat.reduceBEq, Int.reduceToNat, Int.reduceAdd, Int.reduceSub, Int.reduceMul, Int.reduceLT, Int.reduceLE, Int.reduceNeg, Int.reduceBEq, Int.reduceBNe, Int.reduceEq, beq_self_eq_true, reduceCtorEq, decide_true, decide_false, if_pos, if_neg, h1, h2, isl, Nat.sub_zero]))
theorem rCut' {L : List Int} {n v : Nat} (h : L.length = n) (hd : Dg BQ L) (hv : val BQ L = v) : Con Tryz.prog 88 [.sl n (ints .i64 L)] (is v) [] := by
  subst h
  have := rCut L
  rwa [cut_ofQ hd hv] at this
theorem rMade {L : List Int} {n v : Nat} {b : Bool} (h : L.length = n) (hd : Dg BQ L) (hv : val BQ L = v) : Con Tryz.prog 49 [.sc (.bool b), .sl n (ints .i64 L)] (pl (sg b v)) [] := by
  have hc := rCut' h hd hv
  have e : pl (sg b v) = .ag [.sc (.bool (b && decide ((lq v : Int) > 0))), is v] := by unfold pl; rw [sg_neg, sg_abs]
  rw [e]
  refine Con.of_body [(0, .sc (.bool b)), (1, .sl n (ints .i64 L))] Tryz.func49 rfl ca49 15 rfl (by simp) rfl ?_; refine T_of_R ?_
  refine go ?_
  refine callz (hc) ?_
  refine go ?_
  refine R_ret (finA [])
theorem rMade' {v : Nat} {b : Bool} : Con Tryz.prog 49 [.sc (.bool b), is v] (pl (sg b v)) [] := rMade rfl (dg_dig BQ2 v) (val_dig BQ2 v)
theorem rTurn (z : Int) : Con Tryz.prog 58 [pl z] (pl (-z)) [] := by
  have hc := rMade' (v := z.natAbs) (b := !decide (z < 0))
  have e : sg (!decide (z < 0)) z.natAbs = -z := by
    unfold sg
    by_cases h : z < 0
    · simp only [decide_eq_true h, Bool.not_true, Bool.false_eq_true, if_false]; omega
    · simp only [decide_eq_false h, Bool.not_false, if_true]; omega
  rw [e] at hc
  refine Con.of_body [(0, pl z)] Tryz.func58 rfl ca58 9 rfl (by simp) rfl ?_; refine T_of_R ?_
  refine go ?_
  refine callz (hc) ?_
  refine go ?_
  refine R_ret (finA [])
end Go.Proofs.YtglnkfpmogaifaaGreatDoor.V

/-
  The reference's sum.
-/
set_option linter.unusedSimpArgs false
set_option linter.unusedVariables false
set_option maxHeartbeats 8000000
namespace Go.Proofs.YtglnkfpmogaifaaGreatDoor.V
open Go Go.Proofs Go.RowKit Go.Lib

theorem dig_eq_of {B : Nat} (hB : 2 ≤ B) {S : List Int} {n : Nat} (hd : Dg B S) (hv : val B S = n) (hl : S.length ≤ (dig B n).length) : S = dig B n := by
  have h := hd.dig' hB hv
  rw [h] at hl ⊢
  obtain ⟨k, hk, ht⟩ : ∃ k, k ≤ S.length ∧ cutI S = S.take k := by
    clear h hv hd hl
    induction S with
    | nil => exact ⟨0, Nat.le_refl _, rfl⟩
    | cons x xs ih =>
      obtain ⟨k, hk, ht⟩ := ih
      by_cases h : cutI xs = [] ∧ x = 0
      · exact ⟨0, Nat.zero_le _, by simp [cutI, h]⟩
      · exact ⟨k + 1, by simp; omega, by rw [cutI, if_neg h, List.take_succ_cons, ← ht]⟩
  rw [ht, List.length_take] at hl
  rw [ht, List.take_of_length_le (by omega)]
theorem gtail {L : List Int} {i : Nat} (h : ¬ i < L.length) : L.getD i 0 = 0 := gout L i (by omega)
theorem powQ (i : Nat) : ((BQ ^ (i + 1) : Nat) : Int) = 10000 * ((BQ ^ i : Nat) : Int) := by
  rw [Nat.pow_succ, Int.natCast_mul, Int.mul_comm]
  rfl
/-- A list that begins as nil. -/
abbrev lsD (L : List Int) : D := if L.length = 0 then .em else .rf 0 0 L.length 1
abbrev lsO (L : List Int) : List (Nat × O) := if L.length = 0 then [] else [(0, ⟨ints .i64 L, 3, 1, false⟩)]
theorem tmod_nn {a b : Int} (h : 0 ≤ a) : a.tmod b = a % b := Int.tmod_eq_emod_of_nonneg h
theorem tdiv_nn {a b : Int} (h : 0 ≤ a) : a.tdiv b = a / b := Int.tdiv_eq_ediv_of_nonneg h

theorem R_em {P : Program} {ro : Option (Nat × Nat)} {t : Nat → D} {s : Sg} {nx n : Nat} {ds : List Deferred} {Q : Exit → St → Prop} {c : Code} {k : List Code} (j : Nat) (he : t j = .em)
    (h : R P ro (c :: k) ⟨upd t j (.sl 0 []), s, nx, ds, n⟩ Q) : R P ro (c :: k) ⟨t, s, nx, ds, n⟩ Q :=
  R_weak j (.sl 0 []) (fun X v hv => weak_em (by rw [he] at hv; exact hv)) h
theorem rSum {a b : Nat} (h : lq a + lq b ≤ 1000000000) : Con Tryz.prog 84 [is a, is b] (is (a + b)) [] := by
  obtain ⟨A, hA⟩ : ∃ A, A = dig BQ a := ⟨_, rfl⟩
  obtain ⟨B, hB⟩ : ∃ B, B = dig BQ b := ⟨_, rfl⟩
  have dA : Dg BQ A := hA ▸ dg_dig BQ2 a
  have dB : Dg BQ B := hB ▸ dg_dig BQ2 b
  have vA : val BQ A = a := hA ▸ val_dig BQ2 a
  have vB : val BQ B = b := hB ▸ val_dig BQ2 b
  have mA : A.length ≤ lq (a + b) := hA ▸ dig_mono BQ2 (by omega)
  have mB : B.length ≤ lq (a + b) := hB ▸ dig_mono BQ2 (by omega)
  unfold lq at h
  show Con _ _ [isl (dig BQ a), isl (dig BQ b)] _ _
  rw [← hA, ← hB] at h ⊢
  refine Con.of_bodyD [(0, isl A), (1, isl B)] Tryz.func84 rfl ca84 52 rfl (by simp) rfl ?_; refine T_of_R ?_
  refine go ?_
  refine R_sl 0 (by first | (simp (disch := (first | omega | (simp only [go_sem, ↓reduceIte, Nat.reduceEqDiff, Nat.reduceAdd, Nat.reduceMul, Nat.reduceSub, Nat.reduceLT, Nat.reduceLeDiff, Nat.reduceBNe, Nat.reduceBEq, Int.reduceToNat, Int.reduceAdd, Int.reduceSub, Int.reduceMul, Int.reduceLT, Int.reduceLE, Int.reduceNeg, Int.reduceBEq, Int.reduceBNe, Int.reduceEq, beq_self_eq_true, reduceCtorEq, decide_true, decide_false, if_pos, if_neg]; first | done | omega))) only [go_sem, ↓reduceIte, Nat.reduceEqDiff, Nat.reduceAdd, Nat.reduceMul, Nat.reduceSub, Nat.reduceLT, Nat.reduceLeDiff, Nat.reduceBNe, Nat.reduceBEq, Int.reduceToNat, Int.reduceAdd, Int.reduceSub, Int.reduceMul, Int.reduceLT, Int.reduceLE, Int.reduceNeg, Int.reduceBEq, Int.reduceBNe, Int.reduceEq, beq_self_eq_true, reduceCtorEq, decide_true, decide_false, if_pos, if_neg] <;> rfl) | fail) fun hn => ?_
  refine R_sl 1 (by first | (simp (disch := (first | omega | (simp only [go_sem, ↓reduceIte, Nat.reduceEqDiff, Nat.reduceAdd, Nat.reduceMul, Nat.reduceSub, Nat.reduceLT, Nat.reduceLeDiff, Nat.reduceBNe, Nat.reduceBEq, Int.reduceToNat, Int.reduceAdd, Int.reduceSub, Int.reduceMul, Int.reduceLT, Int.reduceLE, Int.reduceNeg, Int.reduceBEq, Int.reduceBNe, Int.reduceEq, beq_self_eq_true, reduceCtorEq, decide_true, decide_false, if_pos, if_neg]; first | done | omega))) only [go_sem, ↓reduceIte, Nat.reduceEqDiff, Nat.reduceAdd, Nat.reduceMul, Nat.reduceSub, Nat.reduceLT, Nat.reduceLeDiff, Nat.reduceBNe, Nat.reduceBEq, Int.reduceToNat, Int.reduceAdd, Int.reduceSub, Int.reduceMul, Int.reduceLT, Int.reduceLE, Int.reduceNeg, Int.reduceBEq, Int.reduceBNe, Int.reduceEq, beq_self_eq_true, reduceCtorEq, decide_true, decide_false, if_pos, if_neg] <;> rfl) | fail) fun hn' => ?_
  refine R_loop (fun p : Int × List Int => ⟨tl [(0, isl A), (1, isl B), (5, lsD p.2), (6, .sc (.int .i64 p.1)), (7, .sc (.int .i64 p.2.length))], ol (lsO p.2), 1, [], 52⟩)
    (fun p => 0 ≤ p.1 ∧ p.1 ≤ 1 ∧ (p.2.length ≤ max A.length B.length ∨ (p.2.length = max A.length B.length + 1 ∧ p.1 = 0)) ∧ Dg BQ p.2 ∧ val BQ p.2 + p.1 * ((BQ ^ p.2.length : Nat) : Int) = val BQ (A.take p.2.length) + val BQ (B.take p.2.length) ∧ p.2.length ≤ lq (a + b))
    (fun p => 2 * (max A.length B.length - p.2.length) + p.1.toNat) (0, []) [] (Less.mk' (by simp (disch := (first | omega | (simp only [go_sem, ↓reduceIte, Nat.reduceEqDiff, Nat.reduceAdd, Nat.reduceMul, Nat.reduceSub, Nat.reduceLT, Nat.reduceLeDiff, Nat.reduceBNe, Nat.reduceBEq, Int.reduceToNat, Int.reduceAdd, Int.reduceSub, Int.reduceMul, Int.reduceLT, Int.reduceLE, Int.reduceNeg, Int.reduceBEq, Int.reduceBNe, Int.reduceEq, beq_self_eq_true, reduceCtorEq, decide_true, decide_false, if_pos, if_neg]; first | done | omega))) only [go_sem, ↓reduceIte, Nat.reduceEqDiff, Nat.reduceAdd, Nat.reduceMul, Nat.reduceSub, Nat.reduceLT, Nat.reduceLeDiff, Nat.reduceBNe, Nat.reduceBEq, Int.reduceToNat, Int.reduceAdd, Int.reduceSub, Int.reduceMul, Int.reduceLT, Int.reduceLE, Int.reduceNeg, Int.reduceBEq, Int.reduceBNe, Int.reduceEq, beq_self_eq_true, reduceCtorEq, decide_true, decide_false, if_pos, if_neg, List.length_nil]) (by simp (disch := (first | omega | (simp only [go_sem, ↓reduceIte, Nat.reduceEqDiff, Nat.reduceAdd, Nat.reduceMul, Nat.reduceSub, Nat.reduceLT, Nat.reduceLeDiff, Nat.reduceBNe, Nat.reduceBEq, Int.reduceToNat, Int.reduceAdd, Int.reduceSub, Int.reduceMul, Int.reduceLT, Int.reduceLE, Int.reduceNeg, Int.reduceBEq, Int.reduceBNe, Int.reduceEq, beq_self_eq_true, reduceCtorEq, decide_true, decide_false, if_pos, if_neg]; first | done | omega))) only [go_sem, ↓reduceIte, Nat.reduceEqDiff, Nat.reduceAdd, Nat.reduceMul, Nat.reduceSub, Nat.reduceLT, Nat.reduceLeDiff, Nat.reduceBNe, Nat.reduceBEq, Int.reduceToNat, Int.reduceAdd, Int.reduceSub, Int.reduceMul, Int.reduceLT, Int.reduceLE, Int.reduceNeg, Int.reduceBEq, Int.reduceBNe, Int.reduceEq, beq_self_eq_true, reduceCtorEq, decide_true, decide_false, if_pos, if_neg, List.length_nil]) (by decide) (by decide)) ⟨by omega, by omega, .inl (Nat.zero_le _), dg_nil _, by simp [val], Nat.zero_le _⟩ fun p hi => ?_
  obtain ⟨c, S⟩ := p
  obtain ⟨i1, i2, i3, i4, i5, i6⟩ := hi
  simp only at i1 i2 i3 i4 i5 i6
  simp only
  have bA := dA.toQ S.length
  have bB := dB.toQ S.length
  have tA := val_take_succ' BQ A S.length
  have tB := val_take_succ' BQ B S.length
  have hp := powQ S.length
  have hstep : ∀ s : Int, s = c + A.getD S.length 0 + B.getD S.length 0 → (S.length < A.length ∨ S.length < B.length ∨ 0 < c) →
      (0 ≤ s / 10000 ∧ s / 10000 ≤ 1 ∧ ((S ++ [s % 10000]).length ≤ max A.length B.length ∨ ((S ++ [s % 10000]).length = max A.length B.length + 1 ∧ s / 10000 = 0)) ∧ Dg BQ (S ++ [s % 10000]) ∧ val BQ (S ++ [s % 10000]) + s / 10000 * ((BQ ^ (S ++ [s % 10000]).length : Nat) : Int) = val BQ (A.take (S ++ [s % 10000]).length) + val BQ (B.take (S ++ [s % 10000]).length) ∧ (S ++ [s % 10000]).length ≤ lq (a + b)) ∧
      2 * (max A.length B.length - (S ++ [s % 10000]).length) + (s / 10000).toNat < 2 * (max A.length B.length - S.length) + c.toNat := fun s hs hor => by
    have hlen : (S ++ [s % 10000]).length = S.length + 1 := by rw [List.length_append, List.length_singleton]
    have hz : A.length ≤ S.length → B.length ≤ S.length → s = c := fun h1 h2 => by rw [hs, gout A _ h1, gout B _ h2]; omega
    have hbig : ¬ S.length < A.length → ¬ S.length < B.length → S.length + 1 ≤ lq (a + b) := fun h1 h2 => by
      have c1 : c = 1 := by omega
      rw [List.take_of_length_le (by omega), List.take_of_length_le (by omega), vA, vB, c1, Int.one_mul] at i5
      have := i4.val_nonneg
      exact dig_length_gt BQ2 (k := S.length) (by omega)
    refine ⟨⟨by omega, by omega, ?_, i4.append (dg_ofQ fun j hj => ?_), ?_, ?_⟩, ?_⟩
    · rw [hlen]
      by_cases h1 : S.length < A.length
      · omega
      · by_cases h2 : S.length < B.length
        · omega
        · have := hz (by omega) (by omega)
          omega
    · rw [List.length_singleton] at hj
      obtain rfl : j = 0 := by omega
      simp only [List.getD_cons_zero]
      omega
    · rw [hlen, val_append, tA, tB, hp]
      simp only [val, Int.mul_zero, Int.add_zero]
      generalize ((BQ ^ S.length : Nat) : Int) = P at i5 ⊢
      have : s % 10000 + 10000 * (s / 10000) = s := Int.emod_add_mul_ediv s 10000
      generalize s % 10000 = r at this ⊢
      generalize s / 10000 = q at this ⊢
      grind
    · rw [hlen]
      by_cases h1 : S.length < A.length
      · omega
      · by_cases h2 : S.length < B.length
        · omega
        · exact hbig h1 h2
    · rw [hlen]
      by_cases h1 : S.length < A.length
      · omega
      · by_cases h2 : S.length < B.length
        · omega
        · have := hz (by omega) (by omega)
          omega
  by_cases hC : S.length = 0
  · obtain rfl : S = [] := List.length_eq_zero_iff.1 hC
    simp only [List.length_nil, ↓reduceIte] at hstep i3 bA bB ⊢
    refine go ?_
    refine cnd (fun h => ?_) (fun h => ?_)
    · simp only [decide_eq_true_eq, decide_eq_false_iff_not, Bool.or_eq_true, Bool.and_eq_true, Bool.or_eq_false_iff, Bool.and_eq_false_iff, Bool.not_eq_true', Bool.not_eq_false', bne_iff_ne, beq_iff_eq, ne_eq, bne_eq_false_iff_eq, beq_eq_false_iff_ne, ge_iff_le, gt_iff_lt, Int.not_le, Int.not_lt] at h
      refine go ?_
      refine cnd (fun h => ?_) (fun h => ?_)
      · simp only [decide_eq_true_eq, decide_eq_false_iff_not, Bool.or_eq_true, Bool.and_eq_true, Bool.or_eq_false_iff, Bool.and_eq_false_iff, Bool.not_eq_true', Bool.not_eq_false', bne_iff_ne, beq_iff_eq, ne_eq, bne_eq_false_iff_eq, beq_eq_false_iff_ne, ge_iff_le, gt_iff_lt, Int.not_le, Int.not_lt] at h
        refine go ?_
        refine cnd (fun h => ?_) (fun h => ?_)
        · simp only [decide_eq_true_eq, decide_eq_false_iff_not, Bool.or_eq_true, Bool.and_eq_true, Bool.or_eq_false_iff, Bool.and_eq_false_iff, Bool.not_eq_true', Bool.not_eq_false', bne_iff_ne, beq_iff_eq, ne_eq, bne_eq_false_iff_eq, beq_eq_false_iff_ne, ge_iff_le, gt_iff_lt, Int.not_le, Int.not_lt] at h
          refine go ?_
          rw [tmod_nn (a := c + A.getD 0 0 + B.getD 0 0) (by omega)]
          refine go ?_
          rw [tdiv_nn (a := c + A.getD 0 0 + B.getD 0 0) (by omega)]
          have hx := hstep (c + A.getD 0 0 + B.getD 0 0) (by rfl) (by omega)
          refine go ?_
          refine R_nilR ⟨[2], _, ?_, (_, _), hx.1, hx.2, rfl⟩; exact (Less.mk' (by simp (disch := (first | omega | (simp only [go_sem, ↓reduceIte, Nat.reduceEqDiff, Nat.reduceAdd, Nat.reduceMul, Nat.reduceSub, Nat.reduceLT, Nat.reduceLeDiff, Nat.reduceBNe, Nat.reduceBEq, Int.reduceToNat, Int.reduceAdd, Int.reduceSub, Int.reduceMul, Int.reduceLT, Int.reduceLE, Int.reduceNeg, Int.reduceBEq, Int.reduceBNe, Int.reduceEq, beq_self_eq_true, reduceCtorEq, decide_true, decide_false, if_pos, if_neg]; first | done | omega))) only [go_sem, ↓reduceIte, Nat.reduceEqDiff, Nat.reduceAdd, Nat.reduceMul, Nat.reduceSub, Nat.reduceLT, Nat.reduceLeDiff, Nat.reduceBNe, Nat.reduceBEq, Int.reduceToNat, Int.reduceAdd, Int.reduceSub, Int.reduceMul, Int.reduceLT, Int.reduceLE, Int.reduceNeg, Int.reduceBEq, Int.reduceBNe, Int.reduceEq, beq_self_eq_true, reduceCtorEq, decide_true, decide_false, if_pos, if_neg, List.length_nil, List.nil_append, ints_one, lsD, lsO, List.length_singleton]) (by simp (disch := (first | omega | (simp only [go_sem, ↓reduceIte, Nat.reduceEqDiff, Nat.reduceAdd, Nat.reduceMul, Nat.reduceSub, Nat.reduceLT, Nat.reduceLeDiff, Nat.reduceBNe, Nat.reduceBEq, Int.reduceToNat, Int.reduceAdd, Int.reduceSub, Int.reduceMul, Int.reduceLT, Int.reduceLE, Int.reduceNeg, Int.reduceBEq, Int.reduceBNe, Int.reduceEq, beq_self_eq_true, reduceCtorEq, decide_true, decide_false, if_pos, if_neg]; first | done | omega))) only [go_sem, ↓reduceIte, Nat.reduceEqDiff, Nat.reduceAdd, Nat.reduceMul, Nat.reduceSub, Nat.reduceLT, Nat.reduceLeDiff, Nat.reduceBNe, Nat.reduceBEq, Int.reduceToNat, Int.reduceAdd, Int.reduceSub, Int.reduceMul, Int.reduceLT, Int.reduceLE, Int.reduceNeg, Int.reduceBEq, Int.reduceBNe, Int.reduceEq, beq_self_eq_true, reduceCtorEq, decide_true, decide_false, if_pos, if_neg, List.length_nil, List.nil_append, ints_one, lsD, lsO, List.length_singleton]) (by decide) (by decide))
        · simp only [decide_eq_true_eq, decide_eq_false_iff_not, Bool.or_eq_true, Bool.and_eq_true, Bool.or_eq_false_iff, Bool.and_eq_false_iff, Bool.not_eq_true', Bool.not_eq_false', bne_iff_ne, beq_iff_eq, ne_eq, bne_eq_false_iff_eq, beq_eq_false_iff_ne, ge_iff_le, gt_iff_lt, Int.not_le, Int.not_lt] at h
          have z2 := gout B 0 (by omega)
          refine go ?_
          rw [tmod_nn (a := c + A.getD 0 0) (by omega)]
          refine go ?_
          rw [tdiv_nn (a := c + A.getD 0 0) (by omega)]
          have hx := hstep (c + A.getD 0 0) (by omega) (by omega)
          refine go ?_
          refine R_nilR ⟨[2], _, ?_, (_, _), hx.1, hx.2, rfl⟩; exact (Less.mk' (by simp (disch := (first | omega | (simp only [go_sem, ↓reduceIte, Nat.reduceEqDiff, Nat.reduceAdd, Nat.reduceMul, Nat.reduceSub, Nat.reduceLT, Nat.reduceLeDiff, Nat.reduceBNe, Nat.reduceBEq, Int.reduceToNat, Int.reduceAdd, Int.reduceSub, Int.reduceMul, Int.reduceLT, Int.reduceLE, Int.reduceNeg, Int.reduceBEq, Int.reduceBNe, Int.reduceEq, beq_self_eq_true, reduceCtorEq, decide_true, decide_false, if_pos, if_neg]; first | done | omega))) only [go_sem, ↓reduceIte, Nat.reduceEqDiff, Nat.reduceAdd, Nat.reduceMul, Nat.reduceSub, Nat.reduceLT, Nat.reduceLeDiff, Nat.reduceBNe, Nat.reduceBEq, Int.reduceToNat, Int.reduceAdd, Int.reduceSub, Int.reduceMul, Int.reduceLT, Int.reduceLE, Int.reduceNeg, Int.reduceBEq, Int.reduceBNe, Int.reduceEq, beq_self_eq_true, reduceCtorEq, decide_true, decide_false, if_pos, if_neg, List.length_nil, List.nil_append, ints_one, lsD, lsO, List.length_singleton]) (by simp (disch := (first | omega | (simp only [go_sem, ↓reduceIte, Nat.reduceEqDiff, Nat.reduceAdd, Nat.reduceMul, Nat.reduceSub, Nat.reduceLT, Nat.reduceLeDiff, Nat.reduceBNe, Nat.reduceBEq, Int.reduceToNat, Int.reduceAdd, Int.reduceSub, Int.reduceMul, Int.reduceLT, Int.reduceLE, Int.reduceNeg, Int.reduceBEq, Int.reduceBNe, Int.reduceEq, beq_self_eq_true, reduceCtorEq, decide_true, decide_false, if_pos, if_neg]; first | done | omega))) only [go_sem, ↓reduceIte, Nat.reduceEqDiff, Nat.reduceAdd, Nat.reduceMul, Nat.reduceSub, Nat.reduceLT, Nat.reduceLeDiff, Nat.reduceBNe, Nat.reduceBEq, Int.reduceToNat, Int.reduceAdd, Int.reduceSub, Int.reduceMul, Int.reduceLT, Int.reduceLE, Int.reduceNeg, Int.reduceBEq, Int.reduceBNe, Int.reduceEq, beq_self_eq_true, reduceCtorEq, decide_true, decide_false, if_pos, if_neg, List.length_nil, List.nil_append, ints_one, lsD, lsO, List.length_singleton]) (by decide) (by decide))
      · simp only [decide_eq_true_eq, decide_eq_false_iff_not, Bool.or_eq_true, Bool.and_eq_true, Bool.or_eq_false_iff, Bool.and_eq_false_iff, Bool.not_eq_true', Bool.not_eq_false', bne_iff_ne, beq_iff_eq, ne_eq, bne_eq_false_iff_eq, beq_eq_false_iff_ne, ge_iff_le, gt_iff_lt, Int.not_le, Int.not_lt] at h
        have z1 := gout A 0 (by omega)
        refine go ?_
        refine cnd (fun h => ?_) (fun h => ?_)
        · simp only [decide_eq_true_eq, decide_eq_false_iff_not, Bool.or_eq_true, Bool.and_eq_true, Bool.or_eq_false_iff, Bool.and_eq_false_iff, Bool.not_eq_true', Bool.not_eq_false', bne_iff_ne, beq_iff_eq, ne_eq, bne_eq_false_iff_eq, beq_eq_false_iff_ne, ge_iff_le, gt_iff_lt, Int.not_le, Int.not_lt] at h
          refine go ?_
          rw [tmod_nn (a := c + B.getD 0 0) (by omega)]
          refine go ?_
          rw [tdiv_nn (a := c + B.getD 0 0) (by omega)]
          have hx := hstep (c + B.getD 0 0) (by omega) (by omega)
          refine go ?_
          refine R_nilR ⟨[2], _, ?_, (_, _), hx.1, hx.2, rfl⟩; exact (Less.mk' (by simp (disch := (first | omega | (simp only [go_sem, ↓reduceIte, Nat.reduceEqDiff, Nat.reduceAdd, Nat.reduceMul, Nat.reduceSub, Nat.reduceLT, Nat.reduceLeDiff, Nat.reduceBNe, Nat.reduceBEq, Int.reduceToNat, Int.reduceAdd, Int.reduceSub, Int.reduceMul, Int.reduceLT, Int.reduceLE, Int.reduceNeg, Int.reduceBEq, Int.reduceBNe, Int.reduceEq, beq_self_eq_true, reduceCtorEq, decide_true, decide_false, if_pos, if_neg]; first | done | omega))) only [go_sem, ↓reduceIte, Nat.reduceEqDiff, Nat.reduceAdd, Nat.reduceMul, Nat.reduceSub, Nat.reduceLT, Nat.reduceLeDiff, Nat.reduceBNe, Nat.reduceBEq, Int.reduceToNat, Int.reduceAdd, Int.reduceSub, Int.reduceMul, Int.reduceLT, Int.reduceLE, Int.reduceNeg, Int.reduceBEq, Int.reduceBNe, Int.reduceEq, beq_self_eq_true, reduceCtorEq, decide_true, decide_false, if_pos, if_neg, List.length_nil, List.nil_append, ints_one, lsD, lsO, List.length_singleton]) (by simp (disch := (first | omega | (simp only [go_sem, ↓reduceIte, Nat.reduceEqDiff, Nat.reduceAdd, Nat.reduceMul, Nat.reduceSub, Nat.reduceLT, Nat.reduceLeDiff, Nat.reduceBNe, Nat.reduceBEq, Int.reduceToNat, Int.reduceAdd, Int.reduceSub, Int.reduceMul, Int.reduceLT, Int.reduceLE, Int.reduceNeg, Int.reduceBEq, Int.reduceBNe, Int.reduceEq, beq_self_eq_true, reduceCtorEq, decide_true, decide_false, if_pos, if_neg]; first | done | omega))) only [go_sem, ↓reduceIte, Nat.reduceEqDiff, Nat.reduceAdd, Nat.reduceMul, Nat.reduceSub, Nat.reduceLT, Nat.reduceLeDiff, Nat.reduceBNe, Nat.reduceBEq, Int.reduceToNat, Int.reduceAdd, Int.reduceSub, Int.reduceMul, Int.reduceLT, Int.reduceLE, Int.reduceNeg, Int.reduceBEq, Int.reduceBNe, Int.reduceEq, beq_self_eq_true, reduceCtorEq, decide_true, decide_false, if_pos, if_neg, List.length_nil, List.nil_append, ints_one, lsD, lsO, List.length_singleton]) (by decide) (by decide))
        · simp only [decide_eq_true_eq, decide_eq_false_iff_not, Bool.or_eq_true, Bool.and_eq_true, Bool.or_eq_false_iff, Bool.and_eq_false_iff, Bool.not_eq_true', Bool.not_eq_false', bne_iff_ne, beq_iff_eq, ne_eq, bne_eq_false_iff_eq, beq_eq_false_iff_ne, ge_iff_le, gt_iff_lt, Int.not_le, Int.not_lt] at h
          have z2 := gout B 0 (by omega)
          refine go ?_
          rw [tmod_nn (a := c) (by omega)]
          refine go ?_
          rw [tdiv_nn (a := c) (by omega)]
          have hx := hstep (c) (by omega) (by omega)
          refine go ?_
          refine R_nilR ⟨[2], _, ?_, (_, _), hx.1, hx.2, rfl⟩; exact (Less.mk' (by simp (disch := (first | omega | (simp only [go_sem, ↓reduceIte, Nat.reduceEqDiff, Nat.reduceAdd, Nat.reduceMul, Nat.reduceSub, Nat.reduceLT, Nat.reduceLeDiff, Nat.reduceBNe, Nat.reduceBEq, Int.reduceToNat, Int.reduceAdd, Int.reduceSub, Int.reduceMul, Int.reduceLT, Int.reduceLE, Int.reduceNeg, Int.reduceBEq, Int.reduceBNe, Int.reduceEq, beq_self_eq_true, reduceCtorEq, decide_true, decide_false, if_pos, if_neg]; first | done | omega))) only [go_sem, ↓reduceIte, Nat.reduceEqDiff, Nat.reduceAdd, Nat.reduceMul, Nat.reduceSub, Nat.reduceLT, Nat.reduceLeDiff, Nat.reduceBNe, Nat.reduceBEq, Int.reduceToNat, Int.reduceAdd, Int.reduceSub, Int.reduceMul, Int.reduceLT, Int.reduceLE, Int.reduceNeg, Int.reduceBEq, Int.reduceBNe, Int.reduceEq, beq_self_eq_true, reduceCtorEq, decide_true, decide_false, if_pos, if_neg, List.length_nil, List.nil_append, ints_one, lsD, lsO, List.length_singleton]) (by simp (disch := (first | omega | (simp only [go_sem, ↓reduceIte, Nat.reduceEqDiff, Nat.reduceAdd, Nat.reduceMul, Nat.reduceSub, Nat.reduceLT, Nat.reduceLeDiff, Nat.reduceBNe, Nat.reduceBEq, Int.reduceToNat, Int.reduceAdd, Int.reduceSub, Int.reduceMul, Int.reduceLT, Int.reduceLE, Int.reduceNeg, Int.reduceBEq, Int.reduceBNe, Int.reduceEq, beq_self_eq_true, reduceCtorEq, decide_true, decide_false, if_pos, if_neg]; first | done | omega))) only [go_sem, ↓reduceIte, Nat.reduceEqDiff, Nat.reduceAdd, Nat.reduceMul, Nat.reduceSub, Nat.reduceLT, Nat.reduceLeDiff, Nat.reduceBNe, Nat.reduceBEq, Int.reduceToNat, Int.reduceAdd, Int.reduceSub, Int.reduceMul, Int.reduceLT, Int.reduceLE, Int.reduceNeg, Int.reduceBEq, Int.reduceBNe, Int.reduceEq, beq_self_eq_true, reduceCtorEq, decide_true, decide_false, if_pos, if_neg, List.length_nil, List.nil_append, ints_one, lsD, lsO, List.length_singleton]) (by decide) (by decide))
    · simp only [decide_eq_true_eq, decide_eq_false_iff_not, Bool.or_eq_true, Bool.and_eq_true, Bool.or_eq_false_iff, Bool.and_eq_false_iff, Bool.not_eq_true', Bool.not_eq_false', bne_iff_ne, beq_iff_eq, ne_eq, bne_eq_false_iff_eq, beq_eq_false_iff_ne, ge_iff_le, gt_iff_lt, Int.not_le, Int.not_lt] at h
      refine go ?_
      have hc0 : c = 0 := by omega
      rw [List.take_of_length_le (by omega), List.take_of_length_le (by omega), vA, vB, hc0, Int.zero_mul, Int.add_zero, ← Int.natCast_add] at i5
      have hfin := dig_eq_of BQ2 i4 i5 i6
      rw [show is (a + b) = isl [] from congrArg isl hfin.symm]; refine R_em 4 (by first | (simp (disch := (first | omega | (simp only [go_sem, ↓reduceIte, Nat.reduceEqDiff, Nat.reduceAdd, Nat.reduceMul, Nat.reduceSub, Nat.reduceLT, Nat.reduceLeDiff, Nat.reduceBNe, Nat.reduceBEq, Int.reduceToNat, Int.reduceAdd, Int.reduceSub, Int.reduceMul, Int.reduceLT, Int.reduceLE, Int.reduceNeg, Int.reduceBEq, Int.reduceBNe, Int.reduceEq, beq_self_eq_true, reduceCtorEq, decide_true, decide_false, if_pos, if_neg]; first | done | omega))) only [go_sem, ↓reduceIte, Nat.reduceEqDiff, Nat.reduceAdd, Nat.reduceMul, Nat.reduceSub, Nat.reduceLT, Nat.reduceLeDiff, Nat.reduceBNe, Nat.reduceBEq, Int.reduceToNat, Int.reduceAdd, Int.reduceSub, Int.reduceMul, Int.reduceLT, Int.reduceLE, Int.reduceNeg, Int.reduceBEq, Int.reduceBNe, Int.reduceEq, beq_self_eq_true, reduceCtorEq, decide_true, decide_false, if_pos, if_neg] <;> rfl) | fail) ?_; refine R_ret (fin_data (by first | (simp (disch := (first | omega | (simp only [go_sem, ↓reduceIte, Nat.reduceEqDiff, Nat.reduceAdd, Nat.reduceMul, Nat.reduceSub, Nat.reduceLT, Nat.reduceLeDiff, Nat.reduceBNe, Nat.reduceBEq, Int.reduceToNat, Int.reduceAdd, Int.reduceSub, Int.reduceMul, Int.reduceLT, Int.reduceLE, Int.reduceNeg, Int.reduceBEq, Int.reduceBNe, Int.reduceEq, beq_self_eq_true, reduceCtorEq, decide_true, decide_false, if_pos, if_neg]; first | done | omega))) only [go_sem, ↓reduceIte, Nat.reduceEqDiff, Nat.reduceAdd, Nat.reduceMul, Nat.reduceSub, Nat.reduceLT, Nat.reduceLeDiff, Nat.reduceBNe, Nat.reduceBEq, Int.reduceToNat, Int.reduceAdd, Int.reduceSub, Int.reduceMul, Int.reduceLT, Int.reduceLE, Int.reduceNeg, Int.reduceBEq, Int.reduceBNe, Int.reduceEq, beq_self_eq_true, reduceCtorEq, decide_true, decide_false, if_pos, if_neg, isl, List.length_nil] <;> rfl) | fail) (by simp (disch := (first | omega | (simp only [go_sem, ↓reduceIte, Nat.reduceEqDiff, Nat.reduceAdd, Nat.reduceMul, Nat.reduceSub, Nat.reduceLT, Nat.reduceLeDiff, Nat.reduceBNe, Nat.reduceBEq, Int.reduceToNat, Int.reduceAdd, Int.reduceSub, Int.reduceMul, Int.reduceLT, Int.reduceLE, Int.reduceNeg, Int.reduceBEq, Int.reduceBNe, Int.reduceEq, beq_self_eq_true, reduceCtorEq, decide_true, decide_false, if_pos, if_neg]; first | done | omega))) only [go_sem, ↓reduceIte, Nat.reduceEqDiff, Nat.reduceAdd, Nat.reduceMul, Nat.reduceSub, Nat.reduceLT, Nat.reduceLeDiff, Nat.reduceBNe, Nat.reduceBEq, Int.reduceToNat, Int.reduceAdd, Int.reduceSub, Int.reduceMul, Int.reduceLT, Int.reduceLE, Int.reduceNeg, Int.reduceBEq, Int.reduceBNe, Int.reduceEq, beq_self_eq_true, reduceCtorEq, decide_true, decide_false, if_pos, if_neg, isl, List.length_nil]))
  · simp only [if_neg hC]
    refine go ?_
    refine cnd (fun h => ?_) (fun h => ?_)
    · simp only [decide_eq_true_eq, decide_eq_false_iff_not, Bool.or_eq_true, Bool.and_eq_true, Bool.or_eq_false_iff, Bool.and_eq_false_iff, Bool.not_eq_true', Bool.not_eq_false', bne_iff_ne, beq_iff_eq, ne_eq, bne_eq_false_iff_eq, beq_eq_false_iff_ne, ge_iff_le, gt_iff_lt, Int.not_le, Int.not_lt] at h
      refine go ?_
      refine cnd (fun h => ?_) (fun h => ?_)
      · simp only [decide_eq_true_eq, decide_eq_false_iff_not, Bool.or_eq_true, Bool.and_eq_true, Bool.or_eq_false_iff, Bool.and_eq_false_iff, Bool.not_eq_true', Bool.not_eq_false', bne_iff_ne, beq_iff_eq, ne_eq, bne_eq_false_iff_eq, beq_eq_false_iff_ne, ge_iff_le, gt_iff_lt, Int.not_le, Int.not_lt] at h
        refine go ?_
        refine cnd (fun h => ?_) (fun h => ?_)
        · simp only [decide_eq_true_eq, decide_eq_false_iff_not, Bool.or_eq_true, Bool.and_eq_true, Bool.or_eq_false_iff, Bool.and_eq_false_iff, Bool.not_eq_true', Bool.not_eq_false', bne_iff_ne, beq_iff_eq, ne_eq, bne_eq_false_iff_eq, beq_eq_false_iff_ne, ge_iff_le, gt_iff_lt, Int.not_le, Int.not_lt] at h
          refine go ?_
          rw [tmod_nn (a := c + A.getD S.length 0 + B.getD S.length 0) (by omega)]
          refine go ?_
          rw [tdiv_nn (a := c + A.getD S.length 0 + B.getD S.length 0) (by omega)]
          have hx := hstep (c + A.getD S.length 0 + B.getD S.length 0) (by rfl) (by omega)
          refine go ?_
          refine R_nilR ⟨[2], _, ?_, (_, _), hx.1, hx.2, rfl⟩; exact lessA
        · simp only [decide_eq_true_eq, decide_eq_false_iff_not, Bool.or_eq_true, Bool.and_eq_true, Bool.or_eq_false_iff, Bool.and_eq_false_iff, Bool.not_eq_true', Bool.not_eq_false', bne_iff_ne, beq_iff_eq, ne_eq, bne_eq_false_iff_eq, beq_eq_false_iff_ne, ge_iff_le, gt_iff_lt, Int.not_le, Int.not_lt] at h
          have z2 := gout B S.length (by omega)
          refine go ?_
          rw [tmod_nn (a := c + A.getD S.length 0) (by omega)]
          refine go ?_
          rw [tdiv_nn (a := c + A.getD S.length 0) (by omega)]
          have hx := hstep (c + A.getD S.length 0) (by omega) (by omega)
          refine go ?_
          refine R_nilR ⟨[2], _, ?_, (_, _), hx.1, hx.2, rfl⟩; exact lessA
      · simp only [decide_eq_true_eq, decide_eq_false_iff_not, Bool.or_eq_true, Bool.and_eq_true, Bool.or_eq_false_iff, Bool.and_eq_false_iff, Bool.not_eq_true', Bool.not_eq_false', bne_iff_ne, beq_iff_eq, ne_eq, bne_eq_false_iff_eq, beq_eq_false_iff_ne, ge_iff_le, gt_iff_lt, Int.not_le, Int.not_lt] at h
        have z1 := gout A S.length (by omega)
        refine go ?_
        refine cnd (fun h => ?_) (fun h => ?_)
        · simp only [decide_eq_true_eq, decide_eq_false_iff_not, Bool.or_eq_true, Bool.and_eq_true, Bool.or_eq_false_iff, Bool.and_eq_false_iff, Bool.not_eq_true', Bool.not_eq_false', bne_iff_ne, beq_iff_eq, ne_eq, bne_eq_false_iff_eq, beq_eq_false_iff_ne, ge_iff_le, gt_iff_lt, Int.not_le, Int.not_lt] at h
          refine go ?_
          rw [tmod_nn (a := c + B.getD S.length 0) (by omega)]
          refine go ?_
          rw [tdiv_nn (a := c + B.getD S.length 0) (by omega)]
          have hx := hstep (c + B.getD S.length 0) (by omega) (by omega)
          refine go ?_
          refine R_nilR ⟨[2], _, ?_, (_, _), hx.1, hx.2, rfl⟩; exact lessA
        · simp only [decide_eq_true_eq, decide_eq_false_iff_not, Bool.or_eq_true, Bool.and_eq_true, Bool.or_eq_false_iff, Bool.and_eq_false_iff, Bool.not_eq_true', Bool.not_eq_false', bne_iff_ne, beq_iff_eq, ne_eq, bne_eq_false_iff_eq, beq_eq_false_iff_ne, ge_iff_le, gt_iff_lt, Int.not_le, Int.not_lt] at h
          have z2 := gout B S.length (by omega)
          refine go ?_
          rw [tmod_nn (a := c) (by omega)]
          refine go ?_
          rw [tdiv_nn (a := c) (by omega)]
          have hx := hstep (c) (by omega) (by omega)
          refine go ?_
          refine R_nilR ⟨[2], _, ?_, (_, _), hx.1, hx.2, rfl⟩; exact lessA
    · simp only [decide_eq_true_eq, decide_eq_false_iff_not, Bool.or_eq_true, Bool.and_eq_true, Bool.or_eq_false_iff, Bool.and_eq_false_iff, Bool.not_eq_true', Bool.not_eq_false', bne_iff_ne, beq_iff_eq, ne_eq, bne_eq_false_iff_eq, beq_eq_false_iff_ne, ge_iff_le, gt_iff_lt, Int.not_le, Int.not_lt] at h
      refine go ?_
      have hc0 : c = 0 := by omega
      rw [List.take_of_length_le (by omega), List.take_of_length_le (by omega), vA, vB, hc0, Int.zero_mul, Int.add_zero, ← Int.natCast_add] at i5
      have hfin := dig_eq_of BQ2 i4 i5 i6
      rw [show is (a + b) = isl S from congrArg isl hfin.symm]; refine R_ret (fin_data (by first | (simp (disch := (first | omega | (simp only [go_sem, ↓reduceIte, Nat.reduceEqDiff, Nat.reduceAdd, Nat.reduceMul, Nat.reduceSub, Nat.reduceLT, Nat.reduceLeDiff, Nat.reduceBNe, Nat.reduceBEq, Int.reduceToNat, Int.reduceAdd, Int.reduceSub, Int.reduceMul, Int.reduceLT, Int.reduceLE, Int.reduceNeg, Int.reduceBEq, Int.reduceBNe, Int.reduceEq, beq_self_eq_true, reduceCtorEq, decide_true, decide_false, if_pos, if_neg]; first | done | omega))) only [go_sem, ↓reduceIte, Nat.reduceEqDiff, Nat.reduceAdd, Nat.reduceMul, Nat.reduceSub, Nat.reduceLT, Nat.reduceLeDiff, Nat.reduceBNe, Nat.reduceBEq, Int.reduceToNat, Int.reduceAdd, Int.reduceSub, Int.reduceMul, Int.reduceLT, Int.reduceLE, Int.reduceNeg, Int.reduceBEq, Int.reduceBNe, Int.reduceEq, beq_self_eq_true, reduceCtorEq, decide_true, decide_false, if_pos, if_neg] <;> rfl) | fail) (by simp (disch := (first | omega | (simp only [go_sem, ↓reduceIte, Nat.reduceEqDiff, Nat.reduceAdd, Nat.reduceMul, Nat.reduceSub, Nat.reduceLT, Nat.reduceLeDiff, Nat.reduceBNe, Nat.reduceBEq, Int.reduceToNat, Int.reduceAdd, Int.reduceSub, Int.reduceMul, Int.reduceLT, Int.reduceLE, Int.reduceNeg, Int.reduceBEq, Int.reduceBNe, Int.reduceEq, beq_self_eq_true, reduceCtorEq, decide_true, decide_false, if_pos, if_neg]; first | done | omega))) only [go_sem, ↓reduceIte, Nat.reduceEqDiff, Nat.reduceAdd, Nat.reduceMul, Nat.reduceSub, Nat.reduceLT, Nat.reduceLeDiff, Nat.reduceBNe, Nat.reduceBEq, Int.reduceToNat, Int.reduceAdd, Int.reduceSub, Int.reduceMul, Int.reduceLT, Int.reduceLE, Int.reduceNeg, Int.reduceBEq, Int.reduceBNe, Int.reduceEq, beq_self_eq_true, reduceCtorEq, decide_true, decide_false, if_pos, if_neg]))
end Go.Proofs.YtglnkfpmogaifaaGreatDoor.V

/-
  The reference's difference.
-/
set_option linter.unusedSimpArgs false
set_option linter.unusedVariables false
set_option maxHeartbeats 8000000
namespace Go.Proofs.YtglnkfpmogaifaaGreatDoor.V
open Go Go.Proofs Go.RowKit Go.Lib

theorem rDiff {a b : Nat} (hab : b ≤ a) (h : lq a ≤ 1000000000) : Con Tryz.prog 86 [is a, is b] (is (a - b)) [] := by
  obtain ⟨A, hA⟩ : ∃ A, A = dig BQ a := ⟨_, rfl⟩
  obtain ⟨B, hB⟩ : ∃ B, B = dig BQ b := ⟨_, rfl⟩
  have dA : Dg BQ A := hA ▸ dg_dig BQ2 a
  have dB : Dg BQ B := hB ▸ dg_dig BQ2 b
  have vA : val BQ A = a := hA ▸ val_dig BQ2 a
  have vB : val BQ B = b := hB ▸ val_dig BQ2 b
  have hlen : B.length ≤ A.length := by rw [hA, hB]; exact dig_mono BQ2 hab
  unfold lq at h
  show Con _ _ [isl (dig BQ a), isl (dig BQ b)] _ _
  rw [← hA] at h
  rw [← hA, ← hB]
  refine Con.of_body [(0, isl A), (1, isl B)] Tryz.func86 rfl ca86 41 rfl (by simp) rfl ?_; refine T_of_R ?_
  refine go ?_
  refine R_sl 0 (by first | (simp (disch := (first | omega | (simp only [go_sem, ↓reduceIte, Nat.reduceEqDiff, Nat.reduceAdd, Nat.reduceMul, Nat.reduceSub, Nat.reduceLT, Nat.reduceLeDiff, Nat.reduceBNe, Nat.reduceBEq, Int.reduceToNat, Int.reduceAdd, Int.reduceSub, Int.reduceMul, Int.reduceLT, Int.reduceLE, Int.reduceNeg, Int.reduceBEq, Int.reduceBNe, Int.reduceEq, beq_self_eq_true, reduceCtorEq, decide_true, decide_false, if_pos, if_neg]; first | done | omega))) only [go_sem, ↓reduceIte, Nat.reduceEqDiff, Nat.reduceAdd, Nat.reduceMul, Nat.reduceSub, Nat.reduceLT, Nat.reduceLeDiff, Nat.reduceBNe, Nat.reduceBEq, Int.reduceToNat, Int.reduceAdd, Int.reduceSub, Int.reduceMul, Int.reduceLT, Int.reduceLE, Int.reduceNeg, Int.reduceBEq, Int.reduceBNe, Int.reduceEq, beq_self_eq_true, reduceCtorEq, decide_true, decide_false, if_pos, if_neg] <;> rfl) | fail) fun hn => ?_
  refine R_sl 1 (by first | (simp (disch := (first | omega | (simp only [go_sem, ↓reduceIte, Nat.reduceEqDiff, Nat.reduceAdd, Nat.reduceMul, Nat.reduceSub, Nat.reduceLT, Nat.reduceLeDiff, Nat.reduceBNe, Nat.reduceBEq, Int.reduceToNat, Int.reduceAdd, Int.reduceSub, Int.reduceMul, Int.reduceLT, Int.reduceLE, Int.reduceNeg, Int.reduceBEq, Int.reduceBNe, Int.reduceEq, beq_self_eq_true, reduceCtorEq, decide_true, decide_false, if_pos, if_neg]; first | done | omega))) only [go_sem, ↓reduceIte, Nat.reduceEqDiff, Nat.reduceAdd, Nat.reduceMul, Nat.reduceSub, Nat.reduceLT, Nat.reduceLeDiff, Nat.reduceBNe, Nat.reduceBEq, Int.reduceToNat, Int.reduceAdd, Int.reduceSub, Int.reduceMul, Int.reduceLT, Int.reduceLE, Int.reduceNeg, Int.reduceBEq, Int.reduceBNe, Int.reduceEq, beq_self_eq_true, reduceCtorEq, decide_true, decide_false, if_pos, if_neg] <;> rfl) | fail) fun hn' => ?_
  refine R_loop (fun p : Int × List Int => ⟨tl [(0, isl A), (1, isl B), (5, lsD p.2), (6, .sc (.int .i64 p.1)), (7, .sc (.int .i64 p.2.length))], ol (lsO p.2), 1, [], 41⟩)
    (fun p => 0 ≤ p.1 ∧ p.1 ≤ 1 ∧ p.2.length ≤ A.length ∧ Dg BQ p.2 ∧ val BQ p.2 - p.1 * ((BQ ^ p.2.length : Nat) : Int) = val BQ (A.take p.2.length) - val BQ (B.take p.2.length))
    (fun p => A.length - p.2.length) (0, []) [] (Less.mk' (by simp (disch := (first | omega | (simp only [go_sem, ↓reduceIte, Nat.reduceEqDiff, Nat.reduceAdd, Nat.reduceMul, Nat.reduceSub, Nat.reduceLT, Nat.reduceLeDiff, Nat.reduceBNe, Nat.reduceBEq, Int.reduceToNat, Int.reduceAdd, Int.reduceSub, Int.reduceMul, Int.reduceLT, Int.reduceLE, Int.reduceNeg, Int.reduceBEq, Int.reduceBNe, Int.reduceEq, beq_self_eq_true, reduceCtorEq, decide_true, decide_false, if_pos, if_neg]; first | done | omega))) only [go_sem, ↓reduceIte, Nat.reduceEqDiff, Nat.reduceAdd, Nat.reduceMul, Nat.reduceSub, Nat.reduceLT, Nat.reduceLeDiff, Nat.reduceBNe, Nat.reduceBEq, Int.reduceToNat, Int.reduceAdd, Int.reduceSub, Int.reduceMul, Int.reduceLT, Int.reduceLE, Int.reduceNeg, Int.reduceBEq, Int.reduceBNe, Int.reduceEq, beq_self_eq_true, reduceCtorEq, decide_true, decide_false, if_pos, if_neg, List.length_nil]) (by simp (disch := (first | omega | (simp only [go_sem, ↓reduceIte, Nat.reduceEqDiff, Nat.reduceAdd, Nat.reduceMul, Nat.reduceSub, Nat.reduceLT, Nat.reduceLeDiff, Nat.reduceBNe, Nat.reduceBEq, Int.reduceToNat, Int.reduceAdd, Int.reduceSub, Int.reduceMul, Int.reduceLT, Int.reduceLE, Int.reduceNeg, Int.reduceBEq, Int.reduceBNe, Int.reduceEq, beq_self_eq_true, reduceCtorEq, decide_true, decide_false, if_pos, if_neg]; first | done | omega))) only [go_sem, ↓reduceIte, Nat.reduceEqDiff, Nat.reduceAdd, Nat.reduceMul, Nat.reduceSub, Nat.reduceLT, Nat.reduceLeDiff, Nat.reduceBNe, Nat.reduceBEq, Int.reduceToNat, Int.reduceAdd, Int.reduceSub, Int.reduceMul, Int.reduceLT, Int.reduceLE, Int.reduceNeg, Int.reduceBEq, Int.reduceBNe, Int.reduceEq, beq_self_eq_true, reduceCtorEq, decide_true, decide_false, if_pos, if_neg, List.length_nil]) (by decide) (by decide)) ⟨by omega, by omega, Nat.zero_le _, dg_nil _, by simp [val]⟩ fun p hi => ?_
  obtain ⟨c, S⟩ := p
  obtain ⟨i1, i2, i3, i4, i5⟩ := hi
  simp only at i1 i2 i3 i4 i5
  simp only
  have bA := dA.toQ S.length
  have bB := dB.toQ S.length
  have tA := val_take_succ' BQ A S.length
  have tB := val_take_succ' BQ B S.length
  have hp := powQ S.length
  have hstep : ∀ s w : Int, s - w * 10000 = A.getD S.length 0 - c - B.getD S.length 0 → 0 ≤ s → s < 10000 → 0 ≤ w → w ≤ 1 → S.length < A.length →
      (0 ≤ w ∧ w ≤ 1 ∧ (S ++ [s]).length ≤ A.length ∧ Dg BQ (S ++ [s]) ∧ val BQ (S ++ [s]) - w * ((BQ ^ (S ++ [s]).length : Nat) : Int) = val BQ (A.take (S ++ [s]).length) - val BQ (B.take (S ++ [s]).length)) ∧
      A.length - (S ++ [s]).length < A.length - S.length := fun s w hs h0 h1 w0 w1 hlt => by
    have hlen : (S ++ [s]).length = S.length + 1 := by rw [List.length_append, List.length_singleton]
    refine ⟨⟨w0, w1, by omega, i4.append (dg_ofQ fun j hj => ?_), ?_⟩, by omega⟩
    · rw [List.length_singleton] at hj
      obtain rfl : j = 0 := by omega
      simp only [List.getD_cons_zero]
      omega
    · rw [hlen, val_append, tA, tB, hp]
      simp only [val, Int.mul_zero, Int.add_zero]
      generalize ((BQ ^ S.length : Nat) : Int) = P at i5 ⊢
      grind
  by_cases hC : S.length = 0
  · have hS : S = [] := List.length_eq_zero_iff.1 hC
    rw [hS]
    rw [hS] at hstep
    simp only [List.length_nil, ↓reduceIte] at hstep bA bB ⊢
    rw [hC] at i3 bA bB
    refine go ?_
    refine cnd (fun h => ?_) (fun h => ?_)
    · simp only [decide_eq_true_eq, decide_eq_false_iff_not, Bool.or_eq_true, Bool.and_eq_true, Bool.or_eq_false_iff, Bool.and_eq_false_iff, Bool.not_eq_true', Bool.not_eq_false', bne_iff_ne, beq_iff_eq, ne_eq, bne_eq_false_iff_eq, beq_eq_false_iff_ne, ge_iff_le, gt_iff_lt, Int.not_le, Int.not_lt] at h
      refine go ?_
      refine cnd (fun h => ?_) (fun h => ?_)
      · simp only [decide_eq_true_eq, decide_eq_false_iff_not, Bool.or_eq_true, Bool.and_eq_true, Bool.or_eq_false_iff, Bool.and_eq_false_iff, Bool.not_eq_true', Bool.not_eq_false', bne_iff_ne, beq_iff_eq, ne_eq, bne_eq_false_iff_eq, beq_eq_false_iff_ne, ge_iff_le, gt_iff_lt, Int.not_le, Int.not_lt] at h
        refine go ?_
        refine cnd (fun h => ?_) (fun h => ?_)
        · simp only [decide_eq_true_eq, decide_eq_false_iff_not, Bool.or_eq_true, Bool.and_eq_true, Bool.or_eq_false_iff, Bool.and_eq_false_iff, Bool.not_eq_true', Bool.not_eq_false', bne_iff_ne, beq_iff_eq, ne_eq, bne_eq_false_iff_eq, beq_eq_false_iff_ne, ge_iff_le, gt_iff_lt, Int.not_le, Int.not_lt] at h
          have hx := hstep (A.getD 0 0 - c - B.getD 0 0 + 10000) 1 (by omega) (by omega) (by omega) (by omega) (by omega) (by omega)
          refine go ?_
          refine R_nilR ⟨[2], _, ?_, (_, _), hx.1, hx.2, rfl⟩; exact (Less.mk' (by simp (disch := (first | omega | (simp only [go_sem, ↓reduceIte, Nat.reduceEqDiff, Nat.reduceAdd, Nat.reduceMul, Nat.reduceSub, Nat.reduceLT, Nat.reduceLeDiff, Nat.reduceBNe, Nat.reduceBEq, Int.reduceToNat, Int.reduceAdd, Int.reduceSub, Int.reduceMul, Int.reduceLT, Int.reduceLE, Int.reduceNeg, Int.reduceBEq, Int.reduceBNe, Int.reduceEq, beq_self_eq_true, reduceCtorEq, decide_true, decide_false, if_pos, if_neg]; first | done | omega))) only [go_sem, ↓reduceIte, Nat.reduceEqDiff, Nat.reduceAdd, Nat.reduceMul, Nat.reduceSub, Nat.reduceLT, Nat.reduceLeDiff, Nat.reduceBNe, Nat.reduceBEq, Int.reduceToNat, Int.reduceAdd, Int.reduceSub, Int.reduceMul, Int.reduceLT, Int.reduceLE, Int.reduceNeg, Int.reduceBEq, Int.reduceBNe, Int.reduceEq, beq_self_eq_true, reduceCtorEq, decide_true, decide_false, if_pos, if_neg, List.length_nil, List.nil_append, ints_one, lsD, lsO, List.length_singleton]) (by simp (disch := (first | omega | (simp only [go_sem, ↓reduceIte, Nat.reduceEqDiff, Nat.reduceAdd, Nat.reduceMul, Nat.reduceSub, Nat.reduceLT, Nat.reduceLeDiff, Nat.reduceBNe, Nat.reduceBEq, Int.reduceToNat, Int.reduceAdd, Int.reduceSub, Int.reduceMul, Int.reduceLT, Int.reduceLE, Int.reduceNeg, Int.reduceBEq, Int.reduceBNe, Int.reduceEq, beq_self_eq_true, reduceCtorEq, decide_true, decide_false, if_pos, if_neg]; first | done | omega))) only [go_sem, ↓reduceIte, Nat.reduceEqDiff, Nat.reduceAdd, Nat.reduceMul, Nat.reduceSub, Nat.reduceLT, Nat.reduceLeDiff, Nat.reduceBNe, Nat.reduceBEq, Int.reduceToNat, Int.reduceAdd, Int.reduceSub, Int.reduceMul, Int.reduceLT, Int.reduceLE, Int.reduceNeg, Int.reduceBEq, Int.reduceBNe, Int.reduceEq, beq_self_eq_true, reduceCtorEq, decide_true, decide_false, if_pos, if_neg, List.length_nil, List.nil_append, ints_one, lsD, lsO, List.length_singleton]) (by decide) (by decide))
        · simp only [decide_eq_true_eq, decide_eq_false_iff_not, Bool.or_eq_true, Bool.and_eq_true, Bool.or_eq_false_iff, Bool.and_eq_false_iff, Bool.not_eq_true', Bool.not_eq_false', bne_iff_ne, beq_iff_eq, ne_eq, bne_eq_false_iff_eq, beq_eq_false_iff_ne, ge_iff_le, gt_iff_lt, Int.not_le, Int.not_lt] at h
          have hx := hstep (A.getD 0 0 - c - B.getD 0 0) 0 (by omega) (by omega) (by omega) (by omega) (by omega) (by omega)
          refine go ?_
          refine R_nilR ⟨[2], _, ?_, (_, _), hx.1, hx.2, rfl⟩; exact (Less.mk' (by simp (disch := (first | omega | (simp only [go_sem, ↓reduceIte, Nat.reduceEqDiff, Nat.reduceAdd, Nat.reduceMul, Nat.reduceSub, Nat.reduceLT, Nat.reduceLeDiff, Nat.reduceBNe, Nat.reduceBEq, Int.reduceToNat, Int.reduceAdd, Int.reduceSub, Int.reduceMul, Int.reduceLT, Int.reduceLE, Int.reduceNeg, Int.reduceBEq, Int.reduceBNe, Int.reduceEq, beq_self_eq_true, reduceCtorEq, decide_true, decide_false, if_pos, if_neg]; first | done | omega))) only [go_sem, ↓reduceIte, Nat.reduceEqDiff, Nat.reduceAdd, Nat.reduceMul, Nat.reduceSub, Nat.reduceLT, Nat.reduceLeDiff, Nat.reduceBNe, Nat.reduceBEq, Int.reduceToNat, Int.reduceAdd, Int.reduceSub, Int.reduceMul, Int.reduceLT, Int.reduceLE, Int.reduceNeg, Int.reduceBEq, Int.reduceBNe, Int.reduceEq, beq_self_eq_true, reduceCtorEq, decide_true, decide_false, if_pos, if_neg, List.length_nil, List.nil_append, ints_one, lsD, lsO, List.length_singleton]) (by simp (disch := (first | omega | (simp only [go_sem, ↓reduceIte, Nat.reduceEqDiff, Nat.reduceAdd, Nat.reduceMul, Nat.reduceSub, Nat.reduceLT, Nat.reduceLeDiff, Nat.reduceBNe, Nat.reduceBEq, Int.reduceToNat, Int.reduceAdd, Int.reduceSub, Int.reduceMul, Int.reduceLT, Int.reduceLE, Int.reduceNeg, Int.reduceBEq, Int.reduceBNe, Int.reduceEq, beq_self_eq_true, reduceCtorEq, decide_true, decide_false, if_pos, if_neg]; first | done | omega))) only [go_sem, ↓reduceIte, Nat.reduceEqDiff, Nat.reduceAdd, Nat.reduceMul, Nat.reduceSub, Nat.reduceLT, Nat.reduceLeDiff, Nat.reduceBNe, Nat.reduceBEq, Int.reduceToNat, Int.reduceAdd, Int.reduceSub, Int.reduceMul, Int.reduceLT, Int.reduceLE, Int.reduceNeg, Int.reduceBEq, Int.reduceBNe, Int.reduceEq, beq_self_eq_true, reduceCtorEq, decide_true, decide_false, if_pos, if_neg, List.length_nil, List.nil_append, ints_one, lsD, lsO, List.length_singleton]) (by decide) (by decide))
      · simp only [decide_eq_true_eq, decide_eq_false_iff_not, Bool.or_eq_true, Bool.and_eq_true, Bool.or_eq_false_iff, Bool.and_eq_false_iff, Bool.not_eq_true', Bool.not_eq_false', bne_iff_ne, beq_iff_eq, ne_eq, bne_eq_false_iff_eq, beq_eq_false_iff_ne, ge_iff_le, gt_iff_lt, Int.not_le, Int.not_lt] at h
        have z2 := gout B 0 (by omega)
        refine go ?_
        refine cnd (fun h => ?_) (fun h => ?_)
        · simp only [decide_eq_true_eq, decide_eq_false_iff_not, Bool.or_eq_true, Bool.and_eq_true, Bool.or_eq_false_iff, Bool.and_eq_false_iff, Bool.not_eq_true', Bool.not_eq_false', bne_iff_ne, beq_iff_eq, ne_eq, bne_eq_false_iff_eq, beq_eq_false_iff_ne, ge_iff_le, gt_iff_lt, Int.not_le, Int.not_lt] at h
          have hx := hstep (A.getD 0 0 - c + 10000) 1 (by omega) (by omega) (by omega) (by omega) (by omega) (by omega)
          refine go ?_
          refine R_nilR ⟨[2], _, ?_, (_, _), hx.1, hx.2, rfl⟩; exact (Less.mk' (by simp (disch := (first | omega | (simp only [go_sem, ↓reduceIte, Nat.reduceEqDiff, Nat.reduceAdd, Nat.reduceMul, Nat.reduceSub, Nat.reduceLT, Nat.reduceLeDiff, Nat.reduceBNe, Nat.reduceBEq, Int.reduceToNat, Int.reduceAdd, Int.reduceSub, Int.reduceMul, Int.reduceLT, Int.reduceLE, Int.reduceNeg, Int.reduceBEq, Int.reduceBNe, Int.reduceEq, beq_self_eq_true, reduceCtorEq, decide_true, decide_false, if_pos, if_neg]; first | done | omega))) only [go_sem, ↓reduceIte, Nat.reduceEqDiff, Nat.reduceAdd, Nat.reduceMul, Nat.reduceSub, Nat.reduceLT, Nat.reduceLeDiff, Nat.reduceBNe, Nat.reduceBEq, Int.reduceToNat, Int.reduceAdd, Int.reduceSub, Int.reduceMul, Int.reduceLT, Int.reduceLE, Int.reduceNeg, Int.reduceBEq, Int.reduceBNe, Int.reduceEq, beq_self_eq_true, reduceCtorEq, decide_true, decide_false, if_pos, if_neg, List.length_nil, List.nil_append, ints_one, lsD, lsO, List.length_singleton]) (by simp (disch := (first | omega | (simp only [go_sem, ↓reduceIte, Nat.reduceEqDiff, Nat.reduceAdd, Nat.reduceMul, Nat.reduceSub, Nat.reduceLT, Nat.reduceLeDiff, Nat.reduceBNe, Nat.reduceBEq, Int.reduceToNat, Int.reduceAdd, Int.reduceSub, Int.reduceMul, Int.reduceLT, Int.reduceLE, Int.reduceNeg, Int.reduceBEq, Int.reduceBNe, Int.reduceEq, beq_self_eq_true, reduceCtorEq, decide_true, decide_false, if_pos, if_neg]; first | done | omega))) only [go_sem, ↓reduceIte, Nat.reduceEqDiff, Nat.reduceAdd, Nat.reduceMul, Nat.reduceSub, Nat.reduceLT, Nat.reduceLeDiff, Nat.reduceBNe, Nat.reduceBEq, Int.reduceToNat, Int.reduceAdd, Int.reduceSub, Int.reduceMul, Int.reduceLT, Int.reduceLE, Int.reduceNeg, Int.reduceBEq, Int.reduceBNe, Int.reduceEq, beq_self_eq_true, reduceCtorEq, decide_true, decide_false, if_pos, if_neg, List.length_nil, List.nil_append, ints_one, lsD, lsO, List.length_singleton]) (by decide) (by decide))
        · simp only [decide_eq_true_eq, decide_eq_false_iff_not, Bool.or_eq_true, Bool.and_eq_true, Bool.or_eq_false_iff, Bool.and_eq_false_iff, Bool.not_eq_true', Bool.not_eq_false', bne_iff_ne, beq_iff_eq, ne_eq, bne_eq_false_iff_eq, beq_eq_false_iff_ne, ge_iff_le, gt_iff_lt, Int.not_le, Int.not_lt] at h
          have hx := hstep (A.getD 0 0 - c) 0 (by omega) (by omega) (by omega) (by omega) (by omega) (by omega)
          refine go ?_
          refine R_nilR ⟨[2], _, ?_, (_, _), hx.1, hx.2, rfl⟩; exact (Less.mk' (by simp (disch := (first | omega | (simp only [go_sem, ↓reduceIte, Nat.reduceEqDiff, Nat.reduceAdd, Nat.reduceMul, Nat.reduceSub, Nat.reduceLT, Nat.reduceLeDiff, Nat.reduceBNe, Nat.reduceBEq, Int.reduceToNat, Int.reduceAdd, Int.reduceSub, Int.reduceMul, Int.reduceLT, Int.reduceLE, Int.reduceNeg, Int.reduceBEq, Int.reduceBNe, Int.reduceEq, beq_self_eq_true, reduceCtorEq, decide_true, decide_false, if_pos, if_neg]; first | done | omega))) only [go_sem, ↓reduceIte, Nat.reduceEqDiff, Nat.reduceAdd, Nat.reduceMul, Nat.reduceSub, Nat.reduceLT, Nat.reduceLeDiff, Nat.reduceBNe, Nat.reduceBEq, Int.reduceToNat, Int.reduceAdd, Int.reduceSub, Int.reduceMul, Int.reduceLT, Int.reduceLE, Int.reduceNeg, Int.reduceBEq, Int.reduceBNe, Int.reduceEq, beq_self_eq_true, reduceCtorEq, decide_true, decide_false, if_pos, if_neg, List.length_nil, List.nil_append, ints_one, lsD, lsO, List.length_singleton]) (by simp (disch := (first | omega | (simp only [go_sem, ↓reduceIte, Nat.reduceEqDiff, Nat.reduceAdd, Nat.reduceMul, Nat.reduceSub, Nat.reduceLT, Nat.reduceLeDiff, Nat.reduceBNe, Nat.reduceBEq, Int.reduceToNat, Int.reduceAdd, Int.reduceSub, Int.reduceMul, Int.reduceLT, Int.reduceLE, Int.reduceNeg, Int.reduceBEq, Int.reduceBNe, Int.reduceEq, beq_self_eq_true, reduceCtorEq, decide_true, decide_false, if_pos, if_neg]; first | done | omega))) only [go_sem, ↓reduceIte, Nat.reduceEqDiff, Nat.reduceAdd, Nat.reduceMul, Nat.reduceSub, Nat.reduceLT, Nat.reduceLeDiff, Nat.reduceBNe, Nat.reduceBEq, Int.reduceToNat, Int.reduceAdd, Int.reduceSub, Int.reduceMul, Int.reduceLT, Int.reduceLE, Int.reduceNeg, Int.reduceBEq, Int.reduceBNe, Int.reduceEq, beq_self_eq_true, reduceCtorEq, decide_true, decide_false, if_pos, if_neg, List.length_nil, List.nil_append, ints_one, lsD, lsO, List.length_singleton]) (by decide) (by decide))
    · simp only [decide_eq_true_eq, decide_eq_false_iff_not, Bool.or_eq_true, Bool.and_eq_true, Bool.or_eq_false_iff, Bool.and_eq_false_iff, Bool.not_eq_true', Bool.not_eq_false', bne_iff_ne, beq_iff_eq, ne_eq, bne_eq_false_iff_eq, beq_eq_false_iff_ne, ge_iff_le, gt_iff_lt, Int.not_le, Int.not_lt] at h
      refine R_em 5 (by first | (simp (disch := (first | omega | (simp only [go_sem, ↓reduceIte, Nat.reduceEqDiff, Nat.reduceAdd, Nat.reduceMul, Nat.reduceSub, Nat.reduceLT, Nat.reduceLeDiff, Nat.reduceBNe, Nat.reduceBEq, Int.reduceToNat, Int.reduceAdd, Int.reduceSub, Int.reduceMul, Int.reduceLT, Int.reduceLE, Int.reduceNeg, Int.reduceBEq, Int.reduceBNe, Int.reduceEq, beq_self_eq_true, reduceCtorEq, decide_true, decide_false, if_pos, if_neg]; first | done | omega))) only [go_sem, ↓reduceIte, Nat.reduceEqDiff, Nat.reduceAdd, Nat.reduceMul, Nat.reduceSub, Nat.reduceLT, Nat.reduceLeDiff, Nat.reduceBNe, Nat.reduceBEq, Int.reduceToNat, Int.reduceAdd, Int.reduceSub, Int.reduceMul, Int.reduceLT, Int.reduceLE, Int.reduceNeg, Int.reduceBEq, Int.reduceBNe, Int.reduceEq, beq_self_eq_true, reduceCtorEq, decide_true, decide_false, if_pos, if_neg] <;> rfl) | fail) ?_
      rw [List.take_of_length_le (by omega), List.take_of_length_le (by omega), vA, vB] at i5
      have hvl := i4.val_lt (by decide)
      have hcz : c = 0 := by
        by_cases hc : c = 0
        · exact hc
        · have c1 : c = 1 := by omega
          rw [c1, Int.one_mul] at i5
          omega
      rw [hcz, Int.zero_mul, Int.sub_zero] at i5
      have hfin : val BQ S = ((a - b : Nat) : Int) := by omega
      have hcut := rCut' (L := S) (n := S.length) rfl i4 hfin
      rw [hS] at hcut; refine go ?_; refine callz (hcut) ?_; refine go ?_; refine R_ret (finA [])
  · simp only [if_neg hC]
    refine go ?_
    refine cnd (fun h => ?_) (fun h => ?_)
    · simp only [decide_eq_true_eq, decide_eq_false_iff_not, Bool.or_eq_true, Bool.and_eq_true, Bool.or_eq_false_iff, Bool.and_eq_false_iff, Bool.not_eq_true', Bool.not_eq_false', bne_iff_ne, beq_iff_eq, ne_eq, bne_eq_false_iff_eq, beq_eq_false_iff_ne, ge_iff_le, gt_iff_lt, Int.not_le, Int.not_lt] at h
      refine go ?_
      refine cnd (fun h => ?_) (fun h => ?_)
      · simp only [decide_eq_true_eq, decide_eq_false_iff_not, Bool.or_eq_true, Bool.and_eq_true, Bool.or_eq_false_iff, Bool.and_eq_false_iff, Bool.not_eq_true', Bool.not_eq_false', bne_iff_ne, beq_iff_eq, ne_eq, bne_eq_false_iff_eq, beq_eq_false_iff_ne, ge_iff_le, gt_iff_lt, Int.not_le, Int.not_lt] at h
        refine go ?_
        refine cnd (fun h => ?_) (fun h => ?_)
        · simp only [decide_eq_true_eq, decide_eq_false_iff_not, Bool.or_eq_true, Bool.and_eq_true, Bool.or_eq_false_iff, Bool.and_eq_false_iff, Bool.not_eq_true', Bool.not_eq_false', bne_iff_ne, beq_iff_eq, ne_eq, bne_eq_false_iff_eq, beq_eq_false_iff_ne, ge_iff_le, gt_iff_lt, Int.not_le, Int.not_lt] at h
          have hx := hstep (A.getD S.length 0 - c - B.getD S.length 0 + 10000) 1 (by omega) (by omega) (by omega) (by omega) (by omega) (by omega)
          refine go ?_
          refine R_nilR ⟨[2], _, ?_, (_, _), hx.1, hx.2, rfl⟩; exact lessA
        · simp only [decide_eq_true_eq, decide_eq_false_iff_not, Bool.or_eq_true, Bool.and_eq_true, Bool.or_eq_false_iff, Bool.and_eq_false_iff, Bool.not_eq_true', Bool.not_eq_false', bne_iff_ne, beq_iff_eq, ne_eq, bne_eq_false_iff_eq, beq_eq_false_iff_ne, ge_iff_le, gt_iff_lt, Int.not_le, Int.not_lt] at h
          have hx := hstep (A.getD S.length 0 - c - B.getD S.length 0) 0 (by omega) (by omega) (by omega) (by omega) (by omega) (by omega)
          refine go ?_
          refine R_nilR ⟨[2], _, ?_, (_, _), hx.1, hx.2, rfl⟩; exact lessA
      · simp only [decide_eq_true_eq, decide_eq_false_iff_not, Bool.or_eq_true, Bool.and_eq_true, Bool.or_eq_false_iff, Bool.and_eq_false_iff, Bool.not_eq_true', Bool.not_eq_false', bne_iff_ne, beq_iff_eq, ne_eq, bne_eq_false_iff_eq, beq_eq_false_iff_ne, ge_iff_le, gt_iff_lt, Int.not_le, Int.not_lt] at h
        have z2 := gout B S.length (by omega)
        refine go ?_
        refine cnd (fun h => ?_) (fun h => ?_)
        · simp only [decide_eq_true_eq, decide_eq_false_iff_not, Bool.or_eq_true, Bool.and_eq_true, Bool.or_eq_false_iff, Bool.and_eq_false_iff, Bool.not_eq_true', Bool.not_eq_false', bne_iff_ne, beq_iff_eq, ne_eq, bne_eq_false_iff_eq, beq_eq_false_iff_ne, ge_iff_le, gt_iff_lt, Int.not_le, Int.not_lt] at h
          have hx := hstep (A.getD S.length 0 - c + 10000) 1 (by omega) (by omega) (by omega) (by omega) (by omega) (by omega)
          refine go ?_
          refine R_nilR ⟨[2], _, ?_, (_, _), hx.1, hx.2, rfl⟩; exact lessA
        · simp only [decide_eq_true_eq, decide_eq_false_iff_not, Bool.or_eq_true, Bool.and_eq_true, Bool.or_eq_false_iff, Bool.and_eq_false_iff, Bool.not_eq_true', Bool.not_eq_false', bne_iff_ne, beq_iff_eq, ne_eq, bne_eq_false_iff_eq, beq_eq_false_iff_ne, ge_iff_le, gt_iff_lt, Int.not_le, Int.not_lt] at h
          have hx := hstep (A.getD S.length 0 - c) 0 (by omega) (by omega) (by omega) (by omega) (by omega) (by omega)
          refine go ?_
          refine R_nilR ⟨[2], _, ?_, (_, _), hx.1, hx.2, rfl⟩; exact lessA
    · simp only [decide_eq_true_eq, decide_eq_false_iff_not, Bool.or_eq_true, Bool.and_eq_true, Bool.or_eq_false_iff, Bool.and_eq_false_iff, Bool.not_eq_true', Bool.not_eq_false', bne_iff_ne, beq_iff_eq, ne_eq, bne_eq_false_iff_eq, beq_eq_false_iff_ne, ge_iff_le, gt_iff_lt, Int.not_le, Int.not_lt] at h
      skip
      rw [List.take_of_length_le (by omega), List.take_of_length_le (by omega), vA, vB] at i5
      have hvl := i4.val_lt (by decide)
      have hcz : c = 0 := by
        by_cases hc : c = 0
        · exact hc
        · have c1 : c = 1 := by omega
          rw [c1, Int.one_mul] at i5
          omega
      rw [hcz, Int.zero_mul, Int.sub_zero] at i5
      have hfin : val BQ S = ((a - b : Nat) : Int) := by omega
      have hcut := rCut' (L := S) (n := S.length) rfl i4 hfin
      refine go ?_; refine callz (hcut) ?_; refine go ?_; refine R_ret (finA [])
end Go.Proofs.YtglnkfpmogaifaaGreatDoor.V

/-
  The reference's product.
-/
set_option linter.unusedSimpArgs false
set_option linter.unusedVariables false
set_option maxHeartbeats 8000000
namespace Go.Proofs.YtglnkfpmogaifaaGreatDoor.V
open Go Go.Proofs Go.RowKit Go.Lib

theorem mul_bd {x y : Int} (h1 : 0 ≤ x ∧ x < 10000) (h2 : 0 ≤ y ∧ y < 10000) : 0 ≤ x * y ∧ x * y ≤ 99980001 := by
  obtain ⟨n, rfl⟩ : ∃ n : Nat, x = n := ⟨x.toNat, by omega⟩
  obtain ⟨m, rfl⟩ : ∃ m : Nat, y = m := ⟨y.toNat, by omega⟩
  have := Nat.mul_le_mul (show n ≤ 9999 by omega) (show m ≤ 9999 by omega)
  rw [← Int.natCast_mul]
  omega
theorem rProd {a b : Nat} (h : lq a + lq b ≤ 1000000000) : Con Tryz.prog 87 [is a, is b] (is (a * b)) [] := by
  obtain ⟨A, hA⟩ : ∃ A, A = dig BQ a := ⟨_, rfl⟩
  obtain ⟨B, hB⟩ : ∃ B, B = dig BQ b := ⟨_, rfl⟩
  have dA : Dg BQ A := hA ▸ dg_dig BQ2 a
  have dB : Dg BQ B := hB ▸ dg_dig BQ2 b
  have vA : val BQ A = a := hA ▸ val_dig BQ2 a
  have vB : val BQ B = b := hB ▸ val_dig BQ2 b
  unfold lq at h
  show Con _ _ [isl (dig BQ a), isl (dig BQ b)] _ _
  rw [← hA, ← hB] at h ⊢
  obtain ⟨N, hN⟩ : ∃ N, N = A.length + B.length := ⟨_, rfl⟩
  have hNI : (A.length : Int) + (B.length : Int) = N := by omega
  refine Con.of_body [(0, isl A), (1, isl B)] Tryz.func87 rfl ca87 63 rfl (by simp) rfl ?_; refine T_of_R ?_
  refine go ?_
  rw [hNI]
  refine go ?_
  refine R_sl 0 (by first | (simp (disch := (first | omega | (simp only [go_sem, ↓reduceIte, Nat.reduceEqDiff, Nat.reduceAdd, Nat.reduceMul, Nat.reduceSub, Nat.reduceLT, Nat.reduceLeDiff, Nat.reduceBNe, Nat.reduceBEq, Int.reduceToNat, Int.reduceAdd, Int.reduceSub, Int.reduceMul, Int.reduceLT, Int.reduceLE, Int.reduceNeg, Int.reduceBEq, Int.reduceBNe, Int.reduceEq, beq_self_eq_true, reduceCtorEq, decide_true, decide_false, if_pos, if_neg]; first | done | omega))) only [go_sem, ↓reduceIte, Nat.reduceEqDiff, Nat.reduceAdd, Nat.reduceMul, Nat.reduceSub, Nat.reduceLT, Nat.reduceLeDiff, Nat.reduceBNe, Nat.reduceBEq, Int.reduceToNat, Int.reduceAdd, Int.reduceSub, Int.reduceMul, Int.reduceLT, Int.reduceLE, Int.reduceNeg, Int.reduceBEq, Int.reduceBNe, Int.reduceEq, beq_self_eq_true, reduceCtorEq, decide_true, decide_false, if_pos, if_neg] <;> rfl) | fail) fun hn => ?_
  refine R_sl 1 (by first | (simp (disch := (first | omega | (simp only [go_sem, ↓reduceIte, Nat.reduceEqDiff, Nat.reduceAdd, Nat.reduceMul, Nat.reduceSub, Nat.reduceLT, Nat.reduceLeDiff, Nat.reduceBNe, Nat.reduceBEq, Int.reduceToNat, Int.reduceAdd, Int.reduceSub, Int.reduceMul, Int.reduceLT, Int.reduceLE, Int.reduceNeg, Int.reduceBEq, Int.reduceBNe, Int.reduceEq, beq_self_eq_true, reduceCtorEq, decide_true, decide_false, if_pos, if_neg]; first | done | omega))) only [go_sem, ↓reduceIte, Nat.reduceEqDiff, Nat.reduceAdd, Nat.reduceMul, Nat.reduceSub, Nat.reduceLT, Nat.reduceLeDiff, Nat.reduceBNe, Nat.reduceBEq, Int.reduceToNat, Int.reduceAdd, Int.reduceSub, Int.reduceMul, Int.reduceLT, Int.reduceLE, Int.reduceNeg, Int.reduceBEq, Int.reduceBNe, Int.reduceEq, beq_self_eq_true, reduceCtorEq, decide_true, decide_false, if_pos, if_neg] <;> rfl) | fail) fun hn' => ?_
  refine R_loop (fun p : Nat × List Int => ⟨tl [(0, isl A), (1, isl B), (5, .rf 0 0 N 1), (6, .sc (.int .i64 p.1))], ol [(0, ⟨ints .i64 p.2, 3, 1, false⟩)], 1, [], 63⟩)
    (fun p => p.1 ≤ A.length ∧ p.2.length = N ∧ Dg BQ p.2 ∧ val BQ p.2 = val BQ (A.take p.1) * b ∧ ∀ j, p.1 + B.length ≤ j → p.2.getD j 0 = 0)
    (fun p => A.length - p.1) (0, List.replicate N 0) [0] lessA ⟨by omega, by simp, dg_zeros (by decide) _, by rw [val_zeros]; simp [val], fun j _ => gzeros _ _⟩ fun p hi => ?_
  obtain ⟨i, C⟩ := p
  obtain ⟨i1, i2, i3, i4, i5⟩ := hi
  simp only at i1 i2 i3 i4 i5
  simp only
  refine go ?_
  refine cnd (fun h => ?_) (fun h => ?_)
  · simp only [decide_eq_true_eq, decide_eq_false_iff_not, Bool.or_eq_true, Bool.and_eq_true, Bool.or_eq_false_iff, Bool.and_eq_false_iff, Bool.not_eq_true', Bool.not_eq_false', bne_iff_ne, beq_iff_eq, ne_eq, bne_eq_false_iff_eq, beq_eq_false_iff_ne, ge_iff_le, gt_iff_lt, Int.not_le, Int.not_lt] at h
    have hiA : i < A.length := by omega
    have bA := dA.toQ i
    refine go ?_
    refine R_loop (fun q : Nat × Int × List Int => ⟨tl [(0, isl A), (1, isl B), (5, .rf 0 0 N 1), (6, .sc (.int .i64 i)), (7, .sc (.int .i64 q.2.1)), (8, .sc (.int .i64 q.1))], ol [(0, ⟨ints .i64 q.2.2, 3, 1, false⟩)], 1, [], 63⟩)
      (fun q => q.1 ≤ B.length ∧ 0 ≤ q.2.1 ∧ q.2.1 < 10000 ∧ q.2.2.length = N ∧ Dg BQ q.2.2 ∧ val BQ q.2.2 + q.2.1 * ((BQ ^ (i + q.1) : Nat) : Int) = val BQ (A.take i) * b + A.getD i 0 * ((BQ ^ i : Nat) : Int) * val BQ (B.take q.1) ∧ ∀ j, i + B.length ≤ j → q.2.2.getD j 0 = 0)
      (fun q => B.length - q.1) (0, 0, C) [0] lessA ⟨by omega, Int.le_refl _, by simp only; omega, i2, i3, by rw [i4]; simp [val], i5⟩ fun q hj => ?_
    obtain ⟨j, c, E⟩ := q
    obtain ⟨j1, j2, j3, j4, j5, j6, j7⟩ := hj
    simp only at j1 j2 j3 j4 j5 j6 j7
    simp only
    refine go ?_
    refine cnd (fun h => ?_) (fun h => ?_)
    · simp only [decide_eq_true_eq, decide_eq_false_iff_not, Bool.or_eq_true, Bool.and_eq_true, Bool.or_eq_false_iff, Bool.and_eq_false_iff, Bool.not_eq_true', Bool.not_eq_false', bne_iff_ne, beq_iff_eq, ne_eq, bne_eq_false_iff_eq, beq_eq_false_iff_ne, ge_iff_le, gt_iff_lt, Int.not_le, Int.not_lt] at h
      have hjB : j < B.length := by omega
      have bB := dB.toQ j
      have bE := j5.toQ ((i : Int) + (j : Int)).toNat
      have bE' := j5.toQ (i + j)
      have bm := mul_bd bA bB
      have hij : ((i : Int) + (j : Int)).toNat = i + j := by omega
      obtain ⟨X, hX⟩ : ∃ X, X = c + E.getD (i + j) 0 + A.getD i 0 * B.getD j 0 := ⟨_, rfl⟩
      have hX0 : 0 ≤ X := by omega
      refine go ?_
      rw [hij, ← hX, tmod_nn hX0, tdiv_nn hX0]
      have hmd : X % 10000 + 10000 * (X / 10000) = X := Int.emod_add_mul_ediv X 10000
      have tB := val_take_succ' BQ B j
      have hp := powQ (i + j)
      have hpj : ((BQ ^ (i + j) : Nat) : Int) = ((BQ ^ i : Nat) : Int) * ((BQ ^ j : Nat) : Int) := by rw [Nat.pow_add, Int.natCast_mul]
      refine R_nilR ⟨[0], _, ?_, (j + 1, X / 10000, E.set (i + j) (X % 10000)), ⟨by simp only; omega, by simp only; omega, by simp only; omega, by simp only [List.length_set]; exact j4, j5.set (by omega) (by show _ < (10000 : Int); omega), ?_, ?_⟩, by simp only; omega, rfl⟩; exact lessA
      · show val BQ (E.set (i + j) (X % 10000)) + X / 10000 * ((BQ ^ (i + j + 1) : Nat) : Int) = val BQ (A.take i) * b + A.getD i 0 * ((BQ ^ i : Nat) : Int) * val BQ (B.take (j + 1))
        rw [val_set _ _ _ _ (by omega), tB, hp]
        rw [hpj] at j6 ⊢
        generalize X % 10000 = r at hmd ⊢
        generalize X / 10000 = q at hmd ⊢
        generalize ((BQ ^ i : Nat) : Int) = P at j6 ⊢
        generalize ((BQ ^ j : Nat) : Int) = R at j6 ⊢
        grind
      · intro k hk
        show (E.set (i + j) (X % 10000)).getD k 0 = 0
        rw [gset _ _ _ _ (by omega), if_neg (by omega)]
        exact j7 k hk
    · simp only [decide_eq_true_eq, decide_eq_false_iff_not, Bool.or_eq_true, Bool.and_eq_true, Bool.or_eq_false_iff, Bool.and_eq_false_iff, Bool.not_eq_true', Bool.not_eq_false', bne_iff_ne, beq_iff_eq, ne_eq, bne_eq_false_iff_eq, beq_eq_false_iff_ne, ge_iff_le, gt_iff_lt, Int.not_le, Int.not_lt] at h
      obtain rfl : j = B.length := by omega
      rw [List.take_length, vB] at j6
      have tA := val_take_succ' BQ A i
      refine go ?_
      have hz := j7 (i + B.length) (Nat.le_refl _)
      have hiN : ((i : Int) + (B.length : Int)).toNat = i + B.length := by omega
      refine R_nilR ⟨[0], _, ?_, (i + 1, E.set (i + B.length) c), ⟨by simp only; omega, by simp only [List.length_set]; exact j4, j5.set (by omega) (by show _ < (10000 : Int); omega), ?_, ?_⟩, by simp only; omega, rfl⟩; exact (Less.mk' (by simp (disch := (first | omega | (simp only [go_sem, ↓reduceIte, Nat.reduceEqDiff, Nat.reduceAdd, Nat.reduceMul, Nat.reduceSub, Nat.reduceLT, Nat.reduceLeDiff, Nat.reduceBNe, Nat.reduceBEq, Int.reduceToNat, Int.reduceAdd, Int.reduceSub, Int.reduceMul, Int.reduceLT, Int.reduceLE, Int.reduceNeg, Int.reduceBEq, Int.reduceBNe, Int.reduceEq, beq_self_eq_true, reduceCtorEq, decide_true, decide_false, if_pos, if_neg]; first | done | omega))) only [go_sem, ↓reduceIte, Nat.reduceEqDiff, Nat.reduceAdd, Nat.reduceMul, Nat.reduceSub, Nat.reduceLT, Nat.reduceLeDiff, Nat.reduceBNe, Nat.reduceBEq, Int.reduceToNat, Int.reduceAdd, Int.reduceSub, Int.reduceMul, Int.reduceLT, Int.reduceLE, Int.reduceNeg, Int.reduceBEq, Int.reduceBNe, Int.reduceEq, beq_self_eq_true, reduceCtorEq, decide_true, decide_false, if_pos, if_neg, hiN]) (by simp (disch := (first | omega | (simp only [go_sem, ↓reduceIte, Nat.reduceEqDiff, Nat.reduceAdd, Nat.reduceMul, Nat.reduceSub, Nat.reduceLT, Nat.reduceLeDiff, Nat.reduceBNe, Nat.reduceBEq, Int.reduceToNat, Int.reduceAdd, Int.reduceSub, Int.reduceMul, Int.reduceLT, Int.reduceLE, Int.reduceNeg, Int.reduceBEq, Int.reduceBNe, Int.reduceEq, beq_self_eq_true, reduceCtorEq, decide_true, decide_false, if_pos, if_neg]; first | done | omega))) only [go_sem, ↓reduceIte, Nat.reduceEqDiff, Nat.reduceAdd, Nat.reduceMul, Nat.reduceSub, Nat.reduceLT, Nat.reduceLeDiff, Nat.reduceBNe, Nat.reduceBEq, Int.reduceToNat, Int.reduceAdd, Int.reduceSub, Int.reduceMul, Int.reduceLT, Int.reduceLE, Int.reduceNeg, Int.reduceBEq, Int.reduceBNe, Int.reduceEq, beq_self_eq_true, reduceCtorEq, decide_true, decide_false, if_pos, if_neg, hiN]) (by decide) (by decide))
      · show val BQ (E.set (i + B.length) c) = val BQ (A.take (i + 1)) * b
        rw [val_set _ _ _ _ (by omega), tA, hz]
        grind
      · intro k hk
        show (E.set (i + B.length) c).getD k 0 = 0
        rw [gset _ _ _ _ (by omega), if_neg (by omega)]
        exact j7 k (by omega)
  · simp only [decide_eq_true_eq, decide_eq_false_iff_not, Bool.or_eq_true, Bool.and_eq_true, Bool.or_eq_false_iff, Bool.and_eq_false_iff, Bool.not_eq_true', Bool.not_eq_false', bne_iff_ne, beq_iff_eq, ne_eq, bne_eq_false_iff_eq, beq_eq_false_iff_ne, ge_iff_le, gt_iff_lt, Int.not_le, Int.not_lt] at h
    have hfin : val BQ C = ((a * b : Nat) : Int) := by rw [i4, List.take_of_length_le (by omega), vA, Int.natCast_mul]
    have hcut := rCut' (L := C) i2 i3 hfin
    refine go ?_
    refine callz (hcut) ?_
    refine go ?_
    refine R_ret (finA [])
end Go.Proofs.YtglnkfpmogaifaaGreatDoor.V

/-
  The reference's order, Plus, Minus, Times, Order.
-/
set_option linter.unusedSimpArgs false
set_option linter.unusedVariables false
set_option maxHeartbeats 8000000
namespace Go.Proofs.YtglnkfpmogaifaaGreatDoor.V
open Go Go.Proofs Go.RowKit Go.Lib

theorem top_ne {A B : List Int} (hl : A.length = B.length) (hne : A ≠ B) : ∃ n, n < A.length ∧ A.drop (n + 1) = B.drop (n + 1) ∧ A.getD n 0 ≠ B.getD n 0 := by
  have key : ∀ d k, k + d = A.length → A.drop k = B.drop k ∨ ∃ n, n < A.length ∧ A.drop (n + 1) = B.drop (n + 1) ∧ A.getD n 0 ≠ B.getD n 0 := by
    intro d
    induction d with
    | zero => intro k hk; exact .inl (by rw [List.drop_eq_nil_of_le (by omega), List.drop_eq_nil_of_le (by omega)])
    | succ d ih =>
      intro k hk
      rcases ih (k + 1) (by omega) with h | h
      · by_cases e : A.getD k 0 = B.getD k 0
        · refine .inl ?_
          have g1 : k < A.length := by omega
          have g2 : k < B.length := by omega
          rw [List.drop_eq_getElem_cons g1, List.drop_eq_getElem_cons g2, h]
          congr 1
          simpa [List.getD_eq_getElem?_getD, g1, g2] using e
        · exact .inr ⟨k, by omega, h, e⟩
      · exact .inr h
  rcases key A.length 0 (by omega) with h | h
  · exact (hne (by simpa using h)).elim
  · exact h
theorem rOrd (a b : Nat) : ∃ o : Int, (0 ≤ o ↔ b ≤ a) ∧ Con Tryz.prog 85 [is a, is b] (.sc (.int .i64 o)) [] := by
  obtain ⟨A, hA⟩ : ∃ A, A = dig BQ a := ⟨_, rfl⟩
  obtain ⟨B, hB⟩ : ∃ B, B = dig BQ b := ⟨_, rfl⟩
  have dA : Dg BQ A := hA ▸ dg_dig BQ2 a
  have dB : Dg BQ B := hB ▸ dg_dig BQ2 b
  have vA : val BQ A = a := hA ▸ val_dig BQ2 a
  have vB : val BQ B = b := hB ▸ val_dig BQ2 b
  have hlt : A.length < B.length → a < b := by rw [hA, hB]; exact dig_length_lt BQ2
  have hgt : B.length < A.length → b < a := by rw [hA, hB]; exact dig_length_lt BQ2
  show ∃ o : Int, _ ∧ Con _ _ [isl (dig BQ a), isl (dig BQ b)] _ _
  rw [← hA, ← hB]
  by_cases hl : A.length = B.length
  · by_cases hab : A = B
    · have habN : (a : Int) = b := by rw [← vA, ← vB, hab]
      refine ⟨0, by omega, ?_⟩
      refine Con.of_body [(0, isl A), (1, isl B)] Tryz.func85 rfl ca85 41 rfl (by simp) rfl ?_; refine T_of_R ?_
      refine go ?_
      refine R_sl 0 (by first | (simp (disch := (first | omega | (simp only [go_sem, ↓reduceIte, Nat.reduceEqDiff, Nat.reduceAdd, Nat.reduceMul, Nat.reduceSub, Nat.reduceLT, Nat.reduceLeDiff, Nat.reduceBNe, Nat.reduceBEq, Int.reduceToNat, Int.reduceAdd, Int.reduceSub, Int.reduceMul, Int.reduceLT, Int.reduceLE, Int.reduceNeg, Int.reduceBEq, Int.reduceBNe, Int.reduceEq, beq_self_eq_true, reduceCtorEq, decide_true, decide_false, if_pos, if_neg]; first | done | omega))) only [go_sem, ↓reduceIte, Nat.reduceEqDiff, Nat.reduceAdd, Nat.reduceMul, Nat.reduceSub, Nat.reduceLT, Nat.reduceLeDiff, Nat.reduceBNe, Nat.reduceBEq, Int.reduceToNat, Int.reduceAdd, Int.reduceSub, Int.reduceMul, Int.reduceLT, Int.reduceLE, Int.reduceNeg, Int.reduceBEq, Int.reduceBNe, Int.reduceEq, beq_self_eq_true, reduceCtorEq, decide_true, decide_false, if_pos, if_neg] <;> rfl) | fail) fun hn => ?_
      refine R_sl 1 (by first | (simp (disch := (first | omega | (simp only [go_sem, ↓reduceIte, Nat.reduceEqDiff, Nat.reduceAdd, Nat.reduceMul, Nat.reduceSub, Nat.reduceLT, Nat.reduceLeDiff, Nat.reduceBNe, Nat.reduceBEq, Int.reduceToNat, Int.reduceAdd, Int.reduceSub, Int.reduceMul, Int.reduceLT, Int.reduceLE, Int.reduceNeg, Int.reduceBEq, Int.reduceBNe, Int.reduceEq, beq_self_eq_true, reduceCtorEq, decide_true, decide_false, if_pos, if_neg]; first | done | omega))) only [go_sem, ↓reduceIte, Nat.reduceEqDiff, Nat.reduceAdd, Nat.reduceMul, Nat.reduceSub, Nat.reduceLT, Nat.reduceLeDiff, Nat.reduceBNe, Nat.reduceBEq, Int.reduceToNat, Int.reduceAdd, Int.reduceSub, Int.reduceMul, Int.reduceLT, Int.reduceLE, Int.reduceNeg, Int.reduceBEq, Int.reduceBNe, Int.reduceEq, beq_self_eq_true, reduceCtorEq, decide_true, decide_false, if_pos, if_neg] <;> rfl) | fail) fun hn' => ?_
      refine cnd (fun h => ?_) (fun h => ?_)
      · simp only [decide_eq_true_eq, decide_eq_false_iff_not, Bool.or_eq_true, Bool.and_eq_true, Bool.or_eq_false_iff, Bool.and_eq_false_iff, Bool.not_eq_true', Bool.not_eq_false', bne_iff_ne, beq_iff_eq, ne_eq, bne_eq_false_iff_eq, beq_eq_false_iff_ne, ge_iff_le, gt_iff_lt, Int.not_le, Int.not_lt] at h
        omega
      · simp only [decide_eq_true_eq, decide_eq_false_iff_not, Bool.or_eq_true, Bool.and_eq_true, Bool.or_eq_false_iff, Bool.and_eq_false_iff, Bool.not_eq_true', Bool.not_eq_false', bne_iff_ne, beq_iff_eq, ne_eq, bne_eq_false_iff_eq, beq_eq_false_iff_ne, ge_iff_le, gt_iff_lt, Int.not_le, Int.not_lt] at h
        have hlI : (A.length : Int) = B.length := by omega
        refine go ?_
        refine R_loop (fun k : Nat => ⟨tl [(0, isl A), (1, isl B), (5, .sc (.int .i64 ((k : Int) - 1)))], ol [], 0, [], 41⟩) (fun k => k ≤ A.length ∧ True ∧ A.drop k = B.drop k) (fun k => k) A.length [] lessA ⟨Nat.le_refl _, trivial, by rw [List.drop_eq_nil_of_le (by omega), List.drop_eq_nil_of_le (by omega)]⟩ fun k hi => ?_
        have hx : ((k : Int) - 1).toNat = k - 1 := by omega
        refine go ?_
        refine cnd (fun h => ?_) (fun h => ?_)
        · simp only [decide_eq_true_eq, decide_eq_false_iff_not, Bool.or_eq_true, Bool.and_eq_true, Bool.or_eq_false_iff, Bool.and_eq_false_iff, Bool.not_eq_true', Bool.not_eq_false', bne_iff_ne, beq_iff_eq, ne_eq, bne_eq_false_iff_eq, beq_eq_false_iff_ne, ge_iff_le, gt_iff_lt, Int.not_le, Int.not_lt] at h
          have hk1 : k - 1 + 1 = k := by omega
          refine go ?_
          refine cnd (fun h => ?_) (fun h => ?_)
          · simp only [decide_eq_true_eq, decide_eq_false_iff_not, Bool.or_eq_true, Bool.and_eq_true, Bool.or_eq_false_iff, Bool.and_eq_false_iff, Bool.not_eq_true', Bool.not_eq_false', bne_iff_ne, beq_iff_eq, ne_eq, bne_eq_false_iff_eq, beq_eq_false_iff_ne, ge_iff_le, gt_iff_lt, Int.not_le, Int.not_lt] at h
            rw [hx] at h
            exact absurd (by rw [hab]) h
          · simp only [decide_eq_true_eq, decide_eq_false_iff_not, Bool.or_eq_true, Bool.and_eq_true, Bool.or_eq_false_iff, Bool.and_eq_false_iff, Bool.not_eq_true', Bool.not_eq_false', bne_iff_ne, beq_iff_eq, ne_eq, bne_eq_false_iff_eq, beq_eq_false_iff_ne, ge_iff_le, gt_iff_lt, Int.not_le, Int.not_lt] at h
            rw [hx] at h
            have hy : ((k : Int) - 1 - 1) = ((k - 1 : Nat) : Int) - 1 := by omega
            refine go ?_
            refine R_nilR ⟨[], _, ?_, k - 1, ⟨by omega, trivial, by
              have g1 : k - 1 < A.length := by omega
              have g2 : k - 1 < B.length := by omega
              rw [List.drop_eq_getElem_cons g1, List.drop_eq_getElem_cons g2, hk1, hi.2.2]
              congr 1
              simpa [List.getD_eq_getElem?_getD, g1, g2] using h⟩, by omega, rfl⟩; exact (Less.mk' (by simp (disch := (first | omega | (simp only [go_sem, ↓reduceIte, Nat.reduceEqDiff, Nat.reduceAdd, Nat.reduceMul, Nat.reduceSub, Nat.reduceLT, Nat.reduceLeDiff, Nat.reduceBNe, Nat.reduceBEq, Int.reduceToNat, Int.reduceAdd, Int.reduceSub, Int.reduceMul, Int.reduceLT, Int.reduceLE, Int.reduceNeg, Int.reduceBEq, Int.reduceBNe, Int.reduceEq, beq_self_eq_true, reduceCtorEq, decide_true, decide_false, if_pos, if_neg]; first | done | omega))) only [go_sem, ↓reduceIte, Nat.reduceEqDiff, Nat.reduceAdd, Nat.reduceMul, Nat.reduceSub, Nat.reduceLT, Nat.reduceLeDiff, Nat.reduceBNe, Nat.reduceBEq, Int.reduceToNat, Int.reduceAdd, Int.reduceSub, Int.reduceMul, Int.reduceLT, Int.reduceLE, Int.reduceNeg, Int.reduceBEq, Int.reduceBNe, Int.reduceEq, beq_self_eq_true, reduceCtorEq, decide_true, decide_false, if_pos, if_neg, hy]) (by simp (disch := (first | omega | (simp only [go_sem, ↓reduceIte, Nat.reduceEqDiff, Nat.reduceAdd, Nat.reduceMul, Nat.reduceSub, Nat.reduceLT, Nat.reduceLeDiff, Nat.reduceBNe, Nat.reduceBEq, Int.reduceToNat, Int.reduceAdd, Int.reduceSub, Int.reduceMul, Int.reduceLT, Int.reduceLE, Int.reduceNeg, Int.reduceBEq, Int.reduceBNe, Int.reduceEq, beq_self_eq_true, reduceCtorEq, decide_true, decide_false, if_pos, if_neg]; first | done | omega))) only [go_sem, ↓reduceIte, Nat.reduceEqDiff, Nat.reduceAdd, Nat.reduceMul, Nat.reduceSub, Nat.reduceLT, Nat.reduceLeDiff, Nat.reduceBNe, Nat.reduceBEq, Int.reduceToNat, Int.reduceAdd, Int.reduceSub, Int.reduceMul, Int.reduceLT, Int.reduceLE, Int.reduceNeg, Int.reduceBEq, Int.reduceBNe, Int.reduceEq, beq_self_eq_true, reduceCtorEq, decide_true, decide_false, if_pos, if_neg, hy]) (by decide) (by decide))
        · simp only [decide_eq_true_eq, decide_eq_false_iff_not, Bool.or_eq_true, Bool.and_eq_true, Bool.or_eq_false_iff, Bool.and_eq_false_iff, Bool.not_eq_true', Bool.not_eq_false', bne_iff_ne, beq_iff_eq, ne_eq, bne_eq_false_iff_eq, beq_eq_false_iff_ne, ge_iff_le, gt_iff_lt, Int.not_le, Int.not_lt] at h
          refine go ?_; refine R_ret (finA [])
    · obtain ⟨n, hn1, hn2, hn3⟩ := top_ne hl hab
      refine ⟨A.getD n 0 - B.getD n 0, ?_, ?_⟩
      · rcases Int.lt_or_gt_of_ne hn3 with h | h
        · have := val_less (by decide) dA dB hn1 (by omega) hn2 h
          omega
        · have := val_less (by decide) dB dA (by omega) hn1 hn2.symm h
          omega
      · have bA := dA.toQ n
        have bB := dB.toQ n
        have hne : ∀ k, n < k → k ≤ A.length → A.getD (k - 1) 0 = B.getD (k - 1) 0 → k - 1 ≠ n := fun k h1 h2 h3 h4 => hn3 (by rw [← h4]; exact h3)
        have hgt2 : ∀ k, n < k - 1 → A.getD (k - 1) 0 = B.getD (k - 1) 0 := fun k hk => by
          have h1 : (A.drop (n + 1)).getD (k - 1 - (n + 1)) 0 = (B.drop (n + 1)).getD (k - 1 - (n + 1)) 0 := by rw [hn2]
          rwa [getD_drop, getD_drop, show n + 1 + (k - 1 - (n + 1)) = k - 1 by omega] at h1
        refine Con.of_body [(0, isl A), (1, isl B)] Tryz.func85 rfl ca85 41 rfl (by simp) rfl ?_; refine T_of_R ?_
        refine go ?_
        refine R_sl 0 (by first | (simp (disch := (first | omega | (simp only [go_sem, ↓reduceIte, Nat.reduceEqDiff, Nat.reduceAdd, Nat.reduceMul, Nat.reduceSub, Nat.reduceLT, Nat.reduceLeDiff, Nat.reduceBNe, Nat.reduceBEq, Int.reduceToNat, Int.reduceAdd, Int.reduceSub, Int.reduceMul, Int.reduceLT, Int.reduceLE, Int.reduceNeg, Int.reduceBEq, Int.reduceBNe, Int.reduceEq, beq_self_eq_true, reduceCtorEq, decide_true, decide_false, if_pos, if_neg]; first | done | omega))) only [go_sem, ↓reduceIte, Nat.reduceEqDiff, Nat.reduceAdd, Nat.reduceMul, Nat.reduceSub, Nat.reduceLT, Nat.reduceLeDiff, Nat.reduceBNe, Nat.reduceBEq, Int.reduceToNat, Int.reduceAdd, Int.reduceSub, Int.reduceMul, Int.reduceLT, Int.reduceLE, Int.reduceNeg, Int.reduceBEq, Int.reduceBNe, Int.reduceEq, beq_self_eq_true, reduceCtorEq, decide_true, decide_false, if_pos, if_neg] <;> rfl) | fail) fun hn => ?_
        refine R_sl 1 (by first | (simp (disch := (first | omega | (simp only [go_sem, ↓reduceIte, Nat.reduceEqDiff, Nat.reduceAdd, Nat.reduceMul, Nat.reduceSub, Nat.reduceLT, Nat.reduceLeDiff, Nat.reduceBNe, Nat.reduceBEq, Int.reduceToNat, Int.reduceAdd, Int.reduceSub, Int.reduceMul, Int.reduceLT, Int.reduceLE, Int.reduceNeg, Int.reduceBEq, Int.reduceBNe, Int.reduceEq, beq_self_eq_true, reduceCtorEq, decide_true, decide_false, if_pos, if_neg]; first | done | omega))) only [go_sem, ↓reduceIte, Nat.reduceEqDiff, Nat.reduceAdd, Nat.reduceMul, Nat.reduceSub, Nat.reduceLT, Nat.reduceLeDiff, Nat.reduceBNe, Nat.reduceBEq, Int.reduceToNat, Int.reduceAdd, Int.reduceSub, Int.reduceMul, Int.reduceLT, Int.reduceLE, Int.reduceNeg, Int.reduceBEq, Int.reduceBNe, Int.reduceEq, beq_self_eq_true, reduceCtorEq, decide_true, decide_false, if_pos, if_neg] <;> rfl) | fail) fun hn' => ?_
        refine cnd (fun h => ?_) (fun h => ?_)
        · simp only [decide_eq_true_eq, decide_eq_false_iff_not, Bool.or_eq_true, Bool.and_eq_true, Bool.or_eq_false_iff, Bool.and_eq_false_iff, Bool.not_eq_true', Bool.not_eq_false', bne_iff_ne, beq_iff_eq, ne_eq, bne_eq_false_iff_eq, beq_eq_false_iff_ne, ge_iff_le, gt_iff_lt, Int.not_le, Int.not_lt] at h
          omega
        · simp only [decide_eq_true_eq, decide_eq_false_iff_not, Bool.or_eq_true, Bool.and_eq_true, Bool.or_eq_false_iff, Bool.and_eq_false_iff, Bool.not_eq_true', Bool.not_eq_false', bne_iff_ne, beq_iff_eq, ne_eq, bne_eq_false_iff_eq, beq_eq_false_iff_ne, ge_iff_le, gt_iff_lt, Int.not_le, Int.not_lt] at h
          have hlI : (A.length : Int) = B.length := by omega
          refine go ?_
          refine R_loop (fun k : Nat => ⟨tl [(0, isl A), (1, isl B), (5, .sc (.int .i64 ((k : Int) - 1)))], ol [], 0, [], 41⟩) (fun k => k ≤ A.length ∧ n < k ∧ A.drop k = B.drop k) (fun k => k) A.length [] lessA ⟨Nat.le_refl _, hn1, by rw [List.drop_eq_nil_of_le (by omega), List.drop_eq_nil_of_le (by omega)]⟩ fun k hi => ?_
          have hx : ((k : Int) - 1).toNat = k - 1 := by omega
          refine go ?_
          refine cnd (fun h => ?_) (fun h => ?_)
          · simp only [decide_eq_true_eq, decide_eq_false_iff_not, Bool.or_eq_true, Bool.and_eq_true, Bool.or_eq_false_iff, Bool.and_eq_false_iff, Bool.not_eq_true', Bool.not_eq_false', bne_iff_ne, beq_iff_eq, ne_eq, bne_eq_false_iff_eq, beq_eq_false_iff_ne, ge_iff_le, gt_iff_lt, Int.not_le, Int.not_lt] at h
            have hk1 : k - 1 + 1 = k := by omega
            refine go ?_
            refine cnd (fun h => ?_) (fun h => ?_)
            · simp only [decide_eq_true_eq, decide_eq_false_iff_not, Bool.or_eq_true, Bool.and_eq_true, Bool.or_eq_false_iff, Bool.and_eq_false_iff, Bool.not_eq_true', Bool.not_eq_false', bne_iff_ne, beq_iff_eq, ne_eq, bne_eq_false_iff_eq, beq_eq_false_iff_ne, ge_iff_le, gt_iff_lt, Int.not_le, Int.not_lt] at h
              rw [hx] at h
              have hkn : k - 1 = n := Classical.byContradiction fun hc => h (hgt2 k (by omega)); have hkI : ((k : Int) - 1).toNat = n := (by omega); have b1 := dA.toQ ((k : Int) - 1).toNat; have b2 := dB.toQ ((k : Int) - 1).toNat; refine go ?_; rw [hkI]; refine R_ret (finA [])
            · simp only [decide_eq_true_eq, decide_eq_false_iff_not, Bool.or_eq_true, Bool.and_eq_true, Bool.or_eq_false_iff, Bool.and_eq_false_iff, Bool.not_eq_true', Bool.not_eq_false', bne_iff_ne, beq_iff_eq, ne_eq, bne_eq_false_iff_eq, beq_eq_false_iff_ne, ge_iff_le, gt_iff_lt, Int.not_le, Int.not_lt] at h
              rw [hx] at h
              have hy : ((k : Int) - 1 - 1) = ((k - 1 : Nat) : Int) - 1 := by omega
              refine go ?_
              refine R_nilR ⟨[], _, ?_, k - 1, ⟨by omega, by have := hne k hi.2.1 hi.1 h; omega, by
                have g1 : k - 1 < A.length := by omega
                have g2 : k - 1 < B.length := by omega
                rw [List.drop_eq_getElem_cons g1, List.drop_eq_getElem_cons g2, hk1, hi.2.2]
                congr 1
                simpa [List.getD_eq_getElem?_getD, g1, g2] using h⟩, by omega, rfl⟩; exact (Less.mk' (by simp (disch := (first | omega | (simp only [go_sem, ↓reduceIte, Nat.reduceEqDiff, Nat.reduceAdd, Nat.reduceMul, Nat.reduceSub, Nat.reduceLT, Nat.reduceLeDiff, Nat.reduceBNe, Nat.reduceBEq, Int.reduceToNat, Int.reduceAdd, Int.reduceSub, Int.reduceMul, Int.reduceLT, Int.reduceLE, Int.reduceNeg, Int.reduceBEq, Int.reduceBNe, Int.reduceEq, beq_self_eq_true, reduceCtorEq, decide_true, decide_false, if_pos, if_neg]; first | done | omega))) only [go_sem, ↓reduceIte, Nat.reduceEqDiff, Nat.reduceAdd, Nat.reduceMul, Nat.reduceSub, Nat.reduceLT, Nat.reduceLeDiff, Nat.reduceBNe, Nat.reduceBEq, Int.reduceToNat, Int.reduceAdd, Int.reduceSub, Int.reduceMul, Int.reduceLT, Int.reduceLE, Int.reduceNeg, Int.reduceBEq, Int.reduceBNe, Int.reduceEq, beq_self_eq_true, reduceCtorEq, decide_true, decide_false, if_pos, if_neg, hy]) (by simp (disch := (first | omega | (simp only [go_sem, ↓reduceIte, Nat.reduceEqDiff, Nat.reduceAdd, Nat.reduceMul, Nat.reduceSub, Nat.reduceLT, Nat.reduceLeDiff, Nat.reduceBNe, Nat.reduceBEq, Int.reduceToNat, Int.reduceAdd, Int.reduceSub, Int.reduceMul, Int.reduceLT, Int.reduceLE, Int.reduceNeg, Int.reduceBEq, Int.reduceBNe, Int.reduceEq, beq_self_eq_true, reduceCtorEq, decide_true, decide_false, if_pos, if_neg]; first | done | omega))) only [go_sem, ↓reduceIte, Nat.reduceEqDiff, Nat.reduceAdd, Nat.reduceMul, Nat.reduceSub, Nat.reduceLT, Nat.reduceLeDiff, Nat.reduceBNe, Nat.reduceBEq, Int.reduceToNat, Int.reduceAdd, Int.reduceSub, Int.reduceMul, Int.reduceLT, Int.reduceLE, Int.reduceNeg, Int.reduceBEq, Int.reduceBNe, Int.reduceEq, beq_self_eq_true, reduceCtorEq, decide_true, decide_false, if_pos, if_neg, hy]) (by decide) (by decide))
          · simp only [decide_eq_true_eq, decide_eq_false_iff_not, Bool.or_eq_true, Bool.and_eq_true, Bool.or_eq_false_iff, Bool.and_eq_false_iff, Bool.not_eq_true', Bool.not_eq_false', bne_iff_ne, beq_iff_eq, ne_eq, bne_eq_false_iff_eq, beq_eq_false_iff_ne, ge_iff_le, gt_iff_lt, Int.not_le, Int.not_lt] at h
            omega
  · refine ⟨(A.length : Int) - B.length, by omega, ?_⟩
    refine Con.of_body [(0, isl A), (1, isl B)] Tryz.func85 rfl ca85 41 rfl (by simp) rfl ?_; refine T_of_R ?_
    refine go ?_
    refine R_sl 0 (by first | (simp (disch := (first | omega | (simp only [go_sem, ↓reduceIte, Nat.reduceEqDiff, Nat.reduceAdd, Nat.reduceMul, Nat.reduceSub, Nat.reduceLT, Nat.reduceLeDiff, Nat.reduceBNe, Nat.reduceBEq, Int.reduceToNat, Int.reduceAdd, Int.reduceSub, Int.reduceMul, Int.reduceLT, Int.reduceLE, Int.reduceNeg, Int.reduceBEq, Int.reduceBNe, Int.reduceEq, beq_self_eq_true, reduceCtorEq, decide_true, decide_false, if_pos, if_neg]; first | done | omega))) only [go_sem, ↓reduceIte, Nat.reduceEqDiff, Nat.reduceAdd, Nat.reduceMul, Nat.reduceSub, Nat.reduceLT, Nat.reduceLeDiff, Nat.reduceBNe, Nat.reduceBEq, Int.reduceToNat, Int.reduceAdd, Int.reduceSub, Int.reduceMul, Int.reduceLT, Int.reduceLE, Int.reduceNeg, Int.reduceBEq, Int.reduceBNe, Int.reduceEq, beq_self_eq_true, reduceCtorEq, decide_true, decide_false, if_pos, if_neg] <;> rfl) | fail) fun hn => ?_
    refine R_sl 1 (by first | (simp (disch := (first | omega | (simp only [go_sem, ↓reduceIte, Nat.reduceEqDiff, Nat.reduceAdd, Nat.reduceMul, Nat.reduceSub, Nat.reduceLT, Nat.reduceLeDiff, Nat.reduceBNe, Nat.reduceBEq, Int.reduceToNat, Int.reduceAdd, Int.reduceSub, Int.reduceMul, Int.reduceLT, Int.reduceLE, Int.reduceNeg, Int.reduceBEq, Int.reduceBNe, Int.reduceEq, beq_self_eq_true, reduceCtorEq, decide_true, decide_false, if_pos, if_neg]; first | done | omega))) only [go_sem, ↓reduceIte, Nat.reduceEqDiff, Nat.reduceAdd, Nat.reduceMul, Nat.reduceSub, Nat.reduceLT, Nat.reduceLeDiff, Nat.reduceBNe, Nat.reduceBEq, Int.reduceToNat, Int.reduceAdd, Int.reduceSub, Int.reduceMul, Int.reduceLT, Int.reduceLE, Int.reduceNeg, Int.reduceBEq, Int.reduceBNe, Int.reduceEq, beq_self_eq_true, reduceCtorEq, decide_true, decide_false, if_pos, if_neg] <;> rfl) | fail) fun hn' => ?_
    refine cnd (fun h => ?_) (fun h => ?_)
    · simp only [decide_eq_true_eq, decide_eq_false_iff_not, Bool.or_eq_true, Bool.and_eq_true, Bool.or_eq_false_iff, Bool.and_eq_false_iff, Bool.not_eq_true', Bool.not_eq_false', bne_iff_ne, beq_iff_eq, ne_eq, bne_eq_false_iff_eq, beq_eq_false_iff_ne, ge_iff_le, gt_iff_lt, Int.not_le, Int.not_lt] at h
      refine go ?_
      refine R_ret (finA [])
    · simp only [decide_eq_true_eq, decide_eq_false_iff_not, Bool.or_eq_true, Bool.and_eq_true, Bool.or_eq_false_iff, Bool.and_eq_false_iff, Bool.not_eq_true', Bool.not_eq_false', bne_iff_ne, beq_iff_eq, ne_eq, bne_eq_false_iff_eq, beq_eq_false_iff_ne, ge_iff_le, gt_iff_lt, Int.not_le, Int.not_lt] at h
      omega
end Go.Proofs.YtglnkfpmogaifaaGreatDoor.V

/-
  The reference's Plus, Minus, Times, Order, Integer, Raised.
-/
set_option linter.unusedSimpArgs false
set_option linter.unusedVariables false
set_option maxHeartbeats 8000000
namespace Go.Proofs.YtglnkfpmogaifaaGreatDoor.V
open Go Go.Proofs Go.RowKit Go.Lib

theorem sg_same {x y : Int} (h : decide (x < 0) = decide (y < 0)) : sg (decide (x < 0)) (x.natAbs + y.natAbs) = x + y := by
  unfold sg
  by_cases hx : x < 0
  · have hy : y < 0 := by rw [decide_eq_true hx] at h; simpa using h.symm
    rw [decide_eq_true hx, if_pos rfl]
    omega
  · have hy : ¬ y < 0 := by rw [decide_eq_false hx] at h; simpa using h.symm
    rw [decide_eq_false hx, if_neg (by decide)]
    omega
theorem sg_diff {x y : Int} (h : decide (x < 0) ≠ decide (y < 0)) (hl : y.natAbs ≤ x.natAbs) : sg (decide (x < 0)) (x.natAbs - y.natAbs) = x + y := by
  unfold sg
  by_cases hx : x < 0
  · have hy : ¬ y < 0 := fun hy => h (by rw [decide_eq_true hx, decide_eq_true hy])
    rw [decide_eq_true hx, if_pos rfl]
    omega
  · have hy : y < 0 := Classical.byContradiction fun hy => h (by rw [decide_eq_false hx, decide_eq_false hy])
    rw [decide_eq_false hx, if_neg (by decide)]
    omega
theorem rPlus {x y : Int} (h : lq x.natAbs + lq y.natAbs ≤ 1000000000) : Con Tryz.prog 46 [pl x, pl y] (pl (x + y)) [] := by
  obtain ⟨o, ho, hord⟩ := rOrd x.natAbs y.natAbs
  have hsum := rSum (a := x.natAbs) (b := y.natAbs) h
  by_cases hs : decide (x < 0) = decide (y < 0)
  · have hmd := rMade' (v := x.natAbs + y.natAbs) (b := decide (x < 0))
    rw [sg_same hs] at hmd
    refine Con.of_body [(0, pl x), (1, pl y)] Tryz.func46 rfl ca46 40 rfl (by simp) rfl ?_; refine T_of_R ?_
    refine go ?_
    refine cnd (fun h => ?_) (fun h => ?_)
    · refine go ?_
      refine callz (hsum) ?_
      refine go ?_
      refine callz (hmd) ?_
      refine go ?_
      refine R_ret (finA [])
    · rw [hs] at h
      simp at h
  · by_cases hl : y.natAbs ≤ x.natAbs
    · have hmd := rMade' (v := x.natAbs - y.natAbs) (b := decide (x < 0))
      rw [sg_diff hs hl] at hmd
      have hdf := rDiff hl (by omega)
      refine Con.of_body [(0, pl x), (1, pl y)] Tryz.func46 rfl ca46 40 rfl (by simp) rfl ?_; refine T_of_R ?_
      refine go ?_
      refine cnd (fun h => ?_) (fun h => ?_)
      · exact absurd (by simpa using h) hs
      · refine go ?_
        refine callz (hord) ?_
        refine go ?_
        refine cnd (fun h => ?_) (fun h => ?_)
        · refine go ?_
          refine callz (hdf) ?_
          refine go ?_
          refine callz (hmd) ?_
          refine go ?_
          refine R_ret (finA [])
        · simp only [decide_eq_true_eq, decide_eq_false_iff_not, Bool.or_eq_true, Bool.and_eq_true, Bool.or_eq_false_iff, Bool.and_eq_false_iff, Bool.not_eq_true', Bool.not_eq_false', bne_iff_ne, beq_iff_eq, ne_eq, bne_eq_false_iff_eq, beq_eq_false_iff_ne, ge_iff_le, gt_iff_lt, Int.not_le, Int.not_lt] at h
          omega
    · have hmd := rMade' (v := y.natAbs - x.natAbs) (b := decide (y < 0))
      rw [sg_diff (fun e => hs e.symm) (by omega), Int.add_comm y x] at hmd
      have hdf := rDiff (a := y.natAbs) (b := x.natAbs) (by omega) (by omega)
      refine Con.of_body [(0, pl x), (1, pl y)] Tryz.func46 rfl ca46 40 rfl (by simp) rfl ?_; refine T_of_R ?_
      refine go ?_
      refine cnd (fun h => ?_) (fun h => ?_)
      · exact absurd (by simpa using h) hs
      · refine go ?_
        refine callz (hord) ?_
        refine go ?_
        refine cnd (fun h => ?_) (fun h => ?_)
        · simp only [decide_eq_true_eq, decide_eq_false_iff_not, Bool.or_eq_true, Bool.and_eq_true, Bool.or_eq_false_iff, Bool.and_eq_false_iff, Bool.not_eq_true', Bool.not_eq_false', bne_iff_ne, beq_iff_eq, ne_eq, bne_eq_false_iff_eq, beq_eq_false_iff_ne, ge_iff_le, gt_iff_lt, Int.not_le, Int.not_lt] at h
          omega
        · refine go ?_
          refine callz (hdf) ?_
          refine go ?_
          refine callz (hmd) ?_
          refine go ?_
          refine R_ret (finA [])
theorem rMinus {x y : Int} (h : lq x.natAbs + lq y.natAbs ≤ 1000000000) : Con Tryz.prog 60 [pl x, pl y] (pl (x - y)) [] := by
  have hp := rPlus (x := x) (y := -y) (by rw [Int.natAbs_neg]; exact h)
  rw [← Int.sub_eq_add_neg] at hp
  refine Con.of_body [(0, pl x), (1, pl y)] Tryz.func60 rfl ca60 9 rfl (by simp) rfl ?_; refine T_of_R ?_
  refine go ?_
  refine callz (rTurn y) ?_
  refine go ?_
  refine callz (hp) ?_
  refine go ?_
  refine R_ret (finA [])
theorem rTimes {x y : Int} (h : lq x.natAbs + lq y.natAbs ≤ 1000000000) : Con Tryz.prog 47 [pl x, pl y] (pl (x * y)) [] := by
  have hmd := rMade' (v := x.natAbs * y.natAbs) (b := decide (x < 0) != decide (y < 0))
  have e : sg (decide (x < 0) != decide (y < 0)) (x.natAbs * y.natAbs) = x * y := by
    unfold sg
    by_cases hx : x < 0
    · obtain ⟨n, rfl⟩ : ∃ n : Nat, x = -(n : Int) := ⟨x.natAbs, by omega⟩
      by_cases hy : y < 0
      · obtain ⟨m, rfl⟩ : ∃ m : Nat, y = -(m : Int) := ⟨y.natAbs, by omega⟩
        rw [decide_eq_true hx, decide_eq_true hy, if_neg (by decide), Int.natAbs_neg, Int.natAbs_neg, Int.natAbs_natCast, Int.natAbs_natCast, Int.natCast_mul, Int.neg_mul_neg]
      · obtain ⟨m, rfl⟩ : ∃ m : Nat, y = (m : Int) := ⟨y.natAbs, by omega⟩
        rw [decide_eq_true hx, decide_eq_false hy, if_pos (by decide), Int.natAbs_neg, Int.natAbs_natCast, Int.natAbs_natCast, Int.natCast_mul, Int.neg_mul]
    · obtain ⟨n, rfl⟩ : ∃ n : Nat, x = (n : Int) := ⟨x.natAbs, by omega⟩
      by_cases hy : y < 0
      · obtain ⟨m, rfl⟩ : ∃ m : Nat, y = -(m : Int) := ⟨y.natAbs, by omega⟩
        rw [decide_eq_false hx, decide_eq_true hy, if_pos (by decide), Int.natAbs_neg, Int.natAbs_natCast, Int.natAbs_natCast, Int.natCast_mul, Int.mul_neg]
      · obtain ⟨m, rfl⟩ : ∃ m : Nat, y = (m : Int) := ⟨y.natAbs, by omega⟩
        rw [decide_eq_false hx, decide_eq_false hy, if_neg (by decide), Int.natAbs_natCast, Int.natAbs_natCast, Int.natCast_mul]
  rw [e] at hmd
  refine Con.of_body [(0, pl x), (1, pl y)] Tryz.func47 rfl ca47 16 rfl (by simp) rfl ?_; refine T_of_R ?_
  refine go ?_
  refine callz (rProd h) ?_
  refine go ?_
  refine callz (hmd) ?_
  refine go ?_
  refine R_ret (finA [])
theorem tmod_np {n : Int} (h : n ≤ 0) : n.tmod 10000 = -((-n) % 10000) := by
  rw [← tmod_nn (a := -n) (by omega), Int.neg_tmod, Int.neg_neg]
theorem tdiv_np {n : Int} (h : n ≤ 0) : n.tdiv 10000 = -((-n) / 10000) := by
  rw [← tdiv_nn (a := -n) (by omega), Int.neg_tdiv, Int.neg_neg]
theorem sg_self (n : Int) : sg (decide (n < 0)) n.natAbs = n := by
  unfold sg
  by_cases h : n < 0
  · rw [decide_eq_true h, if_pos rfl]; omega
  · rw [decide_eq_false h, if_neg (by decide)]; omega
abbrev lsE (L : List Int) : D := if L.length = 0 then .em else .rf 1 0 L.length 1
abbrev lsP (L : List Int) : List (Nat × O) := if L.length = 0 then [] else [(1, ⟨ints .i64 L, 3, 1, false⟩)]
theorem rInteger {n : Int} (h0 : -9223372036854775808 ≤ n) (h1 : n ≤ 9223372036854775807) : Con Tryz.prog 45 [.sc (.int .i64 n)] (pl n) [] := by
  obtain ⟨g, hg⟩ : ∃ g, g = decide (n < 0) := ⟨_, rfl⟩
  have hm : n.natAbs ≤ 9223372036854775807 ∨ (g = true ∧ n.natAbs ≤ 9223372036854775808) := by
    by_cases h : n < 0
    · exact .inr ⟨by rw [hg, decide_eq_true h], by omega⟩
    · exact .inl (by omega)
  have hself := sg_self n
  rw [← hg] at hself
  obtain ⟨m, hmd⟩ : ∃ m, m = n.natAbs := ⟨_, rfl⟩
  rw [← hmd] at hself hm
  rw [← hself]
  refine Con.of_body [(0, .sc (.int .i64 (sg g m)))] Tryz.func45 rfl ca45 25 rfl (by simp) rfl ?_; refine T_of_R ?_
  refine go ?_
  rw [show decide (sg g m < 0) = g by rw [hself]; exact hg.symm]
  refine go ?_
  refine R_loop (fun p : Nat × List Int => ⟨tl [(0, .sc (.int .i64 (sg g p.1))), (2, .pt 0 0), (3, lsE p.2), (4, .sc (.bool g))], ol ((0, ⟨[.sc (.bool false), .em], 79, 0, false⟩) :: lsP p.2), 2, [], 25⟩)
    (fun p => p.1 ≤ m ∧ Dg BQ p.2 ∧ val BQ p.2 + p.1 * ((BQ ^ p.2.length : Nat) : Int) = m ∧ p.2.length ≤ 5) (fun p => p.1) (m, []) [0] (Less.mk' (by simp (disch := (first | omega | (simp only [go_sem, ↓reduceIte, Nat.reduceEqDiff, Nat.reduceAdd, Nat.reduceMul, Nat.reduceSub, Nat.reduceLT, Nat.reduceLeDiff, Nat.reduceBNe, Nat.reduceBEq, Int.reduceToNat, Int.reduceAdd, Int.reduceSub, Int.reduceMul, Int.reduceLT, Int.reduceLE, Int.reduceNeg, Int.reduceBEq, Int.reduceBNe, Int.reduceEq, beq_self_eq_true, reduceCtorEq, decide_true, decide_false, if_pos, if_neg]; first | done | omega))) only [go_sem, ↓reduceIte, Nat.reduceEqDiff, Nat.reduceAdd, Nat.reduceMul, Nat.reduceSub, Nat.reduceLT, Nat.reduceLeDiff, Nat.reduceBNe, Nat.reduceBEq, Int.reduceToNat, Int.reduceAdd, Int.reduceSub, Int.reduceMul, Int.reduceLT, Int.reduceLE, Int.reduceNeg, Int.reduceBEq, Int.reduceBNe, Int.reduceEq, beq_self_eq_true, reduceCtorEq, decide_true, decide_false, if_pos, if_neg, List.length_nil, lsE, lsP]) (by simp (disch := (first | omega | (simp only [go_sem, ↓reduceIte, Nat.reduceEqDiff, Nat.reduceAdd, Nat.reduceMul, Nat.reduceSub, Nat.reduceLT, Nat.reduceLeDiff, Nat.reduceBNe, Nat.reduceBEq, Int.reduceToNat, Int.reduceAdd, Int.reduceSub, Int.reduceMul, Int.reduceLT, Int.reduceLE, Int.reduceNeg, Int.reduceBEq, Int.reduceBNe, Int.reduceEq, beq_self_eq_true, reduceCtorEq, decide_true, decide_false, if_pos, if_neg]; first | done | omega))) only [go_sem, ↓reduceIte, Nat.reduceEqDiff, Nat.reduceAdd, Nat.reduceMul, Nat.reduceSub, Nat.reduceLT, Nat.reduceLeDiff, Nat.reduceBNe, Nat.reduceBEq, Int.reduceToNat, Int.reduceAdd, Int.reduceSub, Int.reduceMul, Int.reduceLT, Int.reduceLE, Int.reduceNeg, Int.reduceBEq, Int.reduceBNe, Int.reduceEq, beq_self_eq_true, reduceCtorEq, decide_true, decide_false, if_pos, if_neg, List.length_nil, lsE, lsP]) (by decide) (by decide)) ⟨Nat.le_refl _, dg_nil _, by simp [val], Nat.zero_le _⟩ fun p hi => ?_
  obtain ⟨q, S⟩ := p
  obtain ⟨i1, i2, i3, i4⟩ := hi
  simp only at i1 i2 i3 i4
  simp only
  have hp := powQ S.length
  have hstep : q ≠ 0 → (q / 10000 ≤ m ∧ Dg BQ (S ++ [((q % 10000 : Nat) : Int)]) ∧ val BQ (S ++ [((q % 10000 : Nat) : Int)]) + ((q / 10000 : Nat) : Int) * ((BQ ^ (S ++ [((q % 10000 : Nat) : Int)]).length : Nat) : Int) = m ∧ (S ++ [((q % 10000 : Nat) : Int)]).length ≤ 5) ∧ q / 10000 < q := fun hq => by
    have hlen : (S ++ [((q % 10000 : Nat) : Int)]).length = S.length + 1 := by rw [List.length_append, List.length_singleton]
    have h4 : S.length ≤ 4 := Classical.byContradiction fun hc => by
      have h1 : BQ ^ 5 ≤ BQ ^ S.length := Nat.pow_le_pow_right (by decide) (by omega)
      have h2 : BQ ^ 5 = 100000000000000000000 := by decide
      rw [h2] at h1
      have h3 := i2.val_nonneg
      have h5 : ((BQ ^ S.length : Nat) : Int) ≤ q * ((BQ ^ S.length : Nat) : Int) := by
        have := Int.mul_le_mul_of_nonneg_right (show (1 : Int) ≤ q by omega) (show (0 : Int) ≤ ((BQ ^ S.length : Nat) : Int) by omega)
        rwa [Int.one_mul] at this
      generalize (q : Int) * ((BQ ^ S.length : Nat) : Int) = z at h5 i3
      generalize BQ ^ S.length = P at h1 h5
      omega
    refine ⟨⟨by omega, i2.append (dg_ofQ fun j hj => ?_), ?_, by omega⟩, by omega⟩
    · rw [List.length_singleton] at hj
      obtain rfl : j = 0 := by omega
      simp only [List.getD_cons_zero]
      omega
    · rw [hlen, val_append, hp]
      simp only [val, Int.mul_zero, Int.add_zero]
      have : q % 10000 + 10000 * (q / 10000) = q := Nat.mod_add_div q 10000
      have hc : ((q % 10000 : Nat) : Int) + 10000 * ((q / 10000 : Nat) : Int) = q := by omega
      generalize ((q % 10000 : Nat) : Int) = r at hc ⊢
      generalize ((q / 10000 : Nat) : Int) = t at hc ⊢
      generalize ((BQ ^ S.length : Nat) : Int) = P at i3 ⊢
      grind
  have hb2 : -9223372036854775808 ≤ sg g (q / 10000) ∧ sg g (q / 10000) ≤ 9223372036854775807 := by
    rcases hm with hm | ⟨rfl, hm⟩
    · unfold sg; split <;> omega
    · unfold sg; rw [if_pos rfl]; omega
  have hq0 : sg g q ≠ 0 ↔ q ≠ 0 := by unfold sg; split <;> omega
  have hmod : (sg g q).tmod 10000 = if g then -((q % 10000 : Nat) : Int) else ((q % 10000 : Nat) : Int) := by
    unfold sg
    cases g
    · rw [if_neg (by decide), if_neg (by decide), tmod_nn (by omega)]; omega
    · rw [if_pos rfl, if_pos rfl, tmod_np (by omega)]; omega
  have hdiv : (sg g q).tdiv 10000 = sg g (q / 10000) := by
    unfold sg
    cases g
    · rw [if_neg (by decide), if_neg (by decide), tdiv_nn (by omega)]; omega
    · rw [if_pos rfl, if_pos rfl, tdiv_np (by omega)]; omega
  have hb : -9223372036854775808 ≤ sg g q ∧ sg g q ≤ 9223372036854775807 := by
    rcases hm with hm | ⟨rfl, hm⟩
    · unfold sg; split <;> omega
    · unfold sg; rw [if_pos rfl]; omega
  by_cases hC : S.length = 0
  · have hS : S = [] := List.length_eq_zero_iff.1 hC
    rw [hS]
    rw [hS] at hstep
    simp only [lsE, lsP, List.length_nil, ↓reduceIte]
    refine go ?_
    refine cnd (fun h => ?_) (fun h => ?_)
    · simp only [decide_eq_true_eq, decide_eq_false_iff_not, Bool.or_eq_true, Bool.and_eq_true, Bool.or_eq_false_iff, Bool.and_eq_false_iff, Bool.not_eq_true', Bool.not_eq_false', bne_iff_ne, beq_iff_eq, ne_eq, bne_eq_false_iff_eq, beq_eq_false_iff_ne, ge_iff_le, gt_iff_lt, Int.not_le, Int.not_lt] at h
      have hq := hq0.1 h
      have hx := hstep hq
      refine go ?_
      rw [hmod]
      cases g
      · simp only [Bool.false_eq_true, if_false]
        refine go ?_
        refine cnd (fun h => ?_) (fun h => ?_)
        · simp only [decide_eq_true_eq, decide_eq_false_iff_not, Bool.or_eq_true, Bool.and_eq_true, Bool.or_eq_false_iff, Bool.and_eq_false_iff, Bool.not_eq_true', Bool.not_eq_false', bne_iff_ne, beq_iff_eq, ne_eq, bne_eq_false_iff_eq, beq_eq_false_iff_ne, ge_iff_le, gt_iff_lt, Int.not_le, Int.not_lt] at h
          omega
        · refine go ?_
          rw [hdiv]
          refine R_nilR ⟨[0, 3], _, ?_, (q / 10000, _), hx.1, hx.2, rfl⟩; exact (Less.mk' (by simp (disch := (first | omega | (simp only [go_sem, ↓reduceIte, Nat.reduceEqDiff, Nat.reduceAdd, Nat.reduceMul, Nat.reduceSub, Nat.reduceLT, Nat.reduceLeDiff, Nat.reduceBNe, Nat.reduceBEq, Int.reduceToNat, Int.reduceAdd, Int.reduceSub, Int.reduceMul, Int.reduceLT, Int.reduceLE, Int.reduceNeg, Int.reduceBEq, Int.reduceBNe, Int.reduceEq, beq_self_eq_true, reduceCtorEq, decide_true, decide_false, if_pos, if_neg]; first | done | omega))) only [go_sem, ↓reduceIte, Nat.reduceEqDiff, Nat.reduceAdd, Nat.reduceMul, Nat.reduceSub, Nat.reduceLT, Nat.reduceLeDiff, Nat.reduceBNe, Nat.reduceBEq, Int.reduceToNat, Int.reduceAdd, Int.reduceSub, Int.reduceMul, Int.reduceLT, Int.reduceLE, Int.reduceNeg, Int.reduceBEq, Int.reduceBNe, Int.reduceEq, beq_self_eq_true, reduceCtorEq, decide_true, decide_false, if_pos, if_neg, List.length_nil, List.nil_append, ints_one, lsE, lsP, List.length_singleton]) (by simp (disch := (first | omega | (simp only [go_sem, ↓reduceIte, Nat.reduceEqDiff, Nat.reduceAdd, Nat.reduceMul, Nat.reduceSub, Nat.reduceLT, Nat.reduceLeDiff, Nat.reduceBNe, Nat.reduceBEq, Int.reduceToNat, Int.reduceAdd, Int.reduceSub, Int.reduceMul, Int.reduceLT, Int.reduceLE, Int.reduceNeg, Int.reduceBEq, Int.reduceBNe, Int.reduceEq, beq_self_eq_true, reduceCtorEq, decide_true, decide_false, if_pos, if_neg]; first | done | omega))) only [go_sem, ↓reduceIte, Nat.reduceEqDiff, Nat.reduceAdd, Nat.reduceMul, Nat.reduceSub, Nat.reduceLT, Nat.reduceLeDiff, Nat.reduceBNe, Nat.reduceBEq, Int.reduceToNat, Int.reduceAdd, Int.reduceSub, Int.reduceMul, Int.reduceLT, Int.reduceLE, Int.reduceNeg, Int.reduceBEq, Int.reduceBNe, Int.reduceEq, beq_self_eq_true, reduceCtorEq, decide_true, decide_false, if_pos, if_neg, List.length_nil, List.nil_append, ints_one, lsE, lsP, List.length_singleton]) (by decide) (by decide))
      · simp only [if_true]
        have hng : (0 : Int) - -((q % 10000 : Nat) : Int) = ((q % 10000 : Nat) : Int) := by omega
        refine go ?_
        refine cnd (fun h => ?_) (fun h => ?_)
        · refine go ?_
          rw [hdiv]
          refine R_nilR ⟨[0, 3], _, ?_, (q / 10000, _), hx.1, hx.2, rfl⟩; exact (Less.mk' (by simp (disch := (first | omega | (simp only [go_sem, ↓reduceIte, Nat.reduceEqDiff, Nat.reduceAdd, Nat.reduceMul, Nat.reduceSub, Nat.reduceLT, Nat.reduceLeDiff, Nat.reduceBNe, Nat.reduceBEq, Int.reduceToNat, Int.reduceAdd, Int.reduceSub, Int.reduceMul, Int.reduceLT, Int.reduceLE, Int.reduceNeg, Int.reduceBEq, Int.reduceBNe, Int.reduceEq, beq_self_eq_true, reduceCtorEq, decide_true, decide_false, if_pos, if_neg]; first | done | omega))) only [go_sem, ↓reduceIte, Nat.reduceEqDiff, Nat.reduceAdd, Nat.reduceMul, Nat.reduceSub, Nat.reduceLT, Nat.reduceLeDiff, Nat.reduceBNe, Nat.reduceBEq, Int.reduceToNat, Int.reduceAdd, Int.reduceSub, Int.reduceMul, Int.reduceLT, Int.reduceLE, Int.reduceNeg, Int.reduceBEq, Int.reduceBNe, Int.reduceEq, beq_self_eq_true, reduceCtorEq, decide_true, decide_false, if_pos, if_neg, hng, List.length_nil, List.nil_append, ints_one, lsE, lsP, List.length_singleton]) (by simp (disch := (first | omega | (simp only [go_sem, ↓reduceIte, Nat.reduceEqDiff, Nat.reduceAdd, Nat.reduceMul, Nat.reduceSub, Nat.reduceLT, Nat.reduceLeDiff, Nat.reduceBNe, Nat.reduceBEq, Int.reduceToNat, Int.reduceAdd, Int.reduceSub, Int.reduceMul, Int.reduceLT, Int.reduceLE, Int.reduceNeg, Int.reduceBEq, Int.reduceBNe, Int.reduceEq, beq_self_eq_true, reduceCtorEq, decide_true, decide_false, if_pos, if_neg]; first | done | omega))) only [go_sem, ↓reduceIte, Nat.reduceEqDiff, Nat.reduceAdd, Nat.reduceMul, Nat.reduceSub, Nat.reduceLT, Nat.reduceLeDiff, Nat.reduceBNe, Nat.reduceBEq, Int.reduceToNat, Int.reduceAdd, Int.reduceSub, Int.reduceMul, Int.reduceLT, Int.reduceLE, Int.reduceNeg, Int.reduceBEq, Int.reduceBNe, Int.reduceEq, beq_self_eq_true, reduceCtorEq, decide_true, decide_false, if_pos, if_neg, hng, List.length_nil, List.nil_append, ints_one, lsE, lsP, List.length_singleton]) (by decide) (by decide))
        · simp only [decide_eq_true_eq, decide_eq_false_iff_not, Bool.or_eq_true, Bool.and_eq_true, Bool.or_eq_false_iff, Bool.and_eq_false_iff, Bool.not_eq_true', Bool.not_eq_false', bne_iff_ne, beq_iff_eq, ne_eq, bne_eq_false_iff_eq, beq_eq_false_iff_ne, ge_iff_le, gt_iff_lt, Int.not_le, Int.not_lt] at h
          have hz : q % 10000 = 0 := by omega
          rw [hz] at hx
          refine go ?_
          rw [hdiv]
          refine R_nilR ⟨[0, 3], _, ?_, (q / 10000, _), hx.1, hx.2, rfl⟩; exact (Less.mk' (by simp (disch := (first | omega | (simp only [go_sem, ↓reduceIte, Nat.reduceEqDiff, Nat.reduceAdd, Nat.reduceMul, Nat.reduceSub, Nat.reduceLT, Nat.reduceLeDiff, Nat.reduceBNe, Nat.reduceBEq, Int.reduceToNat, Int.reduceAdd, Int.reduceSub, Int.reduceMul, Int.reduceLT, Int.reduceLE, Int.reduceNeg, Int.reduceBEq, Int.reduceBNe, Int.reduceEq, beq_self_eq_true, reduceCtorEq, decide_true, decide_false, if_pos, if_neg]; first | done | omega))) only [go_sem, ↓reduceIte, Nat.reduceEqDiff, Nat.reduceAdd, Nat.reduceMul, Nat.reduceSub, Nat.reduceLT, Nat.reduceLeDiff, Nat.reduceBNe, Nat.reduceBEq, Int.reduceToNat, Int.reduceAdd, Int.reduceSub, Int.reduceMul, Int.reduceLT, Int.reduceLE, Int.reduceNeg, Int.reduceBEq, Int.reduceBNe, Int.reduceEq, beq_self_eq_true, reduceCtorEq, decide_true, decide_false, if_pos, if_neg, hz, Int.natCast_zero, Int.neg_zero, List.length_nil, List.nil_append, ints_one, lsE, lsP, List.length_singleton]) (by simp (disch := (first | omega | (simp only [go_sem, ↓reduceIte, Nat.reduceEqDiff, Nat.reduceAdd, Nat.reduceMul, Nat.reduceSub, Nat.reduceLT, Nat.reduceLeDiff, Nat.reduceBNe, Nat.reduceBEq, Int.reduceToNat, Int.reduceAdd, Int.reduceSub, Int.reduceMul, Int.reduceLT, Int.reduceLE, Int.reduceNeg, Int.reduceBEq, Int.reduceBNe, Int.reduceEq, beq_self_eq_true, reduceCtorEq, decide_true, decide_false, if_pos, if_neg]; first | done | omega))) only [go_sem, ↓reduceIte, Nat.reduceEqDiff, Nat.reduceAdd, Nat.reduceMul, Nat.reduceSub, Nat.reduceLT, Nat.reduceLeDiff, Nat.reduceBNe, Nat.reduceBEq, Int.reduceToNat, Int.reduceAdd, Int.reduceSub, Int.reduceMul, Int.reduceLT, Int.reduceLE, Int.reduceNeg, Int.reduceBEq, Int.reduceBNe, Int.reduceEq, beq_self_eq_true, reduceCtorEq, decide_true, decide_false, if_pos, if_neg, hz, Int.natCast_zero, Int.neg_zero, List.length_nil, List.nil_append, ints_one, lsE, lsP, List.length_singleton]) (by decide) (by decide))
    · simp only [decide_eq_true_eq, decide_eq_false_iff_not, Bool.or_eq_true, Bool.and_eq_true, Bool.or_eq_false_iff, Bool.and_eq_false_iff, Bool.not_eq_true', Bool.not_eq_false', bne_iff_ne, beq_iff_eq, ne_eq, bne_eq_false_iff_eq, beq_eq_false_iff_ne, ge_iff_le, gt_iff_lt, Int.not_le, Int.not_lt] at h
      have hq : q = 0 := Classical.byContradiction fun hc => absurd h (by simpa using hq0.2 hc)
      rw [hq, Int.natCast_zero, Int.zero_mul, Int.add_zero] at i3
      have hmd := rMade (L := S) (b := g) rfl i2 i3
      refine R_em 3 (by first | (simp (disch := (first | omega | (simp only [go_sem, ↓reduceIte, Nat.reduceEqDiff, Nat.reduceAdd, Nat.reduceMul, Nat.reduceSub, Nat.reduceLT, Nat.reduceLeDiff, Nat.reduceBNe, Nat.reduceBEq, Int.reduceToNat, Int.reduceAdd, Int.reduceSub, Int.reduceMul, Int.reduceLT, Int.reduceLE, Int.reduceNeg, Int.reduceBEq, Int.reduceBNe, Int.reduceEq, beq_self_eq_true, reduceCtorEq, decide_true, decide_false, if_pos, if_neg]; first | done | omega))) only [go_sem, ↓reduceIte, Nat.reduceEqDiff, Nat.reduceAdd, Nat.reduceMul, Nat.reduceSub, Nat.reduceLT, Nat.reduceLeDiff, Nat.reduceBNe, Nat.reduceBEq, Int.reduceToNat, Int.reduceAdd, Int.reduceSub, Int.reduceMul, Int.reduceLT, Int.reduceLE, Int.reduceNeg, Int.reduceBEq, Int.reduceBNe, Int.reduceEq, beq_self_eq_true, reduceCtorEq, decide_true, decide_false, if_pos, if_neg] <;> rfl) | fail) ?_; rw [hS] at hmd; refine go ?_; refine callz (hmd) ?_; refine go ?_; refine R_ret (finA [])
  · simp only [lsE, lsP, if_neg hC]
    refine go ?_
    refine cnd (fun h => ?_) (fun h => ?_)
    · simp only [decide_eq_true_eq, decide_eq_false_iff_not, Bool.or_eq_true, Bool.and_eq_true, Bool.or_eq_false_iff, Bool.and_eq_false_iff, Bool.not_eq_true', Bool.not_eq_false', bne_iff_ne, beq_iff_eq, ne_eq, bne_eq_false_iff_eq, beq_eq_false_iff_ne, ge_iff_le, gt_iff_lt, Int.not_le, Int.not_lt] at h
      have hq := hq0.1 h
      have hx := hstep hq
      refine go ?_
      rw [hmod]
      cases g
      · simp only [Bool.false_eq_true, if_false]
        refine go ?_
        refine cnd (fun h => ?_) (fun h => ?_)
        · simp only [decide_eq_true_eq, decide_eq_false_iff_not, Bool.or_eq_true, Bool.and_eq_true, Bool.or_eq_false_iff, Bool.and_eq_false_iff, Bool.not_eq_true', Bool.not_eq_false', bne_iff_ne, beq_iff_eq, ne_eq, bne_eq_false_iff_eq, beq_eq_false_iff_ne, ge_iff_le, gt_iff_lt, Int.not_le, Int.not_lt] at h
          omega
        · refine go ?_
          rw [hdiv]
          refine R_nilR ⟨[0, 3], _, ?_, (q / 10000, _), hx.1, hx.2, rfl⟩; exact (Less.mk' (by simp (disch := (first | omega | (simp only [go_sem, ↓reduceIte, Nat.reduceEqDiff, Nat.reduceAdd, Nat.reduceMul, Nat.reduceSub, Nat.reduceLT, Nat.reduceLeDiff, Nat.reduceBNe, Nat.reduceBEq, Int.reduceToNat, Int.reduceAdd, Int.reduceSub, Int.reduceMul, Int.reduceLT, Int.reduceLE, Int.reduceNeg, Int.reduceBEq, Int.reduceBNe, Int.reduceEq, beq_self_eq_true, reduceCtorEq, decide_true, decide_false, if_pos, if_neg]; first | done | omega))) only [go_sem, ↓reduceIte, Nat.reduceEqDiff, Nat.reduceAdd, Nat.reduceMul, Nat.reduceSub, Nat.reduceLT, Nat.reduceLeDiff, Nat.reduceBNe, Nat.reduceBEq, Int.reduceToNat, Int.reduceAdd, Int.reduceSub, Int.reduceMul, Int.reduceLT, Int.reduceLE, Int.reduceNeg, Int.reduceBEq, Int.reduceBNe, Int.reduceEq, beq_self_eq_true, reduceCtorEq, decide_true, decide_false, if_pos, if_neg, lsE, lsP]) (by simp (disch := (first | omega | (simp only [go_sem, ↓reduceIte, Nat.reduceEqDiff, Nat.reduceAdd, Nat.reduceMul, Nat.reduceSub, Nat.reduceLT, Nat.reduceLeDiff, Nat.reduceBNe, Nat.reduceBEq, Int.reduceToNat, Int.reduceAdd, Int.reduceSub, Int.reduceMul, Int.reduceLT, Int.reduceLE, Int.reduceNeg, Int.reduceBEq, Int.reduceBNe, Int.reduceEq, beq_self_eq_true, reduceCtorEq, decide_true, decide_false, if_pos, if_neg]; first | done | omega))) only [go_sem, ↓reduceIte, Nat.reduceEqDiff, Nat.reduceAdd, Nat.reduceMul, Nat.reduceSub, Nat.reduceLT, Nat.reduceLeDiff, Nat.reduceBNe, Nat.reduceBEq, Int.reduceToNat, Int.reduceAdd, Int.reduceSub, Int.reduceMul, Int.reduceLT, Int.reduceLE, Int.reduceNeg, Int.reduceBEq, Int.reduceBNe, Int.reduceEq, beq_self_eq_true, reduceCtorEq, decide_true, decide_false, if_pos, if_neg, lsE, lsP]) (by decide) (by decide))
      · simp only [if_true]
        have hng : (0 : Int) - -((q % 10000 : Nat) : Int) = ((q % 10000 : Nat) : Int) := by omega
        refine go ?_
        refine cnd (fun h => ?_) (fun h => ?_)
        · refine go ?_
          rw [hdiv]
          refine R_nilR ⟨[0, 3], _, ?_, (q / 10000, _), hx.1, hx.2, rfl⟩; exact (Less.mk' (by simp (disch := (first | omega | (simp only [go_sem, ↓reduceIte, Nat.reduceEqDiff, Nat.reduceAdd, Nat.reduceMul, Nat.reduceSub, Nat.reduceLT, Nat.reduceLeDiff, Nat.reduceBNe, Nat.reduceBEq, Int.reduceToNat, Int.reduceAdd, Int.reduceSub, Int.reduceMul, Int.reduceLT, Int.reduceLE, Int.reduceNeg, Int.reduceBEq, Int.reduceBNe, Int.reduceEq, beq_self_eq_true, reduceCtorEq, decide_true, decide_false, if_pos, if_neg]; first | done | omega))) only [go_sem, ↓reduceIte, Nat.reduceEqDiff, Nat.reduceAdd, Nat.reduceMul, Nat.reduceSub, Nat.reduceLT, Nat.reduceLeDiff, Nat.reduceBNe, Nat.reduceBEq, Int.reduceToNat, Int.reduceAdd, Int.reduceSub, Int.reduceMul, Int.reduceLT, Int.reduceLE, Int.reduceNeg, Int.reduceBEq, Int.reduceBNe, Int.reduceEq, beq_self_eq_true, reduceCtorEq, decide_true, decide_false, if_pos, if_neg, hng, lsE, lsP]) (by simp (disch := (first | omega | (simp only [go_sem, ↓reduceIte, Nat.reduceEqDiff, Nat.reduceAdd, Nat.reduceMul, Nat.reduceSub, Nat.reduceLT, Nat.reduceLeDiff, Nat.reduceBNe, Nat.reduceBEq, Int.reduceToNat, Int.reduceAdd, Int.reduceSub, Int.reduceMul, Int.reduceLT, Int.reduceLE, Int.reduceNeg, Int.reduceBEq, Int.reduceBNe, Int.reduceEq, beq_self_eq_true, reduceCtorEq, decide_true, decide_false, if_pos, if_neg]; first | done | omega))) only [go_sem, ↓reduceIte, Nat.reduceEqDiff, Nat.reduceAdd, Nat.reduceMul, Nat.reduceSub, Nat.reduceLT, Nat.reduceLeDiff, Nat.reduceBNe, Nat.reduceBEq, Int.reduceToNat, Int.reduceAdd, Int.reduceSub, Int.reduceMul, Int.reduceLT, Int.reduceLE, Int.reduceNeg, Int.reduceBEq, Int.reduceBNe, Int.reduceEq, beq_self_eq_true, reduceCtorEq, decide_true, decide_false, if_pos, if_neg, hng, lsE, lsP]) (by decide) (by decide))
        · simp only [decide_eq_true_eq, decide_eq_false_iff_not, Bool.or_eq_true, Bool.and_eq_true, Bool.or_eq_false_iff, Bool.and_eq_false_iff, Bool.not_eq_true', Bool.not_eq_false', bne_iff_ne, beq_iff_eq, ne_eq, bne_eq_false_iff_eq, beq_eq_false_iff_ne, ge_iff_le, gt_iff_lt, Int.not_le, Int.not_lt] at h
          have hz : q % 10000 = 0 := by omega
          rw [hz] at hx
          refine go ?_
          rw [hdiv]
          refine R_nilR ⟨[0, 3], _, ?_, (q / 10000, _), hx.1, hx.2, rfl⟩; exact (Less.mk' (by simp (disch := (first | omega | (simp only [go_sem, ↓reduceIte, Nat.reduceEqDiff, Nat.reduceAdd, Nat.reduceMul, Nat.reduceSub, Nat.reduceLT, Nat.reduceLeDiff, Nat.reduceBNe, Nat.reduceBEq, Int.reduceToNat, Int.reduceAdd, Int.reduceSub, Int.reduceMul, Int.reduceLT, Int.reduceLE, Int.reduceNeg, Int.reduceBEq, Int.reduceBNe, Int.reduceEq, beq_self_eq_true, reduceCtorEq, decide_true, decide_false, if_pos, if_neg]; first | done | omega))) only [go_sem, ↓reduceIte, Nat.reduceEqDiff, Nat.reduceAdd, Nat.reduceMul, Nat.reduceSub, Nat.reduceLT, Nat.reduceLeDiff, Nat.reduceBNe, Nat.reduceBEq, Int.reduceToNat, Int.reduceAdd, Int.reduceSub, Int.reduceMul, Int.reduceLT, Int.reduceLE, Int.reduceNeg, Int.reduceBEq, Int.reduceBNe, Int.reduceEq, beq_self_eq_true, reduceCtorEq, decide_true, decide_false, if_pos, if_neg, hz, Int.natCast_zero, Int.neg_zero, lsE, lsP]) (by simp (disch := (first | omega | (simp only [go_sem, ↓reduceIte, Nat.reduceEqDiff, Nat.reduceAdd, Nat.reduceMul, Nat.reduceSub, Nat.reduceLT, Nat.reduceLeDiff, Nat.reduceBNe, Nat.reduceBEq, Int.reduceToNat, Int.reduceAdd, Int.reduceSub, Int.reduceMul, Int.reduceLT, Int.reduceLE, Int.reduceNeg, Int.reduceBEq, Int.reduceBNe, Int.reduceEq, beq_self_eq_true, reduceCtorEq, decide_true, decide_false, if_pos, if_neg]; first | done | omega))) only [go_sem, ↓reduceIte, Nat.reduceEqDiff, Nat.reduceAdd, Nat.reduceMul, Nat.reduceSub, Nat.reduceLT, Nat.reduceLeDiff, Nat.reduceBNe, Nat.reduceBEq, Int.reduceToNat, Int.reduceAdd, Int.reduceSub, Int.reduceMul, Int.reduceLT, Int.reduceLE, Int.reduceNeg, Int.reduceBEq, Int.reduceBNe, Int.reduceEq, beq_self_eq_true, reduceCtorEq, decide_true, decide_false, if_pos, if_neg, hz, Int.natCast_zero, Int.neg_zero, lsE, lsP]) (by decide) (by decide))
    · simp only [decide_eq_true_eq, decide_eq_false_iff_not, Bool.or_eq_true, Bool.and_eq_true, Bool.or_eq_false_iff, Bool.and_eq_false_iff, Bool.not_eq_true', Bool.not_eq_false', bne_iff_ne, beq_iff_eq, ne_eq, bne_eq_false_iff_eq, beq_eq_false_iff_ne, ge_iff_le, gt_iff_lt, Int.not_le, Int.not_lt] at h
      have hq : q = 0 := Classical.byContradiction fun hc => absurd h (by simpa using hq0.2 hc)
      rw [hq, Int.natCast_zero, Int.zero_mul, Int.add_zero] at i3
      have hmd := rMade (L := S) (b := g) rfl i2 i3
      refine go ?_; refine callz (hmd) ?_; refine go ?_; refine R_ret (finA [])
end Go.Proofs.YtglnkfpmogaifaaGreatDoor.V

/-
  The reference's Raised.
-/
set_option linter.unusedSimpArgs false
set_option linter.unusedVariables false
set_option maxHeartbeats 8000000
namespace Go.Proofs.YtglnkfpmogaifaaGreatDoor.V
open Go Go.Proofs Go.RowKit Go.Lib

theorem lq_pow (a : Nat) : ∀ i, lq (a ^ i) ≤ i * lq a + 1
  | 0 => by
    rw [Nat.pow_zero]
    exact Nat.le_trans (dig_length_le BQ2 1 1 (by decide)) (by omega)
  | i + 1 => by
    have h1 := lq_pow a i
    have h2 := dig_length_mul BQ2 (a ^ i) a
    rw [Nat.pow_succ, Nat.succ_mul]
    unfold lq at *
    omega
theorem rRaised {x : Int} {n : Nat} (h : (n + 1) * lq x.natAbs ≤ 100000000) (hn : n ≤ 1000000) : Con Tryz.prog 48 [pl x, .sc (.int .i64 n)] (pl (x ^ n)) [] := by
  refine Con.of_body [(0, pl x), (1, .sc (.int .i64 n))] Tryz.func48 rfl ca48 17 rfl (by simp) rfl ?_; refine T_of_R ?_
  refine go ?_
  refine callz (rInteger (n := 1) (by omega) (by omega)) ?_
  refine go ?_
  refine R_loop (fun i : Nat => ⟨tl [(1, .sc (.int .i64 n)), (2, .pt 0 0), (4, .pt 1 0), (5, .pt 2 0), (6, .sc (.int .i64 i))], ol [(0, ⟨[.sc (.bool (decide (x < 0))), is x.natAbs], 79, 0, false⟩), (1, ⟨[.sc (.bool false), .em], 79, 0, false⟩), (2, ⟨[.sc (.bool (decide (x ^ i < 0))), is (x ^ i).natAbs], 79, 0, false⟩)], 3, [], 17⟩)
    (fun i => i ≤ n) (fun i => n - i) 0 [0, 1, 2] (Less.mk' (by simp (disch := (first | omega | (simp only [go_sem, ↓reduceIte, Nat.reduceEqDiff, Nat.reduceAdd, Nat.reduceMul, Nat.reduceSub, Nat.reduceLT, Nat.reduceLeDiff, Nat.reduceBNe, Nat.reduceBEq, Int.reduceToNat, Int.reduceAdd, Int.reduceSub, Int.reduceMul, Int.reduceLT, Int.reduceLE, Int.reduceNeg, Int.reduceBEq, Int.reduceBNe, Int.reduceEq, beq_self_eq_true, reduceCtorEq, decide_true, decide_false, if_pos, if_neg]; first | done | omega))) only [go_sem, ↓reduceIte, Nat.reduceEqDiff, Nat.reduceAdd, Nat.reduceMul, Nat.reduceSub, Nat.reduceLT, Nat.reduceLeDiff, Nat.reduceBNe, Nat.reduceBEq, Int.reduceToNat, Int.reduceAdd, Int.reduceSub, Int.reduceMul, Int.reduceLT, Int.reduceLE, Int.reduceNeg, Int.reduceBEq, Int.reduceBNe, Int.reduceEq, beq_self_eq_true, reduceCtorEq, decide_true, decide_false, if_pos, if_neg, Int.pow_zero]) (by simp (disch := (first | omega | (simp only [go_sem, ↓reduceIte, Nat.reduceEqDiff, Nat.reduceAdd, Nat.reduceMul, Nat.reduceSub, Nat.reduceLT, Nat.reduceLeDiff, Nat.reduceBNe, Nat.reduceBEq, Int.reduceToNat, Int.reduceAdd, Int.reduceSub, Int.reduceMul, Int.reduceLT, Int.reduceLE, Int.reduceNeg, Int.reduceBEq, Int.reduceBNe, Int.reduceEq, beq_self_eq_true, reduceCtorEq, decide_true, decide_false, if_pos, if_neg]; first | done | omega))) only [go_sem, ↓reduceIte, Nat.reduceEqDiff, Nat.reduceAdd, Nat.reduceMul, Nat.reduceSub, Nat.reduceLT, Nat.reduceLeDiff, Nat.reduceBNe, Nat.reduceBEq, Int.reduceToNat, Int.reduceAdd, Int.reduceSub, Int.reduceMul, Int.reduceLT, Int.reduceLE, Int.reduceNeg, Int.reduceBEq, Int.reduceBNe, Int.reduceEq, beq_self_eq_true, reduceCtorEq, decide_true, decide_false, if_pos, if_neg, Int.pow_zero]) (by decide) (by decide)) (Nat.zero_le _) fun i hi => ?_
  refine go ?_
  refine cnd (fun h => ?_) (fun h => ?_)
  · simp only [decide_eq_true_eq, decide_eq_false_iff_not, Bool.or_eq_true, Bool.and_eq_true, Bool.or_eq_false_iff, Bool.and_eq_false_iff, Bool.not_eq_true', Bool.not_eq_false', bne_iff_ne, beq_iff_eq, ne_eq, bne_eq_false_iff_eq, beq_eq_false_iff_ne, ge_iff_le, gt_iff_lt, Int.not_le, Int.not_lt] at h
    have hl : lq (x ^ i).natAbs + lq x.natAbs ≤ 1000000000 := by
      rw [Int.natAbs_pow]
      have h1 := lq_pow x.natAbs i
      have h2 : i * lq x.natAbs ≤ (n + 1) * lq x.natAbs := Nat.mul_le_mul_right _ (by omega)
      have h3 : 1 * lq x.natAbs ≤ (n + 1) * lq x.natAbs := Nat.mul_le_mul_right _ (by omega)
      omega
    have ht := rTimes hl
    rw [← Int.pow_succ] at ht
    refine go ?_
    refine callz (ht) ?_
    refine go ?_
    refine R_nilR ⟨[0, 1, 2], _, ?_, i + 1, by omega, by omega, rfl⟩; exact lessA
  · simp only [decide_eq_true_eq, decide_eq_false_iff_not, Bool.or_eq_true, Bool.and_eq_true, Bool.or_eq_false_iff, Bool.and_eq_false_iff, Bool.not_eq_true', Bool.not_eq_false', bne_iff_ne, beq_iff_eq, ne_eq, bne_eq_false_iff_eq, beq_eq_false_iff_ne, ge_iff_le, gt_iff_lt, Int.not_le, Int.not_lt] at h
    obtain rfl : i = n := by omega
    refine go ?_
    refine R_ret (finA [])
end Go.Proofs.YtglnkfpmogaifaaGreatDoor.V

/-
  The reference's Right, Check.
-/
set_option linter.unusedSimpArgs false
set_option linter.unusedVariables false
set_option maxHeartbeats 8000000
namespace Go.Proofs.YtglnkfpmogaifaaGreatDoor.V
open Go Go.Proofs Go.RowKit Go.Lib

theorem byte_eq (c d : UInt8) : (((c.toNat : Nat) : Int) == (d.toNat : Int)) = (c == d) := by
  by_cases h : c = d
  · subst h; simp
  · have : c.toNat ≠ d.toNat := fun e => h (by rw [← UInt8.toNat_inj]; exact e)
    have hI : ¬ ((c.toNat : Int) = (d.toNat : Int)) := by omega
    rw [beq_eq_false_iff_ne.2 hI, beq_eq_false_iff_ne.2 h]
theorem neg1_get {l : List UInt8} (h : 0 < l.length) : (((l.getD 0 0).toNat : Int) == 45) = neg1 l := by
  have := byte_eq (l.getD 0 0) 45
  rw [show ((45 : UInt8).toNat : Int) = 45 from rfl] at this
  rw [this]
  unfold neg1
  cases l with
  | nil => simp at h
  | cons c t => rfl
theorem neg1_len {l : List UInt8} (h : neg1 l = true) : 0 < l.length := by
  cases l with
  | nil => simp [neg1] at h
  | cons c t => simp
theorem strip_drop (l : List UInt8) : strip l = l.drop (if neg1 l then 1 else 0) := by
  unfold strip
  split
  · rw [List.drop_one]
  · rw [List.drop_zero]
theorem ugetD_drop (l : List UInt8) (f i : Nat) : (l.drop f).getD i 0 = l.getD (f + i) 0 := by simp [List.getD_eq_getElem?_getD, List.getElem?_drop]
theorem take_all {S : List UInt8} {k : Nat} (h : k < S.length) (ha : (S.take k).all isD = true) (hd : isD (S.getD k 0) = true) : (S.take (k + 1)).all isD = true := by
  rw [List.take_succ_eq_append_getElem h, List.all_append, ha, Bool.true_and]
  have : S.getD k 0 = S[k] := by simp [List.getD_eq_getElem?_getD, h]
  rw [this] at hd
  simp [hd]
theorem not_all {S : List UInt8} {k : Nat} (h : k < S.length) (hd : isD (S.getD k 0) = false) : S.all isD = false := by
  rw [List.all_eq_false]
  refine ⟨S[k], List.getElem_mem h, ?_⟩
  have : S.getD k 0 = S[k] := by simp [List.getD_eq_getElem?_getD, h]
  rw [this] at hd
  rw [hd]
  decide
theorem isD_lt (c : UInt8) : (decide ((c.toNat : Int) < 48) || decide ((c.toNat : Int) > 57)) = !isD c := by
  unfold isD
  by_cases h1 : 48 ≤ c.toNat <;> by_cases h2 : c.toNat ≤ 57
  · rw [decide_eq_true h1, decide_eq_true h2, decide_eq_false (by omega), decide_eq_false (by omega)]; rfl
  · rw [decide_eq_true h1, decide_eq_false h2, decide_eq_false (by omega), decide_eq_true (by omega)]; rfl
  · rw [decide_eq_false h1, decide_eq_true h2, decide_eq_true (by omega), decide_eq_false (by omega)]; rfl
  · omega
theorem rRight {l : List UInt8} (hll : l.length ≤ 1000000) : Con Tryz.prog 57 [tx l] (.sc (.bool (okT l))) [] := by
  obtain ⟨S, hS⟩ : ∃ S, S = strip l := ⟨_, rfl⟩
  have hok : okT l = (decide (S ≠ []) && decide (S.length ≤ 600) && S.all isD && (decide (S.headD 0 ≠ 48) || decide (l.length = 1))) := by rw [hS]; rfl
  have hsd := strip_drop l
  rw [← hS] at hsd
  have hSl : S.length ≤ l.length := by rw [hsd, List.length_drop]; omega
  cases hg : neg1 l
  · rw [hg] at hsd
    simp only [Bool.false_eq_true, if_false] at hsd
    refine Con.of_body [(0, tx l)] Tryz.func57 rfl ca57 50 rfl (by simp) rfl ?_; refine T_of_R ?_
    refine go ?_
    refine cnd (fun h => ?_) (fun _ => ?_)
    · rw [Bool.and_eq_true, decide_eq_true_eq] at h
      rw [neg1_get (by omega), hg] at h
      cases h.2
    · refine go ?_
      have hsl : (l.length : Int) - (0 : Int) = S.length := by rw [hsd, List.length_drop]; omega
      have hsL : l.length = 0 + S.length := by omega
      rw [hsl]
      refine go ?_
      refine cnd (fun h => ?_) (fun h => ?_)
      · simp only [decide_eq_true_eq, decide_eq_false_iff_not, Bool.or_eq_true, Bool.and_eq_true, Bool.or_eq_false_iff, Bool.and_eq_false_iff, Bool.not_eq_true', Bool.not_eq_false', bne_iff_ne, beq_iff_eq, ne_eq, bne_eq_false_iff_eq, beq_eq_false_iff_ne, ge_iff_le, gt_iff_lt, Int.not_le, Int.not_lt] at h
        have ho : okT l = false := by
          rw [hok]
          by_cases h1 : S = []
          · simp [h1]
          · have := List.length_pos_iff.2 h1
            have h2 : ¬ S.length ≤ 600 := by omega
            rw [decide_eq_false h2]
            simp
        rw [ho]
        refine go ?_
        refine R_ret (finA [])
      · simp only [decide_eq_true_eq, decide_eq_false_iff_not, Bool.or_eq_true, Bool.and_eq_true, Bool.or_eq_false_iff, Bool.and_eq_false_iff, Bool.not_eq_true', Bool.not_eq_false', bne_iff_ne, beq_iff_eq, ne_eq, bne_eq_false_iff_eq, beq_eq_false_iff_ne, ge_iff_le, gt_iff_lt, Int.not_le, Int.not_lt] at h
        have hn : S ≠ [] := fun e => by rw [e] at h; simp at h
        refine go ?_
        refine R_loop (fun k : Nat => ⟨tl [(0, tx l), (2, .sc (.bool false)), (3, .sc (.int .i64 (0 : Int))), (5, .sc (.int .i64 (k : Int)))], ol [], 0, [], 50⟩) (fun k => 0 ≤ k ∧ k ≤ l.length ∧ (S.take (k - 0)).all isD = true) (fun k => l.length - k) 0 [] lessA ⟨Nat.le_refl _, by omega, by simp⟩ fun k hi => ?_
        obtain ⟨hi1, hi2, hi3⟩ := hi
        have hgk : l.getD k 0 = S.getD (k - 0) 0 := by rw [hsd, ugetD_drop, show 0 + (k - 0) = k by omega]
        refine go ?_
        refine cnd (fun h => ?_) (fun h => ?_)
        · simp only [decide_eq_true_eq, decide_eq_false_iff_not, Bool.or_eq_true, Bool.and_eq_true, Bool.or_eq_false_iff, Bool.and_eq_false_iff, Bool.not_eq_true', Bool.not_eq_false', bne_iff_ne, beq_iff_eq, ne_eq, bne_eq_false_iff_eq, beq_eq_false_iff_ne, ge_iff_le, gt_iff_lt, Int.not_le, Int.not_lt] at h
          have hkS : k - 0 < S.length := by omega
          refine go ?_
          rw [hgk, isD_lt]
          refine cnd (fun h => ?_) (fun h => ?_)
          · simp only [decide_eq_true_eq, decide_eq_false_iff_not, Bool.or_eq_true, Bool.and_eq_true, Bool.or_eq_false_iff, Bool.and_eq_false_iff, Bool.not_eq_true', Bool.not_eq_false', bne_iff_ne, beq_iff_eq, ne_eq, bne_eq_false_iff_eq, beq_eq_false_iff_ne, ge_iff_le, gt_iff_lt, Int.not_le, Int.not_lt] at h
            have ho : okT l = false := by rw [hok, not_all hkS h]; simp
            rw [ho]
            refine go ?_
            refine R_ret (finA [])
          · simp only [decide_eq_true_eq, decide_eq_false_iff_not, Bool.or_eq_true, Bool.and_eq_true, Bool.or_eq_false_iff, Bool.and_eq_false_iff, Bool.not_eq_true', Bool.not_eq_false', bne_iff_ne, beq_iff_eq, ne_eq, bne_eq_false_iff_eq, beq_eq_false_iff_ne, ge_iff_le, gt_iff_lt, Int.not_le, Int.not_lt] at h
            have hta := take_all hkS hi3 h
            rw [show k - 0 + 1 = k + 1 - 0 by omega] at hta
            refine go ?_
            refine R_nilR ⟨[], _, ?_, k + 1, ⟨by omega, by omega, hta⟩, by omega, rfl⟩; exact lessA
        · simp only [decide_eq_true_eq, decide_eq_false_iff_not, Bool.or_eq_true, Bool.and_eq_true, Bool.or_eq_false_iff, Bool.and_eq_false_iff, Bool.not_eq_true', Bool.not_eq_false', bne_iff_ne, beq_iff_eq, ne_eq, bne_eq_false_iff_eq, beq_eq_false_iff_ne, ge_iff_le, gt_iff_lt, Int.not_le, Int.not_lt] at h
          have hall := hi3
          rw [List.take_of_length_le (by omega)] at hall
          have h600 : S.length ≤ 600 := by omega
          have hlast : okT l = (((l.getD 0 0).toNat : Int) != 48 || ((l.length : Int) == 1)) := by
            rw [hok, hall, decide_eq_true hn, decide_eq_true h600]
            have e1 : l.getD 0 0 = S.headD 0 := by
              rw [hsd]
              cases hd : l.drop 0 with
              | nil => rw [hd] at hsd; exact (hn hsd).elim
              | cons c t =>
                have := ugetD_drop l 0 0
                rw [hd] at this
                rw [Nat.add_zero] at this
                rw [← this]
                rfl
            have hb48 : (((S.headD 0).toNat : Int) == 48) = (S.headD 0 == 48) := byte_eq _ 48
            rw [e1, bne, hb48]
            have hc1 : (S.headD 0 == 48) = decide (S.headD 0 = 48) := rfl
            have hc2 : ((l.length : Int) == 1) = decide (l.length = 1) := by
              by_cases h2 : l.length = 1
              · rw [decide_eq_true h2, beq_iff_eq]; omega
              · rw [decide_eq_false h2, beq_eq_false_iff_ne]; omega
            have hc3 : decide (S.headD 0 ≠ 48) = !decide (S.headD 0 = 48) := by simp only [ne_eq, decide_not]
            rw [hc1, hc2, hc3]
            rfl
          rw [hlast]
          refine go ?_
          refine R_ret (finA [])
  · rw [hg] at hsd
    simp only [if_true] at hsd
    have hlp := neg1_len hg
    refine Con.of_body [(0, tx l)] Tryz.func57 rfl ca57 50 rfl (by simp) rfl ?_; refine T_of_R ?_
    refine go ?_
    refine cnd (fun _ => ?_) (fun h => ?_)
    · refine go ?_
      have hsl : (l.length : Int) - (1 : Int) = S.length := by rw [hsd, List.length_drop]; omega
      have hsL : l.length = 1 + S.length := by omega
      rw [hsl]
      refine go ?_
      refine cnd (fun h => ?_) (fun h => ?_)
      · simp only [decide_eq_true_eq, decide_eq_false_iff_not, Bool.or_eq_true, Bool.and_eq_true, Bool.or_eq_false_iff, Bool.and_eq_false_iff, Bool.not_eq_true', Bool.not_eq_false', bne_iff_ne, beq_iff_eq, ne_eq, bne_eq_false_iff_eq, beq_eq_false_iff_ne, ge_iff_le, gt_iff_lt, Int.not_le, Int.not_lt] at h
        have ho : okT l = false := by
          rw [hok]
          by_cases h1 : S = []
          · simp [h1]
          · have := List.length_pos_iff.2 h1
            have h2 : ¬ S.length ≤ 600 := by omega
            rw [decide_eq_false h2]
            simp
        rw [ho]
        refine go ?_
        refine R_ret (finA [])
      · simp only [decide_eq_true_eq, decide_eq_false_iff_not, Bool.or_eq_true, Bool.and_eq_true, Bool.or_eq_false_iff, Bool.and_eq_false_iff, Bool.not_eq_true', Bool.not_eq_false', bne_iff_ne, beq_iff_eq, ne_eq, bne_eq_false_iff_eq, beq_eq_false_iff_ne, ge_iff_le, gt_iff_lt, Int.not_le, Int.not_lt] at h
        have hn : S ≠ [] := fun e => by rw [e] at h; simp at h
        refine go ?_
        refine R_loop (fun k : Nat => ⟨tl [(0, tx l), (2, .sc (.bool false)), (3, .sc (.int .i64 (1 : Int))), (5, .sc (.int .i64 (k : Int)))], ol [], 0, [], 50⟩) (fun k => 1 ≤ k ∧ k ≤ l.length ∧ (S.take (k - 1)).all isD = true) (fun k => l.length - k) 1 [] lessA ⟨Nat.le_refl _, by omega, by simp⟩ fun k hi => ?_
        obtain ⟨hi1, hi2, hi3⟩ := hi
        have hgk : l.getD k 0 = S.getD (k - 1) 0 := by rw [hsd, ugetD_drop, show 1 + (k - 1) = k by omega]
        refine go ?_
        refine cnd (fun h => ?_) (fun h => ?_)
        · simp only [decide_eq_true_eq, decide_eq_false_iff_not, Bool.or_eq_true, Bool.and_eq_true, Bool.or_eq_false_iff, Bool.and_eq_false_iff, Bool.not_eq_true', Bool.not_eq_false', bne_iff_ne, beq_iff_eq, ne_eq, bne_eq_false_iff_eq, beq_eq_false_iff_ne, ge_iff_le, gt_iff_lt, Int.not_le, Int.not_lt] at h
          have hkS : k - 1 < S.length := by omega
          refine go ?_
          rw [hgk, isD_lt]
          refine cnd (fun h => ?_) (fun h => ?_)
          · simp only [decide_eq_true_eq, decide_eq_false_iff_not, Bool.or_eq_true, Bool.and_eq_true, Bool.or_eq_false_iff, Bool.and_eq_false_iff, Bool.not_eq_true', Bool.not_eq_false', bne_iff_ne, beq_iff_eq, ne_eq, bne_eq_false_iff_eq, beq_eq_false_iff_ne, ge_iff_le, gt_iff_lt, Int.not_le, Int.not_lt] at h
            have ho : okT l = false := by rw [hok, not_all hkS h]; simp
            rw [ho]
            refine go ?_
            refine R_ret (finA [])
          · simp only [decide_eq_true_eq, decide_eq_false_iff_not, Bool.or_eq_true, Bool.and_eq_true, Bool.or_eq_false_iff, Bool.and_eq_false_iff, Bool.not_eq_true', Bool.not_eq_false', bne_iff_ne, beq_iff_eq, ne_eq, bne_eq_false_iff_eq, beq_eq_false_iff_ne, ge_iff_le, gt_iff_lt, Int.not_le, Int.not_lt] at h
            have hta := take_all hkS hi3 h
            rw [show k - 1 + 1 = k + 1 - 1 by omega] at hta
            refine go ?_
            refine R_nilR ⟨[], _, ?_, k + 1, ⟨by omega, by omega, hta⟩, by omega, rfl⟩; exact lessA
        · simp only [decide_eq_true_eq, decide_eq_false_iff_not, Bool.or_eq_true, Bool.and_eq_true, Bool.or_eq_false_iff, Bool.and_eq_false_iff, Bool.not_eq_true', Bool.not_eq_false', bne_iff_ne, beq_iff_eq, ne_eq, bne_eq_false_iff_eq, beq_eq_false_iff_ne, ge_iff_le, gt_iff_lt, Int.not_le, Int.not_lt] at h
          have hall := hi3
          rw [List.take_of_length_le (by omega)] at hall
          have h600 : S.length ≤ 600 := by omega
          have hlast : okT l = (((l.getD 1 0).toNat : Int) != 48 || ((l.length : Int) == 1)) := by
            rw [hok, hall, decide_eq_true hn, decide_eq_true h600]
            have e1 : l.getD 1 0 = S.headD 0 := by
              rw [hsd]
              cases hd : l.drop 1 with
              | nil => rw [hd] at hsd; exact (hn hsd).elim
              | cons c t =>
                have := ugetD_drop l 1 0
                rw [hd] at this
                rw [Nat.add_zero] at this
                rw [← this]
                rfl
            have hb48 : (((S.headD 0).toNat : Int) == 48) = (S.headD 0 == 48) := byte_eq _ 48
            rw [e1, bne, hb48]
            have hc1 : (S.headD 0 == 48) = decide (S.headD 0 = 48) := rfl
            have hc2 : ((l.length : Int) == 1) = decide (l.length = 1) := by
              by_cases h2 : l.length = 1
              · rw [decide_eq_true h2, beq_iff_eq]; omega
              · rw [decide_eq_false h2, beq_eq_false_iff_ne]; omega
            have hc3 : decide (S.headD 0 ≠ 48) = !decide (S.headD 0 = 48) := by simp only [ne_eq, decide_not]
            rw [hc1, hc2, hc3]
            rfl
          rw [hlast]
          refine go ?_
          refine R_ret (finA [])
    · rw [neg1_get hlp, hg, Bool.and_true, decide_eq_false_iff_not] at h
      omega
end Go.Proofs.YtglnkfpmogaifaaGreatDoor.V

/-
  The reference's In: the number of a text.
-/
set_option linter.unusedSimpArgs false
set_option linter.unusedVariables false
set_option maxHeartbeats 8000000
namespace Go.Proofs.YtglnkfpmogaifaaGreatDoor.V
open Go Go.Proofs Go.RowKit Go.Lib

theorem dval_take {S : List UInt8} {F j : Nat} (h : F + j < S.length) : dval ((S.drop F).take (j + 1)) = dval ((S.drop F).take j) * 10 + ((S.getD (F + j) 0).toNat - 48) := by
  have hl : j < (S.drop F).length := by rw [List.length_drop]; omega
  rw [List.take_succ_eq_append_getElem hl, dval_append, dval_one]
  have : (S.drop F)[j] = S.getD (F + j) 0 := by
    have hF : F + j < S.length := h
    simp [List.getD_eq_getElem?_getD, hF]
  rw [this]
  simp
theorem isD_get {S : List UInt8} (h : S.all isD = true) {i : Nat} (hi : i < S.length) : 48 ≤ (S.getD i 0).toNat ∧ (S.getD i 0).toNat ≤ 57 := by
  have : S.getD i 0 = S[i] := by simp [List.getD_eq_getElem?_getD, hi]
  rw [this]
  rw [List.all_eq_true] at h
  exact isD_bd (h _ (List.getElem_mem hi))
theorem wrapb {n : Int} (h1 : 0 ≤ n) (h2 : n ≤ 255) : IntKind.u8.wrap n = n := by
  rw [IntKind.wrap_u8]
  omega
attribute [go_sem] wrapb
theorem dval_nil : dval [] = 0 := rfl
theorem numT_sg (l : List UInt8) : numT l = sg (neg1 l) (dval (strip l)) := rfl
theorem rIn {l : List UInt8} (h : okT l = true) : Con Tryz.prog 59 [tx l] (pl (numT l)) [] := by
  obtain ⟨h1, h2, h3, h4⟩ := okT_spec h
  obtain ⟨S, hS⟩ : ∃ S, S = strip l := ⟨_, rfl⟩
  rw [numT_sg]
  have hsd := strip_drop l
  have hll := ok_length h
  rw [← hS] at h1 h2 h3 h4 hsd ⊢
  have hSp := List.length_pos_iff.2 h1
  cases hg : neg1 l
  · rw [hg] at hsd
    simp only [Bool.false_eq_true, if_false] at hsd
    refine Con.of_body [(0, tx l)] Tryz.func59 rfl ca59 43 rfl (by simp) rfl ?_; refine T_of_R ?_
    have hlp : 0 < l.length := by rw [hsd, List.length_drop] at hSp; omega
    refine go ?_
    rw [neg1_get hlp, hg]
    refine cnd (b := false) (fun h => by cases h) (fun _ => ?_)
    refine go ?_
    have hsL : l.length = 0 + S.length := by rw [hsd, List.length_drop]; omega
    refine R_loop (fun p : Int × Nat × List Int => ⟨tl [(0, tx l), (2, .pt 0 0), (3, .sc (.int .i64 (0 : Int))), (4, lsE p.2.2), (5, .sc (.int .i64 p.1))], ol ((0, ⟨[.sc (.bool false), .em], 79, 0, false⟩) :: lsP p.2.2), 2, [], 43⟩)
      (fun p => (p.1 = 0 + p.2.1 ∨ (p.2.1 = 0 ∧ p.1 ≤ 0)) ∧ -10 ≤ p.1 ∧ p.2.1 ≤ S.length ∧ Dg BQ p.2.2 ∧ val BQ p.2.2 = dval (S.drop p.2.1) ∧ (0 < p.2.1 → (S.drop p.2.1).length = 4 * p.2.2.length) ∧ (p.2.2.length = 0 → p.2.1 = S.length) ∧ p.2.2.length ≤ 1000) (fun p => p.2.1) ((l.length : Int), S.length, []) [0] (Less.mk' (by simp (disch := (first | omega | (simp only [go_sem, ↓reduceIte, Nat.reduceEqDiff, Nat.reduceAdd, Nat.reduceMul, Nat.reduceSub, Nat.reduceLT, Nat.reduceLeDiff, Nat.reduceBNe, Nat.reduceBEq, Int.reduceToNat, Int.reduceAdd, Int.reduceSub, Int.reduceMul, Int.reduceLT, Int.reduceLE, Int.reduceNeg, Int.reduceBEq, Int.reduceBNe, Int.reduceEq, beq_self_eq_true, reduceCtorEq, decide_true, decide_false, if_pos, if_neg]; first | done | omega))) only [go_sem, ↓reduceIte, Nat.reduceEqDiff, Nat.reduceAdd, Nat.reduceMul, Nat.reduceSub, Nat.reduceLT, Nat.reduceLeDiff, Nat.reduceBNe, Nat.reduceBEq, Int.reduceToNat, Int.reduceAdd, Int.reduceSub, Int.reduceMul, Int.reduceLT, Int.reduceLE, Int.reduceNeg, Int.reduceBEq, Int.reduceBNe, Int.reduceEq, beq_self_eq_true, reduceCtorEq, decide_true, decide_false, if_pos, if_neg, List.length_nil, lsE, lsP]) (by simp (disch := (first | omega | (simp only [go_sem, ↓reduceIte, Nat.reduceEqDiff, Nat.reduceAdd, Nat.reduceMul, Nat.reduceSub, Nat.reduceLT, Nat.reduceLeDiff, Nat.reduceBNe, Nat.reduceBEq, Int.reduceToNat, Int.reduceAdd, Int.reduceSub, Int.reduceMul, Int.reduceLT, Int.reduceLE, Int.reduceNeg, Int.reduceBEq, Int.reduceBNe, Int.reduceEq, beq_self_eq_true, reduceCtorEq, decide_true, decide_false, if_pos, if_neg]; first | done | omega))) only [go_sem, ↓reduceIte, Nat.reduceEqDiff, Nat.reduceAdd, Nat.reduceMul, Nat.reduceSub, Nat.reduceLT, Nat.reduceLeDiff, Nat.reduceBNe, Nat.reduceBEq, Int.reduceToNat, Int.reduceAdd, Int.reduceSub, Int.reduceMul, Int.reduceLT, Int.reduceLE, Int.reduceNeg, Int.reduceBEq, Int.reduceBNe, Int.reduceEq, beq_self_eq_true, reduceCtorEq, decide_true, decide_false, if_pos, if_neg, List.length_nil, lsE, lsP]) (by decide) (by decide)) ⟨.inl (by simp only; omega), by simp only; omega, Nat.le_refl _, dg_nil _, by simp [val, dval], fun _ => by simp, fun _ => rfl, by simp⟩ fun p hi => ?_
    obtain ⟨e, m, C⟩ := p
    obtain ⟨i1, i2, i3, i4, i5, i6, i7, i8⟩ := hi
    simp only at i1 i2 i3 i4 i5 i6 i7 i8
    simp only
    obtain ⟨F, hF⟩ : ∃ F, F = m - 4 := ⟨_, rfl⟩
    have hall : ∀ k, ((S.drop F).take k).all isD = true := fun k => by
      rw [List.all_eq_true] at h3 ⊢
      exact fun x hx => h3 x (List.mem_of_mem_drop (List.mem_of_mem_take hx))
    have hdl : ∀ k, k ≤ 4 → dval ((S.drop F).take k) < 10000 := fun k hk => by
      have a1 := dval_lt _ (hall k)
      have a2 : 10 ^ ((S.drop F).take k).length ≤ 10 ^ 4 := Nat.pow_le_pow_right (by omega) (by rw [List.length_take]; omega)
      omega
    have hmF : m ≤ F + 4 := by omega
    have hsplit : S.drop F = (S.drop F).take (m - F) ++ S.drop m := by
      conv => lhs; rw [← List.take_append_drop (m - F) (S.drop F)]
      rw [List.drop_drop, show F + (m - F) = m by omega]
    have hstep : 0 < m → ((e - 4 = 0 + F ∨ (F = 0 ∧ e - 4 ≤ 0)) ∧ -10 ≤ e - 4 ∧ F ≤ S.length ∧ Dg BQ (C ++ [(dval ((S.drop F).take (m - F)) : Int)]) ∧ val BQ (C ++ [(dval ((S.drop F).take (m - F)) : Int)]) = dval (S.drop F) ∧ (0 < F → (S.drop F).length = 4 * (C ++ [(dval ((S.drop F).take (m - F)) : Int)]).length) ∧ ((C ++ [(dval ((S.drop F).take (m - F)) : Int)]).length = 0 → F = S.length) ∧ (C ++ [(dval ((S.drop F).take (m - F)) : Int)]).length ≤ 1000) ∧ F < m := fun hm => by
      have hlen : (C ++ [(dval ((S.drop F).take (m - F)) : Int)]).length = C.length + 1 := by rw [List.length_append, List.length_singleton]
      have hl6 := i6 hm
      rw [List.length_drop] at hl6
      refine ⟨⟨by omega, by omega, by omega, i4.append (dg_ofQ fun j hj => ?_), ?_, fun h0 => ?_, fun h0 => by omega, by omega⟩, by omega⟩
      · rw [List.length_singleton] at hj
        obtain rfl : j = 0 := by omega
        simp only [List.getD_cons_zero]
        have := hdl (m - F) (by omega)
        omega
      · conv => rhs; rw [hsplit]
        rw [val_append, dval_append, i5, List.length_drop, hl6, Nat.pow_mul]
        simp only [val, Int.mul_zero, Int.add_zero]
        rw [Int.natCast_add, Int.natCast_mul, Int.add_comm, Int.mul_comm]
      · rw [hlen, List.length_drop]
        omega
    by_cases hC : C.length = 0
    · obtain rfl : C = [] := List.length_eq_zero_iff.1 hC
      simp only [lsE, lsP, List.length_nil, ↓reduceIte]
      refine go ?_
      refine cnd (fun h => ?_) (fun h => ?_)
      · simp only [decide_eq_true_eq, decide_eq_false_iff_not, Bool.or_eq_true, Bool.and_eq_true, Bool.or_eq_false_iff, Bool.and_eq_false_iff, Bool.not_eq_true', Bool.not_eq_false', bne_iff_ne, beq_iff_eq, ne_eq, bne_eq_false_iff_eq, beq_eq_false_iff_ne, ge_iff_le, gt_iff_lt, Int.not_le, Int.not_lt] at h
        have hm : 0 < m := by omega
        have he : e = 0 + m := by omega
        have hx := hstep hm
        have hmx : (if (0 : Int) > e - 4 then (0 : Int) else e - 4) = ((0 + F : Nat) : Int) := by split <;> omega
        refine go ?_
        rw [hmx]
        refine R_loop (fun i : Nat => ⟨tl [(0, tx l), (2, .pt 0 0), (3, .sc (.int .i64 (0 : Int))), (4, .em), (5, .sc (.int .i64 e)), (6, .sc (.int .i64 (dval ((S.drop F).take (i - (0 + F))) : Int))), (7, .sc (.int .i64 (i : Int)))], ol ((0, ⟨[.sc (.bool false), .em], 79, 0, false⟩) :: []), 2, [], 43⟩) (fun i => 0 + F ≤ i ∧ i ≤ 0 + m) (fun i => 0 + m - i) (0 + F) [0] (Less.mk' (by simp (disch := (first | omega | (simp only [go_sem, ↓reduceIte, Nat.reduceEqDiff, Nat.reduceAdd, Nat.reduceMul, Nat.reduceSub, Nat.reduceLT, Nat.reduceLeDiff, Nat.reduceBNe, Nat.reduceBEq, Int.reduceToNat, Int.reduceAdd, Int.reduceSub, Int.reduceMul, Int.reduceLT, Int.reduceLE, Int.reduceNeg, Int.reduceBEq, Int.reduceBNe, Int.reduceEq, beq_self_eq_true, reduceCtorEq, decide_true, decide_false, if_pos, if_neg]; first | done | omega))) only [go_sem, ↓reduceIte, Nat.reduceEqDiff, Nat.reduceAdd, Nat.reduceMul, Nat.reduceSub, Nat.reduceLT, Nat.reduceLeDiff, Nat.reduceBNe, Nat.reduceBEq, Int.reduceToNat, Int.reduceAdd, Int.reduceSub, Int.reduceMul, Int.reduceLT, Int.reduceLE, Int.reduceNeg, Int.reduceBEq, Int.reduceBNe, Int.reduceEq, beq_self_eq_true, reduceCtorEq, decide_true, decide_false, if_pos, if_neg, Nat.sub_self, List.take_zero, dval_nil, Int.natCast_zero]) (by simp (disch := (first | omega | (simp only [go_sem, ↓reduceIte, Nat.reduceEqDiff, Nat.reduceAdd, Nat.reduceMul, Nat.reduceSub, Nat.reduceLT, Nat.reduceLeDiff, Nat.reduceBNe, Nat.reduceBEq, Int.reduceToNat, Int.reduceAdd, Int.reduceSub, Int.reduceMul, Int.reduceLT, Int.reduceLE, Int.reduceNeg, Int.reduceBEq, Int.reduceBNe, Int.reduceEq, beq_self_eq_true, reduceCtorEq, decide_true, decide_false, if_pos, if_neg]; first | done | omega))) only [go_sem, ↓reduceIte, Nat.reduceEqDiff, Nat.reduceAdd, Nat.reduceMul, Nat.reduceSub, Nat.reduceLT, Nat.reduceLeDiff, Nat.reduceBNe, Nat.reduceBEq, Int.reduceToNat, Int.reduceAdd, Int.reduceSub, Int.reduceMul, Int.reduceLT, Int.reduceLE, Int.reduceNeg, Int.reduceBEq, Int.reduceBNe, Int.reduceEq, beq_self_eq_true, reduceCtorEq, decide_true, decide_false, if_pos, if_neg, Nat.sub_self, List.take_zero, dval_nil, Int.natCast_zero]) (by decide) (by decide)) ⟨by omega, by omega⟩ fun i hii => ?_
        obtain ⟨ii1, ii2⟩ := hii
        refine go ?_
        refine cnd (fun h => ?_) (fun h => ?_)
        · simp only [decide_eq_true_eq, decide_eq_false_iff_not, Bool.or_eq_true, Bool.and_eq_true, Bool.or_eq_false_iff, Bool.and_eq_false_iff, Bool.not_eq_true', Bool.not_eq_false', bne_iff_ne, beq_iff_eq, ne_eq, bne_eq_false_iff_eq, beq_eq_false_iff_ne, ge_iff_le, gt_iff_lt, Int.not_le, Int.not_lt] at h
          have hgk : l.getD i 0 = S.getD (F + (i - (0 + F))) 0 := by rw [hsd, ugetD_drop, show 0 + (F + (i - (0 + F))) = i by omega]
          have hbb := isD_get h3 (i := F + (i - (0 + F))) (by omega)
          have hdi := hdl (i - (0 + F)) (by omega)
          have hdn := dval_take (S := S) (F := F) (j := i - (0 + F)) (by omega)
          rw [← hgk] at hbb hdn
          have hji : i - (0 + F) + 1 = i + 1 - (0 + F) := by omega
          have hdc : (dval ((S.drop F).take (i - (0 + F))) : Int) * 10 + (((l.getD i 0).toNat : Int) - 48) = (dval ((S.drop F).take (i + 1 - (0 + F))) : Int) := by
            rw [← hji, hdn]
            omega
          have hdc' := hdc
          have hdi' := hdi
          try simp only [Nat.zero_add] at hdc' hdi'
          refine go ?_
          refine R_nilR ⟨[0], _, ?_, i + 1, ⟨by omega, by omega⟩, by omega, rfl⟩; exact (Less.mk' (by simp (disch := (first | omega | (simp only [go_sem, ↓reduceIte, Nat.reduceEqDiff, Nat.reduceAdd, Nat.reduceMul, Nat.reduceSub, Nat.reduceLT, Nat.reduceLeDiff, Nat.reduceBNe, Nat.reduceBEq, Int.reduceToNat, Int.reduceAdd, Int.reduceSub, Int.reduceMul, Int.reduceLT, Int.reduceLE, Int.reduceNeg, Int.reduceBEq, Int.reduceBNe, Int.reduceEq, beq_self_eq_true, reduceCtorEq, decide_true, decide_false, if_pos, if_neg]; first | done | omega))) only [go_sem, ↓reduceIte, Nat.reduceEqDiff, Nat.reduceAdd, Nat.reduceMul, Nat.reduceSub, Nat.reduceLT, Nat.reduceLeDiff, Nat.reduceBNe, Nat.reduceBEq, Int.reduceToNat, Int.reduceAdd, Int.reduceSub, Int.reduceMul, Int.reduceLT, Int.reduceLE, Int.reduceNeg, Int.reduceBEq, Int.reduceBNe, Int.reduceEq, beq_self_eq_true, reduceCtorEq, decide_true, decide_false, if_pos, if_neg, hdc, hdc']) (by simp (disch := (first | omega | (simp only [go_sem, ↓reduceIte, Nat.reduceEqDiff, Nat.reduceAdd, Nat.reduceMul, Nat.reduceSub, Nat.reduceLT, Nat.reduceLeDiff, Nat.reduceBNe, Nat.reduceBEq, Int.reduceToNat, Int.reduceAdd, Int.reduceSub, Int.reduceMul, Int.reduceLT, Int.reduceLE, Int.reduceNeg, Int.reduceBEq, Int.reduceBNe, Int.reduceEq, beq_self_eq_true, reduceCtorEq, decide_true, decide_false, if_pos, if_neg]; first | done | omega))) only [go_sem, ↓reduceIte, Nat.reduceEqDiff, Nat.reduceAdd, Nat.reduceMul, Nat.reduceSub, Nat.reduceLT, Nat.reduceLeDiff, Nat.reduceBNe, Nat.reduceBEq, Int.reduceToNat, Int.reduceAdd, Int.reduceSub, Int.reduceMul, Int.reduceLT, Int.reduceLE, Int.reduceNeg, Int.reduceBEq, Int.reduceBNe, Int.reduceEq, beq_self_eq_true, reduceCtorEq, decide_true, decide_false, if_pos, if_neg, hdc, hdc']) (by decide) (by decide))
        · simp only [decide_eq_true_eq, decide_eq_false_iff_not, Bool.or_eq_true, Bool.and_eq_true, Bool.or_eq_false_iff, Bool.and_eq_false_iff, Bool.not_eq_true', Bool.not_eq_false', bne_iff_ne, beq_iff_eq, ne_eq, bne_eq_false_iff_eq, beq_eq_false_iff_ne, ge_iff_le, gt_iff_lt, Int.not_le, Int.not_lt] at h
          obtain rfl : i = 0 + m := by omega
          have hmm : 0 + m - (0 + F) = m - F := by omega
          rw [hmm]
          refine go ?_
          refine R_nilR ⟨[0, 3], _, ?_, (e - 4, F, ([] : List Int) ++ [(dval ((S.drop F).take (m - F)) : Int)]), hx.1, hx.2, rfl⟩; exact (Less.mk' (by simp (disch := (first | omega | (simp only [go_sem, ↓reduceIte, Nat.reduceEqDiff, Nat.reduceAdd, Nat.reduceMul, Nat.reduceSub, Nat.reduceLT, Nat.reduceLeDiff, Nat.reduceBNe, Nat.reduceBEq, Int.reduceToNat, Int.reduceAdd, Int.reduceSub, Int.reduceMul, Int.reduceLT, Int.reduceLE, Int.reduceNeg, Int.reduceBEq, Int.reduceBNe, Int.reduceEq, beq_self_eq_true, reduceCtorEq, decide_true, decide_false, if_pos, if_neg]; first | done | omega))) only [go_sem, ↓reduceIte, Nat.reduceEqDiff, Nat.reduceAdd, Nat.reduceMul, Nat.reduceSub, Nat.reduceLT, Nat.reduceLeDiff, Nat.reduceBNe, Nat.reduceBEq, Int.reduceToNat, Int.reduceAdd, Int.reduceSub, Int.reduceMul, Int.reduceLT, Int.reduceLE, Int.reduceNeg, Int.reduceBEq, Int.reduceBNe, Int.reduceEq, beq_self_eq_true, reduceCtorEq, decide_true, decide_false, if_pos, if_neg, List.length_nil, List.nil_append, ints_one, lsE, lsP, List.length_singleton]) (by simp (disch := (first | omega | (simp only [go_sem, ↓reduceIte, Nat.reduceEqDiff, Nat.reduceAdd, Nat.reduceMul, Nat.reduceSub, Nat.reduceLT, Nat.reduceLeDiff, Nat.reduceBNe, Nat.reduceBEq, Int.reduceToNat, Int.reduceAdd, Int.reduceSub, Int.reduceMul, Int.reduceLT, Int.reduceLE, Int.reduceNeg, Int.reduceBEq, Int.reduceBNe, Int.reduceEq, beq_self_eq_true, reduceCtorEq, decide_true, decide_false, if_pos, if_neg]; first | done | omega))) only [go_sem, ↓reduceIte, Nat.reduceEqDiff, Nat.reduceAdd, Nat.reduceMul, Nat.reduceSub, Nat.reduceLT, Nat.reduceLeDiff, Nat.reduceBNe, Nat.reduceBEq, Int.reduceToNat, Int.reduceAdd, Int.reduceSub, Int.reduceMul, Int.reduceLT, Int.reduceLE, Int.reduceNeg, Int.reduceBEq, Int.reduceBNe, Int.reduceEq, beq_self_eq_true, reduceCtorEq, decide_true, decide_false, if_pos, if_neg, List.length_nil, List.nil_append, ints_one, lsE, lsP, List.length_singleton]) (by decide) (by decide))
      · simp only [decide_eq_true_eq, decide_eq_false_iff_not, Bool.or_eq_true, Bool.and_eq_true, Bool.or_eq_false_iff, Bool.and_eq_false_iff, Bool.not_eq_true', Bool.not_eq_false', bne_iff_ne, beq_iff_eq, ne_eq, bne_eq_false_iff_eq, beq_eq_false_iff_ne, ge_iff_le, gt_iff_lt, Int.not_le, Int.not_lt] at h
        (have := i7 rfl; omega)
    · simp only [lsE, lsP, if_neg hC]
      refine go ?_
      refine cnd (fun h => ?_) (fun h => ?_)
      · simp only [decide_eq_true_eq, decide_eq_false_iff_not, Bool.or_eq_true, Bool.and_eq_true, Bool.or_eq_false_iff, Bool.and_eq_false_iff, Bool.not_eq_true', Bool.not_eq_false', bne_iff_ne, beq_iff_eq, ne_eq, bne_eq_false_iff_eq, beq_eq_false_iff_ne, ge_iff_le, gt_iff_lt, Int.not_le, Int.not_lt] at h
        have hm : 0 < m := by omega
        have he : e = 0 + m := by omega
        have hx := hstep hm
        have hmx : (if (0 : Int) > e - 4 then (0 : Int) else e - 4) = ((0 + F : Nat) : Int) := by split <;> omega
        refine go ?_
        rw [hmx]
        refine R_loop (fun i : Nat => ⟨tl [(0, tx l), (2, .pt 0 0), (3, .sc (.int .i64 (0 : Int))), (4, .rf 1 0 C.length 1), (5, .sc (.int .i64 e)), (6, .sc (.int .i64 (dval ((S.drop F).take (i - (0 + F))) : Int))), (7, .sc (.int .i64 (i : Int)))], ol ((0, ⟨[.sc (.bool false), .em], 79, 0, false⟩) :: [(1, ⟨ints .i64 C, 3, 1, false⟩)]), 2, [], 43⟩) (fun i => 0 + F ≤ i ∧ i ≤ 0 + m) (fun i => 0 + m - i) (0 + F) [0, 1] (Less.mk' (by simp (disch := (first | omega | (simp only [go_sem, ↓reduceIte, Nat.reduceEqDiff, Nat.reduceAdd, Nat.reduceMul, Nat.reduceSub, Nat.reduceLT, Nat.reduceLeDiff, Nat.reduceBNe, Nat.reduceBEq, Int.reduceToNat, Int.reduceAdd, Int.reduceSub, Int.reduceMul, Int.reduceLT, Int.reduceLE, Int.reduceNeg, Int.reduceBEq, Int.reduceBNe, Int.reduceEq, beq_self_eq_true, reduceCtorEq, decide_true, decide_false, if_pos, if_neg]; first | done | omega))) only [go_sem, ↓reduceIte, Nat.reduceEqDiff, Nat.reduceAdd, Nat.reduceMul, Nat.reduceSub, Nat.reduceLT, Nat.reduceLeDiff, Nat.reduceBNe, Nat.reduceBEq, Int.reduceToNat, Int.reduceAdd, Int.reduceSub, Int.reduceMul, Int.reduceLT, Int.reduceLE, Int.reduceNeg, Int.reduceBEq, Int.reduceBNe, Int.reduceEq, beq_self_eq_true, reduceCtorEq, decide_true, decide_false, if_pos, if_neg, Nat.sub_self, List.take_zero, dval_nil, Int.natCast_zero]) (by simp (disch := (first | omega | (simp only [go_sem, ↓reduceIte, Nat.reduceEqDiff, Nat.reduceAdd, Nat.reduceMul, Nat.reduceSub, Nat.reduceLT, Nat.reduceLeDiff, Nat.reduceBNe, Nat.reduceBEq, Int.reduceToNat, Int.reduceAdd, Int.reduceSub, Int.reduceMul, Int.reduceLT, Int.reduceLE, Int.reduceNeg, Int.reduceBEq, Int.reduceBNe, Int.reduceEq, beq_self_eq_true, reduceCtorEq, decide_true, decide_false, if_pos, if_neg]; first | done | omega))) only [go_sem, ↓reduceIte, Nat.reduceEqDiff, Nat.reduceAdd, Nat.reduceMul, Nat.reduceSub, Nat.reduceLT, Nat.reduceLeDiff, Nat.reduceBNe, Nat.reduceBEq, Int.reduceToNat, Int.reduceAdd, Int.reduceSub, Int.reduceMul, Int.reduceLT, Int.reduceLE, Int.reduceNeg, Int.reduceBEq, Int.reduceBNe, Int.reduceEq, beq_self_eq_true, reduceCtorEq, decide_true, decide_false, if_pos, if_neg, Nat.sub_self, List.take_zero, dval_nil, Int.natCast_zero]) (by decide) (by decide)) ⟨by omega, by omega⟩ fun i hii => ?_
        obtain ⟨ii1, ii2⟩ := hii
        refine go ?_
        refine cnd (fun h => ?_) (fun h => ?_)
        · simp only [decide_eq_true_eq, decide_eq_false_iff_not, Bool.or_eq_true, Bool.and_eq_true, Bool.or_eq_false_iff, Bool.and_eq_false_iff, Bool.not_eq_true', Bool.not_eq_false', bne_iff_ne, beq_iff_eq, ne_eq, bne_eq_false_iff_eq, beq_eq_false_iff_ne, ge_iff_le, gt_iff_lt, Int.not_le, Int.not_lt] at h
          have hgk : l.getD i 0 = S.getD (F + (i - (0 + F))) 0 := by rw [hsd, ugetD_drop, show 0 + (F + (i - (0 + F))) = i by omega]
          have hbb := isD_get h3 (i := F + (i - (0 + F))) (by omega)
          have hdi := hdl (i - (0 + F)) (by omega)
          have hdn := dval_take (S := S) (F := F) (j := i - (0 + F)) (by omega)
          rw [← hgk] at hbb hdn
          have hji : i - (0 + F) + 1 = i + 1 - (0 + F) := by omega
          have hdc : (dval ((S.drop F).take (i - (0 + F))) : Int) * 10 + (((l.getD i 0).toNat : Int) - 48) = (dval ((S.drop F).take (i + 1 - (0 + F))) : Int) := by
            rw [← hji, hdn]
            omega
          have hdc' := hdc
          have hdi' := hdi
          try simp only [Nat.zero_add] at hdc' hdi'
          refine go ?_
          refine R_nilR ⟨[0, 1], _, ?_, i + 1, ⟨by omega, by omega⟩, by omega, rfl⟩; exact (Less.mk' (by simp (disch := (first | omega | (simp only [go_sem, ↓reduceIte, Nat.reduceEqDiff, Nat.reduceAdd, Nat.reduceMul, Nat.reduceSub, Nat.reduceLT, Nat.reduceLeDiff, Nat.reduceBNe, Nat.reduceBEq, Int.reduceToNat, Int.reduceAdd, Int.reduceSub, Int.reduceMul, Int.reduceLT, Int.reduceLE, Int.reduceNeg, Int.reduceBEq, Int.reduceBNe, Int.reduceEq, beq_self_eq_true, reduceCtorEq, decide_true, decide_false, if_pos, if_neg]; first | done | omega))) only [go_sem, ↓reduceIte, Nat.reduceEqDiff, Nat.reduceAdd, Nat.reduceMul, Nat.reduceSub, Nat.reduceLT, Nat.reduceLeDiff, Nat.reduceBNe, Nat.reduceBEq, Int.reduceToNat, Int.reduceAdd, Int.reduceSub, Int.reduceMul, Int.reduceLT, Int.reduceLE, Int.reduceNeg, Int.reduceBEq, Int.reduceBNe, Int.reduceEq, beq_self_eq_true, reduceCtorEq, decide_true, decide_false, if_pos, if_neg, hdc, hdc']) (by simp (disch := (first | omega | (simp only [go_sem, ↓reduceIte, Nat.reduceEqDiff, Nat.reduceAdd, Nat.reduceMul, Nat.reduceSub, Nat.reduceLT, Nat.reduceLeDiff, Nat.reduceBNe, Nat.reduceBEq, Int.reduceToNat, Int.reduceAdd, Int.reduceSub, Int.reduceMul, Int.reduceLT, Int.reduceLE, Int.reduceNeg, Int.reduceBEq, Int.reduceBNe, Int.reduceEq, beq_self_eq_true, reduceCtorEq, decide_true, decide_false, if_pos, if_neg]; first | done | omega))) only [go_sem, ↓reduceIte, Nat.reduceEqDiff, Nat.reduceAdd, Nat.reduceMul, Nat.reduceSub, Nat.reduceLT, Nat.reduceLeDiff, Nat.reduceBNe, Nat.reduceBEq, Int.reduceToNat, Int.reduceAdd, Int.reduceSub, Int.reduceMul, Int.reduceLT, Int.reduceLE, Int.reduceNeg, Int.reduceBEq, Int.reduceBNe, Int.reduceEq, beq_self_eq_true, reduceCtorEq, decide_true, decide_false, if_pos, if_neg, hdc, hdc']) (by decide) (by decide))
        · simp only [decide_eq_true_eq, decide_eq_false_iff_not, Bool.or_eq_true, Bool.and_eq_true, Bool.or_eq_false_iff, Bool.and_eq_false_iff, Bool.not_eq_true', Bool.not_eq_false', bne_iff_ne, beq_iff_eq, ne_eq, bne_eq_false_iff_eq, beq_eq_false_iff_ne, ge_iff_le, gt_iff_lt, Int.not_le, Int.not_lt] at h
          obtain rfl : i = 0 + m := by omega
          have hmm : 0 + m - (0 + F) = m - F := by omega
          rw [hmm]
          refine go ?_
          refine R_nilR ⟨[0, 3], _, ?_, (e - 4, F, C ++ [(dval ((S.drop F).take (m - F)) : Int)]), hx.1, hx.2, rfl⟩; exact (Less.mk' (by simp (disch := (first | omega | (simp only [go_sem, ↓reduceIte, Nat.reduceEqDiff, Nat.reduceAdd, Nat.reduceMul, Nat.reduceSub, Nat.reduceLT, Nat.reduceLeDiff, Nat.reduceBNe, Nat.reduceBEq, Int.reduceToNat, Int.reduceAdd, Int.reduceSub, Int.reduceMul, Int.reduceLT, Int.reduceLE, Int.reduceNeg, Int.reduceBEq, Int.reduceBNe, Int.reduceEq, beq_self_eq_true, reduceCtorEq, decide_true, decide_false, if_pos, if_neg]; first | done | omega))) only [go_sem, ↓reduceIte, Nat.reduceEqDiff, Nat.reduceAdd, Nat.reduceMul, Nat.reduceSub, Nat.reduceLT, Nat.reduceLeDiff, Nat.reduceBNe, Nat.reduceBEq, Int.reduceToNat, Int.reduceAdd, Int.reduceSub, Int.reduceMul, Int.reduceLT, Int.reduceLE, Int.reduceNeg, Int.reduceBEq, Int.reduceBNe, Int.reduceEq, beq_self_eq_true, reduceCtorEq, decide_true, decide_false, if_pos, if_neg, lsE, lsP]) (by simp (disch := (first | omega | (simp only [go_sem, ↓reduceIte, Nat.reduceEqDiff, Nat.reduceAdd, Nat.reduceMul, Nat.reduceSub, Nat.reduceLT, Nat.reduceLeDiff, Nat.reduceBNe, Nat.reduceBEq, Int.reduceToNat, Int.reduceAdd, Int.reduceSub, Int.reduceMul, Int.reduceLT, Int.reduceLE, Int.reduceNeg, Int.reduceBEq, Int.reduceBNe, Int.reduceEq, beq_self_eq_true, reduceCtorEq, decide_true, decide_false, if_pos, if_neg]; first | done | omega))) only [go_sem, ↓reduceIte, Nat.reduceEqDiff, Nat.reduceAdd, Nat.reduceMul, Nat.reduceSub, Nat.reduceLT, Nat.reduceLeDiff, Nat.reduceBNe, Nat.reduceBEq, Int.reduceToNat, Int.reduceAdd, Int.reduceSub, Int.reduceMul, Int.reduceLT, Int.reduceLE, Int.reduceNeg, Int.reduceBEq, Int.reduceBNe, Int.reduceEq, beq_self_eq_true, reduceCtorEq, decide_true, decide_false, if_pos, if_neg, lsE, lsP]) (by decide) (by decide))
      · simp only [decide_eq_true_eq, decide_eq_false_iff_not, Bool.or_eq_true, Bool.and_eq_true, Bool.or_eq_false_iff, Bool.and_eq_false_iff, Bool.not_eq_true', Bool.not_eq_false', bne_iff_ne, beq_iff_eq, ne_eq, bne_eq_false_iff_eq, beq_eq_false_iff_ne, ge_iff_le, gt_iff_lt, Int.not_le, Int.not_lt] at h
        (have hm0 : m = 0 := by omega); rw [hm0, List.drop_zero] at i5; have hmd := rMade (L := C) (b := false) rfl i4 i5; refine go ?_; refine callz (hmd) ?_; refine go ?_; refine R_ret (finA [])
  · rw [hg] at hsd
    simp only [if_true] at hsd
    have hlp := neg1_len hg
    refine Con.of_body [(0, tx l)] Tryz.func59 rfl ca59 43 rfl (by simp) rfl ?_; refine T_of_R ?_
    refine go ?_
    rw [neg1_get hlp, hg]
    refine cnd (b := true) (fun _ => ?_) (fun h => by cases h)
    refine go ?_
    have hsL : l.length = 1 + S.length := by rw [hsd, List.length_drop]; omega
    refine R_loop (fun p : Int × Nat × List Int => ⟨tl [(0, tx l), (2, .pt 0 0), (3, .sc (.int .i64 (1 : Int))), (4, lsE p.2.2), (5, .sc (.int .i64 p.1))], ol ((0, ⟨[.sc (.bool false), .em], 79, 0, false⟩) :: lsP p.2.2), 2, [], 43⟩)
      (fun p => (p.1 = 1 + p.2.1 ∨ (p.2.1 = 0 ∧ p.1 ≤ 1)) ∧ -10 ≤ p.1 ∧ p.2.1 ≤ S.length ∧ Dg BQ p.2.2 ∧ val BQ p.2.2 = dval (S.drop p.2.1) ∧ (0 < p.2.1 → (S.drop p.2.1).length = 4 * p.2.2.length) ∧ (p.2.2.length = 0 → p.2.1 = S.length) ∧ p.2.2.length ≤ 1000) (fun p => p.2.1) ((l.length : Int), S.length, []) [0] (Less.mk' (by simp (disch := (first | omega | (simp only [go_sem, ↓reduceIte, Nat.reduceEqDiff, Nat.reduceAdd, Nat.reduceMul, Nat.reduceSub, Nat.reduceLT, Nat.reduceLeDiff, Nat.reduceBNe, Nat.reduceBEq, Int.reduceToNat, Int.reduceAdd, Int.reduceSub, Int.reduceMul, Int.reduceLT, Int.reduceLE, Int.reduceNeg, Int.reduceBEq, Int.reduceBNe, Int.reduceEq, beq_self_eq_true, reduceCtorEq, decide_true, decide_false, if_pos, if_neg]; first | done | omega))) only [go_sem, ↓reduceIte, Nat.reduceEqDiff, Nat.reduceAdd, Nat.reduceMul, Nat.reduceSub, Nat.reduceLT, Nat.reduceLeDiff, Nat.reduceBNe, Nat.reduceBEq, Int.reduceToNat, Int.reduceAdd, Int.reduceSub, Int.reduceMul, Int.reduceLT, Int.reduceLE, Int.reduceNeg, Int.reduceBEq, Int.reduceBNe, Int.reduceEq, beq_self_eq_true, reduceCtorEq, decide_true, decide_false, if_pos, if_neg, List.length_nil, lsE, lsP]) (by simp (disch := (first | omega | (simp only [go_sem, ↓reduceIte, Nat.reduceEqDiff, Nat.reduceAdd, Nat.reduceMul, Nat.reduceSub, Nat.reduceLT, Nat.reduceLeDiff, Nat.reduceBNe, Nat.reduceBEq, Int.reduceToNat, Int.reduceAdd, Int.reduceSub, Int.reduceMul, Int.reduceLT, Int.reduceLE, Int.reduceNeg, Int.reduceBEq, Int.reduceBNe, Int.reduceEq, beq_self_eq_true, reduceCtorEq, decide_true, decide_false, if_pos, if_neg]; first | done | omega))) only [go_sem, ↓reduceIte, Nat.reduceEqDiff, Nat.reduceAdd, Nat.reduceMul, Nat.reduceSub, Nat.reduceLT, Nat.reduceLeDiff, Nat.reduceBNe, Nat.reduceBEq, Int.reduceToNat, Int.reduceAdd, Int.reduceSub, Int.reduceMul, Int.reduceLT, Int.reduceLE, Int.reduceNeg, Int.reduceBEq, Int.reduceBNe, Int.reduceEq, beq_self_eq_true, reduceCtorEq, decide_true, decide_false, if_pos, if_neg, List.length_nil, lsE, lsP]) (by decide) (by decide)) ⟨.inl (by simp only; omega), by simp only; omega, Nat.le_refl _, dg_nil _, by simp [val, dval], fun _ => by simp, fun _ => rfl, by simp⟩ fun p hi => ?_
    obtain ⟨e, m, C⟩ := p
    obtain ⟨i1, i2, i3, i4, i5, i6, i7, i8⟩ := hi
    simp only at i1 i2 i3 i4 i5 i6 i7 i8
    simp only
    obtain ⟨F, hF⟩ : ∃ F, F = m - 4 := ⟨_, rfl⟩
    have hall : ∀ k, ((S.drop F).take k).all isD = true := fun k => by
      rw [List.all_eq_true] at h3 ⊢
      exact fun x hx => h3 x (List.mem_of_mem_drop (List.mem_of_mem_take hx))
    have hdl : ∀ k, k ≤ 4 → dval ((S.drop F).take k) < 10000 := fun k hk => by
      have a1 := dval_lt _ (hall k)
      have a2 : 10 ^ ((S.drop F).take k).length ≤ 10 ^ 4 := Nat.pow_le_pow_right (by omega) (by rw [List.length_take]; omega)
      omega
    have hmF : m ≤ F + 4 := by omega
    have hsplit : S.drop F = (S.drop F).take (m - F) ++ S.drop m := by
      conv => lhs; rw [← List.take_append_drop (m - F) (S.drop F)]
      rw [List.drop_drop, show F + (m - F) = m by omega]
    have hstep : 0 < m → ((e - 4 = 1 + F ∨ (F = 0 ∧ e - 4 ≤ 1)) ∧ -10 ≤ e - 4 ∧ F ≤ S.length ∧ Dg BQ (C ++ [(dval ((S.drop F).take (m - F)) : Int)]) ∧ val BQ (C ++ [(dval ((S.drop F).take (m - F)) : Int)]) = dval (S.drop F) ∧ (0 < F → (S.drop F).length = 4 * (C ++ [(dval ((S.drop F).take (m - F)) : Int)]).length) ∧ ((C ++ [(dval ((S.drop F).take (m - F)) : Int)]).length = 0 → F = S.length) ∧ (C ++ [(dval ((S.drop F).take (m - F)) : Int)]).length ≤ 1000) ∧ F < m := fun hm => by
      have hlen : (C ++ [(dval ((S.drop F).take (m - F)) : Int)]).length = C.length + 1 := by rw [List.length_append, List.length_singleton]
      have hl6 := i6 hm
      rw [List.length_drop] at hl6
      refine ⟨⟨by omega, by omega, by omega, i4.append (dg_ofQ fun j hj => ?_), ?_, fun h0 => ?_, fun h0 => by omega, by omega⟩, by omega⟩
      · rw [List.length_singleton] at hj
        obtain rfl : j = 0 := by omega
        simp only [List.getD_cons_zero]
        have := hdl (m - F) (by omega)
        omega
      · conv => rhs; rw [hsplit]
        rw [val_append, dval_append, i5, List.length_drop, hl6, Nat.pow_mul]
        simp only [val, Int.mul_zero, Int.add_zero]
        rw [Int.natCast_add, Int.natCast_mul, Int.add_comm, Int.mul_comm]
      · rw [hlen, List.length_drop]
        omega
    by_cases hC : C.length = 0
    · obtain rfl : C = [] := List.length_eq_zero_iff.1 hC
      simp only [lsE, lsP, List.length_nil, ↓reduceIte]
      refine go ?_
      refine cnd (fun h => ?_) (fun h => ?_)
      · simp only [decide_eq_true_eq, decide_eq_false_iff_not, Bool.or_eq_true, Bool.and_eq_true, Bool.or_eq_false_iff, Bool.and_eq_false_iff, Bool.not_eq_true', Bool.not_eq_false', bne_iff_ne, beq_iff_eq, ne_eq, bne_eq_false_iff_eq, beq_eq_false_iff_ne, ge_iff_le, gt_iff_lt, Int.not_le, Int.not_lt] at h
        have hm : 0 < m := by omega
        have he : e = 1 + m := by omega
        have hx := hstep hm
        have hmx : (if (1 : Int) > e - 4 then (1 : Int) else e - 4) = ((1 + F : Nat) : Int) := by split <;> omega
        refine go ?_
        rw [hmx]
        refine R_loop (fun i : Nat => ⟨tl [(0, tx l), (2, .pt 0 0), (3, .sc (.int .i64 (1 : Int))), (4, .em), (5, .sc (.int .i64 e)), (6, .sc (.int .i64 (dval ((S.drop F).take (i - (1 + F))) : Int))), (7, .sc (.int .i64 (i : Int)))], ol ((0, ⟨[.sc (.bool false), .em], 79, 0, false⟩) :: []), 2, [], 43⟩) (fun i => 1 + F ≤ i ∧ i ≤ 1 + m) (fun i => 1 + m - i) (1 + F) [0] (Less.mk' (by simp (disch := (first | omega | (simp only [go_sem, ↓reduceIte, Nat.reduceEqDiff, Nat.reduceAdd, Nat.reduceMul, Nat.reduceSub, Nat.reduceLT, Nat.reduceLeDiff, Nat.reduceBNe, Nat.reduceBEq, Int.reduceToNat, Int.reduceAdd, Int.reduceSub, Int.reduceMul, Int.reduceLT, Int.reduceLE, Int.reduceNeg, Int.reduceBEq, Int.reduceBNe, Int.reduceEq, beq_self_eq_true, reduceCtorEq, decide_true, decide_false, if_pos, if_neg]; first | done | omega))) only [go_sem, ↓reduceIte, Nat.reduceEqDiff, Nat.reduceAdd, Nat.reduceMul, Nat.reduceSub, Nat.reduceLT, Nat.reduceLeDiff, Nat.reduceBNe, Nat.reduceBEq, Int.reduceToNat, Int.reduceAdd, Int.reduceSub, Int.reduceMul, Int.reduceLT, Int.reduceLE, Int.reduceNeg, Int.reduceBEq, Int.reduceBNe, Int.reduceEq, beq_self_eq_true, reduceCtorEq, decide_true, decide_false, if_pos, if_neg, Nat.sub_self, List.take_zero, dval_nil, Int.natCast_zero]) (by simp (disch := (first | omega | (simp only [go_sem, ↓reduceIte, Nat.reduceEqDiff, Nat.reduceAdd, Nat.reduceMul, Nat.reduceSub, Nat.reduceLT, Nat.reduceLeDiff, Nat.reduceBNe, Nat.reduceBEq, Int.reduceToNat, Int.reduceAdd, Int.reduceSub, Int.reduceMul, Int.reduceLT, Int.reduceLE, Int.reduceNeg, Int.reduceBEq, Int.reduceBNe, Int.reduceEq, beq_self_eq_true, reduceCtorEq, decide_true, decide_false, if_pos, if_neg]; first | done | omega))) only [go_sem, ↓reduceIte, Nat.reduceEqDiff, Nat.reduceAdd, Nat.reduceMul, Nat.reduceSub, Nat.reduceLT, Nat.reduceLeDiff, Nat.reduceBNe, Nat.reduceBEq, Int.reduceToNat, Int.reduceAdd, Int.reduceSub, Int.reduceMul, Int.reduceLT, Int.reduceLE, Int.reduceNeg, Int.reduceBEq, Int.reduceBNe, Int.reduceEq, beq_self_eq_true, reduceCtorEq, decide_true, decide_false, if_pos, if_neg, Nat.sub_self, List.take_zero, dval_nil, Int.natCast_zero]) (by decide) (by decide)) ⟨by omega, by omega⟩ fun i hii => ?_
        obtain ⟨ii1, ii2⟩ := hii
        refine go ?_
        refine cnd (fun h => ?_) (fun h => ?_)
        · simp only [decide_eq_true_eq, decide_eq_false_iff_not, Bool.or_eq_true, Bool.and_eq_true, Bool.or_eq_false_iff, Bool.and_eq_false_iff, Bool.not_eq_true', Bool.not_eq_false', bne_iff_ne, beq_iff_eq, ne_eq, bne_eq_false_iff_eq, beq_eq_false_iff_ne, ge_iff_le, gt_iff_lt, Int.not_le, Int.not_lt] at h
          have hgk : l.getD i 0 = S.getD (F + (i - (1 + F))) 0 := by rw [hsd, ugetD_drop, show 1 + (F + (i - (1 + F))) = i by omega]
          have hbb := isD_get h3 (i := F + (i - (1 + F))) (by omega)
          have hdi := hdl (i - (1 + F)) (by omega)
          have hdn := dval_take (S := S) (F := F) (j := i - (1 + F)) (by omega)
          rw [← hgk] at hbb hdn
          have hji : i - (1 + F) + 1 = i + 1 - (1 + F) := by omega
          have hdc : (dval ((S.drop F).take (i - (1 + F))) : Int) * 10 + (((l.getD i 0).toNat : Int) - 48) = (dval ((S.drop F).take (i + 1 - (1 + F))) : Int) := by
            rw [← hji, hdn]
            omega
          have hdc' := hdc
          have hdi' := hdi
          try simp only [Nat.zero_add] at hdc' hdi'
          refine go ?_
          refine R_nilR ⟨[0], _, ?_, i + 1, ⟨by omega, by omega⟩, by omega, rfl⟩; exact (Less.mk' (by simp (disch := (first | omega | (simp only [go_sem, ↓reduceIte, Nat.reduceEqDiff, Nat.reduceAdd, Nat.reduceMul, Nat.reduceSub, Nat.reduceLT, Nat.reduceLeDiff, Nat.reduceBNe, Nat.reduceBEq, Int.reduceToNat, Int.reduceAdd, Int.reduceSub, Int.reduceMul, Int.reduceLT, Int.reduceLE, Int.reduceNeg, Int.reduceBEq, Int.reduceBNe, Int.reduceEq, beq_self_eq_true, reduceCtorEq, decide_true, decide_false, if_pos, if_neg]; first | done | omega))) only [go_sem, ↓reduceIte, Nat.reduceEqDiff, Nat.reduceAdd, Nat.reduceMul, Nat.reduceSub, Nat.reduceLT, Nat.reduceLeDiff, Nat.reduceBNe, Nat.reduceBEq, Int.reduceToNat, Int.reduceAdd, Int.reduceSub, Int.reduceMul, Int.reduceLT, Int.reduceLE, Int.reduceNeg, Int.reduceBEq, Int.reduceBNe, Int.reduceEq, beq_self_eq_true, reduceCtorEq, decide_true, decide_false, if_pos, if_neg, hdc, hdc']) (by simp (disch := (first | omega | (simp only [go_sem, ↓reduceIte, Nat.reduceEqDiff, Nat.reduceAdd, Nat.reduceMul, Nat.reduceSub, Nat.reduceLT, Nat.reduceLeDiff, Nat.reduceBNe, Nat.reduceBEq, Int.reduceToNat, Int.reduceAdd, Int.reduceSub, Int.reduceMul, Int.reduceLT, Int.reduceLE, Int.reduceNeg, Int.reduceBEq, Int.reduceBNe, Int.reduceEq, beq_self_eq_true, reduceCtorEq, decide_true, decide_false, if_pos, if_neg]; first | done | omega))) only [go_sem, ↓reduceIte, Nat.reduceEqDiff, Nat.reduceAdd, Nat.reduceMul, Nat.reduceSub, Nat.reduceLT, Nat.reduceLeDiff, Nat.reduceBNe, Nat.reduceBEq, Int.reduceToNat, Int.reduceAdd, Int.reduceSub, Int.reduceMul, Int.reduceLT, Int.reduceLE, Int.reduceNeg, Int.reduceBEq, Int.reduceBNe, Int.reduceEq, beq_self_eq_true, reduceCtorEq, decide_true, decide_false, if_pos, if_neg, hdc, hdc']) (by decide) (by decide))
        · simp only [decide_eq_true_eq, decide_eq_false_iff_not, Bool.or_eq_true, Bool.and_eq_true, Bool.or_eq_false_iff, Bool.and_eq_false_iff, Bool.not_eq_true', Bool.not_eq_false', bne_iff_ne, beq_iff_eq, ne_eq, bne_eq_false_iff_eq, beq_eq_false_iff_ne, ge_iff_le, gt_iff_lt, Int.not_le, Int.not_lt] at h
          obtain rfl : i = 1 + m := by omega
          have hmm : 1 + m - (1 + F) = m - F := by omega
          rw [hmm]
          refine go ?_
          refine R_nilR ⟨[0, 3], _, ?_, (e - 4, F, ([] : List Int) ++ [(dval ((S.drop F).take (m - F)) : Int)]), hx.1, hx.2, rfl⟩; exact (Less.mk' (by simp (disch := (first | omega | (simp only [go_sem, ↓reduceIte, Nat.reduceEqDiff, Nat.reduceAdd, Nat.reduceMul, Nat.reduceSub, Nat.reduceLT, Nat.reduceLeDiff, Nat.reduceBNe, Nat.reduceBEq, Int.reduceToNat, Int.reduceAdd, Int.reduceSub, Int.reduceMul, Int.reduceLT, Int.reduceLE, Int.reduceNeg, Int.reduceBEq, Int.reduceBNe, Int.reduceEq, beq_self_eq_true, reduceCtorEq, decide_true, decide_false, if_pos, if_neg]; first | done | omega))) only [go_sem, ↓reduceIte, Nat.reduceEqDiff, Nat.reduceAdd, Nat.reduceMul, Nat.reduceSub, Nat.reduceLT, Nat.reduceLeDiff, Nat.reduceBNe, Nat.reduceBEq, Int.reduceToNat, Int.reduceAdd, Int.reduceSub, Int.reduceMul, Int.reduceLT, Int.reduceLE, Int.reduceNeg, Int.reduceBEq, Int.reduceBNe, Int.reduceEq, beq_self_eq_true, reduceCtorEq, decide_true, decide_false, if_pos, if_neg, List.length_nil, List.nil_append, ints_one, lsE, lsP, List.length_singleton]) (by simp (disch := (first | omega | (simp only [go_sem, ↓reduceIte, Nat.reduceEqDiff, Nat.reduceAdd, Nat.reduceMul, Nat.reduceSub, Nat.reduceLT, Nat.reduceLeDiff, Nat.reduceBNe, Nat.reduceBEq, Int.reduceToNat, Int.reduceAdd, Int.reduceSub, Int.reduceMul, Int.reduceLT, Int.reduceLE, Int.reduceNeg, Int.reduceBEq, Int.reduceBNe, Int.reduceEq, beq_self_eq_true, reduceCtorEq, decide_true, decide_false, if_pos, if_neg]; first | done | omega))) only [go_sem, ↓reduceIte, Nat.reduceEqDiff, Nat.reduceAdd, Nat.reduceMul, Nat.reduceSub, Nat.reduceLT, Nat.reduceLeDiff, Nat.reduceBNe, Nat.reduceBEq, Int.reduceToNat, Int.reduceAdd, Int.reduceSub, Int.reduceMul, Int.reduceLT, Int.reduceLE, Int.reduceNeg, Int.reduceBEq, Int.reduceBNe, Int.reduceEq, beq_self_eq_true, reduceCtorEq, decide_true, decide_false, if_pos, if_neg, List.length_nil, List.nil_append, ints_one, lsE, lsP, List.length_singleton]) (by decide) (by decide))
      · simp only [decide_eq_true_eq, decide_eq_false_iff_not, Bool.or_eq_true, Bool.and_eq_true, Bool.or_eq_false_iff, Bool.and_eq_false_iff, Bool.not_eq_true', Bool.not_eq_false', bne_iff_ne, beq_iff_eq, ne_eq, bne_eq_false_iff_eq, beq_eq_false_iff_ne, ge_iff_le, gt_iff_lt, Int.not_le, Int.not_lt] at h
        (have := i7 rfl; omega)
    · simp only [lsE, lsP, if_neg hC]
      refine go ?_
      refine cnd (fun h => ?_) (fun h => ?_)
      · simp only [decide_eq_true_eq, decide_eq_false_iff_not, Bool.or_eq_true, Bool.and_eq_true, Bool.or_eq_false_iff, Bool.and_eq_false_iff, Bool.not_eq_true', Bool.not_eq_false', bne_iff_ne, beq_iff_eq, ne_eq, bne_eq_false_iff_eq, beq_eq_false_iff_ne, ge_iff_le, gt_iff_lt, Int.not_le, Int.not_lt] at h
        have hm : 0 < m := by omega
        have he : e = 1 + m := by omega
        have hx := hstep hm
        have hmx : (if (1 : Int) > e - 4 then (1 : Int) else e - 4) = ((1 + F : Nat) : Int) := by split <;> omega
        refine go ?_
        rw [hmx]
        refine R_loop (fun i : Nat => ⟨tl [(0, tx l), (2, .pt 0 0), (3, .sc (.int .i64 (1 : Int))), (4, .rf 1 0 C.length 1), (5, .sc (.int .i64 e)), (6, .sc (.int .i64 (dval ((S.drop F).take (i - (1 + F))) : Int))), (7, .sc (.int .i64 (i : Int)))], ol ((0, ⟨[.sc (.bool false), .em], 79, 0, false⟩) :: [(1, ⟨ints .i64 C, 3, 1, false⟩)]), 2, [], 43⟩) (fun i => 1 + F ≤ i ∧ i ≤ 1 + m) (fun i => 1 + m - i) (1 + F) [0, 1] (Less.mk' (by simp (disch := (first | omega | (simp only [go_sem, ↓reduceIte, Nat.reduceEqDiff, Nat.reduceAdd, Nat.reduceMul, Nat.reduceSub, Nat.reduceLT, Nat.reduceLeDiff, Nat.reduceBNe, Nat.reduceBEq, Int.reduceToNat, Int.reduceAdd, Int.reduceSub, Int.reduceMul, Int.reduceLT, Int.reduceLE, Int.reduceNeg, Int.reduceBEq, Int.reduceBNe, Int.reduceEq, beq_self_eq_true, reduceCtorEq, decide_true, decide_false, if_pos, if_neg]; first | done | omega))) only [go_sem, ↓reduceIte, Nat.reduceEqDiff, Nat.reduceAdd, Nat.reduceMul, Nat.reduceSub, Nat.reduceLT, Nat.reduceLeDiff, Nat.reduceBNe, Nat.reduceBEq, Int.reduceToNat, Int.reduceAdd, Int.reduceSub, Int.reduceMul, Int.reduceLT, Int.reduceLE, Int.reduceNeg, Int.reduceBEq, Int.reduceBNe, Int.reduceEq, beq_self_eq_true, reduceCtorEq, decide_true, decide_false, if_pos, if_neg, Nat.sub_self, List.take_zero, dval_nil, Int.natCast_zero]) (by simp (disch := (first | omega | (simp only [go_sem, ↓reduceIte, Nat.reduceEqDiff, Nat.reduceAdd, Nat.reduceMul, Nat.reduceSub, Nat.reduceLT, Nat.reduceLeDiff, Nat.reduceBNe, Nat.reduceBEq, Int.reduceToNat, Int.reduceAdd, Int.reduceSub, Int.reduceMul, Int.reduceLT, Int.reduceLE, Int.reduceNeg, Int.reduceBEq, Int.reduceBNe, Int.reduceEq, beq_self_eq_true, reduceCtorEq, decide_true, decide_false, if_pos, if_neg]; first | done | omega))) only [go_sem, ↓reduceIte, Nat.reduceEqDiff, Nat.reduceAdd, Nat.reduceMul, Nat.reduceSub, Nat.reduceLT, Nat.reduceLeDiff, Nat.reduceBNe, Nat.reduceBEq, Int.reduceToNat, Int.reduceAdd, Int.reduceSub, Int.reduceMul, Int.reduceLT, Int.reduceLE, Int.reduceNeg, Int.reduceBEq, Int.reduceBNe, Int.reduceEq, beq_self_eq_true, reduceCtorEq, decide_true, decide_false, if_pos, if_neg, Nat.sub_self, List.take_zero, dval_nil, Int.natCast_zero]) (by decide) (by decide)) ⟨by omega, by omega⟩ fun i hii => ?_
        obtain ⟨ii1, ii2⟩ := hii
        refine go ?_
        refine cnd (fun h => ?_) (fun h => ?_)
        · simp only [decide_eq_true_eq, decide_eq_false_iff_not, Bool.or_eq_true, Bool.and_eq_true, Bool.or_eq_false_iff, Bool.and_eq_false_iff, Bool.not_eq_true', Bool.not_eq_false', bne_iff_ne, beq_iff_eq, ne_eq, bne_eq_false_iff_eq, beq_eq_false_iff_ne, ge_iff_le, gt_iff_lt, Int.not_le, Int.not_lt] at h
          have hgk : l.getD i 0 = S.getD (F + (i - (1 + F))) 0 := by rw [hsd, ugetD_drop, show 1 + (F + (i - (1 + F))) = i by omega]
          have hbb := isD_get h3 (i := F + (i - (1 + F))) (by omega)
          have hdi := hdl (i - (1 + F)) (by omega)
          have hdn := dval_take (S := S) (F := F) (j := i - (1 + F)) (by omega)
          rw [← hgk] at hbb hdn
          have hji : i - (1 + F) + 1 = i + 1 - (1 + F) := by omega
          have hdc : (dval ((S.drop F).take (i - (1 + F))) : Int) * 10 + (((l.getD i 0).toNat : Int) - 48) = (dval ((S.drop F).take (i + 1 - (1 + F))) : Int) := by
            rw [← hji, hdn]
            omega
          have hdc' := hdc
          have hdi' := hdi
          try simp only [Nat.zero_add] at hdc' hdi'
          refine go ?_
          refine R_nilR ⟨[0, 1], _, ?_, i + 1, ⟨by omega, by omega⟩, by omega, rfl⟩; exact (Less.mk' (by simp (disch := (first | omega | (simp only [go_sem, ↓reduceIte, Nat.reduceEqDiff, Nat.reduceAdd, Nat.reduceMul, Nat.reduceSub, Nat.reduceLT, Nat.reduceLeDiff, Nat.reduceBNe, Nat.reduceBEq, Int.reduceToNat, Int.reduceAdd, Int.reduceSub, Int.reduceMul, Int.reduceLT, Int.reduceLE, Int.reduceNeg, Int.reduceBEq, Int.reduceBNe, Int.reduceEq, beq_self_eq_true, reduceCtorEq, decide_true, decide_false, if_pos, if_neg]; first | done | omega))) only [go_sem, ↓reduceIte, Nat.reduceEqDiff, Nat.reduceAdd, Nat.reduceMul, Nat.reduceSub, Nat.reduceLT, Nat.reduceLeDiff, Nat.reduceBNe, Nat.reduceBEq, Int.reduceToNat, Int.reduceAdd, Int.reduceSub, Int.reduceMul, Int.reduceLT, Int.reduceLE, Int.reduceNeg, Int.reduceBEq, Int.reduceBNe, Int.reduceEq, beq_self_eq_true, reduceCtorEq, decide_true, decide_false, if_pos, if_neg, hdc, hdc']) (by simp (disch := (first | omega | (simp only [go_sem, ↓reduceIte, Nat.reduceEqDiff, Nat.reduceAdd, Nat.reduceMul, Nat.reduceSub, Nat.reduceLT, Nat.reduceLeDiff, Nat.reduceBNe, Nat.reduceBEq, Int.reduceToNat, Int.reduceAdd, Int.reduceSub, Int.reduceMul, Int.reduceLT, Int.reduceLE, Int.reduceNeg, Int.reduceBEq, Int.reduceBNe, Int.reduceEq, beq_self_eq_true, reduceCtorEq, decide_true, decide_false, if_pos, if_neg]; first | done | omega))) only [go_sem, ↓reduceIte, Nat.reduceEqDiff, Nat.reduceAdd, Nat.reduceMul, Nat.reduceSub, Nat.reduceLT, Nat.reduceLeDiff, Nat.reduceBNe, Nat.reduceBEq, Int.reduceToNat, Int.reduceAdd, Int.reduceSub, Int.reduceMul, Int.reduceLT, Int.reduceLE, Int.reduceNeg, Int.reduceBEq, Int.reduceBNe, Int.reduceEq, beq_self_eq_true, reduceCtorEq, decide_true, decide_false, if_pos, if_neg, hdc, hdc']) (by decide) (by decide))
        · simp only [decide_eq_true_eq, decide_eq_false_iff_not, Bool.or_eq_true, Bool.and_eq_true, Bool.or_eq_false_iff, Bool.and_eq_false_iff, Bool.not_eq_true', Bool.not_eq_false', bne_iff_ne, beq_iff_eq, ne_eq, bne_eq_false_iff_eq, beq_eq_false_iff_ne, ge_iff_le, gt_iff_lt, Int.not_le, Int.not_lt] at h
          obtain rfl : i = 1 + m := by omega
          have hmm : 1 + m - (1 + F) = m - F := by omega
          rw [hmm]
          refine go ?_
          refine R_nilR ⟨[0, 3], _, ?_, (e - 4, F, C ++ [(dval ((S.drop F).take (m - F)) : Int)]), hx.1, hx.2, rfl⟩; exact (Less.mk' (by simp (disch := (first | omega | (simp only [go_sem, ↓reduceIte, Nat.reduceEqDiff, Nat.reduceAdd, Nat.reduceMul, Nat.reduceSub, Nat.reduceLT, Nat.reduceLeDiff, Nat.reduceBNe, Nat.reduceBEq, Int.reduceToNat, Int.reduceAdd, Int.reduceSub, Int.reduceMul, Int.reduceLT, Int.reduceLE, Int.reduceNeg, Int.reduceBEq, Int.reduceBNe, Int.reduceEq, beq_self_eq_true, reduceCtorEq, decide_true, decide_false, if_pos, if_neg]; first | done | omega))) only [go_sem, ↓reduceIte, Nat.reduceEqDiff, Nat.reduceAdd, Nat.reduceMul, Nat.reduceSub, Nat.reduceLT, Nat.reduceLeDiff, Nat.reduceBNe, Nat.reduceBEq, Int.reduceToNat, Int.reduceAdd, Int.reduceSub, Int.reduceMul, Int.reduceLT, Int.reduceLE, Int.reduceNeg, Int.reduceBEq, Int.reduceBNe, Int.reduceEq, beq_self_eq_true, reduceCtorEq, decide_true, decide_false, if_pos, if_neg, lsE, lsP]) (by simp (disch := (first | omega | (simp only [go_sem, ↓reduceIte, Nat.reduceEqDiff, Nat.reduceAdd, Nat.reduceMul, Nat.reduceSub, Nat.reduceLT, Nat.reduceLeDiff, Nat.reduceBNe, Nat.reduceBEq, Int.reduceToNat, Int.reduceAdd, Int.reduceSub, Int.reduceMul, Int.reduceLT, Int.reduceLE, Int.reduceNeg, Int.reduceBEq, Int.reduceBNe, Int.reduceEq, beq_self_eq_true, reduceCtorEq, decide_true, decide_false, if_pos, if_neg]; first | done | omega))) only [go_sem, ↓reduceIte, Nat.reduceEqDiff, Nat.reduceAdd, Nat.reduceMul, Nat.reduceSub, Nat.reduceLT, Nat.reduceLeDiff, Nat.reduceBNe, Nat.reduceBEq, Int.reduceToNat, Int.reduceAdd, Int.reduceSub, Int.reduceMul, Int.reduceLT, Int.reduceLE, Int.reduceNeg, Int.reduceBEq, Int.reduceBNe, Int.reduceEq, beq_self_eq_true, reduceCtorEq, decide_true, decide_false, if_pos, if_neg, lsE, lsP]) (by decide) (by decide))
      · simp only [decide_eq_true_eq, decide_eq_false_iff_not, Bool.or_eq_true, Bool.and_eq_true, Bool.or_eq_false_iff, Bool.and_eq_false_iff, Bool.not_eq_true', Bool.not_eq_false', bne_iff_ne, beq_iff_eq, ne_eq, bne_eq_false_iff_eq, beq_eq_false_iff_ne, ge_iff_le, gt_iff_lt, Int.not_le, Int.not_lt] at h
        (have hm0 : m = 0 := by omega); rw [hm0, List.drop_zero] at i5; have hmd := rMade (L := C) (b := true) rfl i4 i5; refine go ?_; refine callz (hmd) ?_; refine go ?_; refine R_ret (finA [])
end Go.Proofs.YtglnkfpmogaifaaGreatDoor.V

/-
  The reference's four, Text, Out.
-/
set_option linter.unusedSimpArgs false
set_option linter.unusedVariables false
set_option maxHeartbeats 8000000
namespace Go.Proofs.YtglnkfpmogaifaaGreatDoor.V
open Go Go.Proofs Go.RowKit Go.Lib

/-- Four digits. -/
def f4 (n : Nat) : List UInt8 := [UInt8.ofNat (48 + n / 1000), UInt8.ofNat (48 + n / 100 % 10), UInt8.ofNat (48 + n / 10 % 10), UInt8.ofNat (48 + n % 10)]
theorem f4_spec {n : Nat} (h : n < 10000) : (f4 n).length = 4 ∧ (f4 n).all isD = true ∧ dval (f4 n) = n := by
  have a := isD_ofNat (d := n / 1000) (by omega)
  have b := isD_ofNat (d := n / 100 % 10) (by omega)
  have c := isD_ofNat (d := n / 10 % 10) (by omega)
  have d := isD_ofNat (d := n % 10) (by omega)
  refine ⟨rfl, ?_, ?_⟩
  · simp only [f4, List.all_cons, List.all_nil, a.1, b.1, c.1, d.1, Bool.and_true]
  · simp only [f4, dval, List.foldl_cons, List.foldl_nil, a.2, b.2, c.2, d.2]
    omega
theorem rFour {n : Nat} (h : n < 10000) : Con Tryz.prog 109 [.sc (.int .i64 n)] (tx (f4 n)) [] := by
  have hn : (0 : Int) ≤ n := by omega
  have t1 : (n : Int).tdiv 1000 = ((n / 1000 : Nat) : Int) := by rw [tdiv_nn hn]; omega
  have t2 : ((n : Int).tdiv 100).tmod 10 = ((n / 100 % 10 : Nat) : Int) := by rw [tdiv_nn hn, tmod_nn (by omega)]; omega
  have t3 : ((n : Int).tdiv 10).tmod 10 = ((n / 10 % 10 : Nat) : Int) := by rw [tdiv_nn hn, tmod_nn (by omega)]; omega
  have t4 : (n : Int).tmod 10 = ((n % 10 : Nat) : Int) := by rw [tmod_nn hn]; omega
  have u2 : 0 ≤ (n : Int).tdiv 100 ∧ (n : Int).tdiv 100 ≤ 100 := by rw [tdiv_nn hn]; omega
  have u3 : 0 ≤ (n : Int).tdiv 10 ∧ (n : Int).tdiv 10 ≤ 1000 := by rw [tdiv_nn hn]; omega
  have b1 : n / 1000 < 10 := by omega
  have b2 : n / 100 % 10 < 10 := by omega
  have b3 : n / 10 % 10 < 10 := by omega
  have b4 : n % 10 < 10 := by omega
  have e : ∀ k : Nat, (48 + (k : Int)).toNat = 48 + k := fun k => by omega
  have hf : tx (f4 n) = D.sc (Value.string ⟨#[UInt8.ofNat (48 + n / 1000), UInt8.ofNat (48 + n / 100 % 10), UInt8.ofNat (48 + n / 10 % 10), UInt8.ofNat (48 + n % 10)]⟩) := rfl
  rw [hf]
  generalize n / 1000 = d1 at t1 b1 ⊢
  generalize n / 100 % 10 = d2 at t2 b2 ⊢
  generalize n / 10 % 10 = d3 at t3 b3 ⊢
  generalize n % 10 = d4 at t4 b4 ⊢
  refine Con.of_body [(0, .sc (.int .i64 n))] Tryz.func109 rfl ca109 23 rfl (by simp) rfl ?_; refine T_of_R ?_
  refine go ?_
  simp only [t1, t2, t3, t4]
  refine go ?_
  refine R_ret (fin_of (ids := []) (by first | (simp (disch := (first | omega | (simp only [go_sem, ↓reduceIte, Nat.reduceEqDiff, Nat.reduceAdd, Nat.reduceMul, Nat.reduceSub, Nat.reduceLT, Nat.reduceLeDiff, Nat.reduceBNe, Nat.reduceBEq, Int.reduceToNat, Int.reduceAdd, Int.reduceSub, Int.reduceMul, Int.reduceLT, Int.reduceLE, Int.reduceNeg, Int.reduceBEq, Int.reduceBNe, Int.reduceEq, beq_self_eq_true, reduceCtorEq, decide_true, decide_false, if_pos, if_neg]; first | done | omega))) only [go_sem, ↓reduceIte, Nat.reduceEqDiff, Nat.reduceAdd, Nat.reduceMul, Nat.reduceSub, Nat.reduceLT, Nat.reduceLeDiff, Nat.reduceBNe, Nat.reduceBEq, Int.reduceToNat, Int.reduceAdd, Int.reduceSub, Int.reduceMul, Int.reduceLT, Int.reduceLE, Int.reduceNeg, Int.reduceBEq, Int.reduceBNe, Int.reduceEq, beq_self_eq_true, reduceCtorEq, decide_true, decide_false, if_pos, if_neg] <;> rfl) | fail) (by simp (disch := (first | omega | (simp only [go_sem, ↓reduceIte, Nat.reduceEqDiff, Nat.reduceAdd, Nat.reduceMul, Nat.reduceSub, Nat.reduceLT, Nat.reduceLeDiff, Nat.reduceBNe, Nat.reduceBEq, Int.reduceToNat, Int.reduceAdd, Int.reduceSub, Int.reduceMul, Int.reduceLT, Int.reduceLE, Int.reduceNeg, Int.reduceBEq, Int.reduceBNe, Int.reduceEq, beq_self_eq_true, reduceCtorEq, decide_true, decide_false, if_pos, if_neg]; first | done | omega))) only [go_sem, ↓reduceIte, Nat.reduceEqDiff, Nat.reduceAdd, Nat.reduceMul, Nat.reduceSub, Nat.reduceLT, Nat.reduceLeDiff, Nat.reduceBNe, Nat.reduceBEq, Int.reduceToNat, Int.reduceAdd, Int.reduceSub, Int.reduceMul, Int.reduceLT, Int.reduceLE, Int.reduceNeg, Int.reduceBEq, Int.reduceBNe, Int.reduceEq, beq_self_eq_true, reduceCtorEq, decide_true, decide_false, if_pos, if_neg, e]) (by decide) (by simp (disch := (first | omega | (simp only [go_sem, ↓reduceIte, Nat.reduceEqDiff, Nat.reduceAdd, Nat.reduceMul, Nat.reduceSub, Nat.reduceLT, Nat.reduceLeDiff, Nat.reduceBNe, Nat.reduceBEq, Int.reduceToNat, Int.reduceAdd, Int.reduceSub, Int.reduceMul, Int.reduceLT, Int.reduceLE, Int.reduceNeg, Int.reduceBEq, Int.reduceBNe, Int.reduceEq, beq_self_eq_true, reduceCtorEq, decide_true, decide_false, if_pos, if_neg]; first | done | omega))) only [go_sem, ↓reduceIte, Nat.reduceEqDiff, Nat.reduceAdd, Nat.reduceMul, Nat.reduceSub, Nat.reduceLT, Nat.reduceLeDiff, Nat.reduceBNe, Nat.reduceBEq, Int.reduceToNat, Int.reduceAdd, Int.reduceSub, Int.reduceMul, Int.reduceLT, Int.reduceLE, Int.reduceNeg, Int.reduceBEq, Int.reduceBNe, Int.reduceEq, beq_self_eq_true, reduceCtorEq, decide_true, decide_false, if_pos, if_neg, e]))
/-- The digits of a number from place j on, each over four places. -/
def quads (n : Nat) : Nat → List UInt8
  | 0 => []
  | k + 1 => quads n k ++ f4 ((dig BQ n).getD ((dig BQ n).length - (k + 1)) 0).toNat
theorem quads_spec (n : Nat) : ∀ k, k ≤ (dig BQ n).length → (quads n k).length = 4 * k ∧ (quads n k).all isD = true ∧ ((dval (quads n k) : Nat) : Int) = val BQ ((dig BQ n).drop ((dig BQ n).length - k))
  | 0, _ => ⟨rfl, rfl, by rw [Nat.sub_zero, List.drop_length]; rfl⟩
  | k + 1, h => by
    obtain ⟨h1, h2, h3⟩ := quads_spec n k (by omega)
    have hb := dgQ n ((dig BQ n).length - (k + 1))
    obtain ⟨f1, f2, f3⟩ := f4_spec (n := ((dig BQ n).getD ((dig BQ n).length - (k + 1)) 0).toNat) (by omega)
    have hl : (dig BQ n).length - (k + 1) < (dig BQ n).length := by omega
    refine ⟨?_, ?_, ?_⟩
    · rw [quads, List.length_append, h1, f1]; omega
    · rw [quads, List.all_append, h2, f2]; rfl
    · rw [quads, dval_append, f1, f3, List.drop_eq_getElem_cons hl, show (dig BQ n).length - (k + 1) + 1 = (dig BQ n).length - k by omega]
      simp only [val]
      rw [← h3]
      have : (dig BQ n)[(dig BQ n).length - (k + 1)] = (dig BQ n).getD ((dig BQ n).length - (k + 1)) 0 := by simp [List.getD_eq_getElem?_getD, hl]
      rw [this]
      generalize (dig BQ n).getD ((dig BQ n).length - (k + 1)) 0 = x at hb ⊢
      rw [show ((BQ : Nat) : Int) = 10000 from rfl, Int.natCast_add, Int.natCast_mul]
      generalize ((dval (quads n k) : Nat) : Int) = y
      have : (((10 ^ 4 : Nat)) : Int) = 10000 := rfl
      rw [this]
      omega
theorem quads_all (n : Nat) : (quads n (dig BQ n).length).all isD = true ∧ dval (quads n (dig BQ n).length) = n ∧ (quads n (dig BQ n).length).length = 4 * (dig BQ n).length := by
  obtain ⟨h1, h2, h3⟩ := quads_spec n (dig BQ n).length (Nat.le_refl _)
  rw [Nat.sub_self, List.drop_zero, val_dig BQ2] at h3
  exact ⟨h2, by omega, h1⟩
theorem dval_drop0 {S : List UInt8} {k : Nat} (h : ∀ i, i < k → S.getD i 0 = 48) (hk : k ≤ S.length) : dval (S.drop k) = dval S := by
  have e : S.take k = List.replicate k 48 := by
    refine List.ext_getElem (by simp; omega) fun i h1 h2 => ?_
    rw [List.length_take] at h1
    have := h i (by omega)
    have hi : i < S.length := by omega
    simp [List.getD_eq_getElem?_getD, hi] at this
    simp [this]
  conv => rhs; rw [← List.take_append_drop k S, e]
  rw [dval_zeros]
theorem textEnd {S : List UInt8} {k n : Nat} (hd : S.all isD = true) (hv : dval S = n) (h : ∀ i, i < k → S.getD i 0 = 48) (hk : k ≤ S.length) :
    (k = S.length → n = 0) ∧ (k < S.length → S.getD k 0 ≠ 48 → S.drop k = decDigits n ∧ n ≠ 0) := by
  have h0 := dval_drop0 h hk
  refine ⟨fun e => by rw [e, List.drop_length] at h0; rw [← hv, ← h0]; rfl, fun hlt hne => ?_⟩
  have hdd : (S.drop k).all isD = true := by
    rw [List.all_eq_true] at hd ⊢
    exact fun x hx => hd x (List.mem_of_mem_drop hx)
  have hn : S.drop k ≠ [] := fun e => by have := congrArg List.length e; simp at this; omega
  have hh : (S.drop k).headD 0 ≠ 48 := by
    have e1 : (S.drop k).headD 0 = S.getD k 0 := by
      have := ugetD_drop S k 0
      rw [Nat.add_zero] at this
      rw [← this]
      cases S.drop k <;> rfl
    rw [e1]
    exact hne
  refine ⟨?_, ?_⟩
  · have := decDigits_dval _ (S.drop k) rfl hdd hn (.inl hh)
    rw [h0, hv] at this
    exact this.symm
  · have := dval_pos hdd hh hn
    omega
end Go.Proofs.YtglnkfpmogaifaaGreatDoor.V

/-
  The reference's Text, Out, Of.
-/
set_option linter.unusedSimpArgs false
set_option linter.unusedVariables false
set_option maxHeartbeats 8000000
namespace Go.Proofs.YtglnkfpmogaifaaGreatDoor.V
open Go Go.Proofs Go.RowKit Go.Lib

theorem sbin_add {a b : List UInt8} (h : a.length + b.length ≤ 9223372036854775807) : sbin .add (ba a) (ba b) = some (.sc (.string (ba (a ++ b)))) := by
  unfold sbin
  simp only []
  rw [if_neg, ba_append]
  rw [ba_size, ba_size]
  simp only [IntKind.max, IntKind.bits, IntKind.signed]
  omega
attribute [go_sem ↓ high] sbin_add
theorem rText {z : Int} (h : lq z.natAbs ≤ 1000000) : Con Tryz.prog 89 [pl z] (tx (itoa z)) [] := by
  obtain ⟨L, hL⟩ : ∃ L, L = dig BQ z.natAbs := ⟨_, rfl⟩
  obtain ⟨q1, q2, q3⟩ := quads_all z.natAbs
  have hq := fun k => quads_spec z.natAbs k
  have hqs : ∀ k, quads z.natAbs (k + 1) = quads z.natAbs k ++ f4 ((dig BQ z.natAbs).getD ((dig BQ z.natAbs).length - (k + 1)) 0).toNat := fun k => rfl
  have hdg := dgQ z.natAbs
  unfold lq at h
  show Con _ _ [.ag [.sc (.bool (decide (z < 0))), isl (dig BQ z.natAbs)]] _ _
  rw [← hL] at h q1 q2 q3 hdg ⊢
  simp only [← hL] at hq hqs
  have hq0 : quads z.natAbs 0 = [] := rfl
  generalize quads z.natAbs = qs at q1 q2 q3 hq hqs hq0
  refine Con.of_body [(0, .ag [.sc (.bool (decide (z < 0))), isl L])] Tryz.func89 rfl ca89 44 rfl (by simp) rfl ?_; refine T_of_R ?_
  refine go ?_
  refine R_loop (fun k : Nat => ⟨tl [(1, .pt 0 0), (2, tx []), (3, tx (qs k)), (4, .sc (.int .i64 ((L.length : Int) - k - 1)))], ol [(0, ⟨[.sc (.bool (decide (z < 0))), isl L], 79, 0, false⟩)], 1, [], 44⟩) (fun k => k ≤ L.length) (fun k => L.length - k) 0 [0] (Less.mk' (by simp (disch := (first | omega | (simp only [go_sem, ↓reduceIte, Nat.reduceEqDiff, Nat.reduceAdd, Nat.reduceMul, Nat.reduceSub, Nat.reduceLT, Nat.reduceLeDiff, Nat.reduceBNe, Nat.reduceBEq, Int.reduceToNat, Int.reduceAdd, Int.reduceSub, Int.reduceMul, Int.reduceLT, Int.reduceLE, Int.reduceNeg, Int.reduceBEq, Int.reduceBNe, Int.reduceEq, beq_self_eq_true, reduceCtorEq, decide_true, decide_false, if_pos, if_neg]; first | done | omega))) only [go_sem, ↓reduceIte, Nat.reduceEqDiff, Nat.reduceAdd, Nat.reduceMul, Nat.reduceSub, Nat.reduceLT, Nat.reduceLeDiff, Nat.reduceBNe, Nat.reduceBEq, Int.reduceToNat, Int.reduceAdd, Int.reduceSub, Int.reduceMul, Int.reduceLT, Int.reduceLE, Int.reduceNeg, Int.reduceBEq, Int.reduceBNe, Int.reduceEq, beq_self_eq_true, reduceCtorEq, decide_true, decide_false, if_pos, if_neg, hq0, Int.natCast_zero, Int.sub_zero]) (by simp (disch := (first | omega | (simp only [go_sem, ↓reduceIte, Nat.reduceEqDiff, Nat.reduceAdd, Nat.reduceMul, Nat.reduceSub, Nat.reduceLT, Nat.reduceLeDiff, Nat.reduceBNe, Nat.reduceBEq, Int.reduceToNat, Int.reduceAdd, Int.reduceSub, Int.reduceMul, Int.reduceLT, Int.reduceLE, Int.reduceNeg, Int.reduceBEq, Int.reduceBNe, Int.reduceEq, beq_self_eq_true, reduceCtorEq, decide_true, decide_false, if_pos, if_neg]; first | done | omega))) only [go_sem, ↓reduceIte, Nat.reduceEqDiff, Nat.reduceAdd, Nat.reduceMul, Nat.reduceSub, Nat.reduceLT, Nat.reduceLeDiff, Nat.reduceBNe, Nat.reduceBEq, Int.reduceToNat, Int.reduceAdd, Int.reduceSub, Int.reduceMul, Int.reduceLT, Int.reduceLE, Int.reduceNeg, Int.reduceBEq, Int.reduceBNe, Int.reduceEq, beq_self_eq_true, reduceCtorEq, decide_true, decide_false, if_pos, if_neg, hq0, Int.natCast_zero, Int.sub_zero]) (by decide) (by decide)) (Nat.zero_le _) fun k hi => ?_
  obtain ⟨l1, l2, l3⟩ := hq k hi
  refine go ?_
  refine cnd (fun h => ?_) (fun h => ?_)
  · simp only [decide_eq_true_eq, decide_eq_false_iff_not, Bool.or_eq_true, Bool.and_eq_true, Bool.or_eq_false_iff, Bool.and_eq_false_iff, Bool.not_eq_true', Bool.not_eq_false', bne_iff_ne, beq_iff_eq, ne_eq, bne_eq_false_iff_eq, beq_eq_false_iff_ne, ge_iff_le, gt_iff_lt, Int.not_le, Int.not_lt] at h
    have hkL : k < L.length := by omega
    have hix : ((L.length : Int) - k - 1).toNat = L.length - (k + 1) := by omega
    have hb := hdg (L.length - (k + 1))
    obtain ⟨x, hx⟩ : ∃ x : Nat, L.getD (L.length - (k + 1)) 0 = x := ⟨(L.getD (L.length - (k + 1)) 0).toNat, by omega⟩
    have hst := hqs k
    have hfl := (f4_spec (n := x) (by omega)).1
    rw [hx, Int.toNat_natCast] at hst
    have hnx : (L.length : Int) - k - 1 - 1 = (L.length : Int) - (k + 1 : Nat) - 1 := by omega
    refine go ?_
    rw [hix, hx]
    refine call (rFour (n := x) (by omega)) ?_
    refine go ?_
    refine R_nilR ⟨[0], _, ?_, k + 1, by omega, by omega, rfl⟩; exact (Less.mk' (by simp (disch := (first | omega | (simp only [go_sem, ↓reduceIte, Nat.reduceEqDiff, Nat.reduceAdd, Nat.reduceMul, Nat.reduceSub, Nat.reduceLT, Nat.reduceLeDiff, Nat.reduceBNe, Nat.reduceBEq, Int.reduceToNat, Int.reduceAdd, Int.reduceSub, Int.reduceMul, Int.reduceLT, Int.reduceLE, Int.reduceNeg, Int.reduceBEq, Int.reduceBNe, Int.reduceEq, beq_self_eq_true, reduceCtorEq, decide_true, decide_false, if_pos, if_neg]; first | done | omega))) only [go_sem, ↓reduceIte, Nat.reduceEqDiff, Nat.reduceAdd, Nat.reduceMul, Nat.reduceSub, Nat.reduceLT, Nat.reduceLeDiff, Nat.reduceBNe, Nat.reduceBEq, Int.reduceToNat, Int.reduceAdd, Int.reduceSub, Int.reduceMul, Int.reduceLT, Int.reduceLE, Int.reduceNeg, Int.reduceBEq, Int.reduceBNe, Int.reduceEq, beq_self_eq_true, reduceCtorEq, decide_true, decide_false, if_pos, if_neg, hst, hnx]) (by simp (disch := (first | omega | (simp only [go_sem, ↓reduceIte, Nat.reduceEqDiff, Nat.reduceAdd, Nat.reduceMul, Nat.reduceSub, Nat.reduceLT, Nat.reduceLeDiff, Nat.reduceBNe, Nat.reduceBEq, Int.reduceToNat, Int.reduceAdd, Int.reduceSub, Int.reduceMul, Int.reduceLT, Int.reduceLE, Int.reduceNeg, Int.reduceBEq, Int.reduceBNe, Int.reduceEq, beq_self_eq_true, reduceCtorEq, decide_true, decide_false, if_pos, if_neg]; first | done | omega))) only [go_sem, ↓reduceIte, Nat.reduceEqDiff, Nat.reduceAdd, Nat.reduceMul, Nat.reduceSub, Nat.reduceLT, Nat.reduceLeDiff, Nat.reduceBNe, Nat.reduceBEq, Int.reduceToNat, Int.reduceAdd, Int.reduceSub, Int.reduceMul, Int.reduceLT, Int.reduceLE, Int.reduceNeg, Int.reduceBEq, Int.reduceBNe, Int.reduceEq, beq_self_eq_true, reduceCtorEq, decide_true, decide_false, if_pos, if_neg, hst, hnx]) (by decide) (by decide))
  · simp only [decide_eq_true_eq, decide_eq_false_iff_not, Bool.or_eq_true, Bool.and_eq_true, Bool.or_eq_false_iff, Bool.and_eq_false_iff, Bool.not_eq_true', Bool.not_eq_false', bne_iff_ne, beq_iff_eq, ne_eq, bne_eq_false_iff_eq, beq_eq_false_iff_ne, ge_iff_le, gt_iff_lt, Int.not_le, Int.not_lt] at h
    obtain rfl : k = L.length := by omega
    generalize qs L.length = S at q1 q2 q3 ⊢
    refine go ?_
    refine R_loop (fun j : Nat => ⟨tl [(1, .pt 0 0), (2, tx []), (3, tx S), (5, .sc (.int .i64 j))], ol [(0, ⟨[.sc (.bool (decide (z < 0))), isl L], 79, 0, false⟩)], 1, [], 44⟩) (fun j => j ≤ S.length ∧ ∀ i, i < j → S.getD i 0 = 48) (fun j => S.length - j) 0 [0] lessA ⟨Nat.zero_le _, fun i hi => by omega⟩ fun j hj => ?_
    obtain ⟨j1, j2⟩ := hj
    obtain ⟨te1, te2⟩ := textEnd q1 q2 j2 j1
    have hb48 : ((((S.getD j 0).toNat : Nat) : Int) == 48) = (S.getD j 0 == 48) := byte_eq _ 48
    refine go ?_
    rw [hb48]
    refine cnd (fun h => ?_) (fun h => ?_)
    · simp only [decide_eq_true_eq, decide_eq_false_iff_not, Bool.or_eq_true, Bool.and_eq_true, Bool.or_eq_false_iff, Bool.and_eq_false_iff, Bool.not_eq_true', Bool.not_eq_false', bne_iff_ne, beq_iff_eq, ne_eq, bne_eq_false_iff_eq, beq_eq_false_iff_ne, ge_iff_le, gt_iff_lt, Int.not_le, Int.not_lt] at h
      refine go ?_
      refine R_nilR ⟨[0], _, ?_, j + 1, ⟨by omega, fun i hi => by
        by_cases e : i = j
        · rw [e]; exact h.2
        · exact j2 i (by omega)⟩, by omega, rfl⟩; exact lessA
    · simp only [decide_eq_true_eq, decide_eq_false_iff_not, Bool.or_eq_true, Bool.and_eq_true, Bool.or_eq_false_iff, Bool.and_eq_false_iff, Bool.not_eq_true', Bool.not_eq_false', bne_iff_ne, beq_iff_eq, ne_eq, bne_eq_false_iff_eq, beq_eq_false_iff_ne, ge_iff_le, gt_iff_lt, Int.not_le, Int.not_lt] at h
      have hsz : 4 * L.length ≤ 4000000 := by omega
      by_cases hjS : j = S.length
      · have hn0 := te1 hjS
        subst hjS
        have hz : z = 0 := by omega
        refine go ?_
        refine cnd (fun _ => ?_) (fun h => ?_)
        rotate_left
        · simp only [decide_eq_true_eq, decide_eq_false_iff_not, Bool.or_eq_true, Bool.and_eq_true, Bool.or_eq_false_iff, Bool.and_eq_false_iff, Bool.not_eq_true', Bool.not_eq_false', bne_iff_ne, beq_iff_eq, ne_eq, bne_eq_false_iff_eq, beq_eq_false_iff_ne, ge_iff_le, gt_iff_lt, Int.not_le, Int.not_lt] at h
          omega
        rw [show itoa z = [48] by rw [hz]; unfold itoa; rw [if_neg (by decide), decDigits, dif_pos (by decide)]; rfl]
        refine go ?_
        refine R_ret (finA [])
      · obtain ⟨hd1, hd2⟩ := te2 (by omega) (h.resolve_left (by omega))
        have hjn : ¬ S.length - j < 1 := by omega
        refine go ?_
        refine cnd (fun h => ?_) (fun h => ?_)
        · simp only [decide_eq_true_eq, decide_eq_false_iff_not, Bool.or_eq_true, Bool.and_eq_true, Bool.or_eq_false_iff, Bool.and_eq_false_iff, Bool.not_eq_true', Bool.not_eq_false', bne_iff_ne, beq_iff_eq, ne_eq, bne_eq_false_iff_eq, beq_eq_false_iff_ne, ge_iff_le, gt_iff_lt, Int.not_le, Int.not_lt] at h
          omega
        · refine go ?_
          refine cnd (fun h => ?_) (fun h => ?_)
          · simp only [decide_eq_true_eq, decide_eq_false_iff_not, Bool.or_eq_true, Bool.and_eq_true, Bool.or_eq_false_iff, Bool.and_eq_false_iff, Bool.not_eq_true', Bool.not_eq_false', bne_iff_ne, beq_iff_eq, ne_eq, bne_eq_false_iff_eq, beq_eq_false_iff_ne, ge_iff_le, gt_iff_lt, Int.not_le, Int.not_lt] at h
            have e : itoa z = [45] ++ S.drop j := by unfold itoa; rw [if_pos h, hd1]; rfl
            have hl2 : (S.drop j).length ≤ 4000000 := by rw [List.length_drop]; omega
            rw [e]
            refine go ?_
            refine R_ret (finA [])
          · simp only [decide_eq_true_eq, decide_eq_false_iff_not, Bool.or_eq_true, Bool.and_eq_true, Bool.or_eq_false_iff, Bool.and_eq_false_iff, Bool.not_eq_true', Bool.not_eq_false', bne_iff_ne, beq_iff_eq, ne_eq, bne_eq_false_iff_eq, beq_eq_false_iff_ne, ge_iff_le, gt_iff_lt, Int.not_le, Int.not_lt] at h
            have e : itoa z = S.drop j := by unfold itoa; rw [if_neg (by omega), hd1, show z.toNat = z.natAbs by omega]
            rw [e]
            refine go ?_
            refine R_ret (finA [])
end Go.Proofs.YtglnkfpmogaifaaGreatDoor.V

/-
  The reference's Out, Of, Integral, Int, Sign, Cmp.
-/
set_option linter.unusedSimpArgs false
set_option linter.unusedVariables false
set_option maxHeartbeats 8000000
namespace Go.Proofs.YtglnkfpmogaifaaGreatDoor.V
open Go Go.Proofs Go.RowKit Go.Lib

theorem itoa_len (z : Int) : ((itoa z).length : Int) = (if z < 0 then 1 else 0) + ((decDigits z.natAbs).length : Int) := by
  unfold itoa
  split
  · rw [List.length_cons]; omega
  · rw [show z.toNat = z.natAbs by omega]; omega
theorem lqLe {a k : Nat} (h : (decDigits a).length ≤ k) (hk : 1 ≤ k) : lq a ≤ k := by
  have h3 := decDigits_le (k := k - 1) (u := a).1 (by omega)
  rw [show k - 1 + 1 = k by omega] at h3
  exact dig_length_le BQ2 k _ (Nat.lt_of_lt_of_le h3 (Nat.pow_le_pow_left (by decide) k))
theorem decLq {a m : Nat} (h : lq a ≤ m) (hm : 1 ≤ m) : (decDigits a).length ≤ 4 * m := by
  have h1 : a < 10 ^ ((4 * m - 1) + 1) := by
    rw [show (4 * m - 1) + 1 = 4 * m by omega, Nat.pow_mul]
    exact Nat.lt_of_lt_of_le (lt_dig BQ2 a) (Nat.pow_le_pow_right (by decide) h)
  have := decDigits_le.2 h1
  omega
theorem rOut {z : Int} (h : lq z.natAbs ≤ 1000000) : Con Tryz.prog 50 [pl z] (.tp [tx (toldT z), .sc (.int .i64 (toldE z))]) [] := by
  have hl := itoa_len z
  have hdl := decLq h (by omega)
  refine Con.of_body [(0, pl z)] Tryz.func50 rfl ca50 17 rfl (by simp) rfl ?_; refine T_of_R ?_
  refine go ?_
  refine callz (rText h) ?_
  refine go ?_
  refine cnd (fun h => ?_) (fun h => ?_)
  · simp only [decide_eq_true_eq, decide_eq_false_iff_not, Bool.or_eq_true, Bool.and_eq_true, Bool.or_eq_false_iff, Bool.and_eq_false_iff, Bool.not_eq_true', Bool.not_eq_false', bne_iff_ne, beq_iff_eq, ne_eq, bne_eq_false_iff_eq, beq_eq_false_iff_ne, ge_iff_le, gt_iff_lt, Int.not_le, Int.not_lt] at h
    rw [if_pos h] at hl
    refine go ?_
    refine cnd (fun h => ?_) (fun h => ?_)
    · simp only [decide_eq_true_eq, decide_eq_false_iff_not, Bool.or_eq_true, Bool.and_eq_true, Bool.or_eq_false_iff, Bool.and_eq_false_iff, Bool.not_eq_true', Bool.not_eq_false', bne_iff_ne, beq_iff_eq, ne_eq, bne_eq_false_iff_eq, beq_eq_false_iff_ne, ge_iff_le, gt_iff_lt, Int.not_le, Int.not_lt] at h
      have hh : ¬ (decDigits z.natAbs).length ≤ 600 := by omega
      rw [show toldT z = [] from if_neg hh, show toldE z = 6 from if_neg hh]
      refine go ?_
      refine R_ret (finA [])
    · simp only [decide_eq_true_eq, decide_eq_false_iff_not, Bool.or_eq_true, Bool.and_eq_true, Bool.or_eq_false_iff, Bool.and_eq_false_iff, Bool.not_eq_true', Bool.not_eq_false', bne_iff_ne, beq_iff_eq, ne_eq, bne_eq_false_iff_eq, beq_eq_false_iff_ne, ge_iff_le, gt_iff_lt, Int.not_le, Int.not_lt] at h
      have hh : (decDigits z.natAbs).length ≤ 600 := by omega
      rw [show toldT z = itoa z from if_pos hh, show toldE z = 0 from if_pos hh]
      refine go ?_
      refine R_ret (finA [])
  · simp only [decide_eq_true_eq, decide_eq_false_iff_not, Bool.or_eq_true, Bool.and_eq_true, Bool.or_eq_false_iff, Bool.and_eq_false_iff, Bool.not_eq_true', Bool.not_eq_false', bne_iff_ne, beq_iff_eq, ne_eq, bne_eq_false_iff_eq, beq_eq_false_iff_ne, ge_iff_le, gt_iff_lt, Int.not_le, Int.not_lt] at h
    rw [if_neg (by omega)] at hl
    refine go ?_
    refine cnd (fun h => ?_) (fun h => ?_)
    · simp only [decide_eq_true_eq, decide_eq_false_iff_not, Bool.or_eq_true, Bool.and_eq_true, Bool.or_eq_false_iff, Bool.and_eq_false_iff, Bool.not_eq_true', Bool.not_eq_false', bne_iff_ne, beq_iff_eq, ne_eq, bne_eq_false_iff_eq, beq_eq_false_iff_ne, ge_iff_le, gt_iff_lt, Int.not_le, Int.not_lt] at h
      have hh : ¬ (decDigits z.natAbs).length ≤ 600 := by omega
      rw [show toldT z = [] from if_neg hh, show toldE z = 6 from if_neg hh]
      refine go ?_
      refine R_ret (finA [])
    · simp only [decide_eq_true_eq, decide_eq_false_iff_not, Bool.or_eq_true, Bool.and_eq_true, Bool.or_eq_false_iff, Bool.and_eq_false_iff, Bool.not_eq_true', Bool.not_eq_false', bne_iff_ne, beq_iff_eq, ne_eq, bne_eq_false_iff_eq, beq_eq_false_iff_ne, ge_iff_le, gt_iff_lt, Int.not_le, Int.not_lt] at h
      have hh : (decDigits z.natAbs).length ≤ 600 := by omega
      rw [show toldT z = itoa z from if_pos hh, show toldE z = 0 from if_pos hh]
      refine go ?_
      refine R_ret (finA [])
theorem lqnum {l : List UInt8} (h : okT l = true) : lq (numT l).natAbs ≤ 600 := lqLe (okT_num h).2 (by omega)
theorem lqInt {n : Int} (h0 : -9223372036854775808 ≤ n) (h1 : n ≤ 9223372036854775807) : lq n.natAbs ≤ 20 := lqLe (decDigits_le (k := 19).2 (by omega)) (by omega)
end Go.Proofs.YtglnkfpmogaifaaGreatDoor.V

/-
  The reference's Integral, Int.
-/
set_option linter.unusedSimpArgs false
set_option linter.unusedVariables false
set_option maxHeartbeats 8000000
namespace Go.Proofs.YtglnkfpmogaifaaGreatDoor.V
open Go Go.Proofs Go.RowKit Go.Lib

def iV (z : Int) : Int := if inI z then z else 0
def iE (z : Int) : Int := if inI z then 0 else 6
theorem signLt (x : Int) : decide (x.sign < 0) = decide (x < 0) := by
  rcases Int.lt_trichotomy x 0 with h | h | h
  · rw [Int.sign_eq_neg_one_of_neg h, decide_eq_true h]; rfl
  · rw [h]; rfl
  · rw [Int.sign_eq_one_of_pos h, decide_eq_false (by omega), decide_eq_false (by omega)]
theorem signGt (x : Int) : decide (x.sign > 0) = decide (x > 0) := by
  rcases Int.lt_trichotomy x 0 with h | h | h
  · rw [Int.sign_eq_neg_one_of_neg h, decide_eq_false (by omega), decide_eq_false (by omega)]
  · rw [h]; rfl
  · rw [Int.sign_eq_one_of_pos h, decide_eq_true (by omega), decide_eq_true (by omega)]
end Go.Proofs.YtglnkfpmogaifaaGreatDoor.V

/-
  The reference's Draft.Whole.
-/
set_option linter.unusedSimpArgs false
set_option linter.unusedVariables false
set_option maxHeartbeats 8000000
namespace Go.Proofs.YtglnkfpmogaifaaGreatDoor.V
open Go Go.Proofs Go.RowKit Go.Lib

attribute [go_sem] Tryz.underlying22
/-- A draft. -/
abbrev dft (b : Bool) (G : List Int) (z : Int) : D := .ag [.sc (.bool b), .sl G.length (ints .u16 G), .sc (.int .u16 z)]
/-- What the groups stand for. -/
def gval (G : List Int) : Int := G.foldl (fun a g => a * 1000 + g % 1000) 0
theorem gval_take {G : List Int} {i : Nat} (h : i < G.length) : gval (G.take (i + 1)) = gval (G.take i) * 1000 + G.getD i 0 % 1000 := by
  unfold gval
  rw [List.take_succ_eq_append_getElem h, List.foldl_append]
  simp [List.getD_eq_getElem?_getD, h]
theorem gval_bd {G : List Int} : ∀ i, i ≤ G.length → 0 ≤ gval (G.take i) ∧ gval (G.take i) < ((1000 ^ i : Nat) : Int)
  | 0, _ => by simp [gval]
  | i + 1, h => by
    have ih := gval_bd (G := G) i (by omega)
    rw [gval_take (G := G) (by omega), Nat.pow_succ, Int.natCast_mul]
    generalize gval (G.take i) = v at ih ⊢
    generalize ((1000 ^ i : Nat) : Int) = P at ih ⊢
    omega
theorem gvalN : gval [] = 0 := rfl
theorem gval0 (G : List Int) : gval (G.take 0) = 0 := by simp [gval]
/-- The number of a draft. -/
def dnum (b : Bool) (G : List Int) (z : Int) : Int := sg b (gval (G.take 12) * 10 ^ (z.toNat % 501)).natAbs
theorem lq36 {v : Int} {i : Nat} (h0 : 0 ≤ v) (h1 : v < ((1000 ^ i : Nat) : Int)) (hi : i ≤ 12) : lq v.natAbs ≤ 9 := by
  have h2 : 1000 ^ i ≤ 1000 ^ 12 := Nat.pow_le_pow_right (by decide) hi
  have h3 : (1000 : Nat) ^ 12 = 10000 ^ 9 := by decide
  refine dig_length_le BQ2 9 _ ?_
  show v.natAbs < 10000 ^ 9
  omega
theorem rWhole {b : Bool} {G : List Int} {z : Int} (hz : 0 ≤ z ∧ z ≤ 65535) (hG : ∀ i, 0 ≤ G.getD i 0 ∧ G.getD i 0 ≤ 65535) : Con Tryz.prog 18 [dft b G z] (tx (itoa (dnum b G z))) [] := by
  refine Con.of_body [(0, dft b G z)] Tryz.func18 rfl ca18 50 rfl (by simp) rfl ?_; refine T_of_R ?_
  refine go ?_
  refine callz (rInteger (n := 0) (by omega) (by omega)) ?_
  refine go ?_
  refine R_loop (fun i : Nat => ⟨tl [(1, .pt 0 0), (2, tx []), (3, .pt 1 0), (4, .sc (.int .i64 i))], ol [(0, ⟨[.sc (.bool b), .sl G.length (ints .u16 G), .sc (.int .u16 z)], 25, 0, false⟩), (1, ⟨[.sc (.bool (decide (gval (G.take i) < 0))), is (gval (G.take i)).natAbs], 79, 0, false⟩)], 2, [], 50⟩) (fun i => i ≤ 12 ∧ i ≤ G.length) (fun i => G.length - i) 0 [0, 1] (Less.mk' (by simp (disch := (first | omega | (simp only [go_sem, ↓reduceIte, Nat.reduceEqDiff, Nat.reduceAdd, Nat.reduceMul, Nat.reduceSub, Nat.reduceLT, Nat.reduceLeDiff, Nat.reduceBNe, Nat.reduceBEq, Int.reduceToNat, Int.reduceAdd, Int.reduceSub, Int.reduceMul, Int.reduceLT, Int.reduceLE, Int.reduceNeg, Int.reduceBEq, Int.reduceBNe, Int.reduceEq, beq_self_eq_true, reduceCtorEq, decide_true, decide_false, if_pos, if_neg]; first | done | omega))) only [go_sem, ↓reduceIte, Nat.reduceEqDiff, Nat.reduceAdd, Nat.reduceMul, Nat.reduceSub, Nat.reduceLT, Nat.reduceLeDiff, Nat.reduceBNe, Nat.reduceBEq, Int.reduceToNat, Int.reduceAdd, Int.reduceSub, Int.reduceMul, Int.reduceLT, Int.reduceLE, Int.reduceNeg, Int.reduceBEq, Int.reduceBNe, Int.reduceEq, beq_self_eq_true, reduceCtorEq, decide_true, decide_false, if_pos, if_neg, gval0, gvalN, Int.natAbs_zero]) (by simp (disch := (first | omega | (simp only [go_sem, ↓reduceIte, Nat.reduceEqDiff, Nat.reduceAdd, Nat.reduceMul, Nat.reduceSub, Nat.reduceLT, Nat.reduceLeDiff, Nat.reduceBNe, Nat.reduceBEq, Int.reduceToNat, Int.reduceAdd, Int.reduceSub, Int.reduceMul, Int.reduceLT, Int.reduceLE, Int.reduceNeg, Int.reduceBEq, Int.reduceBNe, Int.reduceEq, beq_self_eq_true, reduceCtorEq, decide_true, decide_false, if_pos, if_neg]; first | done | omega))) only [go_sem, ↓reduceIte, Nat.reduceEqDiff, Nat.reduceAdd, Nat.reduceMul, Nat.reduceSub, Nat.reduceLT, Nat.reduceLeDiff, Nat.reduceBNe, Nat.reduceBEq, Int.reduceToNat, Int.reduceAdd, Int.reduceSub, Int.reduceMul, Int.reduceLT, Int.reduceLE, Int.reduceNeg, Int.reduceBEq, Int.reduceBNe, Int.reduceEq, beq_self_eq_true, reduceCtorEq, decide_true, decide_false, if_pos, if_neg, gval0, gvalN, Int.natAbs_zero]) (by decide) (by decide)) ⟨by omega, Nat.zero_le _⟩ fun i hi => ?_
  obtain ⟨i1, i2⟩ := hi
  have hv := gval_bd (G := G) i i2
  have hl9 := lq36 hv.1 hv.2 i1
  refine go ?_
  refine cnd (fun h => ?_) (fun h => ?_)
  · simp only [decide_eq_true_eq, decide_eq_false_iff_not, Bool.or_eq_true, Bool.and_eq_true, Bool.or_eq_false_iff, Bool.and_eq_false_iff, Bool.not_eq_true', Bool.not_eq_false', bne_iff_ne, beq_iff_eq, ne_eq, bne_eq_false_iff_eq, beq_eq_false_iff_ne, ge_iff_le, gt_iff_lt, Int.not_le, Int.not_lt] at h
    have hiG : i < G.length := by omega
    have hgi := hG i
    have hst := gval_take hiG
    have h20 := lqInt (n := 1000) (by omega) (by omega)
    have hts := rTimes (x := gval (G.take i)) (y := 1000) (by omega)
    have hmod : ((G.getD i 0).tmod 1000) = G.getD i 0 % 1000 := tmod_nn hgi.1
    have h20' := lqInt (n := G.getD i 0 % 1000) (by omega) (by omega)
    have hpl := rPlus (x := gval (G.take i) * 1000) (y := G.getD i 0 % 1000) (by
      have := dig_length_mul BQ2 (gval (G.take i)).natAbs (1000 : Int).natAbs
      rw [← Int.natAbs_mul] at this
      unfold lq at *
      omega)
    rw [← hst] at hpl
    refine go ?_
    refine callz (rInteger (n := 1000) (by omega) (by omega)) ?_
    refine go ?_
    refine callz (hts) ?_
    refine go ?_
    rw [hmod]
    refine go ?_
    refine callz (rInteger (n := G.getD i 0 % 1000) (by omega) (by omega)) ?_
    refine go ?_
    refine callz (hpl) ?_
    refine go ?_
    refine R_nilR ⟨[0, 1], _, ?_, i + 1, ⟨by omega, by omega⟩, by omega, rfl⟩; exact lessA
  · simp only [decide_eq_true_eq, decide_eq_false_iff_not, Bool.or_eq_true, Bool.and_eq_true, Bool.or_eq_false_iff, Bool.and_eq_false_iff, Bool.not_eq_true', Bool.not_eq_false', bne_iff_ne, beq_iff_eq, ne_eq, bne_eq_false_iff_eq, beq_eq_false_iff_ne, ge_iff_le, gt_iff_lt, Int.not_le, Int.not_lt] at h
    have ht12 : G.take i = G.take 12 := by
      by_cases h12 : i = 12
      · rw [h12]
      · rw [List.take_of_length_le (by omega), List.take_of_length_le (by omega)]
    rw [ht12] at hv hl9
    rw [ht12]
    obtain ⟨V, hV⟩ : ∃ V, V = gval (G.take 12) := ⟨_, rfl⟩
    rw [← hV] at hv hl9
    have hVd : V.natAbs < 10 ^ 36 := by
      have h2 : 1000 ^ i ≤ 1000 ^ 12 := Nat.pow_le_pow_right (by decide) i1
      have h3 : (1000 : Nat) ^ 12 = 10 ^ 36 := by decide
      omega
    obtain ⟨e, he⟩ : ∃ e, e = z.toNat % 501 := ⟨_, rfl⟩
    have he5 : e ≤ 500 := by omega
    have hmod : z.tmod 501 = (e : Int) := by rw [tmod_nn hz.1]; omega
    have hl10 := lqInt (n := 10) (by omega) (by omega)
    have hra := rRaised (x := 10) (n := e) (by
      have := Nat.mul_le_mul (show e + 1 ≤ 501 by omega) hl10
      omega) (by omega)
    have hlp : lq ((10 : Int) ^ e).natAbs ≤ 10021 := by
      rw [Int.natAbs_pow]
      have h1 := lq_pow (10 : Int).natAbs e
      have h2 := Nat.mul_le_mul he5 hl10
      omega
    have hts := rTimes (x := V) (y := 10 ^ e) (by omega)
    have hd : dnum b G z = sg b (V * 10 ^ e).natAbs := by unfold dnum; rw [hV, he]
    have hdig : (decDigits (dnum b G z).natAbs).length ≤ 600 := by
      rw [hd, sg_abs, Int.natAbs_mul, Int.natAbs_pow]
      have h1 : V.natAbs * (10 : Int).natAbs ^ e < 10 ^ ((35 + e) + 1) := by
        rw [show 35 + e + 1 = 36 + e by omega, Nat.pow_add]
        exact Nat.mul_lt_mul_of_pos_right hVd (Nat.pow_pos (by decide))
      have := decDigits_le.2 h1
      omega
    have hto := toldT_small hdig
    have hou := rOut (z := dnum b G z) (Nat.le_trans (lqLe hdig (by omega)) (by omega))
    rw [hto.1, hto.2] at hou
    have hmd := rMade' (v := (V * 10 ^ e).natAbs) (b := b)
    rw [← hd] at hmd
    rw [← hV]
    generalize dnum b G z = dn at hou hmd ⊢
    generalize (10 : Int) ^ e = P at hra hts hmd
    refine go ?_
    refine callz (rInteger (n := 10) (by omega) (by omega)) ?_
    refine go ?_
    rw [hmod]
    refine go ?_
    refine callz (hra) ?_
    refine go ?_
    refine callz (hts) ?_
    refine go ?_
    refine callz (hmd) ?_
    refine go ?_
    refine callz (hou) ?_
    refine go ?_
    refine R_ret (finA [])
end Go.Proofs.YtglnkfpmogaifaaGreatDoor.V

/-
  The pairs of the law; drafted numbers are short.
-/
set_option linter.unusedSimpArgs false
set_option linter.unusedVariables false
set_option maxHeartbeats 4000000
namespace Go.Proofs.YtglnkfpmogaifaaGreatDoor.V
open Go Go.Proofs Go.RowKit Go.Lib

theorem dnum_le {b : Bool} {G : List Int} {z : Int} : (decDigits (dnum b G z).natAbs).length ≤ 600 := by
  have hv := gval_bd (G := G) (min 12 G.length) (by omega)
  rw [show G.take (min 12 G.length) = G.take 12 by
    by_cases h : 12 ≤ G.length
    · rw [Nat.min_eq_left h]
    · rw [List.take_of_length_le (by omega), List.take_of_length_le (by omega)]] at hv
  obtain ⟨V, hV⟩ : ∃ V, V = gval (G.take 12) := ⟨_, rfl⟩
  obtain ⟨e, he⟩ : ∃ e, e = z.toNat % 501 := ⟨_, rfl⟩
  have he5 : e ≤ 500 := by omega
  have hd : dnum b G z = sg b (V * 10 ^ e).natAbs := by unfold dnum; rw [hV, he]
  rw [← hV] at hv
  have hVd : V.natAbs < 10 ^ 36 := by
    have h2 : 1000 ^ (min 12 G.length) ≤ 1000 ^ 12 := Nat.pow_le_pow_right (by decide) (Nat.min_le_left _ _)
    have h3 : (1000 : Nat) ^ 12 = 10 ^ 36 := by decide
    omega
  rw [hd, sg_abs, Int.natAbs_mul, Int.natAbs_pow]
  have h1 : V.natAbs * (10 : Int).natAbs ^ e < 10 ^ ((35 + e) + 1) := by
    rw [show 35 + e + 1 = 36 + e by omega, Nat.pow_add]
    exact Nat.mul_lt_mul_of_pos_right hVd (Nat.pow_pos (by decide))
  have := decDigits_le.2 h1
  omega
theorem itoa_short {z : Int} (h : (decDigits z.natAbs).length ≤ 600) : (itoa z).length ≤ 1000 := by
  have := itoa_len z
  split at this <;> omega
theorem take620 (A : List UInt8) : A.take ((if (620 : Int) < (A.length : Int) then (620 : Int) else (A.length : Int)).toNat - 0) = A.take 620 := by
  split
  · rfl
  · rw [List.take_of_length_le (by omega), List.take_of_length_le (by omega)]
/-- The law's two texts and two drafts. -/
abbrev two (A B : List UInt8) (b : Bool) (G : List Int) (z : Int) (b' : Bool) (G' : List Int) (z' : Int) : D := .ag [tx A, tx B, .sc (.bool b), .sl G.length (ints .u16 G), .sc (.int .u16 z), .sc (.bool b'), .sl G'.length (ints .u16 G'), .sc (.int .u16 z')]
theorem cPairs {A B : List UInt8} {b b' : Bool} {G G' : List Int} {z z' : Int} (hA : A.length ≤ 9223372036854775807) (hB : B.length ≤ 9223372036854775807) (hz : 0 ≤ z ∧ z ≤ 65535) (hG : ∀ i, 0 ≤ G.getD i 0 ∧ G.getD i 0 ≤ 65535) (hz' : 0 ≤ z' ∧ z' ≤ 65535) (hG' : ∀ i, 0 ≤ G'.getD i 0 ∧ G'.getD i 0 ≤ 65535) :
    Con Tryz.prog 25 [two A B b G z b' G' z'] (.rf 0 0 4 2) [⟨[tx (A.take 620), tx (B.take 620), tx (itoa (dnum b G z)), tx (itoa (dnum b' G' z')), tx (A.take 620), tx (itoa (dnum b' G' z')), tx (itoa (dnum b' G' z')), tx (B.take 620)], 50, 2, false⟩] := by
  have w1 := rWhole (b := b) hz hG
  have w2 := rWhole (b := b') hz' hG'
  refine Con.of_body [(0, two A B b G z b' G' z')] Tryz.func25 rfl ca25 40 rfl (by simp) rfl ?_; refine T_of_R ?_
  refine go ?_
  refine call (w1) ?_
  refine go ?_
  refine call (w2) ?_
  refine go ?_
  refine R_ret (fin_of (ids := [1]) (by first | (simp (disch := (first | omega | (simp only [go_sem, ↓reduceIte, Nat.reduceEqDiff, Nat.reduceAdd, Nat.reduceMul, Nat.reduceSub, Nat.reduceLT, Nat.reduceLeDiff, Nat.reduceBNe, Nat.reduceBEq, Int.reduceToNat, Int.reduceAdd, Int.reduceSub, Int.reduceMul, Int.reduceLT, Int.reduceLE, Int.reduceNeg, Int.reduceBEq, Int.reduceBNe, Int.reduceEq, beq_self_eq_true, reduceCtorEq, decide_true, decide_false, if_pos, if_neg]; first | done | omega))) only [go_sem, ↓reduceIte, Nat.reduceEqDiff, Nat.reduceAdd, Nat.reduceMul, Nat.reduceSub, Nat.reduceLT, Nat.reduceLeDiff, Nat.reduceBNe, Nat.reduceBEq, Int.reduceToNat, Int.reduceAdd, Int.reduceSub, Int.reduceMul, Int.reduceLT, Int.reduceLE, Int.reduceNeg, Int.reduceBEq, Int.reduceBNe, Int.reduceEq, beq_self_eq_true, reduceCtorEq, decide_true, decide_false, if_pos, if_neg] <;> rfl) | fail) (by simp (disch := (first | omega | (simp only [go_sem, ↓reduceIte, Nat.reduceEqDiff, Nat.reduceAdd, Nat.reduceMul, Nat.reduceSub, Nat.reduceLT, Nat.reduceLeDiff, Nat.reduceBNe, Nat.reduceBEq, Int.reduceToNat, Int.reduceAdd, Int.reduceSub, Int.reduceMul, Int.reduceLT, Int.reduceLE, Int.reduceNeg, Int.reduceBEq, Int.reduceBNe, Int.reduceEq, beq_self_eq_true, reduceCtorEq, decide_true, decide_false, if_pos, if_neg]; first | done | omega))) only [go_sem, ↓reduceIte, Nat.reduceEqDiff, Nat.reduceAdd, Nat.reduceMul, Nat.reduceSub, Nat.reduceLT, Nat.reduceLeDiff, Nat.reduceBNe, Nat.reduceBEq, Int.reduceToNat, Int.reduceAdd, Int.reduceSub, Int.reduceMul, Int.reduceLT, Int.reduceLE, Int.reduceNeg, Int.reduceBEq, Int.reduceBNe, Int.reduceEq, beq_self_eq_true, reduceCtorEq, decide_true, decide_false, if_pos, if_neg, take620 A, take620 B]) (by decide) (by simp (disch := (first | omega | (simp only [go_sem, ↓reduceIte, Nat.reduceEqDiff, Nat.reduceAdd, Nat.reduceMul, Nat.reduceSub, Nat.reduceLT, Nat.reduceLeDiff, Nat.reduceBNe, Nat.reduceBEq, Int.reduceToNat, Int.reduceAdd, Int.reduceSub, Int.reduceMul, Int.reduceLT, Int.reduceLE, Int.reduceNeg, Int.reduceBEq, Int.reduceBNe, Int.reduceEq, beq_self_eq_true, reduceCtorEq, decide_true, decide_false, if_pos, if_neg]; first | done | omega))) only [go_sem, ↓reduceIte, Nat.reduceEqDiff, Nat.reduceAdd, Nat.reduceMul, Nat.reduceSub, Nat.reduceLT, Nat.reduceLeDiff, Nat.reduceBNe, Nat.reduceBEq, Int.reduceToNat, Int.reduceAdd, Int.reduceSub, Int.reduceMul, Int.reduceLT, Int.reduceLE, Int.reduceNeg, Int.reduceBEq, Int.reduceBNe, Int.reduceEq, beq_self_eq_true, reduceCtorEq, decide_true, decide_false, if_pos, if_neg, take620 A, take620 B]))
end Go.Proofs.YtglnkfpmogaifaaGreatDoor.V

/-
  From a law's contract to the given statement: what the arguments hold, as data; that they read afterwards as they read before.
-/
namespace Go.Proofs.YtglnkfpmogaifaaGreatDoor.V
open Go Go.RowKit Go.ChangeShapes

/-- What a value of a type holds, cell by cell, as data. -/
def Shape (P : Program) : Nat → TypeId → List D → Prop
  | 0, _, _ => False
  | n + 1, t, ds => match P.underlying t with
    | some .bool => ∃ b, ds = [.sc (.bool b)]
    | some (.int k) => ∃ m, (Lit.int k m).wf = true ∧ ds = [.sc (.int k m)]
    | some .string => ∃ s : ByteArray, s.size ≤ maxLen ∧ ds = [.sc (.string s)]
    | some (.slice e) => ∃ rows : List (List D), rows.length ≤ maxLen ∧ (∀ r ∈ rows, Shape P n e r) ∧ ds = [.sl rows.length rows.flatten]
    | some (.struct fs) => ∃ rows : List (List D), rows.length = fs.size ∧ (∀ (i : Nat) f r, fs[i]? = some f → rows[i]? = some r → Shape P n f.type r) ∧ ds = rows.flatten
    | some (.array m e) => ∃ rows : List (List D), rows.length = m ∧ (∀ r ∈ rows, Shape P n e r) ∧ ds = rows.flatten
    | _ => False
/-- The types that this serves. -/
def plainT (P : Program) : Nat → TypeId → Bool
  | 0, _ => false
  | n + 1, t => match P.underlying t with
    | some .bool => true
    | some (.int _) => true
    | some .string => true
    | some (.slice e) => plainT P n e
    | some (.struct fs) => fs.toList.all fun f => plainT P n f.type
    | some (.array _ e) => plainT P n e
    | _ => false

/-- All that is there, quiet. -/
def still (w : World) : Ctx := ⟨fun _ => none, fun b => b < w.heap.size, w, fun _ => False⟩

theorem choose_rows {α : Type} {p : Nat → α → Prop} : ∀ n, (∀ i, i < n → ∃ a, p i a) → ∃ l : List α, l.length = n ∧ ∀ (i : Nat) a, l[i]? = some a → p i a
  | 0, _ => ⟨[], rfl, fun i a h => by simp at h⟩
  | n + 1, h => by
    obtain ⟨l, hl, hp⟩ := choose_rows n fun i hi => h i (by omega)
    obtain ⟨a, ha⟩ := h n (by omega)
    refine ⟨l ++ [a], by simp [hl], fun i b hb => ?_⟩
    by_cases hi : i < n
    · rw [List.getElem?_append_left (by omega)] at hb
      exact hp i b hb
    · have : i = n := by
        have := (List.getElem?_eq_some_iff.1 hb).1
        simp at this
        omega
      subst this
      rw [List.getElem?_append_right (by omega)] at hb
      simp [hl] at hb
      subst hb
      exact ha
theorem Cr_append {X : Ctx} {b : Nat} : ∀ {r s : List D} {off : Nat}, Cr X b off r → Cr X b (off + r.length) s → Cr X b off (r ++ s)
  | [], s, off, _, h => by simpa using h
  | d :: r, s, off, h, h' => by
    simp only [Cr, List.cons_append] at h ⊢
    exact ⟨h.1, Cr_append h.2 (by rwa [show off + 1 + r.length = off + (d :: r).length by simp; omega])⟩
theorem Cr_rows {X : Ctx} {b : Nat} {es : Nat} : ∀ {rows : List (List D)} {off : Nat}, (∀ (i : Nat) r, rows[i]? = some r → r.length = es ∧ Cr X b (off + i * es) r) → Cr X b off rows.flatten
  | [], off, _ => by simp [Cr]
  | r :: rows, off, h => by
    have h0 := h 0 r (by simp)
    rw [List.flatten_cons]
    refine Cr_append (by simpa using h0.2) (Cr_rows (es := es) fun i s hs => ?_)
    obtain ⟨h1, h2⟩ := h (i + 1) s (by simpa using hs)
    refine ⟨h1, ?_⟩
    rw [h0.1]
    rwa [show off + es + i * es = off + (i + 1) * es by rw [Nat.add_mul]; omega]
theorem Lr_rows {X : Ctx} : ∀ {rows : List (List D)} {vs : List (List Value)}, rows.length = vs.length → (∀ (i : Nat) r v, rows[i]? = some r → vs[i]? = some v → Lr X r v) → Lr X rows.flatten vs.flatten
  | [], [], _, _ => by simp [Lr]
  | r :: rows, v :: vs, hl, h => by
    rw [List.flatten_cons, List.flatten_cons]
    exact Lr_append (h 0 r v (by simp) (by simp)) (Lr_rows (by simpa using hl) fun i r v h1 h2 => h (i + 1) r v (by simpa using h1) (by simpa using h2))
  | [], _ :: _, hl, _ => by simp at hl
  | _ :: _, [], hl, _ => by simp at hl

theorem cell_spot {w : World} {a : Addr} {v : Value} (h : w.cell? a = some v) : a = ⟨a.block, a.off, none⟩ ∧ a.block < w.heap.size := by
  unfold World.cell? at h
  split at h
  · rename_i c t fr hb
    split at h
    · cases h
    · rename_i hs
      refine ⟨?_, (Array.getElem?_eq_some_iff.1 hb).1⟩
      obtain ⟨b, o, s⟩ := a
      cases s with
      | none => rfl
      | some s => simp at hs
  · cases h
theorem add_plain (b o n : Nat) : (⟨b, o, none⟩ : Addr).add n = ⟨b, o + n, none⟩ := by
  unfold Addr.add
  split
  · rename_i h; subst h; rfl
  · rfl

/-- A list, cut. -/
theorem cut_flatten {α : Type} : ∀ (sizes : List Nat) (cs : List α), cs.length = sizes.sum → ((List.range sizes.length).map fun i => (cs.drop (sizes.take i).sum).take (sizes.getD i 0)).flatten = cs
  | [], cs, h => by
    have : cs = [] := List.length_eq_zero_iff.1 (by simpa using h)
    simp [this]
  | z :: sizes, cs, h => by
    simp only [List.sum_cons] at h
    rw [List.length_cons, List.range_succ_eq_map, List.map_cons, List.flatten_cons, List.map_map]
    have ih := cut_flatten sizes (cs.drop z) (by simp; omega)
    have e : ((List.range sizes.length).map ((fun i => (cs.drop ((z :: sizes).take i).sum).take ((z :: sizes).getD i 0)) ∘ Nat.succ)) = (List.range sizes.length).map fun i => ((cs.drop z).drop (sizes.take i).sum).take (sizes.getD i 0) := by
      refine List.map_congr_left fun i _ => ?_
      simp [List.drop_drop]
    rw [e, ih]
    simp

section
variable {H : Type} {enc : TypeId × Value → H} {P : Program} {w : World} {base : Nat} {spare : Nat → Bool} {held : Bool}
theorem shape_of (K : Kids P (· < P.types.size)) (hz : ∀ t e, t < P.types.size → P.underlying t = some (.slice e) → 0 < P.cellsOf e) : ∀ (n fuel : Nat) (t : TypeId) (cs : List Value) (x : DataW H × List MemPlace), t < P.types.size → plainT P n t = true →
    DataW.trod enc P w base spare held fuel t cs = some x → ∃ ds, Lr (still w) ds cs ∧ (∀ c ∈ cs, c.oneCell' = true) ∧ Shape P n t ds := by
  intro n
  induction n with
  | zero => intro fuel t cs x _ hp _; simp [plainT] at hp
  | succ n ih =>
    intro fuel t cs x ht hp h
    unfold plainT at hp
    unfold Shape
    split at hp
    · rename_i hu
      obtain ⟨b, rfl, _⟩ := DataW.trod_bool hu h
      exact ⟨[.sc (.bool b)], by simp [Lr, Vr], by simp [Value.oneCell'], b, rfl⟩
    · rename_i k hu
      obtain ⟨m, rfl, _, hw⟩ := DataW.trod_int hu h
      exact ⟨[.sc (.int k m)], by simp [Lr, Vr], by simp [Value.oneCell'], m, hw, rfl⟩
    · rename_i hu
      obtain ⟨s, rfl, _, hs⟩ := DataW.trod_string hu h
      exact ⟨[.sc (.string s)], by simp [Lr, Vr], by simp [Value.oneCell'], s, hs, rfl⟩
    · rename_i e hu
      have he' := K.slice ht hu
      have hes := hz t e ht hu
      rcases DataW.trod_slice hu h with ⟨rfl, _⟩ | ⟨a, len, cap, elems, rest, m, rfl, rfl, _, hb, hl, hc, hel, he, _, _⟩
      · exact ⟨[.sl 0 []], by simp [Lr, Vr], by simp [Value.oneCell'], [], Nat.zero_le _, by simp, rfl⟩
      · have each : ∀ i, i < len → ∃ r : List D, ∃ ci, w.cells? base (a.add (i * P.cellsOf e)) (P.cellsOf e) = some ci ∧ Lr (still w) r ci ∧ (∀ c ∈ ci, c.oneCell' = true) ∧ Shape P n e r := by
          intro i hi
          have h1 := he i hi
          rw [List.getElem?_eq_getElem (by omega), Option.bind_eq_some_iff] at h1
          obtain ⟨ci, hci, htr⟩ := h1
          obtain ⟨r, r1, r2, r3⟩ := ih _ _ _ _ he' hp htr
          exact ⟨r, ci, hci, r1, r2, r3⟩
        obtain ⟨rows, hrl, hrp⟩ := choose_rows len each
        refine ⟨[.sl len rows.flatten], ?_, by simp [Value.oneCell'], rows, by rw [hrl]; exact Nat.le_trans hl hc, fun r hr => ?_, by rw [hrl]⟩
        · simp only [Lr]
          refine ⟨_, _, rfl, ?_, rfl⟩
          simp only [Vr]
          refine ⟨Nat.le_trans hl hc, some a, cap, rfl, hl, ?_⟩
          by_cases h0 : len = 0
          · left
            have : rows = [] := List.length_eq_zero_iff.1 (by omega)
            simp [this]
          · right
            obtain ⟨r0, hr0⟩ : ∃ r, rows[0]? = some r := ⟨_, List.getElem?_eq_getElem (by omega)⟩
            obtain ⟨c0, hc0, _⟩ := hrp 0 r0 hr0
            obtain ⟨_, q1, q2⟩ := World.cells?_some hc0
            have q3 := q2 0 hes
            rw [List.getElem?_eq_getElem (by omega)] at q3
            have e1 : (a.add (0 * P.cellsOf e)).add 0 = a := by simp [Addr.add]
            rw [e1] at q3
            obtain ⟨ea, hlt⟩ := cell_spot q3
            refine ⟨a.block, a.off, by rw [← ea], hlt, Cr_rows (es := P.cellsOf e) fun i r hr => ?_⟩
            obtain ⟨ci, hci, r1, r2, _⟩ := hrp i r hr
            obtain ⟨_, q1, q2⟩ := World.cells?_some hci
            refine ⟨by rw [← q1]; exact (Lr_length r1).symm, Cr_iff.2 fun j d hd => ?_⟩
            obtain ⟨v, hv, hvr⟩ := Lr_get r1 j d hd
            have hj := (List.getElem?_eq_some_iff.1 hv).1
            have q4 := q2 j (by omega)
            rw [hv, ea, add_plain, add_plain] at q4
            exact ⟨v, q4, r2 v (List.mem_of_getElem? hv), hvr⟩
        · obtain ⟨i, hi⟩ := List.getElem?_of_mem hr
          exact (hrp i r hi).choose_spec.2.2.2
    · rename_i fs hu
      obtain ⟨k1, k2, k3⟩ := K.struct ht hu
      obtain ⟨xs, m, rfl, _, hcl, hxl, hx⟩ := DataW.trod_struct hu h
      let sizes := fs.toList.map fun f => P.cellsOf f.type
      have hsl : sizes.length = fs.size := by simp [sizes]
      let piece : Nat → List Value := fun i => (cs.drop (sizes.take i).sum).take (sizes.getD i 0)
      have each : ∀ i, i < fs.size → ∃ r : List D, ∀ f, fs[i]? = some f → Lr (still w) r (piece i) ∧ (∀ c ∈ piece i, c.oneCell' = true) ∧ Shape P n f.type r := by
        intro i hi
        obtain ⟨f, hf⟩ : ∃ f, fs[i]? = some f := ⟨_, Array.getElem?_eq_getElem hi⟩
        have hft : fs.toList[i]? = some f := by simpa using hf
        have hx' := hx i f hf
        rw [List.getElem?_eq_getElem (by omega)] at hx'
        have e : (cs.drop f.offset).take (P.cellsOf f.type) = piece i := by
          simp only [piece, sizes]
          rw [k3 i f hft, ← List.map_take]
          congr 1
          rw [List.getD_eq_getElem?_getD, List.getElem?_map, hft]
          rfl
        rw [e] at hx'
        have hmem : f ∈ fs.toList := List.mem_of_getElem? hft
        obtain ⟨r, r1, r2, r3⟩ := ih _ _ _ _ (k1 f hmem) (List.all_eq_true.1 hp f hmem) hx'
        refine ⟨r, fun f' hf' => ?_⟩
        rw [hf] at hf'; cases hf'
        exact ⟨r1, r2, r3⟩
      obtain ⟨rows, hrl, hrp⟩ := choose_rows fs.size each
      have hcut : ((List.range sizes.length).map piece).flatten = cs := cut_flatten sizes cs (by rw [hcl, k2])
      refine ⟨rows.flatten, ?_, ?_, rows, hrl, fun i f r hf hr => (hrp i r hr f hf).2.2, rfl⟩
      · rw [← hcut]
        refine Lr_rows (by simp [hrl, hsl]) fun i r v hr hv => ?_
        have hi : i < fs.size := by have := (List.getElem?_eq_some_iff.1 hr).1; omega
        have e : v = piece i := by
          rw [List.getElem?_map, List.getElem?_range (by omega)] at hv
          simpa using hv.symm
        subst e
        exact (hrp i r hr _ (Array.getElem?_eq_getElem hi)).1
      · rw [← hcut]
        intro c hc
        obtain ⟨l, hl, hcl'⟩ := List.mem_flatten.1 hc
        obtain ⟨i, hi, rfl⟩ := List.mem_map.1 hl
        have hi' : i < fs.size := by have := List.mem_range.1 hi; omega
        obtain ⟨r, hr⟩ : ∃ r, rows[i]? = some r := ⟨_, List.getElem?_eq_getElem (by omega)⟩
        exact (hrp i r hr _ (Array.getElem?_eq_getElem hi')).2.1 c hcl'
    · rename_i m e hu
      obtain ⟨k1, k2⟩ := K.array ht hu
      obtain ⟨xs, q, rfl, _, hcl, hxl, hx⟩ := DataW.trod_array hu h
      let sizes := List.replicate m (P.cellsOf e)
      have hsl : sizes.length = m := by simp [sizes]
      let piece : Nat → List Value := fun i => (cs.drop (sizes.take i).sum).take (sizes.getD i 0)
      have each : ∀ i, i < m → ∃ r : List D, Lr (still w) r (piece i) ∧ (∀ c ∈ piece i, c.oneCell' = true) ∧ Shape P n e r := by
        intro i hi
        have hx' := hx i hi
        rw [List.getElem?_eq_getElem (by omega)] at hx'
        have e1 : (cs.drop (i * P.cellsOf e)).take (P.cellsOf e) = piece i := by
          simp only [piece, sizes, List.take_replicate, List.sum_replicate_nat, List.getD_eq_getElem?_getD, List.getElem?_replicate, if_pos hi, Option.getD_some, Nat.min_eq_left (Nat.le_of_lt hi)]
        rw [e1] at hx'
        exact ih _ _ _ _ k1 hp hx'
      obtain ⟨rows, hrl, hrp⟩ := choose_rows m each
      have hcut : ((List.range sizes.length).map piece).flatten = cs := cut_flatten sizes cs (by rw [hcl, k2]; simp [sizes, List.sum_replicate_nat])
      refine ⟨rows.flatten, ?_, ?_, rows, hrl, fun r hr => ?_, rfl⟩
      · rw [← hcut]
        refine Lr_rows (by simp [hrl, hsl]) fun i r v hr hv => ?_
        have hi : i < m := by have := (List.getElem?_eq_some_iff.1 hr).1; omega
        have e : v = piece i := by
          rw [List.getElem?_map, List.getElem?_range (by omega)] at hv
          simpa using hv.symm
        subst e
        exact (hrp i r hr).1
      · rw [← hcut]
        intro c hc
        obtain ⟨l, hl, hcl'⟩ := List.mem_flatten.1 hc
        obtain ⟨i, hi, rfl⟩ := List.mem_map.1 hl
        have hi' : i < m := by have := List.mem_range.1 hi; omega
        obtain ⟨r, hr⟩ : ∃ r, rows[i]? = some r := ⟨_, List.getElem?_eq_getElem (by omega)⟩
        exact (hrp i r hr).2.1 c hcl'
      · obtain ⟨i, hi⟩ := List.getElem?_of_mem hr
        exact (hrp i r hi).2.2
    · cases hp
end

end Go.Proofs.YtglnkfpmogaifaaGreatDoor.V

/-
  The bridge to a given law's statement.
-/
namespace Go.Proofs.YtglnkfpmogaifaaGreatDoor.V
open Go Go.RowKit Go.ChangeShapes Go.WideShapes

/-- A whole value of a type, as data. -/
def ShapeV (P : Program) (n : Nat) (t : TypeId) (d : D) : Prop := match P.underlying t with
  | some (.struct _) | some (.array _ _) => ∃ ds, d = .ag ds ∧ Shape P n t ds
  | _ => Shape P n t [d]

section
variable {H : Type} {enc : TypeId × Value → H} {P : Program} {w : World} {base : Nat} {spare : Nat → Bool} {held : Bool}
theorem value_of (K : Kids P (· < P.types.size)) (hz : ∀ t e, t < P.types.size → P.underlying t = some (.slice e) → 0 < P.cellsOf e) {n : Nat} {t : TypeId} {v : Value} {d : DataW H} {ps : List MemPlace} {r : Reach} {b0 : Nat} (ht : t < P.types.size) (hp : plainT P n t = true)
    (hval : Value.okWide P w r b0 t v) (h : DataW.Trod enc P w base spare held t v d ps) : ∃ a, Vr (still w) a v ∧ ShapeV P n t a := by
  obtain ⟨fuel, hf⟩ := h
  obtain ⟨ds, h1, h2, h3⟩ := shape_of K hz n fuel t _ _ ht hp hf
  have one : ∀ {u : Value}, v = u → u.oneCell' = true → ∃ a, Vr (still w) a v ∧ Shape P n t [a] := by
    rintro u rfl hu
    have hc : v.cells.toList = [v] := by cases v <;> simp_all [Value.cells, Value.oneCell']
    rw [hc] at h1
    have hl := Lr_length h1
    obtain ⟨a, rfl⟩ : ∃ a, ds = [a] := by
      cases ds with
      | nil => simp at hl
      | cons a l => cases l with
        | nil => exact ⟨a, rfl⟩
        | cons b l => simp at hl
    simp only [Lr] at h1
    obtain ⟨u, r', e, hv, rfl⟩ := h1
    simp only [List.cons.injEq, and_true] at e
    subst e
    exact ⟨a, hv, h3⟩
  cases n with
  | zero => simp [plainT] at hp
  | succ n =>
  unfold plainT at hp
  unfold ShapeV
  split at hp
  · rename_i hu
    obtain ⟨b, hb⟩ := okWide_bool hu hval
    simp only [hu]
    exact one hb rfl
  · rename_i k hu
    obtain ⟨b, hb⟩ := okWide_int hu hval
    simp only [hu]
    exact one hb rfl
  · rename_i hu
    obtain ⟨b, hb⟩ := okWide_string hu hval
    simp only [hu]
    exact one hb rfl
  · rename_i e hu
    obtain ⟨a, l, c, hb⟩ := okWide_slice hu hval
    simp only [hu]
    exact one hb rfl
  · rename_i fs hu
    simp only [Value.okWide, hu] at hval
    obtain ⟨cs, rfl, _⟩ := hval
    simp only [hu]
    exact ⟨.ag ds, by simp only [Vr]; exact ⟨cs, rfl, by simpa [Value.cells] using h1⟩, ds, rfl, h3⟩
  · rename_i m e hu
    simp only [Value.okWide, hu] at hval
    obtain ⟨cs, rfl, _⟩ := hval
    simp only [hu]
    exact ⟨.ag ds, by simp only [Vr]; exact ⟨cs, rfl, by simpa [Value.cells] using h1⟩, ds, rfl, h3⟩
  · cases hp

theorem args_of (K : Kids P (· < P.types.size)) (hz : ∀ t e, t < P.types.size → P.underlying t = some (.slice e) → 0 < P.cellsOf e) {n : Nat} {r : Reach} {b0 : Nat} : ∀ {ts : List TypeId} {vs : List Value} {ds : List (DataW H)} {ps : List MemPlace}, (∀ t ∈ ts, t < P.types.size ∧ plainT P n t = true) →
    (∀ (j : Nat) t v, ts[j]? = some t → vs[j]? = some v → Value.okWide P w r b0 t v) → DataW.TrodAll enc P w base spare held ts vs ds ps →
    ∃ us, Lr (still w) us vs ∧ us.length = ts.length ∧ ds.length = ts.length ∧ ∀ (j : Nat) t a, ts[j]? = some t → us[j]? = some a → ShapeV P n t a
  | [], [], [], _, _, _, _ => ⟨[], rfl, rfl, rfl, by simp⟩
  | t :: ts, v :: vs, d :: ds, ps, hp, hval, ⟨p, q, h1, h2, _⟩ => by
    obtain ⟨us, a1, a2, a3, a4⟩ := args_of K hz (fun t ht => hp t (by simp [ht])) (fun j t v h h' => hval (j + 1) t v (by simpa using h) (by simpa using h')) h2
    obtain ⟨a, b1, b2⟩ := value_of K hz (hp t (by simp)).1 (hp t (by simp)).2 (hval 0 t v (by simp) (by simp)) h1
    refine ⟨a :: us, ⟨v, vs, rfl, b1, a1⟩, by simp [a2], by simp [a3], fun j t' a' h h' => ?_⟩
    cases j with
    | zero => simp at h h'; subst h h'; exact b2
    | succ j => exact a4 j t' a' (by simpa using h) (by simpa using h')

theorem stays_all (K : Kids P (· < P.types.size)) (hz : ∀ t e, t < P.types.size → P.underlying t = some (.slice e) → 0 < P.cellsOf e) {w' : World} {sp' : Nat → Bool} : ∀ {ts : List TypeId} {vs : List Value} {ds : List (DataW H)} {ps : List MemPlace}, (∀ t ∈ ts, t < P.types.size) →
    DataW.TrodAll enc P w base (fun _ => true) true ts vs ds ps → (∀ p ∈ ps, w.sameAt w' p) → (∀ p ∈ ps, sp' p.block = true) → DataW.TrodAll enc P w' base sp' true ts vs ds ps
  | [], [], [], _, _, h, _, _ => h
  | t :: ts, v :: vs, d :: ds, ps, ht, ⟨p, q, ⟨n, h1⟩, h2, e⟩, hs, hb => by
    refine ⟨p, q, ⟨n, ?_⟩, stays_all K hz (fun t h => ht t (by simp [h])) h2 (fun x hx => hs x (by rw [e]; exact List.mem_append_right _ hx)) (fun x hx => hb x (by rw [e]; exact List.mem_append_right _ hx)), e⟩
    exact DataW.trod_stays K (fun h h' => hz _ _ h h') (fun h => by cases h) (ht t (by simp)) h1 (fun x hx => hs x (by rw [e]; exact List.mem_append_left _ hx)) (fun x hx => hb x (by rw [e]; exact List.mem_append_left _ hx))

theorem still_quiet (w : World) : ∀ b, (still w).I b → b < w.heap.size := fun _ h => h

/-- A law whose contract says 'true' at all data of its parameters' types. -/
theorem law_post {f : FuncId} {fn : Func} {s : ChangeSpec} {tb : TypeId} {n : Nat} (K : Kids P (· < P.types.size)) (hz : ∀ t e, t < P.types.size → P.underlying t = some (.slice e) → 0 < P.cellsOf e)
    (hpl : (fn.params.toList.all fun t => decide (t < P.types.size) && plainT P n t) = true) (hres : fn.resultTypes = #[tb]) (htb : P.underlying tb = some .bool) (hv : s.vars = [])
    (hs : ∀ (ds : List (DataW H)), ds.length = fn.params.size → s.fn H ds = { results := [.lit (.bool true)], args := ds })
    (con : ∀ us : List D, us.length = fn.params.size → (∀ (j : Nat) t a, fn.params[j]? = some t → us[j]? = some a → ShapeV P n t a) → Con P f us (.sc (.bool true)) [])
    (W : World) (hgl : Gl W) (b0 : Nat) (args : Array Value) (ds gs : List (DataW H)) (before : List MemPlace) (hval : ∀ (j : Nat) t v, fn.params[j]? = some t → args[j]? = some v → Value.okWide P W .any b0 t v)
    (hW : DataW.Whole enc P fn.params.toList s.vars false W args.toList ds gs before) :
    Calls P f args W fun e W' => ∃ v, e = .returned v ∧ s.post enc P fn false true false false W args v W' := by
  have hW' := hW
  obtain ⟨p, q, hA, hV, rfl, _, _⟩ := hW
  rw [hv] at hV
  obtain ⟨rfl, rfl⟩ : gs = [] ∧ q = [] := by
    cases gs with
    | nil => simp only [DataW.TrodVars] at hV; exact ⟨rfl, hV⟩
    | cons => simp [DataW.TrodVars] at hV
  have hts : ∀ t ∈ fn.params.toList, t < P.types.size ∧ plainT P n t = true := fun t ht => by
    have := List.all_eq_true.1 hpl t ht
    simpa using this
  obtain ⟨us, a1, a2, a3, a4⟩ := args_of K hz hts (fun j t v h h' => hval j t v (by simpa using h) (by simpa using h')) hA
  have hc := (con us (by simpa using a2) fun j t a h h' => a4 j t a (by simpa using h) h').calls (fun b => b < W.heap.size) W args.toList hgl (fun _ h => h) a1
  rw [Array.toArray_toList] at hc
  refine hc.mono ?_
  rintro e W' ⟨v, Y, rfl, rfl, hp⟩
  have hval' := hp.val
  simp only [Vr] at hval'
  subst hval'
  have hlt := hW'.lt
  have hfn := hs ds (by simpa using a3)
  simp only [List.append_nil] at hW' hlt
  refine ⟨_, rfl, ds, [], p, [], p, [], hW', ?_, ?_, ?_, hp.below.frame _, fun h => by cases h⟩
  · rw [List.append_nil, hfn, hres]
    exact trodAll_cons_mk (shut_bool htb _) trodAll_mk0
  · rw [List.append_nil, hfn]
    refine stays_all K hz (fun t ht => (hts t ht).1) hA (fun x hx => ?_) fun x hx => by simpa using hlt x hx
    have hb := hp.below.block x.block (hlt x hx)
    cases x with
    | cell b o => simp only [World.sameAt, World.cell?]; simp only [MemPlace.block] at hb; rw [hb]
    | map b => exact hb
  · rw [List.append_nil, hfn, hv]
    rfl
end

end Go.Proofs.YtglnkfpmogaifaaGreatDoor.V

/-
  The base: package whole and its reference, the examples.
-/
namespace Go.Proofs.YtglnkfpmogaifaaGreatDoor.V
theorem base_done : True := trivial
end Go.Proofs.YtglnkfpmogaifaaGreatDoor.V

