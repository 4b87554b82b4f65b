/-
  Facts of this seat's rows.
-/
import Derived.Test.YtndigibhmfegaaaKB5
import Derived.Test.YtndigibhmfegaaaRows
set_option linter.unusedSimpArgs false
set_option linter.unusedVariables false
namespace Go.Proofs.Ytndigibhmfegaaa
open Go.ChangeShapes

theorem own : ownKnob Try.prog.godebug = none := by kernel_rfl
theorem kids : Kids Try.prog (· < Try.prog.types.size) := kids_rows (by kernel_rfl) (by kernel_rfl)
theorem full : ∀ t e, t < Try.prog.types.size → Try.prog.underlying t = some (.slice e) → 0 < Try.prog.cellsOf e := slices_full_of Try.prog (by kernel_rfl)
end Go.Proofs.Ytndigibhmfegaaa

/-
  Swapping twice; ranges of grids with the same values; picking twice, plain.
-/
set_option linter.unusedSimpArgs false
set_option linter.unusedVariables false
namespace Go.Proofs.Ytndigibhmfegaaa.V
open Go Go.Proofs Go.RowKit

theorem swp_swp {a b : Nat} {xs : List Int} (ha : a < xs.length) (hb : b < xs.length) : swp b a (swp a b xs) = xs := by
  refine eq_of_getD (by simp [swp_length]) fun i _ => ?_
  rw [swp_get (by rw [swp_length]; exact hb) (by rw [swp_length]; exact ha), swp_get ha hb, swp_get ha hb, swp_get ha hb]
  by_cases h1 : i = a
  · subst h1; simp
  · rw [if_neg h1]
    by_cases h2 : i = b
    · subst h2
      by_cases h3 : a = i
      · subst h3; simp
      · simp [h3]
    · simp [h1, h2]
theorem swp_congr {a b n : Nat} {xs ys : List Int} (ha : a < n) (hb : b < n) (hx : n ≤ xs.length) (hy : n ≤ ys.length) (h : ∀ i, i < n → xs.getD i 0 = ys.getD i 0) : ∀ i, i < n → (swp a b xs).getD i 0 = (swp a b ys).getD i 0 := fun i hi => by
  rw [swp_get (by omega) (by omega), swp_get (by omega) (by omega), h a ha, h b hb, h i hi]
/-- The position with a valid index' number has that index' numbers. -/
theorem seqP_pv {sz xs : List Int} (h4 : sz.length ≤ 4) (hs : Sz sz) (hv : Valid sz xs sz.length) : (pv sz xs sz.length).toNat < points sz ∧ ∀ i, i < sz.length → (seqP sz (pv sz xs sz.length).toNat).getD i 0 = xs.getD i 0 := by
  have hp := points_eq fun i hi => (hs i hi).1
  obtain ⟨p1, p2, _⟩ := pv_range (sz := sz) (ps := xs) sz.length (fun i hi => (hs i hi).1) hv
  have hn : (pv sz xs sz.length).toNat < points sz := by omega
  obtain ⟨c1, c2, c3, _⟩ := seqP_ok h4 hs hn
  exact ⟨hn, pv_inj sz.length c2 hv (by rw [c3]; omega)⟩
/-- A valid index, its numbers exchanged, names in the swapped grid what it names in the grid. -/
theorem snum_pv {sz xs : List Int} {a b : Nat} (h4 : sz.length ≤ 4) (hs : Sz sz) (ha : a < sz.length) (hb : b < sz.length) (hl : sz.length ≤ xs.length) (hv : Valid sz xs sz.length) :
    Valid (swp a b sz) (swp a b xs) sz.length ∧ (pv (swp a b sz) (swp a b xs) sz.length).toNat < points sz ∧ snum a b sz (pv (swp a b sz) (swp a b xs) sz.length).toNat = (pv sz xs sz.length).toNat := by
  have hs' := swp_Sz hs ha hb
  have hsl := swp_length a b sz
  have hv' : Valid (swp a b sz) (swp a b xs) sz.length := by
    have := swp_Valid (a := b) (b := a) (sz := swp a b sz) (xs := xs) (by rw [hsl]; exact hb) (by rw [hsl]; exact ha) (by rw [hsl]; exact hl) (by rw [swp_swp ha hb, hsl]; exact hv)
    rw [hsl, swp_comm (a := b) (b := a) (xs := xs) (by omega) (by omega)] at this
    exact this
  have hq := seqP_pv (sz := swp a b sz) (xs := swp a b xs) (by rw [hsl]; exact h4) hs' (by rw [hsl]; exact hv')
  rw [hsl, points_swp ha hb] at hq
  refine ⟨hv', hq.1, ?_⟩
  obtain ⟨c1, _⟩ := seqP_ok (sz := swp a b sz) (by rw [hsl]; exact h4) hs' (n := (pv (swp a b sz) (swp a b xs) sz.length).toNat) (by rw [points_swp ha hb]; exact hq.1)
  unfold snum
  congr 1
  refine pv_congr _ fun i hi => ?_
  rw [swp_congr ha hb (by omega) (by rw [swp_length]; exact hl) hq.2 i hi, swp_comm (xs := swp a b xs) (by rw [swp_length]; omega) (by rw [swp_length]; omega), swp_swp (by omega) (by omega)]
theorem snum_snum {sz : List Int} {a b : Nat} (h4 : sz.length ≤ 4) (hs : Sz sz) (ha : a < sz.length) (hb : b < sz.length) {n : Nat} (hn : n < points sz) : snum b a (swp a b sz) n < points sz ∧ snum a b sz (snum b a (swp a b sz) n) = n := by
  obtain ⟨c1, c2, c3, _⟩ := seqP_ok h4 hs hn
  obtain ⟨h1, h2, h3⟩ := snum_pv h4 hs ha hb (by omega) c2
  have e : snum b a (swp a b sz) n = (pv (swp a b sz) (swp a b (seqP sz n)) sz.length).toNat := by
    unfold snum
    rw [swp_swp ha hb, swp_length, swp_comm (xs := seqP sz n) (by omega) (by omega)]
  rw [e]
  exact ⟨h2, by rw [h3, c3]; exact Int.toNat_natCast n⟩
/-- A block of a list of blocks. -/
theorem sall_blk {sz da : List Int} {a b m : Nat} (h4 : sz.length ≤ 4) (hs : Sz sz) (ha : a < sz.length) (hb : b < sz.length) (hl : da.length = points sz * m) : ∀ N n, n < N → N ≤ points sz → blk (sall a b sz da m N) m n = blk da m (snum a b sz n)
  | 0, n, h, _ => by omega
  | N + 1, n, h, hN => by
    have hsl := sall_length (m := m) h4 hs ha hb hl N (by omega)
    have hbl := blk_length (blk_ok hl (snum_ok h4 hs ha hb (show N < points sz by omega)).2)
    simp only [sall]
    by_cases e : n = N
    · subst e
      unfold blk
      rw [List.drop_append_of_le_length (by omega), List.drop_eq_nil_of_le (by omega), List.nil_append]
      exact List.take_of_length_le (by unfold blk at hbl; omega)
    · rw [← sall_blk h4 hs ha hb hl N n (by omega) (by omega)]
      unfold blk
      have : n * m + m ≤ N * m := by
        have := Nat.mul_le_mul_right m (show n + 1 ≤ N by omega)
        rwa [Nat.add_mul, Nat.one_mul] at this
      rw [List.drop_append_of_le_length (by omega), List.take_append_of_le_length (by rw [List.length_drop]; omega)]
theorem blks_ext {m P : Nat} {xs ys : List Int} (hx : xs.length = P * m) (hy : ys.length = P * m) (h : ∀ n, n < P → blk xs m n = blk ys m n) : xs = ys := by
  refine eq_of_getD (by omega) fun i hi => ?_
  by_cases hm : m = 0
  · subst hm; omega
  · have hd : i / m < P := by rw [Nat.div_lt_iff_lt_mul (by omega)]; omega
    have hr : i % m < m := Nat.mod_lt _ (by omega)
    have e := h (i / m) hd
    have e1 := blk_get (da := xs) (m := m) (n := i / m) hr
    have e2 := blk_get (da := ys) (m := m) (n := i / m) hr
    have ei : i / m * m + i % m = i := by rw [Nat.mul_comm]; exact Nat.div_add_mod i m
    rw [ei] at e1 e2
    rw [← e1, ← e2, e]
theorem sall_sall {sz da : List Int} {a b m : Nat} (h4 : sz.length ≤ 4) (hs : Sz sz) (ha : a < sz.length) (hb : b < sz.length) (hl : da.length = points sz * m) : sall b a (swp a b sz) (sall a b sz da m (points sz)) m (points sz) = da := by
  have hs' := swp_Sz hs ha hb
  have hsl := swp_length a b sz
  have hp := points_swp ha hb
  have hl' := sall_length (m := m) h4 hs ha hb hl (points sz) (Nat.le_refl _)
  have hl2 := sall_length (sz := swp a b sz) (da := sall a b sz da m (points sz)) (a := b) (b := a) (m := m) (by rw [hsl]; exact h4) hs' (by rw [hsl]; exact hb) (by rw [hsl]; exact ha) (by rw [hp]; exact hl') (points sz) (by rw [hp]; exact Nat.le_refl _)
  refine blks_ext (m := m) (P := points sz) hl2 hl fun n hn => ?_
  rw [sall_blk (sz := swp a b sz) (a := b) (b := a) (by rw [hsl]; exact h4) hs' (by rw [hsl]; exact hb) (by rw [hsl]; exact ha) (by rw [hp]; exact hl') (points sz) n hn (by rw [hp]; exact Nat.le_refl _)]
  obtain ⟨q1, q2⟩ := snum_snum h4 hs ha hb hn
  rw [sall_blk h4 hs ha hb hl (points sz) _ q1 (Nat.le_refl _), q2]

/-- Values in a range. -/
theorem sall_all {p : Int → Prop} {a b m : Nat} {sz da : List Int} (h : ∀ x ∈ da, p x) : ∀ n, ∀ x ∈ sall a b sz da m n, p x
  | 0, x, hx => by simp [sall] at hx
  | n + 1, x, hx => by
    simp only [sall, List.mem_append] at hx
    rcases hx with hx | hx
    · exact sall_all h n x hx
    · exact h x (List.mem_of_mem_drop (List.mem_of_mem_take hx))
theorem Right.mem {sz : List Int} {o : Int} {da : List Int} (h : Right sz o da) : ∀ x ∈ da, 0 ≤ x ∧ x ≤ 65535 := fun x hx => by
  obtain ⟨i, hi, rfl⟩ := List.mem_iff_getElem.1 hx
  have := h.2.2.2.2.2.2.2 i hi
  rwa [List.getD_eq_getElem?_getD, List.getElem?_eq_getElem hi] at this
theorem Right.mk {sz : List Int} {m : Nat} {da : List Int} (h1 : 1 ≤ sz.length) (h4 : sz.length ≤ 4) (o1 : 1 ≤ m) (o4 : m ≤ 4) (hs : Sz sz) (hl : da.length = points sz * m) (hd : da.length ≤ 4096) (hx : ∀ x ∈ da, 0 ≤ x ∧ x ≤ 65535) : Right sz m da := by
  have hp := points_le h4 hs
  have hb : points sz * m ≤ 6561 * 4 := Nat.mul_le_mul hp.2 o4
  refine ⟨h1, h4, by omega, by omega, hs, ?_, hd, fun k hk => ?_⟩
  · rw [prodW_points h4 hs, ← Int.natCast_mul, wrap64 (by omega) (by omega), hl]
  · exact hx _ (by rw [List.getD_eq_getElem?_getD, List.getElem?_eq_getElem hk]; exact List.getElem_mem hk)
theorem Right.swap {sz : List Int} {m : Nat} {da : List Int} (h : Right sz m da) {a b : Nat} (ha : a < sz.length) (hb : b < sz.length) : Right (swp a b sz) m (sall a b sz da m (points sz)) := by
  have hl := h.lenN
  have hm := h.mem
  obtain ⟨h1, h4, o1, o4, hs, _, hd, _⟩ := h
  have hl' := sall_length (m := m) h4 hs ha hb hl (points sz) (Nat.le_refl _)
  exact Right.mk (by rw [swp_length]; exact h1) (by rw [swp_length]; exact h4) (by omega) (by omega) (swp_Sz hs ha hb) (by rw [points_swp ha hb]; exact hl') (by omega) (sall_all hm _)

theorem fmin_ok (x y : Int) : fmin x y ≤ x ∧ fmin x y ≤ y ∧ (fmin x y = x ∨ fmin x y = y) := by
  show (if y < x then y else x) ≤ x ∧ (if y < x then y else x) ≤ y ∧ ((if y < x then y else x) = x ∨ (if y < x then y else x) = y)
  split <;> omega
theorem fmax_ok (x y : Int) : x ≤ fmax x y ∧ y ≤ fmax x y ∧ (fmax x y = x ∨ fmax x y = y) := by
  show x ≤ (if y > x then y else x) ∧ y ≤ (if y > x then y else x) ∧ ((if y > x then y else x) = x ∨ (if y > x then y else x) = y)
  split <;> omega
/-- What a least (greatest) value is. -/
theorem low_char {da : List Int} {m P : Nat} (hl : da.length = P * m) (hP : 1 ≤ P) {k : Nat} (hk : k < m) : ∀ n, n ≤ P →
    ((∀ j, j < n → (lowG fmin da m n).getD k 0 ≤ da.getD (j * m + k) 0) ∧ ∃ j, j < P ∧ (lowG fmin da m n).getD k 0 = da.getD (j * m + k) 0) ∧
    ((∀ j, j < n → da.getD (j * m + k) 0 ≤ (lowG fmax da m n).getD k 0) ∧ ∃ j, j < P ∧ (lowG fmax da m n).getD k 0 = da.getD (j * m + k) 0)
  | 0, _ => by
    have e : (da.take m).getD k 0 = da.getD (0 * m + k) 0 := by
      have := take_drop_getD da 0 m k hk
      simpa using this
    exact ⟨⟨fun j hj => by omega, 0, hP, e⟩, ⟨fun j hj => by omega, 0, hP, e⟩⟩
  | n + 1, hn => by
    have hmd : m ≤ da.length := by rw [hl]; have := Nat.mul_le_mul_right m hP; omega
    obtain ⟨⟨a1, a2⟩, ⟨b1, b2⟩⟩ := low_char hl hP hk n (by omega)
    have g1 := cmb_get fmin (lowG fmin da m n) (blk da m n) m (by rw [lowG_length _ hmd]; exact Nat.le_refl _) k
    have g2 := cmb_get fmax (lowG fmax da m n) (blk da m n) m (by rw [lowG_length _ hmd]; exact Nat.le_refl _) k
    rw [if_pos hk, blk_get hk] at g1 g2
    have q1 := fmin_ok ((lowG fmin da m n).getD k 0) (da.getD (n * m + k) 0)
    have q2 := fmax_ok ((lowG fmax da m n).getD k 0) (da.getD (n * m + k) 0)
    rw [← g1] at q1
    rw [← g2] at q2
    simp only [lowG]
    refine ⟨⟨fun j hj => ?_, ?_⟩, ⟨fun j hj => ?_, ?_⟩⟩
    · by_cases e : j = n
      · subst e; exact q1.2.1
      · exact Int.le_trans q1.1 (a1 j (by omega))
    · rcases q1.2.2 with e | e
      · obtain ⟨j, hj, e2⟩ := a2; exact ⟨j, hj, e.trans e2⟩
      · exact ⟨n, by omega, e⟩
    · by_cases e : j = n
      · subst e; exact q2.2.1
      · exact Int.le_trans (b1 j (by omega)) q2.1
    · rcases q2.2.2 with e | e
      · obtain ⟨j, hj, e2⟩ := b2; exact ⟨j, hj, e.trans e2⟩
      · exact ⟨n, by omega, e⟩
/-- Columns with the same values have the same ends. -/
theorem low_same {da da' : List Int} {m m' P : Nat} (hl : da.length = P * m) (hl' : da'.length = P * m') (hP : 1 ≤ P) {k k' : Nat} (hk : k < m) (hk' : k' < m') (f : Nat → Nat) (hf : ∀ n, n < P → f n < P ∧ da'.getD (n * m' + k') 0 = da.getD (f n * m + k) 0)
    (g : Nat → Nat) (hg : ∀ n, n < P → g n < P ∧ da.getD (n * m + k) 0 = da'.getD (g n * m' + k') 0) :
    (lowG fmin da' m' P).getD k' 0 = (lowG fmin da m P).getD k 0 ∧ (lowG fmax da' m' P).getD k' 0 = (lowG fmax da m P).getD k 0 := by
  obtain ⟨⟨a1, i, hi, a2⟩, ⟨b1, j, hj, b2⟩⟩ := low_char hl hP hk P (Nat.le_refl _)
  obtain ⟨⟨c1, p, hp, c2⟩, ⟨d1, q, hq, d2⟩⟩ := low_char hl' hP hk' P (Nat.le_refl _)
  have x1 := a1 (f p) (hf p hp).1
  have x2 := c1 (g i) (hg i hi).1
  have x3 := b1 (f q) (hf q hq).1
  have x4 := d1 (g j) (hg j hj).1
  rw [← (hf p hp).2] at x1
  rw [← (hg i hi).2] at x2
  rw [← (hf q hq).2] at x3
  rw [← (hg j hj).2] at x4
  omega
theorem swap_low {sz : List Int} {m : Nat} {da : List Int} (h : Right sz m da) {a b : Nat} (ha : a < sz.length) (hb : b < sz.length) :
    lowR (sall a b sz da m (points sz)) m (sall a b sz da m (points sz)).length = lowR da m da.length ∧ highR (sall a b sz da m (points sz)) m (sall a b sz da m (points sz)).length = highR da m da.length := by
  have hl := h.lenN
  obtain ⟨h1, h4, o1, o4, hs, _, hd, _⟩ := h
  have hp := points_le h4 hs
  have hl' := sall_length (m := m) h4 hs ha hb hl (points sz) (Nat.le_refl _)
  have hmd : m ≤ da.length := by rw [hl]; have := Nat.mul_le_mul_right m hp.1; omega
  obtain ⟨e1, e2⟩ := low_all hmd hl
  obtain ⟨e3, e4⟩ := low_all (da := sall a b sz da m (points sz)) (by omega) hl'
  rw [e1, e2, e3, e4]
  have key : ∀ k, k < m → (lowG fmin (sall a b sz da m (points sz)) m (points sz)).getD k 0 = (lowG fmin da m (points sz)).getD k 0 ∧ (lowG fmax (sall a b sz da m (points sz)) m (points sz)).getD k 0 = (lowG fmax da m (points sz)).getD k 0 := by
    intro k hk
    have hb' : ∀ n, n < points sz → (sall a b sz da m (points sz)).getD (n * m + k) 0 = da.getD (snum a b sz n * m + k) 0 := fun n hn => by
      rw [← blk_get hk, sall_blk h4 hs ha hb hl (points sz) n hn (Nat.le_refl _), blk_get hk]
    refine low_same hl hl' hp.1 hk hk (snum a b sz) (fun n hn => ⟨(snum_ok h4 hs ha hb hn).2, hb' n hn⟩) (snum b a (swp a b sz)) fun n hn => ?_
    obtain ⟨q1, q2⟩ := snum_snum h4 hs ha hb hn
    exact ⟨q1, by rw [hb' _ q1, q2]⟩
  constructor
  · refine eq_of_getD (by rw [lowG_length _ (by omega), lowG_length _ hmd]) fun k hk => ?_
    rw [lowG_length _ (by omega)] at hk
    exact (key k hk).1
  · refine eq_of_getD (by rw [lowG_length _ (by omega), lowG_length _ hmd]) fun k hk => ?_
    rw [lowG_length _ (by omega)] at hk
    exact (key k hk).2
end Go.Proofs.Ytndigibhmfegaaa.V

/-
  The statement GridKnown, walked.
-/
set_option linter.unusedSimpArgs false
set_option linter.unusedVariables false
set_option maxHeartbeats 8000000
set_option maxRecDepth 20000
namespace Go.Proofs.Ytndigibhmfegaaa.V
open Go Go.Proofs Go.RowKit

theorem con26 (n : Nat) (h : n ≤ 10000) : Con Try.prog 26 [.sc (.int .i64 n)] (.rf 0 0 n 1) [⟨ints .i64 (List.replicate n 0), 3, 1, false⟩] := by
  refine Con.of_body [(0, .sc (.int .i64 n))] Try.func26 rfl ca26 5 rfl (by simp) rfl ?_; refine T_of_R ?_
  refine go ?_
  refine R_ret (fin_of (ids := [0]) (by simp (disch := (first | omega | (simp only [go_sem, ↓reduceIte, Nat.reduceEqDiff, Nat.reduceAdd, Nat.reduceMul, Nat.reduceSub, Nat.reduceLT, Nat.reduceLeDiff, Nat.reduceBNe, Nat.reduceBEq, Int.reduceToNat, Int.reduceAdd, Int.reduceSub, Int.reduceMul, Int.reduceLT, Int.reduceLE, Int.reduceNeg, Int.reduceBEq, Int.reduceBNe, Int.reduceEq, beq_self_eq_true, reduceCtorEq, decide_true, decide_false, if_pos, if_neg]; first | done | omega))) only [go_sem, ↓reduceIte, Nat.reduceEqDiff, Nat.reduceAdd, Nat.reduceMul, Nat.reduceSub, Nat.reduceLT, Nat.reduceLeDiff, Nat.reduceBNe, Nat.reduceBEq, Int.reduceToNat, Int.reduceAdd, Int.reduceSub, Int.reduceMul, Int.reduceLT, Int.reduceLE, Int.reduceNeg, Int.reduceBEq, Int.reduceBNe, Int.reduceEq, beq_self_eq_true, reduceCtorEq, decide_true, decide_false, if_pos, if_neg] <;> rfl) (by simp (disch := (first | omega | (simp only [go_sem, ↓reduceIte, Nat.reduceEqDiff, Nat.reduceAdd, Nat.reduceMul, Nat.reduceSub, Nat.reduceLT, Nat.reduceLeDiff, Nat.reduceBNe, Nat.reduceBEq, Int.reduceToNat, Int.reduceAdd, Int.reduceSub, Int.reduceMul, Int.reduceLT, Int.reduceLE, Int.reduceNeg, Int.reduceBEq, Int.reduceBNe, Int.reduceEq, beq_self_eq_true, reduceCtorEq, decide_true, decide_false, if_pos, if_neg]; first | done | omega))) only [go_sem, ↓reduceIte, Nat.reduceEqDiff, Nat.reduceAdd, Nat.reduceMul, Nat.reduceSub, Nat.reduceLT, Nat.reduceLeDiff, Nat.reduceBNe, Nat.reduceBEq, Int.reduceToNat, Int.reduceAdd, Int.reduceSub, Int.reduceMul, Int.reduceLT, Int.reduceLE, Int.reduceNeg, Int.reduceBEq, Int.reduceBNe, Int.reduceEq, beq_self_eq_true, reduceCtorEq, decide_true, decide_false, if_pos, if_neg]) (by decide) (by simp (disch := (first | omega | (simp only [go_sem, ↓reduceIte, Nat.reduceEqDiff, Nat.reduceAdd, Nat.reduceMul, Nat.reduceSub, Nat.reduceLT, Nat.reduceLeDiff, Nat.reduceBNe, Nat.reduceBEq, Int.reduceToNat, Int.reduceAdd, Int.reduceSub, Int.reduceMul, Int.reduceLT, Int.reduceLE, Int.reduceNeg, Int.reduceBEq, Int.reduceBNe, Int.reduceEq, beq_self_eq_true, reduceCtorEq, decide_true, decide_false, if_pos, if_neg]; first | done | omega))) only [go_sem, ↓reduceIte, Nat.reduceEqDiff, Nat.reduceAdd, Nat.reduceMul, Nat.reduceSub, Nat.reduceLT, Nat.reduceLeDiff, Nat.reduceBNe, Nat.reduceBEq, Int.reduceToNat, Int.reduceAdd, Int.reduceSub, Int.reduceMul, Int.reduceLT, Int.reduceLE, Int.reduceNeg, Int.reduceBEq, Int.reduceBNe, Int.reduceEq, beq_self_eq_true, reduceCtorEq, decide_true, decide_false, if_pos, if_neg]))

/-- The grids that are none. -/
def BG (z : Nat → List Int) : Nat → Gr
  | 0 => ([], 0, [])
  | 1 => ([1], 1, z 1)
  | 2 => ([10], 1, z 10)
  | 3 => ([2, 2, 2, 2, 2], 1, z 32)
  | 4 => ([2], 0, [])
  | 5 => ([2], 5, z 10)
  | 6 => ([2], 1, [0, 65536])
  | 7 => ([2], 1, [0, -1])
  | 8 => ([2], 1, z 3)
  | 9 => ([9, 9, 9], 4, z 2915)
  | _ => ([9, 9, 9, 6], 1, z 4374)
def C11 (G : Nat → Gr) : List D := c3 (G 0) ++ (c3 (G 1) ++ (c3 (G 2) ++ (c3 (G 3) ++ (c3 (G 4) ++ (c3 (G 5) ++ (c3 (G 6) ++ (c3 (G 7) ++ (c3 (G 8) ++ (c3 (G 9) ++ c3 (G 10))))))))))
theorem C11_length (G : Nat → Gr) : (C11 G).length = 33 := rfl
theorem C11_at {G : Nat → Gr} {i : Nat} (h : i < 11) : ((C11 G).drop (i * 3)).take 3 = c3 (G i) := by
  have : i = 0 ∨ i = 1 ∨ i = 2 ∨ i = 3 ∨ i = 4 ∨ i = 5 ∨ i = 6 ∨ i = 7 ∨ i = 8 ∨ i = 9 ∨ i = 10 := by omega
  rcases this with rfl | rfl | rfl | rfl | rfl | rfl | rfl | rfl | rfl | rfl | rfl <;> rfl
theorem c3_eq (g : Gr) : D.ag (c3 g) = gr g.1 g.2.1 g.2.2 := rfl
theorem C11_renL (θ : Nat → Option Nat) (G : Nat → Gr) : renL θ (C11 G) = C11 G := by simp only [C11, renL_app, c3_renL]
attribute [go_sem] C11_length C11_at c3_eq C11_renL
theorem BG_bad {z : Nat → List Int} (hz : ∀ n, (z n).length = n) : ∀ i, i < 11 → ¬ Right (BG z i).1 (BG z i).2.1 (BG z i).2.2
  | 0, _, h => by have := h.1; simp [BG] at this
  | 1, _, h => by have := h.2.2.2.2.1 0 (by simp [BG]); simp [BG] at this
  | 2, _, h => by have := h.2.2.2.2.1 0 (by simp [BG]); simp [BG] at this
  | 3, _, h => by have := h.2.1; simp [BG] at this
  | 4, _, h => by have := h.2.2.1; simp [BG] at this
  | 5, _, h => by have := h.2.2.2.1; simp [BG] at this
  | 6, _, h => by have := h.2.2.2.2.2.2.2 1 (by simp [BG]); simp [BG] at this
  | 7, _, h => by have := h.2.2.2.2.2.2.2 1 (by simp [BG]); simp [BG] at this
  | 8, _, h => by
    have := h.len
    simp only [BG, hz] at this
    have e : points [2] = 2 := by decide +kernel
    rw [e] at this
    omega
  | 9, _, h => by
    have := h.len
    simp only [BG, hz] at this
    have e : points [9, 9, 9] = 729 := by decide +kernel
    rw [e] at this
    omega
  | 10, _, h => by
    have := h.2.2.2.2.2.2.1
    simp only [BG, hz] at this
    omega
  | i + 11, hi, _ => by omega

def P24 : List Int := pall [0, 1, 2, 3, 4, 5, 6, 7, 8, 9, 10, 11] 2 [1, 1, 0, 1] (points [2, 3])
theorem P24_length : P24.length = 24 := by decide +kernel
theorem P24_20 : P24.getD 20 0 = 11 := by decide +kernel
theorem P24_22 : P24.getD 22 0 = 10 := by decide +kernel
attribute [go_sem] P24_length P24_20 P24_22
theorem pk00 : Pk (1 : Nat) [0, 0] := by
  intro i hi
  have : i = 0 ∨ i = 1 := by simp at hi; omega
  rcases this with rfl | rfl <;> decide
theorem pk1101 : Pk (2 : Nat) [1, 1, 0, 1] := by
  intro i hi
  have : i = 0 ∨ i = 1 ∨ i = 2 ∨ i = 3 := by simp at hi; omega
  rcases this with rfl | rfl | rfl | rfl <;> decide
theorem right23 : Right [2, 3] (2 : Nat) [0, 1, 2, 3, 4, 5, 6, 7, 8, 9, 10, 11] := Right.mk (by decide) (by decide) (by decide) (by decide) (by decide) (by decide +kernel) (by decide) (by decide)
theorem right8 {z : List Int} (hz : z.length = 4096) (h0 : ∀ x ∈ z, x = 0) : Right [8, 8, 8, 8] (1 : Nat) z := Right.mk (by decide) (by decide) (by decide) (by decide) (by decide) (by rw [hz]; decide +kernel) (by omega) (fun x hx => by rw [h0 x hx]; decide)

theorem rfv {s : Sg} {q : List Nat} {id len : Nat} {xs : List Int} (h : id ∈ q) (ho : s id = some ⟨ints .i64 xs, 3, 1, true⟩) (hl : xs.length = len) : viewQ s q 4 (.rf id 0 len 1) = .sl len (ints .i64 xs) := by
  have hc : (ints .i64 xs).length = len := by simp [ints, hl]
  rw [viewQ_rf' h ho (by show 0 + len * 1 ≤ (ints .i64 xs).length; omega)]
  show D.sl len ((((ints .i64 xs).drop 0).take (len * 1)).map (viewQ s q 3)) = _
  rw [List.drop_zero, Nat.mul_one, List.take_of_length_le (by omega), ints_viewQ]
theorem seen11 {s : Sg} {q : List Nat} {z : Nat → List Int} (hz : ∀ n, (z n).length = n) (hq : ∀ i, i < 20 → i ∈ q) (h0 : s 0 = some ⟨ints .i64 [1], 3, 1, true⟩) (h1 : s 1 = some ⟨ints .i64 (z 1), 3, 1, true⟩) (h2 : s 2 = some ⟨ints .i64 [10], 3, 1, true⟩) (h3 : s 3 = some ⟨ints .i64 (z 10), 3, 1, true⟩) (h4 : s 4 = some ⟨ints .i64 [2, 2, 2, 2, 2], 3, 1, true⟩) (h5 : s 5 = some ⟨ints .i64 (z 32), 3, 1, true⟩) (h6 : s 6 = some ⟨ints .i64 [2], 3, 1, true⟩) (h7 : s 7 = some ⟨ints .i64 [2], 3, 1, true⟩) (h8 : s 8 = some ⟨ints .i64 (z 10), 3, 1, true⟩) (h9 : s 9 = some ⟨ints .i64 [2], 3, 1, true⟩) (h10 : s 10 = some ⟨ints .i64 [0, 65536], 3, 1, true⟩) (h11 : s 11 = some ⟨ints .i64 [2], 3, 1, true⟩) (h12 : s 12 = some ⟨ints .i64 [0, -1], 3, 1, true⟩) (h13 : s 13 = some ⟨ints .i64 [2], 3, 1, true⟩) (h14 : s 14 = some ⟨ints .i64 (z 3), 3, 1, true⟩) (h15 : s 15 = some ⟨ints .i64 [9, 9, 9], 3, 1, true⟩) (h16 : s 16 = some ⟨ints .i64 (z 2915), 3, 1, true⟩) (h17 : s 17 = some ⟨ints .i64 [9, 9, 9, 6], 3, 1, true⟩) (h18 : s 18 = some ⟨ints .i64 (z 4374), 3, 1, true⟩) (h19 : s 19 = some ⟨[.em, .sc (.int .i64 0), .em, .rf 0 0 1 1, .sc (.int .i64 1), .rf 1 0 1 1, .rf 2 0 1 1, .sc (.int .i64 1), .rf 3 0 10 1, .rf 4 0 5 1, .sc (.int .i64 1), .rf 5 0 32 1, .rf 6 0 1 1, .sc (.int .i64 0), .em, .rf 7 0 1 1, .sc (.int .i64 5), .rf 8 0 10 1, .rf 9 0 1 1, .sc (.int .i64 1), .rf 10 0 2 1, .rf 11 0 1 1, .sc (.int .i64 1), .rf 12 0 2 1, .rf 13 0 1 1, .sc (.int .i64 1), .rf 14 0 3 1, .rf 15 0 3 1, .sc (.int .i64 4), .rf 16 0 2915 1, .rf 17 0 4 1, .sc (.int .i64 1), .rf 18 0 4374 1], 24, 3, true⟩) : viewQ s q 5 (.rf 19 0 11 3) = .sl 11 (C11 (BG z)) := by
  have v0 := rfv (hq 0 (by decide)) h0 (show _ = 1 by simp [hz])
  have v1 := rfv (hq 1 (by decide)) h1 (show _ = 1 by simp [hz])
  have v2 := rfv (hq 2 (by decide)) h2 (show _ = 1 by simp [hz])
  have v3 := rfv (hq 3 (by decide)) h3 (show _ = 10 by simp [hz])
  have v4 := rfv (hq 4 (by decide)) h4 (show _ = 5 by simp [hz])
  have v5 := rfv (hq 5 (by decide)) h5 (show _ = 32 by simp [hz])
  have v6 := rfv (hq 6 (by decide)) h6 (show _ = 1 by simp [hz])
  have v7 := rfv (hq 7 (by decide)) h7 (show _ = 1 by simp [hz])
  have v8 := rfv (hq 8 (by decide)) h8 (show _ = 10 by simp [hz])
  have v9 := rfv (hq 9 (by decide)) h9 (show _ = 1 by simp [hz])
  have v10 := rfv (hq 10 (by decide)) h10 (show _ = 2 by simp [hz])
  have v11 := rfv (hq 11 (by decide)) h11 (show _ = 1 by simp [hz])
  have v12 := rfv (hq 12 (by decide)) h12 (show _ = 2 by simp [hz])
  have v13 := rfv (hq 13 (by decide)) h13 (show _ = 1 by simp [hz])
  have v14 := rfv (hq 14 (by decide)) h14 (show _ = 3 by simp [hz])
  have v15 := rfv (hq 15 (by decide)) h15 (show _ = 3 by simp [hz])
  have v16 := rfv (hq 16 (by decide)) h16 (show _ = 2915 by simp [hz])
  have v17 := rfv (hq 17 (by decide)) h17 (show _ = 4 by simp [hz])
  have v18 := rfv (hq 18 (by decide)) h18 (show _ = 4374 by simp [hz])
  rw [viewQ_rf' (hq 19 (by decide)) h19 (by decide)]
  show D.sl 11 (List.map (viewQ s q 4) [.em, .sc (.int .i64 0), .em, .rf 0 0 1 1, .sc (.int .i64 1), .rf 1 0 1 1, .rf 2 0 1 1, .sc (.int .i64 1), .rf 3 0 10 1, .rf 4 0 5 1, .sc (.int .i64 1), .rf 5 0 32 1, .rf 6 0 1 1, .sc (.int .i64 0), .em, .rf 7 0 1 1, .sc (.int .i64 5), .rf 8 0 10 1, .rf 9 0 1 1, .sc (.int .i64 1), .rf 10 0 2 1, .rf 11 0 1 1, .sc (.int .i64 1), .rf 12 0 2 1, .rf 13 0 1 1, .sc (.int .i64 1), .rf 14 0 3 1, .rf 15 0 3 1, .sc (.int .i64 4), .rf 16 0 2915 1, .rf 17 0 4 1, .sc (.int .i64 1), .rf 18 0 4374 1]) = _
  simp only [List.map_cons, List.map_nil, viewQ_sc, viewQ_em, v0, v1, v2, v3, v4, v5, v6, v7, v8, v9, v10, v11, v12, v13, v14, v15, v16, v17, v18, C11, BG, c3, hz]
  rfl

theorem con6 : Con Try.prog 6 [] (.sc (.bool true)) [] := by
  obtain ⟨z, hzd⟩ : ∃ z : Nat → List Int, z = fun n => List.replicate n 0 := ⟨_, rfl⟩
  have hz : ∀ n, (z n).length = n := fun n => by rw [hzd]; simp
  have c26 : ∀ n : Nat, n ≤ 10000 → Con Try.prog 26 [.sc (.int .i64 n)] (.rf 0 0 n 1) [⟨ints .i64 (z n), 3, 1, false⟩] := fun n h => by rw [hzd]; exact con26 n h
  have hbad := BG_bad hz
  have h8 : Right [8, 8, 8, 8] (1 : Nat) (z 4096) := right8 (hz _) fun x hx => by rw [hzd] at hx; exact List.eq_of_mem_replicate hx
  have hz4 := hz 4096
  have p8 : points [8, 8, 8, 8] = 4096 := by decide +kernel
  have g8 : gr [8, 8, 8, 8] (1 : Nat) (z 4096) = .ag [.sl 4 (ints .i64 [8, 8, 8, 8]), .sc (.int .i64 1), .sl 4096 (ints .i64 (z 4096))] := by show D.ag [_, _, .sl (z 4096).length _] = _; rw [hz4]; rfl
  have c21p := con21d _ _ _ [0, 0] h8 (by decide) pk00 (by rw [p8]; decide)
  have c21q := con21c _ _ _ [0, 1] h8 (by decide) (fun h => by have := h 1 (by decide); simp at this)
  have c25p := con25t h8
  rw [g8] at c21p c21q c25p
  have c21r : Con Try.prog 21 [gr [2, 3] (2 : Nat) [0, 1, 2, 3, 4, 5, 6, 7, 8, 9, 10, 11], .sl 4 (ints .i64 [1, 1, 0, 1])] (.tp [.ag [.sl 2 (ints .i64 [2, 3]), .sc (.int .i64 4), .sl 24 (ints .i64 P24)], .sc (.int .i64 0)]) [] := by
    have := con21 _ _ _ [1, 1, 0, 1] right23 (by decide) pk1101 (by decide +kernel)
    rw [show (.tp [.ag [.sl 2 (ints .i64 [2, 3]), .sc (.int .i64 4), .sl 24 (ints .i64 P24)], .sc (.int .i64 0)] : D) = .tp [gr [2, 3] (4 : Nat) P24, .sc (.int .i64 0)] by rw [gr, P24_length]; rfl]
    exact this
  refine Con.of_body [] Try.func6 rfl ca6 272 rfl (by simp) rfl ?_; refine T_of_R ?_
  refine go ?_
  refine call (con10) ?_
  refine gon ?_
  refine cnd (fun h => ?_) (fun h => ?_)
  · cases h
  · refine go ?_
    refine callo (c26 1 (by decide)) ?_
    refine go ?_
    refine callo (c26 10 (by decide)) ?_
    refine go ?_
    refine callo (c26 32 (by decide)) ?_
    refine go ?_
    refine callo (c26 10 (by decide)) ?_
    refine go ?_
    refine callo (c26 3 (by decide)) ?_
    refine go ?_
    refine callo (c26 2915 (by decide)) ?_
    refine go ?_
    refine callo (c26 4374 (by decide)) ?_
    refine go ?_
    refine R_less (ids := [0, 1, 2, 3, 4, 5, 6, 7, 8, 9, 10, 11, 12, 13, 14, 15, 16, 17, 18, 19]) (st' := ⟨tl [(1, .fn (.func 26) [] []), (80, .rf 19 0 11 3), (81, .sc (.int .i64 11)), (82, .sc (.int .i64 0))], ol [(0, ⟨ints .i64 [1], 3, 1, false⟩), (1, ⟨ints .i64 (z 1), 3, 1, false⟩), (2, ⟨ints .i64 [10], 3, 1, false⟩), (3, ⟨ints .i64 (z 10), 3, 1, false⟩), (4, ⟨ints .i64 [2, 2, 2, 2, 2], 3, 1, false⟩), (5, ⟨ints .i64 (z 32), 3, 1, false⟩), (6, ⟨ints .i64 [2], 3, 1, false⟩), (7, ⟨ints .i64 [2], 3, 1, false⟩), (8, ⟨ints .i64 (z 10), 3, 1, false⟩), (9, ⟨ints .i64 [2], 3, 1, false⟩), (10, ⟨ints .i64 [0, 65536], 3, 1, false⟩), (11, ⟨ints .i64 [2], 3, 1, false⟩), (12, ⟨ints .i64 [0, -1], 3, 1, false⟩), (13, ⟨ints .i64 [2], 3, 1, false⟩), (14, ⟨ints .i64 (z 3), 3, 1, false⟩), (15, ⟨ints .i64 [9, 9, 9], 3, 1, false⟩), (16, ⟨ints .i64 (z 2915), 3, 1, false⟩), (17, ⟨ints .i64 [9, 9, 9, 6], 3, 1, false⟩), (18, ⟨ints .i64 (z 4374), 3, 1, false⟩), (19, ⟨[.em, .sc (.int .i64 0), .em, .rf 0 0 1 1, .sc (.int .i64 1), .rf 1 0 1 1, .rf 2 0 1 1, .sc (.int .i64 1), .rf 3 0 10 1, .rf 4 0 5 1, .sc (.int .i64 1), .rf 5 0 32 1, .rf 6 0 1 1, .sc (.int .i64 0), .em, .rf 7 0 1 1, .sc (.int .i64 5), .rf 8 0 10 1, .rf 9 0 1 1, .sc (.int .i64 1), .rf 10 0 2 1, .rf 11 0 1 1, .sc (.int .i64 1), .rf 12 0 2 1, .rf 13 0 1 1, .sc (.int .i64 1), .rf 14 0 3 1, .rf 15 0 3 1, .sc (.int .i64 4), .rf 16 0 2915 1, .rf 17 0 4 1, .sc (.int .i64 1), .rf 18 0 4374 1], 24, 3, false⟩)], 20, [], 272⟩) (Less.mk' (by simp (disch := (first | omega | (simp only [go_sem, ↓reduceIte, Nat.reduceEqDiff, Nat.reduceAdd, Nat.reduceMul, Nat.reduceSub, Nat.reduceLT, Nat.reduceLeDiff, Nat.reduceBNe, Nat.reduceBEq, Int.reduceToNat, Int.reduceAdd, Int.reduceSub, Int.reduceMul, Int.reduceLT, Int.reduceLE, Int.reduceNeg, Int.reduceBEq, Int.reduceBNe, Int.reduceEq, beq_self_eq_true, reduceCtorEq, decide_true, decide_false, if_pos, if_neg]; first | done | omega))) only [go_sem, ↓reduceIte, Nat.reduceEqDiff, Nat.reduceAdd, Nat.reduceMul, Nat.reduceSub, Nat.reduceLT, Nat.reduceLeDiff, Nat.reduceBNe, Nat.reduceBEq, Int.reduceToNat, Int.reduceAdd, Int.reduceSub, Int.reduceMul, Int.reduceLT, Int.reduceLE, Int.reduceNeg, Int.reduceBEq, Int.reduceBNe, Int.reduceEq, beq_self_eq_true, reduceCtorEq, decide_true, decide_false, if_pos, if_neg]) ⟨by simp (disch := (first | omega | (simp only [go_sem, ↓reduceIte, Nat.reduceEqDiff, Nat.reduceAdd, Nat.reduceMul, Nat.reduceSub, Nat.reduceLT, Nat.reduceLeDiff, Nat.reduceBNe, Nat.reduceBEq, Int.reduceToNat, Int.reduceAdd, Int.reduceSub, Int.reduceMul, Int.reduceLT, Int.reduceLE, Int.reduceNeg, Int.reduceBEq, Int.reduceBNe, Int.reduceEq, beq_self_eq_true, reduceCtorEq, decide_true, decide_false, if_pos, if_neg]; first | done | omega))) only [go_sem, ↓reduceIte, Nat.reduceEqDiff, Nat.reduceAdd, Nat.reduceMul, Nat.reduceSub, Nat.reduceLT, Nat.reduceLeDiff, Nat.reduceBNe, Nat.reduceBEq, Int.reduceToNat, Int.reduceAdd, Int.reduceSub, Int.reduceMul, Int.reduceLT, Int.reduceLE, Int.reduceNeg, Int.reduceBEq, Int.reduceBNe, Int.reduceEq, beq_self_eq_true, reduceCtorEq, decide_true, decide_false, if_pos, if_neg] <;> rfl, by simp (disch := (first | omega | (simp only [go_sem, ↓reduceIte, Nat.reduceEqDiff, Nat.reduceAdd, Nat.reduceMul, Nat.reduceSub, Nat.reduceLT, Nat.reduceLeDiff, Nat.reduceBNe, Nat.reduceBEq, Int.reduceToNat, Int.reduceAdd, Int.reduceSub, Int.reduceMul, Int.reduceLT, Int.reduceLE, Int.reduceNeg, Int.reduceBEq, Int.reduceBNe, Int.reduceEq, beq_self_eq_true, reduceCtorEq, decide_true, decide_false, if_pos, if_neg]; first | done | omega))) only [go_sem, ↓reduceIte, Nat.reduceEqDiff, Nat.reduceAdd, Nat.reduceMul, Nat.reduceSub, Nat.reduceLT, Nat.reduceLeDiff, Nat.reduceBNe, Nat.reduceBEq, Int.reduceToNat, Int.reduceAdd, Int.reduceSub, Int.reduceMul, Int.reduceLT, Int.reduceLE, Int.reduceNeg, Int.reduceBEq, Int.reduceBNe, Int.reduceEq, beq_self_eq_true, reduceCtorEq, decide_true, decide_false, if_pos, if_neg] <;> rfl, by simp (disch := (first | omega | (simp only [go_sem, ↓reduceIte, Nat.reduceEqDiff, Nat.reduceAdd, Nat.reduceMul, Nat.reduceSub, Nat.reduceLT, Nat.reduceLeDiff, Nat.reduceBNe, Nat.reduceBEq, Int.reduceToNat, Int.reduceAdd, Int.reduceSub, Int.reduceMul, Int.reduceLT, Int.reduceLE, Int.reduceNeg, Int.reduceBEq, Int.reduceBNe, Int.reduceEq, beq_self_eq_true, reduceCtorEq, decide_true, decide_false, if_pos, if_neg]; first | done | omega))) only [go_sem, ↓reduceIte, Nat.reduceEqDiff, Nat.reduceAdd, Nat.reduceMul, Nat.reduceSub, Nat.reduceLT, Nat.reduceLeDiff, Nat.reduceBNe, Nat.reduceBEq, Int.reduceToNat, Int.reduceAdd, Int.reduceSub, Int.reduceMul, Int.reduceLT, Int.reduceLE, Int.reduceNeg, Int.reduceBEq, Int.reduceBNe, Int.reduceEq, beq_self_eq_true, reduceCtorEq, decide_true, decide_false, if_pos, if_neg] <;> rfl, by simp (disch := (first | omega | (simp only [go_sem, ↓reduceIte, Nat.reduceEqDiff, Nat.reduceAdd, Nat.reduceMul, Nat.reduceSub, Nat.reduceLT, Nat.reduceLeDiff, Nat.reduceBNe, Nat.reduceBEq, Int.reduceToNat, Int.reduceAdd, Int.reduceSub, Int.reduceMul, Int.reduceLT, Int.reduceLE, Int.reduceNeg, Int.reduceBEq, Int.reduceBNe, Int.reduceEq, beq_self_eq_true, reduceCtorEq, decide_true, decide_false, if_pos, if_neg]; first | done | omega))) only [go_sem, ↓reduceIte, Nat.reduceEqDiff, Nat.reduceAdd, Nat.reduceMul, Nat.reduceSub, Nat.reduceLT, Nat.reduceLeDiff, Nat.reduceBNe, Nat.reduceBEq, Int.reduceToNat, Int.reduceAdd, Int.reduceSub, Int.reduceMul, Int.reduceLT, Int.reduceLE, Int.reduceNeg, Int.reduceBEq, Int.reduceBNe, Int.reduceEq, beq_self_eq_true, reduceCtorEq, decide_true, decide_false, if_pos, if_neg] <;> rfl, by simp (disch := (first | omega | (simp only [go_sem, ↓reduceIte, Nat.reduceEqDiff, Nat.reduceAdd, Nat.reduceMul, Nat.reduceSub, Nat.reduceLT, Nat.reduceLeDiff, Nat.reduceBNe, Nat.reduceBEq, Int.reduceToNat, Int.reduceAdd, Int.reduceSub, Int.reduceMul, Int.reduceLT, Int.reduceLE, Int.reduceNeg, Int.reduceBEq, Int.reduceBNe, Int.reduceEq, beq_self_eq_true, reduceCtorEq, decide_true, decide_false, if_pos, if_neg]; first | done | omega))) only [go_sem, ↓reduceIte, Nat.reduceEqDiff, Nat.reduceAdd, Nat.reduceMul, Nat.reduceSub, Nat.reduceLT, Nat.reduceLeDiff, Nat.reduceBNe, Nat.reduceBEq, Int.reduceToNat, Int.reduceAdd, Int.reduceSub, Int.reduceMul, Int.reduceLT, Int.reduceLE, Int.reduceNeg, Int.reduceBEq, Int.reduceBNe, Int.reduceEq, beq_self_eq_true, reduceCtorEq, decide_true, decide_false, if_pos, if_neg] <;> rfl, by simp (disch := (first | omega | (simp only [go_sem, ↓reduceIte, Nat.reduceEqDiff, Nat.reduceAdd, Nat.reduceMul, Nat.reduceSub, Nat.reduceLT, Nat.reduceLeDiff, Nat.reduceBNe, Nat.reduceBEq, Int.reduceToNat, Int.reduceAdd, Int.reduceSub, Int.reduceMul, Int.reduceLT, Int.reduceLE, Int.reduceNeg, Int.reduceBEq, Int.reduceBNe, Int.reduceEq, beq_self_eq_true, reduceCtorEq, decide_true, decide_false, if_pos, if_neg]; first | done | omega))) only [go_sem, ↓reduceIte, Nat.reduceEqDiff, Nat.reduceAdd, Nat.reduceMul, Nat.reduceSub, Nat.reduceLT, Nat.reduceLeDiff, Nat.reduceBNe, Nat.reduceBEq, Int.reduceToNat, Int.reduceAdd, Int.reduceSub, Int.reduceMul, Int.reduceLT, Int.reduceLE, Int.reduceNeg, Int.reduceBEq, Int.reduceBNe, Int.reduceEq, beq_self_eq_true, reduceCtorEq, decide_true, decide_false, if_pos, if_neg] <;> rfl, by simp (disch := (first | omega | (simp only [go_sem, ↓reduceIte, Nat.reduceEqDiff, Nat.reduceAdd, Nat.reduceMul, Nat.reduceSub, Nat.reduceLT, Nat.reduceLeDiff, Nat.reduceBNe, Nat.reduceBEq, Int.reduceToNat, Int.reduceAdd, Int.reduceSub, Int.reduceMul, Int.reduceLT, Int.reduceLE, Int.reduceNeg, Int.reduceBEq, Int.reduceBNe, Int.reduceEq, beq_self_eq_true, reduceCtorEq, decide_true, decide_false, if_pos, if_neg]; first | done | omega))) only [go_sem, ↓reduceIte, Nat.reduceEqDiff, Nat.reduceAdd, Nat.reduceMul, Nat.reduceSub, Nat.reduceLT, Nat.reduceLeDiff, Nat.reduceBNe, Nat.reduceBEq, Int.reduceToNat, Int.reduceAdd, Int.reduceSub, Int.reduceMul, Int.reduceLT, Int.reduceLE, Int.reduceNeg, Int.reduceBEq, Int.reduceBNe, Int.reduceEq, beq_self_eq_true, reduceCtorEq, decide_true, decide_false, if_pos, if_neg] <;> rfl, by simp (disch := (first | omega | (simp only [go_sem, ↓reduceIte, Nat.reduceEqDiff, Nat.reduceAdd, Nat.reduceMul, Nat.reduceSub, Nat.reduceLT, Nat.reduceLeDiff, Nat.reduceBNe, Nat.reduceBEq, Int.reduceToNat, Int.reduceAdd, Int.reduceSub, Int.reduceMul, Int.reduceLT, Int.reduceLE, Int.reduceNeg, Int.reduceBEq, Int.reduceBNe, Int.reduceEq, beq_self_eq_true, reduceCtorEq, decide_true, decide_false, if_pos, if_neg]; first | done | omega))) only [go_sem, ↓reduceIte, Nat.reduceEqDiff, Nat.reduceAdd, Nat.reduceMul, Nat.reduceSub, Nat.reduceLT, Nat.reduceLeDiff, Nat.reduceBNe, Nat.reduceBEq, Int.reduceToNat, Int.reduceAdd, Int.reduceSub, Int.reduceMul, Int.reduceLT, Int.reduceLE, Int.reduceNeg, Int.reduceBEq, Int.reduceBNe, Int.reduceEq, beq_self_eq_true, reduceCtorEq, decide_true, decide_false, if_pos, if_neg] <;> rfl, by simp (disch := (first | omega | (simp only [go_sem, ↓reduceIte, Nat.reduceEqDiff, Nat.reduceAdd, Nat.reduceMul, Nat.reduceSub, Nat.reduceLT, Nat.reduceLeDiff, Nat.reduceBNe, Nat.reduceBEq, Int.reduceToNat, Int.reduceAdd, Int.reduceSub, Int.reduceMul, Int.reduceLT, Int.reduceLE, Int.reduceNeg, Int.reduceBEq, Int.reduceBNe, Int.reduceEq, beq_self_eq_true, reduceCtorEq, decide_true, decide_false, if_pos, if_neg]; first | done | omega))) only [go_sem, ↓reduceIte, Nat.reduceEqDiff, Nat.reduceAdd, Nat.reduceMul, Nat.reduceSub, Nat.reduceLT, Nat.reduceLeDiff, Nat.reduceBNe, Nat.reduceBEq, Int.reduceToNat, Int.reduceAdd, Int.reduceSub, Int.reduceMul, Int.reduceLT, Int.reduceLE, Int.reduceNeg, Int.reduceBEq, Int.reduceBNe, Int.reduceEq, beq_self_eq_true, reduceCtorEq, decide_true, decide_false, if_pos, if_neg] <;> rfl, by simp (disch := (first | omega | (simp only [go_sem, ↓reduceIte, Nat.reduceEqDiff, Nat.reduceAdd, Nat.reduceMul, Nat.reduceSub, Nat.reduceLT, Nat.reduceLeDiff, Nat.reduceBNe, Nat.reduceBEq, Int.reduceToNat, Int.reduceAdd, Int.reduceSub, Int.reduceMul, Int.reduceLT, Int.reduceLE, Int.reduceNeg, Int.reduceBEq, Int.reduceBNe, Int.reduceEq, beq_self_eq_true, reduceCtorEq, decide_true, decide_false, if_pos, if_neg]; first | done | omega))) only [go_sem, ↓reduceIte, Nat.reduceEqDiff, Nat.reduceAdd, Nat.reduceMul, Nat.reduceSub, Nat.reduceLT, Nat.reduceLeDiff, Nat.reduceBNe, Nat.reduceBEq, Int.reduceToNat, Int.reduceAdd, Int.reduceSub, Int.reduceMul, Int.reduceLT, Int.reduceLE, Int.reduceNeg, Int.reduceBEq, Int.reduceBNe, Int.reduceEq, beq_self_eq_true, reduceCtorEq, decide_true, decide_false, if_pos, if_neg] <;> rfl, by simp (disch := (first | omega | (simp only [go_sem, ↓reduceIte, Nat.reduceEqDiff, Nat.reduceAdd, Nat.reduceMul, Nat.reduceSub, Nat.reduceLT, Nat.reduceLeDiff, Nat.reduceBNe, Nat.reduceBEq, Int.reduceToNat, Int.reduceAdd, Int.reduceSub, Int.reduceMul, Int.reduceLT, Int.reduceLE, Int.reduceNeg, Int.reduceBEq, Int.reduceBNe, Int.reduceEq, beq_self_eq_true, reduceCtorEq, decide_true, decide_false, if_pos, if_neg]; first | done | omega))) only [go_sem, ↓reduceIte, Nat.reduceEqDiff, Nat.reduceAdd, Nat.reduceMul, Nat.reduceSub, Nat.reduceLT, Nat.reduceLeDiff, Nat.reduceBNe, Nat.reduceBEq, Int.reduceToNat, Int.reduceAdd, Int.reduceSub, Int.reduceMul, Int.reduceLT, Int.reduceLE, Int.reduceNeg, Int.reduceBEq, Int.reduceBNe, Int.reduceEq, beq_self_eq_true, reduceCtorEq, decide_true, decide_false, if_pos, if_neg] <;> rfl, by simp (disch := (first | omega | (simp only [go_sem, ↓reduceIte, Nat.reduceEqDiff, Nat.reduceAdd, Nat.reduceMul, Nat.reduceSub, Nat.reduceLT, Nat.reduceLeDiff, Nat.reduceBNe, Nat.reduceBEq, Int.reduceToNat, Int.reduceAdd, Int.reduceSub, Int.reduceMul, Int.reduceLT, Int.reduceLE, Int.reduceNeg, Int.reduceBEq, Int.reduceBNe, Int.reduceEq, beq_self_eq_true, reduceCtorEq, decide_true, decide_false, if_pos, if_neg]; first | done | omega))) only [go_sem, ↓reduceIte, Nat.reduceEqDiff, Nat.reduceAdd, Nat.reduceMul, Nat.reduceSub, Nat.reduceLT, Nat.reduceLeDiff, Nat.reduceBNe, Nat.reduceBEq, Int.reduceToNat, Int.reduceAdd, Int.reduceSub, Int.reduceMul, Int.reduceLT, Int.reduceLE, Int.reduceNeg, Int.reduceBEq, Int.reduceBNe, Int.reduceEq, beq_self_eq_true, reduceCtorEq, decide_true, decide_false, if_pos, if_neg] <;> rfl, by simp (disch := (first | omega | (simp only [go_sem, ↓reduceIte, Nat.reduceEqDiff, Nat.reduceAdd, Nat.reduceMul, Nat.reduceSub, Nat.reduceLT, Nat.reduceLeDiff, Nat.reduceBNe, Nat.reduceBEq, Int.reduceToNat, Int.reduceAdd, Int.reduceSub, Int.reduceMul, Int.reduceLT, Int.reduceLE, Int.reduceNeg, Int.reduceBEq, Int.reduceBNe, Int.reduceEq, beq_self_eq_true, reduceCtorEq, decide_true, decide_false, if_pos, if_neg]; first | done | omega))) only [go_sem, ↓reduceIte, Nat.reduceEqDiff, Nat.reduceAdd, Nat.reduceMul, Nat.reduceSub, Nat.reduceLT, Nat.reduceLeDiff, Nat.reduceBNe, Nat.reduceBEq, Int.reduceToNat, Int.reduceAdd, Int.reduceSub, Int.reduceMul, Int.reduceLT, Int.reduceLE, Int.reduceNeg, Int.reduceBEq, Int.reduceBNe, Int.reduceEq, beq_self_eq_true, reduceCtorEq, decide_true, decide_false, if_pos, if_neg] <;> rfl, by simp (disch := (first | omega | (simp only [go_sem, ↓reduceIte, Nat.reduceEqDiff, Nat.reduceAdd, Nat.reduceMul, Nat.reduceSub, Nat.reduceLT, Nat.reduceLeDiff, Nat.reduceBNe, Nat.reduceBEq, Int.reduceToNat, Int.reduceAdd, Int.reduceSub, Int.reduceMul, Int.reduceLT, Int.reduceLE, Int.reduceNeg, Int.reduceBEq, Int.reduceBNe, Int.reduceEq, beq_self_eq_true, reduceCtorEq, decide_true, decide_false, if_pos, if_neg]; first | done | omega))) only [go_sem, ↓reduceIte, Nat.reduceEqDiff, Nat.reduceAdd, Nat.reduceMul, Nat.reduceSub, Nat.reduceLT, Nat.reduceLeDiff, Nat.reduceBNe, Nat.reduceBEq, Int.reduceToNat, Int.reduceAdd, Int.reduceSub, Int.reduceMul, Int.reduceLT, Int.reduceLE, Int.reduceNeg, Int.reduceBEq, Int.reduceBNe, Int.reduceEq, beq_self_eq_true, reduceCtorEq, decide_true, decide_false, if_pos, if_neg] <;> rfl, by simp (disch := (first | omega | (simp only [go_sem, ↓reduceIte, Nat.reduceEqDiff, Nat.reduceAdd, Nat.reduceMul, Nat.reduceSub, Nat.reduceLT, Nat.reduceLeDiff, Nat.reduceBNe, Nat.reduceBEq, Int.reduceToNat, Int.reduceAdd, Int.reduceSub, Int.reduceMul, Int.reduceLT, Int.reduceLE, Int.reduceNeg, Int.reduceBEq, Int.reduceBNe, Int.reduceEq, beq_self_eq_true, reduceCtorEq, decide_true, decide_false, if_pos, if_neg]; first | done | omega))) only [go_sem, ↓reduceIte, Nat.reduceEqDiff, Nat.reduceAdd, Nat.reduceMul, Nat.reduceSub, Nat.reduceLT, Nat.reduceLeDiff, Nat.reduceBNe, Nat.reduceBEq, Int.reduceToNat, Int.reduceAdd, Int.reduceSub, Int.reduceMul, Int.reduceLT, Int.reduceLE, Int.reduceNeg, Int.reduceBEq, Int.reduceBNe, Int.reduceEq, beq_self_eq_true, reduceCtorEq, decide_true, decide_false, if_pos, if_neg] <;> rfl, by simp (disch := (first | omega | (simp only [go_sem, ↓reduceIte, Nat.reduceEqDiff, Nat.reduceAdd, Nat.reduceMul, Nat.reduceSub, Nat.reduceLT, Nat.reduceLeDiff, Nat.reduceBNe, Nat.reduceBEq, Int.reduceToNat, Int.reduceAdd, Int.reduceSub, Int.reduceMul, Int.reduceLT, Int.reduceLE, Int.reduceNeg, Int.reduceBEq, Int.reduceBNe, Int.reduceEq, beq_self_eq_true, reduceCtorEq, decide_true, decide_false, if_pos, if_neg]; first | done | omega))) only [go_sem, ↓reduceIte, Nat.reduceEqDiff, Nat.reduceAdd, Nat.reduceMul, Nat.reduceSub, Nat.reduceLT, Nat.reduceLeDiff, Nat.reduceBNe, Nat.reduceBEq, Int.reduceToNat, Int.reduceAdd, Int.reduceSub, Int.reduceMul, Int.reduceLT, Int.reduceLE, Int.reduceNeg, Int.reduceBEq, Int.reduceBNe, Int.reduceEq, beq_self_eq_true, reduceCtorEq, decide_true, decide_false, if_pos, if_neg] <;> rfl, by simp (disch := (first | omega | (simp only [go_sem, ↓reduceIte, Nat.reduceEqDiff, Nat.reduceAdd, Nat.reduceMul, Nat.reduceSub, Nat.reduceLT, Nat.reduceLeDiff, Nat.reduceBNe, Nat.reduceBEq, Int.reduceToNat, Int.reduceAdd, Int.reduceSub, Int.reduceMul, Int.reduceLT, Int.reduceLE, Int.reduceNeg, Int.reduceBEq, Int.reduceBNe, Int.reduceEq, beq_self_eq_true, reduceCtorEq, decide_true, decide_false, if_pos, if_neg]; first | done | omega))) only [go_sem, ↓reduceIte, Nat.reduceEqDiff, Nat.reduceAdd, Nat.reduceMul, Nat.reduceSub, Nat.reduceLT, Nat.reduceLeDiff, Nat.reduceBNe, Nat.reduceBEq, Int.reduceToNat, Int.reduceAdd, Int.reduceSub, Int.reduceMul, Int.reduceLT, Int.reduceLE, Int.reduceNeg, Int.reduceBEq, Int.reduceBNe, Int.reduceEq, beq_self_eq_true, reduceCtorEq, decide_true, decide_false, if_pos, if_neg] <;> rfl, by simp (disch := (first | omega | (simp only [go_sem, ↓reduceIte, Nat.reduceEqDiff, Nat.reduceAdd, Nat.reduceMul, Nat.reduceSub, Nat.reduceLT, Nat.reduceLeDiff, Nat.reduceBNe, Nat.reduceBEq, Int.reduceToNat, Int.reduceAdd, Int.reduceSub, Int.reduceMul, Int.reduceLT, Int.reduceLE, Int.reduceNeg, Int.reduceBEq, Int.reduceBNe, Int.reduceEq, beq_self_eq_true, reduceCtorEq, decide_true, decide_false, if_pos, if_neg]; first | done | omega))) only [go_sem, ↓reduceIte, Nat.reduceEqDiff, Nat.reduceAdd, Nat.reduceMul, Nat.reduceSub, Nat.reduceLT, Nat.reduceLeDiff, Nat.reduceBNe, Nat.reduceBEq, Int.reduceToNat, Int.reduceAdd, Int.reduceSub, Int.reduceMul, Int.reduceLT, Int.reduceLE, Int.reduceNeg, Int.reduceBEq, Int.reduceBNe, Int.reduceEq, beq_self_eq_true, reduceCtorEq, decide_true, decide_false, if_pos, if_neg] <;> rfl, by simp (disch := (first | omega | (simp only [go_sem, ↓reduceIte, Nat.reduceEqDiff, Nat.reduceAdd, Nat.reduceMul, Nat.reduceSub, Nat.reduceLT, Nat.reduceLeDiff, Nat.reduceBNe, Nat.reduceBEq, Int.reduceToNat, Int.reduceAdd, Int.reduceSub, Int.reduceMul, Int.reduceLT, Int.reduceLE, Int.reduceNeg, Int.reduceBEq, Int.reduceBNe, Int.reduceEq, beq_self_eq_true, reduceCtorEq, decide_true, decide_false, if_pos, if_neg]; first | done | omega))) only [go_sem, ↓reduceIte, Nat.reduceEqDiff, Nat.reduceAdd, Nat.reduceMul, Nat.reduceSub, Nat.reduceLT, Nat.reduceLeDiff, Nat.reduceBNe, Nat.reduceBEq, Int.reduceToNat, Int.reduceAdd, Int.reduceSub, Int.reduceMul, Int.reduceLT, Int.reduceLE, Int.reduceNeg, Int.reduceBEq, Int.reduceBNe, Int.reduceEq, beq_self_eq_true, reduceCtorEq, decide_true, decide_false, if_pos, if_neg] <;> rfl, by simp (disch := (first | omega | (simp only [go_sem, ↓reduceIte, Nat.reduceEqDiff, Nat.reduceAdd, Nat.reduceMul, Nat.reduceSub, Nat.reduceLT, Nat.reduceLeDiff, Nat.reduceBNe, Nat.reduceBEq, Int.reduceToNat, Int.reduceAdd, Int.reduceSub, Int.reduceMul, Int.reduceLT, Int.reduceLE, Int.reduceNeg, Int.reduceBEq, Int.reduceBNe, Int.reduceEq, beq_self_eq_true, reduceCtorEq, decide_true, decide_false, if_pos, if_neg]; first | done | omega))) only [go_sem, ↓reduceIte, Nat.reduceEqDiff, Nat.reduceAdd, Nat.reduceMul, Nat.reduceSub, Nat.reduceLT, Nat.reduceLeDiff, Nat.reduceBNe, Nat.reduceBEq, Int.reduceToNat, Int.reduceAdd, Int.reduceSub, Int.reduceMul, Int.reduceLT, Int.reduceLE, Int.reduceNeg, Int.reduceBEq, Int.reduceBNe, Int.reduceEq, beq_self_eq_true, reduceCtorEq, decide_true, decide_false, if_pos, if_neg], trivial⟩ (by decide) (by decide)) ?_ (by simp)
    refine R_frz [0, 1, 2, 3, 4, 5, 6, 7, 8, 9, 10, 11, 12, 13, 14, 15, 16, 17, 18, 19] rfl ?_
    refine R_seen [0, 1, 2, 3, 4, 5, 6, 7, 8, 9, 10, 11, 12, 13, 14, 15, 16, 17, 18, 19] [(1, .fn (.func 26) [] []), (80, .sl 11 (C11 (BG z))), (81, .sc (.int .i64 11)), (82, .sc (.int .i64 0))] (frz_cons (fun o h => by cases h; rfl) (frz_cons (fun o h => by cases h; rfl) (frz_cons (fun o h => by cases h; rfl) (frz_cons (fun o h => by cases h; rfl) (frz_cons (fun o h => by cases h; rfl) (frz_cons (fun o h => by cases h; rfl) (frz_cons (fun o h => by cases h; rfl) (frz_cons (fun o h => by cases h; rfl) (frz_cons (fun o h => by cases h; rfl) (frz_cons (fun o h => by cases h; rfl) (frz_cons (fun o h => by cases h; rfl) (frz_cons (fun o h => by cases h; rfl) (frz_cons (fun o h => by cases h; rfl) (frz_cons (fun o h => by cases h; rfl) (frz_cons (fun o h => by cases h; rfl) (frz_cons (fun o h => by cases h; rfl) (frz_cons (fun o h => by cases h; rfl) (frz_cons (fun o h => by cases h; rfl) (frz_cons (fun o h => by cases h; rfl) (frz_cons (fun o h => by cases h; rfl) (frz_nil _))))))))))))))))))))) ⟨.inl (by simp (disch := (first | omega | (simp only [go_sem, ↓reduceIte, Nat.reduceEqDiff, Nat.reduceAdd, Nat.reduceMul, Nat.reduceSub, Nat.reduceLT, Nat.reduceLeDiff, Nat.reduceBNe, Nat.reduceBEq, Int.reduceToNat, Int.reduceAdd, Int.reduceSub, Int.reduceMul, Int.reduceLT, Int.reduceLE, Int.reduceNeg, Int.reduceBEq, Int.reduceBNe, Int.reduceEq, beq_self_eq_true, reduceCtorEq, decide_true, decide_false, if_pos, if_neg]; first | done | omega))) only [go_sem, ↓reduceIte, Nat.reduceEqDiff, Nat.reduceAdd, Nat.reduceMul, Nat.reduceSub, Nat.reduceLT, Nat.reduceLeDiff, Nat.reduceBNe, Nat.reduceBEq, Int.reduceToNat, Int.reduceAdd, Int.reduceSub, Int.reduceMul, Int.reduceLT, Int.reduceLE, Int.reduceNeg, Int.reduceBEq, Int.reduceBNe, Int.reduceEq, beq_self_eq_true, reduceCtorEq, decide_true, decide_false, if_pos, if_neg] <;> rfl), .inr (seen11 hz (by decide) rfl rfl rfl rfl rfl rfl rfl rfl rfl rfl rfl rfl rfl rfl rfl rfl rfl rfl rfl rfl), .inl (by simp (disch := (first | omega | (simp only [go_sem, ↓reduceIte, Nat.reduceEqDiff, Nat.reduceAdd, Nat.reduceMul, Nat.reduceSub, Nat.reduceLT, Nat.reduceLeDiff, Nat.reduceBNe, Nat.reduceBEq, Int.reduceToNat, Int.reduceAdd, Int.reduceSub, Int.reduceMul, Int.reduceLT, Int.reduceLE, Int.reduceNeg, Int.reduceBEq, Int.reduceBNe, Int.reduceEq, beq_self_eq_true, reduceCtorEq, decide_true, decide_false, if_pos, if_neg]; first | done | omega))) only [go_sem, ↓reduceIte, Nat.reduceEqDiff, Nat.reduceAdd, Nat.reduceMul, Nat.reduceSub, Nat.reduceLT, Nat.reduceLeDiff, Nat.reduceBNe, Nat.reduceBEq, Int.reduceToNat, Int.reduceAdd, Int.reduceSub, Int.reduceMul, Int.reduceLT, Int.reduceLE, Int.reduceNeg, Int.reduceBEq, Int.reduceBNe, Int.reduceEq, beq_self_eq_true, reduceCtorEq, decide_true, decide_false, if_pos, if_neg] <;> rfl), .inl (by simp (disch := (first | omega | (simp only [go_sem, ↓reduceIte, Nat.reduceEqDiff, Nat.reduceAdd, Nat.reduceMul, Nat.reduceSub, Nat.reduceLT, Nat.reduceLeDiff, Nat.reduceBNe, Nat.reduceBEq, Int.reduceToNat, Int.reduceAdd, Int.reduceSub, Int.reduceMul, Int.reduceLT, Int.reduceLE, Int.reduceNeg, Int.reduceBEq, Int.reduceBNe, Int.reduceEq, beq_self_eq_true, reduceCtorEq, decide_true, decide_false, if_pos, if_neg]; first | done | omega))) only [go_sem, ↓reduceIte, Nat.reduceEqDiff, Nat.reduceAdd, Nat.reduceMul, Nat.reduceSub, Nat.reduceLT, Nat.reduceLeDiff, Nat.reduceBNe, Nat.reduceBEq, Int.reduceToNat, Int.reduceAdd, Int.reduceSub, Int.reduceMul, Int.reduceLT, Int.reduceLE, Int.reduceNeg, Int.reduceBEq, Int.reduceBNe, Int.reduceEq, beq_self_eq_true, reduceCtorEq, decide_true, decide_false, if_pos, if_neg] <;> rfl), trivial⟩ ?_
    refine R_loop (fun i : Nat => ⟨tl [(1, .fn (.func 26) [] []), (80, .sl 11 (C11 (BG z))), (81, .sc (.int .i64 11)), (82, .sc (.int .i64 i))], ol [], 0, [], 272⟩) (fun i => i ≤ 11) (fun i => 11 - i) 0 [] (Less.mk' (by simp (disch := (first | omega | (simp only [go_sem, ↓reduceIte, Nat.reduceEqDiff, Nat.reduceAdd, Nat.reduceMul, Nat.reduceSub, Nat.reduceLT, Nat.reduceLeDiff, Nat.reduceBNe, Nat.reduceBEq, Int.reduceToNat, Int.reduceAdd, Int.reduceSub, Int.reduceMul, Int.reduceLT, Int.reduceLE, Int.reduceNeg, Int.reduceBEq, Int.reduceBNe, Int.reduceEq, beq_self_eq_true, reduceCtorEq, decide_true, decide_false, if_pos, if_neg]; first | done | omega))) only [go_sem, ↓reduceIte, Nat.reduceEqDiff, Nat.reduceAdd, Nat.reduceMul, Nat.reduceSub, Nat.reduceLT, Nat.reduceLeDiff, Nat.reduceBNe, Nat.reduceBEq, Int.reduceToNat, Int.reduceAdd, Int.reduceSub, Int.reduceMul, Int.reduceLT, Int.reduceLE, Int.reduceNeg, Int.reduceBEq, Int.reduceBNe, Int.reduceEq, beq_self_eq_true, reduceCtorEq, decide_true, decide_false, if_pos, if_neg]) (by simp (disch := (first | omega | (simp only [go_sem, ↓reduceIte, Nat.reduceEqDiff, Nat.reduceAdd, Nat.reduceMul, Nat.reduceSub, Nat.reduceLT, Nat.reduceLeDiff, Nat.reduceBNe, Nat.reduceBEq, Int.reduceToNat, Int.reduceAdd, Int.reduceSub, Int.reduceMul, Int.reduceLT, Int.reduceLE, Int.reduceNeg, Int.reduceBEq, Int.reduceBNe, Int.reduceEq, beq_self_eq_true, reduceCtorEq, decide_true, decide_false, if_pos, if_neg]; first | done | omega))) only [go_sem, ↓reduceIte, Nat.reduceEqDiff, Nat.reduceAdd, Nat.reduceMul, Nat.reduceSub, Nat.reduceLT, Nat.reduceLeDiff, Nat.reduceBNe, Nat.reduceBEq, Int.reduceToNat, Int.reduceAdd, Int.reduceSub, Int.reduceMul, Int.reduceLT, Int.reduceLE, Int.reduceNeg, Int.reduceBEq, Int.reduceBNe, Int.reduceEq, beq_self_eq_true, reduceCtorEq, decide_true, decide_false, if_pos, if_neg]) (by decide) (by decide)) (by omega) fun i hi => ?_
    refine go ?_
    refine cnd (fun h => ?_) (fun h => ?_)
    · simp only [decide_eq_true_eq, decide_eq_false_iff_not, Bool.or_eq_true, Bool.and_eq_true, Bool.or_eq_false_iff, Bool.and_eq_false_iff, Bool.not_eq_true', Bool.not_eq_false', bne_iff_ne, beq_iff_eq, ne_eq, bne_eq_false_iff_eq, beq_eq_false_iff_ne, ge_iff_le, gt_iff_lt, Int.not_le, Int.not_lt] at h
      have hb := hbad i (by omega)
      have hi' : i < 11 := by omega
      refine go ?_
      refine call (con13a _ _ _ [9] hb) ?_
      refine go ?_
      refine call (con15a _ _ _ [] hb) ?_
      refine go ?_
      refine call (con27a _ _ _ hb) ?_
      refine go ?_
      refine call (con18a _ _ _ 9 9 hb) ?_
      refine go ?_
      refine call (con21a _ _ _ [] hb) ?_
      refine go ?_
      refine call (con25f hb) ?_
      refine gon ?_
      refine cnd (fun h => ?_) (fun h => ?_)
      · cases h
      · refine go ?_
        refine R_nilR ⟨[], _, ?_, i + 1, by omega, by omega, rfl⟩; exact Less.mk' (by simp (disch := (first | omega | (simp only [go_sem, ↓reduceIte, Nat.reduceEqDiff, Nat.reduceAdd, Nat.reduceMul, Nat.reduceSub, Nat.reduceLT, Nat.reduceLeDiff, Nat.reduceBNe, Nat.reduceBEq, Int.reduceToNat, Int.reduceAdd, Int.reduceSub, Int.reduceMul, Int.reduceLT, Int.reduceLE, Int.reduceNeg, Int.reduceBEq, Int.reduceBNe, Int.reduceEq, beq_self_eq_true, reduceCtorEq, decide_true, decide_false, if_pos, if_neg]; first | done | omega))) only [go_sem, ↓reduceIte, Nat.reduceEqDiff, Nat.reduceAdd, Nat.reduceMul, Nat.reduceSub, Nat.reduceLT, Nat.reduceLeDiff, Nat.reduceBNe, Nat.reduceBEq, Int.reduceToNat, Int.reduceAdd, Int.reduceSub, Int.reduceMul, Int.reduceLT, Int.reduceLE, Int.reduceNeg, Int.reduceBEq, Int.reduceBNe, Int.reduceEq, beq_self_eq_true, reduceCtorEq, decide_true, decide_false, if_pos, if_neg]) (by simp (disch := (first | omega | (simp only [go_sem, ↓reduceIte, Nat.reduceEqDiff, Nat.reduceAdd, Nat.reduceMul, Nat.reduceSub, Nat.reduceLT, Nat.reduceLeDiff, Nat.reduceBNe, Nat.reduceBEq, Int.reduceToNat, Int.reduceAdd, Int.reduceSub, Int.reduceMul, Int.reduceLT, Int.reduceLE, Int.reduceNeg, Int.reduceBEq, Int.reduceBNe, Int.reduceEq, beq_self_eq_true, reduceCtorEq, decide_true, decide_false, if_pos, if_neg]; first | done | omega))) only [go_sem, ↓reduceIte, Nat.reduceEqDiff, Nat.reduceAdd, Nat.reduceMul, Nat.reduceSub, Nat.reduceLT, Nat.reduceLeDiff, Nat.reduceBNe, Nat.reduceBEq, Int.reduceToNat, Int.reduceAdd, Int.reduceSub, Int.reduceMul, Int.reduceLT, Int.reduceLE, Int.reduceNeg, Int.reduceBEq, Int.reduceBNe, Int.reduceEq, beq_self_eq_true, reduceCtorEq, decide_true, decide_false, if_pos, if_neg]) (by decide) (by decide)
    · refine go ?_
      refine callf (con28D) ?_
      refine go ?_
      refine call (con15b _ _ _ [0] right23 (fun h => by have := h.1; simp at this)) ?_
      refine go ?_
      refine call (con15b _ _ _ [0, 0, 0] right23 (fun h => by have := h.1; simp at this)) ?_
      refine go ?_
      refine call (con13b _ _ _ [0, -1] right23 (fun h => by have := h.2 1 (by decide); simp at this)) ?_
      refine go ?_
      refine call (con18b _ _ _ 0 2 right23 (by decide)) ?_
      refine go ?_
      refine call (con18b _ _ _ (-1) 0 right23 (by decide)) ?_
      refine go ?_
      refine call (con21c _ _ _ [2] right23 (by decide) (fun h => by have := h 0 (by decide); simp at this)) ?_
      refine go ?_
      refine call (con21b _ _ _ [] right23 (by decide)) ?_
      refine go ?_
      refine call (con21b _ _ _ [0, 0, 0, 0, 0] right23 (by decide)) ?_
      refine gos ?_
      refine R_less (ids := [0]) (st' := ⟨tl [(1, .fn (.func 26) [] []), (15, .pt 0 0), (17, .sc (.int .i64 2)), (19, .sc (.int .i64 2)), (21, .sc (.int .i64 2)), (23, .sc (.int .i64 2)), (25, .sc (.int .i64 2)), (27, .sc (.int .i64 2)), (29, .sc (.int .i64 2)), (31, .sc (.int .i64 2))], ol [(0, ⟨[.sl 2 (ints .i64 [2, 3]), .sc (.int .i64 2), .sl 12 (ints .i64 [0, 1, 2, 3, 4, 5, 6, 7, 8, 9, 10, 11])], 24, 0, false⟩)], 1, [], 272⟩) (Less.mk' (by simp (disch := (first | omega | (simp only [go_sem, ↓reduceIte, Nat.reduceEqDiff, Nat.reduceAdd, Nat.reduceMul, Nat.reduceSub, Nat.reduceLT, Nat.reduceLeDiff, Nat.reduceBNe, Nat.reduceBEq, Int.reduceToNat, Int.reduceAdd, Int.reduceSub, Int.reduceMul, Int.reduceLT, Int.reduceLE, Int.reduceNeg, Int.reduceBEq, Int.reduceBNe, Int.reduceEq, beq_self_eq_true, reduceCtorEq, decide_true, decide_false, if_pos, if_neg]; first | done | omega))) only [go_sem, ↓reduceIte, Nat.reduceEqDiff, Nat.reduceAdd, Nat.reduceMul, Nat.reduceSub, Nat.reduceLT, Nat.reduceLeDiff, Nat.reduceBNe, Nat.reduceBEq, Int.reduceToNat, Int.reduceAdd, Int.reduceSub, Int.reduceMul, Int.reduceLT, Int.reduceLE, Int.reduceNeg, Int.reduceBEq, Int.reduceBNe, Int.reduceEq, beq_self_eq_true, reduceCtorEq, decide_true, decide_false, if_pos, if_neg]) (by simp (disch := (first | omega | (simp only [go_sem, ↓reduceIte, Nat.reduceEqDiff, Nat.reduceAdd, Nat.reduceMul, Nat.reduceSub, Nat.reduceLT, Nat.reduceLeDiff, Nat.reduceBNe, Nat.reduceBEq, Int.reduceToNat, Int.reduceAdd, Int.reduceSub, Int.reduceMul, Int.reduceLT, Int.reduceLE, Int.reduceNeg, Int.reduceBEq, Int.reduceBNe, Int.reduceEq, beq_self_eq_true, reduceCtorEq, decide_true, decide_false, if_pos, if_neg]; first | done | omega))) only [go_sem, ↓reduceIte, Nat.reduceEqDiff, Nat.reduceAdd, Nat.reduceMul, Nat.reduceSub, Nat.reduceLT, Nat.reduceLeDiff, Nat.reduceBNe, Nat.reduceBEq, Int.reduceToNat, Int.reduceAdd, Int.reduceSub, Int.reduceMul, Int.reduceLT, Int.reduceLE, Int.reduceNeg, Int.reduceBEq, Int.reduceBNe, Int.reduceEq, beq_self_eq_true, reduceCtorEq, decide_true, decide_false, if_pos, if_neg]) (by decide) (by decide)) ?_ (by simp)
      refine go ?_
      refine callo (c26 4096 (by decide)) ?_
      refine go ?_
      refine call (c21p) ?_
      refine go ?_
      refine call (c21q) ?_
      refine gos ?_
      refine R_less (ids := [0, 1, 2, 3]) (st' := ⟨tl [(15, .pt 0 0), (17, .sc (.int .i64 2)), (19, .sc (.int .i64 2)), (21, .sc (.int .i64 2)), (23, .sc (.int .i64 2)), (25, .sc (.int .i64 2)), (27, .sc (.int .i64 2)), (29, .sc (.int .i64 2)), (31, .sc (.int .i64 2)), (32, .pt 3 0), (34, .sc (.int .i64 3)), (36, .sc (.int .i64 2))], ol [(0, ⟨[.sl 2 (ints .i64 [2, 3]), .sc (.int .i64 2), .sl 12 (ints .i64 [0, 1, 2, 3, 4, 5, 6, 7, 8, 9, 10, 11])], 24, 0, false⟩), (1, ⟨ints .i64 [8, 8, 8, 8], 3, 1, false⟩), (2, ⟨ints .i64 (z 4096), 3, 1, false⟩), (3, ⟨[.rf 1 0 4 1, .sc (.int .i64 1), .rf 2 0 4096 1], 24, 0, false⟩)], 4, [], 272⟩) (Less.mk' (by simp (disch := (first | omega | (simp only [go_sem, ↓reduceIte, Nat.reduceEqDiff, Nat.reduceAdd, Nat.reduceMul, Nat.reduceSub, Nat.reduceLT, Nat.reduceLeDiff, Nat.reduceBNe, Nat.reduceBEq, Int.reduceToNat, Int.reduceAdd, Int.reduceSub, Int.reduceMul, Int.reduceLT, Int.reduceLE, Int.reduceNeg, Int.reduceBEq, Int.reduceBNe, Int.reduceEq, beq_self_eq_true, reduceCtorEq, decide_true, decide_false, if_pos, if_neg]; first | done | omega))) only [go_sem, ↓reduceIte, Nat.reduceEqDiff, Nat.reduceAdd, Nat.reduceMul, Nat.reduceSub, Nat.reduceLT, Nat.reduceLeDiff, Nat.reduceBNe, Nat.reduceBEq, Int.reduceToNat, Int.reduceAdd, Int.reduceSub, Int.reduceMul, Int.reduceLT, Int.reduceLE, Int.reduceNeg, Int.reduceBEq, Int.reduceBNe, Int.reduceEq, beq_self_eq_true, reduceCtorEq, decide_true, decide_false, if_pos, if_neg]) ⟨by simp (disch := (first | omega | (simp only [go_sem, ↓reduceIte, Nat.reduceEqDiff, Nat.reduceAdd, Nat.reduceMul, Nat.reduceSub, Nat.reduceLT, Nat.reduceLeDiff, Nat.reduceBNe, Nat.reduceBEq, Int.reduceToNat, Int.reduceAdd, Int.reduceSub, Int.reduceMul, Int.reduceLT, Int.reduceLE, Int.reduceNeg, Int.reduceBEq, Int.reduceBNe, Int.reduceEq, beq_self_eq_true, reduceCtorEq, decide_true, decide_false, if_pos, if_neg]; first | done | omega))) only [go_sem, ↓reduceIte, Nat.reduceEqDiff, Nat.reduceAdd, Nat.reduceMul, Nat.reduceSub, Nat.reduceLT, Nat.reduceLeDiff, Nat.reduceBNe, Nat.reduceBEq, Int.reduceToNat, Int.reduceAdd, Int.reduceSub, Int.reduceMul, Int.reduceLT, Int.reduceLE, Int.reduceNeg, Int.reduceBEq, Int.reduceBNe, Int.reduceEq, beq_self_eq_true, reduceCtorEq, decide_true, decide_false, if_pos, if_neg] <;> rfl, by simp (disch := (first | omega | (simp only [go_sem, ↓reduceIte, Nat.reduceEqDiff, Nat.reduceAdd, Nat.reduceMul, Nat.reduceSub, Nat.reduceLT, Nat.reduceLeDiff, Nat.reduceBNe, Nat.reduceBEq, Int.reduceToNat, Int.reduceAdd, Int.reduceSub, Int.reduceMul, Int.reduceLT, Int.reduceLE, Int.reduceNeg, Int.reduceBEq, Int.reduceBNe, Int.reduceEq, beq_self_eq_true, reduceCtorEq, decide_true, decide_false, if_pos, if_neg]; first | done | omega))) only [go_sem, ↓reduceIte, Nat.reduceEqDiff, Nat.reduceAdd, Nat.reduceMul, Nat.reduceSub, Nat.reduceLT, Nat.reduceLeDiff, Nat.reduceBNe, Nat.reduceBEq, Int.reduceToNat, Int.reduceAdd, Int.reduceSub, Int.reduceMul, Int.reduceLT, Int.reduceLE, Int.reduceNeg, Int.reduceBEq, Int.reduceBNe, Int.reduceEq, beq_self_eq_true, reduceCtorEq, decide_true, decide_false, if_pos, if_neg] <;> rfl, by simp (disch := (first | omega | (simp only [go_sem, ↓reduceIte, Nat.reduceEqDiff, Nat.reduceAdd, Nat.reduceMul, Nat.reduceSub, Nat.reduceLT, Nat.reduceLeDiff, Nat.reduceBNe, Nat.reduceBEq, Int.reduceToNat, Int.reduceAdd, Int.reduceSub, Int.reduceMul, Int.reduceLT, Int.reduceLE, Int.reduceNeg, Int.reduceBEq, Int.reduceBNe, Int.reduceEq, beq_self_eq_true, reduceCtorEq, decide_true, decide_false, if_pos, if_neg]; first | done | omega))) only [go_sem, ↓reduceIte, Nat.reduceEqDiff, Nat.reduceAdd, Nat.reduceMul, Nat.reduceSub, Nat.reduceLT, Nat.reduceLeDiff, Nat.reduceBNe, Nat.reduceBEq, Int.reduceToNat, Int.reduceAdd, Int.reduceSub, Int.reduceMul, Int.reduceLT, Int.reduceLE, Int.reduceNeg, Int.reduceBEq, Int.reduceBNe, Int.reduceEq, beq_self_eq_true, reduceCtorEq, decide_true, decide_false, if_pos, if_neg] <;> rfl, by simp (disch := (first | omega | (simp only [go_sem, ↓reduceIte, Nat.reduceEqDiff, Nat.reduceAdd, Nat.reduceMul, Nat.reduceSub, Nat.reduceLT, Nat.reduceLeDiff, Nat.reduceBNe, Nat.reduceBEq, Int.reduceToNat, Int.reduceAdd, Int.reduceSub, Int.reduceMul, Int.reduceLT, Int.reduceLE, Int.reduceNeg, Int.reduceBEq, Int.reduceBNe, Int.reduceEq, beq_self_eq_true, reduceCtorEq, decide_true, decide_false, if_pos, if_neg]; first | done | omega))) only [go_sem, ↓reduceIte, Nat.reduceEqDiff, Nat.reduceAdd, Nat.reduceMul, Nat.reduceSub, Nat.reduceLT, Nat.reduceLeDiff, Nat.reduceBNe, Nat.reduceBEq, Int.reduceToNat, Int.reduceAdd, Int.reduceSub, Int.reduceMul, Int.reduceLT, Int.reduceLE, Int.reduceNeg, Int.reduceBEq, Int.reduceBNe, Int.reduceEq, beq_self_eq_true, reduceCtorEq, decide_true, decide_false, if_pos, if_neg] <;> rfl, trivial⟩ (by decide) (by decide)) ?_ (by simp)
      refine go ?_
      refine callz (c21r) (by rfl) ?_
      refine gon ?_
      refine call (c25p) ?_
      refine gon ?_
      refine R_ret (fin_of (ids := []) (by simp (disch := (first | omega | (simp only [go_sem, ↓reduceIte, Nat.reduceEqDiff, Nat.reduceAdd, Nat.reduceMul, Nat.reduceSub, Nat.reduceLT, Nat.reduceLeDiff, Nat.reduceBNe, Nat.reduceBEq, Int.reduceToNat, Int.reduceAdd, Int.reduceSub, Int.reduceMul, Int.reduceLT, Int.reduceLE, Int.reduceNeg, Int.reduceBEq, Int.reduceBNe, Int.reduceEq, beq_self_eq_true, reduceCtorEq, decide_true, decide_false, if_pos, if_neg]; first | done | omega))) only [go_sem, ↓reduceIte, Nat.reduceEqDiff, Nat.reduceAdd, Nat.reduceMul, Nat.reduceSub, Nat.reduceLT, Nat.reduceLeDiff, Nat.reduceBNe, Nat.reduceBEq, Int.reduceToNat, Int.reduceAdd, Int.reduceSub, Int.reduceMul, Int.reduceLT, Int.reduceLE, Int.reduceNeg, Int.reduceBEq, Int.reduceBNe, Int.reduceEq, beq_self_eq_true, reduceCtorEq, decide_true, decide_false, if_pos, if_neg] <;> rfl) (by simp (disch := (first | omega | (simp only [go_sem, ↓reduceIte, Nat.reduceEqDiff, Nat.reduceAdd, Nat.reduceMul, Nat.reduceSub, Nat.reduceLT, Nat.reduceLeDiff, Nat.reduceBNe, Nat.reduceBEq, Int.reduceToNat, Int.reduceAdd, Int.reduceSub, Int.reduceMul, Int.reduceLT, Int.reduceLE, Int.reduceNeg, Int.reduceBEq, Int.reduceBNe, Int.reduceEq, beq_self_eq_true, reduceCtorEq, decide_true, decide_false, if_pos, if_neg]; first | done | omega))) only [go_sem, ↓reduceIte, Nat.reduceEqDiff, Nat.reduceAdd, Nat.reduceMul, Nat.reduceSub, Nat.reduceLT, Nat.reduceLeDiff, Nat.reduceBNe, Nat.reduceBEq, Int.reduceToNat, Int.reduceAdd, Int.reduceSub, Int.reduceMul, Int.reduceLT, Int.reduceLE, Int.reduceNeg, Int.reduceBEq, Int.reduceBNe, Int.reduceEq, beq_self_eq_true, reduceCtorEq, decide_true, decide_false, if_pos, if_neg]) (by decide) (by simp (disch := (first | omega | (simp only [go_sem, ↓reduceIte, Nat.reduceEqDiff, Nat.reduceAdd, Nat.reduceMul, Nat.reduceSub, Nat.reduceLT, Nat.reduceLeDiff, Nat.reduceBNe, Nat.reduceBEq, Int.reduceToNat, Int.reduceAdd, Int.reduceSub, Int.reduceMul, Int.reduceLT, Int.reduceLE, Int.reduceNeg, Int.reduceBEq, Int.reduceBNe, Int.reduceEq, beq_self_eq_true, reduceCtorEq, decide_true, decide_false, if_pos, if_neg]; first | done | omega))) only [go_sem, ↓reduceIte, Nat.reduceEqDiff, Nat.reduceAdd, Nat.reduceMul, Nat.reduceSub, Nat.reduceLT, Nat.reduceLeDiff, Nat.reduceBNe, Nat.reduceBEq, Int.reduceToNat, Int.reduceAdd, Int.reduceSub, Int.reduceMul, Int.reduceLT, Int.reduceLE, Int.reduceNeg, Int.reduceBEq, Int.reduceBNe, Int.reduceEq, beq_self_eq_true, reduceCtorEq, decide_true, decide_false, if_pos, if_neg]))
end Go.Proofs.Ytndigibhmfegaaa.V

/-
  GridKnown: for every input the law returns true, and the input reads as it did.
-/
set_option maxRecDepth 100000
set_option maxHeartbeats 4000000
namespace Go.Proofs.Ytndigibhmfegaaa
open Go.ChangeShapes Go.WideShapes Go.ChangeAt Go.RowKit

theorem known_con : ∀ us : List V.D, us.length = Try.f6.params.size → (∀ (j : Nat) t a, Try.f6.params[j]? = some t → us[j]? = some a → V.ShapeV Try.prog 5 t a) → V.Con Try.prog 6 us (.sc (.bool true)) [] := by
  intro us hl h
  rw [Try.params6] at hl h
  obtain rfl : us = [] := List.length_eq_zero_iff.1 hl
  exact V.con6  

theorem known_lifted (os : Os) (started : os.Started) (H : Type) (enc : TypeId × Value → H) :
    ReturnsInHanded {} Try.checked os 6 .any (Rows.gridKnownSpec.pre6 enc Try.prog Try.f6 Rows.gridKnownRow.domain false) (Rows.gridKnownSpec.post enc Try.prog Try.f6 false true false false) := by
  refine returnsInHanded_of_change (C := Try.checked) own started (by kernel_rfl) Try.func6
    (ChangeSpec.witness6 (enc := enc) (C := Try.checked) false ⟨#[], #[], []⟩ 8 (by kernel_rfl) (by kernel_rfl) (by kernel_rfl) (by kernel_rfl)) ?_
  intro W base args ds gs before hval hW _ _
  exact V.law_post (n := 5) kids full (by kernel_rfl) rfl Try.underlying4 rfl (fun ds hd => by obtain rfl := List.length_eq_zero_iff.1 hd; rfl) known_con W base args ds gs before hval hW

theorem known_over : Rows.gridKnownRow.holds Try.pinned (OpenSpec.ofChange Rows.gridKnownSpec) :=
  OpenClaim.holds_of_wide 6 Try.f6 rfl rfl rfl rfl rfl rfl rfl ⟨rfl, rfl, rfl, rfl, rfl⟩ rfl rfl rfl rfl rfl (by kernel_rfl) Try.func6 (by kernel_rfl)
    (of_decide_eq_true (by kernel_rfl)) (by unfold Func.isWrapper; first | (rw [if_pos (by decide +kernel)]; kernel_rfl) | (rw [if_neg (by decide +kernel)]; exact ⟨rfl, rfl⟩))
    (fun os started H enc _ => known_lifted os started H enc)
theorem gridKnown_holds : Rows.GridKnownSaid := known_over
end Go.Proofs.Ytndigibhmfegaaa

