/-
  Facts of this seat's rows.
-/
import Derived.Test.YtndigibhmfegaaaKB5
import Derived.Test.YtndigibhmfegaaaRows
set_option linter.unusedSimpArgs false
set_option linter.unusedVariables false
namespace Go.Proofs.Ytndigibhmfegaaa
open Go.ChangeShapes

theorem own : ownKnob Try.prog.godebug = none := by kernel_rfl
theorem kids : Kids Try.prog (· < Try.prog.types.size) := kids_rows (by kernel_rfl) (by kernel_rfl)
theorem full : ∀ t e, t < Try.prog.types.size → Try.prog.underlying t = some (.slice e) → 0 < Try.prog.cellsOf e := slices_full_of Try.prog (by kernel_rfl)
end Go.Proofs.Ytndigibhmfegaaa

/-
  Swapping twice; ranges of grids with the same values; picking twice, plain.
-/
set_option linter.unusedSimpArgs false
set_option linter.unusedVariables false
namespace Go.Proofs.Ytndigibhmfegaaa.V
open Go Go.Proofs Go.RowKit

theorem swp_swp {a b : Nat} {xs : List Int} (ha : a < xs.length) (hb : b < xs.length) : swp b a (swp a b xs) = xs := by
  refine eq_of_getD (by simp [swp_length]) fun i _ => ?_
  rw [swp_get (by rw [swp_length]; exact hb) (by rw [swp_length]; exact ha), swp_get ha hb, swp_get ha hb, swp_get ha hb]
  by_cases h1 : i = a
  · subst h1; simp
  · rw [if_neg h1]
    by_cases h2 : i = b
    · subst h2
      by_cases h3 : a = i
      · subst h3; simp
      · simp [h3]
    · simp [h1, h2]
theorem swp_congr {a b n : Nat} {xs ys : List Int} (ha : a < n) (hb : b < n) (hx : n ≤ xs.length) (hy : n ≤ ys.length) (h : ∀ i, i < n → xs.getD i 0 = ys.getD i 0) : ∀ i, i < n → (swp a b xs).getD i 0 = (swp a b ys).getD i 0 := fun i hi => by
  rw [swp_get (by omega) (by omega), swp_get (by omega) (by omega), h a ha, h b hb, h i hi]
/-- The position with a valid index' number has that index' numbers. -/
theorem seqP_pv {sz xs : List Int} (h4 : sz.length ≤ 4) (hs : Sz sz) (hv : Valid sz xs sz.length) : (pv sz xs sz.length).toNat < points sz ∧ ∀ i, i < sz.length → (seqP sz (pv sz xs sz.length).toNat).getD i 0 = xs.getD i 0 := by
  have hp := points_eq fun i hi => (hs i hi).1
  obtain ⟨p1, p2, _⟩ := pv_range (sz := sz) (ps := xs) sz.length (fun i hi => (hs i hi).1) hv
  have hn : (pv sz xs sz.length).toNat < points sz := by omega
  obtain ⟨c1, c2, c3, _⟩ := seqP_ok h4 hs hn
  exact ⟨hn, pv_inj sz.length c2 hv (by rw [c3]; omega)⟩
/-- A valid index, its numbers exchanged, names in the swapped grid what it names in the grid. -/
theorem snum_pv {sz xs : List Int} {a b : Nat} (h4 : sz.length ≤ 4) (hs : Sz sz) (ha : a < sz.length) (hb : b < sz.length) (hl : sz.length ≤ xs.length) (hv : Valid sz xs sz.length) :
    Valid (swp a b sz) (swp a b xs) sz.length ∧ (pv (swp a b sz) (swp a b xs) sz.length).toNat < points sz ∧ snum a b sz (pv (swp a b sz) (swp a b xs) sz.length).toNat = (pv sz xs sz.length).toNat := by
  have hs' := swp_Sz hs ha hb
  have hsl := swp_length a b sz
  have hv' : Valid (swp a b sz) (swp a b xs) sz.length := by
    have := swp_Valid (a := b) (b := a) (sz := swp a b sz) (xs := xs) (by rw [hsl]; exact hb) (by rw [hsl]; exact ha) (by rw [hsl]; exact hl) (by rw [swp_swp ha hb, hsl]; exact hv)
    rw [hsl, swp_comm (a := b) (b := a) (xs := xs) (by omega) (by omega)] at this
    exact this
  have hq := seqP_pv (sz := swp a b sz) (xs := swp a b xs) (by rw [hsl]; exact h4) hs' (by rw [hsl]; exact hv')
  rw [hsl, points_swp ha hb] at hq
  refine ⟨hv', hq.1, ?_⟩
  obtain ⟨c1, _⟩ := seqP_ok (sz := swp a b sz) (by rw [hsl]; exact h4) hs' (n := (pv (swp a b sz) (swp a b xs) sz.length).toNat) (by rw [points_swp ha hb]; exact hq.1)
  unfold snum
  congr 1
  refine pv_congr _ fun i hi => ?_
  rw [swp_congr ha hb (by omega) (by rw [swp_length]; exact hl) hq.2 i hi, swp_comm (xs := swp a b xs) (by rw [swp_length]; omega) (by rw [swp_length]; omega), swp_swp (by omega) (by omega)]
theorem snum_snum {sz : List Int} {a b : Nat} (h4 : sz.length ≤ 4) (hs : Sz sz) (ha : a < sz.length) (hb : b < sz.length) {n : Nat} (hn : n < points sz) : snum b a (swp a b sz) n < points sz ∧ snum a b sz (snum b a (swp a b sz) n) = n := by
  obtain ⟨c1, c2, c3, _⟩ := seqP_ok h4 hs hn
  obtain ⟨h1, h2, h3⟩ := snum_pv h4 hs ha hb (by omega) c2
  have e : snum b a (swp a b sz) n = (pv (swp a b sz) (swp a b (seqP sz n)) sz.length).toNat := by
    unfold snum
    rw [swp_swp ha hb, swp_length, swp_comm (xs := seqP sz n) (by omega) (by omega)]
  rw [e]
  exact ⟨h2, by rw [h3, c3]; exact Int.toNat_natCast n⟩
/-- A block of a list of blocks. -/
theorem sall_blk {sz da : List Int} {a b m : Nat} (h4 : sz.length ≤ 4) (hs : Sz sz) (ha : a < sz.length) (hb : b < sz.length) (hl : da.length = points sz * m) : ∀ N n, n < N → N ≤ points sz → blk (sall a b sz da m N) m n = blk da m (snum a b sz n)
  | 0, n, h, _ => by omega
  | N + 1, n, h, hN => by
    have hsl := sall_length (m := m) h4 hs ha hb hl N (by omega)
    have hbl := blk_length (blk_ok hl (snum_ok h4 hs ha hb (show N < points sz by omega)).2)
    simp only [sall]
    by_cases e : n = N
    · subst e
      unfold blk
      rw [List.drop_append_of_le_length (by omega), List.drop_eq_nil_of_le (by omega), List.nil_append]
      exact List.take_of_length_le (by unfold blk at hbl; omega)
    · rw [← sall_blk h4 hs ha hb hl N n (by omega) (by omega)]
      unfold blk
      have : n * m + m ≤ N * m := by
        have := Nat.mul_le_mul_right m (show n + 1 ≤ N by omega)
        rwa [Nat.add_mul, Nat.one_mul] at this
      rw [List.drop_append_of_le_length (by omega), List.take_append_of_le_length (by rw [List.length_drop]; omega)]
theorem blks_ext {m P : Nat} {xs ys : List Int} (hx : xs.length = P * m) (hy : ys.length = P * m) (h : ∀ n, n < P → blk xs m n = blk ys m n) : xs = ys := by
  refine eq_of_getD (by omega) fun i hi => ?_
  by_cases hm : m = 0
  · subst hm; omega
  · have hd : i / m < P := by rw [Nat.div_lt_iff_lt_mul (by omega)]; omega
    have hr : i % m < m := Nat.mod_lt _ (by omega)
    have e := h (i / m) hd
    have e1 := blk_get (da := xs) (m := m) (n := i / m) hr
    have e2 := blk_get (da := ys) (m := m) (n := i / m) hr
    have ei : i / m * m + i % m = i := by rw [Nat.mul_comm]; exact Nat.div_add_mod i m
    rw [ei] at e1 e2
    rw [← e1, ← e2, e]
theorem sall_sall {sz da : List Int} {a b m : Nat} (h4 : sz.length ≤ 4) (hs : Sz sz) (ha : a < sz.length) (hb : b < sz.length) (hl : da.length = points sz * m) : sall b a (swp a b sz) (sall a b sz da m (points sz)) m (points sz) = da := by
  have hs' := swp_Sz hs ha hb
  have hsl := swp_length a b sz
  have hp := points_swp ha hb
  have hl' := sall_length (m := m) h4 hs ha hb hl (points sz) (Nat.le_refl _)
  have hl2 := sall_length (sz := swp a b sz) (da := sall a b sz da m (points sz)) (a := b) (b := a) (m := m) (by rw [hsl]; exact h4) hs' (by rw [hsl]; exact hb) (by rw [hsl]; exact ha) (by rw [hp]; exact hl') (points sz) (by rw [hp]; exact Nat.le_refl _)
  refine blks_ext (m := m) (P := points sz) hl2 hl fun n hn => ?_
  rw [sall_blk (sz := swp a b sz) (a := b) (b := a) (by rw [hsl]; exact h4) hs' (by rw [hsl]; exact hb) (by rw [hsl]; exact ha) (by rw [hp]; exact hl') (points sz) n hn (by rw [hp]; exact Nat.le_refl _)]
  obtain ⟨q1, q2⟩ := snum_snum h4 hs ha hb hn
  rw [sall_blk h4 hs ha hb hl (points sz) _ q1 (Nat.le_refl _), q2]

/-- Values in a range. -/
theorem sall_all {p : Int → Prop} {a b m : Nat} {sz da : List Int} (h : ∀ x ∈ da, p x) : ∀ n, ∀ x ∈ sall a b sz da m n, p x
  | 0, x, hx => by simp [sall] at hx
  | n + 1, x, hx => by
    simp only [sall, List.mem_append] at hx
    rcases hx with hx | hx
    · exact sall_all h n x hx
    · exact h x (List.mem_of_mem_drop (List.mem_of_mem_take hx))
theorem Right.mem {sz : List Int} {o : Int} {da : List Int} (h : Right sz o da) : ∀ x ∈ da, 0 ≤ x ∧ x ≤ 65535 := fun x hx => by
  obtain ⟨i, hi, rfl⟩ := List.mem_iff_getElem.1 hx
  have := h.2.2.2.2.2.2.2 i hi
  rwa [List.getD_eq_getElem?_getD, List.getElem?_eq_getElem hi] at this
theorem Right.mk {sz : List Int} {m : Nat} {da : List Int} (h1 : 1 ≤ sz.length) (h4 : sz.length ≤ 4) (o1 : 1 ≤ m) (o4 : m ≤ 4) (hs : Sz sz) (hl : da.length = points sz * m) (hd : da.length ≤ 4096) (hx : ∀ x ∈ da, 0 ≤ x ∧ x ≤ 65535) : Right sz m da := by
  have hp := points_le h4 hs
  have hb : points sz * m ≤ 6561 * 4 := Nat.mul_le_mul hp.2 o4
  refine ⟨h1, h4, by omega, by omega, hs, ?_, hd, fun k hk => ?_⟩
  · rw [prodW_points h4 hs, ← Int.natCast_mul, wrap64 (by omega) (by omega), hl]
  · exact hx _ (by rw [List.getD_eq_getElem?_getD, List.getElem?_eq_getElem hk]; exact List.getElem_mem hk)
theorem Right.swap {sz : List Int} {m : Nat} {da : List Int} (h : Right sz m da) {a b : Nat} (ha : a < sz.length) (hb : b < sz.length) : Right (swp a b sz) m (sall a b sz da m (points sz)) := by
  have hl := h.lenN
  have hm := h.mem
  obtain ⟨h1, h4, o1, o4, hs, _, hd, _⟩ := h
  have hl' := sall_length (m := m) h4 hs ha hb hl (points sz) (Nat.le_refl _)
  exact Right.mk (by rw [swp_length]; exact h1) (by rw [swp_length]; exact h4) (by omega) (by omega) (swp_Sz hs ha hb) (by rw [points_swp ha hb]; exact hl') (by omega) (sall_all hm _)

theorem fmin_ok (x y : Int) : fmin x y ≤ x ∧ fmin x y ≤ y ∧ (fmin x y = x ∨ fmin x y = y) := by
  show (if y < x then y else x) ≤ x ∧ (if y < x then y else x) ≤ y ∧ ((if y < x then y else x) = x ∨ (if y < x then y else x) = y)
  split <;> omega
theorem fmax_ok (x y : Int) : x ≤ fmax x y ∧ y ≤ fmax x y ∧ (fmax x y = x ∨ fmax x y = y) := by
  show x ≤ (if y > x then y else x) ∧ y ≤ (if y > x then y else x) ∧ ((if y > x then y else x) = x ∨ (if y > x then y else x) = y)
  split <;> omega
/-- What a least (greatest) value is. -/
theorem low_char {da : List Int} {m P : Nat} (hl : da.length = P * m) (hP : 1 ≤ P) {k : Nat} (hk : k < m) : ∀ n, n ≤ P →
    ((∀ j, j < n → (lowG fmin da m n).getD k 0 ≤ da.getD (j * m + k) 0) ∧ ∃ j, j < P ∧ (lowG fmin da m n).getD k 0 = da.getD (j * m + k) 0) ∧
    ((∀ j, j < n → da.getD (j * m + k) 0 ≤ (lowG fmax da m n).getD k 0) ∧ ∃ j, j < P ∧ (lowG fmax da m n).getD k 0 = da.getD (j * m + k) 0)
  | 0, _ => by
    have e : (da.take m).getD k 0 = da.getD (0 * m + k) 0 := by
      have := take_drop_getD da 0 m k hk
      simpa using this
    exact ⟨⟨fun j hj => by omega, 0, hP, e⟩, ⟨fun j hj => by omega, 0, hP, e⟩⟩
  | n + 1, hn => by
    have hmd : m ≤ da.length := by rw [hl]; have := Nat.mul_le_mul_right m hP; omega
    obtain ⟨⟨a1, a2⟩, ⟨b1, b2⟩⟩ := low_char hl hP hk n (by omega)
    have g1 := cmb_get fmin (lowG fmin da m n) (blk da m n) m (by rw [lowG_length _ hmd]; exact Nat.le_refl _) k
    have g2 := cmb_get fmax (lowG fmax da m n) (blk da m n) m (by rw [lowG_length _ hmd]; exact Nat.le_refl _) k
    rw [if_pos hk, blk_get hk] at g1 g2
    have q1 := fmin_ok ((lowG fmin da m n).getD k 0) (da.getD (n * m + k) 0)
    have q2 := fmax_ok ((lowG fmax da m n).getD k 0) (da.getD (n * m + k) 0)
    rw [← g1] at q1
    rw [← g2] at q2
    simp only [lowG]
    refine ⟨⟨fun j hj => ?_, ?_⟩, ⟨fun j hj => ?_, ?_⟩⟩
    · by_cases e : j = n
      · subst e; exact q1.2.1
      · exact Int.le_trans q1.1 (a1 j (by omega))
    · rcases q1.2.2 with e | e
      · obtain ⟨j, hj, e2⟩ := a2; exact ⟨j, hj, e.trans e2⟩
      · exact ⟨n, by omega, e⟩
    · by_cases e : j = n
      · subst e; exact q2.2.1
      · exact Int.le_trans (b1 j (by omega)) q2.1
    · rcases q2.2.2 with e | e
      · obtain ⟨j, hj, e2⟩ := b2; exact ⟨j, hj, e.trans e2⟩
      · exact ⟨n, by omega, e⟩
/-- Columns with the same values have the same ends. -/
theorem low_same {da da' : List Int} {m m' P : Nat} (hl : da.length = P * m) (hl' : da'.length = P * m') (hP : 1 ≤ P) {k k' : Nat} (hk : k < m) (hk' : k' < m') (f : Nat → Nat) (hf : ∀ n, n < P → f n < P ∧ da'.getD (n * m' + k') 0 = da.getD (f n * m + k) 0)
    (g : Nat → Nat) (hg : ∀ n, n < P → g n < P ∧ da.getD (n * m + k) 0 = da'.getD (g n * m' + k') 0) :
    (lowG fmin da' m' P).getD k' 0 = (lowG fmin da m P).getD k 0 ∧ (lowG fmax da' m' P).getD k' 0 = (lowG fmax da m P).getD k 0 := by
  obtain ⟨⟨a1, i, hi, a2⟩, ⟨b1, j, hj, b2⟩⟩ := low_char hl hP hk P (Nat.le_refl _)
  obtain ⟨⟨c1, p, hp, c2⟩, ⟨d1, q, hq, d2⟩⟩ := low_char hl' hP hk' P (Nat.le_refl _)
  have x1 := a1 (f p) (hf p hp).1
  have x2 := c1 (g i) (hg i hi).1
  have x3 := b1 (f q) (hf q hq).1
  have x4 := d1 (g j) (hg j hj).1
  rw [← (hf p hp).2] at x1
  rw [← (hg i hi).2] at x2
  rw [← (hf q hq).2] at x3
  rw [← (hg j hj).2] at x4
  omega
theorem swap_low {sz : List Int} {m : Nat} {da : List Int} (h : Right sz m da) {a b : Nat} (ha : a < sz.length) (hb : b < sz.length) :
    lowR (sall a b sz da m (points sz)) m (sall a b sz da m (points sz)).length = lowR da m da.length ∧ highR (sall a b sz da m (points sz)) m (sall a b sz da m (points sz)).length = highR da m da.length := by
  have hl := h.lenN
  obtain ⟨h1, h4, o1, o4, hs, _, hd, _⟩ := h
  have hp := points_le h4 hs
  have hl' := sall_length (m := m) h4 hs ha hb hl (points sz) (Nat.le_refl _)
  have hmd : m ≤ da.length := by rw [hl]; have := Nat.mul_le_mul_right m hp.1; omega
  obtain ⟨e1, e2⟩ := low_all hmd hl
  obtain ⟨e3, e4⟩ := low_all (da := sall a b sz da m (points sz)) (by omega) hl'
  rw [e1, e2, e3, e4]
  have key : ∀ k, k < m → (lowG fmin (sall a b sz da m (points sz)) m (points sz)).getD k 0 = (lowG fmin da m (points sz)).getD k 0 ∧ (lowG fmax (sall a b sz da m (points sz)) m (points sz)).getD k 0 = (lowG fmax da m (points sz)).getD k 0 := by
    intro k hk
    have hb' : ∀ n, n < points sz → (sall a b sz da m (points sz)).getD (n * m + k) 0 = da.getD (snum a b sz n * m + k) 0 := fun n hn => by
      rw [← blk_get hk, sall_blk h4 hs ha hb hl (points sz) n hn (Nat.le_refl _), blk_get hk]
    refine low_same hl hl' hp.1 hk hk (snum a b sz) (fun n hn => ⟨(snum_ok h4 hs ha hb hn).2, hb' n hn⟩) (snum b a (swp a b sz)) fun n hn => ?_
    obtain ⟨q1, q2⟩ := snum_snum h4 hs ha hb hn
    exact ⟨q1, by rw [hb' _ q1, q2]⟩
  constructor
  · refine eq_of_getD (by rw [lowG_length _ (by omega), lowG_length _ hmd]) fun k hk => ?_
    rw [lowG_length _ (by omega)] at hk
    exact (key k hk).1
  · refine eq_of_getD (by rw [lowG_length _ (by omega), lowG_length _ hmd]) fun k hk => ?_
    rw [lowG_length _ (by omega)] at hk
    exact (key k hk).2
end Go.Proofs.Ytndigibhmfegaaa.V

/-
  Picking, plain.
-/
set_option linter.unusedSimpArgs false
set_option linter.unusedVariables false
namespace Go.Proofs.Ytndigibhmfegaaa.V
open Go Go.Proofs Go.RowKit

theorem prow_get (da : List Int) (m : Nat) (os : List Int) (n : Nat) : ∀ j i, i < j → (prow da m os n j).getD i 0 = da.getD (n * m + (os.getD i 0).toNat) 0
  | 0, i, h => by omega
  | j + 1, i, h => by
    have hl := prow_length da m os n j
    simp only [prow, List.getD_eq_getElem?_getD, List.getElem?_append]
    by_cases e : i < j
    · rw [if_pos (by omega)]
      have := prow_get da m os n j i e
      simpa only [List.getD_eq_getElem?_getD] using this
    · obtain rfl : i = j := by omega
      rw [if_neg (by omega), hl, Nat.sub_self]
      simp
theorem pall_get (da : List Int) (m : Nat) (os : List Int) : ∀ N n i, n < N → i < os.length → (pall da m os N).getD (n * os.length + i) 0 = da.getD (n * m + (os.getD i 0).toNat) 0
  | 0, n, i, h, _ => by omega
  | N + 1, n, i, h, hi => by
    have hl := pall_length da m os N
    by_cases e : n = N
    · subst e
      have h1 := prow_get da m os n os.length i hi
      simp only [pall, List.getD_eq_getElem?_getD, List.getElem?_append] at h1 ⊢
      rw [if_neg (by omega), hl, Nat.add_sub_cancel_left]
      exact h1
    · have h1 := pall_get da m os N n i (by omega) hi
      have h2 : n * os.length + i < N * os.length := by
        have := Nat.mul_le_mul_right os.length (show n + 1 ≤ N by omega)
        rw [Nat.add_mul, Nat.one_mul] at this
        omega
      simp only [pall, List.getD_eq_getElem?_getD, List.getElem?_append] at h1 ⊢
      rw [if_pos (by omega)]
      exact h1
theorem rows_ext {m P : Nat} {xs ys : List Int} (hx : xs.length = P * m) (hy : ys.length = P * m) (h : ∀ n i, n < P → i < m → xs.getD (n * m + i) 0 = ys.getD (n * m + i) 0) : xs = ys := by
  refine eq_of_getD (by omega) fun i hi => ?_
  by_cases hm : m = 0
  · subst hm; omega
  · have hd : i / m < P := by rw [Nat.div_lt_iff_lt_mul (by omega)]; omega
    have hr : i % m < m := Nat.mod_lt _ (by omega)
    have ei : i / m * m + i % m = i := by rw [Nat.mul_comm]; exact Nat.div_add_mod i m
    have := h (i / m) (i % m) hd hr
    rwa [ei] at this
/-- All outputs, in order. -/
def idl (m : Nat) : List Int := (List.range m).map fun (i : Nat) => (i : Int)
theorem idl_length (m : Nat) : (idl m).length = m := by simp [idl]
theorem idl_get {m i : Nat} (h : i < m) : (idl m).getD i 0 = i := by
  simp [idl, List.getD_eq_getElem?_getD, h]
theorem idl_succ (m : Nat) : idl (m + 1) = idl m ++ [(m : Int)] := by simp [idl, List.range_succ]
theorem pall_idl {da : List Int} {m P : Nat} (hl : da.length = P * m) : pall da m (idl m) P = da := by
  have h1 := pall_length da m (idl m) P
  rw [idl_length] at h1
  refine rows_ext h1 hl fun n i hn hi => ?_
  have := pall_get da m (idl m) P n i hn (by rw [idl_length]; exact hi)
  rw [idl_length, idl_get hi, Int.toNat_natCast] at this
  exact this
theorem Pk_idl (m : Nat) : Pk m (idl m) := fun i hi => by
  rw [idl_length] at hi
  rw [idl_get hi]
  omega
/-- The chosen among the chosen. -/
def both (first second : List Int) : List Int := second.map fun k => first.getD k.toNat 0
theorem both_get {first second : List Int} {i : Nat} (h : i < second.length) : (both first second).getD i 0 = first.getD (second.getD i 0).toNat 0 := by
  simp [both, List.getD_eq_getElem?_getD, h]
theorem both_length (first second : List Int) : (both first second).length = second.length := by simp [both]
theorem Pk_both {m : Int} {first second : List Int} (h1 : Pk m first) (h2 : Pk first.length second) : Pk m (both first second) := fun i hi => by
  rw [both_length] at hi
  rw [both_get hi]
  have := h2 i hi
  exact h1 _ (by omega)
theorem pall_pall {da : List Int} {m P : Nat} {first second : List Int} (h2 : Pk first.length second) : pall (pall da m first P) first.length second P = pall da m (both first second) P := by
  have e1 := pall_length (pall da m first P) first.length second P
  have e2 := pall_length da m (both first second) P
  rw [both_length] at e2
  refine rows_ext e1 e2 fun n i hn hi => ?_
  have hs := h2 i hi
  have g1 := pall_get (pall da m first P) first.length second P n i hn hi
  have g2 := pall_get da m (both first second) P n i hn (by rw [both_length]; exact hi)
  rw [both_length, both_get hi] at g2
  rw [g1, g2]
  exact pall_get da m first P n (second.getD i 0).toNat hn (by omega)
theorem prow_all {p : Int → Prop} {da : List Int} {m : Nat} {os : List Int} {n : Nat} (h : ∀ i, i < os.length → p (da.getD (n * m + (os.getD i 0).toNat) 0)) : ∀ j, j ≤ os.length → ∀ x ∈ prow da m os n j, p x
  | 0, _, x, hx => by simp [prow] at hx
  | j + 1, hj, x, hx => by
    simp only [prow, List.mem_append, List.mem_singleton] at hx
    rcases hx with hx | rfl
    · exact prow_all h j (by omega) x hx
    · exact h j (by omega)
theorem pall_all {p : Int → Prop} {da : List Int} {m : Nat} {os : List Int} : ∀ N, (∀ n i, n < N → i < os.length → p (da.getD (n * m + (os.getD i 0).toNat) 0)) → ∀ x ∈ pall da m os N, p x
  | 0, _, x, hx => by simp [pall] at hx
  | N + 1, h, x, hx => by
    simp only [pall, List.mem_append] at hx
    rcases hx with hx | hx
    · exact pall_all N (fun n i hn hi => h n i (by omega) hi) x hx
    · exact prow_all (fun i hi => h N i (by omega) hi) _ (Nat.le_refl _) x hx
theorem Right.picked {sz : List Int} {m : Nat} {da : List Int} (h : Right sz m da) {os : List Int} (ho : 1 ≤ os.length ∧ os.length ≤ 4) (hk : Pk m os) (hp : points sz * os.length ≤ 4096) : Right sz os.length (pall da m os (points sz)) := by
  have hR := h
  have hm := h.mem
  obtain ⟨h1, h4, o1, o4, hs, _, hd, _⟩ := h
  have hl := pall_length da m os (points sz)
  refine Right.mk h1 h4 ho.1 ho.2 hs hl (by omega) (pall_all (p := fun x => 0 ≤ x ∧ x ≤ 65535) _ fun n i hn hi => ?_)
  have hb := hR.pick hk hn hi
  exact hm _ (by rw [List.getD_eq_getElem?_getD, List.getElem?_eq_getElem hb]; exact List.getElem_mem hb)
theorem pick_low {sz : List Int} {m : Nat} {da : List Int} (h : Right sz m da) {os : List Int} (ho : 1 ≤ os.length ∧ os.length ≤ 4) (hk : Pk m os) {i : Nat} (hi : i < os.length) :
    (lowR (pall da m os (points sz)) os.length (pall da m os (points sz)).length).getD i 0 = (lowR da m da.length).getD (os.getD i 0).toNat 0 ∧ (highR (pall da m os (points sz)) os.length (pall da m os (points sz)).length).getD i 0 = (highR da m da.length).getD (os.getD i 0).toNat 0 := by
  have hl := h.lenN
  obtain ⟨h1, h4, o1, o4, hs, _, hd, _⟩ := h
  have hp := points_le h4 hs
  have hl' := pall_length da m os (points sz)
  have hmd : m ≤ da.length := by rw [hl]; have := Nat.mul_le_mul_right m hp.1; omega
  have hmd' : os.length ≤ (pall da m os (points sz)).length := by rw [hl']; have := Nat.mul_le_mul_right os.length hp.1; omega
  obtain ⟨e1, e2⟩ := low_all hmd hl
  obtain ⟨e3, e4⟩ := low_all hmd' hl'
  rw [e1, e2, e3, e4]
  have hki := hk i hi
  exact low_same hl hl' hp.1 (show (os.getD i 0).toNat < m by omega) hi id (fun n hn => ⟨hn, pall_get da m os (points sz) n i hn hi⟩) id fun n hn => ⟨hn, (pall_get da m os (points sz) n i hn hi).symm⟩
theorem low_le {sz : List Int} {m : Nat} {da : List Int} (h : Right sz m da) {n k : Nat} (hn : n < points sz) (hk : k < m) : (lowR da m da.length).getD k 0 ≤ da.getD (n * m + k) 0 ∧ da.getD (n * m + k) 0 ≤ (highR da m da.length).getD k 0 := by
  have hl := h.lenN
  obtain ⟨h1, h4, o1, o4, hs, _, hd, _⟩ := h
  have hp := points_le h4 hs
  have hmd : m ≤ da.length := by rw [hl]; have := Nat.mul_le_mul_right m hp.1; omega
  obtain ⟨e1, e2⟩ := low_all hmd hl
  rw [e1, e2]
  obtain ⟨⟨a1, _⟩, ⟨b1, _⟩⟩ := low_char hl hp.1 hk (points sz) (Nat.le_refl _)
  exact ⟨a1 n hn, b1 n hn⟩
end Go.Proofs.Ytndigibhmfegaaa.V

/-
  The statement GridPicks, walked.
-/
set_option linter.unusedSimpArgs false
set_option linter.unusedVariables false
set_option maxHeartbeats 8000000
namespace Go.Proofs.Ytndigibhmfegaaa.V
open Go Go.Proofs Go.RowKit

/-- Small numbers, brought below a bound. -/
def fl (us : List Int) (m : Int) (j : Nat) : List Int := (us.take j).map fun x => x.tmod m
theorem fl_length (us : List Int) (m : Int) (j : Nat) (h : j ≤ us.length) : (fl us m j).length = j := by simp [fl]; omega
theorem fl_succ (us : List Int) (m : Int) (j : Nat) (h : j < us.length) : fl us m (j + 1) = fl us m j ++ [(us.getD j 0).tmod m] := by
  simp only [fl]
  rw [List.take_add_one, List.map_append]
  simp [List.getD_eq_getElem?_getD, h]
theorem fl_pk {us : List Int} {m : Int} {j : Nat} {b : Int} (hm : 0 < m) (hu : Bd b us) (h : j ≤ us.length) : Pk m (fl us m j) := fun i hi => by
  rw [fl_length us m j h] at hi
  have e : (fl us m j).getD i 0 = (us.getD i 0).tmod m := by
    simp only [fl, List.getD_eq_getElem?_getD, List.getElem?_map, List.getElem?_take]
    rw [if_pos hi, List.getElem?_eq_getElem (by omega)]
    rfl
  rw [e, Int.tmod_eq_emod_of_nonneg (hu i).1]
  exact ⟨Int.emod_nonneg _ (by omega), Int.emod_lt_of_pos _ hm⟩
theorem Pk_zero {m : Int} (hm : 0 < m) : Pk m [0] := fun i hi => by
  have : i = 0 := by simpa using hi
  subst this
  simpa using hm
theorem Bd_take {b : Int} {us : List Int} (hb : 0 ≤ b) (h : Bd b us) (n : Nat) : Bd b (us.take n) := fun i => by
  simp only [List.getD_eq_getElem?_getD, List.getElem?_take]
  split
  · have := h i
    simpa only [List.getD_eq_getElem?_getD] using this
  · exact ⟨Int.le_refl _, hb⟩
theorem both_take {F G : List Int} {j : Nat} (h : j < G.length) : both F (G.take (j + 1)) = both F (G.take j) ++ [F.getD (G.getD j 0).toNat 0] := by
  simp only [both]
  rw [List.take_add_one, List.map_append]
  simp [List.getD_eq_getElem?_getD, h]
theorem con31e (sz : List Int) (o o' : Int) (da : List Int) (h : o = o') : Con Try.prog 31 [gr sz o da, gr sz o' da] (.sc (.bool true)) [] := by
  subst h
  have := con31 sz sz o o da da
  simpa using this

theorem tdiv_cast (a b : Nat) : Int.tdiv (a : Int) (b : Int) = ((a / b : Nat) : Int) := rfl
theorem min4' (n : Nat) : (if (4 : Int) < (n : Int) then (4 : Int) else (n : Int)) = ((min n 4 : Nat) : Int) := by split <;> omega
attribute [go_sem] tdiv_cast min4'
theorem getD_dt {xs : List Int} {a l i : Nat} (h : i < l) : ((xs.drop a).take l).getD i 0 = xs.getD (a + i) 0 := by
  simp only [List.getD_eq_getElem?_getD, List.getElem?_take, List.getElem?_drop, if_pos h]
theorem con24D (sz : List Int) (n : Int) (h1 : 1 ≤ sz.length) (h4 : sz.length ≤ 4) (hs : ∀ k, k < sz.length → 2 ≤ sz.getD k 0 ∧ sz.getD k 0 ≤ 9) (hn : 0 ≤ n) (hn2 : n ≤ 1000000) :
    Con Try.prog 24 [.sl sz.length (ints .i64 sz), .sc (.int .i64 n)] (.sl sz.length (ints .i64 (outD sz n sz.length))) [] := by
  have hol := outD_length sz n sz.length
  have := Con.frozen 5 (con24 sz n h1 h4 hs hn hn2)
  rw [show (.sl sz.length (ints .i64 (outD sz n sz.length)) : D) = _ from ?_]
  · exact this
  · simp (disch := (first | omega | (simp only [go_sem, ↓reduceIte, Nat.reduceEqDiff, Nat.reduceAdd, Nat.reduceMul, Nat.reduceSub, Nat.reduceLT, Nat.reduceLeDiff, Nat.reduceBNe, Nat.reduceBEq, Int.reduceToNat, Int.reduceAdd, Int.reduceSub, Int.reduceMul, Int.reduceLT, Int.reduceLE, Int.reduceNeg, Int.reduceBEq, Int.reduceBNe, Int.reduceEq, beq_self_eq_true, reduceCtorEq, decide_true, decide_false, if_pos, if_neg]; first | done | omega))) only [go_sem, ↓reduceIte, Nat.reduceEqDiff, Nat.reduceAdd, Nat.reduceMul, Nat.reduceSub, Nat.reduceLT, Nat.reduceLeDiff, Nat.reduceBNe, Nat.reduceBEq, Int.reduceToNat, Int.reduceAdd, Int.reduceSub, Int.reduceMul, Int.reduceLT, Int.reduceLE, Int.reduceNeg, Int.reduceBEq, Int.reduceBNe, Int.reduceEq, beq_self_eq_true, reduceCtorEq, decide_true, decide_false, if_pos, if_neg]
/-- A grid and its picked one: rows and bounds, all beside one another. -/
theorem pick_facts {sz : List Int} {m : Nat} {da F : List Int} {n : Nat} (h : Right sz m da) (ho : 1 ≤ F.length ∧ F.length ≤ 4) (hk : Pk m F) (hp : points sz * F.length ≤ 4096) (hn : n < points sz) :
    ∃ b0 b1 lo0 hi0 lo1 hi1 : List Int, b0.length = m ∧ b1.length = F.length ∧ lo0.length = m ∧ hi0.length = m ∧ lo1.length = F.length ∧ hi1.length = F.length ∧
      Con Try.prog 15 [gr sz m da, .sl sz.length (ints .i64 (outD sz n sz.length))] (.tp [.sl m (ints .i64 b0), .sc (.int .i64 0)]) [] ∧
      Con Try.prog 15 [gr sz F.length (pall da m F (points sz)), .sl sz.length (ints .i64 (outD sz n sz.length))] (.tp [.sl F.length (ints .i64 b1), .sc (.int .i64 0)]) [] ∧
      Con Try.prog 27 [gr sz m da] (.tp [.sl m (ints .i64 lo0), .sl m (ints .i64 hi0), .sc (.int .i64 0)]) [] ∧
      Con Try.prog 27 [gr sz F.length (pall da m F (points sz))] (.tp [.sl F.length (ints .i64 lo1), .sl F.length (ints .i64 hi1), .sc (.int .i64 0)]) [] ∧
      ∀ k, k < F.length → b1.getD k 0 = b0.getD (F.getD k 0).toNat 0 ∧ lo1.getD k 0 = lo0.getD (F.getD k 0).toNat 0 ∧ hi1.getD k 0 = hi0.getD (F.getD k 0).toNat 0 ∧ lo0.getD (F.getD k 0).toNat 0 ≤ b0.getD (F.getD k 0).toNat 0 ∧ b0.getD (F.getD k 0).toNat 0 ≤ hi0.getD (F.getD k 0).toNat 0 := by
  have hR1 := h.picked ho hk hp
  have hl := h.lenN
  have hl1 := hR1.lenN
  have hP := points_le h.2.1 h.2.2.2.2.1
  have hmd : m ≤ da.length := by rw [hl]; have := Nat.mul_le_mul_right m hP.1; omega
  have hmd1 : F.length ≤ (pall da m F (points sz)).length := by rw [hl1]; have := Nat.mul_le_mul_right F.length hP.1; omega
  obtain ⟨i1, i2⟩ := index_ok h hn
  obtain ⟨_, i3⟩ := index_ok hR1 hn
  have ib := blk_ok hl hn
  have ib1 := blk_ok hl1 hn
  have c15 := con15D sz m da _ h i1 (n * m) i2 ib
  have c15' := con15D sz F.length _ _ hR1 i1 (n * F.length) i3 ib1
  rw [i1.1] at c15 c15'
  refine ⟨_, _, _, _, _, _, ?_, ?_, lowR_length da m hmd da.length, highR_length da m hmd da.length, lowR_length _ _ hmd1 _, highR_length _ _ hmd1 _, c15, c15', con27 sz m da h, con27 _ _ _ hR1, fun k hkk => ?_⟩
  · rw [List.length_take, List.length_drop]; omega
  · rw [List.length_take, List.length_drop]; omega
  · obtain ⟨l1, l2⟩ := pick_low h ho hk hkk
    have hb := hk k hkk
    have hb' : (F.getD k 0).toNat < m := by omega
    obtain ⟨l3, l4⟩ := low_le h hn hb'
    rw [getD_dt hkk, getD_dt hb', pall_get da m F (points sz) n k hn hkk]
    exact ⟨rfl, l1, l2, l3, l4⟩

theorem con9 (S : List Int) (o : Int) (V : List Int) (sm : Bool) (us ws : List Int) (c : Nat) (hS : Bd 255 S) (ho : 0 ≤ o ∧ o ≤ 255) (hV : Bd 65535 V) (hus : Bd 255 us) (hws : Bd 255 ws) (hC : c ≤ 65535) : Con Try.prog 9 [dr S o V sm, .sl us.length (ints .u8 us), .sl ws.length (ints .u8 ws), .sc (.int .u16 c)] (.sc (.bool true)) [] := by
  have c23 := con23 S o V sm hS ho hV
  have hR := draft_right (sm := sm) hS ho hV
  have hm3 := dout_ok o ho
  have hp64 := dsz_points S hS
  obtain ⟨sz, hsz⟩ : ∃ x, x = dsz S := ⟨_, rfl⟩
  obtain ⟨m, hm⟩ : ∃ x, x = dout o := ⟨_, rfl⟩
  obtain ⟨da, hda⟩ : ∃ x, x = ddat S o V sm := ⟨_, rfl⟩
  rw [← hsz, ← hm, ← hda] at c23 hR
  rw [← hm] at hm3
  rw [← hsz] at hp64
  clear hsz hm hda
  have hl := hR.lenN
  have hR' := hR
  obtain ⟨hz1, h4, o1, o4, hs, _, hd, _⟩ := hR'
  have hp := points_le h4 hs
  obtain ⟨ul, hul⟩ : ∃ x, x = us.take 4 := ⟨_, rfl⟩
  have hull : min us.length 4 = ul.length := by rw [hul, List.length_take, Nat.min_comm]
  have hub := Bd_take (by omega) hus 4
  rw [← hul] at hub
  obtain ⟨wl, hwl⟩ : ∃ x, x = ws.take 4 := ⟨_, rfl⟩
  have hwll : min ws.length 4 = wl.length := by rw [hwl, List.length_take, Nat.min_comm]
  have hwb := Bd_take (by omega) hws 4
  rw [← hwl] at hwb
  refine Con.of_body [(0, dr S o V sm), (1, .sl us.length (ints .u8 us)), (2, .sl ws.length (ints .u8 ws)), (3, .sc (.int .u16 c))] Try.func9 rfl ca9 326 rfl (by simp) rfl ?_; refine T_of_R ?_
  refine R_sl 1 rfl fun hun => ?_
  refine R_sl 2 rfl fun hwn => ?_
  refine go ?_
  refine call (con10) ?_
  refine go ?_
  refine cnd (fun h => ?_) (fun h => ?_)
  · cases h
  · refine go ?_
    refine callf (c23) ?_
    refine go ?_
    -- the first list
    refine R_midB (fun F : List Int => ⟨tl [(3, .sc (.int .u16 c)), (9, .pt 0 0), (2, .sl ws.length (ints .u8 ws)), (10, shD 1 F), (11, .em), (12, .em), (13, .em)], ol ([(0, ⟨[.sl sz.length (ints .i64 sz), .sc (.int .i64 m), .sl da.length (ints .i64 da)], 24, 0, false⟩)] ++ shO 1 F), 2, [], 326⟩) (fun F => Pk m F ∧ F.length ≤ 4) ?_ ?_
    · refine R_loop (fun j : Nat => ⟨tl [(3, .sc (.int .u16 c)), (9, .pt 0 0), (2, .sl ws.length (ints .u8 ws)), (10, shD 1 (fl ul m j)), (11, .em), (12, .em), (13, .em), (50, .sl ul.length (ints .u8 ul)), (51, .sc (.int .i64 ul.length)), (52, .sc (.int .i64 j))], ol ([(0, ⟨[.sl sz.length (ints .i64 sz), .sc (.int .i64 m), .sl da.length (ints .i64 da)], 24, 0, false⟩)] ++ shO 1 (fl ul m j)), 2, [], 326⟩) (fun j => j ≤ ul.length) (fun j => ul.length - j) 0 [1] (Less.mk' (by simp (disch := (first | omega | (simp only [go_sem, ↓reduceIte, Nat.reduceEqDiff, Nat.reduceAdd, Nat.reduceMul, Nat.reduceSub, Nat.reduceLT, Nat.reduceLeDiff, Nat.reduceBNe, Nat.reduceBEq, Int.reduceToNat, Int.reduceAdd, Int.reduceSub, Int.reduceMul, Int.reduceLT, Int.reduceLE, Int.reduceNeg, Int.reduceBEq, Int.reduceBNe, Int.reduceEq, beq_self_eq_true, reduceCtorEq, decide_true, decide_false, if_pos, if_neg]; first | done | omega))) only [go_sem, ↓reduceIte, Nat.reduceEqDiff, Nat.reduceAdd, Nat.reduceMul, Nat.reduceSub, Nat.reduceLT, Nat.reduceLeDiff, Nat.reduceBNe, Nat.reduceBEq, Int.reduceToNat, Int.reduceAdd, Int.reduceSub, Int.reduceMul, Int.reduceLT, Int.reduceLE, Int.reduceNeg, Int.reduceBEq, Int.reduceBNe, Int.reduceEq, beq_self_eq_true, reduceCtorEq, decide_true, decide_false, if_pos, if_neg, fl, shD, shO, hull, ← hul]) (by simp (disch := (first | omega | (simp only [go_sem, ↓reduceIte, Nat.reduceEqDiff, Nat.reduceAdd, Nat.reduceMul, Nat.reduceSub, Nat.reduceLT, Nat.reduceLeDiff, Nat.reduceBNe, Nat.reduceBEq, Int.reduceToNat, Int.reduceAdd, Int.reduceSub, Int.reduceMul, Int.reduceLT, Int.reduceLE, Int.reduceNeg, Int.reduceBEq, Int.reduceBNe, Int.reduceEq, beq_self_eq_true, reduceCtorEq, decide_true, decide_false, if_pos, if_neg]; first | done | omega))) only [go_sem, ↓reduceIte, Nat.reduceEqDiff, Nat.reduceAdd, Nat.reduceMul, Nat.reduceSub, Nat.reduceLT, Nat.reduceLeDiff, Nat.reduceBNe, Nat.reduceBEq, Int.reduceToNat, Int.reduceAdd, Int.reduceSub, Int.reduceMul, Int.reduceLT, Int.reduceLE, Int.reduceNeg, Int.reduceBEq, Int.reduceBNe, Int.reduceEq, beq_self_eq_true, reduceCtorEq, decide_true, decide_false, if_pos, if_neg, fl, shD, shO, hull, ← hul]) (by decide) (by decide)) (by omega) fun j hj => ?_
      have hfl := fl_length ul m j hj
      have hne : (m : Int) ≠ 0 := by omega
      have huj := hub j
      by_cases hy : (fl ul m j).length = 0
      · simp only [shD, shO, hy, ↓reduceIte, List.cons_append, List.nil_append, List.append_nil]
        have hy' : fl ul m j = [] := List.length_eq_zero_iff.1 hy
        refine go ?_
        refine cnd (fun h => ?_) (fun h => ?_)
        · simp only [decide_eq_true_eq, decide_eq_false_iff_not, Bool.or_eq_true, Bool.and_eq_true, Bool.or_eq_false_iff, Bool.and_eq_false_iff, Bool.not_eq_true', Bool.not_eq_false', bne_iff_ne, beq_iff_eq, ne_eq, bne_eq_false_iff_eq, beq_eq_false_iff_ne, ge_iff_le, gt_iff_lt, Int.not_le, Int.not_lt] at h
          have ey : (fl ul m j).length + 1 ≠ 0 := by omega
          have ex := fl_succ ul m j (by omega)
          refine go ?_
          refine R_nilR ⟨[0, 3], _, ?_, j + 1, by omega, by omega, rfl⟩
          exact Less.mk' (by simp (disch := (first | omega | (simp only [go_sem, ↓reduceIte, Nat.reduceEqDiff, Nat.reduceAdd, Nat.reduceMul, Nat.reduceSub, Nat.reduceLT, Nat.reduceLeDiff, Nat.reduceBNe, Nat.reduceBEq, Int.reduceToNat, Int.reduceAdd, Int.reduceSub, Int.reduceMul, Int.reduceLT, Int.reduceLE, Int.reduceNeg, Int.reduceBEq, Int.reduceBNe, Int.reduceEq, beq_self_eq_true, reduceCtorEq, decide_true, decide_false, if_pos, if_neg]; first | done | omega))) only [go_sem, ↓reduceIte, Nat.reduceEqDiff, Nat.reduceAdd, Nat.reduceMul, Nat.reduceSub, Nat.reduceLT, Nat.reduceLeDiff, Nat.reduceBNe, Nat.reduceBEq, Int.reduceToNat, Int.reduceAdd, Int.reduceSub, Int.reduceMul, Int.reduceLT, Int.reduceLE, Int.reduceNeg, Int.reduceBEq, Int.reduceBNe, Int.reduceEq, beq_self_eq_true, reduceCtorEq, decide_true, decide_false, if_pos, if_neg, ex, shD, shO, ey, hy', ints_cons]) (by simp (disch := (first | omega | (simp only [go_sem, ↓reduceIte, Nat.reduceEqDiff, Nat.reduceAdd, Nat.reduceMul, Nat.reduceSub, Nat.reduceLT, Nat.reduceLeDiff, Nat.reduceBNe, Nat.reduceBEq, Int.reduceToNat, Int.reduceAdd, Int.reduceSub, Int.reduceMul, Int.reduceLT, Int.reduceLE, Int.reduceNeg, Int.reduceBEq, Int.reduceBNe, Int.reduceEq, beq_self_eq_true, reduceCtorEq, decide_true, decide_false, if_pos, if_neg]; first | done | omega))) only [go_sem, ↓reduceIte, Nat.reduceEqDiff, Nat.reduceAdd, Nat.reduceMul, Nat.reduceSub, Nat.reduceLT, Nat.reduceLeDiff, Nat.reduceBNe, Nat.reduceBEq, Int.reduceToNat, Int.reduceAdd, Int.reduceSub, Int.reduceMul, Int.reduceLT, Int.reduceLE, Int.reduceNeg, Int.reduceBEq, Int.reduceBNe, Int.reduceEq, beq_self_eq_true, reduceCtorEq, decide_true, decide_false, if_pos, if_neg, ex, shD, shO, ey, hy', ints_cons]) (by decide) (by decide)
        · exact R_exitR ⟨fl ul m j, ⟨fl_pk (by omega) hub hj, by omega⟩, Sub.less (ids := [0]) (Less.mk' (by simp (disch := (first | omega | (simp only [go_sem, ↓reduceIte, Nat.reduceEqDiff, Nat.reduceAdd, Nat.reduceMul, Nat.reduceSub, Nat.reduceLT, Nat.reduceLeDiff, Nat.reduceBNe, Nat.reduceBEq, Int.reduceToNat, Int.reduceAdd, Int.reduceSub, Int.reduceMul, Int.reduceLT, Int.reduceLE, Int.reduceNeg, Int.reduceBEq, Int.reduceBNe, Int.reduceEq, beq_self_eq_true, reduceCtorEq, decide_true, decide_false, if_pos, if_neg]; first | done | omega))) only [go_sem, ↓reduceIte, Nat.reduceEqDiff, Nat.reduceAdd, Nat.reduceMul, Nat.reduceSub, Nat.reduceLT, Nat.reduceLeDiff, Nat.reduceBNe, Nat.reduceBEq, Int.reduceToNat, Int.reduceAdd, Int.reduceSub, Int.reduceMul, Int.reduceLT, Int.reduceLE, Int.reduceNeg, Int.reduceBEq, Int.reduceBNe, Int.reduceEq, beq_self_eq_true, reduceCtorEq, decide_true, decide_false, if_pos, if_neg, shD, shO, hy]) (by simp (disch := (first | omega | (simp only [go_sem, ↓reduceIte, Nat.reduceEqDiff, Nat.reduceAdd, Nat.reduceMul, Nat.reduceSub, Nat.reduceLT, Nat.reduceLeDiff, Nat.reduceBNe, Nat.reduceBEq, Int.reduceToNat, Int.reduceAdd, Int.reduceSub, Int.reduceMul, Int.reduceLT, Int.reduceLE, Int.reduceNeg, Int.reduceBEq, Int.reduceBNe, Int.reduceEq, beq_self_eq_true, reduceCtorEq, decide_true, decide_false, if_pos, if_neg]; first | done | omega))) only [go_sem, ↓reduceIte, Nat.reduceEqDiff, Nat.reduceAdd, Nat.reduceMul, Nat.reduceSub, Nat.reduceLT, Nat.reduceLeDiff, Nat.reduceBNe, Nat.reduceBEq, Int.reduceToNat, Int.reduceAdd, Int.reduceSub, Int.reduceMul, Int.reduceLT, Int.reduceLE, Int.reduceNeg, Int.reduceBEq, Int.reduceBNe, Int.reduceEq, beq_self_eq_true, reduceCtorEq, decide_true, decide_false, if_pos, if_neg, shD, shO, hy]) (by decide) (by decide))⟩
      · simp only [shD, shO, hy, ↓reduceIte, List.cons_append, List.nil_append, List.append_nil]
        have hy' : (fl ul m j).length ≠ 0 := hy
        refine go ?_
        refine cnd (fun h => ?_) (fun h => ?_)
        · simp only [decide_eq_true_eq, decide_eq_false_iff_not, Bool.or_eq_true, Bool.and_eq_true, Bool.or_eq_false_iff, Bool.and_eq_false_iff, Bool.not_eq_true', Bool.not_eq_false', bne_iff_ne, beq_iff_eq, ne_eq, bne_eq_false_iff_eq, beq_eq_false_iff_ne, ge_iff_le, gt_iff_lt, Int.not_le, Int.not_lt] at h
          have ey : (fl ul m j).length + 1 ≠ 0 := by omega
          have ex := fl_succ ul m j (by omega)
          refine go ?_
          refine R_nilR ⟨[0, 3], _, ?_, j + 1, by omega, by omega, rfl⟩
          exact Less.mk' (by simp (disch := (first | omega | (simp only [go_sem, ↓reduceIte, Nat.reduceEqDiff, Nat.reduceAdd, Nat.reduceMul, Nat.reduceSub, Nat.reduceLT, Nat.reduceLeDiff, Nat.reduceBNe, Nat.reduceBEq, Int.reduceToNat, Int.reduceAdd, Int.reduceSub, Int.reduceMul, Int.reduceLT, Int.reduceLE, Int.reduceNeg, Int.reduceBEq, Int.reduceBNe, Int.reduceEq, beq_self_eq_true, reduceCtorEq, decide_true, decide_false, if_pos, if_neg]; first | done | omega))) only [go_sem, ↓reduceIte, Nat.reduceEqDiff, Nat.reduceAdd, Nat.reduceMul, Nat.reduceSub, Nat.reduceLT, Nat.reduceLeDiff, Nat.reduceBNe, Nat.reduceBEq, Int.reduceToNat, Int.reduceAdd, Int.reduceSub, Int.reduceMul, Int.reduceLT, Int.reduceLE, Int.reduceNeg, Int.reduceBEq, Int.reduceBNe, Int.reduceEq, beq_self_eq_true, reduceCtorEq, decide_true, decide_false, if_pos, if_neg, ex, shD, shO, ey, hy', ints_cons]) (by simp (disch := (first | omega | (simp only [go_sem, ↓reduceIte, Nat.reduceEqDiff, Nat.reduceAdd, Nat.reduceMul, Nat.reduceSub, Nat.reduceLT, Nat.reduceLeDiff, Nat.reduceBNe, Nat.reduceBEq, Int.reduceToNat, Int.reduceAdd, Int.reduceSub, Int.reduceMul, Int.reduceLT, Int.reduceLE, Int.reduceNeg, Int.reduceBEq, Int.reduceBNe, Int.reduceEq, beq_self_eq_true, reduceCtorEq, decide_true, decide_false, if_pos, if_neg]; first | done | omega))) only [go_sem, ↓reduceIte, Nat.reduceEqDiff, Nat.reduceAdd, Nat.reduceMul, Nat.reduceSub, Nat.reduceLT, Nat.reduceLeDiff, Nat.reduceBNe, Nat.reduceBEq, Int.reduceToNat, Int.reduceAdd, Int.reduceSub, Int.reduceMul, Int.reduceLT, Int.reduceLE, Int.reduceNeg, Int.reduceBEq, Int.reduceBNe, Int.reduceEq, beq_self_eq_true, reduceCtorEq, decide_true, decide_false, if_pos, if_neg, ex, shD, shO, ey, hy', ints_cons]) (by decide) (by decide)
        · exact R_exitR ⟨fl ul m j, ⟨fl_pk (by omega) hub hj, by omega⟩, Sub.less (ids := [0, 1]) (Less.mk' (by simp (disch := (first | omega | (simp only [go_sem, ↓reduceIte, Nat.reduceEqDiff, Nat.reduceAdd, Nat.reduceMul, Nat.reduceSub, Nat.reduceLT, Nat.reduceLeDiff, Nat.reduceBNe, Nat.reduceBEq, Int.reduceToNat, Int.reduceAdd, Int.reduceSub, Int.reduceMul, Int.reduceLT, Int.reduceLE, Int.reduceNeg, Int.reduceBEq, Int.reduceBNe, Int.reduceEq, beq_self_eq_true, reduceCtorEq, decide_true, decide_false, if_pos, if_neg]; first | done | omega))) only [go_sem, ↓reduceIte, Nat.reduceEqDiff, Nat.reduceAdd, Nat.reduceMul, Nat.reduceSub, Nat.reduceLT, Nat.reduceLeDiff, Nat.reduceBNe, Nat.reduceBEq, Int.reduceToNat, Int.reduceAdd, Int.reduceSub, Int.reduceMul, Int.reduceLT, Int.reduceLE, Int.reduceNeg, Int.reduceBEq, Int.reduceBNe, Int.reduceEq, beq_self_eq_true, reduceCtorEq, decide_true, decide_false, if_pos, if_neg, shD, shO, hy]) (by simp (disch := (first | omega | (simp only [go_sem, ↓reduceIte, Nat.reduceEqDiff, Nat.reduceAdd, Nat.reduceMul, Nat.reduceSub, Nat.reduceLT, Nat.reduceLeDiff, Nat.reduceBNe, Nat.reduceBEq, Int.reduceToNat, Int.reduceAdd, Int.reduceSub, Int.reduceMul, Int.reduceLT, Int.reduceLE, Int.reduceNeg, Int.reduceBEq, Int.reduceBNe, Int.reduceEq, beq_self_eq_true, reduceCtorEq, decide_true, decide_false, if_pos, if_neg]; first | done | omega))) only [go_sem, ↓reduceIte, Nat.reduceEqDiff, Nat.reduceAdd, Nat.reduceMul, Nat.reduceSub, Nat.reduceLT, Nat.reduceLeDiff, Nat.reduceBNe, Nat.reduceBEq, Int.reduceToNat, Int.reduceAdd, Int.reduceSub, Int.reduceMul, Int.reduceLT, Int.reduceLE, Int.reduceNeg, Int.reduceBEq, Int.reduceBNe, Int.reduceEq, beq_self_eq_true, reduceCtorEq, decide_true, decide_false, if_pos, if_neg, shD, shO, hy]) (by decide) (by decide))⟩
    rintro F0 ⟨hF0, hF04⟩
    refine R_seq ?_
    refine R_seq ?_
    refine R_mid2 (fun F : List Int => ⟨tl [(3, .sc (.int .u16 c)), (9, .pt 0 0), (10, .sl F.length (ints .i64 F)), (11, .em), (12, .em), (13, .em), (2, .sl ws.length (ints .u8 ws))], ol [(0, ⟨[.sl sz.length (ints .i64 sz), .sc (.int .i64 m), .sl da.length (ints .i64 da)], 24, 0, false⟩)], 1, [], 326⟩) (fun F => Pk m F ∧ 1 ≤ F.length ∧ F.length ≤ 4) ?_ ?_
    · by_cases hy : F0.length = 0
      · simp only [shD, shO, hy, ↓reduceIte, List.cons_append, List.nil_append, List.append_nil]
        refine go ?_
        refine cnd (fun h => ?_) (fun h => ?_)
        · refine go ?_
          exact R_nilM [0] ⟨Pk_zero (by omega), by decide, by decide⟩ (Sub.trans (Sub.less (ids := [0, 2]) (s' := ⟨tl [(3, .sc (.int .u16 c)), (9, .pt 0 0), (10, .rf 1 0 1 1), (11, .em), (12, .em), (13, .em), (2, .sl ws.length (ints .u8 ws))], ol [(0, ⟨[.sl sz.length (ints .i64 sz), .sc (.int .i64 m), .sl da.length (ints .i64 da)], 24, 0, false⟩), (1, ⟨ints .i64 [0], 3, 1, false⟩)], 2, [], 326⟩) (Less.mk' (by simp (disch := (first | omega | (simp only [go_sem, ↓reduceIte, Nat.reduceEqDiff, Nat.reduceAdd, Nat.reduceMul, Nat.reduceSub, Nat.reduceLT, Nat.reduceLeDiff, Nat.reduceBNe, Nat.reduceBEq, Int.reduceToNat, Int.reduceAdd, Int.reduceSub, Int.reduceMul, Int.reduceLT, Int.reduceLE, Int.reduceNeg, Int.reduceBEq, Int.reduceBNe, Int.reduceEq, beq_self_eq_true, reduceCtorEq, decide_true, decide_false, if_pos, if_neg]; first | done | omega))) only [go_sem, ↓reduceIte, Nat.reduceEqDiff, Nat.reduceAdd, Nat.reduceMul, Nat.reduceSub, Nat.reduceLT, Nat.reduceLeDiff, Nat.reduceBNe, Nat.reduceBEq, Int.reduceToNat, Int.reduceAdd, Int.reduceSub, Int.reduceMul, Int.reduceLT, Int.reduceLE, Int.reduceNeg, Int.reduceBEq, Int.reduceBNe, Int.reduceEq, beq_self_eq_true, reduceCtorEq, decide_true, decide_false, if_pos, if_neg, ints_cons, ints_nil]) (by simp (disch := (first | omega | (simp only [go_sem, ↓reduceIte, Nat.reduceEqDiff, Nat.reduceAdd, Nat.reduceMul, Nat.reduceSub, Nat.reduceLT, Nat.reduceLeDiff, Nat.reduceBNe, Nat.reduceBEq, Int.reduceToNat, Int.reduceAdd, Int.reduceSub, Int.reduceMul, Int.reduceLT, Int.reduceLE, Int.reduceNeg, Int.reduceBEq, Int.reduceBNe, Int.reduceEq, beq_self_eq_true, reduceCtorEq, decide_true, decide_false, if_pos, if_neg]; first | done | omega))) only [go_sem, ↓reduceIte, Nat.reduceEqDiff, Nat.reduceAdd, Nat.reduceMul, Nat.reduceSub, Nat.reduceLT, Nat.reduceLeDiff, Nat.reduceBNe, Nat.reduceBEq, Int.reduceToNat, Int.reduceAdd, Int.reduceSub, Int.reduceMul, Int.reduceLT, Int.reduceLE, Int.reduceNeg, Int.reduceBEq, Int.reduceBNe, Int.reduceEq, beq_self_eq_true, reduceCtorEq, decide_true, decide_false, if_pos, if_neg, ints_cons, ints_nil]) (by decide) (by decide))) (Sub.trans (Sub.frz [1] rfl) (Sub.trans (Sub.seen [1] [(3, .sc (.int .u16 c)), (9, .pt 0 0), (10, .sl 1 (ints .i64 [0])), (11, .em), (12, .em), (13, .em), (2, .sl ws.length (ints .u8 ws))] (frz_cons (fun o h => by cases h; rfl) (frz_nil _)) ⟨.inl (by simp (disch := (first | omega | (simp only [go_sem, ↓reduceIte, Nat.reduceEqDiff, Nat.reduceAdd, Nat.reduceMul, Nat.reduceSub, Nat.reduceLT, Nat.reduceLeDiff, Nat.reduceBNe, Nat.reduceBEq, Int.reduceToNat, Int.reduceAdd, Int.reduceSub, Int.reduceMul, Int.reduceLT, Int.reduceLE, Int.reduceNeg, Int.reduceBEq, Int.reduceBNe, Int.reduceEq, beq_self_eq_true, reduceCtorEq, decide_true, decide_false, if_pos, if_neg]; first | done | omega))) only [go_sem, ↓reduceIte, Nat.reduceEqDiff, Nat.reduceAdd, Nat.reduceMul, Nat.reduceSub, Nat.reduceLT, Nat.reduceLeDiff, Nat.reduceBNe, Nat.reduceBEq, Int.reduceToNat, Int.reduceAdd, Int.reduceSub, Int.reduceMul, Int.reduceLT, Int.reduceLE, Int.reduceNeg, Int.reduceBEq, Int.reduceBNe, Int.reduceEq, beq_self_eq_true, reduceCtorEq, decide_true, decide_false, if_pos, if_neg] <;> rfl), .inl (by simp (disch := (first | omega | (simp only [go_sem, ↓reduceIte, Nat.reduceEqDiff, Nat.reduceAdd, Nat.reduceMul, Nat.reduceSub, Nat.reduceLT, Nat.reduceLeDiff, Nat.reduceBNe, Nat.reduceBEq, Int.reduceToNat, Int.reduceAdd, Int.reduceSub, Int.reduceMul, Int.reduceLT, Int.reduceLE, Int.reduceNeg, Int.reduceBEq, Int.reduceBNe, Int.reduceEq, beq_self_eq_true, reduceCtorEq, decide_true, decide_false, if_pos, if_neg]; first | done | omega))) only [go_sem, ↓reduceIte, Nat.reduceEqDiff, Nat.reduceAdd, Nat.reduceMul, Nat.reduceSub, Nat.reduceLT, Nat.reduceLeDiff, Nat.reduceBNe, Nat.reduceBEq, Int.reduceToNat, Int.reduceAdd, Int.reduceSub, Int.reduceMul, Int.reduceLT, Int.reduceLE, Int.reduceNeg, Int.reduceBEq, Int.reduceBNe, Int.reduceEq, beq_self_eq_true, reduceCtorEq, decide_true, decide_false, if_pos, if_neg] <;> rfl), .inr (by simp (disch := (first | omega | (simp only [go_sem, ↓reduceIte, Nat.reduceEqDiff, Nat.reduceAdd, Nat.reduceMul, Nat.reduceSub, Nat.reduceLT, Nat.reduceLeDiff, Nat.reduceBNe, Nat.reduceBEq, Int.reduceToNat, Int.reduceAdd, Int.reduceSub, Int.reduceMul, Int.reduceLT, Int.reduceLE, Int.reduceNeg, Int.reduceBEq, Int.reduceBNe, Int.reduceEq, beq_self_eq_true, reduceCtorEq, decide_true, decide_false, if_pos, if_neg]; first | done | omega))) only [go_sem, ↓reduceIte, Nat.reduceEqDiff, Nat.reduceAdd, Nat.reduceMul, Nat.reduceSub, Nat.reduceLT, Nat.reduceLeDiff, Nat.reduceBNe, Nat.reduceBEq, Int.reduceToNat, Int.reduceAdd, Int.reduceSub, Int.reduceMul, Int.reduceLT, Int.reduceLE, Int.reduceNeg, Int.reduceBEq, Int.reduceBNe, Int.reduceEq, beq_self_eq_true, reduceCtorEq, decide_true, decide_false, if_pos, if_neg, fzO, Sg.app, List.foldl_cons, List.foldl_nil, List.length_nil]), .inl (by simp (disch := (first | omega | (simp only [go_sem, ↓reduceIte, Nat.reduceEqDiff, Nat.reduceAdd, Nat.reduceMul, Nat.reduceSub, Nat.reduceLT, Nat.reduceLeDiff, Nat.reduceBNe, Nat.reduceBEq, Int.reduceToNat, Int.reduceAdd, Int.reduceSub, Int.reduceMul, Int.reduceLT, Int.reduceLE, Int.reduceNeg, Int.reduceBEq, Int.reduceBNe, Int.reduceEq, beq_self_eq_true, reduceCtorEq, decide_true, decide_false, if_pos, if_neg]; first | done | omega))) only [go_sem, ↓reduceIte, Nat.reduceEqDiff, Nat.reduceAdd, Nat.reduceMul, Nat.reduceSub, Nat.reduceLT, Nat.reduceLeDiff, Nat.reduceBNe, Nat.reduceBEq, Int.reduceToNat, Int.reduceAdd, Int.reduceSub, Int.reduceMul, Int.reduceLT, Int.reduceLE, Int.reduceNeg, Int.reduceBEq, Int.reduceBNe, Int.reduceEq, beq_self_eq_true, reduceCtorEq, decide_true, decide_false, if_pos, if_neg] <;> rfl), .inl (by simp (disch := (first | omega | (simp only [go_sem, ↓reduceIte, Nat.reduceEqDiff, Nat.reduceAdd, Nat.reduceMul, Nat.reduceSub, Nat.reduceLT, Nat.reduceLeDiff, Nat.reduceBNe, Nat.reduceBEq, Int.reduceToNat, Int.reduceAdd, Int.reduceSub, Int.reduceMul, Int.reduceLT, Int.reduceLE, Int.reduceNeg, Int.reduceBEq, Int.reduceBNe, Int.reduceEq, beq_self_eq_true, reduceCtorEq, decide_true, decide_false, if_pos, if_neg]; first | done | omega))) only [go_sem, ↓reduceIte, Nat.reduceEqDiff, Nat.reduceAdd, Nat.reduceMul, Nat.reduceSub, Nat.reduceLT, Nat.reduceLeDiff, Nat.reduceBNe, Nat.reduceBEq, Int.reduceToNat, Int.reduceAdd, Int.reduceSub, Int.reduceMul, Int.reduceLT, Int.reduceLE, Int.reduceNeg, Int.reduceBEq, Int.reduceBNe, Int.reduceEq, beq_self_eq_true, reduceCtorEq, decide_true, decide_false, if_pos, if_neg] <;> rfl), .inl (by simp (disch := (first | omega | (simp only [go_sem, ↓reduceIte, Nat.reduceEqDiff, Nat.reduceAdd, Nat.reduceMul, Nat.reduceSub, Nat.reduceLT, Nat.reduceLeDiff, Nat.reduceBNe, Nat.reduceBEq, Int.reduceToNat, Int.reduceAdd, Int.reduceSub, Int.reduceMul, Int.reduceLT, Int.reduceLE, Int.reduceNeg, Int.reduceBEq, Int.reduceBNe, Int.reduceEq, beq_self_eq_true, reduceCtorEq, decide_true, decide_false, if_pos, if_neg]; first | done | omega))) only [go_sem, ↓reduceIte, Nat.reduceEqDiff, Nat.reduceAdd, Nat.reduceMul, Nat.reduceSub, Nat.reduceLT, Nat.reduceLeDiff, Nat.reduceBNe, Nat.reduceBEq, Int.reduceToNat, Int.reduceAdd, Int.reduceSub, Int.reduceMul, Int.reduceLT, Int.reduceLE, Int.reduceNeg, Int.reduceBEq, Int.reduceBNe, Int.reduceEq, beq_self_eq_true, reduceCtorEq, decide_true, decide_false, if_pos, if_neg] <;> rfl), .inl (by simp (disch := (first | omega | (simp only [go_sem, ↓reduceIte, Nat.reduceEqDiff, Nat.reduceAdd, Nat.reduceMul, Nat.reduceSub, Nat.reduceLT, Nat.reduceLeDiff, Nat.reduceBNe, Nat.reduceBEq, Int.reduceToNat, Int.reduceAdd, Int.reduceSub, Int.reduceMul, Int.reduceLT, Int.reduceLE, Int.reduceNeg, Int.reduceBEq, Int.reduceBNe, Int.reduceEq, beq_self_eq_true, reduceCtorEq, decide_true, decide_false, if_pos, if_neg]; first | done | omega))) only [go_sem, ↓reduceIte, Nat.reduceEqDiff, Nat.reduceAdd, Nat.reduceMul, Nat.reduceSub, Nat.reduceLT, Nat.reduceLeDiff, Nat.reduceBNe, Nat.reduceBEq, Int.reduceToNat, Int.reduceAdd, Int.reduceSub, Int.reduceMul, Int.reduceLT, Int.reduceLE, Int.reduceNeg, Int.reduceBEq, Int.reduceBNe, Int.reduceEq, beq_self_eq_true, reduceCtorEq, decide_true, decide_false, if_pos, if_neg] <;> rfl), trivial⟩) (Sub.less (ids := [0]) (Less.mk' (by simp (disch := (first | omega | (simp only [go_sem, ↓reduceIte, Nat.reduceEqDiff, Nat.reduceAdd, Nat.reduceMul, Nat.reduceSub, Nat.reduceLT, Nat.reduceLeDiff, Nat.reduceBNe, Nat.reduceBEq, Int.reduceToNat, Int.reduceAdd, Int.reduceSub, Int.reduceMul, Int.reduceLT, Int.reduceLE, Int.reduceNeg, Int.reduceBEq, Int.reduceBNe, Int.reduceEq, beq_self_eq_true, reduceCtorEq, decide_true, decide_false, if_pos, if_neg]; first | done | omega))) only [go_sem, ↓reduceIte, Nat.reduceEqDiff, Nat.reduceAdd, Nat.reduceMul, Nat.reduceSub, Nat.reduceLT, Nat.reduceLeDiff, Nat.reduceBNe, Nat.reduceBEq, Int.reduceToNat, Int.reduceAdd, Int.reduceSub, Int.reduceMul, Int.reduceLT, Int.reduceLE, Int.reduceNeg, Int.reduceBEq, Int.reduceBNe, Int.reduceEq, beq_self_eq_true, reduceCtorEq, decide_true, decide_false, if_pos, if_neg]) (by simp (disch := (first | omega | (simp only [go_sem, ↓reduceIte, Nat.reduceEqDiff, Nat.reduceAdd, Nat.reduceMul, Nat.reduceSub, Nat.reduceLT, Nat.reduceLeDiff, Nat.reduceBNe, Nat.reduceBEq, Int.reduceToNat, Int.reduceAdd, Int.reduceSub, Int.reduceMul, Int.reduceLT, Int.reduceLE, Int.reduceNeg, Int.reduceBEq, Int.reduceBNe, Int.reduceEq, beq_self_eq_true, reduceCtorEq, decide_true, decide_false, if_pos, if_neg]; first | done | omega))) only [go_sem, ↓reduceIte, Nat.reduceEqDiff, Nat.reduceAdd, Nat.reduceMul, Nat.reduceSub, Nat.reduceLT, Nat.reduceLeDiff, Nat.reduceBNe, Nat.reduceBEq, Int.reduceToNat, Int.reduceAdd, Int.reduceSub, Int.reduceMul, Int.reduceLT, Int.reduceLE, Int.reduceNeg, Int.reduceBEq, Int.reduceBNe, Int.reduceEq, beq_self_eq_true, reduceCtorEq, decide_true, decide_false, if_pos, if_neg, fzO, Sg.app, List.foldl_cons, List.foldl_nil]) (by decide) (by decide))))))
        · cases h
      · simp only [shD, shO, hy, ↓reduceIte, List.cons_append, List.nil_append, List.append_nil]
        refine go ?_
        refine cnd (fun h => ?_) (fun h => ?_)
        · simp only [decide_eq_true_eq, decide_eq_false_iff_not, Bool.or_eq_true, Bool.and_eq_true, Bool.or_eq_false_iff, Bool.and_eq_false_iff, Bool.not_eq_true', Bool.not_eq_false', bne_iff_ne, beq_iff_eq, ne_eq, bne_eq_false_iff_eq, beq_eq_false_iff_ne, ge_iff_le, gt_iff_lt, Int.not_le, Int.not_lt] at h
          omega
        · refine go ?_
          exact R_nilM F0 ⟨hF0, by omega, by omega⟩ (Sub.trans (Sub.less (ids := [0, 1]) (s' := ⟨tl [(3, .sc (.int .u16 c)), (9, .pt 0 0), (10, .rf 1 0 F0.length 1), (11, .em), (12, .em), (13, .em), (2, .sl ws.length (ints .u8 ws))], ol [(0, ⟨[.sl sz.length (ints .i64 sz), .sc (.int .i64 m), .sl da.length (ints .i64 da)], 24, 0, false⟩), (1, ⟨ints .i64 F0, 3, 1, false⟩)], 2, [], 326⟩) (Less.mk' (by simp (disch := (first | omega | (simp only [go_sem, ↓reduceIte, Nat.reduceEqDiff, Nat.reduceAdd, Nat.reduceMul, Nat.reduceSub, Nat.reduceLT, Nat.reduceLeDiff, Nat.reduceBNe, Nat.reduceBEq, Int.reduceToNat, Int.reduceAdd, Int.reduceSub, Int.reduceMul, Int.reduceLT, Int.reduceLE, Int.reduceNeg, Int.reduceBEq, Int.reduceBNe, Int.reduceEq, beq_self_eq_true, reduceCtorEq, decide_true, decide_false, if_pos, if_neg]; first | done | omega))) only [go_sem, ↓reduceIte, Nat.reduceEqDiff, Nat.reduceAdd, Nat.reduceMul, Nat.reduceSub, Nat.reduceLT, Nat.reduceLeDiff, Nat.reduceBNe, Nat.reduceBEq, Int.reduceToNat, Int.reduceAdd, Int.reduceSub, Int.reduceMul, Int.reduceLT, Int.reduceLE, Int.reduceNeg, Int.reduceBEq, Int.reduceBNe, Int.reduceEq, beq_self_eq_true, reduceCtorEq, decide_true, decide_false, if_pos, if_neg]) (by simp (disch := (first | omega | (simp only [go_sem, ↓reduceIte, Nat.reduceEqDiff, Nat.reduceAdd, Nat.reduceMul, Nat.reduceSub, Nat.reduceLT, Nat.reduceLeDiff, Nat.reduceBNe, Nat.reduceBEq, Int.reduceToNat, Int.reduceAdd, Int.reduceSub, Int.reduceMul, Int.reduceLT, Int.reduceLE, Int.reduceNeg, Int.reduceBEq, Int.reduceBNe, Int.reduceEq, beq_self_eq_true, reduceCtorEq, decide_true, decide_false, if_pos, if_neg]; first | done | omega))) only [go_sem, ↓reduceIte, Nat.reduceEqDiff, Nat.reduceAdd, Nat.reduceMul, Nat.reduceSub, Nat.reduceLT, Nat.reduceLeDiff, Nat.reduceBNe, Nat.reduceBEq, Int.reduceToNat, Int.reduceAdd, Int.reduceSub, Int.reduceMul, Int.reduceLT, Int.reduceLE, Int.reduceNeg, Int.reduceBEq, Int.reduceBNe, Int.reduceEq, beq_self_eq_true, reduceCtorEq, decide_true, decide_false, if_pos, if_neg]) (by decide) (by decide))) (Sub.trans (Sub.frz [1] rfl) (Sub.trans (Sub.seen [1] [(3, .sc (.int .u16 c)), (9, .pt 0 0), (10, .sl F0.length (ints .i64 F0)), (11, .em), (12, .em), (13, .em), (2, .sl ws.length (ints .u8 ws))] (frz_cons (fun o h => by cases h; rfl) (frz_nil _)) ⟨.inl (by simp (disch := (first | omega | (simp only [go_sem, ↓reduceIte, Nat.reduceEqDiff, Nat.reduceAdd, Nat.reduceMul, Nat.reduceSub, Nat.reduceLT, Nat.reduceLeDiff, Nat.reduceBNe, Nat.reduceBEq, Int.reduceToNat, Int.reduceAdd, Int.reduceSub, Int.reduceMul, Int.reduceLT, Int.reduceLE, Int.reduceNeg, Int.reduceBEq, Int.reduceBNe, Int.reduceEq, beq_self_eq_true, reduceCtorEq, decide_true, decide_false, if_pos, if_neg]; first | done | omega))) only [go_sem, ↓reduceIte, Nat.reduceEqDiff, Nat.reduceAdd, Nat.reduceMul, Nat.reduceSub, Nat.reduceLT, Nat.reduceLeDiff, Nat.reduceBNe, Nat.reduceBEq, Int.reduceToNat, Int.reduceAdd, Int.reduceSub, Int.reduceMul, Int.reduceLT, Int.reduceLE, Int.reduceNeg, Int.reduceBEq, Int.reduceBNe, Int.reduceEq, beq_self_eq_true, reduceCtorEq, decide_true, decide_false, if_pos, if_neg] <;> rfl), .inl (by simp (disch := (first | omega | (simp only [go_sem, ↓reduceIte, Nat.reduceEqDiff, Nat.reduceAdd, Nat.reduceMul, Nat.reduceSub, Nat.reduceLT, Nat.reduceLeDiff, Nat.reduceBNe, Nat.reduceBEq, Int.reduceToNat, Int.reduceAdd, Int.reduceSub, Int.reduceMul, Int.reduceLT, Int.reduceLE, Int.reduceNeg, Int.reduceBEq, Int.reduceBNe, Int.reduceEq, beq_self_eq_true, reduceCtorEq, decide_true, decide_false, if_pos, if_neg]; first | done | omega))) only [go_sem, ↓reduceIte, Nat.reduceEqDiff, Nat.reduceAdd, Nat.reduceMul, Nat.reduceSub, Nat.reduceLT, Nat.reduceLeDiff, Nat.reduceBNe, Nat.reduceBEq, Int.reduceToNat, Int.reduceAdd, Int.reduceSub, Int.reduceMul, Int.reduceLT, Int.reduceLE, Int.reduceNeg, Int.reduceBEq, Int.reduceBNe, Int.reduceEq, beq_self_eq_true, reduceCtorEq, decide_true, decide_false, if_pos, if_neg] <;> rfl), .inr (by simp (disch := (first | omega | (simp only [go_sem, ↓reduceIte, Nat.reduceEqDiff, Nat.reduceAdd, Nat.reduceMul, Nat.reduceSub, Nat.reduceLT, Nat.reduceLeDiff, Nat.reduceBNe, Nat.reduceBEq, Int.reduceToNat, Int.reduceAdd, Int.reduceSub, Int.reduceMul, Int.reduceLT, Int.reduceLE, Int.reduceNeg, Int.reduceBEq, Int.reduceBNe, Int.reduceEq, beq_self_eq_true, reduceCtorEq, decide_true, decide_false, if_pos, if_neg]; first | done | omega))) only [go_sem, ↓reduceIte, Nat.reduceEqDiff, Nat.reduceAdd, Nat.reduceMul, Nat.reduceSub, Nat.reduceLT, Nat.reduceLeDiff, Nat.reduceBNe, Nat.reduceBEq, Int.reduceToNat, Int.reduceAdd, Int.reduceSub, Int.reduceMul, Int.reduceLT, Int.reduceLE, Int.reduceNeg, Int.reduceBEq, Int.reduceBNe, Int.reduceEq, beq_self_eq_true, reduceCtorEq, decide_true, decide_false, if_pos, if_neg, fzO, Sg.app, List.foldl_cons, List.foldl_nil, List.length_nil]), .inl (by simp (disch := (first | omega | (simp only [go_sem, ↓reduceIte, Nat.reduceEqDiff, Nat.reduceAdd, Nat.reduceMul, Nat.reduceSub, Nat.reduceLT, Nat.reduceLeDiff, Nat.reduceBNe, Nat.reduceBEq, Int.reduceToNat, Int.reduceAdd, Int.reduceSub, Int.reduceMul, Int.reduceLT, Int.reduceLE, Int.reduceNeg, Int.reduceBEq, Int.reduceBNe, Int.reduceEq, beq_self_eq_true, reduceCtorEq, decide_true, decide_false, if_pos, if_neg]; first | done | omega))) only [go_sem, ↓reduceIte, Nat.reduceEqDiff, Nat.reduceAdd, Nat.reduceMul, Nat.reduceSub, Nat.reduceLT, Nat.reduceLeDiff, Nat.reduceBNe, Nat.reduceBEq, Int.reduceToNat, Int.reduceAdd, Int.reduceSub, Int.reduceMul, Int.reduceLT, Int.reduceLE, Int.reduceNeg, Int.reduceBEq, Int.reduceBNe, Int.reduceEq, beq_self_eq_true, reduceCtorEq, decide_true, decide_false, if_pos, if_neg] <;> rfl), .inl (by simp (disch := (first | omega | (simp only [go_sem, ↓reduceIte, Nat.reduceEqDiff, Nat.reduceAdd, Nat.reduceMul, Nat.reduceSub, Nat.reduceLT, Nat.reduceLeDiff, Nat.reduceBNe, Nat.reduceBEq, Int.reduceToNat, Int.reduceAdd, Int.reduceSub, Int.reduceMul, Int.reduceLT, Int.reduceLE, Int.reduceNeg, Int.reduceBEq, Int.reduceBNe, Int.reduceEq, beq_self_eq_true, reduceCtorEq, decide_true, decide_false, if_pos, if_neg]; first | done | omega))) only [go_sem, ↓reduceIte, Nat.reduceEqDiff, Nat.reduceAdd, Nat.reduceMul, Nat.reduceSub, Nat.reduceLT, Nat.reduceLeDiff, Nat.reduceBNe, Nat.reduceBEq, Int.reduceToNat, Int.reduceAdd, Int.reduceSub, Int.reduceMul, Int.reduceLT, Int.reduceLE, Int.reduceNeg, Int.reduceBEq, Int.reduceBNe, Int.reduceEq, beq_self_eq_true, reduceCtorEq, decide_true, decide_false, if_pos, if_neg] <;> rfl), .inl (by simp (disch := (first | omega | (simp only [go_sem, ↓reduceIte, Nat.reduceEqDiff, Nat.reduceAdd, Nat.reduceMul, Nat.reduceSub, Nat.reduceLT, Nat.reduceLeDiff, Nat.reduceBNe, Nat.reduceBEq, Int.reduceToNat, Int.reduceAdd, Int.reduceSub, Int.reduceMul, Int.reduceLT, Int.reduceLE, Int.reduceNeg, Int.reduceBEq, Int.reduceBNe, Int.reduceEq, beq_self_eq_true, reduceCtorEq, decide_true, decide_false, if_pos, if_neg]; first | done | omega))) only [go_sem, ↓reduceIte, Nat.reduceEqDiff, Nat.reduceAdd, Nat.reduceMul, Nat.reduceSub, Nat.reduceLT, Nat.reduceLeDiff, Nat.reduceBNe, Nat.reduceBEq, Int.reduceToNat, Int.reduceAdd, Int.reduceSub, Int.reduceMul, Int.reduceLT, Int.reduceLE, Int.reduceNeg, Int.reduceBEq, Int.reduceBNe, Int.reduceEq, beq_self_eq_true, reduceCtorEq, decide_true, decide_false, if_pos, if_neg] <;> rfl), .inl (by simp (disch := (first | omega | (simp only [go_sem, ↓reduceIte, Nat.reduceEqDiff, Nat.reduceAdd, Nat.reduceMul, Nat.reduceSub, Nat.reduceLT, Nat.reduceLeDiff, Nat.reduceBNe, Nat.reduceBEq, Int.reduceToNat, Int.reduceAdd, Int.reduceSub, Int.reduceMul, Int.reduceLT, Int.reduceLE, Int.reduceNeg, Int.reduceBEq, Int.reduceBNe, Int.reduceEq, beq_self_eq_true, reduceCtorEq, decide_true, decide_false, if_pos, if_neg]; first | done | omega))) only [go_sem, ↓reduceIte, Nat.reduceEqDiff, Nat.reduceAdd, Nat.reduceMul, Nat.reduceSub, Nat.reduceLT, Nat.reduceLeDiff, Nat.reduceBNe, Nat.reduceBEq, Int.reduceToNat, Int.reduceAdd, Int.reduceSub, Int.reduceMul, Int.reduceLT, Int.reduceLE, Int.reduceNeg, Int.reduceBEq, Int.reduceBNe, Int.reduceEq, beq_self_eq_true, reduceCtorEq, decide_true, decide_false, if_pos, if_neg] <;> rfl), trivial⟩) (Sub.less (ids := [0]) (Less.mk' (by simp (disch := (first | omega | (simp only [go_sem, ↓reduceIte, Nat.reduceEqDiff, Nat.reduceAdd, Nat.reduceMul, Nat.reduceSub, Nat.reduceLT, Nat.reduceLeDiff, Nat.reduceBNe, Nat.reduceBEq, Int.reduceToNat, Int.reduceAdd, Int.reduceSub, Int.reduceMul, Int.reduceLT, Int.reduceLE, Int.reduceNeg, Int.reduceBEq, Int.reduceBNe, Int.reduceEq, beq_self_eq_true, reduceCtorEq, decide_true, decide_false, if_pos, if_neg]; first | done | omega))) only [go_sem, ↓reduceIte, Nat.reduceEqDiff, Nat.reduceAdd, Nat.reduceMul, Nat.reduceSub, Nat.reduceLT, Nat.reduceLeDiff, Nat.reduceBNe, Nat.reduceBEq, Int.reduceToNat, Int.reduceAdd, Int.reduceSub, Int.reduceMul, Int.reduceLT, Int.reduceLE, Int.reduceNeg, Int.reduceBEq, Int.reduceBNe, Int.reduceEq, beq_self_eq_true, reduceCtorEq, decide_true, decide_false, if_pos, if_neg]) (by simp (disch := (first | omega | (simp only [go_sem, ↓reduceIte, Nat.reduceEqDiff, Nat.reduceAdd, Nat.reduceMul, Nat.reduceSub, Nat.reduceLT, Nat.reduceLeDiff, Nat.reduceBNe, Nat.reduceBEq, Int.reduceToNat, Int.reduceAdd, Int.reduceSub, Int.reduceMul, Int.reduceLT, Int.reduceLE, Int.reduceNeg, Int.reduceBEq, Int.reduceBNe, Int.reduceEq, beq_self_eq_true, reduceCtorEq, decide_true, decide_false, if_pos, if_neg]; first | done | omega))) only [go_sem, ↓reduceIte, Nat.reduceEqDiff, Nat.reduceAdd, Nat.reduceMul, Nat.reduceSub, Nat.reduceLT, Nat.reduceLeDiff, Nat.reduceBNe, Nat.reduceBEq, Int.reduceToNat, Int.reduceAdd, Int.reduceSub, Int.reduceMul, Int.reduceLT, Int.reduceLE, Int.reduceNeg, Int.reduceBEq, Int.reduceBNe, Int.reduceEq, beq_self_eq_true, reduceCtorEq, decide_true, decide_false, if_pos, if_neg, fzO, Sg.app, List.foldl_cons, List.foldl_nil]) (by decide) (by decide))))))
    rintro F ⟨hF, hF1, hF4⟩
    -- the second list
    refine go ?_
    refine R_midB (fun G : List Int => ⟨tl [(3, .sc (.int .u16 c)), (9, .pt 0 0), (10, .sl F.length (ints .i64 F)), (11, shD 1 G), (12, .em), (13, .em)], ol ([(0, ⟨[.sl sz.length (ints .i64 sz), .sc (.int .i64 m), .sl da.length (ints .i64 da)], 24, 0, false⟩)] ++ shO 1 G), 2, [], 326⟩) (fun G => Pk F.length G ∧ G.length ≤ 4) ?_ ?_
    · refine R_loop (fun j : Nat => ⟨tl [(3, .sc (.int .u16 c)), (9, .pt 0 0), (10, .sl F.length (ints .i64 F)), (11, shD 1 (fl wl F.length j)), (12, .em), (13, .em), (73, .sl wl.length (ints .u8 wl)), (74, .sc (.int .i64 wl.length)), (75, .sc (.int .i64 j))], ol ([(0, ⟨[.sl sz.length (ints .i64 sz), .sc (.int .i64 m), .sl da.length (ints .i64 da)], 24, 0, false⟩)] ++ shO 1 (fl wl F.length j)), 2, [], 326⟩) (fun j => j ≤ wl.length) (fun j => wl.length - j) 0 [0] (Less.mk' (by simp (disch := (first | omega | (simp only [go_sem, ↓reduceIte, Nat.reduceEqDiff, Nat.reduceAdd, Nat.reduceMul, Nat.reduceSub, Nat.reduceLT, Nat.reduceLeDiff, Nat.reduceBNe, Nat.reduceBEq, Int.reduceToNat, Int.reduceAdd, Int.reduceSub, Int.reduceMul, Int.reduceLT, Int.reduceLE, Int.reduceNeg, Int.reduceBEq, Int.reduceBNe, Int.reduceEq, beq_self_eq_true, reduceCtorEq, decide_true, decide_false, if_pos, if_neg]; first | done | omega))) only [go_sem, ↓reduceIte, Nat.reduceEqDiff, Nat.reduceAdd, Nat.reduceMul, Nat.reduceSub, Nat.reduceLT, Nat.reduceLeDiff, Nat.reduceBNe, Nat.reduceBEq, Int.reduceToNat, Int.reduceAdd, Int.reduceSub, Int.reduceMul, Int.reduceLT, Int.reduceLE, Int.reduceNeg, Int.reduceBEq, Int.reduceBNe, Int.reduceEq, beq_self_eq_true, reduceCtorEq, decide_true, decide_false, if_pos, if_neg, fl, shD, shO, hwll, ← hwl]) (by simp (disch := (first | omega | (simp only [go_sem, ↓reduceIte, Nat.reduceEqDiff, Nat.reduceAdd, Nat.reduceMul, Nat.reduceSub, Nat.reduceLT, Nat.reduceLeDiff, Nat.reduceBNe, Nat.reduceBEq, Int.reduceToNat, Int.reduceAdd, Int.reduceSub, Int.reduceMul, Int.reduceLT, Int.reduceLE, Int.reduceNeg, Int.reduceBEq, Int.reduceBNe, Int.reduceEq, beq_self_eq_true, reduceCtorEq, decide_true, decide_false, if_pos, if_neg]; first | done | omega))) only [go_sem, ↓reduceIte, Nat.reduceEqDiff, Nat.reduceAdd, Nat.reduceMul, Nat.reduceSub, Nat.reduceLT, Nat.reduceLeDiff, Nat.reduceBNe, Nat.reduceBEq, Int.reduceToNat, Int.reduceAdd, Int.reduceSub, Int.reduceMul, Int.reduceLT, Int.reduceLE, Int.reduceNeg, Int.reduceBEq, Int.reduceBNe, Int.reduceEq, beq_self_eq_true, reduceCtorEq, decide_true, decide_false, if_pos, if_neg, fl, shD, shO, hwll, ← hwl]) (by decide) (by decide)) (by omega) fun j hj => ?_
      have hfl := fl_length wl F.length j hj
      have hne : (F.length : Int) ≠ 0 := by omega
      have hwj := hwb j
      by_cases hy : (fl wl F.length j).length = 0
      · simp only [shD, shO, hy, ↓reduceIte, List.cons_append, List.nil_append, List.append_nil]
        have hy' : fl wl F.length j = [] := List.length_eq_zero_iff.1 hy
        refine go ?_
        refine cnd (fun h => ?_) (fun h => ?_)
        · simp only [decide_eq_true_eq, decide_eq_false_iff_not, Bool.or_eq_true, Bool.and_eq_true, Bool.or_eq_false_iff, Bool.and_eq_false_iff, Bool.not_eq_true', Bool.not_eq_false', bne_iff_ne, beq_iff_eq, ne_eq, bne_eq_false_iff_eq, beq_eq_false_iff_ne, ge_iff_le, gt_iff_lt, Int.not_le, Int.not_lt] at h
          have ey : (fl wl F.length j).length + 1 ≠ 0 := by omega
          have ex := fl_succ wl F.length j (by omega)
          refine go ?_
          refine R_nilR ⟨[0, 3], _, ?_, j + 1, by omega, by omega, rfl⟩
          exact Less.mk' (by simp (disch := (first | omega | (simp only [go_sem, ↓reduceIte, Nat.reduceEqDiff, Nat.reduceAdd, Nat.reduceMul, Nat.reduceSub, Nat.reduceLT, Nat.reduceLeDiff, Nat.reduceBNe, Nat.reduceBEq, Int.reduceToNat, Int.reduceAdd, Int.reduceSub, Int.reduceMul, Int.reduceLT, Int.reduceLE, Int.reduceNeg, Int.reduceBEq, Int.reduceBNe, Int.reduceEq, beq_self_eq_true, reduceCtorEq, decide_true, decide_false, if_pos, if_neg]; first | done | omega))) only [go_sem, ↓reduceIte, Nat.reduceEqDiff, Nat.reduceAdd, Nat.reduceMul, Nat.reduceSub, Nat.reduceLT, Nat.reduceLeDiff, Nat.reduceBNe, Nat.reduceBEq, Int.reduceToNat, Int.reduceAdd, Int.reduceSub, Int.reduceMul, Int.reduceLT, Int.reduceLE, Int.reduceNeg, Int.reduceBEq, Int.reduceBNe, Int.reduceEq, beq_self_eq_true, reduceCtorEq, decide_true, decide_false, if_pos, if_neg, ex, shD, shO, ey, hy', ints_cons]) (by simp (disch := (first | omega | (simp only [go_sem, ↓reduceIte, Nat.reduceEqDiff, Nat.reduceAdd, Nat.reduceMul, Nat.reduceSub, Nat.reduceLT, Nat.reduceLeDiff, Nat.reduceBNe, Nat.reduceBEq, Int.reduceToNat, Int.reduceAdd, Int.reduceSub, Int.reduceMul, Int.reduceLT, Int.reduceLE, Int.reduceNeg, Int.reduceBEq, Int.reduceBNe, Int.reduceEq, beq_self_eq_true, reduceCtorEq, decide_true, decide_false, if_pos, if_neg]; first | done | omega))) only [go_sem, ↓reduceIte, Nat.reduceEqDiff, Nat.reduceAdd, Nat.reduceMul, Nat.reduceSub, Nat.reduceLT, Nat.reduceLeDiff, Nat.reduceBNe, Nat.reduceBEq, Int.reduceToNat, Int.reduceAdd, Int.reduceSub, Int.reduceMul, Int.reduceLT, Int.reduceLE, Int.reduceNeg, Int.reduceBEq, Int.reduceBNe, Int.reduceEq, beq_self_eq_true, reduceCtorEq, decide_true, decide_false, if_pos, if_neg, ex, shD, shO, ey, hy', ints_cons]) (by decide) (by decide)
        · exact R_exitR ⟨fl wl F.length j, ⟨fl_pk (by omega) hwb hj, by omega⟩, Sub.less (ids := [0]) (Less.mk' (by simp (disch := (first | omega | (simp only [go_sem, ↓reduceIte, Nat.reduceEqDiff, Nat.reduceAdd, Nat.reduceMul, Nat.reduceSub, Nat.reduceLT, Nat.reduceLeDiff, Nat.reduceBNe, Nat.reduceBEq, Int.reduceToNat, Int.reduceAdd, Int.reduceSub, Int.reduceMul, Int.reduceLT, Int.reduceLE, Int.reduceNeg, Int.reduceBEq, Int.reduceBNe, Int.reduceEq, beq_self_eq_true, reduceCtorEq, decide_true, decide_false, if_pos, if_neg]; first | done | omega))) only [go_sem, ↓reduceIte, Nat.reduceEqDiff, Nat.reduceAdd, Nat.reduceMul, Nat.reduceSub, Nat.reduceLT, Nat.reduceLeDiff, Nat.reduceBNe, Nat.reduceBEq, Int.reduceToNat, Int.reduceAdd, Int.reduceSub, Int.reduceMul, Int.reduceLT, Int.reduceLE, Int.reduceNeg, Int.reduceBEq, Int.reduceBNe, Int.reduceEq, beq_self_eq_true, reduceCtorEq, decide_true, decide_false, if_pos, if_neg, shD, shO, hy]) (by simp (disch := (first | omega | (simp only [go_sem, ↓reduceIte, Nat.reduceEqDiff, Nat.reduceAdd, Nat.reduceMul, Nat.reduceSub, Nat.reduceLT, Nat.reduceLeDiff, Nat.reduceBNe, Nat.reduceBEq, Int.reduceToNat, Int.reduceAdd, Int.reduceSub, Int.reduceMul, Int.reduceLT, Int.reduceLE, Int.reduceNeg, Int.reduceBEq, Int.reduceBNe, Int.reduceEq, beq_self_eq_true, reduceCtorEq, decide_true, decide_false, if_pos, if_neg]; first | done | omega))) only [go_sem, ↓reduceIte, Nat.reduceEqDiff, Nat.reduceAdd, Nat.reduceMul, Nat.reduceSub, Nat.reduceLT, Nat.reduceLeDiff, Nat.reduceBNe, Nat.reduceBEq, Int.reduceToNat, Int.reduceAdd, Int.reduceSub, Int.reduceMul, Int.reduceLT, Int.reduceLE, Int.reduceNeg, Int.reduceBEq, Int.reduceBNe, Int.reduceEq, beq_self_eq_true, reduceCtorEq, decide_true, decide_false, if_pos, if_neg, shD, shO, hy]) (by decide) (by decide))⟩
      · simp only [shD, shO, hy, ↓reduceIte, List.cons_append, List.nil_append, List.append_nil]
        have hy' : (fl wl F.length j).length ≠ 0 := hy
        refine go ?_
        refine cnd (fun h => ?_) (fun h => ?_)
        · simp only [decide_eq_true_eq, decide_eq_false_iff_not, Bool.or_eq_true, Bool.and_eq_true, Bool.or_eq_false_iff, Bool.and_eq_false_iff, Bool.not_eq_true', Bool.not_eq_false', bne_iff_ne, beq_iff_eq, ne_eq, bne_eq_false_iff_eq, beq_eq_false_iff_ne, ge_iff_le, gt_iff_lt, Int.not_le, Int.not_lt] at h
          have ey : (fl wl F.length j).length + 1 ≠ 0 := by omega
          have ex := fl_succ wl F.length j (by omega)
          refine go ?_
          refine R_nilR ⟨[0, 3], _, ?_, j + 1, by omega, by omega, rfl⟩
          exact Less.mk' (by simp (disch := (first | omega | (simp only [go_sem, ↓reduceIte, Nat.reduceEqDiff, Nat.reduceAdd, Nat.reduceMul, Nat.reduceSub, Nat.reduceLT, Nat.reduceLeDiff, Nat.reduceBNe, Nat.reduceBEq, Int.reduceToNat, Int.reduceAdd, Int.reduceSub, Int.reduceMul, Int.reduceLT, Int.reduceLE, Int.reduceNeg, Int.reduceBEq, Int.reduceBNe, Int.reduceEq, beq_self_eq_true, reduceCtorEq, decide_true, decide_false, if_pos, if_neg]; first | done | omega))) only [go_sem, ↓reduceIte, Nat.reduceEqDiff, Nat.reduceAdd, Nat.reduceMul, Nat.reduceSub, Nat.reduceLT, Nat.reduceLeDiff, Nat.reduceBNe, Nat.reduceBEq, Int.reduceToNat, Int.reduceAdd, Int.reduceSub, Int.reduceMul, Int.reduceLT, Int.reduceLE, Int.reduceNeg, Int.reduceBEq, Int.reduceBNe, Int.reduceEq, beq_self_eq_true, reduceCtorEq, decide_true, decide_false, if_pos, if_neg, ex, shD, shO, ey, hy', ints_cons]) (by simp (disch := (first | omega | (simp only [go_sem, ↓reduceIte, Nat.reduceEqDiff, Nat.reduceAdd, Nat.reduceMul, Nat.reduceSub, Nat.reduceLT, Nat.reduceLeDiff, Nat.reduceBNe, Nat.reduceBEq, Int.reduceToNat, Int.reduceAdd, Int.reduceSub, Int.reduceMul, Int.reduceLT, Int.reduceLE, Int.reduceNeg, Int.reduceBEq, Int.reduceBNe, Int.reduceEq, beq_self_eq_true, reduceCtorEq, decide_true, decide_false, if_pos, if_neg]; first | done | omega))) only [go_sem, ↓reduceIte, Nat.reduceEqDiff, Nat.reduceAdd, Nat.reduceMul, Nat.reduceSub, Nat.reduceLT, Nat.reduceLeDiff, Nat.reduceBNe, Nat.reduceBEq, Int.reduceToNat, Int.reduceAdd, Int.reduceSub, Int.reduceMul, Int.reduceLT, Int.reduceLE, Int.reduceNeg, Int.reduceBEq, Int.reduceBNe, Int.reduceEq, beq_self_eq_true, reduceCtorEq, decide_true, decide_false, if_pos, if_neg, ex, shD, shO, ey, hy', ints_cons]) (by decide) (by decide)
        · exact R_exitR ⟨fl wl F.length j, ⟨fl_pk (by omega) hwb hj, by omega⟩, Sub.less (ids := [0, 1]) (Less.mk' (by simp (disch := (first | omega | (simp only [go_sem, ↓reduceIte, Nat.reduceEqDiff, Nat.reduceAdd, Nat.reduceMul, Nat.reduceSub, Nat.reduceLT, Nat.reduceLeDiff, Nat.reduceBNe, Nat.reduceBEq, Int.reduceToNat, Int.reduceAdd, Int.reduceSub, Int.reduceMul, Int.reduceLT, Int.reduceLE, Int.reduceNeg, Int.reduceBEq, Int.reduceBNe, Int.reduceEq, beq_self_eq_true, reduceCtorEq, decide_true, decide_false, if_pos, if_neg]; first | done | omega))) only [go_sem, ↓reduceIte, Nat.reduceEqDiff, Nat.reduceAdd, Nat.reduceMul, Nat.reduceSub, Nat.reduceLT, Nat.reduceLeDiff, Nat.reduceBNe, Nat.reduceBEq, Int.reduceToNat, Int.reduceAdd, Int.reduceSub, Int.reduceMul, Int.reduceLT, Int.reduceLE, Int.reduceNeg, Int.reduceBEq, Int.reduceBNe, Int.reduceEq, beq_self_eq_true, reduceCtorEq, decide_true, decide_false, if_pos, if_neg, shD, shO, hy]) (by simp (disch := (first | omega | (simp only [go_sem, ↓reduceIte, Nat.reduceEqDiff, Nat.reduceAdd, Nat.reduceMul, Nat.reduceSub, Nat.reduceLT, Nat.reduceLeDiff, Nat.reduceBNe, Nat.reduceBEq, Int.reduceToNat, Int.reduceAdd, Int.reduceSub, Int.reduceMul, Int.reduceLT, Int.reduceLE, Int.reduceNeg, Int.reduceBEq, Int.reduceBNe, Int.reduceEq, beq_self_eq_true, reduceCtorEq, decide_true, decide_false, if_pos, if_neg]; first | done | omega))) only [go_sem, ↓reduceIte, Nat.reduceEqDiff, Nat.reduceAdd, Nat.reduceMul, Nat.reduceSub, Nat.reduceLT, Nat.reduceLeDiff, Nat.reduceBNe, Nat.reduceBEq, Int.reduceToNat, Int.reduceAdd, Int.reduceSub, Int.reduceMul, Int.reduceLT, Int.reduceLE, Int.reduceNeg, Int.reduceBEq, Int.reduceBNe, Int.reduceEq, beq_self_eq_true, reduceCtorEq, decide_true, decide_false, if_pos, if_neg, shD, shO, hy]) (by decide) (by decide))⟩
    rintro G0 ⟨hG0, hG04⟩
    refine R_seq ?_
    refine R_seq ?_
    refine R_mid2 (fun G : List Int => ⟨tl [(3, .sc (.int .u16 c)), (9, .pt 0 0), (10, .sl F.length (ints .i64 F)), (11, .sl G.length (ints .i64 G)), (12, .em), (13, .em)], ol [(0, ⟨[.sl sz.length (ints .i64 sz), .sc (.int .i64 m), .sl da.length (ints .i64 da)], 24, 0, false⟩)], 1, [], 326⟩) (fun G => Pk F.length G ∧ 1 ≤ G.length ∧ G.length ≤ 4) ?_ ?_
    · by_cases hy : G0.length = 0
      · simp only [shD, shO, hy, ↓reduceIte, List.cons_append, List.nil_append, List.append_nil]
        refine go ?_
        refine cnd (fun h => ?_) (fun h => ?_)
        · refine go ?_
          exact R_nilM [0] ⟨Pk_zero (by omega), by decide, by decide⟩ (Sub.trans (Sub.less (ids := [0, 2]) (s' := ⟨tl [(3, .sc (.int .u16 c)), (9, .pt 0 0), (10, .sl F.length (ints .i64 F)), (11, .rf 1 0 1 1), (12, .em), (13, .em)], ol [(0, ⟨[.sl sz.length (ints .i64 sz), .sc (.int .i64 m), .sl da.length (ints .i64 da)], 24, 0, false⟩), (1, ⟨ints .i64 [0], 3, 1, false⟩)], 2, [], 326⟩) (Less.mk' (by simp (disch := (first | omega | (simp only [go_sem, ↓reduceIte, Nat.reduceEqDiff, Nat.reduceAdd, Nat.reduceMul, Nat.reduceSub, Nat.reduceLT, Nat.reduceLeDiff, Nat.reduceBNe, Nat.reduceBEq, Int.reduceToNat, Int.reduceAdd, Int.reduceSub, Int.reduceMul, Int.reduceLT, Int.reduceLE, Int.reduceNeg, Int.reduceBEq, Int.reduceBNe, Int.reduceEq, beq_self_eq_true, reduceCtorEq, decide_true, decide_false, if_pos, if_neg]; first | done | omega))) only [go_sem, ↓reduceIte, Nat.reduceEqDiff, Nat.reduceAdd, Nat.reduceMul, Nat.reduceSub, Nat.reduceLT, Nat.reduceLeDiff, Nat.reduceBNe, Nat.reduceBEq, Int.reduceToNat, Int.reduceAdd, Int.reduceSub, Int.reduceMul, Int.reduceLT, Int.reduceLE, Int.reduceNeg, Int.reduceBEq, Int.reduceBNe, Int.reduceEq, beq_self_eq_true, reduceCtorEq, decide_true, decide_false, if_pos, if_neg, ints_cons, ints_nil]) (by simp (disch := (first | omega | (simp only [go_sem, ↓reduceIte, Nat.reduceEqDiff, Nat.reduceAdd, Nat.reduceMul, Nat.reduceSub, Nat.reduceLT, Nat.reduceLeDiff, Nat.reduceBNe, Nat.reduceBEq, Int.reduceToNat, Int.reduceAdd, Int.reduceSub, Int.reduceMul, Int.reduceLT, Int.reduceLE, Int.reduceNeg, Int.reduceBEq, Int.reduceBNe, Int.reduceEq, beq_self_eq_true, reduceCtorEq, decide_true, decide_false, if_pos, if_neg]; first | done | omega))) only [go_sem, ↓reduceIte, Nat.reduceEqDiff, Nat.reduceAdd, Nat.reduceMul, Nat.reduceSub, Nat.reduceLT, Nat.reduceLeDiff, Nat.reduceBNe, Nat.reduceBEq, Int.reduceToNat, Int.reduceAdd, Int.reduceSub, Int.reduceMul, Int.reduceLT, Int.reduceLE, Int.reduceNeg, Int.reduceBEq, Int.reduceBNe, Int.reduceEq, beq_self_eq_true, reduceCtorEq, decide_true, decide_false, if_pos, if_neg, ints_cons, ints_nil]) (by decide) (by decide))) (Sub.trans (Sub.frz [1] rfl) (Sub.trans (Sub.seen [1] [(3, .sc (.int .u16 c)), (9, .pt 0 0), (10, .sl F.length (ints .i64 F)), (11, .sl 1 (ints .i64 [0])), (12, .em), (13, .em)] (frz_cons (fun o h => by cases h; rfl) (frz_nil _)) ⟨.inl (by simp (disch := (first | omega | (simp only [go_sem, ↓reduceIte, Nat.reduceEqDiff, Nat.reduceAdd, Nat.reduceMul, Nat.reduceSub, Nat.reduceLT, Nat.reduceLeDiff, Nat.reduceBNe, Nat.reduceBEq, Int.reduceToNat, Int.reduceAdd, Int.reduceSub, Int.reduceMul, Int.reduceLT, Int.reduceLE, Int.reduceNeg, Int.reduceBEq, Int.reduceBNe, Int.reduceEq, beq_self_eq_true, reduceCtorEq, decide_true, decide_false, if_pos, if_neg]; first | done | omega))) only [go_sem, ↓reduceIte, Nat.reduceEqDiff, Nat.reduceAdd, Nat.reduceMul, Nat.reduceSub, Nat.reduceLT, Nat.reduceLeDiff, Nat.reduceBNe, Nat.reduceBEq, Int.reduceToNat, Int.reduceAdd, Int.reduceSub, Int.reduceMul, Int.reduceLT, Int.reduceLE, Int.reduceNeg, Int.reduceBEq, Int.reduceBNe, Int.reduceEq, beq_self_eq_true, reduceCtorEq, decide_true, decide_false, if_pos, if_neg] <;> rfl), .inl (by simp (disch := (first | omega | (simp only [go_sem, ↓reduceIte, Nat.reduceEqDiff, Nat.reduceAdd, Nat.reduceMul, Nat.reduceSub, Nat.reduceLT, Nat.reduceLeDiff, Nat.reduceBNe, Nat.reduceBEq, Int.reduceToNat, Int.reduceAdd, Int.reduceSub, Int.reduceMul, Int.reduceLT, Int.reduceLE, Int.reduceNeg, Int.reduceBEq, Int.reduceBNe, Int.reduceEq, beq_self_eq_true, reduceCtorEq, decide_true, decide_false, if_pos, if_neg]; first | done | omega))) only [go_sem, ↓reduceIte, Nat.reduceEqDiff, Nat.reduceAdd, Nat.reduceMul, Nat.reduceSub, Nat.reduceLT, Nat.reduceLeDiff, Nat.reduceBNe, Nat.reduceBEq, Int.reduceToNat, Int.reduceAdd, Int.reduceSub, Int.reduceMul, Int.reduceLT, Int.reduceLE, Int.reduceNeg, Int.reduceBEq, Int.reduceBNe, Int.reduceEq, beq_self_eq_true, reduceCtorEq, decide_true, decide_false, if_pos, if_neg] <;> rfl), .inl (by simp (disch := (first | omega | (simp only [go_sem, ↓reduceIte, Nat.reduceEqDiff, Nat.reduceAdd, Nat.reduceMul, Nat.reduceSub, Nat.reduceLT, Nat.reduceLeDiff, Nat.reduceBNe, Nat.reduceBEq, Int.reduceToNat, Int.reduceAdd, Int.reduceSub, Int.reduceMul, Int.reduceLT, Int.reduceLE, Int.reduceNeg, Int.reduceBEq, Int.reduceBNe, Int.reduceEq, beq_self_eq_true, reduceCtorEq, decide_true, decide_false, if_pos, if_neg]; first | done | omega))) only [go_sem, ↓reduceIte, Nat.reduceEqDiff, Nat.reduceAdd, Nat.reduceMul, Nat.reduceSub, Nat.reduceLT, Nat.reduceLeDiff, Nat.reduceBNe, Nat.reduceBEq, Int.reduceToNat, Int.reduceAdd, Int.reduceSub, Int.reduceMul, Int.reduceLT, Int.reduceLE, Int.reduceNeg, Int.reduceBEq, Int.reduceBNe, Int.reduceEq, beq_self_eq_true, reduceCtorEq, decide_true, decide_false, if_pos, if_neg] <;> rfl), .inr (by simp (disch := (first | omega | (simp only [go_sem, ↓reduceIte, Nat.reduceEqDiff, Nat.reduceAdd, Nat.reduceMul, Nat.reduceSub, Nat.reduceLT, Nat.reduceLeDiff, Nat.reduceBNe, Nat.reduceBEq, Int.reduceToNat, Int.reduceAdd, Int.reduceSub, Int.reduceMul, Int.reduceLT, Int.reduceLE, Int.reduceNeg, Int.reduceBEq, Int.reduceBNe, Int.reduceEq, beq_self_eq_true, reduceCtorEq, decide_true, decide_false, if_pos, if_neg]; first | done | omega))) only [go_sem, ↓reduceIte, Nat.reduceEqDiff, Nat.reduceAdd, Nat.reduceMul, Nat.reduceSub, Nat.reduceLT, Nat.reduceLeDiff, Nat.reduceBNe, Nat.reduceBEq, Int.reduceToNat, Int.reduceAdd, Int.reduceSub, Int.reduceMul, Int.reduceLT, Int.reduceLE, Int.reduceNeg, Int.reduceBEq, Int.reduceBNe, Int.reduceEq, beq_self_eq_true, reduceCtorEq, decide_true, decide_false, if_pos, if_neg, fzO, Sg.app, List.foldl_cons, List.foldl_nil, List.length_nil]), .inl (by simp (disch := (first | omega | (simp only [go_sem, ↓reduceIte, Nat.reduceEqDiff, Nat.reduceAdd, Nat.reduceMul, Nat.reduceSub, Nat.reduceLT, Nat.reduceLeDiff, Nat.reduceBNe, Nat.reduceBEq, Int.reduceToNat, Int.reduceAdd, Int.reduceSub, Int.reduceMul, Int.reduceLT, Int.reduceLE, Int.reduceNeg, Int.reduceBEq, Int.reduceBNe, Int.reduceEq, beq_self_eq_true, reduceCtorEq, decide_true, decide_false, if_pos, if_neg]; first | done | omega))) only [go_sem, ↓reduceIte, Nat.reduceEqDiff, Nat.reduceAdd, Nat.reduceMul, Nat.reduceSub, Nat.reduceLT, Nat.reduceLeDiff, Nat.reduceBNe, Nat.reduceBEq, Int.reduceToNat, Int.reduceAdd, Int.reduceSub, Int.reduceMul, Int.reduceLT, Int.reduceLE, Int.reduceNeg, Int.reduceBEq, Int.reduceBNe, Int.reduceEq, beq_self_eq_true, reduceCtorEq, decide_true, decide_false, if_pos, if_neg] <;> rfl), .inl (by simp (disch := (first | omega | (simp only [go_sem, ↓reduceIte, Nat.reduceEqDiff, Nat.reduceAdd, Nat.reduceMul, Nat.reduceSub, Nat.reduceLT, Nat.reduceLeDiff, Nat.reduceBNe, Nat.reduceBEq, Int.reduceToNat, Int.reduceAdd, Int.reduceSub, Int.reduceMul, Int.reduceLT, Int.reduceLE, Int.reduceNeg, Int.reduceBEq, Int.reduceBNe, Int.reduceEq, beq_self_eq_true, reduceCtorEq, decide_true, decide_false, if_pos, if_neg]; first | done | omega))) only [go_sem, ↓reduceIte, Nat.reduceEqDiff, Nat.reduceAdd, Nat.reduceMul, Nat.reduceSub, Nat.reduceLT, Nat.reduceLeDiff, Nat.reduceBNe, Nat.reduceBEq, Int.reduceToNat, Int.reduceAdd, Int.reduceSub, Int.reduceMul, Int.reduceLT, Int.reduceLE, Int.reduceNeg, Int.reduceBEq, Int.reduceBNe, Int.reduceEq, beq_self_eq_true, reduceCtorEq, decide_true, decide_false, if_pos, if_neg] <;> rfl), trivial⟩) (Sub.less (ids := [0]) (Less.mk' (by simp (disch := (first | omega | (simp only [go_sem, ↓reduceIte, Nat.reduceEqDiff, Nat.reduceAdd, Nat.reduceMul, Nat.reduceSub, Nat.reduceLT, Nat.reduceLeDiff, Nat.reduceBNe, Nat.reduceBEq, Int.reduceToNat, Int.reduceAdd, Int.reduceSub, Int.reduceMul, Int.reduceLT, Int.reduceLE, Int.reduceNeg, Int.reduceBEq, Int.reduceBNe, Int.reduceEq, beq_self_eq_true, reduceCtorEq, decide_true, decide_false, if_pos, if_neg]; first | done | omega))) only [go_sem, ↓reduceIte, Nat.reduceEqDiff, Nat.reduceAdd, Nat.reduceMul, Nat.reduceSub, Nat.reduceLT, Nat.reduceLeDiff, Nat.reduceBNe, Nat.reduceBEq, Int.reduceToNat, Int.reduceAdd, Int.reduceSub, Int.reduceMul, Int.reduceLT, Int.reduceLE, Int.reduceNeg, Int.reduceBEq, Int.reduceBNe, Int.reduceEq, beq_self_eq_true, reduceCtorEq, decide_true, decide_false, if_pos, if_neg]) (by simp (disch := (first | omega | (simp only [go_sem, ↓reduceIte, Nat.reduceEqDiff, Nat.reduceAdd, Nat.reduceMul, Nat.reduceSub, Nat.reduceLT, Nat.reduceLeDiff, Nat.reduceBNe, Nat.reduceBEq, Int.reduceToNat, Int.reduceAdd, Int.reduceSub, Int.reduceMul, Int.reduceLT, Int.reduceLE, Int.reduceNeg, Int.reduceBEq, Int.reduceBNe, Int.reduceEq, beq_self_eq_true, reduceCtorEq, decide_true, decide_false, if_pos, if_neg]; first | done | omega))) only [go_sem, ↓reduceIte, Nat.reduceEqDiff, Nat.reduceAdd, Nat.reduceMul, Nat.reduceSub, Nat.reduceLT, Nat.reduceLeDiff, Nat.reduceBNe, Nat.reduceBEq, Int.reduceToNat, Int.reduceAdd, Int.reduceSub, Int.reduceMul, Int.reduceLT, Int.reduceLE, Int.reduceNeg, Int.reduceBEq, Int.reduceBNe, Int.reduceEq, beq_self_eq_true, reduceCtorEq, decide_true, decide_false, if_pos, if_neg, fzO, Sg.app, List.foldl_cons, List.foldl_nil]) (by decide) (by decide))))))
        · cases h
      · simp only [shD, shO, hy, ↓reduceIte, List.cons_append, List.nil_append, List.append_nil]
        refine go ?_
        refine cnd (fun h => ?_) (fun h => ?_)
        · simp only [decide_eq_true_eq, decide_eq_false_iff_not, Bool.or_eq_true, Bool.and_eq_true, Bool.or_eq_false_iff, Bool.and_eq_false_iff, Bool.not_eq_true', Bool.not_eq_false', bne_iff_ne, beq_iff_eq, ne_eq, bne_eq_false_iff_eq, beq_eq_false_iff_ne, ge_iff_le, gt_iff_lt, Int.not_le, Int.not_lt] at h
          omega
        · refine go ?_
          exact R_nilM G0 ⟨hG0, by omega, by omega⟩ (Sub.trans (Sub.less (ids := [0, 1]) (s' := ⟨tl [(3, .sc (.int .u16 c)), (9, .pt 0 0), (10, .sl F.length (ints .i64 F)), (11, .rf 1 0 G0.length 1), (12, .em), (13, .em)], ol [(0, ⟨[.sl sz.length (ints .i64 sz), .sc (.int .i64 m), .sl da.length (ints .i64 da)], 24, 0, false⟩), (1, ⟨ints .i64 G0, 3, 1, false⟩)], 2, [], 326⟩) (Less.mk' (by simp (disch := (first | omega | (simp only [go_sem, ↓reduceIte, Nat.reduceEqDiff, Nat.reduceAdd, Nat.reduceMul, Nat.reduceSub, Nat.reduceLT, Nat.reduceLeDiff, Nat.reduceBNe, Nat.reduceBEq, Int.reduceToNat, Int.reduceAdd, Int.reduceSub, Int.reduceMul, Int.reduceLT, Int.reduceLE, Int.reduceNeg, Int.reduceBEq, Int.reduceBNe, Int.reduceEq, beq_self_eq_true, reduceCtorEq, decide_true, decide_false, if_pos, if_neg]; first | done | omega))) only [go_sem, ↓reduceIte, Nat.reduceEqDiff, Nat.reduceAdd, Nat.reduceMul, Nat.reduceSub, Nat.reduceLT, Nat.reduceLeDiff, Nat.reduceBNe, Nat.reduceBEq, Int.reduceToNat, Int.reduceAdd, Int.reduceSub, Int.reduceMul, Int.reduceLT, Int.reduceLE, Int.reduceNeg, Int.reduceBEq, Int.reduceBNe, Int.reduceEq, beq_self_eq_true, reduceCtorEq, decide_true, decide_false, if_pos, if_neg]) (by simp (disch := (first | omega | (simp only [go_sem, ↓reduceIte, Nat.reduceEqDiff, Nat.reduceAdd, Nat.reduceMul, Nat.reduceSub, Nat.reduceLT, Nat.reduceLeDiff, Nat.reduceBNe, Nat.reduceBEq, Int.reduceToNat, Int.reduceAdd, Int.reduceSub, Int.reduceMul, Int.reduceLT, Int.reduceLE, Int.reduceNeg, Int.reduceBEq, Int.reduceBNe, Int.reduceEq, beq_self_eq_true, reduceCtorEq, decide_true, decide_false, if_pos, if_neg]; first | done | omega))) only [go_sem, ↓reduceIte, Nat.reduceEqDiff, Nat.reduceAdd, Nat.reduceMul, Nat.reduceSub, Nat.reduceLT, Nat.reduceLeDiff, Nat.reduceBNe, Nat.reduceBEq, Int.reduceToNat, Int.reduceAdd, Int.reduceSub, Int.reduceMul, Int.reduceLT, Int.reduceLE, Int.reduceNeg, Int.reduceBEq, Int.reduceBNe, Int.reduceEq, beq_self_eq_true, reduceCtorEq, decide_true, decide_false, if_pos, if_neg]) (by decide) (by decide))) (Sub.trans (Sub.frz [1] rfl) (Sub.trans (Sub.seen [1] [(3, .sc (.int .u16 c)), (9, .pt 0 0), (10, .sl F.length (ints .i64 F)), (11, .sl G0.length (ints .i64 G0)), (12, .em), (13, .em)] (frz_cons (fun o h => by cases h; rfl) (frz_nil _)) ⟨.inl (by simp (disch := (first | omega | (simp only [go_sem, ↓reduceIte, Nat.reduceEqDiff, Nat.reduceAdd, Nat.reduceMul, Nat.reduceSub, Nat.reduceLT, Nat.reduceLeDiff, Nat.reduceBNe, Nat.reduceBEq, Int.reduceToNat, Int.reduceAdd, Int.reduceSub, Int.reduceMul, Int.reduceLT, Int.reduceLE, Int.reduceNeg, Int.reduceBEq, Int.reduceBNe, Int.reduceEq, beq_self_eq_true, reduceCtorEq, decide_true, decide_false, if_pos, if_neg]; first | done | omega))) only [go_sem, ↓reduceIte, Nat.reduceEqDiff, Nat.reduceAdd, Nat.reduceMul, Nat.reduceSub, Nat.reduceLT, Nat.reduceLeDiff, Nat.reduceBNe, Nat.reduceBEq, Int.reduceToNat, Int.reduceAdd, Int.reduceSub, Int.reduceMul, Int.reduceLT, Int.reduceLE, Int.reduceNeg, Int.reduceBEq, Int.reduceBNe, Int.reduceEq, beq_self_eq_true, reduceCtorEq, decide_true, decide_false, if_pos, if_neg] <;> rfl), .inl (by simp (disch := (first | omega | (simp only [go_sem, ↓reduceIte, Nat.reduceEqDiff, Nat.reduceAdd, Nat.reduceMul, Nat.reduceSub, Nat.reduceLT, Nat.reduceLeDiff, Nat.reduceBNe, Nat.reduceBEq, Int.reduceToNat, Int.reduceAdd, Int.reduceSub, Int.reduceMul, Int.reduceLT, Int.reduceLE, Int.reduceNeg, Int.reduceBEq, Int.reduceBNe, Int.reduceEq, beq_self_eq_true, reduceCtorEq, decide_true, decide_false, if_pos, if_neg]; first | done | omega))) only [go_sem, ↓reduceIte, Nat.reduceEqDiff, Nat.reduceAdd, Nat.reduceMul, Nat.reduceSub, Nat.reduceLT, Nat.reduceLeDiff, Nat.reduceBNe, Nat.reduceBEq, Int.reduceToNat, Int.reduceAdd, Int.reduceSub, Int.reduceMul, Int.reduceLT, Int.reduceLE, Int.reduceNeg, Int.reduceBEq, Int.reduceBNe, Int.reduceEq, beq_self_eq_true, reduceCtorEq, decide_true, decide_false, if_pos, if_neg] <;> rfl), .inl (by simp (disch := (first | omega | (simp only [go_sem, ↓reduceIte, Nat.reduceEqDiff, Nat.reduceAdd, Nat.reduceMul, Nat.reduceSub, Nat.reduceLT, Nat.reduceLeDiff, Nat.reduceBNe, Nat.reduceBEq, Int.reduceToNat, Int.reduceAdd, Int.reduceSub, Int.reduceMul, Int.reduceLT, Int.reduceLE, Int.reduceNeg, Int.reduceBEq, Int.reduceBNe, Int.reduceEq, beq_self_eq_true, reduceCtorEq, decide_true, decide_false, if_pos, if_neg]; first | done | omega))) only [go_sem, ↓reduceIte, Nat.reduceEqDiff, Nat.reduceAdd, Nat.reduceMul, Nat.reduceSub, Nat.reduceLT, Nat.reduceLeDiff, Nat.reduceBNe, Nat.reduceBEq, Int.reduceToNat, Int.reduceAdd, Int.reduceSub, Int.reduceMul, Int.reduceLT, Int.reduceLE, Int.reduceNeg, Int.reduceBEq, Int.reduceBNe, Int.reduceEq, beq_self_eq_true, reduceCtorEq, decide_true, decide_false, if_pos, if_neg] <;> rfl), .inr (by simp (disch := (first | omega | (simp only [go_sem, ↓reduceIte, Nat.reduceEqDiff, Nat.reduceAdd, Nat.reduceMul, Nat.reduceSub, Nat.reduceLT, Nat.reduceLeDiff, Nat.reduceBNe, Nat.reduceBEq, Int.reduceToNat, Int.reduceAdd, Int.reduceSub, Int.reduceMul, Int.reduceLT, Int.reduceLE, Int.reduceNeg, Int.reduceBEq, Int.reduceBNe, Int.reduceEq, beq_self_eq_true, reduceCtorEq, decide_true, decide_false, if_pos, if_neg]; first | done | omega))) only [go_sem, ↓reduceIte, Nat.reduceEqDiff, Nat.reduceAdd, Nat.reduceMul, Nat.reduceSub, Nat.reduceLT, Nat.reduceLeDiff, Nat.reduceBNe, Nat.reduceBEq, Int.reduceToNat, Int.reduceAdd, Int.reduceSub, Int.reduceMul, Int.reduceLT, Int.reduceLE, Int.reduceNeg, Int.reduceBEq, Int.reduceBNe, Int.reduceEq, beq_self_eq_true, reduceCtorEq, decide_true, decide_false, if_pos, if_neg, fzO, Sg.app, List.foldl_cons, List.foldl_nil, List.length_nil]), .inl (by simp (disch := (first | omega | (simp only [go_sem, ↓reduceIte, Nat.reduceEqDiff, Nat.reduceAdd, Nat.reduceMul, Nat.reduceSub, Nat.reduceLT, Nat.reduceLeDiff, Nat.reduceBNe, Nat.reduceBEq, Int.reduceToNat, Int.reduceAdd, Int.reduceSub, Int.reduceMul, Int.reduceLT, Int.reduceLE, Int.reduceNeg, Int.reduceBEq, Int.reduceBNe, Int.reduceEq, beq_self_eq_true, reduceCtorEq, decide_true, decide_false, if_pos, if_neg]; first | done | omega))) only [go_sem, ↓reduceIte, Nat.reduceEqDiff, Nat.reduceAdd, Nat.reduceMul, Nat.reduceSub, Nat.reduceLT, Nat.reduceLeDiff, Nat.reduceBNe, Nat.reduceBEq, Int.reduceToNat, Int.reduceAdd, Int.reduceSub, Int.reduceMul, Int.reduceLT, Int.reduceLE, Int.reduceNeg, Int.reduceBEq, Int.reduceBNe, Int.reduceEq, beq_self_eq_true, reduceCtorEq, decide_true, decide_false, if_pos, if_neg] <;> rfl), .inl (by simp (disch := (first | omega | (simp only [go_sem, ↓reduceIte, Nat.reduceEqDiff, Nat.reduceAdd, Nat.reduceMul, Nat.reduceSub, Nat.reduceLT, Nat.reduceLeDiff, Nat.reduceBNe, Nat.reduceBEq, Int.reduceToNat, Int.reduceAdd, Int.reduceSub, Int.reduceMul, Int.reduceLT, Int.reduceLE, Int.reduceNeg, Int.reduceBEq, Int.reduceBNe, Int.reduceEq, beq_self_eq_true, reduceCtorEq, decide_true, decide_false, if_pos, if_neg]; first | done | omega))) only [go_sem, ↓reduceIte, Nat.reduceEqDiff, Nat.reduceAdd, Nat.reduceMul, Nat.reduceSub, Nat.reduceLT, Nat.reduceLeDiff, Nat.reduceBNe, Nat.reduceBEq, Int.reduceToNat, Int.reduceAdd, Int.reduceSub, Int.reduceMul, Int.reduceLT, Int.reduceLE, Int.reduceNeg, Int.reduceBEq, Int.reduceBNe, Int.reduceEq, beq_self_eq_true, reduceCtorEq, decide_true, decide_false, if_pos, if_neg] <;> rfl), trivial⟩) (Sub.less (ids := [0]) (Less.mk' (by simp (disch := (first | omega | (simp only [go_sem, ↓reduceIte, Nat.reduceEqDiff, Nat.reduceAdd, Nat.reduceMul, Nat.reduceSub, Nat.reduceLT, Nat.reduceLeDiff, Nat.reduceBNe, Nat.reduceBEq, Int.reduceToNat, Int.reduceAdd, Int.reduceSub, Int.reduceMul, Int.reduceLT, Int.reduceLE, Int.reduceNeg, Int.reduceBEq, Int.reduceBNe, Int.reduceEq, beq_self_eq_true, reduceCtorEq, decide_true, decide_false, if_pos, if_neg]; first | done | omega))) only [go_sem, ↓reduceIte, Nat.reduceEqDiff, Nat.reduceAdd, Nat.reduceMul, Nat.reduceSub, Nat.reduceLT, Nat.reduceLeDiff, Nat.reduceBNe, Nat.reduceBEq, Int.reduceToNat, Int.reduceAdd, Int.reduceSub, Int.reduceMul, Int.reduceLT, Int.reduceLE, Int.reduceNeg, Int.reduceBEq, Int.reduceBNe, Int.reduceEq, beq_self_eq_true, reduceCtorEq, decide_true, decide_false, if_pos, if_neg]) (by simp (disch := (first | omega | (simp only [go_sem, ↓reduceIte, Nat.reduceEqDiff, Nat.reduceAdd, Nat.reduceMul, Nat.reduceSub, Nat.reduceLT, Nat.reduceLeDiff, Nat.reduceBNe, Nat.reduceBEq, Int.reduceToNat, Int.reduceAdd, Int.reduceSub, Int.reduceMul, Int.reduceLT, Int.reduceLE, Int.reduceNeg, Int.reduceBEq, Int.reduceBNe, Int.reduceEq, beq_self_eq_true, reduceCtorEq, decide_true, decide_false, if_pos, if_neg]; first | done | omega))) only [go_sem, ↓reduceIte, Nat.reduceEqDiff, Nat.reduceAdd, Nat.reduceMul, Nat.reduceSub, Nat.reduceLT, Nat.reduceLeDiff, Nat.reduceBNe, Nat.reduceBEq, Int.reduceToNat, Int.reduceAdd, Int.reduceSub, Int.reduceMul, Int.reduceLT, Int.reduceLE, Int.reduceNeg, Int.reduceBEq, Int.reduceBNe, Int.reduceEq, beq_self_eq_true, reduceCtorEq, decide_true, decide_false, if_pos, if_neg, fzO, Sg.app, List.foldl_cons, List.foldl_nil]) (by decide) (by decide))))))
    rintro G ⟨hG, hG1, hG4⟩
    have hbl := both_length F G
    have hbk := Pk_both hF hG
    -- both, one after the other
    refine go ?_
    refine R_midB (fun _ : Unit => ⟨tl [(3, .sc (.int .u16 c)), (9, .pt 0 0), (10, .sl F.length (ints .i64 F)), (11, .sl G.length (ints .i64 G)), (12, .sl G.length (ints .i64 (both F G))), (13, .em)], ol [(0, ⟨[.sl sz.length (ints .i64 sz), .sc (.int .i64 m), .sl da.length (ints .i64 da)], 24, 0, false⟩)], 1, [], 326⟩) (fun _ => True) ?_ ?_
    · refine R_loop (fun j : Nat => ⟨tl [(3, .sc (.int .u16 c)), (9, .pt 0 0), (10, .sl F.length (ints .i64 F)), (11, .sl G.length (ints .i64 G)), (12, shD 1 (both F (G.take j))), (13, .em), (92, .sl G.length (ints .i64 G)), (93, .sc (.int .i64 G.length)), (94, .sc (.int .i64 j))], ol ([(0, ⟨[.sl sz.length (ints .i64 sz), .sc (.int .i64 m), .sl da.length (ints .i64 da)], 24, 0, false⟩)] ++ shO 1 (both F (G.take j))), 2, [], 326⟩) (fun j => j ≤ G.length) (fun j => G.length - j) 0 [0] (Less.mk' (by simp (disch := (first | omega | (simp only [go_sem, ↓reduceIte, Nat.reduceEqDiff, Nat.reduceAdd, Nat.reduceMul, Nat.reduceSub, Nat.reduceLT, Nat.reduceLeDiff, Nat.reduceBNe, Nat.reduceBEq, Int.reduceToNat, Int.reduceAdd, Int.reduceSub, Int.reduceMul, Int.reduceLT, Int.reduceLE, Int.reduceNeg, Int.reduceBEq, Int.reduceBNe, Int.reduceEq, beq_self_eq_true, reduceCtorEq, decide_true, decide_false, if_pos, if_neg]; first | done | omega))) only [go_sem, ↓reduceIte, Nat.reduceEqDiff, Nat.reduceAdd, Nat.reduceMul, Nat.reduceSub, Nat.reduceLT, Nat.reduceLeDiff, Nat.reduceBNe, Nat.reduceBEq, Int.reduceToNat, Int.reduceAdd, Int.reduceSub, Int.reduceMul, Int.reduceLT, Int.reduceLE, Int.reduceNeg, Int.reduceBEq, Int.reduceBNe, Int.reduceEq, beq_self_eq_true, reduceCtorEq, decide_true, decide_false, if_pos, if_neg, both, shD, shO, List.take_zero, List.map_nil]) (by simp (disch := (first | omega | (simp only [go_sem, ↓reduceIte, Nat.reduceEqDiff, Nat.reduceAdd, Nat.reduceMul, Nat.reduceSub, Nat.reduceLT, Nat.reduceLeDiff, Nat.reduceBNe, Nat.reduceBEq, Int.reduceToNat, Int.reduceAdd, Int.reduceSub, Int.reduceMul, Int.reduceLT, Int.reduceLE, Int.reduceNeg, Int.reduceBEq, Int.reduceBNe, Int.reduceEq, beq_self_eq_true, reduceCtorEq, decide_true, decide_false, if_pos, if_neg]; first | done | omega))) only [go_sem, ↓reduceIte, Nat.reduceEqDiff, Nat.reduceAdd, Nat.reduceMul, Nat.reduceSub, Nat.reduceLT, Nat.reduceLeDiff, Nat.reduceBNe, Nat.reduceBEq, Int.reduceToNat, Int.reduceAdd, Int.reduceSub, Int.reduceMul, Int.reduceLT, Int.reduceLE, Int.reduceNeg, Int.reduceBEq, Int.reduceBNe, Int.reduceEq, beq_self_eq_true, reduceCtorEq, decide_true, decide_false, if_pos, if_neg, both, shD, shO, List.take_zero, List.map_nil]) (by decide) (by decide)) (by omega) fun j hj => ?_
      have hfl : (both F (G.take j)).length = j := by rw [both_length, List.length_take]; omega
      by_cases hy : (both F (G.take j)).length = 0
      · simp only [shD, shO, hy, ↓reduceIte, List.cons_append, List.nil_append, List.append_nil]
        have hy' : both F (G.take j) = [] := List.length_eq_zero_iff.1 hy
        refine go ?_
        refine cnd (fun h => ?_) (fun h => ?_)
        · simp only [decide_eq_true_eq, decide_eq_false_iff_not, Bool.or_eq_true, Bool.and_eq_true, Bool.or_eq_false_iff, Bool.and_eq_false_iff, Bool.not_eq_true', Bool.not_eq_false', bne_iff_ne, beq_iff_eq, ne_eq, bne_eq_false_iff_eq, beq_eq_false_iff_ne, ge_iff_le, gt_iff_lt, Int.not_le, Int.not_lt] at h
          have hGj := hG j (by omega)
          have ht : j < G.length := by omega
          have ey : (both F (G.take j)).length + 1 ≠ 0 := by omega
          have ex := both_take (F := F) ht
          refine go ?_
          refine R_nilR ⟨[0, 3], _, ?_, j + 1, by omega, by omega, rfl⟩
          exact Less.mk' (by simp (disch := (first | omega | (simp only [go_sem, ↓reduceIte, Nat.reduceEqDiff, Nat.reduceAdd, Nat.reduceMul, Nat.reduceSub, Nat.reduceLT, Nat.reduceLeDiff, Nat.reduceBNe, Nat.reduceBEq, Int.reduceToNat, Int.reduceAdd, Int.reduceSub, Int.reduceMul, Int.reduceLT, Int.reduceLE, Int.reduceNeg, Int.reduceBEq, Int.reduceBNe, Int.reduceEq, beq_self_eq_true, reduceCtorEq, decide_true, decide_false, if_pos, if_neg]; first | done | omega))) only [go_sem, ↓reduceIte, Nat.reduceEqDiff, Nat.reduceAdd, Nat.reduceMul, Nat.reduceSub, Nat.reduceLT, Nat.reduceLeDiff, Nat.reduceBNe, Nat.reduceBEq, Int.reduceToNat, Int.reduceAdd, Int.reduceSub, Int.reduceMul, Int.reduceLT, Int.reduceLE, Int.reduceNeg, Int.reduceBEq, Int.reduceBNe, Int.reduceEq, beq_self_eq_true, reduceCtorEq, decide_true, decide_false, if_pos, if_neg, ex, shD, shO, ey, hy', ints_cons]) (by simp (disch := (first | omega | (simp only [go_sem, ↓reduceIte, Nat.reduceEqDiff, Nat.reduceAdd, Nat.reduceMul, Nat.reduceSub, Nat.reduceLT, Nat.reduceLeDiff, Nat.reduceBNe, Nat.reduceBEq, Int.reduceToNat, Int.reduceAdd, Int.reduceSub, Int.reduceMul, Int.reduceLT, Int.reduceLE, Int.reduceNeg, Int.reduceBEq, Int.reduceBNe, Int.reduceEq, beq_self_eq_true, reduceCtorEq, decide_true, decide_false, if_pos, if_neg]; first | done | omega))) only [go_sem, ↓reduceIte, Nat.reduceEqDiff, Nat.reduceAdd, Nat.reduceMul, Nat.reduceSub, Nat.reduceLT, Nat.reduceLeDiff, Nat.reduceBNe, Nat.reduceBEq, Int.reduceToNat, Int.reduceAdd, Int.reduceSub, Int.reduceMul, Int.reduceLT, Int.reduceLE, Int.reduceNeg, Int.reduceBEq, Int.reduceBNe, Int.reduceEq, beq_self_eq_true, reduceCtorEq, decide_true, decide_false, if_pos, if_neg, ex, shD, shO, ey, hy', ints_cons]) (by decide) (by decide)
        · simp only [decide_eq_true_eq, decide_eq_false_iff_not, Bool.or_eq_true, Bool.and_eq_true, Bool.or_eq_false_iff, Bool.and_eq_false_iff, Bool.not_eq_true', Bool.not_eq_false', bne_iff_ne, beq_iff_eq, ne_eq, bne_eq_false_iff_eq, beq_eq_false_iff_ne, ge_iff_le, gt_iff_lt, Int.not_le, Int.not_lt] at h
          omega
      · simp only [shD, shO, hy, ↓reduceIte, List.cons_append, List.nil_append, List.append_nil]
        have hy' : (both F (G.take j)).length ≠ 0 := hy
        refine go ?_
        refine cnd (fun h => ?_) (fun h => ?_)
        · simp only [decide_eq_true_eq, decide_eq_false_iff_not, Bool.or_eq_true, Bool.and_eq_true, Bool.or_eq_false_iff, Bool.and_eq_false_iff, Bool.not_eq_true', Bool.not_eq_false', bne_iff_ne, beq_iff_eq, ne_eq, bne_eq_false_iff_eq, beq_eq_false_iff_ne, ge_iff_le, gt_iff_lt, Int.not_le, Int.not_lt] at h
          have hGj := hG j (by omega)
          have ht : j < G.length := by omega
          have ey : (both F (G.take j)).length + 1 ≠ 0 := by omega
          have ex := both_take (F := F) ht
          refine go ?_
          refine R_nilR ⟨[0, 3], _, ?_, j + 1, by omega, by omega, rfl⟩
          exact Less.mk' (by simp (disch := (first | omega | (simp only [go_sem, ↓reduceIte, Nat.reduceEqDiff, Nat.reduceAdd, Nat.reduceMul, Nat.reduceSub, Nat.reduceLT, Nat.reduceLeDiff, Nat.reduceBNe, Nat.reduceBEq, Int.reduceToNat, Int.reduceAdd, Int.reduceSub, Int.reduceMul, Int.reduceLT, Int.reduceLE, Int.reduceNeg, Int.reduceBEq, Int.reduceBNe, Int.reduceEq, beq_self_eq_true, reduceCtorEq, decide_true, decide_false, if_pos, if_neg]; first | done | omega))) only [go_sem, ↓reduceIte, Nat.reduceEqDiff, Nat.reduceAdd, Nat.reduceMul, Nat.reduceSub, Nat.reduceLT, Nat.reduceLeDiff, Nat.reduceBNe, Nat.reduceBEq, Int.reduceToNat, Int.reduceAdd, Int.reduceSub, Int.reduceMul, Int.reduceLT, Int.reduceLE, Int.reduceNeg, Int.reduceBEq, Int.reduceBNe, Int.reduceEq, beq_self_eq_true, reduceCtorEq, decide_true, decide_false, if_pos, if_neg, ex, shD, shO, ey, hy', ints_cons]) (by simp (disch := (first | omega | (simp only [go_sem, ↓reduceIte, Nat.reduceEqDiff, Nat.reduceAdd, Nat.reduceMul, Nat.reduceSub, Nat.reduceLT, Nat.reduceLeDiff, Nat.reduceBNe, Nat.reduceBEq, Int.reduceToNat, Int.reduceAdd, Int.reduceSub, Int.reduceMul, Int.reduceLT, Int.reduceLE, Int.reduceNeg, Int.reduceBEq, Int.reduceBNe, Int.reduceEq, beq_self_eq_true, reduceCtorEq, decide_true, decide_false, if_pos, if_neg]; first | done | omega))) only [go_sem, ↓reduceIte, Nat.reduceEqDiff, Nat.reduceAdd, Nat.reduceMul, Nat.reduceSub, Nat.reduceLT, Nat.reduceLeDiff, Nat.reduceBNe, Nat.reduceBEq, Int.reduceToNat, Int.reduceAdd, Int.reduceSub, Int.reduceMul, Int.reduceLT, Int.reduceLE, Int.reduceNeg, Int.reduceBEq, Int.reduceBNe, Int.reduceEq, beq_self_eq_true, reduceCtorEq, decide_true, decide_false, if_pos, if_neg, ex, shD, shO, ey, hy', ints_cons]) (by decide) (by decide)
        · simp only [decide_eq_true_eq, decide_eq_false_iff_not, Bool.or_eq_true, Bool.and_eq_true, Bool.or_eq_false_iff, Bool.and_eq_false_iff, Bool.not_eq_true', Bool.not_eq_false', bne_iff_ne, beq_iff_eq, ne_eq, bne_eq_false_iff_eq, beq_eq_false_iff_ne, ge_iff_le, gt_iff_lt, Int.not_le, Int.not_lt] at h
          obtain rfl : j = G.length := by omega
          have et : G.take G.length = G := List.take_length
          exact R_exitR ⟨(), trivial, Sub.trans (Sub.less (ids := [0, 1]) (s' := ⟨tl [(3, .sc (.int .u16 c)), (9, .pt 0 0), (10, .sl F.length (ints .i64 F)), (11, .sl G.length (ints .i64 G)), (12, .rf 1 0 G.length 1), (13, .em)], ol [(0, ⟨[.sl sz.length (ints .i64 sz), .sc (.int .i64 m), .sl da.length (ints .i64 da)], 24, 0, false⟩), (1, ⟨ints .i64 (both F G), 3, 1, false⟩)], 2, [], 326⟩) (Less.mk' (by simp (disch := (first | omega | (simp only [go_sem, ↓reduceIte, Nat.reduceEqDiff, Nat.reduceAdd, Nat.reduceMul, Nat.reduceSub, Nat.reduceLT, Nat.reduceLeDiff, Nat.reduceBNe, Nat.reduceBEq, Int.reduceToNat, Int.reduceAdd, Int.reduceSub, Int.reduceMul, Int.reduceLT, Int.reduceLE, Int.reduceNeg, Int.reduceBEq, Int.reduceBNe, Int.reduceEq, beq_self_eq_true, reduceCtorEq, decide_true, decide_false, if_pos, if_neg]; first | done | omega))) only [go_sem, ↓reduceIte, Nat.reduceEqDiff, Nat.reduceAdd, Nat.reduceMul, Nat.reduceSub, Nat.reduceLT, Nat.reduceLeDiff, Nat.reduceBNe, Nat.reduceBEq, Int.reduceToNat, Int.reduceAdd, Int.reduceSub, Int.reduceMul, Int.reduceLT, Int.reduceLE, Int.reduceNeg, Int.reduceBEq, Int.reduceBNe, Int.reduceEq, beq_self_eq_true, reduceCtorEq, decide_true, decide_false, if_pos, if_neg, et, hbl]) (by simp (disch := (first | omega | (simp only [go_sem, ↓reduceIte, Nat.reduceEqDiff, Nat.reduceAdd, Nat.reduceMul, Nat.reduceSub, Nat.reduceLT, Nat.reduceLeDiff, Nat.reduceBNe, Nat.reduceBEq, Int.reduceToNat, Int.reduceAdd, Int.reduceSub, Int.reduceMul, Int.reduceLT, Int.reduceLE, Int.reduceNeg, Int.reduceBEq, Int.reduceBNe, Int.reduceEq, beq_self_eq_true, reduceCtorEq, decide_true, decide_false, if_pos, if_neg]; first | done | omega))) only [go_sem, ↓reduceIte, Nat.reduceEqDiff, Nat.reduceAdd, Nat.reduceMul, Nat.reduceSub, Nat.reduceLT, Nat.reduceLeDiff, Nat.reduceBNe, Nat.reduceBEq, Int.reduceToNat, Int.reduceAdd, Int.reduceSub, Int.reduceMul, Int.reduceLT, Int.reduceLE, Int.reduceNeg, Int.reduceBEq, Int.reduceBNe, Int.reduceEq, beq_self_eq_true, reduceCtorEq, decide_true, decide_false, if_pos, if_neg, et, hbl]) (by decide) (by decide))) (Sub.trans (Sub.frz [1] rfl) (Sub.trans (Sub.seen [1] [(3, .sc (.int .u16 c)), (9, .pt 0 0), (10, .sl F.length (ints .i64 F)), (11, .sl G.length (ints .i64 G)), (12, .sl G.length (ints .i64 (both F G))), (13, .em)] (frz_cons (fun o h => by cases h; rfl) (frz_nil _)) ⟨.inl (by simp (disch := (first | omega | (simp only [go_sem, ↓reduceIte, Nat.reduceEqDiff, Nat.reduceAdd, Nat.reduceMul, Nat.reduceSub, Nat.reduceLT, Nat.reduceLeDiff, Nat.reduceBNe, Nat.reduceBEq, Int.reduceToNat, Int.reduceAdd, Int.reduceSub, Int.reduceMul, Int.reduceLT, Int.reduceLE, Int.reduceNeg, Int.reduceBEq, Int.reduceBNe, Int.reduceEq, beq_self_eq_true, reduceCtorEq, decide_true, decide_false, if_pos, if_neg]; first | done | omega))) only [go_sem, ↓reduceIte, Nat.reduceEqDiff, Nat.reduceAdd, Nat.reduceMul, Nat.reduceSub, Nat.reduceLT, Nat.reduceLeDiff, Nat.reduceBNe, Nat.reduceBEq, Int.reduceToNat, Int.reduceAdd, Int.reduceSub, Int.reduceMul, Int.reduceLT, Int.reduceLE, Int.reduceNeg, Int.reduceBEq, Int.reduceBNe, Int.reduceEq, beq_self_eq_true, reduceCtorEq, decide_true, decide_false, if_pos, if_neg] <;> rfl), .inl (by simp (disch := (first | omega | (simp only [go_sem, ↓reduceIte, Nat.reduceEqDiff, Nat.reduceAdd, Nat.reduceMul, Nat.reduceSub, Nat.reduceLT, Nat.reduceLeDiff, Nat.reduceBNe, Nat.reduceBEq, Int.reduceToNat, Int.reduceAdd, Int.reduceSub, Int.reduceMul, Int.reduceLT, Int.reduceLE, Int.reduceNeg, Int.reduceBEq, Int.reduceBNe, Int.reduceEq, beq_self_eq_true, reduceCtorEq, decide_true, decide_false, if_pos, if_neg]; first | done | omega))) only [go_sem, ↓reduceIte, Nat.reduceEqDiff, Nat.reduceAdd, Nat.reduceMul, Nat.reduceSub, Nat.reduceLT, Nat.reduceLeDiff, Nat.reduceBNe, Nat.reduceBEq, Int.reduceToNat, Int.reduceAdd, Int.reduceSub, Int.reduceMul, Int.reduceLT, Int.reduceLE, Int.reduceNeg, Int.reduceBEq, Int.reduceBNe, Int.reduceEq, beq_self_eq_true, reduceCtorEq, decide_true, decide_false, if_pos, if_neg] <;> rfl), .inl (by simp (disch := (first | omega | (simp only [go_sem, ↓reduceIte, Nat.reduceEqDiff, Nat.reduceAdd, Nat.reduceMul, Nat.reduceSub, Nat.reduceLT, Nat.reduceLeDiff, Nat.reduceBNe, Nat.reduceBEq, Int.reduceToNat, Int.reduceAdd, Int.reduceSub, Int.reduceMul, Int.reduceLT, Int.reduceLE, Int.reduceNeg, Int.reduceBEq, Int.reduceBNe, Int.reduceEq, beq_self_eq_true, reduceCtorEq, decide_true, decide_false, if_pos, if_neg]; first | done | omega))) only [go_sem, ↓reduceIte, Nat.reduceEqDiff, Nat.reduceAdd, Nat.reduceMul, Nat.reduceSub, Nat.reduceLT, Nat.reduceLeDiff, Nat.reduceBNe, Nat.reduceBEq, Int.reduceToNat, Int.reduceAdd, Int.reduceSub, Int.reduceMul, Int.reduceLT, Int.reduceLE, Int.reduceNeg, Int.reduceBEq, Int.reduceBNe, Int.reduceEq, beq_self_eq_true, reduceCtorEq, decide_true, decide_false, if_pos, if_neg] <;> rfl), .inl (by simp (disch := (first | omega | (simp only [go_sem, ↓reduceIte, Nat.reduceEqDiff, Nat.reduceAdd, Nat.reduceMul, Nat.reduceSub, Nat.reduceLT, Nat.reduceLeDiff, Nat.reduceBNe, Nat.reduceBEq, Int.reduceToNat, Int.reduceAdd, Int.reduceSub, Int.reduceMul, Int.reduceLT, Int.reduceLE, Int.reduceNeg, Int.reduceBEq, Int.reduceBNe, Int.reduceEq, beq_self_eq_true, reduceCtorEq, decide_true, decide_false, if_pos, if_neg]; first | done | omega))) only [go_sem, ↓reduceIte, Nat.reduceEqDiff, Nat.reduceAdd, Nat.reduceMul, Nat.reduceSub, Nat.reduceLT, Nat.reduceLeDiff, Nat.reduceBNe, Nat.reduceBEq, Int.reduceToNat, Int.reduceAdd, Int.reduceSub, Int.reduceMul, Int.reduceLT, Int.reduceLE, Int.reduceNeg, Int.reduceBEq, Int.reduceBNe, Int.reduceEq, beq_self_eq_true, reduceCtorEq, decide_true, decide_false, if_pos, if_neg] <;> rfl), .inr (by simp (disch := (first | omega | (simp only [go_sem, ↓reduceIte, Nat.reduceEqDiff, Nat.reduceAdd, Nat.reduceMul, Nat.reduceSub, Nat.reduceLT, Nat.reduceLeDiff, Nat.reduceBNe, Nat.reduceBEq, Int.reduceToNat, Int.reduceAdd, Int.reduceSub, Int.reduceMul, Int.reduceLT, Int.reduceLE, Int.reduceNeg, Int.reduceBEq, Int.reduceBNe, Int.reduceEq, beq_self_eq_true, reduceCtorEq, decide_true, decide_false, if_pos, if_neg]; first | done | omega))) only [go_sem, ↓reduceIte, Nat.reduceEqDiff, Nat.reduceAdd, Nat.reduceMul, Nat.reduceSub, Nat.reduceLT, Nat.reduceLeDiff, Nat.reduceBNe, Nat.reduceBEq, Int.reduceToNat, Int.reduceAdd, Int.reduceSub, Int.reduceMul, Int.reduceLT, Int.reduceLE, Int.reduceNeg, Int.reduceBEq, Int.reduceBNe, Int.reduceEq, beq_self_eq_true, reduceCtorEq, decide_true, decide_false, if_pos, if_neg, fzO, Sg.app, List.foldl_cons, List.foldl_nil, List.length_nil, hbl]), .inl (by simp (disch := (first | omega | (simp only [go_sem, ↓reduceIte, Nat.reduceEqDiff, Nat.reduceAdd, Nat.reduceMul, Nat.reduceSub, Nat.reduceLT, Nat.reduceLeDiff, Nat.reduceBNe, Nat.reduceBEq, Int.reduceToNat, Int.reduceAdd, Int.reduceSub, Int.reduceMul, Int.reduceLT, Int.reduceLE, Int.reduceNeg, Int.reduceBEq, Int.reduceBNe, Int.reduceEq, beq_self_eq_true, reduceCtorEq, decide_true, decide_false, if_pos, if_neg]; first | done | omega))) only [go_sem, ↓reduceIte, Nat.reduceEqDiff, Nat.reduceAdd, Nat.reduceMul, Nat.reduceSub, Nat.reduceLT, Nat.reduceLeDiff, Nat.reduceBNe, Nat.reduceBEq, Int.reduceToNat, Int.reduceAdd, Int.reduceSub, Int.reduceMul, Int.reduceLT, Int.reduceLE, Int.reduceNeg, Int.reduceBEq, Int.reduceBNe, Int.reduceEq, beq_self_eq_true, reduceCtorEq, decide_true, decide_false, if_pos, if_neg] <;> rfl), trivial⟩) (Sub.less (ids := [0]) (Less.mk' (by simp (disch := (first | omega | (simp only [go_sem, ↓reduceIte, Nat.reduceEqDiff, Nat.reduceAdd, Nat.reduceMul, Nat.reduceSub, Nat.reduceLT, Nat.reduceLeDiff, Nat.reduceBNe, Nat.reduceBEq, Int.reduceToNat, Int.reduceAdd, Int.reduceSub, Int.reduceMul, Int.reduceLT, Int.reduceLE, Int.reduceNeg, Int.reduceBEq, Int.reduceBNe, Int.reduceEq, beq_self_eq_true, reduceCtorEq, decide_true, decide_false, if_pos, if_neg]; first | done | omega))) only [go_sem, ↓reduceIte, Nat.reduceEqDiff, Nat.reduceAdd, Nat.reduceMul, Nat.reduceSub, Nat.reduceLT, Nat.reduceLeDiff, Nat.reduceBNe, Nat.reduceBEq, Int.reduceToNat, Int.reduceAdd, Int.reduceSub, Int.reduceMul, Int.reduceLT, Int.reduceLE, Int.reduceNeg, Int.reduceBEq, Int.reduceBNe, Int.reduceEq, beq_self_eq_true, reduceCtorEq, decide_true, decide_false, if_pos, if_neg]) (by simp (disch := (first | omega | (simp only [go_sem, ↓reduceIte, Nat.reduceEqDiff, Nat.reduceAdd, Nat.reduceMul, Nat.reduceSub, Nat.reduceLT, Nat.reduceLeDiff, Nat.reduceBNe, Nat.reduceBEq, Int.reduceToNat, Int.reduceAdd, Int.reduceSub, Int.reduceMul, Int.reduceLT, Int.reduceLE, Int.reduceNeg, Int.reduceBEq, Int.reduceBNe, Int.reduceEq, beq_self_eq_true, reduceCtorEq, decide_true, decide_false, if_pos, if_neg]; first | done | omega))) only [go_sem, ↓reduceIte, Nat.reduceEqDiff, Nat.reduceAdd, Nat.reduceMul, Nat.reduceSub, Nat.reduceLT, Nat.reduceLeDiff, Nat.reduceBNe, Nat.reduceBEq, Int.reduceToNat, Int.reduceAdd, Int.reduceSub, Int.reduceMul, Int.reduceLT, Int.reduceLE, Int.reduceNeg, Int.reduceBEq, Int.reduceBNe, Int.reduceEq, beq_self_eq_true, reduceCtorEq, decide_true, decide_false, if_pos, if_neg, fzO, Sg.app, List.foldl_cons, List.foldl_nil]) (by decide) (by decide)))))⟩
    intro _ _
    -- all
    refine go ?_
    refine R_midB (fun _ : Unit => ⟨tl [(3, .sc (.int .u16 c)), (9, .pt 0 0), (10, .sl F.length (ints .i64 F)), (11, .sl G.length (ints .i64 G)), (12, .sl G.length (ints .i64 (both F G))), (13, .sl m (ints .i64 (idl m)))], ol [(0, ⟨[.sl sz.length (ints .i64 sz), .sc (.int .i64 m), .sl da.length (ints .i64 da)], 24, 0, false⟩)], 1, [], 326⟩) (fun _ => True) ?_ ?_
    · refine R_loop (fun j : Nat => ⟨tl [(3, .sc (.int .u16 c)), (9, .pt 0 0), (10, .sl F.length (ints .i64 F)), (11, .sl G.length (ints .i64 G)), (12, .sl G.length (ints .i64 (both F G))), (13, shD 1 (idl j)), (107, .sc (.int .i64 m)), (108, .sc (.int .i64 j))], ol ([(0, ⟨[.sl sz.length (ints .i64 sz), .sc (.int .i64 m), .sl da.length (ints .i64 da)], 24, 0, false⟩)] ++ shO 1 (idl j)), 2, [], 326⟩) (fun j => j ≤ m) (fun j => m - j) 0 [0] (Less.mk' (by simp (disch := (first | omega | (simp only [go_sem, ↓reduceIte, Nat.reduceEqDiff, Nat.reduceAdd, Nat.reduceMul, Nat.reduceSub, Nat.reduceLT, Nat.reduceLeDiff, Nat.reduceBNe, Nat.reduceBEq, Int.reduceToNat, Int.reduceAdd, Int.reduceSub, Int.reduceMul, Int.reduceLT, Int.reduceLE, Int.reduceNeg, Int.reduceBEq, Int.reduceBNe, Int.reduceEq, beq_self_eq_true, reduceCtorEq, decide_true, decide_false, if_pos, if_neg]; first | done | omega))) only [go_sem, ↓reduceIte, Nat.reduceEqDiff, Nat.reduceAdd, Nat.reduceMul, Nat.reduceSub, Nat.reduceLT, Nat.reduceLeDiff, Nat.reduceBNe, Nat.reduceBEq, Int.reduceToNat, Int.reduceAdd, Int.reduceSub, Int.reduceMul, Int.reduceLT, Int.reduceLE, Int.reduceNeg, Int.reduceBEq, Int.reduceBNe, Int.reduceEq, beq_self_eq_true, reduceCtorEq, decide_true, decide_false, if_pos, if_neg, idl, shD, shO, List.range_zero, List.map_nil]) (by simp (disch := (first | omega | (simp only [go_sem, ↓reduceIte, Nat.reduceEqDiff, Nat.reduceAdd, Nat.reduceMul, Nat.reduceSub, Nat.reduceLT, Nat.reduceLeDiff, Nat.reduceBNe, Nat.reduceBEq, Int.reduceToNat, Int.reduceAdd, Int.reduceSub, Int.reduceMul, Int.reduceLT, Int.reduceLE, Int.reduceNeg, Int.reduceBEq, Int.reduceBNe, Int.reduceEq, beq_self_eq_true, reduceCtorEq, decide_true, decide_false, if_pos, if_neg]; first | done | omega))) only [go_sem, ↓reduceIte, Nat.reduceEqDiff, Nat.reduceAdd, Nat.reduceMul, Nat.reduceSub, Nat.reduceLT, Nat.reduceLeDiff, Nat.reduceBNe, Nat.reduceBEq, Int.reduceToNat, Int.reduceAdd, Int.reduceSub, Int.reduceMul, Int.reduceLT, Int.reduceLE, Int.reduceNeg, Int.reduceBEq, Int.reduceBNe, Int.reduceEq, beq_self_eq_true, reduceCtorEq, decide_true, decide_false, if_pos, if_neg, idl, shD, shO, List.range_zero, List.map_nil]) (by decide) (by decide)) (by omega) fun j hj => ?_
      have hfl := idl_length j
      by_cases hy : (idl j).length = 0
      · simp only [shD, shO, hy, ↓reduceIte, List.cons_append, List.nil_append, List.append_nil]
        have hy' : idl j = [] := List.length_eq_zero_iff.1 hy
        refine go ?_
        refine cnd (fun h => ?_) (fun h => ?_)
        · simp only [decide_eq_true_eq, decide_eq_false_iff_not, Bool.or_eq_true, Bool.and_eq_true, Bool.or_eq_false_iff, Bool.and_eq_false_iff, Bool.not_eq_true', Bool.not_eq_false', bne_iff_ne, beq_iff_eq, ne_eq, bne_eq_false_iff_eq, beq_eq_false_iff_ne, ge_iff_le, gt_iff_lt, Int.not_le, Int.not_lt] at h
          have ey : (idl j).length + 1 ≠ 0 := by omega
          have ex := idl_succ j
          refine go ?_
          refine R_nilR ⟨[0, 3], _, ?_, j + 1, by omega, by omega, rfl⟩
          exact Less.mk' (by simp (disch := (first | omega | (simp only [go_sem, ↓reduceIte, Nat.reduceEqDiff, Nat.reduceAdd, Nat.reduceMul, Nat.reduceSub, Nat.reduceLT, Nat.reduceLeDiff, Nat.reduceBNe, Nat.reduceBEq, Int.reduceToNat, Int.reduceAdd, Int.reduceSub, Int.reduceMul, Int.reduceLT, Int.reduceLE, Int.reduceNeg, Int.reduceBEq, Int.reduceBNe, Int.reduceEq, beq_self_eq_true, reduceCtorEq, decide_true, decide_false, if_pos, if_neg]; first | done | omega))) only [go_sem, ↓reduceIte, Nat.reduceEqDiff, Nat.reduceAdd, Nat.reduceMul, Nat.reduceSub, Nat.reduceLT, Nat.reduceLeDiff, Nat.reduceBNe, Nat.reduceBEq, Int.reduceToNat, Int.reduceAdd, Int.reduceSub, Int.reduceMul, Int.reduceLT, Int.reduceLE, Int.reduceNeg, Int.reduceBEq, Int.reduceBNe, Int.reduceEq, beq_self_eq_true, reduceCtorEq, decide_true, decide_false, if_pos, if_neg, ex, shD, shO, ey, hy', ints_cons]) (by simp (disch := (first | omega | (simp only [go_sem, ↓reduceIte, Nat.reduceEqDiff, Nat.reduceAdd, Nat.reduceMul, Nat.reduceSub, Nat.reduceLT, Nat.reduceLeDiff, Nat.reduceBNe, Nat.reduceBEq, Int.reduceToNat, Int.reduceAdd, Int.reduceSub, Int.reduceMul, Int.reduceLT, Int.reduceLE, Int.reduceNeg, Int.reduceBEq, Int.reduceBNe, Int.reduceEq, beq_self_eq_true, reduceCtorEq, decide_true, decide_false, if_pos, if_neg]; first | done | omega))) only [go_sem, ↓reduceIte, Nat.reduceEqDiff, Nat.reduceAdd, Nat.reduceMul, Nat.reduceSub, Nat.reduceLT, Nat.reduceLeDiff, Nat.reduceBNe, Nat.reduceBEq, Int.reduceToNat, Int.reduceAdd, Int.reduceSub, Int.reduceMul, Int.reduceLT, Int.reduceLE, Int.reduceNeg, Int.reduceBEq, Int.reduceBNe, Int.reduceEq, beq_self_eq_true, reduceCtorEq, decide_true, decide_false, if_pos, if_neg, ex, shD, shO, ey, hy', ints_cons]) (by decide) (by decide)
        · simp only [decide_eq_true_eq, decide_eq_false_iff_not, Bool.or_eq_true, Bool.and_eq_true, Bool.or_eq_false_iff, Bool.and_eq_false_iff, Bool.not_eq_true', Bool.not_eq_false', bne_iff_ne, beq_iff_eq, ne_eq, bne_eq_false_iff_eq, beq_eq_false_iff_ne, ge_iff_le, gt_iff_lt, Int.not_le, Int.not_lt] at h
          omega
      · simp only [shD, shO, hy, ↓reduceIte, List.cons_append, List.nil_append, List.append_nil]
        have hy' : (idl j).length ≠ 0 := hy
        refine go ?_
        refine cnd (fun h => ?_) (fun h => ?_)
        · simp only [decide_eq_true_eq, decide_eq_false_iff_not, Bool.or_eq_true, Bool.and_eq_true, Bool.or_eq_false_iff, Bool.and_eq_false_iff, Bool.not_eq_true', Bool.not_eq_false', bne_iff_ne, beq_iff_eq, ne_eq, bne_eq_false_iff_eq, beq_eq_false_iff_ne, ge_iff_le, gt_iff_lt, Int.not_le, Int.not_lt] at h
          have ey : (idl j).length + 1 ≠ 0 := by omega
          have ex := idl_succ j
          refine go ?_
          refine R_nilR ⟨[0, 3], _, ?_, j + 1, by omega, by omega, rfl⟩
          exact Less.mk' (by simp (disch := (first | omega | (simp only [go_sem, ↓reduceIte, Nat.reduceEqDiff, Nat.reduceAdd, Nat.reduceMul, Nat.reduceSub, Nat.reduceLT, Nat.reduceLeDiff, Nat.reduceBNe, Nat.reduceBEq, Int.reduceToNat, Int.reduceAdd, Int.reduceSub, Int.reduceMul, Int.reduceLT, Int.reduceLE, Int.reduceNeg, Int.reduceBEq, Int.reduceBNe, Int.reduceEq, beq_self_eq_true, reduceCtorEq, decide_true, decide_false, if_pos, if_neg]; first | done | omega))) only [go_sem, ↓reduceIte, Nat.reduceEqDiff, Nat.reduceAdd, Nat.reduceMul, Nat.reduceSub, Nat.reduceLT, Nat.reduceLeDiff, Nat.reduceBNe, Nat.reduceBEq, Int.reduceToNat, Int.reduceAdd, Int.reduceSub, Int.reduceMul, Int.reduceLT, Int.reduceLE, Int.reduceNeg, Int.reduceBEq, Int.reduceBNe, Int.reduceEq, beq_self_eq_true, reduceCtorEq, decide_true, decide_false, if_pos, if_neg, ex, shD, shO, ey, hy', ints_cons]) (by simp (disch := (first | omega | (simp only [go_sem, ↓reduceIte, Nat.reduceEqDiff, Nat.reduceAdd, Nat.reduceMul, Nat.reduceSub, Nat.reduceLT, Nat.reduceLeDiff, Nat.reduceBNe, Nat.reduceBEq, Int.reduceToNat, Int.reduceAdd, Int.reduceSub, Int.reduceMul, Int.reduceLT, Int.reduceLE, Int.reduceNeg, Int.reduceBEq, Int.reduceBNe, Int.reduceEq, beq_self_eq_true, reduceCtorEq, decide_true, decide_false, if_pos, if_neg]; first | done | omega))) only [go_sem, ↓reduceIte, Nat.reduceEqDiff, Nat.reduceAdd, Nat.reduceMul, Nat.reduceSub, Nat.reduceLT, Nat.reduceLeDiff, Nat.reduceBNe, Nat.reduceBEq, Int.reduceToNat, Int.reduceAdd, Int.reduceSub, Int.reduceMul, Int.reduceLT, Int.reduceLE, Int.reduceNeg, Int.reduceBEq, Int.reduceBNe, Int.reduceEq, beq_self_eq_true, reduceCtorEq, decide_true, decide_false, if_pos, if_neg, ex, shD, shO, ey, hy', ints_cons]) (by decide) (by decide)
        · simp only [decide_eq_true_eq, decide_eq_false_iff_not, Bool.or_eq_true, Bool.and_eq_true, Bool.or_eq_false_iff, Bool.and_eq_false_iff, Bool.not_eq_true', Bool.not_eq_false', bne_iff_ne, beq_iff_eq, ne_eq, bne_eq_false_iff_eq, beq_eq_false_iff_ne, ge_iff_le, gt_iff_lt, Int.not_le, Int.not_lt] at h
          obtain rfl : m = j := by omega
          exact R_exitR ⟨(), trivial, Sub.trans (Sub.less (ids := [0, 1]) (s' := ⟨tl [(3, .sc (.int .u16 c)), (9, .pt 0 0), (10, .sl F.length (ints .i64 F)), (11, .sl G.length (ints .i64 G)), (12, .sl G.length (ints .i64 (both F G))), (13, .rf 1 0 m 1)], ol [(0, ⟨[.sl sz.length (ints .i64 sz), .sc (.int .i64 m), .sl da.length (ints .i64 da)], 24, 0, false⟩), (1, ⟨ints .i64 (idl m), 3, 1, false⟩)], 2, [], 326⟩) (Less.mk' (by simp (disch := (first | omega | (simp only [go_sem, ↓reduceIte, Nat.reduceEqDiff, Nat.reduceAdd, Nat.reduceMul, Nat.reduceSub, Nat.reduceLT, Nat.reduceLeDiff, Nat.reduceBNe, Nat.reduceBEq, Int.reduceToNat, Int.reduceAdd, Int.reduceSub, Int.reduceMul, Int.reduceLT, Int.reduceLE, Int.reduceNeg, Int.reduceBEq, Int.reduceBNe, Int.reduceEq, beq_self_eq_true, reduceCtorEq, decide_true, decide_false, if_pos, if_neg]; first | done | omega))) only [go_sem, ↓reduceIte, Nat.reduceEqDiff, Nat.reduceAdd, Nat.reduceMul, Nat.reduceSub, Nat.reduceLT, Nat.reduceLeDiff, Nat.reduceBNe, Nat.reduceBEq, Int.reduceToNat, Int.reduceAdd, Int.reduceSub, Int.reduceMul, Int.reduceLT, Int.reduceLE, Int.reduceNeg, Int.reduceBEq, Int.reduceBNe, Int.reduceEq, beq_self_eq_true, reduceCtorEq, decide_true, decide_false, if_pos, if_neg, hfl]) (by simp (disch := (first | omega | (simp only [go_sem, ↓reduceIte, Nat.reduceEqDiff, Nat.reduceAdd, Nat.reduceMul, Nat.reduceSub, Nat.reduceLT, Nat.reduceLeDiff, Nat.reduceBNe, Nat.reduceBEq, Int.reduceToNat, Int.reduceAdd, Int.reduceSub, Int.reduceMul, Int.reduceLT, Int.reduceLE, Int.reduceNeg, Int.reduceBEq, Int.reduceBNe, Int.reduceEq, beq_self_eq_true, reduceCtorEq, decide_true, decide_false, if_pos, if_neg]; first | done | omega))) only [go_sem, ↓reduceIte, Nat.reduceEqDiff, Nat.reduceAdd, Nat.reduceMul, Nat.reduceSub, Nat.reduceLT, Nat.reduceLeDiff, Nat.reduceBNe, Nat.reduceBEq, Int.reduceToNat, Int.reduceAdd, Int.reduceSub, Int.reduceMul, Int.reduceLT, Int.reduceLE, Int.reduceNeg, Int.reduceBEq, Int.reduceBNe, Int.reduceEq, beq_self_eq_true, reduceCtorEq, decide_true, decide_false, if_pos, if_neg, hfl]) (by decide) (by decide))) (Sub.trans (Sub.frz [1] rfl) (Sub.trans (Sub.seen [1] [(3, .sc (.int .u16 c)), (9, .pt 0 0), (10, .sl F.length (ints .i64 F)), (11, .sl G.length (ints .i64 G)), (12, .sl G.length (ints .i64 (both F G))), (13, .sl m (ints .i64 (idl m)))] (frz_cons (fun o h => by cases h; rfl) (frz_nil _)) ⟨.inl (by simp (disch := (first | omega | (simp only [go_sem, ↓reduceIte, Nat.reduceEqDiff, Nat.reduceAdd, Nat.reduceMul, Nat.reduceSub, Nat.reduceLT, Nat.reduceLeDiff, Nat.reduceBNe, Nat.reduceBEq, Int.reduceToNat, Int.reduceAdd, Int.reduceSub, Int.reduceMul, Int.reduceLT, Int.reduceLE, Int.reduceNeg, Int.reduceBEq, Int.reduceBNe, Int.reduceEq, beq_self_eq_true, reduceCtorEq, decide_true, decide_false, if_pos, if_neg]; first | done | omega))) only [go_sem, ↓reduceIte, Nat.reduceEqDiff, Nat.reduceAdd, Nat.reduceMul, Nat.reduceSub, Nat.reduceLT, Nat.reduceLeDiff, Nat.reduceBNe, Nat.reduceBEq, Int.reduceToNat, Int.reduceAdd, Int.reduceSub, Int.reduceMul, Int.reduceLT, Int.reduceLE, Int.reduceNeg, Int.reduceBEq, Int.reduceBNe, Int.reduceEq, beq_self_eq_true, reduceCtorEq, decide_true, decide_false, if_pos, if_neg] <;> rfl), .inl (by simp (disch := (first | omega | (simp only [go_sem, ↓reduceIte, Nat.reduceEqDiff, Nat.reduceAdd, Nat.reduceMul, Nat.reduceSub, Nat.reduceLT, Nat.reduceLeDiff, Nat.reduceBNe, Nat.reduceBEq, Int.reduceToNat, Int.reduceAdd, Int.reduceSub, Int.reduceMul, Int.reduceLT, Int.reduceLE, Int.reduceNeg, Int.reduceBEq, Int.reduceBNe, Int.reduceEq, beq_self_eq_true, reduceCtorEq, decide_true, decide_false, if_pos, if_neg]; first | done | omega))) only [go_sem, ↓reduceIte, Nat.reduceEqDiff, Nat.reduceAdd, Nat.reduceMul, Nat.reduceSub, Nat.reduceLT, Nat.reduceLeDiff, Nat.reduceBNe, Nat.reduceBEq, Int.reduceToNat, Int.reduceAdd, Int.reduceSub, Int.reduceMul, Int.reduceLT, Int.reduceLE, Int.reduceNeg, Int.reduceBEq, Int.reduceBNe, Int.reduceEq, beq_self_eq_true, reduceCtorEq, decide_true, decide_false, if_pos, if_neg] <;> rfl), .inl (by simp (disch := (first | omega | (simp only [go_sem, ↓reduceIte, Nat.reduceEqDiff, Nat.reduceAdd, Nat.reduceMul, Nat.reduceSub, Nat.reduceLT, Nat.reduceLeDiff, Nat.reduceBNe, Nat.reduceBEq, Int.reduceToNat, Int.reduceAdd, Int.reduceSub, Int.reduceMul, Int.reduceLT, Int.reduceLE, Int.reduceNeg, Int.reduceBEq, Int.reduceBNe, Int.reduceEq, beq_self_eq_true, reduceCtorEq, decide_true, decide_false, if_pos, if_neg]; first | done | omega))) only [go_sem, ↓reduceIte, Nat.reduceEqDiff, Nat.reduceAdd, Nat.reduceMul, Nat.reduceSub, Nat.reduceLT, Nat.reduceLeDiff, Nat.reduceBNe, Nat.reduceBEq, Int.reduceToNat, Int.reduceAdd, Int.reduceSub, Int.reduceMul, Int.reduceLT, Int.reduceLE, Int.reduceNeg, Int.reduceBEq, Int.reduceBNe, Int.reduceEq, beq_self_eq_true, reduceCtorEq, decide_true, decide_false, if_pos, if_neg] <;> rfl), .inl (by simp (disch := (first | omega | (simp only [go_sem, ↓reduceIte, Nat.reduceEqDiff, Nat.reduceAdd, Nat.reduceMul, Nat.reduceSub, Nat.reduceLT, Nat.reduceLeDiff, Nat.reduceBNe, Nat.reduceBEq, Int.reduceToNat, Int.reduceAdd, Int.reduceSub, Int.reduceMul, Int.reduceLT, Int.reduceLE, Int.reduceNeg, Int.reduceBEq, Int.reduceBNe, Int.reduceEq, beq_self_eq_true, reduceCtorEq, decide_true, decide_false, if_pos, if_neg]; first | done | omega))) only [go_sem, ↓reduceIte, Nat.reduceEqDiff, Nat.reduceAdd, Nat.reduceMul, Nat.reduceSub, Nat.reduceLT, Nat.reduceLeDiff, Nat.reduceBNe, Nat.reduceBEq, Int.reduceToNat, Int.reduceAdd, Int.reduceSub, Int.reduceMul, Int.reduceLT, Int.reduceLE, Int.reduceNeg, Int.reduceBEq, Int.reduceBNe, Int.reduceEq, beq_self_eq_true, reduceCtorEq, decide_true, decide_false, if_pos, if_neg] <;> rfl), .inl (by simp (disch := (first | omega | (simp only [go_sem, ↓reduceIte, Nat.reduceEqDiff, Nat.reduceAdd, Nat.reduceMul, Nat.reduceSub, Nat.reduceLT, Nat.reduceLeDiff, Nat.reduceBNe, Nat.reduceBEq, Int.reduceToNat, Int.reduceAdd, Int.reduceSub, Int.reduceMul, Int.reduceLT, Int.reduceLE, Int.reduceNeg, Int.reduceBEq, Int.reduceBNe, Int.reduceEq, beq_self_eq_true, reduceCtorEq, decide_true, decide_false, if_pos, if_neg]; first | done | omega))) only [go_sem, ↓reduceIte, Nat.reduceEqDiff, Nat.reduceAdd, Nat.reduceMul, Nat.reduceSub, Nat.reduceLT, Nat.reduceLeDiff, Nat.reduceBNe, Nat.reduceBEq, Int.reduceToNat, Int.reduceAdd, Int.reduceSub, Int.reduceMul, Int.reduceLT, Int.reduceLE, Int.reduceNeg, Int.reduceBEq, Int.reduceBNe, Int.reduceEq, beq_self_eq_true, reduceCtorEq, decide_true, decide_false, if_pos, if_neg] <;> rfl), .inr (by simp (disch := (first | omega | (simp only [go_sem, ↓reduceIte, Nat.reduceEqDiff, Nat.reduceAdd, Nat.reduceMul, Nat.reduceSub, Nat.reduceLT, Nat.reduceLeDiff, Nat.reduceBNe, Nat.reduceBEq, Int.reduceToNat, Int.reduceAdd, Int.reduceSub, Int.reduceMul, Int.reduceLT, Int.reduceLE, Int.reduceNeg, Int.reduceBEq, Int.reduceBNe, Int.reduceEq, beq_self_eq_true, reduceCtorEq, decide_true, decide_false, if_pos, if_neg]; first | done | omega))) only [go_sem, ↓reduceIte, Nat.reduceEqDiff, Nat.reduceAdd, Nat.reduceMul, Nat.reduceSub, Nat.reduceLT, Nat.reduceLeDiff, Nat.reduceBNe, Nat.reduceBEq, Int.reduceToNat, Int.reduceAdd, Int.reduceSub, Int.reduceMul, Int.reduceLT, Int.reduceLE, Int.reduceNeg, Int.reduceBEq, Int.reduceBNe, Int.reduceEq, beq_self_eq_true, reduceCtorEq, decide_true, decide_false, if_pos, if_neg, fzO, Sg.app, List.foldl_cons, List.foldl_nil, List.length_nil, hfl]), trivial⟩) (Sub.less (ids := [0]) (Less.mk' (by simp (disch := (first | omega | (simp only [go_sem, ↓reduceIte, Nat.reduceEqDiff, Nat.reduceAdd, Nat.reduceMul, Nat.reduceSub, Nat.reduceLT, Nat.reduceLeDiff, Nat.reduceBNe, Nat.reduceBEq, Int.reduceToNat, Int.reduceAdd, Int.reduceSub, Int.reduceMul, Int.reduceLT, Int.reduceLE, Int.reduceNeg, Int.reduceBEq, Int.reduceBNe, Int.reduceEq, beq_self_eq_true, reduceCtorEq, decide_true, decide_false, if_pos, if_neg]; first | done | omega))) only [go_sem, ↓reduceIte, Nat.reduceEqDiff, Nat.reduceAdd, Nat.reduceMul, Nat.reduceSub, Nat.reduceLT, Nat.reduceLeDiff, Nat.reduceBNe, Nat.reduceBEq, Int.reduceToNat, Int.reduceAdd, Int.reduceSub, Int.reduceMul, Int.reduceLT, Int.reduceLE, Int.reduceNeg, Int.reduceBEq, Int.reduceBNe, Int.reduceEq, beq_self_eq_true, reduceCtorEq, decide_true, decide_false, if_pos, if_neg]) (by simp (disch := (first | omega | (simp only [go_sem, ↓reduceIte, Nat.reduceEqDiff, Nat.reduceAdd, Nat.reduceMul, Nat.reduceSub, Nat.reduceLT, Nat.reduceLeDiff, Nat.reduceBNe, Nat.reduceBEq, Int.reduceToNat, Int.reduceAdd, Int.reduceSub, Int.reduceMul, Int.reduceLT, Int.reduceLE, Int.reduceNeg, Int.reduceBEq, Int.reduceBNe, Int.reduceEq, beq_self_eq_true, reduceCtorEq, decide_true, decide_false, if_pos, if_neg]; first | done | omega))) only [go_sem, ↓reduceIte, Nat.reduceEqDiff, Nat.reduceAdd, Nat.reduceMul, Nat.reduceSub, Nat.reduceLT, Nat.reduceLeDiff, Nat.reduceBNe, Nat.reduceBEq, Int.reduceToNat, Int.reduceAdd, Int.reduceSub, Int.reduceMul, Int.reduceLT, Int.reduceLE, Int.reduceNeg, Int.reduceBEq, Int.reduceBNe, Int.reduceEq, beq_self_eq_true, reduceCtorEq, decide_true, decide_false, if_pos, if_neg, fzO, Sg.app, List.foldl_cons, List.foldl_nil]) (by decide) (by decide)))))⟩
    intro _ _
    -- the four picks
    have il := idl_length m
    have k1 : points sz * m ≤ 4096 := by omega
    have k2 : points sz * F.length ≤ 4096 := by have := Nat.mul_le_mul hp64.2 hF4; omega
    have k3 : points sz * G.length ≤ 4096 := by have := Nat.mul_le_mul hp64.2 hG4; omega
    have c21a := con21 sz m da (idl m) hR (by omega) (Pk_idl m) (by rw [il]; exact k1)
    rw [pall_idl hl, il] at c21a
    have c21b := con21 sz m da F hR ⟨hF1, hF4⟩ hF k2
    have c21c := con21 sz F.length (pall da m F (points sz)) G (hR.picked ⟨hF1, hF4⟩ hF k2) ⟨hG1, hG4⟩ hG k3
    rw [pall_pall hG] at c21c
    have c21d := con21 sz m da (both F G) hR (by omega) hbk (by rw [hbl]; exact k3)
    rw [hbl] at c21d
    have hdiv : da.length / m = points sz := by rw [hl]; exact Nat.mul_div_cancel _ (by omega)
    have hm0 : m ≠ 0 := by omega
    have hn : c % (da.length / m) < points sz := by rw [hdiv]; exact Nat.mod_lt _ (by omega)
    have hdp : da.length / m ≠ 0 := by omega
    have hdb : 0 ≤ ((da.length / m : Nat) : Int) ∧ ((da.length / m : Nat) : Int) ≤ 4096 := ⟨Int.natCast_nonneg _, by have := Nat.div_le_self da.length m; exact Int.ofNat_le.2 (Nat.le_trans this hd)⟩
    have c24 := con24D sz ((c % (da.length / m) : Nat) : Int) hz1 h4 hs (by omega) (by omega)
    obtain ⟨b0, b1, lo0, hi0, lo1, hi1, n1, n2, n3, n4, n5, n6, c15, c15', c27, c27', hE⟩ := pick_facts hR ⟨hF1, hF4⟩ hF k2 hn
    have hol : (outD sz ((c % (da.length / m) : Nat) : Int) sz.length).length = sz.length := (index_ok hR hn).1.1
    generalize outD sz ((c % (da.length / m) : Nat) : Int) sz.length = X at c24 c15 c15' hol
    generalize pall da m F (points sz) = da1 at c21b c21c c15' c27'
    generalize pall da m (both F G) (points sz) = da2 at c21c c21d
    refine go ?_
    refine callf (c21a) ?_
    refine go ?_
    refine callf (c21b) ?_
    refine go ?_
    refine callf (c21c) ?_
    refine go ?_
    refine callf (c21d) ?_
    refine gon ?_
    refine call (con31e _ _ _ _ rfl) ?_
    refine gon ?_
    refine call (con31e _ _ _ _ rfl) ?_
    refine gon ?_
    refine cnd (fun h => ?_) (fun h => ?_)
    · cases h
    · refine R_less (ids := [0, 2]) (st' := ⟨tl [(3, .sc (.int .u16 c)), (9, .pt 0 0), (10, .sl F.length (ints .i64 F)), (23, .pt 1 0)], ol [(0, ⟨[.sl sz.length (ints .i64 sz), .sc (.int .i64 m), .sl da.length (ints .i64 da)], 24, 0, false⟩), (1, ⟨[.sl sz.length (ints .i64 sz), .sc (.int .i64 F.length), .sl da1.length (ints .i64 da1)], 24, 0, false⟩)], 2, [], 326⟩) (Less.mk' (by simp (disch := (first | omega | (simp only [go_sem, ↓reduceIte, Nat.reduceEqDiff, Nat.reduceAdd, Nat.reduceMul, Nat.reduceSub, Nat.reduceLT, Nat.reduceLeDiff, Nat.reduceBNe, Nat.reduceBEq, Int.reduceToNat, Int.reduceAdd, Int.reduceSub, Int.reduceMul, Int.reduceLT, Int.reduceLE, Int.reduceNeg, Int.reduceBEq, Int.reduceBNe, Int.reduceEq, beq_self_eq_true, reduceCtorEq, decide_true, decide_false, if_pos, if_neg]; first | done | omega))) only [go_sem, ↓reduceIte, Nat.reduceEqDiff, Nat.reduceAdd, Nat.reduceMul, Nat.reduceSub, Nat.reduceLT, Nat.reduceLeDiff, Nat.reduceBNe, Nat.reduceBEq, Int.reduceToNat, Int.reduceAdd, Int.reduceSub, Int.reduceMul, Int.reduceLT, Int.reduceLE, Int.reduceNeg, Int.reduceBEq, Int.reduceBNe, Int.reduceEq, beq_self_eq_true, reduceCtorEq, decide_true, decide_false, if_pos, if_neg]) (by simp (disch := (first | omega | (simp only [go_sem, ↓reduceIte, Nat.reduceEqDiff, Nat.reduceAdd, Nat.reduceMul, Nat.reduceSub, Nat.reduceLT, Nat.reduceLeDiff, Nat.reduceBNe, Nat.reduceBEq, Int.reduceToNat, Int.reduceAdd, Int.reduceSub, Int.reduceMul, Int.reduceLT, Int.reduceLE, Int.reduceNeg, Int.reduceBEq, Int.reduceBNe, Int.reduceEq, beq_self_eq_true, reduceCtorEq, decide_true, decide_false, if_pos, if_neg]; first | done | omega))) only [go_sem, ↓reduceIte, Nat.reduceEqDiff, Nat.reduceAdd, Nat.reduceMul, Nat.reduceSub, Nat.reduceLT, Nat.reduceLeDiff, Nat.reduceBNe, Nat.reduceBEq, Int.reduceToNat, Int.reduceAdd, Int.reduceSub, Int.reduceMul, Int.reduceLT, Int.reduceLE, Int.reduceNeg, Int.reduceBEq, Int.reduceBNe, Int.reduceEq, beq_self_eq_true, reduceCtorEq, decide_true, decide_false, if_pos, if_neg]) (by decide) (by decide)) ?_ (by simp)
      refine go ?_
      refine callf (c24) ?_
      refine go ?_
      refine callf (c15) ?_
      refine go ?_
      refine callf (c15') ?_
      refine go ?_
      refine callf (c27) ?_
      refine go ?_
      refine callf (c27') ?_
      refine gon ?_
      refine cnd (fun h => ?_) (fun h => ?_)
      · cases h
      · refine go ?_
        refine R_loop (fun k : Nat => ⟨tl [(30, .sl m (ints .i64 b0)), (32, .sl F.length (ints .i64 b1)), (34, .sl m (ints .i64 lo0)), (35, .sl m (ints .i64 hi0)), (37, .sl F.length (ints .i64 lo1)), (38, .sl F.length (ints .i64 hi1)), (265, .sl F.length (ints .i64 F)), (266, .sc (.int .i64 F.length)), (267, .sc (.int .i64 k))], ol [], 0, [], 326⟩) (fun k => k ≤ F.length) (fun k => F.length - k) 0 [] (Less.mk' (by simp (disch := (first | omega | (simp only [go_sem, ↓reduceIte, Nat.reduceEqDiff, Nat.reduceAdd, Nat.reduceMul, Nat.reduceSub, Nat.reduceLT, Nat.reduceLeDiff, Nat.reduceBNe, Nat.reduceBEq, Int.reduceToNat, Int.reduceAdd, Int.reduceSub, Int.reduceMul, Int.reduceLT, Int.reduceLE, Int.reduceNeg, Int.reduceBEq, Int.reduceBNe, Int.reduceEq, beq_self_eq_true, reduceCtorEq, decide_true, decide_false, if_pos, if_neg]; first | done | omega))) only [go_sem, ↓reduceIte, Nat.reduceEqDiff, Nat.reduceAdd, Nat.reduceMul, Nat.reduceSub, Nat.reduceLT, Nat.reduceLeDiff, Nat.reduceBNe, Nat.reduceBEq, Int.reduceToNat, Int.reduceAdd, Int.reduceSub, Int.reduceMul, Int.reduceLT, Int.reduceLE, Int.reduceNeg, Int.reduceBEq, Int.reduceBNe, Int.reduceEq, beq_self_eq_true, reduceCtorEq, decide_true, decide_false, if_pos, if_neg]) (by simp (disch := (first | omega | (simp only [go_sem, ↓reduceIte, Nat.reduceEqDiff, Nat.reduceAdd, Nat.reduceMul, Nat.reduceSub, Nat.reduceLT, Nat.reduceLeDiff, Nat.reduceBNe, Nat.reduceBEq, Int.reduceToNat, Int.reduceAdd, Int.reduceSub, Int.reduceMul, Int.reduceLT, Int.reduceLE, Int.reduceNeg, Int.reduceBEq, Int.reduceBNe, Int.reduceEq, beq_self_eq_true, reduceCtorEq, decide_true, decide_false, if_pos, if_neg]; first | done | omega))) only [go_sem, ↓reduceIte, Nat.reduceEqDiff, Nat.reduceAdd, Nat.reduceMul, Nat.reduceSub, Nat.reduceLT, Nat.reduceLeDiff, Nat.reduceBNe, Nat.reduceBEq, Int.reduceToNat, Int.reduceAdd, Int.reduceSub, Int.reduceMul, Int.reduceLT, Int.reduceLE, Int.reduceNeg, Int.reduceBEq, Int.reduceBNe, Int.reduceEq, beq_self_eq_true, reduceCtorEq, decide_true, decide_false, if_pos, if_neg]) (by decide) (by decide)) (by omega) fun k hk => ?_
        refine go ?_
        refine cnd (fun h => ?_) (fun h => ?_)
        · simp only [decide_eq_true_eq, decide_eq_false_iff_not, Bool.or_eq_true, Bool.and_eq_true, Bool.or_eq_false_iff, Bool.and_eq_false_iff, Bool.not_eq_true', Bool.not_eq_false', bne_iff_ne, beq_iff_eq, ne_eq, bne_eq_false_iff_eq, beq_eq_false_iff_ne, ge_iff_le, gt_iff_lt, Int.not_le, Int.not_lt] at h
          obtain ⟨e1, e2, e3, e4, e5⟩ := hE k (by omega)
          have hFk := hF k (by omega)
          refine go ?_
          refine cnd (fun h => ?_) (fun h => ?_)
          · simp only [decide_eq_true_eq, decide_eq_false_iff_not, Bool.or_eq_true, Bool.and_eq_true, Bool.or_eq_false_iff, Bool.and_eq_false_iff, Bool.not_eq_true', Bool.not_eq_false', bne_iff_ne, beq_iff_eq, ne_eq, bne_eq_false_iff_eq, beq_eq_false_iff_ne, ge_iff_le, gt_iff_lt, Int.not_le, Int.not_lt] at h
            omega
          · refine go ?_
            refine R_nilR ⟨[], _, ?_, k + 1, by omega, by omega, rfl⟩; exact Less.mk' (by simp (disch := (first | omega | (simp only [go_sem, ↓reduceIte, Nat.reduceEqDiff, Nat.reduceAdd, Nat.reduceMul, Nat.reduceSub, Nat.reduceLT, Nat.reduceLeDiff, Nat.reduceBNe, Nat.reduceBEq, Int.reduceToNat, Int.reduceAdd, Int.reduceSub, Int.reduceMul, Int.reduceLT, Int.reduceLE, Int.reduceNeg, Int.reduceBEq, Int.reduceBNe, Int.reduceEq, beq_self_eq_true, reduceCtorEq, decide_true, decide_false, if_pos, if_neg]; first | done | omega))) only [go_sem, ↓reduceIte, Nat.reduceEqDiff, Nat.reduceAdd, Nat.reduceMul, Nat.reduceSub, Nat.reduceLT, Nat.reduceLeDiff, Nat.reduceBNe, Nat.reduceBEq, Int.reduceToNat, Int.reduceAdd, Int.reduceSub, Int.reduceMul, Int.reduceLT, Int.reduceLE, Int.reduceNeg, Int.reduceBEq, Int.reduceBNe, Int.reduceEq, beq_self_eq_true, reduceCtorEq, decide_true, decide_false, if_pos, if_neg]) (by simp (disch := (first | omega | (simp only [go_sem, ↓reduceIte, Nat.reduceEqDiff, Nat.reduceAdd, Nat.reduceMul, Nat.reduceSub, Nat.reduceLT, Nat.reduceLeDiff, Nat.reduceBNe, Nat.reduceBEq, Int.reduceToNat, Int.reduceAdd, Int.reduceSub, Int.reduceMul, Int.reduceLT, Int.reduceLE, Int.reduceNeg, Int.reduceBEq, Int.reduceBNe, Int.reduceEq, beq_self_eq_true, reduceCtorEq, decide_true, decide_false, if_pos, if_neg]; first | done | omega))) only [go_sem, ↓reduceIte, Nat.reduceEqDiff, Nat.reduceAdd, Nat.reduceMul, Nat.reduceSub, Nat.reduceLT, Nat.reduceLeDiff, Nat.reduceBNe, Nat.reduceBEq, Int.reduceToNat, Int.reduceAdd, Int.reduceSub, Int.reduceMul, Int.reduceLT, Int.reduceLE, Int.reduceNeg, Int.reduceBEq, Int.reduceBNe, Int.reduceEq, beq_self_eq_true, reduceCtorEq, decide_true, decide_false, if_pos, if_neg]) (by decide) (by decide)
        · refine go ?_
          refine R_ret (fin_of (ids := []) (by simp (disch := (first | omega | (simp only [go_sem, ↓reduceIte, Nat.reduceEqDiff, Nat.reduceAdd, Nat.reduceMul, Nat.reduceSub, Nat.reduceLT, Nat.reduceLeDiff, Nat.reduceBNe, Nat.reduceBEq, Int.reduceToNat, Int.reduceAdd, Int.reduceSub, Int.reduceMul, Int.reduceLT, Int.reduceLE, Int.reduceNeg, Int.reduceBEq, Int.reduceBNe, Int.reduceEq, beq_self_eq_true, reduceCtorEq, decide_true, decide_false, if_pos, if_neg]; first | done | omega))) only [go_sem, ↓reduceIte, Nat.reduceEqDiff, Nat.reduceAdd, Nat.reduceMul, Nat.reduceSub, Nat.reduceLT, Nat.reduceLeDiff, Nat.reduceBNe, Nat.reduceBEq, Int.reduceToNat, Int.reduceAdd, Int.reduceSub, Int.reduceMul, Int.reduceLT, Int.reduceLE, Int.reduceNeg, Int.reduceBEq, Int.reduceBNe, Int.reduceEq, beq_self_eq_true, reduceCtorEq, decide_true, decide_false, if_pos, if_neg] <;> rfl) (by simp (disch := (first | omega | (simp only [go_sem, ↓reduceIte, Nat.reduceEqDiff, Nat.reduceAdd, Nat.reduceMul, Nat.reduceSub, Nat.reduceLT, Nat.reduceLeDiff, Nat.reduceBNe, Nat.reduceBEq, Int.reduceToNat, Int.reduceAdd, Int.reduceSub, Int.reduceMul, Int.reduceLT, Int.reduceLE, Int.reduceNeg, Int.reduceBEq, Int.reduceBNe, Int.reduceEq, beq_self_eq_true, reduceCtorEq, decide_true, decide_false, if_pos, if_neg]; first | done | omega))) only [go_sem, ↓reduceIte, Nat.reduceEqDiff, Nat.reduceAdd, Nat.reduceMul, Nat.reduceSub, Nat.reduceLT, Nat.reduceLeDiff, Nat.reduceBNe, Nat.reduceBEq, Int.reduceToNat, Int.reduceAdd, Int.reduceSub, Int.reduceMul, Int.reduceLT, Int.reduceLE, Int.reduceNeg, Int.reduceBEq, Int.reduceBNe, Int.reduceEq, beq_self_eq_true, reduceCtorEq, decide_true, decide_false, if_pos, if_neg]) (by decide) (by simp (disch := (first | omega | (simp only [go_sem, ↓reduceIte, Nat.reduceEqDiff, Nat.reduceAdd, Nat.reduceMul, Nat.reduceSub, Nat.reduceLT, Nat.reduceLeDiff, Nat.reduceBNe, Nat.reduceBEq, Int.reduceToNat, Int.reduceAdd, Int.reduceSub, Int.reduceMul, Int.reduceLT, Int.reduceLE, Int.reduceNeg, Int.reduceBEq, Int.reduceBNe, Int.reduceEq, beq_self_eq_true, reduceCtorEq, decide_true, decide_false, if_pos, if_neg]; first | done | omega))) only [go_sem, ↓reduceIte, Nat.reduceEqDiff, Nat.reduceAdd, Nat.reduceMul, Nat.reduceSub, Nat.reduceLT, Nat.reduceLeDiff, Nat.reduceBNe, Nat.reduceBEq, Int.reduceToNat, Int.reduceAdd, Int.reduceSub, Int.reduceMul, Int.reduceLT, Int.reduceLE, Int.reduceNeg, Int.reduceBEq, Int.reduceBNe, Int.reduceEq, beq_self_eq_true, reduceCtorEq, decide_true, decide_false, if_pos, if_neg]))
end Go.Proofs.Ytndigibhmfegaaa.V

/-
  GridPicks: for every input the law returns true, and the input reads as it did.
-/
set_option maxRecDepth 100000
set_option maxHeartbeats 4000000
namespace Go.Proofs.Ytndigibhmfegaaa
open Go.ChangeShapes Go.WideShapes Go.ChangeAt Go.RowKit

theorem picks_con : ∀ us : List V.D, us.length = Try.f9.params.size → (∀ (j : Nat) t a, Try.f9.params[j]? = some t → us[j]? = some a → V.ShapeV Try.prog 5 t a) → V.Con Try.prog 9 us (.sc (.bool true)) [] := by
  intro us hl h
  rw [Try.params9] at hl h
  obtain ⟨v0, v1, v2, v3, rfl⟩ := V.len4 hl
  obtain ⟨S0, q0, W0, sm0, rfl, sa0, sb0, sc0⟩ := V.sh_dr (h 0 28 v0 rfl rfl)
  obtain ⟨us1, rfl, ub1⟩ := V.sh_u8s (h 1 25 v1 rfl rfl)
  obtain ⟨us2, rfl, ub2⟩ := V.sh_u8s (h 2 25 v2 rfl rfl)
  obtain ⟨n3, rfl, nb3⟩ := V.sh_u16 (h 3 62 v3 rfl rfl)
  exact V.con9 S0 q0 W0 sm0 us1 us2 n3 sa0 sb0 sc0 ub1 ub2 nb3

theorem picks_lifted (os : Os) (started : os.Started) (H : Type) (enc : TypeId × Value → H) :
    ReturnsInHanded {} Try.checked os 9 .any (Rows.gridPicksSpec.pre6 enc Try.prog Try.f9 Rows.gridPicksRow.domain false) (Rows.gridPicksSpec.post enc Try.prog Try.f9 false true false false) := by
  refine returnsInHanded_of_change (C := Try.checked) own started (by kernel_rfl) Try.func9
    (ChangeSpec.witness6 (enc := enc) (C := Try.checked) false ⟨#[], #[.agg #[.slice none 0 0, .int .u8 0, .slice none 0 0, .bool false], .slice none 0 0, .slice none 0 0, .int .u16 0], []⟩ 8 (by kernel_rfl) (by kernel_rfl) (by kernel_rfl) (by kernel_rfl)) ?_
  intro W base args ds gs before hval hW _ _
  exact V.law_post (n := 5) kids full (by kernel_rfl) rfl Try.underlying4 rfl (fun ds hd => by obtain ⟨v0, v1, v2, v3, rfl⟩ := V.len4 hd; rfl) picks_con W base args ds gs before hval hW

theorem picks_over : Rows.gridPicksRow.holds Try.pinned (OpenSpec.ofChange Rows.gridPicksSpec) :=
  OpenClaim.holds_of_wide 9 Try.f9 rfl rfl rfl rfl rfl rfl rfl ⟨rfl, rfl, rfl, rfl, rfl⟩ rfl rfl rfl rfl rfl (by kernel_rfl) Try.func9 (by kernel_rfl)
    (of_decide_eq_true (by kernel_rfl)) (by unfold Func.isWrapper; first | (rw [if_pos (by decide +kernel)]; kernel_rfl) | (rw [if_neg (by decide +kernel)]; exact ⟨rfl, rfl⟩))
    (fun os started H enc _ => picks_lifted os started H enc)
theorem gridPicks_holds : Rows.GridPicksSaid := picks_over
end Go.Proofs.Ytndigibhmfegaaa

