/-
  Facts of this seat's rows.
-/
import Derived.Test.YtndigibhmfegaaaKB5
import Derived.Test.YtndigibhmfegaaaRows
set_option linter.unusedSimpArgs false
set_option linter.unusedVariables false
namespace Go.Proofs.Ytndigibhmfegaaa
open Go.ChangeShapes

theorem own : ownKnob Try.prog.godebug = none := by kernel_rfl
theorem kids : Kids Try.prog (· < Try.prog.types.size) := kids_rows (by kernel_rfl) (by kernel_rfl)
theorem full : ∀ t e, t < Try.prog.types.size → Try.prog.underlying t = some (.slice e) → 0 < Try.prog.cellsOf e := slices_full_of Try.prog (by kernel_rfl)
end Go.Proofs.Ytndigibhmfegaaa

/-
  Swapping twice; ranges of grids with the same values; picking twice, plain.
-/
set_option linter.unusedSimpArgs false
set_option linter.unusedVariables false
namespace Go.Proofs.Ytndigibhmfegaaa.V
open Go Go.Proofs Go.RowKit

theorem swp_swp {a b : Nat} {xs : List Int} (ha : a < xs.length) (hb : b < xs.length) : swp b a (swp a b xs) = xs := by
  refine eq_of_getD (by simp [swp_length]) fun i _ => ?_
  rw [swp_get (by rw [swp_length]; exact hb) (by rw [swp_length]; exact ha), swp_get ha hb, swp_get ha hb, swp_get ha hb]
  by_cases h1 : i = a
  · subst h1; simp
  · rw [if_neg h1]
    by_cases h2 : i = b
    · subst h2
      by_cases h3 : a = i
      · subst h3; simp
      · simp [h3]
    · simp [h1, h2]
theorem swp_congr {a b n : Nat} {xs ys : List Int} (ha : a < n) (hb : b < n) (hx : n ≤ xs.length) (hy : n ≤ ys.length) (h : ∀ i, i < n → xs.getD i 0 = ys.getD i 0) : ∀ i, i < n → (swp a b xs).getD i 0 = (swp a b ys).getD i 0 := fun i hi => by
  rw [swp_get (by omega) (by omega), swp_get (by omega) (by omega), h a ha, h b hb, h i hi]
/-- The position with a valid index' number has that index' numbers. -/
theorem seqP_pv {sz xs : List Int} (h4 : sz.length ≤ 4) (hs : Sz sz) (hv : Valid sz xs sz.length) : (pv sz xs sz.length).toNat < points sz ∧ ∀ i, i < sz.length → (seqP sz (pv sz xs sz.length).toNat).getD i 0 = xs.getD i 0 := by
  have hp := points_eq fun i hi => (hs i hi).1
  obtain ⟨p1, p2, _⟩ := pv_range (sz := sz) (ps := xs) sz.length (fun i hi => (hs i hi).1) hv
  have hn : (pv sz xs sz.length).toNat < points sz := by omega
  obtain ⟨c1, c2, c3, _⟩ := seqP_ok h4 hs hn
  exact ⟨hn, pv_inj sz.length c2 hv (by rw [c3]; omega)⟩
/-- A valid index, its numbers exchanged, names in the swapped grid what it names in the grid. -/
theorem snum_pv {sz xs : List Int} {a b : Nat} (h4 : sz.length ≤ 4) (hs : Sz sz) (ha : a < sz.length) (hb : b < sz.length) (hl : sz.length ≤ xs.length) (hv : Valid sz xs sz.length) :
    Valid (swp a b sz) (swp a b xs) sz.length ∧ (pv (swp a b sz) (swp a b xs) sz.length).toNat < points sz ∧ snum a b sz (pv (swp a b sz) (swp a b xs) sz.length).toNat = (pv sz xs sz.length).toNat := by
  have hs' := swp_Sz hs ha hb
  have hsl := swp_length a b sz
  have hv' : Valid (swp a b sz) (swp a b xs) sz.length := by
    have := swp_Valid (a := b) (b := a) (sz := swp a b sz) (xs := xs) (by rw [hsl]; exact hb) (by rw [hsl]; exact ha) (by rw [hsl]; exact hl) (by rw [swp_swp ha hb, hsl]; exact hv)
    rw [hsl, swp_comm (a := b) (b := a) (xs := xs) (by omega) (by omega)] at this
    exact this
  have hq := seqP_pv (sz := swp a b sz) (xs := swp a b xs) (by rw [hsl]; exact h4) hs' (by rw [hsl]; exact hv')
  rw [hsl, points_swp ha hb] at hq
  refine ⟨hv', hq.1, ?_⟩
  obtain ⟨c1, _⟩ := seqP_ok (sz := swp a b sz) (by rw [hsl]; exact h4) hs' (n := (pv (swp a b sz) (swp a b xs) sz.length).toNat) (by rw [points_swp ha hb]; exact hq.1)
  unfold snum
  congr 1
  refine pv_congr _ fun i hi => ?_
  rw [swp_congr ha hb (by omega) (by rw [swp_length]; exact hl) hq.2 i hi, swp_comm (xs := swp a b xs) (by rw [swp_length]; omega) (by rw [swp_length]; omega), swp_swp (by omega) (by omega)]
theorem snum_snum {sz : List Int} {a b : Nat} (h4 : sz.length ≤ 4) (hs : Sz sz) (ha : a < sz.length) (hb : b < sz.length) {n : Nat} (hn : n < points sz) : snum b a (swp a b sz) n < points sz ∧ snum a b sz (snum b a (swp a b sz) n) = n := by
  obtain ⟨c1, c2, c3, _⟩ := seqP_ok h4 hs hn
  obtain ⟨h1, h2, h3⟩ := snum_pv h4 hs ha hb (by omega) c2
  have e : snum b a (swp a b sz) n = (pv (swp a b sz) (swp a b (seqP sz n)) sz.length).toNat := by
    unfold snum
    rw [swp_swp ha hb, swp_length, swp_comm (xs := seqP sz n) (by omega) (by omega)]
  rw [e]
  exact ⟨h2, by rw [h3, c3]; exact Int.toNat_natCast n⟩
/-- A block of a list of blocks. -/
theorem sall_blk {sz da : List Int} {a b m : Nat} (h4 : sz.length ≤ 4) (hs : Sz sz) (ha : a < sz.length) (hb : b < sz.length) (hl : da.length = points sz * m) : ∀ N n, n < N → N ≤ points sz → blk (sall a b sz da m N) m n = blk da m (snum a b sz n)
  | 0, n, h, _ => by omega
  | N + 1, n, h, hN => by
    have hsl := sall_length (m := m) h4 hs ha hb hl N (by omega)
    have hbl := blk_length (blk_ok hl (snum_ok h4 hs ha hb (show N < points sz by omega)).2)
    simp only [sall]
    by_cases e : n = N
    · subst e
      unfold blk
      rw [List.drop_append_of_le_length (by omega), List.drop_eq_nil_of_le (by omega), List.nil_append]
      exact List.take_of_length_le (by unfold blk at hbl; omega)
    · rw [← sall_blk h4 hs ha hb hl N n (by omega) (by omega)]
      unfold blk
      have : n * m + m ≤ N * m := by
        have := Nat.mul_le_mul_right m (show n + 1 ≤ N by omega)
        rwa [Nat.add_mul, Nat.one_mul] at this
      rw [List.drop_append_of_le_length (by omega), List.take_append_of_le_length (by rw [List.length_drop]; omega)]
theorem blks_ext {m P : Nat} {xs ys : List Int} (hx : xs.length = P * m) (hy : ys.length = P * m) (h : ∀ n, n < P → blk xs m n = blk ys m n) : xs = ys := by
  refine eq_of_getD (by omega) fun i hi => ?_
  by_cases hm : m = 0
  · subst hm; omega
  · have hd : i / m < P := by rw [Nat.div_lt_iff_lt_mul (by omega)]; omega
    have hr : i % m < m := Nat.mod_lt _ (by omega)
    have e := h (i / m) hd
    have e1 := blk_get (da := xs) (m := m) (n := i / m) hr
    have e2 := blk_get (da := ys) (m := m) (n := i / m) hr
    have ei : i / m * m + i % m = i := by rw [Nat.mul_comm]; exact Nat.div_add_mod i m
    rw [ei] at e1 e2
    rw [← e1, ← e2, e]
theorem sall_sall {sz da : List Int} {a b m : Nat} (h4 : sz.length ≤ 4) (hs : Sz sz) (ha : a < sz.length) (hb : b < sz.length) (hl : da.length = points sz * m) : sall b a (swp a b sz) (sall a b sz da m (points sz)) m (points sz) = da := by
  have hs' := swp_Sz hs ha hb
  have hsl := swp_length a b sz
  have hp := points_swp ha hb
  have hl' := sall_length (m := m) h4 hs ha hb hl (points sz) (Nat.le_refl _)
  have hl2 := sall_length (sz := swp a b sz) (da := sall a b sz da m (points sz)) (a := b) (b := a) (m := m) (by rw [hsl]; exact h4) hs' (by rw [hsl]; exact hb) (by rw [hsl]; exact ha) (by rw [hp]; exact hl') (points sz) (by rw [hp]; exact Nat.le_refl _)
  refine blks_ext (m := m) (P := points sz) hl2 hl fun n hn => ?_
  rw [sall_blk (sz := swp a b sz) (a := b) (b := a) (by rw [hsl]; exact h4) hs' (by rw [hsl]; exact hb) (by rw [hsl]; exact ha) (by rw [hp]; exact hl') (points sz) n hn (by rw [hp]; exact Nat.le_refl _)]
  obtain ⟨q1, q2⟩ := snum_snum h4 hs ha hb hn
  rw [sall_blk h4 hs ha hb hl (points sz) _ q1 (Nat.le_refl _), q2]

/-- Values in a range. -/
theorem sall_all {p : Int → Prop} {a b m : Nat} {sz da : List Int} (h : ∀ x ∈ da, p x) : ∀ n, ∀ x ∈ sall a b sz da m n, p x
  | 0, x, hx => by simp [sall] at hx
  | n + 1, x, hx => by
    simp only [sall, List.mem_append] at hx
    rcases hx with hx | hx
    · exact sall_all h n x hx
    · exact h x (List.mem_of_mem_drop (List.mem_of_mem_take hx))
theorem Right.mem {sz : List Int} {o : Int} {da : List Int} (h : Right sz o da) : ∀ x ∈ da, 0 ≤ x ∧ x ≤ 65535 := fun x hx => by
  obtain ⟨i, hi, rfl⟩ := List.mem_iff_getElem.1 hx
  have := h.2.2.2.2.2.2.2 i hi
  rwa [List.getD_eq_getElem?_getD, List.getElem?_eq_getElem hi] at this
theorem Right.mk {sz : List Int} {m : Nat} {da : List Int} (h1 : 1 ≤ sz.length) (h4 : sz.length ≤ 4) (o1 : 1 ≤ m) (o4 : m ≤ 4) (hs : Sz sz) (hl : da.length = points sz * m) (hd : da.length ≤ 4096) (hx : ∀ x ∈ da, 0 ≤ x ∧ x ≤ 65535) : Right sz m da := by
  have hp := points_le h4 hs
  have hb : points sz * m ≤ 6561 * 4 := Nat.mul_le_mul hp.2 o4
  refine ⟨h1, h4, by omega, by omega, hs, ?_, hd, fun k hk => ?_⟩
  · rw [prodW_points h4 hs, ← Int.natCast_mul, wrap64 (by omega) (by omega), hl]
  · exact hx _ (by rw [List.getD_eq_getElem?_getD, List.getElem?_eq_getElem hk]; exact List.getElem_mem hk)
theorem Right.swap {sz : List Int} {m : Nat} {da : List Int} (h : Right sz m da) {a b : Nat} (ha : a < sz.length) (hb : b < sz.length) : Right (swp a b sz) m (sall a b sz da m (points sz)) := by
  have hl := h.lenN
  have hm := h.mem
  obtain ⟨h1, h4, o1, o4, hs, _, hd, _⟩ := h
  have hl' := sall_length (m := m) h4 hs ha hb hl (points sz) (Nat.le_refl _)
  exact Right.mk (by rw [swp_length]; exact h1) (by rw [swp_length]; exact h4) (by omega) (by omega) (swp_Sz hs ha hb) (by rw [points_swp ha hb]; exact hl') (by omega) (sall_all hm _)

theorem fmin_ok (x y : Int) : fmin x y ≤ x ∧ fmin x y ≤ y ∧ (fmin x y = x ∨ fmin x y = y) := by
  show (if y < x then y else x) ≤ x ∧ (if y < x then y else x) ≤ y ∧ ((if y < x then y else x) = x ∨ (if y < x then y else x) = y)
  split <;> omega
theorem fmax_ok (x y : Int) : x ≤ fmax x y ∧ y ≤ fmax x y ∧ (fmax x y = x ∨ fmax x y = y) := by
  show x ≤ (if y > x then y else x) ∧ y ≤ (if y > x then y else x) ∧ ((if y > x then y else x) = x ∨ (if y > x then y else x) = y)
  split <;> omega
/-- What a least (greatest) value is. -/
theorem low_char {da : List Int} {m P : Nat} (hl : da.length = P * m) (hP : 1 ≤ P) {k : Nat} (hk : k < m) : ∀ n, n ≤ P →
    ((∀ j, j < n → (lowG fmin da m n).getD k 0 ≤ da.getD (j * m + k) 0) ∧ ∃ j, j < P ∧ (lowG fmin da m n).getD k 0 = da.getD (j * m + k) 0) ∧
    ((∀ j, j < n → da.getD (j * m + k) 0 ≤ (lowG fmax da m n).getD k 0) ∧ ∃ j, j < P ∧ (lowG fmax da m n).getD k 0 = da.getD (j * m + k) 0)
  | 0, _ => by
    have e : (da.take m).getD k 0 = da.getD (0 * m + k) 0 := by
      have := take_drop_getD da 0 m k hk
      simpa using this
    exact ⟨⟨fun j hj => by omega, 0, hP, e⟩, ⟨fun j hj => by omega, 0, hP, e⟩⟩
  | n + 1, hn => by
    have hmd : m ≤ da.length := by rw [hl]; have := Nat.mul_le_mul_right m hP; omega
    obtain ⟨⟨a1, a2⟩, ⟨b1, b2⟩⟩ := low_char hl hP hk n (by omega)
    have g1 := cmb_get fmin (lowG fmin da m n) (blk da m n) m (by rw [lowG_length _ hmd]; exact Nat.le_refl _) k
    have g2 := cmb_get fmax (lowG fmax da m n) (blk da m n) m (by rw [lowG_length _ hmd]; exact Nat.le_refl _) k
    rw [if_pos hk, blk_get hk] at g1 g2
    have q1 := fmin_ok ((lowG fmin da m n).getD k 0) (da.getD (n * m + k) 0)
    have q2 := fmax_ok ((lowG fmax da m n).getD k 0) (da.getD (n * m + k) 0)
    rw [← g1] at q1
    rw [← g2] at q2
    simp only [lowG]
    refine ⟨⟨fun j hj => ?_, ?_⟩, ⟨fun j hj => ?_, ?_⟩⟩
    · by_cases e : j = n
      · subst e; exact q1.2.1
      · exact Int.le_trans q1.1 (a1 j (by omega))
    · rcases q1.2.2 with e | e
      · obtain ⟨j, hj, e2⟩ := a2; exact ⟨j, hj, e.trans e2⟩
      · exact ⟨n, by omega, e⟩
    · by_cases e : j = n
      · subst e; exact q2.2.1
      · exact Int.le_trans (b1 j (by omega)) q2.1
    · rcases q2.2.2 with e | e
      · obtain ⟨j, hj, e2⟩ := b2; exact ⟨j, hj, e.trans e2⟩
      · exact ⟨n, by omega, e⟩
/-- Columns with the same values have the same ends. -/
theorem low_same {da da' : List Int} {m m' P : Nat} (hl : da.length = P * m) (hl' : da'.length = P * m') (hP : 1 ≤ P) {k k' : Nat} (hk : k < m) (hk' : k' < m') (f : Nat → Nat) (hf : ∀ n, n < P → f n < P ∧ da'.getD (n * m' + k') 0 = da.getD (f n * m + k) 0)
    (g : Nat → Nat) (hg : ∀ n, n < P → g n < P ∧ da.getD (n * m + k) 0 = da'.getD (g n * m' + k') 0) :
    (lowG fmin da' m' P).getD k' 0 = (lowG fmin da m P).getD k 0 ∧ (lowG fmax da' m' P).getD k' 0 = (lowG fmax da m P).getD k 0 := by
  obtain ⟨⟨a1, i, hi, a2⟩, ⟨b1, j, hj, b2⟩⟩ := low_char hl hP hk P (Nat.le_refl _)
  obtain ⟨⟨c1, p, hp, c2⟩, ⟨d1, q, hq, d2⟩⟩ := low_char hl' hP hk' P (Nat.le_refl _)
  have x1 := a1 (f p) (hf p hp).1
  have x2 := c1 (g i) (hg i hi).1
  have x3 := b1 (f q) (hf q hq).1
  have x4 := d1 (g j) (hg j hj).1
  rw [← (hf p hp).2] at x1
  rw [← (hg i hi).2] at x2
  rw [← (hf q hq).2] at x3
  rw [← (hg j hj).2] at x4
  omega
theorem swap_low {sz : List Int} {m : Nat} {da : List Int} (h : Right sz m da) {a b : Nat} (ha : a < sz.length) (hb : b < sz.length) :
    lowR (sall a b sz da m (points sz)) m (sall a b sz da m (points sz)).length = lowR da m da.length ∧ highR (sall a b sz da m (points sz)) m (sall a b sz da m (points sz)).length = highR da m da.length := by
  have hl := h.lenN
  obtain ⟨h1, h4, o1, o4, hs, _, hd, _⟩ := h
  have hp := points_le h4 hs
  have hl' := sall_length (m := m) h4 hs ha hb hl (points sz) (Nat.le_refl _)
  have hmd : m ≤ da.length := by rw [hl]; have := Nat.mul_le_mul_right m hp.1; omega
  obtain ⟨e1, e2⟩ := low_all hmd hl
  obtain ⟨e3, e4⟩ := low_all (da := sall a b sz da m (points sz)) (by omega) hl'
  rw [e1, e2, e3, e4]
  have key : ∀ k, k < m → (lowG fmin (sall a b sz da m (points sz)) m (points sz)).getD k 0 = (lowG fmin da m (points sz)).getD k 0 ∧ (lowG fmax (sall a b sz da m (points sz)) m (points sz)).getD k 0 = (lowG fmax da m (points sz)).getD k 0 := by
    intro k hk
    have hb' : ∀ n, n < points sz → (sall a b sz da m (points sz)).getD (n * m + k) 0 = da.getD (snum a b sz n * m + k) 0 := fun n hn => by
      rw [← blk_get hk, sall_blk h4 hs ha hb hl (points sz) n hn (Nat.le_refl _), blk_get hk]
    refine low_same hl hl' hp.1 hk hk (snum a b sz) (fun n hn => ⟨(snum_ok h4 hs ha hb hn).2, hb' n hn⟩) (snum b a (swp a b sz)) fun n hn => ?_
    obtain ⟨q1, q2⟩ := snum_snum h4 hs ha hb hn
    exact ⟨q1, by rw [hb' _ q1, q2]⟩
  constructor
  · refine eq_of_getD (by rw [lowG_length _ (by omega), lowG_length _ hmd]) fun k hk => ?_
    rw [lowG_length _ (by omega)] at hk
    exact (key k hk).1
  · refine eq_of_getD (by rw [lowG_length _ (by omega), lowG_length _ hmd]) fun k hk => ?_
    rw [lowG_length _ (by omega)] at hk
    exact (key k hk).2
end Go.Proofs.Ytndigibhmfegaaa.V

/-
  The statement GridSwaps, walked.
-/
set_option linter.unusedSimpArgs false
set_option linter.unusedVariables false
set_option maxHeartbeats 4000000
namespace Go.Proofs.Ytndigibhmfegaaa.V
open Go Go.Proofs Go.RowKit

theorem con31t (sz : List Int) (o : Int) (da : List Int) : Con Try.prog 31 [gr sz o da, gr sz o da] (.sc (.bool true)) [] := by
  have := con31 sz sz o o da da
  simpa using this
theorem tdiv_cast (a b : Nat) : Int.tdiv (a : Int) (b : Int) = ((a / b : Nat) : Int) := rfl
attribute [go_sem] tdiv_cast
theorem con8 (S : List Int) (o : Int) (V : List Int) (sm : Bool) (a b c : Nat) (hS : Bd 255 S) (ho : 0 ≤ o ∧ o ≤ 255) (hV : Bd 65535 V) (hA : a ≤ 255) (hB : b ≤ 255) (hC : c ≤ 65535) : Con Try.prog 8 [dr S o V sm, .sc (.int .u8 a), .sc (.int .u8 b), .sc (.int .u16 c)] (.sc (.bool true)) [] := by
  have c23 := con23 S o V sm hS ho hV
  have hR := draft_right (sm := sm) hS ho hV
  obtain ⟨sz, hsz⟩ : ∃ x, x = dsz S := ⟨_, rfl⟩
  obtain ⟨m, hm⟩ : ∃ x, x = dout o := ⟨_, rfl⟩
  obtain ⟨da, hda⟩ : ∃ x, x = ddat S o V sm := ⟨_, rfl⟩
  rw [← hsz, ← hm, ← hda] at c23 hR
  have hl := hR.lenN
  have hR' := hR
  obtain ⟨hz1, h4, o1, o4, hs, _, hd, _⟩ := hR'
  have hp := points_le h4 hs
  have hi : a % sz.length < sz.length := Nat.mod_lt _ (by omega)
  have hk : b % sz.length < sz.length := Nat.mod_lt _ (by omega)
  obtain ⟨i, ei⟩ : ∃ i, i = a % sz.length := ⟨_, rfl⟩
  obtain ⟨k, ek⟩ : ∃ k, k = b % sz.length := ⟨_, rfl⟩
  rw [← ei] at hi
  rw [← ek] at hk
  have hRs := hR.swap hi hk
  have c18 := con18 sz m da i k hR hi hk
  have c18' := con18 (swp i k sz) m (sall i k sz da m (points sz)) k i hRs (by rw [swp_length]; exact hk) (by rw [swp_length]; exact hi)
  rw [swp_swp hi hk, points_swp hi hk, sall_sall h4 hs hi hk hl] at c18'
  have c27 := con27 sz m da hR
  have c27' := con27 (swp i k sz) m (sall i k sz da m (points sz)) hRs
  obtain ⟨l1, l2⟩ := swap_low hR hi hk
  rw [l1, l2] at c27'
  have hmd : m ≤ da.length := by rw [hl]; have := Nat.mul_le_mul_right m hp.1; omega
  have l3 := lowR_length da m hmd da.length
  have l4 := highR_length da m hmd da.length
  -- the point
  have hdiv : da.length / m = points sz := by rw [hl]; exact Nat.mul_div_cancel _ (by omega)
  obtain ⟨n, en⟩ : ∃ n, n = c % (da.length / m) := ⟨_, rfl⟩
  have hn : n < points sz := by rw [en, hdiv]; exact Nat.mod_lt _ (by omega)
  have c24 := con24 sz n hz1 h4 hs (by omega) (by omega)
  obtain ⟨i1, i2⟩ := index_ok hR hn
  have ib := blk_ok hl hn
  have hol := i1.1
  have c15 := con15D sz m da _ hR i1 (n * m) i2 (by omega)
  rw [i1.1] at c15
  obtain ⟨v1, v2, v3⟩ := snum_pv h4 hs hi hk (by rw [i1.1]; exact Nat.le_refl _) i1.valid
  have hsl := swp_length i k sz
  have hpn : (pv sz (outD sz n sz.length) sz.length).toNat = n := by
    have := (outD_spec (n := n) hs (by omega) (by have := points_eq fun i hi => (hs i hi).1; omega)).2
    rw [this]; exact Int.toNat_natCast n
  rw [hpn] at v3
  have hix : Inx (swp i k sz) (swp i k (outD sz n sz.length)) := ⟨by rw [swp_length, swp_length, hol], fun j hj => by
    rw [hsl] at hj
    have := v1 j hj
    omega⟩
  have hpl : pl (swp i k sz) m (swp i k (outD sz n sz.length)) = (((pv (swp i k sz) (swp i k (outD sz n sz.length)) sz.length).toNat * m : Nat) : Int) := by
    have := (place_ok hRs (xs := swp i k (outD sz n sz.length)) (by rw [hsl]; exact v1)).1
    rw [hsl, Int.toNat_natCast] at this
    unfold pl
    rw [hsl]
    exact this
  have hls := sall_length (m := m) h4 hs hi hk hl (points sz) (Nat.le_refl _)
  have hbs := sall_blk (m := m) h4 hs hi hk hl (points sz) _ v2 (Nat.le_refl _)
  rw [v3] at hbs
  unfold blk at hbs
  have c15' := con15D (swp i k sz) m (sall i k sz da m (points sz)) (swp i k (outD sz n sz.length)) hRs hix _ hpl (by
    have := Nat.mul_le_mul_right m (show (pv (swp i k sz) (swp i k (outD sz n sz.length)) sz.length).toNat + 1 ≤ points sz by omega)
    rw [Nat.add_mul, Nat.one_mul] at this
    omega)
  rw [hbs, swp_length, hol] at c15'
  generalize swp i k sz = rsz at c18 c18' c27' c15'
  generalize sall i k sz da m (points sz) = rda at c18 c18' c27' c15'
  simp only [swp] at c15'
  have c12 := con12 (outD sz n sz.length) (by omega) (by omega)
  rw [hol] at c12
  have hm0 : m ≠ 0 := by omega
  have hbl : ((da.drop (n * m)).take m).length = m := by rw [List.length_take, List.length_drop]; omega
  have w17b := w17 ((da.drop (n * m)).take m)
  rw [hbl] at w17b
  have w17l := w17 (lowR da m da.length)
  have w17h := w17 (highR da m da.length)
  rw [l3] at w17l
  rw [l4] at w17h
  have hdp : da.length / m ≠ 0 := by omega
  have hdb : 0 ≤ ((da.length / m : Nat) : Int) ∧ ((da.length / m : Nat) : Int) ≤ 4096 := ⟨Int.natCast_nonneg _, by have := Nat.div_le_self da.length m; exact Int.ofNat_le.2 (Nat.le_trans this hd)⟩
  clear v1 v2 v3 hix hpl hls hbs hpn l1 l2 hdiv hsl hRs
  subst ei ek en
  refine Con.of_body [(0, dr S o V sm), (1, .sc (.int .u8 a)), (2, .sc (.int .u8 b)), (3, .sc (.int .u16 c))] Try.func8 rfl ca8 153 rfl (by simp) rfl ?_; refine T_of_R ?_
  refine go ?_
  refine call (con10) ?_
  refine go ?_
  refine cnd (fun h => ?_) (fun h => ?_)
  · cases h
  · refine go ?_
    refine callf (c23) ?_
    refine go ?_
    refine callf (c18) ?_
    refine go ?_
    refine callf (c18') ?_
    refine go ?_
    refine callf (c27) ?_
    refine go ?_
    refine callf (c27') ?_
    refine gon ?_
    refine call (con31t _ _ _) ?_
    refine gon ?_
    refine callf (w17l) ?_
    refine gon ?_
    refine callf (w17h) ?_
    refine gon ?_
    refine cnd (fun h => ?_) (fun h => ?_)
    · cases h
    · refine R_less (ids := [1, 2]) (st' := ⟨tl [(3, .sc (.int .u16 c)), (9, .pt 0 0), (10, .sc (.int .i64 (a % sz.length : Nat))), (11, .sc (.int .i64 (b % sz.length : Nat))), (12, .pt 1 0)],
        ol [(0, ⟨[.sl sz.length (ints .i64 sz), .sc (.int .i64 m), .sl da.length (ints .i64 da)], 24, 0, false⟩), (1, ⟨[.sl rsz.length (ints .i64 rsz), .sc (.int .i64 m), .sl rda.length (ints .i64 rda)], 24, 0, false⟩)], 2, [], 153⟩) (Less.mk' (by simp (disch := (first | omega | (simp only [go_sem, ↓reduceIte, Nat.reduceEqDiff, Nat.reduceAdd, Nat.reduceMul, Nat.reduceSub, Nat.reduceLT, Nat.reduceLeDiff, Nat.reduceBNe, Nat.reduceBEq, Int.reduceToNat, Int.reduceAdd, Int.reduceSub, Int.reduceMul, Int.reduceLT, Int.reduceLE, Int.reduceNeg, Int.reduceBEq, Int.reduceBNe, Int.reduceEq, beq_self_eq_true, reduceCtorEq, decide_true, decide_false, if_pos, if_neg]; first | done | omega))) only [go_sem, ↓reduceIte, Nat.reduceEqDiff, Nat.reduceAdd, Nat.reduceMul, Nat.reduceSub, Nat.reduceLT, Nat.reduceLeDiff, Nat.reduceBNe, Nat.reduceBEq, Int.reduceToNat, Int.reduceAdd, Int.reduceSub, Int.reduceMul, Int.reduceLT, Int.reduceLE, Int.reduceNeg, Int.reduceBEq, Int.reduceBNe, Int.reduceEq, beq_self_eq_true, reduceCtorEq, decide_true, decide_false, if_pos, if_neg]) (by simp (disch := (first | omega | (simp only [go_sem, ↓reduceIte, Nat.reduceEqDiff, Nat.reduceAdd, Nat.reduceMul, Nat.reduceSub, Nat.reduceLT, Nat.reduceLeDiff, Nat.reduceBNe, Nat.reduceBEq, Int.reduceToNat, Int.reduceAdd, Int.reduceSub, Int.reduceMul, Int.reduceLT, Int.reduceLE, Int.reduceNeg, Int.reduceBEq, Int.reduceBNe, Int.reduceEq, beq_self_eq_true, reduceCtorEq, decide_true, decide_false, if_pos, if_neg]; first | done | omega))) only [go_sem, ↓reduceIte, Nat.reduceEqDiff, Nat.reduceAdd, Nat.reduceMul, Nat.reduceSub, Nat.reduceLT, Nat.reduceLeDiff, Nat.reduceBNe, Nat.reduceBEq, Int.reduceToNat, Int.reduceAdd, Int.reduceSub, Int.reduceMul, Int.reduceLT, Int.reduceLE, Int.reduceNeg, Int.reduceBEq, Int.reduceBNe, Int.reduceEq, beq_self_eq_true, reduceCtorEq, decide_true, decide_false, if_pos, if_neg]) (by decide) (by decide)) ?_ (by simp)
      refine go ?_
      refine callo (c24) ?_
      refine go ?_
      refine callo (c12) ?_
      refine go ?_
      refine callz (c15) (by simp (disch := (first | omega | (simp only [go_sem, ↓reduceIte, Nat.reduceEqDiff, Nat.reduceAdd, Nat.reduceMul, Nat.reduceSub, Nat.reduceLT, Nat.reduceLeDiff, Nat.reduceBNe, Nat.reduceBEq, Int.reduceToNat, Int.reduceAdd, Int.reduceSub, Int.reduceMul, Int.reduceLT, Int.reduceLE, Int.reduceNeg, Int.reduceBEq, Int.reduceBNe, Int.reduceEq, beq_self_eq_true, reduceCtorEq, decide_true, decide_false, if_pos, if_neg]; first | done | omega))) only [go_sem, ↓reduceIte, Nat.reduceEqDiff, Nat.reduceAdd, Nat.reduceMul, Nat.reduceSub, Nat.reduceLT, Nat.reduceLeDiff, Nat.reduceBNe, Nat.reduceBEq, Int.reduceToNat, Int.reduceAdd, Int.reduceSub, Int.reduceMul, Int.reduceLT, Int.reduceLE, Int.reduceNeg, Int.reduceBEq, Int.reduceBNe, Int.reduceEq, beq_self_eq_true, reduceCtorEq, decide_true, decide_false, if_pos, if_neg, closed, closedL, hbl, hm0]) ?_
      refine go ?_
      refine callz (c15') (by simp (disch := (first | omega | (simp only [go_sem, ↓reduceIte, Nat.reduceEqDiff, Nat.reduceAdd, Nat.reduceMul, Nat.reduceSub, Nat.reduceLT, Nat.reduceLeDiff, Nat.reduceBNe, Nat.reduceBEq, Int.reduceToNat, Int.reduceAdd, Int.reduceSub, Int.reduceMul, Int.reduceLT, Int.reduceLE, Int.reduceNeg, Int.reduceBEq, Int.reduceBNe, Int.reduceEq, beq_self_eq_true, reduceCtorEq, decide_true, decide_false, if_pos, if_neg]; first | done | omega))) only [go_sem, ↓reduceIte, Nat.reduceEqDiff, Nat.reduceAdd, Nat.reduceMul, Nat.reduceSub, Nat.reduceLT, Nat.reduceLeDiff, Nat.reduceBNe, Nat.reduceBEq, Int.reduceToNat, Int.reduceAdd, Int.reduceSub, Int.reduceMul, Int.reduceLT, Int.reduceLE, Int.reduceNeg, Int.reduceBEq, Int.reduceBNe, Int.reduceEq, beq_self_eq_true, reduceCtorEq, decide_true, decide_false, if_pos, if_neg, closed, closedL, hbl, hm0]) ?_
      refine gon ?_
      refine call (w17b) ?_
      refine gon ?_
      refine R_ret (fin_of (ids := []) (by simp (disch := (first | omega | (simp only [go_sem, ↓reduceIte, Nat.reduceEqDiff, Nat.reduceAdd, Nat.reduceMul, Nat.reduceSub, Nat.reduceLT, Nat.reduceLeDiff, Nat.reduceBNe, Nat.reduceBEq, Int.reduceToNat, Int.reduceAdd, Int.reduceSub, Int.reduceMul, Int.reduceLT, Int.reduceLE, Int.reduceNeg, Int.reduceBEq, Int.reduceBNe, Int.reduceEq, beq_self_eq_true, reduceCtorEq, decide_true, decide_false, if_pos, if_neg]; first | done | omega))) only [go_sem, ↓reduceIte, Nat.reduceEqDiff, Nat.reduceAdd, Nat.reduceMul, Nat.reduceSub, Nat.reduceLT, Nat.reduceLeDiff, Nat.reduceBNe, Nat.reduceBEq, Int.reduceToNat, Int.reduceAdd, Int.reduceSub, Int.reduceMul, Int.reduceLT, Int.reduceLE, Int.reduceNeg, Int.reduceBEq, Int.reduceBNe, Int.reduceEq, beq_self_eq_true, reduceCtorEq, decide_true, decide_false, if_pos, if_neg] <;> rfl) (by simp (disch := (first | omega | (simp only [go_sem, ↓reduceIte, Nat.reduceEqDiff, Nat.reduceAdd, Nat.reduceMul, Nat.reduceSub, Nat.reduceLT, Nat.reduceLeDiff, Nat.reduceBNe, Nat.reduceBEq, Int.reduceToNat, Int.reduceAdd, Int.reduceSub, Int.reduceMul, Int.reduceLT, Int.reduceLE, Int.reduceNeg, Int.reduceBEq, Int.reduceBNe, Int.reduceEq, beq_self_eq_true, reduceCtorEq, decide_true, decide_false, if_pos, if_neg]; first | done | omega))) only [go_sem, ↓reduceIte, Nat.reduceEqDiff, Nat.reduceAdd, Nat.reduceMul, Nat.reduceSub, Nat.reduceLT, Nat.reduceLeDiff, Nat.reduceBNe, Nat.reduceBEq, Int.reduceToNat, Int.reduceAdd, Int.reduceSub, Int.reduceMul, Int.reduceLT, Int.reduceLE, Int.reduceNeg, Int.reduceBEq, Int.reduceBNe, Int.reduceEq, beq_self_eq_true, reduceCtorEq, decide_true, decide_false, if_pos, if_neg]) (by decide) (by simp (disch := (first | omega | (simp only [go_sem, ↓reduceIte, Nat.reduceEqDiff, Nat.reduceAdd, Nat.reduceMul, Nat.reduceSub, Nat.reduceLT, Nat.reduceLeDiff, Nat.reduceBNe, Nat.reduceBEq, Int.reduceToNat, Int.reduceAdd, Int.reduceSub, Int.reduceMul, Int.reduceLT, Int.reduceLE, Int.reduceNeg, Int.reduceBEq, Int.reduceBNe, Int.reduceEq, beq_self_eq_true, reduceCtorEq, decide_true, decide_false, if_pos, if_neg]; first | done | omega))) only [go_sem, ↓reduceIte, Nat.reduceEqDiff, Nat.reduceAdd, Nat.reduceMul, Nat.reduceSub, Nat.reduceLT, Nat.reduceLeDiff, Nat.reduceBNe, Nat.reduceBEq, Int.reduceToNat, Int.reduceAdd, Int.reduceSub, Int.reduceMul, Int.reduceLT, Int.reduceLE, Int.reduceNeg, Int.reduceBEq, Int.reduceBNe, Int.reduceEq, beq_self_eq_true, reduceCtorEq, decide_true, decide_false, if_pos, if_neg]))
end Go.Proofs.Ytndigibhmfegaaa.V

/-
  GridSwaps: for every input the law returns true, and the input reads as it did.
-/
set_option maxRecDepth 100000
set_option maxHeartbeats 4000000
namespace Go.Proofs.Ytndigibhmfegaaa
open Go.ChangeShapes Go.WideShapes Go.ChangeAt Go.RowKit

theorem swaps_con : ∀ us : List V.D, us.length = Try.f8.params.size → (∀ (j : Nat) t a, Try.f8.params[j]? = some t → us[j]? = some a → V.ShapeV Try.prog 5 t a) → V.Con Try.prog 8 us (.sc (.bool true)) [] := by
  intro us hl h
  rw [Try.params8] at hl h
  obtain ⟨v0, v1, v2, v3, rfl⟩ := V.len4 hl
  obtain ⟨S0, q0, W0, sm0, rfl, sa0, sb0, sc0⟩ := V.sh_dr (h 0 28 v0 rfl rfl)
  obtain ⟨n1, rfl, nb1⟩ := V.sh_u8 (h 1 5 v1 rfl rfl)
  obtain ⟨n2, rfl, nb2⟩ := V.sh_u8 (h 2 5 v2 rfl rfl)
  obtain ⟨n3, rfl, nb3⟩ := V.sh_u16 (h 3 62 v3 rfl rfl)
  exact V.con8 S0 q0 W0 sm0 n1 n2 n3 sa0 sb0 sc0 nb1 nb2 nb3

theorem swaps_lifted (os : Os) (started : os.Started) (H : Type) (enc : TypeId × Value → H) :
    ReturnsInHanded {} Try.checked os 8 .any (Rows.gridSwapsSpec.pre6 enc Try.prog Try.f8 Rows.gridSwapsRow.domain false) (Rows.gridSwapsSpec.post enc Try.prog Try.f8 false true false false) := by
  refine returnsInHanded_of_change (C := Try.checked) own started (by kernel_rfl) Try.func8
    (ChangeSpec.witness6 (enc := enc) (C := Try.checked) false ⟨#[], #[.agg #[.slice none 0 0, .int .u8 0, .slice none 0 0, .bool false], .int .u8 0, .int .u8 0, .int .u16 0], []⟩ 8 (by kernel_rfl) (by kernel_rfl) (by kernel_rfl) (by kernel_rfl)) ?_
  intro W base args ds gs before hval hW _ _
  exact V.law_post (n := 5) kids full (by kernel_rfl) rfl Try.underlying4 rfl (fun ds hd => by obtain ⟨v0, v1, v2, v3, rfl⟩ := V.len4 hd; rfl) swaps_con W base args ds gs before hval hW

theorem swaps_over : Rows.gridSwapsRow.holds Try.pinned (OpenSpec.ofChange Rows.gridSwapsSpec) :=
  OpenClaim.holds_of_wide 8 Try.f8 rfl rfl rfl rfl rfl rfl rfl ⟨rfl, rfl, rfl, rfl, rfl⟩ rfl rfl rfl rfl rfl (by kernel_rfl) Try.func8 (by kernel_rfl)
    (of_decide_eq_true (by kernel_rfl)) (by unfold Func.isWrapper; first | (rw [if_pos (by decide +kernel)]; kernel_rfl) | (rw [if_neg (by decide +kernel)]; exact ⟨rfl, rfl⟩))
    (fun os started H enc _ => swaps_lifted os started H enc)
theorem gridSwaps_holds : Rows.GridSwapsSaid := swaps_over
end Go.Proofs.Ytndigibhmfegaaa

