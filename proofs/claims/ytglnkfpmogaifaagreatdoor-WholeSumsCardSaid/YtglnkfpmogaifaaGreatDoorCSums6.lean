/-
  Facts of this seat's rows.
-/
import Derived.Test.YtglnkfpmogaifaaGreatDoorKB5
import Derived.LaidMore
import Derived.SevenTiedAt
import Derived.Stop.Joined
import Derived.Stop.LaidErr
import Derived.Test.YtglnkfpmogaifaaGreatDoorCards
import Derived.Test.YtglnkfpmogaifaaGreatDoorRows
import Derived.Test.YtglnkfpmogaifaaGreatDoorTie
set_option linter.unusedSimpArgs false
set_option linter.unusedVariables false
namespace Go.Proofs.YtglnkfpmogaifaaGreatDoor
open Go.ChangeShapes

theorem own : ownKnob Tryz.prog.godebug = none := by kernel_rfl
theorem kids : Kids Tryz.prog (· < Tryz.prog.types.size) := kids_rows (by kernel_rfl) (by kernel_rfl)
theorem full : ∀ t e, t < Tryz.prog.types.size → Tryz.prog.underlying t = some (.slice e) → 0 < Tryz.prog.cellsOf e := slices_full_of Tryz.prog (by kernel_rfl)
end Go.Proofs.YtglnkfpmogaifaaGreatDoor

/-
  What the rows' listed variables hold gives what the walks ask.
-/
set_option maxRecDepth 100000
namespace Go.Proofs.YtglnkfpmogaifaaGreatDoor
open Go.ChangeShapes Go.WideShapes Go.ChangeAt Go.RowKit

abbrev laidL : List (String × DataW Unit) := [("math/bits.deBruijn32tab", Rows.laid_math_bits_deBruijn32tab), ("math/bits.deBruijn64tab", Rows.laid_math_bits_deBruijn64tab), ("internal/strconv.uint64pow10", Rows.laid_internal_strconv_uint64pow10), ("strconv.ErrRange", Rows.laid_strconv_ErrRange), ("strconv.ErrSyntax", Rows.laid_strconv_ErrSyntax)]
theorem star : "*" ++ "errors.errorString" = "*errors.errorString" := by decide
theorem rowStar (u : TypeId) (h : Tryz.prog.typeName? 3 u = some "*errors.errorString") : u = 164 :=
  typeName_ptr_named (nm := "errors.errorString") (by rw [star]; kernel_rfl) (by kernel_rfl) (by decide) u (by rw [star]; exact h)
theorem pow10_data {H : Type} : (Rows.laid_internal_strconv_uint64pow10 : DataW H) = Lib.tabData .u64 Lib.pow10Tab := rfl
theorem gl_of {W : World} (h : laidMetH Tryz.prog laidL W) : V.Gl W := by
  rw [MakeChecks.laidMetH_plain _ _ _ (by kernel_rfl)] at h
  have h3 : laidMet Tryz.prog (("internal/strconv.uint64pow10", Lib.tabData .u64 Lib.pow10Tab) :: [("strconv.ErrRange", Rows.laid_strconv_ErrRange), ("strconv.ErrSyntax", Rows.laid_strconv_ErrSyntax)]) W := by
    rw [← pow10_data]
    exact laidMet.tail (laidMet.tail h)
  refine ⟨Lib.tabIs_of_head (g := 4) (t := 160) (e := 98) (n := 20) (by kernel_rfl) (by kernel_rfl) Tryz.underlying160 Tryz.underlying98 (by kernel_rfl) (by kernel_rfl) h3, ?_⟩
  have h4 := laidMet.tail h3
  obtain ⟨a, s, hv, _⟩ := laid_sentinel (g := 3) (ti := 89) (tp := 164) (te := 166) (ts := 9) h4 (by kernel_rfl) (by kernel_rfl) Tryz.underlying89 rowStar Tryz.underlying164 Tryz.underlying166 rfl rfl Tryz.underlying9 (by kernel_rfl) (by kernel_rfl)
  exact ⟨_, _, hv⟩
end Go.Proofs.YtglnkfpmogaifaaGreatDoor

/-
  The operations of whole numbers on canonical texts, as operations of integers.
-/
set_option linter.unusedSimpArgs false
set_option linter.unusedVariables false
set_option maxHeartbeats 4000000
namespace Go.Proofs.YtglnkfpmogaifaaGreatDoor.V
open Go Go.Proofs Go.RowKit Go.Lib

/-- At most 600 digits. -/
def lim (z : Int) : Prop := (decDigits z.natAbs).length ≤ 600
/-- Less than k digits and one. -/
def bd (k : Nat) (z : Int) : Prop := z.natAbs < 10 ^ k
theorem bd_mono {j k : Nat} {z : Int} (h : bd j z) (hk : j ≤ k) : bd k z := Nat.lt_of_lt_of_le h (Nat.pow_le_pow_right (by decide) hk)
theorem lim_of {z : Int} {k : Nat} (h : z.natAbs < 10 ^ (k + 1)) (hk : k + 1 ≤ 600) : lim z := Nat.le_trans (decDigits_le.2 h) hk
theorem bd_lim {k : Nat} {z : Int} (h : bd k z) (hk : k ≤ 600) : lim z := by
  cases k with
  | zero => exact lim_of (k := 0) (bd_mono h (Nat.le_succ 0)) (by decide)
  | succ k => exact lim_of h hk
theorem bd_mul {j k : Nat} {x y : Int} (hx : bd j x) (hy : bd k y) : bd (j + k) (x * y) := by
  unfold bd at *
  rw [Int.natAbs_mul, Nat.pow_add]
  exact Nat.mul_lt_mul'' hx hy
theorem bd_add {k : Nat} {x y : Int} (hx : bd k x) (hy : bd k y) : bd (k + 1) (x + y) := by
  unfold bd at *
  have h1 := Int.natAbs_add_le x y
  have h2 : 10 ^ (k + 1) = 10 ^ k * 10 := Nat.pow_succ ..
  omega
theorem bd_neg {k : Nat} {x : Int} (hx : bd k x) : bd k (-x) := by unfold bd at *; rwa [Int.natAbs_neg]
theorem bd_sub {k : Nat} {x y : Int} (hx : bd k x) (hy : bd k y) : bd (k + 1) (x - y) := by
  rw [Int.sub_eq_add_neg]; exact bd_add hx (bd_neg hy)
theorem bd_le {k : Nat} {x y : Int} (hy : bd k y) (h : x.natAbs ≤ y.natAbs) : bd k x := Nat.lt_of_le_of_lt h hy
theorem bd_ediv {k : Nat} {x y : Int} (hx : bd k x) : bd (k + 1) (x / y) := bd_mono (j := k) (Nat.lt_of_le_of_lt (Int.natAbs_ediv_le_natAbs x y) hx) (Nat.le_succ k)
theorem bd_emod {k : Nat} {x y : Int} (hy : bd k y) (h0 : y ≠ 0) : bd k (x % y) := by
  refine bd_le hy ?_
  have h1 := Int.emod_nonneg x h0
  have h2 := Int.emod_lt x h0
  omega
theorem bd_pow {k n : Nat} {x : Int} (hx : bd k x) : 1 ≤ n → bd (k * n) (x ^ n) := by
  intro hn
  unfold bd at *
  rw [Int.natAbs_pow, Nat.pow_mul]
  exact Nat.pow_lt_pow_left hx (by omega)
theorem bd_int {z : Int} (h : inI z) : bd 19 z := by
  obtain ⟨h1, h2⟩ := h
  unfold bd
  omega
theorem opI {op : Int → Int → Int} {x y z : Int} (hx : lim x) (hy : lim y) (e : op x y = z) (hz : lim z) : opT op (itoa x) (itoa y) = itoa z ∧ opE op (itoa x) (itoa y) = 0 := by
  obtain ⟨x1, x2⟩ := itoa_ok x hx
  obtain ⟨y1, y2⟩ := itoa_ok y hy
  have h : ok2 (itoa x) (itoa y) = true := by unfold ok2; rw [x1, y1]; rfl
  obtain ⟨t1, t2⟩ := toldT_small hz
  unfold opT opE
  rw [if_pos h, if_pos h, x2, y2, e]
  exact ⟨t1, t2⟩
theorem iAdd {x y z : Int} (hx : lim x) (hy : lim y) (e : x + y = z) (hz : lim z) : Con Tryz.prog 10 [tx (itoa x), tx (itoa y)] (.tp [tx (itoa z), .sc (.int .i64 0)]) [] := by
  have c := cAdd (itoa x) (itoa y)
  obtain ⟨h1, h2⟩ := opI (op := (· + ·)) hx hy e hz
  rwa [h1, h2] at c
theorem iSub {x y z : Int} (hx : lim x) (hy : lim y) (e : x - y = z) (hz : lim z) : Con Tryz.prog 11 [tx (itoa x), tx (itoa y)] (.tp [tx (itoa z), .sc (.int .i64 0)]) [] := by
  have c := cSub (itoa x) (itoa y)
  obtain ⟨h1, h2⟩ := opI (op := (· - ·)) hx hy e hz
  rwa [h1, h2] at c
theorem iMul {x y z : Int} (hx : lim x) (hy : lim y) (e : x * y = z) (hz : lim z) : Con Tryz.prog 12 [tx (itoa x), tx (itoa y)] (.tp [tx (itoa z), .sc (.int .i64 0)]) [] := by
  have c := cMul (itoa x) (itoa y)
  obtain ⟨h1, h2⟩ := opI (op := (· * ·)) hx hy e hz
  rwa [h1, h2] at c
theorem iGcd {x y z : Int} (hx : lim x) (hy : lim y) (e : gcdZ x y = z) (hz : lim z) : Con Tryz.prog 17 [tx (itoa x), tx (itoa y)] (.tp [tx (itoa z), .sc (.int .i64 0)]) [] := by
  have c := cGcd (itoa x) (itoa y)
  obtain ⟨h1, h2⟩ := opI (op := gcdZ) hx hy e hz
  rwa [h1, h2] at c
theorem iDiv {x y q r : Int} (hx : lim x) (hy : lim y) (h0 : y ≠ 0) (eq : x / y = q) (er : x % y = r) (hq : lim q) (hr : lim r) : Con Tryz.prog 13 [tx (itoa x), tx (itoa y)] (.tp [tx (itoa q), tx (itoa r), .sc (.int .i64 0)]) [] := by
  have c := cDiv (itoa x) (itoa y)
  obtain ⟨x1, x2⟩ := itoa_ok x hx
  obtain ⟨y1, y2⟩ := itoa_ok y hy
  have h : ok2 (itoa x) (itoa y) = true := by unfold ok2; rw [x1, y1]; rfl
  obtain ⟨t1, t2⟩ := toldT_small hq
  obtain ⟨t3, t4⟩ := toldT_small hr
  have e1 : divQ (itoa x) (itoa y) = itoa q := by
    unfold divQ
    rw [x2, y2, eq, if_pos ⟨h, h0, t2⟩, t1]
  have e2 : divR (itoa x) (itoa y) = itoa r := by
    unfold divR
    rw [x2, y2, eq, er, if_pos ⟨h, h0, t2⟩, t3]
  have e3 : divE (itoa x) (itoa y) = 0 := by
    unfold divE
    rw [x2, y2, eq, if_pos h, if_neg h0, t2]
  rwa [e1, e2, e3] at c
theorem iCmp {x y s : Int} (hx : lim x) (hy : lim y) (e : (x - y).sign = s) : Con Tryz.prog 16 [tx (itoa x), tx (itoa y)] (.tp [.sc (.int .i64 s), .sc (.int .i64 0)]) [] := by
  have c := cCmpW (itoa x) (itoa y)
  obtain ⟨x1, x2⟩ := itoa_ok x hx
  obtain ⟨y1, y2⟩ := itoa_ok y hy
  have h : ok2 (itoa x) (itoa y) = true := by unfold ok2; rw [x1, y1]; rfl
  rwa [show cmpV (itoa x) (itoa y) = s by unfold cmpV; rw [if_pos h, x2, y2, e], show err2 (itoa x) (itoa y) = 0 from if_pos h] at c
theorem iSign {x s : Int} (hx : lim x) (e : x.sign = s) : Con Tryz.prog 15 [tx (itoa x)] (.tp [.sc (.int .i64 s), .sc (.int .i64 0)]) [] := by
  have c := cSign (itoa x)
  obtain ⟨x1, x2⟩ := itoa_ok x hx
  rwa [show sgnV (itoa x) = s by unfold sgnV; rw [if_pos x1, x2, e], errW_t x1] at c
theorem iInt {z : Int} (h : inI z) : Con Tryz.prog 24 [tx (itoa z)] (.tp [.sc (.int .i64 z), .sc (.int .i64 0)]) [] := by
  have c := cInt (itoa z)
  obtain ⟨x1, x2⟩ := itoa_ok z (bd_lim (bd_int h) (by decide))
  rwa [show intV (itoa z) = z by unfold intV; rw [if_pos ⟨x1, by rw [x2]; exact h⟩, x2], show intE (itoa z) = 0 by unfold intE; rw [if_pos x1, if_pos (by rw [x2]; exact h)]] at c
theorem iPow {x z n : Int} (hx : lim x) (h0 : 0 ≤ n) (h1 : n ≤ 40) (e : x ^ n.toNat = z) (hz : lim z) : Con Tryz.prog 20 [tx (itoa x), .sc (.int .i64 n)] (.tp [tx (itoa z), .sc (.int .i64 0)]) [] := by
  have c := cPow (itoa x) (n := n) (by omega) (by omega)
  obtain ⟨x1, x2⟩ := itoa_ok x hx
  obtain ⟨t1, t2⟩ := toldT_small hz
  rwa [show powT (itoa x) n = itoa z by unfold powT; rw [if_pos ⟨x1, h0, h1⟩, x2, e, t1], show powE (itoa x) n = 0 by unfold powE; rw [if_pos x1, if_pos ⟨h0, h1⟩, x2, e, t2]] at c
theorem iRoot {x k : Int} {r : Nat} (hx : lim x) (h0 : 0 ≤ x) (k1 : 1 ≤ k) (k2 : k ≤ 12) (r1 : r ^ k.toNat ≤ x.natAbs) (r2 : x.natAbs < (r + 1) ^ k.toNat) (hr : lim (r : Int)) : Con Tryz.prog 19 [tx (itoa x), .sc (.int .i64 k)] (.tp [tx (itoa (r : Int)), .sc (.int .i64 0)]) [] := by
  have c := cRootW (itoa x) (k := k) (by omega) (by omega)
  obtain ⟨x1, x2⟩ := itoa_ok x hx
  obtain ⟨t1, t2⟩ := toldT_small hr
  have hok : rtOk (itoa x) k := ⟨k1, k2, by rw [x2]; exact h0⟩
  have hn : rtN (itoa x) k = (r : Int) := by
    unfold rtN
    rw [x2, rootN_eq (by omega) r1 r2]
  rwa [show rtT (itoa x) k = itoa (r : Int) by unfold rtT; rw [if_pos ⟨x1, hok⟩, hn, t1], show rtE (itoa x) k = 0 by unfold rtE; rw [if_pos x1, if_pos hok, hn, t2]] at c
theorem itoa_eq {x y : Int} (hx : lim x) (hy : lim y) : decide (itoa x = itoa y) = decide (x = y) := decide_eq_decide.2 ⟨fun h => itoa_inj h hx hy, fun h => by rw [h]⟩
theorem itoa_zero {x : Int} (hx : lim x) : decide (itoa x = [48]) = decide (x = 0) := by
  rw [← itoa0]; exact itoa_eq hx (bd_lim (k := 1) (by unfold bd; decide) (by decide))
theorem itoa_one {x : Int} (hx : lim x) : decide (itoa x = [49]) = decide (x = 1) := by
  rw [show ([49] : List UInt8) = itoa 1 by rw [itoa, if_neg (by decide), decDigits, dif_pos (by decide)]; rfl]; exact itoa_eq hx (bd_lim (k := 1) (by unfold bd; decide) (by decide))
theorem strip_itoa (z : Int) : strip (itoa z) = itoa (z.natAbs : Int) := by
  obtain ⟨d1, _⟩ := decDigits_spec z.natAbs
  have e2 : itoa (z.natAbs : Int) = decDigits z.natAbs := by unfold itoa; rw [if_neg (by omega), Int.toNat_natCast]
  by_cases hz : z < 0
  · have e : itoa z = 45 :: decDigits z.natAbs := by unfold itoa; rw [if_pos hz]
    have hn : neg1 (itoa z) = true := by rw [e]; rfl
    unfold strip
    rw [hn, e, e2]
    rfl
  · have e : itoa z = decDigits z.natAbs := by unfold itoa; rw [if_neg hz, show z.toNat = z.natAbs by omega]
    have hn : neg1 (itoa z) = false := by rw [e]; exact head_ne d1
    unfold strip
    rw [hn, e, e2]
    rfl
end Go.Proofs.YtglnkfpmogaifaaGreatDoor.V

/-
  package whole's own functions: Neg, Abs.
-/
set_option linter.unusedSimpArgs false
set_option linter.unusedVariables false
set_option maxHeartbeats 4000000
namespace Go.Proofs.YtglnkfpmogaifaaGreatDoor.V
open Go Go.Proofs Go.RowKit Go.Lib

theorem cNeg (l : List UInt8) : Con Tryz.prog 21 [tx l] (.tp [tx (tolT l (-numT l)), .sc (.int .i64 (tolE l (-numT l)))]) [] := by
  refine Con.of_body [(0, tx l)] Tryz.func21 rfl ca21 16 rfl (by simp) rfl ?_; refine T_of_R ?_
  refine go ?_
  refine call (cCheck' l) ?_
  refine go ?_
  by_cases h : okT l = true
  · have h34 := lnum h
    rw [h, show tolT l (-numT l) = toldT (-numT l) from if_pos h, show tolE l (-numT l) = toldE (-numT l) from if_pos h]
    refine cnd (b := false) (fun h => by cases h) (fun _ => ?_)
    refine go ?_
    refine callz (cRead h) ?_
    refine go ?_
    refine callz (cTurned (numT l)) ?_
    refine go ?_
    refine callz (cTold (z := -numT l) (by rw [Int.natAbs_neg]; omega)) ?_
    refine go ?_
    refine R_ret (finA [])
  · rw [show okT l = false by simpa using h, show tolT l (-numT l) = [] from if_neg h, show tolE l (-numT l) = 10 from if_neg h, errW_f (by simpa using h)]
    refine cnd (b := true) (fun _ => ?_) (fun h => by cases h)
    refine go ?_
    refine R_ret (finA [])
theorem cAbs (l : List UInt8) : Con Tryz.prog 14 [tx l] (.tp [tx (if okT l then strip l else []), .sc (.int .i64 (errW l))]) [] := by
  refine Con.of_body [(0, tx l)] Tryz.func14 rfl ca14 12 rfl (by simp) rfl ?_; refine T_of_R ?_
  refine go ?_
  refine call (cCheck' l) ?_
  refine go ?_
  by_cases h : okT l = true
  · rw [h, errW_t h]
    refine cnd (b := false) (fun h => by cases h) (fun _ => ?_)
    refine go ?_
    refine call (lTrim l) ?_
    refine go ?_
    refine R_ret (finA [])
  · rw [show okT l = false by simpa using h, errW_f (by simpa using h)]
    refine cnd (b := true) (fun _ => ?_) (fun h => by cases h)
    refine go ?_
    refine R_ret (finA [])
end Go.Proofs.YtglnkfpmogaifaaGreatDoor.V

/-
  Neg and Abs on canonical texts; drafted numbers of at most 186 digits.
-/
set_option linter.unusedSimpArgs false
set_option linter.unusedVariables false
set_option maxHeartbeats 4000000
namespace Go.Proofs.YtglnkfpmogaifaaGreatDoor.V
open Go Go.Proofs Go.RowKit Go.Lib

theorem iAbs {x z : Int} (hx : lim x) (e : (x.natAbs : Int) = z) : Con Tryz.prog 14 [tx (itoa x)] (.tp [tx (itoa z), .sc (.int .i64 0)]) [] := by
  have c := cAbs (itoa x)
  obtain ⟨x1, x2⟩ := itoa_ok x hx
  rwa [if_pos x1, strip_itoa, e, errW_t x1] at c
theorem dnum_bd {b : Bool} {G : List Int} {z : Int} : bd (36 + z.toNat % 501) (dnum b G z) := by
  have hv := gval_bd (G := G) (min 12 G.length) (by omega)
  rw [show G.take (min 12 G.length) = G.take 12 by
    by_cases h : 12 ≤ G.length
    · rw [Nat.min_eq_left h]
    · rw [List.take_of_length_le (by omega), List.take_of_length_le (by omega)]] at hv
  obtain ⟨V, hV⟩ : ∃ V, V = gval (G.take 12) := ⟨_, rfl⟩
  obtain ⟨e, he⟩ : ∃ e, e = z.toNat % 501 := ⟨_, rfl⟩
  have hd : dnum b G z = sg b (V * 10 ^ e).natAbs := by unfold dnum; rw [hV, he]
  rw [← hV] at hv
  have hVd : V.natAbs < 10 ^ 36 := by
    have h2 : 1000 ^ (min 12 G.length) ≤ 1000 ^ 12 := Nat.pow_le_pow_right (by decide) (Nat.min_le_left _ _)
    have h3 : (1000 : Nat) ^ 12 = 10 ^ 36 := by decide
    omega
  unfold bd
  rw [hd, sg_abs, Int.natAbs_mul, Int.natAbs_pow, ← he, Nat.pow_add]
  exact Nat.mul_lt_mul_of_pos_right hVd (Nat.pow_pos (by decide))
theorem cShort {b : Bool} {G : List Int} {z : Int} (hz : 0 ≤ z ∧ z ≤ 65535) (hG : ∀ i, 0 ≤ G.getD i 0 ∧ G.getD i 0 ≤ 65535) : Con Tryz.prog 9 [dft b G z] (tx (itoa (dnum b G (z % 150)))) [] := by
  have w := rWhole (b := b) (G := G) (z := z % 150) (by omega) hG
  have hm : z.tmod 150 = z % 150 := tmod_nn hz.1
  refine Con.of_body [(0, dft b G z)] Tryz.func9 rfl ca9 9 rfl (by simp) rfl ?_; refine T_of_R ?_
  refine go ?_
  rw [hm]
  refine go ?_
  refine call (w) ?_
  refine go ?_
  refine R_ret (finA [])
theorem short_bd {b : Bool} {G : List Int} {z : Int} (hz : 0 ≤ z ∧ z ≤ 65535) : bd 185 (dnum b G (z % 150)) := bd_mono dnum_bd (by omega)
end Go.Proofs.YtglnkfpmogaifaaGreatDoor.V

/-
  The reference's Neg, Abs, Add, Sub, Mul.
-/
set_option linter.unusedSimpArgs false
set_option linter.unusedVariables false
set_option maxHeartbeats 4000000
namespace Go.Proofs.YtglnkfpmogaifaaGreatDoor.V
open Go Go.Proofs Go.RowKit Go.Lib

theorem rNeg {l : List UInt8} (hll : l.length ≤ 1000000) : Con Tryz.prog 26 [tx l] (.tp [tx (tolT l (-numT l)), .sc (.int .i64 (tolE l (-numT l)))]) [] := by
  refine Con.of_body [(0, tx l)] Tryz.func26 rfl ca26 13 rfl (by simp) rfl ?_; refine T_of_R ?_
  refine go ?_
  refine call (rRight hll) ?_
  refine go ?_
  refine cnd (fun h => ?_) (fun h => ?_)
  · simp only [decide_eq_true_eq, decide_eq_false_iff_not, Bool.or_eq_true, Bool.and_eq_true, Bool.or_eq_false_iff, Bool.and_eq_false_iff, Bool.not_eq_true', Bool.not_eq_false', bne_iff_ne, beq_iff_eq, ne_eq, bne_eq_false_iff_eq, beq_eq_false_iff_ne, ge_iff_le, gt_iff_lt, Int.not_le, Int.not_lt] at h
    rw [show tolT l (-numT l) = [] from if_neg (by rw [h]; decide), show tolE l (-numT l) = 10 from if_neg (by rw [h]; decide)]
    refine go ?_
    refine R_ret (finA [])
  · simp only [decide_eq_true_eq, decide_eq_false_iff_not, Bool.or_eq_true, Bool.and_eq_true, Bool.or_eq_false_iff, Bool.and_eq_false_iff, Bool.not_eq_true', Bool.not_eq_false', bne_iff_ne, beq_iff_eq, ne_eq, bne_eq_false_iff_eq, beq_eq_false_iff_ne, ge_iff_le, gt_iff_lt, Int.not_le, Int.not_lt] at h
    have hq := lqnum h
    rw [show tolT l (-numT l) = toldT (-numT l) from if_pos h, show tolE l (-numT l) = toldE (-numT l) from if_pos h]
    refine go ?_
    refine callz (rIn h) ?_
    refine go ?_
    refine callz (rTurn (numT l)) ?_
    refine go ?_
    refine callz (rOut (z := -numT l) (by rw [Int.natAbs_neg]; omega)) ?_
    refine go ?_
    refine R_ret (finA [])
theorem rAbs {l : List UInt8} (hll : l.length ≤ 1000000) : Con Tryz.prog 27 [tx l] (.tp [tx (tolT l ((numT l).natAbs : Int)), .sc (.int .i64 (tolE l ((numT l).natAbs : Int)))]) [] := by
  refine Con.of_body [(0, tx l)] Tryz.func27 rfl ca27 14 rfl (by simp) rfl ?_; refine T_of_R ?_
  refine go ?_
  refine call (rRight hll) ?_
  refine go ?_
  refine cnd (fun h => ?_) (fun h => ?_)
  · simp only [decide_eq_true_eq, decide_eq_false_iff_not, Bool.or_eq_true, Bool.and_eq_true, Bool.or_eq_false_iff, Bool.and_eq_false_iff, Bool.not_eq_true', Bool.not_eq_false', bne_iff_ne, beq_iff_eq, ne_eq, bne_eq_false_iff_eq, beq_eq_false_iff_ne, ge_iff_le, gt_iff_lt, Int.not_le, Int.not_lt] at h
    rw [show tolT l ((numT l).natAbs : Int) = [] from if_neg (by rw [h]; decide), show tolE l ((numT l).natAbs : Int) = 10 from if_neg (by rw [h]; decide)]
    refine go ?_
    refine R_ret (finA [])
  · simp only [decide_eq_true_eq, decide_eq_false_iff_not, Bool.or_eq_true, Bool.and_eq_true, Bool.or_eq_false_iff, Bool.and_eq_false_iff, Bool.not_eq_true', Bool.not_eq_false', bne_iff_ne, beq_iff_eq, ne_eq, bne_eq_false_iff_eq, beq_eq_false_iff_ne, ge_iff_le, gt_iff_lt, Int.not_le, Int.not_lt] at h
    have hq := lqnum h
    have hou := rOut (z := ((numT l).natAbs : Int)) (by rw [Int.natAbs_natCast]; omega)
    rw [show pl ((numT l).natAbs : Int) = .ag [.sc (.bool false), is (numT l).natAbs] by unfold pl; rw [decide_eq_false (by omega), Int.natAbs_natCast]] at hou
    rw [show tolT l ((numT l).natAbs : Int) = toldT ((numT l).natAbs : Int) from if_pos h, show tolE l ((numT l).natAbs : Int) = toldE ((numT l).natAbs : Int) from if_pos h]
    refine go ?_
    refine callz (rIn h) ?_
    refine go ?_
    refine callz (hou) ?_
    refine go ?_
    refine R_ret (finA [])
theorem lqAdd (x y : Int) : lq (x + y).natAbs ≤ max (lq x.natAbs) (lq y.natAbs) + 1 :=
  Nat.le_trans (dig_mono BQ2 (Int.natAbs_add_le x y)) (dig_length_add BQ2 _ _)
theorem lqMul (x y : Int) : lq (x * y).natAbs ≤ lq x.natAbs + lq y.natAbs := by
  rw [Int.natAbs_mul]
  exact dig_length_mul BQ2 _ _
theorem rAdd {a b : List UInt8} (hla : a.length ≤ 1000000) (hlb : b.length ≤ 1000000) : Con Tryz.prog 28 [tx a, tx b] (.tp [tx (opT (· + ·) a b), .sc (.int .i64 (opE (· + ·) a b))]) [] := by
  refine Con.of_body [(0, tx a), (1, tx b)] Tryz.func28 rfl ca28 22 rfl (by simp) rfl ?_; refine T_of_R ?_
  refine go ?_
  refine call (rRight hla) ?_
  refine go ?_
  refine callg (fun hg => rRight hlb) ?_
  refine go ?_
  by_cases h : ok2 a b = true
  · obtain ⟨ha, hb⟩ := ok2_t h
    have h34 := lqnum ha
    have h34' := lqnum hb
    have hln : lq (numT a + numT b).natAbs ≤ 1000000 := Nat.le_trans (lqAdd _ _) (by omega)
    have hou := rOut (z := numT a + numT b) hln
    rw [h, show opT (· + ·) a b = toldT (numT a + numT b) from if_pos h, show opE (· + ·) a b = toldE (numT a + numT b) from if_pos h]
    refine cnd (b := false) (fun h => by cases h) (fun _ => ?_)
    refine go ?_
    refine callz (rIn ha) ?_
    refine go ?_
    refine callz (rIn hb) ?_
    refine go ?_
    refine callz (rPlus (x := numT a) (y := numT b) (by omega)) ?_
    refine go ?_
    refine callz (hou) ?_
    refine go ?_
    refine R_ret (finA [])
  · rw [show ok2 a b = false by simpa using h, show opT (· + ·) a b = [] from if_neg h, show opE (· + ·) a b = 10 from if_neg h]
    refine cnd (b := true) (fun _ => ?_) (fun h => by cases h)
    refine go ?_
    refine R_ret (finA [])
theorem rSub {a b : List UInt8} (hla : a.length ≤ 1000000) (hlb : b.length ≤ 1000000) : Con Tryz.prog 29 [tx a, tx b] (.tp [tx (opT (· - ·) a b), .sc (.int .i64 (opE (· - ·) a b))]) [] := by
  refine Con.of_body [(0, tx a), (1, tx b)] Tryz.func29 rfl ca29 22 rfl (by simp) rfl ?_; refine T_of_R ?_
  refine go ?_
  refine call (rRight hla) ?_
  refine go ?_
  refine callg (fun hg => rRight hlb) ?_
  refine go ?_
  by_cases h : ok2 a b = true
  · obtain ⟨ha, hb⟩ := ok2_t h
    have h34 := lqnum ha
    have h34' := lqnum hb
    have hln : lq (numT a - numT b).natAbs ≤ 1000000 := by rw [Int.sub_eq_add_neg]; refine Nat.le_trans (lqAdd _ _) ?_; rw [Int.natAbs_neg]; omega
    have hou := rOut (z := numT a - numT b) hln
    rw [h, show opT (· - ·) a b = toldT (numT a - numT b) from if_pos h, show opE (· - ·) a b = toldE (numT a - numT b) from if_pos h]
    refine cnd (b := false) (fun h => by cases h) (fun _ => ?_)
    refine go ?_
    refine callz (rIn ha) ?_
    refine go ?_
    refine callz (rIn hb) ?_
    refine go ?_
    refine callz (rMinus (x := numT a) (y := numT b) (by omega)) ?_
    refine go ?_
    refine callz (hou) ?_
    refine go ?_
    refine R_ret (finA [])
  · rw [show ok2 a b = false by simpa using h, show opT (· - ·) a b = [] from if_neg h, show opE (· - ·) a b = 10 from if_neg h]
    refine cnd (b := true) (fun _ => ?_) (fun h => by cases h)
    refine go ?_
    refine R_ret (finA [])
theorem rMul {a b : List UInt8} (hla : a.length ≤ 1000000) (hlb : b.length ≤ 1000000) : Con Tryz.prog 30 [tx a, tx b] (.tp [tx (opT (· * ·) a b), .sc (.int .i64 (opE (· * ·) a b))]) [] := by
  refine Con.of_body [(0, tx a), (1, tx b)] Tryz.func30 rfl ca30 22 rfl (by simp) rfl ?_; refine T_of_R ?_
  refine go ?_
  refine call (rRight hla) ?_
  refine go ?_
  refine callg (fun hg => rRight hlb) ?_
  refine go ?_
  by_cases h : ok2 a b = true
  · obtain ⟨ha, hb⟩ := ok2_t h
    have h34 := lqnum ha
    have h34' := lqnum hb
    have hln : lq (numT a * numT b).natAbs ≤ 1000000 := Nat.le_trans (lqMul _ _) (by omega)
    have hou := rOut (z := numT a * numT b) hln
    rw [h, show opT (· * ·) a b = toldT (numT a * numT b) from if_pos h, show opE (· * ·) a b = toldE (numT a * numT b) from if_pos h]
    refine cnd (b := false) (fun h => by cases h) (fun _ => ?_)
    refine go ?_
    refine callz (rIn ha) ?_
    refine go ?_
    refine callz (rIn hb) ?_
    refine go ?_
    refine callz (rTimes (x := numT a) (y := numT b) (by omega)) ?_
    refine go ?_
    refine callz (hou) ?_
    refine go ?_
    refine R_ret (finA [])
  · rw [show ok2 a b = false by simpa using h, show opT (· * ·) a b = [] from if_neg h, show opE (· * ·) a b = 10 from if_neg h]
    refine cnd (b := true) (fun _ => ?_) (fun h => by cases h)
    refine go ?_
    refine R_ret (finA [])
end Go.Proofs.YtglnkfpmogaifaaGreatDoor.V

/-
  The law WholeSums.
-/
set_option linter.unusedSimpArgs false
set_option linter.unusedVariables false
set_option maxHeartbeats 4000000
set_option maxRecDepth 100000
namespace Go.Proofs.YtglnkfpmogaifaaGreatDoor.V
open Go Go.Proofs Go.RowKit Go.Lib

theorem cAbs' (l : List UInt8) : Con Tryz.prog 14 [tx l] (.tp [tx (tolT l ((numT l).natAbs : Int)), .sc (.int .i64 (tolE l ((numT l).natAbs : Int)))]) [] := by
  have c := cAbs l
  by_cases h : okT l = true
  · obtain ⟨h1, h2⟩ := okT_num h
    obtain ⟨t1, t2⟩ := toldT_small (z := ((numT l).natAbs : Int)) (by rw [Int.natAbs_natCast]; exact h2)
    have hs : strip l = itoa ((numT l).natAbs : Int) := by
      have := strip_itoa (numT l)
      rwa [h1] at this
    rwa [if_pos h, errW_t h, hs, ← t1, ← t2, ← show tolT l ((numT l).natAbs : Int) = toldT ((numT l).natAbs : Int) from if_pos h, ← show tolE l ((numT l).natAbs : Int) = toldE ((numT l).natAbs : Int) from if_pos h] at c
  · have h' : okT l = false := by simpa using h
    rwa [if_neg h, errW_f h', ← show tolT l ((numT l).natAbs : Int) = [] from if_neg h, ← show tolE l ((numT l).natAbs : Int) = 10 from if_neg h] at c
theorem cSums {A B : List UInt8} {b b' : Bool} {G G' : List Int} {z z' : Int} (hA : A.length ≤ 9223372036854775807) (hB : B.length ≤ 9223372036854775807) (hz : 0 ≤ z ∧ z ≤ 65535) (hG : ∀ i, 0 ≤ G.getD i 0 ∧ G.getD i 0 ≤ 65535) (hz' : 0 ≤ z' ∧ z' ≤ 65535) (hG' : ∀ i, 0 ≤ G'.getD i 0 ∧ G'.getD i 0 ≤ 65535) :
    Con Tryz.prog 7 [two A B b G z b' G' z'] (.sc (.bool true)) [] := by
  have w1 := cPairs (b := b) (b' := b') hA hB hz hG hz' hG'
  have lA : (A.take 620).length ≤ 1000 := by rw [List.length_take]; omega
  have lB : (B.take 620).length ≤ 1000 := by rw [List.length_take]; omega
  have lX := itoa_short (dnum_le (b := b) (G := G) (z := z))
  have lY := itoa_short (dnum_le (b := b') (G := G') (z := z'))
  generalize A.take 620 = a at *
  generalize B.take 620 = c at *
  generalize itoa (dnum b G z) = x at *
  generalize itoa (dnum b' G' z') = y at *
  refine Con.of_body [(0, two A B b G z b' G' z')] Tryz.func7 rfl ca7 155 rfl (by simp) rfl ?_; refine T_of_R ?_
  refine go ?_
  refine call (cWorks) ?_
  refine go ?_
  refine cnd (b := false) (fun h => by cases h) (fun _ => ?_)
  refine go ?_
  refine callo (w1) ?_
  refine go ?_
  refine R_loop (fun i : Nat => ⟨tl [(28, .rf 0 0 4 2), (29, .sc (.int .i64 4)), (30, .sc (.int .i64 i))], ol [(0, ⟨[tx a, tx c, tx x, tx y, tx a, tx y, tx y, tx c], 50, 2, false⟩)], 1, [], 155⟩) (fun i => i ≤ 4) (fun i => 4 - i) 0 [1] lessA (by omega) fun i hi => ?_
  refine go ?_
  refine cnd (fun h => ?_) (fun h => ?_)
  · simp only [decide_eq_true_eq, decide_eq_false_iff_not, Bool.or_eq_true, Bool.and_eq_true, Bool.or_eq_false_iff, Bool.and_eq_false_iff, Bool.not_eq_true', Bool.not_eq_false', bne_iff_ne, beq_iff_eq, ne_eq, bne_eq_false_iff_eq, beq_eq_false_iff_ne, ge_iff_le, gt_iff_lt, Int.not_le, Int.not_lt] at h
    have hi4 : i < 4 := by omega
    obtain ⟨p, q, hrow, hp, hq⟩ : ∃ p q, List.take 2 (List.drop (i * 2) [tx a, tx c, tx x, tx y, tx a, tx y, tx y, tx c]) = [tx p, tx q] ∧ p.length ≤ 1000 ∧ q.length ≤ 1000 := by
      match i, hi4 with
      | 0, _ => exact ⟨a, c, rfl, lA, lB⟩
      | 1, _ => exact ⟨x, y, rfl, lX, lY⟩
      | 2, _ => exact ⟨a, y, rfl, lA, lY⟩
      | 3, _ => exact ⟨y, c, rfl, lY, lB⟩
    have hp' := Nat.le_trans hp (show 1000 ≤ 1000000 by decide)
    have hq' := Nat.le_trans hq (show 1000 ≤ 1000000 by decide)
    refine go ?_
    rw [hrow]
    refine go ?_
    refine call (cNeg p) ?_
    refine go ?_
    refine call (rNeg hp') ?_
    refine go ?_
    refine call (cAbs' p) ?_
    refine go ?_
    refine call (rAbs hp') ?_
    refine go ?_
    refine call (cAdd p q) ?_
    refine go ?_
    refine call (rAdd hp' hq') ?_
    refine go ?_
    refine call (cSub p q) ?_
    refine go ?_
    refine call (rSub hp' hq') ?_
    refine go ?_
    refine call (cMul p q) ?_
    refine go ?_
    refine call (rMul hp' hq') ?_
    refine gon ?_
    refine cnd (b := false) (fun h => by cases h) (fun _ => ?_)
    refine go ?_
    refine R_nilR ⟨[0], _, ?_, i + 1, by omega, by omega, rfl⟩; exact lessA
  · simp only [decide_eq_true_eq, decide_eq_false_iff_not, Bool.or_eq_true, Bool.and_eq_true, Bool.or_eq_false_iff, Bool.and_eq_false_iff, Bool.not_eq_true', Bool.not_eq_false', bne_iff_ne, beq_iff_eq, ne_eq, bne_eq_false_iff_eq, beq_eq_false_iff_ne, ge_iff_le, gt_iff_lt, Int.not_le, Int.not_lt] at h
    refine go ?_
    refine R_ret (finA [])
end Go.Proofs.YtglnkfpmogaifaaGreatDoor.V

/-
  The arguments of the statements, as data.
-/
set_option linter.unusedSimpArgs false
set_option linter.unusedVariables false
set_option maxRecDepth 100000
namespace Go.Proofs.YtglnkfpmogaifaaGreatDoor.V
open Go Go.Proofs Go.RowKit

def Bd (b : Int) (xs : List Int) : Prop := ∀ i, 0 ≤ xs.getD i 0 ∧ xs.getD i 0 ≤ b
theorem rows_ints {P : Program} {n : Nat} {e : TypeId} {k : IntKind} (he : P.underlying e = some (.int k)) : ∀ {rows : List (List D)}, (∀ r ∈ rows, Shape P (n + 1) e r) → ∃ xs : List Int, xs.length = rows.length ∧ rows.flatten = ints k xs ∧ ∀ i, i < xs.length → (Lit.int k (xs.getD i 0)).wf = true
  | [], _ => ⟨[], rfl, rfl, fun i hi => by simp at hi⟩
  | r :: rows, h => by
    obtain ⟨xs, h1, h2, h3⟩ := rows_ints he (rows := rows) (fun r hr => h r (by simp [hr]))
    have h0 := h r (by simp)
    simp only [Shape, he] at h0
    obtain ⟨m, hm, rfl⟩ := h0
    refine ⟨m :: xs, by simp [h1], by simp [h2, ints_cons], fun i hi => ?_⟩
    cases i with
    | zero => simpa using hm
    | succ i => simpa using h3 i (by simpa using hi)
theorem shape_ints {P : Program} {n : Nat} {t e : TypeId} {k : IntKind} {ds : List D} (ht : P.underlying t = some (.slice e)) (he : P.underlying e = some (.int k)) (h : Shape P (n + 2) t ds) : ∃ xs : List Int, ds = [.sl xs.length (ints k xs)] ∧ ∀ i, i < xs.length → (Lit.int k (xs.getD i 0)).wf = true := by
  rw [Shape] at h
  simp only [ht] at h
  obtain ⟨rows, _, hr, rfl⟩ := h
  obtain ⟨xs, h1, h2, h3⟩ := rows_ints he hr
  exact ⟨xs, by rw [h1, h2], h3⟩
theorem shape_int {P : Program} {n : Nat} {t : TypeId} {k : IntKind} {ds : List D} (ht : P.underlying t = some (.int k)) (h : Shape P (n + 1) t ds) : ∃ m, (Lit.int k m).wf = true ∧ ds = [.sc (.int k m)] := by
  rw [Shape] at h
  simpa only [ht] using h
theorem shape_bool {P : Program} {n : Nat} {t : TypeId} {ds : List D} (ht : P.underlying t = some .bool) (h : Shape P (n + 1) t ds) : ∃ b, ds = [.sc (.bool b)] := by
  rw [Shape] at h
  simpa only [ht] using h
theorem shape_struct {P : Program} {n : Nat} {t : TypeId} {fs : Array Field} {ds : List D} (ht : P.underlying t = some (.struct fs)) (h : Shape P (n + 1) t ds) : ∃ rows : List (List D), rows.length = fs.size ∧ (∀ (i : Nat) f r, fs[i]? = some f → rows[i]? = some r → Shape P n f.type r) ∧ ds = rows.flatten := by
  rw [Shape] at h
  simpa only [ht] using h
theorem shape_array {P : Program} {n m : Nat} {t e : TypeId} {ds : List D} (ht : P.underlying t = some (.array m e)) (h : Shape P (n + 1) t ds) : ∃ rows : List (List D), rows.length = m ∧ (∀ r ∈ rows, Shape P n e r) ∧ ds = rows.flatten := by
  rw [Shape] at h
  simpa only [ht] using h
theorem len1 {α : Type} {l : List α} (h : l.length = 1) : ∃ a, l = [a] := by
  match l, h with
  | [a], _ => exact ⟨a, rfl⟩
theorem len5 {α : Type} {l : List α} (h : l.length = 5) : ∃ a b c d e, l = [a, b, c, d, e] := by
  match l, h with
  | [a, b, c, d, e], _ => exact ⟨a, b, c, d, e, rfl⟩
theorem len6 {α : Type} {l : List α} (h : l.length = 6) : ∃ a b c d e f, l = [a, b, c, d, e, f] := by
  match l, h with
  | [a, b, c, d, e, f], _ => exact ⟨a, b, c, d, e, f, rfl⟩
theorem len2 {α : Type} {l : List α} (h : l.length = 2) : ∃ a b, l = [a, b] := by
  match l, h with
  | [a, b], _ => exact ⟨a, b, rfl⟩
theorem len3 {α : Type} {l : List α} (h : l.length = 3) : ∃ a b c, l = [a, b, c] := by
  match l, h with
  | [a, b, c], _ => exact ⟨a, b, c, rfl⟩
theorem len4 {α : Type} {l : List α} (h : l.length = 4) : ∃ a b c d, l = [a, b, c, d] := by
  match l, h with
  | [a, b, c, d], _ => exact ⟨a, b, c, d, rfl⟩
theorem wf_u8 {m : Int} (h : (Lit.int .u8 m).wf = true) : 0 ≤ m ∧ m ≤ 255 := by
  simpa [Lit.wf, IntKind.min, IntKind.max, IntKind.signed, IntKind.bits] using h
theorem wf_u16 {m : Int} (h : (Lit.int .u16 m).wf = true) : 0 ≤ m ∧ m ≤ 65535 := by
  simpa [Lit.wf, IntKind.min, IntKind.max, IntKind.signed, IntKind.bits] using h
theorem wf_i64 {m : Int} (h : (Lit.int .i64 m).wf = true) : -9223372036854775808 ≤ m ∧ m ≤ 9223372036854775807 := by
  simpa [Lit.wf, IntKind.min, IntKind.max, IntKind.signed, IntKind.bits] using h
theorem Bd_of {k : IntKind} {b : Int} (hb : 0 ≤ b) (hk : ∀ m, (Lit.int k m).wf = true → 0 ≤ m ∧ m ≤ b) {xs : List Int} (h : ∀ i, i < xs.length → (Lit.int k (xs.getD i 0)).wf = true) : Bd b xs := fun i => by
  by_cases hi : i < xs.length
  · exact hk _ (h i hi)
  · have e : xs.getD i 0 = 0 := by simp [List.getD_eq_getElem?_getD, List.getElem?_eq_none (Nat.le_of_not_lt hi)]
    rw [e]
    exact ⟨Int.le_refl _, hb⟩

theorem shape_text {P : Program} {n : Nat} {t : TypeId} {ds : List D} (ht : P.underlying t = some .string) (h : Shape P (n + 1) t ds) : ∃ l : List UInt8, ds = [tx l] ∧ l.length ≤ maxLen := by
  rw [Shape] at h
  simp only [ht] at h
  obtain ⟨s, hs, rfl⟩ := h
  exact ⟨s.data.toList, rfl, by simpa using hs⟩
theorem shape_draft {n : Nat} {ds : List D} (h : Shape Tryz.prog (n + 3) 25 ds) : ∃ (b : Bool) (G : List Int) (z : Int), ds = [.sc (.bool b), .sl G.length (ints .u16 G), .sc (.int .u16 z)] ∧ Bd 65535 G ∧ (0 ≤ z ∧ z ≤ 65535) := by
  obtain ⟨rows, hl, hr, rfl⟩ := shape_struct Tryz.underlying25 h
  obtain ⟨r0, r1, r2, rfl⟩ := len3 hl
  obtain ⟨b, rfl⟩ := shape_bool Tryz.underlying4 (hr 0 _ r0 rfl rfl)
  obtain ⟨G, rfl, hG⟩ := shape_ints Tryz.underlying22 Tryz.underlying23 (hr 1 _ r1 rfl rfl)
  obtain ⟨z, hz, rfl⟩ := shape_int Tryz.underlying23 (hr 2 _ r2 rfl rfl)
  exact ⟨b, G, z, rfl, Bd_of (by omega) (fun m => wf_u16) hG, wf_u16 hz⟩
theorem sh_int {n : Nat} {a : D} (h : ShapeV Tryz.prog (n + 1) 3 a) : ∃ m : Int, a = .sc (.int .i64 m) ∧ -9223372036854775808 ≤ m ∧ m ≤ 9223372036854775807 := by
  simp only [ShapeV, Tryz.underlying3] at h
  obtain ⟨m, hm, hx⟩ := shape_int Tryz.underlying3 h
  exact ⟨m, by simpa using hx, wf_i64 hm⟩
theorem sh_draft {n : Nat} {a : D} (h : ShapeV Tryz.prog (n + 3) 25 a) : ∃ (b : Bool) (G : List Int) (z : Int), a = dft b G z ∧ Bd 65535 G ∧ (0 ≤ z ∧ z ≤ 65535) := by
  simp only [ShapeV, Tryz.underlying25] at h
  obtain ⟨ds, rfl, h⟩ := h
  obtain ⟨b, G, z, rfl, h1, h2⟩ := shape_draft h
  exact ⟨b, G, z, rfl, h1, h2⟩
theorem sh_u8i {n : Nat} {a : D} (h : ShapeV Tryz.prog (n + 1) 5 a) : ∃ m : Int, a = .sc (.int .u8 m) ∧ 0 ≤ m ∧ m ≤ 255 := by
  simp only [ShapeV, Tryz.underlying5] at h
  obtain ⟨m, hm, hx⟩ := shape_int Tryz.underlying5 h
  exact ⟨m, by simpa using hx, wf_u8 hm⟩
end Go.Proofs.YtglnkfpmogaifaaGreatDoor.V

/-
  The law's two texts and two drafts, as data.
-/
set_option linter.unusedSimpArgs false
set_option linter.unusedVariables false
set_option maxRecDepth 100000
namespace Go.Proofs.YtglnkfpmogaifaaGreatDoor.V
open Go Go.Proofs Go.RowKit

theorem sh_two {n : Nat} {a : D} (h : ShapeV Tryz.prog (n + 4) 47 a) : ∃ (A B : List UInt8) (b : Bool) (G : List Int) (z : Int) (b' : Bool) (G' : List Int) (z' : Int), a = two A B b G z b' G' z' ∧ A.length ≤ maxLen ∧ B.length ≤ maxLen ∧ Bd 65535 G ∧ (0 ≤ z ∧ z ≤ 65535) ∧ Bd 65535 G' ∧ (0 ≤ z' ∧ z' ≤ 65535) := by
  simp only [ShapeV, Tryz.underlying47] at h
  obtain ⟨ds, rfl, h⟩ := h
  obtain ⟨rows, hl, hr, rfl⟩ := shape_struct Tryz.underlying47 h
  obtain ⟨r0, r1, r2, r3, rfl⟩ := len4 hl
  obtain ⟨A, rfl, hA⟩ := shape_text Tryz.underlying9 (hr 0 _ r0 rfl rfl)
  obtain ⟨B, rfl, hB⟩ := shape_text Tryz.underlying9 (hr 1 _ r1 rfl rfl)
  obtain ⟨b, G, z, rfl, h1, h2⟩ := shape_draft (hr 2 _ r2 rfl rfl)
  obtain ⟨b', G', z', rfl, h3, h4⟩ := shape_draft (hr 3 _ r3 rfl rfl)
  exact ⟨A, B, b, G, z, b', G', z', rfl, hA, hB, h1, h2, h3, h4⟩
end Go.Proofs.YtglnkfpmogaifaaGreatDoor.V

/-
  WholeSums: for every input the law returns true, and the input reads as it did; the tables and errors of Go's library that it reads hold what the program's text lays (tied).
-/
set_option maxRecDepth 100000
set_option maxHeartbeats 4000000
namespace Go.Proofs.YtglnkfpmogaifaaGreatDoor
open Go.ChangeShapes Go.WideShapes Go.ChangeAt Go.RowKit

theorem wholeSums_con : ∀ us : List V.D, us.length = Tryz.f7.params.size → (∀ (j : Nat) t a, Tryz.f7.params[j]? = some t → us[j]? = some a → V.ShapeV Tryz.prog 5 t a) → V.Con Tryz.prog 7 us (.sc (.bool true)) [] := by
  intro us hl h
  rw [Tryz.params7] at hl h
  obtain ⟨v0, rfl⟩ := V.len1 hl
  obtain ⟨A, B, b, G, z, b', G', z', rfl, hA, hB, h1, h2, h3, h4⟩ := V.sh_two (h 0 47 v0 rfl rfl)
  exact V.cSums (Nat.le_trans hA (by decide)) (Nat.le_trans hB (by decide)) h2 h1 h4 h3

theorem wholeSums_met (os : Os) (args : Array Value) : laidMetH Tryz.prog Rows.wholeSumsRow.laid ((World.doorLaid Tryz.prog 400 os).forCall (fun _ _ => 0) ⟨#[], args, []⟩).memory :=
  laidMetH_of_parts3 (fuel := 8) (laidMet_of_run' 8 (by kernel_rfl) (by kernel_rfl)) (by kernel_rfl) (by kernel_rfl)

theorem wholeSums_lifted (os : Os) (started : os.Started) (H : Type) (enc : TypeId × Value → H) :
    ReturnsInHanded {} Tryz.checked os 7 .any (fun w args => (Rows.wholeSumsSpec.pre enc Tryz.prog Tryz.f7 [] false w args ∧ laidMetH Tryz.prog Rows.wholeSumsRow.laid w) ∧ sizedMet enc Tryz.prog Tryz.f7 (OpenSpec.ofChange Rows.wholeSumsSpec) false w args)
      (Rows.wholeSumsSpec.post enc Tryz.prog Tryz.f7 false true false false) := by
  refine returnsInHanded_of_change_and (C := Tryz.checked) (X := fun w _ => laidMetH Tryz.prog Rows.wholeSumsRow.laid w) (fun _ _ _ hh h => h.of_heap hh) own started (by kernel_rfl) Tryz.func7
    (ChangeSpec.witness_shaped (enc := enc) (C := Tryz.checked) (os := os) (X := fun w _ => laidMetH Tryz.prog Rows.wholeSumsRow.laid w) false (World.doorLaid Tryz.prog 400 os) #[.agg #[.string ⟨#[]⟩, .string ⟨#[]⟩, .bool false, .slice none 0 0, .int .u16 0, .bool false, .slice none 0 0, .int .u16 0]] 8 rfl (World.shaped_of_RefB (by kernel_rfl) (by kernel_rfl)) (by kernel_rfl) (by kernel_rfl) (by kernel_rfl) (wholeSums_met os _)) ?_
  intro W base args ds gs before hval hW _ _ hL _
  exact V.law_post (n := 5) kids full (by kernel_rfl) rfl Tryz.underlying4 rfl (fun ds hd => by obtain ⟨v0, rfl⟩ := V.len1 hd; rfl) wholeSums_con W (gl_of (show laidMetH Tryz.prog laidL W from hL)) base args ds gs before hval hW

theorem wholeSums_over : Rows.wholeSumsRow.holds Tryz.pinned (OpenSpec.ofChange Rows.wholeSumsSpec) :=
  OpenClaim.holds_of_wide 7 Tryz.f7 rfl rfl rfl rfl rfl rfl rfl ⟨rfl, rfl, rfl, rfl, rfl⟩ rfl rfl rfl rfl rfl (by kernel_rfl) Tryz.func7 (by kernel_rfl)
    (of_decide_eq_true (by kernel_rfl)) (by unfold Func.isWrapper; first | (rw [if_pos (by decide +kernel)]; kernel_rfl) | (rw [if_neg (by decide +kernel)]; exact ⟨rfl, rfl⟩))
    (fun os started H enc _ => wholeSums_lifted os started H enc)
theorem wholeSums_holds : Rows.WholeSumsCardSaid :=
  Claim7.holds_tied_plain_at .later [] [.data, .data, .data, .sentinel, .sentinel] true _ true
    wholeSums_over (fun _ h => by cases h) (by kernel_rfl) (fun _ h => by cases h) wholeSums_row_tie rfl ⟨rfl, rfl⟩ (by kernel_rfl) rfl
    (fun f fn hf hfn => by
      obtain rfl : f = 7 := Option.some.inj ((show Tryz.prog.funcNamed "verdigris/verdigrislaw01.WholeSums" = some 7 by kernel_rfl).symm.trans hf) |>.symm
      obtain rfl : fn = Tryz.f7 := (Option.some.inj (Tryz.func7.symm.trans hfn)).symm
      exact ⟨by kernel_rfl, fun j t ht => by
        rw [Tryz.params7] at ht
        match j, ht with
        | 0, ht =>
          obtain rfl : t = 47 := by simpa using ht.symm
          exact (show Tryz.prog.wantsStandIn 47 = false by kernel_rfl)
        | j + 1, ht => simp at ht⟩)
    (by kernel_rfl)
end Go.Proofs.YtglnkfpmogaifaaGreatDoor

