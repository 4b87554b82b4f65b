/-
  The arguments of the statement, as data.
-/
import Derived.Test.YtbiilpbhkfgfaaaGreatDoorK5
set_option linter.unusedSimpArgs false
set_option linter.unusedVariables false
set_option linter.unusedSimpArgs false
set_option linter.unusedVariables false
set_option maxRecDepth 100000
namespace Go.Proofs.YtbiilpbhkfgfaaaGreatDoor.V
open Go Go.Proofs Go.RowKit

def Bd (b : Int) (xs : List Int) : Prop := ∀ i, 0 ≤ xs.getD i 0 ∧ xs.getD i 0 ≤ b
theorem rows_ints {P : Program} {n : Nat} {e : TypeId} {k : IntKind} (he : P.underlying e = some (.int k)) : ∀ {rows : List (List D)}, (∀ r ∈ rows, Shape P (n + 1) e r) → ∃ xs : List Int, xs.length = rows.length ∧ rows.flatten = ints k xs ∧ ∀ i, i < xs.length → (Lit.int k (xs.getD i 0)).wf = true
  | [], _ => ⟨[], rfl, rfl, fun i hi => by simp at hi⟩
  | r :: rows, h => by
    obtain ⟨xs, h1, h2, h3⟩ := rows_ints he (rows := rows) (fun r hr => h r (by simp [hr]))
    have h0 := h r (by simp)
    simp only [Shape, he] at h0
    obtain ⟨m, hm, rfl⟩ := h0
    refine ⟨m :: xs, by simp [h1], by simp [h2, ints_cons], fun i hi => ?_⟩
    cases i with
    | zero => simpa using hm
    | succ i => simpa using h3 i (by simpa using hi)
theorem shape_ints {P : Program} {n : Nat} {t e : TypeId} {k : IntKind} {ds : List D} (ht : P.underlying t = some (.slice e)) (he : P.underlying e = some (.int k)) (h : Shape P (n + 2) t ds) : ∃ xs : List Int, ds = [.sl xs.length (ints k xs)] ∧ ∀ i, i < xs.length → (Lit.int k (xs.getD i 0)).wf = true := by
  rw [Shape] at h
  simp only [ht] at h
  obtain ⟨rows, _, hr, rfl⟩ := h
  obtain ⟨xs, h1, h2, h3⟩ := rows_ints he hr
  exact ⟨xs, by rw [h1, h2], h3⟩
theorem shape_int {P : Program} {n : Nat} {t : TypeId} {k : IntKind} {ds : List D} (ht : P.underlying t = some (.int k)) (h : Shape P (n + 1) t ds) : ∃ m, (Lit.int k m).wf = true ∧ ds = [.sc (.int k m)] := by
  rw [Shape] at h
  simpa only [ht] using h
theorem shape_bool {P : Program} {n : Nat} {t : TypeId} {ds : List D} (ht : P.underlying t = some .bool) (h : Shape P (n + 1) t ds) : ∃ b, ds = [.sc (.bool b)] := by
  rw [Shape] at h
  simpa only [ht] using h
theorem shape_struct {P : Program} {n : Nat} {t : TypeId} {fs : Array Field} {ds : List D} (ht : P.underlying t = some (.struct fs)) (h : Shape P (n + 1) t ds) : ∃ rows : List (List D), rows.length = fs.size ∧ (∀ (i : Nat) f r, fs[i]? = some f → rows[i]? = some r → Shape P n f.type r) ∧ ds = rows.flatten := by
  rw [Shape] at h
  simpa only [ht] using h
theorem shape_array {P : Program} {n m : Nat} {t e : TypeId} {ds : List D} (ht : P.underlying t = some (.array m e)) (h : Shape P (n + 1) t ds) : ∃ rows : List (List D), rows.length = m ∧ (∀ r ∈ rows, Shape P n e r) ∧ ds = rows.flatten := by
  rw [Shape] at h
  simpa only [ht] using h
theorem len1 {α : Type} {l : List α} (h : l.length = 1) : ∃ a, l = [a] := by
  match l, h with
  | [a], _ => exact ⟨a, rfl⟩
theorem len5 {α : Type} {l : List α} (h : l.length = 5) : ∃ a b c d e, l = [a, b, c, d, e] := by
  match l, h with
  | [a, b, c, d, e], _ => exact ⟨a, b, c, d, e, rfl⟩
theorem len6 {α : Type} {l : List α} (h : l.length = 6) : ∃ a b c d e f, l = [a, b, c, d, e, f] := by
  match l, h with
  | [a, b, c, d, e, f], _ => exact ⟨a, b, c, d, e, f, rfl⟩
theorem len2 {α : Type} {l : List α} (h : l.length = 2) : ∃ a b, l = [a, b] := by
  match l, h with
  | [a, b], _ => exact ⟨a, b, rfl⟩
theorem len3 {α : Type} {l : List α} (h : l.length = 3) : ∃ a b c, l = [a, b, c] := by
  match l, h with
  | [a, b, c], _ => exact ⟨a, b, c, rfl⟩
theorem len4 {α : Type} {l : List α} (h : l.length = 4) : ∃ a b c d, l = [a, b, c, d] := by
  match l, h with
  | [a, b, c, d], _ => exact ⟨a, b, c, d, rfl⟩
theorem wf_u8 {m : Int} (h : (Lit.int .u8 m).wf = true) : 0 ≤ m ∧ m ≤ 255 := by
  simpa [Lit.wf, IntKind.min, IntKind.max, IntKind.signed, IntKind.bits] using h
theorem wf_u16 {m : Int} (h : (Lit.int .u16 m).wf = true) : 0 ≤ m ∧ m ≤ 65535 := by
  simpa [Lit.wf, IntKind.min, IntKind.max, IntKind.signed, IntKind.bits] using h
theorem wf_i64 {m : Int} (h : (Lit.int .i64 m).wf = true) : -9223372036854775808 ≤ m ∧ m ≤ 9223372036854775807 := by
  simpa [Lit.wf, IntKind.min, IntKind.max, IntKind.signed, IntKind.bits] using h
theorem Bd_of {k : IntKind} {b : Int} (hb : 0 ≤ b) (hk : ∀ m, (Lit.int k m).wf = true → 0 ≤ m ∧ m ≤ b) {xs : List Int} (h : ∀ i, i < xs.length → (Lit.int k (xs.getD i 0)).wf = true) : Bd b xs := fun i => by
  by_cases hi : i < xs.length
  · exact hk _ (h i hi)
  · have e : xs.getD i 0 = 0 := by simp [List.getD_eq_getElem?_getD, List.getElem?_eq_none (Nat.le_of_not_lt hi)]
    rw [e]
    exact ⟨Int.le_refl _, hb⟩

theorem shape_text {P : Program} {n : Nat} {t : TypeId} {ds : List D} (ht : P.underlying t = some .string) (h : Shape P (n + 1) t ds) : ∃ l : List UInt8, ds = [tx l] ∧ l.length ≤ maxLen := by
  rw [Shape] at h
  simp only [ht] at h
  obtain ⟨s, hs, rfl⟩ := h
  exact ⟨s.data.toList, rfl, by simpa using hs⟩
theorem shape_draft {n : Nat} {ds : List D} (h : Shape Tryz.prog (n + 3) 25 ds) : ∃ (b : Bool) (G : List Int) (z : Int), ds = [.sc (.bool b), .sl G.length (ints .u16 G), .sc (.int .u16 z)] ∧ Bd 65535 G ∧ (0 ≤ z ∧ z ≤ 65535) := by
  obtain ⟨rows, hl, hr, rfl⟩ := shape_struct Tryz.underlying25 h
  obtain ⟨r0, r1, r2, rfl⟩ := len3 hl
  obtain ⟨b, rfl⟩ := shape_bool Tryz.underlying4 (hr 0 _ r0 rfl rfl)
  obtain ⟨G, rfl, hG⟩ := shape_ints Tryz.underlying22 Tryz.underlying23 (hr 1 _ r1 rfl rfl)
  obtain ⟨z, hz, rfl⟩ := shape_int Tryz.underlying23 (hr 2 _ r2 rfl rfl)
  exact ⟨b, G, z, rfl, Bd_of (by omega) (fun m => wf_u16) hG, wf_u16 hz⟩
theorem sh_two {n : Nat} {a : D} (h : ShapeV Tryz.prog (n + 4) 27 a) : ∃ (A B : List UInt8) (b : Bool) (G : List Int) (z : Int) (b' : Bool) (G' : List Int) (z' : Int), a = two A B b G z b' G' z' ∧ A.length ≤ maxLen ∧ B.length ≤ maxLen ∧ Bd 65535 G ∧ (0 ≤ z ∧ z ≤ 65535) ∧ Bd 65535 G' ∧ (0 ≤ z' ∧ z' ≤ 65535) := by
  simp only [ShapeV, Tryz.underlying27] at h
  obtain ⟨ds, rfl, h⟩ := h
  obtain ⟨rows, hl, hr, rfl⟩ := shape_struct Tryz.underlying27 h
  obtain ⟨r0, r1, r2, r3, rfl⟩ := len4 hl
  obtain ⟨A, rfl, hA⟩ := shape_text Tryz.underlying9 (hr 0 _ r0 rfl rfl)
  obtain ⟨B, rfl, hB⟩ := shape_text Tryz.underlying9 (hr 1 _ r1 rfl rfl)
  obtain ⟨b, G, z, rfl, h1, h2⟩ := shape_draft (hr 2 _ r2 rfl rfl)
  obtain ⟨b', G', z', rfl, h3, h4⟩ := shape_draft (hr 3 _ r3 rfl rfl)
  exact ⟨A, B, b, G, z, b', G', z', rfl, hA, hB, h1, h2, h3, h4⟩
theorem sh_int {n : Nat} {a : D} (h : ShapeV Tryz.prog (n + 1) 3 a) : ∃ m : Int, a = .sc (.int .i64 m) ∧ -9223372036854775808 ≤ m ∧ m ≤ 9223372036854775807 := by
  simp only [ShapeV, Tryz.underlying3] at h
  obtain ⟨m, hm, hx⟩ := shape_int Tryz.underlying3 h
  exact ⟨m, by simpa using hx, wf_i64 hm⟩
end Go.Proofs.YtbiilpbhkfgfaaaGreatDoor.V

/-
  WholeTells: for every input the law returns true, and the input reads as it did; the tables and errors of Go's library that it reads hold what the program's text lays (tied).
-/
set_option maxRecDepth 100000
set_option maxHeartbeats 4000000
namespace Go.Proofs.YtbiilpbhkfgfaaaGreatDoor
open Go.ChangeShapes Go.WideShapes Go.ChangeAt Go.RowKit

theorem star : "*" ++ "errors.errorString" = "*errors.errorString" := by decide
theorem rowStar (u : TypeId) (h : Tryz.prog.typeName? 3 u = some "*errors.errorString") : u = 161 :=
  typeName_ptr_named (nm := "errors.errorString") (by rw [star]; kernel_rfl) (by kernel_rfl) (by decide) u (by rw [star]; exact h)
theorem pow10_data {H : Type} : (Rows.laid_internal_strconv_uint64pow10 : DataW H) = Lib.tabData .u64 Lib.pow10Tab := rfl
theorem gl_of {W : World} (h : laidMetH Tryz.prog Rows.wholeTellsRow.laid W) : V.Gl W := by
  rw [MakeChecks.laidMetH_plain _ _ _ (by kernel_rfl)] at h
  have h3 : laidMet Tryz.prog (("internal/strconv.uint64pow10", Lib.tabData .u64 Lib.pow10Tab) :: [("strconv.ErrRange", Rows.laid_strconv_ErrRange), ("strconv.ErrSyntax", Rows.laid_strconv_ErrSyntax)]) W := by
    rw [← pow10_data]
    exact laidMet.tail (laidMet.tail h)
  refine ⟨Lib.tabIs_of_head (g := 4) (t := 157) (e := 89) (n := 20) (by kernel_rfl) (by kernel_rfl) Tryz.underlying157 Tryz.underlying89 (by kernel_rfl) (by kernel_rfl) h3, ?_⟩
  have h4 := laidMet.tail h3
  obtain ⟨a, s, hv, _⟩ := laid_sentinel (g := 1) (ti := 66) (tp := 161) (te := 163) (ts := 9) h4 (by kernel_rfl) (by kernel_rfl) Tryz.underlying66 rowStar Tryz.underlying161 Tryz.underlying163 rfl rfl Tryz.underlying9 (by kernel_rfl) (by kernel_rfl)
  exact ⟨_, _, hv⟩
theorem door_met (os : Os) (args : Array Value) : laidMetH Tryz.prog Rows.wholeTellsRow.laid ((World.doorLaid Tryz.prog 400 os).forCall (fun _ _ => 0) ⟨#[], args, []⟩).memory :=
  laidMetH_of_parts3 (fuel := 8) (laidMet_of_run' 8 (by kernel_rfl) (by kernel_rfl)) (by kernel_rfl) (by kernel_rfl)

theorem tells_con : ∀ us : List V.D, us.length = Tryz.f3.params.size → (∀ (j : Nat) t a, Tryz.f3.params[j]? = some t → us[j]? = some a → V.ShapeV Tryz.prog 5 t a) → V.Con Tryz.prog 3 us (.sc (.bool true)) [] := by
  intro us hl h
  rw [Tryz.params3] at hl h
  obtain ⟨v0, v1, rfl⟩ := V.len2 hl
  obtain ⟨A, B, b, G, z, b', G', z', rfl, hA, hB, h1, h2, h3, h4⟩ := V.sh_two (h 0 27 v0 rfl rfl)
  obtain ⟨n, rfl, n1, n2⟩ := V.sh_int (h 1 3 v1 rfl rfl)
  exact V.cTells (Nat.le_trans hA (by decide)) (Nat.le_trans hB (by decide)) h2 h1 h4 h3 n1 n2

theorem tells_lifted (os : Os) (started : os.Started) (H : Type) (enc : TypeId × Value → H) :
    ReturnsInHanded {} Tryz.checked os 3 .any (fun w args => (Rows.wholeTellsSpec.pre enc Tryz.prog Tryz.f3 [] false w args ∧ laidMetH Tryz.prog Rows.wholeTellsRow.laid w) ∧ sizedMet enc Tryz.prog Tryz.f3 (OpenSpec.ofChange Rows.wholeTellsSpec) false w args)
      (Rows.wholeTellsSpec.post enc Tryz.prog Tryz.f3 false true false false) := by
  refine returnsInHanded_of_change_and (C := Tryz.checked) (X := fun w _ => laidMetH Tryz.prog Rows.wholeTellsRow.laid w) (fun _ _ _ hh h => h.of_heap hh) own started (by kernel_rfl) Tryz.func3
    (ChangeSpec.witness_shaped (enc := enc) (C := Tryz.checked) (os := os) (X := fun w _ => laidMetH Tryz.prog Rows.wholeTellsRow.laid w) false (World.doorLaid Tryz.prog 400 os) #[.agg #[.string ⟨#[]⟩, .string ⟨#[]⟩, .bool false, .slice none 0 0, .int .u16 0, .bool false, .slice none 0 0, .int .u16 0], .int .i64 0] 8 rfl (World.shaped_of_RefB (by kernel_rfl) (by kernel_rfl)) (by kernel_rfl) (by kernel_rfl) (by kernel_rfl) (door_met os _)) ?_
  intro W base args ds gs before hval hW _ _ hL _
  exact V.law_post (n := 5) kids full (by kernel_rfl) rfl Tryz.underlying4 rfl (fun ds hd => by obtain ⟨a, b, rfl⟩ := V.len2 hd; rfl) tells_con W (gl_of hL) base args ds gs before hval hW

theorem tells_over : Rows.wholeTellsRow.holds Tryz.pinned (OpenSpec.ofChange Rows.wholeTellsSpec) :=
  OpenClaim.holds_of_wide 3 Tryz.f3 rfl rfl rfl rfl rfl rfl rfl ⟨rfl, rfl, rfl, rfl, rfl⟩ rfl rfl rfl rfl rfl (by kernel_rfl) Tryz.func3 (by kernel_rfl)
    (of_decide_eq_true (by kernel_rfl)) (by unfold Func.isWrapper; first | (rw [if_pos (by decide +kernel)]; kernel_rfl) | (rw [if_neg (by decide +kernel)]; exact ⟨rfl, rfl⟩))
    (fun os started H enc _ => tells_lifted os started H enc)
theorem wholeTells_holds : Rows.WholeTellsCardSaid :=
  Claim7.holds_tied_plain_at .later [] [.data, .data, .data, .sentinel, .sentinel] true _ true
    tells_over (fun _ h => by cases h) (by kernel_rfl) (fun _ h => by cases h) wholeTells_row_tie rfl ⟨rfl, rfl⟩ (by kernel_rfl) rfl
    (fun f fn hf hfn => by
      obtain rfl : f = 3 := Option.some.inj ((show Tryz.prog.funcNamed "verdigris/verdigrislaw01.WholeTells" = some 3 by kernel_rfl).symm.trans hf) |>.symm
      obtain rfl : fn = Tryz.f3 := (Option.some.inj (Tryz.func3.symm.trans hfn)).symm
      exact ⟨by kernel_rfl, fun j t ht => by
        rw [Tryz.params3] at ht
        match j, ht with
        | 0, ht =>
          obtain rfl : t = 27 := by simpa using ht.symm
          exact (show Tryz.prog.wantsStandIn 27 = false by kernel_rfl)
        | 1, ht =>
          obtain rfl : t = 3 := by simpa using ht.symm
          exact (show Tryz.prog.wantsStandIn 3 = false by kernel_rfl)
        | j + 2, ht => simp at ht⟩)
    (by kernel_rfl)
end Go.Proofs.YtbiilpbhkfgfaaaGreatDoor

