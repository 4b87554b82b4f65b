/-
  What holds in every world of this seat's walks: what the tables of Go's library that are read hold.
-/
import Derived.BigCall
import Derived.BigGuard
import Derived.CellFam
import Derived.ChangeKeysEq
import Derived.JoinedCond
import Derived.Laws.Cover3
import Derived.Laws.Externs
import Derived.Laws.RangeAny
import Derived.Laws.StructEq
import Derived.Lib.AppendIntMem
import Derived.Lib.Hide
import Derived.Lib.ItoaMem
import Derived.Lib.ItoaNum
import Derived.Lib.ItoaWalk
import Derived.Lib.LaidTab
import Derived.Lib.Walk
import Derived.OpenShut
import Derived.OrdersIn
import Derived.OwnWalk
import Derived.ProofKit
import Derived.RangeFuncRecord
import Derived.ReadAgain
import Derived.Shelf.Bits.Mul64
import Derived.Shelf.GgClosure.StringsIndexFuncTop
import Derived.Shelf.Pu.ParseUintPublic10
import Derived.Shelf.Small.Bits
import Derived.Shelf.Strconv.AtoiAll
import Derived.Shelf.Strconv.ErrVarAll
import Derived.Shelf.Strconv.Itoa1
import Derived.Shelf.Strconv.Itoa2
import Derived.Shelf.Strings.Builder1
import Derived.Shelf.Strings.Prefix
import Derived.Shelf.Strings.Repeat
import Derived.Test.YtglnkfpmogaifaaGreatDoorProg
import Derived.WalkKit
set_option linter.unusedSimpArgs false
set_option linter.unusedVariables false
namespace Go.Proofs.YtglnkfpmogaifaaGreatDoor.V
open Go Go.Proofs

/-- The powers of ten are laid; the error of a number out of range is there. -/
def Gl (w : World) : Prop := Lib.TabIs Tryz.prog w "internal/strconv.uint64pow10" .u64 Lib.pow10Tab ∧ ∃ tp p, w.var? Tryz.prog "strconv.ErrRange" = some #[.iface tp p]
theorem var_keep {P : Program} {w w' : World} {n : String} {cs : Array Value} (h : w.var? P n = some cs) (hb : ∀ b, b < w.heap.size → w'.heap[b]? = w.heap[b]?) : w'.var? P n = some cs := by
  unfold World.var? at h ⊢
  cases hg : P.globalNamed n with
  | none => rw [hg] at h; exact h
  | some g =>
    rw [hg] at h
    simp only [Option.bind_some] at h ⊢
    cases hc : w.heap[g]? with
    | none => rw [hc] at h; cases h
    | some o =>
      rw [hb g (Array.getElem?_eq_some_iff.1 hc).1, hc]
      rw [hc] at h
      exact h
theorem Gl_keep {w w' : World} (h : Gl w) (hb : ∀ b, b < w.heap.size → w'.heap[b]? = w.heap[b]?) : Gl w' := by
  obtain ⟨h1, tp, p, h2⟩ := h
  exact ⟨var_keep h1 hb, tp, p, var_keep h2 hb⟩

end Go.Proofs.YtglnkfpmogaifaaGreatDoor.V

/-
  The abstract states of a logic for Go functions over the kit's fenced walk, and the relation that ties them to real worlds; how the relation is kept. No program is named here.
-/
namespace Go.Proofs.YtglnkfpmogaifaaGreatDoor.V
open Go Go.RowKit

/-- Abstract values. 'junk': nothing is known. 'sc': that very value. 'em': a slice of length and capacity 0 (nil too). 'sl': a slice that nobody writes any more, by its cells. 'sp': a pointer into memory that nobody writes any more. 'rf', 'pt': a slice, a pointer into an object of the state. -/
inductive D where
  | junk
  | sc (v : Value)
  | em
  | sl (len : Nat) (cells : List D)
  | sp (cells : List D) (off : Nat)
  | rf (id off len es : Nat)
  | pt (id off : Nat)
  | fn (f : Fn) (first caps : List D)
  | ag (cells : List D)
  | tp (vs : List D)
  deriving Inhabited

/-- Where an object lies: its block, how many cells the block has, and (of a slice's array) how many cells an element has. -/
structure Loc where
  blk : Nat
  size : Nat
  es : Nat
structure Ctx where
  μ : Nat → Option Loc
  I : Nat → Prop
  w : World
  M : Nat → Prop
structure O where
  cells : List D
  elem : TypeId
  es : Nat
  fz : Bool
abbrev Sg := Nat → Option O
structure St where
  t : Nat → D
  s : Sg
  nx : Nat
  ds : List Deferred
  n : Nat

mutual
def Vr (X : Ctx) : D → Value → Prop
  | .junk, _ => True
  | .sc s, v => v = s
  | .em, v => ∃ a, v = .slice a 0 0
  | .sl len cs, v => len ≤ maxLen ∧ ∃ a cap, v = .slice a len cap ∧ len ≤ cap ∧ (cs = [] ∨ ∃ b off, a = some ⟨b, off, none⟩ ∧ X.I b ∧ Cr X b off cs)
  | .sp cs off, v => ∃ b o, v = .pointer (some ⟨b, o + off, none⟩) ∧ X.I b ∧ Cr X b o cs
  | .rf id off len _, v => ∃ l cap, X.μ id = some l ∧ v = .slice (some ⟨l.blk, off, none⟩) len cap ∧ len ≤ cap ∧ cap ≤ maxLen ∧ (off = 0 → l.es ≠ 0 → cap * l.es = l.size)
  | .pt id off, v => ∃ l, X.μ id = some l ∧ v = .pointer (some ⟨l.blk, off, none⟩)
  | .fn f fs cs, v => ∃ xs ys, v = .func f xs ys ∧ Lr X fs xs.toList ∧ Lr X cs ys.toList
  | .ag cs, v => ∃ xs, v = .agg xs ∧ Lr X cs xs.toList
  | .tp cs, v => ∃ xs, v = .tuple xs ∧ Lr X cs xs.toList
def Lr (X : Ctx) : List D → List Value → Prop
  | [], vs => vs = []
  | d :: ds, vs => ∃ v r, vs = v :: r ∧ Vr X d v ∧ Lr X ds r
def Cr (X : Ctx) (b : Nat) (off : Nat) : List D → Prop
  | [] => True
  | d :: ds => (∃ u, X.w.cell? ⟨b, off, none⟩ = some u ∧ u.oneCell' = true ∧ Vr X d u) ∧ Cr X b (off + 1) ds
end

theorem Lr_length {X : Ctx} : ∀ {ds : List D} {vs : List Value}, Lr X ds vs → vs.length = ds.length
  | [], vs, h => by simp [Lr] at h; simp [h]
  | d :: ds, vs, h => by
    simp only [Lr] at h
    obtain ⟨v, r, rfl, _, h2⟩ := h
    simp [Lr_length h2]

theorem Lr_get {X : Ctx} : ∀ {ds : List D} {vs : List Value}, Lr X ds vs → ∀ (i : Nat) (d : D), ds[i]? = some d → ∃ v, vs[i]? = some v ∧ Vr X d v
  | [], _, _, i, d, hd => by simp at hd
  | d :: ds, vs, h, i, e, hd => by
    simp only [Lr] at h
    obtain ⟨v, r, rfl, h1, h2⟩ := h
    cases i with
    | zero => simp at hd; subst hd; exact ⟨v, by simp, h1⟩
    | succ i => simpa using Lr_get h2 i e (by simpa using hd)

theorem Lr_of_get {X : Ctx} : ∀ {ds : List D} {vs : List Value}, vs.length = ds.length → (∀ (i : Nat) (d : D) (v : Value), ds[i]? = some d → vs[i]? = some v → Vr X d v) → Lr X ds vs
  | [], vs, hl, _ => by simp only [Lr]; simpa using hl
  | d :: ds, vs, hl, h => by
    cases vs with
    | nil => simp at hl
    | cons v r =>
      simp only [Lr]
      exact ⟨v, r, rfl, h 0 d v (by simp) (by simp), Lr_of_get (by simpa using hl) fun i e u he hu => h (i + 1) e u (by simpa using he) (by simpa using hu)⟩

theorem Cr_iff {X : Ctx} {b : Nat} : ∀ {ds : List D} {off : Nat}, Cr X b off ds ↔ ∀ (i : Nat) (d : D), ds[i]? = some d → ∃ u, X.w.cell? ⟨b, off + i, none⟩ = some u ∧ u.oneCell' = true ∧ Vr X d u
  | [], off => by simp [Cr]
  | d :: ds, off => by
    simp only [Cr, Cr_iff (ds := ds)]
    constructor
    · rintro ⟨h1, h2⟩ i e he
      cases i with
      | zero => simp at he; subst he; simpa using h1
      | succ i => have := h2 i e (by simpa using he); rwa [show off + 1 + i = off + (i + 1) by omega] at this
    · intro h
      refine ⟨by simpa using h 0 d (by simp), fun i e he => ?_⟩
      have := h (i + 1) e (by simpa using he)
      rwa [show off + (i + 1) = off + 1 + i by omega] at this

theorem Lr_append {X : Ctx} : ∀ {ds : List D} {vs : List Value} {es : List D} {us : List Value}, Lr X ds vs → Lr X es us → Lr X (ds ++ es) (vs ++ us)
  | [], vs, es, us, h, h' => by simp only [Lr] at h; subst h; simpa using h'
  | d :: ds, vs, es, us, h, h' => by
    simp only [Lr] at h
    obtain ⟨v, r, rfl, h1, h2⟩ := h
    simp only [List.cons_append, Lr]
    exact ⟨v, r ++ us, rfl, h1, Lr_append h2 h'⟩

/-- From one context to a later one: names keep their blocks, what is quiet stays quiet and as it is. -/
structure Later (X Y : Ctx) : Prop where
  μ : ∀ id l, X.μ id = some l → Y.μ id = some l
  I : ∀ b, X.I b → Y.I b
  cell : ∀ b, X.I b → Y.w.heap[b]? = X.w.heap[b]?

theorem Later.refl (X : Ctx) : Later X X := ⟨fun _ _ h => h, fun _ h => h, fun _ _ => rfl⟩
theorem Later.trans {X Y Z : Ctx} (h : Later X Y) (k : Later Y Z) : Later X Z :=
  ⟨fun i l e => k.μ i l (h.μ i l e), fun b e => k.I b (h.I b e), fun b e => (k.cell b (h.I b e)).trans (h.cell b e)⟩

mutual
theorem Vr_later {X Y : Ctx} (L : Later X Y) : ∀ (d : D) {v : Value}, Vr X d v → Vr Y d v
  | .junk, _, _ => by simp [Vr]
  | .sc s, _, h => by simpa [Vr] using h
  | .em, _, h => by simpa [Vr] using h
  | .sl len cs, _, h => by
    simp only [Vr] at h ⊢
    obtain ⟨h0, a, cap, hv, hc, h⟩ := h
    refine ⟨h0, a, cap, hv, hc, ?_⟩
    rcases h with h | ⟨b, off, ha, hb, hcr⟩
    · exact .inl h
    · exact .inr ⟨b, off, ha, L.I b hb, Cr_later L hb cs off hcr⟩
  | .sp cs off, _, h => by
    simp only [Vr] at h ⊢
    obtain ⟨b, o, hv, hb, hcr⟩ := h
    exact ⟨b, o, hv, L.I b hb, Cr_later L hb cs o hcr⟩
  | .rf id off len _, _, h => by
    simp only [Vr] at h ⊢
    obtain ⟨l, cap, hl, r⟩ := h
    exact ⟨l, cap, L.μ _ _ hl, r⟩
  | .pt id off, _, h => by
    simp only [Vr] at h ⊢
    obtain ⟨l, hl, r⟩ := h
    exact ⟨l, L.μ _ _ hl, r⟩
  | .fn f fs cs, _, h => by
    simp only [Vr] at h ⊢
    obtain ⟨xs, ys, hv, h1, h2⟩ := h
    exact ⟨xs, ys, hv, Lr_later L fs h1, Lr_later L cs h2⟩
  | .ag cs, _, h => by
    simp only [Vr] at h ⊢
    obtain ⟨xs, hv, h1⟩ := h
    exact ⟨xs, hv, Lr_later L cs h1⟩
  | .tp cs, _, h => by
    simp only [Vr] at h ⊢
    obtain ⟨xs, hv, h1⟩ := h
    exact ⟨xs, hv, Lr_later L cs h1⟩
theorem Lr_later {X Y : Ctx} (L : Later X Y) : ∀ (ds : List D) {vs : List Value}, Lr X ds vs → Lr Y ds vs
  | [], _, h => by simpa [Lr] using h
  | d :: ds, _, h => by
    simp only [Lr] at h ⊢
    obtain ⟨v, r, hv, h1, h2⟩ := h
    exact ⟨v, r, hv, Vr_later L d h1, Lr_later L ds h2⟩
theorem Cr_later {X Y : Ctx} (L : Later X Y) {b : Nat} (hb : X.I b) : ∀ (ds : List D) (off : Nat), Cr X b off ds → Cr Y b off ds
  | [], _, _ => by simp [Cr]
  | d :: ds, off, h => by
    simp only [Cr] at h ⊢
    obtain ⟨⟨u, hu, h1, h2⟩, h3⟩ := h
    refine ⟨⟨u, ?_, h1, Vr_later L d h2⟩, Cr_later L hb ds (off + 1) h3⟩
    rw [← hu]
    simp only [World.cell?, L.cell b hb]
end

/-- An object lies in its block. -/
def Or (X : Ctx) (l : Loc) (o : O) : Prop :=
  ∃ cur, X.w.heap[l.blk]? = some (.cells cur o.elem (0, 0)) ∧ cur.size = l.size ∧ o.es = l.es ∧ o.cells.length ≤ cur.size ∧
    ∀ (i : Nat) (d : D), o.cells[i]? = some d → ∃ u, cur[i]? = some u ∧ u.oneCell' = true ∧ Vr X d u

/-- What a function's surroundings ask: 'inv', of the blocks that the surroundings themselves may turn ('M') and the world; it stays as long as those blocks and all below 'base' stay. -/
structure Env where
  base : Nat
  inv : (Nat → Prop) → World → Prop
  keep : ∀ (M : Nat → Prop) (w w' : World), inv M w → w'.os = w.os → w'.tape = w.tape → w'.output = w.output → w.heap.size ≤ w'.heap.size →
    (∀ b, b < w.heap.size → (b < base ∨ M b) → w'.heap[b]? = w.heap[b]?) → inv M w'
  gl : ∀ (M : Nat → Prop) (w : World), inv M w → Gl w
structure Envd (E : Env) (X : Ctx) : Prop where
  inv : E.inv X.M X.w
  base : E.base ≤ X.w.heap.size
  Mbd : ∀ b, X.M b → b < X.w.heap.size
theorem Envd.move {E : Env} {X : Ctx} (h : Envd E X) {w' : World} (h1 : w'.os = X.w.os) (h2 : w'.tape = X.w.tape) (h3 : w'.output = X.w.output) (h4 : X.w.heap.size ≤ w'.heap.size)
    (h5 : ∀ b, b < X.w.heap.size → (b < E.base ∨ X.M b) → w'.heap[b]? = X.w.heap[b]?) {μ : Nat → Option Loc} {I : Nat → Prop} : Envd E ⟨μ, I, w', X.M⟩ :=
  ⟨E.keep X.M X.w w' h.inv h1 h2 h3 h4 h5, Nat.le_trans h.base h4, fun b hb => Nat.lt_of_lt_of_le (h.Mbd b hb) h4⟩
theorem Envd.below {E : Env} {X : Ctx} (h : Envd E X) {w' : World} (hb : Below X.w.heap.size X.w w') {μ : Nat → Option Loc} {I : Nat → Prop} : Envd E ⟨μ, I, w', X.M⟩ :=
  h.move hb.os hb.tape hb.output hb.size fun b hlt _ => hb.block b hlt
/-- A block of the function's own. -/
def Mine (E : Env) (X : Ctx) (b : Nat) : Prop := E.base ≤ b ∧ ¬ X.M b

structure Sim (E : Env) (X : Ctx) (s : Sg) : Prop where
  env : Envd E X
  objs : ∀ id o, s id = some o → ∃ l, X.μ id = some l ∧ Or X l o ∧ Mine E X l.blk
  dom : ∀ id, X.μ id = none → s id = none
  inj : ∀ i j oi oj li lj, s i = some oi → s j = some oj → X.μ i = some li → X.μ j = some lj → li.blk = lj.blk → i = j
  notI : ∀ id o l, s id = some o → X.μ id = some l → (X.I l.blk ↔ o.fz = true)
  Ibd : ∀ b, X.I b → b < X.w.heap.size
  IM : ∀ b, X.I b → ¬ X.M b

/-- A block that the state may still write. -/
def Live (X : Ctx) (s : Sg) (b : Nat) : Prop := ∃ id o l, s id = some o ∧ o.fz = false ∧ X.μ id = some l ∧ l.blk = b

structure Step (X : Ctx) (s : Sg) (Y : Ctx) (s' : Sg) : Prop where
  μ : ∀ id l, X.μ id = some l → Y.μ id = some l
  I : ∀ b, X.I b → Y.I b
  size : X.w.heap.size ≤ Y.w.heap.size
  frame : ∀ b, b < X.w.heap.size → ¬ Live X s b → ¬ X.M b → Y.w.heap[b]? = X.w.heap[b]?
  live : ∀ b, Live Y s' b → X.w.heap.size ≤ b ∨ Live X s b
  newI : ∀ b, Y.I b → X.I b ∨ X.w.heap.size ≤ b ∨ Live X s b
  newM : ∀ b, Y.M b → X.M b ∨ X.w.heap.size ≤ b

theorem Step.refl (X : Ctx) (s : Sg) : Step X s X s :=
  ⟨fun _ _ h => h, fun _ h => h, Nat.le_refl _, fun _ _ _ _ => rfl, fun _ h => .inr h, fun _ h => .inl h, fun _ h => .inl h⟩

theorem Step.trans {X Y Z : Ctx} {s s' s'' : Sg} (h : Step X s Y s') (k : Step Y s' Z s'') : Step X s Z s'' where
  μ := fun i l e => k.μ i l (h.μ i l e)
  I := fun b e => k.I b (h.I b e)
  size := Nat.le_trans h.size k.size
  frame := fun b hb hn hm => (k.frame b (Nat.lt_of_lt_of_le hb h.size) (fun hl => by
    rcases h.live b hl with h1 | h1
    · omega
    · exact hn h1) (fun hl => by
    rcases h.newM b hl with h1 | h1
    · exact hm h1
    · omega)).trans (h.frame b hb hn hm)
  newM := fun b hb => by
    rcases k.newM b hb with h1 | h1
    · exact h.newM b h1
    · exact .inr (Nat.le_trans h.size h1)
  live := fun b hb => by
    rcases k.live b hb with h1 | h1
    · exact .inl (Nat.le_trans h.size h1)
    · exact h.live b h1
  newI := fun b hb => by
    rcases k.newI b hb with h1 | h1 | h1
    · exact h.newI b h1
    · exact .inr (.inl (Nat.le_trans h.size h1))
    · rcases h.live b h1 with h2 | h2
      · exact .inr (.inl h2)
      · exact .inr (.inr h2)

theorem Sim.notLive {E : Env} {X : Ctx} {s : Sg} (h : Sim E X s) {b : Nat} (hb : X.I b) : ¬ Live X s b := by
  rintro ⟨id, o, l, h1, h2, h3, rfl⟩
  have := (h.notI id o l h1 h3).1 hb
  rw [h2] at this; cases this

theorem Step.later {E : Env} {X Y : Ctx} {s s' : Sg} (h : Step X s Y s') (hs : Sim E X s) : Later X Y :=
  ⟨h.μ, h.I, fun b hb => h.frame b (hs.Ibd b hb) (hs.notLive hb) (hs.IM b hb)⟩

/-- Temporaries. -/
def Tr (X : Ctx) (t : Nat → D) (tmps : Array Value) : Prop := ∀ k, Vr X (t k) (tmps.getD k undef)
theorem Tr.later {X Y : Ctx} {t : Nat → D} {tmps : Array Value} (h : Tr X t tmps) (L : Later X Y) : Tr Y t tmps := fun k => Vr_later L _ (h k)

def upd {α : Type} (f : Nat → α) (k : Nat) (v : α) : Nat → α := fun j => if j = k then v else f j
@[simp] theorem upd_same {α : Type} (f : Nat → α) (k : Nat) (v : α) : upd f k v k = v := by simp [upd]
theorem upd_other {α : Type} (f : Nat → α) {k j : Nat} (v : α) (h : j ≠ k) : upd f k v j = f j := by simp [upd, h]

theorem Tr.put {X : Ctx} {t : Nat → D} {tmps : Array Value} (h : Tr X t tmps) {k : Nat} {d : D} {v : Value} (hv : Vr X d v) (hk : k < tmps.size) : Tr X (upd t k d) (tmps.setIfInBounds k v) := by
  intro j
  unfold upd
  by_cases hj : j = k
  · subst hj
    simp only [if_true]
    rw [Array.getD_eq_getD_getElem?, Array.getElem?_setIfInBounds_self_of_lt hk]
    exact hv
  · rw [if_neg hj]
    rw [Array.getD_eq_getD_getElem?, Array.getElem?_setIfInBounds_ne (by omega), ← Array.getD_eq_getD_getElem?]
    exact h j

end Go.Proofs.YtglnkfpmogaifaaGreatDoor.V

/-
  The moves of an abstract state: a new object, a write, freezing, forgetting, what grows beside it.
-/
namespace Go.Proofs.YtglnkfpmogaifaaGreatDoor.V
open Go Go.RowKit

theorem Or.later {X Y : Ctx} {l : Loc} {o : O} (h : Or X l o) (L : Later X Y) (hb : Y.w.heap[l.blk]? = X.w.heap[l.blk]?) : Or Y l o := by
  obtain ⟨cur, h1, h2, h2', h3, h4⟩ := h
  refine ⟨cur, hb.trans h1, h2, h2', h3, fun i d hd => ?_⟩
  obtain ⟨u, hu, ho, hv⟩ := h4 i d hd
  exact ⟨u, hu, ho, Vr_later L d hv⟩

theorem Or.lt {X : Ctx} {l : Loc} {o : O} (h : Or X l o) : l.blk < X.w.heap.size := by
  obtain ⟨cur, h1, _⟩ := h
  exact (Array.getElem?_eq_some_iff.1 h1).1

/-- The world moves on, nothing of what is known turns (draws; blocks of others). -/
theorem Sim.world {E : Env} {X : Ctx} {s : Sg} (h : Sim E X s) {w' : World} (hb : Below X.w.heap.size X.w w') :
    Sim E { X with w := w' } s ∧ Step X s { X with w := w' } s := by
  have L : Later X { X with w := w' } := ⟨fun _ _ e => e, fun _ e => e, fun b e => hb.block b (h.Ibd b e)⟩
  refine ⟨⟨h.env.below hb, fun id o ho => ?_, h.dom, h.inj, h.notI, fun b e => Nat.lt_of_lt_of_le (h.Ibd b e) hb.size, h.IM⟩, ⟨fun _ _ e => e, fun _ e => e, hb.size, fun b e _ _ => hb.block b e, fun _ e => .inr e, fun _ e => .inl e, fun _ e => .inl e⟩⟩
  obtain ⟨l, h1, h2, h3⟩ := h.objs id o ho
  exact ⟨l, h1, h2.later L (hb.block _ h2.lt), h3⟩

theorem below_drew' (w : World) : Below w.heap.size w w.drew := (Below.refl _ _).drew

/-- More blocks become quiet: such as are new, or no object's. -/
theorem Sim.quiet {E : Env} {X : Ctx} {s : Sg} (h : Sim E X s) (J : Nat → Prop) (hJ : ∀ b, J b → b < X.w.heap.size) (hn : ∀ b id o l, J b → s id = some o → X.μ id = some l → l.blk ≠ b) (hM : ∀ b, J b → ¬ X.M b) :
    Sim E { X with I := fun b => X.I b ∨ J b } s := by
  have L : Later X { X with I := fun b => X.I b ∨ J b } := ⟨fun _ _ e => e, fun _ e => .inl e, fun b e => rfl⟩
  refine ⟨⟨h.env.inv, h.env.base, h.env.Mbd⟩, fun id o ho => ?_, h.dom, h.inj, fun id o l ho hl => ?_, fun b e => e.elim (h.Ibd b) (hJ b), fun b e => e.elim (h.IM b) (hM b)⟩
  · obtain ⟨l, h1, h2, h3⟩ := h.objs id o ho
    exact ⟨l, h1, h2.later L rfl, h3⟩
  · rw [← h.notI id o l ho hl]
    constructor
    · rintro (e | e)
      · exact e
      · exact (hn _ id o l e ho hl rfl).elim
    · exact fun e => .inl e

/-- A new object in a new block. -/
def Ctx.new (X : Ctx) (nx : Nat) (cur : Array Value) (e : TypeId) (es : Nat) : Ctx :=
  { μ := upd X.μ nx (some ⟨X.w.heap.size, cur.size, es⟩), I := X.I, w := X.w.alloc (.cells cur e), M := X.M }
def Sg.new (s : Sg) (nm : Nat) (ds : List D) (e : TypeId) (es : Nat) : Sg := upd s nm (some ⟨ds, e, es, false⟩)

theorem later_new {E : Env} {X : Ctx} {s : Sg} (h : Sim E X s) {nm : Nat} (hf : X.μ nm = none) (cur : Array Value) (e : TypeId) (es : Nat) : Later X (X.new nm cur e es) := by
  refine ⟨fun id l hl => ?_, fun _ e => e, fun b hb => Below.heap_alloc _ _ _ (h.Ibd b hb)⟩
  show upd X.μ nm _ id = some l
  rw [upd_other]
  · exact hl
  · intro e; subst e; rw [hf] at hl; cases hl

theorem Sim.new {E : Env} {X : Ctx} {s : Sg} (h : Sim E X s) {nm : Nat} (hf : X.μ nm = none) (cur : Array Value) (e : TypeId) (es : Nat) (ds : List D)
    (hl : ds.length ≤ cur.size) (hds : ∀ (i : Nat) (d : D), ds[i]? = some d → ∃ u, cur[i]? = some u ∧ u.oneCell' = true ∧ Vr X d u) :
    Sim E (X.new nm cur e es) (s.new nm ds e es) ∧ Step X s (X.new nm cur e es) (s.new nm ds e es) := by
  have L := later_new h hf cur e es
  have hnew : (X.new nm cur e es).w.heap[X.w.heap.size]? = some (.cells cur e (0, 0)) := World.alloc_heap_new _ _
  refine ⟨⟨h.env.below ((Below.refl _ _).alloc (Nat.le_refl _) _), fun id o ho => ?_, fun id hid => ?_, ?_, ?_, fun b hb => ?_, h.IM⟩, ⟨L.μ, L.I, by simp [Ctx.new], fun b hb _ _ => Below.heap_alloc _ _ _ hb, ?_, fun b hb => .inl hb, fun b hb => .inl hb⟩⟩
  · by_cases hid : id = nm
    · subst hid
      simp only [Sg.new, upd_same, Option.some.injEq] at ho
      subst ho
      refine ⟨⟨X.w.heap.size, cur.size, es⟩, by simp [Ctx.new], ⟨cur, hnew, rfl, rfl, hl, fun i d hd => ?_⟩, h.env.base, fun hM => Nat.lt_irrefl _ (h.env.Mbd _ hM)⟩
      obtain ⟨u, hu, ho, hv⟩ := hds i d hd
      exact ⟨u, hu, ho, Vr_later L d hv⟩
    · simp only [Sg.new, upd_other _ _ hid] at ho
      obtain ⟨l, h1, h2, h3⟩ := h.objs id o ho
      exact ⟨l, L.μ _ _ h1, h2.later L (Below.heap_alloc _ _ _ h2.lt), h3⟩
  · have hne : id ≠ nm := by rintro rfl; simp [Ctx.new] at hid
    have h' : X.μ id = none := by simpa [Ctx.new, upd_other _ _ hne] using hid
    simpa [Sg.new, upd_other _ _ hne] using h.dom id h'
  · intro i j oi oj li lj hi hj hli hlj hb
    by_cases ei : i = nm <;> by_cases ej : j = nm
    · omega
    · subst ei
      simp only [Ctx.new, upd_same, Option.some.injEq] at hli
      simp only [Sg.new, upd_other _ _ ej] at hj
      simp only [Ctx.new, upd_other _ _ ej] at hlj
      obtain ⟨l, h1, h2, h3⟩ := h.objs j oj hj
      rw [h1] at hlj; cases hlj
      have := h2.lt
      subst hli
      simp only at hb
      omega
    · subst ej
      simp only [Ctx.new, upd_same, Option.some.injEq] at hlj
      simp only [Sg.new, upd_other _ _ ei] at hi
      simp only [Ctx.new, upd_other _ _ ei] at hli
      obtain ⟨l, h1, h2, h3⟩ := h.objs i oi hi
      rw [h1] at hli; cases hli
      have := h2.lt
      subst hlj
      simp only at hb
      omega
    · simp only [Sg.new, upd_other _ _ ei] at hi
      simp only [Ctx.new, upd_other _ _ ei] at hli
      simp only [Sg.new, upd_other _ _ ej] at hj
      simp only [Ctx.new, upd_other _ _ ej] at hlj
      exact h.inj i j oi oj li lj hi hj hli hlj hb
  · intro id o l ho hl'
    by_cases hid : id = nm
    · subst hid
      simp only [Sg.new, upd_same, Option.some.injEq] at ho
      simp only [Ctx.new, upd_same, Option.some.injEq] at hl'
      subst ho hl'
      simp only [Ctx.new, Bool.false_eq_true, iff_false]
      intro hI
      have := h.Ibd _ hI
      omega
    · simp only [Sg.new, upd_other _ _ hid] at ho
      simp only [Ctx.new, upd_other _ _ hid] at hl'
      exact h.notI id o l ho hl'
  · have := h.Ibd b hb
    simp only [Ctx.new, World.size_alloc]
    omega
  · rintro b ⟨id, o, l, h1, h2, h3, rfl⟩
    by_cases hid : id = nm
    · subst hid
      simp only [Ctx.new, upd_same, Option.some.injEq] at h3
      subst h3
      exact .inl (Nat.le_refl _)
    · simp only [Sg.new, upd_other _ _ hid] at h1
      simp only [Ctx.new, upd_other _ _ hid] at h3
      exact .inr ⟨id, o, l, h1, h2, h3, rfl⟩

/-- An object is written. -/
def Sg.write (s : Sg) (id : Nat) (ds : List D) (e : TypeId) (es : Nat) : Sg := upd s id (some ⟨ds, e, es, false⟩)

theorem Sim.write {E : Env} {X : Ctx} {s : Sg} (h : Sim E X s) {id : Nat} {o : O} {l : Loc} (ho : s id = some o) (hfz : o.fz = false) (hl : X.μ id = some l) (w' : World) (cur : Array Value) (ds : List D)
    (hos : w'.os = X.w.os) (htape : w'.tape = X.w.tape) (hout : w'.output = X.w.output) (hsize : w'.heap.size = X.w.heap.size) (hother : ∀ b, b ≠ l.blk → w'.heap[b]? = X.w.heap[b]?)
    (hcur : w'.heap[l.blk]? = some (.cells cur o.elem (0, 0))) (hcs : cur.size = l.size) (hlen : ds.length ≤ cur.size)
    (hds : ∀ (i : Nat) (d : D), ds[i]? = some d → ∃ u, cur[i]? = some u ∧ u.oneCell' = true ∧ Vr X d u) :
    Sim E { X with w := w' } (s.write id ds o.elem o.es) ∧ Step X s { X with w := w' } (s.write id ds o.elem o.es) := by
  have hnI : ¬ X.I l.blk := fun e => by have := (h.notI id o l ho hl).1 e; rw [hfz] at this; cases this
  have L : Later X { X with w := w' } := ⟨fun _ _ e => e, fun _ e => e, fun b e => hother b (fun hb => hnI (hb ▸ e))⟩
  obtain ⟨l', hl', hor, hblk⟩ := h.objs id o ho
  rw [hl] at hl'; cases hl'
  have hes : o.es = l.es := by obtain ⟨_, _, _, he, _⟩ := hor; exact he
  refine ⟨⟨h.env.move hos htape hout (by omega) (fun b _ hb => hother b (fun e => by subst e; rcases hb with hb | hb; exact absurd hb (by have := hblk.1; omega); exact hblk.2 hb)), fun i oi hoi => ?_, ?_, ?_, ?_, fun b hb => ?_, h.IM⟩, ⟨L.μ, L.I, by show X.w.heap.size ≤ w'.heap.size; omega, fun b hb hn _ => hother b (fun e => hn ⟨id, o, l, ho, hfz, hl, e.symm⟩), ?_, fun b hb => .inl hb, fun b hb => .inl hb⟩⟩
  · by_cases hid : i = id
    · subst hid
      simp only [Sg.write, upd_same, Option.some.injEq] at hoi
      subst hoi
      refine ⟨l, hl, ⟨cur, hcur, hcs, hes, hlen, fun j d hd => ?_⟩, hblk⟩
      obtain ⟨u, hu, ho', hv⟩ := hds j d hd
      exact ⟨u, hu, ho', Vr_later L d hv⟩
    · simp only [Sg.write, upd_other _ _ hid] at hoi
      obtain ⟨li, h1, h2, h3⟩ := h.objs i oi hoi
      exact ⟨li, h1, h2.later L (hother _ (fun e => hid (h.inj i id oi o li l hoi ho h1 hl e))), h3⟩
  · intro i hi
    have hne : i ≠ id := by rintro rfl; rw [h.dom _ hi] at ho; cases ho
    simpa [Sg.write, upd_other _ _ hne] using h.dom i hi
  · intro i j oi oj li lj hi hj hli hlj hb
    have key : ∀ k ok, (s.write id ds o.elem o.es) k = some ok → ∃ ok', s k = some ok' := by
      intro k ok hk
      by_cases e : k = id
      · subst e; exact ⟨o, ho⟩
      · exact ⟨ok, by simpa [Sg.write, upd_other _ _ e] using hk⟩
    obtain ⟨oi', hi'⟩ := key i oi hi
    obtain ⟨oj', hj'⟩ := key j oj hj
    exact h.inj i j oi' oj' li lj hi' hj' hli hlj hb
  · intro i oi li hoi hli
    by_cases hid : i = id
    · subst hid
      simp only [Sg.write, upd_same, Option.some.injEq] at hoi
      subst hoi
      have hli' : X.μ i = some li := hli
      rw [hl] at hli'; cases hli'
      simpa using hnI
    · simp only [Sg.write, upd_other _ _ hid] at hoi
      exact h.notI i oi li hoi hli
  · have := h.Ibd b hb
    show b < w'.heap.size
    omega
  · rintro b ⟨i, oi, li, h1, h2, h3, rfl⟩
    by_cases hid : i = id
    · subst hid
      have h3' : X.μ i = some li := h3
      rw [hl] at h3'; cases h3'
      exact .inr ⟨i, o, l, ho, hfz, hl, rfl⟩
    · simp only [Sg.write, upd_other _ _ hid] at h1
      exact .inr ⟨i, oi, li, h1, h2, h3, rfl⟩

/-- An object becomes quiet. -/
def Sg.frz (s : Sg) (id : Nat) : Sg := upd s id ((s id).map fun o => { o with fz := true })

theorem Sim.frz {E : Env} {X : Ctx} {s : Sg} (h : Sim E X s) {id : Nat} {o : O} {l : Loc} (ho : s id = some o) (hl : X.μ id = some l) :
    Sim E { X with I := fun b => X.I b ∨ b = l.blk } (s.frz id) ∧ Step X s { X with I := fun b => X.I b ∨ b = l.blk } (s.frz id) := by
  have L : Later X { X with I := fun b => X.I b ∨ b = l.blk } := ⟨fun _ _ e => e, fun _ e => .inl e, fun b e => rfl⟩
  obtain ⟨l', hl', hor, hblk⟩ := h.objs id o ho
  rw [hl] at hl'; cases hl'
  have key : ∀ k ok, (s.frz id) k = some ok → ∃ ok', s k = some ok' ∧ ok = (if k = id then { ok' with fz := true } else ok') := by
    intro k ok hk
    by_cases e : k = id
    · subst e
      simp only [Sg.frz, upd_same, ho, Option.map_some, Option.some.injEq] at hk
      exact ⟨o, ho, by simp [hk]⟩
    · exact ⟨ok, by simpa [Sg.frz, upd_other _ _ e] using hk, by simp [e]⟩
  refine ⟨⟨⟨h.env.inv, h.env.base, h.env.Mbd⟩, fun i oi hoi => ?_, ?_, ?_, ?_, ?_, fun b hb => hb.elim (h.IM b) (fun e => e ▸ hblk.2)⟩, ⟨L.μ, L.I, Nat.le_refl _, fun _ _ _ _ => rfl, ?_, fun b hb => ?_, fun b hb => .inl hb⟩⟩
  · obtain ⟨o', ho', e⟩ := key i oi hoi
    obtain ⟨li, h1, h2, h3⟩ := h.objs i o' ho'
    refine ⟨li, h1, ?_, h3⟩
    have h2' := h2.later L rfl
    subst e
    split <;> exact h2'
  · intro i hi
    cases hh : (s.frz id) i with
    | none => rfl
    | some ok => obtain ⟨o', ho', _⟩ := key i ok hh; rw [h.dom i hi] at ho'; cases ho'
  · intro i j oi oj li lj hi hj hli hlj hb
    obtain ⟨oi', hi', _⟩ := key i oi hi
    obtain ⟨oj', hj', _⟩ := key j oj hj
    exact h.inj i j oi' oj' li lj hi' hj' hli hlj hb
  · intro i oi li hoi hli
    obtain ⟨o', ho', e⟩ := key i oi hoi
    have h1 := h.notI i o' li ho' hli
    by_cases hid : i = id
    · subst hid
      have hli' : X.μ i = some li := hli
      rw [hl] at hli'; cases hli'
      subst e
      simp
    · simp only [hid, if_false] at e
      subst e
      show (X.I li.blk ∨ li.blk = l.blk) ↔ _
      rw [← h1]
      constructor
      · rintro (e | e)
        · exact e
        · exact (hid (h.inj i id oi o li l ho' ho hli hl e)).elim
      · exact .inl
  · rintro b (hb | rfl)
    · exact h.Ibd b hb
    · exact hor.lt
  · rintro b ⟨i, oi, li, h1, h2, h3, rfl⟩
    obtain ⟨o', ho', e⟩ := key i oi h1
    refine .inr ⟨i, o', li, ho', ?_, h3, rfl⟩
    subst e
    split at h2
    · cases h2
    · exact h2
  · rcases hb with hb | rfl
    · exact .inl hb
    · by_cases hf : o.fz = true
      · exact .inl ((h.notI id o l ho hl).2 hf)
      · exact .inr (.inr ⟨id, o, l, ho, by simpa using hf, hl, rfl⟩)

/-- An object is forgotten. -/
def Sg.drop (s : Sg) (id : Nat) : Sg := upd s id none

theorem Sim.drop {E : Env} {X : Ctx} {s : Sg} (h : Sim E X s) (id : Nat) : Sim E X (s.drop id) ∧ Step X s X (s.drop id) := by
  have key : ∀ k ok, (s.drop id) k = some ok → s k = some ok := by
    intro k ok hk
    by_cases e : k = id
    · subst e; simp [Sg.drop] at hk
    · simpa [Sg.drop, upd_other _ _ e] using hk
  refine ⟨⟨h.env, fun i oi hoi => h.objs i oi (key i oi hoi), ?_, ?_, fun i oi li hoi hli => h.notI i oi li (key i oi hoi) hli, h.Ibd, h.IM⟩, ⟨fun _ _ e => e, fun _ e => e, Nat.le_refl _, fun _ _ _ _ => rfl, ?_, fun _ e => .inl e, fun _ e => .inl e⟩⟩
  · intro i hi
    by_cases e : i = id
    · subst e; simp [Sg.drop]
    · simpa [Sg.drop, upd_other _ _ e] using h.dom i hi
  · exact fun i j oi oj li lj hi hj hli hlj hb => h.inj i j oi oj li lj (key _ _ hi) (key _ _ hj) hli hlj hb
  · rintro b ⟨i, oi, li, h1, h2, h3, rfl⟩
    exact .inr ⟨i, oi, li, key _ _ h1, h2, h3, rfl⟩

/-- A new name for a block that lies already, and is neither quiet nor any object's (behind an append in place: the old name is dropped first). -/
def Ctx.name (X : Ctx) (nx : Nat) (l : Loc) : Ctx := { X with μ := upd X.μ nx (some l) }

theorem Sim.name {E : Env} {X : Ctx} {s : Sg} (h : Sim E X s) {nm : Nat} (hf : X.μ nm = none) (l : Loc) (e : TypeId) (es : Nat) (ds : List D) (hor : Or X l ⟨ds, e, es, false⟩) (hw : Mine E X l.blk) (hI : ¬ X.I l.blk)
    (hno : ∀ id o l', s id = some o → X.μ id = some l' → l'.blk ≠ l.blk) : Sim E (X.name nm l) (s.new nm ds e es) := by
  have L : Later X (X.name nm l) := by
    refine ⟨fun id l' hl' => ?_, fun _ e => e, fun b hb => rfl⟩
    show upd X.μ nm _ id = some l'
    rw [upd_other]
    · exact hl'
    · intro e; subst e; rw [hf] at hl'; cases hl'
  refine ⟨⟨h.env.inv, h.env.base, h.env.Mbd⟩, fun id o ho => ?_, fun id hid => ?_, ?_, ?_, h.Ibd, h.IM⟩
  · by_cases hid : id = nm
    · subst hid
      simp only [Sg.new, upd_same, Option.some.injEq] at ho
      subst ho
      exact ⟨l, by simp [Ctx.name], hor.later L rfl, hw⟩
    · simp only [Sg.new, upd_other _ _ hid] at ho
      obtain ⟨l', h1, h2, h3⟩ := h.objs id o ho
      exact ⟨l', L.μ _ _ h1, h2.later L rfl, h3⟩
  · have hne : id ≠ nm := by rintro rfl; simp [Ctx.name] at hid
    have h' : X.μ id = none := by simpa [Ctx.name, upd_other _ _ hne] using hid
    simpa [Sg.new, upd_other _ _ hne] using h.dom id h'
  · intro i j oi oj li lj hi hj hli hlj hb
    by_cases ei : i = nm <;> by_cases ej : j = nm
    · omega
    · subst ei
      simp only [Ctx.name, upd_same, Option.some.injEq] at hli
      simp only [Sg.new, upd_other _ _ ej] at hj
      simp only [Ctx.name, upd_other _ _ ej] at hlj
      subst hli
      exact (hno j oj lj hj hlj hb.symm).elim
    · subst ej
      simp only [Ctx.name, upd_same, Option.some.injEq] at hlj
      simp only [Sg.new, upd_other _ _ ei] at hi
      simp only [Ctx.name, upd_other _ _ ei] at hli
      subst hlj
      exact (hno i oi li hi hli hb).elim
    · simp only [Sg.new, upd_other _ _ ei] at hi
      simp only [Ctx.name, upd_other _ _ ei] at hli
      simp only [Sg.new, upd_other _ _ ej] at hj
      simp only [Ctx.name, upd_other _ _ ej] at hlj
      exact h.inj i j oi oj li lj hi hj hli hlj hb
  · intro id o l' ho hl'
    by_cases hid : id = nm
    · subst hid
      simp only [Sg.new, upd_same, Option.some.injEq] at ho
      simp only [Ctx.name, upd_same, Option.some.injEq] at hl'
      subst ho hl'
      simpa [Ctx.name] using hI
    · simp only [Sg.new, upd_other _ _ hid] at ho
      simp only [Ctx.name, upd_other _ _ hid] at hl'
      exact h.notI id o l' ho hl'

end Go.Proofs.YtglnkfpmogaifaaGreatDoor.V

/-
  Operations that hand back a value and leave the world alone: what they hand back in an abstract state, and that the run does so.
-/
namespace Go.Proofs.YtglnkfpmogaifaaGreatDoor.V
open Go Go.RowKit

def ofV1 : Value → D
  | .slice none 0 0 => .em
  | .func f first caps => if first.isEmpty && caps.isEmpty then .fn f [] [] else .sc (.func f first caps)
  | v => .sc v
def ofV : Value → D
  | .agg cs => .ag (cs.toList.map ofV1)
  | v => ofV1 v
def ev (st : St) : Operand → D
  | .tmp k => st.t k
  | .const v => ofV v
  | .global g => .sc (.pointer (some ⟨g, 0, none⟩))
  | .func f => .fn (.func f) [] []

theorem ofV1_ok (X : Ctx) (v : Value) : Vr X (ofV1 v) v := by
  unfold ofV1
  split
  · simp [Vr]
  · rename_i f first caps
    split
    · rename_i h
      simp only [Bool.and_eq_true, Array.isEmpty_iff] at h
      simp [Vr, Lr, h.1, h.2]
    · simp [Vr]
  · simp [Vr]
theorem ofV_ok (X : Ctx) (v : Value) : Vr X (ofV v) v := by
  unfold ofV
  split
  · rename_i cs
    simp only [Vr]
    refine ⟨cs, rfl, Lr_of_get (by simp) fun i d u hd hu => ?_⟩
    simp only [List.getElem?_map, hu, Option.map_some, Option.some.injEq] at hd
    subst hd
    exact ofV1_ok X u
  · exact ofV1_ok X v

def Marks (E : Env) (X : Ctx) (ds : List Deferred) : Prop :=
  ds.Nodup ∧ ∀ d ∈ ds, ∃ k, d = { target := .collected k, args := #[] } ∧ X.w.heap[k]? = some (.deferred (some [])) ∧ Mine E X k ∧ ¬ X.I k

structure Good (E : Env) (X : Ctx) (st : St) (a : Act) : Prop where
  sim : Sim E X st.s
  tr : Tr X st.t a.tmps
  fr : ∀ id, st.nx ≤ id → X.μ id = none
  ds : a.defers = st.ds
  size : a.tmps.size = st.n
  marks : Marks E X st.ds

theorem Good.ev {E : Env} {X : Ctx} {st : St} {a : Act} (h : Good E X st a) (x : Operand) : Vr X (ev st x) (a.eval x) := by
  cases x with
  | tmp k => exact h.tr k
  | const v => exact ofV_ok X v
  | global g => simp [V.ev, Vr, Act.eval]
  | func f => simp [V.ev, Vr, Act.eval, Lr]

theorem Live.cells {E : Env} {X : Ctx} {s : Sg} (h : Sim E X s) {b : Nat} (hb : Live X s b) : ∃ c e f, X.w.heap[b]? = some (.cells c e f) := by
  obtain ⟨id, o, l, h1, h2, h3, rfl⟩ := hb
  obtain ⟨l', h4, ⟨cur, h5, _⟩, _⟩ := h.objs id o h1
  rw [h3] at h4; cases h4
  exact ⟨cur, o.elem, (0, 0), h5⟩

theorem Marks.step {E : Env} {X Y : Ctx} {s s' : Sg} {ds : List Deferred} (h : Marks E X ds) (hs : Sim E X s) (k : Step X s Y s') : Marks E Y ds := by
  refine ⟨h.1, fun d hd => ?_⟩
  obtain ⟨j, rfl, hj, hm, hI⟩ := h.2 d hd
  have hlt := (Array.getElem?_eq_some_iff.1 hj).1
  have hnl : ¬ Live X s j := fun hl => by
    obtain ⟨c, e, f, hc⟩ := hl.cells hs
    rw [hc] at hj; cases hj
  refine ⟨j, rfl, (k.frame j hlt hnl hm.2).trans hj, ⟨hm.1, fun hm' => ?_⟩, fun hi => ?_⟩
  · rcases k.newM j hm' with h1 | h1
    · exact hm.2 h1
    · omega
  · rcases k.newI j hi with h1 | h1 | h1
    · exact hI h1
    · omega
    · exact hnl h1

/-- What an operation does to a state: its value, the objects that turn, the names that it looked at, how many names it took. -/
structure Eff where
  d : D
  ws : List (Nat × Option O)
  rd : List Nat
  k : Nat

def Sg.app (s : Sg) (ws : List (Nat × Option O)) : Sg := ws.foldl (fun s p => upd s p.1 p.2) s
@[simp] theorem Sg.app_nil (s : Sg) : s.app [] = s := rfl
@[simp] theorem Sg.app_cons (s : Sg) (p : Nat × Option O) (ws : List (Nat × Option O)) : s.app (p :: ws) = Sg.app (upd s p.1 p.2) ws := rfl

def St.set (st : St) (d : Option Tmp) (v : D) : St :=
  match d with
  | some k => { st with t := upd st.t k v }
  | none => st
def St.eff (st : St) (d : Option Tmp) (f : Eff) : St := { st.set d f.d with s := st.s.app f.ws, nx := st.nx + f.k }
def St.fits (st : St) (d : Option Tmp) : Prop := ∀ k, d = some k → k < st.n

/-- Every function is let in; no bound on the depth; in the round of a range over a function, or in none. -/
def Fw (ro : Option Nat) : Fence := { Fence.wide with round := ro }

/-- An operation does so, at this state of the objects, under the names from 'nm' on. -/
def OpOk (P : Program) (o : Oper) (ρ : Operand → D) (s : Sg) (nm : Nat) (f : Eff) : Prop :=
  ∀ (E : Env) (ro : Option Nat) (m : Nat) (X : Ctx) (a : Act) (Q : Exit → Act → World → Prop), Sim E X s → (∀ x ∈ o.op.operands.toList, Vr X (ρ x) (a.eval x)) →
    (∀ id, nm ≤ id → id < nm + f.k → X.μ id = none) →
    o.wpIn (Fw ro) m P a X.w (fun a' w' => ∃ Y v, Y.w = w' ∧ a' = a.put o.dst v ∧ Sim E Y (s.app f.ws) ∧ Step X s Y (s.app f.ws) ∧ Vr Y f.d v ∧
      ∀ id, Y.μ id ≠ none → X.μ id ≠ none ∨ (nm ≤ id ∧ id < nm + f.k)) Q

/-- ... and at every state that is the same at the names that it looks at. -/
def OpL (P : Program) (o : Oper) (ρ : Operand → D) (s : Sg) (nm : Nat) (f : Eff) : Prop :=
  ∀ s' : Sg, (∀ id ∈ f.rd, s' id = s id) → OpOk P o ρ s' nm f

theorem wpIn_of_value {P : Program} {o : Oper} {a : Act} {w w' : World} {v : Value} {K : Act → World → Prop} {Q : Exit → Act → World → Prop} {ro : Option Nat} {m : Nat}
    (hnd : ∀ c, o.op ≠ .defer c) (hr : (execOp a.eval o).run P w = .ok (.value v) w') (h : K (a.put o.dst v) w') : o.wpIn (Fw ro) m P a w K Q := by
  refine ⟨fun _ _ => trivial, ?_⟩
  rw [Oper.semAt_eq _ _ _ hnd, hr]
  exact h
theorem wpIn_of_skip {P : Program} {o : Oper} {a : Act} {w w' : World} {K : Act → World → Prop} {Q : Exit → Act → World → Prop} {ro : Option Nat} {m : Nat}
    (hnd : ∀ c, o.op ≠ .defer c) (hr : (execOp a.eval o).run P w = .ok .skip w') (h : K (a.put o.dst undef) w') : o.wpIn (Fw ro) m P a w K Q := by
  refine ⟨fun _ _ => trivial, ?_⟩
  rw [Oper.semAt_eq _ _ _ hnd, hr]
  exact h

/-- A value, the world as it is. -/
theorem OpL.value {P : Program} {o : Oper} {ρ : Operand → D} {s : Sg} {nm : Nat} {d : D} (rd : List Nat) (hnd : ∀ c, o.op ≠ .defer c)
    (h : ∀ (E : Env) (X : Ctx) (s' : Sg) (a : Act), Sim E X s' → (∀ id ∈ rd, s' id = s id) → (∀ x ∈ o.op.operands.toList, Vr X (ρ x) (a.eval x)) → ∃ v, (execOp a.eval o).run P X.w = .ok (.value v) X.w ∧ Vr X d v) :
    OpL P o ρ s nm ⟨d, [], rd, 0⟩ := by
  intro s' hrd E ro m X a Q hs ho _
  obtain ⟨v, hr, hv⟩ := h E X s' a hs hrd ho
  exact wpIn_of_value hnd hr ⟨X, v, rfl, rfl, hs, Step.refl _ _, hv, fun id h => .inl h⟩

/-! ### arithmetic -/
def ibin (op : BinOp) (k : IntKind) (x y : Int) : Option D :=
  match op with
  | .add => some (.sc (.int k (k.wrap (x + y))))
  | .sub => some (.sc (.int k (k.wrap (x - y))))
  | .mul => some (.sc (.int k (k.wrap (x * y))))
  | .quo => if y = 0 then none else some (.sc (.int k (k.wrap (x.tdiv y))))
  | .rem => if y = 0 then none else some (.sc (.int k (x.tmod y)))
  | .and => some (.sc (.int k (k.wrap (BitVec.ofInt k.bits x &&& BitVec.ofInt k.bits y).toNat)))
  | .or => some (.sc (.int k (k.wrap (BitVec.ofInt k.bits x ||| BitVec.ofInt k.bits y).toNat)))
  | .xor => some (.sc (.int k (k.wrap (BitVec.ofInt k.bits x ^^^ BitVec.ofInt k.bits y).toNat)))
  | .eql => some (.sc (.bool (x == y)))
  | .neq => some (.sc (.bool (x != y)))
  | .lss => some (.sc (.bool (decide (x < y))))
  | .leq => some (.sc (.bool (decide (x ≤ y))))
  | .gtr => some (.sc (.bool (decide (x > y))))
  | .geq => some (.sc (.bool (decide (x ≥ y))))
  | _ => none
def shbin (op : BinOp) (k : IntKind) (x y : Int) : Option D :=
  match op with
  | .shl => if y < 0 then none else some (.sc (.int k (k.wrap (x * 2 ^ (min y.toNat k.bits)))))
  | .shr => if y < 0 then none else some (.sc (.int k (x.fdiv (2 ^ (min y.toNat k.bits)))))
  | _ => none
def sbin (op : BinOp) (x y : ByteArray) : Option D :=
  match op with
  | .add => if ((x.size + y.size : Nat) : Int) > IntKind.i64.max then none else some (.sc (.string (x ++ y)))
  | .eql => some (.sc (.bool (x.toList == y.toList)))
  | .neq => some (.sc (.bool !(x.toList == y.toList)))
  | .lss => some (.sc (.bool (Op.bytesLess x.toList y.toList)))
  | .leq => some (.sc (.bool (Op.bytesLess x.toList y.toList || x.toList == y.toList)))
  | .gtr => some (.sc (.bool !(Op.bytesLess x.toList y.toList || x.toList == y.toList)))
  | .geq => some (.sc (.bool !(Op.bytesLess x.toList y.toList)))
  | _ => none
def isShift : BinOp → Bool
  | .shl | .shr => true
  | _ => false

def vbin (P : Program) (op : BinOp) (t : TypeId) : D → D → Option D
  | .sc (.int k x), .sc (.int k' y) => if isShift op then shbin op k x y else if k = k' then ibin op k x y else none
  | .sc (.string x), .sc (.string y) => sbin op x y
  | .sc (.bool x), .sc (.bool y) =>
    match op, P.underlying t with
    | .eql, some .bool => some (.sc (.bool (x == y)))
    | .neq, some .bool => some (.sc (.bool (x != y)))
    | _, _ => none
  | _, _ => none

theorem run_eqGuard_int (P : Program) (w : World) (op : BinOp) (t : TypeId) (x y : Operand) (k k' : IntKind) (a b : Int) : (eqGuard op t x y (.int k a) (.int k' b)).run P w = .ok () w := by
  unfold eqGuard; split <;> rfl
theorem run_eqGuard_string (P : Program) (w : World) (op : BinOp) (t : TypeId) (x y : Operand) (a b : ByteArray) : (eqGuard op t x y (.string a) (.string b)).run P w = .ok () w := by
  unfold eqGuard; split <;> rfl
theorem run_eqGuard_bool (P : Program) (w : World) (op : BinOp) (t : TypeId) (x y : Operand) (a b : Bool) : (eqGuard op t x y (.bool a) (.bool b)).run P w = .ok () w := by
  unfold eqGuard; split <;> rfl

theorem Vr_sc {X : Ctx} {v : Value} : Vr X (.sc v) v := by simp [Vr]

theorem run_equal_bool (P : Program) (w : World) (t : TypeId) (ht : P.underlying t = some .bool) (a b : Bool) : (Op.equal t (.bool a) (.bool b)).run P w = .ok (a == b) w := by
  show (Op.equalIn (9999 + 1) t (.bool a) (.bool b)).run P w = _
  rw [Op.equalIn, Sem.run_bind, run_underlying ht]
  rfl

theorem run_binOp_bool (P : Program) (w : World) (op : BinOp) (t : TypeId) (ht : P.underlying t = some .bool) (a b : Bool) (hop : op = .eql ∨ op = .neq) :
    (binOp op t (.bool a) (.bool b)).run P w = .ok (.bool (if op = .eql then a == b else a != b)) w := by
  rcases hop with rfl | rfl
  · show (do pure (.bool (← Op.equal t (.bool a) (.bool b))) : Sem Value).run P w = _
    rw [Sem.run_bind, run_equal_bool P w t ht]
    rfl
  · show (do pure (.bool (!(← Op.equal t (.bool a) (.bool b)))) : Sem Value).run P w = _
    rw [Sem.run_bind, run_equal_bool P w t ht]
    rfl

theorem vbin_ok {P : Program} {X : Ctx} {op : BinOp} {t : TypeId} {x y d : D} {u v : Value} (xo yo : Operand) (h : vbin P op t x y = some d) (hu : Vr X x u) (hv : Vr X y v) :
    ∃ r, (do eqGuard op t xo yo u v; binOp op t u v : Sem Value).run P X.w = .ok r X.w ∧ Vr X d r := by
  unfold vbin at h
  split at h
  · rename_i k a k' b
    simp only [Vr] at hu hv
    subst hu hv
    rw [Sem.run_bind, run_eqGuard_int]
    simp only [Result.andThen]
    split at h
    · rename_i hsh
      cases op <;> simp [isShift] at hsh <;> simp only [shbin] at h <;> (split at h <;> simp only [Option.some.injEq, reduceCtorEq] at h) <;> subst h <;> rename_i hneg <;> (refine ⟨_, ?_, Vr_sc⟩; simp [binOp, Op.shift, hneg])
    · rename_i hsh
      split at h
      · rename_i hk
        subst hk
        cases op <;> simp [isShift] at hsh <;> simp only [ibin, reduceCtorEq] at h <;> (try (split at h <;> simp only [Option.some.injEq, reduceCtorEq] at h)) <;> (try simp only [Option.some.injEq] at h) <;> subst h <;>
          (refine ⟨_, ?_, Vr_sc⟩; simp [binOp, Op.intArith, Op.intDiv, Op.intBits, Op.intCmp, *])
      · cases h
  · rename_i a b
    simp only [Vr] at hu hv
    subst hu hv
    rw [Sem.run_bind, run_eqGuard_string]
    simp only [Result.andThen]
    cases op <;> simp only [sbin, reduceCtorEq] at h <;> (try (split at h <;> simp only [Option.some.injEq, reduceCtorEq] at h)) <;> (try simp only [Option.some.injEq] at h) <;> subst h <;>
      (refine ⟨_, ?_, Vr_sc⟩; simp [binOp, Op.stringOp, *])
    have hmax : IntKind.i64.max = 9223372036854775807 := by decide
    omega
  · rename_i a b
    simp only [Vr] at hu hv
    subst hu hv
    rw [Sem.run_bind, run_eqGuard_bool]
    simp only [Result.andThen]
    split at h
    · rename_i ht
      simp only [Option.some.injEq] at h; subst h
      exact ⟨_, run_binOp_bool P X.w .eql t ht a b (.inl rfl), Vr_sc⟩
    · rename_i ht
      simp only [Option.some.injEq] at h; subst h
      exact ⟨_, run_binOp_bool P X.w .neq t ht a b (.inr rfl), Vr_sc⟩
    · cases h
  · cases h

end Go.Proofs.YtglnkfpmogaifaaGreatDoor.V

/-
  Further operations that hand back a value and leave the world alone.
-/
namespace Go.Proofs.YtglnkfpmogaifaaGreatDoor.V
open Go Go.RowKit

def szOf (P : Program) (t : TypeId) : Nat := ((P.info? t).map (·.size)).getD 0
def aggOf (P : Program) (t : TypeId) : Bool :=
  match P.underlying t with
  | some (.struct _) | some (.array _ _) => true
  | _ => false
/-- A type that the program knows. -/
def known (P : Program) (t : TypeId) : Bool := (P.info? t).isSome && (P.underlying t).isSome

theorem run_sizeOf {P : Program} {w : World} {t : TypeId} (h : known P t = true) : (sizeOf t).run P w = .ok (szOf P t) w := by
  unfold known at h
  cases hi : P.info? t with
  | none => rw [hi] at h; simp at h
  | some i => simp [sizeOf, typeInfo, hi, szOf]
theorem run_isAgg {P : Program} {w : World} {t : TypeId} (h : known P t = true) : (isAgg t).run P w = .ok (aggOf P t) w := by
  unfold known at h
  cases hu : P.underlying t with
  | none => rw [hu] at h; simp at h
  | some u =>
    unfold isAgg aggOf
    rw [Sem.run_bind, run_underlying hu]
    simp only [Result.andThen, hu]
    split <;> (try split) <;> simp_all

/-- A part of some cells: an aggregate, or one cell. -/
def cut (agg : Bool) (n off : Nat) (cs : List D) : Option D :=
  if off + n ≤ cs.length then (if agg then some (.ag ((cs.drop off).take n)) else if n = 1 then cs[off]? else none) else none

theorem Lr_cut {X : Ctx} {ds : List D} {vs : List Value} (h : Lr X ds vs) (off n : Nat) (hn : off + n ≤ ds.length) : Lr X ((ds.drop off).take n) ((vs.drop off).take n) := by
  have hl := Lr_length h
  refine Lr_of_get (by simp; omega) fun i d v hd hv => ?_
  rw [List.getElem?_take] at hd hv
  split at hd
  · rename_i hi
    rw [List.getElem?_drop] at hd
    simp only [hi, if_true] at hv
    rw [List.getElem?_drop] at hv
    obtain ⟨v', h1, h2⟩ := Lr_get h _ d hd
    rw [h1] at hv; cases hv; exact h2
  · cases hd

theorem run_part {P : Program} {X : Ctx} {t : TypeId} {ds : List D} {vs : Array Value} {off : Nat} {d : D} (hk : known P t = true) (h : Lr X ds vs.toList) (hc : cut (aggOf P t) (szOf P t) off ds = some d) :
    ∃ v, (part t vs off).run P X.w = .ok v X.w ∧ Vr X d v := by
  unfold cut at hc
  split at hc
  · rename_i hle
    unfold part
    rw [Sem.run_bind, run_isAgg hk]
    simp only [Result.andThen]
    cases ha : aggOf P t with
    | true =>
      simp only [ha, if_true, Option.some.injEq] at hc
      subst hc
      simp only [if_true]
      rw [Sem.run_bind, run_sizeOf hk]
      refine ⟨_, rfl, ?_⟩
      simp only [Vr]
      refine ⟨_, rfl, ?_⟩
      have hl := Lr_length h
      have hs : vs.size = ds.length := by simpa using hl
      have := Lr_cut h off (szOf P t) hle
      have e : (vs.extract off (off + szOf P t)).toList = (vs.toList.drop off).take (szOf P t) := by
        simp [Array.toList_extract, List.extract]
      rw [e]
      exact this
    | false =>
      simp only [ha, Bool.false_eq_true, if_false] at hc ⊢
      split at hc
      · obtain ⟨v, h1, h2⟩ := Lr_get h off d hc
        have h1' : vs[off]? = some v := by simpa using h1
        refine ⟨v, ?_, h2⟩
        rw [h1']
        rfl
      · cases hc
  · cases hc

/-! ### the single operations -/
def vpick (c a b : D) : Option D :=
  match c with
  | .sc (.bool t) => some (if t then a else b)
  | _ => none
def vfield (P : Program) (t : TypeId) (x : D) (f : Nat) : Option D :=
  match P.underlying t, x with
  | some (.struct fs), .ag cs =>
    match fs[f]? with
    | some g => if known P g.type then cut (aggOf P g.type) (szOf P g.type) g.offset cs else none
    | none => none
  | _, _ => none
def vindex (P : Program) (t : TypeId) (x i : D) : Option D :=
  match P.underlying t, x, i with
  | some (.array n e), .ag cs, .sc (.int _ k) => if known P e then (if 0 ≤ k ∧ k < n then cut (aggOf P e) (szOf P e) (k.toNat * szOf P e) cs else none) else none
  | some .string, .sc (.string s), .sc (.int _ k) => if 0 ≤ k then (s[k.toNat]?).map fun b => .sc (.int .u8 b.toNat) else none
  | _, _, _ => none
def vextract (x : D) (i : Nat) : Option D :=
  match x with
  | .tp vs => vs[i]?
  | _ => none
/-- Values at which a nil check passes. -/
def vnilCheck (x : D) : Option D :=
  match x with
  | .pt id off => some (.pt id off)
  | .sp cs off => some (.sp cs off)
  | .fn (.func f) a b => some (.fn (.func f) a b)
  | .fn (.via t p f q) a b => some (.fn (.via t p f q) a b)
  | .fn (.methodOf t n) a b => some (.fn (.methodOf t n) a b)
  | .fn (.yield l) a b => some (.fn (.yield l) a b)
  | .sc (.pointer (some a)) => some (.sc (.pointer (some a)))
  | _ => none
def vunOp (op : UnOp) (x : D) : Option D :=
  match op, x with
  | .neg, .sc (.int k n) => some (.sc (.int k (k.wrap (0 - n))))
  | .not, .sc (.bool b) => some (.sc (.bool !b))
  | .xor, .sc (.int k n) => some (.sc (.int k (k.wrap (BitVec.ofInt k.bits (if k.signed then -1 else k.max) ^^^ BitVec.ofInt k.bits n).toNat)))
  | _, _ => none
def vconvert (P : Program) (s t : TypeId) (x : D) : Option D :=
  match P.underlying s, P.underlying t, x with
  | some _, some (.int k), .sc (.int _ n) => some (.sc (.int k (k.wrap n)))
  | some _, some .string, .sc (.string b) => some (.sc (.string b))
  | _, _, _ => none
def vlen (P : Program) (t : TypeId) (x : D) : Option D :=
  match P.underlying t, x with
  | some .string, .sc (.string s) => some (.sc (.int .i64 s.size))
  | some (.slice _), .em => some (.sc (.int .i64 0))
  | some (.slice _), .sl n _ => some (.sc (.int .i64 n))
  | some (.slice _), .rf _ _ n _ => some (.sc (.int .i64 n))
  | some (.array n _), _ => some (.sc (.int .i64 n))
  | some (.pointer a), _ =>
    match P.underlying a with
    | some (.array n _) => some (.sc (.int .i64 n))
    | _ => none
  | _, _ => none
def vmax2 : D → D → Option D
  | .sc (.int k x), .sc (.int _ y) => some (.sc (.int k (if y > x then y else x)))
  | _, _ => none
def vmin2 : D → D → Option D
  | .sc (.int k x), .sc (.int _ y) => some (.sc (.int k (if y < x then y else x)))
  | _, _ => none
def vfold (f : D → D → Option D) : D → List D → Option D
  | x, [] => some x
  | x, y :: r => (f x y).bind fun z => vfold f z r

theorem run_asIntOf {P : Program} {w : World} (k : IntKind) (n : Int) : (asIntOf (.int k n)).run P w = .ok (k, n) w := rfl

section
variable {P : Program} {X : Ctx}

theorem vfield_ok {t : TypeId} {x d : D} {f : Nat} {u : Value} (h : vfield P t x f = some d) (hu : Vr X x u) : ∃ v, (Instr.field t u f).run P X.w = .ok v X.w ∧ Vr X d v := by
  unfold vfield at h
  split at h
  · rename_i fs cs hul
    simp only [Vr] at hu
    obtain ⟨xs, rfl, hl⟩ := hu
    split at h
    · rename_i g hg
      split at h
      · rename_i hk
        obtain ⟨v, hr, hv⟩ := run_part (P := P) hk hl h
        refine ⟨v, ?_, hv⟩
        unfold Instr.field
        rw [Sem.run_bind, run_underlying hul]
        simp only [Result.andThen, hg]
        exact hr
      · cases h
    · cases h
  · cases h

theorem vindex_ok {t : TypeId} {x i d : D} {u v : Value} (h : vindex P t x i = some d) (hu : Vr X x u) (hv : Vr X i v) : ∃ r, (Instr.index t u v).run P X.w = .ok r X.w ∧ Vr X d r := by
  unfold vindex at h
  split at h
  · rename_i n e cs k q hul
    simp only [Vr] at hu hv
    obtain ⟨xs, rfl, hl⟩ := hu
    subst hv
    split at h
    · rename_i hk
      split at h
      · rename_i hin
        obtain ⟨r, hr, hrv⟩ := run_part (P := P) hk hl h
        refine ⟨r, ?_, hrv⟩
        unfold Instr.index
        rw [Sem.run_bind, run_asIntOf]
        simp only [Result.andThen]
        rw [Sem.run_bind, run_underlying hul]
        simp only [Result.andThen, hin, and_self, if_true]
        rw [Sem.run_bind, run_sizeOf hk]
        exact hr
      · cases h
    · cases h
  · rename_i s k q hul
    simp only [Vr] at hu hv
    subst hu hv
    split at h
    · rename_i h0
      cases hb : s[q.toNat]? with
      | none => rw [hb] at h; simp at h
      | some b =>
        rw [hb] at h
        simp only [Option.map_some, Option.some.injEq] at h
        subst h
        refine ⟨_, ?_, Vr_sc⟩
        unfold Instr.index
        rw [Sem.run_bind, run_asIntOf]
        simp only [Result.andThen]
        rw [Sem.run_bind, run_underlying hul]
        simp only [Result.andThen, h0, if_true, hb]
        rfl
    · cases h
  · cases h

theorem vextract_ok {x d : D} {i : Nat} {u : Value} (h : vextract x i = some d) (hu : Vr X x u) : ∃ v, (Instr.extract u i).run P X.w = .ok v X.w ∧ Vr X d v := by
  unfold vextract at h
  split at h
  · rename_i vs
    simp only [Vr] at hu
    obtain ⟨xs, rfl, hl⟩ := hu
    obtain ⟨v, h1, h2⟩ := Lr_get hl i d h
    have h1' : xs[i]? = some v := by simpa using h1
    exact ⟨v, by simp [Instr.extract, h1'], h2⟩
  · cases h

theorem vunOp_ok {op : UnOp} {x d : D} {u : Value} (h : vunOp op x = some d) (hu : Vr X x u) : ∃ v, (Op.unary op u).run P X.w = .ok v X.w ∧ Vr X d v := by
  unfold vunOp at h
  split at h <;> simp only [Option.some.injEq, reduceCtorEq] at h <;> subst h <;> simp only [Vr] at hu <;> subst hu <;>
    (refine ⟨_, ?_, Vr_sc⟩; simp [Op.unary, Op.intArith, Op.intBits])

theorem vconvert_ok {s t : TypeId} {x d : D} {u : Value} (h : vconvert P s t x = some d) (hu : Vr X x u) : ∃ v, (convert s t u).run P X.w = .ok v X.w ∧ Vr X d v := by
  unfold vconvert at h
  split at h
  · rename_i us k k' n hs ht
    simp only [Option.some.injEq] at h; subst h; simp only [Vr] at hu; subst hu
    refine ⟨_, ?_, Vr_sc⟩
    unfold convert
    rw [Sem.run_bind, run_underlying hs]
    simp only [Result.andThen]
    rw [Sem.run_bind, run_underlying ht]
    simp only [Result.andThen]
    rfl
  · rename_i us b hs ht
    simp only [Option.some.injEq] at h; subst h; simp only [Vr] at hu; subst hu
    refine ⟨_, ?_, Vr_sc⟩
    unfold convert
    rw [Sem.run_bind, run_underlying hs]
    simp only [Result.andThen]
    rw [Sem.run_bind, run_underlying ht]
    simp only [Result.andThen]
    rfl
  · cases h

theorem vlen_ok {t ty : TypeId} {x d : D} {u : Value} (h : vlen P t x = some d) (hu : Vr X x u) : ∃ v, (Builtin.len_ #[t] ty #[u]).run P X.w = .ok v X.w ∧ Vr X d v := by
  unfold vlen at h
  unfold Builtin.len_
  simp only [List.getElem?_toArray, List.getElem?_cons_zero]
  split at h
  · rename_i s hs
    simp only [Option.some.injEq] at h; subst h; simp only [Vr] at hu; subst hu
    refine ⟨_, ?_, Vr_sc⟩
    rw [Sem.run_bind, run_underlying hs]; rfl
  · rename_i e hs
    simp only [Option.some.injEq] at h; subst h; simp only [Vr] at hu; obtain ⟨a, rfl⟩ := hu
    refine ⟨_, ?_, Vr_sc⟩
    rw [Sem.run_bind, run_underlying hs]; rfl
  · rename_i e n cs hs
    simp only [Option.some.injEq] at h; subst h; simp only [Vr] at hu; obtain ⟨_, a, cap, rfl, _⟩ := hu
    refine ⟨_, ?_, Vr_sc⟩
    rw [Sem.run_bind, run_underlying hs]; rfl
  · rename_i e id off n es hs
    simp only [Option.some.injEq] at h; subst h; simp only [Vr] at hu; obtain ⟨l, cap, _, rfl, _⟩ := hu
    refine ⟨_, ?_, Vr_sc⟩
    rw [Sem.run_bind, run_underlying hs]; rfl
  · rename_i n e hs
    simp only [Option.some.injEq] at h; subst h
    refine ⟨_, ?_, Vr_sc⟩
    rw [Sem.run_bind, run_underlying hs]; rfl
  · rename_i a hs
    split at h
    · rename_i n e ha
      simp only [Option.some.injEq] at h; subst h
      refine ⟨_, ?_, Vr_sc⟩
      rw [Sem.run_bind, run_underlying hs]
      simp only [Result.andThen]
      rw [Sem.run_bind, run_underlying ha]; rfl
    · cases h
  · cases h

theorem vmax2_ok {x y d : D} {u v : Value} (h : vmax2 x y = some d) (hu : Vr X x u) (hv : Vr X y v) : ∃ r, (Builtin.max2 u v).run P X.w = .ok r X.w ∧ Vr X d r := by
  unfold vmax2 at h
  split at h
  · simp only [Option.some.injEq] at h; subst h; simp only [Vr] at hu hv; subst hu hv
    exact ⟨_, rfl, Vr_sc⟩
  · cases h
theorem vmin2_ok {x y d : D} {u v : Value} (h : vmin2 x y = some d) (hu : Vr X x u) (hv : Vr X y v) : ∃ r, (Builtin.min2 u v).run P X.w = .ok r X.w ∧ Vr X d r := by
  unfold vmin2 at h
  split at h
  · simp only [Option.some.injEq] at h; subst h; simp only [Vr] at hu hv; subst hu hv
    exact ⟨_, rfl, Vr_sc⟩
  · cases h

theorem vfold_ok {f : D → D → Option D} {g : Value → Value → Sem Value} (hf : ∀ {x y d : D} {u v : Value}, f x y = some d → Vr X x u → Vr X y v → ∃ r, (g u v).run P X.w = .ok r X.w ∧ Vr X d r) :
    ∀ (ds : List D) (x : D) (vs : List Value) (u : Value) (d : D), vfold f x ds = some d → Vr X x u → Lr X ds vs → ∃ r, (vs.foldlM g u).run P X.w = .ok r X.w ∧ Vr X d r
  | [], x, vs, u, d, h, hu, hl => by
    simp only [vfold, Option.some.injEq] at h; subst h
    simp only [Lr] at hl; subst hl
    exact ⟨u, rfl, hu⟩
  | y :: ds, x, vs, u, d, h, hu, hl => by
    simp only [vfold, Option.bind_eq_some_iff] at h
    obtain ⟨z, hz, h⟩ := h
    simp only [Lr] at hl
    obtain ⟨v, r, rfl, h1, h2⟩ := hl
    obtain ⟨q, hq, hqv⟩ := hf hz hu h1
    obtain ⟨r', hr, hrv⟩ := vfold_ok hf ds z r q d h hqv h2
    refine ⟨r', ?_, hrv⟩
    rw [List.foldlM_cons, Sem.run_bind, hq]
    exact hr

end
end Go.Proofs.YtglnkfpmogaifaaGreatDoor.V

/-
  Addresses, loads, slices of slices, the building of structs and arrays.
-/
namespace Go.Proofs.YtglnkfpmogaifaaGreatDoor.V
open Go Go.RowKit

theorem addr_add (b o n : Nat) : (⟨b, o, none⟩ : Addr).add n = ⟨b, o + n, none⟩ := by
  unfold Addr.add; split <;> simp_all

/-! ### addresses -/
def vfieldAddr (P : Program) (t : TypeId) (x : D) (f : Nat) : Option D :=
  match P.underlying t with
  | some (.struct fs) =>
    match fs[f]? with
    | some g =>
      if known P g.type && szOf P g.type != 0 then
        (match x with
        | .pt id off => some (.pt id (off + g.offset))
        | .sp cs off => some (.sp cs (off + g.offset))
        | _ => none)
      else none
    | none => none
  | _ => none

def vindexAddr (P : Program) (t : TypeId) (x i : D) : Option D :=
  match i with
  | .sc (.int _ k) =>
    match P.underlying t with
    | some (.array n e) =>
      if known P e then
        (match x with
        | .pt id off => if 0 ≤ k ∧ k < n then some (.pt id (off + k.toNat * szOf P e)) else none
        | .sp cs off => if 0 ≤ k ∧ k < n then some (.sp cs (off + k.toNat * szOf P e)) else none
        | _ => none)
      else none
    | some (.slice e) =>
      if known P e then
        (match x with
        | .rf id off n _ => if 0 ≤ k ∧ k < n then some (.pt id (off + k.toNat * szOf P e)) else none
        | .sl n cs => if 0 ≤ k ∧ k < n then (if k.toNat * szOf P e < cs.length then some (.sp cs (k.toNat * szOf P e)) else none) else none
        | _ => none)
      else none
    | _ => none
  | _ => none

section
variable {P : Program} {X : Ctx}

theorem run_fieldPlace {w : World} {b o : Nat} {g : Field} (hk : known P g.type = true) (hz : szOf P g.type ≠ 0) : (fieldPlace ⟨b, o, none⟩ g).run P w = .ok ⟨b, o + g.offset, none⟩ w := by
  unfold fieldPlace
  rw [Sem.run_bind, run_sizeOf hk]
  simp only [Result.andThen, hz, if_false, addr_add]
  rfl

theorem vfieldAddr_ok {t : TypeId} {x d : D} {f : Nat} {u : Value} (h : vfieldAddr P t x f = some d) (hu : Vr X x u) : ∃ v, (Instr.fieldAt t u f).run P X.w = .ok v X.w ∧ Vr X d v := by
  unfold vfieldAddr at h
  split at h
  · rename_i fs hul
    split at h
    · rename_i g hg
      split at h
      · rename_i hk
        simp only [Bool.and_eq_true, bne_iff_ne, ne_eq] at hk
        have key : ∀ b o, (Instr.fieldAt t (.pointer (some ⟨b, o, none⟩)) f).run P X.w = .ok (.pointer (some ⟨b, o + g.offset, none⟩)) X.w := by
          intro b o
          unfold Instr.fieldAt
          rw [Sem.run_bind, run_underlying hul]
          simp only [Result.andThen, hg]
          rw [Sem.run_bind]
          simp only [Instr.sureAddr, Sem.run_pure, Result.andThen]
          rw [Sem.run_bind, run_fieldPlace hk.1 hk.2]
          rfl
        split at h
        · rename_i id off
          simp only [Option.some.injEq] at h; subst h
          simp only [Vr] at hu ⊢
          obtain ⟨l, hl, rfl⟩ := hu
          exact ⟨_, key _ _, l, hl, rfl⟩
        · rename_i cs off
          simp only [Option.some.injEq] at h; subst h
          simp only [Vr] at hu ⊢
          obtain ⟨b, o, rfl, hb, hc⟩ := hu
          exact ⟨_, key _ _, b, o, by rw [Nat.add_assoc], hb, hc⟩
        · cases h
      · cases h
    · cases h
  · cases h

theorem vindexAddr_ok {t : TypeId} {x i d : D} {u v : Value} (h : vindexAddr P t x i = some d) (hu : Vr X x u) (hv : Vr X i v) : ∃ r, (Instr.indexAt t u v).run P X.w = .ok r X.w ∧ Vr X d r := by
  unfold vindexAddr at h
  split at h
  · rename_i q k
    simp only [Vr] at hv
    subst hv
    split at h
    · rename_i n e hul
      split at h
      · rename_i hk
        have key : ∀ b o, 0 ≤ k ∧ k < n → (Instr.indexAt t (.pointer (some ⟨b, o, none⟩)) (.int q k)).run P X.w = .ok (.pointer (some ⟨b, o + k.toNat * szOf P e, none⟩)) X.w := by
          intro b o hin
          unfold Instr.indexAt
          rw [Sem.run_bind, run_asIntOf]
          simp only [Result.andThen]
          rw [Sem.run_bind, run_underlying hul]
          simp only [Result.andThen]
          simp only [Sem.run_bind, Instr.sureAddr, Sem.run_pure, Result.andThen, run_underlying hul, hin, and_self, if_true, run_sizeOf hk, addr_add]
        split at h
        · rename_i id off
          split at h
          · rename_i hin
            simp only [Option.some.injEq] at h; subst h
            simp only [Vr] at hu ⊢
            obtain ⟨l, hl, rfl⟩ := hu
            exact ⟨_, key _ _ hin, l, hl, rfl⟩
          · cases h
        · rename_i cs off
          split at h
          · rename_i hin
            simp only [Option.some.injEq] at h; subst h
            simp only [Vr] at hu ⊢
            obtain ⟨b, o, rfl, hb, hc⟩ := hu
            exact ⟨_, key _ _ hin, b, o, by rw [Nat.add_assoc], hb, hc⟩
          · cases h
        · cases h
      · cases h
    · rename_i e hul
      split at h
      · rename_i hk
        have key : ∀ b o (n cap : Nat), 0 ≤ k ∧ k < n → (Instr.indexAt t (.slice (some ⟨b, o, none⟩) n cap) (.int q k)).run P X.w = .ok (.pointer (some ⟨b, o + k.toNat * szOf P e, none⟩)) X.w := by
          intro b o n cap hin
          unfold Instr.indexAt
          rw [Sem.run_bind, run_asIntOf]
          simp only [Result.andThen]
          rw [Sem.run_bind, run_underlying hul]
          simp only [Result.andThen]
          simp only [Sem.run_bind, Sem.run_pure, Result.andThen, run_underlying hul, hin, and_self, if_true, run_sizeOf hk, addr_add]
        split at h
        · rename_i id off n es
          split at h
          · rename_i hin
            simp only [Option.some.injEq] at h; subst h
            simp only [Vr] at hu ⊢
            obtain ⟨l, cap, hl, rfl, _⟩ := hu
            exact ⟨_, key _ _ _ _ hin, l, hl, rfl⟩
          · cases h
        · rename_i n cs
          split at h
          · rename_i hin
            split at h
            · rename_i hlt
              simp only [Option.some.injEq] at h; subst h
              simp only [Vr] at hu ⊢
              obtain ⟨_, a, cap, rfl, _, hr⟩ := hu
              rcases hr with rfl | ⟨b, off, rfl, hb, hc⟩
              · simp at hlt
              · exact ⟨_, key _ _ _ _ hin, b, off, rfl, hb, hc⟩
            · cases h
          · cases h
        · cases h
      · cases h
    · cases h
  · cases h

end

/-! ### loads -/
/-- What lies at an address. -/
def vcellsAt (s : Sg) : D → Option (List D × Nat)
  | .pt id off => (s id).map fun o => (o.cells, off)
  | .sp cs off => some (cs, off)
  | _ => none
def vload (P : Program) (s : Sg) (t : TypeId) (x : D) : Option D :=
  if known P t then (vcellsAt s x).bind fun (cs, off) => cut (aggOf P t) (szOf P t) off cs else none

/-- Cells that can be read, from an address on. -/
def At (X : Ctx) (b o : Nat) (cs : List D) : Prop := ∀ (i : Nat) (d : D), cs[i]? = some d → ∃ u, X.w.cell? ⟨b, o + i, none⟩ = some u ∧ u.oneCell' = true ∧ Vr X d u

theorem Or.at_ {X : Ctx} {l : Loc} {o : O} (h : Or X l o) : At X l.blk 0 o.cells := by
  obtain ⟨cur, h1, h2, _, h3, h4⟩ := h
  intro i d hd
  obtain ⟨u, hu, ho, hv⟩ := h4 i d hd
  refine ⟨u, ?_, ho, hv⟩
  rw [Nat.zero_add, cell_of_row X.w l.blk i cur o.elem (0, 0) h1]
  exact hu

theorem At.values {X : Ctx} {b o : Nat} {cs : List D} (h : At X b o cs) (off n : Nat) (hn : off + n ≤ cs.length) :
    ∃ us : List Value, us.length = n ∧ Lr X ((cs.drop off).take n) us ∧ (∀ (j : Nat) (u : Value), us[j]? = some u → X.w.cell? ⟨b, o + off + j, none⟩ = some u) ∧ ∀ u ∈ us, u.oneCell' = true := by
  induction n generalizing off with
  | zero => exact ⟨[], rfl, by simp [Lr], by simp, by simp⟩
  | succ n ih =>
    obtain ⟨us, h1, h2, h3, h4⟩ := ih (off + 1) (by omega)
    obtain ⟨u, hu, ho, hv⟩ := h off cs[off] (List.getElem?_eq_getElem (by omega))
    refine ⟨u :: us, by simp [h1], ?_, ?_, ?_⟩
    · rw [show (cs.drop off).take (n + 1) = cs[off] :: (cs.drop (off + 1)).take n by
        rw [List.drop_eq_getElem_cons (by omega), List.take_succ_cons]]
      simp only [Lr]
      exact ⟨u, us, rfl, hv, h2⟩
    · intro j v hj
      cases j with
      | zero => simp at hj; subst hj; simpa using hu
      | succ j => have := h3 j v (by simpa using hj); rwa [show o + (off + 1) + j = o + off + (j + 1) by omega] at this
    · intro v hv'
      rcases List.mem_cons.1 hv' with rfl | hv'
      · exact ho
      · exact h4 v hv'

theorem run_loadVar_at {P : Program} {X : Ctx} {t : TypeId} {b o off : Nat} {cs : List D} {d : D} (hk : known P t = true) (h : At X b o cs) (hc : cut (aggOf P t) (szOf P t) off cs = some d) :
    ∃ v, (loadVar t ⟨b, o + off, none⟩).run P X.w = .ok v X.w ∧ Vr X d v := by
  unfold cut at hc
  split at hc
  · rename_i hle
    obtain ⟨us, h1, h2, h3, _⟩ := h.values off (szOf P t) hle
    unfold loadVar
    rw [Sem.run_bind, run_isAgg hk]
    simp only [Result.andThen]
    cases ha : aggOf P t with
    | true =>
      simp only [ha, if_true, Option.some.injEq] at hc
      subst hc
      simp only [if_true]
      rw [Sem.run_bind, run_sizeOf hk]
      simp only [Result.andThen]
      rw [Sem.run_bind]
      have := run_loadCells_list (P := P) X.w ⟨b, o + off, none⟩ us (fun j v hj => by rw [addr_add]; exact h3 j v hj)
      rw [h1] at this
      rw [this]
      exact ⟨_, rfl, by simp only [Vr]; exact ⟨us.toArray, rfl, by simpa using h2⟩⟩
    | false =>
      simp only [ha, Bool.false_eq_true, if_false] at hc ⊢
      split at hc
      · obtain ⟨u, hu, _, hv⟩ := h off d hc
        refine ⟨u, ?_, hv⟩
        rw [run_load, hu]
      · cases hc
  · cases hc

theorem vload_ok {P : Program} {E : Env} {X : Ctx} {s : Sg} {t : TypeId} {x d : D} {u : Value} (hs : Sim E X s) (h : vload P s t x = some d) (hu : Vr X x u) :
    ∃ v, (Instr.loadAt t u).run P X.w = .ok v X.w ∧ Vr X d v := by
  unfold vload at h
  split at h
  · rename_i hk
    have key : ∀ a, (Instr.loadAt t (.pointer (some a))).run P X.w = (loadVar t a).run P X.w := fun a => by
      unfold Instr.loadAt; rw [Sem.run_bind]; rfl
    cases x with
    | pt id off =>
      simp only [vcellsAt, Option.bind_eq_some_iff, Option.map_eq_some_iff] at h
      obtain ⟨_, ⟨o, ho, rfl⟩, h⟩ := h
      simp only [Vr] at hu
      obtain ⟨l, hl, rfl⟩ := hu
      obtain ⟨l', hl', hor, _⟩ := hs.objs id o ho
      rw [hl] at hl'; cases hl'
      rw [key]
      have := run_loadVar_at (P := P) hk hor.at_ h
      rwa [Nat.zero_add] at this
    | sp cs off =>
      simp only [vcellsAt, Option.bind_some] at h
      simp only [Vr] at hu
      obtain ⟨b, o, rfl, hb, hc⟩ := hu
      rw [key]
      exact run_loadVar_at (P := P) hk (Cr_iff.1 hc) h
    | _ => simp [vcellsAt] at h
  · cases h

/-! ### parts of slices and of strings -/
/-- A bound: 'df' where none is named; else a number, at most 'n'. -/
def vbound (df n : Nat) : Option D → Option Nat
  | none => some df
  | some (.sc (.int _ k)) => if 0 ≤ k ∧ k ≤ n then some k.toNat else none
  | _ => none
def isZero : Option D → Bool
  | some (.sc (.int _ k)) => k == 0
  | _ => false
/-- A third index is taken in at 's[:0:0]' alone. -/
def vslice (P : Program) (s : Sg) (t : TypeId) (x : D) (lo hi : Option D) (mx : Option D) : Option D :=
  match P.underlying t with
  | some .string =>
    match x, mx with
    | .sc (.string b), none => (vbound b.size b.size hi).bind fun h => (vbound 0 h lo).map fun l => .sc (.string (b.extract l h))
    | _, _ => none
  | some (.slice e) =>
    if known P e && szOf P e != 0 then
      (match mx with
      | none =>
        (match x with
        | .em => (vbound 0 0 hi).bind fun h => (vbound 0 h lo).map fun _ => .em
        | .sl n cs => (vbound n n hi).bind fun h => (vbound 0 h lo).map fun l => if l = h then .sl 0 [] else .sl (h - l) ((cs.drop (l * szOf P e)).take ((h - l) * szOf P e))
        | .rf id off n es => (vbound n n hi).bind fun h => (vbound 0 h lo).map fun l => if l = 0 then .rf id off h es else if l = h then .sl 0 [] else .rf id (off + l * szOf P e) (h - l) es
        | _ => none)
      | some m =>
        if isZero (some m) && isZero hi && lo.isNone then
          (match x with
          | .em => some .em
          | .sl _ _ => some .em
          | .rf _ _ _ _ => some .em
          | _ => none)
        else none)
    else none
  | some (.array n e) =>
    if known P e && szOf P e != 0 && decide (n ≤ maxLen) then
      (match x, mx with
      | .pt id off, none => (vbound n n hi).bind fun h => (vbound 0 h lo).bind fun l => (s id).bind fun o => if o.es = 0 then (if l = h then some (.sl 0 []) else some (.rf id (off + l * szOf P e) (h - l) (szOf P e))) else none
      | .sp cs off, none => (vbound n n hi).bind fun h => (vbound 0 h lo).map fun l => if l = h then .sl 0 [] else .sl (h - l) ((cs.drop (off + l * szOf P e)).take ((h - l) * szOf P e))
      | _, _ => none)
    else none
  | _ => none

/-- An operand that is named, or none, and its value. -/
def Vo (X : Ctx) : Option D → Option Value → Prop
  | none, v => v = none
  | some d, v => ∃ u, v = some u ∧ Vr X d u

section
variable {P : Program} {X : Ctx}

theorem run_sliceBound {w : World} {k : IntKind} {i : Int} {y : Nat} {c : BoundsCode} (h : 0 ≤ i ∧ i ≤ y) : (Instr.sliceBound (.int k i) y c).run P w = .ok i.toNat w := by
  unfold Instr.sliceBound
  rw [Sem.run_bind, run_asIntOf]
  simp only [Result.andThen, h, and_self, if_true]
  rfl

theorem vbound_cases {df n r : Nat} {o : Option D} {v : Option Value} (h : vbound df n o = some r) (hv : Vo X o v) :
    (v = none ∧ r = df) ∨ ∃ k i, v = some (.int k i) ∧ 0 ≤ i ∧ i ≤ n ∧ r = i.toNat := by
  unfold vbound at h
  split at h
  · simp only [Vo] at hv; simp only [Option.some.injEq] at h; exact .inl ⟨hv, h.symm⟩
  · rename_i k i
    split at h
    · rename_i hb
      simp only [Option.some.injEq] at h
      simp only [Vo] at hv
      obtain ⟨u, rfl, hu⟩ := hv
      simp only [Vr] at hu; subst hu
      exact .inr ⟨k, i, rfl, hb.1, hb.2, h.symm⟩
    · cases h
  · cases h

/-- The bounds of a slice without a third index. -/
theorem run_sliceBounds {w : World} {isS : Bool} {len n h l : Nat} {lo hi : Option D} {vl vh : Option Value} (hn : len ≤ n) (hh : vbound len len hi = some h) (hl : vbound 0 h lo = some l) (h1 : Vo X lo vl) (h2 : Vo X hi vh) :
    (Instr.sliceBounds isS len n vl vh none).run P w = .ok (l, h, n) w ∧ l ≤ h ∧ h ≤ len := by
  unfold Instr.sliceBounds
  rcases vbound_cases hh h2 with ⟨rfl, rfl⟩ | ⟨k, i, rfl, i0, i1, rfl⟩ <;> rcases vbound_cases hl h1 with ⟨rfl, rfl⟩ | ⟨k', i', rfl, i0', i1', rfl⟩
  · exact ⟨rfl, by omega, by omega⟩
  · refine ⟨?_, by omega, by omega⟩
    simp only [Sem.run_bind, Sem.run_pure, Result.andThen]
    rw [run_sliceBound (by omega)]
  · refine ⟨?_, by omega, by omega⟩
    simp only [Sem.run_bind, Sem.run_pure, Result.andThen]
    rw [run_sliceBound (by omega)]
  · refine ⟨?_, by omega, by omega⟩
    simp only [Sem.run_bind, Sem.run_pure, Result.andThen]
    rw [run_sliceBound (by omega)]
    simp only
    rw [run_sliceBound (by omega)]

theorem Cr.part {b o : Nat} {cs : List D} (h : Cr X b o cs) (k n : Nat) : Cr X b (o + k) ((cs.drop k).take n) := by
  rw [Cr_iff] at h ⊢
  intro i d hd
  rw [List.getElem?_take] at hd
  split at hd
  · rw [List.getElem?_drop] at hd
    have := h _ d hd
    rwa [show o + (k + i) = o + k + i by omega] at this
  · cases hd

theorem vslice_ok {E : Env} {s : Sg} {t : TypeId} {x d : D} {lo hi mx : Option D} {u : Value} {vl vh vm : Option Value} (hs : Sim E X s) (h : vslice P s t x lo hi mx = some d) (hu : Vr X x u) (h1 : Vo X lo vl) (h2 : Vo X hi vh) (h3 : Vo X mx vm) :
    ∃ r, (Instr.sliceAt t u vl vh vm).run P X.w = .ok r X.w ∧ Vr X d r := by
  unfold vslice at h
  unfold Instr.sliceAt
  split at h
  · rename_i hul
    rw [Sem.run_bind, run_underlying hul]
    simp only [Result.andThen]
    unfold Instr.slice
    rw [Sem.run_bind, run_underlying hul]
    simp only [Result.andThen]
    split at h
    · rename_i b
      simp only [Option.bind_eq_some_iff, Option.map_eq_some_iff] at h
      obtain ⟨hh, e1, l, e2, rfl⟩ := h
      simp only [Vr] at hu; subst hu
      simp only [Vo] at h3; subst h3
      simp only [Option.isSome_none, Bool.false_eq_true, if_false]
      rw [Sem.run_bind, (run_sliceBounds (X := X) (Nat.le_refl _) e1 e2 h1 h2).1]
      exact ⟨_, rfl, Vr_sc⟩
    · cases h
  · rename_i e hul
    split at h
    · rename_i hk
      simp only [Bool.and_eq_true, bne_iff_ne, ne_eq] at hk
      rw [Sem.run_bind, run_underlying hul]
      simp only [Result.andThen]
      unfold Instr.slice
      rw [Sem.run_bind, run_underlying hul]
      simp only [Result.andThen]
      split at h
      · simp only [Vo] at h3; subst h3
        split at h
        · -- em
          simp only [Option.bind_eq_some_iff, Option.map_eq_some_iff] at h
          obtain ⟨hh, e1, l, e2, rfl⟩ := h
          simp only [Vr] at hu ⊢; obtain ⟨a, rfl⟩ := hu
          obtain ⟨er, hle, hle2⟩ := run_sliceBounds (P := P) (w := X.w) (isS := true) (X := X) (Nat.le_refl 0) e1 e2 h1 h2
          simp only []
          rw [Sem.run_bind, er]
          simp only [Result.andThen]
          rw [Sem.run_bind, run_sizeOf hk.1]
          obtain rfl : hh = 0 := by omega
          obtain rfl : l = 0 := by omega
          exact ⟨_, rfl, a, rfl⟩
        · -- sl
          rename_i n cs
          simp only [Option.bind_eq_some_iff, Option.map_eq_some_iff] at h
          obtain ⟨hh, e1, l, e2, rfl⟩ := h
          simp only [Vr] at hu; obtain ⟨hm, a, cap, rfl, hcap, hr⟩ := hu
          obtain ⟨er, hle, hle2⟩ := run_sliceBounds (P := P) (w := X.w) (isS := true) (X := X) hcap e1 e2 h1 h2
          simp only []
          rw [Sem.run_bind, er]
          simp only [Result.andThen]
          rw [Sem.run_bind, run_sizeOf hk.1]
          refine ⟨_, rfl, ?_⟩
          split
          · rename_i hlh
            subst hlh
            simp only [Vr]
            exact ⟨by omega, _, _, by rw [Nat.sub_self], Nat.zero_le _, .inl trivial⟩
          · rename_i hlh
            rw [if_neg (by omega)]
            simp only [Vr]
            refine ⟨by omega, _, _, rfl, by omega, ?_⟩
            rcases hr with rfl | ⟨b, off, rfl, hb, hc⟩
            · exact .inl (by simp)
            · exact .inr ⟨b, off + l * szOf P e, by simp [addr_add], hb, hc.part _ _⟩
        · -- rf
          rename_i id off n es
          simp only [Option.bind_eq_some_iff, Option.map_eq_some_iff] at h
          obtain ⟨hh, e1, l, e2, rfl⟩ := h
          simp only [Vr] at hu; obtain ⟨lc, cap, hl, rfl, hcap, hm, hes⟩ := hu
          obtain ⟨er, hle, hle2⟩ := run_sliceBounds (P := P) (w := X.w) (isS := true) (X := X) hcap e1 e2 h1 h2
          simp only []
          rw [Sem.run_bind, er]
          simp only [Result.andThen]
          rw [Sem.run_bind, run_sizeOf hk.1]
          refine ⟨_, rfl, ?_⟩
          split
          · rename_i hl0
            subst hl0
            simp only [Vr, Nat.sub_zero, Nat.zero_mul]
            refine ⟨lc, cap, hl, ?_, by omega, hm, hes⟩
            simp [addr_add]
          · split
            · rename_i _ hlh
              subst hlh
              simp only [Vr]
              exact ⟨by omega, _, _, by rw [Nat.sub_self], Nat.zero_le _, .inl trivial⟩
            · rename_i hl0 hlh
              rw [if_neg (by omega)]
              simp only [Vr]
              refine ⟨lc, cap - l, hl, by simp [addr_add], by omega, by omega, fun h0 => ?_⟩
              have : 0 < l * szOf P e := Nat.mul_pos (by omega) (by omega)
              omega
        · cases h
      · rename_i m
        split at h
        · rename_i hz
          simp only [Bool.and_eq_true, Option.isNone_iff_eq_none] at hz
          obtain ⟨⟨hz1, hz2⟩, rfl⟩ := hz
          simp only [Vo] at h1; subst h1
          have z : ∀ {o : Option D} {v : Option Value}, isZero o = true → Vo X o v → ∃ k, v = some (.int k 0) := by
            intro o v ho hv
            unfold isZero at ho
            split at ho
            · rename_i k i
              simp only [beq_iff_eq] at ho
              subst ho
              simp only [Vo] at hv
              obtain ⟨u, rfl, hu⟩ := hv
              simp only [Vr] at hu; subst hu
              exact ⟨k, rfl⟩
            · cases ho
          obtain ⟨k1, rfl⟩ := z hz1 h3
          obtain ⟨k2, rfl⟩ := z hz2 h2
          have er : ∀ len cap : Nat, (Instr.sliceBounds true len cap none (some (.int k2 0)) (some (.int k1 0))).run P X.w = .ok (0, 0, 0) X.w := by
            intro len cap
            unfold Instr.sliceBounds
            rw [Sem.run_bind]
            simp only []
            rw [run_sliceBound (by omega)]
            simp only [Result.andThen, Int.toNat_zero]
            rw [Sem.run_bind, run_sliceBound (by omega)]
            rfl
          have fin : ∀ a len cap, ∃ r, (do
              let (l, h, m) ← Instr.sliceBounds true len cap none (some (.int k2 0)) (some (.int k1 0))
              let size ← sizeOf e
              pure (.slice (if m = l then a else a.map (·.add (l * size))) (h - l) (m - l)) : Sem Value).run P X.w = .ok r X.w ∧ Vr X .em r := by
            intro a len cap
            rw [Sem.run_bind, er]
            simp only [Result.andThen]
            rw [Sem.run_bind, run_sizeOf hk.1]
            exact ⟨_, rfl, by simp [Vr]⟩
          split at h
          · simp only [Option.some.injEq] at h; subst h
            simp only [Vr] at hu; obtain ⟨a, rfl⟩ := hu
            exact fin _ _ _
          · simp only [Option.some.injEq] at h; subst h
            simp only [Vr] at hu; obtain ⟨_, a, cap, rfl, _⟩ := hu
            exact fin _ _ _
          · simp only [Option.some.injEq] at h; subst h
            simp only [Vr] at hu; obtain ⟨l, cap, _, rfl, _⟩ := hu
            exact fin _ _ _
          · cases h
        · cases h
    · cases h
  · rename_i n e hul
    split at h
    · rename_i hk
      simp only [Bool.and_eq_true, bne_iff_ne, ne_eq, decide_eq_true_eq] at hk
      obtain ⟨⟨hk1, hk2⟩, hk3⟩ := hk
      rw [Sem.run_bind, run_underlying hul]
      simp only [Result.andThen]
      split at h
      · rename_i id off
        simp only [Option.bind_eq_some_iff] at h
        obtain ⟨hh, e1, l, e2, o, ho, h⟩ := h
        split at h
        · rename_i hes
          simp only [Vo] at h3; subst h3
          simp only [Vr] at hu; obtain ⟨lc, hl, rfl⟩ := hu
          obtain ⟨l', hl', ⟨cur, _, _, he', _⟩, _⟩ := hs.objs id o ho
          rw [hl] at hl'; cases hl'
          obtain ⟨er, hle, hle2⟩ := run_sliceBounds (P := P) (w := X.w) (isS := false) (X := X) (Nat.le_refl n) e1 e2 h1 h2
          rw [Sem.run_bind]
          simp only [Instr.sureAddr, Sem.run_pure, Result.andThen]
          rw [Sem.run_bind, er]
          simp only [Result.andThen]
          rw [Sem.run_bind, run_sizeOf hk1]
          refine ⟨_, rfl, ?_⟩
          split at h
          · rename_i hlh
            subst hlh
            simp only [Option.some.injEq] at h; subst h
            simp only [Vr]
            exact ⟨by omega, _, _, by rw [Nat.sub_self], Nat.zero_le _, .inl trivial⟩
          · rename_i hlh
            simp only [Option.some.injEq] at h; subst h
            rw [if_neg (by omega)]
            simp only [Vr]
            exact ⟨lc, n - l, hl, by simp [addr_add], by omega, by omega, fun _ hne => by omega⟩
        · cases h
      · rename_i cs off
        simp only [Option.bind_eq_some_iff, Option.map_eq_some_iff] at h
        obtain ⟨hh, e1, l, e2, rfl⟩ := h
        simp only [Vo] at h3; subst h3
        simp only [Vr] at hu; obtain ⟨b, o, rfl, hb, hc⟩ := hu
        obtain ⟨er, hle, hle2⟩ := run_sliceBounds (P := P) (w := X.w) (isS := false) (X := X) (Nat.le_refl n) e1 e2 h1 h2
        rw [Sem.run_bind]
        simp only [Instr.sureAddr, Sem.run_pure, Result.andThen]
        rw [Sem.run_bind, er]
        simp only [Result.andThen]
        rw [Sem.run_bind, run_sizeOf hk1]
        refine ⟨_, rfl, ?_⟩
        split
        · rename_i hlh
          subst hlh
          simp only [Vr]
          exact ⟨by omega, _, _, by rw [Nat.sub_self], Nat.zero_le _, .inl trivial⟩
        · rename_i hlh
          rw [if_neg (by omega)]
          simp only [Vr]
          exact ⟨by omega, _, _, rfl, by omega, .inr ⟨b, o + off + l * szOf P e, by simp [addr_add], hb, by rw [Nat.add_assoc]; exact hc.part _ _⟩⟩
      · cases h
    · cases h
  · cases h

end
end Go.Proofs.YtglnkfpmogaifaaGreatDoor.V

/-
  Operations that make or write memory: what they make of an abstract state, and that the run does so.
-/
namespace Go.Proofs.YtglnkfpmogaifaaGreatDoor.V
open Go Go.RowKit

/-- A value of one cell. -/
def one : D → Bool
  | .sc v => v.oneCell'
  | .ag _ | .tp _ | .junk => false
  | _ => true
/-- The cells of a value. -/
def vcells : D → Option (List D)
  | .ag cs => if cs.all one then some cs else none
  | d => if one d then some [d] else none

theorem one_ok {X : Ctx} {d : D} {v : Value} (h : one d = true) (hv : Vr X d v) : v.oneCell' = true := by
  cases d <;> simp only [one, Bool.false_eq_true] at h <;> simp only [Vr] at hv
  · subst hv; exact h
  · obtain ⟨a, rfl⟩ := hv; rfl
  · obtain ⟨_, a, cap, rfl, _⟩ := hv; rfl
  · obtain ⟨b, o, rfl, _⟩ := hv; rfl
  · obtain ⟨l, cap, _, rfl, _⟩ := hv; rfl
  · obtain ⟨l, _, rfl⟩ := hv; rfl
  · obtain ⟨xs, ys, rfl, _⟩ := hv; rfl
theorem cells_of_one {v : Value} (h : v.oneCell' = true) : v.cells = #[v] := by
  cases v <;> first | rfl | (simp [Value.oneCell'] at h)

theorem Lr_one {X : Ctx} : ∀ {ds : List D} {vs : List Value}, Lr X ds vs → ds.all one = true → ∀ v ∈ vs, v.oneCell' = true
  | [], vs, h, _, v, hv => by simp only [Lr] at h; subst h; cases hv
  | d :: ds, vs, h, ho, v, hv => by
    simp only [Lr] at h
    obtain ⟨u, r, rfl, h1, h2⟩ := h
    simp only [List.all_cons, Bool.and_eq_true] at ho
    rcases List.mem_cons.1 hv with rfl | hv
    · exact one_ok ho.1 h1
    · exact Lr_one h2 ho.2 v hv

theorem vcells_ok {X : Ctx} {d : D} {v : Value} {cs : List D} (h : vcells d = some cs) (hv : Vr X d v) : Lr X cs v.cells.toList ∧ ∀ u ∈ v.cells.toList, u.oneCell' = true := by
  unfold vcells at h
  split at h
  · rename_i es
    split at h
    · rename_i ho
      simp only [Option.some.injEq] at h; subst h
      simp only [Vr] at hv
      obtain ⟨xs, rfl, hl⟩ := hv
      exact ⟨hl, Lr_one hl ho⟩
    · cases h
  · split at h
    · rename_i ho
      simp only [Option.some.injEq] at h; subst h
      have h1 := one_ok ho hv
      rw [cells_of_one h1]
      refine ⟨by simp only [Lr]; exact ⟨v, [], rfl, hv, rfl⟩, fun u hu => by simp at hu; subst hu; exact h1⟩
    · cases h

theorem Lr.get' {X : Ctx} {ds : List D} {vs : List Value} (h : Lr X ds vs) (ho : ∀ u ∈ vs, u.oneCell' = true) : ∀ (i : Nat) (d : D), ds[i]? = some d → ∃ u, vs[i]? = some u ∧ u.oneCell' = true ∧ Vr X d u := by
  intro i d hd
  obtain ⟨u, hu, hv⟩ := Lr_get h i d hd
  exact ⟨u, hu, ho u (List.mem_of_getElem? hu), hv⟩

/-- A value, in a state with one object more. -/
theorem OpL.newObj {P : Program} {o : Oper} {ρ : Operand → D} {s : Sg} {nm : Nat} (rd : List Nat) (ds : List D) (e : TypeId) (es : Nat) (d : D) (hnd : ∀ c, o.op ≠ .defer c)
    (h : ∀ (E : Env) (X : Ctx) (s' : Sg) (a : Act), Sim E X s' → (∀ id ∈ rd, s' id = s id) → (∀ x ∈ o.op.operands.toList, Vr X (ρ x) (a.eval x)) →
      ∃ (cur : Array Value) (v : Value), (execOp a.eval o).run P X.w = .ok (.value v) (X.w.alloc (.cells cur e)) ∧
      ds.length ≤ cur.size ∧ (∀ (i : Nat) (d : D), ds[i]? = some d → ∃ u, cur[i]? = some u ∧ u.oneCell' = true ∧ Vr X d u) ∧ Vr (X.new nm cur e es) d v) :
    OpL P o ρ s nm ⟨d, [(nm, some ⟨ds, e, es, false⟩)], rd, 1⟩ := by
  intro s' hrd E ro m X a Q hs ho hnm
  obtain ⟨cur, v, hr, hl, hds, hv⟩ := h E X s' a hs hrd ho
  have hf : X.μ nm = none := hnm nm (Nat.le_refl _) (Nat.lt_succ_self _)
  obtain ⟨h1, h2⟩ := hs.new hf cur e es ds hl hds
  refine wpIn_of_value hnd hr ⟨X.new nm cur e es, v, rfl, rfl, h1, h2, hv, fun id hid => ?_⟩
  by_cases hn : id = nm
  · exact .inr ⟨by omega, by show id < nm + 1; omega⟩
  · left; simpa [Ctx.new, upd_other _ _ hn] using hid

def zeroD (P : Program) (t : TypeId) : List D :=
  match (P.info? t).bind (·.zero) with
  | some v => v.cells.toList.map ofV1
  | none => []
/-- The type's zero value is known, has the type's size, and its cells are cells. -/
def zok (P : Program) (t : TypeId) : Bool :=
  match P.info? t with
  | some i =>
    match i.zero with
    | some z => z.cells.size == i.size && z.cells.all (·.oneCell')
    | none => false
  | none => false
def bytesOf (P : Program) (t : TypeId) : Nat := ((P.info? t).map (·.bytes)).getD 0

theorem zok_spec {P : Program} {t : TypeId} (h : zok P t = true) : ∃ i z, P.info? t = some i ∧ i.zero = some z ∧ z.cells.size = szOf P t ∧ i.size = szOf P t ∧ i.bytes = bytesOf P t ∧ (∀ u ∈ z.cells.toList, u.oneCell' = true) ∧ zeroD P t = z.cells.toList.map ofV1 := by
  unfold zok at h
  cases hi : P.info? t with
  | none => rw [hi] at h; cases h
  | some i =>
    rw [hi] at h
    simp only at h
    cases hz : i.zero with
    | none => rw [hz] at h; cases h
    | some z =>
      rw [hz] at h
      simp only [Bool.and_eq_true, beq_iff_eq, Array.all_eq_true_iff_forall_mem] at h
      exact ⟨i, z, rfl, hz, by simp [szOf, hi, h.1], by simp [szOf, hi], by simp [bytesOf, hi], fun u hu => h.2 u (by simpa using hu), by simp [zeroD, hi, hz]⟩

theorem run_zeroValue {P : Program} {w : World} {t : TypeId} {i : TypeInfo} {z : Value} (hi : P.info? t = some i) (hz : i.zero = some z) : (zeroValue t).run P w = .ok z w := by
  simp [zeroValue, typeInfo, hi, hz]

theorem map_ofV1_get {X : Ctx} {vs : List Value} (ho : ∀ u ∈ vs, u.oneCell' = true) : ∀ (i : Nat) (d : D), (vs.map ofV1)[i]? = some d → ∃ u, vs[i]? = some u ∧ u.oneCell' = true ∧ Vr X d u := by
  intro i d hd
  simp only [List.getElem?_map, Option.map_eq_some_iff] at hd
  obtain ⟨u, hu, rfl⟩ := hd
  exact ⟨u, hu, ho u (List.mem_of_getElem? hu), ofV1_ok X u⟩

section
variable {P : Program}

/-- 'box': a variable of a value. -/
theorem OpL.box {o : Oper} {ρ : Operand → D} {s : Sg} {nm : Nat} {e : TypeId} {x : Operand} {cs : List D} (ho : o.op = .box e x) (hc : vcells (ρ x) = some cs) :
    OpL P o ρ s nm ⟨.pt nm 0, [(nm, some ⟨cs, e, 0, false⟩)], [], 1⟩ := by
  refine OpL.newObj [] cs e 0 (.pt nm 0) (by simp [ho]) (fun E X s' a hs _ hop => ?_)
  have hv := hop x (by simp [ho, Op.operands])
  obtain ⟨h1, h2⟩ := vcells_ok hc hv
  refine ⟨(a.eval x).cells, .pointer (some ⟨X.w.heap.size, 0, none⟩), ?_, ?_, ?_, ?_⟩
  · unfold execOp
    simp only [ho]
    rfl
  · rw [← Array.length_toList, Lr_length h1]; exact Nat.le_refl _
  · intro i d hd
    obtain ⟨u, hu, r⟩ := h1.get' h2 i d hd
    exact ⟨u, by simpa using hu, r⟩
  · simp [Vr, Ctx.new]

/-- 'alloc': a variable of the zero value. -/
theorem OpL.alloc {o : Oper} {ρ : Operand → D} {s : Sg} {nm : Nat} {e : TypeId} (ho : o.op = .alloc e) (hz : zok P e = true) :
    OpL P o ρ s nm ⟨.pt nm 0, [(nm, some ⟨zeroD P e, e, 0, false⟩)], [], 1⟩ := by
  refine OpL.newObj [] (zeroD P e) e 0 (.pt nm 0) (by simp [ho]) (fun E X s' a hs _ hop => ?_)
  obtain ⟨i, z, hi, hiz, hs, _, _, hone, hzd⟩ := zok_spec hz
  refine ⟨z.cells, .pointer (some ⟨X.w.heap.size, 0, none⟩), ?_, by simp [hzd], ?_, ?_⟩
  · unfold execOp
    simp only [ho]
    simp only [Instr.alloc, Sem.run_bind, run_zeroValue hi hiz, Result.andThen]
    rfl
  · intro j d hd
    rw [hzd] at hd
    obtain ⟨u, hu, r⟩ := map_ofV1_get hone j d hd
    exact ⟨u, by simpa using hu, r⟩
  · simp [Vr, Ctx.new]

/-! ### structs and arrays -/
def splice (cs : List D) (off : Nat) (new : List D) : List D := cs.take off ++ new ++ cs.drop (off + new.length)
def vfill (place : Nat → Option (Nat × Nat)) (cells : List D) : List (Nat × D) → Option (List D)
  | [] => some cells
  | (i, d) :: rest =>
    match place i, vcells d with
    | some (off, size), some cs => if cs.length = size ∧ off + cs.length ≤ cells.length then vfill place (splice cells off cs) rest else none
    | _, _ => none

theorem foldl_set (off : Nat) : ∀ (l : List Value) (k : Nat) (cells : Array Value), off + k + l.length ≤ cells.size →
    ((l.zipIdx k).foldl (fun cs (c, j) => cs.setIfInBounds (off + j) c) cells).toList = cells.toList.take (off + k) ++ l ++ cells.toList.drop (off + k + l.length)
  | [], k, cells, _ => by simp
  | v :: l, k, cells, h => by
    simp only [List.length_cons] at h
    simp only [List.zipIdx_cons, List.foldl_cons]
    rw [foldl_set off l (k + 1) _ (by simp; omega)]
    simp only [Array.toList_setIfInBounds, List.length_cons]
    have h1 : off + k < cells.toList.length := by simp; omega
    rw [show off + (k + 1) = off + k + 1 by omega]
    apply List.ext_getElem?
    intro j
    simp only [List.getElem?_append, List.length_append, List.length_take, List.length_set, Array.length_toList, List.length_cons, List.getElem?_take, List.getElem?_drop, List.getElem?_set, List.getElem?_cons]
    simp only [Array.length_toList] at h1
    by_cases c1 : j < off + k
    · have e1 : j < min (off + k + 1) cells.size + l.length := by omega
      have e2 : j < min (off + k + 1) cells.size := by omega
      have e3 : j < min (off + k) cells.size + (l.length + 1) := by omega
      have e4 : j < min (off + k) cells.size := by omega
      have e5 : ¬ off + k = j := by omega
      have e6 : j < off + k + 1 := by omega
      simp only [e1, e2, e3, e4, e5, e6, c1, if_true, if_false]
    · by_cases c2 : j = off + k
      · subst c2
        have e1 : off + k < min (off + k + 1) cells.size + l.length := by omega
        have e2 : off + k < min (off + k + 1) cells.size := by omega
        have e3 : off + k < min (off + k) cells.size + (l.length + 1) := by omega
        have e4 : ¬ off + k < min (off + k) cells.size := by omega
        have e5 : off + k < off + k + 1 := by omega
        have e6 : off + k - min (off + k) cells.size = 0 := by omega
        simp only [e1, e2, e3, e4, e5, e6, if_true, if_false, h1]
      · by_cases c3 : j < off + k + 1 + l.length
        · have e1 : j < min (off + k + 1) cells.size + l.length := by omega
          have e2 : ¬ j < min (off + k + 1) cells.size := by omega
          have e3 : j < min (off + k) cells.size + (l.length + 1) := by omega
          have e4 : ¬ j < min (off + k) cells.size := by omega
          have e5 : ¬ j - min (off + k) cells.size = 0 := by omega
          have e6 : j - min (off + k + 1) cells.size = j - min (off + k) cells.size - 1 := by omega
          simp only [e1, e2, e3, e4, e5, e6, if_true, if_false]
        · have e1 : ¬ j < min (off + k + 1) cells.size + l.length := by omega
          have e3 : ¬ j < min (off + k) cells.size + (l.length + 1) := by omega
          have e5 : ¬ off + k = off + k + 1 + l.length + (j - (min (off + k + 1) cells.size + l.length)) := by omega
          have e6 : off + k + 1 + l.length + (j - (min (off + k + 1) cells.size + l.length)) = off + k + (l.length + 1) + (j - (min (off + k) cells.size + (l.length + 1))) := by omega
          simp only [e1, e3, if_false]
          rw [if_neg e5, e6]

/-- Parts, by their places. -/
def Pr (X : Ctx) : List (Nat × D) → List (Nat × Value) → Prop
  | [], vs => vs = []
  | (i, d) :: ds, vs => ∃ v r, vs = (i, v) :: r ∧ Vr X d v ∧ Pr X ds r

theorem vfill_ok {X : Ctx} {place : Nat → Option (Nat × Nat)} : ∀ (ps : List (Nat × D)) (vs : List (Nat × Value)) (cells : List D) (arr : Array Value) (cs : List D),
    vfill place cells ps = some cs → Pr X ps vs → Lr X cells arr.toList → (∀ u ∈ arr.toList, u.oneCell' = true) →
    ∃ arr', Instr.fill place arr vs = some arr' ∧ Lr X cs arr'.toList ∧ (∀ u ∈ arr'.toList, u.oneCell' = true)
  | [], vs, cells, arr, cs, h, hp, hl, ho => by
    simp only [vfill, Option.some.injEq] at h; subst h
    simp only [Pr] at hp; subst hp
    exact ⟨arr, rfl, hl, ho⟩
  | (i, d) :: ps, vs, cells, arr, cs, h, hp, hl, ho => by
    simp only [Pr] at hp
    obtain ⟨v, r, rfl, hv, hp⟩ := hp
    simp only [vfill] at h
    split at h
    · rename_i off size es hpl hes
      split at h
      · rename_i hc
        obtain ⟨h1, h2⟩ := vcells_ok hes hv
        have hlen := Lr_length h1
        have hlen2 := Lr_length hl
        simp only [Array.length_toList] at hlen hlen2
        have e : ((v.cells.zipIdx).foldl (fun cs (c, j) => cs.setIfInBounds (off + j) c) arr).toList = arr.toList.take off ++ v.cells.toList ++ arr.toList.drop (off + v.cells.toList.length) := by
          have := foldl_set off v.cells.toList 0 arr (by simp; omega)
          rw [Nat.add_zero] at this
          rw [← this, ← Array.foldl_toList]
          simp
        have hnew : Lr X (splice cells off es) ((v.cells.zipIdx).foldl (fun cs (c, j) => cs.setIfInBounds (off + j) c) arr).toList := by
          rw [e]
          unfold splice
          have a1 : Lr X (cells.take off) (arr.toList.take off) := by
            have := Lr_cut hl 0 off (by omega)
            simpa using this
          have a2 : Lr X (cells.drop (off + es.length)) (arr.toList.drop (off + v.cells.toList.length)) := by
            have := Lr_cut hl (off + es.length) (cells.length - (off + es.length)) (by omega)
            rw [List.take_of_length_le (by simp), List.take_of_length_le (by simp; omega)] at this
            have e2 : v.cells.toList.length = es.length := by simp [hlen]
            rw [e2]; exact this
          exact Lr_append (Lr_append a1 h1) a2
        obtain ⟨arr', f1, f2, f3⟩ := vfill_ok ps r _ _ cs h hp hnew (fun u hu => by
          rw [e] at hu
          simp only [List.mem_append] at hu
          rcases hu with (hu | hu) | hu
          · exact ho u (List.mem_of_mem_take hu)
          · exact h2 u hu
          · exact ho u (List.mem_of_mem_drop hu))
        refine ⟨arr', ?_, f2, f3⟩
        unfold Instr.fill
        rw [hpl]
        simp only
        rw [if_neg]
        · exact f1
        · simp only [ne_eq, Bool.or_eq_true, decide_eq_true_eq, not_or, Decidable.not_not, Nat.not_lt]
          omega
      · cases h
    · cases h

end
end Go.Proofs.YtglnkfpmogaifaaGreatDoor.V

/-
  Building structs, arrays and slices; make; stores; append; copy.
-/
namespace Go.Proofs.YtglnkfpmogaifaaGreatDoor.V
open Go Go.RowKit

/-- The places of a type's parts. -/
def placeOf (P : Program) (t : TypeId) : Nat → Option (Nat × Nat) := fun i =>
  match P.underlying t with
  | some (.struct fs) => (fs[i]?).map fun f => (f.offset, szOf P f.type)
  | some (.array _ e) => some (i * szOf P e, szOf P e)
  | _ => none
/-- A type of parts, all of which are known. -/
def placesOk (P : Program) (t : TypeId) : Bool :=
  match P.underlying t with
  | some (.struct fs) => fs.all fun f => known P f.type
  | some (.array _ e) => known P e
  | _ => false
def vparts (ρ : Operand → D) (parts : List (Nat × Operand)) : List (Nat × D) := parts.map fun p => (p.1, ρ p.2)
def vbuild (P : Program) (t : TypeId) (ps : List (Nat × D)) : Option D :=
  if placesOk P t && zok P t then (vfill (placeOf P t) (zeroD P t) ps).map .ag else none

theorem run_mapM_list {P : Program} {w : World} {α β : Type} (f : α → Sem β) (g : α → β) : ∀ (l : List α), (∀ x ∈ l, (f x).run P w = .ok (g x) w) → (l.mapM f).run P w = .ok (l.map g) w
  | [], _ => rfl
  | x :: l, h => by
    rw [List.mapM_cons, Sem.run_bind, h x (by simp)]
    simp only [Result.andThen]
    rw [Sem.run_bind, run_mapM_list f g l (fun y hy => h y (by simp [hy]))]
    rfl

theorem Pr_parts {X : Ctx} {ρ : Operand → D} {a : Act} : ∀ (parts : List (Nat × Operand)), (∀ p ∈ parts, Vr X (ρ p.2) (a.eval p.2)) → Pr X (vparts ρ parts) (parts.map fun (i, x) => (i, a.eval x))
  | [], _ => by simp [vparts, Pr]
  | p :: parts, h => by
    simp only [vparts, List.map_cons, Pr]
    exact ⟨_, _, rfl, h p (by simp), Pr_parts parts fun q hq => h q (by simp [hq])⟩

theorem Lr_zero {X : Ctx} {vs : List Value} : Lr X (vs.map ofV1) vs :=
  Lr_of_get (by simp) fun i d v hd hv => by
    simp only [List.getElem?_map, hv, Option.map_some, Option.some.injEq] at hd
    subst hd
    exact ofV1_ok X v

theorem vbuild_ok {P : Program} {X : Ctx} {ρ : Operand → D} {a : Act} {t : TypeId} {parts : Array (Nat × Operand)} {d : D} (hg : ∀ p ∈ parts.toList, Vr X (ρ p.2) (a.eval p.2)) (h : vbuild P t (vparts ρ parts.toList) = some d) :
    ∃ v, (Instr.build t (parts.map fun (i, x) => (i, a.eval x))).run P X.w = .ok v X.w ∧ Vr X d v := by
  unfold vbuild at h
  split at h
  · rename_i hk
    simp only [Bool.and_eq_true] at hk
    simp only [Option.map_eq_some_iff] at h
    obtain ⟨cs, hf, rfl⟩ := h
    obtain ⟨i, z, hi, hz, hs, _, _, hone, hzd⟩ := zok_spec hk.2
    rw [hzd] at hf
    obtain ⟨arr, f1, f2, f3⟩ := vfill_ok _ _ _ z.cells cs hf (Pr_parts parts.toList hg) Lr_zero hone
    have f1' : Instr.fill (placeOf P t) z.cells (parts.map fun (i, x) => (i, a.eval x)).toList = some arr := by simpa using f1
    refine ⟨.agg arr, ?_, by simp only [Vr]; exact ⟨arr, rfl, f2⟩⟩
    have hp := hk.1
    unfold placesOk at hp
    unfold Instr.build
    rw [Sem.run_bind, run_zeroValue hi hz]
    simp only [Result.andThen]
    rw [Sem.run_bind]
    split at hp
    · rename_i fs hul
      rw [run_underlying hul]
      simp only [Result.andThen]
      simp only [Array.all_eq_true_iff_forall_mem] at hp
      rw [Sem.run_bind]
      have hm : (fs.mapM fun f => (do pure (f.offset, ← sizeOf f.type) : Sem (Nat × Nat))).run P X.w = .ok (fs.map fun f => (f.offset, szOf P f.type)) X.w := by
        rw [Array.mapM_eq_mapM_toList, ← bind_pure_comp, Sem.run_bind, run_mapM_list _ (fun f => (f.offset, szOf P f.type))]
        · simp only [Result.andThen, Sem.run_pure]
          congr 1
          apply Array.ext'
          simp
        · intro f hf
          rw [Sem.run_bind, run_sizeOf (hp f (by simpa using hf))]
          rfl
      rw [hm]
      simp only [Result.andThen]
      have e : (fun x => (fs.map fun f => (f.offset, szOf P f.type))[x]?) = placeOf P t := by
        funext x
        simp [placeOf, hul]
      rw [e, f1']
      rfl
    · rename_i n e hul
      rw [run_underlying hul]
      simp only [Result.andThen]
      rw [Sem.run_bind, run_sizeOf hp]
      simp only [Result.andThen]
      have e' : (fun i => some (i * szOf P e, szOf P e)) = placeOf P t := by
        funext x
        simp [placeOf, hul]
      rw [e', f1']
      rfl
    · cases hp
  · cases h

section
variable {P : Program}

/-- So many zero values, one behind the other. -/
def zrow (P : Program) (e : TypeId) (n : Nat) : List D := (List.replicate n (zeroD P e)).flatten

theorem flatten_replicate_get {α : Type} (l : List α) : ∀ (n i : Nat), i < n * l.length → (List.replicate n l).flatten[i]? = l[i % l.length]?
  | 0, i, h => by simp at h
  | n + 1, i, h => by
    rw [List.replicate_succ, List.flatten_cons, List.getElem?_append]
    split
    · rename_i hi
      rw [Nat.mod_eq_of_lt hi]
    · rename_i hi
      rw [Nat.succ_mul] at h
      rw [flatten_replicate_get l n (i - l.length) (by omega), ← Nat.mod_eq_sub_mod (by omega)]

theorem madeCells_get {z : Array Value} {n j : Nat} (hz : 0 < z.size) (hj : j < n) : (madeCells z n)[j]? = z[j % z.size]? := by
  have hm : j % z.size < z.size := Nat.mod_lt _ hz
  unfold madeCells
  rw [Array.getElem?_map, Array.getElem?_range, if_pos hj]
  simp only [Option.map_some]
  rw [Array.getElem?_eq_getElem hm, getElem!_pos z _ hm]

theorem zrow_ok {X : Ctx} {e : TypeId} {z : Value} {n m : Nat} (hs : z.cells.size = szOf P e) (hpos : 0 < szOf P e) (hzd : zeroD P e = z.cells.toList.map ofV1) (hone : ∀ u ∈ z.cells.toList, u.oneCell' = true) (hm : n * szOf P e ≤ m) :
    (zrow P e n).length = n * szOf P e ∧ ∀ (i : Nat) (d : D), (zrow P e n)[i]? = some d → ∃ u, (madeCells z.cells m)[i]? = some u ∧ u.oneCell' = true ∧ Vr X d u := by
  have hl : (zeroD P e).length = szOf P e := by rw [hzd]; simp [hs]
  have hlen : (zrow P e n).length = n * szOf P e := by simp [zrow, hl]
  refine ⟨hlen, fun i d hd => ?_⟩
  have hi : i < n * szOf P e := by rw [← hlen]; exact (List.getElem?_eq_some_iff.1 hd).1
  unfold zrow at hd
  rw [flatten_replicate_get _ _ _ (by rw [hl]; exact hi), hl, hzd] at hd
  rw [madeCells_get (by omega) (by omega), hs]
  obtain ⟨u, hu, r⟩ := map_ofV1_get hone _ d hd
  exact ⟨u, by simpa using hu, r⟩

/-- 'buildSlice': a slice with parts. -/
def vbuildSlice (P : Program) (e : TypeId) (len : Nat) (ps : List (Nat × D)) : Option (List D) :=
  if known P e && zok P e && szOf P e != 0 && decide (len * szOf P e ≤ 16777216) then vfill (fun i => some (i * szOf P e, szOf P e)) (zrow P e len) ps else none

theorem vfill_length {place : Nat → Option (Nat × Nat)} : ∀ (ps : List (Nat × D)) (cells cs : List D), vfill place cells ps = some cs → cs.length = cells.length
  | [], cells, cs, h => by simp only [vfill, Option.some.injEq] at h; rw [h]
  | (i, d) :: ps, cells, cs, h => by
    simp only [vfill] at h
    split at h
    · split at h
      · rename_i hc
        rw [vfill_length ps _ cs h]
        simp only [splice, List.length_append, List.length_take, List.length_drop]
        omega
      · cases h
    · cases h

theorem OpL.buildSlice {o : Oper} {ρ : Operand → D} {s : Sg} {nm : Nat} {t e : TypeId} {len : Nat} {parts : Array (Nat × Operand)} {cs : List D} (ho : o.op = .buildSlice t len parts) (hu : P.underlying t = some (.slice e))
    (h : vbuildSlice P e len (vparts ρ parts.toList) = some cs) : OpL P o ρ s nm ⟨.rf nm 0 len (szOf P e), [(nm, some ⟨cs, e, szOf P e, false⟩)], [], 1⟩ := by
  unfold vbuildSlice at h
  split at h
  · rename_i hk
    simp only [Bool.and_eq_true, bne_iff_ne, ne_eq, decide_eq_true_eq] at hk
    obtain ⟨⟨⟨hk1, hk2⟩, hk3⟩, hk4⟩ := hk
    obtain ⟨i, z, hi, hz, hzs, _, _, hone, hzd⟩ := zok_spec hk2
    have hlen := vfill_length _ _ _ h
    have hbig : len ≤ 16777216 := Nat.le_trans (Nat.le_mul_of_pos_right len (by omega)) hk4
    refine OpL.newObj [] cs e (szOf P e) (.rf nm 0 len (szOf P e)) (by simp [ho]) (fun E X s' a hs _ hop => ?_)
    have hg : ∀ p ∈ parts.toList, Vr X (ρ p.2) (a.eval p.2) := fun p hp => hop p.2 (by
      simp only [ho, Op.operands, List.mem_map]
      exact ⟨p, hp, rfl⟩)
    have hzr := zrow_ok (P := P) (X := X) (e := e) (n := len) (m := len * szOf P e) hzs (by omega) hzd hone (Nat.le_refl _)
    have hmade : (madeCells z.cells (len * szOf P e)).size = len * szOf P e := size_madeCells _ _
    have hmo : ∀ u ∈ (madeCells z.cells (len * szOf P e)).toList, u.oneCell' = true := by
      intro u hu
      obtain ⟨j, hj⟩ := List.mem_iff_getElem?.1 hu
      have hj' : (madeCells z.cells (len * szOf P e))[j]? = some u := by simpa using hj
      have hjl : j < len * szOf P e := by rw [← hmade]; exact (Array.getElem?_eq_some_iff.1 hj').1
      rw [madeCells_get (by omega) hjl] at hj'
      exact hone u (List.mem_of_getElem? (by simpa using hj'))
    have hL : Lr X (zrow P e len) (madeCells z.cells (len * szOf P e)).toList :=
      Lr_of_get (by rw [hzr.1]; simp [hmade]) fun j d v hd hv => by
        obtain ⟨u, hu, _, hr⟩ := hzr.2 j d hd
        have : (madeCells z.cells (len * szOf P e))[j]? = some v := by simpa using hv
        rw [this] at hu; cases hu; exact hr
    obtain ⟨arr, f1, f2, f3⟩ := vfill_ok _ _ _ (madeCells z.cells (len * szOf P e)) cs h (Pr_parts parts.toList hg) hL hmo
    have f1' : Instr.fill (fun i => some (i * szOf P e, szOf P e)) (madeCells z.cells (len * szOf P e)) (parts.map fun (i, x) => (i, a.eval x)).toList = some arr := by simpa using f1
    have hal : arr.size = len * szOf P e := by
      have := Lr_length f2
      rw [hlen, hzr.1] at this
      simpa using this
    refine ⟨arr, .slice (some ⟨X.w.heap.size, 0, none⟩) len len, ?_, by rw [hal, hlen, hzr.1]; exact Nat.le_refl _, ?_, ?_⟩
    · unfold execOp
      simp only [ho]
      rw [Sem.run_bind]
      have : (Instr.buildSlice t len (parts.map fun (i, x) => (i, a.eval x))).run P X.w = .ok (.slice (some ⟨X.w.heap.size, 0, none⟩) len len) (X.w.alloc (.cells arr e)) := by
        unfold Instr.buildSlice
        rw [Sem.run_bind, run_underlying hu]
        simp only [Result.andThen]
        rw [Sem.run_bind, run_sizeOf hk1]
        simp only [Result.andThen]
        rw [if_neg (by omega)]
        by_cases h0 : len * szOf P e = 0
        · rw [if_pos h0, Sem.run_bind]
          simp only [Sem.run_pure, Result.andThen]
          have e0 : (Array.range (len * szOf P e)).map ((#[] : Array Value)[· % (#[] : Array Value).size]!) = madeCells z.cells (len * szOf P e) := by
            rw [h0]; simp [madeCells]
          rw [e0, f1']
          rfl
        · rw [if_neg h0, Sem.run_bind, run_zeroValue hi hz]
          simp only [Result.andThen]
          rw [Sem.run_bind]
          simp only [Sem.run_pure, Result.andThen]
          have e0 : (Array.range (len * szOf P e)).map (z.cells[· % z.cells.size]!) = madeCells z.cells (len * szOf P e) := rfl
          rw [e0, f1']
          rfl
      rw [this]
      rfl
    · intro j d hd
      obtain ⟨u, hu, r⟩ := f2.get' f3 j d hd
      exact ⟨u, by simpa using hu, r⟩
    · simp only [Vr, Ctx.new, upd_same]
      exact ⟨_, len, rfl, rfl, Nat.le_refl _, by unfold maxLen; omega, fun _ _ => by rw [hal]⟩
  · cases h

/-- 'make' of a slice. -/
theorem OpL.makeSlice {o : Oper} {ρ : Operand → D} {s : Sg} {nm : Nat} {t e : TypeId} {xl xc : Operand} {kl kc : IntKind} {l c : Int} (ho : o.op = .makeSlice t xl xc) (hu : P.underlying t = some (.slice e))
    (hk : (known P e && zok P e && szOf P e != 0) = true) (hl : ρ xl = .sc (.int kl l)) (hc : ρ xc = .sc (.int kc c)) (h0 : 0 ≤ l) (hlc : l ≤ c) (hb : (bytesOf P e : Int) * c ≤ 281474976710656) (hm : c ≤ maxLen) :
    OpL P o ρ s nm ⟨.rf nm 0 l.toNat (szOf P e), [(nm, some ⟨zrow P e l.toNat, e, szOf P e, false⟩)], [], 1⟩ := by
  simp only [Bool.and_eq_true, bne_iff_ne, ne_eq] at hk
  obtain ⟨⟨hk1, hk2⟩, hk3⟩ := hk
  obtain ⟨i, z, hi, hz, hzs, his, hib, hone, hzd⟩ := zok_spec hk2
  refine OpL.newObj [] (zrow P e l.toNat) e (szOf P e) (.rf nm 0 l.toNat (szOf P e)) (by simp [ho]) (fun E X s' a hs _ hop => ?_)
  have hle : l.toNat * szOf P e ≤ c.toNat * szOf P e := Nat.mul_le_mul_right _ (by omega)
  have hzr := zrow_ok (P := P) (X := X) (e := e) (n := l.toNat) (m := c.toNat * szOf P e) hzs (by omega) hzd hone hle
  have e1 := hop xl (by simp [ho, Op.operands])
  have e2 := hop xc (by simp [ho, Op.operands])
  rw [hl] at e1; rw [hc] at e2
  simp only [Vr] at e1 e2
  have hms : (maxLen : Int) ≤ 9223372036854775807 := by unfold maxLen; omega
  refine ⟨madeCells z.cells (c.toNat * szOf P e), .slice (some ⟨X.w.heap.size, 0, none⟩) l.toNat c.toNat, ?_, by rw [size_madeCells, hzr.1]; exact hle, hzr.2, ?_⟩
  · unfold execOp
    simp only [ho, e1, e2]
    rw [Sem.run_bind, run_make X.w t e i z hu hi hz kl kc l c h0 hlc (by rw [hib]; exact hb) (by omega), his]
    rfl
  · simp only [Vr, Ctx.new, upd_same]
    exact ⟨_, c.toNat, rfl, rfl, by omega, by omega, fun _ _ => by rw [size_madeCells]⟩

/-- A store into an object. -/
theorem OpL.store {o : Oper} {ρ : Operand → D} {s : Sg} {nm : Nat} {t : TypeId} {x y : Operand} {id off : Nat} {ob : O} {cs : List D} (ho : o.op = .store t x y) (hk : known P t = true) (hx : ρ x = .pt id off)
    (hob : s id = some ob) (hfz : ob.fz = false) (hc : vcells (ρ y) = some cs) (hl : cs.length = szOf P t) (hfit : off + cs.length ≤ ob.cells.length) :
    OpL P o ρ s nm ⟨.sc undef, [(id, some ⟨splice ob.cells off cs, ob.elem, ob.es, false⟩)], [id], 0⟩ := by
  intro s' hrd E ro m X a Q hs hop _
  have hob' : s' id = some ob := by rw [hrd id (by simp)]; exact hob
  have e1 := hop x (by simp [ho, Op.operands])
  have e2 := hop y (by simp [ho, Op.operands])
  rw [hx] at e1
  simp only [Vr] at e1
  obtain ⟨l, hml, ev1⟩ := e1
  obtain ⟨l', hl', hor, hblk⟩ := hs.objs id ob hob'
  rw [hml] at hl'; cases hl'
  obtain ⟨cur, hcur, hsz, hes, hle, hcells⟩ := hor
  obtain ⟨h1, h2⟩ := vcells_ok hc e2
  have hvl := Lr_length h1
  have hst := run_storeCells_at P l.blk off ob.elem (a.eval y).cells.toList 0 cur X.w hcur (by omega) h2
  rw [Nat.add_zero] at hst
  have hrun : (execOp a.eval o).run P X.w = .ok .skip (X.w.setRow l.blk (cur.toList.take off ++ (a.eval y).cells.toList ++ cur.toList.drop (off + (a.eval y).cells.toList.length)).toArray) := by
    unfold execOp
    simp only [ho, ev1, Instr.storeAt, Instr.sureAddr]
    rw [Sem.run_bind, Sem.run_bind]
    simp only [Sem.run_pure, Result.andThen]
    unfold storeVar
    rw [Sem.run_bind, run_sizeOf hk]
    simp only [Result.andThen]
    rw [if_neg (by have : (a.eval y).cells.size = cs.length := by simpa using hvl
                   omega)]
    rw [hst]
  obtain ⟨s1, s2⟩ := hs.write (id := id) (o := ob) (l := l) hob' hfz hml (X.w.setRow l.blk (cur.toList.take off ++ (a.eval y).cells.toList ++ cur.toList.drop (off + (a.eval y).cells.toList.length)).toArray)
    (cur.toList.take off ++ (a.eval y).cells.toList ++ cur.toList.drop (off + (a.eval y).cells.toList.length)).toArray (splice ob.cells off cs) rfl rfl rfl (by simp) (fun b hb => setRow_other _ _ _ _ hb)
    (setRow_heap _ _ cur _ _ _ hcur) (by simp only [List.size_toArray, List.length_append, List.length_take, List.length_drop, Array.length_toList]; rw [← hsz]; simp only [Array.length_toList] at hvl; omega)
    (by simp only [splice, List.size_toArray, List.length_append, List.length_take, List.length_drop, Array.length_toList]; simp only [Array.length_toList] at hvl; omega)
    (by
      intro i d hd'
      simp only [List.getElem?_toArray]
      simp only [Array.length_toList] at hvl
      unfold splice at hd'
      simp only [List.getElem?_append, List.length_append, List.length_take, List.getElem?_take, List.getElem?_drop, Array.length_toList] at hd' ⊢
      have c1 : min off ob.cells.length = off := by omega
      have c2 : min off cur.size = off := by omega
      simp only [c1, c2] at hd' ⊢
      by_cases a1 : i < off
      · have b1 : i < off + cs.length := by omega
        have b2 : i < off + (a.eval y).cells.size := by omega
        simp only [a1, b1, b2, if_true] at hd' ⊢
        obtain ⟨u, hu, r⟩ := hcells i d hd'
        exact ⟨u, by simpa using hu, r⟩
      · by_cases a2 : i < off + cs.length
        · have b2 : i < off + (a.eval y).cells.size := by omega
          simp only [a1, a2, b2, if_true, if_false] at hd' ⊢
          exact h1.get' h2 _ d hd'
        · have b2 : ¬ i < off + (a.eval y).cells.size := by omega
          simp only [a2, b2, if_false] at hd' ⊢
          have b3 : off + (a.eval y).cells.size + (i - (off + (a.eval y).cells.size)) = off + cs.length + (i - (off + cs.length)) := by omega
          rw [b3]
          obtain ⟨u, hu, r⟩ := hcells _ d hd'
          exact ⟨u, by simpa using hu, r⟩)
  exact wpIn_of_skip (by simp [ho]) hrun ⟨{ X with w := _ }, undef, rfl, rfl, s1, s2, Vr_sc, fun id h => .inl h⟩

end
end Go.Proofs.YtglnkfpmogaifaaGreatDoor.V

/-
  append and copy.
-/
namespace Go.Proofs.YtglnkfpmogaifaaGreatDoor.V
open Go Go.RowKit

/-- What an append or a copy takes from its source. -/
structure Src (P : Program) (w : World) (size m : Nat) (x : Value) (news : List Value) : Prop where
  len : (Builtin.lenOf x).run P w = .ok m w
  cells : ∀ (w' : World) (k : Nat), (∀ a, w'.cell? a = w.cell? a) → k ≤ m → (Builtin.firstCells size k x).run P w' = .ok (news.take (k * size)).toArray w'
  length : news.length = m * size

/-- A type that an append's source may have. -/
def SrcT (P : Program) (u : TypeId) : Prop := (∃ e, P.underlying u = some (.slice e)) ∨ P.underlying u = some .string

section
variable {P : Program} {w : World} {t u ty e : TypeId} {i : TypeInfo}

theorem run_app_zero (ht : P.underlying t = some (.slice e)) (hu : SrcT P u) (hi : P.info? e = some i) {base : Option Addr} {n cap : Nat} {x : Value} (hx : Src P w i.size 0 x []) (hnc : n ≤ cap) :
    (Builtin.append_ #[t, u] ty #[.slice base n cap, x]).run P w = .ok (.slice base n cap) w := by
  have h1 := hx.len
  have h2 := hx.cells w 0 (fun _ => rfl) (Nat.le_refl _)
  simp only [Nat.zero_mul, List.take_zero] at h2
  rcases hu with ⟨e', hu⟩ | hu <;> cases base <;> simp [Builtin.append_, run_underlying ht, run_underlying hu, sizeOf, typeInfo, hi, h1, h2, hnc, storeCells]

theorem run_app_room (ht : P.underlying t = some (.slice e)) (hu : SrcT P u) (hi : P.info? e = some i) {g n cap m : Nat} {x : Value} {news : List Value} {cur : Array Value} (hx : Src P w i.size m x news)
    (hg : w.heap[g]? = some (.cells cur e (0, 0))) (hone : ∀ v ∈ news, v.oneCell' = true) (hroom : n + m ≤ cap) (hfit : n * i.size + news.length ≤ cur.size) :
    (Builtin.append_ #[t, u] ty #[.slice (some ⟨g, 0, none⟩) n cap, x]).run P w = .ok (.slice (some ⟨g, 0, none⟩) (n + m) cap) (w.setRow g (cur.toList.take (n * i.size) ++ news ++ cur.toList.drop (n * i.size + news.length)).toArray) := by
  have h1 := hx.len
  have h2 := hx.cells w m (fun _ => rfl) (Nat.le_refl _)
  rw [← hx.length, List.take_length] at h2
  have hst := run_storeCells_at P g (n * i.size) e news 0 cur w hg (by simpa using hfit) hone
  simp only [Nat.add_zero] at hst
  rcases hu with ⟨e', hu⟩ | hu <;> simp [Builtin.append_, run_underlying ht, run_underlying hu, sizeOf, typeInfo, hi, h1, h2, hroom, addr_add, hst]

theorem run_app_grow (ht : P.underlying t = some (.slice e)) (hu : SrcT P u) (hi : P.info? e = some i) {z : Value} (hz : i.zero = some z) {base : Option Addr} {n cap m : Nat} {x : Value} {olds news : List Value} (hx : Src P w i.size m x news)
    (ho : Src P w i.size n (.slice base n cap) olds) (hg : cap < n + m) (h63 : n + m ≤ maxLen) (hb : (n + m) * i.bytes ≤ 140737488355328) :
    (Builtin.append_ #[t, u] ty #[.slice base n cap, x]).run P w = .ok (.slice (some ⟨w.heap.size, 0, none⟩) (n + m) (grownCap w (n + m) cap e))
      (w.drew.alloc (.cells (olds.toArray ++ news.toArray ++ Builtin.zeroCells z.cells (grownCap w (n + m) cap e - (n + m))) e)) := by
  have h1 := hx.len
  have h2 := hx.cells w.drew m (fun _ => rfl) (Nat.le_refl _)
  have h3 := ho.cells w.drew n (fun _ => rfl) (Nat.le_refl _)
  rw [← hx.length, List.take_length] at h2
  rw [← ho.length, List.take_length] at h3
  have hfit := growslice_fits hg hb
  have e63' : ¬ (9223372036854775807 < (n : Int) + (m : Int)) := by
    unfold maxLen at h63
    omega
  have hnr : ¬ n + m ≤ cap := by omega
  have hfit' : ¬ 281474976710656 < Builtin.nextslicecap (n + m) cap * i.bytes := by omega
  rcases hu with ⟨e', hu⟩ | hu
  all_goals
    simp [Builtin.append_, run_underlying ht, run_underlying hu, sizeOf, typeInfo, hi, h1, h2, h3, hnr, e63', hfit', grownCap, zeroValue, hz, Question.forced, newRow]
    congr 2
    apply Array.ext'
    simp [List.append_assoc]

end
end Go.Proofs.YtglnkfpmogaifaaGreatDoor.V

/-
  append and copy in an abstract state.
-/
namespace Go.Proofs.YtglnkfpmogaifaaGreatDoor.V
open Go Go.RowKit

/-- What is taken from a source: how many elements, and their cells. -/
def vsrc (s : Sg) (sz : Nat) : D → Option (Nat × List D)
  | .em => some (0, [])
  | .sl m cs => if cs.length = m * sz then some (m, cs) else none
  | .rf id off m _ => (s id).bind fun o => if off + m * sz ≤ o.cells.length then some (m, (o.cells.drop off).take (m * sz)) else none
  | .sc (.slice _ 0 _) => some (0, [])
  | .sc (.string b) => if sz = 1 then some (b.size, b.data.toList.map fun x => .sc (.int .u8 x.toNat)) else none
  | _ => none
/-- The names that a source is looked up under. -/
def idsOf : D → List Nat
  | .rf id _ _ _ => [id]
  | .pt id _ => [id]
  | _ => []
theorem vsrc_agree {s s' : Sg} {sz : Nat} {y : D} (h : ∀ id ∈ idsOf y, s' id = s id) : vsrc s' sz y = vsrc s sz y := by
  cases y with
  | rf id off len es => simp only [vsrc]; rw [h id (by simp [idsOf])]
  | sc v =>
    cases v <;> try rfl
    rename_i a n c
    cases n <;> rfl
  | _ => rfl

section
variable {P : Program}

theorem Src.of_cells {w : World} {sz m cap b off : Nat} {news : List Value} (hl : news.length = m * sz) (h : ∀ (j : Nat) (u : Value), news[j]? = some u → w.cell? ⟨b, off + j, none⟩ = some u) :
    Src P w sz m (.slice (some ⟨b, off, none⟩) m cap) news := by
  refine ⟨rfl, fun w' k hw hk => ?_, hl⟩
  have hle : k * sz ≤ news.length := by rw [hl]; exact Nat.mul_le_mul_right _ hk
  show (loadCells ⟨b, off, none⟩ (k * sz)).run P w' = _
  have := run_loadCells_list (P := P) w' ⟨b, off, none⟩ (news.take (k * sz)) (fun j v hj => by
    rw [List.getElem?_take] at hj
    split at hj
    · rw [addr_add, hw]; exact h j v hj
    · cases hj)
  rwa [List.length_take, Nat.min_eq_left hle] at this

theorem Src.empty {w : World} {sz cap : Nat} {a : Option Addr} : Src P w sz 0 (.slice a 0 cap) [] := by
  refine ⟨rfl, fun w' k _ hk => ?_, by simp⟩
  obtain rfl : k = 0 := by omega
  cases a <;> simp [Builtin.firstCells, loadCells, loadCellsFrom]

theorem vsrc_ok {E : Env} {X : Ctx} {s : Sg} {sz m : Nat} {y : D} {v : Value} {cs : List D} (hs : Sim E X s) (h : vsrc s sz y = some (m, cs)) (hsz : sz ≠ 0) (hv : Vr X y v) :
    ∃ news, Src P X.w sz m v news ∧ Lr X cs news ∧ (∀ u ∈ news, u.oneCell' = true) := by
  unfold vsrc at h
  split at h
  · simp only [Option.some.injEq, Prod.mk.injEq] at h
    obtain ⟨rfl, rfl⟩ := h
    simp only [Vr] at hv
    obtain ⟨a, rfl⟩ := hv
    exact ⟨[], Src.empty, by simp [Lr], by simp⟩
  · rename_i m' cs'
    split at h
    · rename_i hl
      simp only [Option.some.injEq, Prod.mk.injEq] at h
      obtain ⟨rfl, rfl⟩ := h
      simp only [Vr] at hv
      obtain ⟨_, a, cap, rfl, _, hr⟩ := hv
      rcases hr with rfl | ⟨b, off, rfl, hb, hc⟩
      · have hm : m' = 0 := by
          simp only [List.length_nil] at hl
          rcases Nat.eq_zero_or_pos m' with h0 | h0
          · exact h0
          · have := Nat.mul_pos h0 (Nat.pos_of_ne_zero hsz); omega
        subst hm
        exact ⟨[], Src.empty, by simp [Lr], by simp⟩
      · obtain ⟨us, h1, h2, h3, h4⟩ := At.values (X := X) (b := b) (o := off) (Cr_iff.1 hc) 0 cs'.length (by omega)
        simp only [List.drop_zero, List.take_length, Nat.add_zero] at h2 h3
        exact ⟨us, Src.of_cells (by omega) h3, h2, h4⟩
    · cases h
  · rename_i id off m' es'
    simp only [Option.bind_eq_some_iff] at h
    obtain ⟨o, ho, h⟩ := h
    split at h
    · rename_i hl
      simp only [Option.some.injEq, Prod.mk.injEq] at h
      obtain ⟨rfl, rfl⟩ := h
      simp only [Vr] at hv
      obtain ⟨l, cap, hml, rfl, _⟩ := hv
      obtain ⟨l', hl', hor, _⟩ := hs.objs id o ho
      rw [hml] at hl'; cases hl'
      obtain ⟨us, h1, h2, h3, h4⟩ := hor.at_.values off (m' * sz) hl
      rw [Nat.zero_add] at h3
      exact ⟨us, Src.of_cells h1 h3, h2, h4⟩
    · cases h
  · simp only [Option.some.injEq, Prod.mk.injEq] at h
    obtain ⟨rfl, rfl⟩ := h
    simp only [Vr] at hv
    subst hv
    exact ⟨[], Src.empty, by simp [Lr], by simp⟩
  · rename_i b
    split at h
    · rename_i h1
      subst h1
      simp only [Option.some.injEq, Prod.mk.injEq] at h
      obtain ⟨rfl, rfl⟩ := h
      simp only [Vr] at hv
      subst hv
      refine ⟨b.data.toList.map fun x => .int .u8 x.toNat, ⟨rfl, fun w' k _ hk => ?_, by rw [List.length_map, Array.length_toList, Nat.mul_one]; rfl⟩, Lr_of_get (by simp) fun i d v hd hv => ?_, by simp [Value.oneCell']⟩
      · show (pure ((b.extract 0 k).data.map fun x => Value.int .u8 x.toNat) : Sem (Array Value)).run P w' = _
        rw [Sem.run_pure]
        congr 1
        apply Array.ext'
        simp [List.extract, ← List.map_take]
      · simp only [List.getElem?_map, Option.map_eq_some_iff] at hd hv
        obtain ⟨x, hx, rfl⟩ := hd
        obtain ⟨x', hx', rfl⟩ := hv
        rw [hx] at hx'; cases hx'
        exact Vr_sc
    · cases h
  · cases h

def vappend (P : Program) (s : Sg) (nm : Nat) (t : TypeId) (x y : D) : Option Eff :=
  match P.underlying t with
  | some (.slice e) =>
    if known P e && zok P e && szOf P e != 0 then
      (vsrc s (szOf P e) y).bind fun (m, cs) =>
        match x with
        | .em => if m = 0 then some ⟨.em, [], idsOf y, 1⟩ else if m ≤ maxLen ∧ m * bytesOf P e ≤ 140737488355328 then some ⟨.rf nm 0 m (szOf P e), [(nm, some ⟨cs, e, szOf P e, false⟩)], idsOf y, 1⟩ else none
        | .rf id 0 n _ => (s id).bind fun o =>
          if o.fz = false ∧ o.elem = e ∧ o.es = szOf P e ∧ o.cells.length = n * szOf P e ∧ n + m ≤ maxLen ∧ (n + m) * bytesOf P e ≤ 140737488355328 then
            some ⟨.rf nm 0 (n + m) (szOf P e), [(id, none), (nm, some ⟨o.cells ++ cs, e, szOf P e, false⟩)], id :: idsOf y, 1⟩
          else none
        | _ => none
    else none
  | _ => none
theorem vappend_agree {s s' : Sg} {nm : Nat} {t : TypeId} {x y : D} (h : ∀ id ∈ idsOf x ++ idsOf y, s' id = s id) : vappend P s' nm t x y = vappend P s nm t x y := by
  unfold vappend
  have hy : ∀ sz, vsrc s' sz y = vsrc s sz y := fun sz => vsrc_agree fun id hid => h id (by simp [hid])
  simp only [hy]
  cases x <;> try rfl
  rename_i id off n es
  have hx := h id (by simp [idsOf])
  cases off <;> simp [hx]
theorem vappend_rd {s : Sg} {nm : Nat} {t : TypeId} {x y : D} {f : Eff} (h : vappend P s nm t x y = some f) (hx : x = .em ∨ ∃ id n es, x = .rf id 0 n es) : ∀ id ∈ idsOf x ++ idsOf y, id ∈ f.rd := by
  unfold vappend at h
  split at h
  · split at h
    · simp only [Option.bind_eq_some_iff, Prod.exists] at h
      obtain ⟨m, cs, _, h⟩ := h
      rcases hx with rfl | ⟨id, n, es, rfl⟩
      · simp only at h
        split at h
        · simp only [Option.some.injEq] at h; subst h; simp [idsOf]
        · split at h
          · simp only [Option.some.injEq] at h; subst h; simp [idsOf]
          · cases h
      · simp only [Option.bind_eq_some_iff] at h
        obtain ⟨o, _, h⟩ := h
        split at h
        · simp only [Option.some.injEq] at h; subst h; simp [idsOf]
        · cases h
    · cases h
  · cases h

theorem write_drop (s : Sg) (id : Nat) (ds : List D) (e : TypeId) (es : Nat) : (s.write id ds e es).drop id = s.drop id := by
  funext j
  unfold Sg.drop Sg.write upd
  split <;> rfl

/-- What an append owes: the run, and the state behind it. -/
theorem vappend_ok {E : Env} {X : Ctx} {s : Sg} {nm : Nat} {t u ty : TypeId} {x y : D} {f : Eff} {vx vy : Value} (hs : Sim E X s) (hf : X.μ nm = none) (h : vappend P s nm t x y = some f) (hu : SrcT P u) (hx : Vr X x vx) (hy : Vr X y vy) :
    ∃ Y v, (Builtin.append_ #[t, u] ty #[vx, vy]).run P X.w = .ok v Y.w ∧ Sim E Y (s.app f.ws) ∧ Step X s Y (s.app f.ws) ∧ Vr Y f.d v ∧ ∀ id, id ≠ nm → Y.μ id = X.μ id := by
  unfold vappend at h
  split at h
  · rename_i e ht
    split at h
    · rename_i hk
      simp only [Bool.and_eq_true, bne_iff_ne, ne_eq] at hk
      obtain ⟨⟨hk1, hk2⟩, hk3⟩ := hk
      obtain ⟨i, z, hi, hz, hzs, his, hib, hone, hzd⟩ := zok_spec hk2
      simp only [Option.bind_eq_some_iff, Prod.exists] at h
      obtain ⟨m, cs, hsrc, h⟩ := h
      obtain ⟨news, hS, hL, hO⟩ := vsrc_ok (P := P) hs hsrc hk3 hy
      have hcl := Lr_length hL
      have hS' : Src P X.w i.size m vy news := by rw [his]; exact hS
      -- a new block behind a draw
      have fresh : ∀ (s1 : Sg) (n cap : Nat) (olds : List Value) (ds : List D) (base : Option Addr), Sim E X s1 → Step X s X s1 → Src P X.w i.size n (.slice base n cap) olds → Lr X ds olds → (∀ u ∈ olds, u.oneCell' = true) →
          cap < n + m → n + m ≤ maxLen → (n + m) * bytesOf P e ≤ 140737488355328 → ds.length = n * szOf P e →
          ∃ Y v, (Builtin.append_ #[t, u] ty #[.slice base n cap, vy]).run P X.w = .ok v Y.w ∧ Sim E Y (s1.new nm (ds ++ cs) e (szOf P e)) ∧ Step X s Y (s1.new nm (ds ++ cs) e (szOf P e)) ∧ Vr Y (.rf nm 0 (n + m) (szOf P e)) v ∧ ∀ id, id ≠ nm → Y.μ id = X.μ id := by
        intro s1 n cap olds ds base hs1 hst1 hSo hLo hOo hlt hm hb hdl
        have hr := run_app_grow (ty := ty) ht hu hi hz hS' hSo hlt hm (by rw [hib]; exact hb)
        obtain ⟨hw1, hw2⟩ := hs1.world (below_drew' X.w)
        have hcap := grownCap_ge X.w (n + m) cap e
        have hcapm := grownCap_le_maxLen X.w (n + m) cap e hm
        have hol := hSo.length
        have hnl := hS'.length
        have hsize : (olds.toArray ++ news.toArray ++ Builtin.zeroCells z.cells (grownCap X.w (n + m) cap e - (n + m))).size = grownCap X.w (n + m) cap e * szOf P e := by
          simp only [Array.size_append, List.size_toArray, size_zeroCells, hzs, hol, hnl, his, ← Nat.add_mul]
          congr 1
          omega
        obtain ⟨hn1, hn2⟩ := hw1.new (nm := nm) hf (olds.toArray ++ news.toArray ++ Builtin.zeroCells z.cells (grownCap X.w (n + m) cap e - (n + m))) e (szOf P e) (ds ++ cs)
          (by rw [hsize, List.length_append, hdl, ← hcl, hnl, his, ← Nat.add_mul]; exact Nat.mul_le_mul_right _ hcap)
          (fun j d hd => by
            have hL2 : Lr X (ds ++ cs) (olds ++ news) := Lr_append hLo hL
            obtain ⟨u, hu, r⟩ := hL2.get' (fun u hu => (List.mem_append.1 hu).elim (hOo u) (hO u)) j d hd
            refine ⟨u, ?_, r.1, Vr_later (hw2.later hs1) d r.2⟩
            rw [← Array.getElem?_toList]
            simp only [Array.toList_append]
            rw [List.getElem?_append_left (by have := (List.getElem?_eq_some_iff.1 hu).1; simpa using this)]
            exact hu)
        refine ⟨_, _, hr, hn1, (hst1.trans hw2).trans hn2, ?_, fun id hid => by simp [Ctx.new, upd_other _ _ hid]⟩
        simp only [Vr, Ctx.new]
        rw [upd_same]
        exact ⟨_, _, rfl, rfl, hcap, hcapm, fun _ _ => hsize.symm⟩
      split at h
      · -- em
        simp only [Vr] at hx
        obtain ⟨a, rfl⟩ := hx
        split at h
        · rename_i hm
          subst hm
          simp only [Option.some.injEq] at h
          subst h
          have : news = [] := List.eq_nil_of_length_eq_zero (by have := hS.length; omega)
          subst this
          exact ⟨X, _, run_app_zero (ty := ty) ht hu hi hS' (Nat.le_refl 0), hs, Step.refl _ _, by simp [Vr], fun _ _ => rfl⟩
        · rename_i hm
          split at h
          · rename_i hc
            simp only [Option.some.injEq] at h
            subst h
            have := fresh s 0 0 [] [] a hs (Step.refl _ _) Src.empty (by simp [Lr]) (by simp) (by omega) (by omega) (by rw [Nat.zero_add]; exact hc.2) (by simp)
            simpa [Sg.new] using this
          · cases h
      · rename_i id n es0
        simp only [Option.bind_eq_some_iff] at h
        obtain ⟨o, ho, h⟩ := h
        split at h
        · rename_i hc
          obtain ⟨hfz, hel, hes, hlen, hmx, hbx⟩ := hc
          simp only [Option.some.injEq] at h
          subst h
          simp only [Vr] at hx
          obtain ⟨l, cap, hml, rfl, hnc, hcm, hcs⟩ := hx
          obtain ⟨l', hl', hor, hblk⟩ := hs.objs id o ho
          rw [hml] at hl'; cases hl'
          obtain ⟨us, g1, g2, g3, g4⟩ := hor.at_.values 0 o.cells.length (by omega)
          simp only [List.drop_zero, List.take_length, Nat.add_zero] at g2 g3
          have hor' := hor
          obtain ⟨cur, hcur, hsz, hes', hle, hcells⟩ := hor
          rw [hel] at hcur
          have hsize : cap * szOf P e = cur.size := by rw [hsz, ← hcs trivial (by omega), ← hes', hes]
          by_cases hroom : n + m ≤ cap
          · have hnl := hS'.length
            have hfit : n * i.size + news.length ≤ cur.size := by rw [hnl, his, ← hsize, ← Nat.add_mul]; exact Nat.mul_le_mul_right _ hroom
            have hr := run_app_room (ty := ty) ht hu hi hS' hcur hO hroom hfit
            have hnI : ¬ X.I l.blk := fun e' => by have := (hs.notI id o l ho hml).1 e'; rw [hfz] at this; cases this
            have hcells' : ∀ (j : Nat) (d : D), (o.cells ++ cs)[j]? = some d → ∃ u, ((cur.toList.take (n * i.size) ++ news ++ cur.toList.drop (n * i.size + news.length)).toArray)[j]? = some u ∧ u.oneCell' = true ∧ Vr X d u := by
              intro j d hd
              have e1 : (cur.toList.take (n * i.size)).length = o.cells.length := by rw [List.length_take, his, hlen]; simp only [Array.length_toList]; omega
              simp only [List.getElem?_toArray]
              rw [List.append_assoc, List.getElem?_append]
              rw [List.getElem?_append] at hd
              rw [e1]
              split at hd
              · rename_i hj
                obtain ⟨u, hu, r⟩ := hcells j d hd
                refine ⟨u, ?_, r⟩
                rw [if_pos hj, List.getElem?_take, if_pos (by rw [his, ← hlen]; exact hj)]
                simpa using hu
              · rename_i hj
                obtain ⟨u, hu, r⟩ := hL.get' hO _ d hd
                refine ⟨u, ?_, r⟩
                rw [if_neg hj, List.getElem?_append_left (by exact (List.getElem?_eq_some_iff.1 hu).1)]
                exact hu
            obtain ⟨s1, s2⟩ := hs.write (id := id) (o := o) (l := l) ho hfz hml (X.w.setRow l.blk (cur.toList.take (n * i.size) ++ news ++ cur.toList.drop (n * i.size + news.length)).toArray) _ (o.cells ++ cs) rfl rfl rfl (by simp) (fun b hb => setRow_other _ _ _ _ hb)
              (by rw [hel]; exact setRow_heap _ _ cur _ _ _ hcur)
              (by simp only [List.size_toArray, List.length_append, List.length_take, List.length_drop, Array.length_toList]; rw [← hsz]; omega)
              (by simp only [List.size_toArray, List.length_append, List.length_take, List.length_drop, Array.length_toList]; rw [his] at hfit ⊢; omega) hcells'
            obtain ⟨s3, s4⟩ := s1.drop id
            rw [write_drop] at s3 s4
            have hor1 := s1.objs id ⟨o.cells ++ cs, o.elem, o.es, false⟩ (by simp [Sg.write])
            obtain ⟨l1, hl1, hor1, _⟩ := hor1
            have hl1' : X.μ id = some l1 := hl1
            rw [hml] at hl1'; cases hl1'
            rw [hel, hes] at hor1
            have hinj : ∀ id' o' l', (s.drop id) id' = some o' → X.μ id' = some l' → l'.blk ≠ l.blk := by
              intro id' o' l' ho' hl' hb
              have hne : id' ≠ id := by rintro rfl; simp [Sg.drop] at ho'
              have ho'' : s id' = some o' := by simpa [Sg.drop, upd_other _ _ hne] using ho'
              exact hne (hs.inj id' id o' o l' l ho'' ho hl' hml hb)
            have s5 := s3.name (nm := nm) hf l e (szOf P e) (o.cells ++ cs) hor1 hblk hnI hinj
            refine ⟨_, _, hr, s5, ⟨?_, fun _ e' => e', by simp [Ctx.name], ?_, ?_, fun _ e' => .inl e', fun _ e' => .inl e'⟩, ?_, fun id' hid => by simp [Ctx.name, upd_other _ _ hid]⟩
            · intro id' l' hl'
              show upd X.μ nm (some l) id' = some l'
              rw [upd_other]
              · exact hl'
              · intro e'; subst e'; rw [hf] at hl'; cases hl'
            · intro b hb hn _
              exact setRow_other _ _ _ _ (fun e' => hn ⟨id, o, l, ho, hfz, hml, e'.symm⟩)
            · rintro b ⟨id', o', l', h1, h2, h3, rfl⟩
              right
              by_cases hid : id' = nm
              · subst hid
                have h3' : upd X.μ id' (some l) id' = some l' := h3
                rw [upd_same] at h3'; cases h3'
                exact ⟨id, o, l, ho, hfz, hml, rfl⟩
              · have h3' : upd X.μ nm (some l) id' = some l' := h3
                rw [upd_other _ _ hid] at h3'
                have h1' : (s.drop id) id' = some o' := by
                  have : upd (s.drop id) nm _ id' = some o' := h1
                  rwa [upd_other _ _ hid] at this
                have hne : id' ≠ id := by rintro rfl; simp [Sg.drop] at h1'
                exact ⟨id', o', l', by simpa [Sg.drop, upd_other _ _ hne] using h1', h2, h3', rfl⟩
            · simp only [Vr]
              refine ⟨l, cap, ?_, rfl, hroom, hcm, hcs⟩
              show upd X.μ nm (some l) nm = some l
              simp
          · obtain ⟨s3, s4⟩ := hs.drop id
            exact fresh (s.drop id) n cap us o.cells (some ⟨l.blk, 0, none⟩) s3 s4 (by rw [his]; exact Src.of_cells (by omega) g3) g2 g4 (by omega) hmx hbx hlen
        · cases h
      · cases h
    · cases h
  · cases h

end
end Go.Proofs.YtglnkfpmogaifaaGreatDoor.V

/-
  Names given anew; values seen without names; contracts of functions: data in, data (and new objects) out.
-/
namespace Go.Proofs.YtglnkfpmogaifaaGreatDoor.V
open Go Go.RowKit

mutual
/-- Names given anew; what has no new name is not known any more. -/
def ren (θ : Nat → Option Nat) : D → D
  | .rf id off len es => match θ id with | some j => .rf j off len es | none => .junk
  | .pt id off => match θ id with | some j => .pt j off | none => .junk
  | .sl len cs => .sl len (renL θ cs)
  | .sp cs off => .sp (renL θ cs) off
  | .fn f a b => .fn f (renL θ a) (renL θ b)
  | .ag cs => .ag (renL θ cs)
  | .tp cs => .tp (renL θ cs)
  | .junk => .junk
  | .sc v => .sc v
  | .em => .em
def renL (θ : Nat → Option Nat) : List D → List D
  | [] => []
  | d :: ds => ren θ d :: renL θ ds
end

theorem renL_eq_map (θ : Nat → Option Nat) : ∀ ds : List D, renL θ ds = ds.map (ren θ)
  | [] => rfl
  | d :: ds => by simp [renL, renL_eq_map θ ds]
theorem renL_sc {α : Type} (θ : Nat → Option Nat) (g : α → Value) (l : List α) : renL θ (l.map fun x => .sc (g x)) = l.map fun x => .sc (g x) := by
  rw [renL_eq_map, List.map_map]
  rfl

/-- What 'ren' asks of two contexts: the same quiet blocks and cells; a name and its new name have one block. -/
structure Ren (θ : Nat → Option Nat) (X Y : Ctx) : Prop where
  w : ∀ b, X.I b → Y.w.heap[b]? = X.w.heap[b]?
  I : ∀ b, X.I b → Y.I b
  μ : ∀ id j l, θ id = some j → X.μ id = some l → Y.μ j = some l

mutual
theorem Vr_ren {θ : Nat → Option Nat} {X Y : Ctx} (R : Ren θ X Y) : ∀ (d : D) {v : Value}, Vr X d v → Vr Y (ren θ d) v
  | .junk, _, _ => by simp [Vr, ren]
  | .sc s, _, h => by simpa [Vr, ren] using h
  | .em, _, h => by simpa [Vr, ren] using h
  | .sl len cs, _, h => by
    simp only [Vr, ren] at h ⊢
    obtain ⟨h0, a, cap, hv, hc, h⟩ := h
    refine ⟨h0, a, cap, hv, hc, ?_⟩
    rcases h with rfl | ⟨b, off, ha, hb, hcr⟩
    · exact .inl (by simp [renL])
    · exact .inr ⟨b, off, ha, R.I b hb, Cr_ren R hb cs off hcr⟩
  | .sp cs off, _, h => by
    simp only [Vr, ren] at h ⊢
    obtain ⟨b, o, hv, hb, hcr⟩ := h
    exact ⟨b, o, hv, R.I b hb, Cr_ren R hb cs o hcr⟩
  | .rf id off len es, _, h => by
    simp only [ren]
    cases hθ : θ id with
    | none => simp [Vr]
    | some j =>
      simp only [Vr] at h ⊢
      obtain ⟨l, cap, hl, r⟩ := h
      exact ⟨l, cap, R.μ _ _ _ hθ hl, r⟩
  | .pt id off, _, h => by
    simp only [ren]
    cases hθ : θ id with
    | none => simp [Vr]
    | some j =>
      simp only [Vr] at h ⊢
      obtain ⟨l, hl, r⟩ := h
      exact ⟨l, R.μ _ _ _ hθ hl, r⟩
  | .fn f fs cs, _, h => by
    simp only [Vr, ren] at h ⊢
    obtain ⟨xs, ys, hv, h1, h2⟩ := h
    exact ⟨xs, ys, hv, Lr_ren R fs h1, Lr_ren R cs h2⟩
  | .ag cs, _, h => by
    simp only [Vr, ren] at h ⊢
    obtain ⟨xs, hv, h1⟩ := h
    exact ⟨xs, hv, Lr_ren R cs h1⟩
  | .tp cs, _, h => by
    simp only [Vr, ren] at h ⊢
    obtain ⟨xs, hv, h1⟩ := h
    exact ⟨xs, hv, Lr_ren R cs h1⟩
theorem Lr_ren {θ : Nat → Option Nat} {X Y : Ctx} (R : Ren θ X Y) : ∀ (ds : List D) {vs : List Value}, Lr X ds vs → Lr Y (renL θ ds) vs
  | [], _, h => by simpa [Lr, renL] using h
  | d :: ds, _, h => by
    simp only [Lr, renL] at h ⊢
    obtain ⟨v, r, hv, h1, h2⟩ := h
    exact ⟨v, r, hv, Vr_ren R d h1, Lr_ren R ds h2⟩
theorem Cr_ren {θ : Nat → Option Nat} {X Y : Ctx} (R : Ren θ X Y) {b : Nat} (hb : X.I b) : ∀ (ds : List D) (off : Nat), Cr X b off ds → Cr Y b off (renL θ ds)
  | [], _, _ => by simp [Cr, renL]
  | d :: ds, off, h => by
    simp only [Cr, renL] at h ⊢
    obtain ⟨⟨u, hu, h1, h2⟩, h3⟩ := h
    refine ⟨⟨u, ?_, h1, Vr_ren R d h2⟩, Cr_ren R hb ds (off + 1) h3⟩
    rw [← hu]
    simp only [World.cell?, R.w b hb]
end

mutual
/-- Nothing in it lies in quiet memory. -/
def closed : D → Bool
  | .sl _ cs => cs.isEmpty
  | .sp _ _ => false
  | .fn _ a b => closedL a && closedL b
  | .ag cs => closedL cs
  | .tp cs => closedL cs
  | _ => true
def closedL : List D → Bool
  | [] => true
  | d :: ds => closed d && closedL ds
end
theorem closedL_sc {α : Type} (g : α → Value) : ∀ l : List α, closedL (l.map fun x => .sc (g x)) = true
  | [] => rfl
  | x :: l => by simp [closedL, closed, closedL_sc g l]

mutual
/-- A closed value hangs on the names alone. -/
theorem Vr_closed {θ : Nat → Option Nat} {X Y : Ctx} (R : ∀ id j l, θ id = some j → X.μ id = some l → Y.μ j = some l) : ∀ (d : D) {v : Value}, closed d = true → Vr X d v → Vr Y (ren θ d) v
  | .junk, _, _, _ => by simp [Vr, ren]
  | .sc s, _, _, h => by simpa [Vr, ren] using h
  | .em, _, _, h => by simpa [Vr, ren] using h
  | .sl len cs, _, hc, h => by
    simp only [closed, List.isEmpty_iff] at hc
    subst hc
    simp only [Vr, ren, renL] at h ⊢
    obtain ⟨h0, a, cap, hv, hc, h⟩ := h
    exact ⟨h0, a, cap, hv, hc, .inl trivial⟩
  | .sp cs off, _, hc, h => by simp [closed] at hc
  | .rf id off len es, _, _, h => by
    simp only [ren]
    cases hθ : θ id with
    | none => simp [Vr]
    | some j =>
      simp only [Vr] at h ⊢
      obtain ⟨l, cap, hl, r⟩ := h
      exact ⟨l, cap, R _ _ _ hθ hl, r⟩
  | .pt id off, _, _, h => by
    simp only [ren]
    cases hθ : θ id with
    | none => simp [Vr]
    | some j =>
      simp only [Vr] at h ⊢
      obtain ⟨l, hl, r⟩ := h
      exact ⟨l, R _ _ _ hθ hl, r⟩
  | .fn f fs cs, _, hc, h => by
    simp only [closed, Bool.and_eq_true] at hc
    simp only [Vr, ren] at h ⊢
    obtain ⟨xs, ys, hv, h1, h2⟩ := h
    exact ⟨xs, ys, hv, Lr_closed R fs hc.1 h1, Lr_closed R cs hc.2 h2⟩
  | .ag cs, _, hc, h => by
    simp only [closed] at hc
    simp only [Vr, ren] at h ⊢
    obtain ⟨xs, hv, h1⟩ := h
    exact ⟨xs, hv, Lr_closed R cs hc h1⟩
  | .tp cs, _, hc, h => by
    simp only [closed] at hc
    simp only [Vr, ren] at h ⊢
    obtain ⟨xs, hv, h1⟩ := h
    exact ⟨xs, hv, Lr_closed R cs hc h1⟩
theorem Lr_closed {θ : Nat → Option Nat} {X Y : Ctx} (R : ∀ id j l, θ id = some j → X.μ id = some l → Y.μ j = some l) : ∀ (ds : List D) {vs : List Value}, closedL ds = true → Lr X ds vs → Lr Y (renL θ ds) vs
  | [], _, _, h => by simpa [Lr, renL] using h
  | d :: ds, _, hc, h => by
    simp only [closedL, Bool.and_eq_true] at hc
    simp only [Lr, renL] at h ⊢
    obtain ⟨v, r, hv, h1, h2⟩ := h
    exact ⟨v, r, hv, Vr_closed R d hc.1 h1, Lr_closed R ds hc.2 h2⟩
end

/-! ### values seen without names -/
/-- A value as data: what a name stands for is written out. -/
def view (s : Sg) : Nat → D → D
  | 0, _ => .junk
  | n + 1, d =>
    match d with
    | .rf id off len es =>
      match s id with
      | some o => if off + len * es ≤ o.cells.length then .sl len (((o.cells.drop off).take (len * es)).map (view s n)) else .junk
      | none => .junk
    | .pt id off =>
      match s id with
      | some o => .sp (o.cells.map (view s n)) off
      | none => .junk
    | .sl len cs => .sl len (cs.map (view s n))
    | .sp cs off => .sp (cs.map (view s n)) off
    | .fn f a b => .fn f (a.map (view s n)) (b.map (view s n))
    | .ag cs => .ag (cs.map (view s n))
    | .tp cs => .tp (cs.map (view s n))
    | .junk => .junk
    | .sc v => .sc v
    | .em => .sl 0 []
/-- The names that 'view' looks at. -/
def vids (s : Sg) : Nat → D → List Nat
  | 0, _ => []
  | n + 1, d =>
    match d with
    | .rf id _ _ _ => id :: (match s id with | some o => o.cells.flatMap (vids s n) | none => [])
    | .pt id _ => id :: (match s id with | some o => o.cells.flatMap (vids s n) | none => [])
    | .sl _ cs => cs.flatMap (vids s n)
    | .sp cs _ => cs.flatMap (vids s n)
    | .fn _ a b => a.flatMap (vids s n) ++ b.flatMap (vids s n)
    | .ag cs => cs.flatMap (vids s n)
    | .tp cs => cs.flatMap (vids s n)
    | _ => []

theorem view_sc {α : Type} (s : Sg) (n : Nat) (g : α → Value) (l : List α) : (l.map fun x => D.sc (g x)).map (view s (n + 1)) = l.map fun x => D.sc (g x) := by
  rw [List.map_map]
  rfl
theorem vids_sc {α : Type} (s : Sg) (n : Nat) (g : α → Value) : ∀ (l : List α), (l.map fun x => D.sc (g x)).flatMap (vids s (n + 1)) = []
  | [] => rfl
  | x :: l => by
    rw [List.map_cons, List.flatMap_cons, vids_sc s n g l]
    rfl

theorem view_agree {s s' : Sg} : ∀ (n : Nat) (d : D), (∀ id ∈ vids s n d, s' id = s id) → view s' n d = view s n d ∧ vids s' n d = vids s n d
  | 0, d, _ => ⟨rfl, rfl⟩
  | n + 1, d, h => by
    have hl : ∀ cs : List D, (∀ id ∈ cs.flatMap (vids s n), s' id = s id) → cs.map (view s' n) = cs.map (view s n) ∧ cs.flatMap (vids s' n) = cs.flatMap (vids s n) := by
      intro cs hcs
      constructor
      · exact List.map_congr_left fun d hd => (view_agree n d fun id hid => hcs id (List.mem_flatMap.2 ⟨d, hd, hid⟩)).1
      · rw [List.flatMap_def, List.flatMap_def]
        congr 1
        exact List.map_congr_left fun d hd => (view_agree n d fun id hid => hcs id (List.mem_flatMap.2 ⟨d, hd, hid⟩)).2
    cases d with
    | rf id off len es =>
      simp only [vids, List.mem_cons] at h
      have h0 := h id (.inl rfl)
      simp only [view, vids, h0]
      cases ho : s id with
      | none => exact ⟨rfl, rfl⟩
      | some o =>
        rw [ho] at h
        obtain ⟨h1, h2⟩ := hl o.cells fun j hj => h j (.inr hj)
        simp only [h2, and_true]
        split
        · congr 1
          have e : ∀ cs : List D, (∀ d ∈ cs, d ∈ o.cells) → cs.map (view s' n) = cs.map (view s n) := fun cs hcs =>
            List.map_congr_left fun d hd => (view_agree n d fun j hj => h j (.inr (List.mem_flatMap.2 ⟨d, hcs d hd, hj⟩))).1
          exact e _ fun d hd => List.mem_of_mem_drop (List.mem_of_mem_take hd)
        · rfl
    | pt id off =>
      simp only [vids, List.mem_cons] at h
      have h0 := h id (.inl rfl)
      simp only [view, vids, h0]
      cases ho : s id with
      | none => exact ⟨rfl, rfl⟩
      | some o =>
        rw [ho] at h
        obtain ⟨h1, h2⟩ := hl o.cells fun j hj => h j (.inr hj)
        simp only [h1, h2, and_self]
    | sl len cs => obtain ⟨h1, h2⟩ := hl cs h; simp only [view, vids, h1, h2, and_self]
    | sp cs off => obtain ⟨h1, h2⟩ := hl cs h; simp only [view, vids, h1, h2, and_self]
    | fn f a b =>
      simp only [vids, List.mem_append] at h
      obtain ⟨h1, h2⟩ := hl a fun j hj => h j (.inl hj)
      obtain ⟨h3, h4⟩ := hl b fun j hj => h j (.inr hj)
      simp only [view, vids, h1, h2, h3, h4, and_self]
    | ag cs => obtain ⟨h1, h2⟩ := hl cs h; simp only [view, vids, h1, h2, and_self]
    | tp cs => obtain ⟨h1, h2⟩ := hl cs h; simp only [view, vids, h1, h2, and_self]
    | _ => exact ⟨rfl, rfl⟩

/-- The context of a callee: no names; quiet is what was quiet, and what lies behind the names that are seen. -/
def bare (X : Ctx) (J : Nat → Prop) : Ctx := { μ := fun _ => none, I := fun b => X.I b ∨ J b, w := X.w, M := fun _ => False }

theorem Lr_map {X Y : Ctx} {g : D → D} : ∀ {ds : List D} {vs : List Value}, (∀ d ∈ ds, ∀ v, Vr X d v → Vr Y (g d) v) → Lr X ds vs → Lr Y (ds.map g) vs
  | [], vs, _, h => by simpa [Lr] using h
  | d :: ds, vs, hg, h => by
    simp only [Lr, List.map_cons] at h ⊢
    obtain ⟨v, r, rfl, h1, h2⟩ := h
    exact ⟨v, r, rfl, hg d (by simp) v h1, Lr_map (fun e he => hg e (by simp [he])) h2⟩
theorem Cr_map {X Y : Ctx} {g : D → D} {b : Nat} (hw : Y.w = X.w) : ∀ {ds : List D} {off : Nat}, (∀ d ∈ ds, ∀ v, Vr X d v → Vr Y (g d) v) → Cr X b off ds → Cr Y b off (ds.map g)
  | [], off, _, h => by simp [Cr]
  | d :: ds, off, hg, h => by
    simp only [Cr, List.map_cons] at h ⊢
    obtain ⟨⟨u, hu, h1, h2⟩, h3⟩ := h
    exact ⟨⟨u, by rw [hw]; exact hu, h1, hg d (by simp) u h2⟩, Cr_map hw (fun e he => hg e (by simp [he])) h3⟩

theorem view_ok' {X : Ctx} {s : Sg} {J : Nat → Prop} (hs : ∀ id o, s id = some o → ∃ l, X.μ id = some l ∧ Or X l o) : ∀ (n : Nat) (d : D) (v : Value), (∀ id ∈ vids s n d, ∀ o l, s id = some o → X.μ id = some l → J l.blk) → Vr X d v → Vr (bare X J) (view s n d) v
  | 0, d, v, _, _ => by simp [view, Vr]
  | n + 1, d, v, hJ, h => by
    have rec_ : ∀ (cs : List D), (∀ id ∈ cs.flatMap (vids s n), ∀ o l, s id = some o → X.μ id = some l → J l.blk) → ∀ d ∈ cs, ∀ v, Vr X d v → Vr (bare X J) (view s n d) v :=
      fun cs hcs d hd v hv => view_ok' hs n d v (fun id hid => hcs id (List.mem_flatMap.2 ⟨d, hd, hid⟩)) hv
    cases d with
    | junk => simp [view, Vr]
    | sc s => simpa [view, Vr] using h
    | em =>
      simp only [view, Vr, List.map_nil] at h ⊢
      obtain ⟨a, rfl⟩ := h
      exact ⟨Nat.zero_le _, a, 0, rfl, Nat.le_refl _, by simp⟩
    | sl len cs =>
      simp only [view, Vr] at h ⊢
      obtain ⟨h0, a, cap, hv, hc, h⟩ := h
      refine ⟨h0, a, cap, hv, hc, ?_⟩
      rcases h with rfl | ⟨b, off, ha, hb, hcr⟩
      · exact .inl rfl
      · exact .inr ⟨b, off, ha, .inl hb, Cr_map (X := X) (Y := bare X J) rfl (rec_ cs hJ) hcr⟩
    | sp cs off =>
      simp only [view, Vr] at h ⊢
      obtain ⟨b, o, hv, hb, hcr⟩ := h
      exact ⟨b, o, hv, .inl hb, Cr_map (X := X) (Y := bare X J) rfl (rec_ cs hJ) hcr⟩
    | fn f a b =>
      simp only [vids, List.mem_append] at hJ
      simp only [view, Vr] at h ⊢
      obtain ⟨xs, ys, hv, h1, h2⟩ := h
      exact ⟨xs, ys, hv, Lr_map (rec_ a fun id hid => hJ id (.inl hid)) h1, Lr_map (rec_ b fun id hid => hJ id (.inr hid)) h2⟩
    | ag cs =>
      simp only [view, Vr] at h ⊢
      obtain ⟨xs, hv, h1⟩ := h
      exact ⟨xs, hv, Lr_map (rec_ cs hJ) h1⟩
    | tp cs =>
      simp only [view, Vr] at h ⊢
      obtain ⟨xs, hv, h1⟩ := h
      exact ⟨xs, hv, Lr_map (rec_ cs hJ) h1⟩
    | rf id off len es =>
      simp only [vids, List.mem_cons] at hJ
      simp only [view]
      cases ho : s id with
      | none => simp [Vr]
      | some o =>
        simp only
        split
        · rename_i hle
          simp only [Vr] at h ⊢
          obtain ⟨l, cap, hl, rfl, hc, hm, _⟩ := h
          obtain ⟨l', hl', hor⟩ := hs id o ho
          rw [hl] at hl'; cases hl'
          refine ⟨by omega, _, _, rfl, hc, .inr ⟨l.blk, off, rfl, .inr (hJ id (.inl rfl) o l ho hl), ?_⟩⟩
          rw [ho] at hJ
          have hcr : Cr X l.blk 0 o.cells := Cr_iff.2 hor.at_
          have := hcr.part off (len * es)
          rw [Nat.zero_add] at this
          exact Cr_map (X := X) (Y := bare X J) rfl (fun d hd v hv => rec_ o.cells (fun j hj => hJ j (.inr hj)) d (List.mem_of_mem_drop (List.mem_of_mem_take hd)) v hv) this
        · simp [Vr]
    | pt id off =>
      simp only [vids, List.mem_cons] at hJ
      simp only [view]
      cases ho : s id with
      | none => simp [Vr]
      | some o =>
        simp only [Vr] at h ⊢
        obtain ⟨l, hl, rfl⟩ := h
        obtain ⟨l', hl', hor⟩ := hs id o ho
        rw [hl] at hl'; cases hl'
        refine ⟨l.blk, 0, by rw [Nat.zero_add], .inr (hJ id (.inl rfl) o l ho hl), ?_⟩
        rw [ho] at hJ
        exact Cr_map (X := X) (Y := bare X J) rfl (rec_ o.cells fun j hj => hJ j (.inr hj)) (Cr_iff.2 hor.at_)
theorem view_ok {E : Env} {X : Ctx} {s : Sg} {J : Nat → Prop} (hs : Sim E X s) (n : Nat) (d : D) (v : Value) (h : ∀ id ∈ vids s n d, ∀ o l, s id = some o → X.μ id = some l → J l.blk) (hv : Vr X d v) : Vr (bare X J) (view s n d) v :=
  view_ok' (fun id o ho => by obtain ⟨l, h1, h2, _⟩ := hs.objs id o ho; exact ⟨l, h1, h2⟩) n d v h hv

end Go.Proofs.YtglnkfpmogaifaaGreatDoor.V

/-
  Contracts of functions, and a call by contract.
-/
namespace Go.Proofs.YtglnkfpmogaifaaGreatDoor.V
open Go Go.RowKit

/-- A Go function with a text of its own. -/
def callable (P : Program) (f : FuncId) : Bool :=
  match P.funcs[f]? with
  | some fn => !(fn.name == "runtime.NumGoroutine") && fn.body.isSome
  | none => false

/-- What a contract says behind the call: the value, and new objects under the names 0, 1, ..; nothing that was there has turned. -/
structure CPost (I : Nat → Prop) (w : World) (r : D) (os : List O) (v : Value) (Y : Ctx) : Prop where
  val : Vr Y r v
  below : Below w.heap.size w Y.w
  Ibd : ∀ b, Y.I b → b < Y.w.heap.size
  Inew : ∀ b, Y.I b → I b ∨ w.heap.size ≤ b
  Iold : ∀ b, I b → Y.I b
  objs : ∀ i o, os[i]? = some o → o.fz = false ∧ ∃ l, Y.μ i = some l ∧ Or Y l o ∧ w.heap.size ≤ l.blk ∧ ¬ Y.I l.blk
  inj : ∀ i j li lj, i < os.length → j < os.length → Y.μ i = some li → Y.μ j = some lj → li.blk = lj.blk → i = j

/-- Called with such data, the function returns such a value and such objects. -/
structure Con (P : Program) (f : FuncId) (args : List D) (r : D) (os : List O) : Prop where
  callable : callable P f = true
  calls : ∀ (I : Nat → Prop) (w : World) (vs : List Value), Gl w → (∀ b, I b → b < w.heap.size) → Lr ⟨fun _ => none, I, w, fun _ => False⟩ args vs →
    Calls P f vs.toArray w fun e w' => ∃ v Y, Y.w = w' ∧ e = .returned v ∧ CPost I w r os v Y

def fzO (o : O) : O := { o with fz := true }

theorem Sim.frzs {E : Env} {s0 : Sg} : ∀ (fs : List Nat) (c : Sg) (X : Ctx), Sim E X c → (∀ id ∈ fs, c id = s0 id ∨ c id = (s0 id).map fzO) →
    ∃ Y, Sim E Y (c.app (fs.map fun id => (id, (s0 id).map fzO))) ∧ Step X c Y (c.app (fs.map fun id => (id, (s0 id).map fzO))) ∧ Y.w = X.w ∧ Y.μ = X.μ ∧
      (∀ id ∈ fs, ∀ o l, s0 id = some o → X.μ id = some l → Y.I l.blk) ∧ ∀ id, (c.app (fs.map fun id => (id, (s0 id).map fzO))) id = if id ∈ fs then (s0 id).map fzO else c id
  | [], c, X, h, _ => ⟨X, h, Step.refl _ _, rfl, rfl, by simp, by simp⟩
  | j :: fs, c, X, h, hc => by
    have hj := hc j (by simp)
    have key : ∃ X1, Sim E X1 (upd c j ((s0 j).map fzO)) ∧ Step X c X1 (upd c j ((s0 j).map fzO)) ∧ X1.w = X.w ∧ X1.μ = X.μ ∧ ∀ o l, s0 j = some o → X.μ j = some l → X1.I l.blk := by
      cases hs : s0 j with
      | none =>
        rw [hs] at hj
        have hcj : c j = none := by rcases hj with e | e <;> simpa using e
        have e : upd c j ((none : Option O).map fzO) = c := by
          funext i
          unfold upd
          split
          · rename_i e; rw [e, hcj]; rfl
          · rfl
        rw [e]
        exact ⟨X, h, Step.refl _ _, rfl, rfl, by simp⟩
      | some o =>
        rw [hs] at hj
        obtain ⟨o', ho', hoo⟩ : ∃ o', c j = some o' ∧ fzO o' = fzO o := by
          rcases hj with e | e
          · exact ⟨o, e, rfl⟩
          · exact ⟨fzO o, by simpa using e, rfl⟩
        obtain ⟨l, hl, _⟩ := h.objs j o' ho'
        obtain ⟨h1, h2⟩ := h.frz ho' hl
        have e : c.frz j = upd c j ((some o).map fzO) := by
          unfold Sg.frz
          rw [ho']
          simp only [Option.map_some]
          rw [← hoo]
          rfl
        rw [e] at h1 h2
        refine ⟨_, h1, h2, rfl, rfl, fun o₂ l₂ _ hl₂ => ?_⟩
        rw [hl] at hl₂; cases hl₂
        exact .inr rfl
    obtain ⟨X1, k1, k2, k3, k4, k5⟩ := key
    obtain ⟨Y, g1, g2, g3, g4, g5, g6⟩   := Sim.frzs (s0 := s0) fs (upd c j ((s0 j).map fzO)) X1 k1 (fun id hid => by
      by_cases e : id = j
      · subst e; right; simp
      · rw [upd_other _ _ e]; exact hc id (by simp [hid]))
    refine ⟨Y, g1, k2.trans g2, g3.trans k3, g4.trans k4, fun id hid o l ho hl => ?_, fun id => ?_⟩
    · rcases List.mem_cons.1 hid with rfl | hid
      · exact g2.I _ (k5 o l ho hl)
      · exact g5 id hid o l ho (by rw [k4]; exact hl)
    · simp only [List.map_cons, Sg.app_cons]
      rw [g6]
      by_cases e1 : id ∈ fs
      · simp [e1]
      · by_cases e2 : id = j
        · subst e2; simp [e1]
        · simp [e1, e2, upd_other _ _ e2]

/-- The new names of a call's objects. -/
def shift (nm k : Nat) (i : Nat) : Option Nat := if i < k then some (nm + i) else none
def renO (θ : Nat → Option Nat) (o : O) : O := { o with cells := renL θ o.cells }
def news (nm : Nat) (os : List O) : List (Nat × Option O) := (os.zipIdx nm).map fun p => (p.2, some (renO (shift nm os.length) p.1))

theorem app_zip (g : O → O) : ∀ (os : List O) (k : Nat) (c : Sg) (id : Nat), (c.app ((os.zipIdx k).map fun p => (p.2, some (g p.1)))) id = if k ≤ id ∧ id < k + os.length then (os[id - k]?).map g else c id
  | [], k, c, id => by simp; omega
  | o :: os, k, c, id => by
    simp only [List.zipIdx_cons, List.map_cons, Sg.app_cons]
    rw [app_zip g os (k + 1)]
    by_cases h1 : k + 1 ≤ id ∧ id < k + 1 + os.length
    · rw [if_pos h1, if_pos (by simp only [List.length_cons]; omega)]
      rw [show id - k = (id - (k + 1)) + 1 by omega, List.getElem?_cons_succ]
    · rw [if_neg h1]
      by_cases h2 : id = k
      · subst h2
        rw [if_pos (by simp only [List.length_cons]; omega)]
        simp
      · rw [upd_other _ _ h2, if_neg (by simp only [List.length_cons]; omega)]

theorem app_append (s : Sg) (a b : List (Nat × Option O)) : s.app (a ++ b) = (s.app a).app b := by simp [Sg.app, List.foldl_append]

theorem callsIn_Fw {P : Program} {f : FuncId} {args : Array Value} {w : World} {R : Ending → World → Prop} {ro : Option Nat} {m : Nat} (h : Calls P f args w R) : CallsIn (Fw ro) m P f args w R := by
  have := (callsIn_wide (n := m)).2 h
  exact this

/-- The call of a function value: what the machine makes of it. -/
theorem wpIn_call {P : Program} {o : Oper} {a : Act} {w : World} {x : Operand} {args : Array Operand} {ats : Array TypeId} {g : FuncId} {xs ys : Array Value} {K : Act → World → Prop} {Q : Exit → Act → World → Prop} {ro : Option Nat} {m : Nat}
    (ho : o.op = .call { callee := .value x, args := args, argTypes := ats }) (hx : a.eval x = .func (.func g) xs ys) (hc : callable P g = true) {R : Value → World → Prop}
    (hcall : Calls P g (xs ++ args.map a.eval ++ ys) w fun e w' => ∃ v, e = .returned v ∧ R v w') (h : ∀ v w', R v w' → K (a.put o.dst v) w') : o.wpIn (Fw ro) m P a w K Q := by
  refine ⟨fun _ _ => trivial, ?_⟩
  rw [Oper.semAt_eq _ _ _ (by simp [ho])]
  unfold callable at hc
  cases hf : P.funcs[g]? with
  | none => rw [hf] at hc; cases hc
  | some fn =>
    rw [hf] at hc
    simp only [Bool.and_eq_true, Bool.not_eq_true'] at hc
    have hbody : fn.body.isNone = false := by cases hb : fn.body <;> simp_all
    have hr : (execOp a.eval o).run P w = .ok (.enter g (xs ++ args.map a.eval ++ ys)) w := by
      unfold execOp
      simp only [ho, resolve, hx, Deferred.ofValue]
      rw [Sem.run_bind]
      simp only [Sem.run_pure, Result.andThen]
      unfold invoke callFunc
      simp only
      rw [Sem.run_bind]
      show ((match (P.funcs[g]? : Option Func) with
        | none => stuck "call: no such function"
        | some fn => _ : Sem Next)).run P w = _
      rw [hf]
      simp only [hc.1, hbody, Bool.false_eq_true, if_false]
      rfl
    rw [hr]
    refine ⟨fun hd => (by cases hd), (callsIn_Fw hcall).mono fun e w' => ?_⟩
    rintro ⟨v, rfl, hR⟩
    exact h v w' hR

/-- A call by contract. 'fs': the names that become quiet: none, if nothing quiet comes back; else all that the callee sees. -/
theorem OpL.call {P : Program} {o : Oper} {ρ : Operand → D} {s : Sg} {nm : Nat} {x : Operand} {args : Array Operand} {ats : Array TypeId} {g : FuncId} {first caps : List D} {r : D} {os : List O} (fs : List Nat) (n : Nat)
    (ho : o.op = .call { callee := .value x, args := args, argTypes := ats }) (hx : ρ x = .fn (.func g) first caps)
    (hc : Con P g ((first ++ args.toList.map ρ ++ caps).map (view s n)) r os)
    (hfs : (closed r = true ∧ ∀ o ∈ os, closedL o.cells = true) ∨ ∀ id ∈ (first ++ args.toList.map ρ ++ caps).flatMap (vids s n), id ∈ fs) :
    OpL P o ρ s nm ⟨ren (shift nm os.length) r, (fs.map fun id => (id, (s id).map fzO)) ++ news nm os, (first ++ args.toList.map ρ ++ caps).flatMap (vids s n) ++ fs, os.length⟩ := by
  intro s' hrd E ro m X a Q hs hop hnm
  generalize hall : first ++ args.toList.map ρ ++ caps = all at *
  have hx' := hop x (by simp [ho, Op.operands, Call.operands])
  rw [hx] at hx'
  simp only [Vr] at hx'
  obtain ⟨xs, ys, hxv, hx1, hx2⟩ := hx'
  -- the arguments
  have hargs : Lr X (args.toList.map ρ) (args.map a.eval).toList := by
    refine Lr_of_get (by simp) fun i d v hd hv => ?_
    simp only [List.getElem?_map, Option.map_eq_some_iff] at hd
    obtain ⟨y, hy, rfl⟩ := hd
    have hy' : args[i]? = some y := by simpa using hy
    have hv' : v = a.eval y := by simpa [hy'] using hv.symm
    rw [hv']
    exact hop y (by
      simp only [ho, Op.operands, Call.operands]
      have : y ∈ args := Array.mem_of_getElem? hy'
      simp [this])
  have hvs : Lr X all (xs ++ args.map a.eval ++ ys).toList := by
    rw [← hall]
    simp only [Array.toList_append]
    exact Lr_append (Lr_append hx1 hargs) hx2
  -- freezing
  have hag : ∀ id ∈ fs, s' id = s id := fun id hid => hrd id (by simp [hid])
  have hagv : ∀ d ∈ all, ∀ id ∈ vids s n d, s' id = s id := fun d hd id hid => hrd id (by
    simp only [List.mem_append, List.mem_flatMap]
    exact .inl ⟨d, hd, hid⟩)
  obtain ⟨X1, k1, k2, k3, k4, k5, k6⟩ := Sim.frzs (s0 := s) fs s' X hs (fun id hid => .inl (hag id hid))
  -- what the callee sees
  let J : Nat → Prop := fun b => (closed r = true ∧ ∀ o ∈ os, closedL o.cells = true) ∧ ∃ id o l, s' id = some o ∧ X.μ id = some l ∧ l.blk = b
  let Ic : Nat → Prop := fun b => X1.I b ∨ J b
  have hIc : ∀ b, Ic b → b < X.w.heap.size := by
    rintro b (hb | ⟨_, id, o', l, h1, h2, rfl⟩)
    · have := k1.Ibd b hb; rwa [k3] at this
    · obtain ⟨l', hl', hor, _⟩ := hs.objs id o' h1
      rw [h2] at hl'; cases hl'
      exact hor.lt
  have hlr : Lr ⟨fun _ => none, Ic, X.w, fun _ => False⟩ (all.map (view s n)) (xs ++ args.map a.eval ++ ys).toList := by
    refine Lr_map (X := X) (fun d hd v hv => ?_) hvs
    have hv1 := view_ok (J := fun b => ∃ id o l, id ∈ vids s n d ∧ s' id = some o ∧ X.μ id = some l ∧ l.blk = b) hs n d v (fun id hid o' l h1 h2 => by
      rw [(view_agree n d (hagv d hd)).2] at hid
      exact ⟨id, o', l, hid, h1, h2, rfl⟩) hv
    rw [(view_agree n d (hagv d hd)).1] at hv1
    refine Vr_later (Y := ⟨fun _ => none, Ic, X.w, fun _ => False⟩) (X := bare X fun b => ∃ id o l, id ∈ vids s n d ∧ s' id = some o ∧ X.μ id = some l ∧ l.blk = b) ⟨fun _ _ h => h, ?_, fun _ _ => rfl⟩ _ hv1
    rintro b (hb | ⟨id, o', l, hid, h1, h2, rfl⟩)
    · exact .inl (k2.I b hb)
    · rcases hfs with hcl | hfs
      · exact .inr ⟨hcl, id, o', l, h1, h2, rfl⟩
      · have hidf : id ∈ fs := hfs id (List.mem_flatMap.2 ⟨d, hd, hid⟩)
        rw [hag id hidf] at h1
        exact .inl (k5 id hidf o' l h1 h2)
  have hcalls := hc.calls Ic X.w _ (E.gl _ _ hs.env.inv) hIc hlr
  simp only [Array.toArray_toList] at hcalls
  refine wpIn_call (R := fun v w' => ∃ Y, Y.w = w' ∧ CPost Ic X.w r os v Y) ho hxv hc.callable (hcalls.mono fun e w' ⟨v, Y, h1, h2, h3⟩ => ⟨v, h2, Y, h1, h3⟩) ?_
  rintro v w' ⟨Y, rfl, hp⟩
  -- the caller's context behind the call
  have hold : ∀ id o' l, s' id = some o' → X.μ id = some l → l.blk < X.w.heap.size := fun id o' l h1 h2 => by
    obtain ⟨l', hl', hor, _⟩ := hs.objs id o' h1
    rw [h2] at hl'; cases hl'
    exact hor.lt
  have holdI : ∀ id o' l, (s'.app (fs.map fun id => (id, (s id).map fzO))) id = some o' → X.μ id = some l → l.blk < X.w.heap.size := fun id o' l h1 h2 => by
    obtain ⟨l', hl', hor, _⟩ := k1.objs id o' h1
    rw [k4, h2] at hl'; cases hl'
    have := hor.lt; rwa [k3] at this
  have hbel : Below X1.w.heap.size X1.w Y.w := by rw [k3]; exact hp.below
  obtain ⟨m1, m2⟩ := k1.world hbel
  have m3 := m1.quiet (fun b => Y.I b ∧ X.w.heap.size ≤ b) (fun b hb => hp.Ibd b hb.1) (fun b id o' l hb h1 h2 he => by
    have h2' : X.μ id = some l := by rw [← k4]; exact h2
    have := holdI id o' l h1 h2'
    omega) (fun b hb hM => by have := m1.env.Mbd b hM; have h2 : X1.w.heap.size ≤ b := by rw [k3]; exact hb.2
                              have h3 := k1.env.Mbd b hM; omega)
  let Z : Ctx := { μ := fun id => if nm ≤ id ∧ id < nm + os.length then Y.μ (id - nm) else X.μ id, I := fun b => X1.I b ∨ (Y.I b ∧ X.w.heap.size ≤ b), w := Y.w, M := X1.M }
  have hZnew : ∀ i l, i < os.length → Y.μ i = some l → Z.μ (nm + i) = some l := fun i l hi hl => by
    show (if nm ≤ nm + i ∧ nm + i < nm + os.length then Y.μ (nm + i - nm) else X.μ (nm + i)) = some l
    rw [if_pos (by omega), Nat.add_sub_cancel_left]
    exact hl
  have hZold : ∀ id l, X.μ id = some l → Z.μ id = some l := fun id l hl => by
    show (if nm ≤ id ∧ id < nm + os.length then Y.μ (id - nm) else X.μ id) = some l
    rw [if_neg]
    · exact hl
    · rintro ⟨h1, h2⟩
      rw [hnm id h1 h2] at hl; cases hl
  have hLater : Later X Z := ⟨hZold, fun b hb => .inl (k2.I b hb), fun b hb => hp.below.block b (hs.Ibd b hb)⟩
  have hshift : ∀ id j l, shift nm os.length id = some j → Y.μ id = some l → Z.μ j = some l := fun id j l hj hl => by
    unfold shift at hj
    split at hj
    · rename_i hlt
      simp only [Option.some.injEq] at hj; subst hj
      exact hZnew id l hlt hl
    · cases hj
  have hren : ∀ d v, (closed d = true ∨ ¬ (closed r = true ∧ ∀ o ∈ os, closedL o.cells = true)) → Vr Y d v → Vr Z (ren (shift nm os.length) d) v := fun d v hd hv => by
    rcases hd with hd | hd
    · exact Vr_closed hshift d hd hv
    · refine Vr_ren (X := Y) (Y := Z) ⟨fun _ _ => rfl, fun b hb => ?_, hshift⟩ d hv
      rcases hp.Inew b hb with h1 | h1
      · rcases h1 with h1 | h1
        · exact .inl h1
        · exact (hd h1.1).elim
      · exact .inr ⟨hb, h1⟩
  have happ : ∀ id, (s'.app ((fs.map fun id => (id, (s id).map fzO)) ++ news nm os)) id = if nm ≤ id ∧ id < nm + os.length then (os[id - nm]?).map (renO (shift nm os.length)) else (s'.app (fs.map fun id => (id, (s id).map fzO))) id := fun id => by
    rw [app_append]
    exact app_zip _ os nm _ id
  have hnewobj : ∀ i o', os[i]? = some o' → ∃ l, Y.μ i = some l ∧ Or Z l (renO (shift nm os.length) o') ∧ X.w.heap.size ≤ l.blk ∧ ¬ Z.I l.blk := fun i o' ho' => by
    obtain ⟨_, l, h1, ⟨cur, c1, c2, c3, c4, c5⟩, h3, h4⟩ := hp.objs i o' ho'
    refine ⟨l, h1, ⟨cur, c1, c2, c3, ?_, fun j d hd => ?_⟩, h3, ?_⟩
    · simpa [renO, renL_eq_map] using c4
    · simp only [renO, renL_eq_map, List.getElem?_map, Option.map_eq_some_iff] at hd
      obtain ⟨d', hd', rfl⟩ := hd
      obtain ⟨u, hu, hone, hv⟩ := c5 j d' hd'
      refine ⟨u, hu, hone, hren d' u ?_ hv⟩
      by_cases hcl : closed r = true ∧ ∀ o ∈ os, closedL o.cells = true
      · left
        have hcl' := hcl.2 o' (List.mem_of_getElem? ho')
        have hgen : ∀ (cs : List D), closedL cs = true → ∀ d ∈ cs, closed d = true := by
          intro cs
          induction cs with
          | nil => intro _ d hd; cases hd
          | cons c cs ih =>
            intro h d hd
            simp only [closedL, Bool.and_eq_true] at h
            rcases List.mem_cons.1 hd with rfl | hd
            · exact h.1
            · exact ih h.2 d hd
        exact hgen _ hcl' d' (List.mem_of_getElem? hd')
      · exact .inr hcl
    · rintro (hb | hb)
      · have := k1.Ibd _ hb
        rw [k3] at this
        omega
      · exact h4 hb.1
  refine ⟨Z, v, rfl, rfl, ⟨⟨m3.env.inv, m3.env.base, m3.env.Mbd⟩, fun id o' ho' => ?_, fun id hid => ?_, ?_, ?_, m3.Ibd, m3.IM⟩, ⟨hLater.μ, hLater.I, hp.below.size, fun b hb _ _ => hp.below.block b hb, ?_, ?_, k2.newM⟩, ?_, fun id hid => ?_⟩
  · rw [happ] at ho'
    split at ho'
    · rename_i hr
      simp only [Option.map_eq_some_iff] at ho'
      obtain ⟨o₁, ho₁, rfl⟩ := ho'
      obtain ⟨l, h1, h2, h3, _⟩ := hnewobj _ o₁ ho₁
      refine ⟨l, ?_, h2, Nat.le_trans hs.env.base h3, fun hM => by have := k1.env.Mbd _ hM; rw [k3] at this; omega⟩
      have := hZnew (id - nm) l (by omega) h1
      rwa [show nm + (id - nm) = id by omega] at this
    · obtain ⟨l, h1, h2, h3⟩ := m3.objs id o' ho'
      have h1' : X.μ id = some l := by rw [← k4]; exact h1
      refine ⟨l, hZold id l h1', h2.later ⟨fun i l' hl' => hZold i l' (by rw [← k4]; exact hl'), fun _ h => h, fun _ _ => rfl⟩ rfl, h3⟩
  · rw [happ]
    have hid' : (if nm ≤ id ∧ id < nm + os.length then Y.μ (id - nm) else X.μ id) = none := hid
    split
    · rename_i hr
      rw [if_pos hr] at hid'
      cases ho' : os[id - nm]? with
      | none => rfl
      | some o₁ => obtain ⟨l, h1, _⟩ := hnewobj _ o₁ ho'; rw [h1] at hid'; cases hid'
    · rename_i hr
      rw [if_neg hr] at hid'
      exact k1.dom id (by rw [k4]; exact hid')
  · intro i j oi oj li lj hi hj hli hlj hb
    rw [happ] at hi hj
    have hli' : (if nm ≤ i ∧ i < nm + os.length then Y.μ (i - nm) else X.μ i) = some li := hli
    have hlj' : (if nm ≤ j ∧ j < nm + os.length then Y.μ (j - nm) else X.μ j) = some lj := hlj
    by_cases ci : nm ≤ i ∧ i < nm + os.length <;> by_cases cj : nm ≤ j ∧ j < nm + os.length
    · rw [if_pos ci] at hli'; rw [if_pos cj] at hlj'
      have := hp.inj (i - nm) (j - nm) li lj (by omega) (by omega) hli' hlj' hb
      omega
    · rw [if_pos ci] at hli' hi; rw [if_neg cj] at hlj' hj
      simp only [Option.map_eq_some_iff] at hi
      obtain ⟨o₁, ho₁, _⟩ := hi
      obtain ⟨l, h1, _, h3, _⟩ := hnewobj _ o₁ ho₁
      rw [hli'] at h1; cases h1
      have := holdI j oj lj hj hlj'
      omega
    · rw [if_neg ci] at hli' hi; rw [if_pos cj] at hlj' hj
      simp only [Option.map_eq_some_iff] at hj
      obtain ⟨o₁, ho₁, _⟩ := hj
      obtain ⟨l, h1, _, h3, _⟩ := hnewobj _ o₁ ho₁
      rw [hlj'] at h1; cases h1
      have := holdI i oi li hi hli'
      omega
    · rw [if_neg ci] at hli' hi; rw [if_neg cj] at hlj' hj
      exact k1.inj i j oi oj li lj hi hj (by rw [k4]; exact hli') (by rw [k4]; exact hlj') hb
  · intro id o' l ho' hl
    rw [happ] at ho'
    have hl' : (if nm ≤ id ∧ id < nm + os.length then Y.μ (id - nm) else X.μ id) = some l := hl
    split at ho'
    · rename_i hr
      rw [if_pos hr] at hl'
      simp only [Option.map_eq_some_iff] at ho'
      obtain ⟨o₁, ho₁, rfl⟩ := ho'
      obtain ⟨l', h1, _, _, h4⟩ := hnewobj _ o₁ ho₁
      rw [hl'] at h1; cases h1
      have hz := (hp.objs _ o₁ ho₁).1
      simp only [renO, hz, Bool.false_eq_true, iff_false]
      exact h4
    · rename_i hr
      rw [if_neg hr] at hl'
      exact m3.notI id o' l ho' (by show X1.μ id = some l; rw [k4]; exact hl')
  · rintro b ⟨id, o', l, h1, h2, h3, rfl⟩
    rw [happ] at h1
    have h3' : (if nm ≤ id ∧ id < nm + os.length then Y.μ (id - nm) else X.μ id) = some l := h3
    split at h1
    · rename_i hr
      rw [if_pos hr] at h3'
      simp only [Option.map_eq_some_iff] at h1
      obtain ⟨o₁, ho₁, _⟩ := h1
      obtain ⟨l', g1, _, g3, _⟩ := hnewobj _ o₁ ho₁
      rw [h3'] at g1; cases g1
      exact .inl g3
    · rename_i hr
      rw [if_neg hr] at h3'
      rcases k2.live l.blk ⟨id, o', l, h1, h2, by rw [k4]; exact h3', rfl⟩ with h | h
      · exact .inl h
      · exact .inr h
  · rintro b (hb | hb)
    · exact k2.newI b hb
    · exact .inr (.inl hb.2)
  · refine hren r v ?_ hp.val
    by_cases hcl : closed r = true ∧ ∀ o ∈ os, closedL o.cells = true
    · exact .inl hcl.1
    · exact .inr hcl
  · have hid' : (if nm ≤ id ∧ id < nm + os.length then Y.μ (id - nm) else X.μ id) ≠ none := hid
    split at hid'
    · rename_i hr; exact .inr hr
    · exact .inl hid'

end Go.Proofs.YtglnkfpmogaifaaGreatDoor.V

/-
  Slices beside nil; arrays of numbers beside one another.
-/
namespace Go.Proofs.YtglnkfpmogaifaaGreatDoor.V
open Go Go.RowKit

/-- 's == nil', 's != nil'. -/
def vnil (P : Program) (op : BinOp) (t : TypeId) (d : D) : Operand → Option D
  | .const (.slice none 0 0) =>
    match P.underlying t with
    | some (.slice _) =>
      match op, d with
      | .eql, .sc (.slice a _ _) => some (.sc (.bool a.isNone))
      | .neq, .sc (.slice a _ _) => some (.sc (.bool !a.isNone))
      | .eql, .rf _ _ _ _ => some (.sc (.bool false))
      | .neq, .rf _ _ _ _ => some (.sc (.bool true))
      | .eql, .sl (_ + 1) (_ :: _) => some (.sc (.bool false))
      | .neq, .sl (_ + 1) (_ :: _) => some (.sc (.bool true))
      | _, _ => none
    | _ => none
  | _ => none

/-- Numbers of one kind. -/
def asInts (k : IntKind) : List D → Option (List Int)
  | [] => some []
  | .sc (.int k' n) :: r => if k' = k then (asInts k r).map (n :: ·) else none
  | _ :: _ => none
/-- Two arrays of numbers. -/
def veqA (P : Program) (op : BinOp) (t : TypeId) : D → D → Option D
  | .ag xs, .ag ys =>
    match P.underlying t with
    | some (.array n e) =>
      match P.underlying e with
      | some (.int k) =>
        if P.eqGuardType P.depth t = false ∧ known P e = true ∧ aggOf P e = false ∧ szOf P e = 1 ∧ xs.length = n ∧ ys.length = n then
          (asInts k xs).bind fun l => (asInts k ys).bind fun l' =>
            match op with
            | .eql => some (.sc (.bool (decide (l = l'))))
            | .neq => some (.sc (.bool !(decide (l = l'))))
            | _ => none
        else none
      | _ => none
    | _ => none
  | _, _ => none

section
variable {P : Program} {X : Ctx}

theorem vnil_ok {op : BinOp} {t : TypeId} {d r : D} {xo y : Operand} {u v : Value} (h : vnil P op t d y = some r) (hu : Vr X d u) (hv : ∀ c, y = .const c → v = c) :
    ∃ q, (do eqGuard op t xo y u v; binOp op t u v : Sem Value).run P X.w = .ok q X.w ∧ Vr X r q := by
  unfold vnil at h
  split at h
  · have hv' := hv _ rfl
    subst hv'
    have key : ∀ (a : Option Addr) (l c : Nat) (e : TypeId), P.underlying t = some (.slice e) →
        ((do eqGuard .eql t xo (.const (.slice none 0 0)) (.slice a l c) (.slice none 0 0); binOp .eql t (.slice a l c) (.slice none 0 0) : Sem Value).run P X.w = .ok (.bool a.isNone) X.w) ∧
        ((do eqGuard .neq t xo (.const (.slice none 0 0)) (.slice a l c) (.slice none 0 0); binOp .neq t (.slice a l c) (.slice none 0 0) : Sem Value).run P X.w = .ok (.bool !a.isNone) X.w) := by
      intro a l c e hs
      constructor
      · rw [Sem.run_bind, show (eqGuard .eql t xo (.const (.slice none 0 0)) (.slice a l c) (.slice none 0 0)).run P X.w = .ok () X.w from rfl]
        simp only [Result.andThen, binOp]
        rw [Sem.run_bind, run_equal_slice_nil X.w t e a l c hs]
        rfl
      · rw [Sem.run_bind, show (eqGuard .neq t xo (.const (.slice none 0 0)) (.slice a l c) (.slice none 0 0)).run P X.w = .ok () X.w from rfl]
        exact run_neq_slice_nil X.w t e a l c hs
    split at h
    · rename_i e hs
      split at h <;> simp only [Option.some.injEq, reduceCtorEq] at h <;> subst h
      · simp only [Vr] at hu; subst hu
        exact ⟨_, (key _ _ _ e hs).1, Vr_sc⟩
      · simp only [Vr] at hu; subst hu
        exact ⟨_, (key _ _ _ e hs).2, Vr_sc⟩
      · simp only [Vr] at hu
        obtain ⟨l, cap, _, rfl, _⟩ := hu
        exact ⟨_, (key _ _ _ e hs).1, Vr_sc⟩
      · simp only [Vr] at hu
        obtain ⟨l, cap, _, rfl, _⟩ := hu
        exact ⟨_, (key _ _ _ e hs).2, Vr_sc⟩
      · simp only [Vr] at hu
        obtain ⟨_, a, cap, rfl, _, h'⟩ := hu
        rcases h' with h' | ⟨b, off, rfl, _⟩
        · cases h'
        · exact ⟨_, (key _ _ _ e hs).1, Vr_sc⟩
      · simp only [Vr] at hu
        obtain ⟨_, a, cap, rfl, _, h'⟩ := hu
        rcases h' with h' | ⟨b, off, rfl, _⟩
        · cases h'
        · exact ⟨_, (key _ _ _ e hs).2, Vr_sc⟩
    · cases h
  · cases h

theorem asInts_ok {k : IntKind} : ∀ {ds : List D} {vs : List Value} {l : List Int}, asInts k ds = some l → Lr X ds vs → vs = l.map (.int k ·)
  | [], vs, l, h, hl => by
    simp only [asInts, Option.some.injEq] at h; subst h
    simpa [Lr] using hl
  | d :: ds, vs, l, h, hl => by
    unfold asInts at h
    split at h
    · rename_i h0; cases h0
    · rename_i k' n r e
      obtain ⟨rfl, rfl⟩ : d = .sc (.int k' n) ∧ ds = r := by cases e; exact ⟨rfl, rfl⟩
      split at h
      · rename_i hk
        subst hk
        simp only [Option.map_eq_some_iff] at h
        obtain ⟨l', h1, rfl⟩ := h
        simp only [Lr] at hl
        obtain ⟨v, r, rfl, hv, hr⟩ := hl
        simp only [Vr] at hv
        rw [List.map_cons, hv, asInts_ok h1 hr]
      · cases h
    · cases h

theorem run_part_int {w : World} {e : TypeId} {k : IntKind} (hk : known P e = true) (ha : aggOf P e = false) {l : List Int} {i : Nat} (hi : i < l.length) : (part e (l.map (.int k ·)).toArray i).run P w = .ok (.int k l[i]) w := by
  unfold part
  rw [Sem.run_bind, run_isAgg hk, ha]
  simp only [Result.andThen, Bool.false_eq_true, if_false]
  simp [hi]

theorem run_eqItems_ints {w : World} {e : TypeId} {k : IntKind} (hu : P.underlying e = some (.int k)) (hk : known P e = true) (ha : aggOf P e = false) (d : Nat) {l l' : List Int} (hll : l.length = l'.length) : ∀ (n j : Nat), j + n = l.length →
    (Op.eqItems (d + 1) e 1 (l.map (.int k ·)).toArray (l'.map (.int k ·)).toArray (List.range' j n)).run P w = .ok (decide (l.drop j = l'.drop j)) w
  | 0, j, h => by
    rw [List.drop_eq_nil_of_le (by omega), List.drop_eq_nil_of_le (by omega)]
    simp [Op.eqItems]
  | n + 1, j, h => by
    have h1 : j < l.length := by omega
    have h2 : j < l'.length := by omega
    rw [List.range'_succ]
    simp only [Op.eqItems, Nat.mul_one]
    rw [Sem.run_bind, run_part_int hk ha h1]
    simp only [Result.andThen]
    rw [Sem.run_bind, run_part_int hk ha h2]
    simp only [Result.andThen]
    rw [Sem.run_bind, run_equalIn_int w d e k k l[j] l'[j] hu]
    simp only [Result.andThen]
    rw [List.drop_eq_getElem_cons h1, List.drop_eq_getElem_cons h2]
    by_cases he : l[j] = l'[j]
    · have ih := run_eqItems_ints hu hk ha (w := w) d hll n (j + 1) (by omega)
      simp only [he, beq_self_eq_true, Bool.not_true, Bool.false_eq_true, if_false, ih, List.cons.injEq, true_and]
    · have hb : (l[j] == l'[j]) = false := by simpa using he
      have hne : decide (l[j] :: l.drop (j + 1) = l'[j] :: l'.drop (j + 1)) = false := by simp only [List.cons.injEq, he, false_and, decide_false]
      rw [hne, hb]
      rfl

theorem veqA_ok {op : BinOp} {t : TypeId} {x y d : D} {xo yo : Operand} {u v : Value} (h : veqA P op t x y = some d) (hu : Vr X x u) (hv : Vr X y v) :
    ∃ q, (do eqGuard op t xo yo u v; binOp op t u v : Sem Value).run P X.w = .ok q X.w ∧ Vr X d q := by
  unfold veqA at h
  split at h
  · rename_i xs ys
    split at h
    · rename_i n e ht
      split at h
      · rename_i k he
        split at h
        · rename_i hc
          obtain ⟨h1, h2, h3, h4, h5, h6⟩ := hc
          simp only [Option.bind_eq_some_iff] at h
          obtain ⟨l, hl, l', hl', h⟩ := h
          simp only [Vr] at hu hv
          obtain ⟨us, rfl, hus⟩ := hu
          obtain ⟨vs, rfl, hvs⟩ := hv
          have e1 := asInts_ok hl hus
          have e2 := asInts_ok hl' hvs
          have n1 := Lr_length hus
          have n2 := Lr_length hvs
          rw [e1, List.length_map] at n1
          rw [e2, List.length_map] at n2
          obtain ⟨us⟩ := us
          obtain ⟨vs⟩ := vs
          simp only at e1 e2
          subst e1 e2
          have hinfo : ∃ i, P.info? e = some i := by
            unfold known at h2
            cases hi : P.info? e with
            | none => rw [hi] at h2; simp at h2
            | some i => exact ⟨i, rfl⟩
          obtain ⟨i, hi⟩ := hinfo
          have hsz : P.cellsOf e = 1 := by
            have : szOf P e = i.size := by simp [szOf, hi]
            simp [Program.cellsOf, hi]
            omega
          have heq : (Op.equal t (.agg (l.map (.int k ·)).toArray) (.agg (l'.map (.int k ·)).toArray)).run P X.w = .ok (decide (l = l')) X.w := by
            unfold Op.equal
            rw [show Op.maxDepth = 9999 + 1 from rfl, run_equalIn_array X.w 9999 _ _ ht hi, hsz, List.range_eq_range']
            have := run_eqItems_ints he h2 h3 (w := X.w) 9998 (l := l) (l' := l') (by omega) n 0 (by omega)
            simpa using this
          have hg := fun op' => run_eqGuard_agg (P := P) X.w op' t xo yo (l.map (.int k ·)).toArray (l'.map (.int k ·)).toArray h1
          split at h <;> simp only [Option.some.injEq, reduceCtorEq] at h <;> subst h
          · refine ⟨_, ?_, Vr_sc⟩
            rw [Sem.run_bind, hg]
            simp only [Result.andThen, binOp]
            rw [Sem.run_bind, heq]
            rfl
          · refine ⟨_, ?_, Vr_sc⟩
            rw [Sem.run_bind, hg]
            simp only [Result.andThen, binOp]
            rw [Sem.run_bind, heq]
            rfl
        · cases h
      · cases h
    · cases h
  · cases h
end

theorem run_v' {P : Program} {w w' : World} {s : Sem Value} {v : Value} (h : s.run P w = .ok v w') : ((s.run P w).andThen fun v w => (pure (.value v) : Sem Next).run P w) = .ok (.value v) w' := by rw [h]; rfl
/-- '[]T{}', as an empty slice. -/
theorem OpL.buildSlice0 {P : Program} {o : Oper} {ρ : Operand → D} {s : Sg} {nm : Nat} {t e : TypeId} {parts : Array (Nat × Operand)} (ho : o.op = .buildSlice t 0 parts) (hp : parts.toList = []) (hu : P.underlying t = some (.slice e))
    (hk : (known P e && zok P e && szOf P e != 0) = true) : OpL P o ρ s nm ⟨.em, [], [], 0⟩ := by
  simp only [Bool.and_eq_true, bne_iff_ne, ne_eq] at hk
  obtain ⟨⟨hk1, hk2⟩, hk3⟩ := hk
  obtain ⟨i, z, hi, hz, hzs, _, _, hone, hzd⟩ := zok_spec hk2
  intro s' _ E ro m X a Q hs _ _
  obtain ⟨parts⟩ := parts
  simp only at hp
  subst hp
  have hrun : ∃ arr, (Instr.buildSlice t 0 #[]).run P X.w = .ok (.slice (some ⟨X.w.heap.size, 0, none⟩) 0 0) (X.w.alloc (.cells arr e)) := by
    refine ⟨#[], ?_⟩
    unfold Instr.buildSlice
    rw [Sem.run_bind, run_underlying hu]
    simp only [Result.andThen]
    rw [Sem.run_bind, run_sizeOf hk1]
    simp only [Result.andThen]
    rw [if_neg (by omega), if_pos (by omega), Sem.run_bind]
    simp only [Sem.run_pure, Result.andThen, Nat.zero_mul]
    have e0 : (Array.range 0).map ((#[] : Array Value)[· % (#[] : Array Value).size]!) = #[] := by simp
    rw [e0]
    rfl
  obtain ⟨arr, hrun⟩ := hrun
  have hw := hs.world ((Below.refl X.w.heap.size X.w).alloc (Nat.le_refl _) (.cells arr e))
  refine wpIn_of_value (by simp [ho]) (w' := X.w.alloc (.cells arr e)) (v := .slice (some ⟨X.w.heap.size, 0, none⟩) 0 0) (by unfold execOp; simp only [ho]; rw [Sem.run_bind]; exact run_v' (by simpa using hrun)) ⟨_, _, rfl, rfl, hw.1, hw.2, by simp [Vr], fun id h => .inl h⟩

end Go.Proofs.YtglnkfpmogaifaaGreatDoor.V

/-
  What an operation does to a state, xs one function; a region in the order of its text; code.
-/
namespace Go.Proofs.YtglnkfpmogaifaaGreatDoor.V
open Go Go.RowKit

section
variable {P : Program} {X : Ctx}
theorem vpick_ok {c a b d : D} {u v w : Value} (h : vpick c a b = some d) (hc : Vr X c u) (ha : Vr X a v) (hb : Vr X b w) : ∃ r, (do pure (if ← asBool u then v else w) : Sem Value).run P X.w = .ok r X.w ∧ Vr X d r := by
  unfold vpick at h
  split at h
  · rename_i t
    simp only [Option.some.injEq] at h; subst h
    simp only [Vr] at hc; subst hc
    cases t
    · exact ⟨w, rfl, hb⟩
    · exact ⟨v, rfl, ha⟩
  · cases h
end

theorem run_v {P : Program} {w w' : World} {s : Sem Value} {v : Value} (h : s.run P w = .ok v w') : (do pure (.value (← s)) : Sem Next).run P w = .ok (.value v) w' := by
  rw [Sem.run_bind, h]; rfl

/-- A copy into a slice of an object: how many elements; the object's cells. -/
def vcopy (P : Program) (s : Sg) (t : TypeId) (x y : D) : Option Eff :=
  match P.underlying t, x with
  | some (.slice e), .rf id off n _ =>
    if known P e = true ∧ szOf P e ≠ 0 then
      (vsrc s (szOf P e) y).bind fun mc => (s id).bind fun o =>
        if o.fz = false ∧ off + min mc.1 n * szOf P e ≤ o.cells.length then
          some ⟨.sc (.int .i64 ((min mc.1 n : Nat) : Int)), [(id, some ⟨splice o.cells off (mc.2.take (min mc.1 n * szOf P e)), o.elem, o.es, false⟩)], id :: idsOf y, 0⟩
        else none
    else none
  | _, _ => none
theorem OpL.copy {P : Program} {o : Oper} {ρ : Operand → D} {s : Sg} {nm : Nat} {t u : TypeId} {x y : Operand} {f : Eff} (ho : o.op = .call ⟨.builtin .copy, #[x, y], #[t, u]⟩) (h : vcopy P s t (ρ x) (ρ y) = some f) : OpL P o ρ s nm f := by
  unfold vcopy at h
  split at h
  · rename_i e id off n es ht hx
    split at h
    · rename_i hk
      obtain ⟨hk, hz⟩ := hk
      simp only [Option.bind_eq_some_iff] at h
      obtain ⟨⟨m, cs⟩, hy, ob, hob, h⟩ := h
      split at h
      · rename_i hc
        obtain ⟨hfz, hfit⟩ := hc
        simp only [Option.some.injEq] at h; subst h
        simp only at hfit ⊢
        intro s' hrd E ro m' X a Q hs hop _
        have hob' : s' id = some ob := by rw [hrd id (by simp)]; exact hob
        have e1 := hop x (by simp [ho, Op.operands, Call.operands])
        have e2 := hop y (by simp [ho, Op.operands, Call.operands])
        rw [hx] at e1
        simp only [Vr] at e1
        obtain ⟨l, cap, hml, ev1, _⟩ := e1
        obtain ⟨l', hl', hor, hblk⟩ := hs.objs id ob hob'
        rw [hml] at hl'; cases hl'
        obtain ⟨cur, hcur, hsz, hes, hle, hcells⟩ := hor
        have hy' : vsrc s' (szOf P e) (ρ y) = some (m, cs) := by rw [vsrc_agree (s := s) fun id hid => hrd id (by simp [hid])]; exact hy
        obtain ⟨news, hS, hL, hO⟩ := vsrc_ok (P := P) hs hy' hz e2
        have hnl := hS.length
        have hcl := Lr_length hL
        have hkm : min m n * szOf P e ≤ m * szOf P e := Nat.mul_le_mul_right _ (Nat.min_le_left _ _)
        have g1 := hS.len
        have g2 := hS.cells X.w (min m n) (fun _ => rfl) (Nat.min_le_left _ _)
        have hwl : (news.take (min m n * szOf P e)).length = min m n * szOf P e := by rw [List.length_take]; omega
        have hcw : (cs.take (min m n * szOf P e)).length = min m n * szOf P e := by rw [List.length_take]; omega
        have hO' : ∀ u ∈ news.take (min m n * szOf P e), u.oneCell' = true := fun u hu => hO u (List.mem_of_mem_take hu)
        have hL' : Lr X (cs.take (min m n * szOf P e)) (news.take (min m n * szOf P e)) := by
          have := Lr_cut hL 0 (min m n * szOf P e) (by omega)
          simpa using this
        generalize hws : news.take (min m n * szOf P e) = ws at g2 hwl hO' hL'
        generalize hds : cs.take (min m n * szOf P e) = ds at hcw hL'
        have hst := run_storeCells_at P l.blk off ob.elem ws 0 cur X.w hcur (by omega) hO'
        rw [Nat.add_zero] at hst
        have hrun : (Builtin.copy_ #[t, u] o.type #[a.eval x, a.eval y]).run P X.w = .ok (.int .i64 ((min m n : Nat) : Int)) (X.w.setRow l.blk (cur.toList.take off ++ ws ++ cur.toList.drop (off + ws.length)).toArray) := by
          rw [ev1]
          unfold Builtin.copy_
          simp only [List.getElem?_toArray, List.getElem?_cons_zero, List.getElem?_cons_succ]
          rw [Sem.run_bind, run_underlying ht]
          simp only [Result.andThen]
          rw [Sem.run_bind, g1]
          simp only [Result.andThen]
          rw [Sem.run_bind, run_sizeOf hk]
          simp only [Result.andThen]
          rw [Sem.run_bind, show (Nat.min m n) = min m n from rfl, g2]
          simp only [Result.andThen]
          rw [Sem.run_bind, hst]
          rfl
        obtain ⟨s1, s2⟩ := hs.write (id := id) (o := ob) (l := l) hob' hfz hml (X.w.setRow l.blk (cur.toList.take off ++ ws ++ cur.toList.drop (off + ws.length)).toArray)
          (cur.toList.take off ++ ws ++ cur.toList.drop (off + ws.length)).toArray (splice ob.cells off ds) rfl rfl rfl (by simp) (fun b hb => setRow_other _ _ _ _ hb)
          (setRow_heap _ _ cur _ _ _ hcur) (by simp only [List.size_toArray, List.length_append, List.length_take, List.length_drop, Array.length_toList]; rw [← hsz]; omega)
          (by simp only [splice, List.size_toArray, List.length_append, List.length_take, List.length_drop, Array.length_toList]; omega)
          (by
            intro i d hd'
            simp only [List.getElem?_toArray]
            unfold splice at hd'
            simp only [List.getElem?_append, List.length_append, List.length_take, List.getElem?_take, List.getElem?_drop, Array.length_toList] at hd' ⊢
            have c1 : min off ob.cells.length = off := by omega
            have c2 : min off cur.size = off := by omega
            simp only [c1, c2] at hd' ⊢
            by_cases a1 : i < off
            · have b1 : i < off + ds.length := by omega
              have b2 : i < off + ws.length := by omega
              simp only [a1, b1, b2, if_true] at hd' ⊢
              obtain ⟨u, hu, r⟩ := hcells i d hd'
              exact ⟨u, by simpa using hu, r⟩
            · by_cases a2 : i < off + ds.length
              · have b2 : i < off + ws.length := by omega
                simp only [a1, a2, b2, if_true, if_false] at hd' ⊢
                exact hL'.get' hO' _ d hd'
              · have b2 : ¬ i < off + ws.length := by omega
                simp only [a2, b2, if_false] at hd' ⊢
                have b3 : off + ws.length + (i - (off + ws.length)) = off + ds.length + (i - (off + ds.length)) := by omega
                rw [b3]
                obtain ⟨u, hu, r⟩ := hcells _ d hd'
                exact ⟨u, by simpa using hu, r⟩)
        refine wpIn_of_value (by simp [ho]) (v := .int .i64 ((min m n : Nat) : Int)) (by
          unfold execOp; simp only [ho, resolve, invoke, builtin]; rw [Sem.run_bind]; exact run_v (by simpa using hrun)) ⟨{ X with w := _ }, _, rfl, rfl, s1, s2, Vr_sc, fun id h => .inl h⟩
      · cases h
    · cases h
  · cases h

def isSl : D → Bool
  | .em | .sl _ _ | .rf _ _ _ _ => true
  | _ => false
/-- Bytes, read as a text. -/
def vtext (P : Program) (s : Sg) (a b : TypeId) (x : D) : Option D :=
  match P.underlying a, P.underlying b with
  | some (.slice e), some .string =>
    match P.underlying e with
    | some (.int .u8) => if szOf P e = 1 ∧ isSl x = true then (vsrc s 1 x).bind fun mc => (asInts .u8 mc.2).map fun l => .sc (.string ⟨(l.map fun n => UInt8.ofNat n.toNat).toArray⟩) else none
    | _ => none
  | _, _ => none
theorem foldl_push : ∀ (l : List Int) (acc : ByteArray), l.foldl (fun r n => r.push (UInt8.ofNat n.toNat)) acc = ⟨acc.data ++ (l.map fun n => UInt8.ofNat n.toNat).toArray⟩
  | [], acc => by simp
  | n :: l, acc => by
    rw [List.foldl_cons, foldl_push l]
    cases acc
    simp [ByteArray.push]
theorem isSl_ok {X : Ctx} {d : D} {v : Value} (h : isSl d = true) (hv : Vr X d v) : ∃ a n c, v = .slice a n c := by
  cases d <;> simp only [isSl, Bool.false_eq_true] at h <;> simp only [Vr] at hv
  · obtain ⟨a, rfl⟩ := hv; exact ⟨_, _, _, rfl⟩
  · obtain ⟨_, a, c, rfl, _⟩ := hv; exact ⟨_, _, _, rfl⟩
  · obtain ⟨l, c, _, rfl, _⟩ := hv; exact ⟨_, _, _, rfl⟩

/-- What a function of the model's own does, whatever the world. -/
def dv : Value → D
  | .tuple xs => .tp (xs.toList.map .sc)
  | v => .sc v
theorem dv_ok (X : Ctx) (v : Value) : Vr X (dv v) v := by
  unfold dv
  split
  · rename_i xs
    simp only [Vr]
    refine ⟨xs, rfl, Lr_of_get (by simp) fun i d u hd hu => ?_⟩
    simp only [List.getElem?_map, hu, Option.map_some, Option.some.injEq] at hd
    subst hd
    exact Vr_sc
  · exact Vr_sc
theorem Lr_scs {X : Ctx} : ∀ {us vs : List Value}, Lr X (us.map .sc) vs → vs = us
  | [], vs, h => by simpa [Lr] using h
  | u :: us, vs, h => by
    simp only [List.map_cons, Lr] at h
    obtain ⟨v, r, rfl, h1, h2⟩ := h
    simp only [Vr] at h1
    rw [h1, Lr_scs h2]
theorem OpL.ext {P : Program} {o : Oper} {ρ : Operand → D} {s : Sg} {nm : Nat} {x : Operand} {args : Array Operand} {ats : Array TypeId} {g : FuncId} {us : List Value} {v : Value}
    (ho : o.op = .call { callee := .value x, args := args, argTypes := ats }) (hx : ρ x = .fn (.func g) [] []) (ha : args.toList.map ρ = us.map .sc) (hw : ∀ w, (callFunc g us.toArray).run P w = .ok (.value v) w) :
    OpL P o ρ s nm ⟨dv v, [], [], 0⟩ := by
  refine OpL.value [] (by simp [ho]) fun E X s' a hs _ hop => ⟨v, ?_, dv_ok X v⟩
  have hx' := hop x (by simp [ho, Op.operands, Call.operands])
  rw [hx] at hx'
  simp only [Vr, Lr] at hx'
  obtain ⟨xs, ys, hxv, hx1, hx2⟩ := hx'
  have e1 : xs = #[] := Array.toList_eq_nil_iff.1 hx1
  have e2 : ys = #[] := Array.toList_eq_nil_iff.1 hx2
  subst e1 e2
  have hargs : Lr X (args.toList.map ρ) (args.map a.eval).toList := by
    refine Lr_of_get (by simp) fun i d u hd hu => ?_
    simp only [List.getElem?_map, Option.map_eq_some_iff] at hd
    obtain ⟨y, hy, rfl⟩ := hd
    have hy' : args[i]? = some y := by simpa using hy
    have hu' : u = a.eval y := by simpa [hy'] using hu.symm
    rw [hu']
    exact hop y (by
      simp only [ho, Op.operands, Call.operands]
      have : y ∈ args := Array.mem_of_getElem? hy'
      simp [this])
  rw [ha] at hargs
  have hus := Lr_scs hargs
  have hus' : args.map a.eval = us.toArray := by rw [← hus]
  unfold execOp
  simp only [ho, resolve, hxv, Deferred.ofValue]
  rw [Sem.run_bind]
  simp only [Sem.run_pure, Result.andThen]
  unfold invoke
  simp only [hus', Array.empty_append, Array.append_empty]
  exact hw X.w

/-- The effect of a call by contract. -/
def callEff (s : Sg) (nm : Nat) (all : List D) (r : D) (os : List O) : Eff :=
  if closed r && os.all (fun o => closedL o.cells) then ⟨ren (shift nm os.length) r, news nm os, all.flatMap (vids s 5), os.length⟩
  else ⟨ren (shift nm os.length) r, ((all.flatMap (vids s 5)).map fun id => (id, (s id).map fzO)) ++ news nm os, all.flatMap (vids s 5), os.length⟩

/-- The same, all that the callee sees frozen. -/
def callFrz (s : Sg) (nm : Nat) (all : List D) (r : D) (os : List O) : Eff :=
  ⟨ren (shift nm os.length) r, ((all.flatMap (vids s 5)).map fun id => (id, (s id).map fzO)) ++ news nm os, all.flatMap (vids s 5), os.length⟩

def vbuiltin (P : Program) (st : St) (b : Builtin) (args : List Operand) (ts : List TypeId) (K : Eff → Prop) : Prop :=
  match b, args, ts with
  | .len, [x], [t] => ∃ d, vlen P t (ev st x) = some d ∧ K ⟨d, [], [], 0⟩
  | .append, [x, y], [t, u] => SrcT P u ∧ ∃ f, vappend P st.s st.nx t (ev st x) (ev st y) = some f ∧ K f
  | .copy, [x, y], [t, u] => ∃ f, vcopy P st.s t (ev st x) (ev st y) = some f ∧ K f
  | .max, x :: r, _ => ∃ d, vfold vmax2 (ev st x) (r.map (ev st)) = some d ∧ K ⟨d, [], [], 0⟩
  | .min, x :: r, _ => ∃ d, vfold vmin2 (ev st x) (r.map (ev st)) = some d ∧ K ⟨d, [], [], 0⟩
  | _, _, _ => False
def vcall (P : Program) (st : St) (c : Call) (K : Eff → Prop) : Prop :=
  match c.callee with
  | .builtin b => vbuiltin P st b c.args.toList c.argTypes.toList K
  | .value x => (∃ g first caps, ev st x = .fn (.func g) first caps ∧ ∃ r os, Con P g ((first ++ c.args.toList.map (ev st) ++ caps).map (view st.s 5)) r os ∧
      K (callEff st.s st.nx (first ++ c.args.toList.map (ev st) ++ caps) r os)) ∨
      (∃ (g : FuncId) (us : List Value) (v : Value), ev st x = .fn (.func g) [] [] ∧ c.args.toList.map (ev st) = us.map .sc ∧ (∀ w, (callFunc g us.toArray).run P w = .ok (.value v) w) ∧ K ⟨dv v, [], [], 0⟩) ∨
      ∃ g first caps, ev st x = .fn (.func g) first caps ∧ ∃ r os, Con P g ((first ++ c.args.toList.map (ev st) ++ caps).map (view st.s 5)) r os ∧
        K (callFrz st.s st.nx (first ++ c.args.toList.map (ev st) ++ caps) r os)
  | .invoke _ _ => False

def vdo (P : Program) (o : Oper) (st : St) (K : Eff → Prop) : Prop :=
  match o.op with
  | .move x => K ⟨ev st x, [], [], 0⟩
  | .assign x => K ⟨ev st x, [], [], 0⟩
  | .pick c a b => ∃ d, vpick (ev st c) (ev st a) (ev st b) = some d ∧ K ⟨d, [], [], 0⟩
  | .alloc e => zok P e = true ∧ K ⟨.pt st.nx 0, [(st.nx, some ⟨zeroD P e, e, 0, false⟩)], [], 1⟩
  | .box e x => ∃ cs, vcells (ev st x) = some cs ∧ K ⟨.pt st.nx 0, [(st.nx, some ⟨cs, e, 0, false⟩)], [], 1⟩
  | .build t ps => ∃ d, vbuild P t (vparts (ev st) ps.toList) = some d ∧ K ⟨d, [], [], 0⟩
  | .buildSlice t n ps => (n = 0 ∧ ps.toList = [] ∧ (∃ e, P.underlying t = some (.slice e) ∧ (known P e && zok P e && szOf P e != 0) = true) ∧ K ⟨.em, [], [], 0⟩) ∨
      ∃ e, P.underlying t = some (.slice e) ∧ ∃ cs, vbuildSlice P e n (vparts (ev st) ps.toList) = some cs ∧ K ⟨.rf st.nx 0 n (szOf P e), [(st.nx, some ⟨cs, e, szOf P e, false⟩)], [], 1⟩
  | .load t x => ∃ d, vload P st.s t (ev st x) = some d ∧ K ⟨d, [], idsOf (ev st x), 0⟩
  | .store t x y => ∃ id off, ev st x = .pt id off ∧ ∃ ob, st.s id = some ob ∧ ∃ cs, vcells (ev st y) = some cs ∧ known P t = true ∧ ob.fz = false ∧ cs.length = szOf P t ∧ off + cs.length ≤ ob.cells.length ∧
      K ⟨.sc undef, [(id, some ⟨splice ob.cells off cs, ob.elem, ob.es, false⟩)], [id], 0⟩
  | .nilCheck x => ∃ d, vnilCheck (ev st x) = some d ∧ K ⟨d, [], [], 0⟩
  | .binOp op t x y _ => ∃ d, (vbin P op t (ev st x) (ev st y) = some d ∨ vnil P op t (ev st x) y = some d ∨ veqA P op t (ev st x) (ev st y) = some d) ∧ K ⟨d, [], [], 0⟩
  | .unOp op _ x => ∃ d, vunOp op (ev st x) = some d ∧ K ⟨d, [], [], 0⟩
  | .convert s t x => ∃ d rd, ((vconvert P s t (ev st x) = some d ∧ rd = []) ∨ (vtext P st.s s t (ev st x) = some d ∧ rd = idsOf (ev st x))) ∧ K ⟨d, [], rd, 0⟩
  | .makeFunc f a b => K ⟨.fn f (a.toList.map (ev st)) (b.toList.map (ev st)), [], [], 0⟩
  | .makeSlice t l c => ∃ e, P.underlying t = some (.slice e) ∧ ∃ kl l', ev st l = .sc (.int kl l') ∧ ∃ kc c', ev st c = .sc (.int kc c') ∧ (known P e && zok P e && szOf P e != 0) = true ∧ 0 ≤ l' ∧ l' ≤ c' ∧ (bytesOf P e : Int) * c' ≤ 281474976710656 ∧ c' ≤ maxLen ∧
      K ⟨.rf st.nx 0 l'.toNat (szOf P e), [(st.nx, some ⟨zrow P e l'.toNat, e, szOf P e, false⟩)], [], 1⟩
  | .slice t x lo hi mx => ∃ d, vslice P st.s t (ev st x) (lo.map (ev st)) (hi.map (ev st)) (mx.map (ev st)) = some d ∧ K ⟨d, [], idsOf (ev st x), 0⟩
  | .fieldAddr t x f => ∃ d, vfieldAddr P t (ev st x) f = some d ∧ K ⟨d, [], [], 0⟩
  | .field t x f => ∃ d, vfield P t (ev st x) f = some d ∧ K ⟨d, [], [], 0⟩
  | .indexAddr t x i => ∃ d, vindexAddr P t (ev st x) (ev st i) = some d ∧ K ⟨d, [], [], 0⟩
  | .index t x i => ∃ d, vindex P t (ev st x) (ev st i) = some d ∧ K ⟨d, [], [], 0⟩
  | .extract x i => ∃ d, vextract (ev st x) i = some d ∧ K ⟨d, [], [], 0⟩
  | .call c => vcall P st c K
  | _ => False

theorem vnilCheck_ok {P : Program} {X : Ctx} {o : Oper} {x : Operand} {a : Act} {d D' : D} (ho : o.op = .nilCheck x) (h : vnilCheck D' = some d) (hv : Vr X D' (a.eval x)) : ∃ v, (execOp a.eval o).run P X.w = .ok (.value v) X.w ∧ Vr X d v := by
  unfold execOp
  simp only [ho]
  unfold vnilCheck at h
  split at h <;> simp only [Option.some.injEq, reduceCtorEq] at h <;> subst h
  · have hv' := hv
    simp only [Vr] at hv'
    obtain ⟨l, _, e⟩ := hv'
    rw [e] at hv ⊢
    exact ⟨_, rfl, hv⟩
  · have hv' := hv
    simp only [Vr] at hv'
    obtain ⟨b, o', e, _⟩ := hv'
    rw [e] at hv ⊢
    exact ⟨_, rfl, hv⟩
  all_goals
    have hv' := hv
    simp only [Vr] at hv'
    first
    | (obtain ⟨xs, ys, e, _⟩ := hv'; rw [e] at hv ⊢; exact ⟨_, rfl, hv⟩)
    | (rw [hv'] at hv ⊢; exact ⟨_, rfl, hv⟩)

theorem vcall_ok {P : Program} {o : Oper} {st : St} {c : Call} {K : Eff → Prop} (ho : o.op = .call c) (h : vcall P st c K) : ∃ f, OpL P o (ev st) st.s st.nx f ∧ K f := by
  obtain ⟨callee, args, ats⟩ := c
  unfold vcall at h
  cases callee with
  | invoke x n => exact h.elim
  | value x =>
    simp only at h
    rcases h with ⟨g, first, caps, hx, r, os, hc, hK⟩ | ⟨g, us, v, hx, ha, hw, hK⟩ | ⟨g, first, caps, hx, r, os, hc, hK⟩
    rotate_left
    · exact ⟨_, OpL.ext ho hx ha hw, hK⟩
    · refine ⟨_, ?_, hK⟩
      have := OpL.call (s := st.s) (nm := st.nx) ((first ++ args.toList.map (ev st) ++ caps).flatMap (vids st.s 5)) 5 ho hx hc (.inr fun id hid => hid)
      intro s' hrd
      exact this s' fun id hid => hrd id ((List.mem_append.1 hid).elim (fun h => h) (fun h => h))
    refine ⟨_, ?_, hK⟩
    unfold callEff
    split
    · rename_i hcl
      simp only [Bool.and_eq_true, List.all_eq_true] at hcl
      have := OpL.call (s := st.s) (nm := st.nx) [] 5 ho hx hc (.inl hcl)
      simpa using this
    · have := OpL.call (s := st.s) (nm := st.nx) ((first ++ args.toList.map (ev st) ++ caps).flatMap (vids st.s 5)) 5 ho hx hc (.inr fun id hid => hid)
      intro s' hrd
      exact this s' fun id hid => hrd id ((List.mem_append.1 hid).elim (fun h => h) (fun h => h))
  | builtin b =>
    obtain ⟨args⟩ := args
    obtain ⟨ats⟩ := ats
    simp only at h
    unfold vbuiltin at h
    split at h
    · rename_i x t
      obtain ⟨d, hd, hK⟩ := h
      refine ⟨_, OpL.value [] (by simp [ho]) fun E X s' a hs _ hop => ?_, hK⟩
      obtain ⟨v, hr, hv⟩ := vlen_ok (P := P) (ty := o.type) hd (hop x (by simp [ho, Op.operands, Call.operands]))
      exact ⟨v, by unfold execOp; simp only [ho, resolve, invoke, builtin]; rw [Sem.run_bind]; exact run_v (by simpa using hr), hv⟩
    · rename_i x y t u
      obtain ⟨hu, f, hf, hK⟩ := h
      have hfk : f.k = 1 := by
        unfold vappend at hf
        split at hf
        · split at hf
          · simp only [Option.bind_eq_some_iff, Prod.exists] at hf
            obtain ⟨m, cs, _, hf⟩ := hf
            split at hf
            · split at hf
              · simp only [Option.some.injEq] at hf; subst hf; rfl
              · split at hf
                · simp only [Option.some.injEq] at hf; subst hf; rfl
                · cases hf
            · simp only [Option.bind_eq_some_iff] at hf
              obtain ⟨o', _, hf⟩ := hf
              split at hf
              · simp only [Option.some.injEq] at hf; subst hf; rfl
              · cases hf
            · cases hf
          · cases hf
        · cases hf
      have hx : ev st x = .em ∨ ∃ id n es, ev st x = .rf id 0 n es := by
        unfold vappend at hf
        split at hf
        · split at hf
          · simp only [Option.bind_eq_some_iff, Prod.exists] at hf
            obtain ⟨m, cs, _, hf⟩ := hf
            split at hf
            · rename_i h1; exact .inl h1
            · rename_i id n es h1; exact .inr ⟨id, n, es, h1⟩
            · cases hf
          · cases hf
        · cases hf
      refine ⟨f, ?_, hK⟩
      intro s' hrd E ro m X a Q hs hop hnm
      have hag : ∀ id ∈ idsOf (ev st x) ++ idsOf (ev st y), s' id = st.s id := fun id hid => hrd id (vappend_rd hf hx id hid)
      have hf' : vappend P s' st.nx t (ev st x) (ev st y) = some f := by rw [vappend_agree hag]; exact hf
      obtain ⟨Y, v, hr, h1, h2, h3, h4⟩ := vappend_ok (ty := o.type) hs (hnm st.nx (Nat.le_refl _) (by omega)) hf' hu (hop x (by simp [ho, Op.operands, Call.operands])) (hop y (by simp [ho, Op.operands, Call.operands]))
      refine wpIn_of_value (by simp [ho]) (w' := Y.w) (v := v) (by unfold execOp; simp only [ho, resolve, invoke, builtin]; rw [Sem.run_bind]; exact run_v (by simpa using hr)) ⟨Y, v, rfl, rfl, h1, h2, h3, fun id hid => ?_⟩
      by_cases hn : id = st.nx
      · exact .inr ⟨by omega, by omega⟩
      · rw [h4 id hn] at hid; exact .inl hid
    · rename_i x y t u
      obtain ⟨f, hf, hK⟩ := h
      exact ⟨f, OpL.copy ho hf, hK⟩
    · rename_i ats x r
      obtain ⟨d, hd, hK⟩ := h
      refine ⟨_, OpL.value [] (by simp [ho]) fun E X s' a hs _ hop => ?_, hK⟩
      obtain ⟨v, hr, hv⟩ := vfold_ok (P := P) (X := X) (g := Builtin.max2) vmax2_ok (r.map (ev st)) (ev st x) (r.map a.eval) (a.eval x) d hd (hop x (by simp [ho, Op.operands, Call.operands])) (Lr_of_get (by simp) fun i d v hd hv => by
        simp only [List.getElem?_map, Option.map_eq_some_iff] at hd hv
        obtain ⟨y, hy, rfl⟩ := hd
        obtain ⟨y', hy', rfl⟩ := hv
        rw [hy] at hy'; cases hy'
        exact hop y (by simp [ho, Op.operands, Call.operands, List.mem_of_getElem? hy]))
      exact ⟨v, by unfold execOp; simp only [ho, resolve, invoke, builtin]; rw [Sem.run_bind]; exact run_v (by simpa [Builtin.max_] using hr), hv⟩
    · rename_i ats x r
      obtain ⟨d, hd, hK⟩ := h
      refine ⟨_, OpL.value [] (by simp [ho]) fun E X s' a hs _ hop => ?_, hK⟩
      obtain ⟨v, hr, hv⟩ := vfold_ok (P := P) (X := X) (g := Builtin.min2) vmin2_ok (r.map (ev st)) (ev st x) (r.map a.eval) (a.eval x) d hd (hop x (by simp [ho, Op.operands, Call.operands])) (Lr_of_get (by simp) fun i d v hd hv => by
        simp only [List.getElem?_map, Option.map_eq_some_iff] at hd hv
        obtain ⟨y, hy, rfl⟩ := hd
        obtain ⟨y', hy', rfl⟩ := hv
        rw [hy] at hy'; cases hy'
        exact hop y (by simp [ho, Op.operands, Call.operands, List.mem_of_getElem? hy]))
      exact ⟨v, by unfold execOp; simp only [ho, resolve, invoke, builtin]; rw [Sem.run_bind]; exact run_v (by simpa [Builtin.min_] using hr), hv⟩
    · exact h.elim

theorem vdo_ok {P : Program} {o : Oper} {st : St} {K : Eff → Prop} (h : vdo P o st K) : ∃ f, OpL P o (ev st) st.s st.nx f ∧ K f := by
  unfold vdo at h
  split at h
  case h_1 x ho =>
    exact ⟨_, OpL.value [] (by simp [ho]) fun E X s' a hs _ hop => ⟨a.eval x, by unfold execOp; simp only [ho]; rfl, hop x (by simp [ho, Op.operands])⟩, h⟩
  case h_2 x ho =>
    exact ⟨_, OpL.value [] (by simp [ho]) fun E X s' a hs _ hop => ⟨a.eval x, by unfold execOp; simp only [ho]; rfl, hop x (by simp [ho, Op.operands])⟩, h⟩
  case h_3 c a b ho =>
    obtain ⟨d, hd, hK⟩ := h
    refine ⟨_, OpL.value [] (by simp [ho]) fun E X s' ac hs _ hop => ?_, hK⟩
    obtain ⟨r, hr, hv⟩ := vpick_ok (P := P) hd (hop c (by simp [ho, Op.operands])) (hop a (by simp [ho, Op.operands])) (hop b (by simp [ho, Op.operands]))
    refine ⟨r, ?_, hv⟩
    unfold execOp
    simp only [ho]
    rw [Sem.run_bind] at hr ⊢
    cases hb : (asBool (ac.eval c)).run P X.w with
    | ok t w' =>
      rw [hb] at hr
      simp only [Result.andThen, Sem.run_pure, Result.ok.injEq] at hr ⊢
      exact ⟨by rw [hr.1], hr.2⟩
    | halt x w' => rw [hb] at hr; cases hr
  case h_4 e ho => exact ⟨_, OpL.alloc ho h.1, h.2⟩
  case h_5 e x ho =>
    obtain ⟨cs, hc, hK⟩ := h
    exact ⟨_, OpL.box ho hc, hK⟩
  case h_6 t ps ho =>
    obtain ⟨d, hd, hK⟩ := h
    refine ⟨_, OpL.value [] (by simp [ho]) fun E X s' a hs _ hop => ?_, hK⟩
    obtain ⟨v, hr, hv⟩ := vbuild_ok (P := P) (X := X) (a := a) (fun p hp => hop p.2 (by simp only [ho, Op.operands, List.mem_map]; exact ⟨p, hp, rfl⟩)) hd
    exact ⟨v, by unfold execOp; simp only [ho]; exact run_v hr, hv⟩
  case h_7 t n ps ho =>
    rcases h with ⟨rfl, hp, ⟨e, hu, hk⟩, hK⟩ | ⟨e, hu, cs, hc, hK⟩
    · exact ⟨_, OpL.buildSlice0 ho hp hu hk, hK⟩
    · exact ⟨_, OpL.buildSlice ho hu hc, hK⟩
  case h_8 t x ho =>
    obtain ⟨d, hd, hK⟩ := h
    refine ⟨_, OpL.value _ (by simp [ho]) fun E X s' a hs hrd hop => ?_, hK⟩
    have hd' : vload P s' t (ev st x) = some d := by
      rw [← hd]
      unfold vload
      cases hx : ev st x <;> simp only [vcellsAt]
      rename_i id off
      rw [hrd id (by simp [hx, idsOf])]
    obtain ⟨v, hr, hv⟩ := vload_ok hs hd' (hop x (by simp [ho, Op.operands]))
    exact ⟨v, by unfold execOp; simp only [ho]; exact run_v hr, hv⟩
  case h_9 t x y ho =>
    obtain ⟨id, off, hx, ob, hob, cs, hc, hk, hfz, hl, hfit, hK⟩ := h
    exact ⟨_, OpL.store ho hk hx hob hfz hc hl hfit, hK⟩
  case h_10 x ho =>
    obtain ⟨d, hd, hK⟩ := h
    exact ⟨_, OpL.value [] (by simp [ho]) fun E X s' a hs _ hop => vnilCheck_ok ho hd (hop x (by simp [ho, Op.operands])), hK⟩
  case h_11 op t x y yt ho =>
    obtain ⟨d, hd, hK⟩ := h
    refine ⟨_, OpL.value [] (by simp [ho]) fun E X s' a hs _ hop => ?_, hK⟩
    have hx := hop x (by simp [ho, Op.operands])
    have hy := hop y (by simp [ho, Op.operands])
    have key : ∃ r, (do eqGuard op t x y (a.eval x) (a.eval y); binOp op t (a.eval x) (a.eval y) : Sem Value).run P X.w = .ok r X.w ∧ Vr X d r := by
      rcases hd with hd | hd | hd
      · exact vbin_ok (P := P) x y hd hx hy
      · exact vnil_ok hd hx fun c hc => by subst hc; rfl
      · exact veqA_ok hd hx hy
    obtain ⟨v, hr, hv⟩ := key
    exact ⟨v, by unfold execOp; simp only [ho]; exact run_v hr, hv⟩
  case h_12 op t x ho =>
    obtain ⟨d, hd, hK⟩ := h
    refine ⟨_, OpL.value [] (by simp [ho]) fun E X s' a hs _ hop => ?_, hK⟩
    obtain ⟨v, hr, hv⟩ := vunOp_ok (P := P) hd (hop x (by simp [ho, Op.operands]))
    exact ⟨v, by unfold execOp; simp only [ho]; exact run_v hr, hv⟩
  case h_13 s t x ho =>
    obtain ⟨d, rd, hd, hK⟩ := h
    rcases hd with ⟨hd, rfl⟩ | ⟨hd, rfl⟩
    · refine ⟨_, OpL.value [] (by simp [ho]) fun E X s' a hs _ hop => ?_, hK⟩
      obtain ⟨v, hr, hv⟩ := vconvert_ok (P := P) hd (hop x (by simp [ho, Op.operands]))
      exact ⟨v, by unfold execOp; simp only [ho]; exact run_v hr, hv⟩
    · refine ⟨_, OpL.value _ (by simp [ho]) fun E X s' a hs hrd hop => ?_, hK⟩
      unfold vtext at hd
      split at hd
      · rename_i e hs1 hs2
        split at hd
        · rename_i he
          split at hd
          · rename_i hz
            simp only [Option.bind_eq_some_iff, Option.map_eq_some_iff] at hd
            obtain ⟨⟨m, cs⟩, hsrc, l, hl, rfl⟩ := hd
            have hsrc' : vsrc s' 1 (ev st x) = some (m, cs) := by rw [vsrc_agree (s := st.s) hrd]; exact hsrc
            obtain ⟨news, hS, hL, hO⟩ := vsrc_ok (P := P) hs hsrc' (by decide) (hop x (by simp [ho, Op.operands]))
            have hn := asInts_ok hl hL
            refine ⟨_, ?_, Vr_sc⟩
            have g1 := hS.len
            have g2 := hS.cells X.w m (fun _ => rfl) (Nat.le_refl _)
            have hnl := hS.length
            rw [Nat.mul_one] at hnl g2
            rw [← hnl, List.take_length] at g2
            obtain ⟨b, n', c, hval⟩ := isSl_ok hz.2 (hop x (by simp [ho, Op.operands]))
            rw [hval] at g1 g2
            have hnm : n' = m := by
              have : (Result.ok n' X.w : Result Nat) = .ok m X.w := g1
              simpa using this
            subst hnm
            unfold execOp; simp only [ho]; refine run_v ?_
            rw [hval, run_convert_bytes_string X.w s t e b n' c hs1 he hs2]
            rw [hn] at g2
            cases b with
            | none =>
              have : (Result.ok #[] X.w : Result (Array Value)) = .ok (l.map (Value.int .u8 ·)).toArray X.w := g2
              have hl0 : l = [] := by simpa using this
              subst hl0
              rfl
            | some ad =>
              have hln : l.length = n' := by rw [hn] at hnl; simpa using hnl
              have hld : (loadCells ad n').run P X.w = .ok (l.map (Value.int .u8)).toArray X.w := by
                have := g2
                unfold Builtin.firstCells at this
                rw [← hln]
                simpa using this
              rw [run_bytesToString X.w ad n' c l hld, foldl_push]
              simp
          · cases hd
        · cases hd
      · cases hd
  case h_14 f a b ho =>
    refine ⟨_, OpL.value [] (by simp [ho]) fun E X s' ac hs _ hop => ?_, h⟩
    have hm : ∀ xs : Array Operand, (∀ x ∈ xs, x ∈ o.op.operands.toList) → Lr X (xs.toList.map (ev st)) (xs.map ac.eval).toList := fun xs has => by
      refine Lr_of_get (by simp) fun i d v hd hv => ?_
      simp only [List.getElem?_map, Option.map_eq_some_iff] at hd
      obtain ⟨y, hy, rfl⟩ := hd
      have hy' : xs[i]? = some y := by simpa using hy
      have hv' : v = ac.eval y := by simpa [hy'] using hv.symm
      rw [hv']
      exact hop y (has y (Array.mem_of_getElem? hy'))
    refine ⟨.func f (a.map ac.eval) (b.map ac.eval), by unfold execOp; simp only [ho]; rfl, ?_⟩
    simp only [Vr]
    exact ⟨_, _, rfl, hm a fun x hx => by simp [ho, Op.operands, hx], hm b fun x hx => by simp [ho, Op.operands, hx]⟩
  case h_15 t l c ho =>
    obtain ⟨e, hu, kl, l', hl, kc, c', hc, hk, h0, hlc, hb, hm, hK⟩ := h
    exact ⟨_, OpL.makeSlice ho hu hk hl hc h0 hlc hb hm, hK⟩
  case h_16 t x lo hi mx ho =>
    obtain ⟨d, hd, hK⟩ := h
    refine ⟨_, OpL.value _ (by simp [ho]) fun E X s' a hs hrd hop => ?_, hK⟩
    have hd' : vslice P s' t (ev st x) (lo.map (ev st)) (hi.map (ev st)) (mx.map (ev st)) = some d := by
      rw [← hd]
      unfold vslice
      cases hx : ev st x <;> cases mx <;> try rfl
      all_goals
        rename_i id off
        simp only [Option.map_none, hrd id (by simp [hx, idsOf])]
    have hVo : ∀ y : Option Operand, (∀ z, y = some z → z ∈ o.op.operands.toList) → Vo X (y.map (ev st)) (y.map a.eval) := fun y hy => by
      cases y with
      | none => simp [Vo]
      | some z => simp only [Option.map_some, Vo]; exact ⟨_, rfl, hop z (hy z rfl)⟩
    obtain ⟨v, hr, hv⟩ := vslice_ok hs hd' (hop x (by simp [ho, Op.operands])) (hVo lo fun z hz => by simp [ho, Op.operands, hz]) (hVo hi fun z hz => by simp [ho, Op.operands, hz]) (hVo mx fun z hz => by simp [ho, Op.operands, hz])
    exact ⟨v, by unfold execOp; simp only [ho]; exact run_v hr, hv⟩
  case h_17 t x f ho =>
    obtain ⟨d, hd, hK⟩ := h
    refine ⟨_, OpL.value [] (by simp [ho]) fun E X s' a hs _ hop => ?_, hK⟩
    obtain ⟨v, hr, hv⟩ := vfieldAddr_ok (P := P) hd (hop x (by simp [ho, Op.operands]))
    exact ⟨v, by unfold execOp; simp only [ho]; exact run_v hr, hv⟩
  case h_18 t x f ho =>
    obtain ⟨d, hd, hK⟩ := h
    refine ⟨_, OpL.value [] (by simp [ho]) fun E X s' a hs _ hop => ?_, hK⟩
    obtain ⟨v, hr, hv⟩ := vfield_ok (P := P) hd (hop x (by simp [ho, Op.operands]))
    exact ⟨v, by unfold execOp; simp only [ho]; exact run_v hr, hv⟩
  case h_19 t x i ho =>
    obtain ⟨d, hd, hK⟩ := h
    refine ⟨_, OpL.value [] (by simp [ho]) fun E X s' a hs _ hop => ?_, hK⟩
    obtain ⟨v, hr, hv⟩ := vindexAddr_ok (P := P) hd (hop x (by simp [ho, Op.operands])) (hop i (by simp [ho, Op.operands]))
    exact ⟨v, by unfold execOp; simp only [ho]; exact run_v hr, hv⟩
  case h_20 t x i ho =>
    obtain ⟨d, hd, hK⟩ := h
    refine ⟨_, OpL.value [] (by simp [ho]) fun E X s' a hs _ hop => ?_, hK⟩
    obtain ⟨v, hr, hv⟩ := vindex_ok (P := P) hd (hop x (by simp [ho, Op.operands])) (hop i (by simp [ho, Op.operands]))
    exact ⟨v, by unfold execOp; simp only [ho]; exact run_v hr, hv⟩
  case h_21 x i ho =>
    obtain ⟨d, hd, hK⟩ := h
    refine ⟨_, OpL.value [] (by simp [ho]) fun E X s' a hs _ hop => ?_, hK⟩
    obtain ⟨v, hr, hv⟩ := vextract_ok (P := P) hd (hop x (by simp [ho, Op.operands]))
    exact ⟨v, by unfold execOp; simp only [ho]; exact run_v hr, hv⟩
  case h_22 c ho => exact vcall_ok ho h
  case h_23 => exact h.elim

/-! ### a region in the order of its text -/
def vwant (ops : Array Oper) (st : St) (o : Oper) : Option Bool :=
  match o.guard with
  | none => some true
  | some (j, want) =>
    match (ops[j]?).bind (·.dst) with
    | some d =>
      match st.t d with
      | .sc (.bool b) => some (b == want)
      | .sc (.tuple _) => some false
      | _ => none
    | none => none

theorem vwant_ok {ops : Array Oper} {st : St} {o : Oper} {X : Ctx} {a : Act} {b : Bool} (htr : Tr X st.t a.tmps) (h : vwant ops st o = some b) : Region.wanted o (yielded ops a.tmps) = b := by
  unfold vwant at h
  unfold Region.wanted
  split at h
  · rename_i hg; simp only [Option.some.injEq] at h; rw [hg]; exact h
  · rename_i j want hg
    rw [hg]
    simp only
    split at h
    · rename_i d hd
      have hv := htr d
      unfold yielded
      rw [hd]
      simp only [Option.bind_some]
      split at h
      · rename_i c hc
        simp only [Option.some.injEq] at h; subst h
        rw [hc] at hv
        simp only [Vr] at hv
        have : a.tmps[d]? = some (.bool c) := by
          rw [Array.getD_eq_getD_getElem?] at hv
          cases he : a.tmps[d]? with
          | none => rw [he] at hv; cases hv
          | some x => rw [he] at hv; simp only [Option.getD_some] at hv; rw [hv]
        rw [this]
        simp
      · rename_i c hc
        simp only [Option.some.injEq] at h; subst h
        rw [hc] at hv
        simp only [Vr] at hv
        have : a.tmps[d]? = none ∨ a.tmps[d]? = some (.tuple c) := by
          rw [Array.getD_eq_getD_getElem?] at hv
          cases he : a.tmps[d]? with
          | none => exact .inl rfl
          | some x => rw [he] at hv; simp only [Option.getD_some] at hv; rw [hv]; exact .inr rfl
        rcases this with e | e <;> rw [e] <;> simp
      · cases h
    · cases h

def vrun (P : Program) (ops : Array Oper) (Q : St → Prop) : List Oper → St → Prop
  | [], st => Q st
  | o :: rest, st => ∃ b, vwant ops st o = some b ∧ st.fits o.dst ∧ (b = true → vdo P o st fun f => vrun P ops Q rest (st.eff o.dst f)) ∧ (b = false → vrun P ops Q rest (st.set o.dst (.sc undef)))

theorem Good.eff {E : Env} {X Y : Ctx} {st : St} {a : Act} {dst : Option Tmp} {f : Eff} {v : Value} (h : Good E X st a) (hd : st.fits dst) (hs : Sim E Y (st.s.app f.ws)) (k : Step X st.s Y (st.s.app f.ws)) (hv : Vr Y f.d v)
    (hn : ∀ id, Y.μ id ≠ none → X.μ id ≠ none ∨ (st.nx ≤ id ∧ id < st.nx + f.k)) : Good E Y (st.eff dst f) (a.put dst v) := by
  have htr : Tr Y st.t a.tmps := h.tr.later (k.later h.sim)
  have hfr : ∀ id, st.nx + f.k ≤ id → Y.μ id = none := fun id hid => by
    cases e : Y.μ id with
    | none => rfl
    | some l =>
      rcases hn id (by simp [e]) with h1 | h1
      · exact (h1 (h.fr id (by omega))).elim
      · omega
  cases dst with
  | none => exact ⟨hs, htr, hfr, h.ds, h.size, h.marks.step h.sim k⟩
  | some j => exact ⟨hs, htr.put hv (by rw [h.size]; exact hd j rfl), hfr, h.ds, by simp [Act.put, St.eff, St.set, h.size], h.marks.step h.sim k⟩

theorem Good.set {E : Env} {X : Ctx} {st : St} {a : Act} {dst : Option Tmp} {v : Value} {d : D} (h : Good E X st a) (hd : st.fits dst) (hv : Vr X d v) : Good E X (st.set dst d) (a.put dst v) := by
  cases dst with
  | none => exact h
  | some j => exact ⟨h.sim, h.tr.put hv (by rw [h.size]; exact hd j rfl), h.fr, h.ds, by simp [Act.put, St.set, h.size], h.marks⟩

/-- 'Step', whatever the names have become. -/
structure Moved (p : Nat) (X : Ctx) (s : Sg) (Y : Ctx) (s' : Sg) : Prop where
  I : ∀ b, X.I b → Y.I b
  size : X.w.heap.size ≤ Y.w.heap.size
  frame : ∀ b, b < X.w.heap.size → ¬ Live X s b → ¬ X.M b → Y.w.heap[b]? = X.w.heap[b]?
  live : ∀ b, Live Y s' b → X.w.heap.size ≤ b ∨ Live X s b
  newI : ∀ b, Y.I b → X.I b ∨ X.w.heap.size ≤ b ∨ Live X s b
  newM : ∀ b, Y.M b → X.M b ∨ X.w.heap.size ≤ b
  pin : ∀ id l, id < p → X.μ id = some l → Y.μ id = some l
theorem Step.moved {p : Nat} {X Y : Ctx} {s s' : Sg} (h : Step X s Y s') : Moved p X s Y s' := ⟨h.I, h.size, h.frame, h.live, h.newI, h.newM, fun id l _ e => h.μ id l e⟩
theorem Moved.refl {p : Nat} (X : Ctx) (s : Sg) : Moved p X s X s := (Step.refl X s).moved
theorem Moved.trans {p : Nat} {X Y Z : Ctx} {s s' s'' : Sg} (h : Moved p X s Y s') (k : Moved p Y s' Z s'') : Moved p X s Z s'' where
  pin := fun id l hp e => k.pin id l hp (h.pin id l hp e)
  I := fun b e => k.I b (h.I b e)
  size := Nat.le_trans h.size k.size
  frame := fun b hb hn hm => (k.frame b (Nat.lt_of_lt_of_le hb h.size) (fun hl => by
    rcases h.live b hl with h1 | h1
    · omega
    · exact hn h1) (fun hl => by
    rcases h.newM b hl with h1 | h1
    · exact hm h1
    · omega)).trans (h.frame b hb hn hm)
  newM := fun b hb => by
    rcases k.newM b hb with h1 | h1
    · exact h.newM b h1
    · exact .inr (Nat.le_trans h.size h1)
  live := fun b hb => by
    rcases k.live b hb with h1 | h1
    · exact .inl (Nat.le_trans h.size h1)
    · exact h.live b h1
  newI := fun b hb => by
    rcases k.newI b hb with h1 | h1 | h1
    · exact h.newI b h1
    · exact .inr (.inl (Nat.le_trans h.size h1))
    · rcases h.live b h1 with h2 | h2
      · exact .inr (.inl h2)
      · exact .inr (.inr h2)

/-- From a state: what has come of it, in some later world. -/
def Post (p : Nat) (E : Env) (X : Ctx) (st : St) (K : St → Prop) (a' : Act) (w' : World) : Prop :=
  ∃ Y st', Y.w = w' ∧ Good E Y st' a' ∧ Moved p X st.s Y st'.s ∧ K st'
theorem Post.mono {p : Nat} {E : Env} {X : Ctx} {st : St} {K K' : St → Prop} {a' : Act} {w' : World} (hk : ∀ s, K s → K' s) : Post p E X st K a' w' → Post p E X st K' a' w'
  | ⟨Y, s, h1, h2, h3, h4⟩ => ⟨Y, s, h1, h2, h3, hk s h4⟩
theorem Post.trans {p : Nat} {E : Env} {X Y : Ctx} {st st' : St} {K : St → Prop} {a' : Act} {w' : World} (k : Moved p X st.s Y st'.s) : Post p E Y st' K a' w' → Post p E X st K a' w'
  | ⟨Z, s, h1, h2, h3, h4⟩ => ⟨Z, s, h1, h2, k.trans h3, h4⟩

@[simp] theorem St.set_s (st : St) (dst : Option Tmp) (d : D) : (st.set dst d).s = st.s := by cases dst <;> rfl

theorem vrun_ok {p : Nat} {P : Program} {ops : Array Oper} {Q : St → Prop} {ro : Option Nat} {m : Nat} {R : Exit → Act → World → Prop} : ∀ (l : List Oper) (k : Nat) (E : Env) (X : Ctx) (st : St) (a : Act), (∀ j, l[j]? = ops[k + j]?) → Good E X st a → vrun P ops Q l st →
    (∀ a' w', Post p E X st Q a' w' → R .normal a' w') → wpOpsIn (Fw ro) m P ops R (List.range' k l.length) a X.w
  | [], k, E, X, st, a, _, hg, h, hR => hR a X.w ⟨X, st, rfl, hg, Moved.refl _ _, h⟩
  | o :: l, k, E, X, st, a, hl, hg, h, hR => by
    have h0 : ops[k]? = some o := by simpa using (hl 0).symm
    have hl' : ∀ j, l[j]? = ops[k + 1 + j]? := fun j => by have := hl (j + 1); simpa [Nat.add_assoc, Nat.add_comm 1 j] using this
    simp only [List.length_cons, List.range'_succ, wpOpsIn, h0]
    obtain ⟨b, hw, hfit, ht, hf⟩ := h
    rw [vwant_ok hg.tr hw]
    cases b with
    | true =>
      simp only [if_true]
      obtain ⟨f, hL, hK⟩ := vdo_ok (ht rfl)
      refine Oper.wpIn_mono ?_ (hL st.s (fun _ _ => rfl) E ro m X a _ hg.sim (fun x _ => hg.ev x) (fun id h1 _ => hg.fr id h1))
      rintro a' w' ⟨Y, v, rfl, rfl, h1, h2, h3, h4⟩
      exact vrun_ok l (k + 1) E Y (st.eff o.dst f) (a.put o.dst v) hl' (hg.eff hfit h1 h2 h3 h4) hK fun a' w' hp => hR a' w' (Post.trans h2.moved hp)
    | false =>
      simp only [Bool.false_eq_true, if_false]
      exact ⟨fun _ _ => trivial, vrun_ok l (k + 1) E X (st.set o.dst (.sc undef)) (a.put o.dst undef) hl' (hg.set hfit (d := .sc undef) (v := undef) Vr_sc) (hf rfl)
        fun a' w' hp => hR a' w' (Post.trans (st' := st.set o.dst (.sc undef)) (by rw [St.set_s]; exact Moved.refl _ _) hp)⟩

end Go.Proofs.YtglnkfpmogaifaaGreatDoor.V

/-
  Code, by its form; a function's contract out of its body.
-/
namespace Go.Proofs.YtglnkfpmogaifaaGreatDoor.V
open Go Go.RowKit

/-- How many names stay as they are. -/
def pinOf (ro : Option (Nat × Nat)) : Nat := match ro with | none => 0 | some x => x.2
/-- What code owes from a state. -/
def T (P : Program) (ro : Option (Nat × Nat)) (c : Code) (st : St) (Q : Exit → St → Prop) : Prop :=
  ∀ (E : Env) (m : Nat) (X : Ctx) (a : Act), Good E X st a → c.wpIn (Fw (ro.map (·.1))) m P (fun e a' w' => Post (pinOf ro) E X st (Q e) a' w') a X.w

section
variable {P : Program} {ro : Option (Nat × Nat)} {st : St} {Q : Exit → St → Prop}

theorem T.mono {c : Code} {Q' : Exit → St → Prop} (h : T P ro c st Q) (hq : ∀ e s, Q e s → Q' e s) : T P ro c st Q' :=
  fun E m X a hg => wpIn_mono (h E m X a hg) fun e _ _ hp => hp.mono (hq e)

def Exit.thenV (K : St → Prop) (Q : Exit → St → Prop) : Exit → St → Prop
  | .normal, s => K s
  | e, s => Q e s
def Exit.inBlockV (id : Nat) (Q : Exit → St → Prop) : Exit → St → Prop
  | .exit id', s => if id' = id then Q .normal s else Q (.exit id') s
  | e, s => Q e s

theorem T_skip (h : Q .normal st) : T P ro .skip st Q := fun _ _ X _ hg => wpIn_skip ⟨X, st, rfl, hg, Moved.refl _ _, h⟩
theorem T_label {l : Nat} (h : Q .normal st) : T P ro (.label l) st Q := fun _ _ X _ hg => wpIn_label ⟨X, st, rfl, hg, Moved.refl _ _, h⟩
theorem T_exit {id : Nat} (h : Q (.exit id) st) : T P ro (.exit id) st Q := fun _ _ X _ hg => wpIn_exit ⟨X, st, rfl, hg, Moved.refl _ _, h⟩
theorem T_goto {l : Nat} (h : Q (.goto l) st) : T P ro (.goto l) st Q := fun _ _ X _ hg => wpIn_goto ⟨X, st, rfl, hg, Moved.refl _ _, h⟩
theorem T_ret (h : Q .ret st) : T P ro .ret st Q := fun _ _ X _ hg => wpIn_ret ⟨X, st, rfl, hg, Moved.refl _ _, h⟩

theorem T_seq {x y : Code} (h : T P ro x st (Exit.thenV (fun s => T P ro y s Q) Q)) : T P ro (.seq x y) st Q := by
  intro E m X a hg
  refine wpIn_seq (wpIn_mono (h E m X a hg) fun e a' w' hp => ?_)
  cases e with
  | normal =>
    obtain ⟨Y, s, rfl, hg', k, hT⟩ := hp
    exact wpIn_mono (hT E m Y a' hg') fun e' _ _ hp' => Post.trans k hp'
  | _ => exact hp

theorem T_cond {c : Operand} {x y : Code} {b : Bool} (hc : ev st c = .sc (.bool b)) (ht : b = true → T P ro x st Q) (hf : b = false → T P ro y st Q) : T P ro (.cond c x y) st Q := by
  intro E m X a hg
  have hv := hg.ev c
  rw [hc] at hv
  simp only [Vr] at hv
  refine wpIn_cond hv ?_
  cases b
  · exact hf rfl E m X a hg
  · exact ht rfl E m X a hg

theorem T_block {id : Nat} {c : Code} (h : T P ro c st (Exit.inBlockV id Q)) : T P ro (.block id c) st Q := by
  intro E m X a hg
  refine wpIn_block (wpIn_mono (h E m X a hg) fun e a' w' hp => ?_)
  cases e with
  | exit id' =>
    simp only [Exit.inBlock]
    split
    · rename_i hid
      obtain ⟨Y, s, h1, h2, h3, h4⟩ := hp
      simp only [Exit.inBlockV, hid, if_true] at h4
      exact ⟨Y, s, h1, h2, h3, h4⟩
    · rename_i hid
      obtain ⟨Y, s, h1, h2, h3, h4⟩ := hp
      simp only [Exit.inBlockV, hid, if_false] at h4
      exact ⟨Y, s, h1, h2, h3, h4⟩
  | _ => exact hp

theorem T_region {id : Nat} {l : List Oper} (h : vrun P l.toArray (Q .normal) l st) : T P ro (.region id l.toArray false) st Q := by
  intro E m X a hg
  refine wpIn_region ?_
  rw [List.range_eq_range', show l.toArray.size = l.length by simp]
  exact vrun_ok l 0 E X st a (by simp) hg h fun a' w' hp => hp

theorem T_loop {c : Code} (I : St → Prop) (μ : St → Nat) (h₀ : I st) (round : ∀ s, I s → T P ro c s (Exit.thenV (fun s' => I s' ∧ μ s' < μ s) Q)) : T P ro (.loop c) st Q := by
  intro E m X₀ a₀ hg₀ b k cs hro hb hr
  have key : ∀ (j : Nat) (X : Ctx) (s : St) (a : Act), μ s = j → Good E X s a → I s → Moved (pinOf ro) X₀ st.s X s.s →
      ∃ e a' w', Post (pinOf ro) E X₀ st (Q e) a' w' ∧ ArrivesIn (Machine.fenced P (Fw (ro.map (·.1)))) P (lone (b.atR a (.code c :: .inLoop c :: k)) cs X.w) b k cs e a' w' := by
    intro j
    induction j using Nat.strongRecOn with
    | _ j ih =>
      intro X s a hn hg hI hst
      obtain ⟨e, a₁, w₁, hq, harr⟩ := round s hI E m X a hg b (.inLoop c :: k) cs hro hb hr
      cases e with
      | normal =>
        obtain ⟨Y, s', rfl, hg', k', hI', hlt⟩ := hq
        obtain ⟨e₂, a₂, w₂, hq₂, harr₂⟩ := ih (μ s') (hn ▸ hlt) Y s' a₁ rfl hg' hI' (hst.trans k')
        exact ⟨e₂, a₂, w₂, hq₂, .of_steps (StepsIn.trans harr (.one (fenced_calm hb hr rfl) stepR_inLoop)) harr₂⟩
      | exit id => exact ⟨_, a₁, w₁, Post.trans hst hq, .pass (x := .inLoop c) rfl (fun _ _ => .inl (by simp)) harr⟩
      | goto l => exact ⟨_, a₁, w₁, Post.trans hst hq, .pass (x := .inLoop c) rfl (fun _ _ => .inl (by simp)) harr⟩
      | ret => exact ⟨_, a₁, w₁, Post.trans hst hq, .pass (x := .inLoop c) rfl (fun _ _ => .inl (by simp)) harr⟩
      | panic ch => exact ⟨_, a₁, w₁, Post.trans hst hq, .pass (x := .inLoop c) rfl (fun _ _ => .inl (by simp)) harr⟩
      | outgrown => exact ⟨_, a₁, w₁, Post.trans hst hq, .pass (x := .inLoop c) rfl (fun _ _ => .inl (by simp)) harr⟩
  obtain ⟨e, a', w', hq, harr⟩ := key _ X₀ st a₀ rfl hg₀ h₀ (Moved.refl _ _)
  exact ⟨e, a', w', hq, .of_steps (.one (fenced_calm hb hr rfl) stepR_loop) harr⟩

/-- Facts that hold of whatever the temporaries stand for. -/
theorem T_fact {c : Code} {p : Prop} (hp : ∀ (E : Env) (X : Ctx) (a : Act), Good E X st a → p) (h : p → T P ro c st Q) : T P ro c st Q :=
  fun E m X a hg => h (hp E X a hg) E m X a hg

/-- A state may be forgotten in part. -/
theorem T_forget {c : Code} {st' : St} (h : T P ro c st' Q) (ht : ∀ k, st'.t k = st.t k ∨ st'.t k = .junk) (hs : ∀ id, st'.s id = st.s id ∨ st'.s id = none) (hnx : st'.nx = st.nx) (hds : st'.ds = st.ds) (hn : st'.n = st.n) : T P ro c st Q := by
  intro E m X a hg
  have hsim : Sim E X st'.s ∧ Moved (pinOf ro) X st.s X st'.s := by
    have hk : ∀ id o, st'.s id = some o → st.s id = some o := fun id o ho => by
      rcases hs id with e | e
      · rw [← e]; exact ho
      · rw [e] at ho; cases ho
    refine ⟨⟨hg.sim.env, fun id o ho => hg.sim.objs id o (hk id o ho), fun id hid => ?_, fun i j oi oj li lj hi hj => hg.sim.inj i j oi oj li lj (hk _ _ hi) (hk _ _ hj), fun id o l ho => hg.sim.notI id o l (hk _ _ ho), hg.sim.Ibd, hg.sim.IM⟩,
      ⟨fun _ e => e, Nat.le_refl _, fun _ _ _ _ => rfl, ?_, fun _ e => .inl e, fun _ e => .inl e, fun _ _ _ e => e⟩⟩
    · rcases hs id with e | e
      · rw [e]; exact hg.sim.dom id hid
      · exact e
    · rintro b ⟨id, o, l, h1, h2, h3, rfl⟩
      exact .inr ⟨id, o, l, hk _ _ h1, h2, h3, rfl⟩
  have hg' : Good E X st' a := ⟨hsim.1, fun k => by
    rcases ht k with e | e
    · rw [e]; exact hg.tr k
    · rw [e]; simp [Vr], by rw [hnx]; exact hg.fr, by rw [hds]; exact hg.ds, by rw [hn]; exact hg.size, by rw [hds]; exact hg.marks⟩
  exact wpIn_mono (h E m X a hg') fun e _ _ hp => Post.trans hsim.2 hp

end

/-! ### a function -/
def initT (args : List D) : Nat → D := fun k => args.getD k .junk
def init (args : List D) (n : Nat) : St := ⟨initT args, fun _ => none, 0, [], n⟩

/-- What the results are. -/
def resV1 (P : Program) (st : St) : ResultVar → Option D
  | .tmp t => some (st.t t)
  | .cell a ty => match st.t a with | .pt id off => vload P st.s ty (.pt id off) | _ => none
def resVs (P : Program) (st : St) : List ResultVar → Option (List D)
  | [] => some []
  | r :: rs => (resV1 P st r).bind fun d => (resVs P st rs).map (d :: ·)
def resV (P : Program) (st : St) (rs : List ResultVar) : Option D :=
  (resVs P st rs).map fun ds => match ds with | [d] => d | ds => .tp ds

/-- The end of a function: its value, and the objects that it hands over ('ids': their names, in this order). -/
structure Fin (P : Program) (fn : Func) (st : St) (ids : List Nat) (r : D) (os : List O) : Prop where
  res : ∃ d, resV P st fn.results.toList = some d ∧ ren (fun id => ids.idxOf? id) d = r
  len : os.length = ids.length
  nodup : ids.Nodup
  objs : ∀ (i id : Nat), ids[i]? = some id → ∃ o : O, st.s id = some o ∧ o.fz = false ∧ os[i]? = some (renO (fun id => ids.idxOf? id) o)

theorem resV1_ok {P : Program} {E : Env} {X : Ctx} {st : St} {tmps : Array Value} {r : ResultVar} {d : D} (hs : Sim E X st.s) (htr : Tr X st.t tmps) (h : resV1 P st r = some d) :
    ∃ v, (match r with
      | .tmp t => pure (tmps.getD t undef)
      | .cell a t => do loadVar t (← asAddr (tmps.getD a undef)) : Sem Value).run P X.w = .ok v X.w ∧ Vr X d v := by
  cases r with
  | tmp t =>
    simp only [resV1, Option.some.injEq] at h; subst h
    exact ⟨_, rfl, htr t⟩
  | cell a ty =>
    simp only [resV1] at h
    split at h
    · rename_i id off hx
      have hv := htr a
      rw [hx] at hv
      obtain ⟨v, hr, hv'⟩ := vload_ok hs h hv
      simp only [Vr] at hv
      obtain ⟨l, hl, e⟩ := hv
      refine ⟨v, ?_, hv'⟩
      rw [e] at hr
      show (do loadVar ty (← asAddr (tmps.getD a undef)) : Sem Value).run P X.w = .ok v X.w
      rw [e]
      exact hr
    · cases h

theorem resVs_ok {P : Program} {E : Env} {X : Ctx} {st : St} {tmps : Array Value} (hs : Sim E X st.s) (htr : Tr X st.t tmps) : ∀ (rs : List ResultVar) (ds : List D), resVs P st rs = some ds →
    ∃ vs, (rs.mapM (fun
      | .tmp t => pure (tmps.getD t undef)
      | .cell a t => do loadVar t (← asAddr (tmps.getD a undef)) : ResultVar → Sem Value)).run P X.w = .ok vs X.w ∧ Lr X ds vs
  | [], ds, h => by simp only [resVs, Option.some.injEq] at h; subst h; exact ⟨[], rfl, by simp [Lr]⟩
  | r :: rs, ds, h => by
    simp only [resVs, Option.bind_eq_some_iff, Option.map_eq_some_iff] at h
    obtain ⟨d, hd, ds', hds, rfl⟩ := h
    obtain ⟨v, hv, hvr⟩ := resV1_ok (P := P) hs htr hd
    obtain ⟨vs, hvs, hl⟩ := resVs_ok hs htr rs ds' hds
    refine ⟨v :: vs, ?_, by simp only [Lr]; exact ⟨v, vs, rfl, hvr, hl⟩⟩
    rw [List.mapM_cons, Sem.run_bind]
    have hv' : ((fun
      | .tmp t => pure (tmps.getD t undef)
      | .cell a t => do loadVar t (← asAddr (tmps.getD a undef)) : ResultVar → Sem Value) r).run P X.w = .ok v X.w := by
      cases r <;> exact hv
    rw [hv']
    simp only [Result.andThen]
    rw [Sem.run_bind, hvs]
    rfl

theorem resV_ok {P : Program} {E : Env} {X : Ctx} {st : St} {tmps : Array Value} {fn : Func} {d : D} (hs : Sim E X st.s) (htr : Tr X st.t tmps) (h : resV P st fn.results.toList = some d) :
    ∃ v, (results fn tmps).run P X.w = .ok v X.w ∧ Vr X d v := by
  unfold resV at h
  simp only [Option.map_eq_some_iff] at h
  obtain ⟨ds, hds, hd⟩ := h
  obtain ⟨vs, hvs, hl⟩ := resVs_ok (P := P) hs htr _ ds hds
  have hm : (fn.results.mapM (fun
      | .tmp t => pure (tmps.getD t undef)
      | .cell a t => do loadVar t (← asAddr (tmps.getD a undef)) : ResultVar → Sem Value)).run P X.w = .ok vs.toArray X.w := by
    rw [Array.mapM_eq_mapM_toList, ← bind_pure_comp, Sem.run_bind, hvs]
    rfl
  unfold results
  rw [Sem.run_bind]
  refine ⟨if h : vs.toArray.size = 1 then vs.toArray[0] else .tuple vs.toArray, ?_, ?_⟩
  · refine Eq.trans (congrArg (fun x => Result.andThen x _) hm) rfl
  · have hlen := Lr_length hl
    match ds, hd with
    | [], hd =>
      subst hd
      simp only [Lr] at hl; subst hl
      simp [Vr, Lr]
    | [e], hd =>
      subst hd
      simp only [Lr] at hl
      obtain ⟨v, r, rfl, hv, rfl⟩ := hl
      simpa using hv
    | e :: f :: ds, hd =>
      subst hd
      simp only [List.length_cons] at hlen
      rw [dif_neg (by simp; omega)]
      simp only [Vr]
      exact ⟨_, rfl, by simpa using hl⟩

/-- The marks of the loops over functions are taken away at the end. -/
theorem leaves_marks {P : Program} {fn : Func} {tmps : Array Value} {R : Ending → World → Prop} {m : Nat} {E : Env} {s : Sg} : ∀ (ds : List Deferred) (X : Ctx), Sim E X s → Marks E X ds →
    (∀ Y, Sim E Y s → Y.μ = X.μ → Y.I = X.I → Y.M = X.M → (∀ b, X.I b → Y.w.heap[b]? = X.w.heap[b]?) → Y.w.heap.size = X.w.heap.size → (∀ id o l, s id = some o → X.μ id = some l → Y.w.heap[l.blk]? = X.w.heap[l.blk]?) → ∃ v, (results fn tmps).run P Y.w = .ok v Y.w ∧ R (.returned v) Y.w) →
    LeavesInM (Fw none) m P fn tmps R ds .returning X.w
  | [], X, hs, _, h => by
    obtain ⟨v, h1, h2⟩ := h X hs rfl rfl rfl (fun _ _ => rfl) rfl (fun _ _ _ _ _ => rfl)
    exact ⟨v, h1, h2⟩
  | d :: ds, X, hs, hm, h => by
    obtain ⟨k, rfl, hk, hmine, hI⟩ := hm.2 d (by simp)
    have hlt := (Array.getElem?_eq_some_iff.1 hk).1
    have hother : ∀ b, b ≠ k → (X.w.putObj k (.deferred none)).heap[b]? = X.w.heap[b]? := fun b hb => World.putObj_heap_other hb
    have hne : ∀ id o l, s id = some o → X.μ id = some l → l.blk ≠ k := fun id o l ho hl e => by
      obtain ⟨l', hl', ⟨cur, hc, _⟩, _⟩ := hs.objs id o ho
      rw [hl] at hl'; cases hl'
      rw [e, hk] at hc; cases hc
    have L : Later X { X with w := X.w.putObj k (.deferred none) } := ⟨fun _ _ e => e, fun _ e => e, fun b e => hother b (fun e' => hI (e' ▸ e))⟩
    have hs' : Sim E { X with w := X.w.putObj k (.deferred none) } s := by
      refine ⟨hs.env.move (w' := X.w.putObj k (.deferred none)) rfl rfl rfl (by simp) (fun b _ hc => hother b (fun e => ?_)), fun id o ho => ?_, hs.dom, hs.inj, hs.notI, fun b hb => by have := hs.Ibd b hb; simpa using this, hs.IM⟩
      · subst e
        rcases hc with hc | hc
        · exact absurd hc (Nat.not_lt.2 hmine.1)
        · exact hmine.2 hc
      · obtain ⟨l, h1, h2, h3⟩ := hs.objs id o ho
        exact ⟨l, h1, h2.later L (hother _ (hne id o l ho h1)), h3⟩
    refine ⟨by simp, .inl ⟨k, _, rfl, run_takeDeferred hk, ?_⟩⟩
    refine leaves_marks ds { X with w := X.w.putObj k (.deferred none) } hs' ⟨(List.nodup_cons.1 hm.1).2, fun d hd => ?_⟩ fun Y g1 g2 g3 g4 g5 g6 g7 => ?_
    · obtain ⟨j, rfl, hj, hm', hI'⟩ := hm.2 d (by simp [hd])
      refine ⟨j, rfl, (hother j (fun e => ?_)).trans hj, hm', hI'⟩
      subst e
      exact (List.nodup_cons.1 hm.1).1 hd
    · exact h Y g1 g2 g3 g4 (fun b hb => (g5 b hb).trans (hother b (fun e => hI (e ▸ hb)))) (by rw [g6]; simp) (fun id o l ho hl => (g7 id o l ho hl).trans (hother _ (hne id o l ho hl)))

/-- A contract out of the body. -/
theorem Con.of_T {P : Program} {f : FuncId} {fn : Func} {c : Code} {args : List D} {r : D} {os : List O} (hf : P.funcs[f]? = some fn) (hb : fn.body = some c) (hc : V.callable P f = true) (hn : args.length ≤ fn.ntmps)
    (h : T P none c (init args fn.ntmps) fun e st => (e = .normal ∨ e = .ret) ∧ ∃ ids, Fin P fn st ids r os) : Con P f args r os := by
  refine ⟨hc, fun I w vs hgl hI hl => ?_⟩
  let E : Env := { base := w.heap.size, inv := fun _ w' => Below w.heap.size w w', keep := fun M w1 w2 h1 h2 h3 h4 h5 h6 => h1.trans ⟨h2, h3, h4, h5, fun k hk => h6 k (Nat.lt_of_lt_of_le hk h1.size) (.inl hk)⟩, gl := fun _ w' hb => Gl_keep hgl hb.block }
  let X : Ctx := ⟨fun _ => none, I, w, fun _ => False⟩
  have hlen := Lr_length hl
  have hsim : Sim E X (init args fn.ntmps).s := ⟨⟨Below.refl _ _, Nat.le_refl _, fun _ h => h.elim⟩, fun _ _ h => by simp [init] at h, fun _ _ => rfl, fun _ _ _ _ _ _ h => by simp [init] at h, fun _ _ _ h => by simp [init] at h, hI, fun _ _ h => h⟩
  have hgood : Good E X (init args fn.ntmps) { tmps := vs.toArray ++ Array.replicate (fn.ntmps - vs.toArray.size) undef, defers := [] } := by
    refine ⟨hsim, fun k => ?_, fun _ _ => rfl, rfl, by simp [init]; omega, by simp [Marks, init]⟩
    show Vr X (args.getD k .junk) _
    rw [List.getD_eq_getElem?_getD]
    cases hk : args[k]? with
    | none => simp [Vr]
    | some d =>
      obtain ⟨v, hv, hvr⟩ := Lr_get hl k d hk
      have hklt := (List.getElem?_eq_some_iff.1 hv).1
      rw [Array.getD_eq_getD_getElem?, Array.getElem?_append_left (by simpa using hklt)]
      simp only [List.getElem?_toArray, hv, Option.getD_some]
      exact hvr
  refine (callsIn_wide (n := 0)).1 (callsIn_of_wp_marks hf hb trivial ?_ rfl)
  have hT := h E 0 X _ hgood
  refine wpIn_mono hT fun e a' w' hp => ?_
  obtain ⟨Y, st', rfl, hg, hst, he, ids, hfin⟩ := hp
  have main : LeavesInM Fence.wide 0 P fn a'.tmps (fun e w' => ∃ v Y, Y.w = w' ∧ e = .returned v ∧ CPost I w r os v Y) a'.defers .returning Y.w := by
    rw [hg.ds]
    refine leaves_marks st'.ds Y hg.sim hg.marks fun Z g1 g2 g3 g4 g5 g6 g7 => ?_
    obtain ⟨d, hd, hr⟩ := hfin.res
    have hL : Later Y Z := ⟨fun _ _ e => by rw [g2]; exact e, fun _ e => by rw [g3]; exact e, g5⟩
    obtain ⟨v, hv, hvr⟩ := resV_ok (P := P) (fn := fn) g1 (hg.tr.later hL) hd
    refine ⟨v, hv, v, { Z with μ := fun i => (ids[i]?).bind Z.μ }, rfl, rfl, ?_⟩
    have hR : Ren (fun id => ids.idxOf? id) Z { Z with μ := fun i => (ids[i]?).bind Z.μ } := by
      refine ⟨fun _ _ => rfl, fun _ h => h, fun id j l hj hl => ?_⟩
      have hget : ids[j]? = some id := by
        obtain ⟨h1, h2, _⟩ := List.idxOf?_eq_some_iff.1 hj
        rw [List.getElem?_eq_getElem h1, h2]
      show (ids[j]?).bind Z.μ = some l
      rw [hget]
      exact hl
    refine ⟨by rw [← hr]; exact Vr_ren hR d hvr, g1.env.inv, g1.Ibd, fun b hb => ?_, fun b hb => ?_, fun i o hi => ?_, fun i j li lj hi hj hli hlj hbk => ?_⟩
    · have hb' : Y.I b := by rw [← g3]; exact hb
      rcases hst.newI b hb' with h1 | h1 | ⟨id, o, l, h1, _⟩
      · exact .inl h1
      · exact .inr h1
      · simp [init] at h1
    · show Z.I b
      rw [g3]; exact hst.I b hb
    · have hilt : i < ids.length := by rw [← hfin.len]; exact (List.getElem?_eq_some_iff.1 hi).1
      obtain ⟨o', ho', hfz, hos⟩ := hfin.objs i ids[i] (List.getElem?_eq_getElem hilt)
      rw [hi] at hos
      simp only [Option.some.injEq] at hos
      subst hos
      refine ⟨hfz, ?_⟩
      obtain ⟨l, hl', ⟨cur, c1, c2, c3, c4, c5⟩, hmine⟩ := g1.objs _ o' ho'
      refine ⟨l, by simp [List.getElem?_eq_getElem hilt, hl'], ⟨cur, c1, c2, c3, by simpa [renO, renL_eq_map] using c4, fun j d' hd' => ?_⟩, hmine.1, fun hI' => ?_⟩
      · simp only [renO, renL_eq_map, List.getElem?_map, Option.map_eq_some_iff] at hd'
        obtain ⟨d₀, hd₀, rfl⟩ := hd'
        obtain ⟨u, hu, hone, hv'⟩ := c5 j d₀ hd₀
        exact ⟨u, hu, hone, Vr_ren hR d₀ hv'⟩
      · have := (g1.notI _ o' l ho' hl').1 hI'
        rw [hfz] at this; cases this
    · rw [hfin.len] at hi hj
      obtain ⟨oi, hoi, _⟩ := hfin.objs i ids[i] (List.getElem?_eq_getElem hi)
      obtain ⟨oj, hoj, _⟩ := hfin.objs j ids[j] (List.getElem?_eq_getElem hj)
      simp only [List.getElem?_eq_getElem hi, List.getElem?_eq_getElem hj, Option.bind_some] at hli hlj
      have := g1.inj _ _ oi oj li lj hoi hoj hli hlj hbk
      exact (List.getElem_inj hfin.nodup).1 this
  rcases he with rfl | rfl
  · exact main
  · exact main

end Go.Proofs.YtglnkfpmogaifaaGreatDoor.V

/-
  A region that draws its order: run once, in the order of its text; what is not ordered is apart.
-/
namespace Go.Proofs.YtglnkfpmogaifaaGreatDoor.V
open Go Go.RowKit

/-- What one operation of a region does: its destination, its effect. -/
structure Fx where
  dst : Option Tmp
  f : Eff

def setT (t : Nat → D) (d : Option Tmp) (v : D) : Nat → D :=
  match d with
  | some k => upd t k v
  | none => t
theorem St.set_t (st : St) (d : Option Tmp) (v : D) : (st.set d v).t = setT st.t d v := by cases d <;> rfl
def Eff.ids (f : Eff) : List Nat := f.ws.map (·.1)

def mixT (t₀ : Nat → D) (g : Nat → Fx) (m : Nat → Bool) : Nat → Nat → D
  | 0 => t₀
  | n + 1 => if m n then setT (mixT t₀ g m n) (g n).dst (g n).f.d else mixT t₀ g m n
def mixS (s₀ : Sg) (g : Nat → Fx) (m : Nat → Bool) : Nat → Sg
  | 0 => s₀
  | n + 1 => if m n then (mixS s₀ g m n).app (g n).f.ws else mixS s₀ g m n
def nmAt (nx : Nat) (g : Nat → Fx) : Nat → Nat
  | 0 => nx
  | n + 1 => nmAt nx g n + (g n).f.k

theorem setT_at {t t' : Nat → D} {d : Option Tmp} {v : D} {k : Nat} (h : t k = t' k) : setT t d v k = setT t' d v k := by
  cases d with
  | none => exact h
  | some j => simp only [setT, upd]; split <;> simp_all
theorem setT_other {t : Nat → D} {d : Option Tmp} {v : D} {k : Nat} (h : d ≠ some k) : setT t d v k = t k := by
  cases d with
  | none => rfl
  | some j => simp only [setT, upd]; rw [if_neg]; intro e; exact h (by rw [e])

theorem mixT_agree {t₀ : Nat → D} {g : Nat → Fx} {m m' : Nat → Bool} {k : Nat} : ∀ n, (∀ j < n, (g j).dst = some k → m j = m' j) → mixT t₀ g m n k = mixT t₀ g m' n k
  | 0, _ => rfl
  | n + 1, h => by
    have ih := mixT_agree (t₀ := t₀) n fun j hj => h j (by omega)
    simp only [mixT]
    by_cases hd : (g n).dst = some k
    · rw [← h n (by omega) hd]
      split
      · exact setT_at ih
      · exact ih
    · split <;> split <;> simp only [setT_other hd, ih]

theorem Sg.app_at {s s' : Sg} {id : Nat} (ws : List (Nat × Option O)) (h : s id = s' id) : s.app ws id = s'.app ws id := by
  induction ws generalizing s s' with
  | nil => exact h
  | cons p ws ih =>
    simp only [Sg.app_cons]
    apply ih
    simp only [upd]
    split
    · rfl
    · exact h
theorem Sg.app_other {s : Sg} {id : Nat} (ws : List (Nat × Option O)) (h : id ∉ ws.map (·.1)) : s.app ws id = s id := by
  induction ws generalizing s with
  | nil => rfl
  | cons p ws ih =>
    simp only [List.map_cons, List.mem_cons, not_or] at h
    simp only [Sg.app_cons]
    rw [ih h.2, upd_other _ _ h.1]

theorem mixS_agree {s₀ : Sg} {g : Nat → Fx} {m m' : Nat → Bool} {id : Nat} : ∀ n, (∀ j < n, id ∈ (g j).f.ids → m j = m' j) → mixS s₀ g m n id = mixS s₀ g m' n id
  | 0, _ => rfl
  | n + 1, h => by
    have ih := mixS_agree (s₀ := s₀) n fun j hj => h j (by omega)
    simp only [mixS]
    by_cases hd : id ∈ (g n).f.ids
    · rw [← h n (by omega) hd]
      split
      · exact Sg.app_at _ ih
      · exact ih
    · split <;> split <;> simp only [Sg.app_other _ hd, ih]

def take (m : Nat → Bool) (i : Nat) : Nat → Bool := fun j => if j = i then true else m j

theorem mixT_take {t₀ : Nat → D} {g : Nat → Fx} {m : Nat → Bool} {i : Nat} (hi : m i = false) : ∀ n, i < n → (∀ j, i < j → j < n → m j = true → ∀ k, (g i).dst = some k → (g j).dst ≠ some k) →
    mixT t₀ g (take m i) n = setT (mixT t₀ g m n) (g i).dst (g i).f.d
  | 0, h, _ => by omega
  | n + 1, h, hd => by
    simp only [mixT]
    by_cases hn : n = i
    · subst hn
      have : mixT t₀ g (take m n) n = mixT t₀ g m n := funext fun k => mixT_agree n fun j hj _ => by simp [take, show j ≠ n by omega]
      simp [take, hi] at this ⊢
      rw [this]
    · have ih := mixT_take (t₀ := t₀) hi n (by omega) fun j h1 h2 => hd j h1 (by omega)
      have ht : take m i n = m n := by simp [take, hn]
      rw [ht, ih]
      split
      · rename_i hm
        have hne := hd n (by omega) (by omega) hm
        cases e : (g i).dst with
        | none => rfl
        | some k =>
          cases e' : (g n).dst with
          | none => rfl
          | some k' =>
            have : k' ≠ k := fun h => hne k e (by rw [e', h])
            funext x
            simp only [setT, upd]
            split <;> split <;> simp_all
      · rfl

theorem Sg.app_comm {s : Sg} {a b : List (Nat × Option O)} (h : ∀ id ∈ a.map (·.1), id ∉ b.map (·.1)) : (s.app a).app b = (s.app b).app a := by
  funext id
  by_cases ha : id ∈ a.map (·.1)
  · rw [Sg.app_other b (h id ha)]
    exact Sg.app_at a (Sg.app_other b (h id ha)).symm
  · rw [Sg.app_other a ha]
    exact Sg.app_at b (Sg.app_other a ha)

theorem mixS_take {s₀ : Sg} {g : Nat → Fx} {m : Nat → Bool} {i : Nat} (hi : m i = false) : ∀ n, i < n → (∀ j, i < j → j < n → m j = true → ∀ id ∈ (g i).f.ids, id ∉ (g j).f.ids) →
    mixS s₀ g (take m i) n = (mixS s₀ g m n).app (g i).f.ws
  | 0, h, _ => by omega
  | n + 1, h, hd => by
    simp only [mixS]
    by_cases hn : n = i
    · subst hn
      have : mixS s₀ g (take m n) n = mixS s₀ g m n := funext fun k => mixS_agree n fun j hj _ => by simp [take, show j ≠ n by omega]
      simp [take, hi] at this ⊢
      rw [this]
    · have ih := mixS_take (s₀ := s₀) hi n (by omega) fun j h1 h2 => hd j h1 (by omega)
      have ht : take m i n = m n := by simp [take, hn]
      rw [ht, ih]
      split
      · rename_i hm
        exact Sg.app_comm (hd n (by omega) (by omega) hm)
      · rfl

theorem nmAt_mono {nx : Nat} {g : Nat → Fx} : ∀ {i j : Nat}, i ≤ j → nmAt nx g i ≤ nmAt nx g j := by
  intro i j h
  induction j with
  | zero => have : i = 0 := by omega
            subst this; exact Nat.le_refl _
  | succ j ih =>
    by_cases e : i = j + 1
    · subst e; exact Nat.le_refl _
    · have := ih (by omega)
      simp only [nmAt]; omega

/-! ### which are ordered -/
def anc1 (acc : List Nat) (l : List Edge) : Nat :=
  l.foldl (fun r e => if Region.binds .any e then r ||| 2 ^ e.on ||| acc.getD e.on 0 else r) 0
def ancs (l : List Oper) : List Nat := l.foldl (fun acc o => acc ++ [anc1 acc o.after.toList]) []

/-- A list of masks that are the closure of the edges. -/
def closedA (A : List Nat) : List Oper → Nat → Bool
  | [], _ => true
  | o :: l, i => A.getD i 0 == anc1 A o.after.toList && o.after.all (fun e => !Region.binds .any e || e.on < i) && closedA A l (i + 1)

theorem closedA_at {A : List Nat} : ∀ (l : List Oper) (i : Nat), closedA A l i = true → ∀ j o, l[j]? = some o → A.getD (i + j) 0 = anc1 A o.after.toList ∧ ∀ e ∈ o.after, Region.binds .any e = true → e.on < i + j
  | [], _, _, j, o, h => by simp at h
  | x :: l, i, hc, j, o, h => by
    simp only [closedA, Bool.and_eq_true, beq_iff_eq] at hc
    cases j with
    | zero =>
      simp only [List.getElem?_cons_zero, Option.some.injEq] at h; subst h
      refine ⟨by simpa using hc.1.1, fun e he hb => ?_⟩
      have := Array.all_eq_true_iff_forall_mem.1 hc.1.2 e he
      simpa [hb] using this
    | succ j =>
      have := closedA_at l (i + 1) hc.2 j o (by simpa using h)
      simpa [Nat.add_assoc, Nat.add_comm 1 j] using this

theorem anc1_bit {A : List Nat} {j : Nat} : ∀ (l : List Edge) (r : Nat), Nat.testBit (l.foldl (fun r e => if Region.binds .any e then r ||| 2 ^ e.on ||| A.getD e.on 0 else r) r) j = true →
    Nat.testBit r j = true ∨ ∃ e ∈ l, Region.binds .any e = true ∧ (e.on = j ∨ Nat.testBit (A.getD e.on 0) j = true)
  | [], r, h => .inl h
  | e :: l, r, h => by
    simp only [List.foldl_cons] at h
    rcases anc1_bit l _ h with h | ⟨e', he', h⟩
    · split at h
      · rename_i hb
        simp only [Nat.testBit_or, Bool.or_eq_true, Nat.testBit_two_pow, decide_eq_true_eq] at h
        rcases h with (h | h) | h
        · exact .inl h
        · exact .inr ⟨e, by simp, hb, .inl h⟩
        · exact .inr ⟨e, by simp, hb, .inr h⟩
      · exact .inl h
    · exact .inr ⟨e', by simp [he'], h⟩

/-- A set that holds what its members' edges name holds all that comes ahead of them. -/
theorem anc_mem {A : List Nat} {ops : List Oper} (hA : closedA A ops 0 = true) {m : Nat → Bool} (hm : ∀ i o, ops[i]? = some o → m i = true → ∀ e ∈ o.after, Region.binds .any e = true → m e.on = true) :
    ∀ (i : Nat) (o : Oper), ops[i]? = some o → m i = true → ∀ j, Nat.testBit (A.getD i 0) j = true → m j = true := by
  intro i
  induction i using Nat.strongRecOn with
  | _ i ih =>
    intro o ho hi j hj
    obtain ⟨h1, h2⟩ := closedA_at ops 0 hA i o ho
    rw [Nat.zero_add] at h1 h2
    rw [h1] at hj
    rcases anc1_bit _ _ hj with h | ⟨e, he, hb, h⟩
    · simp at h
    · have he' : e ∈ o.after := by simpa using he
      have hlt := h2 e he' hb
      have hme := hm i o ho hi e he' hb
      rcases h with h | h
      · rw [← h]; exact hme
      · have hlt' : i < ops.length := (List.getElem?_eq_some_iff.1 ho).1
        exact ih e.on hlt _ (List.getElem?_eq_getElem (by omega)) hme j h

theorem anc_lt {A : List Nat} {ops : List Oper} (hA : closedA A ops 0 = true) : ∀ (i : Nat) (o : Oper), ops[i]? = some o → ∀ j, Nat.testBit (A.getD i 0) j = true → j < i := by
  intro i
  induction i using Nat.strongRecOn with
  | _ i ih =>
    intro o ho j hj
    obtain ⟨h1, h2⟩ := closedA_at ops 0 hA i o ho
    rw [Nat.zero_add] at h1 h2
    rw [h1] at hj
    rcases anc1_bit _ _ hj with h | ⟨e, he, hb, h⟩
    · simp at h
    · have he' : e ∈ o.after := by simpa using he
      have hlt := h2 e he' hb
      rcases h with h | h
      · omega
      · have hlt' : i < ops.length := (List.getElem?_eq_some_iff.1 ho).1
        have := ih e.on hlt _ (List.getElem?_eq_getElem (by omega)) j h
        omega

/-! ### what is not ordered is apart -/
def apartOps (ops : Array Oper) (x y : Oper) : Bool := x.apart ops y
def apartRow (ops : Array Oper) (x : Oper) (i : Nat) : List Oper → List Nat → Bool
  | y :: l, a :: A => (Nat.testBit a i || x.apart ops y) && apartRow ops x i l A
  | [], _ => true
  | _ :: _, [] => false
def apartAll (ops : Array Oper) : List Oper → List Nat → Nat → Bool
  | x :: l, _ :: A, i => apartRow ops x i l A && apartAll ops l A (i + 1)
  | [], _, _ => true
  | _ :: _, [], _ => false

theorem apartRow_at {ops : Array Oper} {x : Oper} {i : Nat} : ∀ (l : List Oper) (A : List Nat), apartRow ops x i l A = true → ∀ j y, l[j]? = some y → Nat.testBit (A.getD j 0) i = true ∨ x.apart ops y = true
  | [], _, _, j, y, h => by simp at h
  | z :: l, [], h, _, _, _ => by simp [apartRow] at h
  | z :: l, a :: A, h, j, y, hj => by
    simp only [apartRow, Bool.and_eq_true, Bool.or_eq_true] at h
    cases j with
    | zero => simp only [List.getElem?_cons_zero, Option.some.injEq] at hj; subst hj; simpa using h.1
    | succ j => simpa using apartRow_at l A h.2 j y (by simpa using hj)
theorem apartAll_at {ops : Array Oper} : ∀ (l : List Oper) (A : List Nat) (k : Nat), apartAll ops l A k = true → ∀ i j x y, i < j → l[i]? = some x → l[j]? = some y → Nat.testBit (A.getD j 0) (k + i) = true ∨ x.apart ops y = true
  | [], _, _, _, i, j, x, y, _, h, _ => by simp at h
  | z :: l, [], _, h, _, _, _, _, _, _, _ => by simp [apartAll] at h
  | z :: l, a :: A, k, h, i, j, x, y, hij, hi, hj => by
    simp only [apartAll, Bool.and_eq_true] at h
    obtain ⟨j, rfl⟩ : ∃ j', j = j' + 1 := ⟨j - 1, by omega⟩
    cases i with
    | zero =>
      simp only [List.getElem?_cons_zero, Option.some.injEq] at hi; subst hi
      simpa using apartRow_at l A h.1 j y (by simpa using hj)
    | succ i =>
      have := apartAll_at l A (k + 1) h.2 i j x y (by omega) (by simpa using hi) (by simpa using hj)
      simpa [Nat.add_assoc, Nat.add_comm 1 i] using this

/-- The names that two effects look at and turn do not meet. -/
def disj (x y : List Nat) : Bool := x.all fun a => y.all fun b => a != b
theorem disj_spec {x y : List Nat} (h : disj x y = true) : ∀ id ∈ x, id ∉ y := by
  intro id hx hy
  have := List.all_eq_true.1 (List.all_eq_true.1 h id hx) id hy
  simp at this
def Eff.apart (x y : Eff) : Bool := disj x.ids y.rd && disj x.ids y.ids && disj y.ids x.rd
def effRow (x : Eff) (i : Nat) : List Fx → List Nat → Bool
  | y :: l, a :: A => (Nat.testBit a i || x.apart y.f) && effRow x i l A
  | [], _ => true
  | _ :: _, [] => false
def effAll : List Fx → List Nat → Nat → Bool
  | x :: l, _ :: A, i => effRow x.f i l A && effAll l A (i + 1)
  | [], _, _ => true
  | _ :: _, [], _ => false
theorem effRow_at {x : Eff} {i : Nat} : ∀ (l : List Fx) (A : List Nat), effRow x i l A = true → ∀ j y, l[j]? = some y → Nat.testBit (A.getD j 0) i = true ∨ x.apart y.f = true
  | [], _, _, j, y, h => by simp at h
  | z :: l, [], h, _, _, _ => by simp [effRow] at h
  | z :: l, a :: A, h, j, y, hj => by
    simp only [effRow, Bool.and_eq_true, Bool.or_eq_true] at h
    cases j with
    | zero => simp only [List.getElem?_cons_zero, Option.some.injEq] at hj; subst hj; simpa using h.1
    | succ j => simpa using effRow_at l A h.2 j y (by simpa using hj)
theorem effAll_at : ∀ (l : List Fx) (A : List Nat) (k : Nat), effAll l A k = true → ∀ i j x y, i < j → l[i]? = some x → l[j]? = some y → Nat.testBit (A.getD j 0) (k + i) = true ∨ x.f.apart y.f = true
  | [], _, _, _, i, j, x, y, _, h, _ => by simp at h
  | z :: l, [], _, h, _, _, _, _, _, _, _ => by simp [effAll] at h
  | z :: l, a :: A, k, h, i, j, x, y, hij, hi, hj => by
    simp only [effAll, Bool.and_eq_true] at h
    obtain ⟨j, rfl⟩ : ∃ j', j = j' + 1 := ⟨j - 1, by omega⟩
    cases i with
    | zero =>
      simp only [List.getElem?_cons_zero, Option.some.injEq] at hi; subst hi
      simpa using effRow_at l A h.1 j y (by simpa using hj)
    | succ i =>
      have := effAll_at l A (k + 1) h.2 i j x y (by omega) (by simpa using hi) (by simpa using hj)
      simpa [Nat.add_assoc, Nat.add_comm 1 i] using this

/-! ### the run in the order of the text, and what it says of each operation -/
def vall (P : Program) (ops : Array Oper) (K : List Fx → St → Prop) : List Oper → St → List Fx → Prop
  | [], st, acc => K acc st
  | o :: rest, st, acc => ∃ b, vwant ops st o = some b ∧ st.fits o.dst ∧
      (b = true → vdo P o st fun f => vall P ops K rest (st.eff o.dst f) (acc ++ [⟨o.dst, f⟩])) ∧
      (b = false → ∃ rd, vall P ops K rest (st.set o.dst (.sc undef)) (acc ++ [⟨o.dst, ⟨.sc undef, [], rd, 0⟩⟩]))

/-- One operation, at its state. -/
def OneOk (P : Program) (ops : Array Oper) (o : Oper) (st : St) (f : Eff) : Prop :=
  st.fits o.dst ∧ ((vwant ops st o = some true ∧ OpL P o (ev st) st.s st.nx f) ∨ (vwant ops st o = some false ∧ ∃ rd, f = ⟨.sc undef, [], rd, 0⟩))

def canon (st : St) (g : Nat → Fx) (i : Nat) : St := ⟨mixT st.t g (fun _ => true) i, mixS st.s g (fun _ => true) i, nmAt st.nx g i, st.ds, st.n⟩

theorem St.eff_eq (st : St) (d : Option Tmp) (f : Eff) : st.eff d f = ⟨setT st.t d f.d, st.s.app f.ws, st.nx + f.k, st.ds, st.n⟩ := by cases d <;> rfl
theorem St.set_eff (st : St) (d : Option Tmp) (v : D) (rd : List Nat) : st.set d v = st.eff d ⟨v, [], rd, 0⟩ := by cases d <;> rfl

theorem vall_ok {P : Program} {ops : Array Oper} {K : List Fx → St → Prop} {st₀ : St} : ∀ (l : List Oper) (st : St) (acc : List Fx), vall P ops K l st acc → (∀ g : Nat → Fx, (∀ (i : Nat) (x : Fx), acc[i]? = some x → g i = x) → st = canon st₀ g acc.length) →
    ∃ fs : List Fx, (fs.length = acc.length + l.length) ∧ (∀ (i : Nat) (x : Fx), acc[i]? = some x → fs[i]? = some x) ∧ (∀ g : Nat → Fx, (∀ (i : Nat) (x : Fx), fs[i]? = some x → g i = x) → K fs (canon st₀ g fs.length) ∧
      ∀ (i : Nat) (o : Oper), l[i]? = some o → ∃ x, fs[acc.length + i]? = some x ∧ x.dst = o.dst ∧ OneOk P ops o (canon st₀ g (acc.length + i)) x.f)
  | [], st, acc, h, hst => ⟨acc, rfl, fun _ _ h => h, fun g hg => ⟨by rw [← hst g hg]; exact h, fun i o h => by simp at h⟩⟩
  | o :: l, st, acc, h, hst => by
    obtain ⟨b, hw, hfit, ht, hf⟩ := h
    have hrun : ∃ f, OneOk P ops o st f ∧ vall P ops K l (st.eff o.dst f) (acc ++ [⟨o.dst, f⟩]) := by
      cases b with
      | true =>
        obtain ⟨f, h1, h2⟩ := vdo_ok (ht rfl)
        exact ⟨f, ⟨hfit, .inl ⟨hw, h1⟩⟩, h2⟩
      | false =>
        obtain ⟨rd, hr⟩ := hf rfl
        exact ⟨_, ⟨hfit, .inr ⟨hw, rd, rfl⟩⟩, by rw [← St.set_eff]; exact hr⟩
    obtain ⟨f, hone, hrest⟩ := hrun
    obtain ⟨fs, h1, h2, h3⟩ := vall_ok (st₀ := st₀) l _ _ hrest (fun g hg => by
      have hg' : ∀ i x, acc[i]? = some x → g i = x := fun i x hx => hg i x (by rw [List.getElem?_append_left (List.getElem?_eq_some_iff.1 hx).1]; exact hx)
      have hgn : g acc.length = ⟨o.dst, f⟩ := hg _ _ (by simp)
      rw [St.eff_eq, hst g hg']
      simp [canon, mixT, mixS, nmAt, hgn])
    refine ⟨fs, by rw [h1]; simp; omega, fun i x hx => h2 i x (by rw [List.getElem?_append_left (List.getElem?_eq_some_iff.1 hx).1]; exact hx), fun g hg => ?_⟩
    obtain ⟨h4, h5⟩ := h3 g hg
    refine ⟨h4, fun i o' ho' => ?_⟩
    cases i with
    | zero =>
      simp only [List.getElem?_cons_zero, Option.some.injEq] at ho'; subst ho'
      refine ⟨⟨o.dst, f⟩, h2 _ _ (by simp), rfl, ?_⟩
      have := hst g fun i x hx => hg i x (h2 i x (by rw [List.getElem?_append_left (List.getElem?_eq_some_iff.1 hx).1]; exact hx))
      rw [Nat.add_zero, ← this]
      exact hone
    | succ i =>
      obtain ⟨x, h6, h7, h8⟩ := h5 i o' (by simpa using ho')
      simp only [List.length_append, List.length_cons, List.length_nil, Nat.zero_add] at h6 h8
      exact ⟨x, by rw [← h6]; congr 1; omega, h7, by rw [show acc.length + (i + 1) = acc.length + 1 + i by omega]; exact h8⟩

theorem ev_congr {st st' : St} {x : Operand} (h : ∀ k, x = .tmp k → st.t k = st'.t k) : ev st x = ev st' x := by
  cases x with
  | tmp k => exact h k rfl
  | const v => rfl
  | global g => rfl
  | func f => rfl

theorem looksAt_operand {ops : Array Oper} {o : Oper} {k : Nat} (h : .tmp k ∈ o.op.operands.toList) : k ∈ o.looksAt ops :=
  List.mem_append_left _ (List.mem_filterMap.2 ⟨.tmp k, h, rfl⟩)

theorem vwant_congr {ops : Array Oper} {st st' : St} {o : Oper} (h : ∀ k ∈ o.looksAt ops, st.t k = st'.t k) : vwant ops st o = vwant ops st' o := by
  unfold vwant
  cases hg : o.guard with
  | none => rfl
  | some p =>
    obtain ⟨j, want⟩ := p
    simp only
    cases hd : (ops[j]?).bind (·.dst) with
    | none => rfl
    | some d =>
      simp only
      rw [h d (by unfold Oper.looksAt; simp [hg, hd])]

/-- What holds at a set of operations that have run. -/
structure Inv (E : Env) (X₀ : Ctx) (st : St) (g : Nat → Fx) (n : Nat) (m : Nat → Bool) (a : Act) (w : World) : Prop where
  ex : ∃ X : Ctx, X.w = w ∧ Sim E X (mixS st.s g m n) ∧ Tr X (mixT st.t g m n) a.tmps ∧ Step X₀ st.s X (mixS st.s g m n) ∧ Marks E X st.ds ∧
    (∀ j < n, m j = false → ∀ id, nmAt st.nx g j ≤ id → id < nmAt st.nx g (j + 1) → X.μ id = none) ∧ (∀ id, nmAt st.nx g n ≤ id → X.μ id = none)
  ds : a.defers = st.ds
  size : a.tmps.size = st.n

theorem inv_step {P : Program} {ops : List Oper} {A : List Nat} {st : St} {g : Nat → Fx} {E : Env} {X₀ : Ctx} {m : Nat → Bool} {a : Act} {w : World} {i : Nat} {o : Oper} {ro : Option Nat} {fr : Nat} {Q : Exit → Act → World → Prop}
    (hA : closedA A ops 0 = true) (hap : apartAll ops.toArray ops A 0 = true)
    (hdst : ∀ j oj, ops[j]? = some oj → (g j).dst = oj.dst)
    (heff : ∀ j k, j < k → k < ops.length → Nat.testBit (A.getD k 0) j = true ∨ (g j).f.apart (g k).f = true)
    (hone : ∀ j oj, ops[j]? = some oj → OneOk P ops.toArray oj (canon st g j) (g j).f)
    (hm : ∀ i o, ops[i]? = some o → m i = true → ∀ e ∈ o.after, Region.binds .any e = true → m e.on = true)
    (ho : ops[i]? = some o) (hi : m i = false) (hready : ∀ e ∈ o.after, Region.binds .any e = true → m e.on = true)
    (h : Inv E X₀ st g ops.length m a w) :
    wpOpIn (Fw ro) fr P ops.toArray Q i (Inv E X₀ st g ops.length (take m i)) a w := by
  obtain ⟨⟨X, rfl, hsim, htr, hstep, hmk, hfr, hfrn⟩, hds, hsz⟩ := h
  have hilt : i < ops.length := (List.getElem?_eq_some_iff.1 ho).1
  -- whoever is in the set and not ahead in the text, or ahead in the text and not in the set, is not ordered with i
  have hun : ∀ j, j < ops.length → j ≠ i → m j ≠ decide (j < i) → (Nat.testBit (A.getD i 0) j = false ∧ Nat.testBit (A.getD j 0) i = false) := by
    intro j hj hji hne
    constructor
    · cases hb : Nat.testBit (A.getD i 0) j with
      | false => rfl
      | true =>
        have hlt := anc_lt hA i o ho j hb
        have : take m i j = true := anc_mem hA (m := take m i) (fun i' o' ho' hi' e he hbd => by
          simp only [take]
          split
          · rfl
          · by_cases hii : i' = i
            · subst hii; rw [ho] at ho'; cases ho'; exact hready e he hbd
            · exact hm i' o' ho' (by simpa [take, hii] using hi') e he hbd) i o ho (by simp [take]) j hb
        have hmj : m j = true := by simpa [take, hji] using this
        exact (hne (by rw [hmj]; simp [hlt])).elim
    · cases hb : Nat.testBit (A.getD j 0) i with
      | false => rfl
      | true =>
        have hlt := anc_lt hA j _ (List.getElem?_eq_getElem hj) i hb
        cases hmj : m j with
        | false => exact (hne (by rw [hmj]; simp; omega)).elim
        | true =>
          have := anc_mem hA hm j _ (List.getElem?_eq_getElem hj) hmj i hb
          rw [hi] at this; cases this
  have hsep : ∀ j oj, ops[j]? = some oj → j ≠ i → m j ≠ decide (j < i) → (∀ k, oj.dst = some k → k ∉ o.looksAt ops.toArray) ∧ (∀ k, o.dst = some k → oj.dst ≠ some k) ∧ (∀ id ∈ (g j).f.ids, id ∉ (g i).f.rd) ∧ (∀ id ∈ (g i).f.ids, id ∉ (g j).f.ids) := by
    intro j oj hj hji hne
    have hjlt : j < ops.length := (List.getElem?_eq_some_iff.1 hj).1
    obtain ⟨u1, u2⟩ := hun j hjlt hji hne
    by_cases hlt : j < i
    · rcases apartAll_at _ _ _ hap j i oj o hlt hj ho with h | h
      · rw [Nat.zero_add, u1] at h; cases h
      · obtain ⟨a1, a2, a3⟩ := Oper.apart_spec h
        rcases heff j i hlt hilt with h' | h'
        · rw [u1] at h'; cases h'
        · simp only [Eff.apart, Bool.and_eq_true] at h'
          exact ⟨a1, fun k hk hk' => a2 k hk' hk, disj_spec h'.1.1, fun id h1 h2 => disj_spec h'.1.2 id h2 h1⟩
    · have hlt : i < j := by omega
      rcases apartAll_at _ _ _ hap i j o oj hlt ho hj with h | h
      · rw [Nat.zero_add, u2] at h; cases h
      · obtain ⟨a1, a2, a3⟩ := Oper.apart_spec h
        rcases heff i j hlt hjlt with h' | h'
        · rw [u2] at h'; cases h'
        · simp only [Eff.apart, Bool.and_eq_true] at h'
          exact ⟨a3, a2, disj_spec h'.2, disj_spec h'.1.2⟩
  -- the state of the run in the order of the text, masked
  have hcT : ∀ k, (canon st g i).t k = mixT st.t g (fun j => decide (j < i)) ops.length k := by
    intro k
    have : ∀ n, i ≤ n → mixT st.t g (fun j => decide (j < i)) n = mixT st.t g (fun _ => true) i := by
      intro n hn
      induction n with
      | zero => have : i = 0 := by omega
                subst this; rfl
      | succ n ih =>
        by_cases e : i = n + 1
        · subst e
          exact funext fun k => mixT_agree (n + 1) fun j hj _ => by simp [hj]
        · have := ih (by omega)
          simp only [mixT, this]
          rw [if_neg (by simp; omega)]
    rw [this _ (by omega)]; rfl
  have hcS : ∀ id, (canon st g i).s id = mixS st.s g (fun j => decide (j < i)) ops.length id := by
    intro id
    have : ∀ n, i ≤ n → mixS st.s g (fun j => decide (j < i)) n = mixS st.s g (fun _ => true) i := by
      intro n hn
      induction n with
      | zero => have : i = 0 := by omega
                subst this; rfl
      | succ n ih =>
        by_cases e : i = n + 1
        · subst e
          exact funext fun k => mixS_agree (n + 1) fun j hj _ => by simp [hj]
        · have := ih (by omega)
          simp only [mixS, this]
          rw [if_neg (by simp; omega)]
    rw [this _ (by omega)]; rfl
  let now : St := ⟨mixT st.t g m ops.length, mixS st.s g m ops.length, nmAt st.nx g i, st.ds, st.n⟩
  have hlook : ∀ k ∈ o.looksAt ops.toArray, now.t k = (canon st g i).t k := by
    intro k hk
    rw [hcT]
    refine mixT_agree _ fun j hj hjd => ?_
    by_cases hji : j = i
    · subst hji; simp [hi]
    · refine Classical.byContradiction fun hne => ?_
      have hj' := List.getElem?_eq_getElem hj
      obtain ⟨b1, _⟩ := hsep j _ hj' hji hne
      exact b1 k (by rw [← hdst j _ hj']; exact hjd) hk
  have hread : ∀ id ∈ (g i).f.rd, now.s id = (canon st g i).s id := by
    intro id hid
    rw [hcS]
    refine mixS_agree _ fun j hj hjd => ?_
    by_cases hji : j = i
    · subst hji; simp [hi]
    · refine Classical.byContradiction fun hne => ?_
      obtain ⟨_, _, b1, _⟩ := hsep j _ (List.getElem?_eq_getElem hj) hji hne
      exact b1 id hjd hid
  have htake : ∀ j, i < j → j < ops.length → m j = true → m j ≠ decide (j < i) := fun j h1 _ h3 => by rw [h3]; simp; omega
  have hT : mixT st.t g (take m i) ops.length = setT (mixT st.t g m ops.length) o.dst (g i).f.d := by
    rw [mixT_take hi _ hilt fun j h1 h2 h3 k hk => ?_, hdst i o ho]
    have hj' := List.getElem?_eq_getElem h2
    obtain ⟨_, b1, _⟩ := hsep j _ hj' (by omega) (htake j h1 h2 h3)
    rw [hdst j _ hj']
    exact b1 k (by rw [← hdst i o ho]; exact hk)
  have hS : mixS st.s g (take m i) ops.length = (mixS st.s g m ops.length).app (g i).f.ws :=
    mixS_take hi _ hilt fun j h1 h2 h3 => (hsep j _ (List.getElem?_eq_getElem h2) (by omega) (htake j h1 h2 h3)).2.2.2
  obtain ⟨hfit, hcase⟩ := hone i o ho
  unfold Go.wpOpIn
  have hio : ops.toArray[i]? = some o := by simpa using ho
  simp only [hio]
  have finish : ∀ (Y : Ctx) (v : Value), Sim E Y ((mixS st.s g m ops.length).app (g i).f.ws) → Step X (mixS st.s g m ops.length) Y ((mixS st.s g m ops.length).app (g i).f.ws) → Vr Y (g i).f.d v →
      (∀ id, Y.μ id ≠ none → X.μ id ≠ none ∨ (nmAt st.nx g i ≤ id ∧ id < nmAt st.nx g i + (g i).f.k)) → Inv E X₀ st g ops.length (take m i) (a.put o.dst v) Y.w := by
    intro Y v h1 h2 h3 h4
    have htr' : Tr Y (mixT st.t g m ops.length) a.tmps := htr.later (h2.later hsim)
    have hnone : ∀ id, X.μ id = none → ¬ (nmAt st.nx g i ≤ id ∧ id < nmAt st.nx g i + (g i).f.k) → Y.μ id = none := fun id hx hn => by
      cases e : Y.μ id with
      | none => rfl
      | some l =>
        rcases h4 id (by simp [e]) with h | h
        · exact (h hx).elim
        · exact (hn h).elim
    refine ⟨⟨Y, rfl, by rw [hS]; exact h1, ?_, hstep.trans (by rw [hS]; exact h2), hmk.step hsim h2, fun j hj hmj id hl hu => ?_, fun id hid => ?_⟩, ?_, ?_⟩
    · rw [hT]
      cases e : o.dst with
      | none => exact htr'
      | some k =>
        have hk := hfit k e
        exact htr'.put h3 (by rw [hsz]; exact hk)
    · have hji : j ≠ i := fun e => by subst e; simp [take] at hmj
      have hmj' : m j = false := by simpa [take, hji] using hmj
      refine hnone id (hfr j hj hmj' id hl hu) fun ⟨h5, h6⟩ => ?_
      have e6 : nmAt st.nx g (i + 1) = nmAt st.nx g i + (g i).f.k := rfl
      by_cases hlt : j < i
      · have := nmAt_mono (nx := st.nx) (g := g) (show j + 1 ≤ i by omega)
        omega
      · have := nmAt_mono (nx := st.nx) (g := g) (show i + 1 ≤ j by omega)
        omega
    · refine hnone id (hfrn id hid) fun ⟨h5, h6⟩ => ?_
      have := nmAt_mono (nx := st.nx) (g := g) (show i + 1 ≤ ops.length by omega)
      have e6 : nmAt st.nx g (i + 1) = nmAt st.nx g i + (g i).f.k := rfl
      omega
    · cases o.dst <;> exact hds
    · cases o.dst <;> simp [Act.put, hsz]
  rcases hcase with ⟨hw, hL⟩ | ⟨hw, rd, hf⟩
  · rw [vwant_ok (st := now) htr (by rw [← hw]; exact vwant_congr hlook)]
    simp only [if_true]
    have hops : ∀ x ∈ o.op.operands.toList, Vr X (ev (canon st g i) x) (a.eval x) := fun x hx => by
      rw [← ev_congr (st := now) (st' := canon st g i) fun k hk => hlook k (looksAt_operand (by rw [← hk]; exact hx))]
      cases x with
      | tmp k => exact htr k
      | const v => exact ofV_ok X v
      | global _ => simp [V.ev, Vr, Act.eval]
      | func _ => simp [V.ev, Vr, Act.eval, Lr]
    refine Oper.wpIn_mono ?_ (hL now.s hread E ro fr X a _ hsim hops fun id h1 h2 => hfr i hilt hi id h1 h2)
    rintro a' w' ⟨Y, v, rfl, rfl, h1, h2, h3, h4⟩
    exact finish Y v h1 h2 h3 h4
  · rw [vwant_ok (st := now) htr (by rw [← hw]; exact vwant_congr hlook)]
    simp only [Bool.false_eq_true, if_false]
    refine ⟨fun _ _ => trivial, finish X undef ?_ ?_ ?_ fun id h => .inl h⟩
    · rw [hf]; exact hsim
    · rw [hf]; exact Step.refl _ _
    · rw [hf]; exact Vr_sc

theorem countP_lt {p q : Nat → Bool} (hqp : ∀ x, q x = true → p x = true) : ∀ (l : List Nat) (i : Nat), i ∈ l → p i = true → q i = false → l.countP q < l.countP p
  | x :: l, i, hi, hp, hq => by
    have hle : l.countP q ≤ l.countP p := List.countP_mono_left fun x _ h => hqp x h
    simp only [List.countP_cons]
    by_cases hx : i = x
    · subst hx; rw [hp, hq]; simp; omega
    · have hi' : i ∈ l := by simpa [hx] using hi
      have := countP_lt hqp l i hi' hp hq
      cases hqx : q x
      · simp; omega
      · rw [hqp x hqx]; simp; omega

theorem any_ok {P : Program} {ops : List Oper} {A : List Nat} {st : St} {g : Nat → Fx} {E : Env} {X₀ : Ctx} {ro : Option Nat} {fr : Nat} {Q : Exit → Act → World → Prop}
    (hA : closedA A ops 0 = true) (hap : apartAll ops.toArray ops A 0 = true)
    (hdst : ∀ j oj, ops[j]? = some oj → (g j).dst = oj.dst)
    (heff : ∀ j k, j < k → k < ops.length → Nat.testBit (A.getD k 0) j = true ∨ (g j).f.apart (g k).f = true)
    (hone : ∀ j oj, ops[j]? = some oj → OneOk P ops.toArray oj (canon st g j) (g j).f)
    (hQ : ∀ a w, Inv E X₀ st g ops.length (fun _ => true) a w → Q .normal a w) :
    ∀ (fuel : Nat) (listed : Array Bool) (a : Act) (w : World), listed.size = ops.length →
    (∀ i o, ops[i]? = some o → listed.getD i false = true → ∀ e ∈ o.after, Region.binds .any e = true → listed.getD e.on false = true) →
    (List.range ops.length).countP (fun i => !listed.getD i false) ≤ fuel →
    Inv E X₀ st g ops.length (fun i => listed.getD i false) a w → wpAnyIn (Fw ro) fr P .any ops.toArray Q fuel listed a w := by
  intro fuel
  have hgetD : ∀ (listed : Array Bool) i, listed.size = ops.length → i < ops.length → listed.getD i true = listed.getD i false := fun listed i hs hi => by
    simp [Array.getD_eq_getD_getElem?, hs, hi]
  have hfull : ∀ (listed : Array Bool), listed.size = ops.length → Region.ready .any ops.toArray listed = [] → ∀ i, i < ops.length → listed.getD i false = true := by
    intro listed hs hr i
    induction i using Nat.strongRecOn with
    | _ i ih =>
      intro hi
      cases hl : listed.getD i false with
      | true => rfl
      | false =>
        have : i ∈ Region.ready .any ops.toArray listed := by
          unfold Region.ready
          rw [List.mem_filter]
          refine ⟨by simpa using hi, ?_⟩
          rw [hgetD listed i hs hi, hl]
          simp only [Bool.not_false, Bool.true_and]
          have ho := List.getElem?_eq_getElem hi
          rw [show ops.toArray[i]? = some ops[i] by simp]
          simp only [Option.map_some, Option.getD_some]
          rw [Array.all_eq_true_iff_forall_mem]
          intro e he
          cases hb : Region.binds .any e with
          | false => rfl
          | true =>
            have := (closedA_at ops 0 hA i _ ho).2 e he hb
            rw [Nat.zero_add] at this
            simp [ih e.on this (by omega)]
        rw [hr] at this; simp at this
  have hend : ∀ (listed : Array Bool) a w, listed.size = ops.length → Region.ready .any ops.toArray listed = [] → Inv E X₀ st g ops.length (fun i => listed.getD i false) a w → Q .normal a w := by
    intro listed a w hs hr hI
    have hf := hfull listed hs hr
    apply hQ
    obtain ⟨⟨X, h1, h2, h3, h4, h5, h6, h7⟩, h8, h9⟩ := hI
    have eS : mixS st.s g (fun i => listed.getD i false) ops.length = mixS st.s g (fun _ => true) ops.length := funext fun id => mixS_agree _ fun j hj _ => hf j hj
    have eT : mixT st.t g (fun i => listed.getD i false) ops.length = mixT st.t g (fun _ => true) ops.length := funext fun id => mixT_agree _ fun j hj _ => hf j hj
    rw [eS] at h2 h4
    rw [eT] at h3
    exact ⟨⟨X, h1, h2, h3, h4, h5, fun _ _ h => (by cases h), h7⟩, h8, h9⟩
  induction fuel with
  | zero =>
    intro listed a w hs hm hc hI
    have hz : ∀ i, i < ops.length → listed.getD i false = true := by
      intro i hi
      have := List.countP_eq_zero.1 (Nat.le_zero.1 hc) i (by simpa using hi)
      simpa using this
    have hr : Region.ready .any ops.toArray listed = [] := by
      unfold Region.ready
      rw [List.filter_eq_nil_iff]
      intro i hi
      have hi' : i < ops.length := by simpa using hi
      rw [hgetD listed i hs hi', hz i hi']
      simp
    exact ⟨hr, hend listed a w hs hr hI⟩
  | succ fuel ih =>
    intro listed a w hs hm hc hI
    refine ⟨fun hr => hend listed a w hs hr hI, fun i hi => ?_⟩
    unfold Region.ready at hi
    rw [List.mem_filter] at hi
    obtain ⟨hi1, hi2⟩ := hi
    have hilt : i < ops.length := by simpa using hi1
    have ho := List.getElem?_eq_getElem hilt
    rw [hgetD listed i hs hilt, show ops.toArray[i]? = some ops[i] by simp] at hi2
    simp only [Bool.and_eq_true, Bool.not_eq_true', Option.map_some, Option.getD_some] at hi2
    obtain ⟨hli, hrd⟩ := hi2
    have hrd' : ∀ e ∈ ops[i].after, Region.binds .any e = true → listed.getD e.on false = true := fun e he hb => by
      have := Array.all_eq_true_iff_forall_mem.1 hrd e he
      simpa [hb] using this
    have hstep := inv_step (P := P) (ro := ro) (fr := fr) (Q := Q) hA hap hdst heff hone hm ho hli hrd' hI
    refine wpOpIn_mono (fun a' w' hI' => ?_) hstep
    have htk : ∀ j, (listed.setIfInBounds i true).getD j false = take (fun i => listed.getD i false) i j := by
      intro j
      simp only [take]
      by_cases hj : j = i
      · subst hj; simp [Array.getD_eq_getD_getElem?, hs, hilt]
      · rw [if_neg hj]
        rw [Array.getD_eq_getD_getElem?, Array.getElem?_setIfInBounds_ne (by omega), ← Array.getD_eq_getD_getElem?]
    have hfun : (fun j => (listed.setIfInBounds i true).getD j false) = take (fun i => listed.getD i false) i := funext htk
    refine ih (listed.setIfInBounds i true) a' w' (by simpa using hs) (fun i' o' ho' hi' e he hb => ?_) ?_ (by rw [hfun]; exact hI')
    · rw [htk] at hi' ⊢
      simp only [take] at hi' ⊢
      split
      · rfl
      · split at hi'
        · rename_i hii
          subst hii
          rw [ho] at ho'; cases ho'
          exact hrd' e he hb
        · exact hm i' o' ho' hi' e he hb
    · have : (List.range ops.length).countP (fun j => !(listed.setIfInBounds i true).getD j false) < (List.range ops.length).countP (fun j => !listed.getD j false) := by
        refine countP_lt (fun j hj => ?_) _ i (by simpa using hilt) (by simp [hli]) (by rw [htk]; simp [take])
        rw [htk] at hj
        simp only [take, Bool.not_eq_true'] at hj ⊢
        split at hj
        · cases hj
        · exact hj
      omega

/-- **A region that draws its order.** -/
theorem T_draw {P : Program} {ro : Option (Nat × Nat)} {st : St} {Q : Exit → St → Prop} {id : Nat} {l : List Oper} (hP : P.follows .mixedOrders = true) (A : List Nat) (hA : (closedA A l 0 && apartAll l.toArray l A 0) = true)
    (h : vall P l.toArray (fun fs s => effAll fs A 0 = true ∧ Q .normal s) l st []) : T P ro (.region id l.toArray true) st Q := by
  intro E m X a hg
  simp only [Bool.and_eq_true] at hA
  refine wpIn_region_any hP ?_
  obtain ⟨fs, hlen, _, hfs⟩ := vall_ok (st₀ := st) l st [] h (fun g _ => rfl)
  simp only [List.length_nil, Nat.zero_add] at hlen hfs
  let g : Nat → Fx := fun i => fs.getD i ⟨none, ⟨.junk, [], [], 0⟩⟩
  have hgi : ∀ i x, fs[i]? = some x → g i = x := fun i x hx => by simp [g, List.getD_eq_getElem?_getD, hx]
  obtain ⟨⟨heff, hQ⟩, hone⟩ := hfs g hgi
  have hdrew : Sim E { X with w := { X.w with drawn := X.w.drawn + 1 } } st.s ∧ Step X st.s { X with w := { X.w with drawn := X.w.drawn + 1 } } st.s := hg.sim.world (below_drew' X.w)
  have hat : ∀ j oj, l[j]? = some oj → ∃ x, fs[j]? = some x ∧ g j = x ∧ x.dst = oj.dst ∧ OneOk P l.toArray oj (canon st g j) x.f := fun j oj hj => by
    obtain ⟨x, h1, h2, h3⟩ := hone j oj hj
    exact ⟨x, h1, hgi _ _ h1, h2, h3⟩
  have hz : ∀ (s : Sg) n, mixS s g (fun _ => false) n = s := fun s n => by induction n with | zero => rfl | succ n ih => simp [mixS, ih]
  have hzt : ∀ (t : Nat → D) n, mixT t g (fun _ => false) n = t := fun t n => by induction n with | zero => rfl | succ n ih => simp [mixT, ih]
  have hrep : (fun i => (Array.replicate l.length false).getD i false) = fun _ => false := by
    funext i
    rw [Array.getD_eq_getD_getElem?]
    by_cases hi : i < l.length
    · simp [hi]
    · rw [Array.getElem?_eq_none (by simpa using hi)]; rfl
  have hsz : l.toArray.size = l.length := by simp
  rw [hsz]
  have h0 := nmAt_mono (nx := st.nx) (g := g) (Nat.zero_le l.length)
  refine any_ok (A := A) (st := st) (g := g) (E := E) (X₀ := X) hA.1 hA.2 ?_ ?_ ?_ ?_ l.length _ a _ (by simp) ?_ ?_ ?_
  · intro j oj hj
    obtain ⟨x, _, h2, h3, _⟩ := hat j oj hj
    rw [h2, h3]
  · intro j k hjk hk
    have e1 : fs[j]? = some fs[j] := List.getElem?_eq_getElem (by omega)
    have e2 : fs[k]? = some fs[k] := List.getElem?_eq_getElem (by omega)
    rcases effAll_at fs A 0 heff j k _ _ hjk e1 e2 with h | h
    · exact .inl (by simpa using h)
    · exact .inr (by rw [hgi _ _ e1, hgi _ _ e2]; exact h)
  · intro j oj hj
    obtain ⟨x, _, h2, _, h4⟩ := hat j oj hj
    rw [h2]; exact h4
  · intro a' w' hI
    obtain ⟨⟨Y, rfl, h2, h3, h4, h5, _, h7⟩, h8, h9⟩ := hI
    have e : canon st g fs.length = canon st g l.length := by rw [hlen]
    rw [e] at hQ
    exact ⟨Y, canon st g l.length, rfl, ⟨h2, h3, h7, h8, h9, h5⟩, h4.moved, hQ⟩
  · intro i o _ hi
    have := congrFun hrep i
    rw [this] at hi; cases hi
  · exact Nat.le_trans List.countP_le_length (by simp)
  · rw [hrep]
    refine ⟨⟨_, rfl, by rw [hz]; exact hdrew.1, by rw [hzt]; exact hg.tr.later (hdrew.2.later hg.sim), by rw [hz]; exact hdrew.2, hg.marks.step hg.sim hdrew.2, fun j _ _ id h1 _ => hg.fr id ?_, fun id h1 => hg.fr id ?_⟩, hg.ds, hg.size⟩
    · have := nmAt_mono (nx := st.nx) (g := g) (Nat.zero_le j)
      exact Nat.le_trans this h1
    · exact Nat.le_trans h0 h1

end Go.Proofs.YtglnkfpmogaifaaGreatDoor.V

