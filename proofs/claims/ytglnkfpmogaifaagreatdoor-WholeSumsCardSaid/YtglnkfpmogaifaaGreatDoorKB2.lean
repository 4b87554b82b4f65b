/-
  Steps: an operation's effect as a function; states written out; loops over written states; forgetting, renaming.
-/
import Derived.Test.YtglnkfpmogaifaaGreatDoorKB1
set_option linter.unusedSimpArgs false
set_option linter.unusedVariables false
namespace Go.Proofs.YtglnkfpmogaifaaGreatDoor.V
open Go Go.RowKit

/-- Temporaries and objects, written out. -/
def tl : List (Nat × D) → Nat → D
  | [], _ => .junk
  | p :: l, k => if k = p.1 then p.2 else tl l k
def ol : List (Nat × O) → Sg
  | [], _ => none
  | p :: l, k => if k = p.1 then some p.2 else ol l k
theorem tl_cons (j : Nat) (d : D) (l : List (Nat × D)) (k : Nat) : tl ((j, d) :: l) k = if k = j then d else tl l k := rfl
theorem tl_nil (k : Nat) : tl [] k = .junk := rfl
theorem ol_cons (j : Nat) (o : O) (l : List (Nat × O)) (k : Nat) : ol ((j, o) :: l) k = if k = j then some o else ol l k := rfl
theorem ol_nil (k : Nat) : ol [] k = none := rfl
theorem upd_at {α : Type} (f : Nat → α) (k : Nat) (v : α) (j : Nat) : upd f k v j = if j = k then v else f j := rfl

theorem ev_tmp (st : St) (k : Nat) : ev st (.tmp k) = st.t k := rfl
theorem ev_const (st : St) (v : Value) : ev st (.const v) = ofV v := rfl
theorem ev_func (st : St) (f : FuncId) : ev st (.func f) = .fn (.func f) [] [] := rfl

/-- A binary operation. -/
def vcmp (P : Program) (op : BinOp) (t : TypeId) (x y : D) (yo : Operand) : Option D :=
  match vnil P op t x yo with
  | some d => some d
  | none =>
    match veqA P op t x y with
    | some d => some d
    | none => vbin P op t x y
theorem vcmp_or {P : Program} {op : BinOp} {t : TypeId} {x y d : D} {yo : Operand} (h : vcmp P op t x y yo = some d) : vbin P op t x y = some d ∨ vnil P op t x yo = some d ∨ veqA P op t x y = some d := by
  unfold vcmp at h
  split at h
  · rename_i d' hd; rw [hd]; exact .inr (.inl h)
  · split at h
    · rename_i d' hd; rw [hd]; exact .inr (.inr h)
    · exact .inl h
/-- A conversion; of bytes to a text too. -/
def vconv (P : Program) (s : Sg) (a b : TypeId) (x : D) : Option (D × List Nat) :=
  match x with
  | .sc v => (vconvert P a b (.sc v)).map (·, [])
  | x => (vtext P s a b x).map (·, idsOf x)
theorem vconv_or {P : Program} {s : Sg} {a b : TypeId} {x d : D} {rd : List Nat} (h : vconv P s a b x = some (d, rd)) : (vconvert P a b x = some d ∧ rd = []) ∨ (vtext P s a b x = some d ∧ rd = idsOf x) := by
  unfold vconv at h
  split at h
  · simp only [Option.map_eq_some_iff, Prod.mk.injEq] at h
    obtain ⟨e, he, rfl, rfl⟩ := h
    exact .inl ⟨he, rfl⟩
  · simp only [Option.map_eq_some_iff, Prod.mk.injEq] at h
    obtain ⟨e, he, rfl, rfl⟩ := h
    exact .inr ⟨he, rfl⟩
/-- A value, and the names that it was found under. -/
def valOf (P : Program) (st : St) : Op → Option (D × List Nat)
  | .move x => some (ev st x, [])
  | .assign x => some (ev st x, [])
  | .pick c a b => (vpick (ev st c) (ev st a) (ev st b)).map (·, [])
  | .build t ps => (vbuild P t (vparts (ev st) ps.toList)).map (·, [])
  | .load t x => (vload P st.s t (ev st x)).map (·, idsOf (ev st x))
  | .nilCheck x => (vnilCheck (ev st x)).map (·, [])
  | .binOp op t x y _ => (vcmp P op t (ev st x) (ev st y) y).map (·, [])
  | .unOp op _ x => (vunOp op (ev st x)).map (·, [])
  | .convert s t x => vconv P st.s s t (ev st x)
  | .makeFunc f a b => some (.fn f (a.toList.map (ev st)) (b.toList.map (ev st)), [])
  | .slice t x lo hi mx => (vslice P st.s t (ev st x) (lo.map (ev st)) (hi.map (ev st)) (mx.map (ev st))).map (·, idsOf (ev st x))
  | .fieldAddr t x f => (vfieldAddr P t (ev st x) f).map (·, [])
  | .field t x f => (vfield P t (ev st x) f).map (·, [])
  | .indexAddr t x i => (vindexAddr P t (ev st x) (ev st i)).map (·, [])
  | .index t x i => (vindex P t (ev st x) (ev st i)).map (·, [])
  | .extract x i => (vextract (ev st x) i).map (·, [])
  | .call ⟨.builtin .len, ⟨[x]⟩, ⟨[t]⟩⟩ => (vlen P t (ev st x)).map (·, [])
  | .call ⟨.builtin .max, ⟨x :: r⟩, _⟩ => (vfold vmax2 (ev st x) (r.map (ev st))).map (·, [])
  | .call ⟨.builtin .min, ⟨x :: r⟩, _⟩ => (vfold vmin2 (ev st x) (r.map (ev st))).map (·, [])
  | _ => none

theorem valOf_do {P : Program} {st : St} {o : Oper} {d : D} {rd : List Nat} {K : Eff → Prop} (h : valOf P st o.op = some (d, rd)) (hK : K ⟨d, [], rd, 0⟩) : vdo P o st K := by
  unfold vdo
  generalize o.op = op at h
  unfold valOf at h
  split at h
  case h_1 => simp only [Option.some.injEq, Prod.mk.injEq] at h; obtain ⟨rfl, rfl⟩ := h; exact hK
  case h_2 => simp only [Option.some.injEq, Prod.mk.injEq] at h; obtain ⟨rfl, rfl⟩ := h; exact hK
  case h_10 => simp only [Option.some.injEq, Prod.mk.injEq] at h; obtain ⟨rfl, rfl⟩ := h; exact hK
  case h_7 =>
    simp only [Option.map_eq_some_iff, Prod.mk.injEq] at h
    obtain ⟨e, he, rfl, rfl⟩ := h
    exact ⟨e, vcmp_or he, hK⟩
  case h_9 => exact ⟨_, _, vconv_or h, hK⟩
  case h_20 => cases h
  all_goals
    simp only [Option.map_eq_some_iff, Prod.mk.injEq] at h
    obtain ⟨e, he, rfl, rfl⟩ := h
    exact ⟨e, he, hK⟩

/-- A new object. -/
def newOf (P : Program) (st : St) : Op → Option (D × O)
  | .alloc e => if zok P e = true then some (.pt st.nx 0, ⟨zeroD P e, e, 0, false⟩) else none
  | .box e x => (vcells (ev st x)).map fun cs => (.pt st.nx 0, ⟨cs, e, 0, false⟩)
  | .buildSlice t n ps =>
    match P.underlying t with
    | some (.slice e) => (vbuildSlice P e n (vparts (ev st) ps.toList)).map fun cs => (.rf st.nx 0 n (szOf P e), ⟨cs, e, szOf P e, false⟩)
    | _ => none
  | .makeSlice t l c =>
    match P.underlying t, ev st l, ev st c with
    | some (.slice e), .sc (.int _ l'), .sc (.int _ c') =>
      if (known P e && zok P e && szOf P e != 0) = true then
        (if 0 ≤ l' ∧ l' ≤ c' ∧ (bytesOf P e : Int) * c' ≤ 281474976710656 ∧ c' ≤ maxLen then some (.rf st.nx 0 l'.toNat (szOf P e), ⟨zrow P e l'.toNat, e, szOf P e, false⟩) else none)
      else none
    | _, _, _ => none
  | _ => none
theorem newOf_do {P : Program} {st : St} {o : Oper} {d : D} {ob : O} {K : Eff → Prop} (h : newOf P st o.op = some (d, ob)) (hK : K ⟨d, [(st.nx, some ob)], [], 1⟩) : vdo P o st K := by
  unfold vdo
  generalize o.op = op at h
  unfold newOf at h
  split at h
  · split at h
    · rename_i hz
      simp only [Option.some.injEq, Prod.mk.injEq] at h; obtain ⟨rfl, rfl⟩ := h
      exact ⟨hz, hK⟩
    · cases h
  · simp only [Option.map_eq_some_iff, Prod.mk.injEq] at h
    obtain ⟨cs, h1, rfl, rfl⟩ := h
    exact ⟨cs, h1, hK⟩
  · split at h
    · rename_i e hu
      simp only [Option.map_eq_some_iff, Prod.mk.injEq] at h
      obtain ⟨cs, h1, rfl, rfl⟩ := h
      exact .inr ⟨e, hu, cs, h1, hK⟩
    · cases h
  · split at h
    · rename_i e kl l' kc c' hu hl hc
      split at h
      · rename_i hk
        split at h
        · rename_i hh
          simp only [Option.some.injEq, Prod.mk.injEq] at h; obtain ⟨rfl, rfl⟩ := h
          exact ⟨e, hu, kl, l', hl, kc, c', hc, hk, hh.1, hh.2.1, hh.2.2.1, hh.2.2.2, hK⟩
        · cases h
      · cases h
    · cases h
  · cases h

/-- '[]T{}', as an empty slice. -/
def emOf (P : Program) : Op → Bool
  | .buildSlice t 0 ⟨[]⟩ =>
    match P.underlying t with
    | some (.slice e) => known P e && zok P e && szOf P e != 0
    | _ => false
  | _ => false
theorem emOf_do {P : Program} {st : St} {o : Oper} {K : Eff → Prop} (h : emOf P o.op = true) (hK : K ⟨.em, [], [], 0⟩) : vdo P o st K := by
  unfold vdo
  generalize o.op = op at h
  unfold emOf at h
  split at h
  · split at h
    · rename_i e hu
      exact .inl ⟨rfl, rfl, ⟨e, hu, h⟩, hK⟩
    · cases h
  · cases h
/-- A store: at which name, what the object becomes. -/
def stOf (P : Program) (st : St) : Op → Option (Nat × O)
  | .store t x y =>
    match ev st x with
    | .pt id off => (st.s id).bind fun ob => (vcells (ev st y)).bind fun cs =>
      if known P t = true ∧ ob.fz = false ∧ cs.length = szOf P t ∧ off + cs.length ≤ ob.cells.length then some (id, ⟨splice ob.cells off cs, ob.elem, ob.es, false⟩) else none
    | _ => none
  | _ => none
theorem stOf_do {P : Program} {st : St} {o : Oper} {id : Nat} {ob : O} {K : Eff → Prop} (h : stOf P st o.op = some (id, ob)) (hK : K ⟨.sc undef, [(id, some ob)], [id], 0⟩) : vdo P o st K := by
  unfold vdo
  generalize o.op = op at h
  unfold stOf at h
  split at h
  · split at h
    · rename_i id' off hx
      simp only [Option.bind_eq_some_iff] at h
      obtain ⟨ob', h1, cs, h2, h3⟩ := h
      split at h3
      · rename_i hh
        simp only [Option.some.injEq, Prod.mk.injEq] at h3; obtain ⟨rfl, rfl⟩ := h3
        exact ⟨_, off, hx, ob', h1, cs, h2, hh.1, hh.2.1, hh.2.2.1, hh.2.2.2, hK⟩
      · cases h3
    · cases h
  · cases h

/-- An append. -/
def apOf (P : Program) (st : St) : Op → Option Eff
  | .call ⟨.builtin .append, ⟨[x, y]⟩, ⟨[t, _]⟩⟩ => vappend P st.s st.nx t (ev st x) (ev st y)
  | .call ⟨.builtin .copy, ⟨[x, y]⟩, ⟨[t, _]⟩⟩ => vcopy P st.s t (ev st x) (ev st y)
  | _ => none
def apSrc (P : Program) : Op → Prop
  | .call ⟨.builtin .append, _, ⟨[_, u]⟩⟩ => SrcT P u
  | .call ⟨.builtin .copy, _, _⟩ => True
  | _ => False
theorem apOf_do {P : Program} {st : St} {o : Oper} {f : Eff} {K : Eff → Prop} (hs : apSrc P o.op) (h : apOf P st o.op = some f) (hK : K f) : vdo P o st K := by
  unfold vdo
  generalize o.op = op at h hs
  unfold apOf at h
  split at h
  · exact ⟨hs, f, h, hK⟩
  · exact ⟨f, h, hK⟩
  · cases h

section
variable {P : Program} {ops : Array Oper} {Q : St → Prop} {K : List Fx → St → Prop} {acc : List Fx} {rest : List Oper} {t : Nat → D} {s : Sg} {nx n : Nat} {ds : List Deferred} {op : Op} {ty : TypeId} {pos : String} {after : Array Edge} {k : Tmp}

/-! ### one operation, in the order of the text -/
theorem vs_nil {st : St} (h : Q st) : vrun P ops Q [] st := h
theorem vs_val {d : D} {rd : List Nat} (h : valOf P ⟨t, s, nx, ds, n⟩ op = some (d, rd)) (hf : k < n) (hk : vrun P ops Q rest ⟨upd t k d, s, nx, ds, n⟩) :
    vrun P ops Q (⟨some k, op, ty, pos, after, none⟩ :: rest) ⟨t, s, nx, ds, n⟩ :=
  ⟨true, rfl, fun _ e => by cases e; exact hf, fun _ => valOf_do h hk, fun e => by cases e⟩
theorem vs_new {d : D} {ob : O} {nx' : Nat} (h : newOf P ⟨t, s, nx, ds, n⟩ op = some (d, ob)) (hf : k < n) (hn : nx + 1 = nx') (hk : vrun P ops Q rest ⟨upd t k d, upd s nx (some ob), nx', ds, n⟩) :
    vrun P ops Q (⟨some k, op, ty, pos, after, none⟩ :: rest) ⟨t, s, nx, ds, n⟩ := by
  subst hn
  exact ⟨true, rfl, fun _ e => by cases e; exact hf, fun _ => newOf_do h hk, fun e => by cases e⟩
theorem vs_em (h : emOf P op = true) (hf : k < n) (hk : vrun P ops Q rest ⟨upd t k .em, s, nx, ds, n⟩) :
    vrun P ops Q (⟨some k, op, ty, pos, after, none⟩ :: rest) ⟨t, s, nx, ds, n⟩ :=
  ⟨true, rfl, fun _ e => by cases e; exact hf, fun _ => emOf_do h hk, fun e => by cases e⟩
theorem vs_store {id : Nat} {ob : O} (h : stOf P ⟨t, s, nx, ds, n⟩ op = some (id, ob)) (hk : vrun P ops Q rest ⟨t, upd s id (some ob), nx, ds, n⟩) :
    vrun P ops Q (⟨none, op, ty, pos, after, none⟩ :: rest) ⟨t, s, nx, ds, n⟩ :=
  ⟨true, rfl, fun _ e => (by cases e), fun _ => stOf_do h hk, fun e => by cases e⟩
theorem vs_app {d : D} {ws : List (Nat × Option O)} {rd : List Nat} {j nx' : Nat} {s' : Sg} (h : apOf P ⟨t, s, nx, ds, n⟩ op = some ⟨d, ws, rd, j⟩) (hs : apSrc P op) (hf : k < n) (hn : nx + j = nx') (hw : s.app ws = s') (hk : vrun P ops Q rest ⟨upd t k d, s', nx', ds, n⟩) :
    vrun P ops Q (⟨some k, op, ty, pos, after, none⟩ :: rest) ⟨t, s, nx, ds, n⟩ :=
  by subst hn hw; exact ⟨true, rfl, fun _ e => by cases e; exact hf, fun _ => apOf_do hs h hk, fun e => by cases e⟩
/-- A call by contract whose result holds no pointers into the arguments. -/
theorem callEff_closed {s : Sg} {nm : Nat} {all : List D} {r : D} {os : List O} (h : (closed r && os.all (fun o => closedL o.cells)) = true) :
    callEff s nm all r os = ⟨ren (shift nm os.length) r, news nm os, all.flatMap (vids s 5), os.length⟩ := by unfold callEff; rw [if_pos h]
theorem vs_call {x : Operand} {args : Array Operand} {ats : Array TypeId} {g : FuncId} {first caps : List D} {all : List D} {r r' : D} {os : List O} {s' : Sg} {nx' : Nat} (hc : Con P g all r os) (hx : ev ⟨t, s, nx, ds, n⟩ x = .fn (.func g) first caps)
    (ha : (first ++ args.toList.map (ev ⟨t, s, nx, ds, n⟩) ++ caps).map (view s 5) = all) (hcl : (closed r && os.all (fun o => closedL o.cells)) = true) (hf : k < n)
    (hr : ren (shift nx os.length) r = r') (hs : s.app (news nx os) = s') (hn : nx + os.length = nx') (hk : vrun P ops Q rest ⟨upd t k r', s', nx', ds, n⟩) :
    vrun P ops Q (⟨some k, .call ⟨.value x, args, ats⟩, ty, pos, after, none⟩ :: rest) ⟨t, s, nx, ds, n⟩ := by
  subst hr hs hn
  exact ⟨true, rfl, fun _ e => by cases e; exact hf, fun _ => .inl ⟨g, first, caps, hx, r, os, by rw [ha]; exact hc, by rw [callEff_closed hcl]; exact hk⟩, fun e => by cases e⟩
theorem vs_call0 {x : Operand} {args : Array Operand} {ats : Array TypeId} {g : FuncId} {first caps : List D} {all : List D} {r r' : D} (hc : Con P g all r []) (hx : ev ⟨t, s, nx, ds, n⟩ x = .fn (.func g) first caps)
    (ha : (first ++ args.toList.map (ev ⟨t, s, nx, ds, n⟩) ++ caps).map (view s 5) = all) (hcl : closed r = true) (hf : k < n)
    (hr : ren (shift nx 0) r = r') (hk : vrun P ops Q rest ⟨upd t k r', s, nx, ds, n⟩) :
    vrun P ops Q (⟨some k, .call ⟨.value x, args, ats⟩, ty, pos, after, none⟩ :: rest) ⟨t, s, nx, ds, n⟩ :=
  vs_call hc hx ha (by simpa using hcl) hf hr rfl rfl hk

/-! ### one operation, in a region that draws its order -/
theorem va_nil {st : St} (h : K acc st) : vall P ops K [] st acc := h
theorem va_val {d : D} {rd : List Nat} (h : valOf P ⟨t, s, nx, ds, n⟩ op = some (d, rd)) (hf : k < n) (hk : vall P ops K rest ⟨upd t k d, s, nx, ds, n⟩ (acc ++ [⟨some k, ⟨d, [], rd, 0⟩⟩])) :
    vall P ops K (⟨some k, op, ty, pos, after, none⟩ :: rest) ⟨t, s, nx, ds, n⟩ acc :=
  ⟨true, rfl, fun _ e => by cases e; exact hf, fun _ => valOf_do h hk, fun e => by cases e⟩
theorem va_new {d : D} {ob : O} {nx' : Nat} (h : newOf P ⟨t, s, nx, ds, n⟩ op = some (d, ob)) (hf : k < n) (hn : nx + 1 = nx') (hk : vall P ops K rest ⟨upd t k d, upd s nx (some ob), nx', ds, n⟩ (acc ++ [⟨some k, ⟨d, [(nx, some ob)], [], 1⟩⟩])) :
    vall P ops K (⟨some k, op, ty, pos, after, none⟩ :: rest) ⟨t, s, nx, ds, n⟩ acc := by
  subst hn
  exact ⟨true, rfl, fun _ e => by cases e; exact hf, fun _ => newOf_do h hk, fun e => by cases e⟩
theorem va_em (h : emOf P op = true) (hf : k < n) (hk : vall P ops K rest ⟨upd t k .em, s, nx, ds, n⟩ (acc ++ [⟨some k, ⟨.em, [], [], 0⟩⟩])) :
    vall P ops K (⟨some k, op, ty, pos, after, none⟩ :: rest) ⟨t, s, nx, ds, n⟩ acc :=
  ⟨true, rfl, fun _ e => by cases e; exact hf, fun _ => emOf_do h hk, fun e => by cases e⟩
theorem va_store {id : Nat} {ob : O} (h : stOf P ⟨t, s, nx, ds, n⟩ op = some (id, ob)) (hk : vall P ops K rest ⟨t, upd s id (some ob), nx, ds, n⟩ (acc ++ [⟨none, ⟨.sc undef, [(id, some ob)], [id], 0⟩⟩])) :
    vall P ops K (⟨none, op, ty, pos, after, none⟩ :: rest) ⟨t, s, nx, ds, n⟩ acc :=
  ⟨true, rfl, fun _ e => (by cases e), fun _ => stOf_do h hk, fun e => by cases e⟩
theorem va_app {d : D} {ws : List (Nat × Option O)} {rd : List Nat} {j nx' : Nat} {s' : Sg} (h : apOf P ⟨t, s, nx, ds, n⟩ op = some ⟨d, ws, rd, j⟩) (hs : apSrc P op) (hf : k < n) (hn : nx + j = nx') (hw : s.app ws = s') (hk : vall P ops K rest ⟨upd t k d, s', nx', ds, n⟩ (acc ++ [⟨some k, ⟨d, ws, rd, j⟩⟩])) :
    vall P ops K (⟨some k, op, ty, pos, after, none⟩ :: rest) ⟨t, s, nx, ds, n⟩ acc :=
  by subst hn hw; exact ⟨true, rfl, fun _ e => by cases e; exact hf, fun _ => apOf_do hs h hk, fun e => by cases e⟩
theorem va_call {x : Operand} {args : Array Operand} {ats : Array TypeId} {g : FuncId} {first caps : List D} {all : List D} {r r' : D} {os : List O} {s' : Sg} {nx' : Nat} {ws : List (Nat × Option O)} {rd : List Nat} (hc : Con P g all r os) (hx : ev ⟨t, s, nx, ds, n⟩ x = .fn (.func g) first caps)
    (ha : (first ++ args.toList.map (ev ⟨t, s, nx, ds, n⟩) ++ caps).map (view s 5) = all) (hcl : (closed r && os.all (fun o => closedL o.cells)) = true) (hf : k < n)
    (hr : ren (shift nx os.length) r = r') (hw : news nx os = ws) (hs : s.app ws = s') (hn : nx + os.length = nx') (hrd : (first ++ args.toList.map (ev ⟨t, s, nx, ds, n⟩) ++ caps).flatMap (vids s 5) = rd)
    (hk : vall P ops K rest ⟨upd t k r', s', nx', ds, n⟩ (acc ++ [⟨some k, ⟨r', ws, rd, os.length⟩⟩])) :
    vall P ops K (⟨some k, .call ⟨.value x, args, ats⟩, ty, pos, after, none⟩ :: rest) ⟨t, s, nx, ds, n⟩ acc := by
  subst hr hw hs hn hrd
  exact ⟨true, rfl, fun _ e => by cases e; exact hf, fun _ => .inl ⟨g, first, caps, hx, r, os, by rw [ha]; exact hc, by rw [callEff_closed hcl]; exact hk⟩, fun e => by cases e⟩
theorem va_call0 {x : Operand} {args : Array Operand} {ats : Array TypeId} {g : FuncId} {first caps : List D} {all : List D} {r r' : D} {rd : List Nat} (hc : Con P g all r []) (hx : ev ⟨t, s, nx, ds, n⟩ x = .fn (.func g) first caps)
    (ha : (first ++ args.toList.map (ev ⟨t, s, nx, ds, n⟩) ++ caps).map (view s 5) = all) (hcl : closed r = true) (hf : k < n)
    (hr : ren (shift nx 0) r = r') (hrd : (first ++ args.toList.map (ev ⟨t, s, nx, ds, n⟩) ++ caps).flatMap (vids s 5) = rd)
    (hk : vall P ops K rest ⟨upd t k r', s, nx, ds, n⟩ (acc ++ [⟨some k, ⟨r', [], rd, 0⟩⟩])) :
    vall P ops K (⟨some k, .call ⟨.value x, args, ats⟩, ty, pos, after, none⟩ :: rest) ⟨t, s, nx, ds, n⟩ acc :=
  va_call hc hx ha (by simpa using hcl) hf hr rfl rfl rfl hrd hk

/-! ### guarded operations that only yield a value -/
/-- A value that is there if a guard held. -/
def gd (b want : Bool) (d : D) : D := if b = want then d else .sc undef
theorem gd_pos {b want : Bool} {d : D} (h : b = want) : gd b want d = d := if_pos h
theorem gd_rfl {b : Bool} {d : D} : gd b b d = d := if_pos rfl
theorem vpick_t (a b : D) : vpick (.sc (.bool true)) a b = some a := rfl
theorem vpick_f (a b : D) : vpick (.sc (.bool false)) a b = some b := rfl
theorem vpick_or (b c : Bool) : vpick (.sc (.bool b)) (.sc (.bool true)) (gd b false (.sc (.bool c))) = some (.sc (.bool (b || c))) := by cases b <;> rfl
theorem vpick_and (b c : Bool) : vpick (.sc (.bool b)) (gd b true (.sc (.bool c))) (.sc (.bool false)) = some (.sc (.bool (b && c))) := by cases b <;> rfl

theorem vwant_of {st : St} {o : Oper} {j g : Nat} {want b : Bool} (ho : o.guard = some (j, want)) (hj : (ops[j]?).bind (·.dst) = some g) (hb : st.t g = .sc (.bool b)) : vwant ops st o = some (b == want) := by
  unfold vwant
  simp only [ho, hj, hb]
theorem vg_val {d : D} {j g : Nat} {want b : Bool} {rd : List Nat} (hj : (ops[j]?).bind (·.dst) = some g) (hb : t g = .sc (.bool b)) (h : b = want → valOf P ⟨t, s, nx, ds, n⟩ op = some (d, rd)) (hf : k < n)
    (hk : vrun P ops Q rest ⟨upd t k (gd b want d), s, nx, ds, n⟩) :
    vrun P ops Q (⟨some k, op, ty, pos, after, some (j, want)⟩ :: rest) ⟨t, s, nx, ds, n⟩ := by
  refine ⟨b == want, vwant_of rfl hj hb, fun _ e => by cases e; exact hf, fun e => valOf_do (h (by simpa using e)) ?_, fun e => ?_⟩
  · rw [gd_pos (by simpa using e)] at hk; exact hk
  · have : gd b want d = .sc undef := if_neg (by simpa using e)
    rw [this] at hk; exact hk
theorem vg_call {x : Operand} {args : Array Operand} {ats : Array TypeId} {f : FuncId} {first caps : List D} {all : List D} {r r' : D} {j g : Nat} {want b : Bool} (hc : b = want → Con P f all r []) (hj : (ops[j]?).bind (·.dst) = some g) (hb : t g = .sc (.bool b))
    (hx : ev ⟨t, s, nx, ds, n⟩ x = .fn (.func f) first caps) (ha : b = want → (first ++ args.toList.map (ev ⟨t, s, nx, ds, n⟩) ++ caps).map (view s 5) = all) (hcl : closed r = true) (hf : k < n)
    (hr : ren (shift nx 0) r = r') (hk : vrun P ops Q rest ⟨upd t k (gd b want r'), s, nx, ds, n⟩) :
    vrun P ops Q (⟨some k, .call ⟨.value x, args, ats⟩, ty, pos, after, some (j, want)⟩ :: rest) ⟨t, s, nx, ds, n⟩ := by
  subst hr
  refine ⟨b == want, vwant_of rfl hj hb, fun _ e => by cases e; exact hf, fun e => .inl ⟨f, first, caps, hx, r, [], by rw [ha (by simpa using e)]; exact hc (by simpa using e), ?_⟩, fun e => ?_⟩
  · rw [callEff_closed (by simpa using hcl)]
    rw [gd_pos (by simpa using e)] at hk; exact hk
  · have : gd b want (ren (shift nx 0) r) = .sc undef := if_neg (by simpa using e)
    rw [this] at hk; exact hk
theorem vga_call {x : Operand} {args : Array Operand} {ats : Array TypeId} {f : FuncId} {first caps : List D} {all : List D} {r r' : D} {j g : Nat} {want b : Bool} (hc : b = want → Con P f all r []) (hj : (ops[j]?).bind (·.dst) = some g) (hb : t g = .sc (.bool b))
    (hx : ev ⟨t, s, nx, ds, n⟩ x = .fn (.func f) first caps) (ha : b = want → (first ++ args.toList.map (ev ⟨t, s, nx, ds, n⟩) ++ caps).map (view s 5) = all) (hcl : closed r = true) (hf : k < n)
    (hr : ren (shift nx 0) r = r') {rd : List Nat} (hrd : b = want → (first ++ args.toList.map (ev ⟨t, s, nx, ds, n⟩) ++ caps).flatMap (vids s 5) = rd)
    (hk : vall P ops K rest ⟨upd t k (gd b want r'), s, nx, ds, n⟩ (acc ++ [⟨some k, ⟨gd b want r', [], rd, 0⟩⟩])) :
    vall P ops K (⟨some k, .call ⟨.value x, args, ats⟩, ty, pos, after, some (j, want)⟩ :: rest) ⟨t, s, nx, ds, n⟩ acc := by
  subst hr
  refine ⟨b == want, vwant_of rfl hj hb, fun _ e => by cases e; exact hf, fun e => .inl ⟨f, first, caps, hx, r, [], by rw [ha (by simpa using e)]; exact hc (by simpa using e), ?_⟩, fun e => ⟨rd, ?_⟩⟩
  · rw [callEff_closed (by simpa using hcl)]
    rw [gd_pos (by simpa using e)] at hk; rw [hrd (by simpa using e)]; exact hk
  · have : gd b want (ren (shift nx 0) r) = .sc undef := if_neg (by simpa using e)
    rw [this] at hk; exact hk
theorem vga_val {d : D} {j g : Nat} {want b : Bool} {rd : List Nat} (hj : (ops[j]?).bind (·.dst) = some g) (hb : t g = .sc (.bool b)) (h : b = want → valOf P ⟨t, s, nx, ds, n⟩ op = some (d, rd)) (hf : k < n)
    (hk : vall P ops K rest ⟨upd t k (gd b want d), s, nx, ds, n⟩ (acc ++ [⟨some k, ⟨gd b want d, [], rd, 0⟩⟩])) :
    vall P ops K (⟨some k, op, ty, pos, after, some (j, want)⟩ :: rest) ⟨t, s, nx, ds, n⟩ acc := by
  refine ⟨b == want, vwant_of rfl hj hb, fun _ e => by cases e; exact hf, fun e => valOf_do (h (by simpa using e)) ?_, fun e => ⟨rd, ?_⟩⟩
  · rw [gd_pos (by simpa using e)] at hk; exact hk
  · have : gd b want d = .sc undef := if_neg (by simpa using e)
    rw [this] at hk; exact hk
end

/-! ### forgetting, renaming -/
def Has (t : Nat → D) : List (Nat × D) → Prop
  | [] => True
  | p :: l => t p.1 = p.2 ∧ Has t l
theorem Has.at_ {t : Nat → D} : ∀ {l : List (Nat × D)}, Has t l → ∀ k, tl l k = t k ∨ tl l k = .junk
  | [], _, _ => .inr rfl
  | p :: l, h, k => by
    obtain ⟨k', d⟩ := p
    rw [tl_cons]
    split
    · rename_i hk; subst hk; exact .inl h.1.symm
    · exact h.2.at_ k
def HasO (s : Sg) : List (Nat × O) → Prop
  | [] => True
  | p :: l => s p.1 = some p.2 ∧ HasO s l
theorem HasO.at_ {s : Sg} : ∀ {l : List (Nat × O)}, HasO s l → ∀ k, ol l k = s k ∨ ol l k = none
  | [], _, _ => .inr rfl
  | p :: l, h, k => by
    obtain ⟨k', d⟩ := p
    rw [ol_cons]
    split
    · rename_i hk; subst hk; exact .inl h.1.symm
    · exact h.2.at_ k

/-- A state that is what is left of another, when some of it is forgotten and the names are turned ('ids': the old names, in the order of the new). -/
structure Less (st : St) (ids : List Nat) (st' : St) : Prop where
  t : ∀ k, st'.t k = ren (fun id => ids.idxOf? id) (st.t k) ∨ st'.t k = .junk
  s : ∀ j, st'.s j = none ∨ ∃ id o, ids[j]? = some id ∧ st.s id = some o ∧ st'.s j = some (renO (fun id => ids.idxOf? id) o)
  nodup : ids.Nodup
  nx : ids.length ≤ st'.nx
  ds : st'.ds = st.ds
  n : st'.n = st.n

theorem Good.less {E : Env} {X : Ctx} {st st' : St} {a : Act} {ids : List Nat} (hg : Good E X st a) (h : Less st ids st') :
    Good E { X with μ := fun i => (ids[i]?).bind X.μ } st' a := by
  have hR : Ren (fun id => ids.idxOf? id) X { X with μ := fun i => (ids[i]?).bind X.μ } := by
    refine ⟨fun _ _ => rfl, fun _ h => h, fun id j l hj hl => ?_⟩
    have hget : ids[j]? = some id := by
      obtain ⟨h1, h2, _⟩ := List.idxOf?_eq_some_iff.1 hj
      rw [List.getElem?_eq_getElem h1, h2]
    show (ids[j]?).bind X.μ = some l
    rw [hget]
    exact hl
  refine ⟨⟨⟨hg.sim.env.inv, hg.sim.env.base, hg.sim.env.Mbd⟩, fun j o ho => ?_, fun j hj => ?_, fun i j oi oj li lj hi hj hli hlj hb => ?_, fun j o l ho hl => ?_, hg.sim.Ibd, hg.sim.IM⟩, fun k => ?_, fun id hid => ?_, ?_, ?_, ?_⟩
  · rcases h.s j with e | ⟨id, o', h1, h2, h3⟩
    · rw [e] at ho; cases ho
    · rw [h3] at ho
      simp only [Option.some.injEq] at ho
      subst ho
      obtain ⟨l, g1, ⟨cur, c1, c2, c3, c4, c5⟩, g3⟩ := hg.sim.objs id o' h2
      refine ⟨l, by simp [h1, g1], ⟨cur, c1, c2, c3, by simpa [renO, renL_eq_map] using c4, fun i d' hd' => ?_⟩, g3⟩
      simp only [renO, renL_eq_map, List.getElem?_map, Option.map_eq_some_iff] at hd'
      obtain ⟨d₀, hd₀, rfl⟩ := hd'
      obtain ⟨u, hu, hone, hv'⟩ := c5 i d₀ hd₀
      exact ⟨u, hu, hone, Vr_ren hR d₀ hv'⟩
  · rcases h.s j with e | ⟨id, o', h1, h2, h3⟩
    · exact e
    · obtain ⟨l, g1, _⟩ := hg.sim.objs id o' h2
      simp only [h1, Option.bind_some, g1] at hj
      cases hj
  · rcases h.s i with e | ⟨id, o', h1, h2, h3⟩
    · rw [e] at hi; cases hi
    rcases h.s j with e | ⟨id', o'', k1, k2, k3⟩
    · rw [e] at hj; cases hj
    simp only [h1, k1, Option.bind_some] at hli hlj
    have hid := hg.sim.inj id id' o' o'' li lj h2 k2 hli hlj hb
    subst hid
    obtain ⟨hi1, hi2⟩ := List.getElem?_eq_some_iff.1 h1
    obtain ⟨hj1, hj2⟩ := List.getElem?_eq_some_iff.1 k1
    exact (List.getElem_inj h.nodup).1 (hi2.trans hj2.symm)
  · rcases h.s j with e | ⟨id, o', h1, h2, h3⟩
    · rw [e] at ho; cases ho
    rw [h3] at ho
    simp only [Option.some.injEq] at ho
    subst ho
    simp only [h1, Option.bind_some] at hl
    exact hg.sim.notI id o' l h2 hl
  · rcases h.t k with e | e
    · rw [e]; exact Vr_ren hR _ (hg.tr k)
    · rw [e]; simp [Vr]
  · have := h.nx
    show (ids[id]?).bind X.μ = none
    rw [List.getElem?_eq_none (by omega)]; rfl
  · rw [h.ds]; exact hg.ds
  · rw [h.n]; exact hg.size
  · rw [h.ds]; exact hg.marks

theorem Less.live {E : Env} {X : Ctx} {st st' : St} {a : Act} {ids : List Nat} (_ : Good E X st a) (h : Less st ids st') {b : Nat} (hl : Live { X with μ := fun i => (ids[i]?).bind X.μ } st'.s b) : Live X st.s b := by
  obtain ⟨j, o, l, h1, h2, h3, rfl⟩ := hl
  rcases h.s j with e | ⟨id, o', g1, g2, g3⟩
  · rw [e] at h1; cases h1
  rw [g3] at h1
  simp only [Option.some.injEq] at h1
  subst h1
  simp only [g1, Option.bind_some] at h3
  exact ⟨id, o', l, g2, h2, h3, rfl⟩

/-- The first names stay. -/
def Pin (p : Nat) (ids : List Nat) : Prop := ∀ id, id < p → ids[id]? = some id
theorem Less.moved {p : Nat} {E : Env} {X : Ctx} {st st' : St} {a : Act} {ids : List Nat} (hg : Good E X st a) (h : Less st ids st') (hp : Pin p ids) : Moved p X st.s { X with μ := fun i => (ids[i]?).bind X.μ } st'.s :=
  ⟨fun _ e => e, Nat.le_refl _, fun _ _ _ _ => rfl, fun _ hl => .inr (h.live hg hl), fun _ e => .inl e, fun _ e => .inl e, fun id l hlt e => by show (ids[id]?).bind X.μ = some l; rw [hp id hlt]; exact e⟩

section
variable {P : Program} {ro : Option (Nat × Nat)} {st : St} {Q : Exit → St → Prop}

/-- 'Less', as many names as must staying as they are. -/
abbrev LessP (ro : Option (Nat × Nat)) (st : St) (ids : List Nat) (st' : St) : Prop := match ro with | none => Less st ids st' | some x => Less st ids st' ∧ Pin x.2 ids
theorem LessP.less {st' : St} {ids : List Nat} (h : LessP ro st ids st') : Less st ids st' ∧ Pin (pinOf ro) ids := by
  cases ro with
  | none => exact ⟨h, fun _ hlt => absurd hlt (Nat.not_lt_zero _)⟩
  | some x => exact h
theorem T_less {c : Code} {ids : List Nat} {st' : St} (hl' : LessP ro st ids st') (h : T P ro c st' Q) : T P ro c st Q := by
  intro E m X a hg
  obtain ⟨hl, hpin⟩ := hl'.less
  exact wpIn_mono (h E m { X with μ := fun i => (ids[i]?).bind X.μ } a (hg.less hl)) fun e _ _ hp => Post.trans (Y := { X with μ := fun i => (ids[i]?).bind X.μ }) (hl.moved hg hpin) hp

/-- What is reached, up to forgetting and names. -/
abbrev Up (ro : Option (Nat × Nat)) (Q : St → Prop) (st : St) : Prop := match ro with | none => ∃ ids st', Less st ids st' ∧ Q st' | some x => ∃ ids st', (Less st ids st' ∧ Pin x.2 ids) ∧ Q st'
theorem Up.less {Q : St → Prop} {st : St} (h : Up ro Q st) : ∃ ids st', Less st ids st' ∧ Pin (pinOf ro) ids ∧ Q st' := by
  cases ro with
  | none => obtain ⟨ids, s, h1, h2⟩ := h; exact ⟨ids, s, h1, fun _ hlt => absurd hlt (Nat.not_lt_zero _), h2⟩
  | some x => obtain ⟨ids, s, h1, h2⟩ := h; exact ⟨ids, s, h1.1, h1.2, h2⟩
theorem Post.up {E : Env} {X : Ctx} {Q : St → Prop} {a' : Act} {w' : World} (h : Post (pinOf ro) E X st (Up ro Q) a' w') : Post (pinOf ro) E X st Q a' w' := by
  obtain ⟨Y, s, rfl, hg, hm, hu⟩ := h
  obtain ⟨ids, s', hl, hpin, hq⟩ := Up.less hu
  exact ⟨{ Y with μ := fun i => (ids[i]?).bind Y.μ }, s', rfl, hg.less hl, hm.trans (hl.moved hg hpin), hq⟩
theorem T_up {c : Code} (h : T P ro c st fun e => Up ro (Q e)) : T P ro c st Q :=
  fun E m X a hg => wpIn_mono (h E m X a hg) fun _ _ _ hp => hp.up

/-- A written state, out of one that has so much. -/
theorem Less.of {st : St} {ids : List Nat} {l : List (Nat × D)} {os : List (Nat × O)} {nx : Nat} (ht : Has (fun k => ren (fun id => ids.idxOf? id) (st.t k)) l)
    (hs : HasO (fun j => ((ids[j]?).bind st.s).map (renO fun id => ids.idxOf? id)) os) (hn : ids.Nodup) (hnx : ids.length ≤ nx) : Less st ids ⟨tl l, ol os, nx, st.ds, st.n⟩ := by
  refine ⟨fun k => ht.at_ k, fun j => ?_, hn, hnx, rfl, rfl⟩
  rcases hs.at_ j with e | e
  · rw [show (⟨tl l, ol os, nx, st.ds, st.n⟩ : St).s j = ol os j from rfl, e]
    cases h1 : ids[j]? with
    | none => exact .inl rfl
    | some id =>
      cases h2 : st.s id with
      | none => left; simp [h2]
      | some o => exact .inr ⟨id, o, rfl, h2, by simp [h2]⟩
  · exact .inl e

/-- A loop, its states written out: 'mk', over what turns. -/
theorem T_loopV {c : Code} {ι : Type} (mk : ι → St) (Ok : ι → Prop) (μ : ι → Nat) (i₀ : ι) (ids₀ : List Nat) (h₀ : LessP ro st ids₀ (mk i₀)) (hi₀ : Ok i₀)
    (round : ∀ i, Ok i → T P ro c (mk i) (Exit.thenV (Up ro fun s' => ∃ j, Ok j ∧ μ j < μ i ∧ s' = mk j) Q)) : T P ro (.loop c) st Q := by
  refine T_less h₀ ?_
  intro E m X₀ a₀ hg₀ b k cs hro hb hr
  have key : ∀ (j : Nat) (i : ι) (X : Ctx) (a : Act), μ i = j → Good E X (mk i) a → Ok i → Moved (pinOf ro) X₀ (mk i₀).s X (mk i).s →
      ∃ e a' w', Post (pinOf ro) E X₀ (mk i₀) (Q e) a' w' ∧ ArrivesIn (Machine.fenced P (Fw (ro.map (·.1)))) P (lone (b.atR a (.code c :: .inLoop c :: k)) cs X.w) b k cs e a' w' := by
    intro j
    induction j using Nat.strongRecOn with
    | _ j ih =>
      intro i X a hn hg hI hst
      obtain ⟨e, a₁, w₁, hq, harr⟩ := round i hI E m X a hg b (.inLoop c :: k) cs hro hb hr
      cases e with
      | normal =>
        obtain ⟨Y, s', rfl, hg', k', i', hI', hlt, rfl⟩ := Post.up hq
        obtain ⟨e₂, a₂, w₂, hq₂, harr₂⟩ := ih (μ i') (hn ▸ hlt) i' Y a₁ rfl hg' hI' (hst.trans k')
        exact ⟨e₂, a₂, w₂, hq₂, .of_steps (StepsIn.trans harr (.one (fenced_calm hb hr rfl) stepR_inLoop)) harr₂⟩
      | exit id => exact ⟨_, a₁, w₁, Post.trans hst hq, .pass (x := .inLoop c) rfl (fun _ _ => .inl (by simp)) harr⟩
      | goto l => exact ⟨_, a₁, w₁, Post.trans hst hq, .pass (x := .inLoop c) rfl (fun _ _ => .inl (by simp)) harr⟩
      | ret => exact ⟨_, a₁, w₁, Post.trans hst hq, .pass (x := .inLoop c) rfl (fun _ _ => .inl (by simp)) harr⟩
      | panic ch => exact ⟨_, a₁, w₁, Post.trans hst hq, .pass (x := .inLoop c) rfl (fun _ _ => .inl (by simp)) harr⟩
      | outgrown => exact ⟨_, a₁, w₁, Post.trans hst hq, .pass (x := .inLoop c) rfl (fun _ _ => .inl (by simp)) harr⟩
  obtain ⟨e, a', w', hq, harr⟩ := key _ i₀ X₀ a₀ rfl hg₀ hi₀ (Moved.refl _ _)
  exact ⟨e, a', w', hq, .of_steps (.one (fenced_calm hb hr rfl) stepR_loop) harr⟩
end

end Go.Proofs.YtglnkfpmogaifaaGreatDoor.V

/-
  Rows of numbers; what loads, stores and addresses say at types of one cell.
-/
namespace Go.Proofs.YtglnkfpmogaifaaGreatDoor.V
open Go Go.RowKit

/-- A row of numbers of one kind. -/
def ints (k : IntKind) (xs : List Int) : List D := xs.map fun n => .sc (.int k n)
theorem ints_length (k : IntKind) (xs : List Int) : (ints k xs).length = xs.length := by simp [ints]
theorem ints_get {k : IntKind} {xs : List Int} {i : Nat} (h : i < xs.length) : (ints k xs)[i]? = some (.sc (.int k (xs.getD i 0))) := by
  simp [ints, List.getD_eq_getElem?_getD, h]
theorem ints_drop (k : IntKind) (xs : List Int) (n : Nat) : (ints k xs).drop n = ints k (xs.drop n) := by simp [ints]
theorem ints_take (k : IntKind) (xs : List Int) (n : Nat) : (ints k xs).take n = ints k (xs.take n) := by simp [ints]
theorem ints_append (k : IntKind) (xs ys : List Int) : ints k xs ++ ints k ys = ints k (xs ++ ys) := by simp [ints]
theorem ints_snoc (k : IntKind) (xs : List Int) (n : Int) : ints k xs ++ [.sc (.int k n)] = ints k (xs ++ [n]) := by simp [ints]
theorem ints_one (k : IntKind) (n : Int) : [.sc (.int k n)] = ints k [n] := rfl
theorem ints_nil (k : IntKind) : ints k [] = [] := rfl
theorem ints_splice {k : IntKind} {xs : List Int} {i : Nat} {n : Int} (h : i < xs.length) : splice (ints k xs) i [.sc (.int k n)] = ints k (xs.set i n) := by
  unfold splice ints
  rw [List.set_eq_take_append_cons_drop, if_pos h]
  simp
theorem ints_view (s : Sg) (m : Nat) (k : IntKind) (xs : List Int) : (ints k xs).map (view s (m + 1)) = ints k xs := view_sc s m (fun n => .int k n) xs
theorem ints_vids (s : Sg) (m : Nat) (k : IntKind) (xs : List Int) : (ints k xs).flatMap (vids s (m + 1)) = [] := vids_sc s m (fun n => .int k n) xs
theorem ints_closed (k : IntKind) (xs : List Int) : closedL (ints k xs) = true := closedL_sc (fun n => .int k n) xs
theorem ints_renL (θ : Nat → Option Nat) (k : IntKind) (xs : List Int) : renL θ (ints k xs) = ints k xs := renL_sc θ (fun n => .int k n) xs
theorem ints_ren (θ : Nat → Option Nat) (k : IntKind) (xs : List Int) : (ints k xs).map (ren θ) = ints k xs := by rw [← renL_eq_map, ints_renL]
theorem ints_all_one (k : IntKind) (xs : List Int) : (ints k xs).all one = true := by simp [ints, one, Value.oneCell']
theorem zrow_ints {P : Program} {e : TypeId} {k : IntKind} (h : zeroD P e = [.sc (.int k 0)]) (n : Nat) : zrow P e n = ints k (List.replicate n 0) := by
  unfold zrow ints
  rw [h]
  induction n with
  | zero => rfl
  | succ n ih => rw [List.replicate_succ, List.flatten_cons, ih, List.replicate_succ]; rfl

theorem wrap64 {n : Int} (h1 : -9223372036854775808 ≤ n) (h2 : n ≤ 9223372036854775807) : IntKind.i64.wrap n = n := by
  unfold IntKind.wrap
  simp only [IntKind.signed, IntKind.bits, Bool.true_and, decide_eq_true_eq, ge_iff_le, Nat.reduceSub, Int.reducePow]
  split <;> omega

section
variable {P : Program} {s : Sg} {t e : TypeId} {id off : Nat} {cs : List D}
theorem load_pt1 (hk : known P t = true) (ha : aggOf P t = false) (hz : szOf P t = 1) : vload P s t (.pt id off) = (s id).bind fun o => o.cells[off]? := by
  unfold vload vcellsAt
  simp only [hk, if_true]
  cases s id with
  | none => rfl
  | some o =>
    simp only [Option.map_some, Option.bind_some, cut, ha, hz, if_true, Bool.false_eq_true, if_false]
    split
    · rfl
    · rw [List.getElem?_eq_none (by omega)]
theorem load_sp1 (hk : known P t = true) (ha : aggOf P t = false) (hz : szOf P t = 1) : vload P s t (.sp cs off) = cs[off]? := by
  unfold vload vcellsAt
  simp only [hk, if_true, Option.bind_some, cut, ha, hz, Bool.false_eq_true, if_false]
  split
  · rfl
  · rw [List.getElem?_eq_none (by omega)]
theorem load_ptA {n : Nat} (hk : known P t = true) (ha : aggOf P t = true) (hz : szOf P t = n) : vload P s t (.pt id off) = (s id).bind fun o => if off + n ≤ o.cells.length then some (.ag ((o.cells.drop off).take n)) else none := by
  unfold vload vcellsAt
  simp only [hk, if_true]
  cases s id with
  | none => rfl
  | some o => simp only [Option.map_some, Option.bind_some, cut, ha, hz, if_true]
theorem load_spA {n : Nat} (hk : known P t = true) (ha : aggOf P t = true) (hz : szOf P t = n) : vload P s t (.sp cs off) = if off + n ≤ cs.length then some (.ag ((cs.drop off).take n)) else none := by
  unfold vload vcellsAt
  simp only [hk, if_true, Option.bind_some, cut, ha, hz]

theorem ia_rf {k : IntKind} {i : Int} {n es : Nat} (hu : P.underlying t = some (.slice e)) (hk : known P e = true) (hz : szOf P e = 1) (h0 : 0 ≤ i) (hn : i < n) : vindexAddr P t (.rf id off n es) (.sc (.int k i)) = some (.pt id (off + i.toNat)) := by
  unfold vindexAddr
  simp only [hu, hk, if_true, hz, Nat.mul_one, h0, hn, and_self]
theorem ia_sl {k : IntKind} {i : Int} {n : Nat} (hu : P.underlying t = some (.slice e)) (hk : known P e = true) (hz : szOf P e = 1) (h0 : 0 ≤ i) (hn : i < n) (hl : i.toNat < cs.length) : vindexAddr P t (.sl n cs) (.sc (.int k i)) = some (.sp cs i.toNat) := by
  unfold vindexAddr
  simp only [hu, hk, if_true, hz, Nat.mul_one, h0, hn, and_self, hl]
theorem ia_rfA {k : IntKind} {i : Int} {n es z : Nat} (hu : P.underlying t = some (.slice e)) (hk : known P e = true) (hz : szOf P e = z) (h0 : 0 ≤ i) (hn : i < n) : vindexAddr P t (.rf id off n es) (.sc (.int k i)) = some (.pt id (off + i.toNat * z)) := by
  unfold vindexAddr
  simp only [hu, hk, if_true, hz, h0, hn, and_self]
theorem ia_slA {k : IntKind} {i : Int} {n z : Nat} (hu : P.underlying t = some (.slice e)) (hk : known P e = true) (hz : szOf P e = z) (h0 : 0 ≤ i) (hn : i < n) (hl : i.toNat * z < cs.length) : vindexAddr P t (.sl n cs) (.sc (.int k i)) = some (.sp cs (i.toNat * z)) := by
  unfold vindexAddr
  simp only [hu, hk, if_true, hz, h0, hn, and_self, hl]
theorem ia_pt {k : IntKind} {i : Int} {n z : Nat} (hu : P.underlying t = some (.array n e)) (hk : known P e = true) (hz : szOf P e = z) (h0 : 0 ≤ i) (hn : i < n) : vindexAddr P t (.pt id off) (.sc (.int k i)) = some (.pt id (off + i.toNat * z)) := by
  unfold vindexAddr
  simp only [hu, hk, if_true, hz, h0, hn, and_self]
theorem ia_sp {k : IntKind} {i : Int} {n z : Nat} (hu : P.underlying t = some (.array n e)) (hk : known P e = true) (hz : szOf P e = z) (h0 : 0 ≤ i) (hn : i < n) : vindexAddr P t (.sp cs off) (.sc (.int k i)) = some (.sp cs (off + i.toNat * z)) := by
  unfold vindexAddr
  simp only [hu, hk, if_true, hz, h0, hn, and_self]
end

/-- A contract out of the body, its arguments written out. -/
theorem Con.of_body {P : Program} {f : FuncId} {fn : Func} {c : Code} {args : List D} {r : D} {os : List O} (l : List (Nat × D)) (hf : P.funcs[f]? = some fn) (hb : fn.body = some c) (hc : V.callable P f = true) (n : Nat) (hnt : fn.ntmps = n) (hn : args.length ≤ n)
    (hl : l = args.zipIdx.map fun p => (p.2, p.1)) (h : T P none c ⟨tl l, ol [], 0, [], n⟩ fun e st => (e = .normal ∨ e = .ret) ∧ ∃ ids, Fin P fn st ids r os) : Con P f args r os := by
  refine Con.of_T hf hb hc (by omega) ?_
  have e1 : ∀ (xs : List D) (k j : Nat), k ≤ j → tl (xs.zipIdx k |>.map fun p => (p.2, p.1)) j = xs.getD (j - k) .junk := by
    intro xs
    induction xs with
    | nil => intro k j _; rfl
    | cons a xs ih =>
      intro k j hkj
      simp only [List.zipIdx_cons, List.map_cons, tl_cons]
      split
      · rename_i e; subst e; simp
      · rw [ih (k + 1) j (by omega), show j - k = (j - (k + 1)) + 1 by omega]; rfl
  have e2 : tl l = initT args := by
    funext j
    rw [hl, e1 args 0 j (Nat.zero_le _)]; rfl
  have e3 : ol [] = fun _ => none := rfl
  rw [e2, e3, ← hnt] at h
  exact h

/-- One code after the other. -/
def R (P : Program) (ro : Option (Nat × Nat)) : List Code → St → (Exit → St → Prop) → Prop
  | [], st, Q => Q .normal st
  | c :: k, st, Q => T P ro c st (Exit.thenV (fun s => R P ro k s Q) Q)

section
variable {P : Program} {ro : Option (Nat × Nat)} {st : St} {Q : Exit → St → Prop} {k : List Code}
theorem T_of_R {c : Code} (h : R P ro [c] st Q) : T P ro c st Q := h.mono fun e s hq => by cases e <;> exact hq
theorem R_nil (h : Q .normal st) : R P ro [] st Q := h
theorem R_seq {x y : Code} (h : R P ro (x :: y :: k) st Q) : R P ro (.seq x y :: k) st Q := by
  refine T_seq (T.mono h fun e s hq => ?_)
  cases e <;> exact hq
theorem R_region {id : Nat} {l : List Oper} (h : vrun P l.toArray (fun s => R P ro k s Q) l st) : R P ro (.region id l.toArray false :: k) st Q := T_region h
theorem R_draw {id : Nat} {l : List Oper} (hP : P.follows .mixedOrders = true) (A : List Nat) (hA : (closedA A l 0 && apartAll l.toArray l A 0) = true)
    (h : vall P l.toArray (fun fs s => effAll fs A 0 = true ∧ R P ro k s Q) l st []) : R P ro (.region id l.toArray true :: k) st Q := T_draw hP A hA h
theorem R_drawA {id : Nat} {l : List Oper} (hP : P.follows .mixedOrders = true) (hA : (closedA (ancs l) l 0 && apartAll l.toArray l (ancs l) 0) = true)
    (h : vall P l.toArray (fun fs s => effAll fs (ancs l) 0 = true ∧ R P ro k s Q) l st []) : R P ro (.region id l.toArray true :: k) st Q := T_draw hP (ancs l) hA h
theorem R_skip (h : R P ro k st Q) : R P ro (.skip :: k) st Q := T_skip h
theorem R_label {l : Nat} (h : R P ro k st Q) : R P ro (.label l :: k) st Q := T_label h
theorem R_ret (h : Q .ret st) : R P ro (.ret :: k) st Q := T_ret h
theorem R_exit {id : Nat} (h : Q (.exit id) st) : R P ro (.exit id :: k) st Q := T_exit h
theorem R_goto {l : Nat} (h : Q (.goto l) st) : R P ro (.goto l :: k) st Q := T_goto h
theorem R_cond {c : Operand} {x y : Code} {b : Bool} (hc : ev st c = .sc (.bool b)) (ht : b = true → R P ro (x :: k) st Q) (hf : b = false → R P ro (y :: k) st Q) : R P ro (.cond c x y :: k) st Q :=
  T_cond hc ht hf
/-- How a block ends. -/
def blockQ (id : Nat) (K : St → Prop) (Q : Exit → St → Prop) : Exit → St → Prop
  | .normal, s => K s
  | .exit id', s => if id' = id then K s else Q (.exit id') s
  | e, s => Q e s
theorem R_block {id : Nat} {c : Code} (h : R P ro [c] st (blockQ id (fun s => R P ro k s Q) Q)) : R P ro (.block id c :: k) st Q := by
  refine T_block (T.mono h fun e s hq => ?_)
  cases e with
  | exit id' =>
    simp only [Exit.thenV, blockQ] at hq
    simp only [Exit.inBlockV, Exit.thenV]
    exact hq
  | _ => exact hq
theorem R_nilB {id : Nat} {K : St → Prop} (h : K st) : R P ro [] st (blockQ id K Q) := h
theorem R_exitB {id : Nat} {K : St → Prop} (h : K st) : R P ro (.exit id :: k) st (blockQ id K Q) := R_exit (by simp only [blockQ, ↓reduceIte]; exact h)
/-- How a loop's round ends. -/
def roundQ (I : St → Prop) (Q : Exit → St → Prop) : Exit → St → Prop
  | .normal, s => I s
  | e, s => Q e s
theorem R_loop {c : Code} {ι : Type} (mk : ι → St) (Ok : ι → Prop) (μ : ι → Nat) (i₀ : ι) (ids₀ : List Nat) (h₀ : LessP ro st ids₀ (mk i₀)) (hi₀ : Ok i₀)
    (round : ∀ i, Ok i → R P ro [c] (mk i) (roundQ (Up ro fun s' => ∃ j, Ok j ∧ μ j < μ i ∧ s' = mk j) Q)) : R P ro (.loop c :: k) st Q := by
  refine T_loopV mk Ok μ i₀ ids₀ h₀ hi₀ fun i hi => T.mono (T_of_R (round i hi)) fun e s hq => ?_
  cases e <;> exact hq
theorem R_exitR {id : Nat} {K I : St → Prop} (h : K st) : R P ro (.exit id :: k) st (roundQ I (blockQ id K Q)) := R_exit (by simp only [roundQ, blockQ, ↓reduceIte]; exact h)
theorem R_nilR {I : St → Prop} (h : I st) : R P ro [] st (roundQ I Q) := h
/-- 'ret' asks this of what stands behind it. -/
theorem R_retR {I : St → Prop} (h : Q .ret st) : R P ro (.ret :: k) st (roundQ I Q) := R_ret h
theorem R_retB {id : Nat} {K : St → Prop} (h : Q .ret st) : R P ro (.ret :: k) st (blockQ id K Q) := R_ret h
theorem R_retRB {id : Nat} {I K : St → Prop} (h : Q .ret st) : R P ro (.ret :: k) st (roundQ I (blockQ id K Q)) := R_ret h
theorem R_retBRB {id id' : Nat} {I K K' : St → Prop} (h : Q .ret st) : R P ro (.ret :: k) st (blockQ id' K' (roundQ I (blockQ id K Q))) := R_ret h
theorem R_less {ids : List Nat} {st' : St} (hl : LessP ro st ids st') (h : R P ro k st' Q) (hk : k ≠ []) : R P ro k st Q := by
  cases k with
  | nil => exact (hk rfl).elim
  | cons c k => exact T_less hl h
end

theorem R_sl {P : Program} {ro : Option (Nat × Nat)} {st : St} {Q : Exit → St → Prop} {c : Code} {k : List Code} (j : Nat) {n : Nat} {cs : List D} (hj : st.t j = .sl n cs) (h : n ≤ 9223372036854775807 → R P ro (c :: k) st Q) : R P ro (c :: k) st Q := by
  refine T_fact (p := n ≤ 9223372036854775807) (fun E X a hg => ?_) h
  have hv := hg.tr j
  rw [hj] at hv
  simp only [Vr] at hv
  exact hv.1
theorem R_rf {P : Program} {ro : Option (Nat × Nat)} {st : St} {Q : Exit → St → Prop} {c : Code} {k : List Code} (j : Nat) {id off n es : Nat} (hj : st.t j = .rf id off n es) (h : n ≤ 9223372036854775807 → R P ro (c :: k) st Q) : R P ro (c :: k) st Q := by
  refine T_fact (p := n ≤ 9223372036854775807) (fun E X a hg => ?_) h
  have hv := hg.tr j
  rw [hj] at hv
  simp only [Vr] at hv
  obtain ⟨l, cap, _, _, h1, h2, _⟩ := hv
  exact Nat.le_trans h1 h2
/-- The new name of an old one. -/
def ix (ids : List Nat) : Nat → Option Nat := fun id => ids.idxOf? id
theorem ix_nil (id : Nat) : ix [] id = none := rfl
theorem ix_cons (a : Nat) (l : List Nat) (id : Nat) : ix (a :: l) id = if id = a then some 0 else (ix l id).map (· + 1) := by
  unfold ix
  rw [List.idxOf?_cons]
  by_cases h : id = a
  · simp [h]
  · rw [if_neg h, if_neg (by simpa using fun e => h e.symm)]
def HasR (ids : List Nat) (st : St) : List (Nat × D) → Prop
  | [] => True
  | p :: l => ren (ix ids) (st.t p.1) = p.2 ∧ HasR ids st l
def HasS (ids : List Nat) (st : St) : List (Nat × O) → Prop
  | [] => True
  | p :: l => ((ids[p.1]?).bind st.s).map (renO (ix ids)) = some p.2 ∧ HasS ids st l
theorem HasR.has {ids : List Nat} {st : St} : ∀ {l : List (Nat × D)}, HasR ids st l → Has (fun k => ren (fun id => ids.idxOf? id) (st.t k)) l
  | [], _ => trivial
  | _ :: _, h => ⟨h.1, h.2.has⟩
theorem HasS.has {ids : List Nat} {st : St} : ∀ {l : List (Nat × O)}, HasS ids st l → HasO (fun j => ((ids[j]?).bind st.s).map (renO fun id => ids.idxOf? id)) l
  | [], _ => trivial
  | _ :: _, h => ⟨h.1, h.2.has⟩
/-- A written state, out of one that has so much. -/
theorem Less.mk' {st : St} {ids : List Nat} {l : List (Nat × D)} {os : List (Nat × O)} {nx : Nat} (ht : HasR ids st l) (hs : HasS ids st os) (hn : ids.Nodup) (hnx : ids.length ≤ nx) : Less st ids ⟨tl l, ol os, nx, st.ds, st.n⟩ :=
  Less.of ht.has hs.has hn hnx
theorem HasR_nil (ids : List Nat) (st : St) : HasR ids st [] ↔ True := Iff.rfl
theorem HasR_cons (ids : List Nat) (st : St) (k : Nat) (d : D) (l : List (Nat × D)) : HasR ids st ((k, d) :: l) ↔ ren (ix ids) (st.t k) = d ∧ HasR ids st l := Iff.rfl
theorem HasS_nil (ids : List Nat) (st : St) : HasS ids st [] ↔ True := Iff.rfl
theorem HasS_cons (ids : List Nat) (st : St) (k : Nat) (o : O) (l : List (Nat × O)) : HasS ids st ((k, o) :: l) ↔ ((ids[k]?).bind st.s).map (renO (ix ids)) = some o ∧ HasS ids st l := Iff.rfl
theorem ren_pt (θ : Nat → Option Nat) (id off : Nat) : ren θ (.pt id off) = match θ id with | some j => .pt j off | none => .junk := rfl
theorem ren_rf (θ : Nat → Option Nat) (id off n es : Nat) : ren θ (.rf id off n es) = match θ id with | some j => .rf j off n es | none => .junk := rfl
theorem ren_junk (θ : Nat → Option Nat) : ren θ .junk = .junk := rfl
theorem ren_sc (θ : Nat → Option Nat) (v : Value) : ren θ (.sc v) = .sc v := rfl
theorem ren_sl (θ : Nat → Option Nat) (n : Nat) (cs : List D) : ren θ (.sl n cs) = .sl n (renL θ cs) := rfl
theorem ren_em (θ : Nat → Option Nat) : ren θ .em = .em := rfl
theorem ren_ag (θ : Nat → Option Nat) (cs : List D) : ren θ (.ag cs) = .ag (renL θ cs) := rfl
theorem ren_tp (θ : Nat → Option Nat) (cs : List D) : ren θ (.tp cs) = .tp (renL θ cs) := rfl
theorem ren_sp (θ : Nat → Option Nat) (cs : List D) (off : Nat) : ren θ (.sp cs off) = .sp (renL θ cs) off := rfl
theorem ren_fn (θ : Nat → Option Nat) (f : Fn) (xs ys : List D) : ren θ (.fn f xs ys) = .fn f (renL θ xs) (renL θ ys) := rfl
theorem renL_nil (θ : Nat → Option Nat) : renL θ [] = [] := rfl
theorem renL_cons (θ : Nat → Option Nat) (d : D) (ds : List D) : renL θ (d :: ds) = ren θ d :: renL θ ds := rfl
theorem view_sc1 (s : Sg) (m : Nat) (v : Value) : view s (m + 1) (.sc v) = .sc v := rfl
theorem view_em (s : Sg) (m : Nat) : view s (m + 1) .em = .sl 0 [] := rfl
theorem view_sl (s : Sg) (m n : Nat) (cs : List D) : view s (m + 1) (.sl n cs) = .sl n (cs.map (view s m)) := rfl
theorem view_sp (s : Sg) (m n : Nat) (cs : List D) : view s (m + 1) (.sp cs n) = .sp (cs.map (view s m)) n := rfl
theorem view_ag (s : Sg) (m : Nat) (cs : List D) : view s (m + 1) (.ag cs) = .ag (cs.map (view s m)) := rfl
theorem view_tp (s : Sg) (m : Nat) (cs : List D) : view s (m + 1) (.tp cs) = .tp (cs.map (view s m)) := rfl
theorem view_fn (s : Sg) (m : Nat) (f : Fn) (a b : List D) : view s (m + 1) (.fn f a b) = .fn f (a.map (view s m)) (b.map (view s m)) := rfl
theorem view_rf (s : Sg) (m id off len es : Nat) : view s (m + 1) (.rf id off len es) = match s id with
    | some o => if off + len * es ≤ o.cells.length then .sl len (((o.cells.drop off).take (len * es)).map (view s m)) else .junk
    | none => .junk := rfl
theorem view_pt (s : Sg) (m id off : Nat) : view s (m + 1) (.pt id off) = match s id with
    | some o => .sp (o.cells.map (view s m)) off
    | none => .junk := rfl
theorem vids_sc1 (s : Sg) (m : Nat) (v : Value) : vids s (m + 1) (.sc v) = [] := rfl
theorem vids_em (s : Sg) (m : Nat) : vids s (m + 1) .em = [] := rfl
theorem vids_sl (s : Sg) (m n : Nat) (cs : List D) : vids s (m + 1) (.sl n cs) = cs.flatMap (vids s m) := rfl
theorem vids_sp (s : Sg) (m n : Nat) (cs : List D) : vids s (m + 1) (.sp cs n) = cs.flatMap (vids s m) := rfl
theorem vids_ag (s : Sg) (m : Nat) (cs : List D) : vids s (m + 1) (.ag cs) = cs.flatMap (vids s m) := rfl
theorem vids_tp (s : Sg) (m : Nat) (cs : List D) : vids s (m + 1) (.tp cs) = cs.flatMap (vids s m) := rfl
theorem vids_fn (s : Sg) (m : Nat) (f : Fn) (a b : List D) : vids s (m + 1) (.fn f a b) = a.flatMap (vids s m) ++ b.flatMap (vids s m) := rfl
theorem vids_rf (s : Sg) (m id off len es : Nat) : vids s (m + 1) (.rf id off len es) = id :: (match s id with | some o => o.cells.flatMap (vids s m) | none => []) := rfl
theorem vids_pt (s : Sg) (m id off : Nat) : vids s (m + 1) (.pt id off) = id :: (match s id with | some o => o.cells.flatMap (vids s m) | none => []) := rfl
theorem flatMap_nil' (f : D → List Nat) : ([] : List D).flatMap f = [] := rfl
theorem flatMap_cons' (f : D → List Nat) (d : D) (l : List D) : (d :: l).flatMap f = f d ++ l.flatMap f := rfl
theorem closed_sc (v : Value) : closed (.sc v) = true := rfl
theorem closed_em : closed .em = true := rfl
theorem closed_rf (id off n es : Nat) : closed (.rf id off n es) = true := rfl
theorem closed_pt (id off : Nat) : closed (.pt id off) = true := rfl
theorem closed_ag (cs : List D) : closed (.ag cs) = closedL cs := rfl
theorem closed_tp (cs : List D) : closed (.tp cs) = closedL cs := rfl
theorem closedL_nil : closedL [] = true := rfl
theorem closedL_cons (d : D) (ds : List D) : closedL (d :: ds) = (closed d && closedL ds) := rfl

/-- The end of a function. -/
def FinO (θ : Nat → Option Nat) (st : St) : List Nat → List O → Prop
  | [], [] => True
  | id :: ids, o :: os => ((st.s id).bind fun o' => if o'.fz = false then some (renO θ o') else none) = some o ∧ FinO θ st ids os
  | _, _ => False
theorem FinO_nil (θ : Nat → Option Nat) (st : St) : FinO θ st [] [] ↔ True := Iff.rfl
theorem FinO_cons (θ : Nat → Option Nat) (st : St) (id : Nat) (ids : List Nat) (o : O) (os : List O) : FinO θ st (id :: ids) (o :: os) ↔ ((st.s id).bind fun o' => if o'.fz = false then some (renO θ o') else none) = some o ∧ FinO θ st ids os := Iff.rfl
theorem FinO.spec {θ : Nat → Option Nat} {st : St} : ∀ {ids : List Nat} {os : List O}, FinO θ st ids os → os.length = ids.length ∧ ∀ (i id : Nat), ids[i]? = some id → ∃ o : O, st.s id = some o ∧ o.fz = false ∧ os[i]? = some (renO θ o)
  | [], [], _ => ⟨rfl, fun _ _ h => by simp at h⟩
  | id :: ids, o :: os, h => by
    obtain ⟨h1, h2⟩ := h
    obtain ⟨h3, h4⟩ := h2.spec
    simp only [Option.bind_eq_some_iff] at h1
    obtain ⟨o', h5, h6⟩ := h1
    split at h6
    · rename_i hz
      simp only [Option.some.injEq] at h6
      refine ⟨by simp [h3], fun i j hj => ?_⟩
      cases i with
      | zero =>
        simp only [List.getElem?_cons_zero, Option.some.injEq] at hj; subst hj
        exact ⟨o', h5, hz, by simp [h6]⟩
      | succ i => simpa using h4 i j (by simpa using hj)
    · cases h6
  | [], _ :: _, h => h.elim
  | _ :: _, [], h => h.elim
theorem fin_of {P : Program} {fn : Func} {st : St} {ids : List Nat} {r d : D} {os : List O} (hd : resV P st fn.results.toList = some d) (hr : ren (ix ids) d = r) (hn : ids.Nodup) (ho : FinO (ix ids) st ids os) :
    (Exit.ret = .normal ∨ Exit.ret = .ret) ∧ ∃ ids, Fin P fn st ids r os :=
  ⟨.inr rfl, ids, ⟨d, hd, hr⟩, ho.spec.1, hn, ho.spec.2⟩
theorem fin_n {P : Program} {fn : Func} {st : St} {ids : List Nat} {r d : D} {os : List O} (hd : resV P st fn.results.toList = some d) (hr : ren (ix ids) d = r) (hn : ids.Nodup) (ho : FinO (ix ids) st ids os) :
    (Exit.normal = .normal ∨ Exit.normal = .ret) ∧ ∃ ids, Fin P fn st ids r os :=
  ⟨.inl rfl, ids, ⟨d, hd, hr⟩, ho.spec.1, hn, ho.spec.2⟩
theorem resVs_nil (P : Program) (st : St) : resVs P st [] = some [] := rfl
theorem resVs_cons (P : Program) (st : St) (r : ResultVar) (rs : List ResultVar) : resVs P st (r :: rs) = (resV1 P st r).bind fun d => (resVs P st rs).map (d :: ·) := rfl
attribute [go_sem] view_sc1 view_em view_sl view_sp view_ag view_tp view_fn view_rf view_pt vids_sc1 vids_em vids_sl vids_sp vids_ag vids_tp vids_fn vids_rf vids_pt flatMap_nil' flatMap_cons' closed_sc closed_em closed_rf closed_pt closed_ag closed_tp closedL_nil closedL_cons ints_view ints_vids ints_closed resVs_nil shift news Sg.app_cons Sg.app_nil List.zipIdx_cons List.zipIdx_nil List.all_cons List.all_nil
attribute [go_sem] Int.natCast_add Int.natCast_one Int.cast_ofNat_Int Int.natCast_zero List.take_zero ren_sc ren_sl ren_em ren_ag ren_tp ren_sp ren_fn renL_nil renL_cons ints_renL ints_ren renO ren_pt ren_rf ren_junk ix_nil ix_cons List.nodup_nil List.length_nil

/-! ### looked up from the outside in -/
section
variable {P : Program} {st : St}
@[go_sem ↓] theorem v_move (x : Operand) : valOf P st (.move x) = some (ev st x, []) := rfl
@[go_sem ↓] theorem v_assign (x : Operand) : valOf P st (.assign x) = some (ev st x, []) := rfl
@[go_sem ↓] theorem v_pick (c a b : Operand) : valOf P st (.pick c a b) = (vpick (ev st c) (ev st a) (ev st b)).map (·, []) := rfl
@[go_sem ↓] theorem v_build (t : TypeId) (ps : Array (Nat × Operand)) : valOf P st (.build t ps) = (vbuild P t (vparts (ev st) ps.toList)).map (·, []) := rfl
@[go_sem ↓] theorem v_load (t : TypeId) (x : Operand) : valOf P st (.load t x) = (vload P st.s t (ev st x)).map (·, idsOf (ev st x)) := rfl
@[go_sem ↓] theorem v_nil (x : Operand) : valOf P st (.nilCheck x) = (vnilCheck (ev st x)).map (·, []) := rfl
@[go_sem ↓] theorem v_bin (op : BinOp) (t : TypeId) (x y : Operand) (yt : TypeId) : valOf P st (.binOp op t x y yt) = (vcmp P op t (ev st x) (ev st y) y).map (·, []) := rfl
@[go_sem ↓] theorem v_un (op : UnOp) (t : TypeId) (x : Operand) : valOf P st (.unOp op t x) = (vunOp op (ev st x)).map (·, []) := rfl
@[go_sem ↓] theorem v_conv (s t : TypeId) (x : Operand) : valOf P st (.convert s t x) = vconv P st.s s t (ev st x) := rfl
@[go_sem ↓] theorem v_func (f : Fn) (a b : Array Operand) : valOf P st (.makeFunc f a b) = some (.fn f (a.toList.map (ev st)) (b.toList.map (ev st)), []) := rfl
@[go_sem ↓] theorem v_slice (t : TypeId) (x : Operand) (lo hi mx : Option Operand) : valOf P st (.slice t x lo hi mx) = (vslice P st.s t (ev st x) (lo.map (ev st)) (hi.map (ev st)) (mx.map (ev st))).map (·, idsOf (ev st x)) := rfl
@[go_sem ↓] theorem v_fa (t : TypeId) (x : Operand) (f : Nat) : valOf P st (.fieldAddr t x f) = (vfieldAddr P t (ev st x) f).map (·, []) := rfl
@[go_sem ↓] theorem v_fl (t : TypeId) (x : Operand) (f : Nat) : valOf P st (.field t x f) = (vfield P t (ev st x) f).map (·, []) := rfl
@[go_sem ↓] theorem v_ia (t : TypeId) (x i : Operand) : valOf P st (.indexAddr t x i) = (vindexAddr P t (ev st x) (ev st i)).map (·, []) := rfl
@[go_sem ↓] theorem v_ix (t : TypeId) (x i : Operand) : valOf P st (.index t x i) = (vindex P t (ev st x) (ev st i)).map (·, []) := rfl
@[go_sem ↓] theorem v_ex (x : Operand) (i : Nat) : valOf P st (.extract x i) = (vextract (ev st x) i).map (·, []) := rfl
@[go_sem ↓] theorem v_len (x : Operand) (t : TypeId) : valOf P st (.call ⟨.builtin .len, #[x], #[t]⟩) = (vlen P t (ev st x)).map (·, []) := rfl
@[go_sem ↓] theorem v_max (x : Operand) (r : List Operand) (ts : Array TypeId) : valOf P st (.call ⟨.builtin .max, ⟨x :: r⟩, ts⟩) = (vfold vmax2 (ev st x) (r.map (ev st))).map (·, []) := rfl
@[go_sem ↓] theorem v_min (x : Operand) (r : List Operand) (ts : Array TypeId) : valOf P st (.call ⟨.builtin .min, ⟨x :: r⟩, ts⟩) = (vfold vmin2 (ev st x) (r.map (ev st))).map (·, []) := rfl
@[go_sem ↓] theorem n_alloc (e : TypeId) : newOf P st (.alloc e) = if zok P e = true then some (.pt st.nx 0, ⟨zeroD P e, e, 0, false⟩) else none := rfl
@[go_sem ↓] theorem n_box (e : TypeId) (x : Operand) : newOf P st (.box e x) = (vcells (ev st x)).map fun cs => (.pt st.nx 0, ⟨cs, e, 0, false⟩) := rfl
@[go_sem ↓] theorem n_bs (t : TypeId) (n : Nat) (ps : Array (Nat × Operand)) : newOf P st (.buildSlice t n ps) = match P.underlying t with
    | some (.slice e) => (vbuildSlice P e n (vparts (ev st) ps.toList)).map fun cs => (.rf st.nx 0 n (szOf P e), ⟨cs, e, szOf P e, false⟩)
    | _ => none := rfl
@[go_sem ↓] theorem n_mk (t : TypeId) (l c : Operand) : newOf P st (.makeSlice t l c) = match P.underlying t, ev st l, ev st c with
    | some (.slice e), .sc (.int _ l'), .sc (.int _ c') =>
      if (known P e && zok P e && szOf P e != 0) = true then
        (if 0 ≤ l' ∧ l' ≤ c' ∧ (bytesOf P e : Int) * c' ≤ 281474976710656 ∧ c' ≤ maxLen then some (.rf st.nx 0 l'.toNat (szOf P e), ⟨zrow P e l'.toNat, e, szOf P e, false⟩) else none)
      else none
    | _, _, _ => none := rfl
@[go_sem ↓] theorem s_store (t : TypeId) (x y : Operand) : stOf P st (.store t x y) = match ev st x with
    | .pt id off => (st.s id).bind fun ob => (vcells (ev st y)).bind fun cs =>
      if known P t = true ∧ ob.fz = false ∧ cs.length = szOf P t ∧ off + cs.length ≤ ob.cells.length then some (id, ⟨splice ob.cells off cs, ob.elem, ob.es, false⟩) else none
    | _ => none := rfl
@[go_sem ↓] theorem a_copy (x y : Operand) (t u : TypeId) : apOf P st (.call ⟨.builtin .copy, #[x, y], #[t, u]⟩) = vcopy P st.s t (ev st x) (ev st y) := rfl
@[go_sem ↓] theorem a_app (x y : Operand) (t u : TypeId) : apOf P st (.call ⟨.builtin .append, #[x, y], #[t, u]⟩) = vappend P st.s st.nx t (ev st x) (ev st y) := rfl
end
@[go_sem ↓] theorem ev_tmp' (t : Nat → D) (s : Sg) (nx : Nat) (ds : List Deferred) (n k : Nat) : ev ⟨t, s, nx, ds, n⟩ (.tmp k) = t k := rfl
@[go_sem ↓] theorem ev_const' (st : St) (v : Value) : ev st (.const v) = ofV v := rfl
@[go_sem ↓] theorem ev_func' (st : St) (f : FuncId) : ev st (.func f) = .fn (.func f) [] [] := rfl
@[go_sem ↓] theorem upd_at' {α : Type} (f : Nat → α) (k : Nat) (v : α) (j : Nat) : upd f k v j = if j = k then v else f j := rfl
@[go_sem ↓] theorem tl_cons' (j : Nat) (d : D) (l : List (Nat × D)) (k : Nat) : tl ((j, d) :: l) k = if k = j then d else tl l k := rfl
@[go_sem ↓] theorem ol_cons' (j : Nat) (o : O) (l : List (Nat × O)) (k : Nat) : ol ((j, o) :: l) k = if k = j then some o else ol l k := rfl
@[go_sem ↓] theorem HasR_nil' (ids : List Nat) (st : St) : HasR ids st [] ↔ True := Iff.rfl
@[go_sem ↓] theorem HasR_cons' (ids : List Nat) (t : Nat → D) (s : Sg) (nx : Nat) (ds : List Deferred) (n k : Nat) (d : D) (l : List (Nat × D)) : HasR ids ⟨t, s, nx, ds, n⟩ ((k, d) :: l) ↔ ren (ix ids) (t k) = d ∧ HasR ids ⟨t, s, nx, ds, n⟩ l := Iff.rfl
@[go_sem ↓] theorem HasS_nil' (ids : List Nat) (st : St) : HasS ids st [] ↔ True := Iff.rfl
@[go_sem ↓] theorem HasS_cons' (ids : List Nat) (t : Nat → D) (s : Sg) (nx : Nat) (ds : List Deferred) (n k : Nat) (o : O) (l : List (Nat × O)) : HasS ids ⟨t, s, nx, ds, n⟩ ((k, o) :: l) ↔ ((ids[k]?).bind s).map (renO (ix ids)) = some o ∧ HasS ids ⟨t, s, nx, ds, n⟩ l := Iff.rfl
@[go_sem ↓] theorem FinO_nil' (θ : Nat → Option Nat) (st : St) : FinO θ st [] [] ↔ True := Iff.rfl
@[go_sem ↓] theorem FinO_cons' (θ : Nat → Option Nat) (t : Nat → D) (s : Sg) (nx : Nat) (ds : List Deferred) (n id : Nat) (ids : List Nat) (o : O) (os : List O) : FinO θ ⟨t, s, nx, ds, n⟩ (id :: ids) (o :: os) ↔ ((s id).bind fun o' => if o'.fz = false then some (renO θ o') else none) = some o ∧ FinO θ ⟨t, s, nx, ds, n⟩ ids os := Iff.rfl
@[go_sem ↓] theorem resV' (P : Program) (st : St) (rs : List ResultVar) : resV P st rs = (resVs P st rs).map fun ds => match ds with | [d] => d | ds => .tp ds := rfl
@[go_sem ↓] theorem resVs_cons' (P : Program) (st : St) (r : ResultVar) (rs : List ResultVar) : resVs P st (r :: rs) = (resV1 P st r).bind fun d => (resVs P st rs).map (d :: ·) := rfl
@[go_sem ↓] theorem resV1_tmp (P : Program) (t : Nat → D) (s : Sg) (nx : Nat) (ds : List Deferred) (n k : Nat) : resV1 P ⟨t, s, nx, ds, n⟩ (.tmp k) = some (t k) := rfl
@[go_sem ↓] theorem resV1_cell (P : Program) (t : Nat → D) (s : Sg) (nx : Nat) (ds : List Deferred) (n a : Nat) (ty : TypeId) : resV1 P ⟨t, s, nx, ds, n⟩ (.cell a ty) = match t a with | .pt id off => vload P s ty (.pt id off) | _ => none := rfl

theorem splice_nil (cs : List D) : splice cs 0 [] = cs := by simp [splice]
theorem splice_cons (x : D) (xs : List D) (n : Nat) (new : List D) : splice (x :: xs) (n + 1) new = x :: splice xs n new := by
  unfold splice
  rw [List.take_succ_cons, show n + 1 + new.length = (n + new.length) + 1 by omega, List.drop_succ_cons]
  rfl
theorem splice_zero (x : D) (xs : List D) (y : D) (ys : List D) : splice (x :: xs) 0 (y :: ys) = y :: splice xs 0 ys := by
  unfold splice
  simp [Nat.add_comm 1]
theorem splice_all {cs new : List D} (h : cs.length ≤ new.length) : splice cs 0 new = new := by
  unfold splice
  rw [List.drop_eq_nil_of_le (by omega)]
  simp
theorem ints_cons (k : IntKind) (x : Int) (xs : List Int) : ints k (x :: xs) = .sc (.int k x) :: ints k xs := rfl
theorem vcmp_int (P : Program) (op : BinOp) (t : TypeId) (k k' : IntKind) (a b : Int) (yo : Operand) (h : vnil P op t (.sc (.int k a)) yo = none) : vcmp P op t (.sc (.int k a)) (.sc (.int k' b)) yo = vbin P op t (.sc (.int k a)) (.sc (.int k' b)) := by
  unfold vcmp
  rw [h]
  rfl
theorem vnil_int (P : Program) (op : BinOp) (t : TypeId) (k : IntKind) (a : Int) (yo : Operand) : vnil P op t (.sc (.int k a)) yo = none := by
  unfold vnil
  split
  · split
    · cases op <;> rfl
    · rfl
  · rfl
theorem vnil_str (P : Program) (op : BinOp) (t : TypeId) (a : ByteArray) (yo : Operand) : vnil P op t (.sc (.string a)) yo = none := by
  unfold vnil
  split
  · split
    · cases op <;> rfl
    · rfl
  · rfl
theorem vnil_bool (P : Program) (op : BinOp) (t : TypeId) (a : Bool) (yo : Operand) : vnil P op t (.sc (.bool a)) yo = none := by
  unfold vnil
  split
  · split
    · cases op <;> rfl
    · rfl
  · rfl
theorem vnil_ag (P : Program) (op : BinOp) (t : TypeId) (a : List D) (yo : Operand) : vnil P op t (.ag a) yo = none := by
  unfold vnil
  split
  · split
    · cases op <;> rfl
    · rfl
  · rfl
@[go_sem] theorem vcmp_i (P : Program) (op : BinOp) (t : TypeId) (k k' : IntKind) (a b : Int) (yo : Operand) : vcmp P op t (.sc (.int k a)) (.sc (.int k' b)) yo = vbin P op t (.sc (.int k a)) (.sc (.int k' b)) := vcmp_int P op t k k' a b yo (vnil_int P op t k a yo)
@[go_sem] theorem vcmp_s (P : Program) (op : BinOp) (t : TypeId) (a b : ByteArray) (yo : Operand) : vcmp P op t (.sc (.string a)) (.sc (.string b)) yo = vbin P op t (.sc (.string a)) (.sc (.string b)) := by
  unfold vcmp
  rw [vnil_str]
  rfl
@[go_sem] theorem vcmp_b (P : Program) (op : BinOp) (t : TypeId) (a b : Bool) (yo : Operand) : vcmp P op t (.sc (.bool a)) (.sc (.bool b)) yo = vbin P op t (.sc (.bool a)) (.sc (.bool b)) := by
  unfold vcmp
  rw [vnil_bool]
  rfl
theorem asInts_ints (k : IntKind) : ∀ xs : List Int, asInts k (ints k xs) = some xs
  | [] => rfl
  | x :: xs => by
    show asInts k (.sc (.int k x) :: ints k xs) = _
    simp only [asInts, if_true, asInts_ints k xs, Option.map_some]
/-- Two arrays of numbers. -/
theorem vcmp_A {P : Program} {t e : TypeId} {n : Nat} {k : IntKind} (hu : P.underlying t = some (.array n e)) (he : P.underlying e = some (.int k)) (hg : P.eqGuardType P.depth t = false) (hk : known P e = true) (ha : aggOf P e = false) (hz : szOf P e = 1) (yo : Operand)
    {xs ys : List Int} (hx : xs.length = n) (hy : ys.length = n) : vcmp P .eql t (.ag (ints k xs)) (.ag (ints k ys)) yo = some (.sc (.bool (decide (xs = ys)))) ∧ vcmp P .neq t (.ag (ints k xs)) (.ag (ints k ys)) yo = some (.sc (.bool !(decide (xs = ys)))) := by
  unfold vcmp
  rw [vnil_ag, vnil_ag]
  simp only [veqA, hu, he, hg, hk, ha, hz, ints_length, hx, hy, and_self, if_true, asInts_ints, Option.bind_some]
/-- Beside nil. -/
theorem vcmp_nil_sc {P : Program} {t e : TypeId} (hu : P.underlying t = some (.slice e)) (a : Option Addr) (l c : Nat) (y : D) : vcmp P .eql t (.sc (.slice a l c)) y (.const (.slice none 0 0)) = some (.sc (.bool a.isNone)) ∧ vcmp P .neq t (.sc (.slice a l c)) y (.const (.slice none 0 0)) = some (.sc (.bool !a.isNone)) := by
  simp only [vcmp, vnil, hu, and_self]
theorem vcmp_nil_rf {P : Program} {t e : TypeId} (hu : P.underlying t = some (.slice e)) (id off n es : Nat) (y : D) : vcmp P .eql t (.rf id off n es) y (.const (.slice none 0 0)) = some (.sc (.bool false)) ∧ vcmp P .neq t (.rf id off n es) y (.const (.slice none 0 0)) = some (.sc (.bool true)) := by
  simp only [vcmp, vnil, hu, and_self]
theorem vcmp_nil_sl {P : Program} {t e : TypeId} (hu : P.underlying t = some (.slice e)) {n : Nat} {cs : List D} (hn : n ≠ 0) (hc : cs ≠ []) (y : D) : vcmp P .eql t (.sl n cs) y (.const (.slice none 0 0)) = some (.sc (.bool false)) ∧ vcmp P .neq t (.sl n cs) y (.const (.slice none 0 0)) = some (.sc (.bool true)) := by
  obtain ⟨m, rfl⟩ : ∃ m, n = m + 1 := ⟨n - 1, by omega⟩
  obtain ⟨c, r, rfl⟩ : ∃ c r, cs = c :: r := by cases cs with | nil => exact (hc rfl).elim | cons c r => exact ⟨c, r, rfl⟩
  simp only [vcmp, vnil, hu, and_self]
attribute [go_sem] List.length_take List.length_drop List.length_append List.length_set List.length_replicate List.take_of_length_le ints_nil List.replicate_zero maxLen splice_nil splice_cons splice_zero splice_all

/-! ### what steps look up -/
attribute [go_sem] ev_func tl_nil ol_nil ofV ofV1 vparts List.map_cons List.map_nil Option.map_some Option.map_none Option.bind_some Option.bind_none vpick_or vpick_and vpick_t vpick_f gd_rfl vlen vbin isShift ibin vunOp vconvert vconv vtext asInts vcopy vextract vnilCheck vfold vmax2 vmin2 vcells one Value.oneCell' idsOf List.all_cons List.all_nil vslice vbound vappend vsrc vbuild vbuildSlice vfill Bool.false_eq_true Bool.true_eq_false Bool.and_true Bool.true_and Bool.and_self Bool.not_true Bool.not_false Nat.zero_add Nat.add_zero Nat.mul_one Int.toNat_natCast List.length_cons List.length_nil List.getElem?_cons_zero List.getElem?_cons_succ List.take_succ_cons List.take_zero List.take_nil List.drop_succ_cons List.drop_zero List.drop_nil List.cons_append List.nil_append List.append_nil and_self and_true true_and bne_self_eq_false gd_pos wrap64 load_pt1 load_sp1 load_ptA load_spA ia_rf ia_sl ia_rfA ia_slA ia_pt ia_sp ints_length ints_get ints_drop ints_take ints_append ints_snoc ints_splice ints_all_one

end Go.Proofs.YtglnkfpmogaifaaGreatDoor.V

/-
  A contract whose objects are frozen; calls whose arguments hold no names.
-/
namespace Go.Proofs.YtglnkfpmogaifaaGreatDoor.V
open Go Go.RowKit

/-- The result as data: its objects are nobody's any more. -/
theorem Con.frozen {P : Program} {f : FuncId} {args : List D} {r : D} {os : List O} (n : Nat) (h : Con P f args r os) : Con P f args (view (fun i => os[i]?) n r) [] := by
  refine ⟨h.callable, fun I w vs hgl hI hl => (h.calls I w vs hgl hI hl).mono ?_⟩
  rintro e w' ⟨v, Y, rfl, rfl, hp⟩
  let J : Nat → Prop := fun b => ∃ i o l, os[i]? = some o ∧ Y.μ i = some l ∧ l.blk = b
  refine ⟨v, bare Y J, rfl, rfl, ?_, hp.below, ?_, ?_, fun b hb => .inl (hp.Iold b hb), fun i o hi => by simp at hi, fun i j li lj hi => by simp at hi⟩
  · refine view_ok' (fun id o ho => ?_) n r v (fun id _ o l ho hl => ⟨id, o, l, ho, hl, rfl⟩) hp.val
    obtain ⟨_, l, h1, h2, _⟩ := hp.objs id o ho
    exact ⟨l, h1, h2⟩
  · rintro b (hb | ⟨i, o, l, h1, h2, rfl⟩)
    · exact hp.Ibd b hb
    · obtain ⟨_, l', h3, ⟨cur, h4, _⟩, _⟩ := hp.objs i o h1
      rw [h2] at h3; cases h3
      exact (Array.getElem?_eq_some_iff.1 h4).1
  · rintro b (hb | ⟨i, o, l, h1, h2, rfl⟩)
    · exact hp.Inew b hb
    · obtain ⟨_, l', h3, _, h4, _⟩ := hp.objs i o h1
      rw [h2] at h3; cases h3
      exact .inr h4

/-- An empty slice, as what it is. -/
theorem Con.of_empty {P : Program} {f : FuncId} {r : D} {os : List O} (h : ∀ a c, Con P f [.sc (.slice a 0 c)] r os) : Con P f [.sl 0 []] r os := by
  refine ⟨(h none 0).callable, fun I w vs hgl hI hl => ?_⟩
  have hl' := hl
  simp only [Lr, Vr] at hl
  obtain ⟨v, r', rfl, ⟨_, a, c, rfl, _⟩, rfl⟩ := hl
  exact (h a c).calls I w _ hgl hI (by simp [Lr, Vr])

section
variable {P : Program} {ops : Array Oper} {Q : St → Prop} {K : List Fx → St → Prop} {acc : List Fx} {rest : List Oper} {t : Nat → D} {s : Sg} {nx n : Nat} {ds : List Deferred} {ty : TypeId} {pos : String} {after : Array Edge} {k : Tmp}

theorem callEff_free {s : Sg} {nm : Nat} {all : List D} {r : D} {os : List O} (h : all.flatMap (vids s 5) = []) : callEff s nm all r os = ⟨ren (shift nm os.length) r, news nm os, [], os.length⟩ := by
  unfold callEff
  rw [h]
  split <;> simp
theorem vs_callf {x : Operand} {args : Array Operand} {ats : Array TypeId} {g : FuncId} {first caps : List D} {all : List D} {r r' : D} (hc : Con P g all r []) (hx : ev ⟨t, s, nx, ds, n⟩ x = .fn (.func g) first caps)
    (ha : (first ++ args.toList.map (ev ⟨t, s, nx, ds, n⟩) ++ caps).map (view s 5) = all) (hcl : (first ++ args.toList.map (ev ⟨t, s, nx, ds, n⟩) ++ caps).flatMap (vids s 5) = []) (hf : k < n)
    (hr : ren (shift nx 0) r = r') (hk : vrun P ops Q rest ⟨upd t k r', s, nx, ds, n⟩) :
    vrun P ops Q (⟨some k, .call ⟨.value x, args, ats⟩, ty, pos, after, none⟩ :: rest) ⟨t, s, nx, ds, n⟩ := by
  subst hr
  exact ⟨true, rfl, fun _ e => by cases e; exact hf, fun _ => .inl ⟨g, first, caps, hx, r, [], by rw [ha]; exact hc, by rw [callEff_free hcl]; exact hk⟩, fun e => by cases e⟩
theorem va_callf {x : Operand} {args : Array Operand} {ats : Array TypeId} {g : FuncId} {first caps : List D} {all : List D} {r r' : D} (hc : Con P g all r []) (hx : ev ⟨t, s, nx, ds, n⟩ x = .fn (.func g) first caps)
    (ha : (first ++ args.toList.map (ev ⟨t, s, nx, ds, n⟩) ++ caps).map (view s 5) = all) (hcl : (first ++ args.toList.map (ev ⟨t, s, nx, ds, n⟩) ++ caps).flatMap (vids s 5) = []) (hf : k < n)
    (hr : ren (shift nx 0) r = r') (hk : vall P ops K rest ⟨upd t k r', s, nx, ds, n⟩ (acc ++ [⟨some k, ⟨r', [], [], 0⟩⟩])) :
    vall P ops K (⟨some k, .call ⟨.value x, args, ats⟩, ty, pos, after, none⟩ :: rest) ⟨t, s, nx, ds, n⟩ acc := by
  subst hr
  exact ⟨true, rfl, fun _ e => by cases e; exact hf, fun _ => .inl ⟨g, first, caps, hx, r, [], by rw [ha]; exact hc, by rw [callEff_free hcl]; exact hk⟩, fun e => by cases e⟩
/-- Under a guard; the function too may be there under the guard alone. -/
theorem vga_callf {x : Operand} {args : Array Operand} {ats : Array TypeId} {f : FuncId} {first caps : List D} {all : List D} {r r' : D} {j g : Nat} {want b : Bool} (hc : b = want → Con P f all r []) (hj : (ops[j]?).bind (·.dst) = some g) (hb : t g = .sc (.bool b))
    (hx : b = want → ev ⟨t, s, nx, ds, n⟩ x = .fn (.func f) first caps) (ha : b = want → (first ++ args.toList.map (ev ⟨t, s, nx, ds, n⟩) ++ caps).map (view s 5) = all)
    (hcl : b = want → (first ++ args.toList.map (ev ⟨t, s, nx, ds, n⟩) ++ caps).flatMap (vids s 5) = []) (hf : k < n)
    (hr : ren (shift nx 0) r = r') (hk : vall P ops K rest ⟨upd t k (gd b want r'), s, nx, ds, n⟩ (acc ++ [⟨some k, ⟨gd b want r', [], [], 0⟩⟩])) :
    vall P ops K (⟨some k, .call ⟨.value x, args, ats⟩, ty, pos, after, some (j, want)⟩ :: rest) ⟨t, s, nx, ds, n⟩ acc := by
  subst hr
  refine ⟨b == want, vwant_of rfl hj hb, fun _ e => by cases e; exact hf, fun e => .inl ⟨f, first, caps, hx (by simpa using e), r, [], by rw [ha (by simpa using e)]; exact hc (by simpa using e), ?_⟩, fun e => ⟨[], ?_⟩⟩
  · rw [callEff_free (hcl (by simpa using e))]
    rw [gd_pos (by simpa using e)] at hk; exact hk
  · have : gd b want (ren (shift nx 0) r) = .sc undef := if_neg (by simpa using e)
    rw [this] at hk; exact hk
theorem vg_callf {x : Operand} {args : Array Operand} {ats : Array TypeId} {f : FuncId} {first caps : List D} {all : List D} {r r' : D} {j g : Nat} {want b : Bool} (hc : b = want → Con P f all r []) (hj : (ops[j]?).bind (·.dst) = some g) (hb : t g = .sc (.bool b))
    (hx : b = want → ev ⟨t, s, nx, ds, n⟩ x = .fn (.func f) first caps) (ha : b = want → (first ++ args.toList.map (ev ⟨t, s, nx, ds, n⟩) ++ caps).map (view s 5) = all)
    (hcl : b = want → (first ++ args.toList.map (ev ⟨t, s, nx, ds, n⟩) ++ caps).flatMap (vids s 5) = []) (hf : k < n)
    (hr : ren (shift nx 0) r = r') (hk : vrun P ops Q rest ⟨upd t k (gd b want r'), s, nx, ds, n⟩) :
    vrun P ops Q (⟨some k, .call ⟨.value x, args, ats⟩, ty, pos, after, some (j, want)⟩ :: rest) ⟨t, s, nx, ds, n⟩ := by
  subst hr
  refine ⟨b == want, vwant_of rfl hj hb, fun _ e => by cases e; exact hf, fun e => .inl ⟨f, first, caps, hx (by simpa using e), r, [], by rw [ha (by simpa using e)]; exact hc (by simpa using e), ?_⟩, fun e => ?_⟩
  · rw [callEff_free (hcl (by simpa using e))]
    rw [gd_pos (by simpa using e)] at hk; exact hk
  · have : gd b want (ren (shift nx 0) r) = .sc undef := if_neg (by simpa using e)
    rw [this] at hk; exact hk

/-- A function of the model's own. -/
theorem vs_ext {x : Operand} {args : Array Operand} {ats : Array TypeId} {g : FuncId} {us : List Value} {v : Value} {r : D} (hw : ∀ w, (callFunc g us.toArray).run P w = .ok (.value v) w) (hx : ev ⟨t, s, nx, ds, n⟩ x = .fn (.func g) [] [])
    (ha : args.toList.map (ev ⟨t, s, nx, ds, n⟩) = us.map .sc) (hr : dv v = r) (hf : k < n) (hk : vrun P ops Q rest ⟨upd t k r, s, nx, ds, n⟩) :
    vrun P ops Q (⟨some k, .call ⟨.value x, args, ats⟩, ty, pos, after, none⟩ :: rest) ⟨t, s, nx, ds, n⟩ := by
  subst hr
  exact ⟨true, rfl, fun _ e => by cases e; exact hf, fun _ => .inr (.inl ⟨g, us, v, hx, ha, hw, hk⟩), fun e => by cases e⟩
theorem va_ext {x : Operand} {args : Array Operand} {ats : Array TypeId} {g : FuncId} {us : List Value} {v : Value} {r : D} (hw : ∀ w, (callFunc g us.toArray).run P w = .ok (.value v) w) (hx : ev ⟨t, s, nx, ds, n⟩ x = .fn (.func g) [] [])
    (ha : args.toList.map (ev ⟨t, s, nx, ds, n⟩) = us.map .sc) (hr : dv v = r) (hf : k < n) (hk : vall P ops K rest ⟨upd t k r, s, nx, ds, n⟩ (acc ++ [⟨some k, ⟨r, [], [], 0⟩⟩])) :
    vall P ops K (⟨some k, .call ⟨.value x, args, ats⟩, ty, pos, after, none⟩ :: rest) ⟨t, s, nx, ds, n⟩ acc := by
  subst hr
  exact ⟨true, rfl, fun _ e => by cases e; exact hf, fun _ => .inr (.inl ⟨g, us, v, hx, ha, hw, hk⟩), fun e => by cases e⟩

end

end Go.Proofs.YtglnkfpmogaifaaGreatDoor.V

/-
  Functions that yield: the walk of an iterator among surroundings that its calls of 'yield' turn.
-/
namespace Go.Proofs.YtglnkfpmogaifaaGreatDoor.V
open Go Go.RowKit

/-- What the surroundings' rounds do between two worlds. 'I': quiet blocks. -/
structure Grow (base : Nat) (I : Nat → Prop) (M : Nat → Prop) (w : World) (M' : Nat → Prop) (w' : World) : Prop where
  size : w.heap.size ≤ w'.heap.size
  old : ∀ b, M b → M' b
  newM : ∀ b, M' b → M b ∨ (w.heap.size ≤ b ∧ b < w'.heap.size)
  frame : ∀ b, b < w.heap.size → base ≤ b → ¬ M b → w'.heap[b]? = w.heap[b]?
  quiet : ∀ b, I b → w'.heap[b]? = w.heap[b]?

/-- Surroundings that are yielded to: what is yielded, in this order; what holds ahead of each yield, and once they have had enough. -/
structure Prot where
  base : Nat
  I : Nat → Prop
  L : List (List D)
  l : Nat
  J : Option Nat → (Nat → Prop) → World → Prop
  keep : ∀ (σ : Option Nat) (M : Nat → Prop) (w w' : World), J σ M w → w'.os = w.os → w'.tape = w.tape → w'.output = w.output → w.heap.size ≤ w'.heap.size →
    (∀ b, b < w.heap.size → (b < base ∨ M b) → w'.heap[b]? = w.heap[b]?) → J σ M w'
  gl : ∀ (σ : Option Nat) (M : Nat → Prop) (w : World), J σ M w → Gl w
def Prot.env (p : Prot) (σ : Option Nat) : Env := ⟨p.base, p.J σ, p.keep σ, p.gl σ⟩

/-- A yield, whatever the world. -/
structure Prot.Ok (P : Program) (p : Prot) : Prop where
  round : ∀ (i : Nat) (ds : List D) (M : Nat → Prop) (w : World) (vs : List Value), p.L[i]? = some ds → p.J (some i) M w → (∀ b, M b → b < w.heap.size) → Lr ⟨fun _ => none, fun _ => False, w, fun _ => False⟩ ds vs →
    ∃ fn tmps assign body, (Instr.yield p.l vs.toArray).run P w = .ok (.round p.l fn tmps assign body) w ∧
      RoundIn (Fw none) 0 P p.l fn tmps assign body w fun e w' => ∃ M' b, e = .returned (.bool b) ∧ Grow p.base p.I M w M' w' ∧ p.J (if b then some (i + 1) else none) M' w'

structure GoodG (p : Prot) (σ : Option Nat) (X : Ctx) (st : St) (a : Act) : Prop where
  good : Good (p.env σ) X st a
  quiet : ∀ b, X.I b → b < p.base → p.I b

def PostG (p : Prot) (K : Option Nat → St → Prop) (a' : Act) (w' : World) : Prop :=
  ∃ Y σ st, Y.w = w' ∧ GoodG p σ Y st a' ∧ K σ st
theorem PostG.mono {p : Prot} {K K' : Option Nat → St → Prop} {a' : Act} {w' : World} (h : ∀ σ s, K σ s → K' σ s) : PostG p K a' w' → PostG p K' a' w'
  | ⟨Y, σ, s, h1, h2, h3⟩ => ⟨Y, σ, s, h1, h2, h σ s h3⟩

/-- What code owes among such surroundings. -/
def TG (P : Program) (p : Prot) (c : Code) (σ : Option Nat) (st : St) (Q : Exit → Option Nat → St → Prop) : Prop :=
  ∀ (m : Nat) (X : Ctx) (a : Act), GoodG p σ X st a → c.wpIn (Fw none) m P (fun e a' w' => PostG p (Q e) a' w') a X.w

def thenG (K : Option Nat → St → Prop) (Q : Exit → Option Nat → St → Prop) : Exit → Option Nat → St → Prop
  | .normal => K
  | e => Q e
def RG (P : Program) (p : Prot) : List Code → Option Nat → St → (Exit → Option Nat → St → Prop) → Prop
  | [], σ, st, Q => Q .normal σ st
  | c :: k, σ, st, Q => TG P p c σ st (thenG (fun σ s => RG P p k σ s Q) Q)

theorem GoodG.moved {p : Prot} {σ : Option Nat} {X Y : Ctx} {st st' : St} {a a' : Act} (h : GoodG p σ X st a) (hg : Good (p.env σ) Y st' a') {n : Nat} (hm : Moved n X st.s Y st'.s) : GoodG p σ Y st' a' := by
  refine ⟨hg, fun b hb hlt => ?_⟩
  rcases hm.newI b hb with h1 | h1 | ⟨id, o, l, h1, _, h3, rfl⟩
  · exact h.quiet b h1 hlt
  · have := h.good.sim.env.base
    exact absurd (show p.base ≤ b from Nat.le_trans this h1) (Nat.not_le.2 hlt)
  · obtain ⟨l', g1, _, g3⟩ := h.good.sim.objs id o h1
    rw [h3] at g1; cases g1
    exact absurd g3.1 (Nat.not_le.2 hlt)
theorem PostG.of {p : Prot} {σ : Option Nat} {X : Ctx} {st : St} {a a' : Act} {w' : World} {K : St → Prop} {K' : Option Nat → St → Prop} (h : GoodG p σ X st a) {n : Nat} (hp : Post n (p.env σ) X st K a' w') (hk : ∀ s, K s → K' σ s) : PostG p K' a' w' := by
  obtain ⟨Y, s, h1, h2, h3, h4⟩ := hp
  exact ⟨Y, σ, s, h1, h.moved h2 h3, hk s h4⟩

section
variable {P : Program} {p : Prot} {σ : Option Nat} {st : St} {Q : Exit → Option Nat → St → Prop} {k : List Code}

theorem TG.mono {c : Code} {Q' : Exit → Option Nat → St → Prop} (h : TG P p c σ st Q) (hq : ∀ e σ s, Q e σ s → Q' e σ s) : TG P p c σ st Q' :=
  fun m X a hg => wpIn_mono (h m X a hg) fun e _ _ hp => hp.mono (hq e)
theorem TG_of_T {c : Code} (h : T P none c st fun e s => Q e σ s) : TG P p c σ st Q :=
  fun m X a hg => wpIn_mono (h _ m X a hg.good) fun _ _ _ hp => PostG.of hg hp fun _ hs => hs
theorem TG_of_RG {c : Code} (h : RG P p [c] σ st Q) : TG P p c σ st Q := h.mono fun e σ s hq => by cases e <;> exact hq

theorem RG_nil (h : Q .normal σ st) : RG P p [] σ st Q := h
theorem TG_seq {x y : Code} (h : TG P p x σ st (thenG (fun σ s => TG P p y σ s Q) Q)) : TG P p (.seq x y) σ st Q := by
  intro m X a hg
  refine wpIn_seq (wpIn_mono (h m X a hg) fun e a' w' hp => ?_)
  cases e with
  | normal =>
    obtain ⟨Y, σ', s, rfl, hg', hT⟩ := hp
    exact hT m Y a' hg'
  | _ => exact hp
theorem RG_seq {x y : Code} (h : RG P p (x :: y :: k) σ st Q) : RG P p (.seq x y :: k) σ st Q := by
  refine TG_seq (TG.mono h fun e σ s hq => ?_)
  cases e <;> exact hq
theorem RG_skip (h : RG P p k σ st Q) : RG P p (.skip :: k) σ st Q := TG_of_T (T_skip h)
theorem RG_ret (h : Q .ret σ st) : RG P p (.ret :: k) σ st Q := TG_of_T (T_ret h)
theorem RG_exit {id : Nat} (h : Q (.exit id) σ st) : RG P p (.exit id :: k) σ st Q := TG_of_T (T_exit h)
theorem RG_region {id : Nat} {l : List Oper} (h : vrun P l.toArray (fun s => RG P p k σ s Q) l st) : RG P p (.region id l.toArray false :: k) σ st Q := TG_of_T (T_region h)
theorem RG_draw {id : Nat} {l : List Oper} (hP : P.follows .mixedOrders = true) (hA : (closedA (ancs l) l 0 && apartAll l.toArray l (ancs l) 0) = true)
    (h : vall P l.toArray (fun fs s => effAll fs (ancs l) 0 = true ∧ RG P p k σ s Q) l st []) : RG P p (.region id l.toArray true :: k) σ st Q := TG_of_T (T_draw hP (ancs l) hA h)
theorem RG_cond {c : Operand} {x y : Code} {b : Bool} (hc : ev st c = .sc (.bool b)) (ht : b = true → RG P p (x :: k) σ st Q) (hf : b = false → RG P p (y :: k) σ st Q) : RG P p (.cond c x y :: k) σ st Q := by
  intro m X a hg
  have hv := hg.good.ev c
  rw [hc] at hv
  simp only [Vr] at hv
  refine wpIn_cond hv ?_
  cases b
  · exact hf rfl m X a hg
  · exact ht rfl m X a hg
def blockG (id : Nat) (K : Option Nat → St → Prop) (Q : Exit → Option Nat → St → Prop) : Exit → Option Nat → St → Prop
  | .normal => K
  | .exit id' => fun σ s => if id' = id then K σ s else Q (.exit id') σ s
  | e => Q e
theorem RG_block {id : Nat} {c : Code} (h : RG P p [c] σ st (blockG id (fun σ s => RG P p k σ s Q) Q)) : RG P p (.block id c :: k) σ st Q := by
  intro m X a hg
  refine wpIn_block (wpIn_mono (h m X a hg) fun e a' w' hp => ?_)
  cases e with
  | exit id' =>
    simp only [Exit.inBlock]
    split
    · rename_i hid
      obtain ⟨Y, σ', s, h1, h2, h3⟩ := hp
      simp only [thenG, blockG, hid, if_true] at h3
      exact ⟨Y, σ', s, h1, h2, h3⟩
    · rename_i hid
      obtain ⟨Y, σ', s, h1, h2, h3⟩ := hp
      simp only [thenG, blockG, hid, if_false] at h3
      exact ⟨Y, σ', s, h1, h2, h3⟩
  | _ => exact hp
def roundG (I : Option Nat → St → Prop) (Q : Exit → Option Nat → St → Prop) : Exit → Option Nat → St → Prop
  | .normal => I
  | e => Q e
theorem GoodG.less {X : Ctx} {st st' : St} {a : Act} {ids : List Nat} (hg : GoodG p σ X st a) (h : Less st ids st') : GoodG p σ { X with μ := fun i => (ids[i]?).bind X.μ } st' a :=
  ⟨hg.good.less h, hg.quiet⟩
theorem RG_less {ids : List Nat} {st' : St} (hl : Less st ids st') (h : RG P p k σ st' Q) (hk : k ≠ []) : RG P p k σ st Q := by
  cases k with
  | nil => exact (hk rfl).elim
  | cons c k =>
    intro m X a hg
    exact h m { X with μ := fun i => (ids[i]?).bind X.μ } a (hg.less hl)
theorem RG_loop {c : Code} {ι : Type} (mk : ι → St) (gh : ι → Option Nat) (Ok : ι → Prop) (μ : ι → Nat) (i₀ : ι) (ids₀ : List Nat) (hσ : σ = gh i₀) (h₀ : Less st ids₀ (mk i₀)) (hi₀ : Ok i₀)
    (round : ∀ i, Ok i → RG P p [c] (gh i) (mk i) (roundG (fun σ s => ∃ ids s', Less s ids s' ∧ ∃ j, Ok j ∧ μ j < μ i ∧ s' = mk j ∧ σ = gh j) Q)) : RG P p (.loop c :: k) σ st Q := by
  refine RG_less (k := .loop c :: k) h₀ ?_ (by simp)
  subst hσ
  intro m X₀ a₀ hg₀ b kk cs hro hb hr
  have key : ∀ (j : Nat) (i : ι) (X : Ctx) (a : Act), μ i = j → GoodG p (gh i) X (mk i) a → Ok i →
      ∃ e a' w', PostG p (thenG (fun σ s => RG P p k σ s Q) Q e) a' w' ∧ ArrivesIn (Machine.fenced P (Fw none)) P (lone (b.atR a (.code c :: .inLoop c :: kk)) cs X.w) b kk cs e a' w' := by
    intro j
    induction j using Nat.strongRecOn with
    | _ j ih =>
      intro i X a hn hg hI
      obtain ⟨e, a₁, w₁, hq, harr⟩ := (TG_of_RG (round i hI)) m X a hg b (.inLoop c :: kk) cs hro hb hr
      cases e with
      | normal =>
        obtain ⟨Y, σ', s, rfl, hg', ids, s', hl, i', hI', hlt, rfl, rfl⟩ := hq
        obtain ⟨e₂, a₂, w₂, hq₂, harr₂⟩ := ih (μ i') (hn ▸ hlt) i' { Y with μ := fun i => (ids[i]?).bind Y.μ } a₁ rfl (hg'.less hl) hI'
        exact ⟨e₂, a₂, w₂, hq₂, .of_steps (StepsIn.trans harr (.one (fenced_calm hb hr rfl) stepR_inLoop)) harr₂⟩
      | exit id => exact ⟨.exit id, a₁, w₁, hq, .pass (x := .inLoop c) rfl (fun _ _ => .inl (by simp)) harr⟩
      | goto l => exact ⟨.goto l, a₁, w₁, hq, .pass (x := .inLoop c) rfl (fun _ _ => .inl (by simp)) harr⟩
      | ret => exact ⟨.ret, a₁, w₁, hq, .pass (x := .inLoop c) rfl (fun _ _ => .inl (by simp)) harr⟩
      | panic ch => exact ⟨.panic ch, a₁, w₁, hq, .pass (x := .inLoop c) rfl (fun _ _ => .inl (by simp)) harr⟩
      | outgrown => exact ⟨.outgrown, a₁, w₁, hq, .pass (x := .inLoop c) rfl (fun _ _ => .inl (by simp)) harr⟩
  obtain ⟨e, a', w', hq, harr⟩ := key _ i₀ X₀ a₀ rfl hg₀ hi₀
  exact ⟨e, a', w', hq, .of_steps (.one (fenced_calm hb hr rfl) stepR_loop) harr⟩
end

/-! ### the yield itself -/
theorem roundIn_Fw {P : Program} {l : Nat} {f : FuncId} {tmps : Array Value} {assign body : Code} {w : World} {R : Ending → World → Prop} {m m' : Nat} (h : RoundIn (Fw none) m P l f tmps assign body w R) : RoundIn (Fw none) m' P l f tmps assign body w R :=
  ⟨h.1, fun c cs _ => h.2 c cs fun _ hd => (by cases hd)⟩

theorem wpIn_yield {P : Program} {o : Oper} {a : Act} {w : World} {x : Operand} {args : Array Operand} {ats : Array TypeId} {l : Nat} {fn : FuncId} {tmps : Array Value} {assign body : Code} {K : Act → World → Prop} {Q : Exit → Act → World → Prop} {m : Nat}
    (ho : o.op = .call { callee := .value x, args := args, argTypes := ats }) (hx : a.eval x = .func (.yield l) #[] #[]) {R : Value → World → Prop}
    (hy : (Instr.yield l (args.map a.eval)).run P w = .ok (.round l fn tmps assign body) w)
    (hr : RoundIn (Fw none) 0 P l fn tmps assign body w fun e w' => ∃ v, e = .returned v ∧ R v w') (h : ∀ v w', R v w' → K (a.put o.dst v) w') : o.wpIn (Fw none) m P a w K Q := by
  refine ⟨fun _ _ => trivial, ?_⟩
  rw [Oper.semAt_eq _ _ _ (by simp [ho])]
  have he : (execOp a.eval o).run P w = .ok (.round l fn tmps assign body) w := by
    unfold execOp
    simp only [ho, resolve, hx, Deferred.ofValue]
    rw [Sem.run_bind]
    simp only [Sem.run_pure, Result.andThen]
    unfold invoke
    simpa using hy
  rw [he, Oper.uponIn_round]
  refine ⟨fun hd => (by cases hd), (roundIn_Fw hr).mono fun e w' => ?_⟩
  rintro ⟨v, rfl, hR⟩
  exact h v w' hR

/-- Data that is the same in every world. -/
def flat : D → Bool
  | .sc _ => true
  | .ag cs => cs.all fun d => match d with | .sc _ => true | _ => false
  | _ => false
theorem flat_ok {X Y : Ctx} {d : D} {v : Value} (h : flat d = true) (hv : Vr X d v) : Vr Y d v := by
  cases d with
  | sc s => exact hv
  | ag cs =>
    simp only [Vr] at hv ⊢
    obtain ⟨xs, rfl, hl⟩ := hv
    refine ⟨xs, rfl, Lr_of_get (Lr_length hl) fun i d u hd hu => ?_⟩
    obtain ⟨u', hu', hr⟩ := Lr_get hl i d hd
    rw [hu] at hu'; cases hu'
    simp only [flat, List.all_eq_true] at h
    have := h d (List.mem_of_getElem? hd)
    cases d <;> simp at this
    exact hr
  | _ => simp [flat] at h
theorem Lr_flat {X Y : Ctx} {ds : List D} {vs : List Value} (h : ds.all flat = true) (hl : Lr X ds vs) : Lr Y ds vs := by
  refine Lr_of_get (Lr_length hl) fun i d u hd hu => ?_
  obtain ⟨u', hu', hr⟩ := Lr_get hl i d hd
  rw [hu] at hu'; cases hu'
  exact flat_ok (List.all_eq_true.1 h d (List.mem_of_getElem? hd)) hr

/-- A region in the order of its text, with yields in it. -/
def vrunG (P : Program) (p : Prot) (ops : Array Oper) (K : Option Nat → St → Prop) : List Oper → Option Nat → St → Prop
  | [], σ, st => K σ st
  | o :: rest, σ, st =>
    (∃ b, vwant ops st o = some b ∧ st.fits o.dst ∧ (b = true → vdo P o st fun f => vrunG P p ops K rest σ (st.eff o.dst f)) ∧ (b = false → vrunG P p ops K rest σ (st.set o.dst (.sc undef)))) ∨
    ∃ i x args ats ds, o.guard = none ∧ σ = some i ∧ o.op = .call ⟨.value x, args, ats⟩ ∧ st.fits o.dst ∧ ev st x = .fn (.yield p.l) [] [] ∧ p.L[i]? = some ds ∧ ds.all flat = true ∧ args.toList.map (ev st) = ds ∧
      vrunG P p ops K rest (some (i + 1)) (st.set o.dst (.sc (.bool true))) ∧ vrunG P p ops K rest none (st.set o.dst (.sc (.bool false)))

theorem GoodG.round {p : Prot} {σ σ' : Option Nat} {X : Ctx} {st : St} {a : Act} {M' : Nat → Prop} {w' : World} {dst : Option Tmp} {v : Value} (h : GoodG p σ X st a) (hg : Grow p.base p.I X.M X.w M' w') (hJ : p.J σ' M' w') (hd : st.fits dst) :
    GoodG p σ' { X with w := w', M := M' } (st.set dst (.sc v)) (a.put dst v) := by
  have hs := h.good.sim
  have hM' : ∀ b, b < X.w.heap.size → M' b → X.M b := fun b hb hm => by
    rcases hg.newM b hm with h1 | h1
    · exact h1
    · omega
  have hI : ∀ b, X.I b → w'.heap[b]? = X.w.heap[b]? := fun b hb => by
    by_cases hlt : b < p.base
    · exact hg.quiet b (h.quiet b hb hlt)
    · exact hg.frame b (hs.Ibd b hb) (by omega) (hs.IM b hb)
  have L : Later X { X with w := w', M := M' } := ⟨fun _ _ e => e, fun _ e => e, hI⟩
  have hsim : Sim (p.env σ') { X with w := w', M := M' } st.s := by
    refine ⟨⟨hJ, Nat.le_trans hs.env.base hg.size, fun b hb => ?_⟩, fun id o ho => ?_, hs.dom, hs.inj, hs.notI, fun b hb => Nat.lt_of_lt_of_le (hs.Ibd b hb) hg.size, fun b hb hm => hs.IM b hb (hM' b (hs.Ibd b hb) hm)⟩
    · rcases hg.newM b hb with h1 | h1
      · exact Nat.lt_of_lt_of_le (hs.env.Mbd b h1) hg.size
      · exact h1.2
    · obtain ⟨l, h1, h2, h3⟩ := hs.objs id o ho
      have hlt := h2.lt
      exact ⟨l, h1, h2.later L (hg.frame _ hlt h3.1 h3.2), h3.1, fun hm => h3.2 (hM' _ hlt hm)⟩
  have hmk : Marks (p.env σ') { X with w := w', M := M' } st.ds := by
    refine ⟨h.good.marks.1, fun d hd => ?_⟩
    obtain ⟨k, rfl, hk, hm, hi⟩ := h.good.marks.2 d hd
    have hlt := (Array.getElem?_eq_some_iff.1 hk).1
    exact ⟨k, rfl, (hg.frame k hlt hm.1 hm.2).trans hk, ⟨hm.1, fun hm' => hm.2 (hM' k hlt hm')⟩, hi⟩
  have hgood : Good (p.env σ') { X with w := w', M := M' } st a := ⟨hsim, h.good.tr.later L, h.good.fr, h.good.ds, h.good.size, hmk⟩
  refine ⟨?_, h.quiet⟩
  have := hgood.set (v := v) (d := .sc v) hd Vr_sc
  exact this

theorem vrunG_ok {P : Program} {p : Prot} (hp : p.Ok P) {ops : Array Oper} {Q : Option Nat → St → Prop} {m : Nat} {R : Exit → Act → World → Prop} : ∀ (l : List Oper) (k : Nat) (σ : Option Nat) (X : Ctx) (st : St) (a : Act), (∀ j, l[j]? = ops[k + j]?) → GoodG p σ X st a → vrunG P p ops Q l σ st →
    (∀ a' w', PostG p Q a' w' → R .normal a' w') → wpOpsIn (Fw none) m P ops R (List.range' k l.length) a X.w
  | [], k, σ, X, st, a, _, hg, h, hR => hR a X.w ⟨X, σ, st, rfl, hg, h⟩
  | o :: l, k, σ, X, st, a, hl, hg, h, hR => by
    have h0 : ops[k]? = some o := by simpa using (hl 0).symm
    have hl' : ∀ j, l[j]? = ops[k + 1 + j]? := fun j => by have := hl (j + 1); simpa [Nat.add_assoc, Nat.add_comm 1 j] using this
    simp only [List.length_cons, List.range'_succ, wpOpsIn, h0]
    rcases h with ⟨b, hw, hfit, ht, hf⟩ | ⟨i, x, args, ats, ds, hgd, rfl, ho, hfit, hx, hL, hflat, hargs, h1, h2⟩
    · rw [vwant_ok hg.good.tr hw]
      cases b with
      | true =>
        simp only [if_true]
        obtain ⟨f, hLc, hK⟩ := vdo_ok (ht rfl)
        refine Oper.wpIn_mono ?_ (hLc st.s (fun _ _ => rfl) (p.env σ) none m X a _ hg.good.sim (fun x _ => hg.good.ev x) (fun id h1 _ => hg.good.fr id h1))
        rintro a' w' ⟨Y, v, rfl, rfl, h1, h2, h3, h4⟩
        have hg' := hg.moved (n := 0) (hg.good.eff hfit h1 h2 h3 h4) h2.moved
        exact vrunG_ok hp l (k + 1) σ Y (st.eff o.dst f) (a.put o.dst v) hl' hg' hK hR
      | false =>
        simp only [Bool.false_eq_true, if_false]
        refine ⟨fun _ _ => trivial, vrunG_ok hp l (k + 1) σ X (st.set o.dst (.sc undef)) (a.put o.dst undef) hl' ?_ (hf rfl) hR⟩
        exact hg.moved (hg.good.set hfit (d := .sc undef) (v := undef) Vr_sc) (n := 0) (by rw [St.set_s]; exact Moved.refl _ _)
    · have hw : Region.wanted o (yielded ops a.tmps) = true := by unfold Region.wanted; rw [hgd]
      rw [hw]
      simp only [if_true]
      have hxv := hg.good.ev x
      rw [hx] at hxv
      simp only [Vr, Lr] at hxv
      obtain ⟨xs, ys, hxv, e1, e2⟩ := hxv
      have e1' : xs = #[] := by simpa using e1
      have e2' : ys = #[] := by simpa using e2
      subst e1' e2'
      have hav : Lr X ds (args.map a.eval).toList := by
        rw [← hargs]
        refine Lr_of_get (by simp) fun j d v hd hv => ?_
        simp only [List.getElem?_map, Option.map_eq_some_iff] at hd
        obtain ⟨y, hy, rfl⟩ := hd
        have hy' : args[j]? = some y := by simpa using hy
        have hv' : v = a.eval y := by simpa [hy'] using hv.symm
        rw [hv']
        exact hg.good.ev y
      obtain ⟨fn, tmps, assign, body, hy, hround⟩ := hp.round i ds X.M X.w (args.map a.eval).toList hL hg.good.sim.env.inv hg.good.sim.env.Mbd (Lr_flat hflat hav)
      rw [show (args.map a.eval).toList.toArray = args.map a.eval from rfl] at hy
      refine wpIn_yield (R := fun v w' => ∃ M' b, v = .bool b ∧ Grow p.base p.I X.M X.w M' w' ∧ p.J (if b then some (i + 1) else none) M' w') ho hxv hy (hround.mono ?_) ?_
      · rintro e w' ⟨M', b, rfl, h3, h4⟩
        exact ⟨_, rfl, M', b, rfl, h3, h4⟩
      · rintro v w' ⟨M', b, rfl, h3, h4⟩
        cases b with
        | true => exact vrunG_ok hp l (k + 1) (some (i + 1)) { X with w := w', M := M' } _ _ hl' (hg.round h3 h4 hfit) h1 hR
        | false => exact vrunG_ok hp l (k + 1) none { X with w := w', M := M' } _ _ hl' (hg.round h3 h4 hfit) h2 hR

theorem RG_yields {P : Program} {p : Prot} (hp : p.Ok P) {σ : Option Nat} {st : St} {Q : Exit → Option Nat → St → Prop} {k : List Code} {id : Nat} {l : List Oper} (h : vrunG P p l.toArray (fun σ s => RG P p k σ s Q) l σ st) : RG P p (.region id l.toArray false :: k) σ st Q := by
  intro m X a hg
  refine wpIn_region ?_
  rw [List.range_eq_range', show l.toArray.size = l.length by simp]
  exact vrunG_ok hp l 0 σ X st a (by simp) hg h fun a' w' hp => hp

end Go.Proofs.YtglnkfpmogaifaaGreatDoor.V

/-
  The contract of an iterator; results as data; freezing.
-/
namespace Go.Proofs.YtglnkfpmogaifaaGreatDoor.V
open Go Go.RowKit

/-! ### freezing, results as data -/
theorem T_frz {P : Program} {ro : Option (Nat × Nat)} {c : Code} {t : Nat → D} {s s' : Sg} {nx n : Nat} {ds : List Deferred} {Q : Exit → St → Prop} (fs : List Nat) (hs : s.app (fs.map fun id => (id, (s id).map fzO)) = s')
    (h : T P ro c ⟨t, s', nx, ds, n⟩ Q) : T P ro c ⟨t, s, nx, ds, n⟩ Q := by
  subst hs
  intro E m X a hg
  obtain ⟨Y, h1, h2, h3, h4, _⟩ := Sim.frzs fs s X hg.sim fun id _ => .inl rfl
  have hg' : Good E Y ⟨t, s.app (fs.map fun id => (id, (s id).map fzO)), nx, ds, n⟩ a := ⟨h1, hg.tr.later (h2.later hg.sim), fun id hid => by rw [h4]; exact hg.fr id hid, hg.ds, hg.size, hg.marks.step hg.sim h2⟩
  have := h E m Y a hg'
  rw [h3] at this
  exact wpIn_mono this fun e _ _ hp => Post.trans (st' := ⟨t, s.app (fs.map fun id => (id, (s id).map fzO)), nx, ds, n⟩) h2.moved hp
theorem R_frz {P : Program} {ro : Option (Nat × Nat)} {c : Code} {k : List Code} {t : Nat → D} {s s' : Sg} {nx n : Nat} {ds : List Deferred} {Q : Exit → St → Prop} (fs : List Nat) (hs : s.app (fs.map fun id => (id, (s id).map fzO)) = s')
    (h : R P ro (c :: k) ⟨t, s', nx, ds, n⟩ Q) : R P ro (c :: k) ⟨t, s, nx, ds, n⟩ Q := T_frz fs hs h

/-- A contract out of the body, its result as data. -/
theorem Con.of_bodyD {P : Program} {f : FuncId} {fn : Func} {c : Code} {args : List D} {r : D} (l : List (Nat × D)) (hf : P.funcs[f]? = some fn) (hb : fn.body = some c) (hc : V.callable P f = true) (n : Nat) (hnt : fn.ntmps = n) (hn : args.length ≤ n)
    (hl : l = args.zipIdx.map fun p => (p.2, p.1)) (h : T P none c ⟨tl l, ol [], 0, [], n⟩ fun e st => (e = .normal ∨ e = .ret) ∧ ∃ d, resV P st fn.results.toList = some d ∧ view st.s 5 d = r) : Con P f args r [] := by
  have e0 : (⟨tl l, ol [], 0, [], n⟩ : St) = init args fn.ntmps := by
    have e1 : ∀ (xs : List D) (k j : Nat), k ≤ j → tl (xs.zipIdx k |>.map fun p => (p.2, p.1)) j = xs.getD (j - k) .junk := by
      intro xs
      induction xs with
      | nil => intro k j _; rfl
      | cons a xs ih =>
        intro k j hkj
        simp only [List.zipIdx_cons, List.map_cons, tl_cons]
        split
        · rename_i e; subst e; simp
        · rw [ih (k + 1) j (by omega), show j - k = (j - (k + 1)) + 1 by omega]; rfl
    have e2 : tl l = initT args := by
      funext j
      rw [hl, e1 args 0 j (Nat.zero_le _)]; rfl
    rw [e2, hnt]
    rfl
  rw [e0] at h
  refine ⟨hc, fun I w vs hgl hI hl => ?_⟩
  let E : Env := { base := w.heap.size, inv := fun _ w' => Below w.heap.size w w', keep := fun M w1 w2 h1 h2 h3 h4 h5 h6 => h1.trans ⟨h2, h3, h4, h5, fun k hk => h6 k (Nat.lt_of_lt_of_le hk h1.size) (.inl hk)⟩, gl := fun _ w' hb => Gl_keep hgl hb.block }
  let X : Ctx := ⟨fun _ => none, I, w, fun _ => False⟩
  have hlen := Lr_length hl
  have hsim : Sim E X (init args fn.ntmps).s := ⟨⟨Below.refl _ _, Nat.le_refl _, fun _ h => h.elim⟩, fun _ _ h => by simp [init] at h, fun _ _ => rfl, fun _ _ _ _ _ _ h => by simp [init] at h, fun _ _ _ h => by simp [init] at h, hI, fun _ _ h => h⟩
  have hgood : Good E X (init args fn.ntmps) { tmps := vs.toArray ++ Array.replicate (fn.ntmps - vs.toArray.size) undef, defers := [] } := by
    refine ⟨hsim, fun k => ?_, fun _ _ => rfl, rfl, by simp [init]; omega, by simp [Marks, init]⟩
    show Vr X (args.getD k .junk) _
    rw [List.getD_eq_getElem?_getD]
    cases hk : args[k]? with
    | none => simp [Vr]
    | some d =>
      obtain ⟨v, hv, hvr⟩ := Lr_get hl k d hk
      have hklt := (List.getElem?_eq_some_iff.1 hv).1
      rw [Array.getD_eq_getD_getElem?, Array.getElem?_append_left (by simpa using hklt)]
      simp only [List.getElem?_toArray, hv, Option.getD_some]
      exact hvr
  refine (callsIn_wide (n := 0)).1 (callsIn_of_wp_marks hf hb trivial ?_ rfl)
  have hT := h E 0 X _ hgood
  refine wpIn_mono hT fun e a' w' hp => ?_
  obtain ⟨Y, st', rfl, hg, hst, he, d, hd, hr⟩ := hp
  have main : LeavesInM Fence.wide 0 P fn a'.tmps (fun e w' => ∃ v Y, Y.w = w' ∧ e = .returned v ∧ CPost I w r [] v Y) a'.defers .returning Y.w := by
    rw [hg.ds]
    refine leaves_marks st'.ds Y hg.sim hg.marks fun Z g1 g2 g3 g4 g5 g6 g7 => ?_
    have hL : Later Y Z := ⟨fun _ _ e => by rw [g2]; exact e, fun _ e => by rw [g3]; exact e, g5⟩
    obtain ⟨v, hv, hvr⟩ := resV_ok (P := P) (fn := fn) g1 (hg.tr.later hL) hd
    let J : Nat → Prop := fun b => ∃ id o l, st'.s id = some o ∧ Z.μ id = some l ∧ l.blk = b
    refine ⟨v, hv, v, bare Z J, rfl, rfl, ?_⟩
    refine ⟨by rw [← hr]; exact view_ok g1 5 d v (fun id _ o l ho hl => ⟨id, o, l, ho, hl, rfl⟩) hvr, g1.env.inv, ?_, ?_, fun b hb => .inl ?_, fun i o hi => by simp at hi, fun i j li lj hi => by simp at hi⟩
    · rintro b (hb | ⟨id, o, l, h1, h2, rfl⟩)
      · exact g1.Ibd b hb
      · obtain ⟨l', h3, h4, _⟩ := g1.objs id o h1
        rw [h2] at h3; cases h3
        exact h4.lt
    · rintro b (hb | ⟨id, o, l, h1, h2, rfl⟩)
      · have hb' : Y.I b := by rw [← g3]; exact hb
        rcases hst.newI b hb' with h1 | h1 | ⟨id, o, l, h1, _⟩
        · exact .inl h1
        · exact .inr h1
        · simp [init] at h1
      · obtain ⟨l', h3, _, h5⟩ := g1.objs id o h1
        rw [h2] at h3; cases h3
        exact .inr h5.1
    · show Z.I b
      rw [g3]; exact hst.I b hb
  rcases he with rfl | rfl
  · exact main
  · exact main
theorem fin_data {P : Program} {fn : Func} {st : St} {r d : D} (hd : resV P st fn.results.toList = some d) (hr : view st.s 5 d = r) :
    (Exit.ret = .normal ∨ Exit.ret = .ret) ∧ ∃ d, resV P st fn.results.toList = some d ∧ view st.s 5 d = r := ⟨.inr rfl, d, hd, hr⟩

/-! ### an iterator -/
/-- Called with such data and a yield, it yields this, in this order, while it may; then it returns. -/
structure ItC (P : Program) (f : FuncId) (first caps : List D) (L : List (List D)) : Prop where
  callable : V.callable P f = true
  calls : ∀ (p : Prot), p.Ok P → p.L = L → ∀ (w : World) (vs : List Value), p.base = w.heap.size → p.J (some 0) (fun _ => False) w → (∀ b, p.I b → b < w.heap.size) →
    Lr ⟨fun _ => none, p.I, w, fun _ => False⟩ (first ++ .fn (.yield p.l) [] [] :: caps) vs →
    Calls P f vs.toArray w fun e w' => ∃ v σ M', e = .returned v ∧ p.J σ M' w' ∧ (σ = some L.length ∨ σ = none) ∧ w.heap.size ≤ w'.heap.size ∧ (∀ b, M' b → b < w'.heap.size)

theorem ItC.of_body {P : Program} {f : FuncId} {fn : Func} {c : Code} {first caps : List D} {L : List (List D)} (hf : P.funcs[f]? = some fn) (hb : fn.body = some c) (hc : V.callable P f = true) (hres : fn.results = #[])
    (n : Nat) (hnt : fn.ntmps = n) (hn : (first ++ .junk :: caps).length ≤ n)
    (h : ∀ (p : Prot), p.Ok P → p.L = L → TG P p c (some 0) ⟨initT (first ++ .fn (.yield p.l) [] [] :: caps), ol [], 0, [], n⟩ fun e σ _ => (e = .normal ∨ e = .ret) ∧ (σ = some L.length ∨ σ = none)) : ItC P f first caps L := by
  refine ⟨hc, fun p hp hL w vs hbase hJ hI hl => ?_⟩
  let X : Ctx := ⟨fun _ => none, p.I, w, fun _ => False⟩
  have hlen := Lr_length hl
  have hlen' : vs.length ≤ fn.ntmps := by rw [hlen, hnt]; simpa using hn
  have hsim : Sim (p.env (some 0)) X (ol []) := ⟨⟨hJ, Nat.le_of_eq hbase, fun _ h => h.elim⟩, fun _ _ h => by simp [ol] at h, fun _ _ => rfl, fun _ _ _ _ _ _ h => by simp [ol] at h, fun _ _ _ h => by simp [ol] at h, hI, fun _ _ h => h⟩
  have hgood : GoodG p (some 0) X ⟨initT (first ++ .fn (.yield p.l) [] [] :: caps), ol [], 0, [], n⟩ { tmps := vs.toArray ++ Array.replicate (fn.ntmps - vs.toArray.size) undef, defers := [] } := by
    refine ⟨⟨hsim, fun k => ?_, fun _ _ => rfl, rfl, by simp; omega, by simp [Marks]⟩, fun b hb _ => hb⟩
    show Vr X ((first ++ .fn (.yield p.l) [] [] :: caps).getD k .junk) _
    rw [List.getD_eq_getElem?_getD]
    cases hk : (first ++ .fn (.yield p.l) [] [] :: caps)[k]? with
    | none => simp [Vr]
    | some d =>
      obtain ⟨v, hv, hvr⟩ := Lr_get hl k d hk
      have hklt := (List.getElem?_eq_some_iff.1 hv).1
      rw [Array.getD_eq_getD_getElem?, Array.getElem?_append_left (by simpa using hklt)]
      simp only [List.getElem?_toArray, hv, Option.getD_some]
      exact hvr
  refine (callsIn_wide (n := 0)).1 (callsIn_of_wp_marks hf hb trivial ?_ rfl)
  have hT := h p hp hL 0 X _ hgood
  refine wpIn_mono hT fun e a' w' hpst => ?_
  obtain ⟨Y, σ, st', rfl, hg, he, hσ⟩ := hpst
  have main : LeavesInM Fence.wide 0 P fn a'.tmps (fun e w' => ∃ v σ M', e = .returned v ∧ p.J σ M' w' ∧ (σ = some L.length ∨ σ = none) ∧ w.heap.size ≤ w'.heap.size ∧ (∀ b, M' b → b < w'.heap.size)) a'.defers .returning Y.w := by
    rw [hg.good.ds]
    refine leaves_marks st'.ds Y hg.good.sim hg.good.marks fun Z g1 g2 g3 g4 g5 g6 g7 => ?_
    have hL' : Later Y Z := ⟨fun _ _ e => by rw [g2]; exact e, fun _ e => by rw [g3]; exact e, g5⟩
    obtain ⟨v, hv, _⟩ := resV_ok (P := P) (fn := fn) (d := .tp []) g1 (hg.good.tr.later hL') (by rw [hres]; rfl)
    refine ⟨v, hv, _, σ, Z.M, rfl, g1.env.inv, hσ, ?_, g1.env.Mbd⟩
    have := g1.env.base
    exact Nat.le_trans (Nat.le_of_eq hbase.symm) this
  rcases he with rfl | rfl
  · exact main
  · exact main

end Go.Proofs.YtglnkfpmogaifaaGreatDoor.V

/-
  The statement 'for .. := range f { .. }'.
-/
namespace Go.Proofs.YtglnkfpmogaifaaGreatDoor.V
open Go Go.RowKit

/-- Data, as an iterator sees it: what stands under the names 'q' is written out; of an empty slice nothing is seen. -/
def viewQ (s : Sg) (q : List Nat) : Nat → D → D
  | 0, _ => .junk
  | n + 1, d =>
    match d with
    | .rf id off len es =>
      if id ∈ q then
        (match s id with
        | some o => if off + len * es ≤ o.cells.length then .sl len (((o.cells.drop off).take (len * es)).map (viewQ s q n)) else .junk
        | none => .junk)
      else if len = 0 then .sl 0 [] else .junk
    | .pt id off =>
      if id ∈ q then
        (match s id with
        | some o => .sp (o.cells.map (viewQ s q n)) off
        | none => .junk)
      else .junk
    | .sl len cs => .sl len (cs.map (viewQ s q n))
    | .sp cs off => .sp (cs.map (viewQ s q n)) off
    | .fn f a b => .fn f (a.map (viewQ s q n)) (b.map (viewQ s q n))
    | .ag cs => .ag (cs.map (viewQ s q n))
    | .tp cs => .tp (cs.map (viewQ s q n))
    | .junk => .junk
    | .sc v => .sc v
    | .em => .sl 0 []

/-- The context of an iterator: no names; the same quiet blocks. -/
def plain (X : Ctx) : Ctx := { μ := fun _ => none, I := X.I, w := X.w, M := fun _ => False }

theorem viewQ_ok {E : Env} {X : Ctx} {s : Sg} {q : List Nat} (hs : Sim E X s) (hq : ∀ id ∈ q, ∀ o, s id = some o → o.fz = true) : ∀ (n : Nat) (d : D) (v : Value), Vr X d v → Vr (plain X) (viewQ s q n d) v
  | 0, d, v, _ => by simp [viewQ, Vr]
  | n + 1, d, v, h => by
    have rec_ : ∀ (cs : List D), ∀ d ∈ cs, ∀ v, Vr X d v → Vr (plain X) (viewQ s q n d) v := fun cs d _ v hv => viewQ_ok hs hq n d v hv
    cases d with
    | junk => simp [viewQ, Vr]
    | sc s => simpa [viewQ, Vr] using h
    | em =>
      simp only [viewQ, Vr, List.map_nil] at h ⊢
      obtain ⟨a, rfl⟩ := h
      exact ⟨Nat.zero_le _, a, 0, rfl, Nat.le_refl _, by simp⟩
    | sl len cs =>
      simp only [viewQ, Vr] at h ⊢
      obtain ⟨h0, a, cap, hv, hc, h⟩ := h
      refine ⟨h0, a, cap, hv, hc, ?_⟩
      rcases h with rfl | ⟨b, off, ha, hb, hcr⟩
      · exact .inl rfl
      · exact .inr ⟨b, off, ha, hb, Cr_map (X := X) (Y := plain X) rfl (rec_ cs) hcr⟩
    | sp cs off =>
      simp only [viewQ, Vr] at h ⊢
      obtain ⟨b, o, hv, hb, hcr⟩ := h
      exact ⟨b, o, hv, hb, Cr_map (X := X) (Y := plain X) rfl (rec_ cs) hcr⟩
    | fn f a b =>
      simp only [viewQ, Vr] at h ⊢
      obtain ⟨xs, ys, hv, h1, h2⟩ := h
      exact ⟨xs, ys, hv, Lr_map (rec_ a) h1, Lr_map (rec_ b) h2⟩
    | ag cs =>
      simp only [viewQ, Vr] at h ⊢
      obtain ⟨xs, hv, h1⟩ := h
      exact ⟨xs, hv, Lr_map (rec_ cs) h1⟩
    | tp cs =>
      simp only [viewQ, Vr] at h ⊢
      obtain ⟨xs, hv, h1⟩ := h
      exact ⟨xs, hv, Lr_map (rec_ cs) h1⟩
    | rf id off len es =>
      simp only [viewQ]
      split
      · rename_i hid
        cases ho : s id with
        | none => simp [Vr]
        | some o =>
          simp only
          split
          · rename_i hle
            simp only [Vr] at h ⊢
            obtain ⟨l, cap, hl, rfl, hc, hm, _⟩ := h
            obtain ⟨l', hl', hor, _⟩ := hs.objs id o ho
            rw [hl] at hl'; cases hl'
            refine ⟨by omega, _, _, rfl, hc, .inr ⟨l.blk, off, rfl, (hs.notI id o l ho hl).2 (hq id hid o ho), ?_⟩⟩
            have hcr : Cr X l.blk 0 o.cells := Cr_iff.2 hor.at_
            have := hcr.part off (len * es)
            rw [Nat.zero_add] at this
            exact Cr_map (X := X) (Y := plain X) rfl (fun d hd v hv => viewQ_ok hs hq n d v hv) this
          · simp [Vr]
      · split
        · rename_i h0
          subst h0
          simp only [Vr, List.map_nil] at h ⊢
          obtain ⟨l, cap, hl, rfl, hc, hm, _⟩ := h
          exact ⟨Nat.zero_le _, _, cap, rfl, Nat.zero_le _, by simp⟩
        · simp [Vr]
    | pt id off =>
      simp only [viewQ]
      split
      · rename_i hid
        cases ho : s id with
        | none => simp [Vr]
        | some o =>
          simp only [Vr] at h ⊢
          obtain ⟨l, hl, rfl⟩ := h
          obtain ⟨l', hl', hor, _⟩ := hs.objs id o ho
          rw [hl] at hl'; cases hl'
          exact ⟨l.blk, 0, by rw [Nat.zero_add], (hs.notI id o l ho hl).2 (hq id hid o ho), Cr_map (X := X) (Y := plain X) rfl (rec_ o.cells) (Cr_iff.2 hor.at_)⟩
      · simp [Vr]

/-! ### the consumer's own, while the iterator runs -/
def keepN (p : Nat) : Nat → Option Nat := fun id => if id < p then some id else none

structure Held (E : Env) (X : Ctx) (s₀ : Sg) (p : Nat) (ds : List Deferred) (Y : Ctx) (s : Sg) (M : Nat → Prop) : Prop where
  sim : Sim E Y s
  marks : Marks E Y ds
  below : ∀ d ∈ ds, ∀ k, d = { target := .collected k, args := #[] } → k < X.w.heap.size + 2 ∧ k ≠ X.w.heap.size + 1
  moved : Moved p X s₀ Y s
  ren : Ren (keepN p) X Y
  own : ∀ id o lc, s id = some o → Y.μ id = some lc → lc.blk < X.w.heap.size + 2 ∨ M lc.blk
  quiet : ∀ b, Y.I b → b < X.w.heap.size + 2 ∨ M b
  outer : ∀ b, Y.M b → b < X.w.heap.size + 2 ∨ M b
  cell : E.base ≤ X.w.heap.size + 1 ∧ ¬ Y.M (X.w.heap.size + 1) ∧ ¬ Y.I (X.w.heap.size + 1)
  size : X.w.heap.size + 2 ≤ Y.w.heap.size

theorem Held.keep {E : Env} {X : Ctx} {s₀ : Sg} {p : Nat} {ds : List Deferred} {Y : Ctx} {s : Sg} {M : Nat → Prop} (h : Held E X s₀ p ds Y s M) (hE : E.base ≤ X.w.heap.size) (hI : ∀ b, X.I b → b < X.w.heap.size) {w' : World}
    (h1 : w'.os = Y.w.os) (h2 : w'.tape = Y.w.tape) (h3 : w'.output = Y.w.output) (h4 : Y.w.heap.size ≤ w'.heap.size) (h5 : ∀ b, b < Y.w.heap.size → (b < X.w.heap.size + 2 ∨ M b) → w'.heap[b]? = Y.w.heap[b]?) :
    Held E X s₀ p ds { Y with w := w' } s M := by
  have hs := h.sim
  have L : Later Y { Y with w := w' } := ⟨fun _ _ e => e, fun _ e => e, fun b e => h5 b (hs.Ibd b e) (h.quiet b e)⟩
  have hsz := h.size
  refine ⟨⟨hs.env.move h1 h2 h3 h4 fun b hb hc => h5 b hb (hc.elim (fun hlt => .inl (by omega)) (h.outer b)), fun id o ho => ?_, hs.dom, hs.inj, hs.notI, fun b e => Nat.lt_of_lt_of_le (hs.Ibd b e) h4, hs.IM⟩,
    ⟨h.marks.1, fun d hd => ?_⟩, h.below, ⟨h.moved.I, Nat.le_trans h.moved.size h4, fun b hb hn hm => ?_, h.moved.live, h.moved.newI, h.moved.newM, h.moved.pin⟩, ⟨fun b hb => ?_, h.ren.I, h.ren.μ⟩, h.own, h.quiet, h.outer, h.cell, Nat.le_trans h.size h4⟩
  · obtain ⟨lc, g1, g2, g3⟩ := hs.objs id o ho
    exact ⟨lc, g1, g2.later L (h5 _ g2.lt (h.own id o lc ho g1)), g3⟩
  · obtain ⟨k, rfl, hk, hm, hi⟩ := h.marks.2 d hd
    have hlt := (Array.getElem?_eq_some_iff.1 hk).1
    exact ⟨k, rfl, (h5 k hlt (.inl (h.below _ hd k rfl).1)).trans hk, hm, hi⟩
  · exact (h5 b (by omega) (.inl (by omega))).trans (h.moved.frame b hb hn hm)
  · have := hI b hb
    exact (h5 b (by omega) (.inl (by omega))).trans (h.ren.w b hb)

/-- The loop's record turns. -/
theorem Held.put {E : Env} {X : Ctx} {s₀ : Sg} {p : Nat} {ds : List Deferred} {Y : Ctx} {s : Sg} {M : Nat → Prop} (h : Held E X s₀ p ds Y s M) (hI : ∀ b, X.I b → b < X.w.heap.size) {r : Loop} (hr : Y.w.heap[X.w.heap.size + 1]? = some (.loop r)) (o' : Obj) :
    Held E X s₀ p ds { Y with w := Y.w.putObj (X.w.heap.size + 1) o' } s M := by
  have hs := h.sim
  have hsz := h.size
  have hother : ∀ b, b ≠ X.w.heap.size + 1 → (Y.w.putObj (X.w.heap.size + 1) o').heap[b]? = Y.w.heap[b]? := fun b hb => World.putObj_heap_other hb
  have hne : ∀ id o lc, s id = some o → Y.μ id = some lc → lc.blk ≠ X.w.heap.size + 1 := fun id o lc ho hl e => by
    obtain ⟨l', hl', ⟨cur, hc, _⟩, _⟩ := hs.objs id o ho
    rw [hl] at hl'; cases hl'
    rw [e, hr] at hc; cases hc
  have hIne : ∀ b, Y.I b → b ≠ X.w.heap.size + 1 := fun b hb e => h.cell.2.2 (e ▸ hb)
  have L : Later Y { Y with w := Y.w.putObj (X.w.heap.size + 1) o' } := ⟨fun _ _ e => e, fun _ e => e, fun b e => hother b (hIne b e)⟩
  refine ⟨⟨hs.env.move (w' := Y.w.putObj (X.w.heap.size + 1) o') rfl rfl rfl (by simp) fun b _ hc => hother b (fun e => ?_), fun id o ho => ?_, hs.dom, hs.inj, hs.notI, fun b e => by have := hs.Ibd b e; simpa using this, hs.IM⟩,
    ⟨h.marks.1, fun d hd => ?_⟩, h.below, ⟨h.moved.I, by have := h.moved.size; simpa using this, fun b hb hn hm => ?_, h.moved.live, h.moved.newI, h.moved.newM, h.moved.pin⟩, ⟨fun b hb => ?_, h.ren.I, h.ren.μ⟩, h.own, h.quiet, h.outer, h.cell, by simpa using h.size⟩
  · subst e
    rcases hc with hc | hc
    · exact absurd hc (Nat.not_lt.2 h.cell.1)
    · exact h.cell.2.1 hc
  · obtain ⟨lc, g1, g2, g3⟩ := hs.objs id o ho
    exact ⟨lc, g1, g2.later L (hother _ (hne id o lc ho g1)), g3⟩
  · obtain ⟨k, rfl, hk, hm, hi⟩ := h.marks.2 d hd
    exact ⟨k, rfl, (hother k (h.below _ hd k rfl).2).trans hk, hm, hi⟩
  · exact (hother b (by omega)).trans (h.moved.frame b hb hn hm)
  · have := hI b hb
    exact (hother b (by omega)).trans (h.ren.w b hb)

/-- Code of the consumer's has run. -/
theorem Held.step {E : Env} {X : Ctx} {s₀ : Sg} {p : Nat} {ds : List Deferred} {Y Z : Ctx} {s s' : Sg} {M : Nat → Prop} (h : Held E X s₀ p ds Y s M) {r : Loop} (hr : Y.w.heap[X.w.heap.size + 1]? = some (.loop r))
    (hs : Sim E Z s') (hm : Moved p Y s Z s') :
    Held E X s₀ p ds Z s' (fun b => M b ∨ (Y.w.heap.size ≤ b ∧ b < Z.w.heap.size)) ∧ Z.w.heap[X.w.heap.size + 1]? = some (.loop r) := by
  have hsz := h.size
  have hnl : ∀ b, (∀ c e f, Y.w.heap[b]? ≠ some (.cells c e f)) → ¬ Live Y s b := fun b hc hl => by
    obtain ⟨c, e, f, hcell⟩ := hl.cells h.sim
    exact hc c e f hcell
  have hrl : ¬ Live Y s (X.w.heap.size + 1) := hnl _ fun c e f hc => by rw [hr] at hc; cases hc
  have hlt : X.w.heap.size + 1 < Y.w.heap.size := by omega
  refine ⟨⟨hs, ⟨h.marks.1, fun d hd => ?_⟩, h.below, h.moved.trans hm, ⟨fun b hb => ?_, fun b hb => hm.I b (h.ren.I b hb), fun id j lc hj hl => ?_⟩, fun id o lc ho hl => ?_, fun b hb => ?_, fun b hb => ?_, ⟨h.cell.1, fun hc => ?_, fun hc => ?_⟩, Nat.le_trans h.size hm.size⟩, (hm.frame _ hlt hrl h.cell.2.1).trans hr⟩
  · obtain ⟨k, rfl, hk, hmi, hi⟩ := h.marks.2 d hd
    have hklt := (Array.getElem?_eq_some_iff.1 hk).1
    have hkl : ¬ Live Y s k := hnl k fun c e f hc => by rw [hk] at hc; cases hc
    refine ⟨k, rfl, (hm.frame k hklt hkl hmi.2).trans hk, ⟨hmi.1, fun hc => ?_⟩, fun hc => ?_⟩
    · rcases hm.newM k hc with h1 | h1
      · exact hmi.2 h1
      · omega
    · rcases hm.newI k hc with h1 | h1 | h1
      · exact hi h1
      · omega
      · exact hkl h1
  · have hb' := h.ren.I b hb
    exact (hm.frame b (h.sim.Ibd b hb') (h.sim.notLive hb') (h.sim.IM b hb')).trans (h.ren.w b hb)
  · have hlt' : id < p ∧ id = j := by
      unfold keepN at hj
      split at hj
      · rename_i hlt'; simp only [Option.some.injEq] at hj; exact ⟨hlt', hj⟩
      · cases hj
    obtain ⟨hlt', rfl⟩ := hlt'
    exact hm.pin id lc hlt' (h.ren.μ id id lc hj hl)
  · obtain ⟨l', g1, g2, _⟩ := hs.objs id o ho
    rw [hl] at g1; cases g1
    have hblt := g2.lt
    have fromLive : Live Y s lc.blk → lc.blk < X.w.heap.size + 2 ∨ (M lc.blk ∨ (Y.w.heap.size ≤ lc.blk ∧ lc.blk < Z.w.heap.size)) := by
      rintro ⟨id', o', l', k1, _, k3, k4⟩
      rw [← k4]
      exact (h.own id' o' l' k1 k3).imp_right .inl
    cases hf : o.fz with
    | false =>
      rcases hm.live lc.blk ⟨id, o, lc, ho, hf, hl, rfl⟩ with k | k
      · exact .inr (.inr ⟨k, hblt⟩)
      · exact fromLive k
    | true =>
      rcases hm.newI lc.blk ((hs.notI id o lc ho hl).2 hf) with k | k | k
      · exact (h.quiet _ k).imp_right .inl
      · exact .inr (.inr ⟨k, hblt⟩)
      · exact fromLive k
  · rcases hm.newI b hb with k | k | k
    · exact (h.quiet _ k).imp_right .inl
    · exact .inr (.inr ⟨k, hs.Ibd b hb⟩)
    · obtain ⟨id', o', l', k1, _, k3, rfl⟩ := k
      exact (h.own id' o' l' k1 k3).imp_right .inl
  · rcases hm.newM b hb with k | k
    · exact (h.outer _ k).imp_right .inl
    · exact .inr (.inr ⟨k, hs.env.Mbd b hb⟩)
  · rcases hm.newM _ hc with k | k
    · exact h.cell.2.1 k
    · omega
  · rcases hm.newI _ hc with k | k | k
    · exact h.cell.2.2 k
    · omega
    · exact hrl k

theorem Moved.zero {p : Nat} {X Y : Ctx} {s s' : Sg} (h : Moved p X s Y s') : Moved 0 X s Y s' := ⟨h.I, h.size, h.frame, h.live, h.newI, h.newM, fun _ _ hlt => absurd hlt (Nat.not_lt_zero _)⟩

/-! ### the statement -/
/-- The parameters, set. -/
def putAll (t : Nat → D) : List Tmp → List D → Nat → D
  | k :: ks, d :: ds => putAll (upd t k d) ks ds
  | _, _ => t
/-- How a round may end. -/
def rangeQ (p : Nat) (lt : List (Nat × D)) (st : St) (next : Sg) (Q : Exit → St → Prop) : Exit → St → Prop
  | .normal, s => ∃ ids st', Less s ids st' ∧ Pin p ids ∧ st'.s = next ∧ st'.nx = st.nx
  | .ret, s => ∀ dm : Deferred, Q .ret ⟨tl lt, s.s, s.nx, dm :: st.ds, st.n⟩
  | .exit id, s => ∀ dm : Deferred, Q (.exit id) ⟨tl lt, s.s, s.nx, dm :: st.ds, st.n⟩
  | .goto l, s => ∀ dm : Deferred, Q (.goto l) ⟨tl lt, s.s, s.nx, dm :: st.ds, st.n⟩
  | _, _ => False

theorem Tr_putAll {X : Ctx} : ∀ (ps : List Tmp) (ds : List D) (vs : List Value) (t : Nat → D) (tmps : Array Value), Lr X ds vs → (∀ k ∈ ps, k < tmps.size) → ds.length = ps.length → Tr X t tmps →
    Tr X (putAll t ps ds) ((ps.zip vs).foldl (fun tmps (k, v) => tmps.setIfInBounds k v) tmps) ∧ ((ps.zip vs).foldl (fun tmps (k, v) => tmps.setIfInBounds k v) tmps).size = tmps.size
  | [], [], vs, t, tmps, _, _, _, h => by simpa [putAll] using h
  | k :: ps, d :: ds, vs, t, tmps, hl, hk, hn, h => by
    simp only [Lr] at hl
    obtain ⟨v, r, rfl, hv, hr⟩ := hl
    simp only [List.zip_cons_cons, List.foldl_cons, putAll]
    have := Tr_putAll ps ds r (upd t k d) (tmps.setIfInBounds k v) hr (fun j hj => by simpa using hk j (by simp [hj])) (by simpa using hn) (h.put hv (hk k (by simp)))
    simpa using this
  | [], _ :: _, _, _, _, _, _, hn, _ => by simp at hn
  | _ :: _, [], _, _, _, _, _, hn, _ => by simp at hn

theorem run_rangeCall {P : Program} {w : World} {a : Act} {g : Operand} {f : FuncId} {xs ys : Array Value} {l : Nat} (hx : a.eval g = .func (.func f) xs ys) (hc : V.callable P f = true) :
    ∃ d, (resolve a.eval (rangeCall g l) 0).run P w = .ok d w ∧ (invoke d.target d.args).run P w = .ok (.enter f (xs ++ #[.func (.yield l) #[] #[]] ++ ys)) w := by
  unfold V.callable at hc
  cases hf : P.funcs[f]? with
  | none => rw [hf] at hc; cases hc
  | some fn =>
    rw [hf] at hc
    simp only [Bool.and_eq_true, Bool.not_eq_true'] at hc
    have hbody : fn.body.isNone = false := by cases hb : fn.body <;> simp_all
    refine ⟨{ target := .fn (.func f) ys, args := xs ++ #[.func (.yield l) #[] #[]] }, ?_, ?_⟩
    · unfold resolve rangeCall
      simp only [hx, Deferred.ofValue]
      have e : Array.map a.eval #[Operand.const (Value.func (Fn.yield l) #[] #[])] = #[Value.func (Fn.yield l) #[] #[]] := by simp [Act.eval]
      rw [e]
      rfl
    · unfold invoke callFunc
      simp only
      show ((match (P.funcs[f]? : Option Func) with
        | none => stuck "call: no such function"
        | some fn => _ : Sem Next)).run P w = _
      rw [hf]
      simp only [hc.1, hbody, Bool.false_eq_true, if_false]
      rfl

theorem Good.put {E : Env} {Z : Ctx} {st : St} {a : Act} {l : Nat} {r : Loop} (hg : Good E Z st a) (hr : Z.w.heap[l]? = some (.loop r)) (hI : ¬ Z.I l) (hb : E.base ≤ l) (hM : ¬ Z.M l) (o' : Obj) : Good E { Z with w := Z.w.putObj l o' } st a := by
  have hs := hg.sim
  have hother : ∀ b, b ≠ l → (Z.w.putObj l o').heap[b]? = Z.w.heap[b]? := fun b hb => World.putObj_heap_other hb
  have L : Later Z { Z with w := Z.w.putObj l o' } := ⟨fun _ _ e => e, fun _ e => e, fun b e => hother b fun h => hI (h ▸ e)⟩
  refine ⟨⟨hs.env.move (w' := Z.w.putObj l o') rfl rfl rfl (by simp) fun b _ hc => hother b (fun e => ?_), fun id o ho => ?_, hs.dom, hs.inj, hs.notI, fun b e => by have := hs.Ibd b e; simpa using this, hs.IM⟩, hg.tr.later L, hg.fr, hg.ds, hg.size, ⟨hg.marks.1, fun d hd => ?_⟩⟩
  · subst e
    rcases hc with hc | hc
    · exact absurd hc (Nat.not_lt.2 hb)
    · exact hM hc
  · obtain ⟨lc, g1, g2, g3⟩ := hs.objs id o ho
    refine ⟨lc, g1, g2.later L (hother _ fun e => ?_), g3⟩
    obtain ⟨cur, hc, _⟩ := g2
    rw [e, hr] at hc; cases hc
  · obtain ⟨k, rfl, hk, hm, hi⟩ := hg.marks.2 d hd
    exact ⟨k, rfl, (hother k fun e => by rw [e, hr] at hk; cases hk).trans hk, hm, hi⟩

theorem Held.less {E : Env} {X : Ctx} {s₀ : Sg} {p : Nat} {ds : List Deferred} {Y : Ctx} {st st' : St} {a : Act} {M : Nat → Prop} {ids : List Nat} (h : Held E X s₀ p ds Y st.s M) (hg : Good E Y st a) (hl : Less st ids st') (hp : Pin p ids) :
    Held E X s₀ p ds { Y with μ := fun i => (ids[i]?).bind Y.μ } st'.s M := by
  refine ⟨(hg.less hl).sim, h.marks, h.below, h.moved.trans (hl.moved hg hp), ⟨h.ren.w, h.ren.I, fun id j lc hj hlc => ?_⟩, fun j o lc ho hlc => ?_, h.quiet, h.outer, h.cell, h.size⟩
  · have hlt' : id < p ∧ id = j := by
      unfold keepN at hj
      split at hj
      · rename_i hlt'; simp only [Option.some.injEq] at hj; exact ⟨hlt', hj⟩
      · cases hj
    obtain ⟨hlt', rfl⟩ := hlt'
    show (ids[id]?).bind Y.μ = some lc
    rw [hp id hlt']
    exact h.ren.μ id id lc hj hlc
  · rcases hl.s j with e | ⟨id, o', k1, k2, k3⟩
    · rw [e] at ho; cases ho
    · simp only [k1, Option.bind_some] at hlc
      exact h.own id o' lc k2 hlc

/-- What two steps of the consumer's do to the rest. -/
theorem Held.grow {E : Env} {X : Ctx} {s₀ : Sg} {p : Nat} {ds : List Deferred} {Y Z Z2 : Ctx} {s s1 s2 : Sg} {M : Nat → Prop} {o1 o2 : Obj} (h : Held E X s₀ p ds Y s M) (hm : Moved p Y s Z s1)
    (h2 : Held E X s₀ p ds { Z with w := Z.w.putObj (X.w.heap.size + 1) o1 } s1 (fun b => M b ∨ (Y.w.heap.size ≤ b ∧ b < Z.w.heap.size))) (hm2 : Moved p { Z with w := Z.w.putObj (X.w.heap.size + 1) o1 } s1 Z2 s2)
    {M' : Nat → Prop} (h4 : Held E X s₀ p ds { Z2 with w := Z2.w.putObj (X.w.heap.size + 1) o2 } s2 M') (hM' : ∀ b, M' b ↔ (M b ∨ (Y.w.heap.size ≤ b ∧ b < Z.w.heap.size)) ∨ (Z.w.heap.size ≤ b ∧ b < Z2.w.heap.size)) (hI : ∀ b, X.I b → b < X.w.heap.size) :
    Grow (X.w.heap.size + 2) X.I M Y.w M' (Z2.w.putObj (X.w.heap.size + 1) o2) := by
  have z1 := hm.size
  have z2 : Z.w.heap.size ≤ Z2.w.heap.size := by have := hm2.size; simpa using this
  refine ⟨by simp; omega, fun b hb => (hM' b).2 (.inl (.inl hb)), fun b hb => ?_, fun b hlt hbase hnM => ?_, fun b hb => ?_⟩
  · rcases (hM' b).1 hb with (k | k) | k
    · exact .inl k
    · exact .inr ⟨k.1, by simp; omega⟩
    · exact .inr ⟨by omega, by simp; omega⟩
  · have hne : b ≠ X.w.heap.size + 1 := by omega
    have hnM1 : ¬ (M b ∨ (Y.w.heap.size ≤ b ∧ b < Z.w.heap.size)) := by
      rintro (k | k)
      · exact hnM k
      · omega
    have a1 : Z.w.heap[b]? = Y.w.heap[b]? := hm.frame b hlt (fun hl => by
      obtain ⟨id, o, lc, k1, _, k3, rfl⟩ := hl
      rcases h.own id o lc k1 k3 with k | k
      · omega
      · exact hnM k) fun hc => by
      rcases h.outer b hc with k | k
      · omega
      · exact hnM k
    have a2 : Z2.w.heap[b]? = (Z.w.putObj (X.w.heap.size + 1) o1).heap[b]? := hm2.frame b (by simp; omega) (fun hl => by
      obtain ⟨id, o, lc, k1, _, k3, rfl⟩ := hl
      rcases h2.own id o lc k1 k3 with k | k
      · omega
      · exact hnM1 k) fun hc => by
      rcases h2.outer b hc with k | k
      · omega
      · exact hnM1 k
    rw [World.putObj_heap_other hne, a2, World.putObj_heap_other hne, a1]
  · rw [h4.ren.w b hb, h.ren.w b hb]

theorem T_range {P : Program} {g : Operand} {ps : Array Tmp} {assign body : Code} {st : St} {Q : Exit → St → Prop} {f : FuncId} {first caps fv cv : List D} {L : List (List D)} (it : ItC P f fv cv L) (q : List Nat) (p : Nat) (lt : List (Nat × D)) (S : Nat → Sg)
    (hg : ev st g = .fn (.func f) first caps) (hq : ∀ id ∈ q, ∀ o, st.s id = some o → o.fz = true) (hfv : first.map (viewQ st.s q 5) = fv) (hcv : caps.map (viewQ st.s q 5) = cv)
    (hlen : ∀ ds ∈ L, ds.length = ps.size) (hps : ∀ k ∈ ps.toList, k < st.n) (hlt : Has st.t lt) (hpin : ∀ k, ren (keepN p) (tl lt k) = tl lt k) (h0 : S 0 = st.s)
    (round : ∀ (l i : Nat) (ds : List D), L[i]? = some ds → T P (some (l, p)) assign ⟨putAll (tl lt) ps.toList ds, S i, st.nx, [], st.n⟩ (Exit.thenV (fun s => T P (some (l, p)) body s (rangeQ p lt st (S (i + 1)) Q)) fun _ _ => False))
    (done : ∀ dm : Deferred, Q .normal ⟨tl lt, S L.length, st.nx, dm :: st.ds, st.n⟩) : T P none (.rangeFunc g ps assign body) st Q := by
  intro E m X a hgood
  have hv := hgood.ev g
  rw [hg] at hv
  simp only [Vr] at hv
  obtain ⟨xs, ys, hgv, hx1, hx2⟩ := hv
  have hE : E.base ≤ X.w.heap.size := hgood.sim.env.base
  have hI : ∀ b, X.I b → b < X.w.heap.size := hgood.sim.Ibd
  refine wpIn_rangeFunc fun fn _ => ?_
  let dm : Deferred := { target := .collected X.w.heap.size, args := #[] }
  let rl : Loop := { state := .ready, pending := none, fn := fn, tmps := a.tmps, params := ps, assign := assign, body := body, defers := X.w.heap.size }
  let w₁ : World := (X.w.alloc (.deferred (some []))).alloc (.loop rl)
  let lp : Nat := X.w.heap.size + 1
  obtain ⟨d, hres, hinv⟩ := run_rangeCall (P := P) (w := w₁) (l := lp) hgv it.callable
  have hbel : Below X.w.heap.size X.w w₁ := ((Below.refl X.w.heap.size X.w).alloc (Nat.le_refl _) _).alloc (by simp) _
  have hsz1 : w₁.heap.size = X.w.heap.size + 2 := by simp [w₁]
  have hl1 : w₁.heap[lp]? = some (.loop rl) := by
    have := World.alloc_heap_new (X.w.alloc (.deferred (some []))) (.loop rl)
    simpa [w₁, lp] using this
  have hd1 : w₁.heap[X.w.heap.size]? = some (.deferred (some [])) := by
    have h1 := World.alloc_heap_new X.w (.deferred (some []))
    have h2 : w₁.heap[X.w.heap.size]? = (X.w.alloc (.deferred (some []))).heap[X.w.heap.size]? := Below.heap_alloc _ _ _ (by simp)
    rw [h2]; exact h1
  obtain ⟨hsim1, hstep1⟩ := hgood.sim.world hbel
  let Y₀ : Ctx := { X with w := w₁ }
  have hMine : ∀ k, X.w.heap.size ≤ k → Mine E X k := fun k hk => ⟨by omega, fun hm => by have := hgood.sim.env.Mbd k hm; omega⟩
  have hheld0 : Held E X st.s p (dm :: st.ds) Y₀ st.s (fun _ => False) := by
    refine ⟨hsim1, ⟨List.nodup_cons.2 ⟨fun hmem => ?_, hgood.marks.1⟩, fun d hd => ?_⟩, fun d hd k hk => ?_, hstep1.moved, ⟨fun b hb => hbel.block b (hI b hb), fun _ e => e, fun id j lc hj hl => ?_⟩, fun id o lc ho hl => .inl ?_, fun b hb => .inl ?_, fun b hb => .inl ?_, ⟨by omega, fun hm => ?_, fun hi => ?_⟩, Nat.le_of_eq hsz1.symm⟩
    · obtain ⟨k, hk, hk2, _⟩ := hgood.marks.2 _ hmem
      have : X.w.heap.size = k := by simpa [dm] using hk
      have := (Array.getElem?_eq_some_iff.1 hk2).1
      omega
    · rcases List.mem_cons.1 hd with rfl | hd
      · exact ⟨_, rfl, hd1, hMine _ (Nat.le_refl _), fun hi => by have := hI _ hi; omega⟩
      · obtain ⟨k, rfl, hk, hm, hi⟩ := hgood.marks.2 d hd
        exact ⟨k, rfl, (hbel.block k (Array.getElem?_eq_some_iff.1 hk).1).trans hk, hm, hi⟩
    · rcases List.mem_cons.1 hd with rfl | hd
      · have : X.w.heap.size = k := by simpa [dm] using hk
        omega
      · obtain ⟨k', e, hk', _⟩ := hgood.marks.2 d hd
        rw [hk] at e
        have : k = k' := by simpa using e
        have := (Array.getElem?_eq_some_iff.1 hk').1
        omega
    · unfold keepN at hj
      split at hj
      · simp only [Option.some.injEq] at hj; subst hj; exact hl
      · cases hj
    · obtain ⟨l', g1, g2, _⟩ := hgood.sim.objs id o ho
      have hl' : X.μ id = some lc := hl
      rw [hl'] at g1; cases g1
      have := g2.lt
      omega
    · have := hI b hb; omega
    · have := hgood.sim.env.Mbd b hb; omega
    · have := hgood.sim.env.Mbd _ hm; omega
    · have := hI _ hi; omega
  -- what holds while the iterator runs
  let J : Option Nat → (Nat → Prop) → World → Prop := fun σ M w' =>
    match σ with
    | some i => ∃ Y, Y.w = w' ∧ Held E X st.s p (dm :: st.ds) Y (S i) M ∧ (∀ id, st.nx ≤ id → Y.μ id = none) ∧ w'.heap[lp]? = some (.loop rl)
    | none => ∃ Y s' nx' jc e, Y.w = w' ∧ Held E X st.s p (dm :: st.ds) Y s' M ∧ (∀ id, nx' ≤ id → Y.μ id = none) ∧ w'.heap[lp]? = some (.loop { rl with state := .done, pending := some jc }) ∧
        ((jc = .ret ∧ e = Exit.ret) ∨ (∃ id, jc = .exit id ∧ e = Exit.exit id) ∨ (∃ t, jc = .goto t ∧ e = Exit.goto t)) ∧ Q e ⟨tl lt, s', nx', dm :: st.ds, st.n⟩
  have hkeep : ∀ (σ : Option Nat) (M : Nat → Prop) (w w' : World), J σ M w → w'.os = w.os → w'.tape = w.tape → w'.output = w.output → w.heap.size ≤ w'.heap.size →
      (∀ b, b < w.heap.size → (b < X.w.heap.size + 2 ∨ M b) → w'.heap[b]? = w.heap[b]?) → J σ M w' := by
    intro σ M w' w'' hJ h1 h2 h3 h4 h5
    cases σ with
    | some i =>
      obtain ⟨Y, rfl, hh, hf, hr⟩ := hJ
      have hlt := (Array.getElem?_eq_some_iff.1 hr).1
      exact ⟨{ Y with w := w'' }, rfl, hh.keep hE hI h1 h2 h3 h4 h5, hf, (h5 lp hlt (.inl (by simp [lp]))).trans hr⟩
    | none =>
      obtain ⟨Y, s', nx', jc, e, rfl, hh, hf, hr, hj, hQ⟩ := hJ
      have hlt := (Array.getElem?_eq_some_iff.1 hr).1
      exact ⟨{ Y with w := w'' }, s', nx', jc, e, rfl, hh.keep hE hI h1 h2 h3 h4 h5, hf, (h5 lp hlt (.inl (by simp [lp]))).trans hr, hj, hQ⟩
  have hgl : ∀ (σ : Option Nat) (M : Nat → Prop) (w : World), J σ M w → Gl w := by
    intro σ M w' hJ
    cases σ with
    | some i => obtain ⟨Y, rfl, hh, _⟩ := hJ; exact E.gl _ _ hh.sim.env.inv
    | none => obtain ⟨Y, s', nx', jc, e, rfl, hh, _⟩ := hJ; exact E.gl _ _ hh.sim.env.inv
  let pr : Prot := ⟨X.w.heap.size + 2, X.I, L, lp, J, hkeep, hgl⟩
  have hlt' : ∀ k, Vr X (tl lt k) (a.tmps.getD k undef) := fun k => by
    rcases hlt.at_ k with e | e
    · rw [e]; exact hgood.tr k
    · rw [e]; simp [Vr]
  have htr : ∀ Y s M, Held E X st.s p (dm :: st.ds) Y s M → Tr Y (tl lt) a.tmps := fun Y s M hh k => by
    have := Vr_ren hh.ren (tl lt k) (hlt' k)
    rwa [hpin] at this
  have hok : pr.Ok P := by
    refine ⟨fun i ds M w vs hL hJ hM hvs => ?_⟩
    obtain ⟨Y, rfl, hh, hf, hr⟩ := hJ
    have hdl : ds.length = ps.size := hlen ds (List.mem_of_getElem? hL)
    have hvl := Lr_length hvs
    refine ⟨fn, _, assign, body, run_yield hr (by simp [rl, hvl, hdl]), roundIn_of_wpIn (F := Fw none) trivial ?_⟩
    have hY := hh.sim
    have hL0 : Later ⟨fun _ => none, fun _ => False, Y.w, fun _ => False⟩ Y := ⟨fun _ _ e => (by cases e), fun _ e => False.elim e, fun _ e => False.elim e⟩
    have hvs' : Lr Y ds vs := Lr_later hL0 ds hvs
    obtain ⟨t1, t2⟩ := Tr_putAll (X := Y) ps.toList ds vs (tl lt) a.tmps hvs' (fun k hk => by rw [hgood.size]; exact hps k hk) (by simpa using hdl) (htr Y _ M hh)
    have hfold : ((ps.zip vs.toArray).foldl (fun tmps (t, a) => tmps.setIfInBounds t a) a.tmps) = ((ps.toList.zip vs).foldl (fun tmps (k, v) => tmps.setIfInBounds k v) a.tmps) := by
      rw [← Array.foldl_toList]
      simp
    have hg0 : Good E Y ⟨putAll (tl lt) ps.toList ds, S i, st.nx, [], st.n⟩ { tmps := (ps.zip vs.toArray).foldl (fun tmps (t, a) => tmps.setIfInBounds t a) a.tmps, defers := [] } := by
      refine ⟨hY, by rw [hfold]; exact t1, hf, rfl, by rw [hfold, t2]; exact hgood.size, by simp [Marks]⟩
    have hT := round lp i ds hL E 0 Y _ hg0
    refine wpIn_mono hT fun e a₁ w₁' hp => ?_
    cases e with
    | normal =>
      obtain ⟨Z, s1, rfl, hz1, hz2, hbody⟩ := hp
      obtain ⟨hh1, hr1⟩ := hh.step hr hz1.sim hz2
      refine ⟨_, run_beginRound hr1 rfl, ?_⟩
      have hh2 := hh1.put hI hr1 (.loop { rl with state := .busy })
      have hr2 : (Z.w.putObj lp (.loop { rl with state := .busy })).heap[lp]? = some (.loop { rl with state := .busy }) := World.putObj_heap_same (Array.getElem?_eq_some_iff.1 hr1).1
      have hg1 : Good E { Z with w := Z.w.putObj lp (.loop { rl with state := .busy }) } s1 a₁ := Good.put hz1 hr1 hh1.cell.2.2 hh1.cell.1 hh1.cell.2.1 _
      have hB := hbody E 0 _ a₁ hg1
      refine wpIn_mono hB fun e2 a₂ w₂ hp2 => ?_
      have stop : ∀ (jc : Code) (ex : Exit), ((jc = .ret ∧ ex = Exit.ret) ∨ (∃ id, jc = .exit id ∧ ex = Exit.exit id) ∨ (∃ t, jc = .goto t ∧ ex = Exit.goto t)) → (∀ s2, rangeQ p lt st (S (i + 1)) Q ex s2 → Q ex ⟨tl lt, s2.s, s2.nx, dm :: st.ds, st.n⟩) →
          Post (pinOf (some (lp, p))) E { Z with w := Z.w.putObj lp (.loop { rl with state := .busy }) } s1 (rangeQ p lt st (S (i + 1)) Q ex) a₂ w₂ →
          ∃ v w', (Instr.endRound lp (some jc)).run P w₂ = .ok v w' ∧ ∃ M' b, Ending.returned v = .returned (.bool b) ∧ Grow pr.base pr.I M Y.w M' w' ∧ pr.J (if b = true then some (i + 1) else none) M' w' := by
        intro jc ex hjc hq2 hp2
        obtain ⟨Z2, s2, rfl, hz3, hm3, hQ2⟩ := hp2
        obtain ⟨M3, hM3, hh3, hr3⟩ : ∃ M3 : Nat → Prop, (∀ b, M3 b ↔ (M b ∨ (Y.w.heap.size ≤ b ∧ b < Z.w.heap.size)) ∨ (Z.w.heap.size ≤ b ∧ b < Z2.w.heap.size)) ∧ Held E X st.s p (dm :: st.ds) Z2 s2.s M3 ∧ Z2.w.heap[X.w.heap.size + 1]? = some (.loop { rl with state := .busy }) :=
          ⟨_, fun b => by simp, hh2.step hr2 hz3.sim hm3⟩
        have hh4 := hh3.put hI hr3 (.loop { rl with state := .done, pending := some jc })
        refine ⟨_, _, run_endRound (some jc) hr3, M3, false, rfl, ?_, ?_⟩
        · exact Held.grow hh hz2 hh2 hm3 hh4 hM3 hI
        · exact ⟨_, s2.s, s2.nx, jc, ex, rfl, hh4, hz3.fr, World.putObj_heap_same (Array.getElem?_eq_some_iff.1 hr3).1, hjc, hq2 s2 hQ2⟩
      cases e2 with
      | normal =>
        obtain ⟨Z2, s2, rfl, hz3, hm3, ids, st', hless, hpin2, hs', hnx'⟩ := hp2
        obtain ⟨M3, hM3, hh3, hr3⟩ : ∃ M3 : Nat → Prop, (∀ b, M3 b ↔ (M b ∨ (Y.w.heap.size ≤ b ∧ b < Z.w.heap.size)) ∨ (Z.w.heap.size ≤ b ∧ b < Z2.w.heap.size)) ∧ Held E X st.s p (dm :: st.ds) Z2 s2.s M3 ∧ Z2.w.heap[X.w.heap.size + 1]? = some (.loop { rl with state := .busy }) :=
          ⟨_, fun b => by simp, hh2.step hr2 hz3.sim hm3⟩
        have hh4 := hh3.put hI hr3 (.loop rl)
        have hz4 := Good.put hz3 hr3 hh3.cell.2.2 hh3.cell.1 hh3.cell.2.1 (.loop rl)
        have hh5 := hh4.less hz4 hless hpin2
        refine ⟨_, _, run_endRound none hr3, M3, true, rfl, ?_, ?_⟩
        · exact Held.grow hh hz2 hh2 hm3 hh4 hM3 hI
        · refine ⟨_, rfl, by rw [← hs']; exact hh5, fun id hid => ?_, World.putObj_heap_same (Array.getElem?_eq_some_iff.1 hr3).1⟩
          exact (hz4.less hless).fr id (by rw [hnx']; exact hid)
      | ret => exact stop .ret .ret (.inl ⟨rfl, rfl⟩) (fun s2 h => h dm) hp2
      | exit id => exact stop (.exit id) (.exit id) (.inr (.inl ⟨id, rfl, rfl⟩)) (fun s2 h => h dm) hp2
      | goto t => exact stop (.goto t) (.goto t) (.inr (.inr ⟨t, rfl, rfl⟩)) (fun s2 h => h dm) hp2
      | _ => obtain ⟨_, _, _, _, _, hF⟩ := hp2; exact hF.elim
    | _ => obtain ⟨_, _, _, _, _, hF⟩ := hp; exact hF.elim
  refine ⟨lp, [dm], w₁, d, w₁, f, _, w₁, run_enterLoop_outer fn a.tmps ps assign body, hres, fun _ _ => trivial, hinv, fun h => (by cases h), ?_⟩
  have hargs : Lr ⟨fun _ => none, X.I, w₁, fun _ => False⟩ (fv ++ .fn (.yield lp) [] [] :: cv) (xs ++ #[Value.func (.yield lp) #[] #[]] ++ ys).toList := by
    have L1 : Later (plain X) ⟨fun _ => none, X.I, w₁, fun _ => False⟩ := ⟨fun _ _ e => e, fun _ e => e, fun b e => hbel.block b (hI b e)⟩
    have h1 : Lr (plain X) fv xs.toList := by rw [← hfv]; exact Lr_map (fun d _ v hv => viewQ_ok hgood.sim hq 5 d v hv) hx1
    have h2 : Lr (plain X) cv ys.toList := by rw [← hcv]; exact Lr_map (fun d _ v hv => viewQ_ok hgood.sim hq 5 d v hv) hx2
    have e : (xs ++ #[Value.func (.yield lp) #[] #[]] ++ ys).toList = xs.toList ++ (Value.func (.yield lp) #[] #[] :: ys.toList) := by simp
    rw [e]
    exact Lr_append (Lr_later L1 _ h1) (by simp only [Lr]; exact ⟨_, _, rfl, by simp [Vr, Lr], Lr_later L1 _ h2⟩)
  have hcalls := it.calls pr hok rfl w₁ _ hsz1.symm ⟨Y₀, rfl, by rw [h0]; exact hheld0, hgood.fr, hl1⟩ (fun b hb => by have := hI b hb; omega) hargs
  have hcalls' := callsIn_Fw (ro := none) (m := m - 1) hcalls
  rw [show (xs ++ #[Value.func (.yield lp) #[] #[]] ++ ys).toList.toArray = xs ++ #[Value.func (.yield lp) #[] #[]] ++ ys from rfl] at hcalls'
  refine hcalls'.mono fun e w' => ?_
  rintro ⟨v, σ, M', rfl, hJ, hσ, _, _⟩
  rcases hσ with rfl | rfl
  · obtain ⟨Y, rfl, hh, hf, hr⟩ := hJ
    refine ⟨none, _, run_endLoop hr (by simp [rl]), ?_⟩
    have hh' := hh.put hI hr (.loop { rl with state := .exhausted })
    exact ⟨_, ⟨tl lt, S L.length, st.nx, dm :: st.ds, st.n⟩, rfl, ⟨hh'.sim, htr _ _ _ hh', hf, by simp [hgood.ds], hgood.size, hh'.marks⟩, hh'.moved.zero, done dm⟩
  · obtain ⟨Y, s', nx', jc, e, rfl, hh, hf, hr, hj, hQ⟩ := hJ
    refine ⟨some jc, _, run_endLoop hr (by simp), ?_⟩
    have hh' := hh.put hI hr (.loop { rl with state := .exhausted, pending := some jc })
    have hg' : Good E { Y with w := Y.w.putObj lp (.loop { rl with state := .exhausted, pending := some jc }) } ⟨tl lt, s', nx', dm :: st.ds, st.n⟩ { a with defers := [dm] ++ a.defers } := ⟨hh'.sim, htr _ _ _ hh', hf, by simp [hgood.ds], hgood.size, hh'.marks⟩
    rcases hj with ⟨rfl, rfl⟩ | ⟨id, rfl, rfl⟩ | ⟨t, rfl, rfl⟩
    · exact wpIn_ret ⟨_, ⟨tl lt, s', nx', dm :: st.ds, st.n⟩, rfl, hg', hh'.moved.zero, hQ⟩
    · exact wpIn_exit ⟨_, ⟨tl lt, s', nx', dm :: st.ds, st.n⟩, rfl, hg', hh'.moved.zero, hQ⟩
    · exact wpIn_goto ⟨_, ⟨tl lt, s', nx', dm :: st.ds, st.n⟩, rfl, hg', hh'.moved.zero, hQ⟩

end Go.Proofs.YtglnkfpmogaifaaGreatDoor.V

/-
  Steps in a region with yields; a range over a function, among codes.
-/
namespace Go.Proofs.YtglnkfpmogaifaaGreatDoor.V
open Go Go.RowKit

section
variable {P : Program} {pr : Prot} {ops : Array Oper} {K : Option Nat → St → Prop} {σ : Option Nat} {rest : List Oper} {t : Nat → D} {s : Sg} {nx n : Nat} {ds : List Deferred} {op : Op} {ty : TypeId} {pos : String} {after : Array Edge} {k : Tmp}
theorem vy_nil {st : St} (h : K σ st) : vrunG P pr ops K [] σ st := h
theorem vy_val {d : D} {rd : List Nat} (h : valOf P ⟨t, s, nx, ds, n⟩ op = some (d, rd)) (hf : k < n) (hk : vrunG P pr ops K rest σ ⟨upd t k d, s, nx, ds, n⟩) :
    vrunG P pr ops K (⟨some k, op, ty, pos, after, none⟩ :: rest) σ ⟨t, s, nx, ds, n⟩ :=
  .inl ⟨true, rfl, fun _ e => by cases e; exact hf, fun _ => valOf_do h hk, fun e => by cases e⟩
theorem vy_new {d : D} {ob : O} {nx' : Nat} (h : newOf P ⟨t, s, nx, ds, n⟩ op = some (d, ob)) (hf : k < n) (hn : nx + 1 = nx') (hk : vrunG P pr ops K rest σ ⟨upd t k d, upd s nx (some ob), nx', ds, n⟩) :
    vrunG P pr ops K (⟨some k, op, ty, pos, after, none⟩ :: rest) σ ⟨t, s, nx, ds, n⟩ := by
  subst hn
  exact .inl ⟨true, rfl, fun _ e => by cases e; exact hf, fun _ => newOf_do h hk, fun e => by cases e⟩
theorem vy_store {id : Nat} {ob : O} (h : stOf P ⟨t, s, nx, ds, n⟩ op = some (id, ob)) (hk : vrunG P pr ops K rest σ ⟨t, upd s id (some ob), nx, ds, n⟩) :
    vrunG P pr ops K (⟨none, op, ty, pos, after, none⟩ :: rest) σ ⟨t, s, nx, ds, n⟩ :=
  .inl ⟨true, rfl, fun _ e => (by cases e), fun _ => stOf_do h hk, fun e => by cases e⟩
theorem vy_gval {d : D} {j g : Nat} {want b : Bool} {rd : List Nat} (hj : (ops[j]?).bind (·.dst) = some g) (hb : t g = .sc (.bool b)) (h : b = want → valOf P ⟨t, s, nx, ds, n⟩ op = some (d, rd)) (hf : k < n)
    (hk : vrunG P pr ops K rest σ ⟨upd t k (gd b want d), s, nx, ds, n⟩) :
    vrunG P pr ops K (⟨some k, op, ty, pos, after, some (j, want)⟩ :: rest) σ ⟨t, s, nx, ds, n⟩ := by
  refine .inl ⟨b == want, vwant_of rfl hj hb, fun _ e => by cases e; exact hf, fun e => valOf_do (h (by simpa using e)) ?_, fun e => ?_⟩
  · rw [gd_pos (by simpa using e)] at hk; exact hk
  · have : gd b want d = .sc undef := if_neg (by simpa using e)
    rw [this] at hk; exact hk
theorem vy_call0 {x : Operand} {args : Array Operand} {ats : Array TypeId} {g : FuncId} {first caps : List D} {all : List D} {r r' : D} (hc : Con P g all r []) (hx : ev ⟨t, s, nx, ds, n⟩ x = .fn (.func g) first caps)
    (ha : (first ++ args.toList.map (ev ⟨t, s, nx, ds, n⟩) ++ caps).map (view s 5) = all) (hcl : closed r = true) (hf : k < n)
    (hr : ren (shift nx 0) r = r') (hk : vrunG P pr ops K rest σ ⟨upd t k r', s, nx, ds, n⟩) :
    vrunG P pr ops K (⟨some k, .call ⟨.value x, args, ats⟩, ty, pos, after, none⟩ :: rest) σ ⟨t, s, nx, ds, n⟩ := by
  subst hr
  exact .inl ⟨true, rfl, fun _ e => by cases e; exact hf, fun _ => .inl ⟨g, first, caps, hx, r, [], by rw [ha]; exact hc, by rw [callEff_closed (by simpa using hcl)]; exact hk⟩, fun e => by cases e⟩
/-- A yield. -/
theorem vy_yield {x : Operand} {args : Array Operand} {ats : Array TypeId} {i : Nat} {l : List D} (hi : σ = some i) (hx : ev ⟨t, s, nx, ds, n⟩ x = .fn (.yield pr.l) [] []) (hL : pr.L[i]? = some l) (ha : args.toList.map (ev ⟨t, s, nx, ds, n⟩) = l) (hfl : l.all flat = true) (hf : k < n)
    (h1 : vrunG P pr ops K rest (some (i + 1)) ⟨upd t k (.sc (.bool true)), s, nx, ds, n⟩) (h2 : vrunG P pr ops K rest none ⟨upd t k (.sc (.bool false)), s, nx, ds, n⟩) :
    vrunG P pr ops K (⟨some k, .call ⟨.value x, args, ats⟩, ty, pos, after, none⟩ :: rest) σ ⟨t, s, nx, ds, n⟩ :=
  .inr ⟨i, x, args, ats, l, rfl, hi, rfl, fun _ e => by cases e; exact hf, hx, hL, hfl, ha, h1, h2⟩
end

section
variable {P : Program} {p : Prot} {σ : Option Nat} {st : St} {Q : Exit → Option Nat → St → Prop} {k : List Code}
theorem RG_nilB {id : Nat} {K : Option Nat → St → Prop} (h : K σ st) : RG P p [] σ st (blockG id K Q) := h
theorem RG_exitB {id : Nat} {K : Option Nat → St → Prop} (h : K σ st) : RG P p (.exit id :: k) σ st (blockG id K Q) := RG_exit (by simp only [blockG, ↓reduceIte]; exact h)
theorem RG_exitR {id : Nat} {K I : Option Nat → St → Prop} (h : K σ st) : RG P p (.exit id :: k) σ st (roundG I (blockG id K Q)) := RG_exit (by simp only [roundG, blockG, ↓reduceIte]; exact h)
theorem RG_nilR {I : Option Nat → St → Prop} (h : I σ st) : RG P p [] σ st (roundG I Q) := h
theorem RG_sl {c : Code} (j : Nat) {n : Nat} {cs : List D} (hj : st.t j = .sl n cs) (h : n ≤ 9223372036854775807 → RG P p (c :: k) σ st Q) : RG P p (c :: k) σ st Q := by
  intro m X a hg
  have hv := hg.good.tr j
  rw [hj] at hv
  simp only [Vr] at hv
  exact h hv.1 m X a hg
end

/-- A range over a function, among codes. -/
theorem R_range {P : Program} {g : Operand} {ps : List Tmp} {assign body : Code} {k : List Code} {t : Nat → D} {s : Sg} {nx n : Nat} {ds : List Deferred} {Q : Exit → St → Prop} {f : FuncId} {first caps fv cv : List D} {L : List (List D)} (it : ItC P f fv cv L) (q : List Nat) (p : Nat) (lt : List (Nat × D)) (S : Nat → Sg)
    (hg : ev ⟨t, s, nx, ds, n⟩ g = .fn (.func f) first caps) (hq : ∀ id ∈ q, ∀ o, s id = some o → o.fz = true) (hfv : first.map (viewQ s q 5) = fv) (hcv : caps.map (viewQ s q 5) = cv)
    (hlen : ∀ ds ∈ L, ds.length = ps.length) (hps : ∀ k ∈ ps, k < n) (hlt : Has t lt) (hpin : ∀ k, ren (keepN p) (tl lt k) = tl lt k) (h0 : S 0 = s)
    (round : ∀ (l i : Nat) (d : List D), L[i]? = some d → R P (some (l, p)) [assign] ⟨putAll (tl lt) ps d, S i, nx, [], n⟩ (roundQ (fun s' => R P (some (l, p)) [body] s' (rangeQ p lt ⟨t, s, nx, ds, n⟩ (S (i + 1)) (Exit.thenV (fun s => R P none k s Q) Q))) fun _ _ => False))
    (done : ∀ dm : Deferred, R P none k ⟨tl lt, S L.length, nx, dm :: ds, n⟩ Q) : R P none (.rangeFunc g ps.toArray assign body :: k) ⟨t, s, nx, ds, n⟩ Q := by
  refine T_range it q p lt S hg hq hfv hcv (by simpa using hlen) (by simpa using hps) hlt hpin h0 (fun l i d hL => ?_) done
  refine T.mono (T_of_R (round l i d hL)) fun e s' hq' => ?_
  cases e with
  | normal => exact T_of_R hq'
  | _ => exact hq'

theorem initT_eq (xs : List D) : initT xs = tl (xs.zipIdx.map fun p => (p.2, p.1)) := by
  have e1 : ∀ (xs : List D) (k j : Nat), k ≤ j → tl (xs.zipIdx k |>.map fun p => (p.2, p.1)) j = xs.getD (j - k) .junk := by
    intro xs
    induction xs with
    | nil => intro k j _; rfl
    | cons a xs ih =>
      intro k j hkj
      simp only [List.zipIdx_cons, List.map_cons, tl_cons]
      split
      · rename_i e; subst e; simp
      · rw [ih (k + 1) j (by omega), show j - k = (j - (k + 1)) + 1 by omega]; rfl
  funext j
  rw [e1 xs 0 j (Nat.zero_le _)]; rfl

/-! ### a scope of labels that nothing jumps to -/
theorem stepR_scope {P : Program} {b : Frame} {a : Act} {k : List Item} {cs : List Frame} {w : World} {c : Code} : step P (lone (b.atR a (.code (.scope c) :: k)) cs w) = .next (lone (b.atR a (.code c :: .inScope c :: k)) cs w) :=
  step_lone_go (by simp [stepG, stepG.exec, Frame.atR])
theorem stepR_inScope {P : Program} {b : Frame} {a : Act} {k : List Item} {cs : List Frame} {w : World} {c : Code} : step P (lone (b.atR a (.inScope c :: k)) cs w) = .next (lone (b.atR a k) cs w) :=
  step_lone_go (by simp [stepG, stepG.exec, Frame.atR])
/-- How such a scope ends. -/
def scopeQ (K : St → Prop) (Q : Exit → St → Prop) : Exit → St → Prop
  | .normal, s => K s
  | .goto _, _ => False
  | e, s => Q e s
theorem R_scope {P : Program} {ro : Option (Nat × Nat)} {st : St} {Q : Exit → St → Prop} {k : List Code} {c : Code} (h : R P ro [c] st (scopeQ (fun s => R P ro k s Q) Q)) : R P ro (.scope c :: k) st Q := by
  intro E m X a hg b kk cs hro hb hr
  have h0 : (lone (b.atR a (.code (.scope c) :: kk)) cs X.w).fenced P (Fw (ro.map (·.1))) := fenced_calm hb hr rfl
  obtain ⟨e, a₁, w₁, hq, harr⟩ := (T_of_R h) E m X a hg b (.inScope c :: kk) cs hro hb hr
  cases e with
  | normal => exact ⟨.normal, a₁, w₁, hq, .head h0 stepR_scope (StepsIn.trans harr (.one (fenced_calm hb hr rfl) stepR_inScope))⟩
  | exit id =>
    have hx : exitTo id (.inScope c :: kk) = exitTo id kk := by simp [exitTo]
    exact ⟨.exit id, a₁, w₁, hq, fun k' hk => .head h0 stepR_scope (harr.1 k' (by rw [hx]; exact hk)),
      fun hr' hk => let ⟨k₁, h1, h2⟩ := harr.2 hr' (by rw [hx]; exact hk); ⟨k₁, h1, .head h0 stepR_scope h2⟩⟩
  | goto l => obtain ⟨_, _, _, _, _, hF⟩ := hq; exact hF.elim
  | ret => exact ⟨.ret, a₁, w₁, hq, .of_steps (.one h0 stepR_scope) harr⟩
  | panic ch => exact ⟨.panic ch, a₁, w₁, hq, .of_steps (.one h0 stepR_scope) harr⟩
  | outgrown => exact ⟨.outgrown, a₁, w₁, hq, .of_steps (.one h0 stepR_scope) harr⟩

end Go.Proofs.YtglnkfpmogaifaaGreatDoor.V

/-
  What the types of this seat's operations are.
-/
namespace Go.Proofs.YtglnkfpmogaifaaGreatDoor.V
open Go Go.Proofs Go.RowKit

theorem k3 : known Tryz.prog 3 = true := by kernel_rfl
theorem z3 : szOf Tryz.prog 3 = 1 := by kernel_rfl
theorem a3 : aggOf Tryz.prog 3 = false := by kernel_rfl
theorem k22 : known Tryz.prog 22 = true := by kernel_rfl
theorem z22 : szOf Tryz.prog 22 = 1 := by kernel_rfl
theorem a22 : aggOf Tryz.prog 22 = false := by kernel_rfl
theorem k23 : known Tryz.prog 23 = true := by kernel_rfl
theorem z23 : szOf Tryz.prog 23 = 1 := by kernel_rfl
theorem a23 : aggOf Tryz.prog 23 = false := by kernel_rfl
theorem k50 : known Tryz.prog 50 = true := by kernel_rfl
theorem z50 : szOf Tryz.prog 50 = 2 := by kernel_rfl
theorem a50 : aggOf Tryz.prog 50 = true := by kernel_rfl
theorem k63 : known Tryz.prog 63 = true := by kernel_rfl
theorem z63 : szOf Tryz.prog 63 = 3 := by kernel_rfl
theorem a63 : aggOf Tryz.prog 63 = true := by kernel_rfl
theorem k68 : known Tryz.prog 68 = true := by kernel_rfl
theorem z68 : szOf Tryz.prog 68 = 2 := by kernel_rfl
theorem a68 : aggOf Tryz.prog 68 = true := by kernel_rfl
theorem k79 : known Tryz.prog 79 = true := by kernel_rfl
theorem z79 : szOf Tryz.prog 79 = 2 := by kernel_rfl
theorem a79 : aggOf Tryz.prog 79 = true := by kernel_rfl
theorem k98 : known Tryz.prog 98 = true := by kernel_rfl
theorem z98 : szOf Tryz.prog 98 = 1 := by kernel_rfl
theorem a98 : aggOf Tryz.prog 98 = false := by kernel_rfl
theorem ld3 (s : Sg) (id off : Nat) : vload Tryz.prog s 3 (.pt id off) = (s id).bind fun o => o.cells[off]? := load_pt1 k3 a3 z3
theorem ls3 (s : Sg) (cs : List D) (off : Nat) : vload Tryz.prog s 3 (.sp cs off) = cs[off]? := load_sp1 k3 a3 z3
theorem k4 : known Tryz.prog 4 = true := by kernel_rfl
theorem z4 : szOf Tryz.prog 4 = 1 := by kernel_rfl
theorem a4 : aggOf Tryz.prog 4 = false := by kernel_rfl
theorem ld4 (s : Sg) (id off : Nat) : vload Tryz.prog s 4 (.pt id off) = (s id).bind fun o => o.cells[off]? := load_pt1 k4 a4 z4
theorem ls4 (s : Sg) (cs : List D) (off : Nat) : vload Tryz.prog s 4 (.sp cs off) = cs[off]? := load_sp1 k4 a4 z4
theorem k9 : known Tryz.prog 9 = true := by kernel_rfl
theorem z9 : szOf Tryz.prog 9 = 1 := by kernel_rfl
theorem a9 : aggOf Tryz.prog 9 = false := by kernel_rfl
theorem ld9 (s : Sg) (id off : Nat) : vload Tryz.prog s 9 (.pt id off) = (s id).bind fun o => o.cells[off]? := load_pt1 k9 a9 z9
theorem ls9 (s : Sg) (cs : List D) (off : Nat) : vload Tryz.prog s 9 (.sp cs off) = cs[off]? := load_sp1 k9 a9 z9
theorem ld22 (s : Sg) (id off : Nat) : vload Tryz.prog s 22 (.pt id off) = (s id).bind fun o => o.cells[off]? := load_pt1 k22 a22 z22
theorem ls22 (s : Sg) (cs : List D) (off : Nat) : vload Tryz.prog s 22 (.sp cs off) = cs[off]? := load_sp1 k22 a22 z22
theorem ld23 (s : Sg) (id off : Nat) : vload Tryz.prog s 23 (.pt id off) = (s id).bind fun o => o.cells[off]? := load_pt1 k23 a23 z23
theorem ls23 (s : Sg) (cs : List D) (off : Nat) : vload Tryz.prog s 23 (.sp cs off) = cs[off]? := load_sp1 k23 a23 z23
theorem k25 : known Tryz.prog 25 = true := by kernel_rfl
theorem z25 : szOf Tryz.prog 25 = 3 := by kernel_rfl
theorem a25 : aggOf Tryz.prog 25 = true := by kernel_rfl
theorem ld25 (s : Sg) (id off : Nat) : vload Tryz.prog s 25 (.pt id off) = (s id).bind fun o => if off + 3 ≤ o.cells.length then some (.ag ((o.cells.drop off).take 3)) else none := load_ptA k25 a25 z25
theorem ls25 (s : Sg) (cs : List D) (off : Nat) : vload Tryz.prog s 25 (.sp cs off) = if off + 3 ≤ cs.length then some (.ag ((cs.drop off).take 3)) else none := load_spA k25 a25 z25
theorem k27 : known Tryz.prog 27 = true := by kernel_rfl
theorem z27 : szOf Tryz.prog 27 = 1 := by kernel_rfl
theorem a27 : aggOf Tryz.prog 27 = false := by kernel_rfl
theorem ld27 (s : Sg) (id off : Nat) : vload Tryz.prog s 27 (.pt id off) = (s id).bind fun o => o.cells[off]? := load_pt1 k27 a27 z27
theorem ls27 (s : Sg) (cs : List D) (off : Nat) : vload Tryz.prog s 27 (.sp cs off) = cs[off]? := load_sp1 k27 a27 z27
theorem k29 : known Tryz.prog 29 = true := by kernel_rfl
theorem z29 : szOf Tryz.prog 29 = 1 := by kernel_rfl
theorem a29 : aggOf Tryz.prog 29 = false := by kernel_rfl
theorem ld29 (s : Sg) (id off : Nat) : vload Tryz.prog s 29 (.pt id off) = (s id).bind fun o => o.cells[off]? := load_pt1 k29 a29 z29
theorem ls29 (s : Sg) (cs : List D) (off : Nat) : vload Tryz.prog s 29 (.sp cs off) = cs[off]? := load_sp1 k29 a29 z29
theorem k47 : known Tryz.prog 47 = true := by kernel_rfl
theorem z47 : szOf Tryz.prog 47 = 8 := by kernel_rfl
theorem a47 : aggOf Tryz.prog 47 = true := by kernel_rfl
theorem ld47 (s : Sg) (id off : Nat) : vload Tryz.prog s 47 (.pt id off) = (s id).bind fun o => if off + 8 ≤ o.cells.length then some (.ag ((o.cells.drop off).take 8)) else none := load_ptA k47 a47 z47
theorem ls47 (s : Sg) (cs : List D) (off : Nat) : vload Tryz.prog s 47 (.sp cs off) = if off + 8 ≤ cs.length then some (.ag ((cs.drop off).take 8)) else none := load_spA k47 a47 z47
theorem ld50 (s : Sg) (id off : Nat) : vload Tryz.prog s 50 (.pt id off) = (s id).bind fun o => if off + 2 ≤ o.cells.length then some (.ag ((o.cells.drop off).take 2)) else none := load_ptA k50 a50 z50
theorem ls50 (s : Sg) (cs : List D) (off : Nat) : vload Tryz.prog s 50 (.sp cs off) = if off + 2 ≤ cs.length then some (.ag ((cs.drop off).take 2)) else none := load_spA k50 a50 z50
theorem k60 : known Tryz.prog 60 = true := by kernel_rfl
theorem z60 : szOf Tryz.prog 60 = 1 := by kernel_rfl
theorem a60 : aggOf Tryz.prog 60 = false := by kernel_rfl
theorem ld60 (s : Sg) (id off : Nat) : vload Tryz.prog s 60 (.pt id off) = (s id).bind fun o => o.cells[off]? := load_pt1 k60 a60 z60
theorem ls60 (s : Sg) (cs : List D) (off : Nat) : vload Tryz.prog s 60 (.sp cs off) = cs[off]? := load_sp1 k60 a60 z60
theorem k66 : known Tryz.prog 66 = true := by kernel_rfl
theorem z66 : szOf Tryz.prog 66 = 1 := by kernel_rfl
theorem a66 : aggOf Tryz.prog 66 = false := by kernel_rfl
theorem ld66 (s : Sg) (id off : Nat) : vload Tryz.prog s 66 (.pt id off) = (s id).bind fun o => o.cells[off]? := load_pt1 k66 a66 z66
theorem ls66 (s : Sg) (cs : List D) (off : Nat) : vload Tryz.prog s 66 (.sp cs off) = cs[off]? := load_sp1 k66 a66 z66
theorem ld68 (s : Sg) (id off : Nat) : vload Tryz.prog s 68 (.pt id off) = (s id).bind fun o => if off + 2 ≤ o.cells.length then some (.ag ((o.cells.drop off).take 2)) else none := load_ptA k68 a68 z68
theorem ls68 (s : Sg) (cs : List D) (off : Nat) : vload Tryz.prog s 68 (.sp cs off) = if off + 2 ≤ cs.length then some (.ag ((cs.drop off).take 2)) else none := load_spA k68 a68 z68
theorem k77 : known Tryz.prog 77 = true := by kernel_rfl
theorem z77 : szOf Tryz.prog 77 = 1 := by kernel_rfl
theorem a77 : aggOf Tryz.prog 77 = false := by kernel_rfl
theorem ld77 (s : Sg) (id off : Nat) : vload Tryz.prog s 77 (.pt id off) = (s id).bind fun o => o.cells[off]? := load_pt1 k77 a77 z77
theorem ls77 (s : Sg) (cs : List D) (off : Nat) : vload Tryz.prog s 77 (.sp cs off) = cs[off]? := load_sp1 k77 a77 z77
theorem ld79 (s : Sg) (id off : Nat) : vload Tryz.prog s 79 (.pt id off) = (s id).bind fun o => if off + 2 ≤ o.cells.length then some (.ag ((o.cells.drop off).take 2)) else none := load_ptA k79 a79 z79
theorem ls79 (s : Sg) (cs : List D) (off : Nat) : vload Tryz.prog s 79 (.sp cs off) = if off + 2 ≤ cs.length then some (.ag ((cs.drop off).take 2)) else none := load_spA k79 a79 z79
theorem k89 : known Tryz.prog 89 = true := by kernel_rfl
theorem z89 : szOf Tryz.prog 89 = 1 := by kernel_rfl
theorem a89 : aggOf Tryz.prog 89 = false := by kernel_rfl
theorem ld89 (s : Sg) (id off : Nat) : vload Tryz.prog s 89 (.pt id off) = (s id).bind fun o => o.cells[off]? := load_pt1 k89 a89 z89
theorem ls89 (s : Sg) (cs : List D) (off : Nat) : vload Tryz.prog s 89 (.sp cs off) = cs[off]? := load_sp1 k89 a89 z89
theorem ld98 (s : Sg) (id off : Nat) : vload Tryz.prog s 98 (.pt id off) = (s id).bind fun o => o.cells[off]? := load_pt1 k98 a98 z98
theorem ls98 (s : Sg) (cs : List D) (off : Nat) : vload Tryz.prog s 98 (.sp cs off) = cs[off]? := load_sp1 k98 a98 z98
theorem fa25_0 (id off : Nat) : vfieldAddr Tryz.prog 25 (.pt id off) 0 = some (.pt id (off + 0)) := by kernel_rfl
theorem fs25_0 (cs : List D) (off : Nat) : vfieldAddr Tryz.prog 25 (.sp cs off) 0 = some (.sp cs (off + 0)) := by kernel_rfl
theorem fa25_1 (id off : Nat) : vfieldAddr Tryz.prog 25 (.pt id off) 1 = some (.pt id (off + 1)) := by kernel_rfl
theorem fs25_1 (cs : List D) (off : Nat) : vfieldAddr Tryz.prog 25 (.sp cs off) 1 = some (.sp cs (off + 1)) := by kernel_rfl
theorem fa25_2 (id off : Nat) : vfieldAddr Tryz.prog 25 (.pt id off) 2 = some (.pt id (off + 2)) := by kernel_rfl
theorem fs25_2 (cs : List D) (off : Nat) : vfieldAddr Tryz.prog 25 (.sp cs off) 2 = some (.sp cs (off + 2)) := by kernel_rfl
theorem fa47_0 (id off : Nat) : vfieldAddr Tryz.prog 47 (.pt id off) 0 = some (.pt id (off + 0)) := by kernel_rfl
theorem fs47_0 (cs : List D) (off : Nat) : vfieldAddr Tryz.prog 47 (.sp cs off) 0 = some (.sp cs (off + 0)) := by kernel_rfl
theorem fa47_1 (id off : Nat) : vfieldAddr Tryz.prog 47 (.pt id off) 1 = some (.pt id (off + 1)) := by kernel_rfl
theorem fs47_1 (cs : List D) (off : Nat) : vfieldAddr Tryz.prog 47 (.sp cs off) 1 = some (.sp cs (off + 1)) := by kernel_rfl
theorem fa47_2 (id off : Nat) : vfieldAddr Tryz.prog 47 (.pt id off) 2 = some (.pt id (off + 2)) := by kernel_rfl
theorem fs47_2 (cs : List D) (off : Nat) : vfieldAddr Tryz.prog 47 (.sp cs off) 2 = some (.sp cs (off + 2)) := by kernel_rfl
theorem fa47_3 (id off : Nat) : vfieldAddr Tryz.prog 47 (.pt id off) 3 = some (.pt id (off + 5)) := by kernel_rfl
theorem fs47_3 (cs : List D) (off : Nat) : vfieldAddr Tryz.prog 47 (.sp cs off) 3 = some (.sp cs (off + 5)) := by kernel_rfl
theorem fa62_0 (id off : Nat) : vfieldAddr Tryz.prog 62 (.pt id off) 0 = some (.pt id (off + 0)) := by kernel_rfl
theorem fs62_0 (cs : List D) (off : Nat) : vfieldAddr Tryz.prog 62 (.sp cs off) 0 = some (.sp cs (off + 0)) := by kernel_rfl
theorem fa68_0 (id off : Nat) : vfieldAddr Tryz.prog 68 (.pt id off) 0 = some (.pt id (off + 0)) := by kernel_rfl
theorem fs68_0 (cs : List D) (off : Nat) : vfieldAddr Tryz.prog 68 (.sp cs off) 0 = some (.sp cs (off + 0)) := by kernel_rfl
theorem fa68_1 (id off : Nat) : vfieldAddr Tryz.prog 68 (.pt id off) 1 = some (.pt id (off + 1)) := by kernel_rfl
theorem fs68_1 (cs : List D) (off : Nat) : vfieldAddr Tryz.prog 68 (.sp cs off) 1 = some (.sp cs (off + 1)) := by kernel_rfl
theorem fa79_0 (id off : Nat) : vfieldAddr Tryz.prog 79 (.pt id off) 0 = some (.pt id (off + 0)) := by kernel_rfl
theorem fs79_0 (cs : List D) (off : Nat) : vfieldAddr Tryz.prog 79 (.sp cs off) 0 = some (.sp cs (off + 0)) := by kernel_rfl
theorem fa79_1 (id off : Nat) : vfieldAddr Tryz.prog 79 (.pt id off) 1 = some (.pt id (off + 1)) := by kernel_rfl
theorem fs79_1 (cs : List D) (off : Nat) : vfieldAddr Tryz.prog 79 (.sp cs off) 1 = some (.sp cs (off + 1)) := by kernel_rfl
theorem fl68_1 (cs : List D) : vfield Tryz.prog 68 (.ag cs) 1 = cut false 1 1 cs := by kernel_rfl
theorem fl79_1 (cs : List D) : vfield Tryz.prog 79 (.ag cs) 1 = cut false 1 1 cs := by kernel_rfl
theorem ia22 {k : IntKind} {i : Int} {id off n es : Nat} (h0 : 0 ≤ i) (hn : i < n) : vindexAddr Tryz.prog 22 (.rf id off n es) (.sc (.int k i)) = some (.pt id (off + i.toNat)) := ia_rf Tryz.underlying22 k23 z23 h0 hn
theorem is22 {k : IntKind} {i : Int} {n : Nat} {cs : List D} (h0 : 0 ≤ i) (hn : i < n) (hl : i.toNat < cs.length) : vindexAddr Tryz.prog 22 (.sl n cs) (.sc (.int k i)) = some (.sp cs (i.toNat)) := ia_sl Tryz.underlying22 k23 z23 h0 hn hl
theorem ia48 {k : IntKind} {i : Int} {id off n es : Nat} (h0 : 0 ≤ i) (hn : i < n) : vindexAddr Tryz.prog 48 (.rf id off n es) (.sc (.int k i)) = some (.pt id (off + i.toNat * 2)) := ia_rfA Tryz.underlying48 k50 z50 h0 hn
theorem is48 {k : IntKind} {i : Int} {n : Nat} {cs : List D} (h0 : 0 ≤ i) (hn : i < n) (hl : i.toNat * 2 < cs.length) : vindexAddr Tryz.prog 48 (.sl n cs) (.sc (.int k i)) = some (.sp cs (i.toNat * 2)) := ia_slA Tryz.underlying48 k50 z50 h0 hn hl
theorem ia50 {k : IntKind} {i : Int} {id off : Nat} (h0 : 0 ≤ i) (hn : i < 2) : vindexAddr Tryz.prog 50 (.pt id off) (.sc (.int k i)) = some (.pt id (off + i.toNat)) := by simpa using ia_pt (n := 2) Tryz.underlying50 k27 z27 h0 hn
theorem is50 {k : IntKind} {i : Int} {cs : List D} {off : Nat} (h0 : 0 ≤ i) (hn : i < 2) : vindexAddr Tryz.prog 50 (.sp cs off) (.sc (.int k i)) = some (.sp cs (off + i.toNat)) := by simpa using ia_sp (n := 2) Tryz.underlying50 k27 z27 h0 hn
theorem ia66 {k : IntKind} {i : Int} {id off n es : Nat} (h0 : 0 ≤ i) (hn : i < n) : vindexAddr Tryz.prog 66 (.rf id off n es) (.sc (.int k i)) = some (.pt id (off + i.toNat)) := ia_rf Tryz.underlying66 k98 z98 h0 hn
theorem is66 {k : IntKind} {i : Int} {n : Nat} {cs : List D} (h0 : 0 ≤ i) (hn : i < n) (hl : i.toNat < cs.length) : vindexAddr Tryz.prog 66 (.sl n cs) (.sc (.int k i)) = some (.sp cs (i.toNat)) := ia_sl Tryz.underlying66 k98 z98 h0 hn hl
theorem ia77 {k : IntKind} {i : Int} {id off n es : Nat} (h0 : 0 ≤ i) (hn : i < n) : vindexAddr Tryz.prog 77 (.rf id off n es) (.sc (.int k i)) = some (.pt id (off + i.toNat)) := ia_rf Tryz.underlying77 k3 z3 h0 hn
theorem is77 {k : IntKind} {i : Int} {n : Nat} {cs : List D} (h0 : 0 ≤ i) (hn : i < n) (hl : i.toNat < cs.length) : vindexAddr Tryz.prog 77 (.sl n cs) (.sc (.int k i)) = some (.sp cs (i.toNat)) := ia_sl Tryz.underlying77 k3 z3 h0 hn hl
theorem k62 : known Tryz.prog 62 = true := by kernel_rfl
theorem z62 : szOf Tryz.prog 62 = 1 := by kernel_rfl
theorem a62 : aggOf Tryz.prog 62 = true := by kernel_rfl
theorem le22 : vlen Tryz.prog 22 .em = some (.sc (.int .i64 0)) := by kernel_rfl
theorem ll22 (n : Nat) (cs : List D) : vlen Tryz.prog 22 (.sl n cs) = some (.sc (.int .i64 n)) := by kernel_rfl
theorem lr22 (id off n es : Nat) : vlen Tryz.prog 22 (.rf id off n es) = some (.sc (.int .i64 n)) := by kernel_rfl
theorem le48 : vlen Tryz.prog 48 .em = some (.sc (.int .i64 0)) := by kernel_rfl
theorem ll48 (n : Nat) (cs : List D) : vlen Tryz.prog 48 (.sl n cs) = some (.sc (.int .i64 n)) := by kernel_rfl
theorem lr48 (id off n es : Nat) : vlen Tryz.prog 48 (.rf id off n es) = some (.sc (.int .i64 n)) := by kernel_rfl
theorem le66 : vlen Tryz.prog 66 .em = some (.sc (.int .i64 0)) := by kernel_rfl
theorem ll66 (n : Nat) (cs : List D) : vlen Tryz.prog 66 (.sl n cs) = some (.sc (.int .i64 n)) := by kernel_rfl
theorem lr66 (id off n es : Nat) : vlen Tryz.prog 66 (.rf id off n es) = some (.sc (.int .i64 n)) := by kernel_rfl
theorem le77 : vlen Tryz.prog 77 .em = some (.sc (.int .i64 0)) := by kernel_rfl
theorem ll77 (n : Nat) (cs : List D) : vlen Tryz.prog 77 (.sl n cs) = some (.sc (.int .i64 n)) := by kernel_rfl
theorem lr77 (id off n es : Nat) : vlen Tryz.prog 77 (.rf id off n es) = some (.sc (.int .i64 n)) := by kernel_rfl
theorem zo50 : zok Tryz.prog 50 = true := by kernel_rfl
theorem zd50 : zeroD Tryz.prog 50 = [.sc (.string ⟨#[]⟩), .sc (.string ⟨#[]⟩)] := by kernel_rfl
theorem b50 : bytesOf Tryz.prog 50 = 32 := by kernel_rfl
theorem zo63 : zok Tryz.prog 63 = true := by kernel_rfl
theorem zd63 : zeroD Tryz.prog 63 = [.sc .nilFunc, .sc .nilFunc, .sc .nilFunc] := by kernel_rfl
theorem b63 : bytesOf Tryz.prog 63 = 24 := by kernel_rfl
theorem zo68 : zok Tryz.prog 68 = true := by kernel_rfl
theorem zd68 : zeroD Tryz.prog 68 = [.sc (.bool false), .em] := by kernel_rfl
theorem b68 : bytesOf Tryz.prog 68 = 32 := by kernel_rfl
theorem zo79 : zok Tryz.prog 79 = true := by kernel_rfl
theorem zd79 : zeroD Tryz.prog 79 = [.sc (.bool false), .em] := by kernel_rfl
theorem b79 : bytesOf Tryz.prog 79 = 32 := by kernel_rfl
theorem k108 : known Tryz.prog 108 = true := by kernel_rfl
theorem z108 : szOf Tryz.prog 108 = 2 := by kernel_rfl
theorem a108 : aggOf Tryz.prog 108 = true := by kernel_rfl
theorem zo108 : zok Tryz.prog 108 = true := by kernel_rfl
theorem b108 : bytesOf Tryz.prog 108 = 32 := by kernel_rfl
theorem p50 : placesOk Tryz.prog 50 = true := by kernel_rfl
theorem p50_0 : placeOf Tryz.prog 50 0 = some (0, 1) := by kernel_rfl
theorem p50_1 : placeOf Tryz.prog 50 1 = some (1, 1) := by kernel_rfl
theorem zo62 : zok Tryz.prog 62 = true := by kernel_rfl
theorem zd62 : zeroD Tryz.prog 62 = [.sc .nilFunc] := by kernel_rfl
theorem b62 : bytesOf Tryz.prog 62 = 8 := by kernel_rfl
theorem p62 : placesOk Tryz.prog 62 = true := by kernel_rfl
theorem p62_0 : placeOf Tryz.prog 62 0 = some (0, 1) := by kernel_rfl
theorem p63 : placesOk Tryz.prog 63 = true := by kernel_rfl
theorem p63_0 : placeOf Tryz.prog 63 0 = some (0, 1) := by kernel_rfl
theorem p63_1 : placeOf Tryz.prog 63 1 = some (1, 1) := by kernel_rfl
theorem p63_2 : placeOf Tryz.prog 63 2 = some (2, 1) := by kernel_rfl
theorem p68 : placesOk Tryz.prog 68 = true := by kernel_rfl
theorem p68_0 : placeOf Tryz.prog 68 0 = some (0, 1) := by kernel_rfl
theorem p68_1 : placeOf Tryz.prog 68 1 = some (1, 1) := by kernel_rfl
theorem p79 : placesOk Tryz.prog 79 = true := by kernel_rfl
theorem p79_0 : placeOf Tryz.prog 79 0 = some (0, 1) := by kernel_rfl
theorem p79_1 : placeOf Tryz.prog 79 1 = some (1, 1) := by kernel_rfl
theorem zw50_4 : zrow Tryz.prog 50 4 = [.sc (.string ⟨#[]⟩), .sc (.string ⟨#[]⟩), .sc (.string ⟨#[]⟩), .sc (.string ⟨#[]⟩), .sc (.string ⟨#[]⟩), .sc (.string ⟨#[]⟩), .sc (.string ⟨#[]⟩), .sc (.string ⟨#[]⟩)] := by kernel_rfl
theorem zo98 : zok Tryz.prog 98 = true := by kernel_rfl
theorem zd98 : zeroD Tryz.prog 98 = [.sc (.int .u64 0)] := by kernel_rfl
theorem b98 : bytesOf Tryz.prog 98 = 8 := by kernel_rfl
theorem zw98_0 : zrow Tryz.prog 98 0 = [] := by kernel_rfl
theorem zw98_1 : zrow Tryz.prog 98 1 = [.sc (.int .u64 0)] := by kernel_rfl
theorem zw98_2 : zrow Tryz.prog 98 2 = [.sc (.int .u64 0), .sc (.int .u64 0)] := by kernel_rfl
theorem zo3 : zok Tryz.prog 3 = true := by kernel_rfl
theorem zd3 : zeroD Tryz.prog 3 = [.sc (.int .i64 0)] := by kernel_rfl
theorem b3 : bytesOf Tryz.prog 3 = 8 := by kernel_rfl
theorem zw3_1 : zrow Tryz.prog 3 1 = [.sc (.int .i64 0)] := by kernel_rfl
theorem k5 : known Tryz.prog 5 = true := by kernel_rfl
theorem z5 : szOf Tryz.prog 5 = 1 := by kernel_rfl
theorem a5 : aggOf Tryz.prog 5 = false := by kernel_rfl
theorem zo5 : zok Tryz.prog 5 = true := by kernel_rfl
theorem zd5 : zeroD Tryz.prog 5 = [.sc (.int .u8 0)] := by kernel_rfl
theorem b5 : bytesOf Tryz.prog 5 = 1 := by kernel_rfl
theorem zw5_4 : zrow Tryz.prog 5 4 = [.sc (.int .u8 0), .sc (.int .u8 0), .sc (.int .u8 0), .sc (.int .u8 0)] := by kernel_rfl
theorem zo23 : zok Tryz.prog 23 = true := by kernel_rfl
theorem zd23 : zeroD Tryz.prog 23 = [.sc (.int .u16 0)] := by kernel_rfl
theorem b23 : bytesOf Tryz.prog 23 = 2 := by kernel_rfl
theorem zr98 (n : Nat) : zrow Tryz.prog 98 n = ints .u64 (List.replicate n 0) := zrow_ints zd98 n
theorem zr3 (n : Nat) : zrow Tryz.prog 3 n = ints .i64 (List.replicate n 0) := zrow_ints zd3 n
theorem nqs66 (a : Option Addr) (l c : Nat) (y : D) : vcmp Tryz.prog .eql 66 (.sc (.slice a l c)) y (.const (.slice none 0 0)) = some (.sc (.bool a.isNone)) := (vcmp_nil_sc Tryz.underlying66 a l c y).1
theorem nns66 (a : Option Addr) (l c : Nat) (y : D) : vcmp Tryz.prog .neq 66 (.sc (.slice a l c)) y (.const (.slice none 0 0)) = some (.sc (.bool !a.isNone)) := (vcmp_nil_sc Tryz.underlying66 a l c y).2
theorem nqr66 (id off n es : Nat) (y : D) : vcmp Tryz.prog .eql 66 (.rf id off n es) y (.const (.slice none 0 0)) = some (.sc (.bool false)) := (vcmp_nil_rf Tryz.underlying66 id off n es y).1
theorem nnr66 (id off n es : Nat) (y : D) : vcmp Tryz.prog .neq 66 (.rf id off n es) y (.const (.slice none 0 0)) = some (.sc (.bool true)) := (vcmp_nil_rf Tryz.underlying66 id off n es y).2
theorem nql66 {n : Nat} {k : IntKind} {xs : List Int} (hn : n ≠ 0) (hc : xs.length ≠ 0) (y : D) : vcmp Tryz.prog .eql 66 (.sl n (ints k xs)) y (.const (.slice none 0 0)) = some (.sc (.bool false)) := (vcmp_nil_sl Tryz.underlying66 hn (fun e => hc (by rw [← ints_length k, e]; rfl)) y).1
theorem nnl66 {n : Nat} {k : IntKind} {xs : List Int} (hn : n ≠ 0) (hc : xs.length ≠ 0) (y : D) : vcmp Tryz.prog .neq 66 (.sl n (ints k xs)) y (.const (.slice none 0 0)) = some (.sc (.bool true)) := (vcmp_nil_sl Tryz.underlying66 hn (fun e => hc (by rw [← ints_length k, e]; rfl)) y).2
theorem src66 : SrcT Tryz.prog 66 := .inl ⟨_, Tryz.underlying66⟩
theorem srt66 : SrcT Tryz.prog 66 = True := eq_true src66
theorem src77 : SrcT Tryz.prog 77 := .inl ⟨_, Tryz.underlying77⟩
theorem srt77 : SrcT Tryz.prog 77 = True := eq_true src77
theorem rs3 : Tryz.f3.results.toList = [.tmp 6] := rfl
theorem ca3 : V.callable Tryz.prog 3 = true := by kernel_rfl
theorem rs4 : Tryz.f4.results.toList = [.tmp 6] := rfl
theorem ca4 : V.callable Tryz.prog 4 = true := by kernel_rfl
theorem rs5 : Tryz.f5.results.toList = [.tmp 6] := rfl
theorem ca5 : V.callable Tryz.prog 5 = true := by kernel_rfl
theorem rs6 : Tryz.f6.results.toList = [.tmp 8] := rfl
theorem ca6 : V.callable Tryz.prog 6 = true := by kernel_rfl
theorem rs7 : Tryz.f7.results.toList = [.tmp 2] := rfl
theorem ca7 : V.callable Tryz.prog 7 = true := by kernel_rfl
theorem rs8 : Tryz.f8.results.toList = [.tmp 0] := rfl
theorem ca8 : V.callable Tryz.prog 8 = true := by kernel_rfl
theorem rs9 : Tryz.f9.results.toList = [.tmp 2] := rfl
theorem ca9 : V.callable Tryz.prog 9 = true := by kernel_rfl
theorem rs10 : Tryz.f10.results.toList = [.tmp 4, .tmp 5] := rfl
theorem ca10 : V.callable Tryz.prog 10 = true := by kernel_rfl
theorem rs11 : Tryz.f11.results.toList = [.tmp 4, .tmp 5] := rfl
theorem ca11 : V.callable Tryz.prog 11 = true := by kernel_rfl
theorem rs12 : Tryz.f12.results.toList = [.tmp 4, .tmp 5] := rfl
theorem ca12 : V.callable Tryz.prog 12 = true := by kernel_rfl
theorem rs13 : Tryz.f13.results.toList = [.tmp 4, .tmp 5, .tmp 6] := rfl
theorem ca13 : V.callable Tryz.prog 13 = true := by kernel_rfl
theorem rs14 : Tryz.f14.results.toList = [.tmp 2, .tmp 3] := rfl
theorem ca14 : V.callable Tryz.prog 14 = true := by kernel_rfl
theorem rs15 : Tryz.f15.results.toList = [.tmp 2, .tmp 3] := rfl
theorem ca15 : V.callable Tryz.prog 15 = true := by kernel_rfl
theorem rs16 : Tryz.f16.results.toList = [.tmp 4, .tmp 5] := rfl
theorem ca16 : V.callable Tryz.prog 16 = true := by kernel_rfl
theorem rs17 : Tryz.f17.results.toList = [.tmp 4, .tmp 5] := rfl
theorem ca17 : V.callable Tryz.prog 17 = true := by kernel_rfl
theorem rs18 : Tryz.f18.results.toList = [.tmp 2] := rfl
theorem ca18 : V.callable Tryz.prog 18 = true := by kernel_rfl
theorem rs19 : Tryz.f19.results.toList = [.tmp 4, .tmp 5] := rfl
theorem ca19 : V.callable Tryz.prog 19 = true := by kernel_rfl
theorem rs20 : Tryz.f20.results.toList = [.tmp 4, .tmp 5] := rfl
theorem ca20 : V.callable Tryz.prog 20 = true := by kernel_rfl
theorem rs21 : Tryz.f21.results.toList = [.tmp 2, .tmp 3] := rfl
theorem ca21 : V.callable Tryz.prog 21 = true := by kernel_rfl
theorem rs22 : Tryz.f22.results.toList = [.tmp 2] := rfl
theorem ca22 : V.callable Tryz.prog 22 = true := by kernel_rfl
theorem rs23 : Tryz.f23.results.toList = [.tmp 2] := rfl
theorem ca23 : V.callable Tryz.prog 23 = true := by kernel_rfl
theorem rs24 : Tryz.f24.results.toList = [.tmp 2, .tmp 3] := rfl
theorem ca24 : V.callable Tryz.prog 24 = true := by kernel_rfl
theorem rs25 : Tryz.f25.results.toList = [.tmp 2] := rfl
theorem ca25 : V.callable Tryz.prog 25 = true := by kernel_rfl
theorem rs26 : Tryz.f26.results.toList = [.tmp 2, .tmp 3] := rfl
theorem ca26 : V.callable Tryz.prog 26 = true := by kernel_rfl
theorem rs27 : Tryz.f27.results.toList = [.tmp 2, .tmp 3] := rfl
theorem ca27 : V.callable Tryz.prog 27 = true := by kernel_rfl
theorem rs28 : Tryz.f28.results.toList = [.tmp 4, .tmp 5] := rfl
theorem ca28 : V.callable Tryz.prog 28 = true := by kernel_rfl
theorem rs29 : Tryz.f29.results.toList = [.tmp 4, .tmp 5] := rfl
theorem ca29 : V.callable Tryz.prog 29 = true := by kernel_rfl
theorem rs30 : Tryz.f30.results.toList = [.tmp 4, .tmp 5] := rfl
theorem ca30 : V.callable Tryz.prog 30 = true := by kernel_rfl
theorem rs31 : Tryz.f31.results.toList = [.tmp 2] := rfl
theorem ca31 : V.callable Tryz.prog 31 = true := by kernel_rfl
theorem rs32 : Tryz.f32.results.toList = [.tmp 2] := rfl
theorem ca32 : V.callable Tryz.prog 32 = true := by kernel_rfl
theorem rs33 : Tryz.f33.results.toList = [.tmp 2] := rfl
theorem ca33 : V.callable Tryz.prog 33 = true := by kernel_rfl
theorem rs34 : Tryz.f34.results.toList = [.tmp 4] := rfl
theorem ca34 : V.callable Tryz.prog 34 = true := by kernel_rfl
theorem rs35 : Tryz.f35.results.toList = [.tmp 2] := rfl
theorem ca35 : V.callable Tryz.prog 35 = true := by kernel_rfl
theorem rs36 : Tryz.f36.results.toList = [.tmp 6, .tmp 7] := rfl
theorem ca36 : V.callable Tryz.prog 36 = true := by kernel_rfl
theorem rs37 : Tryz.f37.results.toList = [.cell 0 63] := rfl
theorem ca37 : V.callable Tryz.prog 37 = true := by kernel_rfl
theorem rs38 : Tryz.f38.results.toList = [.cell 2 68] := rfl
theorem ca38 : V.callable Tryz.prog 38 = true := by kernel_rfl
theorem rs39 : Tryz.f39.results.toList = [.cell 4 68, .cell 5 68] := rfl
theorem ca39 : V.callable Tryz.prog 39 = true := by kernel_rfl
theorem rs40 : Tryz.f40.results.toList = [.tmp 2, .tmp 3] := rfl
theorem ca40 : V.callable Tryz.prog 40 = true := by kernel_rfl
theorem rs42 : Tryz.f42.results.toList = [.tmp 2] := rfl
theorem ca42 : V.callable Tryz.prog 42 = true := by kernel_rfl
theorem rs43 : Tryz.f43.results.toList = [.tmp 4] := rfl
theorem ca43 : V.callable Tryz.prog 43 = true := by kernel_rfl
theorem rs44 : Tryz.f44.results.toList = [.tmp 4] := rfl
theorem ca44 : V.callable Tryz.prog 44 = true := by kernel_rfl
theorem rs45 : Tryz.f45.results.toList = [.cell 2 79] := rfl
theorem ca45 : V.callable Tryz.prog 45 = true := by kernel_rfl
theorem rs46 : Tryz.f46.results.toList = [.cell 4 79] := rfl
theorem ca46 : V.callable Tryz.prog 46 = true := by kernel_rfl
theorem rs47 : Tryz.f47.results.toList = [.cell 4 79] := rfl
theorem ca47 : V.callable Tryz.prog 47 = true := by kernel_rfl
theorem rs48 : Tryz.f48.results.toList = [.cell 4 79] := rfl
theorem ca48 : V.callable Tryz.prog 48 = true := by kernel_rfl
theorem rs49 : Tryz.f49.results.toList = [.cell 4 79] := rfl
theorem ca49 : V.callable Tryz.prog 49 = true := by kernel_rfl
theorem rs50 : Tryz.f50.results.toList = [.tmp 2, .tmp 3] := rfl
theorem ca50 : V.callable Tryz.prog 50 = true := by kernel_rfl
theorem rs51 : Tryz.f51.results.toList = [.tmp 4] := rfl
theorem ca51 : V.callable Tryz.prog 51 = true := by kernel_rfl
theorem rs52 : Tryz.f52.results.toList = [.tmp 4] := rfl
theorem ca52 : V.callable Tryz.prog 52 = true := by kernel_rfl
theorem rs53 : Tryz.f53.results.toList = [.cell 2 68] := rfl
theorem ca53 : V.callable Tryz.prog 53 = true := by kernel_rfl
theorem rs54 : Tryz.f54.results.toList = [.tmp 5] := rfl
theorem ca54 : V.callable Tryz.prog 54 = true := by kernel_rfl
theorem rs55 : Tryz.f55.results.toList = [.cell 2 68] := rfl
theorem ca55 : V.callable Tryz.prog 55 = true := by kernel_rfl
theorem rs57 : Tryz.f57.results.toList = [.tmp 2] := rfl
theorem ca57 : V.callable Tryz.prog 57 = true := by kernel_rfl
theorem rs58 : Tryz.f58.results.toList = [.cell 2 79] := rfl
theorem ca58 : V.callable Tryz.prog 58 = true := by kernel_rfl
theorem rs59 : Tryz.f59.results.toList = [.cell 2 79] := rfl
theorem ca59 : V.callable Tryz.prog 59 = true := by kernel_rfl
theorem rs60 : Tryz.f60.results.toList = [.cell 4 79] := rfl
theorem ca60 : V.callable Tryz.prog 60 = true := by kernel_rfl
theorem rs61 : Tryz.f61.results.toList = [.tmp 2] := rfl
theorem ca61 : V.callable Tryz.prog 61 = true := by kernel_rfl
theorem rs63 : Tryz.f63.results.toList = [.tmp 5] := rfl
theorem ca63 : V.callable Tryz.prog 63 = true := by kernel_rfl
theorem rs64 : Tryz.f64.results.toList = [.tmp 5] := rfl
theorem ca64 : V.callable Tryz.prog 64 = true := by kernel_rfl
theorem rs65 : Tryz.f65.results.toList = [.tmp 8] := rfl
theorem ca65 : V.callable Tryz.prog 65 = true := by kernel_rfl
theorem rs66 : Tryz.f66.results.toList = [.tmp 5] := rfl
theorem ca66 : V.callable Tryz.prog 66 = true := by kernel_rfl
theorem rs67 : Tryz.f67.results.toList = [.cell 4 68] := rfl
theorem ca67 : V.callable Tryz.prog 67 = true := by kernel_rfl
theorem rs68 : Tryz.f68.results.toList = [.cell 4 68] := rfl
theorem ca68 : V.callable Tryz.prog 68 = true := by kernel_rfl
theorem rs69 : Tryz.f69.results.toList = [.cell 4 68] := rfl
theorem ca69 : V.callable Tryz.prog 69 = true := by kernel_rfl
theorem rs71 : Tryz.f71.results.toList = [.tmp 2] := rfl
theorem ca71 : V.callable Tryz.prog 71 = true := by kernel_rfl
theorem rs72 : Tryz.f72.results.toList = [.tmp 4, .tmp 5] := rfl
theorem ca72 : V.callable Tryz.prog 72 = true := by kernel_rfl
theorem rs73 : Tryz.f73.results.toList = [.tmp 4] := rfl
theorem ca73 : V.callable Tryz.prog 73 = true := by kernel_rfl
theorem rs74 : Tryz.f74.results.toList = [.tmp 2] := rfl
theorem ca74 : V.callable Tryz.prog 74 = true := by kernel_rfl
theorem rs75 : Tryz.f75.results.toList = [.tmp 4] := rfl
theorem ca75 : V.callable Tryz.prog 75 = true := by kernel_rfl
theorem rs76 : Tryz.f76.results.toList = [.tmp 2] := rfl
theorem ca76 : V.callable Tryz.prog 76 = true := by kernel_rfl
theorem rs77 : Tryz.f77.results.toList = [] := rfl
theorem ca77 : V.callable Tryz.prog 77 = true := by kernel_rfl
theorem rs84 : Tryz.f84.results.toList = [.tmp 4] := rfl
theorem ca84 : V.callable Tryz.prog 84 = true := by kernel_rfl
theorem rs85 : Tryz.f85.results.toList = [.tmp 4] := rfl
theorem ca85 : V.callable Tryz.prog 85 = true := by kernel_rfl
theorem rs86 : Tryz.f86.results.toList = [.tmp 4] := rfl
theorem ca86 : V.callable Tryz.prog 86 = true := by kernel_rfl
theorem rs87 : Tryz.f87.results.toList = [.tmp 4] := rfl
theorem ca87 : V.callable Tryz.prog 87 = true := by kernel_rfl
theorem rs88 : Tryz.f88.results.toList = [.tmp 2] := rfl
theorem ca88 : V.callable Tryz.prog 88 = true := by kernel_rfl
theorem rs89 : Tryz.f89.results.toList = [.tmp 2] := rfl
theorem ca89 : V.callable Tryz.prog 89 = true := by kernel_rfl
theorem rs90 : Tryz.f90.results.toList = [.tmp 4] := rfl
theorem ca90 : V.callable Tryz.prog 90 = true := by kernel_rfl
theorem rs91 : Tryz.f91.results.toList = [.tmp 4, .tmp 5] := rfl
theorem ca91 : V.callable Tryz.prog 91 = true := by kernel_rfl
theorem rs92 : Tryz.f92.results.toList = [.tmp 4] := rfl
theorem ca92 : V.callable Tryz.prog 92 = true := by kernel_rfl
theorem rs100 : Tryz.f100.results.toList = [.tmp 6, .tmp 7] := rfl
theorem ca100 : V.callable Tryz.prog 100 = true := by kernel_rfl
theorem rs101 : Tryz.f101.results.toList = [.tmp 2] := rfl
theorem ca101 : V.callable Tryz.prog 101 = true := by kernel_rfl
theorem rs109 : Tryz.f109.results.toList = [.tmp 2] := rfl
theorem ca109 : V.callable Tryz.prog 109 = true := by kernel_rfl
theorem rs155 : Tryz.f155.results.toList = [] := rfl

attribute [go_sem] k3 z3 k22 z22 k23 z23 k50 z50 k63 z63 k68 z68 k79 z79 k98 z98 ld3 ls3 k4 z4 ld4 ls4 k9 z9 ld9 ls9 ld22 ls22 ld23 ls23 k25 z25 ld25 ls25 k27 z27 ld27 ls27 k29 z29 ld29 ls29 k47 z47 ld47 ls47 ld50 ls50 k60 z60 ld60 ls60 k66 z66 ld66 ls66 ld68 ls68 k77 z77 ld77 ls77 ld79 ls79 k89 z89 ld89 ls89 ld98 ls98 fa25_0 fs25_0 fa25_1 fs25_1 fa25_2 fs25_2 fa47_0 fs47_0 fa47_1 fs47_1 fa47_2 fs47_2 fa47_3 fs47_3 fa62_0 fs62_0 fa68_0 fs68_0 fa68_1 fs68_1 fa79_0 fs79_0 fa79_1 fs79_1 fl68_1 fl79_1 ia22 is22 ia48 is48 ia50 is50 ia66 is66 ia77 is77 Tryz.underlying9 Tryz.underlying27 k62 z62 Tryz.underlying63 le22 ll22 lr22 le48 ll48 lr48 le66 ll66 lr66 le77 ll77 lr77 zo50 zd50 b50 zo63 zd63 b63 zo68 zd68 b68 zo79 zd79 b79 k108 z108 zo108 b108 p50 p50_0 p50_1 zo62 zd62 b62 p62 p62_0 p63 p63_0 p63_1 p63_2 p68 p68_0 p68_1 p79 p79_0 p79_1 Tryz.underlying48 zw50_4 zo98 zd98 b98 Tryz.underlying66 zw98_0 zw98_1 zw98_2 zo3 zd3 b3 Tryz.underlying77 zw3_1 k5 z5 zo5 zd5 b5 Tryz.underlying106 zw5_4 zo23 zd23 b23 Tryz.underlying22 zr98 zr3 Tryz.underlying4 nqs66 nns66 nqr66 nnr66 nql66 nnl66 Tryz.underlying3 Tryz.underlying5 Tryz.underlying23 Tryz.underlying98 Tryz.underlying122 rs3 rs4 rs5 rs6 rs7 rs8 rs9 rs10 rs11 rs12 rs13 rs14 rs15 rs16 rs17 rs18 rs19 rs20 rs21 rs22 rs23 rs24 rs25 rs26 rs27 rs28 rs29 rs30 rs31 rs32 rs33 rs34 rs35 rs36 rs37 rs38 rs39 rs40 rs42 rs43 rs44 rs45 rs46 rs47 rs48 rs49 rs50 rs51 rs52 rs53 rs54 rs55 rs57 rs58 rs59 rs60 rs61 rs63 rs64 rs65 rs66 rs67 rs68 rs69 rs71 rs72 rs73 rs74 rs75 rs76 rs77 rs84 rs85 rs86 rs87 rs88 rs89 rs90 rs91 rs92 rs100 rs101 rs109 rs155

end Go.Proofs.YtglnkfpmogaifaaGreatDoor.V

/-
  Facts of what lies within an aggregate.
-/
namespace Go.Proofs.YtglnkfpmogaifaaGreatDoor.V
open Go Go.RowKit

theorem R_agsl {P : Program} {ro : Option (Nat × Nat)} {st : St} {Q : Exit → St → Prop} {c : Code} {k : List Code} (j i : Nat) {n : Nat} {ds cs : List D} (hj : st.t j = .ag ds) (hi : ds[i]? = some (.sl n cs)) (h : n ≤ 9223372036854775807 → R P ro (c :: k) st Q) : R P ro (c :: k) st Q := by
  refine T_fact (p := n ≤ 9223372036854775807) (fun E X a hg => ?_) h
  have hv := hg.tr j
  rw [hj] at hv
  simp only [Vr] at hv
  obtain ⟨xs, _, hl⟩ := hv
  obtain ⟨v, _, hvr⟩ := Lr_get hl i _ hi
  simp only [Vr] at hvr
  exact hvr.1

theorem ints_isEmpty (k : IntKind) (xs : List Int) : (ints k xs).isEmpty = decide (xs.length = 0) := by
  cases xs <;> simp [ints]
theorem closed_sl (n : Nat) (cs : List D) : closed (.sl n cs) = cs.isEmpty := by cases cs <;> rfl
theorem decide_len {α : Type} {xs : List α} (h : xs.length ≠ 0) : decide (xs.length = 0) = false := decide_eq_false h
attribute [go_sem] ints_isEmpty closed_sl List.isEmpty_cons List.isEmpty_nil Bool.and_false Bool.false_and decide_len

/-! ### a range over a function: what is asked of it -/
def Pins (p : Nat) : List (Nat × D) → Prop
  | [] => True
  | x :: l => ren (keepN p) x.2 = x.2 ∧ Pins p l
theorem Pins.at_ {p : Nat} : ∀ {l : List (Nat × D)}, Pins p l → ∀ k, ren (keepN p) (tl l k) = tl l k
  | [], _, _ => rfl
  | x :: l, h, k => by
    simp only [tl]
    split
    · exact h.1
    · exact h.2.at_ k
theorem viewQ_rf (s : Sg) (q : List Nat) (n id off len es : Nat) : viewQ s q (n + 1) (.rf id off len es) = if id ∈ q then
        (match s id with
        | some o => if off + len * es ≤ o.cells.length then .sl len (((o.cells.drop off).take (len * es)).map (viewQ s q n)) else .junk
        | none => .junk)
      else if len = 0 then .sl 0 [] else .junk := rfl
theorem viewQ_pt (s : Sg) (q : List Nat) (n id off : Nat) : viewQ s q (n + 1) (.pt id off) = if id ∈ q then
        (match s id with
        | some o => .sp (o.cells.map (viewQ s q n)) off
        | none => .junk)
      else .junk := rfl
theorem viewQ_sl (s : Sg) (q : List Nat) (n len : Nat) (cs : List D) : viewQ s q (n + 1) (.sl len cs) = .sl len (cs.map (viewQ s q n)) := rfl
theorem viewQ_sp (s : Sg) (q : List Nat) (n off : Nat) (cs : List D) : viewQ s q (n + 1) (.sp cs off) = .sp (cs.map (viewQ s q n)) off := rfl
theorem viewQ_fn (s : Sg) (q : List Nat) (n : Nat) (f : Fn) (a b : List D) : viewQ s q (n + 1) (.fn f a b) = .fn f (a.map (viewQ s q n)) (b.map (viewQ s q n)) := rfl
theorem viewQ_ag (s : Sg) (q : List Nat) (n : Nat) (a : List D) : viewQ s q (n + 1) (.ag a) = .ag (a.map (viewQ s q n)) := rfl
theorem viewQ_tp (s : Sg) (q : List Nat) (n : Nat) (a : List D) : viewQ s q (n + 1) (.tp a) = .tp (a.map (viewQ s q n)) := rfl
theorem viewQ_sc (s : Sg) (q : List Nat) (n : Nat) (v : Value) : viewQ s q (n + 1) (.sc v) = .sc v := rfl
theorem viewQ_em (s : Sg) (q : List Nat) (n : Nat) : viewQ s q (n + 1) .em = .sl 0 [] := rfl
theorem ints_viewQ (s : Sg) (q : List Nat) (n : Nat) (k : IntKind) (xs : List Int) : (ints k xs).map (viewQ s q (n + 1)) = ints k xs := by
  simp [ints, List.map_map, Function.comp_def, viewQ]
theorem viewQ_rf' {s : Sg} {q : List Nat} {n id off len es : Nat} {o : O} (h : id ∈ q) (ho : s id = some o) (hl : off + len * es ≤ o.cells.length) : viewQ s q (n + 1) (.rf id off len es) = .sl len (((o.cells.drop off).take (len * es)).map (viewQ s q n)) := by
  rw [viewQ_rf, if_pos h, ho]
  exact if_pos hl
theorem mem_one (a : Nat) : a ∈ [a] ↔ True := by simp
attribute [go_sem] viewQ_rf viewQ_pt viewQ_sl viewQ_sp viewQ_fn viewQ_ag viewQ_tp viewQ_sc viewQ_em ints_viewQ List.mem_cons List.not_mem_nil or_false false_or or_true true_or putAll
theorem frz_one {s : Sg} {a : Nat} {o' : O} (h : s a = some o') (hf : o'.fz = true) : ∀ id ∈ [a], ∀ o, s id = some o → o.fz = true := fun id hid o ho => by
  simp only [List.mem_cons, List.not_mem_nil, or_false] at hid
  subst hid
  rw [h] at ho; cases ho; exact hf

/-- The end of a round. -/
theorem R_nilG {P : Program} {ro : Option (Nat × Nat)} {p : Nat} {lt : List (Nat × D)} {st st0 : St} {Q : Exit → St → Prop} {os : List (Nat × O)} (ids : List Nat) (hs : HasS ids st os) (hn : ids.Nodup) (hnx : ids.length ≤ st0.nx) (hp : Pin p ids) : R P ro [] st (rangeQ p lt st0 (ol os) Q) :=
  R_nil ⟨ids, ⟨tl [], ol os, st0.nx, st.ds, st.n⟩, Less.mk' (l := []) trivial hs hn hnx, hp, rfl, rfl⟩

/-! ### what is frozen, seen as data -/
theorem plain_later (X : Ctx) : Later (plain X) X := ⟨fun _ _ h => by simp [plain] at h, fun _ h => h, fun _ _ => rfl⟩
def Seen (s : Sg) (q : List Nat) (t : Nat → D) : List (Nat × D) → Prop
  | [] => True
  | x :: l => (t x.1 = x.2 ∨ viewQ s q 5 (t x.1) = x.2) ∧ Seen s q t l
theorem Seen.at_ {s : Sg} {q : List Nat} {t : Nat → D} : ∀ {l : List (Nat × D)}, Seen s q t l → ∀ k, tl l k = t k ∨ tl l k = viewQ s q 5 (t k) ∨ tl l k = .junk
  | [], _, k => .inr (.inr rfl)
  | x :: l, h, k => by
    simp only [tl]
    split
    · rename_i e; subst e
      rcases h.1 with h | h
      · exact .inl h.symm
      · exact .inr (.inl h.symm)
    · exact h.2.at_ k
theorem R_seen {P : Program} {ro : Option (Nat × Nat)} {t : Nat → D} {s : Sg} {nx n : Nat} {ds : List Deferred} {Q : Exit → St → Prop} {c : Code} {k : List Code} (q : List Nat) (l : List (Nat × D)) (hq : ∀ id ∈ q, ∀ o, s id = some o → o.fz = true) (hl : Seen s q t l)
    (h : R P ro (c :: k) ⟨tl l, s, nx, ds, n⟩ Q) : R P ro (c :: k) ⟨t, s, nx, ds, n⟩ Q := by
  intro E m X a hg
  refine h E m X a { hg with tr := fun j => ?_ }
  show Vr X (tl l j) _
  rcases hl.at_ j with e | e | e
  · rw [e]; exact hg.tr j
  · rw [e]; exact Vr_later (plain_later X) _ (viewQ_ok hg.sim hq 5 _ _ (hg.tr j))
  · rw [e]; simp [Vr]
theorem frz_nil (s : Sg) : ∀ id ∈ ([] : List Nat), ∀ o, s id = some o → o.fz = true := fun id h => by cases h
theorem frz_cons {s : Sg} {a : Nat} {q : List Nat} (h : ∀ o, s a = some o → o.fz = true) (hq : ∀ id ∈ q, ∀ o, s id = some o → o.fz = true) : ∀ id ∈ a :: q, ∀ o, s id = some o → o.fz = true := fun id hid o ho => by
  rcases List.mem_cons.1 hid with rfl | hid
  · exact h o ho
  · exact hq id hid o ho

/-! ### roads that join -/
theorem R_mono {P : Program} {ro : Option (Nat × Nat)} {Q Q' : Exit → St → Prop} (hq : ∀ e s, Q e s → Q' e s) : ∀ {k : List Code} {st : St}, R P ro k st Q → R P ro k st Q'
  | [], _, h => hq _ _ h
  | c :: k, st, h => T.mono h fun e s hs => by
    cases e with
    | normal => exact R_mono hq hs
    | _ => exact hq _ _ hs
/-- Code that is right from the one state is right from the other. -/
def Sub (P : Program) (ro : Option (Nat × Nat)) (s s' : St) : Prop := ∀ c k Q, R P ro (c :: k) s' Q → R P ro (c :: k) s Q
theorem Sub.refl {P : Program} {ro : Option (Nat × Nat)} (s : St) : Sub P ro s s := fun _ _ _ h => h
theorem Sub.trans {P : Program} {ro : Option (Nat × Nat)} {a b c : St} (h : Sub P ro a b) (k : Sub P ro b c) : Sub P ro a c := fun x y Q z => h x y Q (k x y Q z)
theorem Sub.less {P : Program} {ro : Option (Nat × Nat)} {s s' : St} {ids : List Nat} (h : LessP ro s ids s') : Sub P ro s s' := fun _ _ _ z => R_less h z (by simp)
theorem Sub.frz {P : Program} {ro : Option (Nat × Nat)} {t : Nat → D} {s s' : Sg} {nx n : Nat} {ds : List Deferred} (fs : List Nat) (hs : s.app (fs.map fun id => (id, (s id).map fzO)) = s') : Sub P ro ⟨t, s, nx, ds, n⟩ ⟨t, s', nx, ds, n⟩ := fun _ _ _ z => R_frz fs hs z
theorem Sub.seen {P : Program} {ro : Option (Nat × Nat)} {t : Nat → D} {s : Sg} {nx n : Nat} {ds : List Deferred} (q : List Nat) (l : List (Nat × D)) (hq : ∀ id ∈ q, ∀ o, s id = some o → o.fz = true) (hl : Seen s q t l) : Sub P ro ⟨t, s, nx, ds, n⟩ ⟨tl l, s, nx, ds, n⟩ := fun _ _ _ z => R_seen q l hq hl z
/-- What holds behind a piece of code. -/
def midQ {ι : Type} (P : Program) (ro : Option (Nat × Nat)) (mk : ι → St) (Ok : ι → Prop) (Q : Exit → St → Prop) : Exit → St → Prop
  | .normal, s => ∃ i, Ok i ∧ Sub P ro s (mk i)
  | e, s => Q e s
theorem R_mid {P : Program} {ro : Option (Nat × Nat)} {st : St} {Q : Exit → St → Prop} {c c' : Code} {k : List Code} {ι : Type} (mk : ι → St) (Ok : ι → Prop) (h1 : R P ro [c] st (midQ P ro mk Ok Q)) (h2 : ∀ i, Ok i → R P ro (c' :: k) (mk i) Q) : R P ro (c :: c' :: k) st Q := by
  refine T.mono (T_of_R h1) fun e s hs => ?_
  cases e with
  | normal =>
    obtain ⟨i, hi, hsub⟩ := hs
    exact hsub _ _ _ (h2 i hi)
  | _ => exact hs
theorem R_mid2 {P : Program} {ro : Option (Nat × Nat)} {st : St} {Q : Exit → St → Prop} {c d c' : Code} {k : List Code} {ι : Type} (mk : ι → St) (Ok : ι → Prop) (h1 : R P ro [c, d] st (midQ P ro mk Ok Q)) (h2 : ∀ i, Ok i → R P ro (c' :: k) (mk i) Q) : R P ro (c :: d :: c' :: k) st Q := by
  refine T.mono (show T P ro c st (Exit.thenV (fun s => R P ro [d] s (midQ P ro mk Ok Q)) (midQ P ro mk Ok Q)) from h1) fun e s hs => ?_
  cases e with
  | normal =>
    refine T.mono (T_of_R hs) fun e s hs => ?_
    cases e with
    | normal =>
      obtain ⟨i, hi, hsub⟩ := hs
      exact hsub _ _ _ (h2 i hi)
    | _ => exact hs
  | _ => exact hs
theorem R_midB {P : Program} {ro : Option (Nat × Nat)} {st : St} {Q Q' : Exit → St → Prop} {id : Nat} {L : List Code} {c' : Code} {k : List Code} {ι : Type} (mk : ι → St) (Ok : ι → Prop) (h1 : R P ro L st (blockQ id (fun s => ∃ i, Ok i ∧ Sub P ro s (mk i)) Q')) (h2 : ∀ i, Ok i → R P ro (c' :: k) (mk i) Q) :
    R P ro L st (blockQ id (fun s => R P ro (c' :: k) s Q) Q') := by
  refine R_mono (fun e s hs => ?_) h1
  have key : (∃ i, Ok i ∧ Sub P ro s (mk i)) → R P ro (c' :: k) s Q := fun ⟨i, hi, hsub⟩ => hsub _ _ _ (h2 i hi)
  cases e with
  | normal => exact key hs
  | exit j =>
    simp only [blockQ] at hs ⊢
    split
    · rename_i e; rw [if_pos e] at hs; exact key hs
    · rename_i e; rw [if_neg e] at hs; exact hs
  | _ => exact hs
theorem R_nilM {P : Program} {ro : Option (Nat × Nat)} {st : St} {Q : Exit → St → Prop} {ι : Type} {mk : ι → St} {Ok : ι → Prop} (i : ι) (hi : Ok i) (h : Sub P ro st (mk i)) : R P ro [] st (midQ P ro mk Ok Q) := ⟨i, hi, h⟩

/-! ### a guard that is known -/
section
variable {P : Program} {ops : Array Oper} {Q : St → Prop} {K : List Fx → St → Prop} {acc : List Fx} {rest : List Oper} {t : Nat → D} {s : Sg} {nx n : Nat} {ds : List Deferred} {op : Op} {ty : TypeId} {pos : String} {after : Array Edge} {dst : Option Tmp}
theorem vg_on {j g : Nat} {want : Bool} (hj : (ops[j]?).bind (·.dst) = some g) (hb : t g = .sc (.bool want)) (h : vrun P ops Q (⟨dst, op, ty, pos, after, none⟩ :: rest) ⟨t, s, nx, ds, n⟩) :
    vrun P ops Q (⟨dst, op, ty, pos, after, some (j, want)⟩ :: rest) ⟨t, s, nx, ds, n⟩ := by
  obtain ⟨b, h1, h2, h3, h4⟩ := h
  have e : b = true := by simpa [vwant] using h1.symm
  subst e
  exact ⟨true, by rw [vwant_of rfl hj hb]; simp, h2, h3, fun e => by cases e⟩
theorem vg_off {k j g : Nat} {want b : Bool} (hj : (ops[j]?).bind (·.dst) = some g) (hb : t g = .sc (.bool b)) (hn : (b == want) = false) (hf : k < n) (h : vrun P ops Q rest ⟨upd t k (.sc undef), s, nx, ds, n⟩) :
    vrun P ops Q (⟨some k, op, ty, pos, after, some (j, want)⟩ :: rest) ⟨t, s, nx, ds, n⟩ :=
  ⟨false, by rw [vwant_of rfl hj hb, hn], fun _ e => by cases e; exact hf, fun e => (by cases e), fun _ => h⟩
theorem vg_und {k j g : Nat} {want : Bool} (hj : (ops[j]?).bind (·.dst) = some g) (hb : t g = .sc undef) (hf : k < n) (h : vrun P ops Q rest ⟨upd t k (.sc undef), s, nx, ds, n⟩) :
    vrun P ops Q (⟨some k, op, ty, pos, after, some (j, want)⟩ :: rest) ⟨t, s, nx, ds, n⟩ :=
  ⟨false, by simp [vwant, hj, hb, undef], fun _ e => by cases e; exact hf, fun e => (by cases e), fun _ => h⟩
theorem vga_und {k j g : Nat} {want : Bool} (hj : (ops[j]?).bind (·.dst) = some g) (hb : t g = .sc undef) (hf : k < n) (h : vall P ops K rest ⟨upd t k (.sc undef), s, nx, ds, n⟩ (acc ++ [⟨some k, ⟨.sc undef, [], [], 0⟩⟩])) :
    vall P ops K (⟨some k, op, ty, pos, after, some (j, want)⟩ :: rest) ⟨t, s, nx, ds, n⟩ acc :=
  ⟨false, by simp [vwant, hj, hb, undef], fun _ e => by cases e; exact hf, fun e => (by cases e), fun _ => ⟨[], h⟩⟩
theorem gd_tf (d : D) : gd true false d = .sc undef := rfl
theorem gd_ft (d : D) : gd false true d = .sc undef := rfl
attribute [go_sem] gd_tf gd_ft
theorem vga_on {j g : Nat} {want : Bool} (hj : (ops[j]?).bind (·.dst) = some g) (hb : t g = .sc (.bool want)) (h : vall P ops K (⟨dst, op, ty, pos, after, none⟩ :: rest) ⟨t, s, nx, ds, n⟩ acc) :
    vall P ops K (⟨dst, op, ty, pos, after, some (j, want)⟩ :: rest) ⟨t, s, nx, ds, n⟩ acc := by
  obtain ⟨b, h1, h2, h3, h4⟩ := h
  have e : b = true := by simpa [vwant] using h1.symm
  subst e
  exact ⟨true, by rw [vwant_of rfl hj hb]; simp, h2, h3, fun e => by cases e⟩
theorem vga_off {k j g : Nat} {want b : Bool} (hj : (ops[j]?).bind (·.dst) = some g) (hb : t g = .sc (.bool b)) (hn : (b == want) = false) (hf : k < n) (h : vall P ops K rest ⟨upd t k (.sc undef), s, nx, ds, n⟩ (acc ++ [⟨some k, ⟨.sc undef, [], [], 0⟩⟩])) :
    vall P ops K (⟨some k, op, ty, pos, after, some (j, want)⟩ :: rest) ⟨t, s, nx, ds, n⟩ acc :=
  ⟨false, by rw [vwant_of rfl hj hb, hn], fun _ e => by cases e; exact hf, fun e => (by cases e), fun _ => ⟨[], h⟩⟩
theorem vpick_x (b : Bool) (x y : D) : vpick (.sc (.bool b)) x y = some (if b then x else y) := by cases b <;> rfl
end

/-! ### a call by contract whose result may hold the arguments' own memory: the arguments' objects freeze -/
section
variable {P : Program} {ops : Array Oper} {Q : St → Prop} {K : List Fx → St → Prop} {acc : List Fx} {rest : List Oper} {t : Nat → D} {s : Sg} {nx n : Nat} {ds : List Deferred} {ty : TypeId} {pos : String} {after : Array Edge} {k : Tmp}
theorem vs_callz {x : Operand} {args : Array Operand} {ats : Array TypeId} {g : FuncId} {first caps : List D} {all : List D} {r r' : D} {os : List O} {ids : List Nat} {s' : Sg} {nx' : Nat} (hc : Con P g all r os) (hx : ev ⟨t, s, nx, ds, n⟩ x = .fn (.func g) first caps)
    (ha : (first ++ args.toList.map (ev ⟨t, s, nx, ds, n⟩) ++ caps).map (view s 5) = all) (hf : k < n)
    (hi : (first ++ args.toList.map (ev ⟨t, s, nx, ds, n⟩) ++ caps).flatMap (vids s 5) = ids)
    (hr : ren (shift nx os.length) r = r') (hs : s.app ((ids.map fun id => (id, (s id).map fzO)) ++ news nx os) = s') (hn : nx + os.length = nx') (hk : vrun P ops Q rest ⟨upd t k r', s', nx', ds, n⟩) :
    vrun P ops Q (⟨some k, .call ⟨.value x, args, ats⟩, ty, pos, after, none⟩ :: rest) ⟨t, s, nx, ds, n⟩ := by
  subst hr hs hn hi
  exact ⟨true, rfl, fun _ e => by cases e; exact hf, fun _ => .inr (.inr ⟨g, first, caps, hx, r, os, by rw [ha]; exact hc, hk⟩), fun e => by cases e⟩
theorem va_callz {x : Operand} {args : Array Operand} {ats : Array TypeId} {g : FuncId} {first caps : List D} {all : List D} {r r' : D} {os : List O} {ids : List Nat} {ws : List (Nat × Option O)} {s' : Sg} {nx' : Nat} (hc : Con P g all r os) (hx : ev ⟨t, s, nx, ds, n⟩ x = .fn (.func g) first caps)
    (ha : (first ++ args.toList.map (ev ⟨t, s, nx, ds, n⟩) ++ caps).map (view s 5) = all) (hf : k < n)
    (hi : (first ++ args.toList.map (ev ⟨t, s, nx, ds, n⟩) ++ caps).flatMap (vids s 5) = ids)
    (hr : ren (shift nx os.length) r = r') (hw : (ids.map fun id => (id, (s id).map fzO)) ++ news nx os = ws) (hs : s.app ws = s') (hn : nx + os.length = nx') (hk : vall P ops K rest ⟨upd t k r', s', nx', ds, n⟩ (acc ++ [⟨some k, ⟨r', ws, ids, os.length⟩⟩])) :
    vall P ops K (⟨some k, .call ⟨.value x, args, ats⟩, ty, pos, after, none⟩ :: rest) ⟨t, s, nx, ds, n⟩ acc := by
  subst hr hw hs hn hi
  exact ⟨true, rfl, fun _ e => by cases e; exact hf, fun _ => .inr (.inr ⟨g, first, caps, hx, r, os, by rw [ha]; exact hc, hk⟩), fun e => by cases e⟩
end

end Go.Proofs.YtglnkfpmogaifaaGreatDoor.V

