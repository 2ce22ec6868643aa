/- The law Beats of queuewire returns true for every three integers: the row over the given program, tied to its text; no condition besides. (Part 2 of 40: QwOps QwFill QwOpQ QwOpS.) -/
import Derived.Test.YtpiabknabfbfhaaGreatDoorBeats01
set_option linter.all false
-- What each kind of operation asks of the visible heap, in a form that is reckoned by unfolding; sound for the model's operation.
namespace Go.Qw
open Go Go.Conc

section
variable {P : Program} {α β : Type} {Q : α → Hp → Prop} {R : β → Hp → Prop} {H : Halt → Hp → Prop} {σ : Hp}
theorem wpS_pure' (a : α) : wpS P (pure a : Sem α) Q H σ = Q a σ := rfl
theorem wpS_bind_eq (s : Sem α) (f : α → Sem β) : wpS P (s >>= f) R H σ = wpS P s (fun a σ => wpS P (f a) R H σ) H σ := by
  apply propext
  constructor
  · show wpS P (s.bind f) R H σ → _
    induction s generalizing σ with
    | pure a => exact fun h => h
    | load m a k ih => exact fun ⟨v, hv, h⟩ => ⟨v, hv, ih v h⟩
    | store m a v k ih =>
      intro h
      cases v <;> first | exact h.elim | exact ⟨h.1, h.2.1, ih h.2.2⟩
    | new o k ih => exact fun h b hb => ih _ (h b hb)
    | shape r k ih => exact fun h => ⟨h.1, ih _ h.2⟩
    | freeze a n k ih => exact fun h => ⟨h.1, ih h.2⟩
    | frozen a k ih => exact fun h => ⟨h.1, ih _ h.2⟩
    | getObj r k ih => exact fun ⟨o, ho, hc, h⟩ => ⟨o, ho, hc, ih _ h⟩
    | setObj r o k ih => exact fun ⟨o', ho, hc, h⟩ => ⟨o', ho, hc, ih h⟩
    | choose q k ih =>
      intro h
      unfold Sem.bind at h
      unfold wpS at h ⊢
      split
      · rename_i hf; rw [if_pos hf] at h; exact ih _ h
      · rename_i hf; rw [if_neg hf] at h; exact fun t => ih _ (h t)
    | sys c k ih => exact fun h => h.elim
    | program k ih => exact fun h => ih _ h
    | mark m k ih => exact fun h => ⟨h.1, ih h.2⟩
    | halt h => exact fun x => x
  · exact wpS_bind f s σ
theorem wpS_map_eq (s : Sem α) (f : α → β) : wpS P (f <$> s) R H σ = wpS P s (fun a σ => R (f a) σ) H σ := wpS_bind_eq s (fun a => pure (f a))
theorem wpS_program {Q : Program → Hp → Prop} : wpS P program Q H σ = Q P σ := rfl
theorem wpS_load (a : Addr) (m : Mode) {Q : Value → Hp → Prop} : wpS P (load a m) Q H σ = ∃ v, σ.cell? a = some v ∧ Q v σ := rfl
theorem wpS_newObj (o : Obj) {Q : Nat → Hp → Prop} : wpS P (newObj o) Q H σ = ∀ b, σ.f b = none → Q b (σ.set b o) := rfl
theorem wpS_getObj (r : Nat) {Q : Obj → Hp → Prop} : wpS P (getObj r) Q H σ = ∃ o, σ.f r = some o ∧ notCells o = true ∧ Q o σ := rfl
theorem wpS_setObj (r : Nat) (o : Obj) {Q : Unit → Hp → Prop} : wpS P (setObj r o) Q H σ = ∃ o', σ.f r = some o' ∧ notCells o' = true ∧ Q () (σ.set r o) := rfl
theorem wpS_shape (r : Nat) {Q : Option (TypeId × Nat) → Hp → Prop} : wpS P (shape r) Q H σ = ((σ.f r).isSome = true ∧ Q (σ.shape? r) σ) := rfl
theorem wpS_freeze (a : Addr) (n : Nat) {Q : Unit → Hp → Prop} : wpS P (freeze a n) Q H σ = ((σ.f a.block).isSome = true ∧ Q () (σ.freeze a n)) := rfl
theorem wpS_choose (q : Question) {Q : Nat → Hp → Prop} : wpS P (choose q) Q H σ = if q.forced then Q 0 σ else ∀ t, Q (q.cut t) σ := rfl
theorem wpS_mark (m : Mark) {Q : Unit → Hp → Prop} : wpS P (mark m) Q H σ = (okMark m = true ∧ Q () σ) := rfl
theorem wpS_underlying (t : TypeId) {Q : TypeDesc → Hp → Prop} : wpS P (underlying t) Q H σ = match P.underlying t with | some d => Q d σ | none => H (.stuck "no such type") σ := by
  simp only [underlying, wpS_bind_eq, wpS_program]
  cases P.underlying t <;> rfl
theorem wpS_typeInfo (t : TypeId) {Q : TypeInfo → Hp → Prop} : wpS P (typeInfo t) Q H σ = match P.info? t with | some i => Q i σ | none => H (.stuck "no such type") σ := by
  simp only [typeInfo, wpS_bind_eq, wpS_program]
  cases P.info? t <;> rfl
end

def isScalarV : Value → Bool
  | .agg _ | .tuple _ => false
  | _ => true

theorem wpS_store {P : Program} {H : Halt → Hp → Prop} {σ : Hp} {Q : Unit → Hp → Prop} (a : Addr) (v : Value) (h : isScalarV v = true) :
    wpS P (store a v) Q H σ = ((∃ u, σ.cell? a = some u) ∧ σ.frozen? a = false ∧ Q () (σ.setCell a v)) := by
  cases v <;> first | rfl | cases h

/-! ### facts on types -/
def aggT (P : Program) (t : TypeId) : Bool := match P.underlying t with | some (.struct _) | some (.array _ _) => true | _ => false
def isT (P : Program) (t : TypeId) : Bool := (P.underlying t).isSome && (P.info? t).isSome
def sizeT (P : Program) (t : TypeId) : Nat := match P.info? t with | some i => i.size | none => 0
def zeroT (P : Program) (t : TypeId) : Option Value := match P.info? t with | some i => i.zero | none => none
def fieldOff (P : Program) (s : TypeId) (f : Nat) : Option Nat :=
  match P.underlying s with
  | some (.struct fs) => match fs[f]? with
    | some x => if (P.info? x.type).isSome && sizeT P x.type != 0 then some x.offset else none
    | none => none
  | _ => none
def sliceElem (P : Program) (t : TypeId) : Option TypeId := match P.underlying t with | some (.slice e) => some e | _ => none

section
variable {P : Program} {H : Halt → Hp → Prop} {σ : Hp}

def cellsOf (σ : Hp) (a : Addr) (n : Nat) : Option (Array Value) :=
  match σ.f a.block with
  | some (.cells c _ _) => if a.spot = none ∧ a.off + n ≤ c.size then some (c.extract a.off (a.off + n)) else none
  | _ => none

theorem Addr.add_spot {a : Addr} (h : a.spot = none) (i : Nat) : a.add i = ⟨a.block, a.off + i, none⟩ := by
  obtain ⟨b, o, s⟩ := a
  simp only at h; subst h
  unfold Addr.add
  split
  · rename_i h; subst h; simp
  · rfl

theorem wpS_loadCellsFrom {c : Array Value} {e : TypeId} {z : Nat × Nat} {a : Addr} (hb : σ.f a.block = some (.cells c e z)) (hs : a.spot = none) (n : Nat) :
    ∀ (i : Nat) (acc : Array Value) (Q : Array Value → Hp → Prop), a.off + i + n ≤ c.size → Q (acc ++ c.extract (a.off + i) (a.off + i + n)) σ → wpS P (loadCellsFrom a i n acc) Q H σ := by
  induction n with
  | zero =>
    intro i acc Q _ h
    have e : acc ++ c.extract (a.off + i) (a.off + i + 0) = acc := by
      apply Array.ext'
      simp only [Array.toList_append, Array.toList_extract, List.extract_eq_take_drop]
      simp
    rw [e] at h
    exact h
  | succ n ih =>
    intro i acc Q hlt h
    have hc : σ.cell? (a.add i) = some c[a.off + i] := by
      rw [Addr.add_spot hs]
      simp [Hp.cell?, hb]
    simp only [loadCellsFrom, wpS_bind_eq, wpS_load]
    refine ⟨_, hc, ih (i + 1) _ Q (by omega) ?_⟩
    have : acc.push c[a.off + i] ++ c.extract (a.off + (i + 1)) (a.off + (i + 1) + n) = acc ++ c.extract (a.off + i) (a.off + i + (n + 1)) := by
      apply Array.ext'
      simp only [Array.toList_append, Array.toList_push, Array.toList_extract, List.append_assoc]
      congr 1
      simp only [List.extract_eq_take_drop, List.singleton_append]
      rw [show a.off + (i + 1) + n - (a.off + (i + 1)) = n by omega, show a.off + i + (n + 1) - (a.off + i) = n + 1 by omega]
      have hd : List.drop (a.off + i) c.toList = c[a.off + i] :: List.drop (a.off + (i + 1)) c.toList := by
        rw [List.drop_eq_getElem_cons (by simpa using (by omega : a.off + i < c.size))]
        simp [Nat.add_assoc]
      rw [hd, List.take_succ_cons]
    rw [this]; exact h

/-- A variable is read. -/
def ldQ (P : Program) (t : TypeId) (a : Addr) (σ : Hp) (k : Value → Prop) : Prop :=
  if aggT P t then match cellsOf σ a (sizeT P t) with
    | some cs => k (.agg cs)
    | none => False
  else match σ.cell? a with
    | some v => k v
    | none => False

theorem ldQ_sound {t : TypeId} {a : Addr} {Q : Value → Hp → Prop} (ht : isT P t = true) (h : ldQ P t a σ (fun v => Q v σ)) : wpS P (loadVar t a) Q H σ := by
  unfold isT at ht
  simp only [Bool.and_eq_true, Option.isSome_iff_exists] at ht
  obtain ⟨⟨d, hd⟩, ⟨i, hi⟩⟩ := ht
  unfold ldQ aggT at h
  simp only [loadVar, isAgg, wpS_bind_eq, wpS_underlying, hd]
  have key : ∀ (b : Bool), (if b = true then (match cellsOf σ a (sizeT P t) with | some cs => Q (.agg cs) σ | none => False) else (match σ.cell? a with | some v => Q v σ | none => False)) →
      wpS P (if b = true then (do pure (.agg (← loadCells a (← sizeOf t)))) else load a : Sem Value) Q H σ := by
    intro b hh
    cases b with
    | true =>
      simp only [if_true] at hh ⊢
      simp only [sizeOf, wpS_bind_eq, wpS_typeInfo, hi, wpS_pure']
      unfold cellsOf at hh
      split at hh
      · rename_i cs hcs
        split at hcs
        · rename_i c e z hb
          split at hcs
          · rename_i hlt
            obtain rfl := Option.some.inj hcs
            refine wpS_loadCellsFrom hb hlt.1 _ 0 #[] _ (by have := hlt.2; simpa [sizeT, hi] using this) ?_
            have e1 : sizeT P t = i.size := by simp [sizeT, hi]
            rw [e1] at hh
            simpa using hh
          · cases hcs
        · cases hcs
      · exact hh.elim
    | false =>
      simp only [Bool.false_eq_true, if_false] at hh ⊢
      simp only [wpS_load]
      split at hh
      · rename_i v hv; exact ⟨v, hv, hh⟩
      · exact hh.elim
  rw [hd] at h
  cases d <;> simp only [wpS_pure'] at h ⊢ <;> first | exact key true h | exact key false h

theorem Hp.ext' {σ τ : Hp} (hf : ∀ b, σ.f b = τ.f b) : σ = τ := by
  obtain ⟨f⟩ := σ
  obtain ⟨g⟩ := τ
  have : f = g := funext hf
  subst this; rfl

theorem Hp.modify_eq {b : Nat} {o : Obj} (hb : σ.f b = some o) (g : Obj → Obj) : σ.modify b g = σ.set b (g o) :=
  Hp.ext' fun x => by simp only [Hp.modify, Hp.set, hb, Option.map_some]

theorem Hp.set_set (b : Nat) (o o' : Obj) : (σ.set b o).set b o' = σ.set b o' :=
  Hp.ext' fun x => by simp only [Hp.set]; split <;> rfl

theorem Hp.set_self {b : Nat} {o : Obj} (hb : σ.f b = some o) : σ.set b o = σ :=
  Hp.ext' fun x => by
    simp only [Hp.set]
    split
    · rename_i h; rw [h, hb]
    · rfl

theorem Hp.f_set_same (b : Nat) (o : Obj) : (σ.set b o).f b = some o := by simp [Hp.set]
theorem Hp.f_set_ne {b x : Nat} (o : Obj) (h : x ≠ b) : (σ.set b o).f x = σ.f x := by simp [Hp.set, h]

theorem setCell_eq {c : Array Value} {e : TypeId} {z : Nat × Nat} {a : Addr} {v : Value} (hb : σ.f a.block = some (.cells c e z)) (hs : a.spot = none) : σ.setCell a v = σ.set a.block (.cells (c.setIfInBounds a.off v) e z) := by
  unfold Hp.setCell
  rw [Hp.modify_eq hb]
  simp [cellPut, hs]

/-- A variable is written. -/
def stQ (P : Program) (t : TypeId) (a : Addr) (v : Value) (σ : Hp) (k : Hp → Prop) : Prop :=
  match σ.f a.block with
  | some (.cells c e z) =>
    if isScalarV v then a.spot = none ∧ a.off < c.size ∧ z = (0, 0) ∧ sizeT P t = 1 ∧ k (σ.set a.block (.cells (c.setIfInBounds a.off v) e z))
    else a.spot = none ∧ a.off + v.cells.size ≤ c.size ∧ z = (0, 0) ∧ sizeT P t = v.cells.size ∧ v.cells.all isScalarV = true ∧
      k (σ.set a.block (.cells (c.extract 0 a.off ++ v.cells ++ c.extract (a.off + v.cells.size) c.size) e z))
  | _ => False

theorem wpS_storeCells {e : TypeId} {a : Addr} (hs : a.spot = none) (vs : List Value) :
    ∀ (i : Nat) (c : Array Value) (σ : Hp) (Q : Unit → Hp → Prop), σ.f a.block = some (.cells c e (0, 0)) → a.off + i + vs.length ≤ c.size → vs.all isScalarV = true →
      Q () (σ.set a.block (.cells (c.extract 0 (a.off + i) ++ vs.toArray ++ c.extract (a.off + i + vs.length) c.size) e (0, 0))) → wpS P (storeCells a vs i) Q H σ := by
  induction vs with
  | nil =>
    intro i c σ Q hb hlt _ h
    simp only [storeCells, wpS_pure']
    have e1 : c.extract 0 (a.off + i) ++ ([] : List Value).toArray ++ c.extract (a.off + i + ([] : List Value).length) c.size = c := by
      apply Array.ext'
      simp only [Array.toList_append, Array.toList_extract, List.extract_eq_take_drop, Nat.sub_zero, List.drop_zero, List.append_nil, List.length_nil, Nat.add_zero]
      rw [List.take_of_length_le (l := List.drop (a.off + i) c.toList) (by simp)]
      exact List.take_append_drop _ _
    rw [e1, Hp.set_self hb] at h
    exact h
  | cons v vs ih =>
    intro i c σ Q hb hlt hall h
    simp only [List.all_cons, Bool.and_eq_true] at hall
    simp only [List.length_cons] at hlt
    simp only [storeCells, wpS_bind_eq]
    rw [wpS_store _ _ hall.1, Addr.add_spot hs]
    have hb' : σ.f (⟨a.block, a.off + i, none⟩ : Addr).block = some (.cells c e (0, 0)) := hb
    have hlt' : a.off + i < c.size := by omega
    refine ⟨⟨c[a.off + i], by simp [Hp.cell?, hb, hlt']⟩, by simp [Hp.frozen?, hb], ?_⟩
    rw [setCell_eq hb' rfl]
    refine ih (i + 1) (c.setIfInBounds (a.off + i) v) _ Q (Hp.f_set_same _ _) (by simp; omega) hall.2 ?_
    rw [Hp.set_set]
    have e1 : (c.setIfInBounds (a.off + i) v).extract 0 (a.off + (i + 1)) ++ vs.toArray ++ (c.setIfInBounds (a.off + i) v).extract (a.off + (i + 1) + vs.length) (c.setIfInBounds (a.off + i) v).size = c.extract 0 (a.off + i) ++ (v :: vs).toArray ++ c.extract (a.off + i + (v :: vs).length) c.size := by
      apply Array.ext'
      simp only [Array.toList_append, Array.toList_extract, Array.toList_setIfInBounds, List.extract_eq_take_drop, Nat.sub_zero, List.drop_zero, Array.size_setIfInBounds, List.length_cons]
      have h1 : List.take (a.off + (i + 1)) (c.toList.set (a.off + i) v) = List.take (a.off + i) c.toList ++ [v] := by
        rw [show a.off + (i + 1) = (a.off + i) + 1 by omega, List.take_succ_eq_append_getElem (by simpa using hlt')]
        rw [List.take_set_of_le (Nat.le_refl _)]
        simp
      have h2 : List.drop (a.off + (i + 1) + vs.length) (c.toList.set (a.off + i) v) = List.drop (a.off + i + (vs.length + 1)) c.toList := by
        rw [List.drop_set_of_lt (by omega), show a.off + (i + 1) + vs.length = a.off + i + (vs.length + 1) by omega]
      rw [h1, h2, show c.size - (a.off + (i + 1) + vs.length) = c.size - (a.off + i + (vs.length + 1)) by omega]
      simp
    rw [e1]; exact h

theorem cells_scalar {v : Value} (h : isScalarV v = true) : v.cells = #[v] := by cases v <;> first | rfl | cases h

theorem stQ_sound {t : TypeId} {a : Addr} {v : Value} {Q : Unit → Hp → Prop} (ht : isT P t = true) (h : stQ P t a v σ (fun σ' => Q () σ')) : wpS P (storeVar t a v) Q H σ := by
  unfold isT at ht
  simp only [Bool.and_eq_true, Option.isSome_iff_exists] at ht
  obtain ⟨_, ⟨i, hi⟩⟩ := ht
  unfold stQ at h
  split at h
  · rename_i c e z hb
    have hsz : sizeT P t = i.size := by simp [sizeT, hi]
    simp only [storeVar, sizeOf, wpS_bind_eq, wpS_typeInfo, hi, wpS_pure']
    split at h
    · rename_i hv
      obtain ⟨hs, hlt, rfl, h1, hk⟩ := h
      rw [cells_scalar hv]
      rw [if_neg (by simp; omega)]
      simp only [wpS_pure']
      refine wpS_storeCells hs [v] 0 c σ _ hb (by simp; omega) (by simp [hv]) ?_
      have e1 : c.extract 0 (a.off + 0) ++ [v].toArray ++ c.extract (a.off + 0 + [v].length) c.size = c.setIfInBounds a.off v := by
        apply Array.ext'
        simp only [Array.toList_append, Array.toList_extract, Array.toList_setIfInBounds, List.extract_eq_take_drop, Nat.sub_zero, List.drop_zero, Nat.add_zero, List.length_cons, List.length_nil, Nat.zero_add]
        rw [List.set_eq_take_append_cons_drop, if_pos (by simpa using hlt), List.take_of_length_le (l := List.drop (a.off + 1) c.toList) (by simp)]
        simp
      rw [e1]; exact hk
    · obtain ⟨hs, hlt, rfl, h1, hall, hk⟩ := h
      rw [if_neg (by omega)]
      refine wpS_storeCells hs v.cells.toList 0 c σ _ hb (by simpa using hlt) (by rw [← Array.all_toList] at hall; exact hall) ?_
      simpa using hk
  · exact h.elim
end
end Go.Qw
-- Values and slices that are built: their cells reckoned.
namespace Go.Qw
open Go Go.Conc

section
variable {P : Program}
/-! ### building -/
def putCells (cs : List Value) (off : Nat) (vs : List Value) : List Value := cs.take off ++ vs ++ cs.drop (off + vs.length)
def fillL (pl : List (Nat × Nat)) (cs : List Value) : List (Nat × Value) → Option (List Value)
  | [] => some cs
  | (i, v) :: rest => match pl[i]? with
    | some (off, size) => if v.cells.size = size ∧ off + size ≤ cs.length then fillL pl (putCells cs off v.cells.toList) rest else none
    | none => none
theorem foldl_put (vs : List Value) : ∀ (cs : Array Value) (off j : Nat), off + j + vs.length ≤ cs.size →
    (vs.zipIdx j).foldl (fun cs (x : Value × Nat) => cs.setIfInBounds (off + x.2) x.1) cs = (putCells cs.toList (off + j) vs).toArray := by
  induction vs with
  | nil => intro cs off j h; simp [putCells]
  | cons v vs ih =>
    intro cs off j h
    simp only [List.length_cons] at h
    simp only [List.zipIdx_cons, List.foldl_cons]
    rw [ih _ _ _ (by simp; omega)]
    congr 1
    simp only [putCells, Array.toList_setIfInBounds, List.length_cons]
    have hlt : off + j < cs.toList.length := by simp; omega
    rw [show off + (j + 1) = off + j + 1 by omega]
    rw [List.take_set, List.drop_set_of_lt (by omega)]
    have : (cs.toList.take (off + j + 1)).set (off + j) v = cs.toList.take (off + j) ++ [v] := by
      rw [List.take_succ_eq_append_getElem hlt, List.set_append_right _ _ (by simp; omega)]
      simp [Nat.min_eq_left (show off + j ≤ cs.size by omega)]
    rw [this]
    simp [Nat.add_assoc, Nat.add_comm, Nat.add_left_comm]
theorem fill_list (pl : List (Nat × Nat)) {place : Nat → Option (Nat × Nat)} (hpl : ∀ (i : Nat) (x : Nat × Nat), pl[i]? = some x → place i = some x) (parts : List (Nat × Value)) : ∀ (cs r : List Value), fillL pl cs parts = some r → Instr.fill place cs.toArray parts = some r.toArray := by
  induction parts with
  | nil => intro cs r h; simp [fillL] at h; subst h; rfl
  | cons p parts ih =>
    obtain ⟨i, v⟩ := p
    intro cs r h
    simp only [fillL] at h
    cases hp : pl[i]? with
    | none => rw [hp] at h; cases h
    | some q =>
      obtain ⟨off, size⟩ := q
      rw [hp] at h
      simp only at h
      split at h
      · rename_i hc
        simp only [Instr.fill, hpl _ _ hp]
        have h1 : (v.cells.size ≠ size || off + v.cells.size > cs.toArray.size) = false := by simp [hc.1]; omega
        rw [if_neg (by simp [hc.1]; omega)]
        have h2 : v.cells.zipIdx.foldl (fun cs (x : Value × Nat) => cs.setIfInBounds (off + x.2) x.1) cs.toArray = (putCells cs off v.cells.toList).toArray := by
          rw [← Array.foldl_toList]
          have := foldl_put v.cells.toList cs.toArray off 0 (by simp; omega)
          simpa using this
        have := ih _ _ h
        rw [← h2] at this
        exact this
      · cases h
def placesT (P : Program) (t : TypeId) : Option (List (Nat × Nat)) := match P.underlying t with
  | some (.struct fields) => fields.toList.mapM fun f => (P.info? f.type).map fun i => (f.offset, i.size)
  | _ => none
theorem wpS_mapM_pure {α β : Type} {f : α → Sem β} {h : α → Option β} (hf : ∀ a b (Q : β → Hp → Prop) (H : Halt → Hp → Prop) (σ : Hp), h a = some b → Q b σ → wpS P (f a) Q H σ) :
    ∀ (l : List α) (r : List β) (Q : List β → Hp → Prop) (H : Halt → Hp → Prop) (σ : Hp), l.mapM h = some r → Q r σ → wpS P (l.mapM f) Q H σ := by
  intro l
  induction l with
  | nil => intro r Q H σ hr hq; simp at hr; subst hr; simp only [List.mapM_nil, wpS_pure']; exact hq
  | cons a l ih =>
    intro r Q H σ hr hq
    simp only [List.mapM_cons, Option.bind_eq_bind, Option.bind_eq_some_iff, Option.pure_def, Option.some.injEq] at hr
    obtain ⟨b, hb, bs, hbs, rfl⟩ := hr
    simp only [List.mapM_cons, wpS_bind_eq]
    refine hf a b _ _ _ hb ?_
    refine ih bs _ _ _ hbs ?_
    exact hq

/-- What a slice of n fresh elements lies on. -/
def bsT (P : Program) (t : TypeId) (n : Nat) : Option (TypeId × List (Nat × Nat) × List Value) := match P.underlying t with
  | some (.slice e) => match P.info? e with
    | some i => if n * i.size > 2 ^ 24 then none else if n * i.size = 0 then some (e, (List.range n).map fun k => (k * i.size, i.size), []) else match i.zero with
      | some z => some (e, (List.range n).map fun k => (k * i.size, i.size), (List.range (n * i.size)).map fun k => z.cells[k % z.cells.size]!)
      | none => none
    | none => none
  | _ => none
/-- The bytes of a text as cells. -/
def bytesV (s : ByteArray) : Array Value := s.data.map fun b => .int .u8 b.toNat
def u8T (P : Program) (s d : TypeId) : Option TypeId := match P.underlying s, P.underlying d with
  | some .string, some (.slice e) => match P.underlying e with
    | some (.int .u8) => some e
    | _ => none
  | _, _ => none
/-- What an assertion to a type that is no interface gives. -/
def taV (P : Program) (a : TypeId) : Value → Option Value
  | .iface u v => match P.underlying a with
    | some (.interface _) => none
    | some _ => if u = a then some (.tuple #[v, .bool true]) else (zeroT P a).map fun z => .tuple #[z, .bool false]
    | none => none
  | .nilIface => match P.underlying a with
    | some (.interface _) => none
    | some _ => (zeroT P a).map fun z => .tuple #[z, .bool false]
    | none => none
  | _ => none
end
end Go.Qw
-- Operation by operation: 'opQ' is reckoned by unfolding; it is sound for the model's operation.
namespace Go.Qw
open Go Go.Conc

def isGo (P : Program) (f : FuncId) : Bool := match P.funcs[f]? with
  | some fn => !(fn.name == "runtime.NumGoroutine") && !fn.body.isNone
  | none => false

/-- Binary operations on numbers, texts, bools and against nil. -/
def binV (op : BinOp) (x y : Value) : Option Value :=
  match op, x, y with
  | .add, .int k a, .int k' b => if k = k' then some (.int k (k.wrap (a + b))) else none
  | .sub, .int k a, .int k' b => if k = k' then some (.int k (k.wrap (a - b))) else none
  | .mul, .int k a, .int k' b => if k = k' then some (.int k (k.wrap (a * b))) else none
  | .quo, .int k a, .int k' b => if k = k' ∧ b ≠ 0 then some (.int k (k.wrap (a.tdiv b))) else none
  | .rem, .int k a, .int k' b => if k = k' ∧ b ≠ 0 then some (.int k (a.tmod b)) else none
  | .eql, .int k a, .int k' b => if k = k' then some (.bool (a == b)) else none
  | .neq, .int k a, .int k' b => if k = k' then some (.bool (a != b)) else none
  | .lss, .int k a, .int k' b => if k = k' then some (.bool (decide (a < b))) else none
  | .leq, .int k a, .int k' b => if k = k' then some (.bool (decide (a ≤ b))) else none
  | .gtr, .int k a, .int k' b => if k = k' then some (.bool (decide (a > b))) else none
  | .geq, .int k a, .int k' b => if k = k' then some (.bool (decide (a ≥ b))) else none
  | .shl, .int k a, .int _ b => if 0 ≤ b then some (.int k (k.wrap (a * 2 ^ (min b.toNat k.bits)))) else none
  | .shr, .int k a, .int _ b => if 0 ≤ b then some (.int k (a.fdiv (2 ^ (min b.toNat k.bits)))) else none
  | .or, .int k a, .int k' b => if k = k' then some (.int k (k.wrap ((BitVec.ofInt k.bits a ||| BitVec.ofInt k.bits b).toNat))) else none
  | .and, .int k a, .int k' b => if k = k' then some (.int k (k.wrap ((BitVec.ofInt k.bits a &&& BitVec.ofInt k.bits b).toNat))) else none
  | .xor, .int k a, .int k' b => if k = k' then some (.int k (k.wrap ((BitVec.ofInt k.bits a ^^^ BitVec.ofInt k.bits b).toNat))) else none
  | .add, .string a, .string b => if ((a.size + b.size : Nat) : Int) ≤ 9223372036854775807 then some (.string (a ++ b)) else none
  | .eql, .string a, .string b => some (.bool (a.toList == b.toList))
  | .neq, .string a, .string b => some (.bool (!(a.toList == b.toList)))
  | .lss, .string a, .string b => some (.bool (Op.bytesLess a.toList b.toList))
  | .gtr, .string a, .string b => some (.bool !(Op.bytesLess a.toList b.toList || a.toList == b.toList))
  | _, _, _ => none

/-- Which comparisons against nil, of pointers, interfaces and functions. -/
def nilV (P : Program) (op : BinOp) (t : TypeId) (x y : Value) : Option Value :=
  match op, P.underlying t, x, y with
  | .eql, some (.pointer _), .pointer none, .pointer b => some (.bool b.isNone)
  | .eql, some (.pointer _), .pointer _, .pointer none => some (.bool false)
  | .neq, some (.pointer _), .pointer none, .pointer b => some (.bool !b.isNone)
  | .neq, some (.pointer _), .pointer _, .pointer none => some (.bool true)
  | .eql, some (.bool), .bool a, .bool b => some (.bool (a == b))
  | .neq, some (.bool), .bool a, .bool b => some (.bool !(a == b))
  | .eql, some (.interface _), .nilIface, .iface _ _ | .eql, some (.interface _), .iface _ _, .nilIface => some (.bool false)
  | .neq, some (.interface _), .nilIface, .iface _ _ | .neq, some (.interface _), .iface _ _, .nilIface => some (.bool true)
  | _, _, _, _ => none

/-- nil against the literal nil. -/
def nilNil (P : Program) (op : BinOp) (t : TypeId) (x y : Operand) (a b : Value) : Option Value :=
  match op, P.underlying t, a, b with
  | .eql, some (.interface _), .nilIface, .nilIface => if (Region.isConst x || Region.isConst y) then some (.bool true) else none
  | .neq, some (.interface _), .nilIface, .nilIface => if (Region.isConst x || Region.isConst y) then some (.bool false) else none
  | _, _, _, _ => none

def unV (op : UnOp) (x : Value) : Option Value :=
  match op, x with
  | .neg, .int k n => some (.int k (k.wrap (0 - n)))
  | .not, .bool b => some (.bool !b)
  | _, _ => none

def convV (P : Program) (src dst : TypeId) (x : Value) : Option Value :=
  match P.underlying src, P.underlying dst, x with
  | some _, some (.int k), .int _ n => some (.int k (k.wrap n))
  | some _, some .string, .string s => some (.string s)
  | _, _, _ => none

def sliceLo (lo : Option Value) : Option Int := match lo with | none => some 0 | some (.int _ i) => some i | _ => none
def sliceHi (n : Nat) (hi : Option Value) : Option Int := match hi with | none => some n | some (.int _ i) => some i | _ => none

section
variable {P : Program} (E : Env P)

/-- A call by its callee's number. -/
def callQ (f : FuncId) (args : Array Value) (σ : Hp) (dst : Option Tmp) (ρ : Rho) (ds : List Deferred) (nx : Rho → List Deferred → Hp → Prop) (pn : List PanicEntry → Hp → Prop) : Prop :=
  wpS P (callFunc f args) (After (fun v σ' => nx (putR ρ dst v) ds σ') (fun d σ' => nx (putR ρ dst undef) (d :: ds) σ')
    (fun f args σ' => CallsE E f args σ' (onFin (fun v σ'' => nx (putR ρ dst v) ds σ'') pn))) (AfterHalt fun v σ' => pn [{ v, recovered := false }] σ') σ

def lenV (x : Value) : Option Value :=
  match x with
  | .string s => some (.int .i64 s.size)
  | .slice _ n _ => some (.int .i64 n)
  | _ => none

def lenT (P : Program) (t : TypeId) (x : Value) : Bool :=
  match P.underlying t, x with
  | some .string, .string _ | some (.slice _), .slice _ _ _ => true
  | _, _ => false

def opQ (o : Oper) (ρ : Rho) (ds : List Deferred) (σ : Hp) (nx : Rho → List Deferred → Hp → Prop) (pn : List PanicEntry → Hp → Prop) : Prop :=
  let done (v : Value) : Prop := nx (putR ρ o.dst v) ds σ
  match o.op with
  | .move x | .assign x => done (evR ρ x)
  | .pick c a b => match evR ρ c with
    | .bool true => done (evR ρ a)
    | .bool false => done (evR ρ b)
    | _ => False
  | .alloc t => match zeroT P t with
    | some z => ∀ b, σ.f b = none → nx (putR ρ o.dst (.pointer (some ⟨b, 0, none⟩))) ds (σ.set b (.cells z.cells t))
    | none => False
  | .box t x => ∀ b, σ.f b = none → nx (putR ρ o.dst (.pointer (some ⟨b, 0, none⟩))) ds (σ.set b (.cells (evR ρ x).cells t))
  | .load t x => match evR ρ x with
    | .pointer (some a) => isT P t = true ∧ ldQ P t a σ done
    | _ => False
  | .store t x v => match evR ρ x with
    | .pointer (some a) => isT P t = true ∧ stQ P t a (evR ρ v) σ fun σ' => nx (putR ρ o.dst undef) ds σ'
    | _ => False
  | .nilCheck x => match evR ρ x with
    | .pointer (some a) => done (.pointer (some a))
    | .func (.func f) l c => done (.func (.func f) l c)
    | _ => False
  | .fieldAddr s x f => match evR ρ x, fieldOff P s f with
    | .pointer (some a), some off => done (.pointer (some (a.add off)))
    | _, _ => False
  | .binOp op t x y _ => match binV op (evR ρ x) (evR ρ y) with
    | some v => done v
    | none => match nilV P op t (evR ρ x) (evR ρ y) with
      | some v => done v
      | none => match nilNil P op t x y (evR ρ x) (evR ρ y) with
        | some v => done v
        | none => wpOp E o ρ ds σ nx pn
  | .unOp op _ x => match unV op (evR ρ x) with
    | some v => done v
    | none => False
  | .convert src dst x => match convV P src dst (evR ρ x) with
    | some v => done v
    | none => match u8T P src dst, evR ρ x with
      | some e, .string s => ∀ b pad z, σ.f b = none → nx (putR ρ o.dst (.slice (some ⟨b, 0, none⟩) s.size (s.size + pad))) ds (σ.set b (.cells (bytesV s ++ Array.replicate pad (.int .u8 0)) e z))
      | _, _ => wpOp E o ρ ds σ nx pn
  | .build t parts => match zeroT P t, placesT P t with
    | some z, some pl => match fillL pl z.cells.toList (parts.toList.map fun (i, x) => (i, evR ρ x)) with
      | some r => done (.agg r.toArray)
      | none => False
    | _, _ => wpOp E o ρ ds σ nx pn
  | .buildSlice t n parts => match bsT P t n with
    | some (e, pl, zs) => match fillL pl zs (parts.toList.map fun (i, x) => (i, evR ρ x)) with
      | some r => ∀ b, σ.f b = none → nx (putR ρ o.dst (.slice (some ⟨b, 0, none⟩) n n)) ds (σ.set b (.cells r.toArray e))
      | none => False
    | none => wpOp E o ρ ds σ nx pn
  | .typeAssert x _ a true => match taV P a (evR ρ x) with
    | some v => done v
    | none => wpOp E o ρ ds σ nx pn
  | .makeInterface t x => match P.underlying t with
    | some (.interface _) => False
    | some _ => done (.iface t (evR ρ x))
    | none => False
  | .makeFunc fn l c => done (.func fn (l.map (evR ρ)) (c.map (evR ρ)))
  | .extract x i => match evR ρ x with
    | .tuple vs => match vs[i]? with
      | some v => done v
      | none => False
    | _ => False
  | .indexAddr t x i => match sliceElem P t, evR ρ x, evR ρ i with
    | some e, .slice (some a) n _, .int _ k => (0 ≤ k ∧ k < n ∧ (P.info? e).isSome = true) ∧ done (.pointer (some (a.add (k.toNat * sizeT P e))))
    | _, _, _ => wpOp E o ρ ds σ nx pn
  | .index t x i => match P.underlying t, evR ρ x, evR ρ i with
    | some .string, .string s, .int _ k => ∃ h : 0 ≤ k ∧ k.toNat < s.size, done (.int .u8 (s[k.toNat]'h.2).toNat)
    | _, _, _ => wpOp E o ρ ds σ nx pn
  | .slice t x lo hi mx => match P.underlying t, evR ρ x, mx with
    | some .string, .string s, none => match sliceLo (lo.map (evR ρ)), sliceHi s.size (hi.map (evR ρ)) with
      | some l, some h => (0 ≤ l ∧ l ≤ h ∧ h ≤ s.size) ∧ done (.string (s.extract l.toNat h.toNat))
      | _, _ => False
    | some (.slice e), .slice a n c, none => match sliceLo (lo.map (evR ρ)), sliceHi n (hi.map (evR ρ)) with
      | some l, some h => (0 ≤ l ∧ l ≤ h ∧ h ≤ c ∧ (P.info? e).isSome = true) ∧
          done (.slice (if c = l.toNat then a else a.map (·.add (l.toNat * sizeT P e))) (h.toNat - l.toNat) (c - l.toNat))
      | _, _ => False
    | _, _, _ => wpOp E o ρ ds σ nx pn
  | .makeMap _ none => ∀ b, σ.f b = none → nx (putR ρ o.dst (.map (some b))) ds (σ.set b (.map #[] 0))
  | .call c => match c.callee with
    | .value (.func f) => callQ E f (c.args.map (evR ρ)) σ o.dst ρ ds nx pn
    | .value (.tmp x) => match ρ x with
      | .func (.func f) l cap => callQ E f (l ++ c.args.map (evR ρ) ++ cap) σ o.dst ρ ds nx pn
      | _ => wpOp E o ρ ds σ nx pn
    | .builtin .len => match c.argTypes[0]?, (c.args.map (evR ρ))[0]? with
      | some t, some x => match lenT P t x, lenV x with
        | true, some v => done v
        | _, _ => wpOp E o ρ ds σ nx pn
      | _, _ => wpOp E o ρ ds σ nx pn
    | _ => wpOp E o ρ ds σ nx pn
  | .panic x => pn [{ v := evR ρ x, recovered := false }] σ ∧ (match evR ρ x with | .iface _ _ => True | _ => False)
  | _ => wpOp E o ρ ds σ nx pn
end
end Go.Qw
-- 'opQ' is sound for the model's operations.
namespace Go.Qw
open Go Go.Conc

section
variable {P : Program} {E : Env P} {ρ : Rho} {ds : List Deferred} {σ : Hp} {nx : Rho → List Deferred → Hp → Prop} {pn : List PanicEntry → Hp → Prop}

theorem wpS_val {A : Next → Hp → Prop} {H : Halt → Hp → Prop} (s : Sem Value) : wpS P (do pure (Next.value (← s)) : Sem Next) A H σ = wpS P s (fun v σ => A (.value v) σ) H σ := by
  rw [wpS_bind_eq]; rfl
theorem wpS_unit {A : Next → Hp → Prop} {H : Halt → Hp → Prop} (s : Sem Unit) : wpS P (do s; pure Next.skip : Sem Next) A H σ = wpS P s (fun _ σ => A .skip σ) H σ := by
  rw [wpS_bind_eq]; rfl

theorem isGo_elim {f : FuncId} (h : isGo P f = true) : ∃ fn, P.funcs[f]? = some fn ∧ (fn.name == "runtime.NumGoroutine") = false ∧ fn.body.isNone = false := by
  unfold isGo at h
  split at h
  · rename_i fn hf
    simp only [Bool.and_eq_true, Bool.not_eq_true'] at h
    exact ⟨fn, hf, h.1, h.2⟩
  · cases h

theorem wpS_callFunc {A : Next → Hp → Prop} {H : Halt → Hp → Prop} {f : FuncId} {args : Array Value} (h : isGo P f = true) (k : A (.enter f args) σ) : wpS P (callFunc f args) A H σ := by
  obtain ⟨fn, hf, h1, h2⟩ := isGo_elim h
  unfold callFunc
  rw [wpS_bind_eq, wpS_program, hf]
  simp only [h1, h2]
  exact k

theorem callQ_sound {f : FuncId} {args : Array Value} {dst : Option Tmp} (h : callQ E f args σ dst ρ ds nx pn) :
    wpS P (callFunc f args) (After (fun v σ' => nx (putR ρ dst v) ds σ') (fun d σ' => nx (putR ρ dst undef) (d :: ds) σ')
      (fun f args σ' => CallsE E f args σ' (onFin (fun v σ'' => nx (putR ρ dst v) ds σ'') pn))) (AfterHalt fun v σ' => pn [{ v, recovered := false }] σ') σ :=
  h
theorem callQ_of {f : FuncId} {args : Array Value} {dst : Option Tmp} (hg : isGo P f = true) (h : CallsE E f args σ (onFin (fun v σ'' => nx (putR ρ dst v) ds σ'') pn)) : callQ E f args σ dst ρ ds nx pn :=
  wpS_callFunc hg h

theorem binV_sound {A : Value → Hp → Prop} {H : Halt → Hp → Prop} {op : BinOp} {t : TypeId} {x y v : Value} (h : binV op x y = some v) (k : A v σ) : wpS P (binOp op t x y) A H σ := by
  unfold binV at h
  split at h <;> first
    | (obtain rfl := Option.some.inj h; simpa [binOp, Op.stringOp, wpS_pure'] using k)
    | (split at h
       · rename_i hc
         first
         | (subst hc; obtain rfl := Option.some.inj h; simpa [binOp, Op.intArith, Op.intCmp, Op.intBits, wpS_pure'] using k)
         | (obtain ⟨rfl, hb⟩ := hc; obtain rfl := Option.some.inj h; simpa [binOp, Op.intDiv, hb, wpS_pure'] using k)
         | (obtain rfl := Option.some.inj h; simpa [binOp, Op.shift, Int.not_lt.2 hc, wpS_pure'] using k)
         | (obtain rfl := Option.some.inj h
            have hc' : ¬ (IntKind.i64.max < ((_ : Nat) : Int)) := Int.not_lt.2 hc
            simp only [binOp, Op.stringOp, gt_iff_lt, if_neg hc', wpS_pure']; exact k)
       · cases h)
    | cases h

theorem wpS_ite_of {α : Type} {A : α → Hp → Prop} {H : Halt → Hp → Prop} {c : Prop} [Decidable c] {s t : Sem α} (h : wpS P s A H σ) (k : wpS P t A H σ) : wpS P (if c then s else t) A H σ := by
  split
  · exact h
  · exact k
theorem wpS_ite_cond {α : Type} {A : α → Hp → Prop} {H : Halt → Hp → Prop} {c : Prop} [Decidable c] {s t : Sem α} (hc : c) (h : wpS P s A H σ) : wpS P (if c then s else t) A H σ := by
  rw [if_pos hc]; exact h

theorem eqGuard_triv {A : Unit → Hp → Prop} {H : Halt → Hp → Prop} {op : BinOp} {t : TypeId} {x y : Operand} {a b : Value} (k : A () σ)
    (h : (∀ c, a ≠ .agg c) ∧ (a = .nilIface → b = .nilIface → (Region.isConst x || Region.isConst y) = true)) : wpS P (eqGuard op t x y a b) A H σ := by
  unfold eqGuard
  refine wpS_ite_of k ?_
  obtain ⟨h1, h2⟩ := h
  cases a <;> cases b <;> first
    | exact k
    | exact absurd rfl (h1 _)
    | (have h3 := h2 rfl rfl
       refine wpS_ite_cond ?_ k
       cases x <;> cases y <;> first | rfl | (simp [Region.isConst] at h3))

theorem equal_step {A : Bool → Hp → Prop} {H : Halt → Hp → Prop} {t : TypeId} {x y : Value}
    (h : ∀ n, wpS P (Op.equalIn (n + 1) t x y) A H σ) : wpS P (Op.equal t x y) A H σ := by
  unfold Op.equal
  exact h 9999

theorem nilV_sound {A : Value → Hp → Prop} {H : Halt → Hp → Prop} {op : BinOp} {t : TypeId} {x y v : Value} (h : nilV P op t x y = some v) (k : A v σ) : wpS P (binOp op t x y) A H σ := by
  unfold nilV at h
  split at h <;> first
    | (obtain rfl := Option.some.inj h
       rename_i hu
       unfold binOp
       simp only [wpS_bind_eq, wpS_pure']
       refine equal_step fun n => ?_
       unfold Op.equalIn
       simp only [wpS_bind_eq, wpS_underlying, hu]
       first | exact k | (rename_i b; cases b <;> exact k))
    | cases h

theorem nilNil_sound {A : Value → Hp → Prop} {H : Halt → Hp → Prop} {op : BinOp} {t : TypeId} {x y : Operand} {a b v : Value} (h : nilNil P op t x y a b = some v) (k : A v σ) :
    wpS P (do eqGuard op t x y a b; binOp op t a b) A H σ := by
  unfold nilNil at h
  split at h <;> first
    | (split at h
       · rename_i hu hc
         obtain rfl := Option.some.inj h
         rw [wpS_bind_eq]
         refine eqGuard_triv ?_ ⟨by simp, fun _ _ => hc⟩
         unfold binOp
         simp only [wpS_bind_eq, wpS_pure']
         refine equal_step fun n => ?_
         unfold Op.equalIn
         simp only [wpS_bind_eq, wpS_underlying, hu]
         exact k
       · cases h)
    | cases h

theorem unV_sound {A : Value → Hp → Prop} {H : Halt → Hp → Prop} {op : UnOp} {x v : Value} (h : unV op x = some v) (k : A v σ) : wpS P (Op.unary op x) A H σ := by
  unfold unV at h
  split at h <;> first
    | (obtain rfl := Option.some.inj h; exact k)
    | cases h

theorem convV_sound {A : Value → Hp → Prop} {H : Halt → Hp → Prop} {s d : TypeId} {x v : Value} (h : convV P s d x = some v) (k : A v σ) : wpS P (convert s d x) A H σ := by
  unfold convV at h
  split at h <;> first
    | (obtain rfl := Option.some.inj h
       rename_i h1 h2
       unfold convert
       simp only [wpS_bind_eq, wpS_underlying, h1, h2]
       exact k)
    | cases h

theorem binV_nagg {op : BinOp} {x y v : Value} (h : binV op x y = some v) : (∀ c, x ≠ .agg c) ∧ x ≠ .nilIface := by
  unfold binV at h
  split at h <;> first | (cases h; done) | exact ⟨by simp, by simp⟩
theorem nilV_nagg {op : BinOp} {t : TypeId} {x y v : Value} (h : nilV P op t x y = some v) : (∀ c, x ≠ .agg c) ∧ (x = .nilIface → y ≠ .nilIface) := by
  unfold nilV at h
  split at h <;> first | (cases h; done) | exact ⟨by simp, by simp⟩

theorem sliceElem_elim {e : TypeId} {t : TypeId} (h : sliceElem P t = some e) : P.underlying t = some (.slice e) := by
  unfold sliceElem at h
  split at h
  · obtain rfl := Option.some.inj h; assumption
  · cases h

theorem fieldOff_elim {s : TypeId} {f off : Nat} (h : fieldOff P s f = some off) : ∃ fs x i, P.underlying s = some (.struct fs) ∧ fs[f]? = some x ∧ P.info? x.type = some i ∧ i.size ≠ 0 ∧ x.offset = off := by
  unfold fieldOff at h
  split at h
  · rename_i fs hu
    split at h
    · rename_i x hx
      split at h
      · rename_i hc
        simp only [Bool.and_eq_true, Option.isSome_iff_exists, bne_iff_ne, ne_eq] at hc
        obtain ⟨⟨i, hi⟩, hz⟩ := hc
        refine ⟨fs, x, i, hu, hx, hi, ?_, Option.some.inj h⟩
        simpa [sizeT, hi] using hz
      · cases h
    · cases h
  · cases h

theorem sliceBound_sound {B : Nat → Hp → Prop} {H : Halt → Hp → Prop} (kk : IntKind) (i : Int) (y : Nat) (code : BoundsCode) (h0 : 0 ≤ i) (h1 : i ≤ y) (hb : B i.toNat σ) : wpS P (Instr.sliceBound (.int kk i) y code) B H σ := by
  unfold Instr.sliceBound
  simp only [wpS_bind_eq, asIntOf, wpS_pure']
  rw [if_pos ⟨h0, h1⟩]
  exact hb

theorem sliceBounds_sound {A : Nat × Nat × Nat → Hp → Prop} {H : Halt → Hp → Prop} {isS : Bool} {n c : Nat} {lo hi : Option Value} {l h : Int} (hl : sliceLo lo = some l) (hh : sliceHi n hi = some h)
    (h0 : 0 ≤ l) (h1 : l ≤ h) (h2 : h ≤ c) (k : A (l.toNat, h.toNat, c) σ) : wpS P (Instr.sliceBounds isS n c lo hi none) A H σ := by
  have hlo : (lo = none ∧ l = 0) ∨ ∃ kk, lo = some (.int kk l) := by
    unfold sliceLo at hl
    split at hl
    · exact .inl ⟨rfl, (Option.some.inj hl).symm⟩
    · rename_i kk i; exact .inr ⟨kk, by rw [Option.some.inj hl]⟩
    · cases hl
  have hhi : (hi = none ∧ h = n) ∨ ∃ kk, hi = some (.int kk h) := by
    unfold sliceHi at hh
    split at hh
    · exact .inl ⟨rfl, (Option.some.inj hh).symm⟩
    · rename_i kk i; exact .inr ⟨kk, by rw [Option.some.inj hh]⟩
    · cases hh
  clear hl hh
  unfold Instr.sliceBounds
  rcases hhi with ⟨rfl, rfl⟩ | ⟨kh, rfl⟩ <;> rcases hlo with ⟨rfl, rfl⟩ | ⟨kl, rfl⟩ <;> simp only [wpS_bind_eq, wpS_pure']
  · simpa using k
  · exact sliceBound_sound kl l n _ h0 h1 (by simpa using k)
  · exact sliceBound_sound kh h c _ (by omega) h2 (by simpa using k)
  · exact sliceBound_sound kh h c _ (by omega) h2 (sliceBound_sound kl l _ _ h0 (by omega) k)
end
end Go.Qw
