/- The law Beats of queuewire returns true for every three integers: the row over the given program, tied to its text; no condition besides. (Part 8 of 40: QwMap QwTag QwGuard.) -/
import Derived.Test.YtpiabknabfbfhaaGreatDoorBeats07
set_option linter.all false
-- Maps whose keys are numbers or texts: looking up, putting, deleting, clearing, ranging.
namespace Go.Qw
open Go Go.Conc

/-- A map: keys, values, stamps; the clock. -/
def kmap {α : Type} (f : α → Value) (l : List (α × Value × Nat)) (c : Nat) : Obj := .map (l.map fun e => ⟨f e.1, e.2.1, e.2.2⟩).toArray c

/-- Type t is a map whose keys are compared so. -/
structure KeyOk (P : Program) (t : TypeId) {α : Type} [DecidableEq α] (f : α → Value) where
  key : TypeId
  elem : TypeId
  kind : TypeDesc
  hu : P.underlying t = some (.map key elem)
  hk : P.underlying key = some kind
  hs : (∃ k, kind = .int k) ∨ kind = .string
  same : ∀ a b : α, Instr.sameNow kind (f a) (f b) = some (decide (a = b))
  refl : ∀ a : α, Instr.sameBits 10000 (f a) (f a) = true

def mfind {α : Type} [DecidableEq α] (l : List (α × Value × Nat)) (k : α) : Option (α × Value × Nat) :=  l.find? fun e => decide (e.1 = k)
def mput {α : Type} [DecidableEq α] (l : List (α × Value × Nat)) (k : α) (v : Value) (c : Nat) : List (α × Value × Nat) := 
  if (mfind l k).isSome then l.map fun e => if e.1 = k then (k, v, e.2.2) else e else l ++ [(k, v, c)]
def mclock {α : Type} [DecidableEq α] (l : List (α × Value × Nat)) (k : α) (c : Nat) : Nat := if (mfind l k).isSome then c else c + 1
def mdel {α : Type} [DecidableEq α] (l : List (α × Value × Nat)) (k : α) : List (α × Value × Nat) :=  l.filter fun e => decide (e.1 ≠ k)
def Uniq {α : Type} (l : List (α × Value × Nat)) : Prop := (l.map (·.1)).Nodup

section
variable {P : Program} {E : Env P} {ρ : Rho} {ds : List Deferred} {σ : Hp} {dst : Option Tmp} {ty : TypeId} {pos : String} {af : Array Edge} {g : Option (Nat × Bool)} {nx : Rho → List Deferred → Hp → Prop} {pn : List PanicEntry → Hp → Prop}
variable {α : Type} [DecidableEq α] {f : α → Value} {t : TypeId} {l : List (α × Value × Nat)} {c : Nat} {k : α}

theorem findNow_eq (ko : KeyOk P t f) (k : α) : ∀ (l : List (α × Value × Nat)) (i : Nat), Instr.findNow ko.kind (f k) (l.map fun e => ⟨f e.1, e.2.1, e.2.2⟩) i =
    some ((l.findIdx? fun e => decide (e.1 = k)).bind fun j => (l[j]?).map fun e => (i + j, e.2.1)) := by
  intro l
  induction l with
  | nil => intro i; rfl
  | cons e l ih =>
    intro i
    simp only [List.map_cons, Instr.findNow, ko.same]
    by_cases h : k = e.1
    · subst h; simp [List.findIdx?_cons]
    · have h' : ¬ e.1 = k := fun x => h x.symm
      simp only [h, decide_false, List.findIdx?_cons, h', Bool.false_eq_true, if_false]
      rw [ih]
      congr 1
      cases hx : (List.findIdx? (fun e => decide (e.1 = k)) l) with
      | none => rfl
      | some j =>
        simp only [Option.map_some, Option.bind_some, List.getElem?_cons_succ]
        congr 1; funext e; congr 1; omega

theorem findKey_sound (ko : KeyOk P t f) {Q : Option (Nat × Value) → Hp → Prop} {H : Halt → Hp → Prop}
    (h : Q ((l.findIdx? fun e => decide (e.1 = k)).bind fun j => (l[j]?).map fun e => (j, e.2.1)) σ) :
    wpS P (Instr.findKey ko.key (f k) (l.map fun e => ⟨f e.1, e.2.1, e.2.2⟩)) Q H σ := by
  simp only [Instr.findKey, wpS_bind_eq, wpS_underlying, ko.hk, findNow_eq ko, wpS_pure']
  simpa using h

theorem checkKey_sound (ko : KeyOk P t f) {b : Bool} {v : Value} {n : Nat} {Q : Unit → Hp → Prop} {H : Halt → Hp → Prop} (h : Q () σ) : wpS P (Instr.checkKey b (n + 1) ko.key v) Q H σ := by
  unfold Instr.checkKey
  simp only [wpS_bind_eq, wpS_underlying, ko.hk]
  rcases ko.hs with ⟨kk, hk⟩ | hk <;> rw [hk] <;> exact h

theorem findIdx_mfind (l : List (α × Value × Nat)) (k : α) : ((l.findIdx? fun e => decide (e.1 = k)).bind fun j => (l[j]?).map fun e => (j, e.2.1)).map (·.2) = (mfind l k).map (·.2.1) := by
  unfold mfind
  induction l with
  | nil => rfl
  | cons e l ih =>
    by_cases h : e.1 = k
    · simp [h, List.findIdx?_cons]
    · simp only [List.findIdx?_cons, h, decide_false, Bool.false_eq_true, if_false, List.find?_cons]
      rw [← ih]
      cases hx : (List.findIdx? (fun e => decide (e.1 = k)) l) with
      | none => rfl
      | some j =>
        simp only [Option.map_some, Option.bind_some, List.getElem?_cons_succ]
        cases l[j]? <;> rfl

theorem lookup_intro {x i : Operand} {ok : Bool} (ko : KeyOk P t f) {z : Value} {b : Nat} (hz : zeroT P ko.elem = some z) (hx : evR ρ x = .map (some b)) (hb : σ.f b = some (kmap f l c)) (hi : evR ρ i = f k)
    (h : nx (putR ρ dst (if ok then .tuple #[((mfind l k).map (·.2.1)).getD z, .bool (mfind l k).isSome] else ((mfind l k).map (·.2.1)).getD z)) ds σ) :
    opQ E ⟨dst, .lookup t x i ok, ty, pos, af, g⟩ ρ ds σ nx pn := by
  show wpOp E _ ρ ds σ nx pn
  unfold wpOp
  simp only [execOp, wpS_val, Instr.lookup, wpS_bind_eq, wpS_underlying, ko.hu, hx, hi, wpS_getObj, wpS_pure']
  refine ⟨_, hb, rfl, ?_⟩
  simp only [kmap, wpS_bind_eq, wpS_pure']
  refine checkKey_sound ko ?_
  refine findKey_sound ko ?_
  have hm := findIdx_mfind l k
  generalize ((l.findIdx? fun e => decide (e.1 = k)).bind fun j => (l[j]?).map fun e => (j, e.2.1)) = r at hm ⊢
  cases r with
  | none =>
    simp only [Option.map_none] at hm
    have hn : mfind l k = none := by
      cases hmm : mfind l k with
      | none => rfl
      | some e => rw [hmm] at hm; cases hm
    rw [hn] at h
    simp only [zeroValue, wpS_bind_eq, wpS_typeInfo]
    unfold zeroT at hz
    cases hie : P.info? ko.elem with
    | none => rw [hie] at hz; cases hz
    | some ie =>
      rw [hie] at hz
      simp only at hz
      simp only [hz, wpS_pure']
      exact h
  | some p =>
    obtain ⟨j, v⟩ := p
    simp only [Option.map_some] at hm
    cases hmm : mfind l k with
    | none => rw [hmm] at hm; cases hm
    | some e =>
      rw [hmm] at hm h
      simp only [Option.map_some, Option.some.injEq] at hm
      subst hm
      exact h

theorem findIdx_none (l : List (α × Value × Nat)) (k : α) : (l.findIdx? fun e => decide (e.1 = k)) = none ↔ mfind l k = none := by
  unfold mfind
  simp [List.findIdx?_eq_none_iff, List.find?_eq_none]

theorem modify_uniq (l : List (α × Value × Nat)) (k : α) (v : Value) (hu : Uniq l) {j : Nat} (hj : (l.findIdx? fun e => decide (e.1 = k)) = some j) :
    l.modify j (fun e => (k, v, e.2.2)) = l.map fun e => if e.1 = k then (k, v, e.2.2) else e := by
  induction l generalizing j with
  | nil => cases hj
  | cons e l ih =>
    simp only [Uniq, List.map_cons, List.nodup_cons] at hu
    by_cases h : e.1 = k
    · have : j = 0 := by simp [List.findIdx?_cons, h] at hj; exact hj.symm
      subst this
      simp only [List.modify_zero_cons, List.map_cons, h, if_true]
      congr 1
      rw [← List.map_id l]
      rw [List.map_map]
      apply List.map_congr_left
      intro a ha
      have : a.1 ≠ k := by
        intro e2
        apply hu.1
        rw [h, ← e2]
        exact List.mem_map_of_mem ha
      simp [this]
    · simp only [List.findIdx?_cons, h, decide_false, Bool.false_eq_true, if_false] at hj
      obtain ⟨i, hi, rfl⟩ := Option.map_eq_some_iff.1 hj
      simp only [List.modify_succ_cons, List.map_cons, h, if_false]
      rw [ih hu.2 hi]

theorem put_sound (ko : KeyOk P t f) {b : Nat} {v : Value} (hu : Uniq l) (hb : σ.f b = some (kmap f l c)) {Q : Unit → Hp → Prop} {H : Halt → Hp → Prop}
    (h : Q () (σ.set b (kmap f (mput l k v c) (mclock l k c)))) : wpS P (Instr.mapUpdate t (.map (some b)) (f k) v) Q H σ := by
  simp only [Instr.mapUpdate, wpS_bind_eq, wpS_underlying, ko.hu, wpS_getObj]
  refine ⟨_, hb, rfl, ?_⟩
  simp only [kmap, wpS_bind_eq]
  refine checkKey_sound ko (findKey_sound ko ?_)
  cases hx : (l.findIdx? fun e => decide (e.1 = k)) with
  | none =>
    have hm := (findIdx_none l k).1 hx
    simp only [Option.bind_none, wpS_setObj]
    refine ⟨_, hb, rfl, ?_⟩
    simp only [mput, mclock, hm, Option.isSome_none, Bool.false_eq_true, if_false] at h
    simpa [kmap] using h
  | some j =>
    have hm : (mfind l k).isSome = true := by
      cases hq : mfind l k with
      | none => rw [(findIdx_none l k).2 hq] at hx; cases hx
      | some _ => rfl
    have hj : j < l.length := (List.findIdx?_eq_some_iff_findIdx_eq.1 hx).1
    have hk : (l[j]).1 = k := by
      have := List.findIdx?_eq_some_iff_getElem.1 hx
      obtain ⟨_, h2, _⟩ := this
      simpa using h2
    simp only [Option.bind_some, List.getElem?_eq_getElem hj, Option.map_some, wpS_bind_eq, Instr.keyThatStays]
    have e1 : ((l.map fun e => (⟨f e.1, e.2.1, e.2.2⟩ : MapEntry)).toArray[j]?.map (·.key)).getD (f k) = f k := by
      simp [hj, hk]
    rw [e1]
    simp only [ko.refl, if_true, wpS_pure', wpS_setObj]
    refine ⟨_, hb, rfl, ?_⟩
    simp only [mput, mclock, hm, if_true] at h
    have e2 : ((l.map fun e => (⟨f e.1, e.2.1, e.2.2⟩ : MapEntry)).toArray.modify j fun e => { e with key := f k, val := v }) =
        ((l.map fun e => if e.1 = k then (k, v, e.2.2) else e).map fun e => (⟨f e.1, e.2.1, e.2.2⟩ : MapEntry)).toArray := by
      rw [← modify_uniq l k v hu hx]
      apply Array.ext'
      simp only [Array.toList_modify]
      apply List.ext_getElem?
      intro i
      simp only [List.getElem?_modify, List.getElem?_map]
      by_cases hji : j = i
      · subst hji; cases l[j]? <;> simp
      · cases l[i]? <;> simp [hji]
    rw [e2]
    exact h

theorem mapUpdate_intro {m i v : Operand} (ko : KeyOk P t f) {b : Nat} (hu : Uniq l) (hm : evR ρ m = .map (some b)) (hb : σ.f b = some (kmap f l c)) (hi : evR ρ i = f k)
    (h : nx (putR ρ dst undef) ds (σ.set b (kmap f (mput l k (evR ρ v) c) (mclock l k c)))) : opQ E ⟨dst, .mapUpdate t m i v, ty, pos, af, g⟩ ρ ds σ nx pn := by
  show wpOp E _ ρ ds σ nx pn
  unfold wpOp
  simp only [execOp, wpS_unit, hm, hi]
  exact put_sound ko hu hb h
theorem insert_intro {m i v : Operand} (ko : KeyOk P t f) {b : Nat} (hu : Uniq l) (hm : evR ρ m = .map (some b)) (hb : σ.f b = some (kmap f l c)) (hi : evR ρ i = f k)
    (h : nx (putR ρ dst undef) ds (σ.set b (kmap f (mput l k (evR ρ v) c) (mclock l k c)))) : opQ E ⟨dst, .insert t m i v, ty, pos, af, g⟩ ρ ds σ nx pn := by
  show wpOp E _ ρ ds σ nx pn
  unfold wpOp
  simp only [execOp, wpS_unit, hm, hi]
  exact put_sound ko hu hb h

theorem erase_uniq (l : List (α × Value × Nat)) (k : α) (hu : Uniq l) {j : Nat} (hj : (l.findIdx? fun e => decide (e.1 = k)) = some j) : l.eraseIdx j = mdel l k := by
  unfold mdel
  induction l generalizing j with
  | nil => cases hj
  | cons e l ih =>
    simp only [Uniq, List.map_cons, List.nodup_cons] at hu
    by_cases h : e.1 = k
    · have : j = 0 := by simp [List.findIdx?_cons, h] at hj; exact hj.symm
      subst this
      simp only [List.eraseIdx_cons_zero, List.filter_cons, h, ne_eq, not_true_eq_false, decide_false, Bool.false_eq_true, if_false]
      symm
      rw [List.filter_eq_self]
      intro a ha
      have : a.1 ≠ k := by
        intro e2
        apply hu.1
        rw [h, ← e2]
        exact List.mem_map_of_mem ha
      simp [this]
    · simp only [List.findIdx?_cons, h, decide_false, Bool.false_eq_true, if_false] at hj
      obtain ⟨i, hi, rfl⟩ := Option.map_eq_some_iff.1 hj
      simp only [List.eraseIdx_cons_succ, List.filter_cons, h, ne_eq, not_false_eq_true, decide_true, if_true]
      rw [ih hu.2 hi]
theorem del_none (l : List (α × Value × Nat)) (k : α) (h : mfind l k = none) : mdel l k = l := by
  unfold mdel mfind at *
  rw [List.filter_eq_self]
  intro a ha
  have := List.find?_eq_none.1 h a ha
  simpa using this

theorem delete_intro {m i : Operand} {u : TypeId} (ko : KeyOk P t f) {b : Nat} (hu : Uniq l) (hm : evR ρ m = .map (some b)) (hb : σ.f b = some (kmap f l c)) (hi : evR ρ i = f k)
    (h : nx (putR ρ dst (.tuple #[])) ds (σ.set b (kmap f (mdel l k) c))) : opQ E ⟨dst, .call ⟨.builtin .delete, #[m, i], #[t, u]⟩, ty, pos, af, g⟩ ρ ds σ nx pn := by
  show wpOp E _ ρ ds σ nx pn
  unfold wpOp
  simp only [execOp, resolve, wpS_bind_eq, wpS_pure', invoke]
  show wpS P (do pure (Next.value (← Builtin.delete_ #[t, u] ty (#[m, i].map (evR ρ)))) : Sem Next) _ _ _
  rw [wpS_val]
  have e1 : #[m, i].map (evR ρ) = #[.map (some b), f k] := by simp [hm, hi]
  rw [e1]
  simp only [Builtin.delete_, List.getElem?_toArray, List.getElem?_cons_zero, List.getElem?_cons_succ, wpS_bind_eq, wpS_underlying, ko.hu, wpS_getObj]
  refine ⟨_, hb, rfl, ?_⟩
  simp only [kmap, wpS_bind_eq]
  refine checkKey_sound ko (findKey_sound ko ?_)
  cases hx : (l.findIdx? fun e => decide (e.1 = k)) with
  | none =>
    simp only [Option.bind_none, wpS_bind_eq, wpS_setObj]
    refine ⟨_, hb, rfl, ?_⟩
    rw [del_none l k ((findIdx_none l k).1 hx)] at h
    exact h
  | some j =>
    have hj : j < l.length := (List.findIdx?_eq_some_iff_findIdx_eq.1 hx).1
    simp only [Option.bind_some, List.getElem?_eq_getElem hj, Option.map_some, wpS_bind_eq, wpS_setObj]
    refine ⟨_, hb, rfl, ?_⟩
    have e2 : ((l.map fun e => (⟨f e.1, e.2.1, e.2.2⟩ : MapEntry)).toArray.eraseIdxIfInBounds j) = ((mdel l k).map fun e => (⟨f e.1, e.2.1, e.2.2⟩ : MapEntry)).toArray := by
      rw [← erase_uniq l k hu hx]
      apply Array.ext'
      simp [List.eraseIdx_eq_take_drop_succ]
    rw [e2]
    exact h

theorem clear_intro {m : Operand} {b : Nat} {d : TypeDesc} (ht : P.underlying t = some d) (hm : evR ρ m = .map (some b)) (hb : σ.f b = some (kmap f l c))
    (h : nx (putR ρ dst (.tuple #[])) ds (σ.set b (kmap f [] c))) : opQ E ⟨dst, .call ⟨.builtin .clear, #[m], #[t]⟩, ty, pos, af, g⟩ ρ ds σ nx pn := by
  show wpOp E _ ρ ds σ nx pn
  unfold wpOp
  simp only [execOp, resolve, wpS_bind_eq, wpS_pure', invoke]
  show wpS P (do pure (Next.value (← Builtin.clear_ #[t] ty (#[m].map (evR ρ)))) : Sem Next) _ _ _
  rw [wpS_val]
  have e1 : #[m].map (evR ρ) = #[.map (some b)] := by simp [hm]
  rw [e1]
  simp only [Builtin.clear_, List.getElem?_toArray, List.getElem?_cons_zero, wpS_bind_eq, wpS_underlying, ht]
  cases d <;> (simp only [wpS_bind_eq, wpS_getObj]; refine ⟨_, hb, rfl, ?_⟩; simp only [kmap, wpS_bind_eq, wpS_setObj]; exact ⟨_, hb, rfl, h⟩)

theorem mapLen_intro {m : Operand} {b : Nat} (ko : KeyOk P t f) (hm : evR ρ m = .map (some b)) (hb : σ.f b = some (kmap f l c))
    (h : nx (putR ρ dst (.int .i64 l.length)) ds σ) : wpOp E ⟨dst, .call ⟨.builtin .len, #[m], #[t]⟩, ty, pos, af, g⟩ ρ ds σ nx pn := by
  unfold wpOp
  simp only [execOp, resolve, wpS_bind_eq, wpS_pure', invoke]
  show wpS P (do pure (Next.value (← Builtin.len_ #[t] ty (#[m].map (evR ρ)))) : Sem Next) _ _ _
  rw [wpS_val]
  have e1 : #[m].map (evR ρ) = #[.map (some b)] := by simp [hm]
  rw [e1]
  simp only [Builtin.len_, List.getElem?_toArray, List.getElem?_cons_zero, wpS_bind_eq, wpS_underlying, ko.hu, wpS_getObj]
  refine ⟨_, hb, rfl, ?_⟩
  simp only [kmap, wpS_pure']
  show nx (putR ρ dst (goInt _)) ds σ
  simpa [goInt] using h

theorem range_intro {m : Operand} {b : Nat} (ko : KeyOk P t f) (hm : evR ρ m = .map (some b)) (hb : σ.f b = some (kmap f l c))
    (h : ∀ it, σ.f it = none → nx (putR ρ dst (.pointer (some ⟨it, 0, none⟩))) ds (σ.set it (.mapIter (some b) c #[] c))) : opQ E ⟨dst, .range t m, ty, pos, af, g⟩ ρ ds σ nx pn := by
  show wpOp E _ ρ ds σ nx pn
  unfold wpOp
  simp only [execOp, wpS_val, Instr.range, wpS_bind_eq, wpS_underlying, ko.hu, hm, wpS_getObj]
  refine ⟨_, hb, rfl, ?_⟩
  simp only [kmap, wpS_pure', wpS_bind_eq, wpS_newObj]
  exact h

theorem next_intro {x : Operand} {it b : Nat} {seen : Array Nat} (hx : evR ρ x = .pointer (some ⟨it, 0, none⟩)) (hi : σ.f it = some (.mapIter (some b) c seen c)) (hb : σ.f b = some (kmap f l c)) (hold : ∀ e ∈ l, e.2.2 < c)
    (h1 : ∀ e ∈ l, e.2.2 ∉ seen → nx (putR ρ dst (.tuple #[.bool true, f e.1, e.2.1])) ds (σ.set it (.mapIter (some b) c (seen.push e.2.2) c)))
    (h2 : (∀ e ∈ l, e.2.2 ∈ seen) → nx (putR ρ dst (.tuple #[.bool false])) ds σ) : opQ E ⟨dst, .next x false, ty, pos, af, g⟩ ρ ds σ nx pn := by
  show wpOp E _ ρ ds σ nx pn
  unfold wpOp
  simp only [execOp, wpS_val, Instr.next, wpS_bind_eq, hx, wpS_getObj]
  refine ⟨_, hi, rfl, ?_⟩
  simp only [wpS_bind_eq, wpS_getObj]
  refine ⟨_, hb, rfl, ?_⟩
  simp only [kmap]
  have hno : (!seen.isEmpty && !(l.map fun e => (⟨f e.1, e.2.1, e.2.2⟩ : MapEntry)).toArray.isEmpty && (l.map fun e => (⟨f e.1, e.2.1, e.2.2⟩ : MapEntry)).toArray.all (fun x => decide (x.born ≥ c))) = false := by
    cases l with
    | nil => simp
    | cons e l =>
      have := hold e (by simp)
      simp; omega
  rw [hno]
  simp only [Bool.false_eq_true, if_false, wpS_bind_eq, wpS_choose]
  have hnew : ((l.map fun e => (⟨f e.1, e.2.1, e.2.2⟩ : MapEntry)).toArray.filter (fun e => !seen.contains e.born)).filter (fun e => decide (e.born ≥ c)) = #[] := by
    rw [Array.filter_eq_empty_iff]
    intro a ha
    simp only [List.filter_toArray, List.mem_toArray, List.mem_filter, List.mem_map] at ha
    obtain ⟨⟨e, he, rfl⟩, _⟩ := ha
    have := hold e he
    simp; omega
  have hold' : ((l.map fun e => (⟨f e.1, e.2.1, e.2.2⟩ : MapEntry)).toArray.filter (fun e => !seen.contains e.born)).filter (fun e => decide (e.born < c)) =
      (((l.filter fun e => !seen.contains e.2.2)).map fun e => (⟨f e.1, e.2.1, e.2.2⟩ : MapEntry)).toArray := by
    apply Array.ext'
    simp only [List.filter_toArray, List.filter_map, List.filter_filter]
    simp only [List.map_inj_left, Function.comp_def]
    congr 1
    apply List.filter_congr
    intro e he
    have := hold e he
    simp [this]
  rw [hnew, hold']
  generalize hleft : l.filter (fun e => !seen.contains e.2.2) = left
  have hmem : ∀ e ∈ left, e ∈ l ∧ e.2.2 ∉ seen := by
    intro e he
    rw [← hleft] at he
    have := List.mem_filter.1 he
    exact ⟨this.1, by simpa using this.2⟩
  cases left with
  | nil =>
    rw [if_pos (by simp [Question.forced])]
    have hh2 : nx (putR ρ dst (Value.tuple #[.bool false])) ds σ := h2 fun e he => by
      have := List.filter_eq_nil_iff.1 hleft e he
      simpa using this
    have e0 : ((if ((([] : List (α × Value × Nat)).map fun (e : α × Value × Nat) => (⟨f e.1, e.2.1, e.2.2⟩ : MapEntry)).toArray.isEmpty = true) then (#[none] : Array (Option MapEntry)) else #[]) ++
        ((([] : List (α × Value × Nat)).map fun (e : α × Value × Nat) => (⟨f e.1, e.2.1, e.2.2⟩ : MapEntry)).toArray ++ #[]).map some)[0]? = some none := by simp
    rw [e0]
    exact hh2
  | cons e0 left =>
    have hcand : (if ((e0 :: left).map fun (e : α × Value × Nat) => (⟨f e.1, e.2.1, e.2.2⟩ : MapEntry)).toArray.isEmpty = true then (#[none] : Array (Option MapEntry)) else #[]) ++
        (((e0 :: left).map fun (e : α × Value × Nat) => (⟨f e.1, e.2.1, e.2.2⟩ : MapEntry)).toArray ++ #[]).map some = ((e0 :: left).map fun (e : α × Value × Nat) => some (⟨f e.1, e.2.1, e.2.2⟩ : MapEntry)).toArray := by
      simp
    rw [hcand]
    have hgo : ∀ i, i < (e0 :: left).length → wpS P (match (((e0 :: left).map fun (e : α × Value × Nat) => some (⟨f e.1, e.2.1, e.2.2⟩ : MapEntry)).toArray)[i]? with
      | some (some e) => do
        setObj it (.mapIter (some b) c (seen.push e.born) c)
        pure (Value.tuple #[.bool true, e.key, e.val])
      | some none => pure (Value.tuple #[.bool false])
      | none => stuck "Next: no such candidate")
      (fun a σ => wpS P (pure (Next.value a))
          (After (fun v σ' => nx (putR ρ dst v) ds σ') (fun d σ' => nx (putR ρ dst undef) (d :: ds) σ') fun f args σ' =>
            CallsE E f args σ' (onFin (fun v σ' => nx (putR ρ dst v) ds σ') pn))
          (AfterHalt fun v σ' => pn [{ v := v, recovered := false }] σ') σ)
      (AfterHalt fun v σ' => pn [{ v := v, recovered := false }] σ') σ := by
      intro i hlt
      have hc : (((e0 :: left).map fun (e : α × Value × Nat) => some (⟨f e.1, e.2.1, e.2.2⟩ : MapEntry)).toArray)[i]? = some (some ⟨f ((e0 :: left)[i]).1, ((e0 :: left)[i]).2.1, ((e0 :: left)[i]).2.2⟩) := by
        rw [List.getElem?_toArray, List.getElem?_map, List.getElem?_eq_getElem hlt]; rfl
      rw [hc]
      simp only [wpS_bind_eq, wpS_setObj]
      have hm := hmem _ (List.getElem_mem hlt)
      exact ⟨_, hi, rfl, h1 _ hm.1 hm.2⟩
    split
    · exact hgo 0 (by simp)
    · intro tt
      refine hgo _ ?_
      simp only [Question.cut, List.size_toArray, List.length_map]
      exact Nat.mod_lt _ (by simp)
end
end Go.Qw
-- The rules of the walk, with the type facts asked last; all of them laid into one set of rewriting rules.
namespace Go.Qw
open Go Go.Conc

section
variable {P : Program} {E : Env P} {ρ : Rho} {ds : List Deferred} {σ : Hp} {dst : Option Tmp} {ty : TypeId} {pos : String} {af : Array Edge} {g : Option (Nat × Bool)} {nx : Rho → List Deferred → Hp → Prop} {pn : List PanicEntry → Hp → Prop}

/-- What is asked of a type's fact. -/
def facQ {α : Type} (p : Prop) (k : α → Prop) : Option α → Prop
  | some a => k a
  | none => p
@[congr] theorem facQ_congr {α : Type} {p : Prop} {k : α → Prop} {a a' : Option α} (h : tick a = a') : facQ p k a = facQ p k a' := by subst h; rfl
theorem valQ_eq {k : Value → Prop} {v : Value} : valQ k v = k v := _root_.id rfl
theorem facQ_some {α : Type} {p : Prop} {k : α → Prop} {a : α} : facQ p k (some a) = k a := _root_.id rfl

theorem r_indexAddr {t : TypeId} {x i : Operand} : opQ E ⟨dst, .indexAddr t x i, ty, pos, af, g⟩ ρ ds σ nx pn =
    facQ (opQ E ⟨dst, .indexAddr t x i, ty, pos, af, g⟩ ρ ds σ nx pn) (fun z => ixQ (wpOp E ⟨dst, .indexAddr t x i, ty, pos, af, g⟩ ρ ds σ nx pn) z (fun v => nx (putR ρ dst v) ds σ) (evR ρ i) (evR ρ x)) (elemSz P t) := by
  cases h : elemSz P t with
  | none => rfl
  | some z => rw [facQ_some]; exact q_indexAddr h
theorem r_slice {t : TypeId} {x : Operand} {lo hi : Option Operand} (hs : strT P t = false) : opQ E ⟨dst, .slice t x lo hi none, ty, pos, af, g⟩ ρ ds σ nx pn =
    facQ (opQ E ⟨dst, .slice t x lo hi none, ty, pos, af, g⟩ ρ ds σ nx pn) (fun z => svQ (wpOp E ⟨dst, .slice t x lo hi none, ty, pos, af, g⟩ ρ ds σ nx pn) z (fun v => nx (putR ρ dst v) ds σ) (lo.map (evR ρ)) (hi.map (evR ρ)) (evR ρ x)) (elemSz P t) := by
  cases h : elemSz P t with
  | none => rfl
  | some z => rw [facQ_some]; exact q_slice_slice h
theorem r_build {t : TypeId} {parts : List (Nat × Operand)} : opQ E ⟨dst, .build t parts.toArray, ty, pos, af, g⟩ ρ ds σ nx pn =
    facQ (opQ E ⟨dst, .build t parts.toArray, ty, pos, af, g⟩ ρ ds σ nx pn) (fun z => facQ (opQ E ⟨dst, .build t parts.toArray, ty, pos, af, g⟩ ρ ds σ nx pn) (fun pl => lstQ (fun r => nx (putR ρ dst (.agg r.toArray)) ds σ) (fillL pl z.cells.toList (parts.map fun p => (p.1, evR ρ p.2)))) (placesT P t)) (zeroT P t) := by
  cases hz : zeroT P t with
  | none => rfl
  | some z =>
    rw [facQ_some]
    cases hp : placesT P t with
    | none => rfl
    | some pl => rw [facQ_some]; exact q_build hz hp
theorem r_buildSlice {t : TypeId} {n : Nat} {parts : List (Nat × Operand)} : opQ E ⟨dst, .buildSlice t n parts.toArray, ty, pos, af, g⟩ ρ ds σ nx pn =
    facQ (opQ E ⟨dst, .buildSlice t n parts.toArray, ty, pos, af, g⟩ ρ ds σ nx pn) (fun q => lstQ (fun r => newQ σ fun b => nx (putR ρ dst (.slice (some ⟨b, 0, none⟩) n n)) ds (σ.set b (.cells r.toArray q.1))) (fillL q.2.1 q.2.2 (parts.map fun p => (p.1, evR ρ p.2)))) (bsT P t n) := by
  cases h : bsT P t n with
  | none => rfl
  | some q => obtain ⟨e, pl, zs⟩ := q; rw [facQ_some]; exact q_buildSlice h
theorem r_alloc {t : TypeId} : opQ E ⟨dst, .alloc t, ty, pos, af, g⟩ ρ ds σ nx pn = optQ (fun z => newQ σ fun b => nx (putR ρ dst (.pointer (some ⟨b, 0, none⟩))) ds (σ.set b (.cells z.cells t))) (zeroT P t) := q_alloc
theorem r_convert {s d : TypeId} {x : Operand} : opQ E ⟨dst, .convert s d x, ty, pos, af, g⟩ ρ ds σ nx pn =
    facQ (orQ (wpOp E ⟨dst, .convert s d x, ty, pos, af, g⟩ ρ ds σ nx pn) (fun v => nx (putR ρ dst v) ds σ) (convV P s d (evR ρ x)))
      (fun e => sbQ (opQ E ⟨dst, .convert s d x, ty, pos, af, g⟩ ρ ds σ nx pn) (fun s => freshBytesQ σ e s fun b pad σ' => nx (putR ρ dst (.slice (some ⟨b, 0, none⟩) s.size (s.size + pad))) ds σ') (evR ρ x)) (u8T P s d) := by
  cases h : u8T P s d with
  | none => exact q_convert h
  | some e => rw [facQ_some]; exact q_strBytes h
theorem facQ_none {α : Type} {p : Prop} {k : α → Prop} : facQ p k none = p := _root_.id rfl
theorem cv_kind {s d : TypeId} {j : IntKind} {a : Int} (h : (kindT P s d).isSome = true) : convV P s d (.int j a) = (kindT P s d).map fun k => .int k (k.wrap a) := by
  obtain ⟨k, hk⟩ := Option.isSome_iff_exists.1 h
  rw [hk]
  unfold kindT at hk
  split at hk
  · rename_i hs; exact cv_int hs hk
  · cases hk
theorem map_some' {α β : Type} {f : α → β} {a : α} : (some a).map f = some (f a) := _root_.id rfl
theorem ta_other' {a u : TypeId} {v : Value} (h : concT P a = true) (hne : (u == a) = false) : taV P a (.iface u v) = (zeroT P a).map fun z => .tuple #[z, .bool false] := by
  cases hz : zeroT P a with
  | none =>
    unfold concT at h
    have hne : ¬ u = a := by simpa using hne
    simp only [taV]
    cases hu : P.underlying a with
    | none => rw [hu] at h; cases h
    | some d => rw [hu] at h; cases d <;> first | (simp at h; done) | simp [hne, hz]
  | some z => exact ta_other h hz hne
theorem ta_nil' {a : TypeId} (h : concT P a = true) : taV P a .nilIface = (zeroT P a).map fun z => .tuple #[z, .bool false] := by
  cases hz : zeroT P a with
  | none =>
    unfold concT at h
    simp only [taV]
    cases hu : P.underlying a with
    | none => rw [hu] at h; cases h
    | some d => rw [hu] at h; cases d <;> first | (simp at h; done) | simp [hz]
  | some z => exact ta_nil h hz
theorem ld_agg {t : TypeId} {b off : Nat} {k : Value → Prop} (h : aggT P t = true) : ldQ P t ⟨b, off, none⟩ σ k = objQ (cellsIn off (sizeT P t) k) (σ.f b) := ldQ_agg h rfl
theorem cellsIn_list {off n : Nat} {k : Value → Prop} {c : List Value} {e : TypeId} {z : Nat × Nat} : cellsIn off n k (.cells c.toArray e z) = chkP (off + n ≤ c.length) (k (.agg ((c.drop off).take n).toArray)) := by
  simp only [cellsIn, extract_list, chkP, List.size_toArray]
  rw [show off + n - off = n by omega]
theorem len_str {p : Prop} {k : Value → Prop} {t : TypeId} {s : List UInt8} (h : strT P t = true) : lenQ P p k t (.string (B s)) = k (.int .i64 s.length) := by rw [lenQ_str (strT_e h), size_B]
theorem len_slice {p : Prop} {k : Value → Prop} {t : TypeId} {a : Option Addr} {n c : Nat} (h : (elemSz P t).isSome = true) : lenQ P p k t (.slice a n c) = k (.int .i64 n) := by
  refine lenQ_slice ?_
  obtain ⟨z, hz⟩ := Option.isSome_iff_exists.1 h
  obtain ⟨e, he, _⟩ := elemSz_e hz
  simp [he]
theorem r_len {x : Operand} {t : TypeId} : opQ E ⟨dst, .call ⟨.builtin .len, #[x], #[t]⟩, ty, pos, af, g⟩ ρ ds σ nx pn =
    lenQ P (wpOp E ⟨dst, .call ⟨.builtin .len, #[x], #[t]⟩, ty, pos, af, g⟩ ρ ds σ nx pn) (fun v => nx (putR ρ dst v) ds σ) t (evR ρ x) := q_len rfl

theorem nv_pp {op : BinOp} {t : TypeId} {a b : Addr} : nilV P op t (.pointer (some a)) (.pointer (some b)) = none := by
  unfold nilV; cases op <;> cases P.underlying t <;> first | rfl | (rename_i d; cases d <;> rfl)
theorem nl_pp {op : BinOp} {t : TypeId} {x y : Operand} {a b : Option Addr} : nilNil P op t x y (.pointer a) (.pointer b) = none := by
  unfold nilNil; cases op <;> cases P.underlying t <;> first | rfl | (rename_i d; cases d <;> rfl)
/-! ### memory, over lists -/
theorem cellIn_list {off : Nat} {k : Value → Prop} {c : List Value} {e : TypeId} {z : Nat × Nat} : cellIn off k (.cells c.toArray e z) = optQ k c[off]? := by simp [cellIn, tick_eq]
def scalV (v : Value) : Bool := isScalarV v
theorem putIn_scalar {t : TypeId} {off : Nat} {v : Value} {c : List Value} {k : Obj → Prop} {e : TypeId} (h : isScalarV v = true) :
    putIn P t off v k (.cells c.toArray e (0, 0)) = chkP (off < c.length ∧ sizeT P t = 1) (k (.cells (c.set off v).toArray e (0, 0))) := by
  simp only [putIn, h, if_true, chkP, List.size_toArray, List.setIfInBounds_toArray]
  simp only [true_and, and_assoc]
theorem sc_int {k : IntKind} {n : Int} : isScalarV (.int k n) = true := _root_.id rfl
theorem sc_bool {b : Bool} : isScalarV (.bool b) = true := _root_.id rfl
theorem sc_str {b : ByteArray} : isScalarV (.string b) = true := _root_.id rfl
theorem sc_ptr {b : Option Addr} : isScalarV (.pointer b) = true := _root_.id rfl
theorem sc_slice {b : Option Addr} {n c : Nat} : isScalarV (.slice b n c) = true := _root_.id rfl
theorem sc_map {b : Option Nat} : isScalarV (.map b) = true := _root_.id rfl
theorem sc_chan {b : Option Nat} : isScalarV (.chan b) = true := _root_.id rfl
theorem sc_iface {t : TypeId} {v : Value} : isScalarV (.iface t v) = true := _root_.id rfl
theorem sc_nilIface : isScalarV .nilIface = true := _root_.id rfl
theorem sc_func {f : Fn} {x y : Array Value} : isScalarV (.func f x y) = true := _root_.id rfl
theorem sc_nilFunc : isScalarV .nilFunc = true := _root_.id rfl
theorem ic_const {v : Value} : Region.isConst (.const v) = true := _root_.id rfl
theorem ic_tmp {t : Tmp} : Region.isConst (.tmp t) = false := _root_.id rfl
/-- A text's bytes on a new block. -/
def fbQ (σ : Hp) (e : TypeId) (l : List UInt8) (k : Nat → Nat → Hp → Prop) : Prop := ∀ b pad z, σ.f b = none → k b pad (σ.set b (.cells (bytesL l ++ List.replicate pad (Value.int .u8 0)).toArray e z))
@[congr] theorem fbQ_congr {e : TypeId} {l : List UInt8} {k : Nat → Nat → Hp → Prop} {n₀ : Nat} (_ : tick 0 = n₀) : fbQ σ e l k = fbQ σ e l k := rfl
theorem freshBytes_B {e : TypeId} {l : List UInt8} {k : Nat → Nat → Hp → Prop} : freshBytesQ σ e (B l) k = fbQ σ e l k := by
  have : ∀ pad : Nat, bytesV (B l) ++ Array.replicate pad (Value.int .u8 0) = (bytesL l ++ List.replicate pad (Value.int .u8 0)).toArray := by
    intro pad; rw [bytesV_B]; apply Array.ext'; simp
  simp only [freshBytesQ, fbQ, this]
theorem bytes_get {l : List UInt8} {r : List Value} {i : Nat} (h : i < l.length) : (bytesL l ++ r)[i]? = some (.int .u8 (byteAt l i)) := by
  rw [List.getElem?_append_left (by simpa [bytesL] using h)]
  simp only [bytesL, List.getElem?_map, List.getElem?_eq_getElem h, Option.map_some, byteAt, List.getD_eq_getElem?_getD, Option.getD_some]
/-- A new block is none of those that are known. -/
theorem f_set_new {b x : Nat} {o : Obj} (hb : σ.f b = none) (hx : (σ.f x).isSome = true) : (σ.set b o).f x = σ.f x := by
  refine Hp.f_set_ne o ?_
  intro e; subst e; rw [hb] at hx; cases hx
theorem startR_eq {args : List Value} {n t : Nat} : startR args.toArray n t = (args[t]?).getD undef := by simp [startR]

/-! ### calls -/
theorem call_ret {f : FuncId} {args : Array Value} {v : Value} {τ : Hp} (hg : isGo P f = true) (h : CallsE E f args σ fun e σ' => e = .returned v ∧ σ' = τ) (k : nx (putR ρ dst v) ds τ) : callQ E f args σ dst ρ ds nx pn :=
  callQ_of hg (h.mono fun e σ' ⟨h1, h2⟩ => by subst h1; subst h2; exact k)
theorem call_post {f : FuncId} {args : Array Value} {R : Fin → Hp → Prop} (hg : isGo P f = true) (h : CallsE E f args σ R) (k : ∀ v σ', R (.returned v) σ' → nx (putR ρ dst v) ds σ') (kp : ∀ ch σ', R (.panicked ch) σ' → pn ch σ') : callQ E f args σ dst ρ ds nx pn :=
  callQ_of hg (h.mono fun e σ' h => match e, h with
    | .returned v, h => k v σ' h
    | .panicked ch, h => kp ch σ' h)
end

attribute [go_sem] tick_eq wl_plain wl_guard wl_nil q_move q_assign q_pick q_box q_load q_store q_nilCheck q_fieldAddr q_binOp q_unOp q_makeInterface q_makeFunc q_makeMap q_extract q_call q_panic q_typeAssert q_index q_slice_str
  r_indexAddr r_slice r_build r_buildSlice r_alloc r_convert r_len
attribute [go_sem] chkQ_true optQ_some pickQ_t pickQ_f ptrQ_some nilCkQ_p nilCkQ_f valQ_eq tupQ_tuple orQ_some orQ_none gdQ_tt gdQ_ff gdQ_tf gdQ_ft chkP_true iteQ_true iteQ_false orQ_condO facQ_some facQ_none lstQ_some sbQ_str pnQ_iface freshBytes_B
  ixQ_slice bxQ_str ssQ_str svQ_slice loQ_none loQ_some hiQ_none hiQ_some len_str len_slice
attribute [go_sem] bv_add bv_sub bv_mul bv_quo bv_rem bv_eql bv_neq bv_lss bv_leq bv_gtr bv_geq bv_shl bv_shr bv_or bv_and bv_xor bv_cat bv_seql bv_sneq bv_slss bv_sgtr bv_pp bv_bb bv_nn bv_ni bv_in bv_ii
  nv_pn nv_np nv_nn nn_pn nn_np nn_nn nv_bb nn_bb nv_in nv_ni nn_in nn_ni nv_pp nl_pp nv_ii nl_eq nl_ne uv_not uv_neg cv_kind cv_str map_some' ta_same ta_other' ta_nil'
attribute [go_sem] c_seq c_region c_skip c_label c_ret c_exit c_block c_cond t_normal t_exit t_ret t_panic b_normal b_ret b_panic b_exit b_exit_ne
attribute [go_sem] up_same up_ne evR_tmp evR_const evR_func evR_global putR_some putR_none okDst_some okDst_none startR_eq objQ_some cellIn_list cellsIn_list ldQ_scalar ld_agg add_off stQ_eq putIn_scalar putIn_agg
  sc_int sc_bool sc_str sc_ptr sc_slice sc_map sc_chan sc_iface sc_nilIface sc_func sc_nilFunc Hp.f_set_same f_set_new Hp.set_set
  cells_int cells_bool cells_str cells_ptr cells_slice cells_map cells_iface cells_nilIface cells_func cells_nilFunc cells_agg fillL putCells mk_B mk_B0 size_B
attribute [go_sem] List.getElem?_cons_zero List.getElem?_cons_succ List.length_cons List.length_nil List.set_cons_zero List.set_cons_succ List.length_set List.map_cons List.map_nil List.map_toArray Array.getElem?_toList List.getElem?_toArray List.drop_zero List.drop_succ_cons List.take_zero List.take_succ_cons List.drop_nil List.take_nil
  List.nil_append List.cons_append List.append_nil List.size_toArray List.append_toArray
  if_true if_false decide_true decide_false Option.map_none Option.map_some Option.getD_some Option.getD_none Option.isSome_some Int.toNat_zero Nat.mul_one Nat.one_mul Nat.add_zero Nat.zero_add Int.le_refl true_and and_true and_self not_true_eq_false not_false_eq_true Int.toNat_natCast List.all_cons List.all_nil Bool.and_true Bool.and_self eq_self ne_eq Bool.not_true Bool.not_false ic_const ic_tmp Bool.or_true Bool.true_or Bool.or_false Bool.false_or
end Go.Qw
-- Guards.
namespace Go.Qw
open Go Go.Conc
def ydQ (N : Nat) (ρ : Rho) : Option Oper → Option Bool
  | some o => match o.dst with
    | some d => if d < N then boolOf (ρ d) else none
    | none => none
  | none => none
theorem yieldedR_eq {N : Nat} {ops : Array Oper} {ρ : Rho} {j : Nat} : yieldedR N ops ρ j = ydQ N ρ (ops[j]?) := by
  unfold yieldedR ydQ
  cases ops[j]? <;> rfl
theorem ydQ_some {N : Nat} {ρ : Rho} {d : Tmp} {op : Op} {ty : TypeId} {pos : String} {af : Array Edge} {g : Option (Nat × Bool)} : ydQ N ρ (some ⟨some d, op, ty, pos, af, g⟩) = cond (decide (d < N)) (boolOf (ρ d)) none := by
  simp [ydQ]
theorem boolOf_bool {b : Bool} : boolOf (.bool b) = some b := _root_.id rfl
theorem cond_t {a b : Option Bool} : cond true a b = a := _root_.id rfl
attribute [go_sem] yieldedR_eq ydQ_some boolOf_bool cond_t
end Go.Qw
