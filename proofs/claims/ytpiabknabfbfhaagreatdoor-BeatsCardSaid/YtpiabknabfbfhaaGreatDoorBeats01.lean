/- The law Beats of queuewire returns true for every three integers: the row over the given program, tied to its text; no condition besides. (Part 1 of 40: QwHeap QwCode QwCall.) -/
import Derived.Conc.Beside
import Derived.Conc.Listed
import Derived.Conc.Own
import Derived.Conc.Token
set_option linter.all false
-- The visible heap, and the weakest precondition of a model program over it: whatever lies in hidden blocks is never touched.
namespace Go.Qw
open Go

/-- A part of the heap: what a goroutine knows of it. -/
structure Hp where
  f : Nat → Option Obj

/-- World w bears the part σ; the blocks J are there, and none of it. -/
structure Sees (J : Nat → Prop) (w : World) (σ : Hp) : Prop where
  heap : ∀ {b : Nat} {o : Obj}, σ.f b = some o → w.heap[b]? = some o
  hid : ∀ b, J b → σ.f b = none
  low : ∀ b, J b → b < w.heap.size

/-- σ is a part of τ. -/
def Hp.le (σ τ : Hp) : Prop := ∀ b o, σ.f b = some o → τ.f b = some o
theorem Hp.le_refl (σ : Hp) : σ.le σ := fun _ _ h => h
theorem Hp.le_trans {σ τ υ : Hp} (h : σ.le τ) (k : τ.le υ) : σ.le υ := fun b o x => k b o (h b o x)

def Hp.cell? (σ : Hp) (a : Addr) : Option Value :=
  match σ.f a.block with
  | some (.cells c _ _) => if a.spot.isSome then none else c[a.off]?
  | _ => none

def Hp.frozen? (σ : Hp) (a : Addr) : Bool :=
  match σ.f a.block with
  | some (.cells _ _ (lo, hi)) => lo ≤ a.off && a.off < hi
  | _ => false

def Hp.shape? (σ : Hp) (r : Nat) : Option (TypeId × Nat) :=
  match σ.f r with
  | some (.cells c elem _) => some (elem, c.size)
  | _ => none

def Hp.set (σ : Hp) (b : Nat) (o : Obj) : Hp := { f := fun x => if x = b then some o else σ.f x }

def Hp.modify (σ : Hp) (b : Nat) (g : Obj → Obj) : Hp := { f := fun x => if x = b then (σ.f b).map g else σ.f x }

def cellPut (a : Addr) (v : Value) : Obj → Obj
  | .cells c elem frozen => .cells (if a.spot.isSome then c else c.setIfInBounds a.off v) elem frozen
  | o => o

def cellFreeze (a : Addr) (n : Nat) : Obj → Obj
  | .cells c elem (lo, hi) => .cells c elem (if lo == hi then (a.off, a.off + n) else (min lo a.off, max hi (a.off + n)))
  | o => o

def Hp.setCell (σ : Hp) (a : Addr) (v : Value) : Hp := σ.modify a.block (cellPut a v)
def Hp.freeze (σ : Hp) (a : Addr) (n : Nat) : Hp := if n = 0 then σ else σ.modify a.block (cellFreeze a n)

/-- Marks that a lone step may list. -/
def okMark : Mark → Bool
  | .extern _ | .noRoom => true
  | _ => false

def notCells : Obj → Bool
  | .cells .. => false
  | _ => true

/-- Weakest precondition over the visible heap; whatever the tape answers. -/
def wpS (P : Program) {α : Type} : Sem α → (α → Hp → Prop) → (Halt → Hp → Prop) → Hp → Prop
  | .pure a, Q, _, σ => Q a σ
  | .load _ a k, Q, H, σ => ∃ v, σ.cell? a = some v ∧ wpS P (k v) Q H σ
  | .store _ _ (.agg _) _, _, _, _ | .store _ _ (.tuple _) _, _, _, _ => False
  | .store _ a v k, Q, H, σ => (∃ u, σ.cell? a = some u) ∧ σ.frozen? a = false ∧ wpS P k Q H (σ.setCell a v)
  | .new o k, Q, H, σ => ∀ b, σ.f b = none → wpS P (k b) Q H (σ.set b o)
  | .shape r k, Q, H, σ => (σ.f r).isSome = true ∧ wpS P (k (σ.shape? r)) Q H σ
  | .freeze a n k, Q, H, σ => (σ.f a.block).isSome = true ∧ wpS P k Q H (σ.freeze a n)
  | .frozen a k, Q, H, σ => (σ.f a.block).isSome = true ∧ wpS P (k (σ.frozen? a)) Q H σ
  | .getObj r k, Q, H, σ => ∃ o, σ.f r = some o ∧ notCells o = true ∧ wpS P (k o) Q H σ
  | .setObj r o k, Q, H, σ => ∃ o', σ.f r = some o' ∧ notCells o' = true ∧ wpS P k Q H (σ.set r o)
  | .choose q k, Q, H, σ => if q.forced then wpS P (k 0) Q H σ else ∀ t, wpS P (k (q.cut t)) Q H σ
  | .sys _ _, _, _, _ => False
  | .program k, Q, H, σ => wpS P (k P) Q H σ
  | .mark m k, Q, H, σ => okMark m = true ∧ wpS P k Q H σ
  | .halt h, _, H, σ => H h σ

theorem wpS_mono {P : Program} {α : Type} {Q Q' : α → Hp → Prop} {H H' : Halt → Hp → Prop} (hq : ∀ a σ, Q a σ → Q' a σ) (hh : ∀ h σ, H h σ → H' h σ) :
    ∀ (s : Sem α) (σ : Hp), wpS P s Q H σ → wpS P s Q' H' σ := by
  intro s
  induction s with
  | pure a => exact fun σ h => hq _ _ h
  | load m a k ih => exact fun σ ⟨v, hv, h⟩ => ⟨v, hv, ih v σ h⟩
  | store m a v k ih =>
    intro σ h
    cases v <;> first | exact h.elim | exact ⟨h.1, h.2.1, ih _ h.2.2⟩
  | new o k ih => exact fun σ h b hb => ih _ _ (h b hb)
  | shape r k ih => exact fun σ h => ⟨h.1, ih _ _ h.2⟩
  | freeze a n k ih => exact fun σ h => ⟨h.1, ih _ h.2⟩
  | frozen a k ih => exact fun σ h => ⟨h.1, ih _ _ h.2⟩
  | getObj r k ih => exact fun σ ⟨o, ho, hc, h⟩ => ⟨o, ho, hc, ih _ _ h⟩
  | setObj r o k ih => exact fun σ ⟨o', ho, hc, h⟩ => ⟨o', ho, hc, ih _ h⟩
  | choose q k ih =>
    intro σ h
    unfold wpS at h ⊢
    split
    · rename_i hf; rw [if_pos hf] at h; exact ih _ _ h
    · rename_i hf; rw [if_neg hf] at h; exact fun t => ih _ _ (h t)
  | sys c k ih => exact fun σ h => h.elim
  | program k ih => exact fun σ h => ih _ _ h
  | mark m k ih => exact fun σ h => ⟨h.1, ih _ h.2⟩
  | halt h => exact fun σ x => hh _ _ x

theorem wpS_bind {P : Program} {α β : Type} {Q : β → Hp → Prop} {H : Halt → Hp → Prop} (f : α → Sem β) :
    ∀ (s : Sem α) (σ : Hp), wpS P s (fun a σ => wpS P (f a) Q H σ) H σ → wpS P (s.bind f) Q H σ := by
  intro s
  induction s with
  | pure a => exact fun σ h => h
  | load m a k ih => exact fun σ ⟨v, hv, h⟩ => ⟨v, hv, ih v σ h⟩
  | store m a v k ih =>
    intro σ h
    cases v <;> first | exact h.elim | exact ⟨h.1, h.2.1, ih _ h.2.2⟩
  | new o k ih => exact fun σ h b hb => ih _ _ (h b hb)
  | shape r k ih => exact fun σ h => ⟨h.1, ih _ _ h.2⟩
  | freeze a n k ih => exact fun σ h => ⟨h.1, ih _ h.2⟩
  | frozen a k ih => exact fun σ h => ⟨h.1, ih _ _ h.2⟩
  | getObj r k ih => exact fun σ ⟨o, ho, hc, h⟩ => ⟨o, ho, hc, ih _ _ h⟩
  | setObj r o k ih => exact fun σ ⟨o', ho, hc, h⟩ => ⟨o', ho, hc, ih _ h⟩
  | choose q k ih =>
    intro σ h
    unfold Sem.bind
    unfold wpS at h ⊢
    split
    · rename_i hf; rw [if_pos hf] at h; exact ih _ _ h
    · rename_i hf; rw [if_neg hf] at h; exact fun t => ih _ _ (h t)
  | sys c k ih => exact fun σ h => h.elim
  | program k ih => exact fun σ h => ih _ _ h
  | mark m k ih => exact fun σ h => ⟨h.1, ih _ h.2⟩
  | halt h => exact fun σ x => x

/-- What a step that touches visible blocks alone may list. -/
def EvV (J : Nat → Prop) (n : Nat) (e : Event) : Prop :=
  match e.loc with
  | .cell a => ¬ J a.block ∧ a.block < n
  | .obj r => ¬ J r ∧ r < n
  | .mark m => okMark m = true
  | _ => False

theorem EvV.mono {J : Nat → Prop} {n n' : Nat} (h : n ≤ n') {e : Event} (he : EvV J n e) : EvV J n' e := by
  unfold EvV at he ⊢
  cases hl : e.loc <;> rw [hl] at he <;> first | exact he | exact ⟨he.1, by have := he.2; omega⟩

/-- What stands between the world ahead of such a step and the one behind it. -/
structure Kept (J : Nat → Prop) (w w' : World) : Prop where
  hidden : ∀ b, J b → w'.heap[b]? = w.heap[b]?
  os : w'.os = w.os
  tape : w'.tape = w.tape
  output : w'.output = w.output
  grows : w.heap.size ≤ w'.heap.size

theorem Kept.refl (J : Nat → Prop) (w : World) : Kept J w w := ⟨fun _ _ => rfl, rfl, rfl, rfl, Nat.le_refl _⟩
theorem Kept.trans {J : Nat → Prop} {a b c : World} (h : Kept J a b) (k : Kept J b c) : Kept J a c :=
  ⟨fun x hx => (k.hidden x hx).trans (h.hidden x hx), k.os.trans h.os, k.tape.trans h.tape, k.output.trans h.output, Nat.le_trans h.grows k.grows⟩

section
variable {J : Nat → Prop} {w : World} {σ : Hp}

theorem Sees.notJ (h : Sees J w σ) {b : Nat} {o : Obj} (hb : σ.f b = some o) : ¬ J b := fun hj => by rw [h.hid b hj] at hb; cases hb
theorem Sees.lt (h : Sees J w σ) {b : Nat} {o : Obj} (hb : σ.f b = some o) : b < w.heap.size := (Array.getElem?_eq_some_iff.1 (h.heap hb)).1
theorem Sees.weak (h : Sees J w σ) {τ : Hp} (k : τ.le σ) : Sees J w τ := by
  refine ⟨fun hb => h.heap (k _ _ hb), fun b hj => ?_, h.low⟩
  cases hb : τ.f b with
  | none => rfl
  | some o => have := k b o hb; rw [h.hid b hj] at this; cases this

theorem cell_some {a : Addr} {v : Value} (h : σ.cell? a = some v) : ∃ c e z, σ.f a.block = some (.cells c e z) ∧ a.spot = none ∧ c[a.off]? = some v := by
  unfold Hp.cell? at h
  split at h
  · rename_i c e z hb
    refine ⟨c, e, z, hb, ?_⟩
    by_cases hs : a.spot.isSome = true
    · rw [if_pos hs] at h; cases h
    · rw [if_neg hs] at h
      exact ⟨by simpa using hs, h⟩
  · cases h

theorem Sees.cell (h : Sees J w σ) {a : Addr} {v : Value} (hc : σ.cell? a = some v) : w.cell? a = some v := by
  obtain ⟨c, e, z, hb, hs, hv⟩ := cell_some hc
  simp [World.cell?, h.heap hb, hs, hv]

theorem Sees.frz (h : Sees J w σ) {a : Addr} {o : Obj} (hb : σ.f a.block = some o) : w.frozen? a = σ.frozen? a := by
  simp only [World.frozen?, Hp.frozen?, h.heap hb, hb]; rfl

theorem Sees.shp (h : Sees J w σ) {r : Nat} {o : Obj} (hb : σ.f r = some o) : w.shape? r = σ.shape? r := by
  simp only [World.shape?, Hp.shape?, h.heap hb, hb]; rfl

theorem Sees.modify (h : Sees J w σ) {b : Nat} {o : Obj} (hb : σ.f b = some o) (g : Obj → Obj) : Sees J { w with heap := w.heap.modify b g } (σ.modify b g) := by
  refine ⟨fun {x o'} hx => ?_, fun x hx => ?_, fun x hx => by simpa using h.low x hx⟩
  · simp only [Hp.modify] at hx
    by_cases e : x = b
    · subst e
      rw [if_pos rfl, hb] at hx
      rw [Array.getElem?_modify, if_pos rfl, h.heap hb]; exact hx
    · rw [if_neg e] at hx
      rw [Array.getElem?_modify, if_neg (fun z => e z.symm)]; exact h.heap hx
  · simp only [Hp.modify]
    by_cases e : x = b
    · subst e; exact absurd hx (h.notJ hb)
    · rw [if_neg e]; exact h.hid x hx

theorem Kept.modify (h : Sees J w σ) {b : Nat} {o : Obj} (hb : σ.f b = some o) (g : Obj → Obj) : Kept J w { w with heap := w.heap.modify b g } := by
  refine ⟨fun x hx => ?_, rfl, rfl, rfl, by simp⟩
  have : x ≠ b := fun e => h.notJ hb (e ▸ hx)
  simp only [Array.getElem?_modify]
  rw [if_neg (fun z => this z.symm)]

theorem Sees.fresh (h : Sees J w σ) : σ.f w.heap.size = none := by
  cases hb : σ.f w.heap.size with
  | none => rfl
  | some o => exact absurd (h.lt hb) (Nat.lt_irrefl _)

theorem Sees.push (h : Sees J w σ) (o : Obj) : Sees J { w with heap := w.heap.push o } (σ.set w.heap.size o) := by
  refine ⟨fun {x o'} hx => ?_, fun x hx => ?_, fun x hx => by have := h.low x hx; simp; omega⟩
  · simp only [Hp.set] at hx
    by_cases e : x = w.heap.size
    · subst e; rw [if_pos rfl] at hx; simpa using hx
    · rw [if_neg e] at hx
      have := h.lt hx
      simp only [Array.getElem?_push]
      rw [if_neg e]; exact h.heap hx
  · simp only [Hp.set]
    rw [if_neg (by have := h.low x hx; omega)]
    exact h.hid x hx

theorem Kept.push (h : Sees J w σ) (o : Obj) : Kept J w { w with heap := w.heap.push o } := by
  refine ⟨fun x hx => ?_, rfl, rfl, rfl, by simp⟩
  have := h.low x hx
  simp only [Array.getElem?_push]
  rw [if_neg (by omega)]

theorem Sees.setObj (h : Sees J w σ) {b : Nat} {o : Obj} (hb : σ.f b = some o) (o' : Obj) : Sees J { w with heap := w.heap.setIfInBounds b o' } (σ.set b o') := by
  have hlt : b < w.heap.size := h.lt hb
  refine ⟨fun {x o''} hx => ?_, fun x hx => ?_, fun x hx => by simpa using h.low x hx⟩
  · simp only [Hp.set] at hx
    by_cases e : x = b
    · subst e; rw [if_pos rfl] at hx
      rw [← hx]; exact Array.getElem?_setIfInBounds_self_of_lt hlt
    · rw [if_neg e] at hx
      show (w.heap.setIfInBounds b o')[x]? = _
      rw [Array.getElem?_setIfInBounds_ne (fun z => e z.symm)]; exact h.heap hx
  · simp only [Hp.set]
    by_cases e : x = b
    · subst e; exact absurd hx (h.notJ hb)
    · rw [if_neg e]; exact h.hid x hx

theorem Kept.setObj (h : Sees J w σ) {b : Nat} {o : Obj} (hb : σ.f b = some o) (o' : Obj) : Kept J w { w with heap := w.heap.setIfInBounds b o' } := by
  refine ⟨fun x hx => ?_, rfl, rfl, rfl, by simp⟩
  have : x ≠ b := fun e => h.notJ hb (e ▸ hx)
  exact Array.getElem?_setIfInBounds_ne (fun z => this z.symm)

theorem Sees.drew (h : Sees J w σ) (d : Nat) : Sees J { w with drawn := d } σ := ⟨h.heap, h.hid, h.low⟩
end

/-- What a run within the visible heap comes to. -/
def Lands {α : Type} (J : Nat → Prop) (Q : α → Hp → Prop) (H : Halt → Hp → Prop) (w : World) (es : Array Event) (r : Result α × Array Event) : Prop :=
  ∃ (w' : World) (σ' : Hp) (es' : Array Event), r.2 = es ++ es' ∧ Sees J w' σ' ∧ Kept J w w' ∧ (∀ e ∈ es', EvV J w'.heap.size e) ∧
    ((∃ a, r.1 = .ok a w' ∧ Q a σ') ∨ (∃ h, r.1 = .halt h w' ∧ H h σ'))

theorem Lands.step {α : Type} {J : Nat → Prop} {Q : α → Hp → Prop} {H : Halt → Hp → Prop} {w w₁ : World} {es : Array Event} {es₁ : Array Event} {r : Result α × Array Event}
    (hk : Kept J w w₁) (he : ∀ e ∈ es₁, EvV J w₁.heap.size e) (h : Lands J Q H w₁ (es ++ es₁) r) : Lands J Q H w es r := by
  obtain ⟨w', σ', es', e1, hs, hk', he', hr⟩ := h
  refine ⟨w', σ', es₁ ++ es', by rw [e1, Array.append_assoc], hs, hk.trans hk', fun e hm => ?_, hr⟩
  rcases Array.mem_append.1 hm with hm | hm
  · exact (he e hm).mono hk'.grows
  · exact he' e hm

theorem Lands.step0 {α : Type} {J : Nat → Prop} {Q : α → Hp → Prop} {H : Halt → Hp → Prop} {w w₁ : World} {es : Array Event} {r : Result α × Array Event}
    (hk : Kept J w w₁) (h : Lands J Q H w₁ es r) : Lands J Q H w es r :=
  Lands.step (es₁ := #[]) hk (by simp) (by simpa using h)

theorem push_eq_append {α : Type} (a : Array α) (x : α) : a.push x = a ++ #[x] := by simp

/-- ████ A model program that is well over the visible heap runs well in every such world, touching visible blocks alone. ████ -/
theorem wpS_sound {P : Program} {α : Type} {J : Nat → Prop} {Q : α → Hp → Prop} {H : Halt → Hp → Prop} :
    ∀ (s : Sem α) (w : World) (σ : Hp) (es : Array Event), wpS P s Q H σ → Sees J w σ → Lands J Q H w es (s.runT P w es) := by
  intro s
  induction s with
  | pure a => exact fun w σ es h hs => ⟨w, σ, #[], by simp [Sem.runT], hs, .refl J w, by simp, .inl ⟨a, rfl, h⟩⟩
  | load m a k ih =>
    rintro w σ es ⟨v, hv, h⟩ hs
    have hw := hs.cell hv
    obtain ⟨c, e, z, hb, _, _⟩ := cell_some hv
    unfold Sem.runT
    simp only [hw]
    rw [push_eq_append]
    refine Lands.step (.refl J w) (fun x hx => ?_) (ih v w σ _ h hs)
    simp at hx; subst hx
    exact ⟨hs.notJ hb, hs.lt hb⟩
  | store m a v k ih =>
    intro w σ es h hs
    have key : (∃ u, σ.cell? a = some u) ∧ σ.frozen? a = false ∧ wpS P k Q H (σ.setCell a v) → (∀ cs, v ≠ .agg cs) → (∀ cs, v ≠ .tuple cs) → Lands J Q H w es ((Sem.store m a v k).runT P w es) := by
      rintro ⟨⟨u, hu⟩, hz, h⟩ h1 h2
      have hw := hs.cell hu
      obtain ⟨c, e, z, hb, _, _⟩ := cell_some hu
      have hfr : w.frozen? a = false := by rw [hs.frz hb]; exact hz
      have e1 : (Sem.store m a v k).runT P w es = k.runT P (w.setCell a v) (es.push ⟨.cell a, true, m == .atomic⟩) := by
        cases v <;> first | exact absurd rfl (h1 _) | exact absurd rfl (h2 _) | simp [Sem.runT, hw, hfr]
      rw [e1, push_eq_append]
      have hs' : Sees J (w.setCell a v) (σ.setCell a v) := hs.modify hb (cellPut a v)
      have hk : Kept J w (w.setCell a v) := Kept.modify hs hb (cellPut a v)
      refine Lands.step hk (fun x hx => ?_) (ih (w.setCell a v) (σ.setCell a v) _ h hs')
      simp at hx; subst hx
      exact ⟨hs.notJ hb, Nat.lt_of_lt_of_le (hs.lt hb) hk.grows⟩
    cases v <;> first | exact h.elim | exact key h (by simp) (by simp)
  | new o k ih =>
    intro w σ es h hs
    unfold Sem.runT
    exact Lands.step0 (Kept.push hs o) (ih _ _ _ _ (h _ hs.fresh) (hs.push o))
  | shape r k ih =>
    rintro w σ es ⟨hv, h⟩ hs
    obtain ⟨o, ho⟩ := Option.isSome_iff_exists.1 hv
    unfold Sem.runT
    rw [hs.shp ho]
    exact ih _ _ _ _ h hs
  | freeze a n k ih =>
    rintro w σ es ⟨hv, h⟩ hs
    obtain ⟨o, ho⟩ := Option.isSome_iff_exists.1 hv
    unfold Sem.runT
    by_cases hn : n = 0
    · have e1 : w.freeze a n = w := by simp [World.freeze, hn]
      have e2 : σ.freeze a n = σ := by simp [Hp.freeze, hn]
      rw [e1]; rw [e2] at h
      exact ih _ _ _ h hs
    · have e1 : w.freeze a n = { w with heap := w.heap.modify a.block (cellFreeze a n) } := by
        simp only [World.freeze, hn, if_false]
        rfl
      have e2 : σ.freeze a n = σ.modify a.block (cellFreeze a n) := by simp [Hp.freeze, hn]
      rw [e1]; rw [e2] at h
      exact Lands.step0 (Kept.modify hs ho _) (ih _ _ _ h (hs.modify ho _))
  | frozen a k ih =>
    rintro w σ es ⟨hv, h⟩ hs
    obtain ⟨o, ho⟩ := Option.isSome_iff_exists.1 hv
    unfold Sem.runT
    rw [hs.frz ho]
    exact ih _ _ _ _ h hs
  | getObj r k ih =>
    rintro w σ es ⟨o, ho, hc, h⟩ hs
    have hw := hs.heap ho
    have e1 : (Sem.getObj r k).runT P w es = (k o).runT P w (es.push ⟨.obj r, false, o.isChan⟩) := by
      cases o <;> first | (simp [notCells] at hc; done) | (simp only [Sem.runT, hw])
    rw [e1, push_eq_append]
    refine Lands.step (.refl J w) (fun x hx => ?_) (ih _ _ _ _ h hs)
    simp at hx; subst hx
    exact ⟨hs.notJ ho, hs.lt ho⟩
  | setObj r o k ih =>
    rintro w σ es ⟨o', ho, hc, h⟩ hs
    have hw := hs.heap ho
    have e1 : (Sem.setObj r o k).runT P w es = k.runT P { w with heap := w.heap.setIfInBounds r o } (es.push ⟨.obj r, true, o.isChan⟩) := by
      cases o' <;> first | (simp [notCells] at hc; done) | (simp only [Sem.runT, hw])
    rw [e1, push_eq_append]
    refine Lands.step (Kept.setObj hs ho o) (fun x hx => ?_) (ih _ _ _ h (hs.setObj ho o))
    simp at hx; subst hx
    refine ⟨hs.notJ ho, ?_⟩
    have := hs.lt ho
    simpa using this
  | choose q k ih =>
    intro w σ es h hs
    unfold wpS at h
    unfold Sem.runT
    split
    · rename_i hf; rw [if_pos hf] at h; exact ih _ _ _ _ h hs
    · rename_i hf; rw [if_neg hf] at h
      exact Lands.step0 (w₁ := { w with drawn := w.drawn + 1 }) ⟨fun _ _ => rfl, rfl, rfl, rfl, Nat.le_refl _⟩ (ih _ _ _ _ (h _) (hs.drew _))
  | sys c k ih => exact fun w σ es h => h.elim
  | program k ih => exact fun w σ es h hs => ih _ w σ es h hs
  | mark m k ih =>
    rintro w σ es ⟨hm, h⟩ hs
    unfold Sem.runT
    rw [push_eq_append]
    refine Lands.step (.refl J w) (fun x hx => ?_) (ih _ _ _ h hs)
    simp at hx; subst hx
    exact hm
  | halt h => exact fun w σ es x hs => ⟨w, σ, #[], by simp [Sem.runT], hs, .refl J w, by simp, .inr ⟨h, rfl, x⟩⟩

end Go.Qw
-- A goroutine's own steps in company, over the visible heap: steps, calls, code. Conditions: an environment that carries own steps out (Env.own).
namespace Go.Qw
open Go Go.Conc

/-- One own step, in every world that is seen as σ: it goes on, within the visible heap, to X. -/
def StepOk (P : Program) (main : Bool) (g : Goroutine) (σ : Hp) (X : Goroutine → Hp → Prop) : Prop :=
  ∀ J w, Sees J w σ → (stepG P main g w).goes fun g' w' es => ∃ σ', Sees J w' σ' ∧ Kept J w w' ∧ (∀ e ∈ es, EvV J w'.heap.size e) ∧ g'.status = .running ∧ X g' σ'

/-- An environment: what a machine in which this goroutine stands so is; it carries own steps out. -/
structure Env (P : Program) where
  main : Bool
  st : Goroutine → Hp → Machine → Trace → Prop
  weak : ∀ {g σ τ m T}, st g σ m T → τ.le σ → st g τ m T
  own : ∀ g σ m T (X : Goroutine → Hp → Prop), st g σ m T → g.status = .running → StepOk P main g σ X →
    ∃ N m' T' g' σ', runNT P N m T = (.next m', T') ∧ st g' σ' m' T' ∧ g'.status = .running ∧ X g' σ'

section
variable {P : Program} (E : Env P)

/-- From the goroutine's record g, heap σ, the machine comes to a record and heap in S. -/
def Runs (g : Goroutine) (σ : Hp) (S : Goroutine → Hp → Prop) : Prop :=
  ∀ m T, E.st g σ m T → ∃ N m' T' g' σ', runNT P N m T = (.next m', T') ∧ E.st g' σ' m' T' ∧ S g' σ'

variable {E}

theorem Runs.here {g : Goroutine} {σ : Hp} {S : Goroutine → Hp → Prop} (h : S g σ) : Runs E g σ S :=
  fun m T hm => ⟨0, m, T, g, σ, rfl, hm, h⟩

theorem Runs.bind {g : Goroutine} {σ : Hp} {S S' : Goroutine → Hp → Prop} (h : Runs E g σ S) (k : ∀ g' σ', S g' σ' → Runs E g' σ' S') : Runs E g σ S' := by
  intro m T hm
  obtain ⟨N, m', T', g', σ', h1, h2, h3⟩ := h m T hm
  obtain ⟨N', m'', T'', g'', σ'', k1, k2, k3⟩ := k g' σ' h3 m' T' h2
  exact ⟨N + N', m'', T'', g'', σ'', runNT_then h1 k1, k2, k3⟩

theorem Runs.weak {g : Goroutine} {σ τ : Hp} {S : Goroutine → Hp → Prop} (h : Runs E g τ S) (k : τ.le σ) : Runs E g σ S :=
  fun m T hm => h m T (E.weak hm k)

theorem Runs.mono {g : Goroutine} {σ : Hp} {S S' : Goroutine → Hp → Prop} (h : Runs E g σ S) (k : ∀ g' σ', S g' σ' → S' g' σ') : Runs E g σ S' :=
  h.bind fun g' σ' x => Runs.here (k g' σ' x)

theorem Runs.step {g : Goroutine} {σ : Hp} {S : Goroutine → Hp → Prop} {X : Goroutine → Hp → Prop} (hr : g.status = .running) (h : StepOk P E.main g σ X) (k : ∀ g' σ', X g' σ' → Runs E g' σ' S) : Runs E g σ S := by
  intro m T hm
  obtain ⟨N, m', T', g', σ', h1, h2, _, h3⟩ := E.own g σ m T X hm hr h
  obtain ⟨N', m'', T'', g'', σ'', k1, k2, k3⟩ := k g' σ' h3 m' T' h2
  exact ⟨N + N', m'', T'', g'', σ'', runNT_then h1 k1, k2, k3⟩

/-- A move of control: the world stands, nothing is listed. -/
theorem StepOk.ctl {main : Bool} {g g' : Goroutine} {σ : Hp} {X : Goroutine → Hp → Prop} (h : ∀ w, stepG P main g w = .go g' w) (hr : g'.status = .running) (hX : X g' σ) : StepOk P main g σ X := by
  intro J w hs
  rw [h w]
  exact ⟨σ, hs, .refl J w, by simp, hr, hX⟩

theorem Runs.ctl {g g' : Goroutine} {σ : Hp} {S : Goroutine → Hp → Prop} (h : ∀ w, stepG P E.main g w = .go g' w) (hr : g.status = .running) (hr' : g'.status = .running) (k : Runs E g' σ S) : Runs E g σ S :=
  Runs.step (X := fun g₁ σ₁ => g₁ = g' ∧ σ₁ = σ) hr (StepOk.ctl h hr' ⟨rfl, rfl⟩) (fun _ _ ⟨e1, e2⟩ => by subst e1; subst e2; exact k)

theorem StepOk.mono {main : Bool} {g : Goroutine} {σ : Hp} {X Y : Goroutine → Hp → Prop} (h : StepOk P main g σ X) (k : ∀ g' σ', X g' σ' → Y g' σ') : StepOk P main g σ Y := by
  intro J w hs
  have := h J w hs
  cases hg : stepG P main g w <;> rw [hg] at this <;> first | exact this.elim | skip
  obtain ⟨σ', h1, h2, h3, h4, h5⟩ := this
  exact ⟨σ', h1, h2, h3, h4, k _ _ h5⟩
end

/-! ### an operation -/
/-- What is asked of what an operation comes to. -/
def After (V : Value → Hp → Prop) (D : Deferred → Hp → Prop) (C : FuncId → Array Value → Hp → Prop) : Next → Hp → Prop
  | .value v, σ => V v σ
  | .skip, σ => V undef σ
  | .defer d, σ => D d σ
  | .enter f args, σ => C f args σ
  | _, _ => False

def AfterHalt (Pn : Value → Hp → Prop) : Halt → Hp → Prop
  | .panic v, σ => Pn v σ
  | _, _ => False

section
variable {P : Program} {main : Bool} {b : Frame} {a : Act} {k : List Item} {cs : List Frame} {σ : Hp}

/-- The step of an operation. -/
theorem stepOk_oper {ops : Array Oper} {i : Nat} {rest : List Nat} {o : Oper} (ho : ops[i]? = some o) (hw : Region.wanted o (yielded ops a.tmps) = true) (hk : b.kind ≠ .early)
    {V : Value → Hp → Prop} {D : Deferred → Hp → Prop} {C : FuncId → Array Value → Hp → Prop} {Pn : Value → Hp → Prop}
    (h : wpS P (execOp a.eval o) (After V D C) (AfterHalt Pn) σ) :
    StepOk P main (G (b.at a (.inRegion ops (i :: rest) :: k)) cs) σ fun g σ' =>
      (∃ v, V v σ' ∧ g = G (b.at (a.put o.dst v) (.inRegion ops rest :: k)) cs) ∨
      (∃ d, D d σ' ∧ g = G (b.at ({ a with defers := d :: a.defers }.put o.dst undef) (.inRegion ops rest :: k)) cs) ∨
      (∃ f args, C f args σ' ∧ g = G (Frame.enter P f args .normal) (b.at a (.inRegion ops (i :: rest) :: k) :: cs)) ∨
      (∃ v, Pn v σ' ∧ g = G ((b.at a (.inRegion ops (i :: rest) :: k)).raise [{ v, recovered := false }]) cs) := by
  intro J w hs
  have hfin : ∀ v, (b.at a (.inRegion ops (i :: rest) :: k)).finish v = b.at (a.put o.dst v) (.inRegion ops rest :: k) := by
    intro v; rw [Frame.finish_at, ho]; rfl
  have hkk : (b.kind == CallKind.early) = false := by simpa using hk
  obtain ⟨w', σ', es', e1, hs', hk', he', hr⟩ := wpS_sound (execOp a.eval o) w σ #[] h hs
  have e1' : ((execOp a.eval o).runT P w #[]).2 = es' := by simpa using e1
  rw [stepG_oper ho hw]
  have hseen : ∀ e ∈ seen P b.fn es', EvV J w'.heap.size e := fun e he => he' e (mem_seen he)
  rcases hr with ⟨nx, hn, hq⟩ | ⟨hh, hn, hq⟩
  · have e2 : (execOp a.eval o).runT P w #[] = (.ok nx w', es') := Prod.ext hn e1'
    cases nx <;> first | exact hq.elim | skip
    · rename_i v
      have : stepG.apply P true (b.at a (.inRegion ops (i :: rest) :: k)) cs none (execOp a.eval o) w = .go (G (b.at (a.put o.dst v) (.inRegion ops rest :: k)) cs) w' (seen P b.fn es') := by
        rw [← hfin]; simp [stepG.apply, -Sem.runT_eq, e2, G, Frame.at, hkk, GStep.after]
      rw [this]
      exact ⟨σ', hs', hk', hseen, rfl, .inl ⟨v, hq, rfl⟩⟩
    · have : stepG.apply P true (b.at a (.inRegion ops (i :: rest) :: k)) cs none (execOp a.eval o) w = .go (G (b.at (a.put o.dst undef) (.inRegion ops rest :: k)) cs) w' (seen P b.fn es') := by
        rw [← hfin]; simp [stepG.apply, -Sem.runT_eq, e2, G, Frame.at, hkk, GStep.after]
      rw [this]
      exact ⟨σ', hs', hk', hseen, rfl, .inl ⟨undef, hq, rfl⟩⟩
    · rename_i f args
      have : stepG.apply P true (b.at a (.inRegion ops (i :: rest) :: k)) cs none (execOp a.eval o) w = .go (G (Frame.enter P f args .normal) (b.at a (.inRegion ops (i :: rest) :: k) :: cs)) w' (seen P b.fn es') := by
        simp [stepG.apply, -Sem.runT_eq, e2, G, Frame.at, hkk, GStep.after]
      rw [this]
      exact ⟨σ', hs', hk', hseen, rfl, .inr (.inr (.inl ⟨f, args, hq, rfl⟩))⟩
    · rename_i d
      have hfd : ({ b.at a (.inRegion ops (i :: rest) :: k) with defers := d :: a.defers } : Frame).finish undef = b.at ({ a with defers := d :: a.defers }.put o.dst undef) (.inRegion ops rest :: k) := by
        have := Frame.finish_at b { a with defers := d :: a.defers } ops i rest k undef
        rw [ho] at this; exact this
      have : stepG.apply P true (b.at a (.inRegion ops (i :: rest) :: k)) cs none (execOp a.eval o) w = .go (G (b.at ({ a with defers := d :: a.defers }.put o.dst undef) (.inRegion ops rest :: k)) cs) w' (seen P b.fn es') := by
        rw [← hfd]; simp [stepG.apply, -Sem.runT_eq, e2, G, Frame.at, hkk, GStep.after]
      rw [this]
      exact ⟨σ', hs', hk', hseen, rfl, .inr (.inl ⟨d, hq, rfl⟩)⟩
  · have e2 : (execOp a.eval o).runT P w #[] = (.halt hh w', es') := Prod.ext hn e1'
    cases hh <;> first | exact hq.elim | skip
    rename_i v
    have : stepG.apply P true (b.at a (.inRegion ops (i :: rest) :: k)) cs none (execOp a.eval o) w = .go (G ((b.at a (.inRegion ops (i :: rest) :: k)).raise [{ v, recovered := false }]) cs) w' (seen P b.fn es') := by
      simp [stepG.apply, -Sem.runT_eq, e2, G, Frame.at, hkk, GStep.after]
    rw [this]
    exact ⟨σ', hs', hk', hseen, rfl, .inr (.inr (.inr ⟨v, hq, rfl⟩))⟩
end
end Go.Qw
-- Calls in company, over the visible heap.
namespace Go.Qw
open Go Go.Conc

abbrev Rho := Nat → Value
def up (ρ : Rho) (d : Nat) (v : Value) (t : Nat) : Value := if t = d then v else ρ t
def putR (ρ : Rho) : Option Tmp → Value → Rho
  | some d, v => up ρ d v
  | none, _ => ρ
def okDst (N : Nat) : Option Tmp → Bool
  | some d => decide (d < N)
  | none => true
def evR (ρ : Rho) : Operand → Value
  | .tmp t => ρ t
  | .const v => v
  | .global g => .pointer (some ⟨g, 0, none⟩)
  | .func f => .func (.func f) #[] #[]
def boolOf : Value → Option Bool
  | .bool b => some b
  | _ => none
def yieldedR (N : Nat) (ops : Array Oper) (ρ : Rho) (j : Nat) : Option Bool :=
  match (ops[j]?).bind (·.dst) with
  | some d => if d < N then boolOf (ρ d) else none
  | none => none

structure Agree (N : Nat) (a : Act) (ρ : Rho) (ds : List Deferred) : Prop where
  size : a.tmps.size = N
  defers : a.defers = ds
  tmps : ∀ t, a.tmps.getD t undef = ρ t

section
variable {N : Nat} {a : Act} {ρ : Rho} {ds : List Deferred}
theorem Agree.eval (h : Agree N a ρ ds) : a.eval = evR ρ := by
  funext x
  cases x <;> simp only [Act.eval, evR]
  exact h.tmps _
theorem Agree.yields (h : Agree N a ρ ds) (ops : Array Oper) : yielded ops a.tmps = yieldedR N ops ρ := by
  funext j
  unfold yielded yieldedR
  cases (ops[j]?).bind (·.dst) with
  | none => rfl
  | some d =>
    simp only [Option.bind_some]
    by_cases hd : d < N
    · rw [if_pos hd]
      have hd' : d < a.tmps.size := by rw [h.size]; exact hd
      have := h.tmps d
      rw [Array.getD_eq_getD_getElem?, Array.getElem?_eq_getElem hd', Option.getD_some] at this
      rw [Array.getElem?_eq_getElem hd', this]
      cases ρ d <;> rfl
    · rw [if_neg hd]
      rw [Array.getElem?_eq_none (by rw [h.size]; exact Nat.le_of_not_lt hd)]
theorem Agree.put (h : Agree N a ρ ds) {dst : Option Tmp} (hd : okDst N dst = true) (v : Value) : Agree N (a.put dst v) (putR ρ dst v) ds := by
  cases dst with
  | none => exact h
  | some d =>
    have hd' : d < N := of_decide_eq_true hd
    refine ⟨by simp [Act.put, h.size], h.defers, fun t => ?_⟩
    simp only [Act.put, putR, up]
    have := h.tmps t
    rw [Array.getD_eq_getD_getElem?] at this ⊢
    by_cases e : t = d
    · subst e
      rw [if_pos rfl, Array.getElem?_setIfInBounds_self_of_lt (by rw [h.size]; exact hd')]; rfl
    · rw [if_neg e, Array.getElem?_setIfInBounds_ne (fun z => e z.symm)]; exact this
theorem Agree.defer (h : Agree N a ρ ds) (d : Deferred) : Agree N { a with defers := d :: a.defers } ρ (d :: ds) := ⟨h.size, by simp [h.defers], h.tmps⟩
end

inductive Fin where
  | returned (v : Value)
  | panicked (chain : List PanicEntry)

inductive Ex where
  | normal
  | exit (id : Nat)
  | ret
  | panic (chain : List PanicEntry)

def resultsR (fn : Func) (ρ : Rho) : Sem Value := do
  let vs ← fn.results.mapM fun
    | .tmp t => pure (ρ t)
    | .cell a t => do loadVar t (← asAddr (ρ a))
  pure (if h : vs.size = 1 then vs[0] else .tuple vs)

def Leaving (P : Program) (fr : Frame) (σ : Hp) : Fin → Prop
  | .returned v => fr.mode = .returning ∧ fr.defers = [] ∧ fr.kind = .normal ∧ ∃ fn, P.funcs[fr.fn]? = some fn ∧ wpS P (results fn fr.tmps) (fun v' σ' => v' = v ∧ σ' = σ) (fun _ _ => False) σ
  | .panicked chain => fr.mode = .panicking chain ∧ fr.defers = [] ∧ ∃ fn, P.funcs[fr.fn]? = some fn

section
variable {P : Program} (E : Env P)

/-- THE CALL of function f, in company: it comes to its leaving, with R. -/
def CallsE (f : FuncId) (args : Array Value) (σ : Hp) (R : Fin → Hp → Prop) : Prop :=
  ∀ cs, Runs E (G (Frame.enter P f args .normal) cs) σ fun g σ' => ∃ e fr, g = G fr cs ∧ fr.fn = f ∧ Leaving P fr σ' e ∧ R e σ'

theorem CallsE.mono {E : Env P} {f : FuncId} {args : Array Value} {σ : Hp} {R R' : Fin → Hp → Prop} (h : CallsE E f args σ R) (k : ∀ e σ', R e σ' → R' e σ') : CallsE E f args σ R' :=
  fun cs => (h cs).mono fun _ _ ⟨e, fr, h1, h0, h2, h3⟩ => ⟨e, fr, h1, h0, h2, k _ _ h3⟩

abbrev Post := Ex → Rho → List Deferred → Hp → Prop

def onFin (nx : Value → Hp → Prop) (pn : List PanicEntry → Hp → Prop) : Fin → Hp → Prop
  | .returned v, σ => nx v σ
  | .panicked ch, σ => pn ch σ

/-- An operation. -/
def wpOp (o : Oper) (ρ : Rho) (ds : List Deferred) (σ : Hp) (nx : Rho → List Deferred → Hp → Prop) (pn : List PanicEntry → Hp → Prop) : Prop :=
  wpS P (execOp (evR ρ) o) (After (fun v σ' => nx (putR ρ o.dst v) ds σ') (fun d σ' => nx (putR ρ o.dst undef) (d :: ds) σ')
    (fun f args σ' => CallsE E f args σ' (onFin (fun v σ'' => nx (putR ρ o.dst v) ds σ'') pn)))
    (AfterHalt fun v σ' => pn [{ v, recovered := false }] σ') σ
end

/-! ### soundness -/
section
variable {P : Program} {E : Env P}

theorem leave_returned {fr c : Frame} {cs : List Frame} {σ : Hp} {v : Value} {S : Goroutine → Hp → Prop} (h : Leaving P fr σ (.returned v)) (k : Runs E (G (c.finish v) cs) σ S) : Runs E (G fr (c :: cs)) σ S := by
  obtain ⟨hm, hd, hk, fn, hf, hr⟩ := h
  refine Runs.step (X := fun g₁ σ₁ => g₁ = G (c.finish v) cs ∧ σ₁ = σ) rfl (fun J w hs => ?_) (fun _ _ ⟨e1, e2⟩ => by subst e1; subst e2; exact k)
  obtain ⟨w', σ', es', e1, hs', hk', he', hres⟩ := wpS_sound (results fn fr.tmps) w σ #[] hr hs
  rcases hres with ⟨v', hn, rfl, rfl⟩ | ⟨_, _, hf⟩
  · have e1' : ((results fn fr.tmps).runT P w #[]).2 = es' := by simpa using e1
    have e2 : (results fn fr.tmps).runT P w #[] = (.ok v' w', es') := Prod.ext hn e1'
    have : stepG P E.main (G fr (c :: cs)) w = .go (G (c.finish v') cs) w' (seen P fr.fn es') := by
      simp [G, stepG, hm, unwind, hd, hf, -Sem.runT_eq, e2, doReturn, hk, GStep.after]
    rw [this]
    exact ⟨_, hs', hk', fun e he => he' e (mem_seen he), rfl, rfl, rfl⟩
  · exact hf.elim

theorem leave_panicked {fr c : Frame} {cs : List Frame} {σ : Hp} {chain : List PanicEntry} {S : Goroutine → Hp → Prop} (h : Leaving P fr σ (.panicked chain)) (k : Runs E (G (c.raise chain) cs) σ S) : Runs E (G fr (c :: cs)) σ S := by
  obtain ⟨hm, hd, fn, hf⟩ := h
  refine Runs.ctl (g' := G (c.raise chain) cs) (fun w => ?_) rfl rfl k
  simp [G, stepG, hm, unwind, hd, Frame.catches, hf]

/-- A call made by the frame c, met by its judgement. -/
theorem CallsE.run {c : Frame} {cs : List Frame} {f : FuncId} {args : Array Value} {σ : Hp} {R : Fin → Hp → Prop} {S : Goroutine → Hp → Prop} (h : CallsE E f args σ R)
    (hv : ∀ v σ', R (.returned v) σ' → Runs E (G (c.finish v) cs) σ' S) (hp : ∀ ch σ', R (.panicked ch) σ' → Runs E (G (c.raise ch) cs) σ' S) : Runs E (G (Frame.enter P f args .normal) (c :: cs)) σ S := by
  refine (h (c :: cs)).bind ?_
  rintro g σ' ⟨e, fr, rfl, _, hl, hR⟩
  cases e with
  | returned v => exact leave_returned hl (hv v σ' hR)
  | panicked ch => exact leave_panicked hl (hp ch σ' hR)
end
end Go.Qw
