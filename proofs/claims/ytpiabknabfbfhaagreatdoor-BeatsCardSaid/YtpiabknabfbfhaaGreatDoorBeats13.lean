/- The law Beats of queuewire returns true for every three integers: the row over the given program, tied to its text; no condition besides. (Part 13 of 40: QwFrame QwPast QwWay.) -/
import Derived.Conc.TokenFlight
import Derived.Conc.TokenWalk
import Derived.Test.YtpiabknabfbfhaaGreatDoorBeats06
import Derived.Test.YtpiabknabfbfhaaGreatDoorBeats10
import Derived.Test.YtpiabknabfbfhaaGreatDoorBeats12
set_option linter.all false
-- The frame rule: a contract that holds in every environment holds beside blocks that it does not speak of, and leaves them as they are.
namespace Go.Qw
open Go Go.Conc

/-- Two parts of the heap have no block in common. -/
def Hp.Dis (σ φ : Hp) : Prop := ∀ b, σ.f b = none ∨ φ.f b = none
/-- Both parts. -/
def Hp.uni (σ φ : Hp) : Hp := ⟨fun b => match σ.f b with | some o => some o | none => φ.f b⟩

theorem Hp.uni_some {σ φ : Hp} {b : Nat} {o : Obj} (h : σ.f b = some o) : (σ.uni φ).f b = some o := by simp [Hp.uni, h]
theorem Hp.uni_none {σ φ : Hp} {b : Nat} (h : σ.f b = none) : (σ.uni φ).f b = φ.f b := by simp [Hp.uni, h]
theorem Hp.le_uni (σ φ : Hp) : σ.le (σ.uni φ) := fun _ _ h => Hp.uni_some h
theorem Hp.le_uni_right {σ φ : Hp} (d : σ.Dis φ) : φ.le (σ.uni φ) := fun b o h => by
  rcases d b with e | e
  · rw [Hp.uni_none e]; exact h
  · rw [e] at h; cases h
theorem Hp.uni_cases {σ φ : Hp} {b : Nat} {o : Obj} (h : (σ.uni φ).f b = some o) : σ.f b = some o ∨ (σ.f b = none ∧ φ.f b = some o) := by
  cases e : σ.f b with
  | some x => rw [Hp.uni_some e] at h; exact .inl h
  | none => rw [Hp.uni_none e] at h; exact .inr ⟨rfl, h⟩
theorem Hp.uni_le {σ τ φ : Hp} (h : τ.le σ) (d : σ.Dis φ) : (τ.uni φ).le (σ.uni φ) := by
  intro b o hb
  rcases Hp.uni_cases hb with h1 | ⟨_, h1⟩
  · exact Hp.uni_some (h b o h1)
  · rcases d b with e | e
    · rw [Hp.uni_none e]; exact h1
    · rw [e] at h1; cases h1
theorem Hp.Dis.weak {σ τ φ : Hp} (d : σ.Dis φ) (h : τ.le σ) : τ.Dis φ := by
  intro b
  rcases d b with e | e
  · left
    cases hb : τ.f b with
    | none => rfl
    | some o => have := h b o hb; rw [e] at this; cases this
  · exact .inr e

/-- A world that bears both parts bears the one, the other being hidden. -/
theorem Sees.split {J : Nat → Prop} {w : World} {σ φ : Hp} (h : Sees J w (σ.uni φ)) (d : σ.Dis φ) : Sees (fun b => J b ∨ (φ.f b).isSome = true) w σ := by
  refine ⟨fun hb => h.heap (Hp.uni_some hb), fun b hj => ?_, fun b hj => ?_⟩
  · rcases hj with hj | hj
    · cases hb : σ.f b with
      | none => rfl
      | some o => have := h.hid b hj; rw [Hp.uni_some hb] at this; cases this
    · rcases d b with e | e
      · exact e
      · rw [e] at hj; cases hj
  · rcases hj with hj | hj
    · exact h.low b hj
    · obtain ⟨o, ho⟩ := Option.isSome_iff_exists.1 hj
      exact h.lt (Hp.le_uni_right d b o ho)

theorem Sees.unite {J : Nat → Prop} {w : World} {σ φ : Hp} (h : Sees (fun b => J b ∨ (φ.f b).isSome = true) w σ) (hJ : ∀ b, J b → φ.f b = none) (hφ : ∀ b o, φ.f b = some o → w.heap[b]? = some o) : Sees J w (σ.uni φ) ∧ σ.Dis φ := by
  refine ⟨⟨fun {b o} hb => ?_, fun b hj => ?_, fun b hj => h.low b (.inl hj)⟩, fun b => ?_⟩
  · rcases Hp.uni_cases hb with h1 | ⟨_, h1⟩
    · exact h.heap h1
    · exact hφ b o h1
  · rw [Hp.uni_none (h.hid b (.inl hj))]; exact hJ b hj
  · cases e : φ.f b with
    | none => exact .inr rfl
    | some o => exact .inl (h.hid b (.inr (by rw [e]; rfl)))

theorem EvV.fewer {J J' : Nat → Prop} {n : Nat} {e : Event} (hJ : ∀ b, J b → J' b) (h : EvV J' n e) : EvV J n e := by
  unfold EvV at h ⊢
  cases hl : e.loc <;> rw [hl] at h <;> first | exact h | exact ⟨fun x => h.1 (hJ _ x), h.2⟩

theorem StepOk.frame {P : Program} {main : Bool} {g : Goroutine} {σ φ : Hp} {X : Goroutine → Hp → Prop} (h : StepOk P main g σ X) (d : σ.Dis φ) :
    StepOk P main g (σ.uni φ) fun g' τ => ∃ σ', σ'.Dis φ ∧ τ = σ'.uni φ ∧ X g' σ' := by
  intro J w hs
  have := h _ w (hs.split d)
  cases hg : stepG P main g w <;> rw [hg] at this <;> first | exact this.elim | skip
  obtain ⟨σ', h1, h2, h3, h4, h5⟩ := this
  have hJ : ∀ b, J b → φ.f b = none := fun b hj => by
    have := hs.hid b hj
    cases e : σ.f b with
    | none => rw [Hp.uni_none e] at this; exact this
    | some o => rw [Hp.uni_some e] at this; cases this
  obtain ⟨k1, k2⟩ := h1.unite hJ (fun b o hb => by rw [h2.hidden b (.inr (by rw [hb]; rfl))]; exact hs.heap (Hp.le_uni_right d b o hb))
  exact ⟨_, k1, ⟨fun b hj => h2.hidden b (.inl hj), h2.os, h2.tape, h2.output, h2.grows⟩, fun e he => (h3 e he).fewer fun b => .inl, h4, σ', k2, rfl, h5⟩

/-- The environment in which the part φ stands beside. -/
def Env.frame {P : Program} (E : Env P) (φ : Hp) : Env P where
  main := E.main
  st g σ m T := σ.Dis φ ∧ E.st g (σ.uni φ) m T
  weak := fun ⟨d, h⟩ k => ⟨d.weak k, E.weak h (Hp.uni_le k d)⟩
  own := by
    rintro g σ m T X ⟨d, h⟩ hr hX
    obtain ⟨N, m', T', g', τ, h1, h2, h3, σ', d', rfl, hx⟩ := E.own g _ m T _ h hr (hX.frame d)
    exact ⟨N, m', T', g', σ', h1, ⟨d', h2⟩, h3, hx⟩

section
variable {P : Program} {σ φ : Hp}
theorem cell_uni {a : Addr} {v : Value} (h : σ.cell? a = some v) : (σ.uni φ).cell? a = some v := by
  obtain ⟨c, e, z, hb, hs, hv⟩ := cell_some h
  simp [Hp.cell?, Hp.uni_some hb, hs, hv]
theorem frozen_uni {a : Addr} {o : Obj} (hb : σ.f a.block = some o) : (σ.uni φ).frozen? a = σ.frozen? a := by simp only [Hp.frozen?, Hp.uni_some hb, hb]
theorem shape_uni {r : Nat} {o : Obj} (hb : σ.f r = some o) : (σ.uni φ).shape? r = σ.shape? r := by simp only [Hp.shape?, Hp.uni_some hb, hb]
theorem modify_uni {b : Nat} {o : Obj} (hb : σ.f b = some o) (g : Obj → Obj) : (σ.uni φ).modify b g = (σ.modify b g).uni φ := by
  simp only [Hp.modify, Hp.uni, Hp.mk.injEq]
  funext x
  by_cases e : x = b
  · subst e; simp [hb]
  · simp [e]
theorem set_uni (b : Nat) (o : Obj) : (σ.uni φ).set b o = (σ.set b o).uni φ := by
  simp only [Hp.set, Hp.uni, Hp.mk.injEq]
  funext x
  by_cases e : x = b
  · subst e; simp
  · simp [e]
theorem setCell_uni {a : Addr} {o : Obj} (hb : σ.f a.block = some o) (v : Value) : (σ.uni φ).setCell a v = (σ.setCell a v).uni φ := modify_uni hb _
theorem freeze_uni {a : Addr} {o : Obj} (hb : σ.f a.block = some o) (n : Nat) : (σ.uni φ).freeze a n = (σ.freeze a n).uni φ := by
  unfold Hp.freeze
  split
  · rfl
  · exact modify_uni hb _
theorem dis_set {b : Nat} {o : Obj} (d : σ.Dis φ) (hb : φ.f b = none) : (σ.set b o).Dis φ := by
  intro x
  by_cases e : x = b
  · subst e; exact .inr hb
  · simpa [Hp.set, e] using d x
theorem dis_some {b : Nat} {o : Obj} (d : σ.Dis φ) (hb : σ.f b = some o) : φ.f b = none := by
  rcases d b with e | e
  · rw [e] at hb; cases hb
  · exact e
theorem dis_modify {b : Nat} (g : Obj → Obj) (d : σ.Dis φ) : (σ.modify b g).Dis φ := by
  intro x
  by_cases e : x = b
  · subst e
    rcases d x with e | e
    · exact .inl (by simp [Hp.modify, e])
    · exact .inr e
  · simpa [Hp.modify, e] using d x

theorem wpS_frame {α : Type} {Q : α → Hp → Prop} {H : Halt → Hp → Prop} :
    ∀ (s : Sem α) (σ : Hp), σ.Dis φ → wpS P s Q H σ → wpS P s (fun a τ => ∃ σ', σ'.Dis φ ∧ τ = σ'.uni φ ∧ Q a σ') (fun h τ => ∃ σ', σ'.Dis φ ∧ τ = σ'.uni φ ∧ H h σ') (σ.uni φ) := by
  intro s
  induction s with
  | pure a => exact fun σ d h => ⟨σ, d, rfl, h⟩
  | load m a k ih => exact fun σ d ⟨v, hv, h⟩ => ⟨v, cell_uni hv, ih v σ d h⟩
  | store m a v k ih =>
    intro σ d h
    have key : (∃ u, σ.cell? a = some u) ∧ σ.frozen? a = false ∧ wpS P k Q H (σ.setCell a v) → (∃ u, (σ.uni φ).cell? a = some u) ∧ (σ.uni φ).frozen? a = false ∧ wpS P k (fun a τ => ∃ σ', σ'.Dis φ ∧ τ = σ'.uni φ ∧ Q a σ') (fun h τ => ∃ σ', σ'.Dis φ ∧ τ = σ'.uni φ ∧ H h σ') ((σ.uni φ).setCell a v) := by
      rintro ⟨⟨u, hu⟩, hz, h⟩
      obtain ⟨c, e, z, hb, _, _⟩ := cell_some hu
      refine ⟨⟨u, cell_uni hu⟩, by rw [frozen_uni hb]; exact hz, ?_⟩
      rw [setCell_uni hb]
      exact ih _ (dis_modify _ d) h
    cases v <;> first | exact h.elim | exact key h
  | new o k ih =>
    intro σ d h b hb
    rw [set_uni]
    have hs : σ.f b = none := by
      cases e : σ.f b with
      | none => rfl
      | some x => rw [Hp.uni_some e] at hb; cases hb
    exact ih b _ (dis_set d (by rw [Hp.uni_none hs] at hb; exact hb)) (h b hs)
  | shape r k ih =>
    rintro σ d ⟨h1, h⟩
    obtain ⟨o, ho⟩ := Option.isSome_iff_exists.1 h1
    refine ⟨by rw [Hp.uni_some ho]; rfl, ?_⟩
    rw [shape_uni ho]; exact ih _ _ d h
  | freeze a n k ih =>
    rintro σ d ⟨h1, h⟩
    obtain ⟨o, ho⟩ := Option.isSome_iff_exists.1 h1
    refine ⟨by rw [Hp.uni_some ho]; rfl, ?_⟩
    rw [freeze_uni ho]
    refine ih _ ?_ h
    unfold Hp.freeze
    split
    · exact d
    · exact dis_modify _ d
  | frozen a k ih =>
    rintro σ d ⟨h1, h⟩
    obtain ⟨o, ho⟩ := Option.isSome_iff_exists.1 h1
    refine ⟨by rw [Hp.uni_some ho]; rfl, ?_⟩
    rw [frozen_uni ho]; exact ih _ _ d h
  | getObj r k ih => exact fun σ d ⟨o, ho, hc, h⟩ => ⟨o, Hp.uni_some ho, hc, ih _ _ d h⟩
  | setObj r o k ih =>
    rintro σ d ⟨o', ho, hc, h⟩
    refine ⟨o', Hp.uni_some ho, hc, ?_⟩
    rw [set_uni]
    exact ih _ (dis_set d (dis_some d ho)) h
  | choose q k ih =>
    intro σ d h
    unfold wpS at h ⊢
    split
    · rename_i hf; rw [if_pos hf] at h; exact ih _ _ d h
    · rename_i hf; rw [if_neg hf] at h; exact fun t => ih _ _ d (h t)
  | sys c k ih => exact fun σ d h => h.elim
  | program k ih => exact fun σ d h => ih _ _ d h
  | mark m k ih => exact fun σ d h => ⟨h.1, ih _ d h.2⟩
  | halt h => exact fun σ d x => ⟨σ, d, rfl, x⟩

/-- ████ THE FRAME RULE. ████ -/
theorem CallsE.framed {E : Env P} {f : FuncId} {args : Array Value} {R : Fin → Hp → Prop} (h : CallsE (E.frame φ) f args σ R) (d : σ.Dis φ) :
    CallsE E f args (σ.uni φ) fun e τ => ∃ σ', σ'.Dis φ ∧ τ = σ'.uni φ ∧ R e σ' := by
  intro cs m T hm
  obtain ⟨N, m', T', g', σ', h1, ⟨d', h2⟩, e, fr, rfl, hf, hl, hR⟩ := h cs m T ⟨d, hm⟩
  refine ⟨N, m', T', _, _, h1, h2, e, fr, rfl, hf, ?_, σ', d', rfl, hR⟩
  cases e with
  | returned v =>
    obtain ⟨a1, a2, a3, fn, a4, a5⟩ := hl
    exact ⟨a1, a2, a3, fn, a4, wpS_mono (fun v' τ ⟨σ'', _, e1, e2, e3⟩ => ⟨e2, by rw [e1, e3]⟩) (fun _ _ ⟨_, _, _, x⟩ => x) _ _ (wpS_frame _ _ d' a5)⟩
  | panicked ch => exact hl
end

/-- The part of the heap within D; without D. -/
noncomputable def Hp.only (σ : Hp) (D : Nat → Prop) : Hp := ⟨fun b => open Classical in if D b then σ.f b else none⟩
theorem Hp.only_le (σ : Hp) (D : Nat → Prop) : (σ.only D).le σ := fun b o h => by
  simp only [Hp.only] at h
  split at h
  · exact h
  · cases h
theorem Hp.only_some {σ : Hp} {D : Nat → Prop} {b : Nat} {o : Obj} (h : σ.f b = some o) (hb : D b) : (σ.only D).f b = some o := by simp [Hp.only, hb, h]
theorem Hp.only_dis (σ : Hp) (D : Nat → Prop) : (σ.only D).Dis (σ.only fun b => ¬ D b) := fun b => by
  by_cases h : D b
  · right; simp [Hp.only, h]
  · left; simp [Hp.only, h]
theorem Hp.only_uni (σ : Hp) (D : Nat → Prop) : (σ.only D).uni (σ.only fun b => ¬ D b) = σ := by
  show Hp.mk _ = Hp.mk _
  congr 1
  funext b
  by_cases h : D b
  · simp only [Hp.only, h, if_true, not_true, if_false]
    cases σ.f b <;> rfl
  · simp [Hp.only, h]
end Go.Qw
-- The trace while two goroutines talk: who knows what. Conditions: each law's own.
namespace Go.Qw
open Go Go.Conc

/-- Every touch is accounted for (K), or an atomic one of a shunned place that counts for nobody, or o's read of a still place. -/
structure PastK (S Still Q : Loc → Prop) (jw o B : Nat) (K : Nat → Prop) (t : Trace) : Prop where
  clean : ∀ said, ¬ Race said t
  known : ∀ i a, touchAt t i = some a → a.loc.isMemory = true → K i ∨ (S a.loc ∧ a.kind = .atomic ∧ ¬ t.counts i) ∨ (t.g? i = some o ∧ a.write = false ∧ Still a.loc)
  wrote : ∀ i a, touchAt t i = some a → a.write = true → Still a.loc → Knows t o i
  pure : ∀ i a, touchAt t i = some a → Q a.loc → a.kind ≠ .plain ∨ Knows t jw i
  seen : ∀ op ∈ t, op.act.low B

section
variable {S Still Still' Q : Loc → Prop} {jw o B h : Nat} {K K' : Nat → Prop} {t u : Trace}

theorem PastK.mono {B' : Nat} (H : PastK S Still Q jw o B K t) (hB : B ≤ B') : PastK S Still Q jw o B' K t := ⟨H.clean, H.known, H.wrote, H.pure, fun op hop => MemAct.low_mono hB (H.seen op hop)⟩
theorem PastK.shun {S' : Loc → Prop} (H : PastK S Still Q jw o B K t) (hS : ∀ l, S l → S' l) : PastK S' Still Q jw o B K t :=
  ⟨H.clean, fun i a ha hm => (H.known i a ha hm).imp id (fun x => x.imp (fun y => ⟨hS _ y.1, y.2⟩) id), H.wrote, H.pure, H.seen⟩

theorem PastK.old_known (H : PastK S Still Q jw o B K t) (hK : ∀ i, K i → K' i) {i : Nat} {a : Touch} {x : MemOp} (hx' : t[i]? = some x) (hxa : x.act.touch? = some a) (hm : a.loc.isMemory = true) :
    K' i ∨ (S a.loc ∧ a.kind = .atomic ∧ ¬ (t ++ u).counts i) ∨ ((t ++ u).g? i = some o ∧ a.write = false ∧ Still a.loc) := by
  have hi := lt_size_of_getElem? hx'
  rcases H.known i a (by rw [touchAt_of hx']; exact hxa) hm with x | ⟨x, y, z⟩ | ⟨x, y, z⟩
  · exact .inl (hK i x)
  · exact .inr (.inl ⟨x, y, fun c => z ((counts_old hi).1 c)⟩)
  · exact .inr (.inr ⟨by rw [g?_old hi]; exact x, y, z⟩)

/-- Operations that touch nothing. -/
theorem PastK.appMute (H : PastK S Still Q jw o B K t) (hK : ∀ i, K i → K' i) (hn : ∀ op ∈ u, op.act.touch? = none) (hl : ∀ op ∈ u, op.act.low B) : PastK S Still Q jw o B K' (t ++ u) := by
  refine ⟨fun said => noRace_appendMute (H.clean said) hn, fun i a ha hm => ?_, fun i a ha hw hS => ?_, fun i a ha hq => ?_, seen_app H.seen hl⟩
  · obtain ⟨x, hx, hxa⟩ := touch_of ha
    rcases getElem?_append_cases hx with ⟨_, hx'⟩ | ⟨_, hxu⟩
    · exact H.old_known hK hx' hxa hm
    · rw [hn x hxu] at hxa; cases hxa
  · obtain ⟨x, hx, hxa⟩ := touch_of ha
    rcases getElem?_append_cases hx with ⟨_, hx'⟩ | ⟨_, hxu⟩
    · exact (H.wrote i a (by rw [touchAt_of hx']; exact hxa) hw hS).app u
    · rw [hn x hxu] at hxa; cases hxa
  · obtain ⟨x, hx, hxa⟩ := touch_of ha
    rcases getElem?_append_cases hx with ⟨_, hx'⟩ | ⟨_, hxu⟩
    · exact (H.pure i a (by rw [touchAt_of hx']; exact hxa) hq).imp id (·.app u)
    · rw [hn x hxu] at hxa; cases hxa

/-- o reads still places. -/
theorem PastK.appRead (H : PastK S Still Q jw o B K t) (hK : ∀ i, K i → K' i) (hSQ : ∀ l, Still l → ¬ Q l) (hu : ∀ op ∈ u, op.g = o) (hr : ∀ op ∈ u, ∀ b, op.act.touch? = some b → b.write = false ∧ Still b.loc) (hl : ∀ op ∈ u, op.act.low B) :
    PastK S Still Q jw o B K' (t ++ u) := by
  refine ⟨fun said => noRace_append (H.clean said) hu fun i a ha op hop b hb hc => ?_, fun i a ha hm => ?_, fun i a ha hw hS => ?_, fun i a ha hq => ?_, seen_app H.seen hl⟩
  · obtain ⟨hb0, hbS⟩ := hr op hop b hb
    rcases hc.2.2.1 with x | x
    · exact H.wrote i a ha x (hc.1 ▸ hbS)
    · rw [hb0] at x; cases x
  · obtain ⟨x, hx, hxa⟩ := touch_of ha
    rcases getElem?_append_cases hx with ⟨_, hx'⟩ | ⟨_, hxu⟩
    · exact H.old_known hK hx' hxa hm
    · exact .inr (.inr ⟨by rw [g?_of hx, hu x hxu], hr x hxu a hxa⟩)
  · obtain ⟨x, hx, hxa⟩ := touch_of ha
    rcases getElem?_append_cases hx with ⟨_, hx'⟩ | ⟨_, hxu⟩
    · exact (H.wrote i a (by rw [touchAt_of hx']; exact hxa) hw hS).app u
    · rw [(hr x hxu a hxa).1] at hw; cases hw
  · obtain ⟨x, hx, hxa⟩ := touch_of ha
    rcases getElem?_append_cases hx with ⟨_, hx'⟩ | ⟨_, hxu⟩
    · exact (H.pure i a (by rw [touchAt_of hx']; exact hxa) hq).imp id (·.app u)
    · exact absurd hq (hSQ _ (hr x hxu a hxa).2)

/-- The holder's own operations. -/
theorem PastK.appH (H : PastK S Still Q jw o B (Knows t h) t) (hu : ∀ op ∈ u, op.g = h) (hs : ∀ op ∈ u, ∀ b, op.act.touch? = some b → (S b.loc → b.kind ≠ .plain) ∧ (Still b.loc → b.write = false) ∧ (Q b.loc → b.kind ≠ .plain))
    (hl : ∀ op ∈ u, op.act.low B) : PastK S Still Q jw o B (Knows (t ++ u) h) (t ++ u) := by
  refine ⟨fun said => noRace_append (H.clean said) hu fun i a ha op hop b hb hc => ?_, fun i a ha hm => ?_, fun i a ha hw hS => ?_, fun i a ha hq => ?_, seen_app H.seen hl⟩
  · obtain ⟨hbS, hbT, _⟩ := hs op hop b hb
    rcases H.known i a ha hc.2.1 with hk | ⟨x, y, _⟩ | ⟨_, x, y⟩
    · exact hk
    · obtain ⟨_, _, _, hcase⟩ := hc
      rw [y] at hcase
      rcases hcase with z | z | ⟨_, z, _⟩
      · cases z
      · exact absurd z (hbS (by rw [← ‹a.loc = b.loc›]; exact x))
      · cases z
    · have hb0 := hbT (hc.1 ▸ y)
      rcases hc.2.2.1 with z | z
      · rw [x] at z; cases z
      · rw [hb0] at z; cases z
  · obtain ⟨x, hx, hxa⟩ := touch_of ha
    rcases getElem?_append_cases hx with ⟨_, hx'⟩ | ⟨_, hxu⟩
    · exact H.old_known (fun _ x => x.app u) hx' hxa hm
    · have := knows_own hx
      rw [hu x hxu] at this
      exact .inl this
  · obtain ⟨x, hx, hxa⟩ := touch_of ha
    rcases getElem?_append_cases hx with ⟨_, hx'⟩ | ⟨_, hxu⟩
    · exact (H.wrote i a (by rw [touchAt_of hx']; exact hxa) hw hS).app u
    · rw [(hs x hxu a hxa).2.1 hS] at hw; cases hw
  · obtain ⟨x, hx, hxa⟩ := touch_of ha
    rcases getElem?_append_cases hx with ⟨_, hx'⟩ | ⟨_, hxu⟩
    · exact (H.pure i a (by rw [touchAt_of hx']; exact hxa) hq).imp id (·.app u)
    · exact .inl ((hs x hxu a hxa).2.2 hq)

/-- The token passes along an edge: whoever gives (s) knew all but what the taker (r) read itself. -/
theorem PastK.pass {s r : Nat} (H : PastK S Still Q jw r B (Knows t s) t) (hS' : ∀ l, Still' l → l.isMemory = true ∧ ¬ S l) (hn : ∀ op ∈ u, op.act.touch? = none) (hl : ∀ op ∈ u, op.act.low B)
    (he : ∀ i, Knows t s i → Knows (t ++ u) r i) : PastK S Still' Q jw s B (Knows (t ++ u) r) (t ++ u) := by
  refine ⟨fun said => noRace_appendMute (H.clean said) hn, fun i a ha hm => ?_, fun i a ha hw hS => ?_, fun i a ha hq => ?_, seen_app H.seen hl⟩
  · obtain ⟨x, hx, hxa⟩ := touch_of ha
    rcases getElem?_append_cases hx with ⟨hi, hx'⟩ | ⟨_, hxu⟩
    · rcases H.known i a (by rw [touchAt_of hx']; exact hxa) hm with y | ⟨y, z, v⟩ | ⟨y, z, v⟩
      · exact .inl (he i y)
      · exact .inr (.inl ⟨y, z, fun c => v ((counts_old hi).1 c)⟩)
      · have := knows_own hx
        rw [show x.g = r from by have := g?_of hx'; rw [y] at this; exact (Option.some.inj this).symm] at this
        exact .inl this
    · rw [hn x hxu] at hxa; cases hxa
  · obtain ⟨x, hx, hxa⟩ := touch_of ha
    rcases getElem?_append_cases hx with ⟨hi, hx'⟩ | ⟨_, hxu⟩
    · rcases H.known i a (by rw [touchAt_of hx']; exact hxa) (hS' _ hS).1 with y | ⟨y, _⟩ | ⟨_, z, _⟩
      · exact y.app u
      · exact absurd y (hS' _ hS).2
      · rw [hw] at z; cases z
    · rw [hn x hxu] at hxa; cases hxa
  · obtain ⟨x, hx, hxa⟩ := touch_of ha
    rcases getElem?_append_cases hx with ⟨_, hx'⟩ | ⟨_, hxu⟩
    · exact (H.pure i a (by rw [touchAt_of hx']; exact hxa) hq).imp id (·.app u)
    · rw [hn x hxu] at hxa; cases hxa
end

/-! ### from and to what is held between two calls -/
section
variable {S Q : Loc → Prop} {jw o B : Nat} {t u : Trace}

theorem PastK.ofPast (h : Past S B t) (hQ : ∀ l, ¬ Q l) : PastK S (fun _ => False) Q jw o B (Knows t 0) t := by
  refine ⟨h.clean, fun i a ha hm => ?_, fun _ _ _ _ x => x.elim, fun i a ha x => absurd x (hQ _), h.seen⟩
  by_cases hk : Knows t 0 i
  · exact .inl hk
  · rcases h.known i a ha hm with x | ⟨x, y⟩
    · exact absurd x hk
    · refine .inr (.inl ⟨x, y, fun hc => hk ?_⟩)
      obtain ⟨op, hop, _⟩ := touch_of ha
      by_cases e : op.g = 0
      · rw [← e]; exact knows_own hop
      · obtain ⟨j, hj, hb⟩ := h.over i op.g (g?_of hop) e hc
        unfold Trace.g? at hj
        obtain ⟨z, hz, hz0⟩ := Option.map_eq_some_iff.1 hj
        exact ⟨j, z, hz, hz0, .inr hb⟩

theorem PastK.toPast (H : PastK S (fun _ => False) Q jw o B (Knows t 0) t) (hd : Deaf t 0 = 0) : Past S B t := by
  refine ⟨H.clean, fun i a ha hm => ?_, fun i g hg hne hc => ?_, hd, H.seen⟩
  · rcases H.known i a ha hm with x | ⟨x, y, _⟩ | ⟨_, _, x⟩
    · exact .inl x
    · exact .inr ⟨x, y⟩
    · exact x.elim
  · obtain ⟨x, hx, hm, _⟩ := id hc
    rcases H.known i x hx hm with ⟨q, z, hq, hz, hb⟩ | ⟨_, _, y⟩ | ⟨_, _, y⟩
    · refine ⟨q, by rw [g?_of hq, hz], ?_⟩
      rcases hb with rfl | hb
      · rw [g?_of hq, hz] at hg; exact absurd (Option.some.inj hg).symm hne
      · exact hb
    · exact absurd hc y
    · exact y.elim

/-- The edge of a send that is met. -/
theorem knows_met {s r : Nat} (hs : Deaf t s = 0) (hr : Deaf t r = 0) (fh : FuncId) (ph : String) (fj : FuncId) (pj : String) (c k cap : Nat) {i : Nat} (h : Knows t s i) : Knows (t ++ met s r fh ph fj pj c k cap) r i := by
  have hq : ∀ g, ∀ op ∈ met s r fh ph fj pj c k cap, ∀ d, deafStep g d op = d := fun g => met_quiet s r fh ph fj pj c k cap g
  have e0 : (t ++ met s r fh ph fj pj c k cap)[t.size]? = some { g := s, fn := fh, pos := ph, act := .send c k } := by simp [met]
  have e3 : (t ++ met s r fh ph fj pj c k cap)[t.size + 3]? = some { g := r, fn := fj, pos := pj, act := .recvDone c k } := by simp [met]
  have edge : HappensBefore (t ++ met s r fh ph fj pj c k cap) t.size (t.size + 3) :=
    Relation.TransGen.single (.inr ⟨.handOver (act?_of e0) (act?_of e3), ⟨s, g?_of e0, by rw [deaf_old (Nat.le_refl _)]; exact hs⟩, ⟨r, g?_of e3, by rw [deaf_quiet (hq r) 3 (by simp [met])]; exact hr⟩⟩)
  exact ⟨t.size + 3, _, e3, rfl, .inr ((h.hb_new (Nat.le_refl _) e0 rfl).trans edge)⟩

theorem Deaf_met {s r : Nat} (fh : FuncId) (ph : String) (fj : FuncId) (pj : String) (c k cap g : Nat) : Deaf (t ++ met s r fh ph fj pj c k cap) g = Deaf t g := Deaf_quiet (met_quiet s r fh ph fj pj c k cap g)

/-- The two operations of a go statement. -/
def hired (h c : Nat) (fh : FuncId) (ph : String) (fc : FuncId) : Trace := #[{ g := h, fn := fh, pos := ph, act := .go c }, { g := c, fn := fc, pos := ph, act := .start }]
theorem hired_mute (h c : Nat) (fh : FuncId) (ph : String) (fc : FuncId) : ∀ op ∈ hired h c fh ph fc, op.act.touch? = none := by
  intro op hop
  simp only [hired, List.mem_toArray, List.mem_cons, List.not_mem_nil, or_false] at hop
  rcases hop with rfl | rfl <;> rfl
theorem hired_quiet (h c : Nat) (fh : FuncId) (ph : String) (fc : FuncId) (g : Nat) : ∀ op ∈ hired h c fh ph fc, ∀ d, deafStep g d op = d := by
  intro op hop d
  simp only [hired, List.mem_toArray, List.mem_cons, List.not_mem_nil, or_false] at hop
  rcases hop with rfl | rfl <;> rfl
theorem hired_low (h c : Nat) (fh : FuncId) (ph : String) (fc : FuncId) (B : Nat) : ∀ op ∈ hired h c fh ph fc, op.act.low B := by
  intro op hop
  simp only [hired, List.mem_toArray, List.mem_cons, List.not_mem_nil, or_false] at hop
  rcases hop with rfl | rfl <;> trivial
theorem knows_hired {h c : Nat} (hh : Deaf t h = 0) (hc : Deaf t c = 0) (fh : FuncId) (ph : String) (fc : FuncId) {i : Nat} (k : Knows t h i) : Knows (t ++ hired h c fh ph fc) c i := by
  have e0 : (t ++ hired h c fh ph fc)[t.size]? = some { g := h, fn := fh, pos := ph, act := .go c } := by simp [hired]
  have e1 : (t ++ hired h c fh ph fc)[t.size + 1]? = some { g := c, fn := fc, pos := ph, act := .start } := by simp [hired]
  have edge : HappensBefore (t ++ hired h c fh ph fc) t.size (t.size + 1) :=
    Relation.TransGen.single (.inr ⟨.spawn (act?_of e0) (act?_of e1) (g?_of e1), ⟨h, g?_of e0, by rw [deaf_old (Nat.le_refl _)]; exact hh⟩, ⟨c, g?_of e1, by rw [deaf_quiet (hired_quiet h c fh ph fc c) 1 (by simp [hired])]; exact hc⟩⟩)
  exact ⟨t.size + 1, _, e1, rfl, .inr ((k.hb_new (Nat.le_refl _) e0 rfl).trans edge)⟩

/-- The child is born: it holds; it knows all that goroutine 0 knew; goroutine 0 may go on reading still places. -/
theorem PastK.hire {S Still Q Q₀ : Loc → Prop} {o₀ j₀ B c : Nat} {t : Trace} (H : PastK S (fun _ => False) Q₀ j₀ o₀ B (Knows t 0) t) (hS : ∀ l, Still l → l.isMemory = true ∧ ¬ S l) (hQ : ∀ l, Q l → l.isMemory = true) (hh : Deaf t 0 = 0) (hc : Deaf t c = 0) (fh : FuncId) (ph : String) (fc : FuncId) :
    PastK S Still Q c 0 B (Knows (t ++ hired 0 c fh ph fc) c) (t ++ hired 0 c fh ph fc) := by
  have hn := hired_mute 0 c fh ph fc
  have kn : ∀ {i}, Knows t 0 i → Knows (t ++ hired 0 c fh ph fc) c i := fun k => knows_hired hh hc fh ph fc k
  refine ⟨fun said => noRace_appendMute (H.clean said) hn, fun i a ha hm => ?_, fun i a ha hw hst => ?_, fun i a ha hq => ?_, seen_app H.seen (hired_low _ _ _ _ _ B)⟩
  · obtain ⟨x, hx, hxa⟩ := touch_of ha
    rcases getElem?_append_cases hx with ⟨hi, hx'⟩ | ⟨_, hxu⟩
    · rcases H.known i a (by rw [touchAt_of hx']; exact hxa) hm with y | ⟨y, z, v⟩ | ⟨_, _, v⟩
      · exact .inl (kn y)
      · exact .inr (.inl ⟨y, z, fun c => v ((counts_old hi).1 c)⟩)
      · exact v.elim
    · rw [hn x hxu] at hxa; cases hxa
  · obtain ⟨x, hx, hxa⟩ := touch_of ha
    rcases getElem?_append_cases hx with ⟨hi, hx'⟩ | ⟨_, hxu⟩
    · rcases H.known i a (by rw [touchAt_of hx']; exact hxa) (hS _ hst).1 with y | ⟨y, _⟩ | ⟨_, _, v⟩
      · exact y.app _
      · exact absurd y (hS _ hst).2
      · exact v.elim
    · rw [hn x hxu] at hxa; cases hxa
  · obtain ⟨x, hx, hxa⟩ := touch_of ha
    rcases getElem?_append_cases hx with ⟨hi, hx'⟩ | ⟨_, hxu⟩
    · rcases H.known i a (by rw [touchAt_of hx']; exact hxa) (hQ _ hq) with y | ⟨_, y, _⟩ | ⟨_, _, v⟩
      · exact .inr (kn y)
      · exact .inl (by rw [y]; exact fun e => by cases e)
      · exact v.elim
    · rw [hn x hxu] at hxa; cases hxa
end
end Go.Qw
-- On its way to a communication: silent steps (draws allowed).
namespace Go.Qw
open Go Go.Conc

section
variable (P : Program) (main : Bool) (K : World → Prop) (Still : Loc → Prop) (B : Nat) (s : Seat)

/-- Within n silent steps it stands at its seat. -/
def Way : Nat → Goroutine → Prop
  | 0, g => ∃ g₂, AtIn P main K Still B s g g₂
  | n + 1, g => (∃ g₂, AtIn P main K Still B s g g₂) ∨ (g.status = .running ∧ ∀ w, K w → (stepG P main g w).goes fun g' w' es => AtRel w w' ∧ (∀ e ∈ es, EvC Still B e) ∧ Way n g')

/-- On its way, or parked there (0). -/
def Heads (n : Nat) (g : Goroutine) : Prop :=
  (∃ k, n = k + 1 ∧ Way P main K Still B s k g) ∨ (n = 0 ∧ ∃ g₀ g₂, g = parked g₂ s.cases s.shape ∧ AtIn P main K Still B s g₀ g₂)
end

section
variable {P : Program} {main : Bool} {K : World → Prop} {Still : Loc → Prop} {B : Nat} {s : Seat}

theorem Way.running : ∀ {n : Nat} {g : Goroutine}, Way P main K Still B s n g → g.status = .running
  | 0, _, ⟨_, h⟩ => h.1
  | _ + 1, _, h => h.elim (fun ⟨_, x⟩ => x.1) (fun x => x.1)

theorem Way.mono : ∀ {n m : Nat} {g : Goroutine}, n ≤ m → Way P main K Still B s n g → Way P main K Still B s m g
  | 0, 0, _, _, h => h
  | 0, _ + 1, _, _, h => .inl h
  | _ + 1, 0, _, hn, _ => absurd hn (by omega)
  | n + 1, m + 1, g, hn, h => by
    refine h.imp id fun ⟨hr, x⟩ => ⟨hr, fun w hw => ?_⟩
    have := x w hw
    cases hg : stepG P main g w <;> rw [hg] at this <;> first | exact this.elim | skip
    exact ⟨this.1, this.2.1, Way.mono (by omega) this.2.2⟩

theorem Heads.status {n : Nat} {g : Goroutine} (h : Heads P main K Still B s n g) : (g.status = .running ∧ 0 < n) ∨ (g.status = .blocked ∧ n = 0) := by
  rcases h with ⟨k, rfl, hg⟩ | ⟨rfl, _, g₂, rfl, _⟩
  · exact .inl ⟨hg.running, by omega⟩
  · exact .inr ⟨rfl, rfl⟩

/-- Whoever is on its way, and is picked: it stands at its communication, or takes a silent step. -/
theorem Heads.pick {n : Nat} {y : Goroutine} {w : World} (h : Heads P main K Still B s n y) (hr : y.status = .running) (hK : K w) :
    (∃ g₂ es k, n = k + 1 ∧ AtIn P main K Still B s y g₂ ∧ (∀ e ∈ es, EvC Still B e) ∧ stepG P main y w = .comm g₂ s.cases true s.shape w es) ∨
      ∃ n' y' d es, n' < n ∧ 0 < n' ∧ (∀ e ∈ es, EvC Still B e) ∧ stepG P main y w = .go y' (w.at d) es ∧ Heads P main K Still B s n' y' := by
  rcases h with ⟨k, rfl, hg⟩ | ⟨rfl, _, g₂, rfl, _⟩
  · have stop : (∃ g₂, AtIn P main K Still B s y g₂) → ∃ g₂ es k', k + 1 = k' + 1 ∧ AtIn P main K Still B s y g₂ ∧ (∀ e ∈ es, EvC Still B e) ∧ stepG P main y w = .comm g₂ s.cases true s.shape w es := by
      rintro ⟨g₂, ha⟩
      obtain ⟨_, _, _, _, _, es, hes, hst⟩ := id ha
      exact ⟨g₂, es, k, rfl, ha, hes, hst w hK⟩
    cases k with
    | zero => exact .inl (stop hg)
    | succ k =>
      rcases hg with x | ⟨_, hstep⟩
      · exact .inl (stop x)
      · right
        have := hstep w hK
        cases hgo : stepG P main y w <;> rw [hgo] at this <;> first | exact this.elim | skip
        rename_i y' w' es
        obtain ⟨⟨d, rfl⟩, hes, hg'⟩ := this
        exact ⟨k + 1, y', d, es, by omega, by omega, hes, rfl, .inl ⟨k, rfl, hg'⟩⟩
  · cases hr
end
end Go.Qw
