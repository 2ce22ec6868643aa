/- The law Beats of queuewire returns true for every three integers: the row over the given program, tied to its text; no condition besides. (Part 14 of 40: QwDuo QwMeet.) -/
import Derived.Test.YtpiabknabfbfhaaGreatDoorBeats13
set_option linter.all false
-- Two goroutines that talk: one holds the token and steps as it will within its part of the heap, the other is on its way to a communication.
namespace Go.Qw
open Go Go.Conc
open Go.ConcN (sumTo upd sumTo_upd upd_ne upd_same)

/-- What is fixed while they talk: the worker's number; the channels; what is leaned on (K) and of which blocks; still places, places of the group. -/
structure Duo (P : Program) where
  W : World
  j : Nat
  chans : Nat → Prop
  K : World → Prop
  KW : World → Prop
  HK : Nat → Prop
  S : Loc → Prop
  Still : Loc → Prop
  Q : Loc → Prop
  B : Nat
  hj : 0 < j
  hKW : ∀ w, K w → KW w
  hKat : ∀ w d, K w → K (w.at d)
  hKset : ∀ w c k, chans c → K w → K (w.setChan c 0 #[] false k k false)
  cell : ∀ l, S l ∨ Still l ∨ Q l → ∃ a : Addr, l = .cell a
  apart : ∀ l, Still l → ¬ S l ∧ ¬ Q l

section
variable {P : Program} (D : Duo P)

def Duo.Hid (b : Nat) : Prop := D.HK b ∨ D.chans b ∨ ∃ a : Addr, a.block = b ∧ (D.S (.cell a) ∨ D.Q (.cell a))

/-- What is leaned on is of hidden blocks alone; so are the still places. -/
structure Duo.Deep : Prop where
  k : ∀ w w', (∀ b, D.HK b → w'.heap[b]? = w.heap[b]?) → D.K w → D.K w'
  still : ∀ a : Addr, D.Still (.cell a) → D.HK a.block

def Open (c : Nat) (w : World) : Prop := ∃ k, w.heap[c]? = some (.chan 0 #[] false k k false)

/-- It says neither 'disable' nor 'enable', and no plain 'release'. -/
def Calm (e : Event) : Prop := (e.loc ≠ .mark .disable ∧ e.loc ≠ .mark .enable) ∧ ∀ a, e.loc ≠ .mark (.release a)

/-- What is held of the machine but for the two. -/
structure Duo.Base (gs : Array Goroutine) (w : World) (T : Trace) (q : Nat → Nat) : Prop where
  jlt : D.j < gs.size
  crew : ∀ i g, 0 < i → i ≠ D.j → gs[i]? = some g → QuitsD P (q i) (Deaf T i) g
  above : ∀ i, gs.size ≤ i → Deaf T i = 0
  d0 : Deaf T 0 = 0
  dj : Deaf T D.j = 0
  k : D.K w
  chans : ∀ c, D.chans c → Open c w
  bnd : D.B ≤ w.heap.size
  firm : Firm D.W w
  nr : NoRel D.Q T

/-- One of the two. -/
def Duo.Of (p : Nat) : Prop := p = 0 ∨ p = D.j
def Duo.Two (h x : Nat) : Prop := (h = 0 ∧ x = D.j) ∨ (h = D.j ∧ x = 0)
end

section
variable {P : Program} {D : Duo P} {gs : Array Goroutine} {w w' : World} {T : Trace} {q : Nat → Nat}

theorem Duo.Two.symm {h x : Nat} (t : D.Two h x) : D.Two x h := t.elim (fun ⟨a, b⟩ => .inr ⟨b, a⟩) (fun ⟨a, b⟩ => .inl ⟨b, a⟩)
theorem Duo.Two.ne {h x : Nat} (t : D.Two h x) : h ≠ x := by have := D.hj; rcases t with ⟨rfl, rfl⟩ | ⟨rfl, rfl⟩ <;> omega
theorem Duo.Two.left {h x : Nat} (t : D.Two h x) : D.Of h := t.elim (fun a => .inl a.1) (fun a => .inr a.1)
theorem Duo.Two.right {h x : Nat} (t : D.Two h x) : D.Of x := t.symm.left
theorem Duo.Two.else_ {h x i : Nat} (t : D.Two h x) (h1 : i ≠ h) (h2 : i ≠ x) : 0 < i ∧ i ≠ D.j := by
  rcases t with ⟨rfl, rfl⟩ | ⟨rfl, rfl⟩
  · exact ⟨by omega, h2⟩
  · exact ⟨by omega, h1⟩

theorem Duo.Base.at (b : D.Base gs w T q) (d : Nat) : D.Base gs (w.at d) T q :=
  ⟨b.jlt, b.crew, b.above, b.d0, b.dj, D.hKat w d b.k, b.chans, b.bnd, b.firm.at d, b.nr⟩

theorem Duo.Base.deaf (b : D.Base gs w T q) {p : Nat} (hp : D.Of p) : Deaf T p = 0 := hp.elim (fun e => e ▸ b.d0) (fun e => e ▸ b.dj)

theorem Duo.Base.lt (b : D.Base gs w T q) {p : Nat} (hp : D.Of p) : p < gs.size := by have := b.jlt; rcases hp with rfl | rfl <;> omega

/-- The records after a step of number i. -/
abbrev moved (P : Program) (gs : Array Goroutine) (i : Nat) (g g' : Goroutine) (w' : World) : Array Goroutine := (gs.map (woken P g g' w')).setIfInBounds i g'

theorem moved_size (i : Nat) (g g' : Goroutine) : (moved P gs i g g' w').size = gs.size := by simp
theorem moved_self {i : Nat} (h : i < gs.size) (g g' : Goroutine) : (moved P gs i g g' w')[i]? = some g' := Array.getElem?_setIfInBounds_self_of_lt (by simpa using h)
theorem moved_other {i k : Nat} (h : k ≠ i) {y : Goroutine} (hy : gs[k]? = some y) (ha : y.again w' = y) (g g' : Goroutine) : (moved P gs i g g' w')[k]? = some y := by
  rw [Array.getElem?_setIfInBounds_ne (fun e => h e.symm), Array.getElem?_map, hy]
  simp [woken_of_again ha]
theorem moved_old {i k : Nat} (h : k ≠ i) {x g g' : Goroutine} (hx : (moved P gs i g g' w')[k]? = some x) : ∃ z, gs[k]? = some z ∧ x = woken P g g' w' z := by
  rw [Array.getElem?_setIfInBounds_ne (fun e => h e.symm), Array.getElem?_map] at hx
  obtain ⟨z, hz, rfl⟩ := Option.map_eq_some_iff.1 hx
  exact ⟨z, hz, rfl⟩

/-- A step of one of the two. -/
theorem Duo.Base.step (b : D.Base gs w T q) {p : Nat} (hp : D.Of p) {g g' : Goroutine} {fn : FuncId} {pos : String} {es : Array Event}
    (hk : D.K w') (hc : ∀ c, D.chans c → Open c w') (hs : w.heap.size ≤ w'.heap.size) (hf : Firm D.W w') (he : ∀ e ∈ es, Calm e) :
    D.Base (moved P gs p g g' w') w' (T ++ MemOp.ofEvents p fn pos es) q := by
  have hd : ∀ i, Deaf (T ++ MemOp.ofEvents p fn pos es) i = Deaf T i := by
    intro i
    by_cases e : i = p
    · subst e; rw [Deaf_own]; exact deafBehind_still (fun e h => (he e h).1) _
    · exact Deaf_other T (fun x => e x.symm) _ (fun op hop => by obtain ⟨e, _, rfl⟩ := Conc.mem_ofEvents hop; rfl)
  refine ⟨by rw [moved_size]; exact b.jlt, fun i x h1 h2 hx => ?_, fun i hi => ?_, (hd 0).trans b.d0, (hd _).trans b.dj, hk, hc, Nat.le_trans b.bnd hs, hf, b.nr.events fun e h => norel_event (he e h).2⟩
  · have hne : i ≠ p := by rcases hp with rfl | rfl <;> omega
    obtain ⟨z, hz, rfl⟩ := moved_old hne hx
    have hq := b.crew i z h1 h2 hz
    rw [woken_quitsD hq, hd]; exact hq
  · rw [moved_size] at hi; rw [hd]; exact b.above i hi

/-- A leaver slips. -/
theorem Duo.Base.leave (b : D.Base gs w T q) {i : Nat} (h1 : 0 < i) (h2 : i ≠ D.j) {g : Goroutine} (hg : gs[i]? = some g) (hr : g.status = .running) (d : Nat) (sl' : Option (Nat × Nat)) :
    ∃ g' es q', runT P (crowd gs (w.at d) sl') i = (.next (crowd (moved P gs i g g' (w.at d)) (w.at d) sl'), MemOp.ofEvents i g.frame.fn g.frame.place es) ∧ (∀ e ∈ es, e.mute = true) ∧
      sumTo gs.size q' < sumTo gs.size q ∧ D.Base (moved P gs i g g' (w.at d)) (w.at d) (T ++ MemOp.ofEvents i g.frame.fn g.frame.place es) q' := by
  have hq := b.crew i g h1 h2 hg
  have hi0 : (i == 0) = false := by simp; omega
  have hlt : i < gs.size := (Array.getElem?_eq_some_iff.1 hg).1
  cases hqi : q i with
  | zero => rw [hqi] at hq; rw [hq.1] at hr; cases hr
  | succ k =>
    rw [hqi] at hq
    rcases hq with ⟨hf, _⟩ | ⟨_, g', es, hm, hstp, hq'⟩
    · rw [hf] at hr; cases hr
    have hrunT := runT_crowd_go (P := P) (sl := sl') (i := i) hg (by rw [hi0]; exact hstp (w.at d))
    have hsum : sumTo gs.size (upd q i k) + (k + 1) = sumTo gs.size q + k := by
      have := sumTo_upd q k id hlt
      simpa [hqi] using this
    have hdo : ∀ k, k ≠ i → Deaf (T ++ MemOp.ofEvents i g.frame.fn g.frame.place es) k = Deaf T k := fun k e =>
      Deaf_other T (fun x => e x.symm) _ (fun op hop => by obtain ⟨e, _, rfl⟩ := Conc.mem_ofEvents hop; rfl)
    refine ⟨g', es, upd q i k, hrunT, hm, by omega, by rw [moved_size]; exact b.jlt, fun c x c1 c2 hx => ?_, fun c hc => ?_, (hdo 0 (by omega)).trans b.d0, (hdo _ (fun e => h2 e.symm)).trans b.dj, (b.at d).k, b.chans, b.bnd, b.firm.at d, b.nr.events fun e he => norel_mute (hm e he)⟩
    · by_cases e : c = i
      · subst e
        rw [moved_self hlt] at hx
        obtain rfl := Option.some.inj hx
        rw [upd_same, Deaf_own]; exact hq'
      · obtain ⟨z, hz, rfl⟩ := moved_old e hx
        have hqc := b.crew c z c1 c2 hz
        rw [woken_quitsD hqc, upd_ne q k e, hdo c e]; exact hqc
    · rw [moved_size] at hc
      rw [hdo c (by omega)]; exact b.above c hc

theorem Duo.Base.awake (b : D.Base gs w T q) {h x : Nat} (t : D.Two h x) {g y : Goroutine} (hg : gs[h]? = some g) (hy : gs[x]? = some y)
    (hgs : g.status = .running ∨ g.status = .blocked ∨ g.status = .finished) (hys : y.status = .running ∨ y.status = .blocked ∨ y.status = .finished) : ∀ z ∈ gs, awake z := by
  intro z hz
  obtain ⟨i, hi, rfl⟩ := Array.mem_iff_getElem.1 hz
  by_cases e : i = h
  · subst e
    have : gs[i] = g := by simpa [Array.getElem?_eq_getElem hi] using hg
    rw [this]; exact awake_of hgs
  · by_cases e' : i = x
    · subst e'
      have : gs[i] = y := by simpa [Array.getElem?_eq_getElem hi] using hy
      rw [this]; exact awake_of hys
    · obtain ⟨h1, h2⟩ := t.else_ e e'
      exact awake_of ((b.crew i _ h1 h2 (Array.getElem?_eq_getElem hi)).status.elim .inl fun x => .inr (.inr x))
end

/-! ### the one on its way -/
section
variable {P : Program} {D : Duo P}

/-- All cases are of channels of the talk. -/
def Duo.Fits (D : Duo P) (s : Seat) : Prop := ∀ cc ∈ s.cases, ∃ c, D.chans c ∧ cc.chan = .chan (some c)

theorem again_open {g : Goroutine} {w : World} {cs : Array CommCase} {sh : CommShape} (h : ∀ cc ∈ cs, ∃ c, cc.chan = .chan (some c) ∧ Open c w) : (parked g cs sh).again w = parked g cs sh := by
  simp [Goroutine.again, parked]
  intro x hx
  obtain ⟨c, hc, k, hk⟩ := h cs[x] (Array.getElem_mem hx)
  rw [hc]
  simp [hk]

theorem Heads.stays {main : Bool} {s : Seat} {n : Nat} {g : Goroutine} {w : World} (hc : ∀ c, D.chans c → Open c w) (hs : D.Fits s) (h : Heads P main D.KW D.Still D.B s n g) : g.again w = g := by
  rcases h with ⟨k, rfl, hg⟩ | ⟨rfl, _, g₂, rfl, _⟩
  · exact again_of_running (.inl hg.running) w
  · exact again_open fun cc hcc => by obtain ⟨c, h1, h2⟩ := hs cc hcc; exact ⟨c, h2, hc c h1⟩

/-- The machine in which h holds the token and x is on its way to its seat. -/
def Duo.St (D : Duo P) (h x : Nat) (s : Seat) (g : Goroutine) (σ : Hp) (m : Machine) (T : Trace) : Prop :=
  ∃ gs w sl q J n y, m = crowd gs w sl ∧ gs[h]? = some g ∧ gs[x]? = some y ∧ Heads P (x == 0) D.KW D.Still D.B s n y ∧ D.Base gs w T q ∧ PastK D.S D.Still D.Q D.j x w.heap.size (Knows T h) T ∧ Sees J w σ ∧ (∀ b, D.Hid b → J b)

/-- What the holder's step may list. -/
def Duo.EvH (D : Duo P) (n : Nat) (e : Event) : Prop :=
  (∀ b, (MemAct.ofEvent e).touch? = some b → (D.S b.loc → b.kind ≠ .plain) ∧ (D.Still b.loc → b.write = false) ∧ (D.Q b.loc → b.kind ≠ .plain)) ∧ Calm e ∧ (MemAct.ofEvent e).low n

theorem evH_of_evV (hD : D.Deep) {J : Nat → Prop} {n : Nat} {e : Event} (hJ : ∀ b, D.Hid b → J b) (h : EvV J n e) : D.EvH n e := by
  have key : ∀ {l : Loc}, (∀ a : Addr, l = .cell a → ¬ J a.block) → ¬ (D.S l ∨ D.Still l ∨ D.Q l) := by
    intro l hl hs
    obtain ⟨a, rfl⟩ := D.cell l hs
    refine hl a rfl (hJ _ ?_)
    rcases hs with hs | hs | hs
    · exact .inr (.inr ⟨a, rfl, .inl hs⟩)
    · exact .inl (hD.still a hs)
    · exact .inr (.inr ⟨a, rfl, .inr hs⟩)
  have triv : ∀ {l : Loc} {b : Touch}, b.loc = l → (∀ a : Addr, l = .cell a → ¬ J a.block) → (D.S b.loc → b.kind ≠ .plain) ∧ (D.Still b.loc → b.write = false) ∧ (D.Q b.loc → b.kind ≠ .plain) := by
    intro l b hb hl
    have := key hl
    rw [← hb] at this
    exact ⟨fun x => absurd (.inl x) this, fun x => absurd (.inr (.inl x)) this, fun x => absurd (.inr (.inr x)) this⟩
  obtain ⟨loc, wr, sy⟩ := e
  unfold EvV at h
  cases loc with
  | cell a =>
    obtain ⟨h1, h2⟩ : ¬ J a.block ∧ a.block < n := h
    refine ⟨fun b hb => triv (l := .cell a) ?_ (fun a' e => by cases e; exact h1), ⟨⟨by simp, by simp⟩, by simp⟩, by cases sy <;> cases wr <;> exact h2⟩
    cases sy <;> cases wr <;> simp [MemAct.ofEvent, MemAct.touch?] at hb <;> subst hb <;> rfl
  | obj r =>
    obtain ⟨h1, h2⟩ : ¬ J r ∧ r < n := h
    refine ⟨fun b hb => triv (l := .obj r) ?_ (fun a' e => by cases e), ⟨⟨by simp, by simp⟩, by simp⟩, by cases sy <;> cases wr <;> exact h2⟩
    cases sy <;> cases wr <;> simp [MemAct.ofEvent, MemAct.touch?] at hb <;> subst hb <;> rfl
  | output => exact h.elim
  | goroutines => exact h.elim
  | mark m =>
    have h : okMark m = true := h
    cases m <;> first | cases h | skip
    · exact ⟨fun x hx => by simp [MemAct.ofEvent, MemAct.touch?] at hx, ⟨⟨by simp, by simp⟩, by simp⟩, trivial⟩
    · exact ⟨fun x hx => by simp [MemAct.ofEvent, MemAct.touch?] at hx, ⟨⟨by simp, by simp⟩, by simp⟩, trivial⟩

/-- A step of the holder's in such a machine. -/
def Duo.GoOk (D : Duo P) (main : Bool) (g : Goroutine) (σ : Hp) (X : Goroutine → Hp → Prop) : Prop :=
  ∀ J w, Sees J w σ → (∀ b, D.Hid b → J b) → D.K w → (∀ c, D.chans c → Open c w) → Firm D.W w → (stepG P main g w).goes fun g' w' es =>
    ∃ σ' J', Sees J' w' σ' ∧ (∀ b, D.Hid b → J' b) ∧ D.K w' ∧ (∀ c, D.chans c → Open c w') ∧ Firm D.W w' ∧ w.heap.size ≤ w'.heap.size ∧ (∀ e ∈ es, D.EvH w'.heap.size e) ∧ g'.status = .running ∧ X g' σ'

theorem StepOk.goOk (hD : D.Deep) {main : Bool} {g : Goroutine} {σ : Hp} {X : Goroutine → Hp → Prop} (h : StepOk P main g σ X) : D.GoOk main g σ X := by
  intro J w hs hJ hK hc hf
  have := h J w hs
  cases hg : stepG P main g w <;> rw [hg] at this <;> first | exact this.elim | skip
  obtain ⟨σ', h1, h2, h3, h4, h5⟩ := this
  exact ⟨σ', J, h1, hJ, hD.k w _ (fun b hb => h2.hidden b (hJ b (.inl hb))) hK, fun c hcc => by obtain ⟨k, hk⟩ := hc c hcc; exact ⟨k, by rw [h2.hidden c (hJ c (.inr (.inl hcc)))]; exact hk⟩, hf.kept h2, h2.grows, fun e he => evH_of_evV hD hJ (h3 e he), h4, h5⟩

/-- Nobody offers anything at a channel but those of whom it is said. -/
theorem nobody {gs : Array Goroutine} {w : World} {T : Trace} {q : Nat → Nat} (hb : D.Base gs w T q) {h x : Nat} (t : D.Two h x) {g : Goroutine} (hg : gs[h]? = some g) {c : Nat} {b : Bool} (ho : offersAt g c b = []) : partners (gs.setIfInBounds x ph) c b = [] := by
  refine partners_nil fun j z hz => ?_
  rcases getElem?_stand gs x j z hz with ⟨_, rfl⟩ | ⟨h1, h2⟩
  · exact offersAt_ph c b
  · by_cases e : j = h
    · subst e; rw [hg] at h2; rw [← Option.some.inj h2]; exact ho
    · obtain ⟨i1, i2⟩ := t.else_ e h1
      refine offersAt_of_not_blocked (fun hbl => ?_) c b
      have := (hb.crew j z i1 i2 h2).status
      rcases this with y | y <;> rw [hbl] at y <;> cases y
theorem somebody {gs : Array Goroutine} {w : World} {T : Trace} {q : Nat → Nat} (hb : D.Base gs w T q) {h x : Nat} (t : D.Two h x) {g : Goroutine} (hg : gs[h]? = some g) {c : Nat} {b : Bool} : partners (gs.setIfInBounds x ph) c b = (offersAt g c b).map fun k => (h, k) := by
  refine partners_one (stand_get t.ne hg) fun j z hj hz => ?_
  rcases getElem?_stand gs x j z hz with ⟨_, rfl⟩ | ⟨h1, h2⟩
  · exact offersAt_ph c b
  · obtain ⟨i1, i2⟩ := t.else_ hj h1
    refine offersAt_of_not_blocked (fun hbl => ?_) c b
    have := (hb.crew j z i1 i2 h2).status
    rcases this with y | y <;> rw [hbl] at y <;> cases y

/-- A case that is a receive or a send on a channel of the talk, at which nobody offers the other thing, has no way. -/
theorem noWays_of {gs : Array Goroutine} {w : World} {cc : CommCase} {c : Nat} (hch : cc.chan = .chan (some c)) (ho : Open c w) (hp : partners gs c (cc.send.isNone) = []) : NoWays w gs cc := by
  obtain ⟨ch, sd, z⟩ := cc
  obtain ⟨k, hk⟩ := ho
  cases hch
  cases sd with
  | none => exact ways_recv_none (z := z) hk hp
  | some v => exact ways_send_none (z := z) hk (by simp) hp

theorem evC_calm {Still : Loc → Prop} {B : Nat} {es : Array Event} (h : ∀ e ∈ es, EvC Still B e) : ∀ e ∈ es, Calm e := fun e he => by
  obtain ⟨a, rfl, _, _⟩ := h e he
  exact ⟨⟨by simp, by simp⟩, by simp⟩
theorem evC_quiet {Still : Loc → Prop} {B : Nat} {es : Array Event} (h : ∀ e ∈ es, EvC Still B e) : ∀ e ∈ es, e.loc ≠ .mark .disable ∧ e.loc ≠ .mark .enable := fun e he => (evC_calm h e he).1

theorem Duo.Base.set {gs : Array Goroutine} {w : World} {T : Trace} {q : Nat → Nat} (b : D.Base gs w T q) {p : Nat} (hp : D.Of p) (y : Goroutine) {fn : FuncId} {pos : String} {es : Array Event} (he : ∀ e ∈ es, Calm e) : D.Base (gs.setIfInBounds p y) w (T ++ MemOp.ofEvents p fn pos es) q := by
  have hd : ∀ i, Deaf (T ++ MemOp.ofEvents p fn pos es) i = Deaf T i := by
    intro i
    by_cases e : i = p
    · subst e; rw [Deaf_own]; exact deafBehind_still (fun e h => (he e h).1) _
    · exact Deaf_other T (fun x => e x.symm) _ (fun op hop => by obtain ⟨e, _, rfl⟩ := Conc.mem_ofEvents hop; rfl)
  refine ⟨by simpa using b.jlt, fun i x h1 h2 hx => ?_, fun i hi => ?_, (hd 0).trans b.d0, (hd _).trans b.dj, b.k, b.chans, b.bnd, b.firm, b.nr.events fun e h => norel_event (he e h).2⟩
  · have hne : i ≠ p := by rcases hp with rfl | rfl <;> omega
    rw [Array.getElem?_setIfInBounds_ne (fun e => hne e.symm)] at hx
    rw [hd]; exact b.crew i x h1 h2 hx
  · rw [hd]; exact b.above i (by simpa using hi)

/-- Who is on its way takes its step, where the other offers nothing: it goes on, or is parked. -/
theorem Duo.other (D : Duo P) {h x : Nat} (t : D.Two h x) {s : Seat} (hs : D.Fits s) {gs : Array Goroutine} {w : World} {T : Trace} {q : Nat → Nat} {sl : Option (Nat × Nat)} {n : Nat} {g y : Goroutine} (hb : D.Base gs w T q)
    (hg : gs[h]? = some g) (hga : ∀ d, g.again (w.at d) = g) (hgo : ∀ c b, offersAt g c b = []) (hy : gs[x]? = some y) (hr : y.status = .running) (hsit : Heads P (x == 0) D.KW D.Still D.B s n y) :
    ∃ gs' y' n' d es, runT P (crowd gs w sl) x = (.next (crowd gs' (w.at d) sl), MemOp.ofEvents x y.frame.fn y.frame.place es) ∧ n' < n ∧ gs'.size = gs.size ∧ gs'[h]? = some g ∧ gs'[x]? = some y' ∧ Heads P (x == 0) D.KW D.Still D.B s n' y' ∧
      D.Base gs' (w.at d) (T ++ MemOp.ofEvents x y.frame.fn y.frame.place es) q ∧ ∀ e ∈ es, EvC D.Still D.B e := by
  rcases Heads.pick hsit hr (D.hKW _ hb.k) with ⟨g₂, es, k, rfl, hat, hes, hst⟩ | ⟨n', y', d, es, hlt, _, hes, hst, hsit'⟩
  · have hw : ∀ cc ∈ s.cases, NoWays w (gs.setIfInBounds x ph) cc := fun cc hcc => by
      obtain ⟨c, h1, h2⟩ := hs cc hcc
      exact noWays_of h2 (hb.chans c h1) (nobody hb t hg (hgo _ _))
    exact ⟨_, parked g₂ s.cases s.shape, 0, w.drawn, es, crowd_waits hy hst hw, by omega, by simp, by rw [Array.getElem?_setIfInBounds_ne t.ne.symm]; exact hg,
      Array.getElem?_setIfInBounds_self_of_lt (hb.lt t.right), .inr ⟨rfl, y, g₂, rfl, hat⟩, hb.set t.right _ (evC_calm hes), hes⟩
  · exact ⟨_, y', n', d, es, runT_crowd_go hy hst, hlt, by simp, moved_other t.ne hg (hga d) _ _, moved_self (hb.lt t.right) _ _, hsit', (hb.at d).step t.right (hb.at d).k hb.chans (Nat.le_refl _) (hb.firm.at d) (evC_calm hes), hes⟩

/-- What it lists there. -/
theorem PastK.other {S Still Q : Loc → Prop} {jw x B n : Nat} {K : Nat → Prop} {K' : Nat → Prop} {T : Trace} {fn : FuncId} {pos : String} {es : Array Event} (H : PastK S Still Q jw x n K T) (hK : ∀ i, K i → K' i) (hSQ : ∀ l, Still l → ¬ Q l) (hB : B ≤ n) (hes : ∀ e ∈ es, EvC Still B e) : PastK S Still Q jw x n K' (T ++ MemOp.ofEvents x fn pos es) := by
  obtain ⟨h1, h2, h3, _⟩ := evC_ops (i := x) (fn := fn) (pos := pos) hes
  exact H.appRead hK hSQ h1 h2 (fun op hop => MemAct.low_mono hB (h3 op hop))

theorem Duo.run (D : Duo P) {h x : Nat} (t : D.Two h x) {s : Seat} (hs : D.Fits s) {g : Goroutine} {σ : Hp} {m : Machine} {T : Trace} {X : Goroutine → Hp → Prop} (hSt : D.St h x s g σ m T) (hr : g.status = .running) (hX : D.GoOk (h == 0) g σ X) :
    ∃ N m' T' g' σ', runNT P N m T = (.next m', T') ∧ D.St h x s g' σ' m' T' ∧ g'.status = .running ∧ X g' σ' := by
  let Inv : Nat → Machine → Trace → Prop := fun μ m T => (∃ gs w sl q J n y, m = crowd gs w sl ∧ gs[h]? = some g ∧ gs[x]? = some y ∧ Heads P (x == 0) D.KW D.Still D.B s n y ∧ D.Base gs w T q ∧ PastK D.S D.Still D.Q D.j x w.heap.size (Knows T h) T ∧ Sees J w σ ∧ (∀ b, D.Hid b → J b) ∧ μ = n + sumTo gs.size q + 1) ∨
    ∃ g' σ', D.St h x s g' σ' m T ∧ g'.status = .running ∧ X g' σ'
  suffices step : ∀ μ m T, Inv μ m T → (∃ g' σ', D.St h x s g' σ' m T ∧ g'.status = .running ∧ X g' σ') ∨ ∃ m' ops μ', stepT P m = (.next m', ops) ∧ μ' < μ ∧ Inv μ' m' (T ++ ops) by
    obtain ⟨gs, w, sl, q, J, n, y, rfl, e1, e2, e3, e4, e5, e6, e7⟩ := hSt
    obtain ⟨N, m', T', hrun, g', σ', h1, h2, h3⟩ := runs_until step _ _ _ (.inl ⟨gs, w, sl, q, J, n, y, rfl, e1, e2, e3, e4, e5, e6, e7, rfl⟩)
    exact ⟨N, m', T', g', σ', hrun, h1, h2, h3⟩
  rintro μ m T (⟨gs, w, sl, q, J, n, y, rfl, hg, hy, hsit, hb, hp, hse, hJ, rfl⟩ | hdone)
  · right
    have hys := Heads.status hsit
    obtain ⟨i, z, d, sl', hi, hz, hst⟩ := crowd_pick (P := P) (w := w) (sl := sl) (hb.awake t hg hy (.inl hr) (hys.elim (fun a => .inl a.1) (fun a => .inr (.inl a.1)))) ⟨h, g, hg, hr⟩
    by_cases eh : i = h
    · -- the holder
      subst eh
      obtain rfl : z = g := by rw [hg] at hi; exact (Option.some.inj hi).symm
      have hgo := hX J (w.at d) (hse.at d) hJ (hb.at d).k hb.chans (hb.firm.at d)
      cases hstp : stepG P (i == 0) z (w.at d) <;> rw [hstp] at hgo <;> first | exact hgo.elim | skip
      rename_i g' w' es
      obtain ⟨σ', J', hse', hJ', hK', hc', hf', hsz, hev, hr', hx⟩ := hgo
      have hrunT := runT_crowd_go (P := P) (sl := sl') hi hstp
      refine ⟨_, _, 0, hst.trans hrunT, by omega, .inr ⟨g', σ', ⟨_, w', sl', q, J', n, y, rfl, moved_self (hb.lt t.left) _ _, ?_, hsit, (hb.at d).step t.left hK' hc' hsz hf' (fun e he => (hev e he).2.1), ?_, hse', hJ'⟩, hr', hx⟩⟩
      · exact moved_other t.ne.symm hy (Heads.stays hc' hs hsit) _ _
      · refine (hp.mono hsz).appH (fun op hop => by obtain ⟨e, _, rfl⟩ := Conc.mem_ofEvents hop; rfl) (fun op hop b hb => ?_) (fun op hop => ?_)
        · obtain ⟨e, he, rfl⟩ := Conc.mem_ofEvents hop; exact (hev e he).1 b hb
        · obtain ⟨e, he, rfl⟩ := Conc.mem_ofEvents hop; exact (hev e he).2.2
    · by_cases ex : i = x
      · -- the other, on its way
        subst ex
        obtain rfl : z = y := by rw [hy] at hi; exact (Option.some.inj hi).symm
        obtain ⟨gs', y', n', d', es, hrunT, hlt, hsz, hg', hy', hsit', hb', hes⟩ := D.other t hs (sl := sl') (hb.at d) hg (fun d => again_of_running (.inl hr) _) (fun c b => offersAt_of_not_blocked (by rw [hr]; simp) c b) hy hz hsit
        refine ⟨_, _, n' + sumTo gs.size q + 1, hst.trans hrunT, by omega, .inl ⟨gs', w.at d', sl', q, J, n', y', rfl, hg', hy', hsit', hb', ?_, hse.at d', hJ, by rw [hsz]⟩⟩
        exact hp.other (fun _ x => x.app _) (fun l hl => (D.apart l hl).2) hb.bnd hes
      · obtain ⟨i1, i2⟩ := t.else_ eh ex
        obtain ⟨g', es, q', hrunT, hm, hlt, hb'⟩ := hb.leave i1 i2 hi hz d sl'
        refine ⟨_, _, n + sumTo gs.size q' + 1, hst.trans hrunT, by omega, .inl ⟨_, w.at d, sl', q', J, n, y, rfl, moved_other (fun e => eh e.symm) hg (again_of_running (.inl hr) _) _ _, moved_other (fun e => ex e.symm) hy (Heads.stays hb.chans hs hsit) _ _, hsit, hb', ?_, hse.at d, hJ, by rw [moved_size]⟩⟩
        exact hp.appMute (fun _ x => x.app _) (fun op hop => by obtain ⟨e, he, rfl⟩ := Conc.mem_ofEvents hop; exact touch_mute (hm e he)) (fun op hop => by obtain ⟨e, he, rfl⟩ := Conc.mem_ofEvents hop; exact low_mute (hm e he) _)
  · exact .inl hdone
end
end Go.Qw
-- Two goroutines come to a channel, the one to send, the other to receive: they meet.
namespace Go.Qw
open Go Go.Conc
open Go.ConcN (sumTo upd sumTo_upd upd_ne upd_same)

section
variable {P : Program} {D : Duo P}

theorem Sees.setChan {J : Nat → Prop} {w : World} {σ : Hp} (h : Sees J w σ) {c : Nat} (hc : J c) (cap : Nat) (buf : Array Value) (cl : Bool) (s r : Nat) (tm : Bool) : Sees J (w.setChan c cap buf cl s r tm) σ := by
  refine ⟨fun {b o} hb => ?_, h.hid, fun b hj => by simpa [World.setChan] using h.low b hj⟩
  have : c ≠ b := fun e => h.notJ hb (e ▸ hc)
  rw [heap_setChan_ne w _ _ _ _ _ _ this]; exact h.heap hb

theorem met_norel (h j : Nat) (fh : FuncId) (ph : String) (fj : FuncId) (pj : String) (c k cap : Nat) : ∀ op ∈ met h j fh ph fj pj c k cap, ∀ a, op.act ≠ .mark (.release a) := by
  intro op hop a
  simp only [met, List.mem_toArray, List.mem_cons, List.not_mem_nil, or_false] at hop
  rcases hop with rfl | rfl | rfl | rfl <;> simp

theorem Firm.setChan {W w : World} (h : Firm W w) (c cap : Nat) (buf : Array Value) (cl : Bool) (s r : Nat) (tm : Bool) : Firm W (w.setChan c cap buf cl s r tm) := ⟨h.os, h.tape, h.output⟩

theorem Duo.Base.turned {gs gs' : Array Goroutine} {w : World} {T u : Trace} {q : Nat → Nat} (b : D.Base gs w T q) {c k k' : Nat} {cl : Bool} (hc : D.chans c) (hk : w.heap[c]? = some (.chan 0 #[] cl k k false)) (hs : gs'.size = gs.size) (ho : ∀ i, 0 < i → i ≠ D.j → gs'[i]? = gs[i]?)
    (hd : ∀ i, Deaf (T ++ u) i = Deaf T i) (hn : ∀ op ∈ u, ∀ a, op.act ≠ .mark (.release a)) : D.Base gs' (w.setChan c 0 #[] false k' k' false) (T ++ u) q := by
  refine ⟨by rw [hs]; exact b.jlt, fun i x h1 h2 hx => ?_, fun i hi => ?_, (hd 0).trans b.d0, (hd _).trans b.dj, ?_, fun c' hc' => ?_, by simpa [World.setChan] using b.bnd, b.firm.setChan _ _ _ _ _ _ _, b.nr.app hn⟩
  · rw [ho i h1 h2] at hx; rw [hd]; exact b.crew i x h1 h2 hx
  · rw [hs] at hi; rw [hd]; exact b.above i hi
  · exact D.hKset w c k' hc b.k
  · by_cases e : c = c'
    · subst e; exact ⟨k', heap_setChan_self w hk _ _ _ _ _ _⟩
    · obtain ⟨k0, h0⟩ := b.chans c' hc'
      exact ⟨k0, by rw [heap_setChan_ne w _ _ _ _ _ _ e]; exact h0⟩

/-- Behind the meeting: the sender a is served, the receiver b has the value. -/
def Duo.Met (D : Duo P) (a b h x : Nat) (sa sb : Seat) (c kk : Nat) (v : Value) (σ : Hp) (m : Machine) (T' : Trace) : Prop :=
  ∃ gs' w' sl' q' ga gb J' k fh ph fj pj T1, m = crowd gs' w' sl' ∧ gs'[a]? = some (Go.Conc.served ga undef) ∧ sa.home ga ∧ gs'[b]? = some (Go.Conc.served gb (commResult sb.cases sb.shape kk v true)) ∧ sb.home gb ∧ D.Base gs' w' T' q' ∧ Sees J' w' σ ∧ (∀ y, D.Hid y → J' y) ∧
    c < w'.heap.size ∧ T' = T1 ++ met a b fh ph fj pj c k 0 ∧ PastK D.S D.Still D.Q D.j x w'.heap.size (Knows T1 h) T1 ∧ Deaf T1 a = 0 ∧ Deaf T1 b = 0

theorem Duo.meet (D : Duo P) {a b : Nat} (t : D.Two a b) {sa sb : Seat} {c kk : Nat} {v zs z : Value} (hc : D.chans c) (hsa : sa.cases = #[scase c v zs]) (hsh : sa.shape = .send) (hfb : D.Fits sb) (hk : sb.cases[kk]? = some (rcase c z))
    (hu : ∀ (m : Nat) (cc : CommCase), m ≠ kk → sb.cases[m]? = some cc → cc.chan ≠ .chan (some c)) (hrv : ∀ cc ∈ sb.cases, cc.send = none) {h x : Nat} (t' : (h = a ∧ x = b) ∨ (h = b ∧ x = a))
    {gs : Array Goroutine} {w : World} {sl : Option (Nat × Nat)} {q : Nat → Nat} {J : Nat → Prop} {na nb : Nat} {ya yb : Goroutine} {σ : Hp} {T : Trace} (hya : gs[a]? = some ya) (hyb : gs[b]? = some yb) (hsita : Heads P (a == 0) D.KW D.Still D.B sa na ya) (hsitb : Heads P (b == 0) D.KW D.Still D.B sb nb yb)
    (hb : D.Base gs w T q) (hp : PastK D.S D.Still D.Q D.j x w.heap.size (Knows T h) T) (hse : Sees J w σ) (hJ : ∀ y, D.Hid y → J y) (hn : 0 < na ∨ 0 < nb) :
    ∃ N m' T', runNT P N (crowd gs w sl) T = (.next m', T') ∧ D.Met a b h x sa sb c kk v σ m' T' := by
  have hfa : D.Fits sa := by
    intro cc hcc
    rw [hsa] at hcc
    simp only [List.mem_toArray, List.mem_cons, List.not_mem_nil, or_false] at hcc
    subst hcc
    exact ⟨c, hc, rfl⟩
  let Inv : Nat → Machine → Trace → Prop := fun μ m T => (∃ gs w sl q J na nb ya yb, m = crowd gs w sl ∧ gs[a]? = some ya ∧ gs[b]? = some yb ∧ Heads P (a == 0) D.KW D.Still D.B sa na ya ∧ Heads P (b == 0) D.KW D.Still D.B sb nb yb ∧ D.Base gs w T q ∧
    PastK D.S D.Still D.Q D.j x w.heap.size (Knows T h) T ∧ Sees J w σ ∧ (∀ y, D.Hid y → J y) ∧ (0 < na ∨ 0 < nb) ∧ μ = na + nb + sumTo gs.size q + 1) ∨ D.Met a b h x sa sb c kk v σ m T
  suffices step : ∀ μ m T, Inv μ m T → D.Met a b h x sa sb c kk v σ m T ∨ ∃ m' ops μ', stepT P m = (.next m', ops) ∧ μ' < μ ∧ Inv μ' m' (T ++ ops) by
    exact runs_until step _ _ _ (.inl ⟨gs, w, sl, q, J, na, nb, ya, yb, rfl, hya, hyb, hsita, hsitb, hb, hp, hse, hJ, hn, rfl⟩)
  clear hn hJ hse hp hb hsitb hsita hyb hya T ya yb na nb J q sl w gs
  have hx : x = a ∨ x = b := t'.elim (fun e => .inr e.2) (fun e => .inl e.2)
  have hh : h = a ∨ h = b := t'.elim (fun e => .inl e.1) (fun e => .inr e.1)
  -- the trace, where one of the two takes a silent step
  have quiet : ∀ {p n : Nat} {T : Trace} {fn : FuncId} {pos : String} {es : Array Event}, (p = a ∨ p = b) → PastK D.S D.Still D.Q D.j x n (Knows T h) T → D.B ≤ n → (∀ e ∈ es, EvC D.Still D.B e) →
      PastK D.S D.Still D.Q D.j x n (Knows (T ++ MemOp.ofEvents p fn pos es) h) (T ++ MemOp.ofEvents p fn pos es) := by
    intro p n T fn pos es hp H hB hes
    by_cases e : p = x
    · subst e; exact H.other (fun _ z => z.app _) (fun l hl => (D.apart l hl).2) hB hes
    · have e' : p = h := by
        rcases t' with ⟨rfl, rfl⟩ | ⟨rfl, rfl⟩
        · exact hp.resolve_right e
        · exact hp.resolve_left e
      subst e'
      obtain ⟨h1, h2, h3, _⟩ := evC_ops (i := p) (fn := fn) (pos := pos) hes
      exact H.appH h1 (fun op hop b hb => by
        obtain ⟨b1, b2⟩ := h2 op hop b hb
        exact ⟨fun y => absurd y (D.apart _ b2).1, fun _ => b1, fun y => absurd y (D.apart _ b2).2⟩) (fun op hop => MemAct.low_mono hB (h3 op hop))
  rintro μ m T (⟨gs, w, sl, q, J, na, nb, ya, yb, rfl, hya, hyb, hsita, hsitb, hb, hp, hse, hJ, hn, rfl⟩ | hdone)
  case inr => exact .inl hdone
  right
  have hsa' := Heads.status hsita
  have hsb' := Heads.status hsitb
  have hrun : ∃ (i : Nat) (g : Goroutine), gs[i]? = some g ∧ g.status = .running := by
    rcases hn with hn | hn
    · exact ⟨a, ya, hya, hsa'.elim (·.1) (fun z => by omega)⟩
    · exact ⟨b, yb, hyb, hsb'.elim (·.1) (fun z => by omega)⟩
  obtain ⟨i, z', d, sl', hi, hz, hst⟩ := crowd_pick (P := P) (w := w) (sl := sl) (hb.awake t hya hyb (hsa'.elim (fun a => .inl a.1) (fun a => .inr (.inl a.1))) (hsb'.elim (fun a => .inl a.1) (fun a => .inr (.inl a.1)))) hrun
  have hbd := hb.at d
  by_cases ea : i = a
  · -- the sender
    subst ea
    obtain rfl : z' = ya := by rw [hya] at hi; exact (Option.some.inj hi).symm
    rcases hsb' with ⟨hrb, hnb⟩ | ⟨hbb, rfl⟩
    · -- the receiver is still on its way
      obtain ⟨gs', y', n', d', es, hrunT, hlt, hsz, hg', hy', hsit', hb', hes⟩ := D.other t.symm hfa (sl := sl') hbd hyb (fun d => again_of_running (.inl hrb) _) (fun c b => offersAt_of_not_blocked (by rw [hrb]; simp) c b) hya hz hsita
      exact ⟨_, _, n' + nb + sumTo gs.size q + 1, hst.trans hrunT, by omega, .inl ⟨gs', w.at d', sl', q, J, n', nb, y', yb, rfl, hy', hg', hsit', hsitb, hb', quiet (.inl rfl) hp hb.bnd hes, hse.at d', hJ, .inr hnb, by rw [hsz]⟩⟩
    · rcases Heads.pick hsita hz (D.hKW _ hbd.k) with ⟨g₂, es, k, rfl, hat, hes, hstp⟩ | ⟨n', y', d', es, hlt, hpos, hes, hstp, hsit'⟩
      · -- they meet
        obtain ⟨g₀, gb, rfl, hatb⟩ : ∃ g₀ gb, yb = parked gb sb.cases sb.shape ∧ AtIn P (b == 0) D.KW D.Still D.B sb g₀ gb := by
          rcases hsitb with ⟨k', h0, _⟩ | ⟨_, g₀, gb, e, h0⟩
          · omega
          · exact ⟨g₀, gb, e, h0⟩
        obtain ⟨kc, hkc⟩ := hbd.chans c hc
        rw [hsa, hsh] at hstp
        have hpart : partners (gs.setIfInBounds i ph) c false = [(b, kk)] := by
          rw [somebody hbd t.symm hyb, offersAt_parked_at hk hu]; rfl
        have hm := crowd_send_meets_sel (P := P) (sl := sl') hya hstp hkc t.ne.symm hyb hk hpart
        refine ⟨_, _, 0, hst.trans hm, by omega, .inr ⟨_, _, sl', q, g₂, gb, J, kc, g₂.frame.fn, g₂.frame.place, gb.frame.fn, gb.frame.place, T ++ MemOp.ofEvents i z'.frame.fn z'.frame.place es, rfl, ?_, hat.2.2.2.2.1, ?_, hatb.2.2.2.2.1, ?_, (hse.at d).setChan (hJ c (.inr (.inl hc))) _ _ _ _ _ _, hJ, ?_, by simp [met], ?_, ?_, ?_⟩⟩
        · rw [Array.getElem?_setIfInBounds_self_of_lt (by simpa using hb.lt t.left)]; rfl
        · rw [Array.getElem?_setIfInBounds_ne t.ne, Array.getElem?_setIfInBounds_self_of_lt (by simpa using hb.lt t.right)]; rfl
        · rw [← Array.append_assoc]
          refine Duo.Base.turned (hbd.set (p := i) t.left z' (evC_calm hes)) hc hkc (by simp) (fun j h1 h2 => ?_) (fun j => Deaf_met _ _ _ _ _ _ _ _) (met_norel _ _ _ _ _ _ _ _ _)
          have e1 : i ≠ j := by rcases t with ⟨rfl, rfl⟩ | ⟨rfl, rfl⟩ <;> omega
          have e2 : b ≠ j := by rcases t with ⟨rfl, rfl⟩ | ⟨rfl, rfl⟩ <;> omega
          simp [Array.getElem?_setIfInBounds_ne e1, Array.getElem?_setIfInBounds_ne e2]
        · simpa [World.setChan] using (Array.getElem?_eq_some_iff.1 hkc).1
        · have := quiet (fn := z'.frame.fn) (pos := z'.frame.place) (p := i) (.inl rfl) hp hb.bnd hes
          simp only [World.setChan, Array.size_setIfInBounds]; exact this
        · rw [Deaf_own, deafBehind_still (evC_quiet hes)]; exact hb.deaf t.left
        · rw [Deaf_other T t.ne.symm.symm _ (fun op hop => by obtain ⟨e, _, rfl⟩ := Conc.mem_ofEvents hop; rfl)]; exact hb.deaf t.right
      · refine ⟨_, _, n' + 0 + sumTo gs.size q + 1, hst.trans (runT_crowd_go hya hstp), by omega, .inl ⟨_, w.at d', sl', q, J, n', 0, y', yb, rfl, moved_self (hb.lt t.left) _ _, moved_other t.ne.symm hyb (Heads.stays (hb.at d').chans hfb hsitb) _ _, hsit', hsitb, (hb.at d').step t.left (hb.at d').k hb.chans (Nat.le_refl _) (hb.firm.at d') (evC_calm hes), quiet (.inl rfl) hp hb.bnd hes, hse.at d', hJ, ?_, by rw [moved_size]⟩⟩
        exact .inl hpos
  · by_cases eb : i = b
    · -- the receiver
      subst eb
      obtain rfl : z' = yb := by rw [hyb] at hi; exact (Option.some.inj hi).symm
      rcases hsa' with ⟨hra, hna⟩ | ⟨hba, rfl⟩
      · -- the sender is still on its way
        obtain ⟨gs', y', n', d', es, hrunT, hlt, hsz, hg', hy', hsit', hb', hes⟩ := D.other t hfb (sl := sl') hbd hya (fun d => again_of_running (.inl hra) _) (fun c b => offersAt_of_not_blocked (by rw [hra]; simp) c b) hyb hz hsitb
        exact ⟨_, _, na + n' + sumTo gs.size q + 1, hst.trans hrunT, by omega, .inl ⟨gs', w.at d', sl', q, J, na, n', ya, y', rfl, hg', hy', hsita, hsit', hb', quiet (.inr rfl) hp hb.bnd hes, hse.at d', hJ, .inl hna, by rw [hsz]⟩⟩
      · rcases Heads.pick hsitb hz (D.hKW _ hbd.k) with ⟨g₂, es, k, rfl, hat, hes, hstp⟩ | ⟨n', y', d', es, hlt, hpos, hes, hstp, hsit'⟩
        · -- they meet
          obtain ⟨g₀, ga, rfl, hata⟩ : ∃ g₀ ga, ya = parked ga sa.cases sa.shape ∧ AtIn P (a == 0) D.KW D.Still D.B sa g₀ ga := by
            rcases hsita with ⟨k', h0, _⟩ | ⟨_, g₀, ga, e, h0⟩
            · omega
            · exact ⟨g₀, ga, e, h0⟩
          rw [hsa, hsh] at hya
          obtain ⟨kc, hkc⟩ := hbd.chans c hc
          have hpart : partners (gs.setIfInBounds i ph) c true = [(a, 0)] := by
            rw [somebody hbd t hya, offersAt_parked_send]; simp
          have hno : ∀ (m : Nat) (c' : CommCase), m ≠ kk → sb.cases[m]? = some c' → NoWays (w.at d) (gs.setIfInBounds i ph) c' := by
            intro m c' hm hc'
            obtain ⟨r, hr1, hr2⟩ := hfb c' (Array.mem_of_getElem? hc')
            have hne : c ≠ r := fun e => hu m c' hm hc' (e ▸ hr2)
            refine noWays_of hr2 (hbd.chans r hr1) (nobody hbd t hya ?_)
            rw [hrv c' (Array.mem_of_getElem? hc')]
            show offersAt _ r true = []
            rw [offersAt_parked_send, if_neg hne]
          have hm := crowd_sel_recv_meets (P := P) (sl := sl') hyb hstp hk hno hkc t.ne hya hpart
          refine ⟨_, _, 0, hst.trans hm, by omega, .inr ⟨_, _, sl', q, ga, g₂, J, kc, ga.frame.fn, ga.frame.place, g₂.frame.fn, g₂.frame.place, T ++ MemOp.ofEvents i z'.frame.fn z'.frame.place es, rfl, ?_, hata.2.2.2.2.1, ?_, hat.2.2.2.2.1, ?_, (hse.at d).setChan (hJ c (.inr (.inl hc))) _ _ _ _ _ _, hJ, ?_, by simp [met], ?_, ?_, ?_⟩⟩
          · rw [Array.getElem?_setIfInBounds_ne t.ne.symm, Array.getElem?_setIfInBounds_self_of_lt (by simpa using hb.lt t.left)]; rfl
          · rw [Array.getElem?_setIfInBounds_self_of_lt (by simpa using hb.lt t.right)]; rfl
          · rw [← Array.append_assoc]
            refine Duo.Base.turned (hbd.set (p := i) t.right z' (evC_calm hes)) hc hkc (by simp) (fun j h1 h2 => ?_) (fun j => Deaf_met _ _ _ _ _ _ _ _) (met_norel _ _ _ _ _ _ _ _ _)
            have e1 : i ≠ j := by rcases t with ⟨rfl, rfl⟩ | ⟨rfl, rfl⟩ <;> omega
            have e2 : a ≠ j := by rcases t with ⟨rfl, rfl⟩ | ⟨rfl, rfl⟩ <;> omega
            simp [Array.getElem?_setIfInBounds_ne e1, Array.getElem?_setIfInBounds_ne e2]
          · simpa [World.setChan] using (Array.getElem?_eq_some_iff.1 hkc).1
          · have := quiet (fn := z'.frame.fn) (pos := z'.frame.place) (p := i) (.inr rfl) hp hb.bnd hes
            simp only [World.setChan, Array.size_setIfInBounds]; exact this
          · rw [Deaf_other T t.ne.symm _ (fun op hop => by obtain ⟨e, _, rfl⟩ := Conc.mem_ofEvents hop; rfl)]; exact hb.deaf t.left
          · rw [Deaf_own, deafBehind_still (evC_quiet hes)]; exact hb.deaf t.right
        · exact ⟨_, _, 0 + n' + sumTo gs.size q + 1, hst.trans (runT_crowd_go hyb hstp), by omega, .inl ⟨_, w.at d', sl', q, J, 0, n', ya, y', rfl, moved_other t.ne hya (Heads.stays (hb.at d').chans hfa hsita) _ _, moved_self (hb.lt t.right) _ _, hsita, hsit', (hb.at d').step t.right (hb.at d').k hb.chans (Nat.le_refl _) (hb.firm.at d') (evC_calm hes), quiet (.inr rfl) hp hb.bnd hes, hse.at d', hJ, .inr hpos, by rw [moved_size]⟩⟩
    · obtain ⟨i1, i2⟩ := t.else_ ea eb
      obtain ⟨g', es, q', hrunT, hm, hlt, hb'⟩ := hb.leave i1 i2 hi hz d sl'
      refine ⟨_, _, na + nb + sumTo gs.size q' + 1, hst.trans hrunT, by omega, .inl ⟨_, w.at d, sl', q', J, na, nb, ya, yb, rfl, moved_other (fun e => ea e.symm) hya (Heads.stays hb.chans hfa hsita) _ _, moved_other (fun e => eb e.symm) hyb (Heads.stays hb.chans hfb hsitb) _ _, hsita, hsitb, hb', ?_, hse.at d, hJ, hn, by rw [moved_size]⟩⟩
      exact hp.appMute (fun _ x => x.app _) (fun op hop => by obtain ⟨e, he, rfl⟩ := Conc.mem_ofEvents hop; exact touch_mute (hm e he)) (fun op hop => by obtain ⟨e, he, rfl⟩ := Conc.mem_ofEvents hop; exact low_mute (hm e he) _)
end
end Go.Qw
