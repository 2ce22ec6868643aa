/- The law Beats of queuewire returns true for every three integers: the row over the given program, tied to its text; no condition besides. (Part 15 of 40: QwMeet2 QwLone QwPastJ QwJoin.) -/
import Derived.Conc.FxEnd
import Derived.Conc.FxBegin
import Derived.Test.YtpiabknabfbfhaaGreatDoorBeats13
import Derived.Test.YtpiabknabfbfhaaGreatDoorBeats14
set_option linter.all false
-- Behind a meeting: the receiver holds the token, the sender is on its way to its next seat.
namespace Go.Qw
open Go Go.Conc

/-- Receiving, b comes to know what a read; what a knew already it may go on reading. -/
theorem PastK.stay {S Still Still' Q : Loc → Prop} {jw a b B : Nat} {t u : Trace} (H : PastK S Still Q jw a B (Knows t b) t) (hS' : ∀ l, Still' l → Still l) (hn : ∀ op ∈ u, op.act.touch? = none) (hl : ∀ op ∈ u, op.act.low B)
    (he : ∀ i, Knows t a i → Knows (t ++ u) b i) : PastK S Still' Q jw a B (Knows (t ++ u) b) (t ++ u) := by
  refine ⟨fun said => noRace_appendMute (H.clean said) hn, fun i τ ha hm => ?_, fun i τ ha hw hS => ?_, fun i τ ha hq => ?_, seen_app H.seen hl⟩
  · obtain ⟨x, hx, hxa⟩ := touch_of ha
    rcases getElem?_append_cases hx with ⟨hi, hx'⟩ | ⟨_, hxu⟩
    · rcases H.known i τ (by rw [touchAt_of hx']; exact hxa) hm with y | ⟨y, z, v⟩ | ⟨y, z, v⟩
      · exact .inl (y.app u)
      · exact .inr (.inl ⟨y, z, fun c => v ((counts_old hi).1 c)⟩)
      · have := knows_own hx'
        have e : x.g = a := by have := g?_of hx'; rw [y] at this; exact (Option.some.inj this).symm
        exact .inl (he i (e ▸ this))
    · rw [hn x hxu] at hxa; cases hxa
  · obtain ⟨x, hx, hxa⟩ := touch_of ha
    rcases getElem?_append_cases hx with ⟨hi, hx'⟩ | ⟨_, hxu⟩
    · exact (H.wrote i τ (by rw [touchAt_of hx']; exact hxa) hw (hS' _ hS)).app u
    · rw [hn x hxu] at hxa; cases hxa
  · obtain ⟨x, hx, hxa⟩ := touch_of ha
    rcases getElem?_append_cases hx with ⟨_, hx'⟩ | ⟨_, hxu⟩
    · exact (H.pure i τ (by rw [touchAt_of hx']; exact hxa) hq).imp id (·.app u)
    · rw [hn x hxu] at hxa; cases hxa

theorem met_low {h j : Nat} {fh : FuncId} {ph : String} {fj : FuncId} {pj : String} {c k cap B : Nat} (hc : c < B) : ∀ op ∈ met h j fh ph fj pj c k cap, op.act.low B := by
  intro op hop
  simp only [met, List.mem_toArray, List.mem_cons, List.not_mem_nil, or_false] at hop
  rcases hop with rfl | rfl | rfl | rfl <;> exact hc

/-- What may turn from one stretch of the talk to the next. -/
structure Duo.Next {P : Program} (D D' : Duo P) : Prop where
  w : D'.W = D.W
  j : D'.j = D.j
  chans : D'.chans = D.chans
  s : D'.S = D.S
  q : D'.Q = D.Q
  b : D'.B = D.B
  k : ∀ w, D.K w → D'.K w
  hid : ∀ b, D'.Hid b → D.Hid b

theorem Duo.Next.base {P : Program} {D D' : Duo P} (n : D.Next D') {gs : Array Goroutine} {w : World} {T : Trace} {q : Nat → Nat} (b : D.Base gs w T q) : D'.Base gs w T q :=
  ⟨by rw [n.j]; exact b.jlt, by rw [n.j]; exact b.crew, b.above, b.d0, by rw [n.j]; exact b.dj, n.k w b.k, by rw [n.chans]; exact b.chans, by rw [n.b]; exact b.bnd, by rw [n.w]; exact b.firm, by rw [n.q]; exact b.nr⟩

theorem Duo.Next.refl {P : Program} (D : Duo P) : D.Next D := ⟨rfl, rfl, rfl, rfl, rfl, rfl, fun _ h => h, fun _ h => h⟩

section
variable {P : Program} {D D' : Duo P} {a b : Nat} {sa sb s' : Seat} {c kk : Nat} {v : Value} {σ : Hp} {m : Machine} {T : Trace}

/-- The holder has sent. -/
theorem Duo.Met.pass (hm : D.Met a b a b sa sb c kk v σ m T) (n : D.Next D') (ha : ∀ ga, sa.home ga → ∃ k, Heads P (a == 0) D'.KW D'.Still D'.B s' k (Go.Conc.served ga undef)) :
    ∃ gb, sb.home gb ∧ D'.St b a s' (Go.Conc.served gb (commResult sb.cases sb.shape kk v true)) σ m T := by
  obtain ⟨gs', w', sl', q', ga, gb, J', k, fh, ph, fj, pj, T1, rfl, h1, h2, h3, h4, h5, h6, h7, h8, rfl, h9, h10, h11⟩ := hm
  obtain ⟨k', hk'⟩ := ha ga h2
  refine ⟨gb, h4, gs', w', sl', q', J', k', _, rfl, h3, h1, hk', n.base h5, ?_, h6, fun x hx => h7 x (n.hid x hx)⟩
  rw [n.s, n.q, n.j]
  refine h9.pass (fun l hl => ?_) (met_mute _ _ _ _ _ _ _ _ _) (met_low h8) (fun i hi => knows_met h10 h11 _ _ _ _ _ _ _ hi)
  obtain ⟨x, rfl⟩ := D'.cell l (.inr (.inl hl))
  exact ⟨rfl, by rw [← n.s]; exact (D'.apart _ hl).1⟩

/-- The holder has received. -/
theorem Duo.Met.stay (hm : D.Met a b b a sa sb c kk v σ m T) (n : D.Next D') (hS : ∀ l, D'.Still l → D.Still l) (ha : ∀ ga, sa.home ga → ∃ k, Heads P (a == 0) D'.KW D'.Still D'.B s' k (Go.Conc.served ga undef)) :
    ∃ gb, sb.home gb ∧ D'.St b a s' (Go.Conc.served gb (commResult sb.cases sb.shape kk v true)) σ m T := by
  obtain ⟨gs', w', sl', q', ga, gb, J', k, fh, ph, fj, pj, T1, rfl, h1, h2, h3, h4, h5, h6, h7, h8, rfl, h9, h10, h11⟩ := hm
  obtain ⟨k', hk'⟩ := ha ga h2
  refine ⟨gb, h4, gs', w', sl', q', J', k', _, rfl, h3, h1, hk', n.base h5, ?_, h6, fun x hx => h7 x (n.hid x hx)⟩
  rw [n.s, n.q, n.j]
  exact h9.stay hS (met_mute _ _ _ _ _ _ _ _ _) (met_low h8) (fun i hi => knows_met h10 h11 _ _ _ _ _ _ _ hi)
end

/-- The environment of the holder. -/
def Duo.env {P : Program} (D : Duo P) (hD : D.Deep) {h x : Nat} (t : D.Two h x) {s : Seat} (hs : D.Fits s) : Env P where
  main := h == 0
  st := D.St h x s
  weak := by
    rintro g σ τ m T ⟨gs, w, sl, q, J, n, y, e0, e1, e2, e3, e4, e5, e6, e7⟩ hle
    exact ⟨gs, w, sl, q, J, n, y, e0, e1, e2, e3, e4, e5, e6.weak hle, e7⟩
  own := fun g σ m T X hSt hr hX => D.run t hs hSt hr (StepOk.goOk hD hX)
end Go.Qw
-- Goroutine 0 beside goroutines that only leave, however deaf; it starts a worker.
namespace Go.Qw
open Go Go.Conc
open Go.ConcN (sumTo upd sumTo_upd upd_ne upd_same)

structure Lone (P : Program) (S Q : Loc → Prop) (B : Nat) (gs : Array Goroutine) (w : World) (T : Trace) (q : Nat → Nat) (d : Nat) : Prop where
  pos : 0 < gs.size
  crew : ∀ i g, 0 < i → gs[i]? = some g → QuitsD P (q i) (Deaf T i) g
  above : ∀ i, gs.size ≤ i → Deaf T i = 0
  d0 : Deaf T 0 = d
  past : PastK S (fun _ => False) (fun _ => False) 0 0 B (Knows T 0) T
  nr : NoRel Q T

def EvX (S : Loc → Prop) (n : Nat) (e : Event) : Prop := (∀ b, (MemAct.ofEvent e).touch? = some b → S b.loc → b.kind ≠ .plain) ∧ (MemAct.ofEvent e).low n ∧ ∀ a, e.loc ≠ .mark (.release a)

section
variable {P : Program} {S Q : Loc → Prop} {B : Nat} {gs : Array Goroutine} {w w' : World} {T : Trace} {q : Nat → Nat} {d : Nat}

theorem Lone.leave (h : Lone P S Q B gs w T q d) {i : Nat} (h1 : 0 < i) {g : Goroutine} (hg : gs[i]? = some g) (hr : g.status = .running) (dd : Nat) (sl' : Option (Nat × Nat)) :
    ∃ g' es q', runT P (crowd gs (w.at dd) sl') i = (.next (crowd (moved P gs i g g' (w.at dd)) (w.at dd) sl'), MemOp.ofEvents i g.frame.fn g.frame.place es) ∧ sumTo gs.size q' < sumTo gs.size q ∧ Lone P S Q B (moved P gs i g g' (w.at dd)) (w.at dd) (T ++ MemOp.ofEvents i g.frame.fn g.frame.place es) q' d := by
  have hq := h.crew i g h1 hg
  have hi0 : (i == 0) = false := by simp; omega
  have hlt : i < gs.size := (Array.getElem?_eq_some_iff.1 hg).1
  cases hqi : q i with
  | zero => rw [hqi] at hq; rw [hq.1] at hr; cases hr
  | succ k =>
    rw [hqi] at hq
    rcases hq with ⟨hf, _⟩ | ⟨_, g', es, hm, hstp, hq'⟩
    · rw [hf] at hr; cases hr
    have hrunT := runT_crowd_go (P := P) (sl := sl') (i := i) hg (by rw [hi0]; exact hstp (w.at dd))
    have hsum : sumTo gs.size (upd q i k) + (k + 1) = sumTo gs.size q + k := by
      have := sumTo_upd q k id hlt
      simpa [hqi] using this
    have hdo : ∀ k, k ≠ i → Deaf (T ++ MemOp.ofEvents i g.frame.fn g.frame.place es) k = Deaf T k := fun k e => Deaf_other T (fun x => e x.symm) _ (fun op hop => by obtain ⟨e, _, rfl⟩ := Conc.mem_ofEvents hop; rfl)
    refine ⟨g', es, upd q i k, hrunT, by omega, by rw [moved_size]; exact h.pos, fun c x c1 hx => ?_, fun c hc => ?_, (hdo 0 (by omega)).trans h.d0, ?_, h.nr.events fun e he => norel_mute (hm e he)⟩
    · by_cases e : c = i
      · subst e
        rw [moved_self hlt] at hx
        obtain rfl := Option.some.inj hx
        rw [upd_same, Deaf_own]; exact hq'
      · obtain ⟨z, hz, rfl⟩ := moved_old e hx
        have hqc := h.crew c z c1 hz
        rw [woken_quitsD hqc, upd_ne q k e, hdo c e]; exact hqc
    · rw [moved_size] at hc
      rw [hdo c (by omega)]; exact h.above c hc
    · exact h.past.appMute (fun _ x => x.app _) (fun op hop => by obtain ⟨e, he, rfl⟩ := Conc.mem_ofEvents hop; exact touch_mute (hm e he)) (fun op hop => by obtain ⟨e, he, rfl⟩ := Conc.mem_ofEvents hop; exact low_mute (hm e he) _)

theorem Lone.awake (h : Lone P S Q B gs w T q d) {a : Goroutine} (ha : gs[0]? = some a) (hr : a.status = .running) : ∀ z ∈ gs, awake z := by
  intro z hz
  obtain ⟨i, hi, rfl⟩ := Array.mem_iff_getElem.1 hz
  by_cases e : i = 0
  · subst e
    have : gs[0] = a := by simpa [Array.getElem?_eq_getElem hi] using ha
    rw [this]; exact awake_of (.inl hr)
  · exact awake_of ((h.crew i _ (by omega) (Array.getElem?_eq_getElem hi)).status.elim .inl fun x => .inr (.inr x))

/-- The machine comes to where goroutine 0 is picked. -/
theorem Lone.picked (h : Lone P S Q B gs w T q d) {a : Goroutine} (ha : gs[0]? = some a) (hr : a.status = .running) (sl : Option (Nat × Nat)) :
    ∃ N gs' dd sl' sl'' T' q', runNT P N (crowd gs w sl) T = (.next (crowd gs' (w.at dd) sl'), T') ∧ gs'.size = gs.size ∧ gs'[0]? = some a ∧ Lone P S Q B gs' (w.at dd) T' q' d ∧ ∃ dd', stepT P (crowd gs' (w.at dd) sl') = runT P (crowd gs' (w.at dd') sl'') 0 := by
  generalize hM : sumTo gs.size q = M
  induction M using Nat.strongRecOn generalizing gs w sl T q with
  | _ M ih =>
    obtain ⟨i, z, dd, sl', hi, hz, hst⟩ := crowd_pick (P := P) (w := w) (sl := sl) (h.awake ha hr) ⟨0, a, ha, hr⟩
    by_cases e : i = 0
    · subst e
      exact ⟨0, gs, w.drawn, sl, sl', T, q, rfl, rfl, ha, h, dd, hst⟩
    · obtain ⟨g', es, q', hrunT, hlt, h'⟩ := h.leave (by omega) hi hz dd sl'
      obtain ⟨N, gs', dd', s1, s2, T', q'', hr1, hs1, ha1, hl1, hx⟩ := ih _ (by rw [← hM]; rw [moved_size]; exact hlt) h' (moved_other (fun e' => e e'.symm) ha (again_of_running (.inl hr) _) _ _) sl' rfl
      exact ⟨N + 1, gs', dd', s1, s2, T', q'', by simp only [runNT, hst, hrunT]; exact hr1, hs1.trans (moved_size _ _ _), ha1, hl1, hx⟩

/-- One step of goroutine 0's. -/
theorem Lone.go (h : Lone P S Q B gs w T q d) {a : Goroutine} (ha : gs[0]? = some a) (hr : a.status = .running) (sl : Option (Nat × Nat)) {X : Goroutine → World → Array Event → Prop}
    (hs : ∀ dd, ∃ a' w' es, stepG P true a (w.at dd) = .go a' w' es ∧ (∀ e ∈ es, EvX S B e) ∧ X a' w' es) :
    ∃ N gs' a' w' sl' T' q' es, runNT P N (crowd gs w sl) T = (.next (crowd gs' w' sl'), T') ∧ gs'.size = gs.size ∧ gs'[0]? = some a' ∧ X a' w' es ∧ Lone P S Q B gs' w' T' q' (deafBehind d es) := by
  obtain ⟨N, gs', dd, sl', sl'', T', q', hr1, hs1, ha1, hl1, dd', hx⟩ := h.picked ha hr sl
  obtain ⟨a', w', es, hgo, hev, hX⟩ := hs dd'
  have hrunT := runT_crowd_go (P := P) (sl := sl'') (i := 0) ha1 (show stepG P (0 == 0) a (w.at dd') = _ from hgo)
  have hdo : ∀ i, i ≠ 0 → Deaf (T' ++ MemOp.ofEvents 0 a.frame.fn a.frame.place es) i = Deaf T' i := fun i hi => Deaf_other T' (fun x => hi x.symm) _ (fun op hop => by obtain ⟨e, _, rfl⟩ := Conc.mem_ofEvents hop; rfl)
  refine ⟨N + 1, moved P gs' 0 a a' w', a', w', sl'', T' ++ MemOp.ofEvents 0 a.frame.fn a.frame.place es, q', es, ?_, (moved_size _ _ _).trans hs1, moved_self hl1.pos _ _, hX, by rw [moved_size]; exact hl1.pos, fun c x c1 hx => ?_, fun c hc => ?_, by rw [Deaf_own, hl1.d0], ?_, hl1.nr.events fun e he => norel_event (hev e he).2.2⟩
  · rw [runNT_add, hr1]; simp only [runNT, hx, hrunT]
  · obtain ⟨z, hz, rfl⟩ := moved_old (by omega) hx
    have hqc := hl1.crew c z c1 hz
    rw [woken_quitsD hqc, hdo c (by omega)]; exact hqc
  · rw [moved_size] at hc
    have := hl1.pos
    rw [hdo c (by omega)]; exact hl1.above c hc
  · refine hl1.past.appH (fun op hop => by obtain ⟨e, _, rfl⟩ := Conc.mem_ofEvents hop; rfl) (fun op hop b hb => ?_) (fun op hop => ?_)
    · obtain ⟨e, he, rfl⟩ := Conc.mem_ofEvents hop
      exact ⟨(hev e he).1 b hb, fun x => x.elim, fun x => x.elim⟩
    · obtain ⟨e, he, rfl⟩ := Conc.mem_ofEvents hop; exact (hev e he).2.1

/-- A walk of goroutine 0's that says neither 'disable' nor 'enable'. -/
theorem Lone.goes {D : World → World → Array Event → Prop} {Stop : Goroutine → World → Prop} (hD : ∀ w w' es, D w w' es → ∀ e ∈ es, EvX S B e ∧ e.loc ≠ .mark .disable ∧ e.loc ≠ .mark .enable) :
    ∀ (n : Nat) {gs : Array Goroutine} {w : World} {T : Trace} {q : Nat → Nat} {a : Goroutine} (sl : Option (Nat × Nat)), Lone P S Q B gs w T q d → gs[0]? = some a → Goes P true AtRel D Stop n a w →
    ∃ N gs' a' w' sl' T' q', runNT P N (crowd gs w sl) T = (.next (crowd gs' w' sl'), T') ∧ gs'.size = gs.size ∧ gs'[0]? = some a' ∧ (∀ dd, Stop a' (w'.at dd)) ∧ Lone P S Q B gs' w' T' q' d := by
  intro n
  induction n with
  | zero => exact fun {gs w T q a} sl h ha hG => ⟨0, gs, a, w, sl, T, q, rfl, rfl, ha, fun dd => hG _ ⟨dd, rfl⟩, h⟩
  | succ n ih =>
    intro gs w T q a sl h ha hG
    rcases hG with hG | ⟨hr, hG⟩
    · exact ⟨0, gs, a, w, sl, T, q, rfl, rfl, ha, fun dd => hG _ ⟨dd, rfl⟩, h⟩
    · obtain ⟨N, gs', a', w', sl', T', q', es, h1, h2, h3, ⟨hg, hne⟩, h4⟩ := h.go ha hr sl (X := fun a' w' es => Goes P true AtRel D Stop n a' w' ∧ ∀ e ∈ es, e.loc ≠ .mark .disable ∧ e.loc ≠ .mark .enable) (fun dd => by
        have := hG (w.at dd) ⟨dd, rfl⟩
        cases hgo : stepG P true a (w.at dd) <;> rw [hgo] at this <;> first | exact this.elim | skip
        rename_i a' w' es
        obtain ⟨hd, hg⟩ := this
        exact ⟨a', w', es, rfl, fun e he => (hD _ _ _ hd e he).1, hg, fun e he => (hD _ _ _ hd e he).2⟩)
      rw [deafBehind_still hne] at h4
      obtain ⟨N2, gs2, a2, w2, sl2, T2, q2, k1, k2, k3, k4, k5⟩ := ih sl' h4 h3 hg
      exact ⟨N + N2, gs2, a2, w2, sl2, T2, q2, runNT_then h1 k1, k2.trans h2, k3, k4, k5⟩

/-- From and to what is held between. -/
theorem Lone.of {J : Nat → Prop} (ha : 0 < gs.size) (hL : Leavers P T gs q) (hP : Past (ShunJ J) w.heap.size T) (hN : NoRel Q T) : Lone P (ShunJ J) Q w.heap.size gs w T q 0 :=
  ⟨ha, hL.old, hL.above, hP.hears, PastK.ofPast hP (fun _ h => h), hN⟩
theorem Lone.back {J : Nat → Prop} (h : Lone P (ShunJ J) Q B gs w T q 0) : Leavers P T gs q ∧ Past (ShunJ J) B T := ⟨⟨h.crew, h.above⟩, h.past.toPast h.d0⟩

/-- Goroutine 0 starts a worker, and goes on to its seat. -/
theorem Lone.spawn (h : Lone P S Q B gs w T q 0) {a a' child : Goroutine} (ha : gs[0]? = some a) (hr : a.status = .running) (sl : Option (Nat × Nat)) (hs : ∀ dd, stepG P true a (w.at dd) = .spawn a' child (w.at dd) #[])
    {D : Duo P} {s : Seat} {n : Nat} {σ : Hp} {J : Nat → Prop} (hj : D.j = gs.size) (hBw : B ≤ w.heap.size) (hDS : D.S = S) (hDQ : D.Q = Q) (hh : Heads P true D.KW D.Still D.B s n a') (hK : D.K w) (hc : ∀ c, D.chans c → Open c w) (hB : D.B ≤ w.heap.size) (hF : Firm D.W w) (hse : Sees J w σ) (hJ : ∀ b, D.Hid b → J b) :
    ∃ N m' T', runNT P N (crowd gs w sl) T = (.next m', T') ∧ D.St D.j 0 s child σ m' T' := by
  obtain ⟨N, gs', dd, sl', sl'', T', q', hr1, hs1, ha1, hl1, dd', hx⟩ := h.picked ha hr sl
  have hrunT := runT_crowd_spawn (P := P) (sl := sl'') (i := 0) ha1 (show stepG P (0 == 0) a (w.at dd') = _ from hs dd')
  have hops : ((MemOp.ofEvents 0 a.frame.fn a.frame.place #[]).push { g := 0, fn := a.frame.fn, pos := a.frame.place, act := .go gs'.size }).push { g := gs'.size, fn := child.frame.fn, pos := a.frame.place, act := .start } = hired 0 gs'.size a.frame.fn a.frame.place child.frame.fn := by
    simp [ofEvents_eq, hired]
  rw [hops] at hrunT
  have hj' : D.j = gs'.size := hj.trans hs1.symm
  have hd : ∀ i, Deaf (T' ++ hired 0 gs'.size a.frame.fn a.frame.place child.frame.fn) i = Deaf T' i := fun i => Deaf_quiet (hired_quiet _ _ _ _ _ i)
  refine ⟨N + 1, crowd ((gs'.setIfInBounds 0 a').push child) (w.at dd') sl'', T' ++ hired 0 gs'.size a.frame.fn a.frame.place child.frame.fn, by rw [runNT_add, hr1]; simp only [runNT, hx, hrunT], _, w.at dd', sl'', q', J, n, a', rfl, ?_, ?_, by simpa using hh, ⟨?_, fun i x h1 h2 hx => ?_, fun i hi => ?_, by rw [hd]; exact hl1.d0, ?_, D.hKat w dd' hK, hc, hB, hF.at dd', NoRel.app (Q := D.Q) (by rw [hDQ]; exact hl1.nr) fun op hop a => by
    simp only [hired, List.mem_toArray, List.mem_cons, List.not_mem_nil, or_false] at hop
    rcases hop with rfl | rfl <;> simp⟩, ?_, hse.at dd', hJ⟩
  · rw [hj', show gs'.size = (gs'.setIfInBounds 0 a').size by simp, Array.getElem?_push_size]
  · rw [Array.getElem?_push_lt (by simpa using hl1.pos)]; simp
  · rw [hj']; simp
  · have hx' : gs'[i]? = some x := by
      rw [Array.getElem?_push, if_neg (by simp; omega), Array.getElem?_setIfInBounds_ne (by omega)] at hx
      exact hx
    rw [hd]; exact hl1.crew i x h1 hx'
  · rw [hd]; exact hl1.above i (by simp at hi; omega)
  · rw [hd, hj']; exact hl1.above _ (Nat.le_refl _)
  · rw [hj', hDS]
    refine PastK.hire (hl1.past.mono hBw) (fun l hl => ?_) (fun l hl => ?_) hl1.d0 (hl1.above _ (Nat.le_refl _)) _ _ _
    · obtain ⟨x, rfl⟩ := D.cell l (.inr (.inl hl))
      exact ⟨rfl, by rw [← hDS]; exact (D.apart _ hl).1⟩
    · obtain ⟨x, rfl⟩ := D.cell l (.inr (.inr hl))
      rfl
end
end Go.Qw
-- The trace while goroutine 0 waits for the worker's end.
namespace Go.Qw
open Go Go.Conc
open Go.ConcX (OfWg stA smA)

/-- What of the worker's (j) atomic touches of the group is not handed over yet: all that lies at or ahead of its release (rel). -/
structure PastJ (S : Loc → Prop) (Wg j B : Nat) (rel : Option Nat) (t : Trace) : Prop where
  clean : ∀ said, ¬ Race said t
  known : ∀ i a, touchAt t i = some a → a.loc.isMemory = true → Knows t 0 i ∨ (S a.loc ∧ a.kind = .atomic ∧ ¬ t.counts i) ∨ (t.g? i = some j ∧ OfWg Wg a.loc ∧ a.kind = .atomic ∧ ∀ r, rel = some r → i ≤ r)
  pure : ∀ i a, touchAt t i = some a → OfWg Wg a.loc → a.kind ≠ .plain ∨ Knows t j i
  seen : ∀ op ∈ t, op.act.low B
  rels : ∀ r, rel = some r → t.act? r = some (.mark (.releaseMerge (stA Wg))) ∧ t.g? r = some j ∧ t.heard r
  norel : ∀ i, t.act? i ≠ some (.mark (.release (stA Wg)))

section
variable {S : Loc → Prop} {Wg j B : Nat} {rel : Option Nat} {t u : Trace}

theorem PastJ.ofK {Q Still : Loc → Prop} {o : Nat} (H : PastK S (fun _ => False) Q j o B (Knows t 0) t) (hQ : ∀ l, OfWg Wg l → Q l) (hn : ∀ i, t.act? i ≠ some (.mark (.release (stA Wg)))) : PastJ S Wg j B none t :=
  ⟨H.clean, fun i a ha hm => (H.known i a ha hm).imp id fun x => x.imp id fun y => y.2.2.elim, fun i a ha hw => H.pure i a ha (hQ _ hw), H.seen, fun r h => (by cases h), hn⟩

theorem norel_app (h : ∀ i, t.act? i ≠ some (.mark (.release (stA Wg)))) (hu : ∀ op ∈ u, op.act ≠ .mark (.release (stA Wg))) : ∀ i, (t ++ u).act? i ≠ some (.mark (.release (stA Wg))) := by
  intro i hi
  obtain ⟨op, ho, hoa⟩ := Option.map_eq_some_iff.1 hi
  rcases getElem?_append_cases ho with ⟨_, ho'⟩ | ⟨_, hou⟩
  · exact h i (by rw [act?_of ho', hoa])
  · exact hu op hou hoa

theorem rels_app (h : ∀ r, rel = some r → t.act? r = some (.mark (.releaseMerge (stA Wg))) ∧ t.g? r = some j ∧ t.heard r) : ∀ r, rel = some r → (t ++ u).act? r = some (.mark (.releaseMerge (stA Wg))) ∧ (t ++ u).g? r = some j ∧ (t ++ u).heard r := by
  intro r hr
  obtain ⟨h1, h2, h3⟩ := h r hr
  have hlt := lt_of_act? h1
  exact ⟨by rw [act?_old hlt]; exact h1, by rw [g?_old hlt]; exact h2, (heard_old hlt).2 h3⟩

theorem PastJ.old_known (H : PastJ S Wg j B rel t) {i : Nat} {a : Touch} {x : MemOp} (hx' : t[i]? = some x) (hxa : x.act.touch? = some a) (hm : a.loc.isMemory = true) :
    Knows (t ++ u) 0 i ∨ (S a.loc ∧ a.kind = .atomic ∧ ¬ (t ++ u).counts i) ∨ ((t ++ u).g? i = some j ∧ OfWg Wg a.loc ∧ a.kind = .atomic ∧ ∀ r, rel = some r → i ≤ r) := by
  have hi := lt_size_of_getElem? hx'
  rcases H.known i a (by rw [touchAt_of hx']; exact hxa) hm with x | ⟨x, y, z⟩ | ⟨x, y⟩
  · exact .inl (x.app u)
  · exact .inr (.inl ⟨x, y, fun c => z ((counts_old hi).1 c)⟩)
  · exact .inr (.inr ⟨by rw [g?_old hi]; exact x, y⟩)

/-- Operations that touch nothing. -/
theorem PastJ.appMute (H : PastJ S Wg j B rel t) (hn : ∀ op ∈ u, op.act.touch? = none) (hl : ∀ op ∈ u, op.act.low B) (hr : ∀ op ∈ u, op.act ≠ .mark (.release (stA Wg))) : PastJ S Wg j B rel (t ++ u) := by
  refine ⟨fun said => noRace_appendMute (H.clean said) hn, fun i a ha hm => ?_, fun i a ha hq => ?_, seen_app H.seen hl, rels_app H.rels, norel_app H.norel hr⟩
  · obtain ⟨x, hx, hxa⟩ := touch_of ha
    rcases getElem?_append_cases hx with ⟨_, hx'⟩ | ⟨_, hxu⟩
    · exact H.old_known hx' hxa hm
    · rw [hn x hxu] at hxa; cases hxa
  · obtain ⟨x, hx, hxa⟩ := touch_of ha
    rcases getElem?_append_cases hx with ⟨_, hx'⟩ | ⟨_, hxu⟩
    · exact (H.pure i a (by rw [touchAt_of hx']; exact hxa) hq).imp id (·.app u)
    · rw [hn x hxu] at hxa; cases hxa

/-- Goroutine 0's own. -/
theorem PastJ.app0 (H : PastJ S Wg j B rel t) (hu : ∀ op ∈ u, op.g = 0) (hs : ∀ op ∈ u, ∀ b, op.act.touch? = some b → (S b.loc → b.kind ≠ .plain) ∧ (OfWg Wg b.loc → b.kind ≠ .plain)) (hl : ∀ op ∈ u, op.act.low B) (hr : ∀ op ∈ u, op.act ≠ .mark (.release (stA Wg))) :
    PastJ S Wg j B rel (t ++ u) := by
  refine ⟨fun said => noRace_append (H.clean said) hu fun i a ha op hop b hb hc => ?_, fun i a ha hm => ?_, fun i a ha hq => ?_, seen_app H.seen hl, rels_app H.rels, norel_app H.norel hr⟩
  · obtain ⟨h1, h2⟩ := hs op hop b hb
    have at_ : a.kind = .atomic → b.kind ≠ .plain → False := fun y hb' => by
      obtain ⟨_, _, _, hcase⟩ := hc
      rw [y] at hcase
      rcases hcase with z | z | ⟨_, z, _⟩
      · cases z
      · exact hb' z
      · cases z
    rcases H.known i a ha hc.2.1 with hk | ⟨x, y, _⟩ | ⟨_, x, y, _⟩
    · exact hk
    · exact (at_ y (h1 (hc.1 ▸ x))).elim
    · exact (at_ y (h2 (hc.1 ▸ x))).elim
  · obtain ⟨x, hx, hxa⟩ := touch_of ha
    rcases getElem?_append_cases hx with ⟨_, hx'⟩ | ⟨_, hxu⟩
    · exact H.old_known hx' hxa hm
    · have := knows_own hx
      rw [hu x hxu] at this
      exact .inl this
  · obtain ⟨x, hx, hxa⟩ := touch_of ha
    rcases getElem?_append_cases hx with ⟨_, hx'⟩ | ⟨_, hxu⟩
    · exact (H.pure i a (by rw [touchAt_of hx']; exact hxa) hq).imp id (·.app u)
    · exact .inl ((hs x hxu a hxa).2 hq)

/-- The worker's atomic touches of the group: ahead of its release, or such as count for nobody. -/
theorem PastJ.appJ (H : PastJ S Wg j B rel t) (hu : ∀ op ∈ u, op.g = j) (hs : ∀ op ∈ u, ∀ b, op.act.touch? = some b → OfWg Wg b.loc ∧ b.kind = .atomic) (hc : rel = none ∨ ((∀ l, OfWg Wg l → S l) ∧ ∀ k, t.size ≤ k → ¬ (t ++ u).counts k)) (hl : ∀ op ∈ u, op.act.low B)
    (hr : ∀ op ∈ u, op.act ≠ .mark (.release (stA Wg))) : PastJ S Wg j B rel (t ++ u) := by
  refine ⟨fun said => noRace_append (H.clean said) hu fun i a ha op hop b hb hc => ?_, fun i a ha hm => ?_, fun i a ha hq => ?_, seen_app H.seen hl, rels_app H.rels, norel_app H.norel hr⟩
  · obtain ⟨hbQ, hbk⟩ := hs op hop b hb
    rcases H.pure i a ha (hc.1 ▸ hbQ) with this | this
    · obtain ⟨_, _, _, hcase⟩ := hc
      rw [hbk] at hcase
      rcases hcase with z | z | ⟨_, _, z⟩
      · exact absurd z this
      · cases z
      · cases z
    · exact this
  · obtain ⟨x, hx, hxa⟩ := touch_of ha
    rcases getElem?_append_cases hx with ⟨_, hx'⟩ | ⟨hge, hxu⟩
    · exact H.old_known hx' hxa hm
    · rcases hc with rfl | ⟨hq, hc⟩
      · exact .inr (.inr ⟨by rw [g?_of hx, hu x hxu], (hs x hxu a hxa).1, (hs x hxu a hxa).2, fun r h => by cases h⟩)
      · exact .inr (.inl ⟨hq _ (hs x hxu a hxa).1, (hs x hxu a hxa).2, hc i hge⟩)
  · obtain ⟨x, hx, hxa⟩ := touch_of ha
    rcases getElem?_append_cases hx with ⟨_, hx'⟩ | ⟨_, hxu⟩
    · exact (H.pure i a (by rw [touchAt_of hx']; exact hxa) hq).imp id (·.app u)
    · rw [(hs x hxu a hxa).2]; exact .inl (fun e => by cases e)

/-- The worker says its release, hearing. -/
theorem PastJ.release (H : PastJ S Wg j B none t) (hd : Deaf t j = 0) (hW : Wg < B) {op : MemOp} (hg : op.g = j) (ha : op.act = .mark (.releaseMerge (stA Wg))) : PastJ S Wg j B (some t.size) (t ++ #[op]) := by
  have hm : ∀ o ∈ (#[op] : Trace), o.act.touch? = none := by intro o ho; simp at ho; subst ho; rw [ha]; rfl
  have H' := H.appMute (u := #[op]) hm (by intro o ho; simp at ho; subst ho; rw [ha]; exact hW) (by intro o ho; simp at ho; subst ho; rw [ha]; simp)
  have e0 : (t ++ #[op])[t.size]? = some op := by simp
  refine ⟨H'.clean, fun i a hta hmm => ?_, H'.pure, H'.seen, fun r hr => ?_, H'.norel⟩
  · rcases H'.known i a hta hmm with x | x | ⟨x, y, z, _⟩
    · exact .inl x
    · exact .inr (.inl x)
    · refine .inr (.inr ⟨x, y, z, fun r hr => ?_⟩)
      cases hr
      unfold Trace.g? at x
      obtain ⟨v, hv, _⟩ := Option.map_eq_some_iff.1 x
      have := lt_size_of_getElem? hv
      simp at this; omega
  · cases hr
    exact ⟨by rw [act?_of e0, ha], by rw [g?_of e0, hg], j, by rw [g?_of e0, hg], by rw [deaf_old (Nat.le_refl _)]; exact hd⟩

/-- Goroutine 0 says acquire, hearing: all is handed over. -/
theorem PastJ.acquire {r : Nat} (H : PastJ S Wg j B (some r) t) (hd : Deaf t 0 = 0) (hj : j ≠ 0) (hW : Wg < B) {op : MemOp} (hg : op.g = 0) (ha : op.act = .mark (.acquire (stA Wg))) : PastK S (fun _ => False) (OfWg Wg) j j B (Knows (t ++ #[op]) 0) (t ++ #[op]) := by
  have hm : ∀ o ∈ (#[op] : Trace), o.act.touch? = none := by intro o ho; simp at ho; subst ho; rw [ha]; rfl
  have H' := H.appMute (u := #[op]) hm (by intro o ho; simp at ho; subst ho; rw [ha]; exact hW) (by intro o ho; simp at ho; subst ho; rw [ha]; simp)
  have e0 : (t ++ #[op])[t.size]? = some op := by simp
  obtain ⟨r1, r2, r3⟩ := H'.rels r rfl
  have hrlt : r < t.size := lt_of_act? (H.rels r rfl).1
  have edge : HappensBefore (t ++ #[op]) r t.size := .single (.inr ⟨.marked hrlt (.inr r1) (by rw [act?_of e0, ha]) (fun k _ _ => H'.norel k), r3, 0, by rw [g?_of e0, hg], by rw [deaf_old (Nat.le_refl _)]; exact hd⟩)
  refine ⟨H'.clean, fun i a hta hmm => ?_, fun _ _ _ _ x => x.elim, H'.pure, H'.seen⟩
  rcases H'.known i a hta hmm with x | x | ⟨x, _, _, z⟩
  · exact .inl x
  · exact .inr (.inl x)
  · refine .inl ⟨t.size, op, e0, hg, .inr ?_⟩
    have hir := z r rfl
    rcases Nat.lt_or_ge i r with h | h
    · exact .trans (.single (.inl ⟨h, j, x, r2⟩)) edge
    · obtain rfl : i = r := by omega
      exact edge
end
end Go.Qw
-- Goroutine 0 waits for the worker's end: sync.WaitGroup's Wait beside a worker that has been told to end.
namespace Go.Qw
open Go Go.Conc
open Go.ConcX
open Go.ConcN (sumTo upd sumTo_upd upd_ne upd_same)

/-- What is fixed in the last stretch of a talk. -/
structure Jn (P : Program) where
  ty : TypeId
  Wg : Nat
  C : Nat
  C' : Nat
  Low : Nat
  B0 : Nat
  j : Nat
  I : Payload
  I' : Payload
  Y : Shy Wg C
  Y' : Shy Wg C'
  vals : List Value
  vals' : List Value
  S : Loc → Prop
  Anch : Goroutine → World → Prop
  Z : World → Prop
  s : Seat
  kk : Nat
  c3 : Nat
  z : Value
  hj : 0 < j
  hW : Wg < Low
  hC : C < Low
  hC' : C' < Low
  hCW : C ≠ Wg
  hCW' : C' ≠ Wg
  hCC : C ≠ C'
  hc3 : c3 < Low
  ok : ∀ act, @Shy.ok Wg C Y act → okF S Low Wg act
  ok' : ∀ act, @Shy.ok Wg C' Y' act → okF S Low Wg act
  hSW : ∀ l, OfWg Wg l → S l
  hAr : ∀ g w, Anch g w → g.status = .running
  hAn : ∀ g w, Anch g w → ∃ m, Goes P true (@RPa I ty Wg C vals) (DPi (fun _ => True) Wg C Low) (@AtW1 I P ty Wg C Low Y vals (fun _ => True) Anch fun _ _ => True) m g w
  hZ : ∀ w w', (∀ b, b < Low → b ≠ Wg → w'.heap[b]? = w.heap[b]?) → Z w → Z w'
  hZs : ∀ w, Z w → (∃ k, w.heap[c3]? = some (.chan 0 #[] true k k false)) ∧ ∀ (m : Nat) (cc : CommCase), m ≠ kk → s.cases[m]? = some cc → cc.send = none ∧ ∃ c, cc.chan = .chan (some c) ∧ Open c w
  hk : s.cases[kk]? = some (rcase c3 z)
  serve : ∀ g₂ w, s.home g₂ → KCa ty Wg w → @Full I C vals w → @Full I' C' vals' w →
    (∃ n, Goes P false (RCa ty Wg Low) (DCs (fun _ => True) Wg C) (@AtR0 I P ty Wg C Low vals) n (Go.Conc.served g₂ (commResult s.cases s.shape kk z false)) w) ∧
    (∃ n, Goes P false (RCa ty Wg Low) (DCs (fun _ => True) Wg C') (@AtR0 I' P ty Wg C' Low vals') n (Go.Conc.served g₂ (commResult s.cases s.shape kk z false)) w)

section
variable {P : Program} (K : Jn P)
attribute [local instance] Jn.Y

/-- The worker: its stage, how deaf, how far from the stage's end. -/
inductive WJ : Nat → Nat → Nat → Goroutine → World → Prop
  | c0 {n b w} : 0 < n → Heads P false K.Z (fun _ => False) K.B0 K.s n b → K.Z w → WJ 0 0 n b w
  | c1 {n n' b w} : Goes P false (RCa K.ty K.Wg K.Low) (DCs (fun _ => True) K.Wg K.C) (@AtR0 K.I P K.ty K.Wg K.C K.Low K.vals) n b w →
      Goes P false (RCa K.ty K.Wg K.Low) (@DCs (fun _ => True) K.Wg K.C' K.Y') (@AtR0 K.I' P K.ty K.Wg K.C' K.Low K.vals') n' b w → WJ 1 0 n b w
  | c2 {n b w} : Goes P false (RCa K.ty K.Wg K.Low) DC0 (AtK1 P K.ty K.Wg K.Low) n b w → WJ 2 0 n b w
  | c3 {n b w} : Goes P false (RCa K.ty K.Wg K.Low) DC0 (AtD1 P K.ty K.Wg K.Low) n b w → WJ 3 1 n b w
  | c4 {n b w} : Goes P false (RCd K.Low) DC0 (AtD2 P K.Wg K.Low) n b w → WJ 4 1 n b w
  | c5 {n b w} : Goes P false (RCd K.Low) DC0 (AtD3 P K.Wg K.Low) n b w → WJ 5 1 n b w
  | c6 {n b w} : Goes P false (RCd K.Low) DC0 (AtD4 P K.Wg) n b w → WJ 6 1 n b w
  | c7 {n d b w} : QuitsD P n d b → WJ 7 d n b w

abbrev Jn.Ra (K : Jn P) : World → World → Prop := @RPa K.I K.ty K.Wg K.C K.vals
abbrev Jn.Rb (K : Jn P) : World → World → Prop := @RPb K.I K.ty K.Wg K.C K.vals
abbrev Jn.Di (K : Jn P) : World → World → Array Event → Prop := DPi (fun _ => True) K.Wg K.C K.Low
/-- Goroutine 0. -/
inductive MJ : Nat → Nat → Nat → Goroutine → World → Prop
  | a1 {n a w} : Goes P true K.Ra K.Di (@AtKd K.I P K.ty K.Wg K.C K.Low K.Y K.vals (fun _ => True) K.Anch) n a w → MJ 1 0 n a w
  | a2 {n a w} : Goes P true K.Ra K.Di K.Anch n a w → MJ 2 1 n a w
  | a3 {n a w} : Goes P true K.Ra K.Di (@AtW1 K.I P K.ty K.Wg K.C K.Low K.Y K.vals (fun _ => True) K.Anch fun _ _ => True) n a w → MJ 3 1 n a w
  | a4 {n a w} : Goes P true K.Ra K.Di (@AtW2 K.I P K.ty K.Wg K.C K.Low K.Y K.vals (fun _ => True) K.Anch fun _ _ => True) n a w → MJ 4 1 n a w
  | a5 {n a w} : Goes P true K.Rb K.Di (@AtW3 K.I P K.ty K.Wg K.C K.Low K.Y K.vals (fun _ => True) fun _ _ => True) n a w → MJ 5 1 n a w
  | blk {a w} : (∀ w₁, K.Rb w w₁ → @AtW3 K.I P K.ty K.Wg K.C K.Low K.Y K.vals (fun _ => True) (fun _ _ => True) a w₁) → MJ 10 1 0 { a with status := .blocked } w
  | a6 {n a w} : Goes P true AtRel K.Di (AtW4 P K.Wg K.C K.Low (fun _ => True) fun _ _ => True) n a w → MJ 6 1 n a w
  | a7 {n a w} : Goes P true AtRel K.Di (AtKe P K.Wg K.C K.Low (fun _ => True) fun _ _ => True) n a w → MJ 7 1 n a w
  | a8 {n a w} : Goes P true AtRel K.Di (AtAcq P K.Wg K.C K.Low (fun _ => True) fun _ _ => True) n a w → MJ 8 0 n a w

structure JB (gs : Array Goroutine) (w : World) (T : Trace) (q : Nat → Nat) (d0 dj : Nat) (rel : Option Nat) : Prop where
  jlt : K.j < gs.size
  crew : ∀ i g, 0 < i → i ≠ K.j → gs[i]? = some g → QuitsD P (q i) (Deaf T i) g
  above : ∀ i, gs.size ≤ i → Deaf T i = 0
  e0 : Deaf T 0 = d0
  ej : Deaf T K.j = dj
  past : PastJ K.S K.Wg K.j K.Low rel T
  full : @Full K.I K.C K.vals w
  full' : @Full K.I' K.C' K.vals' w

/-- What the listed may be: goroutine 0's; the worker's. -/
def Jn.Ev0 (K : Jn P) (e : Event) : Prop :=
  (∀ b, (MemAct.ofEvent e).touch? = some b → (K.S b.loc → b.kind ≠ .plain) ∧ (OfWg K.Wg b.loc → b.kind ≠ .plain)) ∧ (MemAct.ofEvent e).low K.Low ∧ MemAct.ofEvent e ≠ .mark (.release (stA K.Wg))
def Jn.EvJ (K : Jn P) (e : Event) : Prop :=
  (∀ b, (MemAct.ofEvent e).touch? = some b → OfWg K.Wg b.loc ∧ b.kind = .atomic) ∧ (MemAct.ofEvent e).low K.Low ∧ MemAct.ofEvent e ≠ .mark (.release (stA K.Wg))

variable {K}
theorem ev0_of {e : Event} (h : EvQ (fun _ => True) K.Wg K.C 0 e) : K.Ev0 e := by
  obtain ⟨h1, _⟩ := h
  obtain ⟨_, h2, h3, h4⟩ := h1 0 ""
  obtain ⟨h5, h6, _⟩ := K.ok _ h4
  exact ⟨fun b hb => ⟨(h5 b hb).1, fun hw => (h5 b hb).1 (K.hSW _ hw)⟩, h6, h3⟩

theorem evJ_of {e : Event} (h : EvQ (fun _ => True) K.Wg K.C 1 e) (h' : @EvQ (fun _ => True) K.Wg K.C' K.Y' 1 e) : K.EvJ e ∧ e.loc ≠ .mark .disable ∧ e.loc ≠ .mark .enable := by
  obtain ⟨h1, hd, he, _⟩ := h
  obtain ⟨h1', _⟩ := h'
  obtain ⟨_, h2, h3, h4⟩ := h1 0 ""
  obtain ⟨_, h2', _⟩ := h1' 0 ""
  obtain ⟨_, h6, _⟩ := K.ok _ h4
  refine ⟨⟨fun b hb => ?_, h6, h3⟩, hd, he⟩
  have hw : OfWg K.Wg b.loc := by
    have f1 := (h2 b hb).1
    have f2 := (h2' b hb).1
    rcases f1 with f1 | ⟨f1, _⟩ | ⟨_, _, f1⟩
    · rcases f2 with f2 | ⟨f2, _⟩ | ⟨_, _, f2⟩
      · rcases f1 with (⟨a, ha, hb'⟩ | f1) | ⟨a, ha, hb', _⟩
        · exact ⟨a, ha, hb'⟩
        · rcases f2 with (⟨a, ha, hb'⟩ | f2) | ⟨a, ha, hb', _⟩
          · exact ⟨a, ha, hb'⟩
          · rw [f1] at f2; exact absurd (Loc.obj.inj f2) K.hCC
          · rw [f1] at ha; cases ha
        · rcases f2 with (⟨x, hx, hxb⟩ | f2) | ⟨x, hx, hxb, _⟩
          · exact ⟨x, hx, hxb⟩
          · rw [ha] at f2; cases f2
          · rw [ha] at hx; cases hx; exact absurd (hb'.symm.trans hxb) K.hCC
      · cases f2
      · exact absurd trivial f2
    · cases f1
    · exact absurd trivial f1
  refine ⟨hw, ?_⟩
  obtain ⟨a, ha, hab⟩ := hw
  have := (h2 b hb).2.1 (.inl ⟨a, ha, hab⟩)
  cases hk : b.kind with
  | plain => exact absurd hk this.1
  | atomic => rfl
  | said => exact absurd (this.2 hk) (by decide)

variable {gs : Array Goroutine} {w w' : World} {T : Trace} {q : Nat → Nat} {d0 dj : Nat} {rel : Option Nat}

theorem ops_of {g : Nat} {fn : FuncId} {pos : String} {es : Array Event} {X : MemAct → Prop} (h : ∀ e ∈ es, X (MemAct.ofEvent e)) : ∀ op ∈ MemOp.ofEvents g fn pos es, X op.act := by
  intro op hop; obtain ⟨e, he, rfl⟩ := Conc.mem_ofEvents hop; exact h e he
theorem ops_g {g : Nat} {fn : FuncId} {pos : String} {es : Array Event} : ∀ op ∈ MemOp.ofEvents g fn pos es, op.g = g := by
  intro op hop; obtain ⟨e, _, rfl⟩ := Conc.mem_ofEvents hop; rfl

theorem JB.main (h : JB K gs w T q d0 dj rel) {a a' : Goroutine} {fn : FuncId} {pos : String} {es : Array Event} {d0' : Nat} (he : ∀ e ∈ es, K.Ev0 e) (hd : deafBehind d0 es = d0') (hw : ∀ b, b < K.Low → b ≠ K.Wg → w'.heap[b]? = w.heap[b]?) :
    JB K (moved P gs 0 a a' w') w' (T ++ MemOp.ofEvents 0 fn pos es) q d0' dj rel := by
  have hdo : ∀ i, i ≠ 0 → Deaf (T ++ MemOp.ofEvents 0 fn pos es) i = Deaf T i := fun i hi => Deaf_other T (fun x => hi x.symm) _ ops_g
  refine ⟨by rw [moved_size]; exact h.jlt, fun i x h1 h2 hx => ?_, fun i hi => ?_, by rw [Deaf_own, h.e0, hd], by rw [hdo _ (by have := K.hj; omega), h.ej], ?_, fun hc => (hw _ K.hC K.hCW).trans (h.full hc), fun hc => (hw _ K.hC' K.hCW').trans (h.full' hc)⟩
  · obtain ⟨z, hz, rfl⟩ := moved_old (by omega) hx
    have hq := h.crew i z h1 h2 hz
    rw [woken_quitsD hq, hdo i (by omega)]; exact hq
  · rw [moved_size] at hi
    have := h.jlt
    rw [hdo i (by omega)]; exact h.above i hi
  · exact h.past.app0 ops_g (ops_of (X := fun act => ∀ b, act.touch? = some b → (K.S b.loc → b.kind ≠ .plain) ∧ (OfWg K.Wg b.loc → b.kind ≠ .plain)) fun e x => (he e x).1) (ops_of (X := fun act => act.low K.Low) fun e x => (he e x).2.1) (ops_of (X := fun act => act ≠ .mark (.release (stA K.Wg))) fun e x => (he e x).2.2)

theorem JB.work (h : JB K gs w T q d0 dj rel) {b b' : Goroutine} {fn : FuncId} {pos : String} {es : Array Event} {dj' : Nat} {rel' : Option Nat} (hd : deafBehind dj es = dj') (hw : ∀ b, b < K.Low → b ≠ K.Wg → w'.heap[b]? = w.heap[b]?)
    (hp : PastJ K.S K.Wg K.j K.Low rel' (T ++ MemOp.ofEvents K.j fn pos es)) : JB K (moved P gs K.j b b' w') w' (T ++ MemOp.ofEvents K.j fn pos es) q d0 dj' rel' := by
  have hdo : ∀ i, i ≠ K.j → Deaf (T ++ MemOp.ofEvents K.j fn pos es) i = Deaf T i := fun i hi => Deaf_other T (fun x => hi x.symm) _ ops_g
  refine ⟨by rw [moved_size]; exact h.jlt, fun i x h1 h2 hx => ?_, fun i hi => ?_, by rw [hdo 0 (by have := K.hj; omega), h.e0], by rw [Deaf_own, h.ej, hd], hp, fun hc => (hw _ K.hC K.hCW).trans (h.full hc), fun hc => (hw _ K.hC' K.hCW').trans (h.full' hc)⟩
  · obtain ⟨z, hz, rfl⟩ := moved_old h2 hx
    have hq := h.crew i z h1 h2 hz
    rw [woken_quitsD hq, hdo i h2]; exact hq
  · rw [moved_size] at hi
    have := h.jlt
    rw [hdo i (by omega)]; exact h.above i hi

theorem JB.at (h : JB K gs w T q d0 dj rel) (d : Nat) : JB K gs (w.at d) T q d0 dj rel := ⟨h.jlt, h.crew, h.above, h.e0, h.ej, h.past, h.full, h.full'⟩

/-- The worker's own, deaf, of the group. -/
theorem JB.deafOps (h : JB K gs w T q d0 1 rel) {fn : FuncId} {pos : String} {es : Array Event} (he : ∀ e ∈ es, K.EvJ e) (hd : ∀ j e, es[j]? = some e → (MemAct.ofEvent e).touch? = none ∨ 0 < deafBehind 1 (es.extract 0 j)) : PastJ K.S K.Wg K.j K.Low rel (T ++ MemOp.ofEvents K.j fn pos es) := by
  refine h.past.appJ ops_g (ops_of (X := fun act => ∀ b, act.touch? = some b → OfWg K.Wg b.loc ∧ b.kind = .atomic) fun e x => (he e x).1) (.inr ⟨K.hSW, fun k hk hc => ?_⟩) (ops_of (X := fun act => act.low K.Low) fun e x => (he e x).2.1) (ops_of (X := fun act => act ≠ .mark (.release (stA K.Wg))) fun e x => (he e x).2.2)
  obtain ⟨x, hx, hm, hkk⟩ := hc
  obtain ⟨op, hop, hox⟩ := touch_of (show touchAt _ k = some x from hx)
  rw [Array.getElem?_append_right hk, ofEvents_eq, Array.getElem?_map] at hop
  obtain ⟨e, hee, rfl⟩ := Option.map_eq_some_iff.1 hop
  have hks : k - T.size < es.size := (Array.getElem?_eq_some_iff.1 hee).1
  rcases hd (k - T.size) e hee with h0 | h0
  · have : (MemAct.ofEvent e).touch? = some x := hox
    rw [h0] at this; cases this
  · rcases hkk with hkk | ⟨g, hg, hg0⟩
    · exact hkk ((he e (Array.mem_of_getElem? hee)).1 x hox).2
    · have e1 : (T ++ MemOp.ofEvents K.j fn pos es).g? k = some K.j := by
        unfold Trace.g?
        rw [Array.getElem?_append_right hk, ofEvents_eq, Array.getElem?_map, hee]; rfl
      rw [hg] at e1
      cases e1
      have := deaf_inside T K.j fn pos es (k - T.size) (by omega)
      rw [show T.size + (k - T.size) = k by omega, hg0, h.ej] at this
      omega
end
end Go.Qw
