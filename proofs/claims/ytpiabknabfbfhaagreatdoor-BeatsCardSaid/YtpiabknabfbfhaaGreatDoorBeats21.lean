/- The law Beats of queuewire returns true for every three integers: the row over the given program, tied to its text; no condition besides. (Part 21 of 40: QwWalk QwFeed7 QwFeed8 QwFeed9 QwFeed10.) -/
import Derived.Conc.DeferLaws
import Derived.Lib.ReflectliteSwap
import Derived.Test.YtpiabknabfbfhaaGreatDoorBeats17
import Derived.Test.YtpiabknabfbfhaaGreatDoorBeats20
set_option linter.all false
-- The token's holder where the other leans on blocks that the holder sees: quiet steps, a call, a deferred call noted, a store, by hand.
namespace Go.Qw
open Go Go.Conc

section
variable {P : Program} (D : Duo P)
def Duo.Walks (h x : Nat) (s : Seat) (g : Goroutine) (σ : Hp) (S : Goroutine → Hp → Prop) : Prop :=
  ∀ m T, D.St h x s g σ m T → ∃ N m' T' g' σ', runNT P N m T = (.next m', T') ∧ D.St h x s g' σ' m' T' ∧ S g' σ'

variable {D} {h x : Nat} {s : Seat} {g : Goroutine} {σ : Hp} {S : Goroutine → Hp → Prop}
theorem Duo.Walks.here (k : S g σ) : D.Walks h x s g σ S := fun m T hm => ⟨0, m, T, g, σ, rfl, hm, k⟩

theorem Duo.Walks.step (t : D.Two h x) (hs : D.Fits s) (hr : g.status = .running) {X : Goroutine → Hp → Prop} (hX : D.GoOk (h == 0) g σ X) (k : ∀ g' σ', X g' σ' → D.Walks h x s g' σ' S) : D.Walks h x s g σ S := by
  intro m T hm
  obtain ⟨N, m', T', g', σ', h1, h2, _, h3⟩ := D.run t hs hm hr hX
  obtain ⟨N', m'', T'', g'', σ'', k1, k2, k3⟩ := k g' σ' h3 m' T' h2
  exact ⟨N + N', m'', T'', g'', σ'', runNT_then h1 k1, k2, k3⟩

/-- The world stands, but for draws; what is listed are plain reads of what is seen. -/
theorem Duo.GoOk.quiet {main : Bool} {X : Goroutine → Prop} (k : ∀ w, (∀ b o, σ.f b = some o → w.heap[b]? = some o) → ∃ g' d es, stepG P main g w = .go g' (w.at d) es ∧ g'.status = .running ∧ X g' ∧ ∀ e ∈ es, ∃ a : Addr, e = ⟨.cell a, false, false⟩ ∧ (σ.f a.block).isSome = true) :
    D.GoOk main g σ fun g' σ' => σ' = σ ∧ X g' := by
  intro J w hs hJ hK hc hf
  obtain ⟨g', d, es, h1, h2, h3, h4⟩ := k w fun b o hb => hs.heap hb
  rw [h1]
  refine ⟨σ, J, hs.at d, hJ, D.hKat w d hK, hc, hf.at d, Nat.le_refl _, fun e he => ?_, h2, rfl, h3⟩
  obtain ⟨a, rfl, ha⟩ := h4 e he
  obtain ⟨o, ho⟩ := Option.isSome_iff_exists.1 ha
  have hn : ¬ D.Hid a.block := fun hb => hs.notJ ho (hJ _ hb)
  refine ⟨fun b hb => ?_, ⟨⟨by simp, by simp⟩, by simp⟩, ?_⟩
  · simp [MemAct.ofEvent, MemAct.touch?] at hb
    subst hb
    exact ⟨fun hS => absurd (.inr (.inr ⟨a, rfl, .inl hS⟩)) hn, fun _ => rfl, fun hQ => absurd (.inr (.inr ⟨a, rfl, .inr hQ⟩)) hn⟩
  · simp [MemAct.ofEvent, MemAct.low]
    exact hs.lt ho

theorem Duo.Walks.ctl {g' : Goroutine} (t : D.Two h x) (hs : D.Fits s) (k : ∀ w, stepG P (h == 0) g w = .go g' w) (hr : g.status = .running) (hr' : g'.status = .running) (n : D.Walks h x s g' σ S) : D.Walks h x s g σ S := by
  refine Duo.Walks.step t hs hr (Duo.GoOk.quiet (X := fun y => y = g') fun w _ => ⟨g', w.drawn, #[], k w, hr', rfl, by simp⟩) ?_
  rintro _ _ ⟨rfl, rfl⟩
  exact n

section
variable {N : Nat} {ops : Array Oper} {b : Frame} {a : Act} {k : List Item} {cs : List Frame} {ds : List Deferred} {ρ : Rho}
theorem Duo.Walks.draws (t : D.Two h x) (hs : D.Fits s) {id : Nat} (n : ∀ c, D.Walks h x s (G (b.at a (.inRegion ops (Region.schedule (P.follows .mixedOrders) ops c) :: k)) cs) σ S) : D.Walks h x s (G (b.at a (.code (.region id ops true) :: k)) cs) σ S := by
  refine Duo.Walks.step t hs rfl (Duo.GoOk.quiet (X := fun y => ∃ c, y = G (b.at a (.inRegion ops (Region.schedule (P.follows .mixedOrders) ops c) :: k)) cs) fun w _ => ?_) ?_
  · have : stepG P (h == 0) (G (b.at a (.code (.region id ops true) :: k)) cs) w = .go (G (b.at a (.inRegion ops (Region.schedule (P.follows .mixedOrders) ops (w.tape w.drawn (.order b.fn id))) :: k)) cs) { w with drawn := w.drawn + 1 } := by
      simp [G, stepG, stepG.exec, Frame.at, choose, Sem.run, Question.forced, Question.cut]
    exact ⟨_, w.drawn + 1, #[], this, rfl, ⟨_, rfl⟩, by simp⟩
  · rintro _ _ ⟨rfl, c, rfl⟩
    exact n c

/-- Readers. -/
theorem Duo.Walks.sil (t : D.Two h x) (hs : D.Fits s) (hk : b.kind ≠ .early) {F : Hp → Prop} (hF : F σ) {Ok : Addr → Prop} {Q : Rho → Prop} {rest : List Nat} (n : ∀ ρ a, Agree N a ρ ds → Q ρ → D.Walks h x s (G (b.at a (.inRegion ops rest :: k)) cs) σ S) :
    ∀ (p : List Nat) (ρ : Rho) (a : Act), silF P N ops F Ok Q p ρ → Agree N a ρ ds → D.Walks h x s (G (b.at a (.inRegion ops (p ++ rest) :: k)) cs) σ S := by
  intro p
  induction p with
  | nil => exact fun ρ a h ha => n ρ a ha h
  | cons i p ih =>
    intro ρ a hq ha
    simp only [silF] at hq
    cases ho : ops[i]? with
    | none => rw [ho] at hq; exact hq.elim
    | some o =>
      rw [ho] at hq
      obtain ⟨hd, hg, hsl, hok, v, hv, hq⟩ := hq
      refine Duo.Walks.step t hs rfl (Duo.GoOk.quiet (X := fun y => y = G (b.at (a.put o.dst v) (.inRegion ops (p ++ rest) :: k)) cs) fun w hw => ?_) ?_
      · obtain ⟨es, h1, h2⟩ := sil_step (main := (h == 0)) (k := k) (cs := cs) (rest := p ++ rest) ho hg hsl (hv σ hF) hk ha w hw
        refine ⟨_, w.drawn, es, h1, rfl, rfl, fun e he => ?_⟩
        obtain ⟨y, hy, _, hz⟩ := h2 e he
        exact ⟨y, hy, hz⟩
      · rintro _ _ ⟨rfl, rfl⟩
        exact ih _ _ hq (ha.put hd v)

/-- A call that is named outright. -/
theorem Duo.Walks.call (t : D.Two h x) (hs : D.Fits s) {i : Nat} {rest : List Nat} {o : Oper} {f : FuncId} {xs : Array Operand} {ats : Array TypeId} (ho : ops[i]? = some o) (hg : o.guard = none) (hk : b.kind ≠ .early)
    (hop : o.op = .call { callee := .value (.func f), args := xs, argTypes := ats }) (hgo : isGo P f = true)
    (n : D.Walks h x s (G (Frame.enter P f (xs.map a.eval) .normal) (b.at a (.inRegion ops (i :: rest) :: k) :: cs)) σ S) : D.Walks h x s (G (b.at a (.inRegion ops (i :: rest) :: k)) cs) σ S := by
  unfold isGo at hgo
  cases hfn : P.funcs[f]? with
  | none => rw [hfn] at hgo; cases hgo
  | some fn =>
  rw [hfn] at hgo
  simp only [Bool.and_eq_true, Bool.not_eq_true', beq_eq_false_iff_ne, ne_eq] at hgo
  obtain ⟨hnm, hbd⟩ := hgo
  have ef : a.eval (.func f) = .func (.func f) #[] #[] := rfl
  have hr : ∀ w, (execOp a.eval o).run P w = .ok (.enter f (xs.map a.eval)) w := by
    intro w
    exact run_call_body hop hfn (by simpa using hnm) hbd
  have he : ∀ w, (execOp a.eval o).events P w #[] = #[] := by
    intro w
    exact events_call_body hop hfn (by simpa using hnm) hbd _
  refine Duo.Walks.ctl t hs (fun w => ?_) rfl rfl n
  rw [stepG_enter ho (by simp [Region.wanted, hg]) hk (hr w), listed_none (he w)]

theorem Duo.Walks.defer (t : D.Two h x) (hs : D.Fits s) {i : Nat} {rest : List Nat} {o : Oper} {f : FuncId} {xs : Array Operand} {ats : Array TypeId} (ho : ops[i]? = some o) (hg : o.guard = none) (hk : b.kind ≠ .early)
    (hop : o.op = .defer { callee := .value (.func f), args := xs, argTypes := ats })
    (n : D.Walks h x s (G (b.at (Act.put ⟨a.tmps, dcall f (xs.map a.eval) :: a.defers⟩ o.dst undef) (.inRegion ops rest :: k)) cs) σ S) : D.Walks h x s (G (b.at a (.inRegion ops (i :: rest) :: k)) cs) σ S :=
  Duo.Walks.ctl t hs (fun w => stepG_defer ho (by simp [Region.wanted, hg]) hk hop) rfl rfl n

/-- A store of one cell, at a place that is not leaned on. -/
theorem Duo.Walks.store (t : D.Two h x) (hs : D.Fits s) {i : Nat} {rest : List Nat} {o : Oper} {ty : TypeId} {y z : Operand} {bk off : Nat} {u v : Value} {c : Array Value} {et : TypeId} (ho : ops[i]? = some o) (hg : o.guard = none) (hk : b.kind ≠ .early)
    (hop : o.op = .store ty y z) (hy : a.eval y = .pointer (some ⟨bk, off, none⟩)) (hz : a.eval z = v) (hv : v.oneCell' = true) {ie : TypeInfo} (hie : P.info? ty = some ie) (h1 : ie.size = 1) (hb : σ.f bk = some (.cells c et (0, 0))) (hu : c[off]? = some u)
    (hst : ¬ D.Still (.cell ⟨bk, off, none⟩)) (hK : ∀ w, (∀ b o, σ.f b = some o → w.heap[b]? = some o) → D.K w → D.K (w.setCell ⟨bk, off, none⟩ v))
    (n : D.Walks h x s (G (b.at (a.put o.dst undef) (.inRegion ops rest :: k)) cs) (σ.setCell ⟨bk, off, none⟩ v) S) : D.Walks h x s (G (b.at a (.inRegion ops (i :: rest) :: k)) cs) σ S := by
  refine Duo.Walks.step t hs rfl (X := fun g' σ' => σ' = σ.setCell ⟨bk, off, none⟩ v ∧ g' = G (b.at (a.put o.dst undef) (.inRegion ops rest :: k)) cs) ?_ ?_
  · intro J w hse hJ hKw hc hf
    have hw := hse.heap hb
    have hcell : w.cell? ⟨bk, off, none⟩ = some u := by simp [World.cell?, hw, hu]
    have hfro : w.frozen? ⟨bk, off, none⟩ = false := by simp [World.frozen?, hw]
    have hcv := Go.Lib.cells_one (v := v) hv
    have hr : (execOp a.eval o).run P w = .ok .skip (w.setCell ⟨bk, off, none⟩ v) := by
      unfold execOp
      simp [hop, hy, hz, Instr.storeAt, Instr.sureAddr, storeVar, sizeOf, typeInfo, hie, h1, hcv, storeCells, run_store P _ _ v _ hv, Addr.add_zero', hcell, hfro, Result.andThen]
    have he : (execOp a.eval o).events P w #[] = #[⟨.cell ⟨bk, off, none⟩, true, false⟩] := by
      unfold execOp
      simp [hop, hy, hz, Instr.storeAt, Instr.sureAddr, storeVar, sizeOf, typeInfo, hie, h1, hcv, storeCells, run_store P _ _ v _ hv, events_store P _ _ _ v _ hv, Addr.add_zero', hcell, hfro, Result.andThen]
    rw [stepG_none ho (by simp [Region.wanted, hg]) hk hr]
    have hn : ¬ D.Hid bk := fun hh => hse.notJ hb (hJ _ hh)
    have hkept : Kept J w (w.setCell ⟨bk, off, none⟩ v) := Kept.modify hse hb (cellPut ⟨bk, off, none⟩ v)
    refine ⟨σ.setCell ⟨bk, off, none⟩ v, J, hse.modify hb (cellPut ⟨bk, off, none⟩ v), hJ, hK w (fun b o hb => hse.heap hb) hKw, fun c' hc' => ?_, hf.kept hkept, hkept.grows, fun e hev => ?_, rfl, rfl, rfl⟩
    · obtain ⟨k0, hk0⟩ := hc c' hc'
      exact ⟨k0, by rw [hkept.hidden c' (hJ c' (.inr (.inl hc')))]; exact hk0⟩
    · have := mem_listed hev
      rw [he] at this
      simp at this
      subst this
      refine ⟨fun b' hb' => ?_, ⟨⟨by simp, by simp⟩, by simp⟩, ?_⟩
      · simp [MemAct.ofEvent, MemAct.touch?] at hb'
        subst hb'
        exact ⟨fun hS => absurd (.inr (.inr ⟨_, rfl, .inl hS⟩)) hn, fun hS => absurd hS hst, fun hQ => absurd (.inr (.inr ⟨_, rfl, .inr hQ⟩)) hn⟩
      · simp [MemAct.ofEvent, MemAct.low]
        first | exact hse.lt hb | exact Nat.lt_of_lt_of_le (hse.lt hb) hkept.grows
  · rintro _ _ ⟨rfl, rfl⟩
    exact n
end
end
end Go.Qw
-- feed: the worker's birth, to its select.
namespace Go.Qw
open Go Go.Conc Go.Proofs
open Go.ConcX (OfWg)

/-! ### readers in whatever order -/
section
variable {P : Program} {N : Nat} {ops : Array Oper}
theorem wpD_of_sil {E : Env P} {F : Hp → Prop} {Ok : Addr → Prop} {Q : Post} {pn : List PanicEntry → List Deferred → Hp → Prop} {ds : List Deferred} {σ : Hp} (hσ : F σ) (hrd : ∀ (i : Nat) (o : Oper), ops[i]? = some o → isRd o.op = true) :
    ∀ (p : List Nat) (pend : List (Nat × Rho × Value)) (ρ : Rho), silF P N ops F Ok (fun ρ => Q .normal ρ ds σ) p ρ → wpD E N ops Q pn p pend ρ ds σ := by
  intro p
  induction p with
  | nil => exact fun _ _ h => h
  | cons i p ih =>
    intro pend ρ h
    simp only [silF] at h
    cases ho : ops[i]? with
    | none => rw [ho] at h; exact h.elim
    | some o =>
      rw [ho] at h
      obtain ⟨h1, h2, h3, h4, v, h5, h6⟩ := h
      simp only [wpD, ho]
      refine ⟨h1, ?_⟩
      rw [if_pos (hrd i o ho), if_pos (by simp [Region.wanted, h2]), h5 σ hσ]
      exact ih _ _ h6

theorem silF_of_silI {σ : Hp} {Q : Rho → Prop} : ∀ (p : List Nat) (ρ : Rho), silI P N ops σ Q p ρ → silF P N ops (fun κ => κ = σ) (fun _ => True) Q p ρ := by
  intro p
  induction p with
  | nil => exact fun _ h => h
  | cons i p ih =>
    intro ρ h
    simp only [silI] at h
    simp only [silF]
    cases ho : ops[i]? with
    | none => rw [ho] at h; exact h.elim
    | some o =>
      rw [ho] at h
      obtain ⟨h1, h2, h3, v, h4, h5⟩ := h
      exact ⟨h1, h2, h3, fun _ _ => trivial, v, fun κ e => by rw [e]; exact h4, ih _ h5⟩

theorem silI_mono {σ : Hp} {Q Q' : Rho → Prop} (hq : ∀ ρ, Q ρ → Q' ρ) : ∀ (p : List Nat) (ρ : Rho), silI P N ops σ Q p ρ → silI P N ops σ Q' p ρ := by
  intro p
  induction p with
  | nil => exact fun ρ h => hq ρ h
  | cons i p ih =>
    intro ρ h
    simp only [silI] at h ⊢
    cases ho : ops[i]? with
    | none => rw [ho] at h; exact h.elim
    | some o =>
      rw [ho] at h
      obtain ⟨h1, h2, h3, v, h4, h5⟩ := h
      exact ⟨h1, h2, h3, v, h4, ih _ h5⟩

def noEnv (P : Program) : Env P := { main := true, st := fun _ _ _ _ => False, weak := fun h _ => h, own := fun _ _ _ _ _ h => h.elim }

/-- The readers of a drawn region that ends in operation m, walked once in their order: whatever the order, they come to the same. -/
theorem sil_orders {F : Hp → Prop} {Ok : Addr → Prop} {Q : Rho → Prop} {m : Nat} {l : List Nat} {σ : Hp} {ρ : Rho} (hσ : F σ) (hm : P.follows .mixedOrders = true) (hc : chkD (muted ops m) l = true) (he : endsIn ops m = true) (hl : ∃ p, l = p ++ [m])
    (hrd : ∀ (i : Nat) (o : Oper), (muted ops m)[i]? = some o → isRd o.op = true) (hk : ∀ (i : Nat) (o : Oper), i ≠ m → ops[i]? = some o → kindB o.op = true ∧ loadB P o.op = true ∧ o.guard = none) (hd : okDst N (dstAt ops m) = true) (hg : ((ops[m]?).bind (·.guard)) = none) (hs : (ops[m]?).isSome = true)
    (h : ∀ p, l = p ++ [m] → silF P N (muted ops m) F Ok Q p ρ) (t : Nat) :
    ∃ p, Region.schedule (P.follows .mixedOrders) ops t = p ++ [m] ∧ silF P N ops (fun κ => κ = σ) (fun _ => True) (fun ρ => ∃ ρ', Q ρ' ∧ putR ρ' (dstAt ops m) undef = putR ρ (dstAt ops m) undef) p ρ := by
  obtain ⟨p0, rfl⟩ := hl
  obtain ⟨p, hp1, hp2⟩ := sched_ends hm he t
  refine ⟨p, hp1, ?_⟩
  obtain ⟨o, ho⟩ := Option.isSome_iff_exists.1 hs
  have hom : (muted ops m)[m]? = some { o with op := .move (.const undef) } := by simp [muted, Array.getElem?_modify, ho]
  have hdm : o.dst = dstAt ops m := by simp [dstAt, ho]
  have hgm : o.guard = none := by rw [ho] at hg; exact hg
  have key : ∀ (p : List Nat) (ρ : Rho), silF P N (muted ops m) F Ok Q p ρ → silF P N (muted ops m) F Ok (fun ρ => ∃ ρ', Q ρ' ∧ ρ = putR ρ' (dstAt ops m) undef) (p ++ [m]) ρ := by
    intro p
    induction p with
    | nil =>
      intro ρ h0
      simp only [List.nil_append, silF, hom]
      exact ⟨by rw [hdm]; exact hd, hgm, trivial, fun y hy => hy.elim, undef, fun κ _ => by simp [readV, evR], ρ, h0, by rw [hdm]⟩
    | cons i p ih =>
      intro ρ h0
      simp only [List.cons_append, silF] at h0 ⊢
      cases hi : (muted ops m)[i]? with
      | none => rw [hi] at h0; exact h0.elim
      | some oi =>
        rw [hi] at h0
        obtain ⟨h1, h2, h3, h4, v, h5, h6⟩ := h0
        exact ⟨h1, h2, h3, h4, v, h5, ih _ h6⟩
  have hD := wpD_of_sil (E := noEnv P) (Q := onlyN fun ρ ds τ => ∃ ρ', Q ρ' ∧ ρ = putR ρ' (dstAt ops m) undef) (pn := fun _ _ _ => False) (ds := []) hσ hrd (p0 ++ [m]) [] ρ (key p0 ρ (h p0 rfl))
  have hO := draw_sound hc hm (fun _ _ _ _ h => h.elim) hD t
  rw [muted_sched hm, hp1] at hO
  have hI := silI_of p hp2 hk ρ hO
  refine silF_of_silI p ρ ?_
  refine silI_mono (fun ρ hq => ?_) p ρ hI
  obtain ⟨ρ', h1, h2⟩ := hq
  exact ⟨ρ', h1, h2.symm⟩
end
end Go.Qw
-- feed: the worker's birth, to its select: the walk.
namespace Go.Qw
open Go Go.Conc Go.Proofs
open Go.ConcX (OfWg)

noncomputable def B56 : Code := Tryz.f56.body.getD .skip
noncomputable def d56 : Array Oper := opsC (lftC B56)
noncomputable def o56 : Array Oper := opsC (rgtC B56)
def b56 : Frame := baseD 56
noncomputable def bot : Frame := { (default : Frame) with fn := Tryz.prog.funcs.size, defers := [], mode := .panicking [goexitEntry] }
theorem B56_eq : B56 = .seq (.region 0 d56 false) (.region 1 o56 true) := by kernel_rfl
theorem d56_0 : ∃ ps af ats ty, d56[0]? = some { dst := none, op := .defer { callee := .value (.func 57), args := #[.tmp 0], argTypes := ats }, type := ty, pos := ps, after := af, guard := none } := ⟨_, _, _, _, by simp only [d56, B56, Tryz.f56, Option.getD_some, lftC, opsC]; rfl⟩
theorem o56_7 : ∃ ps af ats ty, o56[7]? = some { dst := some 13, op := .call { callee := .value (.func 58), args := #[.tmp 8, .tmp 9, .tmp 10, .tmp 11, .tmp 12], argTypes := ats }, type := ty, pos := ps, after := af, guard := none } := ⟨_, _, _, _, by simp only [o56, B56, Tryz.f56, Option.getD_some, rgtC, opsC]; rfl⟩
theorem p0_8 : ∃ ps af, p0[8]? = some { dst := none, op := .store 9 (.tmp 18) (.tmp 16), type := 0, pos := ps, after := af, guard := none } := ⟨_, _, by simp only [p0, B58, Tryz.f58, Option.getD_some, lftC, opsC]; rfl⟩

set_option maxRecDepth 100000 in
theorem ends56 : endsIn o56 7 = true := by kernel_rfl
set_option maxRecDepth 100000 in
theorem chk56 : chkD (muted o56 7) [0, 1, 2, 3, 4, 5, 6, 7] = true := by kernel_rfl

def args56 (wg cb kb sb ub db : Nat) : Array Value := #[.pointer (some ⟨wg, 0, none⟩), .pointer (some ⟨cb, 0, none⟩), .pointer (some ⟨kb, 0, none⟩), .pointer (some ⟨sb, 0, none⟩), .pointer (some ⟨ub, 0, none⟩), .pointer (some ⟨db, 0, none⟩)]
/-- The call that the go statement makes. -/
def call56 (wg cb kb sb ub db : Nat) : Deferred := { target := .fn (.func 56) (args56 wg cb kb sb ub db), args := #[] }

set_option maxRecDepth 100000 in
theorem born_step (wg cb kb sb ub db : Nat) (w : World) : stepG Tryz.prog false (born Tryz.prog (call56 wg cb kb sb ub db)) w =
    .go (G (b56.at ⟨args56 wg cb kb sb ub db ++ Array.replicate (14 - (args56 wg cb kb sb ub db).size) undef, []⟩ [.code B56]) [bot]) w #[] := by
  simp [born, call56, args56, stepG, unwind, callDeferred, invoke, callFunc, Tryz.func56, Tryz.f56, seen, GStep.after, G, Frame.enter, Frame.at, b56, baseD, bot, B56]
end Go.Qw
-- feed: the worker's birth, to its select.
namespace Go.Qw
open Go Go.Conc Go.Proofs
open Go.ConcX (OfWg)

namespace Tk
variable (t : Tk)
/-- A block that stands apart from the talk's own. -/
structure Ok (b : Nat) : Prop where
  n1 : b ≠ t.c1
  n2 : b ≠ t.c2
  n3 : b ≠ t.c3
  nw : b ≠ t.wg
  nu : b ≠ t.ub
  nj : ¬ t.Jh b
  lt : b < t.Bd

/-- What goroutine 0 leans on while the worker begins. -/
def K1 (bc : Nat) (l : List Value) (w : World) : Prop :=
  t.K0 w ∧ w.heap[t.cb]? = some (.cells #[.pointer (some ⟨bc, 0, none⟩)] 70 (0, 0)) ∧ w.heap[t.sb]? = some (.cells #[.chan (some t.c1)] 119 (0, 0)) ∧ ∃ r, w.heap[bc]? = some (.cells (l.set 3 r).toArray 90 (0, 0))
def S1 (bc : Nat) (l : Loc) : Prop := l = .cell ⟨t.ub, 0, none⟩ ∨ ∃ a, l = .cell a ∧ Rd t.cb t.sb bc a

variable {t}
theorem Ok.chan {b : Nat} (h : t.Ok b) {c : Nat} (hc : t.chans c) : b ≠ c := by rcases hc with rfl | rfl | rfl; exact h.n1; exact h.n2; exact h.n3
theorem rd_ok {bc : Nat} (hc : t.Ok t.cb) (hs : t.Ok t.sb) (hb : t.Ok bc) {a : Addr} (h : Rd t.cb t.sb bc a) : t.Ok a.block := by
  rcases h with rfl | rfl | rfl | rfl
  · exact hc
  · exact hs
  · exact hb
  · exact hb

/-- The worker begins: it holds the token. -/
def B1 (t : Tk) (HK : Nat → Prop) (bc : Nat) (l : List Value) (hc : t.Ok t.cb) (hs : t.Ok t.sb) (hb : t.Ok bc) : Duo Tryz.prog := { t.A with
  K := t.K1 bc l
  KW := t.K1 bc l
  hKW := fun w h => h
  HK := HK
  Still := t.S1 bc
  hKat := fun w d h => h
  hKset := by
    rintro w c k hcc ⟨h1, h2, h3, r, h4⟩
    exact ⟨k0_set hcc h1, (heap_setChan_ne w _ _ _ _ _ _ (Ne.symm (hc.chan hcc)).symm.symm).trans h2, (heap_setChan_ne w _ _ _ _ _ _ (Ne.symm (hs.chan hcc))).trans h3, r, (heap_setChan_ne w _ _ _ _ _ _ (Ne.symm (hb.chan hcc))).trans h4⟩
  cell := by
    rintro l (⟨a, rfl, _⟩ | (rfl | ⟨a, rfl, _⟩) | ⟨a, rfl, _⟩) <;> exact ⟨_, rfl⟩
  apart := by
    obtain ⟨a1, a2, a3, a4, a5, a6⟩ := t.hub
    rintro l (rfl | ⟨a, rfl, hr⟩)
    · refine ⟨?_, ?_⟩
      · rintro ⟨a, e, h⟩
        obtain rfl : a = ⟨t.ub, 0, none⟩ := by simpa using e.symm
        rcases h with h | h
        · exact a5 h
        · exact a4 h
      · rintro ⟨a, e, h⟩
        obtain rfl : a = ⟨t.ub, 0, none⟩ := by simpa using e.symm
        exact a4 h
    · have ho := rd_ok hc hs hb hr
      refine ⟨?_, ?_⟩
      · rintro ⟨a', e, h⟩
        obtain rfl : a' = a := by simpa using e.symm
        rcases h with h | h
        · exact ho.nj h
        · exact ho.nw h
      · rintro ⟨a', e, h⟩
        obtain rfl : a' = a := by simpa using e.symm
        exact ho.nw h }

theorem fitsS {HK : Nat → Prop} {bc : Nat} {l : List Value} {hc : t.Ok t.cb} {hs : t.Ok t.sb} {hb : t.Ok bc} (fr : Int) : (t.B1 HK bc l hc hs hb).Fits (t.sS fr) := by
  intro cc h
  simp only [seatS, List.mem_toArray, List.mem_cons, List.not_mem_nil, or_false] at h
  subst h
  exact ⟨t.c1, .inl rfl, rfl⟩
end Tk

/-- What the worker sees at its birth. -/
structure Bw (t : Tk) (bc kb : Nat) (l : List Value) (ch : List UInt8) (σ : Hp) : Prop where
  c : σ.f t.cb = some (.cells #[.pointer (some ⟨bc, 0, none⟩)] 70 (0, 0))
  k : σ.f kb = some (.cells #[.string (B ch)] 9 (0, 0))
  s : σ.f t.sb = some (.cells #[.chan (some t.c1)] 119 (0, 0))
  u : σ.f t.ub = some (.cells #[.chan (some t.c2)] 120 (0, 0))
  d : σ.f t.db = some (.cells #[.chan (some t.c3)] 121 (0, 0))
  b : σ.f bc = some (.cells l.toArray 90 (0, 0))

/-- The frames below the worker's loop. -/
def CW (wg : Nat) (cw : List Frame) : Prop := ∃ a, a.defers = [dcall 57 #[.pointer (some ⟨wg, 0, none⟩)]] ∧ a.tmps.size = 14 ∧ cw = [b56.at a [.inRegion o56 [7]], bot]

structure A56 (t : Tk) (bc : Nat) (ch : List UInt8) (ρ : Rho) : Prop where
  a : ρ 8 = .pointer (some ⟨bc, 3, none⟩)
  k : ρ 9 = .string (B ch)
  s : ρ 10 = .chan (some t.c1)
  u : ρ 11 = .chan (some t.c2)
  d : ρ 12 = .chan (some t.c3)

set_option maxRecDepth 100000 in
theorem sil56 {t : Tk} {bc kb : Nat} {l : List Value} {ch : List UInt8} {ρ : Rho} (h1 : ρ 1 = .pointer (some ⟨t.cb, 0, none⟩)) (h2 : ρ 2 = .pointer (some ⟨kb, 0, none⟩)) (h3 : ρ 3 = .pointer (some ⟨t.sb, 0, none⟩)) (h4 : ρ 4 = .pointer (some ⟨t.ub, 0, none⟩)) (h5 : ρ 5 = .pointer (some ⟨t.db, 0, none⟩)) :
    silF Tryz.prog 14 (muted o56 7) (Bw t bc kb l ch) (fun _ => True) (A56 t bc ch) [0, 1, 2, 3, 4, 5, 6] ρ := by
  have hm : muted o56 7 = #[] ∨ True := .inr trivial
  simp only [o56, B56, Tryz.f56, Option.getD_some, rgtC, opsC]
  refine silF_load (a := ⟨t.cb, 0, none⟩) (v := .pointer (some ⟨bc, 0, none⟩)) rfl (by decide) (by simp [evR, h1]) (by kernel_rfl) (by kernel_rfl) trivial (fun κ h => cell_set0 h.c rfl) ?_
  refine silF_nil (a := ⟨bc, 0, none⟩) rfl (by decide) (by simp [evR, up]) ?_
  refine silF_field (a := ⟨bc, 0, none⟩) (off := 3) rfl (by decide) (by simp [evR, up]) (by kernel_rfl) ?_
  refine silF_load (a := ⟨kb, 0, none⟩) (v := .string (B ch)) rfl (by decide) (by simp [evR, up, h2]) (by kernel_rfl) (by kernel_rfl) trivial (fun κ h => cell_set0 h.k rfl) ?_
  refine silF_load (a := ⟨t.sb, 0, none⟩) (v := .chan (some t.c1)) rfl (by decide) (by simp [evR, up, h3]) (by kernel_rfl) (by kernel_rfl) trivial (fun κ h => cell_set0 h.s rfl) ?_
  refine silF_load (a := ⟨t.ub, 0, none⟩) (v := .chan (some t.c2)) rfl (by decide) (by simp [evR, up, h4]) (by kernel_rfl) (by kernel_rfl) trivial (fun κ h => cell_set0 h.u rfl) ?_
  refine silF_load (a := ⟨t.db, 0, none⟩) (v := .chan (some t.c3)) rfl (by decide) (by simp [evR, up, h5]) (by kernel_rfl) (by kernel_rfl) trivial (fun κ h => cell_set0 h.d rfl) ?_
  exact ⟨by simp [up, Addr.add], by simp [up], by simp [up], by simp [up], by simp [up]⟩

/-- At the store, in F58. -/
structure A58 (t : Tk) (bc : Nat) (x : List UInt8) (ρ : Rho) : Prop where
  w : Fw bc t.c1 t.c2 t.c3 ρ
  v : ρ 16 = .string (B x)
  p : ρ 18 = .pointer (some ⟨bc, 3, none⟩)

set_option maxRecDepth 100000 in
theorem sil58 {t : Tk} {bc kb : Nat} {l : List Value} {ch rest : List UInt8} {ρ : Rho} (hF : Fw bc t.c1 t.c2 t.c3 ρ) (h1 : ρ 1 = .string (B ch)) (hl : l[3]? = some (.string (B rest))) (hn : rest.length + ch.length ≤ 9223372036854775807) :
    silF Tryz.prog 30 p0 (Bw t bc kb l ch) (fun _ => True) (A58 t bc (rest ++ ch)) [0, 1, 2, 3, 4, 5, 6, 7] ρ := by
  simp only [p0, B58, Tryz.f58, Option.getD_some, lftC, opsC]
  refine silF_move rfl (by decide) ?_
  refine silF_nil (a := ⟨bc, 3, none⟩) rfl (by decide) (by simp [evR, up, hF.c]) ?_
  refine silF_field (a := ⟨bc, 3, none⟩) (off := 0) rfl (by decide) (by simp [evR, up]) (by kernel_rfl) ?_
  refine silF_load (a := ⟨bc, 3, none⟩) (v := .string (B rest)) rfl (by decide) (by simp [evR, up, Addr.add]) (by kernel_rfl) (by kernel_rfl) trivial (fun κ h => cell_set0 h.b (by simpa using hl)) ?_
  refine silF_move rfl (by decide) ?_
  refine silF_bin (v := .string (B (rest ++ ch))) rfl (by decide) (by simp [evR, up, h1, bv_cat, condO, hn]) ?_
  refine silF_nil (a := ⟨bc, 3, none⟩) rfl (by decide) (by simp [evR, up, hF.c]) ?_
  refine silF_field (a := ⟨bc, 3, none⟩) (off := 0) rfl (by decide) (by simp [evR, up]) (by kernel_rfl) ?_
  refine ⟨?_, by simp [up], by simp [up, Addr.add]⟩
  exact (((((((hF.up (by decide) _).up (by decide) _).up (by decide) _).up (by decide) _).up (by decide) _).up (by decide) _).up (by decide) _).up (by decide) _

section
variable {t : Tk} {HK : Nat → Prop} {bc kb : Nat} {l : List Value} {ch rest : List UInt8} {hc : t.Ok t.cb} {hs : t.Ok t.sb} {hb : t.Ok bc} {σ : Hp} {fr : Int}

theorem all_get {p : Oper → Bool} {ops : Array Oper} (h : ops.all p = true) {i : Nat} {o : Oper} (ho : ops[i]? = some o) : p o = true := by
  rw [Array.all_eq_true] at h
  obtain ⟨hi, rfl⟩ := Array.getElem?_eq_some_iff.1 ho
  exact h i hi
theorem rd56 : (muted o56 7).all (fun o => isRd o.op) = true := by kernel_rfl
theorem kd56 : (muted o56 7).all (fun o => kindB o.op && loadB Tryz.prog o.op && o.guard.isNone) = true := by kernel_rfl
theorem info9 : ∃ ie, Tryz.prog.info? 9 = some ie ∧ ie.size = 1 := by
  have : (Tryz.prog.info? 9).map (·.size) = some 1 := by kernel_rfl
  exact Option.map_eq_some_iff.1 this
theorem setCell_ne (w : World) {a : Addr} {b : Nat} (v : Value) (h : b ≠ a.block) : (w.setCell a v).heap[b]? = w.heap[b]? := by
  simp only [World.setCell, Array.getElem?_modify, if_neg (Ne.symm h)]
theorem b58_body : Tryz.f58.body = some B58 := by kernel_rfl

set_option maxRecDepth 100000 in
theorem birth_walk (hW : Bw t bc kb l ch σ) (hl : l[3]? = some (.string (B rest))) (hn : rest.length + ch.length ≤ 9223372036854775807) :
    (t.B1 HK bc l hc hs hb).Walks t.j 0 (t.sS fr) (born Tryz.prog (call56 t.wg t.cb kb t.sb t.ub t.db)) σ fun g τ => τ = σ.setCell ⟨bc, 3, none⟩ (.string (B (rest ++ ch))) ∧ ∃ cw ρ a, CW t.wg cw ∧ Agree 30 a ρ [] ∧ Fw bc t.c1 t.c2 t.c3 ρ ∧ g = G (b58.at a (.code L58 :: .inLoop L58 :: .inBlock 0 :: [])) cw := by
  have tj : (t.B1 HK bc l hc hs hb).Two t.j 0 := .inr ⟨rfl, rfl⟩
  have hf := Tk.fitsS (t := t) (HK := HK) (hc := hc) (hs := hs) (hb := hb) (l := l) fr
  have hj0 : (t.j == 0) = false := by have := t.hj; simp; omega
  have hm : Tryz.prog.follows .mixedOrders = true := by kernel_rfl
  refine Duo.Walks.ctl tj hf (fun w => by rw [hj0]; exact born_step _ _ _ _ _ _ w) rfl rfl ?_
  have ha0 := agree_start (args56 t.wg t.cb kb t.sb t.ub t.db) 14 (by simp [args56])
  generalize hρ0 : startR (args56 t.wg t.cb kb t.sb t.ub t.db) 14 = ρ0 at ha0
  have q0 : ρ0 0 = .pointer (some ⟨t.wg, 0, none⟩) := by rw [← hρ0]; rfl
  have q1 : ρ0 1 = .pointer (some ⟨t.cb, 0, none⟩) := by rw [← hρ0]; rfl
  have q2 : ρ0 2 = .pointer (some ⟨kb, 0, none⟩) := by rw [← hρ0]; rfl
  have q3 : ρ0 3 = .pointer (some ⟨t.sb, 0, none⟩) := by rw [← hρ0]; rfl
  have q4 : ρ0 4 = .pointer (some ⟨t.ub, 0, none⟩) := by rw [← hρ0]; rfl
  have q5 : ρ0 5 = .pointer (some ⟨t.db, 0, none⟩) := by rw [← hρ0]; rfl
  clear hρ0
  generalize (⟨args56 t.wg t.cb kb t.sb t.ub t.db ++ _, []⟩ : Act) = a0 at ha0 ⊢
  rw [B56_eq]
  refine Duo.Walks.ctl tj hf (fun w => stepG_seq) rfl rfl ?_
  refine Duo.Walks.ctl tj hf (fun w => stepG_region) rfl rfl ?_
  have hr : List.range d56.size = [0] := by kernel_rfl
  rw [hr]
  obtain ⟨ps, af, ats, ty, ho⟩ := d56_0
  refine Duo.Walks.defer tj hf ho rfl (by simp [b56, baseD]) rfl ?_
  have e0 : a0.eval (.tmp 0) = .pointer (some ⟨t.wg, 0, none⟩) := by rw [ha0.eval]; exact q0
  have hdf : a0.defers = [] := ha0.defers
  have ha1 : Agree 14 (Act.put ⟨a0.tmps, dcall 57 (#[Operand.tmp 0].map a0.eval) :: a0.defers⟩ none undef) ρ0 [dcall 57 #[.pointer (some ⟨t.wg, 0, none⟩)]] := by
    have := ha0.defer (dcall 57 #[.pointer (some ⟨t.wg, 0, none⟩)])
    rw [hdf] at *
    simpa [Act.put, e0] using this
  generalize Act.put ⟨a0.tmps, dcall 57 (#[Operand.tmp 0].map a0.eval) :: a0.defers⟩ none undef = a1 at ha1 ⊢
  refine Duo.Walks.ctl tj hf (fun w => stepG_region_end) rfl rfl ?_
  refine Duo.Walks.draws tj hf fun c => ?_
  obtain ⟨ps, af, ats, ty, ho⟩ := o56_7
  have hd7 : dstAt o56 7 = some 13 := by simp [dstAt, ho]
  obtain ⟨p, hp, hsil⟩ := sil_orders (P := Tryz.prog) (N := 14) (ops := o56) (m := 7) (l := [0, 1, 2, 3, 4, 5, 6, 7]) (F := Bw t bc kb l ch) (Ok := fun _ => True) (Q := A56 t bc ch) (ρ := ρ0) hW hm chk56 ends56 ⟨[0, 1, 2, 3, 4, 5, 6], rfl⟩
    (fun i o h => all_get rd56 h) (fun i o hi h => by
      have := all_get kd56 ((muted_get hi).trans h)
      simp only [Bool.and_eq_true, Option.isNone_iff_eq_none] at this
      exact ⟨this.1.1, this.1.2, this.2⟩) (by rw [hd7]; rfl) (by rw [ho]; rfl) (by rw [ho]; rfl) (fun p hp => by
      obtain rfl : p = [0, 1, 2, 3, 4, 5, 6] := by
        have := congrArg List.dropLast hp
        simpa using this.symm
      exact sil56 q1 q2 q3 q4 q5) c
  rw [hp]
  refine Duo.Walks.sil tj hf (N := 14) (ds := [dcall 57 #[.pointer (some ⟨t.wg, 0, none⟩)]]) (by simp [b56, baseD]) (F := fun κ => κ = σ) rfl (Ok := fun _ => True) (rest := [7]) (fun ρ a ha hq => ?_) p ρ0 a1 hsil ha1
  obtain ⟨ρ', hA, hput⟩ := hq
  have heq : ∀ i, i ≠ 13 → ρ i = ρ' i := fun i hi => by
    have := congrFun hput i
    simp only [hd7, putR, up, if_neg hi] at this
    exact this.symm
  have k8 : ρ 8 = _ := (heq 8 (by decide)).trans hA.a
  have k9 : ρ 9 = _ := (heq 9 (by decide)).trans hA.k
  have k10 : ρ 10 = _ := (heq 10 (by decide)).trans hA.s
  have k11 : ρ 11 = _ := (heq 11 (by decide)).trans hA.u
  have k12 : ρ 12 = _ := (heq 12 (by decide)).trans hA.d
  refine Duo.Walks.call tj hf ho rfl (by simp [b56, baseD]) rfl go_58 ?_
  have hargs : (#[Operand.tmp 8, .tmp 9, .tmp 10, .tmp 11, .tmp 12]).map a.eval = #[.pointer (some ⟨bc, 3, none⟩), .string (B ch), .chan (some t.c1), .chan (some t.c2), .chan (some t.c3)] := by
    rw [ha.eval]; simp [evR, k8, k9, k10, k11, k12]
  rw [hargs, enter_at _ Tryz.func58 b58_body, B58_eq]
  have hnt : Tryz.f58.ntmps = 30 := rfl
  rw [hnt]
  have ha2 := agree_start #[.pointer (some ⟨bc, 3, none⟩), .string (B ch), .chan (some t.c1), .chan (some t.c2), .chan (some t.c3)] 30 (by simp)
  generalize hρ2 : startR _ 30 = ρ2 at ha2
  have hF2 : Fw bc t.c1 t.c2 t.c3 ρ2 := by rw [← hρ2]; exact ⟨rfl, rfl, rfl, rfl⟩
  have r1 : ρ2 1 = .string (B ch) := by rw [← hρ2]; rfl
  clear hρ2
  generalize (⟨_ ++ Array.replicate (30 - _) undef, []⟩ : Act) = a2 at ha2 ⊢
  have hcw : CW t.wg (b56.at a [.inRegion o56 [7]] :: [bot]) := ⟨a, ha.defers, ha.size, rfl⟩
  generalize (b56.at a [.inRegion o56 [7]] :: [bot]) = cw at hcw ⊢
  change Duo.Walks _ _ _ _ (G (b58.at a2 [.code (.seq (.region 0 p0 false) (.block 0 (.loop L58)))]) cw) _ _
  refine Duo.Walks.ctl tj hf (fun w => stepG_seq) rfl rfl ?_
  refine Duo.Walks.ctl tj hf (fun w => stepG_region) rfl rfl ?_
  have hr2 : List.range p0.size = [0, 1, 2, 3, 4, 5, 6, 7] ++ [8] := by kernel_rfl
  rw [hr2]
  refine Duo.Walks.sil tj hf (N := 30) (ds := []) (by simp [b58]) (F := Bw t bc kb l ch) hW (Ok := fun _ => True) (rest := [8]) (fun ρ a ha hA => ?_) [0, 1, 2, 3, 4, 5, 6, 7] ρ2 a2 (sil58 hF2 r1 hl hn) ha2
  obtain ⟨ps, af, ho⟩ := p0_8
  obtain ⟨ie, hie, hie1⟩ := info9
  refine Duo.Walks.store tj hf ho rfl (by simp [b58]) (ty := 9) (y := .tmp 18) (z := .tmp 16) (bk := bc) (off := 3) (v := .string (B (rest ++ ch))) (c := l.toArray) (et := 90) (u := .string (B rest)) rfl (by rw [ha.eval]; exact hA.p) (by rw [ha.eval]; exact hA.v) rfl hie hie1 hW.b (by simpa using hl) ?_ ?_ ?_
  · rintro (h | ⟨a, h, h' | h' | h' | h'⟩)
    · simp at h
    all_goals (subst h'; simp at h)
  · rintro w hw ⟨⟨g1, g2⟩, g3, g4, r, g5⟩
    have n1 : t.cb ≠ bc := fun e => by rw [e] at g3; rw [g3] at g5; simp at g5
    have n2 : t.sb ≠ bc := fun e => by rw [e] at g4; rw [g4] at g5; simp at g5
    refine ⟨⟨(setCell_ne w _ (Ne.symm hb.nu)).trans g1, (setCell_ne w _ (Ne.symm hb.nw)).trans g2⟩, (setCell_ne w _ n1).trans g3, (setCell_ne w _ n2).trans g4, .string (B (rest ++ ch)), ?_⟩
    simp only [World.setCell, Array.getElem?_modify, if_true, g5, Option.map_some]
    simp
  refine Duo.Walks.ctl tj hf (fun w => stepG_region_end) rfl rfl ?_
  refine Duo.Walks.ctl tj hf (fun w => stepG_block) rfl rfl ?_
  refine Duo.Walks.ctl tj hf (fun w => stepG_loop) rfl rfl ?_
  exact Duo.Walks.here ⟨rfl, cw, ρ, _, hcw, ha.put (dst := none) rfl undef, hA.w, rfl⟩
end
end Go.Qw
-- feed: from the worker's birth to goroutine 0's leaving the loop.
namespace Go.Qw
open Go Go.Conc Go.Proofs
open Go.ConcX (OfWg)

/-- A block that is seen no more, but leaned on, is hidden. -/
theorem Tk.hide {t : Tk} {bc : Nat} {l : List Value} {hc : t.Ok t.cb} {hs : t.Ok t.sb} {hb : t.Ok bc} {h x : Nat} {s : Seat} {g : Goroutine} {σ : Hp} {m : Machine} {T : Trace} (hu : σ.f t.ub = none)
    (hSt : (t.B1 (fun b => b = t.wg) bc l hc hs hb).St h x s g σ m T) : (t.B1 t.HK bc l hc hs hb).St h x s g σ m T := by
  obtain ⟨gs, w, sl, q, J, n, y, rfl, e1, e2, e3, e4, e5, e6, e7⟩ := hSt
  refine ⟨gs, w, sl, q, fun b => J b ∨ b = t.ub, n, y, rfl, e1, e2, e3, ⟨e4.jlt, e4.crew, e4.above, e4.d0, e4.dj, e4.k, e4.chans, e4.bnd, e4.firm, e4.nr⟩, e5, ⟨e6.heap, fun b hb => ?_, fun b hb => ?_⟩, fun b hb => ?_⟩
  · rcases hb with hb | rfl
    · exact e6.hid b hb
    · exact hu
  · rcases hb with hb | rfl
    · exact e6.low b hb
    · have : w.heap[t.ub]? = some _ := e4.k.1.1
      exact (Array.getElem?_eq_some_iff.1 this).1
  · rcases hb with (rfl | rfl) | hb | hb
    · exact .inr rfl
    · exact .inl (e7 _ (.inl rfl))
    · exact .inl (e7 _ (.inr (.inl hb)))
    · exact .inl (e7 _ (.inr (.inr hb)))

theorem Tk.nextB {t : Tk} {bc : Nat} {l : List Value} {hc : t.Ok t.cb} {hs : t.Ok t.sb} {hb : t.Ok bc} : (t.B1 t.HK bc l hc hs hb).Next t.D := ⟨rfl, rfl, rfl, rfl, rfl, rfl, fun _ h => h.1, fun _ h => h⟩

section
variable (F : FS) {t : Tk} {φ : Hp} {kb : Nat} {l : List Value} {ch : List UInt8} {hc : t.Ok t.cb} {hs : t.Ok t.sb} {hb : t.Ok F.bc}

set_option maxRecDepth 100000 in
theorem feed_talk {a : F.γ} {σ0 σ : Hp} {m : Machine} {T : Trace} (hok : F.okc a ch) (hI : F.I a σ0) (hd : σ0.Dis φ) (hbx : Bx F t.cb t.sb t.db t.c1 t.c3 φ) (hub : (σ0.uni φ).f t.ub = none) (hp : F.ph a ≠ 5) (hle : (σ0.uni φ).le σ) (hW : Bw t F.bc kb l ch σ) (hn : ch.length ≤ 4611686018427387904)
    (hl : l[3]? = some (.string (B (F.rest a)))) (hcn : Cn F.bg (F.ph a) (F.fr a) l) (hσ0 : σ0.f F.bc = some (.cells l.toArray 90 (0, 0)))
    (hSt : (t.B1 (fun b => b = t.wg) F.bc l hc hs hb).St t.j 0 (t.sS (F.fr a)) (born Tryz.prog (call56 t.wg t.cb kb t.sb t.ub t.db)) σ m T) :
    ∃ N m' T' a' σ' g' cw, runNT Tryz.prog N m T = (.next m', T') ∧ F.Loop (F.add a ch) a' ∧ F.I a' σ' ∧ σ'.Dis φ ∧ CW t.wg cw ∧ AtTail t.cb t.sb t.ub t.db t.wg t.cs g' ∧ t.A.St 0 t.j (seatW F.bc t.c1 t.c2 t.c3 cw) g' (σ'.uni φ) m' T' := by
  have hsm := F.small hI
  have tj : (t.B1 (fun b => b = t.wg) F.bc l hc hs hb).Two t.j 0 := .inr ⟨rfl, rfl⟩
  obtain ⟨N1, m1, T1, g1, τ, r1, st1, rfl, cw, ρ, ac, hcw, ha, hFw, rfl⟩ := birth_walk (t := t) (HK := fun b => b = t.wg) (hc := hc) (hs := hs) (hb := hb) (fr := F.fr a) hW hl (by omega) m T hSt
  -- what the chunk is added to
  have hI1 := F.grow ch hok hI hσ0
  obtain ⟨σ1, hσ1⟩ : ∃ σ1, σ1 = σ0.set F.bc (.cells (l.set 3 (.string (B (F.rest a ++ ch)))).toArray 90 (0, 0)) := ⟨_, rfl⟩
  rw [← hσ1] at hI1
  have hd1 : σ1.Dis φ := by
    rw [hσ1]
    exact dis_set hd (dis_some hd hσ0)
  have hle1 : (σ1.uni φ).le (σ.setCell ⟨F.bc, 3, none⟩ (.string (B (F.rest a ++ ch)))) := by
    intro b o hb'
    rw [hσ1, ← set_uni] at hb'
    by_cases e : b = F.bc
    · subst e
      simp only [Hp.set, if_true, Option.some.injEq] at hb'
      subst hb'
      simp [Hp.setCell, Hp.modify, hW.b, cellPut]
    · simp only [Hp.set, if_neg e] at hb'
      simp only [Hp.setCell, Hp.modify, if_neg e]
      exact hle b o hb'
  have hub1 : (σ1.uni φ).f t.ub = none := by
    rw [hσ1, ← set_uni]
    have : t.ub ≠ F.bc := fun e => hb.nu e.symm
    simpa [Hp.set, this] using hub
  obtain ⟨gs, w, sl, q, J, n0, y, rfl, e1, e2, e3, e4, e5, e6, e7⟩ := st1
  have st2 : (t.B1 t.HK F.bc l hc hs hb).St t.j 0 (t.sS (F.fr a)) _ (σ1.uni φ) (crowd gs w sl) T1 := Tk.hide hub1 ⟨gs, w, sl, q, J, n0, y, rfl, e1, e2, e3, e4, e5, e6.weak hle1, e7⟩
  clear e1 e2 e3 e4 e5 e6 e7
  obtain ⟨gs', w', sl', q', J', n', y', em, e1, e2, e3, e4, e5, e6, e7⟩ := st2
  -- the first number
  obtain ⟨t', ht'⟩ : ∃ t' : Tk, t' = { t with cw := cw } := ⟨_, rfl⟩
  have hj0 : (t.j == 0) = false := by have := t.hj; simp; omega
  have fW : (t.B1 t.HK F.bc l hc hs hb).Fits (seatW F.bc t.c1 t.c2 t.c3 cw) := by
    intro cc h
    simp only [seatW, List.mem_toArray, List.mem_cons, List.not_mem_nil, or_false] at h
    rcases h with rfl | rfl
    · exact ⟨t.c1, .inl rfl, rfl⟩
    · exact ⟨t.c3, .inr (.inr rfl), rfl⟩
  have hh := way_head (main := t.j == 0) (K := (t.B1 t.HK F.bc l hc hs hb).KW) (Still := (t.B1 t.HK F.bc l hc hs hb).Still) (Bd := (t.B1 t.HK F.bc l hc hs hb).B) (c1 := t.c1) (c2 := t.c2) (c3 := t.c3) (cw := cw) ha hFw
  have t0j : (t.B1 t.HK F.bc l hc hs hb).Two 0 t.j := .inl ⟨rfl, rfl⟩
  obtain ⟨N2, m2, T2, r2, met2⟩ := (t.B1 t.HK F.bc l hc hs hb).meet (a := 0) (b := t.j) t0j (sa := t.sS (F.fr a)) (sb := seatW F.bc t.c1 t.c2 t.c3 cw) (c := t.c1) (kk := 0) (v := .int .i64 (F.fr a)) (.inl rfl) rfl rfl fW (by rfl) (fun m cc hm hcc => by
        rcases m with _ | _ | m
        · exact absurd rfl hm
        · simp [seatW] at hcc; subst hcc
          simp only [rcase, ne_eq, Value.chan.injEq, Option.some.injEq]
          exact fun e => t.d13 e.symm
        · simp [seatW] at hcc) (fun cc hcc => by
        simp only [seatW, List.mem_toArray, List.mem_cons, List.not_mem_nil, or_false] at hcc
        rcases hcc with rfl | rfl <;> rfl) (.inr ⟨rfl, rfl⟩) (sl := sl') e2 e1 e3 (.inl ⟨_, rfl, hh⟩) e4 e5 e6 e7 (.inr (by omega))
  obtain ⟨gb, hgb, st3⟩ := met2.stay Tk.nextB (fun l h => .inl h) (fun ga h => t.headsR h)
  have e : commResult (seatW F.bc t.c1 t.c2 t.c3 cw).cases (seatW F.bc t.c1 t.c2 t.c3 cw).shape ((0 : Nat) : Int) (.int .i64 (F.fr a)) true = .tuple #[.int .i64 0, .bool true, .int .i64 (F.fr a), .agg #[]] := Tk.sel_num { t with cw := cw } (F.fr a) F.bc
  rw [e, ← F.frA a ch] at st3
  obtain ⟨N3, m3, T3, a', σ', g', r3, hl3, hI3, hd3, hT3, st4⟩ := talk F { t with cw := cw } hbx _ (F.add a ch) σ1 m2 T2 gb (Nat.lt_succ_self _) (by rw [F.phA]; exact hp) hI1 hd1 hgb st3
  rw [em] at r1
  exact ⟨_, m3, T3, a', σ', g', cw, runNT_then (runNT_then r1 r2) r3, hl3, hI3, hd3, hcw, hT3, st4⟩
end
end Go.Qw
