/- The law Beats of queuewire returns true for every three integers: the row over the given program, tied to its text; no condition besides. (Part 19 of 40: QwIter2 QwFeed1 QwFeed2 QwFeed3.) -/
import Derived.Test.YtpiabknabfbfhaaGreatDoorBeats08
import Derived.Test.YtpiabknabfbfhaaGreatDoorBeats10
import Derived.Test.YtpiabknabfbfhaaGreatDoorBeats18
set_option linter.all false
-- Ranging over a function: the steps of the loop, of a yield, of a round and of the return.
namespace Go.Qw
open Go Go.Conc

section
variable {P : Program} {main : Bool} {b : Frame} {a : Act} {k : List Item} {cs : List Frame} {σ : Hp}

/-- A yield: a round is entered. -/
theorem stepOk_yield {ops : Array Oper} {i : Nat} {rest : List Nat} {dst : Option Tmp} {t x : Operand} {ats : Array TypeId} {ty : TypeId} {pos : String} {af : Array Edge} {gd : Option (Nat × Bool)} {l : Nat} {r : Loop} {p : Tmp}
    (ho : ops[i]? = some ⟨dst, .call ⟨.value t, #[x], ats⟩, ty, pos, af, gd⟩) (hw : Region.wanted ⟨dst, .call ⟨.value t, #[x], ats⟩, ty, pos, af, gd⟩ (yielded ops a.tmps) = true)
    (ht : a.eval t = .func (.yield l) #[] #[]) (hl : σ.f l = some (.loop r)) (hp : r.params = #[p]) :
    StepOk P main (G (b.at a (.inRegion ops (i :: rest) :: k)) cs) σ fun g σ' => σ' = σ ∧
      g = G (Frame.round l r.fn (r.tmps.setIfInBounds p (a.eval x)) r.assign r.body .normal) (b.at a (.inRegion ops (i :: rest) :: k) :: cs) := by
  intro J w hs
  have h : wpS P (execOp a.eval ⟨dst, .call ⟨.value t, #[x], ats⟩, ty, pos, af, gd⟩) (fun n σ' => n = .round l r.fn (r.tmps.setIfInBounds p (a.eval x)) r.assign r.body ∧ σ' = σ) (fun _ _ => False) σ := by
    simp only [execOp, resolve, Deferred.ofValue, ht, wpS_bind_eq, wpS_pure', invoke, Instr.yield, Instr.getLoop, wpS_getObj]
    refine ⟨_, hl, rfl, ?_⟩
    simp only [wpS_pure', hp]
    simp [wpS_pure']
  obtain ⟨w', σ', es', e1, hs', hk', he', hr⟩ := wpS_sound _ w σ #[] h hs
  have e1' : ((execOp a.eval ⟨dst, .call ⟨.value t, #[x], ats⟩, ty, pos, af, gd⟩).runT P w #[]).2 = es' := by simpa using e1
  rw [stepG_oper ho hw]
  have hseen : ∀ fn, ∀ e ∈ seen P fn es', EvV J w'.heap.size e := fun fn e he => he' e (mem_seen he)
  rcases hr with ⟨nx, hn, hq, rfl⟩ | ⟨hh, hn, hq⟩
  · subst hq
    have e2 : (execOp a.eval ⟨dst, .call ⟨.value t, #[x], ats⟩, ty, pos, af, gd⟩).runT P w #[] = (_, es') := Prod.ext hn e1'
    generalize execOp a.eval _ = s at e2 ⊢
    unfold stepG.apply
    simp only [if_true, e2, G, GStep.after]
    refine ⟨_, hs', hk', fun e he => ?_, rfl, rfl, rfl⟩
    split at he
    · simp [seen] at he
    · simp only [Array.append_empty] at he
      exact hseen _ e he
  · exact hq.elim

def roundBase (l : Nat) (fn : FuncId) : Frame := { (default : Frame) with fn, kind := .normal, roundOf := some l }
theorem round_at {l : Nat} {fn : FuncId} {tmps : Array Value} {x y : Code} : Frame.round l fn tmps x y .normal = (roundBase l fn).atR ⟨tmps, []⟩ [.code x, .beginRound, .code y] := by
  simp [Frame.round, roundBase, Frame.atR]

/-- A round begins. -/
theorem stepOk_beginRound {l : Nat} {fn : FuncId} {r : Loop} (hl : σ.f l = some (.loop r)) (hs : r.state = .ready) :
    StepOk P main (G ((roundBase l fn).atR a (.beginRound :: k)) cs) σ fun g σ' => σ' = σ.set l (.loop { r with state := .busy }) ∧ g = G ((roundBase l fn).atR a k) cs := by
  intro J w hs'
  have h : wpS P (do (some l).elim (stuck "beginRound: no round") Instr.beginRound; pure Next.skip) (fun n σ' => n = .skip ∧ σ' = σ.set l (.loop { r with state := .busy })) (fun _ _ => False) σ := by
    simp only [Option.elim, Instr.beginRound, Instr.getLoop, wpS_bind_eq, wpS_getObj]
    refine ⟨_, hl, rfl, ?_⟩
    simp only [wpS_pure', wpS_bind_eq, wpS_setObj]
    refine ⟨_, hl, rfl, ?_⟩
    rw [hs]
    simp [wpS_pure']
  obtain ⟨w', σ', es', e1, hs2, hk', he', hr⟩ := wpS_sound _ w σ #[] h hs'
  rcases hr with ⟨nx, hn, rfl, rfl⟩ | ⟨hh, hn, hq⟩
  · have e1' : ((do (some l).elim (stuck "beginRound: no round") Instr.beginRound; pure Next.skip : Sem Next).runT P w #[]).2 = es' := by simpa using e1
    have e2 : (do (some l).elim (stuck "beginRound: no round") Instr.beginRound; pure Next.skip : Sem Next).runT P w #[] = (_, es') := Prod.ext hn e1'
    have hseen : ∀ fn, ∀ e ∈ seen P fn es', EvV J w'.heap.size e := fun fn e he => he' e (mem_seen he)
    simp only [G, Frame.atR, roundBase, stepG, stepG.exec]
    generalize hs3 : (do (some l).elim (stuck "beginRound: no round") Instr.beginRound; pure Next.skip : Sem Next) = s at e2 ⊢
    unfold stepG.apply
    simp only [if_true, e2, GStep.after, Frame.finish]
    refine ⟨_, hs2, hk', fun e he => ?_, rfl, rfl, rfl⟩
    split at he
    · simp [seen] at he
    · simp only [Array.append_empty] at he
      exact hseen _ e he
  · exact hq.elim

/-- A round ends: it goes on. -/
theorem stepOk_endRound {l : Nat} {fn : FuncId} {r : Loop} {c : Frame} (hl : σ.f l = some (.loop r)) :
    StepOk P main (G ((roundBase l fn).atR a []) (c :: cs)) σ fun g σ' => σ' = σ.set l (.loop { r with state := .ready, pending := none }) ∧ g = G (c.finish (.bool true)) cs := by
  intro J w hs'
  have h : wpS P (Instr.endRound l none) (fun n σ' => n = .bool true ∧ σ' = σ.set l (.loop { r with state := .ready, pending := none })) (fun _ _ => False) σ := by
    simp only [Instr.endRound, Instr.getLoop, wpS_bind_eq, wpS_getObj]
    refine ⟨_, hl, rfl, ?_⟩
    simp only [wpS_pure', wpS_bind_eq, wpS_setObj]
    refine ⟨_, hl, rfl, ?_⟩
    simp
  obtain ⟨w', σ', es', e1, hs2, hk', he', hr⟩ := wpS_sound _ w σ #[] h hs'
  rcases hr with ⟨nx, hn, rfl, rfl⟩ | ⟨hh, hn, hq⟩
  · have e1' : ((Instr.endRound l none).runT P w #[]).2 = es' := by simpa using e1
    have e2 : (Instr.endRound l none).runT P w #[] = (_, es') := Prod.ext hn e1'
    have hseen : ∀ fn, ∀ e ∈ seen P fn es', EvV J w'.heap.size e := fun fn e he => he' e (mem_seen he)
    simp only [G, Frame.atR, roundBase, stepG, stepG.exec]
    generalize Instr.endRound l none = s at e2 ⊢
    simp only [e2, GStep.after, doReturn]
    exact ⟨_, hs2, hk', fun e he => hseen _ e (by simpa using he), rfl, rfl, rfl⟩
  · exact hq.elim

/-- The loop is entered. -/
theorem stepOk_rangeFunc {f : Operand} {ps : Array Tmp} {x y : Code} {fid : FuncId} {cap : Array Value} (hf : a.eval f = .func (.func fid) #[] cap) (hg : isGo P fid = true) (hk : b.kind = .normal) :
    StepOk P main (G (b.at a (.code (.rangeFunc f ps x y) :: k)) cs) σ fun g σ' => ∃ d l, σ.f d = none ∧ l ≠ d ∧ σ.f l = none ∧
      σ' = (σ.set d (.deferred (some []))).set l (.loop { state := .ready, pending := none, fn := b.fn, tmps := a.tmps, params := ps, assign := x, body := y, defers := d }) ∧
      g = G (Frame.enter P fid (#[.func (.yield l) #[] #[]] ++ cap) .normal) (b.at { a with defers := { target := .collected d, args := #[] } :: a.defers } (.inRangeFunc l :: k) :: cs) := by
  intro J w hs'
  have h : wpS P (Instr.enterLoop b.fn a.tmps ps x y none) (fun n σ' => ∃ d, n = (n.1, [{ target := .collected d, args := #[] }]) ∧ σ.f d = none ∧ n.1 ≠ d ∧ σ.f n.1 = none ∧
      σ' = (σ.set d (.deferred (some []))).set n.1 (.loop { state := .ready, pending := none, fn := b.fn, tmps := a.tmps, params := ps, assign := x, body := y, defers := d })) (fun _ _ => False) σ := by
    simp only [Instr.enterLoop, wpS_bind_eq, wpS_newObj, wpS_pure']
    intro d hd l hl
    have hne : l ≠ d := by
      intro e; subst e; simp [Hp.set] at hl
    refine ⟨d, rfl, hd, hne, ?_, rfl⟩
    simpa [Hp.set, hne] using hl
  obtain ⟨w1, σ1, es1, e1, hs1, hk1, he1, hr⟩ := wpS_sound _ w σ #[] h hs'
  rcases hr with ⟨⟨l, mk⟩, hn, d, hm, hd, hne, hlf, hσ⟩ | ⟨hh, hn, hq⟩
  · simp only [Prod.mk.injEq, true_and] at hm hne hlf hσ
    subst hm
    have e1' : ((Instr.enterLoop b.fn a.tmps ps x y none).runT P w #[]).2 = es1 := by simpa using e1
    have e2 : (Instr.enterLoop b.fn a.tmps ps x y none).runT P w #[] = (_, es1) := Prod.ext hn e1'
    -- the call
    have h3 : ∀ ev : Operand → Value, ev f = a.eval f → (∀ v, ev (.const v) = v) → wpS P (do let d ← resolve ev { callee := .value f, args := #[.const (.func (.yield l) #[] #[])], argTypes := #[] } 0; invoke d.target d.args)
        (fun n σ' => n = .enter fid (#[.func (.yield l) #[] #[]] ++ cap) ∧ σ' = σ1) (fun _ _ => False) σ1 := by
      intro ev h1 h2
      simp only [resolve, Deferred.ofValue, h1, h2, hf, wpS_bind_eq, wpS_pure', invoke]
      refine wpS_callFunc hg ?_
      simp [h2]
    have hev : ∀ td ds, ({ fn := b.fn, tmps := a.tmps, todo := td, defers := ds, mode := .run, kind := b.kind } : Frame).eval = a.eval := by
      intro td ds; funext o; cases o <;> rfl
    simp only [G, Frame.at, stepG, stepG.exec]
    generalize Instr.enterLoop b.fn a.tmps ps x y none = s at e2 ⊢
    simp only [e2]
    have h4 := h3 a.eval rfl (fun _ => rfl)
    obtain ⟨w2, σ2, es2, e3, hs2, hk2, he2, hr2⟩ := wpS_sound _ w1 σ1 #[] h4 hs1
    rcases hr2 with ⟨nx, hn2, rfl, hσ2⟩ | ⟨_, _, hq⟩
    · subst hσ2
      have e3' : ((do let d ← resolve a.eval { callee := .value f, args := #[.const (.func (.yield l) #[] #[])], argTypes := #[] } 0; invoke d.target d.args : Sem Next).runT P w1 #[]).2 = es2 := by simpa using e3
      have e4 : (do let d ← resolve a.eval { callee := .value f, args := #[.const (.func (.yield l) #[] #[])], argTypes := #[] } 0; invoke d.target d.args : Sem Next).runT P w1 #[] = (_, es2) := Prod.ext hn2 e3'
      simp only [hev]
      generalize (do let d ← resolve a.eval { callee := .value f, args := #[.const (.func (.yield l) #[] #[])], argTypes := #[] } 0; invoke d.target d.args : Sem Next) = s2 at e4 ⊢
      unfold stepG.apply
      simp only [if_true, e4, GStep.after, hk]
      refine ⟨_, hs2, hk1.trans hk2, fun e he => ?_, rfl, d, l, hd, hne, hlf, hσ, rfl⟩
      rcases Array.mem_append.1 he with he | he
      · exact (he1 e (mem_seen he)).mono hk2.grows
      · simp only [Array.append_empty] at he
        exact he2 e (mem_seen he)
    · exact hq.elim
  · exact hq.elim

/-- The loop is left. -/
theorem stepOk_endRangeFunc {l : Nat} {r : Loop} (hl : σ.f l = some (.loop r)) (hs : r.state = .ready) (hp : r.pending = none) :
    StepOk P main (G (b.at a (.endRangeFunc l :: k)) cs) σ fun g σ' => σ' = σ.set l (.loop { r with state := .exhausted }) ∧ g = G (b.at a k) cs := by
  intro J w hs'
  have h : wpS P (Instr.endLoop l) (fun n σ' => n = none ∧ σ' = σ.set l (.loop { r with state := .exhausted })) (fun _ _ => False) σ := by
    simp only [Instr.endLoop, Instr.getLoop, wpS_bind_eq, wpS_getObj]
    refine ⟨_, hl, rfl, ?_⟩
    simp only [wpS_pure', wpS_bind_eq, hs]
    rw [if_neg (by decide), wpS_bind_eq, wpS_setObj]
    exact ⟨_, hl, rfl, hp, rfl⟩
  obtain ⟨w', σ', es', e1, hs2, hk', he', hr⟩ := wpS_sound _ w σ #[] h hs'
  rcases hr with ⟨nx, hn, rfl, rfl⟩ | ⟨hh, hn, hq⟩
  · have e1' : ((Instr.endLoop l).runT P w #[]).2 = es' := by simpa using e1
    have e2 : (Instr.endLoop l).runT P w #[] = (_, es') := Prod.ext hn e1'
    have hseen : ∀ fn, ∀ e ∈ seen P fn es', EvV J w'.heap.size e := fun fn e he => he' e (mem_seen he)
    simp only [G, Frame.at, stepG, stepG.exec]
    generalize Instr.endLoop l = s at e2 ⊢
    simp only [e2, GStep.after]
    exact ⟨_, hs2, hk', fun e he => hseen _ e (by simpa using he), rfl, rfl, rfl⟩
  · exact hq.elim

/-- The mark among the deferred calls is taken. -/
theorem stepOk_mark {d : Nat} {fr : Frame} (hd : σ.f d = some (.deferred (some []))) (hm : fr.mode = .returning) (hds : fr.defers = [{ target := .collected d, args := #[] }]) :
    StepOk P main (G fr cs) σ fun g σ' => σ' = σ.set d (.deferred none) ∧ g = G { fr with defers := [] } cs := by
  intro J w hs'
  have h : wpS P (Instr.takeDeferred d) (fun n σ' => n = [] ∧ σ' = σ.set d (.deferred none)) (fun _ _ => False) σ := by
    simp only [Instr.takeDeferred, wpS_bind_eq, wpS_getObj]
    refine ⟨_, hd, rfl, ?_⟩
    simp only [wpS_pure', wpS_bind_eq, wpS_setObj]
    exact ⟨_, hd, rfl, trivial, trivial⟩
  obtain ⟨w', σ', es', e1, hs2, hk', he', hr⟩ := wpS_sound _ w σ #[] h hs'
  rcases hr with ⟨nx, hn, rfl, rfl⟩ | ⟨hh, hn, hq⟩
  · have e1' : ((Instr.takeDeferred d).runT P w #[]).2 = es' := by simpa using e1
    have e2 : (Instr.takeDeferred d).runT P w #[] = (_, es') := Prod.ext hn e1'
    have hseen : ∀ fn, ∀ e ∈ seen P fn es', EvV J w'.heap.size e := fun fn e he => he' e (mem_seen he)
    simp only [G, stepG, hm, unwind, hds]
    generalize Instr.takeDeferred d = s at e2 ⊢
    simp only [e2, GStep.after]
    exact ⟨_, hs2, hk', fun e he => hseen _ e (by simpa using he), rfl, rfl, rfl⟩
  · exact hq.elim
end
end Go.Qw
-- feed: its code's parts; goroutine 0's way to its first send.
namespace Go.Qw
open Go Go.Conc Go.Proofs

def lftC : Code → Code | .seq x _ => x | c => c
def rgtC : Code → Code | .seq _ y => y | c => c
def innC : Code → Code | .block _ c => c | .loop c => c | c => c
def yesC : Code → Code | .cond _ x _ => x | c => c
def opsC : Code → Array Oper | .region _ o _ => o | _ => #[]

noncomputable def B40 : Code := Tryz.f40.body.getD .skip
noncomputable def main40 : Code := rgtC (rgtC (rgtC (rgtC (rgtC B40))))
noncomputable def loop40 : Code := innC (innC (lftC main40))
noncomputable def tail40 : Code := rgtC main40
noncomputable def in40 : Code := innC (rgtC loop40)
noncomputable def o5 : Array Oper := opsC (lftC (lftC loop40))
noncomputable def o6 : Array Oper := opsC (lftC in40)
noncomputable def k40 : List Item := [.inBlock 1, .inLoop loop40, .inBlock 0, .code tail40]
def b40 : Frame := { (default : Frame) with fn := 40, kind := .normal }

theorem main40_eq : main40 = .seq (.block 0 (.loop loop40)) tail40 := by kernel_rfl
theorem loop40_eq : loop40 = .seq (.seq (.region 5 o5 false) (.cond (.tmp 18) .skip (.exit 0))) (.block 1 in40) := by kernel_rfl
theorem in40_eq : in40 = .seq (.region 6 o6 true) (rgtC in40) := by kernel_rfl

/-- What stands in the slots that are laid ahead of the loop. -/
structure Fx (cb sb ub db wg : Nat) (ρ : Rho) : Prop where
  c : ρ 2 = .pointer (some ⟨cb, 0, none⟩)
  s : ρ 4 = .pointer (some ⟨sb, 0, none⟩)
  u : ρ 5 = .pointer (some ⟨ub, 0, none⟩)
  d : ρ 6 = .pointer (some ⟨db, 0, none⟩)
  w : ρ 7 = .pointer (some ⟨wg, 0, none⟩)

set_option maxRecDepth 100000 in
theorem all6 : allGo o6 o6.size (Array.replicate o6.size false) = [[0, 1, 2, 3, 4, 5], [1, 0, 2, 3, 4, 5], [1, 2, 0, 3, 4, 5], [1, 2, 3, 0, 4, 5], [1, 2, 3, 4, 0, 5]] := by kernel_rfl


/-- The connection's cells, its rest aside. -/
structure Cn (bg : Nat) (ph fr : Int) (c : List Value) : Prop where
  len : c.length = 12
  g : c[0]? = some (.pointer (some ⟨bg, 0, none⟩))
  ph : c[2]? = some (.int .i64 ph)
  fr : c[7]? = some (.int .i64 fr)

/-- What goroutine 0 leans on on its way to its first send. -/
structure Fam (cb sb bc c1 bg : Nat) (ph fr : Int) (κ : Hp) : Prop where
  c : κ.f cb = some (.cells #[.pointer (some ⟨bc, 0, none⟩)] 70 (0, 0))
  s : κ.f sb = some (.cells #[.chan (some c1)] 119 (0, 0))
  b : ∃ l z, κ.f bc = some (.cells l.toArray 90 z) ∧ Cn bg ph fr l

/-- The cells that it reads. -/
def Rd (cb sb bc : Nat) (a : Addr) : Prop := a = ⟨cb, 0, none⟩ ∨ a = ⟨sb, 0, none⟩ ∨ a = ⟨bc, 2, none⟩ ∨ a = ⟨bc, 7, none⟩

section
variable {cb sb ub db wg bc c1 c2 bg : Nat} {ph fr : Int} {ρ : Rho}

theorem cell_set0 {κ : Hp} {b : Nat} {c : Array Value} {e : TypeId} {z : Nat × Nat} {o : Nat} {v : Value} (h : κ.f b = some (.cells c e z)) (hv : c[o]? = some v) : κ.cell? ⟨b, o, none⟩ = some v := by simp [Hp.cell?, h, hv]

theorem Fx.up (h : Fx cb sb ub db wg ρ) {d : Nat} (hd : 8 ≤ d) (v : Value) : Fx cb sb ub db wg (up ρ d v) := by
  obtain ⟨h1, h2, h3, h4, h5⟩ := h
  constructor <;> (simp only [Qw.up]; rw [if_neg (by omega)]; assumption)


set_option maxRecDepth 100000 in
theorem sil5 (hp : ph ≠ 5) {ρ : Rho} (hF : Fx cb sb ub db wg ρ) {Q : Rho → Prop} (hQ : ∀ ρ', Fx cb sb ub db wg ρ' → ρ' 18 = .bool true → Q ρ') : silF Tryz.prog 52 o5 (Fam cb sb bc c1 bg ph fr) (Rd cb sb bc) Q [0, 1, 2, 3, 4] ρ := by
  simp only [o5, loop40, main40, B40, Tryz.f40, Option.getD_some, rgtC, lftC, innC, opsC]
  refine silF_load (a := ⟨cb, 0, none⟩) (v := .pointer (some ⟨bc, 0, none⟩)) rfl (by decide) hF.c (by kernel_rfl) (by kernel_rfl) (.inl rfl) (fun κ h => cell_set0 h.c rfl) ?_
  refine silF_nil (a := ⟨bc, 0, none⟩) rfl (by decide) (by simp [evR, up]) ?_
  refine silF_field (a := ⟨bc, 0, none⟩) (off := 2) rfl (by decide) (by simp [evR, up]) (by kernel_rfl) ?_
  refine silF_load (a := ⟨bc, 2, none⟩) (v := .int .i64 ph) rfl (by decide) (by simp [evR, up, Addr.add]) (by kernel_rfl) (by kernel_rfl) (.inr (.inr (.inl rfl))) (fun κ h => by obtain ⟨l, z, h1, h2⟩ := h.b; exact cell_set0 h1 (by simpa using h2.ph)) ?_
  refine silF_bin (v := .bool true) rfl (by decide) (by simp [evR, up, binV, hp]) ?_
  refine hQ _ ?_ (by simp [up])
  exact ((((hF.up (by decide) _).up (by decide) _).up (by decide) _).up (by decide) _).up (by decide) _

set_option maxRecDepth 100000 in
theorem sil5b {ρ : Rho} (hF : Fx cb sb ub db wg ρ) {Q : Rho → Prop} (hQ : ∀ ρ', Fx cb sb ub db wg ρ' → ρ' 18 = .bool (ph != 5) → Q ρ') : silF Tryz.prog 52 o5 (Fam cb sb bc c1 bg ph fr) (Rd cb sb bc) Q [0, 1, 2, 3, 4] ρ := by
  simp only [o5, loop40, main40, B40, Tryz.f40, Option.getD_some, rgtC, lftC, innC, opsC]
  refine silF_load (a := ⟨cb, 0, none⟩) (v := .pointer (some ⟨bc, 0, none⟩)) rfl (by decide) hF.c (by kernel_rfl) (by kernel_rfl) (.inl rfl) (fun κ h => cell_set0 h.c rfl) ?_
  refine silF_nil (a := ⟨bc, 0, none⟩) rfl (by decide) (by simp [evR, up]) ?_
  refine silF_field (a := ⟨bc, 0, none⟩) (off := 2) rfl (by decide) (by simp [evR, up]) (by kernel_rfl) ?_
  refine silF_load (a := ⟨bc, 2, none⟩) (v := .int .i64 ph) rfl (by decide) (by simp [evR, up, Addr.add]) (by kernel_rfl) (by kernel_rfl) (.inr (.inr (.inl rfl))) (fun κ h => by obtain ⟨l, z, h1, h2⟩ := h.b; exact cell_set0 h1 (by simpa using h2.ph)) ?_
  refine silF_bin (v := .bool (ph != 5)) rfl (by decide) (by simp [evR, up, binV]) ?_
  refine hQ _ ?_ (by simp [up])
  exact ((((hF.up (by decide) _).up (by decide) _).up (by decide) _).up (by decide) _).up (by decide) _

/-- What stands at the send. -/
def AtSend (cb sb ub db wg c1 : Nat) (fr : Int) (ρ : Rho) : Prop := Fx cb sb ub db wg ρ ∧ ρ 19 = .chan (some c1) ∧ ρ 23 = .int .i64 fr

set_option maxRecDepth 100000 in
theorem sil6 {ρ : Rho} (hF : Fx cb sb ub db wg ρ) {p : List Nat} (hp : p ∈ [[0, 1, 2, 3, 4], [1, 0, 2, 3, 4], [1, 2, 0, 3, 4], [1, 2, 3, 0, 4], [1, 2, 3, 4, 0]]) : silF Tryz.prog 52 o6 (Fam cb sb bc c1 bg ph fr) (Rd cb sb bc) (AtSend cb sb ub db wg c1 fr) p ρ := by
  simp only [o6, in40, loop40, main40, B40, Tryz.f40, Option.getD_some, rgtC, lftC, innC, opsC]
  have ld0 : ∀ {rest : List Nat} {ρ : Rho}, Fx cb sb ub db wg ρ → ∀ {ops : Array Oper} {ps : String} {af : Array Edge} {ty : Nat} {Q : Rho → Prop}, ops[0]? = some { dst := some 19, op := .load 119 (.tmp 4), type := ty, pos := ps, after := af, guard := none } →
      silF Tryz.prog 52 ops (Fam cb sb bc c1 bg ph fr) (Rd cb sb bc) Q rest (up ρ 19 (.chan (some c1))) → silF Tryz.prog 52 ops (Fam cb sb bc c1 bg ph fr) (Rd cb sb bc) Q (0 :: rest) ρ := by
    intro rest ρ hF ops ps af ty Q ho k
    exact silF_load (a := ⟨sb, 0, none⟩) (v := .chan (some c1)) ho (by decide) hF.s (by kernel_rfl) (by kernel_rfl) (.inr (.inl rfl)) (fun κ h => cell_set0 h.s rfl) k
  have ld1 : ∀ {rest : List Nat} {ρ : Rho}, Fx cb sb ub db wg ρ → ∀ {ops : Array Oper} {ps : String} {af : Array Edge} {ty : Nat} {Q : Rho → Prop}, ops[1]? = some { dst := some 20, op := .load 70 (.tmp 2), type := ty, pos := ps, after := af, guard := none } →
      silF Tryz.prog 52 ops (Fam cb sb bc c1 bg ph fr) (Rd cb sb bc) Q rest (up ρ 20 (.pointer (some ⟨bc, 0, none⟩))) → silF Tryz.prog 52 ops (Fam cb sb bc c1 bg ph fr) (Rd cb sb bc) Q (1 :: rest) ρ := by
    intro rest ρ hF ops ps af ty Q ho k
    exact silF_load (a := ⟨cb, 0, none⟩) (v := .pointer (some ⟨bc, 0, none⟩)) ho (by decide) hF.c (by kernel_rfl) (by kernel_rfl) (.inl rfl) (fun κ h => cell_set0 h.c rfl) k
  have ld4 : ∀ {rest : List Nat} {ρ : Rho}, ρ 22 = .pointer (some ⟨bc, 7, none⟩) → ∀ {ops : Array Oper} {ps : String} {af : Array Edge} {ty : Nat} {Q : Rho → Prop}, ops[4]? = some { dst := some 23, op := .load 3 (.tmp 22), type := ty, pos := ps, after := af, guard := none } →
      silF Tryz.prog 52 ops (Fam cb sb bc c1 bg ph fr) (Rd cb sb bc) Q rest (up ρ 23 (.int .i64 fr)) → silF Tryz.prog 52 ops (Fam cb sb bc c1 bg ph fr) (Rd cb sb bc) Q (4 :: rest) ρ := by
    intro rest ρ hF ops ps af ty Q ho k
    exact silF_load (a := ⟨bc, 7, none⟩) (v := .int .i64 fr) ho (by decide) hF (by kernel_rfl) (by kernel_rfl) (.inr (.inr (.inr rfl))) (fun κ h => by obtain ⟨l, z, h1, h2⟩ := h.b; exact cell_set0 h1 (by simpa using h2.fr)) k
  have fin : ∀ {ρ : Rho}, Fx cb sb ub db wg ρ → ρ 19 = .chan (some c1) → ρ 23 = .int .i64 fr → AtSend cb sb ub db wg c1 fr ρ := fun h1 h2 h3 => ⟨h1, h2, h3⟩
  simp only [List.mem_cons, List.not_mem_nil, or_false] at hp
  rcases hp with rfl | rfl | rfl | rfl | rfl
  · refine ld0 hF rfl (ld1 (hF.up (by decide) _) rfl ?_)
    refine silF_nil (a := ⟨bc, 0, none⟩) rfl (by decide) (by simp [evR, up]) ?_
    refine silF_field (a := ⟨bc, 0, none⟩) (off := 7) rfl (by decide) (by simp [evR, up]) (by kernel_rfl) ?_
    refine ld4 (by simp [up, Addr.add]) rfl ?_
    exact fin ((((((hF.up (by decide) _).up (by decide) _).up (by decide) _).up (by decide) _).up (by decide) _)) (by simp [up]) (by simp [up])
  · refine ld1 hF rfl (ld0 (hF.up (by decide) _) rfl ?_)
    refine silF_nil (a := ⟨bc, 0, none⟩) rfl (by decide) (by simp [evR, up]) ?_
    refine silF_field (a := ⟨bc, 0, none⟩) (off := 7) rfl (by decide) (by simp [evR, up]) (by kernel_rfl) ?_
    refine ld4 (by simp [up, Addr.add]) rfl ?_
    exact fin ((((((hF.up (by decide) _).up (by decide) _).up (by decide) _).up (by decide) _).up (by decide) _)) (by simp [up]) (by simp [up])
  · refine ld1 hF rfl ?_
    refine silF_nil (a := ⟨bc, 0, none⟩) rfl (by decide) (by simp [evR, up]) ?_
    refine ld0 ((hF.up (by decide) _).up (by decide) _) rfl ?_
    refine silF_field (a := ⟨bc, 0, none⟩) (off := 7) rfl (by decide) (by simp [evR, up]) (by kernel_rfl) ?_
    refine ld4 (by simp [up, Addr.add]) rfl ?_
    exact fin ((((((hF.up (by decide) _).up (by decide) _).up (by decide) _).up (by decide) _).up (by decide) _)) (by simp [up]) (by simp [up])
  · refine ld1 hF rfl ?_
    refine silF_nil (a := ⟨bc, 0, none⟩) rfl (by decide) (by simp [evR, up]) ?_
    refine silF_field (a := ⟨bc, 0, none⟩) (off := 7) rfl (by decide) (by simp [evR, up]) (by kernel_rfl) ?_
    refine ld0 (((hF.up (by decide) _).up (by decide) _).up (by decide) _) rfl ?_
    refine ld4 (by simp [up, Addr.add]) rfl ?_
    exact fin ((((((hF.up (by decide) _).up (by decide) _).up (by decide) _).up (by decide) _).up (by decide) _)) (by simp [up]) (by simp [up])
  · refine ld1 hF rfl ?_
    refine silF_nil (a := ⟨bc, 0, none⟩) rfl (by decide) (by simp [evR, up]) ?_
    refine silF_field (a := ⟨bc, 0, none⟩) (off := 7) rfl (by decide) (by simp [evR, up]) (by kernel_rfl) ?_
    refine ld4 (by simp [up, Addr.add]) rfl ?_
    refine ld0 ((((hF.up (by decide) _).up (by decide) _).up (by decide) _).up (by decide) _) rfl ?_
    exact fin ((((((hF.up (by decide) _).up (by decide) _).up (by decide) _).up (by decide) _).up (by decide) _)) (by simp [up]) (by simp [up])

/-- The orders of the region, its last operation aside. -/
theorem sched6 (t : Nat) : ∃ p, Region.schedule (Tryz.prog.follows .mixedOrders) o6 t = p ++ [5] ∧ p ∈ [[0, 1, 2, 3, 4], [1, 0, 2, 3, 4], [1, 2, 0, 3, 4], [1, 2, 3, 0, 4], [1, 2, 3, 4, 0]] := by
  have hm : Tryz.prog.follows .mixedOrders = true := by kernel_rfl
  have := go_mem o6 o6.size t (Array.replicate o6.size false)
  rw [all6] at this
  simp only [Region.schedule, hm, Bool.true_or, if_true, Region.linearise]
  simp only [List.mem_cons, List.not_mem_nil, or_false] at this
  rcases this with h | h | h | h | h
  · exact ⟨[0, 1, 2, 3, 4], h, by decide⟩
  · exact ⟨[1, 0, 2, 3, 4], h, by decide⟩
  · exact ⟨[1, 2, 0, 3, 4], h, by decide⟩
  · exact ⟨[1, 2, 3, 0, 4], h, by decide⟩
  · exact ⟨[1, 2, 3, 4, 0], h, by decide⟩
end
end Go.Qw
-- feed: goroutine 0's ways to its seats.
namespace Go.Qw
open Go Go.Conc Go.Proofs

noncomputable def o7 : Array Oper := opsC (lftC (rgtC in40))
noncomputable def r8 : Code := rgtC (rgtC in40)
theorem rgt_in40 : rgtC in40 = .seq (.region 7 o7 false) r8 := by kernel_rfl

/-- The zero of a Unit. -/
def zU : Value := .agg #[.int .i64 0, .int .i64 0, .string { data := #[] }, .bool false, .bool false]

section
variable {cb sb ub db wg bc c1 c2 bg : Nat} {ph fr : Int} {cs : List Frame} {K : World → Prop} {Still : Loc → Prop} {Bd : Nat}

/-- Goroutine 0 at its send. -/
def HomeS (cb sb ub db wg : Nat) (cs : List Frame) (g : Goroutine) : Prop :=
  ∃ ρ a, Agree 52 a ρ [] ∧ Fx cb sb ub db wg ρ ∧ g = G (b40.at a (.inRegion o6 [5] :: .code (rgtC in40) :: k40)) cs
def seatS (cb sb ub db wg c1 : Nat) (fr : Int) (cs : List Frame) : Seat := { cases := #[scase c1 (.int .i64 fr) (.tuple #[])], shape := .send, home := HomeS cb sb ub db wg cs }

theorem o6_5 : ∃ ps af, o6[5]? = some { dst := none, op := .send (.tmp 19) (.tmp 23), type := 0, pos := ps, after := af, guard := none } := ⟨_, _, by simp only [o6, in40, loop40, main40, B40, Tryz.f40, Option.getD_some, rgtC, lftC, innC, opsC]; rfl⟩

set_option maxRecDepth 100000 in
theorem at_send {main : Bool} {ρ : Rho} {a : Act} (ha : Agree 52 a ρ []) (h : AtSend cb sb ub db wg c1 fr ρ) :
    AtIn Tryz.prog main K Still Bd (seatS cb sb ub db wg c1 fr cs) (G (b40.at a (.inRegion o6 [5] :: .code (rgtC in40) :: k40)) cs) (G (b40.at a (.inRegion o6 [5] :: .code (rgtC in40) :: k40)) cs) := by
  obtain ⟨ps, af, ho⟩ := o6_5
  obtain ⟨h1, h2, h3⟩ := h
  refine atIn_of ho rfl (by simp [b40]) (fun w => ?_) (fun w => ?_) ⟨ρ, a, ha, h1, rfl⟩
  · simp [execOp, ha.eval, evR, h2, h3, seatS, scase]
  · simp [execOp]

set_option maxRecDepth 100000 in
/-- From the loop's head to the send. -/
theorem way_send (hp : ph ≠ 5) (hK : ∀ w, K w → ∃ κ, Fam cb sb bc c1 bg ph fr κ ∧ ∀ b o, κ.f b = some o → w.heap[b]? = some o) (hS : ∀ a, Rd cb sb bc a → Still (.cell a) ∧ a.block < Bd) {ρ : Rho} {a : Act} (ha : Agree 52 a ρ []) (hF : Fx cb sb ub db wg ρ) :
    Way Tryz.prog true K Still Bd (seatS cb sb ub db wg c1 fr cs) 22 (G (b40.at a (.code loop40 :: .inLoop loop40 :: .inBlock 0 :: .code tail40 :: [])) cs) := by
  rw [loop40_eq]
  refine Way.ctl (fun w => stepG_seq) rfl ?_
  refine Way.ctl (fun w => stepG_seq) rfl ?_
  refine Way.region ?_
  rw [← loop40_eq]
  have hr : List.range o5.size = [0, 1, 2, 3, 4] ++ [] := by kernel_rfl
  rw [hr]
  refine Way.mono (n := 13 + 5) (by decide) ?_
  refine way_silF hK hS (by simp [b40]) (Q := fun ρ => Fx cb sb ub db wg ρ ∧ ρ 18 = .bool true) (fun ρ a ha ⟨hF, h18⟩ => ?_) [0, 1, 2, 3, 4] ρ a (sil5 hp hF fun ρ' h1 h2 => ⟨h1, h2⟩) ha
  refine Way.ctl (fun w => stepG_region_end) rfl ?_
  refine Way.ctl (fun w => stepG_cond (t := true) (by rw [ha.eval]; exact h18)) rfl ?_
  refine Way.ctl (fun w => stepG_skip) rfl ?_
  refine Way.ctl (fun w => stepG_block) rfl ?_
  rw [in40_eq]
  refine Way.ctl (fun w => stepG_seq) rfl ?_
  refine Way.draws fun t => ?_
  obtain ⟨p, hps, hpm⟩ := sched6 t
  rw [hps]
  refine Way.mono (n := 0 + p.length) ?_ (way_silF hK hS (by simp [b40]) (n := 0) (fun ρ a ha h => ⟨_, at_send ha h⟩) p ρ a (sil6 hF hpm) ha)
  simp only [List.mem_cons, List.not_mem_nil, or_false] at hpm
  rcases hpm with rfl | rfl | rfl | rfl | rfl <;> decide

/-- Goroutine 0 at its receive. -/
def HomeR (cb sb ub db wg : Nat) (cs : List Frame) (g : Goroutine) : Prop :=
  ∃ ρ a, Agree 52 a ρ [] ∧ Fx cb sb ub db wg ρ ∧ g = G (b40.at a (.inRegion o7 [1, 2, 3] :: .code r8 :: k40)) cs
def seatR (cb sb ub db wg c2 : Nat) (cs : List Frame) : Seat := { cases := #[rcase c2 zU], shape := .recv false, home := HomeR cb sb ub db wg cs }

theorem o7_0 : ∃ ps af, o7[0]? = some { dst := some 24, op := .load 120 (.tmp 5), type := 120, pos := ps, after := af, guard := none } := ⟨_, _, by simp only [o7, in40, loop40, main40, B40, Tryz.f40, Option.getD_some, rgtC, lftC, innC, opsC]; rfl⟩
theorem o7_1 : ∃ ps af, o7[1]? = some { dst := some 25, op := .recv 120 (.tmp 24) false, type := 135, pos := ps, after := af, guard := none } := ⟨_, _, by simp only [o7, in40, loop40, main40, B40, Tryz.f40, Option.getD_some, rgtC, lftC, innC, opsC]; rfl⟩

/-- What goroutine 0 leans on between its send and its receive. -/
def FamU (ub c2 : Nat) (κ : Hp) : Prop := κ.f ub = some (.cells #[.chan (some c2)] 120 (0, 0))

set_option maxRecDepth 100000 in
theorem at_recv {main : Bool} {ρ : Rho} {a : Act} (ha : Agree 52 a ρ []) (h1 : Fx cb sb ub db wg ρ) (h2 : ρ 24 = .chan (some c2)) :
    AtIn Tryz.prog main K Still Bd (seatR cb sb ub db wg c2 cs) (G (b40.at a (.inRegion o7 [1, 2, 3] :: .code r8 :: k40)) cs) (G (b40.at a (.inRegion o7 [1, 2, 3] :: .code r8 :: k40)) cs) := by
  obtain ⟨ps, af, ho⟩ := o7_1
  refine atIn_of ho rfl (by simp [b40]) (fun w => ?_) (fun w => ?_) ⟨ρ, a, ha, h1, rfl⟩
  · rw [ha.eval]; simp [execOp, evR, h2, seatR, rcase, zU, Tryz.runUnderlying120, Tryz.zeroValue135, go_sem]
  · simp [execOp, go_sem, Tryz.underlying120]

set_option maxRecDepth 100000 in
/-- Behind the send, to the receive. -/
theorem way_recv (hK : ∀ w, K w → ∃ κ, FamU ub c2 κ ∧ ∀ b o, κ.f b = some o → w.heap[b]? = some o) (hS : Still (.cell ⟨ub, 0, none⟩) ∧ ub < Bd) {g : Goroutine} (h : HomeS cb sb ub db wg cs g) :
    Way Tryz.prog true K Still Bd (seatR cb sb ub db wg c2 cs) 4 (Go.Conc.served g undef) := by
  obtain ⟨ρ, a, ha, hF, rfl⟩ := h
  obtain ⟨ps, af, ho⟩ := o6_5
  have e : Go.Conc.served (G (b40.at a (.inRegion o6 [5] :: .code (rgtC in40) :: k40)) cs) undef = G (b40.at a (.inRegion o6 [] :: .code (rgtC in40) :: k40)) cs := by
    have := Frame.finish_at b40 a o6 5 [] (.code (rgtC in40) :: k40) undef
    rw [ho] at this
    simp only [Go.Conc.served, G, this]
    rfl
  rw [e, rgt_in40]
  refine Way.ctl (fun w => stepG_region_end) rfl ?_
  refine Way.ctl (fun w => stepG_seq) rfl ?_
  refine Way.region ?_
  have hr : List.range o7.size = [0] ++ [1, 2, 3] := by kernel_rfl
  rw [hr]
  obtain ⟨ps0, af0, ho0⟩ := o7_0
  refine way_silF (Ok := fun a => a = ⟨ub, 0, none⟩) hK (fun a ha => by rw [ha]; exact hS) (by simp [b40]) (n := 0) (Q := fun ρ => Fx cb sb ub db wg ρ ∧ ρ 24 = .chan (some c2)) (fun ρ a ha ⟨h1, h2⟩ => ⟨_, at_recv ha h1 h2⟩) [0] ρ a ?_ ha
  exact silF_load (a := ⟨ub, 0, none⟩) (v := .chan (some c2)) ho0 (by decide) hF.u (by kernel_rfl) (by kernel_rfl) rfl (fun κ h => cell_set0 h rfl) ⟨hF.up (by decide) _, by simp [up]⟩
end
end Go.Qw
-- feed: the worker's way back to its select.
namespace Go.Qw
open Go Go.Conc Go.Proofs

noncomputable def B58 : Code := Tryz.f58.body.getD .skip
noncomputable def p0 : Array Oper := opsC (lftC B58)
noncomputable def L58 : Code := innC (innC (rgtC B58))
noncomputable def in58 : Code := innC L58
noncomputable def q1 : Array Oper := opsC (lftC (lftC in58))
noncomputable def q2 : Array Oper := opsC (rgtC (lftC in58))
noncomputable def q3 : Array Oper := opsC (lftC (rgtC in58))
noncomputable def c58 : Code := innC (rgtC (rgtC in58))
noncomputable def q4 : Array Oper := opsC (lftC (yesC c58))
noncomputable def q5 : Array Oper := opsC (rgtC (yesC c58))
noncomputable def kw : List Item := [.inBlock 1, .inLoop L58, .inBlock 0]
def b58 : Frame := { (default : Frame) with fn := 58, kind := .normal }

theorem B58_eq : B58 = .seq (.region 0 p0 false) (.block 0 (.loop L58)) := by kernel_rfl
theorem L58_eq : L58 = .block 1 in58 := by kernel_rfl
theorem in58_eq : in58 = .seq (.seq (.region 1 q1 false) (.region 2 q2 false)) (.seq (.region 3 q3 false) (.block 2 c58)) := by kernel_rfl
theorem c58_eq : c58 = .cond (.tmp 23) (.seq (.region 4 q4 false) (.region 5 q5 false)) (.cond (.tmp 24) .ret .skip) := by kernel_rfl

/-- What stands in the worker's slots. -/
structure Fw (bc c1 c2 c3 : Nat) (ρ : Rho) : Prop where
  c : ρ 0 = .pointer (some ⟨bc, 3, none⟩)
  s : ρ 2 = .chan (some c1)
  u : ρ 3 = .chan (some c2)
  d : ρ 4 = .chan (some c3)

section
variable {bc c1 c2 c3 : Nat} {ρ : Rho} {cw : List Frame} {K : World → Prop} {Still : Loc → Prop} {Bd : Nat}

theorem Fw.up (h : Fw bc c1 c2 c3 ρ) {d : Nat} (hd : 5 ≤ d) (v : Value) : Fw bc c1 c2 c3 (up ρ d v) := by
  obtain ⟨h1, h2, h3, h4⟩ := h
  constructor <;> (simp only [Qw.up]; rw [if_neg (by omega)]; assumption)

def HomeW (bc c1 c2 c3 : Nat) (cw : List Frame) (g : Goroutine) : Prop :=
  ∃ ρ a, Agree 30 a ρ [] ∧ Fw bc c1 c2 c3 ρ ∧ g = G (b58.at a (.inRegion q3 [0, 1, 2, 3] :: .code (.block 2 c58) :: kw)) cw
def seatW (bc c1 c2 c3 : Nat) (cw : List Frame) : Seat := { cases := #[rcase c1 (.int .i64 0), rcase c3 (.agg #[])], shape := .select, home := HomeW bc c1 c2 c3 cw }

theorem q1_0 : ∃ ps af, q1[0]? = some { dst := some 19, op := .move (.tmp 2), type := 208, pos := ps, after := af, guard := none } := ⟨_, _, by simp only [q1, in58, L58, B58, Tryz.f58, Option.getD_some, rgtC, lftC, innC, opsC]; rfl⟩
theorem q2_0 : ∃ ps af, q2[0]? = some { dst := some 20, op := .move (.tmp 4), type := 210, pos := ps, after := af, guard := none } := ⟨_, _, by simp only [q2, in58, L58, B58, Tryz.f58, Option.getD_some, rgtC, lftC, innC, opsC]; rfl⟩
theorem q3_0 : ∃ ps af, q3[0]? = some { dst := some 21, op := .select #[{ chan := .tmp 19, send := none, elem := 3 }, { chan := .tmp 20, send := none, elem := 122 }] true, type := 0, pos := ps, after := af, guard := none } := ⟨_, _, by simp only [q3, in58, L58, B58, Tryz.f58, Option.getD_some, rgtC, lftC, innC, opsC]; rfl⟩

set_option maxRecDepth 100000 in
theorem at_sel {main : Bool} {a : Act} (ha : Agree 30 a ρ []) (h : Fw bc c1 c2 c3 ρ) (h1 : ρ 19 = .chan (some c1)) (h2 : ρ 20 = .chan (some c3)) :
    AtIn Tryz.prog main K Still Bd (seatW bc c1 c2 c3 cw) (G (b58.at a (.inRegion q3 [0, 1, 2, 3] :: .code (.block 2 c58) :: kw)) cw) (G (b58.at a (.inRegion q3 [0, 1, 2, 3] :: .code (.block 2 c58) :: kw)) cw) := by
  obtain ⟨ps, af, ho⟩ := q3_0
  refine atIn_of ho rfl (by simp [b58]) (fun w => ?_) (fun w => ?_) ⟨ρ, a, ha, h, rfl⟩
  · rw [ha.eval]; simp [execOp, evR, h1, h2, seatW, rcase, Tryz.zeroValue3, Tryz.zeroValue122, go_sem]
  · simp [execOp, go_sem]

/-- From the loop's head. -/
theorem way_head {main : Bool} {a : Act} (ha : Agree 30 a ρ []) (h : Fw bc c1 c2 c3 ρ) : Way Tryz.prog main K Still Bd (seatW bc c1 c2 c3 cw) 12 (G (b58.at a (.code L58 :: .inLoop L58 :: .inBlock 0 :: [])) cw) := by
  obtain ⟨ps1, af1, ho1⟩ := q1_0
  obtain ⟨ps2, af2, ho2⟩ := q2_0
  have hK : ∀ w, K w → ∃ κ : Hp, True ∧ ∀ b o, κ.f b = some o → w.heap[b]? = some o := fun w _ => ⟨⟨fun _ => none⟩, trivial, fun b o hb => by cases hb⟩
  have e : (.code L58 :: .inLoop L58 :: .inBlock 0 :: [] : List Item) = .code (.block 1 in58) :: .inLoop L58 :: .inBlock 0 :: [] := by rw [← L58_eq]
  rw [e, in58_eq]
  refine Way.ctl (fun w => stepG_block) rfl ?_
  refine Way.ctl (fun w => stepG_seq) rfl ?_
  refine Way.ctl (fun w => stepG_seq) rfl ?_
  refine Way.region ?_
  have hr1 : List.range q1.size = [0] ++ [] := by kernel_rfl
  have hr2 : List.range q2.size = [0] ++ [] := by kernel_rfl
  have hr3 : List.range q3.size = [0, 1, 2, 3] := by kernel_rfl
  rw [hr1]
  refine way_silF (n := 7) (Fam := fun _ => True) (Ok := fun _ => False) hK (fun _ h => h.elim) (by simp [b58]) (Q := fun ρ => Fw bc c1 c2 c3 ρ ∧ ρ 19 = .chan (some c1)) (fun ρ a ha ⟨h, h1⟩ => ?_) [0] ρ a (silF_move ho1 (by decide) ⟨h.up (by decide) _, by simp [up, evR, h.s]⟩) ha
  refine Way.ctl (fun w => stepG_region_end) rfl ?_
  refine Way.region ?_
  rw [hr2]
  refine way_silF (n := 4) (Fam := fun _ => True) (Ok := fun _ => False) hK (fun _ h => h.elim) (by simp [b58]) (Q := fun ρ => Fw bc c1 c2 c3 ρ ∧ ρ 19 = .chan (some c1) ∧ ρ 20 = .chan (some c3)) (fun ρ a ha ⟨h, h1, h2⟩ => ?_) [0] ρ a
    (silF_move ho2 (by decide) ⟨h.up (by decide) _, by simp [up, h1], by simp [up, evR, h.d]⟩) ha
  refine Way.ctl (fun w => stepG_region_end) rfl ?_
  refine Way.ctl (fun w => stepG_seq) rfl ?_
  refine Way.region ?_
  rw [hr3]
  exact .inl ⟨_, at_sel ha h h1 h2⟩

/-- The worker at its send. -/
def HomeT (bc c1 c2 c3 : Nat) (cw : List Frame) (g : Goroutine) : Prop :=
  ∃ ρ a, Agree 30 a ρ [] ∧ Fw bc c1 c2 c3 ρ ∧ g = G (b58.at a (.inRegion q5 [4] :: .inBlock 2 :: kw)) cw
theorem q5_4 : ∃ ps af, q5[4]? = some { dst := none, op := .send (.tmp 26) (.tmp 29), type := 0, pos := ps, after := af, guard := none } := ⟨_, _, by simp only [q5, c58, in58, L58, B58, Tryz.f58, Option.getD_some, rgtC, lftC, innC, opsC, yesC]; rfl⟩

/-- Behind its send, to the select. -/
theorem way_sel {main : Bool} {g : Goroutine} (h : HomeT bc c1 c2 c3 cw g) : Way Tryz.prog main K Still Bd (seatW bc c1 c2 c3 cw) 16 (Go.Conc.served g undef) := by
  obtain ⟨ρ, a, ha, hF, rfl⟩ := h
  obtain ⟨ps, af, ho⟩ := q5_4
  have e : Go.Conc.served (G (b58.at a (.inRegion q5 [4] :: .inBlock 2 :: kw)) cw) undef = G (b58.at a (.inRegion q5 [] :: .inBlock 2 :: kw)) cw := by
    have := Frame.finish_at b58 a q5 4 [] (.inBlock 2 :: kw) undef
    rw [ho] at this
    simp only [Go.Conc.served, G, this]
    rfl
  rw [e]
  refine Way.ctl (fun w => stepG_region_end) rfl ?_
  refine Way.ctl (fun w => stepG_inBlock) rfl ?_
  refine Way.ctl (fun w => stepG_inBlock) rfl ?_
  refine Way.ctl (fun w => stepG_inLoop) rfl ?_
  exact way_head ha hF
end
end Go.Qw
