/- The law Beats of queuewire returns true for every three integers: the row over the given program, tied to its text; no condition besides. (Part 6 of 40: QwWp QwSimp.) -/
import Derived.Attr
import Derived.Test.YtpiabknabfbfhaaGreatDoorBeats05
set_option linter.all false
-- The weakest precondition of a function's code in company, over the visible heap, and that it is sound.
namespace Go.Qw
open Go Go.Conc

section
variable {P : Program} (E : Env P)

/-- Operations, one behind the other. -/
def wpL (N : Nat) (ops : Array Oper) (Q : Post) : List Oper → Rho → List Deferred → Hp → Prop
  | [], ρ, ds, σ => Q .normal ρ ds σ
  | o :: rest, ρ, ds, σ => okDst N o.dst = true ∧
      if Region.wanted o (yieldedR N ops ρ) then opQ E o ρ ds σ (wpL N ops Q rest) (fun ch σ' => Q (.panic ch) ρ ds σ')
      else wpL N ops Q rest (putR ρ o.dst undef) ds σ

def thenQ (nx : Rho → List Deferred → Hp → Prop) (Q : Post) : Post
  | .normal, ρ, ds, σ => nx ρ ds σ
  | e, ρ, ds, σ => Q e ρ ds σ

def blockQ (id : Nat) (Q : Post) : Post
  | .exit id', ρ, ds, σ => if id' = id then Q .normal ρ ds σ else Q (.exit id') ρ ds σ
  | e, ρ, ds, σ => Q e ρ ds σ

/-- Known so of a part of the heap. -/
def upQ (X : Rho → List Deferred → Hp → Prop) (ρ : Rho) (ds : List Deferred) (σ : Hp) : Prop := ∃ τ : Hp, τ.le σ ∧ X ρ ds τ

def wpC (N : Nat) : Code → Post → Rho → List Deferred → Hp → Prop
  | .skip, Q, ρ, ds, σ | .label _, Q, ρ, ds, σ => Q .normal ρ ds σ
  | .region _ ops false, Q, ρ, ds, σ => wpL E N ops Q ops.toList ρ ds σ
  | .region _ ops true, Q, ρ, ds, σ => ∀ t, wpO E N ops Q (Region.schedule (P.follows .mixedOrders) ops t) ρ ds σ
  | .seq x y, Q, ρ, ds, σ => wpC N x (thenQ (wpC N y Q) Q) ρ ds σ
  | .cond c x y, Q, ρ, ds, σ => match evR ρ c with
    | .bool true => wpC N x Q ρ ds σ
    | .bool false => wpC N y Q ρ ds σ
    | _ => False
  | .block id c, Q, ρ, ds, σ => wpC N c (blockQ id Q) ρ ds σ
  | .loop c, Q, ρ, ds, σ => ∀ X : Rho → List Deferred → Hp → Prop, (∀ ρ' ds' σ', wpC N c (thenQ (upQ X) Q) ρ' ds' σ' → X ρ' ds' σ') → X ρ ds σ
  | .exit id, Q, ρ, ds, σ => Q (.exit id) ρ ds σ
  | .ret, Q, ρ, ds, σ => Q .ret ρ ds σ
  | _, _, _, _, _ => False
end

/-! ### soundness -/
section
variable {P : Program} {E : Env P}

def Arr (b : Frame) (k : List Item) (cs : List Frame) (a : Act) : Ex → Goroutine → Prop
  | .normal, g => g = G (b.at a k) cs
  | .exit id, g => ∃ k', g = G (b.at a (.code (.exit id) :: k')) cs ∧ exitTo id k' = exitTo id k
  | .ret, g => ∃ todo, g = G { b.at a todo with mode := .returning } cs
  | .panic chain, g => ∃ todo, g = G { b.at a todo with mode := .panicking chain } cs

/-- Where code comes to. -/
def Comes (N : Nat) (Q : Post) (b : Frame) (k : List Item) (cs : List Frame) (g : Goroutine) (σ : Hp) : Prop :=
  ∃ e ρ ds a, Agree N a ρ ds ∧ Q e ρ ds σ ∧ Arr b k cs a e g

theorem list_range_filterMap {α : Type} (l : List α) : (List.range l.length).filterMap (l[·]?) = l := by
  have : ∀ (n : Nat), n ≤ l.length → (List.range n).filterMap (l[·]?) = l.take n := by
    intro n
    induction n with
    | zero => intro _; rfl
    | succ n ih =>
      intro hn
      rw [List.range_succ, List.filterMap_append, ih (by omega), List.take_succ_eq_append_getElem (by omega)]
      simp [List.getElem?_eq_getElem (show n < l.length by omega)]
  rw [this _ (Nat.le_refl _), List.take_length]

theorem wpL_sound {N : Nat} {ops : Array Oper} {Q : Post} (b : Frame) (hb : b.kind ≠ .early) (k : List Item) (cs : List Frame) (l : List Nat) :
    ∀ (ρ : Rho) (ds : List Deferred) (σ : Hp) (a : Act), wpL E N ops Q (l.filterMap (ops[·]?)) ρ ds σ → Agree N a ρ ds → Runs E (G (b.at a (.inRegion ops l :: k)) cs) σ (Comes N Q b k cs) := by
  induction l with
  | nil =>
    intro ρ ds σ a h ha
    exact Runs.ctl (fun w => stepG_region_end) rfl rfl (Runs.here ⟨.normal, ρ, ds, a, ha, h, rfl⟩)
  | cons i rest ih =>
    intro ρ ds σ a h ha
    cases ho : ops[i]? with
    | none =>
      rw [List.filterMap_cons_none ho] at h
      have hw' : ((ops[i]?).map (Region.wanted · (yielded ops a.tmps))).getD false = false := by rw [ho]; rfl
      have hfin : (b.at a (.inRegion ops (i :: rest) :: k)).finish undef = b.at a (.inRegion ops rest :: k) := by rw [Frame.finish_at, ho]; rfl
      refine Runs.ctl (g' := G (b.at a (.inRegion ops rest :: k)) cs) (fun w => ?_) rfl rfl (ih _ _ _ _ h ha)
      rw [← hfin]
      simp only [Frame.at] at *
      simp [G, stepG, stepG.exec, hw']
    | some o =>
      rw [List.filterMap_cons_some ho] at h
      simp only [wpL] at h
      obtain ⟨hd, h⟩ := h
      by_cases hw : Region.wanted o (yieldedR N ops ρ) = true
      · rw [if_pos hw] at h
        have hw' : Region.wanted o (yielded ops a.tmps) = true := by rw [ha.yields]; exact hw
        have h := opQ_sound h
        unfold wpOp at h
        rw [← ha.eval] at h
        refine Runs.step rfl (stepOk_oper (P := P) (main := E.main) (b := b) (k := k) (cs := cs) (rest := rest) ho hw' hb h) ?_
        rintro g σ' (⟨v, hv, rfl⟩ | ⟨d, hdf, rfl⟩ | ⟨f, args, hc, rfl⟩ | ⟨v, hp, rfl⟩)
        · exact ih _ _ _ _ hv (ha.put hd v)
        · exact ih _ _ _ _ hdf ((ha.defer d).put hd undef)
        · refine CallsE.run hc ?_ ?_
          · intro v σ'' hv
            have hfin : (b.at a (.inRegion ops (i :: rest) :: k)).finish v = b.at (a.put o.dst v) (.inRegion ops rest :: k) := by rw [Frame.finish_at, ho]; rfl
            rw [hfin]
            exact ih _ _ _ _ hv (ha.put hd v)
          · intro ch σ'' hp
            refine Runs.here ⟨.panic ch, ρ, ds, a, ha, hp, .inRegion ops (i :: rest) :: k, ?_⟩
            rw [Frame.raise_at]
        · refine Runs.here ⟨.panic _, ρ, ds, a, ha, hp, .inRegion ops (i :: rest) :: k, ?_⟩
          rw [Frame.raise_at]
      · rw [if_neg hw] at h
        have hw' : ((ops[i]?).map (Region.wanted · (yielded ops a.tmps))).getD false = false := by rw [ho, ha.yields]; simpa using hw
        have hfin : (b.at a (.inRegion ops (i :: rest) :: k)).finish undef = b.at (a.put o.dst undef) (.inRegion ops rest :: k) := by rw [Frame.finish_at, ho]; rfl
        refine Runs.ctl (g' := G (b.at (a.put o.dst undef) (.inRegion ops rest :: k)) cs) (fun w => ?_) rfl rfl (ih _ _ _ _ h (ha.put hd undef))
        rw [← hfin]
        simp only [Frame.at] at *
        simp [G, stepG, stepG.exec, hw']

theorem wpO_sound {N : Nat} {ops : Array Oper} {Q : Post} (b : Frame) (hb : b.kind ≠ .early) (k : List Item) (cs : List Frame) (l : List Nat) :
    ∀ (ρ : Rho) (ds : List Deferred) (σ : Hp) (a : Act), wpO E N ops Q l ρ ds σ → Agree N a ρ ds → Runs E (G (b.at a (.inRegion ops l :: k)) cs) σ (Comes N Q b k cs) := by
  induction l with
  | nil =>
    intro ρ ds σ a h ha
    exact Runs.ctl (fun w => stepG_region_end) rfl rfl (Runs.here ⟨.normal, ρ, ds, a, ha, h, rfl⟩)
  | cons i rest ih =>
    intro ρ ds σ a h ha
    simp only [wpO, stepR] at h
    cases ho : ops[i]? with
    | none => rw [ho] at h; exact h.elim
    | some o =>
      rw [ho] at h
      obtain ⟨hd, h⟩ := h
      by_cases hw : Region.wanted o (yieldedR N ops ρ) = true
      · rw [if_pos hw] at h
        replace h : wpOp E o ρ ds σ (wpO E N ops Q rest) (fun ch σ' => Q (.panic ch) ρ ds σ') := by
          by_cases hr : isRd o.op = true
          · rw [if_pos hr] at h; obtain ⟨v, h3, h4⟩ := h; exact opQ_sound (readV_opQ h3 h4)
          · rw [if_neg hr] at h; exact h
        have hw' : Region.wanted o (yielded ops a.tmps) = true := by rw [ha.yields]; exact hw
        unfold wpOp at h
        rw [← ha.eval] at h
        refine Runs.step rfl (stepOk_oper (P := P) (main := E.main) (b := b) (k := k) (cs := cs) (rest := rest) ho hw' hb h) ?_
        rintro g σ' (⟨v, hv, rfl⟩ | ⟨d, hdf, rfl⟩ | ⟨f, args, hc, rfl⟩ | ⟨v, hp, rfl⟩)
        · exact ih _ _ _ _ hv (ha.put hd v)
        · exact ih _ _ _ _ hdf ((ha.defer d).put hd undef)
        · refine CallsE.run hc ?_ ?_
          · intro v σ'' hv
            have hfin : (b.at a (.inRegion ops (i :: rest) :: k)).finish v = b.at (a.put o.dst v) (.inRegion ops rest :: k) := by rw [Frame.finish_at, ho]; rfl
            rw [hfin]
            exact ih _ _ _ _ hv (ha.put hd v)
          · intro ch σ'' hp
            refine Runs.here ⟨.panic ch, ρ, ds, a, ha, hp, .inRegion ops (i :: rest) :: k, ?_⟩
            rw [Frame.raise_at]
        · refine Runs.here ⟨.panic _, ρ, ds, a, ha, hp, .inRegion ops (i :: rest) :: k, ?_⟩
          rw [Frame.raise_at]
      · rw [if_neg hw] at h
        have hw' : ((ops[i]?).map (Region.wanted · (yielded ops a.tmps))).getD false = false := by rw [ho, ha.yields]; simpa using hw
        have hfin : (b.at a (.inRegion ops (i :: rest) :: k)).finish undef = b.at (a.put o.dst undef) (.inRegion ops rest :: k) := by rw [Frame.finish_at, ho]; rfl
        refine Runs.ctl (g' := G (b.at (a.put o.dst undef) (.inRegion ops rest :: k)) cs) (fun w => ?_) rfl rfl (ih _ _ _ _ h (ha.put hd undef))
        rw [← hfin]
        simp only [Frame.at] at *
        simp [G, stepG, stepG.exec, hw']

theorem Comes.mono {N : Nat} {Q : Post} {b : Frame} {k : List Item} {cs : List Frame} {S : Goroutine → Hp → Prop}
    (hn : ∀ ρ ds σ a, Agree N a ρ ds → Q .normal ρ ds σ → Runs E (G (b.at a k) cs) σ S)
    (he : ∀ id ρ ds σ a k'', Agree N a ρ ds → Q (.exit id) ρ ds σ → exitTo id k'' = exitTo id k → Runs E (G (b.at a (.code (.exit id) :: k'')) cs) σ S)
    (hr : ∀ ρ ds σ a todo, Agree N a ρ ds → Q .ret ρ ds σ → Runs E (G { b.at a todo with mode := .returning } cs) σ S)
    (hp : ∀ ch ρ ds σ a todo, Agree N a ρ ds → Q (.panic ch) ρ ds σ → Runs E (G { b.at a todo with mode := .panicking ch } cs) σ S) :
    ∀ g σ, Comes N Q b k cs g σ → Runs E g σ S := by
  rintro g σ ⟨e, ρ, ds, a, ha, hq, harr⟩
  cases e with
  | normal => obtain rfl := harr; exact hn _ _ _ _ ha hq
  | exit id => obtain ⟨k'', rfl, hx⟩ := harr; exact he _ _ _ _ _ _ ha hq hx
  | ret => obtain ⟨todo, rfl⟩ := harr; exact hr _ _ _ _ _ ha hq
  | panic ch => obtain ⟨todo, rfl⟩ := harr; exact hp _ _ _ _ _ _ ha hq

/-- ████ Code that is well comes, in company, to where its postcondition says. ████ -/
theorem wpC_sound {N : Nat} (c : Code) : ∀ (Q : Post) (ρ : Rho) (ds : List Deferred) (σ : Hp), wpC E N c Q ρ ds σ →
    ∀ (b : Frame) (k : List Item) (cs : List Frame) (a : Act), b.kind ≠ .early → Agree N a ρ ds → Runs E (G (b.at a (.code c :: k)) cs) σ (Comes N Q b k cs) := by
  induction c with
  | skip => exact fun Q ρ ds σ h b k cs a hb ha => Runs.ctl (fun w => stepG_skip) rfl rfl (Runs.here ⟨.normal, ρ, ds, a, ha, h, rfl⟩)
  | label l => exact fun Q ρ ds σ h b k cs a hb ha => Runs.ctl (fun w => stepG_label) rfl rfl (Runs.here ⟨.normal, ρ, ds, a, ha, h, rfl⟩)
  | region id ops draw =>
    intro Q ρ ds σ h b k cs a hb ha
    cases draw with
    | false =>
      have e : ops.toList = (List.range ops.size).filterMap (ops[·]?) := by
        apply List.ext_getElem?
        intro i
        rw [show (fun x => ops[x]?) = fun x => (ops.toList)[x]? by funext x; simp]
        rw [← Array.length_toList, list_range_filterMap]
      refine Runs.ctl (fun w => stepG_region) rfl rfl (wpL_sound b hb k cs _ ρ ds σ a ?_ ha)
      rw [← e]; exact h
    | true =>
      refine Runs.step (X := fun g₁ σ₁ => σ₁ = σ ∧ ∃ t, g₁ = G (b.at a (.inRegion ops (Region.schedule (P.follows .mixedOrders) ops t) :: k)) cs) rfl ?_ ?_
      · intro J w hs
        have : stepG P E.main (G (b.at a (.code (.region id ops true) :: k)) cs) w = .go (G (b.at a (.inRegion ops (Region.schedule (P.follows .mixedOrders) ops (w.tape w.drawn (.order b.fn id))) :: k)) cs) { w with drawn := w.drawn + 1 } := by
          simp [G, stepG, stepG.exec, Frame.at, choose, Sem.run, Question.forced, Question.cut]
        rw [this]
        exact ⟨σ, hs.drew _, ⟨fun _ _ => rfl, rfl, rfl, rfl, Nat.le_refl _⟩, by simp, rfl, rfl, _, rfl⟩
      · rintro g₁ σ₁ ⟨rfl, t, rfl⟩
        exact wpO_sound b hb k cs _ ρ ds σ₁ a (h t) ha
  | seq x y ihx ihy =>
    intro Q ρ ds σ h b k cs a hb ha
    refine Runs.ctl (fun w => stepG_seq) rfl rfl ((ihx _ _ _ _ h b (.code y :: k) cs a hb ha).bind (Comes.mono ?_ ?_ ?_ ?_))
    · exact fun ρ' ds' σ' a' ha' hq => ihy _ _ _ _ hq b k cs a' hb ha'
    · exact fun id ρ' ds' σ' a' k'' ha' hq hx => Runs.here ⟨.exit id, ρ', ds', a', ha', hq, k'', rfl, hx⟩
    · exact fun ρ' ds' σ' a' todo ha' hq => Runs.here ⟨.ret, ρ', ds', a', ha', hq, todo, rfl⟩
    · exact fun ch ρ' ds' σ' a' todo ha' hq => Runs.here ⟨.panic ch, ρ', ds', a', ha', hq, todo, rfl⟩
  | cond x c₁ c₂ ih₁ ih₂ =>
    intro Q ρ ds σ h b k cs a hb ha
    unfold wpC at h
    split at h
    · rename_i hv
      exact Runs.ctl (fun w => stepG_cond (t := true) (by rw [ha.eval]; exact hv)) rfl rfl (ih₁ _ _ _ _ h b k cs a hb ha)
    · rename_i hv
      exact Runs.ctl (fun w => stepG_cond (t := false) (by rw [ha.eval]; exact hv)) rfl rfl (ih₂ _ _ _ _ h b k cs a hb ha)
    · exact h.elim
  | block id c ih =>
    intro Q ρ ds σ h b k cs a hb ha
    refine Runs.ctl (fun w => stepG_block) rfl rfl ((ih _ _ _ _ h b (.inBlock id :: k) cs a hb ha).bind (Comes.mono ?_ ?_ ?_ ?_))
    · exact fun ρ' ds' σ' a' ha' hq => Runs.ctl (fun w => stepG_inBlock) rfl rfl (Runs.here ⟨.normal, ρ', ds', a', ha', hq, rfl⟩)
    · intro id' ρ' ds' σ' a' k'' ha' hq hx
      by_cases e : id' = id
      · subst e
        simp only [blockQ, if_true] at hq
        have hx' : exitTo id' k'' = some k := by rw [hx]; simp [exitTo]
        exact Runs.ctl (fun w => stepG_exit hx') rfl rfl (Runs.here ⟨.normal, ρ', ds', a', ha', hq, rfl⟩)
      · simp only [blockQ, e, if_false] at hq
        refine Runs.here ⟨.exit id', ρ', ds', a', ha', hq, k'', rfl, ?_⟩
        rw [hx]
        have : (id == id') = false := by simp; exact fun z => e z.symm
        simp [exitTo, this]
    · exact fun ρ' ds' σ' a' todo ha' hq => Runs.here ⟨.ret, ρ', ds', a', ha', hq, todo, rfl⟩
    · exact fun ch ρ' ds' σ' a' todo ha' hq => Runs.here ⟨.panic ch, ρ', ds', a', ha', hq, todo, rfl⟩
  | loop c ih =>
    intro Q ρ ds σ h b k cs a hb ha
    refine Runs.ctl (fun w => stepG_loop) rfl rfl ?_
    refine h (fun ρ ds σ => ∀ a, Agree N a ρ ds → Runs E (G (b.at a (.code c :: .inLoop c :: k)) cs) σ (Comes N Q b k cs)) ?_ a ha
    intro ρ' ds' σ' hbody a' ha'
    refine (ih _ _ _ _ hbody b (.inLoop c :: k) cs a' hb ha').bind (Comes.mono ?_ ?_ ?_ ?_)
    · exact fun ρ₂ ds₂ σ₂ a₂ ha₂ ⟨τ, hle, hq⟩ => Runs.ctl (fun w => stepG_inLoop) rfl rfl ((hq a₂ ha₂).weak hle)
    · exact fun id ρ₂ ds₂ σ₂ a₂ k'' ha₂ hq hx => Runs.here ⟨.exit id, ρ₂, ds₂, a₂, ha₂, hq, k'', rfl, by rw [hx]; simp [exitTo]⟩
    · exact fun ρ₂ ds₂ σ₂ a₂ todo ha₂ hq => Runs.here ⟨.ret, ρ₂, ds₂, a₂, ha₂, hq, todo, rfl⟩
    · exact fun ch ρ₂ ds₂ σ₂ a₂ todo ha₂ hq => Runs.here ⟨.panic ch, ρ₂, ds₂, a₂, ha₂, hq, todo, rfl⟩
  | exit id => exact fun Q ρ ds σ h b k cs a hb ha => Runs.here ⟨.exit id, ρ, ds, a, ha, h, k, rfl, rfl⟩
  | ret =>
    intro Q ρ ds σ h b k cs a hb ha
    refine Runs.ctl (g' := G { b.at a (.code .ret :: k) with mode := .returning } cs) (fun w => ?_) rfl rfl (Runs.here ⟨.ret, ρ, ds, a, ha, h, _, rfl⟩)
    simp [G, stepG, stepG.exec, Frame.at]
  | rangeFunc f ps x y => exact fun Q ρ ds σ h => h.elim
  | scope c => exact fun Q ρ ds σ h => h.elim
  | goto l => exact fun Q ρ ds σ h => h.elim
  | refuse w => exact fun Q ρ ds σ h => h.elim

theorem results_eq {fn : Func} {N : Nat} {a : Act} {ρ : Rho} {ds : List Deferred} (h : Agree N a ρ ds) : results fn a.tmps = resultsR fn ρ := by
  have hg : ∀ t, a.tmps.getD t undef = ρ t := h.tmps
  simp only [results, resultsR, hg]
  rfl

def startR (args : Array Value) (_ : Nat) (t : Nat) : Value := args.getD t undef

theorem agree_start (args : Array Value) (n : Nat) (h : args.size ≤ n) : Agree n { tmps := args ++ Array.replicate (n - args.size) undef, defers := [] } (startR args n) [] := by
  refine ⟨by simp; omega, rfl, fun t => ?_⟩
  simp only [startR, Array.getD_eq_getD_getElem?]
  rcases Nat.lt_or_ge t args.size with hlt | hge
  · rw [Array.getElem?_append_left hlt]
  · rw [Array.getElem?_append_right hge, Array.getElem?_eq_none hge]
    rw [Array.getElem?_replicate]
    split <;> rfl

/-- What results that are read leave: the value is one. -/
def ResultIs (P : Program) (fn : Func) (ρ : Rho) (σ : Hp) (v : Value) : Prop := wpS P (resultsR fn ρ) (fun v' σ' => v' = v ∧ σ' = σ) (fun _ _ => False) σ

/-- The postcondition of a body that defers nothing. -/
def retQ (P : Program) (fn : Func) (R : Fin → Hp → Prop) : Post
  | .normal, ρ, ds, σ | .ret, ρ, ds, σ => ds = [] ∧ ∃ v τ, τ.le σ ∧ ResultIs P fn ρ τ v ∧ R (.returned v) τ
  | .panic ch, _, ds, σ => ds = [] ∧ ∃ τ, τ.le σ ∧ R (.panicked ch) τ
  | .exit _, _, _, _ => False

/-- ████ A function whose body is well meets its call. ████ -/
theorem calls_of_wpC {f : FuncId} {fn : Func} {c : Code} {args : Array Value} {σ : Hp} {R : Fin → Hp → Prop} (hf : P.funcs[f]? = some fn) (hb : fn.body = some c) (hn : args.size ≤ fn.ntmps)
    (h : wpC E fn.ntmps c (retQ P fn R) (startR args fn.ntmps) [] σ) : CallsE E f args σ R := by
  intro cs
  let b : Frame := { (default : Frame) with fn := f, kind := .normal }
  have henter : Frame.enter P f args .normal = b.at { tmps := args ++ Array.replicate (fn.ntmps - args.size) undef, defers := [] } [.code c] := by
    simp [Frame.enter, Frame.at, hf, hb, b]
  rw [henter]
  refine (wpC_sound c _ _ _ _ h b [] cs _ (by simp [b]) (agree_start args fn.ntmps hn)).bind (Comes.mono ?_ ?_ ?_ ?_)
  · rintro ρ ds σ' a ha ⟨hds, v, τ, hle, hv, hR⟩
    refine Runs.weak (τ := τ) (Runs.ctl (fun w => stepG_end) rfl rfl (Runs.here ⟨.returned v, _, rfl, rfl, ⟨rfl, ?_, rfl, fn, hf, ?_⟩, hR⟩)) hle
    · have := ha.defers; subst hds; exact this
    · have := results_eq (fn := fn) ha
      simp only [Frame.at]
      rw [this]; exact hv
  · exact fun id ρ ds σ' a k'' _ hq => hq.elim
  · rintro ρ ds σ' a todo ha ⟨hds, v, τ, hle, hv, hR⟩
    refine Runs.weak (τ := τ) (Runs.here ⟨.returned v, _, rfl, rfl, ⟨rfl, ?_, rfl, fn, hf, ?_⟩, hR⟩) hle
    · have := ha.defers; subst hds; exact this
    · have := results_eq (fn := fn) ha
      simp only [Frame.at]
      rw [this]; exact hv
  · rintro ch ρ ds σ' a todo ha ⟨hds, τ, hle, hR⟩
    refine Runs.weak (τ := τ) (Runs.here ⟨.panicked ch, _, rfl, rfl, ⟨rfl, ?_, fn, hf⟩, hR⟩) hle
    have := ha.defers; subst hds; exact this

/-- What the results read as. -/
def ResIs (P : Program) (rs : Array ResultVar) (ρ : Rho) (σ : Hp) (v : Value) : Prop :=
  wpS P (do
    let vs ← rs.mapM fun
      | .tmp t => pure (ρ t)
      | .cell a t => do loadVar t (← asAddr (ρ a))
    pure (if h : vs.size = 1 then vs[0] else .tuple vs)) (fun v' σ' => v' = v ∧ σ' = σ) (fun _ _ => False) σ

theorem resIs_none {ρ : Rho} {σ : Hp} : ResIs P #[] ρ σ (.tuple #[]) := by
  simp [ResIs, wpS_pure', wpS]
theorem resIs_one {t : Tmp} {ρ : Rho} {σ : Hp} : ResIs P #[.tmp t] ρ σ (ρ t) := by
  simp [ResIs, wpS_pure', wpS, wpS_bind_eq]
theorem resIs_two {t u : Tmp} {ρ : Rho} {σ : Hp} : ResIs P #[.tmp t, .tmp u] ρ σ (.tuple #[ρ t, ρ u]) := by
  simp [ResIs, wpS_pure', wpS, wpS_bind_eq]
/-- ████ THE CALL, BY ITS BODY. ████ -/
theorem calls_enter {f : FuncId} {fn : Func} {c : Code} {n : Nat} {rs : Array ResultVar} {args : Array Value} {σ : Hp} {R : Fin → Hp → Prop} (hf : P.funcs[f]? = some fn) (hn : fn.ntmps = n) (hr : fn.results = rs) (hb : fn.body = some c) (hs : args.size ≤ n)
    (h : ∀ Q : Post, (∀ ρ σ τ v, ResIs P rs ρ τ v → τ.le σ → R (.returned v) τ → Q .normal ρ [] σ) → (∀ ρ σ τ v, ResIs P rs ρ τ v → τ.le σ → R (.returned v) τ → Q .ret ρ [] σ) → (∀ ch ρ σ τ, τ.le σ → R (.panicked ch) τ → Q (.panic ch) ρ [] σ) →
      wpC E n c Q (startR args n) [] σ) : CallsE E f args σ R := by
  subst hn; subst hr
  refine calls_of_wpC hf hb hs (h _ ?_ ?_ ?_)
  · exact fun ρ σ τ v h1 hl h2 => ⟨rfl, v, τ, hl, h1, h2⟩
  · exact fun ρ σ τ v h1 hl h2 => ⟨rfl, v, τ, hl, h1, h2⟩
  · exact fun ch ρ σ τ hl h => ⟨rfl, τ, hl, h⟩

/-- A loop, by what holds at each round's head; n falls. -/
theorem wpC_loop {N : Nat} {c : Code} {Q : Post} {ρ : Rho} {ds : List Deferred} {σ : Hp} (I : Nat → Rho → List Deferred → Hp → Prop) (n : Nat) (h0 : I n ρ ds σ)
    (hI : ∀ n ρ ds σ (X : Rho → List Deferred → Hp → Prop), I n ρ ds σ → (∀ m ρ' ds' σ' τ, m < n → I m ρ' ds' τ → τ.le σ' → X ρ' ds' σ') → wpC E N c (thenQ X Q) ρ ds σ) : wpC E N (.loop c) Q ρ ds σ := by
  unfold wpC
  intro X hX
  induction n using Nat.strongRecOn generalizing ρ ds σ with
  | _ n ih =>
    refine hX _ _ _ (hI n ρ ds σ (upQ X) h0 ?_)
    exact fun m ρ' ds' σ' τ hm hi hle => ⟨τ, hle, ih m hm hi⟩

/-- A region whose order is open. -/
theorem wpC_draw {N : Nat} {id : Nat} {ops : Array Oper} {Q : Post} {ρ : Rho} {ds : List Deferred} {σ : Hp} (l : List Nat) (pn : List PanicEntry → List Deferred → Hp → Prop) (hm : P.follows .mixedOrders = true) (hc : chkD ops l = true)
    (hpn : ∀ ch ρ ds σ, pn ch ds σ → Q (.panic ch) ρ ds σ) (h : wpD E N ops Q pn l [] ρ ds σ) : wpC E N (.region id ops true) Q ρ ds σ :=
  fun t => draw_sound hc hm hpn h t
end
end Go.Qw
-- Operation by operation, as rewriting rules that reckon the head first.
namespace Go.Qw
open Go Go.Conc

/-! ### words whose last argument is reckoned first, the rest not looked into -/
def tick {α : Type} (a : α) : α := a
theorem tick_eq {α : Type} {a : α} : tick a = a := id (Eq.refl a)
def chkQ (b : Bool) (p : Prop) : Prop := b = true ∧ p
@[congr] theorem chkQ_congr {b b' : Bool} {p : Prop} (h : tick b = b') : chkQ b p = chkQ b' p := by subst h; rfl
theorem chkQ_true {p : Prop} : chkQ true p = p := by simp [chkQ]
def optQ {α : Type} (k : α → Prop) : Option α → Prop
  | some v => k v
  | none => False
@[congr] theorem optQ_congr {α : Type} {k : α → Prop} {a a' : Option α} (h : tick a = a') : optQ k a = optQ k a' := by subst h; rfl
theorem optQ_some {α : Type} {k : α → Prop} {v : α} : optQ k (some v) = k v := _root_.id rfl
def pickQ (p q : Prop) : Value → Prop
  | .bool true => p
  | .bool false => q
  | _ => False
@[congr] theorem pickQ_congr {p q : Prop} {v v' : Value} (h : tick v = v') : pickQ p q v = pickQ p q v' := by subst h; rfl
theorem pickQ_t {p q : Prop} : pickQ p q (.bool true) = p := _root_.id rfl
theorem pickQ_f {p q : Prop} : pickQ p q (.bool false) = q := _root_.id rfl
def ptrQ (k : Addr → Prop) : Value → Prop
  | .pointer (some a) => k a
  | _ => False
@[congr] theorem ptrQ_congr {k : Addr → Prop} {v v' : Value} (h : tick v = v') : ptrQ k v = ptrQ k v' := by subst h; rfl
theorem ptrQ_some {k : Addr → Prop} {a : Addr} : ptrQ k (.pointer (some a)) = k a := _root_.id rfl
def nilCkQ (k : Value → Prop) : Value → Prop
  | .pointer (some a) => k (.pointer (some a))
  | .func (.func f) l c => k (.func (.func f) l c)
  | _ => False
@[congr] theorem nilCkQ_congr {k : Value → Prop} {v v' : Value} (h : tick v = v') : nilCkQ k v = nilCkQ k v' := by subst h; rfl
theorem nilCkQ_p {k : Value → Prop} {a : Addr} : nilCkQ k (.pointer (some a)) = k (.pointer (some a)) := _root_.id rfl
theorem nilCkQ_f {k : Value → Prop} {f : FuncId} {l c : Array Value} : nilCkQ k (.func (.func f) l c) = k (.func (.func f) l c) := _root_.id rfl
/-- The value comes first, then the rest. -/
def valQ (k : Value → Prop) (v : Value) : Prop := k v
@[congr] theorem valQ_congr {k : Value → Prop} {v v' : Value} (h : tick v = v') : valQ k v = valQ k v' := by subst h; rfl
def tupQ (k : Value → Prop) (i : Nat) : Value → Prop
  | .tuple vs => optQ k vs[i]?
  | _ => False
@[congr] theorem tupQ_congr {k : Value → Prop} {i : Nat} {v v' : Value} (h : tick v = v') : tupQ k i v = tupQ k i v' := by subst h; rfl
theorem tupQ_tuple {k : Value → Prop} {i : Nat} {vs : Array Value} : tupQ k i (.tuple vs) = optQ k vs[i]? := _root_.id rfl
/-- A new block. -/
def newQ (σ : Hp) (k : Nat → Prop) : Prop := ∀ b, σ.f b = none → k b
@[congr] theorem newQ_congr {σ : Hp} {k : Nat → Prop} {n₀ : Nat} (_ : tick 0 = n₀) : newQ σ k = newQ σ k := rfl
def orQ (p : Prop) (k : Value → Prop) : Option Value → Prop
  | some v => k v
  | none => p
@[congr] theorem orQ_congr {p : Prop} {k : Value → Prop} {a a' : Option Value} (h : tick a = a') : orQ p k a = orQ p k a' := by subst h; rfl
theorem orQ_some {p : Prop} {k : Value → Prop} {v : Value} : orQ p k (some v) = k v := _root_.id rfl
theorem orQ_none {p : Prop} {k : Value → Prop} : orQ p k none = p := _root_.id rfl

section
variable {P : Program} {E : Env P} {N : Nat} {ops : Array Oper} {Q : Post} {rest : List Oper} {ρ : Rho} {ds : List Deferred} {σ : Hp} {dst : Option Tmp} {ty : TypeId} {pos : String} {af : Array Edge}

@[congr] theorem callQ_congr {f : FuncId} {args args' : Array Value} {nx : Rho → List Deferred → Hp → Prop} {pn : List PanicEntry → Hp → Prop} (h : tick args = args') : callQ E f args σ dst ρ ds nx pn = callQ E f args' σ dst ρ ds nx pn := by subst h; rfl
@[congr] theorem wpL_congr {l : List Oper} {n₀ : Nat} (_ : tick 0 = n₀) : wpL E N ops Q l ρ ds σ = wpL E N ops Q l ρ ds σ := rfl
@[congr] theorem wpC_congr {c : Code} {n₀ : Nat} (_ : tick 0 = n₀) : wpC E N c Q ρ ds σ = wpC E N c Q ρ ds σ := rfl
@[congr] theorem wpOp_congr {o : Oper} {nx : Rho → List Deferred → Hp → Prop} {pn : List PanicEntry → Hp → Prop} {n₀ : Nat} (_ : tick 0 = n₀) : wpOp E o ρ ds σ nx pn = wpOp E o ρ ds σ nx pn := rfl
@[congr] theorem opQ_congr {o : Oper} {nx : Rho → List Deferred → Hp → Prop} {pn : List PanicEntry → Hp → Prop} {n₀ : Nat} (_ : tick 0 = n₀) : opQ E o ρ ds σ nx pn = opQ E o ρ ds σ nx pn := rfl

theorem wl_plain {op : Op} : wpL E N ops Q (⟨dst, op, ty, pos, af, none⟩ :: rest) ρ ds σ = chkQ (okDst N dst) (opQ E ⟨dst, op, ty, pos, af, none⟩ ρ ds σ (wpL E N ops Q rest) (fun ch σ' => Q (.panic ch) ρ ds σ')) := by
  simp [wpL, Region.wanted, chkQ]
def gdQ (p q : Prop) (b : Bool) (a : Option Bool) : Prop := if a = some b then p else q
@[congr] theorem gdQ_congr {p q : Prop} {b : Bool} {a a' : Option Bool} (h : tick a = a') : gdQ p q b a = gdQ p q b a' := by subst h; rfl
theorem gdQ_tt {p q : Prop} : gdQ p q true (some true) = p := by simp [gdQ]
theorem gdQ_ff {p q : Prop} : gdQ p q false (some false) = p := by simp [gdQ]
theorem gdQ_tf {p q : Prop} : gdQ p q true (some false) = q := by simp [gdQ]
theorem gdQ_ft {p q : Prop} : gdQ p q false (some true) = q := by simp [gdQ]
theorem wl_guard {op : Op} {j : Nat} {b : Bool} : wpL E N ops Q (⟨dst, op, ty, pos, af, some (j, b)⟩ :: rest) ρ ds σ =
    chkQ (okDst N dst) (gdQ (opQ E ⟨dst, op, ty, pos, af, some (j, b)⟩ ρ ds σ (wpL E N ops Q rest) (fun ch σ' => Q (.panic ch) ρ ds σ')) (wpL E N ops Q rest (putR ρ dst undef) ds σ) b (yieldedR N ops ρ j)) := by
  simp only [wpL, Region.wanted, chkQ, gdQ, beq_iff_eq]
theorem wl_nil : wpL E N ops Q [] ρ ds σ = Q .normal ρ ds σ := _root_.id rfl

variable {g : Option (Nat × Bool)} {nx : Rho → List Deferred → Hp → Prop} {pn : List PanicEntry → Hp → Prop}
theorem q_move {x : Operand} : opQ E ⟨dst, .move x, ty, pos, af, g⟩ ρ ds σ nx pn = valQ (fun v => nx (putR ρ dst v) ds σ) (evR ρ x) := _root_.id rfl
theorem q_assign {x : Operand} : opQ E ⟨dst, .assign x, ty, pos, af, g⟩ ρ ds σ nx pn = valQ (fun v => nx (putR ρ dst v) ds σ) (evR ρ x) := _root_.id rfl
theorem q_pick {c a b : Operand} : opQ E ⟨dst, .pick c a b, ty, pos, af, g⟩ ρ ds σ nx pn = pickQ (valQ (fun v => nx (putR ρ dst v) ds σ) (evR ρ a)) (valQ (fun v => nx (putR ρ dst v) ds σ) (evR ρ b)) (evR ρ c) := by
  simp only [opQ, pickQ]
  cases evR ρ c <;> first | rfl | (rename_i t; cases t <;> rfl)
theorem q_alloc {t : TypeId} : opQ E ⟨dst, .alloc t, ty, pos, af, g⟩ ρ ds σ nx pn = optQ (fun z => newQ σ fun b => nx (putR ρ dst (.pointer (some ⟨b, 0, none⟩))) ds (σ.set b (.cells z.cells t))) (zeroT P t) := by
  simp only [opQ, optQ, newQ]
  cases zeroT P t <;> rfl
theorem q_box {t : TypeId} {x : Operand} : opQ E ⟨dst, .box t x, ty, pos, af, g⟩ ρ ds σ nx pn = valQ (fun v => newQ σ fun b => nx (putR ρ dst (.pointer (some ⟨b, 0, none⟩))) ds (σ.set b (.cells v.cells t))) (evR ρ x) := _root_.id rfl
theorem q_load {t : TypeId} {x : Operand} : opQ E ⟨dst, .load t x, ty, pos, af, g⟩ ρ ds σ nx pn = chkQ (isT P t) (ptrQ (fun a => ldQ P t a σ (fun v => nx (putR ρ dst v) ds σ)) (evR ρ x)) := by
  simp only [opQ, ptrQ, chkQ]
  cases evR ρ x <;> first | (simp only [and_false]; done) | (rename_i t; cases t <;> simp)
theorem q_store {t : TypeId} {x v : Operand} : opQ E ⟨dst, .store t x v, ty, pos, af, g⟩ ρ ds σ nx pn = chkQ (isT P t) (ptrQ (fun a => valQ (fun v => stQ P t a v σ fun σ' => nx (putR ρ dst undef) ds σ') (evR ρ v)) (evR ρ x)) := by
  simp only [opQ, ptrQ, chkQ, valQ]
  cases evR ρ x <;> first | (simp only [and_false]; done) | (rename_i t; cases t <;> simp)
theorem q_nilCheck {x : Operand} : opQ E ⟨dst, .nilCheck x, ty, pos, af, g⟩ ρ ds σ nx pn = nilCkQ (fun v => nx (putR ρ dst v) ds σ) (evR ρ x) := by
  simp only [opQ]
  unfold nilCkQ
  generalize evR ρ x = y
  cases y <;> first | rfl | (rename_i a; cases a <;> rfl) | (rename_i a b c; cases a <;> rfl)
theorem q_fieldAddr {s : TypeId} {x : Operand} {f : Nat} : opQ E ⟨dst, .fieldAddr s x f, ty, pos, af, g⟩ ρ ds σ nx pn = ptrQ (fun a => optQ (fun n => valQ (fun v => nx (putR ρ dst v) ds σ) (.pointer (some (a.add n)))) (fieldOff P s f)) (evR ρ x) := by
  simp only [opQ, ptrQ]
  cases evR ρ x <;> first | rfl | (rename_i t; cases t <;> cases fieldOff P s f <;> rfl)
theorem q_binOp {op : BinOp} {t u : TypeId} {x y : Operand} : opQ E ⟨dst, .binOp op t x y u, ty, pos, af, g⟩ ρ ds σ nx pn =
    orQ (orQ (orQ (wpOp E ⟨dst, .binOp op t x y u, ty, pos, af, g⟩ ρ ds σ nx pn) (fun v => nx (putR ρ dst v) ds σ) (nilNil P op t x y (evR ρ x) (evR ρ y))) (fun v => nx (putR ρ dst v) ds σ) (nilV P op t (evR ρ x) (evR ρ y)))
      (fun v => nx (putR ρ dst v) ds σ) (binV op (evR ρ x) (evR ρ y)) := by
  simp only [opQ, orQ]
  cases binV op (evR ρ x) (evR ρ y) <;> cases nilV P op t (evR ρ x) (evR ρ y) <;> cases nilNil P op t x y (evR ρ x) (evR ρ y) <;> rfl
theorem q_unOp {op : UnOp} {t : TypeId} {x : Operand} : opQ E ⟨dst, .unOp op t x, ty, pos, af, g⟩ ρ ds σ nx pn = optQ (fun v => nx (putR ρ dst v) ds σ) (unV op (evR ρ x)) := by
  simp only [opQ, optQ]
  cases unV op (evR ρ x) <;> rfl
theorem q_convert {s d : TypeId} {x : Operand} (hn : u8T P s d = none) : opQ E ⟨dst, .convert s d x, ty, pos, af, g⟩ ρ ds σ nx pn = orQ (wpOp E ⟨dst, .convert s d x, ty, pos, af, g⟩ ρ ds σ nx pn) (fun v => nx (putR ρ dst v) ds σ) (convV P s d (evR ρ x)) := by
  simp only [opQ, orQ, hn]
  cases convV P s d (evR ρ x) <;> rfl
/-- A type that is there and is no interface. -/
def concT (P : Program) (t : TypeId) : Bool := match P.underlying t with | some (.interface _) => false | some _ => true | none => false
theorem q_makeInterface {t : TypeId} {x : Operand} : opQ E ⟨dst, .makeInterface t x, ty, pos, af, g⟩ ρ ds σ nx pn = chkQ (concT P t) (valQ (fun v => nx (putR ρ dst (.iface t v)) ds σ) (evR ρ x)) := by
  simp only [opQ, chkQ, concT, valQ]
  cases P.underlying t with
  | none => simp
  | some d => cases d <;> simp
theorem q_makeFunc {f : Fn} {l c : Array Operand} : opQ E ⟨dst, .makeFunc f l c, ty, pos, af, g⟩ ρ ds σ nx pn = valQ (fun v => nx (putR ρ dst v) ds σ) (.func f (l.map (evR ρ)) (c.map (evR ρ))) := _root_.id rfl
theorem q_makeMap {t : TypeId} : opQ E ⟨dst, .makeMap t none, ty, pos, af, g⟩ ρ ds σ nx pn = newQ σ fun b => nx (putR ρ dst (.map (some b))) ds (σ.set b (.map #[] 0)) := _root_.id rfl
theorem q_extract {x : Operand} {i : Nat} : opQ E ⟨dst, .extract x i, ty, pos, af, g⟩ ρ ds σ nx pn = tupQ (fun v => nx (putR ρ dst v) ds σ) i (evR ρ x) := by
  simp only [opQ, tupQ]
  cases evR ρ x <;> first | rfl | (rename_i vs; simp only [optQ]; cases vs[i]? <;> rfl)
theorem q_call {f : FuncId} {as : Array Operand} {ats : Array TypeId} : opQ E ⟨dst, .call ⟨.value (.func f), as, ats⟩, ty, pos, af, g⟩ ρ ds σ nx pn = callQ E f (as.map (evR ρ)) σ dst ρ ds nx pn := _root_.id rfl
theorem q_callv {x : Tmp} {as : Array Operand} {ats : Array TypeId} {f : FuncId} {l cap : Array Value} (h : ρ x = .func (.func f) l cap) : opQ E ⟨dst, .call ⟨.value (.tmp x), as, ats⟩, ty, pos, af, g⟩ ρ ds σ nx pn = callQ E f (l ++ as.map (evR ρ) ++ cap) σ dst ρ ds nx pn := by
  simp only [opQ, h]
/-- The length of a text or a slice. -/
def lenQ (P : Program) (p : Prop) (k : Value → Prop) (t : TypeId) (x : Value) : Prop :=
  match lenT P t x, lenV x with
  | true, some v => k v
  | _, _ => p
@[congr] theorem lenQ_congr {p : Prop} {k : Value → Prop} {t : TypeId} {v v' : Value} (h : tick v = v') : lenQ P p k t v = lenQ P p k t v' := by subst h; rfl
theorem lenQ_str {p : Prop} {k : Value → Prop} {t : TypeId} {s : ByteArray} (h : P.underlying t = some .string) : lenQ P p k t (.string s) = k (.int .i64 s.size) := by
  simp [lenQ, lenT, lenV, h]
theorem lenQ_slice {p : Prop} {k : Value → Prop} {t : TypeId} {a : Option Addr} {n c : Nat} (h : (sliceElem P t).isSome = true) : lenQ P p k t (.slice a n c) = k (.int .i64 n) := by
  obtain ⟨e, he⟩ := Option.isSome_iff_exists.1 h
  simp [lenQ, lenT, lenV, sliceElem_elim he]
theorem q_len {x : Operand} {ats : Array TypeId} {t : TypeId} (h : ats[0]? = some t) : opQ E ⟨dst, .call ⟨.builtin .len, #[x], ats⟩, ty, pos, af, g⟩ ρ ds σ nx pn =
    lenQ P (wpOp E ⟨dst, .call ⟨.builtin .len, #[x], ats⟩, ty, pos, af, g⟩ ρ ds σ nx pn) (fun v => nx (putR ρ dst v) ds σ) t (evR ρ x) := by
  have e : (#[x].map (evR ρ))[0]? = some (evR ρ x) := by simp
  simp only [opQ, h, e, lenQ]
  rfl

/-! ### slots -/
theorem up_same (d : Nat) (v : Value) : up ρ d v d = v := by simp [up]
theorem up_ne {d t : Nat} (v : Value) (h : (t == d) = false) : up ρ d v t = ρ t := by simp at h; simp [up, h]
theorem evR_tmp (t : Tmp) : evR ρ (.tmp t) = ρ t := _root_.id rfl
theorem evR_const (v : Value) : evR ρ (.const v) = v := _root_.id rfl
theorem evR_func (f : FuncId) : evR ρ (.func f) = .func (.func f) #[] #[] := _root_.id rfl
theorem evR_global (f : Nat) : evR ρ (.global f) = .pointer (some ⟨f, 0, none⟩) := _root_.id rfl
theorem putR_some (d : Tmp) (v : Value) : putR ρ (some d) v = up ρ d v := _root_.id rfl
theorem putR_none (v : Value) : putR ρ none v = ρ := _root_.id rfl
theorem okDst_some {d : Tmp} : okDst N (some d) = decide (d < N) := _root_.id rfl
theorem okDst_none : okDst N none = true := _root_.id rfl

/-! ### memory -/
@[congr] theorem ldQ_congr {t : TypeId} {a : Addr} {k : Value → Prop} {n₀ : Nat} (_ : tick 0 = n₀) : ldQ P t a σ k = ldQ P t a σ k := rfl
@[congr] theorem stQ_congr {t : TypeId} {a : Addr} {v : Value} {k : Hp → Prop} {n₀ : Nat} (_ : tick 0 = n₀) : stQ P t a v σ k = stQ P t a v σ k := rfl
def objQ (k : Obj → Prop) : Option Obj → Prop
  | some o => k o
  | none => False
@[congr] theorem objQ_congr {k : Obj → Prop} {a a' : Option Obj} (h : tick a = a') : objQ k a = objQ k a' := by subst h; rfl
theorem objQ_some {k : Obj → Prop} {o : Obj} : objQ k (some o) = k o := _root_.id rfl
def cellIn (off : Nat) (k : Value → Prop) : Obj → Prop
  | .cells c _ _ => optQ k c[off]?
  | _ => False
@[congr] theorem cellIn_congr {off : Nat} {k : Value → Prop} {o o' : Obj} (h : tick o = o') : cellIn off k o = cellIn off k o' := by subst h; rfl
def cellsIn (off n : Nat) (k : Value → Prop) : Obj → Prop
  | .cells c _ _ => off + n ≤ c.size ∧ k (.agg (c.extract off (off + n)))
  | _ => False
@[congr] theorem cellsIn_congr {off n n' : Nat} {k : Value → Prop} {o o' : Obj} (h : tick o = o') (hn : tick n = n') : cellsIn off n k o = cellsIn off n' k o' := by subst h; subst hn; rfl
theorem ldQ_scalar {t : TypeId} {b off : Nat} {k : Value → Prop} (h : aggT P t = false) : ldQ P t ⟨b, off, none⟩ σ k = objQ (cellIn off k) (σ.f b) := by
  simp only [ldQ, h, Bool.false_eq_true, if_false, objQ, Hp.cell?]
  cases σ.f b with
  | none => rfl
  | some o =>
    cases o <;> first | rfl | skip
    rename_i c e z
    simp only [cellIn, optQ, Option.isSome_none, Bool.false_eq_true, if_false]
    cases c[off]? <;> rfl
theorem ldQ_agg {t : TypeId} {b off n : Nat} {k : Value → Prop} (h : aggT P t = true) (hn : sizeT P t = n) : ldQ P t ⟨b, off, none⟩ σ k = objQ (cellsIn off n k) (σ.f b) := by
  subst hn
  simp only [ldQ, h, if_true, objQ, cellsOf]
  cases σ.f b with
  | none => rfl
  | some o =>
    cases o <;> first | rfl | skip
    rename_i c e z
    simp only [cellsIn, true_and]
    by_cases hc : off + sizeT P t ≤ c.size <;> simp [hc]
theorem add_off {b off n : Nat} : (⟨b, off, none⟩ : Addr).add n = ⟨b, off + n, none⟩ := Addr.add_spot rfl n
def putIn (P : Program) (t : TypeId) (off : Nat) (v : Value) (k : Obj → Prop) : Obj → Prop
  | .cells c e z =>
    if isScalarV v then off < c.size ∧ z = (0, 0) ∧ sizeT P t = 1 ∧ k (.cells (c.setIfInBounds off v) e z)
    else off + v.cells.size ≤ c.size ∧ z = (0, 0) ∧ sizeT P t = v.cells.size ∧ v.cells.all isScalarV = true ∧ k (.cells (c.extract 0 off ++ v.cells ++ c.extract (off + v.cells.size) c.size) e z)
  | _ => False
@[congr] theorem putIn_congr {t : TypeId} {off : Nat} {v v' : Value} {k : Obj → Prop} {o o' : Obj} (h : tick o = o') (hv : tick v = v') : putIn P t off v k o = putIn P t off v' k o' := by subst h; subst hv; rfl
theorem stQ_eq {t : TypeId} {b off : Nat} {v : Value} {k : Hp → Prop} : stQ P t ⟨b, off, none⟩ v σ k = objQ (putIn P t off v (fun o => k (σ.set b o))) (σ.f b) := by
  unfold stQ objQ
  cases σ.f b with
  | none => rfl
  | some o => cases o <;> first | rfl | (simp only [putIn, true_and])
def stChk (P : Program) (t : TypeId) (off : Nat) (c : Array Value) : Bool := sizeT P t == 1 && decide (off < c.size)
end
end Go.Qw
