/- The law Beats of queuewire returns true for every three integers: the row over the given program, tied to its text; no condition besides. (Part 18 of 40: QwSched QwAny QwWg QwPre QwIter.) -/
import Derived.Test.YtpiabknabfbfhaaGreatDoorProg
import Derived.Conc.FxGenWait
import Derived.Conc.FxGenDone
import Derived.Conc.FxGenLone
import Derived.KernelRfl
import Derived.AtR
import Derived.Test.YtpiabknabfbfhaaGreatDoorBeats06
import Derived.Test.YtpiabknabfbfhaaGreatDoorBeats13
import Derived.Test.YtpiabknabfbfhaaGreatDoorBeats17
set_option linter.all false
-- A region whose order is open and which ends in one operation that the walk does not enter: all orders; the prefix.
namespace Go.Qw
open Go Go.Conc

/-! ### the orders -/
def allGo (ops : Array Oper) : Nat → Array Bool → List (List Nat)
  | 0, _ => [[]]
  | fuel + 1, listed => match Region.ready .any ops listed with
    | [] => [[]]
    | rs => rs.flatMap fun i => (allGo ops fuel (listed.setIfInBounds i true)).map (i :: ·)

theorem go_mem (ops : Array Oper) : ∀ (fuel t : Nat) (listed : Array Bool), Region.linearise.go .any ops fuel t listed [] ∈ allGo ops fuel listed := by
  intro fuel
  induction fuel with
  | zero => intro t listed; simp [Region.linearise.go, allGo]
  | succ fuel ih =>
    intro t listed
    simp only [Region.linearise.go, allGo]
    change (match (Region.ready .any ops listed)[t % (Region.ready .any ops listed).length]? with
      | some i => Region.linearise.go .any ops fuel (t / (Region.ready .any ops listed).length) (listed.setIfInBounds i true) [i]
      | none => [].reverse) ∈ _
    cases hr : Region.ready .any ops listed with
    | nil => simp
    | cons x xs =>
      have hlt : t % (x :: xs).length < (x :: xs).length := Nat.mod_lt _ (by simp)
      rw [List.getElem?_eq_getElem hlt]
      simp only []
      rw [linearise_go_acc, List.reverse_singleton, List.singleton_append]
      exact List.mem_flatMap.2 ⟨_, List.getElem_mem hlt, List.mem_map.2 ⟨_, ih _ _, rfl⟩⟩

/-- Every order ends in m, and m stands nowhere else. -/
def endsIn (ops : Array Oper) (m : Nat) : Bool := (allGo ops ops.size (Array.replicate ops.size false)).all fun l => l.getLast? == some m && l.dropLast.all (· != m)

theorem sched_ends {P : Program} (hm : P.follows .mixedOrders = true) {ops : Array Oper} {m : Nat} (h : endsIn ops m = true) (t : Nat) : ∃ p, Region.schedule (P.follows .mixedOrders) ops t = p ++ [m] ∧ ∀ i ∈ p, i ≠ m := by
  have := go_mem ops ops.size t (Array.replicate ops.size false)
  simp only [Region.schedule, hm, Bool.true_or, if_true, Region.linearise]
  generalize Region.linearise.go .any ops ops.size t (Array.replicate ops.size false) [] = l at this
  unfold endsIn at h
  rw [List.all_eq_true] at h
  have h := h l this
  simp only [Bool.and_eq_true, beq_iff_eq, List.all_eq_true, bne_iff_ne, ne_eq] at h
  refine ⟨l.dropLast, ?_, h.2⟩
  have hne : l ≠ [] := by intro e; subst e; simp at h
  rw [List.getLast?_eq_some_getLast hne, Option.some.injEq] at h
  rw [← h.1]; exact (List.dropLast_concat_getLast hne).symm

/-- The region with a mute reader in place of operation m: the orders are the same. -/
def muted (ops : Array Oper) (m : Nat) : Array Oper := ops.modify m fun o => { o with op := .move (.const undef) }
theorem muted_size (ops : Array Oper) (m : Nat) : (muted ops m).size = ops.size := by simp [muted]
theorem muted_get {ops : Array Oper} {m i : Nat} (h : i ≠ m) : (muted ops m)[i]? = ops[i]? := by simp [muted, Array.getElem?_modify, Ne.symm h]
theorem muted_after (ops : Array Oper) (m i : Nat) : ((muted ops m)[i]?).map (·.after) = (ops[i]?).map (·.after) := by
  by_cases h : i = m
  · subst h; simp [muted, Array.getElem?_modify]; cases ops[i]? <;> rfl
  · rw [muted_get h]
theorem muted_dst (ops : Array Oper) (m i : Nat) : dstAt (muted ops m) i = dstAt ops i := by
  unfold dstAt
  by_cases h : i = m
  · subst h; simp [muted, Array.getElem?_modify]; cases ops[i]? <;> rfl
  · rw [muted_get h]
theorem muted_ready (ops : Array Oper) (m : Nat) (listed : Array Bool) : Region.ready .any (muted ops m) listed = Region.ready .any ops listed := by
  unfold Region.ready
  rw [muted_size]
  congr 1
  funext i
  have := muted_after ops m i
  cases h1 : (muted ops m)[i]? <;> cases h2 : ops[i]? <;> rw [h1, h2] at this <;> first | cases this | simp_all
theorem muted_go (ops : Array Oper) (m : Nat) : ∀ (fuel t : Nat) (listed : Array Bool) (acc : List Nat), Region.linearise.go .any (muted ops m) fuel t listed acc = Region.linearise.go .any ops fuel t listed acc := by
  intro fuel
  induction fuel with
  | zero => intro t listed acc; rfl
  | succ fuel ih =>
    intro t listed acc
    simp only [Region.linearise.go]
    change (match (Region.ready .any (muted ops m) listed)[t % (Region.ready .any (muted ops m) listed).length]? with
      | some i => Region.linearise.go .any (muted ops m) fuel (t / (Region.ready .any (muted ops m) listed).length) (listed.setIfInBounds i true) (i :: acc)
      | none => acc.reverse) = (match (Region.ready .any ops listed)[t % (Region.ready .any ops listed).length]? with
      | some i => Region.linearise.go .any ops fuel (t / (Region.ready .any ops listed).length) (listed.setIfInBounds i true) (i :: acc)
      | none => acc.reverse)
    rw [muted_ready]
    split
    · exact ih _ _ _
    · rfl
theorem muted_sched {P : Program} (hm : P.follows .mixedOrders = true) (ops : Array Oper) (m t : Nat) : Region.schedule (P.follows .mixedOrders) (muted ops m) t = Region.schedule (P.follows .mixedOrders) ops t := by
  simp only [Region.schedule, hm, Bool.true_or, if_true, Region.linearise, muted_size]
  exact muted_go ops m _ _ _ _
/-! ### readers, one behind the other -/
section
variable {P : Program} {N : Nat} {ops : Array Oper} {κ : Hp}

def silI (P : Program) (N : Nat) (ops : Array Oper) (κ : Hp) (Q : Rho → Prop) : List Nat → Rho → Prop
  | [], ρ => Q ρ
  | i :: rest, ρ => match ops[i]? with
    | some o => okDst N o.dst = true ∧ o.guard = none ∧ silB P o.op ρ ∧ ∃ v, readV P o.op ρ κ = some v ∧ silI P N ops κ Q rest (putR ρ o.dst v)
    | none => False

/-- The readers of a region that ends in m, whatever the order. -/
theorem silI_of {E : Env P} {m : Nat} {Q : Post} {ds : List Deferred} : ∀ (p : List Nat), (∀ i ∈ p, i ≠ m) → (∀ i o, i ≠ m → ops[i]? = some o → kindB o.op = true ∧ loadB P o.op = true ∧ o.guard = none) → ∀ (ρ : Rho), wpO E N (muted ops m) Q (p ++ [m]) ρ ds κ →
    silI P N ops κ (fun ρ => Q .normal (putR ρ (dstAt ops m) undef) ds κ) p ρ := by
  intro p
  induction p with
  | nil =>
    intro _ _ ρ h
    simp only [List.nil_append, wpO, stepR] at h
    simp only [silI]
    cases ho : (muted ops m)[m]? with
    | none => rw [ho] at h; exact h.elim
    | some o =>
      rw [ho] at h
      have hd : o.dst = dstAt ops m := by
        have := muted_dst ops m m
        unfold dstAt at this ⊢
        rw [ho] at this; exact this
      obtain ⟨o', ho', rfl⟩ : ∃ o', ops[m]? = some o' ∧ o = { o' with op := .move (.const undef) } := by
        simp only [muted, Array.getElem?_modify, if_pos rfl] at ho
        obtain ⟨o', h1, h2⟩ := Option.map_eq_some_iff.1 ho
        exact ⟨o', h1, h2.symm⟩
      obtain ⟨_, h⟩ := h
      rw [← hd]
      split at h
      · simp only [isRd, if_true, readV, evR] at h
        obtain ⟨v, hv, h⟩ := h
        cases hv; exact h
      · exact h
  | cons i p ih =>
    intro hp hk ρ h
    have him := hp i (by simp)
    rw [List.cons_append] at h
    simp only [wpO, stepR] at h
    rw [muted_get him] at h
    simp only [silI]
    cases ho : ops[i]? with
    | none => rw [ho] at h; exact h.elim
    | some o =>
      rw [ho] at h
      obtain ⟨hkd, hlb, hg⟩ := hk i o him ho
      obtain ⟨hd, h⟩ := h
      rw [if_pos (by simp [Region.wanted, hg]), if_pos (by cases hop : o.op <;> rw [hop] at hkd <;> first | rfl | (simp [kindB] at hkd; done))] at h
      obtain ⟨v, hv, h⟩ := h
      exact ⟨hd, hg, silB_of hkd hlb hv, v, hv, ih (fun j hj => hp j (List.mem_cons_of_mem _ hj)) hk _ h⟩

/-- One reader's step. -/
theorem sil_step {main : Bool} {b : Frame} {k : List Item} {cs : List Frame} {i : Nat} {rest : List Nat} {o : Oper} {a : Act} {ρ : Rho} {ds : List Deferred} {v : Value} (ho : ops[i]? = some o) (hg : o.guard = none) (hs : silB P o.op ρ) (hv : readV P o.op ρ κ = some v) (hk : b.kind ≠ .early)
    (ha : Agree N a ρ ds) (w : World) (hw : ∀ b o, κ.f b = some o → w.heap[b]? = some o) :
    ∃ es, stepG P main (G (b.at a (.inRegion ops (i :: rest) :: k)) cs) w = .go (G (b.at (a.put o.dst v) (.inRegion ops rest :: k)) cs) w es ∧ ∀ e ∈ es, ∃ x : Addr, e = ⟨.cell x, false, false⟩ ∧ rdA o.op ρ x ∧ (κ.f x.block).isSome = true := by
  obtain ⟨es, h1, h2⟩ := sil_run hs hv w hw
  rw [← ha.eval] at h1
  have hfin : (b.at a (.inRegion ops (i :: rest) :: k)).finish v = b.at (a.put o.dst v) (.inRegion ops rest :: k) := by rw [Frame.finish_at, ho]; rfl
  have hkk : (b.kind == CallKind.early) = false := by simpa using hk
  refine ⟨seen P b.fn es, ?_, fun e he => h2 e (mem_seen he)⟩
  rw [stepG_oper ho (by simp [Region.wanted, hg])]
  rw [← hfin]
  simp [stepG.apply, -Sem.runT_eq, h1, G, Frame.at, hkk, GStep.after]

/-- Readers over a family of parts of the heap: what is read is the same in each; where it is read is still. -/
def silF (P : Program) (N : Nat) (ops : Array Oper) (Fam : Hp → Prop) (Ok : Addr → Prop) (Q : Rho → Prop) : List Nat → Rho → Prop
  | [], ρ => Q ρ
  | i :: rest, ρ => match ops[i]? with
    | some o => okDst N o.dst = true ∧ o.guard = none ∧ silB P o.op ρ ∧ (∀ y, rdA o.op ρ y → Ok y) ∧ ∃ v, (∀ κ, Fam κ → readV P o.op ρ κ = some v) ∧ silF P N ops Fam Ok Q rest (putR ρ o.dst v)
    | none => False

/-- .. as a walk to a seat. -/
theorem way_silF {main : Bool} {K : World → Prop} {Still : Loc → Prop} {B : Nat} {s : Seat} {Fam : Hp → Prop} {Ok : Addr → Prop} (hK : ∀ w, K w → ∃ κ, Fam κ ∧ ∀ b o, κ.f b = some o → w.heap[b]? = some o) (hS : ∀ a, Ok a → Still (.cell a) ∧ a.block < B)
    {b : Frame} {k : List Item} {cs : List Frame} (hk : b.kind ≠ .early) {Q : Rho → Prop} {rest : List Nat} {n : Nat} {ds : List Deferred} (hn : ∀ ρ a, Agree N a ρ ds → Q ρ → Way P main K Still B s n (G (b.at a (.inRegion ops rest :: k)) cs)) :
    ∀ (p : List Nat) (ρ : Rho) (a : Act), silF P N ops Fam Ok Q p ρ → Agree N a ρ ds → Way P main K Still B s (n + p.length) (G (b.at a (.inRegion ops (p ++ rest) :: k)) cs) := by
  intro p
  induction p with
  | nil => exact fun ρ a h ha => hn ρ a ha h
  | cons i p ih =>
    intro ρ a h ha
    simp only [silF] at h
    cases ho : ops[i]? with
    | none => rw [ho] at h; exact h.elim
    | some o =>
      rw [ho] at h
      obtain ⟨hd, hg, hs, hok, v, hv, h⟩ := h
      rw [List.length_cons, ← Nat.add_assoc]
      refine .inr ⟨rfl, fun w hw => ?_⟩
      obtain ⟨κ, hF, hκ⟩ := hK w hw
      obtain ⟨es, h1, h2⟩ := sil_step (main := main) (k := k) (cs := cs) (rest := p ++ rest) ho hg hs (hv κ hF) hk ha w hκ
      rw [List.cons_append, h1]
      refine ⟨atRel_refl w, fun e he => ?_, ih _ _ h (ha.put hd v)⟩
      obtain ⟨x, rfl, hx, _⟩ := h2 e he
      exact ⟨x, rfl, hS x (hok x hx)⟩

theorem Way.ctl {main : Bool} {K : World → Prop} {Still : Loc → Prop} {B : Nat} {s : Seat} {n : Nat} {g g' : Goroutine} (h : ∀ w, stepG P main g w = .go g' w) (hr : g.status = .running) (k : Way P main K Still B s n g') : Way P main K Still B s (n + 1) g :=
  .inr ⟨hr, fun w _ => by rw [h w]; exact ⟨atRel_refl w, by simp, k⟩⟩

/-- A region is entered: in its order; in one that is drawn. -/
theorem Way.region {main : Bool} {K : World → Prop} {Still : Loc → Prop} {B : Nat} {s : Seat} {n : Nat} {b : Frame} {a : Act} {k : List Item} {cs : List Frame} {id : Nat} (h : Way P main K Still B s n (G (b.at a (.inRegion ops (List.range ops.size) :: k)) cs)) :
    Way P main K Still B s (n + 1) (G (b.at a (.code (.region id ops false) :: k)) cs) := Way.ctl (fun w => stepG_region) rfl h
theorem Way.draws {main : Bool} {K : World → Prop} {Still : Loc → Prop} {B : Nat} {s : Seat} {n : Nat} {b : Frame} {a : Act} {k : List Item} {cs : List Frame} {id : Nat}
    (h : ∀ t, Way P main K Still B s n (G (b.at a (.inRegion ops (Region.schedule (P.follows .mixedOrders) ops t) :: k)) cs)) : Way P main K Still B s (n + 1) (G (b.at a (.code (.region id ops true) :: k)) cs) := by
  refine .inr ⟨rfl, fun w _ => ?_⟩
  have : stepG P main (G (b.at a (.code (.region id ops true) :: k)) cs) w = .go (G (b.at a (.inRegion ops (Region.schedule (P.follows .mixedOrders) ops (w.tape w.drawn (.order b.fn id))) :: k)) cs) { w with drawn := w.drawn + 1 } := by
    simp [G, stepG, stepG.exec, Frame.at, choose, Sem.run, Question.forced, Question.cut]
  rw [this]
  exact ⟨⟨w.drawn + 1, rfl⟩, by simp, h _⟩

/-! ### readers by kind -/
variable {Fam : Hp → Prop} {Ok : Addr → Prop} {Q : Rho → Prop} {i : Nat} {rest : List Nat} {ρ : Rho} {d ty : Nat} {ps : String} {af : Array Edge}
theorem silF_load {t : TypeId} {x : Operand} {a : Addr} {v : Value} (ho : ops[i]? = some { dst := some d, op := .load t x, type := ty, pos := ps, after := af, guard := none }) (hd : d < N) (hx : evR ρ x = .pointer (some a)) (ht : aggT P t = false) (hi : isT P t = true) (hok : Ok a)
    (hv : ∀ κ, Fam κ → κ.cell? a = some v) (k : silF P N ops Fam Ok Q rest (up ρ d v)) : silF P N ops Fam Ok Q (i :: rest) ρ := by
  simp only [silF, ho]
  refine ⟨decide_eq_true hd, trivial, ⟨⟨a, hx⟩, ht⟩, fun y hy => ?_, v, fun κ hκ => ?_, k⟩
  · simp only [rdA] at hy; rw [hx] at hy; cases hy; exact hok
  · simp only [readV, hx, hi, if_true, ldV, ht, Bool.false_eq_true, if_false]; exact hv κ hκ
theorem silF_nil {x : Operand} {a : Addr} (ho : ops[i]? = some { dst := some d, op := .nilCheck x, type := ty, pos := ps, after := af, guard := none }) (hd : d < N) (hx : evR ρ x = .pointer (some a))
    (k : silF P N ops Fam Ok Q rest (up ρ d (.pointer (some a)))) : silF P N ops Fam Ok Q (i :: rest) ρ := by
  simp only [silF, ho]
  exact ⟨decide_eq_true hd, trivial, .inl ⟨a, hx⟩, fun y hy => hy.elim, _, fun κ hκ => by simp only [readV, hx], k⟩
theorem silF_field {s f : Nat} {x : Operand} {a : Addr} {off : Nat} (ho : ops[i]? = some { dst := some d, op := .fieldAddr s x f, type := ty, pos := ps, after := af, guard := none }) (hd : d < N) (hx : evR ρ x = .pointer (some a)) (hf : fieldOff P s f = some off)
    (k : silF P N ops Fam Ok Q rest (up ρ d (.pointer (some (a.add off))))) : silF P N ops Fam Ok Q (i :: rest) ρ := by
  simp only [silF, ho]
  exact ⟨decide_eq_true hd, trivial, ⟨⟨a, hx⟩, by rw [hf]; rfl⟩, fun y hy => hy.elim, _, fun κ hκ => by simp only [readV, hx, hf], k⟩
theorem silF_bin {bo : BinOp} {t : TypeId} {x y : Operand} {t2 : TypeId} {v : Value} (ho : ops[i]? = some { dst := some d, op := .binOp bo t x y t2, type := ty, pos := ps, after := af, guard := none }) (hd : d < N) (hv : binV bo (evR ρ x) (evR ρ y) = some v)
    (k : silF P N ops Fam Ok Q rest (up ρ d v)) : silF P N ops Fam Ok Q (i :: rest) ρ := by
  simp only [silF, ho]
  exact ⟨decide_eq_true hd, trivial, ⟨v, hv⟩, fun y hy => hy.elim, v, fun κ hκ => by simp only [readV, hv], k⟩
theorem silF_move {x : Operand} (ho : ops[i]? = some { dst := some d, op := .move x, type := ty, pos := ps, after := af, guard := none }) (hd : d < N)
    (k : silF P N ops Fam Ok Q rest (up ρ d (evR ρ x))) : silF P N ops Fam Ok Q (i :: rest) ρ := by
  simp only [silF, ho]
  exact ⟨decide_eq_true hd, trivial, trivial, fun y hy => hy.elim, _, fun κ hκ => by simp only [readV], k⟩
theorem silF_extract {x : Operand} {j : Nat} {vs : Array Value} {v : Value} (ho : ops[i]? = some { dst := some d, op := .extract x j, type := ty, pos := ps, after := af, guard := none }) (hd : d < N) (hx : evR ρ x = .tuple vs) (hv : vs[j]? = some v)
    (k : silF P N ops Fam Ok Q rest (up ρ d v)) : silF P N ops Fam Ok Q (i :: rest) ρ := by
  simp only [silF, ho]
  exact ⟨decide_eq_true hd, trivial, trivial, fun y hy => hy.elim, _, fun κ hκ => by simp only [readV, hx, hv], k⟩
end
end Go.Qw
-- A region whose order is open and whose operations write: an invariant over what is listed.
namespace Go.Qw
open Go Go.Conc

section
variable {P : Program} {E : Env P} {N : Nat} {ops : Array Oper} {Q : Post}

def left (ops : Array Oper) (listed : Array Bool) : List Nat := (List.range ops.size).filter fun i => !listed.getD i true

theorem left_set {listed : Array Bool} (hs : listed.size = ops.size) {i : Nat} (hi : i ∈ left ops listed) : (left ops (listed.setIfInBounds i true)).length < (left ops listed).length := by
  have e : left ops (listed.setIfInBounds i true) = (left ops listed).filter fun j => j != i := by
    simp only [left, List.filter_filter]
    apply List.filter_congr
    intro j hj
    simp only [List.mem_range] at hj
    by_cases h : j = i
    · subst h
      simp [Array.getD_eq_getD_getElem?, Array.getElem?_setIfInBounds_self_of_lt (by omega : j < listed.size)]
    · simp [Array.getD_eq_getD_getElem?, Array.getElem?_setIfInBounds_ne (Ne.symm h), h]
  rw [e, List.length_filter_lt_length_iff_exists]
  exact ⟨i, hi, by simp⟩

/-- Whatever the order: what holds of what is listed. -/
theorem wpO_any {I : (Nat → Bool) → Rho → List Deferred → Hp → Prop} {ρ : Rho} {ds : List Deferred} {σ : Hp} (hm : P.follows .mixedOrders = true) (hlow : ∀ (i : Nat) (o : Oper), ops[i]? = some o → ∀ e ∈ o.after, e.on < i)
    (hstep : ∀ (L : Nat → Bool) (i : Nat) (o : Oper) (ρ : Rho) (ds : List Deferred) (σ : Hp) (K : Rho → List Deferred → Hp → Prop), ops[i]? = some o → L i = false → (∀ e ∈ o.after, Region.binds .any e = true → L e.on = true) → I L ρ ds σ →
      (∀ ρ' ds' σ', I (fun j => L j || j == i) ρ' ds' σ' → K ρ' ds' σ') → stepR E N ops Q i K ρ ds σ)
    (hend : ∀ (L : Nat → Bool) ρ ds σ, (∀ i, i < ops.size → L i = true) → I L ρ ds σ → Q .normal ρ ds σ) (h0 : I (fun _ => false) ρ ds σ) (t : Nat) : wpO E N ops Q (Region.schedule (P.follows .mixedOrders) ops t) ρ ds σ := by
  simp only [Region.schedule, hm, Bool.true_or, if_true, Region.linearise]
  have key : ∀ (fuel t : Nat) (listed : Array Bool) (ρ : Rho) (ds : List Deferred) (σ : Hp), listed.size = ops.size → (left ops listed).length ≤ fuel → I (fun j => listed.getD j false) ρ ds σ → wpO E N ops Q (Region.linearise.go .any ops fuel t listed []) ρ ds σ := by
    intro fuel
    induction fuel with
    | zero =>
      intro t listed ρ ds σ hs hl hI
      simp only [Region.linearise.go, List.reverse_nil, wpO]
      refine hend _ _ _ _ (fun i hi => ?_) hI
      have : left ops listed = [] := by simpa using hl
      have hn : i ∉ left ops listed := by rw [this]; simp
      simp only [left, List.mem_filter, List.mem_range, not_and, Bool.not_eq_true', Bool.not_eq_false] at hn
      have := hn hi
      simpa [Array.getD_eq_getD_getElem?, Array.getElem?_eq_getElem (by omega : i < listed.size)] using this
    | succ fuel ih =>
      intro t listed ρ ds σ hs hl hI
      simp only [Region.linearise.go]
      change wpO E N ops Q (match (Region.ready .any ops listed)[t % (Region.ready .any ops listed).length]? with
        | some i => Region.linearise.go .any ops fuel (t / (Region.ready .any ops listed).length) (listed.setIfInBounds i true) [i]
        | none => [].reverse) ρ ds σ
      have hmem : ∀ i, i ∈ Region.ready .any ops listed ↔ i < ops.size ∧ listed.getD i true = false ∧ ∃ o, ops[i]? = some o ∧ ∀ e ∈ o.after, Region.binds .any e = true → listed.getD e.on false = true := by
        intro i
        simp only [Region.ready, List.mem_filter, List.mem_range, Bool.and_eq_true, Bool.not_eq_true']
        constructor
        · rintro ⟨h1, h2, h3⟩
          refine ⟨h1, h2, ops[i], Array.getElem?_eq_getElem h1, fun e he hb => ?_⟩
          rw [Array.getElem?_eq_getElem h1] at h3
          simp only [Option.map_some, Option.getD_some, Array.all_eq_true_iff_forall_mem, Bool.or_eq_true, Bool.not_eq_true'] at h3
          rcases h3 e he with h | h
          · rw [hb] at h; cases h
          · exact h
        · rintro ⟨h1, h2, o, ho, h3⟩
          refine ⟨h1, h2, ?_⟩
          rw [ho]
          simp only [Option.map_some, Option.getD_some, Array.all_eq_true_iff_forall_mem, Bool.or_eq_true, Bool.not_eq_true']
          intro e he
          cases hb : Region.binds .any e with
          | false => exact .inl rfl
          | true => exact .inr (h3 e he hb)
      cases hr : Region.ready .any ops listed with
      | nil =>
        simp only [List.length_nil, List.getElem?_nil, List.reverse_nil, wpO]
        refine hend _ _ _ _ (fun i => ?_) hI
        induction i using Nat.strongRecOn with
        | _ i ihi =>
          intro hi
          cases hgi : listed.getD i false with
          | true => rfl
          | false =>
            have : i ∈ Region.ready .any ops listed := by
              refine (hmem i).2 ⟨hi, ?_, ops[i], Array.getElem?_eq_getElem hi, fun e he hb => ?_⟩
              · simpa [Array.getD_eq_getD_getElem?, Array.getElem?_eq_getElem (by omega : i < listed.size)] using hgi
              · have := hlow i _ (Array.getElem?_eq_getElem hi) e he
                exact ihi e.on this (by omega)
            rw [hr] at this; cases this
      | cons x xs =>
        have hlt : t % (x :: xs).length < (x :: xs).length := Nat.mod_lt _ (by simp)
        rw [List.getElem?_eq_getElem hlt]
        simp only []
        rw [linearise_go_acc, List.reverse_singleton, List.singleton_append]
        have hin : (x :: xs)[t % (x :: xs).length] ∈ Region.ready .any ops listed := by rw [hr]; exact List.getElem_mem hlt
        generalize (x :: xs)[t % (x :: xs).length] = i at hin ⊢
        obtain ⟨h1, h2, o, ho, h3⟩ := (hmem i).1 hin
        have hil : i ∈ left ops listed := by simp only [left, List.mem_filter, List.mem_range, Bool.not_eq_true']; exact ⟨h1, h2⟩
        have hf : listed.getD i false = false := by simpa [Array.getD_eq_getD_getElem?, Array.getElem?_eq_getElem (by omega : i < listed.size)] using h2
        refine hstep (fun j => listed.getD j false) i o ρ ds σ _ ho hf h3 hI fun ρ' ds' σ' hI' => ih _ _ _ _ _ (by simpa using hs) (by have := left_set hs hil; omega) ?_
        have e : (fun j => (listed.setIfInBounds i true).getD j false) = fun j => listed.getD j false || j == i := by
          funext j
          by_cases h : j = i
          · subst h
            simp [Array.getD_eq_getD_getElem?, Array.getElem?_setIfInBounds_self_of_lt (by omega : j < listed.size)]
          · simp [Array.getD_eq_getD_getElem?, Array.getElem?_setIfInBounds_ne (Ne.symm h), h]
        rw [e]; exact hI'
  refine key _ _ _ _ _ _ (by simp) (by exact Nat.le_trans (List.length_filter_le _ _) (by simp)) ?_
  have e : (fun j => (Array.replicate ops.size false).getD j false) = fun _ => false := by
    funext j
    rw [Array.getD_eq_getD_getElem?, Array.getElem?_replicate]; split <;> rfl
  rw [e]; exact h0
end
end Go.Qw
-- The library's functions that a WaitGroup is made of, in this program.
namespace Go.Qw
open Go Go.Proofs

abbrev wgl : Go.Conc.Lib.WgLink := { add := 55, done := 57, wait := 60, relMerge := 91, disable := 92, enable := 93, inBubble := 94, associate := 95, fatal := 96, uOr := 97, uAdd := 98, raceRead := 99, uLoad := 100, uStore := 101, disassociate := 102, semrelease := 103, acquire := 108, isAssociated := 109, uCas := 110, raceWrite := 111, semacquire := 112, orU64 := 143, addU64 := 144, loadU64 := 145, storeU64 := 146, casU64 := 152, tWgP := 197, tUP := 137, tAssoc := 199, tWg := 131, tAU := 128, tU64 := 126, tUint := 68, tU32 := 129, tPU32 := 202, tPAU := 282, tPU64 := 284, tNoCopy := 123, tANoCopy := 124, tAlign64 := 125 }
theorem wgLib : Go.Conc.Lib.WgLib Tryz.prog wgl :=
  ⟨Tryz.func55, Tryz.func57, Tryz.func60, Tryz.func91, Tryz.func92, Tryz.func93, Tryz.func94, Tryz.func95, Tryz.func96, Tryz.func97, Tryz.func98, Tryz.func99, Tryz.func100, Tryz.func101, Tryz.func102, Tryz.func103, Tryz.func108, Tryz.func109, Tryz.func110, Tryz.func111, Tryz.func112, Tryz.func143, Tryz.func144, Tryz.func145, Tryz.func146, Tryz.func152, Tryz.underlying197, Tryz.runUnderlying197, Tryz.sizeOf197, Tryz.isAgg197, Tryz.zeroValue197, Tryz.underlying137, Tryz.runUnderlying137, Tryz.sizeOf137, Tryz.isAgg137, Tryz.zeroValue137, Tryz.underlying199, Tryz.runUnderlying199, Tryz.sizeOf199, Tryz.isAgg199, Tryz.zeroValue199, Tryz.underlying131, Tryz.runUnderlying131, Tryz.sizeOf131, Tryz.isAgg131, Tryz.zeroValue131, Tryz.underlying128, Tryz.runUnderlying128, Tryz.sizeOf128, Tryz.isAgg128, Tryz.zeroValue128, Tryz.underlying126, Tryz.runUnderlying126, Tryz.sizeOf126, Tryz.isAgg126, Tryz.zeroValue126, Tryz.underlying68, Tryz.runUnderlying68, Tryz.sizeOf68, Tryz.isAgg68, Tryz.zeroValue68, Tryz.underlying129, Tryz.runUnderlying129, Tryz.sizeOf129, Tryz.isAgg129, Tryz.zeroValue129, Tryz.underlying202, Tryz.runUnderlying202, Tryz.sizeOf202, Tryz.isAgg202, Tryz.zeroValue202, Tryz.underlying282, Tryz.runUnderlying282, Tryz.sizeOf282, Tryz.isAgg282, Tryz.zeroValue282, Tryz.underlying284, Tryz.runUnderlying284, Tryz.sizeOf284, Tryz.isAgg284, Tryz.zeroValue284, Tryz.underlying0, Tryz.runUnderlying0, Tryz.sizeOf0, Tryz.isAgg0, Tryz.zeroValue0, Tryz.underlying3, Tryz.runUnderlying3, Tryz.sizeOf3, Tryz.isAgg3, Tryz.zeroValue3, Tryz.underlying4, Tryz.runUnderlying4, Tryz.sizeOf4, Tryz.isAgg4, Tryz.zeroValue4, Tryz.underlying9, Tryz.runUnderlying9, Tryz.sizeOf9, Tryz.isAgg9, Tryz.zeroValue9, Tryz.underlying20, Tryz.runUnderlying20, Tryz.sizeOf20, Tryz.isAgg20, Tryz.zeroValue20, Tryz.underlying21, Tryz.runUnderlying21, Tryz.sizeOf21, Tryz.isAgg21, Tryz.zeroValue21, (by kernel_rfl), (by kernel_rfl)⟩
end Go.Qw
-- A prefix of a region, in company.
namespace Go.Qw
open Go Go.Conc
section
variable {P : Program} {E : Env P}
theorem wpL_prefix {N : Nat} {ops : Array Oper} {Q : Post} (b : Frame) (hb : b.kind ≠ .early) (k : List Item) (cs : List Frame) (tl : List Nat) (hQ : ∀ ch ρ ds σ, ¬ Q (.panic ch) ρ ds σ) (l : List Nat) :
    ∀ (ρ : Rho) (ds : List Deferred) (σ : Hp) (a : Act), wpL E N ops Q (l.filterMap (ops[·]?)) ρ ds σ → Agree N a ρ ds → Runs E (G (b.at a (.inRegion ops (l ++ tl) :: k)) cs) σ (fun g σ' => ∃ ρ' ds' a', Agree N a' ρ' ds' ∧ Q .normal ρ' ds' σ' ∧ g = G (b.at a' (.inRegion ops tl :: k)) cs) := by
  induction l with
  | nil =>
    intro ρ ds σ a h ha
    exact Runs.here ⟨ρ, ds, a, ha, h, rfl⟩
  | cons i rest ih =>
    intro ρ ds σ a h ha
    cases ho : ops[i]? with
    | none =>
      rw [List.filterMap_cons_none ho] at h
      have hw' : ((ops[i]?).map (Region.wanted · (yielded ops a.tmps))).getD false = false := by rw [ho]; rfl
      have hfin : (b.at a (.inRegion ops (i :: (rest ++ tl)) :: k)).finish undef = b.at a (.inRegion ops (rest ++ tl) :: k) := by rw [Frame.finish_at, ho]; rfl
      refine Runs.ctl (g' := G (b.at a (.inRegion ops (rest ++ tl) :: k)) cs) (fun w => ?_) rfl rfl (ih _ _ _ _ h ha)
      rw [← hfin]
      simp only [Frame.at] at *
      simp [G, stepG, stepG.exec, hw']
    | some o =>
      rw [List.filterMap_cons_some ho] at h
      simp only [wpL] at h
      obtain ⟨hd, h⟩ := h
      by_cases hw : Region.wanted o (yieldedR N ops ρ) = true
      · rw [if_pos hw] at h
        have hw' : Region.wanted o (yielded ops a.tmps) = true := by rw [ha.yields]; exact hw
        have h := opQ_sound h
        unfold wpOp at h
        rw [← ha.eval] at h
        refine Runs.step rfl (stepOk_oper (P := P) (main := E.main) (b := b) (k := k) (cs := cs) (rest := rest ++ tl) ho hw' hb h) ?_
        rintro g σ' (⟨v, hv, rfl⟩ | ⟨d, hdf, rfl⟩ | ⟨f, args, hc, rfl⟩ | ⟨v, hp, rfl⟩)
        · exact ih _ _ _ _ hv (ha.put hd v)
        · exact ih _ _ _ _ hdf ((ha.defer d).put hd undef)
        · refine CallsE.run hc ?_ ?_
          · intro v σ'' hv
            have hfin : (b.at a (.inRegion ops (i :: (rest ++ tl)) :: k)).finish v = b.at (a.put o.dst v) (.inRegion ops (rest ++ tl) :: k) := by rw [Frame.finish_at, ho]; rfl
            rw [hfin]
            exact ih _ _ _ _ hv (ha.put hd v)
          · intro ch σ'' hp
            exact absurd hp (hQ _ _ _ _)
        · exact absurd hp (hQ _ _ _ _)
      · rw [if_neg hw] at h
        have hw' : ((ops[i]?).map (Region.wanted · (yielded ops a.tmps))).getD false = false := by rw [ho, ha.yields]; simpa using hw
        have hfin : (b.at a (.inRegion ops (i :: (rest ++ tl)) :: k)).finish undef = b.at (a.put o.dst undef) (.inRegion ops (rest ++ tl) :: k) := by rw [Frame.finish_at, ho]; rfl
        refine Runs.ctl (g' := G (b.at (a.put o.dst undef) (.inRegion ops (rest ++ tl) :: k)) cs) (fun w => ?_) rfl rfl (ih _ _ _ _ h (ha.put hd undef))
        rw [← hfin]
        simp only [Frame.at] at *
        simp [G, stepG, stepG.exec, hw']


/-- A post that only the normal end meets. -/
def onlyN (X : Rho → List Deferred → Hp → Prop) : Post
  | .normal, ρ, ds, σ => X ρ ds σ
  | _, _, _, _ => False
theorem onlyN_panic {X : Rho → List Deferred → Hp → Prop} : ∀ ch ρ ds σ, ¬ onlyN X (.panic ch) ρ ds σ := fun _ _ _ _ h => h

/-- Code that only comes to its normal end. -/
theorem runs_code {N : Nat} {c : Code} {X : Rho → List Deferred → Hp → Prop} {ρ : Rho} {ds : List Deferred} {σ : Hp} (h : wpC E N c (onlyN X) ρ ds σ) {b : Frame} {k : List Item} {cs : List Frame} {a : Act} (hb : b.kind ≠ .early) (ha : Agree N a ρ ds) :
    Runs E (G (b.at a (.code c :: k)) cs) σ fun g σ' => ∃ ρ' ds' a', Agree N a' ρ' ds' ∧ X ρ' ds' σ' ∧ g = G (b.at a' k) cs := by
  refine (wpC_sound c _ _ _ _ h b k cs a hb ha).mono ?_
  rintro g σ' ⟨e, ρ', ds', a', ha', hq, harr⟩
  cases e <;> first | exact hq.elim | skip
  obtain rfl := harr
  exact ⟨ρ', ds', a', ha', hq, rfl⟩
end
end Go.Qw
-- Ranging over a function: rounds, yields, and the loop itself, in company.
namespace Go.Qw
open Go Go.Conc

def isDefer : Op → Bool
  | .defer _ => true
  | _ => false

section
variable {P : Program} {main : Bool} {b : Frame} {a : Act} {k : List Item} {cs : List Frame} {w : World} {σ : Hp}

theorem stepGR_inBlock {id : Nat} : stepG P main (G (b.atR a (.inBlock id :: k)) cs) w = .go (G (b.atR a k) cs) w := by simp [G, stepG, stepG.exec, Frame.atR]
theorem stepGR_block {id : Nat} {c : Code} : stepG P main (G (b.atR a (.code (.block id c) :: k)) cs) w = .go (G (b.atR a (.code c :: .inBlock id :: k)) cs) w := by simp [G, stepG, stepG.exec, Frame.atR]
theorem stepGR_region {id : Nat} {ops : Array Oper} : stepG P main (G (b.atR a (.code (.region id ops false) :: k)) cs) w = .go (G (b.atR a (.inRegion ops (List.range ops.size) :: k)) cs) w := by simp [G, stepG, stepG.exec, Frame.atR]
theorem stepGR_region_end {ops : Array Oper} : stepG P main (G (b.atR a (.inRegion ops [] :: k)) cs) w = .go (G (b.atR a k) cs) w := by simp [G, stepG, stepG.exec, Frame.atR]

theorem stepGR_oper {ops : Array Oper} {i : Nat} {rest : List Nat} {o : Oper} (ho : ops[i]? = some o) (hw : Region.wanted o (yielded ops a.tmps) = true) (hd : isDefer o.op = false) :
    stepG P main (G (b.atR a (.inRegion ops (i :: rest) :: k)) cs) w = stepG.apply P true (b.atR a (.inRegion ops (i :: rest) :: k)) cs none (execOp a.eval o) w := by
  have he := Frame.eval_atR b a (.inRegion ops (i :: rest) :: k)
  simp only [Frame.atR] at he
  cases hr : b.roundOf with
  | none => simp [G, stepG, stepG.exec, stepG.oper, Frame.oper?, Frame.atR, ho, hw, hr]; rw [hr] at he; rw [he]
  | some l =>
    rw [hr] at he
    simp only [G, stepG, stepG.exec, stepG.oper, Frame.oper?, Frame.atR, ho, hw, hr, Option.map_some, Option.getD_some, if_true, he]
    cases hop : o.op <;> first | rfl | (rw [hop] at hd; cases hd)

/-- The step of an operation in a round. -/
theorem stepOk_operR {ops : Array Oper} {i : Nat} {rest : List Nat} {o : Oper} (ho : ops[i]? = some o) (hw : Region.wanted o (yielded ops a.tmps) = true) (hd : isDefer o.op = false) (hk : b.kind ≠ .early)
    {V : Value → Hp → Prop} {D : Deferred → Hp → Prop} {C : FuncId → Array Value → Hp → Prop}
    (h : wpS P (execOp a.eval o) (After V D C) (AfterHalt fun _ _ => False) σ) :
    StepOk P main (G (b.atR a (.inRegion ops (i :: rest) :: k)) cs) σ fun g σ' =>
      (∃ v, V v σ' ∧ g = G (b.atR (a.put o.dst v) (.inRegion ops rest :: k)) cs) ∨
      (∃ d, D d σ' ∧ g = G (b.atR ({ a with defers := d :: a.defers }.put o.dst undef) (.inRegion ops rest :: k)) cs) ∨
      (∃ f args, C f args σ' ∧ g = G (Frame.enter P f args .normal) (b.atR a (.inRegion ops (i :: rest) :: k) :: cs)) := by
  intro J w hs
  have hfin : ∀ v, (b.atR a (.inRegion ops (i :: rest) :: k)).finish v = b.atR (a.put o.dst v) (.inRegion ops rest :: k) := by
    intro v; rw [Frame.finish_atR, ho]; rfl
  have hkk : (b.kind == CallKind.early) = false := by simpa using hk
  obtain ⟨w', σ', es', e1, hs', hk', he', hr⟩ := wpS_sound (execOp a.eval o) w σ #[] h hs
  have e1' : ((execOp a.eval o).runT P w #[]).2 = es' := by simpa using e1
  rw [stepGR_oper ho hw hd]
  have hseen : ∀ e ∈ seen P b.fn es', EvV J w'.heap.size e := fun e he => he' e (mem_seen he)
  rcases hr with ⟨nx, hn, hq⟩ | ⟨hh, hn, hq⟩
  · have e2 : (execOp a.eval o).runT P w #[] = (.ok nx w', es') := Prod.ext hn e1'
    cases nx <;> first | exact hq.elim | skip
    · rename_i v
      have : stepG.apply P true (b.atR a (.inRegion ops (i :: rest) :: k)) cs none (execOp a.eval o) w = .go (G (b.atR (a.put o.dst v) (.inRegion ops rest :: k)) cs) w' (seen P b.fn es') := by
        rw [← hfin]; simp [stepG.apply, -Sem.runT_eq, e2, G, Frame.atR, hkk, GStep.after]
      rw [this]
      exact ⟨σ', hs', hk', hseen, rfl, .inl ⟨v, hq, rfl⟩⟩
    · have : stepG.apply P true (b.atR a (.inRegion ops (i :: rest) :: k)) cs none (execOp a.eval o) w = .go (G (b.atR (a.put o.dst undef) (.inRegion ops rest :: k)) cs) w' (seen P b.fn es') := by
        rw [← hfin]; simp [stepG.apply, -Sem.runT_eq, e2, G, Frame.atR, hkk, GStep.after]
      rw [this]
      exact ⟨σ', hs', hk', hseen, rfl, .inl ⟨undef, hq, rfl⟩⟩
    · rename_i f args
      have : stepG.apply P true (b.atR a (.inRegion ops (i :: rest) :: k)) cs none (execOp a.eval o) w = .go (G (Frame.enter P f args .normal) (b.atR a (.inRegion ops (i :: rest) :: k) :: cs)) w' (seen P b.fn es') := by
        simp [stepG.apply, -Sem.runT_eq, e2, G, Frame.atR, hkk, GStep.after]
      rw [this]
      exact ⟨σ', hs', hk', hseen, rfl, .inr (.inr ⟨f, args, hq, rfl⟩)⟩
    · rename_i d
      have hfd : ({ b.atR a (.inRegion ops (i :: rest) :: k) with defers := d :: a.defers } : Frame).finish undef = b.atR ({ a with defers := d :: a.defers }.put o.dst undef) (.inRegion ops rest :: k) := by
        have := Frame.finish_atR b { a with defers := d :: a.defers } ops i rest k undef
        rw [ho] at this; exact this
      have : stepG.apply P true (b.atR a (.inRegion ops (i :: rest) :: k)) cs none (execOp a.eval o) w = .go (G (b.atR ({ a with defers := d :: a.defers }.put o.dst undef) (.inRegion ops rest :: k)) cs) w' (seen P b.fn es') := by
        rw [← hfd]; simp [stepG.apply, -Sem.runT_eq, e2, G, Frame.atR, hkk, GStep.after]
      rw [this]
      exact ⟨σ', hs', hk', hseen, rfl, .inr (.inl ⟨d, hq, rfl⟩)⟩
  · cases hh <;> exact hq.elim

variable {E : Env P}
/-- Operations of a round that come to their normal end. -/
theorem wpL_R {N : Nat} {ops : Array Oper} {X : Rho → List Deferred → Hp → Prop} (hb : b.kind ≠ .early) (hnd : (ops.toList.all fun o => !isDefer o.op) = true) (l : List Nat) :
    ∀ (ρ : Rho) (ds : List Deferred) (σ : Hp) (a : Act), wpL E N ops (onlyN X) (l.filterMap (ops[·]?)) ρ ds σ → Agree N a ρ ds →
      Runs E (G (b.atR a (.inRegion ops l :: k)) cs) σ (fun g σ' => ∃ ρ' ds' a', Agree N a' ρ' ds' ∧ X ρ' ds' σ' ∧ g = G (b.atR a' k) cs) := by
  induction l with
  | nil =>
    intro ρ ds σ a h ha
    exact Runs.ctl (fun w => stepGR_region_end) rfl rfl (Runs.here ⟨ρ, ds, a, ha, h, rfl⟩)
  | cons i rest ih =>
    intro ρ ds σ a h ha
    cases ho : ops[i]? with
    | none =>
      rw [List.filterMap_cons_none ho] at h
      have hw' : ((ops[i]?).map (Region.wanted · (yielded ops a.tmps))).getD false = false := by rw [ho]; rfl
      have hfin : (b.atR a (.inRegion ops (i :: rest) :: k)).finish undef = b.atR a (.inRegion ops rest :: k) := by rw [Frame.finish_atR, ho]; rfl
      refine Runs.ctl (g' := G (b.atR a (.inRegion ops rest :: k)) cs) (fun w => ?_) rfl rfl (ih _ _ _ _ h ha)
      rw [← hfin]
      simp only [Frame.atR] at *
      simp [G, stepG, stepG.exec, hw']
    | some o =>
      rw [List.filterMap_cons_some ho] at h
      simp only [wpL] at h
      obtain ⟨hd, h⟩ := h
      by_cases hw : Region.wanted o (yieldedR N ops ρ) = true
      · rw [if_pos hw] at h
        have hw' : Region.wanted o (yielded ops a.tmps) = true := by rw [ha.yields]; exact hw
        have h := opQ_sound h
        unfold wpOp at h
        rw [← ha.eval] at h
        have hod : isDefer o.op = false := by
          have := List.all_eq_true.1 hnd o (by rw [Array.getElem?_eq_some_iff] at ho; obtain ⟨h1, rfl⟩ := ho; simp)
          simpa using this
        have h : wpS P (execOp a.eval o) (After (fun v σ' => wpL E N ops (onlyN X) (rest.filterMap (ops[·]?)) (putR ρ o.dst v) ds σ') (fun d σ' => wpL E N ops (onlyN X) (rest.filterMap (ops[·]?)) (putR ρ o.dst undef) (d :: ds) σ')
          (fun f args σ' => CallsE E f args σ' (onFin (fun v σ'' => wpL E N ops (onlyN X) (rest.filterMap (ops[·]?)) (putR ρ o.dst v) ds σ'') fun _ _ => False))) (AfterHalt fun _ _ => False) σ := h
        refine Runs.step rfl (stepOk_operR (P := P) (main := E.main) (b := b) (k := k) (cs := cs) (rest := rest) ho hw' hod hb h) ?_
        rintro g σ' (⟨v, hv, rfl⟩ | ⟨d, hdf, rfl⟩ | ⟨f, args, hc, rfl⟩)
        · exact ih _ _ _ _ hv (ha.put hd v)
        · exact ih _ _ _ _ hdf ((ha.defer d).put hd undef)
        · refine CallsE.run hc ?_ ?_
          · intro v σ'' hv
            have hfin : (b.atR a (.inRegion ops (i :: rest) :: k)).finish v = b.atR (a.put o.dst v) (.inRegion ops rest :: k) := by rw [Frame.finish_atR, ho]; rfl
            rw [hfin]
            exact ih _ _ _ _ hv (ha.put hd v)
          · intro ch σ'' hp
            exact hp.elim
      · rw [if_neg hw] at h
        have hw' : ((ops[i]?).map (Region.wanted · (yielded ops a.tmps))).getD false = false := by rw [ho, ha.yields]; simpa using hw
        have hfin : (b.atR a (.inRegion ops (i :: rest) :: k)).finish undef = b.atR (a.put o.dst undef) (.inRegion ops rest :: k) := by rw [Frame.finish_atR, ho]; rfl
        refine Runs.ctl (g' := G (b.atR (a.put o.dst undef) (.inRegion ops rest :: k)) cs) (fun w => ?_) rfl rfl (ih _ _ _ _ h (ha.put hd undef))
        rw [← hfin]
        simp only [Frame.atR] at *
        simp [G, stepG, stepG.exec, hw']
end
end Go.Qw
