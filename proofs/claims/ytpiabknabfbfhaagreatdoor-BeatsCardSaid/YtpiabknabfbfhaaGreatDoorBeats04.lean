/- The law Beats of queuewire returns true for every three integers: the row over the given program, tied to its text; no condition besides. (Part 4 of 40: QwDraw.) -/
import Derived.Orders
import Derived.Test.YtpiabknabfbfhaaGreatDoorBeats03
set_option linter.all false
-- A region whose order is open: reckoned in one order (readers first), it holds in every order; asked besides: what a reader read stands behind each write that may come ahead of it.
namespace Go.Qw
open Go Go.Conc

/-! ### the region's own facts, reckoned by program -/
def isRd : Op → Bool
  | .move _ | .assign _ | .pick .. | .load .. | .nilCheck _ | .fieldAddr .. | .binOp .. | .unOp .. | .convert .. | .makeInterface .. | .makeFunc .. | .extract .. | .indexAddr .. | .index .. => true
  | .slice _ _ _ _ none => true
  | .call ⟨.builtin .len, _, _⟩ => true
  | _ => false
def heapRd : Op → Bool
  | .load .. => true
  | _ => false
def notSel : Op → Bool
  | .select .. => false
  | _ => true
def ancB (ops : Array Oper) : Nat → Nat → Nat → Bool
  | 0, _, _ => false
  | f + 1, i, j => match ops[i]? with
    | some o => o.after.toList.any fun e => Region.binds .any e && (e.on == j || ancB ops f e.on j)
    | none => false
def anc (ops : Array Oper) (i j : Nat) : Bool := ancB ops ops.size i j
def dstAt (ops : Array Oper) (i : Nat) : Option Tmp := (ops[i]?).bind (·.dst)
def tmpsOf (xs : List Operand) : List Tmp := xs.filterMap fun | .tmp t => some t | _ => none
def slotsOf (ops : Array Oper) (o : Oper) : List Tmp := tmpsOf o.op.operands.toList ++ (match o.guard with | some (j, _) => (dstAt ops j).toList | none => [])
def rdAt (ops : Array Oper) (i : Nat) : Bool := match ops[i]? with | some o => isRd o.op | none => true
def pwD (ops : Array Oper) : List Nat → Bool
  | [] => true
  | i :: r => r.all (fun j => !(i == j) && !anc ops i j && (rdAt ops i || anc ops j i)) && pwD ops r
def opChk (ops : Array Oper) (i : Nat) : Bool := match ops[i]? with
  | some o => (isRd o.op || notSel o.op) && o.after.toList.all (fun e => decide (e.on < ops.size)) &&
      (List.range ops.size).all fun j => i == j || ((match o.dst with | some d => !(dstAt ops j == some d) | none => true) &&
        (match dstAt ops j with | some d => !(slotsOf ops o).contains d || anc ops i j || anc ops j i | none => true))
  | none => false
def chkD (ops : Array Oper) (l : List Nat) : Bool := (List.range ops.size).all (fun i => l.contains i) && l.all (fun i => decide (i < ops.size)) && pwD ops l && (List.range ops.size).all (opChk ops) && (List.range ops.size).all fun i => !anc ops i i

section
variable {P : Program} (E : Env P)

/-- What was read stands. -/
def keepsD (ops : Array Oper) (i : Nat) (σ : Hp) : List (Nat × Rho × Value) → Prop
  | [] => True
  | (j, ρ, v) :: r => (match ops[j]? with
    | some o => if heapRd o.op && !anc ops i j then readV P o.op ρ σ = some v else True
    | none => True) ∧ keepsD ops i σ r

def wpD (N : Nat) (ops : Array Oper) (Q : Post) (pn : List PanicEntry → List Deferred → Hp → Prop) : List Nat → List (Nat × Rho × Value) → Rho → List Deferred → Hp → Prop
  | [], _, ρ, ds, σ => Q .normal ρ ds σ
  | i :: rest, pend, ρ, ds, σ => match ops[i]? with
    | none => False
    | some o => okDst N o.dst = true ∧
      if isRd o.op then
        if Region.wanted o (yieldedR N ops ρ) then match readV P o.op ρ σ with
          | some v => wpD N ops Q pn rest ((i, ρ, v) :: pend) (putR ρ o.dst v) ds σ
          | none => False
        else wpD N ops Q pn rest pend (putR ρ o.dst undef) ds σ
      else if Region.wanted o (yieldedR N ops ρ) then opQ E o ρ ds σ (fun ρ' ds' σ' => keepsD (P := P) ops i σ' pend ∧ wpD N ops Q pn rest pend ρ' ds' σ') (fun ch σ' => pn ch ds σ')
      else wpD N ops Q pn rest pend (putR ρ o.dst undef) ds σ

/-- Operations in an order, by the model's own. -/
def stepR (N : Nat) (ops : Array Oper) (Q : Post) (i : Nat) (K : Rho → List Deferred → Hp → Prop) (ρ : Rho) (ds : List Deferred) (σ : Hp) : Prop :=
  match ops[i]? with
  | none => False
  | some o => okDst N o.dst = true ∧
      if Region.wanted o (yieldedR N ops ρ) then (if isRd o.op then ∃ v, readV P o.op ρ σ = some v ∧ K (putR ρ o.dst v) ds σ else wpOp E o ρ ds σ K (fun ch σ' => Q (.panic ch) ρ ds σ')) else K (putR ρ o.dst undef) ds σ

def wpO (N : Nat) (ops : Array Oper) (Q : Post) : List Nat → Rho → List Deferred → Hp → Prop
  | [], ρ, ds, σ => Q .normal ρ ds σ
  | i :: rest, ρ, ds, σ => stepR E N ops Q i (wpO N ops Q rest) ρ ds σ

def wpAnyR (N : Nat) (ops : Array Oper) (Q : Post) : Nat → Array Bool → Rho → List Deferred → Hp → Prop
  | 0, listed, ρ, ds, σ => Region.ready .any ops listed = [] ∧ Q .normal ρ ds σ
  | fuel + 1, listed, ρ, ds, σ => (Region.ready .any ops listed = [] → Q .normal ρ ds σ) ∧
      ∀ i ∈ Region.ready .any ops listed, stepR E N ops Q i (wpAnyR N ops Q fuel (listed.setIfInBounds i true)) ρ ds σ
end

section
variable {P : Program} {E : Env P} {N : Nat} {ops : Array Oper} {Q : Post} {pn : List PanicEntry → List Deferred → Hp → Prop}

theorem After.mono {V V' : Value → Hp → Prop} {D D' : Deferred → Hp → Prop} {C C' : FuncId → Array Value → Hp → Prop} (hv : ∀ v σ, V v σ → V' v σ) (hd : ∀ v σ, D v σ → D' v σ) (hc : ∀ f a σ, C f a σ → C' f a σ) :
    ∀ n σ, After V D C n σ → After V' D' C' n σ := by
  intro n σ h
  cases n <;> first | exact hv _ _ h | exact hd _ _ h | exact hc _ _ _ h | exact h.elim

theorem wpOp_trans {o : Oper} {ρ ρ' : Rho} {ds : List Deferred} {σ : Hp} {nx nx' : Rho → List Deferred → Hp → Prop} {p p' : List PanicEntry → Hp → Prop} (he : execOp (evR ρ) o = execOp (evR ρ') o)
    (hn : ∀ v ds σ, nx (putR ρ o.dst v) ds σ → nx' (putR ρ' o.dst v) ds σ) (hp : ∀ ch σ, p ch σ → p' ch σ) (h : wpOp E o ρ ds σ nx p) : wpOp E o ρ' ds σ nx' p' := by
  unfold wpOp at h ⊢
  rw [← he]
  refine wpS_mono (After.mono (fun v σ h => hn _ _ _ h) (fun d σ h => hn _ _ _ h) (fun f a σ h => h.mono fun e σ' hh => ?_)) (fun x σ hh => ?_) _ _ h
  · cases x <;> first | exact hp _ _ hh | exact hh
  · cases e with
    | returned v => exact hn _ _ _ hh
    | panicked ch => exact hp _ _ hh

theorem stepR_mono {i : Nat} {K K' : Rho → List Deferred → Hp → Prop} {ρ : Rho} {ds : List Deferred} {σ : Hp} (hk : ∀ ρ ds σ, K ρ ds σ → K' ρ ds σ) (h : stepR E N ops Q i K ρ ds σ) : stepR E N ops Q i K' ρ ds σ := by
  unfold stepR at h ⊢
  cases ho : ops[i]? with
  | none => rw [ho] at h; exact h.elim
  | some o =>
    rw [ho] at h
    refine ⟨h.1, ?_⟩
    have h2 := h.2
    split
    · rename_i hw
      rw [if_pos hw] at h2
      split
      · rename_i hr; rw [if_pos hr] at h2; obtain ⟨v, h3, h4⟩ := h2; exact ⟨v, h3, hk _ _ _ h4⟩
      · rename_i hr; rw [if_neg hr] at h2; exact wpOp_trans rfl (fun v ds σ x => hk _ _ _ x) (fun _ _ x => x) h2
    · rename_i hw; rw [if_neg hw] at h2; exact hk _ _ _ h2

theorem wpAnyR_sound : ∀ (fuel t : Nat) (listed : Array Bool) (ρ : Rho) (ds : List Deferred) (σ : Hp), wpAnyR E N ops Q fuel listed ρ ds σ → wpO E N ops Q (Region.linearise.go .any ops fuel t listed []) ρ ds σ := by
  intro fuel
  induction fuel with
  | zero => intro t listed ρ ds σ h; simpa [Region.linearise.go, wpO] using h.2
  | succ fuel ih =>
    intro t listed ρ ds σ h
    obtain ⟨h₀, h₁⟩ := h
    simp only [Region.linearise.go]
    change wpO E N ops Q (match (Region.ready .any ops listed)[t % (Region.ready .any ops listed).length]? with
      | some i => Region.linearise.go .any ops fuel (t / (Region.ready .any ops listed).length) (listed.setIfInBounds i true) [i]
      | none => [].reverse) ρ ds σ
    cases hi : (Region.ready .any ops listed)[t % (Region.ready .any ops listed).length]? with
    | none =>
      have hnil : Region.ready .any ops listed = [] := by
        cases hr : Region.ready .any ops listed with
        | nil => rfl
        | cons x xs =>
          rw [hr] at hi
          have hlt : t % (x :: xs).length < (x :: xs).length := Nat.mod_lt _ (by simp)
          simp at hi
          simp at hlt
          omega
      simpa [wpO] using h₀ hnil
    | some i =>
      simp only []
      rw [linearise_go_acc, List.reverse_singleton, List.singleton_append]
      exact stepR_mono (fun ρ ds σ => ih _ _ ρ ds σ) (h₁ i (List.mem_of_getElem? hi))

/-! ### what an operation reads hangs on its operands alone -/
theorem readV_congr {op : Op} {ρ ρ' : Rho} {σ : Hp} (h : ∀ x ∈ op.operands, evR ρ x = evR ρ' x) : readV P op ρ σ = readV P op ρ' σ := by
  cases op <;> first | rfl | skip
  case move x => simp only [readV]; rw [h x (by simp [Op.operands])]
  case assign x => simp only [readV]; rw [h x (by simp [Op.operands])]
  case pick c a b => simp only [readV]; rw [h c (by simp [Op.operands]), h a (by simp [Op.operands]), h b (by simp [Op.operands])]
  case load t x => simp only [readV]; rw [h x (by simp [Op.operands])]
  case nilCheck x => simp only [readV]; rw [h x (by simp [Op.operands])]
  case binOp o t x y u => simp only [readV]; rw [h x (by simp [Op.operands]), h y (by simp [Op.operands])]
  case unOp o t x => simp only [readV]; rw [h x (by simp [Op.operands])]
  case convert s d x => simp only [readV]; rw [h x (by simp [Op.operands])]
  case makeInterface t x => simp only [readV]; rw [h x (by simp [Op.operands])]
  case fieldAddr t x f => simp only [readV]; rw [h x (by simp [Op.operands])]
  case extract x i => simp only [readV]; rw [h x (by simp [Op.operands])]
  case indexAddr t x i => simp only [readV]; rw [h x (by simp [Op.operands]), h i (by simp [Op.operands])]
  case index t x i => simp only [readV]; rw [h x (by simp [Op.operands]), h i (by simp [Op.operands])]
  case makeFunc fn l c =>
    have e : ∀ (zs : Array Operand), (∀ x ∈ zs, x ∈ (Op.makeFunc fn l c).operands) → zs.map (evR ρ) = zs.map (evR ρ') := fun zs hz =>
      Array.map_congr_left fun x hx => h x (hz x hx)
    simp only [readV]
    rw [e l (by simp [Op.operands]; exact fun x hx => .inl hx), e c (by simp [Op.operands]; exact fun x hx => .inr hx)]
  case slice t x lo hi mx =>
    cases mx with
    | some m => rfl
    | none =>
      have e : ∀ (z : Option Operand), (∀ u ∈ z, u ∈ (Op.slice t x lo hi none).operands) → z.map (evR ρ) = z.map (evR ρ') := fun z hz => by
        cases z with
        | none => rfl
        | some y => simp only [Option.map_some]; rw [h y (hz y rfl)]
      simp only [readV]
      rw [h x (by simp [Op.operands]), e lo (by intro y hy; cases hy; simp [Op.operands]), e hi (by intro y hy; cases hy; simp [Op.operands])]
  case call c =>
    obtain ⟨callee, args, ats⟩ := c
    cases callee with
    | value f => rfl
    | invoke r m => rfl
    | builtin b =>
      cases b <;> first | rfl | skip
      have e : args.map (evR ρ) = args.map (evR ρ') := Array.map_congr_left fun x hx => h x (by simp [Op.operands, Call.operands]; exact hx)
      simp only [readV]
      rw [e]

theorem readV_heap {op : Op} {ρ : Rho} {σ σ' : Hp} (h : heapRd op = false) : readV P op ρ σ = readV P op ρ σ' := by
  cases op <;> first | rfl | (cases h; done) | skip
  case slice t x lo hi mx => cases mx <;> rfl
  case call c =>
    obtain ⟨callee, args, ats⟩ := c
    cases callee with
    | value f => rfl
    | invoke r m => rfl
    | builtin b => cases b <;> rfl

/-! ### the slots, by the operations that lay them -/
open Classical in
noncomputable def sl (ops : Array Oper) (ρ₀ : Rho) (vals : Nat → Option Value) (t : Nat) : Value :=
  if h : ∃ v i, dstAt ops i = some t ∧ vals i = some v then h.choose else ρ₀ t

structure Good (ops : Array Oper) (l : List Nat) : Prop where
  all : ∀ i, i < ops.size → i ∈ l
  lt : ∀ i ∈ l, i < ops.size
  pw : l.Pairwise fun i j => i ≠ j ∧ anc ops i j = false ∧ (rdAt ops i = true ∨ anc ops j i = true)
  op : ∀ i, i < ops.size → opChk ops i = true
  irr : ∀ i, i < ops.size → anc ops i i = false

theorem pwD_pw : ∀ {l : List Nat}, pwD ops l = true → l.Pairwise fun i j => i ≠ j ∧ anc ops i j = false ∧ (rdAt ops i = true ∨ anc ops j i = true)
  | [], _ => .nil
  | i :: r, h => by
    simp only [pwD, Bool.and_eq_true, List.all_eq_true, Bool.not_eq_true', Bool.or_eq_true, beq_eq_false_iff_ne] at h
    exact .cons (fun j hj => ⟨(h.1 j hj).1.1, (h.1 j hj).1.2, (h.1 j hj).2⟩) (pwD_pw h.2)

theorem good_of {l : List Nat} (h : chkD ops l = true) : Good ops l := by
  simp only [chkD, Bool.and_eq_true, List.all_eq_true, List.contains_eq_mem, List.mem_range, Bool.not_eq_true', decide_eq_true_eq] at h
  obtain ⟨⟨⟨⟨h1, h2⟩, h3⟩, h4⟩, h5⟩ := h
  exact ⟨h1, h2, pwD_pw h3, h4, h5⟩

/-- What is known of one operation of a good region. -/
structure OpGood (ops : Array Oper) (i : Nat) (o : Oper) : Prop where
  wr : isRd o.op = true ∨ notSel o.op = true
  on : ∀ e ∈ o.after, e.on < ops.size
  dst : ∀ j d, j < ops.size → j ≠ i → o.dst = some d → dstAt ops j ≠ some d
  slots : ∀ j d, j < ops.size → j ≠ i → dstAt ops j = some d → d ∈ slotsOf ops o → anc ops i j = true ∨ anc ops j i = true

theorem Good.opGood {l : List Nat} (h : Good ops l) {i : Nat} {o : Oper} (ho : ops[i]? = some o) : OpGood ops i o := by
  have hi : i < ops.size := (Array.getElem?_eq_some_iff.1 ho).1
  have hc := h.op i hi
  simp only [opChk, ho, Bool.and_eq_true, Bool.or_eq_true, List.all_eq_true, List.mem_range, beq_iff_eq, decide_eq_true_eq] at hc
  obtain ⟨⟨h1, h2⟩, h3⟩ := hc
  refine ⟨h1, fun e he => h2 e (by simpa using he), fun j d hj hne hd => ?_, fun j d hj hne hd hs => ?_⟩
  · rcases h3 j hj with e | ⟨h4, _⟩
    · exact absurd e.symm hne
    · rw [hd] at h4
      simpa using h4
  · rcases h3 j hj with e | ⟨_, h5⟩
    · exact absurd e.symm hne
    · rw [hd] at h5
      simp only [Bool.or_eq_true, Bool.not_eq_true', List.contains_eq_mem, decide_eq_false_iff_not] at h5
      rcases h5 with (h5 | h5) | h5
      · exact absurd hs h5
      · exact .inl h5
      · exact .inr h5

theorem dstAt_lt {i : Nat} {d : Tmp} (h : dstAt ops i = some d) : i < ops.size := by
  unfold dstAt at h
  obtain ⟨o, ho, _⟩ := Option.bind_eq_some_iff.1 h
  exact (Array.getElem?_eq_some_iff.1 ho).1

theorem Good.uniq {l : List Nat} (h : Good ops l) {i j : Nat} {d : Tmp} (hi : dstAt ops i = some d) (hj : dstAt ops j = some d) : i = j := by
  obtain ⟨o, ho, hd⟩ := Option.bind_eq_some_iff.1 hi
  exact Classical.byContradiction fun hne => (h.opGood ho).dst j d (dstAt_lt hj) (fun e => hne e.symm) hd hj

variable {ρ₀ : Rho} {vals : Nat → Option Value} {l₀ : List Nat}

theorem sl_some (G : Good ops l₀) {i : Nat} {t : Nat} {v : Value} (hd : dstAt ops i = some t) (hv : vals i = some v) : sl ops ρ₀ vals t = v := by
  unfold sl
  have h : ∃ v i, dstAt ops i = some t ∧ vals i = some v := ⟨v, i, hd, hv⟩
  rw [dif_pos h]
  obtain ⟨j, hj, hjv⟩ := h.choose_spec
  obtain rfl := G.uniq hd hj
  exact Option.some.inj (hjv.symm.trans hv)

theorem sl_none {t : Nat} (h : ∀ i, dstAt ops i = some t → vals i = none) : sl ops ρ₀ vals t = ρ₀ t := by
  unfold sl
  rw [dif_neg]
  rintro ⟨v, i, hd, hv⟩
  rw [h i hd] at hv; cases hv

def updV (vals : Nat → Option Value) (i : Nat) (v : Value) : Nat → Option Value := fun j => if j = i then some v else vals j

theorem sl_put (G : Good ops l₀) {i : Nat} {o : Oper} (ho : ops[i]? = some o) (v : Value) : putR (sl ops ρ₀ vals) o.dst v = sl ops ρ₀ (updV vals i v) := by
  have hda : dstAt ops i = o.dst := by simp [dstAt, ho]
  funext t
  by_cases hi : dstAt ops i = some t
  · rw [sl_some G hi (show updV vals i v i = some v by simp [updV])]
    rw [hda] at hi
    rw [hi]; simp [putR, up]
  · have hl : putR (sl ops ρ₀ vals) o.dst v t = sl ops ρ₀ vals t := by
      cases hd : o.dst with
      | none => rfl
      | some d =>
        have : t ≠ d := fun e => hi (by rw [hda, hd, e])
        simp [putR, up, this]
    rw [hl]
    by_cases hx : ∃ w j, dstAt ops j = some t ∧ vals j = some w
    · obtain ⟨w, j, hj, hw⟩ := hx
      have hne : j ≠ i := fun e => hi (e ▸ hj)
      rw [sl_some G hj hw, sl_some G hj (show updV vals i v j = some w by simp [updV, hne, hw])]
    · rw [sl_none (fun j hj => by cases hw : vals j with | none => rfl | some w => exact absurd ⟨w, j, hj, hw⟩ hx)]
      rw [sl_none (fun j hj => by
        have hne : j ≠ i := fun e => hi (e ▸ hj)
        simp only [updV, hne, if_false]
        cases hw : vals j with
        | none => rfl
        | some w => exact absurd ⟨w, j, hj, hw⟩ hx)]

/-- Two states of slots agree on what an operation looks at. -/
theorem sl_agree (G : Good ops l₀) {i : Nat} {o : Oper} (ho : ops[i]? = some o) {vals' : Nat → Option Value} (hself : vals i = vals' i) (ha : ∀ j, anc ops i j = true → vals j = vals' j) (hb : ∀ j, anc ops j i = true → vals j = vals' j) :
    ∀ t ∈ slotsOf ops o, sl ops ρ₀ vals t = sl ops ρ₀ vals' t := by
  intro t ht
  by_cases hx : ∃ j, dstAt ops j = some t
  · obtain ⟨j, hj⟩ := hx
    have e : vals j = vals' j := by
      by_cases hji : j = i
      · subst hji; exact hself
      · rcases (G.opGood ho).slots j t (dstAt_lt hj) hji hj ht with h | h
        · exact ha j h
        · exact hb j h
    cases hv : vals j with
    | some v => rw [sl_some G hj hv, sl_some G hj (e ▸ hv)]
    | none =>
      rw [sl_none (fun k hk => by rw [G.uniq hk hj]; exact hv), sl_none (fun k hk => by rw [G.uniq hk hj, ← e]; exact hv)]
  · rw [sl_none (fun j hj => absurd ⟨j, hj⟩ hx), sl_none (fun j hj => absurd ⟨j, hj⟩ hx)]

theorem evR_agree {ρ ρ' : Rho} {o : Oper} (h : ∀ t ∈ slotsOf ops o, ρ t = ρ' t) : ∀ x ∈ o.op.operands, evR ρ x = evR ρ' x := by
  intro x hx
  cases x <;> first | rfl | skip
  rename_i t
  exact h t (List.mem_append.2 (.inl (List.mem_filterMap.2 ⟨.tmp t, by simpa using hx, rfl⟩)))

theorem wanted_agree {ρ ρ' : Rho} {o : Oper} (h : ∀ t ∈ slotsOf ops o, ρ t = ρ' t) : Region.wanted o (yieldedR N ops ρ) = Region.wanted o (yieldedR N ops ρ') := by
  unfold Region.wanted
  cases hg : o.guard with
  | none => rfl
  | some p =>
    obtain ⟨j, b⟩ := p
    simp only
    have : yieldedR N ops ρ j = yieldedR N ops ρ' j := by
      unfold yieldedR
      cases hd : (ops[j]?).bind (·.dst) with
      | none => rfl
      | some d =>
        simp only
        rw [h d (List.mem_append.2 (.inr (by rw [hg]; simp [dstAt, hd])))]
    rw [this]

theorem execOp_agree {ρ ρ' : Rho} {o : Oper} (hs : notSel o.op = true) (h : ∀ t ∈ slotsOf ops o, ρ t = ρ' t) : execOp (evR ρ) o = execOp (evR ρ') o :=
  execOp_congr o (fun cs b e => by rw [e] at hs; cases hs) (evR_agree h)
end
end Go.Qw
