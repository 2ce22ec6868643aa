/- The law Beats of queuewire returns true for every three integers: the row over the given program, tied to its text; no condition besides. (Part 9 of 40: QwDrawS QwDraw3.) -/
import Derived.KernelRfl
import Derived.Test.YtpiabknabfbfhaaGreatDoorBeats08
set_option linter.all false
-- Rules for a region whose order is open.
namespace Go.Qw
open Go Go.Conc

def rdQ (P : Program) (op : Op) (ρ : Rho) (σ : Hp) (K : Value → Prop) : Prop := ∃ v, readV P op ρ σ = some v ∧ K v
@[congr] theorem rdQ_congr {P : Program} {op : Op} {ρ : Rho} {σ : Hp} {K : Value → Prop} {n₀ : Nat} (_ : tick 0 = n₀) : rdQ P op ρ σ K = rdQ P op ρ σ K := rfl
theorem ex_some {K : Value → Prop} {w : Value} : (∃ v, some w = some v ∧ K v) = K w := propext ⟨fun ⟨v, h, k⟩ => by cases h; exact k, fun k => ⟨w, rfl, k⟩⟩
theorem ex_none {K : Value → Prop} : (∃ v, (none : Option Value) = some v ∧ K v) = False := propext ⟨fun ⟨v, h, k⟩ => (by cases h), fun k => k.elim⟩

section
variable {P : Program} {ρ : Rho} {σ : Hp} {K : Value → Prop}
theorem rd_move {x : Operand} : rdQ P (.move x) ρ σ K = valQ K (evR ρ x) := ex_some
theorem rd_assign {x : Operand} : rdQ P (.assign x) ρ σ K = valQ K (evR ρ x) := ex_some
theorem rd_pick {c a b : Operand} : rdQ P (.pick c a b) ρ σ K = pickQ (valQ K (evR ρ a)) (valQ K (evR ρ b)) (evR ρ c) := by
  unfold rdQ pickQ readV
  dsimp only
  generalize evR ρ c = y
  cases y with
  | bool t => cases t <;> exact ex_some
  | _ => exact ex_none
theorem ldV_iff {t : TypeId} {a : Addr} : (∃ v, ldV P t a σ = some v ∧ K v) = ldQ P t a σ K := by
  apply propext
  constructor
  · rintro ⟨v, h, k⟩; exact ldV_ldQ h k
  · intro h
    unfold ldQ at h
    unfold ldV
    split at h
    · rename_i hc
      rw [if_pos hc]
      split at h
      · rename_i cs hcs; exact ⟨_, by rw [hcs]; rfl, h⟩
      · exact h.elim
    · rename_i hc
      rw [if_neg hc]
      split at h
      · rename_i v hv; exact ⟨v, hv, h⟩
      · exact h.elim
theorem rd_load {t : TypeId} {x : Operand} : rdQ P (.load t x) ρ σ K = chkQ (isT P t) (ptrQ (fun a => ldQ P t a σ K) (evR ρ x)) := by
  unfold rdQ chkQ readV ptrQ
  dsimp only
  simp only [← ldV_iff]
  generalize evR ρ x = y
  cases y with
  | pointer a =>
    cases a with
    | none => exact ex_none.trans (by simp)
    | some a => cases ht : isT P t <;> simp
  | _ => exact ex_none.trans (by simp)
theorem rd_nil {x : Operand} : rdQ P (.nilCheck x) ρ σ K = nilCkQ K (evR ρ x) := by
  unfold rdQ nilCkQ readV
  dsimp only
  generalize evR ρ x = y
  cases y with
  | pointer a => cases a <;> first | exact ex_none | exact ex_some
  | func f l c => cases f <;> first | exact ex_none | exact ex_some
  | _ => exact ex_none
theorem rd_field {s : TypeId} {x : Operand} {f : Nat} : rdQ P (.fieldAddr s x f) ρ σ K = ptrQ (fun a => optQ (fun n => valQ K (.pointer (some (a.add n)))) (fieldOff P s f)) (evR ρ x) := by
  unfold rdQ ptrQ readV
  dsimp only
  generalize evR ρ x = y
  cases y with
  | pointer a =>
    cases a with
    | none => exact ex_none
    | some a => generalize fieldOff P s f = z; cases z <;> first | exact ex_none | exact ex_some
  | _ => exact ex_none
theorem rd_bin {op : BinOp} {t u : TypeId} {x y : Operand} : rdQ P (.binOp op t x y u) ρ σ K = orQ (orQ (orQ False K (nilNil P op t x y (evR ρ x) (evR ρ y))) K (nilV P op t (evR ρ x) (evR ρ y))) K (binV op (evR ρ x) (evR ρ y)) := by
  unfold rdQ readV
  dsimp only
  generalize binV op (evR ρ x) (evR ρ y) = a
  generalize nilV P op t (evR ρ x) (evR ρ y) = b
  generalize nilNil P op t x y (evR ρ x) (evR ρ y) = c
  cases a with
  | some a => exact ex_some
  | none => cases b with
    | some b => exact ex_some
    | none => cases c with
      | some c => exact ex_some
      | none => exact ex_none
theorem rd_un {op : UnOp} {t : TypeId} {x : Operand} : rdQ P (.unOp op t x) ρ σ K = optQ K (unV op (evR ρ x)) := by
  unfold rdQ readV
  dsimp only
  generalize unV op (evR ρ x) = y
  cases y <;> first | exact ex_none | exact ex_some
theorem rd_conv {s d : TypeId} {x : Operand} : rdQ P (.convert s d x) ρ σ K = orQ False K (convV P s d (evR ρ x)) := by
  unfold rdQ readV
  dsimp only
  generalize convV P s d (evR ρ x) = y
  cases y <;> first | exact ex_none | exact ex_some
theorem rd_mkI {t : TypeId} {x : Operand} : rdQ P (.makeInterface t x) ρ σ K = chkQ (concT P t) (valQ (fun v => K (.iface t v)) (evR ρ x)) := by
  unfold rdQ readV chkQ concT valQ
  dsimp only
  cases P.underlying t with
  | none => simp
  | some d => cases d <;> simp
theorem rd_func {f : Fn} {l c : Array Operand} : rdQ P (.makeFunc f l c) ρ σ K = valQ K (.func f (l.map (evR ρ)) (c.map (evR ρ))) := ex_some
theorem rd_extract {x : Operand} {i : Nat} : rdQ P (.extract x i) ρ σ K = tupQ K i (evR ρ x) := by
  unfold rdQ readV tupQ
  dsimp only
  generalize evR ρ x = y
  cases y with
  | tuple vs => show (∃ v, vs[i]? = some v ∧ K v) = optQ K vs[i]?; generalize vs[i]? = z; cases z <;> first | exact ex_none | exact ex_some
  | _ => exact ex_none
theorem rd_len {x : Operand} {ats : Array TypeId} {t : TypeId} (h : ats[0]? = some t) : rdQ P (.call ⟨.builtin .len, #[x], ats⟩) ρ σ K = lenQ P False K t (evR ρ x) := by
  have e : (#[x].map (evR ρ))[0]? = some (evR ρ x) := by simp
  unfold rdQ readV lenQ
  dsimp only
  simp only [h, e]
  cases lenT P t (evR ρ x) <;> cases lenV (evR ρ x) <;> simp
theorem ex_ite {c : Prop} [Decidable c] {w : Value} : (∃ v, (if c then some w else none) = some v ∧ K v) = chkP c (K w) := by
  unfold chkP
  by_cases h : c
  · simp only [h, if_true, true_and]; exact ex_some
  · simp only [h, if_false, false_and]; exact ex_none
theorem rd_slice_str {t : TypeId} {x : Operand} {lo hi : Option Operand} (h : strT P t = true) : rdQ P (.slice t x lo hi none) ρ σ K = ssQ False K (lo.map (evR ρ)) (hi.map (evR ρ)) (evR ρ x) := by
  unfold rdQ readV
  simp only [strT_e h]
  generalize evR ρ x = vx
  generalize lo.map (evR ρ) = l
  generalize hi.map (evR ρ) = u
  cases vx with
  | string s =>
    simp only [ssQ]
    cases l with
    | none =>
      simp only [sliceLo, loQ]
      cases u with
      | none => simp only [sliceHi, hiQ]; exact ex_ite
      | some u => simp only [sliceHi, hiQ]; cases u <;> first | exact ex_ite | exact ex_none
    | some l =>
      cases l with
      | int k n =>
        simp only [sliceLo, loQ]
        cases u with
        | none => simp only [sliceHi, hiQ]; exact ex_ite
        | some u => simp only [sliceHi, hiQ]; cases u <;> first | exact ex_ite | exact ex_none
      | _ => simp only [sliceLo, loQ]; exact ex_none
  | _ => simp only [ssQ]; exact ex_none
theorem rd_indexAddr {t : TypeId} {x i : Operand} : rdQ P (.indexAddr t x i) ρ σ K = facQ False (fun z => ixQ False z K (evR ρ i) (evR ρ x)) (elemSz P t) := by
  have e0 : readV P (.indexAddr t x i) ρ σ = match sliceElem P t, evR ρ x, evR ρ i with
    | some e, .slice (some a) n _, .int _ k => if 0 ≤ k ∧ k < n ∧ (P.info? e).isSome = true then some (.pointer (some (a.add (k.toNat * sizeT P e)))) else none
    | _, _, _ => none := rfl
  unfold rdQ
  rw [e0]
  cases h : elemSz P t with
  | none =>
    rw [facQ_none]
    unfold elemSz at h
    split at h
    · rename_i e he
      have hi : (P.info? e).isSome = false := by
        cases hh : P.info? e with
        | none => rfl
        | some i => rw [hh] at h; cases h
      rw [he]
      cases evR ρ x <;> try exact ex_none
      rename_i a n c
      cases a <;> try exact ex_none
      cases evR ρ i <;> try exact ex_none
      simp [hi]
    · rename_i he
      rw [he]
      exact ex_none
  | some z =>
    obtain ⟨e, he, hs, hz⟩ := elemSz_e h
    subst hz
    rw [facQ_some]
    unfold ixQ
    rw [he]
    cases evR ρ x <;> try exact ex_none
    rename_i a n c
    cases a <;> try exact ex_none
    cases evR ρ i <;> try exact ex_none
    simp only [hs, and_true]
    exact ex_ite
theorem rd_len1 {x : Operand} {t : TypeId} : rdQ P (.call ⟨.builtin .len, #[x], #[t]⟩) ρ σ K = lenQ P False K t (evR ρ x) := rd_len rfl
end

/-! ### the walk -/
section
variable {P : Program} {E : Env P} {N : Nat} {ops : Array Oper} {Q : Post} {pn : List PanicEntry → List Deferred → Hp → Prop} {rest : List Nat} {pend : List (Nat × Rho × Value)} {ρ : Rho} {ds : List Deferred} {σ : Hp} {i : Nat} {dst : Option Tmp} {ty : TypeId} {pos : String} {af : Array Edge}
@[congr] theorem wpD_congr {l : List Nat} {n₀ : Nat} (_ : tick 0 = n₀) : wpD E N ops Q pn l pend ρ ds σ = wpD E N ops Q pn l pend ρ ds σ := rfl
def dQ (E : Env P) (N : Nat) (ops : Array Oper) (Q : Post) (pn : List PanicEntry → List Deferred → Hp → Prop) (i : Nat) (rest : List Nat) (pend : List (Nat × Rho × Value)) (ρ : Rho) (ds : List Deferred) (σ : Hp) : Option Oper → Prop
  | none => False
  | some o => okDst N o.dst = true ∧
      if isRd o.op then
        if Region.wanted o (yieldedR N ops ρ) then match readV P o.op ρ σ with
          | some v => wpD E N ops Q pn rest ((i, ρ, v) :: pend) (putR ρ o.dst v) ds σ
          | none => False
        else wpD E N ops Q pn rest pend (putR ρ o.dst undef) ds σ
      else if Region.wanted o (yieldedR N ops ρ) then opQ E o ρ ds σ (fun ρ' ds' σ' => keepsD (P := P) ops i σ' pend ∧ wpD E N ops Q pn rest pend ρ' ds' σ') (fun ch σ' => pn ch ds σ')
      else wpD E N ops Q pn rest pend (putR ρ o.dst undef) ds σ
@[congr] theorem dQ_congr {o o' : Option Oper} (h : tick o = o') : dQ E N ops Q pn i rest pend ρ ds σ o = dQ E N ops Q pn i rest pend ρ ds σ o' := by subst h; rfl
theorem d_nil : wpD E N ops Q pn [] pend ρ ds σ = Q .normal ρ ds σ := _root_.id rfl
theorem d_cons : wpD E N ops Q pn (i :: rest) pend ρ ds σ = dQ E N ops Q pn i rest pend ρ ds σ (ops[i]?) := by
  simp only [wpD, dQ]
  cases ops[i]? <;> rfl
def bQ (p q : Prop) : Bool → Prop
  | true => p
  | false => q
@[congr] theorem bQ_congr {p q : Prop} {b b' : Bool} (h : tick b = b') : bQ p q b = bQ p q b' := by subst h; rfl
theorem bQ_t {p q : Prop} : bQ p q true = p := _root_.id rfl
theorem bQ_f {p q : Prop} : bQ p q false = q := _root_.id rfl
theorem d_plain {op : Op} : dQ E N ops Q pn i rest pend ρ ds σ (some ⟨dst, op, ty, pos, af, none⟩) =
    chkQ (okDst N dst) (bQ (rdQ P op ρ σ fun v => wpD E N ops Q pn rest ((i, ρ, v) :: pend) (putR ρ dst v) ds σ)
      (opQ E ⟨dst, op, ty, pos, af, none⟩ ρ ds σ (fun ρ' ds' σ' => keepsD (P := P) ops i σ' pend ∧ wpD E N ops Q pn rest pend ρ' ds' σ') (fun ch σ' => pn ch ds σ')) (isRd op)) := by
  simp only [dQ, chkQ, Region.wanted, if_true]
  cases h : isRd op
  · rfl
  · simp only [if_true, bQ, rdQ]
    congr 1
    cases readV P op ρ σ with
    | none => exact ex_none.symm
    | some v => exact (ex_some (K := fun v => wpD E N ops Q pn rest ((i, ρ, v) :: pend) (putR ρ dst v) ds σ)).symm
theorem d_guard {op : Op} {j : Nat} {b : Bool} : dQ E N ops Q pn i rest pend ρ ds σ (some ⟨dst, op, ty, pos, af, some (j, b)⟩) =
    chkQ (okDst N dst) (bQ (gdQ (rdQ P op ρ σ fun v => wpD E N ops Q pn rest ((i, ρ, v) :: pend) (putR ρ dst v) ds σ) (wpD E N ops Q pn rest pend (putR ρ dst undef) ds σ) b (yieldedR N ops ρ j))
      (gdQ (opQ E ⟨dst, op, ty, pos, af, some (j, b)⟩ ρ ds σ (fun ρ' ds' σ' => keepsD (P := P) ops i σ' pend ∧ wpD E N ops Q pn rest pend ρ' ds' σ') (fun ch σ' => pn ch ds σ')) (wpD E N ops Q pn rest pend (putR ρ dst undef) ds σ) b (yieldedR N ops ρ j)) (isRd op)) := by
  simp only [dQ, chkQ, Region.wanted]
  cases h : isRd op
  · simp only [Bool.false_eq_true, if_false, bQ, gdQ, beq_iff_eq]
  · simp only [if_true, bQ, rdQ, gdQ, beq_iff_eq]
    congr 1
    split
    · cases readV P op ρ σ with
      | none => exact ex_none.symm
      | some v => exact (ex_some (K := fun v => wpD E N ops Q pn rest ((i, ρ, v) :: pend) (putR ρ dst v) ds σ)).symm
    · rfl
theorem ir_move {x : Operand} : isRd (.move x) = true := _root_.id rfl
theorem ir_assign {x : Operand} : isRd (.assign x) = true := _root_.id rfl
theorem ir_pick {x y z : Operand} : isRd (.pick x y z) = true := _root_.id rfl
theorem ir_load {t : TypeId} {x : Operand} : isRd (.load t x) = true := _root_.id rfl
theorem ir_nil {x : Operand} : isRd (.nilCheck x) = true := _root_.id rfl
theorem ir_field {t : TypeId} {x : Operand} {f : Nat} : isRd (.fieldAddr t x f) = true := _root_.id rfl
theorem ir_bin {o : BinOp} {t u : TypeId} {x y : Operand} : isRd (.binOp o t x y u) = true := _root_.id rfl
theorem ir_un {o : UnOp} {t : TypeId} {x : Operand} : isRd (.unOp o t x) = true := _root_.id rfl
theorem ir_conv {t u : TypeId} {x : Operand} : isRd (.convert t u x) = true := _root_.id rfl
theorem ir_mkI {t : TypeId} {x : Operand} : isRd (.makeInterface t x) = true := _root_.id rfl
theorem ir_func {f : Fn} {x y : Array Operand} : isRd (.makeFunc f x y) = true := _root_.id rfl
theorem ir_extract {x : Operand} {k : Nat} : isRd (.extract x k) = true := _root_.id rfl
theorem ir_indexAddr {t : TypeId} {x y : Operand} : isRd (.indexAddr t x y) = true := _root_.id rfl
theorem ir_index {t : TypeId} {x y : Operand} : isRd (.index t x y) = true := _root_.id rfl
theorem ir_slice {t : TypeId} {x : Operand} {lo hi : Option Operand} : isRd (.slice t x lo hi none) = true := _root_.id rfl
theorem ir_len {x : Array Operand} {a : Array TypeId} : isRd (.call ⟨.builtin .len, x, a⟩) = true := _root_.id rfl
theorem ir_call {x : Operand} {a : Array Operand} {b : Array TypeId} : isRd (.call ⟨.value x, a, b⟩) = false := _root_.id rfl
theorem ir_append {x : Array Operand} {a : Array TypeId} : isRd (.call ⟨.builtin .append, x, a⟩) = false := _root_.id rfl
theorem ir_store {t : TypeId} {x y : Operand} : isRd (.store t x y) = false := _root_.id rfl
theorem ir_alloc {t : TypeId} : isRd (.alloc t) = false := _root_.id rfl
theorem ir_box {t : TypeId} {x : Operand} : isRd (.box t x) = false := _root_.id rfl
theorem ir_bs {t : TypeId} {n : Nat} {p : Array (Nat × Operand)} : isRd (.buildSlice t n p) = false := _root_.id rfl
theorem ir_build {t : TypeId} {p : Array (Nat × Operand)} : isRd (.build t p) = false := _root_.id rfl

def okK (ops : Array Oper) (i j : Nat) : Bool := match ops[j]? with
  | some o => !(heapRd o.op && !anc ops i j)
  | none => true
theorem keeps_nil : keepsD (P := P) ops i σ [] := trivial
theorem keeps_cons {j : Nat} {v : Value} (h : okK ops i j = true) (k : keepsD (P := P) ops i σ pend) : keepsD (P := P) ops i σ ((j, ρ, v) :: pend) := by
  refine ⟨?_, k⟩
  unfold okK at h
  split
  · rename_i o ho
    rw [ho] at h
    simp only [Bool.not_eq_true'] at h
    rw [h]; simp
  · trivial
/-- A read that is pending meets what it met. -/
theorem keeps_read {j : Nat} {v : Value} {o : Oper} (ho : ops[j]? = some o) (h : readV P o.op ρ σ = some v) (k : keepsD (P := P) ops i σ pend) : keepsD (P := P) ops i σ ((j, ρ, v) :: pend) := by
  refine ⟨?_, k⟩
  rw [ho]
  simp only []
  split
  · exact h
  · trivial
theorem keeps_rd {j : Nat} {v : Value} {op : Op} {g : Option (Nat × Bool)} (ho : ops[j]? = some ⟨dst, op, ty, pos, af, g⟩) (h : rdQ P op ρ σ fun w => w = v) (k : keepsD (P := P) ops i σ pend) : keepsD (P := P) ops i σ ((j, ρ, v) :: pend) := by
  obtain ⟨w, h1, rfl⟩ := h
  exact keeps_read ho h1 k
end
attribute [go_sem] d_nil d_cons rd_indexAddr d_plain d_guard bQ_t bQ_f rd_move rd_assign rd_pick rd_load rd_nil rd_field rd_bin rd_un rd_conv rd_mkI rd_func rd_extract rd_len1 rd_slice_str ir_slice
  ir_move ir_assign ir_pick ir_load ir_nil ir_field ir_bin ir_un ir_conv ir_mkI ir_func ir_extract ir_indexAddr ir_index ir_len ir_call ir_append ir_store ir_alloc ir_box ir_bs ir_build
end Go.Qw
-- A region in which two writers may come in either order.
namespace Go.Qw
open Go Go.Conc

theorem ir_makeMap {t : TypeId} {r : Option Operand} : isRd (.makeMap t r) = false := _root_.id rfl
attribute [go_sem] ir_makeMap
/-- Operation v waits for u, too. -/
def addE (ops : Array Oper) (v u : Nat) : Array Oper := ops.modify v fun o => { o with after := o.after.push { on := u, ground := .data } }

section
variable {P : Program} {E : Env P} {N : Nat} {ops : Array Oper} {Q : Post} {u v : Nat}
theorem addE_size : (addE ops v u).size = ops.size := by simp [addE]
theorem addE_get {i : Nat} : (addE ops v u)[i]? = (ops[i]?).map fun o => if i = v then { o with after := o.after.push { on := u, ground := .data } } else o := by
  unfold addE
  rw [Array.getElem?_modify]
  by_cases h : v = i
  · subst h; cases ops[v]? <;> simp
  · have : ¬ i = v := fun e => h e.symm
    cases ops[i]? <;> simp [h, this]

theorem ready_addE {listed : Array Bool} {i : Nat} : i ∈ Region.ready .any (addE ops v u) listed ↔ i ∈ Region.ready .any ops listed ∧ (i = v → listed.getD u false = true) := by
  rw [mem_ready, mem_ready, addE_get]
  constructor
  · rintro ⟨h0, o, ho, hd⟩
    obtain ⟨o', ho', rfl⟩ := Option.map_eq_some_iff.1 ho
    by_cases e : i = v
    · simp only [if_pos e] at hd
      refine ⟨⟨h0, o', ho', fun x hx hb => hd x (by simp [hx]) hb⟩, fun _ => hd ⟨u, .data⟩ (by simp) rfl⟩
    · simp only [if_neg e] at hd
      exact ⟨⟨h0, o', ho', hd⟩, fun h => absurd h e⟩
  · rintro ⟨⟨h0, o, ho, hd⟩, hv⟩
    refine ⟨h0, _, by rw [ho]; rfl, fun x hx hb => ?_⟩
    by_cases e : i = v
    · simp only [if_pos e, Array.mem_push] at hx
      rcases hx with hx | rfl
      · exact hd x hx hb
      · exact hv e
    · simp only [if_neg e] at hx
      exact hd x hx hb

theorem yieldedR_addE {ρ : Rho} : yieldedR N (addE ops v u) ρ = yieldedR N ops ρ := by
  funext j
  unfold yieldedR
  rw [addE_get]
  cases ops[j]? with
  | none => rfl
  | some o => by_cases h : j = v <;> simp [h]

theorem stepR_addE {i : Nat} {K : Rho → List Deferred → Hp → Prop} {ρ : Rho} {ds : List Deferred} {σ : Hp} : stepR E N (addE ops v u) Q i K ρ ds σ ↔ stepR E N ops Q i K ρ ds σ := by
  unfold stepR
  rw [addE_get, yieldedR_addE]
  cases ops[i]? with
  | none => exact Iff.rfl
  | some o =>
    by_cases h : i = v
    · simp only [Option.map_some, if_pos h]
      exact Iff.rfl
    · simp only [Option.map_some, if_neg h]

theorem stepR_and_rd {i : Nat} {o : Oper} (ho : ops[i]? = some o) (hr : isRd o.op = true) {K K' : Rho → List Deferred → Hp → Prop} {ρ : Rho} {ds : List Deferred} {σ : Hp} (h : stepR E N ops Q i K ρ ds σ) (h' : stepR E N ops Q i K' ρ ds σ) :
    stepR E N ops Q i (fun ρ ds σ => K ρ ds σ ∧ K' ρ ds σ) ρ ds σ := by
  unfold stepR at *
  rw [ho] at *
  refine ⟨h.1, ?_⟩
  have h2 := h.2
  have h2' := h'.2
  split
  · rename_i hw
    rw [if_pos hw, if_pos hr] at h2 h2'
    obtain ⟨v, e, k⟩ := h2
    obtain ⟨v', e', k'⟩ := h2'
    rw [e] at e'
    obtain rfl := Option.some.inj e'
    exact ⟨v, e, k, k'⟩
  · rename_i hw
    rw [if_neg hw] at h2 h2'
    exact ⟨h2, h2'⟩

/-- Once u is listed, that v waits for it is idle. -/
theorem any_met : ∀ (fuel : Nat) (listed : Array Bool) (ρ : Rho) (ds : List Deferred) (σ : Hp), listed.getD u false = true → wpAnyR E N (addE ops v u) Q fuel listed ρ ds σ → wpAnyR E N ops Q fuel listed ρ ds σ := by
  have hr : ∀ (listed : Array Bool), listed.getD u false = true → ∀ i, i ∈ Region.ready .any ops listed → i ∈ Region.ready .any (addE ops v u) listed := fun listed hv i hi => ready_addE.2 ⟨hi, fun _ => hv⟩
  have hr0 : ∀ (listed : Array Bool), Region.ready .any ops listed = [] → Region.ready .any (addE ops v u) listed = [] := by
    intro listed h
    cases e : Region.ready .any (addE ops v u) listed with
    | nil => rfl
    | cons i t =>
      have : i ∈ Region.ready .any (addE ops v u) listed := by rw [e]; simp
      have := (ready_addE.1 this).1
      rw [h] at this; cases this
  have hset : ∀ (listed : Array Bool) (i : Nat), listed.getD u false = true → (listed.setIfInBounds i true).getD u false = true := by
    intro listed i h
    simp only [Array.getD_eq_getD_getElem?] at *
    rw [Array.getElem?_setIfInBounds]
    by_cases e : i = u
    · subst e
      by_cases hb : i < listed.size
      · simp [hb]
      · rw [Array.getElem?_eq_none (by omega)] at h; cases h
    · simp only [if_neg e]; exact h
  intro fuel
  induction fuel with
  | zero =>
    intro listed ρ ds σ hv h
    refine ⟨?_, h.2⟩
    cases e : Region.ready .any ops listed with
    | nil => rfl
    | cons i t =>
      have : i ∈ Region.ready .any ops listed := by rw [e]; simp
      have := hr listed hv i this
      rw [h.1] at this; cases this
  | succ fuel ih =>
    intro listed ρ ds σ hv h
    refine ⟨fun h0 => h.1 (hr0 listed h0), fun i hi => ?_⟩
    exact stepR_mono (fun ρ ds σ => ih _ ρ ds σ (hset listed i hv)) (stepR_addE.1 (h.2 i (hr listed hv i hi)))

/-- Both orders. -/
theorem two_orders (huv : u ≠ v) (hu : u < ops.size) (hv : v < ops.size) (hcond : ∀ i, i < ops.size → rdAt ops i = true ∨ i = u ∨ i = v ∨ anc ops i u = true) :
    ∀ (fuel : Nat) (listed : Array Bool) (ρ : Rho) (ds : List Deferred) (σ : Hp), listed.size = ops.size → (∀ a b, listed.getD a false = true → anc ops a b = true → listed.getD b false = true) → listed.getD u true = false → listed.getD v true = false →
      wpAnyR E N (addE ops v u) Q fuel listed ρ ds σ → wpAnyR E N (addE ops u v) Q fuel listed ρ ds σ → wpAnyR E N ops Q fuel listed ρ ds σ := by
  have hgd : ∀ (listed : Array Bool) (i : Nat), i < listed.size → listed.getD i true = listed.getD i false := by
    intro listed i h
    simp [Array.getD_eq_getD_getElem?, Array.getElem?_eq_getElem h]
  intro fuel
  induction fuel with
  | zero =>
    intro listed ρ ds σ hsz hdn hlu hlv h1 h2
    refine ⟨?_, h1.2⟩
    cases e : Region.ready .any ops listed with
    | nil => rfl
    | cons i t =>
      exfalso
      have hm : i ∈ Region.ready .any ops listed := by rw [e]; simp
      by_cases hi : i = v
      · have : i ∈ Region.ready .any (addE ops u v) listed := ready_addE.2 ⟨hm, fun e => absurd (e.symm.trans hi) huv⟩
        rw [h2.1] at this; cases this
      · have : i ∈ Region.ready .any (addE ops v u) listed := ready_addE.2 ⟨hm, fun e => absurd e hi⟩
        rw [h1.1] at this; cases this
  | succ fuel ih =>
    intro listed ρ ds σ hsz hdn hlu hlv h1 h2
    refine ⟨fun h0 => h1.1 ?_, fun i hi => ?_⟩
    · cases e : Region.ready .any (addE ops v u) listed with
      | nil => rfl
      | cons i t =>
        have : i ∈ Region.ready .any (addE ops v u) listed := by rw [e]; simp
        have := (ready_addE.1 this).1
        rw [h0] at this; cases this
    · have hset : ∀ k, k < listed.size → (listed.setIfInBounds k true).getD k true = true := by
        intro k hk
        simp [Array.getD_eq_getD_getElem?, hk]
      by_cases hiv : i = v
      · subst hiv
        have hm : i ∈ Region.ready .any (addE ops u i) listed := ready_addE.2 ⟨hi, fun e => absurd e.symm huv⟩
        have := stepR_addE.1 (h2.2 i hm)
        refine stepR_mono (fun ρ ds σ hk => ?_) this
        refine any_met _ _ _ _ _ ?_ hk
        simp [Array.getD_eq_getD_getElem?, hsz, hv]
      · by_cases hiu : i = u
        · subst hiu
          have hm : i ∈ Region.ready .any (addE ops v i) listed := ready_addE.2 ⟨hi, fun e => absurd e huv⟩
          have := stepR_addE.1 (h1.2 i hm)
          refine stepR_mono (fun ρ ds σ hk => ?_) this
          refine any_met _ _ _ _ _ ?_ hk
          simp [Array.getD_eq_getD_getElem?, hsz, hu]
        · have m1 : i ∈ Region.ready .any (addE ops v u) listed := ready_addE.2 ⟨hi, fun e => absurd e hiv⟩
          have m2 : i ∈ Region.ready .any (addE ops u v) listed := ready_addE.2 ⟨hi, fun e => absurd e hiu⟩
          have s1 := stepR_addE.1 (h1.2 i m1)
          have s2 := stepR_addE.1 (h2.2 i m2)
          obtain ⟨hl0, o, ho, hdeps⟩ := mem_ready.1 hi
          have hil : i < ops.size := (Array.getElem?_eq_some_iff.1 ho).1
          have hanc : ∀ j, anc ops i j = true → listed.getD j false = true := fun j hj => ready_anc hdn ho hdeps hj
          have hrd : isRd o.op = true := by
            rcases hcond i hil with h | h | h | h
            · unfold rdAt at h; rw [ho] at h; exact h
            · exact absurd h hiu
            · exact absurd h hiv
            · have := hanc u h
              rw [← hgd listed u (by omega), hlu] at this; cases this
          have hother : ∀ (d : Bool) k, k ≠ i → (listed.setIfInBounds i true).getD k d = listed.getD k d := by
            intro d k hk
            simp [Array.getD_eq_getD_getElem?, Array.getElem?_setIfInBounds_ne (Ne.symm hk)]
          have hself : (listed.setIfInBounds i true).getD i false = true := by
            simp [Array.getD_eq_getD_getElem?, hsz, hil]
          refine stepR_mono (fun ρ ds σ hk => ih _ _ _ _ (by simpa using hsz) ?_ ?_ ?_ hk.1 hk.2) (stepR_and_rd ho hrd s1 s2)
          · intro a b ha hab
            by_cases e : b = i
            · subst e; exact hself
            · rw [hother false b e]
              by_cases e' : a = i
              · subst e'; exact hanc b hab
              · rw [hother false a e'] at ha; exact hdn a b ha hab
          · rw [hother true u (Ne.symm hiu)]; exact hlu
          · rw [hother true v (Ne.symm hiv)]; exact hlv

theorem draw_any {l : List Nat} {pn : List PanicEntry → List Deferred → Hp → Prop} {ρ : Rho} {ds : List Deferred} {σ : Hp} (hc : chkD ops l = true) (hpn : ∀ ch ρ ds σ, pn ch ds σ → Q (.panic ch) ρ ds σ) (h : wpD E N ops Q pn l [] ρ ds σ) :
    wpAnyR E N ops Q ops.size (Array.replicate ops.size false) ρ ds σ := by
  have G := good_of hc
  have e0 : sl ops ρ (fun _ => none) = ρ := by funext t; exact sl_none (fun _ _ => rfl)
  have hl0 : ∀ i, (Array.replicate ops.size false).getD i false = false := fun i => by
    rw [Array.getD_eq_getD_getElem?, Array.getElem?_replicate]; split <;> rfl
  have I : InvD E N ops Q pn ρ l (Array.replicate ops.size false) [] l [] (fun _ => none) ds σ := by
    refine ⟨by simp, rfl, fun i hi => (by rw [hl0] at hi; cases hi), fun i hi => (by cases hi), fun _ _ => rfl, fun i hi => (by cases hi), fun i j hi => (by rw [hl0] at hi; cases hi), fun r hr => (by cases hr), (by rw [e0]; exact h)⟩
  obtain ⟨pre', rest', pend', vals', I', _, hh⟩ := advance G _ _ _ _ I
  have := any_of_inv G hpn ops.size _ _ _ _ _ _ _ (by unfold unl; exact Nat.le_trans List.countP_le_length (by simp)) I' hh
  have e1 : sl ops ρ (fun i => if (Array.replicate ops.size false).getD i false = true then vals' i else none) = ρ := by
    funext t; exact sl_none (fun i _ => by rw [hl0]; rfl)
  rw [e1] at this
  exact this

/-- A region in which u and v may come in either order: reckoned in both. -/
theorem wpC_draw2 {id : Nat} {ρ : Rho} {ds : List Deferred} {σ : Hp} (u v : Nat) (l1 l2 : List Nat) (pn : List PanicEntry → List Deferred → Hp → Prop) (hm : P.follows .mixedOrders = true)
    (hc : (chkD (addE ops v u) l1 && chkD (addE ops u v) l2 && (u != v) && decide (u < ops.size) && decide (v < ops.size) && (List.range ops.size).all fun i => rdAt ops i || i == u || i == v || anc ops i u) = true)
    (hpn : ∀ ch ρ ds σ, pn ch ds σ → Q (.panic ch) ρ ds σ) (h1 : wpD E N (addE ops v u) Q pn l1 [] ρ ds σ) (h2 : wpD E N (addE ops u v) Q pn l2 [] ρ ds σ) : wpC E N (.region id ops true) Q ρ ds σ := by
  intro t
  simp only [Bool.and_eq_true, List.all_eq_true, List.mem_range, Bool.or_eq_true, bne_iff_ne, ne_eq, decide_eq_true_eq, beq_iff_eq] at hc
  obtain ⟨⟨⟨⟨⟨c1, c2⟩, c3⟩, c4⟩, c5⟩, c6⟩ := hc
  have hl0 : ∀ (n i : Nat), (Array.replicate n false).getD i false = false := fun n i => by
    rw [Array.getD_eq_getD_getElem?, Array.getElem?_replicate]; split <;> rfl
  have a1 := draw_any (E := E) (N := N) c1 hpn h1
  have a2 := draw_any (E := E) (N := N) c2 hpn h2
  rw [addE_size] at a1 a2
  have := two_orders c3 c4 c5 (fun i hi => by rcases c6 i hi with ((h | h) | h) | h <;> simp [h]) ops.size (Array.replicate ops.size false) ρ ds σ (by simp) (fun a b ha => by rw [hl0] at ha; cases ha) (by simp [Array.getD_eq_getD_getElem?, c4]) (by simp [Array.getD_eq_getD_getElem?, c5]) a1 a2
  simp only [Region.schedule, hm, Bool.true_or, if_true]
  exact wpAnyR_sound _ t _ _ _ _ this
end
end Go.Qw
