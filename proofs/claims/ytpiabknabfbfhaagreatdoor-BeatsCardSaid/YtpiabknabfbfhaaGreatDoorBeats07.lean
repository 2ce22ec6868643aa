/- The law Beats of queuewire returns true for every three integers: the row over the given program, tied to its text; no condition besides. (Part 7 of 40: QwStr QwRule QwMore QwApp.) -/
import Derived.Test.YtpiabknabfbfhaaGreatDoorBeats06
set_option linter.all false
-- Texts as lists of bytes; operations on texts, and code, as rewriting rules.
namespace Go.Qw
open Go Go.Conc

/-- The text of these bytes. -/
def B (l : List UInt8) : ByteArray := ⟨l.toArray⟩
theorem mk_B (l : List UInt8) : (⟨l.toArray⟩ : ByteArray) = B l := _root_.id rfl
theorem mk_B0 : (⟨#[]⟩ : ByteArray) = B [] := _root_.id rfl
theorem B_data (l : List UInt8) : (B l).data = l.toArray := _root_.id rfl
theorem size_B (l : List UInt8) : (B l).size = l.length := by
  show l.toArray.size = _
  simp
theorem toList_loop (b : ByteArray) : ∀ (n i : Nat) (r : List UInt8), b.size - i = n → ByteArray.toList.loop b i r = r.reverse ++ b.data.toList.drop i := by
  intro n
  induction n with
  | zero =>
    intro i r h
    unfold ByteArray.toList.loop
    have : ¬ i < b.size := by omega
    rw [if_neg this]
    have : b.data.toList.length ≤ i := by
      have h2 : b.data.toList.length = b.size := rfl
      omega
    simp [List.drop_eq_nil_of_le this]
  | succ n ih =>
    intro i r h
    unfold ByteArray.toList.loop
    have hlt : i < b.size := by omega
    rw [if_pos hlt, ih (i + 1) _ (by omega)]
    have hl : i < b.data.toList.length := hlt
    rw [List.drop_eq_getElem_cons hl]
    have : b.get! i = b.data.toList[i] := by
      have h2 : i < b.data.size := by simpa using hl
      show b.data[i]! = _
      rw [getElem!_pos b.data i h2]; simp
    simp [this]
theorem toList_B (l : List UInt8) : (B l).toList = l := by
  unfold ByteArray.toList
  rw [toList_loop (B l) _ 0 [] rfl]
  simp [B]
theorem B_append (a b : List UInt8) : B a ++ B b = B (a ++ b) := by
  apply ByteArray.ext
  simp [B]
theorem B_extract (l : List UInt8) (i j : Nat) : (B l).extract i j = B ((l.drop i).take (j - i)) := by
  apply ByteArray.ext
  simp [B, List.extract_eq_take_drop]

/-! ### words -/
def chkP (p q : Prop) : Prop := p ∧ q
@[congr] theorem chkP_congr {p p' q : Prop} (h : tick p = p') : chkP p q = chkP p' q := by subst h; rfl
theorem chkP_true {q : Prop} : chkP True q = q := by simp [chkP]
def iteQ (c p q : Prop) : Prop := (c → p) ∧ (¬ c → q)
@[congr] theorem iteQ_congr {c c' p q : Prop} (h : tick c = c') : iteQ c p q = iteQ c' p q := by subst h; rfl
theorem iteQ_true {p q : Prop} : iteQ True p q = p := by simp [iteQ]
theorem iteQ_false {p q : Prop} : iteQ False p q = q := by simp [iteQ]
theorem pickQ_intro {b : Bool} {p q : Prop} (h : b = true → p) (k : b = false → q) : pickQ p q (.bool b) := by
  cases b
  · exact k rfl
  · exact h rfl
/-- A value that there is on a condition. -/
noncomputable def condO (c : Prop) (v : Value) : Option Value := open Classical in if c then some v else none
theorem orQ_condO {p : Prop} {k : Value → Prop} {c : Prop} {v : Value} : orQ p k (condO c v) = iteQ c (k v) p := by
  unfold condO iteQ
  by_cases h : c <;> simp [h, orQ]

theorem beq_dec (s t : List UInt8) : (s == t) = decide (s = t) := by
  by_cases h : s = t <;> simp [h]

/-! ### binary operations -/
def shlZ (k : IntKind) (a b : Int) : Int := k.wrap (a * 2 ^ (min b.toNat k.bits))
def shrZ (k : IntKind) (a b : Int) : Int := a.fdiv (2 ^ (min b.toNat k.bits))
def orZ (k : IntKind) (a b : Int) : Int := k.wrap ((BitVec.ofInt k.bits a ||| BitVec.ofInt k.bits b).toNat)
def andZ (k : IntKind) (a b : Int) : Int := k.wrap ((BitVec.ofInt k.bits a &&& BitVec.ofInt k.bits b).toNat)
def xorZ (k : IntKind) (a b : Int) : Int := k.wrap ((BitVec.ofInt k.bits a ^^^ BitVec.ofInt k.bits b).toNat)
section
variable {k : IntKind} {a b : Int} {s t : List UInt8}
theorem bv_add : binV .add (.int k a) (.int k b) = some (.int k (k.wrap (a + b))) := by simp [binV]
theorem bv_sub : binV .sub (.int k a) (.int k b) = some (.int k (k.wrap (a - b))) := by simp [binV]
theorem bv_mul : binV .mul (.int k a) (.int k b) = some (.int k (k.wrap (a * b))) := by simp [binV]
theorem bv_quo : binV .quo (.int k a) (.int k b) = condO (b ≠ 0) (.int k (k.wrap (a.tdiv b))) := by simp [binV, condO]
theorem bv_rem : binV .rem (.int k a) (.int k b) = condO (b ≠ 0) (.int k (a.tmod b)) := by simp [binV, condO]
theorem bv_eql : binV .eql (.int k a) (.int k b) = some (.bool (decide (a = b))) := by simp [binV]; rfl
theorem bv_neq : binV .neq (.int k a) (.int k b) = some (.bool (decide (a ≠ b))) := by simp [binV, bne]; rfl
theorem bv_lss : binV .lss (.int k a) (.int k b) = some (.bool (decide (a < b))) := by simp [binV]
theorem bv_leq : binV .leq (.int k a) (.int k b) = some (.bool (decide (a ≤ b))) := by simp [binV]
theorem bv_gtr : binV .gtr (.int k a) (.int k b) = some (.bool (decide (b < a))) := by simp [binV]
theorem bv_geq : binV .geq (.int k a) (.int k b) = some (.bool (decide (b ≤ a))) := by simp [binV]
theorem bv_shl {j : IntKind} : binV .shl (.int k a) (.int j b) = condO (0 ≤ b) (.int k (shlZ k a b)) := by simp [binV, condO, shlZ]
theorem bv_shr {j : IntKind} : binV .shr (.int k a) (.int j b) = condO (0 ≤ b) (.int k (shrZ k a b)) := by simp [binV, condO, shrZ]
theorem bv_or : binV .or (.int k a) (.int k b) = some (.int k (orZ k a b)) := by simp [binV, orZ]
theorem bv_and : binV .and (.int k a) (.int k b) = some (.int k (andZ k a b)) := by simp [binV, andZ]
theorem bv_xor : binV .xor (.int k a) (.int k b) = some (.int k (xorZ k a b)) := by simp [binV, xorZ]
theorem bv_cat : binV .add (.string (B s)) (.string (B t)) = condO (s.length + t.length ≤ 9223372036854775807) (.string (B (s ++ t))) := by
  simp only [binV, size_B, condO, B_append]
  by_cases h : s.length + t.length ≤ 9223372036854775807
  · rw [if_pos (by omega), if_pos h]
  · rw [if_neg (by omega), if_neg h]
theorem bv_seql : binV .eql (.string (B s)) (.string (B t)) = some (.bool (decide (s = t))) := by simp [binV, toList_B, beq_dec]
theorem bv_sneq : binV .neq (.string (B s)) (.string (B t)) = some (.bool (decide (s ≠ t))) := by simp [binV, toList_B, beq_dec]
theorem bv_slss : binV .lss (.string (B s)) (.string (B t)) = some (.bool (Op.bytesLess s t)) := by simp [binV, toList_B]
theorem bv_sgtr : binV .gtr (.string (B s)) (.string (B t)) = some (.bool !(Op.bytesLess s t || decide (s = t))) := by simp [binV, toList_B, beq_dec]
/-- What 'binV' says nothing of. -/
theorem bv_pp {op : BinOp} {x y : Option Addr} : binV op (.pointer x) (.pointer y) = none := by cases op <;> rfl
theorem bv_bb {op : BinOp} {x y : Bool} : binV op (.bool x) (.bool y) = none := by cases op <;> rfl
theorem bv_nn {op : BinOp} : binV op .nilIface .nilIface = none := by cases op <;> rfl
theorem bv_ni {op : BinOp} {u : TypeId} {v : Value} : binV op .nilIface (.iface u v) = none := by cases op <;> rfl
theorem bv_in {op : BinOp} {u : TypeId} {v : Value} : binV op (.iface u v) .nilIface = none := by cases op <;> rfl
theorem bv_ii {op : BinOp} {u u' : TypeId} {v v' : Value} : binV op (.iface u v) (.iface u' v') = none := by cases op <;> rfl
variable {P : Program} {ty e : TypeId} {x y : Operand}
def ptrT (P : Program) (t : TypeId) : Bool := match P.underlying t with | some (.pointer _) => true | _ => false
def ifcT (P : Program) (t : TypeId) : Bool := match P.underlying t with | some (.interface _) => true | _ => false
def boolT (P : Program) (t : TypeId) : Bool := match P.underlying t with | some .bool => true | _ => false
theorem ptrT_e (h : ptrT P ty = true) : ∃ e, P.underlying ty = some (.pointer e) := by unfold ptrT at h; split at h <;> first | exact ⟨_, by assumption⟩ | cases h
theorem ifcT_e (h : ifcT P ty = true) : ∃ e, P.underlying ty = some (.interface e) := by unfold ifcT at h; split at h <;> first | exact ⟨_, by assumption⟩ | cases h
theorem boolT_e (h : boolT P ty = true) : P.underlying ty = some .bool := by unfold boolT at h; split at h <;> first | assumption | cases h
theorem nv_pn {a : Addr} (h : ptrT P ty = true) : nilV P .eql ty (.pointer (some a)) (.pointer none) = some (.bool false) := by obtain ⟨e, he⟩ := ptrT_e h; simp [nilV, he]
theorem nv_np {a : Addr} (h : ptrT P ty = true) : nilV P .eql ty (.pointer none) (.pointer (some a)) = some (.bool false) := by obtain ⟨e, he⟩ := ptrT_e h; simp [nilV, he]
theorem nv_nn (h : ptrT P ty = true) : nilV P .eql ty (.pointer none) (.pointer none) = some (.bool true) := by obtain ⟨e, he⟩ := ptrT_e h; simp [nilV, he]
theorem nn_pn {a : Addr} (h : ptrT P ty = true) : nilV P .neq ty (.pointer (some a)) (.pointer none) = some (.bool true) := by obtain ⟨e, he⟩ := ptrT_e h; simp [nilV, he]
theorem nn_np {a : Addr} (h : ptrT P ty = true) : nilV P .neq ty (.pointer none) (.pointer (some a)) = some (.bool true) := by obtain ⟨e, he⟩ := ptrT_e h; simp [nilV, he]
theorem nn_nn (h : ptrT P ty = true) : nilV P .neq ty (.pointer none) (.pointer none) = some (.bool false) := by obtain ⟨e, he⟩ := ptrT_e h; simp [nilV, he]
theorem nv_bb {a b : Bool} (h : boolT P ty = true) : nilV P .eql ty (.bool a) (.bool b) = some (.bool (decide (a = b))) := by simp [nilV, boolT_e h]; cases a <;> cases b <;> rfl
theorem nn_bb {a b : Bool} (h : boolT P ty = true) : nilV P .neq ty (.bool a) (.bool b) = some (.bool (decide (a ≠ b))) := by simp [nilV, boolT_e h]; cases a <;> cases b <;> rfl
theorem nv_in {u : TypeId} {v : Value} (h : ifcT P ty = true) : nilV P .eql ty (.iface u v) .nilIface = some (.bool false) := by obtain ⟨e, he⟩ := ifcT_e h; simp [nilV, he]
theorem nv_ni {u : TypeId} {v : Value} (h : ifcT P ty = true) : nilV P .eql ty .nilIface (.iface u v) = some (.bool false) := by obtain ⟨e, he⟩ := ifcT_e h; simp [nilV, he]
theorem nn_in {u : TypeId} {v : Value} (h : ifcT P ty = true) : nilV P .neq ty (.iface u v) .nilIface = some (.bool true) := by obtain ⟨e, he⟩ := ifcT_e h; simp [nilV, he]
theorem nn_ni {u : TypeId} {v : Value} (h : ifcT P ty = true) : nilV P .neq ty .nilIface (.iface u v) = some (.bool true) := by obtain ⟨e, he⟩ := ifcT_e h; simp [nilV, he]
theorem nv_ii {op : BinOp} : nilV P op ty .nilIface .nilIface = none := by unfold nilV; cases op <;> cases P.underlying ty <;> first | rfl | (rename_i d; cases d <;> rfl)
theorem nl_eq (h : ifcT P ty = true) (hc : (Region.isConst x || Region.isConst y) = true) : nilNil P .eql ty x y .nilIface .nilIface = some (.bool true) := by obtain ⟨e, he⟩ := ifcT_e h; simp only [nilNil, he, hc, if_true]
theorem nl_ne (h : ifcT P ty = true) (hc : (Region.isConst x || Region.isConst y) = true) : nilNil P .neq ty x y .nilIface .nilIface = some (.bool false) := by obtain ⟨e, he⟩ := ifcT_e h; simp only [nilNil, he, hc, if_true]
theorem uv_not {b : Bool} : unV .not (.bool b) = some (.bool !b) := _root_.id rfl
theorem uv_neg : unV .neg (.int k a) = some (.int k (k.wrap (0 - a))) := _root_.id rfl
def intT (P : Program) (t : TypeId) : Option IntKind := match P.underlying t with | some (.int k) => some k | _ => none
def strT (P : Program) (t : TypeId) : Bool := match P.underlying t with | some .string => true | _ => false
def isU (P : Program) (t : TypeId) : Bool := (P.underlying t).isSome
theorem cv_int {s d : TypeId} {j : IntKind} (hs : isU P s = true) (hd : intT P d = some k) : convV P s d (.int j a) = some (.int k (k.wrap a)) := by
  unfold isU at hs; obtain ⟨u, hu⟩ := Option.isSome_iff_exists.1 hs
  have : P.underlying d = some (.int k) := by unfold intT at hd; split at hd <;> first | (cases hd; assumption) | cases hd
  simp [convV, hu, this]
theorem strT_e (h : strT P ty = true) : P.underlying ty = some .string := by unfold strT at h; split at h <;> first | assumption | cases h
theorem cv_str {s d : TypeId} {t : List UInt8} (hs : isU P s = true) (hd : strT P d = true) : convV P s d (.string (B t)) = some (.string (B t)) := by
  unfold isU at hs; obtain ⟨u, hu⟩ := Option.isSome_iff_exists.1 hs
  simp [convV, hu, strT_e hd]
end
end Go.Qw
-- Code as rewriting rules; the rules bundled.
namespace Go.Qw
open Go Go.Conc

/-- Numbers and texts converted, by the target's kind. -/
def kindT (P : Program) (s d : TypeId) : Option IntKind := if isU P s then intT P d else none

section
variable {P : Program} {E : Env P} {N : Nat} {ops : Array Oper} {Q : Post} {rest : List Oper} {ρ : Rho} {ds : List Deferred} {σ : Hp} {dst : Option Tmp} {ty : TypeId} {pos : String} {af : Array Edge} {g : Option (Nat × Bool)} {nx : Rho → List Deferred → Hp → Prop} {pn : List PanicEntry → Hp → Prop}

/-! ### code -/
theorem c_seq {x y : Code} : wpC E N (.seq x y) Q ρ ds σ = wpC E N x (thenQ (wpC E N y Q) Q) ρ ds σ := _root_.id rfl
theorem c_region {id : Nat} {l : List Oper} : wpC E N (.region id l.toArray false) Q ρ ds σ = wpL E N l.toArray Q l ρ ds σ := _root_.id rfl
theorem c_skip : wpC E N .skip Q ρ ds σ = Q .normal ρ ds σ := _root_.id rfl
theorem c_label {l : Nat} : wpC E N (.label l) Q ρ ds σ = Q .normal ρ ds σ := _root_.id rfl
theorem c_ret : wpC E N .ret Q ρ ds σ = Q .ret ρ ds σ := _root_.id rfl
theorem c_exit {id : Nat} : wpC E N (.exit id) Q ρ ds σ = Q (.exit id) ρ ds σ := _root_.id rfl
theorem c_block {id : Nat} {c : Code} : wpC E N (.block id c) Q ρ ds σ = wpC E N c (blockQ id Q) ρ ds σ := _root_.id rfl
theorem c_cond {x : Operand} {a b : Code} : wpC E N (.cond x a b) Q ρ ds σ = pickQ (wpC E N a Q ρ ds σ) (wpC E N b Q ρ ds σ) (evR ρ x) := by
  simp only [wpC]
  unfold pickQ
  generalize evR ρ x = v
  cases v <;> first | rfl | (rename_i t; cases t <;> rfl)
theorem t_normal {ρ' : Rho} : thenQ nx Q .normal ρ' ds σ = nx ρ' ds σ := _root_.id rfl
theorem t_exit {id : Nat} : thenQ nx Q (.exit id) ρ ds σ = Q (.exit id) ρ ds σ := _root_.id rfl
theorem t_ret : thenQ nx Q .ret ρ ds σ = Q .ret ρ ds σ := _root_.id rfl
theorem t_panic {ch : List PanicEntry} : thenQ nx Q (.panic ch) ρ ds σ = Q (.panic ch) ρ ds σ := _root_.id rfl
theorem b_normal {id : Nat} : blockQ id Q .normal ρ ds σ = Q .normal ρ ds σ := _root_.id rfl
theorem b_ret {id : Nat} : blockQ id Q .ret ρ ds σ = Q .ret ρ ds σ := _root_.id rfl
theorem b_panic {id : Nat} {ch : List PanicEntry} : blockQ id Q (.panic ch) ρ ds σ = Q (.panic ch) ρ ds σ := _root_.id rfl
theorem b_exit {id : Nat} : blockQ id Q (.exit id) ρ ds σ = Q .normal ρ ds σ := by simp [blockQ]
theorem b_exit_ne {id i : Nat} (h : (i == id) = false) : blockQ id Q (.exit i) ρ ds σ = Q (.exit i) ρ ds σ := by
  have : ¬ i = id := by simpa using h
  simp [blockQ, this]
@[congr] theorem thenQ_congr {e : Ex} {n₀ : Nat} (_ : tick 0 = n₀) : thenQ nx Q e ρ ds σ = thenQ nx Q e ρ ds σ := rfl
@[congr] theorem blockQ_congr {e : Ex} {id : Nat} {n₀ : Nat} (_ : tick 0 = n₀) : blockQ id Q e ρ ds σ = blockQ id Q e ρ ds σ := rfl

/-! ### slices -/
def elemSz (P : Program) (t : TypeId) : Option Nat := match sliceElem P t with
  | some e => (P.info? e).map (·.size)
  | none => none
theorem elemSz_e {t : TypeId} {z : Nat} (h : elemSz P t = some z) : ∃ e, sliceElem P t = some e ∧ (P.info? e).isSome = true ∧ sizeT P e = z := by
  unfold elemSz at h
  split at h
  · rename_i e he
    obtain ⟨i, hi, rfl⟩ := Option.map_eq_some_iff.1 h
    exact ⟨e, he, by simp [hi], by simp [sizeT, hi]⟩
  · cases h
def ixQ (p : Prop) (z : Nat) (k : Value → Prop) (i : Value) (x : Value) : Prop :=
  match x, i with
  | .slice (some a) n _, .int _ j => chkP (0 ≤ j ∧ j < n) (k (.pointer (some (a.add (j.toNat * z)))))
  | _, _ => p
@[congr] theorem ixQ_congr {p : Prop} {z : Nat} {k : Value → Prop} {i i' x x' : Value} (hi : tick i = i') (hx : tick x = x') : ixQ p z k i x = ixQ p z k i' x' := by subst hi; subst hx; rfl
theorem ixQ_slice {p : Prop} {z : Nat} {k : Value → Prop} {kk : IntKind} {j : Int} {b off n c : Nat} : ixQ p z k (.int kk j) (.slice (some ⟨b, off, none⟩) n c) = chkP (0 ≤ j ∧ j < n) (k (.pointer (some ⟨b, off + j.toNat * z, none⟩))) := by
  simp only [ixQ, add_off]
theorem q_indexAddr {t : TypeId} {x i : Operand} {z : Nat} (h : elemSz P t = some z) : opQ E ⟨dst, .indexAddr t x i, ty, pos, af, g⟩ ρ ds σ nx pn =
    ixQ (wpOp E ⟨dst, .indexAddr t x i, ty, pos, af, g⟩ ρ ds σ nx pn) z (fun v => nx (putR ρ dst v) ds σ) (evR ρ i) (evR ρ x) := by
  obtain ⟨e, he, hs, hz⟩ := elemSz_e h
  subst hz
  simp only [opQ]
  unfold ixQ
  generalize evR ρ x = vx
  generalize evR ρ i = vi
  rw [he]
  cases vx with
  | slice a n c =>
    cases a with
    | none => cases vi <;> rfl
    | some a =>
      cases vi with
      | int kk j => simp only [hs, and_true, chkP]
      | _ => rfl
  | _ => cases vi <;> rfl
/-- The i-th byte. -/
def byteAt (l : List UInt8) (i : Nat) : Int := ((l.getD i 0).toNat : Int)
def bxQ (p : Prop) (k : Value → Prop) (i : Value) (x : Value) : Prop :=
  match x, i with
  | .string s, .int _ j => ∃ h : 0 ≤ j ∧ j.toNat < s.size, k (.int .u8 (s[j.toNat]'h.2).toNat)
  | _, _ => p
@[congr] theorem bxQ_congr {p : Prop} {k : Value → Prop} {i i' x x' : Value} (hi : tick i = i') (hx : tick x = x') : bxQ p k i x = bxQ p k i' x' := by subst hi; subst hx; rfl
theorem bxQ_str {p : Prop} {k : Value → Prop} {kk : IntKind} {j : Int} {l : List UInt8} : bxQ p k (.int kk j) (.string (B l)) = chkP (0 ≤ j ∧ j < l.length) (k (.int .u8 (byteAt l j.toNat))) := by
  simp only [bxQ, chkP, eq_iff_iff]
  have e : ∀ h : j.toNat < (B l).size, (B l)[j.toNat]'h = l.getD j.toNat 0 := by
    intro h
    have hk : j.toNat < l.length := by rw [size_B] at h; exact h
    have : (B l)[j.toNat]'h = l[j.toNat]'hk := by
      show (B l).data[j.toNat] = _
      simp [B]
    rw [this, List.getD_eq_getElem?_getD, List.getElem?_eq_getElem hk, Option.getD_some]
  constructor
  · rintro ⟨h, k1⟩
    rw [e] at k1
    have := h.2
    rw [size_B] at this
    exact ⟨⟨h.1, by omega⟩, k1⟩
  · rintro ⟨h, k1⟩
    have h2 : j.toNat < (B l).size := by rw [size_B]; omega
    exact ⟨⟨h.1, h2⟩, by rw [e]; exact k1⟩
theorem q_index {t : TypeId} {x i : Operand} (h : strT P t = true) : opQ E ⟨dst, .index t x i, ty, pos, af, g⟩ ρ ds σ nx pn =
    bxQ (wpOp E ⟨dst, .index t x i, ty, pos, af, g⟩ ρ ds σ nx pn) (fun v => nx (putR ρ dst v) ds σ) (evR ρ i) (evR ρ x) := by
  simp only [opQ, strT_e h]
  unfold bxQ
  generalize evR ρ x = vx
  generalize evR ρ i = vi
  cases vx <;> cases vi <;> rfl

/-! slicing -/
def loQ (k : Int → Prop) : Option Value → Prop
  | none => k 0
  | some (.int _ i) => k i
  | _ => False
@[congr] theorem loQ_congr {k : Int → Prop} {a a' : Option Value} (h : tick a = a') : loQ k a = loQ k a' := by subst h; rfl
theorem loQ_none {k : Int → Prop} : loQ k none = k 0 := _root_.id rfl
theorem loQ_some {k : Int → Prop} {kk : IntKind} {i : Int} : loQ k (some (.int kk i)) = k i := _root_.id rfl
def hiQ (n : Nat) (k : Int → Prop) : Option Value → Prop
  | none => k n
  | some (.int _ i) => k i
  | _ => False
@[congr] theorem hiQ_congr {n : Nat} {k : Int → Prop} {a a' : Option Value} (h : tick a = a') : hiQ n k a = hiQ n k a' := by subst h; rfl
theorem hiQ_none {n : Nat} {k : Int → Prop} : hiQ n k none = k n := _root_.id rfl
theorem hiQ_some {n : Nat} {k : Int → Prop} {kk : IntKind} {i : Int} : hiQ n k (some (.int kk i)) = k i := _root_.id rfl
def ssQ (p : Prop) (k : Value → Prop) (lo hi : Option Value) : Value → Prop
  | .string s => loQ (fun l => hiQ s.size (fun h => chkP (0 ≤ l ∧ l ≤ h ∧ h ≤ s.size) (k (.string (s.extract l.toNat h.toNat)))) hi) lo
  | _ => p
@[congr] theorem ssQ_congr {p : Prop} {k : Value → Prop} {lo hi : Option Value} {x x' : Value} (h : tick x = x') : ssQ p k lo hi x = ssQ p k lo hi x' := by subst h; rfl
theorem ssQ_str {p : Prop} {k : Value → Prop} {lo hi : Option Value} {s : List UInt8} : ssQ p k lo hi (.string (B s)) =
    loQ (fun l => hiQ s.length (fun h => chkP (0 ≤ l ∧ l ≤ h ∧ h ≤ s.length) (k (.string (B ((s.drop l.toNat).take (h.toNat - l.toNat)))))) hi) lo := by
  show loQ (fun l => hiQ (B s).size (fun h => chkP (0 ≤ l ∧ l ≤ h ∧ h ≤ (B s).size) (k (.string ((B s).extract l.toNat h.toNat)))) hi) lo = _
  rw [size_B]
  congr 1; funext l; congr 1; funext h; rw [B_extract]
theorem q_slice_str {t : TypeId} {x : Operand} {lo hi : Option Operand} (h : strT P t = true) : opQ E ⟨dst, .slice t x lo hi none, ty, pos, af, g⟩ ρ ds σ nx pn =
    ssQ (wpOp E ⟨dst, .slice t x lo hi none, ty, pos, af, g⟩ ρ ds σ nx pn) (fun v => nx (putR ρ dst v) ds σ) (lo.map (evR ρ)) (hi.map (evR ρ)) (evR ρ x) := by
  simp only [opQ, strT_e h]
  generalize evR ρ x = vx
  cases vx with
  | string s =>
    simp only [ssQ, chkP]
    cases lo with
    | none =>
      simp only [Option.map_none, sliceLo, loQ]
      cases hi with
      | none => simp [sliceHi, hiQ]
      | some hh => simp only [Option.map_some, sliceHi, hiQ]; cases evR ρ hh <;> rfl
    | some ll =>
      simp only [Option.map_some]
      cases evR ρ ll with
      | int kk n =>
        simp only [sliceLo, loQ]
        cases hi with
        | none => simp [sliceHi, hiQ]
        | some hh => simp only [Option.map_some, sliceHi, hiQ]; cases evR ρ hh <;> rfl
      | _ => rfl
  | _ => rfl
def svQ (p : Prop) (z : Nat) (k : Value → Prop) (lo hi : Option Value) : Value → Prop
  | .slice a n c => loQ (fun l => hiQ n (fun h => chkP (0 ≤ l ∧ l ≤ h ∧ h ≤ c) (k (.slice (if c = l.toNat then a else a.map (·.add (l.toNat * z))) (h.toNat - l.toNat) (c - l.toNat)))) hi) lo
  | _ => p
@[congr] theorem svQ_congr {p : Prop} {z : Nat} {k : Value → Prop} {lo hi : Option Value} {x x' : Value} (h : tick x = x') : svQ p z k lo hi x = svQ p z k lo hi x' := by subst h; rfl
theorem svQ_slice {p : Prop} {z : Nat} {k : Value → Prop} {lo hi : Option Value} {a : Option Addr} {n c : Nat} : svQ p z k lo hi (.slice a n c) =
    loQ (fun l => hiQ n (fun h => chkP (0 ≤ l ∧ l ≤ h ∧ h ≤ c) (k (.slice (if c = l.toNat then a else a.map (·.add (l.toNat * z))) (h.toNat - l.toNat) (c - l.toNat)))) hi) lo := rfl
theorem q_slice_slice {t : TypeId} {x : Operand} {lo hi : Option Operand} {z : Nat} (h : elemSz P t = some z) : opQ E ⟨dst, .slice t x lo hi none, ty, pos, af, g⟩ ρ ds σ nx pn =
    svQ (wpOp E ⟨dst, .slice t x lo hi none, ty, pos, af, g⟩ ρ ds σ nx pn) z (fun v => nx (putR ρ dst v) ds σ) (lo.map (evR ρ)) (hi.map (evR ρ)) (evR ρ x) := by
  obtain ⟨e, he, hs, hz⟩ := elemSz_e h
  subst hz
  simp only [opQ, sliceElem_elim he]
  generalize evR ρ x = vx
  cases vx with
  | slice a n c =>
    simp only [svQ, chkP, hs, and_true]
    cases lo with
    | none =>
      simp only [Option.map_none, sliceLo, loQ]
      cases hi with
      | none => simp [sliceHi, hiQ]
      | some hh => simp only [Option.map_some, sliceHi, hiQ]; cases evR ρ hh <;> rfl
    | some ll =>
      simp only [Option.map_some]
      cases evR ρ ll with
      | int kk n =>
        simp only [sliceLo, loQ]
        cases hi with
        | none => simp [sliceHi, hiQ]
        | some hh => simp only [Option.map_some, sliceHi, hiQ]; cases evR ρ hh <;> rfl
      | _ => rfl
  | _ => rfl
end
end Go.Qw
-- More operations, as rules: values built, slices built, asserted types, panics.
namespace Go.Qw
open Go Go.Conc

section
variable {P : Program} {E : Env P} {ρ : Rho} {ds : List Deferred} {σ : Hp} {dst : Option Tmp} {ty : TypeId} {pos : String} {af : Array Edge} {g : Option (Nat × Bool)} {nx : Rho → List Deferred → Hp → Prop} {pn : List PanicEntry → Hp → Prop}

def lstQ (k : List Value → Prop) : Option (List Value) → Prop
  | some r => k r
  | none => False
@[congr] theorem lstQ_congr {k : List Value → Prop} {a a' : Option (List Value)} (h : tick a = a') : lstQ k a = lstQ k a' := by subst h; rfl
theorem lstQ_some {k : List Value → Prop} {r : List Value} : lstQ k (some r) = k r := _root_.id rfl
theorem q_build {t : TypeId} {parts : List (Nat × Operand)} {z : Value} {pl : List (Nat × Nat)} (hz : zeroT P t = some z) (hp : placesT P t = some pl) :
    opQ E ⟨dst, .build t parts.toArray, ty, pos, af, g⟩ ρ ds σ nx pn = lstQ (fun r => nx (putR ρ dst (.agg r.toArray)) ds σ) (fillL pl z.cells.toList (parts.map fun p => (p.1, evR ρ p.2))) := by
  simp only [opQ, hz, hp, lstQ]
  rfl
theorem q_buildSlice {t : TypeId} {n : Nat} {parts : List (Nat × Operand)} {e : TypeId} {pl : List (Nat × Nat)} {zs : List Value} (hb : bsT P t n = some (e, pl, zs)) :
    opQ E ⟨dst, .buildSlice t n parts.toArray, ty, pos, af, g⟩ ρ ds σ nx pn = lstQ (fun r => newQ σ fun b => nx (putR ρ dst (.slice (some ⟨b, 0, none⟩) n n)) ds (σ.set b (.cells r.toArray e))) (fillL pl zs (parts.map fun p => (p.1, evR ρ p.2))) := by
  simp only [opQ, hb, lstQ]
  rfl
theorem q_typeAssert {x : Operand} {t a : TypeId} : opQ E ⟨dst, .typeAssert x t a true, ty, pos, af, g⟩ ρ ds σ nx pn =
    orQ (wpOp E ⟨dst, .typeAssert x t a true, ty, pos, af, g⟩ ρ ds σ nx pn) (fun v => nx (putR ρ dst v) ds σ) (taV P a (evR ρ x)) := by
  simp only [opQ, orQ]
  cases taV P a (evR ρ x) <;> rfl
theorem ta_same {a : TypeId} {v : Value} (h : concT P a = true) : taV P a (.iface a v) = some (.tuple #[v, .bool true]) := by
  unfold concT at h
  simp only [taV]
  cases hu : P.underlying a with
  | none => rw [hu] at h; cases h
  | some d => rw [hu] at h; cases d <;> first | (simp at h; done) | simp
theorem ta_other {a u : TypeId} {v z : Value} (h : concT P a = true) (hz : zeroT P a = some z) (hne : (u == a) = false) : taV P a (.iface u v) = some (.tuple #[z, .bool false]) := by
  unfold concT at h
  have hne : ¬ u = a := by simpa using hne
  simp only [taV]
  cases hu : P.underlying a with
  | none => rw [hu] at h; cases h
  | some d => rw [hu] at h; cases d <;> first | (simp at h; done) | simp [hne, hz]
theorem ta_nil {a : TypeId} {z : Value} (h : concT P a = true) (hz : zeroT P a = some z) : taV P a .nilIface = some (.tuple #[z, .bool false]) := by
  unfold concT at h
  simp only [taV]
  cases hu : P.underlying a with
  | none => rw [hu] at h; cases h
  | some d => rw [hu] at h; cases d <;> first | (simp at h; done) | simp [hz]
def pnQ (k : Value → Prop) : Value → Prop
  | .iface t v => k (.iface t v)
  | _ => False
@[congr] theorem pnQ_congr {k : Value → Prop} {v v' : Value} (h : tick v = v') : pnQ k v = pnQ k v' := by subst h; rfl
theorem pnQ_iface {k : Value → Prop} {t : TypeId} {v : Value} : pnQ k (.iface t v) = k (.iface t v) := _root_.id rfl
theorem q_panic {x : Operand} : opQ E ⟨dst, .panic x, ty, pos, af, g⟩ ρ ds σ nx pn = pnQ (fun v => pn [{ v := v, recovered := false }] σ) (evR ρ x) := by
  simp only [opQ]
  unfold pnQ
  cases evR ρ x <;> simp
def sbQ (p : Prop) (k : ByteArray → Prop) : Value → Prop
  | .string s => k s
  | _ => p
@[congr] theorem sbQ_congr {p : Prop} {k : ByteArray → Prop} {v v' : Value} (h : tick v = v') : sbQ p k v = sbQ p k v' := by subst h; rfl
theorem sbQ_str {p : Prop} {k : ByteArray → Prop} {s : ByteArray} : sbQ p k (.string s) = k s := _root_.id rfl
/-- The bytes as cells. -/
def bytesL (l : List UInt8) : List Value := l.map fun b => .int .u8 b.toNat
theorem bytesV_B (l : List UInt8) : bytesV (B l) = (bytesL l).toArray := by
  simp [bytesV, B, bytesL]
def freshBytesQ (σ : Hp) (e : TypeId) (s : ByteArray) (k : Nat → Nat → Hp → Prop) : Prop := ∀ b pad z, σ.f b = none → k b pad (σ.set b (.cells (bytesV s ++ Array.replicate pad (.int .u8 0)) e z))
@[congr] theorem freshBytesQ_congr {e : TypeId} {s : ByteArray} {k : Nat → Nat → Hp → Prop} {n₀ : Nat} (_ : tick 0 = n₀) : freshBytesQ σ e s k = freshBytesQ σ e s k := rfl
theorem q_strBytes {src d e : TypeId} {x : Operand} (he : u8T P src d = some e) : opQ E ⟨dst, .convert src d x, ty, pos, af, g⟩ ρ ds σ nx pn =
    sbQ (opQ E ⟨dst, .convert src d x, ty, pos, af, g⟩ ρ ds σ nx pn) (fun s => freshBytesQ σ e s fun b pad σ' => nx (putR ρ dst (.slice (some ⟨b, 0, none⟩) s.size (s.size + pad))) ds σ') (evR ρ x) := by
  unfold sbQ
  split
  · rename_i s hx
    simp only [opQ, hx]
    have : convV P src d (.string s) = none := by
      unfold u8T at he
      split at he
      · rename_i e' hs hd
        simp [convV, hs, hd]
      · cases he
    rw [this, he]
    rfl
  · rfl

/-! ### cells of values -/
theorem cells_int {k : IntKind} {n : Int} : (Value.int k n).cells = #[.int k n] := _root_.id rfl
theorem cells_bool {b : Bool} : (Value.bool b).cells = #[.bool b] := _root_.id rfl
theorem cells_str {b : ByteArray} : (Value.string b).cells = #[.string b] := _root_.id rfl
theorem cells_ptr {b : Option Addr} : (Value.pointer b).cells = #[.pointer b] := _root_.id rfl
theorem cells_slice {b : Option Addr} {n c : Nat} : (Value.slice b n c).cells = #[.slice b n c] := _root_.id rfl
theorem cells_map {b : Option Nat} : (Value.map b).cells = #[.map b] := _root_.id rfl
theorem cells_iface {t : TypeId} {v : Value} : (Value.iface t v).cells = #[.iface t v] := _root_.id rfl
theorem cells_nilIface : Value.nilIface.cells = #[.nilIface] := _root_.id rfl
theorem cells_func {f : Fn} {x y : Array Value} : (Value.func f x y).cells = #[.func f x y] := _root_.id rfl
theorem cells_nilFunc : Value.nilFunc.cells = #[.nilFunc] := _root_.id rfl
theorem cells_agg {c : Array Value} : (Value.agg c).cells = c := _root_.id rfl
theorem extract_list (l : List Value) (i j : Nat) : l.toArray.extract i j = ((l.drop i).take (j - i)).toArray := by simp [List.extract_eq_take_drop]
theorem putIn_agg {t : TypeId} {off : Nat} {vs c : List Value} {k : Obj → Prop} {e : TypeId} : putIn P t off (.agg vs.toArray) k (.cells c.toArray e (0, 0)) =
    chkP (off + vs.length ≤ c.length ∧ sizeT P t = vs.length ∧ vs.all isScalarV = true) (k (.cells (putCells c off vs).toArray e (0, 0))) := by
  have hs : isScalarV (.agg vs.toArray) = false := rfl
  have e1 : c.toArray.extract 0 off ++ (Value.agg vs.toArray).cells ++ c.toArray.extract (off + (Value.agg vs.toArray).cells.size) c.toArray.size = (putCells c off vs).toArray := by
    simp only [cells_agg, putCells, extract_list, List.drop_zero, Nat.sub_zero, List.append_toArray, List.size_toArray]
    congr 2
    rw [List.take_of_length_le]; simp
  simp only [putIn, hs, Bool.false_eq_true, if_false, e1, chkP]
  have e3 : vs.toArray.all isScalarV = vs.all isScalarV := by simp
  simp only [cells_agg, e3]
  simp only [List.size_toArray, true_and, and_assoc]
end
end Go.Qw
-- 'append', as a rule: in place, or on a new block.
namespace Go.Qw
open Go Go.Conc

theorem growBy_le (newLen : Nat) : ∀ r c, c ≤ newLen → Builtin.growBy newLen r c ≤ newLen + (newLen + 768) / 4 := by
  intro r
  induction r with
  | zero => intro c h; simp [Builtin.growBy]; omega
  | succ r ih =>
    intro c h
    unfold Builtin.growBy
    by_cases hc : c ≥ newLen
    · rw [if_pos hc]; omega
    · rw [if_neg hc]
      by_cases h2 : c + (c + 768) / 4 ≤ newLen
      · exact ih _ h2
      · cases r with
        | zero => simp only [Builtin.growBy]; omega
        | succ r => unfold Builtin.growBy; rw [if_pos (by omega)]; omega
theorem nextslicecap_le {newLen old : Nat} (h : old < newLen) : Builtin.nextslicecap newLen old ≤ 2 * newLen + 192 := by
  unfold Builtin.nextslicecap
  split
  · omega
  · split
    · omega
    · have := growBy_le newLen 4 old (by omega); omega

section
variable {P : Program} {E : Env P} {ρ : Rho} {ds : List Deferred} {σ : Hp} {dst : Option Tmp} {ty : TypeId} {pos : String} {af : Array Edge} {g : Option (Nat × Bool)} {nx : Rho → List Deferred → Hp → Prop} {pn : List PanicEntry → Hp → Prop}

/-- The first n elements' cells, of z each. -/
def firstC (σ : Hp) (z n : Nat) : Value → Option (Array Value)
  | .slice (some a) _ _ => cellsOf σ a (n * z)
  | .slice none _ _ => some #[]
  | .string s => some (bytesV (s.extract 0 n))
  | _ => none
def lenN : Value → Option Nat
  | .slice _ n _ => some n
  | .string s => some s.size
  | _ => none
theorem cellsOf_elim {a : Addr} {n : Nat} {r : Array Value} (h : cellsOf σ a n = some r) : ∃ c e z, σ.f a.block = some (.cells c e z) ∧ a.spot = none ∧ a.off + n ≤ c.size ∧ r = c.extract a.off (a.off + n) := by
  unfold cellsOf at h
  split at h
  · rename_i c e z hb
    split at h
    · rename_i hc
      exact ⟨c, e, z, hb, hc.1, hc.2, (Option.some.inj h).symm⟩
    · cases h
  · cases h
theorem firstC_sound {z n : Nat} {v : Value} {r : Array Value} {Q : Array Value → Hp → Prop} {H : Halt → Hp → Prop} (h : firstC σ z n v = some r) (k : Q r σ) : wpS P (Builtin.firstCells z n v) Q H σ := by
  unfold firstC at h
  split at h
  · rename_i a _ _
    obtain ⟨c, e, zz, hb, hs, hl, rfl⟩ := cellsOf_elim h
    simp only [Builtin.firstCells, loadCells]
    refine wpS_loadCellsFrom hb hs _ 0 #[] Q (by omega) ?_
    simpa using k
  · simp only [Builtin.firstCells, wpS_pure']; cases h; exact k
  · simp only [Builtin.firstCells, wpS_pure']; cases h; exact k
  · cases h

/-- The element type of a slice, its size, its zero and its bytes. -/
structure ElemOf (P : Program) (t : TypeId) where
  e : TypeId
  z : Nat
  zero : Array Value
  bytes : Nat
  hu : P.underlying t = some (.slice e)
  hi : ∃ i zv, P.info? e = some i ∧ i.size = z ∧ i.zero = some zv ∧ zv.cells = zero ∧ i.bytes = bytes

def notInt (P : Program) (t : TypeId) : Bool := match P.underlying t with | some (.int _) => false | some _ => true | none => false

theorem append_intro {t u : TypeId} {x y : Operand} (el : ElemOf P t) {base : Option Addr} {l c n : Nat} {old new : Array Value} (hu : notInt P u = true) (hx : evR ρ x = .slice base l c) (hn : lenN (evR ρ y) = some n)
    (hold : firstC σ el.z l (.slice base l c) = some old) (hnew : firstC σ el.z n (evR ρ y) = some new) (hlim : (2 * (l + n) + 192) * el.bytes ≤ 2 ^ 48) (hneed : l + n ≤ 9223372036854775807)
    (hin : l + n ≤ c → ∃ σ', (match base with
        | some a => ∃ cs e, σ.f a.block = some (.cells cs e (0, 0)) ∧ a.spot = none ∧ a.off + l * el.z + new.size ≤ cs.size ∧ new.all isScalarV = true ∧
          σ' = σ.set a.block (.cells (cs.extract 0 (a.off + l * el.z) ++ new ++ cs.extract (a.off + l * el.z + new.size) cs.size) e (0, 0))
        | none => σ' = σ) ∧ nx (putR ρ dst (.slice base (l + n) c)) ds σ')
    (hout : c < l + n → ∀ b cap, σ.f b = none → l + n ≤ cap → nx (putR ρ dst (.slice (some ⟨b, 0, none⟩) (l + n) cap)) ds (σ.set b (.cells (old ++ new ++ Builtin.zeroCells el.zero (cap - (l + n))) el.e))) :
    opQ E ⟨dst, .call ⟨.builtin .append, #[x, y], #[t, u]⟩, ty, pos, af, g⟩ ρ ds σ nx pn := by
  have hsl := el.hu
  obtain ⟨i, zv, hi, hz, hzero, hzc, hb⟩ := el.hi
  show wpOp E _ ρ ds σ nx pn
  have hlenOf : ∀ (Q : Nat → Hp → Prop) (H : Halt → Hp → Prop), Q n σ → wpS P (Builtin.lenOf (evR ρ y)) Q H σ := by
    intro Q H q
    cases hv : evR ρ y <;> rw [hv] at hn <;> first | (simp only [lenN, Option.some.injEq] at hn; subst hn; exact q) | cases hn
  have hzs : ∃ d, P.underlying u = some d ∧ ∀ k, d ≠ .int k := by
    unfold notInt at hu
    split at hu
    · cases hu
    · rename_i d hd hne; exact ⟨d, hne, fun k hk => hd k hk⟩
    · cases hu
  obtain ⟨d, hd, hdn⟩ := hzs
  unfold wpOp
  simp only [execOp, resolve, wpS_bind_eq, wpS_pure', invoke]
  show wpS P (do pure (Next.value (← Builtin.append_ #[t, u] ty (#[x, y].map (evR ρ)))) : Sem Next) _ _ _
  rw [wpS_val]
  have e1 : #[x, y].map (evR ρ) = #[.slice base l c, evR ρ y] := by simp [hx]
  rw [e1]
  simp only [Builtin.append_, List.getElem?_toArray, List.getElem?_cons_zero, List.getElem?_cons_succ, wpS_bind_eq, wpS_underlying, hsl, sizeOf, wpS_typeInfo, hi, wpS_pure', hd]
  simp only [Bool.false_eq_true, if_false, Bool.not_false, if_true, wpS_bind_eq]
  refine hlenOf _ _ ?_
  by_cases hc : l + n ≤ c
  · rw [if_pos hc]
    simp only [wpS_bind_eq, hz]
    refine firstC_sound hnew ?_
    obtain ⟨σ', hσ, hk⟩ := hin hc
    cases base with
    | none => simp only at hσ; subst hσ; exact hk
    | some a =>
      obtain ⟨cs, e', hb', hs', hle, hall, rfl⟩ := hσ
      simp only [wpS_bind_eq]
      have hsp : (a.add (l * el.z)) = ⟨a.block, a.off + l * el.z, none⟩ := Addr.add_spot hs' _
      rw [hsp]
      refine wpS_storeCells (e := e') (a := ⟨a.block, a.off + l * el.z, none⟩) rfl new.toList 0 cs σ _ hb' (by simpa using hle) (by simpa using hall) ?_
      show nx (putR ρ dst (Value.slice (some a) (l + n) c)) ds _
      simpa using hk
  · rw [if_neg hc]
    simp only [wpS_bind_eq, wpS_typeInfo, hi, hz, hb]
    rw [if_neg (by intro ⟨h1, _⟩; have : IntKind.i64.max = 9223372036854775807 := by decide
                   omega)]
    have hnc := nextslicecap_le (show c < l + n by omega)
    simp only [wpS_bind_eq, wpS_typeInfo, hi, hb]
    rw [if_neg (by have := Nat.mul_le_mul_right el.bytes hnc; omega)]
    simp only [wpS_bind_eq, wpS_choose]
    rw [if_neg (by simp [Question.forced])]
    intro tt
    have hcut : l + n ≤ (Question.appendCap (l + n) c el.e).cut tt := by simp only [Question.cut]; omega
    simp only [wpS_typeInfo, hi, askRoom]
    have fin : wpS P (do
        let old ← Builtin.firstCells el.z l (Value.slice base l c)
        let new ← Builtin.firstCells el.z n (evR ρ y)
        let r ← zeroValue el.e
        let q ← newRow el.e (old ++ new ++ Builtin.zeroCells r.cells ((Question.appendCap (l + n) c el.e).cut tt - (l + n)))
        pure (Value.slice (some q) (l + n) ((Question.appendCap (l + n) c el.e).cut tt)))
        (fun v σ => After (fun v σ' => nx (putR ρ dst v) ds σ') (fun d σ' => nx (putR ρ dst undef) (d :: ds) σ')
          (fun f args σ' => CallsE E f args σ' (onFin (fun v σ' => nx (putR ρ dst v) ds σ') pn)) (Next.value v) σ)
        (AfterHalt fun v σ' => pn [{ v := v, recovered := false }] σ') σ := by
      simp only [wpS_bind_eq]
      refine firstC_sound hold (firstC_sound hnew ?_)
      simp only [zeroValue, wpS_bind_eq, wpS_typeInfo, hi, hzero, wpS_pure', newRow, wpS_newObj, hzc]
      intro b hbn
      exact hout (by omega) b _ hbn hcut
    simp only [wpS_bind_eq] at fin
    split
    · simp only [wpS_mark]
      exact ⟨rfl, fin⟩
    · simp only [wpS_pure']
      exact fin
end
end Go.Qw
