/- The law Beats of queuewire returns true for every three integers: the row over the given program, tied to its text; no condition besides. (Part 11 of 40: QwNum QwArgs QwBuf QwBuf2 QwBuf3.) -/
import Derived.Laws.BitsLemmas
import Derived.Test.YtpiabknabfbfhaaGreatDoorBeats10
set_option linter.all false
-- Numbers that are read: Number.
namespace Go.Qw
open Nat renaming reduceLT → yA, reduceLeDiff → yB, reduceBEq → yC, reduceAdd → yD, reduceSub → yE, reduceMul → yF, reduceEqDiff → yG
open Int renaming reduceToNat → wA, reduceLE → wB, reduceLT → wC, reduceEq → wD, reduceAdd → wE, reduceSub → wF, reduceMul → wG, reduceNeg → wH
open Go Go.Proofs

/-- The number of bytes, the high one first. -/
def num (l : List UInt8) : Nat := l.foldl (fun n b => n * 256 + b.toNat) 0
theorem num_snoc (l : List UInt8) (b : UInt8) : num (l ++ [b]) = num l * 256 + b.toNat := by simp [num]
theorem num_go (l : List UInt8) : ∀ a, l.foldl (fun n b => n * 256 + b.toNat) a < (a + 1) * 256 ^ l.length := by
  induction l with
  | nil => intro a; simp
  | cons b l ih =>
    intro a
    have h1 := ih (a * 256 + b.toNat)
    have h2 := b.toNat_lt
    have h3 : (a * 256 + b.toNat + 1) * 256 ^ l.length ≤ ((a + 1) * 256) * 256 ^ l.length := Nat.mul_le_mul_right _ (by omega)
    simp only [List.foldl_cons, List.length_cons, Nat.pow_succ]
    have h4 : (a + 1) * (256 ^ l.length * 256) = ((a + 1) * 256) * 256 ^ l.length := by rw [Nat.mul_comm (256 ^ l.length), Nat.mul_assoc]
    omega
theorem num_lt (l : List UInt8) : num l < 256 ^ l.length := by have := num_go l 0; simpa [num] using this
theorem num_take_succ (l : List UInt8) (i : Nat) (h : i < l.length) : num (l.take (i + 1)) = num (l.take i) * 256 + (l.getD i 0).toNat := by
  rw [List.take_succ_eq_append_getElem h, num_snoc, List.getD_eq_getElem?_getD, List.getElem?_eq_getElem h, Option.getD_some]

theorem wrap64 {n : Int} (h : -9223372036854775808 ≤ n) (h' : n ≤ 9223372036854775807) : IntKind.wrap .i64 n = n := by
  rw [IntKind.wrap_i64]; omega
theorem shl_or {n : Nat} {m : Nat} (hm : m < 256) (h : n < 2 ^ 55) : orZ .i64 (shlZ .i64 n 8) (IntKind.wrap .i64 (m : Int)) = ((n * 256 + m : Nat) : Int) := by
  unfold orZ shlZ
  have e0 : IntKind.i64.bits = 64 := rfl
  have e1 : ((n : Int) * 2 ^ (min (8 : Int).toNat IntKind.i64.bits)) = ((n * 256 : Nat) : Int) := by
    rw [e0]; simp
  rw [e1, wrap64 (n := ((n * 256 : Nat) : Int)) (by omega) (by omega), wrap64 (n := (m : Int)) (by omega) (by omega), e0]
  rw [BitVec.ofInt_natCast, BitVec.ofInt_natCast, BitVec.toNat_or, BitVec.toNat_ofNat, BitVec.toNat_ofNat, Nat.mod_eq_of_lt (by omega), Nat.mod_eq_of_lt (by omega)]
  have := Nat.shiftLeft_add_eq_or_of_lt (b := m) (i := 8) (by omega) n
  rw [Nat.shiftLeft_eq] at this
  rw [show n * 256 = n * 2 ^ 8 by rfl, ← this]
  exact wrap64 (by omega) (by omega)

theorem le_set_new {σ : Hp} {b : Nat} {o : Obj} (h : σ.f b = none) : σ.le (σ.set b o) := by
  intro x ox hx
  have : x ≠ b := by intro e; subst e; rw [h] at hx; cases hx
  rw [Hp.f_set_ne o this]; exact hx

set_option maxRecDepth 100000 in
theorem number_ok {E : Env Tryz.prog} {σ : Hp} {b off : Nat} {c : List Value} {e : TypeId} {s : List UInt8} {w : Nat} (hb : σ.f b = some (.cells c.toArray e (0, 0))) (ho : c[off]? = some (.string (B s))) (hw : w ≤ 7) (hn : w ≤ s.length) :
    CallsE E 147 #[.pointer (some ⟨b, off, none⟩), .int .i64 w] σ fun e' σ' => e' = .returned (.int .i64 (num (s.take w))) ∧ σ' = σ.set b (.cells (c.set off (.string (B (s.drop w)))).toArray e) := by
  refine calls_enter Tryz.func147 Tryz.ntmps147 Tryz.results147 rfl (by simp) fun Q hQn hQr hQp => ?_
  simp only [go_sem, yA, yB, yC, yD, yE, yF, yG, wA, wB, wC, wD, wE, wF, wG, wH, hb, ho]
  refine call_ret go_148 (take_ok hb ho (by omega) (by omega)) ?_
  simp only [go_sem, yA, yB, yC, yD, yE, yF, yG, wA, wB, wC, wD, wE, wF, wG, wH]
  refine fun nb pad z hnb => ?_
  simp only [go_sem, yA, yB, yC, yD, yE, yF, yG, wA, wB, wC, wD, wE, wF, wG, wH]
  refine wpC_loop (fun m ρ ds τ => ds = [] ∧ τ = (σ.set b (.cells (c.set off (.string (B (s.drop w)))).toArray e)).set nb (.cells (bytesL (s.take w) ++ List.replicate pad (Value.int .u8 0)).toArray 5 z) ∧ ∃ i, i ≤ w ∧ m = w - i ∧
    ρ 12 = .int .i64 i ∧ ρ 11 = .int .i64 w ∧ ρ 10 = .slice (some ⟨nb, 0, none⟩) w (w + pad) ∧ ρ 4 = .int .i64 (num (s.take i))) w ?_ ?_
  · refine ⟨rfl, ?_, 0, Nat.zero_le _, rfl, ?_⟩
    · simp only [go_sem, yA, yB, yC, yD, yE, yF, yG, wA, wB, wC, wD, wE, wF, wG, wH]
    · have hm : min w s.length = w := by omega
      simp only [go_sem, yA, yB, yC, yD, yE, yF, yG, wA, wB, wC, wD, wE, wF, wG, wH, num, List.length_take, hm, List.foldl_nil, true_and]
      rfl
  · rintro m ρ ds τ X ⟨rfl, rfl, i, hi, rfl, h12, h11, h10, h4⟩ hX
    rcases Nat.lt_or_ge i w with hlt | hge
    · have c1 : (i : Int) < w := by omega
      have c2 : (0 : Int) ≤ i := by omega
      have c3 : i < (s.take w).length := by simp; omega
      simp only [go_sem, yA, yB, yC, yD, yE, yF, yG, wA, wB, wC, wD, wE, wF, wG, wH, h12, h11, h10, h4, c1, c2, bytes_get c3]
      refine hX (w - (i + 1)) _ _ _ _ (by omega) ⟨rfl, rfl, i + 1, by omega, rfl, ?_⟩ (Hp.le_refl _)
      have h1 := num_lt (s.take i)
      have h2 : (s.take i).length = i := by simp; omega
      have h3 : (256 : Nat) ^ i ≤ 256 ^ 6 := Nat.pow_le_pow_right (by omega) (by omega)
      have h4 : byteAt (s.take w) i = (((s.getD i 0).toNat : Nat) : Int) := by
        simp only [byteAt, List.getD_eq_getElem?_getD, List.getElem?_take, hlt, if_true]
      have h5 := (s.getD i 0).toNat_lt
      rw [h2] at h1
      simp only [go_sem, yA, yB, yC, yD, yE, yF, yG, wA, wB, wC, wD, wE, wF, wG, wH, h11, h10, h4]
      rw [shl_or (by omega) (by omega), num_take_succ s i (by omega), wrap64 (by omega) (by omega)]
      exact ⟨rfl, rfl⟩
    · have c1 : ¬ (i : Int) < w := by omega
      simp only [go_sem, yA, yB, yC, yD, yE, yF, yG, wA, wB, wC, wD, wE, wF, wG, wH, h12, h11, c1]
      refine hQr _ _ _ _ resIs_one ?_ ⟨?_, rfl⟩
      · exact le_set_new hnb
      · have : i = w := by omega
        subst this
        simp only [go_sem, yA, yB, yC, yD, yE, yF, yG, wA, wB, wC, wD, wE, wF, wG, wH, h4]
end Go.Qw
-- Arguments that are read: Number, Text, Flag, End: what each gives, or that it throws.
namespace Go.Qw
open Nat renaming reduceLT → yA, reduceLeDiff → yB, reduceBEq → yC, reduceAdd → yD, reduceSub → yE, reduceMul → yF, reduceEqDiff → yG
open Int renaming reduceToNat → wA, reduceLE → wB, reduceLT → wC, reduceEq → wD, reduceAdd → wE, reduceSub → wF, reduceMul → wG, reduceNeg → wH
open Go Go.Proofs

def pNumber (w : Nat) (s : List UInt8) : Option (Nat × List UInt8) := if w ≤ s.length then some (num (s.take w), s.drop w) else none
def pTake (n : Nat) (s : List UInt8) : Option (List UInt8 × List UInt8) := if n ≤ s.length then some (s.take n, s.drop n) else none
def pText (s : List UInt8) : Option (List UInt8 × List UInt8) := (pNumber 1 s).bind fun r => pTake r.1 r.2
def pFlag (s : List UInt8) : Option (Bool × List UInt8) := (pNumber 1 s).bind fun r => if r.1 ≤ 1 then some (decide (r.1 = 1), r.2) else none

/-- A reader's end: a value and the rest, or the throw. -/
def ArgR {α : Type} (σ : Hp) (b off : Nat) (c : List Value) (e : TypeId) (f : α → Value) (r : Option (α × List UInt8)) (e' : Fin) (σ' : Hp) : Prop :=
  match r with
  | some (v, rest) => e' = .returned (f v) ∧ σ' = σ.set b (.cells (c.set off (.string (B rest))).toArray e)
  | none => e' = .panicked badPanic ∧ ∃ l, σ' = σ.set b (.cells (c.set off (.string (B l))).toArray e)

section
variable {P : Program} {E : Env P} {ρ : Rho} {ds : List Deferred} {σ : Hp} {dst : Option Tmp} {nx : Rho → List Deferred → Hp → Prop} {pn : List PanicEntry → Hp → Prop}
theorem call_pan {f : FuncId} {args : Array Value} {ch : List PanicEntry} {τ : Hp} (hg : isGo P f = true) (h : CallsE E f args σ fun e σ' => e = .panicked ch ∧ σ' = τ) (k : pn ch τ) : callQ E f args σ dst ρ ds nx pn :=
  callQ_of hg (h.mono fun e σ' ⟨h1, h2⟩ => by subst h1; subst h2; exact k)
theorem call_arg {α : Type} {f : FuncId} {args : Array Value} {b off : Nat} {c : List Value} {e : TypeId} {fv : α → Value} {r : Option (α × List UInt8)} (hg : isGo P f = true) (h : CallsE E f args σ (ArgR σ b off c e fv r))
    (k : ∀ v rest, r = some (v, rest) → nx (putR ρ dst (fv v)) ds (σ.set b (.cells (c.set off (.string (B rest))).toArray e)))
    (kp : r = none → ∀ l, pn badPanic (σ.set b (.cells (c.set off (.string (B l))).toArray e))) : callQ E f args σ dst ρ ds nx pn := by
  refine callQ_of hg (h.mono fun e' σ' hr => ?_)
  cases r with
  | none => obtain ⟨rfl, l, rfl⟩ := hr; exact kp rfl l
  | some p => obtain ⟨v, rest⟩ := p; obtain ⟨rfl, rfl⟩ := hr; exact k v rest rfl
end

theorem cells_set_self {σ : Hp} {b off : Nat} {c : List Value} {e : TypeId} {v : Value} (hb : σ.f b = some (.cells c.toArray e (0, 0))) (ho : c[off]? = some v) : σ.set b (.cells (c.set off v).toArray e) = σ := by
  have : c.set off v = c := by
    apply List.ext_getElem?
    intro i
    by_cases h : off = i
    · subst h
      rw [List.getElem?_set_self (List.getElem?_eq_some_iff.1 ho).1, ho]
    · rw [List.getElem?_set_ne h]
  rw [this]; exact Hp.set_self hb

set_option maxRecDepth 100000 in
theorem number_bad {E : Env Tryz.prog} {σ : Hp} {b off : Nat} {c : List Value} {e : TypeId} {s : List UInt8} {w : Nat} (hb : σ.f b = some (.cells c.toArray e (0, 0))) (ho : c[off]? = some (.string (B s))) (hn : s.length < w) :
    CallsE E 147 #[.pointer (some ⟨b, off, none⟩), .int .i64 w] σ fun e' σ' => e' = .panicked badPanic ∧ σ' = σ := by
  refine calls_enter Tryz.func147 Tryz.ntmps147 Tryz.results147 rfl (by simp) fun Q hQn hQr hQp => ?_
  simp only [go_sem, yA, yB, yC, yD, yE, yF, yG, wA, wB, wC, wD, wE, wF, wG, wH, hb, ho]
  refine call_pan go_148 (take_bad hb ho (by omega)) ?_
  exact hQp _ _ _ _ (Hp.le_refl _) ⟨rfl, rfl⟩

theorem number_c {E : Env Tryz.prog} {σ : Hp} {b off : Nat} {c : List Value} {e : TypeId} {s : List UInt8} {w : Nat} (hb : σ.f b = some (.cells c.toArray e (0, 0))) (ho : c[off]? = some (.string (B s))) (hw : w ≤ 7) :
    CallsE E 147 #[.pointer (some ⟨b, off, none⟩), .int .i64 w] σ (ArgR σ b off c e (fun n : Nat => .int .i64 n) (pNumber w s)) := by
  by_cases h : w ≤ s.length
  · simp only [pNumber, h, if_true]
    exact number_ok hb ho hw h
  · simp only [pNumber, h, if_false]
    exact (number_bad hb ho (by omega)).mono fun e' σ' ⟨h1, h2⟩ => ⟨h1, s, by rw [h2, cells_set_self hb ho]⟩
theorem take_c {E : Env Tryz.prog} {σ : Hp} {b off : Nat} {c : List Value} {e : TypeId} {s : List UInt8} {n : Nat} (hb : σ.f b = some (.cells c.toArray e (0, 0))) (ho : c[off]? = some (.string (B s))) :
    CallsE E 148 #[.pointer (some ⟨b, off, none⟩), .int .i64 n] σ (ArgR σ b off c e (fun l => .string (B l)) (pTake n s)) := by
  by_cases h : n ≤ s.length
  · simp only [pTake, h, if_true]
    refine (take_ok (n := n) hb ho (by omega) (by omega)).mono fun e' σ' ⟨h1, h2⟩ => ?_
    simp only [Int.toNat_natCast] at h1 h2
    exact ⟨h1, h2⟩
  · simp only [pTake, h, if_false]
    exact (take_bad hb ho (by omega)).mono fun e' σ' ⟨h1, h2⟩ => ⟨h1, s, by rw [h2, cells_set_self hb ho]⟩

set_option maxRecDepth 100000 in
theorem text_c {E : Env Tryz.prog} {σ : Hp} {b off : Nat} {c : List Value} {e : TypeId} {s : List UInt8} (hb : σ.f b = some (.cells c.toArray e (0, 0))) (ho : c[off]? = some (.string (B s))) :
    CallsE E 228 #[.pointer (some ⟨b, off, none⟩)] σ (ArgR σ b off c e (fun l => .string (B l)) (pText s)) := by
  have hlt : off < c.length := (List.getElem?_eq_some_iff.1 ho).1
  refine calls_enter Tryz.func228 Tryz.ntmps228 Tryz.results228 rfl (by simp) fun Q hQn hQr hQp => ?_
  simp only [go_sem, yA, yB, yC, yD, yE, yF, yG, wA, wB, wC, wD, wE, wF, wG, wH, hb, ho]
  refine call_arg go_147 (number_c hb ho (w := 1) (by omega)) (fun n rest hr => ?_) (fun hr l => ?_)
  · simp only [go_sem, yA, yB, yC, yD, yE, yF, yG, wA, wB, wC, wD, wE, wF, wG, wH]
    refine call_arg go_148 (take_c (n := n) (s := rest) (e := e) (off := off) (c := c.set off (.string (B rest))) (Hp.f_set_same _ _) (List.getElem?_set_self hlt)) (fun v rest' hr' => ?_) (fun hr' l => ?_)
    · simp only [go_sem, yA, yB, yC, yD, yE, yF, yG, wA, wB, wC, wD, wE, wF, wG, wH]
      refine hQr _ _ _ _ resIs_one (Hp.le_refl _) ?_
      simp only [ArgR, pText, hr, Option.bind_some, hr', go_sem, yA, yB, yC, yD, yE, yF, yG, wA, wB, wC, wD, wE, wF, wG, wH, List.set_set]
    · refine hQp _ _ _ _ (Hp.le_refl _) ?_
      simp only [ArgR, pText, hr, Option.bind_some, hr']
      exact ⟨trivial, l, by simp only [Hp.set_set, List.set_set]⟩
  · refine hQp _ _ _ _ (Hp.le_refl _) ?_
    simp only [ArgR, pText, hr, Option.bind_none]
    exact ⟨trivial, l, rfl⟩

set_option maxRecDepth 100000 in
theorem end_ok {E : Env Tryz.prog} {σ : Hp} {b off : Nat} {c : List Value} {e : TypeId} {z : Nat × Nat} (hb : σ.f b = some (.cells c.toArray e z)) (ho : c[off]? = some (.string (B []))) :
    CallsE E 229 #[.pointer (some ⟨b, off, none⟩)] σ fun e' σ' => e' = .returned (.tuple #[]) ∧ σ' = σ := by
  refine calls_enter Tryz.func229 Tryz.ntmps229 Tryz.results229 rfl (by simp) fun Q hQn hQr hQp => ?_
  simp only [go_sem, yA, yB, yC, yD, yE, yF, yG, wA, wB, wC, wD, wE, wF, wG, wH, hb, ho]
  exact hQn _ _ _ _ resIs_none (Hp.le_refl _) ⟨rfl, rfl⟩
end Go.Qw
-- A text's builder: its own conversions, what is written into it, its text.
namespace Go.Qw
open Nat renaming reduceLT → yA, reduceLeDiff → yB, reduceBEq → yC, reduceAdd → yD, reduceSub → yE, reduceMul → yF, reduceEqDiff → yG
open Int renaming reduceToNat → wA, reduceLE → wB, reduceLT → wC, reduceEq → wD, reduceAdd → wE, reduceSub → wF, reduceMul → wG, reduceNeg → wH
open Go Go.Proofs

section
variable {P : Program} {E : Env P} {ρ : Rho} {ds : List Deferred} {σ : Hp} {dst : Option Tmp} {ty : TypeId} {pos : String} {af : Array Edge} {g : Option (Nat × Bool)} {nx : Rho → List Deferred → Hp → Prop} {pn : List PanicEntry → Hp → Prop}

theorem seenAt_sound {b off : Nat} {c : Array Value} {e : TypeId} {z : Nat × Nat} (hb : σ.f b = some (.cells c e z)) {Q : Addr → Hp → Prop} {H : Halt → Hp → Prop} (h : Q ⟨b, off, none⟩ σ) : wpS P (Conv.seenAt ⟨b, off, none⟩) Q H σ := by
  simp only [Conv.seenAt, viewAt, wpS_bind_eq, wpS_shape]
  refine ⟨by simp [hb], ?_⟩
  have : σ.shape? b = some (e, c.size) := by simp [Hp.shape?, hb]
  rw [this]
  exact h

theorem toUnsafe_intro {s d t : TypeId} {x : Operand} {b off : Nat} {c : Array Value} {e : TypeId} {z : Nat × Nat} (hs : P.underlying s = some (.pointer t)) (hd : P.underlying d = some .unsafePointer) (hx : evR ρ x = .pointer (some ⟨b, off, none⟩))
    (hb : σ.f b = some (.cells c e z)) (ho : off < c.size) (hz : 0 < sizeT P t) (h : nx (putR ρ dst (.pointer (some ⟨b, off, none⟩))) ds σ) : wpOp E ⟨dst, .convert s d x, ty, pos, af, g⟩ ρ ds σ nx pn := by
  have hi : ∃ i, P.info? t = some i ∧ i.size ≠ 0 := by
    unfold sizeT at hz
    split at hz
    · rename_i i hi; exact ⟨i, hi, by omega⟩
    · cases hz
  obtain ⟨i, hi, hne⟩ := hi
  unfold wpOp
  simp only [execOp, wpS_val, convert, wpS_bind_eq, wpS_underlying, hs, hd, hx, Conv.unsafePointer]
  refine seenAt_sound hb ?_
  simp only [cellsIn, wpS_bind_eq, wpS_shape]
  refine ⟨by simp [hb], ?_⟩
  have : σ.shape? b = some (e, c.size) := by simp [Hp.shape?, hb]
  rw [this]
  simp only [wpS_pure', sizeOf, wpS_bind_eq, wpS_typeInfo, hi]
  have key : (decide (i.size = 0) || (decide (off ≥ c.size) && true)) = false := by simp [hne]; omega
  show wpS P (if (decide (i.size = 0) || (decide (off ≥ c.size) && true)) = true then _ else _) _ _ _
  rw [key]
  exact h

theorem fromUnsafe_intro {s d t : TypeId} {x : Operand} {b off : Nat} {c : Array Value} {e : TypeId} {z : Nat × Nat} (hs : P.underlying s = some .unsafePointer) (hd : P.underlying d = some (.pointer t)) (hx : evR ρ x = .pointer (some ⟨b, off, none⟩))
    (hb : σ.f b = some (.cells c e z)) (hl : liesAt P P.depth e (c.size / P.cellsOf e) off t 1 = true) (hz : 0 < sizeT P t) (h : nx (putR ρ dst (.pointer (some ⟨b, off, none⟩))) ds σ) : wpOp E ⟨dst, .convert s d x, ty, pos, af, g⟩ ρ ds σ nx pn := by
  have hi : ∃ i, P.info? t = some i ∧ i.size ≠ 0 := by
    unfold sizeT at hz
    split at hz
    · rename_i i hi; exact ⟨i, hi, by omega⟩
    · cases hz
  obtain ⟨i, hi, hne⟩ := hi
  unfold wpOp
  simp only [execOp, wpS_val, convert, wpS_bind_eq, wpS_underlying, hs, hd, hx, Conv.unsafePointer]
  refine seenAt_sound hb ?_
  simp only [sizeOf, wpS_bind_eq, wpS_typeInfo, hi, wpS_pure']
  simp only [variablesAt, wpS_bind_eq, wpS_program, wpS_shape]
  have : σ.shape? b = some (e, c.size) := by simp [Hp.shape?, hb]
  have hf : (σ.f b).isSome = true := by simp [hb]
  refine ⟨hf, ?_⟩
  rw [this]
  have hor : (decide (i.size = 0) || true) = true := by simp
  show wpS P (if (decide (i.size = 0) || liesAt P P.depth e (c.size / P.cellsOf e) off t 1) = true then _ else _) _ _ _
  rw [hl, hor]
  exact h

theorem ptrNeq_same {t u el : TypeId} {x y : Operand} {a : Addr} (ht : P.underlying t = some (.pointer el)) (hz : 0 < sizeT P el) (hx : evR ρ x = .pointer (some a)) (hy : evR ρ y = .pointer (some a))
    (h : nx (putR ρ dst (.bool false)) ds σ) : wpOp E ⟨dst, .binOp .neq t x y u, ty, pos, af, g⟩ ρ ds σ nx pn := by
  have hi : ∃ i, P.info? el = some i ∧ i.size ≠ 0 := by
    unfold sizeT at hz
    split at hz
    · rename_i i hi; exact ⟨i, hi, by omega⟩
    · cases hz
  obtain ⟨i, hi, hne⟩ := hi
  unfold wpOp
  simp only [execOp, wpS_val, wpS_bind_eq, hx, hy]
  refine eqGuard_triv ?_ ⟨by simp, by simp⟩
  unfold binOp
  simp only [wpS_bind_eq, wpS_pure']
  refine equal_step fun n => ?_
  unfold Op.equalIn
  simp only [wpS_bind_eq, wpS_underlying, ht, sizeOf, wpS_typeInfo, hi, wpS_pure']
  simp only [hne, ne_eq, not_false_eq_true, if_true, sameAddr, beq_self_eq_true]
  exact h

theorem callQ_extern {f : FuncId} {fn : Func} {args : Array Value} {ex : Array Value → Sem Value} (hf : P.funcs[f]? = some fn) (hb : fn.body.isNone = true) (hn : (fn.name == "runtime.NumGoroutine") = false) (h1 : Extern.findNext fn = none) (h2 : Extern.find fn = some ex)
    (h : wpS P (ex args) (fun v σ' => nx (putR ρ dst v) ds σ') (AfterHalt fun v σ' => pn [{ v, recovered := false }] σ') σ) : callQ E f args σ dst ρ ds nx pn := by
  unfold callQ callFunc
  simp only [wpS_bind_eq, wpS_program, hf, hn, hb, if_true, Bool.false_eq_true, if_false, wpS_mark, h1, h2]
  exact ⟨rfl, h⟩
end
theorem cv_ptr {P : Program} {s d : TypeId} {a : Option Addr} : convV P s d (.pointer a) = none := by
  unfold convV; cases P.underlying s <;> cases P.underlying d <;> first | rfl | (rename_i x; cases x <;> rfl) | (rename_i x y; cases y <;> rfl)
theorem noEscape_next : Extern.findNext Tryz.f153 = none := by kernel_rfl
theorem noEscape_find : Extern.find Tryz.f153 = some Extern.AbiNoEscape.same := by kernel_rfl
theorem noEscape_name : (Tryz.f153.name == "runtime.NumGoroutine") = false := by kernel_rfl
theorem lies_155 : liesAt Tryz.prog Tryz.prog.depth 155 (2 / Tryz.prog.cellsOf 155) 0 153 1 = true := by kernel_rfl
theorem und_137 : Tryz.prog.underlying 137 = some .unsafePointer := by kernel_rfl
theorem und_151 : Tryz.prog.underlying 151 = some (.pointer 153) := by kernel_rfl
theorem sz_153 : 0 < sizeT Tryz.prog 153 := by
  have : sizeT Tryz.prog 153 = 2 := by kernel_rfl
  omega

set_option maxRecDepth 100000 in
/-- The first use of a builder: it notes its own address. -/
theorem copyCheck_new {E : Env Tryz.prog} {σ : Hp} {b : Nat} {v : Value} (hb : σ.f b = some (.cells #[.pointer none, v] 155 (0, 0))) :
    CallsE E 117 #[.pointer (some ⟨b, 0, none⟩)] σ fun e' σ' => e' = .returned (.tuple #[]) ∧ σ' = σ.set b (.cells #[.pointer (some ⟨b, 0, none⟩), v] 155 (0, 0)) := by
  refine calls_enter Tryz.func117 Tryz.ntmps117 Tryz.results117 rfl (by simp) fun Q hQn hQr hQp => ?_
  simp only [go_sem, yA, yB, yC, yD, yE, yF, yG, wA, wB, wC, wD, wE, wF, wG, wH, hb, cv_ptr]
  refine toUnsafe_intro (off := 0) und_151 und_137 (by simp only [go_sem, yA, yB, yC, yD, yE, yF, yG, wA, wB, wC, wD, wE, wF, wG, wH]) hb (by simp) sz_153 ?_
  simp only [go_sem, yA, yB, yC, yD, yE, yF, yG, wA, wB, wC, wD, wE, wF, wG, wH]
  refine callQ_extern Tryz.func153 rfl noEscape_name noEscape_next noEscape_find ?_
  show wpL E 20 _ _ _ (putR _ (some 10) (.pointer (some ⟨b, 0, none⟩))) [] σ
  simp only [go_sem, yA, yB, yC, yD, yE, yF, yG, wA, wB, wC, wD, wE, wF, wG, wH, cv_ptr]
  refine fromUnsafe_intro (off := 0) und_137 und_151 (by simp only [go_sem, yA, yB, yC, yD, yE, yF, yG, wA, wB, wC, wD, wE, wF, wG, wH]) hb lies_155 sz_153 ?_
  simp only [go_sem, yA, yB, yC, yD, yE, yF, yG, wA, wB, wC, wD, wE, wF, wG, wH, hb]
  exact hQn _ _ _ _ resIs_none (Hp.le_refl _) ⟨rfl, rfl⟩
set_option maxRecDepth 100000 in
/-- Later uses. -/
theorem copyCheck_old {E : Env Tryz.prog} {σ : Hp} {b : Nat} {v : Value} (hb : σ.f b = some (.cells #[.pointer (some ⟨b, 0, none⟩), v] 155 (0, 0))) :
    CallsE E 117 #[.pointer (some ⟨b, 0, none⟩)] σ fun e' σ' => e' = .returned (.tuple #[]) ∧ σ' = σ := by
  refine calls_enter Tryz.func117 Tryz.ntmps117 Tryz.results117 rfl (by simp) fun Q hQn hQr hQp => ?_
  simp only [go_sem, yA, yB, yC, yD, yE, yF, yG, wA, wB, wC, wD, wE, wF, wG, wH, hb]
  refine ptrNeq_same (a := ⟨b, 0, none⟩) und_151 sz_153 (by simp only [go_sem, yA, yB, yC, yD, yE, yF, yG, wA, wB, wC, wD, wE, wF, wG, wH]) (by simp only [go_sem, yA, yB, yC, yD, yE, yF, yG, wA, wB, wC, wD, wE, wF, wG, wH]) ?_
  simp only [go_sem, yA, yB, yC, yD, yE, yF, yG, wA, wB, wC, wD, wE, wF, wG, wH]
  exact hQn _ _ _ _ resIs_none (Hp.le_refl _) ⟨rfl, rfl⟩

def el67 : ElemOf Tryz.prog 67 where
  e := 5
  z := 1
  zero := #[.int .u8 0]
  bytes := 1
  hu := Tryz.underlying67
  hi := ⟨Tryz.t5, .int .u8 0, by kernel_rfl, by kernel_rfl, by kernel_rfl, rfl, by kernel_rfl⟩

/-- σ is τ and a writer at b (which is none of τ's), that bears the text l. -/
inductive BldS (τ : Hp) (b : Nat) (l : List UInt8) (σ : Hp) : Prop
  | new (h : l = []) (hs : σ = τ.set b (.cells #[.pointer none, .slice none 0 0] 155 (0, 0)))
  | old (h : l = []) (hs : σ = τ.set b (.cells #[.pointer (some ⟨b, 0, none⟩), .slice none 0 0] 155 (0, 0)))
  | buf (bb cap : Nat) (rest : List Value) (hn : τ.f bb = none) (hne : bb ≠ b) (hc : l.length ≤ cap) (hr : cap ≤ l.length + rest.length)
      (hs : σ = (τ.set b (.cells #[.pointer (some ⟨b, 0, none⟩), .slice (some ⟨bb, 0, none⟩) l.length cap] 155 (0, 0))).set bb (.cells (bytesL l ++ rest).toArray 5 (0, 0)))
end Go.Qw
-- What is written into a builder.
namespace Go.Qw
open Go Go.Proofs

section
variable {E : Env Tryz.prog} {ρ : Rho} {ds : List Deferred} {σ τ : Hp} {dst : Option Tmp} {ty : TypeId} {pos : String} {af : Array Edge} {g : Option (Nat × Bool)} {nx : Rho → List Deferred → Hp → Prop} {pn : List PanicEntry → Hp → Prop}

theorem bytesL_append (a b : List UInt8) : bytesL (a ++ b) = bytesL a ++ bytesL b := by simp [bytesL]
theorem bytesL_length (a : List UInt8) : (bytesL a).length = a.length := by simp [bytesL]
theorem bytesL_scalar (a : List UInt8) : (bytesL a).all isScalarV = true := by simp [bytesL, isScalarV]

theorem Hp.set_comm {σ : Hp} {a b : Nat} {x y : Obj} (h : a ≠ b) : (σ.set a x).set b y = (σ.set b y).set a x :=
  Hp.ext' fun z => by
    simp only [Hp.set]
    by_cases h1 : z = b
    · subst h1; simp [Ne.symm h]
    · simp [h1]
theorem zeroCells_one (z : Value) (n : Nat) : Builtin.zeroCells #[z] n = (List.replicate n z).toArray := by
  apply Array.ext'
  simp only [Builtin.zeroCells, Array.toList_map, Array.toList_range]
  apply List.ext_getElem?
  intro i
  simp only [List.getElem?_map, List.getElem?_replicate]
  by_cases h : i < n
  · rw [List.getElem?_eq_getElem (by simpa using h)]
    simp [h, Nat.mod_one]
  · rw [List.getElem?_eq_none (by simpa using h)]
    simp [h]

set_option maxRecDepth 100000 in
/-- Bytes behind a text that is written. -/
theorem bld_append {b : Nat} {l s : List UInt8} {x y : Operand} {u : TypeId} {sl : Value} (hb : τ.f b = none) (hu : notInt Tryz.prog u = true)
    (hB : BldS τ b l σ) (hs : σ.f b = some (.cells #[.pointer (some ⟨b, 0, none⟩), sl] 155 (0, 0))) (hx : evR ρ x = sl) (hn : lenN (evR ρ y) = some s.length) (hf : firstC σ 1 s.length (evR ρ y) = some (bytesL s).toArray) (hlim : l.length + s.length ≤ 1000000000000)
    (h : ∀ v' σ' σ₀, isScalarV v' = true → σ'.f b = some (.cells #[.pointer (some ⟨b, 0, none⟩), sl] 155 (0, 0)) → σ₀.le (σ'.set b (.cells #[.pointer (some ⟨b, 0, none⟩), v'] 155 (0, 0))) → BldS τ b (l ++ s) σ₀ → nx (putR ρ dst v') ds σ') :
    opQ E ⟨dst, .call ⟨.builtin .append, #[x, y], #[67, u]⟩, ty, pos, af, g⟩ ρ ds σ nx pn := by
  have e10 : el67.z = 1 := rfl
  have e11 : el67.bytes = 1 := rfl
  cases hB with
  | new hl hσ =>
    subst hσ
    rw [Hp.f_set_same] at hs
    simp at hs
  | old hl hσ =>
    subst hl; subst hσ
    rw [Hp.f_set_same] at hs
    simp at hs; subst hs
    refine append_intro el67 (base := none) (l := 0) (c := 0) (n := s.length) (old := #[]) (new := (bytesL s).toArray) hu hx hn rfl (by rw [e10]; exact hf) (by rw [e11]; simp at hlim; omega) (by simp at hlim; omega) ?_ ?_
    · intro hc
      have : s = [] := List.eq_nil_of_length_eq_zero (by omega)
      subst this
      refine ⟨_, rfl, ?_⟩
      refine h _ _ _ rfl (Hp.f_set_same _ _) (Hp.le_refl _) (.old rfl ?_)
      simp only [Hp.set_set, List.length_nil, Nat.zero_add]
    · intro hc bb cap hbb hcap
      have hne : bb ≠ b := by intro e; subst e; rw [Hp.f_set_same] at hbb; cases hbb
      have hbt : τ.f bb = none := by rw [Hp.f_set_ne _ hne] at hbb; exact hbb
      refine h _ _ _ rfl ?_ (Hp.le_refl _) (.buf bb cap (List.replicate (cap - s.length) (.int .u8 0)) hbt hne (by simpa using hcap) (by simp; omega) ?_)
      · rw [Hp.f_set_ne _ (fun e => hne e.symm), Hp.f_set_same]
      · have ez : el67.zero = #[.int .u8 0] := rfl
        rw [ez, zeroCells_one, Hp.set_comm hne, Hp.set_set]
        have e1 : #[] ++ (bytesL s).toArray ++ (List.replicate (cap - (0 + s.length)) (Value.int .u8 0)).toArray = (bytesL s ++ List.replicate (cap - s.length) (Value.int .u8 0)).toArray := by
          apply Array.ext'; simp
        rw [e1]
        simp only [Nat.zero_add, List.nil_append]
        rfl
  | buf bb cap rest hbt hne hc hr hσ =>
    subst hσ
    rw [Hp.f_set_ne _ (fun e => hne e.symm), Hp.f_set_same] at hs
    simp at hs; subst hs
    have hcell : ((τ.set b (.cells #[.pointer (some ⟨b, 0, none⟩), .slice (some ⟨bb, 0, none⟩) l.length cap] 155 (0, 0))).set bb (.cells (bytesL l ++ rest).toArray 5 (0, 0))).f bb = some (.cells (bytesL l ++ rest).toArray 5 (0, 0)) := Hp.f_set_same _ _
    have hold : firstC ((τ.set b (.cells #[.pointer (some ⟨b, 0, none⟩), .slice (some ⟨bb, 0, none⟩) l.length cap] 155 (0, 0))).set bb (.cells (bytesL l ++ rest).toArray 5 (0, 0))) el67.z l.length (.slice (some ⟨bb, 0, none⟩) l.length cap) = some (bytesL l).toArray := by
      rw [e10]
      simp only [firstC, cellsOf, hcell]
      rw [if_pos ⟨trivial, by simp [bytesL_length]⟩]
      congr 1
      apply Array.ext'
      simp [List.extract_eq_take_drop, bytesL_length]
    refine append_intro el67 (base := some ⟨bb, 0, none⟩) (l := l.length) (c := cap) (n := s.length) (old := (bytesL l).toArray) (new := (bytesL s).toArray) hu hx hn hold (by rw [e10]; exact hf) (by rw [e11]; omega) (by omega) ?_ ?_
    · intro hin
      refine ⟨_, ⟨_, _, hcell, rfl, ?_, ?_, rfl⟩, ?_⟩
      · rw [e10]; simp [bytesL_length]; omega
      · have := bytesL_scalar s; simpa using this
      · refine h _ _ _ rfl ?_ (Hp.le_refl _) (.buf bb cap (rest.drop s.length) hbt hne (by simpa using hin) (by simp; omega) ?_)
        · rw [Hp.f_set_ne _ (fun e => hne e.symm), Hp.f_set_ne _ (fun e => hne e.symm), Hp.f_set_same]
        · rw [Hp.set_set, Hp.set_comm hne, Hp.set_set]
          have e1 : (bytesL l ++ rest).toArray.extract 0 (0 + l.length * el67.z) ++ (bytesL s).toArray ++ (bytesL l ++ rest).toArray.extract (0 + l.length * el67.z + (bytesL s).toArray.size) (bytesL l ++ rest).toArray.size = (bytesL (l ++ s) ++ rest.drop s.length).toArray := by
            rw [e10]
            apply Array.ext'
            simp only [Array.toList_append, Array.toList_extract, List.extract_eq_take_drop, List.size_toArray, Nat.zero_add, Nat.mul_one, Nat.sub_zero, List.drop_zero, bytesL_append, bytesL_length, List.append_assoc]
            rw [List.take_append_of_le_length (by rw [bytesL_length]; omega), List.take_of_length_le (by rw [bytesL_length]; omega)]
            congr 2
            rw [List.drop_append, bytesL_length, List.drop_eq_nil_of_le (by rw [bytesL_length]; omega)]
            simp [bytesL_length]
            rw [List.take_of_length_le (by simp; omega)]
          rw [e1]
          simp only [List.length_append]
    · intro hout b2 cap2 hb2 hcap2
      have hn2 : b2 ≠ bb := by intro e; subst e; rw [Hp.f_set_same] at hb2; cases hb2
      have hn3 : b2 ≠ b := by intro e; subst e; rw [Hp.f_set_ne _ (fun e => hne e.symm), Hp.f_set_same] at hb2; cases hb2
      have ht2 : τ.f b2 = none := by rw [Hp.f_set_ne _ hn2, Hp.f_set_ne _ hn3] at hb2; exact hb2
      refine h _ _ ((τ.set b (.cells #[.pointer (some ⟨b, 0, none⟩), .slice (some ⟨b2, 0, none⟩) (l ++ s).length cap2] 155 (0, 0))).set b2 (.cells (bytesL (l ++ s) ++ List.replicate (cap2 - (l.length + s.length)) (Value.int .u8 0)).toArray 5 (0, 0))) rfl ?_ ?_
        (.buf b2 cap2 _ ht2 hn3 (by simpa using hcap2) (by simp; omega) rfl)
      · rw [Hp.f_set_ne _ (fun e => hn3 e.symm), Hp.f_set_ne _ (fun e => hne e.symm), Hp.f_set_same]
      · have ez : el67.zero = #[.int .u8 0] := rfl
        have e1 : (bytesL l).toArray ++ (bytesL s).toArray ++ (List.replicate (cap2 - (l.length + s.length)) (Value.int .u8 0)).toArray = (bytesL (l ++ s) ++ List.replicate (cap2 - (l.length + s.length)) (Value.int .u8 0)).toArray := by
          apply Array.ext'; simp [bytesL_append]
        rw [ez, zeroCells_one, e1, Hp.set_comm hn3, Hp.set_comm hne, Hp.set_set, List.length_append]
        rw [Hp.set_comm (fun e => hn2 e.symm)]
        exact le_set_new (by rw [Hp.f_set_ne _ (fun e => hn2 e.symm), Hp.f_set_ne _ hne]; exact hbt)
end

/-- The copy check, of any writer: behind it the address is noted. -/
theorem copyCheck_c {E : Env Tryz.prog} {τ σ : Hp} {b : Nat} {l : List UInt8} (hB : BldS τ b l σ) :
    CallsE E 117 #[.pointer (some ⟨b, 0, none⟩)] σ fun e' σ' => e' = .returned (.tuple #[]) ∧ BldS τ b l σ' ∧ ∃ sl, σ'.f b = some (.cells #[.pointer (some ⟨b, 0, none⟩), sl] 155 (0, 0)) := by
  cases hB with
  | new hl hs =>
    subst hs
    refine (copyCheck_new (Hp.f_set_same _ _)).mono fun e' σ' ⟨h1, h2⟩ => ⟨h1, ?_, ?_⟩
    · rw [h2, Hp.set_set]; exact .old hl rfl
    · rw [h2]; exact ⟨_, Hp.f_set_same _ _⟩
  | old hl hs =>
    subst hs
    refine (copyCheck_old (Hp.f_set_same _ _)).mono fun e' σ' ⟨h1, h2⟩ => ⟨h1, ?_, ?_⟩
    · rw [h2]; exact .old hl rfl
    · rw [h2]; exact ⟨_, Hp.f_set_same _ _⟩
  | buf bb cap rest hn hne hc hr hs =>
    subst hs
    have hf : ((τ.set b (.cells #[.pointer (some ⟨b, 0, none⟩), .slice (some ⟨bb, 0, none⟩) l.length cap] 155 (0, 0))).set bb (.cells (bytesL l ++ rest).toArray 5 (0, 0))).f b = some (.cells #[.pointer (some ⟨b, 0, none⟩), .slice (some ⟨bb, 0, none⟩) l.length cap] 155 (0, 0)) := by
      rw [Hp.f_set_ne _ (fun e => hne e.symm), Hp.f_set_same]
    refine (copyCheck_old hf).mono fun e' σ' ⟨h1, h2⟩ => ⟨h1, ?_, ?_⟩
    · rw [h2]; exact .buf bb cap rest hn hne hc hr rfl
    · rw [h2]; exact ⟨_, hf⟩
end Go.Qw
-- WriteString, WriteByte, String of a writer.
namespace Go.Qw
open Nat renaming reduceLT → yA, reduceLeDiff → yB, reduceBEq → yC, reduceAdd → yD, reduceSub → yE, reduceMul → yF, reduceEqDiff → yG
open Int renaming reduceToNat → wA, reduceLE → wB, reduceLT → wC, reduceEq → wD, reduceAdd → wE, reduceSub → wF, reduceMul → wG, reduceNeg → wH
open Go Go.Proofs

set_option maxRecDepth 100000 in
theorem writeString_c {E : Env Tryz.prog} {τ σ : Hp} {b : Nat} {l s : List UInt8} (hb : τ.f b = none) (hB : BldS τ b l σ) (hlim : l.length + s.length ≤ 1000000000000) :
    CallsE E 66 #[.pointer (some ⟨b, 0, none⟩), .string (B s)] σ fun e' σ' => e' = .returned (.tuple #[.int .i64 s.length, .nilIface]) ∧ BldS τ b (l ++ s) σ' := by
  refine calls_enter Tryz.func66 Tryz.ntmps66 Tryz.results66 rfl (by simp) fun Q hQn hQr hQp => ?_
  simp only [go_sem, yA, yB, yC, yD, yE, yF, yG, wA, wB, wC, wD, wE, wF, wG, wH]
  refine call_post go_117 (copyCheck_c hB) (fun v σ₁ ⟨h1, hB1, sl, hs⟩ => ?_) (fun ch σ' ⟨h, _⟩ => by cases h)
  simp only [go_sem, yA, yB, yC, yD, yE, yF, yG, wA, wB, wC, wD, wE, wF, wG, wH, hs]
  refine bld_append hb ni_9 hB1 hs (by simp only [go_sem, yA, yB, yC, yD, yE, yF, yG, wA, wB, wC, wD, wE, wF, wG, wH]) (s := s) (by simp only [go_sem, yA, yB, yC, yD, yE, yF, yG, wA, wB, wC, wD, wE, wF, wG, wH, lenN]) ?_ hlim (fun v' σ' σ₀ h0 h1 h2 h3 => ?_)
  · simp only [go_sem, yA, yB, yC, yD, yE, yF, yG, wA, wB, wC, wD, wE, wF, wG, wH, firstC]
    rw [B_extract, bytesV_B]; simp
  · simp only [go_sem, yA, yB, yC, yD, yE, yF, yG, wA, wB, wC, wD, wE, wF, wG, wH, h1, h0]
    refine hQr _ _ _ _ resIs_two h2 ⟨?_, h3⟩
    simp only [go_sem, yA, yB, yC, yD, yE, yF, yG, wA, wB, wC, wD, wE, wF, wG, wH]

/-- A block that stands beside. -/
theorem BldS.frame {τ σ : Hp} {b n : Nat} {l : List UInt8} {o : Obj} (h : BldS τ b l σ) (hn : σ.f n = none) : BldS (τ.set n o) b l (σ.set n o) := by
  cases h with
  | new hl hs =>
    subst hs
    have hne : b ≠ n := fun e => by subst e; rw [Hp.f_set_same] at hn; cases hn
    exact .new hl (Hp.set_comm hne)
  | old hl hs =>
    subst hs
    have hne : b ≠ n := fun e => by subst e; rw [Hp.f_set_same] at hn; cases hn
    exact .old hl (Hp.set_comm hne)
  | buf bb cap rest h1 h2 h3 h4 hs =>
    subst hs
    have n2 : bb ≠ n := fun e => by subst e; rw [Hp.f_set_same] at hn; cases hn
    have n1 : b ≠ n := fun e => by subst e; rw [Hp.f_set_ne _ (fun e => h2 e.symm), Hp.f_set_same] at hn; cases hn
    refine .buf bb cap rest (by rw [Hp.f_set_ne _ n2]; exact h1) h2 h3 h4 ?_
    rw [Hp.set_comm n2, Hp.set_comm n1]
theorem le_set_set {τ τ' : Hp} (h : τ.le τ') (b : Nat) (o : Obj) : (τ.set b o).le (τ'.set b o) := fun x p hx => by
  by_cases e : x = b
  · subst e; rw [Hp.f_set_same] at hx ⊢; exact hx
  · rw [Hp.f_set_ne _ e] at hx ⊢; exact h x p hx
theorem le_set_new' {τ : Hp} {n : Nat} {o : Obj} (hn : τ.f n = none) : τ.le (τ.set n o) := fun x p hx => by
  have : x ≠ n := fun e => by subst e; rw [hn] at hx; cases hx
  rw [Hp.f_set_ne _ this]; exact hx
/-- .. and is forgotten. -/
theorem BldS.forget {τ σ : Hp} {b n : Nat} {l : List UInt8} {o : Obj} (h : BldS (τ.set n o) b l σ) (hn : τ.f n = none) : ∃ σ', σ'.le σ ∧ BldS τ b l σ' := by
  have hle := le_set_new' (o := o) hn
  cases h with
  | new hl hs => subst hs; exact ⟨_, le_set_set hle _ _, .new hl rfl⟩
  | old hl hs => subst hs; exact ⟨_, le_set_set hle _ _, .old hl rfl⟩
  | buf bb cap rest h1 h2 h3 h4 hs =>
    subst hs
    have n2 : bb ≠ n := fun e => by subst e; rw [Hp.f_set_same] at h1; cases h1
    exact ⟨_, le_set_set (le_set_set hle _ _) _ _, .buf bb cap rest (by rw [Hp.f_set_ne _ n2] at h1; exact h1) h2 h3 h4 rfl⟩
theorem BldS.none {τ σ : Hp} {b n : Nat} {l : List UInt8} (h : BldS τ b l σ) (hn : σ.f n = none) : τ.f n = none ∧ n ≠ b := by
  cases h with
  | new hl hs =>
    subst hs
    have hne : n ≠ b := fun e => by subst e; rw [Hp.f_set_same] at hn; cases hn
    rw [Hp.f_set_ne _ hne] at hn; exact ⟨hn, hne⟩
  | old hl hs =>
    subst hs
    have hne : n ≠ b := fun e => by subst e; rw [Hp.f_set_same] at hn; cases hn
    rw [Hp.f_set_ne _ hne] at hn; exact ⟨hn, hne⟩
  | buf bb cap rest h1 h2 h3 h4 hs =>
    subst hs
    have n2 : n ≠ bb := fun e => by subst e; rw [Hp.f_set_same] at hn; cases hn
    rw [Hp.f_set_ne _ n2] at hn
    have hne : n ≠ b := fun e => by subst e; rw [Hp.f_set_same] at hn; cases hn
    rw [Hp.f_set_ne _ hne] at hn; exact ⟨hn, hne⟩

set_option maxRecDepth 100000 in
theorem writeByte_c {E : Env Tryz.prog} {τ σ : Hp} {b : Nat} {l : List UInt8} {y : UInt8} (hb : τ.f b = none) (hB : BldS τ b l σ) (hlim : l.length + 1 ≤ 1000000000000) :
    CallsE E 67 #[.pointer (some ⟨b, 0, none⟩), .int .u8 y.toNat] σ fun e' σ' => e' = .returned .nilIface ∧ BldS τ b (l ++ [y]) σ' := by
  refine calls_enter Tryz.func67 Tryz.ntmps67 Tryz.results67 rfl (by simp) fun Q hQn hQr hQp => ?_
  simp only [go_sem, yA, yB, yC, yD, yE, yF, yG, wA, wB, wC, wD, wE, wF, wG, wH]
  refine call_post go_117 (copyCheck_c hB) (fun v σ₁ ⟨h1, hB1, sl, hs⟩ => ?_) (fun ch σ' ⟨h, _⟩ => by cases h)
  simp only [go_sem, yA, yB, yC, yD, yE, yF, yG, wA, wB, wC, wD, wE, wF, wG, wH, hs]
  refine fun nb hnb => ?_
  obtain ⟨hnt, hnne⟩ := hB1.none hnb
  have hB2 := hB1.frame (o := .cells #[.int .u8 y.toNat] 5 (0, 0)) hnb
  have hs2 : (σ₁.set nb (.cells #[.int .u8 y.toNat] 5 (0, 0))).f b = some (.cells #[.pointer (some ⟨b, 0, none⟩), sl] 155 (0, 0)) := by rw [Hp.f_set_ne _ (fun e => hnne e.symm)]; exact hs
  simp only [go_sem, yA, yB, yC, yD, yE, yF, yG, wA, wB, wC, wD, wE, wF, wG, wH, hs2]
  dsimp only
  refine bld_append (τ := τ.set nb (.cells #[.int .u8 y.toNat] 5 (0, 0))) (l := l) (s := [y]) (by rw [Hp.f_set_ne _ (fun e => hnne e.symm)]; exact hb) (by kernel_rfl) hB2 hs2 (by simp only [go_sem, yA, yB, yC, yD, yE, yF, yG, wA, wB, wC, wD, wE, wF, wG, wH]) (by simp only [go_sem, yA, yB, yC, yD, yE, yF, yG, wA, wB, wC, wD, wE, wF, wG, wH]; rfl) ?_ (by simpa using hlim) (fun v' σ' σ₀ h0 h1 h2 h3 => ?_)
  · simp only [go_sem, yA, yB, yC, yD, yE, yF, yG, wA, wB, wC, wD, wE, wF, wG, wH]
    simp [firstC, cellsOf, Hp.set, bytesL]
  · obtain ⟨σ₂, g1, g2⟩ := h3.forget hnt
    simp only [go_sem, yA, yB, yC, yD, yE, yF, yG, wA, wB, wC, wD, wE, wF, wG, wH, h1, h0]
    exact hQr _ _ _ _ resIs_one (Hp.le_trans g1 h2) ⟨rfl, g2⟩
end Go.Qw
