/- The law Beats of queuewire returns true for every three integers: the row over the given program, tied to its text; no condition besides. (Part 12 of 40: QwBuf4 QwBuf5 QwBuf6 QwBuf7 QwMin QwBuf8.) -/
import Derived.Lib.UnsafeStr
import Derived.Test.YtpiabknabfbfhaaGreatDoorBeats09
import Derived.Test.YtpiabknabfbfhaaGreatDoorBeats11
set_option linter.all false
-- A builder's text.
namespace Go.Qw
open Nat renaming reduceLT → yA, reduceLeDiff → yB, reduceBEq → yC, reduceAdd → yD, reduceSub → yE, reduceMul → yF, reduceEqDiff → yG
open Int renaming reduceToNat → wA, reduceLE → wB, reduceLT → wC, reduceEq → wD, reduceAdd → wE, reduceSub → wF, reduceMul → wG, reduceNeg → wH
open Go Go.Proofs

section
variable {P : Program} {E : Env P} {ρ : Rho} {ds : List Deferred} {σ : Hp} {dst : Option Tmp} {ty : TypeId} {pos : String} {af : Array Edge} {g : Option (Nat × Bool)} {nx : Rho → List Deferred → Hp → Prop} {pn : List PanicEntry → Hp → Prop}
theorem ir_usd {x : Array Operand} {a : Array TypeId} : isRd (.call ⟨.builtin .unsafeSliceData, x, a⟩) = false := _root_.id rfl
theorem ir_us {x : Array Operand} {a : Array TypeId} : isRd (.call ⟨.builtin .unsafeString, x, a⟩) = false := _root_.id rfl
attribute [go_sem] ir_usd ir_us

theorem sliceData_intro {x : Operand} {ats : Array TypeId} {a : Addr} {n c : Nat} (hx : evR ρ x = .slice (some a) n c) (hc : c ≠ 0) (h : nx (putR ρ dst (.pointer (some a))) ds σ) : opQ E ⟨dst, .call ⟨.builtin .unsafeSliceData, #[x], ats⟩, ty, pos, af, g⟩ ρ ds σ nx pn := by
  show wpOp E _ ρ ds σ nx pn
  unfold wpOp
  simp only [execOp, resolve, wpS_bind_eq, wpS_pure', invoke]
  show wpS P (do pure (Next.value (← Builtin.unsafeSliceData_ ats ty (#[x].map (evR ρ)))) : Sem Next) _ _ _
  rw [wpS_val]
  have e1 : #[x].map (evR ρ) = #[.slice (some a) n c] := by simp [hx]
  rw [e1]
  obtain ⟨k, rfl⟩ : ∃ k, c = k + 1 := ⟨c - 1, by omega⟩
  exact h

theorem loadBytes_sound {b : Nat} {Q : ByteArray → Hp → Prop} {H : Halt → Hp → Prop} : ∀ (l : List UInt8) (off : Nat) (acc : ByteArray), (∀ j x, l[j]? = some x → σ.cell? ⟨b, off + j, none⟩ = some (.int .u8 x.toNat)) → Q ⟨acc.data ++ l.toArray⟩ σ → wpS P (loadBytes ⟨b, off, none⟩ acc l.length) Q H σ := by
  intro l
  induction l with
  | nil =>
    intro off acc _ h
    have : (⟨acc.data ++ ([] : List UInt8).toArray⟩ : ByteArray) = acc := by simp
    rw [this] at h; exact h
  | cons x l ih =>
    intro off acc hl h
    have h0 := hl 0 x rfl
    simp only [List.length_cons, loadBytes, wpS_bind_eq]
    refine ⟨_, h0, ?_⟩
    have ha : (⟨b, off, none⟩ : Addr).add 1 = ⟨b, off + 1, none⟩ := by unfold Addr.add; simp
    simp only [ha]
    refine ih (off + 1) _ (fun j y hy => ?_) ?_
    · have := hl (j + 1) y (by simpa using hy)
      rw [show off + 1 + j = off + (j + 1) by omega]; exact this
    · have e : (acc.push ((x.toNat : Int).toNat).toUInt8).data ++ l.toArray = acc.data ++ (x :: l).toArray := by
        have hx : ((x.toNat : Int).toNat).toUInt8 = x := by simp
        rw [hx]; simp [ByteArray.push]
      rw [e]; exact h

theorem string_intro {x y : Operand} {pt it el : TypeId} {bb : Nat} {l : List UInt8} {rest : List Value} (hpt : P.underlying pt = some (.pointer el)) (hel : P.cellsOf el = 1) (hx : evR ρ x = .pointer (some ⟨bb, 0, none⟩)) (hy : evR ρ y = .int .i64 l.length) (hl : l ≠ []) (hlim : l.length ≤ 1000000000000)
    (hb : σ.f bb = some (.cells (bytesL l ++ rest).toArray el (0, 0))) (h : ∀ σ', (∀ b, b ≠ bb → σ'.f b = σ.f b) → nx (putR ρ dst (.string (B l))) ds σ') : opQ E ⟨dst, .call ⟨.builtin .unsafeString, #[x, y], #[pt, it]⟩, ty, pos, af, g⟩ ρ ds σ nx pn := by
  show wpOp E _ ρ ds σ nx pn
  unfold wpOp
  have hn0 : (l.length : Int) ≠ 0 := by
    have : l.length ≠ 0 := fun e => hl (List.eq_nil_of_length_eq_zero e)
    omega
  simp only [execOp, resolve, wpS_bind_eq, wpS_pure', invoke]
  show wpS P (do pure (Next.value (← Builtin.unsafeString_ #[pt, it] ty (#[x, y].map (evR ρ)))) : Sem Next) _ _ _
  rw [wpS_val]
  have e1 : #[x, y].map (evR ρ) = #[.pointer (some ⟨bb, 0, none⟩), .int .i64 l.length] := by simp [hx, hy]
  rw [e1]
  show wpS P (do
    if (l.length : Int) < 0 then runtimePanic (.error "unsafe.String: len out of range")
    if (l.length : Int) > IntKind.i64.max then unsupported (.unsafePointer "String: a length above the largest int")
    if (l.length : Int) = 0 then pure (.string .empty)
    else if ← variablesAt ⟨bb, 0, none⟩ (← elemOf pt) (l.length : Int).toNat then do
      let s ← loadBytes ⟨bb, 0, none⟩ .empty (l.length : Int).toNat
      freeze ⟨bb, 0, none⟩ (l.length : Int).toNat
      pure (.string s)
    else unsupported (.unsafePointer "String: not so many bytes at ptr") : Sem Value) _ _ _
  rw [if_neg (by omega), if_neg (by rw [show IntKind.i64.max = 9223372036854775807 from rfl]; omega), if_neg hn0]
  simp only [wpS_bind_eq, wpS_pure', elemOf, wpS_underlying, hpt, variablesAt, wpS_program, wpS_shape]
  have hsh : σ.shape? bb = some (el, (bytesL l ++ rest).length) := by simp [Hp.shape?, hb]
  rw [hsh]
  have hlen : (bytesL l ++ rest).length = l.length + rest.length := by simp [bytesL]
  refine ⟨by rw [hb]; rfl, ?_⟩
  show wpS P (if liesAt P P.depth el ((bytesL l ++ rest).length / P.cellsOf el) 0 el (l.length : Int).toNat = true then _ else _) _ _ _
  have hla : liesAt P P.depth el ((bytesL l ++ rest).length / P.cellsOf el) 0 el (l.length : Int).toNat = true := by
    rw [hel, Nat.div_one]
    exact Go.Lib.liesAt_bytes hel _ _ (by rw [hlen]; simp)
  rw [if_pos hla]
  rw [wpS_bind_eq]
  have hto : (l.length : Int).toNat = l.length := by simp
  rw [hto]
  refine loadBytes_sound l 0 .empty (fun j x hj => ?_) ?_
  · have hj' : j < l.length := (List.getElem?_eq_some_iff.1 hj).1
    have h1 : (bytesL l ++ rest)[j]? = some (.int .u8 x.toNat) := by
      rw [List.getElem?_append_left (by simpa [bytesL] using hj')]
      simp [bytesL, hj]
    simp [Hp.cell?, hb, h1]
  · have hB : (⟨ByteArray.empty.data ++ l.toArray⟩ : ByteArray) = B l := by
      simp [B]
    rw [hB, wpS_bind_eq, wpS_freeze]
    refine ⟨by simp [hb], h _ fun b hne => ?_⟩
    unfold Hp.freeze
    split
    · rfl
    · simp [Hp.modify, hne]
end

theorem und_240 : ∃ el, Tryz.prog.underlying 240 = some (.pointer el) ∧ el = 5 ∧ Tryz.prog.cellsOf el = 1 := ⟨5, Tryz.underlying240, rfl, by kernel_rfl⟩

set_option maxRecDepth 100000 in
theorem string_c {E : Env Tryz.prog} {τ σ : Hp} {b : Nat} {l : List UInt8} (hb : τ.f b = none) (hB : BldS τ b l σ) (hl : l ≠ []) (hlim : l.length ≤ 1000000000000) :
    CallsE E 68 #[.pointer (some ⟨b, 0, none⟩)] σ fun e' σ' => e' = .returned (.string (B l)) ∧ σ' = τ := by
  cases hB with
  | new h _ => exact absurd h hl
  | old h _ => exact absurd h hl
  | buf bb cap rest h1 h2 h3 h4 hs =>
    have hc : cap ≠ 0 := fun e => hl (List.eq_nil_of_length_eq_zero (by omega))
    have hf : σ.f b = some (.cells #[.pointer (some ⟨b, 0, none⟩), .slice (some ⟨bb, 0, none⟩) l.length cap] 155 (0, 0)) := by rw [hs, Hp.f_set_ne _ (fun e => h2 e.symm), Hp.f_set_same]
    have hbb : σ.f bb = some (.cells (bytesL l ++ rest).toArray 5 (0, 0)) := by rw [hs, Hp.f_set_same]
    have hle : ∀ σ' : Hp, (∀ x, x ≠ bb → σ'.f x = σ.f x) → τ.le σ' := fun σ' hh x o hx => by
      have n1 : x ≠ bb := fun e => by subst e; rw [h1] at hx; cases hx
      have n2 : x ≠ b := fun e => by subst e; rw [hb] at hx; cases hx
      rw [hh x n1, hs, Hp.f_set_ne _ n1, Hp.f_set_ne _ n2]; exact hx
    clear hs
    refine calls_enter Tryz.func68 Tryz.ntmps68 Tryz.results68 rfl (by simp) fun Q hQn hQr hQp => ?_
    simp only [go_sem, yA, yB, yC, yD, yE, yF, yG, wA, wB, wC, wD, wE, wF, wG, wH]
    refine wpC_draw [0, 1, 2, 3, 5, 6, 7, 8, 9, 4, 10, 11] (fun _ _ _ => False) (by kernel_rfl) (by kernel_rfl) (fun _ _ _ _ h => h.elim) ?_
    simp only [go_sem, yA, yB, yC, yD, yE, yF, yG, wA, wB, wC, wD, wE, wF, wG, wH, hf]
    refine sliceData_intro (a := ⟨bb, 0, none⟩) (n := l.length) (c := cap) (by simp only [go_sem, yA, yB, yC, yD, yE, yF, yG, wA, wB, wC, wD, wE, wF, wG, wH]) hc ⟨?_, ?_⟩
    · (repeat (first | exact keeps_nil | (apply keeps_cons; (focus decide +kernel))))
      refine keeps_rd rfl (by simp only [go_sem, yA, yB, yC, yD, yE, yF, yG, wA, wB, wC, wD, wE, wF, wG, wH, hf]) ?_
      (repeat (first | exact keeps_nil | (apply keeps_cons; (focus decide +kernel))))
    simp only [go_sem, yA, yB, yC, yD, yE, yF, yG, wA, wB, wC, wD, wE, wF, wG, wH, hf]
    obtain ⟨el, u1, rfl, u2⟩ := und_240
    refine string_intro (bb := bb) (l := l) (rest := rest) u1 u2 (by simp only [go_sem, yA, yB, yC, yD, yE, yF, yG, wA, wB, wC, wD, wE, wF, wG, wH]) (by simp only [go_sem, yA, yB, yC, yD, yE, yF, yG, wA, wB, wC, wD, wE, wF, wG, wH]) hl hlim hbb fun σ' hh => ⟨by (repeat (first | exact keeps_nil | (apply keeps_cons; (focus decide +kernel)))), ?_⟩
    simp only [go_sem, yA, yB, yC, yD, yE, yF, yG, wA, wB, wC, wD, wE, wF, wG, wH]
    exact hQr _ _ _ _ resIs_one (hle σ' hh) ⟨by simp only [go_sem, yA, yB, yC, yD, yE, yF, yG, wA, wB, wC, wD, wE, wF, wG, wH], rfl⟩
end Go.Qw
-- What a writer writes: numbers.
namespace Go.Qw
open Nat renaming reduceLT → yA, reduceLeDiff → yB, reduceBEq → yC, reduceAdd → yD, reduceSub → yE, reduceMul → yF, reduceEqDiff → yG
open Int renaming reduceToNat → wA, reduceLE → wB, reduceLT → wC, reduceEq → wD, reduceAdd → wE, reduceSub → wF, reduceMul → wG, reduceNeg → wH
open Go Go.Proofs

/-- A number in w bytes, the high one first. -/
def beB (w n : Nat) : List UInt8 := (List.range w).map fun i => (n / 256 ^ (w - 1 - i)).toUInt8
theorem beB_length (w n : Nat) : (beB w n).length = w := by simp [beB]
theorem beB_get {w n i : Nat} (h : i < w) : (beB w n)[i]? = some (n / 256 ^ (w - 1 - i)).toUInt8 := by simp [beB, h]

theorem byte_of {n k : Nat} (hk : k ≤ 7) (hn : n < 9223372036854775808) : IntKind.wrap .u8 (shrZ .i64 (n : Int) ((8 * k : Nat) : Int)) = (((n / 256 ^ k).toUInt8).toNat : Int) := by
  have e0 : IntKind.i64.bits = 64 := rfl
  unfold shrZ
  rw [e0, Int.toNat_natCast, Nat.min_eq_left (by omega)]
  have e1 : (2 : Int) ^ (8 * k) = ((256 ^ k : Nat) : Int) := by
    rw [show (256 : Nat) = 2 ^ 8 by rfl, ← Nat.pow_mul]
    simp
  rw [e1, Int.fdiv_eq_ediv_of_nonneg _ (Int.natCast_nonneg _), ← Int.natCast_ediv, IntKind.wrap_u8]
  have : (n / 256 ^ k).toUInt8.toNat = (n / 256 ^ k) % 256 := by simp
  rw [this]
  omega

set_option maxRecDepth 100000 in
theorem putNum_c {E : Env Tryz.prog} {τ σ : Hp} {b : Nat} {l : List UInt8} {w n : Nat} (hb : τ.f b = none) (hB : BldS τ b l σ) (hw : w ≤ 8) (hn : n < 9223372036854775808) (hlim : l.length + 8 ≤ 1000000000) :
    CallsE E 116 #[.pointer (some ⟨b, 0, none⟩), .int .i64 w, .int .i64 n] σ fun e' σ' => e' = .returned (.pointer (some ⟨b, 0, none⟩)) ∧ BldS τ b (l ++ beB w n) σ' := by
  refine calls_enter Tryz.func116 Tryz.ntmps116 Tryz.results116 rfl (by simp) fun Q hQn hQr hQp => ?_
  simp only [go_sem, yA, yB, yC, yD, yE, yF, yG, wA, wB, wC, wD, wE, wF, wG, wH]
  refine wpC_loop (fun m ρ ds σ => ds = [] ∧ ρ 0 = .pointer (some ⟨b, 0, none⟩) ∧ ρ 2 = .int .i64 n ∧ ρ 7 = .int .i64 ((m : Int) - 1) ∧ ∃ i, i + m = w ∧ BldS τ b (l ++ (beB w n).take i) σ) w ?_ ?_
  · have c1 : IntKind.wrap .i64 ((w : Int) - 1) = (w : Int) - 1 := wrap64 (by omega) (by omega)
    simp only [go_sem, yA, yB, yC, yD, yE, yF, yG, wA, wB, wC, wD, wE, wF, wG, wH, c1]
    exact ⟨0, by omega, by simpa using hB⟩
  · rintro m ρ ds σ X ⟨rfl, h0, h2, h7, i, hi, hB⟩ hX
    cases m with
    | zero =>
      have c1 : ¬ ((0 : Int) ≤ ((0 : Nat) : Int) - 1) := by omega
      simp only [go_sem, yA, yB, yC, yD, yE, yF, yG, wA, wB, wC, wD, wE, wF, wG, wH, h0, h2, h7, c1]
      refine hQr _ _ _ _ resIs_one (Hp.le_refl _) ⟨by simp only [go_sem, yA, yB, yC, yD, yE, yF, yG, wA, wB, wC, wD, wE, wF, wG, wH], ?_⟩
      rw [List.take_of_length_le (by rw [beB_length]; omega)] at hB
      exact hB
    | succ k =>
      have c1 : (0 : Int) ≤ ((k + 1 : Nat) : Int) - 1 := by omega
      have c2 : IntKind.wrap .i64 (8 * (((k + 1 : Nat) : Int) - 1)) = ((8 * k : Nat) : Int) := by rw [wrap64 (by omega) (by omega)]; omega
      have c3 : (0 : Int) ≤ ((8 * k : Nat) : Int) := by omega
      have c4 := byte_of (n := n) (k := k) (by omega) hn
      simp only [go_sem, yA, yB, yC, yD, yE, yF, yG, wA, wB, wC, wD, wE, wF, wG, wH, h0, h2, h7, c1]
      refine wpC_draw [0, 1, 2, 3, 4, 5, 6, 7, 8] (fun _ _ _ => False) (by kernel_rfl) (by decide +kernel) (fun _ _ _ _ h => h.elim) ?_
      simp only [go_sem, yA, yB, yC, yD, yE, yF, yG, wA, wB, wC, wD, wE, wF, wG, wH, h0, h2, h7, c2, c3, c4]
      refine call_post go_67 (writeByte_c hb hB ?_) ?_ ?_
      · simp [beB_length]; omega
      · rintro v σ' ⟨h, hB'⟩
        refine ⟨by (repeat (first | exact keeps_nil | (apply keeps_cons; (focus decide +kernel)))), ?_⟩
        have c5 : IntKind.wrap .i64 (((k + 1 : Nat) : Int) - 1 - 1) = (k : Int) - 1 := by rw [wrap64 (by omega) (by omega)]; omega
        simp only [go_sem, yA, yB, yC, yD, yE, yF, yG, wA, wB, wC, wD, wE, wF, wG, wH, h0, h2, h7, c5]
        refine hX k _ _ _ _ (by omega) ⟨rfl, ?_, ?_, ?_, i + 1, by omega, ?_⟩ (Hp.le_refl _)
        · simp only [go_sem, yA, yB, yC, yD, yE, yF, yG, wA, wB, wC, wD, wE, wF, wG, wH, h0]
        · simp only [go_sem, yA, yB, yC, yD, yE, yF, yG, wA, wB, wC, wD, wE, wF, wG, wH, h2]
        · simp only [go_sem, yA, yB, yC, yD, yE, yF, yG, wA, wB, wC, wD, wE, wF, wG, wH]
        · have e : (beB w n).take (i + 1) = (beB w n).take i ++ [(n / 256 ^ k).toUInt8] := by
            rw [List.take_add_one, beB_get (by omega), show w - 1 - i = k by omega]; rfl
          rw [e, ← List.append_assoc]; exact hB'
      · rintro ch σ' ⟨h, _⟩; cases h
end Go.Qw
-- What a writer writes: arguments.
namespace Go.Qw
open Nat renaming reduceLT → yA, reduceLeDiff → yB, reduceBEq → yC, reduceAdd → yD, reduceSub → yE, reduceMul → yF, reduceEqDiff → yG
open Int renaming reduceToNat → wA, reduceLE → wB, reduceLT → wC, reduceEq → wD, reduceAdd → wE, reduceSub → wF, reduceMul → wG, reduceNeg → wH
open Go Go.Proofs

inductive Arg
  | octet (n : Nat)
  | short (n : Nat)
  | long (n : Nat)
  | longlong (n : Nat)
  | text (s : List UInt8)
  | flag (b : Bool)
def argV : Arg → Value
  | .octet n => .iface 157 (.int .i64 n)
  | .short n => .iface 158 (.int .i64 n)
  | .long n => .iface 159 (.int .i64 n)
  | .longlong n => .iface 237 (.int .i64 n)
  | .text s => .iface 238 (.string (B s))
  | .flag b => .iface 239 (.bool b)
def argB : Arg → List UInt8
  | .octet n => beB 1 n
  | .short n => beB 2 n
  | .long n => beB 4 n
  | .longlong n => beB 8 n
  | .text s => beB 1 s.length ++ s
  | .flag b => beB 1 (if b then 1 else 0)
def argOk : Arg → Prop
  | .octet n | .short n | .long n | .longlong n => n < 9223372036854775808
  | _ => True
def argsB (l : List Arg) : List UInt8 := l.flatMap argB

theorem bld_keep {τ σ : Hp} {b x : Nat} {l : List UInt8} {o : Obj} (h : BldS τ b l σ) (hb : τ.f b = none) (hx : τ.f x = some o) : σ.f x = some o := by
  have hne : x ≠ b := fun e => by subst e; rw [hb] at hx; cases hx
  cases h with
  | new _ hs => rw [hs, Hp.f_set_ne _ hne]; exact hx
  | old _ hs => rw [hs, Hp.f_set_ne _ hne]; exact hx
  | buf bb _ _ h1 _ _ _ hs =>
    have h2 : x ≠ bb := fun e => by subst e; rw [h1] at hx; cases hx
    rw [hs, Hp.f_set_ne _ h2, Hp.f_set_ne _ hne]; exact hx

/-- A slice of arguments. -/
def ArgsAt (τ : Hp) (xs : List Arg) (v : Value) : Prop :=
  (xs = [] ∧ v = .slice none 0 0) ∨ ∃ sb, v = .slice (some ⟨sb, 0, none⟩) xs.length xs.length ∧ τ.f sb = some (.cells (xs.map argV).toArray 20 (0, 0))

set_option maxRecDepth 100000 in
theorem put_c {E : Env Tryz.prog} {τ σ : Hp} {b : Nat} {l : List UInt8} {xs : List Arg} {v : Value} (hb : τ.f b = none) (hB : BldS τ b l σ) (hv : ArgsAt τ xs v) (hok : ∀ a ∈ xs, argOk a) (hn : xs.length ≤ 1000) (hlim : l.length + (argsB xs).length ≤ 900000000) :
    CallsE E 65 #[.pointer (some ⟨b, 0, none⟩), v] σ fun e' σ' => e' = .returned (.tuple #[]) ∧ BldS τ b (l ++ argsB xs) σ' := by
  refine calls_enter Tryz.func65 Tryz.ntmps65 Tryz.results65 rfl (by simp) fun Q hQn hQr hQp => ?_
  have hlen : ∃ bs c, v = .slice bs xs.length c := by
    rcases hv with ⟨rfl, rfl⟩ | ⟨sb, rfl, _⟩
    · exact ⟨_, _, rfl⟩
    · exact ⟨_, _, rfl⟩
  obtain ⟨bs, c, hve⟩ := hlen
  simp only [go_sem, yA, yB, yC, yD, yE, yF, yG, wA, wB, wC, wD, wE, wF, wG, wH, hve]
  refine wpC_loop (fun m ρ ds σ => ds = [] ∧ ∃ i, i + m = xs.length ∧ ρ 0 = .pointer (some ⟨b, 0, none⟩) ∧ ρ 13 = v ∧ ρ 14 = .int .i64 xs.length ∧ ρ 15 = .int .i64 i ∧ BldS τ b (l ++ argsB (xs.take i)) σ) xs.length ?_ ?_
  · refine ⟨rfl, 0, by omega, ?_, ?_, ?_, ?_, ?_⟩
    · simp only [go_sem, yA, yB, yC, yD, yE, yF, yG, wA, wB, wC, wD, wE, wF, wG, wH]
    · simp only [go_sem, yA, yB, yC, yD, yE, yF, yG, wA, wB, wC, wD, wE, wF, wG, wH, hve]
    · simp only [go_sem, yA, yB, yC, yD, yE, yF, yG, wA, wB, wC, wD, wE, wF, wG, wH]
    · simp only [go_sem, yA, yB, yC, yD, yE, yF, yG, wA, wB, wC, wD, wE, wF, wG, wH]; rfl
    · simpa [argsB] using hB
  · rintro m ρ ds σ X ⟨rfl, i, hi, h0, h13, h14, h15, hB⟩ hX
    rcases Nat.lt_or_ge i xs.length with hlt | hge
    · have c1 : (i : Int) < xs.length := by omega
      rcases hv with ⟨rfl, rfl⟩ | ⟨sb, rfl, hsb⟩
      · simp at hlt
      have hsb' := bld_keep hB hb hsb
      have c2 : (0 : Int) ≤ i := by omega
      obtain ⟨a, ha⟩ : ∃ a, xs[i]? = some a := ⟨_, List.getElem?_eq_getElem hlt⟩
      have hcell : (xs.map argV)[i]? = some (argV a) := by simp [ha]
      have htk : argsB (xs.take (i + 1)) = argsB (xs.take i) ++ argB a := by
        rw [List.take_add_one, ha]
        simp [argsB]
      have hlen : (argsB (xs.take i)).length + (argB a).length ≤ (argsB xs).length := by
        have : argsB xs = argsB (xs.take (i + 1)) ++ argsB (xs.drop (i + 1)) := by
          simp only [argsB]; rw [← List.flatMap_append, List.take_append_drop]
        rw [this, htk]; simp
      have c5 : IntKind.wrap .i64 ((i : Int) + 1) = ((i + 1 : Nat) : Int) := by rw [wrap64 (by omega) (by omega)]; omega
      have hoka := hok a (List.mem_of_getElem? ha)
      -- behind the argument
      have fin : ∀ ρ' σ', ρ' 0 = .pointer (some ⟨b, 0, none⟩) → ρ' 13 = .slice (some ⟨sb, 0, none⟩) xs.length xs.length → ρ' 14 = .int .i64 xs.length → ρ' 15 = .int .i64 ((i + 1 : Nat) : Int) → BldS τ b (l ++ argsB (xs.take i) ++ argB a) σ' → X ρ' [] σ' := by
        intro ρ' σ' k0 k13 k14 k15 kB
        refine hX (m - 1) _ _ _ _ (by omega) ⟨rfl, i + 1, by omega, k0, k13, k14, k15, ?_⟩ (Hp.le_refl _)
        rw [htk, ← List.append_assoc]; exact kB
      cases a with
      | octet n =>
        simp only [argV] at hcell
        simp only [go_sem, yA, yB, yC, yD, yE, yF, yG, wA, wB, wC, wD, wE, wF, wG, wH, h0, h13, h14, h15, c1, c2, hsb', hcell]
        refine call_post go_116 (putNum_c (w := 1) hb hB (by omega) hoka (by simp at hlen ⊢; omega)) ?_ ?_
        · rintro v σ' ⟨h, hB'⟩
          simp only [go_sem, yA, yB, yC, yD, yE, yF, yG, wA, wB, wC, wD, wE, wF, wG, wH, h0, h13, h14, h15, c5]
          exact fin _ _ (by simp only [go_sem, yA, yB, yC, yD, yE, yF, yG, wA, wB, wC, wD, wE, wF, wG, wH, h0]) (by simp only [go_sem, yA, yB, yC, yD, yE, yF, yG, wA, wB, wC, wD, wE, wF, wG, wH, h13]) (by simp only [go_sem, yA, yB, yC, yD, yE, yF, yG, wA, wB, wC, wD, wE, wF, wG, wH, h14]) (by simp only [go_sem, yA, yB, yC, yD, yE, yF, yG, wA, wB, wC, wD, wE, wF, wG, wH]) hB'
        · rintro ch σ' ⟨h, _⟩; cases h
      | short n =>
        simp only [argV] at hcell
        simp only [go_sem, yA, yB, yC, yD, yE, yF, yG, wA, wB, wC, wD, wE, wF, wG, wH, h0, h13, h14, h15, c1, c2, hsb', hcell]
        refine call_post go_116 (putNum_c (w := 2) hb hB (by omega) hoka (by simp at hlen ⊢; omega)) ?_ ?_
        · rintro v σ' ⟨h, hB'⟩
          simp only [go_sem, yA, yB, yC, yD, yE, yF, yG, wA, wB, wC, wD, wE, wF, wG, wH, h0, h13, h14, h15, c5]
          exact fin _ _ (by simp only [go_sem, yA, yB, yC, yD, yE, yF, yG, wA, wB, wC, wD, wE, wF, wG, wH, h0]) (by simp only [go_sem, yA, yB, yC, yD, yE, yF, yG, wA, wB, wC, wD, wE, wF, wG, wH, h13]) (by simp only [go_sem, yA, yB, yC, yD, yE, yF, yG, wA, wB, wC, wD, wE, wF, wG, wH, h14]) (by simp only [go_sem, yA, yB, yC, yD, yE, yF, yG, wA, wB, wC, wD, wE, wF, wG, wH]) hB'
        · rintro ch σ' ⟨h, _⟩; cases h
      | long n =>
        simp only [argV] at hcell
        simp only [go_sem, yA, yB, yC, yD, yE, yF, yG, wA, wB, wC, wD, wE, wF, wG, wH, h0, h13, h14, h15, c1, c2, hsb', hcell]
        refine call_post go_116 (putNum_c (w := 4) hb hB (by omega) hoka (by simp at hlen ⊢; omega)) ?_ ?_
        · rintro v σ' ⟨h, hB'⟩
          simp only [go_sem, yA, yB, yC, yD, yE, yF, yG, wA, wB, wC, wD, wE, wF, wG, wH, h0, h13, h14, h15, c5]
          exact fin _ _ (by simp only [go_sem, yA, yB, yC, yD, yE, yF, yG, wA, wB, wC, wD, wE, wF, wG, wH, h0]) (by simp only [go_sem, yA, yB, yC, yD, yE, yF, yG, wA, wB, wC, wD, wE, wF, wG, wH, h13]) (by simp only [go_sem, yA, yB, yC, yD, yE, yF, yG, wA, wB, wC, wD, wE, wF, wG, wH, h14]) (by simp only [go_sem, yA, yB, yC, yD, yE, yF, yG, wA, wB, wC, wD, wE, wF, wG, wH]) hB'
        · rintro ch σ' ⟨h, _⟩; cases h
      | longlong n =>
        simp only [argV] at hcell
        simp only [go_sem, yA, yB, yC, yD, yE, yF, yG, wA, wB, wC, wD, wE, wF, wG, wH, h0, h13, h14, h15, c1, c2, hsb', hcell]
        refine call_post go_116 (putNum_c (w := 8) hb hB (by omega) hoka (by simp at hlen ⊢; omega)) ?_ ?_
        · rintro v σ' ⟨h, hB'⟩
          simp only [go_sem, yA, yB, yC, yD, yE, yF, yG, wA, wB, wC, wD, wE, wF, wG, wH, h0, h13, h14, h15, c5]
          exact fin _ _ (by simp only [go_sem, yA, yB, yC, yD, yE, yF, yG, wA, wB, wC, wD, wE, wF, wG, wH, h0]) (by simp only [go_sem, yA, yB, yC, yD, yE, yF, yG, wA, wB, wC, wD, wE, wF, wG, wH, h13]) (by simp only [go_sem, yA, yB, yC, yD, yE, yF, yG, wA, wB, wC, wD, wE, wF, wG, wH, h14]) (by simp only [go_sem, yA, yB, yC, yD, yE, yF, yG, wA, wB, wC, wD, wE, wF, wG, wH]) hB'
        · rintro ch σ' ⟨h, _⟩; cases h
      | text t =>
        simp only [argV] at hcell
        have ht : t.length ≤ 900000000 := by
          have : (argB (.text t)).length = 1 + t.length := by simp [argB, beB_length]
          omega
        have hl2 : (beB 1 t.length).length = 1 := beB_length _ _
        have hl3 : (argB (.text t)).length = 1 + t.length := by simp [argB, beB_length]
        simp only [go_sem, yA, yB, yC, yD, yE, yF, yG, wA, wB, wC, wD, wE, wF, wG, wH, h0, h13, h14, h15, c1, c2, hsb', hcell]
        refine call_post go_116 (putNum_c (w := 1) hb hB (by omega) (by omega) (by simp at hlen ⊢; omega)) ?_ ?_
        · rintro v σ' ⟨h, hB'⟩
          obtain rfl : v = _ := by injection h
          simp only [go_sem, yA, yB, yC, yD, yE, yF, yG, wA, wB, wC, wD, wE, wF, wG, wH, h0, h13, h14, h15]
          refine call_post go_66 (writeString_c hb hB' (by simp at hlen ⊢; omega)) ?_ ?_
          · rintro v σ'' ⟨h, hB''⟩
            simp only [go_sem, yA, yB, yC, yD, yE, yF, yG, wA, wB, wC, wD, wE, wF, wG, wH, h0, h13, h14, h15, c5]
            refine fin _ _ (by simp only [go_sem, yA, yB, yC, yD, yE, yF, yG, wA, wB, wC, wD, wE, wF, wG, wH, h0]) (by simp only [go_sem, yA, yB, yC, yD, yE, yF, yG, wA, wB, wC, wD, wE, wF, wG, wH, h13]) (by simp only [go_sem, yA, yB, yC, yD, yE, yF, yG, wA, wB, wC, wD, wE, wF, wG, wH, h14]) (by simp only [go_sem, yA, yB, yC, yD, yE, yF, yG, wA, wB, wC, wD, wE, wF, wG, wH]) ?_
            simp only [argB]; rw [← List.append_assoc]; exact hB''
          · rintro ch σ' ⟨h, _⟩; cases h
        · rintro ch σ' ⟨h, _⟩; cases h
      | flag f =>
        simp only [argV] at hcell
        cases f
        all_goals
          simp only [go_sem, yA, yB, yC, yD, yE, yF, yG, wA, wB, wC, wD, wE, wF, wG, wH, h0, h13, h14, h15, c1, c2, hsb', hcell]
          refine call_post go_116 (putNum_c (w := 1) hb hB (by omega) (by decide) (by simp at hlen ⊢; omega)) ?_ ?_
          · rintro v σ' ⟨h, hB'⟩
            simp only [go_sem, yA, yB, yC, yD, yE, yF, yG, wA, wB, wC, wD, wE, wF, wG, wH, h0, h13, h14, h15, c5]
            exact fin _ _ (by simp only [go_sem, yA, yB, yC, yD, yE, yF, yG, wA, wB, wC, wD, wE, wF, wG, wH, h0]) (by simp only [go_sem, yA, yB, yC, yD, yE, yF, yG, wA, wB, wC, wD, wE, wF, wG, wH, h13]) (by simp only [go_sem, yA, yB, yC, yD, yE, yF, yG, wA, wB, wC, wD, wE, wF, wG, wH, h14]) (by simp only [go_sem, yA, yB, yC, yD, yE, yF, yG, wA, wB, wC, wD, wE, wF, wG, wH]) hB'
          · rintro ch σ' ⟨h, _⟩; cases h
    · have c1 : ¬ (i : Int) < xs.length := by omega
      simp only [go_sem, yA, yB, yC, yD, yE, yF, yG, wA, wB, wC, wD, wE, wF, wG, wH, h14, h15, c1]
      refine hQn _ _ _ _ resIs_none (Hp.le_refl _) ⟨rfl, ?_⟩
      rw [List.take_of_length_le (by omega)] at hB
      exact hB
end Go.Qw
-- Frames and methods as bytes.
namespace Go.Qw
open Nat renaming reduceLT → yA, reduceLeDiff → yB, reduceBEq → yC, reduceAdd → yD, reduceSub → yE, reduceMul → yF, reduceEqDiff → yG
open Int renaming reduceToNat → wA, reduceLE → wB, reduceLT → wC, reduceEq → wD, reduceAdd → wE, reduceSub → wF, reduceMul → wG, reduceNeg → wH
open Go Go.Proofs

def frameB (kind ch : Nat) (p : List UInt8) : List UInt8 := beB 1 kind ++ beB 2 ch ++ beB 4 p.length ++ p ++ [206]
theorem frameB_length (kind ch : Nat) (p : List UInt8) : (frameB kind ch p).length = p.length + 8 := by simp [frameB, beB_length]; omega

set_option maxRecDepth 100000 in
theorem frame_c {E : Env Tryz.prog} {σ : Hp} {kind ch : Nat} {p : List UInt8} (hk : kind < 9223372036854775808) (hc : ch < 9223372036854775808) (hp : p.length ≤ 100000000) :
    CallsE E 44 #[.int .i64 kind, .int .i64 ch, .string (B p)] σ fun e' σ' => e' = .returned (.string (B (frameB kind ch p))) ∧ σ' = σ := by
  refine calls_enter Tryz.func44 Tryz.ntmps44 Tryz.results44 rfl (by simp) fun Q hQn hQr hQp => ?_
  simp only [go_sem, yA, yB, yC, yD, yE, yF, yG, wA, wB, wC, wD, wE, wF, wG, wH]
  refine fun b hb => ?_
  simp only [go_sem, yA, yB, yC, yD, yE, yF, yG, wA, wB, wC, wD, wE, wF, wG, wH]
  refine fun sb hsb => ?_
  have hB0 : BldS σ b [] (σ.set b (.cells #[.pointer none, .slice none 0 0] 155 (0, 0))) := .new rfl rfl
  have hne : b ≠ sb := fun e => by subst e; rw [Hp.f_set_same] at hsb; cases hsb
  have hsb0 : σ.f sb = none := by rw [Hp.f_set_ne _ (fun e => hne e.symm)] at hsb; exact hsb
  have hB1 := hB0.frame (o := .cells ([Arg.octet kind, .short ch, .long p.length].map argV).toArray 20 (0, 0)) hsb
  obtain ⟨τ, hτ⟩ : ∃ τ, τ = σ.set sb (.cells ([Arg.octet kind, .short ch, .long p.length].map argV).toArray 20 (0, 0)) := ⟨_, rfl⟩
  rw [← hτ] at hB1
  have hbτ : τ.f b = none := by rw [hτ, Hp.f_set_ne _ hne]; exact hb
  simp only [go_sem, yA, yB, yC, yD, yE, yF, yG, wA, wB, wC, wD, wE, wF, wG, wH]
  refine call_post go_65 (put_c hbτ hB1 (.inr ⟨sb, rfl, by rw [hτ, Hp.f_set_same]⟩) (by simp [argOk, hk, hc]; omega) (by simp) (by simp [argsB, argB, beB_length])) ?_ ?_
  · rintro v σ' ⟨h, hB2⟩
    simp only [go_sem, yA, yB, yC, yD, yE, yF, yG, wA, wB, wC, wD, wE, wF, wG, wH]
    refine call_post go_66 (writeString_c hbτ hB2 (by simp [argsB, argB, beB_length]; omega)) ?_ (fun ch σ' ⟨h, _⟩ => by cases h)
    rintro v σ' ⟨h, hB3⟩
    simp only [go_sem, yA, yB, yC, yD, yE, yF, yG, wA, wB, wC, wD, wE, wF, wG, wH]
    refine call_post go_67 (writeByte_c (y := 206) hbτ hB3 (by simp [argsB, argB, beB_length]; omega)) ?_ (fun ch σ' ⟨h, _⟩ => by cases h)
    rintro v σ' ⟨h, hB4⟩
    simp only [go_sem, yA, yB, yC, yD, yE, yF, yG, wA, wB, wC, wD, wE, wF, wG, wH]
    refine call_ret go_68 (string_c hbτ hB4 (by simp) (by simp [argsB, argB, beB_length]; omega)) ?_
    simp only [go_sem, yA, yB, yC, yD, yE, yF, yG, wA, wB, wC, wD, wE, wF, wG, wH]
    refine hQr _ _ σ _ resIs_one (by rw [hτ]; exact le_set_new' hsb0) ⟨?_, rfl⟩
    simp only [go_sem, yA, yB, yC, yD, yE, yF, yG, wA, wB, wC, wD, wE, wF, wG, wH]
    simp [frameB, argsB, argB]
  · rintro ch σ' ⟨h, _⟩; cases h

def callB (ch cl me : Nat) (xs : List Arg) : List UInt8 := frameB 1 ch (beB 2 cl ++ beB 2 me ++ argsB xs)

set_option maxRecDepth 100000 in
theorem wcall_c {E : Env Tryz.prog} {σ : Hp} {ch cl me : Nat} {xs : List Arg} {v : Value} (hv : ArgsAt σ xs v) (hok : ∀ a ∈ xs, argOk a) (hn : xs.length ≤ 1000) (hc : ch < 9223372036854775808) (hcl : cl < 9223372036854775808) (hme : me < 9223372036854775808) (hlim : (argsB xs).length ≤ 10000000) :
    CallsE E 149 #[.int .i64 ch, .int .i64 cl, .int .i64 me, v] σ fun e' σ' => e' = .returned (.string (B (callB ch cl me xs))) ∧ σ' = σ := by
  refine calls_enter Tryz.func149 Tryz.ntmps149 Tryz.results149 rfl (by simp) fun Q hQn hQr hQp => ?_
  simp only [go_sem, yA, yB, yC, yD, yE, yF, yG, wA, wB, wC, wD, wE, wF, wG, wH]
  refine fun b hb => ?_
  simp only [go_sem, yA, yB, yC, yD, yE, yF, yG, wA, wB, wC, wD, wE, wF, wG, wH]
  refine fun sb hsb => ?_
  have hB0 : BldS σ b [] (σ.set b (.cells #[.pointer none, .slice none 0 0] 155 (0, 0))) := .new rfl rfl
  have hne : b ≠ sb := fun e => by subst e; rw [Hp.f_set_same] at hsb; cases hsb
  have hsb0 : σ.f sb = none := by rw [Hp.f_set_ne _ (fun e => hne e.symm)] at hsb; exact hsb
  have hB1 := hB0.frame (o := .cells ([Arg.short cl, .short me].map argV).toArray 20 (0, 0)) hsb
  obtain ⟨τ, hτ⟩ : ∃ τ, τ = σ.set sb (.cells ([Arg.short cl, .short me].map argV).toArray 20 (0, 0)) := ⟨_, rfl⟩
  rw [← hτ] at hB1
  have hle : σ.le τ := by rw [hτ]; exact le_set_new' hsb0
  have hbτ : τ.f b = none := by rw [hτ, Hp.f_set_ne _ hne]; exact hb
  have hv' : ArgsAt τ xs v := hv.imp id fun ⟨x, h1, h2⟩ => ⟨x, h1, hle _ _ h2⟩
  simp only [go_sem, yA, yB, yC, yD, yE, yF, yG, wA, wB, wC, wD, wE, wF, wG, wH]
  refine call_post go_65 (put_c (xs := [.short cl, .short me]) hbτ hB1 (.inr ⟨sb, rfl, by rw [hτ, Hp.f_set_same]⟩) (by simp [argOk, hcl, hme]) (by simp) (by simp [argsB, argB, beB_length])) ?_ (fun ch σ' ⟨h, _⟩ => by cases h)
  rintro v1 σ' ⟨h, hB2⟩
  simp only [go_sem, yA, yB, yC, yD, yE, yF, yG, wA, wB, wC, wD, wE, wF, wG, wH]
  refine call_post go_65 (put_c hbτ hB2 hv' hok hn (by simp [argsB, argB, beB_length] at hlim ⊢; omega)) ?_ (fun ch σ' ⟨h, _⟩ => by cases h)
  rintro v2 σ' ⟨h, hB3⟩
  simp only [go_sem, yA, yB, yC, yD, yE, yF, yG, wA, wB, wC, wD, wE, wF, wG, wH]
  refine call_ret go_68 (string_c hbτ hB3 ?_ ?_) ?_
  · simp [argsB, argB, beB]
  · simp [argsB, argB, beB_length] at hlim ⊢; omega
  simp only [go_sem, yA, yB, yC, yD, yE, yF, yG, wA, wB, wC, wD, wE, wF, wG, wH]
  refine call_ret go_44 (frame_c (kind := 1) (by omega) hc ?_) ?_
  · simp [argsB, argB, beB_length] at hlim ⊢; omega
  simp only [go_sem, yA, yB, yC, yD, yE, yF, yG, wA, wB, wC, wD, wE, wF, wG, wH]
  refine hQr _ _ σ _ resIs_one hle ⟨?_, rfl⟩
  simp only [go_sem, yA, yB, yC, yD, yE, yF, yG, wA, wB, wC, wD, wE, wF, wG, wH]
  simp [callB, argsB, argB]
end Go.Qw
-- min and max of numbers.
namespace Go.Qw
open Go Go.Conc
section
variable {P : Program} {E : Env P} {ρ : Rho} {ds : List Deferred} {σ : Hp} {dst : Option Tmp} {ty : TypeId} {pos : String} {af : Array Edge} {g : Option (Nat × Bool)} {nx : Rho → List Deferred → Hp → Prop} {pn : List PanicEntry → Hp → Prop}
theorem ir_min {x : Array Operand} {a : Array TypeId} : isRd (.call ⟨.builtin .min, x, a⟩) = false := _root_.id rfl
theorem ir_max {x : Array Operand} {a : Array TypeId} : isRd (.call ⟨.builtin .max, x, a⟩) = false := _root_.id rfl
attribute [go_sem] ir_min ir_max
theorem min_intro {x y : Operand} {ats : Array TypeId} {a b : Int} (hx : evR ρ x = .int .i64 a) (hy : evR ρ y = .int .i64 b) (h : nx (putR ρ dst (.int .i64 (min a b))) ds σ) : opQ E ⟨dst, .call ⟨.builtin .min, #[x, y], ats⟩, ty, pos, af, g⟩ ρ ds σ nx pn := by
  show wpOp E _ ρ ds σ nx pn
  unfold wpOp
  simp only [execOp, resolve, wpS_bind_eq, wpS_pure', invoke]
  show wpS P (do pure (Next.value (← Builtin.min_ ats ty (#[x, y].map (evR ρ)))) : Sem Next) _ _ _
  rw [wpS_val]
  have e1 : #[x, y].map (evR ρ) = #[.int .i64 a, .int .i64 b] := by simp [hx, hy]
  rw [e1]
  simp only [Builtin.min_, List.foldlM, Builtin.min2]
  have e2 : (if b < a then b else a) = min a b := by omega
  rw [e2]
  exact h
theorem max_intro {x y : Operand} {ats : Array TypeId} {a b : Int} (hx : evR ρ x = .int .i64 a) (hy : evR ρ y = .int .i64 b) (h : nx (putR ρ dst (.int .i64 (max a b))) ds σ) : opQ E ⟨dst, .call ⟨.builtin .max, #[x, y], ats⟩, ty, pos, af, g⟩ ρ ds σ nx pn := by
  show wpOp E _ ρ ds σ nx pn
  unfold wpOp
  simp only [execOp, resolve, wpS_bind_eq, wpS_pure', invoke]
  show wpS P (do pure (Next.value (← Builtin.max_ ats ty (#[x, y].map (evR ρ)))) : Sem Next) _ _ _
  rw [wpS_val]
  have e1 : #[x, y].map (evR ρ) = #[.int .i64 a, .int .i64 b] := by simp [hx, hy]
  rw [e1]
  simp only [Builtin.max_, List.foldlM, Builtin.max2]
  have e2 : (if b > a then b else a) = max a b := by omega
  rw [e2]
  exact h
end
end Go.Qw
-- A message's frames.
namespace Go.Qw
open Nat renaming reduceLT → yA, reduceLeDiff → yB, reduceBEq → yC, reduceAdd → yD, reduceSub → yE, reduceMul → yF, reduceEqDiff → yG
open Int renaming reduceToNat → wA, reduceLE → wB, reduceLT → wC, reduceEq → wD, reduceAdd → wE, reduceSub → wF, reduceMul → wG, reduceNeg → wH
open Go Go.Proofs

def partsB (ch m : Nat) : Nat → List UInt8 → List UInt8
  | 0, _ => []
  | f + 1, b => if b = [] then [] else frameB 3 ch (b.take m) ++ partsB ch m f (b.drop m)
def contentB (ch : Nat) (body : List UInt8) (size : Nat) : List UInt8 := frameB 2 ch (beB 2 60 ++ beB 2 0 ++ beB 8 body.length) ++ partsB ch (size - 8) body.length body

end Go.Qw
