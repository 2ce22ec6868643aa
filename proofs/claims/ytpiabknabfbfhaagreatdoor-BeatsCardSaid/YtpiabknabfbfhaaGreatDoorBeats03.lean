/- The law Beats of queuewire returns true for every three integers: the row over the given program, tied to its text; no condition besides. (Part 3 of 40: QwOpT QwRead.) -/
import Derived.Test.YtpiabknabfbfhaaGreatDoorBeats02
set_option linter.all false
-- 'opQ' is sound for the model's operations: the theorem.
namespace Go.Qw
open Go Go.Conc

section
variable {P : Program} {E : Env P} {ρ : Rho} {ds : List Deferred} {σ : Hp} {nx : Rho → List Deferred → Hp → Prop} {pn : List PanicEntry → Hp → Prop}

theorem invoke_func {A : Next → Hp → Prop} {H : Halt → Hp → Prop} {f : FuncId} {args cap : Array Value} (k : wpS P (callFunc f (args ++ cap)) A H σ) : wpS P (invoke (.fn (.func f) cap) args) A H σ := k

theorem indexAt_sound {A : Value → Hp → Prop} {H : Halt → Hp → Prop} {t e : TypeId} {a : Addr} {n c : Nat} {kk : IntKind} {i : Int} (hu : P.underlying t = some (.slice e)) (h0 : 0 ≤ i) (h1 : i < n) (hi : (P.info? e).isSome = true)
    (k : A (.pointer (some (a.add (i.toNat * sizeT P e)))) σ) : wpS P (Instr.indexAt t (.slice (some a) n c) (.int kk i)) A H σ := by
  obtain ⟨ti, hti⟩ := Option.isSome_iff_exists.1 hi
  unfold Instr.indexAt
  simp only [wpS_bind_eq, asIntOf, wpS_pure', wpS_underlying, hu]
  have ht : (decide (n ≤ 1) && false) = false := by simp
  rw [if_pos ⟨h0, h1⟩]
  simp only [wpS_bind_eq, sizeOf, wpS_typeInfo, hti, wpS_pure']
  simpa [sizeT, hti] using k

theorem index_sound {A : Value → Hp → Prop} {H : Halt → Hp → Prop} {t : TypeId} {s : ByteArray} {kk : IntKind} {i : Int} (hu : P.underlying t = some .string) (h : 0 ≤ i ∧ i.toNat < s.size)
    (k : A (.int .u8 (s[i.toNat]'h.2).toNat) σ) : wpS P (Instr.index t (.string s) (.int kk i)) A H σ := by
  unfold Instr.index
  simp only [wpS_bind_eq, asIntOf, wpS_pure', wpS_underlying, hu]
  rw [if_pos h.1]
  have : s[i.toNat]? = some (s[i.toNat]'h.2) := getElem?_pos s i.toNat h.2
  rw [this]
  exact k

/-- ████ ████ -/
theorem build_sound {dst : Option Tmp} {ty : TypeId} {pos : String} {af : Array Edge} {g : Option (Nat × Bool)} {t : TypeId} {parts : Array (Nat × Operand)} {z : Value} {pl : List (Nat × Nat)} {r : List Value} (hz : zeroT P t = some z) (hp : placesT P t = some pl)
    (hr : fillL pl z.cells.toList (parts.toList.map fun (i, x) => (i, evR ρ x)) = some r) (h : nx (putR ρ dst (.agg r.toArray)) ds σ) : wpOp E ⟨dst, .build t parts, ty, pos, af, g⟩ ρ ds σ nx pn := by
  unfold wpOp
  simp only [execOp, wpS_val, Instr.build, zeroValue, wpS_bind_eq, wpS_typeInfo]
  unfold zeroT at hz
  cases hi : P.info? t with
  | none => rw [hi] at hz; cases hz
  | some i =>
    rw [hi] at hz
    simp only at hz
    simp only [hz, wpS_pure']
    unfold placesT at hp
    split at hp
    · rename_i fields hu
      simp only [wpS_underlying, hu, wpS_bind_eq]
      rw [Array.mapM_eq_mapM_toList, wpS_map_eq]
      refine wpS_mapM_pure (h := fun f => (P.info? f.type).map fun i => (f.offset, i.size)) ?_ _ pl _ _ _ hp ?_
      · intro a b Q H σ hb hq
        obtain ⟨j, hj, rfl⟩ := Option.map_eq_some_iff.1 hb
        simp only [wpS_bind_eq, sizeOf, wpS_typeInfo, hj, wpS_pure']
        exact hq
      · have e2 : (parts.map fun (i, x) => (i, evR ρ x)).toList = parts.toList.map fun (i, x) => (i, evR ρ x) := by simp
        have := fill_list pl (place := fun i => (pl.toArray)[i]?) (fun i x hx => by simpa using hx) _ _ _ hr
        rw [Array.toArray_toList] at this
        simp only [e2, this, wpS_pure']
        exact h
    · cases hp

theorem buildSlice_sound {dst : Option Tmp} {ty : TypeId} {pos : String} {af : Array Edge} {g : Option (Nat × Bool)} {t : TypeId} {n : Nat} {parts : Array (Nat × Operand)} {e : TypeId} {pl : List (Nat × Nat)} {zs r : List Value} (hb : bsT P t n = some (e, pl, zs))
    (hr : fillL pl zs (parts.toList.map fun (i, x) => (i, evR ρ x)) = some r) (h : ∀ b, σ.f b = none → nx (putR ρ dst (.slice (some ⟨b, 0, none⟩) n n)) ds (σ.set b (.cells r.toArray e))) : wpOp E ⟨dst, .buildSlice t n parts, ty, pos, af, g⟩ ρ ds σ nx pn := by
  unfold wpOp
  simp only [execOp, wpS_val, Instr.buildSlice, wpS_bind_eq, wpS_underlying]
  unfold bsT at hb
  split at hb
  · rename_i e' hu
    simp only [hu]
    cases hi : P.info? e' with
    | none => rw [hi] at hb; cases hb
    | some i =>
      rw [hi] at hb
      simp only at hb
      have e2 : (parts.map fun (i, x) => (i, evR ρ x)).toList = parts.toList.map fun (i, x) => (i, evR ρ x) := by simp
      have hpl : ∀ (k : Nat) (x : Nat × Nat), ((List.range n).map fun k => (k * i.size, i.size))[k]? = some x → (fun k => some (k * i.size, i.size)) k = some x := by
        intro k x hx
        obtain ⟨m, hm, rfl⟩ := Option.map_eq_some_iff.1 (by simpa using hx : ((List.range n)[k]?).map (fun k => (k * i.size, i.size)) = some x)
        have := List.getElem?_eq_some_iff.1 hm
        obtain ⟨_, h2⟩ := this
        simp at h2; subst h2; rfl
      split at hb
      · cases hb
      · rename_i hsz
        split at hb
        · rename_i h0
          cases hb
          simp only [sizeOf, wpS_bind_eq, wpS_typeInfo, hi, wpS_pure']
          rw [if_neg hsz]
          simp only [wpS_bind_eq, wpS_pure', h0, if_true]
          have := fill_list _ hpl _ _ _ hr
          simp only [e2]
          have e3 : ((Array.range 0).map fun x => (#[] : Array Value)[x % (#[] : Array Value).size]!) = ([] : List Value).toArray := by
            apply Array.ext'; simp
          rw [e3, this]
          simp only [wpS_pure', newRow, wpS_bind_eq, wpS_newObj]
          exact h
        · rename_i h0
          split at hb
          · rename_i z hz
            cases hb
            simp only [sizeOf, wpS_bind_eq, wpS_typeInfo, hi, wpS_pure']
            rw [if_neg hsz]
            simp only [wpS_pure', wpS_bind_eq, zeroValue, wpS_typeInfo, hi]
            rw [if_neg h0]
            simp only [wpS_bind_eq, wpS_typeInfo, hi, hz, wpS_pure']
            have := fill_list _ hpl _ _ _ hr
            simp only [e2]
            have e3 : ((Array.range (n * i.size)).map fun x => z.cells[x % z.cells.size]!) = ((List.range (n * i.size)).map fun k => z.cells[k % z.cells.size]!).toArray := by
              apply Array.ext'
              simp
            rw [e3, this]
            simp only [wpS_pure', newRow, wpS_bind_eq, wpS_newObj]
            exact h
          · cases hb
  · cases hb

theorem taV_sound {dst : Option Tmp} {ty : TypeId} {pos : String} {af : Array Edge} {g : Option (Nat × Bool)} {t a : TypeId} {x : Operand} {v : Value} (hv : taV P a (evR ρ x) = some v) (h : nx (putR ρ dst v) ds σ) : wpOp E ⟨dst, .typeAssert x t a true, ty, pos, af, g⟩ ρ ds σ nx pn := by
  unfold wpOp
  simp only [execOp, wpS_val, Instr.typeAssert, wpS_bind_eq, wpS_underlying]
  have hzz : ∀ z, zeroT P a = some z → ∀ (Q : Value → Hp → Prop) (H : Halt → Hp → Prop), Q z σ → wpS P (zeroValue a) Q H σ := by
    intro z hz Q H hq
    simp only [zeroValue, wpS_bind_eq, wpS_typeInfo]
    unfold zeroT at hz
    cases hi : P.info? a with
    | none => rw [hi] at hz; cases hz
    | some i => rw [hi] at hz; simp only at hz; simp only [hz]; exact hq
  unfold taV at hv
  split at hv
  · rename_i u w hx
    rw [hx]
    cases hu : P.underlying a with
    | none => rw [hu] at hv; cases hv
    | some d =>
      rw [hu] at hv
      cases d with
      | interface m => cases hv
      | _ =>
        simp only at hv ⊢
        split at hv
        · rename_i hc
          cases hv
          rw [if_pos hc]; exact h
        · rename_i hc
          obtain ⟨z, hz, rfl⟩ := Option.map_eq_some_iff.1 hv
          rw [if_neg hc]
          simp only [if_true, wpS_bind_eq]
          exact hzz z hz _ _ h
  · rename_i hx
    rw [hx]
    cases hu : P.underlying a with
    | none => rw [hu] at hv; cases hv
    | some d =>
      rw [hu] at hv
      cases d with
      | interface m => cases hv
      | _ =>
        simp only at hv ⊢
        obtain ⟨z, hz, rfl⟩ := Option.map_eq_some_iff.1 hv
        simp only [if_true, wpS_bind_eq]
        exact hzz z hz _ _ h
  · cases hv

theorem strBytes_sound {dst : Option Tmp} {ty : TypeId} {pos : String} {af : Array Edge} {g : Option (Nat × Bool)} {src d e : TypeId} {x : Operand} {s : ByteArray} (he : u8T P src d = some e) (hx : evR ρ x = .string s)
    (h : ∀ b pad z, σ.f b = none → nx (putR ρ dst (.slice (some ⟨b, 0, none⟩) s.size (s.size + pad))) ds (σ.set b (.cells (bytesV s ++ Array.replicate pad (.int .u8 0)) e z))) : wpOp E ⟨dst, .convert src d x, ty, pos, af, g⟩ ρ ds σ nx pn := by
  unfold wpOp
  simp only [execOp, wpS_val, convert, wpS_bind_eq, wpS_underlying]
  unfold u8T at he
  split at he
  · rename_i e' hs hd
    split at he
    · rename_i hu
      cases he
      simp only [hs, hd, hx, wpS_bind_eq, wpS_underlying, hu, Conv.stringToBytes, wpS_choose]
      rw [if_neg (by simp [Question.forced])]
      intro t b hb
      simp only [markStringish, newRow, wpS_bind_eq, wpS_newObj, wpS_pure', wpS_shape]
      show (_ ∧ _)
      refine ⟨by simp [Hp.set], ?_⟩
      have e1 : (σ.set b (Obj.cells (s.data.map (fun b => Value.int IntKind.u8 b.toNat) ++ Array.replicate ((Question.appendCap s.size 0 e).cut t - s.size) (Value.int IntKind.u8 0)) e)).shape? b =
          some (e, (s.data.map (fun b => Value.int IntKind.u8 b.toNat) ++ Array.replicate ((Question.appendCap s.size 0 e).cut t - s.size) (Value.int IntKind.u8 0)).size) := by
        simp [Hp.shape?, Hp.set]
      rw [e1]
      simp only [wpS_freeze]
      refine ⟨by simp [Hp.set], ?_⟩
      have hcap : (Question.appendCap s.size 0 e).cut t = s.size + ((Question.appendCap s.size 0 e).cut t - s.size) := by
        simp only [Question.cut]; omega
      have hz := h b ((Question.appendCap s.size 0 e).cut t - s.size)
      rw [← hcap] at hz
      have e2 : ∀ n, ∃ z, ((σ.set b (Obj.cells (s.data.map (fun b => Value.int IntKind.u8 b.toNat) ++ Array.replicate ((Question.appendCap s.size 0 e).cut t - s.size) (Value.int IntKind.u8 0)) e)).freeze { block := b, off := n } 1) =
          σ.set b (Obj.cells (bytesV s ++ Array.replicate ((Question.appendCap s.size 0 e).cut t - s.size) (Value.int IntKind.u8 0)) e z) := by
        intro n
        refine ⟨(n, n + 1), Hp.ext' fun x => ?_⟩
        simp only [Hp.freeze, Hp.modify, Hp.set, bytesV]
        by_cases hxb : x = b <;> simp [hxb, cellFreeze]
      obtain ⟨z, hz2⟩ := e2 _
      rw [hz2]
      exact hz z hb
    · cases he
  · cases he

theorem opQ_sound {o : Oper} (h : opQ E o ρ ds σ nx pn) : wpOp E o ρ ds σ nx pn := by
  obtain ⟨dst, op, type, pos, after, guard⟩ := o
  cases op with
  | move x => exact h
  | assign x => exact h
  | pick c a b =>
    simp only [opQ] at h
    unfold wpOp
    simp only [execOp, wpS_bind_eq]
    split at h
    · rename_i hc; rw [hc]; exact h
    · rename_i hc; rw [hc]; exact h
    · exact h.elim
  | alloc t =>
    simp only [opQ] at h
    unfold wpOp
    simp only [execOp, wpS_val, Instr.alloc, zeroValue, wpS_bind_eq, wpS_typeInfo]
    unfold zeroT at h
    cases hi : P.info? t with
    | none => rw [hi] at h; exact h.elim
    | some i =>
      rw [hi] at h
      cases hz : i.zero with
      | none => simp only [hz] at h
      | some z =>
        simp only [hz] at h ⊢
        exact h
  | box t x => exact h
  | build t parts =>
    simp only [opQ] at h
    split at h
    · rename_i z pl hz hp
      split at h
      · rename_i r hr
        exact build_sound hz hp hr h
      · exact h.elim
    · exact h
  | buildSlice t n parts =>
    simp only [opQ] at h
    split at h
    · rename_i e pl zs hb
      split at h
      · rename_i r hr
        exact buildSlice_sound hb hr h
      · exact h.elim
    · exact h
  | insert t m k v => exact h
  | load t x =>
    simp only [opQ] at h
    unfold wpOp
    simp only [execOp, wpS_val, Instr.loadAt, wpS_bind_eq]
    split at h
    · rename_i a hx
      rw [hx]
      exact ldQ_sound h.1 h.2
    · exact h.elim
  | store t x v =>
    simp only [opQ] at h
    unfold wpOp
    simp only [execOp, wpS_unit, Instr.storeAt, wpS_bind_eq]
    split at h
    · rename_i a hx
      rw [hx]
      exact stQ_sound h.1 h.2
    · exact h.elim
  | ready g => exact h
  | waits g => exact h
  | nilCheck x =>
    simp only [opQ] at h
    unfold wpOp
    simp only [execOp]
    split at h
    · rename_i a hx; rw [hx]; exact h
    · rename_i f l c hx; rw [hx]; exact h
    · exact h.elim
  | binOp op t x y t2 =>
    simp only [opQ] at h
    cases hb : binV op (evR ρ x) (evR ρ y) with
    | some v =>
      rw [hb] at h
      unfold wpOp
      simp only [execOp, wpS_val, wpS_bind_eq]
      have hn := binV_nagg hb
      exact eqGuard_triv (binV_sound hb h) ⟨hn.1, fun e => absurd e hn.2⟩
    | none =>
      rw [hb] at h
      cases hv : nilV P op t (evR ρ x) (evR ρ y) with
      | some v =>
        rw [hv] at h
        unfold wpOp
        simp only [execOp, wpS_val, wpS_bind_eq]
        have hn := nilV_nagg hv
        exact eqGuard_triv (nilV_sound hv h) ⟨hn.1, fun e e' => absurd e' (hn.2 e)⟩
      | none =>
        rw [hv] at h
        cases hw : nilNil P op t x y (evR ρ x) (evR ρ y) with
        | some v =>
          rw [hw] at h
          unfold wpOp
          simp only [execOp, wpS_val]
          exact nilNil_sound hw h
        | none => rw [hw] at h; exact h
  | unOp op t x =>
    simp only [opQ] at h
    unfold wpOp
    simp only [execOp, wpS_val]
    split at h
    · rename_i v hv; exact unV_sound hv h
    · exact h.elim
  | convert s d x =>
    simp only [opQ] at h
    split at h
    · rename_i v hv
      unfold wpOp
      simp only [execOp, wpS_val]
      exact convV_sound hv h
    · split at h
      · rename_i e b he hb
        exact strBytes_sound he hb h
      · exact h
  | sliceToArrayPointer d x => exact h
  | makeInterface t x =>
    simp only [opQ] at h
    unfold wpOp
    simp only [execOp, wpS_val, Instr.makeInterface, wpS_bind_eq, wpS_underlying]
    split at h
    · exact h.elim
    · rename_i d hn hd
      rw [hd]
      cases d <;> first | exact absurd rfl (hn _) | exact h
    · exact h.elim
  | makeFunc fn l c => exact h
  | makeMap t r =>
    cases r with
    | none => exact h
    | some r => exact h
  | makeChan t s => exact h
  | makeSlice t l c => exact h
  | slice t x lo hi mx =>
    simp only [opQ] at h
    split at h
    · rename_i s hu hx
      unfold wpOp
      simp only [execOp, wpS_val, Instr.sliceAt, Instr.slice, wpS_bind_eq, wpS_underlying, hu, hx]
      split at h
      · rename_i l hh hl hhh
        obtain ⟨⟨h0, h1, h2⟩, hk⟩ := h
        simp only [Option.map_none, Option.isSome_none, Bool.false_eq_true, if_false]
        simp only [wpS_bind_eq, wpS_pure']
        exact sliceBounds_sound hl hhh h0 h1 h2 hk
      · exact h.elim
    · rename_i e a n c hu hx
      unfold wpOp
      simp only [execOp, wpS_val, Instr.sliceAt, Instr.slice, wpS_bind_eq, wpS_underlying, hu, hx]
      split at h
      · rename_i l hh hl hhh
        obtain ⟨⟨h0, h1, h2, h3⟩, hk⟩ := h
        obtain ⟨i, hi⟩ := Option.isSome_iff_exists.1 h3
        refine sliceBounds_sound hl hhh h0 h1 h2 ?_
        simp only [sizeOf, wpS_bind_eq, wpS_typeInfo, hi, wpS_pure']
        have : sizeT P e = i.size := by simp [sizeT, hi]
        rw [this] at hk
        exact hk
      · exact h.elim
    · exact h
  | fieldAddr s x f =>
    simp only [opQ] at h
    unfold wpOp
    simp only [execOp, wpS_val, Instr.fieldAt, wpS_bind_eq, wpS_underlying]
    split at h
    · rename_i a off hx hf
      obtain ⟨fs, fx, i, hu, hg, hi, hz, rfl⟩ := fieldOff_elim hf
      rw [hu]
      simp only
      rw [hg]
      simp only [hx, fieldPlace, sizeOf, wpS_bind_eq, wpS_typeInfo, hi, Instr.sureAddr, wpS_pure']
      rw [if_neg hz]
      exact h
    · exact h.elim
  | field t x f => exact h
  | indexAddr t x i =>
    simp only [opQ] at h
    split at h
    · rename_i e a n c kk k hs hx hi
      unfold wpOp
      simp only [execOp, wpS_val, hx, hi]
      obtain ⟨⟨h0, h1, h2⟩, hk⟩ := h
      exact indexAt_sound (sliceElem_elim hs) h0 h1 h2 hk
    · exact h
  | index t x i =>
    simp only [opQ] at h
    split at h
    · rename_i s kk k hu hx hi
      obtain ⟨hh, hk⟩ := h
      unfold wpOp
      simp only [execOp, wpS_val, hx, hi]
      exact index_sound hu hh hk
    · exact h
  | lookup t x i ok => exact h
  | mapUpdate t m k v => exact h
  | mapEntry t m k => exact h
  | entryStore t m k v => exact h
  | range t x => exact h
  | next i s => exact h
  | entry i => exact h
  | typeAssert x t a ok =>
    cases ok with
    | false => exact h
    | true =>
      simp only [opQ] at h
      split at h
      · rename_i v hv
        exact taV_sound hv h
      · exact h
  | extract x i =>
    simp only [opQ] at h
    unfold wpOp
    simp only [execOp, wpS_val, Instr.extract]
    split at h
    · rename_i vs hx
      rw [hx]
      simp only
      split at h
      · rename_i v hv; rw [hv]; exact h
      · exact h.elim
    · exact h.elim
  | call c =>
    simp only [opQ] at h
    split at h
    · rename_i f hc
      unfold wpOp
      simp only [execOp, resolve, hc, evR, Deferred.ofValue, wpS_bind_eq, wpS_pure']
      refine invoke_func ?_
      simpa using callQ_sound h
    · rename_i x hc
      split at h
      · rename_i f l cap hx
        unfold wpOp
        simp only [execOp, resolve, hc, evR, hx, Deferred.ofValue, wpS_bind_eq, wpS_pure']
        exact invoke_func (callQ_sound h)
      · exact h
    · rename_i hc
      split at h
      · rename_i t x ht hx
        split at h
        · rename_i v h1 h2
          unfold wpOp
          simp only [execOp, resolve, hc, wpS_bind_eq, wpS_pure', invoke, builtin, Builtin.len_, ht, hx]
          unfold lenT at h1
          split at h1
          · rename_i s hu
            rw [wpS_underlying, hu]
            simp only [lenV, Option.some.injEq] at h2
            subst h2
            exact h
          · rename_i e a n c hu
            rw [wpS_underlying, hu]
            simp only [lenV, Option.some.injEq] at h2
            subst h2
            exact h
          · cases h1
        · exact h
      · exact h
    · exact h
  | go c => exact h
  | defer c => exact h
  | panic x =>
    simp only [opQ] at h
    unfold wpOp
    simp only [execOp, wpS_val, Instr.panic]
    obtain ⟨h1, h2⟩ := h
    split at h2
    · rename_i t v hx; rw [hx] at h1 ⊢; exact h1
    · exact h2.elim
  | send c x => exact h
  | recv t c ok => exact h
  | select cs b => exact h
end
end Go.Qw
-- Operations that only read: what they yield.
namespace Go.Qw
open Go Go.Conc

/-- A variable, as it reads. -/
def ldV (P : Program) (t : TypeId) (a : Addr) (σ : Hp) : Option Value :=
  if aggT P t then (cellsOf σ a (sizeT P t)).map .agg else σ.cell? a

/-- What an operation that only reads yields. -/
def readV (P : Program) (op : Op) (ρ : Rho) (σ : Hp) : Option Value :=
  match op with
  | .move x | .assign x => some (evR ρ x)
  | .pick c a b => match evR ρ c with
    | .bool true => some (evR ρ a)
    | .bool false => some (evR ρ b)
    | _ => none
  | .load t x => match evR ρ x with
    | .pointer (some a) => if isT P t then ldV P t a σ else none
    | _ => none
  | .nilCheck x => match evR ρ x with
    | .pointer (some a) => some (.pointer (some a))
    | .func (.func f) l c => some (.func (.func f) l c)
    | _ => none
  | .fieldAddr s x f => match evR ρ x, fieldOff P s f with
    | .pointer (some a), some off => some (.pointer (some (a.add off)))
    | _, _ => none
  | .binOp op t x y _ => match binV op (evR ρ x) (evR ρ y) with
    | some v => some v
    | none => match nilV P op t (evR ρ x) (evR ρ y) with
      | some v => some v
      | none => nilNil P op t x y (evR ρ x) (evR ρ y)
  | .unOp op _ x => unV op (evR ρ x)
  | .convert src dst x => convV P src dst (evR ρ x)
  | .makeInterface t x => match P.underlying t with
    | some (.interface _) => none
    | some _ => some (.iface t (evR ρ x))
    | none => none
  | .makeFunc fn l c => some (.func fn (l.map (evR ρ)) (c.map (evR ρ)))
  | .extract x i => match evR ρ x with
    | .tuple vs => vs[i]?
    | _ => none
  | .indexAddr t x i => match sliceElem P t, evR ρ x, evR ρ i with
    | some e, .slice (some a) n _, .int _ k => if 0 ≤ k ∧ k < n ∧ (P.info? e).isSome = true then some (.pointer (some (a.add (k.toNat * sizeT P e)))) else none
    | _, _, _ => none
  | .index t x i => match P.underlying t, evR ρ x, evR ρ i with
    | some .string, .string s, .int _ k => if h : 0 ≤ k ∧ k.toNat < s.size then some (.int .u8 (s[k.toNat]'h.2).toNat) else none
    | _, _, _ => none
  | .slice t x lo hi none => match P.underlying t, evR ρ x with
    | some .string, .string s => match sliceLo (lo.map (evR ρ)), sliceHi s.size (hi.map (evR ρ)) with
      | some l, some h => if 0 ≤ l ∧ l ≤ h ∧ h ≤ s.size then some (.string (s.extract l.toNat h.toNat)) else none
      | _, _ => none
    | some (.slice e), .slice a n c => match sliceLo (lo.map (evR ρ)), sliceHi n (hi.map (evR ρ)) with
      | some l, some h => if 0 ≤ l ∧ l ≤ h ∧ h ≤ c ∧ (P.info? e).isSome = true then
          some (.slice (if c = l.toNat then a else a.map (·.add (l.toNat * sizeT P e))) (h.toNat - l.toNat) (c - l.toNat)) else none
      | _, _ => none
    | _, _ => none
  | .call ⟨.builtin .len, as, ats⟩ => match ats[0]?, (as.map (evR ρ))[0]? with
    | some t, some x => if lenT P t x then lenV x else none
    | _, _ => none
  | _ => none

theorem ldV_ldQ {P : Program} {t : TypeId} {a : Addr} {σ : Hp} {v : Value} {k : Value → Prop} (h : ldV P t a σ = some v) (hk : k v) : ldQ P t a σ k := by
  unfold ldV at h
  unfold ldQ
  split
  · rename_i hc
    rw [if_pos hc] at h
    obtain ⟨cs, h1, rfl⟩ := Option.map_eq_some_iff.1 h
    rw [h1]; exact hk
  · rename_i hc
    rw [if_neg hc] at h
    rw [h]; exact hk

section
variable {P : Program} {E : Env P} {ρ : Rho} {ds : List Deferred} {σ : Hp} {nx : Rho → List Deferred → Hp → Prop} {pn : List PanicEntry → Hp → Prop}

theorem readV_opQ {o : Oper} {v : Value} (h : readV P o.op ρ σ = some v) (k : nx (putR ρ o.dst v) ds σ) : opQ E o ρ ds σ nx pn := by
  obtain ⟨dst, op, type, pos, after, guard⟩ := o
  unfold readV at h
  simp only at h k
  split at h
  case h_1 => obtain rfl := Option.some.inj h; exact k
  case h_2 => obtain rfl := Option.some.inj h; exact k
  case h_3 =>
    simp only [opQ]
    split at h <;> first | (cases h; done) | (rename_i hc; obtain rfl := Option.some.inj h; rw [hc]; exact k)
  case h_4 =>
    simp only [opQ]
    split at h
    · rename_i a hx
      split at h
      · rename_i ht
        rw [hx]
        exact ⟨ht, ldV_ldQ h k⟩
      · cases h
    · cases h
  case h_5 =>
    simp only [opQ]
    split at h <;> first | (cases h; done) | (rename_i hc; obtain rfl := Option.some.inj h; rw [hc]; exact k)
  case h_6 =>
    simp only [opQ]
    split at h
    · rename_i a off hx hf
      obtain rfl := Option.some.inj h
      rw [hx, hf]; exact k
    · cases h
  case h_7 op t x y u =>
    simp only [opQ]
    split at h
    · rename_i v' hb; obtain rfl := Option.some.inj h; rw [hb]; exact k
    · rename_i hb
      rw [hb]
      split at h
      · rename_i v' hv; obtain rfl := Option.some.inj h; rw [hv]; exact k
      · rename_i hv
        rw [hv, h]; exact k
  case h_8 => simp only [opQ]; rw [h]; exact k
  case h_9 => simp only [opQ]; rw [h]; exact k
  case h_10 t x =>
    simp only [opQ]
    cases hu : P.underlying t with
    | none => rw [hu] at h; cases h
    | some d =>
      rw [hu] at h
      cases d <;> first | (cases h; done) | (obtain rfl := Option.some.inj h; exact k)
  case h_11 => obtain rfl := Option.some.inj h; exact k
  case h_12 =>
    simp only [opQ]
    split at h
    · rename_i vs hx; rw [hx]; simp only; rw [h]; exact k
    · cases h
  case h_13 =>
    simp only [opQ]
    split at h
    · rename_i e a n c kk i hs hx hi
      split at h
      · rename_i hc
        obtain rfl := Option.some.inj h
        rw [hs, hx, hi]
        exact ⟨hc, k⟩
      · cases h
    · cases h
  case h_14 =>
    simp only [opQ]
    split at h
    · rename_i s kk i hu hx hi
      split at h
      · rename_i hc
        obtain rfl := Option.some.inj h
        rw [hu, hx, hi]
        exact ⟨hc, k⟩
      · cases h
    · cases h
  case h_15 =>
    simp only [opQ]
    split at h
    · rename_i s hu hx
      rw [hu, hx]
      simp only
      split at h
      · rename_i l hh h1 h2
        split at h
        · rename_i hc
          obtain rfl := Option.some.inj h
          rw [h1, h2]
          exact ⟨hc, k⟩
        · cases h
      · cases h
    · rename_i e a n c hu hx
      rw [hu, hx]
      simp only
      split at h
      · rename_i l hh h1 h2
        split at h
        · rename_i hc
          obtain rfl := Option.some.inj h
          rw [h1, h2]
          exact ⟨hc, k⟩
        · cases h
      · cases h
    · cases h
  case h_16 =>
    simp only [opQ]
    split at h
    · rename_i t x ht hx
      split at h
      · rename_i hl
        rw [ht, hx]
        simp only
        rw [hl, h]
        exact k
      · cases h
    · cases h
  case h_17 => cases h
end
end Go.Qw
