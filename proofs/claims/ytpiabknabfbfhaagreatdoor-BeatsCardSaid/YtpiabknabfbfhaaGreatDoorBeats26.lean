/- The law Beats of queuewire returns true for every three integers: the row over the given program, tied to its text; no condition besides. (Part 26 of 40: QwSend QwIter3 QwKeys QwIter4 QwIter5.) -/
import Derived.Test.YtpiabknabfbfhaaGreatDoorBeats10
import Derived.Test.YtpiabknabfbfhaaGreatDoorBeats12
import Derived.Test.YtpiabknabfbfhaaGreatDoorBeats19
import Derived.Test.YtpiabknabfbfhaaGreatDoorBeats25
set_option linter.all false
-- send.
namespace Go.Qw
open Nat renaming reduceLT → yA, reduceLeDiff → yB, reduceBEq → yC, reduceAdd → yD, reduceSub → yE, reduceMul → yF, reduceEqDiff → yG
open Int renaming reduceToNat → wA, reduceLE → wB, reduceLT → wC, reduceEq → wD, reduceAdd → wE, reduceSub → wF, reduceMul → wG, reduceNeg → wH
open Go Go.Proofs
set_option maxRecDepth 100000 in
theorem send_c {E : Env Tryz.prog} {σ : Hp} {bc bg : Nat} {l lg : List Value} {out s : List UInt8} {clock : Int} (hb : σ.f bc = some (.cells l.toArray 90 (0, 0))) (hg : σ.f bg = some (.cells lg.toArray 74 (0, 0))) (hl : l.length = 12) (h0 : l[0]? = some (.pointer (some ⟨bg, 0, none⟩))) (h11 : l[11]? = some (.string (B out))) (hc : lg[6]? = some (.int .i64 clock)) (hlen : out.length + s.length ≤ 9223372036854775807) (hne : bg ≠ bc) :
    CallsE E 43 #[.pointer (some ⟨bc, 0, none⟩), .string (B s)] σ fun e' σ' => e' = .returned (.tuple #[]) ∧ σ' = σ.set bc (.cells ((l.set 11 (.string (B (out ++ s)))).set 9 (.int .i64 clock)).toArray 90 (0, 0)) := by
  refine calls_enter Tryz.func43 Tryz.ntmps43 Tryz.results43 rfl (by simp) fun Q hQn hQr hQp => ?_
  have g0 : ∀ v, (l.set 11 v)[0]? = some (.pointer (some ⟨bg, 0, none⟩)) := fun v => by rw [List.getElem?_set_ne (by decide)]; exact h0
  have hg' : ∀ o, (σ.set bc o).f bg = some (.cells lg.toArray 74 (0, 0)) := fun o => by rw [Hp.f_set_ne _ hne]; exact hg
  simp only [go_sem, yA, yB, yC, yD, yE, yF, yG, wA, wB, wC, wD, wE, wF, wG, wH, hb, h0, h11, hlen, hl, g0, hg', hc]
  exact hQn _ _ _ _ resIs_none (Hp.le_refl _) ⟨rfl, rfl⟩
set_option maxRecDepth 100000 in
theorem ccall_c {E : Env Tryz.prog} {σ : Hp} {bc bg : Nat} {l lg : List Value} {out : List UInt8} {clock : Int} {ch cl me : Nat} {xs : List Arg} {v : Value} (hb : σ.f bc = some (.cells l.toArray 90 (0, 0))) (hg : σ.f bg = some (.cells lg.toArray 74 (0, 0))) (hl : l.length = 12) (h0 : l[0]? = some (.pointer (some ⟨bg, 0, none⟩))) (h11 : l[11]? = some (.string (B out))) (hc : lg[6]? = some (.int .i64 clock)) (hne : bg ≠ bc)
    (hv : ArgsAt σ xs v) (hok : ∀ a ∈ xs, argOk a) (hn : xs.length ≤ 1000) (hch : ch < 9223372036854775808) (hcl : cl < 9223372036854775808) (hme : me < 9223372036854775808) (hlim : (argsB xs).length ≤ 10000000) (hlen : out.length + (callB ch cl me xs).length ≤ 9223372036854775807) :
    CallsE E 105 #[.pointer (some ⟨bc, 0, none⟩), .int .i64 ch, .int .i64 cl, .int .i64 me, v] σ fun e' σ' => e' = .returned (.tuple #[]) ∧ σ' = σ.set bc (.cells ((l.set 11 (.string (B (out ++ callB ch cl me xs)))).set 9 (.int .i64 clock)).toArray 90 (0, 0)) := by
  refine calls_enter Tryz.func105 Tryz.ntmps105 Tryz.results105 rfl (by simp) fun Q hQn hQr hQp => ?_
  simp only [go_sem, yA, yB, yC, yD, yE, yF, yG, wA, wB, wC, wD, wE, wF, wG, wH]
  refine call_ret go_149 (wcall_c hv hok hn hch hcl hme hlim) ?_
  simp only [go_sem, yA, yB, yC, yD, yE, yF, yG, wA, wB, wC, wD, wE, wF, wG, wH]
  refine call_ret go_43 (send_c hb hg hl h0 h11 hc hlen hne) ?_
  simp only [go_sem, yA, yB, yC, yD, yE, yF, yG, wA, wB, wC, wD, wE, wF, wG, wH]
  exact hQn _ _ _ _ resIs_none (Hp.le_refl _) ⟨rfl, rfl⟩
end Go.Qw
-- What ranges over a map and yields: the plan of it.
namespace Go.Qw
open Go Go.Conc Go.Proofs

/-- What collects what is yielded, between the rounds. -/
structure Coll (E : Env Tryz.prog) (lb : Nat) (p : Tmp) (r : Loop) (A : Hp → List Value → Hp → Prop) : Prop where
  params : r.params = #[p]
  loop : ∀ {X xs σ}, A X xs σ → σ.f lb = some (.loop r)
  ext : ∀ {X xs σ}, A X xs σ → X.le σ
  new : ∀ {X xs σ b o}, A X xs σ → σ.f b = none → A (X.set b o) xs (σ.set b o)
  upd : ∀ {X xs σ b o o'}, A X xs σ → X.f b = some o' → A (X.set b o) xs (σ.set b o)
  round : ∀ {X xs σ}, A X xs σ → ∀ v c cs, xs.length < 1000000 → isScalarV v = true → Runs E (G (Frame.round lb r.fn (r.tmps.setIfInBounds p v) r.assign r.body .normal) (c :: cs)) σ fun g τ => g = G (c.finish (.bool true)) cs ∧ A X (xs ++ [v]) τ

/-- What is left of a map, and what is done. -/
structure Left {α : Type} (l done rem : List (α × Value × Nat)) (seen : Array Nat) : Prop where
  perm : (done ++ rem).Perm l
  seen : ∀ e ∈ l, e.2.2 ∈ seen ↔ e ∈ done

theorem stamp_inj {α : Type} {l : List (α × Value × Nat)} (hn : (l.map (·.2.2)).Nodup) {e e' : α × Value × Nat} (h : e ∈ l) (h' : e' ∈ l) (he : e.2.2 = e'.2.2) : e = e' := by
  induction l with
  | nil => cases h
  | cons x l ih =>
    simp only [List.map_cons, List.nodup_cons, List.mem_map, not_exists, not_and] at hn
    simp only [List.mem_cons] at h h'
    rcases h with rfl | h <;> rcases h' with rfl | h'
    · rfl
    · exact absurd he.symm (hn.1 _ h')
    · exact absurd he (hn.1 _ h)
    · exact ih hn.2 h h'
theorem nodup_of_stamps {α : Type} {l : List (α × Value × Nat)} (hn : (l.map (·.2.2)).Nodup) : l.Nodup := by
  rw [List.nodup_iff_pairwise_ne] at hn ⊢
  exact (List.pairwise_map.1 hn).imp fun h e => h (by rw [e])

theorem Left.start {α : Type} (l : List (α × Value × Nat)) : Left l [] l #[] := ⟨.refl _, by simp⟩
theorem Left.mem {α : Type} {l done rem : List (α × Value × Nat)} {seen : Array Nat} (h : Left l done rem seen) {e : α × Value × Nat} (he : e ∈ l) (hs : e.2.2 ∉ seen) : e ∈ rem := by
  have := h.perm.mem_iff.2 he
  rcases List.mem_append.1 this with h1 | h1
  · exact absurd ((h.seen e he).2 h1) hs
  · exact h1
theorem Left.step {α : Type} {l done rem : List (α × Value × Nat)} {seen : Array Nat} (hn : (l.map (·.2.2)).Nodup) (h : Left l done rem seen) {e : α × Value × Nat} (he : e ∈ l) (hs : e.2.2 ∉ seen) :
    ∃ rem', rem'.length < rem.length ∧ Left l (done ++ [e]) rem' (seen.push e.2.2) := by
  obtain ⟨s, t, rfl⟩ := List.append_of_mem (h.mem he hs)
  refine ⟨s ++ t, by simp, ?_, ?_⟩
  · refine List.Perm.trans ?_ h.perm
    rw [List.append_assoc]
    exact List.Perm.append_left _ (by rw [List.singleton_append]; exact List.perm_middle.symm)
  · intro x hx
    simp only [Array.mem_push, List.mem_append, List.mem_singleton]
    rw [h.seen x hx]
    constructor
    · rintro (h1 | h1)
      · exact .inl h1
      · exact .inr (stamp_inj hn hx he h1)
    · rintro (h1 | rfl)
      · exact .inl h1
      · exact .inr rfl
theorem Left.all {α : Type} {l done rem : List (α × Value × Nat)} {seen : Array Nat} (hn : (l.map (·.2.2)).Nodup) (h : Left l done rem seen) (ha : ∀ e ∈ l, e.2.2 ∈ seen) : done.Perm l := by
  have hr : rem = [] := by
    cases rem with
    | nil => rfl
    | cons x rem =>
      have hx : x ∈ l := h.perm.mem_iff.1 (by simp)
      have hd := (h.seen x hx).1 (ha x hx)
      have hnd : (done ++ x :: rem).Nodup := h.perm.nodup_iff.2 (nodup_of_stamps hn)
      rw [List.nodup_append] at hnd
      exact absurd rfl (hnd.2.2 x hd x (by simp))
  have := h.perm
  rw [hr, List.append_nil] at this
  exact this

section
variable {P : Program} {E : Env P} {ρ : Rho} {ds : List Deferred} {σ : Hp} {dst : Option Tmp} {ty : TypeId} {pos : String} {af : Array Edge} {g : Option (Nat × Bool)} {nx : Rho → List Deferred → Hp → Prop} {pn : List PanicEntry → Hp → Prop}
variable {α : Type} [DecidableEq α] {f : α → Value} {l : List (α × Value × Nat)} {c : Nat}
theorem entry_intro {x : Operand} {it b since : Nat} {seen : Array Nat} {e : α × Value × Nat} (hx : evR ρ x = .pointer (some ⟨it, 0, none⟩)) (hi : σ.f it = some (.mapIter (some b) since (seen.push e.2.2) c)) (hb : σ.f b = some (kmap f l c)) (hn : (l.map (·.2.2)).Nodup) (he : e ∈ l)
    (h : nx (putR ρ dst (.tuple #[f e.1, e.2.1])) ds σ) : opQ E ⟨dst, .entry x, ty, pos, af, g⟩ ρ ds σ nx pn := by
  show wpOp E _ ρ ds σ nx pn
  unfold wpOp
  simp only [execOp, wpS_val, Instr.entry, wpS_bind_eq, hx, wpS_getObj]
  refine ⟨_, hi, rfl, ?_⟩
  simp only [Array.back?_push, wpS_bind_eq, wpS_getObj]
  refine ⟨_, hb, rfl, ?_⟩
  simp only [kmap, bne_self_eq_false, Bool.false_eq_true, if_false, wpS_bind_eq, wpS_pure']
  have : (l.map fun e => (⟨f e.1, e.2.1, e.2.2⟩ : MapEntry)).toArray.find? (fun x => x.born == e.2.2) = some ⟨f e.1, e.2.1, e.2.2⟩ := by
    rw [List.find?_toArray]
    clear hb hi h
    induction l with
    | nil => cases he
    | cons x l ih =>
      simp only [List.map_cons, List.find?_cons]
      by_cases hxe : x.2.2 = e.2.2
      · have : x = e := stamp_inj hn (by simp) he hxe
        subst this; simp
      · have h' : (x.2.2 == e.2.2) = false := by simpa using hxe
        simp only [h']
        simp only [List.map_cons, List.nodup_cons] at hn
        rcases List.mem_cons.1 he with rfl | he
        · exact absurd rfl hxe
        · exact ih hn.2 he
  simp only [this, wpS_pure']
  exact h
end

/-- What a function that ranges over a map and yields does. -/
def Yields (f : FuncId) {α : Type} (pick : α × Value × Nat → Value) (key : α → Value) (tc : TypeId) : Prop :=
  ∀ {E : Env Tryz.prog} {lb : Nat} {p : Tmp} {r : Loop} {A : Hp → List Value → Hp → Prop} (_ : Coll E lb p r A) {X σ : Hp} {xs : List Value} {l : List (α × Value × Nat)} {c bm m : Nat},
    A X xs σ → X.f bm = some (.cells #[.map (some m)] tc (0, 0)) → X.f m = some (kmap key l c) → (∀ e ∈ l, e.2.2 < c) → (l.map (·.2.2)).Nodup → xs.length + l.length ≤ 1000000 → (∀ e ∈ l, isScalarV (pick e) = true) →
    CallsE E f #[.func (.yield lb) #[] #[], .pointer (some ⟨bm, 0, none⟩)] σ fun e τ => e = .returned (.tuple #[]) ∧ ∃ X' ks, ks.Perm (l.map pick) ∧ X.le X' ∧ A X' (xs ++ ks) τ
end Go.Qw
-- The maps of this program: their keys are numbers or texts.
namespace Go.Qw
open Go Go.Conc Go.Proofs

def keyI (i : Int) : Value := .int .i64 i
def keyS (l : List UInt8) : Value := .string (B l)
theorem same_keyI (k : IntKind) (a b : Int) : Instr.sameNow (.int k) (keyI a) (keyI b) = some (decide (a = b)) := by
  simp only [keyI, Instr.sameNow, if_true]
  by_cases h : a = b <;> simp [h]
theorem beqB (a b : List UInt8) : (B a == B b) = decide (a = b) := by
  show ((B a).data == (B b).data) = _
  rw [B_data, B_data]
  by_cases h : a = b <;> simp [h]
theorem same_keyS (a b : List UInt8) : Instr.sameNow .string (keyS a) (keyS b) = some (decide (a = b)) := by
  simp only [keyS, Instr.sameNow, beqB]
theorem refl_keyI (a : Int) : Instr.sameBits 10000 (keyI a) (keyI a) = true := by simp [keyI, Instr.sameBits]
theorem refl_keyS (a : List UInt8) : Instr.sameBits 10000 (keyS a) (keyS a) = true := by simp [keyS, Instr.sameBits, beqB]

def ko72 : KeyOk Tryz.prog 72 keyI := ⟨3, 70, .int .i64, by kernel_rfl, by kernel_rfl, .inl ⟨_, rfl⟩, same_keyI _, refl_keyI⟩
def ko88 : KeyOk Tryz.prog 88 keyI := ⟨3, 185, .int .i64, by kernel_rfl, by kernel_rfl, .inl ⟨_, rfl⟩, same_keyI _, refl_keyI⟩
def ko273 : KeyOk Tryz.prog 273 keyI := ⟨3, 280, .int .i64, by kernel_rfl, by kernel_rfl, .inl ⟨_, rfl⟩, same_keyI _, refl_keyI⟩
def ko114 : KeyOk Tryz.prog 114 keyS := ⟨9, 77, .string, by kernel_rfl, by kernel_rfl, .inr rfl, same_keyS, refl_keyS⟩
def ko274 : KeyOk Tryz.prog 274 keyS := ⟨9, 186, .string, by kernel_rfl, by kernel_rfl, .inr rfl, same_keyS, refl_keyS⟩
end Go.Qw
-- Keys of a map of connections: each is yielded once.
namespace Go.Qw
open Nat renaming reduceLT → yA, reduceLeDiff → yB, reduceBEq → yC, reduceAdd → yD, reduceSub → yE, reduceMul → yF, reduceEqDiff → yG
open Int renaming reduceToNat → wA, reduceLE → wB, reduceLT → wC, reduceEq → wD, reduceAdd → wE, reduceSub → wF, reduceMul → wG, reduceNeg → wH
open Go Go.Conc Go.Proofs

noncomputable def B82 : Code := Tryz.f82.body.getD .skip
noncomputable def i82 : Array Oper := opsC (lftC B82)
noncomputable def L82 : Code := innC (innC (rgtC B82))
noncomputable def q82a : Array Oper := opsC (lftC L82)
noncomputable def n82 : Code := innC (rgtC (rgtC L82))
noncomputable def q82b : Array Oper := opsC (lftC n82)
noncomputable def q82c : Array Oper := opsC (lftC (rgtC n82))
theorem B82_eq : B82 = .seq (.region 0 i82 false) (.block 0 (.loop L82)) := by kernel_rfl
theorem L82_eq : L82 = .seq (.region 1 q82a false) (.seq (.cond (.tmp 7) .skip (.exit 0)) (.block 1 n82)) := by kernel_rfl
theorem n82_eq : n82 = .seq (.region 2 q82b false) (.seq (.region 3 q82c false) (.cond (.tmp 13) .ret .skip)) := by kernel_rfl
def b82 : Frame := { (default : Frame) with fn := 82, kind := .normal }
theorem q82c_2 : ∃ ps af, q82c[2]? = some { dst := some 12, op := .call ⟨.value (.tmp 10), #[.tmp 11], #[3]⟩, type := 4, pos := ps, after := af, guard := none } := ⟨_, _, by simp only [q82c, n82, L82, B82, Tryz.f82, Option.getD_some, rgtC, lftC, innC, opsC]; rfl⟩

structure F82 (lb it : Nat) (ρ : Rho) : Prop where
  y : ρ 0 = .func (.yield lb) #[] #[]
  i : ρ 5 = .pointer (some ⟨it, 0, none⟩)

section
variable {E : Env Tryz.prog} {lb : Nat} {p : Tmp} {r : Loop} {A : Hp → List Value → Hp → Prop} {l : List (Int × Value × Nat)} {c m : Nat} {cs : List Frame}
set_option maxRecDepth 100000 in
theorem loop82 (C : Coll E lb p r A) (hold : ∀ e ∈ l, e.2.2 < c) (hn : (l.map (·.2.2)).Nodup) {X0 : Hp} {xs : List Value} {it : Nat} (hbig : xs.length + l.length ≤ 1000000) (hsc : ∀ e ∈ l, isScalarV (keyI e.1) = true) : ∀ (n : Nat) (done rem : List (Int × Value × Nat)) (seen : Array Nat) (X σ : Hp) (ρ : Rho) (a : Act), rem.length < n → Left l done rem seen → X0.le X →
    A X (xs ++ done.map fun e => keyI e.1) σ → X.f it = some (.mapIter (some m) c seen c) → X0.f it = none → X.f m = some (kmap keyI l c) → it ≠ m → F82 lb it ρ → Agree 14 a ρ [] →
    Runs E (G (b82.at a (.code L82 :: .inLoop L82 :: .inBlock 0 :: [])) cs) σ fun g τ => ∃ e fr, g = G fr cs ∧ fr.fn = 82 ∧ Leaving Tryz.prog fr τ e ∧
      (e = .returned (.tuple #[]) ∧ ∃ X' ks, ks.Perm (l.map fun e => keyI e.1) ∧ X0.le X' ∧ A X' (xs ++ ks) τ) := by
  intro n
  induction n with
  | zero => intro _ _ _ _ _ _ _ h; omega
  | succ n ih =>
    intro done rem seen X σ ρ a hlen hL hX hA hit h0 hm hne hF ha
    have hitσ := C.ext hA _ _ hit
    have hmσ := C.ext hA _ _ hm
    rw [L82_eq]
    refine Runs.ctl (fun w => stepG_seq) rfl rfl ?_
    refine (runs_code (E := E) (N := 14) (X := fun ρ ds τ => ds = [] ∧ F82 lb it ρ ∧ ((ρ 7 = .bool true ∧ ∃ e ∈ l, e.2.2 ∉ seen ∧ τ = σ.set it (.mapIter (some m) c (seen.push e.2.2) c)) ∨ (ρ 7 = .bool false ∧ (∀ e ∈ l, e.2.2 ∈ seen) ∧ τ = σ))) ?_ (by simp [b82]) ha).bind ?_
    · simp only [q82a, L82, B82, Tryz.f82, Option.getD_some, rgtC, lftC, innC, opsC]
      simp only [go_sem, yA, yB, yC, yD, yE, yF, yG, wA, wB, wC, wD, wE, wF, wG, wH, putR, up]
      refine next_intro hF.i hitσ hmσ hold ?_ ?_
      · intro e he hs
        simp only [go_sem, yA, yB, yC, yD, yE, yF, yG, wA, wB, wC, wD, wE, wF, wG, wH, putR, up]
        exact ⟨rfl, ⟨by simp [up, hF.y], by simp [up, hF.i]⟩, .inl ⟨by simp [up], e, he, hs, rfl⟩⟩
      · intro hs
        simp only [go_sem, yA, yB, yC, yD, yE, yF, yG, wA, wB, wC, wD, wE, wF, wG, wH, putR, up]
        exact ⟨rfl, ⟨by simp [up, hF.y], by simp [up, hF.i]⟩, .inr ⟨by simp [up], hs, rfl⟩⟩
    rintro g τ ⟨ρ1, _, a1, ha1, ⟨rfl, hF1, hres⟩, rfl⟩
    refine Runs.ctl (fun w => stepG_seq) rfl rfl ?_
    rcases hres with ⟨h7, e, he, hs, rfl⟩ | ⟨h7, hs, rfl⟩
    · refine Runs.ctl (fun w => stepG_cond (t := true) (by rw [ha1.eval]; exact h7)) rfl rfl ?_
      refine Runs.ctl (fun w => stepG_skip) rfl rfl ?_
      refine Runs.ctl (fun w => stepG_block) rfl rfl ?_
      rw [n82_eq]
      refine Runs.ctl (fun w => stepG_seq) rfl rfl ?_
      have hA1 := C.upd (o := .mapIter (some m) c (seen.push e.2.2) c) hA hit
      have hit1 : (σ.set it (.mapIter (some m) c (seen.push e.2.2) c)).f it = some (.mapIter (some m) c (seen.push e.2.2) c) := Hp.f_set_same _ _
      have hm1 : (σ.set it (.mapIter (some m) c (seen.push e.2.2) c)).f m = some (kmap keyI l c) := by rw [Hp.f_set_ne _ (Ne.symm hne)]; exact hmσ
      generalize hτ : σ.set it (.mapIter (some m) c (seen.push e.2.2) c) = τ at hA1 hit1 hm1
      refine (runs_code (E := E) (N := 14) (X := fun ρ ds τ' => ds = [] ∧ F82 lb it ρ ∧ ρ 3 = keyI e.1 ∧ τ' = τ) ?_ (by simp [b82]) ha1).bind ?_
      · simp only [q82b, n82, L82, B82, Tryz.f82, Option.getD_some, rgtC, lftC, innC, opsC]
        simp only [go_sem, yA, yB, yC, yD, yE, yF, yG, wA, wB, wC, wD, wE, wF, wG, wH, putR, up]
        refine entry_intro hF1.i hit1 hm1 hn he ?_
        simp only [go_sem, yA, yB, yC, yD, yE, yF, yG, wA, wB, wC, wD, wE, wF, wG, wH, putR, up]
        exact ⟨rfl, ⟨by simp [up, hF1.y], by simp [up, hF1.i]⟩, by simp [up], rfl⟩
      rintro g τ' ⟨ρ2, _, a2, ha2, ⟨rfl, hF2, h3, rfl⟩, rfl⟩
      refine Runs.ctl (fun w => stepG_seq) rfl rfl ?_
      refine Runs.ctl (fun w => stepG_region) rfl rfl ?_
      have hr : List.range q82c.size = [0, 1] ++ [2, 3] := by kernel_rfl
      rw [hr]
      refine (wpL_prefix (E := E) (N := 14) (ops := q82c) (Q := onlyN fun ρ ds τ'' => ds = [] ∧ F82 lb it ρ ∧ ρ 10 = .func (.yield lb) #[] #[] ∧ ρ 11 = keyI e.1 ∧ τ'' = τ') b82 (by simp [b82]) _ cs [2, 3] onlyN_panic [0, 1] ρ2 [] τ' a2 ?_ ha2).bind ?_
      · simp only [q82c, n82, L82, B82, Tryz.f82, Option.getD_some, rgtC, lftC, innC, opsC]
        simp only [List.filterMap_cons, List.filterMap_nil, List.getElem?_toArray, List.getElem?_cons_succ, List.getElem?_cons_zero]
        simp only [go_sem, yA, yB, yC, yD, yE, yF, yG, wA, wB, wC, wD, wE, wF, wG, wH, putR, up, onlyN]
        exact ⟨⟨by simp [up, hF2.y], by simp [up, hF2.i]⟩, by simp [up, hF2.y], by simp [up, h3]⟩
      rintro g τ'' ⟨ρ3, _, a3, ha3, ⟨rfl, hF3, h10, h11, rfl⟩, rfl⟩
      obtain ⟨ps, af, ho⟩ := q82c_2
      refine Runs.step rfl (stepOk_yield ho rfl (by rw [ha3.eval]; exact h10) (C.loop hA1) C.params) ?_
      rintro g σ5 ⟨rfl, rfl⟩
      have hlt0 : (xs ++ done.map fun e => keyI e.1).length < 1000000 := by
        have h1 := hL.perm.length_eq
        have h2 := List.length_pos_of_mem (hL.mem he hs)
        simp only [List.length_append, List.length_map] at h1 ⊢
        omega
      have hv : a3.eval (.tmp 11) = keyI e.1 := by rw [ha3.eval]; exact h11
      refine (C.round hA1 _ _ _ hlt0 (by rw [hv]; exact hsc e he)).bind ?_
      rintro g σ6 ⟨rfl, hA2⟩
      rw [Frame.finish_at, ho]
      rw [hv] at hA2
      have ha4 : Agree 14 _ _ [] := ha3.put (dst := some 12) (by decide) (.bool true)
      -- the rest of the region
      refine (wpL_prefix (E := E) (N := 14) (ops := q82c) (Q := onlyN fun ρ ds τ'' => ds = [] ∧ F82 lb it ρ ∧ ρ 13 = .bool false ∧ τ'' = σ6) b82 (by simp [b82]) _ cs [] onlyN_panic [3] _ [] σ6 _ ?_ ha4).bind ?_
      · simp only [q82c, n82, L82, B82, Tryz.f82, Option.getD_some, rgtC, lftC, innC, opsC]
        simp only [List.filterMap_cons, List.filterMap_nil, List.getElem?_toArray, List.getElem?_cons_succ, List.getElem?_cons_zero]
        simp only [go_sem, yA, yB, yC, yD, yE, yF, yG, wA, wB, wC, wD, wE, wF, wG, wH, putR, up, onlyN]
        exact ⟨by simp [up, hF3.y], by simp [up, hF3.i]⟩
      rintro g τ'' ⟨ρ5, _, a5, ha5, ⟨rfl, hF5, h13, rfl⟩, rfl⟩
      refine Runs.ctl (fun w => stepG_region_end) rfl rfl ?_
      refine Runs.ctl (fun w => stepG_cond (t := false) (by rw [ha5.eval]; exact h13)) rfl rfl ?_
      refine Runs.ctl (fun w => stepG_skip) rfl rfl ?_
      refine Runs.ctl (fun w => stepG_inBlock) rfl rfl ?_
      refine Runs.ctl (fun w => stepG_inLoop) rfl rfl ?_
      obtain ⟨rem', hlt, hL'⟩ := hL.step hn he hs
      rw [← n82_eq, ← L82_eq]
      refine ih (done ++ [e]) rem' (seen.push e.2.2) (X.set it (.mapIter (some m) c (seen.push e.2.2) c)) τ'' ρ5 a5 (by omega) hL' ?_ ?_ (Hp.f_set_same _ _) h0 (by rw [Hp.f_set_ne _ (Ne.symm hne)]; exact hm) hne hF5 ha5
      · intro b o hb
        by_cases hbi : b = it
        · subst hbi; rw [h0] at hb; cases hb
        · rw [Hp.f_set_ne _ hbi]; exact hX _ _ hb
      · rw [List.map_append, ← List.append_assoc]; exact hA2
    · refine Runs.ctl (fun w => stepG_cond (t := false) (by rw [ha1.eval]; exact h7)) rfl rfl ?_
      refine Runs.ctl (fun w => stepG_exit (k' := []) rfl) rfl rfl ?_
      refine Runs.ctl (fun w => stepG_end) rfl rfl (Runs.here ⟨.returned (.tuple #[]), _, rfl, rfl, ⟨rfl, ?_, rfl, Tryz.f82, ?_, ?_⟩, rfl, X, _, (hL.all hn hs).map _, hX, hA⟩)
      · exact ha1.defers
      · exact Tryz.func82
      · show wpS _ (results Tryz.f82 a1.tmps) _ _ _
        rw [results_eq (fn := Tryz.f82) ha1]
        simp [resultsR, Tryz.f82, wpS_pure']
end

set_option maxRecDepth 100000 in
theorem yields82 : Yields 82 (fun e : Int × Value × Nat => keyI e.1) keyI 72 := by
  intro E lb p r A C X σ xs l c bm m hA hbm hm hold hn hbig hsc cs
  have hbmσ := C.ext hA _ _ hbm
  have hmσ := C.ext hA _ _ hm
  have henter : Frame.enter Tryz.prog 82 #[.func (.yield lb) #[] #[], .pointer (some ⟨bm, 0, none⟩)] .normal = b82.at { tmps := #[.func (.yield lb) #[] #[], .pointer (some ⟨bm, 0, none⟩)] ++ Array.replicate 12 undef, defers := [] } [.code B82] := by
    simp [Frame.enter, Frame.at, Tryz.func82, b82, Tryz.f82, B82]
  rw [henter, B82_eq]
  have ha := agree_start #[.func (.yield lb) #[] #[], .pointer (some ⟨bm, 0, none⟩)] 14 (by simp)
  refine Runs.ctl (fun w => stepG_seq) rfl rfl ?_
  refine (runs_code (E := E) (N := 14) (X := fun ρ ds τ => ds = [] ∧ ∃ it, F82 lb it ρ ∧ σ.f it = none ∧ τ = σ.set it (.mapIter (some m) c #[] c)) ?_ (by simp [b82]) ha).bind ?_
  · simp only [i82, B82, Tryz.f82, Option.getD_some, rgtC, lftC, innC, opsC]
    simp only [go_sem, yA, yB, yC, yD, yE, yF, yG, wA, wB, wC, wD, wE, wF, wG, wH, putR, up, hbmσ]
    refine range_intro ko72 rfl hmσ ?_
    intro it hit
    simp only [go_sem, yA, yB, yC, yD, yE, yF, yG, wA, wB, wC, wD, wE, wF, wG, wH, putR, up]
    exact ⟨rfl, it, ⟨by simp [up, startR], by simp [up]⟩, hit, rfl⟩
  rintro g τ ⟨ρ1, _, a1, ha1, ⟨rfl, it, hF, hit, rfl⟩, rfl⟩
  refine Runs.ctl (fun w => stepG_block) rfl rfl ?_
  refine Runs.ctl (fun w => stepG_loop) rfl rfl ?_
  have hXit : X.f it = none := by
    cases h : X.f it with
    | none => rfl
    | some o => rw [C.ext hA _ _ h] at hit; cases hit
  have hne : it ≠ m := fun e => by subst e; rw [hXit] at hm; cases hm
  refine loop82 C hold hn hbig hsc (l.length + 1) [] l #[] (X.set it (.mapIter (some m) c #[] c)) _ ρ1 a1 (by omega) (.start l) ?_ (by simpa using C.new hA hit) (Hp.f_set_same _ _) hXit (by rw [Hp.f_set_ne _ (Ne.symm hne)]; exact hm) hne hF ha1
  intro b o hb
  by_cases hbi : b = it
  · subst hbi; rw [hXit] at hb; cases hb
  · rw [Hp.f_set_ne _ hbi]; exact hb
end Go.Qw
-- What is yielded of a map, each once (printed by iter.py).
namespace Go.Qw
open Nat renaming reduceLT → yA, reduceLeDiff → yB, reduceBEq → yC, reduceAdd → yD, reduceSub → yE, reduceMul → yF, reduceEqDiff → yG
open Int renaming reduceToNat → wA, reduceLE → wB, reduceLT → wC, reduceEq → wD, reduceAdd → wE, reduceSub → wF, reduceMul → wG, reduceNeg → wH
open Go Go.Conc Go.Proofs

noncomputable def B181 : Code := Tryz.f181.body.getD .skip
noncomputable def i181 : Array Oper := opsC (lftC B181)
noncomputable def L181 : Code := innC (innC (rgtC B181))
noncomputable def q181a : Array Oper := opsC (lftC L181)
noncomputable def n181 : Code := innC (rgtC (rgtC L181))
noncomputable def q181b : Array Oper := opsC (lftC n181)
noncomputable def q181c : Array Oper := opsC (lftC (rgtC n181))
theorem B181_eq : B181 = .seq (.region 0 i181 false) (.block 0 (.loop L181)) := by kernel_rfl
theorem L181_eq : L181 = .seq (.region 1 q181a false) (.seq (.cond (.tmp 7) .skip (.exit 0)) (.block 1 n181)) := by kernel_rfl
theorem n181_eq : n181 = .seq (.region 2 q181b false) (.seq (.region 3 q181c false) (.cond (.tmp 13) .ret .skip)) := by kernel_rfl
def b181 : Frame := { (default : Frame) with fn := 181, kind := .normal }
theorem q181c_2 : ∃ ps af, q181c[2]? = some { dst := some 12, op := .call ⟨.value (.tmp 10), #[.tmp 11], #[3]⟩, type := 4, pos := ps, after := af, guard := none } := ⟨_, _, by simp only [q181c, n181, L181, B181, Tryz.f181, Option.getD_some, rgtC, lftC, innC, opsC]; rfl⟩

structure F181 (lb it : Nat) (ρ : Rho) : Prop where
  y : ρ 0 = .func (.yield lb) #[] #[]
  i : ρ 5 = .pointer (some ⟨it, 0, none⟩)

section
variable {E : Env Tryz.prog} {lb : Nat} {p : Tmp} {r : Loop} {A : Hp → List Value → Hp → Prop} {l : List (Int × Value × Nat)} {c m : Nat} {cs : List Frame}
set_option maxRecDepth 100000 in
theorem loop181 (C : Coll E lb p r A) (hold : ∀ e ∈ l, e.2.2 < c) (hn : (l.map (·.2.2)).Nodup) {X0 : Hp} {xs : List Value} {it : Nat} (hbig : xs.length + l.length ≤ 1000000) (hsc : ∀ e ∈ l, isScalarV (keyI e.1) = true) : ∀ (n : Nat) (done rem : List (Int × Value × Nat)) (seen : Array Nat) (X σ : Hp) (ρ : Rho) (a : Act), rem.length < n → Left l done rem seen → X0.le X →
    A X (xs ++ done.map fun e => keyI e.1) σ → X.f it = some (.mapIter (some m) c seen c) → X0.f it = none → X.f m = some (kmap keyI l c) → it ≠ m → F181 lb it ρ → Agree 14 a ρ [] →
    Runs E (G (b181.at a (.code L181 :: .inLoop L181 :: .inBlock 0 :: [])) cs) σ fun g τ => ∃ e fr, g = G fr cs ∧ fr.fn = 181 ∧ Leaving Tryz.prog fr τ e ∧
      (e = .returned (.tuple #[]) ∧ ∃ X' ks, ks.Perm (l.map fun e => keyI e.1) ∧ X0.le X' ∧ A X' (xs ++ ks) τ) := by
  intro n
  induction n with
  | zero => intro _ _ _ _ _ _ _ h; omega
  | succ n ih =>
    intro done rem seen X σ ρ a hlen hL hX hA hit h0 hm hne hF ha
    have hitσ := C.ext hA _ _ hit
    have hmσ := C.ext hA _ _ hm
    rw [L181_eq]
    refine Runs.ctl (fun w => stepG_seq) rfl rfl ?_
    refine (runs_code (E := E) (N := 14) (X := fun ρ ds τ => ds = [] ∧ F181 lb it ρ ∧ ((ρ 7 = .bool true ∧ ∃ e ∈ l, e.2.2 ∉ seen ∧ τ = σ.set it (.mapIter (some m) c (seen.push e.2.2) c)) ∨ (ρ 7 = .bool false ∧ (∀ e ∈ l, e.2.2 ∈ seen) ∧ τ = σ))) ?_ (by simp [b181]) ha).bind ?_
    · simp only [q181a, L181, B181, Tryz.f181, Option.getD_some, rgtC, lftC, innC, opsC]
      simp only [go_sem, yA, yB, yC, yD, yE, yF, yG, wA, wB, wC, wD, wE, wF, wG, wH, putR, up]
      refine next_intro hF.i hitσ hmσ hold ?_ ?_
      · intro e he hs
        simp only [go_sem, yA, yB, yC, yD, yE, yF, yG, wA, wB, wC, wD, wE, wF, wG, wH, putR, up]
        exact ⟨rfl, ⟨by simp [up, hF.y], by simp [up, hF.i]⟩, .inl ⟨by simp [up], e, he, hs, rfl⟩⟩
      · intro hs
        simp only [go_sem, yA, yB, yC, yD, yE, yF, yG, wA, wB, wC, wD, wE, wF, wG, wH, putR, up]
        exact ⟨rfl, ⟨by simp [up, hF.y], by simp [up, hF.i]⟩, .inr ⟨by simp [up], hs, rfl⟩⟩
    rintro g τ ⟨ρ1, _, a1, ha1, ⟨rfl, hF1, hres⟩, rfl⟩
    refine Runs.ctl (fun w => stepG_seq) rfl rfl ?_
    rcases hres with ⟨h7, e, he, hs, rfl⟩ | ⟨h7, hs, rfl⟩
    · refine Runs.ctl (fun w => stepG_cond (t := true) (by rw [ha1.eval]; exact h7)) rfl rfl ?_
      refine Runs.ctl (fun w => stepG_skip) rfl rfl ?_
      refine Runs.ctl (fun w => stepG_block) rfl rfl ?_
      rw [n181_eq]
      refine Runs.ctl (fun w => stepG_seq) rfl rfl ?_
      have hA1 := C.upd (o := .mapIter (some m) c (seen.push e.2.2) c) hA hit
      have hit1 : (σ.set it (.mapIter (some m) c (seen.push e.2.2) c)).f it = some (.mapIter (some m) c (seen.push e.2.2) c) := Hp.f_set_same _ _
      have hm1 : (σ.set it (.mapIter (some m) c (seen.push e.2.2) c)).f m = some (kmap keyI l c) := by rw [Hp.f_set_ne _ (Ne.symm hne)]; exact hmσ
      generalize hτ : σ.set it (.mapIter (some m) c (seen.push e.2.2) c) = τ at hA1 hit1 hm1
      refine (runs_code (E := E) (N := 14) (X := fun ρ ds τ' => ds = [] ∧ F181 lb it ρ ∧ ρ 3 = keyI e.1 ∧ τ' = τ) ?_ (by simp [b181]) ha1).bind ?_
      · simp only [q181b, n181, L181, B181, Tryz.f181, Option.getD_some, rgtC, lftC, innC, opsC]
        simp only [go_sem, yA, yB, yC, yD, yE, yF, yG, wA, wB, wC, wD, wE, wF, wG, wH, putR, up]
        refine entry_intro hF1.i hit1 hm1 hn he ?_
        simp only [go_sem, yA, yB, yC, yD, yE, yF, yG, wA, wB, wC, wD, wE, wF, wG, wH, putR, up]
        exact ⟨rfl, ⟨by simp [up, hF1.y], by simp [up, hF1.i]⟩, by simp [up], rfl⟩
      rintro g τ' ⟨ρ2, _, a2, ha2, ⟨rfl, hF2, h3, rfl⟩, rfl⟩
      refine Runs.ctl (fun w => stepG_seq) rfl rfl ?_
      refine Runs.ctl (fun w => stepG_region) rfl rfl ?_
      have hr : List.range q181c.size = [0, 1] ++ [2, 3] := by kernel_rfl
      rw [hr]
      refine (wpL_prefix (E := E) (N := 14) (ops := q181c) (Q := onlyN fun ρ ds τ'' => ds = [] ∧ F181 lb it ρ ∧ ρ 10 = .func (.yield lb) #[] #[] ∧ ρ 11 = keyI e.1 ∧ τ'' = τ') b181 (by simp [b181]) _ cs [2, 3] onlyN_panic [0, 1] ρ2 [] τ' a2 ?_ ha2).bind ?_
      · simp only [q181c, n181, L181, B181, Tryz.f181, Option.getD_some, rgtC, lftC, innC, opsC]
        simp only [List.filterMap_cons, List.filterMap_nil, List.getElem?_toArray, List.getElem?_cons_succ, List.getElem?_cons_zero]
        simp only [go_sem, yA, yB, yC, yD, yE, yF, yG, wA, wB, wC, wD, wE, wF, wG, wH, putR, up, onlyN]
        exact ⟨⟨by simp [up, hF2.y], by simp [up, hF2.i]⟩, by simp [up, hF2.y], by simp [up, h3]⟩
      rintro g τ'' ⟨ρ3, _, a3, ha3, ⟨rfl, hF3, h10, h11, rfl⟩, rfl⟩
      obtain ⟨ps, af, ho⟩ := q181c_2
      refine Runs.step rfl (stepOk_yield ho rfl (by rw [ha3.eval]; exact h10) (C.loop hA1) C.params) ?_
      rintro g σ5 ⟨rfl, rfl⟩
      have hlt0 : (xs ++ done.map fun e => keyI e.1).length < 1000000 := by
        have h1 := hL.perm.length_eq
        have h2 := List.length_pos_of_mem (hL.mem he hs)
        simp only [List.length_append, List.length_map] at h1 ⊢
        omega
      have hv : a3.eval (.tmp 11) = keyI e.1 := by rw [ha3.eval]; exact h11
      refine (C.round hA1 _ _ _ hlt0 (by rw [hv]; exact hsc e he)).bind ?_
      rintro g σ6 ⟨rfl, hA2⟩
      rw [Frame.finish_at, ho]
      rw [hv] at hA2
      have ha4 : Agree 14 _ _ [] := ha3.put (dst := some 12) (by decide) (.bool true)
      -- the rest of the region
      refine (wpL_prefix (E := E) (N := 14) (ops := q181c) (Q := onlyN fun ρ ds τ'' => ds = [] ∧ F181 lb it ρ ∧ ρ 13 = .bool false ∧ τ'' = σ6) b181 (by simp [b181]) _ cs [] onlyN_panic [3] _ [] σ6 _ ?_ ha4).bind ?_
      · simp only [q181c, n181, L181, B181, Tryz.f181, Option.getD_some, rgtC, lftC, innC, opsC]
        simp only [List.filterMap_cons, List.filterMap_nil, List.getElem?_toArray, List.getElem?_cons_succ, List.getElem?_cons_zero]
        simp only [go_sem, yA, yB, yC, yD, yE, yF, yG, wA, wB, wC, wD, wE, wF, wG, wH, putR, up, onlyN]
        exact ⟨by simp [up, hF3.y], by simp [up, hF3.i]⟩
      rintro g τ'' ⟨ρ5, _, a5, ha5, ⟨rfl, hF5, h13, rfl⟩, rfl⟩
      refine Runs.ctl (fun w => stepG_region_end) rfl rfl ?_
      refine Runs.ctl (fun w => stepG_cond (t := false) (by rw [ha5.eval]; exact h13)) rfl rfl ?_
      refine Runs.ctl (fun w => stepG_skip) rfl rfl ?_
      refine Runs.ctl (fun w => stepG_inBlock) rfl rfl ?_
      refine Runs.ctl (fun w => stepG_inLoop) rfl rfl ?_
      obtain ⟨rem', hlt, hL'⟩ := hL.step hn he hs
      rw [← n181_eq, ← L181_eq]
      refine ih (done ++ [e]) rem' (seen.push e.2.2) (X.set it (.mapIter (some m) c (seen.push e.2.2) c)) τ'' ρ5 a5 (by omega) hL' ?_ ?_ (Hp.f_set_same _ _) h0 (by rw [Hp.f_set_ne _ (Ne.symm hne)]; exact hm) hne hF5 ha5
      · intro b o hb
        by_cases hbi : b = it
        · subst hbi; rw [h0] at hb; cases hb
        · rw [Hp.f_set_ne _ hbi]; exact hX _ _ hb
      · rw [List.map_append, ← List.append_assoc]; exact hA2
    · refine Runs.ctl (fun w => stepG_cond (t := false) (by rw [ha1.eval]; exact h7)) rfl rfl ?_
      refine Runs.ctl (fun w => stepG_exit (k' := []) rfl) rfl rfl ?_
      refine Runs.ctl (fun w => stepG_end) rfl rfl (Runs.here ⟨.returned (.tuple #[]), _, rfl, rfl, ⟨rfl, ?_, rfl, Tryz.f181, ?_, ?_⟩, rfl, X, _, (hL.all hn hs).map _, hX, hA⟩)
      · exact ha1.defers
      · exact Tryz.func181
      · show wpS _ (results Tryz.f181 a1.tmps) _ _ _
        rw [results_eq (fn := Tryz.f181) ha1]
        simp [resultsR, Tryz.f181, wpS_pure']
end

set_option maxRecDepth 100000 in
theorem yields181 : Yields 181 (fun e : Int × Value × Nat => keyI e.1) keyI 88 := by
  intro E lb p r A C X σ xs l c bm m hA hbm hm hold hn hbig hsc cs
  have hbmσ := C.ext hA _ _ hbm
  have hmσ := C.ext hA _ _ hm
  have henter : Frame.enter Tryz.prog 181 #[.func (.yield lb) #[] #[], .pointer (some ⟨bm, 0, none⟩)] .normal = b181.at { tmps := #[.func (.yield lb) #[] #[], .pointer (some ⟨bm, 0, none⟩)] ++ Array.replicate 12 undef, defers := [] } [.code B181] := by
    simp [Frame.enter, Frame.at, Tryz.func181, b181, Tryz.f181, B181]
  rw [henter, B181_eq]
  have ha := agree_start #[.func (.yield lb) #[] #[], .pointer (some ⟨bm, 0, none⟩)] 14 (by simp)
  refine Runs.ctl (fun w => stepG_seq) rfl rfl ?_
  refine (runs_code (E := E) (N := 14) (X := fun ρ ds τ => ds = [] ∧ ∃ it, F181 lb it ρ ∧ σ.f it = none ∧ τ = σ.set it (.mapIter (some m) c #[] c)) ?_ (by simp [b181]) ha).bind ?_
  · simp only [i181, B181, Tryz.f181, Option.getD_some, rgtC, lftC, innC, opsC]
    simp only [go_sem, yA, yB, yC, yD, yE, yF, yG, wA, wB, wC, wD, wE, wF, wG, wH, putR, up, hbmσ]
    refine range_intro ko88 rfl hmσ ?_
    intro it hit
    simp only [go_sem, yA, yB, yC, yD, yE, yF, yG, wA, wB, wC, wD, wE, wF, wG, wH, putR, up]
    exact ⟨rfl, it, ⟨by simp [up, startR], by simp [up]⟩, hit, rfl⟩
  rintro g τ ⟨ρ1, _, a1, ha1, ⟨rfl, it, hF, hit, rfl⟩, rfl⟩
  refine Runs.ctl (fun w => stepG_block) rfl rfl ?_
  refine Runs.ctl (fun w => stepG_loop) rfl rfl ?_
  have hXit : X.f it = none := by
    cases h : X.f it with
    | none => rfl
    | some o => rw [C.ext hA _ _ h] at hit; cases hit
  have hne : it ≠ m := fun e => by subst e; rw [hXit] at hm; cases hm
  refine loop181 C hold hn hbig hsc (l.length + 1) [] l #[] (X.set it (.mapIter (some m) c #[] c)) _ ρ1 a1 (by omega) (.start l) ?_ (by simpa using C.new hA hit) (Hp.f_set_same _ _) hXit (by rw [Hp.f_set_ne _ (Ne.symm hne)]; exact hm) hne hF ha1
  intro b o hb
  by_cases hbi : b = it
  · subst hbi; rw [hXit] at hb; cases hb
  · rw [Hp.f_set_ne _ hbi]; exact hb
end Go.Qw
