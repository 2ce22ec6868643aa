/- The law Beats of queuewire returns true for every three integers: the row over the given program, tied to its text; no condition besides. (Part 23 of 40: QwFeed14 QwFeed15 QwFeed16.) -/
import Derived.Test.YtpiabknabfbfhaaGreatDoorBeats18
import Derived.Test.YtpiabknabfbfhaaGreatDoorBeats22
set_option linter.all false
-- feed: its beginning: the boxes and the channels.
namespace Go.Qw
open Nat renaming reduceLT → yA, reduceLeDiff → yB, reduceBEq → yC, reduceAdd → yD, reduceSub → yE, reduceMul → yF, reduceEqDiff → yG
open Int renaming reduceToNat → wA, reduceLE → wB, reduceLT → wC, reduceEq → wD, reduceAdd → wE, reduceSub → wF, reduceMul → wG, reduceNeg → wH
open Go Go.Conc Go.Proofs

section
variable {P : Program} {E : Env P} {N : Nat} {σ : Hp} {ρ : Rho} {ds : List Deferred}
theorem wp_makeChan {t el : TypeId} {d ty : Nat} {ps : String} {af : Array Edge} {g : Option (Nat × Bool)} {nx : Rho → List Deferred → Hp → Prop} {pn : List PanicEntry → Hp → Prop} (hu : ∃ dir, P.underlying t = some (.chan dir el)) (hi : (P.info? el).isSome = true)
    (h : ∀ b, σ.f b = none → nx (up ρ d (.chan (some b))) ds (σ.set b (.chan 0 #[] false 0 0 false))) : wpOp E ⟨some d, .makeChan t (.const (.int .i64 0)), ty, ps, af, g⟩ ρ ds σ nx pn := by
  obtain ⟨dir, hu⟩ := hu
  obtain ⟨i, hi⟩ := Option.isSome_iff_exists.1 hi
  unfold wpOp execOp
  simp only [Instr.makeChan, asInt, asIntOf, wpS_bind_eq, wpS_pure', evR, wpS_underlying, hu, wpS_typeInfo, hi]
  rw [if_neg (by rw [show IntKind.i64.max = 9223372036854775807 from rfl]; simp)]
  simp only [wpS_bind_eq, wpS_newObj, wpS_pure']
  exact h
end

noncomputable def o40 : Array Oper := opsC (lftC (rgtC B40))
noncomputable def o400 : Array Oper := opsC (lftC B40)
noncomputable def rest40 : Code := rgtC (rgtC B40)
theorem B40_eq : B40 = .seq (.region 0 o400 false) (.seq (.region 1 o40 true) rest40) := by kernel_rfl

def oCh : Obj := .chan 0 #[] false 0 0 false
/-- One of the three: the channel k, its box. -/
structure Tri (σ σ' : Hp) (ρ : Rho) (sc sb ty : Nat) (lc la ls : Bool) : Prop where
  c : lc = true → ∃ c, ρ sc = .chan (some c) ∧ σ.f c = none ∧ σ'.f c = some oCh
  a : la = true → ∃ b, ρ sb = .pointer (some ⟨b, 0, none⟩) ∧ σ.f b = none ∧ σ'.f b = some (.cells #[if ls = true then ρ sc else .chan none] ty (0, 0))
  s : ls = true → lc = true ∧ la = true

section
variable {σ σ' : Hp} {ρ ρ' : Rho} {sc sb ty : Nat} {lc la ls : Bool} {b : Nat} {o : Obj}
theorem fresh_of_le (h : σ.le σ') (hb : σ'.f b = none) : σ.f b = none := by
  cases e : σ.f b with
  | none => rfl
  | some x => rw [h b x e] at hb; cases hb
theorem set_old {x : Nat} {p : Obj} (hb : σ'.f b = none) (hx : σ'.f x = some p) : (σ'.set b o).f x = some p := by
  have : x ≠ b := fun e => by rw [e, hb] at hx; cases hx
  simpa [Hp.set, this] using hx

theorem Tri.new (h : Tri σ σ' ρ sc sb ty lc la ls) (hb : σ'.f b = none) (h1 : ρ' sc = ρ sc) (h2 : ρ' sb = ρ sb) : Tri σ (σ'.set b o) ρ' sc sb ty lc la ls := by
  refine ⟨fun e => ?_, fun e => ?_, h.s⟩
  · obtain ⟨c, k1, k2, k3⟩ := h.c e
    exact ⟨c, h1.trans k1, k2, set_old hb k3⟩
  · obtain ⟨c, k1, k2, k3⟩ := h.a e
    exact ⟨c, h2.trans k1, k2, by rw [h1]; exact set_old hb k3⟩
theorem Tri.chan (h : Tri σ σ' ρ sc sb ty false la ls) (hl : σ.le σ') (hb : σ'.f b = none) (h1 : ρ' sc = .chan (some b)) (h2 : ρ' sb = ρ sb) : Tri σ (σ'.set b oCh) ρ' sc sb ty true la ls := by
  have hs : ls = false := by
    cases e : ls with
    | false => rfl
    | true => exact absurd (h.s e).1 (by simp)
  subst hs
  refine ⟨fun _ => ⟨b, h1, fresh_of_le hl hb, by simp [Hp.set]⟩, fun e => ?_, fun e => by cases e⟩
  obtain ⟨c, k1, k2, k3⟩ := h.a e
  exact ⟨c, h2.trans k1, k2, set_old hb (by simpa using k3)⟩
theorem Tri.box (h : Tri σ σ' ρ sc sb ty lc false ls) (hl : σ.le σ') (hb : σ'.f b = none) (h1 : ρ' sc = ρ sc) (h2 : ρ' sb = .pointer (some ⟨b, 0, none⟩)) : Tri σ (σ'.set b (.cells #[.chan none] ty (0, 0))) ρ' sc sb ty lc true ls := by
  have hs : ls = false := by
    cases e : ls with
    | false => rfl
    | true => exact absurd (h.s e).2 (by simp)
  subst hs
  refine ⟨fun e => ?_, fun _ => ⟨b, h2, fresh_of_le hl hb, by simp [Hp.set]⟩, fun e => by cases e⟩
  obtain ⟨c, k1, k2, k3⟩ := h.c e
  exact ⟨c, h1.trans k1, k2, set_old hb k3⟩
theorem Tri.st (h : Tri σ σ' ρ sc sb ty true true ls) {c : Value} (h0 : ρ sb = .pointer (some ⟨b, 0, none⟩)) (hc : ρ sc = c) : Tri σ (σ'.set b (.cells #[c] ty (0, 0))) ρ sc sb ty true true true := by
  obtain ⟨b', k1, k2, k3⟩ := h.a rfl
  rw [h0] at k1
  simp only [Value.pointer.injEq, Option.some.injEq, Addr.mk.injEq, and_true] at k1
  subst k1
  refine ⟨fun _ => ?_, fun _ => ⟨b, h0, k2, by simp [Hp.set, hc]⟩, fun _ => ⟨rfl, rfl⟩⟩
  obtain ⟨x, j1, j2, j3⟩ := h.c rfl
  refine ⟨x, j1, j2, ?_⟩
  have : x ≠ b := fun e => by rw [e, k3] at j3; simp [oCh] at j3
  simpa [Hp.set, this] using j3
/-- Another's store. -/
theorem Tri.other (h : Tri σ σ' ρ sc sb ty lc la ls) {ty' : Nat} {v v' : Value} (hb : σ'.f b = some (.cells #[v] ty' (0, 0))) (hty : ty' ≠ ty) : Tri σ (σ'.set b (.cells #[v'] ty' (0, 0))) ρ sc sb ty lc la ls := by
  refine ⟨fun e => ?_, fun e => ?_, h.s⟩
  · obtain ⟨c, k1, k2, k3⟩ := h.c e
    have : c ≠ b := fun e => by rw [e, hb] at k3; simp [oCh] at k3
    exact ⟨c, k1, k2, by simpa [Hp.set, this] using k3⟩
  · obtain ⟨c, k1, k2, k3⟩ := h.a e
    have : c ≠ b := fun e => by rw [e, hb] at k3; simp at k3; exact hty k3.2
    exact ⟨c, k1, k2, by simpa [Hp.set, this] using k3⟩
end

/-- What holds of what is listed. -/
structure InOrd (σ : Hp) (r2 r3 : Value) (L : Nat → Bool) (ρ : Rho) (ds : List Deferred) (σ' : Hp) : Prop where
  ds : ds = []
  r2 : ρ 2 = r2
  r3 : ρ 3 = r3
  le : σ.le σ'
  t0 : Tri σ σ' ρ 9 4 119 (L 0) (L 3) (L 6)
  t1 : Tri σ σ' ρ 10 5 120 (L 1) (L 4) (L 7)
  t2 : Tri σ σ' ρ 11 6 121 (L 2) (L 5) (L 8)
  n01 : L 0 = true → L 1 = true → ρ 9 ≠ ρ 10
  n02 : L 0 = true → L 2 = true → ρ 9 ≠ ρ 11
  n12 : L 1 = true → L 2 = true → ρ 10 ≠ ρ 11

theorem le_new {σ σ' : Hp} (h : σ.le σ') {b : Nat} (hb : σ'.f b = none) (o : Obj) : σ.le (σ'.set b o) := fun x p hx => set_old hb (h x p hx)
theorem le_st {σ σ' : Hp} (h : σ.le σ') {b : Nat} (hb : σ.f b = none) (o : Obj) : σ.le (σ'.set b o) := fun x p hx => by
  have : x ≠ b := fun e => by rw [e, hb] at hx; cases hx
  simpa [Hp.set, this] using h x p hx
theorem ne_new {σ σ' : Hp} {ρ : Rho} {sc sb ty b : Nat} {la ls : Bool} (h : Tri σ σ' ρ sc sb ty true la ls) (hb : σ'.f b = none) : ρ sc ≠ .chan (some b) := by
  obtain ⟨c, k1, _, k3⟩ := h.c rfl
  rw [k1]
  intro e
  simp only [Value.chan.injEq, Option.some.injEq] at e
  rw [e, hb] at k3; cases k3

set_option maxRecDepth 100000 in
theorem entry_step {E : Env Tryz.prog} {Q : Post} {σ0 : Hp} {r2 r3 : Value} (L : Nat → Bool) (i : Nat) (o : Oper) (ρ : Rho) (ds : List Deferred) (σ : Hp) (K : Rho → List Deferred → Hp → Prop) (ho : o40[i]? = some o) (hL : L i = false) (he : ∀ e ∈ o.after, Region.binds .any e = true → L e.on = true) (h : InOrd σ0 r2 r3 L ρ ds σ)
    (hK : ∀ ρ' ds' σ', InOrd σ0 r2 r3 (fun j => L j || j == i) ρ' ds' σ' → K ρ' ds' σ') : stepR E 52 o40 Q i K ρ ds σ := by
  unfold stepR
  rw [ho]
  simp only [o40, B40, Tryz.f40, Option.getD_some, rgtC, lftC, opsC] at ho
  obtain ⟨e1, e2, e3, e4, e5, e6, e7, e8, e9, e10⟩ := h
  rcases i with _ | _ | _ | _ | _ | _ | _ | _ | _ | i
  · -- makeChan 0
    simp only [List.getElem?_toArray, List.getElem?_cons_zero, List.getElem?_cons_succ, Option.some.injEq] at ho
    subst ho
    refine ⟨rfl, ?_⟩
    rw [if_pos (by simp [Region.wanted]), if_neg (by simp [isRd])]
    refine wp_makeChan (el := 3) ⟨_, Tryz.underlying119⟩ (by kernel_rfl) fun b hb => hK _ _ _ ?_
    rw [hL] at e5
    constructor
    · exact e1
    · simpa [up] using e2
    · simpa [up] using e3
    · exact le_new e4 hb _
    · simpa [up, hL, oCh] using (Tri.chan (ρ' := up ρ 9 (.chan (some b))) e5 e4 hb (by simp [up]) (by simp [up]))
    · simpa [up] using (Tri.new (ρ' := up ρ 9 (.chan (some b))) e6 hb (by simp [up]) (by simp [up]))
    · simpa [up] using (Tri.new (ρ' := up ρ 9 (.chan (some b))) e7 hb (by simp [up]) (by simp [up]))
    · intro _ h2
      simp at h2
      rw [h2] at e6
      have := ne_new e6 hb
      simpa [up] using fun e => this e.symm
    · intro _ h2
      simp at h2
      rw [h2] at e7
      have := ne_new e7 hb
      simpa [up] using fun e => this e.symm
    · intro h1 h2
      simp at h1 h2
      simpa [up] using e10 h1 h2
  · -- makeChan 1
    simp only [List.getElem?_toArray, List.getElem?_cons_zero, List.getElem?_cons_succ, Option.some.injEq] at ho
    subst ho
    refine ⟨rfl, ?_⟩
    rw [if_pos (by simp [Region.wanted]), if_neg (by simp [isRd])]
    refine wp_makeChan (el := 135) ⟨_, Tryz.underlying120⟩ (by kernel_rfl) fun b hb => hK _ _ _ ?_
    rw [hL] at e6
    constructor
    · exact e1
    · simpa [up] using e2
    · simpa [up] using e3
    · exact le_new e4 hb _
    · simpa [up] using (Tri.new (ρ' := up ρ 10 (.chan (some b))) e5 hb (by simp [up]) (by simp [up]))
    · simpa [up, hL, oCh] using (Tri.chan (ρ' := up ρ 10 (.chan (some b))) e6 e4 hb (by simp [up]) (by simp [up]))
    · simpa [up] using (Tri.new (ρ' := up ρ 10 (.chan (some b))) e7 hb (by simp [up]) (by simp [up]))
    · intro h2 _
      simp at h2
      rw [h2] at e5
      have := ne_new e5 hb
      simpa [up] using this
    · intro h1 h2
      simp at h1 h2
      simpa [up] using e9 h1 h2
    · intro _ h2
      simp at h2
      rw [h2] at e7
      have := ne_new e7 hb
      simpa [up] using fun e => this e.symm
  · -- makeChan 2
    simp only [List.getElem?_toArray, List.getElem?_cons_zero, List.getElem?_cons_succ, Option.some.injEq] at ho
    subst ho
    refine ⟨rfl, ?_⟩
    rw [if_pos (by simp [Region.wanted]), if_neg (by simp [isRd])]
    refine wp_makeChan (el := 122) ⟨_, Tryz.underlying121⟩ (by kernel_rfl) fun b hb => hK _ _ _ ?_
    rw [hL] at e7
    constructor
    · exact e1
    · simpa [up] using e2
    · simpa [up] using e3
    · exact le_new e4 hb _
    · simpa [up] using (Tri.new (ρ' := up ρ 11 (.chan (some b))) e5 hb (by simp [up]) (by simp [up]))
    · simpa [up] using (Tri.new (ρ' := up ρ 11 (.chan (some b))) e6 hb (by simp [up]) (by simp [up]))
    · simpa [up, hL, oCh] using (Tri.chan (ρ' := up ρ 11 (.chan (some b))) e7 e4 hb (by simp [up]) (by simp [up]))
    · intro h1 h2
      simp at h1 h2
      simpa [up] using e8 h1 h2
    · intro h2 _
      simp at h2
      rw [h2] at e5
      have := ne_new e5 hb
      simpa [up] using this
    · intro h2 _
      simp at h2
      rw [h2] at e6
      have := ne_new e6 hb
      simpa [up] using this
  · -- alloc 0
    simp only [List.getElem?_toArray, List.getElem?_cons_zero, List.getElem?_cons_succ, Option.some.injEq] at ho
    subst ho
    refine ⟨rfl, ?_⟩
    rw [if_pos (by simp [Region.wanted]), if_neg (by simp [isRd])]
    refine opQ_sound ?_
    simp only [go_sem, yA, yB, yC, yD, yE, yF, yG, wA, wB, wC, wD, wE, wF, wG, wH]
    refine fun b hb => hK _ _ _ ?_
    simp only [putR, show (Value.chan none).cells = #[.chan none] from rfl]
    rw [hL] at e5
    constructor
    · exact e1
    · simpa [up] using e2
    · simpa [up] using e3
    · exact le_new e4 hb _
    · simpa [up, hL] using (Tri.box (ρ' := up ρ 4 (.pointer (some ⟨b, 0, none⟩))) e5 e4 hb (by simp [up]) (by simp [up]))
    · simpa [up] using (Tri.new (ρ' := up ρ 4 (.pointer (some ⟨b, 0, none⟩))) e6 hb (by simp [up]) (by simp [up]))
    · simpa [up] using (Tri.new (ρ' := up ρ 4 (.pointer (some ⟨b, 0, none⟩))) e7 hb (by simp [up]) (by simp [up]))
    · intro h1 h2
      simp at h1 h2
      simpa [up] using e8 h1 h2
    · intro h1 h2
      simp at h1 h2
      simpa [up] using e9 h1 h2
    · intro h1 h2
      simp at h1 h2
      simpa [up] using e10 h1 h2
  · -- alloc 1
    simp only [List.getElem?_toArray, List.getElem?_cons_zero, List.getElem?_cons_succ, Option.some.injEq] at ho
    subst ho
    refine ⟨rfl, ?_⟩
    rw [if_pos (by simp [Region.wanted]), if_neg (by simp [isRd])]
    refine opQ_sound ?_
    simp only [go_sem, yA, yB, yC, yD, yE, yF, yG, wA, wB, wC, wD, wE, wF, wG, wH]
    refine fun b hb => hK _ _ _ ?_
    simp only [putR, show (Value.chan none).cells = #[.chan none] from rfl]
    rw [hL] at e6
    constructor
    · exact e1
    · simpa [up] using e2
    · simpa [up] using e3
    · exact le_new e4 hb _
    · simpa [up] using (Tri.new (ρ' := up ρ 5 (.pointer (some ⟨b, 0, none⟩))) e5 hb (by simp [up]) (by simp [up]))
    · simpa [up, hL] using (Tri.box (ρ' := up ρ 5 (.pointer (some ⟨b, 0, none⟩))) e6 e4 hb (by simp [up]) (by simp [up]))
    · simpa [up] using (Tri.new (ρ' := up ρ 5 (.pointer (some ⟨b, 0, none⟩))) e7 hb (by simp [up]) (by simp [up]))
    · intro h1 h2
      simp at h1 h2
      simpa [up] using e8 h1 h2
    · intro h1 h2
      simp at h1 h2
      simpa [up] using e9 h1 h2
    · intro h1 h2
      simp at h1 h2
      simpa [up] using e10 h1 h2
  · -- alloc 2
    simp only [List.getElem?_toArray, List.getElem?_cons_zero, List.getElem?_cons_succ, Option.some.injEq] at ho
    subst ho
    refine ⟨rfl, ?_⟩
    rw [if_pos (by simp [Region.wanted]), if_neg (by simp [isRd])]
    refine opQ_sound ?_
    simp only [go_sem, yA, yB, yC, yD, yE, yF, yG, wA, wB, wC, wD, wE, wF, wG, wH]
    refine fun b hb => hK _ _ _ ?_
    simp only [putR, show (Value.chan none).cells = #[.chan none] from rfl]
    rw [hL] at e7
    constructor
    · exact e1
    · simpa [up] using e2
    · simpa [up] using e3
    · exact le_new e4 hb _
    · simpa [up] using (Tri.new (ρ' := up ρ 6 (.pointer (some ⟨b, 0, none⟩))) e5 hb (by simp [up]) (by simp [up]))
    · simpa [up] using (Tri.new (ρ' := up ρ 6 (.pointer (some ⟨b, 0, none⟩))) e6 hb (by simp [up]) (by simp [up]))
    · simpa [up, hL] using (Tri.box (ρ' := up ρ 6 (.pointer (some ⟨b, 0, none⟩))) e7 e4 hb (by simp [up]) (by simp [up]))
    · intro h1 h2
      simp at h1 h2
      simpa [up] using e8 h1 h2
    · intro h1 h2
      simp at h1 h2
      simpa [up] using e9 h1 h2
    · intro h1 h2
      simp at h1 h2
      simpa [up] using e10 h1 h2
  · -- store 0
    simp only [List.getElem?_toArray, List.getElem?_cons_zero, List.getElem?_cons_succ, Option.some.injEq] at ho
    subst ho
    refine ⟨rfl, ?_⟩
    rw [if_pos (by simp [Region.wanted]), if_neg (by simp [isRd])]
    refine opQ_sound ?_
    have hc : L 0 = true := by simpa using he { on := 0, ground := .data } (by simp) rfl
    have ha : L 3 = true := by simpa using he { on := 3, ground := .data } (by simp) rfl
    rw [hc, ha] at e5
    obtain ⟨b, k1, k2, k3⟩ := e5.a rfl
    obtain ⟨c, j1, j2, j3⟩ := e5.c rfl
    rw [hL] at k3
    simp only [Bool.false_eq_true, if_false] at k3
    simp only [go_sem, yA, yB, yC, yD, yE, yF, yG, wA, wB, wC, wD, wE, wF, wG, wH, k1, j1, k3]
    refine hK _ _ _ ?_
    constructor
    · exact e1
    · exact e2
    · exact e3
    · exact le_st e4 k2 _
    · simpa [hc, ha] using (Tri.st e5 k1 j1)
    · simpa using (Tri.other e6 k3 (by decide))
    · simpa using (Tri.other e7 k3 (by decide))
    · intro h1 h2
      simp at h1 h2
      exact e8 h1 h2
    · intro h1 h2
      simp at h1 h2
      exact e9 h1 h2
    · intro h1 h2
      simp at h1 h2
      exact e10 h1 h2
  · -- store 1
    simp only [List.getElem?_toArray, List.getElem?_cons_zero, List.getElem?_cons_succ, Option.some.injEq] at ho
    subst ho
    refine ⟨rfl, ?_⟩
    rw [if_pos (by simp [Region.wanted]), if_neg (by simp [isRd])]
    refine opQ_sound ?_
    have hc : L 1 = true := by simpa using he { on := 1, ground := .data } (by simp) rfl
    have ha : L 4 = true := by simpa using he { on := 4, ground := .data } (by simp) rfl
    rw [hc, ha] at e6
    obtain ⟨b, k1, k2, k3⟩ := e6.a rfl
    obtain ⟨c, j1, j2, j3⟩ := e6.c rfl
    rw [hL] at k3
    simp only [Bool.false_eq_true, if_false] at k3
    simp only [go_sem, yA, yB, yC, yD, yE, yF, yG, wA, wB, wC, wD, wE, wF, wG, wH, k1, j1, k3]
    refine hK _ _ _ ?_
    constructor
    · exact e1
    · exact e2
    · exact e3
    · exact le_st e4 k2 _
    · simpa using (Tri.other e5 k3 (by decide))
    · simpa [hc, ha] using (Tri.st e6 k1 j1)
    · simpa using (Tri.other e7 k3 (by decide))
    · intro h1 h2
      simp at h1 h2
      exact e8 h1 h2
    · intro h1 h2
      simp at h1 h2
      exact e9 h1 h2
    · intro h1 h2
      simp at h1 h2
      exact e10 h1 h2
  · -- store 2
    simp only [List.getElem?_toArray, List.getElem?_cons_zero, List.getElem?_cons_succ, Option.some.injEq] at ho
    subst ho
    refine ⟨rfl, ?_⟩
    rw [if_pos (by simp [Region.wanted]), if_neg (by simp [isRd])]
    refine opQ_sound ?_
    have hc : L 2 = true := by simpa using he { on := 2, ground := .data } (by simp) rfl
    have ha : L 5 = true := by simpa using he { on := 5, ground := .data } (by simp) rfl
    rw [hc, ha] at e7
    obtain ⟨b, k1, k2, k3⟩ := e7.a rfl
    obtain ⟨c, j1, j2, j3⟩ := e7.c rfl
    rw [hL] at k3
    simp only [Bool.false_eq_true, if_false] at k3
    simp only [go_sem, yA, yB, yC, yD, yE, yF, yG, wA, wB, wC, wD, wE, wF, wG, wH, k1, j1, k3]
    refine hK _ _ _ ?_
    constructor
    · exact e1
    · exact e2
    · exact e3
    · exact le_st e4 k2 _
    · simpa using (Tri.other e5 k3 (by decide))
    · simpa using (Tri.other e6 k3 (by decide))
    · simpa [hc, ha] using (Tri.st e7 k1 j1)
    · intro h1 h2
      simp at h1 h2
      exact e8 h1 h2
    · intro h1 h2
      simp at h1 h2
      exact e9 h1 h2
    · intro h1 h2
      simp at h1 h2
      exact e10 h1 h2
  · simp at ho

/-- What stands behind the first two regions. -/
structure Ent (σ τ : Hp) (bc : Nat) (ch : List UInt8) (cb kb sb ub db c1 c2 c3 : Nat) : Prop where
  le : σ.le τ
  c : τ.f cb = some (.cells #[.pointer (some ⟨bc, 0, none⟩)] 70 (0, 0))
  k : τ.f kb = some (.cells #[.string (B ch)] 9 (0, 0))
  s : τ.f sb = some (.cells #[.chan (some c1)] 119 (0, 0))
  u : τ.f ub = some (.cells #[.chan (some c2)] 120 (0, 0))
  d : τ.f db = some (.cells #[.chan (some c3)] 121 (0, 0))
  h1 : τ.f c1 = some oCh
  h2 : τ.f c2 = some oCh
  h3 : τ.f c3 = some oCh
  nc : σ.f cb = none
  nk : σ.f kb = none
  ns : σ.f sb = none
  nu : σ.f ub = none
  nd : σ.f db = none
  n1 : σ.f c1 = none
  n2 : σ.f c2 = none
  n3 : σ.f c3 = none
  d12 : c1 ≠ c2
  d13 : c1 ≠ c3
  d23 : c2 ≠ c3

theorem b40_body : Tryz.f40.body = some B40 := by kernel_rfl
theorem low_of {ops : Array Oper} (h : (ops.toList.zipIdx.all fun p => p.1.after.all fun e => decide (e.on < p.2)) = true) : ∀ (i : Nat) (o : Oper), ops[i]? = some o → ∀ e ∈ o.after, e.on < i := by
  intro i o ho e he
  rw [List.all_eq_true] at h
  have := h (o, i) (by rw [List.mk_mem_zipIdx_iff_getElem?]; simpa using ho)
  rw [Array.all_eq_true_iff_forall_mem] at this
  simpa using this e he
theorem low40 : (o40.toList.zipIdx.all fun p => p.1.after.all fun e => decide (e.on < p.2)) = true := by kernel_rfl
theorem size40 : o40.size = 9 := by kernel_rfl

set_option maxRecDepth 100000 in
theorem entry {E : Env Tryz.prog} {σ : Hp} {bc : Nat} {ch : List UInt8} {cs : List Frame} :
    Runs E (G (Frame.enter Tryz.prog 40 #[.pointer (some ⟨bc, 0, none⟩), .string (B ch)] .normal) cs) σ fun g τ => ∃ cb kb sb ub db c1 c2 c3, Ent σ τ bc ch cb kb sb ub db c1 c2 c3 ∧ ∃ ρ a, Agree 52 a ρ [] ∧
      ρ 2 = .pointer (some ⟨cb, 0, none⟩) ∧ ρ 3 = .pointer (some ⟨kb, 0, none⟩) ∧ ρ 4 = .pointer (some ⟨sb, 0, none⟩) ∧ ρ 5 = .pointer (some ⟨ub, 0, none⟩) ∧ ρ 6 = .pointer (some ⟨db, 0, none⟩) ∧ g = G (b40.at a [.code rest40]) cs := by
  rw [enter_at _ Tryz.func40 b40_body, B40_eq]
  have hnt : Tryz.f40.ntmps = 52 := rfl
  rw [hnt]
  have ha0 := agree_start #[.pointer (some ⟨bc, 0, none⟩), .string (B ch)] 52 (by simp)
  generalize hρ0 : startR _ 52 = ρ0 at ha0
  have q0 : ρ0 0 = .pointer (some ⟨bc, 0, none⟩) := by rw [← hρ0]; rfl
  have q1 : ρ0 1 = .string (B ch) := by rw [← hρ0]; rfl
  clear hρ0
  generalize (⟨_ ++ Array.replicate (52 - _) undef, []⟩ : Act) = a0 at ha0 ⊢
  change Runs E (G (b40.at a0 [.code (.seq (.region 0 o400 false) (.seq (.region 1 o40 true) rest40))]) cs) σ _
  refine Runs.ctl (fun w => stepG_seq) rfl rfl ?_
  refine (runs_code (E := E) (N := 52) (X := fun ρ ds τ => ds = [] ∧ ∃ cb kb, ρ 2 = .pointer (some ⟨cb, 0, none⟩) ∧ ρ 3 = .pointer (some ⟨kb, 0, none⟩) ∧ σ.f cb = none ∧ σ.f kb = none ∧ σ.le τ ∧ τ.f cb = some (.cells #[.pointer (some ⟨bc, 0, none⟩)] 70 (0, 0)) ∧ τ.f kb = some (.cells #[.string (B ch)] 9 (0, 0))) ?_ (by simp [b40]) ha0).bind ?_
  · simp only [o400, B40, Tryz.f40, Option.getD_some, lftC, opsC]
    simp only [go_sem, yA, yB, yC, yD, yE, yF, yG, wA, wB, wC, wD, wE, wF, wG, wH, q0, q1]
    refine fun cb hcb => ?_
    simp only [go_sem, yA, yB, yC, yD, yE, yF, yG, wA, wB, wC, wD, wE, wF, wG, wH, q0, q1, putR]
    refine fun kb hkb => ?_
    simp only [go_sem, yA, yB, yC, yD, yE, yF, yG, wA, wB, wC, wD, wE, wF, wG, wH, q0, q1, putR]
    refine ⟨rfl, cb, kb, by simp [up], by simp [up], hcb, ?_, ?_, ?_, by simp [Hp.set]⟩
    · exact fresh_of_le (le_new (fun _ _ h => h) hcb _) hkb
    · exact le_new (le_new (fun _ _ h => h) hcb _) hkb _
    · exact set_old hkb (by simp [Hp.set])
  rintro g τ ⟨ρ1, _, a1, ha1, ⟨rfl, cb, kb, r2, r3, hcb, hkb, hle, hc, hk⟩, rfl⟩
  refine Runs.ctl (fun w => stepG_seq) rfl rfl ?_
  have hm : Tryz.prog.follows .mixedOrders = true := by kernel_rfl
  refine (runs_code (E := E) (N := 52) (X := fun ρ ds τ' => InOrd τ (.pointer (some ⟨cb, 0, none⟩)) (.pointer (some ⟨kb, 0, none⟩)) (fun _ => true) ρ ds τ') ?_ (by simp [b40]) ha1).bind ?_
  · intro t
    refine wpO_any (I := InOrd τ (.pointer (some ⟨cb, 0, none⟩)) (.pointer (some ⟨kb, 0, none⟩))) hm ?_ (fun L i o ρ ds σ K => entry_step L i o ρ ds σ K) ?_ ?_ t
    · exact low_of low40
    · intro L ρ ds τ' hall h
      rw [size40] at hall
      have e : ∀ i, i < 9 → L i = true := hall
      obtain ⟨e1, e2, e3, e4, e5, e6, e7, e8, e9, e10⟩ := h
      exact ⟨e1, e2, e3, e4, by rw [e 0 (by decide), e 3 (by decide), e 6 (by decide)] at e5; exact e5, by rw [e 1 (by decide), e 4 (by decide), e 7 (by decide)] at e6; exact e6, by rw [e 2 (by decide), e 5 (by decide), e 8 (by decide)] at e7; exact e7,
        fun _ _ => e8 (e 0 (by decide)) (e 1 (by decide)), fun _ _ => e9 (e 0 (by decide)) (e 2 (by decide)), fun _ _ => e10 (e 1 (by decide)) (e 2 (by decide))⟩
    · exact ⟨rfl, r2, r3, (fun _ _ h => h), ⟨(fun h => by cases h), (fun h => by cases h), (fun h => by cases h)⟩, ⟨(fun h => by cases h), (fun h => by cases h), (fun h => by cases h)⟩, ⟨(fun h => by cases h), (fun h => by cases h), (fun h => by cases h)⟩, (fun h => by cases h), (fun h => by cases h), (fun h => by cases h)⟩
  rintro g τ' ⟨ρ2, _, a2, ha2, ⟨rfl, s2, s3, hle2, t0, t1, t2, m01, m02, m12⟩, rfl⟩
  obtain ⟨c1, i1, i2, i3⟩ := t0.c rfl
  obtain ⟨sb, i4, i5, i6⟩ := t0.a rfl
  obtain ⟨c2, j1, j2, j3⟩ := t1.c rfl
  obtain ⟨ub, j4, j5, j6⟩ := t1.a rfl
  obtain ⟨c3, k1, k2, k3⟩ := t2.c rfl
  obtain ⟨db, k4, k5, k6⟩ := t2.a rfl
  simp only [if_true, i1, j1, k1] at i6 j6 k6 m01 m02 m12
  refine Runs.here ⟨cb, kb, sb, ub, db, c1, c2, c3, ⟨fun b o h => hle2 b o (hle b o h), hle2 _ _ hc, hle2 _ _ hk, i6, j6, k6, i3, j3, k3, hcb, hkb, fresh_of_le hle i5, fresh_of_le hle j5, fresh_of_le hle k5, fresh_of_le hle i2, fresh_of_le hle j2, fresh_of_le hle k2, ?_, ?_, ?_⟩, ρ2, a2, ha2, s2, s3, i4, j4, k4, rfl⟩
  · exact fun e => m01 trivial trivial (by rw [e])
  · exact fun e => m02 trivial trivial (by rw [e])
  · exact fun e => m12 trivial trivial (by rw [e])
end Go.Qw
-- feed: its beginning: the group, the go statement.
namespace Go.Qw
open Go Go.Conc Go.Proofs
open Go.ConcX

noncomputable def g2 : Array Oper := opsC (lftC rest40)
noncomputable def g3 : Array Oper := opsC (lftC (rgtC rest40))
noncomputable def g4 : Array Oper := opsC (lftC (rgtC (rgtC rest40)))
theorem rest40_eq : rest40 = .seq (.region 2 g2 false) (.seq (.region 3 g3 false) (.seq (.region 4 g4 false) main40)) := by kernel_rfl
theorem g2_0 : ∃ ps af ty, g2[0]? = some { dst := some 7, op := .alloc 131, type := ty, pos := ps, after := af, guard := none } := ⟨_, _, _, by simp only [g2, rest40, B40, Tryz.f40, Option.getD_some, rgtC, lftC, opsC]; rfl⟩
theorem g3_0 : ∃ ps af ty ats, g3[0]? = some { dst := some 12, op := .call { callee := .value (.func 55), args := #[.tmp 7, .const (.int .i64 1)], argTypes := ats }, type := ty, pos := ps, after := af, guard := none } := ⟨_, _, _, _, by simp only [g3, rest40, B40, Tryz.f40, Option.getD_some, rgtC, lftC, opsC]; rfl⟩
theorem g4_0 : ∃ ps af ty, g4[0]? = some { dst := some 13, op := .makeFunc (.func 56) #[] #[.tmp 7, .tmp 2, .tmp 3, .tmp 4, .tmp 5, .tmp 6], type := ty, pos := ps, after := af, guard := none } := ⟨_, _, _, by simp only [g4, rest40, B40, Tryz.f40, Option.getD_some, rgtC, lftC, opsC]; rfl⟩
theorem g4_1 : ∃ ps af ty ats, g4[1]? = some { dst := none, op := .go { callee := .value (.tmp 13), args := #[], argTypes := ats }, type := ty, pos := ps, after := af, guard := none } := ⟨_, _, _, _, by simp only [g4, rest40, B40, Tryz.f40, Option.getD_some, rgtC, lftC, opsC]; rfl⟩

/-- Goroutine 0 alone, the world known. -/
def LS (S Q : Loc → Prop) (B : Nat) (g : Goroutine) (d : Nat) (R : World → Prop) (m : Machine) (T : Trace) : Prop :=
  ∃ gs w sl q, m = crowd gs w sl ∧ gs[0]? = some g ∧ Lone Tryz.prog S Q B gs w T q d ∧ R w

section
variable {S Q : Loc → Prop} {B d : Nat} {g g' : Goroutine} {R R' : World → Prop} {m : Machine} {T : Trace}
theorem LS.step (h : LS S Q B g d R m T) (hr : g.status = .running) (hR : ∀ w dd, R w → R (w.at dd)) (hs : ∀ w, R w → ∃ w', stepG Tryz.prog true g w = .go g' w' #[] ∧ R' w') : ∃ N m' T', runNT Tryz.prog N m T = (.next m', T') ∧ LS S Q B g' d R' m' T' := by
  obtain ⟨gs, w, sl, q, rfl, hg, hl, hw⟩ := h
  obtain ⟨N, gs', a', w', sl', T', q', es, h1, h2, h3, ⟨rfl, rfl, h4⟩, h5⟩ := hl.go hg hr sl (X := fun a' w' es => a' = g' ∧ es = #[] ∧ R' w') (fun dd => by
    obtain ⟨w', k1, k2⟩ := hs (w.at dd) (hR w dd hw)
    exact ⟨g', w', #[], k1, by simp, rfl, rfl, k2⟩)
  refine ⟨N, _, T', h1, gs', w', sl', q', rfl, h3, ?_, h4⟩
  simpa [deafBehind] using h5
theorem LS.ctl (h : LS S Q B g d R m T) (hr : g.status = .running) (hR : ∀ w dd, R w → R (w.at dd)) (hs : ∀ w, stepG Tryz.prog true g w = .go g' w #[]) : ∃ N m' T', runNT Tryz.prog N m T = (.next m', T') ∧ LS S Q B g' d R m' T' :=
  h.step hr hR fun w hw => ⟨w, hs w, hw⟩
end

theorem two {P : Program} {m : Machine} {T : Trace} {X Y : Machine → Trace → Prop} (h : ∃ N m' T', runNT P N m T = (.next m', T') ∧ X m' T') (k : ∀ m' T', X m' T' → ∃ N m'' T'', runNT P N m' T' = (.next m'', T'') ∧ Y m'' T'') : ∃ N m'' T'', runNT P N m T = (.next m'', T'') ∧ Y m'' T'' := by
  obtain ⟨N, m', T', h1, h2⟩ := h
  obtain ⟨N', m'', T'', k1, k2⟩ := k m' T' h2
  exact ⟨N + N', m'', T'', runNT_then h1 k1, k2⟩

set_option maxRecDepth 100000 in
theorem alloc_step {ops : Array Oper} {a : Act} {ps : String} {af : Array Edge} {ty : Nat} {rest : List Nat} {k : List Item} {cs : List Frame} (ho : ops[0]? = some { dst := some 7, op := .alloc 131, type := ty, pos := ps, after := af, guard := none }) (w : World) :
    stepG Tryz.prog true (G (b40.at a (.inRegion ops (0 :: rest) :: k)) cs) w = .go (G (b40.at (a.put (some 7) (.pointer (some ⟨w.heap.size, 0, none⟩))) (.inRegion ops rest :: k)) cs) (w.alloc (wgBlock 131 0 0)) #[] := by
  have hr : (execOp a.eval { dst := some 7, op := .alloc 131, type := ty, pos := ps, after := af, guard := none }).run Tryz.prog w = .ok (.value (.pointer (some ⟨w.heap.size, 0, none⟩))) (w.alloc (wgBlock 131 0 0)) := by
    unfold execOp
    simp [go_sem, Tryz.zeroValue131]
    rfl
  have he : (execOp a.eval { dst := some 7, op := .alloc 131, type := ty, pos := ps, after := af, guard := none }).events Tryz.prog w #[] = #[] := by
    unfold execOp
    simp [go_sem, Tryz.zeroValue131]
  rw [stepG_value ho rfl (by simp [b40]) hr, listed_none he]

theorem func_step {a : Act} {k : List Item} {cs : List Frame} {x0 x1 x2 x3 x4 x5 : Nat} (h7 : a.eval (.tmp 7) = .pointer (some ⟨x0, 0, none⟩)) (h2 : a.eval (.tmp 2) = .pointer (some ⟨x1, 0, none⟩)) (h3 : a.eval (.tmp 3) = .pointer (some ⟨x2, 0, none⟩)) (h4 : a.eval (.tmp 4) = .pointer (some ⟨x3, 0, none⟩)) (h5 : a.eval (.tmp 5) = .pointer (some ⟨x4, 0, none⟩)) (h6 : a.eval (.tmp 6) = .pointer (some ⟨x5, 0, none⟩)) (w : World) :
    stepG Tryz.prog true (G (b40.at a (.inRegion g4 [0, 1] :: k)) cs) w = .go (G (b40.at (a.put (some 13) (.func (.func 56) #[] (args56 x0 x1 x2 x3 x4 x5))) (.inRegion g4 [1] :: k)) cs) w #[] := by
  obtain ⟨ps, af, ty, ho⟩ := g4_0
  have hr : (execOp a.eval { dst := some 13, op := .makeFunc (.func 56) #[] #[.tmp 7, .tmp 2, .tmp 3, .tmp 4, .tmp 5, .tmp 6], type := ty, pos := ps, after := af, guard := none }).run Tryz.prog w = .ok (.value (.func (.func 56) #[] (args56 x0 x1 x2 x3 x4 x5))) w := by
    unfold execOp
    simp [Instr.makeFunc, h7, h2, h3, h4, h5, h6, args56]
  have he : (execOp a.eval { dst := some 13, op := .makeFunc (.func 56) #[] #[.tmp 7, .tmp 2, .tmp 3, .tmp 4, .tmp 5, .tmp 6], type := ty, pos := ps, after := af, guard := none }).events Tryz.prog w #[] = #[] := by
    unfold execOp
    simp [Instr.makeFunc]
  rw [stepG_value ho rfl (by simp [b40]) hr, listed_none he]

theorem go_step {a : Act} {k : List Item} {cs : List Frame} {x0 x1 x2 x3 x4 x5 : Nat} (h : a.eval (.tmp 13) = .func (.func 56) #[] (args56 x0 x1 x2 x3 x4 x5)) (w : World) :
    stepG Tryz.prog true (G (b40.at a (.inRegion g4 [1] :: k)) cs) w = .spawn (G (b40.at a (.inRegion g4 [] :: k)) cs) (born Tryz.prog (call56 x0 x1 x2 x3 x4 x5)) w #[] := by
  obtain ⟨ps, af, ty, ats, ho⟩ := g4_1
  have hr : (execOp a.eval { dst := none, op := .go { callee := .value (.tmp 13), args := #[], argTypes := ats }, type := ty, pos := ps, after := af, guard := none }).run Tryz.prog w = .ok (.spawn (call56 x0 x1 x2 x3 x4 x5)) w := by
    unfold execOp
    simp [resolve, h, Deferred.ofValue, call56]
  have he : (execOp a.eval { dst := none, op := .go { callee := .value (.tmp 13), args := #[], argTypes := ats }, type := ty, pos := ps, after := af, guard := none }).events Tryz.prog w #[] = #[] := by
    unfold execOp
    simp [resolve, h, Deferred.ofValue]
  rw [stepG_spawn ho rfl (by simp [b40]) hr rfl, listed_none he]
  rfl

theorem b55_body : Tryz.f55.body = some (Go.ConcX.Gen.body_add wgl) := by kernel_rfl
theorem n55 : (Tryz.f55.name == "runtime.NumGoroutine") = false := by kernel_rfl
theorem b55_some : Tryz.f55.body.isNone = false := by kernel_rfl
theorem t55 : Tryz.f55.ntmps = 117 := by kernel_rfl
def aAdd (wg : Nat) : Array Value := #[.pointer (some ⟨wg, 0, none⟩), .int .i64 1, undef, undef, undef, undef, undef, undef, undef, undef, undef, undef, undef, undef, undef, undef, undef, undef, undef, undef, undef, undef, undef, undef, undef, undef, undef, undef, undef, undef, undef, undef, undef, undef, undef, undef, undef, undef, undef, undef, undef, undef, undef, undef, undef, undef, undef, undef, undef, undef, undef, undef, undef, undef, undef, undef, undef, undef, undef, undef, undef, undef, undef, undef, undef, undef, undef, undef, undef, undef, undef, undef, undef, undef, undef, undef, undef, undef, undef, undef, undef, undef, undef, undef, undef, undef, undef, undef, undef, undef, undef, undef, undef, undef, undef, undef, undef, undef, undef, undef, undef, undef, undef, undef, undef, undef, undef, undef, undef, undef, undef, undef, undef, undef, undef, undef, undef]
theorem arr117 (wg : Nat) : (#[.pointer (some ⟨wg, 0, none⟩), .int .i64 1] ++ Array.replicate (117 - 2) undef : Array Value) = aAdd wg := by kernel_rfl

/-- Add is entered. -/
theorem add_step {a : Act} {wg : Nat} {k : List Item} {cs : List Frame} (h : a.eval (.tmp 7) = .pointer (some ⟨wg, 0, none⟩)) (w : World) : stepG Tryz.prog true (G (b40.at a (.inRegion g3 [0] :: k)) cs) w =
    .go (G ((base 55).at { tmps := aAdd wg, defers := [] } [.code (Go.ConcX.Gen.body_add wgl)]) (b40.at a (.inRegion g3 [0] :: k) :: cs)) w #[] := by
  obtain ⟨ps, af, ty, ats, ho⟩ := g3_0
  have hev : (#[Operand.tmp 7, .const (.int .i64 1)]).map a.eval = #[.pointer (some ⟨wg, 0, none⟩), .int .i64 1] := by
    simp [h]
    rfl
  rw [stepG_enter (f := 55) (args := (#[Operand.tmp 7, .const (.int .i64 1)]).map a.eval) ho rfl (by simp [b40]) (run_call_body rfl Tryz.func55 n55 b55_some), enter_at (fn := Tryz.f55) _ Tryz.func55 b55_body]
  have : listed Tryz.prog b40.fn a { dst := some 12, op := .call { callee := .value (.func 55), args := #[.tmp 7, .const (.int .i64 1)], argTypes := ats }, type := ty, pos := ps, after := af, guard := none } w = #[] := by
    unfold listed
    rw [events_call_body rfl Tryz.func55 n55 b55_some]
    exact seen_none _ _
  rw [this, hev, t55, ← arr117]
  rfl
end Go.Qw
-- feed: its beginning: the group counts one.
namespace Go.Qw
open Go Go.Conc Go.Proofs
open Go.ConcX

section
variable {S Q : Loc → Prop} {B : Nat} {wg C : Nat}
@[reducible] def aShy (S : Loc → Prop) (B wg C : Nat) (hW : wg < B) (hC : C < B) (hCS : ∀ a : Addr, a.block = C → ¬ S (.cell a)) : Shy wg C :=
  let Y : Shy wg C := shyOf S B wg C (fun _ _ => True) hW hC hCS
  { ok := fun act => okF S B wg act ∧ ∀ a, act ≠ .mark (.release a)
    atomicWg := fun a wr h => ⟨Y.atomicWg a wr h, by simp⟩
    readWg := fun a h => ⟨Y.readWg a h, by simp⟩
    writeWg := fun a h => ⟨Y.writeWg a h, by simp⟩
    theirs := fun a wr h => ⟨Y.theirs a wr h, by simp⟩
    disable := ⟨Y.disable, by simp⟩
    enable := ⟨Y.enable, by simp⟩
    relMerge := ⟨Y.relMerge, by simp⟩
    acquire := ⟨Y.acquire, by simp⟩
    go1 := ⟨Y.go1, by simp⟩
    start := ⟨Y.start, by simp⟩
    stop := fun _ _ => True }

theorem evX_mark {m : Mark} (h1 : m = .disable ∨ m = .enable) : ∀ e ∈ #[mk m], EvX S B e := by
  intro e he
  simp only [List.mem_toArray, List.mem_cons, List.not_mem_nil, or_false] at he
  subst he
  rcases h1 with rfl | rfl <;> exact ⟨fun b hb => by simp [mk, MemAct.ofEvent, MemAct.touch?] at hb, trivial, by simp [mk]⟩

/-- Add, made alone. -/
theorem lone_add {gs : Array Goroutine} {w : World} {sl : Option (Nat × Nat)} {T : Trace} {q : Nat → Nat} {a : Act} {k : List Item} {cs : List Frame} (hl : Lone Tryz.prog S Q B gs w T q 0) (hg : gs[0]? = some (G ((base 55).at { tmps := aAdd wg, defers := [] } [.code (Go.ConcX.Gen.body_add wgl)]) (b40.at a (.inRegion g3 [0] :: k) :: cs)))
    (hw : WgAt 131 wg w 0 0) (hW : wg < B) (hC : C < B) (hCS : ∀ a : Addr, a.block = C → ¬ S (.cell a)) :
    ∃ N gs' w' sl' T' q', runNT Tryz.prog N (crowd gs w sl) T = (.next (crowd gs' w' sl'), T') ∧ gs'.size = gs.size ∧ gs'[0]? = some (G (b40.at (a.put ((g3[0]?).bind (·.dst)) (.tuple #[])) (.inRegion g3 [] :: k)) cs) ∧ Lone Tryz.prog S Q B gs' w' T' q' 0 ∧ ∃ dd, w' = (w.setCell (stA wg) (.int .u64 KK)).at dd := by
  letI : Shy wg C := aShy S B wg C hW hC hCS
  let StopG : Goroutine → World → Prop := fun g w₁ => g = G (b40.at (a.put ((g3[0]?).bind (·.dst)) (.tuple #[])) (.inRegion g3 [] :: k)) cs ∧ AtRel (w.setCell (stA wg) (.int .u64 KK)) w₁
  have hG := Go.ConcX.Gen.addPos (P := Tryz.prog) (L := wgl) (Wg := wg) (C := C) (StopG := StopG) (mT := 0) (b₀ := b40) (a₀ := a) (ops₀ := g3) (i₀ := 0) (rest₀ := []) (k₀ := k) (cs := cs) wgLib w hw (fun w₁ hr => ⟨rfl, hr⟩)
  have hD : ∀ w w' es, DE (EvS wg C) w w' es → ∀ e ∈ es, EvX S B e ∧ e.loc ≠ .mark .disable ∧ e.loc ≠ .mark .enable := by
    intro w w' es h e he
    obtain ⟨h1, h2, h3, h4, h5, h6, h7⟩ := h e he
    have hm : ∀ m, MemAct.ofEvent e ≠ .mark m → e.loc ≠ .mark m := by
      rintro m hm e2
      apply hm
      obtain ⟨l, wr, sy⟩ := e
      simp only at e2
      subst e2
      rfl
    exact ⟨⟨fun b hb hs => (h6.1 b hb).1 hs, h6.2.1, fun a e2 => h7 a (by
      obtain ⟨l, wr, sy⟩ := e
      simp only at e2
      subst e2
      rfl)⟩, hm _ h4, hm _ h5⟩
  obtain ⟨N1, gs1, a1, w1, sl1, T1, q1, r1, z1, g1, st1, l1⟩ := hl.goes hD 12 sl hg hG
  obtain ⟨N2, gs2, a2, w2, sl2, T2, q2, es2, r2, z2, g2', ⟨rfl, n2, hG2⟩, l2⟩ := l1.go g1 (st1 0).1 sl1 (X := fun a' w' es => es = #[mk .disable] ∧ ∃ n, Goes Tryz.prog true AtRel (DE (EvS wg C)) (AtMkS Tryz.prog .enable fun a w => ∃ n, Goes Tryz.prog true AtRel (DE (EvS wg C)) StopG n a w) n a' w') (fun dd => by
    obtain ⟨_, a', h1, h2⟩ := st1 dd
    exact ⟨a', _, _, h1, evX_mark (.inl rfl), rfl, h2⟩)
  obtain ⟨N3, gs3, a3, w3, sl3, T3, q3, r3, z3, g3', st3, l3⟩ := l2.goes hD n2 sl2 g2' hG2
  obtain ⟨N4, gs4, a4, w4, sl4, T4, q4, es4, r4, z4, g4', ⟨rfl, n4, hG4⟩, l4⟩ := l3.go g3' (st3 0).1 sl3 (X := fun a' w' es => es = #[mk .enable] ∧ ∃ n, Goes Tryz.prog true AtRel (DE (EvS wg C)) StopG n a' w') (fun dd => by
    obtain ⟨_, a', h1, h2⟩ := st3 dd
    exact ⟨a', _, _, h1, evX_mark (.inr rfl), rfl, h2⟩)
  obtain ⟨N5, gs5, a5, w5, sl5, T5, q5, r5, z5, g5', st5, l5⟩ := l4.goes hD n4 sl4 g4' hG4
  obtain ⟨e5, dd, h5⟩ := st5 w5.drawn
  have hd : deafBehind (deafBehind 0 #[mk .disable]) #[mk .enable] = 0 := by rfl
  rw [hd] at l5
  refine ⟨_, gs5, w5, sl5, T5, q5, runNT_then (runNT_then (runNT_then (runNT_then r1 r2) r3) r4) r5, ?_, by rw [g5', e5], l5, dd, h5⟩
  rw [z5, z4, z3, z2, z1]
end
end Go.Qw
