/- The law Beats of queuewire returns true for every three integers: the row over the given program, tied to its text; no condition besides. (Part 31 of 40: QwSort4 QwSort5 QwHas QwObj QwConnect.) -/
import Derived.Test.YtpiabknabfbfhaaGreatDoorBeats26
import Derived.Test.YtpiabknabfbfhaaGreatDoorBeats27
import Derived.Test.YtpiabknabfbfhaaGreatDoorBeats29
import Derived.Test.YtpiabknabfbfhaaGreatDoorBeats30
set_option linter.all false
-- Queues sorted by their names (printed by sortq.py out of the text for whole numbers, but for the order).
namespace Go.Qw
open Nat renaming reduceLT → yA, reduceLeDiff → yB, reduceBEq → yC, reduceAdd → yD, reduceSub → yE, reduceMul → yF, reduceEqDiff → yG
open Int renaming reduceToNat → wA, reduceLE → wB, reduceLT → wC, reduceEq → wD, reduceAdd → wE, reduceSub → wF, reduceMul → wG, reduceNeg → wH
open Go Go.Conc Go.Proofs

@[go_sem] theorem go_51 : isGo Tryz.prog 51 = true := by kernel_rfl
def keyP (q : Nat) : Value := .pointer (some ⟨q, 0, none⟩)
def ltQ (nm : Nat → List UInt8) (a b : Nat) : Bool := ltS (nm a) (nm b)
theorem linQ (nm : Nat → List UInt8) : LinLt (ltQ nm) := ⟨fun h k => linS.trans h k, fun h => linS.asym h⟩
def cmpI (i j : List UInt8) : Int := if Op.bytesLess i j then -1 else if i = j then 0 else 1
theorem cmpI_lt (i j : List UInt8) : decide (cmpI i j < 0) = ltS i j := by
  unfold cmpI ltS
  cases h : Op.bytesLess i j
  · by_cases e : i = j <;> simp [e]
  · simp
section
variable {E : Env Tryz.prog} {σ : Hp}
set_option maxRecDepth 100000 in
theorem cmp51_c {x y : Nat} {lx ly : List Value} {i j : List UInt8} (hx : σ.f x = some (.cells lx.toArray 81 (0, 0))) (hx0 : lx[0]? = some (.string (B i))) (hy : σ.f y = some (.cells ly.toArray 81 (0, 0))) (hy0 : ly[0]? = some (.string (B j))) :
    CallsE E 51 #[keyP x, keyP y] σ fun e' σ' => e' = .returned (.int .i64 (cmpI i j)) ∧ σ' = σ := by
  refine calls_enter Tryz.func51 Tryz.ntmps51 Tryz.results51 rfl (by simp) fun Q hQn hQr hQp => ?_
  simp only [go_sem, yA, yB, yC, yD, yE, yF, yG, wA, wB, wC, wD, wE, wF, wG, wH, keyP]
  refine wpC_draw [0, 1, 2, 3, 4, 5, 6, 7, 8, 9] (fun _ _ _ => False) (by kernel_rfl) (by decide +kernel) (fun _ _ _ _ h => h.elim) ?_
  simp only [go_sem, yA, yB, yC, yD, yE, yF, yG, wA, wB, wC, wD, wE, wF, wG, wH, keyP, hx, hx0, hy, hy0]
  refine call_ret go_52 compare52_c ?_
  refine ⟨by (repeat (first | exact keeps_nil | (apply keeps_cons; (focus decide +kernel)))), ?_⟩
  simp only [go_sem, yA, yB, yC, yD, yE, yF, yG, wA, wB, wC, wD, wE, wF, wG, wH]
  exact hQr _ _ _ _ resIs_one (Hp.le_refl _) ⟨rfl, rfl⟩
end

section
variable {E : Env Tryz.prog} {σ : Hp}
set_option maxRecDepth 100000 in
theorem isort173 {nm : Nat → List UInt8} {xs : List Nat} {blk cap : Nat} {pad : List Value} (hq : ∀ q ∈ xs, q ≠ blk ∧ ∃ l : List Value, σ.f q = some (.cells l.toArray 81 (0, 0)) ∧ l[0]? = some (.string (B (nm q)))) (hb : σ.f blk = some (.cells (xs.map keyP ++ pad).toArray 77 (0, 0))) (hn : xs.length ≤ 1000000) :
    CallsE E 173 #[.slice (some ⟨blk, 0, none⟩) xs.length cap, .int .i64 0, .int .i64 xs.length, .func (.func 51) #[] #[]] σ fun e τ => e = .returned (.tuple #[]) ∧ ∃ ys, ys.Perm xs ∧ Srt (ltQ nm) ys ∧ τ = σ.set blk (.cells (ys.map keyP ++ pad).toArray 77 (0, 0)) := by
  refine calls_enter Tryz.func173 Tryz.ntmps173 Tryz.results173 rfl (by simp) fun Q hQn hQr hQp => ?_
  simp only [go_sem, yA, yB, yC, yD, yE, yF, yG, wA, wB, wC, wD, wE, wF, wG, wH]
  refine wpC_loop (fun m ρ ds σ' => ds = [] ∧ ρ 0 = .slice (some ⟨blk, 0, none⟩) xs.length cap ∧ ρ 1 = .int .i64 0 ∧ ρ 2 = .int .i64 xs.length ∧ ρ 3 = .func (.func 51) #[] #[] ∧ ∃ S R, m = R.length ∧ (S ++ R).Perm xs ∧ Srt (ltQ nm) S ∧ (ρ 8 = .int .i64 S.length ∨ (xs = [] ∧ S = [] ∧ ρ 8 = .int .i64 1)) ∧ σ' = σ.set blk (.cells ((S ++ R).map keyP ++ pad).toArray 77 (0, 0))) (xs.length - 1) ?_ ?_
  · refine ⟨rfl, ?_, ?_, ?_, ?_, xs.take 1, xs.drop 1, by simp, by rw [List.take_append_drop], ?_, ?_, ?_⟩
    · simp only [go_sem, yA, yB, yC, yD, yE, yF, yG, wA, wB, wC, wD, wE, wF, wG, wH]
    · simp only [go_sem, yA, yB, yC, yD, yE, yF, yG, wA, wB, wC, wD, wE, wF, wG, wH]
    · simp only [go_sem, yA, yB, yC, yD, yE, yF, yG, wA, wB, wC, wD, wE, wF, wG, wH]
    · simp only [go_sem, yA, yB, yC, yD, yE, yF, yG, wA, wB, wC, wD, wE, wF, wG, wH]
    · cases xs <;> simp [Srt]
    · cases xs with
      | nil => exact .inr ⟨rfl, rfl, by simp only [go_sem, yA, yB, yC, yD, yE, yF, yG, wA, wB, wC, wD, wE, wF, wG, wH]; rfl⟩
      | cons x xs => refine .inl ?_; simp only [go_sem, yA, yB, yC, yD, yE, yF, yG, wA, wB, wC, wD, wE, wF, wG, wH]; rfl
    · rw [List.take_append_drop, Hp.set_id hb]
  · rintro m ρ ds σ' X ⟨rfl, h0, h1, h2, h3, S, R, rfl, hp, hs, h6, rfl⟩ hX
    have hlen := hp.length_eq
    rw [List.length_append] at hlen
    cases R with
    | nil =>
      have c1 : ∀ i : Int, (i = S.length ∨ (xs = [] ∧ i = 1)) → ¬ i < (xs.length : Int) := by
        rintro i (rfl | ⟨rfl, rfl⟩)
        · simp at hlen; omega
        · simp
      obtain ⟨i, hi, h6'⟩ : ∃ i : Int, (i = S.length ∨ (xs = [] ∧ i = 1)) ∧ ρ 8 = .int .i64 i := by
        rcases h6 with h6 | ⟨h, _, h6⟩
        · exact ⟨_, .inl rfl, h6⟩
        · exact ⟨_, .inr ⟨h, rfl⟩, h6⟩
      have c1 := c1 i hi
      simp only [go_sem, yA, yB, yC, yD, yE, yF, yG, wA, wB, wC, wD, wE, wF, wG, wH, h0, h1, h2, h3, h6', c1]
      exact hQn _ _ _ _ resIs_none (Hp.le_refl _) ⟨rfl, S, by simpa using hp, hs, by simp⟩
    | cons x R =>
      have h6' : ρ 8 = .int .i64 S.length := by
        rcases h6 with h6 | ⟨h6, _⟩
        · exact h6
        · subst h6; simp at hlen
      have c1 : (S.length : Int) < xs.length := by simp at hlen; omega
      simp only [go_sem, yA, yB, yC, yD, yE, yF, yG, wA, wB, wC, wD, wE, wF, wG, wH, h0, h1, h2, h3, h6', c1]
      refine wpC_loop (fun m ρ ds σ' => ds = [] ∧ ρ 0 = .slice (some ⟨blk, 0, none⟩) xs.length cap ∧ ρ 1 = .int .i64 0 ∧ ρ 2 = .int .i64 xs.length ∧ ρ 3 = .func (.func 51) #[] #[] ∧ ρ 8 = .int .i64 S.length ∧ ∃ A B, m = A.length ∧ A.length + B.length = S.length ∧ (A ++ x :: B ++ R).Perm xs ∧ Down (ltQ nm) A x B ∧ ρ 9 = .int .i64 A.length ∧ σ' = σ.set blk (.cells ((A ++ x :: B ++ R).map keyP ++ pad).toArray 77 (0, 0))) S.length ?_ ?_
      · refine ⟨rfl, ?_, ?_, ?_, ?_, ?_, S, [], rfl, by simp, by simpa using hp, .start hs, ?_, by simp⟩ <;> simp only [go_sem, yA, yB, yC, yD, yE, yF, yG, wA, wB, wC, wD, wE, wF, wG, wH, h0, h1, h2, h3, h6']
      · rintro m ρ ds σ' X' ⟨rfl, h0, h1, h2, h3, h6, A, B, rfl, hAB, hp, hd, h7, rfl⟩ hX'
        have gx : ((A ++ x :: B ++ R).map keyP ++ pad)[A.length]? = some (keyP x) := by simp
        rcases List.eq_nil_or_concat A with rfl | ⟨A, y, rfl⟩
        · have c2 : ¬ ((([] : List Nat).length : Int) > 0) := by simp
          simp only [List.length_nil] at h7 c2
          simp only [go_sem, yA, yB, yC, yD, yE, yF, yG, wA, wB, wC, wD, wE, wF, wG, wH]
          refine wpC_draw [0, 1, 2, 3, 4, 5, 6, 7, 8, 9, 10, 11, 12, 13, 14, 15, 16] (fun _ _ _ => False) (by kernel_rfl) (by decide +kernel) (fun _ _ _ _ h => h.elim) ?_
          simp only [go_sem, yA, yB, yC, yD, yE, yF, yG, wA, wB, wC, wD, wE, wF, wG, wH, h0, h1, h2, h3, h6, h7, c2]
          have hs' := hd.done0
          refine hX R.length _ _ _ _ (by simp) ⟨rfl, ?_, ?_, ?_, ?_, x :: B, R, rfl, by simpa using hp, hs', .inl ?_, by simp⟩ (Hp.le_refl _)
          · simp only [go_sem, yA, yB, yC, yD, yE, yF, yG, wA, wB, wC, wD, wE, wF, wG, wH, h0]
          · simp only [go_sem, yA, yB, yC, yD, yE, yF, yG, wA, wB, wC, wD, wE, wF, wG, wH, h1]
          · simp only [go_sem, yA, yB, yC, yD, yE, yF, yG, wA, wB, wC, wD, wE, wF, wG, wH, h2]
          · simp only [go_sem, yA, yB, yC, yD, yE, yF, yG, wA, wB, wC, wD, wE, wF, wG, wH, h3]
          · simp only [go_sem, yA, yB, yC, yD, yE, yF, yG, wA, wB, wC, wD, wE, wF, wG, wH]
            rw [wrap64 (by omega) (by omega)]
            simp at hAB
            simp [hAB]
        · simp only [List.concat_eq_append] at *
          have gx : ((A ++ [y] ++ x :: B ++ R).map keyP ++ pad)[(A ++ [y]).length]? = some (keyP x) := by simp [List.getElem?_append_right]
          have gy : ((A ++ [y] ++ x :: B ++ R).map keyP ++ pad)[A.length]? = some (keyP y) := by simp [List.getElem?_append_right]
          have c2 : (((A ++ [y]).length : Nat) : Int) > 0 := by simp
          have c3 : (0 : Int) ≤ (((A ++ [y]).length : Nat) : Int) ∧ (((A ++ [y]).length : Nat) : Int) < (xs.length : Int) := by
            have := hp.length_eq
            simp at this ⊢; omega
          have c4 : (0 : Int) ≤ (((A ++ [y]).length : Nat) : Int) - 1 ∧ (((A ++ [y]).length : Nat) : Int) - 1 < (xs.length : Int) := by
            have := hp.length_eq
            simp at this ⊢; omega
          have c5 : IntKind.i64.wrap ((((A ++ [y]).length : Nat) : Int) - 1) = (A.length : Int) := by
            rw [wrap64 (by simp) (by simp at c3 ⊢; omega)]; simp
          have c6 : (0 : Int) ≤ (A.length : Int) ∧ (A.length : Int) < (xs.length : Int) := by simp at c4 ⊢; omega
          generalize hL : (A ++ [y] ++ x :: B ++ R).map keyP ++ pad = L at gx gy
          generalize hj : (A ++ [y]).length = j at *
          have f1 : (σ.set blk (.cells L.toArray 77 (0, 0))).f blk = some (.cells L.toArray 77 (0, 0)) := Hp.f_set_same _ _
          simp only [go_sem, yA, yB, yC, yD, yE, yF, yG, wA, wB, wC, wD, wE, wF, wG, wH]
          refine wpC_draw [0, 1, 2, 3, 4, 5, 6, 7, 8, 9, 10, 11, 12, 13, 14, 15, 16] (fun _ _ _ => False) (by kernel_rfl) (by decide +kernel) (fun _ _ _ _ h => h.elim) ?_
          simp only [go_sem, yA, yB, yC, yD, yE, yF, yG, wA, wB, wC, wD, wE, wF, wG, wH, h0, h1, h2, h3, h6, h7, c2, c3, c5, c6, f1, gx, gy]
          have hxq := hq x (hp.mem_iff.1 (by simp))
          have hyq := hq y (hp.mem_iff.1 (by simp))
          obtain ⟨nx, lx, ex, ex0⟩ := hxq
          obtain ⟨ny, ly, ey, ey0⟩ := hyq
          rw [q_callv (f := 51) (l := #[]) (cap := #[]) (by simp only [go_sem, yA, yB, yC, yD, yE, yF, yG, wA, wB, wC, wD, wE, wF, wG, wH, h3])]
          simp only [go_sem, yA, yB, yC, yD, yE, yF, yG, wA, wB, wC, wD, wE, wF, wG, wH, h3, Array.empty_append, Array.append_empty]
          refine call_ret go_51 (cmp51_c (by rw [Hp.f_set_ne _ nx]; exact ex) ex0 (by rw [Hp.f_set_ne _ ny]; exact ey) ey0) ?_
          refine ⟨by (repeat (first | exact keeps_nil | (apply keeps_cons; (focus decide +kernel)))), ?_⟩
          have hcl := cmpI_lt (nm x) (nm y)
          cases hl : ltQ nm x y with
          | false =>
            simp only [go_sem, yA, yB, yC, yD, yE, yF, yG, wA, wB, wC, wD, wE, wF, wG, wH, h0, h1, h2, h3, h6, h7, hcl, show ltS (nm x) (nm y) = _ from hl]
            have hs' := hd.done1 (linQ nm) hl
            refine hX R.length _ _ _ _ (by simp) ⟨rfl, ?_, ?_, ?_, ?_, A ++ [y] ++ x :: B, R, rfl, by simpa using hp, hs', .inl ?_, by rw [hL]⟩ (Hp.le_refl _)
            · simp only [go_sem, yA, yB, yC, yD, yE, yF, yG, wA, wB, wC, wD, wE, wF, wG, wH, h0]
            · simp only [go_sem, yA, yB, yC, yD, yE, yF, yG, wA, wB, wC, wD, wE, wF, wG, wH, h1]
            · simp only [go_sem, yA, yB, yC, yD, yE, yF, yG, wA, wB, wC, wD, wE, wF, wG, wH, h2]
            · simp only [go_sem, yA, yB, yC, yD, yE, yF, yG, wA, wB, wC, wD, wE, wF, wG, wH, h3]
            · simp only [go_sem, yA, yB, yC, yD, yE, yF, yG, wA, wB, wC, wD, wE, wF, wG, wH]
              have e1 : (A ++ [y] ++ x :: B).length = S.length + 1 := by simp at hj hAB ⊢; omega
              rw [e1, wrap64 (by omega) (by omega)]
              rfl
          | true =>
            simp only [go_sem, yA, yB, yC, yD, yE, yF, yG, wA, wB, wC, wD, wE, wF, wG, wH, h0, h1, h2, h3, h6, h7, hcl, show ltS (nm x) (nm y) = _ from hl]
            refine wpC_draw [0, 1, 2, 3, 4, 5, 6, 7, 8, 9, 10, 11, 12, 13, 14, 15, 16, 17] (fun _ _ _ => False) (by kernel_rfl) (by decide +kernel) (fun _ _ _ _ h => h.elim) ?_
            have sk : ∀ x, isScalarV (keyP x) = true := fun _ => rfl
            have fS : ∀ o, (σ.set blk o).f blk = some o := fun _ => Hp.f_set_same _ _
            have lj : j < L.length := (List.getElem?_eq_some_iff.1 gx).1
            have lA : A.length < L.length := (List.getElem?_eq_some_iff.1 gy).1
            have lA' : A.length < (L.set j (keyP y)).length := by simpa using lA
            simp only [go_sem, yA, yB, yC, yD, yE, yF, yG, wA, wB, wC, wD, wE, wF, wG, wH, h0, h1, h2, h3, h6, h7, c2, c3, c5, c6, fS, gx, gy, sk, lj]
            refine ⟨by (repeat (first | exact keeps_nil | (apply keeps_cons; (focus decide +kernel)))), ?_⟩
            simp only [go_sem, yA, yB, yC, yD, yE, yF, yG, wA, wB, wC, wD, wE, wF, wG, wH, h0, h1, h2, h3, h6, h7, c2, c3, c5, c6, fS, gx, gy, sk, lj, lA']
            refine ⟨lA, ?_⟩
            refine ⟨by (repeat (first | exact keeps_nil | (apply keeps_cons; (focus decide +kernel)))), ?_⟩
            simp only [go_sem, yA, yB, yC, yD, yE, yF, yG, wA, wB, wC, wD, wE, wF, wG, wH, h0, h1, h2, h3, h6, h7, c2, c3, c5, c6, fS, gx, gy, sk, lj, lA']
            have e1 : (L.set j (keyP y)).set A.length (keyP x) = (A ++ x :: (y :: B) ++ R).map keyP ++ pad := by
              rw [← hL, ← hj]
              simp [List.set_append]
            rw [e1]
            refine hX' A.length _ _ _ _ (by rw [← hj]; simp) ⟨rfl, ?_, ?_, ?_, ?_, ?_, A, y :: B, rfl, by rw [← hj] at hAB; simp at hAB ⊢; omega, ?_, hd.step (linQ nm) hl, ?_, rfl⟩ (Hp.le_refl _)
            · simp only [go_sem, yA, yB, yC, yD, yE, yF, yG, wA, wB, wC, wD, wE, wF, wG, wH, h0]
            · simp only [go_sem, yA, yB, yC, yD, yE, yF, yG, wA, wB, wC, wD, wE, wF, wG, wH, h1]
            · simp only [go_sem, yA, yB, yC, yD, yE, yF, yG, wA, wB, wC, wD, wE, wF, wG, wH, h2]
            · simp only [go_sem, yA, yB, yC, yD, yE, yF, yG, wA, wB, wC, wD, wE, wF, wG, wH, h3]
            · simp only [go_sem, yA, yB, yC, yD, yE, yF, yG, wA, wB, wC, wD, wE, wF, wG, wH, h6]
            · refine List.Perm.trans ?_ hp
              simp only [List.append_assoc, List.cons_append, List.singleton_append, List.nil_append]
              exact List.Perm.append_left _ (List.Perm.swap ..)
            · simp only [go_sem, yA, yB, yC, yD, yE, yF, yG, wA, wB, wC, wD, wE, wF, wG, wH, c5]
end
end Go.Qw
-- The broker's queues, sorted by their names.
namespace Go.Qw
open Nat renaming reduceLT → yA, reduceLeDiff → yB, reduceBEq → yC, reduceAdd → yD, reduceSub → yE, reduceMul → yF, reduceEqDiff → yG
open Int renaming reduceToNat → wA, reduceLE → wB, reduceLT → wC, reduceEq → wD, reduceAdd → wE, reduceSub → wF, reduceMul → wG, reduceNeg → wH
open Go Go.Conc Go.Proofs

/-- The names of queues, in the heap. -/
def NamesAt (σ : Hp) (nm : Nat → List UInt8) (xs : List Nat) : Prop := ∀ q ∈ xs, ∃ l : List Value, σ.f q = some (.cells l.toArray 81 (0, 0)) ∧ l[0]? = some (.string (B (nm q)))
theorem NamesAt.perm {σ : Hp} {nm : Nat → List UInt8} {xs ys : List Nat} (h : NamesAt σ nm xs) (p : ys.Perm xs) : NamesAt σ nm ys := fun q hq => h q (p.mem_iff.1 hq)
theorem NamesAt.le {σ τ : Hp} {nm : Nat → List UInt8} {xs : List Nat} (h : NamesAt σ nm xs) (k : σ.le τ) : NamesAt τ nm xs := fun q hq => by obtain ⟨l, h1, h2⟩ := h q hq; exact ⟨l, k _ _ h1, h2⟩

section
variable {E : Env Tryz.prog} {σ : Hp} {nm : Nat → List UInt8}
set_option maxRecDepth 100000 in
theorem isort173_nil : CallsE E 173 #[.slice none 0 0, .int .i64 0, .int .i64 0, .func (.func 51) #[] #[]] σ fun e τ => e = .returned (.tuple #[]) ∧ τ = σ := by
  refine calls_enter Tryz.func173 Tryz.ntmps173 Tryz.results173 rfl (by simp) fun Q hQn hQr hQp => ?_
  simp only [go_sem, yA, yB, yC, yD, yE, yF, yG, wA, wB, wC, wD, wE, wF, wG, wH]
  refine wpC_loop (fun m ρ ds σ' => ds = [] ∧ ρ 2 = .int .i64 0 ∧ ρ 8 = .int .i64 1 ∧ σ' = σ) 0 ?_ ?_
  · refine ⟨rfl, ?_, ?_, rfl⟩ <;> simp only [go_sem, yA, yB, yC, yD, yE, yF, yG, wA, wB, wC, wD, wE, wF, wG, wH] <;> rfl
  · rintro m ρ ds σ' X ⟨rfl, h2, h6, rfl⟩ hX
    have c : ¬ (1 : Int) < 0 := by decide
    simp only [go_sem, yA, yB, yC, yD, yE, yF, yG, wA, wB, wC, wD, wE, wF, wG, wH, h2, h6, c]
    exact hQn _ _ _ _ resIs_none (Hp.le_refl _) ⟨rfl, rfl⟩

theorem isort173_c {xs : List Nat} {v : Value} (hq : NamesAt σ nm xs) (h : Sl 77 σ (xs.map keyP) v) (hn : xs.length ≤ 1000000) :
    CallsE E 173 #[v, .int .i64 0, .int .i64 xs.length, .func (.func 51) #[] #[]] σ fun e τ => e = .returned (.tuple #[]) ∧ ∃ ys, ys.Perm xs ∧ Srt (ltQ nm) ys ∧ Sl 77 τ (ys.map keyP) v ∧ Only σ τ v := by
  generalize hk : xs.map keyP = ks at h
  cases h with
  | nil h0 =>
    have : xs = [] := by rw [h0] at hk; simpa using hk
    subst this
    refine isort173_nil.mono ?_
    rintro e τ ⟨rfl, rfl⟩
    exact ⟨rfl, [], .refl _, .nil, .nil rfl, fun _ _ => rfl⟩
  | «at» a pad ha =>
    have hl : ks.length = xs.length := by rw [← hk]; simp
    rw [hl]
    have hq' : ∀ q ∈ xs, q ≠ a ∧ ∃ l : List Value, σ.f q = some (.cells l.toArray 81 (0, 0)) ∧ l[0]? = some (.string (B (nm q))) := by
      intro q hqm
      obtain ⟨l, h1, h2⟩ := hq q hqm
      refine ⟨fun e => ?_, l, h1, h2⟩
      subst e; rw [ha] at h1; simp at h1
    refine (isort173 (cap := xs.length + pad.length) (pad := pad) hq' (by rw [hk]; exact ha) hn).mono ?_
    rintro e τ ⟨rfl, ys, h1, h2, rfl⟩
    refine ⟨rfl, ys, h1, h2, ?_, ?_⟩
    · have := Sl.at (ety := 77) (σ := σ.set a (.cells (ys.map keyP ++ pad).toArray 77 (0, 0))) (xs := ys.map keyP) a pad (Hp.f_set_same _ _)
      have e : (ys.map keyP).length = xs.length := by simpa using h1.length_eq
      rw [e] at this
      exact this
    · intro b hb
      exact Hp.f_set_ne _ (hb _ _ _ rfl)

set_option maxRecDepth 100000 in
theorem pdq137_c {xs : List Nat} {v : Value} {k : Int} (hq : NamesAt σ nm xs) (h : Sl 77 σ (xs.map keyP) v) (hn : xs.length ≤ 12) :
    CallsE E 137 #[v, .int .i64 0, .int .i64 xs.length, .int .i64 k, .func (.func 51) #[] #[]] σ fun e τ => e = .returned (.tuple #[]) ∧ ∃ ys, ys.Perm xs ∧ Srt (ltQ nm) ys ∧ Sl 77 τ (ys.map keyP) v ∧ Only σ τ v := by
  refine calls_enter Tryz.func137 Tryz.ntmps137 Tryz.results137 rfl (by simp) fun Q hQn hQr hQp => ?_
  simp only [go_sem, yA, yB, yC, yD, yE, yF, yG, wA, wB, wC, wD, wE, wF, wG, wH]
  refine wpC_loop (fun m ρ ds σ' => ds = [] ∧ ρ 0 = v ∧ ρ 1 = .int .i64 0 ∧ ρ 2 = .int .i64 xs.length ∧ ρ 4 = .func (.func 51) #[] #[] ∧ σ' = σ) 0 ?_ ?_
  · refine ⟨rfl, ?_, ?_, ?_, ?_, rfl⟩ <;> simp only [go_sem, yA, yB, yC, yD, yE, yF, yG, wA, wB, wC, wD, wE, wF, wG, wH]
  · rintro m ρ ds σ' X ⟨rfl, h0, h1, h2, h4, rfl⟩ hX
    have c : (xs.length : Int) ≤ 12 := by omega
    have c0 : IntKind.i64.wrap ((xs.length : Int) - 0) = xs.length := by rw [Int.sub_zero]; exact wrap64 (by omega) (by omega)
    simp only [go_sem, yA, yB, yC, yD, yE, yF, yG, wA, wB, wC, wD, wE, wF, wG, wH, h0, h1, h2, h4, c0, c]
    refine call_post go_173 (isort173_c hq h (by omega)) ?_ (fun ch σ' ⟨h, _⟩ => by cases h)
    rintro w τ ⟨hw, hres⟩
    obtain rfl : w = .tuple #[] := by injection hw
    simp only [go_sem, yA, yB, yC, yD, yE, yF, yG, wA, wB, wC, wD, wE, wF, wG, wH]
    exact hQr _ _ _ _ resIs_none (Hp.le_refl _) ⟨rfl, hres⟩

set_option maxRecDepth 100000 in
theorem sort84_c {xs : List Nat} {v : Value} (hq : NamesAt σ nm xs) (h : Sl 77 σ (xs.map keyP) v) (hn : xs.length ≤ 12) :
    CallsE E 84 #[v, .func (.func 51) #[] #[]] σ fun e τ => e = .returned (.tuple #[]) ∧ ∃ ys, ys.Perm xs ∧ Srt (ltQ nm) ys ∧ Sl 77 τ (ys.map keyP) v ∧ Only σ τ v := by
  refine calls_enter Tryz.func84 Tryz.ntmps84 Tryz.results84 rfl (by simp) fun Q hQn hQr hQp => ?_
  obtain ⟨base, cap, rfl⟩ : ∃ base cap, v = .slice base xs.length cap := by
    generalize hk : xs.map keyP = ks at h
    have hl : ks.length = xs.length := by rw [← hk]; simp
    cases h with
    | nil h0 => exact ⟨none, 0, by rw [← hl, h0]; rfl⟩
    | «at» a pad ha => exact ⟨_, _, by rw [hl]⟩
  have cu : IntKind.u64.wrap (xs.length : Int) = xs.length := by
    have : ((xs.length : Int) % 18446744073709551616) = xs.length := by omega
    simpa [IntKind.wrap, IntKind.bits, IntKind.signed] using this
  simp only [go_sem, yA, yB, yC, yD, yE, yF, yG, wA, wB, wC, wD, wE, wF, wG, wH, cu]
  refine call_post go_135 (len135_c (by omega)) ?_ (fun ch σ' ⟨⟨_, _, h⟩, _⟩ => by cases h)
  rintro w σ' ⟨⟨k, hk, hw⟩, rfl⟩
  obtain rfl : w = .int .i64 k := by injection hw
  simp only [go_sem, yA, yB, yC, yD, yE, yF, yG, wA, wB, wC, wD, wE, wF, wG, wH]
  refine call_post go_137 (pdq137_c hq h hn) ?_ (fun ch σ' ⟨h, _⟩ => by cases h)
  rintro w τ ⟨hw, hres⟩
  obtain rfl : w = .tuple #[] := by injection hw
  simp only [go_sem, yA, yB, yC, yD, yE, yF, yG, wA, wB, wC, wD, wE, wF, wG, wH]
  exact hQn _ _ _ _ resIs_none (Hp.le_refl _) ⟨rfl, hres⟩

set_option maxRecDepth 100000 in
theorem collect83_c {f : FuncId} {α : Type} {pick : α × Value × Nat → Value} {key : α → Value} {tc : TypeId} (hY : Yields f pick key tc) (hg : isGo Tryz.prog f = true) {bm m c : Nat} {l : List (α × Value × Nat)}
    (hbm : σ.f bm = some (.cells #[.map (some m)] tc (0, 0))) (hm : σ.f m = some (kmap key l c)) (hold : ∀ e ∈ l, e.2.2 < c) (hn : (l.map (·.2.2)).Nodup) (hbig : l.length ≤ 1000000) (hsc : ∀ e ∈ l, isScalarV (pick e) = true) :
    CallsE E 83 #[.func (.func f) #[] #[.pointer (some ⟨bm, 0, none⟩)]] σ fun e τ => σ.le τ ∧ ∃ v ks, e = .returned v ∧ ks.Perm (l.map pick) ∧ Sl 77 τ ks v ∧ ∀ a n c, v = .slice (some a) n c → σ.f a.block = none := by
  refine calls_enter Tryz.func83 Tryz.ntmps83 Tryz.results83 rfl (by simp) fun Q hQn hQr hQp => ?_
  simp only [go_sem, yA, yB, yC, yD, yE, yF, yG, wA, wB, wC, wD, wE, wF, wG, wH]
  refine call_post go_136 (appendSeq136 hY hg hbm hm hold hn hbig hsc) ?_ (fun ch σ' ⟨_, _, _, h, _⟩ => by cases h)
  rintro v τ ⟨hle, v', ks, hv, h1, h2, h3⟩
  obtain rfl : v = v' := by injection hv
  simp only [go_sem, yA, yB, yC, yD, yE, yF, yG, wA, wB, wC, wD, wE, wF, wG, wH]
  exact hQr _ _ _ _ resIs_one (Hp.le_refl _) ⟨hle, v, ks, rfl, h1, h2, h3⟩

set_option maxRecDepth 100000 in
theorem values50_c {m : Nat} : CallsE E 50 #[.map (some m)] σ fun e τ => ∃ bm, e = .returned (.func (.func 85) #[] #[.pointer (some ⟨bm, 0, none⟩)]) ∧ σ.f bm = none ∧ τ = σ.set bm (.cells #[.map (some m)] 114 (0, 0)) := by
  refine calls_enter Tryz.func50 Tryz.ntmps50 Tryz.results50 rfl (by simp) fun Q hQn hQr hQp => ?_
  simp only [go_sem, yA, yB, yC, yD, yE, yF, yG, wA, wB, wC, wD, wE, wF, wG, wH]
  refine fun bm hbm => ?_
  simp only [go_sem, yA, yB, yC, yD, yE, yF, yG, wA, wB, wC, wD, wE, wF, wG, wH]
  exact hQr _ _ _ _ resIs_one (Hp.le_refl _) ⟨bm, rfl, hbm, rfl⟩

set_option maxRecDepth 100000 in
theorem sortedFunc49_c {bm m c : Nat} {l : List (List UInt8 × Value × Nat)} {qs : List Nat} (hbm : σ.f bm = some (.cells #[.map (some m)] 114 (0, 0))) (hm : σ.f m = some (kmap keyS l c)) (hold : ∀ e ∈ l, e.2.2 < c) (hn : (l.map (·.2.2)).Nodup) (hbig : l.length ≤ 12)
    (hqs : l.map (·.2.1) = qs.map keyP) (hnm : NamesAt σ nm qs) :
    CallsE E 49 #[.func (.func 85) #[] #[.pointer (some ⟨bm, 0, none⟩)], .func (.func 51) #[] #[]] σ fun e τ => σ.le τ ∧ ∃ v ys, e = .returned v ∧ ys.Perm qs ∧ Srt (ltQ nm) ys ∧ Sl 77 τ (ys.map keyP) v ∧ ∀ a n c, v = .slice (some a) n c → σ.f a.block = none := by
  refine calls_enter Tryz.func49 Tryz.ntmps49 Tryz.results49 rfl (by simp) fun Q hQn hQr hQp => ?_
  have hsc : ∀ e ∈ l, isScalarV e.2.1 = true := by
    intro e he
    have : e.2.1 ∈ qs.map keyP := by rw [← hqs]; exact List.mem_map_of_mem he
    obtain ⟨q, _, hq⟩ := List.mem_map.1 this
    rw [← hq]; rfl
  simp only [go_sem, yA, yB, yC, yD, yE, yF, yG, wA, wB, wC, wD, wE, wF, wG, wH]
  refine call_post go_83 (collect83_c yields85 go_85 hbm hm hold hn (by omega) hsc) ?_ (fun ch σ' ⟨_, _, _, h, _⟩ => by cases h)
  rintro v τ ⟨hle, v', ks, hv, h1, h2, h3⟩
  obtain rfl : v = v' := by injection hv
  obtain ⟨xs, k1, rfl⟩ := perm_of_map h1 (xs := qs) (f := keyP) hqs
  simp only [go_sem, yA, yB, yC, yD, yE, yF, yG, wA, wB, wC, wD, wE, wF, wG, wH]
  have hlen : xs.length ≤ 12 := by
    have := congrArg List.length hqs
    simp at this
    rw [k1.length_eq]; omega
  refine call_post go_84 (sort84_c ((hnm.perm k1).le hle) h2 hlen) ?_ (fun ch σ' ⟨h, _⟩ => by cases h)
  rintro w τ' ⟨hw, ys, p1, p2, p3, p4⟩
  obtain rfl : w = .tuple #[] := by injection hw
  simp only [go_sem, yA, yB, yC, yD, yE, yF, yG, wA, wB, wC, wD, wE, wF, wG, wH]
  refine hQr _ _ _ _ resIs_one (Hp.le_refl _) ⟨?_, v, ys, rfl, p1.trans k1, p2, p3, h3⟩
  intro b o hb
  rw [p4 b (fun a n c e e2 => by have := h3 a n c e; rw [← e2, hb] at this; cases this)]
  exact hle b o hb

set_option maxRecDepth 100000 in
/-- Broker.Sorted. -/
theorem sorted34_c {bb m c : Nat} {lb : List Value} {l : List (List UInt8 × Value × Nat)} {qs : List Nat} (hb : σ.f bb = some (.cells lb.toArray 116 (0, 0))) (hb0 : lb[0]? = some (.map (some m))) (hm : σ.f m = some (kmap keyS l c)) (hold : ∀ e ∈ l, e.2.2 < c) (hn : (l.map (·.2.2)).Nodup) (hbig : l.length ≤ 12)
    (hqs : l.map (·.2.1) = qs.map keyP) (hnm : NamesAt σ nm qs) :
    CallsE E 34 #[.pointer (some ⟨bb, 0, none⟩)] σ fun e τ => σ.le τ ∧ ∃ v ys, e = .returned v ∧ ys.Perm qs ∧ Srt (ltQ nm) ys ∧ Sl 77 τ (ys.map keyP) v ∧ ∀ a n c, v = .slice (some a) n c → σ.f a.block = none := by
  refine calls_enter Tryz.func34 Tryz.ntmps34 Tryz.results34 rfl (by simp) fun Q hQn hQr hQp => ?_
  simp only [go_sem, yA, yB, yC, yD, yE, yF, yG, wA, wB, wC, wD, wE, wF, wG, wH, hb, hb0]
  refine call_post go_50 values50_c ?_ (fun ch σ' ⟨_, h, _⟩ => by cases h)
  rintro w τ ⟨bm, hw, hbm, rfl⟩
  obtain rfl : w = .func (.func 85) #[] #[.pointer (some ⟨bm, 0, none⟩)] := by injection hw
  have hne : ∀ {b o}, σ.f b = some o → b ≠ bm := fun h e => by subst e; rw [hbm] at h; cases h
  have hle1 : σ.le (σ.set bm (.cells #[.map (some m)] 114 (0, 0))) := fun b o h => by rw [Hp.f_set_ne _ (hne h)]; exact h
  have hm' := hle1 _ _ hm
  simp only [go_sem, yA, yB, yC, yD, yE, yF, yG, wA, wB, wC, wD, wE, wF, wG, wH]
  refine call_post go_49 (sortedFunc49_c (Hp.f_set_same _ _) hm' hold hn hbig hqs (hnm.le hle1)) ?_ (fun ch σ' ⟨_, _, _, h, _⟩ => by cases h)
  rintro v τ ⟨hle, v', ys, hv, h1, h2, h3, h4⟩
  obtain rfl : v = v' := by injection hv
  simp only [go_sem, yA, yB, yC, yD, yE, yF, yG, wA, wB, wC, wD, wE, wF, wG, wH]
  refine hQr _ _ _ _ resIs_one (Hp.le_refl _) ⟨Hp.le_trans hle1 hle, v, ys, rfl, h1, h2, h3, ?_⟩
  intro a n c e
  have := h4 a n c e
  by_cases e2 : a.block = bm
  · rw [e2]; exact hbm
  · rw [Hp.f_set_ne _ e2] at this; exact this
end
end Go.Qw
-- A part of the heap, as a list of blocks that stand apart.
namespace Go.Qw
open Go Go.Conc Go.Proofs

theorem ir_mapUpdate {t : TypeId} {m i v : Operand} : isRd (.mapUpdate t m i v) = false := _root_.id rfl
theorem ir_insert {t : TypeId} {m i v : Operand} : isRd (.insert t m i v) = false := _root_.id rfl
theorem ir_lookup {t : TypeId} {m i : Operand} {ok : Bool} : isRd (.lookup t m i ok) = false := _root_.id rfl
theorem ir_invoke {r : Operand} {m : String} {a : Array Operand} {b : Array TypeId} : isRd (.call ⟨.invoke r m, a, b⟩) = false := _root_.id rfl
theorem ir_delete {x : Array Operand} {a : Array TypeId} : isRd (.call ⟨.builtin .delete, x, a⟩) = false := _root_.id rfl
theorem ir_clear {x : Array Operand} {a : Array TypeId} : isRd (.call ⟨.builtin .clear, x, a⟩) = false := _root_.id rfl
attribute [go_sem] ir_mapUpdate ir_insert ir_lookup ir_invoke ir_delete ir_clear

/-- These blocks, all apart, bear this. -/
structure Has (L : List (Nat × Obj)) (σ : Hp) : Prop where
  nd : (L.map (·.1)).Nodup
  all : ∀ p ∈ L, σ.f p.1 = some p.2

theorem Hp.f_ne {σ : Hp} {x b : Nat} {o : Obj} (h : ¬ x = b) : (σ.set b o).f x = σ.f x := Hp.f_set_ne _ h

section
variable {L : List (Nat × Obj)} {σ τ : Hp} {b : Nat} {o o' : Obj}
theorem Has.le (h : Has L σ) (k : σ.le τ) : Has L τ := ⟨h.nd, fun p hp => k _ _ (h.all p hp)⟩
theorem Has.at (h : Has L σ) (n : Nat) (hn : L[n]? = some (b, o)) : σ.f b = some o := h.all _ (List.mem_of_getElem? hn)
theorem Has.get (h : Has L σ) (hm : (b, o) ∈ L) : σ.f b = some o := h.all _ hm
theorem Has.ne (h : Has L σ) {i j : Nat} {b' : Nat} (hi : L[i]? = some (b, o)) (hj : L[j]? = some (b', o')) (hij : i ≠ j) : ¬ b = b' := by
  intro e
  subst e
  obtain ⟨hi1, hi2⟩ := List.getElem?_eq_some_iff.1 hi
  obtain ⟨hj1, hj2⟩ := List.getElem?_eq_some_iff.1 hj
  have := h.nd
  rw [List.nodup_iff_pairwise_ne] at this
  have key : ∀ i j (hi1 : i < L.length) (hj1 : j < L.length), i < j → (L[i]).1 ≠ (L[j]).1 := by
    intro i j hi1 hj1 hij
    have h1 := List.pairwise_iff_getElem.1 this i j (by simpa using hi1) (by simpa using hj1) hij
    simpa using h1
  rcases Nat.lt_or_gt_of_ne hij with h1 | h1
  · exact key i j hi1 hj1 h1 (by rw [hi2, hj2])
  · exact key j i hj1 hi1 h1 (by rw [hi2, hj2])
theorem Has.perm {L' : List (Nat × Obj)} (h : Has L σ) (p : L'.Perm L) : Has L' σ :=
  ⟨(p.map _).nodup_iff.2 h.nd, fun x hx => h.all x (p.mem_iff.1 hx)⟩
theorem Has.sub {L' : List (Nat × Obj)} (h : Has L σ) (p : L'.Sublist L) : Has L' σ :=
  ⟨h.nd.sublist (p.map _), fun x hx => h.all x (p.subset hx)⟩
theorem Has.set (h : Has L σ) (n : Nat) (hn : L[n]? = some (b, o)) (o' : Obj) : Has (L.set n (b, o')) (σ.set b o') := by
  obtain ⟨h1, h2⟩ := List.getElem?_eq_some_iff.1 hn
  have e : (L.set n (b, o')).map (·.1) = L.map (·.1) := by
    rw [List.map_set]
    apply List.ext_getElem?
    intro i
    rw [List.getElem?_set]
    by_cases hi : n = i
    · subst hi; simp [h1, h2]
    · simp [hi]
  refine ⟨by rw [e]; exact h.nd, fun p hp => ?_⟩
  obtain ⟨i, hi, rfl⟩ := List.mem_iff_getElem.1 hp
  rw [List.getElem_set]
  by_cases hni : n = i
  · subst hni; simp [Hp.f_set_same]
  · simp only [hni, if_false]
    have hi' : i < L.length := by simpa using hi
    have this : ¬ (L[i]).1 = b := h.ne (i := i) (j := n) (List.getElem?_eq_getElem hi') hn (fun e => hni e.symm)
    rw [Hp.f_set_ne _ this]
    exact h.all _ (List.getElem_mem hi')
theorem Has.new (h : Has L σ) (hb : σ.f b = none) (o : Obj) : Has ((b, o) :: L) (σ.set b o) := by
  have hne : ∀ p ∈ L, p.1 ≠ b := fun p hp e => by have := h.all p hp; rw [e, hb] at this; cases this
  refine ⟨?_, fun p hp => ?_⟩
  · rw [List.map_cons, List.nodup_cons]
    refine ⟨fun hm => ?_, h.nd⟩
    obtain ⟨p, hp, e⟩ := List.mem_map.1 hm
    exact hne p hp e
  · rcases List.mem_cons.1 hp with rfl | hp
    · exact Hp.f_set_same _ _
    · rw [Hp.f_set_ne _ (hne p hp)]; exact h.all p hp
theorem Has.only (h : Has L σ) {v : Value} (k : Only σ τ v) (hv : ∀ a n c, v = .slice (some a) n c → ∀ p ∈ L, p.1 ≠ a.block) : Has L τ :=
  ⟨h.nd, fun p hp => by rw [k p.1 (fun a n c e => hv a n c e p hp)]; exact h.all p hp⟩
end
end Go.Qw
-- The gateway's objects; New of the broker; Connect.
namespace Go.Qw
open Nat renaming reduceLT → yA, reduceLeDiff → yB, reduceBEq → yC, reduceAdd → yD, reduceSub → yE, reduceMul → yF, reduceEqDiff → yG
open Int renaming reduceToNat → wA, reduceLE → wB, reduceLT → wC, reduceEq → wD, reduceAdd → wE, reduceSub → wF, reduceMul → wG, reduceNeg → wH
open Go Go.Conc Go.Proofs

abbrev pV (b : Nat) : Value := .pointer (some ⟨b, 0, none⟩)
abbrev iV (i : Int) : Value := .int .i64 i
abbrev sV (l : List UInt8) : Value := .string (B l)

structure Cfg where
  channels : Int
  frame : Int
  beat : Int
  queue : Int
  body : Int
def Cfg.vals (c : Cfg) : List Value := [iV c.channels, iV c.frame, iV c.beat, iV c.queue, iV c.body]
def gwO (cfg : Cfg) (br mc : Nat) (clock last : Int) : Obj := .cells [iV cfg.channels, iV cfg.frame, iV cfg.beat, iV cfg.queue, iV cfg.body, pV br, iV clock, iV last, .map (some mc)].toArray 74 (0, 0)
def brO (mq : Nat) (most messages nos : Int) : Obj := .cells [.map (some mq), iV most, iV messages, iV nos].toArray 116 (0, 0)
structure CR where
  ph : Int
  rest : List UInt8
  greeted : Bool
  most : Int
  frame : Int
  beat : Int
  sent : Int
  recv : Int
  out : List UInt8
def CR.vals (g : Nat) (id : Int) (chm : Nat) (c : CR) : List Value := [pV g, iV id, iV c.ph, sV c.rest, .bool c.greeted, .map (some chm), iV c.most, iV c.frame, iV c.beat, iV c.sent, iV c.recv, sV c.out]
def connO (g : Nat) (id : Int) (chm : Nat) (c : CR) : Obj := .cells (c.vals g id chm).toArray 90 (0, 0)
structure HR where
  closing : Bool
  prefetch : Int
  tag : Int
  want : Int
  key : List UInt8
  body : List UInt8
  size : Int
def HR.vals (c : Nat) (no : Int) (un co : Nat) (h : HR) : List Value := [pV c, iV no, .bool h.closing, iV h.prefetch, iV h.tag, .map (some un), .map (some co), iV h.want, sV h.key, sV h.body, iV h.size]
def chanO (c : Nat) (no : Int) (un co : Nat) (h : HR) : Obj := .cells (h.vals c no un co).toArray 276 (0, 0)
def queueO (name : List UInt8) (ready : Value) (held last : Int) (cons : Value) : Obj := .cells [sV name, ready, iV held, iV last, cons].toArray 81 (0, 0)

section
variable {E : Env Tryz.prog} {σ : Hp}
set_option maxRecDepth 100000 in
theorem new46_c {most : Int} : CallsE E 46 #[iV most] σ fun e τ => ∃ b m, e = .returned (pV b) ∧ σ.f m = none ∧ b ≠ m ∧ σ.f b = none ∧ τ = (σ.set m (kmap keyS [] 0)).set b (brO m most 0 0) := by
  refine calls_enter Tryz.func46 Tryz.ntmps46 Tryz.results46 rfl (by simp) fun Q hQn hQr hQp => ?_
  simp only [go_sem, yA, yB, yC, yD, yE, yF, yG, wA, wB, wC, wD, wE, wF, wG, wH]
  refine fun m hm => ?_
  simp only [go_sem, yA, yB, yC, yD, yE, yF, yG, wA, wB, wC, wD, wE, wF, wG, wH]
  refine fun b hb => ?_
  simp only [go_sem, yA, yB, yC, yD, yE, yF, yG, wA, wB, wC, wD, wE, wF, wG, wH]
  have hne : b ≠ m := fun e => by subst e; rw [Hp.f_set_same] at hb; cases hb
  rw [Hp.f_set_ne _ hne] at hb
  exact hQr _ _ _ _ resIs_one (Hp.le_refl _) ⟨b, m, rfl, hm, hne, hb, rfl⟩
end
end Go.Qw
-- Connect.
namespace Go.Qw
open Nat renaming reduceLT → yA, reduceLeDiff → yB, reduceBEq → yC, reduceAdd → yD, reduceSub → yE, reduceMul → yF, reduceEqDiff → yG
open Int renaming reduceToNat → wA, reduceLE → wB, reduceLT → wC, reduceEq → wD, reduceAdd → wE, reduceSub → wF, reduceMul → wG, reduceNeg → wH
open Go Go.Conc Go.Proofs
section
variable {E : Env Tryz.prog} {σ : Hp}
set_option maxRecDepth 100000 in
theorem connect37_c {cfg : Cfg} {g br mc : Nat} {clock last : Int} {l : List (Int × Value × Nat)} {c : Nat} (hg : σ.f g = some (gwO cfg br mc clock last)) (hm : σ.f mc = some (kmap keyI l c)) (hl : l.length ≠ 4) (hu : Uniq l) (h1 : -9223372036854775808 ≤ last + 1) (h2 : last + 1 ≤ 9223372036854775807) :
    CallsE E 37 #[pV g] σ fun e τ => ∃ b chm, e = .returned (.tuple #[iV (last + 1), .nilIface]) ∧ σ.f b = none ∧ σ.f chm = none ∧ b ≠ chm ∧
      τ = (((σ.set g (gwO cfg br mc clock (last + 1))).set chm (kmap keyI [] 0)).set b (connO g (last + 1) chm ⟨0, [], false, 0, cfg.frame, 0, clock, clock, []⟩)).set mc (kmap keyI (mput l (last + 1) (pV b) c) (mclock l (last + 1) c)) := by
  refine calls_enter Tryz.func37 Tryz.ntmps37 Tryz.results37 rfl (by simp) fun Q hQn hQr hQp => ?_
  have c4 : ¬ ((l.length : Int) = 4) := by omega
  simp only [go_sem, yA, yB, yC, yD, yE, yF, yG, wA, wB, wC, wD, wE, wF, wG, wH, hg, gwO]
  refine mapLen_intro ko72 (by simp only [go_sem, yA, yB, yC, yD, yE, yF, yG, wA, wB, wC, wD, wE, wF, wG, wH]) hm ?_
  have w1 : IntKind.i64.wrap (last + 1) = last + 1 := wrap64 h1 h2
  simp only [go_sem, yA, yB, yC, yD, yE, yF, yG, wA, wB, wC, wD, wE, wF, wG, wH, c4, hg, gwO, w1]
  have n1 : ¬ mc = g := fun e => by subst e; rw [hg] at hm; simp [gwO, kmap] at hm
  refine wpC_draw [0,1,2,3,4,5,6,7,8,9,10,11,12,14,15,16,17,18,19,20,21,22,23,24,25,26,13,27,28,29] (fun _ _ _ => False) (by kernel_rfl) (by decide +kernel) (fun _ _ _ _ h => h.elim) ?_
  simp only [go_sem, yA, yB, yC, yD, yE, yF, yG, wA, wB, wC, wD, wE, wF, wG, wH]
  refine fun chm hchm => ?_
  have fg : (σ.set g (gwO cfg br mc clock (last + 1))).f g = some (gwO cfg br mc clock (last + 1)) := Hp.f_set_same _ _
  have n2 : ¬ chm = g := fun e => by subst e; rw [Hp.f_set_same] at hchm; cases hchm
  have fg1 : ∀ o, ((σ.set g (gwO cfg br mc clock (last + 1))).set chm o).f g = some (gwO cfg br mc clock (last + 1)) := fun o => by rw [Hp.f_ne (Ne.symm n2)]; exact fg
  simp only [gwO] at fg1
  refine ⟨by (repeat (first | exact keeps_nil | (apply keeps_cons; (focus decide +kernel)) | (refine keeps_rd rfl (by simp only [go_sem, yA, yB, yC, yD, yE, yF, yG, wA, wB, wC, wD, wE, wF, wG, wH, fg1]) ?_))), ?_⟩
  rw [Hp.f_ne n2] at hchm
  have n3 : ¬ chm = mc := fun e => by subst e; rw [hm] at hchm; cases hchm
  simp only [go_sem, yA, yB, yC, yD, yE, yF, yG, wA, wB, wC, wD, wE, wF, wG, wH]
  refine ⟨by (repeat (first | exact keeps_nil | (apply keeps_cons; (focus decide +kernel)) | (refine keeps_rd rfl (by simp only [go_sem, yA, yB, yC, yD, yE, yF, yG, wA, wB, wC, wD, wE, wF, wG, wH, fg1]) ?_))), ?_⟩
  simp only [go_sem, yA, yB, yC, yD, yE, yF, yG, wA, wB, wC, wD, wE, wF, wG, wH]
  refine fun b hb => ?_
  have k1 : ¬ b = chm := fun e => by subst e; rw [Hp.f_set_same] at hb; cases hb
  rw [Hp.f_ne k1] at hb
  have k2 : ¬ b = g := fun e => by subst e; rw [Hp.f_set_same] at hb; cases hb
  rw [Hp.f_ne k2] at hb
  have k3 : ¬ b = mc := fun e => by subst e; rw [hm] at hb; cases hb
  have fg2 : ∀ o o', (((σ.set g (gwO cfg br mc clock (last + 1))).set chm o).set b o').f g = some (gwO cfg br mc clock (last + 1)) := fun o o' => by rw [Hp.f_ne (Ne.symm k2), Hp.f_ne (Ne.symm n2)]; exact fg
  simp only [gwO] at fg2
  refine ⟨by (repeat (first | exact keeps_nil | (apply keeps_cons; (focus decide +kernel)) | (refine keeps_rd rfl (by simp only [go_sem, yA, yB, yC, yD, yE, yF, yG, wA, wB, wC, wD, wE, wF, wG, wH, fg2]) ?_))), ?_⟩
  simp only [go_sem, yA, yB, yC, yD, yE, yF, yG, wA, wB, wC, wD, wE, wF, wG, wH]
  have fm : ∀ o o' o'', (((σ.set g o).set chm o').set b o'').f mc = some (kmap keyI l c) := fun o o' o'' => by rw [Hp.f_ne (Ne.symm k3), Hp.f_ne (Ne.symm n3), Hp.f_ne n1]; exact hm
  refine mapUpdate_intro (b := mc) (k := last + 1) ko72 hu ?_ (fm _ _ _) ?_ ?_
  · simp only [go_sem, yA, yB, yC, yD, yE, yF, yG, wA, wB, wC, wD, wE, wF, wG, wH]
  · simp only [go_sem, yA, yB, yC, yD, yE, yF, yG, wA, wB, wC, wD, wE, wF, wG, wH, keyI]
  refine ⟨by (repeat (first | exact keeps_nil | (apply keeps_cons; (focus decide +kernel)))), ?_⟩
  have k4 : ¬ g = mc := fun e => n1 e.symm
  have fg3 : ∀ o o' o'', ((((σ.set g (gwO cfg br mc clock (last + 1))).set chm o).set b o').set mc o'').f g = some (gwO cfg br mc clock (last + 1)) := fun o o' o'' => by rw [Hp.f_ne k4, Hp.f_ne (Ne.symm k2), Hp.f_ne (Ne.symm n2)]; exact fg
  simp only [gwO] at fg3
  simp only [go_sem, yA, yB, yC, yD, yE, yF, yG, wA, wB, wC, wD, wE, wF, wG, wH, fg3]
  refine hQr _ _ _ _ resIs_two (Hp.le_refl _) ⟨b, chm, ?_, hb, hchm, k1, ?_⟩
  · simp only [go_sem, yA, yB, yC, yD, yE, yF, yG, wA, wB, wC, wD, wE, wF, wG, wH]
  · rfl
end
end Go.Qw
