/- The law Beats of queuewire returns true for every three integers: the row over the given program, tied to its text; no condition besides. (Part 25 of 40: QwNext.) -/
import Derived.Test.YtpiabknabfbfhaaGreatDoorBeats11
import Derived.Test.YtpiabknabfbfhaaGreatDoorBeats12
import Derived.Test.YtpiabknabfbfhaaGreatDoorBeats20
import Derived.Test.YtpiabknabfbfhaaGreatDoorBeats24
set_option linter.all false
-- next: what is cut off.
namespace Go.Qw
open Nat renaming reduceLT → yA, reduceLeDiff → yB, reduceBEq → yC, reduceAdd → yD, reduceSub → yE, reduceMul → yF, reduceEqDiff → yG
open Int renaming reduceToNat → wA, reduceLE → wB, reduceLT → wC, reduceEq → wD, reduceAdd → wE, reduceSub → wF, reduceMul → wG, reduceNeg → wH
open Go Go.Proofs

theorem resIs_cell {P : Program} {a : Tmp} {t : TypeId} {ρ : Rho} {τ : Hp} {b : Nat} {v : Value} (ha : ρ a = .pointer (some ⟨b, 0, none⟩)) (ht : isT P t = true) (h : ldV P t ⟨b, 0, none⟩ τ = some v) : ResIs P #[.cell a t] ρ τ v := by
  unfold ResIs
  have h1 : ldQ P t ⟨b, 0, none⟩ τ (fun v' => v' = v) := ldV_ldQ h rfl
  have h2 := ldQ_sound (Q := fun v' σ' => v' = v ∧ σ' = τ) (H := fun _ _ => False) ht (ldV_ldQ h ⟨rfl, rfl⟩)
  simp [wpS_bind_eq, wpS_pure', asAddr, ha]
  exact h2

theorem szz_135 : sizeT Tryz.prog 135 = 5 := by kernel_rfl
theorem ist_135 : isT Tryz.prog 135 = true := by kernel_rfl
theorem ld_135 {τ : Hp} {b : Nat} {a1 a2 a3 a4 a5 : Value} {e : Nat} (h : τ.f b = some (.cells #[a1, a2, a3, a4, a5] e (0, 0))) : ldV Tryz.prog 135 ⟨b, 0, none⟩ τ = some (.agg #[a1, a2, a3, a4, a5]) := by
  unfold ldV
  rw [if_pos ag_135, szz_135]
  simp [cellsOf, h]

theorem set_same {l : List Value} {i : Nat} {v : Value} (h : l[i]? = some v) : l.set i v = l := by
  apply List.ext_getElem?
  intro j
  rw [List.getElem?_set]
  split
  · rename_i e; subst e
    have : i < l.length := (List.getElem?_eq_some_iff.1 h).1
    simp [this, ← h]
  · rfl
theorem hp_set_same {σ : Hp} {b : Nat} {o : Obj} (h : σ.f b = some o) : σ.set b o = σ := Hp.ext' fun x => by
  by_cases e : x = b
  · subst e; rw [Hp.f_set_same, h]
  · rw [Hp.f_set_ne _ e]

theorem le_build {σ τ : Hp} {bc ub : Nat} {o : Obj} (h1 : τ.f bc = some o) (h2 : ∀ x, x ≠ bc → x ≠ ub → τ.f x = σ.f x) (hub : σ.f ub = none) (hne : bc ≠ ub) : (σ.set bc o).le τ := fun x p hx => by
  by_cases e : x = bc
  · subst e; rw [Hp.f_set_same] at hx; rw [h1]; exact hx
  · rw [Hp.f_set_ne _ e] at hx
    have e2 : x ≠ ub := fun e => by subst e; rw [hub] at hx; cases hx
    rw [h2 x e e2]; exact hx

theorem le_build2 {σ τ : Hp} {bc ub ab : Nat} {o : Obj} (h1 : τ.f bc = some o) (h2 : ∀ x, x ≠ bc → x ≠ ab → x ≠ ub → τ.f x = σ.f x) (hub : σ.f ub = none) (hab : σ.f ab = none) : (σ.set bc o).le τ := fun x p hx => by
  by_cases e : x = bc
  · subst e; rw [Hp.f_set_same] at hx; rw [h1]; exact hx
  · rw [Hp.f_set_ne _ e] at hx
    have e2 : x ≠ ub := fun e => by subst e; rw [hub] at hx; cases hx
    have e3 : x ≠ ab := fun e => by subst e; rw [hab] at hx; cases hx
    rw [h2 x e e3 e2]; exact hx

def greetB : List UInt8 := [65, 77, 81, 80, 0, 0, 9, 1]
/-- What next cuts off: the unit; greeted, rest behind it. -/
def nextU (gr : Bool) (s : List UInt8) (size : Int) : Un × Bool × List UInt8 :=
  if gr = false then
    let n := min s.length 8
    if s.take n ≠ greetB.take n then (⟨0, 0, [], true, true⟩, false, s)
    else if n = 8 then (⟨0, 0, [], true, false⟩, true, s.drop 8)
    else (⟨0, 0, [], false, false⟩, false, s)
  else if s.length < 7 then (⟨0, 0, [], false, false⟩, true, s)
  else
    let kind := num (s.take 1)
    let ch := num ((s.drop 1).take 2)
    let n := num ((s.drop 3).take 4)
    let r := s.drop 7
    let wrong : Bool := if kind = 1 ∨ kind = 2 ∨ kind = 3 then decide ((n : Int) > size - 8) else if kind = 8 then decide (n > 0 ∨ ch ≠ 0) else true
    if wrong = false ∧ r.length ≤ n then (⟨0, 0, [], false, false⟩, true, s)
    else if wrong then (⟨kind, ch, [], false, true⟩, true, s)
    else (⟨kind, ch, r.take n, false, decide (num ((r.drop n).take 1) ≠ 206)⟩, true, r.drop (n + 1))

set_option maxRecDepth 100000 in
/-- Not greeted yet. -/
theorem next_greet {E : Env Tryz.prog} {σ : Hp} {bc : Nat} {l : List Value} {et : Nat} {s : List UInt8} {size : Int} (hb : σ.f bc = some (.cells l.toArray et (0, 0))) (hl3 : l[3]? = some (.string (B s))) (hl4 : l[4]? = some (.bool false)) :
    CallsE E 104 #[.pointer (some ⟨bc, 3, none⟩), .int .i64 size] σ fun e' σ' => e' = .returned (uV (nextU false s size).1) ∧ (σ.set bc (.cells ((l.set 3 (.string (B (nextU false s size).2.2))).set 4 (.bool (nextU false s size).2.1)).toArray et (0, 0))).le σ' := by
  refine calls_enter Tryz.func104 Tryz.ntmps104 Tryz.results104 rfl (by simp) fun Q hQn hQr hQp => ?_
  simp only [go_sem, yA, yB, yC, yD, yE, yF, yG, wA, wB, wC, wD, wE, wF, wG, wH]
  refine fun ub hub => ?_
  simp only [go_sem, yA, yB, yC, yD, yE, yF, yG, wA, wB, wC, wD, wE, wF, wG, wH, hub, hb, hl3, hl4]
  obtain ⟨n, hn⟩ : ∃ n, n = min s.length 8 := ⟨_, rfl⟩
  have hmin : min (s.length : Int) 8 = (n : Int) := by omega
  refine min_intro (a := (s.length : Int)) (b := 8) (by simp only [go_sem, yA, yB, yC, yD, yE, yF, yG, wA, wB, wC, wD, wE, wF, wG, wH]) (by simp only [go_sem, yA, yB, yC, yD, yE, yF, yG, wA, wB, wC, wD, wE, wF, wG, wH]) ?_
  rw [hmin]
  simp only [go_sem, yA, yB, yC, yD, yE, yF, yG, wA, wB, wC, wD, wE, wF, wG, wH]
  have d0 : (0 : Int) ≤ n := by omega
  have d1 : (n : Int) ≤ s.length := by omega
  have d2 : (n : Int) ≤ 8 := by omega
  refine wpC_draw [0, 1, 2, 3, 4, 5] (fun _ _ _ => False) (by kernel_rfl) (by decide +kernel) (fun _ _ _ _ h => h.elim) ?_
  simp only [go_sem, yA, yB, yC, yD, yE, yF, yG, wA, wB, wC, wD, wE, wF, wG, wH, d0, d1, d2]
  refine ⟨by omega, ?_⟩
  simp only [go_sem, yA, yB, yC, yD, yE, yF, yG, wA, wB, wC, wD, wE, wF, wG, wH]
  refine pickQ_intro (b := decide (s.take n ≠ greetB.take n)) ?_ ?_
  · simp only [go_sem, yA, yB, yC, yD, yE, yF, yG, wA, wB, wC, wD, wE, wF, wG, wH, Nat.sub_zero]
    intro hg
    have hg' : ¬ s.take n = greetB.take n := by simpa using hg
    have hu : nextU false s size = (⟨0, 0, [], true, true⟩, false, s) := by simp [nextU, ← hn, hg']
    rw [hu] at hQr
    refine hQr _ _ _ _ (resIs_cell (b := ub) (by simp only [go_sem, yA, yB, yC, yD, yE, yF, yG, wA, wB, wC, wD, wE, wF, wG, wH]) ist_135 (ld_135 (by simp only [go_sem, yA, yB, yC, yD, yE, yF, yG, wA, wB, wC, wD, wE, wF, wG, wH]; rfl))) (Hp.le_refl _) ⟨by simp [uV], ?_⟩
    rw [set_same hl3, set_same hl4, hp_set_same hb]
    exact le_set_new hub
  intro hg
  have hg' : s.take n = greetB.take n := by simpa using hg
  have hlt : 4 < l.length := (List.getElem?_eq_some_iff.1 hl4).1
  have hne : bc ≠ ub := fun e => by subst e; rw [hb] at hub; cases hub
  have hub2 : ∀ o, (σ.set bc o).f ub = none := fun o => by rw [Hp.f_set_ne _ (fun e => hne e.symm)]; exact hub
  have g4 : ∀ v, (l.set 4 v)[4]? = some v := fun v => by simp [hlt]
  have g3 : ∀ v, (l.set 4 v)[3]? = some (.string (B s)) := fun v => by rw [List.getElem?_set_ne (by decide)]; exact hl3
  have hu1 : ∀ o x, ((σ.set ub o).set bc x).f ub = some o := fun o x => by rw [Hp.f_set_ne _ (fun e => hne e.symm), Hp.f_set_same]
  have hlt3 : 3 < l.length := by omega
  by_cases h8 : n = 8
  · have d3 : ((n : Int) = 8) := by omega
    have d4 : (8 : Int) ≤ s.length := by omega
    simp only [go_sem, yA, yB, yC, yD, yE, yF, yG, wA, wB, wC, wD, wE, wF, wG, wH, hub, hb, hl3, hl4, d3, hlt, g4, g3, d0, d1, d4, hlt3, hu1]
    have hu : nextU false s size = (⟨0, 0, [], true, false⟩, true, s.drop 8) := by
      have := hg'
      simp [nextU, ← hn, h8] at this ⊢
      exact this
    rw [hu] at hQr
    refine hQr _ _ _ _ (resIs_cell (b := ub) (by simp only [go_sem, yA, yB, yC, yD, yE, yF, yG, wA, wB, wC, wD, wE, wF, wG, wH]) ist_135 (ld_135 (by simp only [go_sem, yA, yB, yC, yD, yE, yF, yG, wA, wB, wC, wD, wE, wF, wG, wH]; rfl))) (Hp.le_refl _) ⟨by simp [uV], ?_⟩
    refine le_build (ub := ub) ?_ (fun x h1 h2 => ?_) hub hne
    · rw [Hp.f_set_ne _ hne, Hp.f_set_same, List.set_comm _ _ (by decide)]
      have : List.take (s.length - 8) (s.drop 8) = s.drop 8 := List.take_of_length_le (by simp)
      rw [this]
    · simp [Hp.set, h1, h2]
  · have d3 : ¬ ((n : Int) = 8) := by omega
    simp only [go_sem, yA, yB, yC, yD, yE, yF, yG, wA, wB, wC, wD, wE, wF, wG, wH, hub, hb, hl3, hl4, d3, hlt, g4, g3, d0, d1, hlt3, hu1]
    have hu : nextU false s size = (⟨0, 0, [], false, false⟩, false, s) := by
      have := hg'
      simp [nextU, ← hn, h8] at this ⊢
      exact this
    rw [hu] at hQr
    refine hQr _ _ _ _ (resIs_cell (b := ub) (by simp only [go_sem, yA, yB, yC, yD, yE, yF, yG, wA, wB, wC, wD, wE, wF, wG, wH]) ist_135 (ld_135 (by simp only [go_sem, yA, yB, yC, yD, yE, yF, yG, wA, wB, wC, wD, wE, wF, wG, wH]; rfl))) (Hp.le_refl _) ⟨by simp [uV], ?_⟩
    refine le_build (ub := ub) ?_ (fun x h1 h2 => ?_) hub hne
    · rw [set_same hl3, Hp.f_set_ne _ hne, Hp.f_set_same]
    · simp [Hp.set, h1, h2]

set_option maxRecDepth 100000 in
/-- Greeted; too few bytes. -/
theorem next_few {E : Env Tryz.prog} {σ : Hp} {bc : Nat} {l : List Value} {et : Nat} {s : List UInt8} {size : Int} (hb : σ.f bc = some (.cells l.toArray et (0, 0))) (hl3 : l[3]? = some (.string (B s))) (hl4 : l[4]? = some (.bool true)) (hs : s.length < 7) :
    CallsE E 104 #[.pointer (some ⟨bc, 3, none⟩), .int .i64 size] σ fun e' σ' => e' = .returned (uV (nextU true s size).1) ∧ (σ.set bc (.cells ((l.set 3 (.string (B (nextU true s size).2.2))).set 4 (.bool (nextU true s size).2.1)).toArray et (0, 0))).le σ' := by
  refine calls_enter Tryz.func104 Tryz.ntmps104 Tryz.results104 rfl (by simp) fun Q hQn hQr hQp => ?_
  simp only [go_sem, yA, yB, yC, yD, yE, yF, yG, wA, wB, wC, wD, wE, wF, wG, wH]
  refine fun ub hub => ?_
  have d0 : (s.length : Int) < 7 := by omega
  simp only [go_sem, yA, yB, yC, yD, yE, yF, yG, wA, wB, wC, wD, wE, wF, wG, wH, hub, hb, hl3, hl4, d0]
  have hu : nextU true s size = (⟨0, 0, [], false, false⟩, true, s) := by simp [nextU, hs]
  rw [hu] at hQr
  refine hQr _ _ _ _ (resIs_cell (b := ub) (by simp only [go_sem, yA, yB, yC, yD, yE, yF, yG, wA, wB, wC, wD, wE, wF, wG, wH]) ist_135 (ld_135 (by simp only [go_sem, yA, yB, yC, yD, yE, yF, yG, wA, wB, wC, wD, wE, wF, wG, wH]; rfl))) (Hp.le_refl _) ⟨by simp [uV], ?_⟩
  rw [set_same hl3, set_same hl4, hp_set_same hb]
  exact le_set_new hub

set_option maxRecDepth 100000 in
/-- Greeted. -/
theorem next_cut {E : Env Tryz.prog} {σ : Hp} {bc : Nat} {l : List Value} {et : Nat} {s : List UInt8} {size : Int} (hb : σ.f bc = some (.cells l.toArray et (0, 0))) (hl3 : l[3]? = some (.string (B s))) (hl4 : l[4]? = some (.bool true)) (hs : 7 ≤ s.length) (hsz : 0 ≤ size ∧ size ≤ 1000000) :
    CallsE E 104 #[.pointer (some ⟨bc, 3, none⟩), .int .i64 size] σ fun e' σ' => e' = .returned (uV (nextU true s size).1) ∧ (σ.set bc (.cells ((l.set 3 (.string (B (nextU true s size).2.2))).set 4 (.bool (nextU true s size).2.1)).toArray et (0, 0))).le σ' := by
  refine calls_enter Tryz.func104 Tryz.ntmps104 Tryz.results104 rfl (by simp) fun Q hQn hQr hQp => ?_
  simp only [go_sem, yA, yB, yC, yD, yE, yF, yG, wA, wB, wC, wD, wE, wF, wG, wH]
  refine fun ub hub => ?_
  have d0 : ¬ (s.length : Int) < 7 := by omega
  simp only [go_sem, yA, yB, yC, yD, yE, yF, yG, wA, wB, wC, wD, wE, wF, wG, wH, hub, hb, hl3, hl4, d0]
  refine fun ab hab => ?_
  have hne1 : ub ≠ ab := fun e => by subst e; rw [Hp.f_set_same] at hab; cases hab
  have hab0 : σ.f ab = none := by rw [Hp.f_set_ne _ (fun e => hne1 e.symm)] at hab; exact hab
  simp only [go_sem, yA, yB, yC, yD, yE, yF, yG, wA, wB, wC, wD, wE, wF, wG, wH, hub, hab]
  have nb : ub ≠ bc := fun e => by subst e; rw [hb] at hub; cases hub
  have na : ab ≠ bc := fun e => by subst e; rw [hb] at hab0; cases hab0
  -- kind
  refine call_post go_147 (number_ok (w := 1) (c := [.string (B s)]) (s := s) (Hp.f_set_same _ _) rfl (by omega) (by omega)) ?_ (fun ch σ' ⟨h, _⟩ => by cases h)
  rintro v τ1 ⟨hv, h1⟩
  obtain rfl : v = _ := by injection hv
  have a1 : τ1.f ab = some (.cells #[.string (B (s.drop 1))] 289 (0, 0)) := by rw [h1, Hp.f_set_same]; rfl
  have u1 : τ1.f ub = some (.cells #[.int .i64 0, .int .i64 0, .string (B []), .bool false, .bool false] 135 (0, 0)) := by rw [h1, Hp.f_set_ne _ hne1, Hp.f_set_ne _ hne1, Hp.f_set_same]; rfl
  have o1 : ∀ x, x ≠ ab → x ≠ ub → τ1.f x = σ.f x := fun x e1 e2 => by rw [h1, Hp.f_set_ne _ e1, Hp.f_set_ne _ e1, Hp.f_set_ne _ e2]
  clear h1
  simp only [go_sem, yA, yB, yC, yD, yE, yF, yG, wA, wB, wC, wD, wE, wF, wG, wH]
  -- channel
  refine call_post go_147 (number_ok (w := 2) (c := [.string (B (s.drop 1))]) (s := s.drop 1) a1 rfl (by omega) (by simp; omega)) ?_ (fun ch σ' ⟨h, _⟩ => by cases h)
  rintro v τ2 ⟨hv, h2⟩
  obtain rfl : v = _ := by injection hv
  have a2 : τ2.f ab = some (.cells #[.string (B (s.drop 3))] 289 (0, 0)) := by rw [h2, Hp.f_set_same]; simp [List.drop_drop]
  have u2 := u1
  rw [← Hp.f_set_ne (σ := τ1) (.cells ([.string (B (s.drop 1))].set 0 (.string (B ((s.drop 1).drop 2)))).toArray 289 (0, 0)) hne1] at u2
  have u2 : τ2.f ub = some (.cells #[.int .i64 0, .int .i64 0, .string (B []), .bool false, .bool false] 135 (0, 0)) := by rw [h2]; exact u2
  have o2 : ∀ x, x ≠ ab → x ≠ ub → τ2.f x = σ.f x := fun x e1 e2 => by rw [h2, Hp.f_set_ne _ e1]; exact o1 x e1 e2
  clear h2 a1 u1 o1
  obtain ⟨kind, hkind⟩ : ∃ k, k = num (s.take 1) := ⟨_, rfl⟩
  obtain ⟨ch, hch⟩ : ∃ k, k = num ((s.drop 1).take 2) := ⟨_, rfl⟩
  rw [← hkind, ← hch]
  simp only [go_sem, yA, yB, yC, yD, yE, yF, yG, wA, wB, wC, wD, wE, wF, wG, wH, u2]
  -- size
  have a2' : ∀ o, (τ2.set ub o).f ab = some (.cells #[.string (B (s.drop 3))] 289 (0, 0)) := fun o => by rw [Hp.f_set_ne _ (fun e => hne1 e.symm)]; exact a2
  refine call_post go_147 (number_ok (w := 4) (c := [.string (B (s.drop 3))]) (s := s.drop 3) (a2' _) rfl (by omega) (by simp; omega)) ?_ (fun ch σ' ⟨h, _⟩ => by cases h)
  rintro v τ3 ⟨hv, h3⟩
  obtain rfl : v = _ := by injection hv
  have a3 : τ3.f ab = some (.cells #[.string (B (s.drop 7))] 289 (0, 0)) := by rw [h3, Hp.f_set_same]; simp [List.drop_drop]
  have u3 : τ3.f ub = some (.cells #[.int .i64 kind, .int .i64 ch, .string (B []), .bool false, .bool false] 135 (0, 0)) := by rw [h3, Hp.f_set_ne _ hne1, Hp.f_set_same]; rfl
  have o3 : ∀ x, x ≠ ab → x ≠ ub → τ3.f x = σ.f x := fun x e1 e2 => by rw [h3, Hp.f_set_ne _ e1, Hp.f_set_ne _ e2]; exact o2 x e1 e2
  clear h3 a2 a2' u2 o2
  obtain ⟨n, hn⟩ : ∃ k, k = num ((s.drop 3).take 4) := ⟨_, rfl⟩
  rw [← hn]
  simp only [go_sem, yA, yB, yC, yD, yE, yF, yG, wA, wB, wC, wD, wE, wF, wG, wH, u3]
  have hnlt := num_lt ((s.drop 3).take 4)
  have a3' : ∀ o, (τ3.set ub o).f ab = some (.cells #[.string (B (s.drop 7))] 289 (0, 0)) := fun o => by rw [Hp.f_set_ne _ (fun e => hne1 e.symm)]; exact a3
  have c1 : IntKind.wrap .i64 (size - 8) = size - 8 := wrap64 (by omega) (by omega)
  by_cases k1 : (kind : Int) = 1
  · simp only [go_sem, yA, yB, yC, yD, yE, yF, yG, wA, wB, wC, wD, wE, wF, wG, wH, u3, k1, c1]
    cases hw : decide ((n : Int) > size - 8) with
    | true =>
      simp only [go_sem, yA, yB, yC, yD, yE, yF, yG, wA, wB, wC, wD, wE, wF, wG, wH, u3, a3, hw]
      have k1' : kind = 1 := by omega
      have hw' : (n : Int) > size - 8 := by simpa using hw
      have hu : nextU true s size = (⟨kind, ch, [], false, true⟩, true, s) := by
        simp only [nextU, ← hkind, ← hch, ← hn, k1']
        simp [hw', Nat.not_lt.2 hs]
      rw [hu] at hQr
      refine hQr _ _ _ _ (resIs_cell (b := ub) (by simp only [go_sem, yA, yB, yC, yD, yE, yF, yG, wA, wB, wC, wD, wE, wF, wG, wH]) ist_135 (ld_135 (by simp only [go_sem, yA, yB, yC, yD, yE, yF, yG, wA, wB, wC, wD, wE, wF, wG, wH]; rfl))) (Hp.le_refl _) ⟨by simp [uV, k1'], ?_⟩
      rw [set_same hl3, set_same hl4]
      refine le_build2 (ub := ub) (ab := ab) ?_ (fun x e1 e2 e3 => ?_) hub hab0
      · rw [Hp.f_set_ne _ (fun e => nb e.symm), o3 bc (fun e => na e.symm) (fun e => nb e.symm)]; exact hb
      · rw [Hp.f_set_ne _ e3]; exact o3 x e2 e3
    | false =>
      have k1' : kind = 1 := by omega
      have hw' : ¬ (n : Int) > size - 8 := by simpa using hw
      cases hr : decide (((s.drop 7).length : Int) ≤ n) with
      | true =>
        simp only [go_sem, yA, yB, yC, yD, yE, yF, yG, wA, wB, wC, wD, wE, wF, wG, wH, u3, a3', hw, hr]
        have hr' : (s.drop 7).length ≤ n := by have := of_decide_eq_true hr; omega
        have hu : nextU true s size = (⟨0, 0, [], false, false⟩, true, s) := by
          simp only [nextU, ← hkind, ← hch, ← hn, k1']
          simp at hr'
          simp [hw', Nat.not_lt.2 hs, hr']
        rw [hu] at hQr
        refine hQr _ _ _ _ (resIs_cell (b := ub) (by simp only [go_sem, yA, yB, yC, yD, yE, yF, yG, wA, wB, wC, wD, wE, wF, wG, wH]) ist_135 (ld_135 (by simp only [go_sem, yA, yB, yC, yD, yE, yF, yG, wA, wB, wC, wD, wE, wF, wG, wH]; rfl))) (Hp.le_refl _) ⟨by simp [uV], ?_⟩
        rw [set_same hl3, set_same hl4]
        refine le_build2 (ub := ub) (ab := ab) ?_ (fun x e1 e2 e3 => ?_) hub hab0
        · rw [Hp.f_set_ne _ (fun e => nb e.symm), o3 bc (fun e => na e.symm) (fun e => nb e.symm)]; exact hb
        · rw [Hp.f_set_ne _ e3]; exact o3 x e2 e3
      | false =>
        have hr' : n < (s.drop 7).length := by have := of_decide_eq_false hr; omega
        simp only [go_sem, yA, yB, yC, yD, yE, yF, yG, wA, wB, wC, wD, wE, wF, wG, wH, u3, a3', hw, hr]
        refine call_post go_148 (take_ok (n := (n : Int)) (c := [.string (B (s.drop 7))]) (s := s.drop 7) (a3' _) rfl (by omega) (by omega)) ?_ (fun ch σ' ⟨h, _⟩ => by cases h)
        rintro v τ4 ⟨hv, h4⟩
        obtain rfl : v = _ := by injection hv
        rw [Int.toNat_natCast] at h4 ⊢
        have a4 : τ4.f ab = some (.cells #[.string (B ((s.drop 7).drop n))] 289 (0, 0)) := by rw [h4, Hp.f_set_same]; rfl
        have u4 : τ4.f ub = some (.cells #[.int .i64 1, .int .i64 ch, .string (B []), .bool false, .bool false] 135 (0, 0)) := by rw [h4, Hp.f_set_ne _ hne1, Hp.f_set_same]; rfl
        have o4 : ∀ x, x ≠ ab → x ≠ ub → τ4.f x = σ.f x := fun x e1 e2 => by rw [h4, Hp.f_set_ne _ e1, Hp.f_set_ne _ e2]; exact o3 x e1 e2
        clear h4
        simp only [go_sem, yA, yB, yC, yD, yE, yF, yG, wA, wB, wC, wD, wE, wF, wG, wH, u4]
        have a4' : ∀ o, (τ4.set ub o).f ab = some (.cells #[.string (B ((s.drop 7).drop n))] 289 (0, 0)) := fun o => by rw [Hp.f_set_ne _ (fun e => hne1 e.symm)]; exact a4
        refine call_post go_147 (number_ok (w := 1) (c := [.string (B ((s.drop 7).drop n))]) (s := (s.drop 7).drop n) (a4' _) rfl (by omega) (by simp at hr' ⊢; omega)) ?_ (fun ch σ' ⟨h, _⟩ => by cases h)
        rintro v τ5 ⟨hv, h5⟩
        obtain rfl : v = _ := by injection hv
        have a5 : τ5.f ab = some (.cells #[.string (B ((s.drop 7).drop (n + 1)))] 289 (0, 0)) := by rw [h5, Hp.f_set_same]; simp [List.drop_drop, Nat.add_assoc]
        have u5 : τ5.f ub = some (.cells #[.int .i64 1, .int .i64 ch, .string (B ((s.drop 7).take n)), .bool false, .bool false] 135 (0, 0)) := by rw [h5, Hp.f_set_ne _ hne1, Hp.f_set_same]; rfl
        have o5 : ∀ x, x ≠ ab → x ≠ ub → τ5.f x = σ.f x := fun x e1 e2 => by rw [h5, Hp.f_set_ne _ e1, Hp.f_set_ne _ e2]; exact o4 x e1 e2
        clear h5
        obtain ⟨z, hz⟩ : ∃ k, k = num (((s.drop 7).drop n).take 1) := ⟨_, rfl⟩
        rw [← hz]
        have a5' : ∀ o, (τ5.set ub o).f ab = some (.cells #[.string (B ((s.drop 7).drop (n + 1)))] 289 (0, 0)) := fun o => by rw [Hp.f_set_ne _ (fun e => hne1 e.symm)]; exact a5
        have b5 : ∀ o, (τ5.set ub o).f bc = some (.cells l.toArray et (0, 0)) := fun o => by rw [Hp.f_set_ne _ (fun e => nb e.symm), o5 bc (fun e => na e.symm) (fun e => nb e.symm)]; exact hb
        have hlt : 3 < l.length := (List.getElem?_eq_some_iff.1 hl3).1
        have v5 : ∀ o o', ((τ5.set ub o).set bc o').f ub = some o := fun o o' => by rw [Hp.f_set_ne _ nb, Hp.f_set_same]
        simp only [go_sem, yA, yB, yC, yD, yE, yF, yG, wA, wB, wC, wD, wE, wF, wG, wH, u5, a5', b5, hlt, v5]
        have hu : nextU true s size = (⟨1, ch, (s.drop 7).take n, false, decide (z ≠ 206)⟩, true, (s.drop 7).drop (n + 1)) := by
          simp only [nextU, ← hkind, ← hch, ← hn, ← hz, k1']
          simp at hr'
          simp [hw', Nat.not_lt.2 hs, Nat.not_le.2 hr']
        rw [hu] at hQr
        refine hQr _ _ _ _ (resIs_cell (b := ub) (by simp only [go_sem, yA, yB, yC, yD, yE, yF, yG, wA, wB, wC, wD, wE, wF, wG, wH]) ist_135 (ld_135 (by simp only [go_sem, yA, yB, yC, yD, yE, yF, yG, wA, wB, wC, wD, wE, wF, wG, wH]; rfl))) (Hp.le_refl _) ⟨by simp [uV]; omega, ?_⟩
        refine le_build2 (ub := ub) (ab := ab) ?_ (fun x e1 e2 e3 => ?_) hub hab0
        · rw [Hp.f_set_ne _ (fun e => nb e.symm), Hp.f_set_same]
          have : (l.set 3 (.string (B ((s.drop 7).drop (n + 1)))))[4]? = some (.bool true) := by rw [List.getElem?_set_ne (by decide)]; exact hl4
          rw [set_same this]
        · rw [Hp.f_set_ne _ e3, Hp.f_set_ne _ e1, Hp.f_set_ne _ e3]; exact o5 x e2 e3
  by_cases k2 : (kind : Int) = 2
  · simp only [go_sem, yA, yB, yC, yD, yE, yF, yG, wA, wB, wC, wD, wE, wF, wG, wH, u3, k1, k2, c1]
    cases hw : decide ((n : Int) > size - 8) with
    | true =>
      simp only [go_sem, yA, yB, yC, yD, yE, yF, yG, wA, wB, wC, wD, wE, wF, wG, wH, u3, a3, hw]
      have kk : kind = 2 := by omega
      have hw' : (n : Int) > size - 8 := by simpa using hw
      have hu : nextU true s size = (⟨kind, ch, [], false, true⟩, true, s) := by
        simp only [nextU, ← hkind, ← hch, ← hn, kk]
        simp [hw', Nat.not_lt.2 hs]
      rw [hu] at hQr
      refine hQr _ _ _ _ (resIs_cell (b := ub) (by simp only [go_sem, yA, yB, yC, yD, yE, yF, yG, wA, wB, wC, wD, wE, wF, wG, wH]) ist_135 (ld_135 (by simp only [go_sem, yA, yB, yC, yD, yE, yF, yG, wA, wB, wC, wD, wE, wF, wG, wH]; rfl))) (Hp.le_refl _) ⟨by simp [uV, kk], ?_⟩
      rw [set_same hl3, set_same hl4]
      refine le_build2 (ub := ub) (ab := ab) ?_ (fun x e1 e2 e3 => ?_) hub hab0
      · rw [Hp.f_set_ne _ (fun e => nb e.symm), o3 bc (fun e => na e.symm) (fun e => nb e.symm)]; exact hb
      · rw [Hp.f_set_ne _ e3]; exact o3 x e2 e3
    | false =>
      have kk : kind = 2 := by omega
      have hw' : ¬ (n : Int) > size - 8 := by simpa using hw
      cases hr : decide (((s.drop 7).length : Int) ≤ n) with
      | true =>
        simp only [go_sem, yA, yB, yC, yD, yE, yF, yG, wA, wB, wC, wD, wE, wF, wG, wH, u3, a3', hw, hr]
        have hr' : (s.drop 7).length ≤ n := by have := of_decide_eq_true hr; omega
        have hu : nextU true s size = (⟨0, 0, [], false, false⟩, true, s) := by
          simp only [nextU, ← hkind, ← hch, ← hn, kk]
          simp at hr'
          simp [hw', Nat.not_lt.2 hs, hr']
        rw [hu] at hQr
        refine hQr _ _ _ _ (resIs_cell (b := ub) (by simp only [go_sem, yA, yB, yC, yD, yE, yF, yG, wA, wB, wC, wD, wE, wF, wG, wH]) ist_135 (ld_135 (by simp only [go_sem, yA, yB, yC, yD, yE, yF, yG, wA, wB, wC, wD, wE, wF, wG, wH]; rfl))) (Hp.le_refl _) ⟨by simp [uV], ?_⟩
        rw [set_same hl3, set_same hl4]
        refine le_build2 (ub := ub) (ab := ab) ?_ (fun x e1 e2 e3 => ?_) hub hab0
        · rw [Hp.f_set_ne _ (fun e => nb e.symm), o3 bc (fun e => na e.symm) (fun e => nb e.symm)]; exact hb
        · rw [Hp.f_set_ne _ e3]; exact o3 x e2 e3
      | false =>
        have hr' : n < (s.drop 7).length := by have := of_decide_eq_false hr; omega
        simp only [go_sem, yA, yB, yC, yD, yE, yF, yG, wA, wB, wC, wD, wE, wF, wG, wH, u3, a3', hw, hr]
        refine call_post go_148 (take_ok (n := (n : Int)) (c := [.string (B (s.drop 7))]) (s := s.drop 7) (a3' _) rfl (by omega) (by omega)) ?_ (fun ch σ' ⟨h, _⟩ => by cases h)
        rintro v τ4 ⟨hv, h4⟩
        obtain rfl : v = _ := by injection hv
        rw [Int.toNat_natCast] at h4 ⊢
        have a4 : τ4.f ab = some (.cells #[.string (B ((s.drop 7).drop n))] 289 (0, 0)) := by rw [h4, Hp.f_set_same]; rfl
        have u4 : τ4.f ub = some (.cells #[.int .i64 2, .int .i64 ch, .string (B []), .bool false, .bool false] 135 (0, 0)) := by rw [h4, Hp.f_set_ne _ hne1, Hp.f_set_same]; rfl
        have o4 : ∀ x, x ≠ ab → x ≠ ub → τ4.f x = σ.f x := fun x e1 e2 => by rw [h4, Hp.f_set_ne _ e1, Hp.f_set_ne _ e2]; exact o3 x e1 e2
        clear h4
        simp only [go_sem, yA, yB, yC, yD, yE, yF, yG, wA, wB, wC, wD, wE, wF, wG, wH, u4]
        have a4' : ∀ o, (τ4.set ub o).f ab = some (.cells #[.string (B ((s.drop 7).drop n))] 289 (0, 0)) := fun o => by rw [Hp.f_set_ne _ (fun e => hne1 e.symm)]; exact a4
        refine call_post go_147 (number_ok (w := 1) (c := [.string (B ((s.drop 7).drop n))]) (s := (s.drop 7).drop n) (a4' _) rfl (by omega) (by simp at hr' ⊢; omega)) ?_ (fun ch σ' ⟨h, _⟩ => by cases h)
        rintro v τ5 ⟨hv, h5⟩
        obtain rfl : v = _ := by injection hv
        have a5 : τ5.f ab = some (.cells #[.string (B ((s.drop 7).drop (n + 1)))] 289 (0, 0)) := by rw [h5, Hp.f_set_same]; simp [List.drop_drop, Nat.add_assoc]
        have u5 : τ5.f ub = some (.cells #[.int .i64 2, .int .i64 ch, .string (B ((s.drop 7).take n)), .bool false, .bool false] 135 (0, 0)) := by rw [h5, Hp.f_set_ne _ hne1, Hp.f_set_same]; rfl
        have o5 : ∀ x, x ≠ ab → x ≠ ub → τ5.f x = σ.f x := fun x e1 e2 => by rw [h5, Hp.f_set_ne _ e1, Hp.f_set_ne _ e2]; exact o4 x e1 e2
        clear h5
        obtain ⟨z, hz⟩ : ∃ k, k = num (((s.drop 7).drop n).take 1) := ⟨_, rfl⟩
        rw [← hz]
        have a5' : ∀ o, (τ5.set ub o).f ab = some (.cells #[.string (B ((s.drop 7).drop (n + 1)))] 289 (0, 0)) := fun o => by rw [Hp.f_set_ne _ (fun e => hne1 e.symm)]; exact a5
        have b5 : ∀ o, (τ5.set ub o).f bc = some (.cells l.toArray et (0, 0)) := fun o => by rw [Hp.f_set_ne _ (fun e => nb e.symm), o5 bc (fun e => na e.symm) (fun e => nb e.symm)]; exact hb
        have hlt : 3 < l.length := (List.getElem?_eq_some_iff.1 hl3).1
        have v5 : ∀ o o', ((τ5.set ub o).set bc o').f ub = some o := fun o o' => by rw [Hp.f_set_ne _ nb, Hp.f_set_same]
        simp only [go_sem, yA, yB, yC, yD, yE, yF, yG, wA, wB, wC, wD, wE, wF, wG, wH, u5, a5', b5, hlt, v5]
        have hu : nextU true s size = (⟨2, ch, (s.drop 7).take n, false, decide (z ≠ 206)⟩, true, (s.drop 7).drop (n + 1)) := by
          simp only [nextU, ← hkind, ← hch, ← hn, ← hz, kk]
          simp at hr'
          simp [hw', Nat.not_lt.2 hs, Nat.not_le.2 hr']
        rw [hu] at hQr
        refine hQr _ _ _ _ (resIs_cell (b := ub) (by simp only [go_sem, yA, yB, yC, yD, yE, yF, yG, wA, wB, wC, wD, wE, wF, wG, wH]) ist_135 (ld_135 (by simp only [go_sem, yA, yB, yC, yD, yE, yF, yG, wA, wB, wC, wD, wE, wF, wG, wH]; rfl))) (Hp.le_refl _) ⟨by simp [uV]; omega, ?_⟩
        refine le_build2 (ub := ub) (ab := ab) ?_ (fun x e1 e2 e3 => ?_) hub hab0
        · rw [Hp.f_set_ne _ (fun e => nb e.symm), Hp.f_set_same]
          have : (l.set 3 (.string (B ((s.drop 7).drop (n + 1)))))[4]? = some (.bool true) := by rw [List.getElem?_set_ne (by decide)]; exact hl4
          rw [set_same this]
        · rw [Hp.f_set_ne _ e3, Hp.f_set_ne _ e1, Hp.f_set_ne _ e3]; exact o5 x e2 e3
  by_cases k3 : (kind : Int) = 3
  · simp only [go_sem, yA, yB, yC, yD, yE, yF, yG, wA, wB, wC, wD, wE, wF, wG, wH, u3, k1, k2, k3, c1]
    cases hw : decide ((n : Int) > size - 8) with
    | true =>
      simp only [go_sem, yA, yB, yC, yD, yE, yF, yG, wA, wB, wC, wD, wE, wF, wG, wH, u3, a3, hw]
      have kk : kind = 3 := by omega
      have hw' : (n : Int) > size - 8 := by simpa using hw
      have hu : nextU true s size = (⟨kind, ch, [], false, true⟩, true, s) := by
        simp only [nextU, ← hkind, ← hch, ← hn, kk]
        simp [hw', Nat.not_lt.2 hs]
      rw [hu] at hQr
      refine hQr _ _ _ _ (resIs_cell (b := ub) (by simp only [go_sem, yA, yB, yC, yD, yE, yF, yG, wA, wB, wC, wD, wE, wF, wG, wH]) ist_135 (ld_135 (by simp only [go_sem, yA, yB, yC, yD, yE, yF, yG, wA, wB, wC, wD, wE, wF, wG, wH]; rfl))) (Hp.le_refl _) ⟨by simp [uV, kk], ?_⟩
      rw [set_same hl3, set_same hl4]
      refine le_build2 (ub := ub) (ab := ab) ?_ (fun x e1 e2 e3 => ?_) hub hab0
      · rw [Hp.f_set_ne _ (fun e => nb e.symm), o3 bc (fun e => na e.symm) (fun e => nb e.symm)]; exact hb
      · rw [Hp.f_set_ne _ e3]; exact o3 x e2 e3
    | false =>
      have kk : kind = 3 := by omega
      have hw' : ¬ (n : Int) > size - 8 := by simpa using hw
      cases hr : decide (((s.drop 7).length : Int) ≤ n) with
      | true =>
        simp only [go_sem, yA, yB, yC, yD, yE, yF, yG, wA, wB, wC, wD, wE, wF, wG, wH, u3, a3', hw, hr]
        have hr' : (s.drop 7).length ≤ n := by have := of_decide_eq_true hr; omega
        have hu : nextU true s size = (⟨0, 0, [], false, false⟩, true, s) := by
          simp only [nextU, ← hkind, ← hch, ← hn, kk]
          simp at hr'
          simp [hw', Nat.not_lt.2 hs, hr']
        rw [hu] at hQr
        refine hQr _ _ _ _ (resIs_cell (b := ub) (by simp only [go_sem, yA, yB, yC, yD, yE, yF, yG, wA, wB, wC, wD, wE, wF, wG, wH]) ist_135 (ld_135 (by simp only [go_sem, yA, yB, yC, yD, yE, yF, yG, wA, wB, wC, wD, wE, wF, wG, wH]; rfl))) (Hp.le_refl _) ⟨by simp [uV], ?_⟩
        rw [set_same hl3, set_same hl4]
        refine le_build2 (ub := ub) (ab := ab) ?_ (fun x e1 e2 e3 => ?_) hub hab0
        · rw [Hp.f_set_ne _ (fun e => nb e.symm), o3 bc (fun e => na e.symm) (fun e => nb e.symm)]; exact hb
        · rw [Hp.f_set_ne _ e3]; exact o3 x e2 e3
      | false =>
        have hr' : n < (s.drop 7).length := by have := of_decide_eq_false hr; omega
        simp only [go_sem, yA, yB, yC, yD, yE, yF, yG, wA, wB, wC, wD, wE, wF, wG, wH, u3, a3', hw, hr]
        refine call_post go_148 (take_ok (n := (n : Int)) (c := [.string (B (s.drop 7))]) (s := s.drop 7) (a3' _) rfl (by omega) (by omega)) ?_ (fun ch σ' ⟨h, _⟩ => by cases h)
        rintro v τ4 ⟨hv, h4⟩
        obtain rfl : v = _ := by injection hv
        rw [Int.toNat_natCast] at h4 ⊢
        have a4 : τ4.f ab = some (.cells #[.string (B ((s.drop 7).drop n))] 289 (0, 0)) := by rw [h4, Hp.f_set_same]; rfl
        have u4 : τ4.f ub = some (.cells #[.int .i64 3, .int .i64 ch, .string (B []), .bool false, .bool false] 135 (0, 0)) := by rw [h4, Hp.f_set_ne _ hne1, Hp.f_set_same]; rfl
        have o4 : ∀ x, x ≠ ab → x ≠ ub → τ4.f x = σ.f x := fun x e1 e2 => by rw [h4, Hp.f_set_ne _ e1, Hp.f_set_ne _ e2]; exact o3 x e1 e2
        clear h4
        simp only [go_sem, yA, yB, yC, yD, yE, yF, yG, wA, wB, wC, wD, wE, wF, wG, wH, u4]
        have a4' : ∀ o, (τ4.set ub o).f ab = some (.cells #[.string (B ((s.drop 7).drop n))] 289 (0, 0)) := fun o => by rw [Hp.f_set_ne _ (fun e => hne1 e.symm)]; exact a4
        refine call_post go_147 (number_ok (w := 1) (c := [.string (B ((s.drop 7).drop n))]) (s := (s.drop 7).drop n) (a4' _) rfl (by omega) (by simp at hr' ⊢; omega)) ?_ (fun ch σ' ⟨h, _⟩ => by cases h)
        rintro v τ5 ⟨hv, h5⟩
        obtain rfl : v = _ := by injection hv
        have a5 : τ5.f ab = some (.cells #[.string (B ((s.drop 7).drop (n + 1)))] 289 (0, 0)) := by rw [h5, Hp.f_set_same]; simp [List.drop_drop, Nat.add_assoc]
        have u5 : τ5.f ub = some (.cells #[.int .i64 3, .int .i64 ch, .string (B ((s.drop 7).take n)), .bool false, .bool false] 135 (0, 0)) := by rw [h5, Hp.f_set_ne _ hne1, Hp.f_set_same]; rfl
        have o5 : ∀ x, x ≠ ab → x ≠ ub → τ5.f x = σ.f x := fun x e1 e2 => by rw [h5, Hp.f_set_ne _ e1, Hp.f_set_ne _ e2]; exact o4 x e1 e2
        clear h5
        obtain ⟨z, hz⟩ : ∃ k, k = num (((s.drop 7).drop n).take 1) := ⟨_, rfl⟩
        rw [← hz]
        have a5' : ∀ o, (τ5.set ub o).f ab = some (.cells #[.string (B ((s.drop 7).drop (n + 1)))] 289 (0, 0)) := fun o => by rw [Hp.f_set_ne _ (fun e => hne1 e.symm)]; exact a5
        have b5 : ∀ o, (τ5.set ub o).f bc = some (.cells l.toArray et (0, 0)) := fun o => by rw [Hp.f_set_ne _ (fun e => nb e.symm), o5 bc (fun e => na e.symm) (fun e => nb e.symm)]; exact hb
        have hlt : 3 < l.length := (List.getElem?_eq_some_iff.1 hl3).1
        have v5 : ∀ o o', ((τ5.set ub o).set bc o').f ub = some o := fun o o' => by rw [Hp.f_set_ne _ nb, Hp.f_set_same]
        simp only [go_sem, yA, yB, yC, yD, yE, yF, yG, wA, wB, wC, wD, wE, wF, wG, wH, u5, a5', b5, hlt, v5]
        have hu : nextU true s size = (⟨3, ch, (s.drop 7).take n, false, decide (z ≠ 206)⟩, true, (s.drop 7).drop (n + 1)) := by
          simp only [nextU, ← hkind, ← hch, ← hn, ← hz, kk]
          simp at hr'
          simp [hw', Nat.not_lt.2 hs, Nat.not_le.2 hr']
        rw [hu] at hQr
        refine hQr _ _ _ _ (resIs_cell (b := ub) (by simp only [go_sem, yA, yB, yC, yD, yE, yF, yG, wA, wB, wC, wD, wE, wF, wG, wH]) ist_135 (ld_135 (by simp only [go_sem, yA, yB, yC, yD, yE, yF, yG, wA, wB, wC, wD, wE, wF, wG, wH]; rfl))) (Hp.le_refl _) ⟨by simp [uV]; omega, ?_⟩
        refine le_build2 (ub := ub) (ab := ab) ?_ (fun x e1 e2 e3 => ?_) hub hab0
        · rw [Hp.f_set_ne _ (fun e => nb e.symm), Hp.f_set_same]
          have : (l.set 3 (.string (B ((s.drop 7).drop (n + 1)))))[4]? = some (.bool true) := by rw [List.getElem?_set_ne (by decide)]; exact hl4
          rw [set_same this]
        · rw [Hp.f_set_ne _ e3, Hp.f_set_ne _ e1, Hp.f_set_ne _ e3]; exact o5 x e2 e3
  by_cases k8 : (kind : Int) = 8
  · simp only [go_sem, yA, yB, yC, yD, yE, yF, yG, wA, wB, wC, wD, wE, wF, wG, wH, u3, k1, k2, k3, k8, c1]
    cases hw : decide ((n : Int) > 0) with
    | true =>
      simp only [go_sem, yA, yB, yC, yD, yE, yF, yG, wA, wB, wC, wD, wE, wF, wG, wH, u3, a3, hw]
      have kk : kind = 8 := by omega
      have hw' : n > 0 := by have := of_decide_eq_true hw; omega
      have hu : nextU true s size = (⟨kind, ch, [], false, true⟩, true, s) := by
        simp only [nextU, ← hkind, ← hch, ← hn, kk]
        simp [hw', Nat.not_lt.2 hs]
      rw [hu] at hQr
      refine hQr _ _ _ _ (resIs_cell (b := ub) (by simp only [go_sem, yA, yB, yC, yD, yE, yF, yG, wA, wB, wC, wD, wE, wF, wG, wH]) ist_135 (ld_135 (by simp only [go_sem, yA, yB, yC, yD, yE, yF, yG, wA, wB, wC, wD, wE, wF, wG, wH]; rfl))) (Hp.le_refl _) ⟨by simp [uV, kk], ?_⟩
      rw [set_same hl3, set_same hl4]
      refine le_build2 (ub := ub) (ab := ab) ?_ (fun x e1 e2 e3 => ?_) hub hab0
      · rw [Hp.f_set_ne _ (fun e => nb e.symm), o3 bc (fun e => na e.symm) (fun e => nb e.symm)]; exact hb
      · rw [Hp.f_set_ne _ e3]; exact o3 x e2 e3
    | false =>
      cases hx : decide ((ch : Int) ≠ 0) with
      | true =>
        simp only [go_sem, yA, yB, yC, yD, yE, yF, yG, wA, wB, wC, wD, wE, wF, wG, wH, u3, a3, hw, hx]
        have kk : kind = 8 := by omega
        have hw' : ch ≠ 0 := by have := of_decide_eq_true hx; omega
        have hu : nextU true s size = (⟨kind, ch, [], false, true⟩, true, s) := by
          simp only [nextU, ← hkind, ← hch, ← hn, kk]
          simp [hw', Nat.not_lt.2 hs]
        rw [hu] at hQr
        refine hQr _ _ _ _ (resIs_cell (b := ub) (by simp only [go_sem, yA, yB, yC, yD, yE, yF, yG, wA, wB, wC, wD, wE, wF, wG, wH]) ist_135 (ld_135 (by simp only [go_sem, yA, yB, yC, yD, yE, yF, yG, wA, wB, wC, wD, wE, wF, wG, wH]; rfl))) (Hp.le_refl _) ⟨by simp [uV, kk], ?_⟩
        rw [set_same hl3, set_same hl4]
        refine le_build2 (ub := ub) (ab := ab) ?_ (fun x e1 e2 e3 => ?_) hub hab0
        · rw [Hp.f_set_ne _ (fun e => nb e.symm), o3 bc (fun e => na e.symm) (fun e => nb e.symm)]; exact hb
        · rw [Hp.f_set_ne _ e3]; exact o3 x e2 e3
      | false =>
        have kk : kind = 8 := by omega
        have hn0 : n = 0 := by have := of_decide_eq_false hw; omega
        have hch0 : ch = 0 := by have := of_decide_eq_false hx; omega
        have hw' : ¬ (n > 0 ∨ ch ≠ 0) := by omega
        cases hr : decide (((s.drop 7).length : Int) ≤ n) with
        | true =>
          simp only [go_sem, yA, yB, yC, yD, yE, yF, yG, wA, wB, wC, wD, wE, wF, wG, wH, u3, a3', hw, hx, hr]
          have hr' : (s.drop 7).length ≤ n := by have := of_decide_eq_true hr; omega
          have hu : nextU true s size = (⟨0, 0, [], false, false⟩, true, s) := by
            simp only [nextU, ← hkind, ← hch, ← hn, kk]
            simp at hr'
            simp [hw', Nat.not_lt.2 hs, hr']
          rw [hu] at hQr
          refine hQr _ _ _ _ (resIs_cell (b := ub) (by simp only [go_sem, yA, yB, yC, yD, yE, yF, yG, wA, wB, wC, wD, wE, wF, wG, wH]) ist_135 (ld_135 (by simp only [go_sem, yA, yB, yC, yD, yE, yF, yG, wA, wB, wC, wD, wE, wF, wG, wH]; rfl))) (Hp.le_refl _) ⟨by simp [uV], ?_⟩
          rw [set_same hl3, set_same hl4]
          refine le_build2 (ub := ub) (ab := ab) ?_ (fun x e1 e2 e3 => ?_) hub hab0
          · rw [Hp.f_set_ne _ (fun e => nb e.symm), o3 bc (fun e => na e.symm) (fun e => nb e.symm)]; exact hb
          · rw [Hp.f_set_ne _ e3]; exact o3 x e2 e3
        | false =>
          have hr' : n < (s.drop 7).length := by have := of_decide_eq_false hr; omega
          simp only [go_sem, yA, yB, yC, yD, yE, yF, yG, wA, wB, wC, wD, wE, wF, wG, wH, u3, a3', hw, hx, hr]
          refine call_post go_148 (take_ok (n := (n : Int)) (c := [.string (B (s.drop 7))]) (s := s.drop 7) (a3' _) rfl (by omega) (by omega)) ?_ (fun ch σ' ⟨h, _⟩ => by cases h)
          rintro v τ4 ⟨hv, h4⟩
          obtain rfl : v = _ := by injection hv
          rw [Int.toNat_natCast] at h4 ⊢
          have a4 : τ4.f ab = some (.cells #[.string (B ((s.drop 7).drop n))] 289 (0, 0)) := by rw [h4, Hp.f_set_same]; rfl
          have u4 : τ4.f ub = some (.cells #[.int .i64 kind, .int .i64 ch, .string (B []), .bool false, .bool false] 135 (0, 0)) := by rw [h4, Hp.f_set_ne _ hne1, Hp.f_set_same]; rfl
          have o4 : ∀ x, x ≠ ab → x ≠ ub → τ4.f x = σ.f x := fun x e1 e2 => by rw [h4, Hp.f_set_ne _ e1, Hp.f_set_ne _ e2]; exact o3 x e1 e2
          clear h4
          simp only [go_sem, yA, yB, yC, yD, yE, yF, yG, wA, wB, wC, wD, wE, wF, wG, wH, u4]
          have a4' : ∀ o, (τ4.set ub o).f ab = some (.cells #[.string (B ((s.drop 7).drop n))] 289 (0, 0)) := fun o => by rw [Hp.f_set_ne _ (fun e => hne1 e.symm)]; exact a4
          refine call_post go_147 (number_ok (w := 1) (c := [.string (B ((s.drop 7).drop n))]) (s := (s.drop 7).drop n) (a4' _) rfl (by omega) (by simp at hr' ⊢; omega)) ?_ (fun ch σ' ⟨h, _⟩ => by cases h)
          rintro v τ5 ⟨hv, h5⟩
          obtain rfl : v = _ := by injection hv
          have a5 : τ5.f ab = some (.cells #[.string (B ((s.drop 7).drop (n + 1)))] 289 (0, 0)) := by rw [h5, Hp.f_set_same]; simp [List.drop_drop, Nat.add_assoc]
          have u5 : τ5.f ub = some (.cells #[.int .i64 kind, .int .i64 ch, .string (B ((s.drop 7).take n)), .bool false, .bool false] 135 (0, 0)) := by rw [h5, Hp.f_set_ne _ hne1, Hp.f_set_same]; rfl
          have o5 : ∀ x, x ≠ ab → x ≠ ub → τ5.f x = σ.f x := fun x e1 e2 => by rw [h5, Hp.f_set_ne _ e1, Hp.f_set_ne _ e2]; exact o4 x e1 e2
          clear h5
          obtain ⟨z, hz⟩ : ∃ k, k = num (((s.drop 7).drop n).take 1) := ⟨_, rfl⟩
          rw [← hz]
          have a5' : ∀ o, (τ5.set ub o).f ab = some (.cells #[.string (B ((s.drop 7).drop (n + 1)))] 289 (0, 0)) := fun o => by rw [Hp.f_set_ne _ (fun e => hne1 e.symm)]; exact a5
          have b5 : ∀ o, (τ5.set ub o).f bc = some (.cells l.toArray et (0, 0)) := fun o => by rw [Hp.f_set_ne _ (fun e => nb e.symm), o5 bc (fun e => na e.symm) (fun e => nb e.symm)]; exact hb
          have hlt : 3 < l.length := (List.getElem?_eq_some_iff.1 hl3).1
          have v5 : ∀ o o', ((τ5.set ub o).set bc o').f ub = some o := fun o o' => by rw [Hp.f_set_ne _ nb, Hp.f_set_same]
          simp only [go_sem, yA, yB, yC, yD, yE, yF, yG, wA, wB, wC, wD, wE, wF, wG, wH, u5, a5', b5, hlt, v5]
          have hu : nextU true s size = (⟨8, ch, (s.drop 7).take n, false, decide (z ≠ 206)⟩, true, (s.drop 7).drop (n + 1)) := by
            simp only [nextU, ← hkind, ← hch, ← hn, ← hz, kk]
            simp at hr'
            simp [hw', Nat.not_lt.2 hs, Nat.not_le.2 hr']
          rw [hu] at hQr
          refine hQr _ _ _ _ (resIs_cell (b := ub) (by simp only [go_sem, yA, yB, yC, yD, yE, yF, yG, wA, wB, wC, wD, wE, wF, wG, wH]) ist_135 (ld_135 (by simp only [go_sem, yA, yB, yC, yD, yE, yF, yG, wA, wB, wC, wD, wE, wF, wG, wH]; rfl))) (Hp.le_refl _) ⟨by simp [uV, kk]; omega, ?_⟩
          refine le_build2 (ub := ub) (ab := ab) ?_ (fun x e1 e2 e3 => ?_) hub hab0
          · rw [Hp.f_set_ne _ (fun e => nb e.symm), Hp.f_set_same]
            have : (l.set 3 (.string (B ((s.drop 7).drop (n + 1)))))[4]? = some (.bool true) := by rw [List.getElem?_set_ne (by decide)]; exact hl4
            rw [set_same this]
          · rw [Hp.f_set_ne _ e3, Hp.f_set_ne _ e1, Hp.f_set_ne _ e3]; exact o5 x e2 e3

  · simp only [go_sem, yA, yB, yC, yD, yE, yF, yG, wA, wB, wC, wD, wE, wF, wG, wH, u3, k1, k2, k3, k8, c1, a3]
    have m1 : kind ≠ 1 := by omega
    have m2 : kind ≠ 2 := by omega
    have m3 : kind ≠ 3 := by omega
    have m8 : kind ≠ 8 := by omega
    have hu : nextU true s size = (⟨kind, ch, [], false, true⟩, true, s) := by
      simp only [nextU, ← hkind, ← hch, ← hn]
      simp [m1, m2, m3, m8, Nat.not_lt.2 hs]
    rw [hu] at hQr
    refine hQr _ _ _ _ (resIs_cell (b := ub) (by simp only [go_sem, yA, yB, yC, yD, yE, yF, yG, wA, wB, wC, wD, wE, wF, wG, wH]) ist_135 (ld_135 (by simp only [go_sem, yA, yB, yC, yD, yE, yF, yG, wA, wB, wC, wD, wE, wF, wG, wH]; rfl))) (Hp.le_refl _) ⟨by simp [uV], ?_⟩
    rw [set_same hl3, set_same hl4]
    refine le_build2 (ub := ub) (ab := ab) ?_ (fun x e1 e2 e3 => ?_) hub hab0
    · rw [Hp.f_set_ne _ (fun e => nb e.symm), o3 bc (fun e => na e.symm) (fun e => nb e.symm)]; exact hb
    · rw [Hp.f_set_ne _ e3]; exact o3 x e2 e3

/-- ████ next. ████ -/
theorem next_c {E : Env Tryz.prog} {σ : Hp} {bc : Nat} {l : List Value} {et : Nat} {s : List UInt8} {size : Int} {gr : Bool} (hb : σ.f bc = some (.cells l.toArray et (0, 0))) (hl3 : l[3]? = some (.string (B s))) (hl4 : l[4]? = some (.bool gr)) (hsz : 0 ≤ size ∧ size ≤ 1000000) :
    CallsE E 104 #[.pointer (some ⟨bc, 3, none⟩), .int .i64 size] σ fun e' σ' => e' = .returned (uV (nextU gr s size).1) ∧ (σ.set bc (.cells ((l.set 3 (.string (B (nextU gr s size).2.2))).set 4 (.bool (nextU gr s size).2.1)).toArray et (0, 0))).le σ' := by
  cases gr with
  | false => exact next_greet hb hl3 hl4
  | true =>
    rcases Nat.lt_or_ge s.length 7 with h | h
    · exact next_few hb hl3 hl4 h
    · exact next_cut hb hl3 hl4 h hsz
end Go.Qw
