/- The law Beats of queuewire returns true for every three integers: the row over the given program, tied to its text; no condition besides. (Part 29 of 40: QwSort2 QwIter10.) -/
import Derived.Test.YtpiabknabfbfhaaGreatDoorBeats26
import Derived.Test.YtpiabknabfbfhaaGreatDoorBeats27
import Derived.Test.YtpiabknabfbfhaaGreatDoorBeats28
set_option linter.all false
-- Sorted keys of a map (whole numbers).
namespace Go.Qw
open Nat renaming reduceLT → yA, reduceLeDiff → yB, reduceBEq → yC, reduceAdd → yD, reduceSub → yE, reduceMul → yF, reduceEqDiff → yG
open Int renaming reduceToNat → wA, reduceLE → wB, reduceLT → wC, reduceEq → wD, reduceAdd → wE, reduceSub → wF, reduceMul → wG, reduceNeg → wH
open Go Go.Conc Go.Proofs

theorem perm_of_map {α β : Type} {f : α → β} {ks zs : List β} (h : ks.Perm zs) : ∀ {xs : List α}, zs = xs.map f → ∃ ys : List α, ys.Perm xs ∧ ks = ys.map f := by
  induction h with
  | nil =>
    intro xs e
    cases xs with
    | nil => exact ⟨[], .refl _, rfl⟩
    | cons x xs => cases e
  | cons a h ih =>
    intro xs e
    cases xs with
    | nil => cases e
    | cons x xs =>
      simp only [List.map_cons, List.cons.injEq] at e
      obtain ⟨ys, h1, h2⟩ := ih e.2
      exact ⟨x :: ys, h1.cons _, by rw [List.map_cons, h2, e.1]⟩
  | swap a b l =>
    intro xs e
    cases xs with
    | nil => cases e
    | cons x xs =>
      cases xs with
      | nil => simp at e
      | cons y xs =>
        simp only [List.map_cons, List.cons.injEq] at e
        exact ⟨y :: x :: xs, List.Perm.swap .., by simp only [List.map_cons]; rw [e.1, e.2.1, e.2.2]⟩
  | trans h1 h2 ih1 ih2 =>
    intro xs e
    obtain ⟨ys, k1, k2⟩ := ih2 e
    obtain ⟨zs, k3, k4⟩ := ih1 k2
    exact ⟨zs, k3.trans k1, k4⟩

/-- A slice's block alone is written. -/
def Only (σ τ : Hp) (v : Value) : Prop := ∀ b, (∀ a n c, v = .slice (some a) n c → b ≠ a.block) → τ.f b = σ.f b

section
variable {E : Env Tryz.prog} {σ : Hp}
set_option maxRecDepth 100000 in
theorem isort162_nil : CallsE E 162 #[.slice none 0 0, .int .i64 0, .int .i64 0] σ fun e τ => e = .returned (.tuple #[]) ∧ τ = σ := by
  refine calls_enter Tryz.func162 Tryz.ntmps162 Tryz.results162 rfl (by simp) fun Q hQn hQr hQp => ?_
  simp only [go_sem, yA, yB, yC, yD, yE, yF, yG, wA, wB, wC, wD, wE, wF, wG, wH]
  refine wpC_loop (fun m ρ ds σ' => ds = [] ∧ ρ 2 = .int .i64 0 ∧ ρ 6 = .int .i64 1 ∧ σ' = σ) 0 ?_ ?_
  · refine ⟨rfl, ?_, ?_, rfl⟩ <;> simp only [go_sem, yA, yB, yC, yD, yE, yF, yG, wA, wB, wC, wD, wE, wF, wG, wH] <;> rfl
  · rintro m ρ ds σ' X ⟨rfl, h2, h6, rfl⟩ hX
    have c : ¬ (1 : Int) < 0 := by decide
    simp only [go_sem, yA, yB, yC, yD, yE, yF, yG, wA, wB, wC, wD, wE, wF, wG, wH, h2, h6, c]
    exact hQn _ _ _ _ resIs_none (Hp.le_refl _) ⟨rfl, rfl⟩

theorem isort162_c {xs : List Int} {v : Value} (h : Sl 3 σ (xs.map keyI) v) (hn : xs.length ≤ 1000000) :
    CallsE E 162 #[v, .int .i64 0, .int .i64 xs.length] σ fun e τ => e = .returned (.tuple #[]) ∧ ∃ ys, ys.Perm xs ∧ Srt ltI ys ∧ Sl 3 τ (ys.map keyI) v ∧ Only σ τ v := by
  generalize hk : xs.map keyI = ks at h
  cases h with
  | nil h0 =>
    have : xs = [] := by rw [h0] at hk; simpa using hk
    subst this
    refine isort162_nil.mono ?_
    rintro e τ ⟨rfl, rfl⟩
    exact ⟨rfl, [], .refl _, .nil, .nil rfl, fun _ _ => rfl⟩
  | «at» a pad ha =>
    have hl : ks.length = xs.length := by rw [← hk]; simp
    rw [hl]
    refine (isort162 (cap := xs.length + pad.length) (pad := pad) (by rw [hk]; exact ha) hn).mono ?_
    rintro e τ ⟨rfl, ys, h1, h2, rfl⟩
    refine ⟨rfl, ys, h1, h2, ?_, ?_⟩
    · have := Sl.at (ety := 3) (σ := σ.set a (.cells (ys.map keyI ++ pad).toArray 3 (0, 0))) (xs := ys.map keyI) a pad (Hp.f_set_same _ _)
      have e : (ys.map keyI).length = xs.length := by simpa using h1.length_eq
      rw [e] at this
      exact this
    · intro b hb
      exact Hp.f_set_ne _ (hb _ _ _ rfl)

set_option maxRecDepth 100000 in
theorem pdq134_c {xs : List Int} {v : Value} {k : Int} (h : Sl 3 σ (xs.map keyI) v) (hn : xs.length ≤ 12) :
    CallsE E 134 #[v, .int .i64 0, .int .i64 xs.length, .int .i64 k] σ fun e τ => e = .returned (.tuple #[]) ∧ ∃ ys, ys.Perm xs ∧ Srt ltI ys ∧ Sl 3 τ (ys.map keyI) v ∧ Only σ τ v := by
  refine calls_enter Tryz.func134 Tryz.ntmps134 Tryz.results134 rfl (by simp) fun Q hQn hQr hQp => ?_
  simp only [go_sem, yA, yB, yC, yD, yE, yF, yG, wA, wB, wC, wD, wE, wF, wG, wH]
  refine wpC_loop (fun m ρ ds σ' => ds = [] ∧ ρ 0 = v ∧ ρ 1 = .int .i64 0 ∧ ρ 2 = .int .i64 xs.length ∧ σ' = σ) 0 ?_ ?_
  · refine ⟨rfl, ?_, ?_, ?_, rfl⟩ <;> simp only [go_sem, yA, yB, yC, yD, yE, yF, yG, wA, wB, wC, wD, wE, wF, wG, wH]
  · rintro m ρ ds σ' X ⟨rfl, h0, h1, h2, rfl⟩ hX
    have c : (xs.length : Int) ≤ 12 := by omega
    have c0 : IntKind.i64.wrap ((xs.length : Int) - 0) = xs.length := by rw [Int.sub_zero]; exact wrap64 (by omega) (by omega)
    simp only [go_sem, yA, yB, yC, yD, yE, yF, yG, wA, wB, wC, wD, wE, wF, wG, wH, h0, h1, h2, c0, c]
    refine call_post go_162 (isort162_c h (by omega)) ?_ (fun ch σ' ⟨h, _⟩ => by cases h)
    rintro w τ ⟨hw, hres⟩
    obtain rfl : w = .tuple #[] := by injection hw
    simp only [go_sem, yA, yB, yC, yD, yE, yF, yG, wA, wB, wC, wD, wE, wF, wG, wH]
    exact hQr _ _ _ _ resIs_none (Hp.le_refl _) ⟨rfl, hres⟩

set_option maxRecDepth 100000 in
theorem sort81_c {xs : List Int} {v : Value} (h : Sl 3 σ (xs.map keyI) v) (hn : xs.length ≤ 12) :
    CallsE E 81 #[v] σ fun e τ => e = .returned (.tuple #[]) ∧ ∃ ys, ys.Perm xs ∧ Srt ltI ys ∧ Sl 3 τ (ys.map keyI) v ∧ Only σ τ v := by
  refine calls_enter Tryz.func81 Tryz.ntmps81 Tryz.results81 rfl (by simp) fun Q hQn hQr hQp => ?_
  obtain ⟨base, cap, rfl⟩ : ∃ base cap, v = .slice base xs.length cap := by
    generalize hk : xs.map keyI = ks at h
    have hl : ks.length = xs.length := by rw [← hk]; simp
    cases h with
    | nil h0 => exact ⟨none, 0, by rw [← hl, h0]; rfl⟩
    | «at» a pad ha => exact ⟨_, _, by rw [hl]⟩
  have cu : IntKind.u64.wrap (xs.length : Int) = xs.length := by
    have : ((xs.length : Int) % 18446744073709551616) = xs.length := by omega
    simpa [IntKind.wrap, IntKind.bits, IntKind.signed] using this
  simp only [go_sem, yA, yB, yC, yD, yE, yF, yG, wA, wB, wC, wD, wE, wF, wG, wH, cu]
  refine call_post go_135 (len135_c (by omega)) ?_ (fun ch σ' ⟨⟨_, _, h⟩, _⟩ => by cases h)
  rintro w σ' ⟨⟨k, hk, hw⟩, rfl⟩
  obtain rfl : w = .int .i64 k := by injection hw
  simp only [go_sem, yA, yB, yC, yD, yE, yF, yG, wA, wB, wC, wD, wE, wF, wG, wH]
  refine call_post go_134 (pdq134_c h hn) ?_ (fun ch σ' ⟨h, _⟩ => by cases h)
  rintro w τ ⟨hw, hres⟩
  obtain rfl : w = .tuple #[] := by injection hw
  simp only [go_sem, yA, yB, yC, yD, yE, yF, yG, wA, wB, wC, wD, wE, wF, wG, wH]
  exact hQn _ _ _ _ resIs_none (Hp.le_refl _) ⟨rfl, hres⟩

set_option maxRecDepth 100000 in
theorem collect80_c {f : FuncId} {α : Type} {pick : α × Value × Nat → Value} {key : α → Value} {tc : TypeId} (hY : Yields f pick key tc) (hg : isGo Tryz.prog f = true) {bm m c : Nat} {l : List (α × Value × Nat)}
    (hbm : σ.f bm = some (.cells #[.map (some m)] tc (0, 0))) (hm : σ.f m = some (kmap key l c)) (hold : ∀ e ∈ l, e.2.2 < c) (hn : (l.map (·.2.2)).Nodup) (hbig : l.length ≤ 1000000) (hsc : ∀ e ∈ l, isScalarV (pick e) = true) :
    CallsE E 80 #[.func (.func f) #[] #[.pointer (some ⟨bm, 0, none⟩)]] σ fun e τ => σ.le τ ∧ ∃ v ks, e = .returned v ∧ ks.Perm (l.map pick) ∧ Sl 3 τ ks v ∧ ∀ a n c, v = .slice (some a) n c → σ.f a.block = none := by
  refine calls_enter Tryz.func80 Tryz.ntmps80 Tryz.results80 rfl (by simp) fun Q hQn hQr hQp => ?_
  simp only [go_sem, yA, yB, yC, yD, yE, yF, yG, wA, wB, wC, wD, wE, wF, wG, wH]
  refine call_post go_133 (appendSeq133 hY hg hbm hm hold hn hbig hsc) ?_ (fun ch σ' ⟨_, _, _, h, _⟩ => by cases h)
  rintro v τ ⟨hle, v', ks, hv, h1, h2, h3⟩
  obtain rfl : v = v' := by injection hv
  simp only [go_sem, yA, yB, yC, yD, yE, yF, yG, wA, wB, wC, wD, wE, wF, wG, wH]
  exact hQr _ _ _ _ resIs_one (Hp.le_refl _) ⟨hle, v, ks, rfl, h1, h2, h3⟩

set_option maxRecDepth 100000 in
theorem sorted47_c {f : FuncId} {tc : TypeId} (hY : Yields f (fun e : Int × Value × Nat => keyI e.1) keyI tc) (hg : isGo Tryz.prog f = true) {bm m c : Nat} {l : List (Int × Value × Nat)}
    (hbm : σ.f bm = some (.cells #[.map (some m)] tc (0, 0))) (hm : σ.f m = some (kmap keyI l c)) (hold : ∀ e ∈ l, e.2.2 < c) (hn : (l.map (·.2.2)).Nodup) (hbig : l.length ≤ 12) :
    CallsE E 47 #[.func (.func f) #[] #[.pointer (some ⟨bm, 0, none⟩)]] σ fun e τ => σ.le τ ∧ ∃ v ys, e = .returned v ∧ ys.Perm (l.map (·.1)) ∧ Srt ltI ys ∧ Sl 3 τ (ys.map keyI) v ∧ ∀ a n c, v = .slice (some a) n c → σ.f a.block = none := by
  refine calls_enter Tryz.func47 Tryz.ntmps47 Tryz.results47 rfl (by simp) fun Q hQn hQr hQp => ?_
  simp only [go_sem, yA, yB, yC, yD, yE, yF, yG, wA, wB, wC, wD, wE, wF, wG, wH]
  refine call_post go_80 (collect80_c hY hg hbm hm hold hn (by omega) (fun _ _ => rfl)) ?_ (fun ch σ' ⟨_, _, _, h, _⟩ => by cases h)
  rintro v τ ⟨hle, v', ks, hv, h1, h2, h3⟩
  obtain rfl : v = v' := by injection hv
  obtain ⟨xs, k1, rfl⟩ := perm_of_map h1 (xs := l.map (·.1)) (f := keyI) (by simp)
  simp only [go_sem, yA, yB, yC, yD, yE, yF, yG, wA, wB, wC, wD, wE, wF, wG, wH]
  have hlen : xs.length ≤ 12 := by rw [k1.length_eq]; simpa using hbig
  refine call_post go_81 (sort81_c h2 hlen) ?_ (fun ch σ' ⟨h, _⟩ => by cases h)
  rintro w τ' ⟨hw, ys, p1, p2, p3, p4⟩
  obtain rfl : w = .tuple #[] := by injection hw
  simp only [go_sem, yA, yB, yC, yD, yE, yF, yG, wA, wB, wC, wD, wE, wF, wG, wH]
  refine hQr _ _ _ _ resIs_one (Hp.le_refl _) ⟨?_, v, ys, rfl, p1.trans k1, p2, p3, h3⟩
  intro b o hb
  rw [p4 b (fun a n c e e2 => by have := h3 a n c e; rw [← e2, hb] at this; cases this)]
  exact hle b o hb

set_option maxRecDepth 100000 in
theorem keys48_c {m : Nat} : CallsE E 48 #[.map (some m)] σ fun e τ => ∃ bm, e = .returned (.func (.func 82) #[] #[.pointer (some ⟨bm, 0, none⟩)]) ∧ σ.f bm = none ∧ τ = σ.set bm (.cells #[.map (some m)] 72 (0, 0)) := by
  refine calls_enter Tryz.func48 Tryz.ntmps48 Tryz.results48 rfl (by simp) fun Q hQn hQr hQp => ?_
  simp only [go_sem, yA, yB, yC, yD, yE, yF, yG, wA, wB, wC, wD, wE, wF, wG, wH]
  refine fun bm hbm => ?_
  simp only [go_sem, yA, yB, yC, yD, yE, yF, yG, wA, wB, wC, wD, wE, wF, wG, wH]
  exact hQr _ _ _ _ resIs_one (Hp.le_refl _) ⟨bm, rfl, hbm, rfl⟩
set_option maxRecDepth 100000 in
theorem sorted33_c {m c : Nat} {l : List (Int × Value × Nat)} (hm : σ.f m = some (kmap keyI l c)) (hold : ∀ e ∈ l, e.2.2 < c) (hn : (l.map (·.2.2)).Nodup) (hbig : l.length ≤ 12) :
    CallsE E 33 #[.map (some m)] σ fun e τ => σ.le τ ∧ ∃ v ys, e = .returned v ∧ ys.Perm (l.map (·.1)) ∧ Srt ltI ys ∧ Sl 3 τ (ys.map keyI) v ∧ ∀ a n c, v = .slice (some a) n c → σ.f a.block = none := by
  refine calls_enter Tryz.func33 Tryz.ntmps33 Tryz.results33 rfl (by simp) fun Q hQn hQr hQp => ?_
  simp only [go_sem, yA, yB, yC, yD, yE, yF, yG, wA, wB, wC, wD, wE, wF, wG, wH]
  refine call_post go_48 keys48_c ?_ (fun ch σ' ⟨_, h, _⟩ => by cases h)
  rintro w τ ⟨bm, hw, hbm, rfl⟩
  obtain rfl : w = .func (.func 82) #[] #[.pointer (some ⟨bm, 0, none⟩)] := by injection hw
  have hne : m ≠ bm := fun e => by subst e; rw [hbm] at hm; cases hm
  have hm' : (σ.set bm (.cells #[.map (some m)] 72 (0, 0))).f m = some (kmap keyI l c) := by rw [Hp.f_set_ne _ hne]; exact hm
  simp only [go_sem, yA, yB, yC, yD, yE, yF, yG, wA, wB, wC, wD, wE, wF, wG, wH]
  refine call_post go_47 (sorted47_c yields82 go_82 (Hp.f_set_same _ _) hm' hold hn hbig) ?_ (fun ch σ' ⟨_, _, _, h, _⟩ => by cases h)
  rintro v τ ⟨hle, v', ys, hv, h1, h2, h3, h4⟩
  obtain rfl : v = v' := by injection hv
  simp only [go_sem, yA, yB, yC, yD, yE, yF, yG, wA, wB, wC, wD, wE, wF, wG, wH]
  refine hQr _ _ _ _ resIs_one (Hp.le_refl _) ⟨?_, v, ys, rfl, h1, h2, h3, ?_⟩
  · intro b o hb
    have : b ≠ bm := fun e => by subst e; rw [hbm] at hb; cases hb
    exact hle b o (by rw [Hp.f_set_ne _ this]; exact hb)
  · intro a n c e
    have := h4 a n c e
    by_cases e2 : a.block = bm
    · rw [e2]; exact hbm
    · rw [Hp.f_set_ne _ e2] at this; exact this

set_option maxRecDepth 100000 in
theorem keys138_c {m : Nat} : CallsE E 138 #[.map (some m)] σ fun e τ => ∃ bm, e = .returned (.func (.func 181) #[] #[.pointer (some ⟨bm, 0, none⟩)]) ∧ σ.f bm = none ∧ τ = σ.set bm (.cells #[.map (some m)] 88 (0, 0)) := by
  refine calls_enter Tryz.func138 Tryz.ntmps138 Tryz.results138 rfl (by simp) fun Q hQn hQr hQp => ?_
  simp only [go_sem, yA, yB, yC, yD, yE, yF, yG, wA, wB, wC, wD, wE, wF, wG, wH]
  refine fun bm hbm => ?_
  simp only [go_sem, yA, yB, yC, yD, yE, yF, yG, wA, wB, wC, wD, wE, wF, wG, wH]
  exact hQr _ _ _ _ resIs_one (Hp.le_refl _) ⟨bm, rfl, hbm, rfl⟩
set_option maxRecDepth 100000 in
theorem sorted87_c {m c : Nat} {l : List (Int × Value × Nat)} (hm : σ.f m = some (kmap keyI l c)) (hold : ∀ e ∈ l, e.2.2 < c) (hn : (l.map (·.2.2)).Nodup) (hbig : l.length ≤ 12) :
    CallsE E 87 #[.map (some m)] σ fun e τ => σ.le τ ∧ ∃ v ys, e = .returned v ∧ ys.Perm (l.map (·.1)) ∧ Srt ltI ys ∧ Sl 3 τ (ys.map keyI) v ∧ ∀ a n c, v = .slice (some a) n c → σ.f a.block = none := by
  refine calls_enter Tryz.func87 Tryz.ntmps87 Tryz.results87 rfl (by simp) fun Q hQn hQr hQp => ?_
  simp only [go_sem, yA, yB, yC, yD, yE, yF, yG, wA, wB, wC, wD, wE, wF, wG, wH]
  refine call_post go_138 keys138_c ?_ (fun ch σ' ⟨_, h, _⟩ => by cases h)
  rintro w τ ⟨bm, hw, hbm, rfl⟩
  obtain rfl : w = .func (.func 181) #[] #[.pointer (some ⟨bm, 0, none⟩)] := by injection hw
  have hne : m ≠ bm := fun e => by subst e; rw [hbm] at hm; cases hm
  have hm' : (σ.set bm (.cells #[.map (some m)] 88 (0, 0))).f m = some (kmap keyI l c) := by rw [Hp.f_set_ne _ hne]; exact hm
  simp only [go_sem, yA, yB, yC, yD, yE, yF, yG, wA, wB, wC, wD, wE, wF, wG, wH]
  refine call_post go_47 (sorted47_c yields181 go_181 (Hp.f_set_same _ _) hm' hold hn hbig) ?_ (fun ch σ' ⟨_, _, _, h, _⟩ => by cases h)
  rintro v τ ⟨hle, v', ys, hv, h1, h2, h3, h4⟩
  obtain rfl : v = v' := by injection hv
  simp only [go_sem, yA, yB, yC, yD, yE, yF, yG, wA, wB, wC, wD, wE, wF, wG, wH]
  refine hQr _ _ _ _ resIs_one (Hp.le_refl _) ⟨?_, v, ys, rfl, h1, h2, h3, ?_⟩
  · intro b o hb
    have : b ≠ bm := fun e => by subst e; rw [hbm] at hb; cases hb
    exact hle b o (by rw [Hp.f_set_ne _ this]; exact hb)
  · intro a n c e
    have := h4 a n c e
    by_cases e2 : a.block = bm
    · rw [e2]; exact hbm
    · rw [Hp.f_set_ne _ e2] at this; exact this

set_option maxRecDepth 100000 in
theorem keys186_c {m : Nat} : CallsE E 186 #[.map (some m)] σ fun e τ => ∃ bm, e = .returned (.func (.func 222) #[] #[.pointer (some ⟨bm, 0, none⟩)]) ∧ σ.f bm = none ∧ τ = σ.set bm (.cells #[.map (some m)] 273 (0, 0)) := by
  refine calls_enter Tryz.func186 Tryz.ntmps186 Tryz.results186 rfl (by simp) fun Q hQn hQr hQp => ?_
  simp only [go_sem, yA, yB, yC, yD, yE, yF, yG, wA, wB, wC, wD, wE, wF, wG, wH]
  refine fun bm hbm => ?_
  simp only [go_sem, yA, yB, yC, yD, yE, yF, yG, wA, wB, wC, wD, wE, wF, wG, wH]
  exact hQr _ _ _ _ resIs_one (Hp.le_refl _) ⟨bm, rfl, hbm, rfl⟩
set_option maxRecDepth 100000 in
theorem sorted141_c {m c : Nat} {l : List (Int × Value × Nat)} (hm : σ.f m = some (kmap keyI l c)) (hold : ∀ e ∈ l, e.2.2 < c) (hn : (l.map (·.2.2)).Nodup) (hbig : l.length ≤ 12) :
    CallsE E 141 #[.map (some m)] σ fun e τ => σ.le τ ∧ ∃ v ys, e = .returned v ∧ ys.Perm (l.map (·.1)) ∧ Srt ltI ys ∧ Sl 3 τ (ys.map keyI) v ∧ ∀ a n c, v = .slice (some a) n c → σ.f a.block = none := by
  refine calls_enter Tryz.func141 Tryz.ntmps141 Tryz.results141 rfl (by simp) fun Q hQn hQr hQp => ?_
  simp only [go_sem, yA, yB, yC, yD, yE, yF, yG, wA, wB, wC, wD, wE, wF, wG, wH]
  refine call_post go_186 keys186_c ?_ (fun ch σ' ⟨_, h, _⟩ => by cases h)
  rintro w τ ⟨bm, hw, hbm, rfl⟩
  obtain rfl : w = .func (.func 222) #[] #[.pointer (some ⟨bm, 0, none⟩)] := by injection hw
  have hne : m ≠ bm := fun e => by subst e; rw [hbm] at hm; cases hm
  have hm' : (σ.set bm (.cells #[.map (some m)] 273 (0, 0))).f m = some (kmap keyI l c) := by rw [Hp.f_set_ne _ hne]; exact hm
  simp only [go_sem, yA, yB, yC, yD, yE, yF, yG, wA, wB, wC, wD, wE, wF, wG, wH]
  refine call_post go_47 (sorted47_c yields222 go_222 (Hp.f_set_same _ _) hm' hold hn hbig) ?_ (fun ch σ' ⟨_, _, _, h, _⟩ => by cases h)
  rintro v τ ⟨hle, v', ys, hv, h1, h2, h3, h4⟩
  obtain rfl : v = v' := by injection hv
  simp only [go_sem, yA, yB, yC, yD, yE, yF, yG, wA, wB, wC, wD, wE, wF, wG, wH]
  refine hQr _ _ _ _ resIs_one (Hp.le_refl _) ⟨?_, v, ys, rfl, h1, h2, h3, ?_⟩
  · intro b o hb
    have : b ≠ bm := fun e => by subst e; rw [hbm] at hb; cases hb
    exact hle b o (by rw [Hp.f_set_ne _ this]; exact hb)
  · intro a n c e
    have := h4 a n c e
    by_cases e2 : a.block = bm
    · rw [e2]; exact hbm
    · rw [Hp.f_set_ne _ e2] at this; exact this
end
end Go.Qw
-- What is yielded, put behind one another (printed by iter2.py).
namespace Go.Qw
open Nat renaming reduceLT → yA, reduceLeDiff → yB, reduceBEq → yC, reduceAdd → yD, reduceSub → yE, reduceMul → yF, reduceEqDiff → yG
open Int renaming reduceToNat → wA, reduceLE → wB, reduceLT → wC, reduceEq → wD, reduceAdd → wE, reduceSub → wF, reduceMul → wG, reduceNeg → wH
open Go Go.Conc Go.Proofs

noncomputable def B136 : Code := Tryz.f136.body.getD .skip
noncomputable def h136a : Array Oper := opsC (lftC B136)
noncomputable def h136b : Array Oper := opsC (lftC (lftC (rgtC B136)))
noncomputable def rf136 : Code := innC (rgtC (lftC (rgtC B136)))
noncomputable def t136 : Array Oper := opsC (lftC (rgtC (rgtC B136)))
noncomputable def as136 : Array Oper := opsC (asgC rf136)
noncomputable def bo136 : Array Oper := opsC (innC (bodC rf136))
theorem B136_eq : B136 = .seq (.region 0 h136a false) (.seq (.seq (.region 1 h136b false) (.block 0 (.rangeFunc (.tmp 6) #[7] (.region 2 as136 false) (.block 1 (.region 3 bo136 false))))) (.seq (.region 4 t136 false) .ret)) := by kernel_rfl
def b136 : Frame := { (default : Frame) with fn := 136, kind := .normal }

def e75 : ElemOf Tryz.prog 75 where
  e := 77
  z := 1
  zero := #[.pointer none]
  bytes := 8
  hu := by kernel_rfl
  hi := ⟨Tryz.t77, .pointer none, by kernel_rfl, by kernel_rfl, by kernel_rfl, rfl, by kernel_rfl⟩

section
variable {E : Env Tryz.prog}
set_option maxRecDepth 100000 in
theorem coll136 {lb bb d : Nat} {T : Array Value} (hT : T.size = 13) (h2 : T.getD 2 undef = .pointer (some ⟨bb, 0, none⟩)) :
    Coll E lb 7 { state := .ready, pending := none, fn := 136, tmps := T, params := #[7], assign := .region 2 as136 false, body := .block 1 (.region 3 bo136 false), defers := d }
      (AppA 77 75 bb lb d { state := .ready, pending := none, fn := 136, tmps := T, params := #[7], assign := .region 2 as136 false, body := .block 1 (.region 3 bo136 false), defers := d }) := by
  refine ⟨rfl, fun h => h.loop, fun h => h.ext, fun h hb => h.new hb, fun h hb => h.upd hb, ?_⟩
  intro X xs σ h v c cs hlt hsv
  rw [round_at]
  obtain ⟨ρ0, ha, r2, r7⟩ : ∃ ρ0 : Rho, Agree 13 ⟨T.setIfInBounds 7 v, []⟩ ρ0 [] ∧ ρ0 2 = .pointer (some ⟨bb, 0, none⟩) ∧ ρ0 7 = v := by
    refine ⟨fun t => (T.setIfInBounds 7 v).getD t undef, ⟨by simp [hT], rfl, fun t => rfl⟩, ?_, ?_⟩
    · show (T.setIfInBounds 7 v).getD 2 undef = _
      rw [Array.getD_eq_getD_getElem?, Array.getElem?_setIfInBounds_ne (by decide), ← Array.getD_eq_getD_getElem?, h2]
    · show (T.setIfInBounds 7 v).getD 7 undef = _
      rw [Array.getD_eq_getD_getElem?, Array.getElem?_setIfInBounds_self_of_lt (by rw [hT]; decide)]; rfl
  refine Runs.ctl (fun w => stepGR_region) rfl rfl ?_
  refine (wpL_R (E := E) (N := 13) (ops := as136) (X := fun ρ ds τ => ds = [] ∧ ρ 2 = .pointer (some ⟨bb, 0, none⟩) ∧ ρ 5 = v ∧ τ = σ) (by simp [roundBase]) (by kernel_rfl) _ ρ0 [] σ _ ?_ ha).bind ?_
  · have hr : List.range as136.size = [0] := by kernel_rfl
    rw [hr]
    simp only [as136, rf136, B136, Tryz.f136, Option.getD_some, rgtC, lftC, innC, opsC, asgC]
    simp only [List.filterMap_cons, List.filterMap_nil, List.getElem?_toArray, List.getElem?_cons_succ, List.getElem?_cons_zero]
    simp only [go_sem, yA, yB, yC, yD, yE, yF, yG, wA, wB, wC, wD, wE, wF, wG, wH, putR, up, onlyN, r2, r7]
  rintro g τ ⟨ρ1, _, a1, ha1, ⟨rfl, h12, h15, rfl⟩, rfl⟩
  refine Runs.step rfl (stepOk_beginRound h.loop rfl) ?_
  rintro g τ' ⟨rfl, rfl⟩
  refine Runs.ctl (fun w => stepGR_block) rfl rfl ?_
  refine Runs.ctl (fun w => stepGR_region) rfl rfl ?_
  obtain ⟨v0, c1, c2, c3⟩ := h.cell
  have nbl : bb ≠ lb := fun e => by subst e; have := h.loop; rw [c1] at this; cases this
  have nbd : bb ≠ d := fun e => by subst e; have := h.dfr; rw [c1] at this; cases this
  have nld : lb ≠ d := fun e => by subst e; have := h.loop; rw [h.dfr] at this; cases this
  generalize hτ1 : τ.set lb _ = τ1
  have c1' : τ1.f bb = some (.cells #[v0] 75 (0, 0)) := by rw [← hτ1, Hp.f_set_ne _ nbl]; exact c1
  have nal : ∀ a n c, v0 = .slice (some a) n c → a.block ≠ lb ∧ a.block ≠ bb ∧ a.block ≠ d ∧ ∃ cc e z, τ.f a.block = some (.cells cc e z) := by
    intro a n c e
    cases c2 with
    | nil => cases e
    | «at» a' pad ha' =>
      cases e
      refine ⟨fun e => ?_, fun e => ?_, fun e => ?_, _, _, _, ha'⟩ <;> (have e' := e; simp only at e'; subst e')
      · rw [h.loop] at ha'; cases ha'
      · rw [c1] at ha'; simp at ha'
      · rw [h.dfr] at ha'; cases ha'
  have c2' : Sl 77 τ1 xs v0 := c2.keep fun a n c e => by rw [← hτ1, Hp.f_set_ne _ (nal a n c e).1]
  refine (wpL_R (E := E) (N := 13) (ops := bo136) (X := fun ρ ds τ' => ds = [] ∧ ∃ τ2, τ2.le τ' ∧ (∃ v', τ2.f bb = some (.cells #[v'] 75 (0, 0)) ∧ Sl 77 τ2 (xs ++ [v]) v' ∧ ∀ a n c, v' = .slice (some a) n c → X.f a.block = none) ∧ (∀ b o, b ≠ bb → (∀ a n c, v0 = .slice (some a) n c → b ≠ a.block) → τ1.f b = some o → τ2.f b = some o)) (by simp [roundBase]) (by kernel_rfl) _ ρ1 [] τ1 _ ?_ ha1).bind ?_
  · have hr : List.range bo136.size = [0, 1, 2, 3, 4] := by kernel_rfl
    rw [hr]
    simp only [bo136, rf136, B136, Tryz.f136, Option.getD_some, rgtC, lftC, innC, opsC, bodC]
    simp only [List.filterMap_cons, List.filterMap_nil, List.getElem?_toArray, List.getElem?_cons_succ, List.getElem?_cons_zero]
    simp only [go_sem, yA, yB, yC, yD, yE, yF, yG, wA, wB, wC, wD, wE, wF, wG, wH, putR, up, onlyN, h12, h15, c1']
    have hvm : Value.cells v = #[v] := cells_scalar hsv
    unfold Value.cells at hvm
    simp only [hvm]
    simp only [go_sem, yA, yB, yC, yD, yE, yF, yG, wA, wB, wC, wD, wE, wF, wG, wH, putR, up, onlyN, h12, h15, c1']
    refine fun bn hbn => ?_
    have nbn : bb ≠ bn := fun e => by subst e; rw [c1'] at hbn; cases hbn
    have c1n : ∀ o, (τ1.set bn o).f bb = some (.cells #[v0] 75 (0, 0)) := fun o => by rw [Hp.f_set_ne _ nbn]; exact c1'
    have c2n : ∀ o, Sl 77 (τ1.set bn o) xs v0 := fun o => c2'.keep fun a n c e => by
      refine Hp.f_set_ne _ fun e2 => ?_
      have := nal a n c e
      obtain ⟨m1, m2, m3, cc, ee, z, m4⟩ := this
      have m5 : τ1.f a.block = τ.f a.block := by rw [← hτ1]; exact Hp.f_set_ne _ m1
      rw [m4, e2, hbn] at m5; cases m5
    simp only [go_sem, yA, yB, yC, yD, yE, yF, yG, wA, wB, wC, wD, wE, wF, wG, wH, putR, up, onlyN, h12, h15, c1n]
    refine app1 e75 rfl (by decide) rfl (by kernel_rfl) (c2n _) rfl rfl (Hp.f_set_same _ _) hsv (by omega) ?_
    intro a pad hor
    have hab : a ≠ bb := by
      rcases hor with hor | ⟨c, e⟩
      · intro e; subst e; rw [c1n] at hor; cases hor
      · exact (nal _ _ _ e).2.1
    have hXa : X.f a = none := by
      rcases hor with hor | ⟨c, e⟩
      · cases hx : X.f a with
        | none => rfl
        | some o =>
          have h1 := h.ext _ _ hx
          have h2 : a ≠ lb := fun e => by subst e; rw [h.nl] at hx; cases hx
          have h3 : a ≠ bn := fun e => by
            subst e
            rw [← hτ1, Hp.f_set_ne _ h2] at hbn
            rw [hbn] at h1; cases h1
          rw [Hp.f_set_ne _ h3, ← hτ1, Hp.f_set_ne _ h2, h1] at hor; cases hor
      · exact c3 _ _ _ e
    have hkeep : ∀ b o, b ≠ bb → (∀ a n c, v0 = .slice (some a) n c → b ≠ a.block) → τ1.f b = some o → b ≠ a ∧ b ≠ bn := by
      intro b o h1 h2 h3
      have hn : b ≠ bn := fun e => by subst e; rw [hbn] at h3; cases h3
      refine ⟨fun e => ?_, hn⟩
      subst e
      rcases hor with hor | ⟨c, e⟩
      · rw [Hp.f_set_ne _ hn, h3] at hor; cases hor
      · exact h2 _ _ _ e rfl
    have c1m : ∀ o o', ((τ1.set bn o).set a o').f bb = some (.cells #[v0] 75 (0, 0)) := fun o o' => by rw [Hp.f_set_ne _ hab.symm]; exact c1n o
    simp only [go_sem, yA, yB, yC, yD, yE, yF, yG, wA, wB, wC, wD, wE, wF, wG, wH, putR, up, onlyN, h12, h15, c1m]
    refine ⟨_, Hp.le_refl _, ⟨_, Hp.f_set_same _ _, ?_, ?_⟩, ?_⟩
    · have := Sl.at (ety := 77) (σ := (((τ1.set bn (.cells [v].toArray 77 (0, 0))).set a (.cells (xs ++ [v] ++ pad).toArray 77 (0, 0))).set bb (.cells #[.slice (some ⟨a, 0, none⟩) (xs.length + 1) (xs.length + 1 + pad.length)] 75 (0, 0)))) (xs := xs ++ [v]) a pad (by rw [Hp.f_set_ne _ hab]; exact Hp.f_set_same _ _)
      have he : e75.e = 77 := rfl
      rw [he]
      simpa using this
    · intro a' n c e
      cases e
      exact hXa
    · intro b o h1 h2 h3
      obtain ⟨k1, k2⟩ := hkeep b o h1 h2 h3
      rw [Hp.f_set_ne _ h1, Hp.f_set_ne _ k1, Hp.f_set_ne _ k2]
      exact h3
  rintro g τ' ⟨ρ2, _, a2, ha2, ⟨rfl, τ2, hle, hcell, hrest⟩, rfl⟩
  refine Runs.weak (τ := τ2) ?_ hle
  refine Runs.ctl (fun w => stepGR_inBlock) rfl rfl ?_
  have hlb2 : τ2.f lb = _ := hrest lb _ (Ne.symm nbl) (fun a n c e => (nal a n c e).1.symm) (by rw [← hτ1]; exact Hp.f_set_same _ _)
  have ed : a2.defers = [] := ha2.defers
  obtain ⟨tm2, d2⟩ := a2
  subst ed
  refine Runs.step rfl (stepOk_endRound hlb2) ?_
  rintro g τ5 ⟨rfl, rfl⟩
  refine Runs.here ⟨rfl, ?_⟩
  obtain ⟨v', e1, e2, e3⟩ := hcell
  have hk : ∀ b o, X.f b = some o → τ2.f b = some o := by
    intro b o hb
    obtain ⟨n1, n2, n3⟩ := h.apart hb
    refine hrest b o n1 (fun a n c e e2 => by have := c3 a n c e; rw [← e2, hb] at this; cases this) ?_
    rw [← hτ1, Hp.f_set_ne _ n2]
    exact h.ext _ _ hb
  refine ⟨?_, h.nb, h.nl, h.nd, Hp.f_set_same _ _, ?_, v', ?_, ?_, e3⟩
  · intro b o hb
    rw [Hp.f_set_ne _ (h.apart hb).2.1]
    exact hk b o hb
  · rw [Hp.f_set_ne _ nld.symm]
    refine hrest d _ nbd.symm (fun a n c e => (nal a n c e).2.2.1.symm) ?_
    rw [← hτ1, Hp.f_set_ne _ nld.symm]
    exact h.dfr
  · rw [Hp.f_set_ne _ nbl]; exact e1
  · refine e2.keep fun a n c e => Hp.f_set_ne _ fun e5 => ?_
    subst e
    cases e2 with
    | «at» a' pad ha' =>
      have e6 : a' = lb := e5
      subst e6
      rw [hlb2] at ha'; cases ha'

set_option maxRecDepth 100000 in
/-- AppendSeq: all that a map's range yields, each once. -/
theorem appendSeq136 {f : FuncId} {α : Type} {pick : α × Value × Nat → Value} {key : α → Value} {tc : TypeId} (hY : Yields f pick key tc) (hg : isGo Tryz.prog f = true) {σ : Hp} {bm m c : Nat} {l : List (α × Value × Nat)}
    (hbm : σ.f bm = some (.cells #[.map (some m)] tc (0, 0))) (hm : σ.f m = some (kmap key l c)) (hold : ∀ e ∈ l, e.2.2 < c) (hn : (l.map (·.2.2)).Nodup) (hbig : l.length ≤ 1000000) (hsc : ∀ e ∈ l, isScalarV (pick e) = true) :
    CallsE E 136 #[.slice none 0 0, .func (.func f) #[] #[.pointer (some ⟨bm, 0, none⟩)]] σ fun e τ => σ.le τ ∧ ∃ v ks, e = .returned v ∧ ks.Perm (l.map pick) ∧ Sl 77 τ ks v ∧ ∀ a n c, v = .slice (some a) n c → σ.f a.block = none := by
  intro cs
  have henter : Frame.enter Tryz.prog 136 #[.slice none 0 0, .func (.func f) #[] #[.pointer (some ⟨bm, 0, none⟩)]] .normal = b136.at { tmps := #[.slice none 0 0, .func (.func f) #[] #[.pointer (some ⟨bm, 0, none⟩)]] ++ Array.replicate 11 undef, defers := [] } [.code B136] := by
    simp [Frame.enter, Frame.at, Tryz.func136, b136, Tryz.f136, B136]
  rw [henter, B136_eq]
  have ha := agree_start #[.slice none 0 0, .func (.func f) #[] #[.pointer (some ⟨bm, 0, none⟩)]] 13 (by simp)
  refine Runs.ctl (fun w => stepG_seq) rfl rfl ?_
  refine (runs_code (E := E) (N := 13) (X := fun ρ ds τ => ds = [] ∧ ∃ bb, ρ 2 = .pointer (some ⟨bb, 0, none⟩) ∧ ρ 1 = .func (.func f) #[] #[.pointer (some ⟨bm, 0, none⟩)] ∧ σ.f bb = none ∧ τ = σ.set bb (.cells #[.slice none 0 0] 75 (0, 0))) ?_ (by simp [b136]) ha).bind ?_
  · simp only [h136a, B136, Tryz.f136, Option.getD_some, rgtC, lftC, innC, opsC]
    simp only [go_sem, yA, yB, yC, yD, yE, yF, yG, wA, wB, wC, wD, wE, wF, wG, wH, putR, up]
    refine fun bb hbb => ?_
    simp only [go_sem, yA, yB, yC, yD, yE, yF, yG, wA, wB, wC, wD, wE, wF, wG, wH, putR, up]
    exact ⟨rfl, bb, by simp [up], by simp [up, startR], hbb, rfl⟩
  rintro g τ ⟨ρ1, _, a1, ha1, ⟨rfl, bb, h2, h1, hbb, rfl⟩, rfl⟩
  generalize hτ : σ.set bb (.cells #[.slice none 0 0] 75 (0, 0)) = τ
  have hbbτ : τ.f bb = some (.cells #[.slice none 0 0] 75 (0, 0)) := by rw [← hτ]; exact Hp.f_set_same _ _
  have hστ : ∀ b o, σ.f b = some o → b ≠ bb ∧ τ.f b = some o := by
    intro b o hb
    have : b ≠ bb := fun e => by subst e; rw [hbb] at hb; cases hb
    exact ⟨this, by rw [← hτ, Hp.f_set_ne _ this]; exact hb⟩
  refine Runs.ctl (fun w => stepG_seq) rfl rfl ?_
  refine Runs.ctl (fun w => stepG_seq) rfl rfl ?_
  refine (runs_code (E := E) (N := 13) (X := fun ρ ds τ' => ds = [] ∧ ρ 2 = .pointer (some ⟨bb, 0, none⟩) ∧ ρ 6 = .func (.func f) #[] #[.pointer (some ⟨bm, 0, none⟩)] ∧ τ' = τ) ?_ (by simp [b136]) ha1).bind ?_
  · simp only [h136b, B136, Tryz.f136, Option.getD_some, rgtC, lftC, innC, opsC]
    simp only [go_sem, yA, yB, yC, yD, yE, yF, yG, wA, wB, wC, wD, wE, wF, wG, wH, putR, up]
    exact ⟨rfl, by simp [up, h2], by simp [up, h1], rfl⟩
  rintro g τ' ⟨ρ2, _, a2, ha2, ⟨rfl, h2, h6, rfl⟩, rfl⟩
  refine Runs.ctl (fun w => stepG_block) rfl rfl ?_
  refine Runs.step rfl (stepOk_rangeFunc (fid := f) (cap := #[.pointer (some ⟨bm, 0, none⟩)]) (by rw [ha2.eval]; exact h6) hg rfl) ?_
  rintro g τ4 ⟨d, lb, hd, hne, hlb, hτ4, rfl⟩
  have hT : a2.tmps.size = 13 := ha2.size
  have hT2 : a2.tmps.getD 2 undef = .pointer (some ⟨bb, 0, none⟩) := by rw [ha2.tmps]; exact h2
  have C := coll136 (E := E) (lb := lb) (d := d) hT hT2
  have nlb : lb ≠ bb := fun e => by subst e; rw [hbbτ] at hlb; cases hlb
  have ndb : d ≠ bb := fun e => by subst e; rw [hbbτ] at hd; cases hd
  have hσ4 : ∀ b o, σ.f b = some o → τ4.f b = some o := by
    intro b o hb
    obtain ⟨k1, k2⟩ := hστ b o hb
    have k3 : b ≠ d := fun e => by subst e; rw [k2] at hd; cases hd
    have k4 : b ≠ lb := fun e => by subst e; rw [k2] at hlb; cases hlb
    rw [hτ4, Hp.f_set_ne _ k4, Hp.f_set_ne _ k3]; exact k2
  have hnone : ∀ b, τ'.f b = none → σ.f b = none := by
    intro b hb
    cases hs : σ.f b with
    | none => rfl
    | some o => rw [(hστ b o hs).2] at hb; cases hb
  have hA0 : AppA 77 75 bb lb d { state := .ready, pending := none, fn := 136, tmps := a2.tmps, params := #[7], assign := .region 2 as136 false, body := .block 1 (.region 3 bo136 false), defers := d } σ [] τ4 := by
    refine ⟨hσ4, hbb, hnone _ hlb, hnone _ hd, ?_, ?_, .slice none 0 0, ?_, .nil rfl, fun a n c e => by cases e⟩
    · rw [hτ4]; exact Hp.f_set_same _ _
    · rw [hτ4, Hp.f_set_ne _ hne.symm]; exact Hp.f_set_same _ _
    · rw [hτ4, Hp.f_set_ne _ nlb.symm, Hp.f_set_ne _ ndb.symm]; exact hbbτ
  have hcall := hY C hA0 hbm hm hold hn (by simpa using hbig) hsc
  have eargs : (#[.func (.yield lb) #[] #[]] ++ #[.pointer (some ⟨bm, 0, none⟩)] : Array Value) = #[.func (.yield lb) #[] #[], .pointer (some ⟨bm, 0, none⟩)] := rfl
  rw [eargs]
  refine CallsE.run hcall ?_ ?_
  · rintro v τ5 ⟨hv, X', ks, hp, hX', hA⟩
    rw [List.nil_append] at hA
    have hfin : (b136.at { a2 with defers := { target := .collected d, args := #[] } :: a2.defers } (.inRangeFunc lb :: .inBlock 0 :: .code ((Code.region 4 t136 false).seq Code.ret) :: [])).finish v = b136.at { a2 with defers := { target := .collected d, args := #[] } :: a2.defers } (.endRangeFunc lb :: .inBlock 0 :: .code ((Code.region 4 t136 false).seq Code.ret) :: []) := rfl
    rw [hfin]
    refine Runs.step rfl (stepOk_endRangeFunc hA.loop rfl rfl) ?_
    rintro g τ6 ⟨rfl, rfl⟩
    refine Runs.ctl (fun w => stepG_inBlock) rfl rfl ?_
    refine Runs.ctl (fun w => stepG_seq) rfl rfl ?_
    obtain ⟨v', c1, c2, c3⟩ := hA.cell
    have hbd : bb ≠ d := ndb.symm
    have nal : ∀ a n c, v' = .slice (some a) n c → a.block ≠ lb ∧ a.block ≠ d := by
      intro a n c e
      cases c2 with
      | nil => cases e
      | «at» a' pad ha' =>
        cases e
        refine ⟨fun e => ?_, fun e => ?_⟩ <;> (have e' := e; simp only at e'; subst e')
        · rw [hA.loop] at ha'; cases ha'
        · rw [hA.dfr] at ha'; cases ha'
    have c2' := c2
    generalize hτ7 : τ5.set lb _ = τ7
    have hd7 : τ7.f d = some (.deferred (some [])) := by rw [← hτ7, Hp.f_set_ne _ hne.symm]; exact hA.dfr
    have hb7 : τ7.f bb = some (.cells #[v'] 75 (0, 0)) := by rw [← hτ7, Hp.f_set_ne _ nlb.symm]; exact c1
    have hs7 : Sl 77 τ7 ks v' := c2.keep fun a n c e => by rw [← hτ7, Hp.f_set_ne _ (nal a n c e).1]
    have hσ7 : σ.le τ7 := by
      intro b o hb
      have h1 := hX' b o hb
      rw [← hτ7, Hp.f_set_ne _ (hA.apart h1).2.1]
      exact hA.ext _ _ h1
    have ha7 : Agree 13 { a2 with defers := { target := .collected d, args := #[] } :: a2.defers } ρ2 [{ target := .collected d, args := #[] }] := ha2.defer _
    refine (runs_code (E := E) (N := 13) (X := fun ρ ds τ' => ds = [{ target := .collected d, args := #[] }] ∧ ρ 4 = v' ∧ τ' = τ7) ?_ (by simp [b136]) ha7).bind ?_
    · simp only [t136, B136, Tryz.f136, Option.getD_some, rgtC, lftC, innC, opsC]
      simp only [go_sem, yA, yB, yC, yD, yE, yF, yG, wA, wB, wC, wD, wE, wF, wG, wH, putR, up, h2, hb7]
      exact ⟨rfl, by simp [up], rfl⟩
    rintro g τ' ⟨ρ8, _, a8, ha8, ⟨rfl, h4, rfl⟩, rfl⟩
    refine Runs.ctl (g' := G { b136.at a8 [.code .ret] with mode := .returning } cs) (fun w => ?_) rfl rfl ?_
    · simp [G, stepG, stepG.exec, Frame.at]
    refine Runs.step rfl (stepOk_mark (d := d) hd7 rfl ha8.defers) ?_
    rintro g τ9 ⟨rfl, rfl⟩
    have nX : ∀ b o, σ.f b = some o → b ≠ d := fun b o hb e => by subst e; have := hnone _ hd; rw [this] at hb; cases hb
    refine Runs.here ⟨.returned v', _, rfl, rfl, ⟨rfl, rfl, rfl, Tryz.f136, Tryz.func136, ?_⟩, ?_, v', ks, rfl, hp, ?_, ?_⟩
    · show wpS _ (results Tryz.f136 a8.tmps) _ _ _
      rw [results_eq (fn := Tryz.f136) ha8]
      simp [resultsR, Tryz.f136, wpS_pure', h4]
    · intro b o hb
      rw [Hp.f_set_ne _ (nX b o hb)]; exact hσ7 b o hb
    · exact hs7.keep fun a n c e => Hp.f_set_ne _ (nal a n c e).2
    · intro a n c e
      cases hs : σ.f a.block with
      | none => rfl
      | some o => have := hX' _ _ hs; rw [c3 a n c e] at this; cases this
  · rintro ch τ5 ⟨hv, _⟩
    cases hv
end
end Go.Qw
