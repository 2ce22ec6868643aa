/- The law Beats of queuewire returns true for every three integers: the row over the given program, tied to its text; no condition besides. (Part 27 of 40: QwIter6 QwIter7 QwIter8 QwApp1.) -/
import Derived.Test.YtpiabknabfbfhaaGreatDoorBeats11
import Derived.Test.YtpiabknabfbfhaaGreatDoorBeats26
set_option linter.all false
-- What is yielded of a map, each once (printed by iter.py).
namespace Go.Qw
open Nat renaming reduceLT → yA, reduceLeDiff → yB, reduceBEq → yC, reduceAdd → yD, reduceSub → yE, reduceMul → yF, reduceEqDiff → yG
open Int renaming reduceToNat → wA, reduceLE → wB, reduceLT → wC, reduceEq → wD, reduceAdd → wE, reduceSub → wF, reduceMul → wG, reduceNeg → wH
open Go Go.Conc Go.Proofs

noncomputable def B222 : Code := Tryz.f222.body.getD .skip
noncomputable def i222 : Array Oper := opsC (lftC B222)
noncomputable def L222 : Code := innC (innC (rgtC B222))
noncomputable def q222a : Array Oper := opsC (lftC L222)
noncomputable def n222 : Code := innC (rgtC (rgtC L222))
noncomputable def q222b : Array Oper := opsC (lftC n222)
noncomputable def q222c : Array Oper := opsC (lftC (rgtC n222))
theorem B222_eq : B222 = .seq (.region 0 i222 false) (.block 0 (.loop L222)) := by kernel_rfl
theorem L222_eq : L222 = .seq (.region 1 q222a false) (.seq (.cond (.tmp 7) .skip (.exit 0)) (.block 1 n222)) := by kernel_rfl
theorem n222_eq : n222 = .seq (.region 2 q222b false) (.seq (.region 3 q222c false) (.cond (.tmp 13) .ret .skip)) := by kernel_rfl
def b222 : Frame := { (default : Frame) with fn := 222, kind := .normal }
theorem q222c_2 : ∃ ps af, q222c[2]? = some { dst := some 12, op := .call ⟨.value (.tmp 10), #[.tmp 11], #[3]⟩, type := 4, pos := ps, after := af, guard := none } := ⟨_, _, by simp only [q222c, n222, L222, B222, Tryz.f222, Option.getD_some, rgtC, lftC, innC, opsC]; rfl⟩

structure F222 (lb it : Nat) (ρ : Rho) : Prop where
  y : ρ 0 = .func (.yield lb) #[] #[]
  i : ρ 5 = .pointer (some ⟨it, 0, none⟩)

section
variable {E : Env Tryz.prog} {lb : Nat} {p : Tmp} {r : Loop} {A : Hp → List Value → Hp → Prop} {l : List (Int × Value × Nat)} {c m : Nat} {cs : List Frame}
set_option maxRecDepth 100000 in
theorem loop222 (C : Coll E lb p r A) (hold : ∀ e ∈ l, e.2.2 < c) (hn : (l.map (·.2.2)).Nodup) {X0 : Hp} {xs : List Value} {it : Nat} (hbig : xs.length + l.length ≤ 1000000) (hsc : ∀ e ∈ l, isScalarV (keyI e.1) = true) : ∀ (n : Nat) (done rem : List (Int × Value × Nat)) (seen : Array Nat) (X σ : Hp) (ρ : Rho) (a : Act), rem.length < n → Left l done rem seen → X0.le X →
    A X (xs ++ done.map fun e => keyI e.1) σ → X.f it = some (.mapIter (some m) c seen c) → X0.f it = none → X.f m = some (kmap keyI l c) → it ≠ m → F222 lb it ρ → Agree 14 a ρ [] →
    Runs E (G (b222.at a (.code L222 :: .inLoop L222 :: .inBlock 0 :: [])) cs) σ fun g τ => ∃ e fr, g = G fr cs ∧ fr.fn = 222 ∧ Leaving Tryz.prog fr τ e ∧
      (e = .returned (.tuple #[]) ∧ ∃ X' ks, ks.Perm (l.map fun e => keyI e.1) ∧ X0.le X' ∧ A X' (xs ++ ks) τ) := by
  intro n
  induction n with
  | zero => intro _ _ _ _ _ _ _ h; omega
  | succ n ih =>
    intro done rem seen X σ ρ a hlen hL hX hA hit h0 hm hne hF ha
    have hitσ := C.ext hA _ _ hit
    have hmσ := C.ext hA _ _ hm
    rw [L222_eq]
    refine Runs.ctl (fun w => stepG_seq) rfl rfl ?_
    refine (runs_code (E := E) (N := 14) (X := fun ρ ds τ => ds = [] ∧ F222 lb it ρ ∧ ((ρ 7 = .bool true ∧ ∃ e ∈ l, e.2.2 ∉ seen ∧ τ = σ.set it (.mapIter (some m) c (seen.push e.2.2) c)) ∨ (ρ 7 = .bool false ∧ (∀ e ∈ l, e.2.2 ∈ seen) ∧ τ = σ))) ?_ (by simp [b222]) ha).bind ?_
    · simp only [q222a, L222, B222, Tryz.f222, Option.getD_some, rgtC, lftC, innC, opsC]
      simp only [go_sem, yA, yB, yC, yD, yE, yF, yG, wA, wB, wC, wD, wE, wF, wG, wH, putR, up]
      refine next_intro hF.i hitσ hmσ hold ?_ ?_
      · intro e he hs
        simp only [go_sem, yA, yB, yC, yD, yE, yF, yG, wA, wB, wC, wD, wE, wF, wG, wH, putR, up]
        exact ⟨rfl, ⟨by simp [up, hF.y], by simp [up, hF.i]⟩, .inl ⟨by simp [up], e, he, hs, rfl⟩⟩
      · intro hs
        simp only [go_sem, yA, yB, yC, yD, yE, yF, yG, wA, wB, wC, wD, wE, wF, wG, wH, putR, up]
        exact ⟨rfl, ⟨by simp [up, hF.y], by simp [up, hF.i]⟩, .inr ⟨by simp [up], hs, rfl⟩⟩
    rintro g τ ⟨ρ1, _, a1, ha1, ⟨rfl, hF1, hres⟩, rfl⟩
    refine Runs.ctl (fun w => stepG_seq) rfl rfl ?_
    rcases hres with ⟨h7, e, he, hs, rfl⟩ | ⟨h7, hs, rfl⟩
    · refine Runs.ctl (fun w => stepG_cond (t := true) (by rw [ha1.eval]; exact h7)) rfl rfl ?_
      refine Runs.ctl (fun w => stepG_skip) rfl rfl ?_
      refine Runs.ctl (fun w => stepG_block) rfl rfl ?_
      rw [n222_eq]
      refine Runs.ctl (fun w => stepG_seq) rfl rfl ?_
      have hA1 := C.upd (o := .mapIter (some m) c (seen.push e.2.2) c) hA hit
      have hit1 : (σ.set it (.mapIter (some m) c (seen.push e.2.2) c)).f it = some (.mapIter (some m) c (seen.push e.2.2) c) := Hp.f_set_same _ _
      have hm1 : (σ.set it (.mapIter (some m) c (seen.push e.2.2) c)).f m = some (kmap keyI l c) := by rw [Hp.f_set_ne _ (Ne.symm hne)]; exact hmσ
      generalize hτ : σ.set it (.mapIter (some m) c (seen.push e.2.2) c) = τ at hA1 hit1 hm1
      refine (runs_code (E := E) (N := 14) (X := fun ρ ds τ' => ds = [] ∧ F222 lb it ρ ∧ ρ 3 = keyI e.1 ∧ τ' = τ) ?_ (by simp [b222]) ha1).bind ?_
      · simp only [q222b, n222, L222, B222, Tryz.f222, Option.getD_some, rgtC, lftC, innC, opsC]
        simp only [go_sem, yA, yB, yC, yD, yE, yF, yG, wA, wB, wC, wD, wE, wF, wG, wH, putR, up]
        refine entry_intro hF1.i hit1 hm1 hn he ?_
        simp only [go_sem, yA, yB, yC, yD, yE, yF, yG, wA, wB, wC, wD, wE, wF, wG, wH, putR, up]
        exact ⟨rfl, ⟨by simp [up, hF1.y], by simp [up, hF1.i]⟩, by simp [up], rfl⟩
      rintro g τ' ⟨ρ2, _, a2, ha2, ⟨rfl, hF2, h3, rfl⟩, rfl⟩
      refine Runs.ctl (fun w => stepG_seq) rfl rfl ?_
      refine Runs.ctl (fun w => stepG_region) rfl rfl ?_
      have hr : List.range q222c.size = [0, 1] ++ [2, 3] := by kernel_rfl
      rw [hr]
      refine (wpL_prefix (E := E) (N := 14) (ops := q222c) (Q := onlyN fun ρ ds τ'' => ds = [] ∧ F222 lb it ρ ∧ ρ 10 = .func (.yield lb) #[] #[] ∧ ρ 11 = keyI e.1 ∧ τ'' = τ') b222 (by simp [b222]) _ cs [2, 3] onlyN_panic [0, 1] ρ2 [] τ' a2 ?_ ha2).bind ?_
      · simp only [q222c, n222, L222, B222, Tryz.f222, Option.getD_some, rgtC, lftC, innC, opsC]
        simp only [List.filterMap_cons, List.filterMap_nil, List.getElem?_toArray, List.getElem?_cons_succ, List.getElem?_cons_zero]
        simp only [go_sem, yA, yB, yC, yD, yE, yF, yG, wA, wB, wC, wD, wE, wF, wG, wH, putR, up, onlyN]
        exact ⟨⟨by simp [up, hF2.y], by simp [up, hF2.i]⟩, by simp [up, hF2.y], by simp [up, h3]⟩
      rintro g τ'' ⟨ρ3, _, a3, ha3, ⟨rfl, hF3, h10, h11, rfl⟩, rfl⟩
      obtain ⟨ps, af, ho⟩ := q222c_2
      refine Runs.step rfl (stepOk_yield ho rfl (by rw [ha3.eval]; exact h10) (C.loop hA1) C.params) ?_
      rintro g σ5 ⟨rfl, rfl⟩
      have hlt0 : (xs ++ done.map fun e => keyI e.1).length < 1000000 := by
        have h1 := hL.perm.length_eq
        have h2 := List.length_pos_of_mem (hL.mem he hs)
        simp only [List.length_append, List.length_map] at h1 ⊢
        omega
      have hv : a3.eval (.tmp 11) = keyI e.1 := by rw [ha3.eval]; exact h11
      refine (C.round hA1 _ _ _ hlt0 (by rw [hv]; exact hsc e he)).bind ?_
      rintro g σ6 ⟨rfl, hA2⟩
      rw [Frame.finish_at, ho]
      rw [hv] at hA2
      have ha4 : Agree 14 _ _ [] := ha3.put (dst := some 12) (by decide) (.bool true)
      -- the rest of the region
      refine (wpL_prefix (E := E) (N := 14) (ops := q222c) (Q := onlyN fun ρ ds τ'' => ds = [] ∧ F222 lb it ρ ∧ ρ 13 = .bool false ∧ τ'' = σ6) b222 (by simp [b222]) _ cs [] onlyN_panic [3] _ [] σ6 _ ?_ ha4).bind ?_
      · simp only [q222c, n222, L222, B222, Tryz.f222, Option.getD_some, rgtC, lftC, innC, opsC]
        simp only [List.filterMap_cons, List.filterMap_nil, List.getElem?_toArray, List.getElem?_cons_succ, List.getElem?_cons_zero]
        simp only [go_sem, yA, yB, yC, yD, yE, yF, yG, wA, wB, wC, wD, wE, wF, wG, wH, putR, up, onlyN]
        exact ⟨by simp [up, hF3.y], by simp [up, hF3.i]⟩
      rintro g τ'' ⟨ρ5, _, a5, ha5, ⟨rfl, hF5, h13, rfl⟩, rfl⟩
      refine Runs.ctl (fun w => stepG_region_end) rfl rfl ?_
      refine Runs.ctl (fun w => stepG_cond (t := false) (by rw [ha5.eval]; exact h13)) rfl rfl ?_
      refine Runs.ctl (fun w => stepG_skip) rfl rfl ?_
      refine Runs.ctl (fun w => stepG_inBlock) rfl rfl ?_
      refine Runs.ctl (fun w => stepG_inLoop) rfl rfl ?_
      obtain ⟨rem', hlt, hL'⟩ := hL.step hn he hs
      rw [← n222_eq, ← L222_eq]
      refine ih (done ++ [e]) rem' (seen.push e.2.2) (X.set it (.mapIter (some m) c (seen.push e.2.2) c)) τ'' ρ5 a5 (by omega) hL' ?_ ?_ (Hp.f_set_same _ _) h0 (by rw [Hp.f_set_ne _ (Ne.symm hne)]; exact hm) hne hF5 ha5
      · intro b o hb
        by_cases hbi : b = it
        · subst hbi; rw [h0] at hb; cases hb
        · rw [Hp.f_set_ne _ hbi]; exact hX _ _ hb
      · rw [List.map_append, ← List.append_assoc]; exact hA2
    · refine Runs.ctl (fun w => stepG_cond (t := false) (by rw [ha1.eval]; exact h7)) rfl rfl ?_
      refine Runs.ctl (fun w => stepG_exit (k' := []) rfl) rfl rfl ?_
      refine Runs.ctl (fun w => stepG_end) rfl rfl (Runs.here ⟨.returned (.tuple #[]), _, rfl, rfl, ⟨rfl, ?_, rfl, Tryz.f222, ?_, ?_⟩, rfl, X, _, (hL.all hn hs).map _, hX, hA⟩)
      · exact ha1.defers
      · exact Tryz.func222
      · show wpS _ (results Tryz.f222 a1.tmps) _ _ _
        rw [results_eq (fn := Tryz.f222) ha1]
        simp [resultsR, Tryz.f222, wpS_pure']
end

set_option maxRecDepth 100000 in
theorem yields222 : Yields 222 (fun e : Int × Value × Nat => keyI e.1) keyI 273 := by
  intro E lb p r A C X σ xs l c bm m hA hbm hm hold hn hbig hsc cs
  have hbmσ := C.ext hA _ _ hbm
  have hmσ := C.ext hA _ _ hm
  have henter : Frame.enter Tryz.prog 222 #[.func (.yield lb) #[] #[], .pointer (some ⟨bm, 0, none⟩)] .normal = b222.at { tmps := #[.func (.yield lb) #[] #[], .pointer (some ⟨bm, 0, none⟩)] ++ Array.replicate 12 undef, defers := [] } [.code B222] := by
    simp [Frame.enter, Frame.at, Tryz.func222, b222, Tryz.f222, B222]
  rw [henter, B222_eq]
  have ha := agree_start #[.func (.yield lb) #[] #[], .pointer (some ⟨bm, 0, none⟩)] 14 (by simp)
  refine Runs.ctl (fun w => stepG_seq) rfl rfl ?_
  refine (runs_code (E := E) (N := 14) (X := fun ρ ds τ => ds = [] ∧ ∃ it, F222 lb it ρ ∧ σ.f it = none ∧ τ = σ.set it (.mapIter (some m) c #[] c)) ?_ (by simp [b222]) ha).bind ?_
  · simp only [i222, B222, Tryz.f222, Option.getD_some, rgtC, lftC, innC, opsC]
    simp only [go_sem, yA, yB, yC, yD, yE, yF, yG, wA, wB, wC, wD, wE, wF, wG, wH, putR, up, hbmσ]
    refine range_intro ko273 rfl hmσ ?_
    intro it hit
    simp only [go_sem, yA, yB, yC, yD, yE, yF, yG, wA, wB, wC, wD, wE, wF, wG, wH, putR, up]
    exact ⟨rfl, it, ⟨by simp [up, startR], by simp [up]⟩, hit, rfl⟩
  rintro g τ ⟨ρ1, _, a1, ha1, ⟨rfl, it, hF, hit, rfl⟩, rfl⟩
  refine Runs.ctl (fun w => stepG_block) rfl rfl ?_
  refine Runs.ctl (fun w => stepG_loop) rfl rfl ?_
  have hXit : X.f it = none := by
    cases h : X.f it with
    | none => rfl
    | some o => rw [C.ext hA _ _ h] at hit; cases hit
  have hne : it ≠ m := fun e => by subst e; rw [hXit] at hm; cases hm
  refine loop222 C hold hn hbig hsc (l.length + 1) [] l #[] (X.set it (.mapIter (some m) c #[] c)) _ ρ1 a1 (by omega) (.start l) ?_ (by simpa using C.new hA hit) (Hp.f_set_same _ _) hXit (by rw [Hp.f_set_ne _ (Ne.symm hne)]; exact hm) hne hF ha1
  intro b o hb
  by_cases hbi : b = it
  · subst hbi; rw [hXit] at hb; cases hb
  · rw [Hp.f_set_ne _ hbi]; exact hb
end Go.Qw
-- What is yielded of a map, each once (printed by iter.py).
namespace Go.Qw
open Nat renaming reduceLT → yA, reduceLeDiff → yB, reduceBEq → yC, reduceAdd → yD, reduceSub → yE, reduceMul → yF, reduceEqDiff → yG
open Int renaming reduceToNat → wA, reduceLE → wB, reduceLT → wC, reduceEq → wD, reduceAdd → wE, reduceSub → wF, reduceMul → wG, reduceNeg → wH
open Go Go.Conc Go.Proofs

noncomputable def B220 : Code := Tryz.f220.body.getD .skip
noncomputable def i220 : Array Oper := opsC (lftC B220)
noncomputable def L220 : Code := innC (innC (rgtC B220))
noncomputable def q220a : Array Oper := opsC (lftC L220)
noncomputable def n220 : Code := innC (rgtC (rgtC L220))
noncomputable def q220b : Array Oper := opsC (lftC n220)
noncomputable def q220c : Array Oper := opsC (lftC (rgtC n220))
theorem B220_eq : B220 = .seq (.region 0 i220 false) (.block 0 (.loop L220)) := by kernel_rfl
theorem L220_eq : L220 = .seq (.region 1 q220a false) (.seq (.cond (.tmp 7) .skip (.exit 0)) (.block 1 n220)) := by kernel_rfl
theorem n220_eq : n220 = .seq (.region 2 q220b false) (.seq (.region 3 q220c false) (.cond (.tmp 13) .ret .skip)) := by kernel_rfl
def b220 : Frame := { (default : Frame) with fn := 220, kind := .normal }
theorem q220c_2 : ∃ ps af, q220c[2]? = some { dst := some 12, op := .call ⟨.value (.tmp 10), #[.tmp 11], #[9]⟩, type := 4, pos := ps, after := af, guard := none } := ⟨_, _, by simp only [q220c, n220, L220, B220, Tryz.f220, Option.getD_some, rgtC, lftC, innC, opsC]; rfl⟩

structure F220 (lb it : Nat) (ρ : Rho) : Prop where
  y : ρ 0 = .func (.yield lb) #[] #[]
  i : ρ 5 = .pointer (some ⟨it, 0, none⟩)

section
variable {E : Env Tryz.prog} {lb : Nat} {p : Tmp} {r : Loop} {A : Hp → List Value → Hp → Prop} {l : List (List UInt8 × Value × Nat)} {c m : Nat} {cs : List Frame}
set_option maxRecDepth 100000 in
theorem loop220 (C : Coll E lb p r A) (hold : ∀ e ∈ l, e.2.2 < c) (hn : (l.map (·.2.2)).Nodup) {X0 : Hp} {xs : List Value} {it : Nat} (hbig : xs.length + l.length ≤ 1000000) (hsc : ∀ e ∈ l, isScalarV (keyS e.1) = true) : ∀ (n : Nat) (done rem : List (List UInt8 × Value × Nat)) (seen : Array Nat) (X σ : Hp) (ρ : Rho) (a : Act), rem.length < n → Left l done rem seen → X0.le X →
    A X (xs ++ done.map fun e => keyS e.1) σ → X.f it = some (.mapIter (some m) c seen c) → X0.f it = none → X.f m = some (kmap keyS l c) → it ≠ m → F220 lb it ρ → Agree 14 a ρ [] →
    Runs E (G (b220.at a (.code L220 :: .inLoop L220 :: .inBlock 0 :: [])) cs) σ fun g τ => ∃ e fr, g = G fr cs ∧ fr.fn = 220 ∧ Leaving Tryz.prog fr τ e ∧
      (e = .returned (.tuple #[]) ∧ ∃ X' ks, ks.Perm (l.map fun e => keyS e.1) ∧ X0.le X' ∧ A X' (xs ++ ks) τ) := by
  intro n
  induction n with
  | zero => intro _ _ _ _ _ _ _ h; omega
  | succ n ih =>
    intro done rem seen X σ ρ a hlen hL hX hA hit h0 hm hne hF ha
    have hitσ := C.ext hA _ _ hit
    have hmσ := C.ext hA _ _ hm
    rw [L220_eq]
    refine Runs.ctl (fun w => stepG_seq) rfl rfl ?_
    refine (runs_code (E := E) (N := 14) (X := fun ρ ds τ => ds = [] ∧ F220 lb it ρ ∧ ((ρ 7 = .bool true ∧ ∃ e ∈ l, e.2.2 ∉ seen ∧ τ = σ.set it (.mapIter (some m) c (seen.push e.2.2) c)) ∨ (ρ 7 = .bool false ∧ (∀ e ∈ l, e.2.2 ∈ seen) ∧ τ = σ))) ?_ (by simp [b220]) ha).bind ?_
    · simp only [q220a, L220, B220, Tryz.f220, Option.getD_some, rgtC, lftC, innC, opsC]
      simp only [go_sem, yA, yB, yC, yD, yE, yF, yG, wA, wB, wC, wD, wE, wF, wG, wH, putR, up]
      refine next_intro hF.i hitσ hmσ hold ?_ ?_
      · intro e he hs
        simp only [go_sem, yA, yB, yC, yD, yE, yF, yG, wA, wB, wC, wD, wE, wF, wG, wH, putR, up]
        exact ⟨rfl, ⟨by simp [up, hF.y], by simp [up, hF.i]⟩, .inl ⟨by simp [up], e, he, hs, rfl⟩⟩
      · intro hs
        simp only [go_sem, yA, yB, yC, yD, yE, yF, yG, wA, wB, wC, wD, wE, wF, wG, wH, putR, up]
        exact ⟨rfl, ⟨by simp [up, hF.y], by simp [up, hF.i]⟩, .inr ⟨by simp [up], hs, rfl⟩⟩
    rintro g τ ⟨ρ1, _, a1, ha1, ⟨rfl, hF1, hres⟩, rfl⟩
    refine Runs.ctl (fun w => stepG_seq) rfl rfl ?_
    rcases hres with ⟨h7, e, he, hs, rfl⟩ | ⟨h7, hs, rfl⟩
    · refine Runs.ctl (fun w => stepG_cond (t := true) (by rw [ha1.eval]; exact h7)) rfl rfl ?_
      refine Runs.ctl (fun w => stepG_skip) rfl rfl ?_
      refine Runs.ctl (fun w => stepG_block) rfl rfl ?_
      rw [n220_eq]
      refine Runs.ctl (fun w => stepG_seq) rfl rfl ?_
      have hA1 := C.upd (o := .mapIter (some m) c (seen.push e.2.2) c) hA hit
      have hit1 : (σ.set it (.mapIter (some m) c (seen.push e.2.2) c)).f it = some (.mapIter (some m) c (seen.push e.2.2) c) := Hp.f_set_same _ _
      have hm1 : (σ.set it (.mapIter (some m) c (seen.push e.2.2) c)).f m = some (kmap keyS l c) := by rw [Hp.f_set_ne _ (Ne.symm hne)]; exact hmσ
      generalize hτ : σ.set it (.mapIter (some m) c (seen.push e.2.2) c) = τ at hA1 hit1 hm1
      refine (runs_code (E := E) (N := 14) (X := fun ρ ds τ' => ds = [] ∧ F220 lb it ρ ∧ ρ 3 = keyS e.1 ∧ τ' = τ) ?_ (by simp [b220]) ha1).bind ?_
      · simp only [q220b, n220, L220, B220, Tryz.f220, Option.getD_some, rgtC, lftC, innC, opsC]
        simp only [go_sem, yA, yB, yC, yD, yE, yF, yG, wA, wB, wC, wD, wE, wF, wG, wH, putR, up]
        refine entry_intro hF1.i hit1 hm1 hn he ?_
        simp only [go_sem, yA, yB, yC, yD, yE, yF, yG, wA, wB, wC, wD, wE, wF, wG, wH, putR, up]
        exact ⟨rfl, ⟨by simp [up, hF1.y], by simp [up, hF1.i]⟩, by simp [up], rfl⟩
      rintro g τ' ⟨ρ2, _, a2, ha2, ⟨rfl, hF2, h3, rfl⟩, rfl⟩
      refine Runs.ctl (fun w => stepG_seq) rfl rfl ?_
      refine Runs.ctl (fun w => stepG_region) rfl rfl ?_
      have hr : List.range q220c.size = [0, 1] ++ [2, 3] := by kernel_rfl
      rw [hr]
      refine (wpL_prefix (E := E) (N := 14) (ops := q220c) (Q := onlyN fun ρ ds τ'' => ds = [] ∧ F220 lb it ρ ∧ ρ 10 = .func (.yield lb) #[] #[] ∧ ρ 11 = keyS e.1 ∧ τ'' = τ') b220 (by simp [b220]) _ cs [2, 3] onlyN_panic [0, 1] ρ2 [] τ' a2 ?_ ha2).bind ?_
      · simp only [q220c, n220, L220, B220, Tryz.f220, Option.getD_some, rgtC, lftC, innC, opsC]
        simp only [List.filterMap_cons, List.filterMap_nil, List.getElem?_toArray, List.getElem?_cons_succ, List.getElem?_cons_zero]
        simp only [go_sem, yA, yB, yC, yD, yE, yF, yG, wA, wB, wC, wD, wE, wF, wG, wH, putR, up, onlyN]
        exact ⟨⟨by simp [up, hF2.y], by simp [up, hF2.i]⟩, by simp [up, hF2.y], by simp [up, h3]⟩
      rintro g τ'' ⟨ρ3, _, a3, ha3, ⟨rfl, hF3, h10, h11, rfl⟩, rfl⟩
      obtain ⟨ps, af, ho⟩ := q220c_2
      refine Runs.step rfl (stepOk_yield ho rfl (by rw [ha3.eval]; exact h10) (C.loop hA1) C.params) ?_
      rintro g σ5 ⟨rfl, rfl⟩
      have hlt0 : (xs ++ done.map fun e => keyS e.1).length < 1000000 := by
        have h1 := hL.perm.length_eq
        have h2 := List.length_pos_of_mem (hL.mem he hs)
        simp only [List.length_append, List.length_map] at h1 ⊢
        omega
      have hv : a3.eval (.tmp 11) = keyS e.1 := by rw [ha3.eval]; exact h11
      refine (C.round hA1 _ _ _ hlt0 (by rw [hv]; exact hsc e he)).bind ?_
      rintro g σ6 ⟨rfl, hA2⟩
      rw [Frame.finish_at, ho]
      rw [hv] at hA2
      have ha4 : Agree 14 _ _ [] := ha3.put (dst := some 12) (by decide) (.bool true)
      -- the rest of the region
      refine (wpL_prefix (E := E) (N := 14) (ops := q220c) (Q := onlyN fun ρ ds τ'' => ds = [] ∧ F220 lb it ρ ∧ ρ 13 = .bool false ∧ τ'' = σ6) b220 (by simp [b220]) _ cs [] onlyN_panic [3] _ [] σ6 _ ?_ ha4).bind ?_
      · simp only [q220c, n220, L220, B220, Tryz.f220, Option.getD_some, rgtC, lftC, innC, opsC]
        simp only [List.filterMap_cons, List.filterMap_nil, List.getElem?_toArray, List.getElem?_cons_succ, List.getElem?_cons_zero]
        simp only [go_sem, yA, yB, yC, yD, yE, yF, yG, wA, wB, wC, wD, wE, wF, wG, wH, putR, up, onlyN]
        exact ⟨by simp [up, hF3.y], by simp [up, hF3.i]⟩
      rintro g τ'' ⟨ρ5, _, a5, ha5, ⟨rfl, hF5, h13, rfl⟩, rfl⟩
      refine Runs.ctl (fun w => stepG_region_end) rfl rfl ?_
      refine Runs.ctl (fun w => stepG_cond (t := false) (by rw [ha5.eval]; exact h13)) rfl rfl ?_
      refine Runs.ctl (fun w => stepG_skip) rfl rfl ?_
      refine Runs.ctl (fun w => stepG_inBlock) rfl rfl ?_
      refine Runs.ctl (fun w => stepG_inLoop) rfl rfl ?_
      obtain ⟨rem', hlt, hL'⟩ := hL.step hn he hs
      rw [← n220_eq, ← L220_eq]
      refine ih (done ++ [e]) rem' (seen.push e.2.2) (X.set it (.mapIter (some m) c (seen.push e.2.2) c)) τ'' ρ5 a5 (by omega) hL' ?_ ?_ (Hp.f_set_same _ _) h0 (by rw [Hp.f_set_ne _ (Ne.symm hne)]; exact hm) hne hF5 ha5
      · intro b o hb
        by_cases hbi : b = it
        · subst hbi; rw [h0] at hb; cases hb
        · rw [Hp.f_set_ne _ hbi]; exact hX _ _ hb
      · rw [List.map_append, ← List.append_assoc]; exact hA2
    · refine Runs.ctl (fun w => stepG_cond (t := false) (by rw [ha1.eval]; exact h7)) rfl rfl ?_
      refine Runs.ctl (fun w => stepG_exit (k' := []) rfl) rfl rfl ?_
      refine Runs.ctl (fun w => stepG_end) rfl rfl (Runs.here ⟨.returned (.tuple #[]), _, rfl, rfl, ⟨rfl, ?_, rfl, Tryz.f220, ?_, ?_⟩, rfl, X, _, (hL.all hn hs).map _, hX, hA⟩)
      · exact ha1.defers
      · exact Tryz.func220
      · show wpS _ (results Tryz.f220 a1.tmps) _ _ _
        rw [results_eq (fn := Tryz.f220) ha1]
        simp [resultsR, Tryz.f220, wpS_pure']
end

set_option maxRecDepth 100000 in
theorem yields220 : Yields 220 (fun e : List UInt8 × Value × Nat => keyS e.1) keyS 274 := by
  intro E lb p r A C X σ xs l c bm m hA hbm hm hold hn hbig hsc cs
  have hbmσ := C.ext hA _ _ hbm
  have hmσ := C.ext hA _ _ hm
  have henter : Frame.enter Tryz.prog 220 #[.func (.yield lb) #[] #[], .pointer (some ⟨bm, 0, none⟩)] .normal = b220.at { tmps := #[.func (.yield lb) #[] #[], .pointer (some ⟨bm, 0, none⟩)] ++ Array.replicate 12 undef, defers := [] } [.code B220] := by
    simp [Frame.enter, Frame.at, Tryz.func220, b220, Tryz.f220, B220]
  rw [henter, B220_eq]
  have ha := agree_start #[.func (.yield lb) #[] #[], .pointer (some ⟨bm, 0, none⟩)] 14 (by simp)
  refine Runs.ctl (fun w => stepG_seq) rfl rfl ?_
  refine (runs_code (E := E) (N := 14) (X := fun ρ ds τ => ds = [] ∧ ∃ it, F220 lb it ρ ∧ σ.f it = none ∧ τ = σ.set it (.mapIter (some m) c #[] c)) ?_ (by simp [b220]) ha).bind ?_
  · simp only [i220, B220, Tryz.f220, Option.getD_some, rgtC, lftC, innC, opsC]
    simp only [go_sem, yA, yB, yC, yD, yE, yF, yG, wA, wB, wC, wD, wE, wF, wG, wH, putR, up, hbmσ]
    refine range_intro ko274 rfl hmσ ?_
    intro it hit
    simp only [go_sem, yA, yB, yC, yD, yE, yF, yG, wA, wB, wC, wD, wE, wF, wG, wH, putR, up]
    exact ⟨rfl, it, ⟨by simp [up, startR], by simp [up]⟩, hit, rfl⟩
  rintro g τ ⟨ρ1, _, a1, ha1, ⟨rfl, it, hF, hit, rfl⟩, rfl⟩
  refine Runs.ctl (fun w => stepG_block) rfl rfl ?_
  refine Runs.ctl (fun w => stepG_loop) rfl rfl ?_
  have hXit : X.f it = none := by
    cases h : X.f it with
    | none => rfl
    | some o => rw [C.ext hA _ _ h] at hit; cases hit
  have hne : it ≠ m := fun e => by subst e; rw [hXit] at hm; cases hm
  refine loop220 C hold hn hbig hsc (l.length + 1) [] l #[] (X.set it (.mapIter (some m) c #[] c)) _ ρ1 a1 (by omega) (.start l) ?_ (by simpa using C.new hA hit) (Hp.f_set_same _ _) hXit (by rw [Hp.f_set_ne _ (Ne.symm hne)]; exact hm) hne hF ha1
  intro b o hb
  by_cases hbi : b = it
  · subst hbi; rw [hXit] at hb; cases hb
  · rw [Hp.f_set_ne _ hbi]; exact hb
end Go.Qw
-- What is yielded of a map, each once (printed by iter.py).
namespace Go.Qw
open Nat renaming reduceLT → yA, reduceLeDiff → yB, reduceBEq → yC, reduceAdd → yD, reduceSub → yE, reduceMul → yF, reduceEqDiff → yG
open Int renaming reduceToNat → wA, reduceLE → wB, reduceLT → wC, reduceEq → wD, reduceAdd → wE, reduceSub → wF, reduceMul → wG, reduceNeg → wH
open Go Go.Conc Go.Proofs

noncomputable def B85 : Code := Tryz.f85.body.getD .skip
noncomputable def i85 : Array Oper := opsC (lftC B85)
noncomputable def L85 : Code := innC (innC (rgtC B85))
noncomputable def q85a : Array Oper := opsC (lftC L85)
noncomputable def n85 : Code := innC (rgtC (rgtC L85))
noncomputable def q85b : Array Oper := opsC (lftC n85)
noncomputable def q85c : Array Oper := opsC (lftC (rgtC n85))
theorem B85_eq : B85 = .seq (.region 0 i85 false) (.block 0 (.loop L85)) := by kernel_rfl
theorem L85_eq : L85 = .seq (.region 1 q85a false) (.seq (.cond (.tmp 8) .skip (.exit 0)) (.block 1 n85)) := by kernel_rfl
theorem n85_eq : n85 = .seq (.region 2 q85b false) (.seq (.region 3 q85c false) (.cond (.tmp 14) .ret .skip)) := by kernel_rfl
def b85 : Frame := { (default : Frame) with fn := 85, kind := .normal }
theorem q85c_2 : ∃ ps af, q85c[2]? = some { dst := some 13, op := .call ⟨.value (.tmp 11), #[.tmp 12], #[77]⟩, type := 4, pos := ps, after := af, guard := none } := ⟨_, _, by simp only [q85c, n85, L85, B85, Tryz.f85, Option.getD_some, rgtC, lftC, innC, opsC]; rfl⟩

structure F85 (lb it : Nat) (ρ : Rho) : Prop where
  y : ρ 0 = .func (.yield lb) #[] #[]
  i : ρ 6 = .pointer (some ⟨it, 0, none⟩)

section
variable {E : Env Tryz.prog} {lb : Nat} {p : Tmp} {r : Loop} {A : Hp → List Value → Hp → Prop} {l : List (List UInt8 × Value × Nat)} {c m : Nat} {cs : List Frame}
set_option maxRecDepth 100000 in
theorem loop85 (C : Coll E lb p r A) (hold : ∀ e ∈ l, e.2.2 < c) (hn : (l.map (·.2.2)).Nodup) {X0 : Hp} {xs : List Value} {it : Nat} (hbig : xs.length + l.length ≤ 1000000) (hsc : ∀ e ∈ l, isScalarV (e.2.1) = true) : ∀ (n : Nat) (done rem : List (List UInt8 × Value × Nat)) (seen : Array Nat) (X σ : Hp) (ρ : Rho) (a : Act), rem.length < n → Left l done rem seen → X0.le X →
    A X (xs ++ done.map fun e => e.2.1) σ → X.f it = some (.mapIter (some m) c seen c) → X0.f it = none → X.f m = some (kmap keyS l c) → it ≠ m → F85 lb it ρ → Agree 15 a ρ [] →
    Runs E (G (b85.at a (.code L85 :: .inLoop L85 :: .inBlock 0 :: [])) cs) σ fun g τ => ∃ e fr, g = G fr cs ∧ fr.fn = 85 ∧ Leaving Tryz.prog fr τ e ∧
      (e = .returned (.tuple #[]) ∧ ∃ X' ks, ks.Perm (l.map fun e => e.2.1) ∧ X0.le X' ∧ A X' (xs ++ ks) τ) := by
  intro n
  induction n with
  | zero => intro _ _ _ _ _ _ _ h; omega
  | succ n ih =>
    intro done rem seen X σ ρ a hlen hL hX hA hit h0 hm hne hF ha
    have hitσ := C.ext hA _ _ hit
    have hmσ := C.ext hA _ _ hm
    rw [L85_eq]
    refine Runs.ctl (fun w => stepG_seq) rfl rfl ?_
    refine (runs_code (E := E) (N := 15) (X := fun ρ ds τ => ds = [] ∧ F85 lb it ρ ∧ ((ρ 8 = .bool true ∧ ∃ e ∈ l, e.2.2 ∉ seen ∧ τ = σ.set it (.mapIter (some m) c (seen.push e.2.2) c)) ∨ (ρ 8 = .bool false ∧ (∀ e ∈ l, e.2.2 ∈ seen) ∧ τ = σ))) ?_ (by simp [b85]) ha).bind ?_
    · simp only [q85a, L85, B85, Tryz.f85, Option.getD_some, rgtC, lftC, innC, opsC]
      simp only [go_sem, yA, yB, yC, yD, yE, yF, yG, wA, wB, wC, wD, wE, wF, wG, wH, putR, up]
      refine next_intro hF.i hitσ hmσ hold ?_ ?_
      · intro e he hs
        simp only [go_sem, yA, yB, yC, yD, yE, yF, yG, wA, wB, wC, wD, wE, wF, wG, wH, putR, up]
        exact ⟨rfl, ⟨by simp [up, hF.y], by simp [up, hF.i]⟩, .inl ⟨by simp [up], e, he, hs, rfl⟩⟩
      · intro hs
        simp only [go_sem, yA, yB, yC, yD, yE, yF, yG, wA, wB, wC, wD, wE, wF, wG, wH, putR, up]
        exact ⟨rfl, ⟨by simp [up, hF.y], by simp [up, hF.i]⟩, .inr ⟨by simp [up], hs, rfl⟩⟩
    rintro g τ ⟨ρ1, _, a1, ha1, ⟨rfl, hF1, hres⟩, rfl⟩
    refine Runs.ctl (fun w => stepG_seq) rfl rfl ?_
    rcases hres with ⟨h7, e, he, hs, rfl⟩ | ⟨h7, hs, rfl⟩
    · refine Runs.ctl (fun w => stepG_cond (t := true) (by rw [ha1.eval]; exact h7)) rfl rfl ?_
      refine Runs.ctl (fun w => stepG_skip) rfl rfl ?_
      refine Runs.ctl (fun w => stepG_block) rfl rfl ?_
      rw [n85_eq]
      refine Runs.ctl (fun w => stepG_seq) rfl rfl ?_
      have hA1 := C.upd (o := .mapIter (some m) c (seen.push e.2.2) c) hA hit
      have hit1 : (σ.set it (.mapIter (some m) c (seen.push e.2.2) c)).f it = some (.mapIter (some m) c (seen.push e.2.2) c) := Hp.f_set_same _ _
      have hm1 : (σ.set it (.mapIter (some m) c (seen.push e.2.2) c)).f m = some (kmap keyS l c) := by rw [Hp.f_set_ne _ (Ne.symm hne)]; exact hmσ
      generalize hτ : σ.set it (.mapIter (some m) c (seen.push e.2.2) c) = τ at hA1 hit1 hm1
      refine (runs_code (E := E) (N := 15) (X := fun ρ ds τ' => ds = [] ∧ F85 lb it ρ ∧ ρ 4 = e.2.1 ∧ τ' = τ) ?_ (by simp [b85]) ha1).bind ?_
      · simp only [q85b, n85, L85, B85, Tryz.f85, Option.getD_some, rgtC, lftC, innC, opsC]
        simp only [go_sem, yA, yB, yC, yD, yE, yF, yG, wA, wB, wC, wD, wE, wF, wG, wH, putR, up]
        refine entry_intro hF1.i hit1 hm1 hn he ?_
        simp only [go_sem, yA, yB, yC, yD, yE, yF, yG, wA, wB, wC, wD, wE, wF, wG, wH, putR, up]
        exact ⟨rfl, ⟨by simp [up, hF1.y], by simp [up, hF1.i]⟩, by simp [up], rfl⟩
      rintro g τ' ⟨ρ2, _, a2, ha2, ⟨rfl, hF2, h3, rfl⟩, rfl⟩
      refine Runs.ctl (fun w => stepG_seq) rfl rfl ?_
      refine Runs.ctl (fun w => stepG_region) rfl rfl ?_
      have hr : List.range q85c.size = [0, 1] ++ [2, 3] := by kernel_rfl
      rw [hr]
      refine (wpL_prefix (E := E) (N := 15) (ops := q85c) (Q := onlyN fun ρ ds τ'' => ds = [] ∧ F85 lb it ρ ∧ ρ 11 = .func (.yield lb) #[] #[] ∧ ρ 12 = e.2.1 ∧ τ'' = τ') b85 (by simp [b85]) _ cs [2, 3] onlyN_panic [0, 1] ρ2 [] τ' a2 ?_ ha2).bind ?_
      · simp only [q85c, n85, L85, B85, Tryz.f85, Option.getD_some, rgtC, lftC, innC, opsC]
        simp only [List.filterMap_cons, List.filterMap_nil, List.getElem?_toArray, List.getElem?_cons_succ, List.getElem?_cons_zero]
        simp only [go_sem, yA, yB, yC, yD, yE, yF, yG, wA, wB, wC, wD, wE, wF, wG, wH, putR, up, onlyN]
        exact ⟨⟨by simp [up, hF2.y], by simp [up, hF2.i]⟩, by simp [up, hF2.y], by simp [up, h3]⟩
      rintro g τ'' ⟨ρ3, _, a3, ha3, ⟨rfl, hF3, h10, h11, rfl⟩, rfl⟩
      obtain ⟨ps, af, ho⟩ := q85c_2
      refine Runs.step rfl (stepOk_yield ho rfl (by rw [ha3.eval]; exact h10) (C.loop hA1) C.params) ?_
      rintro g σ5 ⟨rfl, rfl⟩
      have hlt0 : (xs ++ done.map fun e => e.2.1).length < 1000000 := by
        have h1 := hL.perm.length_eq
        have h2 := List.length_pos_of_mem (hL.mem he hs)
        simp only [List.length_append, List.length_map] at h1 ⊢
        omega
      have hv : a3.eval (.tmp 12) = e.2.1 := by rw [ha3.eval]; exact h11
      refine (C.round hA1 _ _ _ hlt0 (by rw [hv]; exact hsc e he)).bind ?_
      rintro g σ6 ⟨rfl, hA2⟩
      rw [Frame.finish_at, ho]
      rw [hv] at hA2
      have ha4 : Agree 15 _ _ [] := ha3.put (dst := some 13) (by decide) (.bool true)
      -- the rest of the region
      refine (wpL_prefix (E := E) (N := 15) (ops := q85c) (Q := onlyN fun ρ ds τ'' => ds = [] ∧ F85 lb it ρ ∧ ρ 14 = .bool false ∧ τ'' = σ6) b85 (by simp [b85]) _ cs [] onlyN_panic [3] _ [] σ6 _ ?_ ha4).bind ?_
      · simp only [q85c, n85, L85, B85, Tryz.f85, Option.getD_some, rgtC, lftC, innC, opsC]
        simp only [List.filterMap_cons, List.filterMap_nil, List.getElem?_toArray, List.getElem?_cons_succ, List.getElem?_cons_zero]
        simp only [go_sem, yA, yB, yC, yD, yE, yF, yG, wA, wB, wC, wD, wE, wF, wG, wH, putR, up, onlyN]
        exact ⟨by simp [up, hF3.y], by simp [up, hF3.i]⟩
      rintro g τ'' ⟨ρ5, _, a5, ha5, ⟨rfl, hF5, h13, rfl⟩, rfl⟩
      refine Runs.ctl (fun w => stepG_region_end) rfl rfl ?_
      refine Runs.ctl (fun w => stepG_cond (t := false) (by rw [ha5.eval]; exact h13)) rfl rfl ?_
      refine Runs.ctl (fun w => stepG_skip) rfl rfl ?_
      refine Runs.ctl (fun w => stepG_inBlock) rfl rfl ?_
      refine Runs.ctl (fun w => stepG_inLoop) rfl rfl ?_
      obtain ⟨rem', hlt, hL'⟩ := hL.step hn he hs
      rw [← n85_eq, ← L85_eq]
      refine ih (done ++ [e]) rem' (seen.push e.2.2) (X.set it (.mapIter (some m) c (seen.push e.2.2) c)) τ'' ρ5 a5 (by omega) hL' ?_ ?_ (Hp.f_set_same _ _) h0 (by rw [Hp.f_set_ne _ (Ne.symm hne)]; exact hm) hne hF5 ha5
      · intro b o hb
        by_cases hbi : b = it
        · subst hbi; rw [h0] at hb; cases hb
        · rw [Hp.f_set_ne _ hbi]; exact hX _ _ hb
      · rw [List.map_append, ← List.append_assoc]; exact hA2
    · refine Runs.ctl (fun w => stepG_cond (t := false) (by rw [ha1.eval]; exact h7)) rfl rfl ?_
      refine Runs.ctl (fun w => stepG_exit (k' := []) rfl) rfl rfl ?_
      refine Runs.ctl (fun w => stepG_end) rfl rfl (Runs.here ⟨.returned (.tuple #[]), _, rfl, rfl, ⟨rfl, ?_, rfl, Tryz.f85, ?_, ?_⟩, rfl, X, _, (hL.all hn hs).map _, hX, hA⟩)
      · exact ha1.defers
      · exact Tryz.func85
      · show wpS _ (results Tryz.f85 a1.tmps) _ _ _
        rw [results_eq (fn := Tryz.f85) ha1]
        simp [resultsR, Tryz.f85, wpS_pure']
end

set_option maxRecDepth 100000 in
theorem yields85 : Yields 85 (fun e : List UInt8 × Value × Nat => e.2.1) keyS 114 := by
  intro E lb p r A C X σ xs l c bm m hA hbm hm hold hn hbig hsc cs
  have hbmσ := C.ext hA _ _ hbm
  have hmσ := C.ext hA _ _ hm
  have henter : Frame.enter Tryz.prog 85 #[.func (.yield lb) #[] #[], .pointer (some ⟨bm, 0, none⟩)] .normal = b85.at { tmps := #[.func (.yield lb) #[] #[], .pointer (some ⟨bm, 0, none⟩)] ++ Array.replicate 13 undef, defers := [] } [.code B85] := by
    simp [Frame.enter, Frame.at, Tryz.func85, b85, Tryz.f85, B85]
  rw [henter, B85_eq]
  have ha := agree_start #[.func (.yield lb) #[] #[], .pointer (some ⟨bm, 0, none⟩)] 15 (by simp)
  refine Runs.ctl (fun w => stepG_seq) rfl rfl ?_
  refine (runs_code (E := E) (N := 15) (X := fun ρ ds τ => ds = [] ∧ ∃ it, F85 lb it ρ ∧ σ.f it = none ∧ τ = σ.set it (.mapIter (some m) c #[] c)) ?_ (by simp [b85]) ha).bind ?_
  · simp only [i85, B85, Tryz.f85, Option.getD_some, rgtC, lftC, innC, opsC]
    simp only [go_sem, yA, yB, yC, yD, yE, yF, yG, wA, wB, wC, wD, wE, wF, wG, wH, putR, up, hbmσ]
    refine range_intro ko114 rfl hmσ ?_
    intro it hit
    simp only [go_sem, yA, yB, yC, yD, yE, yF, yG, wA, wB, wC, wD, wE, wF, wG, wH, putR, up]
    exact ⟨rfl, it, ⟨by simp [up, startR], by simp [up]⟩, hit, rfl⟩
  rintro g τ ⟨ρ1, _, a1, ha1, ⟨rfl, it, hF, hit, rfl⟩, rfl⟩
  refine Runs.ctl (fun w => stepG_block) rfl rfl ?_
  refine Runs.ctl (fun w => stepG_loop) rfl rfl ?_
  have hXit : X.f it = none := by
    cases h : X.f it with
    | none => rfl
    | some o => rw [C.ext hA _ _ h] at hit; cases hit
  have hne : it ≠ m := fun e => by subst e; rw [hXit] at hm; cases hm
  refine loop85 C hold hn hbig hsc (l.length + 1) [] l #[] (X.set it (.mapIter (some m) c #[] c)) _ ρ1 a1 (by omega) (.start l) ?_ (by simpa using C.new hA hit) (Hp.f_set_same _ _) hXit (by rw [Hp.f_set_ne _ (Ne.symm hne)]; exact hm) hne hF ha1
  intro b o hb
  by_cases hbi : b = it
  · subst hbi; rw [hXit] at hb; cases hb
  · rw [Hp.f_set_ne _ hbi]; exact hb
end Go.Qw
-- One value behind a slice whose elements are single cells.
namespace Go.Qw
open Go Go.Conc Go.Proofs

/-- A slice, from its block's beginning. -/
inductive Sl (ety : TypeId) (σ : Hp) (xs : List Value) : Value → Prop
  | nil : xs = [] → Sl ety σ xs (.slice none 0 0)
  | at (a : Nat) (pad : List Value) : σ.f a = some (.cells (xs ++ pad).toArray ety (0, 0)) → Sl ety σ xs (.slice (some ⟨a, 0, none⟩) xs.length (xs.length + pad.length))

section
variable {P : Program} {E : Env P} {ρ : Rho} {ds : List Deferred} {σ τ : Hp} {dst : Option Tmp} {ty : TypeId} {pos : String} {af : Array Edge} {g : Option (Nat × Bool)} {nx : Rho → List Deferred → Hp → Prop} {pn : List PanicEntry → Hp → Prop}
theorem app1 {t u : TypeId} {x y : Operand} (el : ElemOf P t) (hz : el.z = 1) (hb : el.bytes ≤ 16) {z0 : Value} (hzero : el.zero = #[z0]) (hu : notInt P u = true) {xs : List Value} {v0 w : Value} {bn : Nat} (hv : Sl el.e σ xs v0) (hx : evR ρ x = v0) (hy : evR ρ y = .slice (some ⟨bn, 0, none⟩) 1 1)
    (hbn : σ.f bn = some (.cells [w].toArray el.e (0, 0))) (hw : isScalarV w = true) (hlim : xs.length ≤ 1000000)
    (h : ∀ a pad, (σ.f a = none ∨ ∃ c, v0 = .slice (some ⟨a, 0, none⟩) xs.length c) → nx (putR ρ dst (.slice (some ⟨a, 0, none⟩) (xs.length + 1) (xs.length + 1 + pad.length))) ds (σ.set a (.cells (xs ++ [w] ++ pad).toArray el.e (0, 0)))) :
    opQ E ⟨dst, .call ⟨.builtin .append, #[x, y], #[t, u]⟩, ty, pos, af, g⟩ ρ ds σ nx pn := by
  have hn : lenN (evR ρ y) = some 1 := by rw [hy]; rfl
  have hnew : firstC σ el.z 1 (evR ρ y) = some #[w] := by
    rw [hy, hz]
    simp [firstC, cellsOf, hbn]
  have hl2 : ∀ n, n ≤ 1000000 → (2 * (n + 1) + 192) * el.bytes ≤ 2 ^ 48 := by
    intro n hn
    have : (2 * (n + 1) + 192) * el.bytes ≤ (2 * (n + 1) + 192) * 16 := Nat.mul_le_mul_left _ hb
    omega
  cases hv with
  | nil h0 =>
    subst h0
    refine append_intro el (base := none) (l := 0) (c := 0) (n := 1) (old := #[]) (new := #[w]) hu hx hn rfl hnew (hl2 0 (by omega)) (by omega) (fun hc => by omega) ?_
    intro hc b cap hbb hcap
    have := h b (List.replicate (cap - 1) z0) (.inl hbb)
    simp only [List.length_nil, Nat.zero_add, List.length_replicate, List.nil_append] at this
    rw [hzero, zeroCells_one]
    have e1 : 1 + (cap - 1) = cap := by omega
    rw [e1] at this
    have e2 : (#[] ++ #[w] ++ (List.replicate (cap - (0 + 1)) z0).toArray : Array Value) = ([w] ++ List.replicate (cap - 1) z0).toArray := by
      apply Array.ext'; simp
    rw [e2]
    exact this
  | «at» a pad ha =>
    have hold : firstC σ el.z xs.length (.slice (some ⟨a, 0, none⟩) xs.length (xs.length + pad.length)) = some xs.toArray := by
      rw [hz]
      simp only [firstC, cellsOf, ha]
      cases xs with
      | nil => simp
      | cons x xs => simp
    refine append_intro el (base := some ⟨a, 0, none⟩) (l := xs.length) (c := xs.length + pad.length) (n := 1) (old := xs.toArray) (new := #[w]) hu hx hn hold hnew (hl2 _ hlim) (by omega) ?_ ?_
    · intro hc
      have := h a (pad.drop 1) (.inr ⟨_, rfl⟩)
      have e1 : xs.length + 1 + (pad.drop 1).length = xs.length + pad.length := by simp; omega
      rw [e1] at this
      refine ⟨_, ⟨_, _, ha, rfl, by simp [hz] at hc ⊢; omega, by simp [hw], rfl⟩, ?_⟩
      have e2 : ((xs ++ pad).toArray.extract 0 ((⟨a, 0, none⟩ : Addr).off + xs.length * el.z) ++ #[w] ++ (xs ++ pad).toArray.extract ((⟨a, 0, none⟩ : Addr).off + xs.length * el.z + (#[w] : Array Value).size) (xs ++ pad).toArray.size) = (xs ++ [w] ++ pad.drop 1).toArray := by
        apply Array.ext'
        simp [hz, List.drop_append]
        rw [List.drop_eq_nil_of_le (by omega), List.nil_append, List.take_of_length_le (by simp; omega)]
      rw [e2]
      exact this
    · intro hc b cap hbb hcap
      have := h b (List.replicate (cap - (xs.length + 1)) z0) (.inl hbb)
      have e1 : xs.length + 1 + (List.replicate (cap - (xs.length + 1)) z0).length = cap := by simp; omega
      rw [e1] at this
      rw [hzero, zeroCells_one]
      have e2 : (xs.toArray ++ #[w] ++ (List.replicate (cap - (xs.length + 1)) z0).toArray : Array Value) = (xs ++ [w] ++ List.replicate (cap - (xs.length + 1)) z0).toArray := by
        apply Array.ext'; simp
      rw [e2]
      exact this
end
end Go.Qw
