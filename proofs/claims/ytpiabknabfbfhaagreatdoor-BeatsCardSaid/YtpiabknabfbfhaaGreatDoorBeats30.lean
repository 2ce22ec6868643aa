/- The law Beats of queuewire returns true for every three integers: the row over the given program, tied to its text; no condition besides. (Part 30 of 40: QwIter11 QwSort3.) -/
import Derived.Test.YtpiabknabfbfhaaGreatDoorBeats27
import Derived.Test.YtpiabknabfbfhaaGreatDoorBeats28
import Derived.Test.YtpiabknabfbfhaaGreatDoorBeats29
set_option linter.all false
-- What is yielded, put behind one another (printed by iter2.py).
namespace Go.Qw
open Nat renaming reduceLT → yA, reduceLeDiff → yB, reduceBEq → yC, reduceAdd → yD, reduceSub → yE, reduceMul → yF, reduceEqDiff → yG
open Int renaming reduceToNat → wA, reduceLE → wB, reduceLT → wC, reduceEq → wD, reduceAdd → wE, reduceSub → wF, reduceMul → wG, reduceNeg → wH
open Go Go.Conc Go.Proofs

noncomputable def B239 : Code := Tryz.f239.body.getD .skip
noncomputable def h239a : Array Oper := opsC (lftC B239)
noncomputable def h239b : Array Oper := opsC (lftC (lftC (rgtC B239)))
noncomputable def rf239 : Code := innC (rgtC (lftC (rgtC B239)))
noncomputable def t239 : Array Oper := opsC (lftC (rgtC (rgtC B239)))
noncomputable def as239 : Array Oper := opsC (asgC rf239)
noncomputable def bo239 : Array Oper := opsC (innC (bodC rf239))
theorem B239_eq : B239 = .seq (.region 0 h239a false) (.seq (.seq (.region 1 h239b false) (.block 0 (.rangeFunc (.tmp 6) #[7] (.region 2 as239 false) (.block 1 (.region 3 bo239 false))))) (.seq (.region 4 t239 false) .ret)) := by kernel_rfl
def b239 : Frame := { (default : Frame) with fn := 239, kind := .normal }

def e49 : ElemOf Tryz.prog 49 where
  e := 9
  z := 1
  zero := #[.string (B [])]
  bytes := 16
  hu := by kernel_rfl
  hi := ⟨Tryz.t9, .string (B []), by kernel_rfl, by kernel_rfl, by kernel_rfl, rfl, by kernel_rfl⟩

section
variable {E : Env Tryz.prog}
set_option maxRecDepth 100000 in
theorem coll239 {lb bb d : Nat} {T : Array Value} (hT : T.size = 13) (h2 : T.getD 2 undef = .pointer (some ⟨bb, 0, none⟩)) :
    Coll E lb 7 { state := .ready, pending := none, fn := 239, tmps := T, params := #[7], assign := .region 2 as239 false, body := .block 1 (.region 3 bo239 false), defers := d }
      (AppA 9 49 bb lb d { state := .ready, pending := none, fn := 239, tmps := T, params := #[7], assign := .region 2 as239 false, body := .block 1 (.region 3 bo239 false), defers := d }) := by
  refine ⟨rfl, fun h => h.loop, fun h => h.ext, fun h hb => h.new hb, fun h hb => h.upd hb, ?_⟩
  intro X xs σ h v c cs hlt hsv
  rw [round_at]
  obtain ⟨ρ0, ha, r2, r7⟩ : ∃ ρ0 : Rho, Agree 13 ⟨T.setIfInBounds 7 v, []⟩ ρ0 [] ∧ ρ0 2 = .pointer (some ⟨bb, 0, none⟩) ∧ ρ0 7 = v := by
    refine ⟨fun t => (T.setIfInBounds 7 v).getD t undef, ⟨by simp [hT], rfl, fun t => rfl⟩, ?_, ?_⟩
    · show (T.setIfInBounds 7 v).getD 2 undef = _
      rw [Array.getD_eq_getD_getElem?, Array.getElem?_setIfInBounds_ne (by decide), ← Array.getD_eq_getD_getElem?, h2]
    · show (T.setIfInBounds 7 v).getD 7 undef = _
      rw [Array.getD_eq_getD_getElem?, Array.getElem?_setIfInBounds_self_of_lt (by rw [hT]; decide)]; rfl
  refine Runs.ctl (fun w => stepGR_region) rfl rfl ?_
  refine (wpL_R (E := E) (N := 13) (ops := as239) (X := fun ρ ds τ => ds = [] ∧ ρ 2 = .pointer (some ⟨bb, 0, none⟩) ∧ ρ 5 = v ∧ τ = σ) (by simp [roundBase]) (by kernel_rfl) _ ρ0 [] σ _ ?_ ha).bind ?_
  · have hr : List.range as239.size = [0] := by kernel_rfl
    rw [hr]
    simp only [as239, rf239, B239, Tryz.f239, Option.getD_some, rgtC, lftC, innC, opsC, asgC]
    simp only [List.filterMap_cons, List.filterMap_nil, List.getElem?_toArray, List.getElem?_cons_succ, List.getElem?_cons_zero]
    simp only [go_sem, yA, yB, yC, yD, yE, yF, yG, wA, wB, wC, wD, wE, wF, wG, wH, putR, up, onlyN, r2, r7]
  rintro g τ ⟨ρ1, _, a1, ha1, ⟨rfl, h12, h15, rfl⟩, rfl⟩
  refine Runs.step rfl (stepOk_beginRound h.loop rfl) ?_
  rintro g τ' ⟨rfl, rfl⟩
  refine Runs.ctl (fun w => stepGR_block) rfl rfl ?_
  refine Runs.ctl (fun w => stepGR_region) rfl rfl ?_
  obtain ⟨v0, c1, c2, c3⟩ := h.cell
  have nbl : bb ≠ lb := fun e => by subst e; have := h.loop; rw [c1] at this; cases this
  have nbd : bb ≠ d := fun e => by subst e; have := h.dfr; rw [c1] at this; cases this
  have nld : lb ≠ d := fun e => by subst e; have := h.loop; rw [h.dfr] at this; cases this
  generalize hτ1 : τ.set lb _ = τ1
  have c1' : τ1.f bb = some (.cells #[v0] 49 (0, 0)) := by rw [← hτ1, Hp.f_set_ne _ nbl]; exact c1
  have nal : ∀ a n c, v0 = .slice (some a) n c → a.block ≠ lb ∧ a.block ≠ bb ∧ a.block ≠ d ∧ ∃ cc e z, τ.f a.block = some (.cells cc e z) := by
    intro a n c e
    cases c2 with
    | nil => cases e
    | «at» a' pad ha' =>
      cases e
      refine ⟨fun e => ?_, fun e => ?_, fun e => ?_, _, _, _, ha'⟩ <;> (have e' := e; simp only at e'; subst e')
      · rw [h.loop] at ha'; cases ha'
      · rw [c1] at ha'; simp at ha'
      · rw [h.dfr] at ha'; cases ha'
  have c2' : Sl 9 τ1 xs v0 := c2.keep fun a n c e => by rw [← hτ1, Hp.f_set_ne _ (nal a n c e).1]
  refine (wpL_R (E := E) (N := 13) (ops := bo239) (X := fun ρ ds τ' => ds = [] ∧ ∃ τ2, τ2.le τ' ∧ (∃ v', τ2.f bb = some (.cells #[v'] 49 (0, 0)) ∧ Sl 9 τ2 (xs ++ [v]) v' ∧ ∀ a n c, v' = .slice (some a) n c → X.f a.block = none) ∧ (∀ b o, b ≠ bb → (∀ a n c, v0 = .slice (some a) n c → b ≠ a.block) → τ1.f b = some o → τ2.f b = some o)) (by simp [roundBase]) (by kernel_rfl) _ ρ1 [] τ1 _ ?_ ha1).bind ?_
  · have hr : List.range bo239.size = [0, 1, 2, 3, 4] := by kernel_rfl
    rw [hr]
    simp only [bo239, rf239, B239, Tryz.f239, Option.getD_some, rgtC, lftC, innC, opsC, bodC]
    simp only [List.filterMap_cons, List.filterMap_nil, List.getElem?_toArray, List.getElem?_cons_succ, List.getElem?_cons_zero]
    simp only [go_sem, yA, yB, yC, yD, yE, yF, yG, wA, wB, wC, wD, wE, wF, wG, wH, putR, up, onlyN, h12, h15, c1']
    have hvm : Value.cells v = #[v] := cells_scalar hsv
    unfold Value.cells at hvm
    simp only [hvm]
    simp only [go_sem, yA, yB, yC, yD, yE, yF, yG, wA, wB, wC, wD, wE, wF, wG, wH, putR, up, onlyN, h12, h15, c1']
    refine fun bn hbn => ?_
    have nbn : bb ≠ bn := fun e => by subst e; rw [c1'] at hbn; cases hbn
    have c1n : ∀ o, (τ1.set bn o).f bb = some (.cells #[v0] 49 (0, 0)) := fun o => by rw [Hp.f_set_ne _ nbn]; exact c1'
    have c2n : ∀ o, Sl 9 (τ1.set bn o) xs v0 := fun o => c2'.keep fun a n c e => by
      refine Hp.f_set_ne _ fun e2 => ?_
      have := nal a n c e
      obtain ⟨m1, m2, m3, cc, ee, z, m4⟩ := this
      have m5 : τ1.f a.block = τ.f a.block := by rw [← hτ1]; exact Hp.f_set_ne _ m1
      rw [m4, e2, hbn] at m5; cases m5
    simp only [go_sem, yA, yB, yC, yD, yE, yF, yG, wA, wB, wC, wD, wE, wF, wG, wH, putR, up, onlyN, h12, h15, c1n]
    refine app1 e49 rfl (by decide) rfl (by kernel_rfl) (c2n _) rfl rfl (Hp.f_set_same _ _) hsv (by omega) ?_
    intro a pad hor
    have hab : a ≠ bb := by
      rcases hor with hor | ⟨c, e⟩
      · intro e; subst e; rw [c1n] at hor; cases hor
      · exact (nal _ _ _ e).2.1
    have hXa : X.f a = none := by
      rcases hor with hor | ⟨c, e⟩
      · cases hx : X.f a with
        | none => rfl
        | some o =>
          have h1 := h.ext _ _ hx
          have h2 : a ≠ lb := fun e => by subst e; rw [h.nl] at hx; cases hx
          have h3 : a ≠ bn := fun e => by
            subst e
            rw [← hτ1, Hp.f_set_ne _ h2] at hbn
            rw [hbn] at h1; cases h1
          rw [Hp.f_set_ne _ h3, ← hτ1, Hp.f_set_ne _ h2, h1] at hor; cases hor
      · exact c3 _ _ _ e
    have hkeep : ∀ b o, b ≠ bb → (∀ a n c, v0 = .slice (some a) n c → b ≠ a.block) → τ1.f b = some o → b ≠ a ∧ b ≠ bn := by
      intro b o h1 h2 h3
      have hn : b ≠ bn := fun e => by subst e; rw [hbn] at h3; cases h3
      refine ⟨fun e => ?_, hn⟩
      subst e
      rcases hor with hor | ⟨c, e⟩
      · rw [Hp.f_set_ne _ hn, h3] at hor; cases hor
      · exact h2 _ _ _ e rfl
    have c1m : ∀ o o', ((τ1.set bn o).set a o').f bb = some (.cells #[v0] 49 (0, 0)) := fun o o' => by rw [Hp.f_set_ne _ hab.symm]; exact c1n o
    simp only [go_sem, yA, yB, yC, yD, yE, yF, yG, wA, wB, wC, wD, wE, wF, wG, wH, putR, up, onlyN, h12, h15, c1m]
    refine ⟨_, Hp.le_refl _, ⟨_, Hp.f_set_same _ _, ?_, ?_⟩, ?_⟩
    · have := Sl.at (ety := 9) (σ := (((τ1.set bn (.cells [v].toArray 9 (0, 0))).set a (.cells (xs ++ [v] ++ pad).toArray 9 (0, 0))).set bb (.cells #[.slice (some ⟨a, 0, none⟩) (xs.length + 1) (xs.length + 1 + pad.length)] 49 (0, 0)))) (xs := xs ++ [v]) a pad (by rw [Hp.f_set_ne _ hab]; exact Hp.f_set_same _ _)
      have he : e49.e = 9 := rfl
      rw [he]
      simpa using this
    · intro a' n c e
      cases e
      exact hXa
    · intro b o h1 h2 h3
      obtain ⟨k1, k2⟩ := hkeep b o h1 h2 h3
      rw [Hp.f_set_ne _ h1, Hp.f_set_ne _ k1, Hp.f_set_ne _ k2]
      exact h3
  rintro g τ' ⟨ρ2, _, a2, ha2, ⟨rfl, τ2, hle, hcell, hrest⟩, rfl⟩
  refine Runs.weak (τ := τ2) ?_ hle
  refine Runs.ctl (fun w => stepGR_inBlock) rfl rfl ?_
  have hlb2 : τ2.f lb = _ := hrest lb _ (Ne.symm nbl) (fun a n c e => (nal a n c e).1.symm) (by rw [← hτ1]; exact Hp.f_set_same _ _)
  have ed : a2.defers = [] := ha2.defers
  obtain ⟨tm2, d2⟩ := a2
  subst ed
  refine Runs.step rfl (stepOk_endRound hlb2) ?_
  rintro g τ5 ⟨rfl, rfl⟩
  refine Runs.here ⟨rfl, ?_⟩
  obtain ⟨v', e1, e2, e3⟩ := hcell
  have hk : ∀ b o, X.f b = some o → τ2.f b = some o := by
    intro b o hb
    obtain ⟨n1, n2, n3⟩ := h.apart hb
    refine hrest b o n1 (fun a n c e e2 => by have := c3 a n c e; rw [← e2, hb] at this; cases this) ?_
    rw [← hτ1, Hp.f_set_ne _ n2]
    exact h.ext _ _ hb
  refine ⟨?_, h.nb, h.nl, h.nd, Hp.f_set_same _ _, ?_, v', ?_, ?_, e3⟩
  · intro b o hb
    rw [Hp.f_set_ne _ (h.apart hb).2.1]
    exact hk b o hb
  · rw [Hp.f_set_ne _ nld.symm]
    refine hrest d _ nbd.symm (fun a n c e => (nal a n c e).2.2.1.symm) ?_
    rw [← hτ1, Hp.f_set_ne _ nld.symm]
    exact h.dfr
  · rw [Hp.f_set_ne _ nbl]; exact e1
  · refine e2.keep fun a n c e => Hp.f_set_ne _ fun e5 => ?_
    subst e
    cases e2 with
    | «at» a' pad ha' =>
      have e6 : a' = lb := e5
      subst e6
      rw [hlb2] at ha'; cases ha'

set_option maxRecDepth 100000 in
/-- AppendSeq: all that a map's range yields, each once. -/
theorem appendSeq239 {f : FuncId} {α : Type} {pick : α × Value × Nat → Value} {key : α → Value} {tc : TypeId} (hY : Yields f pick key tc) (hg : isGo Tryz.prog f = true) {σ : Hp} {bm m c : Nat} {l : List (α × Value × Nat)}
    (hbm : σ.f bm = some (.cells #[.map (some m)] tc (0, 0))) (hm : σ.f m = some (kmap key l c)) (hold : ∀ e ∈ l, e.2.2 < c) (hn : (l.map (·.2.2)).Nodup) (hbig : l.length ≤ 1000000) (hsc : ∀ e ∈ l, isScalarV (pick e) = true) :
    CallsE E 239 #[.slice none 0 0, .func (.func f) #[] #[.pointer (some ⟨bm, 0, none⟩)]] σ fun e τ => σ.le τ ∧ ∃ v ks, e = .returned v ∧ ks.Perm (l.map pick) ∧ Sl 9 τ ks v ∧ ∀ a n c, v = .slice (some a) n c → σ.f a.block = none := by
  intro cs
  have henter : Frame.enter Tryz.prog 239 #[.slice none 0 0, .func (.func f) #[] #[.pointer (some ⟨bm, 0, none⟩)]] .normal = b239.at { tmps := #[.slice none 0 0, .func (.func f) #[] #[.pointer (some ⟨bm, 0, none⟩)]] ++ Array.replicate 11 undef, defers := [] } [.code B239] := by
    simp [Frame.enter, Frame.at, Tryz.func239, b239, Tryz.f239, B239]
  rw [henter, B239_eq]
  have ha := agree_start #[.slice none 0 0, .func (.func f) #[] #[.pointer (some ⟨bm, 0, none⟩)]] 13 (by simp)
  refine Runs.ctl (fun w => stepG_seq) rfl rfl ?_
  refine (runs_code (E := E) (N := 13) (X := fun ρ ds τ => ds = [] ∧ ∃ bb, ρ 2 = .pointer (some ⟨bb, 0, none⟩) ∧ ρ 1 = .func (.func f) #[] #[.pointer (some ⟨bm, 0, none⟩)] ∧ σ.f bb = none ∧ τ = σ.set bb (.cells #[.slice none 0 0] 49 (0, 0))) ?_ (by simp [b239]) ha).bind ?_
  · simp only [h239a, B239, Tryz.f239, Option.getD_some, rgtC, lftC, innC, opsC]
    simp only [go_sem, yA, yB, yC, yD, yE, yF, yG, wA, wB, wC, wD, wE, wF, wG, wH, putR, up]
    refine fun bb hbb => ?_
    simp only [go_sem, yA, yB, yC, yD, yE, yF, yG, wA, wB, wC, wD, wE, wF, wG, wH, putR, up]
    exact ⟨rfl, bb, by simp [up], by simp [up, startR], hbb, rfl⟩
  rintro g τ ⟨ρ1, _, a1, ha1, ⟨rfl, bb, h2, h1, hbb, rfl⟩, rfl⟩
  generalize hτ : σ.set bb (.cells #[.slice none 0 0] 49 (0, 0)) = τ
  have hbbτ : τ.f bb = some (.cells #[.slice none 0 0] 49 (0, 0)) := by rw [← hτ]; exact Hp.f_set_same _ _
  have hστ : ∀ b o, σ.f b = some o → b ≠ bb ∧ τ.f b = some o := by
    intro b o hb
    have : b ≠ bb := fun e => by subst e; rw [hbb] at hb; cases hb
    exact ⟨this, by rw [← hτ, Hp.f_set_ne _ this]; exact hb⟩
  refine Runs.ctl (fun w => stepG_seq) rfl rfl ?_
  refine Runs.ctl (fun w => stepG_seq) rfl rfl ?_
  refine (runs_code (E := E) (N := 13) (X := fun ρ ds τ' => ds = [] ∧ ρ 2 = .pointer (some ⟨bb, 0, none⟩) ∧ ρ 6 = .func (.func f) #[] #[.pointer (some ⟨bm, 0, none⟩)] ∧ τ' = τ) ?_ (by simp [b239]) ha1).bind ?_
  · simp only [h239b, B239, Tryz.f239, Option.getD_some, rgtC, lftC, innC, opsC]
    simp only [go_sem, yA, yB, yC, yD, yE, yF, yG, wA, wB, wC, wD, wE, wF, wG, wH, putR, up]
    exact ⟨rfl, by simp [up, h2], by simp [up, h1], rfl⟩
  rintro g τ' ⟨ρ2, _, a2, ha2, ⟨rfl, h2, h6, rfl⟩, rfl⟩
  refine Runs.ctl (fun w => stepG_block) rfl rfl ?_
  refine Runs.step rfl (stepOk_rangeFunc (fid := f) (cap := #[.pointer (some ⟨bm, 0, none⟩)]) (by rw [ha2.eval]; exact h6) hg rfl) ?_
  rintro g τ4 ⟨d, lb, hd, hne, hlb, hτ4, rfl⟩
  have hT : a2.tmps.size = 13 := ha2.size
  have hT2 : a2.tmps.getD 2 undef = .pointer (some ⟨bb, 0, none⟩) := by rw [ha2.tmps]; exact h2
  have C := coll239 (E := E) (lb := lb) (d := d) hT hT2
  have nlb : lb ≠ bb := fun e => by subst e; rw [hbbτ] at hlb; cases hlb
  have ndb : d ≠ bb := fun e => by subst e; rw [hbbτ] at hd; cases hd
  have hσ4 : ∀ b o, σ.f b = some o → τ4.f b = some o := by
    intro b o hb
    obtain ⟨k1, k2⟩ := hστ b o hb
    have k3 : b ≠ d := fun e => by subst e; rw [k2] at hd; cases hd
    have k4 : b ≠ lb := fun e => by subst e; rw [k2] at hlb; cases hlb
    rw [hτ4, Hp.f_set_ne _ k4, Hp.f_set_ne _ k3]; exact k2
  have hnone : ∀ b, τ'.f b = none → σ.f b = none := by
    intro b hb
    cases hs : σ.f b with
    | none => rfl
    | some o => rw [(hστ b o hs).2] at hb; cases hb
  have hA0 : AppA 9 49 bb lb d { state := .ready, pending := none, fn := 239, tmps := a2.tmps, params := #[7], assign := .region 2 as239 false, body := .block 1 (.region 3 bo239 false), defers := d } σ [] τ4 := by
    refine ⟨hσ4, hbb, hnone _ hlb, hnone _ hd, ?_, ?_, .slice none 0 0, ?_, .nil rfl, fun a n c e => by cases e⟩
    · rw [hτ4]; exact Hp.f_set_same _ _
    · rw [hτ4, Hp.f_set_ne _ hne.symm]; exact Hp.f_set_same _ _
    · rw [hτ4, Hp.f_set_ne _ nlb.symm, Hp.f_set_ne _ ndb.symm]; exact hbbτ
  have hcall := hY C hA0 hbm hm hold hn (by simpa using hbig) hsc
  have eargs : (#[.func (.yield lb) #[] #[]] ++ #[.pointer (some ⟨bm, 0, none⟩)] : Array Value) = #[.func (.yield lb) #[] #[], .pointer (some ⟨bm, 0, none⟩)] := rfl
  rw [eargs]
  refine CallsE.run hcall ?_ ?_
  · rintro v τ5 ⟨hv, X', ks, hp, hX', hA⟩
    rw [List.nil_append] at hA
    have hfin : (b239.at { a2 with defers := { target := .collected d, args := #[] } :: a2.defers } (.inRangeFunc lb :: .inBlock 0 :: .code ((Code.region 4 t239 false).seq Code.ret) :: [])).finish v = b239.at { a2 with defers := { target := .collected d, args := #[] } :: a2.defers } (.endRangeFunc lb :: .inBlock 0 :: .code ((Code.region 4 t239 false).seq Code.ret) :: []) := rfl
    rw [hfin]
    refine Runs.step rfl (stepOk_endRangeFunc hA.loop rfl rfl) ?_
    rintro g τ6 ⟨rfl, rfl⟩
    refine Runs.ctl (fun w => stepG_inBlock) rfl rfl ?_
    refine Runs.ctl (fun w => stepG_seq) rfl rfl ?_
    obtain ⟨v', c1, c2, c3⟩ := hA.cell
    have hbd : bb ≠ d := ndb.symm
    have nal : ∀ a n c, v' = .slice (some a) n c → a.block ≠ lb ∧ a.block ≠ d := by
      intro a n c e
      cases c2 with
      | nil => cases e
      | «at» a' pad ha' =>
        cases e
        refine ⟨fun e => ?_, fun e => ?_⟩ <;> (have e' := e; simp only at e'; subst e')
        · rw [hA.loop] at ha'; cases ha'
        · rw [hA.dfr] at ha'; cases ha'
    have c2' := c2
    generalize hτ7 : τ5.set lb _ = τ7
    have hd7 : τ7.f d = some (.deferred (some [])) := by rw [← hτ7, Hp.f_set_ne _ hne.symm]; exact hA.dfr
    have hb7 : τ7.f bb = some (.cells #[v'] 49 (0, 0)) := by rw [← hτ7, Hp.f_set_ne _ nlb.symm]; exact c1
    have hs7 : Sl 9 τ7 ks v' := c2.keep fun a n c e => by rw [← hτ7, Hp.f_set_ne _ (nal a n c e).1]
    have hσ7 : σ.le τ7 := by
      intro b o hb
      have h1 := hX' b o hb
      rw [← hτ7, Hp.f_set_ne _ (hA.apart h1).2.1]
      exact hA.ext _ _ h1
    have ha7 : Agree 13 { a2 with defers := { target := .collected d, args := #[] } :: a2.defers } ρ2 [{ target := .collected d, args := #[] }] := ha2.defer _
    refine (runs_code (E := E) (N := 13) (X := fun ρ ds τ' => ds = [{ target := .collected d, args := #[] }] ∧ ρ 4 = v' ∧ τ' = τ7) ?_ (by simp [b239]) ha7).bind ?_
    · simp only [t239, B239, Tryz.f239, Option.getD_some, rgtC, lftC, innC, opsC]
      simp only [go_sem, yA, yB, yC, yD, yE, yF, yG, wA, wB, wC, wD, wE, wF, wG, wH, putR, up, h2, hb7]
      exact ⟨rfl, by simp [up], rfl⟩
    rintro g τ' ⟨ρ8, _, a8, ha8, ⟨rfl, h4, rfl⟩, rfl⟩
    refine Runs.ctl (g' := G { b239.at a8 [.code .ret] with mode := .returning } cs) (fun w => ?_) rfl rfl ?_
    · simp [G, stepG, stepG.exec, Frame.at]
    refine Runs.step rfl (stepOk_mark (d := d) hd7 rfl ha8.defers) ?_
    rintro g τ9 ⟨rfl, rfl⟩
    have nX : ∀ b o, σ.f b = some o → b ≠ d := fun b o hb e => by subst e; have := hnone _ hd; rw [this] at hb; cases hb
    refine Runs.here ⟨.returned v', _, rfl, rfl, ⟨rfl, rfl, rfl, Tryz.f239, Tryz.func239, ?_⟩, ?_, v', ks, rfl, hp, ?_, ?_⟩
    · show wpS _ (results Tryz.f239 a8.tmps) _ _ _
      rw [results_eq (fn := Tryz.f239) ha8]
      simp [resultsR, Tryz.f239, wpS_pure', h4]
    · intro b o hb
      rw [Hp.f_set_ne _ (nX b o hb)]; exact hσ7 b o hb
    · exact hs7.keep fun a n c e => Hp.f_set_ne _ (nal a n c e).2
    · intro a n c e
      cases hs : σ.f a.block with
      | none => rfl
      | some o => have := hX' _ _ hs; rw [c3 a n c e] at this; cases this
  · rintro ch τ5 ⟨hv, _⟩
    cases hv
end
end Go.Qw
-- Sorted keys of a map, texts (printed by sort.py out of the texts for whole numbers, but for the order).
namespace Go.Qw
open Nat renaming reduceLT → yA, reduceLeDiff → yB, reduceBEq → yC, reduceAdd → yD, reduceSub → yE, reduceMul → yF, reduceEqDiff → yG
open Int renaming reduceToNat → wA, reduceLE → wB, reduceLT → wC, reduceEq → wD, reduceAdd → wE, reduceSub → wF, reduceMul → wG, reduceNeg → wH
open Go Go.Conc Go.Proofs

abbrev ltS (a b : List UInt8) : Bool := Op.bytesLess a b
theorem lt_u8 {a b : UInt8} : a < b ↔ a.toNat < b.toNat := UInt8.lt_iff_toNat_lt
theorem linS : LinLt ltS := by
  have cc : ∀ (x y : UInt8) (a b : List UInt8), ltS (x :: a) (y :: b) = (decide (x < y) || (x == y && ltS a b)) := fun _ _ _ _ => rfl
  have cn : ∀ a, ltS a [] = false := fun a => by cases a <;> rfl
  have nc : ∀ y b, ltS [] (y :: b) = true := fun _ _ => rfl
  refine ⟨?_, ?_⟩
  · intro a b c
    induction b generalizing a c with
    | nil =>
      intro h1 _
      cases a with
      | nil => exact cn c
      | cons x a => rw [nc] at h1; cases h1
    | cons y b ih =>
      intro h1 h2
      cases a with
      | nil => exact cn c
      | cons x a =>
        cases c with
        | nil => rw [nc] at h2; cases h2
        | cons z c =>
          rw [cc] at *
          simp only [Bool.or_eq_false_iff, decide_eq_false_iff_not, Bool.and_eq_false_iff, beq_eq_false_iff_ne, ne_eq, lt_u8] at *
          obtain ⟨p1, p2⟩ := h1
          obtain ⟨q1, q2⟩ := h2
          refine ⟨by omega, ?_⟩
          by_cases e : z = x
          · right
            subst e
            have e2 : z = y := UInt8.toNat_inj.1 (by omega)
            subst e2
            exact ih (p2.resolve_left (by simp)) (q2.resolve_left (by simp))
          · exact .inl e
  · intro a
    induction a with
    | nil => intro b h; exact cn b
    | cons x a ih =>
      intro b h
      cases b with
      | nil => rw [cn] at h; cases h
      | cons y b =>
        rw [cc] at *
        simp only [Bool.or_eq_false_iff, Bool.or_eq_true, Bool.and_eq_true, decide_eq_true_eq, decide_eq_false_iff_not, Bool.and_eq_false_iff, beq_iff_eq, beq_eq_false_iff_ne, ne_eq, lt_u8] at *
        rcases h with h | ⟨rfl, h⟩
        · exact ⟨by omega, .inl (fun e => by subst e; omega)⟩
        · exact ⟨by omega, .inr (ih h)⟩

section
variable {E : Env Tryz.prog} {σ : Hp}
set_option maxRecDepth 100000 in
theorem isort256 {xs : List (List UInt8)} {blk cap : Nat} {pad : List Value} (hb : σ.f blk = some (.cells (xs.map keyS ++ pad).toArray 9 (0, 0))) (hn : xs.length ≤ 1000000) :
    CallsE E 256 #[.slice (some ⟨blk, 0, none⟩) xs.length cap, .int .i64 0, .int .i64 xs.length] σ fun e τ => e = .returned (.tuple #[]) ∧ ∃ ys, ys.Perm xs ∧ Srt ltS ys ∧ τ = σ.set blk (.cells (ys.map keyS ++ pad).toArray 9 (0, 0)) := by
  refine calls_enter Tryz.func256 Tryz.ntmps256 Tryz.results256 rfl (by simp) fun Q hQn hQr hQp => ?_
  simp only [go_sem, yA, yB, yC, yD, yE, yF, yG, wA, wB, wC, wD, wE, wF, wG, wH]
  refine wpC_loop (fun m ρ ds σ' => ds = [] ∧ ρ 0 = .slice (some ⟨blk, 0, none⟩) xs.length cap ∧ ρ 1 = .int .i64 0 ∧ ρ 2 = .int .i64 xs.length ∧ ∃ S R, m = R.length ∧ (S ++ R).Perm xs ∧ Srt ltS S ∧ (ρ 6 = .int .i64 S.length ∨ (xs = [] ∧ S = [] ∧ ρ 6 = .int .i64 1)) ∧ σ' = σ.set blk (.cells ((S ++ R).map keyS ++ pad).toArray 9 (0, 0))) (xs.length - 1) ?_ ?_
  · refine ⟨rfl, ?_, ?_, ?_, xs.take 1, xs.drop 1, by simp, by rw [List.take_append_drop], ?_, ?_, ?_⟩
    · simp only [go_sem, yA, yB, yC, yD, yE, yF, yG, wA, wB, wC, wD, wE, wF, wG, wH]
    · simp only [go_sem, yA, yB, yC, yD, yE, yF, yG, wA, wB, wC, wD, wE, wF, wG, wH]
    · simp only [go_sem, yA, yB, yC, yD, yE, yF, yG, wA, wB, wC, wD, wE, wF, wG, wH]
    · cases xs <;> simp [Srt]
    · cases xs with
      | nil => exact .inr ⟨rfl, rfl, by simp only [go_sem, yA, yB, yC, yD, yE, yF, yG, wA, wB, wC, wD, wE, wF, wG, wH]; rfl⟩
      | cons x xs => refine .inl ?_; simp only [go_sem, yA, yB, yC, yD, yE, yF, yG, wA, wB, wC, wD, wE, wF, wG, wH]; rfl
    · rw [List.take_append_drop, Hp.set_id hb]
  · rintro m ρ ds σ' X ⟨rfl, h0, h1, h2, S, R, rfl, hp, hs, h6, rfl⟩ hX
    have hlen := hp.length_eq
    rw [List.length_append] at hlen
    cases R with
    | nil =>
      have c1 : ∀ i : Int, (i = S.length ∨ (xs = [] ∧ i = 1)) → ¬ i < (xs.length : Int) := by
        rintro i (rfl | ⟨rfl, rfl⟩)
        · simp at hlen; omega
        · simp
      obtain ⟨i, hi, h6'⟩ : ∃ i : Int, (i = S.length ∨ (xs = [] ∧ i = 1)) ∧ ρ 6 = .int .i64 i := by
        rcases h6 with h6 | ⟨h, _, h6⟩
        · exact ⟨_, .inl rfl, h6⟩
        · exact ⟨_, .inr ⟨h, rfl⟩, h6⟩
      have c1 := c1 i hi
      simp only [go_sem, yA, yB, yC, yD, yE, yF, yG, wA, wB, wC, wD, wE, wF, wG, wH, h0, h1, h2, h6', c1]
      exact hQn _ _ _ _ resIs_none (Hp.le_refl _) ⟨rfl, S, by simpa using hp, hs, by simp⟩
    | cons x R =>
      have h6' : ρ 6 = .int .i64 S.length := by
        rcases h6 with h6 | ⟨h6, _⟩
        · exact h6
        · subst h6; simp at hlen
      have c1 : (S.length : Int) < xs.length := by simp at hlen; omega
      simp only [go_sem, yA, yB, yC, yD, yE, yF, yG, wA, wB, wC, wD, wE, wF, wG, wH, h0, h1, h2, h6', c1]
      refine wpC_loop (fun m ρ ds σ' => ds = [] ∧ ρ 0 = .slice (some ⟨blk, 0, none⟩) xs.length cap ∧ ρ 1 = .int .i64 0 ∧ ρ 2 = .int .i64 xs.length ∧ ρ 6 = .int .i64 S.length ∧ ∃ A B, m = A.length ∧ A.length + B.length = S.length ∧ (A ++ x :: B ++ R).Perm xs ∧ Down ltS A x B ∧ ρ 7 = .int .i64 A.length ∧ σ' = σ.set blk (.cells ((A ++ x :: B ++ R).map keyS ++ pad).toArray 9 (0, 0))) S.length ?_ ?_
      · refine ⟨rfl, ?_, ?_, ?_, ?_, S, [], rfl, by simp, by simpa using hp, .start hs, ?_, by simp⟩ <;> simp only [go_sem, yA, yB, yC, yD, yE, yF, yG, wA, wB, wC, wD, wE, wF, wG, wH, h0, h1, h2, h6']
      · rintro m ρ ds σ' X' ⟨rfl, h0, h1, h2, h6, A, B, rfl, hAB, hp, hd, h7, rfl⟩ hX'
        have gx : ((A ++ x :: B ++ R).map keyS ++ pad)[A.length]? = some (keyS x) := by simp
        rcases List.eq_nil_or_concat A with rfl | ⟨A, y, rfl⟩
        · have c2 : ¬ ((([] : List (List UInt8)).length : Int) > 0) := by simp
          simp only [List.length_nil] at h7 c2
          simp only [go_sem, yA, yB, yC, yD, yE, yF, yG, wA, wB, wC, wD, wE, wF, wG, wH]
          refine wpC_draw [0, 1, 2, 3, 4, 5, 6, 7, 8, 9, 10, 11, 12, 13, 14] (fun _ _ _ => False) (by kernel_rfl) (by decide +kernel) (fun _ _ _ _ h => h.elim) ?_
          simp only [go_sem, yA, yB, yC, yD, yE, yF, yG, wA, wB, wC, wD, wE, wF, wG, wH, h0, h1, h2, h6, h7, c2]
          have hs' := hd.done0
          refine hX R.length _ _ _ _ (by simp) ⟨rfl, ?_, ?_, ?_, x :: B, R, rfl, by simpa using hp, hs', .inl ?_, by simp⟩ (Hp.le_refl _)
          · simp only [go_sem, yA, yB, yC, yD, yE, yF, yG, wA, wB, wC, wD, wE, wF, wG, wH, h0]
          · simp only [go_sem, yA, yB, yC, yD, yE, yF, yG, wA, wB, wC, wD, wE, wF, wG, wH, h1]
          · simp only [go_sem, yA, yB, yC, yD, yE, yF, yG, wA, wB, wC, wD, wE, wF, wG, wH, h2]
          · simp only [go_sem, yA, yB, yC, yD, yE, yF, yG, wA, wB, wC, wD, wE, wF, wG, wH]
            rw [wrap64 (by omega) (by omega)]
            simp at hAB
            simp [hAB]
        · simp only [List.concat_eq_append] at *
          have gx : ((A ++ [y] ++ x :: B ++ R).map keyS ++ pad)[(A ++ [y]).length]? = some (keyS x) := by simp [List.getElem?_append_right]
          have gy : ((A ++ [y] ++ x :: B ++ R).map keyS ++ pad)[A.length]? = some (keyS y) := by simp [List.getElem?_append_right]
          have c2 : (((A ++ [y]).length : Nat) : Int) > 0 := by simp
          have c3 : (0 : Int) ≤ (((A ++ [y]).length : Nat) : Int) ∧ (((A ++ [y]).length : Nat) : Int) < (xs.length : Int) := by
            have := hp.length_eq
            simp at this ⊢; omega
          have c4 : (0 : Int) ≤ (((A ++ [y]).length : Nat) : Int) - 1 ∧ (((A ++ [y]).length : Nat) : Int) - 1 < (xs.length : Int) := by
            have := hp.length_eq
            simp at this ⊢; omega
          have c5 : IntKind.i64.wrap ((((A ++ [y]).length : Nat) : Int) - 1) = (A.length : Int) := by
            rw [wrap64 (by simp) (by simp at c3 ⊢; omega)]; simp
          have c6 : (0 : Int) ≤ (A.length : Int) ∧ (A.length : Int) < (xs.length : Int) := by simp at c4 ⊢; omega
          generalize hL : (A ++ [y] ++ x :: B ++ R).map keyS ++ pad = L at gx gy
          generalize hj : (A ++ [y]).length = j at *
          have f1 : (σ.set blk (.cells L.toArray 9 (0, 0))).f blk = some (.cells L.toArray 9 (0, 0)) := Hp.f_set_same _ _
          simp only [go_sem, yA, yB, yC, yD, yE, yF, yG, wA, wB, wC, wD, wE, wF, wG, wH]
          refine wpC_draw [0, 1, 2, 3, 4, 5, 6, 7, 8, 9, 10, 11, 12, 13, 14] (fun _ _ _ => False) (by kernel_rfl) (by decide +kernel) (fun _ _ _ _ h => h.elim) ?_
          simp only [go_sem, yA, yB, yC, yD, yE, yF, yG, wA, wB, wC, wD, wE, wF, wG, wH, h0, h1, h2, h6, h7, c2, c3, c5, c6, f1, gx, gy]
          refine call_ret go_262 less262_c ?_
          refine ⟨by (repeat (first | exact keeps_nil | (apply keeps_cons; (focus decide +kernel)))), ?_⟩
          cases hl : Op.bytesLess x y with
          | false =>
            simp only [go_sem, yA, yB, yC, yD, yE, yF, yG, wA, wB, wC, wD, wE, wF, wG, wH, h0, h1, h2, h6, h7, hl]
            have hs' := hd.done1 linS (show ltS x y = false from hl)
            refine hX R.length _ _ _ _ (by simp) ⟨rfl, ?_, ?_, ?_, A ++ [y] ++ x :: B, R, rfl, by simpa using hp, hs', .inl ?_, by rw [hL]⟩ (Hp.le_refl _)
            · simp only [go_sem, yA, yB, yC, yD, yE, yF, yG, wA, wB, wC, wD, wE, wF, wG, wH, h0]
            · simp only [go_sem, yA, yB, yC, yD, yE, yF, yG, wA, wB, wC, wD, wE, wF, wG, wH, h1]
            · simp only [go_sem, yA, yB, yC, yD, yE, yF, yG, wA, wB, wC, wD, wE, wF, wG, wH, h2]
            · simp only [go_sem, yA, yB, yC, yD, yE, yF, yG, wA, wB, wC, wD, wE, wF, wG, wH]
              have e1 : (A ++ [y] ++ x :: B).length = S.length + 1 := by simp at hj hAB ⊢; omega
              rw [e1, wrap64 (by omega) (by omega)]
              rfl
          | true =>
            simp only [go_sem, yA, yB, yC, yD, yE, yF, yG, wA, wB, wC, wD, wE, wF, wG, wH, h0, h1, h2, h6, h7, hl]
            refine wpC_draw [0, 1, 2, 3, 4, 5, 6, 7, 8, 9, 10, 11, 12, 13, 14, 15, 16, 17] (fun _ _ _ => False) (by kernel_rfl) (by decide +kernel) (fun _ _ _ _ h => h.elim) ?_
            have sk : ∀ x, isScalarV (keyS x) = true := fun _ => rfl
            have fS : ∀ o, (σ.set blk o).f blk = some o := fun _ => Hp.f_set_same _ _
            have lj : j < L.length := (List.getElem?_eq_some_iff.1 gx).1
            have lA : A.length < L.length := (List.getElem?_eq_some_iff.1 gy).1
            have lA' : A.length < (L.set j (keyS y)).length := by simpa using lA
            simp only [go_sem, yA, yB, yC, yD, yE, yF, yG, wA, wB, wC, wD, wE, wF, wG, wH, h0, h1, h2, h6, h7, c2, c3, c5, c6, fS, gx, gy, sk, lj]
            refine ⟨by (repeat (first | exact keeps_nil | (apply keeps_cons; (focus decide +kernel)))), ?_⟩
            simp only [go_sem, yA, yB, yC, yD, yE, yF, yG, wA, wB, wC, wD, wE, wF, wG, wH, h0, h1, h2, h6, h7, c2, c3, c5, c6, fS, gx, gy, sk, lj, lA']
            refine ⟨lA, ?_⟩
            refine ⟨by (repeat (first | exact keeps_nil | (apply keeps_cons; (focus decide +kernel)))), ?_⟩
            simp only [go_sem, yA, yB, yC, yD, yE, yF, yG, wA, wB, wC, wD, wE, wF, wG, wH, h0, h1, h2, h6, h7, c2, c3, c5, c6, fS, gx, gy, sk, lj, lA']
            have e1 : (L.set j (keyS y)).set A.length (keyS x) = (A ++ x :: (y :: B) ++ R).map keyS ++ pad := by
              rw [← hL, ← hj]
              simp [List.set_append]
            rw [e1]
            refine hX' A.length _ _ _ _ (by rw [← hj]; simp) ⟨rfl, ?_, ?_, ?_, ?_, A, y :: B, rfl, by rw [← hj] at hAB; simp at hAB ⊢; omega, ?_, hd.step linS hl, ?_, rfl⟩ (Hp.le_refl _)
            · simp only [go_sem, yA, yB, yC, yD, yE, yF, yG, wA, wB, wC, wD, wE, wF, wG, wH, h0]
            · simp only [go_sem, yA, yB, yC, yD, yE, yF, yG, wA, wB, wC, wD, wE, wF, wG, wH, h1]
            · simp only [go_sem, yA, yB, yC, yD, yE, yF, yG, wA, wB, wC, wD, wE, wF, wG, wH, h2]
            · simp only [go_sem, yA, yB, yC, yD, yE, yF, yG, wA, wB, wC, wD, wE, wF, wG, wH, h6]
            · refine List.Perm.trans ?_ hp
              simp only [List.append_assoc, List.cons_append, List.singleton_append, List.nil_append]
              exact List.Perm.append_left _ (List.Perm.swap ..)
            · simp only [go_sem, yA, yB, yC, yD, yE, yF, yG, wA, wB, wC, wD, wE, wF, wG, wH, c5]
set_option maxRecDepth 100000 in
theorem isort256_nil : CallsE E 256 #[.slice none 0 0, .int .i64 0, .int .i64 0] σ fun e τ => e = .returned (.tuple #[]) ∧ τ = σ := by
  refine calls_enter Tryz.func256 Tryz.ntmps256 Tryz.results256 rfl (by simp) fun Q hQn hQr hQp => ?_
  simp only [go_sem, yA, yB, yC, yD, yE, yF, yG, wA, wB, wC, wD, wE, wF, wG, wH]
  refine wpC_loop (fun m ρ ds σ' => ds = [] ∧ ρ 2 = .int .i64 0 ∧ ρ 6 = .int .i64 1 ∧ σ' = σ) 0 ?_ ?_
  · refine ⟨rfl, ?_, ?_, rfl⟩ <;> simp only [go_sem, yA, yB, yC, yD, yE, yF, yG, wA, wB, wC, wD, wE, wF, wG, wH] <;> rfl
  · rintro m ρ ds σ' X ⟨rfl, h2, h6, rfl⟩ hX
    have c : ¬ (1 : Int) < 0 := by decide
    simp only [go_sem, yA, yB, yC, yD, yE, yF, yG, wA, wB, wC, wD, wE, wF, wG, wH, h2, h6, c]
    exact hQn _ _ _ _ resIs_none (Hp.le_refl _) ⟨rfl, rfl⟩

theorem isort256_c {xs : List (List UInt8)} {v : Value} (h : Sl 9 σ (xs.map keyS) v) (hn : xs.length ≤ 1000000) :
    CallsE E 256 #[v, .int .i64 0, .int .i64 xs.length] σ fun e τ => e = .returned (.tuple #[]) ∧ ∃ ys, ys.Perm xs ∧ Srt ltS ys ∧ Sl 9 τ (ys.map keyS) v ∧ Only σ τ v := by
  generalize hk : xs.map keyS = ks at h
  cases h with
  | nil h0 =>
    have : xs = [] := by rw [h0] at hk; simpa using hk
    subst this
    refine isort256_nil.mono ?_
    rintro e τ ⟨rfl, rfl⟩
    exact ⟨rfl, [], .refl _, .nil, .nil rfl, fun _ _ => rfl⟩
  | «at» a pad ha =>
    have hl : ks.length = xs.length := by rw [← hk]; simp
    rw [hl]
    refine (isort256 (cap := xs.length + pad.length) (pad := pad) (by rw [hk]; exact ha) hn).mono ?_
    rintro e τ ⟨rfl, ys, h1, h2, rfl⟩
    refine ⟨rfl, ys, h1, h2, ?_, ?_⟩
    · have := Sl.at (ety := 9) (σ := σ.set a (.cells (ys.map keyS ++ pad).toArray 9 (0, 0))) (xs := ys.map keyS) a pad (Hp.f_set_same _ _)
      have e : (ys.map keyS).length = xs.length := by simpa using h1.length_eq
      rw [e] at this
      exact this
    · intro b hb
      exact Hp.f_set_ne _ (hb _ _ _ rfl)

set_option maxRecDepth 100000 in
theorem pdq240_c {xs : List (List UInt8)} {v : Value} {k : Int} (h : Sl 9 σ (xs.map keyS) v) (hn : xs.length ≤ 12) :
    CallsE E 240 #[v, .int .i64 0, .int .i64 xs.length, .int .i64 k] σ fun e τ => e = .returned (.tuple #[]) ∧ ∃ ys, ys.Perm xs ∧ Srt ltS ys ∧ Sl 9 τ (ys.map keyS) v ∧ Only σ τ v := by
  refine calls_enter Tryz.func240 Tryz.ntmps240 Tryz.results240 rfl (by simp) fun Q hQn hQr hQp => ?_
  simp only [go_sem, yA, yB, yC, yD, yE, yF, yG, wA, wB, wC, wD, wE, wF, wG, wH]
  refine wpC_loop (fun m ρ ds σ' => ds = [] ∧ ρ 0 = v ∧ ρ 1 = .int .i64 0 ∧ ρ 2 = .int .i64 xs.length ∧ σ' = σ) 0 ?_ ?_
  · refine ⟨rfl, ?_, ?_, ?_, rfl⟩ <;> simp only [go_sem, yA, yB, yC, yD, yE, yF, yG, wA, wB, wC, wD, wE, wF, wG, wH]
  · rintro m ρ ds σ' X ⟨rfl, h0, h1, h2, rfl⟩ hX
    have c : (xs.length : Int) ≤ 12 := by omega
    have c0 : IntKind.i64.wrap ((xs.length : Int) - 0) = xs.length := by rw [Int.sub_zero]; exact wrap64 (by omega) (by omega)
    simp only [go_sem, yA, yB, yC, yD, yE, yF, yG, wA, wB, wC, wD, wE, wF, wG, wH, h0, h1, h2, c0, c]
    refine call_post go_256 (isort256_c h (by omega)) ?_ (fun ch σ' ⟨h, _⟩ => by cases h)
    rintro w τ ⟨hw, hres⟩
    obtain rfl : w = .tuple #[] := by injection hw
    simp only [go_sem, yA, yB, yC, yD, yE, yF, yG, wA, wB, wC, wD, wE, wF, wG, wH]
    exact hQr _ _ _ _ resIs_none (Hp.le_refl _) ⟨rfl, hres⟩

set_option maxRecDepth 100000 in
theorem sort219_c {xs : List (List UInt8)} {v : Value} (h : Sl 9 σ (xs.map keyS) v) (hn : xs.length ≤ 12) :
    CallsE E 219 #[v] σ fun e τ => e = .returned (.tuple #[]) ∧ ∃ ys, ys.Perm xs ∧ Srt ltS ys ∧ Sl 9 τ (ys.map keyS) v ∧ Only σ τ v := by
  refine calls_enter Tryz.func219 Tryz.ntmps219 Tryz.results219 rfl (by simp) fun Q hQn hQr hQp => ?_
  obtain ⟨base, cap, rfl⟩ : ∃ base cap, v = .slice base xs.length cap := by
    generalize hk : xs.map keyS = ks at h
    have hl : ks.length = xs.length := by rw [← hk]; simp
    cases h with
    | nil h0 => exact ⟨none, 0, by rw [← hl, h0]; rfl⟩
    | «at» a pad ha => exact ⟨_, _, by rw [hl]⟩
  have cu : IntKind.u64.wrap (xs.length : Int) = xs.length := by
    have : ((xs.length : Int) % 18446744073709551616) = xs.length := by omega
    simpa [IntKind.wrap, IntKind.bits, IntKind.signed] using this
  simp only [go_sem, yA, yB, yC, yD, yE, yF, yG, wA, wB, wC, wD, wE, wF, wG, wH, cu]
  refine call_post go_135 (len135_c (by omega)) ?_ (fun ch σ' ⟨⟨_, _, h⟩, _⟩ => by cases h)
  rintro w σ' ⟨⟨k, hk, hw⟩, rfl⟩
  obtain rfl : w = .int .i64 k := by injection hw
  simp only [go_sem, yA, yB, yC, yD, yE, yF, yG, wA, wB, wC, wD, wE, wF, wG, wH]
  refine call_post go_240 (pdq240_c h hn) ?_ (fun ch σ' ⟨h, _⟩ => by cases h)
  rintro w τ ⟨hw, hres⟩
  obtain rfl : w = .tuple #[] := by injection hw
  simp only [go_sem, yA, yB, yC, yD, yE, yF, yG, wA, wB, wC, wD, wE, wF, wG, wH]
  exact hQn _ _ _ _ resIs_none (Hp.le_refl _) ⟨rfl, hres⟩

set_option maxRecDepth 100000 in
theorem collect218_c {f : FuncId} {α : Type} {pick : α × Value × Nat → Value} {key : α → Value} {tc : TypeId} (hY : Yields f pick key tc) (hg : isGo Tryz.prog f = true) {bm m c : Nat} {l : List (α × Value × Nat)}
    (hbm : σ.f bm = some (.cells #[.map (some m)] tc (0, 0))) (hm : σ.f m = some (kmap key l c)) (hold : ∀ e ∈ l, e.2.2 < c) (hn : (l.map (·.2.2)).Nodup) (hbig : l.length ≤ 1000000) (hsc : ∀ e ∈ l, isScalarV (pick e) = true) :
    CallsE E 218 #[.func (.func f) #[] #[.pointer (some ⟨bm, 0, none⟩)]] σ fun e τ => σ.le τ ∧ ∃ v ks, e = .returned v ∧ ks.Perm (l.map pick) ∧ Sl 9 τ ks v ∧ ∀ a n c, v = .slice (some a) n c → σ.f a.block = none := by
  refine calls_enter Tryz.func218 Tryz.ntmps218 Tryz.results218 rfl (by simp) fun Q hQn hQr hQp => ?_
  simp only [go_sem, yA, yB, yC, yD, yE, yF, yG, wA, wB, wC, wD, wE, wF, wG, wH]
  refine call_post go_239 (appendSeq239 hY hg hbm hm hold hn hbig hsc) ?_ (fun ch σ' ⟨_, _, _, h, _⟩ => by cases h)
  rintro v τ ⟨hle, v', ks, hv, h1, h2, h3⟩
  obtain rfl : v = v' := by injection hv
  simp only [go_sem, yA, yB, yC, yD, yE, yF, yG, wA, wB, wC, wD, wE, wF, wG, wH]
  exact hQr _ _ _ _ resIs_one (Hp.le_refl _) ⟨hle, v, ks, rfl, h1, h2, h3⟩

set_option maxRecDepth 100000 in
theorem sorted182_c {f : FuncId} {tc : TypeId} (hY : Yields f (fun e : List UInt8 × Value × Nat => keyS e.1) keyS tc) (hg : isGo Tryz.prog f = true) {bm m c : Nat} {l : List (List UInt8 × Value × Nat)}
    (hbm : σ.f bm = some (.cells #[.map (some m)] tc (0, 0))) (hm : σ.f m = some (kmap keyS l c)) (hold : ∀ e ∈ l, e.2.2 < c) (hn : (l.map (·.2.2)).Nodup) (hbig : l.length ≤ 12) :
    CallsE E 182 #[.func (.func f) #[] #[.pointer (some ⟨bm, 0, none⟩)]] σ fun e τ => σ.le τ ∧ ∃ v ys, e = .returned v ∧ ys.Perm (l.map (·.1)) ∧ Srt ltS ys ∧ Sl 9 τ (ys.map keyS) v ∧ ∀ a n c, v = .slice (some a) n c → σ.f a.block = none := by
  refine calls_enter Tryz.func182 Tryz.ntmps182 Tryz.results182 rfl (by simp) fun Q hQn hQr hQp => ?_
  simp only [go_sem, yA, yB, yC, yD, yE, yF, yG, wA, wB, wC, wD, wE, wF, wG, wH]
  refine call_post go_218 (collect218_c hY hg hbm hm hold hn (by omega) (fun _ _ => rfl)) ?_ (fun ch σ' ⟨_, _, _, h, _⟩ => by cases h)
  rintro v τ ⟨hle, v', ks, hv, h1, h2, h3⟩
  obtain rfl : v = v' := by injection hv
  obtain ⟨xs, k1, rfl⟩ := perm_of_map h1 (xs := l.map (·.1)) (f := keyS) (by simp)
  simp only [go_sem, yA, yB, yC, yD, yE, yF, yG, wA, wB, wC, wD, wE, wF, wG, wH]
  have hlen : xs.length ≤ 12 := by rw [k1.length_eq]; simpa using hbig
  refine call_post go_219 (sort219_c h2 hlen) ?_ (fun ch σ' ⟨h, _⟩ => by cases h)
  rintro w τ' ⟨hw, ys, p1, p2, p3, p4⟩
  obtain rfl : w = .tuple #[] := by injection hw
  simp only [go_sem, yA, yB, yC, yD, yE, yF, yG, wA, wB, wC, wD, wE, wF, wG, wH]
  refine hQr _ _ _ _ resIs_one (Hp.le_refl _) ⟨?_, v, ys, rfl, p1.trans k1, p2, p3, h3⟩
  intro b o hb
  rw [p4 b (fun a n c e e2 => by have := h3 a n c e; rw [← e2, hb] at this; cases this)]
  exact hle b o hb

set_option maxRecDepth 100000 in
theorem keys183_c {m : Nat} : CallsE E 183 #[.map (some m)] σ fun e τ => ∃ bm, e = .returned (.func (.func 220) #[] #[.pointer (some ⟨bm, 0, none⟩)]) ∧ σ.f bm = none ∧ τ = σ.set bm (.cells #[.map (some m)] 274 (0, 0)) := by
  refine calls_enter Tryz.func183 Tryz.ntmps183 Tryz.results183 rfl (by simp) fun Q hQn hQr hQp => ?_
  simp only [go_sem, yA, yB, yC, yD, yE, yF, yG, wA, wB, wC, wD, wE, wF, wG, wH]
  refine fun bm hbm => ?_
  simp only [go_sem, yA, yB, yC, yD, yE, yF, yG, wA, wB, wC, wD, wE, wF, wG, wH]
  exact hQr _ _ _ _ resIs_one (Hp.le_refl _) ⟨bm, rfl, hbm, rfl⟩
set_option maxRecDepth 100000 in
theorem sorted139_c {m c : Nat} {l : List (List UInt8 × Value × Nat)} (hm : σ.f m = some (kmap keyS l c)) (hold : ∀ e ∈ l, e.2.2 < c) (hn : (l.map (·.2.2)).Nodup) (hbig : l.length ≤ 12) :
    CallsE E 139 #[.map (some m)] σ fun e τ => σ.le τ ∧ ∃ v ys, e = .returned v ∧ ys.Perm (l.map (·.1)) ∧ Srt ltS ys ∧ Sl 9 τ (ys.map keyS) v ∧ ∀ a n c, v = .slice (some a) n c → σ.f a.block = none := by
  refine calls_enter Tryz.func139 Tryz.ntmps139 Tryz.results139 rfl (by simp) fun Q hQn hQr hQp => ?_
  simp only [go_sem, yA, yB, yC, yD, yE, yF, yG, wA, wB, wC, wD, wE, wF, wG, wH]
  refine call_post go_183 keys183_c ?_ (fun ch σ' ⟨_, h, _⟩ => by cases h)
  rintro w τ ⟨bm, hw, hbm, rfl⟩
  obtain rfl : w = .func (.func 220) #[] #[.pointer (some ⟨bm, 0, none⟩)] := by injection hw
  have hne : m ≠ bm := fun e => by subst e; rw [hbm] at hm; cases hm
  have hm' : (σ.set bm (.cells #[.map (some m)] 274 (0, 0))).f m = some (kmap keyS l c) := by rw [Hp.f_set_ne _ hne]; exact hm
  simp only [go_sem, yA, yB, yC, yD, yE, yF, yG, wA, wB, wC, wD, wE, wF, wG, wH]
  refine call_post go_182 (sorted182_c yields220 go_220 (Hp.f_set_same _ _) hm' hold hn hbig) ?_ (fun ch σ' ⟨_, _, _, h, _⟩ => by cases h)
  rintro v τ ⟨hle, v', ys, hv, h1, h2, h3, h4⟩
  obtain rfl : v = v' := by injection hv
  simp only [go_sem, yA, yB, yC, yD, yE, yF, yG, wA, wB, wC, wD, wE, wF, wG, wH]
  refine hQr _ _ _ _ resIs_one (Hp.le_refl _) ⟨?_, v, ys, rfl, h1, h2, h3, ?_⟩
  · intro b o hb
    have : b ≠ bm := fun e => by subst e; rw [hbm] at hb; cases hb
    exact hle b o (by rw [Hp.f_set_ne _ this]; exact hb)
  · intro a n c e
    have := h4 a n c e
    by_cases e2 : a.block = bm
    · rw [e2]; exact hbm
    · rw [Hp.f_set_ne _ e2] at this; exact this

end
end Go.Qw
