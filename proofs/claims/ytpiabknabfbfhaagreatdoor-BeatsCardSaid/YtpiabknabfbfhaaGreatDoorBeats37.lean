/- The law Beats of queuewire returns true for every three integers: the row over the given program, tied to its text; no condition besides. (Part 37 of 40: QwAs3 QwStrs QwCutU QwFeedF QwBeatFS.) -/
import Derived.Test.YtpiabknabfbfhaaGreatDoorBeats24
import Derived.Test.YtpiabknabfbfhaaGreatDoorBeats36
set_option linter.all false
-- errors.As at an Errno; Told.
namespace Go.Qw
open Nat renaming reduceLT → yA, reduceLeDiff → yB, reduceBEq → yC, reduceAdd → yD, reduceSub → yE, reduceMul → yF, reduceEqDiff → yG
open Int renaming reduceToNat → wA, reduceLE → wB, reduceLT → wC, reduceEq → wD, reduceAdd → wE, reduceSub → wF, reduceMul → wG, reduceNeg → wH
open Go Go.Conc Go.Proofs Go.Extern
section
variable {E : Env Tryz.prog} {σ : Hp}
set_option maxRecDepth 100000 in
theorem as64_c {t b : Nat} {i old : Int} (hb : σ.f b = some (.cells #[pV t] 93 (0, 0))) (ht : σ.f t = some (.cells [iV old].toArray 51 (0, 0))) :
    CallsE E 64 #[.iface 51 (iV i), .iface 93 (pV t), .agg #[hT 93, pV b, .int .u64 150], rT 51] σ fun e τ => e = .returned (.bool true) ∧ τ = σ.set t (.cells [iV i].toArray 51 (0, 0)) := by
  refine calls_enter Tryz.func64 Tryz.ntmps64 Tryz.results64 rfl (by simp) fun Q hQn hQr hQp => ?_
  simp only [go_sem, yA, yB, yC, yD, yE, yF, yG, wA, wB, wC, wD, wE, wF, wG, wH]
  refine fun b6 hb6 => ?_
  have n6 : ∀ {x o}, σ.f x = some o → ¬ x = b6 := fun h e => by subst e; rw [hb6] at h; cases h
  simp only [go_sem, yA, yB, yC, yD, yE, yF, yG, wA, wB, wC, wD, wE, wF, wG, wH]
  refine wpC_loop (fun m ρ ds σ' => ds = [] ∧ ρ 0 = .iface 51 (iV i) ∧ ρ 3 = rT 51 ∧ ρ 6 = pV b6 ∧ σ' = σ.set b6 (.cells [hT 93, pV b, .int .u64 150].toArray 140 (0, 0))) 0 ?_ ?_
  · refine ⟨rfl, ?_, ?_, ?_, rfl⟩ <;> simp only [go_sem, yA, yB, yC, yD, yE, yF, yG, wA, wB, wC, wD, wE, wF, wG, wH]
  · rintro m ρ ds σ' X ⟨rfl, h0, h3, h6, rfl⟩ hX
    simp only [go_sem, yA, yB, yC, yD, yE, yF, yG, wA, wB, wC, wD, wE, wF, wG, wH, h0]
    refine callQ_extern Tryz.func113 rfl (by kernel_rfl) (by kernel_rfl) x113_f ?_
    rw [as_typeOf51]
    simp only [go_sem, yA, yB, yC, yD, yE, yF, yG, wA, wB, wC, wD, wE, wF, wG, wH, h3]
    refine invoke_intro (t := 222) (v := .agg #[hT 51]) (recv := .agg #[hT 51]) (f := 333) (name := "AssignableTo") ?_ (fun Q H h => by rw [as_mAssign]; exact h) ?_
    · simp only [go_sem, yA, yB, yC, yD, yE, yF, yG, wA, wB, wC, wD, wE, wF, wG, wH]
    simp only [go_sem, yA, yB, yC, yD, yE, yF, yG, wA, wB, wC, wD, wE, wF, wG, wH]
    refine callQ_extern Tryz.func333 rfl (by kernel_rfl) (by kernel_rfl) x333_f ?_
    rw [as_assign51]
    have l6 : ∀ o, (σ.set b6 o).f b6 = some o := fun _ => Hp.f_set_same _ _
    simp only [go_sem, yA, yB, yC, yD, yE, yF, yG, wA, wB, wC, wD, wE, wF, wG, wH, h6, l6]
    refine callQ_extern Tryz.func114 rfl (by kernel_rfl) (by kernel_rfl) x114_f ?_
    refine as_elemV93 (a := b) (t := t) (e := 93) ((Hp.f_ne (n6 hb)).trans hb) ?_
    simp only [go_sem, yA, yB, yC, yD, yE, yF, yG, wA, wB, wC, wD, wE, wF, wG, wH, h0]
    refine callQ_extern Tryz.func61 rfl (by kernel_rfl) (by kernel_rfl) x61_f ?_
    show wpS Tryz.prog (ReflectliteValue.unpack (.iface 51 (iV i))) _ _ _
    rw [as_valueOf51]
    intro b9 hb9
    have n9 : ∀ {x : Nat} {o : Obj}, σ.f x = some o → ¬ x = b9 := by
      intro x o h e
      subst e
      have h1 : (σ.set b6 (.cells [hT 93, pV b, .int .u64 150].toArray 140 (0, 0))).f x = some o := (Hp.f_ne (n6 h)).trans h
      have h2 : (σ.set b6 (.cells [hT 93, pV b, .int .u64 150].toArray 140 (0, 0))).f x = none := hb9
      rw [h1] at h2; cases h2
    simp only [go_sem, yA, yB, yC, yD, yE, yF, yG, wA, wB, wC, wD, wE, wF, wG, wH]
    refine callQ_extern Tryz.func115 rfl (by kernel_rfl) (by kernel_rfl) x115_f ?_
    refine as_set51 (t := t) (b := b9) (i := i) (old := iV old) (e1 := 51) (Hp.f_set_same _ _) ((Hp.f_ne (n9 ht)).trans ((Hp.f_ne (n6 ht)).trans ht)) ?_
    simp only [go_sem, yA, yB, yC, yD, yE, yF, yG, wA, wB, wC, wD, wE, wF, wG, wH]
    refine hQr _ _ (σ.set t (.cells [iV i].toArray 51 (0, 0))) _ resIs_one ?_ ⟨by simp [up], rfl⟩
    exact set_ext (fun x p h => (Hp.f_ne (n9 h)).trans ((Hp.f_ne (n6 h)).trans h)) _ _
set_option maxRecDepth 100000 in
theorem as41_c {t : Nat} {i old : Int} {et : TypeId} (h0 : σ.f 0 = some (.cells #[rT 45] et (0, 0))) (ht : σ.f t = some (.cells [iV old].toArray 51 (0, 0))) :
    CallsE E 41 #[.iface 51 (iV i), .iface 93 (pV t)] σ fun e τ => e = .returned (.bool true) ∧ τ = σ.set t (.cells [iV i].toArray 51 (0, 0)) := by
  refine calls_enter Tryz.func41 Tryz.ntmps41 Tryz.results41 rfl (by simp) fun Q hQn hQr hQp => ?_
  simp only [go_sem, yA, yB, yC, yD, yE, yF, yG, wA, wB, wC, wD, wE, wF, wG, wH]
  refine callQ_extern Tryz.func61 rfl (by kernel_rfl) (by kernel_rfl) x61_f ?_
  show wpS Tryz.prog (ReflectliteValue.unpack (.iface 93 (pV t))) _ _ _
  rw [as_valueOf93]
  intro b hb
  have nb : ∀ {x o}, σ.f x = some o → ¬ x = b := fun h e => by subst e; rw [hb] at h; cases h
  simp only [go_sem, yA, yB, yC, yD, yE, yF, yG, wA, wB, wC, wD, wE, wF, wG, wH]
  refine fun b5 hb5 => ?_
  have nb5 : ¬ b5 = b := fun e => by subst e; rw [Hp.f_set_same] at hb5; cases hb5
  rw [Hp.f_ne nb5] at hb5
  have n5 : ∀ {x : Nat} {o : Obj}, σ.f x = some o → ¬ x = b5 := by
    intro x o h e; subst e; rw [hb5] at h; cases h
  have l5 : ∀ (H : Hp) (o : Obj), (H.set b5 o).f b5 = some o := fun _ _ => Hp.f_set_same _ _
  have lb : ∀ o o', ((σ.set b o).set b5 o').f b = some o := fun o o' => (Hp.f_ne (fun e => nb5 e.symm)).trans (Hp.f_set_same _ _)
  have lo : ∀ {x : Nat} {p : Obj} o o', σ.f x = some p → ((σ.set b o).set b5 o').f x = some p := fun o o' h => (Hp.f_ne (n5 h)).trans ((Hp.f_ne (nb h)).trans h)
  simp only [go_sem, yA, yB, yC, yD, yE, yF, yG, wA, wB, wC, wD, wE, wF, wG, wH, l5]
  refine callQ_extern Tryz.func62 rfl (by kernel_rfl) (by kernel_rfl) x62_f ?_
  rw [as_type93]
  simp only [go_sem, yA, yB, yC, yD, yE, yF, yG, wA, wB, wC, wD, wE, wF, wG, wH]
  refine invoke_intro (t := 222) (v := .agg #[hT 93]) (recv := hT 93) (f := 319) (name := "Kind") ?_ (fun Q H h => by rw [as_mKind]; exact h) ?_
  · simp only [go_sem, yA, yB, yC, yD, yE, yF, yG, wA, wB, wC, wD, wE, wF, wG, wH]
  simp only [go_sem, yA, yB, yC, yD, yE, yF, yG, wA, wB, wC, wD, wE, wF, wG, wH]
  refine callQ_extern Tryz.func319 rfl (by kernel_rfl) (by kernel_rfl) x319_f ?_
  show wpS Tryz.prog (ReflectliteType.abiMethod (fun t => (fun a : Nat => Value.int IntKind.u8 (a : Int)) <$> Rtype.kind t) #[hT 93]) _ _ _
  rw [as_kind93]
  simp only [go_sem, yA, yB, yC, yD, yE, yF, yG, wA, wB, wC, wD, wE, wF, wG, wH, l5]
  rw [Hp.set_set]
  refine callQ_extern Tryz.func63 rfl (by kernel_rfl) (by kernel_rfl) x63_f ?_
  refine as_isNil93 (a := b) (t := t) (e := 93) (lb _ _) ?_
  simp only [go_sem, yA, yB, yC, yD, yE, yF, yG, wA, wB, wC, wD, wE, wF, wG, wH]
  refine invoke_intro (t := 222) (v := .agg #[hT 93]) (recv := .agg #[hT 93]) (f := 335) (name := "Elem") ?_ (fun Q H h => by rw [as_mElem]; exact h) ?_
  · simp only [go_sem, yA, yB, yC, yD, yE, yF, yG, wA, wB, wC, wD, wE, wF, wG, wH]
  simp only [go_sem, yA, yB, yC, yD, yE, yF, yG, wA, wB, wC, wD, wE, wF, wG, wH]
  refine callQ_extern Tryz.func335 rfl (by kernel_rfl) (by kernel_rfl) x335_f ?_
  rw [as_elem93]
  simp only [go_sem, yA, yB, yC, yD, yE, yF, yG, wA, wB, wC, wD, wE, wF, wG, wH]
  refine invoke_intro (t := 222) (v := .agg #[hT 51]) (recv := hT 51) (f := 319) (name := "Kind") ?_ (fun Q H h => by rw [as_mKind]; exact h) ?_
  · simp only [go_sem, yA, yB, yC, yD, yE, yF, yG, wA, wB, wC, wD, wE, wF, wG, wH]
  simp only [go_sem, yA, yB, yC, yD, yE, yF, yG, wA, wB, wC, wD, wE, wF, wG, wH]
  refine callQ_extern Tryz.func319 rfl (by kernel_rfl) (by kernel_rfl) x319_f ?_
  show wpS Tryz.prog (ReflectliteType.abiMethod (fun t => (fun a : Nat => Value.int IntKind.u8 (a : Int)) <$> Rtype.kind t) #[hT 51]) _ _ _
  rw [as_kind51]
  have l0 : ∀ o o', ((σ.set b o).set b5 o').f 0 = some (.cells #[rT 45] et (0, 0)) := fun o o' => lo o o' h0
  simp only [go_sem, yA, yB, yC, yD, yE, yF, yG, wA, wB, wC, wD, wE, wF, wG, wH, l0]
  refine invoke_intro (t := 222) (v := .agg #[hT 51]) (recv := .agg #[hT 51]) (f := 336) (name := "Implements") ?_ (fun Q H h => by rw [as_mImpl]; exact h) ?_
  · simp only [go_sem, yA, yB, yC, yD, yE, yF, yG, wA, wB, wC, wD, wE, wF, wG, wH]
  simp only [go_sem, yA, yB, yC, yD, yE, yF, yG, wA, wB, wC, wD, wE, wF, wG, wH]
  refine callQ_extern Tryz.func336 rfl (by kernel_rfl) (by kernel_rfl) x336_f ?_
  rw [as_impl51]
  simp only [go_sem, yA, yB, yC, yD, yE, yF, yG, wA, wB, wC, wD, wE, wF, wG, wH, l5]
  refine call_ret go_64 (as64_c (b := b) (lb _ _) (lo _ _ ht)) ?_
  simp only [go_sem, yA, yB, yC, yD, yE, yF, yG, wA, wB, wC, wD, wE, wF, wG, wH]
  refine hQr _ _ (σ.set t (.cells [iV i].toArray 51 (0, 0))) _ resIs_one ?_ ⟨by simp [up], rfl⟩
  exact set_ext (fun x p h => lo _ _ h) _ _
set_option maxRecDepth 100000 in
theorem told26_c {i : Int} {et : TypeId} (h0 : σ.f 0 = some (.cells #[rT 45] et (0, 0))) :
    CallsE E 26 #[.iface 51 (iV i)] σ fun e τ => e = .returned (iV i) ∧ τ = σ := by
  refine calls_enter Tryz.func26 Tryz.ntmps26 Tryz.results26 rfl (by simp) fun Q hQn hQr hQp => ?_
  simp only [go_sem, yA, yB, yC, yD, yE, yF, yG, wA, wB, wC, wD, wE, wF, wG, wH]
  refine fun t ht => ?_
  simp only [go_sem, yA, yB, yC, yD, yE, yF, yG, wA, wB, wC, wD, wE, wF, wG, wH]
  have n0 : ¬ 0 = t := fun e => by subst e; rw [h0] at ht; cases ht
  refine call_ret go_41 (as41_c (i := i) (old := 0) ((Hp.f_ne n0).trans h0) (Hp.f_set_same _ _)) ?_
  have lt : ∀ (H : Hp) (o : Obj), (H.set t o).f t = some o := fun _ _ => Hp.f_set_same _ _
  simp only [go_sem, yA, yB, yC, yD, yE, yF, yG, wA, wB, wC, wD, wE, wF, wG, wH, lt]
  refine hQr _ _ σ _ resIs_one ?_ ⟨by simp [up], rfl⟩
  intro x p h
  have nx : ¬ x = t := fun e => by subst e; rw [ht] at h; cases h
  rw [Hp.f_ne nx]
  first | exact h | (rw [Hp.f_ne nx]; exact h)
end
end Go.Qw
-- The statements' own texts: octets, text, frame, call, hello; pick.
namespace Go.Qw
open Nat renaming reduceLT → yA, reduceLeDiff → yB, reduceBEq → yC, reduceAdd → yD, reduceSub → yE, reduceMul → yF, reduceEqDiff → yG
open Int renaming reduceToNat → wA, reduceLE → wB, reduceLT → wC, reduceEq → wD, reduceAdd → wE, reduceSub → wF, reduceMul → wG, reduceNeg → wH
open Go Go.Conc Go.Proofs

theorem beB_cons (i n : Nat) : beB (i + 1) n = (n / 256 ^ i).toUInt8 :: beB i n := by
  unfold beB
  rw [List.range_succ_eq_map, List.map_cons, List.map_map]
  congr 1
  apply List.map_congr_left
  intro j hj
  simp only [Function.comp_def]
  have : i + 1 - 1 - (j + 1) = i - 1 - j := by omega
  rw [this]

section
variable {P : Program} {E : Env P} {ρ : Rho} {ds : List Deferred} {σ : Hp} {dst : Option Tmp} {ty : TypeId} {pos : String} {af : Array Edge} {g : Option (Nat × Bool)} {nx : Rho → List Deferred → Hp → Prop} {pn : List PanicEntry → Hp → Prop}
theorem byteStr_intro {s d e : TypeId} {x : Operand} {b cap : Nat} {k : Nat} {pad : List Value} {et : TypeId} (hs : P.underlying s = some (.slice e)) (hd : P.underlying d = some .string) (he : P.underlying e = some (.int .u8)) (hx : evR ρ x = .slice (some ⟨b, 0, none⟩) 1 cap) (hb : σ.f b = some (.cells (.int .u8 k :: pad).toArray et (0, 0)))
    (h : nx (putR ρ dst (.string (B [UInt8.ofNat k]))) ds σ) : wpOp E ⟨dst, .convert s d x, ty, pos, af, g⟩ ρ ds σ nx pn := by
  unfold wpOp
  simp only [execOp, wpS_val, convert, wpS_bind_eq, wpS_underlying, hs, hd, hx, he, Conv.bytesToString, loadCells]
  refine wpS_loadCellsFrom (a := ⟨b, 0, none⟩) hb rfl 1 0 #[] _ (by simp) ?_
  have e1 : (#[] ++ (.int .u8 (k : Int) :: pad).toArray.extract ((⟨b, 0, none⟩ : Addr).off + 0) ((⟨b, 0, none⟩ : Addr).off + 0 + 1) : Array Value) = #[.int .u8 (k : Int)] := by
    apply Array.ext'; simp
  rw [e1]
  exact h
end
section
variable {E : Env Tryz.prog} {σ : Hp}
set_option maxRecDepth 100000 in
theorem octets20_c {n w : Nat} (hw : w ≤ 8) (hn : n < 9223372036854775808) : CallsE E 20 #[iV n, iV w] σ fun e τ => e = .returned (sV (beB w n)) ∧ τ = σ := by
  refine calls_enter Tryz.func20 Tryz.ntmps20 Tryz.results20 rfl (by simp) fun Q hQn hQr hQp => ?_
  simp only [go_sem, yA, yB, yC, yD, yE, yF, yG, wA, wB, wC, wD, wE, wF, wG, wH]
  refine wpC_loop (fun m ρ ds σ' => ds = [] ∧ σ.le σ' ∧ ρ 1 = iV w ∧ ∃ i : Nat, i + m = w ∧ ρ 0 = iV ((n / 256 ^ i : Nat) : Int) ∧ ρ 5 = sV (beB i n) ∧ ρ 6 = iV i) w ?_ ?_
  · refine ⟨rfl, Hp.le_refl _, ?_, 0, by simp, ?_, ?_, ?_⟩
    · simp only [go_sem, yA, yB, yC, yD, yE, yF, yG, wA, wB, wC, wD, wE, wF, wG, wH]
    · simp only [go_sem, yA, yB, yC, yD, yE, yF, yG, wA, wB, wC, wD, wE, wF, wG, wH]; simp
    · simp only [go_sem, yA, yB, yC, yD, yE, yF, yG, wA, wB, wC, wD, wE, wF, wG, wH]; rfl
    · simp only [go_sem, yA, yB, yC, yD, yE, yF, yG, wA, wB, wC, wD, wE, wF, wG, wH]; rfl
  · rintro m ρ ds σ' X ⟨rfl, hle, h1, i, him, h0, h5, h6⟩ hX
    cases m with
    | zero =>
      have c0 : ¬ (i : Int) < (w : Int) := by omega
      obtain rfl : i = w := by omega
      simp only [go_sem, yA, yB, yC, yD, yE, yF, yG, wA, wB, wC, wD, wE, wF, wG, wH, h0, h1, h5, h6, c0]
      exact hQr _ _ σ _ resIs_one hle ⟨by simp [up, h5], rfl⟩
    | succ m =>
      have c0 : (i : Int) < (w : Int) := by omega
      have wU : IntKind.u8.wrap ((n / 256 ^ i : Nat) : Int) = (((n / 256 ^ i) % 256 : Nat) : Int) := by rw [IntKind.wrap_u8]; omega
      have wS : shrZ .i64 ((n / 256 ^ i : Nat) : Int) 8 = ((n / 256 ^ (i + 1) : Nat) : Int) := by
        unfold shrZ
        have e1 : (8 : Int).toNat = 8 := rfl
        have e2 : min 8 IntKind.i64.bits = 8 := rfl
        rw [e1, e2, Nat.pow_succ, ← Nat.div_div_eq_div_mul, Int.natCast_ediv, show (2 : Int) ^ 8 = ((256 : Nat) : Int) from rfl, Int.fdiv_eq_ediv_of_nonneg _ (by omega)]
        simp only [Int.natCast_ediv]
      have w1 : IntKind.i64.wrap ((i : Int) + 1) = ((i + 1 : Nat) : Int) := by rw [wrap64 (by omega) (by omega)]; rfl
      simp only [go_sem, yA, yB, yC, yD, yE, yF, yG, wA, wB, wC, wD, wE, wF, wG, wH, h0, h1, h5, h6, c0, wU]
      refine fun b hb => ?_
      have hle2 : ∀ o, σ.le (σ'.set b o) := fun o x p h => by rw [Hp.f_ne (fun e => by subst e; rw [hle _ _ h] at hb; cases hb)]; exact hle _ _ h
      simp only [go_sem, yA, yB, yC, yD, yE, yF, yG, wA, wB, wC, wD, wE, wF, wG, wH]
      refine byteStr_intro (e := 5) (b := b) (cap := 1) (k := (n / 256 ^ i) % 256) (pad := []) (et := 5) (by kernel_rfl) (by kernel_rfl) (by kernel_rfl) ?_ (Hp.f_set_same _ _) ?_
      · simp only [go_sem, yA, yB, yC, yD, yE, yF, yG, wA, wB, wC, wD, wE, wF, wG, wH]
      have lb : 1 + (beB i n).length ≤ 9223372036854775807 := by rw [beB_length]; omega
      have eB : [UInt8.ofNat ((n / 256 ^ i) % 256)] ++ beB i n = beB (i + 1) n := by
        rw [beB_cons]
        have : UInt8.ofNat ((n / 256 ^ i) % 256) = (n / 256 ^ i).toUInt8 := by
          apply UInt8.toNat_inj.1; simp
        rw [this]; rfl
      simp only [go_sem, yA, yB, yC, yD, yE, yF, yG, wA, wB, wC, wD, wE, wF, wG, wH, h0, h1, h5, h6, lb, eB, wS, w1]
      refine hX m _ _ _ _ (by omega) ⟨rfl, hle2 _, ?_, i + 1, by omega, ?_, ?_, ?_⟩ (Hp.le_refl _)
      · simp only [go_sem, yA, yB, yC, yD, yE, yF, yG, wA, wB, wC, wD, wE, wF, wG, wH, h1]
      · simp only [go_sem, yA, yB, yC, yD, yE, yF, yG, wA, wB, wC, wD, wE, wF, wG, wH, wS]
      · simp only [go_sem, yA, yB, yC, yD, yE, yF, yG, wA, wB, wC, wD, wE, wF, wG, wH]
      · simp only [go_sem, yA, yB, yC, yD, yE, yF, yG, wA, wB, wC, wD, wE, wF, wG, wH, w1]
set_option maxRecDepth 100000 in
theorem ltext19_c {s : List UInt8} (hs : s.length ≤ 1000000) : CallsE E 19 #[sV s] σ fun e τ => e = .returned (sV (beB 1 s.length ++ s)) ∧ τ = σ := by
  refine calls_enter Tryz.func19 Tryz.ntmps19 Tryz.results19 rfl (by simp) fun Q hQn hQr hQp => ?_
  simp only [go_sem, yA, yB, yC, yD, yE, yF, yG, wA, wB, wC, wD, wE, wF, wG, wH]
  refine call_ret go_20 (octets20_c (n := s.length) (w := 1) (by decide) (by omega)) ?_
  have l1 : (beB 1 s.length).length + s.length ≤ 9223372036854775807 := by rw [beB_length]; omega
  simp only [go_sem, yA, yB, yC, yD, yE, yF, yG, wA, wB, wC, wD, wE, wF, wG, wH, l1]
  exact hQr _ _ _ _ resIs_one (Hp.le_refl _) ⟨by simp [up], rfl⟩
set_option maxRecDepth 100000 in
theorem lframe21_c {kind ch : Nat} {p : List UInt8} (hk : kind < 1000) (hc : ch < 100000) (hp : p.length ≤ 1000000) : CallsE E 21 #[iV kind, iV ch, sV p] σ fun e τ => e = .returned (sV (frameB kind ch p)) ∧ τ = σ := by
  refine calls_enter Tryz.func21 Tryz.ntmps21 Tryz.results21 rfl (by simp) fun Q hQn hQr hQp => ?_
  simp only [go_sem, yA, yB, yC, yD, yE, yF, yG, wA, wB, wC, wD, wE, wF, wG, wH]
  refine call_ret go_20 (octets20_c (n := kind) (w := 1) (by decide) (by omega)) ?_
  simp only [go_sem, yA, yB, yC, yD, yE, yF, yG, wA, wB, wC, wD, wE, wF, wG, wH]
  refine call_ret go_20 (octets20_c (n := ch) (w := 2) (by decide) (by omega)) ?_
  simp only [go_sem, yA, yB, yC, yD, yE, yF, yG, wA, wB, wC, wD, wE, wF, wG, wH]
  refine call_ret go_20 (octets20_c (n := p.length) (w := 4) (by decide) (by omega)) ?_
  have l1 : (beB 1 kind).length + (beB 2 ch).length ≤ 9223372036854775807 := by simp only [beB_length]; omega
  have l2 : (beB 1 kind ++ beB 2 ch).length + (beB 4 p.length).length ≤ 9223372036854775807 := by simp only [List.length_append, beB_length]; omega
  have l3 : (beB 1 kind ++ beB 2 ch ++ beB 4 p.length).length + p.length ≤ 9223372036854775807 := by simp only [List.length_append, beB_length]; omega
  have l4 : (beB 1 kind ++ beB 2 ch ++ beB 4 p.length ++ p).length + 1 ≤ 9223372036854775807 := by simp only [List.length_append, beB_length]; omega
  simp only [go_sem, yA, yB, yC, yD, yE, yF, yG, wA, wB, wC, wD, wE, wF, wG, wH, l1, l2, l3, l4]
  exact hQr _ _ _ _ resIs_one (Hp.le_refl _) ⟨by simp [up, frameB], rfl⟩
set_option maxRecDepth 100000 in
theorem lcall18_c {ch cl me : Nat} {p : List UInt8} (hc : ch < 100000) (h1 : cl < 100000) (h2 : me < 100000) (hp : p.length ≤ 100000) : CallsE E 18 #[iV ch, iV cl, iV me, sV p] σ fun e τ => e = .returned (sV (frameB 1 ch (beB 2 cl ++ beB 2 me ++ p))) ∧ τ = σ := by
  refine calls_enter Tryz.func18 Tryz.ntmps18 Tryz.results18 rfl (by simp) fun Q hQn hQr hQp => ?_
  simp only [go_sem, yA, yB, yC, yD, yE, yF, yG, wA, wB, wC, wD, wE, wF, wG, wH]
  refine call_ret go_20 (octets20_c (n := cl) (w := 2) (by decide) (by omega)) ?_
  simp only [go_sem, yA, yB, yC, yD, yE, yF, yG, wA, wB, wC, wD, wE, wF, wG, wH]
  refine call_ret go_20 (octets20_c (n := me) (w := 2) (by decide) (by omega)) ?_
  have l1 : (beB 2 cl).length + (beB 2 me).length ≤ 9223372036854775807 := by simp only [beB_length]; omega
  have l2 : (beB 2 cl ++ beB 2 me).length + p.length ≤ 9223372036854775807 := by simp only [List.length_append, beB_length]; omega
  simp only [go_sem, yA, yB, yC, yD, yE, yF, yG, wA, wB, wC, wD, wE, wF, wG, wH, l1, l2]
  refine call_ret go_21 (lframe21_c (kind := 1) (by decide) hc (by simp only [List.length_append, beB_length]; omega)) ?_
  simp only [go_sem, yA, yB, yC, yD, yE, yF, yG, wA, wB, wC, wD, wE, wF, wG, wH]
  exact hQr _ _ _ _ resIs_one (Hp.le_refl _) ⟨by simp [up], rfl⟩

def callL (ch cl me : Nat) (p : List UInt8) : List UInt8 := frameB 1 ch (beB 2 cl ++ beB 2 me ++ p)
theorem callL_length (ch cl me : Nat) (p : List UInt8) : (callL ch cl me p).length = p.length + 12 := by simp [callL, frameB_length, beB_length]; omega
def helloB (h : Nat) : List UInt8 := greetB ++ callL 0 10 31 (beB 2 4 ++ beB 4 64 ++ beB 2 h) ++ callL 0 10 40 (beB 1 1 ++ [47]) ++ callL 1 20 10 (beB 1 0) ++ callL 1 50 10 (beB 1 1 ++ [113])
theorem lcallL_c {ch cl me : Nat} {p : List UInt8} (hc : ch < 100000) (h1 : cl < 100000) (h2 : me < 100000) (hp : p.length ≤ 100000) : CallsE E 18 #[iV ch, iV cl, iV me, sV p] σ fun e τ => e = .returned (sV (callL ch cl me p)) ∧ τ = σ := lcall18_c hc h1 h2 hp
set_option maxRecDepth 100000 in
theorem hello38_c {h : Nat} (hh : h ≤ 1000) : CallsE E 38 #[iV h] σ fun e τ => e = .returned (sV (helloB h)) ∧ τ = σ := by
  refine calls_enter Tryz.func38 Tryz.ntmps38 Tryz.results38 rfl (by simp) fun Q hQn hQr hQp => ?_
  simp only [go_sem, yA, yB, yC, yD, yE, yF, yG, wA, wB, wC, wD, wE, wF, wG, wH]
  refine call_ret go_20 (octets20_c (n := 4) (w := 2) (by decide) (by decide)) ?_
  simp only [go_sem, yA, yB, yC, yD, yE, yF, yG, wA, wB, wC, wD, wE, wF, wG, wH]
  refine call_ret go_20 (octets20_c (n := 64) (w := 4) (by decide) (by decide)) ?_
  simp only [go_sem, yA, yB, yC, yD, yE, yF, yG, wA, wB, wC, wD, wE, wF, wG, wH]
  refine call_ret go_20 (octets20_c (n := h) (w := 2) (by decide) (by omega)) ?_
  have l1 : (beB 2 4).length + (beB 4 64).length ≤ 9223372036854775807 := by decide
  have l2 : (beB 2 4 ++ beB 4 64).length + (beB 2 h).length ≤ 9223372036854775807 := by simp only [List.length_append, beB_length]; omega
  simp only [go_sem, yA, yB, yC, yD, yE, yF, yG, wA, wB, wC, wD, wE, wF, wG, wH, l1, l2]
  refine call_ret go_18 (lcallL_c (ch := 0) (cl := 10) (me := 31) (by decide) (by decide) (by decide) (by simp only [List.length_append, beB_length]; omega)) ?_
  have la : (callL 0 10 31 (beB 2 4 ++ beB 4 64 ++ beB 2 h)).length = 20 := by rw [callL_length]; simp [beB_length]
  have lb : (callL 0 10 40 (beB 1 1 ++ [47])).length = 14 := by rw [callL_length]; simp [beB_length]
  have lc : (callL 1 20 10 (beB 1 0)).length = 13 := by rw [callL_length]; simp [beB_length]
  have ld : (callL 1 50 10 (beB 1 1 ++ [113])).length = 14 := by rw [callL_length]; simp [beB_length]
  have gB : (Value.string { data := #[65, 77, 81, 80, 0, 0, 9, 1] }) = sV greetB := rfl
  simp only [go_sem, yA, yB, yC, yD, yE, yF, yG, wA, wB, wC, wD, wE, wF, wG, wH, gB, la, lb, lc, ld, List.length_append]
  refine call_ret go_19 (ltext19_c (s := [47]) (by decide)) ?_
  simp only [go_sem, yA, yB, yC, yD, yE, yF, yG, wA, wB, wC, wD, wE, wF, wG, wH]
  refine call_ret go_18 (lcallL_c (ch := 0) (cl := 10) (me := 40) (p := beB 1 1 ++ [47]) (by decide) (by decide) (by decide) (by decide)) ?_
  simp only [go_sem, yA, yB, yC, yD, yE, yF, yG, wA, wB, wC, wD, wE, wF, wG, wH, la, lb, lc, ld, List.length_append]
  refine call_ret go_19 (ltext19_c (s := []) (by decide)) ?_
  simp only [go_sem, yA, yB, yC, yD, yE, yF, yG, wA, wB, wC, wD, wE, wF, wG, wH]
  refine call_ret go_18 (lcallL_c (ch := 1) (cl := 20) (me := 10) (p := beB 1 0) (by decide) (by decide) (by decide) (by decide)) ?_
  simp only [go_sem, yA, yB, yC, yD, yE, yF, yG, wA, wB, wC, wD, wE, wF, wG, wH, la, lb, lc, ld, List.length_append]
  refine call_ret go_19 (ltext19_c (s := [113]) (by decide)) ?_
  simp only [go_sem, yA, yB, yC, yD, yE, yF, yG, wA, wB, wC, wD, wE, wF, wG, wH]
  refine call_ret go_18 (lcallL_c (ch := 1) (cl := 50) (me := 10) (p := beB 1 1 ++ [113]) (by decide) (by decide) (by decide) (by decide)) ?_
  simp only [go_sem, yA, yB, yC, yD, yE, yF, yG, wA, wB, wC, wD, wE, wF, wG, wH, la, lb, lc, ld, List.length_append]
  exact hQr _ _ _ _ resIs_one (Hp.le_refl _) ⟨by simp [up, helloB, greetB], rfl⟩
def pickZ (c n : Int) : Int := (if c < 0 then -(c + 1) else c).tmod n
theorem pickZ_lt {c n : Int} (hn : 0 < n) : 0 ≤ pickZ c n ∧ pickZ c n < n := by
  unfold pickZ
  have h0 : 0 ≤ (if c < 0 then -(c + 1) else c) := by split <;> omega
  exact ⟨Int.tmod_nonneg n h0, Int.tmod_lt_of_pos _ hn⟩
set_option maxRecDepth 100000 in
theorem pick14_c {c n : Int} (hc : -9223372036854775808 ≤ c ∧ c ≤ 9223372036854775807) (hn : 0 < n ∧ n ≤ 1000) : CallsE E 14 #[iV c, iV n] σ fun e τ => e = .returned (iV (pickZ c n)) ∧ τ = σ := by
  refine calls_enter Tryz.func14 Tryz.ntmps14 Tryz.results14 rfl (by simp) fun Q hQn hQr hQp => ?_
  have nz : ¬ n = 0 := by omega
  by_cases h0 : c < 0
  · have w1 : IntKind.i64.wrap (c + 1) = c + 1 := wrap64 (by omega) (by omega)
    have w2 : IntKind.i64.wrap (0 - (c + 1)) = -(c + 1) := by rw [wrap64 (by omega) (by omega)]; omega
    simp only [go_sem, yA, yB, yC, yD, yE, yF, yG, wA, wB, wC, wD, wE, wF, wG, wH, h0, w1, w2, nz]
    exact hQr _ _ _ _ resIs_one (Hp.le_refl _) ⟨by simp [up, pickZ, h0], rfl⟩
  · simp only [go_sem, yA, yB, yC, yD, yE, yF, yG, wA, wB, wC, wD, wE, wF, wG, wH, h0, nz]
    exact hQr _ _ _ _ resIs_one (Hp.le_refl _) ⟨by simp [up, pickZ, h0], rfl⟩
end
end Go.Qw
-- next at whole frames: the plain law.
namespace Go.Qw
open Go Go.Conc Go.Proofs

theorem beB_snoc (w n : Nat) : beB (w + 1) n = beB w (n / 256) ++ [n.toUInt8] := by
  unfold beB
  rw [List.range_succ, List.map_append]
  congr 1
  · apply List.map_congr_left
    intro j hj
    have hj : j < w := by simpa using hj
    have e : w + 1 - 1 - j = (w - 1 - j) + 1 := by omega
    rw [e, Nat.pow_succ, Nat.mul_comm, ← Nat.div_div_eq_div_mul]
  · simp
theorem num_beB (w : Nat) : ∀ n, n < 256 ^ w → num (beB w n) = n := by
  induction w with
  | zero => intro n h; simp at h; subst h; rfl
  | succ w ih =>
    intro n h
    rw [beB_snoc, num_snoc, ih (n / 256) (by rw [Nat.pow_succ] at h; omega)]
    simp
    omega
theorem take_app {l m : List UInt8} {n : Nat} (h : l.length = n) : (l ++ m).take n = l := by subst h; simp
theorem drop_app {l m : List UInt8} {n : Nat} (h : l.length = n) : (l ++ m).drop n = m := by subst h; simp
theorem pNumber_beB {w n : Nat} {s : List UInt8} (h : n < 256 ^ w) : pNumber w (beB w n ++ s) = some (n, s) := by
  unfold pNumber
  rw [if_pos (by simp [beB_length]), take_app (beB_length w n), drop_app (beB_length w n), num_beB w n h]
theorem nextU_frame {k ch : Nat} {p rest : List UInt8} {size : Int} (hk : k < 256) (hc : ch < 65536) (hp : p.length < 4294967296)
    (hw : (if k = 1 ∨ k = 2 ∨ k = 3 then decide ((p.length : Int) > size - 8) else if k = 8 then decide (p.length > 0 ∨ ch ≠ 0) else true) = false) :
    nextU true (frameB k ch p ++ rest) size = (⟨k, ch, p, false, false⟩, true, rest) := by
  have e1 : frameB k ch p ++ rest = beB 1 k ++ (beB 2 ch ++ (beB 4 p.length ++ (p ++ (206 :: rest)))) := by simp [frameB]
  have t1 : (frameB k ch p ++ rest).take 1 = beB 1 k := by rw [e1]; exact take_app (beB_length 1 k)
  have d1 : (frameB k ch p ++ rest).drop 1 = beB 2 ch ++ (beB 4 p.length ++ (p ++ (206 :: rest))) := by rw [e1]; exact drop_app (beB_length 1 k)
  have d3 : (frameB k ch p ++ rest).drop 3 = beB 4 p.length ++ (p ++ (206 :: rest)) := by
    have : (frameB k ch p ++ rest).drop 3 = ((frameB k ch p ++ rest).drop 1).drop 2 := by rw [List.drop_drop]
    rw [this, d1]; exact drop_app (beB_length 2 ch)
  have d7 : (frameB k ch p ++ rest).drop 7 = p ++ (206 :: rest) := by
    have : (frameB k ch p ++ rest).drop 7 = ((frameB k ch p ++ rest).drop 3).drop 4 := by rw [List.drop_drop]
    rw [this, d3]; exact drop_app (beB_length 4 _)
  have hl : ¬ (frameB k ch p ++ rest).length < 7 := by rw [e1]; simp [beB_length]; omega
  have n1 : num (beB 1 k) = k := num_beB 1 k hk
  have n2 : num (beB 2 ch) = ch := num_beB 2 ch hc
  have n4 : num (beB 4 p.length) = p.length := num_beB 4 _ hp
  unfold nextU
  rw [if_neg (by decide), if_neg hl]
  simp only [t1, d1, d3, d7, take_app (beB_length 2 ch), take_app (beB_length 4 p.length), n1, n2, n4, hw]
  rw [if_neg (by simp), if_neg (by simp)]
  have z : (p ++ 206 :: rest).drop (p.length + 1) = rest := by
    rw [← List.drop_drop]; simp
  have y : (p ++ 206 :: rest).drop p.length = 206 :: rest := by simp
  simp only [z, y, List.take_left]
  simp [num]
theorem nextU_greet (rest : List UInt8) (size : Int) : nextU false (greetB ++ rest) size = (⟨0, 0, [], true, false⟩, true, rest) := by
  have hl : min (greetB ++ rest).length 8 = 8 := by simp [greetB]
  unfold nextU
  rw [if_pos rfl]
  simp only [hl]
  rw [if_neg (by simp [greetB])]
  simp [greetB]
theorem nextU_none (size : Int) : nextU true [] size = (⟨0, 0, [], false, false⟩, true, []) := by simp [nextU]
end Go.Qw
-- feed beside a part of the heap that it does not touch.
namespace Go.Qw
open Go Go.Conc Go.Proofs

/-- Goroutine 0 alone, the part φ beside. -/
abbrev soloF (W : World) (φ : Hp) : Env Tryz.prog := (solo Tryz.prog W).frame φ

theorem feed_cF (F : FS) {W : World} {φ : Hp} {a : F.γ} {σ : Hp} {ch : List UInt8} (hok : F.okc a ch) (hI : F.I a σ) (hp : F.ph a ≠ 5) (hn : ch.length ≤ 4611686018427387904) :
    CallsE (soloF W φ) 40 #[.pointer (some ⟨F.bc, 0, none⟩), .string (B ch)] σ fun e τ => e = .returned (.tuple #[]) ∧ ∃ a', F.Loop (F.add a ch) a' ∧ F.I a' τ := by
  rintro cs m T ⟨d, hm⟩
  obtain ⟨N, m', T', g', τ, h1, h2, e, fr, rfl, hf, hl, rfl, a', σ', k1, k2, k3, rfl⟩ := feed_c F (W := W) (φ0 := φ) hok hI d hp hn cs m T hm
  refine ⟨N, m', T', _, σ', h1, ⟨k3, h2⟩, _, fr, rfl, hf, ?_, rfl, a', k1, k2⟩
  obtain ⟨a1, a2, a3, fn, a4, a5⟩ := hl
  refine ⟨a1, a2, a3, fn, a4, ?_⟩
  rw [hf, Tryz.func40] at a4
  obtain rfl := Option.some.inj a4
  have hr : Tryz.f40.results = #[] := Tryz.results40
  simp [results, hr, wpS_pure'] at a5 ⊢
end Go.Qw
-- feed at one heartbeat.
namespace Go.Qw
open Go Go.Conc Go.Proofs

def beatB : List UInt8 := frameB 8 0 []
def CR.at (c : CR) (s : List UInt8) : CR := { c with rest := s }
theorem le_set {σ τ : Hp} (h : σ.le τ) (b : Nat) (o : Obj) : (σ.set b o).le (τ.set b o) := set_ext h _ _
theorem hp_le_trans {a b c : Hp} (h : a.le b) (k : b.le c) : a.le c := fun x p e => k _ _ (h _ _ e)

theorem FS.loop_end (F : FS) {P : F.γ → Prop} (h0 : ∀ a, F.ph a = 5 → P a) (h1 : ∀ a u b, F.ph a ≠ 5 → F.nx a u b → u.idle = true → P b) {a a' : F.γ} (hl : F.Loop a a') : P a' := by
  induction hl with
  | gone hp => exact h0 _ hp
  | idle hp hn hi => exact h1 _ _ _ hp hn hi
  | step _ _ _ _ _ _ ih => exact ih

/-- What a beat's feed leans on. -/
structure BeatAt (σs : Hp) (g br mc mq c chm : Nat) (cfg : Cfg) (clock last id : Int) (cr : CR) (qs : List Nat) : Prop where
  hg : σs.f g = some (gwO cfg br mc clock last)
  hc : σs.f c = some (connO g id chm cr)
  hb : ∃ a b d, σs.f br = some (brO mq a b d)
  hq : ∃ l k, σs.f mq = some (kmap keyS l k) ∧ (∀ e ∈ l, e.2.2 < k) ∧ (l.map (·.2.2)).Nodup ∧ l.length ≤ 12 ∧ l.map (·.2.1) = qs.map keyP
  st : Still0 σs qs
  ph : cr.ph = 3
  gr : cr.greeted = true
  f0 : 0 ≤ cr.frame
  f1 : cr.frame ≤ 1000000
  r0 : cr.rest = []

section
variable {σs : Hp} {g br mc mq c chm : Nat} {cfg : Cfg} {clock last id : Int} {cr : CR} {qs : List Nat}
theorem cr_set34 (s t : List UInt8) (h : cr.greeted = true) : (((cr.at s).vals g id chm).set 3 (sV t)).set 4 (.bool true) = (cr.at t).vals g id chm := by
  rw [← h]; rfl
theorem cr_cn (s : List UInt8) : Cn g cr.ph cr.frame ((cr.at s).vals g id chm) := ⟨rfl, rfl, rfl, rfl⟩
theorem nextU_beat (size : Int) : nextU true beatB size = (⟨8, 0, [], false, false⟩, true, []) := by
  have := nextU_frame (k := 8) (ch := 0) (p := []) (rest := []) (size := size) (by decide) (by decide) (by decide) (by simp)
  rw [List.append_nil] at this
  exact this
theorem BeatAt.serve (h : BeatAt σs g br mc mq c chm cfg clock last id cr qs) {E : Env Tryz.prog} {σ : Hp} {o : Obj} (hle : (σs.set c o).le σ) :
    CallsE E 54 #[pV br] σ fun e τ => e = .returned (.tuple #[]) ∧ τ = σ := by
  obtain ⟨a, b, d, hb⟩ := h.hb
  obtain ⟨l, k, hq, h1, h2, h3, h4⟩ := h.hq
  have nb : ¬ br = c := fun e => by subst e; rw [h.hc] at hb; simp [connO, brO, CR.vals] at hb
  have nq : ¬ mq = c := fun e => by subst e; rw [h.hc] at hq; simp [connO, kmap] at hq
  refine serve54_c (hle _ _ ((Hp.f_ne nb).trans hb)) (hle _ _ ((Hp.f_ne nq).trans hq)) h1 h2 h3 h4 ?_
  intro q hqq
  obtain ⟨n1, n2, n3, n4, n5, n6, hx⟩ := h.st q hqq
  have nx : ¬ q = c := fun e => by subst e; rw [h.hc] at hx; simp [connO, queueO, CR.vals] at hx
  exact ⟨n1, n2, n3, n4, n5, n6, hle _ _ ((Hp.f_ne nx).trans hx)⟩

def beatFS (h : BeatAt σs g br mc mq c chm cfg clock last id cr qs) : FS where
  γ := Nat
  I := fun n σ => (n = 0 ∧ (σs.set c (connO g id chm (cr.at []))).le σ) ∨ (n = 1 ∧ (σs.set c (connO g id chm (cr.at beatB))).le σ)
  J := fun n σ => (σs.set c (connO g id chm (cr.at []))).le σ
  K := fun n σ => n = 0 ∧ (σs.set c (connO g id chm (cr.at []))).le σ
  okc := fun n s => n = 0 ∧ s = beatB
  bc := c
  bg := g
  bb := br
  ph := fun _ => cr.ph
  fr := fun _ => cr.frame
  rest := fun n => if n = 1 then beatB else []
  nx := fun a u b => (a = 0 ∧ u = ⟨0, 0, [], false, false⟩ ∧ b = 0) ∨ (a = 1 ∧ u = ⟨8, 0, [], false, false⟩ ∧ b = 2)
  un := fun b _ c => b = 2 ∧ c = 0
  sv := fun c d => d = c
  add := fun _ _ => 1
  μ := fun a => a
  conn := by
    rintro a σ (⟨rfl, hle⟩ | ⟨rfl, hle⟩)
    · exact ⟨_, hle _ _ (Hp.f_set_same _ _), cr_cn [], rfl⟩
    · exact ⟨_, hle _ _ (Hp.f_set_same _ _), cr_cn beatB, rfl⟩
  connK := by
    rintro a σ ⟨rfl, hle⟩
    exact ⟨_, hle _ _ (Hp.f_set_same _ _), cr_cn []⟩
  gate := by
    rintro a σ ⟨rfl, hle⟩
    have ng : ¬ g = c := fun e => by have := h.hg; subst e; rw [h.hc] at this; simp [connO, gwO, CR.vals] at this
    exact ⟨_, hle _ _ ((Hp.f_ne ng).trans h.hg), rfl, rfl⟩
  grow := by
    rintro a σ l s ⟨rfl, rfl⟩ hI hl
    obtain ⟨_, hle⟩ | ⟨h0, _⟩ := hI
    · right
      refine ⟨rfl, ?_⟩
      have hc := hle _ _ (Hp.f_set_same _ _)
      have e : l = (cr.at []).vals g id chm := by rw [hc] at hl; simpa [connO] using hl.symm
      subst e
      have := le_set hle c (connO g id chm (cr.at beatB))
      rw [Hp.set_set] at this
      exact this
    · cases h0
  small := by
    intro a σ _
    show (if a = 1 then beatB else []).length ≤ 1000000
    split <;> decide
  phA := fun _ _ => rfl
  frA := fun _ _ => rfl
  next := by
    rintro E a σ (⟨rfl, hle⟩ | ⟨rfl, hle⟩)
    · have := next_c (E := E) (hle _ _ (Hp.f_set_same _ _)) (l := (cr.at []).vals g id chm) (s := []) (size := cr.frame) (gr := true) rfl (by rw [← h.gr]; rfl) ⟨h.f0, h.f1⟩
      rw [nextU_none] at this
      refine this.mono fun e τ ⟨h1, h2⟩ => ⟨_, 0, .inl ⟨rfl, rfl, rfl⟩, ?_, h1⟩
      refine hp_le_trans ?_ h2
      have hs := le_set hle c (connO g id chm (cr.at []))
      rw [Hp.set_set] at hs
      rw [cr_set34 [] [] h.gr]
      exact hs
    · have := next_c (E := E) (hle _ _ (Hp.f_set_same _ _)) (l := (cr.at beatB).vals g id chm) (s := beatB) (size := cr.frame) (gr := true) rfl (by rw [← h.gr]; rfl) ⟨h.f0, h.f1⟩
      rw [nextU_beat] at this
      refine this.mono fun e τ ⟨h1, h2⟩ => ⟨_, 2, .inr ⟨rfl, rfl, rfl⟩, ?_, h1⟩
      refine hp_le_trans ?_ h2
      have hs := le_set hle c (connO g id chm (cr.at []))
      rw [Hp.set_set] at hs
      rw [cr_set34 beatB [] h.gr]
      exact hs
  unit := by
    rintro E a u b σ _ (⟨rfl, rfl, rfl⟩ | ⟨rfl, rfl, rfl⟩) hi hJ
    · cases hi
    · exact (unit59_beat (by rfl) (by rfl) (by rfl)).mono fun e τ ⟨h1, h2⟩ => ⟨0, ⟨rfl, rfl⟩, ⟨rfl, h2 ▸ hJ⟩, h1⟩
  serve := by
    rintro E b u d σ ⟨rfl, rfl⟩ ⟨_, hle⟩
    exact (h.serve hle).mono fun e τ ⟨h1, h2⟩ => ⟨0, rfl, .inl ⟨rfl, h2 ▸ hle⟩, h1⟩
  idle := by
    rintro a u b σ (⟨rfl, rfl, rfl⟩ | ⟨rfl, rfl, rfl⟩) hi hJ
    · exact .inl ⟨rfl, hJ⟩
    · cases hi
  dec := by
    rintro a u b d e _ (⟨rfl, rfl, rfl⟩ | ⟨rfl, rfl, rfl⟩) hi ⟨h1, rfl⟩ rfl
    · cases h1
    · decide
theorem beatFS_loop (h : BeatAt σs g br mc mq c chm cfg clock last id cr qs) {a a' : Nat} (hl : (beatFS h).Loop a a') : a' = 0 := by
  refine (beatFS h).loop_end (P := fun n : Nat => n = 0) (fun a hp => absurd hp (by show ¬ cr.ph = 5; rw [h.ph]; decide)) ?_ hl
  rintro a u b _ (⟨rfl, rfl, rfl⟩ | ⟨rfl, rfl, rfl⟩) hi
  · rfl
  · cases hi
theorem feed40_beat (h : BeatAt σs g br mc mq c chm cfg clock last id cr qs) {W : World} {φ : Hp} :
    CallsE (soloF W φ) 40 #[pV c, sV beatB] σs fun e τ => e = .returned (.tuple #[]) ∧ (σs.set c (connO g id chm cr)).le τ := by
  have e0 : cr.at [] = cr := by cases cr; have := h.r0; subst this; rfl
  have := feed_cF (beatFS h) (W := W) (φ := φ) (a := (0 : Nat)) (σ := σs) (ch := beatB) ⟨rfl, rfl⟩ (.inl ⟨rfl, by rw [e0, Hp.set_self h.hc]; exact Hp.le_refl _⟩) (by show ¬ cr.ph = 5; rw [h.ph]; decide) (by decide)
  refine this.mono fun e τ ⟨h1, a', hl, hI⟩ => ⟨h1, ?_⟩
  have := beatFS_loop h hl
  subst this
  obtain ⟨_, hle⟩ | ⟨h0, _⟩ := hI
  · rw [e0] at hle; exact hle
  · cases h0
end
end Go.Qw
