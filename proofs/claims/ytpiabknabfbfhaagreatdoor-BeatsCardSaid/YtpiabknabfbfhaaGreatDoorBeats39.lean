/- The law Beats of queuewire returns true for every three integers: the row over the given program, tied to its text; no condition besides. (Part 39 of 40: QwBeats3 QwRow QwBeatsRun QwBeatsFacts.) -/
import Derived.Test.YtpiabknabfbfhaaGreatDoorRows
import Derived.Conc.LeavingOf
import Derived.LaidLaws
import Derived.LaidHandle
import Derived.Lay
import Derived.Lib.LaidTab
import Derived.Lib.LaidU8
import Derived.Lib.Props
import Derived.Stop.Joined
import Derived.JoinedOf
import Derived.KernelRfl
import Derived.Test.YtpiabknabfbfhaaGreatDoorBeats37
import Derived.Test.YtpiabknabfbfhaaGreatDoorBeats38
set_option linter.all false
-- Beats.
namespace Go.Qw
open Nat renaming reduceLT → yA, reduceLeDiff → yB, reduceBEq → yC, reduceAdd → yD, reduceSub → yE, reduceMul → yF, reduceEqDiff → yG
open Int renaming reduceToNat → wA, reduceLE → wB, reduceLT → wC, reduceEq → wD, reduceAdd → wE, reduceSub → wF, reduceMul → wG, reduceNeg → wH
open Go Go.Conc Go.Proofs
section
variable {σ : Hp} {W : World} {φ : Hp}
theorem pick_nat {c : Int} {n : Nat} (hn : 0 < n) : ∃ k : Nat, pickZ c n = k ∧ k < n := by
  have := pickZ_lt (c := c) (n := n) (by omega)
  exact ⟨(pickZ c n).toNat, by omega, by omega⟩
theorem lframe_beat {E : Env Tryz.prog} : CallsE E 21 #[iV 8, iV 0, sV []] σ fun e τ => e = .returned (sV beatB) ∧ τ = σ :=
  lframe21_c (kind := 8) (ch := 0) (p := []) (by decide) (by decide) (by decide)
theorem said_beat {A : Ad} {h : Nat} {clock s r : Int} (hs : BSt A clock (crB h s r) σ) :
    CallsE (soloF W φ) 15 #[pV A.g, iV 1, sV beatB] σ fun e τ => e = .returned (sV []) ∧ BSt A clock (crB h s clock) τ := by
  have h25 : CallsE (soloF W φ) 25 #[pV A.g, iV 1, sV beatB] σ fun e τ => ∃ v, e = .returned (.tuple #[v, .nilIface]) ∧ Pk τ 1 [] v ∧ BSt A clock (crB h s clock) τ :=
    feed_beat (cr := crB h s r) hs rfl rfl (by show 0 ≤ (64 : Int) ∧ (64 : Int) ≤ 1000000; decide) rfl
  exact said15_c h25
theorem BSt.cong {A : Ad} {h : Nat} {a b c a' b' c' : Int} (hs : BSt A a (crB h b c) σ) (e1 : a = a') (e2 : b = b') (e3 : c = c') : BSt A a' (crB h b' c') σ := by subst e1 e2 e3; exact hs
set_option maxHeartbeats 1000000 in
set_option maxRecDepth 100000 in
theorem beats8_c {beat every ticks : Int} {e0 e1 : Nat} {L1 : List Value} (b1 : -9223372036854775808 ≤ beat ∧ beat ≤ 9223372036854775807) (b2 : -9223372036854775808 ≤ every ∧ every ≤ 9223372036854775807) (b3 : -9223372036854775808 ≤ ticks ∧ ticks ≤ 9223372036854775807)
    (he : e1 ≠ 293) (hL : L1[113]? = some (.int .u8 192)) (h0 : σ.f 0 = some (.cells #[rT 45] e0 (0, 0))) (h1 : σ.f 1 = some (.cells L1.toArray e1 (0, 0))) :
    CallsE (soloF W φ) 8 #[iV beat, iV every, iV ticks] σ fun e τ => e = .returned (.bool true) ∧ τ.f 0 = σ.f 0 ∧ τ.f 1 = σ.f 1 := by
  refine calls_enter Tryz.func8 Tryz.ntmps8 Tryz.results8 rfl (by simp) fun Q hQn hQr hQp => ?_
  obtain ⟨k1, hk1, lk1⟩ := pick_nat (c := beat) (n := 20) (by decide)
  obtain ⟨k2, hk2, lk2⟩ := pick_nat (c := every) (n := 60) (by decide)
  obtain ⟨T, hT, lT⟩ := pick_nat (c := ticks) (n := 150) (by decide)
  simp only [go_sem, yA, yB, yC, yD, yE, yF, yG, wA, wB, wC, wD, wE, wF, wG, wH]
  refine call_ret go_14 (pick14_c (n := ((20 : Nat) : Int)) b1 (by decide)) ?_
  rw [hk1]
  have w1 : IntKind.i64.wrap (1 + (k1 : Int)) = ((k1 + 1 : Nat) : Int) := by rw [wrap64 (by omega) (by omega)]; omega
  simp only [go_sem, yA, yB, yC, yD, yE, yF, yG, wA, wB, wC, wD, wE, wF, wG, wH, w1]
  refine call_post go_13 (begun13_c (h := k1 + 1) (by omega) he hL h0 h1) ?_ (fun ch σ' ⟨_, _, h, _⟩ => by cases h)
  have z0 : ((0 : Nat) : Int) = 0 := rfl
  have z1 : ((1 : Nat) : Int) = 1 := rfl
  have nt : (decide ¬True) = false := by decide
  rintro v τ ⟨A, ⟨hA, hA2, hA3⟩, hv, hB⟩
  obtain rfl : v = .tuple #[pV A.g, iV 1] := by injection hv
  simp only [go_sem, yA, yB, yC, yD, yE, yF, yG, wA, wB, wC, wD, wE, wF, wG, wH]
  refine call_ret go_14 (pick14_c (n := ((60 : Nat) : Int)) b2 (by decide)) ?_
  rw [hk2]
  have w2 : IntKind.i64.wrap (1 + (k2 : Int)) = ((k2 + 1 : Nat) : Int) := by rw [wrap64 (by omega) (by omega)]; omega
  simp only [go_sem, yA, yB, yC, yD, yE, yF, yG, wA, wB, wC, wD, wE, wF, wG, wH, w2]
  refine wpC_loop (fun m ρ ds σ' => ds = [] ∧ ρ 2 = iV ticks ∧ ρ 7 = iV (k1 + 1 : Nat) ∧ ρ 8 = pV A.g ∧ ρ 9 = iV 1 ∧ ρ 10 = iV (k2 + 1 : Nat) ∧
    ∃ t q d : Nat, t + m = T + 1 ∧ ρ 11 = iV q ∧ ρ 12 = iV d ∧ ρ 13 = iV t ∧ 1 ≤ t ∧ q < k1 + 1 ∧ d < 2 * (k1 + 1) ∧ q ≤ t - 1 ∧ d ≤ t - 1 ∧ BSt A ((t - 1 : Nat) : Int) (crB (k1 + 1) ((t - 1 - q : Nat) : Int) ((t - 1 - d : Nat) : Int)) σ') T ?_ ?_
  · refine ⟨rfl, ?_, ?_, ?_, ?_, ?_, 1, 0, 0, by omega, ?_, ?_, ?_, by omega, by omega, by omega, by omega, by omega, hB⟩ <;> simp only [go_sem, yA, yB, yC, yD, yE, yF, yG, wA, wB, wC, wD, wE, wF, wG, wH]
    all_goals rfl
  · rintro m ρ ds σ' X ⟨rfl, r2, r7, r8, r9, r10, t, q, d, htm, r11, r12, r13, ht1, hq, hd, hqt, hdt, hB⟩ hX
    simp only [go_sem, yA, yB, yC, yD, yE, yF, yG, wA, wB, wC, wD, wE, wF, wG, wH, r2, r13]
    refine call_ret go_14 (pick14_c (n := ((150 : Nat) : Int)) b3 (by decide)) ?_
    rw [hT]
    cases m with
    | zero =>
      have c0 : ¬ (t : Int) ≤ (T : Int) := by omega
      simp only [go_sem, yA, yB, yC, yD, yE, yF, yG, wA, wB, wC, wD, wE, wF, wG, wH, r2, r8, r9, r13, c0]
      refine call_post go_25 (feed_empty hB (by show ¬ (3 : Int) = 5; decide)) ?_ (fun ch σ' ⟨_, h, _⟩ => by cases h)
      rintro v τ ⟨v', hv, hpk, hB'⟩
      obtain rfl : v = .tuple #[v', .nilIface] := by injection hv
      simp only [go_sem, yA, yB, yC, yD, yE, yF, yG, wA, wB, wC, wD, wE, wF, wG, wH]
      exact hQr _ _ _ _ resIs_one (Hp.le_refl _) ⟨by simp [up], by rw [hB'.o0, hA, h0], by rw [hB'.o1, hA2, hA3, h1]⟩
    | succ m =>
      have c0 : (t : Int) ≤ (T : Int) := by omega
      simp only [go_sem, yA, yB, yC, yD, yE, yF, yG, wA, wB, wC, wD, wE, wF, wG, wH, r2, r8, r13, c0]
      have wq : IntKind.i64.wrap ((q : Int) + 1) = ((q + 1 : Nat) : Int) := by rw [wrap64 (by omega) (by omega)]; rfl
      have wd : IntKind.i64.wrap ((d : Int) + 1) = ((d + 1 : Nat) : Int) := by rw [wrap64 (by omega) (by omega)]; rfl
      have wt : IntKind.i64.wrap ((t : Int) + 1) = ((t + 1 : Nat) : Int) := by rw [wrap64 (by omega) (by omega)]; rfl
      have wh : IntKind.i64.wrap (2 * ((k1 + 1 : Nat) : Int)) = 2 * ((k1 + 1 : Nat) : Int) := by rw [wrap64 (by omega) (by omega)]
      by_cases hoff : d + 1 ≥ 2 * (k1 + 1)
      · refine call_post go_28 (tick_off hB (by omega) (by omega) (by omega) (by omega) (by omega)) ?_ (fun ch σ' ⟨_, h, _⟩ => by cases h)
        rintro v τ ⟨v', hv, hpk, hmc, hg, ho, ho1⟩
        obtain rfl := hpk.nil
        obtain rfl : v = .slice none 0 0 := by injection hv
        have c1 : ((d + 1 : Nat) : Int) ≥ 2 * ((k1 + 1 : Nat) : Int) := by omega
        simp only [go_sem, yA, yB, yC, yD, yE, yF, yG, wA, wB, wC, wD, wE, wF, wG, wH, r7, r8, r9, r11, r12, wq, wd, wh, c1]
        refine call_ret go_25 (feed25_none hg hmc rfl) ?_
        simp only [go_sem, yA, yB, yC, yD, yE, yF, yG, wA, wB, wC, wD, wE, wF, wG, wH]
        rw [hA] at ho
        refine call_ret go_26 (told26_c ho) ?_
        simp only [go_sem, yA, yB, yC, yD, yE, yF, yG, wA, wB, wC, wD, wE, wF, wG, wH, z0]
        exact hQr _ _ _ _ resIs_one (Hp.le_refl _) ⟨by simp [up], by rw [ho, h0], by rw [ho1, hA2, hA3, h1]⟩
      · refine call_post go_28 (tick_on hB (by omega) (by omega) (by omega) (by omega) (by omega)) ?_ (fun ch σ' ⟨_, h, _⟩ => by cases h)
        rintro v τ ⟨v', hv, hpk, hB'⟩
        obtain rfl : v = v' := by injection hv
        have c1 : ¬ ((d + 1 : Nat) : Int) ≥ 2 * ((k1 + 1 : Nat) : Int) := by omega
        by_cases hbq : q + 1 = k1 + 1
        · have c2 : ((q + 1 : Nat) : Int) = ((k1 + 1 : Nat) : Int) := by omega
          have hbs : ((t - 1 : Nat) : Int) + 1 - ((t - 1 - q : Nat) : Int) ≥ ((k1 + 1 : Nat) : Int) := by omega
          rw [if_pos hbs] at hpk
          rw [if_pos hbs] at hB'
          have hbn : beatB ≠ [] := by decide
          obtain ⟨ob, hob⟩ : ∃ ob, ob = beatB := ⟨_, rfl⟩
          rw [← hob] at hpk hbn
          cases hpk with
          | none => exact absurd rfl hbn
          | one _ bp cap pad _ hbp =>
          simp only [List.cons_append, List.nil_append] at hbp
          simp only [go_sem, yA, yB, yC, yD, yE, yF, yG, wA, wB, wC, wD, wE, wF, wG, wH, r7, r8, r9, r11, r12, wq, wd, wh, c1, c2]
          refine wpC_draw [0,1,2,3,4,5,6,7,8,9,10,11,12,13,14,15,16,17,18] (fun _ _ _ => False) (by kernel_rfl) (by decide +kernel) (fun _ _ _ _ h => h.elim) ?_
          simp only [go_sem, yA, yB, yC, yD, yE, yF, yG, wA, wB, wC, wD, wE, wF, wG, wH, z1, nt, r9, hbp]
          refine call_ret go_21 lframe_beat ?_
          have hob2 : ob = beatB := hob
          have nz : ¬ ((k2 + 1 : Nat) : Int) = 0 := by omega
          refine ⟨by (repeat (first | exact keeps_nil | (apply keeps_cons; (focus decide +kernel)) | (refine keeps_rd rfl (by simp only [go_sem, yA, yB, yC, yD, yE, yF, yG, wA, wB, wC, wD, wE, wF, wG, wH, z1, nt, r9, hbp]) ?_))), ?_⟩
          by_cases hr : ((t : Int)).tmod ((k2 + 1 : Nat) : Int) = 0
          · simp only [go_sem, yA, yB, yC, yD, yE, yF, yG, wA, wB, wC, wD, wE, wF, wG, wH, z1, nt, r8, r9, r10, r13, hbp, hob2, nz, hr, wt]
            refine call_ret go_21 lframe_beat ?_
            simp only [go_sem, yA, yB, yC, yD, yE, yF, yG, wA, wB, wC, wD, wE, wF, wG, wH]
            refine call_post go_15 (said_beat hB') ?_ (fun ch σ' ⟨h, _⟩ => by cases h)
            rintro w τ2 ⟨hw, hB2⟩
            obtain rfl : w = sV [] := by injection hw
            simp only [go_sem, yA, yB, yC, yD, yE, yF, yG, wA, wB, wC, wD, wE, wF, wG, wH, r13, wt]
            refine hX m _ _ _ _ (by omega) ⟨rfl, ?_, ?_, ?_, ?_, ?_, t + 1, 0, 0, by omega, ?_, ?_, ?_, by omega, by omega, by omega, by omega, by omega, hB2.cong (by omega) (by omega) (by omega)⟩ (Hp.le_refl _)
            all_goals simp only [go_sem, yA, yB, yC, yD, yE, yF, yG, wA, wB, wC, wD, wE, wF, wG, wH, r2, r7, r8, r9, r10, r11, r12, r13, wq, wd, wt, z0]
          · simp only [go_sem, yA, yB, yC, yD, yE, yF, yG, wA, wB, wC, wD, wE, wF, wG, wH, z1, nt, r8, r9, r10, r13, hbp, hob2, nz, hr, wt]
            refine hX m _ _ _ _ (by omega) ⟨rfl, ?_, ?_, ?_, ?_, ?_, t + 1, 0, d + 1, by omega, ?_, ?_, ?_, by omega, by omega, by omega, by omega, by omega, hB'.cong (by omega) (by omega) (by omega)⟩ (Hp.le_refl _)
            all_goals simp only [go_sem, yA, yB, yC, yD, yE, yF, yG, wA, wB, wC, wD, wE, wF, wG, wH, r2, r7, r8, r9, r10, r11, r12, r13, wq, wd, wt, z0]
        · have c2 : ¬ ((q + 1 : Nat) : Int) = ((k1 + 1 : Nat) : Int) := by omega
          have hbs : ¬ ((t - 1 : Nat) : Int) + 1 - ((t - 1 - q : Nat) : Int) ≥ ((k1 + 1 : Nat) : Int) := by omega
          rw [if_neg hbs] at hpk
          rw [if_neg hbs] at hB'
          obtain rfl := hpk.nil
          have zz : ¬ ((0 : Nat) : Int) > 0 := by decide
          have nz : ¬ ((k2 + 1 : Nat) : Int) = 0 := by omega
          by_cases hr : ((t : Int)).tmod ((k2 + 1 : Nat) : Int) = 0
          · simp only [go_sem, yA, yB, yC, yD, yE, yF, yG, wA, wB, wC, wD, wE, wF, wG, wH, r7, r8, r9, r10, r11, r12, r13, wq, wd, wh, c1, c2, zz, nz, hr, wt]
            refine call_ret go_21 lframe_beat ?_
            simp only [go_sem, yA, yB, yC, yD, yE, yF, yG, wA, wB, wC, wD, wE, wF, wG, wH]
            refine call_post go_15 (said_beat hB') ?_ (fun ch σ' ⟨h, _⟩ => by cases h)
            rintro w τ2 ⟨hw, hB2⟩
            obtain rfl : w = sV [] := by injection hw
            simp only [go_sem, yA, yB, yC, yD, yE, yF, yG, wA, wB, wC, wD, wE, wF, wG, wH, r13, wt]
            refine hX m _ _ _ _ (by omega) ⟨rfl, ?_, ?_, ?_, ?_, ?_, t + 1, (q + 1), 0, by omega, ?_, ?_, ?_, by omega, by omega, by omega, by omega, by omega, hB2.cong (by omega) (by omega) (by omega)⟩ (Hp.le_refl _)
            all_goals simp only [go_sem, yA, yB, yC, yD, yE, yF, yG, wA, wB, wC, wD, wE, wF, wG, wH, r2, r7, r8, r9, r10, r11, r12, r13, wq, wd, wt, z0]
          · simp only [go_sem, yA, yB, yC, yD, yE, yF, yG, wA, wB, wC, wD, wE, wF, wG, wH, r7, r8, r9, r10, r11, r12, r13, wq, wd, wh, c1, c2, zz, nz, hr, wt]
            refine hX m _ _ _ _ (by omega) ⟨rfl, ?_, ?_, ?_, ?_, ?_, t + 1, (q + 1), d + 1, by omega, ?_, ?_, ?_, by omega, by omega, by omega, by omega, by omega, hB'.cong (by omega) (by omega) (by omega)⟩ (Hp.le_refl _)
            all_goals simp only [go_sem, yA, yB, yC, yD, yE, yF, yG, wA, wB, wC, wD, wE, wF, wG, wH, r2, r7, r8, r9, r10, r11, r12, r13, wq, wd, wt, z0]
end
end Go.Qw
-- From a contract of goroutine 0 to a row: the condition, the witness, the run.
namespace Go.Qw
open Go Go.Conc Go.Proofs Go.ChangeShapes Go.WideShapes Go.ChangeAt Go.RowKit Go.Lib
open Go.Proofs.YtpiabknabfbfhaaGreatDoor

def laidL : List (String × DataW Unit) := [("errors.errorType", Rows.laid_errors_errorType), ("unicode.properties", Rows.laid_unicode_properties), ("unicode.Digit", Rows.laid_unicode_Digit), ("unicode.Letter", Rows.laid_unicode_Letter)]
def laidD : List (String × DataW Unit) := [("unicode.properties", Rows.laid_unicode_properties), ("unicode.Digit", Rows.laid_unicode_Digit), ("unicode.Letter", Rows.laid_unicode_Letter)]
theorem laid_data : (laidL.filter fun x => x.2.handleName?.isNone) = laidD := by kernel_rfl
theorem laid_hand : (laidL.filter fun x => x.2.handleName?.isSome) = [("errors.errorType", Rows.laid_errors_errorType)] := by kernel_rfl

theorem own : ownKnob Tryz.prog.godebug = none := by kernel_rfl
theorem glob0 : Tryz.prog.globalNamed "errors.errorType" = some 0 := by kernel_rfl
theorem glob1 : Tryz.prog.globalNamed "unicode.properties" = some 1 := by kernel_rfl
theorem rtype_is : (Tryz.prog.cutTypes.find? (·.1 == "internal/reflectlite.rtype")).map (·.2) = some 222 := by kernel_rfl
theorem types_n : Tryz.prog.types.size = 437 := by kernel_rfl
theorem one_row : ((List.range 437).filter fun t => Tryz.prog.rowNamed t [101, 114, 114, 111, 114]) = [45] := by kernel_rfl
theorem hand45 : typeHandle Tryz.prog 45 = hT 45 := by kernel_rfl
theorem props_eq : Rows.laid_unicode_properties (H := Unit) = tabData .u8 propertiesTab := by kernel_rfl
theorem props_113 : propertiesTab.getD 113 0 = 192 := by decide +kernel

/-- The two variables' rows. -/
theorem laid_handle {W : World} (h : laidMetH Tryz.prog laidL W) : W.var? Tryz.prog "errors.errorType" = some #[rT 45] := by
  unfold laidMetH at h
  rw [laid_hand] at h
  obtain ⟨name, u, ty, e1, e2, e3, e4, e5⟩ := h.2 _ (List.mem_singleton.2 rfl)
  have en : name = [101, 114, 114, 111, 114] := (Option.some.inj e1).symm
  subst en
  obtain rfl := Option.some.inj (rtype_is.symm.trans e2)
  have hm : ty ∈ (List.range 437).filter fun t => Tryz.prog.rowNamed t [101, 114, 114, 111, 114] := List.mem_filter.2 ⟨List.mem_range.2 (by rw [← types_n]; exact e3), e4⟩
  rw [one_row] at hm
  obtain rfl := List.mem_singleton.1 hm
  rw [hand45] at e5
  exact e5
theorem laid_props {W : World} (h : laidMetH Tryz.prog laidL W) : TabIs Tryz.prog W "unicode.properties" .u8 propertiesTab := by
  unfold laidMetH at h
  rw [laid_hand, laid_data] at h
  have h1 := h.1
  unfold laidD at h1
  rw [props_eq] at h1
  exact tabIs_of_head (t := 396) (e := 5) (n := 256) glob1 (by kernel_rfl) (by kernel_rfl) (by kernel_rfl) (by kernel_rfl) (by kernel_rfl) h1
theorem zero0 : ((begin Tryz.prog (fun _ _ => 0) default).world.heap[0]?).bind Obj.row? = some (#[.nilIface], 143) := by kernel_rfl
theorem zero1 : ∃ z, ((begin Tryz.prog (fun _ _ => 0) default).world.heap[1]?).bind Obj.row? = some (z, 396) := ⟨(((begin Tryz.prog (fun _ _ => 0) default).world.heap[1]?).bind Obj.row?).elim #[] (·.1), by kernel_rfl⟩
/-- What a walk leans on. -/
theorem laid_heap {W : World} (hs : W.ShapedOpen Tryz.prog) (h : laidMetH Tryz.prog laidL W) :
    W.heap[0]? = some (.cells #[rT 45] 143 (0, 0)) ∧ ∃ L1 : List Value, W.heap[1]? = some (.cells L1.toArray 396 (0, 0)) ∧ L1[113]? = some (.int .u8 192) := by
  constructor
  · obtain ⟨cs, h1, _, _⟩ := hs.1 0 _ _ (of_decide_eq_true (by kernel_rfl)) zero0
    have h2 := laid_handle h
    unfold World.var? at h2
    rw [glob0] at h2
    simp only [Option.bind_some, h1] at h2
    rw [h1, Option.some.inj h2]
  · obtain ⟨z, hz⟩ := zero1
    obtain ⟨cs, h1, _, _⟩ := hs.1 1 _ _ (of_decide_eq_true (by kernel_rfl)) hz
    refine ⟨cs.toList, by rw [h1], ?_⟩
    have h2 := (laid_props h).cell glob1 113 (by rw [propertiesTab_length]; decide)
    rw [props_113] at h2
    simpa [World.cell?, h1] using h2
/-- A world that meets the condition. -/
noncomputable def handW (os : Os) : World :=
  let w0 := World.holding Tryz.prog os ⟨#[], #[], []⟩
  { w0 with heap := w0.heap.modify 0 fun
      | .cells _ t frozen => .cells #[rT 45] t frozen
      | o => o }
noncomputable def laidW (os : Os) : World := (handW os).layVars Tryz.prog laidD
theorem laidW_os (os : Os) : (laidW os).os = os := World.layVars_os _ _ _
theorem laidD_all : (laidD.filter fun x => (laidD.map (·.1)).contains x.1) = laidD := by kernel_rfl
theorem laidD_none : (laidD.filter fun x => !(laidD.map (·.1)).contains x.1) = [] := by kernel_rfl
theorem laidW_met (os : Os) (args : Array Value) : laidMetH Tryz.prog laidL ((laidW os).forCall (fun _ _ => 0) ⟨#[], args, []⟩).memory := by
  refine laidMetH_of_parts ?_ ?_
  · rw [laid_data]
    have h : laidMet Tryz.prog laidD (laidW os) := laidMet_layVars (w0 := handW os) (laidD.map (·.1)) [] (by rw [laidD_all]; rfl) (by rw [laidD_all]; kernel_rfl) (by rw [laidD_all]; kernel_rfl) (by rw [laidD_none]; exact LaidIn.none)
    exact h.of_heap (by simp [World.memory, World.forCall, Input.heap])
  · rw [laid_hand]
    kernel_rfl
theorem laidW_shaped (os : Os) (args : Array Value) : ((laidW os).forCall (fun _ _ => 0) ⟨#[], args, []⟩).Shaped Tryz.prog := World.shaped_of_ZipB (by kernel_rfl) (by kernel_rfl)

/-- A run of goroutine 0 alone: what it reads besides, it leaves as it is. -/
theorem run_alone {f : FuncId} {fn : Func} {t₀ : Tmp} {args : Array Value} {W : World} {v0 : Value} (D : Nat → Prop) (hi : Tryz.prog.inits.idxOf? f = none) (hfn : Tryz.prog.funcs[f]? = some fn) (hres : fn.results = #[.tmp t₀])
    (h : ∀ φ, CallsE (soloF W φ) f args ((⟨fun b => W.heap[b]?⟩ : Hp).only D) fun e τ => e = .returned v0 ∧ ∀ b, D b → τ.f b = W.heap[b]?) :
    ∃ N last o w' t', runNT Tryz.prog (N + 1) (Conc.solo (G (Frame.enter Tryz.prog f args .normal) []) W) #[] = (.ended o w', t') ∧ runN Tryz.prog N (Conc.solo (G (Frame.enter Tryz.prog f args .normal) []) W) = .next last ∧ step Tryz.prog last = .ended o w' ∧
      Conc.Good Tryz.prog (fun v w' => v = v0 ∧ Below W.heap.size W w') last o w' t' := by
  have hd := Hp.only_dis (⟨fun b => W.heap[b]?⟩ : Hp) D
  have h1 := (h _).framed hd
  rw [Hp.only_uni] at h1
  refine solo_ends (R := fun v σ' => v = v0 ∧ (⟨fun b => W.heap[b]?⟩ : Hp).le σ') hi hfn hres (h1.mono ?_) ?_
  · rintro e τ ⟨σ', hd', rfl, rfl, hk⟩
    refine ⟨v0, rfl, rfl, fun b o hb => ?_⟩
    by_cases hD : D b
    · exact Hp.uni_some ((hk b hD).trans hb)
    · refine Hp.le_uni_right hd' b o (Hp.only_some (D := fun b => ¬ D b) hb hD)
  · rintro v σ' J w' ⟨rfl, hle⟩ hs hf
    have hb : ∀ k, k < W.heap.size → w'.heap[k]? = W.heap[k]? := by
      intro k hk
      obtain ⟨o, ho⟩ : ∃ o, W.heap[k]? = some o := ⟨_, Array.getElem?_eq_getElem hk⟩
      rw [ho]
      exact hs.heap (hle k o ho)
    refine ⟨rfl, hf.os, hf.tape, hf.output, ?_, hb⟩
    by_cases h0 : W.heap.size = 0
    · omega
    · have := hb (W.heap.size - 1) (by omega)
      have hlt : W.heap.size - 1 < W.heap.size := by omega
      rw [Array.getElem?_eq_getElem hlt] at this
      have := (Array.getElem?_eq_some_iff.1 this).1
      omega

/-- The kit's law for a call that starts goroutines ('returnsInLeavingWide_of_change_sized'), with a condition on the world besides and the world's shape. -/
theorem leaving_of_change {H : Type} {enc : TypeId × Value → H} {a : Assume} {C : Checked} {os : Os} {f : FuncId} {fn : Func} {s : ChangeSpec} {conds : List PathCond} {apart fresh handsOn again : Bool} {X : World → Array Value → Prop}
    (hX : ∀ (w w' : World) (args : Array Value), w.heap = w'.heap → X w args → X w' args)
    (own : ownKnob C.prog.godebug = none) (started : os.Started) (hfn : C.prog.funcs[f]? = some fn)
    (witness : ∃ (w : World) (tape : Tape) (i : Input), w.os = os ∧ (w.forCall tape i).Shaped C.prog ∧ i.vars = [] ∧ Input.okWide C.prog (w.forCall tape i) .any w.heap.size f i ∧
      ((s.pre enc C.prog fn conds apart (w.forCall tape i).memory i.args ∧ X (w.forCall tape i).memory i.args) ∧ sizedMet enc C.prog fn (OpenSpec.ofChange s) apart (w.forCall tape i).memory i.args) ∧ a.holds C.prog (lone (Frame.enter C.prog f i.args .normal) [] (w.forCall tape i)))
    (runs : ∀ (W : World) (base : Nat) (args : Array Value) (ds gs : List (DataW H)) (before : List MemPlace), W.ShapedOpen C.prog →
      (∀ (j : Nat) t v, fn.params[j]? = some t → args[j]? = some v → Value.okWide C.prog W .any base t v) →
      DataW.Whole enc C.prog fn.params.toList s.vars apart W args.toList ds gs before →
      (DataW.weightsEach C.prog (fn.params.toList ++ s.plain.varTypes C.prog) (ds ++ gs)).all (· ≤ reachBytes) = true → X W args →
      ∃ M last o w' t', runNT C.prog (M + 1) (Conc.solo (G (Frame.enter C.prog f args .normal) []) W) #[] = (.ended o w', t') ∧ runN C.prog M (Conc.solo (G (Frame.enter C.prog f args .normal) []) W) = .next last ∧
        step C.prog last = .ended o w' ∧ Conc.Good C.prog (fun v W' => s.post enc C.prog fn apart fresh handsOn again W args v W') last o w' t') :
    ReturnsInLeavingWide a C os f .any (fun w args => (s.pre enc C.prog fn conds apart w args ∧ X w args) ∧ sizedMet enc C.prog fn (OpenSpec.ofChange s) apart w args) (s.post enc C.prog fn apart fresh handsOn again) := by
  refine returnsInLeavingWide_of_good own started witness ?_
  intro w tape i _ hsh _ hok hpre _
  obtain ⟨_, _, _, fn', hfn', _, _, _, _, hval⟩ := hok
  obtain rfl : fn' = fn := Option.some.inj (hfn'.symm.trans hfn)
  obtain ⟨⟨⟨ds, gs, before, hw, _⟩, hx⟩, hz⟩ := hpre
  have hw' := DataW.Whole.of_heap (w' := w.forCall tape i) (by rfl) hw
  obtain ⟨M, last, o, w', t', h1, h2, h3, h4⟩ := runs (w.forCall tape i) w.heap.size i.args ds gs before hsh hval hw' (hz.weights hw) (hX _ _ _ (by rfl) hx)
  exact ⟨M, last, o, w', t', h1, h2, h3, h4.mono fun v hp => ChangeSpec.post_blind hp⟩
end Go.Qw
-- Beats: one good run from every start.
namespace Go.Proofs.YtpiabknabfbfhaaGreatDoor
open Go Go.Qw Go.Conc Go.ChangeShapes Go.WideShapes Go.ChangeAt Go.RowKit

theorem beats_run {a b c : Int} {W : World} (ha : (Lit.int .i64 a).wf = true) (hb : (Lit.int .i64 b).wf = true) (hc : (Lit.int .i64 c).wf = true) (hs : W.ShapedOpen Tryz.prog) (hl : laidMetH Tryz.prog laidL W) :
    ∃ N last o w' t', runNT Tryz.prog (N + 1) (Conc.solo (Go.Conc.G (Frame.enter Tryz.prog 8 #[iV a, iV b, iV c] .normal) []) W) #[] = (.ended o w', t') ∧ runN Tryz.prog N (Conc.solo (Go.Conc.G (Frame.enter Tryz.prog 8 #[iV a, iV b, iV c] .normal) []) W) = .next last ∧ step Tryz.prog last = .ended o w' ∧
      Conc.Good Tryz.prog (fun v w' => v = .bool true ∧ Below W.heap.size W w') last o w' t' := by
  obtain ⟨k0, L1, k1, k2⟩ := laid_heap hs hl
  have bound : ∀ {x : Int}, (Lit.int .i64 x).wf = true → -9223372036854775808 ≤ x ∧ x ≤ 9223372036854775807 := fun h => by
    simpa [Lit.wf, IntKind.min, IntKind.max, IntKind.signed, IntKind.bits] using h
  refine run_alone (fun k => k < 2) (by kernel_rfl) Tryz.func8 Tryz.results8 fun φ => ?_
  have h0 : ((⟨fun b => W.heap[b]?⟩ : Hp).only fun k => k < 2).f 0 = some (.cells #[rT 45] 143 (0, 0)) := Hp.only_some k0 (by decide)
  have h1 : ((⟨fun b => W.heap[b]?⟩ : Hp).only fun k => k < 2).f 1 = some (.cells L1.toArray 396 (0, 0)) := Hp.only_some k1 (by decide)
  refine (beats8_c (bound ha) (bound hb) (bound hc) (by decide) k2 h0 h1).mono fun e τ ⟨q1, q2, q3⟩ => ⟨q1, fun b hb => ?_⟩
  have hb2 : b < 2 := hb
  match b, hb2 with
  | 0, _ => rw [q2, h0, k0]
  | 1, _ => rw [q3, h1, k1]

set_option maxRecDepth 100000 in
theorem beats_lifted (os : Os) (started : os.Started) (H : Type) (enc : TypeId × Value → H) :
    ReturnsInLeavingWide {} Tryz.checked os 8 .any (fun w args => (Rows.beatsSpec.pre enc Tryz.prog Tryz.f8 [] false w args ∧ laidMetH Tryz.prog laidL w) ∧ sizedMet enc Tryz.prog Tryz.f8 (OpenSpec.ofChange Rows.beatsSpec) false w args)
      (Rows.beatsSpec.post enc Tryz.prog Tryz.f8 false true false false) := by
  refine leaving_of_change (C := Tryz.checked) (X := fun w _ => laidMetH Tryz.prog laidL w) (fun _ _ _ hh h => h.of_heap hh) own started Tryz.func8
    (ChangeSpec.witness_shaped (enc := enc) (C := Tryz.checked) (os := os) (X := fun w _ => laidMetH Tryz.prog laidL w) false (laidW os) #[.int .i64 0, .int .i64 0, .int .i64 0] 8 (laidW_os os)
      (laidW_shaped os _) (by kernel_rfl) (by kernel_rfl) (by kernel_rfl) (laidW_met os _)) ?_
  intro W base args ds gs before hsh hval0 hW _ hL
  have hval : ∀ (j : Nat) t v, Tryz.f8.params[j]? = some t → args[j]? = some v → Value.okWide Tryz.prog W .any base t v := hval0
  have hW' := hW
  obtain ⟨p, q, hA0, hV, rfl, _, _⟩ := hW
  have hA : DataW.TrodAll enc Tryz.prog W 0 (fun _ => true) true Tryz.f8.params.toList args.toList ds p := hA0
  rw [Tryz.params8] at hA hval
  obtain ⟨v0, v1, v2, d0, d1, d2, p0, p1, p2, rfl, rfl, rfl, h0, h1, h2⟩ := trodAll_three hA
  obtain ⟨rfl, rfl⟩ := trodVars_none hV
  obtain ⟨a, rfl, rfl, rfl, wa⟩ := open_int Tryz.underlying3 (hval 0 3 v0 rfl rfl) h0
  obtain ⟨b, rfl, rfl, rfl, wb⟩ := open_int Tryz.underlying3 (hval 1 3 v1 rfl rfl) h1
  obtain ⟨c, rfl, rfl, rfl, wc⟩ := open_int Tryz.underlying3 (hval 2 3 v2 rfl rfl) h2
  clear hA0 hval0
  obtain ⟨M, last, o, w', t', r1, r2, r3, r4⟩ := beats_run wa wb wc hsh hL
  refine ⟨M, last, o, w', t', r1, r2, r3, r4.mono fun v hF => ?_⟩
  obtain ⟨rfl, hbelow⟩ := hF
  simp only [List.append_nil] at hW'
  have hres : DataW.TrodAll enc Tryz.prog w' W.heap.size (fun _ => false) false [4] [.bool true] [.lit (.bool true)] [] := trodAll_mk1 (shut_bool Tryz.underlying4 true)
  have harg : DataW.TrodAll enc Tryz.prog w' 0 (fun b => decide (b < W.heap.size)) true [3, 3, 3] [.int .i64 a, .int .i64 b, .int .i64 c] [.lit (.int .i64 a), .lit (.int .i64 b), .lit (.int .i64 c)] [] := trodAll_mk3 (shut_int Tryz.underlying3 wa) (shut_int Tryz.underlying3 wb) (shut_int Tryz.underlying3 wc)
  exact ⟨_, _, _, [], [], [], hW', hres, harg, rfl, hbelow.frame _, fun h => by cases h⟩

end Go.Proofs.YtpiabknabfbfhaaGreatDoor
-- Beats: closed facts of the row.
namespace Go.Proofs.YtpiabknabfbfhaaGreatDoor
open Go
theorem bj0 : (Rows.beatsRow.wf (OpenSpec.ofChange Rows.beatsSpec)) = true := by kernel_rfl
theorem bj1 : (laidOutB Tryz.prog) = true := by kernel_rfl
theorem bj2 : (mapsRowed Tryz.prog) = true := by kernel_rfl
theorem bj3 : (Tryz.f8.params.all (Tryz.prog.readableRec ·)) = true := by kernel_rfl
theorem bj4 : (namedTie Tryz.prog Rows.beatsRow.named Rows.beatsSpec.vars) = true := by kernel_rfl
theorem bj5 : ((Rows.beatsRow.stops == [])) = true := by kernel_rfl
theorem bj6 : ((Tryz.prog.stops == [])) = true := by kernel_rfl
theorem bj7 : ((Rows.beatsRow.knobs == [])) = true := by kernel_rfl
theorem bj8 : ((Tryz.prog.stopKnobs == [])) = true := by kernel_rfl
theorem bj9 : ((Rows.beatsRow.inPlace == Tryz.prog.inPlace 8)) = true := by kernel_rfl
theorem bj10 : ((Rows.beatsRow.unfollowed == Tryz.prog.unfollowed 8)) = true := by kernel_rfl
theorem bj11 : ((Rows.beatsRow.recurses == Tryz.prog.recurses 8)) = true := by kernel_rfl
theorem bj12 : ((Rows.beatsRow.named == Tryz.prog.varsNamed 8)) = true := by kernel_rfl
theorem bj13 : ((Rows.beatsRow.maps == (Tryz.f8.params.toList ++ Rows.beatsSpec.plain.varTypes Tryz.prog).any (Tryz.prog.mapsRec ·))) = true := by kernel_rfl
theorem bj14 : ((Rows.beatsRow.ifaces == (Tryz.f8.params.toList ++ Rows.beatsSpec.plain.varTypes Tryz.prog).any (Tryz.prog.ifacesRec ·))) = true := by kernel_rfl
theorem bj15 : ((Rows.beatsRow.mapsOut == Tryz.prog.mapsAmong Tryz.f8.resultTypes.toList)) = true := by kernel_rfl
theorem bj16 : ((Rows.beatsRow.loops == (Tryz.f8.params.toList ++ Rows.beatsSpec.plain.varTypes Tryz.prog).any (Tryz.prog.loopsFrom ·))) = true := by kernel_rfl
theorem bj17 : ((Rows.beatsRow.wideKeys == (Tryz.f8.params.toList ++ Rows.beatsSpec.plain.varTypes Tryz.prog ++ Tryz.f8.resultTypes.toList).any (Tryz.prog.wideKeysFrom ·))) = true := by kernel_rfl
theorem bj18 : (Rows.beatsSpec.vars.all (Tryz.prog.varReadable ·)) = true := by kernel_rfl
theorem bj19 : (Tryz.f8.resultTypes.all (fun t => Tryz.prog.readableRec t && decide (t < Tryz.prog.types.size))) = true := by kernel_rfl
theorem bj20 : ((Rows.beatsRow.ifacesOut == Tryz.f8.resultTypes.toList.any (Tryz.prog.ifacesRec ·))) = true := by kernel_rfl
theorem bj21 : ((Rows.beatsRow.loopsOut == Tryz.f8.resultTypes.toList.any (Tryz.prog.loopsFrom ·))) = true := by kernel_rfl
theorem bj22 : ((Rows.beatsRow.plainKeys == Tryz.prog.plainKeys)) = true := by kernel_rfl
theorem bj23 : (Rows.beatsRow.shortTexts.isNone) = true := by kernel_rfl
theorem bj24 : (Tryz.prog.stopsHeard) = true := by kernel_rfl
theorem bj25 : (Tryz.prog.mayEnter) = true := by kernel_rfl
theorem bj26 : ((Rows.beatsRow.lifted == Tryz.prog.liftsFinal)) = true := by kernel_rfl
theorem bj27 : ((Tryz.prog.make == some Rows.beatsRow.make)) = true := by kernel_rfl
theorem bj28 : ((Rows.beatsRow.kinds == (if Rows.beatsRow.domain.isEmpty then [] else Tryz.f8.params.toList.map fun t => match Tryz.prog.underlying t with | some (.int k) => some k | _ => none))) = true := by kernel_rfl
theorem bj29 : ((Rows.beatsRow.pinned == Rows.beatsRow.pinnedBy)) = true := by kernel_rfl
theorem bj30 : ((Rows.beatsRow.veiled == (Tryz.f8.params.toList ++ Rows.beatsSpec.plain.varTypes Tryz.prog ++ Tryz.f8.resultTypes.toList).any (Tryz.prog.veiledRec ·))) = true := by kernel_rfl
theorem bj31 : (Rows.beatsRow.veiledFits Tryz.prog Tryz.f8.params.toList (Tryz.f8.params.toList ++ Rows.beatsSpec.plain.varTypes Tryz.prog ++ Tryz.f8.resultTypes.toList)) = true := by kernel_rfl
theorem and2 {a b : Bool} (h : a = true) (k : b = true) : (a && b) = true := by rw [h, k]; rfl
set_option maxRecDepth 100000 in
theorem bf_joined : joinedFacts Tryz.prog 8 Tryz.f8 Rows.beatsSpec Rows.beatsRow = true :=
  and2 (and2 (and2 (and2 (and2 (and2 (and2 (and2 (and2 (and2 (and2 (and2 (and2 (and2 (and2 (and2 (and2 (and2 (and2 (and2 (and2 (and2 (and2 (and2 (and2 (and2 (and2 (and2 (and2 (and2 (and2 bj0 bj1) bj2) bj3) bj4) bj5) bj6) bj7) bj8) bj9) bj10) bj11) bj12) bj13) bj14) bj15) bj16) bj17) bj18) bj19) bj20) bj21) bj22) bj23) bj24) bj25) bj26) bj27) bj28) bj29) bj30) bj31
theorem bf_named : Tryz.prog.funcNamed "queuewire/queuewirekeep.Beats" = some 8 := by kernel_rfl
theorem bf_inst : Tryz.f8.isInstance Tryz.prog Rows.beatsRow.origin Rows.beatsRow.targs := of_decide_eq_true (by kernel_rfl)
theorem bf_wrap : Tryz.f8.isWrapper Tryz.prog Rows.beatsRow.wrapper Rows.beatsRow.mainSum := by unfold Func.isWrapper; first | (rw [if_pos (by decide +kernel)]; kernel_rfl) | (rw [if_neg (by decide +kernel)]; exact ⟨rfl, rfl⟩)
end Go.Proofs.YtpiabknabfbfhaaGreatDoor
