/- The law Beats of queuewire returns true for every three integers: the row over the given program, tied to its text; no condition besides. (Part 33 of 40: QwPackets2 QwTick QwFeedG QwIs.) -/
import Derived.Test.YtpiabknabfbfhaaGreatDoorBeats24
import Derived.Test.YtpiabknabfbfhaaGreatDoorBeats32
set_option linter.all false
-- packets, where the one connection is gone.
namespace Go.Qw
open Nat renaming reduceLT → yA, reduceLeDiff → yB, reduceBEq → yC, reduceAdd → yD, reduceSub → yE, reduceMul → yF, reduceEqDiff → yG
open Int renaming reduceToNat → wA, reduceLE → wB, reduceLT → wC, reduceEq → wD, reduceAdd → wE, reduceSub → wF, reduceMul → wG, reduceNeg → wH
open Go Go.Conc Go.Proofs
section
variable {E : Env Tryz.prog} {σ : Hp}
set_option maxRecDepth 100000 in
theorem packets39_off {g br mc mq kq c chm k st kc : Nat} {cfg : Cfg} {clock last most messages nos id : Int} {lq : List (List UInt8 × Value × Nat)} {qs : List Nat} {cr : CR} (R : Rest σ g cfg br mc mq clock last most messages nos lq kq qs)
    (hmc : σ.f mc = some (kmap keyI [(id, pV c, st)] k)) (hst : st < k) (hc : σ.f c = some (connO g id chm cr)) (hph : cr.ph = 5) {lc : List (Int × Value × Nat)} (hcm : σ.f chm = some (kmap keyI lc kc)) (hcu : Uniq lc) (hcold : ∀ e ∈ lc, e.2.2 < kc) (hcn : (lc.map (·.2.2)).Nodup) (hcb : lc.length ≤ 12) (hci : Idle σ c lc) :
    CallsE E 39 #[pV g] σ fun e τ => (∃ v, e = .returned v ∧ Pk τ id cr.out v) ∧ τ.f mc = some (kmap keyI [] k) ∧ (∀ b o, b ≠ mc → b ≠ c → σ.f b = some o → τ.f b = some o) := by
  refine calls_enter Tryz.func39 Tryz.ntmps39 Tryz.results39 rfl (by simp) fun Q hQn hQr hQp => ?_
  have hg := R.hg
  simp only [gwO] at hg
  simp only [go_sem, yA, yB, yC, yD, yE, yF, yG, wA, wB, wC, wD, wE, wF, wG, wH, hg]
  refine call_post go_33 (sorted33_c hmc (by simpa using hst) (by simp) (by simp)) ?_ (fun ch σ' ⟨_, _, _, h, _⟩ => by cases h)
  rintro v τ ⟨hle, v', ys, hv, hp, _, hs, _⟩
  obtain rfl : v = v' := by injection hv
  obtain rfl : ys = [id] := by simpa using hp
  obtain ⟨base, cap, rfl, hget⟩ := hs.read
  obtain ⟨a, L, rfl, ha, hL⟩ := hget 0 (by simp)
  have hgτ := hle _ _ hg
  have hcτ := hle _ _ hc
  have hmcτ := hle _ _ hmc
  simp only [connO, CR.vals] at hcτ
  have c5 : cr.ph = 5 := hph
  simp only [go_sem, yA, yB, yC, yD, yE, yF, yG, wA, wB, wC, wD, wE, wF, wG, wH, List.length_singleton]
  refine wpC_loop (fun m ρ ds σ' => ds = [] ∧ m ≤ 1 ∧ ρ 0 = pV g ∧ ρ 2 = .slice none 0 0 ∧ ρ 14 = .slice (some ⟨a, 0, none⟩) 1 cap ∧ ρ 15 = iV 1 ∧ ρ 16 = iV (1 - (m : Int)) ∧ ((m = 1 ∧ σ' = τ) ∨ (m = 0 ∧ ∃ mb, τ.f mb = none ∧ σ' = (τ.set mb (kmap keyI [] 0)).set c (connO g id mb cr)))) 1 ?_ ?_
  · refine ⟨rfl, by omega, ?_, ?_, ?_, ?_, ?_, .inl ⟨rfl, rfl⟩⟩ <;> simp only [go_sem, yA, yB, yC, yD, yE, yF, yG, wA, wB, wC, wD, wE, wF, wG, wH]
    all_goals rfl
  · rintro m ρ ds σ' X ⟨rfl, hm1, h0, h2, h14, h15, h16, hc16⟩ hX
    rcases hc16 with ⟨rfl, rfl⟩ | ⟨rfl, mb, hmb, hσ'⟩
    · have c0 : (1 - ((1 : Nat) : Int)) < 1 := by decide
      have hL' : L[0]? = some (iV id) := hL
      have e16 : (1 - ((1 : Nat) : Int)) = 0 := rfl
      rw [e16] at h16
      have c1 : (0 : Int) < 1 := by decide
      have c1' : (0 : Int) < ((1 : Nat) : Int) := by decide
      simp only [go_sem, yA, yB, yC, yD, yE, yF, yG, wA, wB, wC, wD, wE, wF, wG, wH, h0, h14, h15, h16, c1, c1', ha, hL', hgτ]
      refine lookup_intro (b := mc) (k := id) ko72 (z := .pointer none) (by kernel_rfl) ?_ hmcτ ?_ ?_
      · simp only [go_sem, yA, yB, yC, yD, yE, yF, yG, wA, wB, wC, wD, wE, wF, wG, wH]
      · simp only [go_sem, yA, yB, yC, yD, yE, yF, yG, wA, wB, wC, wD, wE, wF, wG, wH, keyI]
      have hval : ((mfind [(id, pV c, st)] id).map (·.2.1)).getD (.pointer none) = pV c := by simp [mfind]
      simp only [go_sem, yA, yB, yC, yD, yE, yF, yG, wA, wB, wC, wD, wE, wF, wG, wH, hval, Bool.false_eq_true, if_false, hcτ, c5, h16]
      have hcτ' : σ'.f c = some (connO g id chm cr) := hcτ
      refine call_post go_53 (leave53_c hcτ' (hle _ _ hcm) hcu hcold hcn hcb (hci.le hle)) ?_ (fun ch σ' ⟨h, _⟩ => by cases h)
      rintro w σ2 ⟨hw, mb, hmb, rfl⟩
      obtain rfl : w = .tuple #[] := by injection hw
      simp only [go_sem, yA, yB, yC, yD, yE, yF, yG, wA, wB, wC, wD, wE, wF, wG, wH, h16]
      refine hX 0 _ _ _ _ (by omega) ⟨rfl, by omega, ?_, ?_, ?_, ?_, ?_, .inr ⟨rfl, mb, hmb, rfl⟩⟩ (Hp.le_refl _) <;> simp only [go_sem, yA, yB, yC, yD, yE, yF, yG, wA, wB, wC, wD, wE, wF, wG, wH, h0, h2, h14, h15]
      all_goals rfl
    · have c0 : ¬ (1 - ((0 : Nat) : Int)) < 1 := by decide
      have hcτ0 := hle _ _ hc
      have nmb : ∀ {x o}, τ.f x = some o → ¬ x = mb := fun h e => by subst e; rw [hmb] at h; cases h
      have hlemb : τ.le (τ.set mb (kmap keyI [] 0)) := fun x o h => by rw [Hp.f_ne (nmb h)]; exact h
      have hc1 : (τ.set mb (kmap keyI [] 0)).f c = some (connO g id chm cr) := hlemb _ _ hcτ0
      have R1 : Rest σ' g cfg br mc mq clock last most messages nos lq kq qs := by rw [hσ']; exact ((R.le hle).le hlemb).set hc1
      have hk1 : ∀ x o, x ≠ c → σ.f x = some o → σ'.f x = some o := fun x o hx h => by rw [hσ', Hp.f_ne hx]; exact hlemb _ _ (hle _ _ h)
      have nmc : mc ≠ c := fun e => by subst e; rw [hmc] at hc; simp [kmap, connO] at hc
      have hmcτ := hk1 _ _ nmc hmc
      have hgτ := R1.hg
      have hcτ : σ'.f c = some (connO g id mb cr) := by rw [hσ']; exact Hp.f_set_same _ _
      simp only [gwO] at hgτ
      simp only [connO, CR.vals] at hcτ
      simp only [go_sem, yA, yB, yC, yD, yE, yF, yG, wA, wB, wC, wD, wE, wF, wG, wH, h0, h14, h15, h16, c0, hgτ]
      refine call_ret go_54 (serve54_c R1.hb R1.hm R.hold R.hn R.hbig R.hqs R1.hst) ?_
      simp only [go_sem, yA, yB, yC, yD, yE, yF, yG, wA, wB, wC, wD, wE, wF, wG, wH, h0, hgτ]
      refine call_post go_33 (sorted33_c hmcτ (by simpa using hst) (by simp) (by simp)) ?_ (fun ch σ' ⟨_, _, _, h, _⟩ => by cases h)
      rintro v τ2 ⟨hle2, v', ys, hv, hp, _, hs, _⟩
      obtain rfl : v = v' := by injection hv
      obtain rfl : ys = [id] := by simpa using hp
      obtain ⟨base, cap2, rfl, hget2⟩ := hs.read
      obtain ⟨a2, L2, rfl, ha2, hL2⟩ := hget2 0 (by simp)
      have hg2 := hle2 _ _ hgτ
      have hc2 := hle2 _ _ hcτ
      have hmc2 := hle2 _ _ hmcτ
      have hle02 := hle2
      simp only [go_sem, yA, yB, yC, yD, yE, yF, yG, wA, wB, wC, wD, wE, wF, wG, wH, List.length_singleton]
      refine wpC_loop (fun m ρ ds σ'' => ds = [] ∧ m ≤ 1 ∧ ρ 0 = pV g ∧ ρ 43 = .slice (some ⟨a2, 0, none⟩) 1 cap2 ∧ ρ 44 = iV 1 ∧ ρ 45 = iV (1 - (m : Int)) ∧ ((m = 1 ∧ ρ 6 = .slice none 0 0 ∧ σ'' = τ2) ∨ (m = 0 ∧ Pk σ'' id cr.out (ρ 6) ∧ σ''.f mc = some (kmap keyI [] k) ∧ ∀ x o, x ≠ mc → x ≠ c → σ'.f x = some o → σ''.f x = some o))) 1 ?_ ?_
      · refine ⟨rfl, by omega, ?_, ?_, ?_, ?_, .inl ⟨rfl, ?_, rfl⟩⟩ <;> simp only [go_sem, yA, yB, yC, yD, yE, yF, yG, wA, wB, wC, wD, wE, wF, wG, wH, h0]
        all_goals rfl
      · rintro m ρ ds σ'' X' ⟨rfl, hm1, h0, h43, h44, h45, hcase⟩ hX'
        rcases hcase with ⟨rfl, h6, rfl⟩ | ⟨rfl, hpk, hm3, hle3⟩
        · have e16 : (1 - ((1 : Nat) : Int)) = 0 := rfl
          rw [e16] at h45
          have c1 : (0 : Int) < 1 := by decide
          have c1' : (0 : Int) < ((1 : Nat) : Int) := by decide
          have hL' : L2[0]? = some (iV id) := hL2
          simp only [go_sem, yA, yB, yC, yD, yE, yF, yG, wA, wB, wC, wD, wE, wF, wG, wH, h0, h43, h44, h45, c1, c1', ha2, hL', hg2]
          refine lookup_intro (b := mc) (k := id) ko72 (z := .pointer none) (by kernel_rfl) ?_ hmc2 ?_ ?_
          · simp only [go_sem, yA, yB, yC, yD, yE, yF, yG, wA, wB, wC, wD, wE, wF, wG, wH]
          · simp only [go_sem, yA, yB, yC, yD, yE, yF, yG, wA, wB, wC, wD, wE, wF, wG, wH, keyI]
          have hval : ((mfind [(id, pV c, st)] id).map (·.2.1)).getD (.pointer none) = pV c := by simp [mfind]
          simp only [go_sem, yA, yB, yC, yD, yE, yF, yG, wA, wB, wC, wD, wE, wF, wG, wH, hval, Bool.false_eq_true, if_false, hc2]
          by_cases ho : cr.out = []
          · have hg3 : ∀ o, (σ''.set c o).f g = some (.cells [iV cfg.channels, iV cfg.frame, iV cfg.beat, iV cfg.queue, iV cfg.body, pV br, iV clock, iV last, .map (some mc)].toArray 74 (0, 0)) := fun o => by rw [Hp.f_ne]; exact hg2; intro e; rw [e, hc2] at hg2; simp at hg2
            have hm4 : ∀ o, (σ''.set c o).f mc = some (kmap keyI [(id, pV c, st)] k) := fun o => by rw [Hp.f_ne nmc]; exact hmc2
            simp only [go_sem, yA, yB, yC, yD, yE, yF, yG, wA, wB, wC, wD, wE, wF, wG, wH, ho, hc2, c5, decide_true, Bool.not_true, h45, h0, hg3]
            refine delete_intro (b := mc) (k := id) ko72 (by simp [Uniq]) ?_ (hm4 _) ?_ ?_
            · simp only [go_sem, yA, yB, yC, yD, yE, yF, yG, wA, wB, wC, wD, wE, wF, wG, wH]
            · simp only [go_sem, yA, yB, yC, yD, yE, yF, yG, wA, wB, wC, wD, wE, wF, wG, wH, keyI]
            have hdel : mdel [(id, pV c, st)] id = [] := by simp [mdel]
            rw [hdel]
            simp only [go_sem, yA, yB, yC, yD, yE, yF, yG, wA, wB, wC, wD, wE, wF, wG, wH, h45]
            refine hX' 0 _ _ _ _ (by omega) ⟨rfl, by omega, ?_, ?_, ?_, ?_, .inr ⟨rfl, ?_, ?_, ?_⟩⟩ (Hp.le_refl _)
            · simp only [go_sem, yA, yB, yC, yD, yE, yF, yG, wA, wB, wC, wD, wE, wF, wG, wH, h0]
            · simp only [go_sem, yA, yB, yC, yD, yE, yF, yG, wA, wB, wC, wD, wE, wF, wG, wH, h43]
            · simp only [go_sem, yA, yB, yC, yD, yE, yF, yG, wA, wB, wC, wD, wE, wF, wG, wH, h44]
            · simp only [go_sem, yA, yB, yC, yD, yE, yF, yG, wA, wB, wC, wD, wE, wF, wG, wH]; rfl
            · simp only [go_sem, yA, yB, yC, yD, yE, yF, yG, wA, wB, wC, wD, wE, wF, wG, wH, h6, ho]
              exact .none
            · exact Hp.f_set_same _ _
            · intro x o n1 n2 hx
              rw [Hp.f_ne n1, Hp.f_ne n2]
              exact hle02 _ _ hx
          · simp only [go_sem, yA, yB, yC, yD, yE, yF, yG, wA, wB, wC, wD, wE, wF, wG, wH, ho, hc2, c5, decide_false, Bool.not_false, h6]
            refine fun bn hbn => ?_
            have nc : ¬ c = bn := fun e => by subst e; rw [hc2] at hbn; cases hbn
            have hcn : ∀ o, (σ''.set bn o).f c = some (.cells [pV g, iV id, iV cr.ph, sV cr.rest, .bool cr.greeted, .map (some mb), iV cr.most, iV cr.frame, iV cr.beat, iV cr.sent, iV cr.recv, sV cr.out].toArray 90 (0, 0)) := fun o => by rw [Hp.f_ne nc]; exact hc2
            simp only [go_sem, yA, yB, yC, yD, yE, yF, yG, wA, wB, wC, wD, wE, wF, wG, wH, h6]
            refine append_intro el43 (base := none) (l := 0) (c := 0) (n := 1) (old := #[]) (new := #[iV id, sV cr.out]) (by kernel_rfl) ?_ ?_ rfl ?_ (by decide) (by decide) (fun hc => by omega) ?_
            · simp only [go_sem, yA, yB, yC, yD, yE, yF, yG, wA, wB, wC, wD, wE, wF, wG, wH]
            · simp only [go_sem, yA, yB, yC, yD, yE, yF, yG, wA, wB, wC, wD, wE, wF, wG, wH]; rfl
            · simp only [go_sem, yA, yB, yC, yD, yE, yF, yG, wA, wB, wC, wD, wE, wF, wG, wH]
              show firstC _ 2 1 _ = _
              simp [firstC, cellsOf, Hp.f_set_same]
            intro _ b cap3 hb hcap
            have nb : ¬ b = bn := fun e => by subst e; rw [Hp.f_set_same] at hb; cases hb
            have nbc : ¬ c = b := fun e => by subst e; rw [hcn] at hb; cases hb
            have hcb : ∀ o o', ((σ''.set bn o).set b o').f c = some (.cells [pV g, iV id, iV cr.ph, sV cr.rest, .bool cr.greeted, .map (some mb), iV cr.most, iV cr.frame, iV cr.beat, iV cr.sent, iV cr.recv, sV cr.out].toArray 90 (0, 0)) := fun o o' => by rw [Hp.f_ne nbc]; exact hcn o
            have hbb : ∀ {x o}, σ''.f x = some o → x ≠ bn ∧ x ≠ b := by
              intro x o hx
              have n1 : x ≠ bn := fun e => by subst e; rw [hbn] at hx; cases hx
              exact ⟨n1, fun e => by subst e; rw [Hp.f_ne n1, hx] at hb; cases hb⟩
            have ncg : ¬ g = c := by intro e; rw [e, hc2] at hg2; simp at hg2
            have hg3 : ∀ o o' o'', (((σ''.set bn o).set b o').set c o'').f g = some (.cells [iV cfg.channels, iV cfg.frame, iV cfg.beat, iV cfg.queue, iV cfg.body, pV br, iV clock, iV last, .map (some mc)].toArray 74 (0, 0)) := fun o o' o'' => by rw [Hp.f_ne ncg, Hp.f_ne (hbb hg2).2, Hp.f_ne (hbb hg2).1]; exact hg2
            have hm4 : ∀ o o' o'', (((σ''.set bn o).set b o').set c o'').f mc = some (kmap keyI [(id, pV c, st)] k) := fun o o' o'' => by rw [Hp.f_ne nmc, Hp.f_ne (hbb hmc2).2, Hp.f_ne (hbb hmc2).1]; exact hmc2
            simp only [go_sem, yA, yB, yC, yD, yE, yF, yG, wA, wB, wC, wD, wE, wF, wG, wH, h0, h43, h44, h45, hcb, c5, hg3]
            refine delete_intro (b := mc) (k := id) ko72 (by simp [Uniq]) ?_ (hm4 _ _ _) ?_ ?_
            · simp only [go_sem, yA, yB, yC, yD, yE, yF, yG, wA, wB, wC, wD, wE, wF, wG, wH]
            · simp only [go_sem, yA, yB, yC, yD, yE, yF, yG, wA, wB, wC, wD, wE, wF, wG, wH, keyI]
            have hdel : mdel [(id, pV c, st)] id = [] := by simp [mdel]
            rw [hdel]
            simp only [go_sem, yA, yB, yC, yD, yE, yF, yG, wA, wB, wC, wD, wE, wF, wG, wH, h0, h43, h44, h45]
            have hσ'' : ∀ x o, σ'.f x = some o → x ≠ bn ∧ x ≠ b ∧ σ''.f x = some o := by
              intro x o hx
              have h1 := hle02 _ _ hx
              have n1 : x ≠ bn := fun e => by subst e; rw [hbn] at h1; cases h1
              exact ⟨n1, (fun e => by subst e; rw [Hp.f_ne n1, h1] at hb; cases hb), h1⟩
            refine hX' 0 _ _ _ _ (by omega) ⟨rfl, by omega, ?_, ?_, ?_, ?_, .inr ⟨rfl, ?_, ?_, ?_⟩⟩ (Hp.le_refl _)
            · simp only [go_sem, yA, yB, yC, yD, yE, yF, yG, wA, wB, wC, wD, wE, wF, wG, wH, h0]
            · simp only [go_sem, yA, yB, yC, yD, yE, yF, yG, wA, wB, wC, wD, wE, wF, wG, wH, h43]
            · simp only [go_sem, yA, yB, yC, yD, yE, yF, yG, wA, wB, wC, wD, wE, wF, wG, wH, h44]
            · simp only [go_sem, yA, yB, yC, yD, yE, yF, yG, wA, wB, wC, wD, wE, wF, wG, wH]; rfl
            · simp only [go_sem, yA, yB, yC, yD, yE, yF, yG, wA, wB, wC, wD, wE, wF, wG, wH]
              obtain ⟨pad, hpad⟩ : ∃ pad : List Value, (#[iV id, sV cr.out] ++ Builtin.zeroCells el43.zero (cap3 - 1) : Array Value) = ([iV id, sV cr.out] ++ pad).toArray := ⟨(Builtin.zeroCells el43.zero (cap3 - 1)).toList, by apply Array.ext'; simp⟩
              refine Pk.one cr.out b cap3 pad ho ?_
              have nbm : ¬ b = mc := fun e => (hbb hmc2).2 e.symm
              rw [Hp.f_ne nbm, Hp.f_ne (fun e => nbc e.symm), Hp.f_set_same, hpad]
              rfl
            · exact Hp.f_set_same _ _
            · intro x o m1 m2 hx
              obtain ⟨n1, n2, h1⟩ := hσ'' x o hx
              rw [Hp.f_ne m1, Hp.f_ne m2, Hp.f_ne n2, Hp.f_ne n1]
              exact h1
        · have c0 : ¬ (1 - ((0 : Nat) : Int)) < 1 := by decide
          simp only [go_sem, yA, yB, yC, yD, yE, yF, yG, wA, wB, wC, wD, wE, wF, wG, wH, h0, h43, h44, h45, c0]
          exact hQr _ _ σ'' _ resIs_one (Hp.le_refl _) ⟨⟨_, rfl, by simpa [up] using hpk⟩, hm3, fun x o m1 m2 hx => hle3 x o m1 m2 (hk1 x o m2 hx)⟩
end
end Go.Qw
-- Tick, where there is one connection.
namespace Go.Qw
open Nat renaming reduceLT → yA, reduceLeDiff → yB, reduceBEq → yC, reduceAdd → yD, reduceSub → yE, reduceMul → yF, reduceEqDiff → yG
open Int renaming reduceToNat → wA, reduceLE → wB, reduceLT → wC, reduceEq → wD, reduceAdd → wE, reduceSub → wF, reduceMul → wG, reduceNeg → wH
open Go Go.Conc Go.Proofs

def tickC (clock : Int) (cr : CR) : CR :=
  if cr.beat = 0 then cr else if clock - cr.recv ≥ 2 * cr.beat then { cr with ph := 5 } else if clock - cr.sent ≥ cr.beat then { cr with out := cr.out ++ frameB 8 0 [], sent := clock } else cr

theorem CallsE.weak {P : Program} {E : Env P} {f : FuncId} {args : Array Value} {σ τ : Hp} {R : Fin → Hp → Prop} (h : CallsE E f args τ R) (k : τ.le σ) : CallsE E f args σ R := fun cs => (h cs).weak k

section
variable {E : Env Tryz.prog} {σ : Hp}
set_option maxRecDepth 100000 in
theorem tick28_c {g br mc c chm k st : Nat} {cfg : Cfg} {clock last id : Int} {cr : CR} (hg : σ.f g = some (gwO cfg br mc clock last))
    (hmc : σ.f mc = some (kmap keyI [(id, pV c, st)] k)) (hst : st < k) (hc : σ.f c = some (connO g id chm cr))
    (b1 : 0 ≤ clock ∧ clock ≤ 1000000) (b2 : 0 ≤ cr.recv ∧ cr.recv ≤ 1000000) (b3 : 0 ≤ cr.sent ∧ cr.sent ≤ 1000000) (b4 : 0 ≤ cr.beat ∧ cr.beat ≤ 1000000) (b5 : cr.out.length ≤ 1000000) {R : Fin → Hp → Prop}
    (h39 : CallsE E 39 #[pV g] ((σ.set g (gwO cfg br mc (clock + 1) last)).set c (connO g id chm (tickC (clock + 1) cr))) R) :
    CallsE E 28 #[pV g] σ R := by
  refine calls_enter Tryz.func28 Tryz.ntmps28 Tryz.results28 rfl (by simp) fun Q hQn hQr hQp => ?_
  have ngc : ¬ g = c := fun e => by subst e; rw [hg] at hc; simp [gwO, connO] at hc
  have nmg : ¬ mc = g := fun e => by subst e; rw [hg] at hmc; simp [gwO, kmap] at hmc
  have nmc : ¬ mc = c := fun e => by subst e; rw [hc] at hmc; simp [connO, kmap] at hmc
  have w1 : IntKind.i64.wrap (clock + 1) = clock + 1 := wrap64 (by omega) (by omega)
  obtain ⟨σ1, hσ1⟩ : ∃ σ1, σ1 = σ.set g (gwO cfg br mc (clock + 1) last) := ⟨_, rfl⟩
  have hg1 : σ1.f g = some (gwO cfg br mc (clock + 1) last) := by rw [hσ1]; exact Hp.f_set_same _ _
  have hm1 : σ1.f mc = some (kmap keyI [(id, pV c, st)] k) := by rw [hσ1, Hp.f_ne nmg]; exact hmc
  have hc1 : σ1.f c = some (connO g id chm cr) := by rw [hσ1, Hp.f_ne (fun e => ngc e.symm)]; exact hc
  rw [← hσ1] at h39
  have hg' := hg
  simp only [gwO] at hg'
  simp only [go_sem, yA, yB, yC, yD, yE, yF, yG, wA, wB, wC, wD, wE, wF, wG, wH, hg', w1]
  have e1 : σ.set g (.cells [iV cfg.channels, iV cfg.frame, iV cfg.beat, iV cfg.queue, iV cfg.body, pV br, iV (clock + 1), iV last, .map (some mc)].toArray 74 (0, 0)) = σ1 := by rw [hσ1]; rfl
  simp only [List.set_cons_succ, List.set_cons_zero, e1]
  refine range_intro (b := mc) ko72 ?_ hm1 ?_
  · simp only [go_sem, yA, yB, yC, yD, yE, yF, yG, wA, wB, wC, wD, wE, wF, wG, wH]
  intro it hit
  have nit : ∀ {x o}, σ1.f x = some o → ¬ x = it := fun h e => by subst e; rw [hit] at h; cases h
  have hle1 : σ1.le (σ1.set it (.mapIter (some mc) k #[] k)) := fun x o h => by rw [Hp.f_ne (nit h)]; exact h
  simp only [go_sem, yA, yB, yC, yD, yE, yF, yG, wA, wB, wC, wD, wE, wF, wG, wH]
  refine wpC_loop (fun m ρ ds σ' => ds = [] ∧ ρ 0 = pV g ∧ ρ 17 = pV it ∧ ((m = 1 ∧ σ1.le σ' ∧ σ'.f it = some (.mapIter (some mc) k #[] k)) ∨ (m = 0 ∧ (σ1.set c (connO g id chm (tickC (clock + 1) cr))).le σ' ∧ σ'.f it = some (.mapIter (some mc) k #[st] k)))) 1 ?_ ?_
  · refine ⟨rfl, ?_, ?_, .inl ⟨rfl, hle1, Hp.f_set_same _ _⟩⟩ <;> simp only [go_sem, yA, yB, yC, yD, yE, yF, yG, wA, wB, wC, wD, wE, wF, wG, wH]
  · rintro m ρ ds σ' X ⟨rfl, h0, h17, ⟨rfl, hle, hitσ⟩ | ⟨rfl, hle, hitσ⟩⟩ hX
    · simp only [go_sem, yA, yB, yC, yD, yE, yF, yG, wA, wB, wC, wD, wE, wF, wG, wH]
      refine next_intro (b := mc) h17 hitσ (hle _ _ hm1) (by simpa using hst) ?_ ?_
      · intro e he hs
        obtain rfl : e = (id, pV c, st) := by simpa using he
        have nit' : ∀ {x o}, σ1.f x = some o → ¬ x = it := nit
        have hm2 : ∀ o, (σ'.set it o).f mc = some (kmap keyI [(id, pV c, st)] k) := fun o => by rw [Hp.f_ne (nit hm1)]; exact hle _ _ hm1
        have hc2 : ∀ o, (σ'.set it o).f c = some (connO g id chm cr) := fun o => by rw [Hp.f_ne (nit hc1)]; exact hle _ _ hc1
        have hg2 : ∀ o, (σ'.set it o).f g = some (gwO cfg br mc (clock + 1) last) := fun o => by rw [Hp.f_ne (nit hg1)]; exact hle _ _ hg1
        have hle2 : ∀ o, σ1.le (σ'.set it o) := fun o x y h => by rw [Hp.f_ne (nit h)]; exact hle _ _ h
        have hi2 : (σ'.set it (.mapIter (some mc) k ((#[] : Array Nat).push st) k)).f it = some (.mapIter (some mc) k ((#[] : Array Nat).push st) k) := Hp.f_set_same _ _
        have hm3 := hm2 (.mapIter (some mc) k ((#[] : Array Nat).push st) k)
        have hc3 := hc2 (.mapIter (some mc) k ((#[] : Array Nat).push st) k)
        have hg3 := hg2 (.mapIter (some mc) k ((#[] : Array Nat).push st) k)
        have hle3 := hle2 (.mapIter (some mc) k ((#[] : Array Nat).push st) k)
        generalize σ'.set it (.mapIter (some mc) k ((#[] : Array Nat).push st) k) = σ3 at *
        simp only [go_sem, yA, yB, yC, yD, yE, yF, yG, wA, wB, wC, wD, wE, wF, wG, wH]
        refine entry_intro (f := keyI) (e := (id, pV c, st)) (b := mc) (since := k) (seen := #[]) ?_ hi2 hm3 (by simp) (by simp) ?_
        · simp only [go_sem, yA, yB, yC, yD, yE, yF, yG, wA, wB, wC, wD, wE, wF, wG, wH, h17]
        have hc4 := hc3
        have hg4 := hg3
        simp only [connO, CR.vals] at hc4
        simp only [gwO] at hg4
        simp only [go_sem, yA, yB, yC, yD, yE, yF, yG, wA, wB, wC, wD, wE, wF, wG, wH, h0, hc4]
        have nci : ¬ c = it := nit hc1
        have finish : ∀ (cr' : CR) (σ4 : Hp), cr' = tickC (clock + 1) cr → σ4 = σ3.set c (connO g id chm cr') → (σ1.set c (connO g id chm (tickC (clock + 1) cr))).le σ4 ∧ σ4.f it = some (.mapIter (some mc) k #[st] k) := by
          rintro cr' σ4 rfl rfl
          refine ⟨set_ext hle3 _ _, ?_⟩
          rw [Hp.f_ne (fun e => nci e.symm)]; exact hi2
        have w2 : IntKind.i64.wrap (clock + 1 - cr.recv) = clock + 1 - cr.recv := wrap64 (by omega) (by omega)
        have w3 : IntKind.i64.wrap (2 * cr.beat) = 2 * cr.beat := wrap64 (by omega) (by omega)
        have w4 : IntKind.i64.wrap (clock + 1 - cr.sent) = clock + 1 - cr.sent := wrap64 (by omega) (by omega)
        by_cases t1 : cr.beat = 0
        · have ht : cr = tickC (clock + 1) cr := by simp [tickC, t1]
          obtain ⟨k1, k2⟩ := finish cr σ3 ht (Hp.set_id hc3).symm
          simp only [go_sem, yA, yB, yC, yD, yE, yF, yG, wA, wB, wC, wD, wE, wF, wG, wH, t1]
          refine hX 0 _ _ _ _ (by omega) ⟨rfl, ?_, ?_, .inr ⟨rfl, k1, k2⟩⟩ (Hp.le_refl _) <;> simp only [go_sem, yA, yB, yC, yD, yE, yF, yG, wA, wB, wC, wD, wE, wF, wG, wH, h0, h17]
        · simp only [go_sem, yA, yB, yC, yD, yE, yF, yG, wA, wB, wC, wD, wE, wF, wG, wH, t1]
          refine wpC_draw [0,1,2,3,4,5,6,7,8,9,10,11,12] (fun _ _ _ => False) (by kernel_rfl) (by decide +kernel) (fun _ _ _ _ h => h.elim) ?_
          simp only [go_sem, yA, yB, yC, yD, yE, yF, yG, wA, wB, wC, wD, wE, wF, wG, wH, h0, hg4, hc4, w2, w3]
          by_cases t2 : clock + 1 - cr.recv ≥ 2 * cr.beat
          · have ht : { cr with ph := 5 } = tickC (clock + 1) cr := by simp [tickC, t1]; omega
            simp only [go_sem, yA, yB, yC, yD, yE, yF, yG, wA, wB, wC, wD, wE, wF, wG, wH, t2, hc4]
            obtain ⟨k1, k2⟩ := finish _ _ ht rfl
            refine hX 0 _ _ _ _ (by omega) ⟨rfl, ?_, ?_, .inr ⟨rfl, k1, k2⟩⟩ (Hp.le_refl _) <;> simp only [go_sem, yA, yB, yC, yD, yE, yF, yG, wA, wB, wC, wD, wE, wF, wG, wH, h0, h17]
          · simp only [go_sem, yA, yB, yC, yD, yE, yF, yG, wA, wB, wC, wD, wE, wF, wG, wH, t2]
            refine wpC_draw [0,1,2,3,4,5,6,7,8,9,10,11] (fun _ _ _ => False) (by kernel_rfl) (by decide +kernel) (fun _ _ _ _ h => h.elim) ?_
            simp only [go_sem, yA, yB, yC, yD, yE, yF, yG, wA, wB, wC, wD, wE, wF, wG, wH, h0, hg4, hc4, w4]
            by_cases t3 : clock + 1 - cr.sent ≥ cr.beat
            · have ht : { cr with out := cr.out ++ frameB 8 0 [], sent := clock + 1 } = tickC (clock + 1) cr := by simp [tickC, t1]; rw [if_neg (by omega), if_pos (by omega)]
              simp only [go_sem, yA, yB, yC, yD, yE, yF, yG, wA, wB, wC, wD, wE, wF, wG, wH, t3]
              refine call_ret go_44 (frame_c (kind := 8) (ch := 0) (p := []) (by decide) (by decide) (by decide)) ?_
              simp only [go_sem, yA, yB, yC, yD, yE, yF, yG, wA, wB, wC, wD, wE, wF, wG, wH]
              refine call_ret go_43 (send_c hc4 hg4 rfl rfl rfl rfl (by rw [frameB_length]; simp; omega) ngc) ?_
              simp only [go_sem, yA, yB, yC, yD, yE, yF, yG, wA, wB, wC, wD, wE, wF, wG, wH]
              obtain ⟨k1, k2⟩ := finish _ _ ht rfl
              refine hX 0 _ _ _ _ (by omega) ⟨rfl, ?_, ?_, .inr ⟨rfl, k1, k2⟩⟩ (Hp.le_refl _) <;> simp only [go_sem, yA, yB, yC, yD, yE, yF, yG, wA, wB, wC, wD, wE, wF, wG, wH, h0, h17]
            · have ht : cr = tickC (clock + 1) cr := by simp [tickC, t1]; rw [if_neg (by omega), if_neg (by omega)]
              simp only [go_sem, yA, yB, yC, yD, yE, yF, yG, wA, wB, wC, wD, wE, wF, wG, wH, t3]
              obtain ⟨k1, k2⟩ := finish cr σ3 ht (Hp.set_id hc3).symm
              refine hX 0 _ _ _ _ (by omega) ⟨rfl, ?_, ?_, .inr ⟨rfl, k1, k2⟩⟩ (Hp.le_refl _) <;> simp only [go_sem, yA, yB, yC, yD, yE, yF, yG, wA, wB, wC, wD, wE, wF, wG, wH, h0, h17]
      · intro hs
        have := hs (id, pV c, st) (by simp)
        simp at this
    · simp only [go_sem, yA, yB, yC, yD, yE, yF, yG, wA, wB, wC, wD, wE, wF, wG, wH]
      refine next_intro (b := mc) (f := keyI) (l := [(id, pV c, st)]) h17 hitσ ?_ (by simpa using hst) ?_ ?_
      · refine hle _ _ ?_
        rw [Hp.f_ne nmc]; exact hm1
      · intro e he hs
        obtain rfl : e = (id, pV c, st) := by simpa using he
        simp at hs
      · intro hs
        simp only [go_sem, yA, yB, yC, yD, yE, yF, yG, wA, wB, wC, wD, wE, wF, wG, wH, h0]
        refine call_post go_39 (h39.weak hle) ?_ ?_
        · intro v τ hR
          simp only [go_sem, yA, yB, yC, yD, yE, yF, yG, wA, wB, wC, wD, wE, wF, wG, wH]
          exact hQr _ _ _ _ resIs_one (Hp.le_refl _) hR
        · intro ch τ hR
          exact hQp _ _ _ _ (Hp.le_refl _) hR
end
end Go.Qw
-- Feed of the gateway.
namespace Go.Qw
open Nat renaming reduceLT → yA, reduceLeDiff → yB, reduceBEq → yC, reduceAdd → yD, reduceSub → yE, reduceMul → yF, reduceEqDiff → yG
open Int renaming reduceToNat → wA, reduceLE → wB, reduceLT → wC, reduceEq → wD, reduceAdd → wE, reduceSub → wF, reduceMul → wG, reduceNeg → wH
open Go Go.Conc Go.Proofs
section
variable {E : Env Tryz.prog} {σ : Hp}
set_option maxRecDepth 100000 in
theorem feed25_none {g br mc k : Nat} {cfg : Cfg} {clock last id : Int} {ch : List UInt8} {l : List (Int × Value × Nat)} (hg : σ.f g = some (gwO cfg br mc clock last)) (hmc : σ.f mc = some (kmap keyI l k)) (hid : mfind l id = none) :
    CallsE E 25 #[pV g, iV id, sV ch] σ fun e τ => e = .returned (.tuple #[.slice none 0 0, .iface 51 (iV 3)]) ∧ τ = σ := by
  refine calls_enter Tryz.func25 Tryz.ntmps25 Tryz.results25 rfl (by simp) fun Q hQn hQr hQp => ?_
  simp only [gwO] at hg
  simp only [go_sem, yA, yB, yC, yD, yE, yF, yG, wA, wB, wC, wD, wE, wF, wG, wH, hg]
  refine lookup_intro (b := mc) (k := id) ko72 (z := .pointer none) (by kernel_rfl) ?_ hmc ?_ ?_
  · simp only [go_sem, yA, yB, yC, yD, yE, yF, yG, wA, wB, wC, wD, wE, wF, wG, wH]
  · simp only [go_sem, yA, yB, yC, yD, yE, yF, yG, wA, wB, wC, wD, wE, wF, wG, wH, keyI]
  have hval : ((mfind l id).map (·.2.1)).getD (.pointer none) = .pointer none := by rw [hid]; rfl
  simp only [go_sem, yA, yB, yC, yD, yE, yF, yG, wA, wB, wC, wD, wE, wF, wG, wH, hval, Bool.false_eq_true, if_false]
  exact hQr _ _ _ _ resIs_two (Hp.le_refl _) ⟨by simp [up], rfl⟩
set_option maxRecDepth 100000 in
theorem feed25_empty {g br mc k c st : Nat} {cfg : Cfg} {clock last id : Int} {l : List (Int × Value × Nat)} (hg : σ.f g = some (gwO cfg br mc clock last)) (hmc : σ.f mc = some (kmap keyI l k)) (hid : mfind l id = some (id, pV c, st)) {R : Fin → Hp → Prop}
    (h39 : CallsE E 39 #[pV g] σ fun e τ => ∃ v, e = .returned v ∧ R (.returned (.tuple #[v, .nilIface])) τ) :
    CallsE E 25 #[pV g, iV id, sV []] σ R := by
  refine calls_enter Tryz.func25 Tryz.ntmps25 Tryz.results25 rfl (by simp) fun Q hQn hQr hQp => ?_
  simp only [gwO] at hg
  simp only [go_sem, yA, yB, yC, yD, yE, yF, yG, wA, wB, wC, wD, wE, wF, wG, wH, hg]
  refine lookup_intro (b := mc) (k := id) ko72 (z := .pointer none) (by kernel_rfl) ?_ hmc ?_ ?_
  · simp only [go_sem, yA, yB, yC, yD, yE, yF, yG, wA, wB, wC, wD, wE, wF, wG, wH]
  · simp only [go_sem, yA, yB, yC, yD, yE, yF, yG, wA, wB, wC, wD, wE, wF, wG, wH, keyI]
  have hval : ((mfind l id).map (·.2.1)).getD (.pointer none) = pV c := by rw [hid]; rfl
  simp only [go_sem, yA, yB, yC, yD, yE, yF, yG, wA, wB, wC, wD, wE, wF, wG, wH, hval, Bool.false_eq_true, if_false, decide_true, Bool.not_true]
  refine call_post go_39 h39 ?_ (fun ch σ' ⟨_, h, _⟩ => by cases h)
  rintro v τ ⟨v', hv, hR⟩
  obtain rfl : v = v' := by injection hv
  simp only [go_sem, yA, yB, yC, yD, yE, yF, yG, wA, wB, wC, wD, wE, wF, wG, wH]
  exact hQr _ _ _ _ resIs_two (Hp.le_refl _) (by simpa [up] using hR)
set_option maxRecDepth 100000 in
theorem feed25_c {g br mc k c st chm : Nat} {cfg : Cfg} {clock last id : Int} {cr : CR} {ch : List UInt8} {l : List (Int × Value × Nat)} (hg : σ.f g = some (gwO cfg br mc clock last)) (hmc : σ.f mc = some (kmap keyI l k)) (hid : mfind l id = some (id, pV c, st))
    (hc : σ.f c = some (connO g id chm cr)) (hch : ch ≠ []) {R : Fin → Hp → Prop}
    (h40 : CallsE E 40 #[pV c, sV ch] (σ.set c (connO g id chm { cr with recv := clock })) fun e τ => e = .returned (.tuple #[]) ∧ CallsE E 39 #[pV g] τ fun e' τ' => ∃ v, e' = .returned v ∧ R (.returned (.tuple #[v, .nilIface])) τ') :
    CallsE E 25 #[pV g, iV id, sV ch] σ R := by
  refine calls_enter Tryz.func25 Tryz.ntmps25 Tryz.results25 rfl (by simp) fun Q hQn hQr hQp => ?_
  simp only [gwO] at hg
  simp only [go_sem, yA, yB, yC, yD, yE, yF, yG, wA, wB, wC, wD, wE, wF, wG, wH, hg]
  refine lookup_intro (b := mc) (k := id) ko72 (z := .pointer none) (by kernel_rfl) ?_ hmc ?_ ?_
  · simp only [go_sem, yA, yB, yC, yD, yE, yF, yG, wA, wB, wC, wD, wE, wF, wG, wH]
  · simp only [go_sem, yA, yB, yC, yD, yE, yF, yG, wA, wB, wC, wD, wE, wF, wG, wH, keyI]
  have hval : ((mfind l id).map (·.2.1)).getD (.pointer none) = pV c := by rw [hid]; rfl
  have e1 : σ.set c (connO g id chm { cr with recv := clock }) = σ.set c (.cells [pV g, iV id, iV cr.ph, sV cr.rest, .bool cr.greeted, .map (some chm), iV cr.most, iV cr.frame, iV cr.beat, iV cr.sent, iV clock, sV cr.out].toArray 90 (0, 0)) := rfl
  simp only [connO, CR.vals] at hc
  simp only [go_sem, yA, yB, yC, yD, yE, yF, yG, wA, wB, wC, wD, wE, wF, wG, wH, hval, Bool.false_eq_true, if_false, hch, decide_false, Bool.not_false, hg, hc]
  rw [e1] at h40
  refine call_post go_40 h40 ?_ (fun ch σ' ⟨h, _⟩ => by cases h)
  rintro w τ0 ⟨hw, h39⟩
  obtain rfl : w = .tuple #[] := by injection hw
  simp only [go_sem, yA, yB, yC, yD, yE, yF, yG, wA, wB, wC, wD, wE, wF, wG, wH]
  refine call_post go_39 h39 ?_ (fun ch σ' ⟨_, h, _⟩ => by cases h)
  rintro v τ ⟨v', hv, hR⟩
  obtain rfl : v = v' := by injection hv
  simp only [go_sem, yA, yB, yC, yD, yE, yF, yG, wA, wB, wC, wD, wE, wF, wG, wH]
  exact hQr _ _ _ _ resIs_two (Hp.le_refl _) (by simpa [up] using hR)
end
end Go.Qw
-- A frame: is it this method; its faults.
namespace Go.Qw
open Nat renaming reduceLT → yA, reduceLeDiff → yB, reduceBEq → yC, reduceAdd → yD, reduceSub → yE, reduceMul → yF, reduceEqDiff → yG
open Int renaming reduceToNat → wA, reduceLE → wB, reduceLT → wC, reduceEq → wD, reduceAdd → wE, reduceSub → wF, reduceMul → wG, reduceNeg → wH
open Go Go.Conc Go.Proofs

structure FR where
  u : Un
  s : List UInt8
  cl : Int
  me : Int
def FR.vals (f : FR) : List Value := [iV f.u.kind, iV f.u.channel, sV f.u.payload, .bool f.u.greeting, .bool f.u.wrong, sV f.s, iV f.cl, iV f.me]
def frO (f : FR) : Obj := .cells f.vals.toArray 293 (0, 0)
def FR.isM (f : FR) (cl : Int) (ms : List Int) : Bool := decide (f.u.kind = 1) && (decide (f.cl = cl) && decide (f.me ∈ ms))

section
variable {E : Env Tryz.prog} {σ : Hp}
set_option maxRecDepth 100000 in
theorem index247_c {bm cap : Nat} {ms : List Int} {x : Int} {pad : List Value} (hb : σ.f bm = some (.cells (ms.map iV ++ pad).toArray 3 (0, 0))) (hn : ms.length ≤ 1000) :
    CallsE E 247 #[.slice (some ⟨bm, 0, none⟩) ms.length cap, iV x] σ fun e τ => (∃ k : Int, e = .returned (iV k) ∧ (0 ≤ k ↔ x ∈ ms)) ∧ τ = σ := by
  refine calls_enter Tryz.func247 Tryz.ntmps247 Tryz.results247 rfl (by simp) fun Q hQn hQr hQp => ?_
  simp only [go_sem, yA, yB, yC, yD, yE, yF, yG, wA, wB, wC, wD, wE, wF, wG, wH]
  refine wpC_loop (fun m ρ ds σ' => ds = [] ∧ ρ 0 = .slice (some ⟨bm, 0, none⟩) ms.length cap ∧ ρ 1 = iV x ∧ ρ 7 = iV ms.length ∧ σ' = σ ∧ ∃ i : Nat, i + m = ms.length ∧ ρ 8 = iV i ∧ x ∉ ms.take i) ms.length ?_ ?_
  · refine ⟨rfl, ?_, ?_, ?_, rfl, 0, by simp, ?_, by simp⟩ <;> simp only [go_sem, yA, yB, yC, yD, yE, yF, yG, wA, wB, wC, wD, wE, wF, wG, wH]
    rfl
  · rintro m ρ ds σ' X ⟨rfl, h0, h1, h7, rfl, i, him, h8, hnot⟩ hX
    cases m with
    | zero =>
      have c0 : ¬ (i : Int) < (ms.length : Int) := by omega
      simp only [go_sem, yA, yB, yC, yD, yE, yF, yG, wA, wB, wC, wD, wE, wF, wG, wH, h0, h1, h7, h8, c0]
      rw [List.take_of_length_le (by omega)] at hnot
      exact hQr _ _ _ _ resIs_one (Hp.le_refl _) ⟨⟨-1, by simp [up], by simp [hnot]⟩, rfl⟩
    | succ m =>
      have hi : i < ms.length := by omega
      have c0 : (i : Int) < (ms.length : Int) := by omega
      have c1 : (0 : Int) ≤ (i : Int) := by omega
      have hL : (ms.map iV ++ pad)[i]? = some (iV ms[i]) := by rw [List.getElem?_append_left (by simpa using hi)]; simp [hi]
      have w1 : IntKind.i64.wrap ((i : Int) + 1) = ((i + 1 : Nat) : Int) := by rw [wrap64 (by omega) (by omega)]; rfl
      by_cases hx : x = ms[i]
      · simp only [go_sem, yA, yB, yC, yD, yE, yF, yG, wA, wB, wC, wD, wE, wF, wG, wH, h0, h1, h7, h8, c0, c1, hb, hL, hx, decide_true]
        refine hQr _ _ _ _ resIs_one (Hp.le_refl _) ⟨⟨(i : Int), ?_, ?_⟩, rfl⟩
        · simp [up]
        · exact ⟨fun _ => by rw [hx]; exact List.getElem_mem hi, fun _ => by omega⟩
      · simp only [go_sem, yA, yB, yC, yD, yE, yF, yG, wA, wB, wC, wD, wE, wF, wG, wH, h0, h1, h7, h8, c0, c1, hb, hL, hx, decide_false, w1]
        refine hX m _ _ _ _ (by omega) ⟨rfl, ?_, ?_, ?_, rfl, i + 1, by omega, ?_, ?_⟩ (Hp.le_refl _)
        · simp only [go_sem, yA, yB, yC, yD, yE, yF, yG, wA, wB, wC, wD, wE, wF, wG, wH, h0]
        · simp only [go_sem, yA, yB, yC, yD, yE, yF, yG, wA, wB, wC, wD, wE, wF, wG, wH, h1]
        · simp only [go_sem, yA, yB, yC, yD, yE, yF, yG, wA, wB, wC, wD, wE, wF, wG, wH, h7]
        · simp only [go_sem, yA, yB, yC, yD, yE, yF, yG, wA, wB, wC, wD, wE, wF, wG, wH, w1]
        · intro hm
          rw [List.take_succ_eq_append_getElem hi, List.mem_append] at hm
          rcases hm with h | h
          · exact hnot h
          · exact hx (by simpa using h)
set_option maxRecDepth 100000 in
theorem contains232_c {bm cap : Nat} {ms : List Int} {x : Int} {pad : List Value} (hb : σ.f bm = some (.cells (ms.map iV ++ pad).toArray 3 (0, 0))) (hn : ms.length ≤ 1000) :
    CallsE E 232 #[.slice (some ⟨bm, 0, none⟩) ms.length cap, iV x] σ fun e τ => e = .returned (.bool (decide (x ∈ ms))) ∧ τ = σ := by
  refine calls_enter Tryz.func232 Tryz.ntmps232 Tryz.results232 rfl (by simp) fun Q hQn hQr hQp => ?_
  simp only [go_sem, yA, yB, yC, yD, yE, yF, yG, wA, wB, wC, wD, wE, wF, wG, wH]
  refine call_post go_247 (index247_c hb hn) ?_ (fun ch σ' ⟨⟨_, h, _⟩, _⟩ => by cases h)
  rintro v τ ⟨⟨k, hv, hk⟩, rfl⟩
  obtain rfl : v = iV k := by injection hv
  simp only [go_sem, yA, yB, yC, yD, yE, yF, yG, wA, wB, wC, wD, wE, wF, wG, wH]
  exact hQr _ _ _ _ resIs_one (Hp.le_refl _) ⟨by simp [up, hk], rfl⟩
set_option maxRecDepth 100000 in
theorem is193_c {bf bm cap : Nat} {f : FR} {cl : Int} {ms : List Int} {pad : List Value} (hf : σ.f bf = some (frO f)) (hb : σ.f bm = some (.cells (ms.map iV ++ pad).toArray 3 (0, 0))) (hn : ms.length ≤ 1000) :
    CallsE E 193 #[pV bf, iV cl, .slice (some ⟨bm, 0, none⟩) ms.length cap] σ fun e τ => e = .returned (.bool (f.isM cl ms)) ∧ τ = σ := by
  refine calls_enter Tryz.func193 Tryz.ntmps193 Tryz.results193 rfl (by simp) fun Q hQn hQr hQp => ?_
  simp only [frO, FR.vals] at hf
  by_cases h1 : f.u.kind = 1
  · by_cases h2 : f.cl = cl
    · simp only [go_sem, yA, yB, yC, yD, yE, yF, yG, wA, wB, wC, wD, wE, wF, wG, wH, hf, h1, h2, decide_true]
      refine call_ret go_232 (contains232_c hb hn) ?_
      simp only [go_sem, yA, yB, yC, yD, yE, yF, yG, wA, wB, wC, wD, wE, wF, wG, wH]
      refine hQr _ _ _ _ resIs_one (Hp.le_refl _) ⟨?_, rfl⟩
      simp [up, FR.isM, h1, h2]
    · simp only [go_sem, yA, yB, yC, yD, yE, yF, yG, wA, wB, wC, wD, wE, wF, wG, wH, hf, h1, h2, decide_true, decide_false]
      refine hQr _ _ _ _ resIs_one (Hp.le_refl _) ⟨?_, rfl⟩
      simp [up, FR.isM, h1, h2]
  · simp only [go_sem, yA, yB, yC, yD, yE, yF, yG, wA, wB, wC, wD, wE, wF, wG, wH, hf, h1, decide_false]
    refine hQr _ _ _ _ resIs_one (Hp.le_refl _) ⟨?_, rfl⟩
    simp [up, FR.isM, h1]
end
end Go.Qw
