/- The law Beats of queuewire returns true for every three integers: the row over the given program, tied to its text; no condition besides. (Part 35 of 40: QwChan QwOpen QwDefer QwHandle.) -/
import Derived.Test.YtpiabknabfbfhaaGreatDoorBeats09
import Derived.Test.YtpiabknabfbfhaaGreatDoorBeats19
import Derived.Test.YtpiabknabfbfhaaGreatDoorBeats34
set_option linter.all false
-- A frame on a channel, to its method; onChannel where the channel is there.
namespace Go.Qw
open Nat renaming reduceLT → yA, reduceLeDiff → yB, reduceBEq → yC, reduceAdd → yD, reduceSub → yE, reduceMul → yF, reduceEqDiff → yG
open Int renaming reduceToNat → wA, reduceLE → wB, reduceLT → wC, reduceEq → wD, reduceAdd → wE, reduceSub → wF, reduceMul → wG, reduceNeg → wH
open Go Go.Conc Go.Proofs
section
variable {E : Env Tryz.prog} {σ : Hp}
set_option maxRecDepth 100000 in
theorem method246_declare {h bf : Nat} {f : FR} {v : Value} {R : Hp → Prop} (hf : σ.f bf = some (frO f)) (m1 : f.isM 20 [10] = false) (m2 : f.isM 20 [40] = false) (m3 : f.isM 50 [10] = true)
    (h268 : CallsE E 268 #[pV h, pV bf] σ fun e τ => e = .returned v ∧ R τ) : CallsE E 246 #[pV h, pV bf] σ fun e τ => e = .returned v ∧ R τ := by
  refine calls_enter Tryz.func246 Tryz.ntmps246 Tryz.results246 rfl (by simp) fun Q hQn hQr hQp => ?_
  simp only [go_sem, yA, yB, yC, yD, yE, yF, yG, wA, wB, wC, wD, wE, wF, wG, wH]
  refine fun b1 hb1 => ?_
  have k1 : ∀ o, σ.le (σ.set b1 o) := fun o x y h => by rw [Hp.f_ne (fun e => by subst e; rw [hb1] at h; cases h)]; exact h
  simp only [go_sem, yA, yB, yC, yD, yE, yF, yG, wA, wB, wC, wD, wE, wF, wG, wH]
  refine call_ret go_193 (is193_c (ms := [10]) (pad := []) (k1 _ _ _ hf) (Hp.f_set_same _ _) (by simp)) ?_
  simp only [go_sem, yA, yB, yC, yD, yE, yF, yG, wA, wB, wC, wD, wE, wF, wG, wH, m1]
  refine fun b2 hb2 => ?_
  have k2 : ∀ o o', σ.le ((σ.set b1 o).set b2 o') := fun o o' x y h => by rw [Hp.f_ne (fun e => by subst e; rw [k1 _ _ _ h] at hb2; cases hb2)]; exact k1 _ _ _ h
  simp only [go_sem, yA, yB, yC, yD, yE, yF, yG, wA, wB, wC, wD, wE, wF, wG, wH]
  refine call_ret go_193 (is193_c (ms := [40]) (pad := []) (k2 _ _ _ _ hf) (Hp.f_set_same _ _) (by simp)) ?_
  simp only [go_sem, yA, yB, yC, yD, yE, yF, yG, wA, wB, wC, wD, wE, wF, wG, wH, m2]
  refine fun b3 hb3 => ?_
  have k3 : ∀ o o' o'', σ.le (((σ.set b1 o).set b2 o').set b3 o'') := fun o o' o'' x y h => by rw [Hp.f_ne (fun e => by subst e; rw [k2 _ _ _ _ h] at hb3; cases hb3)]; exact k2 _ _ _ _ h
  simp only [go_sem, yA, yB, yC, yD, yE, yF, yG, wA, wB, wC, wD, wE, wF, wG, wH]
  refine call_ret go_193 (is193_c (ms := [10]) (pad := []) (k3 _ _ _ _ _ hf) (Hp.f_set_same _ _) (by simp)) ?_
  simp only [go_sem, yA, yB, yC, yD, yE, yF, yG, wA, wB, wC, wD, wE, wF, wG, wH, m3]
  refine call_post go_268 (h268.weak (k3 _ _ _)) ?_ (fun ch σ' ⟨h, _⟩ => by cases h)
  rintro w τ ⟨hw, hR⟩
  obtain rfl : w = v := by injection hw
  simp only [go_sem, yA, yB, yC, yD, yE, yF, yG, wA, wB, wC, wD, wE, wF, wG, wH]
  exact hQr _ _ _ _ resIs_one (Hp.le_refl _) ⟨by simp [up], hR⟩
set_option maxRecDepth 100000 in
theorem framed231_method {h c un co bf : Nat} {no : Int} {hr : HR} {f : FR} {v : Value} {R : Hp → Prop} (hh : σ.f h = some (chanO c no un co hr)) (hf : σ.f bf = some (frO f)) (hcl : hr.closing = false) (hw : hr.want ≤ 1) (hk : f.u.kind = 1)
    (h246 : CallsE E 246 #[pV h, pV bf] σ fun e τ => e = .returned v ∧ R τ) : CallsE E 231 #[pV h, pV bf] σ fun e τ => e = .returned v ∧ R τ := by
  refine calls_enter Tryz.func231 Tryz.ntmps231 Tryz.results231 rfl (by simp) fun Q hQn hQr hQp => ?_
  simp only [chanO, HR.vals] at hh
  simp only [frO, FR.vals] at hf
  simp only [go_sem, yA, yB, yC, yD, yE, yF, yG, wA, wB, wC, wD, wE, wF, wG, wH, hh, hcl]
  refine wpC_draw [0,1,2,3,4,5,6,7,8,9,10] (fun _ _ _ => False) (by kernel_rfl) (by decide +kernel) (fun _ _ _ _ h => h.elim) ?_
  simp only [go_sem, yA, yB, yC, yD, yE, yF, yG, wA, wB, wC, wD, wE, wF, wG, wH, hh, hf]
  refine max_intro (a := hr.want) (b := 1) ?_ ?_ ?_
  · simp only [go_sem, yA, yB, yC, yD, yE, yF, yG, wA, wB, wC, wD, wE, wF, wG, wH]
  · simp only [go_sem, yA, yB, yC, yD, yE, yF, yG, wA, wB, wC, wD, wE, wF, wG, wH]
  have hmax : max hr.want 1 = 1 := by omega
  rw [hmax]
  refine ⟨by (repeat (first | exact keeps_nil | (apply keeps_cons; (focus decide +kernel)) | (refine keeps_rd rfl (by simp only [go_sem, yA, yB, yC, yD, yE, yF, yG, wA, wB, wC, wD, wE, wF, wG, wH, hf, hh]) ?_))), ?_⟩
  simp only [go_sem, yA, yB, yC, yD, yE, yF, yG, wA, wB, wC, wD, wE, wF, wG, wH, hk, hf, decide_true, Bool.not_true]
  refine call_post go_246 h246 ?_ (fun ch σ' ⟨h, _⟩ => by cases h)
  rintro w τ ⟨hw, hR⟩
  obtain rfl : w = v := by injection hw
  simp only [go_sem, yA, yB, yC, yD, yE, yF, yG, wA, wB, wC, wD, wE, wF, wG, wH]
  exact hQr _ _ _ _ resIs_one (Hp.le_refl _) ⟨by simp [up], hR⟩
set_option maxRecDepth 100000 in
theorem onChannel192_there {g c chm h bf k st : Nat} {id : Int} {cr : CR} {f : FR} {l : List (Int × Value × Nat)} {v : Value} {R : Hp → Prop} (hc : σ.f c = some (connO g id chm cr)) (hm : σ.f chm = some (kmap keyI l k)) (hf : σ.f bf = some (frO f)) (hmost : f.u.channel ≤ cr.most) (hl : mfind l f.u.channel = some (f.u.channel, pV h, st))
    (h231 : CallsE E 231 #[pV h, pV bf] σ fun e τ => e = .returned v ∧ R τ) : CallsE E 192 #[pV c, pV bf] σ fun e τ => e = .returned v ∧ R τ := by
  refine calls_enter Tryz.func192 Tryz.ntmps192 Tryz.results192 rfl (by simp) fun Q hQn hQr hQp => ?_
  simp only [connO, CR.vals] at hc
  simp only [frO, FR.vals] at hf
  have c1 : ¬ f.u.channel > cr.most := by omega
  simp only [go_sem, yA, yB, yC, yD, yE, yF, yG, wA, wB, wC, wD, wE, wF, wG, wH]
  refine wpC_draw [0,1,2,3,4,5,6,7,8,9] (fun _ _ _ => False) (by kernel_rfl) (by decide +kernel) (fun _ _ _ _ h => h.elim) ?_
  simp only [go_sem, yA, yB, yC, yD, yE, yF, yG, wA, wB, wC, wD, wE, wF, wG, wH, hc, hf, c1]
  refine wpC_draw [0,1,2,3,4,5,6,7,8,9,10] (fun _ _ _ => False) (by kernel_rfl) (by decide +kernel) (fun _ _ _ _ h => h.elim) ?_
  simp only [go_sem, yA, yB, yC, yD, yE, yF, yG, wA, wB, wC, wD, wE, wF, wG, wH, hc, hf]
  refine lookup_intro (b := chm) (k := f.u.channel) (l := l) (c := k) ko88 (z := .pointer none) (by kernel_rfl) ?_ hm ?_ ?_
  · simp only [go_sem, yA, yB, yC, yD, yE, yF, yG, wA, wB, wC, wD, wE, wF, wG, wH]
  · simp only [go_sem, yA, yB, yC, yD, yE, yF, yG, wA, wB, wC, wD, wE, wF, wG, wH]; rfl
  have hval : ((mfind l f.u.channel).map (·.2.1)).getD (.pointer none) = pV h := by rw [hl]; rfl
  refine ⟨by (repeat (first | exact keeps_nil | (apply keeps_cons; (focus decide +kernel)) | (refine keeps_rd rfl (by simp only [go_sem, yA, yB, yC, yD, yE, yF, yG, wA, wB, wC, wD, wE, wF, wG, wH, hf, hc]) ?_))), ?_⟩
  simp only [go_sem, yA, yB, yC, yD, yE, yF, yG, wA, wB, wC, wD, wE, wF, wG, wH, hval, Bool.false_eq_true, if_false]
  refine call_post go_231 h231 ?_ (fun ch σ' ⟨h, _⟩ => by cases h)
  rintro w τ ⟨hw, hR⟩
  obtain rfl : w = v := by injection hw
  simp only [go_sem, yA, yB, yC, yD, yE, yF, yG, wA, wB, wC, wD, wE, wF, wG, wH]
  exact hQr _ _ _ _ resIs_one (Hp.le_refl _) ⟨by simp [up], hR⟩
end
end Go.Qw
-- onChannel: a channel is opened.
namespace Go.Qw
open Nat renaming reduceLT → yA, reduceLeDiff → yB, reduceBEq → yC, reduceAdd → yD, reduceSub → yE, reduceMul → yF, reduceEqDiff → yG
open Int renaming reduceToNat → wA, reduceLE → wB, reduceLT → wC, reduceEq → wD, reduceAdd → wE, reduceSub → wF, reduceMul → wG, reduceNeg → wH
open Go Go.Conc Go.Proofs
section
variable {E : Env Tryz.prog} {σ : Hp}
set_option maxRecDepth 100000 in
theorem onChannel192_new {g br mc c chm bf k : Nat} {cfg : Cfg} {clock last id : Int} {no : Nat} {cr : CR} {f : FR} {s0 : List UInt8} {l : List (Int × Value × Nat)} (hg : σ.f g = some (gwO cfg br mc clock last)) (hc : σ.f c = some (connO g id chm cr)) (hm : σ.f chm = some (kmap keyI l k)) (hu : Uniq l) (hf : σ.f bf = some (frO f)) (hno : f.u.channel = (no : Int)) (hno2 : no < 1000)
    (hmost : (no : Int) ≤ cr.most) (hl : mfind l (no : Int) = none) (hM : f.isM 20 [10] = true) (ht : pText f.s = some (s0, [])) (hout : cr.out.length ≤ 1000000) :
    CallsE E 192 #[pV c, pV bf] σ fun e τ => e = .returned .nilIface ∧ ∃ un co h, σ.f un = none ∧ σ.f co = none ∧ σ.f h = none ∧ un ≠ co ∧ h ≠ un ∧ h ≠ co ∧
      τ = (((((σ.set bf (frO { f with s := [] })).set un (kmap keyI [] 0)).set co (kmap keyS [] 0)).set h (chanO c no un co ⟨false, 0, 0, 0, [], [], 0⟩)).set chm (kmap keyI (mput l (no : Int) (pV h) k) (mclock l (no : Int) k))).set c (connO g id chm { cr with out := cr.out ++ callB no 20 11 [.long 0], sent := clock }) := by
  refine calls_enter Tryz.func192 Tryz.ntmps192 Tryz.results192 rfl (by simp) fun Q hQn hQr hQp => ?_
  have hf' := hf
  have hc' := hc
  simp only [connO, CR.vals] at hc'
  simp only [frO, FR.vals, hno] at hf'
  have c1 : ¬ (no : Int) > cr.most := by omega
  simp only [go_sem, yA, yB, yC, yD, yE, yF, yG, wA, wB, wC, wD, wE, wF, wG, wH]
  refine wpC_draw [0,1,2,3,4,5,6,7,8,9] (fun _ _ _ => False) (by kernel_rfl) (by decide +kernel) (fun _ _ _ _ h => h.elim) ?_
  simp only [go_sem, yA, yB, yC, yD, yE, yF, yG, wA, wB, wC, wD, wE, wF, wG, wH, hc', hf', c1]
  refine wpC_draw [0,1,2,3,4,5,6,7,8,9,10] (fun _ _ _ => False) (by kernel_rfl) (by decide +kernel) (fun _ _ _ _ h => h.elim) ?_
  simp only [go_sem, yA, yB, yC, yD, yE, yF, yG, wA, wB, wC, wD, wE, wF, wG, wH, hc', hf']
  refine lookup_intro (b := chm) (k := (no : Int)) (l := l) (c := k) ko88 (z := .pointer none) (by kernel_rfl) ?_ hm ?_ ?_
  · simp only [go_sem, yA, yB, yC, yD, yE, yF, yG, wA, wB, wC, wD, wE, wF, wG, wH]
  · simp only [go_sem, yA, yB, yC, yD, yE, yF, yG, wA, wB, wC, wD, wE, wF, wG, wH]; rfl
  have hval : ((mfind l (no : Int)).map (·.2.1)).getD (.pointer none) = .pointer none := by rw [hl]; rfl
  refine ⟨by (repeat (first | exact keeps_nil | (apply keeps_cons; (focus decide +kernel)) | (refine keeps_rd rfl (by simp only [go_sem, yA, yB, yC, yD, yE, yF, yG, wA, wB, wC, wD, wE, wF, wG, wH, hf', hc']) ?_))), ?_⟩
  simp only [go_sem, yA, yB, yC, yD, yE, yF, yG, wA, wB, wC, wD, wE, wF, wG, wH, hval, Bool.false_eq_true, if_false]
  refine fun bm hbm => ?_
  have nb : ∀ {x o}, σ.f x = some o → ¬ x = bm := fun h e => by subst e; rw [h] at hbm; cases hbm
  have hle1 : ∀ o, σ.le (σ.set bm o) := fun o x y h => by rw [Hp.f_ne (nb h)]; exact h
  simp only [go_sem, yA, yB, yC, yD, yE, yF, yG, wA, wB, wC, wD, wE, wF, wG, wH]
  refine call_ret go_193 (is193_c (ms := [10]) (pad := []) (hle1 _ _ _ hf) (Hp.f_set_same _ _) (by simp)) ?_
  simp only [go_sem, yA, yB, yC, yD, yE, yF, yG, wA, wB, wC, wD, wE, wF, wG, wH, hM, Bool.not_true]
  have hf1 := hle1 (.cells #[iV 10] 3 (0, 0)) _ _ hf
  simp only [frO, FR.vals, hno] at hf1
  refine call_arg go_228 (text_c hf1 rfl) (fun w rest hr => ?_) (fun hr => by rw [ht] at hr; cases hr)
  rw [ht] at hr
  obtain ⟨rfl, rfl⟩ : s0 = w ∧ [] = rest := by simpa using hr
  simp only [go_sem, yA, yB, yC, yD, yE, yF, yG, wA, wB, wC, wD, wE, wF, wG, wH]
  refine call_post go_229 (end_ok (Hp.f_set_same _ _) rfl) ?_ (fun ch σ' ⟨h, _⟩ => by cases h)
  rintro v σ5 ⟨hv, hσ5⟩
  obtain rfl : v = .tuple #[] := by injection hv
  have ncf : ¬ c = bf := fun e => by subst e; rw [hf] at hc; simp [connO, frO] at hc
  have ngf : ¬ g = bf := fun e => by subst e; rw [hf] at hg; simp [gwO, frO] at hg
  have nmf : ¬ chm = bf := fun e => by subst e; rw [hf] at hm; simp [kmap, frO] at hm
  have ngc : ¬ g = c := fun e => by subst e; rw [hg] at hc; simp [gwO, connO] at hc
  have hle5 : (σ.set bf (frO { f with s := [] })).le σ5 := by
    rw [hσ5]
    have e : (Obj.cells (([iV f.u.kind, iV no, sV f.u.payload, .bool f.u.greeting, .bool f.u.wrong, sV f.s, iV f.cl, iV f.me] : List Value).set 5 (.string (B []))).toArray 293) = frO { f with s := [] } := by
      simp [frO, FR.vals, hno]
    rw [e]
    exact set_ext (hle1 _) _ _
  clear hσ5
  have hc5 := hle5 _ _ ((Hp.f_ne ncf).trans hc)
  have hg5 := hle5 _ _ ((Hp.f_ne ngf).trans hg)
  have hm5 := hle5 _ _ ((Hp.f_ne nmf).trans hm)
  have hf5 := hle5 _ _ (Hp.f_set_same _ _)
  have hc6 := hc5
  have hg6 := hg5
  simp only [connO, CR.vals] at hc6
  simp only [gwO] at hg6
  simp only [frO, FR.vals, hno] at hf5
  simp only [go_sem, yA, yB, yC, yD, yE, yF, yG, wA, wB, wC, wD, wE, wF, wG, wH]
  refine wpC_draw2 15 16 [0,1,2,3,4,5,6,7,8,9,10,11,12,13,14,15,16,17,18,19] [0,1,2,3,4,5,6,7,8,9,10,11,12,13,14,16,15,17,18,19] (fun _ _ _ => False) (by kernel_rfl) (by decide +kernel) (fun _ _ _ _ h => h.elim) ?_ ?_ <;> simp only [addE, List.modify_toArray, List.modify_succ_cons, List.modify_zero_cons]
  · simp only [go_sem, yA, yB, yC, yD, yE, yF, yG, wA, wB, wC, wD, wE, wF, wG, wH, hc6, hf5]
    refine fun un hun => ?_
    have nun : ∀ {x o}, σ5.f x = some o → ¬ x = un := fun h e => by subst e; rw [hun] at h; cases h
    have lc1 : ∀ o, (σ5.set un o).f c = _ := fun o => (Hp.f_ne (nun hc6)).trans hc6
    have lf1 : ∀ o, (σ5.set un o).f bf = _ := fun o => (Hp.f_ne (nun hf5)).trans hf5
    refine ⟨by (repeat (first | exact keeps_nil | (apply keeps_cons; (focus decide +kernel)) | (refine keeps_rd rfl (by simp only [go_sem, yA, yB, yC, yD, yE, yF, yG, wA, wB, wC, wD, wE, wF, wG, wH, lc1, lf1]) ?_))), ?_⟩
    simp only [go_sem, yA, yB, yC, yD, yE, yF, yG, wA, wB, wC, wD, wE, wF, wG, wH]
    refine fun co hco => ?_
    have nBA : ¬ co = un := fun e => by subst e; rw [Hp.f_set_same] at hco; cases hco
    rw [Hp.f_ne nBA] at hco
    have nco : ∀ {x o}, σ5.f x = some o → ¬ x = co := fun h e => by subst e; rw [hco] at h; cases h
    have lc2 : ∀ o o', ((σ5.set un o).set co o').f c = _ := fun o o' => (Hp.f_ne (nco hc6)).trans (lc1 o)
    have lf2 : ∀ o o', ((σ5.set un o).set co o').f bf = _ := fun o o' => (Hp.f_ne (nco hf5)).trans (lf1 o)
    refine ⟨by (repeat (first | exact keeps_nil | (apply keeps_cons; (focus decide +kernel)) | (refine keeps_rd rfl (by simp only [go_sem, yA, yB, yC, yD, yE, yF, yG, wA, wB, wC, wD, wE, wF, wG, wH, lc2, lf2]) ?_))), ?_⟩
    simp only [go_sem, yA, yB, yC, yD, yE, yF, yG, wA, wB, wC, wD, wE, wF, wG, wH]
    refine ⟨by (repeat (first | exact keeps_nil | (apply keeps_cons; (focus decide +kernel)) | (refine keeps_rd rfl (by simp only [go_sem, yA, yB, yC, yD, yE, yF, yG, wA, wB, wC, wD, wE, wF, wG, wH, lc2, lf2]) ?_))), ?_⟩
    simp only [go_sem, yA, yB, yC, yD, yE, yF, yG, wA, wB, wC, wD, wE, wF, wG, wH]
    refine fun h hh => ?_
    have nhB : ¬ h = co := fun e => by subst e; rw [Hp.f_set_same] at hh; cases hh
    rw [Hp.f_ne nhB] at hh
    have nhA : ¬ h = un := fun e => by subst e; rw [Hp.f_set_same] at hh; cases hh
    rw [Hp.f_ne nhA] at hh
    have nh : ∀ {x o}, σ5.f x = some o → ¬ x = h := fun k e => by subst e; rw [hh] at k; cases k
    have hH : ∀ o, ((σ5.set un (kmap keyI [] 0)).set co (kmap keyS [] 0)).set h o = ((σ5.set un (kmap keyI [] 0)).set co (kmap keyS [] 0)).set h o := fun o => rfl
    have e1 : ((σ5.set un (.map #[] 0)).set co (.map #[] 0)).set h (chanO c no un co ⟨false, 0, 0, 0, [], [], 0⟩) = ((σ5.set un (kmap keyI [] 0)).set co (kmap keyS [] 0)).set h (chanO c no un co ⟨false, 0, 0, 0, [], [], 0⟩) := hH _
    have lc3 : ∀ o o' o'', (((σ5.set un o).set co o').set h o'').f c = _ := fun o o' o'' => (Hp.f_ne (nh hc6)).trans (lc2 o o')
    have lf3 : ∀ o o' o'', (((σ5.set un o).set co o').set h o'').f bf = _ := fun o o' o'' => (Hp.f_ne (nh hf5)).trans (lf2 o o')
    have lm3 : ∀ o o' o'', (((σ5.set un o).set co o').set h o'').f chm = some (kmap keyI l k) := fun o o' o'' => (Hp.f_ne (nh hm5)).trans ((Hp.f_ne (nco hm5)).trans ((Hp.f_ne (nun hm5)).trans hm5))
    have lg3 : ∀ o o' o'', (((σ5.set un o).set co o').set h o'').f g = _ := fun o o' o'' => (Hp.f_ne (nh hg6)).trans ((Hp.f_ne (nco hg6)).trans ((Hp.f_ne (nun hg6)).trans hg6))
    refine ⟨by (repeat (first | exact keeps_nil | (apply keeps_cons; (focus decide +kernel)) | (refine keeps_rd rfl (by simp only [go_sem, yA, yB, yC, yD, yE, yF, yG, wA, wB, wC, wD, wE, wF, wG, wH, lc3, lf3]) ?_))), ?_⟩
    simp only [go_sem, yA, yB, yC, yD, yE, yF, yG, wA, wB, wC, wD, wE, wF, wG, wH]
    refine mapUpdate_intro (b := chm) (k := (no : Int)) ko88 hu ?_ (lm3 _ _ _) ?_ ?_
    · simp only [go_sem, yA, yB, yC, yD, yE, yF, yG, wA, wB, wC, wD, wE, wF, wG, wH]
    · simp only [go_sem, yA, yB, yC, yD, yE, yF, yG, wA, wB, wC, wD, wE, wF, wG, wH]; rfl
    refine ⟨by (repeat (first | exact keeps_nil | (apply keeps_cons; (focus decide +kernel)))), ?_⟩
    have ncm : ¬ c = chm := fun e => by subst e; rw [hc5] at hm5; simp [kmap, connO] at hm5
    have nfm : ¬ bf = chm := fun e => nmf e.symm
    have ngm : ¬ g = chm := fun e => by subst e; rw [hg5] at hm5; simp [kmap, gwO] at hm5
    have lf4 : ∀ o o' o'' o3, ((((σ5.set un o).set co o').set h o'').set chm o3).f bf = _ := fun o o' o'' o3 => (Hp.f_ne nfm).trans (lf3 o o' o'')
    have lc4 : ∀ o o' o'' o3, ((((σ5.set un o).set co o').set h o'').set chm o3).f c = _ := fun o o' o'' o3 => (Hp.f_ne ncm).trans (lc3 o o' o'')
    have lg4 : ∀ o o' o'' o3, ((((σ5.set un o).set co o').set h o'').set chm o3).f g = _ := fun o o' o'' o3 => (Hp.f_ne ngm).trans (lg3 o o' o'')
    simp only [go_sem, yA, yB, yC, yD, yE, yF, yG, wA, wB, wC, wD, wE, wF, wG, wH, lf4]
    refine fun ba hba => ?_
    have hba' : ((((σ5.set un (.map #[] 0)).set co (.map #[] 0)).set h (chanO c no un co ⟨false, 0, 0, 0, [], [], 0⟩)).set chm (kmap keyI (mput l (no : Int) (pV h) k) (mclock l (no : Int) k))).f ba = none := hba
    have nba : ∀ {x o}, ((((σ5.set un (.map #[] 0)).set co (.map #[] 0)).set h (chanO c no un co ⟨false, 0, 0, 0, [], [], 0⟩)).set chm (kmap keyI (mput l (no : Int) (pV h) k) (mclock l (no : Int) k))).f x = some o → ¬ x = ba := fun k e => by subst e; rw [hba'] at k; cases k
    simp only [go_sem, yA, yB, yC, yD, yE, yF, yG, wA, wB, wC, wD, wE, wF, wG, wH]
    refine call_ret go_105 (rcall_c (g := g) (id := id) (chm := chm) (cr := cr) (ch := no) (cl := 20) (me := 11) (xs := [.long 0]) ((Hp.f_ne (nba (lg4 _ _ _ _))).trans (lg4 _ _ _ _)) ((Hp.f_ne (nba (lc4 _ _ _ _))).trans (lc4 _ _ _ _)) (.inr ⟨ba, rfl, Hp.f_set_same _ _⟩) (by simp [argOk]) (by simp) (by omega) (by decide) (by decide) (by decide) (by omega)) ?_
    simp only [go_sem, yA, yB, yC, yD, yE, yF, yG, wA, wB, wC, wD, wE, wF, wG, wH]
    have back : ∀ {x}, σ5.f x = none → σ.f x = none := by
      intro x hx
      cases hs : σ.f x with
      | none => rfl
      | some o =>
        by_cases e : x = bf
        · subst e; rw [hf5] at hx; cases hx
        · rw [hle5 _ _ ((Hp.f_ne e).trans hs)] at hx; cases hx
    refine hQr _ _ ((((((σ.set bf (frO { f with s := [] })).set un (kmap keyI [] 0)).set co (kmap keyS [] 0)).set h (chanO c no un co ⟨false, 0, 0, 0, [], [], 0⟩)).set chm (kmap keyI (mput l (no : Int) (pV h) k) (mclock l (no : Int) k))).set c (connO g id chm { cr with out := cr.out ++ callB no 20 11 [.long 0], sent := clock })) _ resIs_one ?_ ⟨?_, un, co, h, back hun, back hco, back hh, (fun e => nBA e.symm), nhA, nhB, rfl⟩
    · refine set_ext ?_ _ _
      have k1 : (((((σ.set bf (frO { f with s := [] })).set un (kmap keyI [] 0)).set co (kmap keyS [] 0)).set h (chanO c no un co ⟨false, 0, 0, 0, [], [], 0⟩)).set chm (kmap keyI (mput l (no : Int) (pV h) k) (mclock l (no : Int) k))).le ((((σ5.set un (kmap keyI [] 0)).set co (kmap keyS [] 0)).set h (chanO c no un co ⟨false, 0, 0, 0, [], [], 0⟩)).set chm (kmap keyI (mput l (no : Int) (pV h) k) (mclock l (no : Int) k))) := set_ext (set_ext (set_ext (set_ext hle5 _ _) _ _) _ _) _ _
      rw [← e1] at k1
      exact Hp.le_trans k1 (fun x o hx => (Hp.f_ne (nba hx)).trans hx)
    · simp [up]
  · simp only [go_sem, yA, yB, yC, yD, yE, yF, yG, wA, wB, wC, wD, wE, wF, wG, wH, hc6, hf5]
    refine fun co hco => ?_
    have nco : ∀ {x o}, σ5.f x = some o → ¬ x = co := fun h e => by subst e; rw [hco] at h; cases h
    have lc1 : ∀ o, (σ5.set co o).f c = _ := fun o => (Hp.f_ne (nco hc6)).trans hc6
    have lf1 : ∀ o, (σ5.set co o).f bf = _ := fun o => (Hp.f_ne (nco hf5)).trans hf5
    refine ⟨by (repeat (first | exact keeps_nil | (apply keeps_cons; (focus decide +kernel)) | (refine keeps_rd rfl (by simp only [go_sem, yA, yB, yC, yD, yE, yF, yG, wA, wB, wC, wD, wE, wF, wG, wH, lc1, lf1]) ?_))), ?_⟩
    simp only [go_sem, yA, yB, yC, yD, yE, yF, yG, wA, wB, wC, wD, wE, wF, wG, wH]
    refine fun un hun => ?_
    have nBA : ¬ un = co := fun e => by subst e; rw [Hp.f_set_same] at hun; cases hun
    rw [Hp.f_ne nBA] at hun
    have nun : ∀ {x o}, σ5.f x = some o → ¬ x = un := fun h e => by subst e; rw [hun] at h; cases h
    have lc2 : ∀ o o', ((σ5.set co o).set un o').f c = _ := fun o o' => (Hp.f_ne (nun hc6)).trans (lc1 o)
    have lf2 : ∀ o o', ((σ5.set co o).set un o').f bf = _ := fun o o' => (Hp.f_ne (nun hf5)).trans (lf1 o)
    refine ⟨by (repeat (first | exact keeps_nil | (apply keeps_cons; (focus decide +kernel)) | (refine keeps_rd rfl (by simp only [go_sem, yA, yB, yC, yD, yE, yF, yG, wA, wB, wC, wD, wE, wF, wG, wH, lc2, lf2]) ?_))), ?_⟩
    simp only [go_sem, yA, yB, yC, yD, yE, yF, yG, wA, wB, wC, wD, wE, wF, wG, wH]
    refine ⟨by (repeat (first | exact keeps_nil | (apply keeps_cons; (focus decide +kernel)) | (refine keeps_rd rfl (by simp only [go_sem, yA, yB, yC, yD, yE, yF, yG, wA, wB, wC, wD, wE, wF, wG, wH, lc2, lf2]) ?_))), ?_⟩
    simp only [go_sem, yA, yB, yC, yD, yE, yF, yG, wA, wB, wC, wD, wE, wF, wG, wH]
    refine fun h hh => ?_
    have nhB : ¬ h = un := fun e => by subst e; rw [Hp.f_set_same] at hh; cases hh
    rw [Hp.f_ne nhB] at hh
    have nhA : ¬ h = co := fun e => by subst e; rw [Hp.f_set_same] at hh; cases hh
    rw [Hp.f_ne nhA] at hh
    have nh : ∀ {x o}, σ5.f x = some o → ¬ x = h := fun k e => by subst e; rw [hh] at k; cases k
    have hH : ∀ o, ((σ5.set co (kmap keyS [] 0)).set un (kmap keyI [] 0)).set h o = ((σ5.set un (kmap keyI [] 0)).set co (kmap keyS [] 0)).set h o := fun o => by rw [Hp.set_comm (fun e => nBA e.symm)]
    have e1 : ((σ5.set co (.map #[] 0)).set un (.map #[] 0)).set h (chanO c no un co ⟨false, 0, 0, 0, [], [], 0⟩) = ((σ5.set un (kmap keyI [] 0)).set co (kmap keyS [] 0)).set h (chanO c no un co ⟨false, 0, 0, 0, [], [], 0⟩) := hH _
    have lc3 : ∀ o o' o'', (((σ5.set co o).set un o').set h o'').f c = _ := fun o o' o'' => (Hp.f_ne (nh hc6)).trans (lc2 o o')
    have lf3 : ∀ o o' o'', (((σ5.set co o).set un o').set h o'').f bf = _ := fun o o' o'' => (Hp.f_ne (nh hf5)).trans (lf2 o o')
    have lm3 : ∀ o o' o'', (((σ5.set co o).set un o').set h o'').f chm = some (kmap keyI l k) := fun o o' o'' => (Hp.f_ne (nh hm5)).trans ((Hp.f_ne (nun hm5)).trans ((Hp.f_ne (nco hm5)).trans hm5))
    have lg3 : ∀ o o' o'', (((σ5.set co o).set un o').set h o'').f g = _ := fun o o' o'' => (Hp.f_ne (nh hg6)).trans ((Hp.f_ne (nun hg6)).trans ((Hp.f_ne (nco hg6)).trans hg6))
    refine ⟨by (repeat (first | exact keeps_nil | (apply keeps_cons; (focus decide +kernel)) | (refine keeps_rd rfl (by simp only [go_sem, yA, yB, yC, yD, yE, yF, yG, wA, wB, wC, wD, wE, wF, wG, wH, lc3, lf3]) ?_))), ?_⟩
    simp only [go_sem, yA, yB, yC, yD, yE, yF, yG, wA, wB, wC, wD, wE, wF, wG, wH]
    refine mapUpdate_intro (b := chm) (k := (no : Int)) ko88 hu ?_ (lm3 _ _ _) ?_ ?_
    · simp only [go_sem, yA, yB, yC, yD, yE, yF, yG, wA, wB, wC, wD, wE, wF, wG, wH]
    · simp only [go_sem, yA, yB, yC, yD, yE, yF, yG, wA, wB, wC, wD, wE, wF, wG, wH]; rfl
    refine ⟨by (repeat (first | exact keeps_nil | (apply keeps_cons; (focus decide +kernel)))), ?_⟩
    have ncm : ¬ c = chm := fun e => by subst e; rw [hc5] at hm5; simp [kmap, connO] at hm5
    have nfm : ¬ bf = chm := fun e => nmf e.symm
    have ngm : ¬ g = chm := fun e => by subst e; rw [hg5] at hm5; simp [kmap, gwO] at hm5
    have lf4 : ∀ o o' o'' o3, ((((σ5.set co o).set un o').set h o'').set chm o3).f bf = _ := fun o o' o'' o3 => (Hp.f_ne nfm).trans (lf3 o o' o'')
    have lc4 : ∀ o o' o'' o3, ((((σ5.set co o).set un o').set h o'').set chm o3).f c = _ := fun o o' o'' o3 => (Hp.f_ne ncm).trans (lc3 o o' o'')
    have lg4 : ∀ o o' o'' o3, ((((σ5.set co o).set un o').set h o'').set chm o3).f g = _ := fun o o' o'' o3 => (Hp.f_ne ngm).trans (lg3 o o' o'')
    simp only [go_sem, yA, yB, yC, yD, yE, yF, yG, wA, wB, wC, wD, wE, wF, wG, wH, lf4]
    refine fun ba hba => ?_
    have hba' : ((((σ5.set co (.map #[] 0)).set un (.map #[] 0)).set h (chanO c no un co ⟨false, 0, 0, 0, [], [], 0⟩)).set chm (kmap keyI (mput l (no : Int) (pV h) k) (mclock l (no : Int) k))).f ba = none := hba
    have nba : ∀ {x o}, ((((σ5.set co (.map #[] 0)).set un (.map #[] 0)).set h (chanO c no un co ⟨false, 0, 0, 0, [], [], 0⟩)).set chm (kmap keyI (mput l (no : Int) (pV h) k) (mclock l (no : Int) k))).f x = some o → ¬ x = ba := fun k e => by subst e; rw [hba'] at k; cases k
    simp only [go_sem, yA, yB, yC, yD, yE, yF, yG, wA, wB, wC, wD, wE, wF, wG, wH]
    refine call_ret go_105 (rcall_c (g := g) (id := id) (chm := chm) (cr := cr) (ch := no) (cl := 20) (me := 11) (xs := [.long 0]) ((Hp.f_ne (nba (lg4 _ _ _ _))).trans (lg4 _ _ _ _)) ((Hp.f_ne (nba (lc4 _ _ _ _))).trans (lc4 _ _ _ _)) (.inr ⟨ba, rfl, Hp.f_set_same _ _⟩) (by simp [argOk]) (by simp) (by omega) (by decide) (by decide) (by decide) (by omega)) ?_
    simp only [go_sem, yA, yB, yC, yD, yE, yF, yG, wA, wB, wC, wD, wE, wF, wG, wH]
    have back : ∀ {x}, σ5.f x = none → σ.f x = none := by
      intro x hx
      cases hs : σ.f x with
      | none => rfl
      | some o =>
        by_cases e : x = bf
        · subst e; rw [hf5] at hx; cases hx
        · rw [hle5 _ _ ((Hp.f_ne e).trans hs)] at hx; cases hx
    refine hQr _ _ ((((((σ.set bf (frO { f with s := [] })).set un (kmap keyI [] 0)).set co (kmap keyS [] 0)).set h (chanO c no un co ⟨false, 0, 0, 0, [], [], 0⟩)).set chm (kmap keyI (mput l (no : Int) (pV h) k) (mclock l (no : Int) k))).set c (connO g id chm { cr with out := cr.out ++ callB no 20 11 [.long 0], sent := clock })) _ resIs_one ?_ ⟨?_, un, co, h, back hun, back hco, back hh, (fun e => nBA e), nhB, nhA, rfl⟩
    · refine set_ext ?_ _ _
      have k1 : (((((σ.set bf (frO { f with s := [] })).set un (kmap keyI [] 0)).set co (kmap keyS [] 0)).set h (chanO c no un co ⟨false, 0, 0, 0, [], [], 0⟩)).set chm (kmap keyI (mput l (no : Int) (pV h) k) (mclock l (no : Int) k))).le ((((σ5.set un (kmap keyI [] 0)).set co (kmap keyS [] 0)).set h (chanO c no un co ⟨false, 0, 0, 0, [], [], 0⟩)).set chm (kmap keyI (mput l (no : Int) (pV h) k) (mclock l (no : Int) k))) := set_ext (set_ext (set_ext (set_ext hle5 _ _) _ _) _ _) _ _
      rw [← e1] at k1
      exact Hp.le_trans k1 (fun x o hx => (Hp.f_ne (nba hx)).trans hx)
    · simp [up]
end
end Go.Qw
-- A deferred call at a return; recover where nothing is thrown.
namespace Go.Qw
open Go Go.Conc Go.Proofs

section
variable {P : Program} {main : Bool} {b : Frame} {a : Act} {k : List Item} {cs : List Frame} {σ : Hp}

def dcl (f : FuncId) (caps : Array Value) : Deferred := { target := .fn (.func f) caps, args := #[] }

/-- The deferred call is entered. -/
theorem stepOk_unwind {fr : Frame} {df : FuncId} {caps : Array Value} {ds : List Deferred} (hm : fr.mode = .returning) (hd : fr.defers = dcl df caps :: ds) (hg : isGo P df = true) :
    StepOk P main (G fr cs) σ fun g σ' => σ' = σ ∧ g = G (Frame.enter P df caps .deferred) ({ fr with defers := ds } :: cs) := by
  intro J w hs'
  have h : wpS P (invoke (dcl df caps).target (dcl df caps).args) (fun n σ' => n = .enter df caps ∧ σ' = σ) (fun _ _ => False) σ := by
    simp only [dcl, invoke]
    refine wpS_callFunc hg ?_
    simp
  obtain ⟨w', σ', es', e1, hs2, hk', he', hr⟩ := wpS_sound _ w σ #[] h hs'
  rcases hr with ⟨nx, hn, rfl, rfl⟩ | ⟨hh, hn, hq⟩
  · have e1' : ((invoke (dcl df caps).target (dcl df caps).args).runT P w #[]).2 = es' := by simpa using e1
    have e2 : (invoke (dcl df caps).target (dcl df caps).args).runT P w #[] = (_, es') := Prod.ext hn e1'
    have hseen : ∀ fn, ∀ e ∈ seen P fn es', EvV J w'.heap.size e := fun fn e he => he' e (mem_seen he)
    have hnil : ((dcl df caps).target matches .nil) = false := rfl
    have step : stepG P main (G fr cs) w = callDeferred P { fr with defers := ds } cs none (dcl df caps) w := by
      simp only [G, stepG, hm, unwind, hd]
      rfl
    rw [step]
    unfold callDeferred
    simp only [hnil, Bool.false_and, Bool.false_eq_true, if_false]
    generalize invoke (dcl df caps).target (dcl df caps).args = s at e2 ⊢
    simp only [e2, GStep.after]
    exact ⟨_, hs2, hk', fun e he => hseen _ e (by simpa using he), rfl, rfl, rfl⟩
  · exact hq.elim

/-- recover, where nothing is thrown. -/
theorem stepOk_recover_none {ops : Array Oper} {i : Nat} {rest : List Nat} {dst : Option Tmp} {ats : Array TypeId} {ty : TypeId} {pos : String} {af : Array Edge} {gd : Option (Nat × Bool)} {c : Frame}
    (ho : ops[i]? = some ⟨dst, .call ⟨.builtin .recover, #[], ats⟩, ty, pos, af, gd⟩) (hw : Region.wanted ⟨dst, .call ⟨.builtin .recover, #[], ats⟩, ty, pos, af, gd⟩ (yielded ops a.tmps) = true) (hb : b.kind = .deferred) (hc : c.mode = .returning) :
    StepOk P main (G (b.at a (.inRegion ops (i :: rest) :: k)) (c :: cs)) σ fun g σ' => σ' = σ ∧ g = G (b.at (a.put dst .nilIface) (.inRegion ops rest :: k)) (c :: cs) := by
  intro J w hs
  have h : wpS P (execOp a.eval ⟨dst, .call ⟨.builtin .recover, #[], ats⟩, ty, pos, af, gd⟩) (fun n σ' => n = .recover ∧ σ' = σ) (fun _ _ => False) σ := by
    simp only [execOp, resolve, wpS_bind_eq, wpS_pure', invoke]
    exact ⟨rfl, rfl⟩
  obtain ⟨w', σ', es', e1, hs', hk', he', hr⟩ := wpS_sound _ w σ #[] h hs
  have e1' : ((execOp a.eval ⟨dst, .call ⟨.builtin .recover, #[], ats⟩, ty, pos, af, gd⟩).runT P w #[]).2 = es' := by simpa using e1
  rw [stepG_oper ho hw]
  have hseen : ∀ fn, ∀ e ∈ seen P fn es', EvV J w'.heap.size e := fun fn e he => he' e (mem_seen he)
  have hfin : (b.at a (.inRegion ops (i :: rest) :: k)).finish .nilIface = b.at (a.put dst .nilIface) (.inRegion ops rest :: k) := by rw [Frame.finish_at, ho]; rfl
  have htry : tryRecover (b.at a (.inRegion ops (i :: rest) :: k)) (c :: cs) = none := by
    unfold tryRecover
    simp only [Frame.at, hb, hc]
  rcases hr with ⟨nx, hn, hq, rfl⟩ | ⟨hh, hn, hq⟩
  · subst hq
    have e2 : (execOp a.eval ⟨dst, .call ⟨.builtin .recover, #[], ats⟩, ty, pos, af, gd⟩).runT P w #[] = (_, es') := Prod.ext hn e1'
    generalize execOp a.eval _ = s at e2 ⊢
    unfold stepG.apply
    have hro : (b.at a (.inRegion ops (i :: rest) :: k)).roundOf = none := rfl
    simp only [if_true, e2, hro, htry, GStep.after, hfin]
    refine ⟨_, hs', hk', fun e he => ?_, rfl, rfl, rfl⟩
    split at he
    · simp [seen] at he
    · simp only [Array.append_empty] at he
      exact hseen _ e he
  · exact hq.elim

/-- A deferred call is left: its caller goes on returning. -/
theorem stepOk_leaveD {fr c : Frame} {fn : Func} (hm : fr.mode = .returning) (hd : fr.defers = []) (hk : fr.kind = .deferred) (hc : c.mode = .returning) (hf : P.funcs[fr.fn]? = some fn) (hr : fn.results = #[]) :
    StepOk P main (G fr (c :: cs)) σ fun g σ' => σ' = σ ∧ g = G c cs := by
  intro J w hs
  have hres : ∀ tmps, wpS P (results fn tmps) (fun v' σ' => v' = .tuple #[] ∧ σ' = σ) (fun _ _ => False) σ := by
    intro tmps
    simp [results, hr, wpS_pure']
  obtain ⟨w', σ', es', e1, hs', hk', he', hrr⟩ := wpS_sound (results fn fr.tmps) w σ #[] (hres _) hs
  rcases hrr with ⟨v', hn, rfl, rfl⟩ | ⟨_, _, hq⟩
  · have e1' : ((results fn fr.tmps).runT P w #[]).2 = es' := by simpa using e1
    have e2 : (results fn fr.tmps).runT P w #[] = (.ok (.tuple #[]) w', es') := Prod.ext hn e1'
    have : stepG P main (G fr (c :: cs)) w = .go (G c cs) w' (seen P fr.fn es') := by
      simp [G, stepG, hm, unwind, hd, hf, -Sem.runT_eq, e2, doReturn, hk, GStep.after, hc]
    rw [this]
    exact ⟨_, hs', hk', fun e he => he' e (mem_seen he), rfl, rfl, rfl⟩
  · exact hq.elim
end
end Go.Qw
-- handle: its deferred function; its calls.
namespace Go.Qw
open Nat renaming reduceLT → yA, reduceLeDiff → yB, reduceBEq → yC, reduceAdd → yD, reduceSub → yE, reduceMul → yF, reduceEqDiff → yG
open Int renaming reduceToNat → wA, reduceLE → wB, reduceLT → wC, reduceEq → wD, reduceAdd → wE, reduceSub → wF, reduceMul → wG, reduceNeg → wH
open Go Go.Conc Go.Proofs

noncomputable def B188 : Code := Tryz.f188.body.getD .skip
noncomputable def r188 : Array Oper := opsC (lftC B188)
noncomputable def in188 : Code := innC (rgtC B188)
theorem B188_eq : B188 = .seq (.region 0 r188 false) (.block 0 in188) := by kernel_rfl
def b188 : Frame := { (default : Frame) with fn := 188, kind := .deferred }
theorem r188_0 : ∃ ps af, r188[0]? = some { dst := some 5, op := .call ⟨.builtin .recover, #[], #[]⟩, type := 20, pos := ps, after := af, guard := none } := ⟨_, _, by simp only [r188, B188, Tryz.f188, Option.getD_some, rgtC, lftC, innC, opsC]; rfl⟩

section
variable {E : Env Tryz.prog} {σ : Hp}
set_option maxRecDepth 100000 in
theorem deferred188 {b3 b4 : Nat} {c : Frame} {cs : List Frame} (hc : c.mode = .returning) :
    Runs E (G (Frame.enter Tryz.prog 188 #[pV b3, pV b4] .deferred) (c :: cs)) σ fun g τ => g = G c cs ∧ τ = σ := by
  have henter : Frame.enter Tryz.prog 188 #[pV b3, pV b4] .deferred = b188.at { tmps := #[pV b3, pV b4] ++ Array.replicate 11 undef, defers := [] } [.code B188] := by
    simp [Frame.enter, Frame.at, Tryz.func188, b188, Tryz.f188, B188]
  rw [henter, B188_eq]
  have ha := agree_start #[pV b3, pV b4] 13 (by simp)
  refine Runs.ctl (fun w => stepG_seq) rfl rfl ?_
  refine Runs.ctl (fun w => stepG_region) rfl rfl ?_
  have hr : List.range r188.size = [0] := by kernel_rfl
  rw [hr]
  obtain ⟨ps, af, ho⟩ := r188_0
  refine Runs.step rfl (stepOk_recover_none ho rfl rfl hc) ?_
  rintro g τ ⟨rfl, rfl⟩
  have ha1 : Agree 13 _ _ [] := ha.put (dst := some 5) (by decide) .nilIface
  refine Runs.ctl (fun w => stepG_region_end) rfl rfl ?_
  refine (runs_code (E := E) (N := 13) (X := fun ρ ds τ' => ds = [] ∧ τ' = τ) ?_ (by simp [b188]) ha1).bind ?_
  · simp only [in188, B188, Tryz.f188, Option.getD_some, rgtC, lftC, innC, opsC]
    simp only [go_sem, yA, yB, yC, yD, yE, yF, yG, wA, wB, wC, wD, wE, wF, wG, wH, putR, up]
    exact ⟨rfl, rfl⟩
  rintro g τ' ⟨ρ2, _, a2, ha2, ⟨rfl, rfl⟩, rfl⟩
  refine Runs.ctl (fun w => stepG_end) rfl rfl ?_
  refine Runs.step rfl (stepOk_leaveD (fn := Tryz.f188) rfl ha2.defers rfl hc Tryz.func188 (by kernel_rfl)) ?_
  rintro g τ'' ⟨rfl, rfl⟩
  exact Runs.here ⟨rfl, rfl⟩

/-- The postcondition of a body that defers handle's function and comes to its return. -/
def defQ (fn : Func) (R : Fin → Hp → Prop) : Post
  | .normal, ρ, ds, σ | .ret, ρ, ds, σ => ∃ b3 b4 v τ, τ.le σ ∧ ds = [dcl 188 #[pV b3, pV b4]] ∧ ResultIs Tryz.prog fn ρ τ v ∧ R (.returned v) τ
  | _, _, _, _ => False

theorem calls_defer {f : FuncId} {fn : Func} {c : Code} {args : Array Value} {R : Fin → Hp → Prop} (hf : Tryz.prog.funcs[f]? = some fn) (hb : fn.body = some c) (hn : args.size ≤ fn.ntmps)
    (h : wpC E fn.ntmps c (defQ fn R) (startR args fn.ntmps) [] σ) : CallsE E f args σ R := by
  intro cs
  let b : Frame := { (default : Frame) with fn := f, kind := .normal }
  have henter : Frame.enter Tryz.prog f args .normal = b.at { tmps := args ++ Array.replicate (fn.ntmps - args.size) undef, defers := [] } [.code c] := by
    simp [Frame.enter, Frame.at, hf, hb, b]
  rw [henter]
  have fin : ∀ (ρ : Rho) (ds : List Deferred) (σ' : Hp) (a : Act) (todo : List Item), Agree fn.ntmps a ρ ds → (∃ b3 b4 v τ, τ.le σ' ∧ ds = [dcl 188 #[pV b3, pV b4]] ∧ ResultIs Tryz.prog fn ρ τ v ∧ R (.returned v) τ) →
      Runs E (G { b.at a todo with mode := .returning } cs) σ' fun g σ' => ∃ e fr, g = G fr cs ∧ fr.fn = f ∧ Leaving Tryz.prog fr σ' e ∧ R e σ' := by
    rintro ρ ds σ' a todo ha ⟨b3, b4, v, τ, hle, hds, hv, hR⟩
    refine Runs.weak (τ := τ) ?_ hle
    have hd : ({ b.at a todo with mode := .returning } : Frame).defers = dcl 188 #[pV b3, pV b4] :: [] := by
      have := ha.defers
      simp only [Frame.at]
      rw [this, hds]
    refine Runs.step rfl (stepOk_unwind rfl hd go_188) ?_
    rintro g τ' ⟨rfl, rfl⟩
    refine (deferred188 rfl).bind ?_
    rintro g τ'' ⟨rfl, rfl⟩
    refine Runs.here ⟨.returned v, _, rfl, rfl, ⟨rfl, rfl, rfl, fn, hf, ?_⟩, hR⟩
    have := results_eq (fn := fn) ha
    simp only [Frame.at]
    rw [this]; exact hv
  refine (wpC_sound c _ _ _ _ h b [] cs _ (by simp [b]) (agree_start args fn.ntmps hn)).bind (Comes.mono ?_ ?_ ?_ ?_)
  · intro ρ ds σ' a ha hq
    exact Runs.ctl (fun w => stepG_end) rfl rfl (fin ρ ds σ' a [] ha hq)
  · exact fun id ρ ds σ' a k'' _ hq => hq.elim
  · exact fun ρ ds σ' a todo ha hq => fin ρ ds σ' a todo ha hq
  · exact fun ch ρ ds σ' a todo ha hq => hq.elim

theorem calls_enter_defer {f : FuncId} {fn : Func} {c : Code} {n : Nat} {rs : Array ResultVar} {args : Array Value} {R : Fin → Hp → Prop} (hf : Tryz.prog.funcs[f]? = some fn) (hn : fn.ntmps = n) (hr : fn.results = rs) (hb : fn.body = some c) (hs : args.size ≤ fn.ntmps)
    (h : ∀ Q : Post, (∀ ρ σ τ v b3 b4, ResIs Tryz.prog rs ρ τ v → τ.le σ → R (.returned v) τ → Q .normal ρ [dcl 188 #[pV b3, pV b4]] σ) → (∀ ρ σ τ v b3 b4, ResIs Tryz.prog rs ρ τ v → τ.le σ → R (.returned v) τ → Q .ret ρ [dcl 188 #[pV b3, pV b4]] σ) →
      wpC E n c Q (startR args n) [] σ) : CallsE E f args σ R := by
  subst hn; subst hr
  refine calls_defer hf hb hs (h _ ?_ ?_)
  · exact fun ρ σ τ v b3 b4 h1 hl h2 => ⟨b3, b4, v, τ, hl, rfl, h1, h2⟩
  · exact fun ρ σ τ v b3 b4 h1 hl h2 => ⟨b3, b4, v, τ, hl, rfl, h1, h2⟩
end

section
variable {P : Program} {E : Env P} {ρ : Rho} {ds : List Deferred} {σ : Hp} {dst : Option Tmp} {ty : TypeId} {pos : String} {af : Array Edge} {g : Option (Nat × Bool)} {nx : Rho → List Deferred → Hp → Prop} {pn : List PanicEntry → Hp → Prop}
theorem defer_intro {t : Operand} {df : FuncId} {caps : Array Value} {ats : Array TypeId} (ht : evR ρ t = .func (.func df) #[] caps) (h : nx (putR ρ dst undef) (dcl df caps :: ds) σ) : opQ E ⟨dst, .defer ⟨.value t, #[], ats⟩, ty, pos, af, g⟩ ρ ds σ nx pn := by
  show wpOp E _ ρ ds σ nx pn
  unfold wpOp
  simp only [execOp, resolve, Deferred.ofValue, ht, wpS_bind_eq, wpS_pure']
  have e1 : (#[] ++ Array.map (evR ρ) #[] : Array Value) = #[] := by simp
  rw [e1]
  exact h
end
end Go.Qw
