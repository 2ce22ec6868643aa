/- The law Beats of queuewire returns true for every three integers: the row over the given program, tied to its text; no condition besides. (Part 34 of 40: QwBegin QwBegin2 QwDeclare QwDeclare2.) -/
import Derived.Test.YtpiabknabfbfhaaGreatDoorBeats33
set_option linter.all false
-- begin: TuneOk and Open, as they should be.
namespace Go.Qw
open Nat renaming reduceLT → yA, reduceLeDiff → yB, reduceBEq → yC, reduceAdd → yD, reduceSub → yE, reduceMul → yF, reduceEqDiff → yG
open Int renaming reduceToNat → wA, reduceLE → wB, reduceLT → wC, reduceEq → wD, reduceAdd → wE, reduceSub → wF, reduceMul → wG, reduceNeg → wH
open Go Go.Conc Go.Proofs

def ko355 : KeyOk Tryz.prog 355 keyI := ⟨85, 3, .int .i64, by kernel_rfl, by kernel_rfl, .inl ⟨_, rfl⟩, same_keyI _, refl_keyI⟩

section
variable {P : Program} {E : Env P} {ρ : Rho} {ds : List Deferred} {σ : Hp} {dst : Option Tmp} {ty : TypeId} {pos : String} {af : Array Edge} {g : Option (Nat × Bool)} {nx : Rho → List Deferred → Hp → Prop} {pn : List PanicEntry → Hp → Prop}
variable {α : Type} [DecidableEq α] {f : α → Value} {t : TypeId} {l : List (α × Value × Nat)} {c : Nat} {k : α}
theorem insert_op {m i v : Operand} (ko : KeyOk P t f) {b : Nat} {w : Value} {l' : List (α × Value × Nat)} {c' : Nat} (hu : Uniq l) (hm : evR ρ m = .map (some b)) (hb : σ.f b = some (kmap f l c)) (hi : evR ρ i = f k) (hv : evR ρ v = w) (hl : l' = mput l k w c) (hc : c' = mclock l k c)
    (h : ∀ τ, τ = σ.set b (kmap f l' c') → nx (putR ρ dst undef) ds τ) : opQ E ⟨dst, .insert t m i v, ty, pos, af, g⟩ ρ ds σ nx pn := by
  subst hv; subst hl; subst hc
  exact insert_intro ko hu hm hb hi (h _ rfl)
end
theorem callB_length (ch cl me : Nat) (xs : List Arg) : (callB ch cl me xs).length = (argsB xs).length + 12 := by
  simp [callB, frameB_length, argsB, argB, beB_length]; omega
section
variable {E : Env Tryz.prog} {σ : Hp}
/-- A call, at the records. -/
theorem rcall_c {g c chm br mc : Nat} {cfg : Cfg} {clock last id : Int} {cr : CR} {ch cl me : Nat} {xs : List Arg} {v : Value} (hg : σ.f g = some (gwO cfg br mc clock last)) (hc : σ.f c = some (connO g id chm cr)) (hv : ArgsAt σ xs v) (hok : ∀ a ∈ xs, argOk a) (hn : xs.length ≤ 1000)
    (hch : ch < 9223372036854775808) (hcl : cl < 9223372036854775808) (hme : me < 9223372036854775808) (hlim : (argsB xs).length ≤ 10000000) (hout : cr.out.length ≤ 1000000000000000) :
    CallsE E 105 #[pV c, iV ch, iV cl, iV me, v] σ fun e τ => e = .returned (.tuple #[]) ∧ τ = σ.set c (connO g id chm { cr with out := cr.out ++ callB ch cl me xs, sent := clock }) := by
  have ngc : g ≠ c := fun e => by subst e; rw [hg] at hc; simp [gwO, connO] at hc
  exact ccall_c (bc := c) (bg := g) (l := cr.vals g id chm) (lg := [iV cfg.channels, iV cfg.frame, iV cfg.beat, iV cfg.queue, iV cfg.body, pV br, iV clock, iV last, .map (some mc)]) hc hg rfl rfl rfl rfl ngc hv hok hn hch hcl hme hlim (by rw [callB_length]; omega)
set_option maxRecDepth 100000 in
theorem begin_open {g c chm bf br mc : Nat} {cfg : Cfg} {clock last id : Int} {cr : CR} {f : FR} {s0 : List UInt8} (hg : σ.f g = some (gwO cfg br mc clock last)) (hc : σ.f c = some (connO g id chm cr)) (hf : σ.f bf = some (frO f)) (hph : cr.ph = 2) (hk : f.u.kind = 1) (hcl : f.cl = 10) (hme : f.me = 40) (hch : f.u.channel = 0)
    (ht : pText f.s = some (s0, [])) (hout : cr.out.length ≤ 1000000) :
    CallsE E 190 #[pV c, pV bf] σ fun e τ => e = .returned .nilIface ∧ τ = (σ.set bf (frO { f with s := [] })).set c (connO g id chm { cr with ph := 3, out := cr.out ++ callB 0 10 41 [.text []], sent := clock }) := by
  refine calls_enter Tryz.func190 Tryz.ntmps190 Tryz.results190 rfl (by simp) fun Q hQn hQr hQp => ?_
  simp only [go_sem, yA, yB, yC, yD, yE, yF, yG, wA, wB, wC, wD, wE, wF, wG, wH]
  refine fun m hm => ?_
  have nm : ∀ {x o}, σ.f x = some o → ¬ x = m := fun h e => by subst e; rw [hm] at h; cases h
  simp only [go_sem, yA, yB, yC, yD, yE, yF, yG, wA, wB, wC, wD, wE, wF, wG, wH]
  refine insert_op (b := m) (k := 1) (l := []) (c := 0) (w := iV 31) (l' := [(1, iV 31, 0)]) (c' := 1) ko355 (by simp [Uniq]) ?_ (Hp.f_set_same _ _) ?_ ?_ rfl rfl ?_
  · simp only [go_sem, yA, yB, yC, yD, yE, yF, yG, wA, wB, wC, wD, wE, wF, wG, wH]
  · simp only [go_sem, yA, yB, yC, yD, yE, yF, yG, wA, wB, wC, wD, wE, wF, wG, wH]; rfl
  · simp only [go_sem, yA, yB, yC, yD, yE, yF, yG, wA, wB, wC, wD, wE, wF, wG, wH]
  intro τ1 hτ1
  have hm1 : τ1.f m = some (kmap keyI [(1, iV 31, 0)] 1) := by rw [hτ1]; exact Hp.f_set_same _ _
  simp only [go_sem, yA, yB, yC, yD, yE, yF, yG, wA, wB, wC, wD, wE, wF, wG, wH]
  refine insert_op (b := m) (k := 2) (l := [(1, iV 31, 0)]) (c := 1) (w := iV 40) (l' := [(1, iV 31, 0), (2, iV 40, 1)]) (c' := 2) ko355 (by simp [Uniq]) ?_ hm1 ?_ ?_ rfl rfl ?_
  · simp only [go_sem, yA, yB, yC, yD, yE, yF, yG, wA, wB, wC, wD, wE, wF, wG, wH]
  · simp only [go_sem, yA, yB, yC, yD, yE, yF, yG, wA, wB, wC, wD, wE, wF, wG, wH]; rfl
  · simp only [go_sem, yA, yB, yC, yD, yE, yF, yG, wA, wB, wC, wD, wE, wF, wG, wH]
  intro τ hτ
  have hm2 : τ.f m = some (kmap keyI [(1, iV 31, 0), (2, iV 40, 1)] 2) := by rw [hτ]; exact Hp.f_set_same _ _
  have hle : σ.le τ := fun x y h => by rw [hτ, Hp.f_ne (nm h), hτ1, Hp.f_ne (nm h), Hp.f_ne (nm h)]; exact h
  clear hτ hτ1 hm1
  have hc1 := hle _ _ hc
  have hf1 := hle _ _ hf
  have hg1 := hle _ _ hg
  simp only [connO, CR.vals] at hc1
  simp only [gwO] at hg1
  simp only [go_sem, yA, yB, yC, yD, yE, yF, yG, wA, wB, wC, wD, wE, wF, wG, wH, hc1, hph]
  refine lookup_intro (b := m) (k := 2) (l := [(1, iV 31, 0), (2, iV 40, 1)]) (c := 2) ko355 (z := iV 0) (by kernel_rfl) ?_ hm2 ?_ ?_
  · simp only [go_sem, yA, yB, yC, yD, yE, yF, yG, wA, wB, wC, wD, wE, wF, wG, wH]
  · simp only [go_sem, yA, yB, yC, yD, yE, yF, yG, wA, wB, wC, wD, wE, wF, wG, wH, hph]; rfl
  have hval : ((mfind [((1 : Int), iV 31, 0), (2, iV 40, 1)] 2).map (·.2.1)).getD (iV 0) = iV 40 := rfl
  simp only [go_sem, yA, yB, yC, yD, yE, yF, yG, wA, wB, wC, wD, wE, wF, wG, wH, hval, Bool.false_eq_true, if_false]
  refine fun bm hbm => ?_
  have nb : ∀ {x o}, τ.f x = some o → ¬ x = bm := fun h e => by subst e; rw [h] at hbm; cases hbm
  have hle2 : ∀ o, σ.le (τ.set bm o) := fun o x y h => by rw [Hp.f_ne (nb (hle _ _ h))]; exact hle _ _ h
  have hc2 := fun o => hle2 o _ _ hc
  have hf2 := fun o => hle2 o _ _ hf
  have hg2 := fun o => hle2 o _ _ hg
  have hf3 := hf2
  simp only [connO, CR.vals] at hc2
  simp only [gwO] at hg2
  simp only [frO, FR.vals] at hf2
  simp only [go_sem, yA, yB, yC, yD, yE, yF, yG, wA, wB, wC, wD, wE, wF, wG, wH]
  have hM : f.isM 10 [40] = true := by simp [FR.isM, hk, hcl, hme]
  refine call_ret go_193 (is193_c (ms := [40]) (pad := []) (hf3 _) (Hp.f_set_same _ _) (by simp)) ?_
  simp only [go_sem, yA, yB, yC, yD, yE, yF, yG, wA, wB, wC, wD, wE, wF, wG, wH, hM, Bool.not_true, hf2, hch, hc2, hph, decide_true]
  have ncf : ¬ c = bf := fun e => by subst e; rw [hf] at hc; simp [connO, frO] at hc
  have ngf : ¬ g = bf := fun e => by subst e; rw [hf] at hg; simp [gwO, frO] at hg
  have ngc : ¬ g = c := fun e => by subst e; rw [hg] at hc; simp [gwO, connO] at hc
  refine call_arg go_228 (text_c (hf2 _) rfl) (fun w rest hr => ?_) (fun hr => by rw [ht] at hr; cases hr)
  rw [ht] at hr
  obtain ⟨rfl, rfl⟩ : s0 = w ∧ [] = rest := by simpa using hr
  simp only [go_sem, yA, yB, yC, yD, yE, yF, yG, wA, wB, wC, wD, wE, wF, wG, wH]
  refine call_post go_229 (end_ok (Hp.f_set_same _ _) rfl) ?_ (fun ch σ' ⟨h, _⟩ => by cases h)
  rintro v σ5 ⟨hv, hσ5⟩
  obtain rfl : v = .tuple #[] := by injection hv
  have hle5 : (σ.set bf (frO { f with s := [] })).le σ5 := by rw [hσ5]; exact set_ext (hle2 _) _ _
  clear hσ5
  have hc5 := hle5 _ _ ((Hp.f_ne ncf).trans hc)
  have hg5 := hle5 _ _ ((Hp.f_ne ngf).trans hg)
  have hc6 := hc5
  have hg6 := hg5
  simp only [connO, CR.vals] at hc6
  simp only [gwO] at hg6
  simp only [go_sem, yA, yB, yC, yD, yE, yF, yG, wA, wB, wC, wD, wE, wF, wG, wH, hc6]
  refine fun ba hba => ?_
  have nca : ¬ c = ba := fun e => by subst e; rw [Hp.f_set_same] at hba; cases hba
  rw [Hp.f_ne (fun e => nca e.symm)] at hba
  have nga : ¬ g = ba := fun e => by subst e; rw [hg6] at hba; cases hba
  simp only [go_sem, yA, yB, yC, yD, yE, yF, yG, wA, wB, wC, wD, wE, wF, wG, wH]
  refine call_ret go_105 (rcall_c (g := g) (id := id) (chm := chm) (cr := { cr with ph := 3 }) (ch := 0) (cl := 10) (me := 41) (xs := [.text []]) ((Hp.f_ne nga).trans ((Hp.f_ne ngc).trans hg5)) ((Hp.f_ne nca).trans (Hp.f_set_same _ _)) (.inr ⟨ba, rfl, Hp.f_set_same _ _⟩) (by simp [argOk]) (by simp) (by decide) (by decide) (by decide) (by decide) (by show cr.out.length ≤ _; omega)) ?_
  simp only [go_sem, yA, yB, yC, yD, yE, yF, yG, wA, wB, wC, wD, wE, wF, wG, wH]
  refine hQr _ _ ((σ.set bf (frO { f with s := [] })).set c (connO g id chm { cr with ph := 3, out := cr.out ++ callB 0 10 41 [.text []], sent := clock })) _ resIs_one ?_ ⟨?_, rfl⟩
  · intro x o hx
    by_cases e : x = c
    · subst e; rw [Hp.f_set_same] at hx ⊢; exact hx
    · rw [Hp.f_ne e] at hx
      have h5 := hle5 _ _ hx
      have : x ≠ ba := fun e => by subst e; rw [h5] at hba; cases hba
      rw [Hp.f_ne e, Hp.f_ne this, Hp.f_ne e]
      exact h5
  · simp [up]
end
end Go.Qw
-- begin: TuneOk, as it should be.
namespace Go.Qw
open Nat renaming reduceLT → yA, reduceLeDiff → yB, reduceBEq → yC, reduceAdd → yD, reduceSub → yE, reduceMul → yF, reduceEqDiff → yG
open Int renaming reduceToNat → wA, reduceLE → wB, reduceLT → wC, reduceEq → wD, reduceAdd → wE, reduceSub → wF, reduceMul → wG, reduceNeg → wH
open Go Go.Conc Go.Proofs
section
variable {E : Env Tryz.prog} {σ : Hp}
set_option maxRecDepth 100000 in
theorem begin_tune {g c chm bf br mc : Nat} {cfg : Cfg} {clock last id : Int} {cr : CR} {f : FR} {s1 s2 : List UInt8} {n1 n2 n3 : Nat} (hg : σ.f g = some (gwO cfg br mc clock last)) (hc : σ.f c = some (connO g id chm cr)) (hf : σ.f bf = some (frO f)) (hph : cr.ph = 1) (hk : f.u.kind = 1) (hcl : f.cl = 10) (hme : f.me = 31) (hch : f.u.channel = 0)
    (t1 : pNumber 2 f.s = some (n1, s1)) (t2 : pNumber 4 s1 = some (n2, s2)) (t3 : pNumber 2 s2 = some (n3, [])) (v1 : 1 ≤ (n1 : Int)) (v2 : (n1 : Int) ≤ cfg.channels) (v3 : 64 ≤ (n2 : Int)) (v4 : (n2 : Int) ≤ cfg.frame) (v5 : (n3 : Int) ≤ cfg.beat) :
    CallsE E 190 #[pV c, pV bf] σ fun e τ => e = .returned .nilIface ∧ τ = (σ.set bf (frO { f with s := [] })).set c (connO g id chm { cr with most := n1, frame := n2, beat := n3, ph := 2 }) := by
  refine calls_enter Tryz.func190 Tryz.ntmps190 Tryz.results190 rfl (by simp) fun Q hQn hQr hQp => ?_
  simp only [go_sem, yA, yB, yC, yD, yE, yF, yG, wA, wB, wC, wD, wE, wF, wG, wH]
  refine fun m hm => ?_
  have nm : ∀ {x o}, σ.f x = some o → ¬ x = m := fun h e => by subst e; rw [hm] at h; cases h
  simp only [go_sem, yA, yB, yC, yD, yE, yF, yG, wA, wB, wC, wD, wE, wF, wG, wH]
  refine insert_op (b := m) (k := 1) (l := []) (c := 0) (w := iV 31) (l' := [(1, iV 31, 0)]) (c' := 1) ko355 (by simp [Uniq]) ?_ (Hp.f_set_same _ _) ?_ ?_ rfl rfl ?_
  · simp only [go_sem, yA, yB, yC, yD, yE, yF, yG, wA, wB, wC, wD, wE, wF, wG, wH]
  · simp only [go_sem, yA, yB, yC, yD, yE, yF, yG, wA, wB, wC, wD, wE, wF, wG, wH]; rfl
  · simp only [go_sem, yA, yB, yC, yD, yE, yF, yG, wA, wB, wC, wD, wE, wF, wG, wH]
  intro τ1 hτ1
  have hm1 : τ1.f m = some (kmap keyI [(1, iV 31, 0)] 1) := by rw [hτ1]; exact Hp.f_set_same _ _
  simp only [go_sem, yA, yB, yC, yD, yE, yF, yG, wA, wB, wC, wD, wE, wF, wG, wH]
  refine insert_op (b := m) (k := 2) (l := [(1, iV 31, 0)]) (c := 1) (w := iV 40) (l' := [(1, iV 31, 0), (2, iV 40, 1)]) (c' := 2) ko355 (by simp [Uniq]) ?_ hm1 ?_ ?_ rfl rfl ?_
  · simp only [go_sem, yA, yB, yC, yD, yE, yF, yG, wA, wB, wC, wD, wE, wF, wG, wH]
  · simp only [go_sem, yA, yB, yC, yD, yE, yF, yG, wA, wB, wC, wD, wE, wF, wG, wH]; rfl
  · simp only [go_sem, yA, yB, yC, yD, yE, yF, yG, wA, wB, wC, wD, wE, wF, wG, wH]
  intro τ hτ
  have hm2 : τ.f m = some (kmap keyI [(1, iV 31, 0), (2, iV 40, 1)] 2) := by rw [hτ]; exact Hp.f_set_same _ _
  have hle : σ.le τ := fun x y h => by rw [hτ, Hp.f_ne (nm h), hτ1, Hp.f_ne (nm h), Hp.f_ne (nm h)]; exact h
  clear hτ hτ1 hm1
  have hc1 := hle _ _ hc
  have hf1 := hle _ _ hf
  have hg1 := hle _ _ hg
  simp only [connO, CR.vals] at hc1
  simp only [gwO] at hg1
  simp only [go_sem, yA, yB, yC, yD, yE, yF, yG, wA, wB, wC, wD, wE, wF, wG, wH, hc1, hph]
  refine lookup_intro (b := m) (k := 1) (l := [(1, iV 31, 0), (2, iV 40, 1)]) (c := 2) ko355 (z := iV 0) (by kernel_rfl) ?_ hm2 ?_ ?_
  · simp only [go_sem, yA, yB, yC, yD, yE, yF, yG, wA, wB, wC, wD, wE, wF, wG, wH]
  · simp only [go_sem, yA, yB, yC, yD, yE, yF, yG, wA, wB, wC, wD, wE, wF, wG, wH, hph]; rfl
  have hval : ((mfind [((1 : Int), iV 31, 0), (2, iV 40, 1)] 1).map (·.2.1)).getD (iV 0) = iV 31 := rfl
  simp only [go_sem, yA, yB, yC, yD, yE, yF, yG, wA, wB, wC, wD, wE, wF, wG, wH, hval, Bool.false_eq_true, if_false]
  refine fun bm hbm => ?_
  have nb : ∀ {x o}, τ.f x = some o → ¬ x = bm := fun h e => by subst e; rw [h] at hbm; cases hbm
  have hle2 : ∀ o, σ.le (τ.set bm o) := fun o x y h => by rw [Hp.f_ne (nb (hle _ _ h))]; exact hle _ _ h
  have hc2 := fun o => hle2 o _ _ hc
  have hf2 := fun o => hle2 o _ _ hf
  have hg2 := fun o => hle2 o _ _ hg
  have hf3 := hf2
  simp only [connO, CR.vals] at hc2
  simp only [gwO] at hg2
  simp only [frO, FR.vals] at hf2
  simp only [go_sem, yA, yB, yC, yD, yE, yF, yG, wA, wB, wC, wD, wE, wF, wG, wH]
  have hM : f.isM 10 [31] = true := by simp [FR.isM, hk, hcl, hme]
  refine call_ret go_193 (is193_c (ms := [31]) (pad := []) (hf3 _) (Hp.f_set_same _ _) (by simp)) ?_
  simp only [go_sem, yA, yB, yC, yD, yE, yF, yG, wA, wB, wC, wD, wE, wF, wG, wH, hM, Bool.not_true, hf2, hch, hc2, hph, decide_true]
  have ncf : ¬ c = bf := fun e => by subst e; rw [hf] at hc; simp [connO, frO] at hc
  have ngf : ¬ g = bf := fun e => by subst e; rw [hf] at hg; simp [gwO, frO] at hg
  have ngc : ¬ g = c := fun e => by subst e; rw [hg] at hc; simp [gwO, connO] at hc
  have d1 : ¬ (n1 : Int) < 1 := by omega
  have d2 : ¬ (n1 : Int) > cfg.channels := by omega
  have d3 : ¬ (n2 : Int) < 64 := by omega
  have d4 : ¬ (n2 : Int) > cfg.frame := by omega
  have d5 : ¬ (n3 : Int) > cfg.beat := by omega
  refine wpC_draw [0,1,2,4,5,6,8,9,10,3,7,11,12,13,14] (fun _ _ _ => False) (by kernel_rfl) (by decide +kernel) (fun _ _ _ _ h => h.elim) ?_
  simp only [go_sem, yA, yB, yC, yD, yE, yF, yG, wA, wB, wC, wD, wE, wF, wG, wH]
  refine call_arg go_147 (number_c (w := 2) (hf2 _) rfl (by decide)) (fun w rest hr => ?_) (fun hr => by rw [t1] at hr; cases hr)
  rw [t1] at hr
  obtain ⟨rfl, rfl⟩ : n1 = w ∧ s1 = rest := by simpa using hr
  refine ⟨by (repeat (first | exact keeps_nil | (apply keeps_cons; (focus decide +kernel)))), ?_⟩
  simp only [go_sem, yA, yB, yC, yD, yE, yF, yG, wA, wB, wC, wD, wE, wF, wG, wH]
  refine call_arg go_147 (number_c (w := 4) (Hp.f_set_same _ _) rfl (by decide)) (fun w rest hr => ?_) (fun hr => by rw [t2] at hr; cases hr)
  rw [t2] at hr
  obtain ⟨rfl, rfl⟩ : n2 = w ∧ s2 = rest := by simpa using hr
  refine ⟨by (repeat (first | exact keeps_nil | (apply keeps_cons; (focus decide +kernel)))), ?_⟩
  simp only [go_sem, yA, yB, yC, yD, yE, yF, yG, wA, wB, wC, wD, wE, wF, wG, wH]
  refine call_arg go_147 (number_c (w := 2) (Hp.f_set_same _ _) rfl (by decide)) (fun w rest hr => ?_) (fun hr => by rw [t3] at hr; cases hr)
  rw [t3] at hr
  obtain ⟨rfl, rfl⟩ : n3 = w ∧ [] = rest := by simpa using hr
  refine ⟨by (repeat (first | exact keeps_nil | (apply keeps_cons; (focus decide +kernel)))), ?_⟩
  simp only [go_sem, yA, yB, yC, yD, yE, yF, yG, wA, wB, wC, wD, wE, wF, wG, wH]
  refine call_post go_229 (end_ok (Hp.f_set_same _ _) rfl) ?_ (fun ch σ' ⟨h, _⟩ => by cases h)
  rintro v σ5 ⟨hv, hσ5⟩
  obtain rfl : v = .tuple #[] := by injection hv
  rw [Hp.set_set, Hp.set_set] at hσ5
  have hle5 : (σ.set bf (frO { f with s := [] })).le σ5 := by rw [hσ5]; exact set_ext (hle2 _) _ _
  clear hσ5
  have ncf : ¬ c = bf := fun e => by subst e; rw [hf] at hc; simp [connO, frO] at hc
  have ngf : ¬ g = bf := fun e => by subst e; rw [hf] at hg; simp [gwO, frO] at hg
  have ngc : ¬ g = c := fun e => by subst e; rw [hg] at hc; simp [gwO, connO] at hc
  have hc6 := hle5 _ _ ((Hp.f_ne ncf).trans hc)
  have hg6 := hle5 _ _ ((Hp.f_ne ngf).trans hg)
  simp only [connO, CR.vals] at hc6
  simp only [gwO] at hg6
  simp only [go_sem, yA, yB, yC, yD, yE, yF, yG, wA, wB, wC, wD, wE, wF, wG, wH, hc6, hg6]
  refine fun ba hba => ?_
  have hba' := hba
  have nca : ¬ c = ba := fun e => by subst e; rw [hc6] at hba; cases hba
  have hcb : ∀ o, (σ5.set ba o).f c = some (.cells [pV g, iV id, iV cr.ph, sV cr.rest, .bool cr.greeted, .map (some chm), iV cr.most, iV cr.frame, iV cr.beat, iV cr.sent, iV cr.recv, sV cr.out].toArray 90 (0, 0)) := fun o => by rw [Hp.f_ne nca]; exact hc6
  simp only [go_sem, yA, yB, yC, yD, yE, yF, yG, wA, wB, wC, wD, wE, wF, wG, wH, d1, d2, d3, d4, d5, decide_false, decide_true, hcb]
  refine hQr _ _ ((σ.set bf (frO { f with s := [] })).set c (connO g id chm { cr with most := n1, frame := n2, beat := n3, ph := 2 })) _ resIs_one ?_ ⟨?_, rfl⟩
  · intro x o hx
    by_cases e : x = c
    · subst e; rw [Hp.f_set_same] at hx ⊢; exact hx
    · rw [Hp.f_ne e] at hx
      have h5 := hle5 _ _ hx
      have : x ≠ ba := fun e => by subst e; rw [h5] at hba; cases hba
      rw [Hp.f_ne e, Hp.f_ne this]
      exact h5
  · simp [up]
end
end Go.Qw
-- Names; Declare of a queue.
namespace Go.Qw
open Nat renaming reduceLT → yA, reduceLeDiff → yB, reduceBEq → yC, reduceAdd → yD, reduceSub → yE, reduceMul → yF, reduceEqDiff → yG
open Int renaming reduceToNat → wA, reduceLE → wB, reduceLT → wC, reduceEq → wD, reduceAdd → wE, reduceSub → wF, reduceMul → wG, reduceNeg → wH
open Go Go.Conc Go.Proofs

section
variable {P : Program} {E : Env P} {ρ : Rho} {ds : List Deferred} {σ : Hp} {dst : Option Tmp} {ty : TypeId} {pos : String} {af : Array Edge} {g : Option (Nat × Bool)} {nx : Rho → List Deferred → Hp → Prop} {pn : List PanicEntry → Hp → Prop}
theorem indexArr_intro {t e : TypeId} {n : Nat} {x i : Operand} {b : Nat} {k : IntKind} {j : Int} {ie : TypeInfo} (hu : P.underlying t = some (.array n e)) (he : P.info? e = some ie) (hz : ie.size = 1) (hx : evR ρ x = .pointer (some ⟨b, 0, none⟩)) (hi : evR ρ i = .int k j) (h0 : 0 ≤ j) (hn : j < n)
    (hs : elemSz P t = none) (h : nx (putR ρ dst (.pointer (some ⟨b, j.toNat, none⟩))) ds σ) : 
    facQ (opQ E ⟨dst, .indexAddr t x i, ty, pos, af, g⟩ ρ ds σ nx pn) (fun z => ixQ (wpOp E ⟨dst, .indexAddr t x i, ty, pos, af, g⟩ ρ ds σ nx pn) z (fun v => nx (putR ρ dst v) ds σ) (evR ρ i) (evR ρ x)) (elemSz P t) := by
  rw [hs, facQ_none]
  have hse : sliceElem P t = none := by
    unfold sliceElem; rw [hu]
  have e0 : opQ E ⟨dst, .indexAddr t x i, ty, pos, af, g⟩ ρ ds σ nx pn = wpOp E ⟨dst, .indexAddr t x i, ty, pos, af, g⟩ ρ ds σ nx pn := by
    simp only [opQ, hse]
  rw [e0]
  unfold wpOp
  simp only [execOp, wpS_val, Instr.indexAt, wpS_bind_eq, hi, hx, asIntOf, wpS_pure', wpS_underlying, hu, Instr.sureAddr]
  rw [if_pos ⟨h0, by exact_mod_cast hn⟩]
  simp only [wpS_bind_eq, sizeOf, wpS_typeInfo, he, wpS_pure', hz, Nat.mul_one]
  have e1 : (⟨b, 0, none⟩ : Addr).add j.toNat = ⟨b, j.toNat, none⟩ := by rw [add_off, Nat.zero_add]
  rw [e1]
  exact h
theorem rangeStr_intro {t : TypeId} {x : Operand} {s : List UInt8} (hu : P.underlying t = some .string) (hx : evR ρ x = .string (B s))
    (h : ∀ it, σ.f it = none → nx (putR ρ dst (.pointer (some ⟨it, 0, none⟩))) ds (σ.set it (.stringIter (B s) 0))) : opQ E ⟨dst, .range t x, ty, pos, af, g⟩ ρ ds σ nx pn := by
  show wpOp E _ ρ ds σ nx pn
  unfold wpOp
  simp only [execOp, wpS_val, Instr.range, wpS_bind_eq, wpS_underlying, hu, hx, wpS_pure', wpS_newObj]
  exact h
theorem nextStr_intro {x : Operand} {it pos' : Nat} {s : List UInt8} (hx : evR ρ x = .pointer (some ⟨it, 0, none⟩)) (hi : σ.f it = some (.stringIter (B s) pos'))
    (h1 : pos' < s.length → nx (putR ρ dst (.tuple #[.bool true, .int .i64 pos', .int .i32 (Utf8.decode (B s) pos').1])) ds (σ.set it (.stringIter (B s) (pos' + (Utf8.decode (B s) pos').2))))
    (h2 : ¬ pos' < s.length → nx (putR ρ dst (.tuple #[.bool false])) ds σ) : opQ E ⟨dst, .next x true, ty, pos, af, g⟩ ρ ds σ nx pn := by
  show wpOp E _ ρ ds σ nx pn
  unfold wpOp
  simp only [execOp, wpS_val, Instr.next, wpS_bind_eq, hx, wpS_getObj]
  refine ⟨_, hi, rfl, ?_⟩
  by_cases h : pos' < s.length
  · have h' : pos' < (B s).size := by rw [size_B]; exact h
    simp only [if_pos h', wpS_bind_eq, wpS_setObj]
    exact ⟨_, hi, rfl, h1 h⟩
  · have h' : ¬ pos' < (B s).size := by rw [size_B]; exact h
    simp only [if_neg h', wpS_pure']
    exact h2 h
end
section
variable {E : Env Tryz.prog} {σ : Hp}
set_option maxRecDepth 100000 in
theorem letter300_c {et : TypeId} {L : List Value} (hp : σ.f 1 = some (.cells L.toArray et (0, 0))) (hq : L[113]? = some (.int .u8 192)) : CallsE E 300 #[.int .i32 113] σ fun e τ => e = .returned (.bool true) ∧ τ = σ := by
  refine calls_enter Tryz.func300 Tryz.ntmps300 Tryz.results300 rfl (by simp) fun Q hQn hQr hQp => ?_
  have w1 : IntKind.u32.wrap 113 = 113 := by decide
  have w2 : IntKind.u8.wrap 113 = 113 := by decide
  have c1 : (113 : Int) ≤ 255 := by decide
  simp only [go_sem, yA, yB, yC, yD, yE, yF, yG, wA, wB, wC, wD, wE, wF, wG, wH, w1, w2, c1]
  refine indexArr_intro (e := 5) (n := 256) (b := 1) (k := .u8) (j := 113) (by kernel_rfl) (ie := Tryz.t5) (by kernel_rfl) (by kernel_rfl) ?_ ?_ (by decide) (by decide) (by kernel_rfl) ?_
  · simp only [go_sem, yA, yB, yC, yD, yE, yF, yG, wA, wB, wC, wD, wE, wF, wG, wH]
  · simp only [go_sem, yA, yB, yC, yD, yE, yF, yG, wA, wB, wC, wD, wE, wF, wG, wH]
  simp only [go_sem, yA, yB, yC, yD, yE, yF, yG, wA, wB, wC, wD, wE, wF, wG, wH, hp, hq]
  refine hQr _ _ _ _ resIs_one (Hp.le_refl _) ⟨?_, rfl⟩
  simp only [up, if_true]
  rw [show (decide ¬andZ IntKind.u8 192 96 = 0) = true from by decide]
set_option maxRecDepth 100000 in
theorem letter299_c {et : TypeId} {L : List Value} (hp : σ.f 1 = some (.cells L.toArray et (0, 0))) (hq : L[113]? = some (.int .u8 192)) : CallsE E 299 #[.int .i32 113] σ fun e τ => e = .returned (.bool true) ∧ τ = σ := by
  refine calls_enter Tryz.func299 Tryz.ntmps299 Tryz.results299 rfl (by simp) fun Q hQn hQr hQp => ?_
  have c1 : (113 : Int) ≤ 127 := by decide
  simp only [go_sem, yA, yB, yC, yD, yE, yF, yG, wA, wB, wC, wD, wE, wF, wG, wH, c1]
  refine call_ret go_300 (letter300_c hp hq) ?_
  simp only [go_sem, yA, yB, yC, yD, yE, yF, yG, wA, wB, wC, wD, wE, wF, wG, wH]
  refine hQr _ _ _ _ resIs_one (Hp.le_refl _) ⟨?_, rfl⟩
  simp [up]
set_option maxRecDepth 100000 in
theorem named298_c {et : TypeId} {L : List Value} (hp : σ.f 1 = some (.cells L.toArray et (0, 0))) (hq : L[113]? = some (.int .u8 192)) : CallsE E 298 #[sV [113]] σ fun e τ => e = .returned (.bool true) ∧ τ = σ := by
  refine calls_enter Tryz.func298 Tryz.ntmps298 Tryz.results298 rfl (by simp) fun Q hQn hQr hQp => ?_
  simp only [go_sem, yA, yB, yC, yD, yE, yF, yG, wA, wB, wC, wD, wE, wF, wG, wH]
  refine rangeStr_intro (s := [113]) (by kernel_rfl) ?_ ?_
  · simp only [go_sem, yA, yB, yC, yD, yE, yF, yG, wA, wB, wC, wD, wE, wF, wG, wH]
  intro it hit
  have n1 : ¬ 1 = it := fun e => by subst e; rw [hp] at hit; cases hit
  have hle : ∀ o, σ.le (σ.set it o) := fun o x y h => by rw [Hp.f_ne (fun e => by subst e; rw [hit] at h; cases h)]; exact h
  simp only [go_sem, yA, yB, yC, yD, yE, yF, yG, wA, wB, wC, wD, wE, wF, wG, wH]
  refine wpC_loop (fun m ρ ds σ' => ds = [] ∧ ρ 0 = sV [113] ∧ ρ 6 = pV it ∧ ((m = 1 ∧ σ' = σ.set it (.stringIter (B [113]) 0)) ∨ (m = 0 ∧ σ' = σ.set it (.stringIter (B [113]) 1)))) 1 ?_ ?_
  · refine ⟨rfl, ?_, ?_, .inl ⟨rfl, rfl⟩⟩ <;> simp only [go_sem, yA, yB, yC, yD, yE, yF, yG, wA, wB, wC, wD, wE, wF, wG, wH]
  · rintro m ρ ds σ' X ⟨rfl, h0, h6, ⟨rfl, rfl⟩ | ⟨rfl, rfl⟩⟩ hX
    · simp only [go_sem, yA, yB, yC, yD, yE, yF, yG, wA, wB, wC, wD, wE, wF, wG, wH]
      refine nextStr_intro (s := [113]) (pos' := 0) h6 (Hp.f_set_same _ _) (fun _ => ?_) (fun h => absurd h (by decide))
      have e1 : Utf8.decode (B [113]) 0 = (113, 1) := by decide +kernel
      rw [e1, Hp.set_set]
      simp only [go_sem, yA, yB, yC, yD, yE, yF, yG, wA, wB, wC, wD, wE, wF, wG, wH]
      refine call_ret go_299 (letter299_c (by rw [Hp.f_ne n1]; exact hp) hq) ?_
      simp only [go_sem, yA, yB, yC, yD, yE, yF, yG, wA, wB, wC, wD, wE, wF, wG, wH]
      refine hX 0 _ _ _ _ (by omega) ⟨rfl, ?_, ?_, .inr ⟨rfl, rfl⟩⟩ (Hp.le_refl _) <;> simp only [go_sem, yA, yB, yC, yD, yE, yF, yG, wA, wB, wC, wD, wE, wF, wG, wH, h0, h6]
    · simp only [go_sem, yA, yB, yC, yD, yE, yF, yG, wA, wB, wC, wD, wE, wF, wG, wH]
      refine nextStr_intro (s := [113]) (pos' := 1) h6 (Hp.f_set_same _ _) (fun h => absurd h (by decide)) (fun _ => ?_)
      have c2 : ((1 : Nat) : Int) ≤ 16 := by decide
      have c3 : ¬ ([113] : List UInt8) = [] := by simp
      simp only [go_sem, yA, yB, yC, yD, yE, yF, yG, wA, wB, wC, wD, wE, wF, wG, wH, h0, c3, decide_false, Bool.not_false, List.length_singleton, c2]
      refine hQr _ _ σ _ resIs_one (hle _) ⟨?_, rfl⟩
      simp [up]
set_option maxRecDepth 100000 in
theorem declare286_new {et : TypeId} {L : List Value} {bb mq k : Nat} {most messages nos : Int} {l : List (List UInt8 × Value × Nat)} (hp : σ.f 1 = some (.cells L.toArray et (0, 0))) (hq : L[113]? = some (.int .u8 192)) (hb : σ.f bb = some (brO mq most messages nos)) (hm : σ.f mq = some (kmap keyS l k)) (hu : Uniq l) (hnew : mfind l [113] = none) (hlen : l.length < 8) :
    CallsE E 286 #[pV bb, sV [113]] σ fun e τ => ∃ q, e = .returned (.tuple #[pV q, .nilIface]) ∧ σ.f q = none ∧ τ = (σ.set q (queueO [113] (.slice none 0 0) 0 0 (.slice none 0 0))).set mq (kmap keyS (mput l [113] (pV q) k) (mclock l [113] k)) := by
  refine calls_enter Tryz.func286 Tryz.ntmps286 Tryz.results286 rfl (by simp) fun Q hQn hQr hQp => ?_
  have hb' := hb
  simp only [brO] at hb'
  simp only [go_sem, yA, yB, yC, yD, yE, yF, yG, wA, wB, wC, wD, wE, wF, wG, wH, hb']
  refine lookup_intro (b := mq) (k := [113]) (l := l) (c := k) ko114 (z := .pointer none) (by kernel_rfl) ?_ hm ?_ ?_
  · simp only [go_sem, yA, yB, yC, yD, yE, yF, yG, wA, wB, wC, wD, wE, wF, wG, wH]
  · simp only [go_sem, yA, yB, yC, yD, yE, yF, yG, wA, wB, wC, wD, wE, wF, wG, wH]; rfl
  have hval : ((mfind l [113]).map (·.2.1)).getD (.pointer none) = .pointer none := by rw [hnew]; rfl
  simp only [go_sem, yA, yB, yC, yD, yE, yF, yG, wA, wB, wC, wD, wE, wF, wG, wH, hval, Bool.false_eq_true, if_false]
  refine call_ret go_298 (named298_c hp hq) ?_
  simp only [go_sem, yA, yB, yC, yD, yE, yF, yG, wA, wB, wC, wD, wE, wF, wG, wH, hb']
  refine mapLen_intro ko114 ?_ hm ?_
  · simp only [go_sem, yA, yB, yC, yD, yE, yF, yG, wA, wB, wC, wD, wE, wF, wG, wH]
  have c8 : ¬ (l.length : Int) = 8 := by omega
  simp only [go_sem, yA, yB, yC, yD, yE, yF, yG, wA, wB, wC, wD, wE, wF, wG, wH, c8]
  refine fun q hqn => ?_
  have nq : ∀ {x o}, σ.f x = some o → ¬ x = q := fun h e => by subst e; rw [hqn] at h; cases h
  have hb2 : ∀ o, (σ.set q o).f bb = some (.cells [.map (some mq), iV most, iV messages, iV nos].toArray 116 (0, 0)) := fun o => by rw [Hp.f_ne (nq hb)]; exact hb'
  have hm2 : ∀ o, (σ.set q o).f mq = some (kmap keyS l k) := fun o => by rw [Hp.f_ne (nq hm)]; exact hm
  simp only [go_sem, yA, yB, yC, yD, yE, yF, yG, wA, wB, wC, wD, wE, wF, wG, wH, hb2]
  refine mapUpdate_intro (b := mq) (k := [113]) ko114 hu ?_ (hm2 _) ?_ ?_
  · simp only [go_sem, yA, yB, yC, yD, yE, yF, yG, wA, wB, wC, wD, wE, wF, wG, wH]
  · simp only [go_sem, yA, yB, yC, yD, yE, yF, yG, wA, wB, wC, wD, wE, wF, wG, wH]; rfl
  simp only [go_sem, yA, yB, yC, yD, yE, yF, yG, wA, wB, wC, wD, wE, wF, wG, wH]
  refine hQr _ _ _ _ resIs_two (Hp.le_refl _) ⟨q, ?_, hqn, rfl⟩
  simp [up]
end
end Go.Qw
-- A channel's declare, of a queue that is new.
namespace Go.Qw
open Nat renaming reduceLT → yA, reduceLeDiff → yB, reduceBEq → yC, reduceAdd → yD, reduceSub → yE, reduceMul → yF, reduceEqDiff → yG
open Int renaming reduceToNat → wA, reduceLE → wB, reduceLT → wC, reduceEq → wD, reduceAdd → wE, reduceSub → wF, reduceMul → wG, reduceNeg → wH
open Go Go.Conc Go.Proofs
section
variable {E : Env Tryz.prog} {σ : Hp}
set_option maxRecDepth 100000 in
theorem ready35_c {q n cap : Nat} {name : List UInt8} {b : Option Addr} {held last : Int} {cons : Value} (hq : σ.f q = some (queueO name (.slice b n cap) held last cons)) : CallsE E 35 #[pV q] σ fun e τ => e = .returned (iV n) ∧ τ = σ := by
  refine calls_enter Tryz.func35 Tryz.ntmps35 Tryz.results35 rfl (by simp) fun Q hQn hQr hQp => ?_
  simp only [queueO] at hq
  simp only [go_sem, yA, yB, yC, yD, yE, yF, yG, wA, wB, wC, wD, wE, wF, wG, wH, hq]
  exact hQr _ _ _ _ resIs_one (Hp.le_refl _) ⟨by simp [up], rfl⟩
set_option maxRecDepth 100000 in
theorem consumers36_c {q n cap : Nat} {name : List UInt8} {b : Option Addr} {held last : Int} {ready : Value} (hq : σ.f q = some (queueO name ready held last (.slice b n cap))) : CallsE E 36 #[pV q] σ fun e τ => e = .returned (iV n) ∧ τ = σ := by
  refine calls_enter Tryz.func36 Tryz.ntmps36 Tryz.results36 rfl (by simp) fun Q hQn hQr hQp => ?_
  simp only [queueO] at hq
  simp only [go_sem, yA, yB, yC, yD, yE, yF, yG, wA, wB, wC, wD, wE, wF, wG, wH, hq]
  exact hQr _ _ _ _ resIs_one (Hp.le_refl _) ⟨by simp [up], rfl⟩
set_option maxRecDepth 100000 in
theorem declare268_new {et : TypeId} {L : List Value} {g br mc c chm h un co bf mq k : Nat} {cfg : Cfg} {clock last id most messages nos : Int} {no : Nat} {cr : CR} {hrr : HR} {f : FR} {l : List (List UInt8 × Value × Nat)}
    (het : et ≠ 293) (hp : σ.f 1 = some (.cells L.toArray et (0, 0))) (hL : L[113]? = some (.int .u8 192)) (hg : σ.f g = some (gwO cfg br mc clock last)) (hb : σ.f br = some (brO mq most messages nos)) (hm : σ.f mq = some (kmap keyS l k)) (hu : Uniq l) (hnew : mfind l [113] = none) (hlen : l.length < 8)
    (hc : σ.f c = some (connO g id chm cr)) (hh : σ.f h = some (chanO c no un co hrr)) (hf : σ.f bf = some (frO f)) (ht : pText f.s = some ([113], [])) (hno : no < 1000) (hout : cr.out.length ≤ 1000000) :
    CallsE E 268 #[pV h, pV bf] σ fun e τ => e = .returned .nilIface ∧ ∃ q, σ.f q = none ∧ τ = (((σ.set bf (frO { f with s := [] })).set q (queueO [113] (.slice none 0 0) 0 0 (.slice none 0 0))).set mq (kmap keyS (mput l [113] (pV q) k) (mclock l [113] k))).set c (connO g id chm { cr with out := cr.out ++ callB no 50 11 [.text [113], .long 0, .long 0], sent := clock }) := by
  refine calls_enter Tryz.func268 Tryz.ntmps268 Tryz.results268 rfl (by simp) fun Q hQn hQr hQp => ?_
  have nbf : ∀ {x t} {l : List Value}, t ≠ 293 → σ.f x = some (.cells l.toArray t (0, 0)) → ¬ x = bf := by
    intro x t l ht h e; subst e; rw [hf] at h; simp [frO] at h; exact ht h.2.symm
  have nmf : ¬ mq = bf := fun e => by subst e; rw [hf] at hm; simp [frO, kmap] at hm
  have hf' := hf
  simp only [frO, FR.vals] at hf'
  simp only [go_sem, yA, yB, yC, yD, yE, yF, yG, wA, wB, wC, wD, wE, wF, wG, wH]
  refine call_arg go_228 (text_c hf' rfl) (fun w rest hr => ?_) (fun hr => by rw [ht] at hr; cases hr)
  rw [ht] at hr
  obtain ⟨rfl, rfl⟩ : [113] = w ∧ [] = rest := by simpa using hr
  simp only [go_sem, yA, yB, yC, yD, yE, yF, yG, wA, wB, wC, wD, wE, wF, wG, wH]
  refine call_post go_229 (end_ok (Hp.f_set_same _ _) rfl) ?_ (fun ch σ' ⟨h, _⟩ => by cases h)
  rintro v σ5 ⟨hv, hσ5⟩
  obtain rfl : v = .tuple #[] := by injection hv
  have e5 : σ5 = σ.set bf (frO { f with s := [] }) := by rw [hσ5]; rfl
  clear hσ5
  have ncf : ¬ c = bf := nbf (by decide) hc
  have ngf : ¬ g = bf := nbf (by decide) hg
  have nhf : ¬ h = bf := nbf (by decide) hh
  have nrf : ¬ br = bf := nbf (by decide) hb
  have n1f : ¬ 1 = bf := nbf het hp
  have hc5 : σ5.f c = some (connO g id chm cr) := by rw [e5, Hp.f_ne ncf]; exact hc
  have hg5 : σ5.f g = some (gwO cfg br mc clock last) := by rw [e5, Hp.f_ne ngf]; exact hg
  have hh5 : σ5.f h = some (chanO c no un co hrr) := by rw [e5, Hp.f_ne nhf]; exact hh
  have hb5 : σ5.f br = some (brO mq most messages nos) := by rw [e5, Hp.f_ne nrf]; exact hb
  have hm5 : σ5.f mq = some (kmap keyS l k) := by rw [e5, Hp.f_ne nmf]; exact hm
  have hp5 : σ5.f 1 = some (.cells L.toArray et (0, 0)) := by rw [e5, Hp.f_ne n1f]; exact hp
  have hle5 : σ.f bf = some (frO f) := hf
  have hc5' := hc5
  have hg5' := hg5
  have hh5' := hh5
  simp only [connO, CR.vals] at hc5'
  simp only [gwO] at hg5'
  simp only [chanO, HR.vals] at hh5'
  simp only [go_sem, yA, yB, yC, yD, yE, yF, yG, wA, wB, wC, wD, wE, wF, wG, wH, hh5', hc5', hg5']
  refine call_post go_286 (declare286_new hp5 hL hb5 hm5 hu hnew hlen) ?_ (fun ch σ' ⟨_, h, _⟩ => by cases h)
  rintro v σ6 ⟨q, hv, hq, e6⟩
  obtain rfl : v = .tuple #[pV q, .nilIface] := by injection hv
  have nq : ∀ {x o}, σ5.f x = some o → ¬ x = q := fun h e => by subst e; rw [hq] at h; cases h
  have nmq : ∀ {x t} {l : List Value}, σ5.f x = some (.cells l.toArray t (0, 0)) → ¬ x = mq := by
    intro x t l h e; subst e; rw [hm5] at h; simp [kmap] at h
  have hq6 : σ6.f q = some (queueO [113] (.slice none 0 0) 0 0 (.slice none 0 0)) := by
    rw [e6, Hp.f_ne (fun e => nq hm5 e.symm)]; exact Hp.f_set_same _ _
  have keep6 : ∀ {x t} {l : List Value}, σ5.f x = some (.cells l.toArray t (0, 0)) → σ6.f x = some (.cells l.toArray t (0, 0)) := fun h => by rw [e6, Hp.f_ne (nmq h), Hp.f_ne (nq h)]; exact h
  have hc6 := keep6 hc5'
  have hg6 := keep6 hg5'
  have hh6 := keep6 hh5'
  have hc7 : σ6.f c = some (connO g id chm cr) := hc6
  have hg7 : σ6.f g = some (gwO cfg br mc clock last) := hg6
  simp only [go_sem, yA, yB, yC, yD, yE, yF, yG, wA, wB, wC, wD, wE, wF, wG, wH]
  refine wpC_draw [0,1,2,3,4,5,6,7,8,9,10,13,11,12,14,15,16,17] (fun _ _ _ => False) (by kernel_rfl) (by decide +kernel) (fun _ _ _ _ h => h.elim) ?_
  simp only [go_sem, yA, yB, yC, yD, yE, yF, yG, wA, wB, wC, wD, wE, wF, wG, wH, hh6]
  refine call_ret go_35 (ready35_c hq6) ?_
  refine ⟨by (repeat (first | exact keeps_nil | (apply keeps_cons; (focus decide +kernel)) | (refine keeps_rd rfl (by simp only [go_sem, yA, yB, yC, yD, yE, yF, yG, wA, wB, wC, wD, wE, wF, wG, wH, hh6]) ?_))), ?_⟩
  simp only [go_sem, yA, yB, yC, yD, yE, yF, yG, wA, wB, wC, wD, wE, wF, wG, wH, hh6]
  refine call_ret go_36 (consumers36_c hq6) ?_
  refine ⟨by (repeat (first | exact keeps_nil | (apply keeps_cons; (focus decide +kernel)) | (refine keeps_rd rfl (by simp only [go_sem, yA, yB, yC, yD, yE, yF, yG, wA, wB, wC, wD, wE, wF, wG, wH, hh6]) ?_))), ?_⟩
  simp only [go_sem, yA, yB, yC, yD, yE, yF, yG, wA, wB, wC, wD, wE, wF, wG, wH, hh6]
  refine fun ba hba => ?_
  have nba : ∀ {x o}, σ6.f x = some o → ¬ x = ba := fun h e => by subst e; rw [hba] at h; cases h
  have hh8 : ∀ o, (σ6.set ba o).f h = _ := fun o => (Hp.f_ne (nba hh6)).trans hh6
  refine ⟨by (repeat (first | exact keeps_nil | (apply keeps_cons; (focus decide +kernel)) | (refine keeps_rd rfl (by simp only [go_sem, yA, yB, yC, yD, yE, yF, yG, wA, wB, wC, wD, wE, wF, wG, wH, hh8]) ?_))), ?_⟩
  simp only [go_sem, yA, yB, yC, yD, yE, yF, yG, wA, wB, wC, wD, wE, wF, wG, wH]
  refine call_ret go_105 (rcall_c (g := g) (id := id) (chm := chm) (cr := cr) (ch := no) (cl := 50) (me := 11) (xs := [.text [113], .long 0, .long 0]) ((Hp.f_ne (nba hg6)).trans hg7) ((Hp.f_ne (nba hc6)).trans hc7) (.inr ⟨ba, rfl, Hp.f_set_same _ _⟩) (by simp [argOk]) (by simp) (by omega) (by decide) (by decide) (by decide) (by omega)) ?_
  refine ⟨by (repeat (first | exact keeps_nil | (apply keeps_cons; (focus decide +kernel)))), ?_⟩
  simp only [go_sem, yA, yB, yC, yD, yE, yF, yG, wA, wB, wC, wD, wE, wF, wG, wH]
  have hqσ : σ.f q = none := by
    cases hs : σ.f q with
    | none => rfl
    | some o =>
      by_cases e : q = bf
      · rw [e5, e, Hp.f_set_same] at hq; cases hq
      · rw [e5, Hp.f_ne e, hs] at hq; cases hq
  refine hQr _ _ (σ6.set c (connO g id chm { cr with out := cr.out ++ callB no 50 11 [.text [113], .long 0, .long 0], sent := clock })) _ resIs_one ?_ ⟨?_, q, hqσ, ?_⟩
  · refine set_ext (fun x o hx => ?_) _ _
    rw [Hp.f_ne (nba hx)]; exact hx
  · simp [up]
  · rw [e6, e5]
end
end Go.Qw
