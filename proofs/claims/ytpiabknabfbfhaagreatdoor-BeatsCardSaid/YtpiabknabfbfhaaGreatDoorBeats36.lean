/- The law Beats of queuewire returns true for every three integers: the row over the given program, tied to its text; no condition besides. (Part 36 of 40: QwHandle2 QwUnit QwNew QwAs1 QwAs2.) -/
import Derived.Test.YtpiabknabfbfhaaGreatDoorBeats25
import Derived.Test.YtpiabknabfbfhaaGreatDoorBeats35
set_option linter.all false
-- handle: a method's frame that is handled without a throw.
namespace Go.Qw
open Nat renaming reduceLT → yA, reduceLeDiff → yB, reduceBEq → yC, reduceAdd → yD, reduceSub → yE, reduceMul → yF, reduceEqDiff → yG
open Int renaming reduceToNat → wA, reduceLE → wB, reduceLT → wC, reduceEq → wD, reduceAdd → wE, reduceSub → wF, reduceMul → wG, reduceNeg → wH
open Go Go.Conc Go.Proofs

/-- Two blocks. -/
def two4 (b3 b4 : Nat) (o3 o4 : Obj) : Hp := ⟨fun b => if b = b4 then some o4 else if b = b3 then some o3 else none⟩

theorem ld_45 {τ : Hp} {b : Nat} {v : Value} {e : TypeId} (h : τ.f b = some (.cells #[v] e (0, 0))) : ldV Tryz.prog 45 ⟨b, 0, none⟩ τ = some v := by
  unfold ldV
  rw [if_neg (by rw [ag_45]; simp)]
  simp [Hp.cell?, h]
section
variable {E : Env Tryz.prog} {σ : Hp}
set_option maxRecDepth 100000 in
theorem handle150_c {g c chm bf : Nat} {id : Int} {cr : CR} {f f2 : FR} {s1 s2 : List UInt8} {n1 n2 : Nat} {R : Hp → Prop} (hc : σ.f c = some (connO g id chm cr)) (hf : σ.f bf = some (frO f)) (hk : f.u.kind = 1) (hl : 4 ≤ f.s.length) (t1 : pNumber 2 f.s = some (n1, s1)) (t2 : pNumber 2 s1 = some (n2, s2)) (hf2 : f2 = { f with s := s2, cl := n1, me := n2 }) (hup : ∀ σ τ : Hp, R σ → σ.le τ → R τ)
    (hcall : ((cr.ph = 1 ∨ cr.ph = 2) ∧ ∀ E : Env Tryz.prog, CallsE E 190 #[pV c, pV bf] (σ.set bf (frO f2)) fun e τ => e = .returned .nilIface ∧ R τ) ∨
      (cr.ph = 3 ∧ f.u.channel ≠ 0 ∧ ∀ E : Env Tryz.prog, CallsE E 192 #[pV c, pV bf] (σ.set bf (frO f2)) fun e τ => e = .returned .nilIface ∧ R τ)) :
    CallsE E 150 #[pV c, pV bf] σ fun e τ => e = .returned .nilIface ∧ R τ := by
  refine calls_enter_defer Tryz.func150 Tryz.ntmps150 Tryz.results150 rfl (by simp) fun Q hQn hQr => ?_
  simp only [go_sem, yA, yB, yC, yD, yE, yF, yG, wA, wB, wC, wD, wE, wF, wG, wH]
  refine fun b3 hb3 => ?_
  simp only [go_sem, yA, yB, yC, yD, yE, yF, yG, wA, wB, wC, wD, wE, wF, wG, wH]
  refine fun b4 hb4 => ?_
  have n43 : ¬ b4 = b3 := fun e => by subst e; rw [Hp.f_set_same] at hb4; cases hb4
  rw [Hp.f_ne n43] at hb4
  have m3 : ∀ {x o}, σ.f x = some o → ¬ x = b3 := fun h e => by subst e; rw [hb3] at h; cases h
  have m4 : ∀ {x o}, σ.f x = some o → ¬ x = b4 := fun h e => by subst e; rw [hb4] at h; cases h
  have hf' := hf
  simp only [frO, FR.vals] at hf'
  simp only [go_sem, yA, yB, yC, yD, yE, yF, yG, wA, wB, wC, wD, wE, wF, wG, wH]
  refine defer_intro (df := 188) (caps := #[pV b3, pV b4]) ?_ ?_
  · simp only [go_sem, yA, yB, yC, yD, yE, yF, yG, wA, wB, wC, wD, wE, wF, wG, wH]
  have g3 : ∀ o o', ((σ.set b3 o).set b4 o').f b3 = some o := fun o o' => by rw [Hp.f_ne (fun e => n43 e.symm)]; exact Hp.f_set_same _ _
  have gf : ∀ o o', ((σ.set b3 o).set b4 o').f bf = _ := fun o o' => (Hp.f_ne (m4 hf')).trans ((Hp.f_ne (m3 hf')).trans hf')
  have c4 : ¬ (f.s.length : Int) < 4 := by omega
  simp only [go_sem, yA, yB, yC, yD, yE, yF, yG, wA, wB, wC, wD, wE, wF, wG, wH, g3, gf, hk, c4, decide_true]
  refine wpC_draw [0,1,2,3,4,6,7,8,5,9,10,11,12,13,14,15] (fun _ _ _ => False) (by kernel_rfl) (by decide +kernel) (fun _ _ _ _ h => h.elim) ?_
  simp only [go_sem, yA, yB, yC, yD, yE, yF, yG, wA, wB, wC, wD, wE, wF, wG, wH, g3]
  refine call_arg go_147 (number_c (w := 2) (gf _ _) rfl (by decide)) (fun w rest hr => ?_) (fun hr => by rw [t1] at hr; cases hr)
  rw [t1] at hr
  obtain ⟨rfl, rfl⟩ : n1 = w ∧ s1 = rest := by simpa using hr
  have n3f : ¬ b3 = bf := fun e => m3 hf e.symm
  have n4f : ¬ b4 = bf := fun e => m4 hf e.symm
  have g3f : ∀ o o' o'', (((σ.set b3 o).set b4 o').set bf o'').f b3 = some o := fun o o' o'' => (Hp.f_ne n3f).trans (g3 o o')
  refine ⟨by (repeat (first | exact keeps_nil | (apply keeps_cons; (focus decide +kernel)) | (refine keeps_rd rfl (by simp only [go_sem, yA, yB, yC, yD, yE, yF, yG, wA, wB, wC, wD, wE, wF, wG, wH, g3f]) ?_))), ?_⟩
  simp only [go_sem, yA, yB, yC, yD, yE, yF, yG, wA, wB, wC, wD, wE, wF, wG, wH, g3f]
  refine call_arg go_147 (number_c (w := 2) (Hp.f_set_same _ _) rfl (by decide)) (fun w rest hr => ?_) (fun hr => by rw [t2] at hr; cases hr)
  rw [t2] at hr
  obtain ⟨rfl, rfl⟩ : n2 = w ∧ s2 = rest := by simpa using hr
  refine ⟨by (repeat (first | exact keeps_nil | (apply keeps_cons; (focus decide +kernel)) | (refine keeps_rd rfl (by simp only [go_sem, yA, yB, yC, yD, yE, yF, yG, wA, wB, wC, wD, wE, wF, wG, wH, g3f]) ?_))), ?_⟩
  simp only [go_sem, yA, yB, yC, yD, yE, yF, yG, wA, wB, wC, wD, wE, wF, wG, wH, g3f]
  refine ⟨by (repeat (first | exact keeps_nil | (apply keeps_cons; (focus decide +kernel)) | (refine keeps_rd rfl (by simp only [go_sem, yA, yB, yC, yD, yE, yF, yG, wA, wB, wC, wD, wE, wF, wG, wH, g3f]) ?_))), ?_⟩
  simp only [go_sem, yA, yB, yC, yD, yE, yF, yG, wA, wB, wC, wD, wE, wF, wG, wH, g3f]
  refine ⟨by (repeat (first | exact keeps_nil | (apply keeps_cons; (focus decide +kernel)) | (refine keeps_rd rfl (by simp only [go_sem, yA, yB, yC, yD, yE, yF, yG, wA, wB, wC, wD, wE, wF, wG, wH, g3f]) ?_))), ?_⟩
  have ncf : ¬ c = bf := fun e => by subst e; rw [hf] at hc; simp [connO, frO] at hc
  have hc' := hc
  simp only [connO, CR.vals] at hc'
  have gc : ∀ o o' o'', (((σ.set b3 o).set b4 o').set bf o'').f c = _ := fun o o' o'' => (Hp.f_ne ncf).trans ((Hp.f_ne (m4 hc')).trans ((Hp.f_ne (m3 hc')).trans hc'))
  simp only [go_sem, yA, yB, yC, yD, yE, yF, yG, wA, wB, wC, wD, wE, wF, wG, wH, g3f, gc]
  have hbσ3 : (σ.set bf (frO f2)).f b3 = none := (Hp.f_ne n3f).trans hb3
  have hbσ4 : (σ.set bf (frO f2)).f b4 = none := (Hp.f_ne n4f).trans hb4
  have hdis : ∀ o o', (σ.set bf (frO f2)).Dis (two4 b3 b4 o o') := by
    intro o o' b
    by_cases e4 : b = b4
    · exact .inl (by rw [e4]; exact hbσ4)
    · by_cases e3 : b = b3
      · exact .inl (by rw [e3]; exact hbσ3)
      · exact .inr (by simp [two4, e4, e3])
  have hU : ∀ o o', ((σ.set b3 o).set b4 o').set bf (frO f2) = (σ.set bf (frO f2)).uni (two4 b3 b4 o o') := by
    intro o o'
    refine Hp.ext' fun x => ?_
    by_cases ef : x = bf
    · subst ef; rw [Hp.f_set_same, Hp.uni_some (Hp.f_set_same _ _)]
    · rw [Hp.f_ne ef]
      by_cases e4 : x = b4
      · subst e4; rw [Hp.f_set_same, Hp.uni_none hbσ4]; simp [two4]
      · rw [Hp.f_ne e4]
        by_cases e3 : x = b3
        · subst e3; rw [Hp.f_set_same, Hp.uni_none hbσ3]; simp [two4, e4]
        · rw [Hp.f_ne e3]
          cases hs : σ.f x with
          | some v => rw [Hp.uni_some]; rw [Hp.f_ne ef]; exact hs
          | none => rw [Hp.uni_none (by rw [Hp.f_ne ef]; exact hs)]; simp [two4, e4, e3]
  have key : ∀ (n : Nat) (o o' : Obj) (H : Hp), (∀ E : Env Tryz.prog, CallsE E n #[pV c, pV bf] (σ.set bf (frO f2)) fun e τ => e = .returned .nilIface ∧ R τ) → H = ((σ.set b3 o).set b4 o').set bf (frO f2) →
      CallsE E n #[pV c, pV bf] H fun e τ => ∃ σ', σ'.Dis (two4 b3 b4 o o') ∧ τ = σ'.uni (two4 b3 b4 o o') ∧ e = .returned .nilIface ∧ R σ' := by
    intro n o o' H h e
    subst e
    rw [hU]
    exact (h _).framed (hdis _ _)
  have fr2 : frO f2 = .cells [iV f.u.kind, iV f.u.channel, sV f.u.payload, .bool f.u.greeting, .bool f.u.wrong, sV s2, iV n1, iV n2].toArray 293 (0, 0) := by rw [hf2]; rfl
  have r4 : ∀ (o o' : Obj) (σ' : Hp), σ'.Dis (two4 b3 b4 o o') → (σ'.uni (two4 b3 b4 o o')).f b4 = some o' := fun o o' σ' hd => Hp.le_uni_right hd _ _ (by simp [two4])
  have fin : ∀ (o o' o'' : Obj) (σ' : Hp), σ'.Dis (two4 b3 b4 o o') → σ'.le ((σ'.uni (two4 b3 b4 o o')).set b4 o'') := by
    intro o o' o'' σ' hd x p hx
    have : x ≠ b4 := by
      intro e
      rcases hd b4 with h | h
      · rw [e, h] at hx; cases hx
      · simp [two4] at h
    rw [Hp.f_ne this]
    exact Hp.uni_some hx
  have gf2 : ∀ (H : Hp) (o : Obj), (H.set bf o).f bf = some o := fun _ _ => Hp.f_set_same _ _
  rcases hcall with ⟨hph, hcall⟩ | ⟨hph, hch, hcall⟩
  · have hph' : cr.ph = 1 ∨ (¬ cr.ph = 1 ∧ cr.ph = 2) := by omega
    rcases hph' with p1 | ⟨p1, p2⟩
    · simp only [go_sem, yA, yB, yC, yD, yE, yF, yG, wA, wB, wC, wD, wE, wF, wG, wH, p1, g3f, decide_true]
      refine call_post go_190 (key 190 (.cells [pV bf].toArray 291 (0, 0)) (.cells [.nilIface].toArray 45 (0, 0)) _ hcall ?_) ?_ (fun ch σ' ⟨_, _, _, h, _⟩ => by cases h)
      · rw [fr2, hk]; simp only [Hp.set_set]; rfl
      · rintro v τ ⟨σ', hd, rfl, hv, hR⟩
        obtain rfl : v = .nilIface := by injection hv
        have r4' := r4 _ _ _ hd
        simp only [go_sem, yA, yB, yC, yD, yE, yF, yG, wA, wB, wC, wD, wE, wF, wG, wH, r4']
        refine hQr _ _ _ .nilIface _ _ (resIs_cell (b := b4) ?_ (by kernel_rfl) ?_) (Hp.le_refl _) ⟨rfl, hup _ _ hR (fin _ _ _ _ hd)⟩
        · simp [up]
        · exact ld_45 (Hp.f_set_same _ _)
    · simp only [go_sem, yA, yB, yC, yD, yE, yF, yG, wA, wB, wC, wD, wE, wF, wG, wH, p1, p2, g3f, decide_true, decide_false]
      refine call_post go_190 (key 190 (.cells [pV bf].toArray 291 (0, 0)) (.cells [.nilIface].toArray 45 (0, 0)) _ hcall ?_) ?_ (fun ch σ' ⟨_, _, _, h, _⟩ => by cases h)
      · rw [fr2, hk]; simp only [Hp.set_set]; rfl
      · rintro v τ ⟨σ', hd, rfl, hv, hR⟩
        obtain rfl : v = .nilIface := by injection hv
        have r4' := r4 _ _ _ hd
        simp only [go_sem, yA, yB, yC, yD, yE, yF, yG, wA, wB, wC, wD, wE, wF, wG, wH, r4']
        refine hQr _ _ _ .nilIface _ _ (resIs_cell (b := b4) ?_ (by kernel_rfl) ?_) (Hp.le_refl _) ⟨rfl, hup _ _ hR (fin _ _ _ _ hd)⟩
        · simp [up]
        · exact ld_45 (Hp.f_set_same _ _)
  · have p1 : ¬ cr.ph = 1 := by omega
    have p2 : ¬ cr.ph = 2 := by omega
    simp only [go_sem, yA, yB, yC, yD, yE, yF, yG, wA, wB, wC, wD, wE, wF, wG, wH, p1, p2, hph, g3f, gf2, hch, decide_true, decide_false]
    refine call_post go_192 (key 192 (.cells [pV bf].toArray 291 (0, 0)) (.cells [.nilIface].toArray 45 (0, 0)) _ hcall ?_) ?_ (fun ch σ' ⟨_, _, _, h, _⟩ => by cases h)
    · rw [fr2, hk]; simp only [Hp.set_set]; rfl
    · rintro v τ ⟨σ', hd, rfl, hv, hR⟩
      obtain rfl : v = .nilIface := by injection hv
      have r4' := r4 _ _ _ hd
      simp only [go_sem, yA, yB, yC, yD, yE, yF, yG, wA, wB, wC, wD, wE, wF, wG, wH, r4']
      refine hQr _ _ _ .nilIface _ _ (resIs_cell (b := b4) ?_ (by kernel_rfl) ?_) (Hp.le_refl _) ⟨rfl, hup _ _ hR (fin _ _ _ _ hd)⟩
      · simp [up]
      · exact ld_45 (Hp.f_set_same _ _)
end
end Go.Qw
-- framed and unit, without a fault.
namespace Go.Qw
open Nat renaming reduceLT → yA, reduceLeDiff → yB, reduceBEq → yC, reduceAdd → yD, reduceSub → yE, reduceMul → yF, reduceEqDiff → yG
open Int renaming reduceToNat → wA, reduceLE → wB, reduceLT → wC, reduceEq → wD, reduceAdd → wE, reduceSub → wF, reduceMul → wG, reduceNeg → wH
open Go Go.Conc Go.Proofs
section
variable {E : Env Tryz.prog} {σ : Hp}
set_option maxRecDepth 100000 in
theorem framed107_c {c : Nat} {u : Un} {R : Hp → Prop}
    (h150 : ∀ bf, σ.f bf = none → CallsE E 150 #[pV c, pV bf] (σ.set bf (frO ⟨u, u.payload, 0, 0⟩)) fun e τ => e = .returned .nilIface ∧ R τ) :
    CallsE E 107 #[pV c, uV u] σ fun e τ => e = .returned (.tuple #[]) ∧ R τ := by
  refine calls_enter Tryz.func107 Tryz.ntmps107 Tryz.results107 rfl (by simp) fun Q hQn hQr hQp => ?_
  simp only [go_sem, yA, yB, yC, yD, yE, yF, yG, wA, wB, wC, wD, wE, wF, wG, wH, uV]
  refine fun b3 hb3 => ?_
  simp only [go_sem, yA, yB, yC, yD, yE, yF, yG, wA, wB, wC, wD, wE, wF, wG, wH]
  refine fun bf hbf => ?_
  have n3 : ¬ bf = b3 := fun e => by subst e; rw [Hp.f_set_same] at hbf; cases hbf
  rw [Hp.f_ne n3] at hbf
  have h1 := h150 bf hbf
  have hle : ∀ o, (σ.set bf (frO ⟨u, u.payload, 0, 0⟩)).le ((σ.set b3 o).set bf (frO ⟨u, u.payload, 0, 0⟩)) := fun o => set_ext (fun x p h => by rw [Hp.f_ne (fun e => by subst e; rw [hb3] at h; cases h)]; exact h) _ _
  simp only [go_sem, yA, yB, yC, yD, yE, yF, yG, wA, wB, wC, wD, wE, wF, wG, wH]
  refine call_post go_150 (h1.weak (hle _)) ?_ (fun ch σ' ⟨h, _⟩ => by cases h)
  rintro v τ ⟨hv, hR⟩
  obtain rfl : v = .nilIface := by injection hv
  simp only [go_sem, yA, yB, yC, yD, yE, yF, yG, wA, wB, wC, wD, wE, wF, wG, wH]
  refine fun b6 hb6 => ?_
  simp only [go_sem, yA, yB, yC, yD, yE, yF, yG, wA, wB, wC, wD, wE, wF, wG, wH]
  refine fun b7 hb7 => ?_
  simp only [go_sem, yA, yB, yC, yD, yE, yF, yG, wA, wB, wC, wD, wE, wF, wG, wH]
  refine hQn _ _ τ _ resIs_none ?_ ⟨rfl, hR⟩
  intro x p h
  have n6 : ¬ x = b6 := fun e => by subst e; rw [hb6] at h; cases h
  have n7 : ¬ x = b7 := fun e => by subst e; rw [Hp.f_ne n6, h] at hb7; cases hb7
  rw [Hp.f_ne n7, Hp.f_ne n6]
  exact h
set_option maxRecDepth 100000 in
theorem unit59_framed {c : Nat} {u : Un} {R : Hp → Prop} (hg : u.greeting = false) (hw : u.wrong = false) (hk : u.kind ≠ 8) (h107 : CallsE E 107 #[pV c, uV u] σ fun e τ => e = .returned (.tuple #[]) ∧ R τ) :
    CallsE E 59 #[pV c, uV u] σ fun e τ => e = .returned (.tuple #[]) ∧ R τ := by
  refine calls_enter Tryz.func59 Tryz.ntmps59 Tryz.results59 rfl (by simp) fun Q hQn hQr hQp => ?_
  simp only [uV] at h107
  simp only [go_sem, yA, yB, yC, yD, yE, yF, yG, wA, wB, wC, wD, wE, wF, wG, wH, uV]
  refine fun b3 hb3 => ?_
  have hle : ∀ o, σ.le (σ.set b3 o) := fun o x p h => by rw [Hp.f_ne (fun e => by subst e; rw [hb3] at h; cases h)]; exact h
  have c8 : ¬ u.kind = 8 := hk
  simp only [go_sem, yA, yB, yC, yD, yE, yF, yG, wA, wB, wC, wD, wE, wF, wG, wH, hg, hw, c8, decide_false, Bool.not_false]
  rw [hg, hw] at h107
  refine call_post go_107 (h107.weak (hle _)) ?_ (fun ch σ' ⟨h, _⟩ => by cases h)
  rintro v τ ⟨hv, hR⟩
  obtain rfl : v = .tuple #[] := by injection hv
  simp only [go_sem, yA, yB, yC, yD, yE, yF, yG, wA, wB, wC, wD, wE, wF, wG, wH]
  exact hQn _ _ _ _ resIs_none (Hp.le_refl _) ⟨rfl, hR⟩
set_option maxRecDepth 100000 in
theorem unit59_beat {c : Nat} {u : Un} (hg : u.greeting = false) (hw : u.wrong = false) (hk : u.kind = 8) :
    CallsE E 59 #[pV c, uV u] σ fun e τ => e = .returned (.tuple #[]) ∧ τ = σ := by
  refine calls_enter Tryz.func59 Tryz.ntmps59 Tryz.results59 rfl (by simp) fun Q hQn hQr hQp => ?_
  simp only [go_sem, yA, yB, yC, yD, yE, yF, yG, wA, wB, wC, wD, wE, wF, wG, wH, uV]
  refine fun b3 hb3 => ?_
  have hle : ∀ o, σ.le (σ.set b3 o) := fun o x p h => by rw [Hp.f_ne (fun e => by subst e; rw [hb3] at h; cases h)]; exact h
  simp only [go_sem, yA, yB, yC, yD, yE, yF, yG, wA, wB, wC, wD, wE, wF, wG, wH, hg, hw, hk, decide_true, Bool.not_true]
  exact hQn _ _ σ _ resIs_none (hle _) ⟨rfl, rfl⟩
set_option maxRecDepth 100000 in
theorem unit59_greet {g br mc c chm k1 k2 k3 : Nat} {cfg : Cfg} {clock last id : Int} {cr : CR} {u : Un} (hgr : u.greeting = true) (hw : u.wrong = false) (hg : σ.f g = some (gwO cfg br mc clock last)) (hc : σ.f c = some (connO g id chm cr)) (e1 : cfg.channels = k1) (e2 : cfg.frame = k2) (e3 : cfg.beat = k3)
    (l1 : k1 < 100000) (l2 : k2 < 100000) (l3 : k3 < 100000) (hout : cr.out.length ≤ 1000000) :
    CallsE E 59 #[pV c, uV u] σ fun e τ => e = .returned (.tuple #[]) ∧ τ = σ.set c (connO g id chm { cr with ph := 1, out := cr.out ++ callB 0 10 30 [.short k1, .long k2, .short k3], sent := clock }) := by
  refine calls_enter Tryz.func59 Tryz.ntmps59 Tryz.results59 rfl (by simp) fun Q hQn hQr hQp => ?_
  have ngc : ¬ g = c := fun e => by subst e; rw [hg] at hc; simp [gwO, connO] at hc
  have hc' := hc
  have hg' := hg
  simp only [connO, CR.vals] at hc'
  simp only [gwO, e1, e2, e3] at hg'
  simp only [go_sem, yA, yB, yC, yD, yE, yF, yG, wA, wB, wC, wD, wE, wF, wG, wH, uV]
  refine fun b3 hb3 => ?_
  have nb : ∀ {x o}, σ.f x = some o → ¬ x = b3 := fun h e => by subst e; rw [hb3] at h; cases h
  have lc : ∀ o, (σ.set b3 o).f c = _ := fun o => (Hp.f_ne (nb hc')).trans hc'
  have lg : ∀ o, (σ.set b3 o).f g = _ := fun o => (Hp.f_ne (nb hg')).trans hg'
  have lc2 : ∀ (H : Hp) (o : Obj), (H.set c o).f c = some o := fun _ _ => Hp.f_set_same _ _
  have lg2 : ∀ o o', ((σ.set b3 o).set c o').f g = _ := fun o o' => (Hp.f_ne ngc).trans (lg o)
  simp only [go_sem, yA, yB, yC, yD, yE, yF, yG, wA, wB, wC, wD, wE, wF, wG, wH, hgr, hw, lc]
  refine wpC_draw [0,1,2,3,4,5,6,7,8,9,10,11,12,13,14,15,16,17,18,19,20,21,22,23,24,25,26,27,28,29] (fun _ _ _ => False) (by kernel_rfl) (by decide +kernel) (fun _ _ _ _ h => h.elim) ?_
  simp only [go_sem, yA, yB, yC, yD, yE, yF, yG, wA, wB, wC, wD, wE, wF, wG, wH, lc2, lg2]
  refine fun ba hba => ?_
  have nca : ¬ c = ba := fun e => by subst e; rw [Hp.f_set_same] at hba; cases hba
  have nga : ¬ g = ba := fun e => by subst e; rw [lg2] at hba; cases hba
  have lca : ∀ (H : Hp) (o o' : Obj), ((H.set c o).set ba o').f c = some o := fun _ _ _ => (Hp.f_ne nca).trans (Hp.f_set_same _ _)
  have lga : ∀ o o' o'', (((σ.set b3 o).set c o').set ba o'').f g = _ := fun o o' o'' => (Hp.f_ne nga).trans (lg2 o o')
  refine ⟨by (repeat (first | exact keeps_nil | (apply keeps_cons; (focus decide +kernel)) | (refine keeps_rd rfl (by simp only [go_sem, yA, yB, yC, yD, yE, yF, yG, wA, wB, wC, wD, wE, wF, wG, wH, lca, lga]) ?_))), ?_⟩
  simp only [go_sem, yA, yB, yC, yD, yE, yF, yG, wA, wB, wC, wD, wE, wF, wG, wH]
  refine call_ret go_105 (rcall_c (g := g) (id := id) (chm := chm) (cr := { cr with ph := 1 }) (ch := 0) (cl := 10) (me := 30) (xs := [.short k1, .long k2, .short k3]) (cfg := cfg) (br := br) (mc := mc) (clock := clock) (last := last) ?_ (lca _ _ _) (.inr ⟨ba, rfl, Hp.f_set_same _ _⟩) ?_ (by simp) (by decide) (by decide) (by decide) ?_ (by show cr.out.length ≤ _; omega)) ?_
  · rw [lga]; simp [gwO, e1, e2, e3]
  · simp [argOk]; omega
  · simp [argsB, argB, beB_length]
  refine ⟨by (repeat (first | exact keeps_nil | (apply keeps_cons; (focus decide +kernel)))), ?_⟩
  simp only [go_sem, yA, yB, yC, yD, yE, yF, yG, wA, wB, wC, wD, wE, wF, wG, wH]
  refine hQn _ _ (σ.set c (connO g id chm { cr with ph := 1, out := cr.out ++ callB 0 10 30 [.short k1, .long k2, .short k3], sent := clock })) _ resIs_none ?_ ⟨rfl, rfl⟩
  intro x o hx
  by_cases e : x = c
  · subst e; rw [Hp.f_set_same] at hx ⊢; exact hx
  · rw [Hp.f_ne e] at hx
    have h5 : ∀ o, (σ.set b3 o).f x = _ := fun o => (Hp.f_ne (nb hx)).trans hx
    have : x ≠ ba := fun e' => by subst e'; rw [Hp.f_ne e, h5] at hba; cases hba
    rw [Hp.f_ne e, Hp.f_ne this, Hp.f_ne e]
    exact h5 _
end
end Go.Qw
-- New.
namespace Go.Qw
open Nat renaming reduceLT → yA, reduceLeDiff → yB, reduceBEq → yC, reduceAdd → yD, reduceSub → yE, reduceMul → yF, reduceEqDiff → yG
open Int renaming reduceToNat → wA, reduceLE → wB, reduceLT → wC, reduceEq → wD, reduceAdd → wE, reduceSub → wF, reduceMul → wG, reduceNeg → wH
open Go Go.Conc Go.Proofs
section
variable {E : Env Tryz.prog} {σ : Hp}
set_option maxRecDepth 100000 in
theorem new32_c {cfg : Cfg} (c1 : ¬ cfg.channels < 1) (c2 : ¬ cfg.channels > 8) (c3 : ¬ cfg.frame < 64) (c4 : ¬ cfg.frame > 4096) (c5 : ¬ cfg.beat < 0) (c6 : ¬ cfg.beat > 50) (c7 : ¬ cfg.queue < 1) (c8 : ¬ cfg.queue > 50) (c9 : ¬ cfg.body < 0) (c10 : ¬ cfg.body > 10000) :
    CallsE E 32 #[.agg cfg.vals.toArray] σ fun e τ => ∃ g br mq mc, e = .returned (.tuple #[pV g, .nilIface]) ∧ σ.f g = none ∧ σ.f br = none ∧ σ.f mq = none ∧ σ.f mc = none ∧ br ≠ mq ∧ mc ≠ mq ∧ mc ≠ br ∧ g ≠ mq ∧ g ≠ br ∧ g ≠ mc ∧
      τ = (((σ.set mq (kmap keyS [] 0)).set br (brO mq cfg.queue 0 0)).set mc (kmap keyI [] 0)).set g (gwO cfg br mc 0 0) := by
  refine calls_enter Tryz.func32 Tryz.ntmps32 Tryz.results32 rfl (by simp) fun Q hQn hQr hQp => ?_
  simp only [go_sem, yA, yB, yC, yD, yE, yF, yG, wA, wB, wC, wD, wE, wF, wG, wH, Cfg.vals]
  refine fun b1 hb1 => ?_
  have lb : ∀ (H : Hp) (o : Obj), (H.set b1 o).f b1 = some o := fun _ _ => Hp.f_set_same _ _
  simp only [go_sem, yA, yB, yC, yD, yE, yF, yG, wA, wB, wC, wD, wE, wF, wG, wH, lb, c1, c2, c3, c4, c5, c6, c7, c8, c9, c10]
  refine wpC_draw2 3 4 [0,1,2,3,4,5,6,7,8] [0,1,2,4,3,5,6,7,8] (fun _ _ _ => False) (by kernel_rfl) (by decide +kernel) (fun _ _ _ _ h => h.elim) ?_ ?_ <;> simp only [addE, List.modify_toArray, List.modify_succ_cons, List.modify_zero_cons]
  · simp only [go_sem, yA, yB, yC, yD, yE, yF, yG, wA, wB, wC, wD, wE, wF, wG, wH, lb]
    refine call_post go_46 new46_c ?_ (fun ch σ' ⟨_, _, h, _⟩ => by cases h)
    rintro v τ ⟨br, mq, hv, hmq, nbm, hbr, rfl⟩
    obtain rfl : v = pV br := by injection hv
    have n1q : ¬ b1 = mq := fun e => by subst e; rw [Hp.f_set_same] at hmq; cases hmq
    have n1b : ¬ b1 = br := fun e => by subst e; rw [Hp.f_set_same] at hbr; cases hbr
    rw [Hp.f_ne (fun e => n1q e.symm)] at hmq
    rw [Hp.f_ne (fun e => n1b e.symm)] at hbr
    have l1 : ∀ o o' o'', (((σ.set b1 o).set mq o').set br o'').f b1 = some o := fun o o' o'' => (Hp.f_ne n1b).trans ((Hp.f_ne n1q).trans (Hp.f_set_same _ _))
    refine ⟨by (repeat (first | exact keeps_nil | (apply keeps_cons; (focus decide +kernel)) | (refine keeps_rd rfl (by simp only [go_sem, yA, yB, yC, yD, yE, yF, yG, wA, wB, wC, wD, wE, wF, wG, wH, l1]) ?_))), ?_⟩
    simp only [go_sem, yA, yB, yC, yD, yE, yF, yG, wA, wB, wC, wD, wE, wF, wG, wH]
    refine fun mc hmc => ?_
    have ncb : ¬ mc = br := fun e => by subst e; rw [Hp.f_set_same] at hmc; cases hmc
    rw [Hp.f_ne ncb] at hmc
    have ncq : ¬ mc = mq := fun e => by subst e; rw [Hp.f_set_same] at hmc; cases hmc
    rw [Hp.f_ne ncq] at hmc
    have nc1 : ¬ mc = b1 := fun e => by subst e; rw [Hp.f_set_same] at hmc; cases hmc
    rw [Hp.f_ne nc1] at hmc
    have l2 : ∀ o o' o'' o3, ((((σ.set b1 o).set mq o').set br o'').set mc o3).f b1 = some o := fun o o' o'' o3 => (Hp.f_ne (fun e => nc1 e.symm)).trans (l1 o o' o'')
    refine ⟨by (repeat (first | exact keeps_nil | (apply keeps_cons; (focus decide +kernel)) | (refine keeps_rd rfl (by simp only [go_sem, yA, yB, yC, yD, yE, yF, yG, wA, wB, wC, wD, wE, wF, wG, wH, l2]) ?_))), ?_⟩
    simp only [go_sem, yA, yB, yC, yD, yE, yF, yG, wA, wB, wC, wD, wE, wF, wG, wH]
    refine ⟨by (repeat (first | exact keeps_nil | (apply keeps_cons; (focus decide +kernel)) | (refine keeps_rd rfl (by simp only [go_sem, yA, yB, yC, yD, yE, yF, yG, wA, wB, wC, wD, wE, wF, wG, wH, l2]) ?_))), ?_⟩
    simp only [go_sem, yA, yB, yC, yD, yE, yF, yG, wA, wB, wC, wD, wE, wF, wG, wH]
    refine fun g hg => ?_
    have ngc : ¬ g = mc := fun e => by subst e; rw [Hp.f_set_same] at hg; cases hg
    rw [Hp.f_ne ngc] at hg
    have ngb : ¬ g = br := fun e => by subst e; rw [Hp.f_set_same] at hg; cases hg
    rw [Hp.f_ne ngb] at hg
    have ngq : ¬ g = mq := fun e => by subst e; rw [Hp.f_set_same] at hg; cases hg
    rw [Hp.f_ne ngq] at hg
    have ng1 : ¬ g = b1 := fun e => by subst e; rw [Hp.f_set_same] at hg; cases hg
    rw [Hp.f_ne ng1] at hg
    have l3 : ∀ o o' o'' o3 o4, (((((σ.set b1 o).set mq o').set br o'').set mc o3).set g o4).f b1 = some o := fun o o' o'' o3 o4 => (Hp.f_ne (fun e => ng1 e.symm)).trans (l2 o o' o'' o3)
    refine ⟨by (repeat (first | exact keeps_nil | (apply keeps_cons; (focus decide +kernel)) | (refine keeps_rd rfl (by simp only [go_sem, yA, yB, yC, yD, yE, yF, yG, wA, wB, wC, wD, wE, wF, wG, wH, l3]) ?_))), ?_⟩
    simp only [go_sem, yA, yB, yC, yD, yE, yF, yG, wA, wB, wC, wD, wE, wF, wG, wH]
    refine hQr _ _ ((((σ.set mq (kmap keyS [] 0)).set br (brO mq cfg.queue 0 0)).set mc (kmap keyI [] 0)).set g (gwO cfg br mc 0 0)) _ resIs_two ?_ ⟨g, br, mq, mc, ?_, hg, hbr, hmq, hmc, nbm, ncq, ncb, ngq, ngb, ngc, rfl⟩
    · exact set_ext (set_ext (set_ext (set_ext (fun x p h => by rw [Hp.f_ne (fun e => by subst e; rw [hb1] at h; cases h)]; exact h) _ _) _ _) _ _) _ _
    · simp [up]
  · simp only [go_sem, yA, yB, yC, yD, yE, yF, yG, wA, wB, wC, wD, wE, wF, wG, wH, lb]
    refine fun mc hmc => ?_
    have nc1 : ¬ mc = b1 := fun e => by subst e; rw [Hp.f_set_same] at hmc; cases hmc
    rw [Hp.f_ne nc1] at hmc
    have l0 : ∀ o o', ((σ.set b1 o).set mc o').f b1 = some o := fun o o' => (Hp.f_ne (fun e => nc1 e.symm)).trans (Hp.f_set_same _ _)
    refine ⟨by (repeat (first | exact keeps_nil | (apply keeps_cons; (focus decide +kernel)) | (refine keeps_rd rfl (by simp only [go_sem, yA, yB, yC, yD, yE, yF, yG, wA, wB, wC, wD, wE, wF, wG, wH, l0]) ?_))), ?_⟩
    simp only [go_sem, yA, yB, yC, yD, yE, yF, yG, wA, wB, wC, wD, wE, wF, wG, wH, l0]
    refine call_post go_46 new46_c ?_ (fun ch σ' ⟨_, _, h, _⟩ => by cases h)
    rintro v τ ⟨br, mq, hv, hmq, nbm, hbr, rfl⟩
    obtain rfl : v = pV br := by injection hv
    have nqc : ¬ mq = mc := fun e => by subst e; rw [Hp.f_set_same] at hmq; cases hmq
    rw [Hp.f_ne nqc] at hmq
    have nq1 : ¬ mq = b1 := fun e => by subst e; rw [Hp.f_set_same] at hmq; cases hmq
    rw [Hp.f_ne nq1] at hmq
    have nbc : ¬ br = mc := fun e => by subst e; rw [Hp.f_set_same] at hbr; cases hbr
    rw [Hp.f_ne nbc] at hbr
    have nb1 : ¬ br = b1 := fun e => by subst e; rw [Hp.f_set_same] at hbr; cases hbr
    rw [Hp.f_ne nb1] at hbr
    have l1 : ∀ o o' o'' o3, ((((σ.set b1 o).set mc o').set mq o'').set br o3).f b1 = some o := fun o o' o'' o3 => (Hp.f_ne (fun e => nb1 e.symm)).trans ((Hp.f_ne (fun e => nq1 e.symm)).trans (l0 o o'))
    refine ⟨by (repeat (first | exact keeps_nil | (apply keeps_cons; (focus decide +kernel)) | (refine keeps_rd rfl (by simp only [go_sem, yA, yB, yC, yD, yE, yF, yG, wA, wB, wC, wD, wE, wF, wG, wH, l1]) ?_))), ?_⟩
    simp only [go_sem, yA, yB, yC, yD, yE, yF, yG, wA, wB, wC, wD, wE, wF, wG, wH]
    refine ⟨by (repeat (first | exact keeps_nil | (apply keeps_cons; (focus decide +kernel)) | (refine keeps_rd rfl (by simp only [go_sem, yA, yB, yC, yD, yE, yF, yG, wA, wB, wC, wD, wE, wF, wG, wH, l1]) ?_))), ?_⟩
    simp only [go_sem, yA, yB, yC, yD, yE, yF, yG, wA, wB, wC, wD, wE, wF, wG, wH]
    refine fun g hg => ?_
    have ngb : ¬ g = br := fun e => by subst e; rw [Hp.f_set_same] at hg; cases hg
    rw [Hp.f_ne ngb] at hg
    have ngq : ¬ g = mq := fun e => by subst e; rw [Hp.f_set_same] at hg; cases hg
    rw [Hp.f_ne ngq] at hg
    have ngc : ¬ g = mc := fun e => by subst e; rw [Hp.f_set_same] at hg; cases hg
    rw [Hp.f_ne ngc] at hg
    have ng1 : ¬ g = b1 := fun e => by subst e; rw [Hp.f_set_same] at hg; cases hg
    rw [Hp.f_ne ng1] at hg
    have l3 : ∀ o o' o'' o3 o4, (((((σ.set b1 o).set mc o').set mq o'').set br o3).set g o4).f b1 = some o := fun o o' o'' o3 o4 => (Hp.f_ne (fun e => ng1 e.symm)).trans (l1 o o' o'' o3)
    refine ⟨by (repeat (first | exact keeps_nil | (apply keeps_cons; (focus decide +kernel)) | (refine keeps_rd rfl (by simp only [go_sem, yA, yB, yC, yD, yE, yF, yG, wA, wB, wC, wD, wE, wF, wG, wH, l3]) ?_))), ?_⟩
    simp only [go_sem, yA, yB, yC, yD, yE, yF, yG, wA, wB, wC, wD, wE, wF, wG, wH]
    have hcomm : ∀ (H : Hp) (o o' o'' : Obj), (((H.set mc o).set mq o').set br o'') = (((H.set mq o').set br o'').set mc o) := by
      intro H o o' o''
      rw [Hp.set_comm (a := mc) (b := mq) (fun e => nqc e.symm), Hp.set_comm (a := mc) (b := br) (fun e => nbc e.symm)]
    refine hQr _ _ ((((σ.set mq (kmap keyS [] 0)).set br (brO mq cfg.queue 0 0)).set mc (kmap keyI [] 0)).set g (gwO cfg br mc 0 0)) _ resIs_two ?_ ⟨g, br, mq, mc, ?_, hg, hbr, hmq, hmc, nbm, (fun e => nqc e.symm), (fun e => nbc e.symm), ngq, ngb, ngc, rfl⟩
    · rw [hcomm]
      exact set_ext (set_ext (set_ext (set_ext (fun x p h => by rw [Hp.f_ne (fun e => by subst e; rw [hb1] at h; cases h)]; exact h) _ _) _ _) _ _) _ _
    · simp [up]
end
end Go.Qw
-- errors.As: what the model's entries for reflectlite give at an Errno.
namespace Go.Qw
open Go Go.Conc Go.Proofs Go.Extern

abbrev hT (t : Nat) : Value := .pointer (some ⟨4, t, none⟩)
abbrev rT (t : Nat) : Value := .iface 222 (.agg #[hT t])
section
variable {Q : Value → Hp → Prop} {QB : Bool → Hp → Prop} {H : Halt → Hp → Prop} {σ : Hp}
set_option maxRecDepth 100000
theorem as_valueOf93 {t : Nat} : wpS Tryz.prog (ReflectliteValue.unpack (.iface 93 (pV t))) Q H σ = ∀ b, σ.f b = none → Q (.agg #[hT 93, pV b, .int .u64 150]) (σ.set b (.cells #[pV t] 93)) := by kernel_rfl
theorem as_valueOf51 {i : Int} : wpS Tryz.prog (ReflectliteValue.unpack (.iface 51 (iV i))) Q H σ = ∀ b, σ.f b = none → Q (.agg #[hT 51, pV b, .int .u64 130]) (σ.set b (.cells #[iV i] 51)) := by kernel_rfl
theorem as_type93 {a : Nat} : wpS Tryz.prog (ReflectliteValue.methodAny (ReflectliteValue.valueError "reflectlite.Value.Type" 0) (fun t _ _ _ => ReflectliteType.toType t) #[.agg #[hT 93, pV a, .int .u64 150]]) Q H σ = Q (rT 93) σ := by kernel_rfl
theorem as_kind93 : wpS Tryz.prog (ReflectliteType.abiMethod (fun t => (fun a : Nat => Value.int IntKind.u8 (a : Int)) <$> Rtype.kind t) #[hT 93]) Q H σ = Q (.int .u8 22) σ := by kernel_rfl
theorem as_kind51 : wpS Tryz.prog (ReflectliteType.abiMethod (fun t => (fun a : Nat => Value.int IntKind.u8 (a : Int)) <$> Rtype.kind t) #[hT 51]) Q H σ = Q (.int .u8 2) σ := by kernel_rfl
theorem as_elem93 : wpS Tryz.prog (ReflectliteType.method ReflectliteType.elem #[.agg #[hT 93]]) Q H σ = Q (rT 51) σ := by kernel_rfl
theorem as_impl51 : wpS Tryz.prog (ReflectliteType.relation "Implements" ReflectliteType.implements_ #[.agg #[hT 51], rT 45]) Q H σ = Q (.bool true) σ := by kernel_rfl
theorem as_typeOf51 {v : Value} : wpS Tryz.prog (ReflectliteType.typeOf #[.iface 51 v]) Q H σ = Q (rT 51) σ := by kernel_rfl
theorem as_assign51 : wpS Tryz.prog (ReflectliteType.relation "AssignableTo" ReflectliteType.assignableTo #[.agg #[hT 51], rT 51]) Q H σ = Q (.bool true) σ := by kernel_rfl

section
variable {QM : FuncId × Value → Hp → Prop}
theorem as_mKind {t : Nat} : wpS Tryz.prog (method (Tryz.prog.types.size + Made.depth) 222 (.agg #[hT t]) "Kind") QM H σ = QM (319, hT t) σ := by kernel_rfl
theorem as_mElem {t : Nat} : wpS Tryz.prog (method (Tryz.prog.types.size + Made.depth) 222 (.agg #[hT t]) "Elem") QM H σ = QM (335, .agg #[hT t]) σ := by kernel_rfl
theorem as_mImpl {t : Nat} : wpS Tryz.prog (method (Tryz.prog.types.size + Made.depth) 222 (.agg #[hT t]) "Implements") QM H σ = QM (336, .agg #[hT t]) σ := by kernel_rfl
theorem as_mAssign {t : Nat} : wpS Tryz.prog (method (Tryz.prog.types.size + Made.depth) 222 (.agg #[hT t]) "AssignableTo") QM H σ = QM (333, .agg #[hT t]) σ := by kernel_rfl
end

theorem as_rlm (z : Sem Value) (f : TypeId → Addr → Nat → Nat → Sem Value) (v : Value) :
    ReflectliteValue.method z f #[v] = (do match ← ReflectliteValue.parts v with | none => z | some (t, a, fl) => f t a fl (fl % 32)) := rfl
theorem as_parts93 {a : Nat} {QP : Option (TypeId × Addr × Nat) → Hp → Prop} : wpS Tryz.prog (ReflectliteValue.parts (.agg #[hT 93, pV a, .int .u64 150])) QP H σ = QP (some (93, ⟨a, 0, none⟩, 150)) σ := by kernel_rfl
theorem as_parts51a {a : Nat} {QP : Option (TypeId × Addr × Nat) → Hp → Prop} : wpS Tryz.prog (ReflectliteValue.parts (.agg #[hT 51, pV a, .int .u64 386])) QP H σ = QP (some (51, ⟨a, 0, none⟩, 386)) σ := by kernel_rfl
theorem as_parts51 {a : Nat} {QP : Option (TypeId × Addr × Nat) → Hp → Prop} : wpS Tryz.prog (ReflectliteValue.parts (.agg #[hT 51, pV a, .int .u64 130])) QP H σ = QP (some (51, ⟨a, 0, none⟩, 130)) σ := by kernel_rfl
theorem as_ld {a t : TypeId} {v : Value} {e : TypeId} {σ : Hp} (hg : aggT Tryz.prog t = false) (ha : σ.f a = some (.cells #[v] e (0, 0))) : ldV Tryz.prog t ⟨a, 0, none⟩ σ = some v := by
  unfold ldV
  rw [if_neg (by rw [hg]; simp)]
  simp [Hp.cell?, ha]
/-- IsNil of a pointer that is not. -/
theorem as_isNil93 {a t : Nat} {e : TypeId} (ha : σ.f a = some (.cells #[pV t] e (0, 0))) (h : Q (.bool false) σ) : wpS Tryz.prog (ReflectliteValue.method (ReflectliteValue.valueError "reflectlite.Value.IsNil" 0) ReflectliteValue.isNil #[.agg #[hT 93, pV a, .int .u64 150]]) Q H σ := by
  rw [as_rlm, wpS_bind_eq, as_parts93]
  show wpS Tryz.prog (ReflectliteValue.isNil 93 ⟨a, 0, none⟩ 150 22) Q H σ
  unfold ReflectliteValue.isNil
  rw [if_neg (by decide), wpS_bind_eq]
  refine ldQ_sound (P := Tryz.prog) (t := 93) (a := ⟨a, 0, none⟩) (σ := σ) (by kernel_rfl) (ldV_ldQ (as_ld (by kernel_rfl) ha) ?_)
  exact h
theorem as_elemOf93 {QE : Option TypeId → Hp → Prop} : wpS Tryz.prog (Rtype.elem? 93) QE H σ = QE (some 51) σ := by kernel_rfl
theorem as_mk51 {p : Nat} : wpS Tryz.prog (ReflectliteValue.mk 51 ⟨p, 0, none⟩ ReflectliteValue.flagAddr) Q H σ = Q (.agg #[hT 51, pV p, .int .u64 386]) σ := by kernel_rfl
/-- Elem of a pointer. -/
theorem as_elemV93 {a t : Nat} {e : TypeId} (ha : σ.f a = some (.cells #[pV t] e (0, 0))) (h : Q (.agg #[hT 51, pV t, .int .u64 386]) σ) : wpS Tryz.prog (ReflectliteValue.method (ReflectliteValue.valueError "reflectlite.Value.Elem" 0) ReflectliteValue.elem #[.agg #[hT 93, pV a, .int .u64 150]]) Q H σ := by
  rw [as_rlm, wpS_bind_eq, as_parts93]
  show wpS Tryz.prog (ReflectliteValue.elem 93 ⟨a, 0, none⟩ 150 22) Q H σ
  unfold ReflectliteValue.elem
  rw [if_neg (by decide)]
  rw [wpS_bind_eq]
  refine ldQ_sound (P := Tryz.prog) (t := 93) (a := ⟨a, 0, none⟩) (σ := σ) (by kernel_rfl) (ldV_ldQ (as_ld (by kernel_rfl) ha) ?_)
  rw [wpS_bind_eq, as_elemOf93]
  exact as_mk51 ▸ h
theorem as_rls (v x : Value) : ReflectliteValue.set #[v, x] = (do
    let (some (dst, a, fl), some (src, b, _)) := (← ReflectliteValue.parts v, ← ReflectliteValue.parts x)
      | unsupported (.noEntry "extern/(internal/reflectlite.Value).Set.zeroValue")
    if fl / ReflectliteValue.flagAddr % 2 == 0 then unsupported (.noEntry "extern/(internal/reflectlite.Value).Set.unaddressable")
    let val ← loadVar src b
    if ← Rtype.directlyAssignable dst src then storeVar dst a val
    else if ← Rtype.implements dst src then
      if (← Rtype.kind src) == 20 then
        match val with
        | .nilIface => unsupported (.noEntry "extern/reflectlite: a nil value of one interface type handed on as a value of another")
        | _ => storeVar dst a val
      else storeVar dst a (.iface src val)
    else panicString ("reflectlite.Set: value of type " ++ (← Rtype.spelt src) ++ " is not assignable to type " ++ (← Rtype.spelt dst))
    pure (.tuple #[])) := rfl
theorem as_direct51 {QD : Bool → Hp → Prop} : wpS Tryz.prog (Rtype.directlyAssignable 51 51) QD H σ = QD true σ := by kernel_rfl
theorem as_set51 {t b : Nat} {i : Int} {old : Value} {e1 : TypeId} (hb : σ.f b = some (.cells #[iV i] e1 (0, 0))) (ht : σ.f t = some (.cells [old].toArray 51 (0, 0))) (h : Q (.tuple #[]) (σ.set t (.cells [iV i].toArray 51 (0, 0)))) :
    wpS Tryz.prog (ReflectliteValue.set #[.agg #[hT 51, pV t, .int .u64 386], .agg #[hT 51, pV b, .int .u64 130]]) Q H σ := by
  rw [as_rls, wpS_bind_eq, as_parts51a, wpS_bind_eq, as_parts51]
  simp only []
  rw [if_neg (by decide), wpS_bind_eq]
  refine ldQ_sound (P := Tryz.prog) (t := 51) (a := ⟨b, 0, none⟩) (σ := σ) (by kernel_rfl) (ldV_ldQ (as_ld (by kernel_rfl) hb) ?_)
  rw [wpS_bind_eq, as_direct51]
  simp only [if_true, wpS_bind_eq]
  refine stQ_sound (by kernel_rfl) ?_
  unfold stQ
  simp only [ht]
  refine ⟨trivial, by simp, trivial, by kernel_rfl, ?_⟩
  exact h
end
end Go.Qw
-- errors.As at an Errno; Told.
namespace Go.Qw
open Go Go.Conc Go.Proofs Go.Extern

section
variable {P : Program} {E : Env P} {ρ : Rho} {ds : List Deferred} {σ : Hp} {dst : Option Tmp} {ty : TypeId} {pos : String} {af : Array Edge} {g : Option (Nat × Bool)} {nx : Rho → List Deferred → Hp → Prop} {pn : List PanicEntry → Hp → Prop}
/-- A method of an interface's value. -/
theorem invoke_intro {r : Operand} {name : String} {args : Array Operand} {ats : Array TypeId} {t : TypeId} {v recv : Value} {f : FuncId} (hx : evR ρ r = .iface t v) (hm : ∀ (Q : FuncId × Value → Hp → Prop) (H : Halt → Hp → Prop), Q (f, recv) σ → wpS P (method (P.types.size + Made.depth) t v name) Q H σ)
    (h : callQ E f (#[recv] ++ args.map (evR ρ)) σ dst ρ ds nx pn) : opQ E ⟨dst, .call ⟨.invoke r name, args, ats⟩, ty, pos, af, g⟩ ρ ds σ nx pn := by
  show wpOp E _ ρ ds σ nx pn
  unfold wpOp
  have e1 : (#[Value.iface t v] ++ args.map (evR ρ)).extract 1 (#[Value.iface t v] ++ args.map (evR ρ)).size = args.map (evR ρ) := by
    apply Array.ext'; simp [List.take_of_length_le]
  have e2 : (#[Value.iface t v] ++ args.map (evR ρ))[0]? = some (.iface t v) := by rw [Array.getElem?_append_left (by simp)]; rfl
  simp only [execOp, resolve, hx, wpS_bind_eq, wpS_pure', invoke, e2, callMethod, wpS_program]
  refine hm _ _ ?_
  rw [e1]
  exact h
end
section
variable {E : Env Tryz.prog} {σ : Hp}
theorem x61_f : Extern.find Tryz.f61 = some (fun args => ReflectliteValue.unpack (args.getD 0 (.tuple #[]))) := by kernel_rfl
theorem x62_f : Extern.find Tryz.f62 = some (ReflectliteValue.methodAny (ReflectliteValue.valueError "reflectlite.Value.Type" 0) (fun t _ _ _ => ReflectliteType.toType t)) := by kernel_rfl
theorem x63_f : Extern.find Tryz.f63 = some (ReflectliteValue.method (ReflectliteValue.valueError "reflectlite.Value.IsNil" 0) ReflectliteValue.isNil) := by kernel_rfl
theorem x113_f : Extern.find Tryz.f113 = some ReflectliteType.typeOf := by kernel_rfl
theorem x114_f : Extern.find Tryz.f114 = some (ReflectliteValue.method (ReflectliteValue.valueError "reflectlite.Value.Elem" 0) ReflectliteValue.elem) := by kernel_rfl
theorem x115_f : Extern.find Tryz.f115 = some ReflectliteValue.set := by kernel_rfl
theorem x319_f : Extern.find Tryz.f319 = some (ReflectliteType.abiMethod fun t => (fun a : Nat => Value.int IntKind.u8 (a : Int)) <$> Rtype.kind t) := by kernel_rfl
theorem x333_f : Extern.find Tryz.f333 = some (ReflectliteType.relation "AssignableTo" ReflectliteType.assignableTo) := by kernel_rfl
theorem x335_f : Extern.find Tryz.f335 = some (ReflectliteType.method ReflectliteType.elem) := by kernel_rfl
theorem x336_f : Extern.find Tryz.f336 = some (ReflectliteType.relation "Implements" ReflectliteType.implements_) := by kernel_rfl
end
end Go.Qw
