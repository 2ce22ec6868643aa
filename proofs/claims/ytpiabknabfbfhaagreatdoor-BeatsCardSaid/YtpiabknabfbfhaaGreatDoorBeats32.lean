/- The law Beats of queuewire returns true for every three integers: the row over the given program, tied to its text; no condition besides. (Part 32 of 40: QwScope QwLeave QwPackets.) -/
import Derived.Test.YtpiabknabfbfhaaGreatDoorBeats31
set_option linter.all false
-- A function whose body is a scope (labels that are only left by exits).
namespace Go.Qw
open Go Go.Conc Go.Proofs
section
variable {P : Program} {E : Env P}
theorem stepG_scope {main : Bool} {b : Frame} {a : Act} {k : List Item} {cs : List Frame} {w : World} {c : Code} : stepG P main (G (b.at a (.code (.scope c) :: k)) cs) w = .go (G (b.at a (.code c :: .inScope c :: k)) cs) w := by simp [G, stepG, stepG.exec, Frame.at]
theorem stepG_inScope {main : Bool} {b : Frame} {a : Act} {k : List Item} {cs : List Frame} {w : World} {c : Code} : stepG P main (G (b.at a (.inScope c :: k)) cs) w = .go (G (b.at a k) cs) w := by simp [G, stepG, stepG.exec, Frame.at]

theorem calls_of_scope {f : FuncId} {fn : Func} {c : Code} {args : Array Value} {σ : Hp} {R : Fin → Hp → Prop} (hf : P.funcs[f]? = some fn) (hb : fn.body = some (.scope c)) (hn : args.size ≤ fn.ntmps)
    (h : wpC E fn.ntmps c (retQ P fn R) (startR args fn.ntmps) [] σ) : CallsE E f args σ R := by
  intro cs
  let b : Frame := { (default : Frame) with fn := f, kind := .normal }
  have henter : Frame.enter P f args .normal = b.at { tmps := args ++ Array.replicate (fn.ntmps - args.size) undef, defers := [] } [.code (.scope c)] := by
    simp [Frame.enter, Frame.at, hf, hb, b]
  rw [henter]
  refine Runs.ctl (fun w => stepG_scope) rfl rfl ?_
  refine (wpC_sound c _ _ _ _ h b [.inScope c] cs _ (by simp [b]) (agree_start args fn.ntmps hn)).bind (Comes.mono ?_ ?_ ?_ ?_)
  · rintro ρ ds σ' a ha ⟨hds, v, τ, hle, hv, hR⟩
    refine Runs.ctl (fun w => stepG_inScope) rfl rfl ?_
    refine Runs.weak (τ := τ) (Runs.ctl (fun w => stepG_end) rfl rfl (Runs.here ⟨.returned v, _, rfl, rfl, ⟨rfl, ?_, rfl, fn, hf, ?_⟩, hR⟩)) hle
    · have := ha.defers; subst hds; exact this
    · have := results_eq (fn := fn) ha
      simp only [Frame.at]
      rw [this]; exact hv
  · exact fun id ρ ds σ' a k'' _ hq => hq.elim
  · rintro ρ ds σ' a todo ha ⟨hds, v, τ, hle, hv, hR⟩
    refine Runs.weak (τ := τ) (Runs.here ⟨.returned v, _, rfl, rfl, ⟨rfl, ?_, rfl, fn, hf, ?_⟩, hR⟩) hle
    · have := ha.defers; subst hds; exact this
    · have := results_eq (fn := fn) ha
      simp only [Frame.at]
      rw [this]; exact hv
  · rintro ch ρ ds σ' a todo ha ⟨hds, τ, hle, hR⟩
    refine Runs.weak (τ := τ) (Runs.here ⟨.panicked ch, _, rfl, rfl, ⟨rfl, ?_, fn, hf⟩, hR⟩) hle
    have := ha.defers; subst hds; exact this

theorem calls_enter_scope {f : FuncId} {fn : Func} {c : Code} {n : Nat} {rs : Array ResultVar} {args : Array Value} {σ : Hp} {R : Fin → Hp → Prop} (hf : P.funcs[f]? = some fn) (hn : fn.ntmps = n) (hr : fn.results = rs) (hb : fn.body = some (.scope c)) (hs : args.size ≤ fn.ntmps)
    (h : ∀ Q : Post, (∀ ρ σ τ v, ResIs P rs ρ τ v → τ.le σ → R (.returned v) τ → Q .normal ρ [] σ) → (∀ ρ σ τ v, ResIs P rs ρ τ v → τ.le σ → R (.returned v) τ → Q .ret ρ [] σ) → (∀ ch ρ σ τ, τ.le σ → R (.panicked ch) τ → Q (.panic ch) ρ [] σ) →
      wpC E n c Q (startR args n) [] σ) : CallsE E f args σ R := by
  subst hn; subst hr
  refine calls_of_scope hf hb hs (h _ ?_ ?_ ?_)
  · exact fun ρ σ τ v h1 hl h2 => ⟨rfl, v, τ, hl, h1, h2⟩
  · exact fun ρ σ τ v h1 hl h2 => ⟨rfl, v, τ, hl, h1, h2⟩
  · exact fun ch ρ σ τ hl h => ⟨rfl, τ, hl, h⟩
end
end Go.Qw
-- What is released of a channel that holds nothing; of a connection; what is served where nothing is ready.
namespace Go.Qw
open Nat renaming reduceLT → yA, reduceLeDiff → yB, reduceBEq → yC, reduceAdd → yD, reduceSub → yE, reduceMul → yF, reduceEqDiff → yG
open Int renaming reduceToNat → wA, reduceLE → wB, reduceLT → wC, reduceEq → wD, reduceAdd → wE, reduceSub → wF, reduceMul → wG, reduceNeg → wH
open Go Go.Conc Go.Proofs
theorem Sl.read {κ : Type} {f : κ → Value} {ety : TypeId} {τ : Hp} {ys : List κ} {v : Value} (hs : Sl ety τ (ys.map f) v) :
    ∃ base cap, v = .slice base ys.length cap ∧ ∀ i (hi : i < ys.length), ∃ (a : Nat) (L : List Value), base = some ⟨a, 0, none⟩ ∧ τ.f a = some (.cells L.toArray ety (0, 0)) ∧ L[i]? = some (f ys[i]) := by
  generalize hk : ys.map f = ks at hs
  have hl : ks.length = ys.length := by rw [← hk]; simp
  cases hs with
  | nil h0 => exact ⟨_, _, by rw [← hl, h0]; rfl, fun i hi => by rw [← hl, h0] at hi; cases hi⟩
  | «at» a pad ha =>
    refine ⟨_, _, by rw [hl], fun i hi => ⟨a, _, rfl, ha, ?_⟩⟩
    rw [List.getElem?_append_left (by omega), ← hk]
    simp [hi]
section
variable {E : Env Tryz.prog} {σ : Hp}
set_option maxRecDepth 100000 in
theorem release88_c {c un co k1 k2 h : Nat} {no : Int} {hr : HR} (hh : σ.f h = some (chanO c no un co hr)) (hun : σ.f un = some (kmap keyI [] k1)) (hco : σ.f co = some (kmap keyS [] k2)) :
    CallsE E 88 #[pV h] σ fun e τ => e = .returned (.tuple #[]) ∧ τ = σ := by
  refine calls_enter Tryz.func88 Tryz.ntmps88 Tryz.results88 rfl (by simp) fun Q hQn hQr hQp => ?_
  simp only [go_sem, yA, yB, yC, yD, yE, yF, yG, wA, wB, wC, wD, wE, wF, wG, wH, hh, chanO, HR.vals]
  refine call_post go_139 (sorted139_c hco (by simp) (by simp) (by simp)) ?_ (fun ch σ' ⟨_, _, _, h, _⟩ => by cases h)
  rintro v τ ⟨hle, v', ys, hv, hp, _, hs, _⟩
  obtain rfl : v = v' := by injection hv
  have hy : ys = [] := by simpa using hp.length_eq
  subst hy
  have hhτ := hle _ _ hh
  have hcoτ := hle _ _ hco
  have hunτ := hle _ _ hun
  simp only [chanO, HR.vals] at hhτ
  obtain ⟨base, cap, rfl⟩ : ∃ base cap, v = .slice base 0 cap := by
    generalize hk : ([] : List (List UInt8)).map keyS = ks at hs
    have hl : ks.length = 0 := by rw [← hk]; rfl
    cases hs with
    | nil h0 => exact ⟨_, _, rfl⟩
    | «at» a pad ha => exact ⟨_, _, by rw [hl]⟩
  simp only [go_sem, yA, yB, yC, yD, yE, yF, yG, wA, wB, wC, wD, wE, wF, wG, wH]
  have c0 : ¬ ((0 : Nat) : Int) < ((0 : Nat) : Int) := by decide
  refine wpC_loop (fun m ρ ds σ' => ds = [] ∧ ρ 0 = pV h ∧ ρ 11 = iV ((0 : Nat) : Int) ∧ ρ 12 = iV ((0 : Nat) : Int) ∧ σ' = τ) 0 ?_ ?_
  · refine ⟨rfl, ?_, ?_, ?_, rfl⟩ <;> simp only [go_sem, yA, yB, yC, yD, yE, yF, yG, wA, wB, wC, wD, wE, wF, wG, wH]
    rfl
  · rintro m ρ ds σ' X ⟨rfl, h0, h11, h12, rfl⟩ hX
    simp only [go_sem, yA, yB, yC, yD, yE, yF, yG, wA, wB, wC, wD, wE, wF, wG, wH, h0, h11, h12, c0, hhτ]
    refine clear_intro (b := co) (f := keyS) (l := []) (c := k2) (d := TypeDesc.map 9 186) (by kernel_rfl) ?_ hcoτ ?_
    · simp only [go_sem, yA, yB, yC, yD, yE, yF, yG, wA, wB, wC, wD, wE, wF, wG, wH]
    rw [Hp.set_id hcoτ]
    simp only [go_sem, yA, yB, yC, yD, yE, yF, yG, wA, wB, wC, wD, wE, wF, wG, wH, h0, hhτ]
    refine call_post go_141 (sorted141_c hunτ (by simp) (by simp) (by simp)) ?_ (fun ch σ' ⟨_, _, _, h, _⟩ => by cases h)
    rintro v τ2 ⟨hle2, v', ys, hv, hp, _, hs, _⟩
    obtain rfl : v = v' := by injection hv
    have hy : ys = [] := by simpa using hp.length_eq
    subst hy
    obtain ⟨base, cap, rfl⟩ : ∃ base cap, v = .slice base 0 cap := by
      generalize hk : ([] : List Int).map keyI = ks at hs
      have hl : ks.length = 0 := by rw [← hk]; rfl
      cases hs with
      | nil h0 => exact ⟨_, _, rfl⟩
      | «at» a pad ha => exact ⟨_, _, by rw [hl]⟩
    simp only [go_sem, yA, yB, yC, yD, yE, yF, yG, wA, wB, wC, wD, wE, wF, wG, wH]
    refine wpC_loop (fun m ρ ds σ' => ds = [] ∧ ρ 43 = iV ((0 : Nat) : Int) ∧ ρ 44 = iV ((0 : Nat) : Int) ∧ σ' = τ2) 0 ?_ ?_
    · refine ⟨rfl, ?_, ?_, rfl⟩ <;> simp only [go_sem, yA, yB, yC, yD, yE, yF, yG, wA, wB, wC, wD, wE, wF, wG, wH]
      rfl
    · rintro m ρ ds σ'' X' ⟨rfl, h11, h12, rfl⟩ hX'
      simp only [go_sem, yA, yB, yC, yD, yE, yF, yG, wA, wB, wC, wD, wE, wF, wG, wH, h11, h12, c0]
      exact hQn _ _ σ _ resIs_none (Hp.le_trans hle hle2) ⟨rfl, rfl⟩

/-- Channels that hold nothing. -/
def Idle (σ : Hp) (c : Nat) (l : List (Int × Value × Nat)) : Prop :=
  ∀ e ∈ l, ∃ h un co k1 k2 hr, e.2.1 = pV h ∧ σ.f h = some (chanO c e.1 un co hr) ∧ σ.f un = some (kmap keyI [] k1) ∧ σ.f co = some (kmap keyS [] k2)
theorem Idle.le {σ τ : Hp} {c : Nat} {l : List (Int × Value × Nat)} (h : Idle σ c l) (k : σ.le τ) : Idle τ c l := by
  intro e he
  obtain ⟨h, un, co, k1, k2, hr, a, b, d, f⟩ := h e he
  exact ⟨h, un, co, k1, k2, hr, a, k _ _ b, k _ _ d, k _ _ f⟩

theorem mfind_mem {l : List (Int × Value × Nat)} (hu : Uniq l) {e : Int × Value × Nat} (he : e ∈ l) : mfind l e.1 = some e := by
  unfold mfind
  induction l with
  | nil => cases he
  | cons x l ih =>
    simp only [Uniq, List.map_cons, List.nodup_cons] at hu
    rcases List.mem_cons.1 he with rfl | he
    · simp
    · have : ¬ x.1 = e.1 := fun h => hu.1 (by rw [h]; exact List.mem_map_of_mem he)
      rw [List.find?_cons_of_neg (by simpa using this)]
      exact ih hu.2 he

set_option maxRecDepth 100000 in
theorem leave53_c {g c chm k : Nat} {id : Int} {cr : CR} {l : List (Int × Value × Nat)} (hc : σ.f c = some (connO g id chm cr)) (hm : σ.f chm = some (kmap keyI l k)) (hu : Uniq l) (hold : ∀ e ∈ l, e.2.2 < k) (hn : (l.map (·.2.2)).Nodup) (hbig : l.length ≤ 12) (hi : Idle σ c l) :
    CallsE E 53 #[pV c] σ fun e τ => e = .returned (.tuple #[]) ∧ ∃ mb, σ.f mb = none ∧ τ = (σ.set mb (kmap keyI [] 0)).set c (connO g id mb cr) := by
  refine calls_enter Tryz.func53 Tryz.ntmps53 Tryz.results53 rfl (by simp) fun Q hQn hQr hQp => ?_
  simp only [go_sem, yA, yB, yC, yD, yE, yF, yG, wA, wB, wC, wD, wE, wF, wG, wH, hc, connO, CR.vals]
  refine call_post go_87 (sorted87_c hm hold hn hbig) ?_ (fun ch σ' ⟨_, _, _, h, _⟩ => by cases h)
  rintro v τ ⟨hle, v', ys, hv, hp, _, hs, _⟩
  obtain rfl : v = v' := by injection hv
  have hcτ := hle _ _ hc
  have hmτ := hle _ _ hm
  have hiτ := hi.le hle
  simp only [connO, CR.vals] at hcτ
  obtain ⟨base, cap, rfl, hget⟩ := hs.read
  simp only [go_sem, yA, yB, yC, yD, yE, yF, yG, wA, wB, wC, wD, wE, wF, wG, wH]
  refine wpC_loop (fun m ρ ds σ' => ds = [] ∧ ρ 0 = pV c ∧ ρ 8 = .slice base ys.length cap ∧ ρ 9 = iV ys.length ∧ σ' = τ ∧ ∃ i : Nat, i + m = ys.length ∧ ρ 10 = iV i) ys.length ?_ ?_
  · refine ⟨rfl, ?_, ?_, ?_, rfl, 0, by simp, ?_⟩ <;> simp only [go_sem, yA, yB, yC, yD, yE, yF, yG, wA, wB, wC, wD, wE, wF, wG, wH]
    rfl
  · rintro m ρ ds σ' X ⟨rfl, h0, h8, h9, rfl, i, him, h10⟩ hX
    cases m with
    | zero =>
      have c0 : ¬ (i : Int) < (ys.length : Int) := by omega
      simp only [go_sem, yA, yB, yC, yD, yE, yF, yG, wA, wB, wC, wD, wE, wF, wG, wH, h0, h8, h9, h10, c0, hcτ]
      refine fun mb hmb => ?_
      have n1 : ¬ c = mb := fun e => by subst e; rw [hcτ] at hmb; cases hmb
      have f1 : ∀ o, (σ'.set mb o).f c = some (.cells [pV g, iV id, iV cr.ph, sV cr.rest, .bool cr.greeted, .map (some chm), iV cr.most, iV cr.frame, iV cr.beat, iV cr.sent, iV cr.recv, sV cr.out].toArray 90 (0, 0)) := fun o => by rw [Hp.f_ne n1]; exact hcτ
      simp only [go_sem, yA, yB, yC, yD, yE, yF, yG, wA, wB, wC, wD, wE, wF, wG, wH, h0, f1]
      have hmbσ : σ.f mb = none := by
        cases h : σ.f mb with
        | none => rfl
        | some o => rw [hle _ _ h] at hmb; cases hmb
      refine hQn _ _ ((σ.set mb (kmap keyI [] 0)).set c (connO g id mb cr)) _ resIs_none ?_ ⟨rfl, mb, hmbσ, rfl⟩
      exact set_ext (set_ext hle _ _) _ _
    | succ m =>
      have hi' : i < ys.length := by omega
      have c0 : (i : Int) < (ys.length : Int) := by omega
      obtain ⟨a, L, rfl, ha, hL⟩ := hget i hi'
      have c1 : (0 : Int) ≤ (i : Int) ∧ (i : Int) < (ys.length : Int) := by omega
      simp only [go_sem, yA, yB, yC, yD, yE, yF, yG, wA, wB, wC, wD, wE, wF, wG, wH, h0, h8, h9, h10, c0, c1, ha, hL, hcτ]
      obtain ⟨e, he, hey⟩ := List.mem_map.1 (hp.mem_iff.1 (List.getElem_mem hi'))
      obtain ⟨h, un, co, k1, k2, hr, a1, a2, a3, a4⟩ := hiτ e he
      refine lookup_intro (b := chm) (k := ys[i]) ko88 (z := .pointer none) (by kernel_rfl) ?_ hmτ ?_ ?_
      · simp only [go_sem, yA, yB, yC, yD, yE, yF, yG, wA, wB, wC, wD, wE, wF, wG, wH]
      · simp only [go_sem, yA, yB, yC, yD, yE, yF, yG, wA, wB, wC, wD, wE, wF, wG, wH, keyI]
      have hfe : mfind l ys[i] = some e := by rw [← hey]; exact mfind_mem hu he
      have hval : ((mfind l ys[i]).map (·.2.1)).getD (.pointer none) = pV h := by rw [hfe]; exact a1
      have w1 : IntKind.i64.wrap ((i : Int) + 1) = ((i + 1 : Nat) : Int) := by rw [wrap64 (by omega) (by have := hp.length_eq; simp at this; omega)]; rfl
      simp only [go_sem, yA, yB, yC, yD, yE, yF, yG, wA, wB, wC, wD, wE, wF, wG, wH, hval]
      refine call_ret go_88 (release88_c a2 a3 a4) ?_
      simp only [go_sem, yA, yB, yC, yD, yE, yF, yG, wA, wB, wC, wD, wE, wF, wG, wH, h10, w1]
      refine hX m _ _ _ _ (by omega) ⟨rfl, ?_, ?_, ?_, rfl, i + 1, by omega, ?_⟩ (Hp.le_refl _)
      · simp only [go_sem, yA, yB, yC, yD, yE, yF, yG, wA, wB, wC, wD, wE, wF, wG, wH, h0]
      · simp only [go_sem, yA, yB, yC, yD, yE, yF, yG, wA, wB, wC, wD, wE, wF, wG, wH, h8]
      · simp only [go_sem, yA, yB, yC, yD, yE, yF, yG, wA, wB, wC, wD, wE, wF, wG, wH, h9]
      · simp only [go_sem, yA, yB, yC, yD, yE, yF, yG, wA, wB, wC, wD, wE, wF, wG, wH, w1]

/-- Queues where nothing is ready. -/
def Still0 (σ : Hp) (qs : List Nat) : Prop := ∀ q ∈ qs, ∃ name b c held last cons, σ.f q = some (queueO name (.slice b 0 c) held last cons)
theorem Still0.le {σ τ : Hp} {qs : List Nat} (h : Still0 σ qs) (k : σ.le τ) : Still0 τ qs := by
  intro q hq
  obtain ⟨name, b, c, held, last, cons, e⟩ := h q hq
  exact ⟨name, b, c, held, last, cons, k _ _ e⟩
theorem Still0.names {qs : List Nat} (h : Still0 σ qs) : ∃ nm, NamesAt σ nm qs := by
  classical
  refine ⟨fun q => if hq : q ∈ qs then (h q hq).choose else [], fun q hq => ?_⟩
  obtain ⟨b, c, held, last, cons, e⟩ := (h q hq).choose_spec
  exact ⟨_, e, by simp [hq]⟩

set_option maxRecDepth 100000 in
theorem serve54_c {bb mq k : Nat} {most messages nos : Int} {l : List (List UInt8 × Value × Nat)} {qs : List Nat} (hb : σ.f bb = some (brO mq most messages nos)) (hm : σ.f mq = some (kmap keyS l k)) (hold : ∀ e ∈ l, e.2.2 < k) (hn : (l.map (·.2.2)).Nodup) (hbig : l.length ≤ 12)
    (hqs : l.map (·.2.1) = qs.map keyP) (hst : Still0 σ qs) :
    CallsE E 54 #[pV bb] σ fun e τ => e = .returned (.tuple #[]) ∧ τ = σ := by
  refine calls_enter_scope Tryz.func54 Tryz.ntmps54 Tryz.results54 rfl (by simp) fun Q hQn hQr hQp => ?_
  obtain ⟨nm, hnm⟩ := hst.names
  simp only [go_sem, yA, yB, yC, yD, yE, yF, yG, wA, wB, wC, wD, wE, wF, wG, wH]
  refine call_post go_34 (sorted34_c hb rfl hm hold hn hbig hqs hnm) ?_ (fun ch σ' ⟨_, _, _, h, _⟩ => by cases h)
  rintro v τ ⟨hle, v', ys, hv, hp, _, hs, _⟩
  obtain rfl : v = v' := by injection hv
  have hstτ := hst.le hle
  have hlen : ys.length ≤ 12 := by
    have := congrArg List.length hqs
    simp at this
    rw [hp.length_eq]; omega
  obtain ⟨base, cap, rfl, hget⟩ := hs.read
  simp only [go_sem, yA, yB, yC, yD, yE, yF, yG, wA, wB, wC, wD, wE, wF, wG, wH]
  refine wpC_loop (fun m ρ ds σ' => ds = [] ∧ ρ 8 = .slice base ys.length cap ∧ ρ 9 = iV ys.length ∧ σ' = τ ∧ ∃ i : Nat, i + m = ys.length ∧ ρ 10 = iV i) ys.length ?_ ?_
  · refine ⟨rfl, ?_, ?_, rfl, 0, by simp, ?_⟩ <;> simp only [go_sem, yA, yB, yC, yD, yE, yF, yG, wA, wB, wC, wD, wE, wF, wG, wH]
    rfl
  · rintro m ρ ds σ' X ⟨rfl, h8, h9, rfl, i, him, h10⟩ hX
    cases m with
    | zero =>
      have c0 : ¬ (i : Int) < (ys.length : Int) := by omega
      simp only [go_sem, yA, yB, yC, yD, yE, yF, yG, wA, wB, wC, wD, wE, wF, wG, wH, h8, h9, h10, c0]
      exact hQn _ _ σ _ resIs_none hle ⟨rfl, rfl⟩
    | succ m =>
      have hi' : i < ys.length := by omega
      have c0 : (i : Int) < (ys.length : Int) := by omega
      obtain ⟨a, L, rfl, ha, hL⟩ := hget i hi'
      have c1 : (0 : Int) ≤ (i : Int) ∧ (i : Int) < (ys.length : Int) := by omega
      obtain ⟨name, b, c, held, last, cons, hq⟩ := hstτ ys[i] (hp.mem_iff.1 (List.getElem_mem hi'))
      simp only [queueO] at hq
      have w1 : IntKind.i64.wrap ((i : Int) + 1) = ((i + 1 : Nat) : Int) := by rw [wrap64 (by omega) (by omega)]; rfl
      simp only [go_sem, yA, yB, yC, yD, yE, yF, yG, wA, wB, wC, wD, wE, wF, wG, wH, h8, h9, h10, c0, c1, ha, hL]
      have c2 : ¬ (((0 : Nat) : Int) > 0) := by decide
      refine wpC_loop (fun m' ρ ds σ'' => ds = [] ∧ ρ 3 = keyP ys[i] ∧ ρ 8 = .slice (some ⟨a, 0, none⟩) ys.length cap ∧ ρ 9 = iV ys.length ∧ σ'' = σ' ∧ ρ 10 = iV i) 0 ?_ ?_
      · refine ⟨rfl, ?_, ?_, ?_, rfl, ?_⟩ <;> simp only [go_sem, yA, yB, yC, yD, yE, yF, yG, wA, wB, wC, wD, wE, wF, wG, wH, h8, h9, h10]
      · rintro m' ρ ds σ'' X' ⟨rfl, h3, h8, h9, rfl, h10⟩ hX'
        simp only [go_sem, yA, yB, yC, yD, yE, yF, yG, wA, wB, wC, wD, wE, wF, wG, wH, h3, h8, h9, h10, keyP, hq, c2, w1]
        refine hX m _ _ _ _ (by omega) ⟨rfl, ?_, ?_, rfl, i + 1, by omega, ?_⟩ (Hp.le_refl _)
        · simp only [go_sem, yA, yB, yC, yD, yE, yF, yG, wA, wB, wC, wD, wE, wF, wG, wH, h8]
        · simp only [go_sem, yA, yB, yC, yD, yE, yF, yG, wA, wB, wC, wD, wE, wF, wG, wH, h9]
        · simp only [go_sem, yA, yB, yC, yD, yE, yF, yG, wA, wB, wC, wD, wE, wF, wG, wH, w1]
end
end Go.Qw
-- packets, where there is one connection whose channels hold nothing.
namespace Go.Qw
open Nat renaming reduceLT → yA, reduceLeDiff → yB, reduceBEq → yC, reduceAdd → yD, reduceSub → yE, reduceMul → yF, reduceEqDiff → yG
open Int renaming reduceToNat → wA, reduceLE → wB, reduceLT → wC, reduceEq → wD, reduceAdd → wE, reduceSub → wF, reduceMul → wG, reduceNeg → wH
open Go Go.Conc Go.Proofs

def el43 : ElemOf Tryz.prog 43 where
  e := 55
  z := 2
  zero := #[.int .i64 0, .string (B [])]
  bytes := 24
  hu := by kernel_rfl
  hi := ⟨Tryz.t55, .agg #[.int .i64 0, .string (B [])], by kernel_rfl, by kernel_rfl, by kernel_rfl, rfl, by kernel_rfl⟩

/-- What stands still beside a connection. -/
structure Rest (σ : Hp) (g : Nat) (cfg : Cfg) (br mc mq : Nat) (clock last : Int) (most messages nos : Int) (lq : List (List UInt8 × Value × Nat)) (kq : Nat) (qs : List Nat) : Prop where
  hg : σ.f g = some (gwO cfg br mc clock last)
  hb : σ.f br = some (brO mq most messages nos)
  hm : σ.f mq = some (kmap keyS lq kq)
  hold : ∀ e ∈ lq, e.2.2 < kq
  hn : (lq.map (·.2.2)).Nodup
  hbig : lq.length ≤ 12
  hqs : lq.map (·.2.1) = qs.map keyP
  hst : Still0 σ qs
theorem Rest.le {σ τ : Hp} {g br mc mq kq : Nat} {cfg : Cfg} {clock last most messages nos : Int} {lq : List (List UInt8 × Value × Nat)} {qs : List Nat} (h : Rest σ g cfg br mc mq clock last most messages nos lq kq qs) (k : σ.le τ) : Rest τ g cfg br mc mq clock last most messages nos lq kq qs :=
  ⟨k _ _ h.hg, k _ _ h.hb, k _ _ h.hm, h.hold, h.hn, h.hbig, h.hqs, h.hst.le k⟩
theorem Rest.set {σ : Hp} {g br mc mq kq : Nat} {cfg : Cfg} {clock last most messages nos : Int} {lq : List (List UInt8 × Value × Nat)} {qs : List Nat} (h : Rest σ g cfg br mc mq clock last most messages nos lq kq qs) {c gg chm : Nat} {id : Int} {cr : CR} {o : Obj} (hc : σ.f c = some (connO gg id chm cr)) :
    Rest (σ.set c o) g cfg br mc mq clock last most messages nos lq kq qs := by
  refine ⟨?_, ?_, ?_, h.hold, h.hn, h.hbig, h.hqs, ?_⟩
  · rw [Hp.f_ne]; exact h.hg
    intro e; have := h.hg; rw [e, hc] at this; simp [gwO, connO] at this
  · rw [Hp.f_ne]; exact h.hb
    intro e; have := h.hb; rw [e, hc] at this; simp [brO, connO] at this
  · rw [Hp.f_ne]; exact h.hm
    intro e; have := h.hm; rw [e, hc] at this; simp [kmap, connO] at this
  · intro q hq
    obtain ⟨name, b, cc, held, last, cons, e⟩ := h.hst q hq
    refine ⟨name, b, cc, held, last, cons, ?_⟩
    rw [Hp.f_ne]; exact e
    intro e2; rw [e2, hc] at e; simp [queueO, connO] at e

/-- The packets that are given. -/
inductive Pk (τ : Hp) (id : Int) : List UInt8 → Value → Prop
  | none : Pk τ id [] (.slice none 0 0)
  | one (out : List UInt8) (b cap : Nat) (pad : List Value) : out ≠ [] → τ.f b = some (.cells ([iV id, sV out] ++ pad).toArray 55 (0, 0)) → Pk τ id out (.slice (some ⟨b, 0, Option.none⟩) 1 cap)

section
variable {E : Env Tryz.prog} {σ : Hp}
set_option maxRecDepth 100000 in
theorem packets39_on {g br mc mq kq c chm k st : Nat} {cfg : Cfg} {clock last most messages nos id : Int} {lq : List (List UInt8 × Value × Nat)} {qs : List Nat} {cr : CR} (R : Rest σ g cfg br mc mq clock last most messages nos lq kq qs)
    (hmc : σ.f mc = some (kmap keyI [(id, pV c, st)] k)) (hst : st < k) (hc : σ.f c = some (connO g id chm cr)) (hph : cr.ph ≠ 5) :
    CallsE E 39 #[pV g] σ fun e τ => (∃ v, e = .returned v ∧ Pk τ id cr.out v) ∧ (σ.set c (connO g id chm { cr with out := [] })).le τ := by
  refine calls_enter Tryz.func39 Tryz.ntmps39 Tryz.results39 rfl (by simp) fun Q hQn hQr hQp => ?_
  have hg := R.hg
  simp only [gwO] at hg
  simp only [go_sem, yA, yB, yC, yD, yE, yF, yG, wA, wB, wC, wD, wE, wF, wG, wH, hg]
  refine call_post go_33 (sorted33_c hmc (by simpa using hst) (by simp) (by simp)) ?_ (fun ch σ' ⟨_, _, _, h, _⟩ => by cases h)
  rintro v τ ⟨hle, v', ys, hv, hp, _, hs, _⟩
  obtain rfl : v = v' := by injection hv
  obtain rfl : ys = [id] := by simpa using hp
  obtain ⟨base, cap, rfl, hget⟩ := hs.read
  obtain ⟨a, L, rfl, ha, hL⟩ := hget 0 (by simp)
  have hgτ := hle _ _ hg
  have hcτ := hle _ _ hc
  have hmcτ := hle _ _ hmc
  simp only [connO, CR.vals] at hcτ
  have c5 : ¬ cr.ph = 5 := hph
  simp only [go_sem, yA, yB, yC, yD, yE, yF, yG, wA, wB, wC, wD, wE, wF, wG, wH, List.length_singleton]
  refine wpC_loop (fun m ρ ds σ' => ds = [] ∧ m ≤ 1 ∧ ρ 0 = pV g ∧ ρ 2 = .slice none 0 0 ∧ ρ 14 = .slice (some ⟨a, 0, none⟩) 1 cap ∧ ρ 15 = iV 1 ∧ σ' = τ ∧ ρ 16 = iV (1 - (m : Int))) 1 ?_ ?_
  · refine ⟨rfl, by omega, ?_, ?_, ?_, ?_, rfl, ?_⟩ <;> simp only [go_sem, yA, yB, yC, yD, yE, yF, yG, wA, wB, wC, wD, wE, wF, wG, wH]
    all_goals rfl
  · rintro m ρ ds σ' X ⟨rfl, hm1, h0, h2, h14, h15, rfl, h16⟩ hX
    rcases (by omega : m = 0 ∨ m = 1) with rfl | rfl
    · have c0 : ¬ (1 - ((0 : Nat) : Int)) < 1 := by decide
      simp only [go_sem, yA, yB, yC, yD, yE, yF, yG, wA, wB, wC, wD, wE, wF, wG, wH, h0, h14, h15, h16, c0, hgτ]
      refine call_ret go_54 (serve54_c (hle _ _ R.hb) (hle _ _ R.hm) R.hold R.hn R.hbig R.hqs (R.hst.le hle)) ?_
      simp only [go_sem, yA, yB, yC, yD, yE, yF, yG, wA, wB, wC, wD, wE, wF, wG, wH, h0, hgτ]
      refine call_post go_33 (sorted33_c hmcτ (by simpa using hst) (by simp) (by simp)) ?_ (fun ch σ' ⟨_, _, _, h, _⟩ => by cases h)
      rintro v τ2 ⟨hle2, v', ys, hv, hp, _, hs, _⟩
      obtain rfl : v = v' := by injection hv
      obtain rfl : ys = [id] := by simpa using hp
      obtain ⟨base, cap2, rfl, hget2⟩ := hs.read
      obtain ⟨a2, L2, rfl, ha2, hL2⟩ := hget2 0 (by simp)
      have hg2 := hle2 _ _ hgτ
      have hc2 := hle2 _ _ hcτ
      have hmc2 := hle2 _ _ hmcτ
      have hle02 := Hp.le_trans hle hle2
      simp only [go_sem, yA, yB, yC, yD, yE, yF, yG, wA, wB, wC, wD, wE, wF, wG, wH, List.length_singleton]
      refine wpC_loop (fun m ρ ds σ'' => ds = [] ∧ m ≤ 1 ∧ ρ 0 = pV g ∧ ρ 43 = .slice (some ⟨a2, 0, none⟩) 1 cap2 ∧ ρ 44 = iV 1 ∧ ρ 45 = iV (1 - (m : Int)) ∧ ((m = 1 ∧ ρ 6 = .slice none 0 0 ∧ σ'' = τ2) ∨ (m = 0 ∧ Pk σ'' id cr.out (ρ 6) ∧ (σ.set c (connO g id chm { cr with out := [] })).le σ''))) 1 ?_ ?_
      · refine ⟨rfl, by omega, ?_, ?_, ?_, ?_, .inl ⟨rfl, ?_, rfl⟩⟩ <;> simp only [go_sem, yA, yB, yC, yD, yE, yF, yG, wA, wB, wC, wD, wE, wF, wG, wH, h0]
        all_goals rfl
      · rintro m ρ ds σ'' X' ⟨rfl, hm1, h0, h43, h44, h45, hcase⟩ hX'
        rcases hcase with ⟨rfl, h6, rfl⟩ | ⟨rfl, hpk, hle3⟩
        · have e16 : (1 - ((1 : Nat) : Int)) = 0 := rfl
          rw [e16] at h45
          have c1 : (0 : Int) < 1 := by decide
          have c1' : (0 : Int) < ((1 : Nat) : Int) := by decide
          have hL' : L2[0]? = some (iV id) := hL2
          simp only [go_sem, yA, yB, yC, yD, yE, yF, yG, wA, wB, wC, wD, wE, wF, wG, wH, h0, h43, h44, h45, c1, c1', ha2, hL', hg2]
          refine lookup_intro (b := mc) (k := id) ko72 (z := .pointer none) (by kernel_rfl) ?_ hmc2 ?_ ?_
          · simp only [go_sem, yA, yB, yC, yD, yE, yF, yG, wA, wB, wC, wD, wE, wF, wG, wH]
          · simp only [go_sem, yA, yB, yC, yD, yE, yF, yG, wA, wB, wC, wD, wE, wF, wG, wH, keyI]
          have hval : ((mfind [(id, pV c, st)] id).map (·.2.1)).getD (.pointer none) = pV c := by simp [mfind]
          simp only [go_sem, yA, yB, yC, yD, yE, yF, yG, wA, wB, wC, wD, wE, wF, wG, wH, hval, Bool.false_eq_true, if_false, hc2]
          by_cases ho : cr.out = []
          · simp only [go_sem, yA, yB, yC, yD, yE, yF, yG, wA, wB, wC, wD, wE, wF, wG, wH, ho, hc2, c5, decide_true, Bool.not_true, h45]
            refine hX' 0 _ _ _ _ (by omega) ⟨rfl, by omega, ?_, ?_, ?_, ?_, .inr ⟨rfl, ?_, ?_⟩⟩ (Hp.le_refl _)
            · simp only [go_sem, yA, yB, yC, yD, yE, yF, yG, wA, wB, wC, wD, wE, wF, wG, wH, h0]
            · simp only [go_sem, yA, yB, yC, yD, yE, yF, yG, wA, wB, wC, wD, wE, wF, wG, wH, h43]
            · simp only [go_sem, yA, yB, yC, yD, yE, yF, yG, wA, wB, wC, wD, wE, wF, wG, wH, h44]
            · simp only [go_sem, yA, yB, yC, yD, yE, yF, yG, wA, wB, wC, wD, wE, wF, wG, wH]; rfl
            · simp only [go_sem, yA, yB, yC, yD, yE, yF, yG, wA, wB, wC, wD, wE, wF, wG, wH, h6, ho]
              exact .none
            · exact set_ext hle02 _ _
          · simp only [go_sem, yA, yB, yC, yD, yE, yF, yG, wA, wB, wC, wD, wE, wF, wG, wH, ho, hc2, c5, decide_false, Bool.not_false, h6]
            refine fun bn hbn => ?_
            have nc : ¬ c = bn := fun e => by subst e; rw [hc2] at hbn; cases hbn
            have hcn : ∀ o, (σ''.set bn o).f c = some (.cells [pV g, iV id, iV cr.ph, sV cr.rest, .bool cr.greeted, .map (some chm), iV cr.most, iV cr.frame, iV cr.beat, iV cr.sent, iV cr.recv, sV cr.out].toArray 90 (0, 0)) := fun o => by rw [Hp.f_ne nc]; exact hc2
            simp only [go_sem, yA, yB, yC, yD, yE, yF, yG, wA, wB, wC, wD, wE, wF, wG, wH, h6]
            refine append_intro el43 (base := none) (l := 0) (c := 0) (n := 1) (old := #[]) (new := #[iV id, sV cr.out]) (by kernel_rfl) ?_ ?_ rfl ?_ (by decide) (by decide) (fun hc => by omega) ?_
            · simp only [go_sem, yA, yB, yC, yD, yE, yF, yG, wA, wB, wC, wD, wE, wF, wG, wH]
            · simp only [go_sem, yA, yB, yC, yD, yE, yF, yG, wA, wB, wC, wD, wE, wF, wG, wH]; rfl
            · simp only [go_sem, yA, yB, yC, yD, yE, yF, yG, wA, wB, wC, wD, wE, wF, wG, wH]
              show firstC _ 2 1 _ = _
              simp [firstC, cellsOf, Hp.f_set_same]
            intro _ b cap3 hb hcap
            have nb : ¬ b = bn := fun e => by subst e; rw [Hp.f_set_same] at hb; cases hb
            have nbc : ¬ c = b := fun e => by subst e; rw [hcn] at hb; cases hb
            have hcb : ∀ o o', ((σ''.set bn o).set b o').f c = some (.cells [pV g, iV id, iV cr.ph, sV cr.rest, .bool cr.greeted, .map (some chm), iV cr.most, iV cr.frame, iV cr.beat, iV cr.sent, iV cr.recv, sV cr.out].toArray 90 (0, 0)) := fun o o' => by rw [Hp.f_ne nbc]; exact hcn o
            simp only [go_sem, yA, yB, yC, yD, yE, yF, yG, wA, wB, wC, wD, wE, wF, wG, wH, h0, h43, h44, h45, hcb, c5]
            have hσ'' : ∀ x o, σ.f x = some o → x ≠ bn ∧ x ≠ b ∧ σ''.f x = some o := by
              intro x o hx
              have h1 := hle02 _ _ hx
              have n1 : x ≠ bn := fun e => by subst e; rw [hbn] at h1; cases h1
              exact ⟨n1, (fun e => by subst e; rw [Hp.f_ne n1, h1] at hb; cases hb), h1⟩
            refine hX' 0 _ _ _ _ (by omega) ⟨rfl, by omega, ?_, ?_, ?_, ?_, .inr ⟨rfl, ?_, ?_⟩⟩ (Hp.le_refl _)
            · simp only [go_sem, yA, yB, yC, yD, yE, yF, yG, wA, wB, wC, wD, wE, wF, wG, wH, h0]
            · simp only [go_sem, yA, yB, yC, yD, yE, yF, yG, wA, wB, wC, wD, wE, wF, wG, wH, h43]
            · simp only [go_sem, yA, yB, yC, yD, yE, yF, yG, wA, wB, wC, wD, wE, wF, wG, wH, h44]
            · simp only [go_sem, yA, yB, yC, yD, yE, yF, yG, wA, wB, wC, wD, wE, wF, wG, wH]; rfl
            · simp only [go_sem, yA, yB, yC, yD, yE, yF, yG, wA, wB, wC, wD, wE, wF, wG, wH]
              obtain ⟨pad, hpad⟩ : ∃ pad : List Value, (#[iV id, sV cr.out] ++ Builtin.zeroCells el43.zero (cap3 - 1) : Array Value) = ([iV id, sV cr.out] ++ pad).toArray := ⟨(Builtin.zeroCells el43.zero (cap3 - 1)).toList, by apply Array.ext'; simp⟩
              refine Pk.one cr.out b cap3 pad ho ?_
              rw [Hp.f_ne (fun e => nbc e.symm), Hp.f_set_same, hpad]
              rfl
            · intro x o hx
              by_cases e : x = c
              · subst e
                rw [Hp.f_set_same] at hx ⊢
                exact hx
              · rw [Hp.f_ne e] at hx ⊢
                obtain ⟨n1, n2, h1⟩ := hσ'' x o hx
                rw [Hp.f_ne n2, Hp.f_ne n1]
                exact h1
        · have c0 : ¬ (1 - ((0 : Nat) : Int)) < 1 := by decide
          simp only [go_sem, yA, yB, yC, yD, yE, yF, yG, wA, wB, wC, wD, wE, wF, wG, wH, h0, h43, h44, h45, c0]
          exact hQr _ _ σ'' _ resIs_one (Hp.le_refl _) ⟨⟨_, rfl, by simpa [up] using hpk⟩, hle3⟩
    · have c0 : (1 - ((1 : Nat) : Int)) < 1 := by decide
      have hL' : L[0]? = some (iV id) := hL
      have e16 : (1 - ((1 : Nat) : Int)) = 0 := rfl
      rw [e16] at h16
      have c1 : (0 : Int) < 1 := by decide
      have c1' : (0 : Int) < ((1 : Nat) : Int) := by decide
      simp only [go_sem, yA, yB, yC, yD, yE, yF, yG, wA, wB, wC, wD, wE, wF, wG, wH, h0, h14, h15, h16, c1, c1', ha, hL', hgτ]
      refine lookup_intro (b := mc) (k := id) ko72 (z := .pointer none) (by kernel_rfl) ?_ hmcτ ?_ ?_
      · simp only [go_sem, yA, yB, yC, yD, yE, yF, yG, wA, wB, wC, wD, wE, wF, wG, wH]
      · simp only [go_sem, yA, yB, yC, yD, yE, yF, yG, wA, wB, wC, wD, wE, wF, wG, wH, keyI]
      have hval : ((mfind [(id, pV c, st)] id).map (·.2.1)).getD (.pointer none) = pV c := by simp [mfind]
      simp only [go_sem, yA, yB, yC, yD, yE, yF, yG, wA, wB, wC, wD, wE, wF, wG, wH, hval, Bool.false_eq_true, if_false, hcτ, c5, h16]
      refine hX 0 _ _ _ _ (by omega) ⟨rfl, by omega, ?_, ?_, ?_, ?_, rfl, ?_⟩ (Hp.le_refl _) <;> simp only [go_sem, yA, yB, yC, yD, yE, yF, yG, wA, wB, wC, wD, wE, wF, wG, wH, h0, h2, h14, h15]
      all_goals rfl
end
end Go.Qw
