/- The law Beats of queuewire returns true for every three integers: the row over the given program, tied to its text; no condition besides. (Part 20 of 40: QwFeed4 QwFeed5 QwFeed6.) -/
import Derived.Test.YtpiabknabfbfhaaGreatDoorBeats08
import Derived.Test.YtpiabknabfbfhaaGreatDoorBeats13
import Derived.Test.YtpiabknabfbfhaaGreatDoorBeats15
import Derived.Test.YtpiabknabfbfhaaGreatDoorBeats17
import Derived.Test.YtpiabknabfbfhaaGreatDoorBeats18
import Derived.Test.YtpiabknabfbfhaaGreatDoorBeats19
set_option linter.all false
-- feed: what is asked of next, unit and Serve; the worker's round.
namespace Go.Qw
open Nat renaming reduceLT → yA, reduceLeDiff → yB, reduceBEq → yC, reduceAdd → yD, reduceSub → yE, reduceMul → yF, reduceEqDiff → yG
open Int renaming reduceToNat → wA, reduceLE → wB, reduceLT → wC, reduceEq → wD, reduceAdd → wE, reduceSub → wF, reduceMul → wG, reduceNeg → wH
open Go Go.Conc Go.Proofs

structure Un where
  kind : Int
  channel : Int
  payload : List UInt8
  greeting : Bool
  wrong : Bool
def Un.idle (u : Un) : Bool := u.kind == 0 && !u.greeting && !u.wrong
def uV (u : Un) : Value := .agg #[.int .i64 u.kind, .int .i64 u.channel, .string (B u.payload), .bool u.greeting, .bool u.wrong]

/-- What feed leans on. -/
structure FS where
  γ : Type
  I : γ → Hp → Prop
  J : γ → Hp → Prop
  K : γ → Hp → Prop
  okc : γ → List UInt8 → Prop
  bc : Nat
  bg : Nat
  bb : Nat
  ph : γ → Int
  fr : γ → Int
  rest : γ → List UInt8
  nx : γ → Un → γ → Prop
  un : γ → Un → γ → Prop
  sv : γ → γ → Prop
  add : γ → List UInt8 → γ
  μ : γ → Nat
  conn : ∀ {a σ}, I a σ → ∃ l, σ.f bc = some (.cells l.toArray 90 (0, 0)) ∧ Cn bg (ph a) (fr a) l ∧ l[3]? = some (.string (B (rest a)))
  connK : ∀ {a σ}, K a σ → ∃ l, σ.f bc = some (.cells l.toArray 90 (0, 0)) ∧ Cn bg (ph a) (fr a) l
  gate : ∀ {a σ}, K a σ → ∃ l : List Value, σ.f bg = some (.cells l.toArray 74 (0, 0)) ∧ l.length = 9 ∧ l[5]? = some (.pointer (some ⟨bb, 0, none⟩))
  grow : ∀ {a σ} {l : List Value} (c : List UInt8), okc a c → I a σ → σ.f bc = some (.cells l.toArray 90 (0, 0)) → I (add a c) (σ.set bc (.cells (l.set 3 (.string (B (rest a ++ c)))).toArray 90 (0, 0)))
  small : ∀ {a σ}, I a σ → (rest a).length ≤ 1000000
  phA : ∀ a c, ph (add a c) = ph a
  frA : ∀ a c, fr (add a c) = fr a
  next : ∀ {E : Env Tryz.prog} {a σ}, I a σ → CallsE E 104 #[.pointer (some ⟨bc, 3, none⟩), .int .i64 (fr a)] σ fun e τ => ∃ u b, nx a u b ∧ J b τ ∧ e = .returned (uV u)
  unit : ∀ {E : Env Tryz.prog} {a u b σ}, ph a ≠ 5 → nx a u b → u.idle = false → J b σ → CallsE E 59 #[.pointer (some ⟨bc, 0, none⟩), uV u] σ fun e τ => ∃ c, un b u c ∧ K c τ ∧ e = .returned (.tuple #[])
  serve : ∀ {E : Env Tryz.prog} {b u c σ}, un b u c → K c σ → CallsE E 54 #[.pointer (some ⟨bb, 0, none⟩)] σ fun e τ => ∃ d, sv c d ∧ I d τ ∧ e = .returned (.tuple #[])
  idle : ∀ {a u b σ}, nx a u b → u.idle = true → J b σ → I b σ
  dec : ∀ {a u b c d}, ph a ≠ 5 → nx a u b → u.idle = false → un b u c → sv c d → μ d < μ a

/-- What the loop comes to. -/
inductive FS.Loop (F : FS) : F.γ → F.γ → Prop
  | gone {a} : F.ph a = 5 → F.Loop a a
  | idle {a u b} : F.ph a ≠ 5 → F.nx a u b → u.idle = true → F.Loop a b
  | step {a u b c d e} : F.ph a ≠ 5 → F.nx a u b → u.idle = false → F.un b u c → F.sv c d → F.Loop d e → F.Loop a e

section
variable (F : FS) {E : Env Tryz.prog} {c1 c2 c3 : Nat} {cw : List Frame} {φ : Hp}

set_option maxRecDepth 100000 in
/-- THE WORKER's ROUND: from its select, a number received, to its send. -/
theorem worker_round {a : F.γ} {σ : Hp} (hI : F.I a σ) (hd : σ.Dis φ) {g : Goroutine} (hg : HomeW F.bc c1 c2 c3 cw g) :
    Runs E (Go.Conc.served g (.tuple #[.int .i64 0, .bool true, .int .i64 (F.fr a), .agg #[]])) (σ.uni φ) fun g' τ => ∃ u b σ', F.nx a u b ∧ F.J b σ' ∧ σ'.Dis φ ∧ τ = σ'.uni φ ∧
      ∃ ρ ac, Agree 30 ac ρ [] ∧ Fw F.bc c1 c2 c3 ρ ∧ ρ 26 = .chan (some c2) ∧ ρ 29 = uV u ∧ g' = G (b58.at ac (.inRegion q5 [4] :: .inBlock 2 :: kw)) cw := by
  obtain ⟨ρ, ac, ha, hF, rfl⟩ := hg
  obtain ⟨ps, af, ho⟩ := q3_0
  have e : Go.Conc.served (G (b58.at ac (.inRegion q3 [0, 1, 2, 3] :: .code (.block 2 c58) :: kw)) cw) (.tuple #[.int .i64 0, .bool true, .int .i64 (F.fr a), .agg #[]]) =
      G (b58.at (ac.put (some 21) (.tuple #[.int .i64 0, .bool true, .int .i64 (F.fr a), .agg #[]])) (.inRegion q3 [1, 2, 3] :: .code (.block 2 c58) :: kw)) cw := by
    have := Frame.finish_at b58 ac q3 0 [1, 2, 3] (.code (.block 2 c58) :: kw) (.tuple #[.int .i64 0, .bool true, .int .i64 (F.fr a), .agg #[]])
    rw [ho] at this
    simp only [Go.Conc.served, G, this]
    rfl
  rw [e]
  have ha1 : Agree 30 _ _ [] := ha.put (dst := some 21) (by decide) (.tuple #[.int .i64 0, .bool true, .int .i64 (F.fr a), .agg #[]])
  -- which case it was
  have h1 := wpL_prefix (E := E) (N := 30) (ops := q3) (Q := onlyN fun ρ ds σ' => Fw F.bc c1 c2 c3 ρ ∧ ρ 21 = .tuple #[.int .i64 0, .bool true, .int .i64 (F.fr a), .agg #[]] ∧ ρ 23 = .bool true ∧ ds = [] ∧ σ' = σ.uni φ) b58 (by simp [b58]) (.code (.block 2 c58) :: kw) cw [] onlyN_panic [1, 2, 3] _ [] (σ.uni φ) _
    (by
      simp only [q3, in58, L58, B58, Tryz.f58, Option.getD_some, rgtC, lftC, innC, opsC]
      simp only [List.filterMap_cons, List.filterMap_nil, List.getElem?_toArray, List.getElem?_cons_succ, List.getElem?_cons_zero]
      simp only [go_sem, yA, yB, yC, yD, yE, yF, yG, wA, wB, wC, wD, wE, wF, wG, wH, putR, up]
      exact ⟨(((hF.up (by decide) _).up (by decide) _).up (by decide) _).up (by decide) _, by simp [up], by simp [up], rfl, rfl⟩) ha1
  refine h1.bind ?_
  rintro g' τ ⟨ρ1, ds1, a1, ha1, ⟨hF1, h21, h23, rfl, rfl⟩, rfl⟩
  refine Runs.ctl (fun w => stepG_region_end) rfl rfl ?_
  refine Runs.ctl (fun w => stepG_block) rfl rfl ?_
  rw [c58_eq]
  refine Runs.ctl (fun w => stepG_cond (t := true) (by rw [ha1.eval]; exact h23)) rfl rfl ?_
  refine Runs.ctl (fun w => stepG_seq) rfl rfl ?_
  -- the number
  refine (runs_code (E := E) (N := 30) (X := fun ρ ds σ' => Fw F.bc c1 c2 c3 ρ ∧ ρ 10 = .int .i64 (F.fr a) ∧ ds = [] ∧ σ' = σ.uni φ) ?_ (by simp [b58]) ha1).bind ?_
  · simp only [q4, c58, in58, L58, B58, Tryz.f58, Option.getD_some, rgtC, lftC, innC, opsC, yesC]
    simp only [go_sem, yA, yB, yC, yD, yE, yF, yG, wA, wB, wC, wD, wE, wF, wG, wH, putR, up, h21]
    exact ⟨(hF1.up (by decide) _).up (by decide) _, by simp [up], rfl, rfl⟩
  rintro g' τ ⟨ρ2, ds2, a2, ha2, ⟨hF2, h10, rfl, rfl⟩, rfl⟩
  refine Runs.ctl (fun w => stepG_region) rfl rfl ?_
  have hr : List.range q5.size = [0, 1, 2, 3] ++ [4] := by kernel_rfl
  rw [hr]
  -- next
  refine (wpL_prefix (E := E) (N := 30) (ops := q5) (Q := onlyN fun ρ ds τ => ds = [] ∧ ∃ u b σ', F.nx a u b ∧ F.J b σ' ∧ σ'.Dis φ ∧ τ = σ'.uni φ ∧ Fw F.bc c1 c2 c3 ρ ∧ ρ 26 = .chan (some c2) ∧ ρ 29 = uV u) b58 (by simp [b58]) (.inBlock 2 :: kw) cw [4] onlyN_panic [0, 1, 2, 3] _ [] (σ.uni φ) _ ?_ ha2).bind ?_
  · simp only [q5, c58, in58, L58, B58, Tryz.f58, Option.getD_some, rgtC, lftC, innC, opsC, yesC]
    simp only [List.filterMap_cons, List.filterMap_nil, List.getElem?_toArray, List.getElem?_cons_succ, List.getElem?_cons_zero]
    simp only [go_sem, yA, yB, yC, yD, yE, yF, yG, wA, wB, wC, wD, wE, wF, wG, wH, putR, up, hF2.u, hF2.c, h10]
    refine call_post go_104 ((F.next hI).framed hd) ?_ ?_
    · rintro v τ ⟨σ', hd', rfl, u, b, hn, hb, hv⟩
      obtain rfl : v = uV u := by injection hv
      simp only [go_sem, yA, yB, yC, yD, yE, yF, yG, wA, wB, wC, wD, wE, wF, wG, wH, putR]
      exact ⟨rfl, u, b, σ', hn, hb, hd', rfl, (((hF2.up (by decide) _).up (by decide) _).up (by decide) _).up (by decide) _, by simp [up], by simp [up]⟩
    · rintro ch τ ⟨σ', hd', rfl, u, b, hn, hb, hv⟩
      cases hv
  · rintro g' τ ⟨ρ3, ds3, a3, ha3, ⟨rfl, u, b, σ', hn, hb, hd', rfl, hF3, h26, h29⟩, rfl⟩
    exact Runs.here ⟨u, b, σ', hn, hb, hd', rfl, ρ3, a3, ha3, hF3, h26, h29, rfl⟩
end
end Go.Qw
-- feed: goroutine 0's round.
namespace Go.Qw
open Nat renaming reduceLT → yA, reduceLeDiff → yB, reduceBEq → yC, reduceAdd → yD, reduceSub → yE, reduceMul → yF, reduceEqDiff → yG
open Int renaming reduceToNat → wA, reduceLE → wB, reduceLT → wC, reduceEq → wD, reduceAdd → wE, reduceSub → wF, reduceMul → wG, reduceNeg → wH
open Go Go.Conc Go.Proofs

section
variable {P : Program} {E : Env P} {N : Nat} {ops : Array Oper}
theorem wpL_of_sil {σ : Hp} {F : Hp → Prop} {Ok : Addr → Prop} {Q : Rho → Prop} {ds : List Deferred} (hσ : F σ) : ∀ (p : List Nat) (ρ : Rho), silF P N ops F Ok Q p ρ → wpL E N ops (onlyN fun ρ ds' τ => Q ρ ∧ ds' = ds ∧ τ = σ) (p.filterMap (ops[·]?)) ρ ds σ := by
  intro p
  induction p with
  | nil => exact fun ρ h => ⟨h, rfl, rfl⟩
  | cons i p ih =>
    intro ρ hs
    simp only [silF] at hs
    cases ho : ops[i]? with
    | none => rw [ho] at hs; exact hs.elim
    | some o =>
      rw [ho] at hs
      obtain ⟨h1, h2, h3, h4, v, h5, h6⟩ := hs
      rw [List.filterMap_cons_some ho]
      simp only [wpL]
      refine ⟨h1, ?_⟩
      rw [if_pos (by simp [Region.wanted, h2])]
      exact readV_opQ (h5 σ hσ) (ih _ h6)

theorem runs_sil {σ : Hp} {F : Hp → Prop} {Ok : Addr → Prop} {Q : Rho → Prop} (hσ : F σ) {b : Frame} (hb : b.kind ≠ .early) {k : List Item} {cs : List Frame} (tl p : List Nat) {ρ : Rho} {ds : List Deferred} {a : Act} (h : silF P N ops F Ok Q p ρ) (ha : Agree N a ρ ds) :
    Runs E (G (b.at a (.inRegion ops (p ++ tl) :: k)) cs) σ fun g τ => τ = σ ∧ ∃ ρ' a', Agree N a' ρ' ds ∧ Q ρ' ∧ g = G (b.at a' (.inRegion ops tl :: k)) cs := by
  refine (wpL_prefix b hb k cs tl onlyN_panic p ρ ds σ a (wpL_of_sil (E := E) hσ p ρ h) ha).mono ?_
  rintro g τ ⟨ρ', ds', a', ha', ⟨hq, rfl, rfl⟩, rfl⟩
  exact ⟨rfl, ρ', a', ha', hq, rfl⟩

theorem runs_draws {σ : Hp} {b : Frame} {a : Act} {k : List Item} {cs : List Frame} {id : Nat} {S : Goroutine → Hp → Prop} (h : ∀ t, Runs E (G (b.at a (.inRegion ops (Region.schedule (P.follows .mixedOrders) ops t) :: k)) cs) σ S) : Runs E (G (b.at a (.code (.region id ops true) :: k)) cs) σ S := by
  refine Runs.step (X := fun g₁ σ₁ => σ₁ = σ ∧ ∃ t, g₁ = G (b.at a (.inRegion ops (Region.schedule (P.follows .mixedOrders) ops t) :: k)) cs) rfl ?_ ?_
  · intro J w hs
    have : stepG P E.main (G (b.at a (.code (.region id ops true) :: k)) cs) w = .go (G (b.at a (.inRegion ops (Region.schedule (P.follows .mixedOrders) ops (w.tape w.drawn (.order b.fn id))) :: k)) cs) { w with drawn := w.drawn + 1 } := by
      simp [G, stepG, stepG.exec, Frame.at, choose, Sem.run, Question.forced, Question.cut]
    rw [this]
    exact ⟨σ, hs.drew _, ⟨fun _ _ => rfl, rfl, rfl, rfl, Nat.le_refl _⟩, by simp, rfl, rfl, _, rfl⟩
  · rintro g₁ σ₁ ⟨rfl, t, rfl⟩
    exact h t
end

noncomputable def o8 : Array Oper := opsC (lftC (lftC r8))
noncomputable def o9 : Array Oper := opsC (lftC (rgtC r8))
noncomputable def o10 : Array Oper := opsC (rgtC (rgtC r8))
theorem r8_eq : r8 = .seq (.seq (.region 8 o8 false) (.cond (.tmp 38) (.exit 0) .skip)) (.seq (.region 9 o9 false) (.region 10 o10 false)) := by kernel_rfl

set_option maxRecDepth 100000 in
theorem r8_ok {E : Env Tryz.prog} {cb sb ub db wg ux : Nat} {ρ : Rho} {u : Un} {σ : Hp} (hF : Fx cb sb ub db wg ρ) (h8 : ρ 8 = .pointer (some ⟨ux, 0, none⟩)) (hx : σ.f ux = some (.cells #[.int .i64 u.kind, .int .i64 u.channel, .string (B u.payload), .bool u.greeting, .bool u.wrong] 135 (0, 0))) :
    wpC E 52 (.region 8 o8 false) (onlyN fun ρ ds σ' => Fx cb sb ub db wg ρ ∧ ρ 8 = .pointer (some ⟨ux, 0, none⟩) ∧ ρ 38 = .bool u.idle ∧ ds = [] ∧ σ' = σ) ρ [] σ := by
  obtain ⟨uk, uc, upl, ug, uw⟩ := u
  simp only at hx
  simp only [o8, r8, in40, loop40, main40, B40, Tryz.f40, Option.getD_some, rgtC, lftC, innC, opsC]
  cases hk : decide (uk = 0) <;> cases ug <;> cases uw <;> simp only [go_sem, yA, yB, yC, yD, yE, yF, yG, wA, wB, wC, wD, wE, wF, wG, wH, putR, up, h8, hx, hk, onlyN] <;> refine ⟨?_, ?_⟩ <;> first | exact (show Fx cb sb ub db wg _ from ⟨by simp [up, hF.c], by simp [up, hF.s], by simp [up, hF.u], by simp [up, hF.d], by simp [up, hF.w]⟩) | (simp only [decide_eq_true_eq, decide_eq_false_iff_not] at hk; simp [Un.idle, hk])

section
variable (F : FS) {E : Env Tryz.prog} {cb sb ub db wg c1 c2 : Nat} {cs : List Frame} {φ : Hp}

/-- What goroutine 0 sees of the boxes. -/
structure Bx (F : FS) (cb sb db c1 c3 : Nat) (φ : Hp) : Prop where
  c : φ.f cb = some (.cells #[.pointer (some ⟨F.bc, 0, none⟩)] 70 (0, 0))
  s : φ.f sb = some (.cells #[.chan (some c1)] 119 (0, 0))
  d : φ.f db = some (.cells #[.chan (some c3)] 121 (0, 0))

theorem fam_of {a : F.γ} {σ : Hp} {c3 : Nat} (hI : F.I a σ) (hd : σ.Dis φ) (hb : Bx F cb sb db c1 c3 φ) : Fam cb sb F.bc c1 F.bg (F.ph a) (F.fr a) (σ.uni φ) := by
  obtain ⟨l, h1, h2, _⟩ := F.conn hI
  exact ⟨Hp.le_uni_right hd _ _ hb.c, Hp.le_uni_right hd _ _ hb.s, l, _, Hp.uni_some h1, h2⟩

/-- Where goroutine 0 stands behind a round. -/
def AtTail (cb sb ub db wg : Nat) (cs : List Frame) (g : Goroutine) : Prop := ∃ ρ a, Agree 52 a ρ [] ∧ Fx cb sb ub db wg ρ ∧ g = G (b40.at a [.code tail40]) cs
def AtS (cb sb ub db wg c1 : Nat) (fr : Int) (cs : List Frame) (g : Goroutine) : Prop := ∃ ρ a, Agree 52 a ρ [] ∧ AtSend cb sb ub db wg c1 fr ρ ∧ g = G (b40.at a (.inRegion o6 [5] :: .code (rgtC in40) :: k40)) cs

set_option maxRecDepth 100000 in
/-- From the loop's head. -/
theorem main_head {a : F.γ} {σ : Hp} {c3 : Nat} (hI : F.I a σ) (hd : σ.Dis φ) (hb : Bx F cb sb db c1 c3 φ) {ρ : Rho} {ac : Act} (ha : Agree 52 ac ρ []) (hF : Fx cb sb ub db wg ρ) :
    Runs E (G (b40.at ac (.code loop40 :: .inLoop loop40 :: .inBlock 0 :: .code tail40 :: [])) cs) (σ.uni φ) fun g τ => τ = σ.uni φ ∧ ((F.ph a = 5 ∧ AtTail cb sb ub db wg cs g) ∨ (F.ph a ≠ 5 ∧ AtS cb sb ub db wg c1 (F.fr a) cs g)) := by
  rw [loop40_eq]
  refine Runs.ctl (fun w => stepG_seq) rfl rfl ?_
  refine Runs.ctl (fun w => stepG_seq) rfl rfl ?_
  refine Runs.ctl (fun w => stepG_region) rfl rfl ?_
  rw [← loop40_eq]
  have hr : List.range o5.size = [0, 1, 2, 3, 4] ++ [] := by kernel_rfl
  rw [hr]
  refine (runs_sil (E := E) (ops := o5) (F := Fam cb sb F.bc c1 F.bg (F.ph a) (F.fr a)) (Ok := Rd cb sb F.bc) (Q := fun ρ => Fx cb sb ub db wg ρ ∧ ρ 18 = .bool (F.ph a != 5)) (fam_of F hI hd hb) (by simp [b40]) [] [0, 1, 2, 3, 4] (sil5b hF fun ρ' h1 h2 => ⟨h1, h2⟩) ha).bind ?_
  rintro g τ ⟨rfl, ρ1, a1, ha1, ⟨hF1, h18⟩, rfl⟩
  refine Runs.ctl (fun w => stepG_region_end) rfl rfl ?_
  by_cases hp : F.ph a = 5
  · rw [hp] at h18
    refine Runs.ctl (fun w => stepG_cond (t := false) (by rw [ha1.eval]; simpa [evR] using h18)) rfl rfl ?_
    refine Runs.ctl (fun w => stepG_exit (k' := [.code tail40]) rfl) rfl rfl ?_
    exact Runs.here ⟨rfl, .inl ⟨hp, ρ1, a1, ha1, hF1, rfl⟩⟩
  · refine Runs.ctl (fun w => stepG_cond (t := true) (by rw [ha1.eval]; simp [evR, h18, hp])) rfl rfl ?_
    refine Runs.ctl (fun w => stepG_skip) rfl rfl ?_
    refine Runs.ctl (fun w => stepG_block) rfl rfl ?_
    rw [in40_eq]
    refine Runs.ctl (fun w => stepG_seq) rfl rfl ?_
    refine runs_draws fun t => ?_
    obtain ⟨p, hps, hpm⟩ := sched6 t
    rw [hps]
    refine (runs_sil (E := E) (F := Fam cb sb F.bc c1 F.bg (F.ph a) (F.fr a)) (fam_of F hI hd hb) (by simp [b40]) [5] p (sil6 hF1 hpm) ha1).bind ?_
    rintro g τ ⟨rfl, ρ2, a2, ha2, hS, rfl⟩
    refine Runs.here ⟨rfl, .inr ⟨hp, ρ2, a2, ha2, hS, rfl⟩⟩

set_option maxRecDepth 100000 in
/-- GOROUTINE 0's ROUND: from its receive, a unit received, to its next send or out of the loop. -/
theorem main_round {a b : F.γ} {u : Un} {σ : Hp} {c3 : Nat} (hp : F.ph a ≠ 5) (hn : F.nx a u b) (hI : F.J b σ) (hd : σ.Dis φ) (hb : Bx F cb sb db c1 c3 φ) {g : Goroutine} (hg : HomeR cb sb ub db wg cs g) :
    Runs E (Go.Conc.served g (uV u)) (σ.uni φ) fun g' τ => ∃ σ', σ'.Dis φ ∧ (σ'.uni φ).le τ ∧
      ((u.idle = true ∧ F.I b σ' ∧ AtTail cb sb ub db wg cs g') ∨ (u.idle = false ∧ ∃ c d, F.un b u c ∧ F.sv c d ∧ F.I d σ' ∧ ((F.ph d = 5 ∧ AtTail cb sb ub db wg cs g') ∨ (F.ph d ≠ 5 ∧ AtS cb sb ub db wg c1 (F.fr d) cs g')))) := by
  obtain ⟨ρ, ac, ha, hF, rfl⟩ := hg
  obtain ⟨ps, af, ho⟩ := o7_1
  have e : Go.Conc.served (G (b40.at ac (.inRegion o7 [1, 2, 3] :: .code r8 :: k40)) cs) (uV u) = G (b40.at (ac.put (some 25) (uV u)) (.inRegion o7 ([2, 3] ++ []) :: .code r8 :: k40)) cs := by
    have := Frame.finish_at b40 ac o7 1 [2, 3] (.code r8 :: k40) (uV u)
    rw [ho] at this
    simp only [Go.Conc.served, G, this]
    rfl
  rw [e]
  have ha1 : Agree 52 _ _ [] := ha.put (dst := some 25) (by decide) (uV u)
  refine (wpL_prefix (E := E) (N := 52) (ops := o7) (Q := onlyN fun ρ ds τ => Fx cb sb ub db wg ρ ∧ ds = [] ∧ ∃ ux, (σ.uni φ).f ux = none ∧ ρ 8 = .pointer (some ⟨ux, 0, none⟩) ∧ τ = (σ.uni φ).set ux (.cells #[.int .i64 u.kind, .int .i64 u.channel, .string (B u.payload), .bool u.greeting, .bool u.wrong] 135 (0, 0)))
    b40 (by simp [b40]) (.code r8 :: k40) cs [] onlyN_panic [2, 3] _ [] (σ.uni φ) _ ?_ ha1).bind ?_
  · simp only [o7, in40, loop40, main40, B40, Tryz.f40, Option.getD_some, rgtC, lftC, innC, opsC]
    simp only [List.filterMap_cons, List.filterMap_nil, List.getElem?_toArray, List.getElem?_cons_succ, List.getElem?_cons_zero]
    simp only [go_sem, yA, yB, yC, yD, yE, yF, yG, wA, wB, wC, wD, wE, wF, wG, wH, putR, up]
    refine fun ux hux => ?_
    simp only [go_sem, yA, yB, yC, yD, yE, yF, yG, wA, wB, wC, wD, wE, wF, wG, wH, putR, up, uV]
    exact ⟨(hF.up (by decide) _).up (by decide) _, rfl, ux, hux, by simp [up], rfl⟩
  rintro g τ ⟨ρ1, _, a1, ha1, ⟨hF1, rfl, ux, hux, h8, rfl⟩, rfl⟩
  have hs : σ.f ux = none := by
    cases e : σ.f ux with
    | none => rfl
    | some o => rw [Hp.uni_some e] at hux; cases hux
  have hp0 : φ.f ux = none := by rw [Hp.uni_none hs] at hux; exact hux
  obtain ⟨φ', hφ'⟩ : ∃ φ', φ' = φ.set ux (.cells #[.int .i64 u.kind, .int .i64 u.channel, .string (B u.payload), .bool u.greeting, .bool u.wrong] 135 (0, 0)) := ⟨_, rfl⟩
  have hle : φ.le φ' := by
    rw [hφ']
    intro b o hb
    have : b ≠ ux := fun e => by rw [e, hp0] at hb; cases hb
    simpa [Hp.set, this] using hb
  have hx : φ'.f ux = some (.cells #[.int .i64 u.kind, .int .i64 u.channel, .string (B u.payload), .bool u.greeting, .bool u.wrong] 135 (0, 0)) := by rw [hφ']; simp [Hp.set]
  have hd' : σ.Dis φ' := by
    rw [hφ']
    intro b
    by_cases e : b = ux
    · subst e; exact .inl hs
    · simpa [Hp.set, e] using hd b
  have hu : (σ.uni φ).set ux (.cells #[.int .i64 u.kind, .int .i64 u.channel, .string (B u.payload), .bool u.greeting, .bool u.wrong] 135 (0, 0)) = σ.uni φ' := by
    rw [hφ']
    show Hp.mk _ = Hp.mk _
    congr 1
    funext b
    by_cases e : b = ux
    · subst e; simp [Hp.set, hs]
    · simp [Hp.set, Hp.uni, e]
  have hb' : Bx F cb sb db c1 c3 φ' := ⟨hle _ _ hb.c, hle _ _ hb.s, hle _ _ hb.d⟩
  rw [hu]
  have fin : ∀ {σ' : Hp}, σ'.Dis φ' → σ'.Dis φ ∧ (σ'.uni φ).le (σ'.uni φ') := by
    intro σ' h
    refine ⟨fun b => ?_, fun b o hb => ?_⟩
    · rcases h b with e | e
      · exact .inl e
      · right
        cases e2 : φ.f b with
        | none => rfl
        | some o => rw [hle _ _ e2] at e; cases e
    · rcases Hp.uni_cases hb with h1 | ⟨h1, h2⟩
      · exact Hp.uni_some h1
      · rw [Hp.uni_none h1]; exact hle _ _ h2
  clear hu hux
  refine Runs.ctl (fun w => stepG_region_end) rfl rfl ?_
  rw [r8_eq]
  refine Runs.ctl (fun w => stepG_seq) rfl rfl ?_
  refine Runs.ctl (fun w => stepG_seq) rfl rfl ?_
  have hxu : (σ.uni φ').f ux = some (.cells #[.int .i64 u.kind, .int .i64 u.channel, .string (B u.payload), .bool u.greeting, .bool u.wrong] 135 (0, 0)) := Hp.le_uni_right hd' _ _ hx
  refine (runs_code (E := E) (N := 52) (X := fun ρ ds σ' => Fx cb sb ub db wg ρ ∧ ρ 8 = .pointer (some ⟨ux, 0, none⟩) ∧ ρ 38 = .bool u.idle ∧ ds = [] ∧ σ' = σ.uni φ') ?_ (by simp [b40]) ha1).bind ?_
  · exact r8_ok hF1 h8 hxu
  rintro g τ ⟨ρ2, _, a2, ha2, ⟨hF2, h82, h38, rfl, rfl⟩, rfl⟩
  cases hi : u.idle with
  | true =>
    rw [hi] at h38
    refine Runs.ctl (fun w => stepG_cond (t := true) (by rw [ha2.eval]; exact h38)) rfl rfl ?_
    refine Runs.ctl (fun w => stepG_exit (k' := [.code tail40]) rfl) rfl rfl ?_
    obtain ⟨k1, k2⟩ := fin hd'
    exact Runs.here ⟨σ, k1, k2, .inl ⟨rfl, F.idle hn hi hI, ρ2, a2, ha2, hF2, rfl⟩⟩
  | false =>
    rw [hi] at h38
    refine Runs.ctl (fun w => stepG_cond (t := false) (by rw [ha2.eval]; exact h38)) rfl rfl ?_
    refine Runs.ctl (fun w => stepG_skip) rfl rfl ?_
    refine Runs.ctl (fun w => stepG_seq) rfl rfl ?_
    refine (runs_code (E := E) (N := 52) (X := fun ρ ds τ => Fx cb sb ub db wg ρ ∧ ds = [] ∧ ∃ c σ', F.un b u c ∧ F.K c σ' ∧ σ'.Dis φ' ∧ τ = σ'.uni φ') ?_ (by simp [b40]) ha2).bind ?_
    · have hbc := Hp.le_uni_right hd' _ _ hb'.c
      have hcb := hF2.c
      simp only [o9, r8, in40, loop40, main40, B40, Tryz.f40, Option.getD_some, rgtC, lftC, innC, opsC]
      simp only [go_sem, yA, yB, yC, yD, yE, yF, yG, wA, wB, wC, wD, wE, wF, wG, wH, putR, up, h82, hxu, hbc, hcb]
      refine call_post go_59 ((F.unit hp hn hi hI).framed hd') ?_ ?_
      · rintro v τ ⟨σ', d', rfl, c, hc, hIc, hv⟩
        simp only [go_sem, yA, yB, yC, yD, yE, yF, yG, wA, wB, wC, wD, wE, wF, wG, wH, putR]
        exact ⟨((hF2.up (by decide) _).up (by decide) _).up (by decide) _, rfl, c, σ', hc, hIc, d', rfl⟩
      · rintro ch τ ⟨σ', d', rfl, c, hc, hIc, hv⟩
        cases hv
    rintro g τ ⟨ρ3, _, a3, ha3, ⟨hF3, rfl, c, σ', hc, hIc, d', rfl⟩, rfl⟩
    refine (runs_code (E := E) (N := 52) (X := fun ρ ds τ => Fx cb sb ub db wg ρ ∧ ds = [] ∧ ∃ d σ', F.sv c d ∧ F.I d σ' ∧ σ'.Dis φ' ∧ τ = σ'.uni φ') ?_ (by simp [b40]) ha3).bind ?_
    · have hbc := Hp.le_uni_right d' _ _ hb'.c
      have hcb := hF3.c
      obtain ⟨l, hl, hcn⟩ := F.connK hIc
      obtain ⟨lg, hg, hgl, hg5⟩ := F.gate hIc
      have hl' := Hp.uni_some (φ := φ') hl
      have hg' := Hp.uni_some (φ := φ') hg
      have hl0 := hcn.g
      simp only [o10, r8, in40, loop40, main40, B40, Tryz.f40, Option.getD_some, rgtC, lftC, innC, opsC]
      simp only [go_sem, yA, yB, yC, yD, yE, yF, yG, wA, wB, wC, wD, wE, wF, wG, wH, putR, up, hbc, hcb, hl', hg', hl0, hg5]
      refine call_post go_54 ((F.serve hc hIc).framed d') ?_ ?_
      · rintro v τ ⟨σ'', d'', rfl, d, hdd, hId, hv⟩
        simp only [go_sem, yA, yB, yC, yD, yE, yF, yG, wA, wB, wC, wD, wE, wF, wG, wH, putR]
        exact ⟨(((((((hF3.up (by decide) _).up (by decide) _).up (by decide) _).up (by decide) _).up (by decide) _).up (by decide) _).up (by decide) _).up (by decide) _, rfl, d, σ'', hdd, hId, d'', rfl⟩
      · rintro ch τ ⟨σ'', d'', rfl, d, hdd, hId, hv⟩
        cases hv
    rintro g τ ⟨ρ4, _, a4, ha4, ⟨hF4, rfl, d, σ'', hdd, hId, d'', rfl⟩, rfl⟩
    refine Runs.ctl (fun w => stepG_inBlock) rfl rfl ?_
    refine Runs.ctl (fun w => stepG_inLoop) rfl rfl ?_
    refine (main_head F hId d'' hb' ha4 hF4).bind ?_
    rintro g τ ⟨rfl, h⟩
    obtain ⟨k1, k2⟩ := fin d''
    exact Runs.here ⟨σ'', k1, k2, .inr ⟨rfl, c, d, hc, hdd, hId, h⟩⟩
end
end Go.Qw
-- feed: the talk, from the worker's receiving a number to goroutine 0's leaving the loop.
namespace Go.Qw
open Go Go.Conc Go.Proofs
open Go.ConcX (OfWg)

/-- What is fixed in the talk. -/
structure Tk where
  W : World
  j : Nat
  c1 : Nat
  c2 : Nat
  c3 : Nat
  cb : Nat
  sb : Nat
  ub : Nat
  db : Nat
  wg : Nat
  Jh : Nat → Prop
  Bd : Nat
  cs : List Frame
  cw : List Frame
  wgo : Obj
  hj : 0 < j
  d12 : c1 ≠ c2
  d13 : c1 ≠ c3
  d23 : c2 ≠ c3
  hub : ub ≠ c1 ∧ ub ≠ c2 ∧ ub ≠ c3 ∧ ub ≠ wg ∧ ¬ Jh ub ∧ ub < Bd
  hwg : wg ≠ c1 ∧ wg ≠ c2 ∧ wg ≠ c3

namespace Tk
variable (t : Tk)
def chans (c : Nat) : Prop := c = t.c1 ∨ c = t.c2 ∨ c = t.c3
def K0 (w : World) : Prop := w.heap[t.ub]? = some (.cells #[.chan (some t.c2)] 120 (0, 0)) ∧ w.heap[t.wg]? = some t.wgo
def S (l : Loc) : Prop := ∃ a : Addr, l = .cell a ∧ (t.Jh a.block ∨ a.block = t.wg)
def HK (b : Nat) : Prop := b = t.ub ∨ b = t.wg
def SB (l : Loc) : Prop := l = .cell ⟨t.ub, 0, none⟩

theorem k0_set {t : Tk} {w : World} {c k : Nat} {cl : Bool} (hc : t.chans c) (h : t.K0 w) : t.K0 (w.setChan c 0 #[] cl k k false) := by
  obtain ⟨a1, a2, a3, a4, a5, a6⟩ := t.hub
  obtain ⟨b1, b2, b3⟩ := t.hwg
  have h1 : t.ub ≠ c := by rcases hc with rfl | rfl | rfl <;> assumption
  have h2 : t.wg ≠ c := by rcases hc with rfl | rfl | rfl <;> assumption
  exact ⟨(heap_setChan_ne w _ _ _ _ _ _ (Ne.symm h1)).trans h.1, (heap_setChan_ne w _ _ _ _ _ _ (Ne.symm h2)).trans h.2⟩

/-- Goroutine 0 holds the token. -/
def A : Duo Tryz.prog where
  W := t.W
  j := t.j
  chans := t.chans
  K := t.K0
  KW := fun w => w.heap[t.ub]? = some (.cells #[.chan (some t.c2)] 120 (0, 0))
  hKW := fun w h => h.1
  HK := t.HK
  S := t.S
  Still := fun _ => False
  Q := OfWg t.wg
  B := t.Bd
  hj := t.hj
  hKat := fun w d h => h
  hKset := fun w c k hc h => k0_set hc h
  cell := by
    rintro l (⟨a, rfl, _⟩ | h | ⟨a, rfl, _⟩)
    · exact ⟨a, rfl⟩
    · exact h.elim
    · exact ⟨a, rfl⟩
  apart := fun l h => h.elim
/-- The worker holds it. -/
def D : Duo Tryz.prog := { t.A with
  Still := t.SB
  cell := by
    rintro l (⟨a, rfl, _⟩ | h | ⟨a, rfl, _⟩)
    · exact ⟨a, rfl⟩
    · exact ⟨_, h⟩
    · exact ⟨a, rfl⟩
  apart := by
    rintro l rfl
    obtain ⟨a1, a2, a3, a4, a5, a6⟩ := t.hub
    refine ⟨?_, ?_⟩
    · rintro ⟨a, e, h⟩
      obtain rfl : a = ⟨t.ub, 0, none⟩ := by simpa using e.symm
      rcases h with h | h
      · exact a5 h
      · exact a4 h
    · rintro ⟨a, e, h⟩
      obtain rfl : a = ⟨t.ub, 0, none⟩ := by simpa using e.symm
      exact a4 h }

theorem deepA : t.A.Deep := ⟨fun w w' h k => ⟨(h t.ub (.inl rfl)).trans k.1, (h t.wg (.inr rfl)).trans k.2⟩, fun a h => h.elim⟩
theorem deepD : t.D.Deep := ⟨fun w w' h k => ⟨(h t.ub (.inl rfl)).trans k.1, (h t.wg (.inr rfl)).trans k.2⟩, fun a h => by
  have : Loc.cell a = Loc.cell ⟨t.ub, 0, none⟩ := h
  obtain rfl : a = ⟨t.ub, 0, none⟩ := by simpa using this
  exact .inl rfl⟩

theorem nextAD : t.A.Next t.D := ⟨rfl, rfl, rfl, rfl, rfl, rfl, fun _ h => h, fun _ h => h⟩
theorem nextDA : t.D.Next t.A := ⟨rfl, rfl, rfl, rfl, rfl, rfl, fun _ h => h, fun _ h => h⟩

abbrev sS (fr : Int) : Seat := seatS t.cb t.sb t.ub t.db t.wg t.c1 fr t.cs
abbrev sR : Seat := seatR t.cb t.sb t.ub t.db t.wg t.c2 t.cs
abbrev sW (bc : Nat) : Seat := seatW bc t.c1 t.c2 t.c3 t.cw
/-- The worker at its send. -/
def sT (bc : Nat) (u : Un) : Seat := { cases := #[scase t.c2 (uV u) (.tuple #[])], shape := .send, home := HomeT bc t.c1 t.c2 t.c3 t.cw }

theorem fitsR : t.D.Fits t.sR := by
  intro cc h
  simp only [seatR, List.mem_toArray, List.mem_cons, List.not_mem_nil, or_false] at h
  subst h
  exact ⟨t.c2, .inr (.inl rfl), rfl⟩
theorem fitsW (bc : Nat) : t.A.Fits (t.sW bc) := by
  intro cc h
  simp only [seatW, List.mem_toArray, List.mem_cons, List.not_mem_nil, or_false] at h
  rcases h with rfl | rfl
  · exact ⟨t.c1, .inl rfl, rfl⟩
  · exact ⟨t.c3, .inr (.inr rfl), rfl⟩

theorem sees_fam {t : Tk} (w : World) (h : w.heap[t.ub]? = some (.cells #[.chan (some t.c2)] 120 (0, 0))) : ∃ κ, FamU t.ub t.c2 κ ∧ ∀ b o, κ.f b = some o → w.heap[b]? = some o := ⟨⟨fun b => w.heap[b]?⟩, h, fun _ _ h => h⟩

theorem headsR {ga : Goroutine} (h : HomeS t.cb t.sb t.ub t.db t.wg t.cs ga) : ∃ k, Heads Tryz.prog (0 == 0) t.D.KW t.D.Still t.D.B t.sR k (Go.Conc.served ga undef) :=
  ⟨_, .inl ⟨_, rfl, way_recv (Still := t.SB) sees_fam ⟨rfl, t.hub.2.2.2.2.2⟩ h⟩⟩

theorem sel_num (fr : Int) (bc : Nat) : commResult (t.sW bc).cases (t.sW bc).shape ((0 : Nat) : Int) (.int .i64 fr) true = .tuple #[.int .i64 0, .bool true, .int .i64 fr, .agg #[]] := by
  simp [commResult, seatW, rcase, goInt, Array.zipIdx, Array.filter]

theorem headsW {bc : Nat} {ga : Goroutine} (h : HomeT bc t.c1 t.c2 t.c3 t.cw ga) : ∃ k, Heads Tryz.prog (t.j == 0) t.A.KW t.A.Still t.A.B (t.sW bc) k (Go.Conc.served ga undef) :=
  ⟨_, .inl ⟨_, rfl, way_sel h⟩⟩

set_option maxRecDepth 100000 in
theorem atT {bc : Nat} {u : Un} {main : Bool} {K : World → Prop} {Still : Loc → Prop} {Bd : Nat} {ρ : Rho} {a : Act} (ha : Agree 30 a ρ []) (h : Fw bc t.c1 t.c2 t.c3 ρ) (h26 : ρ 26 = .chan (some t.c2)) (h29 : ρ 29 = uV u) :
    AtIn Tryz.prog main K Still Bd (t.sT bc u) (G (b58.at a (.inRegion q5 [4] :: .inBlock 2 :: kw)) t.cw) (G (b58.at a (.inRegion q5 [4] :: .inBlock 2 :: kw)) t.cw) := by
  obtain ⟨ps, af, ho⟩ := q5_4
  refine atIn_of ho rfl (by simp [b58]) (fun w => ?_) (fun w => ?_) ⟨ρ, a, ha, h, rfl⟩
  · simp [execOp, ha.eval, evR, h26, h29, sT, scase]
  · simp [execOp]
end Tk

variable (F : FS) (t : Tk) {φ : Hp}

set_option maxRecDepth 100000 in
/-- THE TALK. -/
theorem talk (hb : Bx F t.cb t.sb t.db t.c1 t.c3 φ) : ∀ (n : Nat) (a : F.γ) (σ : Hp) (m : Machine) (T : Trace) (g : Goroutine), F.μ a < n → F.ph a ≠ 5 → F.I a σ → σ.Dis φ → HomeW F.bc t.c1 t.c2 t.c3 t.cw g →
    t.D.St t.j 0 t.sR (Go.Conc.served g (.tuple #[.int .i64 0, .bool true, .int .i64 (F.fr a), .agg #[]])) (σ.uni φ) m T →
    ∃ N m' T' a' σ' g', runNT Tryz.prog N m T = (.next m', T') ∧ F.Loop a a' ∧ F.I a' σ' ∧ σ'.Dis φ ∧ AtTail t.cb t.sb t.ub t.db t.wg t.cs g' ∧ t.A.St 0 t.j (t.sW F.bc) g' (σ'.uni φ) m' T' := by
  intro n
  induction n with
  | zero => intro a σ m T g h; omega
  | succ n ih =>
    intro a σ m T g hn hp hI hd hg hSt
    have tj : t.D.Two t.j 0 := .inr ⟨rfl, rfl⟩
    have t0 : t.A.Two 0 t.j := .inl ⟨rfl, rfl⟩
    have hj0 : (t.j == 0) = false := by have := t.hj; simp; omega
    -- the worker's round
    obtain ⟨N1, m1, T1, g1, σ1, r1, st1, u, b, σb, hnx, hIb, hdb, rfl, ρ1, ac1, ha1, hF1, h26, h29, rfl⟩ := worker_round (E := t.D.env t.deepD tj t.fitsR) F hI hd hg m T hSt
    obtain ⟨gs, w, sl, q, J, n0, y, rfl, e1, e2, e3, e4, e5, e6, e7⟩ := st1
    -- the unit is sent
    have hat := t.atT (main := t.j == 0) (K := t.D.KW) (Still := t.D.Still) (Bd := t.D.B) ha1 hF1 h26 h29
    obtain ⟨N2, m2, T2, r2, met2⟩ := t.D.meet (a := t.j) (b := 0) tj (sa := t.sT F.bc u) (sb := t.sR) (c := t.c2) (kk := 0) (v := uV u) (.inr (.inl rfl)) rfl rfl t.fitsR (by rfl) (fun m cc hm hcc => by
        rcases m with _ | m
        · exact absurd rfl hm
        · simp [seatR] at hcc) (fun cc hcc => by
        simp only [seatR, List.mem_toArray, List.mem_cons, List.not_mem_nil, or_false] at hcc
        subst hcc; rfl) (.inl ⟨rfl, rfl⟩) (sl := sl) e1 e2 (.inl ⟨0, rfl, _, hat⟩) e3 e4 e5 e6 e7 (.inl (by omega))
    obtain ⟨gb, hgb, st2⟩ := met2.pass t.nextDA (fun ga h => t.headsW h)
    -- goroutine 0's round
    obtain ⟨N3, m3, T3, g3, τ, r3, st3, σ3, hd3, hle, hres⟩ := main_round (E := t.A.env t.deepA t0 (t.fitsW F.bc)) F hp hnx hIb hdb hb hgb m2 T2 st2
    have st3 := (t.A.env t.deepA t0 (t.fitsW F.bc)).weak st3 hle
    have r123 := runNT_then (runNT_then r1 r2) r3
    rcases hres with ⟨hi, hI3, hT⟩ | ⟨hi, c, d, hun, hsv, hI3, h3⟩
    · exact ⟨_, m3, T3, b, σ3, g3, r123, .idle hp hnx hi, hI3, hd3, hT, st3⟩
    have hlt := F.dec hp hnx hi hun hsv
    rcases h3 with ⟨h5, hT⟩ | ⟨h5, ρ4, a4, ha4, hS, rfl⟩
    · exact ⟨_, m3, T3, d, σ3, g3, r123, .step hp hnx hi hun hsv (.gone h5), hI3, hd3, hT, st3⟩
    -- the next number is sent
    obtain ⟨gs, w, sl, q, J, n0, y, rfl, e1, e2, e3, e4, e5, e6, e7⟩ := st3
    have hat := at_send (main := true) (K := t.A.KW) (Still := t.A.Still) (Bd := t.A.B) (cs := t.cs) ha4 hS
    obtain ⟨N4, m4, T4, r4, met4⟩ := t.A.meet (a := 0) (b := t.j) t0 (sa := t.sS (F.fr d)) (sb := t.sW F.bc) (c := t.c1) (kk := 0) (v := .int .i64 (F.fr d)) (.inl rfl) rfl rfl (t.fitsW F.bc) (by rfl) (fun m cc hm hcc => by
        rcases m with _ | _ | m
        · exact absurd rfl hm
        · simp [seatW] at hcc; subst hcc
          simp only [rcase, ne_eq, Value.chan.injEq, Option.some.injEq]
          exact fun e => t.d13 e.symm
        · simp [seatW] at hcc) (fun cc hcc => by
        simp only [seatW, List.mem_toArray, List.mem_cons, List.not_mem_nil, or_false] at hcc
        rcases hcc with rfl | rfl <;> rfl) (.inl ⟨rfl, rfl⟩) (sl := sl) e1 e2 (.inl ⟨0, rfl, _, hat⟩) e3 e4 e5 e6 e7 (.inl (by omega))
    obtain ⟨gb, hgb, st4⟩ := met4.pass t.nextAD (fun ga h => t.headsR h)
    rw [t.sel_num] at st4
    obtain ⟨N5, m5, T5, a', σ', g', r5, hl, hI', hd', hT, st5⟩ := ih d σ3 m4 T4 gb (by omega) h5 hI3 hd3 hgb st4
    exact ⟨_, m5, T5, a', σ', g', runNT_then (runNT_then r123 r4) r5, .step hp hnx hi hun hsv hl, hI', hd', hT, st5⟩
end Go.Qw
