/- The law Beats of queuewire returns true for every three integers: the row over the given program, tied to its text; no condition besides. (Part 17 of 40: QwJoin4 QwShut QwRO.) -/
import Derived.Test.YtpiabknabfbfhaaGreatDoorBeats08
import Derived.Test.YtpiabknabfbfhaaGreatDoorBeats15
import Derived.Test.YtpiabknabfbfhaaGreatDoorBeats16
set_option linter.all false
-- Goroutine 0 waits for the worker's end: the run.
namespace Go.Qw
open Go Go.Conc
open Go.ConcX
open Go.ConcN (sumTo upd sumTo_upd upd_ne upd_same)

abbrev Mu := Nat × Nat × Nat × Nat × Nat
def ltMu : Mu → Mu → Prop := Prod.Lex (· < ·) (Prod.Lex (· < ·) (Prod.Lex (· < ·) (Prod.Lex (· < ·) (· < ·))))
theorem ltMu_wf : WellFounded ltMu :=
  (Prod.lex ⟨_, Nat.lt_wfRel.wf⟩ (Prod.lex ⟨_, Nat.lt_wfRel.wf⟩ (Prod.lex ⟨_, Nat.lt_wfRel.wf⟩ (Prod.lex ⟨_, Nat.lt_wfRel.wf⟩ ⟨_, Nat.lt_wfRel.wf⟩)))).wf

section
variable {P : Program} {K : Jn P}
attribute [local instance] Jn.Y
variable {w w' : World} {mt md mn ct cd cn : Nat} {a b : Goroutine} {gs : Array Goroutine} {T : Trace} {q : Nat → Nat} {rel : Option Nat}

theorem trans_ra : ∀ x y z, K.Ra x y → K.Ra y z → K.Ra x z := fun _ _ _ h h' => by letI := K.I; exact h.trans h'
theorem trans_rb : ∀ x y z, K.Rb x y → K.Rb y z → K.Rb x z := fun _ _ _ h h' => by letI := K.I; exact h.trans h'

theorem MJ.rely (h : MJ K mt md mn a w) (s : Suf K mt w w') : MJ K mt md mn a w' := by
  obtain ⟨s1, s2, s3⟩ := s
  cases h with
  | a1 h => exact .a1 (Goes.rely trans_ra h (s1 (by omega)))
  | a2 h => exact .a2 (Goes.rely trans_ra h (s1 (by omega)))
  | a3 h => exact .a3 (Goes.rely trans_ra h (s1 (by omega)))
  | a4 h => exact .a4 (Goes.rely trans_ra h (s1 (by omega)))
  | a5 h => exact .a5 (Goes.rely trans_rb h (s2 (by omega)))
  | blk h => exact .blk (fun w₁ r => h w₁ (trans_rb _ _ _ (s2 (by omega)) r))
  | a6 h => exact .a6 (Goes.rely atRel_trans h (s3 (by omega) (by omega)))
  | a7 h => exact .a7 (Goes.rely atRel_trans h (s3 (by omega) (by omega)))
  | a8 h => exact .a8 (Goes.rely atRel_trans h (s3 (by omega) (by omega)))

theorem MJ.status (h : MJ K mt md mn a w) : (mt ≠ 10 ∧ a.status = .running) ∨ (mt = 10 ∧ a.status = .blocked ∧ a.offers = none) := by
  letI := K.I
  cases h with
  | a1 h => exact .inl ⟨by omega, h.running (fun _ _ x => x.1) w (RPa.refl w)⟩
  | a2 h => exact .inl ⟨by omega, h.running K.hAr w (RPa.refl w)⟩
  | a3 h => exact .inl ⟨by omega, h.running (fun _ _ x => x.1) w (RPa.refl w)⟩
  | a4 h => exact .inl ⟨by omega, h.running (fun _ _ x => x.1) w (RPa.refl w)⟩
  | a5 h => exact .inl ⟨by omega, h.running (fun _ _ x => x.1) w (RPb.refl w)⟩
  | blk h => exact .inr ⟨rfl, rfl, (h w (RPb.refl w)).2.1⟩
  | a6 h => exact .inl ⟨by omega, h.running (fun _ _ x => x.1) w (atRel_refl w)⟩
  | a7 h => exact .inl ⟨by omega, h.running (fun _ _ x => x.1) w (atRel_refl w)⟩
  | a8 h => exact .inl ⟨by omega, h.running (fun _ _ x => x.1) w (atRel_refl w)⟩

/-- Another's step may let goroutine 0 try again. -/
theorem MJ.other (h : MJ K mt md mn a w) (g g' : Goroutine) : ∃ mt' mn', MJ K mt' md mn' (woken P g g' w a) w ∧ ((mt' = mt) ∨ (mt = 10 ∧ mt' = 5)) ∧ (mt = 10 → mayWake P g = true → (g'.status = .running ∨ g'.status = .finished) → mt' = 5) := by
  letI := K.I
  rcases h.status with ⟨hne, hr⟩ | ⟨rfl, _⟩
  · exact ⟨mt, mn, by rw [woken_of_again (again_of_running (.inl hr) w)]; exact h, .inl rfl, fun e => absurd e hne⟩
  · cases h with
    | @blk a _ h =>
      have hr := (h w (RPb.refl w)).1
      have ho := (h w (RPb.refl w)).2.1
      by_cases hw : (mayWake P g && g'.status != .blocked && g'.status != .waiting) = true
      · refine ⟨5, 0, ?_, .inr ⟨rfl, rfl⟩, fun _ _ _ => rfl⟩
        have e : woken P g g' w { a with status := .blocked } = a := by
          unfold woken
          rw [if_pos hw]
          unfold Goroutine.again
          simp only [ho]
          obtain ⟨fr, cs, st, dy, of⟩ := a
          cases hr
          cases ho
          rfl
        rw [e]
        exact .a5 h
      · refine ⟨10, 0, ?_, .inl rfl, fun _ h1 h2 => ?_⟩
        · have e : woken P g g' w { a with status := .blocked } = { a with status := .blocked } := by unfold woken; rw [if_neg hw]
          rw [e]; exact .blk h
        · exfalso
          apply hw
          rw [h1]
          rcases h2 with h2 | h2 <;> rw [h2] <;> rfl

theorem ww_wake (h : WW K 10 ct w) : WW K 5 ct w := by
  rcases h with ⟨x, _⟩ | ⟨_, x, y⟩ | ⟨_, x, y⟩ | ⟨_, x, y⟩ | ⟨x, _⟩ | ⟨x, _⟩ <;> first | omega | skip
  · exact .inr (.inl ⟨.inl rfl, x, y⟩)
  · exact .inr (.inr (.inl ⟨.inl rfl, x, y⟩))
  · exact .inr (.inr (.inr (.inl ⟨.inl rfl, x, y⟩)))

def JInv (K : Jn P) (μ : Mu) (m : Machine) (T : Trace) : Prop :=
  ∃ gs w sl q a b mt md mn ct cd cn rel, m = crowd gs w sl ∧ gs[0]? = some a ∧ gs[K.j]? = some b ∧ MJ K mt md mn a w ∧ WJ K ct cd cn b w ∧ JB K gs w T q md cd rel ∧ WW K mt ct w ∧ rel.isSome = decide (2 ≤ ct) ∧ ct ≤ 7 ∧
    μ = (7 - ct, cn, sumTo gs.size q, rk ct mt, mn)

/-- The end: goroutine 0 has said 'acquire'; all others only leave. -/
def JEnd (K : Jn P) (m : Machine) (T : Trace) : Prop :=
  ∃ gs w sl q a n, m = crowd gs w sl ∧ gs[0]? = some a ∧ Goes P true AtRel (DPj (fun _ => True) K.Wg K.C K.Low) (AtRetJ P K.Wg K.C (fun _ => True) fun _ _ => True) n a w ∧ Leavers P T gs q ∧ Past K.S K.Low T

theorem JB.leave (h : JB K gs w T q md cd rel) {i : Nat} (h1 : 0 < i) (h2 : i ≠ K.j) {g : Goroutine} (hg : gs[i]? = some g) (hr : g.status = .running) (sl' : Option (Nat × Nat)) :
    ∃ g' es q', runT P (crowd gs w sl') i = (.next (crowd (moved P gs i g g' w) w sl'), MemOp.ofEvents i g.frame.fn g.frame.place es) ∧ sumTo gs.size q' < sumTo gs.size q ∧ JB K (moved P gs i g g' w) w (T ++ MemOp.ofEvents i g.frame.fn g.frame.place es) q' md cd rel := by
  have hq := h.crew i g h1 h2 hg
  have hi0 : (i == 0) = false := by simp; omega
  have hlt : i < gs.size := (Array.getElem?_eq_some_iff.1 hg).1
  cases hqi : q i with
  | zero => rw [hqi] at hq; rw [hq.1] at hr; cases hr
  | succ k =>
    rw [hqi] at hq
    rcases hq with ⟨hf, _⟩ | ⟨_, g', es, hm, hstp, hq'⟩
    · rw [hf] at hr; cases hr
    have hrunT := runT_crowd_go (P := P) (sl := sl') (i := i) hg (by rw [hi0]; exact hstp w)
    have hsum : sumTo gs.size (upd q i k) + (k + 1) = sumTo gs.size q + k := by
      have := sumTo_upd q k id hlt
      simpa [hqi] using this
    have hdo : ∀ k, k ≠ i → Deaf (T ++ MemOp.ofEvents i g.frame.fn g.frame.place es) k = Deaf T k := fun k e => Deaf_other T (fun x => e x.symm) _ ops_g
    refine ⟨g', es, upd q i k, hrunT, by omega, by rw [moved_size]; exact h.jlt, fun c x c1 c2 hx => ?_, fun c hc => ?_, by rw [hdo 0 (by omega)]; exact h.e0, by rw [hdo _ (fun e => h2 e.symm)]; exact h.ej, ?_, h.full, h.full'⟩
    · by_cases e : c = i
      · subst e
        rw [moved_self hlt] at hx
        obtain rfl := Option.some.inj hx
        rw [upd_same, Deaf_own]; exact hq'
      · obtain ⟨z, hz, rfl⟩ := moved_old e hx
        have hqc := h.crew c z c1 c2 hz
        rw [woken_quitsD hqc, upd_ne q k e, hdo c e]; exact hqc
    · rw [moved_size] at hc
      rw [hdo c (by omega)]; exact h.above c hc
    · refine h.past.appMute ?_ ?_ ?_ <;> (intro op hop; obtain ⟨e, he, rfl⟩ := Conc.mem_ofEvents hop)
      · exact touch_mute (hm e he)
      · exact low_mute (hm e he) _
      · intro e'
        have := hm e he
        obtain ⟨loc, wr, sy⟩ := e
        cases loc <;> simp_all [Event.mute, MemAct.ofEvent]

theorem JB.nobody (h : JB K gs w T q md cd rel) (ha : gs[0]? = some a) (hm : MJ K mt md mn a w) {c : Nat} {s : Bool} : partners (gs.setIfInBounds K.j ph) c s = [] := by
  refine partners_nil fun i z hz => ?_
  rcases getElem?_stand gs K.j i z hz with ⟨_, rfl⟩ | ⟨h1, h2⟩
  · exact offersAt_ph c s
  · by_cases e : i = 0
    · subst e
      rw [ha] at h2
      rw [← Option.some.inj h2]
      rcases hm.status with ⟨_, x⟩ | ⟨_, x, y⟩
      · exact offersAt_of_not_blocked (by rw [x]; simp) c s
      · simp [offersAt, x, y]
    · refine offersAt_of_not_blocked (fun hbl => ?_) c s
      have := (h.crew i z (by omega) h1 h2).status
      rcases this with y | y <;> rw [hbl] at y <;> cases y

theorem join_step (μ : Mu) (m : Machine) (T : Trace) (h : JInv K μ m T) : ∃ m' ops, stepT P m = (.next m', ops) ∧ (JEnd K m' (T ++ ops) ∨ ∃ μ', ltMu μ' μ ∧ JInv K μ' m' (T ++ ops)) := by
  obtain ⟨gs, w₀, sl, q, a, b, mt, md, mn, ct, cd, cn, rel, rfl, ha, hb, hM0, hC0, hB0, hW0, hrel, h7, rfl⟩ := h
  have kca : ∀ {w : World}, WW K mt ct w → KCa K.ty K.Wg w ∨ 4 ≤ ct := by
    intro w hW
    rcases hW with ⟨_, _, x⟩ | ⟨_, _, x⟩ | ⟨_, x, _⟩ | ⟨_, x, _⟩ | ⟨_, x, _⟩ | ⟨_, x, _⟩
    · exact .inl (.inl x)
    · exact .inl (.inr x)
    all_goals exact .inr (by omega)
  have hcs0 := hC0.status (kca hW0)
  have hms0 := hM0.status
  have hj := K.hj
  have haw : ∀ z ∈ gs, awake z := by
    intro z hz
    obtain ⟨i, hi, rfl⟩ := Array.mem_iff_getElem.1 hz
    by_cases e : i = 0
    · subst e
      have : gs[0] = a := by simpa [Array.getElem?_eq_getElem hi] using ha
      rw [this]; exact awake_of (hms0.elim (fun x => .inl x.2) (fun x => .inr (.inl x.2.1)))
    · by_cases e' : i = K.j
      · have : gs[i] = b := by subst e'; simpa [Array.getElem?_eq_getElem hi] using hb
        rw [this]; exact awake_of (hcs0.elim .inl (fun x => .inr (.inr x.1)))
      · exact awake_of ((hB0.crew i _ (by omega) e' (Array.getElem?_eq_getElem hi)).status.elim .inl fun x => .inr (.inr x))
  have hrun : ∃ (i : Nat) (g : Goroutine), gs[i]? = some g ∧ g.status = .running := by
    rcases hms0 with ⟨_, x⟩ | ⟨rfl, _⟩
    · exact ⟨0, a, ha, x⟩
    · rcases hcs0 with x | ⟨_, rfl⟩
      · exact ⟨_, b, hb, x⟩
      · rcases hW0 with ⟨x, _⟩ | ⟨_, x, _⟩ | ⟨_, x, _⟩ | ⟨_, x, _⟩ | ⟨x, _⟩ | ⟨x, _⟩ <;> omega
  obtain ⟨i, z, d, sl', hi, hz, hst⟩ := crowd_pick (P := P) (w := w₀) (sl := sl) haw hrun
  have hM : MJ K mt md mn a (w₀.at d) := hM0.rely (suf_at w₀ d)
  have hC : WJ K ct cd cn b (w₀.at d) := hC0.low (fun _ _ => rfl)
  have hB := hB0.at d
  have hW : WW K mt ct (w₀.at d) := ww_at hW0 rfl
  generalize w₀.at d = w at *
  clear hM0 hC0 hB0 hW0
  have h0lt : 0 < gs.size := (Array.getElem?_eq_some_iff.1 ha).1
  by_cases e0 : i = 0
  · -- goroutine 0
    subst e0
    obtain rfl : z = a := by rw [ha] at hi; exact (Option.some.inj hi).symm
    have hne : mt ≠ 10 := by rcases hms0 with ⟨x, _⟩ | ⟨_, x, _⟩; exact x; rw [hz] at x; cases x
    rcases hM.step hne hC hW hB.full with ⟨a', w', es, hgo, hev, hlow, hC', mt', mn', hM', hW', hlt⟩ | ⟨rfl, rfl, a', hgo, n, hg⟩
    · have hrunT := runT_crowd_go (P := P) (sl := sl') (i := 0) hi (show stepG P (0 == 0) z w = _ from hgo)
      have hcs := hC.status (kca hW)
      refine ⟨_, _, hst.trans hrunT, .inr ⟨(7 - ct, cn, sumTo gs.size q, rk ct mt', mn'), ?_, _, w', sl', q, a', b, mt', _, mn', ct, cd, cn, rel, rfl, moved_self h0lt _ _, moved_other (by omega) hb (again_of_running (hcs.elim .inl fun x => .inr x.1) _) _ _, hM', hC', hB.main hev rfl hlow, hW', hrel, h7, by rw [moved_size]⟩⟩
      refine .right _ (.right _ (.right _ ?_))
      rcases hlt with hlt | ⟨he, hlt⟩
      · exact .left _ _ hlt
      · rw [he]; exact .right _ hlt
    · -- it says 'acquire'
      have hrunT := runT_crowd_go (P := P) (sl := sl') (i := 0) hi (show stepG P (0 == 0) z w = _ from hgo)
      obtain ⟨r, rfl⟩ : ∃ r, rel = some r := by cases rel <;> simp_all
      cases hC with
      | c7 hq =>
        have hdo : ∀ i, i ≠ 0 → Deaf (T ++ MemOp.ofEvents 0 z.frame.fn z.frame.place #[mk (.acquire (stA K.Wg))]) i = Deaf T i := fun i hi => Deaf_other T (fun x => hi x.symm) _ ops_g
        have eops : MemOp.ofEvents 0 z.frame.fn z.frame.place #[mk (.acquire (stA K.Wg))] = #[{ g := 0, fn := z.frame.fn, pos := z.frame.place, act := .mark (.acquire (stA K.Wg)) }] := by simp [ofEvents_eq, MemAct.ofEvent, mk]
        refine ⟨_, _, hst.trans hrunT, .inl ⟨_, w, sl', upd q K.j cn, a', n, rfl, moved_self h0lt _ _, hg, ⟨fun i x h1 hx => ?_, fun i hi => ?_⟩, ?_⟩⟩
        · obtain ⟨y, hy, rfl⟩ := moved_old (by omega) hx
          rw [hdo i (by omega)]
          by_cases e : i = K.j
          · subst e
            rw [hb] at hy
            obtain rfl := Option.some.inj hy
            rw [woken_quitsD hq, upd_same, hB.ej]; exact hq
          · have hqq := hB.crew i y h1 e hy
            rw [woken_quitsD hqq, upd_ne q cn e]; exact hqq
        · rw [moved_size] at hi
          rw [hdo i (by omega)]; exact hB.above i hi
        · rw [eops]
          refine PastK.toPast (hB.past.acquire hB.e0 (by omega) K.hW rfl rfl) ?_
          rw [← eops, Deaf_own, hB.e0]; rfl
  · by_cases ej : i = K.j
    · -- the worker
      obtain rfl : z = b := by rw [ej, hb] at hi; exact (Option.some.inj hi).symm
      have hi0 : (i == 0) = false := by simp; omega
      rcases hC.step hz hW hB hrel with ⟨b', w', es, hgo, hlow, hsuf, ct', cn', rel', hC', hp', hrel', hW', hwk, hlt, h7'⟩ | ⟨rfl, rfl, hZ, g₂, hhome, hcomm⟩
      · have hrunT := runT_crowd_go (P := P) (sl := sl') (i := i) (by rw [ej]; exact hb) (by rw [hi0]; exact hgo)
        have hM' := hM.rely hsuf
        obtain ⟨mt', mn', hM2, hmt, hmw⟩ := hM'.other z b'
        have hWf : WW K mt' ct' w' := by
          rcases hmt with rfl | ⟨rfl, rfl⟩
          · by_cases e : ct' = 7 ∧ mt' = 10
            · exfalso
              obtain ⟨rfl, rfl⟩ := e
              have hs := hC'.status (.inr (by omega))
              have := hmw rfl (hwk rfl rfl) (hs.imp id (·.1))
              omega
            · rw [if_neg e] at hW'; exact hW'
          · by_cases e : ct' = 7 ∧ 10 = 10
            · rw [if_pos e] at hW'; exact hW'
            · rw [if_neg e] at hW'; exact ww_wake hW'
        have hmov : (moved P gs i z b' w')[0]? = some (woken P z b' w' a) := by
          rw [Array.getElem?_setIfInBounds_ne (by omega), Array.getElem?_map, ha]; rfl
        subst ej
        refine ⟨_, _, hst.trans hrunT, .inr ⟨(7 - ct', cn', sumTo gs.size q, rk ct' mt', mn'), ?_, _, w', sl', q, _, b', mt', md, mn', ct', _, cn', rel', rfl, hmov, moved_self hB.jlt _ _, hM2, hC', hB.work rfl hlow (hp' _ _), hWf, hrel', h7', by rw [moved_size]⟩⟩
        rcases hlt with hlt | ⟨rfl, hlt⟩
        · exact .left _ _ (by omega)
        · exact .right _ (.left _ _ hlt)
      · -- it finds the channel closed
        obtain ⟨⟨kc, hkc⟩, hoth⟩ := K.hZs w hZ
        have hno : ∀ (m : Nat) (c' : CommCase), m ≠ K.kk → K.s.cases[m]? = some c' → NoWays w (gs.setIfInBounds K.j ph) c' := by
          intro m c' hm hc'
          obtain ⟨h1, c, h2, h3⟩ := hoth m c' hm hc'
          exact noWays_of h2 h3 (hB.nobody ha hM)
        have hcm := crowd_sel_recv_closed (P := P) (sl := sl') hb (by rw [show (K.j == 0) = false from by simp; omega]; exact hcomm) K.hk hno hkc (hB.nobody ha hM)
        rw [ej] at hst
        have hkw : KCa K.ty K.Wg w := (kca hW).resolve_right (by omega)
        obtain ⟨⟨n1, g1⟩, n2, g2⟩ := K.serve g₂ w hhome hkw hB.full hB.full'
        have hrn : rel = none := by cases rel <;> simp_all
        subst hrn
        have eo : MemOp.ofEvents K.j z.frame.fn z.frame.place #[] = #[] := ofEvents_nil
        rw [eo] at hcm
        have hops : ∀ op ∈ (#[] ++ #[{ g := K.j, fn := g₂.frame.fn, pos := g₂.frame.place, act := .recvClosed K.c3 }] : Trace), op = { g := K.j, fn := g₂.frame.fn, pos := g₂.frame.place, act := .recvClosed K.c3 } := by intro op hop; simpa using hop
        have hd : ∀ i, Deaf (T ++ (#[] ++ #[{ g := K.j, fn := g₂.frame.fn, pos := g₂.frame.place, act := .recvClosed K.c3 }])) i = Deaf T i := fun i => Deaf_quiet (fun op hop d => by rw [hops op hop]; rfl)
        refine ⟨_, _, hst.trans hcm, .inr ⟨(7 - 1, n1, sumTo gs.size q, rk 1 mt, mn), .left _ _ (by omega), _, w, sl', q, a, _, mt, md, mn, 1, 0, n1, none, rfl, by rw [Array.getElem?_setIfInBounds_ne (by omega)]; exact ha, Array.getElem?_setIfInBounds_self_of_lt hB.jlt, hM, .c1 g1 g2, ?_, ?_, rfl, by omega, by simp⟩⟩
        · refine ⟨by simpa using hB.jlt, fun i x h1 h2 hx => ?_, fun i hi => ?_, by rw [hd]; exact hB.e0, by rw [hd]; exact hB.ej, ?_, hB.full, hB.full'⟩
          · rw [Array.getElem?_setIfInBounds_ne (fun e => h2 e.symm)] at hx
            rw [hd]; exact hB.crew i x h1 h2 hx
          · rw [hd]; exact hB.above i (by simpa using hi)
          · refine hB.past.appMute ?_ ?_ ?_ <;> (intro op hop; rw [hops op hop])
            · rfl
            · exact K.hc3
            · simp
        · rcases hW with ⟨x, _, y⟩ | ⟨x, _, y⟩ | ⟨_, x, _⟩ | ⟨_, x, _⟩ | ⟨_, x, _⟩ | ⟨_, x, _⟩ <;> first | omega | skip
          · exact .inl ⟨x, by omega, y⟩
          · exact .inr (.inl ⟨x, by omega, y⟩)
    · -- a leaver
      obtain ⟨g', es, q', hrunT, hlt, hB'⟩ := hB.leave (by omega) ej hi hz sl'
      obtain ⟨mt', mn', hM2, hmt, _⟩ := hM.other z g'
      have hcs := hC.status (kca hW)
      have hmov : (moved P gs i z g' w)[0]? = some (woken P z g' w a) := by
        rw [Array.getElem?_setIfInBounds_ne (by omega), Array.getElem?_map, ha]; rfl
      refine ⟨_, _, hst.trans hrunT, .inr ⟨(7 - ct, cn, sumTo gs.size q', rk ct mt', mn'), .right _ (.right _ (.left _ _ hlt)), _, w, sl', q', _, b, mt', md, mn', ct, cd, cn, rel, rfl, hmov, moved_other (fun e => ej e.symm) hb (again_of_running (hcs.elim .inl fun x => .inr x.1) _) _ _, hM2, hC, hB', ?_, hrel, h7, by rw [moved_size]⟩⟩
      rcases hmt with rfl | ⟨rfl, rfl⟩
      · exact hW
      · exact ww_wake hW

/-- ████ The join. ████ -/
theorem join_runs {μ : Mu} {m : Machine} {T : Trace} (h : JInv K μ m T) : ∃ N m' T', runNT P N m T = (.next m', T') ∧ JEnd K m' T' := by
  induction μ using ltMu_wf.induction generalizing m T with
  | _ μ ih =>
    obtain ⟨m', ops, hs, he | ⟨μ', hlt, hI⟩⟩ := join_step μ m T h
    · exact ⟨1, m', T ++ ops, by simp only [runNT, hs], he⟩
    · obtain ⟨N, m'', T'', hr, hd⟩ := ih μ' hlt hI
      exact ⟨N + 1, m'', T'', by simp only [runNT, hs]; exact hr, hd⟩
end
end Go.Qw
-- Goroutine 0 closes the channel at which the worker waits.
namespace Go.Qw
open Go Go.Conc
open Go.ConcN (sumTo upd sumTo_upd upd_ne upd_same)

section
variable {P : Program}

/-- The parts of such a machine. -/
structure Duo.Parts (D : Duo P) (h x : Nat) (s : Seat) (g : Goroutine) (σ : Hp) (gs : Array Goroutine) (w : World) (T : Trace) (q : Nat → Nat) (J : Nat → Prop) (n : Nat) (y : Goroutine) : Prop where
  hg : gs[h]? = some g
  hy : gs[x]? = some y
  heads : Heads P (x == 0) D.KW D.Still D.B s n y
  base : D.Base gs w T q
  past : PastK D.S D.Still D.Q D.j x w.heap.size (Knows T h) T
  sees : Sees J w σ
  hid : ∀ b, D.Hid b → J b

/-- The machine comes to where the holder is picked. -/
theorem Duo.Parts.picked {D : Duo P} {h x : Nat} (t : D.Two h x) {s : Seat} (hs : D.Fits s) {g : Goroutine} (hr : g.status = .running) {σ : Hp} {J : Nat → Prop} : ∀ (M : Nat) {gs : Array Goroutine} {w : World} {T : Trace} {q : Nat → Nat} {n : Nat} {y : Goroutine} (sl : Option (Nat × Nat)),
    n + sumTo gs.size q = M → D.Parts h x s g σ gs w T q J n y → ∃ N gs' w' sl' T' q' n' y' dd sl'', runNT P N (crowd gs w sl) T = (.next (crowd gs' w' sl'), T') ∧ D.Parts h x s g σ gs' w' T' q' J n' y' ∧ stepT P (crowd gs' w' sl') = runT P (crowd gs' (w'.at dd) sl'') h := by
  intro M
  induction M using Nat.strongRecOn with
  | _ M ih =>
    intro gs w T q n y sl hM hp
    obtain ⟨hg, hy, hsit, hb, hpast, hse, hJ⟩ := hp
    have hys := Heads.status hsit
    obtain ⟨i, z, d, sl', hi, hz, hst⟩ := crowd_pick (P := P) (w := w) (sl := sl) (hb.awake t hg hy (.inl hr) (hys.elim (fun a => .inl a.1) (fun a => .inr (.inl a.1)))) ⟨h, g, hg, hr⟩
    by_cases eh : i = h
    · subst eh
      exact ⟨0, gs, w, sl, T, q, n, y, d, sl', rfl, ⟨hg, hy, hsit, hb, hpast, hse, hJ⟩, hst⟩
    · by_cases ex : i = x
      · subst ex
        obtain rfl : z = y := by rw [hy] at hi; exact (Option.some.inj hi).symm
        obtain ⟨gs', y', n', d', es, hrunT, hlt, hsz, hg', hy', hsit', hb', hes⟩ := D.other t hs (sl := sl') (hb.at d) hg (fun d => again_of_running (.inl hr) _) (fun c b => offersAt_of_not_blocked (by rw [hr]; simp) c b) hy hz hsit
        obtain ⟨N, gs2, w2, sl2, T2, q2, n2, y2, dd, sl3, k1, k2, k3⟩ := ih (n' + sumTo gs'.size q) (by rw [hsz]; omega) sl' rfl ⟨hg', hy', hsit', hb', hpast.other (fun _ x => x.app _) (fun l hl => (D.apart l hl).2) hb.bnd hes, hse.at d', hJ⟩
        exact ⟨N + 1, gs2, w2, sl2, T2, q2, n2, y2, dd, sl3, by simp only [runNT, hst, hrunT]; exact k1, k2, k3⟩
      · obtain ⟨i1, i2⟩ := t.else_ eh ex
        obtain ⟨g', es, q', hrunT, hm, hlt, hb'⟩ := hb.leave i1 i2 hi hz d sl'
        obtain ⟨N, gs2, w2, sl2, T2, q2, n2, y2, dd, sl3, k1, k2, k3⟩ := ih (n + sumTo (moved P gs i z g' (w.at d)).size q') (by rw [moved_size]; omega) sl' rfl
          ⟨moved_other (fun e => eh e.symm) hg (again_of_running (.inl hr) _) _ _, moved_other (fun e => ex e.symm) hy (Heads.stays (hb.at d).chans hs hsit) _ _, hsit, hb',
            hpast.appMute (fun _ x => x.app _) (fun op hop => by obtain ⟨e, he, rfl⟩ := Conc.mem_ofEvents hop; exact touch_mute (hm e he)) (fun op hop => by obtain ⟨e, he, rfl⟩ := Conc.mem_ofEvents hop; exact low_mute (hm e he) _), hse.at d, hJ⟩
        exact ⟨N + 1, gs2, w2, sl2, T2, q2, n2, y2, dd, sl3, by simp only [runNT, hst, hrunT]; exact k1, k2, k3⟩

/-- Behind the close. -/
structure Duo.Closed (D : Duo P) (c3 : Nat) (s : Seat) (g : Goroutine) (σ : Hp) (gs : Array Goroutine) (w : World) (T : Trace) (q : Nat → Nat) (J : Nat → Prop) (n : Nat) (y : Goroutine) : Prop where
  hg : gs[0]? = some g
  hy : gs[D.j]? = some y
  pos : 0 < n
  heads : Heads P false D.KW D.Still D.B s n y
  jlt : D.j < gs.size
  crew : ∀ i g, 0 < i → i ≠ D.j → gs[i]? = some g → QuitsD P (q i) (Deaf T i) g
  above : ∀ i, gs.size ≤ i → Deaf T i = 0
  d0 : Deaf T 0 = 0
  dj : Deaf T D.j = 0
  k : D.K w
  shut : ∃ k, w.heap[c3]? = some (.chan 0 #[] true k k false)
  open_ : ∀ c, D.chans c → c ≠ c3 → Open c w
  firm : Firm D.W w
  nr : NoRel D.Q T
  past : PastK D.S D.Still D.Q D.j D.j w.heap.size (Knows T 0) T
  sees : Sees J w σ
  hid : ∀ b, D.Hid b → J b
  bnd : D.B ≤ w.heap.size

theorem Duo.shut (D : Duo P) {s : Seat} (hs : D.Fits s) (hrv : ∀ cc ∈ s.cases, cc.send = none) {c3 kk : Nat} {z : Value} (hc : D.chans c3) (hk : s.cases[kk]? = some (rcase c3 z)) {g g' : Goroutine} {σ : Hp} {m : Machine} {T : Trace} (hSt : D.St 0 D.j s g σ m T)
    (hr : g.status = .running) (hmw : mayWake P g = true) (hr' : g'.status = .running) (hKs : ∀ w k, D.K w → D.K (w.setChan c3 0 #[] true k k false))
    (hcl : ∀ w k, w.heap[c3]? = some (.chan 0 #[] false k k false) → stepG P true g w = .go g' (w.setChan c3 0 #[] true k k false) (closeEvents c3)) :
    ∃ N gs w sl T' q J n y, runNT P N m T = (.next (crowd gs w sl), T') ∧ D.Closed c3 s g' σ gs w T' q J n y := by
  have t : D.Two 0 D.j := .inl ⟨rfl, rfl⟩
  have hj := D.hj
  obtain ⟨gs, w, sl, q, J, n, y, rfl, e1, e2, e3, e4, e5, e6, e7⟩ := hSt
  obtain ⟨N, gs, w, sl, T', q, n, y, dd, sl', hrun, ⟨hg, hy, hsit, hb, hp, hse, hJ⟩, hst⟩ := Duo.Parts.picked t hs hr _ sl rfl ⟨e1, e2, e3, e4, e5, e6, e7⟩
  obtain ⟨k, hkc⟩ := (hb.at dd).chans c3 hc
  have hgo := hcl (w.at dd) k hkc
  have hrunT := runT_crowd_go (P := P) (sl := sl') (i := 0) hg (show stepG P (0 == 0) g (w.at dd) = _ from hgo)
  have hcalm : ∀ e ∈ closeEvents c3, Calm e := by
    intro e he
    simp [closeEvents] at he
    rcases he with rfl | rfl <;> exact ⟨⟨by simp, by simp⟩, by simp⟩
  have hcB : c3 < w.heap.size := (Array.getElem?_eq_some_iff.1 (show w.heap[c3]? = _ from hkc)).1
  have hself : ((w.at dd).setChan c3 0 #[] true k k false).heap[c3]? = some (.chan 0 #[] true k k false) := heap_setChan_self _ hkc _ _ _ _ _ _
  have hwoken : ∃ n' y', 0 < n' ∧ woken P g g' ((w.at dd).setChan c3 0 #[] true k k false) y = y' ∧ Heads P false D.KW D.Still D.B s n' y' := by
    have hj0 : (D.j == 0) = false := by simp; omega
    rw [hj0] at hsit
    rcases hsit with ⟨k', rfl, hw⟩ | ⟨rfl, g₀, g₂, rfl, hat⟩
    · exact ⟨_, y, by omega, woken_of_again (again_of_running (.inl hw.running) _), .inl ⟨k', rfl, hw⟩⟩
    · refine ⟨1, { parked g₂ s.cases s.shape with status := .running }, by omega, ?_, .inl ⟨0, rfl, g₂, hat.tries _ _⟩⟩
      unfold woken
      rw [if_pos (by rw [hmw, hr']; rfl)]
      exact again_some_closed hk hself
  obtain ⟨n', y', hn', hy', hh'⟩ := hwoken
  have hdo : ∀ i, Deaf (T' ++ MemOp.ofEvents 0 g.frame.fn g.frame.place (closeEvents c3)) i = Deaf T' i := by
    intro i
    by_cases e : i = 0
    · subst e; rw [Deaf_own]; exact deafBehind_still (fun e h => (hcalm e h).1) _
    · exact Deaf_other T' (fun x => e x.symm) _ (fun op hop => by obtain ⟨e, _, rfl⟩ := Conc.mem_ofEvents hop; rfl)
  refine ⟨N + 1, moved P gs 0 g g' ((w.at dd).setChan c3 0 #[] true k k false), (w.at dd).setChan c3 0 #[] true k k false, sl', T' ++ MemOp.ofEvents 0 g.frame.fn g.frame.place (closeEvents c3), q, J, n', y', ?_, moved_self (hb.lt (.inl rfl)) _ _, ?_, hn', hh',
    by rw [moved_size]; exact hb.jlt, fun i x h1 h2 hx => ?_, fun i hi => ?_, (hdo 0).trans hb.d0, (hdo _).trans hb.dj, hKs _ _ (hb.at dd).k, ⟨k, hself⟩, fun c hcc hne => ?_, (hb.firm.at dd).setChan _ _ _ _ _ _ _, hb.nr.events fun e he => norel_event (hcalm e he).2, ?_, (hse.at dd).setChan (hJ c3 (.inr (.inl hc))) _ _ _ _ _ _, hJ, by have := (hb.at dd).bnd; simpa [World.setChan] using this⟩
  · rw [runNT_add, hrun]; simp only [runNT, hst, hrunT]
  · rw [Array.getElem?_setIfInBounds_ne (by omega), Array.getElem?_map, hy]
    simp only [Option.map_some]; rw [hy']
  · obtain ⟨v, hv, rfl⟩ := moved_old (by omega) hx
    have hq := hb.crew i v h1 h2 hv
    rw [woken_quitsD hq, hdo]; exact hq
  · rw [moved_size] at hi; rw [hdo]; exact hb.above i hi
  · obtain ⟨k0, h0⟩ := hb.chans c hcc
    exact ⟨k0, by rw [heap_setChan_ne _ _ _ _ _ _ _ (fun e => hne e.symm)]; exact h0⟩
  · have hsz : ((w.at dd).setChan c3 0 #[] true k k false).heap.size = w.heap.size := by simp only [World.setChan, Array.size_setIfInBounds]; rfl
    rw [hsz]
    refine hp.appH (fun op hop => by obtain ⟨e, _, rfl⟩ := Conc.mem_ofEvents hop; rfl) (fun op hop b hbb => ?_) (fun op hop => ?_)
    · obtain ⟨e, he, rfl⟩ := Conc.mem_ofEvents hop
      have hloc : ∀ a : Addr, b.loc ≠ .cell a := by
        intro a ha
        simp [closeEvents] at he
        rcases he with rfl | rfl <;> simp [MemAct.ofEvent, MemAct.touch?] at hbb
        subst hbb; cases ha
      have none : ¬ (D.S b.loc ∨ D.Still b.loc ∨ D.Q b.loc) := fun x => by obtain ⟨a, ha⟩ := D.cell _ x; exact hloc a ha
      exact ⟨fun x => absurd (.inl x) none, fun x => absurd (.inr (.inl x)) none, fun x => absurd (.inr (.inr x)) none⟩
    · obtain ⟨e, he, rfl⟩ := Conc.mem_ofEvents hop
      simp [closeEvents] at he
      rcases he with rfl | rfl <;> exact hcB
end
end Go.Qw
-- Model programs that only read: the world stands, and what they list are plain reads.
namespace Go.Qw
open Go Go.Conc

def RO (P : Program) (A : Addr → Prop) {α : Type} : Sem α → Prop
  | .pure _ => True
  | .load m a k => m = .plain ∧ A a ∧ ∀ v, RO P A (k v)
  | .shape _ k => ∀ x, RO P A (k x)
  | .frozen _ k => ∀ x, RO P A (k x)
  | .program k => RO P A (k P)
  | .halt _ => True
  | _ => False

section
variable {P : Program} {A : Addr → Prop} {α β : Type}
theorem RO_bind (f : α → Sem β) (hf : ∀ a, RO P A (f a)) : ∀ (s : Sem α), RO P A s → RO P A (s.bind f) := by
  intro s
  induction s with
  | pure a => exact fun _ => hf a
  | load m a k ih => exact fun h => ⟨h.1, h.2.1, fun v => ih v (h.2.2 v)⟩
  | shape r k ih => exact fun h x => ih x (h x)
  | frozen a k ih => exact fun h x => ih x (h x)
  | program k ih => exact fun h => ih P h
  | halt h => exact fun _ => trivial
  | store | new | freeze | getObj | setObj | choose | sys | mark => exact fun h => h.elim
theorem RO_bind' {s : Sem α} {f : α → Sem β} (h : RO P A s) (hf : ∀ a, RO P A (f a)) : RO P A (s >>= f) := RO_bind f hf s h
theorem RO_pure (a : α) : RO P A (pure a : Sem α) := trivial
theorem RO_ite {c : Prop} [Decidable c] {s t : Sem α} (h : RO P A s) (k : RO P A t) : RO P A (if c then s else t) := by split; exact h; exact k
end

theorem ro_run {P : Program} {A : Addr → Prop} {α : Type} {Q : α → Hp → Prop} {H : Halt → Hp → Prop} {σ : Hp} : ∀ (s : Sem α), RO P A s → wpS P s Q H σ → ∀ (w : World) (es : Array Event), (∀ b o, σ.f b = some o → w.heap[b]? = some o) →
    ∃ es' r, s.runT P w es = (r, es ++ es') ∧ (∀ e ∈ es', ∃ a : Addr, e = ⟨.cell a, false, false⟩ ∧ A a ∧ (σ.f a.block).isSome = true) ∧ ((∃ a, r = .ok a w ∧ Q a σ) ∨ (∃ h, r = .halt h w ∧ H h σ)) := by
  intro s
  induction s with
  | pure a => exact fun _ h w es hs => ⟨#[], .ok a w, by simp [Sem.runT], by simp, .inl ⟨a, rfl, h⟩⟩
  | load m a k ih =>
    rintro ⟨rfl, hA, hr⟩ ⟨v, hv, h⟩ w es hs
    have hS : Sees (fun _ => False) w σ := ⟨fun {b o} hb => hs b o hb, fun _ x => x.elim, fun _ x => x.elim⟩
    have hw := hS.cell hv
    obtain ⟨c, e, z, hb, _, _⟩ := cell_some hv
    obtain ⟨es', r, h1, h2, h3⟩ := ih v (hr v) h w (es.push ⟨.cell a, false, false⟩) hs
    refine ⟨#[⟨.cell a, false, false⟩] ++ es', r, ?_, fun x hx => ?_, h3⟩
    · unfold Sem.runT
      simp only [hw]
      rw [show (Mode.plain == Mode.atomic) = false from rfl, h1, push_eq_append, Array.append_assoc]
    · rcases Array.mem_append.1 hx with hx | hx
      · simp at hx; subst hx; exact ⟨a, rfl, hA, by rw [hb]; rfl⟩
      · exact h2 x hx
  | shape r k ih =>
    rintro hr ⟨hv, h⟩ w es hs
    have hS : Sees (fun _ => False) w σ := ⟨fun {b o} hb => hs b o hb, fun _ x => x.elim, fun _ x => x.elim⟩
    obtain ⟨o, ho⟩ := Option.isSome_iff_exists.1 hv
    unfold Sem.runT
    rw [hS.shp ho]
    exact ih _ (hr _) h w es hs
  | frozen a k ih =>
    rintro hr ⟨hv, h⟩ w es hs
    have hS : Sees (fun _ => False) w σ := ⟨fun {b o} hb => hs b o hb, fun _ x => x.elim, fun _ x => x.elim⟩
    obtain ⟨o, ho⟩ := Option.isSome_iff_exists.1 hv
    unfold Sem.runT
    rw [hS.frz ho]
    exact ih _ (hr _) h w es hs
  | program k ih => exact fun hr h w es hs => ih _ hr h w es hs
  | halt h => exact fun _ x w es hs => ⟨#[], .halt h w, by simp [Sem.runT], by simp, .inr ⟨h, rfl, x⟩⟩
  | store | new | freeze | getObj | setObj | choose | sys | mark => exact fun h => h.elim

/-! ### operations that only read -/
section
variable {P : Program} {A : Addr → Prop}
theorem ro_load {a : Addr} (h : A a) : RO P A (load a) := ⟨rfl, h, fun _ => trivial⟩
theorem ro_loadVar {t : TypeId} (ht : aggT P t = false) {a : Addr} (h : A a) : RO P A (loadVar t a) := by
  unfold loadVar isAgg
  show RO P A (Sem.bind (Sem.bind (match P.underlying t with | some d => pure d | none => stuck "no such type") fun d => match d with | .struct _ | .array _ _ => pure true | _ => pure false) _)
  unfold aggT at ht
  split
  · rename_i d hd
    rw [hd] at ht
    cases d <;> first | (simp at ht; done) | exact ro_load h
  · trivial
def silB (P : Program) (op : Op) (ρ : Rho) : Prop :=
  match op with
  | .move _ | .assign _ => True
  | .load t x => (∃ a, evR ρ x = .pointer (some a)) ∧ aggT P t = false
  | .nilCheck x => (∃ a, evR ρ x = .pointer (some a)) ∨ ∃ f l c, evR ρ x = .func (.func f) l c
  | .fieldAddr s x f => (∃ a, evR ρ x = .pointer (some a)) ∧ (fieldOff P s f).isSome = true
  | .extract _ _ => True
  | .binOp op _ x y _ => ∃ v, binV op (evR ρ x) (evR ρ y) = some v
  | _ => False

theorem ro_binV {op : BinOp} {t : TypeId} {x y v : Value} (h : binV op x y = some v) : RO P A (binOp op t x y) := by
  unfold binV at h
  split at h <;> first
    | (simp [binOp, Op.stringOp, RO, Op.intArith, Op.intCmp, Op.intBits]; done)
    | (split at h
       · rename_i hc
         first
         | (subst hc; simp [binOp, Op.intArith, Op.intCmp, Op.intBits]; exact RO_pure _)
         | (obtain ⟨rfl, hb⟩ := hc; simp [binOp, Op.intDiv, hb]; exact RO_pure _)
         | (simp [binOp, Op.shift, Int.not_lt.2 hc]; exact RO_pure _)
         | (have hc' : ¬ (IntKind.i64.max < ((_ : Nat) : Int)) := Int.not_lt.2 hc
            simp only [binOp, Op.stringOp, gt_iff_lt, if_neg hc']; exact RO_pure _)
       · cases h)
    | (simp [binOp, Op.stringOp]; exact RO_pure _)
    | cases h

theorem ro_eqGuard {op : BinOp} {t : TypeId} {x y : Operand} {a b : Value} (h : (∀ c, a ≠ .agg c) ∧ (a = .nilIface → b = .nilIface → (Region.isConst x || Region.isConst y) = true)) : RO P A (eqGuard op t x y a b) := by
  unfold eqGuard
  refine RO_ite trivial ?_
  obtain ⟨h1, h2⟩ := h
  cases a <;> cases b <;> first
    | exact trivial
    | exact absurd rfl (h1 _)
    | (have h3 := h2 rfl rfl
       rw [if_pos]
       · exact trivial
       · cases x <;> cases y <;> first | rfl | (simp [Region.isConst] at h3))

theorem ro_underlying_bind {α : Type} {t : TypeId} {d : TypeDesc} {f : TypeDesc → Sem α} (h : P.underlying t = some d) (k : RO P A (f d)) : RO P A (underlying t >>= f) := by
  show RO P A (Sem.bind (match P.underlying t with | some d => pure d | none => stuck "no such type") f)
  rw [h]; exact k
theorem ro_sizeOf_bind {α : Type} {t : TypeId} {i : TypeInfo} {f : Nat → Sem α} (h : P.info? t = some i) (k : RO P A (f i.size)) : RO P A (sizeOf t >>= f) := by
  show RO P A (Sem.bind (Sem.bind (match P.info? t with | some i => pure i | none => stuck "no such type") fun i => pure i.size) f)
  rw [h]; exact k
/-- Where it reads. -/
def rdA (op : Op) (ρ : Rho) (y : Addr) : Prop := match op with
  | .load _ x => evR ρ x = .pointer (some y)
  | _ => False
theorem ro_exec {P : Program} {o : Oper} {ρ : Rho} (h : silB P o.op ρ) : RO P (rdA o.op ρ) (execOp (evR ρ) o) := by
  unfold execOp
  cases ho : o.op <;> rw [ho] at h <;> first | exact h.elim | skip
  case move x => trivial
  case assign x => trivial
  case load t x =>
    obtain ⟨⟨a, ha⟩, ht⟩ := h
    refine RO_bind' ?_ fun _ => trivial
    unfold Instr.loadAt
    rw [ha]
    exact ro_loadVar ht ha
  case fieldAddr s x f =>
    obtain ⟨⟨a, ha⟩, hf⟩ := h
    refine RO_bind' ?_ fun _ => trivial
    unfold Instr.fieldAt
    unfold fieldOff at hf
    split at hf
    · rename_i fs hu
      split at hf
      · rename_i fd hfd
        split at hf
        · rename_i hs
          simp only [Bool.and_eq_true, bne_iff_ne, ne_eq] at hs
          obtain ⟨i, hi⟩ := Option.isSome_iff_exists.1 hs.1
          have hz : i.size ≠ 0 := by simpa [sizeT, hi] using hs.2
          rw [ha]
          refine ro_underlying_bind hu ?_
          simp only [hfd]
          refine RO_bind' trivial fun _ => ?_
          refine RO_bind' ?_ fun _ => trivial
          unfold fieldPlace
          refine ro_sizeOf_bind hi ?_
          rw [if_neg hz]; trivial
        · cases hf
      · cases hf
    · cases hf
  case nilCheck x =>
    rcases h with ⟨a, ha⟩ | ⟨f, l, c, ha⟩ <;> simp only [ha] <;> trivial
  case extract x i =>
    refine RO_bind' ?_ fun _ => trivial
    unfold Instr.extract
    split
    · split <;> trivial
    · trivial
  case binOp op t x y t2 =>
    obtain ⟨v, hv⟩ := h
    refine RO_bind' ?_ fun _ => trivial
    have hn := binV_nagg hv
    exact RO_bind' (ro_eqGuard ⟨hn.1, fun e => absurd e hn.2⟩) fun _ => ro_binV hv

/-- It yields values alone. -/
def OnlyV : Sem Next → Prop
  | .pure n => ∃ v, n = .value v
  | .load _ _ k => ∀ v, OnlyV (k v)
  | .store _ _ _ k => OnlyV k
  | .new _ k => ∀ b, OnlyV (k b)
  | .shape _ k => ∀ x, OnlyV (k x)
  | .freeze _ _ k => OnlyV k
  | .frozen _ k => ∀ x, OnlyV (k x)
  | .getObj _ k => ∀ x, OnlyV (k x)
  | .setObj _ _ k => OnlyV k
  | .choose _ k => ∀ x, OnlyV (k x)
  | .sys _ k => ∀ x, OnlyV (k x)
  | .program k => ∀ x, OnlyV (k x)
  | .mark _ k => OnlyV k
  | .halt _ => True

theorem OnlyV_bind (s : Sem Value) : OnlyV (s.bind fun v => .pure (.value v)) := by
  induction s <;> first | exact ⟨_, rfl⟩ | trivial | (rename_i ih; exact fun x => ih x) | (rename_i ih; exact ih)

theorem onlyV_wp {V : Value → Hp → Prop} {D : Deferred → Hp → Prop} {C : FuncId → Array Value → Hp → Prop} {H : Halt → Hp → Prop} : ∀ (s : Sem Next) (σ : Hp), OnlyV s → wpS P s (After V D C) H σ → wpS P s (fun n σ => ∃ v, n = .value v ∧ V v σ) H σ := by
  intro s
  induction s with
  | pure a => rintro σ ⟨v, rfl⟩ h; exact ⟨v, rfl, h⟩
  | load m a k ih => exact fun σ o ⟨v, hv, h⟩ => ⟨v, hv, ih v σ (o v) h⟩
  | store m a v k ih =>
    intro σ o h
    cases v <;> first | exact h.elim | exact ⟨h.1, h.2.1, ih _ o h.2.2⟩
  | new x k ih => exact fun σ o h b hb => ih _ _ (o b) (h b hb)
  | shape r k ih => exact fun σ o h => ⟨h.1, ih _ _ (o _) h.2⟩
  | freeze a n k ih => exact fun σ o h => ⟨h.1, ih _ o h.2⟩
  | frozen a k ih => exact fun σ o h => ⟨h.1, ih _ _ (o _) h.2⟩
  | getObj r k ih => exact fun σ o ⟨x, ho, hc, h⟩ => ⟨x, ho, hc, ih _ _ (o x) h⟩
  | setObj r x k ih => exact fun σ o ⟨x', ho, hc, h⟩ => ⟨x', ho, hc, ih _ o h⟩
  | choose q k ih =>
    intro σ o h
    unfold wpS at h ⊢
    split
    · rename_i hf; rw [if_pos hf] at h; exact ih _ _ (o _) h
    · rename_i hf; rw [if_neg hf] at h; exact fun t => ih _ _ (o _) (h t)
  | sys c k ih => exact fun σ o h => h.elim
  | program k ih => exact fun σ o h => ih _ _ (o _) h
  | mark m k ih => exact fun σ o h => ⟨h.1, ih _ o h.2⟩
  | halt h => exact fun σ _ x => x

/-- The kinds of which that is known. -/
def valB : Op → Bool
  | .move _ | .assign _ | .load .. | .fieldAddr .. | .extract .. | .binOp .. => true
  | _ => false
theorem onlyV_exec {o : Oper} {ρ : Rho} (h : valB o.op = true ∨ (∃ x, o.op = .nilCheck x ∧ ((∃ a, evR ρ x = .pointer (some a)) ∨ ∃ f l c, evR ρ x = .func (.func f) l c))) : OnlyV (execOp (evR ρ) o) := by
  unfold execOp
  rcases h with h | ⟨x, hx, ha⟩
  · cases ho : o.op <;> rw [ho] at h <;> first | exact ⟨_, rfl⟩ | exact OnlyV_bind _ | (simp [valB] at h; done)
  · rw [hx]
    rcases ha with ⟨a, ha⟩ | ⟨f, l, c, ha⟩ <;> simp only [ha] <;> exact ⟨_, rfl⟩

/-- Kinds of which a value read says that they are silent. -/
def kindB : Op → Bool
  | .move _ | .assign _ | .load .. | .fieldAddr .. | .extract .. | .nilCheck _ => true
  | _ => false
def loadB (P : Program) : Op → Bool
  | .load t _ => !aggT P t
  | _ => true
theorem silB_of {op : Op} {ρ : Rho} {σ : Hp} {v : Value} (hk : kindB op = true) (hl : loadB P op = true) (h : readV P op ρ σ = some v) : silB P op ρ := by
  cases op <;> first | (simp [kindB] at hk; done) | exact trivial | skip
  case load t x =>
    simp only [readV] at h
    split at h
    · rename_i a ha; exact ⟨⟨a, ha⟩, by simpa [loadB] using hl⟩
    · cases h
  case nilCheck x =>
    simp only [readV] at h
    split at h
    · rename_i a ha; exact .inl ⟨a, ha⟩
    · rename_i f l c ha; exact .inr ⟨f, l, c, ha⟩
    · cases h
  case fieldAddr s x f =>
    simp only [readV] at h
    split at h
    · rename_i a off ha hf; exact ⟨⟨a, ha⟩, by rw [hf]; rfl⟩
    · cases h

theorem sil_run {o : Oper} {ρ : Rho} {σ : Hp} {v : Value} (hs : silB P o.op ρ) (hv : readV P o.op ρ σ = some v) (w : World) (hw : ∀ b o, σ.f b = some o → w.heap[b]? = some o) :
    ∃ es, (execOp (evR ρ) o).runT P w #[] = (.ok (.value v) w, es) ∧ ∀ e ∈ es, ∃ a : Addr, e = ⟨.cell a, false, false⟩ ∧ rdA o.op ρ a ∧ (σ.f a.block).isSome = true := by
  have hV : OnlyV (execOp (evR ρ) o) := by
    refine onlyV_exec ?_
    cases ho : o.op <;> rw [ho] at hs <;> first | exact hs.elim | exact .inl rfl | skip
    exact .inr ⟨_, rfl, hs⟩
  let E0 : Env P := { main := true, st := fun _ _ _ _ => False, weak := fun h _ => h, own := fun _ _ _ _ _ h => h.elim }
  have h1 : opQ E0 { o with dst := some 0 } ρ [] σ (fun ρ' ds' σ' => ρ' 0 = v ∧ σ' = σ) (fun _ _ => False) := readV_opQ (o := { o with dst := some 0 }) hv ⟨by simp [putR, up], rfl⟩
  have h2 := opQ_sound h1
  unfold wpOp at h2
  have h3 := onlyV_wp _ σ (by exact hV) h2
  obtain ⟨es', r, e1, e2, e3⟩ := ro_run _ (ro_exec hs) h3 w #[] hw
  refine ⟨es', ?_, e2⟩
  rcases e3 with ⟨nx, rfl, v', rfl, hn⟩ | ⟨h, rfl, hh⟩
  · obtain ⟨h4, _⟩ : (putR ρ (some 0) v') 0 = v ∧ σ = σ := hn
    simp [putR, up] at h4
    subst h4; simpa using e1
  · cases h <;> exact hh.elim
end
end Go.Qw
