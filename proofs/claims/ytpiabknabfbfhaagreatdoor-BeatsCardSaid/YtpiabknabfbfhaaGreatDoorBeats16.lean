/- The law Beats of queuewire returns true for every three integers: the row over the given program, tied to its text; no condition besides. (Part 16 of 40: QwJoin2 QwJoin3.) -/
import Derived.Test.YtpiabknabfbfhaaGreatDoorBeats15
set_option linter.all false
-- Goroutine 0 waits for the worker's end: the steps of either.
namespace Go.Qw
open Go Go.Conc
open Go.ConcX
open Go.ConcN (sumTo upd sumTo_upd upd_ne upd_same)

section
variable {P : Program} {K : Jn P}
attribute [local instance] Jn.Y

/-- What the group holds, at which stages. -/
def WW (K : Jn P) (mt ct : Nat) (w : World) : Prop :=
  (mt ≤ 4 ∧ ct ≤ 3 ∧ WgAt K.ty K.Wg w KK 0) ∨ ((mt = 5 ∨ mt = 10) ∧ ct ≤ 3 ∧ WgAt K.ty K.Wg w (KK + 1) 0) ∨ ((mt = 5 ∨ mt = 10) ∧ (ct = 4 ∨ ct = 5) ∧ WgAt K.ty K.Wg w 1 0) ∨
    ((mt = 5 ∨ mt = 10) ∧ ct = 6 ∧ WgAt K.ty K.Wg w 0 0) ∨ (mt = 5 ∧ ct = 7 ∧ WgAt K.ty K.Wg w 0 1) ∨ ((mt ≤ 4 ∨ (6 ≤ mt ∧ mt ≤ 8)) ∧ ct = 7 ∧ WgAt K.ty K.Wg w 0 0)

/-- How far goroutine 0 is from its end. -/
def rk (ct mt : Nat) : Nat :=
  if ct = 7 then (if mt = 5 then 20 else if mt = 4 then 9 else if mt = 3 then 7 else if mt = 2 then 8 else if mt = 1 then 10 else if mt = 6 then 6 else if mt = 7 then 5 else 4)
  else 20 - mt

variable {w w' : World} {mt md mn ct cd cn : Nat} {a b : Goroutine}

theorem trans_a : ∀ x y z, RCa K.ty K.Wg K.Low x y → RCa K.ty K.Wg K.Low y z → RCa K.ty K.Wg K.Low x z := fun _ _ _ h h' => h.trans h'
theorem trans_d : ∀ x y z, RCd K.Low x y → RCd K.Low y z → RCd K.Low x z := fun _ _ _ h h' => h.trans h'

theorem WJ.low (h : WJ K ct cd cn b w) (hl : ∀ x, x < K.Low → w'.heap[x]? = w.heap[x]?) : WJ K ct cd cn b w' := by
  have ha : RCa K.ty K.Wg K.Low w w' := RCd.toA K.hW hl
  cases h with
  | c0 h1 h2 h3 => exact .c0 h1 h2 (K.hZ w w' (fun x hx _ => hl x hx) h3)
  | c1 h1 h2 => exact .c1 (Goes.rely trans_a h1 ha) (Goes.rely trans_a h2 ha)
  | c2 h1 => exact .c2 (Goes.rely trans_a h1 ha)
  | c3 h1 => exact .c3 (Goes.rely trans_a h1 ha)
  | c4 h1 => exact .c4 (Goes.rely trans_d h1 hl)
  | c5 h1 => exact .c5 (Goes.rely trans_d h1 hl)
  | c6 h1 => exact .c6 (Goes.rely trans_d h1 hl)
  | c7 h1 => exact .c7 h1

theorem WJ.ka (h : WJ K ct cd cn b w) (hl : ∀ x, x < K.Low → x ≠ K.Wg → w'.heap[x]? = w.heap[x]?) (hk : KCa K.ty K.Wg w → KCa K.ty K.Wg w') (hc : ct ≤ 3 ∨ ct = 7) : WJ K ct cd cn b w' := by
  have ha : RCa K.ty K.Wg K.Low w w' := ⟨hl, hk⟩
  cases h with
  | c0 h1 h2 h3 => exact .c0 h1 h2 (K.hZ w w' hl h3)
  | c1 h1 h2 => exact .c1 (Goes.rely trans_a h1 ha) (Goes.rely trans_a h2 ha)
  | c2 h1 => exact .c2 (Goes.rely trans_a h1 ha)
  | c3 h1 => exact .c3 (Goes.rely trans_a h1 ha)
  | c4 h1 => omega
  | c5 h1 => omega
  | c6 h1 => omega
  | c7 h1 => exact .c7 h1

theorem WJ.status (h : WJ K ct cd cn b w) (h1 : KCa K.ty K.Wg w ∨ 4 ≤ ct) : b.status = .running ∨ (b.status = .finished ∧ ct = 7) := by
  cases h with
  | c0 h1 h2 h3 => exact .inl ((Heads.status h2).elim (·.1) (fun z => by omega))
  | c1 h1 h2 => exact .inl (h1.running (fun _ _ x => x.1) w (RCa.refl w))
  | c2 h1 => exact .inl (h1.running (fun _ _ x => x.1) w (RCa.refl w))
  | c3 h1 => exact .inl (h1.running (fun _ _ x => x.1) w (RCa.refl w))
  | c4 h1 => exact .inl (h1.running (fun _ _ x => x.1) w (RCd.refl w))
  | c5 h1 => exact .inl (h1.running (fun _ _ x => x.1) w (RCd.refl w))
  | c6 h1 => exact .inl (h1.running (fun _ _ x => x.1) w (RCd.refl w))
  | c7 h1 => exact h1.status.imp id (fun x => ⟨x, rfl⟩)

theorem setCell_low (w : World) (o : Nat) (v : Value) : ∀ x, x < K.Low → x ≠ K.Wg → (w.setCell ⟨K.Wg, o, none⟩ v).heap[x]? = w.heap[x]? := by
  intro x _ hx
  simp only [World.setCell, Array.getElem?_modify]
  rw [if_neg (fun e => hx e.symm)]

theorem full_low {I : Payload} {C : Nat} {vals : List Value} (h : @Full I C vals w) (e : w'.heap[C]? = w.heap[C]?) : @Full I C vals w' := fun hc => e.trans (h hc)

/-- What a step of goroutine 0's comes to. -/
def MOut (K : Jn P) (mt md mn ct cd cn : Nat) (b : Goroutine) (w : World) (a' : Goroutine) (w' : World) (es : Array Event) : Prop :=
  (∀ e ∈ es, K.Ev0 e) ∧ (∀ x, x < K.Low → x ≠ K.Wg → w'.heap[x]? = w.heap[x]?) ∧ WJ K ct cd cn b w' ∧ ∃ mt' mn', MJ K mt' (deafBehind md es) mn' a' w' ∧ WW K mt' ct w' ∧ (rk ct mt' < rk ct mt ∨ (rk ct mt' = rk ct mt ∧ mn' < mn))

theorem ev0_mark {m : Mark} (h1 : (MemAct.mark m).low K.Low) (h2 : ∀ x, (MemAct.mark m).touch? ≠ some x) (h3 : m ≠ .release (stA K.Wg)) : K.Ev0 (mk m) := by
  refine ⟨fun b hb => absurd hb (h2 b), h1, fun e => ?_⟩
  injection e with e; exact h3 e
theorem ev0_cell (a : Addr) (ha : a.block = K.Wg) (x : Bool) : K.Ev0 ⟨.cell a, x, true⟩ := by
  refine ⟨fun b hb => ?_, ?_, ?_⟩
  · cases x <;> simp [MemAct.ofEvent, MemAct.touch?] at hb <;> subst hb <;> exact ⟨fun _ => by simp, fun _ => by simp⟩
  · cases x <;> (show a.block < K.Low; rw [ha]; exact K.hW)
  · cases x <;> simp [MemAct.ofEvent]
theorem ev0_sem : ∀ e ∈ semEvents (smA K.Wg), K.Ev0 e := by
  intro e he
  simp [semEvents] at he
  rcases he with rfl | rfl | rfl | rfl
  · exact ev0_mark (m := .disable) trivial (by simp [MemAct.touch?]) (by simp)
  · exact ev0_cell _ rfl _
  · exact ev0_cell _ rfl _
  · exact ev0_mark (m := .enable) trivial (by simp [MemAct.touch?]) (by simp)

/-- An inner step. -/
theorem inner {R : World → World → Prop} {Stop : Goroutine → World → Prop} (hc : WJ K ct cd cn b w) (hw : WW K mt ct w) (mk : ∀ {n a w}, Goes P true R K.Di Stop n a w → MJ K mt md n a w) {n : Nat} {a' : Goroutine} {es : Array Event} (hD : K.Di w w' es) (hg : Goes P true R K.Di Stop n a' w') (hn : n < mn) :
    MOut K mt md mn ct cd cn b w a' w' es := by
  obtain ⟨hl, he⟩ := hD
  refine ⟨fun e h => ev0_of (he e h), fun x hx _ => hl x hx, hc.low hl, mt, n, ?_, ?_, .inr ⟨rfl, hn⟩⟩
  · rw [deafBehind_still (fun e h => ⟨(he e h).2.1, (he e h).2.2.1⟩)]; exact mk hg
  · have e := hl K.Wg K.hW
    simp only [WW, WgAt, e]
    exact hw

theorem MJ.step3 (hc : WJ K ct cd cn b w) (hw : WW K mt ct w) (hf : @Full K.I K.C K.vals w) (hmt : mt = 3 ∨ mt = 2) (hmd : md = 1) {n : Nat} (hn : n ≤ mn ∨ mt = 2) (h : Goes P true K.Ra K.Di (@AtW1 K.I P K.ty K.Wg K.C K.Low K.Y K.vals (fun _ => True) K.Anch fun _ _ => True) n a w) :
    ∃ a' w' es, stepG P true a w = .go a' w' es ∧ MOut K mt md mn ct cd cn b w a' w' es := by
  letI := K.I
  subst hmd
  rcases Goes.cases h with hstop | ⟨n', rfl, hstep⟩
  · obtain ⟨_, a', hgo, h1, h2⟩ := hstop w (RPa.refl w)
    refine ⟨a', w, _, hgo, fun e he => ?_, fun _ _ _ => rfl, hc, ?_⟩
    · simp at he; subst he; exact ev0_cell _ rfl _
    · rcases hw with ⟨_, hct, hw⟩ | ⟨x, _⟩ | ⟨x, _⟩ | ⟨x, _⟩ | ⟨x, _⟩ | ⟨_, hct, hw⟩
      · obtain ⟨m, hm⟩ := h1 hw
        exact ⟨4, m, .a4 hm, .inl ⟨by omega, hct, hw⟩, .inl (by unfold rk; rw [if_neg (by omega), if_neg (by omega)]; omega)⟩
      · omega
      · omega
      · omega
      · omega
      · obtain ⟨m, hm⟩ := h2 ⟨hw, hf⟩
        subst hct
        exact ⟨7, m, .a7 hm, .inr (.inr (.inr (.inr (.inr ⟨.inr ⟨by omega, by omega⟩, rfl, hw⟩)))), .inl (by rcases hmt with rfl | rfl <;> decide)⟩
  · obtain ⟨a', w', es, hgo, hD, hg'⟩ := hstep w (RPa.refl w)
    refine ⟨a', w', es, hgo, ?_⟩
    rcases hmt with rfl | rfl
    · exact inner hc hw .a3 hD hg' (by omega)
    · have hw3 : WW K 3 ct w := by
        rcases hw with ⟨_, hct, hw⟩ | ⟨x, _⟩ | ⟨x, _⟩ | ⟨x, _⟩ | ⟨x, _⟩ | ⟨_, hct, hw⟩
        · exact .inl ⟨by omega, hct, hw⟩
        · omega
        · omega
        · omega
        · omega
        · exact .inr (.inr (.inr (.inr (.inr ⟨.inl (by omega), hct, hw⟩))))
      obtain ⟨o1, o2, o3, mt', mn', o4, o5, o6⟩ := inner (mn := n' + 1) (md := 1) hc hw3 .a3 hD hg' (by omega)
      refine ⟨o1, o2, o3, mt', mn', o4, o5, .inl ?_⟩
      have : rk ct 3 < rk ct 2 := by unfold rk; split <;> simp
      omega

theorem MJ.step (h : MJ K mt md mn a w) (hm : mt ≠ 10) (hc : WJ K ct cd cn b w) (hw : WW K mt ct w) (hf : @Full K.I K.C K.vals w) :
    (∃ a' w' es, stepG P true a w = .go a' w' es ∧ MOut K mt md mn ct cd cn b w a' w' es) ∨
      (ct = 7 ∧ md = 0 ∧ ∃ a', stepG P true a w = .go a' w #[mk (.acquire (stA K.Wg))] ∧ ∃ m, Goes P true AtRel (DPj (fun _ => True) K.Wg K.C K.Low) (AtRetJ P K.Wg K.C (fun _ => True) fun _ _ => True) m a' w) := by
  letI := K.I
  cases h with
  | blk _ => exact absurd rfl hm
  | a1 h =>
    left
    rcases Goes.cases h with hstop | ⟨n', rfl, hstep⟩
    · obtain ⟨_, a', hgo, m, hg⟩ := hstop w (RPa.refl w)
      refine ⟨a', w, _, hgo, fun e he => ?_, fun _ _ _ => rfl, hc, 2, m, .a2 hg, ?_, .inl (by unfold rk; split <;> simp)⟩
      · simp at he; subst he; exact ev0_mark (m := .disable) trivial (by simp [MemAct.touch?]) (by simp)
      · rcases hw with ⟨_, hct, hw⟩ | ⟨x, _⟩ | ⟨x, _⟩ | ⟨x, _⟩ | ⟨x, _⟩ | ⟨_, hct, hw⟩
        · exact .inl ⟨by omega, hct, hw⟩
        · omega
        · omega
        · omega
        · omega
        · exact .inr (.inr (.inr (.inr (.inr ⟨.inl (by omega), hct, hw⟩))))
    · obtain ⟨a', w', es, hgo, hD, hg'⟩ := hstep w (RPa.refl w)
      exact ⟨a', w', es, hgo, inner hc hw .a1 hD hg' (by omega)⟩
  | a2 h =>
    left
    rcases Goes.cases h with hstop | ⟨n', rfl, hstep⟩
    · obtain ⟨m, hm'⟩ := K.hAn a w (hstop w (RPa.refl w))
      exact MJ.step3 hc hw hf (.inr rfl) rfl (.inr rfl) hm'
    · obtain ⟨a', w', es, hgo, hD, hg'⟩ := hstep w (RPa.refl w)
      exact ⟨a', w', es, hgo, inner hc hw .a2 hD hg' (by omega)⟩
  | a3 h => exact .inl (MJ.step3 hc hw hf (.inl rfl) rfl (.inl (Nat.le_refl _)) h)
  | a4 h =>
    left
    rcases Goes.cases h with hstop | ⟨n', rfl, hstep⟩
    · obtain ⟨_, h1, h2⟩ := hstop w (RPa.refl w)
      rcases hw with ⟨_, hct, hw⟩ | ⟨x, _⟩ | ⟨x, _⟩ | ⟨x, _⟩ | ⟨x, _⟩ | ⟨_, hct, hw⟩
      · obtain ⟨a', hgo, m, hg⟩ := h1 hw
        refine ⟨a', _, _, hgo, fun e he => ?_, setCell_low w 0 _, hc.ka (setCell_low w 0 _) (fun _ => .inr (hw.setSt _)) (.inl hct), 5, m, .a5 hg, .inr (.inl ⟨.inl rfl, hct, hw.setSt _⟩), .inl (by unfold rk; rw [if_neg (by omega), if_neg (by omega)]; omega)⟩
        simp at he
        rcases he with rfl | rfl <;> exact ev0_cell _ rfl _
      · omega
      · omega
      · omega
      · omega
      · obtain ⟨a', hgo, m, hg⟩ := h2 ⟨hw, hf⟩
        refine ⟨a', w, _, hgo, fun e he => ?_, fun _ _ _ => rfl, hc, 2, m, .a2 hg, .inr (.inr (.inr (.inr (.inr ⟨.inl (by omega), hct, hw⟩)))), .inl (by subst hct; decide)⟩
        simp at he; subst he; exact ev0_cell _ rfl _
    · obtain ⟨a', w', es, hgo, hD, hg'⟩ := hstep w (RPa.refl w)
      exact ⟨a', w', es, hgo, inner hc hw .a4 hD hg' (by omega)⟩
  | a5 h =>
    left
    rcases Goes.cases h with hstop | ⟨n', rfl, hstep⟩
    · obtain ⟨_, _, h1, h2⟩ := hstop w (RPb.refl w)
      have blk : (∃ st, WgAt K.ty K.Wg w st 0) → WW K 10 ct w → ct ≠ 7 → ∃ a' w' es, stepG P true a w = .go a' w' es ∧ MOut K 5 1 mn ct cd cn b w a' w' es := fun hst hw' h7 =>
        ⟨_, w, _, h1 hst, fun e he => by simp at he, fun _ _ _ => rfl, hc, 10, 0, .blk hstop, hw', .inl (by unfold rk; rw [if_neg h7, if_neg h7]; omega)⟩
      rcases hw with ⟨x, _⟩ | ⟨_, hct, hw⟩ | ⟨_, hct, hw⟩ | ⟨_, hct, hw⟩ | ⟨_, hct, hw⟩ | ⟨x, _⟩
      · omega
      · exact blk ⟨_, hw⟩ (.inr (.inl ⟨.inr rfl, hct, hw⟩)) (by omega)
      · exact blk ⟨_, hw⟩ (.inr (.inr (.inl ⟨.inr rfl, hct, hw⟩))) (by omega)
      · exact blk ⟨_, hw⟩ (.inr (.inr (.inr (.inl ⟨.inr rfl, hct, hw⟩)))) (by omega)
      · obtain ⟨a', hgo, m, hg⟩ := h2 ⟨hw, hf⟩
        refine ⟨a', _, _, hgo, ev0_sem, setCell_low w 1 _, hc.ka (setCell_low w 1 _) ?_ (.inr hct), 6, m, .a6 hg, .inr (.inr (.inr (.inr (.inr ⟨.inr ⟨by omega, by omega⟩, hct, hw.setSm _⟩)))), .inl (by subst hct; decide)⟩
        rintro (x | x)
        · have := (x.unique hw).1; exact absurd this (by decide)
        · have := (x.unique hw).1; exact absurd this (by decide)
      · omega
    · obtain ⟨a', w', es, hgo, hD, hg'⟩ := hstep w (RPb.refl w)
      exact ⟨a', w', es, hgo, inner hc hw .a5 hD hg' (by omega)⟩
  | a6 h =>
    left
    rcases Goes.cases h with hstop | ⟨n', rfl, hstep⟩
    · obtain ⟨_, a', hgo, m, hg⟩ := hstop w (atRel_refl w)
      rcases hw with ⟨x, _⟩ | ⟨x, _⟩ | ⟨x, _⟩ | ⟨x, _⟩ | ⟨x, _⟩ | ⟨_, hct, hw⟩ <;> first | omega | skip
      refine ⟨a', w, _, hgo, fun e he => ?_, fun _ _ _ => rfl, hc, 7, m, .a7 hg, .inr (.inr (.inr (.inr (.inr ⟨.inr ⟨by omega, by omega⟩, hct, hw⟩)))), .inl (by subst hct; decide)⟩
      simp at he; subst he; exact ev0_cell _ rfl _
    · obtain ⟨a', w', es, hgo, hD, hg'⟩ := hstep w (atRel_refl w)
      exact ⟨a', w', es, hgo, inner hc hw .a6 hD hg' (by omega)⟩
  | a7 h =>
    left
    rcases Goes.cases h with hstop | ⟨n', rfl, hstep⟩
    · obtain ⟨_, a', hgo, m, hg⟩ := hstop w (atRel_refl w)
      rcases hw with ⟨x, _⟩ | ⟨x, _⟩ | ⟨x, _⟩ | ⟨x, _⟩ | ⟨x, _⟩ | ⟨_, hct, hw⟩ <;> first | omega | skip
      refine ⟨a', w, _, hgo, fun e he => ?_, fun _ _ _ => rfl, hc, 8, m, .a8 hg, .inr (.inr (.inr (.inr (.inr ⟨.inr ⟨by omega, by omega⟩, hct, hw⟩)))), .inl (by subst hct; decide)⟩
      simp at he; subst he; exact ev0_mark (m := .enable) trivial (by simp [MemAct.touch?]) (by simp)
    · obtain ⟨a', w', es, hgo, hD, hg'⟩ := hstep w (atRel_refl w)
      exact ⟨a', w', es, hgo, inner hc hw .a7 hD hg' (by omega)⟩
  | a8 h =>
    rcases Goes.cases h with hstop | ⟨n', rfl, hstep⟩
    · obtain ⟨_, a', hgo, m, hg⟩ := hstop w (atRel_refl w)
      rcases hw with ⟨x, _⟩ | ⟨x, _⟩ | ⟨x, _⟩ | ⟨x, _⟩ | ⟨x, _⟩ | ⟨_, hct, hw⟩ <;> first | omega | skip
      exact .inr ⟨hct, rfl, a', hgo, m, hg⟩
    · obtain ⟨a', w', es, hgo, hD, hg'⟩ := hstep w (atRel_refl w)
      exact .inl ⟨a', w', es, hgo, inner hc hw .a8 hD hg' (by omega)⟩
end
end Go.Qw
-- Goroutine 0 waits for the worker's end: the worker's steps.
namespace Go.Qw
open Go Go.Conc
open Go.ConcX
open Go.ConcN (sumTo upd sumTo_upd upd_ne upd_same)

section
variable {P : Program} {K : Jn P}
attribute [local instance] Jn.Y

/-- What goroutine 0 suffers of a step of the worker's. -/
def Suf (K : Jn P) (mt : Nat) (w w' : World) : Prop := (mt ≤ 4 → K.Ra w w') ∧ (mt = 5 ∨ mt = 10 → K.Rb w w') ∧ (6 ≤ mt → mt ≤ 8 → AtRel w w')

/-- What a step of the worker's comes to. -/
def WOut (K : Jn P) (mt ct cd cn : Nat) (rel : Option Nat) (T : Trace) (b : Goroutine) (w : World) (b' : Goroutine) (w' : World) (es : Array Event) : Prop :=
  (∀ x, x < K.Low → x ≠ K.Wg → w'.heap[x]? = w.heap[x]?) ∧ Suf K mt w w' ∧ ∃ ct' cn' rel', WJ K ct' (deafBehind cd es) cn' b' w' ∧ (∀ fn pos, PastJ K.S K.Wg K.j K.Low rel' (T ++ MemOp.ofEvents K.j fn pos es)) ∧ (rel'.isSome = decide (2 ≤ ct')) ∧
    WW K (if ct' = 7 ∧ mt = 10 then 5 else mt) ct' w' ∧ (mt = 10 → ct' = 7 → mayWake P b = true) ∧ (ct < ct' ∨ (ct' = ct ∧ cn' < cn)) ∧ ct' ≤ 7

variable {w w' : World} {mt md mn ct cd cn : Nat} {a b : Goroutine} {gs : Array Goroutine} {T : Trace} {q : Nat → Nat} {rel : Option Nat}

theorem suf_same (h1 : w'.tape = w.tape) (h2 : w'.os = w.os) (h3 : w'.output = w.output) (h4 : w'.heap.size = w.heap.size) (h5 : ∀ k : Nat, w'.heap[k]? = w.heap[k]?) (h6 : 6 ≤ mt → mt ≤ 8 → AtRel w w') : Suf K mt w w' := by
  letI := K.I
  have ha : Aside2 K.C K.Wg w w' := ⟨h1, h2, h3, h4, fun k _ _ => h5 k⟩
  have hg : ∀ {x y : Int}, WgAt K.ty K.Wg w x y → WgAt K.ty K.Wg w' x y := fun h => h.of_block (h5 _)
  have hf : Full K.C K.vals w → Full K.C K.vals w' := fun h => full_low h (h5 _)
  refine ⟨fun _ => ⟨ha, fun h => h.imp hg (fun x => ⟨hg x.1, hf x.2⟩), fun h => ⟨hg h.1, hf h.2⟩⟩, fun _ => ⟨ha, fun h => ?_, fun h => ⟨hg h.1, hf h.2⟩⟩, h6⟩
  rcases h with h | h | h | h
  · exact .inl (hg h)
  · exact .inr (.inl (hg h))
  · exact .inr (.inr (.inl (hg h)))
  · exact .inr (.inr (.inr ⟨hg h.1, hf h.2⟩))
theorem suf_refl (w : World) : Suf K mt w w := suf_same rfl rfl rfl rfl (fun _ => rfl) (fun _ _ => atRel_refl w)

theorem suf_at (w : World) (d : Nat) : Suf K mt w (w.at d) := suf_same rfl rfl rfl rfl (fun _ => rfl) (fun _ _ => ⟨d, rfl⟩)

theorem aside2_setCell (w : World) (o : Nat) (v : Value) : Aside2 K.C K.Wg w (w.setCell ⟨K.Wg, o, none⟩ v) :=
  ⟨rfl, rfl, rfl, by simp [World.setCell], fun k _ hk => by
    simp only [World.setCell, Array.getElem?_modify]
    rw [if_neg (fun e => hk e.symm)]⟩

theorem ofEvents_nil {g : Nat} {fn : FuncId} {pos : String} : MemOp.ofEvents g fn pos #[] = #[] := by simp [ofEvents_eq]
theorem ww_at (h : WW K mt ct w) (e : w'.heap[K.Wg]? = w.heap[K.Wg]?) : WW K mt ct w' := by
  simp only [WW, WgAt, e]; exact h
theorem ww_if (h : WW K mt ct w) : WW K (if ct = 7 ∧ mt = 10 then 5 else mt) ct w := by
  split
  · rename_i e
    obtain ⟨rfl, rfl⟩ := e
    rcases h with ⟨x, _⟩ | ⟨_, x, _⟩ | ⟨_, x, _⟩ | ⟨_, x, _⟩ | ⟨x, _⟩ | ⟨x, _⟩ <;> omega
  · exact h
/-- A step that lists nothing and leaves the world. -/
theorem quietOut {n' : Nat} {b' : Goroutine} (hB : JB K gs w T q md cd rel) (hw : WW K mt ct w) (hr : rel.isSome = decide (2 ≤ ct)) (h7 : ct < 7) (hj : WJ K ct cd n' b' w) (hn : n' < cn) : WOut K mt ct cd cn rel T b w b' w #[] :=
  ⟨fun _ _ _ => rfl, suf_refl w, ct, n', rel, hj, fun fn pos => by rw [ofEvents_nil, Array.append_empty]; exact hB.past, hr, ww_if hw, fun _ h => by omega, .inr ⟨rfl, hn⟩, by omega⟩

theorem evJ_cell (a : Addr) (ha : a.block = K.Wg) (x : Bool) : K.EvJ ⟨.cell a, x, true⟩ := by
  refine ⟨fun b hb => ?_, ?_, ?_⟩
  · cases x <;> simp [MemAct.ofEvent, MemAct.touch?] at hb <;> subst hb <;> exact ⟨⟨a, rfl, ha⟩, rfl⟩
  · cases x <;> (show a.block < K.Low; rw [ha]; exact K.hW)
  · cases x <;> simp [MemAct.ofEvent]
theorem evJ_mark {m : Mark} (h1 : (MemAct.mark m).low K.Low) (h2 : ∀ x, (MemAct.mark m).touch? ≠ some x) (h3 : m ≠ .release (stA K.Wg)) : K.EvJ (mk m) := by
  refine ⟨fun b hb => absurd hb (h2 b), h1, fun e => ?_⟩
  injection e with e; exact h3 e

theorem suf_rb (hmt : mt = 5 ∨ mt = 10) (h : K.Rb w w') : Suf K mt w w' := ⟨fun x => by omega, fun _ => h, fun x y => by omega⟩

/-- The worker's own step; or its receive from the closed channel. -/
theorem WJ.step (h : WJ K ct cd cn b w) (hr : b.status = .running) (hw : WW K mt ct w) (hB : JB K gs w T q md cd rel) (hrel : rel.isSome = decide (2 ≤ ct)) :
    (∃ b' w' es, stepG P false b w = .go b' w' es ∧ WOut K mt ct cd cn rel T b w b' w' es) ∨
      (ct = 0 ∧ cd = 0 ∧ K.Z w ∧ ∃ g₂, K.s.home g₂ ∧ stepG P false b w = .comm g₂ K.s.cases true K.s.shape w #[]) := by
  have e0 : ∀ {es : Array Event}, (∀ e ∈ es, EvC (fun _ => False) K.B0 e) → es = #[] := fun he => Array.eq_empty_iff_forall_not_mem.2 fun e hm => by obtain ⟨_, _, x, _⟩ := he e hm; exact x
  cases h with
  | c0 h1 h2 h3 =>
    rcases Heads.pick h2 hr h3 with ⟨g₂, es, k, rfl, hat, hes, hst⟩ | ⟨n', y', d, es, hlt, hpos, hes, hst, hsit⟩
    · right
      obtain rfl := e0 hes
      exact ⟨rfl, rfl, h3, g₂, hat.2.2.2.2.1, hst⟩
    · left
      obtain rfl := e0 hes
      refine ⟨y', _, _, hst, fun _ _ _ => rfl, suf_at w d, 0, n', rel, .c0 hpos hsit (K.hZ w _ (fun _ _ _ => rfl) h3), fun fn pos => by rw [ofEvents_nil, Array.append_empty]; exact hB.past, hrel, ?_, fun _ h => by omega, .inr ⟨rfl, hlt⟩, by omega⟩
      rw [if_neg (by omega)]; exact ww_at hw rfl
  | c1 h1 h2 =>
    left
    have hrn : rel = none := by cases rel <;> simp_all
    subst hrn
    have release : ∀ {b' : Goroutine}, stepG P false b w = .go b' w #[mk (.releaseMerge (stA K.Wg))] → (∃ m, Goes P false (RCa K.ty K.Wg K.Low) DC0 (AtK1 P K.ty K.Wg K.Low) m b' w) →
        ∃ b' w' es, stepG P false b w = .go b' w' es ∧ WOut K mt 1 0 cn none T b w b' w' es := by
      intro b' hgo ⟨m, hm⟩
      refine ⟨b', w, _, hgo, fun _ _ _ => rfl, suf_refl w, 2, m, some T.size, .c2 hm, fun fn pos => ?_, rfl, ?_, fun _ h => by omega, .inl (by omega), by omega⟩
      · have := hB.past.release hB.ej K.hW (op := { g := K.j, fn := fn, pos := pos, act := .mark (.releaseMerge (stA K.Wg)) }) rfl rfl
        simpa [ofEvents_eq, MemAct.ofEvent, mk] using this
      · rw [if_neg (by omega)]
        rcases hw with ⟨x, _, y⟩ | ⟨x, _, y⟩ | ⟨_, x, _⟩ | ⟨_, x, _⟩ | ⟨_, x, _⟩ | ⟨_, x, _⟩ <;> first | omega | skip
        · exact .inl ⟨x, by omega, y⟩
        · exact .inr (.inl ⟨x, by omega, y⟩)
    rcases Goes.cases h1 with hstop | ⟨n', rfl, hstep⟩
    · obtain ⟨_, _, b', hgo, hm⟩ := hstop w (RCa.refl w)
      exact release hgo hm
    · rcases Goes.cases h2 with hstop | ⟨n₂, rfl, hstep2⟩
      · obtain ⟨_, _, b', hgo, hm⟩ := hstop w (RCa.refl w)
        exact release hgo hm
      · obtain ⟨b', w', es, hgo, ⟨hA, hes⟩, hg⟩ := hstep w (RCa.refl w)
        obtain ⟨b₂, w₂, es₂, hgo₂, ⟨hA₂, hes₂⟩, hg₂⟩ := hstep2 w (RCa.refl w)
        obtain ⟨rfl, rfl, rfl⟩ : b' = b₂ ∧ w' = w₂ ∧ es = es₂ := by rw [hgo] at hgo₂; injection hgo₂ with x y z; exact ⟨x, y, z⟩
        have hall : ∀ k : Nat, w'.heap[k]? = w.heap[k]? := fun k => by
          by_cases e : k = K.C
          · exact hA₂.block k (fun x => K.hCC (e.symm.trans x))
          · exact hA.block k e
        have hev : ∀ e ∈ es, K.EvJ e ∧ e.loc ≠ .mark .disable ∧ e.loc ≠ .mark .enable := fun e he => evJ_of (hes e he) (hes₂ e he)
        have hd : deafBehind 0 es = 0 := deafBehind_still (fun e he => (hev e he).2) _
        refine ⟨b', w', es, hgo, fun x _ _ => hall x, suf_same hA.tape hA.os hA.output hA.size hall ?_, 1, n', none, by rw [hd]; exact .c1 hg hg₂, fun fn pos => ?_, rfl, ?_, fun _ h => by omega, .inr ⟨rfl, by omega⟩, by omega⟩
        · intro h6 h8
          rcases hw with ⟨x, _, y⟩ | ⟨x, _, y⟩ | ⟨_, x, _⟩ | ⟨_, x, _⟩ | ⟨_, x, _⟩ | ⟨_, x, _⟩ <;> omega
        · exact hB.past.appJ ops_g (ops_of (X := fun act => ∀ b, act.touch? = some b → OfWg K.Wg b.loc ∧ b.kind = .atomic) fun e x => (hev e x).1.1) (.inl rfl) (ops_of (X := fun act => act.low K.Low) fun e x => (hev e x).1.2.1)
            (ops_of (X := fun act => act ≠ .mark (.release (stA K.Wg))) fun e x => (hev e x).1.2.2)
        · rw [if_neg (by omega)]; exact ww_at hw (hall _)
  | c2 h1 =>
    left
    rcases Goes.cases h1 with hstop | ⟨n', rfl, hstep⟩
    · obtain ⟨_, b', hgo, m, hm⟩ := hstop w (RCa.refl w)
      refine ⟨b', w, _, hgo, fun _ _ _ => rfl, suf_refl w, 3, m, rel, .c3 hm, fun fn pos => ?_, hrel, ?_, fun _ h => by omega, .inl (by omega), by omega⟩
      · refine hB.past.appMute ?_ ?_ ?_ <;> (intro op hop; obtain ⟨e, he, rfl⟩ := Conc.mem_ofEvents hop; simp at he; subst he)
        · rfl
        · trivial
        · simp [MemAct.ofEvent, mk]
      · rw [if_neg (by omega)]
        rcases hw with ⟨x, _, y⟩ | ⟨x, _, y⟩ | ⟨_, x, _⟩ | ⟨_, x, _⟩ | ⟨_, x, _⟩ | ⟨_, x, _⟩ <;> first | omega | skip
        · exact .inl ⟨x, by omega, y⟩
        · exact .inr (.inl ⟨x, by omega, y⟩)
    · obtain ⟨b', w', es, hgo, ⟨rfl, rfl⟩, hg⟩ := hstep w (RCa.refl w)
      exact ⟨b', _, _, hgo, quietOut hB hw hrel (by omega) (.c2 hg) (by omega)⟩
  | c3 h1 =>
    left
    letI := K.I
    have bk : ∀ e ∈ (#[rd (stA K.Wg), wr (stA K.Wg)] : Array Event), K.EvJ e := by
      intro e he; simp at he
      rcases he with rfl | rfl <;> exact evJ_cell _ rfl _
    have dfn : ∀ j e, (#[rd (stA K.Wg), wr (stA K.Wg)] : Array Event)[j]? = some e → (MemAct.ofEvent e).touch? = none ∨ 0 < deafBehind 1 ((#[rd (stA K.Wg), wr (stA K.Wg)] : Array Event).extract 0 j) := by
      intro j e he
      match j, he with
      | 0, _ => exact .inr (by simp [deafBehind])
      | 1, _ => exact .inr (by simp [deafBehind, rd])
      | j + 2, he => simp at he
    rcases Goes.cases h1 with hstop | ⟨n', rfl, hstep⟩
    · obtain ⟨_, hl, hm⟩ := hstop w (RCa.refl w)
      rcases hw with ⟨x, _, y⟩ | ⟨x, _, y⟩ | ⟨_, x, _⟩ | ⟨_, x, _⟩ | ⟨_, x, _⟩ | ⟨_, x, _⟩ <;> first | omega | skip
      · obtain ⟨b', hgo, qq, hq⟩ := hl y
        refine ⟨b', _, _, hgo, setCell_low w 0 _, ⟨fun _ => ⟨aside2_setCell w 0 _, fun _ => .inr ⟨y.setSt _, full_low hB.full (setCell_low w 0 _ _ K.hC K.hCW)⟩, fun z => absurd (z.1.unique y).1 (by decide)⟩, fun z => by omega, fun z => by omega⟩,
          7, qq, rel, .c7 hq, fun fn pos => hB.deafOps bk dfn, by rw [hrel]; rfl, ?_, fun z => by omega, .inl (by omega), by omega⟩
        rw [if_neg (by omega)]
        exact .inr (.inr (.inr (.inr (.inr ⟨.inl x, rfl, y.setSt _⟩))))
      · obtain ⟨b', hgo, m, hg⟩ := hm y
        refine ⟨b', _, _, hgo, setCell_low w 0 _, suf_rb x ⟨aside2_setCell w 0 _, fun _ => .inr (.inl (y.setSt _)), fun z => absurd (z.1.unique y).1 (by decide)⟩, 4, m, rel, .c4 hg, fun fn pos => hB.deafOps bk dfn, by rw [hrel]; rfl, ?_, fun _ z => by omega, .inl (by omega), by omega⟩
        rw [if_neg (by omega)]
        exact .inr (.inr (.inl ⟨x, .inl rfl, y.setSt _⟩))
    · obtain ⟨b', w', es, hgo, ⟨rfl, rfl⟩, hg⟩ := hstep w (RCa.refl w)
      exact ⟨b', _, _, hgo, quietOut hB hw hrel (by omega) (.c3 hg) (by omega)⟩
  | c4 h1 =>
    left
    rcases Goes.cases h1 with hstop | ⟨n', rfl, hstep⟩
    · obtain ⟨_, b', hgo, m, hm⟩ := hstop w (RCd.refl w)
      refine ⟨b', w, _, hgo, fun _ _ _ => rfl, suf_refl w, 5, m, rel, .c5 hm, fun fn pos => hB.deafOps ?_ ?_, by rw [hrel]; rfl, ?_, fun _ h => by omega, .inl (by omega), by omega⟩
      · intro e he; simp at he; subst he; exact evJ_cell _ rfl _
      · intro j e he
        match j, he with
        | 0, _ => exact .inr (by simp [deafBehind])
        | j + 1, he => simp at he
      · rw [if_neg (by omega)]
        rcases hw with ⟨_, x, y⟩ | ⟨_, x, y⟩ | ⟨x, _, y⟩ | ⟨_, x, _⟩ | ⟨_, x, _⟩ | ⟨_, x, _⟩ <;> first | omega | skip
        exact .inr (.inr (.inl ⟨x, .inr rfl, y⟩))
    · obtain ⟨b', w', es, hgo, ⟨rfl, rfl⟩, hg⟩ := hstep w (RCd.refl w)
      exact ⟨b', _, _, hgo, quietOut hB hw hrel (by omega) (.c4 hg) (by omega)⟩
  | c5 h1 =>
    left
    letI := K.I
    rcases Goes.cases h1 with hstop | ⟨n', rfl, hstep⟩
    · obtain ⟨_, b', hgo, m, hm⟩ := hstop w (RCd.refl w)
      rcases hw with ⟨_, x, y⟩ | ⟨_, x, y⟩ | ⟨x, _, y⟩ | ⟨_, x, _⟩ | ⟨_, x, _⟩ | ⟨_, x, _⟩ <;> first | omega | skip
      refine ⟨b', _, _, hgo, setCell_low w 0 _, suf_rb x ⟨aside2_setCell w 0 _, fun _ => .inr (.inr (.inl (y.setSt _))), fun z => absurd (z.1.unique y).2 (by decide)⟩, 6, m, rel, .c6 hm, fun fn pos => hB.deafOps ?_ ?_, by rw [hrel]; rfl, ?_, fun _ h => by omega, .inl (by omega), by omega⟩
      · intro e he; simp at he; subst he; exact evJ_cell _ rfl _
      · intro j e he
        match j, he with
        | 0, _ => exact .inr (by simp [deafBehind])
        | j + 1, he => simp at he
      · rw [if_neg (by omega)]
        exact .inr (.inr (.inr (.inl ⟨x, rfl, y.setSt _⟩)))
    · obtain ⟨b', w', es, hgo, ⟨rfl, rfl⟩, hg⟩ := hstep w (RCd.refl w)
      exact ⟨b', _, _, hgo, quietOut hB hw hrel (by omega) (.c5 hg) (by omega)⟩
  | c6 h1 =>
    left
    letI := K.I
    rcases Goes.cases h1 with hstop | ⟨n', rfl, hstep⟩
    · obtain ⟨_, hmw, b', hgo, qq, hq⟩ := hstop w (RCd.refl w)
      rcases hw with ⟨_, x, y⟩ | ⟨_, x, y⟩ | ⟨_, x, y⟩ | ⟨x, _, y⟩ | ⟨_, x, _⟩ | ⟨_, x, _⟩ <;> first | omega | skip
      refine ⟨b', _, _, hgo, setCell_low w 1 _, suf_rb x ⟨aside2_setCell w 1 _, fun _ => .inr (.inr (.inr ⟨y.setSm _, full_low hB.full (setCell_low w 1 _ _ K.hC K.hCW)⟩)), fun z => absurd (z.1.unique y).2 (by decide)⟩, 7, qq, rel, ?_, fun fn pos => hB.deafOps ?_ ?_, by rw [hrel]; rfl, ?_, fun _ _ => hmw, .inl (by omega), by omega⟩
      · have : deafBehind 1 (semEvents (smA K.Wg)) = 1 := by simp [deafBehind, semEvents]
        rw [this]; exact .c7 hq
      · intro e he
        simp [semEvents] at he
        rcases he with rfl | rfl | rfl | rfl
        · exact evJ_mark (m := .disable) trivial (by simp [MemAct.touch?]) (by simp)
        · exact evJ_cell _ rfl _
        · exact evJ_cell _ rfl _
        · exact evJ_mark (m := .enable) trivial (by simp [MemAct.touch?]) (by simp)
      · intro j e he
        match j, he with
        | 0, he => simp [semEvents] at he; subst he; exact .inl rfl
        | 1, he => exact .inr (by simp [deafBehind, semEvents])
        | 2, he => exact .inr (by simp [deafBehind, semEvents])
        | 3, he => simp [semEvents] at he; subst he; exact .inl rfl
        | j + 4, he => simp [semEvents] at he
      · have : (if 7 = 7 ∧ mt = 10 then 5 else mt) = 5 := by rcases x with rfl | rfl <;> rfl
        rw [this]
        exact .inr (.inr (.inr (.inr (.inl ⟨rfl, rfl, y.setSm _⟩))))
    · obtain ⟨b', w', es, hgo, ⟨rfl, rfl⟩, hg⟩ := hstep w (RCd.refl w)
      exact ⟨b', _, _, hgo, quietOut hB hw hrel (by omega) (.c6 hg) (by omega)⟩
  | c7 h1 =>
    left
    cases cn with
    | zero => rw [h1.1] at hr; cases hr
    | succ n =>
      rcases h1 with ⟨hf, _⟩ | ⟨_, b', es, hm, hst, hq⟩
      · rw [hf] at hr; cases hr
      refine ⟨b', w, es, hst w, fun _ _ _ => rfl, suf_refl w, 7, n, rel, .c7 hq, fun fn pos => ?_, hrel, ww_if hw, fun x _ => ?_, .inr ⟨rfl, by omega⟩, by omega⟩
      · refine hB.past.appMute ?_ ?_ ?_ <;> (intro op hop; obtain ⟨e, he, rfl⟩ := Conc.mem_ofEvents hop)
        · exact touch_mute (hm e he)
        · exact low_mute (hm e he) _
        · intro e'
          have := hm e he
          obtain ⟨loc, wr, sy⟩ := e
          cases loc <;> simp_all [Event.mute, MemAct.ofEvent]
      · subst x
        rcases hw with ⟨x, _⟩ | ⟨_, x, _⟩ | ⟨_, x, _⟩ | ⟨_, x, _⟩ | ⟨x, _⟩ | ⟨x, _⟩ <;> omega
end
end Go.Qw
