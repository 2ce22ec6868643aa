/- The law Beats of queuewire returns true for every three integers: the row over the given program, tied to its text; no condition besides. (Part 5 of 40: QwDraw2.) -/
import Derived.Test.YtpiabknabfbfhaaGreatDoorBeats04
set_option linter.all false
-- A region whose order is open: the theorem.
namespace Go.Qw
open Go Go.Conc

section
variable {P : Program} {E : Env P} {N : Nat} {ops : Array Oper} {Q : Post} {pn : List PanicEntry → List Deferred → Hp → Prop} {ρ₀ : Rho} {l₀ : List Nat}

/-- What stands of a reader that the order has not come to yet. -/
def Waits (P : Program) (N : Nat) (ops : Array Oper) (ρ₀ : Rho) (vals : Nat → Option Value) (pend : List (Nat × Rho × Value)) (σ : Hp) (r : Nat) : Prop :=
  ∃ o ρr, ops[r]? = some o ∧ okDst N o.dst = true ∧ isRd o.op = true ∧
    (∀ t ∈ slotsOf ops o, ρr t = sl ops ρ₀ (fun j => if anc ops r j = true then vals j else none) t) ∧
    ((Region.wanted o (yieldedR N ops ρr) = true ∧ ∃ v, vals r = some v ∧ (r, ρr, v) ∈ pend ∧ readV P o.op ρr σ = some v) ∨ (Region.wanted o (yieldedR N ops ρr) = false ∧ vals r = some undef))

structure InvD (E : Env P) (N : Nat) (ops : Array Oper) (Q : Post) (pn : List PanicEntry → List Deferred → Hp → Prop) (ρ₀ : Rho) (l₀ : List Nat) (listed : Array Bool) (pre rest : List Nat) (pend : List (Nat × Rho × Value)) (vals : Nat → Option Value)
    (ds : List Deferred) (σ : Hp) : Prop where
  size : listed.size = ops.size
  split : l₀ = pre ++ rest
  sub : ∀ i, listed.getD i false = true → i ∈ pre
  wr : ∀ i ∈ pre, rdAt ops i = false → listed.getD i false = true
  dom : ∀ i, i ∉ pre → vals i = none
  has : ∀ i ∈ pre, ∃ v, vals i = some v
  down : ∀ i j, listed.getD i false = true → anc ops i j = true → listed.getD j false = true
  waits : ∀ r ∈ pre, listed.getD r false = false → Waits P N ops ρ₀ vals pend σ r
  wp : wpD E N ops Q pn rest pend (sl ops ρ₀ vals) ds σ

theorem pw_mid {l₀ pre rest : List Nat} (G : Good ops l₀) (hs : l₀ = pre ++ rest) {i j : Nat} (hi : i ∈ pre) (hj : j ∈ rest) : i ≠ j ∧ anc ops i j = false ∧ (rdAt ops i = true ∨ anc ops j i = true) := by
  have := G.pw
  rw [hs, List.pairwise_append] at this
  exact this.2.2 i hi j hj

theorem ancB_mono {f i j : Nat} : ancB ops f i j = true → ancB ops (f + 1) i j = true := by
  induction f generalizing i j with
  | zero => intro h; cases h
  | succ f ih =>
    intro h
    unfold ancB at h ⊢
    cases ho : ops[i]? with
    | none => rw [ho] at h; cases h
    | some o =>
      rw [ho] at h
      simp only [List.any_eq_true, Bool.and_eq_true, Bool.or_eq_true, beq_iff_eq] at h ⊢
      obtain ⟨e, he, hb, h⟩ := h
      exact ⟨e, he, hb, h.imp id ih⟩

theorem anc_edge {i : Nat} {o : Oper} (ho : ops[i]? = some o) {e : Edge} (he : e ∈ o.after) (hb : Region.binds .any e = true) : anc ops i e.on = true := by
  have hi : i < ops.size := (Array.getElem?_eq_some_iff.1 ho).1
  unfold anc
  obtain ⟨n, hn⟩ : ∃ n, ops.size = n + 1 := ⟨ops.size - 1, by omega⟩
  rw [hn]
  unfold ancB
  rw [ho]
  simp only [List.any_eq_true, Bool.and_eq_true, Bool.or_eq_true, beq_iff_eq]
  exact ⟨e, by simpa using he, hb, .inl rfl⟩

/-- Whoever is ready has all its elders listed. -/
theorem ready_anc {listed : Array Bool} (hdown : ∀ i j, listed.getD i false = true → anc ops i j = true → listed.getD j false = true) {i : Nat} {o : Oper} (ho : ops[i]? = some o)
    (hr : ∀ e ∈ o.after, Region.binds .any e = true → listed.getD e.on false = true) {j : Nat} (h : anc ops i j = true) : listed.getD j false = true := by
  unfold anc at h
  cases hn : ops.size with
  | zero => rw [hn] at h; cases h
  | succ n =>
    rw [hn] at h
    unfold ancB at h
    rw [ho] at h
    simp only [List.any_eq_true, Bool.and_eq_true, Bool.or_eq_true, beq_iff_eq] at h
    obtain ⟨e, he, hb, h⟩ := h
    have hl := hr e (by simpa using he) hb
    rcases h with rfl | h
    · exact hl
    · exact hdown e.on j hl (by unfold anc; rw [hn]; exact ancB_mono h)

theorem vals_anc {l₀ pre rest : List Nat} (G : Good ops l₀) (hs : l₀ = pre ++ rest) {r : Nat} (hr : r ∈ pre) {j : Nat} (h : anc ops r j = true) (hj : j < ops.size) : j ∈ pre := by
  have : j ∈ l₀ := G.all j hj
  rw [hs, List.mem_append] at this
  rcases this with h' | h'
  · exact h'
  · have := (pw_mid G hs hr h').2.1
    rw [h] at this; cases this

theorem ancB_lt (G : Good ops l₀) {f i j : Nat} : ancB ops f i j = true → j < ops.size := by
  induction f generalizing i with
  | zero => intro h; cases h
  | succ f ih =>
    intro h
    unfold ancB at h
    cases ho : ops[i]? with
    | none => rw [ho] at h; cases h
    | some o =>
      rw [ho] at h
      simp only [List.any_eq_true, Bool.and_eq_true, Bool.or_eq_true, beq_iff_eq] at h
      obtain ⟨e, he, _, h⟩ := h
      rcases h with rfl | h
      · exact (G.opGood ho).on e (by simpa using he)
      · exact ih h
theorem anc_lt (G : Good ops l₀) {i j : Nat} (h : anc ops i j = true) : j < ops.size := ancB_lt G h

/-- The readers that come next are read ahead. -/
theorem advance (G : Good ops l₀) {listed : Array Bool} {ds : List Deferred} {σ : Hp} : ∀ (rest pre : List Nat) (pend : List (Nat × Rho × Value)) (vals : Nat → Option Value), InvD E N ops Q pn ρ₀ l₀ listed pre rest pend vals ds σ →
    ∃ pre' rest' pend' vals', InvD E N ops Q pn ρ₀ l₀ listed pre' rest' pend' vals' ds σ ∧ (∀ i, listed.getD i false = true → vals' i = vals i) ∧ (rest' = [] ∨ ∃ w r', rest' = w :: r' ∧ rdAt ops w = false) := by
  intro rest
  induction rest with
  | nil => exact fun pre pend vals I => ⟨pre, [], pend, vals, I, fun _ _ => rfl, .inl rfl⟩
  | cons r rest ih =>
    intro pre pend vals I
    by_cases hrd : rdAt ops r = false
    · exact ⟨pre, r :: rest, pend, vals, I, fun _ _ => rfl, .inr ⟨r, rest, rfl, hrd⟩⟩
    have hr : r < ops.size := G.lt r (by rw [I.split]; simp)
    have ho : ops[r]? = some ops[r] := Array.getElem?_eq_getElem hr
    have hw := I.wp
    simp only [wpD, ho] at hw
    obtain ⟨hd, hw⟩ := hw
    have hrd' : isRd (ops[r]).op = true := by
      unfold rdAt at hrd; rw [ho] at hrd; simpa using hrd
    rw [if_pos hrd'] at hw
    have hs' : l₀ = (pre ++ [r]) ++ rest := by rw [I.split]; simp
    have hnp : r ∉ pre := fun h => (pw_mid G I.split h (List.mem_cons_self ..)).1 rfl
    have hnl : ∀ i, listed.getD i false = true → i ≠ r := fun i hi e => hnp (e ▸ I.sub i hi)
    -- one reader read
    have one : ∀ (v : Value) (pend' : List (Nat × Rho × Value)), (∀ x ∈ pend, x ∈ pend') →
        ((Region.wanted ops[r] (yieldedR N ops (sl ops ρ₀ vals)) = true ∧ (r, sl ops ρ₀ vals, v) ∈ pend' ∧ readV P (ops[r]).op (sl ops ρ₀ vals) σ = some v) ∨ (Region.wanted ops[r] (yieldedR N ops (sl ops ρ₀ vals)) = false ∧ v = undef)) →
        wpD E N ops Q pn rest pend' (putR (sl ops ρ₀ vals) (ops[r]).dst v) ds σ → InvD E N ops Q pn ρ₀ l₀ listed (pre ++ [r]) rest pend' (updV vals r v) ds σ := by
      intro v pend' hsub hv hwp
      have hvr : updV vals r v r = some v := by simp [updV]
      have hvo : ∀ j, j ≠ r → updV vals r v j = vals j := fun j hj => by simp [updV, hj]
      refine ⟨I.size, hs', fun i hi => List.mem_append.2 (.inl (I.sub i hi)), fun i hi hw9 => ?_, fun i hi => ?_, fun i hi => ?_, I.down, fun x hx hxl => ?_, by rw [sl_put G ho] at hwp; exact hwp⟩
      · rcases List.mem_append.1 hi with h | h
        · exact I.wr i h hw9
        · simp at h; subst h; exact absurd hw9 hrd
      · have : i ≠ r := fun e => hi (by rw [e]; simp)
        rw [hvo i this]; exact I.dom i (fun h => hi (List.mem_append.2 (.inl h)))
      · rcases List.mem_append.1 hi with h | h
        · by_cases e : i = r
          · subst e; exact ⟨v, hvr⟩
          · obtain ⟨u, hu⟩ := I.has i h; exact ⟨u, by rw [hvo i e]; exact hu⟩
        · simp at h; subst h; exact ⟨v, hvr⟩
      · rcases List.mem_append.1 hx with h | h
        · obtain ⟨o, ρr, ho', hd', hi', ha, hc⟩ := I.waits x h hxl
          have hxr : x ≠ r := fun e => hnp (e ▸ h)
          refine ⟨o, ρr, ho', hd', hi', fun t ht => ?_, ?_⟩
          · rw [ha t ht]
            refine sl_agree G ho' ?_ ?_ ?_ t ht
            · have := G.irr x (G.lt x (by rw [I.split]; exact List.mem_append.2 (.inl h)))
              simp [this]
            · intro j hj
              rw [if_pos hj, if_pos hj]
              have : j ∈ pre := vals_anc G I.split h hj (anc_lt G hj)
              exact (hvo j (fun e => hnp (e ▸ this))).symm
            · intro j hj
              by_cases hxj : anc ops x j = true
              · rw [if_pos hxj, if_pos hxj]
                have : j ∈ pre := vals_anc G I.split h hxj (anc_lt G hxj)
                exact (hvo j (fun e => hnp (e ▸ this))).symm
              · rw [if_neg hxj, if_neg hxj]
          · rcases hc with ⟨hw1, u, hu, hm, hre⟩ | ⟨hw1, hu⟩
            · exact .inl ⟨hw1, u, by rw [hvo x hxr]; exact hu, hsub _ hm, hre⟩
            · exact .inr ⟨hw1, by rw [hvo x hxr]; exact hu⟩
        · simp at h
          subst h
          refine ⟨ops[x], sl ops ρ₀ vals, ho, hd, hrd', fun t ht => ?_, ?_⟩
          · refine sl_agree G ho ?_ ?_ ?_ t ht
            · rw [G.irr x hr]
              simp only [Bool.false_eq_true, if_false]
              exact I.dom x hnp
            · intro j hj
              rw [if_pos hj]
              by_cases e : j = x
              · subst e; rw [G.irr j hr] at hj; cases hj
              · exact (hvo j e).symm
            · intro j hj
              have hjp : j ∉ pre := fun h => by
                have := (pw_mid G I.split h (List.mem_cons_self ..)).2.1
                rw [hj] at this; cases this
              rw [I.dom j hjp]
              by_cases hxj : anc ops x j = true
              · have : j ∈ pre ++ [x] := vals_anc G hs' (by simp) hxj (anc_lt G hxj)
                rcases List.mem_append.1 this with h | h
                · exact absurd h hjp
                · simp at h; subst h; rw [G.irr j hr] at hxj; cases hxj
              · rw [if_neg hxj]
          · rcases hv with ⟨h1, h2, h3⟩ | ⟨h1, rfl⟩
            · exact .inl ⟨h1, v, hvr, h2, h3⟩
            · exact .inr ⟨h1, hvr⟩
    by_cases hwt : Region.wanted ops[r] (yieldedR N ops (sl ops ρ₀ vals)) = true
    · rw [if_pos hwt] at hw
      cases hrv : readV P (ops[r]).op (sl ops ρ₀ vals) σ with
      | none => rw [hrv] at hw; exact hw.elim
      | some v =>
        rw [hrv] at hw
        obtain ⟨p', r', pe', v', I', e', h'⟩ := ih _ _ _ (one v _ (fun x hx => List.mem_cons_of_mem _ hx) (.inl ⟨hwt, List.mem_cons_self .., hrv⟩) hw)
        exact ⟨p', r', pe', v', I', fun i hi => by rw [e' i hi]; simp [updV, hnl i hi], h'⟩
    · rw [if_neg hwt] at hw
      obtain ⟨p', r', pe', v', I', e', h'⟩ := ih _ _ _ (one undef pend (fun x hx => hx) (.inr ⟨by simpa using hwt, rfl⟩) hw)
      exact ⟨p', r', pe', v', I', fun i hi => by rw [e' i hi]; simp [updV, hnl i hi], h'⟩

def unl (ops : Array Oper) (listed : Array Bool) : Nat := (List.range ops.size).countP fun i => !listed.getD i true

theorem keepsD_at {i : Nat} {σ : Hp} {pend : List (Nat × Rho × Value)} (h : keepsD (P := P) ops i σ pend) {r : Nat} {ρr : Rho} {v : Value} (hm : (r, ρr, v) ∈ pend) {o : Oper} (ho : ops[r]? = some o) (hh : heapRd o.op = true) (ha : anc ops i r = false) :
    readV P o.op ρr σ = some v := by
  induction pend with
  | nil => cases hm
  | cons x pend ih =>
    obtain ⟨j, ρj, u⟩ := x
    simp only [keepsD] at h
    rcases List.mem_cons.1 hm with e | hm
    · cases e
      have := h.1
      rw [ho] at this
      simpa [hh, ha] using this
    · exact ih h.2 hm

theorem getD_set_self {listed : Array Bool} {i : Nat} (h : i < listed.size) (d : Bool) : (listed.setIfInBounds i true).getD i d = true := by
  rw [Array.getD_eq_getD_getElem?, Array.getElem?_setIfInBounds_self_of_lt h]; rfl

theorem getD_lt {listed : Array Bool} {i : Nat} (h : i < listed.size) (d d' : Bool) : listed.getD i d = listed.getD i d' := by
  rw [Array.getD_eq_getD_getElem?, Array.getD_eq_getD_getElem?, Array.getElem?_eq_getElem h]; rfl

theorem unl_set {listed : Array Bool} {i : Nat} (hs : listed.size = ops.size) (hi : i < ops.size) (hf : listed.getD i true = false) : unl ops (listed.setIfInBounds i true) + 1 = unl ops listed := by
  unfold unl
  have key : ∀ (l : List Nat), l.Nodup → i ∈ l → (l.countP fun j => !(listed.setIfInBounds i true).getD j true) + 1 = l.countP fun j => !listed.getD j true := by
    intro l
    induction l with
    | nil => intro _ h; cases h
    | cons x l ih =>
      intro hn hm
      rw [List.nodup_cons] at hn
      rw [List.countP_cons, List.countP_cons]
      by_cases e : x = i
      · subst e
        have h1 : (!(listed.setIfInBounds x true).getD x true) = false := by rw [getD_set_self (by omega)]; rfl
        have h2 : (l.countP fun j => !(listed.setIfInBounds x true).getD j true) = l.countP fun j => !listed.getD j true := by
          refine List.countP_congr fun j hj => ?_
          have : x ≠ j := fun e => hn.1 (e ▸ hj)
          rw [getD_set_ne true this]
        rw [h1, h2, hf]; simp
      · have hm' : i ∈ l := by rcases List.mem_cons.1 hm with h | h; exact absurd h.symm e; exact h
        have := ih hn.2 hm'
        rw [getD_set_ne true (fun z => e z.symm)]
        omega
  exact key _ List.nodup_range (List.mem_range.2 hi)

theorem rev_ind {α : Type} {p : List α → Prop} (h0 : p []) (hs : ∀ l x, p l → p (l ++ [x])) : ∀ l, p l := by
  intro l
  rw [← l.reverse_reverse]
  generalize l.reverse = r
  induction r with
  | nil => exact h0
  | cons x r ih => rw [List.reverse_cons]; exact hs _ _ ih

/-- ████ ████ -/
theorem any_of_inv (G : Good ops l₀) (hpn : ∀ ch ρ ds σ, pn ch ds σ → Q (.panic ch) ρ ds σ) : ∀ (fuel : Nat) (listed : Array Bool) (pre rest : List Nat) (pend : List (Nat × Rho × Value)) (vals : Nat → Option Value) (ds : List Deferred) (σ : Hp),
    unl ops listed ≤ fuel → InvD E N ops Q pn ρ₀ l₀ listed pre rest pend vals ds σ → (rest = [] ∨ ∃ w r', rest = w :: r' ∧ rdAt ops w = false) →
    wpAnyR E N ops Q fuel listed (sl ops ρ₀ (fun i => if listed.getD i false = true then vals i else none)) ds σ := by
  -- nothing is ready: all is done
  have fin : ∀ (listed : Array Bool) (pre rest : List Nat) (pend : List (Nat × Rho × Value)) (vals : Nat → Option Value) (ds : List Deferred) (σ : Hp), InvD E N ops Q pn ρ₀ l₀ listed pre rest pend vals ds σ → (rest = [] ∨ ∃ w r', rest = w :: r' ∧ rdAt ops w = false) →
      Region.ready .any ops listed = [] → Q .normal (sl ops ρ₀ (fun i => if listed.getD i false = true then vals i else none)) ds σ := by
    intro listed pre rest pend vals ds σ I hhead hnil
    have all : ∀ (a b : List Nat), l₀ = a ++ b → ∀ i ∈ a, listed.getD i false = true := by
      refine rev_ind ?_ ?_
      · intro b _ i hi; cases hi
      · intro a x ih b hb i hi
        have hb' : l₀ = a ++ (x :: b) := by rw [hb]; simp
        have ha := ih (x :: b) hb'
        rcases List.mem_append.1 hi with h | h
        · exact ha i h
        · simp at h; subst h
          refine Classical.byContradiction fun hne => ?_
          have hlt : i < ops.size := G.lt i (by rw [hb]; simp)
          have ho : ops[i]? = some ops[i] := Array.getElem?_eq_getElem hlt
          have : i ∈ Region.ready .any ops listed := by
            refine mem_ready.2 ⟨?_, ops[i], ho, fun e he hbd => ?_⟩
            · rw [getD_lt (by rw [I.size]; exact hlt) true false]
              simpa using hne
            · have hae := anc_edge ho he hbd
              have hon := (G.opGood ho).on e he
              have hmem : e.on ∈ l₀ := G.all e.on hon
              rw [hb', List.mem_append] at hmem
              rcases hmem with h | h
              · exact ha _ h
              · rcases List.mem_cons.1 h with h | h
                · rw [h, G.irr i hlt] at hae; cases hae
                · have := (pw_mid G (by rw [hb]) (show i ∈ a ++ [i] by simp) h).2.1
                  rw [hae] at this; cases this
          rw [hnil] at this; cases this
    have hrest : rest = [] := by
      rcases hhead with h | ⟨w, r', rfl, hw⟩
      · exact h
      · exfalso
        have h1 := all (pre ++ [w]) r' (by rw [I.split]; simp) w (by simp)
        have h2 := I.sub w h1
        exact (pw_mid G I.split h2 (List.mem_cons_self ..)).1 rfl
    subst hrest
    have hq : Q .normal (sl ops ρ₀ vals) ds σ := I.wp
    have : (fun i => if listed.getD i false = true then vals i else none) = vals := by
      funext i
      by_cases hi : i ∈ pre
      · rw [if_pos (all pre [] I.split i hi)]
      · rw [I.dom i hi]; split <;> rfl
    rw [this]; exact hq
  intro fuel
  induction fuel with
  | zero =>
    intro listed pre rest pend vals ds σ hf I hhead
    have hnil : Region.ready .any ops listed = [] := by
      cases hr : Region.ready .any ops listed with
      | nil => rfl
      | cons i t =>
        exfalso
        have hm : i ∈ Region.ready .any ops listed := by rw [hr]; simp
        obtain ⟨h0, o, ho, _⟩ := mem_ready.1 hm
        have hi : i < ops.size := (Array.getElem?_eq_some_iff.1 ho).1
        have := unl_set (ops := ops) I.size hi h0
        omega
    exact ⟨hnil, fin _ _ _ _ _ _ _ I hhead hnil⟩
  | succ fuel ih =>
    intro listed pre rest pend vals ds σ hf I hhead
    refine ⟨fin _ _ _ _ _ _ _ I hhead, fun i hi => ?_⟩
    obtain ⟨h0, o, ho, hdeps⟩ := mem_ready.1 hi
    have hilt : i < ops.size := (Array.getElem?_eq_some_iff.1 ho).1
    have h0' : listed.getD i false = false := by rw [getD_lt (by rw [I.size]; exact hilt) false true]; exact h0
    have hanc : ∀ j, anc ops i j = true → listed.getD j false = true := fun j hj => ready_anc I.down ho hdeps hj
    have hcnt := unl_set (ops := ops) I.size hilt h0
    have hsz' : (listed.setIfInBounds i true).size = ops.size := by simpa using I.size
    have hself : (listed.setIfInBounds i true).getD i false = true := getD_set_self (by rw [I.size]; exact hilt) _
    have hother : ∀ j, j ≠ i → (listed.setIfInBounds i true).getD j false = listed.getD j false := fun j hj => getD_set_ne false (fun e => hj e.symm)
    have hdown' : ∀ a b, (listed.setIfInBounds i true).getD a false = true → anc ops a b = true → (listed.setIfInBounds i true).getD b false = true := by
      intro a b ha hab
      by_cases e : a = i
      · subst e
        by_cases e' : b = a
        · subst e'; exact hself
        · rw [hother b e']; exact hanc b hab
      · rw [hother a e] at ha
        by_cases e' : b = i
        · subst e'; exact hself
        · rw [hother b e']; exact I.down a b ha hab
    have hlater : ∀ j, anc ops j i = true → listed.getD j false = false := by
      intro j hj
      cases hl : listed.getD j false with
      | false => rfl
      | true => rw [I.down j i hl hj] at h0'; cases h0'
    -- the slots that the schedule sees
    have hvx : ∀ (u : Nat → Option Value) (v : Value), u i = some v → (∀ j, listed.getD j false = true → u j = vals j) →
        updV (fun j => if listed.getD j false = true then vals j else none) i v = fun j => if (listed.setIfInBounds i true).getD j false = true then u j else none := by
      intro u v hu hsame
      funext j
      by_cases e : j = i
      · subst e; rw [if_pos hself, hu]; simp [updV]
      · rw [hother j e]
        simp only [updV, e, if_false]
        by_cases hl : listed.getD j false = true
        · rw [if_pos hl, if_pos hl, hsame j hl]
        · rw [if_neg hl, if_neg hl]
    unfold stepR
    rw [ho]
    by_cases hrd : rdAt ops i = true
    · -- a reader: it was read ahead
      have hip : i ∈ pre := by
        have hm : i ∈ l₀ := G.all i hilt
        rw [I.split, List.mem_append] at hm
        rcases hm with h | h
        · exact h
        · exfalso
          rcases hhead with e | ⟨w, r', rfl, hw⟩
          · rw [e] at h; cases h
          · rcases List.mem_cons.1 h with e | h
            · subst e; rw [hrd] at hw; cases hw
            · have hs' : l₀ = (pre ++ [w]) ++ r' := by rw [I.split]; simp
              have h3 := (pw_mid G hs' (show w ∈ pre ++ [w] by simp) h).2.2
              rw [hw] at h3
              have h4 := hanc w (h3.resolve_left (by simp))
              exact (pw_mid G I.split (I.sub w h4) (List.mem_cons_self ..)).1 rfl
      obtain ⟨o', ρr, ho', hd, hird, hag, hc⟩ := I.waits i hip h0'
      obtain rfl : o' = o := Option.some.inj (ho'.symm.trans ho)
      refine ⟨hd, ?_⟩
      have hagS : ∀ t ∈ slotsOf ops o', sl ops ρ₀ (fun j => if listed.getD j false = true then vals j else none) t = ρr t := by
        intro t ht
        rw [hag t ht]
        refine sl_agree G ho ?_ ?_ ?_ t ht
        · simp only [h0', G.irr i hilt, Bool.false_eq_true, if_false]
        · intro j hj; rw [if_pos (hanc j hj), if_pos hj]
        · intro j hj
          have hl := hlater j hj
          simp only [hl, Bool.false_eq_true, if_false]
          by_cases hij : anc ops i j = true
          · rw [hanc j hij] at hl; cases hl
          · rw [if_neg hij]
      have I' : InvD E N ops Q pn ρ₀ l₀ (listed.setIfInBounds i true) pre rest pend vals ds σ := by
        refine ⟨hsz', I.split, fun j hj => ?_, fun j hj hw => ?_, I.dom, I.has, hdown', fun r hr hl => ?_, I.wp⟩
        · by_cases e : j = i
          · subst e; exact hip
          · rw [hother j e] at hj; exact I.sub j hj
        · by_cases e : j = i
          · subst e; exact hself
          · rw [hother j e]; exact I.wr j hj hw
        · have e : r ≠ i := fun e => by subst e; rw [hself] at hl; cases hl
          rw [hother r e] at hl
          exact I.waits r hr hl
      have next : ∀ v, vals i = some v → wpAnyR E N ops Q fuel (listed.setIfInBounds i true) (putR (sl ops ρ₀ (fun j => if listed.getD j false = true then vals j else none)) o'.dst v) ds σ := by
        intro v hv
        rw [sl_put G ho, hvx vals v hv (fun _ _ => rfl)]
        exact ih _ _ _ _ _ _ _ (by omega) I' hhead
      rcases hc with ⟨hw, v, hv, hm, hre⟩ | ⟨hw, hv⟩
      · rw [wanted_agree (N := N) hagS, if_pos hw]
        rw [← readV_congr (evR_agree hagS)] at hre
        rw [if_pos (by assumption)]
        exact ⟨v, hre, next v hv⟩
      · rw [wanted_agree (N := N) hagS, hw, if_neg (by simp)]
        exact next undef hv
    · -- a writer: it is the order's next
      have hrd' : rdAt ops i = false := by simpa using hrd
      have hnp : i ∉ pre := fun h => by rw [I.wr i h hrd'] at h0'; cases h0'
      have hm : i ∈ rest := by
        have hm : i ∈ l₀ := G.all i hilt
        rw [I.split, List.mem_append] at hm
        exact hm.resolve_left hnp
      rcases hhead with e | ⟨w, r', rfl, hw⟩
      · rw [e] at hm; cases hm
      have hiw : i = w := by
        rcases List.mem_cons.1 hm with e | h
        · exact e
        · exfalso
          have hs' : l₀ = (pre ++ [w]) ++ r' := by rw [I.split]; simp
          have h3 := (pw_mid G hs' (show w ∈ pre ++ [w] by simp) h).2.2
          rw [hw] at h3
          have h4 := hanc w (h3.resolve_left (by simp))
          exact (pw_mid G I.split (I.sub w h4) (List.mem_cons_self ..)).1 rfl
      subst hiw
      have hwp := I.wp
      simp only [wpD, ho] at hwp
      have hird : isRd o.op = false := by unfold rdAt at hrd'; rw [ho] at hrd'; exact hrd'
      rw [if_neg (by rw [hird]; simp)] at hwp
      obtain ⟨hd, hop⟩ := hwp
      have hsel := (G.opGood ho).wr.resolve_left (by rw [hird]; simp)
      refine ⟨hd, ?_⟩
      have hagS : ∀ t ∈ slotsOf ops o, sl ops ρ₀ vals t = sl ops ρ₀ (fun j => if listed.getD j false = true then vals j else none) t := by
        refine sl_agree G ho ?_ ?_ ?_
        · simp only [h0', Bool.false_eq_true, if_false]; exact I.dom i hnp
        · intro j hj; rw [if_pos (hanc j hj)]
        · intro j hj
          have hl := hlater j hj
          simp only [hl, Bool.false_eq_true, if_false]
          refine I.dom j fun hjp => ?_
          have := (pw_mid G I.split hjp (List.mem_cons_self ..)).2.1
          rw [hj] at this; cases this
      rw [← wanted_agree (N := N) hagS]
      suffices key : ∀ (v : Value) (ds' : List Deferred) (σ' : Hp), (keepsD (P := P) ops i σ' pend ∨ σ' = σ) → wpD E N ops Q pn r' pend (putR (sl ops ρ₀ vals) o.dst v) ds' σ' →
          wpAnyR E N ops Q fuel (listed.setIfInBounds i true) (putR (sl ops ρ₀ (fun j => if listed.getD j false = true then vals j else none)) o.dst v) ds' σ' by
        by_cases hwn : Region.wanted o (yieldedR N ops (sl ops ρ₀ vals)) = true
        · rw [if_pos hwn] at hop ⊢
          rw [if_neg (by rw [hird]; simp)]
          refine wpOp_trans (execOp_agree hsel hagS) ?_ (fun ch σ' h => hpn ch _ ds σ' h) (opQ_sound hop)
          rintro v ds' σ' ⟨hk, hwp'⟩
          exact key v ds' σ' (.inl hk) hwp'
        · rw [if_neg hwn] at hop ⊢
          exact key undef ds σ (.inr rfl) hop
      rintro v ds' σ' hk hwp'
      have hs' : l₀ = (pre ++ [i]) ++ r' := by rw [I.split]; simp
      rw [sl_put G ho] at hwp' ⊢
      have hvi : updV vals i v i = some v := by simp [updV]
      have hvo : ∀ j, j ≠ i → updV vals i v j = vals j := fun j hj => by simp [updV, hj]
      have I' : InvD E N ops Q pn ρ₀ l₀ (listed.setIfInBounds i true) (pre ++ [i]) r' pend (updV vals i v) ds' σ' := by
        refine ⟨hsz', hs', fun j hj => ?_, fun j hj hw => ?_, fun j hj => ?_, fun j hj => ?_, hdown', fun r hr hl => ?_, hwp'⟩
        · by_cases e : j = i
          · subst e; simp
          · rw [hother j e] at hj; exact List.mem_append.2 (.inl (I.sub j hj))
        · rcases List.mem_append.1 hj with h | h
          · by_cases e : j = i
            · subst e; exact hself
            · rw [hother j e]; exact I.wr j h hw
          · simp at h; subst h; exact hself
        · have e : j ≠ i := fun e => hj (by rw [e]; simp)
          rw [hvo j e]; exact I.dom j (fun h => hj (List.mem_append.2 (.inl h)))
        · rcases List.mem_append.1 hj with h | h
          · by_cases e : j = i
            · subst e; exact ⟨v, hvi⟩
            · obtain ⟨u, hu⟩ := I.has j h; exact ⟨u, by rw [hvo j e]; exact hu⟩
          · simp at h; subst h; exact ⟨v, hvi⟩
        · have e : r ≠ i := fun e => by subst e; rw [hself] at hl; cases hl
          have hrp : r ∈ pre := by
            rcases List.mem_append.1 hr with h | h
            · exact h
            · simp at h; exact absurd h e
          rw [hother r e] at hl
          obtain ⟨o₂, ρr, ho₂, hd₂, hi₂, ha₂, hc₂⟩ := I.waits r hrp hl
          refine ⟨o₂, ρr, ho₂, hd₂, hi₂, fun t ht => ?_, ?_⟩
          · rw [ha₂ t ht]
            refine sl_agree G ho₂ ?_ ?_ ?_ t ht
            · have := G.irr r (G.lt r (by rw [I.split]; exact List.mem_append.2 (.inl hrp)))
              simp [this]
            · intro j hj
              rw [if_pos hj, if_pos hj]
              have : j ∈ pre := vals_anc G I.split hrp hj (anc_lt G hj)
              exact (hvo j (fun e => hnp (e ▸ this))).symm
            · intro j hj
              by_cases hxj : anc ops r j = true
              · rw [if_pos hxj, if_pos hxj]
                have : j ∈ pre := vals_anc G I.split hrp hxj (anc_lt G hxj)
                exact (hvo j (fun e => hnp (e ▸ this))).symm
              · rw [if_neg hxj, if_neg hxj]
          · rcases hc₂ with ⟨hw1, u, hu, hm, hre⟩ | ⟨hw1, hu⟩
            · refine .inl ⟨hw1, u, by rw [hvo r e]; exact hu, hm, ?_⟩
              cases hh : heapRd o₂.op with
              | false => rw [readV_heap hh (σ' := σ)]; exact hre
              | true =>
                rcases hk with hk | rfl
                · refine keepsD_at hk hm ho₂ hh ?_
                  cases hx : anc ops i r with
                  | false => rfl
                  | true => rw [hanc r hx] at hl; cases hl
                · exact hre
            · exact .inr ⟨hw1, by rw [hvo r e]; exact hu⟩
      obtain ⟨pre', rest', pend', vals', I'', hsame, hhead'⟩ := advance G _ _ _ _ I'
      have := ih _ _ _ _ _ _ _ (by omega) I'' hhead'
      rw [hvx vals' v (by rw [hsame i hself]; exact hvi) (fun j hj => by
        have e : j ≠ i := fun e => by subst e; rw [h0'] at hj; cases hj
        rw [hsame j (by rw [hother j e]; exact hj), hvo j e])]
      exact this

/-- ████ A REGION WHOSE ORDER IS OPEN: reckoned in the order l. ████ -/
theorem draw_sound {l : List Nat} {ρ : Rho} {ds : List Deferred} {σ : Hp} (hc : chkD ops l = true) (hm : P.follows .mixedOrders = true) (hpn : ∀ ch ρ ds σ, pn ch ds σ → Q (.panic ch) ρ ds σ) (h : wpD E N ops Q pn l [] ρ ds σ) (t : Nat) :
    wpO E N ops Q (Region.schedule (P.follows .mixedOrders) ops t) ρ ds σ := by
  have G := good_of hc
  have e0 : sl ops ρ (fun _ => none) = ρ := by funext t; exact sl_none (fun _ _ => rfl)
  have hl0 : ∀ i, (Array.replicate ops.size false).getD i false = false := fun i => by
    rw [Array.getD_eq_getD_getElem?, Array.getElem?_replicate]; split <;> rfl
  have I : InvD E N ops Q pn ρ l (Array.replicate ops.size false) [] l [] (fun _ => none) ds σ := by
    refine ⟨by simp, rfl, fun i hi => (by rw [hl0] at hi; cases hi), fun i hi => (by cases hi), fun _ _ => rfl, fun i hi => (by cases hi), fun i j hi => (by rw [hl0] at hi; cases hi), fun r hr => (by cases hr), (by rw [e0]; exact h)⟩
  obtain ⟨pre', rest', pend', vals', I', _, hh⟩ := advance G _ _ _ _ I
  have := any_of_inv G hpn ops.size _ _ _ _ _ _ _ (by unfold unl; exact Nat.le_trans List.countP_le_length (by simp)) I' hh
  have e1 : sl ops ρ (fun i => if (Array.replicate ops.size false).getD i false = true then vals' i else none) = ρ := by
    funext t; exact sl_none (fun i _ => by rw [hl0]; rfl)
  rw [e1] at this
  simp only [Region.schedule, hm, Bool.true_or, if_true]
  exact wpAnyR_sound _ t _ _ _ _ this
end
end Go.Qw
