/- The law Beats of queuewire returns true for every three integers: the row over the given program, tied to its text; no condition besides. (Part 22 of 40: QwFeed11 QwFeed12 QwFeed13.) -/
import Derived.Test.YtpiabknabfbfhaaGreatDoorBeats21
set_option linter.all false
-- feed: the worker is told to end: it returns, and says Done.
namespace Go.Qw
open Go Go.Conc Go.Proofs
open Go.ConcX (OfWg)

section
variable {P : Program} {main : Bool} {R : World → World → Prop} {D : World → World → Array Event → Prop} {Stop : Goroutine → World → Prop} {Kn : World → Prop}
theorem goes_ctlK (hst : ∀ w w', R w w' → Kn w → Kn w') (hD : ∀ w, D w w #[]) {g g' : Goroutine} {n : Nat} (hr : g.status = .running) (h : ∀ w, stepG P main g w = .go g' w #[]) (k : ∀ w, Kn w → Goes P main R D Stop n g' w) : ∀ w, Kn w → Goes P main R D Stop (n + 1) g w :=
  fun w hw => Goes.step hr fun w₁ r₁ => by rw [h w₁]; exact ⟨hD w₁, k w₁ (hst _ _ r₁ hw)⟩

theorem goes_silK (hst : ∀ w w', R w w' → Kn w → Kn w') (hD : ∀ w, D w w #[]) {N n : Nat} {ops : Array Oper} {b : Frame} {k : List Item} {cs : List Frame} (hk : b.kind ≠ .early) {ds : List Deferred} {Q : Rho → Prop} {rest : List Nat} {Ok : Addr → Prop}
    (hn : ∀ ρ a, Agree N a ρ ds → Q ρ → ∀ w, Kn w → Goes P main R D Stop n (G (b.at a (.inRegion ops rest :: k)) cs) w) :
    ∀ (p : List Nat) (ρ : Rho) (a : Act), silF P N ops (fun κ => κ = ⟨fun _ => none⟩) Ok Q p ρ → Agree N a ρ ds → ∀ w, Kn w → Goes P main R D Stop (n + p.length) (G (b.at a (.inRegion ops (p ++ rest) :: k)) cs) w := by
  intro p
  induction p with
  | nil => exact fun ρ a h ha => hn ρ a ha h
  | cons i p ih =>
    intro ρ a h ha
    simp only [silF] at h
    cases ho : ops[i]? with
    | none => rw [ho] at h; exact h.elim
    | some o =>
      rw [ho] at h
      obtain ⟨hd, hg, hs, _, v, hv, h⟩ := h
      rw [List.length_cons, ← Nat.add_assoc]
      refine goes_ctlK hst hD (g' := G (b.at (a.put o.dst v) (.inRegion ops (p ++ rest) :: k)) cs) rfl (fun w => ?_) (ih _ _ h (ha.put hd v))
      obtain ⟨es, h1, h2⟩ := sil_step (main := main) (κ := ⟨fun _ => none⟩) (k := k) (cs := cs) (rest := p ++ rest) ho hg hs (hv _ rfl) hk ha w (fun b o hb => by cases hb)
      have : es = #[] := by
        rw [Array.eq_empty_iff_forall_not_mem]
        intro e he
        obtain ⟨x, _, _, hx⟩ := h2 e he
        cases hx
      rw [List.cons_append, h1, this]
end

section
open Go.ConcX
variable [Payload] {Wg C Low : Nat} [Shy Wg C] {vals : List Value} {bc c1 c2 c3 : Nat} {cw : List Frame}

theorem dcs_nil (w : World) : DCs (fun _ => True) Wg C w w #[] := ⟨⟨rfl, rfl, rfl, rfl, fun _ _ => rfl⟩, by simp⟩

set_option maxRecDepth 100000 in
theorem quits_tail {a : Act} (ha : a.defers = []) : QuitsD Tryz.prog 2 0 (G { b56.at a [] with mode := .returning } [bot]) := by
  refine QuitsD.ctl (g' := G bot []) rfl (fun w => ?_) ?_
  · simp [G, stepG, unwind, doReturn, results, Frame.at, b56, baseD, bot, Tryz.func56, Tryz.f56, seen, GStep.after, goexitEntry, ha]
  refine QuitsD.ctl (g' := { G bot [] with status := .finished }) rfl (fun w => ?_) ⟨rfl, rfl⟩
  simp [G, stepG, unwind, bot, goexitEntry, Frame.catches]
  rfl

set_option maxRecDepth 100000 in
theorem serve_goes (hW : Wg < Low) (hC : C < Low) (hCW : C ≠ Wg) (hcw : CW Wg cw) {g₂ : Goroutine} (hg : HomeW bc c1 c2 c3 cw g₂) {w : World} (hK : KCa 131 Wg w ∧ Full C vals w) :
    ∃ n, Goes Tryz.prog false (RCa 131 Wg Low) (DCs (fun _ => True) Wg C) (AtR0 Tryz.prog 131 Wg C Low vals) n (Go.Conc.served g₂ (.tuple #[.int .i64 1, .bool false, .int .i64 0, .agg #[]])) w := by
  obtain ⟨ρ, ac, ha, hF, rfl⟩ := hg
  obtain ⟨a6, hd6, hs6, rfl⟩ := hcw
  obtain ⟨ps, af, ho⟩ := q3_0
  have hst : ∀ w w', RCa 131 Wg Low w w' → KCa 131 Wg w ∧ Full C vals w → KCa 131 Wg w' ∧ Full C vals w' := fun w w' r h => Go.ConcX.Gen.ka_rely (L := wgl) hC hCW h r
  have hD := dcs_nil (Wg := Wg) (C := C)
  have e : Go.Conc.served (G (b58.at ac (.inRegion q3 [0, 1, 2, 3] :: .code (.block 2 c58) :: kw)) [b56.at a6 [.inRegion o56 [7]], bot]) (.tuple #[.int .i64 1, .bool false, .int .i64 0, .agg #[]]) =
      G (b58.at (ac.put (some 21) (.tuple #[.int .i64 1, .bool false, .int .i64 0, .agg #[]])) (.inRegion q3 ([1, 2, 3] ++ []) :: .code (.block 2 c58) :: kw)) [b56.at a6 [.inRegion o56 [7]], bot] := by
    have := Frame.finish_at b58 ac q3 0 [1, 2, 3] (.code (.block 2 c58) :: kw) (.tuple #[.int .i64 1, .bool false, .int .i64 0, .agg #[]])
    rw [ho] at this
    simp only [Go.Conc.served, G, this]
    rfl
  rw [e]
  have ha1 : Agree 30 _ _ [] := ha.put (dst := some 21) (by decide) (.tuple #[.int .i64 1, .bool false, .int .i64 0, .agg #[]])
  suffices key : ∃ n, ∀ w, KCa 131 Wg w ∧ Full C vals w → Goes Tryz.prog false (RCa 131 Wg Low) (DCs (fun _ => True) Wg C) (AtR0 Tryz.prog 131 Wg C Low vals) n (G (b58.at (ac.put (some 21) (.tuple #[.int .i64 1, .bool false, .int .i64 0, .agg #[]])) (.inRegion q3 ([1, 2, 3] ++ []) :: .code (.block 2 c58) :: kw)) [b56.at a6 [.inRegion o56 [7]], bot]) w by
    obtain ⟨n, hn⟩ := key
    exact ⟨n, hn w hK⟩
  refine ⟨32 + [1, 2, 3].length, ?_⟩
  refine goes_silK (n := 32) (N := 30) (ds := []) hst hD (by simp [b58]) (Ok := fun _ => True) (Q := fun ρ => ρ 23 = .bool false ∧ ρ 24 = .bool true) (fun ρ a ha h => ?_) [1, 2, 3] _ _ ?_ ha1
  rotate_left
  · simp only [q3, in58, L58, B58, Tryz.f58, Option.getD_some, rgtC, lftC, innC, opsC, putR]
    refine silF_extract (vs := #[.int .i64 1, .bool false, .int .i64 0, .agg #[]]) (v := .int .i64 1) rfl (by decide) (by simp [evR, up]) rfl ?_
    refine silF_bin (v := .bool false) rfl (by decide) (by simp [evR, up, binV]) ?_
    refine silF_bin (v := .bool true) rfl (by decide) (by simp [evR, up, binV]) ?_
    exact ⟨by simp [up], by simp [up]⟩
  obtain ⟨h23, h24⟩ := h
  refine goes_ctlK hst hD rfl (fun w => stepG_region_end) ?_
  refine goes_ctlK hst hD rfl (fun w => stepG_block) ?_
  rw [c58_eq]
  refine goes_ctlK hst hD rfl (fun w => stepG_cond (t := false) (by rw [ha.eval]; exact h23)) ?_
  refine goes_ctlK hst hD rfl (fun w => stepG_cond (t := true) (by rw [ha.eval]; exact h24)) ?_
  refine goes_ctlK hst hD rfl (fun w => stepG_ret') ?_
  refine goes_ctlK hst hD rfl (fun w => stepG_leave (v := .tuple #[]) rfl ha.defers Tryz.func58 (by simp [results, Tryz.f58]) (by simp [results, Tryz.f58])) ?_
  obtain ⟨ps, af, ats, ty, ho7⟩ := o56_7
  have e7 : (b56.at a6 [.inRegion o56 [7]]).finish (.tuple #[]) = b56.at (a6.put (some 13) (.tuple #[])) [.inRegion o56 []] := by
    have := Frame.finish_at b56 a6 o56 7 [] [] (.tuple #[])
    rw [ho7] at this
    exact this
  rw [e7]
  refine goes_ctlK hst hD rfl (fun w => stepG_region_end) ?_
  refine goes_ctlK hst hD rfl (fun w => stepG_end) ?_
  have hd7 : (a6.put (some 13) (.tuple #[])).defers = [dcall 57 #[.pointer (some ⟨Wg, 0, none⟩)]] := hd6
  refine goes_ctlK hst hD rfl (fun w => stepG_unwind_enter (ds := []) (f := 57) (args := #[.pointer (some ⟨Wg, 0, none⟩)]) (fn := Tryz.f57) (c := Tryz.f57.body.getD .skip) hd7 Tryz.func57 (by kernel_rfl) (by kernel_rfl)) ?_
  intro w hw
  have := Go.ConcX.Gen.doneD (P := Tryz.prog) (L := wgl) wgLib (Mine := fun _ => True) (Wg := Wg) (C := C) (Low := Low) (vals := vals) hW hC hCW (c := { b56.at ⟨(a6.put (some 13) (.tuple #[])).tmps, []⟩ [] with mode := .returning }) (cs := [bot]) (qt := 2) rfl (quits_tail rfl) w hw
  exact this
end
end Go.Qw
-- feed: the end: done is closed, the worker is waited for.
namespace Go.Qw
open Go Go.Conc Go.Proofs
open Go.ConcX (OfWg)

noncomputable def o11 : Array Oper := opsC (lftC tail40)
noncomputable def o12 : Array Oper := opsC (rgtC tail40)
theorem tail40_eq : tail40 = .seq (.region 11 o11 false) (.region 12 o12 false) := by kernel_rfl
theorem o11_0 : ∃ ps af, o11[0]? = some { dst := some 50, op := .load 121 (.tmp 6), type := 121, pos := ps, after := af, guard := none } := ⟨_, _, by simp only [o11, tail40, main40, B40, Tryz.f40, Option.getD_some, rgtC, lftC, opsC]; rfl⟩
theorem o11_1 : ∃ ps af ats ty, o11[1]? = some { dst := none, op := .call { callee := .builtin .close, args := #[.tmp 50], argTypes := ats }, type := ty, pos := ps, after := af, guard := none } := ⟨_, _, _, _, by simp only [o11, tail40, main40, B40, Tryz.f40, Option.getD_some, rgtC, lftC, opsC]; rfl⟩
theorem o12_0 : ∃ ps af ats ty, o12[0]? = some { dst := some 51, op := .call { callee := .value (.func 60), args := #[.tmp 7], argTypes := ats }, type := ty, pos := ps, after := af, guard := none } := ⟨_, _, _, _, by simp only [o12, tail40, main40, B40, Tryz.f40, Option.getD_some, rgtC, lftC, opsC]; rfl⟩

section
variable {P : Program} {main : Bool} {K K' : World → Prop} {Still : Loc → Prop} {B : Nat} {s : Seat}
theorem AtIn.more (h : ∀ w, K' w → K w) {g g₂ : Goroutine} (a : AtIn P main K Still B s g g₂) : AtIn P main K' Still B s g g₂ := by
  obtain ⟨a1, a2, a3, a4, a5, es, a6, a7⟩ := a
  exact ⟨a1, a2, a3, a4, a5, es, a6, fun w hw => a7 w (h w hw)⟩
theorem Way.more (h : ∀ w, K' w → K w) : ∀ {n : Nat} {g : Goroutine}, Way P main K Still B s n g → Way P main K' Still B s n g
  | 0, _, ⟨g₂, a⟩ => ⟨g₂, AtIn.more h a⟩
  | n + 1, g, a => a.imp (fun ⟨g₂, x⟩ => ⟨g₂, AtIn.more h x⟩) fun ⟨hr, x⟩ => ⟨hr, fun w hw => by
    have := x w (h w hw)
    cases hg : stepG P main g w <;> rw [hg] at this <;> first | exact this.elim | skip
    exact ⟨this.1, this.2.1, Way.more h this.2.2⟩⟩
theorem Heads.more (h : ∀ w, K' w → K w) {n : Nat} {g : Goroutine} (a : Heads P main K Still B s n g) : Heads P main K' Still B s n g := by
  rcases a with ⟨k, e, a⟩ | ⟨e, g₀, g₂, e2, a⟩
  · exact .inl ⟨k, e, a.more h⟩
  · exact .inr ⟨e, g₀, g₂, e2, AtIn.more h a⟩
end

section
variable {W : World} {Jh : Nat → Prop}
open Go.ConcX

/-- What holds at the anchor: all but the group's block is as it was. -/
structure Same (wg : Nat) (w0 w : World) : Prop where
  os : w.os = w0.os
  tape : w.tape = w0.tape
  output : w.output = w0.output
  size : w.heap.size = w0.heap.size
  block : ∀ k, k ≠ wg → w.heap[k]? = w0.heap[k]?

abbrev PayB : Payload := ⟨70⟩
abbrev PayD : Payload := ⟨121⟩
/-- The anchor: Wait is back. -/
def jStop (t : Tk) (a : Act) (w0 : World) (g : Goroutine) (w : World) : Prop := g = G (b40.at (a.put ((o12[0]?).bind (·.dst)) (.tuple #[])) [.inRegion o12 []]) t.cs ∧ Same t.wg w0 w
theorem ok_unshy {t : Tk} {b : Nat} (hb : t.Ok b) (x : Addr) (e : x.block = b) : ¬ t.S (.cell x) := by
  rintro ⟨y, e2, h⟩
  obtain rfl : y = x := by simpa using e2.symm
  rcases h with h | h
  · rw [e] at h; exact hb.nj h
  · rw [e] at h; exact hb.nw h
@[reducible] def jShy (t : Tk) (a : Act) (w0 : World) (b : Nat) (hb : t.Ok b) (hw : t.wg < w0.heap.size) (hB : t.Bd ≤ w0.heap.size) : Shy t.wg b :=
  shyOf t.S w0.heap.size t.wg b (jStop t a w0) hw (Nat.lt_of_lt_of_le hb.lt hB) (ok_unshy hb)

section
variable {t : Tk} {bc : Nat} {a : Act} {w0 : World} {vb vd : Value}
theorem j_round (hc : t.Ok t.cb) (hw : t.wg < w0.heap.size) (hB : t.Bd ≤ w0.heap.size) (hb : w0.heap[t.cb]? = some (.cells #[vb] 70 (0, 0))) :
    letI := PayB; letI := jShy t a w0 t.cb hc hw hB
    ∀ g w, Go.ConcX.Gen.AnchW7 wgl (fun w => Aside2 t.cb t.wg w0 w) t.wg t.cb [vb] (b40.at a [.inRegion o12 [0]]) t.cs g w →
    ∃ m, Goes Tryz.prog true (RPa 131 t.wg t.cb [vb]) (DPi (fun _ => True) t.wg t.cb w0.heap.size) (AtW1 Tryz.prog 131 t.wg t.cb w0.heap.size [vb] (fun _ => True) (Go.ConcX.Gen.AnchW7 wgl (fun w => Aside2 t.cb t.wg w0 w) t.wg t.cb [vb] (b40.at a [.inRegion o12 [0]]) t.cs) fun _ _ => True) m g w := by
  letI := PayB; letI := jShy t a w0 t.cb hc hw hB
  intro g w h
  refine Go.ConcX.Gen.waitRound (P := Tryz.prog) (L := wgl) wgLib (Low := w0.heap.size) (vals := [vb]) (F := fun w => Aside2 t.cb t.wg w0 w) (mT := 0) hc.nw (fun w w' h1 h2 => h2.trans h1) (fun w hf hg hfl => ?_) g w h
  intro w₁ hr
  obtain ⟨d, rfl⟩ := hr
  refine ⟨rfl, rfl, hf.os, hf.tape, hf.output, hf.size, fun k hk => ?_⟩
  by_cases e : k = t.cb
  · subst e
    exact (hfl rfl).trans hb.symm
  · exact hf.block k e hk

/-- The last stretch. -/
noncomputable def jn (t : Tk) (bc : Nat) (a : Act) (w0 : World) (vb vd : Value) (hc : t.Ok t.cb) (hd : t.Ok t.db) (hu : t.ub < w0.heap.size) (h1 : t.c1 < w0.heap.size) (hcd : t.cb ≠ t.db) (hw : t.wg < w0.heap.size) (h3 : t.c3 < w0.heap.size) (hB : t.Bd ≤ w0.heap.size) (hcw : CW t.wg t.cw)
    (hb : w0.heap[t.cb]? = some (.cells #[vb] 70 (0, 0))) : Jn Tryz.prog :=
  { ty := 131
    Wg := t.wg
    C := t.cb
    C' := t.db
    Low := w0.heap.size
    B0 := t.Bd
    j := t.j
    I := PayB
    I' := PayD
    Y := jShy t a w0 t.cb hc hw hB
    Y' := jShy t a w0 t.db hd hw hB
    vals := [vb]
    vals' := [vd]
    S := t.S
    Anch := @Go.ConcX.Gen.AnchW7 PayB wgl (fun w => Aside2 t.cb t.wg w0 w) t.wg t.cb (jShy t a w0 t.cb hc hw hB) [vb] (b40.at a [.inRegion o12 [0]]) t.cs
    Z := fun w => w.heap[t.ub]? = some (.cells #[.chan (some t.c2)] 120 (0, 0)) ∧ (∃ k, w.heap[t.c3]? = some (.chan 0 #[] true k k false)) ∧ Open t.c1 w
    s := seatW bc t.c1 t.c2 t.c3 t.cw
    kk := 1
    c3 := t.c3
    z := .agg #[]
    hj := t.hj
    hW := hw
    hC := Nat.lt_of_lt_of_le hc.lt hB
    hC' := Nat.lt_of_lt_of_le hd.lt hB
    hCW := hc.nw
    hCW' := hd.nw
    hCC := hcd
    hc3 := h3
    ok := fun _ h => h
    ok' := fun _ h => h
    hSW := fun l ⟨x, e, h⟩ => ⟨x, e, .inr h⟩
    hAr := fun g w ⟨T, e, _⟩ => by rw [e]; rfl
    hAn := j_round hc hw hB hb
    hZ := fun w w' h ⟨z1, ⟨k, z2⟩, k', z3⟩ => ⟨(h _ hu t.hub.2.2.2.1).trans z1, ⟨k, (h _ h3 (Ne.symm t.hwg.2.2)).trans z2⟩, k', (h _ h1 (Ne.symm t.hwg.1)).trans z3⟩
    hZs := fun w ⟨z1, z2, z3⟩ => ⟨z2, fun m cc hm hcc => by
      rcases m with _ | _ | m
      · simp [seatW] at hcc; subst hcc
        exact ⟨rfl, t.c1, rfl, z3⟩
      · exact absurd rfl hm
      · simp [seatW] at hcc⟩
    hk := rfl
    serve := fun g₂ w hh hk h1 h2 => by
      have e : commResult (seatW bc t.c1 t.c2 t.c3 t.cw).cases (seatW bc t.c1 t.c2 t.c3 t.cw).shape ((1 : Nat) : Int) (.agg #[]) false = .tuple #[.int .i64 1, .bool false, .int .i64 0, .agg #[]] := by
        simp [commResult, seatW, rcase, goInt, Array.zipIdx, Array.filter]
      rw [e]
      exact ⟨@serve_goes PayB t.wg t.cb w0.heap.size (jShy t a w0 t.cb hc hw hB) [vb] bc t.c1 t.c2 t.c3 t.cw hw (Nat.lt_of_lt_of_le hc.lt hB) hc.nw hcw g₂ hh w ⟨hk, h1⟩,
        @serve_goes PayD t.wg t.db w0.heap.size (jShy t a w0 t.db hd hw hB) [vd] bc t.c1 t.c2 t.c3 t.cw hw (Nat.lt_of_lt_of_le hd.lt hB) hd.nw hcw g₂ hh w ⟨hk, h2⟩⟩ }
end
end
end Go.Qw
-- feed: the end, joined.
namespace Go.Qw
open Go Go.Conc Go.Proofs
open Go.ConcX

section
variable {t : Tk} {bc : Nat} {σ : Hp} {m : Machine} {T : Trace} {g : Goroutine}

set_option maxRecDepth 100000 in
theorem tail_load {E : Env Tryz.prog} (hdb : σ.f t.db = some (.cells #[.chan (some t.c3)] 121 (0, 0))) (hT : AtTail t.cb t.sb t.ub t.db t.wg t.cs g) :
    Runs E g σ fun g τ => τ = σ ∧ ∃ ρ a, Agree 52 a ρ [] ∧ Fx t.cb t.sb t.ub t.db t.wg ρ ∧ ρ 50 = .chan (some t.c3) ∧ g = G (b40.at a (.inRegion o11 [1] :: .code (.region 12 o12 false) :: [])) t.cs := by
  obtain ⟨ρ, a, ha, hF, rfl⟩ := hT
  rw [tail40_eq]
  refine Runs.ctl (fun w => stepG_seq) rfl rfl ?_
  refine Runs.ctl (fun w => stepG_region) rfl rfl ?_
  have hr : List.range o11.size = [0] ++ [1] := by kernel_rfl
  rw [hr]
  obtain ⟨ps, af, ho⟩ := o11_0
  refine (runs_sil (E := E) (N := 52) (ops := o11) (F := fun κ => κ.f t.db = some (.cells #[.chan (some t.c3)] 121 (0, 0))) (Ok := fun _ => True) (Q := fun ρ => Fx t.cb t.sb t.ub t.db t.wg ρ ∧ ρ 50 = .chan (some t.c3)) hdb (by simp [b40]) [1] [0] (ds := [])
    (silF_load (a := ⟨t.db, 0, none⟩) (v := .chan (some t.c3)) ho (by decide) hF.d (by kernel_rfl) (by kernel_rfl) trivial (fun κ h => cell_set0 h rfl) ⟨hF.up (by decide) _, by simp [up]⟩) ha).bind ?_
  rintro g τ ⟨rfl, ρ', a', ha', ⟨hF', h50⟩, rfl⟩
  exact Runs.here ⟨rfl, ρ', a', ha', hF', h50, rfl⟩

theorem b60_body : Tryz.f60.body = some (Go.ConcX.Gen.body_wait wgl) := by kernel_rfl
theorem n60 : (Tryz.f60.name == "runtime.NumGoroutine") = false := by kernel_rfl
theorem b60_some : Tryz.f60.body.isNone = false := by kernel_rfl
theorem t60 : Tryz.f60.ntmps = 84 := by kernel_rfl

set_option maxRecDepth 100000 in
theorem arr84 (wg : Nat) : (#[.pointer (some ⟨wg, 0, none⟩)] ++ Array.replicate (84 - 1) undef : Array Value) = #[.pointer (some ⟨wg, 0, none⟩), undef, undef, undef, undef, undef, undef, undef, undef, undef, undef, undef, undef, undef, undef, undef, undef, undef, undef, undef, undef, undef, undef, undef, undef, undef, undef, undef, undef, undef, undef, undef, undef, undef, undef, undef, undef, undef, undef, undef, undef, undef, undef, undef, undef, undef, undef, undef, undef, undef, undef, undef, undef, undef, undef, undef, undef, undef, undef, undef, undef, undef, undef, undef, undef, undef, undef, undef, undef, undef, undef, undef, undef, undef, undef, undef, undef, undef, undef, undef, undef, undef, undef, undef] := by kernel_rfl
/-- Wait is entered. -/
theorem wait_step {a : Act} {wg : Nat} {cs : List Frame} (h : a.eval (.tmp 7) = .pointer (some ⟨wg, 0, none⟩)) (w : World) : stepG Tryz.prog true (G (b40.at a [.inRegion o12 [0]]) cs) w =
    .go (G ((base 60).at { tmps := #[.pointer (some ⟨wg, 0, none⟩), undef, undef, undef, undef, undef, undef, undef, undef, undef, undef, undef, undef, undef, undef, undef, undef, undef, undef, undef, undef, undef, undef, undef, undef, undef, undef, undef, undef, undef, undef, undef, undef, undef, undef, undef, undef, undef, undef, undef, undef, undef, undef, undef, undef, undef, undef, undef, undef, undef, undef, undef, undef, undef, undef, undef, undef, undef, undef, undef, undef, undef, undef, undef, undef, undef, undef, undef, undef, undef, undef, undef, undef, undef, undef, undef, undef, undef, undef, undef, undef, undef, undef, undef], defers := [] } [.code (Go.ConcX.Gen.body_wait wgl)]) (b40.at a [.inRegion o12 [0]] :: cs)) w #[] := by
  obtain ⟨ps2, af2, ats2, ty2, ho2⟩ := o12_0
  have hev : (#[Operand.tmp 7]).map a.eval = #[.pointer (some ⟨wg, 0, none⟩)] := by simp [h]
  rw [stepG_enter (f := 60) (args := (#[Operand.tmp 7]).map a.eval) ho2 rfl (by simp [b40]) (run_call_body rfl Tryz.func60 n60 b60_some), enter_at (fn := Tryz.f60) _ Tryz.func60 b60_body]
  have : listed Tryz.prog b40.fn a { dst := some 51, op := .call { callee := .value (.func 60), args := #[.tmp 7], argTypes := ats2 }, type := ty2, pos := ps2, after := af2, guard := none } w = #[] := by
    unfold listed
    rw [events_call_body rfl Tryz.func60 n60 b60_some]
    exact seen_none _ _
  rw [this, hev, t60, ← arr84]
  rfl

theorem loud40 : (Tryz.prog.funcs[40]?).any (·.norace) = false := by kernel_rfl

set_option maxRecDepth 100000 in
theorem feed_join (hW : t.wgo = wgBlock 131 KK 0) (hc : t.Ok t.cb) (hd : t.Ok t.db) (hcd : t.cb ≠ t.db) (hcw : CW t.wg t.cw) {vb : Value} (hcb : σ.f t.cb = some (.cells #[vb] 70 (0, 0))) (hdb : σ.f t.db = some (.cells #[.chan (some t.c3)] 121 (0, 0)))
    (hT : AtTail t.cb t.sb t.ub t.db t.wg t.cs g) (hSt : t.A.St 0 t.j (t.sW bc) g σ m T) :
    ∃ N m' T' a, runNT Tryz.prog N m T = (.next m', T') ∧ a.defers = [] ∧ SoloSt Tryz.prog t.W (G (b40.at a [.inRegion o12 []]) t.cs) σ m' T' := by
  have t0 : t.A.Two 0 t.j := .inl ⟨rfl, rfl⟩
  obtain ⟨N1, m1, T1, g1, τ, r1, st1, rfl, ρ, a, ha, hF, h50, rfl⟩ := tail_load (E := t.A.env t.deepA t0 (t.fitsW bc)) hdb hT m T hSt
  obtain ⟨ps, af, ats, ty, ho⟩ := o11_1
  obtain ⟨N2, gs, w0, sl, T2, q, J, n, y, r2, cl⟩ := t.A.shut (t.fitsW bc) (fun cc hcc => by
      simp only [seatW, List.mem_toArray, List.mem_cons, List.not_mem_nil, or_false] at hcc
      rcases hcc with rfl | rfl <;> rfl) (c3 := t.c3) (kk := 1) (z := .agg #[]) (.inr (.inr rfl)) (by rfl) st1 (g' := G (b40.at (a.put none (.tuple #[])) (.inRegion o11 [] :: .code (.region 12 o12 false) :: [])) t.cs) rfl (by simp [mayWake, G, Frame.at, b40, ho]) rfl (fun w k h => Tk.k0_set (.inr (.inr rfl)) h)
    (fun w k hk => stepG_close ho rfl (by simp [b40]) rfl (by rw [ha.eval]; exact h50) hk loud40)
  obtain ⟨e1, e2, e3, e4, e5, e6, e7, e8, e9, e10, ⟨kc, e11⟩, e12, e13, e14, e15, e16, e17, hB⟩ := cl
  have hlt : ∀ {b : Nat} {o : Obj}, w0.heap[b]? = some o → b < w0.heap.size := fun h => (Array.getElem?_eq_some_iff.1 h).1
  have hw : t.wg < w0.heap.size := hlt e10.2
  have hu : t.ub < w0.heap.size := hlt e10.1
  have h3 : t.c3 < w0.heap.size := hlt e11
  obtain ⟨k1, ho1⟩ := e12 t.c1 (.inl rfl) t.d13
  have h1 : t.c1 < w0.heap.size := hlt ho1
  replace hB : t.Bd ≤ w0.heap.size := hB
  have hb := e16.heap hcb
  have hdd := e16.heap hdb
  have ha' := ha.put (dst := none) rfl (.tuple #[])
  obtain ⟨a', hea⟩ : ∃ a', a' = a.put none (.tuple #[]) := ⟨_, rfl⟩
  rw [← hea] at ha' e1
  -- goroutine 0, to Wait's first mark
  have hMJ : ∃ mn, MJ (jn t bc a' w0 vb (.chan (some t.c3)) hc hd hu h1 hcd hw h3 hB hcw hb) 1 0 mn (G (b40.at a' (.inRegion o11 [] :: .code (.region 12 o12 false) :: [])) t.cs) w0 := by
    letI := PayB; letI := jShy t a' w0 t.cb hc hw hB
    refine ⟨3 + 1 + 1 + 1, .a1 ?_⟩
    have hst : ∀ w w', RPa 131 t.wg t.cb [vb] w w' → (Aside2 t.cb t.wg w0 w ∧ KPa 131 t.wg t.cb [vb] w) → (Aside2 t.cb t.wg w0 w' ∧ KPa 131 t.wg t.cb [vb] w') := fun w w' r h => ⟨h.1.trans r.aside, r.ka h.2⟩
    have hD : ∀ w : World, DPi (fun _ => True) t.wg t.cb w0.heap.size w w #[] := fun w => ⟨fun _ _ => rfl, by simp⟩
    have h0 : Aside2 t.cb t.wg w0 w0 ∧ KPa 131 t.wg t.cb [vb] w0 := ⟨⟨rfl, rfl, rfl, rfl, fun _ _ _ => rfl⟩, .inl (by have := e10.2; rw [hW] at this; exact this)⟩
    refine goes_ctlK (Kn := fun w => Aside2 t.cb t.wg w0 w ∧ KPa 131 t.wg t.cb [vb] w) hst hD rfl (fun w => stepG_region_end) ?_ w0 h0
    refine goes_ctlK hst hD rfl (fun w => stepG_region) ?_
    have hr : List.range o12.size = [0] := by kernel_rfl
    rw [hr]
    obtain ⟨ps2, af2, ats2, ty2, ho2⟩ := o12_0
    refine goes_ctlK hst hD rfl (g' := G ((base 60).at { tmps := #[.pointer (some ⟨t.wg, 0, none⟩), undef, undef, undef, undef, undef, undef, undef, undef, undef, undef, undef, undef, undef, undef, undef, undef, undef, undef, undef, undef, undef, undef, undef, undef, undef, undef, undef, undef, undef, undef, undef, undef, undef, undef, undef, undef, undef, undef, undef, undef, undef, undef, undef, undef, undef, undef, undef, undef, undef, undef, undef, undef, undef, undef, undef, undef, undef, undef, undef, undef, undef, undef, undef, undef, undef, undef, undef, undef, undef, undef, undef, undef, undef, undef, undef, undef, undef, undef, undef, undef, undef, undef, undef], defers := [] } [.code (Go.ConcX.Gen.body_wait wgl)]) (b40.at a' [.inRegion o12 [0]] :: t.cs)) (fun w => ?_) ?_
    · exact wait_step (by rw [ha'.eval]; simp [evR, putR, hF.w]) w
    · intro w hw
      exact Go.ConcX.Gen.waitStart (P := Tryz.prog) (L := wgl) wgLib (Low := w0.heap.size) (vals := [vb]) (F := fun w => Aside2 t.cb t.wg w0 w) (fun w w' h1 h2 => h2.trans h1) w hw
  obtain ⟨mn, hMJ⟩ := hMJ
  have hJ : JInv (jn t bc a' w0 vb (.chan (some t.c3)) hc hd hu h1 hcd hw h3 hB hcw hb) (7 - 0, n, Go.ConcN.sumTo gs.size q, rk 0 1, mn) (crowd gs w0 sl) T2 := by
    refine ⟨gs, w0, sl, q, _, y, 1, 0, mn, 0, 0, n, none, rfl, e1, e2, hMJ, .c0 e3 (Heads.more (fun w h => h.1) e4) ⟨e10.1, ⟨kc, e11⟩, k1, ho1⟩, ⟨e5, e6, e7, e8, e9, PastJ.ofK (Still := fun _ => False) e15 (fun _ h => h) (fun i hi => ?_), fun _ => hb, fun _ => hdd⟩, .inl ⟨by omega, by omega, by have := e10.2; rw [hW] at this; exact this⟩, rfl, by omega, rfl⟩
    obtain ⟨op, hop, hact⟩ := Option.map_eq_some_iff.1 hi
    exact e14 op (Array.mem_of_getElem? hop) _ ⟨_, rfl, rfl⟩ hact
  obtain ⟨N3, m3, T3, r3, gs3, w3, sl3, q3, a3, n3, rfl, z1, z2, z3, z4⟩ := join_runs hJ
  letI := PayB; letI := jShy t a' w0 t.cb hc hw hB
  obtain ⟨N4, gs4, a4, w4, sl4, T4, q4, r4, y1, y2, ⟨_, y3, y4⟩, y5, y6⟩ := walk_beside (P := Tryz.prog) (Shun := t.S) (B := w0.heap.size) (D := DPj (fun _ => True) t.wg t.cb w0.heap.size) (fun _ _ es hD e he => by
      obtain ⟨f1, f2, f3, f4⟩ := evL_of_EvJ (Shun := t.S) (B' := w0.heap.size) (fun _ h => h) (hD.2 e he)
      exact ⟨fun x hx hs => f1 x hx (.inl hs), f2, f3, f4⟩) _ n3 gs3 a3 w3 sl3 T3 q3 (Nat.le_refl _) z1 z3 z4 z2
  have hsub : ∀ b, (t.Jh b ∨ b = t.wg) → J b := fun b h => e17 b (.inr (.inr ⟨⟨b, 0, none⟩, rfl, .inl ⟨_, rfl, h⟩⟩))
  refine ⟨_, _, _, a'.put ((o12[0]?).bind (·.dst)) (.tuple #[]), runNT_then (runNT_then (runNT_then r1 r2) r3) r4, (by obtain ⟨_, _, _, _, ho2⟩ := o12_0; rw [ho2]; exact ha'.defers), gs4, w4, sl4, q4, fun b => t.Jh b ∨ b = t.wg, rfl, ?_, y5, ?_, ⟨fun {b o} h => ?_, fun b h => e16.hid b (hsub b h), fun b h => ?_⟩, ⟨y4.os.trans e13.os, y4.tape.trans e13.tape, y4.output.trans e13.output⟩, fun _ _ _ h => h.elim⟩
  · rw [y2, y3]
  · rw [y4.size]; exact y6
  · have hne : b ≠ t.wg := fun e => by
      subst e
      have := e16.hid _ (hsub t.wg (.inr rfl))
      rw [this] at h; cases h
    rw [y4.block b hne]
    exact e16.heap h
  · rw [y4.size]; exact e16.low b (hsub b h)
end
end Go.Qw
