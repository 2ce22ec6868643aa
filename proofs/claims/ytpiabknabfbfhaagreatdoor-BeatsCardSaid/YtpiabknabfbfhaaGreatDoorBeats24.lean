/- The law Beats of queuewire returns true for every three integers: the row over the given program, tied to its text; no condition besides. (Part 24 of 40: QwFeed17 QwFeed18.) -/
import Derived.Test.YtpiabknabfbfhaaGreatDoorBeats23
set_option linter.all false
-- feed: from its entry to the worker's birth.
namespace Go.Qw
open Go Go.Conc Go.Proofs
open Go.ConcX

/-- The world behind Add. -/
def wS (w : World) : World := (w.alloc (wgBlock 131 0 0)).setCell (stA w.heap.size) (.int .u64 KK)
theorem wS_old {w : World} {b : Nat} (h : b < w.heap.size) : (wS w).heap[b]? = w.heap[b]? := by
  rw [wS, setCell_ne _ _ (by show b ≠ w.heap.size; omega)]
  show (w.heap.push _)[b]? = _
  rw [Array.getElem?_push_lt h, Array.getElem?_eq_getElem h]
theorem wS_wg (w : World) : (wS w).heap[w.heap.size]? = some (wgBlock 131 KK 0) := by
  show (Array.modify (w.heap.push (wgBlock 131 0 0)) w.heap.size _)[w.heap.size]? = _
  rw [Array.getElem?_modify, if_pos rfl, Array.getElem?_push_size]
  simp [stA, wgBlock]
theorem wS_size (w : World) : (wS w).heap.size = w.heap.size + 1 := by
  show (Array.modify (w.heap.push (wgBlock 131 0 0)) w.heap.size _).size = _
  simp

section
variable {W : World} {τ σ : Hp} {m : Machine} {T : Trace} {bc : Nat} {ch : List UInt8} {cb kb sb ub db c1 c2 c3 : Nat} {cs : List Frame} {ρ : Rho} {a : Act} {l : List Value} {bg : Nat} {ph fr : Int}

/-- The part of the heap without the channels. -/
noncomputable def noCh (τ : Hp) (c1 c2 c3 : Nat) : Hp := τ.only fun b => b ≠ c1 ∧ b ≠ c2 ∧ b ≠ c3

set_option maxRecDepth 100000 in
theorem feed_begin (hSt : SoloSt Tryz.prog W (G (b40.at a [.code rest40]) cs) τ m T) (ha : Agree 52 a ρ []) (r2 : ρ 2 = .pointer (some ⟨cb, 0, none⟩)) (r3 : ρ 3 = .pointer (some ⟨kb, 0, none⟩)) (r4 : ρ 4 = .pointer (some ⟨sb, 0, none⟩)) (r5 : ρ 5 = .pointer (some ⟨ub, 0, none⟩)) (r6 : ρ 6 = .pointer (some ⟨db, 0, none⟩))
    (hE : Ent σ τ bc ch cb kb sb ub db c1 c2 c3) (hb : σ.f bc = some (.cells l.toArray 90 (0, 0))) (hcn : Cn bg ph fr l) (hp : ph ≠ 5) :
    ∃ (t : Tk) (hc : t.Ok t.cb) (hs : t.Ok t.sb) (hd : t.Ok t.db) (hb : t.Ok bc) (N : Nat) (m' : Machine) (T' : Trace), t.W = W ∧ t.c1 = c1 ∧ t.c2 = c2 ∧ t.c3 = c3 ∧ t.cb = cb ∧ t.sb = sb ∧ t.ub = ub ∧ t.db = db ∧ t.cs = cs ∧ t.wgo = wgBlock 131 KK 0 ∧ runNT Tryz.prog N m T = (.next m', T') ∧
      (t.B1 (fun b => b = t.wg) bc l hc hs hb).St t.j 0 (t.sS fr) (born Tryz.prog (call56 t.wg t.cb kb t.sb t.ub t.db)) (noCh τ c1 c2 c3) m' T' := by
  obtain ⟨gs, w, sl, q, J, rfl, e1, e2, e3, e4, e5, e6⟩ := hSt
  have hpos : 0 < gs.size := (Array.getElem?_eq_some_iff.1 e1).1
  obtain ⟨S, hS⟩ : ∃ S : Loc → Prop, S = fun l => ∃ x : Addr, l = .cell x ∧ (J x.block ∨ x.block = w.heap.size) := ⟨_, rfl⟩
  have hl0 : Lone Tryz.prog S (OfWg w.heap.size) (w.heap.size + 1) gs w T q 0 := by
    have h0 := Lone.of (Q := fun _ => False) hpos e2 e3 (fun _ _ _ h => h.elim)
    refine ⟨h0.pos, h0.crew, h0.above, h0.d0, (h0.past.mono (by omega)).shun (fun l ⟨x, h1, h2⟩ => by rw [hS]; exact ⟨x, h1, .inl h2⟩), fun op hop x ⟨y, hy, hyb⟩ hact => ?_⟩
    obtain rfl : y = x := by simpa using hy.symm
    have := h0.past.seen op hop
    rw [hact] at this
    have : y.block < w.heap.size := this
    omega
  have old : ∀ {b : Nat} {o : Obj}, τ.f b = some o → b < w.heap.size ∧ ¬ J b ∧ w.heap[b]? = some o := fun h => ⟨e4.lt h, e4.notJ h, e4.heap h⟩
  have hR1 : ∀ (v : World) (x : World) (dd : Nat), (∃ d, x = v.at d) → ∃ d, x.at dd = v.at d := fun v x dd ⟨d, h⟩ => ⟨dd, by rw [h]; rfl⟩
  have h0 : LS S (OfWg w.heap.size) (w.heap.size + 1) (G (b40.at a [.code rest40]) cs) 0 (fun x => ∃ d, x = w.at d) (crowd gs w sl) T := ⟨gs, w, sl, q, rfl, e1, hl0, w.drawn, rfl⟩
  -- the group's block
  have p1 := h0.ctl (g' := G (b40.at a [.code (.region 2 g2 false), .code (.seq (.region 3 g3 false) (.seq (.region 4 g4 false) main40))]) cs) rfl (hR1 w) (fun w => by rw [rest40_eq]; exact stepG_seq)
  have p2 := two p1 fun m T h => h.ctl (g' := G (b40.at a [.inRegion g2 [0], .code (.seq (.region 3 g3 false) (.seq (.region 4 g4 false) main40))]) cs) rfl (hR1 w) (fun w => by
    have hr : List.range g2.size = [0] := by kernel_rfl
    rw [← hr]; exact stepG_region)
  obtain ⟨ps, af, ty, ho⟩ := g2_0
  have p3 := two p2 fun m T h => h.step (g' := G (b40.at (a.put (some 7) (.pointer (some ⟨w.heap.size, 0, none⟩))) [.inRegion g2 [], .code (.seq (.region 3 g3 false) (.seq (.region 4 g4 false) main40))]) cs) (R' := fun x => ∃ d, x = (w.alloc (wgBlock 131 0 0)).at d) rfl (hR1 w) (fun x ⟨d, hx⟩ => by
    subst hx
    exact ⟨_, alloc_step ho _, d, rfl⟩)
  have ha7 := ha.put (dst := some 7) (by decide) (.pointer (some ⟨w.heap.size, 0, none⟩))
  obtain ⟨a7, ea7⟩ : ∃ a7, a7 = a.put (some 7) (.pointer (some ⟨w.heap.size, 0, none⟩)) := ⟨_, rfl⟩
  rw [← ea7] at p3 ha7
  have p4 := two p3 fun m T h => h.ctl (g' := G (b40.at a7 [.code (.seq (.region 3 g3 false) (.seq (.region 4 g4 false) main40))]) cs) rfl (hR1 _) (fun w => stepG_region_end)
  have p5 := two p4 fun m T h => h.ctl (g' := G (b40.at a7 [.code (.region 3 g3 false), .code (.seq (.region 4 g4 false) main40)]) cs) rfl (hR1 _) (fun w => stepG_seq)
  have p6 := two p5 fun m T h => h.ctl (g' := G (b40.at a7 [.inRegion g3 [0], .code (.seq (.region 4 g4 false) main40)]) cs) rfl (hR1 _) (fun w => by
    have hr : List.range g3.size = [0] := by kernel_rfl
    rw [← hr]; exact stepG_region)
  have v7 : a7.eval (.tmp 7) = .pointer (some ⟨w.heap.size, 0, none⟩) := by rw [ha7.eval]; simp [evR, putR, up]
  have p7 := two p6 fun m T h => h.ctl rfl (hR1 _) (fun w => add_step v7 w)
  -- Add
  have hcb := old hE.c
  have p8 : ∃ N m' T', runNT Tryz.prog N (crowd gs w sl) T = (.next m', T') ∧ LS S (OfWg w.heap.size) (w.heap.size + 1) (G (b40.at (a7.put ((g3[0]?).bind (·.dst)) (.tuple #[])) [.inRegion g3 [], .code (.seq (.region 4 g4 false) main40)]) cs) 0 (fun x => ∃ d, x = (wS w).at d) m' T' := by
    refine two p7 fun m T ⟨gs', w', sl', q', h1, h2, h3, d, h4⟩ => ?_
    subst h1 h4
    obtain ⟨N, gs2, w2, sl2, T2, q2, k1, k2, k3, k4, dd, k5⟩ := lone_add (C := cb) h3 h2 (by show (w.heap.push _)[w.heap.size]? = _; simp) (by omega) (by omega) (fun x hx hs => by
      rw [hS] at hs
      obtain ⟨y, hy, h⟩ := hs
      obtain rfl : y = x := by simpa using hy.symm
      rw [hx] at h
      rcases h with h | h
      · exact hcb.2.1 h
      · omega)
    exact ⟨N, _, T2, k1, gs2, w2, sl2, q2, rfl, k3, k4, dd, k5⟩
  obtain ⟨ps3, af3, ty3, ats3, ho3⟩ := g3_0
  have ed : (g3[0]?).bind (·.dst) = some 12 := by rw [ho3]; rfl
  rw [ed] at p8
  have ha8 := ha7.put (dst := some 12) (by decide) (.tuple #[])
  obtain ⟨a8, ea8⟩ : ∃ a8, a8 = a7.put (some 12) (.tuple #[]) := ⟨_, rfl⟩
  rw [← ea8] at p8 ha8
  have p9 := two p8 fun m T h => h.ctl (g' := G (b40.at a8 [.code (.seq (.region 4 g4 false) main40)]) cs) rfl (hR1 _) (fun w => stepG_region_end)
  have p10 := two p9 fun m T h => h.ctl (g' := G (b40.at a8 [.code (.region 4 g4 false), .code main40]) cs) rfl (hR1 _) (fun w => stepG_seq)
  have p11 := two p10 fun m T h => h.ctl (g' := G (b40.at a8 [.inRegion g4 [0, 1], .code main40]) cs) rfl (hR1 _) (fun w => by
    have hr : List.range g4.size = [0, 1] := by kernel_rfl
    rw [← hr]; exact stepG_region)
  have u7 : a8.eval (.tmp 7) = .pointer (some ⟨w.heap.size, 0, none⟩) := by rw [ha8.eval]; simp [evR, putR, up]
  have u2 : a8.eval (.tmp 2) = .pointer (some ⟨cb, 0, none⟩) := by rw [ha8.eval]; simp [evR, putR, up, r2]
  have u3 : a8.eval (.tmp 3) = .pointer (some ⟨kb, 0, none⟩) := by rw [ha8.eval]; simp [evR, putR, up, r3]
  have u4 : a8.eval (.tmp 4) = .pointer (some ⟨sb, 0, none⟩) := by rw [ha8.eval]; simp [evR, putR, up, r4]
  have u5 : a8.eval (.tmp 5) = .pointer (some ⟨ub, 0, none⟩) := by rw [ha8.eval]; simp [evR, putR, up, r5]
  have u6 : a8.eval (.tmp 6) = .pointer (some ⟨db, 0, none⟩) := by rw [ha8.eval]; simp [evR, putR, up, r6]
  have p12 := two p11 fun m T h => h.ctl rfl (hR1 _) (fun w => func_step u7 u2 u3 u4 u5 u6 w)
  have ha9 := ha8.put (dst := some 13) (by decide) (.func (.func 56) #[] (args56 w.heap.size cb kb sb ub db))
  obtain ⟨a9, ea9⟩ : ∃ a9, a9 = a8.put (some 13) (.func (.func 56) #[] (args56 w.heap.size cb kb sb ub db)) := ⟨_, rfl⟩
  rw [← ea9] at p12 ha9
  have u13 : a9.eval (.tmp 13) = .func (.func 56) #[] (args56 w.heap.size cb kb sb ub db) := by rw [ha9.eval]; simp [evR, putR, up]
  obtain ⟨N1, m1, T1, hr1, gs1, w1, sl1, q1, rfl, g1, l1, d1, rfl⟩ := p12
  have hpos1 := l1.pos
  have hub := old hE.u
  have hsb := old hE.s
  have hdb := old hE.d
  have hkb := old hE.k
  have hbc := old (hE.le _ _ hb)
  have hc1 := old hE.h1
  have hc2 := old hE.h2
  have hc3 := old hE.h3
  have nech : ∀ {x c : Nat} {o : Obj}, τ.f x = some o → τ.f c = some oCh → o ≠ oCh → x ≠ c := fun h1 h2 h3 e => by rw [e, h2] at h1; exact h3 (Option.some.inj h1).symm
  have nb : ∀ {x y : Nat} {o p : Obj}, τ.f x = some o → τ.f y = some p → o ≠ p → x ≠ y := fun h1 h2 h3 e => by rw [e, h2] at h1; exact h3 (Option.some.inj h1).symm
  have oc : ∀ {c : Array Value} {e : Nat} {z : Nat × Nat}, Obj.cells c e z ≠ oCh := fun h => by simp [oCh] at h
  let t : Tk := { W := W, j := gs1.size, c1 := c1, c2 := c2, c3 := c3, cb := cb, sb := sb, ub := ub, db := db, wg := w.heap.size, Jh := J, Bd := w.heap.size + 1, cs := cs, cw := [], wgo := wgBlock 131 KK 0, hj := hpos1, d12 := hE.d12, d13 := hE.d13, d23 := hE.d23
                  hub := ⟨nech hE.u hE.h1 oc, nech hE.u hE.h2 oc, nech hE.u hE.h3 oc, by omega, hub.2.1, by omega⟩
                  hwg := ⟨by omega, by omega, by omega⟩ }
  have ok : ∀ {x : Nat} {c : Array Value} {e : Nat} {z : Nat × Nat}, τ.f x = some (.cells c e z) → e ≠ 120 → t.Ok x := fun h he => by
    have ho := old h
    exact ⟨nech h hE.h1 oc, nech h hE.h2 oc, nech h hE.h3 oc, by show _ ≠ w.heap.size; omega, nb h hE.u (fun e => by simp at e; exact he e.2.1), ho.2.1, by show _ < w.heap.size + 1; omega⟩
  have okc : t.Ok t.cb := ok hE.c (by decide)
  have oks : t.Ok t.sb := ok hE.s (by decide)
  have okd : t.Ok t.db := ok hE.d (by decide)
  have okb : t.Ok bc := ok (hE.le _ _ hb) (by decide)
  have heap1 : ∀ {b : Nat} {o : Obj}, τ.f b = some o → ((wS w).at d1).heap[b]? = some o := fun h => (wS_old (old h).1).trans (old h).2.2
  have hK1 : t.K1 bc l ((wS w).at d1) := ⟨⟨heap1 hE.u, wS_wg w⟩, heap1 hE.c, heap1 hE.s, (l[3]?).getD undef, by
    have : l.set 3 ((l[3]?).getD undef) = l := by
      apply List.ext_getElem?
      intro i
      rw [List.getElem?_set]
      split
      · rename_i h; subst h
        have : 3 < l.length := by rw [hcn.len]; decide
        simp [this]
      · rfl
    rw [this]; exact heap1 (hE.le _ _ hb)⟩
  have hh : ∃ n, Heads Tryz.prog true (t.B1 (fun b => b = t.wg) bc l okc oks okb).KW (t.B1 (fun b => b = t.wg) bc l okc oks okb).Still (t.B1 (fun b => b = t.wg) bc l okc oks okb).B (t.sS fr) n (G (b40.at a9 [.inRegion g4 [], .code main40]) cs) := by
    refine ⟨_, .inl ⟨_, rfl, Way.ctl (n := 25) (fun w => stepG_region_end) rfl ?_⟩⟩
    rw [main40_eq]
    refine Way.ctl (fun w => stepG_seq) rfl ?_
    refine Way.ctl (fun w => stepG_block) rfl ?_
    refine Way.ctl (fun w => stepG_loop) rfl ?_
    refine way_send (bc := bc) (bg := bg) (ph := ph) (fr := fr) hp (fun w ⟨h1, h2, h3, r, h4⟩ => ⟨⟨fun b => w.heap[b]?⟩, ⟨h2, h3, _, _, h4, ⟨?_, ?_, ?_, ?_⟩⟩, fun _ _ h => h⟩) (fun a ha => ⟨.inr ⟨a, rfl, ha⟩, (Tk.rd_ok okc oks okb ha).lt⟩) ha9 ⟨?_, ?_, ?_, ?_, ?_⟩
    · have := u2; rw [ha8.eval] at this; simpa [putR, up, evR] using this
    · have := u4; rw [ha8.eval] at this; simpa [putR, up, evR] using this
    · have := u5; rw [ha8.eval] at this; simpa [putR, up, evR] using this
    · have := u6; rw [ha8.eval] at this; simpa [putR, up, evR] using this
    · simp only [putR, up]; rfl
    · simpa using hcn.len
    · simpa using hcn.g
    · simpa using hcn.ph
    · simpa using hcn.fr
  obtain ⟨n, hh⟩ := hh
  have hS' : (t.B1 (fun b => b = t.wg) bc l okc oks okb).S = S := by rw [hS]; rfl
  have hsees : Sees (fun b => J b ∨ b = w.heap.size ∨ b = c1 ∨ b = c2 ∨ b = c3) ((wS w).at d1) (noCh τ c1 c2 c3) := by
    refine ⟨fun {b o} h => heap1 (Hp.only_le _ _ _ _ h), fun b hb => ?_, fun b hb => ?_⟩
    · simp only [noCh, Hp.only]
      split
      · rename_i hne
        rcases hb with hb | rfl | rfl | rfl | rfl
        · exact e4.hid b hb
        · cases e : τ.f w.heap.size with
          | none => rfl
          | some o => exact absurd (old e).1 (by omega)
        · exact absurd rfl hne.1
        · exact absurd rfl hne.2.1
        · exact absurd rfl hne.2.2
      · rfl
    · show b < (wS w).heap.size
      rw [wS_size]
      rcases hb with hb | rfl | rfl | rfl | rfl
      · have := e4.low b hb; omega
      · omega
      · omega
      · omega
      · omega
  have hhid : ∀ b, (t.B1 (fun b => b = t.wg) bc l okc oks okb).Hid b → (fun b => J b ∨ b = w.heap.size ∨ b = c1 ∨ b = c2 ∨ b = c3) b := by
    intro b hb
    rcases hb with hb | hb | ⟨x, hx, hb | hb⟩
    · exact .inr (.inl hb)
    · rcases hb with rfl | rfl | rfl
      · exact .inr (.inr (.inl rfl))
      · exact .inr (.inr (.inr (.inl rfl)))
      · exact .inr (.inr (.inr (.inr rfl)))
    · obtain ⟨y, hy, h⟩ := hb
      obtain rfl : y = x := by simpa using hy.symm
      rcases h with h | h
      · exact .inl (hx ▸ h)
      · exact .inr (.inl (hx ▸ h))
    · obtain ⟨y, hy, h⟩ := hb
      obtain rfl : y = x := by simpa using hy.symm
      exact .inr (.inl (hx ▸ h))
  obtain ⟨N2, m2, T2, hr2, st2⟩ := l1.spawn g1 rfl sl1 (fun dd => go_step u13 _) (D := t.B1 (fun b => b = t.wg) bc l okc oks okb) (s := t.sS fr) (σ := noCh τ c1 c2 c3) (J := fun b => J b ∨ b = w.heap.size ∨ b = c1 ∨ b = c2 ∨ b = c3) rfl (by show _ ≤ (wS w).heap.size; rw [wS_size]; exact Nat.le_refl _) hS' rfl hh hK1
    (fun c hcc => by
      rcases hcc with rfl | rfl | rfl
      · exact ⟨0, heap1 hE.h1⟩
      · exact ⟨0, heap1 hE.h2⟩
      · exact ⟨0, heap1 hE.h3⟩) (by show _ ≤ (wS w).heap.size; rw [wS_size]; exact Nat.le_refl _) ⟨e5.os, e5.tape, e5.output⟩
    hsees hhid
  exact ⟨t, okc, oks, okd, okb, _, m2, T2, rfl, rfl, rfl, rfl, rfl, rfl, rfl, rfl, rfl, rfl, runNT_then hr1 hr2, st2⟩
end
end Go.Qw
-- feed: its contract.
namespace Go.Qw
open Go Go.Conc Go.Proofs
open Go.ConcX (wgBlock KK)

set_option maxRecDepth 100000 in
/-- ████ THE CONTRACT OF feed. ████ -/
theorem feed_c (F : FS) {W : World} {a : F.γ} {σ0 φ0 : Hp} {ch : List UInt8} (hok : F.okc a ch) (hI : F.I a σ0) (hd : σ0.Dis φ0) (hp : F.ph a ≠ 5) (hn : ch.length ≤ 4611686018427387904) :
    CallsE (solo Tryz.prog W) 40 #[.pointer (some ⟨F.bc, 0, none⟩), .string (B ch)] (σ0.uni φ0) fun e τ => e = .returned (.tuple #[]) ∧ ∃ a' σ', F.Loop (F.add a ch) a' ∧ F.I a' σ' ∧ σ'.Dis φ0 ∧ τ = σ'.uni φ0 := by
  intro cs m T hm
  obtain ⟨N1, m1, T1, g1, τ, hr1, st1, cb, kb, sb, ub, db, c1, c2, c3, hE, ρ, ac, ha, r2, r3, r4, r5, r6, rfl⟩ := entry (E := solo Tryz.prog W) (σ := σ0.uni φ0) (bc := F.bc) (ch := ch) (cs := cs) m T hm
  obtain ⟨l, hl, hcn, hl3⟩ := F.conn hI
  obtain ⟨t, okc, oks, okd, okb, N2, m2, T2, z0, z1, z2, z3, z4, z5, z6, z7, z8, z9, hr2, st2⟩ := feed_begin (W := W) (bg := F.bg) (ph := F.ph a) (fr := F.fr a) st1 ha r2 r3 r4 r5 r6 hE (Hp.uni_some hl) hcn hp
  subst z1 z2 z3 z4 z5 z6 z7
  have s0 : ∀ {b : Nat}, (σ0.uni φ0).f b = none → σ0.f b = none := fun h => fresh_of_le (Hp.le_uni σ0 φ0) h
  have p0 : ∀ {b : Nat}, (σ0.uni φ0).f b = none → φ0.f b = none := fun h => by
    have := s0 h
    rw [Hp.uni_none this] at h; exact h
  -- what stands beside
  obtain ⟨φ, hφ⟩ : ∃ φ, φ = ((φ0.set t.cb (.cells #[.pointer (some ⟨F.bc, 0, none⟩)] 70 (0, 0))).set t.sb (.cells #[.chan (some t.c1)] 119 (0, 0))).set t.db (.cells #[.chan (some t.c3)] 121 (0, 0)) := ⟨_, rfl⟩
  have nb : ∀ {x y : Nat} {o p : Obj}, τ.f x = some o → τ.f y = some p → o ≠ p → x ≠ y := fun h1 h2 h3 e => by rw [e, h2] at h1; exact h3 (Option.some.inj h1).symm
  have ncs : t.cb ≠ t.sb := nb hE.c hE.s (by simp)
  have ncd : t.cb ≠ t.db := nb hE.c hE.d (by simp)
  have nsd : t.sb ≠ t.db := nb hE.s hE.d (by simp)
  have nuc : t.ub ≠ t.cb := nb hE.u hE.c (by simp)
  have nus : t.ub ≠ t.sb := nb hE.u hE.s (by simp)
  have nud : t.ub ≠ t.db := nb hE.u hE.d (by simp)
  have fc : φ.f t.cb = some (.cells #[.pointer (some ⟨F.bc, 0, none⟩)] 70 (0, 0)) := by rw [hφ]; simp [Hp.set, ncs, ncd]
  have fs : φ.f t.sb = some (.cells #[.chan (some t.c1)] 119 (0, 0)) := by rw [hφ]; simp [Hp.set, nsd]
  have fd : φ.f t.db = some (.cells #[.chan (some t.c3)] 121 (0, 0)) := by rw [hφ]; simp [Hp.set]
  have fo : ∀ {b : Nat}, b ≠ t.cb → b ≠ t.sb → b ≠ t.db → φ.f b = φ0.f b := fun h1 h2 h3 => by rw [hφ]; simp [Hp.set, h1, h2, h3]
  have hle0 : φ0.le φ := by
    intro b o hb
    have h1 : b ≠ t.cb := fun e => by rw [e, p0 hE.nc] at hb; cases hb
    have h2 : b ≠ t.sb := fun e => by rw [e, p0 hE.ns] at hb; cases hb
    have h3 : b ≠ t.db := fun e => by rw [e, p0 hE.nd] at hb; cases hb
    rw [fo h1 h2 h3]; exact hb
  have hdφ : σ0.Dis φ := by
    intro b
    by_cases h1 : b = t.cb
    · subst h1; exact .inl (s0 hE.nc)
    by_cases h2 : b = t.sb
    · subst h2; exact .inl (s0 hE.ns)
    by_cases h3 : b = t.db
    · subst h3; exact .inl (s0 hE.nd)
    rw [fo h1 h2 h3]; exact hd b
  have hbx : Bx F t.cb t.sb t.db t.c1 t.c3 φ := ⟨fc, fs, fd⟩
  have hub : (σ0.uni φ).f t.ub = none := by
    rw [Hp.uni_none (s0 hE.nu), fo nuc nus nud]; exact p0 hE.nu
  have notc : ∀ {b : Nat} {o : Obj}, τ.f b = some o → o ≠ oCh → b ≠ t.c1 ∧ b ≠ t.c2 ∧ b ≠ t.c3 := fun h ho => ⟨nb h hE.h1 ho, nb h hE.h2 ho, nb h hE.h3 ho⟩
  have inn : ∀ {b : Nat} {o : Obj}, τ.f b = some o → b ≠ t.c1 ∧ b ≠ t.c2 ∧ b ≠ t.c3 → (noCh τ t.c1 t.c2 t.c3).f b = some o := fun h hb => Hp.only_some h hb
  have oc : ∀ {c : Array Value} {e : Nat} {z : Nat × Nat}, Obj.cells c e z ≠ oCh := fun h => by simp [oCh] at h
  have cellIn : ∀ {b : Nat} {c : Array Value} {e : Nat} {z : Nat × Nat}, τ.f b = some (.cells c e z) → (noCh τ t.c1 t.c2 t.c3).f b = some (.cells c e z) := fun h => inn h (notc h oc)
  have hle : (σ0.uni φ).le (noCh τ t.c1 t.c2 t.c3) := by
    intro b o hb
    by_cases h1 : b = t.cb
    · subst h1; rw [Hp.uni_none (s0 hE.nc), fc] at hb; cases hb; exact cellIn hE.c
    by_cases h2 : b = t.sb
    · subst h2; rw [Hp.uni_none (s0 hE.ns), fs] at hb; cases hb; exact cellIn hE.s
    by_cases h3 : b = t.db
    · subst h3; rw [Hp.uni_none (s0 hE.nd), fd] at hb; cases hb; exact cellIn hE.d
    have hb0 : (σ0.uni φ0).f b = some o := by
      simp only [Hp.uni] at hb ⊢
      rw [fo h1 h2 h3] at hb; exact hb
    refine inn (hE.le _ _ hb0) ⟨?_, ?_, ?_⟩
    · intro e; rw [e, hE.n1] at hb0; cases hb0
    · intro e; rw [e, hE.n2] at hb0; cases hb0
    · intro e; rw [e, hE.n3] at hb0; cases hb0
  have hW : Bw t F.bc kb l ch (noCh τ t.c1 t.c2 t.c3) := ⟨cellIn hE.c, cellIn hE.k, cellIn hE.s, cellIn hE.u, cellIn hE.d, cellIn (hE.le _ _ (Hp.uni_some hl))⟩
  obtain ⟨N3, m3, T3, a', σ', g', cw, hr3, hloop, hI', hd', hcw, hT', st3⟩ := feed_talk F hok hI hdφ hbx hub hp hle hW hn hl3 hcn hl st2
  have ok' : ∀ {b : Nat}, t.Ok b → Tk.Ok { t with cw := cw } b := fun h => ⟨h.n1, h.n2, h.n3, h.nw, h.nu, h.nj, h.lt⟩
  obtain ⟨N4, m4, T4, a4, hr4, hdf, st4⟩ := feed_join (t := { t with cw := cw }) (bc := F.bc) (σ := σ'.uni φ) (vb := .pointer (some ⟨F.bc, 0, none⟩)) z9 (ok' okc) (ok' okd) ncd hcw (Hp.le_uni_right hd' _ _ fc) (Hp.le_uni_right hd' _ _ fd) hT' st3
  have hlef : (σ'.uni φ0).le (σ'.uni φ) := by
    intro b o hb
    rcases Hp.uni_cases hb with h1 | ⟨h1, h2⟩
    · exact Hp.uni_some h1
    · rw [Hp.uni_none h1]; exact hle0 _ _ h2
  have hdf' : σ'.Dis φ0 := by
    intro b
    rcases hd' b with h | h
    · exact .inl h
    · right
      cases e : φ0.f b with
      | none => rfl
      | some o => rw [hle0 _ _ e] at h; cases h
  -- out
  have hrun : Runs (solo Tryz.prog W) (G (b40.at a4 [.inRegion o12 []]) cs) (σ'.uni φ) fun g τ => ∃ e fr, g = G fr cs ∧ fr.fn = 40 ∧ Leaving Tryz.prog fr τ e ∧ (e = .returned (.tuple #[]) ∧ ∃ a' σ', F.Loop (F.add a ch) a' ∧ F.I a' σ' ∧ σ'.Dis φ0 ∧ τ = σ'.uni φ0) := by
    refine Runs.weak (τ := σ'.uni φ0) ?_ hlef
    refine Runs.ctl (fun w => stepG_region_end) rfl rfl ?_
    refine Runs.ctl (fun w => stepG_end) rfl rfl (Runs.here ⟨.returned (.tuple #[]), _, rfl, rfl, ⟨rfl, hdf, rfl, _, Tryz.func40, ?_⟩, rfl, a', σ', hloop, hI', hdf', rfl⟩)
    have : (results Tryz.f40 a4.tmps) = pure (.tuple #[]) := by simp [results, Tryz.f40]
    show wpS Tryz.prog (results Tryz.f40 a4.tmps) _ _ _
    rw [this]
    exact ⟨rfl, rfl⟩
  have st4' : SoloSt Tryz.prog t.W (G (b40.at a4 [.inRegion o12 []]) t.cs) (σ'.uni φ) m4 T4 := st4
  rw [z0, z8] at st4'
  obtain ⟨N5, m5, T5, g5, σ5, hr5, st5, hfin⟩ := hrun m4 T4 st4'
  exact ⟨_, m5, T5, g5, σ5, runNT_then (runNT_then (runNT_then (runNT_then hr1 hr2) hr3) hr4) hr5, st5, hfin⟩
end Go.Qw
