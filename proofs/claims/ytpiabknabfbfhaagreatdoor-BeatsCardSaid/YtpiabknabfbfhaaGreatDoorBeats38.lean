/- The law Beats of queuewire returns true for every three integers: the row over the given program, tied to its text; no condition besides. (Part 38 of 40: QwHelloFS QwHello2 QwHello3 QwBeats1 QwBeats2.) -/
import Derived.Test.YtpiabknabfbfhaaGreatDoorBeats31
import Derived.Test.YtpiabknabfbfhaaGreatDoorBeats33
import Derived.Test.YtpiabknabfbfhaaGreatDoorBeats34
import Derived.Test.YtpiabknabfbfhaaGreatDoorBeats35
import Derived.Test.YtpiabknabfbfhaaGreatDoorBeats36
import Derived.Test.YtpiabknabfbfhaaGreatDoorBeats37
set_option linter.all false
-- feed at the hello of the statements: its steps.
namespace Go.Qw
open Go Go.Conc Go.Proofs

def cfg5 : Cfg := ⟨4, 200, 50, 50, 1000⟩
structure Ad where
  g : Nat
  br : Nat
  mc : Nat
  mq : Nat
  c : Nat
  chm : Nat
  o0 : Obj
  e1 : Nat
  L1 : List Value
def HL (A : Ad) (cr : CR) (M Q : Obj) (ex : List (Nat × Obj)) : List (Nat × Obj) :=
  [(A.c, connO A.g 1 A.chm cr), (A.chm, M), (A.mq, Q), (A.g, gwO cfg5 A.br A.mc 0 1), (A.br, brO A.mq 50 0 0), (A.mc, kmap keyI [(1, pV A.c, 0)] 1), (0, A.o0), (1, .cells A.L1.toArray A.e1 (0, 0))] ++ ex
def E0 : Obj := kmap keyI [] 0
def S0 : Obj := kmap keyS [] 0
def Z0 : HR := ⟨false, 0, 0, 0, [], [], 0⟩
def Q0 : Obj := queueO [113] (.slice none 0 0) 0 0 (.slice none 0 0)
def M1 (h : Nat) : Obj := kmap keyI [(1, pV h, 0)] 1
def M2 (q : Nat) : Obj := kmap keyS [([113], pV q, 0)] 1
inductive HSt (A : Ad) : Nat → CR → Hp → Prop
  | few {n cr σ} (hn : n ≤ 4) (h : Has (HL A cr E0 S0 []) σ) : HSt A n cr σ
  | five {cr σ h un co} (hh : Has (HL A cr (M1 h) S0 [(h, chanO A.c 1 un co Z0), (co, S0), (un, E0)]) σ) : HSt A 5 cr σ
  | six {cr σ q h un co} (hh : Has (HL A cr (M1 h) (M2 q) [(q, Q0), (h, chanO A.c 1 un co Z0), (co, S0), (un, E0)]) σ) : HSt A 6 cr σ

theorem Has.new_at {A B : List (Nat × Obj)} {σ : Hp} {b : Nat} (h : Has (A ++ B) σ) (hb : σ.f b = none) (o : Obj) : Has (A ++ (b, o) :: B) (σ.set b o) := (h.new hb o).perm List.perm_middle
theorem Has.drop_at {A B : List (Nat × Obj)} {σ : Hp} {x : Nat × Obj} (h : Has (A ++ x :: B) σ) : Has (A ++ B) σ := h.sub (List.Sublist.append_left (List.sublist_cons_self x B) A)

section
variable {A : Ad} {cr cr' : CR} {M Q : Obj} {ex : List (Nat × Obj)} {σ τ : Hp} {n : Nat}
theorem HL.conn (h : Has (HL A cr M Q ex) σ) : σ.f A.c = some (connO A.g 1 A.chm cr) := h.at 0 rfl
theorem HL.gw (h : Has (HL A cr M Q ex) σ) : σ.f A.g = some (gwO cfg5 A.br A.mc 0 1) := h.at 3 rfl
theorem HL.set (h : Has (HL A cr M Q ex) σ) (cr' : CR) : Has (HL A cr' M Q ex) (σ.set A.c (connO A.g 1 A.chm cr')) := h.set 0 rfl _
theorem HL.setM (h : Has (HL A cr M Q ex) σ) (M' : Obj) : Has (HL A cr M' Q ex) (σ.set A.chm M') := h.set 1 rfl _
theorem HL.setQ (h : Has (HL A cr M Q ex) σ) (Q' : Obj) : Has (HL A cr M Q' ex) (σ.set A.mq Q') := h.set 2 rfl _
theorem HL.new (h : Has (HL A cr M Q ex) σ) {b : Nat} (hb : σ.f b = none) (o : Obj) : Has (HL A cr M Q ((b, o) :: ex)) (σ.set b o) := h.new_at hb o
theorem HL.drop {x : Nat × Obj} (h : Has (HL A cr M Q (x :: ex)) σ) : Has (HL A cr M Q ex) σ := h.drop_at
theorem HL.set8 {b : Nat} {o : Obj} (h : Has (HL A cr M Q ((b, o) :: ex)) σ) (o' : Obj) : Has (HL A cr M Q ((b, o') :: ex)) (σ.set b o') := h.set 8 rfl _
theorem HSt.le (h : HSt A n cr σ) (k : σ.le τ) : HSt A n cr τ := by
  cases h with
  | few hn h => exact .few hn (h.le k)
  | five h => exact .five (h.le k)
  | six h => exact .six (h.le k)
theorem HSt.conn (h : HSt A n cr σ) : σ.f A.c = some (connO A.g 1 A.chm cr) := by
  cases h with
  | few hn h => exact HL.conn h
  | five h => exact HL.conn h
  | six h => exact HL.conn h
theorem HSt.gw (h : HSt A n cr σ) : σ.f A.g = some (gwO cfg5 A.br A.mc 0 1) := by
  cases h with
  | few hn h => exact HL.gw h
  | five h => exact HL.gw h
  | six h => exact HL.gw h
theorem HSt.set (h : HSt A n cr σ) (cr' : CR) : HSt A n cr' (σ.set A.c (connO A.g 1 A.chm cr')) := by
  cases h with
  | few hn h => exact .few hn (HL.set h cr')
  | five h => exact .five (HL.set h cr')
  | six h => exact .six (HL.set h cr')
theorem HSt.serve (h : HSt A n cr σ) {E : Env Tryz.prog} : CallsE E 54 #[pV A.br] σ fun e τ => e = .returned (.tuple #[]) ∧ τ = σ := by
  cases h with
  | few hn h => exact serve54_c (qs := []) (h.at 4 rfl) (h.at 2 rfl) (by simp) (by simp) (by simp) rfl (by intro q hq; cases hq)
  | five h => exact serve54_c (qs := []) (h.at 4 rfl) (h.at 2 rfl) (by simp) (by simp) (by simp) rfl (by intro q hq; cases hq)
  | @six cr σ q hh un co h =>
    refine serve54_c (qs := [q]) (h.at 4 rfl) (h.at 2 rfl) (by simp) (by simp) (by simp) rfl ?_
    intro x hx
    obtain rfl : x = q := by simpa using hx
    exact ⟨_, _, _, _, _, _, h.at 8 rfl⟩
end

/- the script -/
def fl1 (h : Nat) : List UInt8 := callL 0 10 31 (beB 2 4 ++ beB 4 64 ++ beB 2 h)
def fl2 : List UInt8 := callL 0 10 40 (beB 1 1 ++ [47])
def fl3 : List UInt8 := callL 1 20 10 (beB 1 0)
def fl4 : List UInt8 := callL 1 50 10 (beB 1 1 ++ [113])
def hr (h : Nat) : Nat → List UInt8
  | 1 => greetB ++ (fl1 h ++ (fl2 ++ (fl3 ++ fl4)))
  | 2 => fl1 h ++ (fl2 ++ (fl3 ++ fl4))
  | 3 => fl2 ++ (fl3 ++ fl4)
  | 4 => fl3 ++ fl4
  | 5 => fl4
  | _ => []
def ot2 : List UInt8 := callB 0 10 30 [.short 4, .long 200, .short 50]
def ot4 : List UInt8 := ot2 ++ callB 0 10 41 [.text []]
def ot5 : List UInt8 := ot4 ++ callB 1 20 11 [.long 0]
def ot6 : List UInt8 := ot5 ++ callB 1 50 11 [.text [113], .long 0, .long 0]
def hcr (h : Nat) : Nat → CR
  | 0 => ⟨0, [], false, 0, 200, 0, 0, 0, []⟩
  | 1 => ⟨0, hr h 1, false, 0, 200, 0, 0, 0, []⟩
  | 2 => ⟨1, hr h 2, true, 0, 200, 0, 0, 0, ot2⟩
  | 3 => ⟨2, hr h 3, true, 4, 64, h, 0, 0, ot2⟩
  | 4 => ⟨3, hr h 4, true, 4, 64, h, 0, 0, ot4⟩
  | 5 => ⟨3, hr h 5, true, 4, 64, h, 0, 0, ot5⟩
  | _ => ⟨3, [], true, 4, 64, h, 0, 0, ot6⟩
def pend (h n : Nat) : CR := { hcr h n with rest := hr h (n + 1), greeted := true }
def hu (h : Nat) : Nat → Un
  | 1 => ⟨0, 0, [], true, false⟩
  | 2 => ⟨1, 0, beB 2 10 ++ beB 2 31 ++ (beB 2 4 ++ beB 4 64 ++ beB 2 h), false, false⟩
  | 3 => ⟨1, 0, beB 2 10 ++ beB 2 40 ++ (beB 1 1 ++ [47]), false, false⟩
  | 4 => ⟨1, 1, beB 2 20 ++ beB 2 10 ++ beB 1 0, false, false⟩
  | _ => ⟨1, 1, beB 2 50 ++ beB 2 10 ++ (beB 1 1 ++ [113]), false, false⟩
theorem hello_hr (h : Nat) : helloB h = hr h 1 := by simp [helloB, hr, fl1, fl2, fl3, fl4]
theorem hr_small (h n : Nat) : (hr h n).length ≤ 1000000 := by
  have l1 : (fl1 h).length = 20 := by rw [fl1, callL_length]; simp [beB_length]
  have l2 : fl2.length = 14 := by decide
  have l3 : fl3.length = 13 := by decide
  have l4 : fl4.length = 14 := by decide
  unfold hr
  split <;> simp only [List.length_append, l1, l2, l3, l4, greetB, List.length_cons, List.length_nil] <;> omega
theorem hcr_rest (h n : Nat) (h0 : n ≤ 6) : (hcr h n).rest = hr h n := by
  match n, h0 with
  | 0, _ => rfl
  | 1, _ => rfl
  | 2, _ => rfl
  | 3, _ => rfl
  | 4, _ => rfl
  | 5, _ => rfl
  | 6, _ => rfl
theorem next_hr (h n : Nat) (h1 : 1 ≤ n) (h5 : n ≤ 5) : nextU (hcr h n).greeted (hr h n) (hcr h n).frame = (hu h n, true, hr h (n + 1)) := by
  match n, h1, h5 with
  | 1, _, _ => exact nextU_greet _ _
  | 2, _, _ => exact nextU_frame (k := 1) (ch := 0) (by decide) (by decide) (by simp [beB_length]) (by simp [beB_length, hcr])
  | 3, _, _ => exact nextU_frame (k := 1) (ch := 0) (by decide) (by decide) (by simp [beB_length]) (by simp [beB_length, hcr])
  | 4, _, _ => exact nextU_frame (k := 1) (ch := 1) (by decide) (by decide) (by simp [beB_length]) (by simp [beB_length, hcr])
  | 5, _, _ =>
    have := nextU_frame (k := 1) (ch := 1) (p := beB 2 50 ++ beB 2 10 ++ (beB 1 1 ++ [113])) (rest := []) (size := 64) (by decide) (by decide) (by simp [beB_length]) (by simp [beB_length])
    rw [List.append_nil] at this
    exact this
end Go.Qw
-- feed at the hello of the statements: the units.
namespace Go.Qw
open Go Go.Conc Go.Proofs
theorem pend_out (h n : Nat) : (pend h n).out.length ≤ 1000000 := by
  show (hcr h n).out.length ≤ 1000000
  unfold hcr
  split <;> dsimp only <;> decide
section
variable {A : Ad} {cr cr' : CR} {M Q : Obj} {ex : List (Nat × Obj)} {σ τ : Hp} {n h : Nat} {E : Env Tryz.prog}

/-- framed and handle at a method's frame, at the record. -/
theorem unit_method {ch cl me : Nat} {p : List UInt8} {R : Hp → Prop} (hc : σ.f A.c = some (connO A.g 1 A.chm cr)) (hcl : cl < 65536) (hme : me < 65536) (hup : ∀ σ τ : Hp, R σ → σ.le τ → R τ)
    (hcall : ∀ bf, σ.f bf = none → ((cr.ph = 1 ∨ cr.ph = 2) ∧ ∀ E : Env Tryz.prog, CallsE E 190 #[pV A.c, pV bf] (σ.set bf (frO ⟨⟨1, ch, beB 2 cl ++ beB 2 me ++ p, false, false⟩, p, cl, me⟩)) fun e τ => e = .returned .nilIface ∧ R τ) ∨
      (cr.ph = 3 ∧ (ch : Int) ≠ 0 ∧ ∀ E : Env Tryz.prog, CallsE E 192 #[pV A.c, pV bf] (σ.set bf (frO ⟨⟨1, ch, beB 2 cl ++ beB 2 me ++ p, false, false⟩, p, cl, me⟩)) fun e τ => e = .returned .nilIface ∧ R τ)) :
    CallsE E 59 #[pV A.c, uV ⟨1, ch, beB 2 cl ++ beB 2 me ++ p, false, false⟩] σ fun e τ => e = .returned (.tuple #[]) ∧ R τ := by
  refine unit59_framed rfl rfl (by show (1 : Int) ≠ 8; decide) (framed107_c fun bf hbf => ?_)
  have nb : ¬ A.c = bf := fun e => by subst e; rw [hc] at hbf; cases hbf
  refine handle150_c (s1 := beB 2 me ++ p) (s2 := p) (n1 := cl) (n2 := me) ((Hp.f_ne nb).trans hc) (Hp.f_set_same _ _) rfl (by simp [beB_length]; omega) ?_ ?_ rfl hup ?_
  · show pNumber 2 (beB 2 cl ++ beB 2 me ++ p) = _
    rw [List.append_assoc]; exact pNumber_beB hcl
  · exact pNumber_beB hme
  · rw [Hp.set_set]
    exact hcall bf hbf
theorem step1 (hs : HSt A 1 (pend h 1) σ) : CallsE E 59 #[pV A.c, uV (hu h 1)] σ fun e τ => e = .returned (.tuple #[]) ∧ HSt A 2 (hcr h 2) τ := by
  cases hs with
  | few hn hh =>
    refine (unit59_greet (k1 := 4) (k2 := 200) (k3 := 50) rfl rfl (HL.gw hh) (HL.conn hh) rfl rfl rfl (by decide) (by decide) (by decide) (pend_out _ _)).mono fun e τ ⟨h1, h2⟩ => ⟨h1, ?_⟩
    subst h2
    exact .few (by decide) (HL.set hh (hcr h 2))
theorem step2 (hh50 : h ≤ 50) (hs : HSt A 2 (pend h 2) σ) : CallsE E 59 #[pV A.c, uV (hu h 2)] σ fun e τ => e = .returned (.tuple #[]) ∧ HSt A 3 (hcr h 3) τ := by
  cases hs with
  | few hn hh =>
    refine unit_method (cr := pend h 2) (ch := 0) (cl := 10) (me := 31) (HL.conn hh) (by decide) (by decide) (fun _ _ a b => a.le b) fun bf hbf => .inl ⟨.inl rfl, fun E => ?_⟩
    have h1 := HL.new hh hbf (frO ⟨⟨1, (0 : Nat), beB 2 10 ++ beB 2 31 ++ (beB 2 4 ++ beB 4 64 ++ beB 2 h), false, false⟩, beB 2 4 ++ beB 4 64 ++ beB 2 h, (10 : Nat), (31 : Nat)⟩)
    have p3 : pNumber 2 (beB 2 h) = some (h, []) := by
      have := pNumber_beB (w := 2) (n := h) (s := []) (by omega)
      rwa [List.append_nil] at this
    refine (begin_tune (n1 := 4) (n2 := 64) (n3 := h) (s1 := beB 4 64 ++ beB 2 h) (s2 := beB 2 h) (HL.gw h1) (HL.conn h1) (Hp.f_set_same _ _) rfl rfl rfl rfl rfl ?_ ?_ p3 (by decide) (by decide) (by decide) (by decide) ?_).mono fun e τ ⟨h2, h3⟩ => ⟨h2, ?_⟩
    · show pNumber 2 (beB 2 4 ++ beB 4 64 ++ beB 2 h) = _
      rw [List.append_assoc]; exact pNumber_beB (by decide)
    · exact pNumber_beB (by decide)
    · show (h : Int) ≤ 50
      omega
    · subst h3
      exact .few (by decide) (HL.drop (HL.set (HL.set8 h1 _) (hcr h 3)))
theorem step3 (hs : HSt A 3 (pend h 3) σ) : CallsE E 59 #[pV A.c, uV (hu h 3)] σ fun e τ => e = .returned (.tuple #[]) ∧ HSt A 4 (hcr h 4) τ := by
  cases hs with
  | few hn hh =>
    refine unit_method (cr := pend h 3) (ch := 0) (cl := 10) (me := 40) (HL.conn hh) (by decide) (by decide) (fun _ _ a b => a.le b) fun bf hbf => .inl ⟨.inr rfl, fun E => ?_⟩
    have h1 := HL.new hh hbf (frO ⟨⟨1, (0 : Nat), beB 2 10 ++ beB 2 40 ++ (beB 1 1 ++ [47]), false, false⟩, beB 1 1 ++ [47], (10 : Nat), (40 : Nat)⟩)
    refine (begin_open (s0 := [47]) (HL.gw h1) (HL.conn h1) (Hp.f_set_same _ _) rfl rfl rfl rfl rfl (by decide) (pend_out _ _)).mono fun e τ ⟨h2, h3⟩ => ⟨h2, ?_⟩
    subst h3
    exact .few (by decide) (HL.drop (HL.set (HL.set8 h1 _) (hcr h 4)))
theorem step4 (hs : HSt A 4 (pend h 4) σ) : CallsE E 59 #[pV A.c, uV (hu h 4)] σ fun e τ => e = .returned (.tuple #[]) ∧ HSt A 5 (hcr h 5) τ := by
  cases hs with
  | few hn hh =>
    refine unit_method (cr := pend h 4) (ch := 1) (cl := 20) (me := 10) (HL.conn hh) (by decide) (by decide) (fun _ _ a b => a.le b) fun bf hbf => .inr ⟨rfl, by decide, fun E => ?_⟩
    have h1 := HL.new hh hbf (frO ⟨⟨1, (1 : Nat), beB 2 20 ++ beB 2 10 ++ beB 1 0, false, false⟩, beB 1 0, (20 : Nat), (10 : Nat)⟩)
    refine (onChannel192_new (no := 1) (s0 := []) (HL.gw h1) (HL.conn h1) (h1.at 1 rfl) (by simp [Uniq]) (Hp.f_set_same _ _) rfl (by decide) (by show (1 : Int) ≤ 4; decide) rfl (by decide) (by decide) (pend_out _ _)).mono fun e τ ⟨h2, un, co, hx, q1, q2, q3, q4, q5, q6, h3⟩ => ⟨h2, ?_⟩
    subst h3
    have n1 : ¬ un = bf := fun e => by subst e; rw [Hp.f_set_same] at q1; cases q1
    have n2 : ¬ co = bf := fun e => by subst e; rw [Hp.f_set_same] at q2; cases q2
    have n3 : ¬ hx = bf := fun e => by subst e; rw [Hp.f_set_same] at q3; cases q3
    have h2 := HL.drop (HL.set8 h1 (frO ⟨⟨1, (1 : Nat), beB 2 20 ++ beB 2 10 ++ beB 1 0, false, false⟩, [], (20 : Nat), (10 : Nat)⟩))
    rw [Hp.set_set] at h2
    rw [Hp.set_set]
    have q1' : (σ.set bf (frO ⟨⟨1, (1 : Nat), beB 2 20 ++ beB 2 10 ++ beB 1 0, false, false⟩, [], (20 : Nat), (10 : Nat)⟩)).f un = none := by rw [Hp.f_ne n1] at q1 ⊢; exact q1
    have q2' : (σ.set bf (frO ⟨⟨1, (1 : Nat), beB 2 20 ++ beB 2 10 ++ beB 1 0, false, false⟩, [], (20 : Nat), (10 : Nat)⟩)).f co = none := by rw [Hp.f_ne n2] at q2 ⊢; exact q2
    have q3' : (σ.set bf (frO ⟨⟨1, (1 : Nat), beB 2 20 ++ beB 2 10 ++ beB 1 0, false, false⟩, [], (20 : Nat), (10 : Nat)⟩)).f hx = none := by rw [Hp.f_ne n3] at q3 ⊢; exact q3
    have h4 := HL.new h2 q1' E0
    have h5 := HL.new h4 (b := co) (by rw [Hp.f_ne (fun e => q4 e.symm)]; exact q2') S0
    have h6 := HL.new h5 (b := hx) (by rw [Hp.f_ne q6, Hp.f_ne q5]; exact q3') (chanO A.c 1 un co Z0)
    exact .five (HL.set (HL.setM h6 (M1 hx)) (hcr h 5))
theorem step5 (he : A.e1 ≠ 293) (hL : A.L1[113]? = some (.int .u8 192)) (hs : HSt A 5 (pend h 5) σ) : CallsE E 59 #[pV A.c, uV (hu h 5)] σ fun e τ => e = .returned (.tuple #[]) ∧ HSt A 6 (hcr h 6) τ := by
  cases hs with
  | few hn hh => exact absurd hn (by decide)
  | @five _ _ hx un co hh =>
    refine unit_method (cr := pend h 5) (ch := 1) (cl := 50) (me := 10) (HL.conn hh) (by decide) (by decide) (fun _ _ a b => a.le b) fun bf hbf => .inr ⟨rfl, by decide, fun E => ?_⟩
    have h1 := HL.new hh hbf (frO ⟨⟨1, (1 : Nat), beB 2 50 ++ beB 2 10 ++ (beB 1 1 ++ [113]), false, false⟩, beB 1 1 ++ [113], (50 : Nat), (10 : Nat)⟩)
    refine onChannel192_there (k := 1) (st := 0) (l := [(1, pV hx, 0)]) (HL.conn h1) (h1.at 1 rfl) (Hp.f_set_same _ _) (by show (1 : Int) ≤ 4; decide) rfl ?_
    refine framed231_method (h1.at 9 rfl) (Hp.f_set_same _ _) rfl (by decide) rfl ?_
    refine method246_declare (Hp.f_set_same _ _) (by decide) (by decide) (by decide) ?_
    refine (declare268_new (no := 1) he (h1.at 7 rfl) hL (HL.gw h1) (h1.at 4 rfl) (h1.at 2 rfl) (by simp [Uniq]) rfl (by decide) (HL.conn h1) (h1.at 9 rfl) (Hp.f_set_same _ _) (by decide) (by decide) (pend_out _ _)).mono fun e τ ⟨h2, q, q1, h3⟩ => ⟨h2, ?_⟩
    subst h3
    have n1 : ¬ q = bf := fun e => by subst e; rw [Hp.f_set_same] at q1; cases q1
    have h2 := HL.drop (HL.set8 h1 (frO ⟨⟨1, (1 : Nat), beB 2 50 ++ beB 2 10 ++ (beB 1 1 ++ [113]), false, false⟩, [], (50 : Nat), (10 : Nat)⟩))
    have q1' : (σ.set bf (frO ⟨⟨1, (1 : Nat), beB 2 50 ++ beB 2 10 ++ (beB 1 1 ++ [113]), false, false⟩, [], (50 : Nat), (10 : Nat)⟩)).f q = none := by rw [Hp.f_ne n1] at q1 ⊢; exact q1
    rw [Hp.set_set] at h2 ⊢
    have h4 := HL.new h2 q1' Q0
    exact .six (HL.set (HL.setQ h4 (M2 q)) (hcr h 6))
end
end Go.Qw
-- feed at the hello of the statements.
namespace Go.Qw
open Go Go.Conc Go.Proofs

theorem FS.loop_ind (F : FS) {Inv P : F.γ → Prop} (h0 : ∀ a, Inv a → F.ph a = 5 → P a) (h1 : ∀ a u b, Inv a → F.nx a u b → u.idle = true → P b) (hs : ∀ a u b c d, Inv a → F.nx a u b → u.idle = false → F.un b u c → F.sv c d → Inv d) {a a' : F.γ} (hl : F.Loop a a') : Inv a → P a' := by
  induction hl with
  | gone hp => exact fun hI => h0 _ hI hp
  | idle hp hn hi => exact fun hI => h1 _ _ _ hI hn hi
  | step _ hn hi hu hv _ ih => exact fun hI => ih (hs _ _ _ _ _ hI hn hi hu hv)
section
variable {A : Ad} {h : Nat}
theorem hcr_cn (h : Nat) (n : Nat) : Cn A.g (hcr h n).ph (hcr h n).frame ((hcr h n).vals A.g 1 A.chm) := ⟨rfl, rfl, rfl, rfl⟩
theorem HSt.n6 {n : Nat} {cr : CR} {σ : Hp} (h : HSt A n cr σ) : n ≤ 6 := by
  cases h with
  | few h _ => omega
  | five => decide
  | six => decide
theorem frame_ok (h n : Nat) : 0 ≤ (hcr h n).frame ∧ (hcr h n).frame ≤ 1000000 := by
  unfold hcr
  split <;> dsimp only <;> decide
theorem hcr_ph (h n : Nat) : (hcr h n).ph ≠ 5 := by
  unfold hcr
  split <;> dsimp only <;> decide
def uI : Un := ⟨0, 0, [], false, false⟩
theorem hu_idle (h n : Nat) : (hu h n).idle = false := by
  unfold hu
  split <;> rfl

def helloFS (A : Ad) (h : Nat) (hh : h ≤ 50) (he : A.e1 ≠ 293) (hL : A.L1[113]? = some (.int .u8 192)) : FS where
  γ := Nat
  I := fun n σ => HSt A n (hcr h n) σ
  J := fun b σ => if b ≤ 6 then HSt A b (hcr h b) σ else HSt A (b - 10) (pend h (b - 10)) σ
  K := fun n σ => HSt A n (hcr h n) σ
  okc := fun n s => n = 0 ∧ s = helloB h
  bc := A.c
  bg := A.g
  bb := A.br
  ph := fun n => (hcr h n).ph
  fr := fun n => (hcr h n).frame
  rest := fun n => hr h n
  nx := fun a u b => (1 ≤ a ∧ a ≤ 5 ∧ u = hu h a ∧ b = 10 + a) ∨ ((a = 0 ∨ a = 6) ∧ u = uI ∧ b = a)
  un := fun b _ c => 2 ≤ c ∧ c ≤ 6 ∧ b = c + 9
  sv := fun c d => d = c
  add := fun a _ => if a = 0 then 1 else a
  μ := fun a => 6 - a
  conn := fun hI => ⟨_, HSt.conn hI, hcr_cn h _, by have := hcr_rest h _ hI.n6; rw [← this]; rfl⟩
  connK := fun hI => ⟨_, HSt.conn hI, hcr_cn h _⟩
  gate := fun hI => ⟨_, HSt.gw hI, rfl, rfl⟩
  grow := by
    rintro a σ l s ⟨rfl, rfl⟩ hI hl
    have hc := HSt.conn hI
    have e : l = (hcr h 0).vals A.g 1 A.chm := by rw [hc] at hl; simpa [connO] using hl.symm
    subst e
    have := HSt.set hI (hcr h 1)
    cases this with
    | few h1 h2 =>
      have e2 : ((hcr h 0).vals A.g 1 A.chm).set 3 (.string (B (hr h 0 ++ helloB h))) = (hcr h 1).vals A.g 1 A.chm := by rw [hello_hr]; rfl
      rw [e2]
      exact .few (by decide) h2
  small := fun _ => hr_small h _
  phA := by
    intro a _
    show (hcr h (if a = 0 then 1 else a)).ph = (hcr h a).ph
    split
    · next e => subst e; rfl
    · rfl
  frA := by
    intro a _
    show (hcr h (if a = 0 then 1 else a)).frame = (hcr h a).frame
    split
    · next e => subst e; rfl
    · rfl
  next := by
    intro E a σ hI
    have h6 := hI.n6
    have hc := HSt.conn hI
    have hr3 : ((hcr h a).vals A.g 1 A.chm)[3]? = some (.string (B (hr h a))) := by rw [← hcr_rest h a h6]; rfl
    have := next_c (E := E) hc (l := (hcr h a).vals A.g 1 A.chm) (s := hr h a) (size := (hcr h a).frame) (gr := (hcr h a).greeted) hr3 rfl (frame_ok h a)
    by_cases h15 : 1 ≤ a ∧ a ≤ 5
    · rw [next_hr h a h15.1 h15.2] at this
      refine this.mono fun e τ ⟨h1, h2⟩ => ⟨_, 10 + a, .inl ⟨h15.1, h15.2, rfl, rfl⟩, ?_, h1⟩
      rw [if_neg (by omega)]
      have e10 : 10 + a - 10 = a := by omega
      rw [e10]
      exact (HSt.set hI (pend h a)).le h2
    · have h06 : a = 0 ∨ a = 6 := by omega
      refine this.mono fun e τ ⟨h1, h2⟩ => ⟨uI, a, .inr ⟨h06, rfl, rfl⟩, ?_, ?_⟩
      · rw [if_pos h6]
        have := (HSt.set hI (hcr h a))
        refine this.le (hp_le_trans ?_ h2)
        have e2 : (((hcr h a).vals A.g 1 A.chm).set 3 (.string (B (nextU (hcr h a).greeted (hr h a) (hcr h a).frame).2.2))).set 4 (.bool (nextU (hcr h a).greeted (hr h a) (hcr h a).frame).2.1) = (hcr h a).vals A.g 1 A.chm := by
          rcases h06 with rfl | rfl <;> rfl
        rw [e2]
        exact Hp.le_refl _
      · rcases h06 with rfl | rfl <;> exact h1
  unit := by
    rintro E a u b σ _ (⟨h1, h5, rfl, rfl⟩ | ⟨_, rfl, rfl⟩) hi hJ
    · have hJ : HSt A a (pend h a) σ := by
        rw [if_neg (by omega)] at hJ
        have e10 : 10 + a - 10 = a := by omega
        rw [e10] at hJ
        exact hJ
      have key : CallsE E 59 #[pV A.c, uV (hu h a)] σ fun e τ => e = .returned (.tuple #[]) ∧ HSt A (a + 1) (hcr h (a + 1)) τ := by
        match a, h1, h5, hJ with
        | 1, _, _, hJ => exact step1 hJ
        | 2, _, _, hJ => exact step2 hh hJ
        | 3, _, _, hJ => exact step3 hJ
        | 4, _, _, hJ => exact step4 hJ
        | 5, _, _, hJ => exact step5 he hL hJ
      exact key.mono fun e τ ⟨h2, h3⟩ => ⟨a + 1, ⟨by omega, by omega, by omega⟩, h3, h2⟩
    · cases hi
  serve := by
    rintro E b u d σ _ hK
    exact (HSt.serve hK).mono fun e τ ⟨h1, h2⟩ => ⟨d, rfl, h2 ▸ hK, h1⟩
  idle := by
    rintro a u b σ (⟨h1, h5, rfl, rfl⟩ | ⟨h06, rfl, rfl⟩) hi hJ
    · rw [hu_idle] at hi; cases hi
    · rw [if_pos (by omega)] at hJ; exact hJ
  dec := by
    rintro a u b d e _ (⟨h1, h5, rfl, rfl⟩ | ⟨_, rfl, rfl⟩) hi ⟨h2, h6, hb⟩ rfl
    · show 6 - e < 6 - a
      omega
    · cases hi
theorem feed40_hello {hh : h ≤ 50} {he : A.e1 ≠ 293} {hL : A.L1[113]? = some (.int .u8 192)} {W : World} {φ σ : Hp} (hI : HSt A 0 (hcr h 0) σ) :
    CallsE (soloF W φ) 40 #[pV A.c, sV (helloB h)] σ fun e τ => e = .returned (.tuple #[]) ∧ HSt A 6 (hcr h 6) τ := by
  have := feed_cF (helloFS A h hh he hL) (W := W) (φ := φ) (a := (0 : Nat)) (σ := σ) (ch := helloB h) ⟨rfl, rfl⟩ hI (hcr_ph h 0) (by rw [hello_hr]; have := hr_small h 1; omega)
  refine this.mono fun e τ ⟨h1, a', hl, hI⟩ => ⟨h1, ?_⟩
  have key : ∀ a a' : Nat, (helloFS A h hh he hL).Loop a a' → 1 ≤ a → a' = 6 := by
    intro a a' hl h1
    refine (helloFS A h hh he hL).loop_ind (Inv := fun n : Nat => 1 ≤ n) (P := fun n : Nat => n = 6) ?_ ?_ ?_ hl h1
    · exact fun a _ hp => absurd hp (hcr_ph h a)
    · exact fun (a : Nat) (u : Un) (b : Nat) (h1 : 1 ≤ a) (hn : (1 ≤ a ∧ a ≤ 5 ∧ u = Go.Qw.hu h a ∧ b = 10 + a) ∨ ((a = 0 ∨ a = 6) ∧ u = uI ∧ b = a)) hi => by
        rcases hn with ⟨_, _, h3, _⟩ | ⟨h06, _, h3⟩
        · rw [h3, hu_idle] at hi; cases hi
        · show b = 6
          omega
    · exact fun (a : Nat) (u : Un) (b c d : Nat) (h1 : 1 ≤ a) hn hi (hu : 2 ≤ c ∧ c ≤ 6 ∧ b = c + 9) (hv : d = c) => by
        show 1 ≤ d
        omega
  have := key _ _ hl (Nat.le_refl 1)
  subst this
  exact hI
end
end Go.Qw
-- Beats: the gateway's calls.
namespace Go.Qw
open Go Go.Conc Go.Proofs

/-- The gateway, one connection with one channel, one queue. -/
def BL (A : Ad) (clock : Int) (cr : CR) (hx un co q : Nat) : List (Nat × Obj) :=
  [(A.c, connO A.g 1 A.chm cr), (A.chm, M1 hx), (A.mq, M2 q), (A.g, gwO cfg5 A.br A.mc clock 1), (A.br, brO A.mq 50 0 0), (A.mc, kmap keyI [(1, pV A.c, 0)] 1), (0, A.o0), (1, .cells A.L1.toArray A.e1 (0, 0)), (q, Q0), (hx, chanO A.c 1 un co Z0), (co, S0), (un, E0)]
def crB (h : Nat) (sent recv : Int) : CR := ⟨3, [], true, 4, 64, h, sent, recv, []⟩
def BSt (A : Ad) (clock : Int) (cr : CR) (σ : Hp) : Prop := ∃ hx un co q, Has (BL A clock cr hx un co q) σ

section
variable {A : Ad} {clock : Int} {cr : CR} {σ τ : Hp} {h : Nat} {W : World} {φ : Hp} {E : Env Tryz.prog}
theorem BSt.le (hs : BSt A clock cr σ) (k : σ.le τ) : BSt A clock cr τ := by
  obtain ⟨hx, un, co, q, hh⟩ := hs
  exact ⟨hx, un, co, q, hh.le k⟩
theorem BSt.set (hs : BSt A clock cr σ) (cr' : CR) : BSt A clock cr' (σ.set A.c (connO A.g 1 A.chm cr')) := by
  obtain ⟨hx, un, co, q, hh⟩ := hs
  exact ⟨hx, un, co, q, hh.set 0 rfl _⟩
theorem BSt.setG (hs : BSt A clock cr σ) (k : Int) : BSt A k cr (σ.set A.g (gwO cfg5 A.br A.mc k 1)) := by
  obtain ⟨hx, un, co, q, hh⟩ := hs
  exact ⟨hx, un, co, q, hh.set 3 rfl _⟩
theorem BSt.conn (hs : BSt A clock cr σ) : σ.f A.c = some (connO A.g 1 A.chm cr) := by
  obtain ⟨hx, un, co, q, hh⟩ := hs
  exact hh.at 0 rfl
theorem BSt.gw (hs : BSt A clock cr σ) : σ.f A.g = some (gwO cfg5 A.br A.mc clock 1) := by
  obtain ⟨hx, un, co, q, hh⟩ := hs
  exact hh.at 3 rfl
theorem BSt.mc (hs : BSt A clock cr σ) : σ.f A.mc = some (kmap keyI [(1, pV A.c, 0)] 1) := by
  obtain ⟨hx, un, co, q, hh⟩ := hs
  exact hh.at 5 rfl
theorem BSt.o0 (hs : BSt A clock cr σ) : σ.f 0 = some A.o0 := by
  obtain ⟨hx, un, co, q, hh⟩ := hs
  exact hh.at 6 rfl
theorem BSt.o1 (hs : BSt A clock cr σ) : σ.f 1 = some (.cells A.L1.toArray A.e1 (0, 0)) := by
  obtain ⟨hx, un, co, q, hh⟩ := hs
  exact hh.at 7 rfl
theorem BSt.still (hs : BSt A clock cr σ) : ∃ q, σ.f A.mq = some (M2 q) ∧ Still0 σ [q] := by
  obtain ⟨hx, un, co, q, hh⟩ := hs
  refine ⟨q, hh.at 2 rfl, ?_⟩
  intro x hx
  obtain rfl : x = q := by simpa using hx
  exact ⟨_, _, _, _, _, _, hh.at 8 rfl⟩
theorem BSt.rest (hs : BSt A clock cr σ) : ∃ lq kq qs, Rest σ A.g cfg5 A.br A.mc A.mq clock 1 50 0 0 lq kq qs := by
  obtain ⟨q, hq, hst⟩ := hs.still
  refine ⟨[([113], pV q, 0)], 1, [q], hs.gw, ?_, hq, by simp, by simp, by simp, rfl, hst⟩
  obtain ⟨hx, un, co, q, hh⟩ := hs
  exact hh.at 4 rfl
theorem BSt.idle (hs : BSt A clock cr σ) : ∃ hx, σ.f A.chm = some (M1 hx) ∧ Idle σ A.c [(1, pV hx, 0)] := by
  obtain ⟨hx, un, co, q, hh⟩ := hs
  refine ⟨hx, hh.at 1 rfl, ?_⟩
  intro e he
  obtain rfl : e = (1, pV hx, 0) := by simpa using he
  exact ⟨_, _, _, _, _, _, rfl, hh.at 9 rfl, hh.at 11 rfl, hh.at 10 rfl⟩
/-- packets. -/
theorem packets_on (hs : BSt A clock cr σ) (hph : cr.ph ≠ 5) : CallsE E 39 #[pV A.g] σ fun e τ => ∃ v, e = .returned v ∧ Pk τ 1 cr.out v ∧ BSt A clock { cr with out := [] } τ := by
  obtain ⟨lq, kq, qs, hR⟩ := hs.rest
  refine (packets39_on hR hs.mc (by decide) hs.conn hph).mono fun e τ ⟨⟨v, h1, h2⟩, h3⟩ => ⟨v, h1, h2, ?_⟩
  exact (hs.set _).le h3
theorem packets_off (hs : BSt A clock cr σ) (hph : cr.ph = 5) : CallsE E 39 #[pV A.g] σ fun e τ => ∃ v, e = .returned v ∧ Pk τ 1 cr.out v ∧ τ.f A.mc = some (kmap keyI [] 1) ∧ τ.f A.g = some (gwO cfg5 A.br A.mc clock 1) ∧ τ.f 0 = some A.o0 ∧ τ.f 1 = some (.cells A.L1.toArray A.e1 (0, 0)) := by
  obtain ⟨lq, kq, qs, hR⟩ := hs.rest
  obtain ⟨hx, hm, hi⟩ := hs.idle
  have n1 : ¬ A.g = A.mc := fun e => by have := hs.gw; rw [e, hs.mc] at this; simp [gwO, kmap] at this
  have n2 : ¬ A.g = A.c := fun e => by have := hs.gw; rw [e, hs.conn] at this; simp [gwO, connO, CR.vals] at this
  have n34 : (¬ 0 = A.mc ∧ ¬ 0 = A.c) ∧ ¬ 1 = A.mc ∧ ¬ 1 = A.c := by
    obtain ⟨hx, un, co, q, hh⟩ := hs
    exact ⟨⟨hh.ne (i := 6) (j := 5) rfl rfl (by decide), hh.ne (i := 6) (j := 0) rfl rfl (by decide)⟩, hh.ne (i := 7) (j := 5) rfl rfl (by decide), hh.ne (i := 7) (j := 0) rfl rfl (by decide)⟩
  refine (packets39_off hR hs.mc (by decide) hs.conn hph hm (by simp [Uniq]) (by simp) (by simp) (by simp) hi).mono fun e τ ⟨⟨v, h1, h2⟩, h3, h4⟩ => ⟨v, h1, h2, h3, ?_, ?_, ?_⟩
  · exact h4 _ _ n1 n2 hs.gw
  · exact h4 _ _ n34.1.1 n34.1.2 hs.o0
  · exact h4 _ _ n34.2.1 n34.2.2 hs.o1
/-- Feed at a heartbeat. -/
theorem feed_beat (hs : BSt A clock cr σ) (hph : cr.ph = 3) (hgr : cr.greeted = true) (hf : 0 ≤ cr.frame ∧ cr.frame ≤ 1000000) (hr : cr.rest = []) :
    CallsE (soloF W φ) 25 #[pV A.g, iV 1, sV beatB] σ fun e τ => ∃ v, e = .returned (.tuple #[v, .nilIface]) ∧ Pk τ 1 cr.out v ∧ BSt A clock { cr with recv := clock, out := [] } τ := by
  refine feed25_c (cr := cr) (st := 0) (chm := A.chm) hs.gw hs.mc rfl hs.conn (by decide) ?_
  have hs1 := hs.set { cr with recv := clock }
  obtain ⟨lq, kq, qs, hR⟩ := hs1.rest
  have hB : BeatAt (σ.set A.c (connO A.g 1 A.chm { cr with recv := clock })) A.g A.br A.mc A.mq A.c A.chm cfg5 clock 1 1 { cr with recv := clock } qs :=
    ⟨hs1.gw, hs1.conn, ⟨_, _, _, hR.hb⟩, ⟨_, _, hR.hm, hR.hold, hR.hn, hR.hbig, hR.hqs⟩, hR.hst, hph, hgr, hf.1, hf.2, hr⟩
  refine (feed40_beat hB).mono fun e τ ⟨h1, h2⟩ => ⟨h1, ?_⟩
  rw [Hp.set_self hs1.conn] at h2
  have hs2 := hs1.le h2
  exact (packets_on hs2 (by show ¬ cr.ph = 5; rw [hph]; decide)).mono fun e τ ⟨v, h3, h4, h5⟩ => ⟨v, h3, v, rfl, h4, h5⟩
theorem feed_empty (hs : BSt A clock cr σ) (hph : cr.ph ≠ 5) :
    CallsE E 25 #[pV A.g, iV 1, sV []] σ fun e τ => ∃ v, e = .returned (.tuple #[v, .nilIface]) ∧ Pk τ 1 cr.out v ∧ BSt A clock { cr with out := [] } τ :=
  feed25_empty (st := 0) hs.gw hs.mc rfl ((packets_on hs hph).mono fun e τ ⟨v, h3, h4, h5⟩ => ⟨v, h3, v, rfl, h4, h5⟩)
/-- Feed at the hello. -/
theorem feed_hello (hh50 : h ≤ 50) (he : A.e1 ≠ 293) (hL : A.L1[113]? = some (.int .u8 192)) (hs : Has (HL A (hcr h 0) E0 S0 []) σ) :
    CallsE (soloF W φ) 25 #[pV A.g, iV 1, sV (helloB h)] σ fun e τ => ∃ v, e = .returned (.tuple #[v, .nilIface]) ∧ Pk τ 1 ot6 v ∧ BSt A 0 (crB h 0 0) τ := by
  refine feed25_c (cr := hcr h 0) (st := 0) (chm := A.chm) (HL.gw hs) (hs.at 5 rfl) rfl (HL.conn hs) (by rw [hello_hr]; simp [hr, greetB]) ?_
  have h0 : HSt A 0 (hcr h 0) (σ.set A.c (connO A.g 1 A.chm { hcr h 0 with recv := 0 })) := .few (by decide) (HL.set hs (hcr h 0))
  refine (feed40_hello (hh := hh50) (he := he) (hL := hL) h0).mono fun e τ ⟨h1, h2⟩ => ⟨h1, ?_⟩
  have hB : BSt A 0 (hcr h 6) τ := by
    cases h2 with
    | few hn _ => exact absurd hn (by decide)
    | @six _ _ q hx un co hh => exact ⟨hx, un, co, q, hh⟩
  exact (packets_on hB (by show ¬ (3 : Int) = 5; decide)).mono fun e τ ⟨v, h3, h4, h5⟩ => ⟨v, h3, v, rfl, h4, h5⟩
/-- Tick. -/
theorem tick_on {s r : Int} (hs : BSt A clock (crB h s r) σ) (hh : 1 ≤ h ∧ h ≤ 50) (b1 : 0 ≤ clock ∧ clock ≤ 1000000) (b2 : 0 ≤ r ∧ r ≤ 1000000) (b3 : 0 ≤ s ∧ s ≤ 1000000) (hr : ¬ clock + 1 - r ≥ 2 * (h : Int)) :
    CallsE E 28 #[pV A.g] σ fun e τ => ∃ v, e = .returned v ∧ Pk τ 1 (if clock + 1 - s ≥ (h : Int) then beatB else []) v ∧ BSt A (clock + 1) (crB h (if clock + 1 - s ≥ (h : Int) then clock + 1 else s) r) τ := by
  refine tick28_c hs.gw hs.mc (by decide) hs.conn b1 b2 b3 (by show 0 ≤ (h : Int) ∧ (h : Int) ≤ 1000000; omega) (by simp [crB]) ?_
  have h0 : ¬ (h : Int) = 0 := by omega
  have e1 : tickC (clock + 1) (crB h s r) = if clock + 1 - s ≥ (h : Int) then { crB h s r with out := frameB 8 0 [], sent := clock + 1 } else crB h s r := by
    have h0' : ¬ (crB h s r).beat = 0 := h0
    have hr' : ¬ clock + 1 - (crB h s r).recv ≥ 2 * (crB h s r).beat := hr
    unfold tickC
    rw [if_neg h0', if_neg hr']
    rfl
  rw [e1]
  by_cases hb : clock + 1 - s ≥ (h : Int)
  · simp only [if_pos hb]
    exact (packets_on ((hs.setG (clock + 1)).set _) (by show ¬ (3 : Int) = 5; decide))
  · simp only [if_neg hb]
    exact (packets_on ((hs.setG (clock + 1)).set _) (by show ¬ (3 : Int) = 5; decide))
theorem tick_off {s r : Int} (hs : BSt A clock (crB h s r) σ) (hh : 1 ≤ h ∧ h ≤ 50) (b1 : 0 ≤ clock ∧ clock ≤ 1000000) (b2 : 0 ≤ r ∧ r ≤ 1000000) (b3 : 0 ≤ s ∧ s ≤ 1000000) (hr : clock + 1 - r ≥ 2 * (h : Int)) :
    CallsE E 28 #[pV A.g] σ fun e τ => ∃ v, e = .returned v ∧ Pk τ 1 [] v ∧ τ.f A.mc = some (kmap keyI [] 1) ∧ τ.f A.g = some (gwO cfg5 A.br A.mc (clock + 1) 1) ∧ τ.f 0 = some A.o0 ∧ τ.f 1 = some (.cells A.L1.toArray A.e1 (0, 0)) := by
  refine tick28_c hs.gw hs.mc (by decide) hs.conn b1 b2 b3 (by show 0 ≤ (h : Int) ∧ (h : Int) ≤ 1000000; omega) (by simp [crB]) ?_
  have h0 : ¬ (h : Int) = 0 := by omega
  have e1 : tickC (clock + 1) (crB h s r) = { crB h s r with ph := 5 } := by
    have h0' : ¬ (crB h s r).beat = 0 := h0
    have hr' : clock + 1 - (crB h s r).recv ≥ 2 * (crB h s r).beat := hr
    unfold tickC
    rw [if_neg h0', if_pos hr']
  rw [e1]
  exact (packets_off ((hs.setG (clock + 1)).set _) rfl)
end
end Go.Qw
-- Beats: said, joined, begun.
namespace Go.Qw
open Nat renaming reduceLT → yA, reduceLeDiff → yB, reduceBEq → yC, reduceAdd → yD, reduceSub → yE, reduceMul → yF, reduceEqDiff → yG
open Int renaming reduceToNat → wA, reduceLE → wB, reduceLT → wC, reduceEq → wD, reduceAdd → wE, reduceSub → wF, reduceMul → wG, reduceNeg → wH
open Go Go.Conc Go.Proofs
section
variable {A : Ad} {clock : Int} {cr : CR} {σ τ : Hp} {h : Nat} {W : World} {φ : Hp} {E : Env Tryz.prog}
theorem Pk.nil {v : Value} {i : Int} (hp : Pk τ i [] v) : v = .slice Option.none 0 0 := by
  cases hp with
  | none => rfl
  | one _ _ _ _ h => exact absurd rfl h
set_option maxRecDepth 100000 in
theorem said15_c {g : Nat} {s : List UInt8} {R : Hp → Prop} (h25 : CallsE E 25 #[pV g, iV 1, sV s] σ fun e τ => ∃ v, e = .returned (.tuple #[v, .nilIface]) ∧ Pk τ 1 [] v ∧ R τ) :
    CallsE E 15 #[pV g, iV 1, sV s] σ fun e τ => e = .returned (sV []) ∧ R τ := by
  refine calls_enter Tryz.func15 Tryz.ntmps15 Tryz.results15 rfl (by simp) fun Q hQn hQr hQp => ?_
  simp only [go_sem, yA, yB, yC, yD, yE, yF, yG, wA, wB, wC, wD, wE, wF, wG, wH]
  refine call_post go_25 h25 ?_ (fun ch σ' ⟨_, h, _⟩ => by cases h)
  rintro v τ ⟨v', hv, hpk, hR⟩
  obtain rfl := hpk.nil
  obtain rfl : v = .tuple #[.slice none 0 0, .nilIface] := by injection hv
  simp only [go_sem, yA, yB, yC, yD, yE, yF, yG, wA, wB, wC, wD, wE, wF, wG, wH]
  refine wpC_loop (fun m ρ ds σ' => ds = [] ∧ ρ 9 = iV 0 ∧ ρ 7 = .slice none 0 0 ∧ σ' = τ) 0 ?_ ?_
  · refine ⟨rfl, ?_, ?_, rfl⟩ <;> simp only [go_sem, yA, yB, yC, yD, yE, yF, yG, wA, wB, wC, wD, wE, wF, wG, wH]
  · rintro m ρ ds σ' X ⟨rfl, h9, h7, rfl⟩ hX
    have c0 : ¬ (0 : Int) < ((0 : Nat) : Int) := by decide
    simp only [go_sem, yA, yB, yC, yD, yE, yF, yG, wA, wB, wC, wD, wE, wF, wG, wH, h9, h7, c0, decide_false]
    exact hQr _ _ _ _ resIs_one (Hp.le_refl _) ⟨by simp [up], hR⟩
def NL (g br mc mq : Nat) (o0 : Obj) (e1 : Nat) (L1 : List Value) : List (Nat × Obj) := [(mq, S0), (g, gwO cfg5 br mc 0 0), (br, brO mq 50 0 0), (mc, kmap keyI [] 0), (0, o0), (1, .cells L1.toArray e1 (0, 0))]
def wantB : List UInt8 := callL 0 10 30 (beB 2 4 ++ beB 4 200 ++ beB 2 50) ++ callL 0 10 41 (beB 1 0) ++ callL 1 20 11 (beB 4 0)
set_option maxRecDepth 100000 in
theorem want_len : ot6.length = wantB.length + 22 := by decide +kernel
set_option maxRecDepth 100000 in
theorem want_take : ot6.take wantB.length = wantB := by decide +kernel
set_option maxRecDepth 100000 in
theorem joined23_c {g br mc mq e1 : Nat} {o0 : Obj} {L1 : List Value} (hh50 : h ≤ 50) (he : e1 ≠ 293) (hL : L1[113]? = some (.int .u8 192)) (hs : Has (NL g br mc mq o0 e1 L1) σ) :
    CallsE (soloF W φ) 23 #[pV g, iV h] σ fun e τ => e = .returned (iV 1) ∧ ∃ A : Ad, A.g = g ∧ (A.o0 = o0 ∧ A.e1 = e1 ∧ A.L1 = L1) ∧ BSt A 0 (crB h 0 0) τ := by
  refine calls_enter Tryz.func23 Tryz.ntmps23 Tryz.results23 rfl (by simp) fun Q hQn hQr hQp => ?_
  simp only [go_sem, yA, yB, yC, yD, yE, yF, yG, wA, wB, wC, wD, wE, wF, wG, wH]
  refine call_post go_37 (connect37_c (hs.at 1 rfl) (hs.at 3 rfl) (by simp) (by simp [Uniq]) (by decide) (by decide)) ?_ (fun ch σ' ⟨_, _, h, _⟩ => by cases h)
  rintro v τ ⟨b, chm, hv, hb, hchm, hne, rfl⟩
  obtain rfl : v = .tuple #[iV 1, .nilIface] := by injection hv
  have h1 := hs.set 1 rfl (gwO cfg5 br mc 0 1)
  have ng : ∀ {x}, σ.f x = none → ¬ x = g := fun hx e => by have := hs.at 1 rfl; rw [← e, hx] at this; cases this
  have h2 := h1.new (b := chm) (by rw [Hp.f_ne (ng hchm)]; exact hchm) E0
  have h3 := h2.new (b := b) (by rw [Hp.f_ne hne, Hp.f_ne (ng hb)]; exact hb) (connO g 1 chm (hcr h 0))
  have h4 := h3.set 5 rfl (kmap keyI [(1, pV b, 0)] 1)
  have h5 : Has (HL ⟨g, br, mc, mq, b, chm, o0, e1, L1⟩ (hcr h 0) E0 S0 []) _ := h4
  clear h1 h2 h3 h4
  simp only [go_sem, yA, yB, yC, yD, yE, yF, yG, wA, wB, wC, wD, wE, wF, wG, wH]
  refine call_ret go_38 (hello38_c (h := h) (by omega)) ?_
  simp only [go_sem, yA, yB, yC, yD, yE, yF, yG, wA, wB, wC, wD, wE, wF, wG, wH]
  refine call_post go_25 (feed_hello (A := ⟨g, br, mc, mq, b, chm, o0, e1, L1⟩) hh50 he hL h5) ?_ (fun ch σ' ⟨_, h, _⟩ => by cases h)
  rintro v τ ⟨v', hv, hpk, hB⟩
  obtain rfl : v = .tuple #[v', .nilIface] := by injection hv
  clear h5
  have hw : ot6 ≠ [] := by decide
  obtain ⟨ob, hob⟩ : ∃ ob, ob = ot6 := ⟨_, rfl⟩
  rw [← hob] at hpk hw
  cases hpk with
  | none => exact absurd rfl hw
  | one _ bp cap pad _ hbp =>
  simp only [go_sem, yA, yB, yC, yD, yE, yF, yG, wA, wB, wC, wD, wE, wF, wG, wH]
  refine call_ret go_20 (octets20_c (n := 4) (w := 2) (by decide) (by decide)) ?_
  simp only [go_sem, yA, yB, yC, yD, yE, yF, yG, wA, wB, wC, wD, wE, wF, wG, wH]
  refine call_ret go_20 (octets20_c (n := 200) (w := 4) (by decide) (by decide)) ?_
  simp only [go_sem, yA, yB, yC, yD, yE, yF, yG, wA, wB, wC, wD, wE, wF, wG, wH]
  refine call_ret go_20 (octets20_c (n := 50) (w := 2) (by decide) (by decide)) ?_
  have l1 : (beB 2 4).length + (beB 4 200).length ≤ 9223372036854775807 := by decide
  have l2 : (beB 2 4 ++ beB 4 200).length + (beB 2 50).length ≤ 9223372036854775807 := by decide
  simp only [go_sem, yA, yB, yC, yD, yE, yF, yG, wA, wB, wC, wD, wE, wF, wG, wH, l1, l2]
  refine call_ret go_18 (lcallL_c (ch := 0) (cl := 10) (me := 30) (p := beB 2 4 ++ beB 4 200 ++ beB 2 50) (by decide) (by decide) (by decide) (by decide)) ?_
  simp only [go_sem, yA, yB, yC, yD, yE, yF, yG, wA, wB, wC, wD, wE, wF, wG, wH]
  refine call_ret go_19 (ltext19_c (s := []) (by decide)) ?_
  simp only [go_sem, yA, yB, yC, yD, yE, yF, yG, wA, wB, wC, wD, wE, wF, wG, wH]
  refine call_ret go_18 (lcallL_c (ch := 0) (cl := 10) (me := 41) (p := beB 1 0) (by decide) (by decide) (by decide) (by decide)) ?_
  have m1 : (callL 0 10 30 (beB 2 4 ++ beB 4 200 ++ beB 2 50)).length + (callL 0 10 41 (beB 1 0)).length ≤ 9223372036854775807 := by decide
  have m2 : (callL 0 10 30 (beB 2 4 ++ beB 4 200 ++ beB 2 50) ++ callL 0 10 41 (beB 1 0)).length + (callL 1 20 11 (beB 4 0)).length ≤ 9223372036854775807 := by decide
  simp only [go_sem, yA, yB, yC, yD, yE, yF, yG, wA, wB, wC, wD, wE, wF, wG, wH, m1]
  refine call_ret go_20 (octets20_c (n := 0) (w := 4) (by decide) (by decide)) ?_
  simp only [go_sem, yA, yB, yC, yD, yE, yF, yG, wA, wB, wC, wD, wE, wF, wG, wH]
  refine call_ret go_18 (lcallL_c (ch := 1) (cl := 20) (me := 11) (p := beB 4 0) (by decide) (by decide) (by decide) (by decide)) ?_
  have eW : callL 0 10 30 (beB 2 4 ++ beB 4 200 ++ beB 2 50) ++ callL 0 10 41 (beB 1 0) ++ callL 1 20 11 (beB 4 0) = wantB := rfl
  have c1 : ((1 : Nat) : Int) = 1 := rfl
  have nt : (decide ¬True) = false := by decide
  simp only [List.cons_append, List.nil_append] at hbp
  have lw : (ob.length : Int) = (wantB.length : Int) + 22 := by
    have : ob.length = wantB.length + 22 := by rw [hob]; exact want_len
    omega
  have ww : IntKind.i64.wrap ((wantB.length : Int) + 22) = (wantB.length : Int) + 22 := by
    have : wantB.length = 49 := by decide +kernel
    rw [wrap64 (by omega) (by omega)]
  have tw : ob.take wantB.length = wantB := by rw [hob]; exact want_take
  simp only [go_sem, yA, yB, yC, yD, yE, yF, yG, wA, wB, wC, wD, wE, wF, wG, wH, m2, eW, c1, nt, hbp, lw, ww, tw]
  refine ⟨by omega, ?_⟩
  have tw0 : ob.take (wantB.length - 0) = wantB := tw
  simp only [go_sem, yA, yB, yC, yD, yE, yF, yG, wA, wB, wC, wD, wE, wF, wG, wH, m2, eW, c1, nt, hbp, lw, ww, tw0, Int.toNat_natCast]
  exact hQr _ _ _ _ resIs_one (Hp.le_refl _) ⟨by simp [up], _, rfl, ⟨rfl, rfl, rfl⟩, hB⟩
set_option maxRecDepth 100000 in
theorem begun13_c {o0 : Obj} {e1 : Nat} {L1 : List Value} (hh50 : h ≤ 50) (he : e1 ≠ 293) (hL : L1[113]? = some (.int .u8 192)) (h0 : σ.f 0 = some o0) (h1 : σ.f 1 = some (.cells L1.toArray e1 (0, 0))) :
    CallsE (soloF W φ) 13 #[iV h] σ fun e τ => ∃ A : Ad, (A.o0 = o0 ∧ A.e1 = e1 ∧ A.L1 = L1) ∧ e = .returned (.tuple #[pV A.g, iV 1]) ∧ BSt A 0 (crB h 0 0) τ := by
  refine calls_enter Tryz.func13 Tryz.ntmps13 Tryz.results13 rfl (by simp) fun Q hQn hQr hQp => ?_
  simp only [go_sem, yA, yB, yC, yD, yE, yF, yG, wA, wB, wC, wD, wE, wF, wG, wH]
  refine call_post go_32 (new32_c (cfg := cfg5) (by decide) (by decide) (by decide) (by decide) (by decide) (by decide) (by decide) (by decide) (by decide) (by decide)) ?_ (fun ch σ' ⟨_, _, _, _, h, _⟩ => by cases h)
  rintro v τ ⟨g, br, mq, mc, hv, q1, q2, q3, q4, n1, n2, n3, n4, n5, n6, rfl⟩
  obtain rfl : v = .tuple #[pV g, .nilIface] := by injection hv
  have k0 : Has [(0, o0), (1, .cells L1.toArray e1 (0, 0))] σ := ⟨by simp, by simp [h0, h1]⟩
  have k1 := k0.new q3 S0
  have k2 := k1.new (b := br) (by rw [Hp.f_ne n1]; exact q2) (brO mq 50 0 0)
  have k3 := k2.new (b := mc) (by rw [Hp.f_ne n3, Hp.f_ne n2]; exact q4) (kmap keyI [] 0)
  have k4 := k3.new (b := g) (by rw [Hp.f_ne n6, Hp.f_ne n5, Hp.f_ne n4]; exact q1) (gwO cfg5 br mc 0 0)
  have k5 : Has (NL g br mc mq o0 e1 L1) _ := k4.perm (by
    refine List.Perm.trans (l₂ := [(g, gwO cfg5 br mc 0 0), (mq, S0), (br, brO mq 50 0 0), (mc, kmap keyI [] 0), (0, o0), (1, .cells L1.toArray e1 (0, 0))]) (List.Perm.swap _ _ _) (List.Perm.cons _ ?_)
    refine List.Perm.trans (l₂ := [(br, brO mq 50 0 0), (mq, S0), (mc, kmap keyI [] 0), (0, o0), (1, .cells L1.toArray e1 (0, 0))]) (List.Perm.swap _ _ _) ?_
    refine List.Perm.trans (l₂ := [(br, brO mq 50 0 0), (mc, kmap keyI [] 0), (mq, S0), (0, o0), (1, .cells L1.toArray e1 (0, 0))]) (List.Perm.cons _ (List.Perm.swap _ _ _)) ?_
    exact List.Perm.swap _ _ _)
  simp only [go_sem, yA, yB, yC, yD, yE, yF, yG, wA, wB, wC, wD, wE, wF, wG, wH]
  refine call_post go_23 (joined23_c hh50 he hL k5) ?_ (fun ch σ' ⟨h, _⟩ => by cases h)
  rintro w τ ⟨hw, A, rfl, hA, hB⟩
  obtain rfl : w = iV 1 := by injection hw
  simp only [go_sem, yA, yB, yC, yD, yE, yF, yG, wA, wB, wC, wD, wE, wF, wG, wH]
  exact hQr _ _ _ _ (resIs_two) (Hp.le_refl _) ⟨A, hA, by simp [up], hB⟩
end
end Go.Qw
