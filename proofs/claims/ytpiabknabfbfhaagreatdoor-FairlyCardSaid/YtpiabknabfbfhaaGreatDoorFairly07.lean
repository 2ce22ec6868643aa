/- Part 7. -/
import Derived.Test.YtpiabknabfbfhaaGreatDoorProg
import Derived.KernelRfl
import Derived.Conc.Beside
import Derived.Laws.BitsLemmas
import Derived.Test.YtpiabknabfbfhaaGreatDoorFairly06
set_option linter.all false
set_option maxRecDepth 100000
set_option maxHeartbeats 8000000
namespace Go.Qw
open Go Go.Proofs.Tryz
section
open Go.Proofs
@[go_sem] def VS:dx prog 36=true:=ah
@[go_sem] def aq9:pR prog 23=true/\iE prog 22=some 1/\dm prog 3=true/\dx prog 3=false/\cq prog 3=1/\pU prog 9=true/\dq prog 36=some (.agg #[.slice none 0 0,.slice none 0 0])/\dm prog 36=true/\cq prog 36=2/\bH prog 36 0=some 0/\dm prog 34=true/\dx prog 34=false:=by and_intros<;>kernel_rfl
@[go_sem] def arf:cq prog 34=1/\iE prog 34=some 4/\bH prog 39 1=some 1/\bH prog 39 2=some 2/\bH prog 39 3=some 3/\iE prog 49=some 1/\dm prog 9=true/\dx prog 9=false/\cq prog 9=1/\iE prog 43=some 2/\bH prog 55 1=some 1/\bH prog 55 0=some 0:=by and_intros<;>kernel_rfl
@[go_sem] def ari:dm prog 22=true/\dx prog 22=false/\cq prog 22=1/\tV prog 45=true/\kI prog 22 1=some (3,[(0,1)],[.int Go.IntKind.i64 0])/\dq prog 66=some (.agg #[.int Go.IntKind.i64 0,.int Go.IntKind.i64 0,.int Go.IntKind.i64 0,.int Go.IntKind.i64 0,.int Go.IntKind.i64 0])/\jk prog 66=some [(0,1),(1,1),(2,1),(3,1),(4,1)]/\kY prog 3 5=none/\sL prog 3 5=some Go.IntKind.u8/\kY prog 67 9=none/\kI prog 67 1=some (5,[(0,1)],[.int Go.IntKind.u8 0])/\bH prog 74 4=some 8:=by and_intros<;>kernel_rfl
@[go_sem] def arl:dm prog 72=true/\dx prog 72=false/\jk prog 36=some [(0,1),(1,1)]/\bH prog 74 1=some 5/\dm prog 71=true/\dx prog 71=false/\iE prog 75=some 1/\dm prog 77=true/\dx prog 77=false/\cq prog 77=1/\bH prog 81 0=some 0/\bH prog 81 2=some 2:=by and_intros<;>kernel_rfl
@[go_sem] def aro:dq prog 39=some (.agg #[.string (B []),.int Go.IntKind.i64 0,.int Go.IntKind.i64 0,.int Go.IntKind.i64 0])/\jk prog 39=some [(0,1),(1,1),(2,1),(3,1)]/\kI prog 34 1=some (39,[(0,4)],[.string (B []),.int Go.IntKind.i64 0,.int Go.IntKind.i64 0,.int Go.IntKind.i64 0])/\pR prog 70=true/\iv prog 51=true/\bH prog 90 2=some 2/\dm prog 85=true/\dx prog 85=false/\cq prog 85=1/\bH prog 74 2=some 6/\bH prog 90 9=some 10/\bH prog 90 7=some 8:=by and_intros<;>kernel_rfl
@[go_sem] def arq:bH prog 90 8=some 9/\bH prog 66 0=some 0/\bH prog 66 1=some 1/\bH prog 66 2=some 2/\bH prog 66 3=some 3/\bH prog 66 4=some 4/\dm prog 66=true/\dx prog 66=true/\cq prog 66=5/\dq prog 74=some (.agg #[.int Go.IntKind.i64 0,.int Go.IntKind.i64 0,.int Go.IntKind.i64 0,.int Go.IntKind.i64 0,.int Go.IntKind.i64 0,.pointer none,.int Go.IntKind.i64 0,.int Go.IntKind.i64 0,.map none])/\jk prog 74=some [(0,5),(5,1),(6,1),(7,1),(8,1)]/\bH prog 116 0=some 0:=by and_intros<;>kernel_rfl
@[go_sem] def aru:dm prog 114=true/\dx prog 114=false/\bH prog 81 1=some 1/\dm prog 78=true/\dx prog 78=false/\cq prog 78=1/\pU prog 78=false/\iE prog 78=some 4/\bH prog 81 4=some 4/\dm prog 79=true/\dx prog 79=false/\cq prog 79=1:=by and_intros<;>kernel_rfl
@[go_sem] def acC:cf prog 54=true:=ah
@[go_sem] def aq3:pU prog 79=false/\iE prog 79=some 1/\bH prog 74 3=some 7/\bH prog 74 0=some 0/\dq prog 90=some (.agg #[.pointer none,.int Go.IntKind.i64 0,.int Go.IntKind.i64 0,.string (B []),.bool false,.map none,.int Go.IntKind.i64 0,.int Go.IntKind.i64 0,.int Go.IntKind.i64 0,.int Go.IntKind.i64 0,.int Go.IntKind.i64 0,.string (B [])])/\jk prog 90=some [(0,1),(1,1),(2,1),(3,2),(5,1),(6,1),(7,1),(8,1),(9,1),(10,1),(11,1)]/\bH prog 90 10=some 11/\dq prog 55=some (.agg #[.int Go.IntKind.i64 0,.string (B [])])/\jk prog 55=some [(0,1),(1,1)]/\kI prog 43 1=some (55,[(0,2)],[.int Go.IntKind.i64 0,.string (B [])])/\dq prog 119=some (.chan none)/\dq prog 120=some (.chan none):=by and_intros<;>kernel_rfl
@[go_sem] def aq4:dq prog 121=some (.chan none)/\dm prog 119=true/\cq prog 119=1/\dm prog 120=true/\cq prog 120=1/\dm prog 121=true/\cq prog 121=1/\dm prog 70=true/\dx prog 70=false/\bH prog 90 6=some 7/\dq prog 135=some (.agg #[.int Go.IntKind.i64 0,.int Go.IntKind.i64 0,.string (B []),.bool false,.bool false])/\dm prog 135=true:=by and_intros<;>kernel_rfl
@[go_sem] def VR:dx prog 135=true:=ah
@[go_sem] def acE:cf prog 59=true:=ah
@[go_sem] def aq5:cq prog 135=5/\bH prog 135 0=some 0/\bH prog 135 3=some 3/\dm prog 4=true/\dx prog 4=false/\cq prog 4=1/\bH prog 135 4=some 4/\bH prog 90 0=some 0/\dm prog 23=true/\dx prog 23=false/\tV prog 20=true/\dq prog 140=some (.agg #[.pointer none,.pointer none,.int Go.IntKind.u64 0]):=by and_intros<;>kernel_rfl
@[go_sem] def aq6:dm prog 140=true/\dx prog 140=true/\cq prog 140=3/\dm prog 143=true/\dx prog 143=false/\kY prog 5 3=none/\sL prog 5 3=some Go.IntKind.i64/\dq prog 155=some (.agg #[.pointer none,.slice none 0 0])/\jk prog 155=some [(0,2)]/\iv prog 157=true/\iv prog 158=true/\iv prog 159=true:=by and_intros<;>kernel_rfl
@[go_sem] def acF:cf prog 65=true:=ah
@[go_sem] def acG:cf prog 66=true:=ah
@[go_sem] def acH:cf prog 67=true:=ah
@[go_sem] def acI:cf prog 82=true:=ah
@[go_sem] def acJ:cf prog 85=true:=ah
@[go_sem] def aq7:kI prog 235 3=some (20,[(0,1),(1,1),(2,1)],[.nilIface,.nilIface,.nilIface])/\bH prog 155 0=some 0/\dq prog 116=some (.agg #[.map none,.int Go.IntKind.i64 0,.int Go.IntKind.i64 0,.int Go.IntKind.i64 0])/\jk prog 116=some [(0,1),(1,1),(2,1),(3,1)]/\bH prog 90 4=some 5/\dm prog 88=true/\dx prog 88=false/\cq prog 88=1/\pR prog 186=true/\bH prog 191 1=some 1/\bH prog 81 3=some 3/\dq prog 193=some (.agg #[.int Go.IntKind.i64 0,.string (B []),.string (B []),.bool false]):=by and_intros<;>kernel_rfl
@[go_sem] def R9:dm prog 193=true:=ah
@[go_sem] def acD:cf prog 58=true:=ah
@[go_sem] def ab2:cf prog 104=true:=ah
@[go_sem] def VT:dx prog 45=false:=ah
@[go_sem] def aq8:dx prog 193=true/\cq prog 193=4/\bH prog 191 0=some 0/\dm prog 189=true/\dx prog 189=false/\bH prog 87 0=some 0/\dq prog 217=some (.agg #[.int Go.IntKind.i64 0,.int Go.IntKind.i64 0,.int Go.IntKind.i64 0])/\jk prog 217=some [(0,1),(1,1),(2,1)]/\dm prog 45=true/\cq prog 45=1/\iE prog 235=some 1/\dm prog 20=true:=by and_intros<;>kernel_rfl
@[go_sem] def Av:cf prog 116=true:=ah
@[go_sem] def PQ:cf prog 117=true:=ah
@[go_sem] def ara:dx prog 20=false/\dq prog 157=some (.int Go.IntKind.i64 0)/\dq prog 158=some (.int Go.IntKind.i64 0)/\dq prog 159=some (.int Go.IntKind.i64 0)/\iv prog 237=true/\dq prog 237=some (.int Go.IntKind.i64 0)/\iv prog 238=true/\dq prog 238=some (.string (B []))/\pU prog 238=true/\iv prog 239=true/\bH prog 153 1=some 1/\dm prog 67=true:=by and_intros<;>kernel_rfl
@[go_sem] def ajH:Bh prog 9=true:=ah
@[go_sem] def PT:cf prog 135=true:=ah
@[go_sem] def arb:dx prog 67=false/\cq prog 67=1/\iE prog 67=some 1/\kY prog 9 67=some 5/\dm prog 5=true/\dx prog 5=false/\kY prog 3 68=none/\sL prog 3 68=some Go.IntKind.u64/\bH prog 276 6=some 6/\dm prog 274=true/\dx prog 274=false/\bH prog 276 0=some 0:=by and_intros<;>kernel_rfl
@[go_sem] def arc:bH prog 276 5=some 5/\dm prog 273=true/\dx prog 273=false/\dm prog 186=true/\dx prog 186=false/\cq prog 186=1/\bH prog 191 4=some 4/\jk prog 193=some [(0,1),(1,1),(2,1),(3,1)]/\bH prog 87 1=some 1/\jk prog 135=some [(0,1),(1,1),(2,1),(3,1),(4,1)]/\dq prog 289=some (.agg #[.string (B [])])/\jk prog 289=some [(0,1)]:=by and_intros<;>kernel_rfl
@[go_sem] def nM:cf prog 147=true:=ah
@[go_sem] def PU:cf prog 148=true:=ah
@[go_sem] def ab3:cf prog 150=true:=ah
@[go_sem] def ard:bH prog 135 1=some 1/\bH prog 289 0=some 0/\bH prog 135 2=some 2/\bH prog 217 0=some 0/\dm prog 215=true/\dx prog 215=false/\bH prog 217 1=some 1/\bH prog 217 2=some 2/\kI prog 235 4=some (20,[(0,1),(1,1),(2,1),(3,1)],[.nilIface,.nilIface,.nilIface,.nilIface])/\dq prog 293=some (.agg #[.int Go.IntKind.i64 0,.int Go.IntKind.i64 0,.string (B []),.bool false,.bool false,.string (B []),.int Go.IntKind.i64 0,.int Go.IntKind.i64 0])/\jk prog 293=some [(0,5),(5,1),(6,1),(7,1)]/\dq prog 296=some (.agg #[.pointer none]):=by and_intros<;>kernel_rfl
@[go_sem] def are:dq prog 214=some (.pointer none)/\iv prog 297=true/\bH prog 296 0=some 0/\dm prog 214=true/\dx prog 214=false/\iv prog 298=true/\bH prog 153 0=some 0/\dm prog 151=true/\dx prog 151=false/\cq prog 151=1/\pR prog 151=true/\kY prog 151 137=none:=by and_intros<;>kernel_rfl
@[go_sem] def ab4:cf prog 165=true:=ah
@[go_sem] def ab5:cf prog 167=true:=ah
@[go_sem] def ab6:cf prog 169=true:=ah
@[go_sem] def ab7:cf prog 170=true:=ah
@[go_sem] def ab8:cf prog 172=true:=ah
@[go_sem] def ab9:cf prog 181=true:=ah
@[go_sem] def aca:cf prog 184=true:=ah
@[go_sem] def arh:kY prog 137 151=none/\kI prog 49 1=some (9,[(0,1)],[.string (B [])])/\dm prog 75=true/\dx prog 75=false/\cq prog 75=1/\kI prog 75 1=some (77,[(0,1)],[.pointer none])/\bH prog 191 3=some 3/\dq prog 280=some (.agg #[.pointer none,.int Go.IntKind.i64 0,.string (B []),.string (B []),.bool false])/\dm prog 280=true/\cq prog 280=5/\bH prog 280 0=some 0/\bH prog 280 1=some 1:=by and_intros<;>kernel_rfl
@[go_sem] def PV:cf prog 188=true:=ah
@[go_sem] def acb:cf prog 190=true:=ah
@[go_sem] def acd:cf prog 191=true:=ah
@[go_sem] def ace:cf prog 192=true:=ah
@[go_sem] def arj:dq prog 325=some (.agg #[])/\jk prog 325=some []/\iv prog 325=true/\kI prog 235 2=some (20,[(0,1),(1,1)],[.nilIface,.nilIface])/\dq prog 45=some (.nilIface)/\dm prog 291=true/\dx prog 291=false/\bH prog 293 0=some 0/\bH prog 293 1=some 5/\bH prog 293 2=some 6/\bH prog 293 3=some 7/\bH prog 276 2=some 2:=by and_intros<;>kernel_rfl
@[go_sem] def acf:cf prog 210=true:=ah
@[go_sem] def ark:bH prog 276 1=some 1/\kY prog 3 342=none/\sL prog 3 342=some Go.IntKind.u64/\dq prog 342=some (.int Go.IntKind.u64 0)/\dm prog 342=true/\dx prog 342=false/\cq prog 342=1/\kY prog 68 3=none/\sL prog 68 3=some Go.IntKind.i64/\dq prog 3=some (.int Go.IntKind.i64 0)/\kY prog 126 5=none/\sL prog 126 5=some Go.IntKind.u8:=by and_intros<;>kernel_rfl
@[go_sem] def acg:cf prog 220=true:=ah
@[go_sem] def ach:cf prog 221=true:=ah
@[go_sem] def aci:cf prog 222=true:=ah
@[go_sem] def acj:cf prog 223=true:=ah
@[go_sem] def sf:cf prog 228=true:=ah
@[go_sem] def acn:cf prog 229=true:=ah
@[go_sem] def PW:cf prog 230=true:=ah
@[go_sem] def aco:cf prog 231=true:=ah
@[go_sem] def I9:cf prog 237=true:=ah
@[go_sem] def acm:cf prog 225=true:=ah
@[go_sem] def arn:bH prog 193 3=some 3/\bH prog 193 0=some 0/\kI prog 78 1=some (193,[(0,4)],[.int Go.IntKind.i64 0,.string (B []),.string (B []),.bool false])/\dm prog 325=true/\cq prog 325=0/\iv prog 214=true/\kI prog 235 1=some (20,[(0,1)],[.nilIface])/\bH prog 90 5=some 6/\pR prog 185=true/\dq prog 276=some (.agg #[.pointer none,.int Go.IntKind.i64 0,.bool false,.int Go.IntKind.i64 0,.int Go.IntKind.i64 0,.map none,.map none,.int Go.IntKind.i64 0,.string (B []),.string (B []),.int Go.IntKind.i64 0])/\jk prog 276=some [(0,1),(1,1),(2,1),(3,1),(4,1),(5,1),(6,1),(7,1),(8,1),(9,1),(10,1)]/\kI prog 78 0=some (193,[],[]):=by and_intros<;>kernel_rfl
@[go_sem] def acp:cf prog 244=true:=ah
@[go_sem] def acr:cf prog 245=true:=ah
@[go_sem] def acs:cf prog 246=true:=ah
@[go_sem] def acu:cf prog 247=true:=ah
@[go_sem] def PY:cf prog 267=true:=ah
@[go_sem] def acv:cf prog 268=true:=ah
@[go_sem] def acw:cf prog 269=true:=ah
@[go_sem] def acx:cf prog 270=true:=ah
@[go_sem] def acy:cf prog 271=true:=ah
@[go_sem] def acz:cf prog 272=true:=ah
@[go_sem] def acA:cf prog 273=true:=ah
@[go_sem] def arp:kI prog 22 2=some (3,[(0,1),(1,1)],[.int Go.IntKind.i64 0,.int Go.IntKind.i64 0])/\bH prog 276 7=some 7/\dm prog 49=true/\dx prog 49=false/\cq prog 49=1/\iv prog 215=true/\bH prog 276 10=some 10/\bH prog 276 9=some 9/\bH prog 276 3=some 3/\bH prog 276 8=some 8/\jk prog 296=some [(0,1)]/\iv prog 296=true:=by and_intros<;>kernel_rfl
@[go_sem] def acB:cf prog 286=true:=ah
@[go_sem] def Ja:cf prog 289=true:=ah
@[go_sem] def ars:iv prog 185=true/\dq prog 191=some (.agg #[.nilIface,.int Go.IntKind.i64 0,.string (B []),.pointer none,.bool false])/\jk prog 191=some [(0,1),(1,1),(2,1),(3,1),(4,1)]/\bH prog 193 1=some 1/\bH prog 193 2=some 2/\pR prog 77=true/\bH prog 116 1=some 1/\bH prog 116 2=some 2/\dq prog 81=some (.agg #[.string (B []),.slice none 0 0,.int Go.IntKind.i64 0,.int Go.IntKind.i64 0,.slice none 0 0])/\jk prog 81=some [(0,1),(1,1),(2,1),(3,1),(4,1)]/\bH prog 116 3=some 3/\kI prog 79 1=some (186,[(0,1)],[.pointer none]):=by and_intros<;>kernel_rfl
@[go_sem] def art:bH prog 276 4=some 4/\jk prog 280=some [(0,1),(1,4)]/\kY prog 21 129=none/\sL prog 21 129=some Go.IntKind.u32/\kY prog 21 5=none/\sL prog 21 5=some Go.IntKind.u8/\bH prog 191 2=some 2:=by and_intros<;>kernel_rfl
end
section
open Go.Conc
open Go.ConcN (sumTo upd sumTo_upd upd_ne upd_same)
def th(J:Nat->Prop):Loc->Prop:=λl=>∃a:Addr,l=.cell a/\J a.block
variable {J:Nat->Prop}{n:Nat}{e:Event}
def aaZ(h:im J n e):EvL (th J) n e:=by
 obtain⟨loc,wr,sy⟩:=e;unfold im at h
 cases loc with
 |cell a=>
  obtain⟨h1,h2⟩:¬J a.block/\a.block<n:=h;refine⟨λx hx hs=>?_,al,al,?_⟩
  ·obtain⟨b,hb,hj⟩:=hs
   have:x.loc=.cell a:=by cases sy<;>simp[MemAct.ofEvent,MemAct.touch?]at hx<;>subst hx<;>rfl
   rw[this]at hb;cases hb
   exact absurd hj h1
  ·cases sy<;>cases wr<;>exact h2
 |obj r=>
  obtain⟨h1,h2⟩:¬J r/\r<n:=h;refine⟨λx hx hs=>?_,al,al,?_⟩
  ·obtain⟨b,hb,hj⟩:=hs;exfalso
   cases sy<;>cases wr<;>simp[MemAct.ofEvent,MemAct.touch?]at hx<;>subst hx<;>cases hb
  ·cases sy<;>cases wr<;>exact h2
 |output=>exact h.elim
 |goroutines=>exact h.elim
 |mark m=>
  have h:Bj m=true:=h
  cases m<;>first|cases h|skip
  ·exact⟨λx hx=>by simp[MemAct.ofEvent,MemAct.touch?]at hx,al,al,trivial⟩
  ·exact⟨λx hx=>by simp[MemAct.ofEvent,MemAct.touch?]at hx,al,al,trivial⟩
def pk(Q:Loc->Prop)(t:Trace):Prop:=∀op∈t,∀a,Q (.cell a)->op.act≠.mark (.release a)
variable {Q:Loc->Prop}{t:Trace}
def pk.app{u:Trace}(h:pk Q t)(k:∀op∈u,∀a,op.act≠.mark (.release a)):pk Q (t++u):=λop aS=>(Array.mem_append.1 aS).elim (h op) (λhu a _=>k op hu a)
def Bf(h:∀a,e.loc≠.mark (.release a)):∀a,MemAct.ofEvent e≠.mark (.release a):=by
 intro a ha;obtain⟨loc,wr,sy⟩:=e
 cases loc<;>cases wr<;>cases sy<;>simp[MemAct.ofEvent]at ha<;>subst ha<;>exact h a rfl
def LD(h:e.mute=true):∀a,MemAct.ofEvent e≠.mark (.release a):=by
 refine Bf λa ha=>?_;obtain⟨loc,wr,sy⟩:=e
 cases ha
 simp[Event.mute]at h
def aj2(h:im J n e):∀a,e.loc≠.mark (.release a):=by intro a ha;unfold im at h;rw[ha]at h;exact absurd h (by simp[Bj])
def pk.events(h:pk Q t){g:Nat}{fn:FuncId}{pos:String}{es:Array Event}(k:∀e∈es,∀a,MemAct.ofEvent e≠.mark (.release a)):pk Q (t++MemOp.ofEvents g fn pos es):=
 h.app λop aS=>by obtain⟨e,he,rfl⟩:=Conc.mem_ofEvents aS;exact k e he
structure lh (W w:World):Prop where
 os:w.os=W.os
 tape:w.tape=W.tape
 output:w.output=W.output
variable {W w:World}
def lh.kept{w':World}(h:lh W w)(k:Kept J w w'):lh W w':=⟨k.os.trans h.os,k.tape.trans h.tape,k.output.trans h.output⟩
def lh.at(h:lh W w)(d:Nat):lh W (w.at d):=⟨h.os,h.tape,h.output⟩
def yk(P:Program)(W:World)(g:Goroutine)(σ:Hp)(m:Machine)(T:Trace):Prop:=
 ∃gs w sl q J,m=crowd gs w sl/\gs[0]? =some g/\Leavers P T gs q/\Past (th J) w.heap.size T/\cN J w σ/\lh W w/\pk (λ_=>False) T
def cN.at{σ:Hp}(h:cN J w σ)(d:Nat):cN J (w.at d) σ:=⟨h.heap,h.fA,h.low⟩
variable {P:Program}{g:Goroutine}{σ:Hp}{X:Goroutine->Hp->Prop}
def Uu(hX:gM P true g σ X){gs:Array Goroutine}{sl bE:Option (Nat×Nat)}{q:Nat->Nat}{d:Nat}(h0:gs[0]? =some g)(hL:Leavers P t gs q)(hP:Past (th J) w.heap.size t)(hS:cN J w σ)(hF:lh W w)(hN:pk (λ_=>False) t)(bw:stepT P (crowd gs w sl)=runT P (crowd gs (w.at d) bE) 0):∃N m' t' g' ae,runNT P N (crowd gs w sl) t=(.next m',t')/\yk P W g' ae m' t'/\g'.status=.running/\X g' ae:=by
 have hs:=hX J (w.at d) (hS.at d)
 cases hgo:stepG P true g (w.at d)with
 |go a' w' es=>
  rw[hgo,goes_go]at hs;obtain⟨ae,wW,hK,he,ig,hx⟩:=hs;have eG:=runT_crowd_go (P:=P) (sl:=bE) (i:=0) h0 (show stepG P (0==0) g (w.at d)=_ from hgo);have bj:0<gs.size:=(Array.getElem?_eq_some_iff.1 h0).1
  have jW:runNT P 1 (crowd gs w sl) t=(.next (crowd ((gs.map (woken P g a' w')).setIfInBounds 0 a') w' bE),t++MemOp.ofEvents 0 g.frame.fn g.frame.place es):=by simp only[runNT,bw,eG]
  refine⟨1,_,_,a',ae,jW,⟨_,w',bE,q,J,rfl,Array.getElem?_setIfInBounds_self_of_lt (aZ bj),⟨λj x hj hx=>?_,λj hj=>?_⟩,(hP.mono hK.tv).own (λe h=>aaZ (he e h)),wW,(hF.at d).kept hK,hN.events (λe h=>Bf (aj2 (he e h)))⟩,ig,hx⟩
  ·have aE:0≠j:=aa;rw[Array.getElem?_setIfInBounds_ne aE,Array.getElem?_map]at hx;obtain⟨z,hz,rfl⟩:=Option.map_eq_some_iff.1 hx;have hq:=hL.old j z hj hz;rw[woken_quitsD hq,Deaf_other t aa _ (λop aS=>by obtain⟨e,_,rfl⟩:=Conc.mem_ofEvents aS;rfl)];exact hq
  ·rw[Deaf_other t (g':=0) (by simp at hj;omega) _ (λop aS=>by obtain⟨e,_,rfl⟩:=Conc.mem_ofEvents aS;rfl)];exact hL.above j (aZ hj)
 |_=>rw[hgo]at hs;exact hs.elim
def aoa(jW:g.status=.running)(hX:gM P true g σ X):
 ∀(M:Nat) (gs:Array Goroutine) (w:World) (sl:Option (Nat×Nat)) (t:Trace) (q:Nat->Nat) (J:Nat->Prop),sumTo gs.size q<=M->gs[0]? =some g->Leavers P t gs q->Past (th J) w.heap.size t->cN J w σ->lh W w->pk (λ_=>False) t->
  ∃N m' t' g' ae,runNT P N (crowd gs w sl) t=(.next m',t')/\yk P W g' ae m' t'/\g'.status=.running/\X g' ae:=by
 intro M
 induction M with
 |zero=>
  intro gs w sl t q J hM h0 hL hP hS hF hN
  have CL:∀g∈gs,awake g:=by
   intro y hy;obtain⟨i,hi,rfl⟩:=Array.mem_iff_getElem.1 hy;rcases Nat.eq_zero_or_pos i with rfl|mP
   ·have:gs[0]=g:=by simpa[Array.getElem?_eq_getElem hi]using h0
    rw[this];exact awake_of (.inl jW)
   ·exact awake_of ((hL.old i _ mP (Array.getElem?_eq_getElem hi)).status.elim .inl λx=>.inr (.inr x))
  obtain⟨i,y,d,bE,hi,hg,bw⟩:=crowd_pick (P:=P) (w:=w) (sl:=sl) CL ⟨0,g,h0,jW⟩;rcases Nat.eq_zero_or_pos i with rfl|mP
  ·obtain rfl:y=g:=by rw[h0]at hi;exact(Option.some.inj hi).symm
   exact Uu hX h0 hL hP hS hF hN bw
  ·have hq:=hL.old i y mP hi;have bj:i<gs.size:=(Array.getElem?_eq_some_iff.1 hi).1;have:=Go.ConcN.le_sumTo (f:=q) bj;have mQ:q i=0:=aa;rw[mQ]at hq;rw[hq.1]at hg;cases hg
 |succ M ih=>
  intro gs w sl t q J hM h0 hL hP hS hF hN
  have CL:∀g∈gs,awake g:=by
   intro y hy;obtain⟨i,hi,rfl⟩:=Array.mem_iff_getElem.1 hy;rcases Nat.eq_zero_or_pos i with rfl|mP
   ·have:gs[0]=g:=by simpa[Array.getElem?_eq_getElem hi]using h0
    rw[this];exact awake_of (.inl jW)
   ·exact awake_of ((hL.old i _ mP (Array.getElem?_eq_getElem hi)).status.elim .inl λx=>.inr (.inr x))
  obtain⟨i,y,d,bE,hi,hg,bw⟩:=crowd_pick (P:=P) (w:=w) (sl:=sl) CL ⟨0,g,h0,jW⟩;rcases Nat.eq_zero_or_pos i with rfl|mP
  ·obtain rfl:y=g:=by rw[h0]at hi;exact(Option.some.inj hi).symm
   exact Uu hX h0 hL hP hS hF hN bw
  ·have hq:=hL.old i y mP hi;have qA:(i==0)=false:=by simp;omega
   have bj:i<gs.size:=(Array.getElem?_eq_some_iff.1 hi).1
   cases mQ:q i with
   |zero=>rw[mQ]at hq;rw[hq.1]at hg;cases hg
   |succ k=>
    rw[mQ]at hq;rcases hq with⟨hf,_⟩|⟨_,g',es,hm,lG,bz⟩
    ·rw[hf]at hg;cases hg
    have eG:=runT_crowd_go (P:=P) (sl:=bE) (i:=i) hi (by rw[qA];exact lG (w.at d));have gE:((gs.map (woken P y g' (w.at d))).setIfInBounds i g').size=gs.size:=al
    have Kx:sumTo gs.size (upd q i k)+(k+1)=sumTo gs.size q+k:=by have:=sumTo_upd q k id bj;simpa[mQ]using this
    have tz:((gs.map (woken P y g' (w.at d))).setIfInBounds i g')[0]? =some g:=by
     rw[Array.getElem?_setIfInBounds_ne aa,Array.getElem?_map,h0];simp only[Option.map_some,Option.some.injEq];unfold woken;split
     ·exact again_running _ (.inl jW)
     ·exact rfl
    have CC:Leavers P (t++MemOp.ofEvents i y.frame.fn y.frame.place es) ((gs.map (woken P y g' (w.at d))).setIfInBounds i g') (upd q i k):=by
     refine⟨λj x hj hx=>?_,λj hj=>?_⟩
     ·by_cases e:j=i
      ·subst e;rw[Array.getElem?_setIfInBounds_self_of_lt (aZ bj)]at hx;obtain rfl:=Option.some.inj hx;rw[upd_same,Deaf_own];exact bz
      ·rw[Array.getElem?_setIfInBounds_ne (λz=>e z.symm),Array.getElem?_map]at hx;obtain⟨z,hz,rfl⟩:=Option.map_eq_some_iff.1 hx;have Ry:=hL.old j z hj hz;rw[woken_quitsD Ry,upd_ne q k e,Deaf_other t (λz=>e z.symm) _ (λop aS=>by obtain⟨e,_,rfl⟩:=Conc.mem_ofEvents aS;rfl)];exact Ry
     ·rw[Deaf_other t (g':=i) (by simp at hj;omega) _ (λop aS=>by obtain⟨e,_,rfl⟩:=Conc.mem_ofEvents aS;rfl)];exact hL.above j (aZ hj)
    obtain⟨N,m',t',si,ae,hr,mG,ig,hx⟩:=ih ((gs.map (woken P y g' (w.at d))).setIfInBounds i g') (w.at d) bE (t++MemOp.ofEvents i y.frame.fn y.frame.place es) (upd q i k) J (by rw[gE];omega) tz CC (hP.mute aa hm) (hS.at d) (hF.at d) (hN.events λe he=>LD (hm e he));exact⟨N+1,m',t',si,ae,by simp only[runNT,bw,eG];exact hr,mG,ig,hx⟩
def solo(P:Program)(W:World):Env P where
 main:=true
 st:=yk P W
 ik:=by rintro g σ τ m T ⟨gs,w,sl,q,J,rfl,h0,hL,hP,hS,hF,hN⟩ hle;exact⟨gs,w,sl,q,J,rfl,h0,hL,hP,hS.ik hle,hF,hN⟩
 own:=by rintro g σ m T X ⟨gs,w,sl,q,J,rfl,h0,hL,hP,hS,hF,hN⟩ hr hX;exact aoa hr hX (sumTo gs.size q) gs w sl T q J (Nat.le_refl _) h0 hL hP hS hF hN
def an8(g:Goroutine)(W:World):yk P W g ⟨λb=>W.heap[b]?⟩ (crowd #[g] W none) #[]:=by
 refine⟨#[g],W,none,λ_=>0,λ_=>False,rfl,rfl,leavers_one P g,?_,⟨λh=>h,λ_ h=>h.elim,λ_ h=>h.elim⟩,⟨rfl,rfl,rfl⟩,λop aS=>by simp at aS⟩
 have e:th (λ_=>False)=λ_=>False:=by
  funext l;apply propext;constructor
  ·rintro⟨_,_,h⟩;exact h
  ·exactλh=>h.elim
 rw[e];exact past_nil.mono (Nat.zero_le _)
def an9{f:FuncId}{fn:Func}{HA:Tmp}{args:Array Value}{R:Value->Hp->Prop}{Post:Value->World->Prop}(hi:P.inits.idxOf? f=none)(rm:P.funcs[f]? =some fn)(eN:fn.results= #[.tmp HA])(h:ay (solo P W) f args ⟨λb=>W.heap[b]?⟩ (λe ae=>∃v,e=.returned v/\R v ae))(afk:∀v ae J w',R v ae->cN J w' ae->lh W w'->Post v w'):
 ∃N last o w' t',runNT P (N+1) (Conc.solo (G (Frame.enter P f args .normal) []) W) #[]=(.ended o w',t')/\runN P N (Conc.solo (G (Frame.enter P f args .normal) []) W)=.next last/\step P last=.ended o w'/\Conc.Good P Post last o w' t':=by
 obtain⟨N,m',T',g',ae,jW,⟨gs,w,sl,q,J,rfl,h0,hL,hP,hS,hF,_⟩,e,fr,rfl,AM,hl,v,rfl,hR⟩:=h [] _ _ (an8 _ W);obtain⟨hm,hd,hk,Cq,CZ,hr⟩:=hl;obtain rfl:Cq=fn:=by rw[AM,rm]at CZ;exact(Option.some.inj CZ).symm
 have hv:fr.tmps.getD HA undef=v:=by have:wpS P (results Cq fr.tmps) (λv' fZ=>v'=v/\fZ=ae) (λ_ _=>False) ae:=hr;simp[results,eN,bq]at this;simpa using this
 have gz:∀w,stepG P true (G fr []) w=.ended (.done v) w #[]:=by
  intro w
  have hrt:(results Cq fr.tmps).runT P w #[]=(.ok v w,#[]):=by rw[Sem.runT_eq,results_tmp eN,<-hv];simp[results,eN]
  simp only[G,stepG,hm,unwind,hd,CZ,hrt,doReturn,hk];simp[GStep.after,seen,AM,hi]
 obtain⟨N',last,o,w',t',e1,e2,e3,e4⟩:=beside_ends (P:=P) (D:=λ_ _ _=>False) (Shun:=th J) (B:=w.heap.size) (Post:=Post) (sl:=sl) (n:=0) (λ_ _ _ h=>h.elim) h0 hL hP
  (λw₁ KI=>by
   obtain⟨d,rfl⟩:=KI
   exact⟨rfl,v,#[],gz _,al,afk v ae J _ hR (hS.at d) (hF.at d)⟩)
 rw[solo_eq_crowd];refine⟨N+N',last,o,w',t',?_,?_,e3,e4⟩
 ·rw[Nat.add_assoc,runNT_add,jW];exact e1
 ·rw[runN_add,<-runNT_fst P _ _ #[],jW];exact e2
end
section
open Go.Proofs
def lr:List PanicEntry:=[{v:=.iface 325 (.agg #[]),recovered:=false}]
variable {E:Env prog}{σ:Hp}{b off:Nat}{c:List Value}{e:TypeId}{s:List UInt8}{n:Int}
def MB(hb:σ.f b=some (.cells c.toArray e (0,0)))(ho:c[off]? =some (.string (B s)))(h0:0<=n)(hn:n<=s.length):
 ay E 148 #[.pointer (some ⟨b,off,none⟩),.int .i64 n] σ λe' ae=>e'=.returned (.string (B (s.take n.toNat)))/\ae=σ.set b (.cells (c.set off (.string (B (s.drop n.toNat)))).toArray e):=by
 have bj:off<c.length:=(List.getElem?_eq_some_iff.1 ho).1;have Df:¬((s.length:Int)<n):=aa;have hl:(s.length-n.toNat)=(s.drop n.toNat).length:=al;refine aW func148 ntmps148 results148 λQ aC an aA=>?_;simp only[go_sem,seval,hb,ho,h0,hn,Df,bj];refine an aI ao ⟨?_,?_⟩
 ·simp only[go_sem,seval,Nat.sub_zero]
 ·simp only[hl,List.take_length]
variable {z:Nat×Nat}
def UN(hb:σ.f b=some (.cells c.toArray e z))(ho:c[off]? =some (.string (B s)))(hn:(s.length:Int)<n):
 ay E 148 #[.pointer (some ⟨b,off,none⟩),.int .i64 n] σ λe' ae=>e'=.panicked lr/\ae=σ:=by
 refine aW func148 ntmps148 results148 λQ aC an aA=>?_;simp only[go_sem,seval,hb,ho,hn];exact aA _ _ _ _ ao ⟨rfl,rfl⟩
def num(l:List UInt8):Nat:=l.foldl (λn b=>n*256+b.toNat) 0
def aka(l:List UInt8)(b:UInt8):num (l++[b])=num l*256+b.toNat:=by simp[num]
def aj8(l:List UInt8):∀a,l.foldl (λn b=>n*256+b.toNat) a<(a+1)*256^l.length:=by
 induction l with
 |nil=>intro a;simp
 |cons b l ih=>
  intro a;have h1:=ih (a*256+b.toNat);have h2:=b.toNat_lt;have h3:(a*256+b.toNat+1)*256^l.length<=((a+1)*256)*256^l.length:=Nat.mul_le_mul_right _ aa;simp only[List.foldl_cons,List.length_cons,Nat.pow_succ];have h4:(a+1)*(256^l.length*256)=((a+1)*256)*256^l.length:=by rw[Nat.mul_comm (256^l.length),Nat.mul_assoc]
  omega
def Te(l:List UInt8):num l<256^l.length:=by have:=aj8 l 0;simpa[num]using this
def akb(l:List UInt8)(i:Nat)(h:i<l.length):num (l.take (i+1))=num (l.take i)*256+(l.getD i 0).toNat:=by rw[List.take_succ_eq_append_getElem h,aka,List.getD_eq_getElem?_getD,List.getElem?_eq_getElem h,Option.getD_some]
def wrap64(h: -9223372036854775808<=n)(h':n<=9223372036854775807):IntKind.wrap .i64 n=n:=by rw[IntKind.wrap_i64];omega
def anQ{n:Nat}{m:Nat}(hm:m<256)(h:n<2^55):G3 .i64 (BD .i64 n 8) (IntKind.wrap .i64 (m:Int))=((n*256+m:Nat):Int):=by
 unfold G3 BD;have e0:IntKind.i64.bits=64:=rfl
 have e1:((n:Int)*2^(min (8:Int).toNat IntKind.i64.bits))=((n*256:Nat):Int):=by rw[e0];simp
 rw[e1,wrap64 (n:=((n*256:Nat):Int)) aa aa,wrap64 (n:=(m:Int)) aa aa,e0];rw[BitVec.ofInt_natCast,BitVec.ofInt_natCast,BitVec.toNat_or,BitVec.toNat_ofNat,BitVec.toNat_ofNat,Nat.mod_eq_of_lt aa,Nat.mod_eq_of_lt aa];have:=Nat.shiftLeft_add_eq_or_of_lt (b:=m) (i:=8) aa n;rw[Nat.shiftLeft_eq]at this;rw[show n*256=n*2^8 by rfl,<-this];exact wrap64 aa aa
def GO{o:Obj}(h:σ.f b=none):σ.le (σ.set b o):=by
 intro x ox hx;have:x≠b:=by intro e;subst e;rw[h]at hx;cases hx
 rw[Hp.aO o this];exact hx
def Ec{w:Nat}(hb:σ.f b=some (.cells c.toArray e (0,0)))(ho:c[off]? =some (.string (B s)))(hw:w<=7)(hn:w<=s.length):
 ay E 147 #[.pointer (some ⟨b,off,none⟩),.int .i64 w] σ λe' ae=>e'=.returned (.int .i64 (num (s.take w)))/\ae=σ.set b (.cells (c.set off (.string (B (s.drop w)))).toArray e):=by
 refine aW func147 ntmps147 results147 λQ aC an aA=>?_;refine ag ?_;refine aR (MB hb ho aa aa) ?_;refine ag ?_;refineλnb pad z vz=>?_;refine ag ?_
 refine dh (λm ρ ds τ=>ds=[]/\τ=(σ.set b (.cells (c.set off (.string (B (s.drop w)))).toArray e)).set nb (.cells (dB (s.take w)++List.replicate pad (Value.int .u8 0)).toArray 5 z)/\∃i,i<=w/\m=w-i/\
  ρ 12=.int .i64 i/\ρ 11=.int .i64 w/\ρ 10=.slice (some ⟨nb,0,none⟩) w (w+pad)/\ρ 4=.int .i64 (num (s.take i))) w ?_ ?_
 ·refine⟨rfl,?_,0,Nat.zero_le _,rfl,?_⟩
  ·exact au
  ·have hm:min w s.length=w:=aa;simp only[go_sem,seval,num,List.length_take,hm,List.foldl_nil,true_and]
   try rfl
 ·rintro m ρ ds τ X ⟨rfl,rfl,i,hi,rfl,oF,bP,bA,h4⟩ hX;rcases Nat.lt_or_ge i w with bj|sA
  ·have c1:(i:Int)<w:=aa;have c2:(0:Int)<=i:=aa;have c3:i<(s.take w).length:=by simp;omega
   simp only[go_sem,seval,oF,bP,bA,h4,c1,c2,YA c3];refine hX (w-(i+1)) _ _ _ _ aa ⟨rfl,rfl,i+1,aa,rfl,?_⟩ ao;have h1:=Te (s.take i);have h2:(s.take i).length=i:=by simp;omega
   have h3:(256:Nat)^i<=256^6:=Nat.pow_le_pow_right aa aa
   have h4:pr (s.take w) i=(((s.getD i 0).toNat:Nat):Int):=by simp only[pr,List.getD_eq_getElem?_getD,List.getElem?_take,bj,if_true]
   have h5:=(s.getD i 0).toNat_lt;rw[h2]at h1;refine bO bP bA h4 ?_;rw[anQ aa aa,akb s i aa,wrap64 aa aa];exact⟨rfl,rfl⟩
  ·have c1:¬(i:Int)<w:=aa;refine bO oF bP c1 ?_;refine an aI ?_ ⟨?_,rfl⟩
   ·exact GO vz
   ·have:i=w:=aa;subst this;exact aK h4
def cI{m:Int}(e:n=m:=by omega)(h: -9223372036854775808<=n:=by omega)(h1:n<=9223372036854775807:=by omega):IntKind.wrap .i64 n=m:=(wrap64 h h1).trans e
def fF(i:Nat)(h:i<=9223372036854775806:=by omega):IntKind.wrap .i64 ((i:Int)+1)=((i+1:Nat):Int):=cI
def fu(w:Nat)(s:List UInt8):Option (Nat×List UInt8):=if w<=s.length then some (num (s.take w),s.drop w)else none
def zm(n:Nat)(s:List UInt8):Option (List UInt8×List UInt8):=if n<=s.length then some (s.take n,s.drop n)else none
def jP(s:List UInt8):Option (List UInt8×List UInt8):=(fu 1 s).bind λr=>zm r.1 r.2
def zl(s:List UInt8):Option (Bool×List UInt8):=(fu 1 s).bind λr=>if r.1<=1 then some (decide (r.1=1),r.2)else none
def qW{α:Type}(σ:Hp)(b off:Nat)(c:List Value)(e:TypeId)(f:α->Value)(r:Option (α×List UInt8))(e':Fin)(ae:Hp):Prop:=
 match r with
 |some (v,rest)=>e'=.returned (f v)/\ae=σ.set b (.cells (c.set off (.string (B rest))).toArray e)
 |none=>e'=.panicked lr/\∃l,ae=σ.set b (.cells (c.set off (.string (B l))).toArray e)
variable {P:Program}{E:Env P}{ρ:av}{ds:List Deferred}{dst:Option Tmp}{nx:av->List Deferred->Hp->Prop}{pn:List PanicEntry->Hp->Prop}{f:FuncId}{args:Array Value}
def Ou{ch:List PanicEntry}{τ:Hp}(hg:cf P f=true)(h:ay E f args σ λe ae=>e=.panicked ch/\ae=τ)(k:pn ch τ):jR E f args σ dst ρ ds nx pn:=
 Fg hg (h.mono λe ae ⟨h1,h2⟩=>by subst h1;subst h2;exact k)
def B7{α:Type}{fv:α->Value}{r:Option (α×List UInt8)}(hg:cf P f=true)(h:ay E f args σ (qW σ b off c e fv r))(k:∀v rest,r=some (v,rest)->nx (aB ρ dst (fv v)) ds (σ.set b (.cells (c.set off (.string (B rest))).toArray e)))(kp:r=none->∀l,pn lr (σ.set b (.cells (c.set off (.string (B l))).toArray e))):jR E f args σ dst ρ ds nx pn:=by
 refine Fg hg (h.mono λe' ae hr=>?_)
 cases r with
 |none=>obtain⟨rfl,l,rfl⟩:=hr;exact kp rfl l
 |some p=>obtain⟨v,rest⟩:=p;obtain⟨rfl,rfl⟩:=hr;exact k v rest rfl
variable {v:Value}
def OE(hb:σ.f b=some (.cells c.toArray e (0,0)))(ho:c[off]? =some v):σ.set b (.cells (c.set off v).toArray e)=σ:=by
 have:c.set off v=c:=by
  apply List.ext_getElem?;intro i;by_cases h:off=i
  ·subst h;rw[List.getElem?_set_self (List.getElem?_eq_some_iff.1 ho).1,ho]
  ·rw[List.getElem?_set_ne h]
 rw[this];exact Hp.Hk hb
variable {E:Env prog}{w:Nat}
def akc(hb:σ.f b=some (.cells c.toArray e (0,0)))(ho:c[off]? =some (.string (B s)))(hn:s.length<w):
 ay E 147 #[.pointer (some ⟨b,off,none⟩),.int .i64 w] σ λe' ae=>e'=.panicked lr/\ae=σ:=by
 refine aW func147 ntmps147 results147 λQ aC an aA=>?_;refine ag ?_;refine Ou PU (UN hb ho aa) ?_;exact aA _ _ _ _ ao ⟨rfl,rfl⟩
def ob(hb:σ.f b=some (.cells c.toArray e (0,0)))(ho:c[off]? =some (.string (B s)))(hw:w<=7):
 ay E 147 #[.pointer (some ⟨b,off,none⟩),.int .i64 w] σ (qW σ b off c e (λn:Nat=>.int .i64 n) (fu w s)):=by
 by_cases h:w<=s.length
 ·simp only[fu,h,if_true];exact Ec hb ho hw h
 ·simp only[fu,h,if_false];exact(akc hb ho aa).mono λe' ae ⟨h1,h2⟩=>⟨h1,s,by rw[h2,OE hb ho]⟩
def apd{n:Nat}(hb:σ.f b=some (.cells c.toArray e (0,0)))(ho:c[off]? =some (.string (B s))):
 ay E 148 #[.pointer (some ⟨b,off,none⟩),.int .i64 n] σ (qW σ b off c e (λl=>.string (B l)) (zm n s)):=by
 by_cases h:n<=s.length
 ·simp only[zm,h,if_true];refine(MB (n:=n) hb ho aa aa).mono λe' ae ⟨h1,h2⟩=>?_;simp only[Int.toNat_natCast]at h1 h2;exact⟨h1,h2⟩
 ·simp only[zm,h,if_false];exact(UN hb ho aa).mono λe' ae ⟨h1,h2⟩=>⟨h1,s,by rw[h2,OE hb ho]⟩
def s6(hb:σ.f b=some (.cells c.toArray e (0,0)))(ho:c[off]? =some (.string (B s))):
 ay E 228 #[.pointer (some ⟨b,off,none⟩)] σ (qW σ b off c e (λl=>.string (B l)) (jP s)):=by
 have bj:off<c.length:=(List.getElem?_eq_some_iff.1 ho).1;refine aW func228 ntmps228 results228 λQ aC an aA=>?_;refine ag ?_;refine B7 nM (ob hb ho (w:=1) aa) (λn rest hr=>?_) (λhr l=>?_)
 ·refine ag ?_;refine B7 PU (apd (n:=n) (s:=rest) (e:=e) (off:=off) (c:=c.set off (.string (B rest))) aY (List.getElem?_set_self bj)) (λv zw ig=>?_) (λig l=>?_)
  ·refine ag ?_;refine an aI ao ?_;simp only[qW,jP,hr,Option.bind_some,ig,go_sem,seval,List.set_set]
  ·refine aA _ _ _ _ ao ?_;simp only[qW,jP,hr,Option.bind_some,ig];exact⟨trivial,l,by simp only[Hp.set_set,List.set_set]⟩
 ·refine aA _ _ _ _ ao ?_;simp only[qW,jP,hr,Option.bind_none];exact⟨trivial,l,rfl⟩
def I0(hb:σ.f b=some (.cells c.toArray e (0,0)))(ho:c[off]? =some (.string (B s))):
 ay E 289 #[.pointer (some ⟨b,off,none⟩)] σ (qW σ b off c e (λl=>.bool l) (zl s)):=by
 refine aW func289 ntmps289 results289 λQ aC an aA=>?_;refine ag ?_;refine B7 nM (ob hb ho (w:=1) aa) (λn rest hr=>?_) (λhr l=>?_)
 ·rcases Nat.lt_or_ge 1 n with h|h
  ·have h1:(1:Int)<n:=aa;have h2:¬n<=1:=aa;refine aG h1 ?_;refine aA _ _ _ _ ao ?_;simp only[qW,zl,hr,Option.bind_some,h2,if_false];exact⟨rfl,rest,rfl⟩
  ·have h1:¬(1:Int)<n:=aa;refine aG h1 ?_;refine an aI ao ?_;simp only[qW,zl,hr,Option.bind_some,h,go_sem,seval];have:((n:Int)=1)=(n=1):=by apply propext;omega
   simp only[this]
 ·refine aA _ _ _ _ ao ?_;simp only[qW,zl,hr,Option.bind_none];exact⟨trivial,l,rfl⟩
def Pc(hb:σ.f b=some (.cells c.toArray e z))(ho:c[off]? =some (.string (B []))):
 ay E 229 #[.pointer (some ⟨b,off,none⟩)] σ λe' ae=>e'=.returned (.tuple #[])/\ae=σ:=by
 refine aW func229 ntmps229 results229 λQ aC an aA=>?_;refine bt hb ho ?_;exact aC du ao ⟨rfl,rfl⟩
def aaN(hb:σ.f b=some (.cells c.toArray e z))(ho:c[off]? =some (.string (B s)))(hs:s≠[]):
 ay E 229 #[.pointer (some ⟨b,off,none⟩)] σ λe' ae=>e'=.panicked lr/\ae=σ:=by
 refine aW func229 ntmps229 results229 λQ aC an aA=>?_;refine bO hb ho hs ?_;exact aA _ _ _ _ ao ⟨rfl,rfl⟩
variable {c:Array Value}
def Uc(hb:σ.f b=some (.cells c e z)){Q:Addr->Hp->Prop}{H:Halt->Hp->Prop}(h:Q ⟨b,off,none⟩ σ):wpS P (Conv.seenAt ⟨b,off,none⟩) Q H σ:=by
 simp only[Conv.seenAt,viewAt,aH,zL];refine⟨by simp[hb],?_⟩;have:σ.shape? b=some (e,c.size):=by simp[Hp.shape?,hb]
 rw[this];exact h
variable {E:Env P}{ty:TypeId}{pos:String}{af:Array Edge}{g:Option (Nat×Bool)}{s d t:TypeId}{x:Operand}
def apj(hs:P.underlying s=some (.pointer t))(hd:P.underlying d=some .unsafePointer)(hx:ak ρ x=.pointer (some ⟨b,off,none⟩))(hb:σ.f b=some (.cells c e z))(ho:off<c.size)(hz:0<cq P t)(h:nx (aB ρ dst (.pointer (some ⟨b,off,none⟩))) ds σ):wpOp E ⟨dst,.convert s d x,ty,pos,af,g⟩ ρ ds σ nx pn:=by
 have hi:∃i,P.info? t=some i/\i.size≠0:=by
  unfold cq at hz;split at hz
  ·rename_i i hi;exact⟨i,hi,aa⟩
  ·cases hz
 obtain⟨i,hi,aE⟩:=hi;unfold wpOp;simp only[execOp,convert,aH,dZ,hs,hd,hx,Conv.unsafePointer];refine Uc hb ?_;simp only[cellsIn];refine⟨by simp[hb],?_⟩;have:σ.shape? b=some (e,c.size):=by simp[Hp.shape?,hb]
 rw[this];simp only[bq,sizeOf,aH,fQ,hi];have key:(decide (i.size=0)||(decide (off>=c.size)&&true))=false:=by simp[aE];omega
 show wpS P (if(decide (i.size=0)||(decide (off>=c.size)&&true))=true then _ else _) _ _ _;rw[key];exact h
def abK(hs:P.underlying s=some .unsafePointer)(hd:P.underlying d=some (.pointer t))(hx:ak ρ x=.pointer (some ⟨b,off,none⟩))(hb:σ.f b=some (.cells c e z))(hl:liesAt P P.depth e (c.size/P.cellsOf e) off t 1=true)(hz:0<cq P t)(h:nx (aB ρ dst (.pointer (some ⟨b,off,none⟩))) ds σ):wpOp E ⟨dst,.convert s d x,ty,pos,af,g⟩ ρ ds σ nx pn:=by
 have hi:∃i,P.info? t=some i/\i.size≠0:=by
  unfold cq at hz;split at hz
  ·rename_i i hi;exact⟨i,hi,aa⟩
  ·cases hz
 obtain⟨i,hi,aE⟩:=hi;unfold wpOp;simp only[execOp,convert,aH,dZ,hs,hd,hx,Conv.unsafePointer];refine Uc hb ?_;simp only[sizeOf,aH,fQ,hi,bq];simp only[variablesAt,aH,zK,zL];have:σ.shape? b=some (e,c.size):=by simp[Hp.shape?,hb]
 have hf:(σ.f b).isSome=true:=by simp[hb]
 refine⟨hf,?_⟩;rw[this];have pL:(decide (i.size=0)||true)=true:=al;show wpS P (if(decide (i.size=0)||liesAt P P.depth e (c.size/P.cellsOf e) off t 1)=true then _ else _) _ _ _;rw[hl,pL];exact h
def alA{u el:TypeId}{y:Operand}{a:Addr}(ht:P.underlying t=some (.pointer el))(hz:0<cq P el)(hx:ak ρ x=.pointer (some a))(hy:ak ρ y=.pointer (some a))(h:nx (aB ρ dst (.bool false)) ds σ):wpOp E ⟨dst,.binOp .neq t x y u,ty,pos,af,g⟩ ρ ds σ nx pn:=by
 have hi:∃i,P.info? el=some i/\i.size≠0:=by
  unfold cq at hz;split at hz
  ·rename_i i hi;exact⟨i,hi,aa⟩
  ·cases hz
 obtain⟨i,hi,aE⟩:=hi;unfold wpOp;simp only[execOp,aH,hx,hy];refine yy ?_ ⟨al,al⟩;unfold binOp;simp only[aH,bq];refine Cl λn=>?_;unfold Op.equalIn;simp only[aH,dZ,ht,sizeOf,fQ,hi,bq];simp only[aE,ne_eq,not_false_eq_true,if_true,sameAddr,beq_self_eq_true];exact h
def fz{fn:Func}{ex:Array Value->Sem Value}(hf:P.funcs[f]? =some fn)(hb:fn.body.isNone=true)(hn:(fn.name== "runtime.NumGoroutine")=false)(h1:Extern.findNext fn=none)(h2:Extern.find fn=some ex)(h:wpS P (ex args) (λv ae=>nx (aB ρ dst v) ds ae) (rP λv ae=>pn [{v,recovered:=false}] ae) σ):jR E f args σ dst ρ ds nx pn:=by
 unfold jR callFunc;simp only[aH,zK,hf,hn,hb,if_true,Bool.false_eq_true,if_false,MV,h1,h2];exact⟨rfl,h⟩
def OW{a:Option Addr}:lU P s d (.pointer a)=none:=by unfold lU;cases P.underlying s<;>cases P.underlying d<;>first|rfl|(rename_i x;cases x<;>rfl)|(rename_i x y;cases y<;>rfl)
def ajZ:Extern.findNext f153=none:=ah
def ajX:Extern.find f153=some Extern.AbiNoEscape.same:=ah
def ajY:(f153.name== "runtime.NumGoroutine")=false:=ah
def aiA:liesAt prog prog.depth 155 (2/prog.cellsOf 155) 0 153 1=true:=ah
def UY:prog.underlying 137=some .unsafePointer:=ah
def MK:prog.underlying 151=some (.pointer 153):=ah
def Mw:0<cq prog 153:=by have:cq prog 153=2:=ah;omega
def Z7{E:Env prog}(hb:σ.f b=some (.cells #[.pointer none,v] 155 (0,0))):
 ay E 117 #[pV b] σ λe' ae=>e'=.returned (.tuple #[])/\ae=σ.set b (.cells #[pV b,v] 155 (0,0)):=by
 refine aW func117 ntmps117 results117 λQ aC an aA=>?_;simp only[go_sem,seval,hb,OW];refine apj (off:=0) MK UY au hb al Mw ?_;refine ag ?_;refine fz func153 rfl ajY ajZ ajX ?_;show iY E 20 _ _ _ (aB _ (some 10) (pV b)) [] σ;simp only[go_sem,seval,OW];refine abK (off:=0) UY MK au hb aiA Mw ?_;refine aG hb ?_;exact aC du ao ⟨rfl,rfl⟩
def OT{E:Env prog}(hb:σ.f b=some (.cells #[pV b,v] 155 (0,0))):
 ay E 117 #[pV b] σ λe' ae=>e'=.returned (.tuple #[])/\ae=σ:=by
 refine aW func117 ntmps117 results117 λQ aC an aA=>?_;refine aG hb ?_;refine alA (a:=⟨b,0,none⟩) MK Mw au au ?_;refine ag ?_;exact aC du ao ⟨rfl,rfl⟩
def vg:ou prog 67 where
 e:=5
 z:=1
 zero:=#[.int .u8 0]
 bytes:=1
 hu:=underlying67
 hi:=⟨t5,.int .u8 0,ah,ah,ah,rfl,ah⟩
inductive il (τ:Hp) (b:Nat) (l:List UInt8) (σ:Hp):Prop
 |new (h:l=[]) (hs:σ=τ.set b (.cells #[.pointer none,.slice none 0 0] 155 (0,0)))
 |old (h:l=[]) (hs:σ=τ.set b (.cells #[pV b,.slice none 0 0] 155 (0,0)))
 |buf (bb cap:Nat) (rest:List Value) (hn:τ.f bb=none) (aE:bb≠b) (hc:l.length<=cap) (hr:cap<=l.length+rest.length)
  (hs:σ=(τ.set b (.cells #[pV b,.slice (some ⟨bb,0,none⟩) l.length cap] 155 (0,0))).set bb (.cells (dB l++rest).toArray 5 (0,0)))
end
end Go.Qw
