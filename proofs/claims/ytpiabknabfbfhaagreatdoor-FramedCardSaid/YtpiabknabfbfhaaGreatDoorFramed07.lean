/- 7 -/
import Derived.Test.YtpiabknabfbfhaaGreatDoorProg
import Derived.KernelRfl
import Derived.Conc.Beside
import Derived.Laws.BitsLemmas
import Derived.Test.YtpiabknabfbfhaaGreatDoorFramed06
set_option linter.all false
set_option maxRecDepth 100000
set_option maxHeartbeats 8000000
namespace Go.Qw
open Go Go.Proofs.Tryz
section
open Go.Proofs
@[go_sem] def VX:dD prog 36=true:=ah
@[go_sem] def arz:qa prog 23=true/\iJ prog 22=some 1/\dk prog 3=true/\dD prog 3=false/\cC prog 3=1/\qe prog 9=true/\du prog 36=some (.agg #[.slice none 0 0,.slice none 0 0])/\dk prog 36=true/\cC prog 36=2/\bL prog 36 0=some 0/\dk prog 34=true/\dD prog 34=false:=by and_intros<;>kernel_rfl
@[go_sem] def arE:cC prog 34=1/\iJ prog 34=some 4/\iJ prog 49=some 1/\dk prog 9=true/\dD prog 9=false/\cC prog 9=1/\iJ prog 43=some 2/\bL prog 55 1=some 1/\bL prog 55 0=some 0/\bL prog 36 1=some 1/\dk prog 22=true/\dD prog 22=false:=by and_intros<;>kernel_rfl
@[go_sem] def arH:cC prog 22=1/\uh prog 45=true/\kQ prog 22 1=some (3,[(0,1)],[.int Go.IntKind.i64 0])/\du prog 66=some (.agg #[.int Go.IntKind.i64 0,.int Go.IntKind.i64 0,.int Go.IntKind.i64 0,.int Go.IntKind.i64 0,.int Go.IntKind.i64 0])/\jo prog 66=some [(0,1),(1,1),(2,1),(3,1),(4,1)]/\lB prog 3 5=none/\sZ prog 3 5=some Go.IntKind.u8/\lB prog 67 9=none/\kQ prog 67 1=some (5,[(0,1)],[.int Go.IntKind.u8 0])/\bL prog 74 4=some 8/\dk prog 72=true/\dD prog 72=false:=by and_intros<;>kernel_rfl
@[go_sem] def arJ:jo prog 36=some [(0,1),(1,1)]/\bL prog 74 1=some 5/\dk prog 71=true/\dD prog 71=false/\iJ prog 75=some 1/\dk prog 77=true/\dD prog 77=false/\cC prog 77=1/\bL prog 81 0=some 0/\bL prog 81 2=some 2/\du prog 39=some (.agg #[.string (B []),.int Go.IntKind.i64 0,.int Go.IntKind.i64 0,.int Go.IntKind.i64 0])/\jo prog 39=some [(0,1),(1,1),(2,1),(3,1)]:=by and_intros<;>kernel_rfl
@[go_sem] def arL:kQ prog 34 1=some (39,[(0,4)],[.string (B []),.int Go.IntKind.i64 0,.int Go.IntKind.i64 0,.int Go.IntKind.i64 0])/\qa prog 70=true/\ik prog 51=true/\bL prog 90 2=some 2/\dk prog 85=true/\dD prog 85=false/\cC prog 85=1/\bL prog 74 2=some 6/\bL prog 90 9=some 10/\du prog 51=some (.int Go.IntKind.i64 0)/\ik prog 93=true/\dk prog 51=true:=by and_intros<;>kernel_rfl
@[go_sem] def arN:dD prog 51=false/\bL prog 90 7=some 8/\bL prog 90 8=some 9/\bL prog 66 0=some 0/\bL prog 66 1=some 1/\bL prog 66 2=some 2/\bL prog 66 3=some 3/\bL prog 66 4=some 4/\dk prog 66=true/\dD prog 66=true/\cC prog 66=5/\du prog 74=some (.agg #[.int Go.IntKind.i64 0,.int Go.IntKind.i64 0,.int Go.IntKind.i64 0,.int Go.IntKind.i64 0,.int Go.IntKind.i64 0,.pointer none,.int Go.IntKind.i64 0,.int Go.IntKind.i64 0,.map none]):=by and_intros<;>kernel_rfl
@[go_sem] def arQ:jo prog 74=some [(0,5),(5,1),(6,1),(7,1),(8,1)]/\bL prog 116 0=some 0/\dk prog 114=true/\dD prog 114=false/\bL prog 81 1=some 1/\dk prog 78=true/\dD prog 78=false/\cC prog 78=1/\qe prog 78=false/\iJ prog 78=some 4/\bL prog 81 4=some 4/\dk prog 79=true:=by and_intros<;>kernel_rfl
@[go_sem] def ac5:cq prog 54=true:=ah
@[go_sem] def ars:dD prog 79=false/\cC prog 79=1/\qe prog 79=false/\iJ prog 79=some 1/\bL prog 74 3=some 7/\bL prog 74 0=some 0/\du prog 90=some (.agg #[.pointer none,.int Go.IntKind.i64 0,.int Go.IntKind.i64 0,.string (B []),.bool false,.map none,.int Go.IntKind.i64 0,.int Go.IntKind.i64 0,.int Go.IntKind.i64 0,.int Go.IntKind.i64 0,.int Go.IntKind.i64 0,.string (B [])])/\jo prog 90=some [(0,1),(1,1),(2,1),(3,2),(5,1),(6,1),(7,1),(8,1),(9,1),(10,1),(11,1)]/\bL prog 90 10=some 11/\du prog 55=some (.agg #[.int Go.IntKind.i64 0,.string (B [])])/\jo prog 55=some [(0,1),(1,1)]/\kQ prog 43 1=some (55,[(0,2)],[.int Go.IntKind.i64 0,.string (B [])]):=by and_intros<;>kernel_rfl
@[go_sem] def art:du prog 119=some (.chan none)/\du prog 120=some (.chan none)/\du prog 121=some (.chan none)/\dk prog 119=true/\cC prog 119=1/\dk prog 120=true/\cC prog 120=1/\dk prog 121=true/\cC prog 121=1/\dk prog 70=true/\dD prog 70=false/\bL prog 90 6=some 7:=by and_intros<;>kernel_rfl
@[go_sem] def VW:dD prog 135=true:=ah
@[go_sem] def ac7:cq prog 59=true:=ah
@[go_sem] def aru:du prog 135=some (.agg #[.int Go.IntKind.i64 0,.int Go.IntKind.i64 0,.string (B []),.bool false,.bool false])/\dk prog 135=true/\cC prog 135=5/\bL prog 135 0=some 0/\bL prog 135 3=some 3/\dk prog 4=true/\dD prog 4=false/\cC prog 4=1/\bL prog 135 4=some 4/\bL prog 90 0=some 0/\dk prog 23=true/\dD prog 23=false:=by and_intros<;>kernel_rfl
@[go_sem] def arv:uh prog 20=true/\du prog 140=some (.agg #[.pointer none,.pointer none,.int Go.IntKind.u64 0])/\dk prog 140=true/\dD prog 140=true/\cC prog 140=3/\dk prog 143=true/\dD prog 143=false/\lB prog 5 3=none/\sZ prog 5 3=some Go.IntKind.i64/\du prog 155=some (.agg #[.pointer none,.slice none 0 0])/\jo prog 155=some [(0,2)]/\ik prog 157=true:=by and_intros<;>kernel_rfl
@[go_sem] def ac8:cq prog 65=true:=ah
@[go_sem] def ac9:cq prog 66=true:=ah
@[go_sem] def ada:cq prog 67=true:=ah
@[go_sem] def adb:cq prog 82=true:=ah
@[go_sem] def ade:cq prog 85=true:=ah
@[go_sem] def arw:ik prog 158=true/\ik prog 159=true/\kQ prog 235 3=some (20,[(0,1),(1,1),(2,1)],[.nilIface,.nilIface,.nilIface])/\bL prog 155 0=some 0/\du prog 116=some (.agg #[.map none,.int Go.IntKind.i64 0,.int Go.IntKind.i64 0,.int Go.IntKind.i64 0])/\jo prog 116=some [(0,1),(1,1),(2,1),(3,1)]/\bL prog 90 4=some 5/\dk prog 88=true/\dD prog 88=false/\cC prog 88=1/\qa prog 186=true/\bL prog 191 1=some 1:=by and_intros<;>kernel_rfl
@[go_sem] def Sb:dk prog 193=true:=ah
@[go_sem] def ac6:cq prog 58=true:=ah
@[go_sem] def acz:cq prog 104=true:=ah
@[go_sem] def VY:dD prog 45=false:=ah
@[go_sem] def arx:bL prog 81 3=some 3/\du prog 193=some (.agg #[.int Go.IntKind.i64 0,.string (B []),.string (B []),.bool false])/\dD prog 193=true/\cC prog 193=4/\bL prog 191 0=some 0/\dk prog 189=true/\dD prog 189=false/\bL prog 87 0=some 0/\du prog 217=some (.agg #[.int Go.IntKind.i64 0,.int Go.IntKind.i64 0,.int Go.IntKind.i64 0])/\jo prog 217=some [(0,1),(1,1),(2,1)]/\dk prog 45=true/\cC prog 45=1:=by and_intros<;>kernel_rfl
@[go_sem] def Av:cq prog 116=true:=ah
@[go_sem] def ary:iJ prog 235=some 1/\dk prog 20=true/\dD prog 20=false/\du prog 157=some (.int Go.IntKind.i64 0)/\du prog 158=some (.int Go.IntKind.i64 0)/\du prog 159=some (.int Go.IntKind.i64 0)/\ik prog 237=true/\du prog 237=some (.int Go.IntKind.i64 0)/\ik prog 238=true/\du prog 238=some (.string (B []))/\qe prog 238=true/\ik prog 239=true:=by and_intros<;>kernel_rfl
@[go_sem] def PY:cq prog 117=true:=ah
@[go_sem] def aj0:Bj prog 9=true:=ah
@[go_sem] def PZ:cq prog 135=true:=ah
@[go_sem] def arA:bL prog 153 1=some 1/\dk prog 67=true/\dD prog 67=false/\cC prog 67=1/\iJ prog 67=some 1/\lB prog 9 67=some 5/\dk prog 5=true/\dD prog 5=false/\lB prog 3 68=none/\sZ prog 3 68=some Go.IntKind.u64/\bL prog 276 6=some 6/\dk prog 274=true:=by and_intros<;>kernel_rfl
@[go_sem] def arB:dD prog 274=false/\bL prog 276 0=some 0/\bL prog 276 5=some 5/\dk prog 273=true/\dD prog 273=false/\dk prog 186=true/\dD prog 186=false/\cC prog 186=1/\bL prog 191 4=some 4/\jo prog 193=some [(0,1),(1,1),(2,1),(3,1)]/\bL prog 87 1=some 1/\jo prog 135=some [(0,1),(1,1),(2,1),(3,1),(4,1)]:=by and_intros<;>kernel_rfl
@[go_sem] def nS:cq prog 147=true:=ah
@[go_sem] def P0:cq prog 148=true:=ah
@[go_sem] def arC:du prog 289=some (.agg #[.string (B [])])/\jo prog 289=some [(0,1)]/\bL prog 135 1=some 1/\bL prog 289 0=some 0/\bL prog 135 2=some 2/\bL prog 217 0=some 0/\dk prog 215=true/\dD prog 215=false/\bL prog 217 1=some 1/\bL prog 217 2=some 2/\kQ prog 235 4=some (20,[(0,1),(1,1),(2,1),(3,1)],[.nilIface,.nilIface,.nilIface,.nilIface])/\du prog 293=some (.agg #[.int Go.IntKind.i64 0,.int Go.IntKind.i64 0,.string (B []),.bool false,.bool false,.string (B []),.int Go.IntKind.i64 0,.int Go.IntKind.i64 0]):=by and_intros<;>kernel_rfl
@[go_sem] def acA:cq prog 150=true:=ah
@[go_sem] def arD:jo prog 293=some [(0,5),(5,1),(6,1),(7,1)]/\du prog 296=some (.agg #[.pointer none])/\du prog 214=some (.pointer none)/\ik prog 297=true/\bL prog 296 0=some 0/\dk prog 214=true/\dD prog 214=false/\ik prog 298=true/\bL prog 153 0=some 0/\dk prog 151=true/\dD prog 151=false/\cC prog 151=1:=by and_intros<;>kernel_rfl
@[go_sem] def acB:cq prog 165=true:=ah
@[go_sem] def acC:cq prog 167=true:=ah
@[go_sem] def acD:cq prog 169=true:=ah
@[go_sem] def acE:cq prog 170=true:=ah
@[go_sem] def acF:cq prog 172=true:=ah
@[go_sem] def acG:cq prog 181=true:=ah
@[go_sem] def acH:cq prog 184=true:=ah
@[go_sem] def arF:qa prog 151=true/\lB prog 151 137=none/\lB prog 137 151=none/\kQ prog 49 1=some (9,[(0,1)],[.string (B [])])/\dk prog 75=true/\dD prog 75=false/\cC prog 75=1/\kQ prog 75 1=some (77,[(0,1)],[.pointer none])/\bL prog 191 3=some 3/\du prog 280=some (.agg #[.pointer none,.int Go.IntKind.i64 0,.string (B []),.string (B []),.bool false])/\dk prog 280=true/\cC prog 280=5:=by and_intros<;>kernel_rfl
@[go_sem] def P1:cq prog 188=true:=ah
@[go_sem] def arG:bL prog 280 0=some 0/\bL prog 280 1=some 1/\du prog 325=some (.agg #[])/\jo prog 325=some []/\ik prog 325=true/\kQ prog 235 2=some (20,[(0,1),(1,1)],[.nilIface,.nilIface])/\du prog 45=some (.nilIface)/\dk prog 291=true/\dD prog 291=false/\bL prog 293 0=some 0/\bL prog 293 1=some 5/\bL prog 293 2=some 6:=by and_intros<;>kernel_rfl
@[go_sem] def acI:cq prog 190=true:=ah
@[go_sem] def acJ:cq prog 191=true:=ah
@[go_sem] def acK:cq prog 192=true:=ah
@[go_sem] def acL:cq prog 210=true:=ah
@[go_sem] def arI:bL prog 293 3=some 7/\bL prog 276 2=some 2/\bL prog 276 1=some 1/\lB prog 3 342=none/\sZ prog 3 342=some Go.IntKind.u64/\du prog 342=some (.int Go.IntKind.u64 0)/\dk prog 342=true/\dD prog 342=false/\cC prog 342=1/\lB prog 68 3=none/\sZ prog 68 3=some Go.IntKind.i64/\du prog 3=some (.int Go.IntKind.i64 0):=by and_intros<;>kernel_rfl
@[go_sem] def acM:cq prog 220=true:=ah
@[go_sem] def acN:cq prog 221=true:=ah
@[go_sem] def acO:cq prog 222=true:=ah
@[go_sem] def acP:cq prog 223=true:=ah
@[go_sem] def sA:cq prog 228=true:=ah
@[go_sem] def acR:cq prog 229=true:=ah
@[go_sem] def P3:cq prog 230=true:=ah
@[go_sem] def arK:lB prog 126 5=none/\sZ prog 126 5=some Go.IntKind.u8/\bL prog 193 3=some 3/\bL prog 193 0=some 0/\kQ prog 78 1=some (193,[(0,4)],[.int Go.IntKind.i64 0,.string (B []),.string (B []),.bool false])/\dk prog 325=true/\cC prog 325=0/\ik prog 214=true/\kQ prog 235 1=some (20,[(0,1)],[.nilIface])/\bL prog 90 5=some 6/\qa prog 185=true/\du prog 276=some (.agg #[.pointer none,.int Go.IntKind.i64 0,.bool false,.int Go.IntKind.i64 0,.int Go.IntKind.i64 0,.map none,.map none,.int Go.IntKind.i64 0,.string (B []),.string (B []),.int Go.IntKind.i64 0]):=by and_intros<;>kernel_rfl
@[go_sem] def acS:cq prog 231=true:=ah
@[go_sem] def Jj:cq prog 237=true:=ah
@[go_sem] def acQ:cq prog 225=true:=ah
@[go_sem] def acT:cq prog 244=true:=ah
@[go_sem] def acU:cq prog 245=true:=ah
@[go_sem] def acV:cq prog 246=true:=ah
@[go_sem] def acW:cq prog 247=true:=ah
@[go_sem] def P4:cq prog 267=true:=ah
@[go_sem] def acX:cq prog 268=true:=ah
@[go_sem] def acY:cq prog 269=true:=ah
@[go_sem] def acZ:cq prog 270=true:=ah
@[go_sem] def ac0:cq prog 271=true:=ah
@[go_sem] def arM:jo prog 276=some [(0,1),(1,1),(2,1),(3,1),(4,1),(5,1),(6,1),(7,1),(8,1),(9,1),(10,1)]/\kQ prog 78 0=some (193,[],[])/\kQ prog 22 2=some (3,[(0,1),(1,1)],[.int Go.IntKind.i64 0,.int Go.IntKind.i64 0])/\bL prog 276 7=some 7/\dk prog 49=true/\dD prog 49=false/\cC prog 49=1/\ik prog 215=true/\bL prog 276 10=some 10/\bL prog 276 9=some 9/\bL prog 276 3=some 3/\bL prog 276 8=some 8:=by and_intros<;>kernel_rfl
@[go_sem] def ac2:cq prog 272=true:=ah
@[go_sem] def ac3:cq prog 273=true:=ah
@[go_sem] def ac4:cq prog 286=true:=ah
@[go_sem] def Jk:cq prog 289=true:=ah
@[go_sem] def arO:jo prog 296=some [(0,1)]/\ik prog 296=true/\ik prog 185=true/\du prog 191=some (.agg #[.nilIface,.int Go.IntKind.i64 0,.string (B []),.pointer none,.bool false])/\jo prog 191=some [(0,1),(1,1),(2,1),(3,1),(4,1)]/\bL prog 193 1=some 1/\bL prog 193 2=some 2/\qa prog 77=true/\bL prog 116 1=some 1/\bL prog 116 2=some 2/\du prog 81=some (.agg #[.string (B []),.slice none 0 0,.int Go.IntKind.i64 0,.int Go.IntKind.i64 0,.slice none 0 0])/\jo prog 81=some [(0,1),(1,1),(2,1),(3,1),(4,1)]:=by and_intros<;>kernel_rfl
@[go_sem] def arP:bL prog 116 3=some 3/\kQ prog 79 1=some (186,[(0,1)],[.pointer none])/\bL prog 276 4=some 4/\jo prog 280=some [(0,1),(1,4)]/\lB prog 21 129=none/\sZ prog 21 129=some Go.IntKind.u32/\lB prog 21 5=none/\sZ prog 21 5=some Go.IntKind.u8/\bL prog 191 2=some 2:=by and_intros<;>kernel_rfl
end
section
open Go.Conc
open Go.ConcN (sumTo upd sumTo_upd upd_ne upd_same)
def tB(J:Nat->Prop):Loc->Prop:=λl=>∃a:Addr,l=.cell a/\J a.block
variable {J:Nat->Prop}{n:Nat}{e:Event}
def abq(h:iv J n e):EvL (tB J) n e:=by
 obtain⟨loc,wr,sy⟩:=e;unfold iv at h
 cases loc with
 |cell a=>
  obtain⟨h1,h2⟩:¬J a.block/\a.block<n:=h;refine⟨λx hx hs=>?_,ak,ak,?_⟩
  ·obtain⟨b,hb,hj⟩:=hs
   have:x.loc=.cell a:=by cases sy<;>simp[MemAct.ofEvent,MemAct.touch?]at hx<;>subst hx<;>rfl
   rw[this]at hb;cases hb
   exact absurd hj h1
  ·cases sy<;>cases wr<;>exact h2
 |obj r=>
  obtain⟨h1,h2⟩:¬J r/\r<n:=h;refine⟨λx hx hs=>?_,ak,ak,?_⟩
  ·obtain⟨b,hb,hj⟩:=hs;exfalso
   cases sy<;>cases wr<;>simp[MemAct.ofEvent,MemAct.touch?]at hx<;>subst hx<;>cases hb
  ·cases sy<;>cases wr<;>exact h2
 |output=>exact h.elim
 |goroutines=>exact h.elim
 |mark m=>
  have h:Bm m=true:=h
  cases m<;>first|cases h|skip
  ·exact⟨λx hx=>by simp[MemAct.ofEvent,MemAct.touch?]at hx,ak,ak,trivial⟩
  ·exact⟨λx hx=>by simp[MemAct.ofEvent,MemAct.touch?]at hx,ak,ak,trivial⟩
def pF(Q:Loc->Prop)(t:Trace):Prop:=∀op∈t,∀a,Q (.cell a)->op.act≠.mark (.release a)
variable {Q:Loc->Prop}{t:Trace}
def pF.app{u:Trace}(h:pF Q t)(k:∀op∈u,∀a,op.act≠.mark (.release a)):pF Q (t++u):=λop aR=>(Array.mem_append.1 aR).elim (h op) (λhu a _=>k op hu a)
def Bh(h:∀a,e.loc≠.mark (.release a)):∀a,MemAct.ofEvent e≠.mark (.release a):=by
 intro a ha;obtain⟨loc,wr,sy⟩:=e
 cases loc<;>cases wr<;>cases sy<;>simp[MemAct.ofEvent]at ha<;>subst ha<;>exact h a rfl
def LM(h:e.mute=true):∀a,MemAct.ofEvent e≠.mark (.release a):=by
 refine Bh λa ha=>?_;obtain⟨loc,wr,sy⟩:=e
 cases ha
 simp[Event.mute]at h
def akl(h:iv J n e):∀a,e.loc≠.mark (.release a):=by intro a ha;unfold iv at h;rw[ha]at h;exact absurd h (by simp[Bm])
def pF.events(h:pF Q t){g:Nat}{fn:FuncId}{pos:String}{es:Array Event}(k:∀e∈es,∀a,MemAct.ofEvent e≠.mark (.release a)):pF Q (t++MemOp.ofEvents g fn pos es):=
 h.app λop aR=>by obtain⟨e,he,rfl⟩:=Conc.mem_ofEvents aR;exact k e he
structure lF (W w:World):Prop where
 os:w.os=W.os
 tape:w.tape=W.tape
 output:w.output=W.output
variable {W w:World}
def lF.kept{w':World}(h:lF W w)(k:Kept J w w'):lF W w':=⟨k.os.trans h.os,k.tape.trans h.tape,k.output.trans h.output⟩
def lF.at(h:lF W w)(d:Nat):lF W (w.at d):=⟨h.os,h.tape,h.output⟩
def yo(P:Program)(W:World)(g:Goroutine)(U:Hp)(m:Machine)(T:Trace):Prop:=
 ∃gs w sl q J,m=crowd gs w sl/\gs[0]? =some g/\Leavers P T gs q/\Past (tB J) w.heap.size T/\cP J w U/\lF W w/\pF (λ_=>False) T
def cP.at{U:Hp}(h:cP J w U)(d:Nat):cP J (w.at d) U:=⟨h.heap,h.gV,h.low⟩
variable {P:Program}{g:Goroutine}{U:Hp}{X:Goroutine->Hp->Prop}
def UB(hX:gQ P true g U X){gs:Array Goroutine}{sl bG:Option (Nat×Nat)}{q:Nat->Nat}{d:Nat}(h0:gs[0]? =some g)(hL:Leavers P t gs q)(hP:Past (tB J) w.heap.size t)(hS:cP J w U)(hF:lF W w)(hN:pF (λ_=>False) t)(bt:stepT P (crowd gs w sl)=runT P (crowd gs (w.at d) bG) 0):∃N m' t' g' ae,runNT P N (crowd gs w sl) t=(.next m',t')/\yo P W g' ae m' t'/\g'.status=.running/\X g' ae:=by
 have hs:=hX J (w.at d) (hS.at d)
 cases hgo:stepG P true g (w.at d)with
 |go a' w' es=>
  rw[hgo,goes_go]at hs;obtain⟨ae,xb,hK,he,gC,hx⟩:=hs;have eH:=runT_crowd_go (P:=P) (sl:=bG) (i:=0) h0 (show stepG P (0==0) g (w.at d)=_ from hgo);have aZ:0<gs.size:=(Array.getElem?_eq_some_iff.1 h0).1
  have kt:runNT P 1 (crowd gs w sl) t=(.next (crowd ((gs.map (woken P g a' w')).setIfInBounds 0 a') w' bG),t++MemOp.ofEvents 0 g.frame.fn g.frame.place es):=by simp only[runNT,bt,eH]
  refine⟨1,_,_,a',ae,kt,⟨_,w',bG,q,J,rfl,Array.getElem?_setIfInBounds_self_of_lt (aV aZ),⟨λj x hj hx=>?_,λj hj=>?_⟩,(hP.mono hK.tI).own (λe h=>abq (he e h)),xb,(hF.at d).kept hK,hN.events (λe h=>Bh (akl (he e h)))⟩,gC,hx⟩
  ·have aE:0≠j:=aa;rw[Array.getElem?_setIfInBounds_ne aE,Array.getElem?_map]at hx;obtain⟨z,hz,rfl⟩:=Option.map_eq_some_iff.1 hx;have hq:=hL.old j z hj hz;rw[woken_quitsD hq,Deaf_other t aa _ (λop aR=>by obtain⟨e,_,rfl⟩:=Conc.mem_ofEvents aR;rfl)];exact hq
  ·rw[Deaf_other t (g':=0) (by simp at hj;omega) _ (λop aR=>by obtain⟨e,_,rfl⟩:=Conc.mem_ofEvents aR;rfl)];exact hL.above j (aV hj)
 |_=>rw[hgo]at hs;exact hs.elim
def aoq(kt:g.status=.running)(hX:gQ P true g U X):
 ∀(M:Nat) (gs:Array Goroutine) (w:World) (sl:Option (Nat×Nat)) (t:Trace) (q:Nat->Nat) (J:Nat->Prop),sumTo gs.size q<=M->gs[0]? =some g->Leavers P t gs q->Past (tB J) w.heap.size t->cP J w U->lF W w->pF (λ_=>False) t->
  ∃N m' t' g' ae,runNT P N (crowd gs w sl) t=(.next m',t')/\yo P W g' ae m' t'/\g'.status=.running/\X g' ae:=by
 intro M
 induction M with
 |zero=>
  intro gs w sl t q J hM h0 hL hP hS hF hN
  have CP:∀g∈gs,awake g:=by
   intro y hy;obtain⟨i,hi,rfl⟩:=Array.mem_iff_getElem.1 hy;rcases Nat.eq_zero_or_pos i with rfl|oX
   ·have:gs[0]=g:=by simpa[Array.getElem?_eq_getElem hi]using h0
    rw[this];exact awake_of (.inl kt)
   ·exact awake_of ((hL.old i _ oX (Array.getElem?_eq_getElem hi)).status.elim .inl λx=>.inr (.inr x))
  obtain⟨i,y,d,bG,hi,hg,bt⟩:=crowd_pick (P:=P) (w:=w) (sl:=sl) CP ⟨0,g,h0,kt⟩;rcases Nat.eq_zero_or_pos i with rfl|oX
  ·obtain rfl:y=g:=by rw[h0]at hi;exact(Option.some.inj hi).symm
   exact UB hX h0 hL hP hS hF hN bt
  ·have hq:=hL.old i y oX hi;have aZ:i<gs.size:=(Array.getElem?_eq_some_iff.1 hi).1;have:=Go.ConcN.le_sumTo (f:=q) aZ;have mW:q i=0:=aa;rw[mW]at hq;rw[hq.1]at hg;cases hg
 |succ M ih=>
  intro gs w sl t q J hM h0 hL hP hS hF hN
  have CP:∀g∈gs,awake g:=by
   intro y hy;obtain⟨i,hi,rfl⟩:=Array.mem_iff_getElem.1 hy;rcases Nat.eq_zero_or_pos i with rfl|oX
   ·have:gs[0]=g:=by simpa[Array.getElem?_eq_getElem hi]using h0
    rw[this];exact awake_of (.inl kt)
   ·exact awake_of ((hL.old i _ oX (Array.getElem?_eq_getElem hi)).status.elim .inl λx=>.inr (.inr x))
  obtain⟨i,y,d,bG,hi,hg,bt⟩:=crowd_pick (P:=P) (w:=w) (sl:=sl) CP ⟨0,g,h0,kt⟩;rcases Nat.eq_zero_or_pos i with rfl|oX
  ·obtain rfl:y=g:=by rw[h0]at hi;exact(Option.some.inj hi).symm
   exact UB hX h0 hL hP hS hF hN bt
  ·have hq:=hL.old i y oX hi;have qE:(i==0)=false:=by simp;omega
   have aZ:i<gs.size:=(Array.getElem?_eq_some_iff.1 hi).1
   cases mW:q i with
   |zero=>rw[mW]at hq;rw[hq.1]at hg;cases hg
   |succ k=>
    rw[mW]at hq;rcases hq with⟨hf,_⟩|⟨_,g',es,hm,lO,bu⟩
    ·rw[hf]at hg;cases hg
    have eH:=runT_crowd_go (P:=P) (sl:=bG) (i:=i) hi (by rw[qE];exact lO (w.at d));have gD:((gs.map (woken P y g' (w.at d))).setIfInBounds i g').size=gs.size:=ak
    have KF:sumTo gs.size (upd q i k)+(k+1)=sumTo gs.size q+k:=by have:=sumTo_upd q k id aZ;simpa[mW]using this
    have tJ:((gs.map (woken P y g' (w.at d))).setIfInBounds i g')[0]? =some g:=by
     rw[Array.getElem?_setIfInBounds_ne aa,Array.getElem?_map,h0];simp only[Option.map_some,Option.some.injEq];unfold woken;split
     ·exact again_running _ (.inl kt)
     ·exact rfl
    have CE:Leavers P (t++MemOp.ofEvents i y.frame.fn y.frame.place es) ((gs.map (woken P y g' (w.at d))).setIfInBounds i g') (upd q i k):=by
     refine⟨λj x hj hx=>?_,λj hj=>?_⟩
     ·by_cases e:j=i
      ·subst e;rw[Array.getElem?_setIfInBounds_self_of_lt (aV aZ)]at hx;obtain rfl:=Option.some.inj hx;rw[upd_same,Deaf_own];exact bu
      ·rw[Array.getElem?_setIfInBounds_ne (λz=>e z.symm),Array.getElem?_map]at hx;obtain⟨z,hz,rfl⟩:=Option.map_eq_some_iff.1 hx;have Rz:=hL.old j z hj hz;rw[woken_quitsD Rz,upd_ne q k e,Deaf_other t (λz=>e z.symm) _ (λop aR=>by obtain⟨e,_,rfl⟩:=Conc.mem_ofEvents aR;rfl)];exact Rz
     ·rw[Deaf_other t (g':=i) (by simp at hj;omega) _ (λop aR=>by obtain⟨e,_,rfl⟩:=Conc.mem_ofEvents aR;rfl)];exact hL.above j (aV hj)
    obtain⟨N,m',t',sB,ae,hr,mL,gC,hx⟩:=ih ((gs.map (woken P y g' (w.at d))).setIfInBounds i g') (w.at d) bG (t++MemOp.ofEvents i y.frame.fn y.frame.place es) (upd q i k) J (by rw[gD];omega) tJ CE (hP.mute aa hm) (hS.at d) (hF.at d) (hN.events λe he=>LM (hm e he));exact⟨N+1,m',t',sB,ae,by simp only[runNT,bt,eH];exact hr,mL,gC,hx⟩
def solo(P:Program)(W:World):Env P where
 main:=true
 st:=yo P W
 iD:=by rintro g U R m T ⟨gs,w,sl,q,J,rfl,h0,hL,hP,hS,hF,hN⟩ hle;exact⟨gs,w,sl,q,J,rfl,h0,hL,hP,hS.iD hle,hF,hN⟩
 own:=by rintro g U m T X ⟨gs,w,sl,q,J,rfl,h0,hL,hP,hS,hF,hN⟩ hr hX;exact aoq hr hX (sumTo gs.size q) gs w sl T q J (Nat.le_refl _) h0 hL hP hS hF hN
def aoo(g:Goroutine)(W:World):yo P W g ⟨λb=>W.heap[b]?⟩ (crowd #[g] W none) #[]:=by
 refine⟨#[g],W,none,λ_=>0,λ_=>False,rfl,rfl,leavers_one P g,?_,⟨λh=>h,λ_ h=>h.elim,λ_ h=>h.elim⟩,⟨rfl,rfl,rfl⟩,λop aR=>by simp at aR⟩
 have e:tB (λ_=>False)=λ_=>False:=by
  funext l;apply propext;constructor
  ·rintro⟨_,_,h⟩;exact h
  ·exactλh=>h.elim
 rw[e];exact past_nil.mono (Nat.zero_le _)
def aop{f:FuncId}{fn:Func}{HC:Tmp}{args:Array Value}{atA:Value->Hp->Prop}{Post:Value->World->Prop}(hi:P.inits.idxOf? f=none)(rD:P.funcs[f]? =some fn)(fC:fn.results= #[.tmp HC])(h:aw (solo P W) f args ⟨λb=>W.heap[b]?⟩ (λe ae=>∃v,e=.returned v/\atA v ae))(afI:∀v ae J w',atA v ae->cP J w' ae->lF W w'->Post v w'):
 ∃N last o w' t',runNT P (N+1) (Conc.solo (G (Frame.enter P f args .normal) []) W) #[]=(.ended o w',t')/\runN P N (Conc.solo (G (Frame.enter P f args .normal) []) W)=.next last/\step P last=.ended o w'/\Conc.Good P Post last o w' t':=by
 obtain⟨N,m',T',g',ae,kt,⟨gs,w,sl,q,J,rfl,h0,hL,hP,hS,hF,_⟩,e,fr,rfl,AL,hl,v,rfl,hR⟩:=h [] _ _ (aoo _ W);obtain⟨hm,hd,hk,Cq,C3,hr⟩:=hl;obtain rfl:Cq=fn:=by rw[AL,rD]at C3;exact(Option.some.inj C3).symm
 have hv:fr.tmps.getD HC undef=v:=by have:wpS P (results Cq fr.tmps) (λv' fZ=>v'=v/\fZ=ae) (λ_ _=>False) ae:=hr;simp[results,fC,bl]at this;simpa using this
 have gu:∀w,stepG P true (G fr []) w=.ended (.done v) w #[]:=by
  intro w
  have hrt:(results Cq fr.tmps).runT P w #[]=(.ok v w,#[]):=by rw[Sem.runT_eq,results_tmp fC,<-hv];simp[results,fC]
  simp only[G,stepG,hm,unwind,hd,C3,hrt,doReturn,hk];simp[GStep.after,seen,AL,hi]
 obtain⟨N',last,o,w',t',e1,e2,e3,e4⟩:=beside_ends (P:=P) (D:=λ_ _ _=>False) (Shun:=tB J) (B:=w.heap.size) (Post:=Post) (sl:=sl) (n:=0) (λ_ _ _ h=>h.elim) h0 hL hP
  (λw₁ KR=>by
   obtain⟨d,rfl⟩:=KR
   exact⟨rfl,v,#[],gu _,ak,afI v ae J _ hR (hS.at d) (hF.at d)⟩)
 rw[solo_eq_crowd];refine⟨N+N',last,o,w',t',?_,?_,e3,e4⟩
 ·rw[Nat.add_assoc,runNT_add,kt];exact e1
 ·rw[runN_add,<-runNT_fst P _ _ #[],kt];exact e2
end
section
open Go.Proofs
def lH:List PanicEntry:=[{v:=.iface 325 (.agg #[]),recovered:=false}]
variable {E:Env prog}{U:Hp}{b off:Nat}{c:List Value}{e:TypeId}{s:List UInt8}{n:Int}
def MH(hb:U.f b=some (.cells c.toArray e (0,0)))(ho:c[off]? =some (.string (B s)))(h0:0<=n)(hn:n<=s.length):
 aw E 148 #[.pointer (some ⟨b,off,none⟩),.int .i64 n] U λe' ae=>e'=.returned (.string (B (s.take n.toNat)))/\ae=U.set b (.cells (c.set off (.string (B (s.drop n.toNat)))).toArray e):=by
 have aZ:off<c.length:=(List.getElem?_eq_some_iff.1 ho).1;have Dl:¬((s.length:Int)<n):=aa;have hl:(s.length-n.toNat)=(s.drop n.toNat).length:=ak;refine aX func148 ntmps148 results148 λQ aB al az=>?_;simp only[go_sem,seval,hb,ho,h0,hn,Dl,aZ];refine al aG ao ⟨?_,?_⟩
 ·simp only[go_sem,seval,Nat.sub_zero]
 ·simp only[hl,List.take_length]
variable {z:Nat×Nat}
def US(hb:U.f b=some (.cells c.toArray e z))(ho:c[off]? =some (.string (B s)))(hn:(s.length:Int)<n):
 aw E 148 #[.pointer (some ⟨b,off,none⟩),.int .i64 n] U λe' ae=>e'=.panicked lH/\ae=U:=by
 refine aX func148 ntmps148 results148 λQ aB al az=>?_;simp only[go_sem,seval,hb,ho,hn];exact az _ _ _ _ ao ⟨rfl,rfl⟩
def num(l:List UInt8):Nat:=l.foldl (λn b=>n*256+b.toNat) 0
def Th(l:List UInt8)(b:UInt8):num (l++[b])=num l*256+b.toNat:=by simp[num]
def aks(l:List UInt8):∀a,l.foldl (λn b=>n*256+b.toNat) a<(a+1)*256^l.length:=by
 induction l with
 |nil=>intro a;simp
 |cons b l ih=>
  intro a;have h1:=ih (a*256+b.toNat);have h2:=b.toNat_lt;have h3:(a*256+b.toNat+1)*256^l.length<=((a+1)*256)*256^l.length:=Nat.mul_le_mul_right _ aa;simp only[List.foldl_cons,List.length_cons,Nat.pow_succ];have h4:(a+1)*(256^l.length*256)=((a+1)*256)*256^l.length:=by rw[Nat.mul_comm (256^l.length),Nat.mul_assoc]
  omega
def LU(l:List UInt8):num l<256^l.length:=by have:=aks l 0;simpa[num]using this
def Ti(l:List UInt8)(i:Nat)(h:i<l.length):num (l.take (i+1))=num (l.take i)*256+(l.getD i 0).toNat:=by rw[List.take_succ_eq_append_getElem h,Th,List.getD_eq_getElem?_getD,List.getElem?_eq_getElem h,Option.getD_some]
def wrap64(h: -9223372036854775808<=n)(h':n<=9223372036854775807):IntKind.wrap .i64 n=n:=by rw[IntKind.wrap_i64];omega
def Uv{n:Nat}{m:Nat}(hm:m<256)(h:n<2^55):G5 .i64 (BC .i64 n 8) (IntKind.wrap .i64 (m:Int))=((n*256+m:Nat):Int):=by
 unfold G5 BC;have e0:IntKind.i64.bits=64:=rfl
 have e1:((n:Int)*2^(min (8:Int).toNat IntKind.i64.bits))=((n*256:Nat):Int):=by rw[e0];simp
 rw[e1,wrap64 (n:=((n*256:Nat):Int)) aa aa,wrap64 (n:=(m:Int)) aa aa,e0];rw[BitVec.ofInt_natCast,BitVec.ofInt_natCast,BitVec.toNat_or,BitVec.toNat_ofNat,BitVec.toNat_ofNat,Nat.mod_eq_of_lt aa,Nat.mod_eq_of_lt aa];have:=Nat.shiftLeft_add_eq_or_of_lt (b:=m) (i:=8) aa n;rw[Nat.shiftLeft_eq]at this;rw[show n*256=n*2^8 by rfl,<-this];exact wrap64 aa aa
def GR{o:Obj}(h:U.f b=none):U.le (U.set b o):=by
 intro x ox hx;have:x≠b:=by intro e;subst e;rw[h]at hx;cases hx
 rw[Hp.aM o this];exact hx
def Ei{w:Nat}(hb:U.f b=some (.cells c.toArray e (0,0)))(ho:c[off]? =some (.string (B s)))(hw:w<=7)(hn:w<=s.length):
 aw E 147 #[.pointer (some ⟨b,off,none⟩),.int .i64 w] U λe' ae=>e'=.returned (.int .i64 (num (s.take w)))/\ae=U.set b (.cells (c.set off (.string (B (s.drop w)))).toArray e):=by
 refine aX func147 ntmps147 results147 λQ aB al az=>?_;refine ag ?_;refine bz (MH hb ho aa aa) ?_;refine ag ?_;refineλnb pad z vG=>?_;refine ag ?_
 refine cZ (λm I ds R=>ds=[]/\R=(U.set b (.cells (c.set off (.string (B (s.drop w)))).toArray e)).set nb (.cells (dG (s.take w)++List.replicate pad (Value.int .u8 0)).toArray 5 z)/\∃i,i<=w/\m=w-i/\
  I 12=.int .i64 i/\I 11=.int .i64 w/\I 10=.slice (some ⟨nb,0,none⟩) w (w+pad)/\I 4=.int .i64 (num (s.take i))) w ?_ ?_
 ·refine⟨rfl,?_,0,Nat.zero_le _,rfl,?_⟩
  ·exact au
  ·have hm:min w s.length=w:=aa;simp only[go_sem,seval,num,List.length_take,hm,List.foldl_nil,true_and]
   try rfl
 ·rintro m I ds R X ⟨rfl,rfl,i,hi,rfl,oO,bO,bE,h4⟩ hX;rcases Nat.lt_or_ge i w with aZ|xi
  ·have c1:(i:Int)<w:=aa;have c2:(0:Int)<=i:=aa;have c3:i<(s.take w).length:=by simp;omega
   simp only[go_sem,seval,oO,bO,bE,h4,c1,c2,YY c3];refine hX (w-(i+1)) _ _ _ _ aa ⟨rfl,rfl,i+1,aa,rfl,?_⟩ ao;have h1:=LU (s.take i);have h2:(s.take i).length=i:=by simp;omega
   have h3:(256:Nat)^i<=256^6:=Nat.pow_le_pow_right aa aa
   have h4:nP (s.take w) i=(((s.getD i 0).toNat:Nat):Int):=by simp only[nP,List.getD_eq_getElem?_getD,List.getElem?_take,aZ,if_true]
   have h5:=(s.getD i 0).toNat_lt;rw[h2]at h1;refine bR bO bE h4 ?_;rw[Uv aa aa,Ti s i aa,wrap64 aa aa];exact⟨rfl,rfl⟩
  ·have c1:¬(i:Int)<w:=aa;refine bR oO bO c1 ?_;refine al aG ?_ ⟨?_,rfl⟩
   ·exact GR vG
   ·have:i=w:=aa;subst this;exact aP h4
def cX{m:Int}(e:n=m:=by omega)(h: -9223372036854775808<=n:=by omega)(h1:n<=9223372036854775807:=by omega):IntKind.wrap .i64 n=m:=(wrap64 h h1).trans e
def fM(i:Nat)(h:i<=9223372036854775806:=by omega):IntKind.wrap .i64 ((i:Int)+1)=((i+1:Nat):Int):=cX
def eP(w:Nat)(s:List UInt8):Option (Nat×List UInt8):=if w<=s.length then some (num (s.take w),s.drop w)else none
def xN(n:Nat)(s:List UInt8):Option (List UInt8×List UInt8):=if n<=s.length then some (s.take n,s.drop n)else none
def jm(s:List UInt8):Option (List UInt8×List UInt8):=(eP 1 s).bind λr=>xN r.1 r.2
def zr(s:List UInt8):Option (Bool×List UInt8):=(eP 1 s).bind λr=>if r.1<=1 then some (decide (r.1=1),r.2)else none
def ri{α:Type}(U:Hp)(b off:Nat)(c:List Value)(e:TypeId)(f:α->Value)(r:Option (α×List UInt8))(e':Fin)(ae:Hp):Prop:=
 match r with
 |some (v,rest)=>e'=.returned (f v)/\ae=U.set b (.cells (c.set off (.string (B rest))).toArray e)
 |none=>e'=.panicked lH/\∃l,ae=U.set b (.cells (c.set off (.string (B l))).toArray e)
variable {P:Program}{E:Env P}{I:av}{ds:List Deferred}{dst:Option Tmp}{nx:av->List Deferred->Hp->Prop}{pn:List PanicEntry->Hp->Prop}{f:FuncId}{args:Array Value}
def OB{ch:List PanicEntry}{R:Hp}(hg:cq P f=true)(h:aw E f args U λe ae=>e=.panicked ch/\ae=R)(k:pn ch R):jJ E f args U dst I ds nx pn:=
 Fp hg (h.mono λe ae ⟨h1,h2⟩=>by subst h1;subst h2;exact k)
def B6{α:Type}{fv:α->Value}{r:Option (α×List UInt8)}(hg:cq P f=true)(h:aw E f args U (ri U b off c e fv r))(k:∀v rest,r=some (v,rest)->nx (aA I dst (fv v)) ds (U.set b (.cells (c.set off (.string (B rest))).toArray e)))(kp:r=none->∀l,pn lH (U.set b (.cells (c.set off (.string (B l))).toArray e))):jJ E f args U dst I ds nx pn:=by
 refine Fp hg (h.mono λe' ae hr=>?_)
 cases r with
 |none=>obtain⟨rfl,l,rfl⟩:=hr;exact kp rfl l
 |some p=>obtain⟨v,rest⟩:=p;obtain⟨rfl,rfl⟩:=hr;exact k v rest rfl
variable {v:Value}
def OM(hb:U.f b=some (.cells c.toArray e (0,0)))(ho:c[off]? =some v):U.set b (.cells (c.set off v).toArray e)=U:=by
 have:c.set off v=c:=by
  apply List.ext_getElem?;intro i;by_cases h:off=i
  ·subst h;rw[List.getElem?_set_self (List.getElem?_eq_some_iff.1 ho).1,ho]
  ·rw[List.getElem?_set_ne h]
 rw[this];exact Hp.Hm hb
variable {E:Env prog}{w:Nat}
def akv(hb:U.f b=some (.cells c.toArray e (0,0)))(ho:c[off]? =some (.string (B s)))(hn:s.length<w):
 aw E 147 #[.pointer (some ⟨b,off,none⟩),.int .i64 w] U λe' ae=>e'=.panicked lH/\ae=U:=by
 refine aX func147 ntmps147 results147 λQ aB al az=>?_;refine ag ?_;refine OB P0 (US hb ho aa) ?_;exact az _ _ _ _ ao ⟨rfl,rfl⟩
def oo(hb:U.f b=some (.cells c.toArray e (0,0)))(ho:c[off]? =some (.string (B s)))(hw:w<=7):
 aw E 147 #[.pointer (some ⟨b,off,none⟩),.int .i64 w] U (ri U b off c e (λn:Nat=>.int .i64 n) (eP w s)):=by
 by_cases h:w<=s.length
 ·simp only[eP,h,if_true];exact Ei hb ho hw h
 ·simp only[eP,h,if_false];exact(akv hb ho aa).mono λe' ae ⟨h1,h2⟩=>⟨h1,s,by rw[h2,OM hb ho]⟩
def apu{n:Nat}(hb:U.f b=some (.cells c.toArray e (0,0)))(ho:c[off]? =some (.string (B s))):
 aw E 148 #[.pointer (some ⟨b,off,none⟩),.int .i64 n] U (ri U b off c e (λl=>.string (B l)) (xN n s)):=by
 by_cases h:n<=s.length
 ·simp only[xN,h,if_true];refine(MH (n:=n) hb ho aa aa).mono λe' ae ⟨h1,h2⟩=>?_;simp only[Int.toNat_natCast]at h1 h2;exact⟨h1,h2⟩
 ·simp only[xN,h,if_false];exact(US hb ho aa).mono λe' ae ⟨h1,h2⟩=>⟨h1,s,by rw[h2,OM hb ho]⟩
def tq(hb:U.f b=some (.cells c.toArray e (0,0)))(ho:c[off]? =some (.string (B s))):
 aw E 228 #[.pointer (some ⟨b,off,none⟩)] U (ri U b off c e (λl=>.string (B l)) (jm s)):=by
 have aZ:off<c.length:=(List.getElem?_eq_some_iff.1 ho).1;refine aX func228 ntmps228 results228 λQ aB al az=>?_;refine ag ?_;refine B6 nS (oo hb ho (w:=1) aa) (λn rest hr=>?_) (λhr l=>?_)
 ·refine ag ?_;refine B6 P0 (apu (n:=n) (s:=rest) (e:=e) (off:=off) (c:=c.set off (.string (B rest))) aT (List.getElem?_set_self aZ)) (λv uI gC=>?_) (λgC l=>?_)
  ·refine ag ?_;refine al aG ao ?_;simp only[ri,jm,hr,Option.bind_some,gC,go_sem,seval,List.set_set]
  ·refine az _ _ _ _ ao ?_;simp only[ri,jm,hr,Option.bind_some,gC];exact⟨trivial,l,by simp only[Hp.set_set,List.set_set]⟩
 ·refine az _ _ _ _ ao ?_;simp only[ri,jm,hr,Option.bind_none];exact⟨trivial,l,rfl⟩
def Ja(hb:U.f b=some (.cells c.toArray e (0,0)))(ho:c[off]? =some (.string (B s))):
 aw E 289 #[.pointer (some ⟨b,off,none⟩)] U (ri U b off c e (λl=>.bool l) (zr s)):=by
 refine aX func289 ntmps289 results289 λQ aB al az=>?_;refine ag ?_;refine B6 nS (oo hb ho (w:=1) aa) (λn rest hr=>?_) (λhr l=>?_)
 ·rcases Nat.lt_or_ge 1 n with h|h
  ·have h1:(1:Int)<n:=aa;have h2:¬n<=1:=aa;refine aH h1 ?_;refine az _ _ _ _ ao ?_;simp only[ri,zr,hr,Option.bind_some,h2,if_false];exact⟨rfl,rest,rfl⟩
  ·have h1:¬(1:Int)<n:=aa;refine aH h1 ?_;refine al aG ao ?_;simp only[ri,zr,hr,Option.bind_some,h,go_sem,seval];have:((n:Int)=1)=(n=1):=by apply propext;omega
   simp only[this]
 ·refine az _ _ _ _ ao ?_;simp only[ri,zr,hr,Option.bind_none];exact⟨trivial,l,rfl⟩
def Pj(hb:U.f b=some (.cells c.toArray e z))(ho:c[off]? =some (.string (B []))):
 aw E 229 #[.pointer (some ⟨b,off,none⟩)] U λe' ae=>e'=.returned (.tuple #[])/\ae=U:=by
 refine aX func229 ntmps229 results229 λQ aB al az=>?_;refine bq hb ho ?_;exact aB dB ao ⟨rfl,rfl⟩
def abe(hb:U.f b=some (.cells c.toArray e z))(ho:c[off]? =some (.string (B s)))(hs:s≠[]):
 aw E 229 #[.pointer (some ⟨b,off,none⟩)] U λe' ae=>e'=.panicked lH/\ae=U:=by
 refine aX func229 ntmps229 results229 λQ aB al az=>?_;refine bR hb ho hs ?_;exact az _ _ _ _ ao ⟨rfl,rfl⟩
variable {c:Array Value}
def Ui(hb:U.f b=some (.cells c e z)){Q:Addr->Hp->Prop}{H:Halt->Hp->Prop}(h:Q ⟨b,off,none⟩ U):wpS P (Conv.seenAt ⟨b,off,none⟩) Q H U:=by
 simp only[Conv.seenAt,viewAt,aF,zL];refine⟨by simp[hb],?_⟩;have:U.shape? b=some (e,c.size):=by simp[Hp.shape?,hb]
 rw[this];exact h
variable {E:Env P}{ty:TypeId}{pos:String}{af:Array Edge}{g:Option (Nat×Bool)}{s d t:TypeId}{x:Operand}
def apA(hs:P.underlying s=some (.pointer t))(hd:P.underlying d=some .unsafePointer)(hx:ai I x=.pointer (some ⟨b,off,none⟩))(hb:U.f b=some (.cells c e z))(ho:off<c.size)(hz:0<cC P t)(h:nx (aA I dst (.pointer (some ⟨b,off,none⟩))) ds U):wpOp E ⟨dst,.convert s d x,ty,pos,af,g⟩ I ds U nx pn:=by
 have hi:∃i,P.info? t=some i/\i.size≠0:=by
  unfold cC at hz;split at hz
  ·rename_i i hi;exact⟨i,hi,aa⟩
  ·cases hz
 obtain⟨i,hi,aE⟩:=hi;unfold wpOp;simp only[execOp,convert,aF,eg,hs,hd,hx,Conv.unsafePointer];refine Ui hb ?_;simp only[cellsIn];refine⟨by simp[hb],?_⟩;have:U.shape? b=some (e,c.size):=by simp[Hp.shape?,hb]
 rw[this];simp only[bl,sizeOf,aF,fO,hi];have key:(decide (i.size=0)||(decide (off>=c.size)&&true))=false:=by simp[aE];omega
 show wpS P (if(decide (i.size=0)||(decide (off>=c.size)&&true))=true then _ else _) _ _ _;rw[key];exact h
def acd(hs:P.underlying s=some .unsafePointer)(hd:P.underlying d=some (.pointer t))(hx:ai I x=.pointer (some ⟨b,off,none⟩))(hb:U.f b=some (.cells c e z))(hl:liesAt P P.depth e (c.size/P.cellsOf e) off t 1=true)(hz:0<cC P t)(h:nx (aA I dst (.pointer (some ⟨b,off,none⟩))) ds U):wpOp E ⟨dst,.convert s d x,ty,pos,af,g⟩ I ds U nx pn:=by
 have hi:∃i,P.info? t=some i/\i.size≠0:=by
  unfold cC at hz;split at hz
  ·rename_i i hi;exact⟨i,hi,aa⟩
  ·cases hz
 obtain⟨i,hi,aE⟩:=hi;unfold wpOp;simp only[execOp,convert,aF,eg,hs,hd,hx,Conv.unsafePointer];refine Ui hb ?_;simp only[sizeOf,aF,fO,hi,bl];simp only[variablesAt,aF,zK,zL];have:U.shape? b=some (e,c.size):=by simp[Hp.shape?,hb]
 have hf:(U.f b).isSome=true:=by simp[hb]
 refine⟨hf,?_⟩;rw[this];have pT:(decide (i.size=0)||true)=true:=ak;show wpS P (if(decide (i.size=0)||liesAt P P.depth e (c.size/P.cellsOf e) off t 1)=true then _ else _) _ _ _;rw[hl,pT];exact h
def alR{u el:TypeId}{y:Operand}{a:Addr}(ht:P.underlying t=some (.pointer el))(hz:0<cC P el)(hx:ai I x=.pointer (some a))(hy:ai I y=.pointer (some a))(h:nx (aA I dst (.bool false)) ds U):wpOp E ⟨dst,.binOp .neq t x y u,ty,pos,af,g⟩ I ds U nx pn:=by
 have hi:∃i,P.info? el=some i/\i.size≠0:=by
  unfold cC at hz;split at hz
  ·rename_i i hi;exact⟨i,hi,aa⟩
  ·cases hz
 obtain⟨i,hi,aE⟩:=hi;unfold wpOp;simp only[execOp,aF,hx,hy];refine yD ?_ ⟨ak,ak⟩;unfold binOp;simp only[aF,bl];refine Ck λn=>?_;unfold Op.equalIn;simp only[aF,eg,ht,sizeOf,fO,hi,bl];simp only[aE,ne_eq,not_false_eq_true,if_true,sameAddr,beq_self_eq_true];exact h
def dH{fn:Func}{ex:Array Value->Sem Value}(hf:P.funcs[f]? =some fn)(hb:fn.body.isNone=true)(hn:(fn.name== "runtime.NumGoroutine")=false)(h1:Extern.findNext fn=none)(h2:Extern.find fn=some ex)(h:wpS P (ex args) (λv ae=>nx (aA I dst v) ds ae) (se λv ae=>pn [{v,recovered:=false}] ae) U):jJ E f args U dst I ds nx pn:=by
 unfold jJ callFunc;simp only[aF,zK,hf,hn,hb,if_true,Bool.false_eq_true,if_false,M1,h1,h2];exact⟨rfl,h⟩
def O4{a:Option Addr}:lY P s d (.pointer a)=none:=by unfold lY;cases P.underlying s<;>cases P.underlying d<;>first|rfl|(rename_i x;cases x<;>rfl)|(rename_i x y;cases y<;>rfl)
def aki:Extern.findNext f153=none:=ah
def akg:Extern.find f153=some Extern.AbiNoEscape.same:=ah
def akh:(f153.name== "runtime.NumGoroutine")=false:=ah
def aiT:liesAt prog prog.depth 155 (2/prog.cellsOf 155) 0 153 1=true:=ah
def U5:prog.underlying 137=some .unsafePointer:=ah
def MQ:prog.underlying 151=some (.pointer 153):=ah
def MD:0<cC prog 153:=by have:cC prog 153=2:=ah;omega
def aav{E:Env prog}(hb:U.f b=some (.cells #[.pointer none,v] 155 (0,0))):
 aw E 117 #[pV b] U λe' ae=>e'=.returned (.tuple #[])/\ae=U.set b (.cells #[pV b,v] 155 (0,0)):=by
 refine aX func117 ntmps117 results117 λQ aB al az=>?_;simp only[go_sem,seval,hb,O4];refine apA (off:=0) MQ U5 au hb ak MD ?_;refine ag ?_;refine dH func153 rfl akh aki akg ?_;show iZ E 20 _ _ _ (aA _ (some 10) (pV b)) [] U;simp only[go_sem,seval,O4];refine acd (off:=0) U5 MQ au hb aiT MD ?_;refine aH hb ?_;exact aB dB ao ⟨rfl,rfl⟩
def OZ{E:Env prog}(hb:U.f b=some (.cells #[pV b,v] 155 (0,0))):
 aw E 117 #[pV b] U λe' ae=>e'=.returned (.tuple #[])/\ae=U:=by
 refine aX func117 ntmps117 results117 λQ aB al az=>?_;refine aH hb ?_;refine alR (a:=⟨b,0,none⟩) MQ MD au au ?_;refine ag ?_;exact aB dB ao ⟨rfl,rfl⟩
def vo:oC prog 67 where
 e:=5
 z:=1
 zero:=#[.int .u8 0]
 bytes:=1
 hu:=underlying67
 hi:=⟨t5,.int .u8 0,ah,ah,ah,rfl,ah⟩
inductive iu (R:Hp) (b:Nat) (l:List UInt8) (U:Hp):Prop
 |new (h:l=[]) (hs:U=R.set b (.cells #[.pointer none,.slice none 0 0] 155 (0,0)))
 |old (h:l=[]) (hs:U=R.set b (.cells #[pV b,.slice none 0 0] 155 (0,0)))
 |buf (bb cap:Nat) (rest:List Value) (hn:R.f bb=none) (aE:bb≠b) (hc:l.length<=cap) (hr:cap<=l.length+rest.length)
  (hs:U=(R.set b (.cells #[pV b,.slice (some ⟨bb,0,none⟩) l.length cap] 155 (0,0))).set bb (.cells (dG l++rest).toArray 5 (0,0)))
end
end Go.Qw
