/- 5 -/
import Derived.Conc.DeferLaws
import Derived.Lib.ReflectliteSwap
import Derived.Test.YtpiabknabfbfhaaGreatDoorAgain04
set_option linter.all false
set_option maxRecDepth 100000
set_option maxHeartbeats 8000000
namespace Go.Qw
open Go Go.Conc Go.Proofs.Tryz
section
open Go.Proofs
def bO:Code->Code| .seq x _=>x|c=>c
def aR:Code->Code| .seq _ y=>y|c=>c
def dT:Code->Code| .block _ c=>c| .loop c=>c|c=>c
def Fz:Code->Code| .cond _ x _=>x|c=>c
def bN:Code->Array Oper| .region _ o _=>o|_=>#[]
noncomputable def jo:Code:=f40.body.getD .skip
noncomputable def iK:Code:=aR (aR (aR (aR (aR jo))))
noncomputable def mg:Code:=dT (dT (bO iK))
noncomputable def rE:Code:=aR iK
noncomputable def kF:Code:=dT (aR mg)
noncomputable def o5:Array Oper:=bN (bO (bO mg))
noncomputable def o6:Array Oper:=bN (bO kF)
noncomputable def ql:List Item:=[.inBlock 1,.inLoop mg,.inBlock 0,.code rE]
def bV:Frame:={(default:Frame)with fn:=40,kind:=.normal}
def akE:iK=.seq (.block 0 (.loop mg)) rE:=ah
def HE:mg=.seq (.seq (.region 5 o5 false) (.cond (.tmp 18) .skip (.exit 0))) (.block 1 kF):=ah
def Ti:kF=.seq (.region 6 o6 true) (aR kF):=ah
structure Fx (cb sb ub db wg:Nat) (I:av):Prop where
 c:I 2=pV cb
 s:I 4=pV sb
 u:I 5=pV ub
 d:I 6=pV db
 w:I 7=pV wg
def XK:AK o6 o6.size (Array.replicate o6.size false)=[[0,1,2,3,4,5],[1,0,2,3,4,5],[1,2,0,3,4,5],[1,2,3,0,4,5],[1,2,3,4,0,5]]:=ah
structure Cn (bg:Nat) (ph fr:Int) (c:List Value):Prop where
 len:c.length=12
 g:c[0]? =some (pV bg)
 ph:c[2]? =some (.int .i64 ph)
 fr:c[7]? =some (.int .i64 fr)
structure Fam (cb sb bc c1 bg:Nat) (ph fr:Int) (κ:Hp):Prop where
 c:κ.f cb=some (.cells #[pV bc] 70 (0,0))
 s:κ.f sb=some (.cells #[.chan (some c1)] 119 (0,0))
 b:∃l z,κ.f bc=some (.cells l.toArray 90 z)/\Cn bg ph fr l
def Rd(cb sb bc:Nat)(a:Addr):Prop:=a=⟨cb,0,none⟩\/a=⟨sb,0,none⟩\/a=⟨bc,2,none⟩\/a=⟨bc,7,none⟩
def oS{κ:Hp}{b:Nat}{c:Array Value}{e:TypeId}{z:Nat×Nat}{o:Nat}{v:Value}(h:κ.f b=some (.cells c e z))(hv:c[o]? =some v):κ.cell? ⟨b,o,none⟩=some v:=by simp[Hp.cell?,h,hv]
variable {cb sb ub db wg:Nat}{I:av}
def Fx.up (h:Fx cb sb ub db wg I){d:Nat}(hd:8<=d)(v:Value):Fx cb sb ub db wg (up I d v):=by obtain⟨h1,h2,h3,h4,h5⟩:=h;constructor<;>(simp only[Qw.up];rw[if_neg aa];assumption)
variable {bc c1 bg:Nat}{ph fr:Int}{Q:av->Prop}
def apC(hp:ph≠5)(hF:Fx cb sb ub db wg I)(hQ:∀aC,Fx cb sb ub db wg aC->aC 18=.bool true->Q aC):dM prog 52 o5 (Fam cb sb bc c1 bg ph fr) (Rd cb sb bc) Q [0,1,2,3,4] I:=by simp only[o5,mg,iK,jo,f40,Option.getD_some,aR,bO,dT,bN];refine pH (a:=⟨cb,0,none⟩) (v:=pV bc) rfl ai hF.c ah ah (.inl rfl) (λκ h=>oS h.c rfl) ?_;refine vv (a:=⟨bc,0,none⟩) rfl ai (by simp[ak,up]) ?_;refine vu (a:=⟨bc,0,none⟩) (off:=2) rfl ai (by simp[ak,up]) ah ?_;refine pH (a:=⟨bc,2,none⟩) (v:=.int .i64 ph) rfl ai (by simp[ak,up,Addr.add]) ah ah (.inr (.inr (.inl rfl))) (λκ h=>by obtain⟨l,z,h1,h2⟩:=h.b;exact oS h1 (by simpa using h2.ph)) ?_;refine E9 (v:=.bool true) rfl ai (by simp[ak,up,cK,hp]) ?_;refine hQ _ ?_ (by simp[up]);exact((((hF.up ai _).up ai _).up ai _).up ai _).up ai _
def apF(hF:Fx cb sb ub db wg I)(hQ:∀aC,Fx cb sb ub db wg aC->aC 18=.bool (ph !=5)->Q aC):dM prog 52 o5 (Fam cb sb bc c1 bg ph fr) (Rd cb sb bc) Q [0,1,2,3,4] I:=by simp only[o5,mg,iK,jo,f40,Option.getD_some,aR,bO,dT,bN];refine pH (a:=⟨cb,0,none⟩) (v:=pV bc) rfl ai hF.c ah ah (.inl rfl) (λκ h=>oS h.c rfl) ?_;refine vv (a:=⟨bc,0,none⟩) rfl ai (by simp[ak,up]) ?_;refine vu (a:=⟨bc,0,none⟩) (off:=2) rfl ai (by simp[ak,up]) ah ?_;refine pH (a:=⟨bc,2,none⟩) (v:=.int .i64 ph) rfl ai (by simp[ak,up,Addr.add]) ah ah (.inr (.inr (.inl rfl))) (λκ h=>by obtain⟨l,z,h1,h2⟩:=h.b;exact oS h1 (by simpa using h2.ph)) ?_;refine E9 (v:=.bool (ph !=5)) rfl ai (by simp[ak,up,cK]) ?_;refine hQ _ ?_ (by simp[up]);exact((((hF.up ai _).up ai _).up ai _).up ai _).up ai _
def AtSend(cb sb ub db wg c1:Nat)(fr:Int)(I:av):Prop:=Fx cb sb ub db wg I/\I 19=.chan (some c1)/\I 23=.int .i64 fr
def VF(hF:Fx cb sb ub db wg I){p:List Nat}(hp:p∈[[0,1,2,3,4],[1,0,2,3,4],[1,2,0,3,4],[1,2,3,0,4],[1,2,3,4,0]]):dM prog 52 o6 (Fam cb sb bc c1 bg ph fr) (Rd cb sb bc) (AtSend cb sb ub db wg c1 fr) p I:=by
 simp only[o6,kF,mg,iK,jo,f40,Option.getD_some,aR,bO,dT,bN]
 have Et:∀{rest:List Nat} {I:av},Fx cb sb ub db wg I->∀{ops:Array Oper} {ps:String} {af:Array Edge} {ty:Nat} {Q:av->Prop},ops[0]? =some {dst:=some 19,op:=.load 119 (.tmp 4),type:=ty,pos:=ps,after:=af,guard:=none}->
  dM prog 52 ops (Fam cb sb bc c1 bg ph fr) (Rd cb sb bc) Q rest (up I 19 (.chan (some c1)))->dM prog 52 ops (Fam cb sb bc c1 bg ph fr) (Rd cb sb bc) Q (0::rest) I:=by
  intro rest I hF ops ps af ty Q ho k;exact pH (a:=⟨sb,0,none⟩) (v:=.chan (some c1)) ho ai hF.s ah ah (.inr (.inl rfl)) (λκ h=>oS h.s rfl) k
 have Eu:∀{rest:List Nat} {I:av},Fx cb sb ub db wg I->∀{ops:Array Oper} {ps:String} {af:Array Edge} {ty:Nat} {Q:av->Prop},ops[1]? =some {dst:=some 20,op:=.load 70 (.tmp 2),type:=ty,pos:=ps,after:=af,guard:=none}->
  dM prog 52 ops (Fam cb sb bc c1 bg ph fr) (Rd cb sb bc) Q rest (up I 20 (pV bc))->dM prog 52 ops (Fam cb sb bc c1 bg ph fr) (Rd cb sb bc) Q (1::rest) I:=by
  intro rest I hF ops ps af ty Q ho k;exact pH (a:=⟨cb,0,none⟩) (v:=pV bc) ho ai hF.c ah ah (.inl rfl) (λκ h=>oS h.c rfl) k
 have Ev:∀{rest:List Nat} {I:av},I 22=.pointer (some ⟨bc,7,none⟩)->∀{ops:Array Oper} {ps:String} {af:Array Edge} {ty:Nat} {Q:av->Prop},ops[4]? =some {dst:=some 23,op:=.load 3 (.tmp 22),type:=ty,pos:=ps,after:=af,guard:=none}->
  dM prog 52 ops (Fam cb sb bc c1 bg ph fr) (Rd cb sb bc) Q rest (up I 23 (.int .i64 fr))->dM prog 52 ops (Fam cb sb bc c1 bg ph fr) (Rd cb sb bc) Q (4::rest) I:=by
  intro rest I hF ops ps af ty Q ho k;exact pH (a:=⟨bc,7,none⟩) (v:=.int .i64 fr) ho ai hF ah ah (.inr (.inr (.inr rfl))) (λκ h=>by obtain⟨l,z,h1,h2⟩:=h.b;exact oS h1 (by simpa using h2.fr)) k
 have fin:∀{I:av},Fx cb sb ub db wg I->I 19=.chan (some c1)->I 23=.int .i64 fr->AtSend cb sb ub db wg c1 fr I:=λh1 h2 h3=>⟨h1,h2,h3⟩;simp only[List.mem_cons,List.not_mem_nil,or_false]at hp;rcases hp with rfl|rfl|rfl|rfl|rfl
 ·refine Et hF rfl (Eu (hF.up ai _) rfl ?_);refine vv (a:=⟨bc,0,none⟩) rfl ai (by simp[ak,up]) ?_;refine vu (a:=⟨bc,0,none⟩) (off:=7) rfl ai (by simp[ak,up]) ah ?_;refine Ev (by simp[up,Addr.add]) rfl ?_;exact fin ((((((hF.up ai _).up ai _).up ai _).up ai _).up ai _)) (by simp[up]) (by simp[up])
 ·refine Eu hF rfl (Et (hF.up ai _) rfl ?_);refine vv (a:=⟨bc,0,none⟩) rfl ai (by simp[ak,up]) ?_;refine vu (a:=⟨bc,0,none⟩) (off:=7) rfl ai (by simp[ak,up]) ah ?_;refine Ev (by simp[up,Addr.add]) rfl ?_;exact fin ((((((hF.up ai _).up ai _).up ai _).up ai _).up ai _)) (by simp[up]) (by simp[up])
 ·refine Eu hF rfl ?_;refine vv (a:=⟨bc,0,none⟩) rfl ai (by simp[ak,up]) ?_;refine Et ((hF.up ai _).up ai _) rfl ?_;refine vu (a:=⟨bc,0,none⟩) (off:=7) rfl ai (by simp[ak,up]) ah ?_;refine Ev (by simp[up,Addr.add]) rfl ?_;exact fin ((((((hF.up ai _).up ai _).up ai _).up ai _).up ai _)) (by simp[up]) (by simp[up])
 ·refine Eu hF rfl ?_;refine vv (a:=⟨bc,0,none⟩) rfl ai (by simp[ak,up]) ?_;refine vu (a:=⟨bc,0,none⟩) (off:=7) rfl ai (by simp[ak,up]) ah ?_;refine Et (((hF.up ai _).up ai _).up ai _) rfl ?_;refine Ev (by simp[up,Addr.add]) rfl ?_;exact fin ((((((hF.up ai _).up ai _).up ai _).up ai _).up ai _)) (by simp[up]) (by simp[up])
 ·refine Eu hF rfl ?_;refine vv (a:=⟨bc,0,none⟩) rfl ai (by simp[ak,up]) ?_;refine vu (a:=⟨bc,0,none⟩) (off:=7) rfl ai (by simp[ak,up]) ah ?_;refine Ev (by simp[up,Addr.add]) rfl ?_;refine Et ((((hF.up ai _).up ai _).up ai _).up ai _) rfl ?_;exact fin ((((((hF.up ai _).up ai _).up ai _).up ai _).up ai _)) (by simp[up]) (by simp[up])
def Vo(t:Nat):∃p,Region.schedule (prog.follows .mixedOrders) o6 t=p++[5]/\p∈[[0,1,2,3,4],[1,0,2,3,4],[1,2,0,3,4],[1,2,3,0,4],[1,2,3,4,0]]:=by
 have hm:prog.follows .mixedOrders=true:=ah;have:=Ri o6 o6.size t (Array.replicate o6.size false);rw[XK]at this;simp only[Region.schedule,hm,Bool.true_or,if_true,Region.linearise];simp only[List.mem_cons,List.not_mem_nil,or_false]at this;rcases this with h|h|h|h|h
 ·exact⟨[0,1,2,3,4],h,ai⟩
 ·exact⟨[1,0,2,3,4],h,ai⟩
 ·exact⟨[1,2,0,3,4],h,ai⟩
 ·exact⟨[1,2,3,0,4],h,ai⟩
 ·exact⟨[1,2,3,4,0],h,ai⟩
noncomputable def o7:Array Oper:=bN (bO (aR kF))
noncomputable def r8:Code:=aR (aR kF)
def aoU:aR kF=.seq (.region 7 o7 false) r8:=ah
def zU:Value:=.agg #[.int .i64 0,.int .i64 0,.string {data:=#[]},.bool false,.bool false]
def I6(cb sb ub db wg:Nat)(cs:List Frame)(g:Goroutine):Prop:=
 ∃I a,cM 52 a I []/\Fx cb sb ub db wg I/\g=G (bV.at a (.inRegion o6 [5]:: .code (aR kF)::ql)) cs
def E7(cb sb ub db wg c1:Nat)(fr:Int)(cs:List Frame):Seat:={cases:=#[scase c1 (.int .i64 fr) (.tuple #[])],shape:=.send,home:=I6 cb sb ub db wg cs}
def UC:∃ps af,o6[5]? =some {dst:=none,op:=.send (.tmp 19) (.tmp 23),type:=0,pos:=ps,after:=af,guard:=none}:=⟨_,_,by simp only[o6,kF,mg,iK,jo,f40,Option.getD_some,aR,bO,dT,bN];rfl⟩
variable {cs:List Frame}{K:World->Prop}{Still:Loc->Prop}{Bd:Nat}{main:Bool}{a:Act}
def Pf(ha:cM 52 a I [])(h:AtSend cb sb ub db wg c1 fr I):
 AtIn prog main K Still Bd (E7 cb sb ub db wg c1 fr cs) (G (bV.at a (.inRegion o6 [5]:: .code (aR kF)::ql)) cs) (G (bV.at a (.inRegion o6 [5]:: .code (aR kF)::ql)) cs):=by
 obtain⟨ps,af,ho⟩:=UC;obtain⟨h1,h2,h3⟩:=h;refine atIn_of ho rfl (by simp[bV]) (λw=>?_) (λw=>?_) ⟨I,a,ha,h1,rfl⟩
 ·simp[execOp,ha.eval,ak,h2,h3,E7,scase]
 ·simp[execOp]
variable {cb sb ub db wg bc c1 bg:Nat}{ph fr:Int}{cs:List Frame}{K:World->Prop}{Still:Loc->Prop}{Bd:Nat}
theorem arG (hp:ph≠5)(hK:∀w,K w->∃κ,Fam cb sb bc c1 bg ph fr κ/\∀b o,κ.f b=some o->w.heap[b]? =some o)(hS:∀a,Rd cb sb bc a->Still (.cell a)/\a.block<Bd){I:av}{a:Act}(ha:cM 52 a I [])(hF:Fx cb sb ub db wg I):
 Way prog true K Still Bd (E7 cb sb ub db wg c1 fr cs) 22 (G (bV.at a (.code mg:: .inLoop mg:: .inBlock 0:: .code rE::[])) cs):=by
 rw[HE];refine Way.ctl (λw=>stepG_seq) rfl ?_;refine Way.ctl (λw=>stepG_seq) rfl ?_;refine Way.region ?_;rw[<-HE];have hr:List.range o5.size=[0,1,2,3,4]++[]:=ah;rw[hr];refine Way.mono (n:=13+5) ai ?_;refine Ft hK hS (by simp[bV]) (Q:=λI=>Fx cb sb ub db wg I/\I 18=.bool true) (λI a ha ⟨hF,vW⟩=>?_) [0,1,2,3,4] I a (apC hp hF λaC h1 h2=>⟨h1,h2⟩) ha;refine Way.ctl (λw=>stepG_region_end) rfl ?_;refine Way.ctl (λw=>stepG_cond (t:=true) (by rw[ha.eval];exact vW)) rfl ?_;refine Way.ctl (λw=>stepG_skip) rfl ?_;refine Way.ctl (λw=>stepG_block) rfl ?_;rw[Ti];refine Way.ctl (λw=>stepG_seq) rfl ?_;refine Way.JP λt=>?_;obtain⟨p,Lv,Bv⟩:=Vo t;rw[Lv];refine Way.mono (n:=0+p.length) ?_ (Ft hK hS (by simp[bV]) (n:=0) (λI a ha h=>⟨_,Pf ha h⟩) p I a (VF hF Bv) ha);simp only[List.mem_cons,List.not_mem_nil,or_false]at Bv;rcases Bv with rfl|rfl|rfl|rfl|rfl<;>decide
def Oo(cb sb ub db wg:Nat)(cs:List Frame)(g:Goroutine):Prop:=
 ∃I a,cM 52 a I []/\Fx cb sb ub db wg I/\g=G (bV.at a (.inRegion o7 [1,2,3]:: .code r8::ql)) cs
def An(cb sb ub db wg c2:Nat)(cs:List Frame):Seat:={cases:=#[rcase c2 zU],shape:=.recv false,home:=Oo cb sb ub db wg cs}
def amc:∃ps af,o7[0]? =some {dst:=some 24,op:=.load 120 (.tmp 5),type:=120,pos:=ps,after:=af,guard:=none}:=⟨_,_,by simp only[o7,kF,mg,iK,jo,f40,Option.getD_some,aR,bO,dT,bN];rfl⟩
def UD:∃ps af,o7[1]? =some {dst:=some 25,op:=.recv 120 (.tmp 24) false,type:=135,pos:=ps,after:=af,guard:=none}:=⟨_,_,by simp only[o7,kF,mg,iK,jo,f40,Option.getD_some,aR,bO,dT,bN];rfl⟩
def Ol(ub c2:Nat)(κ:Hp):Prop:=κ.f ub=some (.cells #[.chan (some c2)] 120 (0,0))
variable {c2:Nat}
def YH(ha:cM 52 a I [])(h1:Fx cb sb ub db wg I)(h2:I 24=.chan (some c2)):
 AtIn prog main K Still Bd (An cb sb ub db wg c2 cs) (G (bV.at a (.inRegion o7 [1,2,3]:: .code r8::ql)) cs) (G (bV.at a (.inRegion o7 [1,2,3]:: .code r8::ql)) cs):=by
 obtain⟨ps,af,ho⟩:=UD;refine atIn_of ho rfl (by simp[bV]) (λw=>?_) (λw=>?_) ⟨I,a,ha,h1,rfl⟩
 ·rw[ha.eval];simp[execOp,ak,h2,An,rcase,zU,runUnderlying120,zeroValue135,go_sem]
 ·simp[execOp,go_sem]
def arE(hK:∀w,K w->∃κ,Ol ub c2 κ/\∀b o,κ.f b=some o->w.heap[b]? =some o)(hS:Still (.cell ⟨ub,0,none⟩)/\ub<Bd){g:Goroutine}(h:I6 cb sb ub db wg cs g):
 Way prog true K Still Bd (An cb sb ub db wg c2 cs) 4 (Go.Conc.served g undef):=by
 obtain⟨I,a,ha,hF,rfl⟩:=h;obtain⟨ps,af,ho⟩:=UC
 have e:Go.Conc.served (G (bV.at a (.inRegion o6 [5]:: .code (aR kF)::ql)) cs) undef=G (bV.at a (.inRegion o6 []:: .code (aR kF)::ql)) cs:=by have:=Frame.finish_at bV a o6 5 [] (.code (aR kF)::ql) undef;rw[ho]at this;simp only[Go.Conc.served,G,this];rfl
 rw[e,aoU];refine Way.ctl (λw=>stepG_region_end) rfl ?_;refine Way.ctl (λw=>stepG_seq) rfl ?_;refine Way.region ?_;have hr:List.range o7.size=[0]++[1,2,3]:=ah;rw[hr];obtain⟨ps0,af0,ho0⟩:=amc;refine Ft (Ok:=λa=>a=⟨ub,0,none⟩) hK (λa ha=>by rw[ha];exact hS) (by simp[bV]) (n:=0) (Q:=λI=>Fx cb sb ub db wg I/\I 24=.chan (some c2)) (λI a ha ⟨h1,h2⟩=>⟨_,YH ha h1 h2⟩) [0] I a ?_ ha;exact pH (a:=⟨ub,0,none⟩) (v:=.chan (some c2)) ho0 ai hF.u ah ah rfl (λκ h=>oS h rfl) ⟨hF.up ai _,by simp[up]⟩
noncomputable def pL:Code:=f58.body.getD .skip
noncomputable def p0:Array Oper:=bN (bO pL)
noncomputable def lf:Code:=dT (dT (aR pL))
noncomputable def pr:Code:=dT lf
noncomputable def q1:Array Oper:=bN (bO (bO pr))
noncomputable def q2:Array Oper:=bN (aR (bO pr))
noncomputable def q3:Array Oper:=bN (bO (aR pr))
noncomputable def mr:Code:=dT (aR (aR pr))
noncomputable def q4:Array Oper:=bN (bO (Fz mr))
noncomputable def q5:Array Oper:=bN (aR (Fz mr))
noncomputable def kw:List Item:=[.inBlock 1,.inLoop lf,.inBlock 0]
def gO:Frame:={(default:Frame)with fn:=58,kind:=.normal}
def WN:pL=.seq (.region 0 p0 false) (.block 0 (.loop lf)):=ah
def WZ:lf=.block 1 pr:=ah
def ah8:pr=.seq (.seq (.region 1 q1 false) (.region 2 q2 false)) (.seq (.region 3 q3 false) (.block 2 mr)):=ah
def PE:mr=.cond (.tmp 23) (.seq (.region 4 q4 false) (.region 5 q5 false)) (.cond (.tmp 24) .ret .skip):=ah
structure Fw (bc c1 c2 c3:Nat) (I:av):Prop where
 c:I 0=.pointer (some ⟨bc,3,none⟩)
 s:I 2=.chan (some c1)
 u:I 3=.chan (some c2)
 d:I 4=.chan (some c3)
variable {c3:Nat}
def Fw.up (h:Fw bc c1 c2 c3 I){d:Nat}(hd:5<=d)(v:Value):Fw bc c1 c2 c3 (up I d v):=by obtain⟨h1,h2,h3,h4⟩:=h;constructor<;>(simp only[Qw.up];rw[if_neg aa];assumption)
def FL(bc c1 c2 c3:Nat)(cw:List Frame)(g:Goroutine):Prop:=
 ∃I a,cM 30 a I []/\Fw bc c1 c2 c3 I/\g=G (gO.at a (.inRegion q3 [0,1,2,3]:: .code (.block 2 mr)::kw)) cw
def jk(bc c1 c2 c3:Nat)(cw:List Frame):Seat:={cases:=#[rcase c1 (.int .i64 0),rcase c3 (.agg #[])],shape:=.select,home:=FL bc c1 c2 c3 cw}
def anz:∃ps af,q1[0]? =some {dst:=some 19,op:=.move (.tmp 2),type:=208,pos:=ps,after:=af,guard:=none}:=⟨_,_,by simp only[q1,pr,lf,pL,f58,Option.getD_some,aR,bO,dT,bN];rfl⟩
def anA:∃ps af,q2[0]? =some {dst:=some 20,op:=.move (.tmp 4),type:=210,pos:=ps,after:=af,guard:=none}:=⟨_,_,by simp only[q2,pr,lf,pL,f58,Option.getD_some,aR,bO,dT,bN];rfl⟩
def M0:∃ps af,q3[0]? =some {dst:=some 21,op:=.select #[{chan:=.tmp 19,send:=none,elem:=3},{chan:=.tmp 20,send:=none,elem:=122}] true,type:=0,pos:=ps,after:=af,guard:=none}:=⟨_,_,by simp only[q3,pr,lf,pL,f58,Option.getD_some,aR,bO,dT,bN];rfl⟩
variable {cw:List Frame}
def YI(ha:cM 30 a I [])(h:Fw bc c1 c2 c3 I)(h1:I 19=.chan (some c1))(h2:I 20=.chan (some c3)):
 AtIn prog main K Still Bd (jk bc c1 c2 c3 cw) (G (gO.at a (.inRegion q3 [0,1,2,3]:: .code (.block 2 mr)::kw)) cw) (G (gO.at a (.inRegion q3 [0,1,2,3]:: .code (.block 2 mr)::kw)) cw):=by
 obtain⟨ps,af,ho⟩:=M0;refine atIn_of ho rfl (by simp[gO]) (λw=>?_) (λw=>?_) ⟨I,a,ha,h,rfl⟩
 ·rw[ha.eval];simp[execOp,ak,h1,h2,jk,rcase,zeroValue3,zeroValue122,go_sem]
 ·simp[execOp,go_sem]
def We(ha:cM 30 a I [])(h:Fw bc c1 c2 c3 I):Way prog main K Still Bd (jk bc c1 c2 c3 cw) 12 (G (gO.at a (.code lf:: .inLoop lf:: .inBlock 0::[])) cw):=by
 obtain⟨ps1,af1,G7⟩:=anz;obtain⟨MZ,Jk,zI⟩:=anA;have hK:∀w,K w->∃κ:Hp,True/\∀b o,κ.f b=some o->w.heap[b]? =some o:=λw _=>⟨⟨λ_=>none⟩,trivial,λb o hb=>by cases hb⟩;have e:(.code lf:: .inLoop lf:: .inBlock 0::[]:List Item)=.code (.block 1 pr):: .inLoop lf:: .inBlock 0::[]:=by rw[<-WZ]
 rw[e,ah8];refine Way.ctl (λw=>stepG_block) rfl ?_;refine Way.ctl (λw=>stepG_seq) rfl ?_;refine Way.ctl (λw=>stepG_seq) rfl ?_;refine Way.region ?_;have fz:List.range q1.size=[0]++[]:=ah;have bZ:List.range q2.size=[0]++[]:=ah;have eN:List.range q3.size=[0,1,2,3]:=ah;rw[fz];refine Ft (n:=7) (Fam:=λ_=>True) (Ok:=λ_=>False) hK (λ_ h=>h.elim) (by simp[gO]) (Q:=λI=>Fw bc c1 c2 c3 I/\I 19=.chan (some c1)) (λI a ha ⟨h,h1⟩=>?_) [0] I a (Ik G7 ai ⟨h.up ai _,by simp[up,ak,h.s]⟩) ha;refine Way.ctl (λw=>stepG_region_end) rfl ?_;refine Way.region ?_;rw[bZ]
 refine Ft (n:=4) (Fam:=λ_=>True) (Ok:=λ_=>False) hK (λ_ h=>h.elim) (by simp[gO]) (Q:=λI=>Fw bc c1 c2 c3 I/\I 19=.chan (some c1)/\I 20=.chan (some c3)) (λI a ha ⟨h,h1,h2⟩=>?_) [0] I a
  (Ik zI ai ⟨h.up ai _,by simp[up,h1],by simp[up,ak,h.d]⟩) ha
 refine Way.ctl (λw=>stepG_region_end) rfl ?_;refine Way.ctl (λw=>stepG_seq) rfl ?_;refine Way.region ?_;rw[eN];exact .inl ⟨_,YI ha h h1 h2⟩
def I7(bc c1 c2 c3:Nat)(cw:List Frame)(g:Goroutine):Prop:=
 ∃I a,cM 30 a I []/\Fw bc c1 c2 c3 I/\g=G (gO.at a (.inRegion q5 [4]:: .inBlock 2::kw)) cw
def UX:∃ps af,q5[4]? =some {dst:=none,op:=.send (.tmp 26) (.tmp 29),type:=0,pos:=ps,after:=af,guard:=none}:=⟨_,_,by simp only[q5,mr,pr,lf,pL,f58,Option.getD_some,aR,dT,bN,Fz];rfl⟩
def arF{g:Goroutine}(h:I7 bc c1 c2 c3 cw g):Way prog main K Still Bd (jk bc c1 c2 c3 cw) 16 (Go.Conc.served g undef):=by
 obtain⟨I,a,ha,hF,rfl⟩:=h;obtain⟨ps,af,ho⟩:=UX
 have e:Go.Conc.served (G (gO.at a (.inRegion q5 [4]:: .inBlock 2::kw)) cw) undef=G (gO.at a (.inRegion q5 []:: .inBlock 2::kw)) cw:=by have:=Frame.finish_at gO a q5 4 [] (.inBlock 2::kw) undef;rw[ho]at this;simp only[Go.Conc.served,G,this];rfl
 rw[e];refine Way.ctl (λw=>stepG_region_end) rfl ?_;refine Way.ctl (λw=>stepG_inBlock) rfl ?_;refine Way.ctl (λw=>stepG_inBlock) rfl ?_;refine Way.ctl (λw=>stepG_inLoop) rfl ?_;exact We ha hF
structure Un where
 kind:Int
 channel:Int
 ji:List UInt8
 kz:Bool
 gm:Bool
def Un.idle(u:Un):Bool:=u.kind==0&& !u.kz&& !u.gm
def uV(u:Un):Value:=.agg #[.int .i64 u.kind,.int .i64 u.channel,.string (B u.ji),.bool u.kz,.bool u.gm]
structure FS where
 γ:Type
 au1:γ->Hp->Prop
 au2:γ->Hp->Prop
 K:γ->Hp->Prop
 oH:γ->List UInt8->Prop
 bc:Nat
 bg:Nat
 bb:Nat
 ph:γ->Int
 fr:γ->Int
 rest:γ->List UInt8
 nx:γ->Un->γ->Prop
 un:γ->Un->γ->Prop
 sv:γ->γ->Prop
 add:γ->List UInt8->γ
 μ:γ->Nat
 conn:∀{a U},au1 a U->∃l,U.f bc=some (.cells l.toArray 90 (0,0))/\Cn bg (ph a) (fr a) l/\l[3]? =some (.string (B (rest a)))
 CP:∀{a U},K a U->∃l,U.f bc=some (.cells l.toArray 90 (0,0))/\Cn bg (ph a) (fr a) l
 gate:∀{a U},K a U->∃l:List Value,U.f bg=some (.cells l.toArray 74 (0,0))/\l.length=9/\l[5]? =some (pV bb)
 grow:∀{a U} {l:List Value} (c:List UInt8),oH a c->au1 a U->U.f bc=some (.cells l.toArray 90 (0,0))->au1 (add a c) (U.set bc (.cells (l.set 3 (.string (B (rest a++c)))).toArray 90 (0,0)))
 small:∀{a U},au1 a U->(rest a).length<=1000000
 UT:∀a c,ph (add a c)=ph a
 Q1:∀a c,fr (add a c)=fr a
 next:∀{E:Env prog} {a U},au1 a U->ay E 104 #[.pointer (some ⟨bc,3,none⟩),.int .i64 (fr a)] U λe J=>∃u b,nx a u b/\au2 b J/\e=.returned (uV u)
 unit:∀{E:Env prog} {a u b U},ph a≠5->nx a u b->u.idle=false->au2 b U->ay E 59 #[pV bc,uV u] U λe J=>∃c,un b u c/\K c J/\e=.returned (.tuple #[])
 serve:∀{E:Env prog} {b u c U},un b u c->K c U->ay E 54 #[pV bb] U λe J=>∃d,sv c d/\au1 d J/\e=.returned (.tuple #[])
 idle:∀{a u b U},nx a u b->u.idle=true->au2 b U->au1 b U
 dec:∀{a u b c d},ph a≠5->nx a u b->u.idle=false->un b u c->sv c d->μ d<μ a
inductive FS.Loop (F:FS):F.γ->F.γ->Prop
 |gone {a:_}:F.ph a=5->F.Loop a a
 |idle {a u b:_}:F.ph a≠5->F.nx a u b->u.idle=true->F.Loop a b
 |step {a u b c d e:_}:F.ph a≠5->F.nx a u b->u.idle=false->F.un b u c->F.sv c d->F.Loop d e->F.Loop a e
section
variable (F:FS){E:Env prog}{c1 c2 c3:Nat}{cw:List Frame}{φ:Hp}
def arO {a:F.γ}{U:Hp}(hI:F.au1 a U)(hd:U.eC φ){g:Goroutine}(hg:FL F.bc c1 c2 c3 cw g):
 ax E (Go.Conc.served g (.tuple #[.int .i64 0,.bool true,.int .i64 (F.fr a),.agg #[]])) (U.bL φ) λg' J=>∃u b ae,F.nx a u b/\F.au2 b ae/\ae.eC φ/\J=ae.bL φ/\
  ∃I ac,cM 30 ac I []/\Fw F.bc c1 c2 c3 I/\I 26=.chan (some c2)/\I 29=uV u/\g'=G (gO.at ac (.inRegion q5 [4]:: .inBlock 2::kw)) cw:=by
 obtain⟨I,ac,ha,hF,rfl⟩:=hg;obtain⟨ps,af,ho⟩:=M0
 have e:Go.Conc.served (G (gO.at ac (.inRegion q3 [0,1,2,3]:: .code (.block 2 mr)::kw)) cw) (.tuple #[.int .i64 0,.bool true,.int .i64 (F.fr a),.agg #[]])=
  G (gO.at (ac.put (some 21) (.tuple #[.int .i64 0,.bool true,.int .i64 (F.fr a),.agg #[]])) (.inRegion q3 [1,2,3]:: .code (.block 2 mr)::kw)) cw:=by
  have:=Frame.finish_at gO ac q3 0 [1,2,3] (.code (.block 2 mr)::kw) (.tuple #[.int .i64 0,.bool true,.int .i64 (F.fr a),.agg #[]]);rw[ho]at this;simp only[Go.Conc.served,G,this];rfl
 rw[e];have dn:cM 30 _ _ []:=ha.put (dst:=some 21) ai (.tuple #[.int .i64 0,.bool true,.int .i64 (F.fr a),.agg #[]])
 have h1:=yG (E:=E) (N:=30) (ops:=q3) (Q:=ki λI ds ae=>Fw F.bc c1 c2 c3 I/\I 21=.tuple #[.int .i64 0,.bool true,.int .i64 (F.fr a),.agg #[]]/\I 23=.bool true/\ds=[]/\ae=U.bL φ) gO (by simp[gO]) (.code (.block 2 mr)::kw) cw [] yt [1,2,3] _ [] (U.bL φ) _
  (by
   simp only[q3,pr,lf,pL,f58,Option.getD_some,aR,bO,dT,bN]
   simp only[List.filterMap_cons,List.filterMap_nil,List.getElem?_toArray,List.getElem?_cons_succ,List.getElem?_cons_zero]
   simp only[go_sem,seval,aB,up]
   exact⟨(((hF.up ai _).up ai _).up ai _).up ai _,by simp[up],by simp[up],rfl,rfl⟩) dn
 refine h1.bind ?_;rintro g' J ⟨qy,ds1,a1,dn,⟨om,h21,Kh,rfl,rfl⟩,rfl⟩;refine ax.ctl (λw=>stepG_region_end) rfl rfl ?_;refine ax.ctl (λw=>stepG_block) rfl rfl ?_;rw[PE];refine ax.ctl (λw=>stepG_cond (t:=true) (by rw[dn.eval];exact Kh)) rfl rfl ?_;refine ax.ctl (λw=>stepG_seq) rfl rfl ?_;refine(nT (E:=E) (N:=30) (X:=λI ds ae=>Fw F.bc c1 c2 c3 I/\I 10=.int .i64 (F.fr a)/\ds=[]/\ae=U.bL φ) ?_ (by simp[gO]) dn).bind ?_
 ·simp only[q4,mr,pr,lf,pL,f58,Option.getD_some,aR,bO,dT,bN,Fz];simp only[go_sem,seval,aB,up,h21];exact⟨(om.up ai _).up ai _,by simp[up],rfl,rfl⟩
 rintro g' J ⟨lO,ds2,a2,gH,⟨nA,bC,rfl,rfl⟩,rfl⟩;refine ax.ctl (λw=>stepG_region) rfl rfl ?_;have hr:List.range q5.size=[0,1,2,3]++[4]:=ah;rw[hr];refine(yG (E:=E) (N:=30) (ops:=q5) (Q:=ki λI ds J=>ds=[]/\∃u b ae,F.nx a u b/\F.au2 b ae/\ae.eC φ/\J=ae.bL φ/\Fw F.bc c1 c2 c3 I/\I 26=.chan (some c2)/\I 29=uV u) gO (by simp[gO]) (.inBlock 2::kw) cw [4] yt [0,1,2,3] _ [] (U.bL φ) _ ?_ gH).bind ?_
 ·simp only[q5,mr,pr,lf,pL,f58,Option.getD_some,aR,dT,bN,Fz];simp only[List.filterMap_cons,List.filterMap_nil,List.getElem?_toArray,List.getElem?_cons_succ,List.getElem?_cons_zero];simp only[go_sem,seval,aB,up,nA.u,nA.c,bC];refine dH adV ((F.next hI).kQ hd) ?_ ?_
  ·rintro v J ⟨ae,jH,rfl,u,b,hn,hb,hv⟩
   cases hv
   simp only[go_sem,seval,aB];exact⟨rfl,u,b,ae,hn,hb,jH,rfl,(((nA.up ai _).up ai _).up ai _).up ai _,by simp[up],by simp[up]⟩
  ·rintro ch J ⟨ae,jH,rfl,u,b,hn,hb,hv⟩
   cases hv
 ·rintro g' J ⟨FC,ds3,a3,th,⟨rfl,u,b,ae,hn,hb,jH,rfl,uv,C9,Da⟩,rfl⟩;exact ax.here ⟨u,b,ae,hn,hb,jH,rfl,FC,a3,th,uv,C9,Da,rfl⟩
end
variable {P:Program}{E:Env P}{N:Nat}{ops:Array Oper}{U:Hp}{F:Hp->Prop}{ds:List Deferred}
def arR{Ok:Addr->Prop}(kE:F U):∀(p:List Nat) (I:av),dM P N ops F Ok Q p I->jl E N ops (ki λI dk J=>Q I/\dk=ds/\J=U) (p.filterMap (ops[·]?)) I ds U:=by
 intro p
 induction p with
 |nil=>exactλI h=>⟨h,rfl,rfl⟩
 |cons i p ih=>
  intro I hs;simp only[dM]at hs
  cases ho:ops[i]? with
  |none=>rw[ho]at hs;exact hs.elim
  |some o=>
   rw[ho]at hs;obtain⟨h1,h2,h3,h4,v,h5,h6⟩:=hs;rw[List.filterMap_cons_some ho];simp only[jl];refine⟨h1,?_⟩;rw[if_pos (by simp[Region.wanted,h2])];exact M5 (h5 U kE) (ih _ h6)
variable {b:Frame}{k:List Item}
def M9{Ok:Addr->Prop}(kE:F U)(hb:b.kind≠.early)(tl p:List Nat)(h:dM P N ops F Ok Q p I)(ha:cM N a I ds):
 ax E (G (b.at a (.inRegion ops (p++tl)::k)) cs) U λg J=>J=U/\∃aC a',cM N a' aC ds/\Q aC/\g=G (b.at a' (.inRegion ops tl::k)) cs:=by
 refine(yG b hb k cs tl yt p I ds U a (arR (E:=E) kE p I h) ha).mono ?_;rintro g J ⟨aC,dk,a',dI,⟨hq,rfl,rfl⟩,rfl⟩;exact⟨rfl,aC,a',dI,hq,rfl⟩
def ao6{id:Nat}{S:Goroutine->Hp->Prop}(h:∀t,ax E (G (b.at a (.inRegion ops (Region.schedule (P.follows .mixedOrders) ops t)::k)) cs) U S):ax E (G (b.at a (.code (.region id ops true)::k)) cs) U S:=by
 refine ax.step (X:=λs9 rI=>rI=U/\∃t,s9=G (b.at a (.inRegion ops (Region.schedule (P.follows .mixedOrders) ops t)::k)) cs) rfl ?_ ?_
 ·intro au2 w hs
  have:stepG P E.main (G (b.at a (.code (.region id ops true)::k)) cs) w=.go (G (b.at a (.inRegion ops (Region.schedule (P.follows .mixedOrders) ops (w.tape w.drawn (.order b.fn id)))::k)) cs) {w with drawn:=w.drawn+1}:=by simp[G,stepG,stepG.exec,Frame.at,choose,Sem.run,Question.forced,Question.cut]
  rw[this];exact⟨U,hs.drew _,⟨λ_ _=>rfl,rfl,rfl,rfl,Nat.le_refl _⟩,al,rfl,rfl,_,rfl⟩
 ·rintro s9 rI ⟨rfl,t,rfl⟩;exact h t
noncomputable def o8:Array Oper:=bN (bO (bO r8))
noncomputable def o9:Array Oper:=bN (bO (aR r8))
noncomputable def UA:Array Oper:=bN (aR (aR r8))
def aoa:r8=.seq (.seq (.region 8 o8 false) (.cond (.tmp 38) (.exit 0) .skip)) (.seq (.region 9 o9 false) (.region 10 UA false)):=ah
def aob{E:Env prog}{ux:Nat}{u:Un}(hF:Fx cb sb ub db wg I)(h8:I 8=pV ux)(hx:U.f ux=some (.cells #[.int .i64 u.kind,.int .i64 u.channel,.string (B u.ji),.bool u.kz,.bool u.gm] 135 (0,0))):
 cO E 52 (.region 8 o8 false) (ki λI ds ae=>Fx cb sb ub db wg I/\I 8=pV ux/\I 38=.bool u.idle/\ds=[]/\ae=U) I [] U:=by
 obtain⟨uk,uc,upl,ug,uw⟩:=u;simp only at hx;simp only[o8,r8,kF,mg,iK,jo,f40,Option.getD_some,aR,bO,dT,bN]
 cases hk:decide (uk=0)<;>cases ug<;>cases uw<;>simp only[go_sem,seval,aB,up,h8,hx,hk,ki]<;>refine⟨?_,?_⟩<;>first|exact(show Fx cb sb ub db wg _ from⟨by simp[up,hF.c],by simp[up,hF.s],by simp[up,hF.u],by simp[up,hF.d],by simp[up,hF.w]⟩)|(simp only[decide_eq_true_eq,decide_eq_false_iff_not]at hk;simp[Un.idle,hk])
section
variable (F:FS){E:Env prog}{cb sb ub db wg c1 c2:Nat}{cs:List Frame}{φ:Hp}
structure Bx (F:FS) (cb sb db c1 c3:Nat) (φ:Hp):Prop where
 c:φ.f cb=some (.cells #[pV F.bc] 70 (0,0))
 s:φ.f sb=some (.cells #[.chan (some c1)] 119 (0,0))
 d:φ.f db=some (.cells #[.chan (some c3)] 121 (0,0))
def QJ {a:F.γ}{U:Hp}{c3:Nat}(hI:F.au1 a U)(hd:U.eC φ)(hb:Bx F cb sb db c1 c3 φ):Fam cb sb F.bc c1 F.bg (F.ph a) (F.fr a) (U.bL φ):=by obtain⟨l,h1,h2,_⟩:=F.conn hI;exact⟨Hp.vc hd _ _ hb.c,Hp.vc hd _ _ hb.s,l,_,Hp.jT h1,h2⟩
def yK (cb sb ub db wg:Nat)(cs:List Frame)(g:Goroutine):Prop:=∃I a,cM 52 a I []/\Fx cb sb ub db wg I/\g=G (bV.at a [.code rE]) cs
def Oa (cb sb ub db wg c1:Nat)(fr:Int)(cs:List Frame)(g:Goroutine):Prop:=∃I a,cM 52 a I []/\AtSend cb sb ub db wg c1 fr I/\g=G (bV.at a (.inRegion o6 [5]:: .code (aR kF)::ql)) cs
def akF {a:F.γ}{U:Hp}{c3:Nat}(hI:F.au1 a U)(hd:U.eC φ)(hb:Bx F cb sb db c1 c3 φ){I:av}{ac:Act}(ha:cM 52 ac I [])(hF:Fx cb sb ub db wg I):
 ax E (G (bV.at ac (.code mg:: .inLoop mg:: .inBlock 0:: .code rE::[])) cs) (U.bL φ) λg J=>J=U.bL φ/\((F.ph a=5/\yK cb sb ub db wg cs g)\/(F.ph a≠5/\Oa cb sb ub db wg c1 (F.fr a) cs g)):=by
 rw[HE];refine ax.ctl (λw=>stepG_seq) rfl rfl ?_;refine ax.ctl (λw=>stepG_seq) rfl rfl ?_;refine ax.ctl (λw=>stepG_region) rfl rfl ?_;rw[<-HE];have hr:List.range o5.size=[0,1,2,3,4]++[]:=ah;rw[hr];refine(M9 (E:=E) (ops:=o5) (F:=Fam cb sb F.bc c1 F.bg (F.ph a) (F.fr a)) (Ok:=Rd cb sb F.bc) (Q:=λI=>Fx cb sb ub db wg I/\I 18=.bool (F.ph a !=5)) (QJ F hI hd hb) (by simp[bV]) [] [0,1,2,3,4] (apF hF λaC h1 h2=>⟨h1,h2⟩) ha).bind ?_;rintro g J ⟨rfl,qy,a1,dn,⟨om,vW⟩,rfl⟩;refine ax.ctl (λw=>stepG_region_end) rfl rfl ?_;by_cases hp:F.ph a=5
 ·rw[hp]at vW;refine ax.ctl (λw=>stepG_cond (t:=false) (by rw[dn.eval];simpa[ak]using vW)) rfl rfl ?_;refine ax.ctl (λw=>stepG_exit (k':=[.code rE]) rfl) rfl rfl ?_;exact ax.here ⟨rfl,.inl ⟨hp,qy,a1,dn,om,rfl⟩⟩
 ·refine ax.ctl (λw=>stepG_cond (t:=true) (by rw[dn.eval];simp[ak,vW,hp])) rfl rfl ?_;refine ax.ctl (λw=>stepG_skip) rfl rfl ?_;refine ax.ctl (λw=>stepG_block) rfl rfl ?_;rw[Ti];refine ax.ctl (λw=>stepG_seq) rfl rfl ?_;refine ao6 λt=>?_;obtain⟨p,Lv,Bv⟩:=Vo t;rw[Lv];refine(M9 (E:=E) (F:=Fam cb sb F.bc c1 F.bg (F.ph a) (F.fr a)) (QJ F hI hd hb) (by simp[bV]) [5] p (VF om Bv) dn).bind ?_;rintro g J ⟨rfl,lO,a2,gH,hS,rfl⟩;refine ax.here ⟨rfl,.inr ⟨hp,lO,a2,gH,hS,rfl⟩⟩
def akG {a b:F.γ}{u:Un}{U:Hp}{c3:Nat}(hp:F.ph a≠5)(hn:F.nx a u b)(hI:F.au2 b U)(hd:U.eC φ)(hb:Bx F cb sb db c1 c3 φ){g:Goroutine}(hg:Oo cb sb ub db wg cs g):
 ax E (Go.Conc.served g (uV u)) (U.bL φ) λg' J=>∃ae,ae.eC φ/\(ae.bL φ).le J/\
  ((u.idle=true/\F.au1 b ae/\yK cb sb ub db wg cs g')\/(u.idle=false/\∃c d,F.un b u c/\F.sv c d/\F.au1 d ae/\((F.ph d=5/\yK cb sb ub db wg cs g')\/(F.ph d≠5/\Oa cb sb ub db wg c1 (F.fr d) cs g')))):=by
 obtain⟨I,ac,ha,hF,rfl⟩:=hg;obtain⟨ps,af,ho⟩:=UD
 have e:Go.Conc.served (G (bV.at ac (.inRegion o7 [1,2,3]:: .code r8::ql)) cs) (uV u)=G (bV.at (ac.put (some 25) (uV u)) (.inRegion o7 ([2,3]++[]):: .code r8::ql)) cs:=by have:=Frame.finish_at bV ac o7 1 [2,3] (.code r8::ql) (uV u);rw[ho]at this;simp only[Go.Conc.served,G,this];rfl
 rw[e];have dn:cM 52 _ _ []:=ha.put (dst:=some 25) ai (uV u)
 refine(yG (E:=E) (N:=52) (ops:=o7) (Q:=ki λI ds J=>Fx cb sb ub db wg I/\ds=[]/\∃ux,(U.bL φ).f ux=none/\I 8=pV ux/\J=(U.bL φ).set ux (.cells #[.int .i64 u.kind,.int .i64 u.channel,.string (B u.ji),.bool u.kz,.bool u.gm] 135 (0,0)))
  bV (by simp[bV]) (.code r8::ql) cs [] yt [2,3] _ [] (U.bL φ) _ ?_ dn).bind ?_
 ·simp only[o7,kF,mg,iK,jo,f40,Option.getD_some,aR,bO,dT,bN];simp only[List.filterMap_cons,List.filterMap_nil,List.getElem?_toArray,List.getElem?_cons_succ,List.getElem?_cons_zero];refine ag ?_;refineλux wJ=>?_;simp only[go_sem,seval,aB,up,uV];exact⟨(hF.up ai _).up ai _,rfl,ux,wJ,by simp[up],rfl⟩
 rintro g J ⟨qy,_,a1,dn,⟨om,rfl,ux,wJ,h8,rfl⟩,rfl⟩
 have hs:U.f ux=none:=by
  cases e:U.f ux with
  |none=>rfl
  |some o=>rw[Hp.jT e]at wJ;cases wJ
 have hp0:φ.f ux=none:=by rw[Hp.qw hs]at wJ;exact wJ
 obtain⟨n7,Hu⟩:∃n7,n7=φ.set ux (.cells #[.int .i64 u.kind,.int .i64 u.channel,.string (B u.ji),.bool u.kz,.bool u.gm] 135 (0,0)):=⟨_,rfl⟩
 have hle:φ.le n7:=by
  rw[Hu];intro b o hb;have:b≠ux:=λe=>by rw[e,hp0]at hb;cases hb
  simpa[Hp.set,this]using hb
 have hx:n7.f ux=some (.cells #[.int .i64 u.kind,.int .i64 u.channel,.string (B u.ji),.bool u.kz,.bool u.gm] 135 (0,0)):=by rw[Hu];simp[Hp.set]
 have jH:U.eC n7:=by
  rw[Hu];intro b;by_cases e:b=ux
  ·subst e;exact .inl hs
  ·simpa[Hp.set,e]using hd b
 have hu:(U.bL φ).set ux (.cells #[.int .i64 u.kind,.int .i64 u.channel,.string (B u.ji),.bool u.kz,.bool u.gm] 135 (0,0))=U.bL n7:=by
  rw[Hu];show Hp.mk _=Hp.mk _;congr 1
  funext b
  by_cases e:b=ux
  ·subst e;simp[Hp.set,hs]
  ·simp[Hp.set,Hp.bL,e]
 have dJ:Bx F cb sb db c1 c3 n7:=⟨hle _ _ hb.c,hle _ _ hb.s,hle _ _ hb.d⟩;rw[hu]
 have fin:∀{ae:Hp},ae.eC n7->ae.eC φ/\(ae.bL φ).le (ae.bL n7):=by
  intro ae h;refine⟨λb=>?_,λb o hb=>?_⟩
  ·rcases h b with e|e
   ·exact .inl e
   ·right
    cases e2:φ.f b with
    |none=>rfl
    |some o=>rw[hle _ _ e2]at e;cases e
  ·rcases Hp.IC hb with h1|⟨h1,h2⟩
   ·exact Hp.jT h1
   ·rw[Hp.qw h1];exact hle _ _ h2
 clear hu wJ;refine ax.ctl (λw=>stepG_region_end) rfl rfl ?_;rw[aoa];refine ax.ctl (λw=>stepG_seq) rfl rfl ?_;refine ax.ctl (λw=>stepG_seq) rfl rfl ?_;have du:(U.bL n7).f ux=some (.cells #[.int .i64 u.kind,.int .i64 u.channel,.string (B u.ji),.bool u.kz,.bool u.gm] 135 (0,0)):=Hp.vc jH _ _ hx;refine(nT (E:=E) (N:=52) (X:=λI ds ae=>Fx cb sb ub db wg I/\I 8=pV ux/\I 38=.bool u.idle/\ds=[]/\ae=U.bL n7) ?_ (by simp[bV]) dn).bind ?_
 ·exact aob om h8 du
 rintro g J ⟨lO,_,a2,gH,⟨nA,h82,Gr,rfl,rfl⟩,rfl⟩
 cases hi:u.idle with
 |true=>
  rw[hi]at Gr;refine ax.ctl (λw=>stepG_cond (t:=true) (by rw[gH.eval];exact Gr)) rfl rfl ?_;refine ax.ctl (λw=>stepG_exit (k':=[.code rE]) rfl) rfl rfl ?_;obtain⟨k1,k2⟩:=fin jH;exact ax.here ⟨U,k1,k2,.inl ⟨rfl,F.idle hn hi hI,lO,a2,gH,nA,rfl⟩⟩
 |false=>
  rw[hi]at Gr;refine ax.ctl (λw=>stepG_cond (t:=false) (by rw[gH.eval];exact Gr)) rfl rfl ?_;refine ax.ctl (λw=>stepG_skip) rfl rfl ?_;refine ax.ctl (λw=>stepG_seq) rfl rfl ?_;refine(nT (E:=E) (N:=52) (X:=λI ds J=>Fx cb sb ub db wg I/\ds=[]/\∃c ae,F.un b u c/\F.K c ae/\ae.eC n7/\J=ae.bL n7) ?_ (by simp[bV]) gH).bind ?_
  ·have GF:=Hp.vc jH _ _ dJ.c;have mE:=nA.c;simp only[o9,r8,kF,mg,iK,jo,f40,Option.getD_some,aR,bO,dT,bN];simp only[go_sem,seval,aB,up,h82,du,GF,mE];refine dH aes ((F.unit hp hn hi hI).kQ jH) ?_ ?_
   ·rintro v J ⟨ae,d',rfl,c,hc,Ba,hv⟩;simp only[go_sem,seval,aB];exact⟨((nA.up ai _).up ai _).up ai _,rfl,c,ae,hc,Ba,d',rfl⟩
   ·rintro ch J ⟨ae,d',rfl,c,hc,Ba,hv⟩
    cases hv
  rintro g J ⟨FC,_,a3,th,⟨uv,rfl,c,ae,hc,Ba,d',rfl⟩,rfl⟩;refine(nT (E:=E) (N:=52) (X:=λI ds J=>Fx cb sb ub db wg I/\ds=[]/\∃d ae,F.sv c d/\F.au1 d ae/\ae.eC n7/\J=ae.bL n7) ?_ (by simp[bV]) th).bind ?_
  ·have GF:=Hp.vc d' _ _ dJ.c;have mE:=uv.c;obtain⟨l,hl,mF⟩:=F.CP Ba;obtain⟨lg,hg,GQ,wy⟩:=F.gate Ba;have hl':=Hp.jT (φ:=n7) hl;have fD:=Hp.jT (φ:=n7) hg;have lW:=mF.g;simp only[UA,r8,kF,mg,iK,jo,f40,Option.getD_some,aR,bO,dT,bN];simp only[go_sem,seval,aB,up,GF,mE,hl',fD,lW,wy];refine dH aeq ((F.serve hc Ba).kQ d') ?_ ?_
   ·rintro v J ⟨gA,CV,rfl,d,Bm,De,hv⟩;simp only[go_sem,seval,aB];exact⟨(((((((uv.up ai _).up ai _).up ai _).up ai _).up ai _).up ai _).up ai _).up ai _,rfl,d,gA,Bm,De,CV,rfl⟩
   ·rintro ch J ⟨gA,CV,rfl,d,Bm,De,hv⟩
    cases hv
  rintro g J ⟨ρ4,_,a4,zk,⟨hF4,rfl,d,gA,Bm,De,CV,rfl⟩,rfl⟩;refine ax.ctl (λw=>stepG_inBlock) rfl rfl ?_;refine ax.ctl (λw=>stepG_inLoop) rfl rfl ?_;refine(akF F De CV dJ zk hF4).bind ?_;rintro g J ⟨rfl,h⟩;obtain⟨k1,k2⟩:=fin CV;exact ax.here ⟨gA,k1,k2,.inr ⟨rfl,c,d,hc,Bm,De,h⟩⟩
end
end
section
open Go.Proofs
open Go.ConcX (OfWg)
structure Tk where
 W:World
 j:Nat
 c1:Nat
 c2:Nat
 c3:Nat
 cb:Nat
 sb:Nat
 ub:Nat
 db:Nat
 wg:Nat
 Jh:Nat->Prop
 Bd:Nat
 cs:List Frame
 cw:List Frame
 IE:Obj
 hj:0<j
 d12:c1≠c2
 d13:c1≠c3
 d23:c2≠c3
 gv:ub≠c1/\ub≠c2/\ub≠c3/\ub≠wg/\¬Jh ub/\ub<Bd
 Hq:wg≠c1/\wg≠c2/\wg≠c3
namespace Tk
variable (t:Tk)
def chans (c:Nat):Prop:=c=t.c1\/c=t.c2\/c=t.c3
def K0 (w:World):Prop:=w.heap[t.ub]? =some (.cells #[.chan (some t.c2)] 120 (0,0))/\w.heap[t.wg]? =some t.IE
def S (l:Loc):Prop:=∃a:Addr,l=.cell a/\(t.Jh a.block\/a.block=t.wg)
def HK (b:Nat):Prop:=b=t.ub\/b=t.wg
def SB (l:Loc):Prop:=l=.cell ⟨t.ub,0,none⟩
def LZ {t:Tk}{w:World}{c k:Nat}{cl:Bool}(hc:t.chans c)(h:t.K0 w):t.K0 (w.setChan c 0 #[] cl k k false):=by
 obtain⟨a1,a2,a3,a4,a5,a6⟩:=t.gv;obtain⟨b1,b2,b3⟩:=t.Hq;have h1:t.ub≠c:=by rcases hc with rfl|rfl|rfl<;>assumption
 have h2:t.wg≠c:=by rcases hc with rfl|rfl|rfl<;>assumption
 exact⟨(heap_setChan_ne w _ _ _ _ _ _ (Ne.symm h1)).trans h.1,(heap_setChan_ne w _ _ _ _ _ _ (Ne.symm h2)).trans h.2⟩
def A:Duo prog where
 W:=t.W
 j:=t.j
 chans:=t.chans
 K:=t.K0
 KW:=λw=>w.heap[t.ub]? =some (.cells #[.chan (some t.c2)] 120 (0,0))
 Dg:=λw h=>h.1
 HK:=t.HK
 S:=t.S
 Still:=λ_=>False
 Q:=OfWg t.wg
 B:=t.Bd
 hj:=t.hj
 Dh:=λw d h=>h
 Kr:=λw c k hc h=>LZ hc h
 cell:=by
  rintro l (⟨a,rfl,_⟩|h|⟨a,rfl,_⟩)
  ·exact⟨a,rfl⟩
  ·exact h.elim
  ·exact⟨a,rfl⟩
 apart:=λl h=>h.elim
def D:Duo prog:={t.A with
 Still:=t.SB
 cell:=by
  rintro l (⟨a,rfl,_⟩|h|⟨a,rfl,_⟩)
  ·exact⟨a,rfl⟩
  ·exact⟨_,h⟩
  ·exact⟨a,rfl⟩
 apart:=by
  rintro l rfl
  obtain⟨a1,a2,a3,a4,a5,a6⟩:=t.gv
  refine⟨?_,?_⟩
  ·rintro⟨a,e,h⟩
   obtain rfl:a=⟨t.ub,0,none⟩:=by simpa using e.symm
   rcases h with h|h
   ·exact a5 h
   ·exact a4 h
  ·rintro⟨a,e,h⟩
   obtain rfl:a=⟨t.ub,0,none⟩:=by simpa using e.symm
   exact a4 h}
def JL:t.A.Deep:=⟨λw w' h k=>⟨(h t.ub (.inl rfl)).trans k.1,(h t.wg (.inr rfl)).trans k.2⟩,λa h=>h.elim⟩
def ab5:t.D.Deep:=⟨λw w' h k=>⟨(h t.ub (.inl rfl)).trans k.1,(h t.wg (.inr rfl)).trans k.2⟩,λa h=>by
 have:Loc.cell a=Loc.cell ⟨t.ub,0,none⟩:=h
 obtain rfl:a=⟨t.ub,0,none⟩:=by simpa using this
 exact .inl rfl⟩
def alj:t.A.Next t.D:=⟨rfl,rfl,rfl,rfl,rfl,rfl,λ_ h=>h,λ_ h=>h⟩
def alm:t.D.Next t.A:=⟨rfl,rfl,rfl,rfl,rfl,rfl,λ_ h=>h,λ_ h=>h⟩
abbrev sS (fr:Int):Seat:=E7 t.cb t.sb t.ub t.db t.wg t.c1 fr t.cs
abbrev sR:Seat:=An t.cb t.sb t.ub t.db t.wg t.c2 t.cs
abbrev sW (bc:Nat):Seat:=jk bc t.c1 t.c2 t.c3 t.cw
def sT (bc:Nat)(u:Un):Seat:={cases:=#[scase t.c2 (uV u) (.tuple #[])],shape:=.send,home:=I7 bc t.c1 t.c2 t.c3 t.cw}
def QV:t.D.Fits t.sR:=by intro cc h;simp only[An,List.mem_toArray,List.mem_cons,List.not_mem_nil,or_false]at h;subst h;exact⟨t.c2,.inr (.inl rfl),rfl⟩
def C5 (bc:Nat):t.A.Fits (t.sW bc):=by
 intro cc h;simp only[jk,List.mem_toArray,List.mem_cons,List.not_mem_nil,or_false]at h;rcases h with rfl|rfl
 ·exact⟨t.c1,.inl rfl,rfl⟩
 ·exact⟨t.c3,.inr (.inr rfl),rfl⟩
def apl {t:Tk}(w:World)(h:w.heap[t.ub]? =some (.cells #[.chan (some t.c2)] 120 (0,0))):∃κ,Ol t.ub t.c2 κ/\∀b o,κ.f b=some o->w.heap[b]? =some o:=⟨⟨λb=>w.heap[b]?⟩,h,λ_ _ h=>h⟩
def Sd {ga:Goroutine}(h:I6 t.cb t.sb t.ub t.db t.wg t.cs ga):∃k,eE prog (0==0) t.D.KW t.D.Still t.D.B t.sR k (Go.Conc.served ga undef):=
 ⟨_,.inl ⟨_,rfl,arE (Still:=t.SB) apl ⟨rfl,t.gv.2.2.2.2.2⟩ h⟩⟩
def Vr (fr:Int)(bc:Nat):commResult (t.sW bc).cases (t.sW bc).shape ((0:Nat):Int) (.int .i64 fr) true=.tuple #[.int .i64 0,.bool true,.int .i64 fr,.agg #[]]:=by simp[commResult,jk,rcase,goInt,Array.zipIdx,Array.filter]
def afY {bc:Nat}{ga:Goroutine}(h:I7 bc t.c1 t.c2 t.c3 t.cw ga):∃k,eE prog (t.j==0) t.A.KW t.A.Still t.A.B (t.sW bc) k (Go.Conc.served ga undef):=
 ⟨_,.inl ⟨_,rfl,arF h⟩⟩
def YG {bc:Nat}{u:Un}{main:Bool}{K:World->Prop}{Still:Loc->Prop}{Bd:Nat}{I:av}{a:Act}(ha:cM 30 a I [])(h:Fw bc t.c1 t.c2 t.c3 I)(C9:I 26=.chan (some t.c2))(Da:I 29=uV u):
 AtIn prog main K Still Bd (t.sT bc u) (G (gO.at a (.inRegion q5 [4]:: .inBlock 2::kw)) t.cw) (G (gO.at a (.inRegion q5 [4]:: .inBlock 2::kw)) t.cw):=by
 obtain⟨ps,af,ho⟩:=UX;refine atIn_of ho rfl (by simp[gO]) (λw=>?_) (λw=>?_) ⟨I,a,ha,h,rfl⟩
 ·simp[execOp,ha.eval,ak,C9,Da,sT,scase]
 ·simp[execOp]
end Tk
variable (F:FS)(t:Tk){φ:Hp}
def aqX (hb:Bx F t.cb t.sb t.db t.c1 t.c3 φ):∀(n:Nat) (a:F.γ) (U:Hp) (m:Machine) (T:Trace) (g:Goroutine),F.μ a<n->F.ph a≠5->F.au1 a U->U.eC φ->FL F.bc t.c1 t.c2 t.c3 t.cw g->
 t.D.St t.j 0 t.sR (Go.Conc.served g (.tuple #[.int .i64 0,.bool true,.int .i64 (F.fr a),.agg #[]])) (U.bL φ) m T->
 ∃N m' T' a' ae g',runNT prog N m T=(.next m',T')/\F.Loop a a'/\F.au1 a' ae/\ae.eC φ/\yK t.cb t.sb t.ub t.db t.wg t.cs g'/\t.A.St 0 t.j (t.sW F.bc) g' (ae.bL φ) m' T':=by
 intro n
 induction n with
 |zero=>intro a U m T g h;omega
 |succ n ih=>
  intro a U m T g hn hp hI hd hg nC;have tj:t.D.gC t.j 0:=.inr ⟨rfl,rfl⟩;have t0:t.A.gC 0 t.j:=.inl ⟨rfl,rfl⟩;have DV:(t.j==0)=false:=by have:=t.hj;simp;omega
  obtain⟨N1,m1,T1,g1,cX,r1,mR,u,b,σb,D6,hIb,zq,rfl,qy,ac1,dn,om,C9,Da,rfl⟩:=arO (E:=t.D.env t.ab5 tj t.QV) F hI hd hg m T nC;obtain⟨gs,w,sl,q,au2,n0,y,rfl,e1,e2,e3,e4,e5,e6,e7⟩:=mR;have qQ:=t.YG (main:=t.j==0) (K:=t.D.KW) (Still:=t.D.Still) (Bd:=t.D.B) dn om C9 Da
  obtain⟨N2,m2,T2,r2,Mq⟩:=t.D.meet (a:=t.j) (b:=0) tj (sa:=t.sT F.bc u) (sb:=t.sR) (c:=t.c2) (kk:=0) (v:=uV u) (.inr (.inl rfl)) rfl rfl t.QV (by rfl) (λm cc hm cT=>by
   rcases m with _|m
   ·exact absurd rfl hm
   ·simp[An]at cT) (λcc cT=>by
   simp only[An,List.mem_toArray,List.mem_cons,List.not_mem_nil,or_false]at cT
   subst cT;rfl) (.inl ⟨rfl,rfl⟩) (sl:=sl) e1 e2 (.inl ⟨0,rfl,_,qQ⟩) e3 e4 e5 e6 e7 (.inl aa)
  obtain⟨gb,DI,sH⟩:=Mq.pass t.alm (λga h=>t.afY h);obtain⟨N3,m3,T3,g3,J,r3,rD,Cp,Dz,hle,fp⟩:=akG (E:=t.A.env t.JL t0 (t.C5 F.bc)) F hp D6 hIb zq hb DI m2 T2 sH;have rD:=(t.A.env t.JL t0 (t.C5 F.bc)).iQ rD hle;have M1:=runNT_then (runNT_then r1 r2) r3;rcases fp with⟨hi,A9,hT⟩|⟨hi,c,d,iB,xY,A9,h3⟩
  ·exact⟨_,m3,T3,b,Cp,g3,M1,.idle hp D6 hi,A9,Dz,hT,rD⟩
  have bl:=F.dec hp D6 hi iB xY;rcases h3 with⟨h5,hT⟩|⟨h5,ρ4,a4,zk,hS,rfl⟩
  ·exact⟨_,m3,T3,d,Cp,g3,M1,.step hp D6 hi iB xY (.gone h5),A9,Dz,hT,rD⟩
  obtain⟨gs,w,sl,q,au2,n0,y,rfl,e1,e2,e3,e4,e5,e6,e7⟩:=rD;have qQ:=Pf (main:=true) (K:=t.A.KW) (Still:=t.A.Still) (Bd:=t.A.B) (cs:=t.cs) zk hS
  obtain⟨N4,m4,T4,r4,akN⟩:=t.A.meet (a:=0) (b:=t.j) t0 (sa:=t.sS (F.fr d)) (sb:=t.sW F.bc) (c:=t.c1) (kk:=0) (v:=.int .i64 (F.fr d)) (.inl rfl) rfl rfl (t.C5 F.bc) (by rfl) (λm cc hm cT=>by
   rcases m with _|_|m
   ·exact absurd rfl hm
   ·simp[jk]at cT;subst cT
    simp only[rcase,ne_eq,Value.chan.injEq,Option.some.injEq]
    exactλe=>t.d13 e.symm
   ·simp[jk]at cT) (λcc cT=>by
   simp only[jk,List.mem_toArray,List.mem_cons,List.not_mem_nil,or_false]at cT
   rcases cT with rfl|rfl<;>rfl) (.inl ⟨rfl,rfl⟩) (sl:=sl) e1 e2 (.inl ⟨0,rfl,_,qQ⟩) e3 e4 e5 e6 e7 (.inl aa)
  obtain⟨gb,DI,Cg⟩:=akN.pass t.alj (λga h=>t.Sd h);rw[t.Vr]at Cg;obtain⟨N5,m5,T5,a',ae,g',r5,hl,Dd,jH,hT,Ar⟩:=ih d Cp m4 T4 gb aa h5 A9 Dz DI Cg;exact⟨_,m5,T5,a',ae,g',runNT_then (runNT_then M1 r4) r5,.step hp D6 hi iB xY hl,Dd,jH,hT,Ar⟩
end
section
variable {h:Nat}{x:Nat}{s:Seat}{g:Goroutine}{U:Hp}{N:Nat}{ops:Array Oper}{b:Frame}{a:Act}{k:List Item}{cs:List Frame}{ds:List Deferred}{I:av}
variable {P:Program}(D:Duo P)
def Duo.dW (h x:Nat)(s:Seat)(g:Goroutine)(U:Hp)(S:Goroutine->Hp->Prop):Prop:=
 ∀m T,D.St h x s g U m T->∃N m' T' g' ae,runNT P N m T=(.next m',T')/\D.St h x s g' ae m' T'/\S g' ae
variable {D}{S:Goroutine->Hp->Prop}
def Duo.dW.here (k:S g U):D.dW h x s g U S:=λm T hm=>⟨0,m,T,g,U,rfl,hm,k⟩
def Duo.dW.step (t:D.gC h x)(hs:D.Fits s)(hr:g.status=.running){X:Goroutine->Hp->Prop}(hX:D.xy (h==0) g U X)(k:∀g' ae,X g' ae->D.dW h x s g' ae S):D.dW h x s g U S:=by intro m T hm;obtain⟨N,m',T',g',ae,h1,h2,_,h3⟩:=D.run t hs hm hr hX;obtain⟨N',pz,oO,C7,gA,k1,k2,k3⟩:=k g' ae h3 m' T' h2;exact⟨N+N',pz,oO,C7,gA,runNT_then h1 k1,k2,k3⟩
def Duo.xy.quiet {main:Bool}{X:Goroutine->Prop}(k:∀w,(∀b o,U.f b=some o->w.heap[b]? =some o)->∃g' d es,stepG P main g w=.go g' (w.at d) es/\g'.status=.running/\X g'/\∀e∈es,∃a:Addr,e=⟨.cell a,false,false⟩/\(U.f a.block).isSome=true):
 D.xy main g U λg' ae=>ae=U/\X g':=by
 intro au2 w hs hJ hK hc hf;obtain⟨g',d,es,h1,h2,h3,h4⟩:=k w λb o hb=>hs.heap hb;rw[h1];refine⟨U,au2,hs.at d,hJ,D.Dh w d hK,hc,hf.at d,Nat.le_refl _,λe he=>?_,h2,rfl,h3⟩;obtain⟨a,rfl,ha⟩:=h4 e he;obtain⟨o,ho⟩:=Option.isSome_iff_exists.1 ha;have hn:¬D.Hid a.block:=λhb=>hs.sB ho (hJ _ hb);refine⟨λb hb=>?_,⟨⟨al,al⟩,al⟩,?_⟩
 ·simp[MemAct.ofEvent,MemAct.touch?]at hb;subst hb;exact⟨λhS=>absurd (.inr (.inr ⟨a,rfl,.inl hS⟩)) hn,λ_=>rfl,λhQ=>absurd (.inr (.inr ⟨a,rfl,.inr hQ⟩)) hn⟩
 ·simp[MemAct.ofEvent,MemAct.low];exact hs.lt ho
def Duo.dW.ctl {g':Goroutine}(t:D.gC h x)(hs:D.Fits s)(k:∀w,stepG P (h==0) g w=.go g' w)(hr:g.status=.running)(eX:g'.status=.running)(n:D.dW h x s g' U S):D.dW h x s g U S:=by refine Duo.dW.step t hs hr (Duo.xy.quiet (X:=λy=>y=g') λw _=>⟨g',w.drawn,#[],k w,eX,rfl,al⟩) ?_;rintro _ _ ⟨rfl,rfl⟩;exact n
def Duo.dW.JP (t:D.gC h x)(hs:D.Fits s){id:Nat}(n:∀c,D.dW h x s (G (b.at a (.inRegion ops (Region.schedule (P.follows .mixedOrders) ops c)::k)) cs) U S):D.dW h x s (G (b.at a (.code (.region id ops true)::k)) cs) U S:=by
 refine Duo.dW.step t hs rfl (Duo.xy.quiet (X:=λy=>∃c,y=G (b.at a (.inRegion ops (Region.schedule (P.follows .mixedOrders) ops c)::k)) cs) λw _=>?_) ?_
 ·have:stepG P (h==0) (G (b.at a (.code (.region id ops true)::k)) cs) w=.go (G (b.at a (.inRegion ops (Region.schedule (P.follows .mixedOrders) ops (w.tape w.drawn (.order b.fn id)))::k)) cs) {w with drawn:=w.drawn+1}:=by simp[G,stepG,stepG.exec,Frame.at,choose,Sem.run,Question.forced,Question.cut]
  exact⟨_,w.drawn+1,#[],this,rfl,⟨_,rfl⟩,al⟩
 ·rintro _ _ ⟨rfl,c,rfl⟩;exact n c
def Duo.dW.VE (t:D.gC h x)(hs:D.Fits s)(hk:b.kind≠.early){F:Hp->Prop}(hF:F U){Ok:Addr->Prop}{Q:av->Prop}{rest:List Nat}(n:∀I a,cM N a I ds->Q I->D.dW h x s (G (b.at a (.inRegion ops rest::k)) cs) U S):
 ∀(p:List Nat) (I:av) (a:Act),dM P N ops F Ok Q p I->cM N a I ds->D.dW h x s (G (b.at a (.inRegion ops (p++rest)::k)) cs) U S:=by
 intro p
 induction p with
 |nil=>exactλI a h ha=>n I a ha h
 |cons i p ih=>
  intro I a hq ha;simp only[dM]at hq
  cases ho:ops[i]? with
  |none=>rw[ho]at hq;exact hq.elim
  |some o=>
   rw[ho]at hq;obtain⟨hd,hg,jJ,gq,v,hv,hq⟩:=hq;refine Duo.dW.step t hs rfl (Duo.xy.quiet (X:=λy=>y=G (b.at (a.put o.dst v) (.inRegion ops (p++rest)::k)) cs) λw hw=>?_) ?_
   ·obtain⟨es,h1,h2⟩:=Nh (main:=(h==0)) (k:=k) (cs:=cs) (rest:=p++rest) ho hg jJ (hv U hF) hk ha w hw;refine⟨_,w.drawn,es,h1,rfl,rfl,λe he=>?_⟩;obtain⟨y,hy,_,hz⟩:=h2 e he;exact⟨y,hy,hz⟩
   ·rintro _ _ ⟨rfl,rfl⟩;exact ih _ _ hq (ha.put hd v)
def Duo.dW.call (t:D.gC h x)(hs:D.Fits s){i:Nat}{rest:List Nat}{o:Oper}{f:FuncId}{xs:Array Operand}{cB:Array TypeId}(ho:ops[i]? =some o)(hg:o.guard=none)(hk:b.kind≠.early)
 (aS:o.op=.call {callee:=.value (.func f),args:=xs,argTypes:=cB}) (hgo:ck P f=true)
 (n:D.dW h x s (G (Frame.enter P f (xs.map a.eval) .normal) (b.at a (.inRegion ops (i::rest)::k)::cs)) U S):D.dW h x s (G (b.at a (.inRegion ops (i::rest)::k)) cs) U S:=by
 unfold ck at hgo
 cases rV:P.funcs[f]? with
 |none=>rw[rV]at hgo;cases hgo
 |some fn=>
 rw[rV]at hgo;simp only[Bool.and_eq_true,Bool.not_eq_true',beq_eq_false_iff_ne,ne_eq]at hgo;obtain⟨jI,mD⟩:=hgo
 have hr:∀w,(execOp a.eval o).run P w=.ok (.enter f (xs.map a.eval)) w:=by intro w;exact run_call_body aS rV (aW jI) mD
 have he:∀w,(execOp a.eval o).events P w #[]= #[]:=by intro w;exact events_call_body aS rV (aW jI) mD _
 refine Duo.dW.ctl t hs (λw=>?_) rfl rfl n;rw[stepG_enter ho (by simp[Region.wanted,hg]) hk (hr w),listed_none (he w)]
def Duo.dW.defer (t:D.gC h x)(hs:D.Fits s){i:Nat}{rest:List Nat}{o:Oper}{f:FuncId}{xs:Array Operand}{cB:Array TypeId}(ho:ops[i]? =some o)(hg:o.guard=none)(hk:b.kind≠.early)
 (aS:o.op=.defer {callee:=.value (.func f),args:=xs,argTypes:=cB})
 (n:D.dW h x s (G (b.at (Act.put ⟨a.tmps,dcall f (xs.map a.eval)::a.defers⟩ o.dst undef) (.inRegion ops rest::k)) cs) U S):D.dW h x s (G (b.at a (.inRegion ops (i::rest)::k)) cs) U S:=
 Duo.dW.ctl t hs (λw=>stepG_defer ho (by simp[Region.wanted,hg]) hk aS) rfl rfl n
def Duo.dW.store (t:D.gC h x)(hs:D.Fits s){i:Nat}{rest:List Nat}{o:Oper}{ty:TypeId}{y z:Operand}{bk off:Nat}{u v:Value}{c:Array Value}{et:TypeId}(ho:ops[i]? =some o)(hg:o.guard=none)(hk:b.kind≠.early)
 (aS:o.op=.store ty y z) (hy:a.eval y=.pointer (some ⟨bk,off,none⟩)) (hz:a.eval z=v) (hv:v.oneCell'=true) {ie:TypeInfo} (wA:P.info? ty=some ie) (h1:ie.size=1) (hb:U.f bk=some (.cells c et (0,0))) (hu:c[off]? =some u)
 (bw:¬D.Still (.cell ⟨bk,off,none⟩)) (hK:∀w,(∀b o,U.f b=some o->w.heap[b]? =some o)->D.K w->D.K (w.setCell ⟨bk,off,none⟩ v))
 (n:D.dW h x s (G (b.at (a.put o.dst undef) (.inRegion ops rest::k)) cs) (U.setCell ⟨bk,off,none⟩ v) S):D.dW h x s (G (b.at a (.inRegion ops (i::rest)::k)) cs) U S:=by
 refine Duo.dW.step t hs rfl (X:=λg' ae=>ae=U.setCell ⟨bk,off,none⟩ v/\g'=G (b.at (a.put o.dst undef) (.inRegion ops rest::k)) cs) ?_ ?_
 ·intro au2 w fU hJ hKw hc hf;have hw:=fU.heap hb;have lB:w.cell? ⟨bk,off,none⟩=some u:=by simp[World.cell?,hw,hu]
  have Si:w.frozen? ⟨bk,off,none⟩=false:=by simp[World.frozen?,hw]
  have j7:=Go.Lib.cells_one (v:=v) hv
  have hr:(execOp a.eval o).run P w=.ok .skip (w.setCell ⟨bk,off,none⟩ v):=by unfold execOp;simp[aS,hy,hz,Instr.storeAt,Instr.sureAddr,storeVar,sizeOf,typeInfo,wA,h1,j7,storeCells,run_store P _ _ v _ hv,Addr.add_zero',lB,Si,Result.andThen]
  have he:(execOp a.eval o).events P w #[]= #[⟨.cell ⟨bk,off,none⟩,true,false⟩]:=by unfold execOp;simp[aS,hy,hz,Instr.storeAt,Instr.sureAddr,storeVar,sizeOf,typeInfo,wA,h1,j7,storeCells,events_store P _ _ _ v _ hv,Addr.add_zero',lB,Si]
  rw[stepG_none ho (by simp[Region.wanted,hg]) hk hr];have hn:¬D.Hid bk:=λhh=>fU.sB hb (hJ _ hh);have GY:Kept au2 w (w.setCell ⟨bk,off,none⟩ v):=Kept.modify fU hb (y8 ⟨bk,off,none⟩ v);refine⟨U.setCell ⟨bk,off,none⟩ v,au2,fU.modify hb (y8 ⟨bk,off,none⟩ v),hJ,hK w (λb o hb=>fU.heap hb) hKw,λc' cF=>?_,hf.kept GY,GY.um,λe kA=>?_,rfl,rfl,rfl⟩
  ·obtain⟨k0,tr⟩:=hc c' cF;exact⟨k0,by rw[GY.hidden c' (hJ c' (.inr (.inl cF)))];exact tr⟩
  ·have:=mem_listed kA;rw[he]at this;simp at this;subst this;refine⟨λb' dJ=>?_,⟨⟨al,al⟩,al⟩,?_⟩
   ·simp[MemAct.ofEvent,MemAct.touch?]at dJ;subst dJ;exact⟨λhS=>absurd (.inr (.inr ⟨_,rfl,.inl hS⟩)) hn,λhS=>absurd hS bw,λhQ=>absurd (.inr (.inr ⟨_,rfl,.inr hQ⟩)) hn⟩
   ·simp[MemAct.ofEvent,MemAct.low]
    first|exact fU.lt hb|exact Nat.lt_of_lt_of_le (fU.lt hb) GY.um
 ·rintro _ _ ⟨rfl,rfl⟩;exact n
end
section
open Go.Proofs
open Go.ConcX (OfWg)
variable {I:av}{P:Program}{N:Nat}{ops:Array Oper}{F:Hp->Prop}{U:Hp}
def arQ{E:Env P}{Ok:Addr->Prop}{Q:Post}{pn:List PanicEntry->List Deferred->Hp->Prop}{ds:List Deferred}(kE:F U)(gK:∀(i:Nat) (o:Oper),ops[i]? =some o->cW o.op=true):
 ∀(p:List Nat) (cJ:List (Nat×av×Value)) (I:av),dM P N ops F Ok (λI=>Q .normal I ds U) p I->gh E N ops Q pn p cJ I ds U:=by
 intro p
 induction p with
 |nil=>exactλ_ _ h=>h
 |cons i p ih=>
  intro cJ I h;simp only[dM]at h
  cases ho:ops[i]? with
  |none=>rw[ho]at h;exact h.elim
  |some o=>
   rw[ho]at h;obtain⟨h1,h2,h3,h4,v,h5,h6⟩:=h;simp only[gh,ho];refine⟨h1,?_⟩;rw[if_pos (gK i o ho),if_pos (by simp[Region.wanted,h2]),h5 U kE];exact ih _ _ h6
variable {Q:av->Prop}
def apI:∀(p:List Nat) (I:av),xk P N ops U Q p I->dM P N ops (λκ=>κ=U) (λ_=>True) Q p I:=by
 intro p
 induction p with
 |nil=>exactλ_ h=>h
 |cons i p ih=>
  intro I h;simp only[xk]at h;simp only[dM]
  cases ho:ops[i]? with
  |none=>rw[ho]at h;exact h.elim
  |some o=>
   rw[ho]at h;obtain⟨h1,h2,h3,v,h4,h5⟩:=h;exact⟨h1,h2,h3,λ_ _=>trivial,v,λκ e=>by rw[e];exact h4,ih _ h5⟩
def apJ{Q':av->Prop}(hq:∀I,Q I->Q' I):∀(p:List Nat) (I:av),xk P N ops U Q p I->xk P N ops U Q' p I:=by
 intro p
 induction p with
 |nil=>exactλI h=>hq I h
 |cons i p ih=>
  intro I h;simp only[xk]at h|-
  cases ho:ops[i]? with
  |none=>rw[ho]at h;exact h.elim
  |some o=>
   rw[ho]at h;obtain⟨h1,h2,h3,v,h4,h5⟩:=h;exact⟨h1,h2,h3,v,h4,ih _ h5⟩
variable {h:Nat}
def alL(P:Program):Env P:={main:=true,st:=λ_ _ _ _=>False,iQ:=λh _=>h,own:=λ_ _ _ _ _ h=>h.elim}
def apL{Ok:Addr->Prop}{m:Nat}{l:List Nat}(kE:F U)(hm:P.follows .mixedOrders=true)(hc:sX (gS ops m) l=true)(he:endsIn ops m=true)(hl:∃p,l=p++[m])(gK:∀(i:Nat) (o:Oper),(gS ops m)[i]? =some o->cW o.op=true)(hk:∀(i:Nat) (o:Oper),i≠m->ops[i]? =some o->BJ o.op=true/\EE P o.op=true/\o.guard=none)(hd:pD N (gn ops m)=true)(hg:((ops[m]?).bind (·.guard))=none)(hs:(ops[m]?).isSome=true)(h:∀p,l=p++[m]->dM P N (gS ops m) F Ok Q p I)(t:Nat):
 ∃p,Region.schedule (P.follows .mixedOrders) ops t=p++[m]/\dM P N ops (λκ=>κ=U) (λ_=>True) (λI=>∃aC,Q aC/\aB aC (gn ops m) undef=aB I (gn ops m) undef) p I:=by
 obtain⟨p0,rfl⟩:=hl;obtain⟨p,Ha,qZ⟩:=apk hm he t;refine⟨p,Ha,?_⟩;obtain⟨o,ho⟩:=Option.isSome_iff_exists.1 hs;have SI:(gS ops m)[m]? =some {o with op:=.move (.const undef)}:=by simp[gS,Array.getElem?_modify,ho]
 have Sa:o.dst=gn ops m:=by simp[gn,ho]
 have GR:o.guard=none:=by rw[ho]at hg;exact hg
 have key:∀(p:List Nat) (I:av),dM P N (gS ops m) F Ok Q p I->dM P N (gS ops m) F Ok (λI=>∃aC,Q aC/\I=aB aC (gn ops m) undef) (p++[m]) I:=by
  intro p
  induction p with
  |nil=>
   intro I h0;simp only[List.nil_append,dM,SI];exact⟨by rw[Sa];exact hd,GR,trivial,λy hy=>hy.elim,undef,λκ _=>by simp[cV,ak],I,h0,by rw[Sa]⟩
  |cons i p ih=>
   intro I h0;simp only[List.cons_append,dM]at h0|-
   cases hi:(gS ops m)[i]? with
   |none=>rw[hi]at h0;exact h0.elim
   |some oi=>
    rw[hi]at h0;obtain⟨h1,h2,h3,h4,v,h5,h6⟩:=h0;exact⟨h1,h2,h3,h4,v,h5,ih _ h6⟩
 have hD:=arQ (E:=alL P) (Q:=ki λI ds J=>∃aC,Q aC/\I=aB aC (gn ops m) undef) (pn:=λ_ _ _=>False) (ds:=[]) kE gK (p0++[m]) [] I (key p0 I (h p0 rfl));have hO:=Qm hc hm (λ_ _ _ _ h=>h.elim) hD t;rw[ak1 hm,Ha]at hO;have hI:=apK p qZ hk I hO;refine apI p I ?_;refine apJ (λI hq=>?_) p I hI;obtain⟨aC,h1,h2⟩:=hq;exact⟨aC,h1,h2.symm⟩
noncomputable def xw:Code:=f56.body.getD .skip
noncomputable def d56:Array Oper:=bN (bO xw)
noncomputable def kV:Array Oper:=bN (aR xw)
def mZ:Frame:=baseD 56
noncomputable def bot:Frame:={(default:Frame)with fn:=prog.funcs.size,defers:=[],mode:=.panicking [goexitEntry]}
def WM:xw=.seq (.region 0 d56 false) (.region 1 kV true):=ah
def abW:∃ps af cB ty,d56[0]? =some {dst:=none,op:=.defer {callee:=.value (.func 57),args:=#[.tmp 0],argTypes:=cB},type:=ty,pos:=ps,after:=af,guard:=none}:=⟨_,_,_,_,by simp only[d56,xw,f56,Option.getD_some,bO,bN];rfl⟩
def UB:∃ps af cB ty,kV[7]? =some {dst:=some 13,op:=.call {callee:=.value (.func 58),args:=#[.tmp 8,.tmp 9,.tmp 10,.tmp 11,.tmp 12],argTypes:=cB},type:=ty,pos:=ps,after:=af,guard:=none}:=⟨_,_,_,_,by simp only[kV,xw,f56,Option.getD_some,aR,bN];rfl⟩
def amQ:∃ps af,p0[8]? =some {dst:=none,op:=.store 9 (.tmp 18) (.tmp 16),type:=0,pos:=ps,after:=af,guard:=none}:=⟨_,_,by simp only[p0,pL,f58,Option.getD_some,bO,bN];rfl⟩
def acG:endsIn kV 7=true:=ah
def aa7:sX (gS kV 7) [0,1,2,3,4,5,6,7]=true:=ah
def oR(wg cb kb sb ub db:Nat):Array Value:=#[pV wg,pV cb,pV kb,pV sb,pV ub,pV db]
def call56(wg cb kb sb ub db:Nat):Deferred:={target:=.fn (.func 56) (oR wg cb kb sb ub db),args:=#[]}
def ZM(wg cb kb sb ub db:Nat)(w:World):stepG prog false (born prog (call56 wg cb kb sb ub db)) w=
 .go (G (mZ.at ⟨oR wg cb kb sb ub db++Array.replicate (14-(oR wg cb kb sb ub db).size) undef,[]⟩ [.code xw]) [bot]) w #[]:=by
 simp[born,call56,oR,stepG,unwind,callDeferred,invoke,callFunc,func56,f56,seen,GStep.after,G,Frame.enter,Frame.at,mZ,baseD,bot,xw]
namespace Tk
variable {h:Nat}{b:Frame}{a:Act}{k:List Item}
variable (t:Tk)
structure Ok (b:Nat):Prop where
 n1:b≠t.c1
 n2:b≠t.c2
 n3:b≠t.c3
 nw:b≠t.wg
 nu:b≠t.ub
 nj:¬t.Jh b
 lt:b<t.Bd
def K1 (bc:Nat)(l:List Value)(w:World):Prop:=
 t.K0 w/\w.heap[t.cb]? =some (.cells #[pV bc] 70 (0,0))/\w.heap[t.sb]? =some (.cells #[.chan (some t.c1)] 119 (0,0))/\∃r,w.heap[bc]? =some (.cells (l.set 3 r).toArray 90 (0,0))
def S1 (bc:Nat)(l:Loc):Prop:=l=.cell ⟨t.ub,0,none⟩\/∃a,l=.cell a/\Rd t.cb t.sb bc a
variable {t}
def Ok.chan {b:Nat}(h:t.Ok b){c:Nat}(hc:t.chans c):b≠c:=by rcases hc with rfl|rfl|rfl;exact h.n1;exact h.n2;exact h.n3
def Vd {bc:Nat}(hc:t.Ok t.cb)(hs:t.Ok t.sb)(hb:t.Ok bc){a:Addr}(h:Rd t.cb t.sb bc a):t.Ok a.block:=by
 rcases h with rfl|rfl|rfl|rfl
 ·exact hc
 ·exact hs
 ·exact hb
 ·exact hb
def B1 (t:Tk)(HK:Nat->Prop)(bc:Nat)(l:List Value)(hc:t.Ok t.cb)(hs:t.Ok t.sb)(hb:t.Ok bc):Duo prog:={t.A with
 K:=t.K1 bc l
 KW:=t.K1 bc l
 Dg:=λw h=>h
 HK:=HK
 Still:=t.S1 bc
 Dh:=λw d h=>h
 Kr:=by
  rintro w c k cT ⟨h1,h2,h3,r,h4⟩
  exact⟨LZ cT h1,(heap_setChan_ne w _ _ _ _ _ _ (Ne.symm (hc.chan cT)).symm.symm).trans h2,(heap_setChan_ne w _ _ _ _ _ _ (Ne.symm (hs.chan cT))).trans h3,r,(heap_setChan_ne w _ _ _ _ _ _ (Ne.symm (hb.chan cT))).trans h4⟩
 cell:=by rintro l (⟨a,rfl,_⟩|(rfl|⟨a,rfl,_⟩)|⟨a,rfl,_⟩)<;>exact⟨_,rfl⟩
 apart:=by
  obtain⟨a1,a2,a3,a4,a5,a6⟩:=t.gv
  rintro l (rfl|⟨a,rfl,hr⟩)
  ·refine⟨?_,?_⟩
   ·rintro⟨a,e,h⟩
    obtain rfl:a=⟨t.ub,0,none⟩:=by simpa using e.symm
    rcases h with h|h
    ·exact a5 h
    ·exact a4 h
   ·rintro⟨a,e,h⟩
    obtain rfl:a=⟨t.ub,0,none⟩:=by simpa using e.symm
    exact a4 h
  ·have ho:=Vd hc hs hb hr
   refine⟨?_,?_⟩
   ·rintro⟨a',e,h⟩
    obtain rfl:a'=a:=by simpa using e.symm
    rcases h with h|h
    ·exact ho.nj h
    ·exact ho.nw h
   ·rintro⟨a',e,h⟩
    obtain rfl:a'=a:=by simpa using e.symm
    exact ho.nw h}
def adl {HK:Nat->Prop}{bc:Nat}{l:List Value}{hc:t.Ok t.cb}{hs:t.Ok t.sb}{hb:t.Ok bc}(fr:Int):(t.B1 HK bc l hc hs hb).Fits (t.sS fr):=by intro cc h;simp only[E7,List.mem_toArray,List.mem_cons,List.not_mem_nil,or_false]at h;subst h;exact⟨t.c1,.inl rfl,rfl⟩
end Tk
variable {s:Seat}{b:Frame}{k:List Item}
structure Bw (t:Tk) (bc kb:Nat) (l:List Value) (ch:List UInt8) (U:Hp):Prop where
 c:U.f t.cb=some (.cells #[pV bc] 70 (0,0))
 k:U.f kb=some (.cells #[.string (B ch)] 9 (0,0))
 s:U.f t.sb=some (.cells #[.chan (some t.c1)] 119 (0,0))
 u:U.f t.ub=some (.cells #[.chan (some t.c2)] 120 (0,0))
 d:U.f t.db=some (.cells #[.chan (some t.c3)] 121 (0,0))
 b:U.f bc=some (.cells l.toArray 90 (0,0))
variable {a:Act}
def CW(wg:Nat)(cw:List Frame):Prop:=∃a,a.defers=[dcall 57 #[pV wg]]/\a.tmps.size=14/\cw=[mZ.at a [.inRegion kV [7]],bot]
structure N7 (t:Tk) (bc:Nat) (ch:List UInt8) (I:av):Prop where
 a:I 8=.pointer (some ⟨bc,3,none⟩)
 k:I 9=.string (B ch)
 s:I 10=.chan (some t.c1)
 u:I 11=.chan (some t.c2)
 d:I 12=.chan (some t.c3)
variable {t:Tk}{bc kb:Nat}{l:List Value}{ch:List UInt8}
def apD(h1:I 1=pV t.cb)(h2:I 2=pV kb)(h3:I 3=pV t.sb)(h4:I 4=pV t.ub)(h5:I 5=pV t.db):
 dM prog 14 (gS kV 7) (Bw t bc kb l ch) (λ_=>True) (N7 t bc ch) [0,1,2,3,4,5,6] I:=by
 have hm:gS kV 7= #[]\/True:=.inr trivial;simp only[kV,xw,f56,Option.getD_some,aR,bN];refine pH (a:=⟨t.cb,0,none⟩) (v:=pV bc) rfl ai (by simp[ak,h1]) ah ah trivial (λκ h=>oS h.c rfl) ?_;refine vv (a:=⟨bc,0,none⟩) rfl ai (by simp[ak,up]) ?_;refine vu (a:=⟨bc,0,none⟩) (off:=3) rfl ai (by simp[ak,up]) ah ?_;refine pH (a:=⟨kb,0,none⟩) (v:=.string (B ch)) rfl ai (by simp[ak,up,h2]) ah ah trivial (λκ h=>oS h.k rfl) ?_;refine pH (a:=⟨t.sb,0,none⟩) (v:=.chan (some t.c1)) rfl ai (by simp[ak,up,h3]) ah ah trivial (λκ h=>oS h.s rfl) ?_;refine pH (a:=⟨t.ub,0,none⟩) (v:=.chan (some t.c2)) rfl ai (by simp[ak,up,h4]) ah ah trivial (λκ h=>oS h.u rfl) ?_;refine pH (a:=⟨t.db,0,none⟩) (v:=.chan (some t.c3)) rfl ai (by simp[ak,up,h5]) ah ah trivial (λκ h=>oS h.d rfl) ?_;exact⟨by simp[up,Addr.add],by simp[up],by simp[up],by simp[up],by simp[up]⟩
variable {x:Nat}
structure WD (t:Tk) (bc:Nat) (x:List UInt8) (I:av):Prop where
 w:Fw bc t.c1 t.c2 t.c3 I
 v:I 16=.string (B x)
 p:I 18=.pointer (some ⟨bc,3,none⟩)
def apE{rest:List UInt8}(hF:Fw bc t.c1 t.c2 t.c3 I)(h1:I 1=.string (B ch))(hl:l[3]? =some (.string (B rest)))(hn:rest.length+ch.length<=9223372036854775807):
 dM prog 30 p0 (Bw t bc kb l ch) (λ_=>True) (WD t bc (rest++ch)) [0,1,2,3,4,5,6,7] I:=by
 simp only[p0,pL,f58,Option.getD_some,bO,bN];refine Ik rfl ai ?_;refine vv (a:=⟨bc,3,none⟩) rfl ai (by simp[ak,up,hF.c]) ?_;refine vu (a:=⟨bc,3,none⟩) (off:=0) rfl ai (by simp[ak,up]) ah ?_;refine pH (a:=⟨bc,3,none⟩) (v:=.string (B rest)) rfl ai (by simp[ak,up,Addr.add]) ah ah trivial (λκ h=>oS h.b (aW hl)) ?_;refine Ik rfl ai ?_;refine E9 (v:=.string (B (rest++ch))) rfl ai (by simp[ak,up,h1,Px,qH,hn]) ?_;refine vv (a:=⟨bc,3,none⟩) rfl ai (by simp[ak,up,hF.c]) ?_;refine vu (a:=⟨bc,3,none⟩) (off:=0) rfl ai (by simp[ak,up]) ah ?_;refine⟨?_,by simp[up],by simp[up,Addr.add]⟩;exact(((((((hF.up ai _).up ai _).up ai _).up ai _).up ai _).up ai _).up ai _).up ai _
section
variable {h:Nat}{s:Seat}{g:Goroutine}{U:Hp}{N:Nat}{ops:Array Oper}{b:Frame}{a:Act}{k:List Item}{ds:List Deferred}{I:av}
variable {t:Tk}{HK:Nat->Prop}{bc kb:Nat}{l:List Value}{ch rest:List UInt8}{hc:t.Ok t.cb}{hs:t.Ok t.sb}{hb:t.Ok bc}{U:Hp}{fr:Int}
def OU {p:Oper->Bool}{ops:Array Oper}(h:ops.all p=true){i:Nat}{o:Oper}(ho:ops[i]? =some o):p o=true:=by rw[Array.all_eq_true]at h;obtain⟨hi,rfl⟩:=Array.getElem?_eq_some_iff.1 ho;exact h i hi
def aoq:(gS kV 7).all (λo=>cW o.op)=true:=ah
def ajr:(gS kV 7).all (λo=>BJ o.op&&EE prog o.op&&o.guard.isNone)=true:=ah
def aie:∃ie,prog.info? 9=some ie/\ie.size=1:=by have:(prog.info? 9).map (·.size)=some 1:=ah;exact Option.map_eq_some_iff.1 this
def E8 (w:World){a:Addr}{b:Nat}(v:Value)(h:b≠a.block):(w.setCell a v).heap[b]? =w.heap[b]? :=by simp only[World.setCell,Array.getElem?_modify,if_neg (Ne.symm h)]
def YL:f58.body=some pL:=ah
def Y9 (hW:Bw t bc kb l ch U)(hl:l[3]? =some (.string (B rest)))(hn:rest.length+ch.length<=9223372036854775807):
 (t.B1 HK bc l hc hs hb).dW t.j 0 (t.sS fr) (born prog (call56 t.wg t.cb kb t.sb t.ub t.db)) U λg J=>J=U.setCell ⟨bc,3,none⟩ (.string (B (rest++ch)))/\∃cw I a,CW t.wg cw/\cM 30 a I []/\Fw bc t.c1 t.c2 t.c3 I/\g=G (gO.at a (.code lf:: .inLoop lf:: .inBlock 0::[])) cw:=by
 have tj:(t.B1 HK bc l hc hs hb).gC t.j 0:=.inr ⟨rfl,rfl⟩;have hf:=Tk.adl (t:=t) (HK:=HK) (hc:=hc) (hs:=hs) (hb:=hb) (l:=l) fr;have DV:(t.j==0)=false:=by have:=t.hj;simp;omega
 have hm:prog.follows .mixedOrders=true:=ah;refine Duo.dW.ctl tj hf (λw=>by rw[DV];exact ZM _ _ _ _ _ _ w) rfl rfl ?_;have uy:=sQ (oR t.wg t.cb kb t.sb t.ub t.db) 14 (by simp[oR]);generalize tB:nV (oR t.wg t.cb kb t.sb t.ub t.db) 14=mU at uy;have q0:mU 0=pV t.wg:=by rw[<-tB];rfl
 have q1:mU 1=pV t.cb:=by rw[<-tB];rfl
 have q2:mU 2=pV kb:=by rw[<-tB];rfl
 have q3:mU 3=pV t.sb:=by rw[<-tB];rfl
 have q4:mU 4=pV t.ub:=by rw[<-tB];rfl
 have q5:mU 5=pV t.db:=by rw[<-tB];rfl
 clear tB;generalize(⟨oR t.wg t.cb kb t.sb t.ub t.db++_,[]⟩:Act)=a0 at uy|-;rw[WM];refine Duo.dW.ctl tj hf (λw=>stepG_seq) rfl rfl ?_;refine Duo.dW.ctl tj hf (λw=>stepG_region) rfl rfl ?_;have hr:List.range d56.size=[0]:=ah;rw[hr];obtain⟨ps,af,cB,ty,ho⟩:=abW;refine Duo.dW.defer tj hf ho rfl (by simp[mZ,baseD]) rfl ?_;have e0:a0.eval (.tmp 0)=pV t.wg:=by rw[uy.eval];exact q0
 have tp:a0.defers=[]:=uy.defers
 have dn:cM 14 (Act.put ⟨a0.tmps,dcall 57 (#[Operand.tmp 0].map a0.eval)::a0.defers⟩ none undef) mU [dcall 57 #[pV t.wg]]:=by have:=uy.defer (dcall 57 #[pV t.wg]);rw[tp]at*;simpa[Act.put,e0]using this
 generalize Act.put ⟨a0.tmps,dcall 57 (#[Operand.tmp 0].map a0.eval)::a0.defers⟩ none undef=a1 at dn|-;refine Duo.dW.ctl tj hf (λw=>stepG_region_end) rfl rfl ?_;refine Duo.dW.JP tj hf λc=>?_;obtain⟨ps,af,cB,ty,ho⟩:=UB;have Bl:gn kV 7=some 13:=by simp[gn,ho]
 obtain⟨p,hp,ahq⟩:=apL (P:=prog) (N:=14) (ops:=kV) (m:=7) (l:=[0,1,2,3,4,5,6,7]) (F:=Bw t bc kb l ch) (Ok:=λ_=>True) (Q:=N7 t bc ch) (I:=mU) hW hm aa7 acG ⟨[0,1,2,3,4,5,6],rfl⟩
  (λi o h=>OU aoq h) (λi o hi h=>by
   have:=OU ajr ((HH hi).trans h)
   simp only[Bool.and_eq_true,Option.isNone_iff_eq_none]at this
   exact⟨this.1.1,this.1.2,this.2⟩) (by rw[Bl];rfl) (by rw[ho];rfl) (by rw[ho];rfl) (λp hp=>by
   obtain rfl:p=[0,1,2,3,4,5,6]:=by
    have:=congrArg List.dropLast hp
    simpa using this.symm
   exact apD q1 q2 q3 q4 q5) c
 rw[hp];refine Duo.dW.VE tj hf (N:=14) (ds:=[dcall 57 #[pV t.wg]]) (by simp[mZ,baseD]) (F:=λκ=>κ=U) rfl (Ok:=λ_=>True) (rest:=[7]) (λI a ha hq=>?_) p mU a1 ahq dn;obtain⟨aC,hA,ahe⟩:=hq
 have heq:∀i,i≠13->I i=aC i:=λi hi=>by have:=congrFun ahe i;simp only[Bl,aB,up,if_neg hi]at this;exact this.symm
 have k8:I 8=_:=(heq 8 ai).trans hA.a;have k9:I 9=_:=(heq 9 ai).trans hA.k;have wO:I 10=_:=(heq 10 ai).trans hA.s;have wP:I 11=_:=(heq 11 ai).trans hA.u;have k12:I 12=_:=(heq 12 ai).trans hA.d;refine Duo.dW.call tj hf ho rfl (by simp[mZ,baseD]) rfl aer ?_
 have afo:(#[Operand.tmp 8,.tmp 9,.tmp 10,.tmp 11,.tmp 12]).map a.eval= #[.pointer (some ⟨bc,3,none⟩),.string (B ch),.chan (some t.c1),.chan (some t.c2),.chan (some t.c3)]:=by rw[ha.eval];simp[ak,k8,k9,wO,wP,k12]
 rw[afo,enter_at _ func58 YL,WN];have D5:f58.ntmps=30:=rfl;rw[D5];have gH:=sQ #[.pointer (some ⟨bc,3,none⟩),.string (B ch),.chan (some t.c1),.chan (some t.c2),.chan (some t.c3)] 30 al;generalize LP:nV _ 30=lO at gH;have nA:Fw bc t.c1 t.c2 t.c3 lO:=by rw[<-LP];exact⟨rfl,rfl,rfl,rfl⟩
 have r1:lO 1=.string (B ch):=by rw[<-LP];rfl
 clear LP;generalize(⟨_++Array.replicate (30-_) undef,[]⟩:Act)=a2 at gH|-;have qd:CW t.wg (mZ.at a [.inRegion kV [7]]::[bot]):=⟨a,ha.defers,ha.size,rfl⟩;generalize(mZ.at a [.inRegion kV [7]]::[bot])=cw at qd|-;change Duo.dW _ _ _ _ (G (gO.at a2 [.code (.seq (.region 0 p0 false) (.block 0 (.loop lf)))]) cw) _ _;refine Duo.dW.ctl tj hf (λw=>stepG_seq) rfl rfl ?_;refine Duo.dW.ctl tj hf (λw=>stepG_region) rfl rfl ?_;have bZ:List.range p0.size=[0,1,2,3,4,5,6,7]++[8]:=ah;rw[bZ];refine Duo.dW.VE tj hf (N:=30) (ds:=[]) (by simp[gO]) (F:=Bw t bc kb l ch) hW (Ok:=λ_=>True) (rest:=[8]) (λI a ha hA=>?_) [0,1,2,3,4,5,6,7] lO a2 (apE nA r1 hl hn) gH;obtain⟨ps,af,ho⟩:=amQ;obtain⟨ie,wA,ago⟩:=aie;refine Duo.dW.store tj hf ho rfl (by simp[gO]) (ty:=9) (y:=.tmp 18) (z:=.tmp 16) (bk:=bc) (off:=3) (v:=.string (B (rest++ch))) (c:=l.toArray) (et:=90) (u:=.string (B rest)) rfl (by rw[ha.eval];exact hA.p) (by rw[ha.eval];exact hA.v) rfl wA ago hW.b (aW hl) ?_ ?_ ?_
 ·rintro(h|⟨a,h,h'|h'|h'|h'⟩)
  ·simp at h
  all_goals(subst h';simp at h)
 ·rintro w hw ⟨⟨g1,g2⟩,g3,g4,r,g5⟩;have n1:t.cb≠bc:=λe=>by rw[e]at g3;rw[g3]at g5;simp at g5
  have n2:t.sb≠bc:=λe=>by rw[e]at g4;rw[g4]at g5;simp at g5
  refine⟨⟨(E8 w _ (Ne.symm hb.nu)).trans g1,(E8 w _ (Ne.symm hb.nw)).trans g2⟩,(E8 w _ n1).trans g3,(E8 w _ n2).trans g4,.string (B (rest++ch)),?_⟩;simp only[World.setCell,Array.getElem?_modify,if_true,g5,Option.map_some];simp
 refine Duo.dW.ctl tj hf (λw=>stepG_region_end) rfl rfl ?_;refine Duo.dW.ctl tj hf (λw=>stepG_block) rfl rfl ?_;refine Duo.dW.ctl tj hf (λw=>stepG_loop) rfl rfl ?_;exact Duo.dW.here ⟨rfl,cw,I,_,qd,ha.put (dst:=none) rfl undef,hA.w,rfl⟩
end
variable {hc:t.Ok t.cb}{hs:t.Ok t.sb}{hb:t.Ok bc}
def Tk.agn{g:Goroutine}{m:Machine}{T:Trace}(hu:U.f t.ub=none)(nC:(t.B1 (λb=>b=t.wg) bc l hc hs hb).St h x s g U m T):(t.B1 t.HK bc l hc hs hb).St h x s g U m T:=by
 obtain⟨gs,w,sl,q,au2,n,y,rfl,e1,e2,e3,e4,e5,e6,e7⟩:=nC;refine⟨gs,w,sl,q,λb=>au2 b\/b=t.ub,n,y,rfl,e1,e2,e3,⟨e4.lE,e4.gU,e4.above,e4.d0,e4.dj,e4.k,e4.chans,e4.ng,e4.rN,e4.nr⟩,e5,⟨e6.heap,λb hb=>?_,λb hb=>?_⟩,λb hb=>?_⟩
 ·rcases hb with hb|rfl
  ·exact e6.fP b hb
  ·exact hu
 ·rcases hb with hb|rfl
  ·exact e6.low b hb
  ·have:w.heap[t.ub]? =some _:=e4.k.1.1;exact(Array.getElem?_eq_some_iff.1 this).1
 ·rcases hb with(rfl|rfl)|hb|hb
  ·exact .inr rfl
  ·exact .inl (e7 _ (.inl rfl))
  ·exact .inl (e7 _ (.inr (.inl hb)))
  ·exact .inl (e7 _ (.inr (.inr hb)))
def Tk.alk:(t.B1 t.HK bc l hc hs hb).Next t.D:=⟨rfl,rfl,rfl,rfl,rfl,rfl,λ_ h=>h.1,λ_ h=>h⟩
section
variable {h:Nat}{U:Hp}{N:Nat}{b:Frame}{a:Act}{cs:List Frame}{I:av}
variable (F:FS){t:Tk}{φ:Hp}{kb:Nat}{l:List Value}{ch:List UInt8}{hc:t.Ok t.cb}{hs:t.Ok t.sb}{hb:t.Ok F.bc}
def adg {a:F.γ}{kL U:Hp}{m:Machine}{T:Trace}(gq:F.oH a ch)(hI:F.au1 a kL)(hd:kL.eC φ)(nE:Bx F t.cb t.sb t.db t.c1 t.c3 φ)(gv:(kL.bL φ).f t.ub=none)(hp:F.ph a≠5)(hle:(kL.bL φ).le U)(hW:Bw t F.bc kb l ch U)(hn:ch.length<=4611686018427387904)
 (hl:l[3]? =some (.string (B (F.rest a)))) (mF:Cn F.bg (F.ph a) (F.fr a) l) (Td:kL.f F.bc=some (.cells l.toArray 90 (0,0)))
 (nC:(t.B1 (λb=>b=t.wg) F.bc l hc hs hb).St t.j 0 (t.sS (F.fr a)) (born prog (call56 t.wg t.cb kb t.sb t.ub t.db)) U m T):
 ∃N m' T' a' ae g' cw,runNT prog N m T=(.next m',T')/\F.Loop (F.add a ch) a'/\F.au1 a' ae/\ae.eC φ/\CW t.wg cw/\yK t.cb t.sb t.ub t.db t.wg t.cs g'/\t.A.St 0 t.j (jk F.bc t.c1 t.c2 t.c3 cw) g' (ae.bL φ) m' T':=by
 have Eg:=F.small hI;have tj:(t.B1 (λb=>b=t.wg) F.bc l hc hs hb).gC t.j 0:=.inr ⟨rfl,rfl⟩;obtain⟨N1,m1,T1,g1,J,r1,mR,rfl,cw,I,ac,qd,ha,hFw,rfl⟩:=Y9 (t:=t) (HK:=λb=>b=t.wg) (hc:=hc) (hs:=hs) (hb:=hb) (fr:=F.fr a) hW hl aa m T nC;have Ru:=F.grow ch gq hI Td;obtain⟨cX,so⟩:∃cX,cX=kL.set F.bc (.cells (l.set 3 (.string (B (F.rest a++ch)))).toArray 90 (0,0)):=⟨_,rfl⟩;rw[<-so]at Ru
 have hd1:cX.eC φ:=by rw[so];exact JM hd (Qj hd Td)
 have kC:(cX.bL φ).le (U.setCell ⟨F.bc,3,none⟩ (.string (B (F.rest a++ch)))):=by
  intro b o dJ;rw[so,<-Ij]at dJ;by_cases e:b=F.bc
  ·subst e;simp only[Hp.set,if_true,Option.some.injEq]at dJ;subst dJ;simp[Hp.setCell,Hp.modify,hW.b,y8]
  ·simp only[Hp.set,if_neg e]at dJ;simp only[Hp.setCell,Hp.modify,if_neg e];exact hle b o dJ
 have ahE:(cX.bL φ).f t.ub=none:=by rw[so,<-Ij];have:t.ub≠F.bc:=λe=>hb.nu e.symm;simpa[Hp.set,this]using gv
 obtain⟨gs,w,sl,q,au2,n0,y,rfl,e1,e2,e3,e4,e5,e6,e7⟩:=mR;have sH:(t.B1 t.HK F.bc l hc hs hb).St t.j 0 (t.sS (F.fr a)) _ (cX.bL φ) (crowd gs w sl) T1:=Tk.agn ahE ⟨gs,w,sl,q,au2,n0,y,rfl,e1,e2,e3,e4,e5,e6.iQ kC,e7⟩;clear e1 e2 e3 e4 e5 e6 e7;obtain⟨cg,w',bE,q',J',n',y',em,e1,e2,e3,e4,e5,e6,e7⟩:=sH;obtain⟨t',Hi⟩:∃t':Tk,t'={t with cw:=cw}:=⟨_,rfl⟩;have DV:(t.j==0)=false:=by have:=t.hj;simp;omega
 have fW:(t.B1 t.HK F.bc l hc hs hb).Fits (jk F.bc t.c1 t.c2 t.c3 cw):=by
  intro cc h;simp only[jk,List.mem_toArray,List.mem_cons,List.not_mem_nil,or_false]at h;rcases h with rfl|rfl
  ·exact⟨t.c1,.inl rfl,rfl⟩
  ·exact⟨t.c3,.inr (.inr rfl),rfl⟩
 have hh:=We (main:=t.j==0) (K:=(t.B1 t.HK F.bc l hc hs hb).KW) (Still:=(t.B1 t.HK F.bc l hc hs hb).Still) (Bd:=(t.B1 t.HK F.bc l hc hs hb).B) (c1:=t.c1) (c2:=t.c2) (c3:=t.c3) (cw:=cw) ha hFw;have t0j:(t.B1 t.HK F.bc l hc hs hb).gC 0 t.j:=.inl ⟨rfl,rfl⟩
 obtain⟨N2,m2,T2,r2,Mq⟩:=(t.B1 t.HK F.bc l hc hs hb).meet (a:=0) (b:=t.j) t0j (sa:=t.sS (F.fr a)) (sb:=jk F.bc t.c1 t.c2 t.c3 cw) (c:=t.c1) (kk:=0) (v:=.int .i64 (F.fr a)) (.inl rfl) rfl rfl fW (by rfl) (λm cc hm cT=>by
  rcases m with _|_|m
  ·exact absurd rfl hm
  ·simp[jk]at cT;subst cT
   simp only[rcase,ne_eq,Value.chan.injEq,Option.some.injEq]
   exactλe=>t.d13 e.symm
  ·simp[jk]at cT) (λcc cT=>by
  simp only[jk,List.mem_toArray,List.mem_cons,List.not_mem_nil,or_false]at cT
  rcases cT with rfl|rfl<;>rfl) (.inr ⟨rfl,rfl⟩) (sl:=bE) e2 e1 e3 (.inl ⟨_,rfl,hh⟩) e4 e5 e6 e7 (.inr aa)
 obtain⟨gb,DI,rD⟩:=Mq.stay Tk.alk (λl h=>.inl h) (λga h=>t.Sd h);have e:commResult (jk F.bc t.c1 t.c2 t.c3 cw).cases (jk F.bc t.c1 t.c2 t.c3 cw).shape ((0:Nat):Int) (.int .i64 (F.fr a)) true=.tuple #[.int .i64 0,.bool true,.int .i64 (F.fr a),.agg #[]]:=Tk.Vr {t with cw:=cw} (F.fr a) F.bc
 rw[e,<-F.Q1 a ch]at rD;obtain⟨N3,m3,T3,a',ae,g',r3,iA,A9,Dz,hT3,Cg⟩:=aqX F {t with cw:=cw} nE _ (F.add a ch) cX m2 T2 gb (Nat.lt_succ_self _) (by rw[F.UT];exact hp) Ru hd1 DI rD;rw[em]at r1;exact⟨_,m3,T3,a',ae,g',cw,runNT_then (runNT_then r1 r2) r3,iA,A9,Dz,qd,hT3,Cg⟩
end
end
section
open Go.Proofs
open Go.ConcX (OfWg)
open Go.ConcX
section
variable {h:Nat}{x:Nat}{g:Goroutine}{N:Nat}{ops:Array Oper}{b:Frame}{a:Act}{k:List Item}{cs:List Frame}{ds:List Deferred}{I:av}
variable {P:Program}{main:Bool}{R:World->World->Prop}{D:World->World->Array Event->Prop}{Stop:Goroutine->World->Prop}{Kn:World->Prop}
def qM (bw:∀w w',R w w'->Kn w->Kn w')(hD:∀w,D w w #[]){g g':Goroutine}{n:Nat}(hr:g.status=.running)(h:∀w,stepG P main g w=.go g' w #[])(k:∀w,Kn w->Goes P main R D Stop n g' w):∀w,Kn w->Goes P main R D Stop (n+1) g w:=
 λw hw=>Goes.step hr λw₁ ao7=>by rw[h w₁];exact⟨hD w₁,k w₁ (bw _ _ ao7 hw)⟩
def aez (bw:∀w w',R w w'->Kn w->Kn w')(hD:∀w,D w w #[]){N n:Nat}{ops:Array Oper}{b:Frame}{k:List Item}{cs:List Frame}(hk:b.kind≠.early){ds:List Deferred}{Q:av->Prop}{rest:List Nat}{Ok:Addr->Prop}
 (hn:∀I a,cM N a I ds->Q I->∀w,Kn w->Goes P main R D Stop n (G (b.at a (.inRegion ops rest::k)) cs) w):
 ∀(p:List Nat) (I:av) (a:Act),dM P N ops (λκ=>κ=⟨λ_=>none⟩) Ok Q p I->cM N a I ds->∀w,Kn w->Goes P main R D Stop (n+p.length) (G (b.at a (.inRegion ops (p++rest)::k)) cs) w:=by
 intro p
 induction p with
 |nil=>exactλI a h ha=>hn I a ha h
 |cons i p ih=>
  intro I a h ha;simp only[dM]at h
  cases ho:ops[i]? with
  |none=>rw[ho]at h;exact h.elim
  |some o=>
   rw[ho]at h;obtain⟨hd,hg,hs,_,v,hv,h⟩:=h;rw[List.length_cons,<-Nat.add_assoc];refine qM bw hD (g':=G (b.at (a.put o.dst v) (.inRegion ops (p++rest)::k)) cs) rfl (λw=>?_) (ih _ _ h (ha.put hd v));obtain⟨es,h1,h2⟩:=Nh (main:=main) (κ:=⟨λ_=>none⟩) (k:=k) (cs:=cs) (rest:=p++rest) ho hg hs (hv _ rfl) hk ha w (λb o hb=>by cases hb)
   have:es= #[]:=by
    rw[Array.eq_empty_iff_forall_not_mem];intro e he;obtain⟨x,_,_,hx⟩:=h2 e he
    cases hx
   rw[List.cons_append,h1,this]
end
section
variable {h:Nat}{N:Nat}{a:Act}{cs:List Frame}{ds:List Deferred}{I:av}
variable [Payload]{Wg C Low:Nat}[Shy Wg C]{vals:List Value}{bc c1 c2 c3:Nat}{cw:List Frame}
def ab1 (w:World):DCs (λ_=>True) Wg C w w #[]:=⟨⟨rfl,rfl,rfl,rfl,λ_ _=>rfl⟩,al⟩
def an9 {a:Act}(ha:a.defers=[]):QuitsD prog 2 0 (G {mZ.at a []with mode:=.returning} [bot]):=by
 refine QuitsD.ctl (g':=G bot []) rfl (λw=>?_) ?_
 ·simp[G,stepG,unwind,doReturn,results,Frame.at,mZ,baseD,bot,func56,f56,seen,GStep.after,goexitEntry,ha]
 refine QuitsD.ctl (g':={G bot []with status:=.finished}) rfl (λw=>?_) ⟨rfl,rfl⟩;simp[G,stepG,unwind,bot,goexitEntry,Frame.catches];rfl
def Vv (hW:Wg<Low)(hC:C<Low)(xI:C≠Wg)(qd:CW Wg cw){cS:Goroutine}(hg:FL bc c1 c2 c3 cw cS){w:World}(hK:KCa 131 Wg w/\Full C vals w):
 ∃n,Goes prog false (RCa 131 Wg Low) (DCs (λ_=>True) Wg C) (AtR0 prog 131 Wg C Low vals) n (Go.Conc.served cS (.tuple #[.int .i64 1,.bool false,.int .i64 0,.agg #[]])) w:=by
 obtain⟨I,ac,ha,hF,rfl⟩:=hg;obtain⟨a6,hd6,hs6,rfl⟩:=qd;obtain⟨ps,af,ho⟩:=M0;have bw:∀w w',RCa 131 Wg Low w w'->KCa 131 Wg w/\Full C vals w->KCa 131 Wg w'/\Full C vals w':=λw w' r h=>Go.ConcX.Gen.ka_rely (L:=pJ) hC xI h r;have hD:=ab1 (Wg:=Wg) (C:=C)
 have e:Go.Conc.served (G (gO.at ac (.inRegion q3 [0,1,2,3]:: .code (.block 2 mr)::kw)) [mZ.at a6 [.inRegion kV [7]],bot]) (.tuple #[.int .i64 1,.bool false,.int .i64 0,.agg #[]])=
  G (gO.at (ac.put (some 21) (.tuple #[.int .i64 1,.bool false,.int .i64 0,.agg #[]])) (.inRegion q3 ([1,2,3]++[]):: .code (.block 2 mr)::kw)) [mZ.at a6 [.inRegion kV [7]],bot]:=by
  have:=Frame.finish_at gO ac q3 0 [1,2,3] (.code (.block 2 mr)::kw) (.tuple #[.int .i64 1,.bool false,.int .i64 0,.agg #[]]);rw[ho]at this;simp only[Go.Conc.served,G,this];rfl
 rw[e];have dn:cM 30 _ _ []:=ha.put (dst:=some 21) ai (.tuple #[.int .i64 1,.bool false,.int .i64 0,.agg #[]])
 suffices key:∃n,∀w,KCa 131 Wg w/\Full C vals w->Goes prog false (RCa 131 Wg Low) (DCs (λ_=>True) Wg C) (AtR0 prog 131 Wg C Low vals) n (G (gO.at (ac.put (some 21) (.tuple #[.int .i64 1,.bool false,.int .i64 0,.agg #[]])) (.inRegion q3 ([1,2,3]++[]):: .code (.block 2 mr)::kw)) [mZ.at a6 [.inRegion kV [7]],bot]) w by obtain⟨n,hn⟩:=key;exact⟨n,hn w hK⟩
 refine⟨32+[1,2,3].length,?_⟩;refine aez (n:=32) (N:=30) (ds:=[]) bw hD (by simp[gO]) (Ok:=λ_=>True) (Q:=λI=>I 23=.bool false/\I 24=.bool true) (λI a ha h=>?_) [1,2,3] _ _ ?_ dn
 rotate_left
 ·simp only[q3,pr,lf,pL,f58,Option.getD_some,aR,bO,dT,bN,aB];refine apH (vs:=#[.int .i64 1,.bool false,.int .i64 0,.agg #[]]) (v:=.int .i64 1) rfl ai (by simp[ak,up]) rfl ?_;refine E9 (v:=.bool false) rfl ai (by simp[ak,up,cK]) ?_;refine E9 (v:=.bool true) rfl ai (by simp[ak,up,cK]) ?_;exact⟨by simp[up],by simp[up]⟩
 obtain⟨Kh,h24⟩:=h;refine qM bw hD rfl (λw=>stepG_region_end) ?_;refine qM bw hD rfl (λw=>stepG_block) ?_;rw[PE];refine qM bw hD rfl (λw=>stepG_cond (t:=false) (by rw[ha.eval];exact Kh)) ?_;refine qM bw hD rfl (λw=>stepG_cond (t:=true) (by rw[ha.eval];exact h24)) ?_;refine qM bw hD rfl (λw=>stepG_ret') ?_;refine qM bw hD rfl (λw=>stepG_leave (v:=.tuple #[]) rfl ha.defers func58 (by simp[results,f58]) (by simp[results,f58])) ?_;obtain⟨ps,af,cB,ty,ho7⟩:=UB
 have e7:(mZ.at a6 [.inRegion kV [7]]).finish (.tuple #[])=mZ.at (a6.put (some 13) (.tuple #[])) [.inRegion kV []]:=by have:=Frame.finish_at mZ a6 kV 7 [] [] (.tuple #[]);rw[ho7]at this;exact this
 rw[e7];refine qM bw hD rfl (λw=>stepG_region_end) ?_;refine qM bw hD rfl (λw=>stepG_end) ?_;have Bl:(a6.put (some 13) (.tuple #[])).defers=[dcall 57 #[pV Wg]]:=hd6;refine qM bw hD rfl (λw=>stepG_unwind_enter (ds:=[]) (f:=57) (args:=#[pV Wg]) (fn:=f57) (c:=f57.body.getD .skip) Bl func57 ah ah) ?_;intro w hw;have:=Go.ConcX.Gen.doneD (P:=prog) (L:=pJ) ID (Mine:=λ_=>True) (Wg:=Wg) (C:=C) (Low:=Low) (vals:=vals) hW hC xI (c:={mZ.at ⟨(a6.put (some 13) (.tuple #[])).tmps,[]⟩ []with mode:=.returning}) (cs:=[bot]) (qt:=2) rfl (an9 rfl) w hw;exact this
end
noncomputable def vh:Array Oper:=bN (bO rE)
noncomputable def mi:Array Oper:=bN (aR rE)
def aqS:rE=.seq (.region 11 vh false) (.region 12 mi false):=ah
def ama:∃ps af,vh[0]? =some {dst:=some 50,op:=.load 121 (.tmp 6),type:=121,pos:=ps,after:=af,guard:=none}:=⟨_,_,by simp only[vh,rE,iK,jo,f40,Option.getD_some,aR,bO,bN];rfl⟩
def amb:∃ps af cB ty,vh[1]? =some {dst:=none,op:=.call {callee:=.builtin .close,args:=#[.tmp 50],argTypes:=cB},type:=ty,pos:=ps,after:=af,guard:=none}:=⟨_,_,_,_,by simp only[vh,rE,iK,jo,f40,Option.getD_some,aR,bO,bN];rfl⟩
def MN:∃ps af cB ty,mi[0]? =some {dst:=some 51,op:=.call {callee:=.value (.func 60),args:=#[.tmp 7],argTypes:=cB},type:=ty,pos:=ps,after:=af,guard:=none}:=⟨_,_,_,_,by simp only[mi,rE,iK,jo,f40,Option.getD_some,aR,bN];rfl⟩
section
variable {h:Nat}{x:Nat}{s:Seat}{g:Goroutine}{a:Act}{k:List Item}
variable {P:Program}{main:Bool}{K K':World->Prop}{Still:Loc->Prop}{B:Nat}{s:Seat}
def AtIn.more (h:∀w,K' w->K w){g cS:Goroutine}(a:AtIn P main K Still B s g cS):AtIn P main K' Still B s g cS:=by obtain⟨a1,a2,a3,a4,a5,es,a6,a7⟩:=a;exact⟨a1,a2,a3,a4,a5,es,a6,λw hw=>a7 w (h w hw)⟩
def Way.more (h:∀w,K' w->K w):∀{n:Nat} {g:Goroutine},Way P main K Still B s n g->Way P main K' Still B s n g
 |0,_,⟨cS,a⟩=>⟨cS,AtIn.more h a⟩
 |n+1,g,a=>a.imp (λ⟨cS,x⟩=>⟨cS,AtIn.more h x⟩) λ⟨hr,x⟩=>⟨hr,λw hw=>by
  have:=x w (h w hw)
  cases hg:stepG P main g w<;>rw[hg]at this<;>first|exact this.elim|skip
  exact⟨this.1,this.2.1,Way.more h this.2.2⟩⟩
def eE.more (h:∀w,K' w->K w){n:Nat}{g:Goroutine}(a:eE P main K Still B s n g):eE P main K' Still B s n g:=by
 rcases a with⟨k,e,a⟩|⟨e,pX,cS,e2,a⟩
 ·exact .inl ⟨k,e,a.more h⟩
 ·exact .inr ⟨e,pX,cS,e2,AtIn.more h a⟩
end
variable {k:List Item}
structure W5 (wg:Nat) (w0 w:World):Prop where
 os:w.os=w0.os
 tape:w.tape=w0.tape
 output:w.output=w0.output
 size:w.heap.size=w0.heap.size
 block:∀k,k≠wg->w.heap[k]? =w0.heap[k]?
abbrev yQ:Payload:=⟨70⟩
abbrev Ov:Payload:=⟨121⟩
variable {cs:List Frame}
def ajd(t:Tk)(a:Act)(w0:World)(g:Goroutine)(w:World):Prop:=g=G (bV.at (a.put ((mi[0]?).bind (·.dst)) (.tuple #[])) [.inRegion mi []]) t.cs/\W5 t.wg w0 w
def amx{t:Tk}{b:Nat}(hb:t.Ok b)(x:Addr)(e:x.block=b):¬t.S (.cell x):=by
 rintro⟨y,e2,h⟩;obtain rfl:y=x:=by simpa using e2.symm
 rcases h with h|h
 ·rw[e]at h;exact hb.nj h
 ·rw[e]at h;exact hb.nw h
@[reducible] def wN(t:Tk)(a:Act)(w0:World)(b:Nat)(hb:t.Ok b)(hw:t.wg<w0.heap.size)(hB:t.Bd<=w0.heap.size):Shy t.wg b:=
 shyOf t.S w0.heap.size t.wg b (ajd t a w0) hw (Nat.lt_of_lt_of_le hb.lt hB) (amx hb)
variable {g:Goroutine}{t:Tk}{a:Act}{w0:World}{vb:Value}
def aje(hc:t.Ok t.cb)(hw:t.wg<w0.heap.size)(hB:t.Bd<=w0.heap.size)(hb:w0.heap[t.cb]? =some (.cells #[vb] 70 (0,0))):
 letI:=yQ;letI:=wN t a w0 t.cb hc hw hB
 ∀g w,Go.ConcX.Gen.AnchW7 pJ (λw=>Aside2 t.cb t.wg w0 w) t.wg t.cb [vb] (bV.at a [.inRegion mi [0]]) t.cs g w->
 ∃m,Goes prog true (RPa 131 t.wg t.cb [vb]) (DPi (λ_=>True) t.wg t.cb w0.heap.size) (AtW1 prog 131 t.wg t.cb w0.heap.size [vb] (λ_=>True) (Go.ConcX.Gen.AnchW7 pJ (λw=>Aside2 t.cb t.wg w0 w) t.wg t.cb [vb] (bV.at a [.inRegion mi [0]]) t.cs) λ_ _=>True) m g w:=by
 letI:=yQ;letI:=wN t a w0 t.cb hc hw hB
 intro g w h;refine Go.ConcX.Gen.waitRound (P:=prog) (L:=pJ) ID (Low:=w0.heap.size) (vals:=[vb]) (F:=λw=>Aside2 t.cb t.wg w0 w) (mT:=0) hc.nw (λw w' h1 h2=>h2.trans h1) (λw hf hg hfl=>?_) g w h;intro w₁ hr;obtain⟨d,rfl⟩:=hr;refine⟨rfl,rfl,hf.os,hf.tape,hf.output,hf.size,λk hk=>?_⟩;by_cases e:k=t.cb
 ·subst e;exact(hfl rfl).trans hb.symm
 ·exact hf.block k e hk
variable {h x:Nat}{s:Seat}
noncomputable def jn(t:Tk)(bc:Nat)(a:Act)(w0:World)(vb vd:Value)(hc:t.Ok t.cb)(hd:t.Ok t.db)(hu:t.ub<w0.heap.size)(h1:t.c1<w0.heap.size)(GI:t.cb≠t.db)(hw:t.wg<w0.heap.size)(h3:t.c3<w0.heap.size)(hB:t.Bd<=w0.heap.size)(qd:CW t.wg t.cw)(hb:w0.heap[t.cb]? =some (.cells #[vb] 70 (0,0))):Jn prog:=
 {ty:=131
  Wg:=t.wg
  C:=t.cb
  C':=t.db
  Low:=w0.heap.size
  B0:=t.Bd
  j:=t.j
  au1:=yQ
  I':=Ov
  Y:=wN t a w0 t.cb hc hw hB
  Y':=wN t a w0 t.db hd hw hB
  vals:=[vb]
  lM:=[vd]
  S:=t.S
  vE:= @Go.ConcX.Gen.AnchW7 yQ pJ (λw=>Aside2 t.cb t.wg w0 w) t.wg t.cb (wN t a w0 t.cb hc hw hB) [vb] (bV.at a [.inRegion mi [0]]) t.cs
  Z:=λw=>w.heap[t.ub]? =some (.cells #[.chan (some t.c2)] 120 (0,0))/\(∃k,w.heap[t.c3]? =some (.chan 0 #[] true k k false))/\Open t.c1 w
  s:=jk bc t.c1 t.c2 t.c3 t.cw
  kk:=1
  c3:=t.c3
  z:=.agg #[]
  hj:=t.hj
  hW:=hw
  hC:=Nat.lt_of_lt_of_le hc.lt hB
  xH:=Nat.lt_of_lt_of_le hd.lt hB
  xI:=hc.nw
  Ko:=hd.nw
  Gt:=GI
  lv:=h3
  ok:=λ_ h=>h
  HS:=λ_ h=>h
  Ky:=λl ⟨x,e,h⟩=>⟨x,e,.inr h⟩
  Rs:=λg w ⟨T,e,_⟩=>by rw[e];rfl
  Rr:=aje hc hw hB hb
  hZ:=λw w' h ⟨z1,⟨k,z2⟩,k',z3⟩=>⟨(h _ hu t.gv.2.2.2.1).trans z1,⟨k,(h _ h3 (Ne.symm t.Hq.2.2)).trans z2⟩,k',(h _ h1 (Ne.symm t.Hq.1)).trans z3⟩
  RF:=λw ⟨z1,z2,z3⟩=>⟨z2,λm cc hm cT=>by
   rcases m with _|_|m
   ·simp[jk]at cT;subst cT
    exact⟨rfl,t.c1,rfl,z3⟩
   ·exact absurd rfl hm
   ·simp[jk]at cT⟩
  hk:=rfl
  serve:=λcS w hh hk h1 h2=>by
   have e:commResult (jk bc t.c1 t.c2 t.c3 t.cw).cases (jk bc t.c1 t.c2 t.c3 t.cw).shape ((1:Nat):Int) (.agg #[]) false=.tuple #[.int .i64 1,.bool false,.int .i64 0,.agg #[]]:=by simp[commResult,jk,rcase,goInt,Array.zipIdx,Array.filter]
   rw[e]
   exact⟨@Vv yQ t.wg t.cb w0.heap.size (wN t a w0 t.cb hc hw hB) [vb] bc t.c1 t.c2 t.c3 t.cw hw (Nat.lt_of_lt_of_le hc.lt hB) hc.nw qd cS hh w ⟨hk,h1⟩,
    @Vv Ov t.wg t.db w0.heap.size (wN t a w0 t.db hd hw hB) [vd] bc t.c1 t.c2 t.c3 t.cw hw (Nat.lt_of_lt_of_le hd.lt hB) hd.nw qd cS hh w ⟨hk,h2⟩⟩}
end
section
open Go.Proofs
open Go.ConcX
variable {a:Act}{cs:List Frame}{I:av}{t:Tk}{U:Hp}{g:Goroutine}
def aqT{E:Env prog}(zq:U.f t.db=some (.cells #[.chan (some t.c3)] 121 (0,0)))(hT:yK t.cb t.sb t.ub t.db t.wg t.cs g):
 ax E g U λg J=>J=U/\∃I a,cM 52 a I []/\Fx t.cb t.sb t.ub t.db t.wg I/\I 50=.chan (some t.c3)/\g=G (bV.at a (.inRegion vh [1]:: .code (.region 12 mi false)::[])) t.cs:=by
 obtain⟨I,a,ha,hF,rfl⟩:=hT;rw[aqS];refine ax.ctl (λw=>stepG_seq) rfl rfl ?_;refine ax.ctl (λw=>stepG_region) rfl rfl ?_;have hr:List.range vh.size=[0]++[1]:=ah;rw[hr];obtain⟨ps,af,ho⟩:=ama
 refine(M9 (E:=E) (N:=52) (ops:=vh) (F:=λκ=>κ.f t.db=some (.cells #[.chan (some t.c3)] 121 (0,0))) (Ok:=λ_=>True) (Q:=λI=>Fx t.cb t.sb t.ub t.db t.wg I/\I 50=.chan (some t.c3)) zq (by simp[bV]) [1] [0] (ds:=[])
  (pH (a:=⟨t.db,0,none⟩) (v:=.chan (some t.c3)) ho ai hF.d ah ah trivial (λκ h=>oS h rfl) ⟨hF.up ai _,by simp[up]⟩) ha).bind ?_
 rintro g J ⟨rfl,aC,a',dI,⟨hF',rQ⟩,rfl⟩;exact ax.here ⟨rfl,aC,a',dI,hF',rQ,rfl⟩
def YM:f60.body=some (Go.ConcX.Gen.body_wait pJ):=ah
def Uc:(f60.name== "runtime.NumGoroutine")=false:=ah
def Pm:f60.body.isNone=false:=ah
def t60:f60.ntmps=84:=ah
def XZ(wg:Nat):(#[pV wg]++Array.replicate (84-1) undef:Array Value)= #[pV wg,undef,undef,undef,undef,undef,undef,undef,undef,undef,undef,undef,undef,undef,undef,undef,undef,undef,undef,undef,undef,undef,undef,undef,undef,undef,undef,undef,undef,undef,undef,undef,undef,undef,undef,undef,undef,undef,undef,undef,undef,undef,undef,undef,undef,undef,undef,undef,undef,undef,undef,undef,undef,undef,undef,undef,undef,undef,undef,undef,undef,undef,undef,undef,undef,undef,undef,undef,undef,undef,undef,undef,undef,undef,undef,undef,undef,undef,undef,undef,undef,undef,undef,undef]:=ah
def arC{wg:Nat}(h:a.eval (.tmp 7)=pV wg)(w:World):stepG prog true (G (bV.at a [.inRegion mi [0]]) cs) w=
 .go (G ((base 60).at {tmps:=#[pV wg,undef,undef,undef,undef,undef,undef,undef,undef,undef,undef,undef,undef,undef,undef,undef,undef,undef,undef,undef,undef,undef,undef,undef,undef,undef,undef,undef,undef,undef,undef,undef,undef,undef,undef,undef,undef,undef,undef,undef,undef,undef,undef,undef,undef,undef,undef,undef,undef,undef,undef,undef,undef,undef,undef,undef,undef,undef,undef,undef,undef,undef,undef,undef,undef,undef,undef,undef,undef,undef,undef,undef,undef,undef,undef,undef,undef,undef,undef,undef,undef,undef,undef,undef],defers:=[]} [.code (Go.ConcX.Gen.body_wait pJ)]) (bV.at a [.inRegion mi [0]]::cs)) w #[]:=by
 obtain⟨MZ,Jk,Pg,V8,zI⟩:=MN;have kA:(#[Operand.tmp 7]).map a.eval= #[pV wg]:=by simp[h]
 rw[stepG_enter (f:=60) (args:=(#[Operand.tmp 7]).map a.eval) zI rfl (by simp[bV]) (run_call_body rfl func60 Uc Pm),enter_at (fn:=f60) _ func60 YM]
 have:listed prog bV.fn a {dst:=some 51,op:=.call {callee:=.value (.func 60),args:=#[.tmp 7],argTypes:=Pg},type:=V8,pos:=MZ,after:=Jk,guard:=none} w= #[]:=by unfold listed;rw[events_call_body rfl func60 Uc Pm];exact seen_none _ _
 rw[this,kA,t60,<-XZ];rfl
def aks:(prog.funcs[40]?).any (·.norace)=false:=ah
variable {N bc:Nat}{m:Machine}{T:Trace}
def adf(hW:t.IE=wgBlock 131 KK 0)(hc:t.Ok t.cb)(hd:t.Ok t.db)(GI:t.cb≠t.db)(qd:CW t.wg t.cw){vb:Value}(mE:U.f t.cb=some (.cells #[vb] 70 (0,0)))(zq:U.f t.db=some (.cells #[.chan (some t.c3)] 121 (0,0)))(hT:yK t.cb t.sb t.ub t.db t.wg t.cs g)(nC:t.A.St 0 t.j (t.sW bc) g U m T):
 ∃N m' T' a,runNT prog N m T=(.next m',T')/\a.defers=[]/\yT prog t.W (G (bV.at a [.inRegion mi []]) t.cs) U m' T':=by
 have t0:t.A.gC 0 t.j:=.inl ⟨rfl,rfl⟩;obtain⟨N1,m1,T1,g1,J,r1,mR,rfl,I,a,ha,hF,rQ,rfl⟩:=aqT (E:=t.A.env t.JL t0 (t.C5 bc)) zq hT m T nC;obtain⟨ps,af,cB,ty,ho⟩:=amb
 obtain⟨N2,gs,w0,sl,T2,q,au2,n,y,r2,cl⟩:=t.A.shut (t.C5 bc) (λcc cT=>by
  simp only[jk,List.mem_toArray,List.mem_cons,List.not_mem_nil,or_false]at cT
  rcases cT with rfl|rfl<;>rfl) (c3:=t.c3) (kk:=1) (z:=.agg #[]) (.inr (.inr rfl)) (by rfl) mR (g':=G (bV.at (a.put none (.tuple #[])) (.inRegion vh []:: .code (.region 12 mi false)::[])) t.cs) rfl (by simp[mayWake,G,Frame.at,bV,ho]) rfl (λw k h=>Tk.LZ (.inr (.inr rfl)) h)
  (λw k hk=>stepG_close ho rfl (by simp[bV]) rfl (by rw[ha.eval];exact rQ) hk aks)
 obtain⟨e1,e2,e3,e4,e5,e6,e7,e8,e9,kO,⟨kc,CZ⟩,e12,JQ,e14,e15,AY,e17,hB⟩:=cl;have bl:∀{b:Nat} {o:Obj},w0.heap[b]? =some o->b<w0.heap.size:=λh=>(Array.getElem?_eq_some_iff.1 h).1;have hw:t.wg<w0.heap.size:=bl kO.2;have hu:t.ub<w0.heap.size:=bl kO.1;have h3:t.c3<w0.heap.size:=bl CZ;obtain⟨k1,G7⟩:=e12 t.c1 (.inl rfl) t.d13;have h1:t.c1<w0.heap.size:=bl G7;replace hB:t.Bd<=w0.heap.size:=hB;have hb:=AY.heap mE;have Bm:=AY.heap zq;have dI:=ha.put (dst:=none) rfl (.tuple #[]);obtain⟨a',hea⟩:∃a',a'=a.put none (.tuple #[]):=⟨_,rfl⟩;rw[<-hea]at dI e1
 have Kw:∃mn,MJ (jn t bc a' w0 vb (.chan (some t.c3)) hc hd hu h1 GI hw h3 hB qd hb) 1 0 mn (G (bV.at a' (.inRegion vh []:: .code (.region 12 mi false)::[])) t.cs) w0:=by
  letI:=yQ;letI:=wN t a' w0 t.cb hc hw hB
  refine⟨3+1+1+1,.a1 ?_⟩;have bw:∀w w',RPa 131 t.wg t.cb [vb] w w'->(Aside2 t.cb t.wg w0 w/\KPa 131 t.wg t.cb [vb] w)->(Aside2 t.cb t.wg w0 w'/\KPa 131 t.wg t.cb [vb] w'):=λw w' r h=>⟨h.1.trans r.aside,r.ka h.2⟩;have hD:∀w:World,DPi (λ_=>True) t.wg t.cb w0.heap.size w w #[]:=λw=>⟨λ_ _=>rfl,al⟩;have h0:Aside2 t.cb t.wg w0 w0/\KPa 131 t.wg t.cb [vb] w0:=⟨⟨rfl,rfl,rfl,rfl,λ_ _ _=>rfl⟩,.inl (by have:=kO.2;rw[hW]at this;exact this)⟩;refine qM (Kn:=λw=>Aside2 t.cb t.wg w0 w/\KPa 131 t.wg t.cb [vb] w) bw hD rfl (λw=>stepG_region_end) ?_ w0 h0;refine qM bw hD rfl (λw=>stepG_region) ?_;have hr:List.range mi.size=[0]:=ah;rw[hr];obtain⟨MZ,Jk,Pg,V8,zI⟩:=MN;refine qM bw hD rfl (g':=G ((base 60).at {tmps:=#[pV t.wg,undef,undef,undef,undef,undef,undef,undef,undef,undef,undef,undef,undef,undef,undef,undef,undef,undef,undef,undef,undef,undef,undef,undef,undef,undef,undef,undef,undef,undef,undef,undef,undef,undef,undef,undef,undef,undef,undef,undef,undef,undef,undef,undef,undef,undef,undef,undef,undef,undef,undef,undef,undef,undef,undef,undef,undef,undef,undef,undef,undef,undef,undef,undef,undef,undef,undef,undef,undef,undef,undef,undef,undef,undef,undef,undef,undef,undef,undef,undef,undef,undef,undef,undef],defers:=[]} [.code (Go.ConcX.Gen.body_wait pJ)]) (bV.at a' [.inRegion mi [0]]::t.cs)) (λw=>?_) ?_
  ·exact arC (by rw[dI.eval];simp[ak,aB,hF.w]) w
  ·intro w hw;exact Go.ConcX.Gen.waitStart (P:=prog) (L:=pJ) ID (Low:=w0.heap.size) (vals:=[vb]) (F:=λw=>Aside2 t.cb t.wg w0 w) (λw w' h1 h2=>h2.trans h1) w hw
 obtain⟨mn,Kw⟩:=Kw
 have hJ:JInv (jn t bc a' w0 vb (.chan (some t.c3)) hc hd hu h1 GI hw h3 hB qd hb) (7-0,n,Go.ConcN.sumTo gs.size q,rk 0 1,mn) (crowd gs w0 sl) T2:=by refine⟨gs,w0,sl,q,_,y,1,0,mn,0,0,n,none,rfl,e1,e2,Kw,.c0 e3 (eE.more (λw h=>h.1) e4) ⟨kO.1,⟨kc,CZ⟩,k1,G7⟩,⟨e5,e6,e7,e8,e9,jV.ofK (Still:=λ_=>False) e15 (λ_ h=>h) (λi hi=>?_),λ_=>hb,λ_=>Bm⟩,.inl ⟨aa,aa,by have:=kO.2;rw[hW]at this;exact this⟩,rfl,aa,rfl⟩;obtain⟨op,aS,KH⟩:=Option.map_eq_some_iff.1 hi;exact e14 op (Array.mem_of_getElem? aS) _ ⟨_,rfl,rfl⟩ KH
 obtain⟨N3,m3,T3,r3,Rl,w3,Ap,q3,a3,n3,rfl,z1,z2,z3,z4⟩:=ajg hJ
 letI:=yQ;letI:=wN t a' w0 t.cb hc hw hB
 obtain⟨N4,Rm,a4,w4,Nj,T4,q4,r4,y1,y2,⟨_,y3,y4⟩,y5,y6⟩:=walk_beside (P:=prog) (Shun:=t.S) (B:=w0.heap.size) (D:=DPj (λ_=>True) t.wg t.cb w0.heap.size) (λ_ _ es hD e he=>by
  obtain⟨f1,f2,f3,f4⟩:=evL_of_EvJ (Shun:=t.S) (B':=w0.heap.size) (λ_ h=>h) (hD.2 e he)
  exact⟨λx hx hs=>f1 x hx (.inl hs),f2,f3,f4⟩) _ n3 Rl a3 w3 Ap T3 q3 (Nat.le_refl _) z1 z3 z4 z2
 have j9:∀b,(t.Jh b\/b=t.wg)->au2 b:=λb h=>e17 b (.inr (.inr ⟨⟨b,0,none⟩,rfl,.inl ⟨_,rfl,h⟩⟩));refine⟨_,_,_,a'.put ((mi[0]?).bind (·.dst)) (.tuple #[]),runNT_then (runNT_then (runNT_then r1 r2) r3) r4,(by obtain⟨_,_,_,_,zI⟩:=MN;rw[zI];exact dI.defers),Rm,w4,Nj,q4,λb=>t.Jh b\/b=t.wg,rfl,?_,y5,?_,⟨λ{b o} h=>?_,λb h=>AY.fP b (j9 b h),λb h=>?_⟩,⟨y4.os.trans JQ.os,y4.tape.trans JQ.tape,y4.output.trans JQ.output⟩,λ_ _ _ h=>h.elim⟩
 ·rw[y2,y3]
 ·rw[y4.size];exact y6
 ·have aE:b≠t.wg:=λe=>by subst e;have:=AY.fP _ (j9 t.wg (.inr rfl));rw[this]at h;cases h
  rw[y4.block b aE];exact AY.heap h
 ·rw[y4.size];exact AY.low b (j9 b h)
end
section
open Go.Proofs
variable {b:Frame}{P:Program}{E:Env P}{U:Hp}{I:av}{ds:List Deferred}{ty:Nat}
def NV{t el:TypeId}{d:Nat}{ps:String}{af:Array Edge}{g:Option (Nat×Bool)}{nx:av->List Deferred->Hp->Prop}{pn:List PanicEntry->Hp->Prop}(hu:∃dir,P.underlying t=some (.chan dir el))(hi:(P.info? el).isSome=true)(h:∀b,U.f b=none->nx (up I d (.chan (some b))) ds (U.set b (.chan 0 #[] false 0 0 false))):wpOp E ⟨some d,.makeChan t (.const (.int .i64 0)),ty,ps,af,g⟩ I ds U nx pn:=by
 obtain⟨dir,hu⟩:=hu;obtain⟨i,hi⟩:=Option.isSome_iff_exists.1 hi;unfold wpOp execOp;simp only[Instr.makeChan,asInt,asIntOf,aG,bt,ak,eu,hu,gl,hi];rw[if_neg (by rw[show IntKind.i64.max=9223372036854775807 from rfl];simp)];simp only[aG,yH,bt];exact h
noncomputable def zY:Array Oper:=bN (bO (aR jo))
noncomputable def MO:Array Oper:=bN (bO jo)
noncomputable def ry:Code:=aR (aR jo)
def WL:jo=.seq (.region 0 MO false) (.seq (.region 1 zY true) ry):=ah
def nR:Obj:=.chan 0 #[] false 0 0 false
variable {s:Seat}{a:Act}
structure eg (U ae:Hp) (I:av) (sc sb ty:Nat) (lc la ls:Bool):Prop where
 c:lc=true->∃c,I sc=.chan (some c)/\U.f c=none/\ae.f c=some nR
 a:la=true->∃b,I sb=pV b/\U.f b=none/\ae.f b=some (.cells #[if ls=true then I sc else .chan none] ty (0,0))
 s:ls=true->lc=true/\la=true
variable {ae:Hp}{b:Nat}
def uj(h:U.le ae)(hb:ae.f b=none):U.f b=none:=by
 cases e:U.f b with
 |none=>rfl
 |some x=>rw[h b x e]at hb;cases hb
variable {o:Obj}
def Cd{x:Nat}{p:Obj}(hb:ae.f b=none)(hx:ae.f x=some p):(ae.set b o).f x=some p:=by
 have:x≠b:=λe=>by rw[e,hb]at hx;cases hx
 simpa[Hp.set,this]using hx
variable {aC:av}{sc sb:Nat}{lc la ls:Bool}
def eg.new(h:eg U ae I sc sb ty lc la ls)(hb:ae.f b=none)(h1:aC sc=I sc)(h2:aC sb=I sb):eg U (ae.set b o) aC sc sb ty lc la ls:=by
 refine⟨λe=>?_,λe=>?_,h.s⟩
 ·obtain⟨c,k1,k2,k3⟩:=h.c e;exact⟨c,h1.trans k1,k2,Cd hb k3⟩
 ·obtain⟨c,k1,k2,k3⟩:=h.a e;exact⟨c,h2.trans k1,k2,by rw[h1];exact Cd hb k3⟩
def eg.chan(h:eg U ae I sc sb ty false la ls)(hl:U.le ae)(hb:ae.f b=none)(h1:aC sc=.chan (some b))(h2:aC sb=I sb):eg U (ae.set b nR) aC sc sb ty true la ls:=by
 have hs:ls=false:=by
  cases e:ls with
  |false=>rfl
  |true=>exact absurd (h.s e).1 al
 subst hs;refine⟨λ_=>⟨b,h1,uj hl hb,by simp[Hp.set]⟩,λe=>?_,λe=>by cases e⟩;obtain⟨c,k1,k2,k3⟩:=h.a e;exact⟨c,h2.trans k1,k2,Cd hb (by simpa using k3)⟩
def eg.box(h:eg U ae I sc sb ty lc false ls)(hl:U.le ae)(hb:ae.f b=none)(h1:aC sc=I sc)(h2:aC sb=pV b):eg U (ae.set b (.cells #[.chan none] ty (0,0))) aC sc sb ty lc true ls:=by
 have hs:ls=false:=by
  cases e:ls with
  |false=>rfl
  |true=>exact absurd (h.s e).2 al
 subst hs;refine⟨λe=>?_,λ_=>⟨b,h2,uj hl hb,by simp[Hp.set]⟩,λe=>by cases e⟩;obtain⟨c,k1,k2,k3⟩:=h.c e;exact⟨c,h1.trans k1,k2,Cd hb k3⟩
def eg.st(h:eg U ae I sc sb ty true true ls){c:Value}(h0:I sb=pV b)(hc:I sc=c):eg U (ae.set b (.cells #[c] ty (0,0))) I sc sb ty true true true:=by
 obtain⟨b',k1,k2,k3⟩:=h.a rfl;rw[h0]at k1;simp only[Value.pointer.injEq,Option.some.injEq,Addr.mk.injEq,and_true]at k1;subst k1;refine⟨λ_=>?_,λ_=>⟨b,h0,k2,by simp[Hp.set,hc]⟩,λ_=>⟨rfl,rfl⟩⟩;obtain⟨x,j1,j2,j3⟩:=h.c rfl;refine⟨x,j1,j2,?_⟩;have:x≠b:=λe=>by rw[e,k3]at j3;simp[nR]at j3
 simpa[Hp.set,this]using j3
def eg.other(h:eg U ae I sc sb ty lc la ls){NI:Nat}{v v':Value}(hb:ae.f b=some (.cells #[v] NI (0,0)))(hty:NI≠ty):eg U (ae.set b (.cells #[v'] NI (0,0))) I sc sb ty lc la ls:=by
 refine⟨λe=>?_,λe=>?_,h.s⟩
 ·obtain⟨c,k1,k2,k3⟩:=h.c e;have:c≠b:=λe=>by rw[e,hb]at k3;simp[nR]at k3
  exact⟨c,k1,k2,by simpa[Hp.set,this]using k3⟩
 ·obtain⟨c,k1,k2,k3⟩:=h.a e;have:c≠b:=λe=>by rw[e,hb]at k3;simp at k3;exact hty k3.2
  exact⟨c,k1,k2,by simpa[Hp.set,this]using k3⟩
structure FM (U:Hp) (r2 r3:Value) (L:Nat->Bool) (I:av) (ds:List Deferred) (ae:Hp):Prop where
 ds:ds=[]
 r2:I 2=r2
 r3:I 3=r3
 le:U.le ae
 t0:eg U ae I 9 4 119 (L 0) (L 3) (L 6)
 t1:eg U ae I 10 5 120 (L 1) (L 4) (L 7)
 t2:eg U ae I 11 6 121 (L 2) (L 5) (L 8)
 n01:L 0=true->L 1=true->I 9≠I 10
 n02:L 0=true->L 2=true->I 9≠I 11
 n12:L 1=true->L 2=true->I 10≠I 11
def wV(h:U.le ae)(hb:ae.f b=none)(o:Obj):U.le (ae.set b o):=λx p hx=>Cd hb (h x p hx)
def Ma(h:U.le ae)(hb:U.f b=none)(o:Obj):U.le (ae.set b o):=λx p hx=>by
 have:x≠b:=λe=>by rw[e,hb]at hx;cases hx
 simpa[Hp.set,this]using h x p hx
def BR(h:eg U ae I sc sb ty true la ls)(hb:ae.f b=none):I sc≠.chan (some b):=by obtain⟨c,k1,_,k3⟩:=h.c rfl;rw[k1];intro e;simp only[Value.chan.injEq,Option.some.injEq]at e;rw[e,hb]at k3;cases k3
def acH{E:Env prog}{Q:Post}{kL:Hp}{r2 r3:Value}(L:Nat->Bool)(i:Nat)(o:Oper)(I:av)(ds:List Deferred)(U:Hp)(K:av->List Deferred->Hp->Prop)(ho:zY[i]? =some o)(hL:L i=false)(he:∀e∈o.after,Region.binds .any e=true->L e.on=true)(h:FM kL r2 r3 L I ds U)(hK:∀aC dk ae,FM kL r2 r3 (λj=>L j||j==i) aC dk ae->K aC dk ae):ml E 52 zY Q i K I ds U:=by
 unfold ml;rw[ho];simp only[zY,jo,f40,Option.getD_some,aR,bO,bN]at ho;obtain⟨e1,e2,e3,e4,e5,e6,e7,e8,e9,kO⟩:=h;rcases i with _|_|_|_|_|_|_|_|_|i
 ·
  simp only[List.getElem?_toArray,List.getElem?_cons_zero,Option.some.injEq]at ho;subst ho;refine⟨rfl,?_⟩;rw[if_pos (by simp[Region.wanted]),if_neg (by simp[cW])];refine NV (el:=3) ⟨_,underlying119⟩ ah λb hb=>hK _ _ _ ?_;rw[hL]at e5;constructor
  ·exact e1
  ·simpa[up]using e2
  ·simpa[up]using e3
  ·exact wV e4 hb _
  ·simpa[up,hL,nR]using(eg.chan (aC:=up I 9 (.chan (some b))) e5 e4 hb (by simp[up]) (by simp[up]))
  ·simpa[up]using(eg.new (aC:=up I 9 (.chan (some b))) e6 hb (by simp[up]) (by simp[up]))
  ·simpa[up]using(eg.new (aC:=up I 9 (.chan (some b))) e7 hb (by simp[up]) (by simp[up]))
  ·intro _ h2;simp at h2;rw[h2]at e6;have:=BR e6 hb;simpa[up]usingλe=>this e.symm
  ·intro _ h2;simp at h2;rw[h2]at e7;have:=BR e7 hb;simpa[up]usingλe=>this e.symm
  ·intro h1 h2;simp at h1 h2;simpa[up]using kO h1 h2
 ·
  simp only[List.getElem?_toArray,List.getElem?_cons_zero,List.getElem?_cons_succ,Option.some.injEq]at ho;subst ho;refine⟨rfl,?_⟩;rw[if_pos (by simp[Region.wanted]),if_neg (by simp[cW])];refine NV (el:=135) ⟨_,underlying120⟩ ah λb hb=>hK _ _ _ ?_;rw[hL]at e6;constructor
  ·exact e1
  ·simpa[up]using e2
  ·simpa[up]using e3
  ·exact wV e4 hb _
  ·simpa[up]using(eg.new (aC:=up I 10 (.chan (some b))) e5 hb (by simp[up]) (by simp[up]))
  ·simpa[up,hL,nR]using(eg.chan (aC:=up I 10 (.chan (some b))) e6 e4 hb (by simp[up]) (by simp[up]))
  ·simpa[up]using(eg.new (aC:=up I 10 (.chan (some b))) e7 hb (by simp[up]) (by simp[up]))
  ·intro h2 _;simp at h2;rw[h2]at e5;have:=BR e5 hb;simpa[up]using this
  ·intro h1 h2;simp at h1 h2;simpa[up]using e9 h1 h2
  ·intro _ h2;simp at h2;rw[h2]at e7;have:=BR e7 hb;simpa[up]usingλe=>this e.symm
 ·
  simp only[List.getElem?_toArray,List.getElem?_cons_zero,List.getElem?_cons_succ,Option.some.injEq]at ho;subst ho;refine⟨rfl,?_⟩;rw[if_pos (by simp[Region.wanted]),if_neg (by simp[cW])];refine NV (el:=122) ⟨_,underlying121⟩ ah λb hb=>hK _ _ _ ?_;rw[hL]at e7;constructor
  ·exact e1
  ·simpa[up]using e2
  ·simpa[up]using e3
  ·exact wV e4 hb _
  ·simpa[up]using(eg.new (aC:=up I 11 (.chan (some b))) e5 hb (by simp[up]) (by simp[up]))
  ·simpa[up]using(eg.new (aC:=up I 11 (.chan (some b))) e6 hb (by simp[up]) (by simp[up]))
  ·simpa[up,hL,nR]using(eg.chan (aC:=up I 11 (.chan (some b))) e7 e4 hb (by simp[up]) (by simp[up]))
  ·intro h1 h2;simp at h1 h2;simpa[up]using e8 h1 h2
  ·intro h2 _;simp at h2;rw[h2]at e5;have:=BR e5 hb;simpa[up]using this
  ·intro h2 _;simp at h2;rw[h2]at e6;have:=BR e6 hb;simpa[up]using this
 ·
  simp only[List.getElem?_toArray,List.getElem?_cons_zero,List.getElem?_cons_succ,Option.some.injEq]at ho;subst ho;refine⟨rfl,?_⟩;rw[if_pos (by simp[Region.wanted]),if_neg (by simp[cW])];refine sC ?_;refine ag ?_;refineλb hb=>hK _ _ _ ?_;simp only[aB,show(Value.chan none).cells= #[.chan none]from rfl];rw[hL]at e5;constructor
  ·exact e1
  ·simpa[up]using e2
  ·simpa[up]using e3
  ·exact wV e4 hb _
  ·simpa[up,hL]using(eg.box (aC:=up I 4 (pV b)) e5 e4 hb (by simp[up]) (by simp[up]))
  ·simpa[up]using(eg.new (aC:=up I 4 (pV b)) e6 hb (by simp[up]) (by simp[up]))
  ·simpa[up]using(eg.new (aC:=up I 4 (pV b)) e7 hb (by simp[up]) (by simp[up]))
  ·intro h1 h2;simp at h1 h2;simpa[up]using e8 h1 h2
  ·intro h1 h2;simp at h1 h2;simpa[up]using e9 h1 h2
  ·intro h1 h2;simp at h1 h2;simpa[up]using kO h1 h2
 ·
  simp only[List.getElem?_toArray,List.getElem?_cons_zero,List.getElem?_cons_succ,Option.some.injEq]at ho;subst ho;refine⟨rfl,?_⟩;rw[if_pos (by simp[Region.wanted]),if_neg (by simp[cW])];refine sC ?_;refine ag ?_;refineλb hb=>hK _ _ _ ?_;simp only[aB,show(Value.chan none).cells= #[.chan none]from rfl];rw[hL]at e6;constructor
  ·exact e1
  ·simpa[up]using e2
  ·simpa[up]using e3
  ·exact wV e4 hb _
  ·simpa[up]using(eg.new (aC:=up I 5 (pV b)) e5 hb (by simp[up]) (by simp[up]))
  ·simpa[up,hL]using(eg.box (aC:=up I 5 (pV b)) e6 e4 hb (by simp[up]) (by simp[up]))
  ·simpa[up]using(eg.new (aC:=up I 5 (pV b)) e7 hb (by simp[up]) (by simp[up]))
  ·intro h1 h2;simp at h1 h2;simpa[up]using e8 h1 h2
  ·intro h1 h2;simp at h1 h2;simpa[up]using e9 h1 h2
  ·intro h1 h2;simp at h1 h2;simpa[up]using kO h1 h2
 ·
  simp only[List.getElem?_toArray,List.getElem?_cons_zero,List.getElem?_cons_succ,Option.some.injEq]at ho;subst ho;refine⟨rfl,?_⟩;rw[if_pos (by simp[Region.wanted]),if_neg (by simp[cW])];refine sC ?_;refine ag ?_;refineλb hb=>hK _ _ _ ?_;simp only[aB,show(Value.chan none).cells= #[.chan none]from rfl];rw[hL]at e7;constructor
  ·exact e1
  ·simpa[up]using e2
  ·simpa[up]using e3
  ·exact wV e4 hb _
  ·simpa[up]using(eg.new (aC:=up I 6 (pV b)) e5 hb (by simp[up]) (by simp[up]))
  ·simpa[up]using(eg.new (aC:=up I 6 (pV b)) e6 hb (by simp[up]) (by simp[up]))
  ·simpa[up,hL]using(eg.box (aC:=up I 6 (pV b)) e7 e4 hb (by simp[up]) (by simp[up]))
  ·intro h1 h2;simp at h1 h2;simpa[up]using e8 h1 h2
  ·intro h1 h2;simp at h1 h2;simpa[up]using e9 h1 h2
  ·intro h1 h2;simp at h1 h2;simpa[up]using kO h1 h2
 ·
  simp only[List.getElem?_toArray,List.getElem?_cons_zero,List.getElem?_cons_succ,Option.some.injEq]at ho;subst ho;refine⟨rfl,?_⟩;rw[if_pos (by simp[Region.wanted]),if_neg (by simp[cW])];refine sC ?_;have hc:L 0=true:=by simpa using he {on:=0,ground:=.data} al rfl
  have ha:L 3=true:=by simpa using he {on:=3,ground:=.data} al rfl
  rw[hc,ha]at e5;obtain⟨b,k1,k2,k3⟩:=e5.a rfl;obtain⟨c,j1,j2,j3⟩:=e5.c rfl;rw[hL]at k3;simp only[Bool.false_eq_true,if_false]at k3;refine bR k1 j1 k3 ?_;refine hK _ _ _ ?_;constructor
  ·exact e1
  ·exact e2
  ·exact e3
  ·exact Ma e4 k2 _
  ·simpa[hc,ha]using(eg.st e5 k1 j1)
  ·simpa using(eg.other e6 k3 ai)
  ·simpa using(eg.other e7 k3 ai)
  ·intro h1 h2;simp at h1 h2;exact e8 h1 h2
  ·intro h1 h2;simp at h1 h2;exact e9 h1 h2
  ·intro h1 h2;simp at h1 h2;exact kO h1 h2
 ·
  simp only[List.getElem?_toArray,List.getElem?_cons_zero,List.getElem?_cons_succ,Option.some.injEq]at ho;subst ho;refine⟨rfl,?_⟩;rw[if_pos (by simp[Region.wanted]),if_neg (by simp[cW])];refine sC ?_;have hc:L 1=true:=by simpa using he {on:=1,ground:=.data} al rfl
  have ha:L 4=true:=by simpa using he {on:=4,ground:=.data} al rfl
  rw[hc,ha]at e6;obtain⟨b,k1,k2,k3⟩:=e6.a rfl;obtain⟨c,j1,j2,j3⟩:=e6.c rfl;rw[hL]at k3;simp only[Bool.false_eq_true,if_false]at k3;refine bR k1 j1 k3 ?_;refine hK _ _ _ ?_;constructor
  ·exact e1
  ·exact e2
  ·exact e3
  ·exact Ma e4 k2 _
  ·simpa using(eg.other e5 k3 ai)
  ·simpa[hc,ha]using(eg.st e6 k1 j1)
  ·simpa using(eg.other e7 k3 ai)
  ·intro h1 h2;simp at h1 h2;exact e8 h1 h2
  ·intro h1 h2;simp at h1 h2;exact e9 h1 h2
  ·intro h1 h2;simp at h1 h2;exact kO h1 h2
 ·
  simp only[List.getElem?_toArray,List.getElem?_cons_zero,List.getElem?_cons_succ,Option.some.injEq]at ho;subst ho;refine⟨rfl,?_⟩;rw[if_pos (by simp[Region.wanted]),if_neg (by simp[cW])];refine sC ?_;have hc:L 2=true:=by simpa using he {on:=2,ground:=.data} al rfl
  have ha:L 5=true:=by simpa using he {on:=5,ground:=.data} al rfl
  rw[hc,ha]at e7;obtain⟨b,k1,k2,k3⟩:=e7.a rfl;obtain⟨c,j1,j2,j3⟩:=e7.c rfl;rw[hL]at k3;simp only[Bool.false_eq_true,if_false]at k3;refine bR k1 j1 k3 ?_;refine hK _ _ _ ?_;constructor
  ·exact e1
  ·exact e2
  ·exact e3
  ·exact Ma e4 k2 _
  ·simpa using(eg.other e5 k3 ai)
  ·simpa using(eg.other e6 k3 ai)
  ·simpa[hc,ha]using(eg.st e7 k1 j1)
  ·intro h1 h2;simp at h1 h2;exact e8 h1 h2
  ·intro h1 h2;simp at h1 h2;exact e9 h1 h2
  ·intro h1 h2;simp at h1 h2;exact kO h1 h2
 ·simp at ho
variable {k:List Item}
structure Oi (U J:Hp) (bc:Nat) (ch:List UInt8) (cb kb sb ub db c1 c2 c3:Nat):Prop where
 le:U.le J
 c:J.f cb=some (.cells #[pV bc] 70 (0,0))
 k:J.f kb=some (.cells #[.string (B ch)] 9 (0,0))
 s:J.f sb=some (.cells #[.chan (some c1)] 119 (0,0))
 u:J.f ub=some (.cells #[.chan (some c2)] 120 (0,0))
 d:J.f db=some (.cells #[.chan (some c3)] 121 (0,0))
 h1:J.f c1=some nR
 h2:J.f c2=some nR
 h3:J.f c3=some nR
 nc:U.f cb=none
 nk:U.f kb=none
 ns:U.f sb=none
 nu:U.f ub=none
 nd:U.f db=none
 n1:U.f c1=none
 n2:U.f c2=none
 n3:U.f c3=none
 d12:c1≠c2
 d13:c1≠c3
 d23:c2≠c3
def YJ:f40.body=some jo:=ah
def aku{ops:Array Oper}(h:(ops.toList.zipIdx.all λp=>p.1.after.all λe=>decide (e.on<p.2))=true):∀(i:Nat) (o:Oper),ops[i]? =some o->∀e∈o.after,e.on<i:=by intro i o ho e he;rw[List.all_eq_true]at h;have:=h (o,i) (by rw[List.mk_mem_zipIdx_iff_getElem?];simpa using ho);rw[Array.all_eq_true_iff_forall_mem]at this;simpa using this e he
def akt:(zY.toList.zipIdx.all λp=>p.1.after.all λe=>decide (e.on<p.2))=true:=ah
def apN:zY.size=9:=ah
variable {g:Goroutine}
def entry{E:Env prog}{bc:Nat}{ch:List UInt8}{cs:List Frame}:
 ax E (G (Frame.enter prog 40 #[pV bc,.string (B ch)] .normal) cs) U λg J=>∃cb kb sb ub db c1 c2 c3,Oi U J bc ch cb kb sb ub db c1 c2 c3/\∃I a,cM 52 a I []/\
  I 2=pV cb/\I 3=pV kb/\I 4=pV sb/\I 5=pV ub/\I 6=pV db/\g=G (bV.at a [.code ry]) cs:=by
 rw[enter_at _ func40 YJ,WL];have D5:f40.ntmps=52:=rfl;rw[D5];have uy:=sQ #[pV bc,.string (B ch)] 52 al;generalize tB:nV _ 52=mU at uy;have q0:mU 0=pV bc:=by rw[<-tB];rfl
 have q1:mU 1=.string (B ch):=by rw[<-tB];rfl
 clear tB;generalize(⟨_++Array.replicate (52-_) undef,[]⟩:Act)=a0 at uy|-;change ax E (G (bV.at a0 [.code (.seq (.region 0 MO false) (.seq (.region 1 zY true) ry))]) cs) U _;refine ax.ctl (λw=>stepG_seq) rfl rfl ?_;refine(nT (E:=E) (N:=52) (X:=λI ds J=>ds=[]/\∃cb kb,I 2=pV cb/\I 3=pV kb/\U.f cb=none/\U.f kb=none/\U.le J/\J.f cb=some (.cells #[pV bc] 70 (0,0))/\J.f kb=some (.cells #[.string (B ch)] 9 (0,0))) ?_ (by simp[bV]) uy).bind ?_
 ·simp only[MO,jo,f40,Option.getD_some,bO,bN];refine aJ q0 ?_;refineλcb mE=>?_;simp only[go_sem,seval,q1,aB];refineλkb tu=>?_;simp only[go_sem,seval,aB];refine⟨rfl,cb,kb,by simp[up],by simp[up],mE,?_,?_,?_,by simp[Hp.set]⟩
  ·exact uj (wV (λ_ _ h=>h) mE _) tu
  ·exact wV (wV (λ_ _ h=>h) mE _) tu _
  ·exact Cd tu (by simp[Hp.set])
 rintro g J ⟨qy,_,a1,dn,⟨rfl,cb,kb,r2,r3,mE,tu,hle,hc,hk⟩,rfl⟩;refine ax.ctl (λw=>stepG_seq) rfl rfl ?_;have hm:prog.follows .mixedOrders=true:=ah;refine(nT (E:=E) (N:=52) (X:=λI ds cf=>FM J (pV cb) (pV kb) (λ_=>true) I ds cf) ?_ (by simp[bV]) dn).bind ?_
 ·intro t;refine arT (au1:=FM J (pV cb) (pV kb)) hm ?_ (λL i o I ds U K=>acH L i o I ds U K) ?_ ?_ t
  ·exact aku akt
  ·intro L I ds cf lU h;rw[apN]at lU;have e:∀i,i<9->L i=true:=lU;obtain⟨e1,e2,e3,e4,e5,e6,e7,e8,e9,kO⟩:=h
   exact⟨e1,e2,e3,e4,by rw[e 0 ai,e 3 ai,e 6 ai]at e5;exact e5,by rw[e 1 ai,e 4 ai,e 7 ai]at e6;exact e6,by rw[e 2 ai,e 5 ai,e 8 ai]at e7;exact e7,
    λ_ _=>e8 (e 0 ai) (e 1 ai),λ_ _=>e9 (e 0 ai) (e 2 ai),λ_ _=>kO (e 1 ai) (e 2 ai)⟩
  ·exact⟨rfl,r2,r3,(λ_ _ h=>h),⟨(λh=>by cases h),(λh=>by cases h),(λh=>by cases h)⟩,⟨(λh=>by cases h),(λh=>by cases h),(λh=>by cases h)⟩,⟨(λh=>by cases h),(λh=>by cases h),(λh=>by cases h)⟩,(λh=>by cases h),(λh=>by cases h),(λh=>by cases h)⟩
 rintro g cf ⟨lO,_,a2,gH,⟨rfl,s2,s3,ov,t0,t1,t2,TO,TP,TR⟩,rfl⟩;obtain⟨c1,i1,i2,i3⟩:=t0.c rfl;obtain⟨sb,i4,i5,i6⟩:=t0.a rfl;obtain⟨c2,j1,j2,j3⟩:=t1.c rfl;obtain⟨ub,j4,j5,j6⟩:=t1.a rfl;obtain⟨c3,k1,k2,k3⟩:=t2.c rfl;obtain⟨db,k4,k5,k6⟩:=t2.a rfl;simp only[if_true,i1,j1,k1]at i6 j6 k6 TO TP TR;refine ax.here ⟨cb,kb,sb,ub,db,c1,c2,c3,⟨λb o h=>ov b o (hle b o h),ov _ _ hc,ov _ _ hk,i6,j6,k6,i3,j3,k3,mE,tu,uj hle i5,uj hle j5,uj hle k5,uj hle i2,uj hle j2,uj hle k2,?_,?_,?_⟩,lO,a2,gH,s2,s3,i4,j4,k4,rfl⟩
 ·exactλe=>TO trivial trivial (by rw[e])
 ·exactλe=>TP trivial trivial (by rw[e])
 ·exactλe=>TR trivial trivial (by rw[e])
end
section
open Go.Proofs
open Go.ConcX
noncomputable def g2:Array Oper:=bN (bO ry)
noncomputable def g3:Array Oper:=bN (bO (aR ry))
noncomputable def g4:Array Oper:=bN (bO (aR (aR ry)))
def aoQ:ry=.seq (.region 2 g2 false) (.seq (.region 3 g3 false) (.seq (.region 4 g4 false) iK)):=ah
def adH:∃ps af ty,g2[0]? =some {dst:=some 7,op:=.alloc 131,type:=ty,pos:=ps,after:=af,guard:=none}:=⟨_,_,_,by simp only[g2,ry,jo,f40,Option.getD_some,aR,bO,bN];rfl⟩
def Q4:∃ps af ty cB,g3[0]? =some {dst:=some 12,op:=.call {callee:=.value (.func 55),args:=#[.tmp 7,.const (.int .i64 1)],argTypes:=cB},type:=ty,pos:=ps,after:=af,guard:=none}:=⟨_,_,_,_,by simp only[g3,ry,jo,f40,Option.getD_some,aR,bO,bN];rfl⟩
def adK:∃ps af ty,g4[0]? =some {dst:=some 13,op:=.makeFunc (.func 56) #[] #[.tmp 7,.tmp 2,.tmp 3,.tmp 4,.tmp 5,.tmp 6],type:=ty,pos:=ps,after:=af,guard:=none}:=⟨_,_,_,by simp only[g4,ry,jo,f40,Option.getD_some,aR,bO,bN];rfl⟩
def adL:∃ps af ty cB,g4[1]? =some {dst:=none,op:=.go {callee:=.value (.tmp 13),args:=#[],argTypes:=cB},type:=ty,pos:=ps,after:=af,guard:=none}:=⟨_,_,_,_,by simp only[g4,ry,jo,f40,Option.getD_some,aR,bO,bN];rfl⟩
def LS(S Q:Loc->Prop)(B:Nat)(g:Goroutine)(d:Nat)(R:World->Prop)(m:Machine)(T:Trace):Prop:=
 ∃gs w sl q,m=crowd gs w sl/\gs[0]? =some g/\Lone prog S Q B gs w T q d/\R w
section
variable {h:Nat}{g:Goroutine}{N:Nat}
variable {S Q:Loc->Prop}{B d:Nat}{g g':Goroutine}{R R':World->Prop}{m:Machine}{T:Trace}
def LS.step (h:LS S Q B g d R m T)(hr:g.status=.running)(hR:∀w dd,R w->R (w.at dd))(hs:∀w,R w->∃w',stepG prog true g w=.go g' w' #[]/\R' w'):∃N m' T',runNT prog N m T=(.next m',T')/\LS S Q B g' d R' m' T':=by
 obtain⟨gs,w,sl,q,rfl,hg,hl,hw⟩:=h
 obtain⟨N,cg,a',w',bE,T',q',es,h1,h2,h3,⟨rfl,rfl,h4⟩,h5⟩:=hl.go hg hr sl (X:=λa' w' es=>a'=g'/\es= #[]/\R' w') (λdd=>by
  obtain⟨w',k1,k2⟩:=hs (w.at dd) (hR w dd hw)
  exact⟨g',w',#[],k1,al,rfl,rfl,k2⟩)
 refine⟨N,_,T',h1,cg,w',bE,q',rfl,h3,?_,h4⟩;simpa[deafBehind]using h5
def LS.ctl (h:LS S Q B g d R m T)(hr:g.status=.running)(hR:∀w dd,R w->R (w.at dd))(hs:∀w,stepG prog true g w=.go g' w #[]):∃N m' T',runNT prog N m T=(.next m',T')/\LS S Q B g' d R m' T':=
 h.step hr hR λw hw=>⟨w,hs w,hw⟩
end
variable {N:Nat}{m:Machine}{T:Trace}
def two{P:Program}{X Y:Machine->Trace->Prop}(h:∃N m' T',runNT P N m T=(.next m',T')/\X m' T')(k:∀m' T',X m' T'->∃N pz oO,runNT P N m' T'=(.next pz,oO)/\Y pz oO):∃N pz oO,runNT P N m T=(.next pz,oO)/\Y pz oO:=by obtain⟨N,m',T',h1,h2⟩:=h;obtain⟨N',pz,oO,k1,k2⟩:=k m' T' h2;exact⟨N+N',pz,oO,runNT_then h1 k1,k2⟩
variable {a:Act}{k:List Item}{cs:List Frame}
def XM{ops:Array Oper}{ps:String}{af:Array Edge}{ty:Nat}{rest:List Nat}(ho:ops[0]? =some {dst:=some 7,op:=.alloc 131,type:=ty,pos:=ps,after:=af,guard:=none})(w:World):
 stepG prog true (G (bV.at a (.inRegion ops (0::rest)::k)) cs) w=.go (G (bV.at (a.put (some 7) (pV w.heap.size)) (.inRegion ops rest::k)) cs) (w.alloc (wgBlock 131 0 0)) #[]:=by
 have hr:(execOp a.eval {dst:=some 7,op:=.alloc 131,type:=ty,pos:=ps,after:=af,guard:=none}).run prog w=.ok (.value (pV w.heap.size)) (w.alloc (wgBlock 131 0 0)):=by unfold execOp;simp[go_sem,zeroValue131];rfl
 have he:(execOp a.eval {dst:=some 7,op:=.alloc 131,type:=ty,pos:=ps,after:=af,guard:=none}).events prog w #[]= #[]:=by unfold execOp;simp[go_sem,zeroValue131]
 rw[stepG_value ho rfl (by simp[bV]) hr,listed_none he]
variable {x0 x1 x2 x3 x4 x5:Nat}
def adF(h7:a.eval (.tmp 7)=pV x0)(h2:a.eval (.tmp 2)=pV x1)(h3:a.eval (.tmp 3)=pV x2)(h4:a.eval (.tmp 4)=pV x3)(h5:a.eval (.tmp 5)=pV x4)(h6:a.eval (.tmp 6)=pV x5)(w:World):
 stepG prog true (G (bV.at a (.inRegion g4 [0,1]::k)) cs) w=.go (G (bV.at (a.put (some 13) (.func (.func 56) #[] (oR x0 x1 x2 x3 x4 x5))) (.inRegion g4 [1]::k)) cs) w #[]:=by
 obtain⟨ps,af,ty,ho⟩:=adK
 have hr:(execOp a.eval {dst:=some 13,op:=.makeFunc (.func 56) #[] #[.tmp 7,.tmp 2,.tmp 3,.tmp 4,.tmp 5,.tmp 6],type:=ty,pos:=ps,after:=af,guard:=none}).run prog w=.ok (.value (.func (.func 56) #[] (oR x0 x1 x2 x3 x4 x5))) w:=by unfold execOp;simp[Instr.makeFunc,h7,h2,h3,h4,h5,h6,oR]
 have he:(execOp a.eval {dst:=some 13,op:=.makeFunc (.func 56) #[] #[.tmp 7,.tmp 2,.tmp 3,.tmp 4,.tmp 5,.tmp 6],type:=ty,pos:=ps,after:=af,guard:=none}).events prog w #[]= #[]:=by unfold execOp;simp[Instr.makeFunc]
 rw[stepG_value ho rfl (by simp[bV]) hr,listed_none he]
def aey(h:a.eval (.tmp 13)=.func (.func 56) #[] (oR x0 x1 x2 x3 x4 x5))(w:World):
 stepG prog true (G (bV.at a (.inRegion g4 [1]::k)) cs) w=.spawn (G (bV.at a (.inRegion g4 []::k)) cs) (born prog (call56 x0 x1 x2 x3 x4 x5)) w #[]:=by
 obtain⟨ps,af,ty,cB,ho⟩:=adL
 have hr:(execOp a.eval {dst:=none,op:=.go {callee:=.value (.tmp 13),args:=#[],argTypes:=cB},type:=ty,pos:=ps,after:=af,guard:=none}).run prog w=.ok (.spawn (call56 x0 x1 x2 x3 x4 x5)) w:=by unfold execOp;simp[resolve,h,Deferred.ofValue,call56]
 have he:(execOp a.eval {dst:=none,op:=.go {callee:=.value (.tmp 13),args:=#[],argTypes:=cB},type:=ty,pos:=ps,after:=af,guard:=none}).events prog w #[]= #[]:=by unfold execOp;simp[resolve,h,Deferred.ofValue]
 rw[stepG_spawn ho rfl (by simp[bV]) hr rfl,listed_none he];rfl
def YK:f55.body=some (Go.ConcX.Gen.body_add pJ):=ah
def Ub:(f55.name== "runtime.NumGoroutine")=false:=ah
def Pl:f55.body.isNone=false:=ah
def t55:f55.ntmps=117:=ah
def Jf(wg:Nat):Array Value:=#[pV wg,.int .i64 1,undef,undef,undef,undef,undef,undef,undef,undef,undef,undef,undef,undef,undef,undef,undef,undef,undef,undef,undef,undef,undef,undef,undef,undef,undef,undef,undef,undef,undef,undef,undef,undef,undef,undef,undef,undef,undef,undef,undef,undef,undef,undef,undef,undef,undef,undef,undef,undef,undef,undef,undef,undef,undef,undef,undef,undef,undef,undef,undef,undef,undef,undef,undef,undef,undef,undef,undef,undef,undef,undef,undef,undef,undef,undef,undef,undef,undef,undef,undef,undef,undef,undef,undef,undef,undef,undef,undef,undef,undef,undef,undef,undef,undef,undef,undef,undef,undef,undef,undef,undef,undef,undef,undef,undef,undef,undef,undef,undef,undef,undef,undef,undef,undef,undef,undef]
def XY(wg:Nat):(#[pV wg,.int .i64 1]++Array.replicate (117-2) undef:Array Value)=Jf wg:=ah
def Xs{wg:Nat}(h:a.eval (.tmp 7)=pV wg)(w:World):stepG prog true (G (bV.at a (.inRegion g3 [0]::k)) cs) w=
 .go (G ((base 55).at {tmps:=Jf wg,defers:=[]} [.code (Go.ConcX.Gen.body_add pJ)]) (bV.at a (.inRegion g3 [0]::k)::cs)) w #[]:=by
 obtain⟨ps,af,ty,cB,ho⟩:=Q4
 have kA:(#[Operand.tmp 7,.const (.int .i64 1)]).map a.eval= #[pV wg,.int .i64 1]:=by simp[h];rfl
 rw[stepG_enter (f:=55) (args:=(#[Operand.tmp 7,.const (.int .i64 1)]).map a.eval) ho rfl (by simp[bV]) (run_call_body rfl func55 Ub Pl),enter_at (fn:=f55) _ func55 YK]
 have:listed prog bV.fn a {dst:=some 12,op:=.call {callee:=.value (.func 55),args:=#[.tmp 7,.const (.int .i64 1)],argTypes:=cB},type:=ty,pos:=ps,after:=af,guard:=none} w= #[]:=by unfold listed;rw[events_call_body rfl func55 Ub Pl];exact seen_none _ _
 rw[this,kA,t55,<-XY];rfl
section
variable {h:Nat}{g:Goroutine}{N:Nat}{b:Frame}{a:Act}{k:List Item}{cs:List Frame}
variable {S Q:Loc->Prop}{B:Nat}{wg C:Nat}
@[reducible] def Xo (S:Loc->Prop)(B wg C:Nat)(hW:wg<B)(hC:C<B)(Km:∀a:Addr,a.block=C->¬S (.cell a)):Shy wg C:=
 let Y:Shy wg C:=shyOf S B wg C (λ_ _=>True) hW hC Km
 {ok:=λact=>okF S B wg act/\∀a,act≠.mark (.release a)
  atomicWg:=λa wr h=>⟨Y.atomicWg a wr h,al⟩
  readWg:=λa h=>⟨Y.readWg a h,al⟩
  writeWg:=λa h=>⟨Y.writeWg a h,al⟩
  theirs:=λa wr h=>⟨Y.theirs a wr h,al⟩
  disable:=⟨Y.disable,al⟩
  enable:=⟨Y.enable,al⟩
  relMerge:=⟨Y.relMerge,al⟩
  acquire:=⟨Y.acquire,al⟩
  go1:=⟨Y.go1,al⟩
  start:=⟨Y.start,al⟩
  stop:=λ_ _=>True}
def QG {m:Mark}(h1:m=.disable\/m=.enable):∀e∈#[mk m],FG S B e:=by intro e he;simp only[List.mem_toArray,List.mem_cons,List.not_mem_nil,or_false]at he;subst he;rcases h1 with rfl|rfl<;>exact⟨λb hb=>by simp[mk,MemAct.ofEvent,MemAct.touch?]at hb,trivial,by simp[mk]⟩
def akp {gs:Array Goroutine}{w:World}{sl:Option (Nat×Nat)}{T:Trace}{q:Nat->Nat}{a:Act}{k:List Item}{cs:List Frame}(hl:Lone prog S Q B gs w T q 0)(hg:gs[0]? =some (G ((base 55).at {tmps:=Jf wg,defers:=[]} [.code (Go.ConcX.Gen.body_add pJ)]) (bV.at a (.inRegion g3 [0]::k)::cs)))
 (hw:WgAt 131 wg w 0 0) (hW:wg<B) (hC:C<B) (Km:∀a:Addr,a.block=C->¬S (.cell a)):
 ∃N cg w' bE T' q',runNT prog N (crowd gs w sl) T=(.next (crowd cg w' bE),T')/\cg.size=gs.size/\cg[0]? =some (G (bV.at (a.put ((g3[0]?).bind (·.dst)) (.tuple #[])) (.inRegion g3 []::k)) cs)/\Lone prog S Q B cg w' T' q' 0/\∃dd,w'=(w.setCell (stA wg) (.int .u64 KK)).at dd:=by
 letI:Shy wg C:=Xo S B wg C hW hC Km
 let StopG:Goroutine->World->Prop:=λg w₁=>g=G (bV.at (a.put ((g3[0]?).bind (·.dst)) (.tuple #[])) (.inRegion g3 []::k)) cs/\AtRel (w.setCell (stA wg) (.int .u64 KK)) w₁
 have hG:=Go.ConcX.Gen.addPos (P:=prog) (L:=pJ) (Wg:=wg) (C:=C) (StopG:=StopG) (mT:=0) (b₀:=bV) (a₀:=a) (ops₀:=g3) (i₀:=0) (rest₀:=[]) (k₀:=k) (cs:=cs) ID w hw (λw₁ hr=>⟨rfl,hr⟩)
 have hD:∀w w' es,DE (EvS wg C) w w' es->∀e∈es,FG S B e/\e.loc≠.mark .disable/\e.loc≠.mark .enable:=by
  intro w w' es h e he;obtain⟨h1,h2,h3,h4,h5,h6,h7⟩:=h e he
  have hm:∀m,MemAct.ofEvent e≠.mark m->e.loc≠.mark m:=by rintro m hm e2;apply hm;obtain⟨l,wr,sy⟩:=e;simp only at e2;subst e2;rfl
  exact⟨⟨λb hb hs=>(h6.1 b hb).1 hs,h6.2.1,λa e2=>h7 a (by
   obtain⟨l,wr,sy⟩:=e
   simp only at e2
   subst e2
   rfl)⟩,hm _ h4,hm _ h5⟩
 obtain⟨N1,Rk,a1,w1,Ni,T1,q1,r1,z1,g1,mR,l1⟩:=hl.goes hD 12 sl hg hG
 obtain⟨N2,xF,a2,w2,xo,T2,q2,JV,r2,z2,g2',⟨rfl,n2,hG2⟩,l2⟩:=l1.go g1 (mR 0).1 Ni (X:=λa' w' es=>es= #[mk .disable]/\∃n,Goes prog true AtRel (DE (EvS wg C)) (AtMkS prog .enable λa w=>∃n,Goes prog true AtRel (DE (EvS wg C)) StopG n a w) n a' w') (λdd=>by
  obtain⟨_,a',h1,h2⟩:=mR dd
  exact⟨a',_,_,h1,QG (.inl rfl),rfl,h2⟩)
 obtain⟨N3,Rl,a3,w3,Ap,T3,q3,r3,z3,g3',rD,l3⟩:=l2.goes hD n2 xo g2' hG2
 obtain⟨N4,Rm,a4,w4,Nj,T4,q4,es4,r4,z4,g4',⟨rfl,n4,hG4⟩,l4⟩:=l3.go g3' (rD 0).1 Ap (X:=λa' w' es=>es= #[mk .enable]/\∃n,Goes prog true AtRel (DE (EvS wg C)) StopG n a' w') (λdd=>by
  obtain⟨_,a',h1,h2⟩:=rD dd
  exact⟨a',_,_,h1,QG (.inr rfl),rfl,h2⟩)
 obtain⟨N5,gs5,a5,w5,sl5,T5,q5,r5,z5,g5',Ar,l5⟩:=l4.goes hD n4 Nj g4' hG4;obtain⟨e5,dd,h5⟩:=Ar w5.drawn;have hd:deafBehind (deafBehind 0 #[mk .disable]) #[mk .enable]=0:=by rfl
 rw[hd]at l5;refine⟨_,gs5,w5,sl5,T5,q5,runNT_then (runNT_then (runNT_then (runNT_then r1 r2) r3) r4) r5,?_,by rw[g5',e5],l5,dd,h5⟩;rw[z5,z4,z3,z2,z1]
end
def wS(w:World):World:=(w.alloc (wgBlock 131 0 0)).setCell (stA w.heap.size) (.int .u64 KK)
def arA{w:World}{b:Nat}(h:b<w.heap.size):(wS w).heap[b]? =w.heap[b]? :=by rw[wS,E8 _ _ (by show b≠w.heap.size;omega)];show(w.heap.push _)[b]? =_;rw[Array.getElem?_push_lt h,Array.getElem?_eq_getElem h]
def arB(w:World):(wS w).heap[w.heap.size]? =some (wgBlock 131 KK 0):=by show(Array.modify (w.heap.push (wgBlock 131 0 0)) w.heap.size _)[w.heap.size]? =_;rw[Array.getElem?_modify,if_pos rfl,Array.getElem?_push_size];simp[stA,wgBlock]
def NP(w:World):(wS w).heap.size=w.heap.size+1:=by show(Array.modify (w.heap.push (wgBlock 131 0 0)) w.heap.size _).size=_;simp
variable {b:Frame}
noncomputable def yq(J:Hp)(c1 c2 c3:Nat):Hp:=J.only λb=>b≠c1/\b≠c2/\b≠c3
variable {W:World}{J U:Hp}{bc:Nat}{ch:List UInt8}{cb kb sb ub db c1 c2 c3:Nat}{I:av}{l:List Value}{bg:Nat}{ph fr:Int}
def ada(nC:yT prog W (G (bV.at a [.code ry]) cs) J m T)(ha:cM 52 a I [])(r2:I 2=pV cb)(r3:I 3=pV kb)(r4:I 4=pV sb)(r5:I 5=pV ub)(r6:I 6=pV db)(hE:Oi U J bc ch cb kb sb ub db c1 c2 c3)(hb:U.f bc=some (.cells l.toArray 90 (0,0)))(mF:Cn bg ph fr l)(hp:ph≠5):
 ∃(t:Tk) (hc:t.Ok t.cb) (hs:t.Ok t.sb) (hd:t.Ok t.db) (hb:t.Ok bc) (N:Nat) (m':Machine) (T':Trace),t.W=W/\t.c1=c1/\t.c2=c2/\t.c3=c3/\t.cb=cb/\t.sb=sb/\t.ub=ub/\t.db=db/\t.cs=cs/\t.IE=wgBlock 131 KK 0/\runNT prog N m T=(.next m',T')/\
  (t.B1 (λb=>b=t.wg) bc l hc hs hb).St t.j 0 (t.sS fr) (born prog (call56 t.wg t.cb kb t.sb t.ub t.db)) (yq J c1 c2 c3) m' T':=by
 obtain⟨gs,w,sl,q,au2,rfl,e1,e2,e3,e4,e5,e6⟩:=nC;have nM:0<gs.size:=(Array.getElem?_eq_some_iff.1 e1).1;obtain⟨S,hS⟩:∃S:Loc->Prop,S=λl=>∃x:Addr,l=.cell x/\(au2 x.block\/x.block=w.heap.size):=⟨_,rfl⟩
 have lW:Lone prog S (OfWg w.heap.size) (w.heap.size+1) gs w T q 0:=by
  have h0:=Lone.of (Q:=λ_=>False) nM e2 e3 (λ_ _ _ h=>h.elim);refine⟨h0.pos,h0.gU,h0.above,h0.d0,(h0.past.mono aa).apB (λl ⟨x,h1,h2⟩=>by rw[hS];exact⟨x,h1,.inl h2⟩),λop aS x ⟨y,hy,pq⟩ KH=>?_⟩;obtain rfl:y=x:=by simpa using hy.symm
  have:=h0.past.seen op aS;rw[KH]at this;have:y.block<w.heap.size:=this;omega
 have old:∀{b:Nat} {o:Obj},J.f b=some o->b<w.heap.size/\¬au2 b/\w.heap[b]? =some o:=λh=>⟨e4.lt h,e4.sB h,e4.heap h⟩;have te:∀(v:World) (x:World) (dd:Nat),(∃d,x=v.at d)->∃d,x.at dd=v.at d:=λv x dd ⟨d,h⟩=>⟨dd,by rw[h];rfl⟩;have h0:LS S (OfWg w.heap.size) (w.heap.size+1) (G (bV.at a [.code ry]) cs) 0 (λx=>∃d,x=w.at d) (crowd gs w sl) T:=⟨gs,w,sl,q,rfl,e1,lW,w.drawn,rfl⟩;have p1:=h0.ctl (g':=G (bV.at a [.code (.region 2 g2 false),.code (.seq (.region 3 g3 false) (.seq (.region 4 g4 false) iK))]) cs) rfl (te w) (λw=>by rw[aoQ];exact stepG_seq)
 have p2:=two p1 λm T h=>h.ctl (g':=G (bV.at a [.inRegion g2 [0],.code (.seq (.region 3 g3 false) (.seq (.region 4 g4 false) iK))]) cs) rfl (te w) (λw=>by
  have hr:List.range g2.size=[0]:=ah
  rw[<-hr];exact stepG_region)
 obtain⟨ps,af,ty,ho⟩:=adH
 have p3:=two p2 λm T h=>h.step (g':=G (bV.at (a.put (some 7) (pV w.heap.size)) [.inRegion g2 [],.code (.seq (.region 3 g3 false) (.seq (.region 4 g4 false) iK))]) cs) (R':=λx=>∃d,x=(w.alloc (wgBlock 131 0 0)).at d) rfl (te w) (λx ⟨d,hx⟩=>by
  subst hx
  exact⟨_,XM ho _,d,rfl⟩)
 have Dp:=ha.put (dst:=some 7) ai (pV w.heap.size);obtain⟨a7,ea7⟩:∃a7,a7=a.put (some 7) (pV w.heap.size):=⟨_,rfl⟩;rw[<-ea7]at p3 Dp;have p4:=two p3 λm T h=>h.ctl (g':=G (bV.at a7 [.code (.seq (.region 3 g3 false) (.seq (.region 4 g4 false) iK))]) cs) rfl (te _) (λw=>stepG_region_end);have p5:=two p4 λm T h=>h.ctl (g':=G (bV.at a7 [.code (.region 3 g3 false),.code (.seq (.region 4 g4 false) iK)]) cs) rfl (te _) (λw=>stepG_seq)
 have p6:=two p5 λm T h=>h.ctl (g':=G (bV.at a7 [.inRegion g3 [0],.code (.seq (.region 4 g4 false) iK)]) cs) rfl (te _) (λw=>by
  have hr:List.range g3.size=[0]:=ah
  rw[<-hr];exact stepG_region)
 have v7:a7.eval (.tmp 7)=pV w.heap.size:=by rw[Dp.eval];simp[ak,aB,up]
 have p7:=two p6 λm T h=>h.ctl rfl (te _) (λw=>Xs v7 w);have mE:=old hE.c
 have p8:∃N m' T',runNT prog N (crowd gs w sl) T=(.next m',T')/\LS S (OfWg w.heap.size) (w.heap.size+1) (G (bV.at (a7.put ((g3[0]?).bind (·.dst)) (.tuple #[])) [.inRegion g3 [],.code (.seq (.region 4 g4 false) iK)]) cs) 0 (λx=>∃d,x=(wS w).at d) m' T':=by
  refine two p7 λm T ⟨cg,w',bE,q',h1,h2,h3,d,h4⟩=>?_;subst h1 h4
  obtain⟨N,xF,w2,xo,T2,q2,k1,k2,k3,k4,dd,k5⟩:=akp (C:=cb) h3 h2 (by show(w.heap.push _)[w.heap.size]? =_;simp) aa aa (λx hx hs=>by
   rw[hS]at hs
   obtain⟨y,hy,h⟩:=hs
   obtain rfl:y=x:=by simpa using hy.symm
   rw[hx]at h
   rcases h with h|h
   ·exact mE.2.1 h
   ·omega)
  exact⟨N,_,T2,k1,xF,w2,xo,q2,rfl,k3,k4,dd,k5⟩
 obtain⟨ps3,af3,ty3,asv,ho3⟩:=Q4;have ed:(g3[0]?).bind (·.dst)=some 12:=by rw[ho3];rfl
 rw[ed]at p8;have pc:=Dp.put (dst:=some 12) ai (.tuple #[]);obtain⟨a8,ea8⟩:∃a8,a8=a7.put (some 12) (.tuple #[]):=⟨_,rfl⟩;rw[<-ea8]at p8 pc;have p9:=two p8 λm T h=>h.ctl (g':=G (bV.at a8 [.code (.seq (.region 4 g4 false) iK)]) cs) rfl (te _) (λw=>stepG_region_end);have p10:=two p9 λm T h=>h.ctl (g':=G (bV.at a8 [.code (.region 4 g4 false),.code iK]) cs) rfl (te _) (λw=>stepG_seq)
 have p11:=two p10 λm T h=>h.ctl (g':=G (bV.at a8 [.inRegion g4 [0,1],.code iK]) cs) rfl (te _) (λw=>by
  have hr:List.range g4.size=[0,1]:=ah
  rw[<-hr];exact stepG_region)
 have u7:a8.eval (.tmp 7)=pV w.heap.size:=by rw[pc.eval];simp[ak,aB,up]
 have u2:a8.eval (.tmp 2)=pV cb:=by rw[pc.eval];simp[ak,aB,up,r2]
 have u3:a8.eval (.tmp 3)=pV kb:=by rw[pc.eval];simp[ak,aB,up,r3]
 have u4:a8.eval (.tmp 4)=pV sb:=by rw[pc.eval];simp[ak,aB,up,r4]
 have u5:a8.eval (.tmp 5)=pV ub:=by rw[pc.eval];simp[ak,aB,up,r5]
 have u6:a8.eval (.tmp 6)=pV db:=by rw[pc.eval];simp[ak,aB,up,r6]
 have qn:=two p11 λm T h=>h.ctl rfl (te _) (λw=>adF u7 u2 u3 u4 u5 u6 w);have KG:=pc.put (dst:=some 13) ai (.func (.func 56) #[] (oR w.heap.size cb kb sb ub db));obtain⟨a9,ea9⟩:∃a9,a9=a8.put (some 13) (.func (.func 56) #[] (oR w.heap.size cb kb sb ub db)):=⟨_,rfl⟩;rw[<-ea9]at qn KG;have u13:a9.eval (.tmp 13)=.func (.func 56) #[] (oR w.heap.size cb kb sb ub db):=by rw[KG.eval];simp[ak,aB,up]
 obtain⟨N1,m1,T1,fz,Rk,w1,Ni,q1,rfl,g1,l1,d1,rfl⟩:=qn;have aha:=l1.pos;have gv:=old hE.u;have nP:=old hE.s;have zq:=old hE.d;have tu:=old hE.k;have GF:=old (hE.le _ _ hb);have cG:=old hE.h1;have dX:=old hE.h2;have lv:=old hE.h3;have BT:∀{x c:Nat} {o:Obj},J.f x=some o->J.f c=some nR->o≠nR->x≠c:=λh1 h2 h3 e=>by rw[e,h2]at h1;exact h3 (Option.some.inj h1).symm
 have nb:∀{x y:Nat} {o p:Obj},J.f x=some o->J.f y=some p->o≠p->x≠y:=λh1 h2 h3 e=>by rw[e,h2]at h1;exact h3 (Option.some.inj h1).symm
 have oc:∀{c:Array Value} {e:Nat} {z:Nat×Nat},Obj.cells c e z≠nR:=λh=>by simp[nR]at h
 let t:Tk:={W:=W,j:=Rk.size,c1:=c1,c2:=c2,c3:=c3,cb:=cb,sb:=sb,ub:=ub,db:=db,wg:=w.heap.size,Jh:=au2,Bd:=w.heap.size+1,cs:=cs,cw:=[],IE:=wgBlock 131 KK 0,hj:=aha,d12:=hE.d12,d13:=hE.d13,d23:=hE.d23
            gv:=⟨BT hE.u hE.h1 oc,BT hE.u hE.h2 oc,BT hE.u hE.h3 oc,aa,gv.2.1,aa⟩
            Hq:=⟨aa,aa,aa⟩}
 have ok:∀{x:Nat} {c:Array Value} {e:Nat} {z:Nat×Nat},J.f x=some (.cells c e z)->e≠120->t.Ok x:=λh he=>by have ho:=old h;exact⟨BT h hE.h1 oc,BT h hE.h2 oc,BT h hE.h3 oc,by show _≠w.heap.size;omega,nb h hE.u (λe=>by simp at e;exact he e.2.1),ho.2.1,by show _<w.heap.size+1;omega⟩
 have oH:t.Ok t.cb:=ok hE.c ai;have oks:t.Ok t.sb:=ok hE.s ai;have MR:t.Ok t.db:=ok hE.d ai;have xb:t.Ok bc:=ok (hE.le _ _ hb) ai;have xO:∀{b:Nat} {o:Obj},J.f b=some o->((wS w).at d1).heap[b]? =some o:=λh=>(arA (old h).1).trans (old h).2.2
 have mB:t.K1 bc l ((wS w).at d1):=⟨⟨xO hE.u,arB w⟩,xO hE.c,xO hE.s,(l[3]?).getD undef,by
  have:l.set 3 ((l[3]?).getD undef)=l:=by
   apply List.ext_getElem?
   intro i
   rw[List.getElem?_set]
   split
   ·rename_i h;subst h
    have:3<l.length:=by rw[mF.len];decide
    simp[this]
   ·rfl
  rw[this];exact xO (hE.le _ _ hb)⟩
 have hh:∃n,eE prog true (t.B1 (λb=>b=t.wg) bc l oH oks xb).KW (t.B1 (λb=>b=t.wg) bc l oH oks xb).Still (t.B1 (λb=>b=t.wg) bc l oH oks xb).B (t.sS fr) n (G (bV.at a9 [.inRegion g4 [],.code iK]) cs):=by
  refine⟨_,.inl ⟨_,rfl,Way.ctl (n:=25) (λw=>stepG_region_end) rfl ?_⟩⟩;rw[akE];refine Way.ctl (λw=>stepG_seq) rfl ?_;refine Way.ctl (λw=>stepG_block) rfl ?_;refine Way.ctl (λw=>stepG_loop) rfl ?_;refine arG (bc:=bc) (bg:=bg) (ph:=ph) (fr:=fr) hp (λw ⟨h1,h2,h3,r,h4⟩=>⟨⟨λb=>w.heap[b]?⟩,⟨h2,h3,_,_,h4,⟨?_,?_,?_,?_⟩⟩,λ_ _ h=>h⟩) (λa ha=>⟨.inr ⟨a,rfl,ha⟩,(Tk.Vd oH oks xb ha).lt⟩) KG ⟨?_,?_,?_,?_,?_⟩
  ·have:=u2;rw[pc.eval]at this;simpa[aB,up,ak]using this
  ·have:=u4;rw[pc.eval]at this;simpa[aB,up,ak]using this
  ·have:=u5;rw[pc.eval]at this;simpa[aB,up,ak]using this
  ·have:=u6;rw[pc.eval]at this;simpa[aB,up,ak]using this
  ·simp only[aB,up];rfl
  ·simpa using mF.len
  ·simpa using mF.g
  ·simpa using mF.ph
  ·simpa using mF.fr
 obtain⟨n,hh⟩:=hh;have xJ:(t.B1 (λb=>b=t.wg) bc l oH oks xb).S=S:=by rw[hS];rfl
 have aho:cR (λb=>au2 b\/b=w.heap.size\/b=c1\/b=c2\/b=c3) ((wS w).at d1) (yq J c1 c2 c3):=by
  refine⟨λ{b o} h=>xO (Hp.amE _ _ _ _ h),λb hb=>?_,λb hb=>?_⟩
  ·simp only[yq,Hp.only];split
   ·rename_i aE;rcases hb with hb|rfl|rfl|rfl|rfl
    ·exact e4.fP b hb
    ·cases e:J.f w.heap.size with
     |none=>rfl
     |some o=>exact absurd (old e).1 aa
    ·exact absurd rfl aE.1
    ·exact absurd rfl aE.2.1
    ·exact absurd rfl aE.2.2
   ·rfl
  ·show b<(wS w).heap.size;rw[NP];rcases hb with hb|rfl|rfl|rfl|rfl
   ·have:=e4.low b hb;omega
   ·omega
   ·omega
   ·omega
   ·omega
 have agi:∀b,(t.B1 (λb=>b=t.wg) bc l oH oks xb).Hid b->(λb=>au2 b\/b=w.heap.size\/b=c1\/b=c2\/b=c3) b:=by
  intro b hb;rcases hb with hb|hb|⟨x,hx,hb|hb⟩
  ·exact .inr (.inl hb)
  ·rcases hb with rfl|rfl|rfl
   ·exact .inr (.inr (.inl rfl))
   ·exact .inr (.inr (.inr (.inl rfl)))
   ·exact .inr (.inr (.inr (.inr rfl)))
  ·obtain⟨y,hy,h⟩:=hb;obtain rfl:y=x:=by simpa using hy.symm
   rcases h with h|h
   ·exact .inl (hx▸h)
   ·exact .inr (.inl (hx▸h))
  ·obtain⟨y,hy,h⟩:=hb;obtain rfl:y=x:=by simpa using hy.symm
   exact .inr (.inl (hx▸h))
 obtain⟨N2,m2,T2,bZ,sH⟩:=l1.spawn g1 rfl Ni (λdd=>aey u13 _) (D:=t.B1 (λb=>b=t.wg) bc l oH oks xb) (s:=t.sS fr) (U:=yq J c1 c2 c3) (au2:=λb=>au2 b\/b=w.heap.size\/b=c1\/b=c2\/b=c3) rfl (by show _<=(wS w).heap.size;rw[NP];exact Nat.le_refl _) xJ rfl hh mB
  (λc cT=>by
   rcases cT with rfl|rfl|rfl
   ·exact⟨0,xO hE.h1⟩
   ·exact⟨0,xO hE.h2⟩
   ·exact⟨0,xO hE.h3⟩) (by show _<=(wS w).heap.size;rw[NP];exact Nat.le_refl _) ⟨e5.os,e5.tape,e5.output⟩
  aho agi
 exact⟨t,oH,oks,MR,xb,_,m2,T2,rfl,rfl,rfl,rfl,rfl,rfl,rfl,rfl,rfl,rfl,runNT_then fz bZ,sH⟩
end
section
open Go.Proofs
open Go.ConcX (wgBlock KK)
def adb(F:FS){W:World}{a:F.γ}{kL φ0:Hp}{ch:List UInt8}(gq:F.oH a ch)(hI:F.au1 a kL)(hd:kL.eC φ0)(hp:F.ph a≠5)(hn:ch.length<=4611686018427387904):
 ay (solo prog W) 40 #[pV F.bc,.string (B ch)] (kL.bL φ0) λe J=>e=.returned (.tuple #[])/\∃a' ae,F.Loop (F.add a ch) a'/\F.au1 a' ae/\ae.eC φ0/\J=ae.bL φ0:=by
 intro cs m T hm;obtain⟨N1,m1,T1,g1,J,fz,mR,cb,kb,sb,ub,db,c1,c2,c3,hE,I,ac,ha,r2,r3,r4,r5,r6,rfl⟩:=entry (E:=solo prog W) (U:=kL.bL φ0) (bc:=F.bc) (ch:=ch) (cs:=cs) m T hm;obtain⟨l,hl,mF,iA⟩:=F.conn hI;obtain⟨t,oH,oks,MR,xb,N2,m2,T2,z0,z1,z2,z3,z4,z5,z6,z7,z8,z9,bZ,sH⟩:=ada (W:=W) (bg:=F.bg) (ph:=F.ph a) (fr:=F.fr a) mR ha r2 r3 r4 r5 r6 hE (Hp.jT hl) mF hp;subst z1 z2 z3 z4 z5 z6 z7;have s0:∀{b:Nat},(kL.bL φ0).f b=none->kL.f b=none:=λh=>uj (Hp.ajZ kL φ0) h
 have p0:∀{b:Nat},(kL.bL φ0).f b=none->φ0.f b=none:=λh=>by have:=s0 h;rw[Hp.qw this]at h;exact h
 obtain⟨φ,BD⟩:∃φ,φ=((φ0.set t.cb (.cells #[pV F.bc] 70 (0,0))).set t.sb (.cells #[.chan (some t.c1)] 119 (0,0))).set t.db (.cells #[.chan (some t.c3)] 121 (0,0)):=⟨_,rfl⟩;have nb:∀{x y:Nat} {o p:Obj},J.f x=some o->J.f y=some p->o≠p->x≠y:=λh1 h2 h3 e=>by rw[e,h2]at h1;exact h3 (Option.some.inj h1).symm
 have ncs:t.cb≠t.sb:=nb hE.c hE.s al;have Uj:t.cb≠t.db:=nb hE.c hE.d al;have nsd:t.sb≠t.db:=nb hE.s hE.d al;have nuc:t.ub≠t.cb:=nb hE.u hE.c al;have nus:t.ub≠t.sb:=nb hE.u hE.s al;have nud:t.ub≠t.db:=nb hE.u hE.d al;have fc:φ.f t.cb=some (.cells #[pV F.bc] 70 (0,0)):=by rw[BD];simp[Hp.set,ncs,Uj]
 have fs:φ.f t.sb=some (.cells #[.chan (some t.c1)] 119 (0,0)):=by rw[BD];simp[Hp.set,nsd]
 have fd:φ.f t.db=some (.cells #[.chan (some t.c3)] 121 (0,0)):=by rw[BD];simp[Hp.set]
 have fo:∀{b:Nat},b≠t.cb->b≠t.sb->b≠t.db->φ.f b=φ0.f b:=λh1 h2 h3=>by rw[BD];simp[Hp.set,h1,h2,h3]
 have Su:φ0.le φ:=by
  intro b o hb;have h1:b≠t.cb:=λe=>by rw[e,p0 hE.nc]at hb;cases hb
  have h2:b≠t.sb:=λe=>by rw[e,p0 hE.ns]at hb;cases hb
  have h3:b≠t.db:=λe=>by rw[e,p0 hE.nd]at hb;cases hb
  rw[fo h1 h2 h3];exact hb
 have afT:kL.eC φ:=by
  intro b;by_cases h1:b=t.cb
  ·subst h1;exact .inl (s0 hE.nc)
  by_cases h2:b=t.sb
  ·subst h2;exact .inl (s0 hE.ns)
  by_cases h3:b=t.db
  ·subst h3;exact .inl (s0 hE.nd)
  rw[fo h1 h2 h3];exact hd b
 have nE:Bx F t.cb t.sb t.db t.c1 t.c3 φ:=⟨fc,fs,fd⟩
 have gv:(kL.bL φ).f t.ub=none:=by rw[Hp.qw (s0 hE.nu),fo nuc nus nud];exact p0 hE.nu
 have alS:∀{b:Nat} {o:Obj},J.f b=some o->o≠nR->b≠t.c1/\b≠t.c2/\b≠t.c3:=λh ho=>⟨nb h hE.h1 ho,nb h hE.h2 ho,nb h hE.h3 ho⟩;have Tj:∀{b:Nat} {o:Obj},J.f b=some o->b≠t.c1/\b≠t.c2/\b≠t.c3->(yq J t.c1 t.c2 t.c3).f b=some o:=λh hb=>Hp.HT h hb;have oc:∀{c:Array Value} {e:Nat} {z:Nat×Nat},Obj.cells c e z≠nR:=λh=>by simp[nR]at h
 have oe:∀{b:Nat} {c:Array Value} {e:Nat} {z:Nat×Nat},J.f b=some (.cells c e z)->(yq J t.c1 t.c2 t.c3).f b=some (.cells c e z):=λh=>Tj h (alS h oc)
 have hle:(kL.bL φ).le (yq J t.c1 t.c2 t.c3):=by
  intro b o hb;by_cases h1:b=t.cb
  ·subst h1;rw[Hp.qw (s0 hE.nc),fc]at hb;cases hb;exact oe hE.c
  by_cases h2:b=t.sb
  ·subst h2;rw[Hp.qw (s0 hE.ns),fs]at hb;cases hb;exact oe hE.s
  by_cases h3:b=t.db
  ·subst h3;rw[Hp.qw (s0 hE.nd),fd]at hb;cases hb;exact oe hE.d
  have mC:(kL.bL φ0).f b=some o:=by simp only[Hp.bL]at hb|-;rw[fo h1 h2 h3]at hb;exact hb
  refine Tj (hE.le _ _ mC) ⟨?_,?_,?_⟩
  ·intro e;rw[e,hE.n1]at mC;cases mC
  ·intro e;rw[e,hE.n2]at mC;cases mC
  ·intro e;rw[e,hE.n3]at mC;cases mC
 have hW:Bw t F.bc kb l ch (yq J t.c1 t.c2 t.c3):=⟨oe hE.c,oe hE.k,oe hE.s,oe hE.u,oe hE.d,oe (hE.le _ _ (Hp.jT hl))⟩;obtain⟨N3,m3,T3,a',ae,g',cw,eN,agN,Dd,jH,qd,hT',rD⟩:=adg F gq hI afT nE gv hp hle hW hn iA mF hl sH;have HS:∀{b:Nat},t.Ok b->Tk.Ok {t with cw:=cw} b:=λh=>⟨h.n1,h.n2,h.n3,h.nw,h.nu,h.nj,h.lt⟩;obtain⟨N4,m4,T4,a4,uN,tp,Cg⟩:=adf (t:={t with cw:=cw}) (bc:=F.bc) (U:=ae.bL φ) (vb:=pV F.bc) z9 (HS oH) (HS MR) Uj qd (Hp.vc jH _ _ fc) (Hp.vc jH _ _ fd) hT' rD
 have agJ:(ae.bL φ0).le (ae.bL φ):=by
  intro b o hb;rcases Hp.IC hb with h1|⟨h1,h2⟩
  ·exact Hp.jT h1
  ·rw[Hp.qw h1];exact Su _ _ h2
 have afQ:ae.eC φ0:=by
  intro b;rcases jH b with h|h
  ·exact .inl h
  ·right
   cases e:φ0.f b with
   |none=>rfl
   |some o=>rw[Su _ _ e]at h;cases h
 have kD:ax (solo prog W) (G (bV.at a4 [.inRegion mi []]) cs) (ae.bL φ) λg J=>∃e fr,g=G fr cs/\fr.fn=40/\Leaving prog fr J e/\(e=.returned (.tuple #[])/\∃a' ae,F.Loop (F.add a ch) a'/\F.au1 a' ae/\ae.eC φ0/\J=ae.bL φ0):=by
  refine ax.iQ (J:=ae.bL φ0) ?_ agJ;refine ax.ctl (λw=>stepG_region_end) rfl rfl ?_;refine ax.ctl (λw=>stepG_end) rfl rfl (ax.here ⟨.returned (.tuple #[]),_,rfl,rfl,⟨rfl,tp,rfl,_,func40,?_⟩,rfl,a',ae,agN,Dd,afQ,rfl⟩);have:(results f40 a4.tmps)=pure (.tuple #[]):=by simp[results,f40]
  show wpS prog (results f40 a4.tmps) _ _ _;rw[this];exact⟨rfl,rfl⟩
 have VL:yT prog t.W (G (bV.at a4 [.inRegion mi []]) t.cs) (ae.bL φ) m4 T4:=Cg;rw[z0,z8]at VL;obtain⟨N5,m5,T5,g5,dx,He,Ar,fC⟩:=kD m4 T4 VL;exact⟨_,m5,T5,g5,dx,runNT_then (runNT_then (runNT_then (runNT_then fz bZ) eN) uN) He,Ar,fC⟩
end
end Go.Qw
