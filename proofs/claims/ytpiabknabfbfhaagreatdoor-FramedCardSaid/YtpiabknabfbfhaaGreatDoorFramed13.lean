/- 13 -/
import Derived.Test.YtpiabknabfbfhaaGreatDoorFramed08
import Derived.Test.YtpiabknabfbfhaaGreatDoorFramed12
set_option linter.all false
set_option maxRecDepth 100000
set_option maxHeartbeats 8000000
namespace Go.Qw
open Go Go.Conc Go.Proofs Go.Proofs.Tryz
def bM:Code->Code| .seq x _=>x|c=>c
def aO:Code->Code| .seq _ y=>y|c=>c
def dO:Code->Code| .block _ c=>c| .loop c=>c|c=>c
def EV:Code->Code| .cond _ x _=>x|c=>c
def bK:Code->Array Oper| .region _ o _=>o|_=>#[]
noncomputable def jb:Code:=f40.body.getD .skip
noncomputable def iA:Code:=aO (aO (aO (aO (aO jb))))
noncomputable def lS:Code:=dO (dO (bM iA))
noncomputable def ra:Code:=aO iA
noncomputable def ky:Code:=dO (aO lS)
noncomputable def o5:Array Oper:=bK (bM (bM lS))
noncomputable def o6:Array Oper:=bK (bM ky)
noncomputable def pY:List Item:=[.inBlock 1,.inLoop lS,.inBlock 0,.code ra]
def bT:Frame:={(default:Frame)with fn:=40,kind:=.normal}
def ajd:iA=.seq (.block 0 (.loop lS)) ra:=ah
def GU:lS=.seq (.seq (.region 5 o5 false) (.cond (.tmp 18) .skip (.exit 0))) (.block 1 ky):=ah
def R4:ky=.seq (.region 6 o6 true) (aO ky):=ah
structure Fx (cb sb ub db wg:Nat) (I:av):Prop where
 c:I 2=pV cb
 s:I 4=pV sb
 u:I 5=pV ub
 d:I 6=pV db
 w:I 7=pV wg
def V6:Aa o6 o6.size (Array.replicate o6.size false)=[[0,1,2,3,4,5],[1,0,2,3,4,5],[1,2,0,3,4,5],[1,2,3,0,4,5],[1,2,3,4,0,5]]:=ah
structure Cn (bg:Nat) (ph fr:Int) (c:List Value):Prop where
 len:c.length=12
 g:c[0]? =some (pV bg)
 ph:c[2]? =some (.int .i64 ph)
 fr:c[7]? =some (.int .i64 fr)
structure Fam (cb sb bc c1 bg:Nat) (ph fr:Int) (κ:Hp):Prop where
 c:κ.f cb=some (.cells #[pV bc] 70 (0,0))
 s:κ.f sb=some (.cells #[.chan (some c1)] 119 (0,0))
 b:∃l z,κ.f bc=some (.cells l.toArray 90 z)/\Cn bg ph fr l
def Rd(cb sb bc:Nat)(a:Addr):Prop:=a=⟨cb,0,none⟩\/a=⟨sb,0,none⟩\/a=⟨bc,2,none⟩\/a=⟨bc,7,none⟩
def oH{κ:Hp}{b:Nat}{c:Array Value}{e:TypeId}{z:Nat×Nat}{o:Nat}{v:Value}(h:κ.f b=some (.cells c e z))(hv:c[o]? =some v):κ.cell? ⟨b,o,none⟩=some v:=by simp[Hp.cell?,h,hv]
variable {cb sb ub db wg:Nat}{I:av}
def Fx.up (h:Fx cb sb ub db wg I){d:Nat}(hd:8<=d)(v:Value):Fx cb sb ub db wg (up I d v):=by obtain⟨h1,h2,h3,h4,h5⟩:=h;constructor<;>(simp only[Qw.up];rw[if_neg aa];assumption)
variable {bc c1 bg:Nat}{ph fr:Int}{Q:av->Prop}
def an6(hp:ph≠5)(hF:Fx cb sb ub db wg I)(hQ:∀aC,Fx cb sb ub db wg aC->aC 18=.bool true->Q aC):dM prog 52 o5 (Fam cb sb bc c1 bg ph fr) (Rd cb sb bc) Q [0,1,2,3,4] I:=by simp only[o5,lS,iA,jb,f40,Option.getD_some,aO,bM,dO,bK];refine py (a:=⟨cb,0,none⟩) (v:=pV bc) rfl an hF.c ah ah (.inl rfl) (λκ h=>oH h.c rfl) ?_;refine uP (a:=⟨bc,0,none⟩) rfl an (by simp[ai,up]) ?_;refine uO (a:=⟨bc,0,none⟩) (off:=2) rfl an (by simp[ai,up]) ah ?_;refine py (a:=⟨bc,2,none⟩) (v:=.int .i64 ph) rfl an (by simp[ai,up,Addr.add]) ah ah (.inr (.inr (.inl rfl))) (λκ h=>by obtain⟨l,z,h1,h2⟩:=h.b;exact oH h1 (by simpa using h2.ph)) ?_;refine Ez (v:=.bool true) rfl an (by simp[ai,up,cL,hp]) ?_;refine hQ _ ?_ (by simp[up]);exact((((hF.up an _).up an _).up an _).up an _).up an _
def an9(hF:Fx cb sb ub db wg I)(hQ:∀aC,Fx cb sb ub db wg aC->aC 18=.bool (ph !=5)->Q aC):dM prog 52 o5 (Fam cb sb bc c1 bg ph fr) (Rd cb sb bc) Q [0,1,2,3,4] I:=by simp only[o5,lS,iA,jb,f40,Option.getD_some,aO,bM,dO,bK];refine py (a:=⟨cb,0,none⟩) (v:=pV bc) rfl an hF.c ah ah (.inl rfl) (λκ h=>oH h.c rfl) ?_;refine uP (a:=⟨bc,0,none⟩) rfl an (by simp[ai,up]) ?_;refine uO (a:=⟨bc,0,none⟩) (off:=2) rfl an (by simp[ai,up]) ah ?_;refine py (a:=⟨bc,2,none⟩) (v:=.int .i64 ph) rfl an (by simp[ai,up,Addr.add]) ah ah (.inr (.inr (.inl rfl))) (λκ h=>by obtain⟨l,z,h1,h2⟩:=h.b;exact oH h1 (by simpa using h2.ph)) ?_;refine Ez (v:=.bool (ph !=5)) rfl an (by simp[ai,up,cL]) ?_;refine hQ _ ?_ (by simp[up]);exact((((hF.up an _).up an _).up an _).up an _).up an _
def AtSend(cb sb ub db wg c1:Nat)(fr:Int)(I:av):Prop:=Fx cb sb ub db wg I/\I 19=.chan (some c1)/\I 23=.int .i64 fr
def Uz(hF:Fx cb sb ub db wg I){p:List Nat}(hp:p∈[[0,1,2,3,4],[1,0,2,3,4],[1,2,0,3,4],[1,2,3,0,4],[1,2,3,4,0]]):dM prog 52 o6 (Fam cb sb bc c1 bg ph fr) (Rd cb sb bc) (AtSend cb sb ub db wg c1 fr) p I:=by
 simp only[o6,ky,lS,iA,jb,f40,Option.getD_some,aO,bM,dO,bK]
 have DR:∀{rest:List Nat} {I:av},Fx cb sb ub db wg I->∀{ops:Array Oper} {ps:String} {af:Array Edge} {ty:Nat} {Q:av->Prop},ops[0]? =some {dst:=some 19,op:=.load 119 (.tmp 4),type:=ty,pos:=ps,after:=af,guard:=none}->
  dM prog 52 ops (Fam cb sb bc c1 bg ph fr) (Rd cb sb bc) Q rest (up I 19 (.chan (some c1)))->dM prog 52 ops (Fam cb sb bc c1 bg ph fr) (Rd cb sb bc) Q (0::rest) I:=by
  intro rest I hF ops ps af ty Q ho k;exact py (a:=⟨sb,0,none⟩) (v:=.chan (some c1)) ho an hF.s ah ah (.inr (.inl rfl)) (λκ h=>oH h.s rfl) k
 have DT:∀{rest:List Nat} {I:av},Fx cb sb ub db wg I->∀{ops:Array Oper} {ps:String} {af:Array Edge} {ty:Nat} {Q:av->Prop},ops[1]? =some {dst:=some 20,op:=.load 70 (.tmp 2),type:=ty,pos:=ps,after:=af,guard:=none}->
  dM prog 52 ops (Fam cb sb bc c1 bg ph fr) (Rd cb sb bc) Q rest (up I 20 (pV bc))->dM prog 52 ops (Fam cb sb bc c1 bg ph fr) (Rd cb sb bc) Q (1::rest) I:=by
  intro rest I hF ops ps af ty Q ho k;exact py (a:=⟨cb,0,none⟩) (v:=pV bc) ho an hF.c ah ah (.inl rfl) (λκ h=>oH h.c rfl) k
 have DU:∀{rest:List Nat} {I:av},I 22=.pointer (some ⟨bc,7,none⟩)->∀{ops:Array Oper} {ps:String} {af:Array Edge} {ty:Nat} {Q:av->Prop},ops[4]? =some {dst:=some 23,op:=.load 3 (.tmp 22),type:=ty,pos:=ps,after:=af,guard:=none}->
  dM prog 52 ops (Fam cb sb bc c1 bg ph fr) (Rd cb sb bc) Q rest (up I 23 (.int .i64 fr))->dM prog 52 ops (Fam cb sb bc c1 bg ph fr) (Rd cb sb bc) Q (4::rest) I:=by
  intro rest I hF ops ps af ty Q ho k;exact py (a:=⟨bc,7,none⟩) (v:=.int .i64 fr) ho an hF ah ah (.inr (.inr (.inr rfl))) (λκ h=>by obtain⟨l,z,h1,h2⟩:=h.b;exact oH h1 (by simpa using h2.fr)) k
 have fin:∀{I:av},Fx cb sb ub db wg I->I 19=.chan (some c1)->I 23=.int .i64 fr->AtSend cb sb ub db wg c1 fr I:=λh1 h2 h3=>⟨h1,h2,h3⟩;simp only[List.mem_cons,List.not_mem_nil,or_false]at hp;rcases hp with rfl|rfl|rfl|rfl|rfl
 ·refine DR hF rfl (DT (hF.up an _) rfl ?_);refine uP (a:=⟨bc,0,none⟩) rfl an (by simp[ai,up]) ?_;refine uO (a:=⟨bc,0,none⟩) (off:=7) rfl an (by simp[ai,up]) ah ?_;refine DU (by simp[up,Addr.add]) rfl ?_;exact fin ((((((hF.up an _).up an _).up an _).up an _).up an _)) (by simp[up]) (by simp[up])
 ·refine DT hF rfl (DR (hF.up an _) rfl ?_);refine uP (a:=⟨bc,0,none⟩) rfl an (by simp[ai,up]) ?_;refine uO (a:=⟨bc,0,none⟩) (off:=7) rfl an (by simp[ai,up]) ah ?_;refine DU (by simp[up,Addr.add]) rfl ?_;exact fin ((((((hF.up an _).up an _).up an _).up an _).up an _)) (by simp[up]) (by simp[up])
 ·refine DT hF rfl ?_;refine uP (a:=⟨bc,0,none⟩) rfl an (by simp[ai,up]) ?_;refine DR ((hF.up an _).up an _) rfl ?_;refine uO (a:=⟨bc,0,none⟩) (off:=7) rfl an (by simp[ai,up]) ah ?_;refine DU (by simp[up,Addr.add]) rfl ?_;exact fin ((((((hF.up an _).up an _).up an _).up an _).up an _)) (by simp[up]) (by simp[up])
 ·refine DT hF rfl ?_;refine uP (a:=⟨bc,0,none⟩) rfl an (by simp[ai,up]) ?_;refine uO (a:=⟨bc,0,none⟩) (off:=7) rfl an (by simp[ai,up]) ah ?_;refine DR (((hF.up an _).up an _).up an _) rfl ?_;refine DU (by simp[up,Addr.add]) rfl ?_;exact fin ((((((hF.up an _).up an _).up an _).up an _).up an _)) (by simp[up]) (by simp[up])
 ·refine DT hF rfl ?_;refine uP (a:=⟨bc,0,none⟩) rfl an (by simp[ai,up]) ?_;refine uO (a:=⟨bc,0,none⟩) (off:=7) rfl an (by simp[ai,up]) ah ?_;refine DU (by simp[up,Addr.add]) rfl ?_;refine DR ((((hF.up an _).up an _).up an _).up an _) rfl ?_;exact fin ((((((hF.up an _).up an _).up an _).up an _).up an _)) (by simp[up]) (by simp[up])
def Ug(t:Nat):∃p,Region.schedule (prog.follows .mixedOrders) o6 t=p++[5]/\p∈[[0,1,2,3,4],[1,0,2,3,4],[1,2,0,3,4],[1,2,3,0,4],[1,2,3,4,0]]:=by
 have hm:prog.follows .mixedOrders=true:=ah;have:=P5 o6 o6.size t (Array.replicate o6.size false);rw[V6]at this;simp only[Region.schedule,hm,Bool.true_or,if_true,Region.linearise];simp only[List.mem_cons,List.not_mem_nil,or_false]at this;rcases this with h|h|h|h|h
 ·exact⟨[0,1,2,3,4],h,an⟩
 ·exact⟨[1,0,2,3,4],h,an⟩
 ·exact⟨[1,2,0,3,4],h,an⟩
 ·exact⟨[1,2,3,0,4],h,an⟩
 ·exact⟨[1,2,3,4,0],h,an⟩
noncomputable def o7:Array Oper:=bK (bM (aO ky))
noncomputable def r8:Code:=aO (aO ky)
def anq:aO ky=.seq (.region 7 o7 false) r8:=ah
def zU:Value:=.agg #[.int .i64 0,.int .i64 0,.string {data:=#[]},.bool false,.bool false]
def Ib(cb sb ub db wg:Nat)(cs:List Frame)(g:Goroutine):Prop:=
 ∃I a,cM 52 a I []/\Fx cb sb ub db wg I/\g=G (bT.at a (.inRegion o6 [5]:: .code (aO ky)::pY)) cs
def Ev(cb sb ub db wg c1:Nat)(fr:Int)(cs:List Frame):Seat:={cases:=#[scase c1 (.int .i64 fr) (.tuple #[])],shape:=.send,home:=Ib cb sb ub db wg cs}
def To:∃ps af,o6[5]? =some {dst:=none,op:=.send (.tmp 19) (.tmp 23),type:=0,pos:=ps,after:=af,guard:=none}:=⟨_,_,by simp only[o6,ky,lS,iA,jb,f40,Option.getD_some,aO,bM,dO,bK];rfl⟩
variable {cs:List Frame}{K:World->Prop}{Still:Loc->Prop}{Bd:Nat}{main:Bool}{a:Act}
def N8(ha:cM 52 a I [])(h:AtSend cb sb ub db wg c1 fr I):
 AtIn prog main K Still Bd (Ev cb sb ub db wg c1 fr cs) (G (bT.at a (.inRegion o6 [5]:: .code (aO ky)::pY)) cs) (G (bT.at a (.inRegion o6 [5]:: .code (aO ky)::pY)) cs):=by
 obtain⟨ps,af,ho⟩:=To;obtain⟨h1,h2,h3⟩:=h;refine atIn_of ho rfl (by simp[bT]) (λw=>?_) (λw=>?_) ⟨I,a,ha,h1,rfl⟩
 ·simp[execOp,ha.eval,ai,h2,h3,Ev,scase]
 ·simp[execOp]
variable {cb sb ub db wg bc c1 bg:Nat}{ph fr:Int}{cs:List Frame}{K:World->Prop}{Still:Loc->Prop}{Bd:Nat}
theorem aqf (hp:ph≠5)(hK:∀w,K w->∃κ,Fam cb sb bc c1 bg ph fr κ/\∀b o,κ.f b=some o->w.heap[b]? =some o)(hS:∀a,Rd cb sb bc a->Still (.cell a)/\a.block<Bd){I:av}{a:Act}(ha:cM 52 a I [])(hF:Fx cb sb ub db wg I):
 Way prog true K Still Bd (Ev cb sb ub db wg c1 fr cs) 22 (G (bT.at a (.code lS:: .inLoop lS:: .inBlock 0:: .code ra::[])) cs):=by
 rw[GU];refine Way.ctl (λw=>stepG_seq) rfl ?_;refine Way.ctl (λw=>stepG_seq) rfl ?_;refine Way.region ?_;rw[<-GU];have hr:List.range o5.size=[0,1,2,3,4]++[]:=ah;rw[hr];refine Way.mono (n:=13+5) an ?_;refine EP hK hS (by simp[bT]) (Q:=λI=>Fx cb sb ub db wg I/\I 18=.bool true) (λI a ha ⟨hF,vr⟩=>?_) [0,1,2,3,4] I a (an6 hp hF λaC h1 h2=>⟨h1,h2⟩) ha;refine Way.ctl (λw=>stepG_region_end) rfl ?_;refine Way.ctl (λw=>stepG_cond (t:=true) (by rw[ha.eval];exact vr)) rfl ?_;refine Way.ctl (λw=>stepG_skip) rfl ?_;refine Way.ctl (λw=>stepG_block) rfl ?_;rw[R4];refine Way.ctl (λw=>stepG_seq) rfl ?_;refine Way.IU λt=>?_;obtain⟨p,Kx,AU⟩:=Ug t;rw[Kx];refine Way.mono (n:=0+p.length) ?_ (EP hK hS (by simp[bT]) (n:=0) (λI a ha h=>⟨_,N8 ha h⟩) p I a (Uz hF AU) ha);simp only[List.mem_cons,List.not_mem_nil,or_false]at AU;rcases AU with rfl|rfl|rfl|rfl|rfl<;>decide
def Nq(cb sb ub db wg:Nat)(cs:List Frame)(g:Goroutine):Prop:=
 ∃I a,cM 52 a I []/\Fx cb sb ub db wg I/\g=G (bT.at a (.inRegion o7 [1,2,3]:: .code r8::pY)) cs
def zD(cb sb ub db wg c2:Nat)(cs:List Frame):Seat:={cases:=#[rcase c2 zU],shape:=.recv false,home:=Nq cb sb ub db wg cs}
def akH:∃ps af,o7[0]? =some {dst:=some 24,op:=.load 120 (.tmp 5),type:=120,pos:=ps,after:=af,guard:=none}:=⟨_,_,by simp only[o7,ky,lS,iA,jb,f40,Option.getD_some,aO,bM,dO,bK];rfl⟩
def Tp:∃ps af,o7[1]? =some {dst:=some 25,op:=.recv 120 (.tmp 24) false,type:=135,pos:=ps,after:=af,guard:=none}:=⟨_,_,by simp only[o7,ky,lS,iA,jb,f40,Option.getD_some,aO,bM,dO,bK];rfl⟩
def Nl(ub c2:Nat)(κ:Hp):Prop:=κ.f ub=some (.cells #[.chan (some c2)] 120 (0,0))
variable {c2:Nat}
def Xm(ha:cM 52 a I [])(h1:Fx cb sb ub db wg I)(h2:I 24=.chan (some c2)):
 AtIn prog main K Still Bd (zD cb sb ub db wg c2 cs) (G (bT.at a (.inRegion o7 [1,2,3]:: .code r8::pY)) cs) (G (bT.at a (.inRegion o7 [1,2,3]:: .code r8::pY)) cs):=by
 obtain⟨ps,af,ho⟩:=Tp;refine atIn_of ho rfl (by simp[bT]) (λw=>?_) (λw=>?_) ⟨I,a,ha,h1,rfl⟩
 ·rw[ha.eval];simp[execOp,ai,h2,zD,rcase,zU,runUnderlying120,zeroValue135,go_sem]
 ·simp[execOp,go_sem]
def aqd(hK:∀w,K w->∃κ,Nl ub c2 κ/\∀b o,κ.f b=some o->w.heap[b]? =some o)(hS:Still (.cell ⟨ub,0,none⟩)/\ub<Bd){g:Goroutine}(h:Ib cb sb ub db wg cs g):
 Way prog true K Still Bd (zD cb sb ub db wg c2 cs) 4 (Go.Conc.served g undef):=by
 obtain⟨I,a,ha,hF,rfl⟩:=h;obtain⟨ps,af,ho⟩:=To
 have e:Go.Conc.served (G (bT.at a (.inRegion o6 [5]:: .code (aO ky)::pY)) cs) undef=G (bT.at a (.inRegion o6 []:: .code (aO ky)::pY)) cs:=by have:=Frame.finish_at bT a o6 5 [] (.code (aO ky)::pY) undef;rw[ho]at this;simp only[Go.Conc.served,G,this];rfl
 rw[e,anq];refine Way.ctl (λw=>stepG_region_end) rfl ?_;refine Way.ctl (λw=>stepG_seq) rfl ?_;refine Way.region ?_;have hr:List.range o7.size=[0]++[1,2,3]:=ah;rw[hr];obtain⟨ps0,af0,ho0⟩:=akH;refine EP (Ok:=λa=>a=⟨ub,0,none⟩) hK (λa ha=>by rw[ha];exact hS) (by simp[bT]) (n:=0) (Q:=λI=>Fx cb sb ub db wg I/\I 24=.chan (some c2)) (λI a ha ⟨h1,h2⟩=>⟨_,Xm ha h1 h2⟩) [0] I a ?_ ha;exact py (a:=⟨ub,0,none⟩) (v:=.chan (some c2)) ho0 an hF.u ah ah rfl (λκ h=>oH h rfl) ⟨hF.up an _,by simp[up]⟩
noncomputable def pC:Code:=f58.body.getD .skip
noncomputable def p0:Array Oper:=bK (bM pC)
noncomputable def kO:Code:=dO (dO (aO pC))
noncomputable def pd:Code:=dO kO
noncomputable def q1:Array Oper:=bK (bM (bM pd))
noncomputable def q2:Array Oper:=bK (aO (bM pd))
noncomputable def q3:Array Oper:=bK (bM (aO pd))
noncomputable def lX:Code:=dO (aO (aO pd))
noncomputable def q4:Array Oper:=bK (bM (EV lX))
noncomputable def q5:Array Oper:=bK (aO (EV lX))
noncomputable def kw:List Item:=[.inBlock 1,.inLoop kO,.inBlock 0]
def gA:Frame:={(default:Frame)with fn:=58,kind:=.normal}
def Vy:pC=.seq (.region 0 p0 false) (.block 0 (.loop kO)):=ah
def VF:kO=.block 1 pd:=ah
def agJ:pd=.seq (.seq (.region 1 q1 false) (.region 2 q2 false)) (.seq (.region 3 q3 false) (.block 2 lX)):=ah
def Oz:lX=.cond (.tmp 23) (.seq (.region 4 q4 false) (.region 5 q5 false)) (.cond (.tmp 24) .ret .skip):=ah
structure Fw (bc c1 c2 c3:Nat) (I:av):Prop where
 c:I 0=.pointer (some ⟨bc,3,none⟩)
 s:I 2=.chan (some c1)
 u:I 3=.chan (some c2)
 d:I 4=.chan (some c3)
variable {c3:Nat}
def Fw.up (h:Fw bc c1 c2 c3 I){d:Nat}(hd:5<=d)(v:Value):Fw bc c1 c2 c3 (up I d v):=by obtain⟨h1,h2,h3,h4⟩:=h;constructor<;>(simp only[Qw.up];rw[if_neg aa];assumption)
def E7(bc c1 c2 c3:Nat)(cw:List Frame)(g:Goroutine):Prop:=
 ∃I a,cM 30 a I []/\Fw bc c1 c2 c3 I/\g=G (gA.at a (.inRegion q3 [0,1,2,3]:: .code (.block 2 lX)::kw)) cw
def iW(bc c1 c2 c3:Nat)(cw:List Frame):Seat:={cases:=#[rcase c1 (.int .i64 0),rcase c3 (.agg #[])],shape:=.select,home:=E7 bc c1 c2 c3 cw}
def al3:∃ps af,q1[0]? =some {dst:=some 19,op:=.move (.tmp 2),type:=208,pos:=ps,after:=af,guard:=none}:=⟨_,_,by simp only[q1,pd,kO,pC,f58,Option.getD_some,aO,bM,dO,bK];rfl⟩
def al4:∃ps af,q2[0]? =some {dst:=some 20,op:=.move (.tmp 4),type:=210,pos:=ps,after:=af,guard:=none}:=⟨_,_,by simp only[q2,pd,kO,pC,f58,Option.getD_some,aO,bM,dO,bK];rfl⟩
def L8:∃ps af,q3[0]? =some {dst:=some 21,op:=.select #[{chan:=.tmp 19,send:=none,elem:=3},{chan:=.tmp 20,send:=none,elem:=122}] true,type:=0,pos:=ps,after:=af,guard:=none}:=⟨_,_,by simp only[q3,pd,kO,pC,f58,Option.getD_some,aO,bM,dO,bK];rfl⟩
variable {cw:List Frame}
def Xn(ha:cM 30 a I [])(h:Fw bc c1 c2 c3 I)(h1:I 19=.chan (some c1))(h2:I 20=.chan (some c3)):
 AtIn prog main K Still Bd (iW bc c1 c2 c3 cw) (G (gA.at a (.inRegion q3 [0,1,2,3]:: .code (.block 2 lX)::kw)) cw) (G (gA.at a (.inRegion q3 [0,1,2,3]:: .code (.block 2 lX)::kw)) cw):=by
 obtain⟨ps,af,ho⟩:=L8;refine atIn_of ho rfl (by simp[gA]) (λw=>?_) (λw=>?_) ⟨I,a,ha,h,rfl⟩
 ·rw[ha.eval];simp[execOp,ai,h1,h2,iW,rcase,zeroValue3,zeroValue122,go_sem]
 ·simp[execOp,go_sem]
def U9(ha:cM 30 a I [])(h:Fw bc c1 c2 c3 I):Way prog main K Still Bd (iW bc c1 c2 c3 cw) 12 (G (gA.at a (.code kO:: .inLoop kO:: .inBlock 0::[])) cw):=by
 obtain⟨ps1,af1,Gm⟩:=al3;obtain⟨L6,Ip,y9⟩:=al4;have hK:∀w,K w->∃κ:Hp,True/\∀b o,κ.f b=some o->w.heap[b]? =some o:=λw _=>⟨⟨λ_=>none⟩,trivial,λb o hb=>by cases hb⟩;have e:(.code kO:: .inLoop kO:: .inBlock 0::[]:List Item)=.code (.block 1 pd):: .inLoop kO:: .inBlock 0::[]:=by rw[<-VF]
 rw[e,agJ];refine Way.ctl (λw=>stepG_block) rfl ?_;refine Way.ctl (λw=>stepG_seq) rfl ?_;refine Way.ctl (λw=>stepG_seq) rfl ?_;refine Way.region ?_;have eX:List.range q1.size=[0]++[]:=ah;have bX:List.range q2.size=[0]++[]:=ah;have ep:List.range q3.size=[0,1,2,3]:=ah;rw[eX];refine EP (n:=7) (Fam:=λ_=>True) (Ok:=λ_=>False) hK (λ_ h=>h.elim) (by simp[gA]) (Q:=λI=>Fw bc c1 c2 c3 I/\I 19=.chan (some c1)) (λI a ha ⟨h,h1⟩=>?_) [0] I a (Ho Gm an ⟨h.up an _,by simp[up,ai,h.s]⟩) ha;refine Way.ctl (λw=>stepG_region_end) rfl ?_;refine Way.region ?_;rw[bX]
 refine EP (n:=4) (Fam:=λ_=>True) (Ok:=λ_=>False) hK (λ_ h=>h.elim) (by simp[gA]) (Q:=λI=>Fw bc c1 c2 c3 I/\I 19=.chan (some c1)/\I 20=.chan (some c3)) (λI a ha ⟨h,h1,h2⟩=>?_) [0] I a
  (Ho y9 an ⟨h.up an _,by simp[up,h1],by simp[up,ai,h.d]⟩) ha
 refine Way.ctl (λw=>stepG_region_end) rfl ?_;refine Way.ctl (λw=>stepG_seq) rfl ?_;refine Way.region ?_;rw[ep];exact .inl ⟨_,Xn ha h h1 h2⟩
def Ic(bc c1 c2 c3:Nat)(cw:List Frame)(g:Goroutine):Prop:=
 ∃I a,cM 30 a I []/\Fw bc c1 c2 c3 I/\g=G (gA.at a (.inRegion q5 [4]:: .inBlock 2::kw)) cw
def TJ:∃ps af,q5[4]? =some {dst:=none,op:=.send (.tmp 26) (.tmp 29),type:=0,pos:=ps,after:=af,guard:=none}:=⟨_,_,by simp only[q5,lX,pd,kO,pC,f58,Option.getD_some,aO,dO,bK,EV];rfl⟩
def aqe{g:Goroutine}(h:Ic bc c1 c2 c3 cw g):Way prog main K Still Bd (iW bc c1 c2 c3 cw) 16 (Go.Conc.served g undef):=by
 obtain⟨I,a,ha,hF,rfl⟩:=h;obtain⟨ps,af,ho⟩:=TJ
 have e:Go.Conc.served (G (gA.at a (.inRegion q5 [4]:: .inBlock 2::kw)) cw) undef=G (gA.at a (.inRegion q5 []:: .inBlock 2::kw)) cw:=by have:=Frame.finish_at gA a q5 4 [] (.inBlock 2::kw) undef;rw[ho]at this;simp only[Go.Conc.served,G,this];rfl
 rw[e];refine Way.ctl (λw=>stepG_region_end) rfl ?_;refine Way.ctl (λw=>stepG_inBlock) rfl ?_;refine Way.ctl (λw=>stepG_inBlock) rfl ?_;refine Way.ctl (λw=>stepG_inLoop) rfl ?_;exact U9 ha hF
structure Un where
 kind:Int
 channel:Int
 gL:List UInt8
 jf:Bool
 fB:Bool
def Un.idle(u:Un):Bool:=u.kind==0&& !u.jf&& !u.fB
def uV(u:Un):Value:=.agg #[.int .i64 u.kind,.int .i64 u.channel,.string (B u.gL),.bool u.jf,.bool u.fB]
structure FS where
 γ:Type
 atz:γ->Hp->Prop
 J:γ->Hp->Prop
 K:γ->Hp->Prop
 ou:γ->List UInt8->Prop
 bc:Nat
 bg:Nat
 bb:Nat
 ph:γ->Int
 fr:γ->Int
 rest:γ->List UInt8
 nx:γ->Un->γ->Prop
 un:γ->Un->γ->Prop
 sv:γ->γ->Prop
 add:γ->List UInt8->γ
 μ:γ->Nat
 conn:∀{a U},atz a U->∃l,U.f bc=some (.cells l.toArray 90 (0,0))/\Cn bg (ph a) (fr a) l/\l[3]? =some (.string (B (rest a)))
 Ca:∀{a U},K a U->∃l,U.f bc=some (.cells l.toArray 90 (0,0))/\Cn bg (ph a) (fr a) l
 gate:∀{a U},K a U->∃l:List Value,U.f bg=some (.cells l.toArray 74 (0,0))/\l.length=9/\l[5]? =some (pV bb)
 grow:∀{a U} {l:List Value} (c:List UInt8),ou a c->atz a U->U.f bc=some (.cells l.toArray 90 (0,0))->atz (add a c) (U.set bc (.cells (l.set 3 (.string (B (rest a++c)))).toArray 90 (0,0)))
 small:∀{a U},atz a U->(rest a).length<=1000000
 TG:∀a c,ph (add a c)=ph a
 PN:∀a c,fr (add a c)=fr a
 next:∀{E:Env prog} {a U},atz a U->aw E 104 #[.pointer (some ⟨bc,3,none⟩),.int .i64 (fr a)] U λe R=>∃u b,nx a u b/\J b R/\e=.returned (uV u)
 unit:∀{E:Env prog} {a u b U},ph a≠5->nx a u b->u.idle=false->J b U->aw E 59 #[pV bc,uV u] U λe R=>∃c,un b u c/\K c R/\e=.returned (.tuple #[])
 serve:∀{E:Env prog} {b u c U},un b u c->K c U->aw E 54 #[pV bb] U λe R=>∃d,sv c d/\atz d R/\e=.returned (.tuple #[])
 idle:∀{a u b U},nx a u b->u.idle=true->J b U->atz b U
 dec:∀{a u b c d},ph a≠5->nx a u b->u.idle=false->un b u c->sv c d->μ d<μ a
inductive FS.Loop (F:FS):F.γ->F.γ->Prop
 |gone {a:_}:F.ph a=5->F.Loop a a
 |idle {a u b:_}:F.ph a≠5->F.nx a u b->u.idle=true->F.Loop a b
 |step {a u b c d e:_}:F.ph a≠5->F.nx a u b->u.idle=false->F.un b u c->F.sv c d->F.Loop d e->F.Loop a e
section
variable {bc:Nat}{c1:Nat}{c2:Nat}{fr:Int}{I:av}{c3:Nat}{cw:List Frame}{E:Env prog}{φ:Hp}
variable (F:FS)
def aqo {a:F.γ}{U:Hp}(hI:F.atz a U)(hd:U.dp φ){g:Goroutine}(hg:E7 F.bc c1 c2 c3 cw g):
 ax E (Go.Conc.served g (.tuple #[.int .i64 0,.bool true,.int .i64 (F.fr a),.agg #[]])) (U.bB φ) λg' R=>∃u b ae,F.nx a u b/\F.J b ae/\ae.dp φ/\R=ae.bB φ/\
  ∃I ac,cM 30 ac I []/\Fw F.bc c1 c2 c3 I/\I 26=.chan (some c2)/\I 29=uV u/\g'=G (gA.at ac (.inRegion q5 [4]:: .inBlock 2::kw)) cw:=by
 obtain⟨I,ac,ha,hF,rfl⟩:=hg;obtain⟨ps,af,ho⟩:=L8
 have e:Go.Conc.served (G (gA.at ac (.inRegion q3 [0,1,2,3]:: .code (.block 2 lX)::kw)) cw) (.tuple #[.int .i64 0,.bool true,.int .i64 (F.fr a),.agg #[]])=
  G (gA.at (ac.put (some 21) (.tuple #[.int .i64 0,.bool true,.int .i64 (F.fr a),.agg #[]])) (.inRegion q3 [1,2,3]:: .code (.block 2 lX)::kw)) cw:=by
  have:=Frame.finish_at gA ac q3 0 [1,2,3] (.code (.block 2 lX)::kw) (.tuple #[.int .i64 0,.bool true,.int .i64 (F.fr a),.agg #[]]);rw[ho]at this;simp only[Go.Conc.served,G,this];rfl
 rw[e];have de:cM 30 _ _ []:=ha.put (dst:=some 21) an (.tuple #[.int .i64 0,.bool true,.int .i64 (F.fr a),.agg #[]])
 have h1:=xX (E:=E) (N:=30) (ops:=q3) (Q:=jX λI ds ae=>Fw F.bc c1 c2 c3 I/\I 21=.tuple #[.int .i64 0,.bool true,.int .i64 (F.fr a),.agg #[]]/\I 23=.bool true/\ds=[]/\ae=U.bB φ) gA (by simp[gA]) (.code (.block 2 lX)::kw) cw [] xM [1,2,3] _ [] (U.bB φ) _
  (by
   simp only[q3,pd,kO,pC,f58,Option.getD_some,aO,bM,dO,bK]
   simp only[List.filterMap_cons,List.filterMap_nil,List.getElem?_toArray,List.getElem?_cons_succ,List.getElem?_cons_zero]
   simp only[go_sem,seval,aA,up]
   exact⟨(((hF.up an _).up an _).up an _).up an _,by simp[up],by simp[up],rfl,rfl⟩) de
 refine h1.bind ?_;rintro g' R ⟨qg,ds1,a1,de,⟨nT,h21,Jp,rfl,rfl⟩,rfl⟩;refine ax.ctl (λw=>stepG_region_end) rfl rfl ?_;refine ax.ctl (λw=>stepG_block) rfl rfl ?_;rw[Oz];refine ax.ctl (λw=>stepG_cond (t:=true) (by rw[de.eval];exact Jp)) rfl rfl ?_;refine ax.ctl (λw=>stepG_seq) rfl rfl ?_;refine(nB (E:=E) (N:=30) (X:=λI ds ae=>Fw F.bc c1 c2 c3 I/\I 10=.int .i64 (F.fr a)/\ds=[]/\ae=U.bB φ) ?_ (by simp[gA]) de).bind ?_
 ·simp only[q4,lX,pd,kO,pC,f58,Option.getD_some,aO,bM,dO,bK,EV];simp only[go_sem,seval,aA,up,h21];exact⟨(nT.up an _).up an _,by simp[up],rfl,rfl⟩
 rintro g' R ⟨lW,ds2,a2,gp,⟨mJ,bE,rfl,rfl⟩,rfl⟩;refine ax.ctl (λw=>stepG_region) rfl rfl ?_;have hr:List.range q5.size=[0,1,2,3]++[4]:=ah;rw[hr];refine(xX (E:=E) (N:=30) (ops:=q5) (Q:=jX λI ds R=>ds=[]/\∃u b ae,F.nx a u b/\F.J b ae/\ae.dp φ/\R=ae.bB φ/\Fw F.bc c1 c2 c3 I/\I 26=.chan (some c2)/\I 29=uV u) gA (by simp[gA]) (.inBlock 2::kw) cw [4] xM [0,1,2,3] _ [] (U.bB φ) _ ?_ gp).bind ?_
 ·simp only[q5,lX,pd,kO,pC,f58,Option.getD_some,aO,dO,bK,EV];simp only[List.filterMap_cons,List.filterMap_nil,List.getElem?_toArray,List.getElem?_cons_succ,List.getElem?_cons_zero];simp only[go_sem,seval,aA,up,mJ.u,mJ.c,bE];refine dI acz ((F.next hI).ju hd) ?_ ?_
  ·rintro v R ⟨ae,jv,rfl,u,b,hn,hb,hv⟩
   cases hv
   simp only[go_sem,seval,aA];exact⟨rfl,u,b,ae,hn,hb,jv,rfl,(((mJ.up an _).up an _).up an _).up an _,by simp[up],by simp[up]⟩
  ·rintro ch R ⟨ae,jv,rfl,u,b,hn,hb,hv⟩
   cases hv
 ·rintro g' R ⟨HX,ds3,a3,sF,⟨rfl,u,b,ae,hn,hb,jv,rfl,tM,Ct,Cu⟩,rfl⟩;exact ax.here ⟨u,b,ae,hn,hb,jv,rfl,HX,a3,sF,tM,Ct,Cu,rfl⟩
end
variable {P:Program}{N:Nat}{ops:Array Oper}{E:Env P}{U:Hp}{F:Hp->Prop}{Ok:Addr->Prop}{ds:List Deferred}
def aqr(kx:F U):∀(p:List Nat) (I:av),dM P N ops F Ok Q p I->iZ E N ops (jX λI cV R=>Q I/\cV=ds/\R=U) (p.filterMap (ops[·]?)) I ds U:=by
 intro p
 induction p with
 |nil=>exactλI h=>⟨h,rfl,rfl⟩
 |cons i p ih=>
  intro I hs;simp only[dM]at hs
  cases ho:ops[i]? with
  |none=>rw[ho]at hs;exact hs.elim
  |some o=>
   rw[ho]at hs;obtain⟨h1,h2,h3,h4,v,h5,h6⟩:=hs;rw[List.filterMap_cons_some ho];simp only[iZ];refine⟨h1,?_⟩;rw[if_pos (by simp[Region.wanted,h2])];exact Mc (h5 U kx) (ih _ h6)
variable {b:Frame}{k:List Item}
def Mg(kx:F U)(hb:b.kind≠.early)(tl p:List Nat)(h:dM P N ops F Ok Q p I)(ha:cM N a I ds):
 ax E (G (b.at a (.inRegion ops (p++tl)::k)) cs) U λg R=>R=U/\∃aC a',cM N a' aC ds/\Q aC/\g=G (b.at a' (.inRegion ops tl::k)) cs:=by
 refine(xX b hb k cs tl xM p I ds U a (aqr (E:=E) kx p I h) ha).mono ?_;rintro g R ⟨aC,cV,a',dJ,⟨hq,rfl,rfl⟩,rfl⟩;exact⟨rfl,aC,a',dJ,hq,rfl⟩
def anC{id:Nat}{S:Goroutine->Hp->Prop}(h:∀t,ax E (G (b.at a (.inRegion ops (Region.schedule (P.follows .mixedOrders) ops t)::k)) cs) U S):ax E (G (b.at a (.code (.region id ops true)::k)) cs) U S:=by
 refine ax.step (X:=λsB rh=>rh=U/\∃t,sB=G (b.at a (.inRegion ops (Region.schedule (P.follows .mixedOrders) ops t)::k)) cs) rfl ?_ ?_
 ·intro J w hs
  have:stepG P E.main (G (b.at a (.code (.region id ops true)::k)) cs) w=.go (G (b.at a (.inRegion ops (Region.schedule (P.follows .mixedOrders) ops (w.tape w.drawn (.order b.fn id)))::k)) cs) {w with drawn:=w.drawn+1}:=by simp[G,stepG,stepG.exec,Frame.at,choose,Sem.run,Question.forced,Question.cut]
  rw[this];exact⟨U,hs.drew _,⟨λ_ _=>rfl,rfl,rfl,rfl,Nat.le_refl _⟩,ak,rfl,rfl,_,rfl⟩
 ·rintro sB rh ⟨rfl,t,rfl⟩;exact h t
noncomputable def o8:Array Oper:=bK (bM (bM r8))
noncomputable def o9:Array Oper:=bK (bM (aO r8))
noncomputable def Tm:Array Oper:=bK (aO (aO r8))
def amE:r8=.seq (.seq (.region 8 o8 false) (.cond (.tmp 38) (.exit 0) .skip)) (.seq (.region 9 o9 false) (.region 10 Tm false)):=ah
def amF{E:Env prog}{ux:Nat}{u:Un}(hF:Fx cb sb ub db wg I)(h8:I 8=pV ux)(hx:U.f ux=some (.cells #[.int .i64 u.kind,.int .i64 u.channel,.string (B u.gL),.bool u.jf,.bool u.fB] 135 (0,0))):
 cO E 52 (.region 8 o8 false) (jX λI ds ae=>Fx cb sb ub db wg I/\I 8=pV ux/\I 38=.bool u.idle/\ds=[]/\ae=U) I [] U:=by
 obtain⟨uk,uc,upl,ug,uw⟩:=u;simp only at hx;simp only[o8,r8,ky,lS,iA,jb,f40,Option.getD_some,aO,bM,dO,bK]
 cases hk:decide (uk=0)<;>cases ug<;>cases uw<;>simp only[go_sem,seval,aA,up,h8,hx,hk,jX]<;>refine⟨?_,?_⟩<;>first|exact(show Fx cb sb ub db wg _ from⟨by simp[up,hF.c],by simp[up,hF.s],by simp[up,hF.u],by simp[up,hF.d],by simp[up,hF.w]⟩)|(simp only[decide_eq_true_eq,decide_eq_false_iff_not]at hk;simp[Un.idle,hk])
section
variable {cb:Nat}{sb:Nat}{ub:Nat}{db:Nat}{wg:Nat}{bc:Nat}{c1:Nat}{bg:Nat}{ph:Int}{fr:Int}{I:av}{cs:List Frame}{K:World->Prop}{c3:Nat}{E:Env prog}{φ:Hp}{N:Nat}{ops:Array Oper}
variable (F:FS)
structure Bx (F:FS) (cb sb db c1 c3:Nat) (φ:Hp):Prop where
 c:φ.f cb=some (.cells #[pV F.bc] 70 (0,0))
 s:φ.f sb=some (.cells #[.chan (some c1)] 119 (0,0))
 d:φ.f db=some (.cells #[.chan (some c3)] 121 (0,0))
def Py {a:F.γ}{U:Hp}{c3:Nat}(hI:F.atz a U)(hd:U.dp φ)(hb:Bx F cb sb db c1 c3 φ):Fam cb sb F.bc c1 F.bg (F.ph a) (F.fr a) (U.bB φ):=by obtain⟨l,h1,h2,_⟩:=F.conn hI;exact⟨Hp.uy hd _ _ hb.c,Hp.uy hd _ _ hb.s,l,_,Hp.iC h1,h2⟩
def yf (cb sb ub db wg:Nat)(cs:List Frame)(g:Goroutine):Prop:=∃I a,cM 52 a I []/\Fx cb sb ub db wg I/\g=G (bT.at a [.code ra]) cs
def Nc (cb sb ub db wg c1:Nat)(fr:Int)(cs:List Frame)(g:Goroutine):Prop:=∃I a,cM 52 a I []/\AtSend cb sb ub db wg c1 fr I/\g=G (bT.at a (.inRegion o6 [5]:: .code (aO ky)::pY)) cs
def aje {a:F.γ}{U:Hp}{c3:Nat}(hI:F.atz a U)(hd:U.dp φ)(hb:Bx F cb sb db c1 c3 φ){I:av}{ac:Act}(ha:cM 52 ac I [])(hF:Fx cb sb ub db wg I):
 ax E (G (bT.at ac (.code lS:: .inLoop lS:: .inBlock 0:: .code ra::[])) cs) (U.bB φ) λg R=>R=U.bB φ/\((F.ph a=5/\yf cb sb ub db wg cs g)\/(F.ph a≠5/\Nc cb sb ub db wg c1 (F.fr a) cs g)):=by
 rw[GU];refine ax.ctl (λw=>stepG_seq) rfl rfl ?_;refine ax.ctl (λw=>stepG_seq) rfl rfl ?_;refine ax.ctl (λw=>stepG_region) rfl rfl ?_;rw[<-GU];have hr:List.range o5.size=[0,1,2,3,4]++[]:=ah;rw[hr];refine(Mg (E:=E) (ops:=o5) (F:=Fam cb sb F.bc c1 F.bg (F.ph a) (F.fr a)) (Ok:=Rd cb sb F.bc) (Q:=λI=>Fx cb sb ub db wg I/\I 18=.bool (F.ph a !=5)) (Py F hI hd hb) (by simp[bT]) [] [0,1,2,3,4] (an9 hF λaC h1 h2=>⟨h1,h2⟩) ha).bind ?_;rintro g R ⟨rfl,qg,a1,de,⟨nT,vr⟩,rfl⟩;refine ax.ctl (λw=>stepG_region_end) rfl rfl ?_;by_cases hp:F.ph a=5
 ·rw[hp]at vr;refine ax.ctl (λw=>stepG_cond (t:=false) (by rw[de.eval];simpa[ai]using vr)) rfl rfl ?_;refine ax.ctl (λw=>stepG_exit (k':=[.code ra]) rfl) rfl rfl ?_;exact ax.here ⟨rfl,.inl ⟨hp,qg,a1,de,nT,rfl⟩⟩
 ·refine ax.ctl (λw=>stepG_cond (t:=true) (by rw[de.eval];simp[ai,vr,hp])) rfl rfl ?_;refine ax.ctl (λw=>stepG_skip) rfl rfl ?_;refine ax.ctl (λw=>stepG_block) rfl rfl ?_;rw[R4];refine ax.ctl (λw=>stepG_seq) rfl rfl ?_;refine anC λt=>?_;obtain⟨p,Kx,AU⟩:=Ug t;rw[Kx];refine(Mg (E:=E) (F:=Fam cb sb F.bc c1 F.bg (F.ph a) (F.fr a)) (Py F hI hd hb) (by simp[bT]) [5] p (Uz nT AU) de).bind ?_;rintro g R ⟨rfl,lW,a2,gp,hS,rfl⟩;refine ax.here ⟨rfl,.inr ⟨hp,lW,a2,gp,hS,rfl⟩⟩
def ajf {a b:F.γ}{u:Un}{U:Hp}{c3:Nat}(hp:F.ph a≠5)(hn:F.nx a u b)(hI:F.J b U)(hd:U.dp φ)(hb:Bx F cb sb db c1 c3 φ){g:Goroutine}(hg:Nq cb sb ub db wg cs g):
 ax E (Go.Conc.served g (uV u)) (U.bB φ) λg' R=>∃ae,ae.dp φ/\(ae.bB φ).le R/\
  ((u.idle=true/\F.atz b ae/\yf cb sb ub db wg cs g')\/(u.idle=false/\∃c d,F.un b u c/\F.sv c d/\F.atz d ae/\((F.ph d=5/\yf cb sb ub db wg cs g')\/(F.ph d≠5/\Nc cb sb ub db wg c1 (F.fr d) cs g')))):=by
 obtain⟨I,ac,ha,hF,rfl⟩:=hg;obtain⟨ps,af,ho⟩:=Tp
 have e:Go.Conc.served (G (bT.at ac (.inRegion o7 [1,2,3]:: .code r8::pY)) cs) (uV u)=G (bT.at (ac.put (some 25) (uV u)) (.inRegion o7 ([2,3]++[]):: .code r8::pY)) cs:=by have:=Frame.finish_at bT ac o7 1 [2,3] (.code r8::pY) (uV u);rw[ho]at this;simp only[Go.Conc.served,G,this];rfl
 rw[e];have de:cM 52 _ _ []:=ha.put (dst:=some 25) an (uV u)
 refine(xX (E:=E) (N:=52) (ops:=o7) (Q:=jX λI ds R=>Fx cb sb ub db wg I/\ds=[]/\∃ux,(U.bB φ).f ux=none/\I 8=pV ux/\R=(U.bB φ).set ux (.cells #[.int .i64 u.kind,.int .i64 u.channel,.string (B u.gL),.bool u.jf,.bool u.fB] 135 (0,0)))
  bT (by simp[bT]) (.code r8::pY) cs [] xM [2,3] _ [] (U.bB φ) _ ?_ de).bind ?_
 ·simp only[o7,ky,lS,iA,jb,f40,Option.getD_some,aO,bM,dO,bK];simp only[List.filterMap_cons,List.filterMap_nil,List.getElem?_toArray,List.getElem?_cons_succ,List.getElem?_cons_zero];refine ag ?_;refineλux vL=>?_;simp only[go_sem,seval,aA,up,uV];exact⟨(hF.up an _).up an _,rfl,ux,vL,by simp[up],rfl⟩
 rintro g R ⟨qg,_,a1,de,⟨nT,rfl,ux,vL,h8,rfl⟩,rfl⟩
 have hs:U.f ux=none:=by
  cases e:U.f ux with
  |none=>rfl
  |some o=>rw[Hp.iC e]at vL;cases vL
 have hp0:φ.f ux=none:=by rw[Hp.lC hs]at vL;exact vL
 obtain⟨nM,GK⟩:∃nM,nM=φ.set ux (.cells #[.int .i64 u.kind,.int .i64 u.channel,.string (B u.gL),.bool u.jf,.bool u.fB] 135 (0,0)):=⟨_,rfl⟩
 have hle:φ.le nM:=by
  rw[GK];intro b o hb;have:b≠ux:=λe=>by rw[e,hp0]at hb;cases hb
  simpa[Hp.set,this]using hb
 have hx:nM.f ux=some (.cells #[.int .i64 u.kind,.int .i64 u.channel,.string (B u.gL),.bool u.jf,.bool u.fB] 135 (0,0)):=by rw[GK];simp[Hp.set]
 have jv:U.dp nM:=by
  rw[GK];intro b;by_cases e:b=ux
  ·subst e;exact .inl hs
  ·simpa[Hp.set,e]using hd b
 have hu:(U.bB φ).set ux (.cells #[.int .i64 u.kind,.int .i64 u.channel,.string (B u.gL),.bool u.jf,.bool u.fB] 135 (0,0))=U.bB nM:=by
  rw[GK];show Hp.mk _=Hp.mk _;congr 1
  funext b
  by_cases e:b=ux
  ·subst e;simp[Hp.set,hs]
  ·simp[Hp.set,Hp.bB,e]
 have cD:Bx F cb sb db c1 c3 nM:=⟨hle _ _ hb.c,hle _ _ hb.s,hle _ _ hb.d⟩;rw[hu]
 have fin:∀{ae:Hp},ae.dp nM->ae.dp φ/\(ae.bB φ).le (ae.bB nM):=by
  intro ae h;refine⟨λb=>?_,λb o hb=>?_⟩
  ·rcases h b with e|e
   ·exact .inl e
   ·right
    cases e2:φ.f b with
    |none=>rfl
    |some o=>rw[hle _ _ e2]at e;cases e
  ·rcases Hp.HE hb with h1|⟨h1,h2⟩
   ·exact Hp.iC h1
   ·rw[Hp.lC h1];exact hle _ _ h2
 clear hu vL;refine ax.ctl (λw=>stepG_region_end) rfl rfl ?_;rw[amE];refine ax.ctl (λw=>stepG_seq) rfl rfl ?_;refine ax.ctl (λw=>stepG_seq) rfl rfl ?_;have dx:(U.bB nM).f ux=some (.cells #[.int .i64 u.kind,.int .i64 u.channel,.string (B u.gL),.bool u.jf,.bool u.fB] 135 (0,0)):=Hp.uy jv _ _ hx;refine(nB (E:=E) (N:=52) (X:=λI ds ae=>Fx cb sb ub db wg I/\I 8=pV ux/\I 38=.bool u.idle/\ds=[]/\ae=U.bB nM) ?_ (by simp[bT]) de).bind ?_
 ·exact amF nT h8 dx
 rintro g R ⟨lW,_,a2,gp,⟨mJ,h82,FE,rfl,rfl⟩,rfl⟩
 cases hi:u.idle with
 |true=>
  rw[hi]at FE;refine ax.ctl (λw=>stepG_cond (t:=true) (by rw[gp.eval];exact FE)) rfl rfl ?_;refine ax.ctl (λw=>stepG_exit (k':=[.code ra]) rfl) rfl rfl ?_;obtain⟨k1,k2⟩:=fin jv;exact ax.here ⟨U,k1,k2,.inl ⟨rfl,F.idle hn hi hI,lW,a2,gp,mJ,rfl⟩⟩
 |false=>
  rw[hi]at FE;refine ax.ctl (λw=>stepG_cond (t:=false) (by rw[gp.eval];exact FE)) rfl rfl ?_;refine ax.ctl (λw=>stepG_skip) rfl rfl ?_;refine ax.ctl (λw=>stepG_seq) rfl rfl ?_;refine(nB (E:=E) (N:=52) (X:=λI ds R=>Fx cb sb ub db wg I/\ds=[]/\∃c ae,F.un b u c/\F.K c ae/\ae.dp nM/\R=ae.bB nM) ?_ (by simp[bT]) gp).bind ?_
  ·have FO:=Hp.uy jv _ _ cD.c;have mf:=mJ.c;simp only[o9,r8,ky,lS,iA,jb,f40,Option.getD_some,aO,bM,dO,bK];simp only[go_sem,seval,aA,up,h82,dx,FO,mf];refine dI ac7 ((F.unit hp hn hi hI).ju jv) ?_ ?_
   ·rintro v R ⟨ae,d',rfl,c,hc,Ay,hv⟩;simp only[go_sem,seval,aA];exact⟨((mJ.up an _).up an _).up an _,rfl,c,ae,hc,Ay,d',rfl⟩
   ·rintro ch R ⟨ae,d',rfl,c,hc,Ay,hv⟩
    cases hv
  rintro g R ⟨HX,_,a3,sF,⟨tM,rfl,c,ae,hc,Ay,d',rfl⟩,rfl⟩;refine(nB (E:=E) (N:=52) (X:=λI ds R=>Fx cb sb ub db wg I/\ds=[]/\∃d ae,F.sv c d/\F.atz d ae/\ae.dp nM/\R=ae.bB nM) ?_ (by simp[bT]) sF).bind ?_
  ·have FO:=Hp.uy d' _ _ cD.c;have mf:=tM.c;obtain⟨l,hl,mg⟩:=F.Ca Ay;obtain⟨lg,hg,hgl,kV⟩:=F.gate Ay;have hl':=Hp.iC (φ:=nM) hl;have ff:=Hp.iC (φ:=nM) hg;have lL:=mg.g;simp only[Tm,r8,ky,lS,iA,jb,f40,Option.getD_some,aO,bM,dO,bK];simp only[go_sem,seval,aA,up,FO,mf,hl',ff,lL,kV];refine dI ac5 ((F.serve hc Ay).ju d') ?_ ?_
   ·rintro v R ⟨fZ,Ce,rfl,d,AJ,Cz,hv⟩;simp only[go_sem,seval,aA];exact⟨(((((((tM.up an _).up an _).up an _).up an _).up an _).up an _).up an _).up an _,rfl,d,fZ,AJ,Cz,Ce,rfl⟩
   ·rintro ch R ⟨fZ,Ce,rfl,d,AJ,Cz,hv⟩
    cases hv
  rintro g R ⟨M8,_,a4,yK,⟨hF4,rfl,d,fZ,AJ,Cz,Ce,rfl⟩,rfl⟩;refine ax.ctl (λw=>stepG_inBlock) rfl rfl ?_;refine ax.ctl (λw=>stepG_inLoop) rfl rfl ?_;refine(aje F Cz Ce cD yK hF4).bind ?_;rintro g R ⟨rfl,h⟩;obtain⟨k1,k2⟩:=fin Ce;exact ax.here ⟨fZ,k1,k2,.inr ⟨rfl,c,d,hc,AJ,Cz,h⟩⟩
end
section
variable {cb:Nat}{sb:Nat}{ub:Nat}{db:Nat}{wg:Nat}{bc:Nat}{c1:Nat}{c2:Nat}{ph:Int}{fr:Int}{I:av}{cs:List Frame}{K:World->Prop}{Still:Loc->Prop}{Bd:Nat}{c3:Nat}{cw:List Frame}{E:Env prog}{φ:Hp}{N:Nat}
open Go.ConcX (OfWg)
structure Tk where
 W:World
 j:Nat
 c1:Nat
 c2:Nat
 c3:Nat
 cb:Nat
 sb:Nat
 ub:Nat
 db:Nat
 wg:Nat
 Jh:Nat->Prop
 Bd:Nat
 cs:List Frame
 cw:List Frame
 HG:Obj
 hj:0<j
 d12:c1≠c2
 d13:c1≠c3
 d23:c2≠c3
 fX:ub≠c1/\ub≠c2/\ub≠c3/\ub≠wg/\¬Jh ub/\ub<Bd
 GF:wg≠c1/\wg≠c2/\wg≠c3
namespace Tk
variable (t:Tk)
def chans (c:Nat):Prop:=c=t.c1\/c=t.c2\/c=t.c3
def K0 (w:World):Prop:=w.heap[t.ub]? =some (.cells #[.chan (some t.c2)] 120 (0,0))/\w.heap[t.wg]? =some t.HG
def S (l:Loc):Prop:=∃a:Addr,l=.cell a/\(t.Jh a.block\/a.block=t.wg)
def HK (b:Nat):Prop:=b=t.ub\/b=t.wg
def SB (l:Loc):Prop:=l=.cell ⟨t.ub,0,none⟩
def KZ {t:Tk}{w:World}{c k:Nat}{cl:Bool}(hc:t.chans c)(h:t.K0 w):t.K0 (w.setChan c 0 #[] cl k k false):=by
 obtain⟨a1,a2,a3,a4,a5,a6⟩:=t.fX;obtain⟨b1,b2,b3⟩:=t.GF;have h1:t.ub≠c:=by rcases hc with rfl|rfl|rfl<;>assumption
 have h2:t.wg≠c:=by rcases hc with rfl|rfl|rfl<;>assumption
 exact⟨(heap_setChan_ne w _ _ _ _ _ _ (Ne.symm h1)).trans h.1,(heap_setChan_ne w _ _ _ _ _ _ (Ne.symm h2)).trans h.2⟩
def A:Duo prog where
 W:=t.W
 j:=t.j
 chans:=t.chans
 K:=t.K0
 KW:=λw=>w.heap[t.ub]? =some (.cells #[.chan (some t.c2)] 120 (0,0))
 CB:=λw h=>h.1
 HK:=t.HK
 S:=t.S
 Still:=λ_=>False
 Q:=OfWg t.wg
 B:=t.Bd
 hj:=t.hj
 CC:=λw d h=>h
 Jy:=λw c k hc h=>KZ hc h
 cell:=by
  rintro l (⟨a,rfl,_⟩|h|⟨a,rfl,_⟩)
  ·exact⟨a,rfl⟩
  ·exact h.elim
  ·exact⟨a,rfl⟩
 apart:=λl h=>h.elim
def D:Duo prog:={t.A with
 Still:=t.SB
 cell:=by
  rintro l (⟨a,rfl,_⟩|h|⟨a,rfl,_⟩)
  ·exact⟨a,rfl⟩
  ·exact⟨_,h⟩
  ·exact⟨a,rfl⟩
 apart:=by
  rintro l rfl
  obtain⟨a1,a2,a3,a4,a5,a6⟩:=t.fX
  refine⟨?_,?_⟩
  ·rintro⟨a,e,h⟩
   obtain rfl:a=⟨t.ub,0,none⟩:=by simpa using e.symm
   rcases h with h|h
   ·exact a5 h
   ·exact a4 h
  ·rintro⟨a,e,h⟩
   obtain rfl:a=⟨t.ub,0,none⟩:=by simpa using e.symm
   exact a4 h}
def IN:t.A.Deep:=⟨λw w' h k=>⟨(h t.ub (.inl rfl)).trans k.1,(h t.wg (.inr rfl)).trans k.2⟩,λa h=>h.elim⟩
def aaL:t.D.Deep:=⟨λw w' h k=>⟨(h t.ub (.inl rfl)).trans k.1,(h t.wg (.inr rfl)).trans k.2⟩,λa h=>by
 have:Loc.cell a=Loc.cell ⟨t.ub,0,none⟩:=h
 obtain rfl:a=⟨t.ub,0,none⟩:=by simpa using this
 exact .inl rfl⟩
def ajP:t.A.Next t.D:=⟨rfl,rfl,rfl,rfl,rfl,rfl,λ_ h=>h,λ_ h=>h⟩
def ajR:t.D.Next t.A:=⟨rfl,rfl,rfl,rfl,rfl,rfl,λ_ h=>h,λ_ h=>h⟩
abbrev sS (fr:Int):Seat:=Ev t.cb t.sb t.ub t.db t.wg t.c1 fr t.cs
abbrev sR:Seat:=zD t.cb t.sb t.ub t.db t.wg t.c2 t.cs
abbrev sW (bc:Nat):Seat:=iW bc t.c1 t.c2 t.c3 t.cw
def sT (bc:Nat)(u:Un):Seat:={cases:=#[scase t.c2 (uV u) (.tuple #[])],shape:=.send,home:=Ic bc t.c1 t.c2 t.c3 t.cw}
def PG:t.D.Fits t.sR:=by intro cc h;simp only[zD,List.mem_toArray,List.mem_cons,List.not_mem_nil,or_false]at h;subst h;exact⟨t.c2,.inr (.inl rfl),rfl⟩
def Cp (bc:Nat):t.A.Fits (t.sW bc):=by
 intro cc h;simp only[iW,List.mem_toArray,List.mem_cons,List.not_mem_nil,or_false]at h;rcases h with rfl|rfl
 ·exact⟨t.c1,.inl rfl,rfl⟩
 ·exact⟨t.c3,.inr (.inr rfl),rfl⟩
def anR {t:Tk}(w:World)(h:w.heap[t.ub]? =some (.cells #[.chan (some t.c2)] 120 (0,0))):∃κ,Nl t.ub t.c2 κ/\∀b o,κ.f b=some o->w.heap[b]? =some o:=⟨⟨λb=>w.heap[b]?⟩,h,λ_ _ h=>h⟩
def Q1 {ga:Goroutine}(h:Ib t.cb t.sb t.ub t.db t.wg t.cs ga):∃k,dY prog (0==0) t.D.KW t.D.Still t.D.B t.sR k (Go.Conc.served ga undef):=
 ⟨_,.inl ⟨_,rfl,aqd (Still:=t.SB) anR ⟨rfl,t.fX.2.2.2.2.2⟩ h⟩⟩
def Uj (fr:Int)(bc:Nat):commResult (t.sW bc).cases (t.sW bc).shape ((0:Nat):Int) (.int .i64 fr) true=.tuple #[.int .i64 0,.bool true,.int .i64 fr,.agg #[]]:=by simp[commResult,iW,rcase,goInt,Array.zipIdx,Array.filter]
def aeD {bc:Nat}{ga:Goroutine}(h:Ic bc t.c1 t.c2 t.c3 t.cw ga):∃k,dY prog (t.j==0) t.A.KW t.A.Still t.A.B (t.sW bc) k (Go.Conc.served ga undef):=
 ⟨_,.inl ⟨_,rfl,aqe h⟩⟩
def Xl {bc:Nat}{u:Un}{main:Bool}{K:World->Prop}{Still:Loc->Prop}{Bd:Nat}{I:av}{a:Act}(ha:cM 30 a I [])(h:Fw bc t.c1 t.c2 t.c3 I)(Ct:I 26=.chan (some t.c2))(Cu:I 29=uV u):
 AtIn prog main K Still Bd (t.sT bc u) (G (gA.at a (.inRegion q5 [4]:: .inBlock 2::kw)) t.cw) (G (gA.at a (.inRegion q5 [4]:: .inBlock 2::kw)) t.cw):=by
 obtain⟨ps,af,ho⟩:=TJ;refine atIn_of ho rfl (by simp[gA]) (λw=>?_) (λw=>?_) ⟨I,a,ha,h,rfl⟩
 ·simp[execOp,ha.eval,ai,Ct,Cu,sT,scase]
 ·simp[execOp]
end Tk
variable (F:FS)(t:Tk){φ:Hp}
def apw (hb:Bx F t.cb t.sb t.db t.c1 t.c3 φ):∀(n:Nat) (a:F.γ) (U:Hp) (m:Machine) (T:Trace) (g:Goroutine),F.μ a<n->F.ph a≠5->F.atz a U->U.dp φ->E7 F.bc t.c1 t.c2 t.c3 t.cw g->
 t.D.St t.j 0 t.sR (Go.Conc.served g (.tuple #[.int .i64 0,.bool true,.int .i64 (F.fr a),.agg #[]])) (U.bB φ) m T->
 ∃N m' T' a' ae g',runNT prog N m T=(.next m',T')/\F.Loop a a'/\F.atz a' ae/\ae.dp φ/\yf t.cb t.sb t.ub t.db t.wg t.cs g'/\t.A.St 0 t.j (t.sW F.bc) g' (ae.bB φ) m' T':=by
 intro n
 induction n with
 |zero=>intro a U m T g h;omega
 |succ n ih=>
  intro a U m T g hn hp hI hd hg mL;have tj:t.D.gf t.j 0:=.inr ⟨rfl,rfl⟩;have t0:t.A.gf 0 t.j:=.inl ⟨rfl,rfl⟩;have Dc:(t.j==0)=false:=by have:=t.hj;simp;omega
  obtain⟨N1,m1,T1,g1,dg,r1,lr,u,b,σb,Dp,hIb,yQ,rfl,qg,ac1,de,nT,Ct,Cu,rfl⟩:=aqo (E:=t.D.env t.aaL tj t.PG) F hI hd hg m T mL;obtain⟨gs,w,sl,q,J,n0,y,rfl,e1,e2,e3,e4,e5,e6,e7⟩:=lr;have qB:=t.Xl (main:=t.j==0) (K:=t.D.KW) (Still:=t.D.Still) (Bd:=t.D.B) de nT Ct Cu
  obtain⟨N2,m2,T2,r2,Lx⟩:=t.D.meet (a:=t.j) (b:=0) tj (sa:=t.sT F.bc u) (sb:=t.sR) (c:=t.c2) (kk:=0) (v:=uV u) (.inr (.inl rfl)) rfl rfl t.PG (by rfl) (λm cc hm cR=>by
   rcases m with _|m
   ·exact absurd rfl hm
   ·simp[zD]at cR) (λcc cR=>by
   simp only[zD,List.mem_toArray,List.mem_cons,List.not_mem_nil,or_false]at cR
   subst cR;rfl) (.inl ⟨rfl,rfl⟩) (sl:=sl) e1 e2 (.inl ⟨0,rfl,_,qB⟩) e3 e4 e5 e6 e7 (.inl aa)
  obtain⟨gb,C4,zH⟩:=Lx.pass t.ajR (λga h=>t.aeD h);obtain⟨N3,m3,T3,g3,R,r3,qZ,BM,CZ,hle,fC⟩:=ajf (E:=t.A.env t.IN t0 (t.Cp F.bc)) F hp Dp hIb yQ hb C4 m2 T2 zH;have qZ:=(t.A.env t.IN t0 (t.Cp F.bc)).iD qZ hle;have L9:=runNT_then (runNT_then r1 r2) r3;rcases fC with⟨hi,Ax,hT⟩|⟨hi,c,d,ir,xu,Ax,h3⟩
  ·exact⟨_,m3,T3,b,BM,g3,L9,.idle hp Dp hi,Ax,CZ,hT,qZ⟩
  have aZ:=F.dec hp Dp hi ir xu;rcases h3 with⟨h5,hT⟩|⟨h5,M8,a4,yK,hS,rfl⟩
  ·exact⟨_,m3,T3,d,BM,g3,L9,.step hp Dp hi ir xu (.gone h5),Ax,CZ,hT,qZ⟩
  obtain⟨gs,w,sl,q,J,n0,y,rfl,e1,e2,e3,e4,e5,e6,e7⟩:=qZ;have qB:=N8 (main:=true) (K:=t.A.KW) (Still:=t.A.Still) (Bd:=t.A.B) (cs:=t.cs) yK hS
  obtain⟨N4,m4,T4,r4,ajl⟩:=t.A.meet (a:=0) (b:=t.j) t0 (sa:=t.sS (F.fr d)) (sb:=t.sW F.bc) (c:=t.c1) (kk:=0) (v:=.int .i64 (F.fr d)) (.inl rfl) rfl rfl (t.Cp F.bc) (by rfl) (λm cc hm cR=>by
   rcases m with _|_|m
   ·exact absurd rfl hm
   ·simp[iW]at cR;subst cR
    simp only[rcase,ne_eq,Value.chan.injEq,Option.some.injEq]
    exactλe=>t.d13 e.symm
   ·simp[iW]at cR) (λcc cR=>by
   simp only[iW,List.mem_toArray,List.mem_cons,List.not_mem_nil,or_false]at cR
   rcases cR with rfl|rfl<;>rfl) (.inl ⟨rfl,rfl⟩) (sl:=sl) e1 e2 (.inl ⟨0,rfl,_,qB⟩) e3 e4 e5 e6 e7 (.inl aa)
  obtain⟨gb,C4,BE⟩:=ajl.pass t.ajP (λga h=>t.Q1 h);rw[t.Uj]at BE;obtain⟨N5,m5,T5,a',ae,g',r5,hl,Cy,jv,hT,zI⟩:=ih d BM m4 T4 gb aa h5 Ax CZ C4 BE;exact⟨_,m5,T5,a',ae,g',runNT_then (runNT_then L9 r4) r5,.step hp Dp hi ir xu hl,Cy,jv,hT,zI⟩
end
end Go.Qw
