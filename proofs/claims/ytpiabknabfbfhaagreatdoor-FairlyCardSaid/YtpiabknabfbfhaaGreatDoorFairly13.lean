/- Part 13. -/
import Derived.Test.YtpiabknabfbfhaaGreatDoorFairly08
import Derived.Test.YtpiabknabfbfhaaGreatDoorFairly12
set_option linter.all false
set_option maxRecDepth 100000
set_option maxHeartbeats 8000000
namespace Go.Qw
open Go Go.Conc Go.Proofs Go.Proofs.Tryz
def bM:Code->Code| .seq x _=>x|c=>c
def aQ:Code->Code| .seq _ y=>y|c=>c
def dL:Code->Code| .block _ c=>c| .loop c=>c|c=>c
def EP:Code->Code| .cond _ x _=>x|c=>c
def bK:Code->Array Oper| .region _ o _=>o|_=>#[]
noncomputable def ja:Code:=f40.body.getD .skip
noncomputable def iy:Code:=aQ (aQ (aQ (aQ (aQ ja))))
noncomputable def lL:Code:=dL (dL (bM iy))
noncomputable def qS:Code:=aQ iy
noncomputable def jY:Code:=dL (aQ lL)
noncomputable def o5:Array Oper:=bK (bM (bM lL))
noncomputable def o6:Array Oper:=bK (bM jY)
noncomputable def pP:List Item:=[.inBlock 1,.inLoop lL,.inBlock 0,.code qS]
def bT:Frame:={(default:Frame)with fn:=40,kind:=.normal}
def aiU:iy=.seq (.block 0 (.loop lL)) qS:=ah
def GR:lL=.seq (.seq (.region 5 o5 false) (.cond (.tmp 18) .skip (.exit 0))) (.block 1 jY):=ah
def R3:jY=.seq (.region 6 o6 true) (aQ jY):=ah
structure Fx (cb sb ub db wg:Nat) (ρ:av):Prop where
 c:ρ 2=pV cb
 s:ρ 4=pV sb
 u:ρ 5=pV ub
 d:ρ 6=pV db
 w:ρ 7=pV wg
def V1:zZ o6 o6.size (Array.replicate o6.size false)=[[0,1,2,3,4,5],[1,0,2,3,4,5],[1,2,0,3,4,5],[1,2,3,0,4,5],[1,2,3,4,0,5]]:=ah
structure Cn (bg:Nat) (ph fr:Int) (c:List Value):Prop where
 len:c.length=12
 g:c[0]? =some (pV bg)
 ph:c[2]? =some (.int .i64 ph)
 fr:c[7]? =some (.int .i64 fr)
structure Fam (cb sb bc c1 bg:Nat) (ph fr:Int) (κ:Hp):Prop where
 c:κ.f cb=some (.cells #[pV bc] 70 (0,0))
 s:κ.f sb=some (.cells #[.chan (some c1)] 119 (0,0))
 b:∃l z,κ.f bc=some (.cells l.toArray 90 z)/\Cn bg ph fr l
def Rd(cb sb bc:Nat)(a:Addr):Prop:=a=⟨cb,0,none⟩\/a=⟨sb,0,none⟩\/a=⟨bc,2,none⟩\/a=⟨bc,7,none⟩
def oA{κ:Hp}{b:Nat}{c:Array Value}{e:TypeId}{z:Nat×Nat}{o:Nat}{v:Value}(h:κ.f b=some (.cells c e z))(hv:c[o]? =some v):κ.cell? ⟨b,o,none⟩=some v:=by simp[Hp.cell?,h,hv]
variable {cb sb ub db wg:Nat}{ρ:av}
def Fx.up (h:Fx cb sb ub db wg ρ){d:Nat}(hd:8<=d)(v:Value):Fx cb sb ub db wg (up ρ d v):=by obtain⟨h1,h2,h3,h4,h5⟩:=h;constructor<;>(simp only[Qw.up];rw[if_neg aa];assumption)
variable {bc c1 bg:Nat}{ph fr:Int}{Q:av->Prop}
def anS(hp:ph≠5)(hF:Fx cb sb ub db wg ρ)(hQ:∀aD,Fx cb sb ub db wg aD->aD 18=.bool true->Q aD):dH prog 52 o5 (Fam cb sb bc c1 bg ph fr) (Rd cb sb bc) Q [0,1,2,3,4] ρ:=by simp only[o5,lL,iy,ja,f40,Option.getD_some,aQ,bM,dL,bK];refine o0 (a:=⟨cb,0,none⟩) (v:=pV bc) rfl ai hF.c ah ah (.inl rfl) (λκ h=>oA h.c rfl) ?_;refine uH (a:=⟨bc,0,none⟩) rfl ai (by simp[ak,up]) ?_;refine uG (a:=⟨bc,0,none⟩) (off:=2) rfl ai (by simp[ak,up]) ah ?_;refine o0 (a:=⟨bc,2,none⟩) (v:=.int .i64 ph) rfl ai (by simp[ak,up,Addr.add]) ah ah (.inr (.inr (.inl rfl))) (λκ h=>by obtain⟨l,z,h1,h2⟩:=h.b;exact oA h1 (by simpa using h2.ph)) ?_;refine Et (v:=.bool true) rfl ai (by simp[ak,up,cG,hp]) ?_;refine hQ _ ?_ (by simp[up]);exact((((hF.up ai _).up ai _).up ai _).up ai _).up ai _
def anV(hF:Fx cb sb ub db wg ρ)(hQ:∀aD,Fx cb sb ub db wg aD->aD 18=.bool (ph !=5)->Q aD):dH prog 52 o5 (Fam cb sb bc c1 bg ph fr) (Rd cb sb bc) Q [0,1,2,3,4] ρ:=by simp only[o5,lL,iy,ja,f40,Option.getD_some,aQ,bM,dL,bK];refine o0 (a:=⟨cb,0,none⟩) (v:=pV bc) rfl ai hF.c ah ah (.inl rfl) (λκ h=>oA h.c rfl) ?_;refine uH (a:=⟨bc,0,none⟩) rfl ai (by simp[ak,up]) ?_;refine uG (a:=⟨bc,0,none⟩) (off:=2) rfl ai (by simp[ak,up]) ah ?_;refine o0 (a:=⟨bc,2,none⟩) (v:=.int .i64 ph) rfl ai (by simp[ak,up,Addr.add]) ah ah (.inr (.inr (.inl rfl))) (λκ h=>by obtain⟨l,z,h1,h2⟩:=h.b;exact oA h1 (by simpa using h2.ph)) ?_;refine Et (v:=.bool (ph !=5)) rfl ai (by simp[ak,up,cG]) ?_;refine hQ _ ?_ (by simp[up]);exact((((hF.up ai _).up ai _).up ai _).up ai _).up ai _
def AtSend(cb sb ub db wg c1:Nat)(fr:Int)(ρ:av):Prop:=Fx cb sb ub db wg ρ/\ρ 19=.chan (some c1)/\ρ 23=.int .i64 fr
def Us(hF:Fx cb sb ub db wg ρ){p:List Nat}(hp:p∈[[0,1,2,3,4],[1,0,2,3,4],[1,2,0,3,4],[1,2,3,0,4],[1,2,3,4,0]]):dH prog 52 o6 (Fam cb sb bc c1 bg ph fr) (Rd cb sb bc) (AtSend cb sb ub db wg c1 fr) p ρ:=by
 simp only[o6,jY,lL,iy,ja,f40,Option.getD_some,aQ,bM,dL,bK]
 have DJ:∀{rest:List Nat} {ρ:av},Fx cb sb ub db wg ρ->∀{ops:Array Oper} {ps:String} {af:Array Edge} {ty:Nat} {Q:av->Prop},ops[0]? =some {dst:=some 19,op:=.load 119 (.tmp 4),type:=ty,pos:=ps,after:=af,guard:=none}->
  dH prog 52 ops (Fam cb sb bc c1 bg ph fr) (Rd cb sb bc) Q rest (up ρ 19 (.chan (some c1)))->dH prog 52 ops (Fam cb sb bc c1 bg ph fr) (Rd cb sb bc) Q (0::rest) ρ:=by
  intro rest ρ hF ops ps af ty Q ho k;exact o0 (a:=⟨sb,0,none⟩) (v:=.chan (some c1)) ho ai hF.s ah ah (.inr (.inl rfl)) (λκ h=>oA h.s rfl) k
 have DK:∀{rest:List Nat} {ρ:av},Fx cb sb ub db wg ρ->∀{ops:Array Oper} {ps:String} {af:Array Edge} {ty:Nat} {Q:av->Prop},ops[1]? =some {dst:=some 20,op:=.load 70 (.tmp 2),type:=ty,pos:=ps,after:=af,guard:=none}->
  dH prog 52 ops (Fam cb sb bc c1 bg ph fr) (Rd cb sb bc) Q rest (up ρ 20 (pV bc))->dH prog 52 ops (Fam cb sb bc c1 bg ph fr) (Rd cb sb bc) Q (1::rest) ρ:=by
  intro rest ρ hF ops ps af ty Q ho k;exact o0 (a:=⟨cb,0,none⟩) (v:=pV bc) ho ai hF.c ah ah (.inl rfl) (λκ h=>oA h.c rfl) k
 have DL:∀{rest:List Nat} {ρ:av},ρ 22=.pointer (some ⟨bc,7,none⟩)->∀{ops:Array Oper} {ps:String} {af:Array Edge} {ty:Nat} {Q:av->Prop},ops[4]? =some {dst:=some 23,op:=.load 3 (.tmp 22),type:=ty,pos:=ps,after:=af,guard:=none}->
  dH prog 52 ops (Fam cb sb bc c1 bg ph fr) (Rd cb sb bc) Q rest (up ρ 23 (.int .i64 fr))->dH prog 52 ops (Fam cb sb bc c1 bg ph fr) (Rd cb sb bc) Q (4::rest) ρ:=by
  intro rest ρ hF ops ps af ty Q ho k;exact o0 (a:=⟨bc,7,none⟩) (v:=.int .i64 fr) ho ai hF ah ah (.inr (.inr (.inr rfl))) (λκ h=>by obtain⟨l,z,h1,h2⟩:=h.b;exact oA h1 (by simpa using h2.fr)) k
 have fin:∀{ρ:av},Fx cb sb ub db wg ρ->ρ 19=.chan (some c1)->ρ 23=.int .i64 fr->AtSend cb sb ub db wg c1 fr ρ:=λh1 h2 h3=>⟨h1,h2,h3⟩;simp only[List.mem_cons,List.not_mem_nil,or_false]at hp;rcases hp with rfl|rfl|rfl|rfl|rfl
 ·refine DJ hF rfl (DK (hF.up ai _) rfl ?_);refine uH (a:=⟨bc,0,none⟩) rfl ai (by simp[ak,up]) ?_;refine uG (a:=⟨bc,0,none⟩) (off:=7) rfl ai (by simp[ak,up]) ah ?_;refine DL (by simp[up,Addr.add]) rfl ?_;exact fin ((((((hF.up ai _).up ai _).up ai _).up ai _).up ai _)) (by simp[up]) (by simp[up])
 ·refine DK hF rfl (DJ (hF.up ai _) rfl ?_);refine uH (a:=⟨bc,0,none⟩) rfl ai (by simp[ak,up]) ?_;refine uG (a:=⟨bc,0,none⟩) (off:=7) rfl ai (by simp[ak,up]) ah ?_;refine DL (by simp[up,Addr.add]) rfl ?_;exact fin ((((((hF.up ai _).up ai _).up ai _).up ai _).up ai _)) (by simp[up]) (by simp[up])
 ·refine DK hF rfl ?_;refine uH (a:=⟨bc,0,none⟩) rfl ai (by simp[ak,up]) ?_;refine DJ ((hF.up ai _).up ai _) rfl ?_;refine uG (a:=⟨bc,0,none⟩) (off:=7) rfl ai (by simp[ak,up]) ah ?_;refine DL (by simp[up,Addr.add]) rfl ?_;exact fin ((((((hF.up ai _).up ai _).up ai _).up ai _).up ai _)) (by simp[up]) (by simp[up])
 ·refine DK hF rfl ?_;refine uH (a:=⟨bc,0,none⟩) rfl ai (by simp[ak,up]) ?_;refine uG (a:=⟨bc,0,none⟩) (off:=7) rfl ai (by simp[ak,up]) ah ?_;refine DJ (((hF.up ai _).up ai _).up ai _) rfl ?_;refine DL (by simp[up,Addr.add]) rfl ?_;exact fin ((((((hF.up ai _).up ai _).up ai _).up ai _).up ai _)) (by simp[up]) (by simp[up])
 ·refine DK hF rfl ?_;refine uH (a:=⟨bc,0,none⟩) rfl ai (by simp[ak,up]) ?_;refine uG (a:=⟨bc,0,none⟩) (off:=7) rfl ai (by simp[ak,up]) ah ?_;refine DL (by simp[up,Addr.add]) rfl ?_;refine DJ ((((hF.up ai _).up ai _).up ai _).up ai _) rfl ?_;exact fin ((((((hF.up ai _).up ai _).up ai _).up ai _).up ai _)) (by simp[up]) (by simp[up])
def Ub(t:Nat):∃p,Region.schedule (prog.follows .mixedOrders) o6 t=p++[5]/\p∈[[0,1,2,3,4],[1,0,2,3,4],[1,2,0,3,4],[1,2,3,0,4],[1,2,3,4,0]]:=by
 have hm:prog.follows .mixedOrders=true:=ah;have:=PZ o6 o6.size t (Array.replicate o6.size false);rw[V1]at this;simp only[Region.schedule,hm,Bool.true_or,if_true,Region.linearise];simp only[List.mem_cons,List.not_mem_nil,or_false]at this;rcases this with h|h|h|h|h
 ·exact⟨[0,1,2,3,4],h,ai⟩
 ·exact⟨[1,0,2,3,4],h,ai⟩
 ·exact⟨[1,2,0,3,4],h,ai⟩
 ·exact⟨[1,2,3,0,4],h,ai⟩
 ·exact⟨[1,2,3,4,0],h,ai⟩
noncomputable def o7:Array Oper:=bK (bM (aQ jY))
noncomputable def r8:Code:=aQ (aQ jY)
def am7:aQ jY=.seq (.region 7 o7 false) r8:=ah
def zU:Value:=.agg #[.int .i64 0,.int .i64 0,.string {data:=#[]},.bool false,.bool false]
def H6(cb sb ub db wg:Nat)(cs:List Frame)(g:Goroutine):Prop:=
 ∃ρ a,cJ 52 a ρ []/\Fx cb sb ub db wg ρ/\g=G (bT.at a (.inRegion o6 [5]:: .code (aQ jY)::pP)) cs
def Eo(cb sb ub db wg c1:Nat)(fr:Int)(cs:List Frame):Seat:={cases:=#[scase c1 (.int .i64 fr) (.tuple #[])],shape:=.send,home:=H6 cb sb ub db wg cs}
def Tj:∃ps af,o6[5]? =some {dst:=none,op:=.send (.tmp 19) (.tmp 23),type:=0,pos:=ps,after:=af,guard:=none}:=⟨_,_,by simp only[o6,jY,lL,iy,ja,f40,Option.getD_some,aQ,bM,dL,bK];rfl⟩
variable {cs:List Frame}{K:World->Prop}{Still:Loc->Prop}{Bd:Nat}{main:Bool}{a:Act}
def NW(ha:cJ 52 a ρ [])(h:AtSend cb sb ub db wg c1 fr ρ):
 AtIn prog main K Still Bd (Eo cb sb ub db wg c1 fr cs) (G (bT.at a (.inRegion o6 [5]:: .code (aQ jY)::pP)) cs) (G (bT.at a (.inRegion o6 [5]:: .code (aQ jY)::pP)) cs):=by
 obtain⟨ps,af,ho⟩:=Tj;obtain⟨h1,h2,h3⟩:=h;refine atIn_of ho rfl (by simp[bT]) (λw=>?_) (λw=>?_) ⟨ρ,a,ha,h1,rfl⟩
 ·simp[execOp,ha.eval,ak,h2,h3,Eo,scase]
 ·simp[execOp]
variable {cb sb ub db wg bc c1 bg:Nat}{ph fr:Int}{cs:List Frame}{K:World->Prop}{Still:Loc->Prop}{Bd:Nat}
theorem apV (hp:ph≠5)(hK:∀w,K w->∃κ,Fam cb sb bc c1 bg ph fr κ/\∀b o,κ.f b=some o->w.heap[b]? =some o)(hS:∀a,Rd cb sb bc a->Still (.cell a)/\a.block<Bd){ρ:av}{a:Act}(ha:cJ 52 a ρ [])(hF:Fx cb sb ub db wg ρ):
 Way prog true K Still Bd (Eo cb sb ub db wg c1 fr cs) 22 (G (bT.at a (.code lL:: .inLoop lL:: .inBlock 0:: .code qS::[])) cs):=by
 rw[GR];refine Way.ctl (λw=>stepG_seq) rfl ?_;refine Way.ctl (λw=>stepG_seq) rfl ?_;refine Way.region ?_;rw[<-GR];have hr:List.range o5.size=[0,1,2,3,4]++[]:=ah;rw[hr];refine Way.mono (n:=13+5) ai ?_;refine EL hK hS (by simp[bT]) (Q:=λρ=>Fx cb sb ub db wg ρ/\ρ 18=.bool true) (λρ a ha ⟨hF,vl⟩=>?_) [0,1,2,3,4] ρ a (anS hp hF λaD h1 h2=>⟨h1,h2⟩) ha;refine Way.ctl (λw=>stepG_region_end) rfl ?_;refine Way.ctl (λw=>stepG_cond (t:=true) (by rw[ha.eval];exact vl)) rfl ?_;refine Way.ctl (λw=>stepG_skip) rfl ?_;refine Way.ctl (λw=>stepG_block) rfl ?_;rw[R3];refine Way.ctl (λw=>stepG_seq) rfl ?_;refine Way.IK λt=>?_;obtain⟨p,Kl,AT⟩:=Ub t;rw[Kl];refine Way.mono (n:=0+p.length) ?_ (EL hK hS (by simp[bT]) (n:=0) (λρ a ha h=>⟨_,NW ha h⟩) p ρ a (Us hF AT) ha);simp only[List.mem_cons,List.not_mem_nil,or_false]at AT;rcases AT with rfl|rfl|rfl|rfl|rfl<;>decide
def Nl(cb sb ub db wg:Nat)(cs:List Frame)(g:Goroutine):Prop:=
 ∃ρ a,cJ 52 a ρ []/\Fx cb sb ub db wg ρ/\g=G (bT.at a (.inRegion o7 [1,2,3]:: .code r8::pP)) cs
def zD(cb sb ub db wg c2:Nat)(cs:List Frame):Seat:={cases:=#[rcase c2 zU],shape:=.recv false,home:=Nl cb sb ub db wg cs}
def ako:∃ps af,o7[0]? =some {dst:=some 24,op:=.load 120 (.tmp 5),type:=120,pos:=ps,after:=af,guard:=none}:=⟨_,_,by simp only[o7,jY,lL,iy,ja,f40,Option.getD_some,aQ,bM,dL,bK];rfl⟩
def Tl:∃ps af,o7[1]? =some {dst:=some 25,op:=.recv 120 (.tmp 24) false,type:=135,pos:=ps,after:=af,guard:=none}:=⟨_,_,by simp only[o7,jY,lL,iy,ja,f40,Option.getD_some,aQ,bM,dL,bK];rfl⟩
def Nh(ub c2:Nat)(κ:Hp):Prop:=κ.f ub=some (.cells #[.chan (some c2)] 120 (0,0))
variable {c2:Nat}
def WX(ha:cJ 52 a ρ [])(h1:Fx cb sb ub db wg ρ)(h2:ρ 24=.chan (some c2)):
 AtIn prog main K Still Bd (zD cb sb ub db wg c2 cs) (G (bT.at a (.inRegion o7 [1,2,3]:: .code r8::pP)) cs) (G (bT.at a (.inRegion o7 [1,2,3]:: .code r8::pP)) cs):=by
 obtain⟨ps,af,ho⟩:=Tl;refine atIn_of ho rfl (by simp[bT]) (λw=>?_) (λw=>?_) ⟨ρ,a,ha,h1,rfl⟩
 ·rw[ha.eval];simp[execOp,ak,h2,zD,rcase,zU,runUnderlying120,zeroValue135,go_sem]
 ·simp[execOp,go_sem]
def apT(hK:∀w,K w->∃κ,Nh ub c2 κ/\∀b o,κ.f b=some o->w.heap[b]? =some o)(hS:Still (.cell ⟨ub,0,none⟩)/\ub<Bd){g:Goroutine}(h:H6 cb sb ub db wg cs g):
 Way prog true K Still Bd (zD cb sb ub db wg c2 cs) 4 (Go.Conc.served g undef):=by
 obtain⟨ρ,a,ha,hF,rfl⟩:=h;obtain⟨ps,af,ho⟩:=Tj
 have e:Go.Conc.served (G (bT.at a (.inRegion o6 [5]:: .code (aQ jY)::pP)) cs) undef=G (bT.at a (.inRegion o6 []:: .code (aQ jY)::pP)) cs:=by have:=Frame.finish_at bT a o6 5 [] (.code (aQ jY)::pP) undef;rw[ho]at this;simp only[Go.Conc.served,G,this];rfl
 rw[e,am7];refine Way.ctl (λw=>stepG_region_end) rfl ?_;refine Way.ctl (λw=>stepG_seq) rfl ?_;refine Way.region ?_;have hr:List.range o7.size=[0]++[1,2,3]:=ah;rw[hr];obtain⟨ps0,af0,ho0⟩:=ako;refine EL (Ok:=λa=>a=⟨ub,0,none⟩) hK (λa ha=>by rw[ha];exact hS) (by simp[bT]) (n:=0) (Q:=λρ=>Fx cb sb ub db wg ρ/\ρ 24=.chan (some c2)) (λρ a ha ⟨h1,h2⟩=>⟨_,WX ha h1 h2⟩) [0] ρ a ?_ ha;exact o0 (a:=⟨ub,0,none⟩) (v:=.chan (some c2)) ho0 ai hF.u ah ah rfl (λκ h=>oA h rfl) ⟨hF.up ai _,by simp[up]⟩
noncomputable def pe:Code:=f58.body.getD .skip
noncomputable def p0:Array Oper:=bK (bM pe)
noncomputable def kG:Code:=dL (dL (aQ pe))
noncomputable def oQ:Code:=dL kG
noncomputable def q1:Array Oper:=bK (bM (bM oQ))
noncomputable def q2:Array Oper:=bK (aQ (bM oQ))
noncomputable def q3:Array Oper:=bK (bM (aQ oQ))
noncomputable def lS:Code:=dL (aQ (aQ oQ))
noncomputable def q4:Array Oper:=bK (bM (EP lS))
noncomputable def q5:Array Oper:=bK (aQ (EP lS))
noncomputable def kw:List Item:=[.inBlock 1,.inLoop kG,.inBlock 0]
def gC:Frame:={(default:Frame)with fn:=58,kind:=.normal}
def Vt:pe=.seq (.region 0 p0 false) (.block 0 (.loop kG)):=ah
def VA:kG=.block 1 oQ:=ah
def agm:oQ=.seq (.seq (.region 1 q1 false) (.region 2 q2 false)) (.seq (.region 3 q3 false) (.block 2 lS)):=ah
def Oq:lS=.cond (.tmp 23) (.seq (.region 4 q4 false) (.region 5 q5 false)) (.cond (.tmp 24) .ret .skip):=ah
structure Fw (bc c1 c2 c3:Nat) (ρ:av):Prop where
 c:ρ 0=.pointer (some ⟨bc,3,none⟩)
 s:ρ 2=.chan (some c1)
 u:ρ 3=.chan (some c2)
 d:ρ 4=.chan (some c3)
variable {c3:Nat}
def Fw.up (h:Fw bc c1 c2 c3 ρ){d:Nat}(hd:5<=d)(v:Value):Fw bc c1 c2 c3 (up ρ d v):=by obtain⟨h1,h2,h3,h4⟩:=h;constructor<;>(simp only[Qw.up];rw[if_neg aa];assumption)
def E1(bc c1 c2 c3:Nat)(cw:List Frame)(g:Goroutine):Prop:=
 ∃ρ a,cJ 30 a ρ []/\Fw bc c1 c2 c3 ρ/\g=G (gC.at a (.inRegion q3 [0,1,2,3]:: .code (.block 2 lS)::kw)) cw
def iW(bc c1 c2 c3:Nat)(cw:List Frame):Seat:={cases:=#[rcase c1 (.int .i64 0),rcase c3 (.agg #[])],shape:=.select,home:=E1 bc c1 c2 c3 cw}
def alM:∃ps af,q1[0]? =some {dst:=some 19,op:=.move (.tmp 2),type:=208,pos:=ps,after:=af,guard:=none}:=⟨_,_,by simp only[q1,oQ,kG,pe,f58,Option.getD_some,aQ,bM,dL,bK];rfl⟩
def alN:∃ps af,q2[0]? =some {dst:=some 20,op:=.move (.tmp 4),type:=210,pos:=ps,after:=af,guard:=none}:=⟨_,_,by simp only[q2,oQ,kG,pe,f58,Option.getD_some,aQ,bM,dL,bK];rfl⟩
def LZ:∃ps af,q3[0]? =some {dst:=some 21,op:=.select #[{chan:=.tmp 19,send:=none,elem:=3},{chan:=.tmp 20,send:=none,elem:=122}] true,type:=0,pos:=ps,after:=af,guard:=none}:=⟨_,_,by simp only[q3,oQ,kG,pe,f58,Option.getD_some,aQ,bM,dL,bK];rfl⟩
variable {cw:List Frame}
def WY(ha:cJ 30 a ρ [])(h:Fw bc c1 c2 c3 ρ)(h1:ρ 19=.chan (some c1))(h2:ρ 20=.chan (some c3)):
 AtIn prog main K Still Bd (iW bc c1 c2 c3 cw) (G (gC.at a (.inRegion q3 [0,1,2,3]:: .code (.block 2 lS)::kw)) cw) (G (gC.at a (.inRegion q3 [0,1,2,3]:: .code (.block 2 lS)::kw)) cw):=by
 obtain⟨ps,af,ho⟩:=LZ;refine atIn_of ho rfl (by simp[gC]) (λw=>?_) (λw=>?_) ⟨ρ,a,ha,h,rfl⟩
 ·rw[ha.eval];simp[execOp,ak,h1,h2,iW,rcase,zeroValue3,zeroValue122,go_sem]
 ·simp[execOp,go_sem]
def U2(ha:cJ 30 a ρ [])(h:Fw bc c1 c2 c3 ρ):Way prog main K Still Bd (iW bc c1 c2 c3 cw) 12 (G (gC.at a (.code kG:: .inLoop kG:: .inBlock 0::[])) cw):=by
 obtain⟨ps1,af1,AS⟩:=alM;obtain⟨LX,Ij,y0⟩:=alN;have hK:∀w,K w->∃κ:Hp,True/\∀b o,κ.f b=some o->w.heap[b]? =some o:=λw _=>⟨⟨λ_=>none⟩,trivial,λb o hb=>by cases hb⟩;have e:(.code kG:: .inLoop kG:: .inBlock 0::[]:List Item)=.code (.block 1 oQ):: .inLoop kG:: .inBlock 0::[]:=by rw[<-VA]
 rw[e,agm];refine Way.ctl (λw=>stepG_block) rfl ?_;refine Way.ctl (λw=>stepG_seq) rfl ?_;refine Way.ctl (λw=>stepG_seq) rfl ?_;refine Way.region ?_;have eU:List.range q1.size=[0]++[]:=ah;have bY:List.range q2.size=[0]++[]:=ah;have eg:List.range q3.size=[0,1,2,3]:=ah;rw[eU];refine EL (n:=7) (Fam:=λ_=>True) (Ok:=λ_=>False) hK (λ_ h=>h.elim) (by simp[gC]) (Q:=λρ=>Fw bc c1 c2 c3 ρ/\ρ 19=.chan (some c1)) (λρ a ha ⟨h,h1⟩=>?_) [0] ρ a (Hn AS ai ⟨h.up ai _,by simp[up,ak,h.s]⟩) ha;refine Way.ctl (λw=>stepG_region_end) rfl ?_;refine Way.region ?_;rw[bY]
 refine EL (n:=4) (Fam:=λ_=>True) (Ok:=λ_=>False) hK (λ_ h=>h.elim) (by simp[gC]) (Q:=λρ=>Fw bc c1 c2 c3 ρ/\ρ 19=.chan (some c1)/\ρ 20=.chan (some c3)) (λρ a ha ⟨h,h1,h2⟩=>?_) [0] ρ a
  (Hn y0 ai ⟨h.up ai _,by simp[up,h1],by simp[up,ak,h.d]⟩) ha
 refine Way.ctl (λw=>stepG_region_end) rfl ?_;refine Way.ctl (λw=>stepG_seq) rfl ?_;refine Way.region ?_;rw[eg];exact .inl ⟨_,WY ha h h1 h2⟩
def H7(bc c1 c2 c3:Nat)(cw:List Frame)(g:Goroutine):Prop:=
 ∃ρ a,cJ 30 a ρ []/\Fw bc c1 c2 c3 ρ/\g=G (gC.at a (.inRegion q5 [4]:: .inBlock 2::kw)) cw
def TE:∃ps af,q5[4]? =some {dst:=none,op:=.send (.tmp 26) (.tmp 29),type:=0,pos:=ps,after:=af,guard:=none}:=⟨_,_,by simp only[q5,lS,oQ,kG,pe,f58,Option.getD_some,aQ,dL,bK,EP];rfl⟩
def apU{g:Goroutine}(h:H7 bc c1 c2 c3 cw g):Way prog main K Still Bd (iW bc c1 c2 c3 cw) 16 (Go.Conc.served g undef):=by
 obtain⟨ρ,a,ha,hF,rfl⟩:=h;obtain⟨ps,af,ho⟩:=TE
 have e:Go.Conc.served (G (gC.at a (.inRegion q5 [4]:: .inBlock 2::kw)) cw) undef=G (gC.at a (.inRegion q5 []:: .inBlock 2::kw)) cw:=by have:=Frame.finish_at gC a q5 4 [] (.inBlock 2::kw) undef;rw[ho]at this;simp only[Go.Conc.served,G,this];rfl
 rw[e];refine Way.ctl (λw=>stepG_region_end) rfl ?_;refine Way.ctl (λw=>stepG_inBlock) rfl ?_;refine Way.ctl (λw=>stepG_inBlock) rfl ?_;refine Way.ctl (λw=>stepG_inLoop) rfl ?_;exact U2 ha hF
structure Un where
 kind:Int
 channel:Int
 iS:List UInt8
 jT:Bool
 fR:Bool
def Un.idle(u:Un):Bool:=u.kind==0&& !u.jT&& !u.fR
def uV(u:Un):Value:=.agg #[.int .i64 u.kind,.int .i64 u.channel,.string (B u.iS),.bool u.jT,.bool u.fR]
structure FS where
 γ:Type
 I:γ->Hp->Prop
 J:γ->Hp->Prop
 K:γ->Hp->Prop
 od:γ->List UInt8->Prop
 bc:Nat
 bg:Nat
 bb:Nat
 ph:γ->Int
 fr:γ->Int
 rest:γ->List UInt8
 nx:γ->Un->γ->Prop
 un:γ->Un->γ->Prop
 sv:γ->γ->Prop
 add:γ->List UInt8->γ
 μ:γ->Nat
 conn:∀{a σ},I a σ->∃l,σ.f bc=some (.cells l.toArray 90 (0,0))/\Cn bg (ph a) (fr a) l/\l[3]? =some (.string (B (rest a)))
 Cb:∀{a σ},K a σ->∃l,σ.f bc=some (.cells l.toArray 90 (0,0))/\Cn bg (ph a) (fr a) l
 gate:∀{a σ},K a σ->∃l:List Value,σ.f bg=some (.cells l.toArray 74 (0,0))/\l.length=9/\l[5]? =some (pV bb)
 grow:∀{a σ} {l:List Value} (c:List UInt8),od a c->I a σ->σ.f bc=some (.cells l.toArray 90 (0,0))->I (add a c) (σ.set bc (.cells (l.set 3 (.string (B (rest a++c)))).toArray 90 (0,0)))
 small:∀{a σ},I a σ->(rest a).length<=1000000
 Tz:∀a c,ph (add a c)=ph a
 PH:∀a c,fr (add a c)=fr a
 next:∀{E:Env prog} {a σ},I a σ->ay E 104 #[.pointer (some ⟨bc,3,none⟩),.int .i64 (fr a)] σ λe τ=>∃u b,nx a u b/\J b τ/\e=.returned (uV u)
 unit:∀{E:Env prog} {a u b σ},ph a≠5->nx a u b->u.idle=false->J b σ->ay E 59 #[pV bc,uV u] σ λe τ=>∃c,un b u c/\K c τ/\e=.returned (.tuple #[])
 serve:∀{E:Env prog} {b u c σ},un b u c->K c σ->ay E 54 #[pV bb] σ λe τ=>∃d,sv c d/\I d τ/\e=.returned (.tuple #[])
 idle:∀{a u b σ},nx a u b->u.idle=true->J b σ->I b σ
 dec:∀{a u b c d},ph a≠5->nx a u b->u.idle=false->un b u c->sv c d->μ d<μ a
inductive FS.Loop (F:FS):F.γ->F.γ->Prop
 |gone {a:_}:F.ph a=5->F.Loop a a
 |idle {a u b:_}:F.ph a≠5->F.nx a u b->u.idle=true->F.Loop a b
 |step {a u b c d e:_}:F.ph a≠5->F.nx a u b->u.idle=false->F.un b u c->F.sv c d->F.Loop d e->F.Loop a e
section
variable {bc:Nat}{c1:Nat}{c2:Nat}{fr:Int}{ρ:av}{c3:Nat}{cw:List Frame}{E:Env prog}{φ:Hp}
variable (F:FS)
def ap2 {a:F.γ}{σ:Hp}(hI:F.I a σ)(hd:σ.dV φ){g:Goroutine}(hg:E1 F.bc c1 c2 c3 cw g):
 ax E (Go.Conc.served g (.tuple #[.int .i64 0,.bool true,.int .i64 (F.fr a),.agg #[]])) (σ.bJ φ) λg' τ=>∃u b ae,F.nx a u b/\F.J b ae/\ae.dV φ/\τ=ae.bJ φ/\
  ∃ρ ac,cJ 30 ac ρ []/\Fw F.bc c1 c2 c3 ρ/\ρ 26=.chan (some c2)/\ρ 29=uV u/\g'=G (gC.at ac (.inRegion q5 [4]:: .inBlock 2::kw)) cw:=by
 obtain⟨ρ,ac,ha,hF,rfl⟩:=hg;obtain⟨ps,af,ho⟩:=LZ
 have e:Go.Conc.served (G (gC.at ac (.inRegion q3 [0,1,2,3]:: .code (.block 2 lS)::kw)) cw) (.tuple #[.int .i64 0,.bool true,.int .i64 (F.fr a),.agg #[]])=
  G (gC.at (ac.put (some 21) (.tuple #[.int .i64 0,.bool true,.int .i64 (F.fr a),.agg #[]])) (.inRegion q3 [1,2,3]:: .code (.block 2 lS)::kw)) cw:=by
  have:=Frame.finish_at gC ac q3 0 [1,2,3] (.code (.block 2 lS)::kw) (.tuple #[.int .i64 0,.bool true,.int .i64 (F.fr a),.agg #[]]);rw[ho]at this;simp only[Go.Conc.served,G,this];rfl
 rw[e];have da:cJ 30 _ _ []:=ha.put (dst:=some 21) ai (.tuple #[.int .i64 0,.bool true,.int .i64 (F.fr a),.agg #[]])
 have h1:=xV (E:=E) (N:=30) (ops:=q3) (Q:=jO λρ ds ae=>Fw F.bc c1 c2 c3 ρ/\ρ 21=.tuple #[.int .i64 0,.bool true,.int .i64 (F.fr a),.agg #[]]/\ρ 23=.bool true/\ds=[]/\ae=σ.bJ φ) gC (by simp[gC]) (.code (.block 2 lS)::kw) cw [] xJ [1,2,3] _ [] (σ.bJ φ) _
  (by
   simp only[q3,oQ,kG,pe,f58,Option.getD_some,aQ,bM,dL,bK]
   simp only[List.filterMap_cons,List.filterMap_nil,List.getElem?_toArray,List.getElem?_cons_succ,List.getElem?_cons_zero]
   simp only[go_sem,seval,aB,up]
   exact⟨(((hF.up ai _).up ai _).up ai _).up ai _,by simp[up],by simp[up],rfl,rfl⟩) da
 refine h1.bind ?_;rintro g' τ ⟨pY,ds1,a1,da,⟨nN,h21,Je,rfl,rfl⟩,rfl⟩;refine ax.ctl (λw=>stepG_region_end) rfl rfl ?_;refine ax.ctl (λw=>stepG_block) rfl rfl ?_;rw[Oq];refine ax.ctl (λw=>stepG_cond (t:=true) (by rw[da.eval];exact Je)) rfl rfl ?_;refine ax.ctl (λw=>stepG_seq) rfl rfl ?_;refine(np (E:=E) (N:=30) (X:=λρ ds ae=>Fw F.bc c1 c2 c3 ρ/\ρ 10=.int .i64 (F.fr a)/\ds=[]/\ae=σ.bJ φ) ?_ (by simp[gC]) da).bind ?_
 ·simp only[q4,lS,oQ,kG,pe,f58,Option.getD_some,aQ,bM,dL,bK,EP];simp only[go_sem,seval,aB,up,h21];exact⟨(nN.up ai _).up ai _,by simp[up],rfl,rfl⟩
 rintro g' τ ⟨lR,ds2,a2,gp,⟨mE,bA,rfl,rfl⟩,rfl⟩;refine ax.ctl (λw=>stepG_region) rfl rfl ?_;have hr:List.range q5.size=[0,1,2,3]++[4]:=ah;rw[hr];refine(xV (E:=E) (N:=30) (ops:=q5) (Q:=jO λρ ds τ=>ds=[]/\∃u b ae,F.nx a u b/\F.J b ae/\ae.dV φ/\τ=ae.bJ φ/\Fw F.bc c1 c2 c3 ρ/\ρ 26=.chan (some c2)/\ρ 29=uV u) gC (by simp[gC]) (.inBlock 2::kw) cw [4] xJ [0,1,2,3] _ [] (σ.bJ φ) _ ?_ gp).bind ?_
 ·simp only[q5,lS,oQ,kG,pe,f58,Option.getD_some,aQ,dL,bK,EP];simp only[List.filterMap_cons,List.filterMap_nil,List.getElem?_toArray,List.getElem?_cons_succ,List.getElem?_cons_zero];simp only[go_sem,seval,aB,up,mE.u,mE.c,bA];refine dC ab2 ((F.next hI).lz hd) ?_ ?_
  ·rintro v τ ⟨ae,jm,rfl,u,b,hn,hb,hv⟩
   cases hv
   simp only[go_sem,seval,aB];exact⟨rfl,u,b,ae,hn,hb,jm,rfl,(((mE.up ai _).up ai _).up ai _).up ai _,by simp[up],by simp[up]⟩
  ·rintro ch τ ⟨ae,jm,rfl,u,b,hn,hb,hv⟩
   cases hv
 ·rintro g' τ ⟨HS,ds3,a3,ss,⟨rfl,u,b,ae,hn,hb,jm,rfl,tC,Ct,Cu⟩,rfl⟩;exact ax.here ⟨u,b,ae,hn,hb,jm,rfl,HS,a3,ss,tC,Ct,Cu,rfl⟩
end
variable {P:Program}{N:Nat}{ops:Array Oper}{E:Env P}{σ:Hp}{F:Hp->Prop}{Ok:Addr->Prop}{ds:List Deferred}
def ap5(jX:F σ):∀(p:List Nat) (ρ:av),dH P N ops F Ok Q p ρ->iY E N ops (jO λρ cX τ=>Q ρ/\cX=ds/\τ=σ) (p.filterMap (ops[·]?)) ρ ds σ:=by
 intro p
 induction p with
 |nil=>exactλρ h=>⟨h,rfl,rfl⟩
 |cons i p ih=>
  intro ρ hs;simp only[dH]at hs
  cases ho:ops[i]? with
  |none=>rw[ho]at hs;exact hs.elim
  |some o=>
   rw[ho]at hs;obtain⟨h1,h2,h3,h4,v,h5,h6⟩:=hs;rw[List.filterMap_cons_some ho];simp only[iY];refine⟨h1,?_⟩;rw[if_pos (by simp[Region.wanted,h2])];exact L5 (h5 σ jX) (ih _ h6)
variable {b:Frame}{k:List Item}
def Ma(jX:F σ)(hb:b.kind≠.early)(tl p:List Nat)(h:dH P N ops F Ok Q p ρ)(ha:cJ N a ρ ds):
 ax E (G (b.at a (.inRegion ops (p++tl)::k)) cs) σ λg τ=>τ=σ/\∃aD a',cJ N a' aD ds/\Q aD/\g=G (b.at a' (.inRegion ops tl::k)) cs:=by
 refine(xV b hb k cs tl xJ p ρ ds σ a (ap5 (E:=E) jX p ρ h) ha).mono ?_;rintro g τ ⟨aD,cX,a',dD,⟨hq,rfl,rfl⟩,rfl⟩;exact⟨rfl,aD,a',dD,hq,rfl⟩
def anl{id:Nat}{S:Goroutine->Hp->Prop}(h:∀t,ax E (G (b.at a (.inRegion ops (Region.schedule (P.follows .mixedOrders) ops t)::k)) cs) σ S):ax E (G (b.at a (.code (.region id ops true)::k)) cs) σ S:=by
 refine ax.step (X:=λsi qV=>qV=σ/\∃t,si=G (b.at a (.inRegion ops (Region.schedule (P.follows .mixedOrders) ops t)::k)) cs) rfl ?_ ?_
 ·intro J w hs
  have:stepG P E.main (G (b.at a (.code (.region id ops true)::k)) cs) w=.go (G (b.at a (.inRegion ops (Region.schedule (P.follows .mixedOrders) ops (w.tape w.drawn (.order b.fn id)))::k)) cs) {w with drawn:=w.drawn+1}:=by simp[G,stepG,stepG.exec,Frame.at,choose,Sem.run,Question.forced,Question.cut]
  rw[this];exact⟨σ,hs.drew _,⟨λ_ _=>rfl,rfl,rfl,rfl,Nat.le_refl _⟩,al,rfl,rfl,_,rfl⟩
 ·rintro si qV ⟨rfl,t,rfl⟩;exact h t
noncomputable def o8:Array Oper:=bK (bM (bM r8))
noncomputable def o9:Array Oper:=bK (bM (aQ r8))
noncomputable def Th:Array Oper:=bK (aQ (aQ r8))
def amo:r8=.seq (.seq (.region 8 o8 false) (.cond (.tmp 38) (.exit 0) .skip)) (.seq (.region 9 o9 false) (.region 10 Th false)):=ah
def amp{E:Env prog}{ux:Nat}{u:Un}(hF:Fx cb sb ub db wg ρ)(h8:ρ 8=pV ux)(hx:σ.f ux=some (.cells #[.int .i64 u.kind,.int .i64 u.channel,.string (B u.iS),.bool u.jT,.bool u.fR] 135 (0,0))):
 cK E 52 (.region 8 o8 false) (jO λρ ds ae=>Fx cb sb ub db wg ρ/\ρ 8=pV ux/\ρ 38=.bool u.idle/\ds=[]/\ae=σ) ρ [] σ:=by
 obtain⟨uk,uc,upl,ug,uw⟩:=u;simp only at hx;simp only[o8,r8,jY,lL,iy,ja,f40,Option.getD_some,aQ,bM,dL,bK]
 cases hk:decide (uk=0)<;>cases ug<;>cases uw<;>simp only[go_sem,seval,aB,up,h8,hx,hk,jO]<;>refine⟨?_,?_⟩<;>first|exact(show Fx cb sb ub db wg _ from⟨by simp[up,hF.c],by simp[up,hF.s],by simp[up,hF.u],by simp[up,hF.d],by simp[up,hF.w]⟩)|(simp only[decide_eq_true_eq,decide_eq_false_iff_not]at hk;simp[Un.idle,hk])
section
variable {cb:Nat}{sb:Nat}{ub:Nat}{db:Nat}{wg:Nat}{bc:Nat}{c1:Nat}{bg:Nat}{ph:Int}{fr:Int}{ρ:av}{cs:List Frame}{K:World->Prop}{c3:Nat}{E:Env prog}{φ:Hp}{N:Nat}{ops:Array Oper}
variable (F:FS)
structure Bx (F:FS) (cb sb db c1 c3:Nat) (φ:Hp):Prop where
 c:φ.f cb=some (.cells #[pV F.bc] 70 (0,0))
 s:φ.f sb=some (.cells #[.chan (some c1)] 119 (0,0))
 d:φ.f db=some (.cells #[.chan (some c3)] 121 (0,0))
def Pt {a:F.γ}{σ:Hp}{c3:Nat}(hI:F.I a σ)(hd:σ.dV φ)(hb:Bx F cb sb db c1 c3 φ):Fam cb sb F.bc c1 F.bg (F.ph a) (F.fr a) (σ.bJ φ):=by obtain⟨l,h1,h2,_⟩:=F.conn hI;exact⟨Hp.uj hd _ _ hb.c,Hp.uj hd _ _ hb.s,l,_,Hp.jz h1,h2⟩
def xZ (cb sb ub db wg:Nat)(cs:List Frame)(g:Goroutine):Prop:=∃ρ a,cJ 52 a ρ []/\Fx cb sb ub db wg ρ/\g=G (bT.at a [.code qS]) cs
def M7 (cb sb ub db wg c1:Nat)(fr:Int)(cs:List Frame)(g:Goroutine):Prop:=∃ρ a,cJ 52 a ρ []/\AtSend cb sb ub db wg c1 fr ρ/\g=G (bT.at a (.inRegion o6 [5]:: .code (aQ jY)::pP)) cs
def aiV {a:F.γ}{σ:Hp}{c3:Nat}(hI:F.I a σ)(hd:σ.dV φ)(hb:Bx F cb sb db c1 c3 φ){ρ:av}{ac:Act}(ha:cJ 52 ac ρ [])(hF:Fx cb sb ub db wg ρ):
 ax E (G (bT.at ac (.code lL:: .inLoop lL:: .inBlock 0:: .code qS::[])) cs) (σ.bJ φ) λg τ=>τ=σ.bJ φ/\((F.ph a=5/\xZ cb sb ub db wg cs g)\/(F.ph a≠5/\M7 cb sb ub db wg c1 (F.fr a) cs g)):=by
 rw[GR];refine ax.ctl (λw=>stepG_seq) rfl rfl ?_;refine ax.ctl (λw=>stepG_seq) rfl rfl ?_;refine ax.ctl (λw=>stepG_region) rfl rfl ?_;rw[<-GR];have hr:List.range o5.size=[0,1,2,3,4]++[]:=ah;rw[hr];refine(Ma (E:=E) (ops:=o5) (F:=Fam cb sb F.bc c1 F.bg (F.ph a) (F.fr a)) (Ok:=Rd cb sb F.bc) (Q:=λρ=>Fx cb sb ub db wg ρ/\ρ 18=.bool (F.ph a !=5)) (Pt F hI hd hb) (by simp[bT]) [] [0,1,2,3,4] (anV hF λaD h1 h2=>⟨h1,h2⟩) ha).bind ?_;rintro g τ ⟨rfl,pY,a1,da,⟨nN,vl⟩,rfl⟩;refine ax.ctl (λw=>stepG_region_end) rfl rfl ?_;by_cases hp:F.ph a=5
 ·rw[hp]at vl;refine ax.ctl (λw=>stepG_cond (t:=false) (by rw[da.eval];simpa[ak]using vl)) rfl rfl ?_;refine ax.ctl (λw=>stepG_exit (k':=[.code qS]) rfl) rfl rfl ?_;exact ax.here ⟨rfl,.inl ⟨hp,pY,a1,da,nN,rfl⟩⟩
 ·refine ax.ctl (λw=>stepG_cond (t:=true) (by rw[da.eval];simp[ak,vl,hp])) rfl rfl ?_;refine ax.ctl (λw=>stepG_skip) rfl rfl ?_;refine ax.ctl (λw=>stepG_block) rfl rfl ?_;rw[R3];refine ax.ctl (λw=>stepG_seq) rfl rfl ?_;refine anl λt=>?_;obtain⟨p,Kl,AT⟩:=Ub t;rw[Kl];refine(Ma (E:=E) (F:=Fam cb sb F.bc c1 F.bg (F.ph a) (F.fr a)) (Pt F hI hd hb) (by simp[bT]) [5] p (Us nN AT) da).bind ?_;rintro g τ ⟨rfl,lR,a2,gp,hS,rfl⟩;refine ax.here ⟨rfl,.inr ⟨hp,lR,a2,gp,hS,rfl⟩⟩
def aiW {a b:F.γ}{u:Un}{σ:Hp}{c3:Nat}(hp:F.ph a≠5)(hn:F.nx a u b)(hI:F.J b σ)(hd:σ.dV φ)(hb:Bx F cb sb db c1 c3 φ){g:Goroutine}(hg:Nl cb sb ub db wg cs g):
 ax E (Go.Conc.served g (uV u)) (σ.bJ φ) λg' τ=>∃ae,ae.dV φ/\(ae.bJ φ).le τ/\
  ((u.idle=true/\F.I b ae/\xZ cb sb ub db wg cs g')\/(u.idle=false/\∃c d,F.un b u c/\F.sv c d/\F.I d ae/\((F.ph d=5/\xZ cb sb ub db wg cs g')\/(F.ph d≠5/\M7 cb sb ub db wg c1 (F.fr d) cs g')))):=by
 obtain⟨ρ,ac,ha,hF,rfl⟩:=hg;obtain⟨ps,af,ho⟩:=Tl
 have e:Go.Conc.served (G (bT.at ac (.inRegion o7 [1,2,3]:: .code r8::pP)) cs) (uV u)=G (bT.at (ac.put (some 25) (uV u)) (.inRegion o7 ([2,3]++[]):: .code r8::pP)) cs:=by have:=Frame.finish_at bT ac o7 1 [2,3] (.code r8::pP) (uV u);rw[ho]at this;simp only[Go.Conc.served,G,this];rfl
 rw[e];have da:cJ 52 _ _ []:=ha.put (dst:=some 25) ai (uV u)
 refine(xV (E:=E) (N:=52) (ops:=o7) (Q:=jO λρ ds τ=>Fx cb sb ub db wg ρ/\ds=[]/\∃ux,(σ.bJ φ).f ux=none/\ρ 8=pV ux/\τ=(σ.bJ φ).set ux (.cells #[.int .i64 u.kind,.int .i64 u.channel,.string (B u.iS),.bool u.jT,.bool u.fR] 135 (0,0)))
  bT (by simp[bT]) (.code r8::pP) cs [] xJ [2,3] _ [] (σ.bJ φ) _ ?_ da).bind ?_
 ·simp only[o7,jY,lL,iy,ja,f40,Option.getD_some,aQ,bM,dL,bK];simp only[List.filterMap_cons,List.filterMap_nil,List.getElem?_toArray,List.getElem?_cons_succ,List.getElem?_cons_zero];refine ag ?_;refineλux vF=>?_;simp only[go_sem,seval,aB,up,uV];exact⟨(hF.up ai _).up ai _,rfl,ux,vF,by simp[up],rfl⟩
 rintro g τ ⟨pY,_,a1,da,⟨nN,rfl,ux,vF,h8,rfl⟩,rfl⟩
 have hs:σ.f ux=none:=by
  cases e:σ.f ux with
  |none=>rfl
  |some o=>rw[Hp.jz e]at vF;cases vF
 have hp0:φ.f ux=none:=by rw[Hp.pX hs]at vF;exact vF
 obtain⟨nF,GH⟩:∃nF,nF=φ.set ux (.cells #[.int .i64 u.kind,.int .i64 u.channel,.string (B u.iS),.bool u.jT,.bool u.fR] 135 (0,0)):=⟨_,rfl⟩
 have hle:φ.le nF:=by
  rw[GH];intro b o hb;have:b≠ux:=λe=>by rw[e,hp0]at hb;cases hb
  simpa[Hp.set,this]using hb
 have hx:nF.f ux=some (.cells #[.int .i64 u.kind,.int .i64 u.channel,.string (B u.iS),.bool u.jT,.bool u.fR] 135 (0,0)):=by rw[GH];simp[Hp.set]
 have jm:σ.dV nF:=by
  rw[GH];intro b;by_cases e:b=ux
  ·subst e;exact .inl hs
  ·simpa[Hp.set,e]using hd b
 have hu:(σ.bJ φ).set ux (.cells #[.int .i64 u.kind,.int .i64 u.channel,.string (B u.iS),.bool u.jT,.bool u.fR] 135 (0,0))=σ.bJ nF:=by
  rw[GH];show Hp.mk _=Hp.mk _;congr 1
  funext b
  by_cases e:b=ux
  ·subst e;simp[Hp.set,hs]
  ·simp[Hp.set,Hp.bJ,e]
 have dE:Bx F cb sb db c1 c3 nF:=⟨hle _ _ hb.c,hle _ _ hb.s,hle _ _ hb.d⟩;rw[hu]
 have fin:∀{ae:Hp},ae.dV nF->ae.dV φ/\(ae.bJ φ).le (ae.bJ nF):=by
  intro ae h;refine⟨λb=>?_,λb o hb=>?_⟩
  ·rcases h b with e|e
   ·exact .inl e
   ·right
    cases e2:φ.f b with
    |none=>rfl
    |some o=>rw[hle _ _ e2]at e;cases e
  ·rcases Hp.HC hb with h1|⟨h1,h2⟩
   ·exact Hp.jz h1
   ·rw[Hp.pX h1];exact hle _ _ h2
 clear hu vF;refine ax.ctl (λw=>stepG_region_end) rfl rfl ?_;rw[amo];refine ax.ctl (λw=>stepG_seq) rfl rfl ?_;refine ax.ctl (λw=>stepG_seq) rfl rfl ?_;have dp:(σ.bJ nF).f ux=some (.cells #[.int .i64 u.kind,.int .i64 u.channel,.string (B u.iS),.bool u.jT,.bool u.fR] 135 (0,0)):=Hp.uj jm _ _ hx;refine(np (E:=E) (N:=52) (X:=λρ ds ae=>Fx cb sb ub db wg ρ/\ρ 8=pV ux/\ρ 38=.bool u.idle/\ds=[]/\ae=σ.bJ nF) ?_ (by simp[bT]) da).bind ?_
 ·exact amp nN h8 dp
 rintro g τ ⟨lR,_,a2,gp,⟨mE,h82,FA,rfl,rfl⟩,rfl⟩
 cases hi:u.idle with
 |true=>
  rw[hi]at FA;refine ax.ctl (λw=>stepG_cond (t:=true) (by rw[gp.eval];exact FA)) rfl rfl ?_;refine ax.ctl (λw=>stepG_exit (k':=[.code qS]) rfl) rfl rfl ?_;obtain⟨k1,k2⟩:=fin jm;exact ax.here ⟨σ,k1,k2,.inl ⟨rfl,F.idle hn hi hI,lR,a2,gp,mE,rfl⟩⟩
 |false=>
  rw[hi]at FA;refine ax.ctl (λw=>stepG_cond (t:=false) (by rw[gp.eval];exact FA)) rfl rfl ?_;refine ax.ctl (λw=>stepG_skip) rfl rfl ?_;refine ax.ctl (λw=>stepG_seq) rfl rfl ?_;refine(np (E:=E) (N:=52) (X:=λρ ds τ=>Fx cb sb ub db wg ρ/\ds=[]/\∃c ae,F.un b u c/\F.K c ae/\ae.dV nF/\τ=ae.bJ nF) ?_ (by simp[bT]) gp).bind ?_
  ·have FM:=Hp.uj jm _ _ dE.c;have l7:=mE.c;simp only[o9,r8,jY,lL,iy,ja,f40,Option.getD_some,aQ,bM,dL,bK];simp only[go_sem,seval,aB,up,h82,dp,FM,l7];refine dC acE ((F.unit hp hn hi hI).lz jm) ?_ ?_
   ·rintro v τ ⟨ae,d',rfl,c,hc,Ay,hv⟩;simp only[go_sem,seval,aB];exact⟨((mE.up ai _).up ai _).up ai _,rfl,c,ae,hc,Ay,d',rfl⟩
   ·rintro ch τ ⟨ae,d',rfl,c,hc,Ay,hv⟩
    cases hv
  rintro g τ ⟨HS,_,a3,ss,⟨tC,rfl,c,ae,hc,Ay,d',rfl⟩,rfl⟩;refine(np (E:=E) (N:=52) (X:=λρ ds τ=>Fx cb sb ub db wg ρ/\ds=[]/\∃d ae,F.sv c d/\F.I d ae/\ae.dV nF/\τ=ae.bJ nF) ?_ (by simp[bT]) ss).bind ?_
  ·have FM:=Hp.uj d' _ _ dE.c;have l7:=tC.c;obtain⟨l,hl,l8⟩:=F.Cb Ay;obtain⟨lg,hg,hgl,xe⟩:=F.gate Ay;have hl':=Hp.jz (φ:=nF) hl;have eX:=Hp.jz (φ:=nF) hg;have lD:=l8.g;simp only[Th,r8,jY,lL,iy,ja,f40,Option.getD_some,aQ,bM,dL,bK];simp only[go_sem,seval,aB,up,FM,l7,hl',eX,lD,xe];refine dC acC ((F.serve hc Ay).lz d') ?_ ?_
   ·rintro v τ ⟨fZ,Cf,rfl,d,AJ,Cy,hv⟩;simp only[go_sem,seval,aB];exact⟨(((((((tC.up ai _).up ai _).up ai _).up ai _).up ai _).up ai _).up ai _).up ai _,rfl,d,fZ,AJ,Cy,Cf,rfl⟩
   ·rintro ch τ ⟨fZ,Cf,rfl,d,AJ,Cy,hv⟩
    cases hv
  rintro g τ ⟨ρ4,_,a4,yF,⟨hF4,rfl,d,fZ,AJ,Cy,Cf,rfl⟩,rfl⟩;refine ax.ctl (λw=>stepG_inBlock) rfl rfl ?_;refine ax.ctl (λw=>stepG_inLoop) rfl rfl ?_;refine(aiV F Cy Cf dE yF hF4).bind ?_;rintro g τ ⟨rfl,h⟩;obtain⟨k1,k2⟩:=fin Cf;exact ax.here ⟨fZ,k1,k2,.inr ⟨rfl,c,d,hc,AJ,Cy,h⟩⟩
end
section
variable {cb:Nat}{sb:Nat}{ub:Nat}{db:Nat}{wg:Nat}{bc:Nat}{c1:Nat}{c2:Nat}{ph:Int}{fr:Int}{ρ:av}{cs:List Frame}{K:World->Prop}{Still:Loc->Prop}{Bd:Nat}{c3:Nat}{cw:List Frame}{E:Env prog}{φ:Hp}{N:Nat}
open Go.ConcX (OfWg)
structure Tk where
 W:World
 j:Nat
 c1:Nat
 c2:Nat
 c3:Nat
 cb:Nat
 sb:Nat
 ub:Nat
 db:Nat
 wg:Nat
 Jh:Nat->Prop
 Bd:Nat
 cs:List Frame
 cw:List Frame
 HE:Obj
 hj:0<j
 d12:c1≠c2
 d13:c1≠c3
 d23:c2≠c3
 fX:ub≠c1/\ub≠c2/\ub≠c3/\ub≠wg/\¬Jh ub/\ub<Bd
 GB:wg≠c1/\wg≠c2/\wg≠c3
namespace Tk
variable (t:Tk)
def chans (c:Nat):Prop:=c=t.c1\/c=t.c2\/c=t.c3
def K0 (w:World):Prop:=w.heap[t.ub]? =some (.cells #[.chan (some t.c2)] 120 (0,0))/\w.heap[t.wg]? =some t.HE
def S (l:Loc):Prop:=∃a:Addr,l=.cell a/\(t.Jh a.block\/a.block=t.wg)
def HK (b:Nat):Prop:=b=t.ub\/b=t.wg
def SB (l:Loc):Prop:=l=.cell ⟨t.ub,0,none⟩
def KR {t:Tk}{w:World}{c k:Nat}{cl:Bool}(hc:t.chans c)(h:t.K0 w):t.K0 (w.setChan c 0 #[] cl k k false):=by
 obtain⟨a1,a2,a3,a4,a5,a6⟩:=t.fX;obtain⟨b1,b2,b3⟩:=t.GB;have h1:t.ub≠c:=by rcases hc with rfl|rfl|rfl<;>assumption
 have h2:t.wg≠c:=by rcases hc with rfl|rfl|rfl<;>assumption
 exact⟨(heap_setChan_ne w _ _ _ _ _ _ (Ne.symm h1)).trans h.1,(heap_setChan_ne w _ _ _ _ _ _ (Ne.symm h2)).trans h.2⟩
def A:Duo prog where
 W:=t.W
 j:=t.j
 chans:=t.chans
 K:=t.K0
 KW:=λw=>w.heap[t.ub]? =some (.cells #[.chan (some t.c2)] 120 (0,0))
 Cz:=λw h=>h.1
 HK:=t.HK
 S:=t.S
 Still:=λ_=>False
 Q:=OfWg t.wg
 B:=t.Bd
 hj:=t.hj
 CB:=λw d h=>h
 Jp:=λw c k hc h=>KR hc h
 cell:=by
  rintro l (⟨a,rfl,_⟩|h|⟨a,rfl,_⟩)
  ·exact⟨a,rfl⟩
  ·exact h.elim
  ·exact⟨a,rfl⟩
 apart:=λl h=>h.elim
def D:Duo prog:={t.A with
 Still:=t.SB
 cell:=by
  rintro l (⟨a,rfl,_⟩|h|⟨a,rfl,_⟩)
  ·exact⟨a,rfl⟩
  ·exact⟨_,h⟩
  ·exact⟨a,rfl⟩
 apart:=by
  rintro l rfl
  obtain⟨a1,a2,a3,a4,a5,a6⟩:=t.fX
  refine⟨?_,?_⟩
  ·rintro⟨a,e,h⟩
   obtain rfl:a=⟨t.ub,0,none⟩:=by simpa using e.symm
   rcases h with h|h
   ·exact a5 h
   ·exact a4 h
  ·rintro⟨a,e,h⟩
   obtain rfl:a=⟨t.ub,0,none⟩:=by simpa using e.symm
   exact a4 h}
def IG:t.A.Deep:=⟨λw w' h k=>⟨(h t.ub (.inl rfl)).trans k.1,(h t.wg (.inr rfl)).trans k.2⟩,λa h=>h.elim⟩
def aam:t.D.Deep:=⟨λw w' h k=>⟨(h t.ub (.inl rfl)).trans k.1,(h t.wg (.inr rfl)).trans k.2⟩,λa h=>by
 have:Loc.cell a=Loc.cell ⟨t.ub,0,none⟩:=h
 obtain rfl:a=⟨t.ub,0,none⟩:=by simpa using this
 exact .inl rfl⟩
def ajx:t.A.Next t.D:=⟨rfl,rfl,rfl,rfl,rfl,rfl,λ_ h=>h,λ_ h=>h⟩
def ajz:t.D.Next t.A:=⟨rfl,rfl,rfl,rfl,rfl,rfl,λ_ h=>h,λ_ h=>h⟩
abbrev sS (fr:Int):Seat:=Eo t.cb t.sb t.ub t.db t.wg t.c1 fr t.cs
abbrev sR:Seat:=zD t.cb t.sb t.ub t.db t.wg t.c2 t.cs
abbrev sW (bc:Nat):Seat:=iW bc t.c1 t.c2 t.c3 t.cw
def sT (bc:Nat)(u:Un):Seat:={cases:=#[scase t.c2 (uV u) (.tuple #[])],shape:=.send,home:=H7 bc t.c1 t.c2 t.c3 t.cw}
def PC:t.D.Fits t.sR:=by intro cc h;simp only[zD,List.mem_toArray,List.mem_cons,List.not_mem_nil,or_false]at h;subst h;exact⟨t.c2,.inr (.inl rfl),rfl⟩
def Cp (bc:Nat):t.A.Fits (t.sW bc):=by
 intro cc h;simp only[iW,List.mem_toArray,List.mem_cons,List.not_mem_nil,or_false]at h;rcases h with rfl|rfl
 ·exact⟨t.c1,.inl rfl,rfl⟩
 ·exact⟨t.c3,.inr (.inr rfl),rfl⟩
def anC {t:Tk}(w:World)(h:w.heap[t.ub]? =some (.cells #[.chan (some t.c2)] 120 (0,0))):∃κ,Nh t.ub t.c2 κ/\∀b o,κ.f b=some o->w.heap[b]? =some o:=⟨⟨λb=>w.heap[b]?⟩,h,λ_ _ h=>h⟩
def QT {ga:Goroutine}(h:H6 t.cb t.sb t.ub t.db t.wg t.cs ga):∃k,dW prog (0==0) t.D.KW t.D.Still t.D.B t.sR k (Go.Conc.served ga undef):=
 ⟨_,.inl ⟨_,rfl,apT (Still:=t.SB) anC ⟨rfl,t.fX.2.2.2.2.2⟩ h⟩⟩
def Ud (fr:Int)(bc:Nat):commResult (t.sW bc).cases (t.sW bc).shape ((0:Nat):Int) (.int .i64 fr) true=.tuple #[.int .i64 0,.bool true,.int .i64 fr,.agg #[]]:=by simp[commResult,iW,rcase,goInt,Array.zipIdx,Array.filter]
def aed {bc:Nat}{ga:Goroutine}(h:H7 bc t.c1 t.c2 t.c3 t.cw ga):∃k,dW prog (t.j==0) t.A.KW t.A.Still t.A.B (t.sW bc) k (Go.Conc.served ga undef):=
 ⟨_,.inl ⟨_,rfl,apU h⟩⟩
def WV {bc:Nat}{u:Un}{main:Bool}{K:World->Prop}{Still:Loc->Prop}{Bd:Nat}{ρ:av}{a:Act}(ha:cJ 30 a ρ [])(h:Fw bc t.c1 t.c2 t.c3 ρ)(Ct:ρ 26=.chan (some t.c2))(Cu:ρ 29=uV u):
 AtIn prog main K Still Bd (t.sT bc u) (G (gC.at a (.inRegion q5 [4]:: .inBlock 2::kw)) t.cw) (G (gC.at a (.inRegion q5 [4]:: .inBlock 2::kw)) t.cw):=by
 obtain⟨ps,af,ho⟩:=TE;refine atIn_of ho rfl (by simp[gC]) (λw=>?_) (λw=>?_) ⟨ρ,a,ha,h,rfl⟩
 ·simp[execOp,ha.eval,ak,Ct,Cu,sT,scase]
 ·simp[execOp]
end Tk
variable (F:FS)(t:Tk){φ:Hp}
def apf (hb:Bx F t.cb t.sb t.db t.c1 t.c3 φ):∀(n:Nat) (a:F.γ) (σ:Hp) (m:Machine) (T:Trace) (g:Goroutine),F.μ a<n->F.ph a≠5->F.I a σ->σ.dV φ->E1 F.bc t.c1 t.c2 t.c3 t.cw g->
 t.D.St t.j 0 t.sR (Go.Conc.served g (.tuple #[.int .i64 0,.bool true,.int .i64 (F.fr a),.agg #[]])) (σ.bJ φ) m T->
 ∃N m' T' a' ae g',runNT prog N m T=(.next m',T')/\F.Loop a a'/\F.I a' ae/\ae.dV φ/\xZ t.cb t.sb t.ub t.db t.wg t.cs g'/\t.A.St 0 t.j (t.sW F.bc) g' (ae.bJ φ) m' T':=by
 intro n
 induction n with
 |zero=>intro a σ m T g h;omega
 |succ n ih=>
  intro a σ m T g hn hp hI hd hg mG;have tj:t.D.gf t.j 0:=.inr ⟨rfl,rfl⟩;have t0:t.A.gf 0 t.j:=.inl ⟨rfl,rfl⟩;have C8:(t.j==0)=false:=by have:=t.hj;simp;omega
  obtain⟨N1,m1,T1,g1,cZ,r1,pa,u,b,σb,Dj,hIb,yL,rfl,pY,ac1,da,nN,Ct,Cu,rfl⟩:=ap2 (E:=t.D.env t.aam tj t.PC) F hI hd hg m T mG;obtain⟨gs,w,sl,q,J,n0,y,rfl,e1,e2,e3,e4,e5,e6,e7⟩:=pa;have qu:=t.WV (main:=t.j==0) (K:=t.D.KW) (Still:=t.D.Still) (Bd:=t.D.B) da nN Ct Cu
  obtain⟨N2,m2,T2,r2,Lq⟩:=t.D.meet (a:=t.j) (b:=0) tj (sa:=t.sT F.bc u) (sb:=t.sR) (c:=t.c2) (kk:=0) (v:=uV u) (.inr (.inl rfl)) rfl rfl t.PC (by rfl) (λm cc hm cP=>by
   rcases m with _|m
   ·exact absurd rfl hm
   ·simp[zD]at cP) (λcc cP=>by
   simp only[zD,List.mem_toArray,List.mem_cons,List.not_mem_nil,or_false]at cP
   subst cP;rfl) (.inl ⟨rfl,rfl⟩) (sl:=sl) e1 e2 (.inl ⟨0,rfl,_,qu⟩) e3 e4 e5 e6 e7 (.inl aa)
  obtain⟨gb,C0,zH⟩:=Lq.pass t.ajz (λga h=>t.aed h);obtain⟨N3,m3,T3,g3,τ,r3,qR,BO,CU,hle,eN⟩:=aiW (E:=t.A.env t.IG t0 (t.Cp F.bc)) F hp Dj hIb yL hb C0 m2 T2 zH;have qR:=(t.A.env t.IG t0 (t.Cp F.bc)).ik qR hle;have L2:=runNT_then (runNT_then r1 r2) r3;rcases eN with⟨hi,Ax,hT⟩|⟨hi,c,d,ij,xp,Ax,h3⟩
  ·exact⟨_,m3,T3,b,BO,g3,L2,.idle hp Dj hi,Ax,CU,hT,qR⟩
  have bj:=F.dec hp Dj hi ij xp;rcases h3 with⟨h5,hT⟩|⟨h5,ρ4,a4,yF,hS,rfl⟩
  ·exact⟨_,m3,T3,d,BO,g3,L2,.step hp Dj hi ij xp (.gone h5),Ax,CU,hT,qR⟩
  obtain⟨gs,w,sl,q,J,n0,y,rfl,e1,e2,e3,e4,e5,e6,e7⟩:=qR;have qu:=NW (main:=true) (K:=t.A.KW) (Still:=t.A.Still) (Bd:=t.A.B) (cs:=t.cs) yF hS
  obtain⟨N4,m4,T4,r4,ai3⟩:=t.A.meet (a:=0) (b:=t.j) t0 (sa:=t.sS (F.fr d)) (sb:=t.sW F.bc) (c:=t.c1) (kk:=0) (v:=.int .i64 (F.fr d)) (.inl rfl) rfl rfl (t.Cp F.bc) (by rfl) (λm cc hm cP=>by
   rcases m with _|_|m
   ·exact absurd rfl hm
   ·simp[iW]at cP;subst cP
    simp only[rcase,ne_eq,Value.chan.injEq,Option.some.injEq]
    exactλe=>t.d13 e.symm
   ·simp[iW]at cP) (λcc cP=>by
   simp only[iW,List.mem_toArray,List.mem_cons,List.not_mem_nil,or_false]at cP
   rcases cP with rfl|rfl<;>rfl) (.inl ⟨rfl,rfl⟩) (sl:=sl) e1 e2 (.inl ⟨0,rfl,_,qu⟩) e3 e4 e5 e6 e7 (.inl aa)
  obtain⟨gb,C0,BF⟩:=ai3.pass t.ajx (λga h=>t.QT h);rw[t.Ud]at BF;obtain⟨N5,m5,T5,a',ae,g',r5,hl,Cx,jm,hT,zI⟩:=ih d BO m4 T4 gb aa h5 Ax CU C0 BF;exact⟨_,m5,T5,a',ae,g',runNT_then (runNT_then L2 r4) r5,.step hp Dj hi ij xp hl,Cx,jm,hT,zI⟩
end
end Go.Qw
