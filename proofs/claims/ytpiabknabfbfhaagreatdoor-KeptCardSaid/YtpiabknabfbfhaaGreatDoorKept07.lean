/- 7 -/
import Derived.Conc.DeferLaws
import Derived.Lib.ReflectliteSwap
import Derived.Test.YtpiabknabfbfhaaGreatDoorKept06
set_option linter.all false
set_option maxRecDepth 100000
set_option maxHeartbeats 8000000
namespace Go.Qw
open Go Go.Conc Go.Proofs.Tryz
section
open Go.Proofs
open Go.ConcX (OfWg)
structure Tk where
 W:World
 j:Nat
 c1:Nat
 c2:Nat
 c3:Nat
 cb:Nat
 sb:Nat
 ub:Nat
 db:Nat
 wg:Nat
 Jh:Nat->Prop
 Bd:Nat
 cs:List Frame
 cw:List Frame
 Ip:Obj
 hj:0<j
 d12:c1≠c2
 d13:c1≠c3
 d23:c2≠c3
 gC:ub≠c1/\ub≠c2/\ub≠c3/\ub≠wg/\¬Jh ub/\ub<Bd
 Hd:wg≠c1/\wg≠c2/\wg≠c3
namespace Tk
variable (t:Tk)
def chans (c:Nat):Prop:=c=t.c1\/c=t.c2\/c=t.c3
def K0 (w:World):Prop:=w.heap[t.ub]? =some (.cells #[.chan (some t.c2)] 120 (0,0))/\w.heap[t.wg]? =some t.Ip
def S (l:Loc):Prop:=∃a:Addr,l=.cell a/\(t.Jh a.block\/a.block=t.wg)
def HK (b:Nat):Prop:=b=t.ub\/b=t.wg
def SB (l:Loc):Prop:=l=.cell ⟨t.ub,0,none⟩
def LA {t:Tk}{w:World}{c k:Nat}{cl:Bool}(hc:t.chans c)(h:t.K0 w):t.K0 (w.setChan c 0 #[] cl k k false):=by
 obtain⟨a1,a2,a3,a4,a5,a6⟩:=t.gC;obtain⟨b1,b2,b3⟩:=t.Hd;have h1:t.ub≠c:=by rcases hc with rfl|rfl|rfl<;>assumption
 have h2:t.wg≠c:=by rcases hc with rfl|rfl|rfl<;>assumption
 exact⟨(heap_setChan_ne w _ _ _ _ _ _ (Ne.symm h1)).trans h.1,(heap_setChan_ne w _ _ _ _ _ _ (Ne.symm h2)).trans h.2⟩
def A:Duo prog where
 W:=t.W
 j:=t.j
 chans:=t.chans
 K:=t.K0
 KW:=λw=>w.heap[t.ub]? =some (.cells #[.chan (some t.c2)] 120 (0,0))
 C6:=λw h=>h.1
 HK:=t.HK
 S:=t.S
 Still:=λ_=>False
 Q:=OfWg t.wg
 B:=t.Bd
 hj:=t.hj
 C7:=λw d h=>h
 J4:=λw c k hc h=>LA hc h
 cell:=by
  rintro l (⟨a,rfl,_⟩|h|⟨a,rfl,_⟩)
  ·exact⟨a,rfl⟩
  ·exact h.elim
  ·exact⟨a,rfl⟩
 apart:=λl h=>h.elim
def D:Duo prog:={t.A with
 Still:=t.SB
 cell:=by
  rintro l (⟨a,rfl,_⟩|h|⟨a,rfl,_⟩)
  ·exact⟨a,rfl⟩
  ·exact⟨_,h⟩
  ·exact⟨a,rfl⟩
 apart:=by
  rintro l rfl
  obtain⟨a1,a2,a3,a4,a5,a6⟩:=t.gC
  refine⟨?_,?_⟩
  ·rintro⟨a,e,h⟩
   obtain rfl:a=⟨t.ub,0,none⟩:=by simpa using e.symm
   rcases h with h|h
   ·exact a5 h
   ·exact a4 h
  ·rintro⟨a,e,h⟩
   obtain rfl:a=⟨t.ub,0,none⟩:=by simpa using e.symm
   exact a4 h}
def Jo:t.A.Deep:=⟨λw w' h k=>⟨(h t.ub (.inl rfl)).trans k.1,(h t.wg (.inr rfl)).trans k.2⟩,λa h=>h.elim⟩
def abp:t.D.Deep:=⟨λw w' h k=>⟨(h t.ub (.inl rfl)).trans k.1,(h t.wg (.inr rfl)).trans k.2⟩,λa h=>by
 have:Loc.cell a=Loc.cell ⟨t.ub,0,none⟩:=h
 obtain rfl:a=⟨t.ub,0,none⟩:=by simpa using this
 exact .inl rfl⟩
def akC:t.A.Next t.D:=⟨rfl,rfl,rfl,rfl,rfl,rfl,λ_ h=>h,λ_ h=>h⟩
def akE:t.D.Next t.A:=⟨rfl,rfl,rfl,rfl,rfl,rfl,λ_ h=>h,λ_ h=>h⟩
abbrev sS (fr:Int):Seat:=EY t.cb t.sb t.ub t.db t.wg t.c1 fr t.cs
abbrev sR:Seat:=Ae t.cb t.sb t.ub t.db t.wg t.c2 t.cs
abbrev sW (bc:Nat):Seat:=jk bc t.c1 t.c2 t.c3 t.cw
def sT (bc:Nat)(u:Un):Seat:={cases:=#[scase t.c2 (uV u) (.tuple #[])],shape:=.send,home:=IK bc t.c1 t.c2 t.c3 t.cw}
def Qr:t.D.Fits t.sR:=by intro cc h;simp only[Ae,List.mem_toArray,List.mem_cons,List.not_mem_nil,or_false]at h;subst h;exact⟨t.c2,.inr (.inl rfl),rfl⟩
def CU (bc:Nat):t.A.Fits (t.sW bc):=by
 intro cc h;simp only[jk,List.mem_toArray,List.mem_cons,List.not_mem_nil,or_false]at h;rcases h with rfl|rfl
 ·exact⟨t.c1,.inl rfl,rfl⟩
 ·exact⟨t.c3,.inr (.inr rfl),rfl⟩
def aoG {t:Tk}(w:World)(h:w.heap[t.ub]? =some (.cells #[.chan (some t.c2)] 120 (0,0))):∃κ,NU t.ub t.c2 κ/\∀b o,κ.f b=some o->w.heap[b]? =some o:=⟨⟨λb=>w.heap[b]?⟩,h,λ_ _ h=>h⟩
def RL {ga:Goroutine}(h:IJ t.cb t.sb t.ub t.db t.wg t.cs ga):∃k,ei prog (0==0) t.D.KW t.D.Still t.D.B t.sR k (Go.Conc.served ga undef):=
 ⟨_,.inl ⟨_,rfl,aqZ (Still:=t.SB) aoG ⟨rfl,t.gC.2.2.2.2.2⟩ h⟩⟩
def UX (fr:Int)(bc:Nat):commResult (t.sW bc).cases (t.sW bc).shape ((0:Nat):Int) (.int .i64 fr) true=.tuple #[.int .i64 0,.bool true,.int .i64 fr,.agg #[]]:=by simp[commResult,jk,rcase,goInt,Array.zipIdx,Array.filter]
def aff {bc:Nat}{ga:Goroutine}(h:IK bc t.c1 t.c2 t.c3 t.cw ga):∃k,ei prog (t.j==0) t.A.KW t.A.Still t.A.B (t.sW bc) k (Go.Conc.served ga undef):=
 ⟨_,.inl ⟨_,rfl,aq0 h⟩⟩
def XZ {bc:Nat}{u:Un}{main:Bool}{K:World->Prop}{Still:Loc->Prop}{Bd:Nat}{I:av}{a:Act}(ha:cM 30 a I [])(h:Fw bc t.c1 t.c2 t.c3 I)(CZ:I 26=.chan (some t.c2))(C0:I 29=uV u):
 AtIn prog main K Still Bd (t.sT bc u) (G (gS.at a (.inRegion q5 [4]:: .inBlock 2::kw)) t.cw) (G (gS.at a (.inRegion q5 [4]:: .inBlock 2::kw)) t.cw):=by
 obtain⟨ps,af,ho⟩:=Us;refine atIn_of ho rfl (by simp[gS]) (λw=>?_) (λw=>?_) ⟨I,a,ha,h,rfl⟩
 ·simp[execOp,ha.eval,ak,CZ,C0,sT,scase]
 ·simp[execOp]
end Tk
variable (F:FS)(t:Tk){φ:Hp}
def aqk (hb:Bx F t.cb t.sb t.db t.c1 t.c3 φ):∀(n:Nat) (a:F.γ) (U:Hp) (m:Machine) (T:Trace) (g:Goroutine),F.μ a<n->F.ph a≠5->F.aut a U->U.dr φ->FC F.bc t.c1 t.c2 t.c3 t.cw g->
 t.D.St t.j 0 t.sR (Go.Conc.served g (.tuple #[.int .i64 0,.bool true,.int .i64 (F.fr a),.agg #[]])) (U.bA φ) m T->
 ∃N m' T' a' ae g',runNT prog N m T=(.next m',T')/\F.Loop a a'/\F.aut a' ae/\ae.dr φ/\yE t.cb t.sb t.ub t.db t.wg t.cs g'/\t.A.St 0 t.j (t.sW F.bc) g' (ae.bA φ) m' T':=by
 intro n
 induction n with
 |zero=>intro a U m T g h;omega
 |succ n ih=>
  intro a U m T g hn hp hI hd hg nA;have tj:t.D.gF t.j 0:=.inr ⟨rfl,rfl⟩;have t0:t.A.gF 0 t.j:=.inl ⟨rfl,rfl⟩;have DD:(t.j==0)=false:=by have:=t.hj;simp;omega
  obtain⟨N1,m1,T1,g1,cY,r1,qu,u,b,σb,DV,hIb,zj,rfl,qz,ac1,dk,om,CZ,C0,rfl⟩:=aq9 (E:=t.D.env t.abp tj t.Qr) F hI hd hg m T nA;obtain⟨gs,w,sl,q,auu,n0,y,rfl,e1,e2,e3,e4,e5,e6,e7⟩:=qu;have qQ:=t.XZ (main:=t.j==0) (K:=t.D.KW) (Still:=t.D.Still) (Bd:=t.D.B) dk om CZ C0
  obtain⟨N2,m2,T2,r2,L6⟩:=t.D.meet (a:=t.j) (b:=0) tj (sa:=t.sT F.bc u) (sb:=t.sR) (c:=t.c2) (kk:=0) (v:=uV u) (.inr (.inl rfl)) rfl rfl t.Qr (by rfl) (λm cc hm cS=>by
   rcases m with _|m
   ·exact absurd rfl hm
   ·simp[Ae]at cS) (λcc cS=>by
   simp only[Ae,List.mem_toArray,List.mem_cons,List.not_mem_nil,or_false]at cS
   subst cS;rfl) (.inl ⟨rfl,rfl⟩) (sl:=sl) e1 e2 (.inl ⟨0,rfl,_,qQ⟩) e3 e4 e5 e6 e7 (.inl aa)
  obtain⟨gb,Dt,Ai⟩:=L6.pass t.akE (λga h=>t.aff h);obtain⟨N3,m3,T3,g3,J,r3,ru,Cg,Dn,hle,eE⟩:=ajZ (E:=t.A.env t.Jo t0 (t.CU F.bc)) F hp DV hIb zj hb Dt m2 T2 Ai;have ru:=(t.A.env t.Jo t0 (t.CU F.bc)).iR ru hle;have MF:=runNT_then (runNT_then r1 r2) r3;rcases eE with⟨hi,A0,hT⟩|⟨hi,c,d,iD,xQ,A0,h3⟩
  ·exact⟨_,m3,T3,b,Cg,g3,MF,.idle hp DV hi,A0,Dn,hT,ru⟩
  have bd:=F.dec hp DV hi iD xQ;rcases h3 with⟨h5,hT⟩|⟨h5,V6,a4,zd,hS,rfl⟩
  ·exact⟨_,m3,T3,d,Cg,g3,MF,.step hp DV hi iD xQ (.gone h5),A0,Dn,hT,ru⟩
  obtain⟨gs,w,sl,q,auu,n0,y,rfl,e1,e2,e3,e4,e5,e6,e7⟩:=ru;have qQ:=ON (main:=true) (K:=t.A.KW) (Still:=t.A.Still) (Bd:=t.A.B) (cs:=t.cs) zd hS
  obtain⟨N4,m4,T4,r4,aj7⟩:=t.A.meet (a:=0) (b:=t.j) t0 (sa:=t.sS (F.fr d)) (sb:=t.sW F.bc) (c:=t.c1) (kk:=0) (v:=.int .i64 (F.fr d)) (.inl rfl) rfl rfl (t.CU F.bc) (by rfl) (λm cc hm cS=>by
   rcases m with _|_|m
   ·exact absurd rfl hm
   ·simp[jk]at cS;subst cS
    simp only[rcase,ne_eq,Value.chan.injEq,Option.some.injEq]
    exactλe=>t.d13 e.symm
   ·simp[jk]at cS) (λcc cS=>by
   simp only[jk,List.mem_toArray,List.mem_cons,List.not_mem_nil,or_false]at cS
   rcases cS with rfl|rfl<;>rfl) (.inl ⟨rfl,rfl⟩) (sl:=sl) e1 e2 (.inl ⟨0,rfl,_,qQ⟩) e3 e4 e5 e6 e7 (.inl aa)
  obtain⟨gb,Dt,B9⟩:=aj7.pass t.akC (λga h=>t.RL h);rw[t.UX]at B9;obtain⟨N5,m5,T5,a',ae,g',r5,hl,C3,jI,hT,Aj⟩:=ih d Cg m4 T4 gb aa h5 A0 Dn Dt B9;exact⟨_,m5,T5,a',ae,g',runNT_then (runNT_then MF r4) r5,.step hp DV hi iD xQ hl,C3,jI,hT,Aj⟩
end
section
variable {h:Nat}{x:Nat}{s:Seat}{g:Goroutine}{U:Hp}{N:Nat}{ops:Array Oper}{b:Frame}{a:Act}{k:List Item}{cs:List Frame}{ds:List Deferred}{I:av}
variable {P:Program}(D:Duo P)
def Duo.dT (h x:Nat)(s:Seat)(g:Goroutine)(U:Hp)(S:Goroutine->Hp->Prop):Prop:=
 ∀m T,D.St h x s g U m T->∃N m' T' g' ae,runNT P N m T=(.next m',T')/\D.St h x s g' ae m' T'/\S g' ae
variable {D}{S:Goroutine->Hp->Prop}
def Duo.dT.here (k:S g U):D.dT h x s g U S:=λm T hm=>⟨0,m,T,g,U,rfl,hm,k⟩
def Duo.dT.step (t:D.gF h x)(hs:D.Fits s)(hr:g.status=.running){X:Goroutine->Hp->Prop}(hX:D.xm (h==0) g U X)(k:∀g' ae,X g' ae->D.dT h x s g' ae S):D.dT h x s g U S:=by intro m T hm;obtain⟨N,m',T',g',ae,h1,h2,_,h3⟩:=D.run t hs hm hr hX;obtain⟨N',py,oP,CX,gE,k1,k2,k3⟩:=k g' ae h3 m' T' h2;exact⟨N+N',py,oP,CX,gE,runNT_then h1 k1,k2,k3⟩
def Duo.xm.quiet {main:Bool}{X:Goroutine->Prop}(k:∀w,(∀b o,U.f b=some o->w.heap[b]? =some o)->∃g' d es,stepG P main g w=.go g' (w.at d) es/\g'.status=.running/\X g'/\∀e∈es,∃a:Addr,e=⟨.cell a,false,false⟩/\(U.f a.block).isSome=true):
 D.xm main g U λg' ae=>ae=U/\X g':=by
 intro auu w hs hJ hK hc hf;obtain⟨g',d,es,h1,h2,h3,h4⟩:=k w λb o hb=>hs.heap hb;rw[h1];refine⟨U,auu,hs.at d,hJ,D.C7 w d hK,hc,hf.at d,Nat.le_refl _,λe he=>?_,h2,rfl,h3⟩;obtain⟨a,rfl,ha⟩:=h4 e he;obtain⟨o,ho⟩:=Option.isSome_iff_exists.1 ha;have hn:¬D.Hid a.block:=λhb=>hs.sx ho (hJ _ hb);refine⟨λb hb=>?_,⟨⟨al,al⟩,al⟩,?_⟩
 ·simp[MemAct.ofEvent,MemAct.touch?]at hb;subst hb;exact⟨λhS=>absurd (.inr (.inr ⟨a,rfl,.inl hS⟩)) hn,λ_=>rfl,λhQ=>absurd (.inr (.inr ⟨a,rfl,.inr hQ⟩)) hn⟩
 ·simp[MemAct.ofEvent,MemAct.low];exact hs.lt ho
def Duo.dT.ctl {g':Goroutine}(t:D.gF h x)(hs:D.Fits s)(k:∀w,stepG P (h==0) g w=.go g' w)(hr:g.status=.running)(eV:g'.status=.running)(n:D.dT h x s g' U S):D.dT h x s g U S:=by refine Duo.dT.step t hs hr (Duo.xm.quiet (X:=λy=>y=g') λw _=>⟨g',w.drawn,#[],k w,eV,rfl,al⟩) ?_;rintro _ _ ⟨rfl,rfl⟩;exact n
def Duo.dT.Js (t:D.gF h x)(hs:D.Fits s){id:Nat}(n:∀c,D.dT h x s (G (b.at a (.inRegion ops (Region.schedule (P.follows .mixedOrders) ops c)::k)) cs) U S):D.dT h x s (G (b.at a (.code (.region id ops true)::k)) cs) U S:=by
 refine Duo.dT.step t hs rfl (Duo.xm.quiet (X:=λy=>∃c,y=G (b.at a (.inRegion ops (Region.schedule (P.follows .mixedOrders) ops c)::k)) cs) λw _=>?_) ?_
 ·have:stepG P (h==0) (G (b.at a (.code (.region id ops true)::k)) cs) w=.go (G (b.at a (.inRegion ops (Region.schedule (P.follows .mixedOrders) ops (w.tape w.drawn (.order b.fn id)))::k)) cs) {w with drawn:=w.drawn+1}:=by simp[G,stepG,stepG.exec,Frame.at,choose,Sem.run,Question.forced,Question.cut]
  exact⟨_,w.drawn+1,#[],this,rfl,⟨_,rfl⟩,al⟩
 ·rintro _ _ ⟨rfl,c,rfl⟩;exact n c
def Duo.dT.Va (t:D.gF h x)(hs:D.Fits s)(hk:b.kind≠.early){F:Hp->Prop}(hF:F U){Ok:Addr->Prop}{Q:av->Prop}{rest:List Nat}(n:∀I a,cM N a I ds->Q I->D.dT h x s (G (b.at a (.inRegion ops rest::k)) cs) U S):
 ∀(p:List Nat) (I:av) (a:Act),dL P N ops F Ok Q p I->cM N a I ds->D.dT h x s (G (b.at a (.inRegion ops (p++rest)::k)) cs) U S:=by
 intro p
 induction p with
 |nil=>exactλI a h ha=>n I a ha h
 |cons i p ih=>
  intro I a hq ha;simp only[dL]at hq
  cases ho:ops[i]? with
  |none=>rw[ho]at hq;exact hq.elim
  |some o=>
   rw[ho]at hq;obtain⟨hd,hg,jK,gB,v,hv,hq⟩:=hq;refine Duo.dT.step t hs rfl (Duo.xm.quiet (X:=λy=>y=G (b.at (a.put o.dst v) (.inRegion ops (p++rest)::k)) cs) λw hw=>?_) ?_
   ·obtain⟨es,h1,h2⟩:=MW (main:=(h==0)) (k:=k) (cs:=cs) (rest:=p++rest) ho hg jK (hv U hF) hk ha w hw;refine⟨_,w.drawn,es,h1,rfl,rfl,λe he=>?_⟩;obtain⟨y,hy,_,hz⟩:=h2 e he;exact⟨y,hy,hz⟩
   ·rintro _ _ ⟨rfl,rfl⟩;exact ih _ _ hq (ha.put hd v)
def Duo.dT.call (t:D.gF h x)(hs:D.Fits s){i:Nat}{rest:List Nat}{o:Oper}{f:FuncId}{xs:Array Operand}{cA:Array TypeId}(ho:ops[i]? =some o)(hg:o.guard=none)(hk:b.kind≠.early)
 (aS:o.op=.call {callee:=.value (.func f),args:=xs,argTypes:=cA}) (hgo:cz P f=true)
 (n:D.dT h x s (G (Frame.enter P f (xs.map a.eval) .normal) (b.at a (.inRegion ops (i::rest)::k)::cs)) U S):D.dT h x s (G (b.at a (.inRegion ops (i::rest)::k)) cs) U S:=by
 unfold cz at hgo
 cases rQ:P.funcs[f]? with
 |none=>rw[rQ]at hgo;cases hgo
 |some fn=>
 rw[rQ]at hgo;simp only[Bool.and_eq_true,Bool.not_eq_true',beq_eq_false_iff_ne,ne_eq]at hgo;obtain⟨jJ,lC⟩:=hgo
 have hr:∀w,(execOp a.eval o).run P w=.ok (.enter f (xs.map a.eval)) w:=by intro w;exact run_call_body aS rQ (aY jJ) lC
 have he:∀w,(execOp a.eval o).events P w #[]= #[]:=by intro w;exact events_call_body aS rQ (aY jJ) lC _
 refine Duo.dT.ctl t hs (λw=>?_) rfl rfl n;rw[stepG_enter ho (by simp[Region.wanted,hg]) hk (hr w),listed_none (he w)]
def Duo.dT.defer (t:D.gF h x)(hs:D.Fits s){i:Nat}{rest:List Nat}{o:Oper}{f:FuncId}{xs:Array Operand}{cA:Array TypeId}(ho:ops[i]? =some o)(hg:o.guard=none)(hk:b.kind≠.early)
 (aS:o.op=.defer {callee:=.value (.func f),args:=xs,argTypes:=cA})
 (n:D.dT h x s (G (b.at (Act.put ⟨a.tmps,dcall f (xs.map a.eval)::a.defers⟩ o.dst undef) (.inRegion ops rest::k)) cs) U S):D.dT h x s (G (b.at a (.inRegion ops (i::rest)::k)) cs) U S:=
 Duo.dT.ctl t hs (λw=>stepG_defer ho (by simp[Region.wanted,hg]) hk aS) rfl rfl n
def Duo.dT.store (t:D.gF h x)(hs:D.Fits s){i:Nat}{rest:List Nat}{o:Oper}{ty:TypeId}{y z:Operand}{bk off:Nat}{u v:Value}{c:Array Value}{et:TypeId}(ho:ops[i]? =some o)(hg:o.guard=none)(hk:b.kind≠.early)
 (aS:o.op=.store ty y z) (hy:a.eval y=.pointer (some ⟨bk,off,none⟩)) (hz:a.eval z=v) (hv:v.oneCell'=true) {ie:TypeInfo} (vW:P.info? ty=some ie) (h1:ie.size=1) (hb:U.f bk=some (.cells c et (0,0))) (hu:c[off]? =some u)
 (bw:¬D.Still (.cell ⟨bk,off,none⟩)) (hK:∀w,(∀b o,U.f b=some o->w.heap[b]? =some o)->D.K w->D.K (w.setCell ⟨bk,off,none⟩ v))
 (n:D.dT h x s (G (b.at (a.put o.dst undef) (.inRegion ops rest::k)) cs) (U.setCell ⟨bk,off,none⟩ v) S):D.dT h x s (G (b.at a (.inRegion ops (i::rest)::k)) cs) U S:=by
 refine Duo.dT.step t hs rfl (X:=λg' ae=>ae=U.setCell ⟨bk,off,none⟩ v/\g'=G (b.at (a.put o.dst undef) (.inRegion ops rest::k)) cs) ?_ ?_
 ·intro auu w gh hJ hKw hc hf;have hw:=gh.heap hb;have kE:w.cell? ⟨bk,off,none⟩=some u:=by simp[World.cell?,hw,hu]
  have RS:w.frozen? ⟨bk,off,none⟩=false:=by simp[World.frozen?,hw]
  have lF:=Go.Lib.cells_one (v:=v) hv
  have hr:(execOp a.eval o).run P w=.ok .skip (w.setCell ⟨bk,off,none⟩ v):=by unfold execOp;simp[aS,hy,hz,Instr.storeAt,Instr.sureAddr,storeVar,sizeOf,typeInfo,vW,h1,lF,storeCells,run_store P _ _ v _ hv,Addr.add_zero',kE,RS,Result.andThen]
  have he:(execOp a.eval o).events P w #[]= #[⟨.cell ⟨bk,off,none⟩,true,false⟩]:=by unfold execOp;simp[aS,hy,hz,Instr.storeAt,Instr.sureAddr,storeVar,sizeOf,typeInfo,vW,h1,lF,storeCells,events_store P _ _ _ v _ hv,Addr.add_zero',kE,RS]
  rw[stepG_none ho (by simp[Region.wanted,hg]) hk hr];have hn:¬D.Hid bk:=λhh=>gh.sx hb (hJ _ hh);have GN:Kept auu w (w.setCell ⟨bk,off,none⟩ v):=Kept.modify gh hb (yV ⟨bk,off,none⟩ v);refine⟨U.setCell ⟨bk,off,none⟩ v,auu,gh.modify hb (yV ⟨bk,off,none⟩ v),hJ,hK w (λb o hb=>gh.heap hb) hKw,λc' cE=>?_,hf.kept GN,GN.tZ,λe kF=>?_,rfl,rfl,rfl⟩
  ·obtain⟨k0,DF⟩:=hc c' cE;exact⟨k0,by rw[GN.hidden c' (hJ c' (.inr (.inl cE)))];exact DF⟩
  ·have:=mem_listed kF;rw[he]at this;simp at this;subst this;refine⟨λb' cH=>?_,⟨⟨al,al⟩,al⟩,?_⟩
   ·simp[MemAct.ofEvent,MemAct.touch?]at cH;subst cH;exact⟨λhS=>absurd (.inr (.inr ⟨_,rfl,.inl hS⟩)) hn,λhS=>absurd hS bw,λhQ=>absurd (.inr (.inr ⟨_,rfl,.inr hQ⟩)) hn⟩
   ·simp[MemAct.ofEvent,MemAct.low]
    first|exact gh.lt hb|exact Nat.lt_of_lt_of_le (gh.lt hb) GN.tZ
 ·rintro _ _ ⟨rfl,rfl⟩;exact n
end
section
open Go.Proofs
open Go.ConcX (OfWg)
variable {I:av}{P:Program}{N:Nat}{ops:Array Oper}{F:Hp->Prop}{U:Hp}
def arb{E:Env P}{Ok:Addr->Prop}{Q:Post}{pn:List PanicEntry->List Deferred->Hp->Prop}{ds:List Deferred}(kI:F U)(gO:∀(i:Nat) (o:Oper),ops[i]? =some o->cW o.op=true):
 ∀(p:List Nat) (cI:List (Nat×av×Value)) (I:av),dL P N ops F Ok (λI=>Q .normal I ds U) p I->gq E N ops Q pn p cI I ds U:=by
 intro p
 induction p with
 |nil=>exactλ_ _ h=>h
 |cons i p ih=>
  intro cI I h;simp only[dL]at h
  cases ho:ops[i]? with
  |none=>rw[ho]at h;exact h.elim
  |some o=>
   rw[ho]at h;obtain⟨h1,h2,h3,h4,v,h5,h6⟩:=h;simp only[gq,ho];refine⟨h1,?_⟩;rw[if_pos (gO i o ho),if_pos (by simp[Region.wanted,h2]),h5 U kI];exact ih _ _ h6
variable {Q:av->Prop}
def ao2:∀(p:List Nat) (I:av),xa P N ops U Q p I->dL P N ops (λκ=>κ=U) (λ_=>True) Q p I:=by
 intro p
 induction p with
 |nil=>exactλ_ h=>h
 |cons i p ih=>
  intro I h;simp only[xa]at h;simp only[dL]
  cases ho:ops[i]? with
  |none=>rw[ho]at h;exact h.elim
  |some o=>
   rw[ho]at h;obtain⟨h1,h2,h3,v,h4,h5⟩:=h;exact⟨h1,h2,h3,λ_ _=>trivial,v,λκ e=>by rw[e];exact h4,ih _ h5⟩
def ao3{Q':av->Prop}(hq:∀I,Q I->Q' I):∀(p:List Nat) (I:av),xa P N ops U Q p I->xa P N ops U Q' p I:=by
 intro p
 induction p with
 |nil=>exactλI h=>hq I h
 |cons i p ih=>
  intro I h;simp only[xa]at h|-
  cases ho:ops[i]? with
  |none=>rw[ho]at h;exact h.elim
  |some o=>
   rw[ho]at h;obtain⟨h1,h2,h3,v,h4,h5⟩:=h;exact⟨h1,h2,h3,v,h4,ih _ h5⟩
variable {h:Nat}
def ak3(P:Program):Env P:={main:=true,st:=λ_ _ _ _=>False,iR:=λh _=>h,own:=λ_ _ _ _ _ h=>h.elim}
def ao5{Ok:Addr->Prop}{m:Nat}{l:List Nat}(kI:F U)(hm:P.follows .mixedOrders=true)(hc:sN (gW ops m) l=true)(he:endsIn ops m=true)(hl:∃p,l=p++[m])(gO:∀(i:Nat) (o:Oper),(gW ops m)[i]? =some o->cW o.op=true)(hk:∀(i:Nat) (o:Oper),i≠m->ops[i]? =some o->BC o.op=true/\Et P o.op=true/\o.guard=none)(hd:pC N (gz ops m)=true)(hg:((ops[m]?).bind (·.guard))=none)(hs:(ops[m]?).isSome=true)(h:∀p,l=p++[m]->dL P N (gW ops m) F Ok Q p I)(t:Nat):
 ∃p,Region.schedule (P.follows .mixedOrders) ops t=p++[m]/\dL P N ops (λκ=>κ=U) (λ_=>True) (λI=>∃az,Q az/\aC az (gz ops m) undef=aC I (gz ops m) undef) p I:=by
 obtain⟨p0,rfl⟩:=hl;obtain⟨p,G0,th⟩:=aoE hm he t;refine⟨p,G0,?_⟩;obtain⟨o,ho⟩:=Option.isSome_iff_exists.1 hs;have Se:(gW ops m)[m]? =some {o with op:=.move (.const undef)}:=by simp[gW,Array.getElem?_modify,ho]
 have RI:o.dst=gz ops m:=by simp[gz,ho]
 have GI:o.guard=none:=by rw[ho]at hg;exact hg
 have key:∀(p:List Nat) (I:av),dL P N (gW ops m) F Ok Q p I->dL P N (gW ops m) F Ok (λI=>∃az,Q az/\I=aC az (gz ops m) undef) (p++[m]) I:=by
  intro p
  induction p with
  |nil=>
   intro I h0;simp only[List.nil_append,dL,Se];exact⟨by rw[RI];exact hd,GI,trivial,λy hy=>hy.elim,undef,λκ _=>by simp[cU,ak],I,h0,by rw[RI]⟩
  |cons i p ih=>
   intro I h0;simp only[List.cons_append,dL]at h0|-
   cases hi:(gW ops m)[i]? with
   |none=>rw[hi]at h0;exact h0.elim
   |some oi=>
    rw[hi]at h0;obtain⟨h1,h2,h3,h4,v,h5,h6⟩:=h0;exact⟨h1,h2,h3,h4,v,h5,ih _ h6⟩
 have hD:=arb (E:=ak3 P) (Q:=ki λI ds J=>∃az,Q az/\I=aC az (gz ops m) undef) (pn:=λ_ _ _=>False) (ds:=[]) kI gO (p0++[m]) [] I (key p0 I (h p0 rfl));have hO:=P0 hc hm (λ_ _ _ _ h=>h.elim) hD t;rw[akk hm,G0]at hO;have hI:=ao4 p th hk I hO;refine ao2 p I ?_;refine ao3 (λI hq=>?_) p I hI;obtain⟨az,h1,h2⟩:=hq;exact⟨az,h1,h2.symm⟩
noncomputable def xj:Code:=f56.body.getD .skip
noncomputable def d56:Array Oper:=bM (bO xj)
noncomputable def kX:Array Oper:=bM (aP xj)
def mY:Frame:=baseD 56
noncomputable def bot:Frame:={(default:Frame)with fn:=prog.funcs.size,defers:=[],mode:=.panicking [goexitEntry]}
def Wb:xj=.seq (.region 0 d56 false) (.region 1 kX true):=ah
def abg:∃ps af cA ty,d56[0]? =some {dst:=none,op:=.defer {callee:=.value (.func 57),args:=#[.tmp 0],argTypes:=cA},type:=ty,pos:=ps,after:=af,guard:=none}:=⟨_,_,_,_,by simp only[d56,xj,f56,Option.getD_some,bO,bM];rfl⟩
def TZ:∃ps af cA ty,kX[7]? =some {dst:=some 13,op:=.call {callee:=.value (.func 58),args:=#[.tmp 8,.tmp 9,.tmp 10,.tmp 11,.tmp 12],argTypes:=cA},type:=ty,pos:=ps,after:=af,guard:=none}:=⟨_,_,_,_,by simp only[kX,xj,f56,Option.getD_some,aP,bM];rfl⟩
def amb:∃ps af,p0[8]? =some {dst:=none,op:=.store 9 (.tmp 18) (.tmp 16),type:=0,pos:=ps,after:=af,guard:=none}:=⟨_,_,by simp only[p0,pJ,f58,Option.getD_some,bO,bM];rfl⟩
def abT:endsIn kX 7=true:=ah
def aaq:sN (gW kX 7) [0,1,2,3,4,5,6,7]=true:=ah
def oS(wg cb kb sb ub db:Nat):Array Value:=#[pV wg,pV cb,pV kb,pV sb,pV ub,pV db]
def call56(wg cb kb sb ub db:Nat):Deferred:={target:=.fn (.func 56) (oS wg cb kb sb ub db),args:=#[]}
def Y3(wg cb kb sb ub db:Nat)(w:World):stepG prog false (born prog (call56 wg cb kb sb ub db)) w=
 .go (G (mY.at ⟨oS wg cb kb sb ub db++Array.replicate (14-(oS wg cb kb sb ub db).size) undef,[]⟩ [.code xj]) [bot]) w #[]:=by
 simp[born,call56,oS,stepG,unwind,callDeferred,invoke,callFunc,func56,f56,seen,GStep.after,G,Frame.enter,Frame.at,mY,baseD,bot,xj]
namespace Tk
variable {h:Nat}{b:Frame}{a:Act}{k:List Item}
variable (t:Tk)
structure Ok (b:Nat):Prop where
 n1:b≠t.c1
 n2:b≠t.c2
 n3:b≠t.c3
 nw:b≠t.wg
 nu:b≠t.ub
 nj:¬t.Jh b
 lt:b<t.Bd
def K1 (bc:Nat)(l:List Value)(w:World):Prop:=
 t.K0 w/\w.heap[t.cb]? =some (.cells #[pV bc] 70 (0,0))/\w.heap[t.sb]? =some (.cells #[.chan (some t.c1)] 119 (0,0))/\∃r,w.heap[bc]? =some (.cells (l.set 3 r).toArray 90 (0,0))
def S1 (bc:Nat)(l:Loc):Prop:=l=.cell ⟨t.ub,0,none⟩\/∃a,l=.cell a/\Rd t.cb t.sb bc a
variable {t}
def Ok.chan {b:Nat}(h:t.Ok b){c:Nat}(hc:t.chans c):b≠c:=by rcases hc with rfl|rfl|rfl;exact h.n1;exact h.n2;exact h.n3
def UI {bc:Nat}(hc:t.Ok t.cb)(hs:t.Ok t.sb)(hb:t.Ok bc){a:Addr}(h:Rd t.cb t.sb bc a):t.Ok a.block:=by
 rcases h with rfl|rfl|rfl|rfl
 ·exact hc
 ·exact hs
 ·exact hb
 ·exact hb
def B1 (t:Tk)(HK:Nat->Prop)(bc:Nat)(l:List Value)(hc:t.Ok t.cb)(hs:t.Ok t.sb)(hb:t.Ok bc):Duo prog:={t.A with
 K:=t.K1 bc l
 KW:=t.K1 bc l
 C6:=λw h=>h
 HK:=HK
 Still:=t.S1 bc
 C7:=λw d h=>h
 J4:=by
  rintro w c k cS ⟨h1,h2,h3,r,h4⟩
  exact⟨LA cS h1,(heap_setChan_ne w _ _ _ _ _ _ (Ne.symm (hc.chan cS)).symm.symm).trans h2,(heap_setChan_ne w _ _ _ _ _ _ (Ne.symm (hs.chan cS))).trans h3,r,(heap_setChan_ne w _ _ _ _ _ _ (Ne.symm (hb.chan cS))).trans h4⟩
 cell:=by rintro l (⟨a,rfl,_⟩|(rfl|⟨a,rfl,_⟩)|⟨a,rfl,_⟩)<;>exact⟨_,rfl⟩
 apart:=by
  obtain⟨a1,a2,a3,a4,a5,a6⟩:=t.gC
  rintro l (rfl|⟨a,rfl,hr⟩)
  ·refine⟨?_,?_⟩
   ·rintro⟨a,e,h⟩
    obtain rfl:a=⟨t.ub,0,none⟩:=by simpa using e.symm
    rcases h with h|h
    ·exact a5 h
    ·exact a4 h
   ·rintro⟨a,e,h⟩
    obtain rfl:a=⟨t.ub,0,none⟩:=by simpa using e.symm
    exact a4 h
  ·have ho:=UI hc hs hb hr
   refine⟨?_,?_⟩
   ·rintro⟨a',e,h⟩
    obtain rfl:a'=a:=by simpa using e.symm
    rcases h with h|h
    ·exact ho.nj h
    ·exact ho.nw h
   ·rintro⟨a',e,h⟩
    obtain rfl:a'=a:=by simpa using e.symm
    exact ho.nw h}
def acz {HK:Nat->Prop}{bc:Nat}{l:List Value}{hc:t.Ok t.cb}{hs:t.Ok t.sb}{hb:t.Ok bc}(fr:Int):(t.B1 HK bc l hc hs hb).Fits (t.sS fr):=by intro cc h;simp only[EY,List.mem_toArray,List.mem_cons,List.not_mem_nil,or_false]at h;subst h;exact⟨t.c1,.inl rfl,rfl⟩
end Tk
variable {s:Seat}{b:Frame}{k:List Item}
structure Bw (t:Tk) (bc kb:Nat) (l:List Value) (ch:List UInt8) (U:Hp):Prop where
 c:U.f t.cb=some (.cells #[pV bc] 70 (0,0))
 k:U.f kb=some (.cells #[.string (B ch)] 9 (0,0))
 s:U.f t.sb=some (.cells #[.chan (some t.c1)] 119 (0,0))
 u:U.f t.ub=some (.cells #[.chan (some t.c2)] 120 (0,0))
 d:U.f t.db=some (.cells #[.chan (some t.c3)] 121 (0,0))
 b:U.f bc=some (.cells l.toArray 90 (0,0))
variable {a:Act}
def CW(wg:Nat)(cw:List Frame):Prop:=∃a,a.defers=[dcall 57 #[pV wg]]/\a.tmps.size=14/\cw=[mY.at a [.inRegion kX [7]],bot]
structure NJ (t:Tk) (bc:Nat) (ch:List UInt8) (I:av):Prop where
 a:I 8=.pointer (some ⟨bc,3,none⟩)
 k:I 9=.string (B ch)
 s:I 10=.chan (some t.c1)
 u:I 11=.chan (some t.c2)
 d:I 12=.chan (some t.c3)
variable {t:Tk}{bc kb:Nat}{l:List Value}{ch:List UInt8}
def aoX(h1:I 1=pV t.cb)(h2:I 2=pV kb)(h3:I 3=pV t.sb)(h4:I 4=pV t.ub)(h5:I 5=pV t.db):
 dL prog 14 (gW kX 7) (Bw t bc kb l ch) (λ_=>True) (NJ t bc ch) [0,1,2,3,4,5,6] I:=by
 have hm:gW kX 7= #[]\/True:=.inr trivial;simp only[kX,xj,f56,Option.getD_some,aP,bM];refine pF (a:=⟨t.cb,0,none⟩) (v:=pV bc) rfl ai (by simp[ak,h1]) ah ah trivial (λκ h=>oT h.c rfl) ?_;refine vl (a:=⟨bc,0,none⟩) rfl ai (by simp[ak,up]) ?_;refine vk (a:=⟨bc,0,none⟩) (off:=3) rfl ai (by simp[ak,up]) ah ?_;refine pF (a:=⟨kb,0,none⟩) (v:=.string (B ch)) rfl ai (by simp[ak,up,h2]) ah ah trivial (λκ h=>oT h.k rfl) ?_;refine pF (a:=⟨t.sb,0,none⟩) (v:=.chan (some t.c1)) rfl ai (by simp[ak,up,h3]) ah ah trivial (λκ h=>oT h.s rfl) ?_;refine pF (a:=⟨t.ub,0,none⟩) (v:=.chan (some t.c2)) rfl ai (by simp[ak,up,h4]) ah ah trivial (λκ h=>oT h.u rfl) ?_;refine pF (a:=⟨t.db,0,none⟩) (v:=.chan (some t.c3)) rfl ai (by simp[ak,up,h5]) ah ah trivial (λκ h=>oT h.d rfl) ?_;exact⟨by simp[up,Addr.add],by simp[up],by simp[up],by simp[up],by simp[up]⟩
variable {x:Nat}
structure V8 (t:Tk) (bc:Nat) (x:List UInt8) (I:av):Prop where
 w:Fw bc t.c1 t.c2 t.c3 I
 v:I 16=.string (B x)
 p:I 18=.pointer (some ⟨bc,3,none⟩)
def aoY{rest:List UInt8}(hF:Fw bc t.c1 t.c2 t.c3 I)(h1:I 1=.string (B ch))(hl:l[3]? =some (.string (B rest)))(hn:rest.length+ch.length<=9223372036854775807):
 dL prog 30 p0 (Bw t bc kb l ch) (λ_=>True) (V8 t bc (rest++ch)) [0,1,2,3,4,5,6,7] I:=by
 simp only[p0,pJ,f58,Option.getD_some,bO,bM];refine H6 rfl ai ?_;refine vl (a:=⟨bc,3,none⟩) rfl ai (by simp[ak,up,hF.c]) ?_;refine vk (a:=⟨bc,3,none⟩) (off:=0) rfl ai (by simp[ak,up]) ah ?_;refine pF (a:=⟨bc,3,none⟩) (v:=.string (B rest)) rfl ai (by simp[ak,up,Addr.add]) ah ah trivial (λκ h=>oT h.b (aY hl)) ?_;refine H6 rfl ai ?_;refine E2 (v:=.string (B (rest++ch))) rfl ai (by simp[ak,up,h1,Pa,qI,hn]) ?_;refine vl (a:=⟨bc,3,none⟩) rfl ai (by simp[ak,up,hF.c]) ?_;refine vk (a:=⟨bc,3,none⟩) (off:=0) rfl ai (by simp[ak,up]) ah ?_;refine⟨?_,by simp[up],by simp[up,Addr.add]⟩;exact(((((((hF.up ai _).up ai _).up ai _).up ai _).up ai _).up ai _).up ai _).up ai _
section
variable {h:Nat}{s:Seat}{g:Goroutine}{U:Hp}{N:Nat}{ops:Array Oper}{b:Frame}{a:Act}{k:List Item}{ds:List Deferred}{I:av}
variable {t:Tk}{HK:Nat->Prop}{bc kb:Nat}{l:List Value}{ch rest:List UInt8}{hc:t.Ok t.cb}{hs:t.Ok t.sb}{hb:t.Ok bc}{U:Hp}{fr:Int}
def Ou {p:Oper->Bool}{ops:Array Oper}(h:ops.all p=true){i:Nat}{o:Oper}(ho:ops[i]? =some o):p o=true:=by rw[Array.all_eq_true]at h;obtain⟨hi,rfl⟩:=Array.getElem?_eq_some_iff.1 ho;exact h i hi
def anL:(gW kX 7).all (λo=>cW o.op)=true:=ah
def aiG:(gW kX 7).all (λo=>BC o.op&&Et prog o.op&&o.guard.isNone)=true:=ah
def ahu:∃ie,prog.info? 9=some ie/\ie.size=1:=by have:(prog.info? 9).map (·.size)=some 1:=ah;exact Option.map_eq_some_iff.1 this
def EZ (w:World){a:Addr}{b:Nat}(v:Value)(h:b≠a.block):(w.setCell a v).heap[b]? =w.heap[b]? :=by simp only[World.setCell,Array.getElem?_modify,if_neg (Ne.symm h)]
def X7:f58.body=some pJ:=ah
def Ys (hW:Bw t bc kb l ch U)(hl:l[3]? =some (.string (B rest)))(hn:rest.length+ch.length<=9223372036854775807):
 (t.B1 HK bc l hc hs hb).dT t.j 0 (t.sS fr) (born prog (call56 t.wg t.cb kb t.sb t.ub t.db)) U λg J=>J=U.setCell ⟨bc,3,none⟩ (.string (B (rest++ch)))/\∃cw I a,CW t.wg cw/\cM 30 a I []/\Fw bc t.c1 t.c2 t.c3 I/\g=G (gS.at a (.code ln:: .inLoop ln:: .inBlock 0::[])) cw:=by
 have tj:(t.B1 HK bc l hc hs hb).gF t.j 0:=.inr ⟨rfl,rfl⟩;have hf:=Tk.acz (t:=t) (HK:=HK) (hc:=hc) (hs:=hs) (hb:=hb) (l:=l) fr;have DD:(t.j==0)=false:=by have:=t.hj;simp;omega
 have hm:prog.follows .mixedOrders=true:=ah;refine Duo.dT.ctl tj hf (λw=>by rw[DD];exact Y3 _ _ _ _ _ _ w) rfl rfl ?_;have ui:=sL (oS t.wg t.cb kb t.sb t.ub t.db) 14 (by simp[oS]);generalize tp:nV (oS t.wg t.cb kb t.sb t.ub t.db) 14=mS at ui;have q0:mS 0=pV t.wg:=by rw[<-tp];rfl
 have q1:mS 1=pV t.cb:=by rw[<-tp];rfl
 have q2:mS 2=pV kb:=by rw[<-tp];rfl
 have q3:mS 3=pV t.sb:=by rw[<-tp];rfl
 have q4:mS 4=pV t.ub:=by rw[<-tp];rfl
 have q5:mS 5=pV t.db:=by rw[<-tp];rfl
 clear tp;generalize(⟨oS t.wg t.cb kb t.sb t.ub t.db++_,[]⟩:Act)=a0 at ui|-;rw[Wb];refine Duo.dT.ctl tj hf (λw=>stepG_seq) rfl rfl ?_;refine Duo.dT.ctl tj hf (λw=>stepG_region) rfl rfl ?_;have hr:List.range d56.size=[0]:=ah;rw[hr];obtain⟨ps,af,cA,ty,ho⟩:=abg;refine Duo.dT.defer tj hf ho rfl (by simp[mY,baseD]) rfl ?_;have e0:a0.eval (.tmp 0)=pV t.wg:=by rw[ui.eval];exact q0
 have s9:a0.defers=[]:=ui.defers
 have dk:cM 14 (Act.put ⟨a0.tmps,dcall 57 (#[Operand.tmp 0].map a0.eval)::a0.defers⟩ none undef) mS [dcall 57 #[pV t.wg]]:=by have:=ui.defer (dcall 57 #[pV t.wg]);rw[s9]at*;simpa[Act.put,e0]using this
 generalize Act.put ⟨a0.tmps,dcall 57 (#[Operand.tmp 0].map a0.eval)::a0.defers⟩ none undef=a1 at dk|-;refine Duo.dT.ctl tj hf (λw=>stepG_region_end) rfl rfl ?_;refine Duo.dT.Js tj hf λc=>?_;obtain⟨ps,af,cA,ty,ho⟩:=TZ;have Bc:gz kX 7=some 13:=by simp[gz,ho]
 obtain⟨p,hp,agG⟩:=ao5 (P:=prog) (N:=14) (ops:=kX) (m:=7) (l:=[0,1,2,3,4,5,6,7]) (F:=Bw t bc kb l ch) (Ok:=λ_=>True) (Q:=NJ t bc ch) (I:=mS) hW hm aaq abT ⟨[0,1,2,3,4,5,6],rfl⟩
  (λi o h=>Ou anL h) (λi o hi h=>by
   have:=Ou aiG ((Hw hi).trans h)
   simp only[Bool.and_eq_true,Option.isNone_iff_eq_none]at this
   exact⟨this.1.1,this.1.2,this.2⟩) (by rw[Bc];rfl) (by rw[ho];rfl) (by rw[ho];rfl) (λp hp=>by
   obtain rfl:p=[0,1,2,3,4,5,6]:=by
    have:=congrArg List.dropLast hp
    simpa using this.symm
   exact aoX q1 q2 q3 q4 q5) c
 rw[hp];refine Duo.dT.Va tj hf (N:=14) (ds:=[dcall 57 #[pV t.wg]]) (by simp[mY,baseD]) (F:=λκ=>κ=U) rfl (Ok:=λ_=>True) (rest:=[7]) (λI a ha hq=>?_) p mS a1 agG dk;obtain⟨az,hA,agt⟩:=hq
 have heq:∀i,i≠13->I i=az i:=λi hi=>by have:=congrFun agt i;simp only[Bc,aC,up,if_neg hi]at this;exact this.symm
 have k8:I 8=_:=(heq 8 ai).trans hA.a;have k9:I 9=_:=(heq 9 ai).trans hA.k;have tu:I 10=_:=(heq 10 ai).trans hA.s;have tv:I 11=_:=(heq 11 ai).trans hA.u;have LB:I 12=_:=(heq 12 ai).trans hA.d;refine Duo.dT.call tj hf ho rfl (by simp[mY,baseD]) rfl adH ?_
 have Km:(#[Operand.tmp 8,.tmp 9,.tmp 10,.tmp 11,.tmp 12]).map a.eval= #[.pointer (some ⟨bc,3,none⟩),.string (B ch),.chan (some t.c1),.chan (some t.c2),.chan (some t.c3)]:=by rw[ha.eval];simp[ak,k8,k9,tu,tv,LB]
 rw[Km,enter_at _ func58 X7,Wc];have DU:f58.ntmps=30:=rfl;rw[DU];have gK:=sL #[.pointer (some ⟨bc,3,none⟩),.string (B ch),.chan (some t.c1),.chan (some t.c2),.chan (some t.c3)] 30 al;generalize Ls:nV _ 30=mw at gK;have nv:Fw bc t.c1 t.c2 t.c3 mw:=by rw[<-Ls];exact⟨rfl,rfl,rfl,rfl⟩
 have r1:mw 1=.string (B ch):=by rw[<-Ls];rfl
 clear Ls;generalize(⟨_++Array.replicate (30-_) undef,[]⟩:Act)=a2 at gK|-;have qa:CW t.wg (mY.at a [.inRegion kX [7]]::[bot]):=⟨a,ha.defers,ha.size,rfl⟩;generalize(mY.at a [.inRegion kX [7]]::[bot])=cw at qa|-;change Duo.dT _ _ _ _ (G (gS.at a2 [.code (.seq (.region 0 p0 false) (.block 0 (.loop ln)))]) cw) _ _;refine Duo.dT.ctl tj hf (λw=>stepG_seq) rfl rfl ?_;refine Duo.dT.ctl tj hf (λw=>stepG_region) rfl rfl ?_;have bZ:List.range p0.size=[0,1,2,3,4,5,6,7]++[8]:=ah;rw[bZ];refine Duo.dT.Va tj hf (N:=30) (ds:=[]) (by simp[gS]) (F:=Bw t bc kb l ch) hW (Ok:=λ_=>True) (rest:=[8]) (λI a ha hA=>?_) [0,1,2,3,4,5,6,7] mw a2 (aoY nv r1 hl hn) gK;obtain⟨ps,af,ho⟩:=amb;obtain⟨ie,vW,afz⟩:=ahu;refine Duo.dT.store tj hf ho rfl (by simp[gS]) (ty:=9) (y:=.tmp 18) (z:=.tmp 16) (bk:=bc) (off:=3) (v:=.string (B (rest++ch))) (c:=l.toArray) (et:=90) (u:=.string (B rest)) rfl (by rw[ha.eval];exact hA.p) (by rw[ha.eval];exact hA.v) rfl vW afz hW.b (aY hl) ?_ ?_ ?_
 ·rintro(h|⟨a,h,h'|h'|h'|h'⟩)
  ·simp at h
  all_goals(subst h';simp at h)
 ·rintro w hw ⟨⟨g1,g2⟩,g3,g4,r,g5⟩;have n1:t.cb≠bc:=λe=>by rw[e]at g3;rw[g3]at g5;simp at g5
  have n2:t.sb≠bc:=λe=>by rw[e]at g4;rw[g4]at g5;simp at g5
  refine⟨⟨(EZ w _ (Ne.symm hb.nu)).trans g1,(EZ w _ (Ne.symm hb.nw)).trans g2⟩,(EZ w _ n1).trans g3,(EZ w _ n2).trans g4,.string (B (rest++ch)),?_⟩;simp only[World.setCell,Array.getElem?_modify,if_true,g5,Option.map_some];simp
 refine Duo.dT.ctl tj hf (λw=>stepG_region_end) rfl rfl ?_;refine Duo.dT.ctl tj hf (λw=>stepG_block) rfl rfl ?_;refine Duo.dT.ctl tj hf (λw=>stepG_loop) rfl rfl ?_;exact Duo.dT.here ⟨rfl,cw,I,_,qa,ha.put (dst:=none) rfl undef,hA.w,rfl⟩
end
variable {hc:t.Ok t.cb}{hs:t.Ok t.sb}{hb:t.Ok bc}
def Tk.afy{g:Goroutine}{m:Machine}{T:Trace}(hu:U.f t.ub=none)(nA:(t.B1 (λb=>b=t.wg) bc l hc hs hb).St h x s g U m T):(t.B1 t.HK bc l hc hs hb).St h x s g U m T:=by
 obtain⟨gs,w,sl,q,auu,n,y,rfl,e1,e2,e3,e4,e5,e6,e7⟩:=nA;refine⟨gs,w,sl,q,λb=>auu b\/b=t.ub,n,y,rfl,e1,e2,e3,⟨e4.lJ,e4.gY,e4.above,e4.d0,e4.dj,e4.k,e4.chans,e4.mZ,e4.rI,e4.nr⟩,e5,⟨e6.heap,λb hb=>?_,λb hb=>?_⟩,λb hb=>?_⟩
 ·rcases hb with hb|rfl
  ·exact e6.fX b hb
  ·exact hu
 ·rcases hb with hb|rfl
  ·exact e6.low b hb
  ·have:w.heap[t.ub]? =some _:=e4.k.1.1;exact(Array.getElem?_eq_some_iff.1 this).1
 ·rcases hb with(rfl|rfl)|hb|hb
  ·exact .inr rfl
  ·exact .inl (e7 _ (.inl rfl))
  ·exact .inl (e7 _ (.inr (.inl hb)))
  ·exact .inl (e7 _ (.inr (.inr hb)))
def Tk.akD:(t.B1 t.HK bc l hc hs hb).Next t.D:=⟨rfl,rfl,rfl,rfl,rfl,rfl,λ_ h=>h.1,λ_ h=>h⟩
section
variable {h:Nat}{U:Hp}{N:Nat}{b:Frame}{a:Act}{cs:List Frame}{I:av}
variable (F:FS){t:Tk}{φ:Hp}{kb:Nat}{l:List Value}{ch:List UInt8}{hc:t.Ok t.cb}{hs:t.Ok t.sb}{hb:t.Ok F.bc}
def acu {a:F.γ}{kO U:Hp}{m:Machine}{T:Trace}(gB:F.oH a ch)(hI:F.aut a kO)(hd:kO.dr φ)(nC:Bx F t.cb t.sb t.db t.c1 t.c3 φ)(gC:(kO.bA φ).f t.ub=none)(hp:F.ph a≠5)(hle:(kO.bA φ).le U)(hW:Bw t F.bc kb l ch U)(hn:ch.length<=4611686018427387904)
 (hl:l[3]? =some (.string (B (F.rest a)))) (mF:Cn F.bg (F.ph a) (F.fr a) l) (SG:kO.f F.bc=some (.cells l.toArray 90 (0,0)))
 (nA:(t.B1 (λb=>b=t.wg) F.bc l hc hs hb).St t.j 0 (t.sS (F.fr a)) (born prog (call56 t.wg t.cb kb t.sb t.ub t.db)) U m T):
 ∃N m' T' a' ae g' cw,runNT prog N m T=(.next m',T')/\F.Loop (F.add a ch) a'/\F.aut a' ae/\ae.dr φ/\CW t.wg cw/\yE t.cb t.sb t.ub t.db t.wg t.cs g'/\t.A.St 0 t.j (jk F.bc t.c1 t.c2 t.c3 cw) g' (ae.bA φ) m' T':=by
 have D6:=F.small hI;have tj:(t.B1 (λb=>b=t.wg) F.bc l hc hs hb).gF t.j 0:=.inr ⟨rfl,rfl⟩;obtain⟨N1,m1,T1,g1,J,r1,qu,rfl,cw,I,ac,qa,ha,hFw,rfl⟩:=Ys (t:=t) (HK:=λb=>b=t.wg) (hc:=hc) (hs:=hs) (hb:=hb) (fr:=F.fr a) hW hl aa m T nA;have Q4:=F.grow ch gB hI SG;obtain⟨cY,sf⟩:∃cY,cY=kO.set F.bc (.cells (l.set 3 (.string (B (F.rest a++ch)))).toArray 90 (0,0)):=⟨_,rfl⟩;rw[<-sf]at Q4
 have hd1:cY.dr φ:=by rw[sf];exact Jp hd (PW hd SG)
 have kG:(cY.bA φ).le (U.setCell ⟨F.bc,3,none⟩ (.string (B (F.rest a++ch)))):=by
  intro b o cH;rw[sf,<-H0]at cH;by_cases e:b=F.bc
  ·subst e;simp only[Hp.set,if_true,Option.some.injEq]at cH;subst cH;simp[Hp.setCell,Hp.modify,hW.b,yV]
  ·simp only[Hp.set,if_neg e]at cH;simp only[Hp.setCell,Hp.modify,if_neg e];exact hle b o cH
 have agU:(cY.bA φ).f t.ub=none:=by rw[sf,<-H0];have:t.ub≠F.bc:=λe=>hb.nu e.symm;simpa[Hp.set,this]using gC
 obtain⟨gs,w,sl,q,auu,n0,y,rfl,e1,e2,e3,e4,e5,e6,e7⟩:=qu;have Ai:(t.B1 t.HK F.bc l hc hs hb).St t.j 0 (t.sS (F.fr a)) _ (cY.bA φ) (crowd gs w sl) T1:=Tk.afy agU ⟨gs,w,sl,q,auu,n0,y,rfl,e1,e2,e3,e4,e5,e6.iR kG,e7⟩;clear e1 e2 e3 e4 e5 e6 e7;obtain⟨cq,w',bF,q',J',n',y',em,e1,e2,e3,e4,e5,e6,e7⟩:=Ai;obtain⟨t',G7⟩:∃t':Tk,t'={t with cw:=cw}:=⟨_,rfl⟩;have DD:(t.j==0)=false:=by have:=t.hj;simp;omega
 have fW:(t.B1 t.HK F.bc l hc hs hb).Fits (jk F.bc t.c1 t.c2 t.c3 cw):=by
  intro cc h;simp only[jk,List.mem_toArray,List.mem_cons,List.not_mem_nil,or_false]at h;rcases h with rfl|rfl
  ·exact⟨t.c1,.inl rfl,rfl⟩
  ·exact⟨t.c3,.inr (.inr rfl),rfl⟩
 have hh:=VK (main:=t.j==0) (K:=(t.B1 t.HK F.bc l hc hs hb).KW) (Still:=(t.B1 t.HK F.bc l hc hs hb).Still) (Bd:=(t.B1 t.HK F.bc l hc hs hb).B) (c1:=t.c1) (c2:=t.c2) (c3:=t.c3) (cw:=cw) ha hFw;have t0j:(t.B1 t.HK F.bc l hc hs hb).gF 0 t.j:=.inl ⟨rfl,rfl⟩
 obtain⟨N2,m2,T2,r2,L6⟩:=(t.B1 t.HK F.bc l hc hs hb).meet (a:=0) (b:=t.j) t0j (sa:=t.sS (F.fr a)) (sb:=jk F.bc t.c1 t.c2 t.c3 cw) (c:=t.c1) (kk:=0) (v:=.int .i64 (F.fr a)) (.inl rfl) rfl rfl fW (by rfl) (λm cc hm cS=>by
  rcases m with _|_|m
  ·exact absurd rfl hm
  ·simp[jk]at cS;subst cS
   simp only[rcase,ne_eq,Value.chan.injEq,Option.some.injEq]
   exactλe=>t.d13 e.symm
  ·simp[jk]at cS) (λcc cS=>by
  simp only[jk,List.mem_toArray,List.mem_cons,List.not_mem_nil,or_false]at cS
  rcases cS with rfl|rfl<;>rfl) (.inr ⟨rfl,rfl⟩) (sl:=bF) e2 e1 e3 (.inl ⟨_,rfl,hh⟩) e4 e5 e6 e7 (.inr aa)
 obtain⟨gb,Dt,ru⟩:=L6.stay Tk.akD (λl h=>.inl h) (λga h=>t.RL h);have e:commResult (jk F.bc t.c1 t.c2 t.c3 cw).cases (jk F.bc t.c1 t.c2 t.c3 cw).shape ((0:Nat):Int) (.int .i64 (F.fr a)) true=.tuple #[.int .i64 0,.bool true,.int .i64 (F.fr a),.agg #[]]:=Tk.UX {t with cw:=cw} (F.fr a) F.bc
 rw[e,<-F.Qx a ch]at ru;obtain⟨N3,m3,T3,a',ae,g',r3,iC,A0,Dn,hT3,B9⟩:=aqk F {t with cw:=cw} nC _ (F.add a ch) cY m2 T2 gb (Nat.lt_succ_self _) (by rw[F.Up];exact hp) Q4 hd1 Dt ru;rw[em]at r1;exact⟨_,m3,T3,a',ae,g',cw,runNT_then (runNT_then r1 r2) r3,iC,A0,Dn,qa,hT3,B9⟩
end
end
section
open Go.Proofs
open Go.ConcX (OfWg)
open Go.ConcX
section
variable {h:Nat}{x:Nat}{g:Goroutine}{N:Nat}{ops:Array Oper}{b:Frame}{a:Act}{k:List Item}{cs:List Frame}{ds:List Deferred}{I:av}
variable {P:Program}{main:Bool}{R:World->World->Prop}{D:World->World->Array Event->Prop}{Stop:Goroutine->World->Prop}{Kn:World->Prop}
def qN (bw:∀w w',R w w'->Kn w->Kn w')(hD:∀w,D w w #[]){g g':Goroutine}{n:Nat}(hr:g.status=.running)(h:∀w,stepG P main g w=.go g' w #[])(k:∀w,Kn w->Goes P main R D Stop n g' w):∀w,Kn w->Goes P main R D Stop (n+1) g w:=
 λw hw=>Goes.step hr λw₁ aor=>by rw[h w₁];exact⟨hD w₁,k w₁ (bw _ _ aor hw)⟩
def adP (bw:∀w w',R w w'->Kn w->Kn w')(hD:∀w,D w w #[]){N n:Nat}{ops:Array Oper}{b:Frame}{k:List Item}{cs:List Frame}(hk:b.kind≠.early){ds:List Deferred}{Q:av->Prop}{rest:List Nat}{Ok:Addr->Prop}
 (hn:∀I a,cM N a I ds->Q I->∀w,Kn w->Goes P main R D Stop n (G (b.at a (.inRegion ops rest::k)) cs) w):
 ∀(p:List Nat) (I:av) (a:Act),dL P N ops (λκ=>κ=⟨λ_=>none⟩) Ok Q p I->cM N a I ds->∀w,Kn w->Goes P main R D Stop (n+p.length) (G (b.at a (.inRegion ops (p++rest)::k)) cs) w:=by
 intro p
 induction p with
 |nil=>exactλI a h ha=>hn I a ha h
 |cons i p ih=>
  intro I a h ha;simp only[dL]at h
  cases ho:ops[i]? with
  |none=>rw[ho]at h;exact h.elim
  |some o=>
   rw[ho]at h;obtain⟨hd,hg,hs,_,v,hv,h⟩:=h;rw[List.length_cons,<-Nat.add_assoc];refine qN bw hD (g':=G (b.at (a.put o.dst v) (.inRegion ops (p++rest)::k)) cs) rfl (λw=>?_) (ih _ _ h (ha.put hd v));obtain⟨es,h1,h2⟩:=MW (main:=main) (κ:=⟨λ_=>none⟩) (k:=k) (cs:=cs) (rest:=p++rest) ho hg hs (hv _ rfl) hk ha w (λb o hb=>by cases hb)
   have:es= #[]:=by
    rw[Array.eq_empty_iff_forall_not_mem];intro e he;obtain⟨x,_,_,hx⟩:=h2 e he
    cases hx
   rw[List.cons_append,h1,this]
end
section
variable {h:Nat}{N:Nat}{a:Act}{cs:List Frame}{ds:List Deferred}{I:av}
variable [Payload]{Wg C Low:Nat}[Shy Wg C]{vals:List Value}{bc c1 c2 c3:Nat}{cw:List Frame}
def abl (w:World):DCs (λ_=>True) Wg C w w #[]:=⟨⟨rfl,rfl,rfl,rfl,λ_ _=>rfl⟩,al⟩
def ant {a:Act}(ha:a.defers=[]):QuitsD prog 2 0 (G {mY.at a []with mode:=.returning} [bot]):=by
 refine QuitsD.ctl (g':=G bot []) rfl (λw=>?_) ?_
 ·simp[G,stepG,unwind,doReturn,results,Frame.at,mY,baseD,bot,func56,f56,seen,GStep.after,goexitEntry,ha]
 refine QuitsD.ctl (g':={G bot []with status:=.finished}) rfl (λw=>?_) ⟨rfl,rfl⟩;simp[G,stepG,unwind,bot,goexitEntry,Frame.catches];rfl
def U1 (hW:Wg<Low)(hC:C<Low)(xz:C≠Wg)(qa:CW Wg cw){cR:Goroutine}(hg:FC bc c1 c2 c3 cw cR){w:World}(hK:KCa 131 Wg w/\Full C vals w):
 ∃n,Goes prog false (RCa 131 Wg Low) (DCs (λ_=>True) Wg C) (AtR0 prog 131 Wg C Low vals) n (Go.Conc.served cR (.tuple #[.int .i64 1,.bool false,.int .i64 0,.agg #[]])) w:=by
 obtain⟨I,ac,ha,hF,rfl⟩:=hg;obtain⟨a6,hd6,hs6,rfl⟩:=qa;obtain⟨ps,af,ho⟩:=ME;have bw:∀w w',RCa 131 Wg Low w w'->KCa 131 Wg w/\Full C vals w->KCa 131 Wg w'/\Full C vals w':=λw w' r h=>Go.ConcX.Gen.ka_rely (L:=pG) hC xz h r;have hD:=abl (Wg:=Wg) (C:=C)
 have e:Go.Conc.served (G (gS.at ac (.inRegion q3 [0,1,2,3]:: .code (.block 2 my)::kw)) [mY.at a6 [.inRegion kX [7]],bot]) (.tuple #[.int .i64 1,.bool false,.int .i64 0,.agg #[]])=
  G (gS.at (ac.put (some 21) (.tuple #[.int .i64 1,.bool false,.int .i64 0,.agg #[]])) (.inRegion q3 ([1,2,3]++[]):: .code (.block 2 my)::kw)) [mY.at a6 [.inRegion kX [7]],bot]:=by
  have:=Frame.finish_at gS ac q3 0 [1,2,3] (.code (.block 2 my)::kw) (.tuple #[.int .i64 1,.bool false,.int .i64 0,.agg #[]]);rw[ho]at this;simp only[Go.Conc.served,G,this];rfl
 rw[e];have dk:cM 30 _ _ []:=ha.put (dst:=some 21) ai (.tuple #[.int .i64 1,.bool false,.int .i64 0,.agg #[]])
 suffices key:∃n,∀w,KCa 131 Wg w/\Full C vals w->Goes prog false (RCa 131 Wg Low) (DCs (λ_=>True) Wg C) (AtR0 prog 131 Wg C Low vals) n (G (gS.at (ac.put (some 21) (.tuple #[.int .i64 1,.bool false,.int .i64 0,.agg #[]])) (.inRegion q3 ([1,2,3]++[]):: .code (.block 2 my)::kw)) [mY.at a6 [.inRegion kX [7]],bot]) w by obtain⟨n,hn⟩:=key;exact⟨n,hn w hK⟩
 refine⟨32+[1,2,3].length,?_⟩;refine adP (n:=32) (N:=30) (ds:=[]) bw hD (by simp[gS]) (Ok:=λ_=>True) (Q:=λI=>I 23=.bool false/\I 24=.bool true) (λI a ha h=>?_) [1,2,3] _ _ ?_ dk
 rotate_left
 ·simp only[q3,pq,ln,pJ,f58,Option.getD_some,aP,bO,dP,bM,aC];refine ao1 (vs:=#[.int .i64 1,.bool false,.int .i64 0,.agg #[]]) (v:=.int .i64 1) rfl ai (by simp[ak,up]) rfl ?_;refine E2 (v:=.bool false) rfl ai (by simp[ak,up,cK]) ?_;refine E2 (v:=.bool true) rfl ai (by simp[ak,up,cK]) ?_;exact⟨by simp[up],by simp[up]⟩
 obtain⟨JV,h24⟩:=h;refine qN bw hD rfl (λw=>stepG_region_end) ?_;refine qN bw hD rfl (λw=>stepG_block) ?_;rw[Pf];refine qN bw hD rfl (λw=>stepG_cond (t:=false) (by rw[ha.eval];exact JV)) ?_;refine qN bw hD rfl (λw=>stepG_cond (t:=true) (by rw[ha.eval];exact h24)) ?_;refine qN bw hD rfl (λw=>stepG_ret') ?_;refine qN bw hD rfl (λw=>stepG_leave (v:=.tuple #[]) rfl ha.defers func58 (by simp[results,f58]) (by simp[results,f58])) ?_;obtain⟨ps,af,cA,ty,ho7⟩:=TZ
 have e7:(mY.at a6 [.inRegion kX [7]]).finish (.tuple #[])=mY.at (a6.put (some 13) (.tuple #[])) [.inRegion kX []]:=by have:=Frame.finish_at mY a6 kX 7 [] [] (.tuple #[]);rw[ho7]at this;exact this
 rw[e7];refine qN bw hD rfl (λw=>stepG_region_end) ?_;refine qN bw hD rfl (λw=>stepG_end) ?_;have Bc:(a6.put (some 13) (.tuple #[])).defers=[dcall 57 #[pV Wg]]:=hd6;refine qN bw hD rfl (λw=>stepG_unwind_enter (ds:=[]) (f:=57) (args:=#[pV Wg]) (fn:=f57) (c:=f57.body.getD .skip) Bc func57 ah ah) ?_;intro w hw;have:=Go.ConcX.Gen.doneD (P:=prog) (L:=pG) Io (Mine:=λ_=>True) (Wg:=Wg) (C:=C) (Low:=Low) (vals:=vals) hW hC xz (c:={mY.at ⟨(a6.put (some 13) (.tuple #[])).tmps,[]⟩ []with mode:=.returning}) (cs:=[bot]) (qt:=2) rfl (ant rfl) w hw;exact this
end
noncomputable def uY:Array Oper:=bM (bO ry)
noncomputable def ml:Array Oper:=bM (aP ry)
def aqf:ry=.seq (.region 11 uY false) (.region 12 ml false):=ah
def alu:∃ps af,uY[0]? =some {dst:=some 50,op:=.load 121 (.tmp 6),type:=121,pos:=ps,after:=af,guard:=none}:=⟨_,_,by simp only[uY,ry,iM,jq,f40,Option.getD_some,aP,bO,bM];rfl⟩
def alv:∃ps af cA ty,uY[1]? =some {dst:=none,op:=.call {callee:=.builtin .close,args:=#[.tmp 50],argTypes:=cA},type:=ty,pos:=ps,after:=af,guard:=none}:=⟨_,_,_,_,by simp only[uY,ry,iM,jq,f40,Option.getD_some,aP,bO,bM];rfl⟩
def Mq:∃ps af cA ty,ml[0]? =some {dst:=some 51,op:=.call {callee:=.value (.func 60),args:=#[.tmp 7],argTypes:=cA},type:=ty,pos:=ps,after:=af,guard:=none}:=⟨_,_,_,_,by simp only[ml,ry,iM,jq,f40,Option.getD_some,aP,bM];rfl⟩
section
variable {h:Nat}{x:Nat}{s:Seat}{g:Goroutine}{a:Act}{k:List Item}
variable {P:Program}{main:Bool}{K K':World->Prop}{Still:Loc->Prop}{B:Nat}{s:Seat}
def AtIn.more (h:∀w,K' w->K w){g cR:Goroutine}(a:AtIn P main K Still B s g cR):AtIn P main K' Still B s g cR:=by obtain⟨a1,a2,a3,a4,a5,es,a6,a7⟩:=a;exact⟨a1,a2,a3,a4,a5,es,a6,λw hw=>a7 w (h w hw)⟩
def Way.more (h:∀w,K' w->K w):∀{n:Nat} {g:Goroutine},Way P main K Still B s n g->Way P main K' Still B s n g
 |0,_,⟨cR,a⟩=>⟨cR,AtIn.more h a⟩
 |n+1,g,a=>a.imp (λ⟨cR,x⟩=>⟨cR,AtIn.more h x⟩) λ⟨hr,x⟩=>⟨hr,λw hw=>by
  have:=x w (h w hw)
  cases hg:stepG P main g w<;>rw[hg]at this<;>first|exact this.elim|skip
  exact⟨this.1,this.2.1,Way.more h this.2.2⟩⟩
def ei.more (h:∀w,K' w->K w){n:Nat}{g:Goroutine}(a:ei P main K Still B s n g):ei P main K' Still B s n g:=by
 rcases a with⟨k,e,a⟩|⟨e,pU,cR,e2,a⟩
 ·exact .inl ⟨k,e,a.more h⟩
 ·exact .inr ⟨e,pU,cR,e2,AtIn.more h a⟩
end
variable {k:List Item}
structure Ww (wg:Nat) (w0 w:World):Prop where
 os:w.os=w0.os
 tape:w.tape=w0.tape
 output:w.output=w0.output
 size:w.heap.size=w0.heap.size
 block:∀k,k≠wg->w.heap[k]? =w0.heap[k]?
abbrev yK:Payload:=⟨70⟩
abbrev N8:Payload:=⟨121⟩
variable {cs:List Frame}
def ait(t:Tk)(a:Act)(w0:World)(g:Goroutine)(w:World):Prop:=g=G (bU.at (a.put ((ml[0]?).bind (·.dst)) (.tuple #[])) [.inRegion ml []]) t.cs/\Ww t.wg w0 w
def alR{t:Tk}{b:Nat}(hb:t.Ok b)(x:Addr)(e:x.block=b):¬t.S (.cell x):=by
 rintro⟨y,e2,h⟩;obtain rfl:y=x:=by simpa using e2.symm
 rcases h with h|h
 ·rw[e]at h;exact hb.nj h
 ·rw[e]at h;exact hb.nw h
@[reducible] def wF(t:Tk)(a:Act)(w0:World)(b:Nat)(hb:t.Ok b)(hw:t.wg<w0.heap.size)(hB:t.Bd<=w0.heap.size):Shy t.wg b:=
 shyOf t.S w0.heap.size t.wg b (ait t a w0) hw (Nat.lt_of_lt_of_le hb.lt hB) (alR hb)
variable {g:Goroutine}{t:Tk}{a:Act}{w0:World}{vb:Value}
def aiu(hc:t.Ok t.cb)(hw:t.wg<w0.heap.size)(hB:t.Bd<=w0.heap.size)(hb:w0.heap[t.cb]? =some (.cells #[vb] 70 (0,0))):
 letI:=yK;letI:=wF t a w0 t.cb hc hw hB
 ∀g w,Go.ConcX.Gen.AnchW7 pG (λw=>Aside2 t.cb t.wg w0 w) t.wg t.cb [vb] (bU.at a [.inRegion ml [0]]) t.cs g w->
 ∃m,Goes prog true (RPa 131 t.wg t.cb [vb]) (DPi (λ_=>True) t.wg t.cb w0.heap.size) (AtW1 prog 131 t.wg t.cb w0.heap.size [vb] (λ_=>True) (Go.ConcX.Gen.AnchW7 pG (λw=>Aside2 t.cb t.wg w0 w) t.wg t.cb [vb] (bU.at a [.inRegion ml [0]]) t.cs) λ_ _=>True) m g w:=by
 letI:=yK;letI:=wF t a w0 t.cb hc hw hB
 intro g w h;refine Go.ConcX.Gen.waitRound (P:=prog) (L:=pG) Io (Low:=w0.heap.size) (vals:=[vb]) (F:=λw=>Aside2 t.cb t.wg w0 w) (mT:=0) hc.nw (λw w' h1 h2=>h2.trans h1) (λw hf hg RR=>?_) g w h;intro w₁ hr;obtain⟨d,rfl⟩:=hr;refine⟨rfl,rfl,hf.os,hf.tape,hf.output,hf.size,λk hk=>?_⟩;by_cases e:k=t.cb
 ·subst e;exact(RR rfl).trans hb.symm
 ·exact hf.block k e hk
variable {h x:Nat}{s:Seat}
noncomputable def jn(t:Tk)(bc:Nat)(a:Act)(w0:World)(vb vd:Value)(hc:t.Ok t.cb)(hd:t.Ok t.db)(hu:t.ub<w0.heap.size)(h1:t.c1<w0.heap.size)(Gx:t.cb≠t.db)(hw:t.wg<w0.heap.size)(h3:t.c3<w0.heap.size)(hB:t.Bd<=w0.heap.size)(qa:CW t.wg t.cw)(hb:w0.heap[t.cb]? =some (.cells #[vb] 70 (0,0))):Jn prog:=
 {ty:=131
  Wg:=t.wg
  C:=t.cb
  C':=t.db
  Low:=w0.heap.size
  B0:=t.Bd
  j:=t.j
  aut:=yK
  I':=N8
  Y:=wF t a w0 t.cb hc hw hB
  Y':=wF t a w0 t.db hd hw hB
  vals:=[vb]
  lT:=[vd]
  S:=t.S
  vv:= @Go.ConcX.Gen.AnchW7 yK pG (λw=>Aside2 t.cb t.wg w0 w) t.wg t.cb (wF t a w0 t.cb hc hw hB) [vb] (bU.at a [.inRegion ml [0]]) t.cs
  Z:=λw=>w.heap[t.ub]? =some (.cells #[.chan (some t.c2)] 120 (0,0))/\(∃k,w.heap[t.c3]? =some (.chan 0 #[] true k k false))/\Open t.c1 w
  s:=jk bc t.c1 t.c2 t.c3 t.cw
  kk:=1
  c3:=t.c3
  z:=.agg #[]
  hj:=t.hj
  hW:=hw
  hC:=Nat.lt_of_lt_of_le hc.lt hB
  xy:=Nat.lt_of_lt_of_le hd.lt hB
  xz:=hc.nw
  J1:=hd.nw
  Gj:=Gx
  lD:=h3
  ok:=λ_ h=>h
  HD:=λ_ h=>h
  Kb:=λl ⟨x,e,h⟩=>⟨x,e,.inr h⟩
  Q2:=λg w ⟨T,e,_⟩=>by rw[e];rfl
  Q1:=aiu hc hw hB hb
  hZ:=λw w' h ⟨z1,⟨k,z2⟩,k',z3⟩=>⟨(h _ hu t.gC.2.2.2.1).trans z1,⟨k,(h _ h3 (Ne.symm t.Hd.2.2)).trans z2⟩,k',(h _ h1 (Ne.symm t.Hd.1)).trans z3⟩
  Rc:=λw ⟨z1,z2,z3⟩=>⟨z2,λm cc hm cS=>by
   rcases m with _|_|m
   ·simp[jk]at cS;subst cS
    exact⟨rfl,t.c1,rfl,z3⟩
   ·exact absurd rfl hm
   ·simp[jk]at cS⟩
  hk:=rfl
  serve:=λcR w hh hk h1 h2=>by
   have e:commResult (jk bc t.c1 t.c2 t.c3 t.cw).cases (jk bc t.c1 t.c2 t.c3 t.cw).shape ((1:Nat):Int) (.agg #[]) false=.tuple #[.int .i64 1,.bool false,.int .i64 0,.agg #[]]:=by simp[commResult,jk,rcase,goInt,Array.zipIdx,Array.filter]
   rw[e]
   exact⟨@U1 yK t.wg t.cb w0.heap.size (wF t a w0 t.cb hc hw hB) [vb] bc t.c1 t.c2 t.c3 t.cw hw (Nat.lt_of_lt_of_le hc.lt hB) hc.nw qa cR hh w ⟨hk,h1⟩,
    @U1 N8 t.wg t.db w0.heap.size (wF t a w0 t.db hd hw hB) [vd] bc t.c1 t.c2 t.c3 t.cw hw (Nat.lt_of_lt_of_le hd.lt hB) hd.nw qa cR hh w ⟨hk,h2⟩⟩}
end
section
open Go.Proofs
open Go.ConcX
variable {a:Act}{cs:List Frame}{I:av}{t:Tk}{U:Hp}{g:Goroutine}
def aqg{E:Env prog}(zj:U.f t.db=some (.cells #[.chan (some t.c3)] 121 (0,0)))(hT:yE t.cb t.sb t.ub t.db t.wg t.cs g):
 ax E g U λg J=>J=U/\∃I a,cM 52 a I []/\Fx t.cb t.sb t.ub t.db t.wg I/\I 50=.chan (some t.c3)/\g=G (bU.at a (.inRegion uY [1]:: .code (.region 12 ml false)::[])) t.cs:=by
 obtain⟨I,a,ha,hF,rfl⟩:=hT;rw[aqf];refine ax.ctl (λw=>stepG_seq) rfl rfl ?_;refine ax.ctl (λw=>stepG_region) rfl rfl ?_;have hr:List.range uY.size=[0]++[1]:=ah;rw[hr];obtain⟨ps,af,ho⟩:=alu
 refine(MN (E:=E) (N:=52) (ops:=uY) (F:=λκ=>κ.f t.db=some (.cells #[.chan (some t.c3)] 121 (0,0))) (Ok:=λ_=>True) (Q:=λI=>Fx t.cb t.sb t.ub t.db t.wg I/\I 50=.chan (some t.c3)) zj (by simp[bU]) [1] [0] (ds:=[])
  (pF (a:=⟨t.db,0,none⟩) (v:=.chan (some t.c3)) ho ai hF.d ah ah trivial (λκ h=>oT h rfl) ⟨hF.up ai _,by simp[up]⟩) ha).bind ?_
 rintro g J ⟨rfl,az,a',dH,⟨hF',oj⟩,rfl⟩;exact ax.here ⟨rfl,az,a',dH,hF',oj,rfl⟩
def X8:f60.body=some (Go.ConcX.Gen.body_wait pG):=ah
def TC:(f60.name== "runtime.NumGoroutine")=false:=ah
def OT:f60.body.isNone=false:=ah
def t60:f60.ntmps=84:=ah
def Xk(wg:Nat):(#[pV wg]++Array.replicate (84-1) undef:Array Value)= #[pV wg,undef,undef,undef,undef,undef,undef,undef,undef,undef,undef,undef,undef,undef,undef,undef,undef,undef,undef,undef,undef,undef,undef,undef,undef,undef,undef,undef,undef,undef,undef,undef,undef,undef,undef,undef,undef,undef,undef,undef,undef,undef,undef,undef,undef,undef,undef,undef,undef,undef,undef,undef,undef,undef,undef,undef,undef,undef,undef,undef,undef,undef,undef,undef,undef,undef,undef,undef,undef,undef,undef,undef,undef,undef,undef,undef,undef,undef,undef,undef,undef,undef,undef,undef]:=ah
def aqX{wg:Nat}(h:a.eval (.tmp 7)=pV wg)(w:World):stepG prog true (G (bU.at a [.inRegion ml [0]]) cs) w=
 .go (G ((base 60).at {tmps:=#[pV wg,undef,undef,undef,undef,undef,undef,undef,undef,undef,undef,undef,undef,undef,undef,undef,undef,undef,undef,undef,undef,undef,undef,undef,undef,undef,undef,undef,undef,undef,undef,undef,undef,undef,undef,undef,undef,undef,undef,undef,undef,undef,undef,undef,undef,undef,undef,undef,undef,undef,undef,undef,undef,undef,undef,undef,undef,undef,undef,undef,undef,undef,undef,undef,undef,undef,undef,undef,undef,undef,undef,undef,undef,undef,undef,undef,undef,undef,undef,undef,undef,undef,undef,undef],defers:=[]} [.code (Go.ConcX.Gen.body_wait pG)]) (bU.at a [.inRegion ml [0]]::cs)) w #[]:=by
 obtain⟨MD,IY,OO,VE,zB⟩:=Mq;have kF:(#[Operand.tmp 7]).map a.eval= #[pV wg]:=by simp[h]
 rw[stepG_enter (f:=60) (args:=(#[Operand.tmp 7]).map a.eval) zB rfl (by simp[bU]) (run_call_body rfl func60 TC OT),enter_at (fn:=f60) _ func60 X8]
 have:listed prog bU.fn a {dst:=some 51,op:=.call {callee:=.value (.func 60),args:=#[.tmp 7],argTypes:=OO},type:=VE,pos:=MD,after:=IY,guard:=none} w= #[]:=by unfold listed;rw[events_call_body rfl func60 TC OT];exact seen_none _ _
 rw[this,kF,t60,<-Xk];rfl
def ajL:(prog.funcs[40]?).any (·.norace)=false:=ah
variable {N bc:Nat}{m:Machine}{T:Trace}
def acs(hW:t.Ip=wgBlock 131 KK 0)(hc:t.Ok t.cb)(hd:t.Ok t.db)(Gx:t.cb≠t.db)(qa:CW t.wg t.cw){vb:Value}(mE:U.f t.cb=some (.cells #[vb] 70 (0,0)))(zj:U.f t.db=some (.cells #[.chan (some t.c3)] 121 (0,0)))(hT:yE t.cb t.sb t.ub t.db t.wg t.cs g)(nA:t.A.St 0 t.j (t.sW bc) g U m T):
 ∃N m' T' a,runNT prog N m T=(.next m',T')/\a.defers=[]/\yN prog t.W (G (bU.at a [.inRegion ml []]) t.cs) U m' T':=by
 have t0:t.A.gF 0 t.j:=.inl ⟨rfl,rfl⟩;obtain⟨N1,m1,T1,g1,J,r1,qu,rfl,I,a,ha,hF,oj,rfl⟩:=aqg (E:=t.A.env t.Jo t0 (t.CU bc)) zj hT m T nA;obtain⟨ps,af,cA,ty,ho⟩:=alv
 obtain⟨N2,gs,w0,sl,T2,q,auu,n,y,r2,cl⟩:=t.A.shut (t.CU bc) (λcc cS=>by
  simp only[jk,List.mem_toArray,List.mem_cons,List.not_mem_nil,or_false]at cS
  rcases cS with rfl|rfl<;>rfl) (c3:=t.c3) (kk:=1) (z:=.agg #[]) (.inr (.inr rfl)) (by rfl) qu (g':=G (bU.at (a.put none (.tuple #[])) (.inRegion uY []:: .code (.region 12 ml false)::[])) t.cs) rfl (by simp[mayWake,G,Frame.at,bU,ho]) rfl (λw k h=>Tk.LA (.inr (.inr rfl)) h)
  (λw k hk=>stepG_close ho rfl (by simp[bU]) rfl (by rw[ha.eval];exact oj) hk ajL)
 obtain⟨e1,e2,e3,e4,e5,e6,e7,e8,e9,kR,⟨kc,CL⟩,e12,Jt,e14,e15,AR,e17,hB⟩:=cl;have bd:∀{b:Nat} {o:Obj},w0.heap[b]? =some o->b<w0.heap.size:=λh=>(Array.getElem?_eq_some_iff.1 h).1;have hw:t.wg<w0.heap.size:=bd kR.2;have hu:t.ub<w0.heap.size:=bd kR.1;have h3:t.c3<w0.heap.size:=bd CL;obtain⟨k1,GW⟩:=e12 t.c1 (.inl rfl) t.d13;have h1:t.c1<w0.heap.size:=bd GW;replace hB:t.Bd<=w0.heap.size:=hB;have hb:=AR.heap mE;have Be:=AR.heap zj;have dH:=ha.put (dst:=none) rfl (.tuple #[]);obtain⟨a',hea⟩:∃a',a'=a.put none (.tuple #[]):=⟨_,rfl⟩;rw[<-hea]at dH e1
 have J9:∃mn,MJ (jn t bc a' w0 vb (.chan (some t.c3)) hc hd hu h1 Gx hw h3 hB qa hb) 1 0 mn (G (bU.at a' (.inRegion uY []:: .code (.region 12 ml false)::[])) t.cs) w0:=by
  letI:=yK;letI:=wF t a' w0 t.cb hc hw hB
  refine⟨3+1+1+1,.a1 ?_⟩;have bw:∀w w',RPa 131 t.wg t.cb [vb] w w'->(Aside2 t.cb t.wg w0 w/\KPa 131 t.wg t.cb [vb] w)->(Aside2 t.cb t.wg w0 w'/\KPa 131 t.wg t.cb [vb] w'):=λw w' r h=>⟨h.1.trans r.aside,r.ka h.2⟩;have hD:∀w:World,DPi (λ_=>True) t.wg t.cb w0.heap.size w w #[]:=λw=>⟨λ_ _=>rfl,al⟩;have h0:Aside2 t.cb t.wg w0 w0/\KPa 131 t.wg t.cb [vb] w0:=⟨⟨rfl,rfl,rfl,rfl,λ_ _ _=>rfl⟩,.inl (by have:=kR.2;rw[hW]at this;exact this)⟩;refine qN (Kn:=λw=>Aside2 t.cb t.wg w0 w/\KPa 131 t.wg t.cb [vb] w) bw hD rfl (λw=>stepG_region_end) ?_ w0 h0;refine qN bw hD rfl (λw=>stepG_region) ?_;have hr:List.range ml.size=[0]:=ah;rw[hr];obtain⟨MD,IY,OO,VE,zB⟩:=Mq;refine qN bw hD rfl (g':=G ((base 60).at {tmps:=#[pV t.wg,undef,undef,undef,undef,undef,undef,undef,undef,undef,undef,undef,undef,undef,undef,undef,undef,undef,undef,undef,undef,undef,undef,undef,undef,undef,undef,undef,undef,undef,undef,undef,undef,undef,undef,undef,undef,undef,undef,undef,undef,undef,undef,undef,undef,undef,undef,undef,undef,undef,undef,undef,undef,undef,undef,undef,undef,undef,undef,undef,undef,undef,undef,undef,undef,undef,undef,undef,undef,undef,undef,undef,undef,undef,undef,undef,undef,undef,undef,undef,undef,undef,undef,undef],defers:=[]} [.code (Go.ConcX.Gen.body_wait pG)]) (bU.at a' [.inRegion ml [0]]::t.cs)) (λw=>?_) ?_
  ·exact aqX (by rw[dH.eval];simp[ak,aC,hF.w]) w
  ·intro w hw;exact Go.ConcX.Gen.waitStart (P:=prog) (L:=pG) Io (Low:=w0.heap.size) (vals:=[vb]) (F:=λw=>Aside2 t.cb t.wg w0 w) (λw w' h1 h2=>h2.trans h1) w hw
 obtain⟨mn,J9⟩:=J9
 have hJ:JInv (jn t bc a' w0 vb (.chan (some t.c3)) hc hd hu h1 Gx hw h3 hB qa hb) (7-0,n,Go.ConcN.sumTo gs.size q,rk 0 1,mn) (crowd gs w0 sl) T2:=by refine⟨gs,w0,sl,q,_,y,1,0,mn,0,0,n,none,rfl,e1,e2,J9,.c0 e3 (ei.more (λw h=>h.1) e4) ⟨kR.1,⟨kc,CL⟩,k1,GW⟩,⟨e5,e6,e7,e8,e9,jS.ofK (Still:=λ_=>False) e15 (λ_ h=>h) (λi hi=>?_),λ_=>hb,λ_=>Be⟩,.inl ⟨aa,aa,by have:=kR.2;rw[hW]at this;exact this⟩,rfl,aa,rfl⟩;obtain⟨op,aS,Kk⟩:=Option.map_eq_some_iff.1 hi;exact e14 op (Array.mem_of_getElem? aS) _ ⟨_,rfl,rfl⟩ Kk
 obtain⟨N3,m3,T3,r3,QU,w3,Ag,q3,a3,n3,rfl,z1,z2,z3,z4⟩:=aiv hJ
 letI:=yK;letI:=wF t a' w0 t.cb hc hw hB
 obtain⟨N4,QV,a4,w4,MY,T4,q4,r4,y1,y2,⟨_,y3,y4⟩,y5,y6⟩:=walk_beside (P:=prog) (Shun:=t.S) (B:=w0.heap.size) (D:=DPj (λ_=>True) t.wg t.cb w0.heap.size) (λ_ _ es hD e he=>by
  obtain⟨f1,f2,f3,f4⟩:=evL_of_EvJ (Shun:=t.S) (B':=w0.heap.size) (λ_ h=>h) (hD.2 e he)
  exact⟨λx hx hs=>f1 x hx (.inl hs),f2,f3,f4⟩) _ n3 QU a3 w3 Ag T3 q3 (Nat.le_refl _) z1 z3 z4 z2
 have j8:∀b,(t.Jh b\/b=t.wg)->auu b:=λb h=>e17 b (.inr (.inr ⟨⟨b,0,none⟩,rfl,.inl ⟨_,rfl,h⟩⟩));refine⟨_,_,_,a'.put ((ml[0]?).bind (·.dst)) (.tuple #[]),runNT_then (runNT_then (runNT_then r1 r2) r3) r4,(by obtain⟨_,_,_,_,zB⟩:=Mq;rw[zB];exact dH.defers),QV,w4,MY,q4,λb=>t.Jh b\/b=t.wg,rfl,?_,y5,?_,⟨λ{b o} h=>?_,λb h=>AR.fX b (j8 b h),λb h=>?_⟩,⟨y4.os.trans Jt.os,y4.tape.trans Jt.tape,y4.output.trans Jt.output⟩,λ_ _ _ h=>h.elim⟩
 ·rw[y2,y3]
 ·rw[y4.size];exact y6
 ·have aE:b≠t.wg:=λe=>by subst e;have:=AR.fX _ (j8 t.wg (.inr rfl));rw[this]at h;cases h
  rw[y4.block b aE];exact AR.heap h
 ·rw[y4.size];exact AR.low b (j8 b h)
end
section
open Go.Proofs
variable {b:Frame}{P:Program}{E:Env P}{U:Hp}{I:av}{ds:List Deferred}{ty:Nat}
def NB{t el:TypeId}{d:Nat}{ps:String}{af:Array Edge}{g:Option (Nat×Bool)}{nx:av->List Deferred->Hp->Prop}{pn:List PanicEntry->Hp->Prop}(hu:∃dir,P.underlying t=some (.chan dir el))(hi:(P.info? el).isSome=true)(h:∀b,U.f b=none->nx (up I d (.chan (some b))) ds (U.set b (.chan 0 #[] false 0 0 false))):wpOp E ⟨some d,.makeChan t (.const (.int .i64 0)),ty,ps,af,g⟩ I ds U nx pn:=by
 obtain⟨dir,hu⟩:=hu;obtain⟨i,hi⟩:=Option.isSome_iff_exists.1 hi;unfold wpOp execOp;simp only[Instr.makeChan,asInt,asIntOf,aG,bt,ak,eg,hu,gu,hi];rw[if_neg (by rw[show IntKind.i64.max=9223372036854775807 from rfl];simp)];simp only[aG,yA,bt];exact h
noncomputable def zP:Array Oper:=bM (bO (aP jq))
noncomputable def Mr:Array Oper:=bM (bO jq)
noncomputable def rp:Code:=aP (aP jq)
def Wa:jq=.seq (.region 0 Mr false) (.seq (.region 1 zP true) rp):=ah
def nP:Obj:=.chan 0 #[] false 0 0 false
variable {s:Seat}{a:Act}
structure dW (U ae:Hp) (I:av) (sc sb ty:Nat) (lc la ls:Bool):Prop where
 c:lc=true->∃c,I sc=.chan (some c)/\U.f c=none/\ae.f c=some nP
 a:la=true->∃b,I sb=pV b/\U.f b=none/\ae.f b=some (.cells #[if ls=true then I sc else .chan none] ty (0,0))
 s:ls=true->lc=true/\la=true
variable {ae:Hp}{b:Nat}
def tY(h:U.le ae)(hb:ae.f b=none):U.f b=none:=by
 cases e:U.f b with
 |none=>rfl
 |some x=>rw[h b x e]at hb;cases hb
variable {o:Obj}
def B6{x:Nat}{p:Obj}(hb:ae.f b=none)(hx:ae.f x=some p):(ae.set b o).f x=some p:=by
 have:x≠b:=λe=>by rw[e,hb]at hx;cases hx
 simpa[Hp.set,this]using hx
variable {az:av}{sc sb:Nat}{lc la ls:Bool}
def dW.new(h:dW U ae I sc sb ty lc la ls)(hb:ae.f b=none)(h1:az sc=I sc)(h2:az sb=I sb):dW U (ae.set b o) az sc sb ty lc la ls:=by
 refine⟨λe=>?_,λe=>?_,h.s⟩
 ·obtain⟨c,k1,k2,k3⟩:=h.c e;exact⟨c,h1.trans k1,k2,B6 hb k3⟩
 ·obtain⟨c,k1,k2,k3⟩:=h.a e;exact⟨c,h2.trans k1,k2,by rw[h1];exact B6 hb k3⟩
def dW.chan(h:dW U ae I sc sb ty false la ls)(hl:U.le ae)(hb:ae.f b=none)(h1:az sc=.chan (some b))(h2:az sb=I sb):dW U (ae.set b nP) az sc sb ty true la ls:=by
 have hs:ls=false:=by
  cases e:ls with
  |false=>rfl
  |true=>exact absurd (h.s e).1 al
 subst hs;refine⟨λ_=>⟨b,h1,tY hl hb,by simp[Hp.set]⟩,λe=>?_,λe=>by cases e⟩;obtain⟨c,k1,k2,k3⟩:=h.a e;exact⟨c,h2.trans k1,k2,B6 hb (by simpa using k3)⟩
def dW.box(h:dW U ae I sc sb ty lc false ls)(hl:U.le ae)(hb:ae.f b=none)(h1:az sc=I sc)(h2:az sb=pV b):dW U (ae.set b (.cells #[.chan none] ty (0,0))) az sc sb ty lc true ls:=by
 have hs:ls=false:=by
  cases e:ls with
  |false=>rfl
  |true=>exact absurd (h.s e).2 al
 subst hs;refine⟨λe=>?_,λ_=>⟨b,h2,tY hl hb,by simp[Hp.set]⟩,λe=>by cases e⟩;obtain⟨c,k1,k2,k3⟩:=h.c e;exact⟨c,h1.trans k1,k2,B6 hb k3⟩
def dW.st(h:dW U ae I sc sb ty true true ls){c:Value}(h0:I sb=pV b)(hc:I sc=c):dW U (ae.set b (.cells #[c] ty (0,0))) I sc sb ty true true true:=by
 obtain⟨b',k1,k2,k3⟩:=h.a rfl;rw[h0]at k1;simp only[Value.pointer.injEq,Option.some.injEq,Addr.mk.injEq,and_true]at k1;subst k1;refine⟨λ_=>?_,λ_=>⟨b,h0,k2,by simp[Hp.set,hc]⟩,λ_=>⟨rfl,rfl⟩⟩;obtain⟨x,j1,j2,j3⟩:=h.c rfl;refine⟨x,j1,j2,?_⟩;have:x≠b:=λe=>by rw[e,k3]at j3;simp[nP]at j3
 simpa[Hp.set,this]using j3
def dW.other(h:dW U ae I sc sb ty lc la ls){No:Nat}{v v':Value}(hb:ae.f b=some (.cells #[v] No (0,0)))(hty:No≠ty):dW U (ae.set b (.cells #[v'] No (0,0))) I sc sb ty lc la ls:=by
 refine⟨λe=>?_,λe=>?_,h.s⟩
 ·obtain⟨c,k1,k2,k3⟩:=h.c e;have:c≠b:=λe=>by rw[e,hb]at k3;simp[nP]at k3
  exact⟨c,k1,k2,by simpa[Hp.set,this]using k3⟩
 ·obtain⟨c,k1,k2,k3⟩:=h.a e;have:c≠b:=λe=>by rw[e,hb]at k3;simp at k3;exact hty k3.2
  exact⟨c,k1,k2,by simpa[Hp.set,this]using k3⟩
structure FD (U:Hp) (r2 r3:Value) (L:Nat->Bool) (I:av) (ds:List Deferred) (ae:Hp):Prop where
 ds:ds=[]
 r2:I 2=r2
 r3:I 3=r3
 le:U.le ae
 t0:dW U ae I 9 4 119 (L 0) (L 3) (L 6)
 t1:dW U ae I 10 5 120 (L 1) (L 4) (L 7)
 t2:dW U ae I 11 6 121 (L 2) (L 5) (L 8)
 n01:L 0=true->L 1=true->I 9≠I 10
 n02:L 0=true->L 2=true->I 9≠I 11
 n12:L 1=true->L 2=true->I 10≠I 11
def wJ(h:U.le ae)(hb:ae.f b=none)(o:Obj):U.le (ae.set b o):=λx p hx=>B6 hb (h x p hx)
def LN(h:U.le ae)(hb:U.f b=none)(o:Obj):U.le (ae.set b o):=λx p hx=>by
 have:x≠b:=λe=>by rw[e,hb]at hx;cases hx
 simpa[Hp.set,this]using h x p hx
def BK(h:dW U ae I sc sb ty true la ls)(hb:ae.f b=none):I sc≠.chan (some b):=by obtain⟨c,k1,_,k3⟩:=h.c rfl;rw[k1];intro e;simp only[Value.chan.injEq,Option.some.injEq]at e;rw[e,hb]at k3;cases k3
def abU{E:Env prog}{Q:Post}{kO:Hp}{r2 r3:Value}(L:Nat->Bool)(i:Nat)(o:Oper)(I:av)(ds:List Deferred)(U:Hp)(K:av->List Deferred->Hp->Prop)(ho:zP[i]? =some o)(hL:L i=false)(he:∀e∈o.after,Region.binds .any e=true->L e.on=true)(h:FD kO r2 r3 L I ds U)(hK:∀az da ae,FD kO r2 r3 (λj=>L j||j==i) az da ae->K az da ae):mv E 52 zP Q i K I ds U:=by
 unfold mv;rw[ho];simp only[zP,jq,f40,Option.getD_some,aP,bO,bM]at ho;obtain⟨e1,e2,e3,e4,e5,e6,e7,e8,e9,kR⟩:=h;rcases i with _|_|_|_|_|_|_|_|_|i
 ·
  simp only[List.getElem?_toArray,List.getElem?_cons_zero,Option.some.injEq]at ho;subst ho;refine⟨rfl,?_⟩;rw[if_pos (by simp[Region.wanted]),if_neg (by simp[cW])];refine NB (el:=3) ⟨_,underlying119⟩ ah λb hb=>hK _ _ _ ?_;rw[hL]at e5;constructor
  ·exact e1
  ·simpa[up]using e2
  ·simpa[up]using e3
  ·exact wJ e4 hb _
  ·simpa[up,hL,nP]using(dW.chan (az:=up I 9 (.chan (some b))) e5 e4 hb (by simp[up]) (by simp[up]))
  ·simpa[up]using(dW.new (az:=up I 9 (.chan (some b))) e6 hb (by simp[up]) (by simp[up]))
  ·simpa[up]using(dW.new (az:=up I 9 (.chan (some b))) e7 hb (by simp[up]) (by simp[up]))
  ·intro _ h2;simp at h2;rw[h2]at e6;have:=BK e6 hb;simpa[up]usingλe=>this e.symm
  ·intro _ h2;simp at h2;rw[h2]at e7;have:=BK e7 hb;simpa[up]usingλe=>this e.symm
  ·intro h1 h2;simp at h1 h2;simpa[up]using kR h1 h2
 ·
  simp only[List.getElem?_toArray,List.getElem?_cons_zero,List.getElem?_cons_succ,Option.some.injEq]at ho;subst ho;refine⟨rfl,?_⟩;rw[if_pos (by simp[Region.wanted]),if_neg (by simp[cW])];refine NB (el:=135) ⟨_,underlying120⟩ ah λb hb=>hK _ _ _ ?_;rw[hL]at e6;constructor
  ·exact e1
  ·simpa[up]using e2
  ·simpa[up]using e3
  ·exact wJ e4 hb _
  ·simpa[up]using(dW.new (az:=up I 10 (.chan (some b))) e5 hb (by simp[up]) (by simp[up]))
  ·simpa[up,hL,nP]using(dW.chan (az:=up I 10 (.chan (some b))) e6 e4 hb (by simp[up]) (by simp[up]))
  ·simpa[up]using(dW.new (az:=up I 10 (.chan (some b))) e7 hb (by simp[up]) (by simp[up]))
  ·intro h2 _;simp at h2;rw[h2]at e5;have:=BK e5 hb;simpa[up]using this
  ·intro h1 h2;simp at h1 h2;simpa[up]using e9 h1 h2
  ·intro _ h2;simp at h2;rw[h2]at e7;have:=BK e7 hb;simpa[up]usingλe=>this e.symm
 ·
  simp only[List.getElem?_toArray,List.getElem?_cons_zero,List.getElem?_cons_succ,Option.some.injEq]at ho;subst ho;refine⟨rfl,?_⟩;rw[if_pos (by simp[Region.wanted]),if_neg (by simp[cW])];refine NB (el:=122) ⟨_,underlying121⟩ ah λb hb=>hK _ _ _ ?_;rw[hL]at e7;constructor
  ·exact e1
  ·simpa[up]using e2
  ·simpa[up]using e3
  ·exact wJ e4 hb _
  ·simpa[up]using(dW.new (az:=up I 11 (.chan (some b))) e5 hb (by simp[up]) (by simp[up]))
  ·simpa[up]using(dW.new (az:=up I 11 (.chan (some b))) e6 hb (by simp[up]) (by simp[up]))
  ·simpa[up,hL,nP]using(dW.chan (az:=up I 11 (.chan (some b))) e7 e4 hb (by simp[up]) (by simp[up]))
  ·intro h1 h2;simp at h1 h2;simpa[up]using e8 h1 h2
  ·intro h2 _;simp at h2;rw[h2]at e5;have:=BK e5 hb;simpa[up]using this
  ·intro h2 _;simp at h2;rw[h2]at e6;have:=BK e6 hb;simpa[up]using this
 ·
  simp only[List.getElem?_toArray,List.getElem?_cons_zero,List.getElem?_cons_succ,Option.some.injEq]at ho;subst ho;refine⟨rfl,?_⟩;rw[if_pos (by simp[Region.wanted]),if_neg (by simp[cW])];refine sz ?_;refine ag ?_;refineλb hb=>hK _ _ _ ?_;simp only[aC,show(Value.chan none).cells= #[.chan none]from rfl];rw[hL]at e5;constructor
  ·exact e1
  ·simpa[up]using e2
  ·simpa[up]using e3
  ·exact wJ e4 hb _
  ·simpa[up,hL]using(dW.box (az:=up I 4 (pV b)) e5 e4 hb (by simp[up]) (by simp[up]))
  ·simpa[up]using(dW.new (az:=up I 4 (pV b)) e6 hb (by simp[up]) (by simp[up]))
  ·simpa[up]using(dW.new (az:=up I 4 (pV b)) e7 hb (by simp[up]) (by simp[up]))
  ·intro h1 h2;simp at h1 h2;simpa[up]using e8 h1 h2
  ·intro h1 h2;simp at h1 h2;simpa[up]using e9 h1 h2
  ·intro h1 h2;simp at h1 h2;simpa[up]using kR h1 h2
 ·
  simp only[List.getElem?_toArray,List.getElem?_cons_zero,List.getElem?_cons_succ,Option.some.injEq]at ho;subst ho;refine⟨rfl,?_⟩;rw[if_pos (by simp[Region.wanted]),if_neg (by simp[cW])];refine sz ?_;refine ag ?_;refineλb hb=>hK _ _ _ ?_;simp only[aC,show(Value.chan none).cells= #[.chan none]from rfl];rw[hL]at e6;constructor
  ·exact e1
  ·simpa[up]using e2
  ·simpa[up]using e3
  ·exact wJ e4 hb _
  ·simpa[up]using(dW.new (az:=up I 5 (pV b)) e5 hb (by simp[up]) (by simp[up]))
  ·simpa[up,hL]using(dW.box (az:=up I 5 (pV b)) e6 e4 hb (by simp[up]) (by simp[up]))
  ·simpa[up]using(dW.new (az:=up I 5 (pV b)) e7 hb (by simp[up]) (by simp[up]))
  ·intro h1 h2;simp at h1 h2;simpa[up]using e8 h1 h2
  ·intro h1 h2;simp at h1 h2;simpa[up]using e9 h1 h2
  ·intro h1 h2;simp at h1 h2;simpa[up]using kR h1 h2
 ·
  simp only[List.getElem?_toArray,List.getElem?_cons_zero,List.getElem?_cons_succ,Option.some.injEq]at ho;subst ho;refine⟨rfl,?_⟩;rw[if_pos (by simp[Region.wanted]),if_neg (by simp[cW])];refine sz ?_;refine ag ?_;refineλb hb=>hK _ _ _ ?_;simp only[aC,show(Value.chan none).cells= #[.chan none]from rfl];rw[hL]at e7;constructor
  ·exact e1
  ·simpa[up]using e2
  ·simpa[up]using e3
  ·exact wJ e4 hb _
  ·simpa[up]using(dW.new (az:=up I 6 (pV b)) e5 hb (by simp[up]) (by simp[up]))
  ·simpa[up]using(dW.new (az:=up I 6 (pV b)) e6 hb (by simp[up]) (by simp[up]))
  ·simpa[up,hL]using(dW.box (az:=up I 6 (pV b)) e7 e4 hb (by simp[up]) (by simp[up]))
  ·intro h1 h2;simp at h1 h2;simpa[up]using e8 h1 h2
  ·intro h1 h2;simp at h1 h2;simpa[up]using e9 h1 h2
  ·intro h1 h2;simp at h1 h2;simpa[up]using kR h1 h2
 ·
  simp only[List.getElem?_toArray,List.getElem?_cons_zero,List.getElem?_cons_succ,Option.some.injEq]at ho;subst ho;refine⟨rfl,?_⟩;rw[if_pos (by simp[Region.wanted]),if_neg (by simp[cW])];refine sz ?_;have hc:L 0=true:=by simpa using he {on:=0,ground:=.data} al rfl
  have ha:L 3=true:=by simpa using he {on:=3,ground:=.data} al rfl
  rw[hc,ha]at e5;obtain⟨b,k1,k2,k3⟩:=e5.a rfl;obtain⟨c,j1,j2,j3⟩:=e5.c rfl;rw[hL]at k3;simp only[Bool.false_eq_true,if_false]at k3;refine bN k1 j1 k3 ?_;refine hK _ _ _ ?_;constructor
  ·exact e1
  ·exact e2
  ·exact e3
  ·exact LN e4 k2 _
  ·simpa[hc,ha]using(dW.st e5 k1 j1)
  ·simpa using(dW.other e6 k3 ai)
  ·simpa using(dW.other e7 k3 ai)
  ·intro h1 h2;simp at h1 h2;exact e8 h1 h2
  ·intro h1 h2;simp at h1 h2;exact e9 h1 h2
  ·intro h1 h2;simp at h1 h2;exact kR h1 h2
 ·
  simp only[List.getElem?_toArray,List.getElem?_cons_zero,List.getElem?_cons_succ,Option.some.injEq]at ho;subst ho;refine⟨rfl,?_⟩;rw[if_pos (by simp[Region.wanted]),if_neg (by simp[cW])];refine sz ?_;have hc:L 1=true:=by simpa using he {on:=1,ground:=.data} al rfl
  have ha:L 4=true:=by simpa using he {on:=4,ground:=.data} al rfl
  rw[hc,ha]at e6;obtain⟨b,k1,k2,k3⟩:=e6.a rfl;obtain⟨c,j1,j2,j3⟩:=e6.c rfl;rw[hL]at k3;simp only[Bool.false_eq_true,if_false]at k3;refine bN k1 j1 k3 ?_;refine hK _ _ _ ?_;constructor
  ·exact e1
  ·exact e2
  ·exact e3
  ·exact LN e4 k2 _
  ·simpa using(dW.other e5 k3 ai)
  ·simpa[hc,ha]using(dW.st e6 k1 j1)
  ·simpa using(dW.other e7 k3 ai)
  ·intro h1 h2;simp at h1 h2;exact e8 h1 h2
  ·intro h1 h2;simp at h1 h2;exact e9 h1 h2
  ·intro h1 h2;simp at h1 h2;exact kR h1 h2
 ·
  simp only[List.getElem?_toArray,List.getElem?_cons_zero,List.getElem?_cons_succ,Option.some.injEq]at ho;subst ho;refine⟨rfl,?_⟩;rw[if_pos (by simp[Region.wanted]),if_neg (by simp[cW])];refine sz ?_;have hc:L 2=true:=by simpa using he {on:=2,ground:=.data} al rfl
  have ha:L 5=true:=by simpa using he {on:=5,ground:=.data} al rfl
  rw[hc,ha]at e7;obtain⟨b,k1,k2,k3⟩:=e7.a rfl;obtain⟨c,j1,j2,j3⟩:=e7.c rfl;rw[hL]at k3;simp only[Bool.false_eq_true,if_false]at k3;refine bN k1 j1 k3 ?_;refine hK _ _ _ ?_;constructor
  ·exact e1
  ·exact e2
  ·exact e3
  ·exact LN e4 k2 _
  ·simpa using(dW.other e5 k3 ai)
  ·simpa using(dW.other e6 k3 ai)
  ·simpa[hc,ha]using(dW.st e7 k1 j1)
  ·intro h1 h2;simp at h1 h2;exact e8 h1 h2
  ·intro h1 h2;simp at h1 h2;exact e9 h1 h2
  ·intro h1 h2;simp at h1 h2;exact kR h1 h2
 ·simp at ho
variable {k:List Item}
structure NS (U J:Hp) (bc:Nat) (ch:List UInt8) (cb kb sb ub db c1 c2 c3:Nat):Prop where
 le:U.le J
 c:J.f cb=some (.cells #[pV bc] 70 (0,0))
 k:J.f kb=some (.cells #[.string (B ch)] 9 (0,0))
 s:J.f sb=some (.cells #[.chan (some c1)] 119 (0,0))
 u:J.f ub=some (.cells #[.chan (some c2)] 120 (0,0))
 d:J.f db=some (.cells #[.chan (some c3)] 121 (0,0))
 h1:J.f c1=some nP
 h2:J.f c2=some nP
 h3:J.f c3=some nP
 nc:U.f cb=none
 nk:U.f kb=none
 ns:U.f sb=none
 nu:U.f ub=none
 nd:U.f db=none
 n1:U.f c1=none
 n2:U.f c2=none
 n3:U.f c3=none
 d12:c1≠c2
 d13:c1≠c3
 d23:c2≠c3
def X5:f40.body=some jq:=ah
def ajN{ops:Array Oper}(h:(ops.toList.zipIdx.all λp=>p.1.after.all λe=>decide (e.on<p.2))=true):∀(i:Nat) (o:Oper),ops[i]? =some o->∀e∈o.after,e.on<i:=by intro i o ho e he;rw[List.all_eq_true]at h;have:=h (o,i) (by rw[List.mk_mem_zipIdx_iff_getElem?];simpa using ho);rw[Array.all_eq_true_iff_forall_mem]at this;simpa using this e he
def ajM:(zP.toList.zipIdx.all λp=>p.1.after.all λe=>decide (e.on<p.2))=true:=ah
def ao7:zP.size=9:=ah
variable {g:Goroutine}
def entry{E:Env prog}{bc:Nat}{ch:List UInt8}{cs:List Frame}:
 ax E (G (Frame.enter prog 40 #[pV bc,.string (B ch)] .normal) cs) U λg J=>∃cb kb sb ub db c1 c2 c3,NS U J bc ch cb kb sb ub db c1 c2 c3/\∃I a,cM 52 a I []/\
  I 2=pV cb/\I 3=pV kb/\I 4=pV sb/\I 5=pV ub/\I 6=pV db/\g=G (bU.at a [.code rp]) cs:=by
 rw[enter_at _ func40 X5,Wa];have DU:f40.ntmps=52:=rfl;rw[DU];have ui:=sL #[pV bc,.string (B ch)] 52 al;generalize tp:nV _ 52=mS at ui;have q0:mS 0=pV bc:=by rw[<-tp];rfl
 have q1:mS 1=.string (B ch):=by rw[<-tp];rfl
 clear tp;generalize(⟨_++Array.replicate (52-_) undef,[]⟩:Act)=a0 at ui|-;change ax E (G (bU.at a0 [.code (.seq (.region 0 Mr false) (.seq (.region 1 zP true) rp))]) cs) U _;refine ax.ctl (λw=>stepG_seq) rfl rfl ?_;refine(nR (E:=E) (N:=52) (X:=λI ds J=>ds=[]/\∃cb kb,I 2=pV cb/\I 3=pV kb/\U.f cb=none/\U.f kb=none/\U.le J/\J.f cb=some (.cells #[pV bc] 70 (0,0))/\J.f kb=some (.cells #[.string (B ch)] 9 (0,0))) ?_ (by simp[bU]) ui).bind ?_
 ·simp only[Mr,jq,f40,Option.getD_some,bO,bM];refine aJ q0 ?_;refineλcb mE=>?_;simp only[go_sem,seval,q1,aC];refineλkb te=>?_;simp only[go_sem,seval,aC];refine⟨rfl,cb,kb,by simp[up],by simp[up],mE,?_,?_,?_,by simp[Hp.set]⟩
  ·exact tY (wJ (λ_ _ h=>h) mE _) te
  ·exact wJ (wJ (λ_ _ h=>h) mE _) te _
  ·exact B6 te (by simp[Hp.set])
 rintro g J ⟨qz,_,a1,dk,⟨rfl,cb,kb,r2,r3,mE,te,hle,hc,hk⟩,rfl⟩;refine ax.ctl (λw=>stepG_seq) rfl rfl ?_;have hm:prog.follows .mixedOrders=true:=ah;refine(nR (E:=E) (N:=52) (X:=λI ds bW=>FD J (pV cb) (pV kb) (λ_=>true) I ds bW) ?_ (by simp[bU]) dk).bind ?_
 ·intro t;refine are (aut:=FD J (pV cb) (pV kb)) hm ?_ (λL i o I ds U K=>abU L i o I ds U K) ?_ ?_ t
  ·exact ajN ajM
  ·intro L I ds bW lY h;rw[ao7]at lY;have e:∀i,i<9->L i=true:=lY;obtain⟨e1,e2,e3,e4,e5,e6,e7,e8,e9,kR⟩:=h
   exact⟨e1,e2,e3,e4,by rw[e 0 ai,e 3 ai,e 6 ai]at e5;exact e5,by rw[e 1 ai,e 4 ai,e 7 ai]at e6;exact e6,by rw[e 2 ai,e 5 ai,e 8 ai]at e7;exact e7,
    λ_ _=>e8 (e 0 ai) (e 1 ai),λ_ _=>e9 (e 0 ai) (e 2 ai),λ_ _=>kR (e 1 ai) (e 2 ai)⟩
  ·exact⟨rfl,r2,r3,(λ_ _ h=>h),⟨(λh=>by cases h),(λh=>by cases h),(λh=>by cases h)⟩,⟨(λh=>by cases h),(λh=>by cases h),(λh=>by cases h)⟩,⟨(λh=>by cases h),(λh=>by cases h),(λh=>by cases h)⟩,(λh=>by cases h),(λh=>by cases h),(λh=>by cases h)⟩
 rintro g bW ⟨mw,_,a2,gK,⟨rfl,s2,s3,ov,t0,t1,t2,Th,Ti,Tl⟩,rfl⟩;obtain⟨c1,i1,i2,i3⟩:=t0.c rfl;obtain⟨sb,i4,i5,i6⟩:=t0.a rfl;obtain⟨c2,j1,j2,j3⟩:=t1.c rfl;obtain⟨ub,j4,j5,j6⟩:=t1.a rfl;obtain⟨c3,k1,k2,k3⟩:=t2.c rfl;obtain⟨db,k4,k5,k6⟩:=t2.a rfl;simp only[if_true,i1,j1,k1]at i6 j6 k6 Th Ti Tl;refine ax.here ⟨cb,kb,sb,ub,db,c1,c2,c3,⟨λb o h=>ov b o (hle b o h),ov _ _ hc,ov _ _ hk,i6,j6,k6,i3,j3,k3,mE,te,tY hle i5,tY hle j5,tY hle k5,tY hle i2,tY hle j2,tY hle k2,?_,?_,?_⟩,mw,a2,gK,s2,s3,i4,j4,k4,rfl⟩
 ·exactλe=>Th trivial trivial (by rw[e])
 ·exactλe=>Ti trivial trivial (by rw[e])
 ·exactλe=>Tl trivial trivial (by rw[e])
end
section
open Go.Proofs
open Go.ConcX
noncomputable def g2:Array Oper:=bM (bO rp)
noncomputable def g3:Array Oper:=bM (bO (aP rp))
noncomputable def g4:Array Oper:=bM (bO (aP (aP rp)))
def aob:rp=.seq (.region 2 g2 false) (.seq (.region 3 g3 false) (.seq (.region 4 g4 false) iM)):=ah
def acT:∃ps af ty,g2[0]? =some {dst:=some 7,op:=.alloc 131,type:=ty,pos:=ps,after:=af,guard:=none}:=⟨_,_,_,by simp only[g2,rp,jq,f40,Option.getD_some,aP,bO,bM];rfl⟩
def QA:∃ps af ty cA,g3[0]? =some {dst:=some 12,op:=.call {callee:=.value (.func 55),args:=#[.tmp 7,.const (.int .i64 1)],argTypes:=cA},type:=ty,pos:=ps,after:=af,guard:=none}:=⟨_,_,_,_,by simp only[g3,rp,jq,f40,Option.getD_some,aP,bO,bM];rfl⟩
def acW:∃ps af ty,g4[0]? =some {dst:=some 13,op:=.makeFunc (.func 56) #[] #[.tmp 7,.tmp 2,.tmp 3,.tmp 4,.tmp 5,.tmp 6],type:=ty,pos:=ps,after:=af,guard:=none}:=⟨_,_,_,by simp only[g4,rp,jq,f40,Option.getD_some,aP,bO,bM];rfl⟩
def acX:∃ps af ty cA,g4[1]? =some {dst:=none,op:=.go {callee:=.value (.tmp 13),args:=#[],argTypes:=cA},type:=ty,pos:=ps,after:=af,guard:=none}:=⟨_,_,_,_,by simp only[g4,rp,jq,f40,Option.getD_some,aP,bO,bM];rfl⟩
def LS(S Q:Loc->Prop)(B:Nat)(g:Goroutine)(d:Nat)(R:World->Prop)(m:Machine)(T:Trace):Prop:=
 ∃gs w sl q,m=crowd gs w sl/\gs[0]? =some g/\Lone prog S Q B gs w T q d/\R w
section
variable {h:Nat}{g:Goroutine}{N:Nat}
variable {S Q:Loc->Prop}{B d:Nat}{g g':Goroutine}{R R':World->Prop}{m:Machine}{T:Trace}
def LS.step (h:LS S Q B g d R m T)(hr:g.status=.running)(hR:∀w dd,R w->R (w.at dd))(hs:∀w,R w->∃w',stepG prog true g w=.go g' w' #[]/\R' w'):∃N m' T',runNT prog N m T=(.next m',T')/\LS S Q B g' d R' m' T':=by
 obtain⟨gs,w,sl,q,rfl,hg,hl,hw⟩:=h
 obtain⟨N,cq,a',w',bF,T',q',es,h1,h2,h3,⟨rfl,rfl,h4⟩,h5⟩:=hl.go hg hr sl (X:=λa' w' es=>a'=g'/\es= #[]/\R' w') (λdd=>by
  obtain⟨w',k1,k2⟩:=hs (w.at dd) (hR w dd hw)
  exact⟨g',w',#[],k1,al,rfl,rfl,k2⟩)
 refine⟨N,_,T',h1,cq,w',bF,q',rfl,h3,?_,h4⟩;simpa[deafBehind]using h5
def LS.ctl (h:LS S Q B g d R m T)(hr:g.status=.running)(hR:∀w dd,R w->R (w.at dd))(hs:∀w,stepG prog true g w=.go g' w #[]):∃N m' T',runNT prog N m T=(.next m',T')/\LS S Q B g' d R m' T':=
 h.step hr hR λw hw=>⟨w,hs w,hw⟩
end
variable {N:Nat}
def two{P:Program}{m:Machine}{T:Trace}{X Y:Machine->Trace->Prop}(h:∃N m' T',runNT P N m T=(.next m',T')/\X m' T')(k:∀m' T',X m' T'->∃N py oP,runNT P N m' T'=(.next py,oP)/\Y py oP):∃N py oP,runNT P N m T=(.next py,oP)/\Y py oP:=by obtain⟨N,m',T',h1,h2⟩:=h;obtain⟨N',py,oP,k1,k2⟩:=k m' T' h2;exact⟨N+N',py,oP,runNT_then h1 k1,k2⟩
variable {a:Act}{k:List Item}{cs:List Frame}
def W8{ops:Array Oper}{ps:String}{af:Array Edge}{ty:Nat}{rest:List Nat}(ho:ops[0]? =some {dst:=some 7,op:=.alloc 131,type:=ty,pos:=ps,after:=af,guard:=none})(w:World):
 stepG prog true (G (bU.at a (.inRegion ops (0::rest)::k)) cs) w=.go (G (bU.at (a.put (some 7) (pV w.heap.size)) (.inRegion ops rest::k)) cs) (w.alloc (wgBlock 131 0 0)) #[]:=by
 have hr:(execOp a.eval {dst:=some 7,op:=.alloc 131,type:=ty,pos:=ps,after:=af,guard:=none}).run prog w=.ok (.value (pV w.heap.size)) (w.alloc (wgBlock 131 0 0)):=by unfold execOp;simp[go_sem,zeroValue131];rfl
 have he:(execOp a.eval {dst:=some 7,op:=.alloc 131,type:=ty,pos:=ps,after:=af,guard:=none}).events prog w #[]= #[]:=by unfold execOp;simp[go_sem,zeroValue131]
 rw[stepG_value ho rfl (by simp[bU]) hr,listed_none he]
variable {x0 x1 x2 x3 x4 x5:Nat}
def acR(h7:a.eval (.tmp 7)=pV x0)(h2:a.eval (.tmp 2)=pV x1)(h3:a.eval (.tmp 3)=pV x2)(h4:a.eval (.tmp 4)=pV x3)(h5:a.eval (.tmp 5)=pV x4)(h6:a.eval (.tmp 6)=pV x5)(w:World):
 stepG prog true (G (bU.at a (.inRegion g4 [0,1]::k)) cs) w=.go (G (bU.at (a.put (some 13) (.func (.func 56) #[] (oS x0 x1 x2 x3 x4 x5))) (.inRegion g4 [1]::k)) cs) w #[]:=by
 obtain⟨ps,af,ty,ho⟩:=acW
 have hr:(execOp a.eval {dst:=some 13,op:=.makeFunc (.func 56) #[] #[.tmp 7,.tmp 2,.tmp 3,.tmp 4,.tmp 5,.tmp 6],type:=ty,pos:=ps,after:=af,guard:=none}).run prog w=.ok (.value (.func (.func 56) #[] (oS x0 x1 x2 x3 x4 x5))) w:=by unfold execOp;simp[Instr.makeFunc,h7,h2,h3,h4,h5,h6,oS]
 have he:(execOp a.eval {dst:=some 13,op:=.makeFunc (.func 56) #[] #[.tmp 7,.tmp 2,.tmp 3,.tmp 4,.tmp 5,.tmp 6],type:=ty,pos:=ps,after:=af,guard:=none}).events prog w #[]= #[]:=by unfold execOp;simp[Instr.makeFunc]
 rw[stepG_value ho rfl (by simp[bU]) hr,listed_none he]
def adO(h:a.eval (.tmp 13)=.func (.func 56) #[] (oS x0 x1 x2 x3 x4 x5))(w:World):
 stepG prog true (G (bU.at a (.inRegion g4 [1]::k)) cs) w=.spawn (G (bU.at a (.inRegion g4 []::k)) cs) (born prog (call56 x0 x1 x2 x3 x4 x5)) w #[]:=by
 obtain⟨ps,af,ty,cA,ho⟩:=acX
 have hr:(execOp a.eval {dst:=none,op:=.go {callee:=.value (.tmp 13),args:=#[],argTypes:=cA},type:=ty,pos:=ps,after:=af,guard:=none}).run prog w=.ok (.spawn (call56 x0 x1 x2 x3 x4 x5)) w:=by unfold execOp;simp[resolve,h,Deferred.ofValue,call56]
 have he:(execOp a.eval {dst:=none,op:=.go {callee:=.value (.tmp 13),args:=#[],argTypes:=cA},type:=ty,pos:=ps,after:=af,guard:=none}).events prog w #[]= #[]:=by unfold execOp;simp[resolve,h,Deferred.ofValue]
 rw[stepG_spawn ho rfl (by simp[bU]) hr rfl,listed_none he];rfl
def X6:f55.body=some (Go.ConcX.Gen.body_add pG):=ah
def TB:(f55.name== "runtime.NumGoroutine")=false:=ah
def OS:f55.body.isNone=false:=ah
def t55:f55.ntmps=117:=ah
def IU(wg:Nat):Array Value:=#[pV wg,.int .i64 1,undef,undef,undef,undef,undef,undef,undef,undef,undef,undef,undef,undef,undef,undef,undef,undef,undef,undef,undef,undef,undef,undef,undef,undef,undef,undef,undef,undef,undef,undef,undef,undef,undef,undef,undef,undef,undef,undef,undef,undef,undef,undef,undef,undef,undef,undef,undef,undef,undef,undef,undef,undef,undef,undef,undef,undef,undef,undef,undef,undef,undef,undef,undef,undef,undef,undef,undef,undef,undef,undef,undef,undef,undef,undef,undef,undef,undef,undef,undef,undef,undef,undef,undef,undef,undef,undef,undef,undef,undef,undef,undef,undef,undef,undef,undef,undef,undef,undef,undef,undef,undef,undef,undef,undef,undef,undef,undef,undef,undef,undef,undef,undef,undef,undef,undef]
def Xj(wg:Nat):(#[pV wg,.int .i64 1]++Array.replicate (117-2) undef:Array Value)=IU wg:=ah
def WT{wg:Nat}(h:a.eval (.tmp 7)=pV wg)(w:World):stepG prog true (G (bU.at a (.inRegion g3 [0]::k)) cs) w=
 .go (G ((base 55).at {tmps:=IU wg,defers:=[]} [.code (Go.ConcX.Gen.body_add pG)]) (bU.at a (.inRegion g3 [0]::k)::cs)) w #[]:=by
 obtain⟨ps,af,ty,cA,ho⟩:=QA
 have kF:(#[Operand.tmp 7,.const (.int .i64 1)]).map a.eval= #[pV wg,.int .i64 1]:=by simp[h];rfl
 rw[stepG_enter (f:=55) (args:=(#[Operand.tmp 7,.const (.int .i64 1)]).map a.eval) ho rfl (by simp[bU]) (run_call_body rfl func55 TB OS),enter_at (fn:=f55) _ func55 X6]
 have:listed prog bU.fn a {dst:=some 12,op:=.call {callee:=.value (.func 55),args:=#[.tmp 7,.const (.int .i64 1)],argTypes:=cA},type:=ty,pos:=ps,after:=af,guard:=none} w= #[]:=by unfold listed;rw[events_call_body rfl func55 TB OS];exact seen_none _ _
 rw[this,kF,t55,<-Xj];rfl
section
variable {h:Nat}{g:Goroutine}{N:Nat}{b:Frame}{a:Act}{k:List Item}{cs:List Frame}
variable {S Q:Loc->Prop}{B:Nat}{wg C:Nat}
@[reducible] def WR (S:Loc->Prop)(B wg C:Nat)(hW:wg<B)(hC:C<B)(J0:∀a:Addr,a.block=C->¬S (.cell a)):Shy wg C:=
 let Y:Shy wg C:=shyOf S B wg C (λ_ _=>True) hW hC J0
 {ok:=λact=>okF S B wg act/\∀a,act≠.mark (.release a)
  atomicWg:=λa wr h=>⟨Y.atomicWg a wr h,al⟩
  readWg:=λa h=>⟨Y.readWg a h,al⟩
  writeWg:=λa h=>⟨Y.writeWg a h,al⟩
  theirs:=λa wr h=>⟨Y.theirs a wr h,al⟩
  disable:=⟨Y.disable,al⟩
  enable:=⟨Y.enable,al⟩
  relMerge:=⟨Y.relMerge,al⟩
  acquire:=⟨Y.acquire,al⟩
  go1:=⟨Y.go1,al⟩
  start:=⟨Y.start,al⟩
  stop:=λ_ _=>True}
def Qh {m:Mark}(h1:m=.disable\/m=.enable):∀e∈#[mk m],Fy S B e:=by intro e he;simp only[List.mem_toArray,List.mem_cons,List.not_mem_nil,or_false]at he;subst he;rcases h1 with rfl|rfl<;>exact⟨λb hb=>by simp[mk,MemAct.ofEvent,MemAct.touch?]at hb,trivial,by simp[mk]⟩
def ajI {gs:Array Goroutine}{w:World}{sl:Option (Nat×Nat)}{T:Trace}{q:Nat->Nat}{a:Act}{k:List Item}{cs:List Frame}(hl:Lone prog S Q B gs w T q 0)(hg:gs[0]? =some (G ((base 55).at {tmps:=IU wg,defers:=[]} [.code (Go.ConcX.Gen.body_add pG)]) (bU.at a (.inRegion g3 [0]::k)::cs)))
 (hw:WgAt 131 wg w 0 0) (hW:wg<B) (hC:C<B) (J0:∀a:Addr,a.block=C->¬S (.cell a)):
 ∃N cq w' bF T' q',runNT prog N (crowd gs w sl) T=(.next (crowd cq w' bF),T')/\cq.size=gs.size/\cq[0]? =some (G (bU.at (a.put ((g3[0]?).bind (·.dst)) (.tuple #[])) (.inRegion g3 []::k)) cs)/\Lone prog S Q B cq w' T' q' 0/\∃dd,w'=(w.setCell (stA wg) (.int .u64 KK)).at dd:=by
 letI:Shy wg C:=WR S B wg C hW hC J0
 let StopG:Goroutine->World->Prop:=λg w₁=>g=G (bU.at (a.put ((g3[0]?).bind (·.dst)) (.tuple #[])) (.inRegion g3 []::k)) cs/\AtRel (w.setCell (stA wg) (.int .u64 KK)) w₁
 have hG:=Go.ConcX.Gen.addPos (P:=prog) (L:=pG) (Wg:=wg) (C:=C) (StopG:=StopG) (mT:=0) (b₀:=bU) (a₀:=a) (ops₀:=g3) (i₀:=0) (rest₀:=[]) (k₀:=k) (cs:=cs) Io w hw (λw₁ hr=>⟨rfl,hr⟩)
 have hD:∀w w' es,DE (EvS wg C) w w' es->∀e∈es,Fy S B e/\e.loc≠.mark .disable/\e.loc≠.mark .enable:=by
  intro w w' es h e he;obtain⟨h1,h2,h3,h4,h5,h6,h7⟩:=h e he
  have hm:∀m,MemAct.ofEvent e≠.mark m->e.loc≠.mark m:=by rintro m hm e2;apply hm;obtain⟨l,wr,sy⟩:=e;simp only at e2;subst e2;rfl
  exact⟨⟨λb hb hs=>(h6.1 b hb).1 hs,h6.2.1,λa e2=>h7 a (by
   obtain⟨l,wr,sy⟩:=e
   simp only at e2
   subst e2
   rfl)⟩,hm _ h4,hm _ h5⟩
 obtain⟨N1,QT,a1,w1,MX,T1,q1,r1,z1,g1,qu,l1⟩:=hl.goes hD 12 sl hg hG
 obtain⟨N2,xw,a2,w2,xc,T2,q2,Jx,r2,z2,g2',⟨rfl,n2,hG2⟩,l2⟩:=l1.go g1 (qu 0).1 MX (X:=λa' w' es=>es= #[mk .disable]/\∃n,Goes prog true AtRel (DE (EvS wg C)) (AtMkS prog .enable λa w=>∃n,Goes prog true AtRel (DE (EvS wg C)) StopG n a w) n a' w') (λdd=>by
  obtain⟨_,a',h1,h2⟩:=qu dd
  exact⟨a',_,_,h1,Qh (.inl rfl),rfl,h2⟩)
 obtain⟨N3,QU,a3,w3,Ag,T3,q3,r3,z3,g3',ru,l3⟩:=l2.goes hD n2 xc g2' hG2
 obtain⟨N4,QV,a4,w4,MY,T4,q4,es4,r4,z4,g4',⟨rfl,n4,hG4⟩,l4⟩:=l3.go g3' (ru 0).1 Ag (X:=λa' w' es=>es= #[mk .enable]/\∃n,Goes prog true AtRel (DE (EvS wg C)) StopG n a' w') (λdd=>by
  obtain⟨_,a',h1,h2⟩:=ru dd
  exact⟨a',_,_,h1,Qh (.inr rfl),rfl,h2⟩)
 obtain⟨N5,gs5,a5,w5,sl5,T5,q5,r5,z5,g5',Aj,l5⟩:=l4.goes hD n4 MY g4' hG4;obtain⟨e5,dd,h5⟩:=Aj w5.drawn;have hd:deafBehind (deafBehind 0 #[mk .disable]) #[mk .enable]=0:=by rfl
 rw[hd]at l5;refine⟨_,gs5,w5,sl5,T5,q5,runNT_then (runNT_then (runNT_then (runNT_then r1 r2) r3) r4) r5,?_,by rw[g5',e5],l5,dd,h5⟩;rw[z5,z4,z3,z2,z1]
end
end
end Go.Qw
