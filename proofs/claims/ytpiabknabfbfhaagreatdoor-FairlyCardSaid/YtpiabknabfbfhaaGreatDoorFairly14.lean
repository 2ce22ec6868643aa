/- Part 14. -/
import Derived.Conc.DeferLaws
import Derived.Lib.ReflectliteSwap
import Derived.Test.YtpiabknabfbfhaaGreatDoorFairly13
set_option linter.all false
set_option maxRecDepth 100000
set_option maxHeartbeats 8000000
namespace Go.Qw
open Go Go.Conc Go.Proofs.Tryz
section
variable {h:Nat}{x:Nat}{s:Seat}{g:Goroutine}{σ:Hp}{N:Nat}{ops:Array Oper}{b:Frame}{a:Act}{k:List Item}{cs:List Frame}{ds:List Deferred}{ρ:av}
variable {P:Program}(D:Duo P)
def Duo.dN (h x:Nat)(s:Seat)(g:Goroutine)(σ:Hp)(S:Goroutine->Hp->Prop):Prop:=
 ∀m T,D.St h x s g σ m T->∃N m' T' g' ae,runNT P N m T=(.next m',T')/\D.St h x s g' ae m' T'/\S g' ae
variable {D}{S:Goroutine->Hp->Prop}
def Duo.dN.here (k:S g σ):D.dN h x s g σ S:=λm T hm=>⟨0,m,T,g,σ,rfl,hm,k⟩
def Duo.dN.step (t:D.gf h x)(hs:D.Fits s)(hr:g.status=.running){X:Goroutine->Hp->Prop}(hX:D.wK (h==0) g σ X)(k:∀g' ae,X g' ae->D.dN h x s g' ae S):D.dN h x s g σ S:=by intro m T hm;obtain⟨N,m',T',g',ae,h1,h2,_,h3⟩:=D.run t hs hm hr hX;obtain⟨N',oT,ov,Cr,fZ,k1,k2,k3⟩:=k g' ae h3 m' T' h2;exact⟨N+N',oT,ov,Cr,fZ,runNT_then h1 k1,k2,k3⟩
def Duo.wK.quiet {main:Bool}{X:Goroutine->Prop}(k:∀w,(∀b o,σ.f b=some o->w.heap[b]? =some o)->∃g' d es,stepG P main g w=.go g' (w.at d) es/\g'.status=.running/\X g'/\∀e∈es,∃a:Addr,e=⟨.cell a,false,false⟩/\(σ.f a.block).isSome=true):
 D.wK main g σ λg' ae=>ae=σ/\X g':=by
 intro J w hs hJ hK hc hf;obtain⟨g',d,es,h1,h2,h3,h4⟩:=k w λb o hb=>hs.heap hb;rw[h1];refine⟨σ,J,hs.at d,hJ,D.CB w d hK,hc,hf.at d,Nat.le_refl _,λe he=>?_,h2,rfl,h3⟩;obtain⟨a,rfl,ha⟩:=h4 e he;obtain⟨o,ho⟩:=Option.isSome_iff_exists.1 ha;have hn:¬D.Hid a.block:=λhb=>hs.rJ ho (hJ _ hb);refine⟨λb hb=>?_,⟨⟨al,al⟩,al⟩,?_⟩
 ·simp[MemAct.ofEvent,MemAct.touch?]at hb;subst hb;exact⟨λhS=>absurd (.inr (.inr ⟨a,rfl,.inl hS⟩)) hn,λ_=>rfl,λhQ=>absurd (.inr (.inr ⟨a,rfl,.inr hQ⟩)) hn⟩
 ·simp[MemAct.ofEvent,MemAct.low];exact hs.lt ho
def Duo.dN.ctl {g':Goroutine}(t:D.gf h x)(hs:D.Fits s)(k:∀w,stepG P (h==0) g w=.go g' w)(hr:g.status=.running)(ig:g'.status=.running)(n:D.dN h x s g' σ S):D.dN h x s g σ S:=by refine Duo.dN.step t hs hr (Duo.wK.quiet (X:=λy=>y=g') λw _=>⟨g',w.drawn,#[],k w,ig,rfl,al⟩) ?_;rintro _ _ ⟨rfl,rfl⟩;exact n
def Duo.dN.IK (t:D.gf h x)(hs:D.Fits s){id:Nat}(n:∀c,D.dN h x s (G (b.at a (.inRegion ops (Region.schedule (P.follows .mixedOrders) ops c)::k)) cs) σ S):D.dN h x s (G (b.at a (.code (.region id ops true)::k)) cs) σ S:=by
 refine Duo.dN.step t hs rfl (Duo.wK.quiet (X:=λy=>∃c,y=G (b.at a (.inRegion ops (Region.schedule (P.follows .mixedOrders) ops c)::k)) cs) λw _=>?_) ?_
 ·have:stepG P (h==0) (G (b.at a (.code (.region id ops true)::k)) cs) w=.go (G (b.at a (.inRegion ops (Region.schedule (P.follows .mixedOrders) ops (w.tape w.drawn (.order b.fn id)))::k)) cs) {w with drawn:=w.drawn+1}:=by simp[G,stepG,stepG.exec,Frame.at,choose,Sem.run,Question.forced,Question.cut]
  exact⟨_,w.drawn+1,#[],this,rfl,⟨_,rfl⟩,al⟩
 ·rintro _ _ ⟨rfl,c,rfl⟩;exact n c
def Duo.dN.Ur (t:D.gf h x)(hs:D.Fits s)(hk:b.kind≠.early){F:Hp->Prop}(hF:F σ){Ok:Addr->Prop}{Q:av->Prop}{rest:List Nat}(n:∀ρ a,cJ N a ρ ds->Q ρ->D.dN h x s (G (b.at a (.inRegion ops rest::k)) cs) σ S):
 ∀(p:List Nat) (ρ:av) (a:Act),dH P N ops F Ok Q p ρ->cJ N a ρ ds->D.dN h x s (G (b.at a (.inRegion ops (p++rest)::k)) cs) σ S:=by
 intro p
 induction p with
 |nil=>exactλρ a h ha=>n ρ a ha h
 |cons i p ih=>
  intro ρ a hq ha;simp only[dH]at hq
  cases ho:ops[i]? with
  |none=>rw[ho]at hq;exact hq.elim
  |some o=>
   rw[ho]at hq;obtain⟨hd,hg,jq,fV,v,hv,hq⟩:=hq;refine Duo.dN.step t hs rfl (Duo.wK.quiet (X:=λy=>y=G (b.at (a.put o.dst v) (.inRegion ops (p++rest)::k)) cs) λw hw=>?_) ?_
   ·obtain⟨es,h1,h2⟩:=Mh (main:=(h==0)) (k:=k) (cs:=cs) (rest:=p++rest) ho hg jq (hv σ hF) hk ha w hw;refine⟨_,w.drawn,es,h1,rfl,rfl,λe he=>?_⟩;obtain⟨y,hy,_,hz⟩:=h2 e he;exact⟨y,hy,hz⟩
   ·rintro _ _ ⟨rfl,rfl⟩;exact ih _ _ hq (ha.put hd v)
def Duo.dN.call (t:D.gf h x)(hs:D.Fits s){i:Nat}{rest:List Nat}{o:Oper}{f:FuncId}{xs:Array Operand}{cg:Array TypeId}(ho:ops[i]? =some o)(hg:o.guard=none)(hk:b.kind≠.early)
 (aS:o.op=.call {callee:=.value (.func f),args:=xs,argTypes:=cg}) (hgo:cf P f=true)
 (n:D.dN h x s (G (Frame.enter P f (xs.map a.eval) .normal) (b.at a (.inRegion ops (i::rest)::k)::cs)) σ S):D.dN h x s (G (b.at a (.inRegion ops (i::rest)::k)) cs) σ S:=by
 unfold cf at hgo
 cases rm:P.funcs[f]? with
 |none=>rw[rm]at hgo;cases hgo
 |some fn=>
 rw[rm]at hgo;simp only[Bool.and_eq_true,Bool.not_eq_true',beq_eq_false_iff_ne,ne_eq]at hgo;obtain⟨jo,lZ⟩:=hgo
 have hr:∀w,(execOp a.eval o).run P w=.ok (.enter f (xs.map a.eval)) w:=by intro w;exact run_call_body aS rm (aZ jo) lZ
 have he:∀w,(execOp a.eval o).events P w #[]= #[]:=by intro w;exact events_call_body aS rm (aZ jo) lZ _
 refine Duo.dN.ctl t hs (λw=>?_) rfl rfl n;rw[stepG_enter ho (by simp[Region.wanted,hg]) hk (hr w),listed_none (he w)]
def Duo.dN.defer (t:D.gf h x)(hs:D.Fits s){i:Nat}{rest:List Nat}{o:Oper}{f:FuncId}{xs:Array Operand}{cg:Array TypeId}(ho:ops[i]? =some o)(hg:o.guard=none)(hk:b.kind≠.early)
 (aS:o.op=.defer {callee:=.value (.func f),args:=xs,argTypes:=cg})
 (n:D.dN h x s (G (b.at (Act.put ⟨a.tmps,dcall f (xs.map a.eval)::a.defers⟩ o.dst undef) (.inRegion ops rest::k)) cs) σ S):D.dN h x s (G (b.at a (.inRegion ops (i::rest)::k)) cs) σ S:=
 Duo.dN.ctl t hs (λw=>stepG_defer ho (by simp[Region.wanted,hg]) hk aS) rfl rfl n
def Duo.dN.store (t:D.gf h x)(hs:D.Fits s){i:Nat}{rest:List Nat}{o:Oper}{ty:TypeId}{y z:Operand}{bk off:Nat}{u v:Value}{c:Array Value}{et:TypeId}(ho:ops[i]? =some o)(hg:o.guard=none)(hk:b.kind≠.early)
 (aS:o.op=.store ty y z) (hy:a.eval y=.pointer (some ⟨bk,off,none⟩)) (hz:a.eval z=v) (hv:v.oneCell'=true) {ie:TypeInfo} (vu:P.info? ty=some ie) (h1:ie.size=1) (hb:σ.f bk=some (.cells c et (0,0))) (hu:c[off]? =some u)
 (bw:¬D.Still (.cell ⟨bk,off,none⟩)) (hK:∀w,(∀b o,σ.f b=some o->w.heap[b]? =some o)->D.K w->D.K (w.setCell ⟨bk,off,none⟩ v))
 (n:D.dN h x s (G (b.at (a.put o.dst undef) (.inRegion ops rest::k)) cs) (σ.setCell ⟨bk,off,none⟩ v) S):D.dN h x s (G (b.at a (.inRegion ops (i::rest)::k)) cs) σ S:=by
 refine Duo.dN.step t hs rfl (X:=λg' ae=>ae=σ.setCell ⟨bk,off,none⟩ v/\g'=G (b.at (a.put o.dst undef) (.inRegion ops rest::k)) cs) ?_ ?_
 ·intro J w fD hJ hKw hc hf;have hw:=fD.heap hb;have kN:w.cell? ⟨bk,off,none⟩=some u:=by simp[World.cell?,hw,hu]
  have Q0:w.frozen? ⟨bk,off,none⟩=false:=by simp[World.frozen?,hw]
  have kO:=Go.Lib.cells_one (v:=v) hv
  have hr:(execOp a.eval o).run P w=.ok .skip (w.setCell ⟨bk,off,none⟩ v):=by unfold execOp;simp[aS,hy,hz,Instr.storeAt,Instr.sureAddr,storeVar,sizeOf,typeInfo,vu,h1,kO,storeCells,run_store P _ _ v _ hv,Addr.add_zero',kN,Q0,Result.andThen]
  have he:(execOp a.eval o).events P w #[]= #[⟨.cell ⟨bk,off,none⟩,true,false⟩]:=by unfold execOp;simp[aS,hy,hz,Instr.storeAt,Instr.sureAddr,storeVar,sizeOf,typeInfo,vu,h1,kO,storeCells,events_store P _ _ _ v _ hv,Addr.add_zero',kN,Q0]
  rw[stepG_none ho (by simp[Region.wanted,hg]) hk hr];have hn:¬D.Hid bk:=λhh=>fD.rJ hb (hJ _ hh);have Gb:Kept J w (w.setCell ⟨bk,off,none⟩ v):=Kept.modify fD hb (yt ⟨bk,off,none⟩ v);refine⟨σ.setCell ⟨bk,off,none⟩ v,J,fD.modify hb (yt ⟨bk,off,none⟩ v),hJ,hK w (λb o hb=>fD.heap hb) hKw,λc' cA=>?_,hf.kept Gb,Gb.tv,λe jU=>?_,rfl,rfl,rfl⟩
  ·obtain⟨k0,J5⟩:=hc c' cA;exact⟨k0,by rw[Gb.hidden c' (hJ c' (.inr (.inl cA)))];exact J5⟩
  ·have:=mem_listed jU;rw[he]at this;simp at this;subst this;refine⟨λb' dE=>?_,⟨⟨al,al⟩,al⟩,?_⟩
   ·simp[MemAct.ofEvent,MemAct.touch?]at dE;subst dE;exact⟨λhS=>absurd (.inr (.inr ⟨_,rfl,.inl hS⟩)) hn,λhS=>absurd hS bw,λhQ=>absurd (.inr (.inr ⟨_,rfl,.inr hQ⟩)) hn⟩
   ·simp[MemAct.ofEvent,MemAct.low]
    first|exact fD.lt hb|exact Nat.lt_of_lt_of_le (fD.lt hb) Gb.tv
 ·rintro _ _ ⟨rfl,rfl⟩;exact n
end
section
open Go.Proofs
open Go.ConcX (OfWg)
variable {ρ:av}{P:Program}{N:Nat}{ops:Array Oper}{F:Hp->Prop}{σ:Hp}
def ap4{E:Env P}{Ok:Addr->Prop}{Q:Post}{pn:List PanicEntry->List Deferred->Hp->Prop}{ds:List Deferred}(jX:F σ)(gv:∀(i:Nat) (o:Oper),ops[i]? =some o->cT o.op=true):
 ∀(p:List Nat) (cE:List (Nat×av×Value)) (ρ:av),dH P N ops F Ok (λρ=>Q .normal ρ ds σ) p ρ->fP E N ops Q pn p cE ρ ds σ:=by
 intro p
 induction p with
 |nil=>exactλ_ _ h=>h
 |cons i p ih=>
  intro cE ρ h;simp only[dH]at h
  cases ho:ops[i]? with
  |none=>rw[ho]at h;exact h.elim
  |some o=>
   rw[ho]at h;obtain⟨h1,h2,h3,h4,v,h5,h6⟩:=h;simp only[fP,ho];refine⟨h1,?_⟩;rw[if_pos (gv i o ho),if_pos (by simp[Region.wanted,h2]),h5 σ jX];exact ih _ _ h6
variable {Q:av->Prop}
def anY:∀(p:List Nat) (ρ:av),wA P N ops σ Q p ρ->dH P N ops (λκ=>κ=σ) (λ_=>True) Q p ρ:=by
 intro p
 induction p with
 |nil=>exactλ_ h=>h
 |cons i p ih=>
  intro ρ h;simp only[wA]at h;simp only[dH]
  cases ho:ops[i]? with
  |none=>rw[ho]at h;exact h.elim
  |some o=>
   rw[ho]at h;obtain⟨h1,h2,h3,v,h4,h5⟩:=h;exact⟨h1,h2,h3,λ_ _=>trivial,v,λκ e=>by rw[e];exact h4,ih _ h5⟩
def anZ{Q':av->Prop}(hq:∀ρ,Q ρ->Q' ρ):∀(p:List Nat) (ρ:av),wA P N ops σ Q p ρ->wA P N ops σ Q' p ρ:=by
 intro p
 induction p with
 |nil=>exactλρ h=>hq ρ h
 |cons i p ih=>
  intro ρ h;simp only[wA]at h|-
  cases ho:ops[i]? with
  |none=>rw[ho]at h;exact h.elim
  |some o=>
   rw[ho]at h;obtain⟨h1,h2,h3,v,h4,h5⟩:=h;exact⟨h1,h2,h3,v,h4,ih _ h5⟩
variable {h:Nat}
def ajW(P:Program):Env P:={main:=true,st:=λ_ _ _ _=>False,ik:=λh _=>h,own:=λ_ _ _ _ _ h=>h.elim}
def an1{Ok:Addr->Prop}{m:Nat}{l:List Nat}(jX:F σ)(hm:P.follows .mixedOrders=true)(hc:rX (gG ops m) l=true)(he:endsIn ops m=true)(hl:∃p,l=p++[m])(gv:∀(i:Nat) (o:Oper),(gG ops m)[i]? =some o->cT o.op=true)(hk:∀(i:Nat) (o:Oper),i≠m->ops[i]? =some o->A5 o.op=true/\DV P o.op=true/\o.guard=none)(hd:oX N (fT ops m)=true)(hg:((ops[m]?).bind (·.guard))=none)(hs:(ops[m]?).isSome=true)(h:∀p,l=p++[m]->dH P N (gG ops m) F Ok Q p ρ)(t:Nat):
 ∃p,Region.schedule (P.follows .mixedOrders) ops t=p++[m]/\dH P N ops (λκ=>κ=σ) (λ_=>True) (λρ=>∃aD,Q aD/\aB aD (fT ops m) undef=aB ρ (fT ops m) undef) p ρ:=by
 obtain⟨p0,rfl⟩:=hl;obtain⟨p,Gm,sD⟩:=anA hm he t;refine⟨p,Gm,?_⟩;obtain⟨o,ho⟩:=Option.isSome_iff_exists.1 hs;have Rt:(gG ops m)[m]? =some {o with op:=.move (.const undef)}:=by simp[gG,Array.getElem?_modify,ho]
 have QO:o.dst=fT ops m:=by simp[fT,ho]
 have FX:o.guard=none:=by rw[ho]at hg;exact hg
 have key:∀(p:List Nat) (ρ:av),dH P N (gG ops m) F Ok Q p ρ->dH P N (gG ops m) F Ok (λρ=>∃aD,Q aD/\ρ=aB aD (fT ops m) undef) (p++[m]) ρ:=by
  intro p
  induction p with
  |nil=>
   intro ρ h0;simp only[List.nil_append,dH,Rt];exact⟨by rw[QO];exact hd,FX,trivial,λy hy=>hy.elim,undef,λκ _=>by simp[cR,ak],ρ,h0,by rw[QO]⟩
  |cons i p ih=>
   intro ρ h0;simp only[List.cons_append,dH]at h0|-
   cases hi:(gG ops m)[i]? with
   |none=>rw[hi]at h0;exact h0.elim
   |some oi=>
    rw[hi]at h0;obtain⟨h1,h2,h3,h4,v,h5,h6⟩:=h0;exact⟨h1,h2,h3,h4,v,h5,ih _ h6⟩
 have hD:=ap4 (E:=ajW P) (Q:=jO λρ ds τ=>∃aD,Q aD/\ρ=aB aD (fT ops m) undef) (pn:=λ_ _ _=>False) (ds:=[]) jX gv (p0++[m]) [] ρ (key p0 ρ (h p0 rfl));have hO:=O7 hc hm (λ_ _ _ _ h=>h.elim) hD t;rw[ajf hm,Gm]at hO;have hI:=an0 p sD hk ρ hO;refine anY p ρ ?_;refine anZ (λρ hq=>?_) p ρ hI;obtain⟨aD,h1,h2⟩:=hq;exact⟨aD,h1,h2.symm⟩
noncomputable def wI:Code:=f56.body.getD .skip
noncomputable def d56:Array Oper:=bK (bM wI)
noncomputable def kD:Array Oper:=bK (aQ wI)
def mz:Frame:=baseD 56
noncomputable def bot:Frame:={(default:Frame)with fn:=prog.funcs.size,defers:=[],mode:=.panicking [goexitEntry]}
def Vs:wI=.seq (.region 0 d56 false) (.region 1 kD true):=ah
def aad:∃ps af cg ty,d56[0]? =some {dst:=none,op:=.defer {callee:=.value (.func 57),args:=#[.tmp 0],argTypes:=cg},type:=ty,pos:=ps,after:=af,guard:=none}:=⟨_,_,_,_,by simp only[d56,wI,f56,Option.getD_some,bM,bK];rfl⟩
def Ti:∃ps af cg ty,kD[7]? =some {dst:=some 13,op:=.call {callee:=.value (.func 58),args:=#[.tmp 8,.tmp 9,.tmp 10,.tmp 11,.tmp 12],argTypes:=cg},type:=ty,pos:=ps,after:=af,guard:=none}:=⟨_,_,_,_,by simp only[kD,wI,f56,Option.getD_some,aQ,bK];rfl⟩
def ak4:∃ps af,p0[8]? =some {dst:=none,op:=.store 9 (.tmp 18) (.tmp 16),type:=0,pos:=ps,after:=af,guard:=none}:=⟨_,_,by simp only[p0,pe,f58,Option.getD_some,bM,bK];rfl⟩
def aaO:endsIn kD 7=true:=ah
def Zn:rX (gG kD 7) [0,1,2,3,4,5,6,7]=true:=ah
def oz(wg cb kb sb ub db:Nat):Array Value:=#[pV wg,pV cb,pV kb,pV sb,pV ub,pV db]
def call56(wg cb kb sb ub db:Nat):Deferred:={target:=.fn (.func 56) (oz wg cb kb sb ub db),args:=#[]}
def XX(wg cb kb sb ub db:Nat)(w:World):stepG prog false (born prog (call56 wg cb kb sb ub db)) w=
 .go (G (mz.at ⟨oz wg cb kb sb ub db++Array.replicate (14-(oz wg cb kb sb ub db).size) undef,[]⟩ [.code wI]) [bot]) w #[]:=by
 simp[born,call56,oz,stepG,unwind,callDeferred,invoke,callFunc,func56,f56,seen,GStep.after,G,Frame.enter,Frame.at,mz,baseD,bot,wI]
namespace Tk
variable {h:Nat}{b:Frame}{a:Act}{k:List Item}
variable (t:Tk)
structure Ok (b:Nat):Prop where
 n1:b≠t.c1
 n2:b≠t.c2
 n3:b≠t.c3
 nw:b≠t.wg
 nu:b≠t.ub
 nj:¬t.Jh b
 lt:b<t.Bd
def K1 (bc:Nat)(l:List Value)(w:World):Prop:=
 t.K0 w/\w.heap[t.cb]? =some (.cells #[pV bc] 70 (0,0))/\w.heap[t.sb]? =some (.cells #[.chan (some t.c1)] 119 (0,0))/\∃r,w.heap[bc]? =some (.cells (l.set 3 r).toArray 90 (0,0))
def S1 (bc:Nat)(l:Loc):Prop:=l=.cell ⟨t.ub,0,none⟩\/∃a,l=.cell a/\Rd t.cb t.sb bc a
variable {t}
def Ok.chan {b:Nat}(h:t.Ok b){c:Nat}(hc:t.chans c):b≠c:=by rcases hc with rfl|rfl|rfl;exact h.n1;exact h.n2;exact h.n3
def TU {bc:Nat}(hc:t.Ok t.cb)(hs:t.Ok t.sb)(hb:t.Ok bc){a:Addr}(h:Rd t.cb t.sb bc a):t.Ok a.block:=by
 rcases h with rfl|rfl|rfl|rfl
 ·exact hc
 ·exact hs
 ·exact hb
 ·exact hb
def B1 (t:Tk)(HK:Nat->Prop)(bc:Nat)(l:List Value)(hc:t.Ok t.cb)(hs:t.Ok t.sb)(hb:t.Ok bc):Duo prog:={t.A with
 K:=t.K1 bc l
 KW:=t.K1 bc l
 Cz:=λw h=>h
 HK:=HK
 Still:=t.S1 bc
 CB:=λw d h=>h
 Jp:=by
  rintro w c k cP ⟨h1,h2,h3,r,h4⟩
  exact⟨KR cP h1,(heap_setChan_ne w _ _ _ _ _ _ (Ne.symm (hc.chan cP)).symm.symm).trans h2,(heap_setChan_ne w _ _ _ _ _ _ (Ne.symm (hs.chan cP))).trans h3,r,(heap_setChan_ne w _ _ _ _ _ _ (Ne.symm (hb.chan cP))).trans h4⟩
 cell:=by rintro l (⟨a,rfl,_⟩|(rfl|⟨a,rfl,_⟩)|⟨a,rfl,_⟩)<;>exact⟨_,rfl⟩
 apart:=by
  obtain⟨a1,a2,a3,a4,a5,a6⟩:=t.fX
  rintro l (rfl|⟨a,rfl,hr⟩)
  ·refine⟨?_,?_⟩
   ·rintro⟨a,e,h⟩
    obtain rfl:a=⟨t.ub,0,none⟩:=by simpa using e.symm
    rcases h with h|h
    ·exact a5 h
    ·exact a4 h
   ·rintro⟨a,e,h⟩
    obtain rfl:a=⟨t.ub,0,none⟩:=by simpa using e.symm
    exact a4 h
  ·have ho:=TU hc hs hb hr
   refine⟨?_,?_⟩
   ·rintro⟨a',e,h⟩
    obtain rfl:a'=a:=by simpa using e.symm
    rcases h with h|h
    ·exact ho.nj h
    ·exact ho.nw h
   ·rintro⟨a',e,h⟩
    obtain rfl:a'=a:=by simpa using e.symm
    exact ho.nw h}
def abu {HK:Nat->Prop}{bc:Nat}{l:List Value}{hc:t.Ok t.cb}{hs:t.Ok t.sb}{hb:t.Ok bc}(fr:Int):(t.B1 HK bc l hc hs hb).Fits (t.sS fr):=by intro cc h;simp only[Eo,List.mem_toArray,List.mem_cons,List.not_mem_nil,or_false]at h;subst h;exact⟨t.c1,.inl rfl,rfl⟩
end Tk
variable {s:Seat}{b:Frame}{k:List Item}
structure Bw (t:Tk) (bc kb:Nat) (l:List Value) (ch:List UInt8) (σ:Hp):Prop where
 c:σ.f t.cb=some (.cells #[pV bc] 70 (0,0))
 k:σ.f kb=some (.cells #[.string (B ch)] 9 (0,0))
 s:σ.f t.sb=some (.cells #[.chan (some t.c1)] 119 (0,0))
 u:σ.f t.ub=some (.cells #[.chan (some t.c2)] 120 (0,0))
 d:σ.f t.db=some (.cells #[.chan (some t.c3)] 121 (0,0))
 b:σ.f bc=some (.cells l.toArray 90 (0,0))
variable {a:Act}
def CW(wg:Nat)(cw:List Frame):Prop:=∃a,a.defers=[dcall 57 #[pV wg]]/\a.tmps.size=14/\cw=[mz.at a [.inRegion kD [7]],bot]
structure M5 (t:Tk) (bc:Nat) (ch:List UInt8) (ρ:av):Prop where
 a:ρ 8=.pointer (some ⟨bc,3,none⟩)
 k:ρ 9=.string (B ch)
 s:ρ 10=.chan (some t.c1)
 u:ρ 11=.chan (some t.c2)
 d:ρ 12=.chan (some t.c3)
variable {t:Tk}{bc kb:Nat}{l:List Value}{ch:List UInt8}
def anT(h1:ρ 1=pV t.cb)(h2:ρ 2=pV kb)(h3:ρ 3=pV t.sb)(h4:ρ 4=pV t.ub)(h5:ρ 5=pV t.db):
 dH prog 14 (gG kD 7) (Bw t bc kb l ch) (λ_=>True) (M5 t bc ch) [0,1,2,3,4,5,6] ρ:=by
 have hm:gG kD 7= #[]\/True:=.inr trivial;simp only[kD,wI,f56,Option.getD_some,aQ,bK];refine o0 (a:=⟨t.cb,0,none⟩) (v:=pV bc) rfl ai (by simp[ak,h1]) ah ah trivial (λκ h=>oA h.c rfl) ?_;refine uH (a:=⟨bc,0,none⟩) rfl ai (by simp[ak,up]) ?_;refine uG (a:=⟨bc,0,none⟩) (off:=3) rfl ai (by simp[ak,up]) ah ?_;refine o0 (a:=⟨kb,0,none⟩) (v:=.string (B ch)) rfl ai (by simp[ak,up,h2]) ah ah trivial (λκ h=>oA h.k rfl) ?_;refine o0 (a:=⟨t.sb,0,none⟩) (v:=.chan (some t.c1)) rfl ai (by simp[ak,up,h3]) ah ah trivial (λκ h=>oA h.s rfl) ?_;refine o0 (a:=⟨t.ub,0,none⟩) (v:=.chan (some t.c2)) rfl ai (by simp[ak,up,h4]) ah ah trivial (λκ h=>oA h.u rfl) ?_;refine o0 (a:=⟨t.db,0,none⟩) (v:=.chan (some t.c3)) rfl ai (by simp[ak,up,h5]) ah ah trivial (λκ h=>oA h.d rfl) ?_;exact⟨by simp[up,Addr.add],by simp[up],by simp[up],by simp[up],by simp[up]⟩
variable {x:Nat}
structure Vp (t:Tk) (bc:Nat) (x:List UInt8) (ρ:av):Prop where
 w:Fw bc t.c1 t.c2 t.c3 ρ
 v:ρ 16=.string (B x)
 p:ρ 18=.pointer (some ⟨bc,3,none⟩)
def anU{rest:List UInt8}(hF:Fw bc t.c1 t.c2 t.c3 ρ)(h1:ρ 1=.string (B ch))(hl:l[3]? =some (.string (B rest)))(hn:rest.length+ch.length<=9223372036854775807):
 dH prog 30 p0 (Bw t bc kb l ch) (λ_=>True) (Vp t bc (rest++ch)) [0,1,2,3,4,5,6,7] ρ:=by
 simp only[p0,pe,f58,Option.getD_some,bM,bK];refine Hn rfl ai ?_;refine uH (a:=⟨bc,3,none⟩) rfl ai (by simp[ak,up,hF.c]) ?_;refine uG (a:=⟨bc,3,none⟩) (off:=0) rfl ai (by simp[ak,up]) ah ?_;refine o0 (a:=⟨bc,3,none⟩) (v:=.string (B rest)) rfl ai (by simp[ak,up,Addr.add]) ah ah trivial (λκ h=>oA h.b (aZ hl)) ?_;refine Hn rfl ai ?_;refine Et (v:=.string (B (rest++ch))) rfl ai (by simp[ak,up,h1,Oj,qi,hn]) ?_;refine uH (a:=⟨bc,3,none⟩) rfl ai (by simp[ak,up,hF.c]) ?_;refine uG (a:=⟨bc,3,none⟩) (off:=0) rfl ai (by simp[ak,up]) ah ?_;refine⟨?_,by simp[up],by simp[up,Addr.add]⟩;exact(((((((hF.up ai _).up ai _).up ai _).up ai _).up ai _).up ai _).up ai _).up ai _
section
variable {h:Nat}{s:Seat}{g:Goroutine}{σ:Hp}{N:Nat}{ops:Array Oper}{b:Frame}{a:Act}{k:List Item}{ds:List Deferred}{ρ:av}
variable {t:Tk}{HK:Nat->Prop}{bc kb:Nat}{l:List Value}{ch rest:List UInt8}{hc:t.Ok t.cb}{hs:t.Ok t.sb}{hb:t.Ok bc}{σ:Hp}{fr:Int}
def NC {p:Oper->Bool}{ops:Array Oper}(h:ops.all p=true){i:Nat}{o:Oper}(ho:ops[i]? =some o):p o=true:=by rw[Array.all_eq_true]at h;obtain⟨hi,rfl⟩:=Array.getElem?_eq_some_iff.1 ho;exact h i hi
def amE:(gG kD 7).all (λo=>cT o.op)=true:=ah
def ahG:(gG kD 7).all (λo=>A5 o.op&&DV prog o.op&&o.guard.isNone)=true:=ah
def agt:∃ie,prog.info? 9=some ie/\ie.size=1:=by have:(prog.info? 9).map (·.size)=some 1:=ah;exact Option.map_eq_some_iff.1 this
def Ep (w:World){a:Addr}{b:Nat}(v:Value)(h:b≠a.block):(w.setCell a v).heap[b]? =w.heap[b]? :=by simp only[World.setCell,Array.getElem?_modify,if_neg (Ne.symm h)]
def W1:f58.body=some pe:=ah
def Xl (hW:Bw t bc kb l ch σ)(hl:l[3]? =some (.string (B rest)))(hn:rest.length+ch.length<=9223372036854775807):
 (t.B1 HK bc l hc hs hb).dN t.j 0 (t.sS fr) (born prog (call56 t.wg t.cb kb t.sb t.ub t.db)) σ λg τ=>τ=σ.setCell ⟨bc,3,none⟩ (.string (B (rest++ch)))/\∃cw ρ a,CW t.wg cw/\cJ 30 a ρ []/\Fw bc t.c1 t.c2 t.c3 ρ/\g=G (gC.at a (.code kG:: .inLoop kG:: .inBlock 0::[])) cw:=by
 have tj:(t.B1 HK bc l hc hs hb).gf t.j 0:=.inr ⟨rfl,rfl⟩;have hf:=Tk.abu (t:=t) (HK:=HK) (hc:=hc) (hs:=hs) (hb:=hb) (l:=l) fr;have C8:(t.j==0)=false:=by have:=t.hj;simp;omega
 have hm:prog.follows .mixedOrders=true:=ah;refine Duo.dN.ctl tj hf (λw=>by rw[C8];exact XX _ _ _ _ _ _ w) rfl rfl ?_;have tE:=rV (oz t.wg t.cb kb t.sb t.ub t.db) 14 (by simp[oz]);generalize sH:nB (oz t.wg t.cb kb t.sb t.ub t.db) 14=mo at tE;have q0:mo 0=pV t.wg:=by rw[<-sH];rfl
 have q1:mo 1=pV t.cb:=by rw[<-sH];rfl
 have q2:mo 2=pV kb:=by rw[<-sH];rfl
 have q3:mo 3=pV t.sb:=by rw[<-sH];rfl
 have q4:mo 4=pV t.ub:=by rw[<-sH];rfl
 have q5:mo 5=pV t.db:=by rw[<-sH];rfl
 clear sH;generalize(⟨oz t.wg t.cb kb t.sb t.ub t.db++_,[]⟩:Act)=a0 at tE|-;rw[Vs];refine Duo.dN.ctl tj hf (λw=>stepG_seq) rfl rfl ?_;refine Duo.dN.ctl tj hf (λw=>stepG_region) rfl rfl ?_;have hr:List.range d56.size=[0]:=ah;rw[hr];obtain⟨ps,af,cg,ty,ho⟩:=aad;refine Duo.dN.defer tj hf ho rfl (by simp[mz,baseD]) rfl ?_;have e0:a0.eval (.tmp 0)=pV t.wg:=by rw[tE.eval];exact q0
 have sx:a0.defers=[]:=tE.defers
 have da:cJ 14 (Act.put ⟨a0.tmps,dcall 57 (#[Operand.tmp 0].map a0.eval)::a0.defers⟩ none undef) mo [dcall 57 #[pV t.wg]]:=by have:=tE.defer (dcall 57 #[pV t.wg]);rw[sx]at*;simpa[Act.put,e0]using this
 generalize Act.put ⟨a0.tmps,dcall 57 (#[Operand.tmp 0].map a0.eval)::a0.defers⟩ none undef=a1 at da|-;refine Duo.dN.ctl tj hf (λw=>stepG_region_end) rfl rfl ?_;refine Duo.dN.IK tj hf λc=>?_;obtain⟨ps,af,cg,ty,ho⟩:=Ti;have AI:fT kD 7=some 13:=by simp[fT,ho]
 obtain⟨p,hp,afz⟩:=an1 (P:=prog) (N:=14) (ops:=kD) (m:=7) (l:=[0,1,2,3,4,5,6,7]) (F:=Bw t bc kb l ch) (Ok:=λ_=>True) (Q:=M5 t bc ch) (ρ:=mo) hW hm Zn aaO ⟨[0,1,2,3,4,5,6],rfl⟩
  (λi o h=>NC amE h) (λi o hi h=>by
   have:=NC ahG ((GV hi).trans h)
   simp only[Bool.and_eq_true,Option.isNone_iff_eq_none]at this
   exact⟨this.1.1,this.1.2,this.2⟩) (by rw[AI];rfl) (by rw[ho];rfl) (by rw[ho];rfl) (λp hp=>by
   obtain rfl:p=[0,1,2,3,4,5,6]:=by
    have:=congrArg List.dropLast hp
    simpa using this.symm
   exact anT q1 q2 q3 q4 q5) c
 rw[hp];refine Duo.dN.Ur tj hf (N:=14) (ds:=[dcall 57 #[pV t.wg]]) (by simp[mz,baseD]) (F:=λκ=>κ=σ) rfl (Ok:=λ_=>True) (rest:=[7]) (λρ a ha hq=>?_) p mo a1 afz da;obtain⟨aD,hA,afn⟩:=hq
 have heq:∀i,i≠13->ρ i=aD i:=λi hi=>by have:=congrFun afn i;simp only[AI,aB,up,if_neg hi]at this;exact this.symm
 have k8:ρ 8=_:=(heq 8 ai).trans hA.a;have k9:ρ 9=_:=(heq 9 ai).trans hA.k;have vL:ρ 10=_:=(heq 10 ai).trans hA.s;have vM:ρ 11=_:=(heq 11 ai).trans hA.u;have k12:ρ 12=_:=(heq 12 ai).trans hA.d;refine Duo.dN.call tj hf ho rfl (by simp[mz,baseD]) rfl acD ?_
 have adD:(#[Operand.tmp 8,.tmp 9,.tmp 10,.tmp 11,.tmp 12]).map a.eval= #[.pointer (some ⟨bc,3,none⟩),.string (B ch),.chan (some t.c1),.chan (some t.c2),.chan (some t.c3)]:=by rw[ha.eval];simp[ak,k8,k9,vL,vM,k12]
 rw[adD,enter_at _ func58 W1,Vt];have Dh:f58.ntmps=30:=rfl;rw[Dh];have gp:=rV #[.pointer (some ⟨bc,3,none⟩),.string (B ch),.chan (some t.c1),.chan (some t.c2),.chan (some t.c3)] 30 al;generalize KH:nB _ 30=lR at gp;have mE:Fw bc t.c1 t.c2 t.c3 lR:=by rw[<-KH];exact⟨rfl,rfl,rfl,rfl⟩
 have r1:lR 1=.string (B ch):=by rw[<-KH];rfl
 clear KH;generalize(⟨_++Array.replicate (30-_) undef,[]⟩:Act)=a2 at gp|-;have pG:CW t.wg (mz.at a [.inRegion kD [7]]::[bot]):=⟨a,ha.defers,ha.size,rfl⟩;generalize(mz.at a [.inRegion kD [7]]::[bot])=cw at pG|-;change Duo.dN _ _ _ _ (G (gC.at a2 [.code (.seq (.region 0 p0 false) (.block 0 (.loop kG)))]) cw) _ _;refine Duo.dN.ctl tj hf (λw=>stepG_seq) rfl rfl ?_;refine Duo.dN.ctl tj hf (λw=>stepG_region) rfl rfl ?_;have bY:List.range p0.size=[0,1,2,3,4,5,6,7]++[8]:=ah;rw[bY];refine Duo.dN.Ur tj hf (N:=30) (ds:=[]) (by simp[gC]) (F:=Bw t bc kb l ch) hW (Ok:=λ_=>True) (rest:=[8]) (λρ a ha hA=>?_) [0,1,2,3,4,5,6,7] lR a2 (anU mE r1 hl hn) gp;obtain⟨ps,af,ho⟩:=ak4;obtain⟨ie,vu,aez⟩:=agt;refine Duo.dN.store tj hf ho rfl (by simp[gC]) (ty:=9) (y:=.tmp 18) (z:=.tmp 16) (bk:=bc) (off:=3) (v:=.string (B (rest++ch))) (c:=l.toArray) (et:=90) (u:=.string (B rest)) rfl (by rw[ha.eval];exact hA.p) (by rw[ha.eval];exact hA.v) rfl vu aez hW.b (aZ hl) ?_ ?_ ?_
 ·rintro(h|⟨a,h,h'|h'|h'|h'⟩)
  ·simp at h
  all_goals(subst h';simp at h)
 ·rintro w hw ⟨⟨g1,g2⟩,g3,g4,r,g5⟩;have n1:t.cb≠bc:=λe=>by rw[e]at g3;rw[g3]at g5;simp at g5
  have n2:t.sb≠bc:=λe=>by rw[e]at g4;rw[g4]at g5;simp at g5
  refine⟨⟨(Ep w _ (Ne.symm hb.nu)).trans g1,(Ep w _ (Ne.symm hb.nw)).trans g2⟩,(Ep w _ n1).trans g3,(Ep w _ n2).trans g4,.string (B (rest++ch)),?_⟩;simp only[World.setCell,Array.getElem?_modify,if_true,g5,Option.map_some];simp
 refine Duo.dN.ctl tj hf (λw=>stepG_region_end) rfl rfl ?_;refine Duo.dN.ctl tj hf (λw=>stepG_block) rfl rfl ?_;refine Duo.dN.ctl tj hf (λw=>stepG_loop) rfl rfl ?_;exact Duo.dN.here ⟨rfl,cw,ρ,_,pG,ha.put (dst:=none) rfl undef,hA.w,rfl⟩
end
variable {hc:t.Ok t.cb}{hs:t.Ok t.sb}{hb:t.Ok bc}
def Tk.aey{g:Goroutine}{m:Machine}{T:Trace}(hu:σ.f t.ub=none)(mG:(t.B1 (λb=>b=t.wg) bc l hc hs hb).St h x s g σ m T):(t.B1 t.HK bc l hc hs hb).St h x s g σ m T:=by
 obtain⟨gs,w,sl,q,J,n,y,rfl,e1,e2,e3,e4,e5,e6,e7⟩:=mG;refine⟨gs,w,sl,q,λb=>J b\/b=t.ub,n,y,rfl,e1,e2,e3,⟨e4.kR,e4.gI,e4.above,e4.d0,e4.dj,e4.k,e4.chans,e4.mA,e4.q9,e4.nr⟩,e5,⟨e6.heap,λb hb=>?_,λb hb=>?_⟩,λb hb=>?_⟩
 ·rcases hb with hb|rfl
  ·exact e6.fA b hb
  ·exact hu
 ·rcases hb with hb|rfl
  ·exact e6.low b hb
  ·have:w.heap[t.ub]? =some _:=e4.k.1.1;exact(Array.getElem?_eq_some_iff.1 this).1
 ·rcases hb with(rfl|rfl)|hb|hb
  ·exact .inr rfl
  ·exact .inl (e7 _ (.inl rfl))
  ·exact .inl (e7 _ (.inr (.inl hb)))
  ·exact .inl (e7 _ (.inr (.inr hb)))
def Tk.ajy:(t.B1 t.HK bc l hc hs hb).Next t.D:=⟨rfl,rfl,rfl,rfl,rfl,rfl,λ_ h=>h.1,λ_ h=>h⟩
section
variable {h:Nat}{σ:Hp}{N:Nat}{b:Frame}{a:Act}{cs:List Frame}{ρ:av}
variable (F:FS){t:Tk}{φ:Hp}{kb:Nat}{l:List Value}{ch:List UInt8}{hc:t.Ok t.cb}{hs:t.Ok t.sb}{hb:t.Ok F.bc}
def abo {a:F.γ}{kg σ:Hp}{m:Machine}{T:Trace}(fV:F.od a ch)(hI:F.I a kg)(hd:kg.dV φ)(mI:Bx F t.cb t.sb t.db t.c1 t.c3 φ)(fX:(kg.bJ φ).f t.ub=none)(hp:F.ph a≠5)(hle:(kg.bJ φ).le σ)(hW:Bw t F.bc kb l ch σ)(hn:ch.length<=4611686018427387904)
 (hl:l[3]? =some (.string (B (F.rest a)))) (l8:Cn F.bg (F.ph a) (F.fr a) l) (RZ:kg.f F.bc=some (.cells l.toArray 90 (0,0)))
 (mG:(t.B1 (λb=>b=t.wg) F.bc l hc hs hb).St t.j 0 (t.sS (F.fr a)) (born prog (call56 t.wg t.cb kb t.sb t.ub t.db)) σ m T):
 ∃N m' T' a' ae g' cw,runNT prog N m T=(.next m',T')/\F.Loop (F.add a ch) a'/\F.I a' ae/\ae.dV φ/\CW t.wg cw/\xZ t.cb t.sb t.ub t.db t.wg t.cs g'/\t.A.St 0 t.j (iW F.bc t.c1 t.c2 t.c3 cw) g' (ae.bJ φ) m' T':=by
 have Du:=F.small hI;have tj:(t.B1 (λb=>b=t.wg) F.bc l hc hs hb).gf t.j 0:=.inr ⟨rfl,rfl⟩;obtain⟨N1,m1,T1,g1,τ,r1,pa,rfl,cw,ρ,ac,pG,ha,hFw,rfl⟩:=Xl (t:=t) (HK:=λb=>b=t.wg) (hc:=hc) (hs:=hs) (hb:=hb) (fr:=F.fr a) hW hl aa m T mG;have Qc:=F.grow ch fV hI RZ;obtain⟨cZ,rB⟩:∃cZ,cZ=kg.set F.bc (.cells (l.set 3 (.string (B (F.rest a++ch)))).toArray 90 (0,0)):=⟨_,rfl⟩;rw[<-rB]at Qc
 have hd1:cZ.dV φ:=by rw[rB];exact IH hd (O4 hd RZ)
 have jV:(cZ.bJ φ).le (σ.setCell ⟨F.bc,3,none⟩ (.string (B (F.rest a++ch)))):=by
  intro b o dE;rw[rB,<-Hm]at dE;by_cases e:b=F.bc
  ·subst e;simp only[Hp.set,if_true,Option.some.injEq]at dE;subst dE;simp[Hp.setCell,Hp.modify,hW.b,yt]
  ·simp only[Hp.set,if_neg e]at dE;simp only[Hp.setCell,Hp.modify,if_neg e];exact hle b o dE
 have afN:(cZ.bJ φ).f t.ub=none:=by rw[rB,<-Hm];have:t.ub≠F.bc:=λe=>hb.nu e.symm;simpa[Hp.set,this]using fX
 obtain⟨gs,w,sl,q,J,n0,y,rfl,e1,e2,e3,e4,e5,e6,e7⟩:=pa;have zH:(t.B1 t.HK F.bc l hc hs hb).St t.j 0 (t.sS (F.fr a)) _ (cZ.bJ φ) (crowd gs w sl) T1:=Tk.aey afN ⟨gs,w,sl,q,J,n0,y,rfl,e1,e2,e3,e4,e5,e6.ik jV,e7⟩;clear e1 e2 e3 e4 e5 e6 e7;obtain⟨bZ,w',bE,q',J',n',y',em,e1,e2,e3,e4,e5,e6,e7⟩:=zH;obtain⟨t',Gu⟩:∃t':Tk,t'={t with cw:=cw}:=⟨_,rfl⟩;have C8:(t.j==0)=false:=by have:=t.hj;simp;omega
 have fW:(t.B1 t.HK F.bc l hc hs hb).Fits (iW F.bc t.c1 t.c2 t.c3 cw):=by
  intro cc h;simp only[iW,List.mem_toArray,List.mem_cons,List.not_mem_nil,or_false]at h;rcases h with rfl|rfl
  ·exact⟨t.c1,.inl rfl,rfl⟩
  ·exact⟨t.c3,.inr (.inr rfl),rfl⟩
 have hh:=U2 (main:=t.j==0) (K:=(t.B1 t.HK F.bc l hc hs hb).KW) (Still:=(t.B1 t.HK F.bc l hc hs hb).Still) (Bd:=(t.B1 t.HK F.bc l hc hs hb).B) (c1:=t.c1) (c2:=t.c2) (c3:=t.c3) (cw:=cw) ha hFw;have t0j:(t.B1 t.HK F.bc l hc hs hb).gf 0 t.j:=.inl ⟨rfl,rfl⟩
 obtain⟨N2,m2,T2,r2,Lq⟩:=(t.B1 t.HK F.bc l hc hs hb).meet (a:=0) (b:=t.j) t0j (sa:=t.sS (F.fr a)) (sb:=iW F.bc t.c1 t.c2 t.c3 cw) (c:=t.c1) (kk:=0) (v:=.int .i64 (F.fr a)) (.inl rfl) rfl rfl fW (by rfl) (λm cc hm cP=>by
  rcases m with _|_|m
  ·exact absurd rfl hm
  ·simp[iW]at cP;subst cP
   simp only[rcase,ne_eq,Value.chan.injEq,Option.some.injEq]
   exactλe=>t.d13 e.symm
  ·simp[iW]at cP) (λcc cP=>by
  simp only[iW,List.mem_toArray,List.mem_cons,List.not_mem_nil,or_false]at cP
  rcases cP with rfl|rfl<;>rfl) (.inr ⟨rfl,rfl⟩) (sl:=bE) e2 e1 e3 (.inl ⟨_,rfl,hh⟩) e4 e5 e6 e7 (.inr aa)
 obtain⟨gb,C0,qR⟩:=Lq.stay Tk.ajy (λl h=>.inl h) (λga h=>t.QT h);have e:commResult (iW F.bc t.c1 t.c2 t.c3 cw).cases (iW F.bc t.c1 t.c2 t.c3 cw).shape ((0:Nat):Int) (.int .i64 (F.fr a)) true=.tuple #[.int .i64 0,.bool true,.int .i64 (F.fr a),.agg #[]]:=Tk.Ud {t with cw:=cw} (F.fr a) F.bc
 rw[e,<-F.PH a ch]at qR;obtain⟨N3,m3,T3,a',ae,g',r3,ic,Ax,CU,hT3,BF⟩:=apf F {t with cw:=cw} mI _ (F.add a ch) cZ m2 T2 gb (Nat.lt_succ_self _) (by rw[F.Tz];exact hp) Qc hd1 C0 qR;rw[em]at r1;exact⟨_,m3,T3,a',ae,g',cw,runNT_then (runNT_then r1 r2) r3,ic,Ax,CU,pG,hT3,BF⟩
end
end
section
open Go.Proofs
open Go.ConcX (OfWg)
open Go.ConcX
section
variable {h:Nat}{x:Nat}{g:Goroutine}{N:Nat}{ops:Array Oper}{b:Frame}{a:Act}{k:List Item}{cs:List Frame}{ds:List Deferred}{ρ:av}
variable {P:Program}{main:Bool}{R:World->World->Prop}{D:World->World->Array Event->Prop}{Stop:Goroutine->World->Prop}{Kn:World->Prop}
def qn (bw:∀w w',R w w'->Kn w->Kn w')(hD:∀w,D w w #[]){g g':Goroutine}{n:Nat}(hr:g.status=.running)(h:∀w,stepG P main g w=.go g' w #[])(k:∀w,Kn w->Goes P main R D Stop n g' w):∀w,Kn w->Goes P main R D Stop (n+1) g w:=
 λw hw=>Goes.step hr λw₁ anm=>by rw[h w₁];exact⟨hD w₁,k w₁ (bw _ _ anm hw)⟩
def acL (bw:∀w w',R w w'->Kn w->Kn w')(hD:∀w,D w w #[]){N n:Nat}{ops:Array Oper}{b:Frame}{k:List Item}{cs:List Frame}(hk:b.kind≠.early){ds:List Deferred}{Q:av->Prop}{rest:List Nat}{Ok:Addr->Prop}
 (hn:∀ρ a,cJ N a ρ ds->Q ρ->∀w,Kn w->Goes P main R D Stop n (G (b.at a (.inRegion ops rest::k)) cs) w):
 ∀(p:List Nat) (ρ:av) (a:Act),dH P N ops (λκ=>κ=⟨λ_=>none⟩) Ok Q p ρ->cJ N a ρ ds->∀w,Kn w->Goes P main R D Stop (n+p.length) (G (b.at a (.inRegion ops (p++rest)::k)) cs) w:=by
 intro p
 induction p with
 |nil=>exactλρ a h ha=>hn ρ a ha h
 |cons i p ih=>
  intro ρ a h ha;simp only[dH]at h
  cases ho:ops[i]? with
  |none=>rw[ho]at h;exact h.elim
  |some o=>
   rw[ho]at h;obtain⟨hd,hg,hs,_,v,hv,h⟩:=h;rw[List.length_cons,<-Nat.add_assoc];refine qn bw hD (g':=G (b.at (a.put o.dst v) (.inRegion ops (p++rest)::k)) cs) rfl (λw=>?_) (ih _ _ h (ha.put hd v));obtain⟨es,h1,h2⟩:=Mh (main:=main) (κ:=⟨λ_=>none⟩) (k:=k) (cs:=cs) (rest:=p++rest) ho hg hs (hv _ rfl) hk ha w (λb o hb=>by cases hb)
   have:es= #[]:=by
    rw[Array.eq_empty_iff_forall_not_mem];intro e he;obtain⟨x,_,_,hx⟩:=h2 e he
    cases hx
   rw[List.cons_append,h1,this]
end
section
variable {h:Nat}{N:Nat}{a:Act}{cs:List Frame}{ds:List Deferred}{ρ:av}
variable [Payload]{Wg C Low:Nat}[Shy Wg C]{vals:List Value}{bc c1 c2 c3:Nat}{cw:List Frame}
def aai (w:World):DCs (λ_=>True) Wg C w w #[]:=⟨⟨rfl,rfl,rfl,rfl,λ_ _=>rfl⟩,al⟩
def amn {a:Act}(ha:a.defers=[]):QuitsD prog 2 0 (G {mz.at a []with mode:=.returning} [bot]):=by
 refine QuitsD.ctl (g':=G bot []) rfl (λw=>?_) ?_
 ·simp[G,stepG,unwind,doReturn,results,Frame.at,mz,baseD,bot,func56,f56,seen,GStep.after,goexitEntry,ha]
 refine QuitsD.ctl (g':={G bot []with status:=.finished}) rfl (λw=>?_) ⟨rfl,rfl⟩;simp[G,stepG,unwind,bot,goexitEntry,Frame.catches];rfl
def Uh (hW:Wg<Low)(hC:C<Low)(wV:C≠Wg)(pG:CW Wg cw){cO:Goroutine}(hg:E1 bc c1 c2 c3 cw cO){w:World}(hK:KCa 131 Wg w/\Full C vals w):
 ∃n,Goes prog false (RCa 131 Wg Low) (DCs (λ_=>True) Wg C) (AtR0 prog 131 Wg C Low vals) n (Go.Conc.served cO (.tuple #[.int .i64 1,.bool false,.int .i64 0,.agg #[]])) w:=by
 obtain⟨ρ,ac,ha,hF,rfl⟩:=hg;obtain⟨a6,hd6,hs6,rfl⟩:=pG;obtain⟨ps,af,ho⟩:=LZ;have bw:∀w w',RCa 131 Wg Low w w'->KCa 131 Wg w/\Full C vals w->KCa 131 Wg w'/\Full C vals w':=λw w' r h=>Go.ConcX.Gen.ka_rely (L:=pb) hC wV h r;have hD:=aai (Wg:=Wg) (C:=C)
 have e:Go.Conc.served (G (gC.at ac (.inRegion q3 [0,1,2,3]:: .code (.block 2 lS)::kw)) [mz.at a6 [.inRegion kD [7]],bot]) (.tuple #[.int .i64 1,.bool false,.int .i64 0,.agg #[]])=
  G (gC.at (ac.put (some 21) (.tuple #[.int .i64 1,.bool false,.int .i64 0,.agg #[]])) (.inRegion q3 ([1,2,3]++[]):: .code (.block 2 lS)::kw)) [mz.at a6 [.inRegion kD [7]],bot]:=by
  have:=Frame.finish_at gC ac q3 0 [1,2,3] (.code (.block 2 lS)::kw) (.tuple #[.int .i64 1,.bool false,.int .i64 0,.agg #[]]);rw[ho]at this;simp only[Go.Conc.served,G,this];rfl
 rw[e];have da:cJ 30 _ _ []:=ha.put (dst:=some 21) ai (.tuple #[.int .i64 1,.bool false,.int .i64 0,.agg #[]])
 suffices key:∃n,∀w,KCa 131 Wg w/\Full C vals w->Goes prog false (RCa 131 Wg Low) (DCs (λ_=>True) Wg C) (AtR0 prog 131 Wg C Low vals) n (G (gC.at (ac.put (some 21) (.tuple #[.int .i64 1,.bool false,.int .i64 0,.agg #[]])) (.inRegion q3 ([1,2,3]++[]):: .code (.block 2 lS)::kw)) [mz.at a6 [.inRegion kD [7]],bot]) w by obtain⟨n,hn⟩:=key;exact⟨n,hn w hK⟩
 refine⟨32+[1,2,3].length,?_⟩;refine acL (n:=32) (N:=30) (ds:=[]) bw hD (by simp[gC]) (Ok:=λ_=>True) (Q:=λρ=>ρ 23=.bool false/\ρ 24=.bool true) (λρ a ha h=>?_) [1,2,3] _ _ ?_ da
 rotate_left
 ·simp only[q3,oQ,kG,pe,f58,Option.getD_some,aQ,bM,dL,bK,aB];refine anX (vs:=#[.int .i64 1,.bool false,.int .i64 0,.agg #[]]) (v:=.int .i64 1) rfl ai (by simp[ak,up]) rfl ?_;refine Et (v:=.bool false) rfl ai (by simp[ak,up,cG]) ?_;refine Et (v:=.bool true) rfl ai (by simp[ak,up,cG]) ?_;exact⟨by simp[up],by simp[up]⟩
 obtain⟨Je,h24⟩:=h;refine qn bw hD rfl (λw=>stepG_region_end) ?_;refine qn bw hD rfl (λw=>stepG_block) ?_;rw[Oq];refine qn bw hD rfl (λw=>stepG_cond (t:=false) (by rw[ha.eval];exact Je)) ?_;refine qn bw hD rfl (λw=>stepG_cond (t:=true) (by rw[ha.eval];exact h24)) ?_;refine qn bw hD rfl (λw=>stepG_ret') ?_;refine qn bw hD rfl (λw=>stepG_leave (v:=.tuple #[]) rfl ha.defers func58 (by simp[results,f58]) (by simp[results,f58])) ?_;obtain⟨ps,af,cg,ty,ho7⟩:=Ti
 have e7:(mz.at a6 [.inRegion kD [7]]).finish (.tuple #[])=mz.at (a6.put (some 13) (.tuple #[])) [.inRegion kD []]:=by have:=Frame.finish_at mz a6 kD 7 [] [] (.tuple #[]);rw[ho7]at this;exact this
 rw[e7];refine qn bw hD rfl (λw=>stepG_region_end) ?_;refine qn bw hD rfl (λw=>stepG_end) ?_;have AI:(a6.put (some 13) (.tuple #[])).defers=[dcall 57 #[pV Wg]]:=hd6;refine qn bw hD rfl (λw=>stepG_unwind_enter (ds:=[]) (f:=57) (args:=#[pV Wg]) (fn:=f57) (c:=f57.body.getD .skip) AI func57 ah ah) ?_;intro w hw;have:=Go.ConcX.Gen.doneD (P:=prog) (L:=pb) HD (Mine:=λ_=>True) (Wg:=Wg) (C:=C) (Low:=Low) (vals:=vals) hW hC wV (c:={mz.at ⟨(a6.put (some 13) (.tuple #[])).tmps,[]⟩ []with mode:=.returning}) (cs:=[bot]) (qt:=2) rfl (amn rfl) w hw;exact this
end
noncomputable def ur:Array Oper:=bK (bM qS)
noncomputable def lM:Array Oper:=bK (aQ qS)
def apa:qS=.seq (.region 11 ur false) (.region 12 lM false):=ah
def akm:∃ps af,ur[0]? =some {dst:=some 50,op:=.load 121 (.tmp 6),type:=121,pos:=ps,after:=af,guard:=none}:=⟨_,_,by simp only[ur,qS,iy,ja,f40,Option.getD_some,aQ,bM,bK];rfl⟩
def akn:∃ps af cg ty,ur[1]? =some {dst:=none,op:=.call {callee:=.builtin .close,args:=#[.tmp 50],argTypes:=cg},type:=ty,pos:=ps,after:=af,guard:=none}:=⟨_,_,_,_,by simp only[ur,qS,iy,ja,f40,Option.getD_some,aQ,bM,bK];rfl⟩
def LL:∃ps af cg ty,lM[0]? =some {dst:=some 51,op:=.call {callee:=.value (.func 60),args:=#[.tmp 7],argTypes:=cg},type:=ty,pos:=ps,after:=af,guard:=none}:=⟨_,_,_,_,by simp only[lM,qS,iy,ja,f40,Option.getD_some,aQ,bK];rfl⟩
section
variable {h:Nat}{x:Nat}{s:Seat}{g:Goroutine}{a:Act}{k:List Item}
variable {P:Program}{main:Bool}{K K':World->Prop}{Still:Loc->Prop}{B:Nat}{s:Seat}
def AtIn.more (h:∀w,K' w->K w){g cO:Goroutine}(a:AtIn P main K Still B s g cO):AtIn P main K' Still B s g cO:=by obtain⟨a1,a2,a3,a4,a5,es,a6,a7⟩:=a;exact⟨a1,a2,a3,a4,a5,es,a6,λw hw=>a7 w (h w hw)⟩
def Way.more (h:∀w,K' w->K w):∀{n:Nat} {g:Goroutine},Way P main K Still B s n g->Way P main K' Still B s n g
 |0,_,⟨cO,a⟩=>⟨cO,AtIn.more h a⟩
 |n+1,g,a=>a.imp (λ⟨cO,x⟩=>⟨cO,AtIn.more h x⟩) λ⟨hr,x⟩=>⟨hr,λw hw=>by
  have:=x w (h w hw)
  cases hg:stepG P main g w<;>rw[hg]at this<;>first|exact this.elim|skip
  exact⟨this.1,this.2.1,Way.more h this.2.2⟩⟩
def dW.more (h:∀w,K' w->K w){n:Nat}{g:Goroutine}(a:dW P main K Still B s n g):dW P main K' Still B s n g:=by
 rcases a with⟨k,e,a⟩|⟨e,pB,cO,e2,a⟩
 ·exact .inl ⟨k,e,a.more h⟩
 ·exact .inr ⟨e,pB,cO,e2,AtIn.more h a⟩
end
variable {k:List Item}
structure VG (wg:Nat) (w0 w:World):Prop where
 os:w.os=w0.os
 tape:w.tape=w0.tape
 output:w.output=w0.output
 size:w.heap.size=w0.heap.size
 block:∀k,k≠wg->w.heap[k]? =w0.heap[k]?
abbrev yh:Payload:=⟨70⟩
abbrev Nq:Payload:=⟨121⟩
variable {cs:List Frame}
def ahs(t:Tk)(a:Act)(w0:World)(g:Goroutine)(w:World):Prop:=g=G (bT.at (a.put ((lM[0]?).bind (·.dst)) (.tuple #[])) [.inRegion lM []]) t.cs/\VG t.wg w0 w
def akJ{t:Tk}{b:Nat}(hb:t.Ok b)(x:Addr)(e:x.block=b):¬t.S (.cell x):=by
 rintro⟨y,e2,h⟩;obtain rfl:y=x:=by simpa using e2.symm
 rcases h with h|h
 ·rw[e]at h;exact hb.nj h
 ·rw[e]at h;exact hb.nw h
@[reducible] def vK(t:Tk)(a:Act)(w0:World)(b:Nat)(hb:t.Ok b)(hw:t.wg<w0.heap.size)(hB:t.Bd<=w0.heap.size):Shy t.wg b:=
 shyOf t.S w0.heap.size t.wg b (ahs t a w0) hw (Nat.lt_of_lt_of_le hb.lt hB) (akJ hb)
variable {g:Goroutine}{t:Tk}{a:Act}{w0:World}{vb:Value}
def aht(hc:t.Ok t.cb)(hw:t.wg<w0.heap.size)(hB:t.Bd<=w0.heap.size)(hb:w0.heap[t.cb]? =some (.cells #[vb] 70 (0,0))):
 letI:=yh;letI:=vK t a w0 t.cb hc hw hB
 ∀g w,Go.ConcX.Gen.AnchW7 pb (λw=>Aside2 t.cb t.wg w0 w) t.wg t.cb [vb] (bT.at a [.inRegion lM [0]]) t.cs g w->
 ∃m,Goes prog true (RPa 131 t.wg t.cb [vb]) (DPi (λ_=>True) t.wg t.cb w0.heap.size) (AtW1 prog 131 t.wg t.cb w0.heap.size [vb] (λ_=>True) (Go.ConcX.Gen.AnchW7 pb (λw=>Aside2 t.cb t.wg w0 w) t.wg t.cb [vb] (bT.at a [.inRegion lM [0]]) t.cs) λ_ _=>True) m g w:=by
 letI:=yh;letI:=vK t a w0 t.cb hc hw hB
 intro g w h;refine Go.ConcX.Gen.waitRound (P:=prog) (L:=pb) HD (Low:=w0.heap.size) (vals:=[vb]) (F:=λw=>Aside2 t.cb t.wg w0 w) (mT:=0) hc.nw (λw w' h1 h2=>h2.trans h1) (λw hf hg hfl=>?_) g w h;intro w₁ hr;obtain⟨d,rfl⟩:=hr;refine⟨rfl,rfl,hf.os,hf.tape,hf.output,hf.size,λk hk=>?_⟩;by_cases e:k=t.cb
 ·subst e;exact(hfl rfl).trans hb.symm
 ·exact hf.block k e hk
variable {h x:Nat}{s:Seat}
noncomputable def jn(t:Tk)(bc:Nat)(a:Act)(w0:World)(vb vd:Value)(hc:t.Ok t.cb)(hd:t.Ok t.db)(hu:t.ub<w0.heap.size)(h1:t.c1<w0.heap.size)(FO:t.cb≠t.db)(hw:t.wg<w0.heap.size)(h3:t.c3<w0.heap.size)(hB:t.Bd<=w0.heap.size)(pG:CW t.wg t.cw)(hb:w0.heap[t.cb]? =some (.cells #[vb] 70 (0,0))):Jn prog:=
 {ty:=131
  Wg:=t.wg
  C:=t.cb
  C':=t.db
  Low:=w0.heap.size
  B0:=t.Bd
  j:=t.j
  I:=yh
  I':=Nq
  Y:=vK t a w0 t.cb hc hw hB
  Y':=vK t a w0 t.db hd hw hB
  vals:=[vb]
  kZ:=[vd]
  S:=t.S
  uQ:= @Go.ConcX.Gen.AnchW7 yh pb (λw=>Aside2 t.cb t.wg w0 w) t.wg t.cb (vK t a w0 t.cb hc hw hB) [vb] (bT.at a [.inRegion lM [0]]) t.cs
  Z:=λw=>w.heap[t.ub]? =some (.cells #[.chan (some t.c2)] 120 (0,0))/\(∃k,w.heap[t.c3]? =some (.chan 0 #[] true k k false))/\Open t.c1 w
  s:=iW bc t.c1 t.c2 t.c3 t.cw
  kk:=1
  c3:=t.c3
  z:=.agg #[]
  hj:=t.hj
  hW:=hw
  hC:=Nat.lt_of_lt_of_le hc.lt hB
  wT:=Nat.lt_of_lt_of_le hd.lt hB
  wV:=hc.nw
  Jl:=hd.nw
  FC:=FO
  kL:=h3
  ok:=λ_ h=>h
  G1:=λ_ h=>h
  Jw:=λl ⟨x,e,h⟩=>⟨x,e,.inr h⟩
  Qa:=λg w ⟨T,e,_⟩=>by rw[e];rfl
  P9:=aht hc hw hB hb
  hZ:=λw w' h ⟨z1,⟨k,z2⟩,k',z3⟩=>⟨(h _ hu t.fX.2.2.2.1).trans z1,⟨k,(h _ h3 (Ne.symm t.GB.2.2)).trans z2⟩,k',(h _ h1 (Ne.symm t.GB.1)).trans z3⟩
  Qh:=λw ⟨z1,z2,z3⟩=>⟨z2,λm cc hm cP=>by
   rcases m with _|_|m
   ·simp[iW]at cP;subst cP
    exact⟨rfl,t.c1,rfl,z3⟩
   ·exact absurd rfl hm
   ·simp[iW]at cP⟩
  hk:=rfl
  serve:=λcO w hh hk h1 h2=>by
   have e:commResult (iW bc t.c1 t.c2 t.c3 t.cw).cases (iW bc t.c1 t.c2 t.c3 t.cw).shape ((1:Nat):Int) (.agg #[]) false=.tuple #[.int .i64 1,.bool false,.int .i64 0,.agg #[]]:=by simp[commResult,iW,rcase,goInt,Array.zipIdx,Array.filter]
   rw[e]
   exact⟨@Uh yh t.wg t.cb w0.heap.size (vK t a w0 t.cb hc hw hB) [vb] bc t.c1 t.c2 t.c3 t.cw hw (Nat.lt_of_lt_of_le hc.lt hB) hc.nw pG cO hh w ⟨hk,h1⟩,
    @Uh Nq t.wg t.db w0.heap.size (vK t a w0 t.db hd hw hB) [vd] bc t.c1 t.c2 t.c3 t.cw hw (Nat.lt_of_lt_of_le hd.lt hB) hd.nw pG cO hh w ⟨hk,h2⟩⟩}
end
end Go.Qw
