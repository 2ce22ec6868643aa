/- 14 -/
import Derived.Conc.DeferLaws
import Derived.Lib.ReflectliteSwap
import Derived.Test.YtpiabknabfbfhaaGreatDoorFramed13
set_option linter.all false
set_option maxRecDepth 100000
set_option maxHeartbeats 8000000
namespace Go.Qw
open Go Go.Conc Go.Proofs.Tryz
section
variable {h:Nat}{x:Nat}{s:Seat}{g:Goroutine}{U:Hp}{N:Nat}{ops:Array Oper}{b:Frame}{a:Act}{k:List Item}{cs:List Frame}{ds:List Deferred}{I:av}
variable {P:Program}(D:Duo P)
def Duo.dR (h x:Nat)(s:Seat)(g:Goroutine)(U:Hp)(S:Goroutine->Hp->Prop):Prop:=
 ∀m T,D.St h x s g U m T->∃N m' T' g' ae,runNT P N m T=(.next m',T')/\D.St h x s g' ae m' T'/\S g' ae
variable {D}{S:Goroutine->Hp->Prop}
def Duo.dR.here (k:S g U):D.dR h x s g U S:=λm T hm=>⟨0,m,T,g,U,rfl,hm,k⟩
def Duo.dR.step (t:D.gf h x)(hs:D.Fits s)(hr:g.status=.running){X:Goroutine->Hp->Prop}(hX:D.wO (h==0) g U X)(k:∀g' ae,X g' ae->D.dR h x s g' ae S):D.dR h x s g U S:=by intro m T hm;obtain⟨N,m',T',g',ae,h1,h2,_,h3⟩:=D.run t hs hm hr hX;obtain⟨N',pg,oD,Cr,fZ,k1,k2,k3⟩:=k g' ae h3 m' T' h2;exact⟨N+N',pg,oD,Cr,fZ,runNT_then h1 k1,k2,k3⟩
def Duo.wO.quiet {main:Bool}{X:Goroutine->Prop}(k:∀w,(∀b o,U.f b=some o->w.heap[b]? =some o)->∃g' d es,stepG P main g w=.go g' (w.at d) es/\g'.status=.running/\X g'/\∀e∈es,∃a:Addr,e=⟨.cell a,false,false⟩/\(U.f a.block).isSome=true):
 D.wO main g U λg' ae=>ae=U/\X g':=by
 intro J w hs hJ hK hc hf;obtain⟨g',d,es,h1,h2,h3,h4⟩:=k w λb o hb=>hs.heap hb;rw[h1];refine⟨U,J,hs.at d,hJ,D.CC w d hK,hc,hf.at d,Nat.le_refl _,λe he=>?_,h2,rfl,h3⟩;obtain⟨a,rfl,ha⟩:=h4 e he;obtain⟨o,ho⟩:=Option.isSome_iff_exists.1 ha;have hn:¬D.Hid a.block:=λhb=>hs.rU ho (hJ _ hb);refine⟨λb hb=>?_,⟨⟨ak,ak⟩,ak⟩,?_⟩
 ·simp[MemAct.ofEvent,MemAct.touch?]at hb;subst hb;exact⟨λhS=>absurd (.inr (.inr ⟨a,rfl,.inl hS⟩)) hn,λ_=>rfl,λhQ=>absurd (.inr (.inr ⟨a,rfl,.inr hQ⟩)) hn⟩
 ·simp[MemAct.ofEvent,MemAct.low];exact hs.lt ho
def Duo.dR.ctl {g':Goroutine}(t:D.gf h x)(hs:D.Fits s)(k:∀w,stepG P (h==0) g w=.go g' w)(hr:g.status=.running)(gC:g'.status=.running)(n:D.dR h x s g' U S):D.dR h x s g U S:=by refine Duo.dR.step t hs hr (Duo.wO.quiet (X:=λy=>y=g') λw _=>⟨g',w.drawn,#[],k w,gC,rfl,ak⟩) ?_;rintro _ _ ⟨rfl,rfl⟩;exact n
def Duo.dR.IU (t:D.gf h x)(hs:D.Fits s){id:Nat}(n:∀c,D.dR h x s (G (b.at a (.inRegion ops (Region.schedule (P.follows .mixedOrders) ops c)::k)) cs) U S):D.dR h x s (G (b.at a (.code (.region id ops true)::k)) cs) U S:=by
 refine Duo.dR.step t hs rfl (Duo.wO.quiet (X:=λy=>∃c,y=G (b.at a (.inRegion ops (Region.schedule (P.follows .mixedOrders) ops c)::k)) cs) λw _=>?_) ?_
 ·have:stepG P (h==0) (G (b.at a (.code (.region id ops true)::k)) cs) w=.go (G (b.at a (.inRegion ops (Region.schedule (P.follows .mixedOrders) ops (w.tape w.drawn (.order b.fn id)))::k)) cs) {w with drawn:=w.drawn+1}:=by simp[G,stepG,stepG.exec,Frame.at,choose,Sem.run,Question.forced,Question.cut]
  exact⟨_,w.drawn+1,#[],this,rfl,⟨_,rfl⟩,ak⟩
 ·rintro _ _ ⟨rfl,c,rfl⟩;exact n c
def Duo.dR.Uy (t:D.gf h x)(hs:D.Fits s)(hk:b.kind≠.early){F:Hp->Prop}(hF:F U){Ok:Addr->Prop}{Q:av->Prop}{rest:List Nat}(n:∀I a,cM N a I ds->Q I->D.dR h x s (G (b.at a (.inRegion ops rest::k)) cs) U S):
 ∀(p:List Nat) (I:av) (a:Act),dM P N ops F Ok Q p I->cM N a I ds->D.dR h x s (G (b.at a (.inRegion ops (p++rest)::k)) cs) U S:=by
 intro p
 induction p with
 |nil=>exactλI a h ha=>n I a ha h
 |cons i p ih=>
  intro I a hq ha;simp only[dM]at hq
  cases ho:ops[i]? with
  |none=>rw[ho]at hq;exact hq.elim
  |some o=>
   rw[ho]at hq;obtain⟨hd,hg,ji,fU,v,hv,hq⟩:=hq;refine Duo.dR.step t hs rfl (Duo.wO.quiet (X:=λy=>y=G (b.at (a.put o.dst v) (.inRegion ops (p++rest)::k)) cs) λw hw=>?_) ?_
   ·obtain⟨es,h1,h2⟩:=Mo (main:=(h==0)) (k:=k) (cs:=cs) (rest:=p++rest) ho hg ji (hv U hF) hk ha w hw;refine⟨_,w.drawn,es,h1,rfl,rfl,λe he=>?_⟩;obtain⟨y,hy,_,hz⟩:=h2 e he;exact⟨y,hy,hz⟩
   ·rintro _ _ ⟨rfl,rfl⟩;exact ih _ _ hq (ha.put hd v)
def Duo.dR.call (t:D.gf h x)(hs:D.Fits s){i:Nat}{rest:List Nat}{o:Oper}{f:FuncId}{xs:Array Operand}{cz:Array TypeId}(ho:ops[i]? =some o)(hg:o.guard=none)(hk:b.kind≠.early)
 (aR:o.op=.call {callee:=.value (.func f),args:=xs,argTypes:=cz}) (hgo:cq P f=true)
 (n:D.dR h x s (G (Frame.enter P f (xs.map a.eval) .normal) (b.at a (.inRegion ops (i::rest)::k)::cs)) U S):D.dR h x s (G (b.at a (.inRegion ops (i::rest)::k)) cs) U S:=by
 unfold cq at hgo
 cases rD:P.funcs[f]? with
 |none=>rw[rD]at hgo;cases hgo
 |some fn=>
 rw[rD]at hgo;simp only[Bool.and_eq_true,Bool.not_eq_true',beq_eq_false_iff_ne,ne_eq]at hgo;obtain⟨jx,ma⟩:=hgo
 have hr:∀w,(execOp a.eval o).run P w=.ok (.enter f (xs.map a.eval)) w:=by intro w;exact run_call_body aR rD (aV jx) ma
 have he:∀w,(execOp a.eval o).events P w #[]= #[]:=by intro w;exact events_call_body aR rD (aV jx) ma _
 refine Duo.dR.ctl t hs (λw=>?_) rfl rfl n;rw[stepG_enter ho (by simp[Region.wanted,hg]) hk (hr w),listed_none (he w)]
def Duo.dR.defer (t:D.gf h x)(hs:D.Fits s){i:Nat}{rest:List Nat}{o:Oper}{f:FuncId}{xs:Array Operand}{cz:Array TypeId}(ho:ops[i]? =some o)(hg:o.guard=none)(hk:b.kind≠.early)
 (aR:o.op=.defer {callee:=.value (.func f),args:=xs,argTypes:=cz})
 (n:D.dR h x s (G (b.at (Act.put ⟨a.tmps,dcall f (xs.map a.eval)::a.defers⟩ o.dst undef) (.inRegion ops rest::k)) cs) U S):D.dR h x s (G (b.at a (.inRegion ops (i::rest)::k)) cs) U S:=
 Duo.dR.ctl t hs (λw=>stepG_defer ho (by simp[Region.wanted,hg]) hk aR) rfl rfl n
def Duo.dR.store (t:D.gf h x)(hs:D.Fits s){i:Nat}{rest:List Nat}{o:Oper}{ty:TypeId}{y z:Operand}{bk off:Nat}{u v:Value}{c:Array Value}{et:TypeId}(ho:ops[i]? =some o)(hg:o.guard=none)(hk:b.kind≠.early)
 (aR:o.op=.store ty y z) (hy:a.eval y=.pointer (some ⟨bk,off,none⟩)) (hz:a.eval z=v) (hv:v.oneCell'=true) {ie:TypeInfo} (vC:P.info? ty=some ie) (h1:ie.size=1) (hb:U.f bk=some (.cells c et (0,0))) (hu:c[off]? =some u)
 (bt:¬D.Still (.cell ⟨bk,off,none⟩)) (hK:∀w,(∀b o,U.f b=some o->w.heap[b]? =some o)->D.K w->D.K (w.setCell ⟨bk,off,none⟩ v))
 (n:D.dR h x s (G (b.at (a.put o.dst undef) (.inRegion ops rest::k)) cs) (U.setCell ⟨bk,off,none⟩ v) S):D.dR h x s (G (b.at a (.inRegion ops (i::rest)::k)) cs) U S:=by
 refine Duo.dR.step t hs rfl (X:=λg' ae=>ae=U.setCell ⟨bk,off,none⟩ v/\g'=G (b.at (a.put o.dst undef) (.inRegion ops rest::k)) cs) ?_ ?_
 ·intro J w fE hJ hKw hc hf;have hw:=fE.heap hb;have j9:w.cell? ⟨bk,off,none⟩=some u:=by simp[World.cell?,hw,hu]
  have Q6:w.frozen? ⟨bk,off,none⟩=false:=by simp[World.frozen?,hw]
  have kg:=Go.Lib.cells_one (v:=v) hv
  have hr:(execOp a.eval o).run P w=.ok .skip (w.setCell ⟨bk,off,none⟩ v):=by unfold execOp;simp[aR,hy,hz,Instr.storeAt,Instr.sureAddr,storeVar,sizeOf,typeInfo,vC,h1,kg,storeCells,run_store P _ _ v _ hv,Addr.add_zero',j9,Q6,Result.andThen]
  have he:(execOp a.eval o).events P w #[]= #[⟨.cell ⟨bk,off,none⟩,true,false⟩]:=by unfold execOp;simp[aR,hy,hz,Instr.storeAt,Instr.sureAddr,storeVar,sizeOf,typeInfo,vC,h1,kg,storeCells,events_store P _ _ _ v _ hv,Addr.add_zero',j9,Q6]
  rw[stepG_none ho (by simp[Region.wanted,hg]) hk hr];have hn:¬D.Hid bk:=λhh=>fE.rU hb (hJ _ hh);have Ge:Kept J w (w.setCell ⟨bk,off,none⟩ v):=Kept.modify fE hb (yy ⟨bk,off,none⟩ v);refine⟨U.setCell ⟨bk,off,none⟩ v,J,fE.modify hb (yy ⟨bk,off,none⟩ v),hJ,hK w (λb o hb=>fE.heap hb) hKw,λc' cF=>?_,hf.kept Ge,Ge.tI,λe ki=>?_,rfl,rfl,rfl⟩
  ·obtain⟨k0,Kg⟩:=hc c' cF;exact⟨k0,by rw[Ge.hidden c' (hJ c' (.inr (.inl cF)))];exact Kg⟩
  ·have:=mem_listed ki;rw[he]at this;simp at this;subst this;refine⟨λb' cD=>?_,⟨⟨ak,ak⟩,ak⟩,?_⟩
   ·simp[MemAct.ofEvent,MemAct.touch?]at cD;subst cD;exact⟨λhS=>absurd (.inr (.inr ⟨_,rfl,.inl hS⟩)) hn,λhS=>absurd hS bt,λhQ=>absurd (.inr (.inr ⟨_,rfl,.inr hQ⟩)) hn⟩
   ·simp[MemAct.ofEvent,MemAct.low]
    first|exact fE.lt hb|exact Nat.lt_of_lt_of_le (fE.lt hb) Ge.tI
 ·rintro _ _ ⟨rfl,rfl⟩;exact n
end
section
open Go.Proofs
open Go.ConcX (OfWg)
variable {I:av}{P:Program}{N:Nat}{ops:Array Oper}{F:Hp->Prop}{U:Hp}
def aqq{E:Env P}{Ok:Addr->Prop}{Q:Post}{pn:List PanicEntry->List Deferred->Hp->Prop}{ds:List Deferred}(kx:F U)(gq:∀(i:Nat) (o:Oper),ops[i]? =some o->cW o.op=true):
 ∀(p:List Nat) (cK:List (Nat×av×Value)) (I:av),dM P N ops F Ok (λI=>Q .normal I ds U) p I->fN E N ops Q pn p cK I ds U:=by
 intro p
 induction p with
 |nil=>exactλ_ _ h=>h
 |cons i p ih=>
  intro cK I h;simp only[dM]at h
  cases ho:ops[i]? with
  |none=>rw[ho]at h;exact h.elim
  |some o=>
   rw[ho]at h;obtain⟨h1,h2,h3,h4,v,h5,h6⟩:=h;simp only[fN,ho];refine⟨h1,?_⟩;rw[if_pos (gq i o ho),if_pos (by simp[Region.wanted,h2]),h5 U kx];exact ih _ _ h6
variable {Q:av->Prop}
def aoc:∀(p:List Nat) (I:av),wF P N ops U Q p I->dM P N ops (λκ=>κ=U) (λ_=>True) Q p I:=by
 intro p
 induction p with
 |nil=>exactλ_ h=>h
 |cons i p ih=>
  intro I h;simp only[wF]at h;simp only[dM]
  cases ho:ops[i]? with
  |none=>rw[ho]at h;exact h.elim
  |some o=>
   rw[ho]at h;obtain⟨h1,h2,h3,v,h4,h5⟩:=h;exact⟨h1,h2,h3,λ_ _=>trivial,v,λκ e=>by rw[e];exact h4,ih _ h5⟩
def aod{Q':av->Prop}(hq:∀I,Q I->Q' I):∀(p:List Nat) (I:av),wF P N ops U Q p I->wF P N ops U Q' p I:=by
 intro p
 induction p with
 |nil=>exactλI h=>hq I h
 |cons i p ih=>
  intro I h;simp only[wF]at h|-
  cases ho:ops[i]? with
  |none=>rw[ho]at h;exact h.elim
  |some o=>
   rw[ho]at h;obtain⟨h1,h2,h3,v,h4,h5⟩:=h;exact⟨h1,h2,h3,v,h4,ih _ h5⟩
variable {h:Nat}
def akf(P:Program):Env P:={main:=true,st:=λ_ _ _ _=>False,iD:=λh _=>h,own:=λ_ _ _ _ _ h=>h.elim}
def aof{Ok:Addr->Prop}{m:Nat}{l:List Nat}(kx:F U)(hm:P.follows .mixedOrders=true)(hc:su (gF ops m) l=true)(he:endsIn ops m=true)(hl:∃p,l=p++[m])(gq:∀(i:Nat) (o:Oper),(gF ops m)[i]? =some o->cW o.op=true)(hk:∀(i:Nat) (o:Oper),i≠m->ops[i]? =some o->A7 o.op=true/\D2 P o.op=true/\o.guard=none)(hd:pr N (fQ ops m)=true)(hg:((ops[m]?).bind (·.guard))=none)(hs:(ops[m]?).isSome=true)(h:∀p,l=p++[m]->dM P N (gF ops m) F Ok Q p I)(t:Nat):
 ∃p,Region.schedule (P.follows .mixedOrders) ops t=p++[m]/\dM P N ops (λκ=>κ=U) (λ_=>True) (λI=>∃aC,Q aC/\aA aC (fQ ops m) undef=aA I (fQ ops m) undef) p I:=by
 obtain⟨p0,rfl⟩:=hl;obtain⟨p,Gq,sM⟩:=anQ hm he t;refine⟨p,Gq,?_⟩;obtain⟨o,ho⟩:=Option.isSome_iff_exists.1 hs;have Rt:(gF ops m)[m]? =some {o with op:=.move (.const undef)}:=by simp[gF,Array.getElem?_modify,ho]
 have QZ:o.dst=fQ ops m:=by simp[fQ,ho]
 have F9:o.guard=none:=by rw[ho]at hg;exact hg
 have key:∀(p:List Nat) (I:av),dM P N (gF ops m) F Ok Q p I->dM P N (gF ops m) F Ok (λI=>∃aC,Q aC/\I=aA aC (fQ ops m) undef) (p++[m]) I:=by
  intro p
  induction p with
  |nil=>
   intro I h0;simp only[List.nil_append,dM,Rt];exact⟨by rw[QZ];exact hd,F9,trivial,λy hy=>hy.elim,undef,λκ _=>by simp[cT,ai],I,h0,by rw[QZ]⟩
  |cons i p ih=>
   intro I h0;simp only[List.cons_append,dM]at h0|-
   cases hi:(gF ops m)[i]? with
   |none=>rw[hi]at h0;exact h0.elim
   |some oi=>
    rw[hi]at h0;obtain⟨h1,h2,h3,h4,v,h5,h6⟩:=h0;exact⟨h1,h2,h3,h4,v,h5,ih _ h6⟩
 have hD:=aqq (E:=akf P) (Q:=jX λI ds R=>∃aC,Q aC/\I=aA aC (fQ ops m) undef) (pn:=λ_ _ _=>False) (ds:=[]) kx gq (p0++[m]) [] I (key p0 I (h p0 rfl));have hO:=Pd hc hm (λ_ _ _ _ h=>h.elim) hD t;rw[ajx hm,Gq]at hO;have hI:=aoe p sM hk I hO;refine aoc p I ?_;refine aod (λI hq=>?_) p I hI;obtain⟨aC,h1,h2⟩:=hq;exact⟨aC,h1,h2.symm⟩
noncomputable def wM:Code:=f56.body.getD .skip
noncomputable def d56:Array Oper:=bK (bM wM)
noncomputable def kL:Array Oper:=bK (aO wM)
def mE:Frame:=baseD 56
noncomputable def bot:Frame:={(default:Frame)with fn:=prog.funcs.size,defers:=[],mode:=.panicking [goexitEntry]}
def Vx:wM=.seq (.region 0 d56 false) (.region 1 kL true):=ah
def aaC:∃ps af cz ty,d56[0]? =some {dst:=none,op:=.defer {callee:=.value (.func 57),args:=#[.tmp 0],argTypes:=cz},type:=ty,pos:=ps,after:=af,guard:=none}:=⟨_,_,_,_,by simp only[d56,wM,f56,Option.getD_some,bM,bK];rfl⟩
def Tn:∃ps af cz ty,kL[7]? =some {dst:=some 13,op:=.call {callee:=.value (.func 58),args:=#[.tmp 8,.tmp 9,.tmp 10,.tmp 11,.tmp 12],argTypes:=cz},type:=ty,pos:=ps,after:=af,guard:=none}:=⟨_,_,_,_,by simp only[kL,wM,f56,Option.getD_some,aO,bK];rfl⟩
def alo:∃ps af,p0[8]? =some {dst:=none,op:=.store 9 (.tmp 18) (.tmp 16),type:=0,pos:=ps,after:=af,guard:=none}:=⟨_,_,by simp only[p0,pC,f58,Option.getD_some,bM,bK];rfl⟩
def abf:endsIn kL 7=true:=ah
def ZN:su (gF kL 7) [0,1,2,3,4,5,6,7]=true:=ah
def oG(wg cb kb sb ub db:Nat):Array Value:=#[pV wg,pV cb,pV kb,pV sb,pV ub,pV db]
def call56(wg cb kb sb ub db:Nat):Deferred:={target:=.fn (.func 56) (oG wg cb kb sb ub db),args:=#[]}
def Yp(wg cb kb sb ub db:Nat)(w:World):stepG prog false (born prog (call56 wg cb kb sb ub db)) w=
 .go (G (mE.at ⟨oG wg cb kb sb ub db++Array.replicate (14-(oG wg cb kb sb ub db).size) undef,[]⟩ [.code wM]) [bot]) w #[]:=by
 simp[born,call56,oG,stepG,unwind,callDeferred,invoke,callFunc,func56,f56,seen,GStep.after,G,Frame.enter,Frame.at,mE,baseD,bot,wM]
namespace Tk
variable {h:Nat}{b:Frame}{a:Act}{k:List Item}
variable (t:Tk)
structure Ok (b:Nat):Prop where
 n1:b≠t.c1
 n2:b≠t.c2
 n3:b≠t.c3
 nw:b≠t.wg
 nu:b≠t.ub
 nj:¬t.Jh b
 lt:b<t.Bd
def K1 (bc:Nat)(l:List Value)(w:World):Prop:=
 t.K0 w/\w.heap[t.cb]? =some (.cells #[pV bc] 70 (0,0))/\w.heap[t.sb]? =some (.cells #[.chan (some t.c1)] 119 (0,0))/\∃r,w.heap[bc]? =some (.cells (l.set 3 r).toArray 90 (0,0))
def S1 (bc:Nat)(l:Loc):Prop:=l=.cell ⟨t.ub,0,none⟩\/∃a,l=.cell a/\Rd t.cb t.sb bc a
variable {t}
def Ok.chan {b:Nat}(h:t.Ok b){c:Nat}(hc:t.chans c):b≠c:=by rcases hc with rfl|rfl|rfl;exact h.n1;exact h.n2;exact h.n3
def TZ {bc:Nat}(hc:t.Ok t.cb)(hs:t.Ok t.sb)(hb:t.Ok bc){a:Addr}(h:Rd t.cb t.sb bc a):t.Ok a.block:=by
 rcases h with rfl|rfl|rfl|rfl
 ·exact hc
 ·exact hs
 ·exact hb
 ·exact hb
def B1 (t:Tk)(HK:Nat->Prop)(bc:Nat)(l:List Value)(hc:t.Ok t.cb)(hs:t.Ok t.sb)(hb:t.Ok bc):Duo prog:={t.A with
 K:=t.K1 bc l
 KW:=t.K1 bc l
 CB:=λw h=>h
 HK:=HK
 Still:=t.S1 bc
 CC:=λw d h=>h
 Jy:=by
  rintro w c k cR ⟨h1,h2,h3,r,h4⟩
  exact⟨KZ cR h1,(heap_setChan_ne w _ _ _ _ _ _ (Ne.symm (hc.chan cR)).symm.symm).trans h2,(heap_setChan_ne w _ _ _ _ _ _ (Ne.symm (hs.chan cR))).trans h3,r,(heap_setChan_ne w _ _ _ _ _ _ (Ne.symm (hb.chan cR))).trans h4⟩
 cell:=by rintro l (⟨a,rfl,_⟩|(rfl|⟨a,rfl,_⟩)|⟨a,rfl,_⟩)<;>exact⟨_,rfl⟩
 apart:=by
  obtain⟨a1,a2,a3,a4,a5,a6⟩:=t.fX
  rintro l (rfl|⟨a,rfl,hr⟩)
  ·refine⟨?_,?_⟩
   ·rintro⟨a,e,h⟩
    obtain rfl:a=⟨t.ub,0,none⟩:=by simpa using e.symm
    rcases h with h|h
    ·exact a5 h
    ·exact a4 h
   ·rintro⟨a,e,h⟩
    obtain rfl:a=⟨t.ub,0,none⟩:=by simpa using e.symm
    exact a4 h
  ·have ho:=TZ hc hs hb hr
   refine⟨?_,?_⟩
   ·rintro⟨a',e,h⟩
    obtain rfl:a'=a:=by simpa using e.symm
    rcases h with h|h
    ·exact ho.nj h
    ·exact ho.nw h
   ·rintro⟨a',e,h⟩
    obtain rfl:a'=a:=by simpa using e.symm
    exact ho.nw h}
def abR {HK:Nat->Prop}{bc:Nat}{l:List Value}{hc:t.Ok t.cb}{hs:t.Ok t.sb}{hb:t.Ok bc}(fr:Int):(t.B1 HK bc l hc hs hb).Fits (t.sS fr):=by intro cc h;simp only[Ev,List.mem_toArray,List.mem_cons,List.not_mem_nil,or_false]at h;subst h;exact⟨t.c1,.inl rfl,rfl⟩
end Tk
variable {s:Seat}{b:Frame}{k:List Item}
structure Bw (t:Tk) (bc kb:Nat) (l:List Value) (ch:List UInt8) (U:Hp):Prop where
 c:U.f t.cb=some (.cells #[pV bc] 70 (0,0))
 k:U.f kb=some (.cells #[.string (B ch)] 9 (0,0))
 s:U.f t.sb=some (.cells #[.chan (some t.c1)] 119 (0,0))
 u:U.f t.ub=some (.cells #[.chan (some t.c2)] 120 (0,0))
 d:U.f t.db=some (.cells #[.chan (some t.c3)] 121 (0,0))
 b:U.f bc=some (.cells l.toArray 90 (0,0))
variable {a:Act}
def CW(wg:Nat)(cw:List Frame):Prop:=∃a,a.defers=[dcall 57 #[pV wg]]/\a.tmps.size=14/\cw=[mE.at a [.inRegion kL [7]],bot]
structure Na (t:Tk) (bc:Nat) (ch:List UInt8) (I:av):Prop where
 a:I 8=.pointer (some ⟨bc,3,none⟩)
 k:I 9=.string (B ch)
 s:I 10=.chan (some t.c1)
 u:I 11=.chan (some t.c2)
 d:I 12=.chan (some t.c3)
variable {t:Tk}{bc kb:Nat}{l:List Value}{ch:List UInt8}
def an7(h1:I 1=pV t.cb)(h2:I 2=pV kb)(h3:I 3=pV t.sb)(h4:I 4=pV t.ub)(h5:I 5=pV t.db):
 dM prog 14 (gF kL 7) (Bw t bc kb l ch) (λ_=>True) (Na t bc ch) [0,1,2,3,4,5,6] I:=by
 have hm:gF kL 7= #[]\/True:=.inr trivial;simp only[kL,wM,f56,Option.getD_some,aO,bK];refine py (a:=⟨t.cb,0,none⟩) (v:=pV bc) rfl an (by simp[ai,h1]) ah ah trivial (λκ h=>oH h.c rfl) ?_;refine uP (a:=⟨bc,0,none⟩) rfl an (by simp[ai,up]) ?_;refine uO (a:=⟨bc,0,none⟩) (off:=3) rfl an (by simp[ai,up]) ah ?_;refine py (a:=⟨kb,0,none⟩) (v:=.string (B ch)) rfl an (by simp[ai,up,h2]) ah ah trivial (λκ h=>oH h.k rfl) ?_;refine py (a:=⟨t.sb,0,none⟩) (v:=.chan (some t.c1)) rfl an (by simp[ai,up,h3]) ah ah trivial (λκ h=>oH h.s rfl) ?_;refine py (a:=⟨t.ub,0,none⟩) (v:=.chan (some t.c2)) rfl an (by simp[ai,up,h4]) ah ah trivial (λκ h=>oH h.u rfl) ?_;refine py (a:=⟨t.db,0,none⟩) (v:=.chan (some t.c3)) rfl an (by simp[ai,up,h5]) ah ah trivial (λκ h=>oH h.d rfl) ?_;exact⟨by simp[up,Addr.add],by simp[up],by simp[up],by simp[up],by simp[up]⟩
variable {x:Nat}
structure Vu (t:Tk) (bc:Nat) (x:List UInt8) (I:av):Prop where
 w:Fw bc t.c1 t.c2 t.c3 I
 v:I 16=.string (B x)
 p:I 18=.pointer (some ⟨bc,3,none⟩)
def an8{rest:List UInt8}(hF:Fw bc t.c1 t.c2 t.c3 I)(h1:I 1=.string (B ch))(hl:l[3]? =some (.string (B rest)))(hn:rest.length+ch.length<=9223372036854775807):
 dM prog 30 p0 (Bw t bc kb l ch) (λ_=>True) (Vu t bc (rest++ch)) [0,1,2,3,4,5,6,7] I:=by
 simp only[p0,pC,f58,Option.getD_some,bM,bK];refine Ho rfl an ?_;refine uP (a:=⟨bc,3,none⟩) rfl an (by simp[ai,up,hF.c]) ?_;refine uO (a:=⟨bc,3,none⟩) (off:=0) rfl an (by simp[ai,up]) ah ?_;refine py (a:=⟨bc,3,none⟩) (v:=.string (B rest)) rfl an (by simp[ai,up,Addr.add]) ah ah trivial (λκ h=>oH h.b (aV hl)) ?_;refine Ho rfl an ?_;refine Ez (v:=.string (B (rest++ch))) rfl an (by simp[ai,up,h1,Ou,qo,hn]) ?_;refine uP (a:=⟨bc,3,none⟩) rfl an (by simp[ai,up,hF.c]) ?_;refine uO (a:=⟨bc,3,none⟩) (off:=0) rfl an (by simp[ai,up]) ah ?_;refine⟨?_,by simp[up],by simp[up,Addr.add]⟩;exact(((((((hF.up an _).up an _).up an _).up an _).up an _).up an _).up an _).up an _
section
variable {h:Nat}{s:Seat}{g:Goroutine}{U:Hp}{N:Nat}{ops:Array Oper}{b:Frame}{a:Act}{k:List Item}{ds:List Deferred}{I:av}
variable {t:Tk}{HK:Nat->Prop}{bc kb:Nat}{l:List Value}{ch rest:List UInt8}{hc:t.Ok t.cb}{hs:t.Ok t.sb}{hb:t.Ok bc}{U:Hp}{fr:Int}
def NI {p:Oper->Bool}{ops:Array Oper}(h:ops.all p=true){i:Nat}{o:Oper}(ho:ops[i]? =some o):p o=true:=by rw[Array.all_eq_true]at h;obtain⟨hi,rfl⟩:=Array.getElem?_eq_some_iff.1 ho;exact h i hi
def amU:(gF kL 7).all (λo=>cW o.op)=true:=ah
def ah0:(gF kL 7).all (λo=>A7 o.op&&D2 prog o.op&&o.guard.isNone)=true:=ah
def agP:∃ie,prog.info? 9=some ie/\ie.size=1:=by have:(prog.info? 9).map (·.size)=some 1:=ah;exact Option.map_eq_some_iff.1 this
def Ew (w:World){a:Addr}{b:Nat}(v:Value)(h:b≠a.block):(w.setCell a v).heap[b]? =w.heap[b]? :=by simp only[World.setCell,Array.getElem?_modify,if_neg (Ne.symm h)]
def Xs:f58.body=some pC:=ah
def XL (hW:Bw t bc kb l ch U)(hl:l[3]? =some (.string (B rest)))(hn:rest.length+ch.length<=9223372036854775807):
 (t.B1 HK bc l hc hs hb).dR t.j 0 (t.sS fr) (born prog (call56 t.wg t.cb kb t.sb t.ub t.db)) U λg R=>R=U.setCell ⟨bc,3,none⟩ (.string (B (rest++ch)))/\∃cw I a,CW t.wg cw/\cM 30 a I []/\Fw bc t.c1 t.c2 t.c3 I/\g=G (gA.at a (.code kO:: .inLoop kO:: .inBlock 0::[])) cw:=by
 have tj:(t.B1 HK bc l hc hs hb).gf t.j 0:=.inr ⟨rfl,rfl⟩;have hf:=Tk.abR (t:=t) (HK:=HK) (hc:=hc) (hs:=hs) (hb:=hb) (l:=l) fr;have Dc:(t.j==0)=false:=by have:=t.hj;simp;omega
 have hm:prog.follows .mixedOrders=true:=ah;refine Duo.dR.ctl tj hf (λw=>by rw[Dc];exact Yp _ _ _ _ _ _ w) rfl rfl ?_;have tO:=sr (oG t.wg t.cb kb t.sb t.ub t.db) 14 (by simp[oG]);generalize sQ:nG (oG t.wg t.cb kb t.sb t.ub t.db) 14=mz at tO;have q0:mz 0=pV t.wg:=by rw[<-sQ];rfl
 have q1:mz 1=pV t.cb:=by rw[<-sQ];rfl
 have q2:mz 2=pV kb:=by rw[<-sQ];rfl
 have q3:mz 3=pV t.sb:=by rw[<-sQ];rfl
 have q4:mz 4=pV t.ub:=by rw[<-sQ];rfl
 have q5:mz 5=pV t.db:=by rw[<-sQ];rfl
 clear sQ;generalize(⟨oG t.wg t.cb kb t.sb t.ub t.db++_,[]⟩:Act)=a0 at tO|-;rw[Vx];refine Duo.dR.ctl tj hf (λw=>stepG_seq) rfl rfl ?_;refine Duo.dR.ctl tj hf (λw=>stepG_region) rfl rfl ?_;have hr:List.range d56.size=[0]:=ah;rw[hr];obtain⟨ps,af,cz,ty,ho⟩:=aaC;refine Duo.dR.defer tj hf ho rfl (by simp[mE,baseD]) rfl ?_;have e0:a0.eval (.tmp 0)=pV t.wg:=by rw[tO.eval];exact q0
 have sI:a0.defers=[]:=tO.defers
 have de:cM 14 (Act.put ⟨a0.tmps,dcall 57 (#[Operand.tmp 0].map a0.eval)::a0.defers⟩ none undef) mz [dcall 57 #[pV t.wg]]:=by have:=tO.defer (dcall 57 #[pV t.wg]);rw[sI]at*;simpa[Act.put,e0]using this
 generalize Act.put ⟨a0.tmps,dcall 57 (#[Operand.tmp 0].map a0.eval)::a0.defers⟩ none undef=a1 at de|-;refine Duo.dR.ctl tj hf (λw=>stepG_region_end) rfl rfl ?_;refine Duo.dR.IU tj hf λc=>?_;obtain⟨ps,af,cz,ty,ho⟩:=Tn;have AI:fQ kL 7=some 13:=by simp[fQ,ho]
 obtain⟨p,hp,afX⟩:=aof (P:=prog) (N:=14) (ops:=kL) (m:=7) (l:=[0,1,2,3,4,5,6,7]) (F:=Bw t bc kb l ch) (Ok:=λ_=>True) (Q:=Na t bc ch) (I:=mz) hW hm ZN abf ⟨[0,1,2,3,4,5,6],rfl⟩
  (λi o h=>NI amU h) (λi o hi h=>by
   have:=NI ah0 ((GY hi).trans h)
   simp only[Bool.and_eq_true,Option.isNone_iff_eq_none]at this
   exact⟨this.1.1,this.1.2,this.2⟩) (by rw[AI];rfl) (by rw[ho];rfl) (by rw[ho];rfl) (λp hp=>by
   obtain rfl:p=[0,1,2,3,4,5,6]:=by
    have:=congrArg List.dropLast hp
    simpa using this.symm
   exact an7 q1 q2 q3 q4 q5) c
 rw[hp];refine Duo.dR.Uy tj hf (N:=14) (ds:=[dcall 57 #[pV t.wg]]) (by simp[mE,baseD]) (F:=λκ=>κ=U) rfl (Ok:=λ_=>True) (rest:=[7]) (λI a ha hq=>?_) p mz a1 afX de;obtain⟨aC,hA,afL⟩:=hq
 have heq:∀i,i≠13->I i=aC i:=λi hi=>by have:=congrFun afL i;simp only[AI,aA,up,if_neg hi]at this;exact this.symm
 have k8:I 8=_:=(heq 8 an).trans hA.a;have k9:I 9=_:=(heq 9 an).trans hA.k;have vR:I 10=_:=(heq 10 an).trans hA.s;have vS:I 11=_:=(heq 11 an).trans hA.u;have k12:I 12=_:=(heq 12 an).trans hA.d;refine Duo.dR.call tj hf ho rfl (by simp[mE,baseD]) rfl ac6 ?_
 have JR:(#[Operand.tmp 8,.tmp 9,.tmp 10,.tmp 11,.tmp 12]).map a.eval= #[.pointer (some ⟨bc,3,none⟩),.string (B ch),.chan (some t.c1),.chan (some t.c2),.chan (some t.c3)]:=by rw[ha.eval];simp[ai,k8,k9,vR,vS,k12]
 rw[JR,enter_at _ func58 Xs,Vy];have Dn:f58.ntmps=30:=rfl;rw[Dn];have gp:=sr #[.pointer (some ⟨bc,3,none⟩),.string (B ch),.chan (some t.c1),.chan (some t.c2),.chan (some t.c3)] 30 ak;generalize KQ:nG _ 30=lW at gp;have mJ:Fw bc t.c1 t.c2 t.c3 lW:=by rw[<-KQ];exact⟨rfl,rfl,rfl,rfl⟩
 have r1:lW 1=.string (B ch):=by rw[<-KQ];rfl
 clear KQ;generalize(⟨_++Array.replicate (30-_) undef,[]⟩:Act)=a2 at gp|-;have pP:CW t.wg (mE.at a [.inRegion kL [7]]::[bot]):=⟨a,ha.defers,ha.size,rfl⟩;generalize(mE.at a [.inRegion kL [7]]::[bot])=cw at pP|-;change Duo.dR _ _ _ _ (G (gA.at a2 [.code (.seq (.region 0 p0 false) (.block 0 (.loop kO)))]) cw) _ _;refine Duo.dR.ctl tj hf (λw=>stepG_seq) rfl rfl ?_;refine Duo.dR.ctl tj hf (λw=>stepG_region) rfl rfl ?_;have bX:List.range p0.size=[0,1,2,3,4,5,6,7]++[8]:=ah;rw[bX];refine Duo.dR.Uy tj hf (N:=30) (ds:=[]) (by simp[gA]) (F:=Bw t bc kb l ch) hW (Ok:=λ_=>True) (rest:=[8]) (λI a ha hA=>?_) [0,1,2,3,4,5,6,7] lW a2 (an8 mJ r1 hl hn) gp;obtain⟨ps,af,ho⟩:=alo;obtain⟨ie,vC,aeY⟩:=agP;refine Duo.dR.store tj hf ho rfl (by simp[gA]) (ty:=9) (y:=.tmp 18) (z:=.tmp 16) (bk:=bc) (off:=3) (v:=.string (B (rest++ch))) (c:=l.toArray) (et:=90) (u:=.string (B rest)) rfl (by rw[ha.eval];exact hA.p) (by rw[ha.eval];exact hA.v) rfl vC aeY hW.b (aV hl) ?_ ?_ ?_
 ·rintro(h|⟨a,h,h'|h'|h'|h'⟩)
  ·simp at h
  all_goals(subst h';simp at h)
 ·rintro w hw ⟨⟨g1,g2⟩,g3,g4,r,g5⟩;have n1:t.cb≠bc:=λe=>by rw[e]at g3;rw[g3]at g5;simp at g5
  have n2:t.sb≠bc:=λe=>by rw[e]at g4;rw[g4]at g5;simp at g5
  refine⟨⟨(Ew w _ (Ne.symm hb.nu)).trans g1,(Ew w _ (Ne.symm hb.nw)).trans g2⟩,(Ew w _ n1).trans g3,(Ew w _ n2).trans g4,.string (B (rest++ch)),?_⟩;simp only[World.setCell,Array.getElem?_modify,if_true,g5,Option.map_some];simp
 refine Duo.dR.ctl tj hf (λw=>stepG_region_end) rfl rfl ?_;refine Duo.dR.ctl tj hf (λw=>stepG_block) rfl rfl ?_;refine Duo.dR.ctl tj hf (λw=>stepG_loop) rfl rfl ?_;exact Duo.dR.here ⟨rfl,cw,I,_,pP,ha.put (dst:=none) rfl undef,hA.w,rfl⟩
end
variable {hc:t.Ok t.cb}{hs:t.Ok t.sb}{hb:t.Ok bc}
def Tk.aeX{g:Goroutine}{m:Machine}{T:Trace}(hu:U.f t.ub=none)(mL:(t.B1 (λb=>b=t.wg) bc l hc hs hb).St h x s g U m T):(t.B1 t.HK bc l hc hs hb).St h x s g U m T:=by
 obtain⟨gs,w,sl,q,J,n,y,rfl,e1,e2,e3,e4,e5,e6,e7⟩:=mL;refine⟨gs,w,sl,q,λb=>J b\/b=t.ub,n,y,rfl,e1,e2,e3,⟨e4.kZ,e4.gK,e4.above,e4.d0,e4.dj,e4.k,e4.chans,e4.mF,e4.rp,e4.nr⟩,e5,⟨e6.heap,λb hb=>?_,λb hb=>?_⟩,λb hb=>?_⟩
 ·rcases hb with hb|rfl
  ·exact e6.gV b hb
  ·exact hu
 ·rcases hb with hb|rfl
  ·exact e6.low b hb
  ·have:w.heap[t.ub]? =some _:=e4.k.1.1;exact(Array.getElem?_eq_some_iff.1 this).1
 ·rcases hb with(rfl|rfl)|hb|hb
  ·exact .inr rfl
  ·exact .inl (e7 _ (.inl rfl))
  ·exact .inl (e7 _ (.inr (.inl hb)))
  ·exact .inl (e7 _ (.inr (.inr hb)))
def Tk.ajQ:(t.B1 t.HK bc l hc hs hb).Next t.D:=⟨rfl,rfl,rfl,rfl,rfl,rfl,λ_ h=>h.1,λ_ h=>h⟩
section
variable {h:Nat}{U:Hp}{N:Nat}{b:Frame}{a:Act}{cs:List Frame}{I:av}
variable (F:FS){t:Tk}{φ:Hp}{kb:Nat}{l:List Value}{ch:List UInt8}{hc:t.Ok t.cb}{hs:t.Ok t.sb}{hb:t.Ok F.bc}
def abM {a:F.γ}{kD U:Hp}{m:Machine}{T:Trace}(fU:F.ou a ch)(hI:F.atz a kD)(hd:kD.dp φ)(mO:Bx F t.cb t.sb t.db t.c1 t.c3 φ)(fX:(kD.bB φ).f t.ub=none)(hp:F.ph a≠5)(hle:(kD.bB φ).le U)(hW:Bw t F.bc kb l ch U)(hn:ch.length<=4611686018427387904)
 (hl:l[3]? =some (.string (B (F.rest a)))) (mg:Cn F.bg (F.ph a) (F.fr a) l) (R0:kD.f F.bc=some (.cells l.toArray 90 (0,0)))
 (mL:(t.B1 (λb=>b=t.wg) F.bc l hc hs hb).St t.j 0 (t.sS (F.fr a)) (born prog (call56 t.wg t.cb kb t.sb t.ub t.db)) U m T):
 ∃N m' T' a' ae g' cw,runNT prog N m T=(.next m',T')/\F.Loop (F.add a ch) a'/\F.atz a' ae/\ae.dp φ/\CW t.wg cw/\yf t.cb t.sb t.ub t.db t.wg t.cs g'/\t.A.St 0 t.j (iW F.bc t.c1 t.c2 t.c3 cw) g' (ae.bB φ) m' T':=by
 have zd:=F.small hI;have tj:(t.B1 (λb=>b=t.wg) F.bc l hc hs hb).gf t.j 0:=.inr ⟨rfl,rfl⟩;obtain⟨N1,m1,T1,g1,R,r1,lr,rfl,cw,I,ac,pP,ha,hFw,rfl⟩:=XL (t:=t) (HK:=λb=>b=t.wg) (hc:=hc) (hs:=hs) (hb:=hb) (fr:=F.fr a) hW hl aa m T mL;have Qh:=F.grow ch fU hI R0;obtain⟨dg,rM⟩:∃dg,dg=kD.set F.bc (.cells (l.set 3 (.string (B (F.rest a++ch)))).toArray 90 (0,0)):=⟨_,rfl⟩;rw[<-rM]at Qh
 have hd1:dg.dp φ:=by rw[rM];exact IP hd (Pa hd R0)
 have kr:(dg.bB φ).le (U.setCell ⟨F.bc,3,none⟩ (.string (B (F.rest a++ch)))):=by
  intro b o cD;rw[rM,<-Hn]at cD;by_cases e:b=F.bc
  ·subst e;simp only[Hp.set,if_true,Option.some.injEq]at cD;subst cD;simp[Hp.setCell,Hp.modify,hW.b,yy]
  ·simp only[Hp.set,if_neg e]at cD;simp only[Hp.setCell,Hp.modify,if_neg e];exact hle b o cD
 have age:(dg.bB φ).f t.ub=none:=by rw[rM,<-Hn];have:t.ub≠F.bc:=λe=>hb.nu e.symm;simpa[Hp.set,this]using fX
 obtain⟨gs,w,sl,q,J,n0,y,rfl,e1,e2,e3,e4,e5,e6,e7⟩:=lr;have zH:(t.B1 t.HK F.bc l hc hs hb).St t.j 0 (t.sS (F.fr a)) _ (dg.bB φ) (crowd gs w sl) T1:=Tk.aeX age ⟨gs,w,sl,q,J,n0,y,rfl,e1,e2,e3,e4,e5,e6.iD kr,e7⟩;clear e1 e2 e3 e4 e5 e6 e7;obtain⟨ck,w',bG,q',J',n',y',em,e1,e2,e3,e4,e5,e6,e7⟩:=zH;obtain⟨t',Gy⟩:∃t':Tk,t'={t with cw:=cw}:=⟨_,rfl⟩;have Dc:(t.j==0)=false:=by have:=t.hj;simp;omega
 have fW:(t.B1 t.HK F.bc l hc hs hb).Fits (iW F.bc t.c1 t.c2 t.c3 cw):=by
  intro cc h;simp only[iW,List.mem_toArray,List.mem_cons,List.not_mem_nil,or_false]at h;rcases h with rfl|rfl
  ·exact⟨t.c1,.inl rfl,rfl⟩
  ·exact⟨t.c3,.inr (.inr rfl),rfl⟩
 have hh:=U9 (main:=t.j==0) (K:=(t.B1 t.HK F.bc l hc hs hb).KW) (Still:=(t.B1 t.HK F.bc l hc hs hb).Still) (Bd:=(t.B1 t.HK F.bc l hc hs hb).B) (c1:=t.c1) (c2:=t.c2) (c3:=t.c3) (cw:=cw) ha hFw;have t0j:(t.B1 t.HK F.bc l hc hs hb).gf 0 t.j:=.inl ⟨rfl,rfl⟩
 obtain⟨N2,m2,T2,r2,Lx⟩:=(t.B1 t.HK F.bc l hc hs hb).meet (a:=0) (b:=t.j) t0j (sa:=t.sS (F.fr a)) (sb:=iW F.bc t.c1 t.c2 t.c3 cw) (c:=t.c1) (kk:=0) (v:=.int .i64 (F.fr a)) (.inl rfl) rfl rfl fW (by rfl) (λm cc hm cR=>by
  rcases m with _|_|m
  ·exact absurd rfl hm
  ·simp[iW]at cR;subst cR
   simp only[rcase,ne_eq,Value.chan.injEq,Option.some.injEq]
   exactλe=>t.d13 e.symm
  ·simp[iW]at cR) (λcc cR=>by
  simp only[iW,List.mem_toArray,List.mem_cons,List.not_mem_nil,or_false]at cR
  rcases cR with rfl|rfl<;>rfl) (.inr ⟨rfl,rfl⟩) (sl:=bG) e2 e1 e3 (.inl ⟨_,rfl,hh⟩) e4 e5 e6 e7 (.inr aa)
 obtain⟨gb,C4,qZ⟩:=Lx.stay Tk.ajQ (λl h=>.inl h) (λga h=>t.Q1 h);have e:commResult (iW F.bc t.c1 t.c2 t.c3 cw).cases (iW F.bc t.c1 t.c2 t.c3 cw).shape ((0:Nat):Int) (.int .i64 (F.fr a)) true=.tuple #[.int .i64 0,.bool true,.int .i64 (F.fr a),.agg #[]]:=Tk.Uj {t with cw:=cw} (F.fr a) F.bc
 rw[e,<-F.PN a ch]at qZ;obtain⟨N3,m3,T3,a',ae,g',r3,iq,Ax,CZ,hT3,BE⟩:=apw F {t with cw:=cw} mO _ (F.add a ch) dg m2 T2 gb (Nat.lt_succ_self _) (by rw[F.TG];exact hp) Qh hd1 C4 qZ;rw[em]at r1;exact⟨_,m3,T3,a',ae,g',cw,runNT_then (runNT_then r1 r2) r3,iq,Ax,CZ,pP,hT3,BE⟩
end
end
section
open Go.Proofs
open Go.ConcX (OfWg)
open Go.ConcX
section
variable {h:Nat}{x:Nat}{g:Goroutine}{N:Nat}{ops:Array Oper}{b:Frame}{a:Act}{k:List Item}{cs:List Frame}{ds:List Deferred}{I:av}
variable {P:Program}{main:Bool}{atA:World->World->Prop}{D:World->World->Array Event->Prop}{Stop:Goroutine->World->Prop}{Kn:World->Prop}
def qz (bt:∀w w',atA w w'->Kn w->Kn w')(hD:∀w,D w w #[]){g g':Goroutine}{n:Nat}(hr:g.status=.running)(h:∀w,stepG P main g w=.go g' w #[])(k:∀w,Kn w->Goes P main atA D Stop n g' w):∀w,Kn w->Goes P main atA D Stop (n+1) g w:=
 λw hw=>Goes.step hr λw₁ anD=>by rw[h w₁];exact⟨hD w₁,k w₁ (bt _ _ anD hw)⟩
def adg (bt:∀w w',atA w w'->Kn w->Kn w')(hD:∀w,D w w #[]){N n:Nat}{ops:Array Oper}{b:Frame}{k:List Item}{cs:List Frame}(hk:b.kind≠.early){ds:List Deferred}{Q:av->Prop}{rest:List Nat}{Ok:Addr->Prop}
 (hn:∀I a,cM N a I ds->Q I->∀w,Kn w->Goes P main atA D Stop n (G (b.at a (.inRegion ops rest::k)) cs) w):
 ∀(p:List Nat) (I:av) (a:Act),dM P N ops (λκ=>κ=⟨λ_=>none⟩) Ok Q p I->cM N a I ds->∀w,Kn w->Goes P main atA D Stop (n+p.length) (G (b.at a (.inRegion ops (p++rest)::k)) cs) w:=by
 intro p
 induction p with
 |nil=>exactλI a h ha=>hn I a ha h
 |cons i p ih=>
  intro I a h ha;simp only[dM]at h
  cases ho:ops[i]? with
  |none=>rw[ho]at h;exact h.elim
  |some o=>
   rw[ho]at h;obtain⟨hd,hg,hs,_,v,hv,h⟩:=h;rw[List.length_cons,<-Nat.add_assoc];refine qz bt hD (g':=G (b.at (a.put o.dst v) (.inRegion ops (p++rest)::k)) cs) rfl (λw=>?_) (ih _ _ h (ha.put hd v));obtain⟨es,h1,h2⟩:=Mo (main:=main) (κ:=⟨λ_=>none⟩) (k:=k) (cs:=cs) (rest:=p++rest) ho hg hs (hv _ rfl) hk ha w (λb o hb=>by cases hb)
   have:es= #[]:=by
    rw[Array.eq_empty_iff_forall_not_mem];intro e he;obtain⟨x,_,_,hx⟩:=h2 e he
    cases hx
   rw[List.cons_append,h1,this]
end
section
variable {h:Nat}{N:Nat}{a:Act}{cs:List Frame}{ds:List Deferred}{I:av}
variable [Payload]{Wg C Low:Nat}[Shy Wg C]{vals:List Value}{bc c1 c2 c3:Nat}{cw:List Frame}
def aaH (w:World):DCs (λ_=>True) Wg C w w #[]:=⟨⟨rfl,rfl,rfl,rfl,λ_ _=>rfl⟩,ak⟩
def amD {a:Act}(ha:a.defers=[]):QuitsD prog 2 0 (G {mE.at a []with mode:=.returning} [bot]):=by
 refine QuitsD.ctl (g':=G bot []) rfl (λw=>?_) ?_
 ·simp[G,stepG,unwind,doReturn,results,Frame.at,mE,baseD,bot,func56,f56,seen,GStep.after,goexitEntry,ha]
 refine QuitsD.ctl (g':={G bot []with status:=.finished}) rfl (λw=>?_) ⟨rfl,rfl⟩;simp[G,stepG,unwind,bot,goexitEntry,Frame.catches];rfl
def Uo (hW:Wg<Low)(hC:C<Low)(xa:C≠Wg)(pP:CW Wg cw){cQ:Goroutine}(hg:E7 bc c1 c2 c3 cw cQ){w:World}(hK:KCa 131 Wg w/\Full C vals w):
 ∃n,Goes prog false (RCa 131 Wg Low) (DCs (λ_=>True) Wg C) (AtR0 prog 131 Wg C Low vals) n (Go.Conc.served cQ (.tuple #[.int .i64 1,.bool false,.int .i64 0,.agg #[]])) w:=by
 obtain⟨I,ac,ha,hF,rfl⟩:=hg;obtain⟨a6,hd6,hs6,rfl⟩:=pP;obtain⟨ps,af,ho⟩:=L8;have bt:∀w w',RCa 131 Wg Low w w'->KCa 131 Wg w/\Full C vals w->KCa 131 Wg w'/\Full C vals w':=λw w' r h=>Go.ConcX.Gen.ka_rely (L:=pz) hC xa h r;have hD:=aaH (Wg:=Wg) (C:=C)
 have e:Go.Conc.served (G (gA.at ac (.inRegion q3 [0,1,2,3]:: .code (.block 2 lX)::kw)) [mE.at a6 [.inRegion kL [7]],bot]) (.tuple #[.int .i64 1,.bool false,.int .i64 0,.agg #[]])=
  G (gA.at (ac.put (some 21) (.tuple #[.int .i64 1,.bool false,.int .i64 0,.agg #[]])) (.inRegion q3 ([1,2,3]++[]):: .code (.block 2 lX)::kw)) [mE.at a6 [.inRegion kL [7]],bot]:=by
  have:=Frame.finish_at gA ac q3 0 [1,2,3] (.code (.block 2 lX)::kw) (.tuple #[.int .i64 1,.bool false,.int .i64 0,.agg #[]]);rw[ho]at this;simp only[Go.Conc.served,G,this];rfl
 rw[e];have de:cM 30 _ _ []:=ha.put (dst:=some 21) an (.tuple #[.int .i64 1,.bool false,.int .i64 0,.agg #[]])
 suffices key:∃n,∀w,KCa 131 Wg w/\Full C vals w->Goes prog false (RCa 131 Wg Low) (DCs (λ_=>True) Wg C) (AtR0 prog 131 Wg C Low vals) n (G (gA.at (ac.put (some 21) (.tuple #[.int .i64 1,.bool false,.int .i64 0,.agg #[]])) (.inRegion q3 ([1,2,3]++[]):: .code (.block 2 lX)::kw)) [mE.at a6 [.inRegion kL [7]],bot]) w by obtain⟨n,hn⟩:=key;exact⟨n,hn w hK⟩
 refine⟨32+[1,2,3].length,?_⟩;refine adg (n:=32) (N:=30) (ds:=[]) bt hD (by simp[gA]) (Ok:=λ_=>True) (Q:=λI=>I 23=.bool false/\I 24=.bool true) (λI a ha h=>?_) [1,2,3] _ _ ?_ de
 rotate_left
 ·simp only[q3,pd,kO,pC,f58,Option.getD_some,aO,bM,dO,bK,aA];refine aob (vs:=#[.int .i64 1,.bool false,.int .i64 0,.agg #[]]) (v:=.int .i64 1) rfl an (by simp[ai,up]) rfl ?_;refine Ez (v:=.bool false) rfl an (by simp[ai,up,cL]) ?_;refine Ez (v:=.bool true) rfl an (by simp[ai,up,cL]) ?_;exact⟨by simp[up],by simp[up]⟩
 obtain⟨Jp,h24⟩:=h;refine qz bt hD rfl (λw=>stepG_region_end) ?_;refine qz bt hD rfl (λw=>stepG_block) ?_;rw[Oz];refine qz bt hD rfl (λw=>stepG_cond (t:=false) (by rw[ha.eval];exact Jp)) ?_;refine qz bt hD rfl (λw=>stepG_cond (t:=true) (by rw[ha.eval];exact h24)) ?_;refine qz bt hD rfl (λw=>stepG_ret') ?_;refine qz bt hD rfl (λw=>stepG_leave (v:=.tuple #[]) rfl ha.defers func58 (by simp[results,f58]) (by simp[results,f58])) ?_;obtain⟨ps,af,cz,ty,ho7⟩:=Tn
 have e7:(mE.at a6 [.inRegion kL [7]]).finish (.tuple #[])=mE.at (a6.put (some 13) (.tuple #[])) [.inRegion kL []]:=by have:=Frame.finish_at mE a6 kL 7 [] [] (.tuple #[]);rw[ho7]at this;exact this
 rw[e7];refine qz bt hD rfl (λw=>stepG_region_end) ?_;refine qz bt hD rfl (λw=>stepG_end) ?_;have AI:(a6.put (some 13) (.tuple #[])).defers=[dcall 57 #[pV Wg]]:=hd6;refine qz bt hD rfl (λw=>stepG_unwind_enter (ds:=[]) (f:=57) (args:=#[pV Wg]) (fn:=f57) (c:=f57.body.getD .skip) AI func57 ah ah) ?_;intro w hw;have:=Go.ConcX.Gen.doneD (P:=prog) (L:=pz) HF (Mine:=λ_=>True) (Wg:=Wg) (C:=C) (Low:=Low) (vals:=vals) hW hC xa (c:={mE.at ⟨(a6.put (some 13) (.tuple #[])).tmps,[]⟩ []with mode:=.returning}) (cs:=[bot]) (qt:=2) rfl (amD rfl) w hw;exact this
end
noncomputable def uC:Array Oper:=bK (bM ra)
noncomputable def lT:Array Oper:=bK (aO ra)
def apr:ra=.seq (.region 11 uC false) (.region 12 lT false):=ah
def akF:∃ps af,uC[0]? =some {dst:=some 50,op:=.load 121 (.tmp 6),type:=121,pos:=ps,after:=af,guard:=none}:=⟨_,_,by simp only[uC,ra,iA,jb,f40,Option.getD_some,aO,bM,bK];rfl⟩
def akG:∃ps af cz ty,uC[1]? =some {dst:=none,op:=.call {callee:=.builtin .close,args:=#[.tmp 50],argTypes:=cz},type:=ty,pos:=ps,after:=af,guard:=none}:=⟨_,_,_,_,by simp only[uC,ra,iA,jb,f40,Option.getD_some,aO,bM,bK];rfl⟩
def LV:∃ps af cz ty,lT[0]? =some {dst:=some 51,op:=.call {callee:=.value (.func 60),args:=#[.tmp 7],argTypes:=cz},type:=ty,pos:=ps,after:=af,guard:=none}:=⟨_,_,_,_,by simp only[lT,ra,iA,jb,f40,Option.getD_some,aO,bK];rfl⟩
section
variable {h:Nat}{x:Nat}{s:Seat}{g:Goroutine}{a:Act}{k:List Item}
variable {P:Program}{main:Bool}{K K':World->Prop}{Still:Loc->Prop}{B:Nat}{s:Seat}
def AtIn.more (h:∀w,K' w->K w){g cQ:Goroutine}(a:AtIn P main K Still B s g cQ):AtIn P main K' Still B s g cQ:=by obtain⟨a1,a2,a3,a4,a5,es,a6,a7⟩:=a;exact⟨a1,a2,a3,a4,a5,es,a6,λw hw=>a7 w (h w hw)⟩
def Way.more (h:∀w,K' w->K w):∀{n:Nat} {g:Goroutine},Way P main K Still B s n g->Way P main K' Still B s n g
 |0,_,⟨cQ,a⟩=>⟨cQ,AtIn.more h a⟩
 |n+1,g,a=>a.imp (λ⟨cQ,x⟩=>⟨cQ,AtIn.more h x⟩) λ⟨hr,x⟩=>⟨hr,λw hw=>by
  have:=x w (h w hw)
  cases hg:stepG P main g w<;>rw[hg]at this<;>first|exact this.elim|skip
  exact⟨this.1,this.2.1,Way.more h this.2.2⟩⟩
def dY.more (h:∀w,K' w->K w){n:Nat}{g:Goroutine}(a:dY P main K Still B s n g):dY P main K' Still B s n g:=by
 rcases a with⟨k,e,a⟩|⟨e,pL,cQ,e2,a⟩
 ·exact .inl ⟨k,e,a.more h⟩
 ·exact .inr ⟨e,pL,cQ,e2,AtIn.more h a⟩
end
variable {k:List Item}
structure VL (wg:Nat) (w0 w:World):Prop where
 os:w.os=w0.os
 tape:w.tape=w0.tape
 output:w.output=w0.output
 size:w.heap.size=w0.heap.size
 block:∀k,k≠wg->w.heap[k]? =w0.heap[k]?
abbrev yl:Payload:=⟨70⟩
abbrev Nu:Payload:=⟨121⟩
variable {cs:List Frame}
def ahM(t:Tk)(a:Act)(w0:World)(g:Goroutine)(w:World):Prop:=g=G (bT.at (a.put ((lT[0]?).bind (·.dst)) (.tuple #[])) [.inRegion lT []]) t.cs/\VL t.wg w0 w
def ak2{t:Tk}{b:Nat}(hb:t.Ok b)(x:Addr)(e:x.block=b):¬t.S (.cell x):=by
 rintro⟨y,e2,h⟩;obtain rfl:y=x:=by simpa using e2.symm
 rcases h with h|h
 ·rw[e]at h;exact hb.nj h
 ·rw[e]at h;exact hb.nw h
@[reducible] def vQ(t:Tk)(a:Act)(w0:World)(b:Nat)(hb:t.Ok b)(hw:t.wg<w0.heap.size)(hB:t.Bd<=w0.heap.size):Shy t.wg b:=
 shyOf t.S w0.heap.size t.wg b (ahM t a w0) hw (Nat.lt_of_lt_of_le hb.lt hB) (ak2 hb)
variable {g:Goroutine}{t:Tk}{a:Act}{w0:World}{vb:Value}
def ahN(hc:t.Ok t.cb)(hw:t.wg<w0.heap.size)(hB:t.Bd<=w0.heap.size)(hb:w0.heap[t.cb]? =some (.cells #[vb] 70 (0,0))):
 letI:=yl;letI:=vQ t a w0 t.cb hc hw hB
 ∀g w,Go.ConcX.Gen.AnchW7 pz (λw=>Aside2 t.cb t.wg w0 w) t.wg t.cb [vb] (bT.at a [.inRegion lT [0]]) t.cs g w->
 ∃m,Goes prog true (RPa 131 t.wg t.cb [vb]) (DPi (λ_=>True) t.wg t.cb w0.heap.size) (AtW1 prog 131 t.wg t.cb w0.heap.size [vb] (λ_=>True) (Go.ConcX.Gen.AnchW7 pz (λw=>Aside2 t.cb t.wg w0 w) t.wg t.cb [vb] (bT.at a [.inRegion lT [0]]) t.cs) λ_ _=>True) m g w:=by
 letI:=yl;letI:=vQ t a w0 t.cb hc hw hB
 intro g w h;refine Go.ConcX.Gen.waitRound (P:=prog) (L:=pz) HF (Low:=w0.heap.size) (vals:=[vb]) (F:=λw=>Aside2 t.cb t.wg w0 w) (mT:=0) hc.nw (λw w' h1 h2=>h2.trans h1) (λw hf hg hfl=>?_) g w h;intro w₁ hr;obtain⟨d,rfl⟩:=hr;refine⟨rfl,rfl,hf.os,hf.tape,hf.output,hf.size,λk hk=>?_⟩;by_cases e:k=t.cb
 ·subst e;exact(hfl rfl).trans hb.symm
 ·exact hf.block k e hk
variable {h x:Nat}{s:Seat}
noncomputable def jn(t:Tk)(bc:Nat)(a:Act)(w0:World)(vb vd:Value)(hc:t.Ok t.cb)(hd:t.Ok t.db)(hu:t.ub<w0.heap.size)(h1:t.c1<w0.heap.size)(FQ:t.cb≠t.db)(hw:t.wg<w0.heap.size)(h3:t.c3<w0.heap.size)(hB:t.Bd<=w0.heap.size)(pP:CW t.wg t.cw)(hb:w0.heap[t.cb]? =some (.cells #[vb] 70 (0,0))):Jn prog:=
 {ty:=131
  Wg:=t.wg
  C:=t.cb
  C':=t.db
  Low:=w0.heap.size
  B0:=t.Bd
  j:=t.j
  atz:=yl
  I':=Nu
  Y:=vQ t a w0 t.cb hc hw hB
  Y':=vQ t a w0 t.db hd hw hB
  vals:=[vb]
  lD:=[vd]
  S:=t.S
  uX:= @Go.ConcX.Gen.AnchW7 yl pz (λw=>Aside2 t.cb t.wg w0 w) t.wg t.cb (vQ t a w0 t.cb hc hw hB) [vb] (bT.at a [.inRegion lT [0]]) t.cs
  Z:=λw=>w.heap[t.ub]? =some (.cells #[.chan (some t.c2)] 120 (0,0))/\(∃k,w.heap[t.c3]? =some (.chan 0 #[] true k k false))/\Open t.c1 w
  s:=iW bc t.c1 t.c2 t.c3 t.cw
  kk:=1
  c3:=t.c3
  z:=.agg #[]
  hj:=t.hj
  hW:=hw
  hC:=Nat.lt_of_lt_of_le hc.lt hB
  w7:=Nat.lt_of_lt_of_le hd.lt hB
  xa:=hc.nw
  Jv:=hd.nw
  FG:=FQ
  kT:=h3
  ok:=λ_ h=>h
  G4:=λ_ h=>h
  JG:=λl ⟨x,e,h⟩=>⟨x,e,.inr h⟩
  Qf:=λg w ⟨T,e,_⟩=>by rw[e];rfl
  Qe:=ahN hc hw hB hb
  hZ:=λw w' h ⟨z1,⟨k,z2⟩,k',z3⟩=>⟨(h _ hu t.fX.2.2.2.1).trans z1,⟨k,(h _ h3 (Ne.symm t.GF.2.2)).trans z2⟩,k',(h _ h1 (Ne.symm t.GF.1)).trans z3⟩
  Qn:=λw ⟨z1,z2,z3⟩=>⟨z2,λm cc hm cR=>by
   rcases m with _|_|m
   ·simp[iW]at cR;subst cR
    exact⟨rfl,t.c1,rfl,z3⟩
   ·exact absurd rfl hm
   ·simp[iW]at cR⟩
  hk:=rfl
  serve:=λcQ w hh hk h1 h2=>by
   have e:commResult (iW bc t.c1 t.c2 t.c3 t.cw).cases (iW bc t.c1 t.c2 t.c3 t.cw).shape ((1:Nat):Int) (.agg #[]) false=.tuple #[.int .i64 1,.bool false,.int .i64 0,.agg #[]]:=by simp[commResult,iW,rcase,goInt,Array.zipIdx,Array.filter]
   rw[e]
   exact⟨@Uo yl t.wg t.cb w0.heap.size (vQ t a w0 t.cb hc hw hB) [vb] bc t.c1 t.c2 t.c3 t.cw hw (Nat.lt_of_lt_of_le hc.lt hB) hc.nw pP cQ hh w ⟨hk,h1⟩,
    @Uo Nu t.wg t.db w0.heap.size (vQ t a w0 t.db hd hw hB) [vd] bc t.c1 t.c2 t.c3 t.cw hw (Nat.lt_of_lt_of_le hd.lt hB) hd.nw pP cQ hh w ⟨hk,h2⟩⟩}
end
end Go.Qw
