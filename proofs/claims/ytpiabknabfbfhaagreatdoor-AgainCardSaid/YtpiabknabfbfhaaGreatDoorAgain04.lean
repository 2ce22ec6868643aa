/- 4 -/
import Derived.Conc.FxEnd
import Derived.Conc.FxBegin
import Derived.Test.YtpiabknabfbfhaaGreatDoorProg
import Derived.Conc.FxGenWait
import Derived.Conc.FxGenDone
import Derived.Conc.FxGenLone
import Derived.KernelRfl
import Derived.AtR
import Derived.Test.YtpiabknabfbfhaaGreatDoorAgain03
set_option linter.all false
set_option maxRecDepth 100000
set_option maxHeartbeats 8000000
namespace Go.Qw
open Go Go.Proofs.Tryz
section
open Go.Conc
open Go.ConcN (sumTo upd sumTo_upd upd_ne upd_same)
def cR.setChan {au2:Nat->Prop}{w:World}{U:Hp}(h:cR au2 w U){c:Nat}(hc:au2 c)(cap:Nat)(buf:Array Value)(cl:Bool)(s r:Nat)(tm:Bool):cR au2 (w.setChan c cap buf cl s r tm) U:=by refine⟨λ{b o} hb=>?_,h.fP,λb hj=>by simpa[World.setChan]using h.low b hj⟩;have:c≠b:=λe=>h.sB hb (e▸hc);rw[heap_setChan_ne w _ _ _ _ _ _ this];exact h.heap hb
def TX(h j:Nat)(fh:FuncId)(ph:String)(fj:FuncId)(pj:String)(c k cap:Nat):∀op∈met h j fh ph fj pj c k cap,∀a,op.act≠.mark (.release a):=by intro op aS a;simp only[met,List.mem_toArray,List.mem_cons,List.not_mem_nil,or_false]at aS;rcases aS with rfl|rfl|rfl|rfl<;>simp
def lQ.setChan{W w:World}(h:lQ W w)(c cap:Nat)(buf:Array Value)(cl:Bool)(s r:Nat)(tm:Bool):lQ W (w.setChan c cap buf cl s r tm):=⟨h.os,h.tape,h.output⟩
variable {P:Program}{D:Duo P}
def Duo.Base.V6{gs cg:Array Goroutine}{w:World}{T u:Trace}{q:Nat->Nat}(b:D.Base gs w T q){c k k':Nat}{cl:Bool}(hc:D.chans c)(hk:w.heap[c]? =some (.chan 0 #[] cl k k false))(hs:cg.size=gs.size)(ho:∀i,0<i->i≠D.j->cg[i]? =gs[i]?)(hd:∀i,Deaf (T++u) i=Deaf T i)(hn:∀op∈u,∀a,op.act≠.mark (.release a)):D.Base cg (w.setChan c 0 #[] false k' k' false) (T++u) q:=by
 refine⟨by rw[hs];exact b.lE,λi x h1 h2 hx=>?_,λi hi=>?_,(hd 0).trans b.d0,(hd _).trans b.dj,?_,λc' cF=>?_,by simpa[World.setChan]using b.ng,b.rN.setChan _ _ _ _ _ _ _,b.nr.app hn⟩
 ·rw[ho i h1 h2]at hx;rw[hd];exact b.gU i x h1 h2 hx
 ·rw[hs]at hi;rw[hd];exact b.above i hi
 ·exact D.Kr w c k' hc b.k
 ·by_cases e:c=c'
  ·subst e;exact⟨k',heap_setChan_self w hk _ _ _ _ _ _⟩
  ·obtain⟨k0,h0⟩:=b.chans c' cF;exact⟨k0,by rw[heap_setChan_ne w _ _ _ _ _ _ e];exact h0⟩
def Duo.yP(D:Duo P)(a b h x:Nat)(sa sb:Seat)(c kk:Nat)(v:Value)(U:Hp)(m:Machine)(T':Trace):Prop:=
 ∃cg w' bE q' ga gb J' k fh ph fj pj T1,m=crowd cg w' bE/\cg[a]? =some (Go.Conc.served ga undef)/\sa.home ga/\cg[b]? =some (Go.Conc.served gb (commResult sb.cases sb.shape kk v true))/\sb.home gb/\D.Base cg w' T' q'/\cR J' w' U/\(∀y,D.Hid y->J' y)/\
  c<w'.heap.size/\T'=T1++met a b fh ph fj pj c k 0/\dO D.S D.Still D.Q D.j x w'.heap.size (Knows T1 h) T1/\Deaf T1 a=0/\Deaf T1 b=0
variable {P:Program}
theorem Duo.meet (D:Duo P){a b:Nat}(t:D.gC a b){sa sb:Seat}{c kk:Nat}{v zs z:Value}(hc:D.chans c)(LA:sa.cases= #[scase c v zs])(xX:sa.shape=.send)(GO:D.Fits sb)(hk:sb.cases[kk]? =some (rcase c z))
 (hu:∀(m:Nat) (cc:CommCase),m≠kk->sb.cases[m]? =some cc->cc.chan≠.chan (some c)) (ik:∀cc∈sb.cases,cc.send=none) {h x:Nat} (t':(h=a/\x=b)\/(h=b/\x=a))
 {gs:Array Goroutine} {w:World} {sl:Option (Nat×Nat)} {q:Nat->Nat} {au2:Nat->Prop} {na nb:Nat} {ya yb:Goroutine} {U:Hp} {T:Trace} (oB:gs[a]? =some ya) (pq:gs[b]? =some yb) (sm:eE P (a==0) D.KW D.Still D.B sa na ya) (sn:eE P (b==0) D.KW D.Still D.B sb nb yb)
 (hb:D.Base gs w T q) (hp:dO D.S D.Still D.Q D.j x w.heap.size (Knows T h) T) (fU:cR au2 w U) (hJ:∀y,D.Hid y->au2 y) (hn:0<na\/0<nb):
 ∃N m' T',runNT P N (crowd gs w sl) T=(.next m',T')/\D.yP a b h x sa sb c kk v U m' T':=by
 have KY:D.Fits sa:=by intro cc cT;rw[LA]at cT;simp only[List.mem_toArray,List.mem_cons,List.not_mem_nil,or_false]at cT;subst cT;exact⟨c,hc,rfl⟩
 let Inv:Nat->Machine->Trace->Prop:=λμ m T=>(∃gs w sl q au2 na nb ya yb,m=crowd gs w sl/\gs[a]? =some ya/\gs[b]? =some yb/\eE P (a==0) D.KW D.Still D.B sa na ya/\eE P (b==0) D.KW D.Still D.B sb nb yb/\D.Base gs w T q/\
  dO D.S D.Still D.Q D.j x w.heap.size (Knows T h) T/\cR au2 w U/\(∀y,D.Hid y->au2 y)/\(0<na\/0<nb)/\μ=na+nb+sumTo gs.size q+1)\/D.yP a b h x sa sb c kk v U m T
 suffices step:∀μ m T,Inv μ m T->D.yP a b h x sa sb c kk v U m T\/∃m' ops vC,stepT P m=(.next m',ops)/\vC<μ/\Inv vC m' (T++ops)by
  exact runs_until step _ _ _ (.inl ⟨gs,w,sl,q,au2,na,nb,ya,yb,rfl,oB,pq,sm,sn,hb,hp,fU,hJ,hn,rfl⟩)
 clear hn hJ fU hp hb sn sm pq oB T ya yb na nb au2 q sl w gs;have hx:x=a\/x=b:=t'.elim (λe=>.inr e.2) (λe=>.inl e.2);have hh:h=a\/h=b:=t'.elim (λe=>.inl e.1) (λe=>.inr e.1)
 have quiet:∀{p n:Nat} {T:Trace} {fn:FuncId} {pos:String} {es:Array Event},(p=a\/p=b)->dO D.S D.Still D.Q D.j x n (Knows T h) T->D.B<=n->(∀e∈es,EvC D.Still D.B e)->
  dO D.S D.Still D.Q D.j x n (Knows (T++MemOp.ofEvents p fn pos es) h) (T++MemOp.ofEvents p fn pos es):=by
  intro p n T fn pos es hp H hB eV;by_cases e:p=x
  ·subst e;exact H.other (λ_ z=>z.app _) (λl hl=>(D.apart l hl).2) hB eV
  ·have e':p=h:=by
    rcases t' with⟨rfl,rfl⟩|⟨rfl,rfl⟩
    ·exact hp.resolve_right e
    ·exact hp.resolve_left e
   subst e';obtain⟨h1,h2,h3,_⟩:=evC_ops (i:=p) (fn:=fn) (pos:=pos) eV
   exact H.appH h1 (λop aS b hb=>by
    obtain⟨b1,b2⟩:=h2 op aS b hb
    exact⟨λy=>absurd y (D.apart _ b2).1,λ_=>b1,λy=>absurd y (D.apart _ b2).2⟩) (λop aS=>MemAct.low_mono hB (h3 op aS))
 rintro μ m T (⟨gs,w,sl,q,au2,na,nb,ya,yb,rfl,oB,pq,sm,sn,hb,hp,fU,hJ,hn,rfl⟩|KS)
 case inr=>exact .inl KS
 right;have LB:=eE.status sm;have uO:=eE.status sn
 have kD:∃(i:Nat) (g:Goroutine),gs[i]? =some g/\g.status=.running:=by
  rcases hn with hn|hn
  ·exact⟨a,ya,oB,LB.elim (·.1) (λz=>aa)⟩
  ·exact⟨b,yb,pq,uO.elim (·.1) (λz=>aa)⟩
 obtain⟨i,z',d,bE,hi,hz,bw⟩:=crowd_pick (P:=P) (w:=w) (sl:=sl) (hb.awake t oB pq (LB.elim (λa=>.inl a.1) (λa=>.inr (.inl a.1))) (uO.elim (λa=>.inl a.1) (λa=>.inr (.inl a.1)))) kD;have mD:=hb.at d;by_cases ea:i=a
 ·
  subst ea;obtain rfl:z'=ya:=by rw[oB]at hi;exact(Option.some.inj hi).symm
  rcases uO with⟨wG,wE⟩|⟨eQ,rfl⟩
  ·
   obtain⟨cg,y',n',d',es,eY,bl,gQ,fD,uQ,rf,dJ,eV⟩:=D.other t.symm KY (sl:=bE) mD pq (λd=>again_of_running (.inl wG) _) (λc b=>offersAt_of_not_blocked (by rw[wG];simp) c b) oB hz sm;exact⟨_,_,n'+nb+sumTo gs.size q+1,bw.trans eY,aa,.inl ⟨cg,w.at d',bE,q,au2,n',nb,y',yb,rfl,uQ,fD,rf,sn,dJ,quiet (.inl rfl) hp hb.ng eV,fU.at d',hJ,.inr wE,by rw[gQ]⟩⟩
  ·rcases eE.pick sm hz (D.Dg _ mD.k)with⟨cS,es,k,rfl,qQ,eV,l7⟩|⟨n',y',d',es,bl,nM,eV,l7,rf⟩
   ·
    obtain⟨pX,gb,rfl,afq⟩:∃pX gb,yb=parked gb sb.cases sb.shape/\AtIn P (b==0) D.KW D.Still D.B sb pX gb:=by
     rcases sn with⟨k',h0,_⟩|⟨_,pX,gb,e,h0⟩
     ·omega
     ·exact⟨pX,gb,e,h0⟩
    obtain⟨kc,qX⟩:=mD.chans c hc;rw[LA,xX]at l7
    have Lt:partners (gs.setIfInBounds i ph) c false=[(b,kk)]:=by rw[VI mD t.symm pq,offersAt_parked_at hk hu];rfl
    have hm:=crowd_send_meets_sel (P:=P) (sl:=bE) oB l7 qX t.ne.symm pq hk Lt;refine⟨_,_,0,bw.trans hm,aa,.inr ⟨_,_,bE,q,cS,gb,au2,kc,cS.frame.fn,cS.frame.place,gb.frame.fn,gb.frame.place,T++MemOp.ofEvents i z'.frame.fn z'.frame.place es,rfl,?_,qQ.2.2.2.2.1,?_,afq.2.2.2.2.1,?_,(fU.at d).setChan (hJ c (.inr (.inl hc))) _ _ _ _ _ _,hJ,?_,by simp[met],?_,?_,?_⟩⟩
    ·rw[Array.getElem?_setIfInBounds_self_of_lt (by simpa using hb.lt t.left)];rfl
    ·rw[Array.getElem?_setIfInBounds_ne t.ne,Array.getElem?_setIfInBounds_self_of_lt (by simpa using hb.lt t.right)];rfl
    ·rw[<-Array.append_assoc];refine Duo.Base.V6 (mD.set (p:=i) t.left z' (ze eV)) hc qX al (λj h1 h2=>?_) (λj=>Oh _ _ _ _ _ _ _ _) (TX _ _ _ _ _ _ _ _ _);have e1:i≠j:=by rcases t with⟨rfl,rfl⟩|⟨rfl,rfl⟩<;>omega
     have e2:b≠j:=by rcases t with⟨rfl,rfl⟩|⟨rfl,rfl⟩<;>omega
     simp[Array.getElem?_setIfInBounds_ne e1,Array.getElem?_setIfInBounds_ne e2]
    ·simpa[World.setChan]using(Array.getElem?_eq_some_iff.1 qX).1
    ·have:=quiet (fn:=z'.frame.fn) (pos:=z'.frame.place) (p:=i) (.inl rfl) hp hb.ng eV;simp only[World.setChan,Array.size_setIfInBounds];exact this
    ·rw[Deaf_own,deafBehind_still (QA eV)];exact hb.deaf t.left
    ·rw[Deaf_other T t.ne.symm.symm _ (λop aS=>by obtain⟨e,_,rfl⟩:=Conc.mem_ofEvents aS;rfl)];exact hb.deaf t.right
   ·refine⟨_,_,n'+0+sumTo gs.size q+1,bw.trans (runT_crowd_go oB l7),aa,.inl ⟨_,w.at d',bE,q,au2,n',0,y',yb,rfl,sA (hb.lt t.left) _ _,rj t.ne.symm pq (eE.stays (hb.at d').chans GO sn) _ _,rf,sn,(hb.at d').step t.left (hb.at d').k hb.chans (Nat.le_refl _) (hb.rN.at d') (ze eV),quiet (.inl rfl) hp hb.ng eV,fU.at d',hJ,?_,by rw[iL]⟩⟩;exact .inl nM
 ·by_cases eb:i=b
  ·
   subst eb;obtain rfl:z'=yb:=by rw[pq]at hi;exact(Option.some.inj hi).symm
   rcases LB with⟨SP,zF⟩|⟨ib,rfl⟩
   ·
    obtain⟨cg,y',n',d',es,eY,bl,gQ,fD,uQ,rf,dJ,eV⟩:=D.other t GO (sl:=bE) mD oB (λd=>again_of_running (.inl SP) _) (λc b=>offersAt_of_not_blocked (by rw[SP];simp) c b) pq hz sn;exact⟨_,_,na+n'+sumTo gs.size q+1,bw.trans eY,aa,.inl ⟨cg,w.at d',bE,q,au2,na,n',ya,y',rfl,fD,uQ,sm,rf,dJ,quiet (.inr rfl) hp hb.ng eV,fU.at d',hJ,.inl zF,by rw[gQ]⟩⟩
   ·rcases eE.pick sn hz (D.Dg _ mD.k)with⟨cS,es,k,rfl,qQ,eV,l7⟩|⟨n',y',d',es,bl,nM,eV,l7,rf⟩
    ·
     obtain⟨pX,ga,rfl,afp⟩:∃pX ga,ya=parked ga sa.cases sa.shape/\AtIn P (a==0) D.KW D.Still D.B sa pX ga:=by
      rcases sm with⟨k',h0,_⟩|⟨_,pX,ga,e,h0⟩
      ·omega
      ·exact⟨pX,ga,e,h0⟩
     rw[LA,xX]at oB;obtain⟨kc,qX⟩:=mD.chans c hc
     have Lt:partners (gs.setIfInBounds i ph) c true=[(a,0)]:=by rw[VI mD t oB,offersAt_parked_send];simp
     have eH:∀(m:Nat) (c':CommCase),m≠kk->sb.cases[m]? =some c'->NoWays (w.at d) (gs.setIfInBounds i ph) c':=by intro m c' hm cF;obtain⟨r,fz,bZ⟩:=GO c' (Array.mem_of_getElem? cF);have aE:c≠r:=λe=>hu m c' hm cF (e▸bZ);refine MD bZ (mD.chans r fz) (ET mD t oB ?_);rw[ik c' (Array.mem_of_getElem? cF)];show offersAt _ r true=[];rw[offersAt_parked_send,if_neg aE]
     have hm:=crowd_sel_recv_meets (P:=P) (sl:=bE) pq l7 hk eH qX t.ne oB Lt;refine⟨_,_,0,bw.trans hm,aa,.inr ⟨_,_,bE,q,ga,cS,au2,kc,ga.frame.fn,ga.frame.place,cS.frame.fn,cS.frame.place,T++MemOp.ofEvents i z'.frame.fn z'.frame.place es,rfl,?_,afp.2.2.2.2.1,?_,qQ.2.2.2.2.1,?_,(fU.at d).setChan (hJ c (.inr (.inl hc))) _ _ _ _ _ _,hJ,?_,by simp[met],?_,?_,?_⟩⟩
     ·rw[Array.getElem?_setIfInBounds_ne t.ne.symm,Array.getElem?_setIfInBounds_self_of_lt (by simpa using hb.lt t.left)];rfl
     ·rw[Array.getElem?_setIfInBounds_self_of_lt (by simpa using hb.lt t.right)];rfl
     ·rw[<-Array.append_assoc];refine Duo.Base.V6 (mD.set (p:=i) t.right z' (ze eV)) hc qX al (λj h1 h2=>?_) (λj=>Oh _ _ _ _ _ _ _ _) (TX _ _ _ _ _ _ _ _ _);have e1:i≠j:=by rcases t with⟨rfl,rfl⟩|⟨rfl,rfl⟩<;>omega
      have e2:a≠j:=by rcases t with⟨rfl,rfl⟩|⟨rfl,rfl⟩<;>omega
      simp[Array.getElem?_setIfInBounds_ne e1,Array.getElem?_setIfInBounds_ne e2]
     ·simpa[World.setChan]using(Array.getElem?_eq_some_iff.1 qX).1
     ·have:=quiet (fn:=z'.frame.fn) (pos:=z'.frame.place) (p:=i) (.inr rfl) hp hb.ng eV;simp only[World.setChan,Array.size_setIfInBounds];exact this
     ·rw[Deaf_other T t.ne.symm _ (λop aS=>by obtain⟨e,_,rfl⟩:=Conc.mem_ofEvents aS;rfl)];exact hb.deaf t.left
     ·rw[Deaf_own,deafBehind_still (QA eV)];exact hb.deaf t.right
    ·exact⟨_,_,0+n'+sumTo gs.size q+1,bw.trans (runT_crowd_go pq l7),aa,.inl ⟨_,w.at d',bE,q,au2,0,n',ya,y',rfl,rj t.ne oB (eE.stays (hb.at d').chans KY sm) _ _,sA (hb.lt t.right) _ _,sm,rf,(hb.at d').step t.right (hb.at d').k hb.chans (Nat.le_refl _) (hb.rN.at d') (ze eV),quiet (.inr rfl) hp hb.ng eV,fU.at d',hJ,.inr nM,by rw[iL]⟩⟩
  ·obtain⟨i1,i2⟩:=t.A3 ea eb;obtain⟨g',es,q',eY,hm,bl,dJ⟩:=hb.leave i1 i2 hi hz d bE;refine⟨_,_,na+nb+sumTo gs.size q'+1,bw.trans eY,aa,.inl ⟨_,w.at d,bE,q',au2,na,nb,ya,yb,rfl,rj (λe=>ea e.symm) oB (eE.stays hb.chans KY sm) _ _,rj (λe=>eb e.symm) pq (eE.stays hb.chans GO sn) _ _,sm,sn,dJ,?_,fU.at d,hJ,hn,by rw[iL]⟩⟩;exact hp.appMute (λ_ x=>x.app _) (λop aS=>by obtain⟨e,he,rfl⟩:=Conc.mem_ofEvents aS;exact touch_mute (hm e he)) (λop aS=>by obtain⟨e,he,rfl⟩:=Conc.mem_ofEvents aS;exact low_mute (hm e he) _)
end
section
open Go.Conc
variable {a b:Nat}
def dO.stay{S Still Cy Q:Loc->Prop}{jw B:Nat}{t u:Trace}(H:dO S Still Q jw a B (Knows t b) t)(xJ:∀l,Cy l->Still l)(hn:∀op∈u,op.act.touch?=none)(hl:∀op∈u,op.act.low B)(he:∀i,Knows t a i->Knows (t++u) b i):dO S Cy Q jw a B (Knows (t++u) b) (t++u):=by
 refine⟨λsaid=>noRace_appendMute (H.clean said) hn,λi J ha hm=>?_,λi J ha hw hS=>?_,λi J ha hq=>?_,seen_app H.seen hl⟩
 ·obtain⟨x,hx,bF⟩:=touch_of ha;rcases getElem?_append_cases hx with⟨hi,cY⟩|⟨_,du⟩
  ·rcases H.known i J (by rw[touchAt_of cY];exact bF) hm with y|⟨y,z,v⟩|⟨y,z,v⟩
   ·exact .inl (y.app u)
   ·exact .inr (.inl ⟨y,z,λc=>v ((counts_old hi).1 c)⟩)
   ·have:=knows_own cY;have e:x.g=a:=by have:=g?_of cY;rw[y]at this;exact(Option.some.inj this).symm
    exact .inl (he i (e▸this))
  ·rw[hn x du]at bF;cases bF
 ·obtain⟨x,hx,bF⟩:=touch_of ha;rcases getElem?_append_cases hx with⟨hi,cY⟩|⟨_,du⟩
  ·exact(H.wrote i J (by rw[touchAt_of cY];exact bF) hw (xJ _ hS)).app u
  ·rw[hn x du]at bF;cases bF
 ·obtain⟨x,hx,bF⟩:=touch_of ha;rcases getElem?_append_cases hx with⟨_,cY⟩|⟨_,du⟩
  ·exact(H.pure i J (by rw[touchAt_of cY];exact bF) hq).imp id (·.app u)
  ·rw[hn x du]at bF;cases bF
variable {h c:Nat}
def TW{j:Nat}{fh:FuncId}{ph:String}{fj:FuncId}{pj:String}{k cap B:Nat}(hc:c<B):∀op∈met h j fh ph fj pj c k cap,op.act.low B:=by intro op aS;simp only[met,List.mem_toArray,List.mem_cons,List.not_mem_nil,or_false]at aS;rcases aS with rfl|rfl|rfl|rfl<;>exact hc
structure Duo.Next {P:Program} (D D':Duo P):Prop where
 w:D'.W=D.W
 j:D'.j=D.j
 chans:D'.chans=D.chans
 s:D'.S=D.S
 q:D'.Q=D.Q
 b:D'.B=D.B
 k:∀w,D.K w->D'.K w
 fP:∀b,D'.Hid b->D.Hid b
variable {P:Program}{D D':Duo P}{T:Trace}
def Duo.Next.base(n:D.Next D'){gs:Array Goroutine}{w:World}{q:Nat->Nat}(b:D.Base gs w T q):D'.Base gs w T q:=
 ⟨by rw[n.j];exact b.lE,by rw[n.j];exact b.gU,b.above,b.d0,by rw[n.j];exact b.dj,n.k w b.k,by rw[n.chans];exact b.chans,by rw[n.b];exact b.ng,by rw[n.w];exact b.rN,by rw[n.q];exact b.nr⟩
def Duo.Next.refl(D:Duo P):D.Next D:=⟨rfl,rfl,rfl,rfl,rfl,rfl,λ_ h=>h,λ_ h=>h⟩
variable {sa sb s':Seat}{kk:Nat}{v:Value}{U:Hp}{m:Machine}
def Duo.yP.pass (hm:D.yP a b a b sa sb c kk v U m T)(n:D.Next D')(ha:∀ga,sa.home ga->∃k,eE P (a==0) D'.KW D'.Still D'.B s' k (Go.Conc.served ga undef)):
 ∃gb,sb.home gb/\D'.St b a s' (Go.Conc.served gb (commResult sb.cases sb.shape kk v true)) U m T:=by
 obtain⟨cg,w',bE,q',ga,gb,J',k,fh,ph,fj,pj,T1,rfl,h1,h2,h3,h4,h5,h6,h7,h8,rfl,h9,bC,bT⟩:=hm;obtain⟨k',eF⟩:=ha ga h2;refine⟨gb,h4,cg,w',bE,q',J',k',_,rfl,h3,h1,eF,n.base h5,?_,h6,λx hx=>h7 x (n.fP x hx)⟩;rw[n.s,n.q,n.j];refine h9.pass (λl hl=>?_) (met_mute _ _ _ _ _ _ _ _ _) (TW h8) (λi hi=>Ty bC bT _ _ _ _ _ _ _ hi);obtain⟨x,rfl⟩:=D'.cell l (.inr (.inl hl));exact⟨rfl,by rw[<-n.s];exact(D'.apart _ hl).1⟩
def Duo.yP.stay (hm:D.yP a b b a sa sb c kk v U m T)(n:D.Next D')(hS:∀l,D'.Still l->D.Still l)(ha:∀ga,sa.home ga->∃k,eE P (a==0) D'.KW D'.Still D'.B s' k (Go.Conc.served ga undef)):
 ∃gb,sb.home gb/\D'.St b a s' (Go.Conc.served gb (commResult sb.cases sb.shape kk v true)) U m T:=by
 obtain⟨cg,w',bE,q',ga,gb,J',k,fh,ph,fj,pj,T1,rfl,h1,h2,h3,h4,h5,h6,h7,h8,rfl,h9,bC,bT⟩:=hm;obtain⟨k',eF⟩:=ha ga h2;refine⟨gb,h4,cg,w',bE,q',J',k',_,rfl,h3,h1,eF,n.base h5,?_,h6,λx hx=>h7 x (n.fP x hx)⟩;rw[n.s,n.q,n.j];exact h9.stay hS (met_mute _ _ _ _ _ _ _ _ _) (TW h8) (λi hi=>Ty bC bT _ _ _ _ _ _ _ hi)
def Duo.env(D:Duo P)(hD:D.Deep){x:Nat}(t:D.gC h x){s:Seat}(hs:D.Fits s):Env P where
 main:=h==0
 st:=D.St h x s
 iQ:=by rintro g U J m T ⟨gs,w,sl,q,au2,n,y,e0,e1,e2,e3,e4,e5,e6,e7⟩ hle;exact⟨gs,w,sl,q,au2,n,y,e0,e1,e2,e3,e4,e5,e6.iQ hle,e7⟩
 own:=λg U m T X nC hr hX=>D.run t hs nC hr (gZ.adU hD hX)
end
section
open Go.Conc
open Go.ConcN (sumTo upd sumTo_upd upd_ne upd_same)
structure Lone (P:Program) (S Q:Loc->Prop) (B:Nat) (gs:Array Goroutine) (w:World) (T:Trace) (q:Nat->Nat) (d:Nat):Prop where
 pos:0<gs.size
 gU:∀i g,0<i->gs[i]? =some g->QuitsD P (q i) (Deaf T i) g
 above:∀i,gs.size<=i->Deaf T i=0
 d0:Deaf T 0=d
 past:dO S (λ_=>False) (λ_=>False) 0 0 B (Knows T 0) T
 nr:pO Q T
def FG(S:Loc->Prop)(n:Nat)(e:Event):Prop:=(∀b,(MemAct.ofEvent e).touch?=some b->S b.loc->b.kind≠.plain)/\(MemAct.ofEvent e).low n/\∀a,e.loc≠.mark (.release a)
section
variable {P:Program}{S Q:Loc->Prop}{B:Nat}{gs:Array Goroutine}{w w':World}{T:Trace}{q:Nat->Nat}{d:Nat}
def Lone.leave (h:Lone P S Q B gs w T q d){i:Nat}(h1:0<i){g:Goroutine}(hg:gs[i]? =some g)(hr:g.status=.running)(dd:Nat)(bE:Option (Nat×Nat)):
 ∃g' es q',runT P (crowd gs (w.at dd) bE) i=(.next (crowd (mN P gs i g g' (w.at dd)) (w.at dd) bE),MemOp.ofEvents i g.frame.fn g.frame.place es)/\sumTo gs.size q'<sumTo gs.size q/\Lone P S Q B (mN P gs i g g' (w.at dd)) (w.at dd) (T++MemOp.ofEvents i g.frame.fn g.frame.place es) q' d:=by
 have hq:=h.gU i g h1 hg;have qU:(i==0)=false:=by simp;omega
 have bl:i<gs.size:=(Array.getElem?_eq_some_iff.1 hg).1
 cases lY:q i with
 |zero=>rw[lY]at hq;rw[hq.1]at hr;cases hr
 |succ k=>
  rw[lY]at hq;rcases hq with⟨hf,_⟩|⟨_,g',es,hm,l7,bz⟩
  ·rw[hf]at hr;cases hr
  have eY:=runT_crowd_go (P:=P) (sl:=bE) (i:=i) hg (by rw[qU];exact l7 (w.at dd))
  have LD:sumTo gs.size (upd q i k)+(k+1)=sumTo gs.size q+k:=by have:=sumTo_upd q k id bl;simpa[lY]using this
  have fL:∀k,k≠i->Deaf (T++MemOp.ofEvents i g.frame.fn g.frame.place es) k=Deaf T k:=λk e=>Deaf_other T (λx=>e x.symm) _ (λop aS=>by obtain⟨e,_,rfl⟩:=Conc.mem_ofEvents aS;rfl);refine⟨g',es,upd q i k,eY,aa,by rw[iL];exact h.pos,λc x c1 hx=>?_,λc hc=>?_,(fL 0 aa).trans h.d0,?_,h.nr.events λe he=>MG (hm e he)⟩
  ·by_cases e:c=i
   ·subst e;rw[sA bl]at hx;obtain rfl:=Option.some.inj hx;rw[upd_same,Deaf_own];exact bz
   ·obtain⟨z,hz,rfl⟩:=wY e hx;have pk:=h.gU c z c1 hz;rw[woken_quitsD pk,upd_ne q k e,fL c e];exact pk
  ·rw[iL]at hc;rw[fL c aa];exact h.above c hc
  ·exact h.past.appMute (λ_ x=>x.app _) (λop aS=>by obtain⟨e,he,rfl⟩:=Conc.mem_ofEvents aS;exact touch_mute (hm e he)) (λop aS=>by obtain⟨e,he,rfl⟩:=Conc.mem_ofEvents aS;exact low_mute (hm e he) _)
def Lone.awake (h:Lone P S Q B gs w T q d){a:Goroutine}(ha:gs[0]? =some a)(hr:a.status=.running):∀z∈gs,awake z:=by
 intro z hz;obtain⟨i,hi,rfl⟩:=Array.mem_iff_getElem.1 hz;by_cases e:i=0
 ·subst e;have:gs[0]=a:=by simpa[Array.getElem?_eq_getElem hi]using ha
  rw[this];exact awake_of (.inl hr)
 ·exact awake_of ((h.gU i _ aa (Array.getElem?_eq_getElem hi)).status.elim .inl λx=>.inr (.inr x))
def Lone.picked (h:Lone P S Q B gs w T q d){a:Goroutine}(ha:gs[0]? =some a)(hr:a.status=.running)(sl:Option (Nat×Nat)):
 ∃N cg dd bE vw T' q',runNT P N (crowd gs w sl) T=(.next (crowd cg (w.at dd) bE),T')/\cg.size=gs.size/\cg[0]? =some a/\Lone P S Q B cg (w.at dd) T' q' d/\∃pT,stepT P (crowd cg (w.at dd) bE)=runT P (crowd cg (w.at pT) vw) 0:=by
 generalize hM:sumTo gs.size q=M
 induction M using Nat.strongRecOn generalizing gs w sl T q with
 |_ M ih=>
  obtain⟨i,z,dd,bE,hi,hz,bw⟩:=crowd_pick (P:=P) (w:=w) (sl:=sl) (h.awake ha hr) ⟨0,a,ha,hr⟩;by_cases e:i=0
  ·subst e;exact⟨0,gs,w.drawn,sl,bE,T,q,rfl,rfl,ha,h,dd,bw⟩
  ·obtain⟨g',es,q',eY,bl,h'⟩:=h.leave aa hi hz dd bE;obtain⟨N,cg,pT,s1,s2,T',q'',fz,j8,dn,fY,hx⟩:=ih _ (by rw[<-hM];rw[iL];exact bl) h' (rj (λe'=>e e'.symm) ha (again_of_running (.inl hr) _) _ _) bE rfl;exact⟨N+1,cg,pT,s1,s2,T',q'',by simp only[runNT,bw,eY];exact fz,j8.trans (iL _ _ _),dn,fY,hx⟩
def Lone.go (h:Lone P S Q B gs w T q d){a:Goroutine}(ha:gs[0]? =some a)(hr:a.status=.running)(sl:Option (Nat×Nat)){X:Goroutine->World->Array Event->Prop}
 (hs:∀dd,∃a' w' es,stepG P true a (w.at dd)=.go a' w' es/\(∀e∈es,FG S B e)/\X a' w' es):
 ∃N cg a' w' bE T' q' es,runNT P N (crowd gs w sl) T=(.next (crowd cg w' bE),T')/\cg.size=gs.size/\cg[0]? =some a'/\X a' w' es/\Lone P S Q B cg w' T' q' (deafBehind d es):=by
 obtain⟨N,cg,dd,bE,vw,T',q',fz,j8,dn,fY,pT,hx⟩:=h.picked ha hr sl;obtain⟨a',w',es,hgo,kA,hX⟩:=hs pT;have eY:=runT_crowd_go (P:=P) (sl:=vw) (i:=0) dn (show stepG P (0==0) a (w.at pT)=_ from hgo);have fL:∀i,i≠0->Deaf (T'++MemOp.ofEvents 0 a.frame.fn a.frame.place es) i=Deaf T' i:=λi hi=>Deaf_other T' (λx=>hi x.symm) _ (λop aS=>by obtain⟨e,_,rfl⟩:=Conc.mem_ofEvents aS;rfl);refine⟨N+1,mN P cg 0 a a' w',a',w',vw,T'++MemOp.ofEvents 0 a.frame.fn a.frame.place es,q',es,?_,(iL _ _ _).trans j8,sA fY.pos _ _,hX,by rw[iL];exact fY.pos,λc x c1 hx=>?_,λc hc=>?_,by rw[Deaf_own,fY.d0],?_,fY.nr.events λe he=>BV (kA e he).2.2⟩
 ·rw[runNT_add,fz];simp only[runNT,hx,eY]
 ·obtain⟨z,hz,rfl⟩:=wY aa hx;have pk:=fY.gU c z c1 hz;rw[woken_quitsD pk,fL c aa];exact pk
 ·rw[iL]at hc;have:=fY.pos;rw[fL c aa];exact fY.above c hc
 ·refine fY.past.appH (λop aS=>by obtain⟨e,_,rfl⟩:=Conc.mem_ofEvents aS;rfl) (λop aS b hb=>?_) (λop aS=>?_)
  ·obtain⟨e,he,rfl⟩:=Conc.mem_ofEvents aS;exact⟨(kA e he).1 b hb,λx=>x.elim,λx=>x.elim⟩
  ·obtain⟨e,he,rfl⟩:=Conc.mem_ofEvents aS;exact(kA e he).2.1
def Lone.goes {D:World->World->Array Event->Prop}{Stop:Goroutine->World->Prop}(hD:∀w w' es,D w w' es->∀e∈es,FG S B e/\e.loc≠.mark .disable/\e.loc≠.mark .enable):
 ∀(n:Nat) {gs:Array Goroutine} {w:World} {T:Trace} {q:Nat->Nat} {a:Goroutine} (sl:Option (Nat×Nat)),Lone P S Q B gs w T q d->gs[0]? =some a->Goes P true AtRel D Stop n a w->
 ∃N cg a' w' bE T' q',runNT P N (crowd gs w sl) T=(.next (crowd cg w' bE),T')/\cg.size=gs.size/\cg[0]? =some a'/\(∀dd,Stop a' (w'.at dd))/\Lone P S Q B cg w' T' q' d:=by
 intro n
 induction n with
 |zero=>exactλ{gs w T q a} sl h ha hG=>⟨0,gs,a,w,sl,T,q,rfl,rfl,ha,λdd=>hG _ ⟨dd,rfl⟩,h⟩
 |succ n ih=>
  intro gs w T q a sl h ha hG;rcases hG with hG|⟨hr,hG⟩
  ·exact⟨0,gs,a,w,sl,T,q,rfl,rfl,ha,λdd=>hG _ ⟨dd,rfl⟩,h⟩
  ·obtain⟨N,cg,a',w',bE,T',q',es,h1,h2,h3,⟨hg,aE⟩,h4⟩:=h.go ha hr sl (X:=λa' w' es=>Goes P true AtRel D Stop n a' w'/\∀e∈es,e.loc≠.mark .disable/\e.loc≠.mark .enable) (λdd=>by
    have:=hG (w.at dd) ⟨dd,rfl⟩
    cases hgo:stepG P true a (w.at dd)<;>rw[hgo]at this<;>first|exact this.elim|skip
    rename_i a' w' es
    obtain⟨hd,hg⟩:=this
    exact⟨a',w',es,rfl,λe he=>(hD _ _ _ hd e he).1,hg,λe he=>(hD _ _ _ hd e he).2⟩)
   rw[deafBehind_still aE]at h4;obtain⟨N2,xF,a2,w2,xo,T2,q2,k1,k2,k3,k4,k5⟩:=ih bE h4 h3 hg;exact⟨N+N2,xF,a2,w2,xo,T2,q2,runNT_then h1 k1,k2.trans h2,k3,k4,k5⟩
def Lone.of {au2:Nat->Prop}(ha:0<gs.size)(hL:Leavers P T gs q)(hP:Past (ua au2) w.heap.size T)(hN:pO Q T):Lone P (ua au2) Q w.heap.size gs w T q 0:=
 ⟨ha,hL.old,hL.above,hP.hears,dO.ofPast hP (λ_ h=>h),hN⟩
def Lone.back {au2:Nat->Prop}(h:Lone P (ua au2) Q B gs w T q 0):Leavers P T gs q/\Past (ua au2) B T:=⟨⟨h.gU,h.above⟩,h.past.toPast h.d0⟩
def Lone.spawn (h:Lone P S Q B gs w T q 0){a a' child:Goroutine}(ha:gs[0]? =some a)(hr:a.status=.running)(sl:Option (Nat×Nat))(hs:∀dd,stepG P true a (w.at dd)=.spawn a' child (w.at dd) #[])
 {D:Duo P} {s:Seat} {n:Nat} {U:Hp} {au2:Nat->Prop} (hj:D.j=gs.size) (hBw:B<=w.heap.size) (Rt:D.S=S) (hDQ:D.Q=Q) (hh:eE P true D.KW D.Still D.B s n a') (hK:D.K w) (hc:∀c,D.chans c->Open c w) (hB:D.B<=w.heap.size) (hF:lQ D.W w) (fU:cR au2 w U) (hJ:∀b,D.Hid b->au2 b):
 ∃N m' T',runNT P N (crowd gs w sl) T=(.next m',T')/\D.St D.j 0 s child U m' T':=by
 obtain⟨N,cg,dd,bE,vw,T',q',fz,j8,dn,fY,pT,hx⟩:=h.picked ha hr sl;have eY:=runT_crowd_spawn (P:=P) (sl:=vw) (i:=0) dn (show stepG P (0==0) a (w.at pT)=_ from hs pT)
 have G9:((MemOp.ofEvents 0 a.frame.fn a.frame.place #[]).push {g:=0,fn:=a.frame.fn,pos:=a.frame.place,act:=.go cg.size}).push {g:=cg.size,fn:=child.frame.fn,pos:=a.frame.place,act:=.start}=kS 0 cg.size a.frame.fn a.frame.place child.frame.fn:=by simp[ofEvents_eq,kS]
 rw[G9]at eY;have uD:D.j=cg.size:=hj.trans j8.symm;have hd:∀i,Deaf (T'++kS 0 cg.size a.frame.fn a.frame.place child.frame.fn) i=Deaf T' i:=λi=>Deaf_quiet (Sn _ _ _ _ _ i)
 refine⟨N+1,crowd ((cg.setIfInBounds 0 a').push child) (w.at pT) vw,T'++kS 0 cg.size a.frame.fn a.frame.place child.frame.fn,by rw[runNT_add,fz];simp only[runNT,hx,eY],_,w.at pT,vw,q',au2,n,a',rfl,?_,?_,aW hh,⟨?_,λi x h1 h2 hx=>?_,λi hi=>?_,by rw[hd];exact fY.d0,?_,D.Dh w pT hK,hc,hB,hF.at pT,pO.app (Q:=D.Q) (by rw[hDQ];exact fY.nr) λop aS a=>by
  simp only[kS,List.mem_toArray,List.mem_cons,List.not_mem_nil,or_false]at aS
  rcases aS with rfl|rfl<;>simp⟩,?_,fU.at pT,hJ⟩
 ·rw[uD,show cg.size=(cg.setIfInBounds 0 a').size by simp,Array.getElem?_push_size]
 ·rw[Array.getElem?_push_lt (by simpa using fY.pos)];simp
 ·rw[uD];simp
 ·have cY:cg[i]? =some x:=by rw[Array.getElem?_push,if_neg (by simp;omega),Array.getElem?_setIfInBounds_ne aa]at hx;exact hx
  rw[hd];exact fY.gU i x h1 cY
 ·rw[hd];exact fY.above i (by simp at hi;omega)
 ·rw[hd,uD];exact fY.above _ (Nat.le_refl _)
 ·rw[uD,Rt];refine dO.hire (fY.past.mono hBw) (λl hl=>?_) (λl hl=>?_) fY.d0 (fY.above _ (Nat.le_refl _)) _ _ _
  ·obtain⟨x,rfl⟩:=D.cell l (.inr (.inl hl));exact⟨rfl,by rw[<-Rt];exact(D.apart _ hl).1⟩
  ·obtain⟨x,rfl⟩:=D.cell l (.inr (.inr hl));rfl
end
end
section
open Go.Conc
open Go.ConcX (OfWg stA smA)
structure jV (S:Loc->Prop) (Wg j B:Nat) (rel:Option Nat) (t:Trace):Prop where
 clean:∀said,¬Race said t
 known:∀i a,touchAt t i=some a->a.loc.isMemory=true->Knows t 0 i\/(S a.loc/\a.kind=.atomic/\¬t.counts i)\/(t.g? i=some j/\OfWg Wg a.loc/\a.kind=.atomic/\∀r,rel=some r->i<=r)
 pure:∀i a,touchAt t i=some a->OfWg Wg a.loc->a.kind≠.plain\/Knows t j i
 seen:∀op∈t,op.act.low B
 E6:∀r,rel=some r->t.act? r=some (.mark (.releaseMerge (stA Wg)))/\t.g? r=some j/\t.heard r
 norel:∀i,t.act? i≠some (.mark (.release (stA Wg)))
section
variable {S:Loc->Prop}{Wg j B:Nat}{rel:Option Nat}{t u:Trace}
def jV.ofK {Q Still:Loc->Prop}{o:Nat}(H:dO S (λ_=>False) Q j o B (Knows t 0) t)(hQ:∀l,OfWg Wg l->Q l)(hn:∀i,t.act? i≠some (.mark (.release (stA Wg)))):jV S Wg j B none t:=
 ⟨H.clean,λi a ha hm=>(H.known i a ha hm).imp id λx=>x.imp id λy=>y.2.2.elim,λi a ha hw=>H.pure i a ha (hQ _ hw),H.seen,λr h=>(by cases h),hn⟩
def MF (h:∀i,t.act? i≠some (.mark (.release (stA Wg))))(hu:∀op∈u,op.act≠.mark (.release (stA Wg))):∀i,(t++u).act? i≠some (.mark (.release (stA Wg))):=by
 intro i hi;obtain⟨op,ho,SF⟩:=Option.map_eq_some_iff.1 hi;rcases getElem?_append_cases ho with⟨_,uK⟩|⟨_,hou⟩
 ·exact h i (by rw[act?_of uK,SF])
 ·exact hu op hou SF
def M8 (h:∀r,rel=some r->t.act? r=some (.mark (.releaseMerge (stA Wg)))/\t.g? r=some j/\t.heard r):∀r,rel=some r->(t++u).act? r=some (.mark (.releaseMerge (stA Wg)))/\(t++u).g? r=some j/\(t++u).heard r:=by intro r hr;obtain⟨h1,h2,h3⟩:=h r hr;have bl:=lt_of_act? h1;exact⟨by rw[act?_old bl];exact h1,by rw[g?_old bl];exact h2,(heard_old bl).2 h3⟩
def jV.old_known (H:jV S Wg j B rel t){i:Nat}{a:Touch}{x:MemOp}(cY:t[i]? =some x)(bF:x.act.touch?=some a)(hm:a.loc.isMemory=true):
 Knows (t++u) 0 i\/(S a.loc/\a.kind=.atomic/\¬(t++u).counts i)\/((t++u).g? i=some j/\OfWg Wg a.loc/\a.kind=.atomic/\∀r,rel=some r->i<=r):=by
 have hi:=lt_size_of_getElem? cY;rcases H.known i a (by rw[touchAt_of cY];exact bF) hm with x|⟨x,y,z⟩|⟨x,y⟩
 ·exact .inl (x.app u)
 ·exact .inr (.inl ⟨x,y,λc=>z ((counts_old hi).1 c)⟩)
 ·exact .inr (.inr ⟨by rw[g?_old hi];exact x,y⟩)
def jV.appMute (H:jV S Wg j B rel t)(hn:∀op∈u,op.act.touch?=none)(hl:∀op∈u,op.act.low B)(hr:∀op∈u,op.act≠.mark (.release (stA Wg))):jV S Wg j B rel (t++u):=by
 refine⟨λsaid=>noRace_appendMute (H.clean said) hn,λi a ha hm=>?_,λi a ha hq=>?_,seen_app H.seen hl,M8 H.E6,MF H.norel hr⟩
 ·obtain⟨x,hx,bF⟩:=touch_of ha;rcases getElem?_append_cases hx with⟨_,cY⟩|⟨_,du⟩
  ·exact H.old_known cY bF hm
  ·rw[hn x du]at bF;cases bF
 ·obtain⟨x,hx,bF⟩:=touch_of ha;rcases getElem?_append_cases hx with⟨_,cY⟩|⟨_,du⟩
  ·exact(H.pure i a (by rw[touchAt_of cY];exact bF) hq).imp id (·.app u)
  ·rw[hn x du]at bF;cases bF
def jV.app0 (H:jV S Wg j B rel t)(hu:∀op∈u,op.g=0)(hs:∀op∈u,∀b,op.act.touch?=some b->(S b.loc->b.kind≠.plain)/\(OfWg Wg b.loc->b.kind≠.plain))(hl:∀op∈u,op.act.low B)(hr:∀op∈u,op.act≠.mark (.release (stA Wg))):
 jV S Wg j B rel (t++u):=by
 refine⟨λsaid=>noRace_append (H.clean said) hu λi a ha op aS b hb hc=>?_,λi a ha hm=>?_,λi a ha hq=>?_,seen_app H.seen hl,M8 H.E6,MF H.norel hr⟩
 ·obtain⟨h1,h2⟩:=hs op aS b hb
  have at_:a.kind=.atomic->b.kind≠.plain->False:=λy dJ=>by
   obtain⟨_,_,_,xM⟩:=hc;rw[y]at xM;rcases xM with z|z|⟨_,z,_⟩
   ·cases z
   ·exact dJ z
   ·cases z
  rcases H.known i a ha hc.2.1 with hk|⟨x,y,_⟩|⟨_,x,y,_⟩
  ·exact hk
  ·exact(at_ y (h1 (hc.1▸x))).elim
  ·exact(at_ y (h2 (hc.1▸x))).elim
 ·obtain⟨x,hx,bF⟩:=touch_of ha;rcases getElem?_append_cases hx with⟨_,cY⟩|⟨_,du⟩
  ·exact H.old_known cY bF hm
  ·have:=knows_own hx;rw[hu x du]at this;exact .inl this
 ·obtain⟨x,hx,bF⟩:=touch_of ha;rcases getElem?_append_cases hx with⟨_,cY⟩|⟨_,du⟩
  ·exact(H.pure i a (by rw[touchAt_of cY];exact bF) hq).imp id (·.app u)
  ·exact .inl ((hs x du a bF).2 hq)
def jV.appJ (H:jV S Wg j B rel t)(hu:∀op∈u,op.g=j)(hs:∀op∈u,∀b,op.act.touch?=some b->OfWg Wg b.loc/\b.kind=.atomic)(hc:rel=none\/((∀l,OfWg Wg l->S l)/\∀k,t.size<=k->¬(t++u).counts k))(hl:∀op∈u,op.act.low B)
 (hr:∀op∈u,op.act≠.mark (.release (stA Wg))):jV S Wg j B rel (t++u):=by
 refine⟨λsaid=>noRace_append (H.clean said) hu λi a ha op aS b hb hc=>?_,λi a ha hm=>?_,λi a ha hq=>?_,seen_app H.seen hl,M8 H.E6,MF H.norel hr⟩
 ·obtain⟨hbQ,hbk⟩:=hs op aS b hb;rcases H.pure i a ha (hc.1▸hbQ)with this|this
  ·obtain⟨_,_,_,xM⟩:=hc;rw[hbk]at xM;rcases xM with z|z|⟨_,_,z⟩
   ·exact absurd z this
   ·cases z
   ·cases z
  ·exact this
 ·obtain⟨x,hx,bF⟩:=touch_of ha;rcases getElem?_append_cases hx with⟨_,cY⟩|⟨xP,du⟩
  ·exact H.old_known cY bF hm
  ·rcases hc with rfl|⟨hq,hc⟩
   ·exact .inr (.inr ⟨by rw[g?_of hx,hu x du],(hs x du a bF).1,(hs x du a bF).2,λr h=>by cases h⟩)
   ·exact .inr (.inl ⟨hq _ (hs x du a bF).1,(hs x du a bF).2,hc i xP⟩)
 ·obtain⟨x,hx,bF⟩:=touch_of ha;rcases getElem?_append_cases hx with⟨_,cY⟩|⟨_,du⟩
  ·exact(H.pure i a (by rw[touchAt_of cY];exact bF) hq).imp id (·.app u)
  ·rw[(hs x du a bF).2];exact .inl (λe=>by cases e)
def jV.release (H:jV S Wg j B none t)(hd:Deaf t j=0)(hW:Wg<B){op:MemOp}(hg:op.g=j)(ha:op.act=.mark (.releaseMerge (stA Wg))):jV S Wg j B (some t.size) (t++ #[op]):=by
 have hm:∀o∈(#[op]:Trace),o.act.touch?=none:=by intro o ho;simp at ho;subst ho;rw[ha];rfl
 have H':=H.appMute (u:=#[op]) hm (by intro o ho;simp at ho;subst ho;rw[ha];exact hW) (by intro o ho;simp at ho;subst ho;rw[ha];simp);have e0:(t++ #[op])[t.size]? =some op:=al;refine⟨H'.clean,λi a LF rZ=>?_,H'.pure,H'.seen,λr hr=>?_,H'.norel⟩
 ·rcases H'.known i a LF rZ with x|x|⟨x,y,z,_⟩
  ·exact .inl x
  ·exact .inr (.inl x)
  ·refine .inr (.inr ⟨x,y,z,λr hr=>?_⟩)
   cases hr
   unfold Trace.g? at x;obtain⟨v,hv,_⟩:=Option.map_eq_some_iff.1 x;have:=lt_size_of_getElem? hv;simp at this;omega
 ·cases hr
  exact⟨by rw[act?_of e0,ha],by rw[g?_of e0,hg],j,by rw[g?_of e0,hg],by rw[deaf_old (Nat.le_refl _)];exact hd⟩
def jV.acquire {r:Nat}(H:jV S Wg j B (some r) t)(hd:Deaf t 0=0)(hj:j≠0)(hW:Wg<B){op:MemOp}(hg:op.g=0)(ha:op.act=.mark (.acquire (stA Wg))):dO S (λ_=>False) (OfWg Wg) j j B (Knows (t++ #[op]) 0) (t++ #[op]):=by
 have hm:∀o∈(#[op]:Trace),o.act.touch?=none:=by intro o ho;simp at ho;subst ho;rw[ha];rfl
 have H':=H.appMute (u:=#[op]) hm (by intro o ho;simp at ho;subst ho;rw[ha];exact hW) (by intro o ho;simp at ho;subst ho;rw[ha];simp);have e0:(t++ #[op])[t.size]? =some op:=al;obtain⟨r1,r2,r3⟩:=H'.E6 r rfl;have ahh:r<t.size:=lt_of_act? (H.E6 r rfl).1;have A0:HappensBefore (t++ #[op]) r t.size:=.single (.inr ⟨.marked ahh (.inr r1) (by rw[act?_of e0,ha]) (λk _ _=>H'.norel k),r3,0,by rw[g?_of e0,hg],by rw[deaf_old (Nat.le_refl _)];exact hd⟩);refine⟨H'.clean,λi a LF rZ=>?_,λ_ _ _ _ x=>x.elim,H'.pure,H'.seen⟩;rcases H'.known i a LF rZ with x|x|⟨x,_,_,z⟩
 ·exact .inl x
 ·exact .inr (.inl x)
 ·refine .inl ⟨t.size,op,e0,hg,.inr ?_⟩;have hir:=z r rfl;rcases Nat.lt_or_ge i r with h|h
  ·exact .trans (.single (.inl ⟨h,j,x,r2⟩)) A0
  ·obtain rfl:i=r:=aa;exact A0
end
end
section
open Go.Conc
open Go.ConcX
open Go.ConcN (sumTo upd sumTo_upd upd_ne upd_same)
structure Jn (P:Program) where
 ty:TypeId
 Wg:Nat
 C:Nat
 C':Nat
 Low:Nat
 B0:Nat
 j:Nat
 au1:Payload
 I':Payload
 Y:Shy Wg C
 Y':Shy Wg C'
 vals:List Value
 lM:List Value
 S:Loc->Prop
 vE:Goroutine->World->Prop
 Z:World->Prop
 s:Seat
 kk:Nat
 c3:Nat
 z:Value
 hj:0<j
 hW:Wg<Low
 hC:C<Low
 xH:C'<Low
 xI:C≠Wg
 Ko:C'≠Wg
 Gt:C≠C'
 lv:c3<Low
 ok:∀act,@Shy.ok Wg C Y act->okF S Low Wg act
 HS:∀act,@Shy.ok Wg C' Y' act->okF S Low Wg act
 Ky:∀l,OfWg Wg l->S l
 Rs:∀g w,vE g w->g.status=.running
 Rr:∀g w,vE g w->∃m,Goes P true (@RPa au1 ty Wg C vals) (DPi (λ_=>True) Wg C Low) (@AtW1 au1 P ty Wg C Low Y vals (λ_=>True) vE λ_ _=>True) m g w
 hZ:∀w w',(∀b,b<Low->b≠Wg->w'.heap[b]? =w.heap[b]?)->Z w->Z w'
 RF:∀w,Z w->(∃k,w.heap[c3]? =some (.chan 0 #[] true k k false))/\∀(m:Nat) (cc:CommCase),m≠kk->s.cases[m]? =some cc->cc.send=none/\∃c,cc.chan=.chan (some c)/\Open c w
 hk:s.cases[kk]? =some (rcase c3 z)
 serve:∀cS w,s.home cS->KCa ty Wg w->@Full au1 C vals w->@Full I' C' lM w->
  (∃n,Goes P false (RCa ty Wg Low) (DCs (λ_=>True) Wg C) (@AtR0 au1 P ty Wg C Low vals) n (Go.Conc.served cS (commResult s.cases s.shape kk z false)) w)/\
  (∃n,Goes P false (RCa ty Wg Low) (DCs (λ_=>True) Wg C') (@AtR0 I' P ty Wg C' Low lM) n (Go.Conc.served cS (commResult s.cases s.shape kk z false)) w)
section
variable {P:Program}(K:Jn P)
attribute [local instance] Jn.Y
inductive WJ:Nat->Nat->Nat->Goroutine->World->Prop
 |c0 {n b w}:0<n->eE P false K.Z (λ_=>False) K.B0 K.s n b->K.Z w->WJ 0 0 n b w
 |c1 {n n' b w}:Goes P false (RCa K.ty K.Wg K.Low) (DCs (λ_=>True) K.Wg K.C) (@AtR0 K.au1 P K.ty K.Wg K.C K.Low K.vals) n b w->
  Goes P false (RCa K.ty K.Wg K.Low) (@DCs (λ_=>True) K.Wg K.C' K.Y') (@AtR0 K.I' P K.ty K.Wg K.C' K.Low K.lM) n' b w->WJ 1 0 n b w
 |c2 {n b w}:Goes P false (RCa K.ty K.Wg K.Low) DC0 (AtK1 P K.ty K.Wg K.Low) n b w->WJ 2 0 n b w
 |c3 {n b w}:Goes P false (RCa K.ty K.Wg K.Low) DC0 (AtD1 P K.ty K.Wg K.Low) n b w->WJ 3 1 n b w
 |c4 {n b w}:Goes P false (RCd K.Low) DC0 (AtD2 P K.Wg K.Low) n b w->WJ 4 1 n b w
 |c5 {n b w}:Goes P false (RCd K.Low) DC0 (AtD3 P K.Wg K.Low) n b w->WJ 5 1 n b w
 |c6 {n b w}:Goes P false (RCd K.Low) DC0 (AtD4 P K.Wg) n b w->WJ 6 1 n b w
 |c7 {n d b w}:QuitsD P n d b->WJ 7 d n b w
abbrev Jn.Ra (K:Jn P):World->World->Prop:= @RPa K.au1 K.ty K.Wg K.C K.vals
abbrev Jn.Rb (K:Jn P):World->World->Prop:= @RPb K.au1 K.ty K.Wg K.C K.vals
abbrev Jn.Di (K:Jn P):World->World->Array Event->Prop:=DPi (λ_=>True) K.Wg K.C K.Low
inductive MJ:Nat->Nat->Nat->Goroutine->World->Prop
 |a1 {n a w}:Goes P true K.Ra K.Di (@AtKd K.au1 P K.ty K.Wg K.C K.Low K.Y K.vals (λ_=>True) K.vE) n a w->MJ 1 0 n a w
 |a2 {n a w}:Goes P true K.Ra K.Di K.vE n a w->MJ 2 1 n a w
 |a3 {n a w}:Goes P true K.Ra K.Di (@AtW1 K.au1 P K.ty K.Wg K.C K.Low K.Y K.vals (λ_=>True) K.vE λ_ _=>True) n a w->MJ 3 1 n a w
 |a4 {n a w}:Goes P true K.Ra K.Di (@AtW2 K.au1 P K.ty K.Wg K.C K.Low K.Y K.vals (λ_=>True) K.vE λ_ _=>True) n a w->MJ 4 1 n a w
 |a5 {n a w}:Goes P true K.Rb K.Di (@AtW3 K.au1 P K.ty K.Wg K.C K.Low K.Y K.vals (λ_=>True) λ_ _=>True) n a w->MJ 5 1 n a w
 |blk {a w}:(∀w₁,K.Rb w w₁->@AtW3 K.au1 P K.ty K.Wg K.C K.Low K.Y K.vals (λ_=>True) (λ_ _=>True) a w₁)->MJ 10 1 0 {a with status:=.blocked} w
 |a6 {n a w}:Goes P true AtRel K.Di (AtW4 P K.Wg K.C K.Low (λ_=>True) λ_ _=>True) n a w->MJ 6 1 n a w
 |a7 {n a w}:Goes P true AtRel K.Di (AtKe P K.Wg K.C K.Low (λ_=>True) λ_ _=>True) n a w->MJ 7 1 n a w
 |a8 {n a w}:Goes P true AtRel K.Di (AtAcq P K.Wg K.C K.Low (λ_=>True) λ_ _=>True) n a w->MJ 8 0 n a w
structure JB (gs:Array Goroutine) (w:World) (T:Trace) (q:Nat->Nat) (d0 dj:Nat) (rel:Option Nat):Prop where
 lE:K.j<gs.size
 gU:∀i g,0<i->i≠K.j->gs[i]? =some g->QuitsD P (q i) (Deaf T i) g
 above:∀i,gs.size<=i->Deaf T i=0
 e0:Deaf T 0=d0
 ej:Deaf T K.j=dj
 past:jV K.S K.Wg K.j K.Low rel T
 full: @Full K.au1 K.C K.vals w
 A6: @Full K.I' K.C' K.lM w
def Jn.Ev0 (K:Jn P)(e:Event):Prop:=
 (∀b,(MemAct.ofEvent e).touch?=some b->(K.S b.loc->b.kind≠.plain)/\(OfWg K.Wg b.loc->b.kind≠.plain))/\(MemAct.ofEvent e).low K.Low/\MemAct.ofEvent e≠.mark (.release (stA K.Wg))
def Jn.EvJ (K:Jn P)(e:Event):Prop:=
 (∀b,(MemAct.ofEvent e).touch?=some b->OfWg K.Wg b.loc/\b.kind=.atomic)/\(MemAct.ofEvent e).low K.Low/\MemAct.ofEvent e≠.mark (.release (stA K.Wg))
variable {K}
def acN {e:Event}(h:EvQ (λ_=>True) K.Wg K.C 0 e):K.Ev0 e:=by obtain⟨h1,_⟩:=h;obtain⟨_,h2,h3,h4⟩:=h1 0 "";obtain⟨h5,h6,_⟩:=K.ok _ h4;exact⟨λb hb=>⟨(h5 b hb).1,λhw=>(h5 b hb).1 (K.Ky _ hw)⟩,h6,h3⟩
def acQ {e:Event}(h:EvQ (λ_=>True) K.Wg K.C 1 e)(h': @EvQ (λ_=>True) K.Wg K.C' K.Y' 1 e):K.EvJ e/\e.loc≠.mark .disable/\e.loc≠.mark .enable:=by
 obtain⟨h1,hd,he,_⟩:=h;obtain⟨rP,_⟩:=h';obtain⟨_,h2,h3,h4⟩:=h1 0 "";obtain⟨_,lr,_⟩:=rP 0 "";obtain⟨_,h6,_⟩:=K.ok _ h4;refine⟨⟨λb hb=>?_,h6,h3⟩,hd,he⟩
 have hw:OfWg K.Wg b.loc:=by
  have f1:=(h2 b hb).1;have f2:=(lr b hb).1;rcases f1 with f1|⟨f1,_⟩|⟨_,_,f1⟩
  ·rcases f2 with f2|⟨f2,_⟩|⟨_,_,f2⟩
   ·rcases f1 with(⟨a,ha,dJ⟩|f1)|⟨a,ha,dJ,_⟩
    ·exact⟨a,ha,dJ⟩
    ·rcases f2 with(⟨a,ha,dJ⟩|f2)|⟨a,ha,dJ,_⟩
     ·exact⟨a,ha,dJ⟩
     ·rw[f1]at f2;exact absurd (Loc.obj.inj f2) K.Gt
     ·rw[f1]at ha;cases ha
    ·rcases f2 with(⟨x,hx,Ei⟩|f2)|⟨x,hx,Ei,_⟩
     ·exact⟨x,hx,Ei⟩
     ·rw[ha]at f2;cases f2
     ·rw[ha]at hx;cases hx;exact absurd (dJ.symm.trans Ei) K.Gt
   ·cases f2
   ·exact absurd trivial f2
  ·cases f1
  ·exact absurd trivial f1
 refine⟨hw,?_⟩;obtain⟨a,ha,dr⟩:=hw;have:=(h2 b hb).2.1 (.inl ⟨a,ha,dr⟩)
 cases hk:b.kind with
 |plain=>exact absurd hk this.1
 |atomic=>rfl
 |said=>exact absurd (this.2 hk) ai
variable {gs:Array Goroutine}{w w':World}{T:Trace}{q:Nat->Nat}{d0 dj:Nat}{rel:Option Nat}
def xc {g:Nat}{fn:FuncId}{pos:String}{es:Array Event}{X:MemAct->Prop}(h:∀e∈es,X (MemAct.ofEvent e)):∀op∈MemOp.ofEvents g fn pos es,X op.act:=by intro op aS;obtain⟨e,he,rfl⟩:=Conc.mem_ofEvents aS;exact h e he
def zZ {g:Nat}{fn:FuncId}{pos:String}{es:Array Event}:∀op∈MemOp.ofEvents g fn pos es,op.g=g:=by intro op aS;obtain⟨e,_,rfl⟩:=Conc.mem_ofEvents aS;rfl
def JB.main (h:JB K gs w T q d0 dj rel){a a':Goroutine}{fn:FuncId}{pos:String}{es:Array Event}{Qe:Nat}(he:∀e∈es,K.Ev0 e)(hd:deafBehind d0 es=Qe)(hw:∀b,b<K.Low->b≠K.Wg->w'.heap[b]? =w.heap[b]?):
 JB K (mN P gs 0 a a' w') w' (T++MemOp.ofEvents 0 fn pos es) q Qe dj rel:=by
 have fL:∀i,i≠0->Deaf (T++MemOp.ofEvents 0 fn pos es) i=Deaf T i:=λi hi=>Deaf_other T (λx=>hi x.symm) _ zZ;refine⟨by rw[iL];exact h.lE,λi x h1 h2 hx=>?_,λi hi=>?_,by rw[Deaf_own,h.e0,hd],by rw[fL _ (by have:=K.hj;omega),h.ej],?_,λhc=>(hw _ K.hC K.xI).trans (h.full hc),λhc=>(hw _ K.xH K.Ko).trans (h.A6 hc)⟩
 ·obtain⟨z,hz,rfl⟩:=wY aa hx;have hq:=h.gU i z h1 h2 hz;rw[woken_quitsD hq,fL i aa];exact hq
 ·rw[iL]at hi;have:=h.lE;rw[fL i aa];exact h.above i hi
 ·exact h.past.app0 zZ (xc (X:=λact=>∀b,act.touch?=some b->(K.S b.loc->b.kind≠.plain)/\(OfWg K.Wg b.loc->b.kind≠.plain)) λe x=>(he e x).1) (xc (X:=λact=>act.low K.Low) λe x=>(he e x).2.1) (xc (X:=λact=>act≠.mark (.release (stA K.Wg))) λe x=>(he e x).2.2)
def JB.work (h:JB K gs w T q d0 dj rel){b b':Goroutine}{fn:FuncId}{pos:String}{es:Array Event}{Qk:Nat}{Aj:Option Nat}(hd:deafBehind dj es=Qk)(hw:∀b,b<K.Low->b≠K.Wg->w'.heap[b]? =w.heap[b]?)
 (hp:jV K.S K.Wg K.j K.Low Aj (T++MemOp.ofEvents K.j fn pos es)):JB K (mN P gs K.j b b' w') w' (T++MemOp.ofEvents K.j fn pos es) q d0 Qk Aj:=by
 have fL:∀i,i≠K.j->Deaf (T++MemOp.ofEvents K.j fn pos es) i=Deaf T i:=λi hi=>Deaf_other T (λx=>hi x.symm) _ zZ;refine⟨by rw[iL];exact h.lE,λi x h1 h2 hx=>?_,λi hi=>?_,by rw[fL 0 (by have:=K.hj;omega),h.e0],by rw[Deaf_own,h.ej,hd],hp,λhc=>(hw _ K.hC K.xI).trans (h.full hc),λhc=>(hw _ K.xH K.Ko).trans (h.A6 hc)⟩
 ·obtain⟨z,hz,rfl⟩:=wY h2 hx;have hq:=h.gU i z h1 h2 hz;rw[woken_quitsD hq,fL i h2];exact hq
 ·rw[iL]at hi;have:=h.lE;rw[fL i aa];exact h.above i hi
def JB.at (h:JB K gs w T q d0 dj rel)(d:Nat):JB K gs (w.at d) T q d0 dj rel:=⟨h.lE,h.gU,h.above,h.e0,h.ej,h.past,h.full,h.A6⟩
def JB.CX (h:JB K gs w T q d0 1 rel){fn:FuncId}{pos:String}{es:Array Event}(he:∀e∈es,K.EvJ e)(hd:∀j e,es[j]? =some e->(MemAct.ofEvent e).touch?=none\/0<deafBehind 1 (es.extract 0 j)):jV K.S K.Wg K.j K.Low rel (T++MemOp.ofEvents K.j fn pos es):=by
 refine h.past.appJ zZ (xc (X:=λact=>∀b,act.touch?=some b->OfWg K.Wg b.loc/\b.kind=.atomic) λe x=>(he e x).1) (.inr ⟨K.Ky,λk hk hc=>?_⟩) (xc (X:=λact=>act.low K.Low) λe x=>(he e x).2.1) (xc (X:=λact=>act≠.mark (.release (stA K.Wg))) λe x=>(he e x).2.2);obtain⟨x,hx,hm,ou⟩:=hc;obtain⟨op,aS,SJ⟩:=touch_of (show touchAt _ k=some x from hx);rw[Array.getElem?_append_right hk,ofEvents_eq,Array.getElem?_map]at aS;obtain⟨e,GL,rfl⟩:=Option.map_eq_some_iff.1 aS;have hks:k-T.size<es.size:=(Array.getElem?_eq_some_iff.1 GL).1;rcases hd (k-T.size) e GL with h0|h0
 ·have:(MemAct.ofEvent e).touch?=some x:=SJ;rw[h0]at this;cases this
 ·rcases ou with ou|⟨g,hg,hg0⟩
  ·exact ou ((he e (Array.mem_of_getElem? GL)).1 x SJ).2
  ·have e1:(T++MemOp.ofEvents K.j fn pos es).g? k=some K.j:=by unfold Trace.g?;rw[Array.getElem?_append_right hk,ofEvents_eq,Array.getElem?_map,GL];rfl
   rw[hg]at e1
   cases e1
   have:=deaf_inside T K.j fn pos es (k-T.size) aa;rw[show T.size+(k-T.size)=k by omega,hg0,h.ej]at this;omega
end
section
attribute [local instance] Jn.Y
variable {P:Program}
def WW(K:Jn P)(mt ct:Nat)(w:World):Prop:=
 (mt<=4/\ct<=3/\WgAt K.ty K.Wg w KK 0)\/((mt=5\/mt=10)/\ct<=3/\WgAt K.ty K.Wg w (KK+1) 0)\/((mt=5\/mt=10)/\(ct=4\/ct=5)/\WgAt K.ty K.Wg w 1 0)\/
  ((mt=5\/mt=10)/\ct=6/\WgAt K.ty K.Wg w 0 0)\/(mt=5/\ct=7/\WgAt K.ty K.Wg w 0 1)\/((mt<=4\/(6<=mt/\mt<=8))/\ct=7/\WgAt K.ty K.Wg w 0 0)
def rk(ct mt:Nat):Nat:=
 if ct=7 then(if mt=5 then 20 else if mt=4 then 9 else if mt=3 then 7 else if mt=2 then 8 else if mt=1 then 10 else if mt=6 then 6 else if mt=7 then 5 else 4)
 else 20-mt
variable {K:Jn P}
def yE:∀x y z,RCa K.ty K.Wg K.Low x y->RCa K.ty K.Wg K.Low y z->RCa K.ty K.Wg K.Low x z:=λ_ _ _ h h'=>h.trans h'
def NH:∀x y z,RCd K.Low x y->RCd K.Low y z->RCd K.Low x z:=λ_ _ _ h h'=>h.trans h'
variable {w w':World}{ct cd cn:Nat}{b:Goroutine}
def WJ.low(h:WJ K ct cd cn b w)(hl:∀x,x<K.Low->w'.heap[x]? =w.heap[x]?):WJ K ct cd cn b w':=by
 have ha:RCa K.ty K.Wg K.Low w w':=RCd.toA K.hW hl
 cases h with
 |c0 h1 h2 h3=>exact .c0 h1 h2 (K.hZ w w' (λx hx _=>hl x hx) h3)
 |c1 h1 h2=>exact .c1 (Goes.rely yE h1 ha) (Goes.rely yE h2 ha)
 |c2 h1=>exact .c2 (Goes.rely yE h1 ha)
 |c3 h1=>exact .c3 (Goes.rely yE h1 ha)
 |c4 h1=>exact .c4 (Goes.rely NH h1 hl)
 |c5 h1=>exact .c5 (Goes.rely NH h1 hl)
 |c6 h1=>exact .c6 (Goes.rely NH h1 hl)
 |c7 h1=>exact .c7 h1
def WJ.ka(h:WJ K ct cd cn b w)(hl:∀x,x<K.Low->x≠K.Wg->w'.heap[x]? =w.heap[x]?)(hk:KCa K.ty K.Wg w->KCa K.ty K.Wg w')(hc:ct<=3\/ct=7):WJ K ct cd cn b w':=by
 have ha:RCa K.ty K.Wg K.Low w w':=⟨hl,hk⟩
 cases h with
 |c0 h1 h2 h3=>exact .c0 h1 h2 (K.hZ w w' hl h3)
 |c1 h1 h2=>exact .c1 (Goes.rely yE h1 ha) (Goes.rely yE h2 ha)
 |c2 h1=>exact .c2 (Goes.rely yE h1 ha)
 |c3 h1=>exact .c3 (Goes.rely yE h1 ha)
 |c4 h1=>omega
 |c5 h1=>omega
 |c6 h1=>omega
 |c7 h1=>exact .c7 h1
def WJ.status (h:WJ K ct cd cn b w)(h1:KCa K.ty K.Wg w\/4<=ct):b.status=.running\/(b.status=.finished/\ct=7):=by
 cases h with
 |c0 h1 h2 h3=>exact .inl ((eE.status h2).elim (·.1) (λz=>aa))
 |c1 h1 h2=>exact .inl (h1.running (λ_ _ x=>x.1) w (RCa.refl w))
 |c2 h1=>exact .inl (h1.running (λ_ _ x=>x.1) w (RCa.refl w))
 |c3 h1=>exact .inl (h1.running (λ_ _ x=>x.1) w (RCa.refl w))
 |c4 h1=>exact .inl (h1.running (λ_ _ x=>x.1) w (RCd.refl w))
 |c5 h1=>exact .inl (h1.running (λ_ _ x=>x.1) w (RCd.refl w))
 |c6 h1=>exact .inl (h1.running (λ_ _ x=>x.1) w (RCd.refl w))
 |c7 h1=>exact h1.status.imp id (λx=>⟨x,rfl⟩)
def vo(w:World)(o:Nat)(v:Value):∀x,x<K.Low->x≠K.Wg->(w.setCell ⟨K.Wg,o,none⟩ v).heap[x]? =w.heap[x]? :=by intro x _ hx;simp only[World.setCell,Array.getElem?_modify];rw[if_neg (λe=>hx e.symm)]
def Ka{au1:Payload}{C:Nat}{vals:List Value}(h: @Full au1 C vals w)(e:w'.heap[C]? =w.heap[C]?): @Full au1 C vals w':=λhc=>e.trans (h hc)
def FO(K:Jn P)(mt md mn ct cd cn:Nat)(b:Goroutine)(w:World)(a':Goroutine)(w':World)(es:Array Event):Prop:=
 (∀e∈es,K.Ev0 e)/\(∀x,x<K.Low->x≠K.Wg->w'.heap[x]? =w.heap[x]?)/\WJ K ct cd cn b w'/\∃kH pB,MJ K kH (deafBehind md es) pB a' w'/\WW K kH ct w'/\(rk ct kH<rk ct mt\/(rk ct kH=rk ct mt/\pB<mn))
def Gm{m:Mark}(h1:(MemAct.mark m).low K.Low)(h2:∀x,(MemAct.mark m).touch?≠some x)(h3:m≠.release (stA K.Wg)):K.Ev0 (mk m):=by refine⟨λb hb=>absurd hb (h2 b),h1,λe=>?_⟩;injection e with e;exact h3 e
def A4(a:Addr)(ha:a.block=K.Wg)(x:Bool):K.Ev0 ⟨.cell a,x,true⟩:=by
 refine⟨λb hb=>?_,?_,?_⟩
 ·cases x<;>simp[MemAct.ofEvent,MemAct.touch?]at hb<;>subst hb<;>exact⟨λ_=>al,λ_=>al⟩
 ·cases x<;>(show a.block<K.Low;rw[ha];exact K.hW)
 ·cases x<;>simp[MemAct.ofEvent]
def acO:∀e∈semEvents (smA K.Wg),K.Ev0 e:=by
 intro e he;simp[semEvents]at he;rcases he with rfl|rfl|rfl|rfl
 ·exact Gm (m:=.disable) trivial (by simp[MemAct.touch?]) al
 ·exact A4 _ rfl _
 ·exact A4 _ rfl _
 ·exact Gm (m:=.enable) trivial (by simp[MemAct.touch?]) al
variable {mt md mn:Nat}{a:Goroutine}{n:Nat}
def inner{R:World->World->Prop}{Stop:Goroutine->World->Prop}(hc:WJ K ct cd cn b w)(hw:WW K mt ct w)(mk:∀{n a w},Goes P true R K.Di Stop n a w->MJ K mt md n a w){a':Goroutine}{es:Array Event}(hD:K.Di w w' es)(hg:Goes P true R K.Di Stop n a' w')(hn:n<mn):
 FO K mt md mn ct cd cn b w a' w' es:=by
 obtain⟨hl,he⟩:=hD;refine⟨λe h=>acN (he e h),λx hx _=>hl x hx,hc.low hl,mt,n,?_,?_,.inr ⟨rfl,hn⟩⟩
 ·rw[deafBehind_still (λe h=>⟨(he e h).2.1,(he e h).2.2.1⟩)];exact mk hg
 ·have e:=hl K.Wg K.hW;simp only[WW,WgAt,e];exact hw
def MJ.VO(hc:WJ K ct cd cn b w)(hw:WW K mt ct w)(hf: @Full K.au1 K.C K.vals w)(zE:mt=3\/mt=2)(hmd:md=1)(hn:n<=mn\/mt=2)(h:Goes P true K.Ra K.Di (@AtW1 K.au1 P K.ty K.Wg K.C K.Low K.Y K.vals (λ_=>True) K.vE λ_ _=>True) n a w):
 ∃a' w' es,stepG P true a w=.go a' w' es/\FO K mt md mn ct cd cn b w a' w' es:=by
 letI:=K.au1
 subst hmd;rcases Goes.cases h with il|⟨n',rfl,gL⟩
 ·obtain⟨_,a',hgo,h1,h2⟩:=il w (RPa.refl w);refine⟨a',w,_,hgo,λe he=>?_,λ_ _ _=>rfl,hc,?_⟩
  ·simp at he;subst he;exact A4 _ rfl _
  ·rcases hw with⟨_,fX,hw⟩|⟨x,_⟩|⟨x,_⟩|⟨x,_⟩|⟨x,_⟩|⟨_,fX,hw⟩
   ·obtain⟨m,hm⟩:=h1 hw;exact⟨4,m,.a4 hm,.inl ⟨aa,fX,hw⟩,.inl (by unfold rk;rw[if_neg aa,if_neg aa];omega)⟩
   ·omega
   ·omega
   ·omega
   ·omega
   ·obtain⟨m,hm⟩:=h2 ⟨hw,hf⟩;subst fX;exact⟨7,m,.a7 hm,.inr (.inr (.inr (.inr (.inr ⟨.inr ⟨aa,aa⟩,rfl,hw⟩)))),.inl (by rcases zE with rfl|rfl<;>decide)⟩
 ·obtain⟨a',w',es,hgo,hD,fD⟩:=gL w (RPa.refl w);refine⟨a',w',es,hgo,?_⟩;rcases zE with rfl|rfl
  ·exact inner hc hw .a3 hD fD aa
  ·have hw3:WW K 3 ct w:=by
    rcases hw with⟨_,fX,hw⟩|⟨x,_⟩|⟨x,_⟩|⟨x,_⟩|⟨x,_⟩|⟨_,fX,hw⟩
    ·exact .inl ⟨aa,fX,hw⟩
    ·omega
    ·omega
    ·omega
    ·omega
    ·exact .inr (.inr (.inr (.inr (.inr ⟨.inl aa,fX,hw⟩))))
   obtain⟨o1,o2,o3,kH,pB,o4,o5,o6⟩:=inner (mn:=n'+1) (md:=1) hc hw3 .a3 hD fD aa;refine⟨o1,o2,o3,kH,pB,o4,o5,.inl ?_⟩;have:rk ct 3<rk ct 2:=by unfold rk;split<;>simp
   omega
def MJ.step(h:MJ K mt md mn a w)(hm:mt≠10)(hc:WJ K ct cd cn b w)(hw:WW K mt ct w)(hf: @Full K.au1 K.C K.vals w):
 (∃a' w' es,stepG P true a w=.go a' w' es/\FO K mt md mn ct cd cn b w a' w' es)\/
  (ct=7/\md=0/\∃a',stepG P true a w=.go a' w #[mk (.acquire (stA K.Wg))]/\∃m,Goes P true AtRel (DPj (λ_=>True) K.Wg K.C K.Low) (AtRetJ P K.Wg K.C (λ_=>True) λ_ _=>True) m a' w):=by
 letI:=K.au1
 cases h with
 |blk _=>exact absurd rfl hm
 |a1 h=>
  left;rcases Goes.cases h with il|⟨n',rfl,gL⟩
  ·obtain⟨_,a',hgo,m,hg⟩:=il w (RPa.refl w);refine⟨a',w,_,hgo,λe he=>?_,λ_ _ _=>rfl,hc,2,m,.a2 hg,?_,.inl (by unfold rk;split<;>simp)⟩
   ·simp at he;subst he;exact Gm (m:=.disable) trivial (by simp[MemAct.touch?]) al
   ·rcases hw with⟨_,fX,hw⟩|⟨x,_⟩|⟨x,_⟩|⟨x,_⟩|⟨x,_⟩|⟨_,fX,hw⟩
    ·exact .inl ⟨aa,fX,hw⟩
    ·omega
    ·omega
    ·omega
    ·omega
    ·exact .inr (.inr (.inr (.inr (.inr ⟨.inl aa,fX,hw⟩))))
  ·obtain⟨a',w',es,hgo,hD,fD⟩:=gL w (RPa.refl w);exact⟨a',w',es,hgo,inner hc hw .a1 hD fD aa⟩
 |a2 h=>
  left;rcases Goes.cases h with il|⟨n',rfl,gL⟩
  ·obtain⟨m,rX⟩:=K.Rr a w (il w (RPa.refl w));exact MJ.VO hc hw hf (.inr rfl) rfl (.inr rfl) rX
  ·obtain⟨a',w',es,hgo,hD,fD⟩:=gL w (RPa.refl w);exact⟨a',w',es,hgo,inner hc hw .a2 hD fD aa⟩
 |a3 h=>exact .inl (MJ.VO hc hw hf (.inl rfl) rfl (.inl (Nat.le_refl _)) h)
 |a4 h=>
  left;rcases Goes.cases h with il|⟨n',rfl,gL⟩
  ·obtain⟨_,h1,h2⟩:=il w (RPa.refl w);rcases hw with⟨_,fX,hw⟩|⟨x,_⟩|⟨x,_⟩|⟨x,_⟩|⟨x,_⟩|⟨_,fX,hw⟩
   ·obtain⟨a',hgo,m,hg⟩:=h1 hw;refine⟨a',_,_,hgo,λe he=>?_,vo w 0 _,hc.ka (vo w 0 _) (λ_=>.inr (hw.setSt _)) (.inl fX),5,m,.a5 hg,.inr (.inl ⟨.inl rfl,fX,hw.setSt _⟩),.inl (by unfold rk;rw[if_neg aa,if_neg aa];omega)⟩;simp at he;rcases he with rfl|rfl<;>exact A4 _ rfl _
   ·omega
   ·omega
   ·omega
   ·omega
   ·obtain⟨a',hgo,m,hg⟩:=h2 ⟨hw,hf⟩;refine⟨a',w,_,hgo,λe he=>?_,λ_ _ _=>rfl,hc,2,m,.a2 hg,.inr (.inr (.inr (.inr (.inr ⟨.inl aa,fX,hw⟩)))),.inl (by subst fX;decide)⟩;simp at he;subst he;exact A4 _ rfl _
  ·obtain⟨a',w',es,hgo,hD,fD⟩:=gL w (RPa.refl w);exact⟨a',w',es,hgo,inner hc hw .a4 hD fD aa⟩
 |a5 h=>
  left;rcases Goes.cases h with il|⟨n',rfl,gL⟩
  ·obtain⟨_,_,h1,h2⟩:=il w (RPb.refl w)
   have blk:(∃st,WgAt K.ty K.Wg w st 0)->WW K 10 ct w->ct≠7->∃a' w' es,stepG P true a w=.go a' w' es/\FO K 5 1 mn ct cd cn b w a' w' es:=λbw jx h7=>
    ⟨_,w,_,h1 bw,λe he=>by simp at he,λ_ _ _=>rfl,hc,10,0,.blk il,jx,.inl (by unfold rk;rw[if_neg h7,if_neg h7];omega)⟩
   rcases hw with⟨x,_⟩|⟨_,fX,hw⟩|⟨_,fX,hw⟩|⟨_,fX,hw⟩|⟨_,fX,hw⟩|⟨x,_⟩
   ·omega
   ·exact blk ⟨_,hw⟩ (.inr (.inl ⟨.inr rfl,fX,hw⟩)) aa
   ·exact blk ⟨_,hw⟩ (.inr (.inr (.inl ⟨.inr rfl,fX,hw⟩))) aa
   ·exact blk ⟨_,hw⟩ (.inr (.inr (.inr (.inl ⟨.inr rfl,fX,hw⟩)))) aa
   ·obtain⟨a',hgo,m,hg⟩:=h2 ⟨hw,hf⟩;refine⟨a',_,_,hgo,acO,vo w 1 _,hc.ka (vo w 1 _) ?_ (.inr fX),6,m,.a6 hg,.inr (.inr (.inr (.inr (.inr ⟨.inr ⟨aa,aa⟩,fX,hw.setSm _⟩)))),.inl (by subst fX;decide)⟩;rintro(x|x)
    ·have:=(x.unique hw).1;exact absurd this ai
    ·have:=(x.unique hw).1;exact absurd this ai
   ·omega
  ·obtain⟨a',w',es,hgo,hD,fD⟩:=gL w (RPb.refl w);exact⟨a',w',es,hgo,inner hc hw .a5 hD fD aa⟩
 |a6 h=>
  left;rcases Goes.cases h with il|⟨n',rfl,gL⟩
  ·obtain⟨_,a',hgo,m,hg⟩:=il w (atRel_refl w);rcases hw with⟨x,_⟩|⟨x,_⟩|⟨x,_⟩|⟨x,_⟩|⟨x,_⟩|⟨_,fX,hw⟩<;>first|omega|skip
   refine⟨a',w,_,hgo,λe he=>?_,λ_ _ _=>rfl,hc,7,m,.a7 hg,.inr (.inr (.inr (.inr (.inr ⟨.inr ⟨aa,aa⟩,fX,hw⟩)))),.inl (by subst fX;decide)⟩;simp at he;subst he;exact A4 _ rfl _
  ·obtain⟨a',w',es,hgo,hD,fD⟩:=gL w (atRel_refl w);exact⟨a',w',es,hgo,inner hc hw .a6 hD fD aa⟩
 |a7 h=>
  left;rcases Goes.cases h with il|⟨n',rfl,gL⟩
  ·obtain⟨_,a',hgo,m,hg⟩:=il w (atRel_refl w);rcases hw with⟨x,_⟩|⟨x,_⟩|⟨x,_⟩|⟨x,_⟩|⟨x,_⟩|⟨_,fX,hw⟩<;>first|omega|skip
   refine⟨a',w,_,hgo,λe he=>?_,λ_ _ _=>rfl,hc,8,m,.a8 hg,.inr (.inr (.inr (.inr (.inr ⟨.inr ⟨aa,aa⟩,fX,hw⟩)))),.inl (by subst fX;decide)⟩;simp at he;subst he;exact Gm (m:=.enable) trivial (by simp[MemAct.touch?]) al
  ·obtain⟨a',w',es,hgo,hD,fD⟩:=gL w (atRel_refl w);exact⟨a',w',es,hgo,inner hc hw .a7 hD fD aa⟩
 |a8 h=>
  rcases Goes.cases h with il|⟨n',rfl,gL⟩
  ·obtain⟨_,a',hgo,m,hg⟩:=il w (atRel_refl w);rcases hw with⟨x,_⟩|⟨x,_⟩|⟨x,_⟩|⟨x,_⟩|⟨x,_⟩|⟨_,fX,hw⟩<;>first|omega|skip
   exact .inr ⟨fX,rfl,a',hgo,m,hg⟩
  ·obtain⟨a',w',es,hgo,hD,fD⟩:=gL w (atRel_refl w);exact .inl ⟨a',w',es,hgo,inner hc hw .a8 hD fD aa⟩
end
section
attribute [local instance] Jn.Y
variable {P:Program}
def AI(K:Jn P)(mt:Nat)(w w':World):Prop:=(mt<=4->K.Ra w w')/\(mt=5\/mt=10->K.Rb w w')/\(6<=mt->mt<=8->AtRel w w')
def Jc(K:Jn P)(mt ct cd cn:Nat)(rel:Option Nat)(T:Trace)(b:Goroutine)(w:World)(b':Goroutine)(w':World)(es:Array Event):Prop:=
 (∀x,x<K.Low->x≠K.Wg->w'.heap[x]? =w.heap[x]?)/\AI K mt w w'/\∃oV CM Aj,WJ K oV (deafBehind cd es) CM b' w'/\(∀fn pos,jV K.S K.Wg K.j K.Low Aj (T++MemOp.ofEvents K.j fn pos es))/\(Aj.isSome=decide (2<=oV))/\
  WW K (if oV=7/\mt=10 then 5 else mt) oV w'/\(mt=10->oV=7->mayWake P b=true)/\(ct<oV\/(oV=ct/\CM<cn))/\oV<=7
variable {K:Jn P}{w w':World}{mt:Nat}
def Nu(h1:w'.tape=w.tape)(h2:w'.os=w.os)(h3:w'.output=w.output)(h4:w'.heap.size=w.heap.size)(h5:∀k:Nat,w'.heap[k]? =w.heap[k]?)(h6:6<=mt->mt<=8->AtRel w w'):AI K mt w w':=by
 letI:=K.au1
 have ha:Aside2 K.C K.Wg w w':=⟨h1,h2,h3,h4,λk _ _=>h5 k⟩;have hg:∀{x y:Int},WgAt K.ty K.Wg w x y->WgAt K.ty K.Wg w' x y:=λh=>h.of_block (h5 _);have hf:Full K.C K.vals w->Full K.C K.vals w':=λh=>Ka h (h5 _);refine⟨λ_=>⟨ha,λh=>h.imp hg (λx=>⟨hg x.1,hf x.2⟩),λh=>⟨hg h.1,hf h.2⟩⟩,λ_=>⟨ha,λh=>?_,λh=>⟨hg h.1,hf h.2⟩⟩,h6⟩;rcases h with h|h|h|h
 ·exact .inl (hg h)
 ·exact .inr (.inl (hg h))
 ·exact .inr (.inr (.inl (hg h)))
 ·exact .inr (.inr (.inr ⟨hg h.1,hf h.2⟩))
def Fg(w:World):AI K mt w w:=Nu rfl rfl rfl rfl (λ_=>rfl) (λ_ _=>atRel_refl w)
def VS(w:World)(d:Nat):AI K mt w (w.at d):=Nu rfl rfl rfl rfl (λ_=>rfl) (λ_ _=>⟨d,rfl⟩)
def Ga(w:World)(o:Nat)(v:Value):Aside2 K.C K.Wg w (w.setCell ⟨K.Wg,o,none⟩ v):=
 ⟨rfl,rfl,rfl,by simp[World.setCell],λk _ hk=>by
  simp only[World.setCell,Array.getElem?_modify]
  rw[if_neg (λe=>hk e.symm)]⟩
def MQ{g:Nat}{fn:FuncId}{pos:String}:MemOp.ofEvents g fn pos #[]= #[]:=by simp[ofEvents_eq]
variable {ct:Nat}
def NW(h:WW K mt ct w)(e:w'.heap[K.Wg]? =w.heap[K.Wg]?):WW K mt ct w':=by simp only[WW,WgAt,e];exact h
def Wt(h:WW K mt ct w):WW K (if ct=7/\mt=10 then 5 else mt) ct w:=by
 split
 ·rename_i e;obtain⟨rfl,rfl⟩:=e;rcases h with⟨x,_⟩|⟨_,x,_⟩|⟨_,x,_⟩|⟨_,x,_⟩|⟨x,_⟩|⟨x,_⟩<;>omega
 ·exact h
variable {md cd cn:Nat}{b:Goroutine}{gs:Array Goroutine}{T:Trace}{q:Nat->Nat}{rel:Option Nat}
def E1{n':Nat}{b':Goroutine}(hB:JB K gs w T q md cd rel)(hw:WW K mt ct w)(hr:rel.isSome=decide (2<=ct))(h7:ct<7)(hj:WJ K ct cd n' b' w)(hn:n'<cn):Jc K mt ct cd cn rel T b w b' w #[]:=
 ⟨λ_ _ _=>rfl,Fg w,ct,n',rel,hj,λfn pos=>by rw[MQ,Array.append_empty];exact hB.past,hr,Wt hw,λ_ h=>aa,.inr ⟨rfl,hn⟩,aa⟩
def C3(a:Addr)(ha:a.block=K.Wg)(x:Bool):K.EvJ ⟨.cell a,x,true⟩:=by
 refine⟨λb hb=>?_,?_,?_⟩
 ·cases x<;>simp[MemAct.ofEvent,MemAct.touch?]at hb<;>subst hb<;>exact⟨⟨a,rfl,ha⟩,rfl⟩
 ·cases x<;>(show a.block<K.Low;rw[ha];exact K.hW)
 ·cases x<;>simp[MemAct.ofEvent]
def QC{m:Mark}(h1:(MemAct.mark m).low K.Low)(h2:∀x,(MemAct.mark m).touch?≠some x)(h3:m≠.release (stA K.Wg)):K.EvJ (mk m):=by refine⟨λb hb=>absurd hb (h2 b),h1,λe=>?_⟩;injection e with e;exact h3 e
def Nt(zE:mt=5\/mt=10)(h:K.Rb w w'):AI K mt w w':=⟨λx=>aa,λ_=>h,λx y=>aa⟩
def WJ.step(h:WJ K ct cd cn b w)(hr:b.status=.running)(hw:WW K mt ct w)(hB:JB K gs w T q md cd rel)(nO:rel.isSome=decide (2<=ct)):
 (∃b' w' es,stepG P false b w=.go b' w' es/\Jc K mt ct cd cn rel T b w b' w' es)\/
  (ct=0/\cd=0/\K.Z w/\∃cS,K.s.home cS/\stepG P false b w=.comm cS K.s.cases true K.s.shape w #[]):=by
 have e0:∀{es:Array Event},(∀e∈es,EvC (λ_=>False) K.B0 e)->es= #[]:=λhe=>Array.eq_empty_iff_forall_not_mem.2 λe hm=>by obtain⟨_,_,x,_⟩:=he e hm;exact x
 cases h with
 |c0 h1 h2 h3=>
  rcases eE.pick h2 hr h3 with⟨cS,es,k,rfl,qQ,eV,bw⟩|⟨n',y',d,es,bl,nM,eV,bw,lZ⟩
  ·right;obtain rfl:=e0 eV;exact⟨rfl,rfl,h3,cS,qQ.2.2.2.2.1,bw⟩
  ·left;obtain rfl:=e0 eV;refine⟨y',_,_,bw,λ_ _ _=>rfl,VS w d,0,n',rel,.c0 nM lZ (K.hZ w _ (λ_ _ _=>rfl) h3),λfn pos=>by rw[MQ,Array.append_empty];exact hB.past,nO,?_,λ_ h=>aa,.inr ⟨rfl,bl⟩,aa⟩;rw[if_neg aa];exact NW hw rfl
 |c1 h1 h2=>
  left;have Ly:rel=none:=by cases rel<;>simp_all
  subst Ly
  have release:∀{b':Goroutine},stepG P false b w=.go b' w #[mk (.releaseMerge (stA K.Wg))]->(∃m,Goes P false (RCa K.ty K.Wg K.Low) DC0 (AtK1 P K.ty K.Wg K.Low) m b' w)->
   ∃b' w' es,stepG P false b w=.go b' w' es/\Jc K mt 1 0 cn none T b w b' w' es:=by
   intro b' hgo ⟨m,hm⟩;refine⟨b',w,_,hgo,λ_ _ _=>rfl,Fg w,2,m,some T.size,.c2 hm,λfn pos=>?_,rfl,?_,λ_ h=>aa,.inl aa,aa⟩
   ·have:=hB.past.release hB.ej K.hW (op:={g:=K.j,fn:=fn,pos:=pos,act:=.mark (.releaseMerge (stA K.Wg))}) rfl rfl;simpa[ofEvents_eq,MemAct.ofEvent,mk]using this
   ·rw[if_neg aa];rcases hw with⟨x,_,y⟩|⟨x,_,y⟩|⟨_,x,_⟩|⟨_,x,_⟩|⟨_,x,_⟩|⟨_,x,_⟩<;>first|omega|skip
    ·exact .inl ⟨x,aa,y⟩
    ·exact .inr (.inl ⟨x,aa,y⟩)
  rcases Goes.cases h1 with il|⟨n',rfl,gL⟩
  ·obtain⟨_,_,b',hgo,hm⟩:=il w (RCa.refl w);exact release hgo hm
  ·rcases Goes.cases h2 with il|⟨aui,rfl,ahw⟩
   ·obtain⟨_,_,b',hgo,hm⟩:=il w (RCa.refl w);exact release hgo hm
   ·obtain⟨b',w',es,hgo,⟨hA,eV⟩,hg⟩:=gL w (RCa.refl w);obtain⟨aam,ar6,acM,Sj,⟨aeK,af5⟩,agf⟩:=ahw w (RCa.refl w);obtain⟨rfl,rfl,rfl⟩:b'=aam/\w'=ar6/\es=acM:=by rw[hgo]at Sj;injection Sj with x y z;exact⟨x,y,z⟩
    have lU:∀k:Nat,w'.heap[k]? =w.heap[k]? :=λk=>by
     by_cases e:k=K.C
     ·exact aeK.block k (λx=>K.Gt (e.symm.trans x))
     ·exact hA.block k e
    have kA:∀e∈es,K.EvJ e/\e.loc≠.mark .disable/\e.loc≠.mark .enable:=λe he=>acQ (eV e he) (af5 e he);have hd:deafBehind 0 es=0:=deafBehind_still (λe he=>(kA e he).2) _;refine⟨b',w',es,hgo,λx _ _=>lU x,Nu hA.tape hA.os hA.output hA.size lU ?_,1,n',none,by rw[hd];exact .c1 hg agf,λfn pos=>?_,rfl,?_,λ_ h=>aa,.inr ⟨rfl,aa⟩,aa⟩
    ·intro h6 h8;rcases hw with⟨x,_,y⟩|⟨x,_,y⟩|⟨_,x,_⟩|⟨_,x,_⟩|⟨_,x,_⟩|⟨_,x,_⟩<;>omega
    ·exact hB.past.appJ zZ (xc (X:=λact=>∀b,act.touch?=some b->OfWg K.Wg b.loc/\b.kind=.atomic) λe x=>(kA e x).1.1) (.inl rfl) (xc (X:=λact=>act.low K.Low) λe x=>(kA e x).1.2.1)
      (xc (X:=λact=>act≠.mark (.release (stA K.Wg))) λe x=>(kA e x).1.2.2)
    ·rw[if_neg aa];exact NW hw (lU _)
 |c2 h1=>
  left;rcases Goes.cases h1 with il|⟨n',rfl,gL⟩
  ·obtain⟨_,b',hgo,m,hm⟩:=il w (RCa.refl w);refine⟨b',w,_,hgo,λ_ _ _=>rfl,Fg w,3,m,rel,.c3 hm,λfn pos=>?_,nO,?_,λ_ h=>aa,.inl aa,aa⟩
   ·refine hB.past.appMute ?_ ?_ ?_<;>(intro op aS;obtain⟨e,he,rfl⟩:=Conc.mem_ofEvents aS;simp at he;subst he)
    ·rfl
    ·trivial
    ·simp[MemAct.ofEvent,mk]
   ·rw[if_neg aa];rcases hw with⟨x,_,y⟩|⟨x,_,y⟩|⟨_,x,_⟩|⟨_,x,_⟩|⟨_,x,_⟩|⟨_,x,_⟩<;>first|omega|skip
    ·exact .inl ⟨x,aa,y⟩
    ·exact .inr (.inl ⟨x,aa,y⟩)
  ·obtain⟨b',w',es,hgo,⟨rfl,rfl⟩,hg⟩:=gL w (RCa.refl w);exact⟨b',_,_,hgo,E1 hB hw nO aa (.c2 hg) aa⟩
 |c3 h1=>
  left
  letI:=K.au1
  have bk:∀e∈(#[rd (stA K.Wg),wr (stA K.Wg)]:Array Event),K.EvJ e:=by intro e he;simp at he;rcases he with rfl|rfl<;>exact C3 _ rfl _
  have Qh:∀j e,(#[rd (stA K.Wg),wr (stA K.Wg)]:Array Event)[j]? =some e->(MemAct.ofEvent e).touch?=none\/0<deafBehind 1 ((#[rd (stA K.Wg),wr (stA K.Wg)]:Array Event).extract 0 j):=by
   intro j e he
   match j,he with
   |0,_=>exact .inr (by simp[deafBehind])
   |1,_=>exact .inr (by simp[deafBehind,rd])
   |j+2,he=>simp at he
  rcases Goes.cases h1 with il|⟨n',rfl,gL⟩
  ·obtain⟨_,hl,hm⟩:=il w (RCa.refl w);rcases hw with⟨x,_,y⟩|⟨x,_,y⟩|⟨_,x,_⟩|⟨_,x,_⟩|⟨_,x,_⟩|⟨_,x,_⟩<;>first|omega|skip
   ·obtain⟨b',hgo,qq,hq⟩:=hl y
    refine⟨b',_,_,hgo,vo w 0 _,⟨λ_=>⟨Ga w 0 _,λ_=>.inr ⟨y.setSt _,Ka hB.full (vo w 0 _ _ K.hC K.xI)⟩,λz=>absurd (z.1.unique y).1 ai⟩,λz=>aa,λz=>aa⟩,
     7,qq,rel,.c7 hq,λfn pos=>hB.CX bk Qh,by rw[nO];rfl,?_,λz=>aa,.inl aa,aa⟩
    rw[if_neg aa];exact .inr (.inr (.inr (.inr (.inr ⟨.inl x,rfl,y.setSt _⟩))))
   ·obtain⟨b',hgo,m,hg⟩:=hm y;refine⟨b',_,_,hgo,vo w 0 _,Nt x ⟨Ga w 0 _,λ_=>.inr (.inl (y.setSt _)),λz=>absurd (z.1.unique y).1 ai⟩,4,m,rel,.c4 hg,λfn pos=>hB.CX bk Qh,by rw[nO];rfl,?_,λ_ z=>aa,.inl aa,aa⟩;rw[if_neg aa];exact .inr (.inr (.inl ⟨x,.inl rfl,y.setSt _⟩))
  ·obtain⟨b',w',es,hgo,⟨rfl,rfl⟩,hg⟩:=gL w (RCa.refl w);exact⟨b',_,_,hgo,E1 hB hw nO aa (.c3 hg) aa⟩
 |c4 h1=>
  left;rcases Goes.cases h1 with il|⟨n',rfl,gL⟩
  ·obtain⟨_,b',hgo,m,hm⟩:=il w (RCd.refl w);refine⟨b',w,_,hgo,λ_ _ _=>rfl,Fg w,5,m,rel,.c5 hm,λfn pos=>hB.CX ?_ ?_,by rw[nO];rfl,?_,λ_ h=>aa,.inl aa,aa⟩
   ·intro e he;simp at he;subst he;exact C3 _ rfl _
   ·intro j e he
    match j,he with
    |0,_=>exact .inr (by simp[deafBehind])
    |j+1,he=>simp at he
   ·rw[if_neg aa];rcases hw with⟨_,x,y⟩|⟨_,x,y⟩|⟨x,_,y⟩|⟨_,x,_⟩|⟨_,x,_⟩|⟨_,x,_⟩<;>first|omega|skip
    exact .inr (.inr (.inl ⟨x,.inr rfl,y⟩))
  ·obtain⟨b',w',es,hgo,⟨rfl,rfl⟩,hg⟩:=gL w (RCd.refl w);exact⟨b',_,_,hgo,E1 hB hw nO aa (.c4 hg) aa⟩
 |c5 h1=>
  left
  letI:=K.au1
  rcases Goes.cases h1 with il|⟨n',rfl,gL⟩
  ·obtain⟨_,b',hgo,m,hm⟩:=il w (RCd.refl w);rcases hw with⟨_,x,y⟩|⟨_,x,y⟩|⟨x,_,y⟩|⟨_,x,_⟩|⟨_,x,_⟩|⟨_,x,_⟩<;>first|omega|skip
   refine⟨b',_,_,hgo,vo w 0 _,Nt x ⟨Ga w 0 _,λ_=>.inr (.inr (.inl (y.setSt _))),λz=>absurd (z.1.unique y).2 ai⟩,6,m,rel,.c6 hm,λfn pos=>hB.CX ?_ ?_,by rw[nO];rfl,?_,λ_ h=>aa,.inl aa,aa⟩
   ·intro e he;simp at he;subst he;exact C3 _ rfl _
   ·intro j e he
    match j,he with
    |0,_=>exact .inr (by simp[deafBehind])
    |j+1,he=>simp at he
   ·rw[if_neg aa];exact .inr (.inr (.inr (.inl ⟨x,rfl,y.setSt _⟩)))
  ·obtain⟨b',w',es,hgo,⟨rfl,rfl⟩,hg⟩:=gL w (RCd.refl w);exact⟨b',_,_,hgo,E1 hB hw nO aa (.c5 hg) aa⟩
 |c6 h1=>
  left
  letI:=K.au1
  rcases Goes.cases h1 with il|⟨n',rfl,gL⟩
  ·obtain⟨_,D2,b',hgo,qq,hq⟩:=il w (RCd.refl w);rcases hw with⟨_,x,y⟩|⟨_,x,y⟩|⟨_,x,y⟩|⟨x,_,y⟩|⟨_,x,_⟩|⟨_,x,_⟩<;>first|omega|skip
   refine⟨b',_,_,hgo,vo w 1 _,Nt x ⟨Ga w 1 _,λ_=>.inr (.inr (.inr ⟨y.setSm _,Ka hB.full (vo w 1 _ _ K.hC K.xI)⟩)),λz=>absurd (z.1.unique y).2 ai⟩,7,qq,rel,?_,λfn pos=>hB.CX ?_ ?_,by rw[nO];rfl,?_,λ_ _=>D2,.inl aa,aa⟩
   ·have:deafBehind 1 (semEvents (smA K.Wg))=1:=by simp[deafBehind,semEvents]
    rw[this];exact .c7 hq
   ·intro e he;simp[semEvents]at he;rcases he with rfl|rfl|rfl|rfl
    ·exact QC (m:=.disable) trivial (by simp[MemAct.touch?]) al
    ·exact C3 _ rfl _
    ·exact C3 _ rfl _
    ·exact QC (m:=.enable) trivial (by simp[MemAct.touch?]) al
   ·intro j e he
    match j,he with
    |0,he=>simp[semEvents]at he;subst he;exact .inl rfl
    |1,he=>exact .inr (by simp[deafBehind,semEvents])
    |2,he=>exact .inr (by simp[deafBehind,semEvents])
    |3,he=>simp[semEvents]at he;subst he;exact .inl rfl
    |j+4,he=>simp[semEvents]at he
   ·have:(if 7=7/\mt=10 then 5 else mt)=5:=by rcases x with rfl|rfl<;>rfl
    rw[this];exact .inr (.inr (.inr (.inr (.inl ⟨rfl,rfl,y.setSm _⟩))))
  ·obtain⟨b',w',es,hgo,⟨rfl,rfl⟩,hg⟩:=gL w (RCd.refl w);exact⟨b',_,_,hgo,E1 hB hw nO aa (.c6 hg) aa⟩
 |c7 h1=>
  left
  cases cn with
  |zero=>rw[h1.1]at hr;cases hr
  |succ n=>
   rcases h1 with⟨hf,_⟩|⟨_,b',es,hm,bw,hq⟩
   ·rw[hf]at hr;cases hr
   refine⟨b',w,es,bw w,λ_ _ _=>rfl,Fg w,7,n,rel,.c7 hq,λfn pos=>?_,nO,Wt hw,λx _=>?_,.inr ⟨rfl,aa⟩,aa⟩
   ·refine hB.past.appMute ?_ ?_ ?_<;>(intro op aS;obtain⟨e,he,rfl⟩:=Conc.mem_ofEvents aS)
    ·exact touch_mute (hm e he)
    ·exact low_mute (hm e he) _
    ·intro e';have:=hm e he;obtain⟨loc,wr,sy⟩:=e
     cases loc<;>simp_all[Event.mute,MemAct.ofEvent]
   ·subst x;rcases hw with⟨x,_⟩|⟨_,x,_⟩|⟨_,x,_⟩|⟨_,x,_⟩|⟨x,_⟩|⟨x,_⟩<;>omega
end
abbrev Mu:=Nat×Nat×Nat×Nat×Nat
def TM:Mu->Mu->Prop:=Prod.Lex (·<·) (Prod.Lex (·<·) (Prod.Lex (·<·) (Prod.Lex (·<·) (·<·))))
def aky:WellFounded TM:=
 (Prod.lex ⟨_,Nat.lt_wfRel.wf⟩ (Prod.lex ⟨_,Nat.lt_wfRel.wf⟩ (Prod.lex ⟨_,Nat.lt_wfRel.wf⟩ (Prod.lex ⟨_,Nat.lt_wfRel.wf⟩ ⟨_,Nat.lt_wfRel.wf⟩)))).wf
section
attribute [local instance] Jn.Y
variable {P:Program}{K:Jn P}
def Ix:∀x y z,K.Ra x y->K.Ra y z->K.Ra x z:=λ_ _ _ h h'=>by letI:=K.au1;exact h.trans h'
def V2:∀x y z,K.Rb x y->K.Rb y z->K.Rb x z:=λ_ _ _ h h'=>by letI:=K.au1;exact h.trans h'
variable {w w':World}{mt md mn:Nat}{a:Goroutine}
def MJ.rely (h:MJ K mt md mn a w)(s:AI K mt w w'):MJ K mt md mn a w':=by
 obtain⟨s1,s2,s3⟩:=s
 cases h with
 |a1 h=>exact .a1 (Goes.rely Ix h (s1 aa))
 |a2 h=>exact .a2 (Goes.rely Ix h (s1 aa))
 |a3 h=>exact .a3 (Goes.rely Ix h (s1 aa))
 |a4 h=>exact .a4 (Goes.rely Ix h (s1 aa))
 |a5 h=>exact .a5 (Goes.rely V2 h (s2 aa))
 |blk h=>exact .blk (λw₁ r=>h w₁ (V2 _ _ _ (s2 aa) r))
 |a6 h=>exact .a6 (Goes.rely atRel_trans h (s3 aa aa))
 |a7 h=>exact .a7 (Goes.rely atRel_trans h (s3 aa aa))
 |a8 h=>exact .a8 (Goes.rely atRel_trans h (s3 aa aa))
def MJ.status(h:MJ K mt md mn a w):(mt≠10/\a.status=.running)\/(mt=10/\a.status=.blocked/\a.offers=none):=by
 letI:=K.au1
 cases h with
 |a1 h=>exact .inl ⟨aa,h.running (λ_ _ x=>x.1) w (RPa.refl w)⟩
 |a2 h=>exact .inl ⟨aa,h.running K.Rs w (RPa.refl w)⟩
 |a3 h=>exact .inl ⟨aa,h.running (λ_ _ x=>x.1) w (RPa.refl w)⟩
 |a4 h=>exact .inl ⟨aa,h.running (λ_ _ x=>x.1) w (RPa.refl w)⟩
 |a5 h=>exact .inl ⟨aa,h.running (λ_ _ x=>x.1) w (RPb.refl w)⟩
 |blk h=>exact .inr ⟨rfl,rfl,(h w (RPb.refl w)).2.1⟩
 |a6 h=>exact .inl ⟨aa,h.running (λ_ _ x=>x.1) w (atRel_refl w)⟩
 |a7 h=>exact .inl ⟨aa,h.running (λ_ _ x=>x.1) w (atRel_refl w)⟩
 |a8 h=>exact .inl ⟨aa,h.running (λ_ _ x=>x.1) w (atRel_refl w)⟩
def MJ.other(h:MJ K mt md mn a w)(g g':Goroutine):∃kH pB,MJ K kH md pB (woken P g g' w a) w/\((kH=mt)\/(mt=10/\kH=5))/\(mt=10->mayWake P g=true->(g'.status=.running\/g'.status=.finished)->kH=5):=by
 letI:=K.au1
 rcases h.status with⟨aE,hr⟩|⟨rfl,_⟩
 ·exact⟨mt,mn,by rw[woken_of_again (again_of_running (.inl hr) w)];exact h,.inl rfl,λe=>absurd e aE⟩
 ·cases h with
  | @blk a _ h=>
    have hr:=(h w (RPb.refl w)).1;have ho:=(h w (RPb.refl w)).2.1;by_cases hw:(mayWake P g&&g'.status != .blocked&&g'.status != .waiting)=true
    ·refine⟨5,0,?_,.inr ⟨rfl,rfl⟩,λ_ _ _=>rfl⟩
     have e:woken P g g' w {a with status:=.blocked}=a:=by
      unfold woken;rw[if_pos hw];unfold Goroutine.again;simp only[ho];obtain⟨fr,cs,st,dy,of⟩:=a
      cases hr
      cases ho
      rfl
     rw[e];exact .a5 h
    ·refine⟨10,0,?_,.inl rfl,λ_ h1 h2=>?_⟩
     ·have e:woken P g g' w {a with status:=.blocked}={a with status:=.blocked}:=by unfold woken;rw[if_neg hw]
      rw[e];exact .blk h
     ·exfalso;apply hw;rw[h1];rcases h2 with h2|h2<;>rw[h2]<;>rfl
variable {ct:Nat}
def Wu(h:WW K 10 ct w):WW K 5 ct w:=by
 rcases h with⟨x,_⟩|⟨_,x,y⟩|⟨_,x,y⟩|⟨_,x,y⟩|⟨x,_⟩|⟨x,_⟩<;>first|omega|skip
 ·exact .inr (.inl ⟨.inl rfl,x,y⟩)
 ·exact .inr (.inr (.inl ⟨.inl rfl,x,y⟩))
 ·exact .inr (.inr (.inr (.inl ⟨.inl rfl,x,y⟩)))
variable {cd cn:Nat}{b:Goroutine}{gs:Array Goroutine}{q:Nat->Nat}{rel:Option Nat}
def JInv(K:Jn P)(μ:Mu)(m:Machine)(T:Trace):Prop:=
 ∃gs w sl q a b mt md mn ct cd cn rel,m=crowd gs w sl/\gs[0]? =some a/\gs[K.j]? =some b/\MJ K mt md mn a w/\WJ K ct cd cn b w/\JB K gs w T q md cd rel/\WW K mt ct w/\rel.isSome=decide (2<=ct)/\ct<=7/\
  μ=(7-ct,cn,sumTo gs.size q,rk ct mt,mn)
def Oq(K:Jn P)(m:Machine)(T:Trace):Prop:=
 ∃gs w sl q a n,m=crowd gs w sl/\gs[0]? =some a/\Goes P true AtRel (DPj (λ_=>True) K.Wg K.C K.Low) (AtRetJ P K.Wg K.C (λ_=>True) λ_ _=>True) n a w/\Leavers P T gs q/\Past K.S K.Low T
variable {T:Trace}
def JB.leave(h:JB K gs w T q md cd rel){i:Nat}(h1:0<i)(h2:i≠K.j){g:Goroutine}(hg:gs[i]? =some g)(hr:g.status=.running)(bE:Option (Nat×Nat)):
 ∃g' es q',runT P (crowd gs w bE) i=(.next (crowd (mN P gs i g g' w) w bE),MemOp.ofEvents i g.frame.fn g.frame.place es)/\sumTo gs.size q'<sumTo gs.size q/\JB K (mN P gs i g g' w) w (T++MemOp.ofEvents i g.frame.fn g.frame.place es) q' md cd rel:=by
 have hq:=h.gU i g h1 h2 hg;have qU:(i==0)=false:=by simp;omega
 have bl:i<gs.size:=(Array.getElem?_eq_some_iff.1 hg).1
 cases lY:q i with
 |zero=>rw[lY]at hq;rw[hq.1]at hr;cases hr
 |succ k=>
  rw[lY]at hq;rcases hq with⟨hf,_⟩|⟨_,g',es,hm,l7,bz⟩
  ·rw[hf]at hr;cases hr
  have eY:=runT_crowd_go (P:=P) (sl:=bE) (i:=i) hg (by rw[qU];exact l7 w)
  have LD:sumTo gs.size (upd q i k)+(k+1)=sumTo gs.size q+k:=by have:=sumTo_upd q k id bl;simpa[lY]using this
  have fL:∀k,k≠i->Deaf (T++MemOp.ofEvents i g.frame.fn g.frame.place es) k=Deaf T k:=λk e=>Deaf_other T (λx=>e x.symm) _ zZ;refine⟨g',es,upd q i k,eY,aa,by rw[iL];exact h.lE,λc x c1 c2 hx=>?_,λc hc=>?_,by rw[fL 0 aa];exact h.e0,by rw[fL _ (λe=>h2 e.symm)];exact h.ej,?_,h.full,h.A6⟩
  ·by_cases e:c=i
   ·subst e;rw[sA bl]at hx;obtain rfl:=Option.some.inj hx;rw[upd_same,Deaf_own];exact bz
   ·obtain⟨z,hz,rfl⟩:=wY e hx;have pk:=h.gU c z c1 c2 hz;rw[woken_quitsD pk,upd_ne q k e,fL c e];exact pk
  ·rw[iL]at hc;rw[fL c aa];exact h.above c hc
  ·refine h.past.appMute ?_ ?_ ?_<;>(intro op aS;obtain⟨e,he,rfl⟩:=Conc.mem_ofEvents aS)
   ·exact touch_mute (hm e he)
   ·exact low_mute (hm e he) _
   ·intro e';have:=hm e he;obtain⟨loc,wr,sy⟩:=e
    cases loc<;>simp_all[Event.mute,MemAct.ofEvent]
def JB.ET(h:JB K gs w T q md cd rel)(ha:gs[0]? =some a)(hm:MJ K mt md mn a w){c:Nat}{s:Bool}:partners (gs.setIfInBounds K.j ph) c s=[]:=by
 refine partners_nil λi z hz=>?_;rcases getElem?_stand gs K.j i z hz with⟨_,rfl⟩|⟨h1,h2⟩
 ·exact offersAt_ph c s
 ·by_cases e:i=0
  ·subst e;rw[ha]at h2;rw[<-Option.some.inj h2];rcases hm.status with⟨_,x⟩|⟨_,x,y⟩
   ·exact offersAt_of_not_blocked (by rw[x];simp) c s
   ·simp[offersAt,x,y]
  ·refine offersAt_of_not_blocked (λuA=>?_) c s;have:=(h.gU i z aa h1 h2).status;rcases this with y|y<;>rw[uA]at y<;>cases y
def join_step(μ:Mu)(m:Machine)(T:Trace)(h:JInv K μ m T):∃m' ops,stepT P m=(.next m',ops)/\(Oq K m' (T++ops)\/∃vC,TM vC μ/\JInv K vC m' (T++ops)):=by
 obtain⟨gs,Cl,sl,q,a,b,mt,md,mn,ct,cd,cn,rel,rfl,ha,hb,Ku,Kl,vY,Gy,nO,h7,rfl⟩:=h
 have Hy:∀{w:World},WW K mt ct w->KCa K.ty K.Wg w\/4<=ct:=by
  intro w hW;rcases hW with⟨_,_,x⟩|⟨_,_,x⟩|⟨_,x,_⟩|⟨_,x,_⟩|⟨_,x,_⟩|⟨_,x,_⟩
  ·exact .inl (.inl x)
  ·exact .inl (.inr x)
  all_goals exact .inr aa
 have R7:=Kl.status (Hy Gy);have Ln:=Ku.status;have hj:=K.hj
 have Ds:∀z∈gs,awake z:=by
  intro z hz;obtain⟨i,hi,rfl⟩:=Array.mem_iff_getElem.1 hz;by_cases e:i=0
  ·subst e;have:gs[0]=a:=by simpa[Array.getElem?_eq_getElem hi]using ha
   rw[this];exact awake_of (Ln.elim (λx=>.inl x.2) (λx=>.inr (.inl x.2.1)))
  ·by_cases e':i=K.j
   ·have:gs[i]=b:=by subst e';simpa[Array.getElem?_eq_getElem hi]using hb
    rw[this];exact awake_of (R7.elim .inl (λx=>.inr (.inr x.1)))
   ·exact awake_of ((vY.gU i _ aa e' (Array.getElem?_eq_getElem hi)).status.elim .inl λx=>.inr (.inr x))
 have kD:∃(i:Nat) (g:Goroutine),gs[i]? =some g/\g.status=.running:=by
  rcases Ln with⟨_,x⟩|⟨rfl,_⟩
  ·exact⟨0,a,ha,x⟩
  ·rcases R7 with x|⟨_,rfl⟩
   ·exact⟨_,b,hb,x⟩
   ·rcases Gy with⟨x,_⟩|⟨_,x,_⟩|⟨_,x,_⟩|⟨_,x,_⟩|⟨x,_⟩|⟨x,_⟩<;>omega
 obtain⟨i,z,d,bE,hi,hz,bw⟩:=crowd_pick (P:=P) (w:=Cl) (sl:=sl) Ds kD;have hM:MJ K mt md mn a (Cl.at d):=Ku.rely (VS Cl d);have hC:WJ K ct cd cn b (Cl.at d):=Kl.low (λ_ _=>rfl);have hB:=vY.at d;have hW:WW K mt ct (Cl.at d):=NW Gy rfl;generalize Cl.at d=w at*;clear Ku Kl vY Gy;have Rn:0<gs.size:=(Array.getElem?_eq_some_iff.1 ha).1;by_cases e0:i=0
 ·
  subst e0;obtain rfl:z=a:=by rw[ha]at hi;exact(Option.some.inj hi).symm
  have aE:mt≠10:=by rcases Ln with⟨x,_⟩|⟨_,x,_⟩;exact x;rw[hz]at x;cases x
  rcases hM.step aE hC hW hB.full with⟨a',w',es,hgo,kA,DY,xH,kH,pB,Kt,tf,bl⟩|⟨rfl,rfl,a',hgo,n,hg⟩
  ·have eY:=runT_crowd_go (P:=P) (sl:=bE) (i:=0) hi (show stepG P (0==0) z w=_ from hgo);have qT:=hC.status (Hy hW);refine⟨_,_,bw.trans eY,.inr ⟨(7-ct,cn,sumTo gs.size q,rk ct kH,pB),?_,_,w',bE,q,a',b,kH,_,pB,ct,cd,cn,rel,rfl,sA Rn _ _,rj aa hb (again_of_running (qT.elim .inl λx=>.inr x.1) _) _ _,Kt,xH,hB.main kA rfl DY,tf,nO,h7,by rw[iL]⟩⟩;refine .right _ (.right _ (.right _ ?_));rcases bl with bl|⟨he,bl⟩
   ·exact .left _ _ bl
   ·rw[he];exact .right _ bl
  ·
   have eY:=runT_crowd_go (P:=P) (sl:=bE) (i:=0) hi (show stepG P (0==0) z w=_ from hgo);obtain⟨r,rfl⟩:∃r,rel=some r:=by cases rel<;>simp_all
   cases hC with
   |c7 hq=>
    have fL:∀i,i≠0->Deaf (T++MemOp.ofEvents 0 z.frame.fn z.frame.place #[mk (.acquire (stA K.Wg))]) i=Deaf T i:=λi hi=>Deaf_other T (λx=>hi x.symm) _ zZ;have Qt:MemOp.ofEvents 0 z.frame.fn z.frame.place #[mk (.acquire (stA K.Wg))]= #[{g:=0,fn:=z.frame.fn,pos:=z.frame.place,act:=.mark (.acquire (stA K.Wg))}]:=by simp[ofEvents_eq,MemAct.ofEvent,mk]
    refine⟨_,_,bw.trans eY,.inl ⟨_,w,bE,upd q K.j cn,a',n,rfl,sA Rn _ _,hg,⟨λi x h1 hx=>?_,λi hi=>?_⟩,?_⟩⟩
    ·obtain⟨y,hy,rfl⟩:=wY aa hx;rw[fL i aa];by_cases e:i=K.j
     ·subst e;rw[hb]at hy;obtain rfl:=Option.some.inj hy;rw[woken_quitsD hq,upd_same,hB.ej];exact hq
     ·have ra:=hB.gU i y h1 e hy;rw[woken_quitsD ra,upd_ne q cn e];exact ra
    ·rw[iL]at hi;rw[fL i aa];exact hB.above i hi
    ·rw[Qt];refine dO.toPast (hB.past.acquire hB.e0 aa K.hW rfl rfl) ?_;rw[<-Qt,Deaf_own,hB.e0];rfl
 ·by_cases ej:i=K.j
  ·
   obtain rfl:z=b:=by rw[ej,hb]at hi;exact(Option.some.inj hi).symm
   have qU:(i==0)=false:=by simp;omega
   rcases hC.step hz hW hB nO with⟨b',w',es,hgo,DY,ahx,oV,CM,Aj,xH,hp',ahg,tf,hwk,bl,h7'⟩|⟨rfl,rfl,hZ,cS,agj,KQ⟩
   ·have eY:=runT_crowd_go (P:=P) (sl:=bE) (i:=i) (by rw[ej];exact hb) (by rw[qU];exact hgo);have Kt:=hM.rely ahx;obtain⟨kH,pB,Kv,zE,D2⟩:=Kt.other z b'
    have hWf:WW K kH oV w':=by
     rcases zE with rfl|⟨rfl,rfl⟩
     ·by_cases e:oV=7/\kH=10
      ·exfalso;obtain⟨rfl,rfl⟩:=e;have hs:=xH.status (.inr aa);have:=D2 rfl (hwk rfl rfl) (hs.imp id (·.1));omega
      ·rw[if_neg e]at tf;exact tf
     ·by_cases e:oV=7/\10=10
      ·rw[if_pos e]at tf;exact tf
      ·rw[if_neg e]at tf;exact Wu tf
    have Lm:(mN P gs i z b' w')[0]? =some (woken P z b' w' a):=by rw[Array.getElem?_setIfInBounds_ne aa,Array.getElem?_map,ha];rfl
    subst ej;refine⟨_,_,bw.trans eY,.inr ⟨(7-oV,CM,sumTo gs.size q,rk oV kH,pB),?_,_,w',bE,q,_,b',kH,md,pB,oV,_,CM,Aj,rfl,Lm,sA hB.lE _ _,Kv,xH,hB.work rfl DY (hp' _ _),hWf,ahg,h7',by rw[iL]⟩⟩;rcases bl with bl|⟨rfl,bl⟩
    ·exact .left _ _ aa
    ·exact .right _ (.left _ _ bl)
   ·
    obtain⟨⟨kc,qX⟩,ag6⟩:=K.RF w hZ
    have eH:∀(m:Nat) (c':CommCase),m≠K.kk->K.s.cases[m]? =some c'->NoWays w (gs.setIfInBounds K.j ph) c':=by intro m c' hm cF;obtain⟨h1,c,h2,h3⟩:=ag6 m c' hm cF;exact MD h2 h3 (hB.ET ha hM)
    have R5:=crowd_sel_recv_closed (P:=P) (sl:=bE) hb (by rw[show(K.j==0)=false from by simp;omega];exact KQ) K.hk eH qX (hB.ET ha hM);rw[ej]at bw;have hkw:KCa K.ty K.Wg w:=(Hy hW).resolve_right aa;obtain⟨⟨n1,g1⟩,n2,g2⟩:=K.serve cS w agj hkw hB.full hB.A6;have Ly:rel=none:=by cases rel<;>simp_all
    subst Ly;have eo:MemOp.ofEvents K.j z.frame.fn z.frame.place #[]= #[]:=MQ;rw[eo]at R5;have G9:∀op∈(#[]++ #[{g:=K.j,fn:=cS.frame.fn,pos:=cS.frame.place,act:=.recvClosed K.c3}]:Trace),op={g:=K.j,fn:=cS.frame.fn,pos:=cS.frame.place,act:=.recvClosed K.c3}:=by intro op aS;simpa using aS
    have hd:∀i,Deaf (T++(#[]++ #[{g:=K.j,fn:=cS.frame.fn,pos:=cS.frame.place,act:=.recvClosed K.c3}])) i=Deaf T i:=λi=>Deaf_quiet (λop aS d=>by rw[G9 op aS];rfl);refine⟨_,_,bw.trans R5,.inr ⟨(7-1,n1,sumTo gs.size q,rk 1 mt,mn),.left _ _ aa,_,w,bE,q,a,_,mt,md,mn,1,0,n1,none,rfl,by rw[Array.getElem?_setIfInBounds_ne aa];exact ha,Array.getElem?_setIfInBounds_self_of_lt hB.lE,hM,.c1 g1 g2,?_,?_,rfl,aa,al⟩⟩
    ·refine⟨by simpa using hB.lE,λi x h1 h2 hx=>?_,λi hi=>?_,by rw[hd];exact hB.e0,by rw[hd];exact hB.ej,?_,hB.full,hB.A6⟩
     ·rw[Array.getElem?_setIfInBounds_ne (λe=>h2 e.symm)]at hx;rw[hd];exact hB.gU i x h1 h2 hx
     ·rw[hd];exact hB.above i (aW hi)
     ·refine hB.past.appMute ?_ ?_ ?_<;>(intro op aS;rw[G9 op aS])
      ·rfl
      ·exact K.lv
      ·simp
    ·rcases hW with⟨x,_,y⟩|⟨x,_,y⟩|⟨_,x,_⟩|⟨_,x,_⟩|⟨_,x,_⟩|⟨_,x,_⟩<;>first|omega|skip
     ·exact .inl ⟨x,aa,y⟩
     ·exact .inr (.inl ⟨x,aa,y⟩)
  ·
   obtain⟨g',es,q',eY,bl,pa⟩:=hB.leave aa ej hi hz bE;obtain⟨kH,pB,Kv,zE,_⟩:=hM.other z g';have qT:=hC.status (Hy hW)
   have Lm:(mN P gs i z g' w)[0]? =some (woken P z g' w a):=by rw[Array.getElem?_setIfInBounds_ne aa,Array.getElem?_map,ha];rfl
   refine⟨_,_,bw.trans eY,.inr ⟨(7-ct,cn,sumTo gs.size q',rk ct kH,pB),.right _ (.right _ (.left _ _ bl)),_,w,bE,q',_,b,kH,md,pB,ct,cd,cn,rel,rfl,Lm,rj (λe=>ej e.symm) hb (again_of_running (qT.elim .inl λx=>.inr x.1) _) _ _,Kv,hC,pa,?_,nO,h7,by rw[iL]⟩⟩;rcases zE with rfl|⟨rfl,rfl⟩
   ·exact hW
   ·exact Wu hW
def ajg{μ:Mu}{m:Machine}(h:JInv K μ m T):∃N m' T',runNT P N m T=(.next m',T')/\Oq K m' T':=by
 induction μ using aky.induction generalizing m T with
 |_ μ ih=>
  obtain⟨m',ops,hs,he|⟨vC,bl,hI⟩⟩:=join_step μ m T h
  ·exact⟨1,m',T++ops,by simp only[runNT,hs],he⟩
  ·obtain⟨N,pz,oO,hr,hd⟩:=ih vC bl hI;exact⟨N+1,pz,oO,by simp only[runNT,hs];exact hr,hd⟩
end
end
section
open Go.Conc
open Go.ConcN (sumTo upd sumTo_upd upd_ne upd_same)
variable {P:Program}
structure Duo.FP (D:Duo P) (h x:Nat) (s:Seat) (g:Goroutine) (U:Hp) (gs:Array Goroutine) (w:World) (T:Trace) (q:Nat->Nat) (au2:Nat->Prop) (n:Nat) (y:Goroutine):Prop where
 hg:gs[h]? =some g
 hy:gs[x]? =some y
 afX:eE P (x==0) D.KW D.Still D.B s n y
 base:D.Base gs w T q
 past:dO D.S D.Still D.Q D.j x w.heap.size (Knows T h) T
 pF:cR au2 w U
 fP:∀b,D.Hid b->au2 b
variable {s:Seat}{g:Goroutine}{U:Hp}
def Duo.FP.picked{D:Duo P}{h x:Nat}(t:D.gC h x)(hs:D.Fits s)(hr:g.status=.running){au2:Nat->Prop}:∀(M:Nat) {gs:Array Goroutine} {w:World} {T:Trace} {q:Nat->Nat} {n:Nat} {y:Goroutine} (sl:Option (Nat×Nat)),
 n+sumTo gs.size q=M->D.FP h x s g U gs w T q au2 n y->∃N cg w' bE T' q' n' y' dd vw,runNT P N (crowd gs w sl) T=(.next (crowd cg w' bE),T')/\D.FP h x s g U cg w' T' q' au2 n' y'/\stepT P (crowd cg w' bE)=runT P (crowd cg (w'.at dd) vw) h:=by
 intro M
 induction M using Nat.strongRecOn with
 |_ M ih=>
  intro gs w T q n y sl hM hp;obtain⟨hg,hy,lZ,hb,Lu,fU,hJ⟩:=hp;have wL:=eE.status lZ;obtain⟨i,z,d,bE,hi,hz,bw⟩:=crowd_pick (P:=P) (w:=w) (sl:=sl) (hb.awake t hg hy (.inl hr) (wL.elim (λa=>.inl a.1) (λa=>.inr (.inl a.1)))) ⟨h,g,hg,hr⟩;by_cases eh:i=h
  ·subst eh;exact⟨0,gs,w,sl,T,q,n,y,d,bE,rfl,⟨hg,hy,lZ,hb,Lu,fU,hJ⟩,bw⟩
  ·by_cases ex:i=x
   ·subst ex;obtain rfl:z=y:=by rw[hy]at hi;exact(Option.some.inj hi).symm
    obtain⟨cg,y',n',d',es,eY,bl,gQ,fD,uQ,rf,dJ,eV⟩:=D.other t hs (sl:=bE) (hb.at d) hg (λd=>again_of_running (.inl hr) _) (λc b=>offersAt_of_not_blocked (by rw[hr];simp) c b) hy hz lZ;obtain⟨N,xF,w2,xo,T2,q2,n2,y2,dd,Ap,k1,k2,k3⟩:=ih (n'+sumTo cg.size q) (by rw[gQ];omega) bE rfl ⟨fD,uQ,rf,dJ,Lu.other (λ_ x=>x.app _) (λl hl=>(D.apart l hl).2) hb.ng eV,fU.at d',hJ⟩;exact⟨N+1,xF,w2,xo,T2,q2,n2,y2,dd,Ap,by simp only[runNT,bw,eY];exact k1,k2,k3⟩
   ·obtain⟨i1,i2⟩:=t.A3 eh ex;obtain⟨g',es,q',eY,hm,bl,dJ⟩:=hb.leave i1 i2 hi hz d bE
    obtain⟨N,xF,w2,xo,T2,q2,n2,y2,dd,Ap,k1,k2,k3⟩:=ih (n+sumTo (mN P gs i z g' (w.at d)).size q') (by rw[iL];omega) bE rfl
     ⟨rj (λe=>eh e.symm) hg (again_of_running (.inl hr) _) _ _,rj (λe=>ex e.symm) hy (eE.stays (hb.at d).chans hs lZ) _ _,lZ,dJ,
      Lu.appMute (λ_ x=>x.app _) (λop aS=>by obtain⟨e,he,rfl⟩:=Conc.mem_ofEvents aS;exact touch_mute (hm e he)) (λop aS=>by obtain⟨e,he,rfl⟩:=Conc.mem_ofEvents aS;exact low_mute (hm e he) _),fU.at d,hJ⟩
    exact⟨N+1,xF,w2,xo,T2,q2,n2,y2,dd,Ap,by simp only[runNT,bw,eY];exact k1,k2,k3⟩
structure Duo.Closed (D:Duo P) (c3:Nat) (s:Seat) (g:Goroutine) (U:Hp) (gs:Array Goroutine) (w:World) (T:Trace) (q:Nat->Nat) (au2:Nat->Prop) (n:Nat) (y:Goroutine):Prop where
 hg:gs[0]? =some g
 hy:gs[D.j]? =some y
 pos:0<n
 afX:eE P false D.KW D.Still D.B s n y
 lE:D.j<gs.size
 gU:∀i g,0<i->i≠D.j->gs[i]? =some g->QuitsD P (q i) (Deaf T i) g
 above:∀i,gs.size<=i->Deaf T i=0
 d0:Deaf T 0=0
 dj:Deaf T D.j=0
 k:D.K w
 shut:∃k,w.heap[c3]? =some (.chan 0 #[] true k k false)
 open_:∀c,D.chans c->c≠c3->Open c w
 rN:lQ D.W w
 nr:pO D.Q T
 past:dO D.S D.Still D.Q D.j D.j w.heap.size (Knows T 0) T
 pF:cR au2 w U
 fP:∀b,D.Hid b->au2 b
 ng:D.B<=w.heap.size
def Duo.shut(D:Duo P)(hs:D.Fits s)(ik:∀cc∈s.cases,cc.send=none){c3 kk:Nat}{z:Value}(hc:D.chans c3)(hk:s.cases[kk]? =some (rcase c3 z)){g':Goroutine}{m:Machine}{T:Trace}(nC:D.St 0 D.j s g U m T)(hr:g.status=.running)(D2:mayWake P g=true)(eX:g'.status=.running)(hKs:∀w k,D.K w->D.K (w.setChan c3 0 #[] true k k false))(aH:∀w k,w.heap[c3]? =some (.chan 0 #[] false k k false)->stepG P true g w=.go g' (w.setChan c3 0 #[] true k k false) (closeEvents c3)):
 ∃N gs w sl T' q au2 n y,runNT P N m T=(.next (crowd gs w sl),T')/\D.Closed c3 s g' U gs w T' q au2 n y:=by
 have t:D.gC 0 D.j:=.inl ⟨rfl,rfl⟩;have hj:=D.hj;obtain⟨gs,w,sl,q,au2,n,y,rfl,e1,e2,e3,e4,e5,e6,e7⟩:=nC;obtain⟨N,gs,w,sl,T',q,n,y,dd,bE,kD,⟨hg,hy,lZ,hb,hp,fU,hJ⟩,bw⟩:=Duo.FP.picked t hs hr _ sl rfl ⟨e1,e2,e3,e4,e5,e6,e7⟩;obtain⟨k,qX⟩:=(hb.at dd).chans c3 hc;have hgo:=aH (w.at dd) k qX;have eY:=runT_crowd_go (P:=P) (sl:=bE) (i:=0) hg (show stepG P (0==0) g (w.at dd)=_ from hgo)
 have R1:∀e∈closeEvents c3,Calm e:=by intro e he;simp[closeEvents]at he;rcases he with rfl|rfl<;>exact⟨⟨al,al⟩,al⟩
 have hcB:c3<w.heap.size:=(Array.getElem?_eq_some_iff.1 (show w.heap[c3]? =_ from qX)).1;have oA:((w.at dd).setChan c3 0 #[] true k k false).heap[c3]? =some (.chan 0 #[] true k k false):=heap_setChan_self _ qX _ _ _ _ _ _
 have ahK:∃n' y',0<n'/\woken P g g' ((w.at dd).setChan c3 0 #[] true k k false) y=y'/\eE P false D.KW D.Still D.B s n' y':=by
  have DV:(D.j==0)=false:=by simp;omega
  rw[DV]at lZ;rcases lZ with⟨k',rfl,hw⟩|⟨rfl,pX,cS,rfl,qQ⟩
  ·exact⟨_,y,aa,woken_of_again (again_of_running (.inl hw.running) _),.inl ⟨k',rfl,hw⟩⟩
  ·refine⟨1,{parked cS s.cases s.shape with status:=.running},aa,?_,.inl ⟨0,rfl,cS,qQ.tries _ _⟩⟩;unfold woken;rw[if_pos (by rw[D2,eX];rfl)];exact again_some_closed hk oA
 obtain⟨n',y',D3,uQ,ei⟩:=ahK
 have fL:∀i,Deaf (T'++MemOp.ofEvents 0 g.frame.fn g.frame.place (closeEvents c3)) i=Deaf T' i:=by
  intro i;by_cases e:i=0
  ·subst e;rw[Deaf_own];exact deafBehind_still (λe h=>(R1 e h).1) _
  ·exact Deaf_other T' (λx=>e x.symm) _ (λop aS=>by obtain⟨e,_,rfl⟩:=Conc.mem_ofEvents aS;rfl)
 refine⟨N+1,mN P gs 0 g g' ((w.at dd).setChan c3 0 #[] true k k false),(w.at dd).setChan c3 0 #[] true k k false,bE,T'++MemOp.ofEvents 0 g.frame.fn g.frame.place (closeEvents c3),q,au2,n',y',?_,sA (hb.lt (.inl rfl)) _ _,?_,D3,ei,
  by rw[iL];exact hb.lE,λi x h1 h2 hx=>?_,λi hi=>?_,(fL 0).trans hb.d0,(fL _).trans hb.dj,hKs _ _ (hb.at dd).k,⟨k,oA⟩,λc cT aE=>?_,(hb.rN.at dd).setChan _ _ _ _ _ _ _,hb.nr.events λe he=>BV (R1 e he).2,?_,(fU.at dd).setChan (hJ c3 (.inr (.inl hc))) _ _ _ _ _ _,hJ,by have:=(hb.at dd).ng;simpa[World.setChan]using this⟩
 ·rw[runNT_add,kD];simp only[runNT,bw,eY]
 ·rw[Array.getElem?_setIfInBounds_ne aa,Array.getElem?_map,hy];simp only[Option.map_some];rw[uQ]
 ·obtain⟨v,hv,rfl⟩:=wY aa hx;have hq:=hb.gU i v h1 h2 hv;rw[woken_quitsD hq,fL];exact hq
 ·rw[iL]at hi;rw[fL];exact hb.above i hi
 ·obtain⟨k0,h0⟩:=hb.chans c cT;exact⟨k0,by rw[heap_setChan_ne _ _ _ _ _ _ _ (λe=>aE e.symm)];exact h0⟩
 ·have gQ:((w.at dd).setChan c3 0 #[] true k k false).heap.size=w.heap.size:=by simp only[World.setChan,Array.size_setIfInBounds];rfl
  rw[gQ];refine hp.appH (λop aS=>by obtain⟨e,_,rfl⟩:=Conc.mem_ofEvents aS;rfl) (λop aS b eQ=>?_) (λop aS=>?_)
  ·obtain⟨e,he,rfl⟩:=Conc.mem_ofEvents aS
   have agM:∀a:Addr,b.loc≠.cell a:=by intro a ha;simp[closeEvents]at he;rcases he with rfl|rfl<;>simp[MemAct.ofEvent,MemAct.touch?]at eQ;subst eQ;cases ha
   have none:¬(D.S b.loc\/D.Still b.loc\/D.Q b.loc):=λx=>by obtain⟨a,ha⟩:=D.cell _ x;exact agM a ha
   exact⟨λx=>absurd (.inl x) none,λx=>absurd (.inr (.inl x)) none,λx=>absurd (.inr (.inr x)) none⟩
  ·obtain⟨e,he,rfl⟩:=Conc.mem_ofEvents aS;simp[closeEvents]at he;rcases he with rfl|rfl<;>exact hcB
end
section
open Go.Conc
variable {α:Type}
def RO(P:Program)(A:Addr->Prop):Sem α->Prop
 | .pure _=>True
 | .load m a k=>m=.plain/\A a/\∀v,RO P A (k v)
 | .shape _ k=>∀x,RO P A (k x)
 | .frozen _ k=>∀x,RO P A (k x)
 | .program k=>RO P A (k P)
 | .halt _=>True
 |_=>False
variable {P:Program}{A:Addr->Prop}{β:Type}
def W3(f:α->Sem β)(hf:∀a,RO P A (f a)):∀(s:Sem α),RO P A s->RO P A (s.bind f):=by
 intro s
 induction s with
 |pure a=>exactλ_=>hf a
 |load m a k ih=>exactλh=>⟨h.1,h.2.1,λv=>ih v (h.2.2 v)⟩
 |shape r k ih=>exactλh x=>ih x (h x)
 |frozen a k ih=>exactλh x=>ih x (h x)
 |program k ih=>exactλh=>ih P h
 |halt h=>exactλ_=>trivial
 |store|new|freeze|getObj|setObj|choose|sys|mark=>exactλh=>h.elim
def yS{s:Sem α}{f:α->Sem β}(h:RO P A s)(hf:∀a,RO P A (f a)):RO P A (s>>=f):=W3 f hf s h
def Cw(a:α):RO P A (pure a:Sem α):=trivial
def W4{c:Prop} [Decidable c]{s t:Sem α}(h:RO P A s)(k:RO P A t):RO P A (if c then s else t):=by split;exact h;exact k
variable {H:Halt->Hp->Prop}{U:Hp}
def ao0{Q:α->Hp->Prop}:∀(s:Sem α),RO P A s->wpS P s Q H U->∀(w:World) (es:Array Event),(∀b o,U.f b=some o->w.heap[b]? =some o)->
 ∃bY r,s.runT P w es=(r,es++bY)/\(∀e∈bY,∃a:Addr,e=⟨.cell a,false,false⟩/\A a/\(U.f a.block).isSome=true)/\((∃a,r=.ok a w/\Q a U)\/(∃h,r=.halt h w/\H h U)):=by
 intro s
 induction s with
 |pure a=>exactλ_ h w es hs=>⟨#[],.ok a w,by simp[Sem.runT],al,.inl ⟨a,rfl,h⟩⟩
 |load m a k ih=>
  rintro⟨rfl,hA,hr⟩ ⟨v,hv,h⟩ w es hs;have hS:cR (λ_=>False) w U:=⟨λ{b o} hb=>hs b o hb,λ_ x=>x.elim,λ_ x=>x.elim⟩;have hw:=hS.cell hv;obtain⟨c,e,z,hb,_,_⟩:=AT hv;obtain⟨bY,r,h1,h2,h3⟩:=ih v (hr v) h w (es.push ⟨.cell a,false,false⟩) hs;refine⟨#[⟨.cell a,false,false⟩]++bY,r,?_,λx hx=>?_,h3⟩
  ·unfold Sem.runT;simp only[hw];rw[show(Mode.plain==Mode.atomic)=false from rfl,h1,push_eq_append,Array.append_assoc]
  ·rcases Array.mem_append.1 hx with hx|hx
   ·simp at hx;subst hx;exact⟨a,rfl,hA,by rw[hb];rfl⟩
   ·exact h2 x hx
 |shape r k ih=>
  rintro hr ⟨hv,h⟩ w es hs;have hS:cR (λ_=>False) w U:=⟨λ{b o} hb=>hs b o hb,λ_ x=>x.elim,λ_ x=>x.elim⟩;obtain⟨o,ho⟩:=Option.isSome_iff_exists.1 hv;unfold Sem.runT;rw[hS.VC ho];exact ih _ (hr _) h w es hs
 |frozen a k ih=>
  rintro hr ⟨hv,h⟩ w es hs;have hS:cR (λ_=>False) w U:=⟨λ{b o} hb=>hs b o hb,λ_ x=>x.elim,λ_ x=>x.elim⟩;obtain⟨o,ho⟩:=Option.isSome_iff_exists.1 hv;unfold Sem.runT;rw[hS.J9 ho];exact ih _ (hr _) h w es hs
 |program k ih=>exactλhr h w es hs=>ih _ hr h w es hs
 |halt h=>exactλ_ x w es hs=>⟨#[],.halt h w,by simp[Sem.runT],al,.inr ⟨h,rfl,x⟩⟩
 |store|new|freeze|getObj|setObj|choose|sys|mark=>exactλh=>h.elim
def aoY{a:Addr}(h:A a):RO P A (load a):=⟨rfl,h,λ_=>trivial⟩
variable {t:TypeId}
def aoZ(ht:dD P t=false){a:Addr}(h:A a):RO P A (loadVar t a):=by
 unfold loadVar isAgg;show RO P A (Sem.bind (Sem.bind (match P.underlying t with|some d=>pure d|none=>stuck "no such type") λd=>match d with| .struct _| .array _ _=>pure true|_=>pure false) _);unfold dD at ht;split
 ·rename_i d hd;rw[hd]at ht
  cases d<;>first|(simp at ht;done)|exact aoY h
 ·trivial
def Cf(P:Program)(op:Op)(I:av):Prop:=
 match op with
 | .move _| .assign _=>True
 | .load t x=>(∃a,ak I x=.pointer (some a))/\dD P t=false
 | .nilCheck x=>(∃a,ak I x=.pointer (some a))\/∃f l c,ak I x=.func (.func f) l c
 | .fieldAddr s x f=>(∃a,ak I x=.pointer (some a))/\(bM P s f).isSome=true
 | .extract _ _=>True
 | .binOp op _ x y _=>∃v,cK op (ak I x) (ak I y)=some v
 |_=>False
variable {op:BinOp}{v:Value}
def aoV{x y:Value}(h:cK op x y=some v):RO P A (binOp op t x y):=by
 unfold cK at h
 split at h<;>first
  |(simp[binOp,Op.stringOp,Op.intArith,Op.intCmp,Op.intBits];done)
  |(split at h
    ·rename_i hc
     first
     |(subst hc;simp[binOp,Op.intArith,Op.intCmp,Op.intBits];exact Cw _)
     |(obtain⟨rfl,hb⟩:=hc;simp[binOp,Op.intDiv,hb];exact Cw _)
     |(simp[binOp,Op.shift,Int.not_lt.2 hc];exact Cw _)
     |(have cF:¬(IntKind.i64.max<((_:Nat):Int)):=Int.not_lt.2 hc
       simp only[binOp,Op.stringOp,gt_iff_lt,if_neg cF];exact Cw _)
    ·cases h)
  |(simp[binOp,Op.stringOp];exact Cw _)
  |cases h
variable {x y:Operand}
def aoW{a b:Value}(h:(∀c,a≠.agg c)/\(a=.nilIface->b=.nilIface->(Region.isConst x||Region.isConst y)=true)):RO P A (eqGuard op t x y a b):=by
 unfold eqGuard;refine W4 trivial ?_;obtain⟨h1,h2⟩:=h
 cases a<;>cases b<;>first
  |exact trivial
  |exact absurd rfl (h1 _)
  |(have h3:=h2 rfl rfl
    rw[if_pos]
    ·exact trivial
    ·cases x<;>cases y<;>first|rfl|(simp[Region.isConst]at h3))
def ao2{d:TypeDesc}{f:TypeDesc->Sem α}(h:P.underlying t=some d)(k:RO P A (f d)):RO P A (underlying t>>=f):=by show RO P A (Sem.bind (match P.underlying t with|some d=>pure d|none=>stuck "no such type") f);rw[h];exact k
def ao1{i:TypeInfo}{f:Nat->Sem α}(h:P.info? t=some i)(k:RO P A (f i.size)):RO P A (sizeOf t>>=f):=by show RO P A (Sem.bind (Sem.bind (match P.info? t with|some i=>pure i|none=>stuck "no such type") λi=>pure i.size) f);rw[h];exact k
def E5(op:Op)(I:av)(y:Addr):Prop:=match op with
 | .load _ x=>ak I x=.pointer (some y)
 |_=>False
variable {o:Oper}{I:av}
def aoX(h:Cf P o.op I):RO P (E5 o.op I) (execOp (ak I) o):=by
 unfold execOp
 cases ho:o.op<;>rw[ho]at h<;>first|exact h.elim|skip
 case move x=>trivial
 case assign x=>trivial
 case load t x=>
  obtain⟨⟨a,ha⟩,ht⟩:=h;refine yS ?_ λ_=>trivial;unfold Instr.loadAt;rw[ha];exact aoZ ht ha
 case fieldAddr s x f=>
  obtain⟨⟨a,ha⟩,hf⟩:=h;refine yS ?_ λ_=>trivial;unfold Instr.fieldAt;unfold bM at hf;split at hf
  ·rename_i fs hu;split at hf
   ·rename_i fd DF;split at hf
    ·rename_i hs;simp only[Bool.and_eq_true,bne_iff_ne,ne_eq]at hs;obtain⟨i,hi⟩:=Option.isSome_iff_exists.1 hs.1;have hz:i.size≠0:=by simpa[cD,hi]using hs.2
     rw[ha];refine ao2 hu ?_;simp only[DF];refine yS trivial λ_=>?_;refine yS ?_ λ_=>trivial;unfold fieldPlace;refine ao1 hi ?_;rw[if_neg hz];trivial
    ·cases hf
   ·cases hf
  ·cases hf
 case nilCheck x=>
  rcases h with⟨a,ha⟩|⟨f,l,c,ha⟩<;>simp only[ha]<;>trivial
 case extract x i=>
  refine yS ?_ λ_=>trivial;unfold Instr.extract;split
  ·split<;>trivial
  ·trivial
 case binOp op t x y t2=>
  obtain⟨v,hv⟩:=h;refine yS ?_ λ_=>trivial;have hn:=Pt hv;exact yS (aoW ⟨hn.1,λe=>absurd e hn.2⟩) λ_=>aoV hv
def oa:Sem Next->Prop
 | .pure n=>∃v,n=.value v
 | .load _ _ k=>∀v,oa (k v)
 | .store _ _ _ k=>oa k
 | .new _ k=>∀b,oa (k b)
 | .shape _ k=>∀x,oa (k x)
 | .freeze _ _ k=>oa k
 | .frozen _ k=>∀x,oa (k x)
 | .getObj _ k=>∀x,oa (k x)
 | .setObj _ _ k=>oa k
 | .choose _ k=>∀x,oa (k x)
 | .sys _ k=>∀x,oa (k x)
 | .program k=>∀x,oa (k x)
 | .mark _ k=>oa k
 | .halt _=>True
def W0(s:Sem Value):oa (s.bind λv=>.pure (.value v)):=by induction s<;>first|exact⟨_,rfl⟩|trivial|(rename_i ih;exactλx=>ih x)|(rename_i ih;exact ih)
def amC{V:Value->Hp->Prop}{D:Deferred->Hp->Prop}{C:FuncId->Array Value->Hp->Prop}:∀(s:Sem Next) (U:Hp),oa s->wpS P s (pK V D C) H U->wpS P s (λn U=>∃v,n=.value v/\V v U) H U:=by
 intro s
 induction s with
 |pure a=>rintro U ⟨v,rfl⟩ h;exact⟨v,rfl,h⟩
 |load m a k ih=>exactλU o ⟨v,hv,h⟩=>⟨v,hv,ih v U (o v) h⟩
 |store m a v k ih=>
  intro U o h
  cases v<;>first|exact h.elim|exact⟨h.1,h.2.1,ih _ o h.2.2⟩
 |new x k ih=>exactλU o h b hb=>ih _ _ (o b) (h b hb)
 |shape r k ih=>exactλU o h=>⟨h.1,ih _ _ (o _) h.2⟩
 |freeze a n k ih=>exactλU o h=>⟨h.1,ih _ o h.2⟩
 |frozen a k ih=>exactλU o h=>⟨h.1,ih _ _ (o _) h.2⟩
 |getObj r k ih=>exactλU o ⟨x,ho,hc,h⟩=>⟨x,ho,hc,ih _ _ (o x) h⟩
 |setObj r x k ih=>exactλU o ⟨x',ho,hc,h⟩=>⟨x',ho,hc,ih _ o h⟩
 |choose q k ih=>
  intro U o h;unfold wpS at h|-;split
  ·rename_i hf;rw[if_pos hf]at h;exact ih _ _ (o _) h
  ·rename_i hf;rw[if_neg hf]at h;exactλt=>ih _ _ (o _) (h t)
 |sys c k ih=>exactλU o h=>h.elim
 |program k ih=>exactλU o h=>ih _ _ (o _) h
 |mark m k ih=>exactλU o h=>⟨h.1,ih _ o h.2⟩
 |halt h=>exactλU _ x=>x
def Wd:Op->Bool
 | .move _| .assign _| .load .. | .fieldAddr .. | .extract .. | .binOp .. =>true
 |_=>false
def amB(h:Wd o.op=true\/(∃x,o.op=.nilCheck x/\((∃a,ak I x=.pointer (some a))\/∃f l c,ak I x=.func (.func f) l c))):oa (execOp (ak I) o):=by
 unfold execOp;rcases h with h|⟨x,hx,ha⟩
 ·cases ho:o.op<;>rw[ho]at h<;>first|exact⟨_,rfl⟩|exact W0 _|(simp[Wd]at h;done)
 ·rw[hx];rcases ha with⟨a,ha⟩|⟨f,l,c,ha⟩<;>simp only[ha]<;>exact⟨_,rfl⟩
def BJ:Op->Bool
 | .move _| .assign _| .load .. | .fieldAddr .. | .extract .. | .nilCheck _=>true
 |_=>false
def EE(P:Program):Op->Bool
 | .load t _=> !dD P t
 |_=>true
def apG{op:Op}(hk:BJ op=true)(hl:EE P op=true)(h:cV P op I U=some v):Cf P op I:=by
 cases op<;>first|(simp[BJ]at hk;done)|exact trivial|skip
 case load t x=>
  simp only[cV]at h;split at h
  ·rename_i a ha;exact⟨⟨a,ha⟩,by simpa[EE]using hl⟩
  ·cases h
 case nilCheck x=>
  simp only[cV]at h;split at h
  ·rename_i a ha;exact .inl ⟨a,ha⟩
  ·rename_i f l c ha;exact .inr ⟨f,l,c,ha⟩
  ·cases h
 case fieldAddr s x f=>
  simp only[cV]at h;split at h
  ·rename_i a off ha hf;exact⟨⟨a,ha⟩,by rw[hf];rfl⟩
  ·cases h
def apM(hs:Cf P o.op I)(hv:cV P o.op I U=some v)(w:World)(hw:∀b o,U.f b=some o->w.heap[b]? =some o):
 ∃es,(execOp (ak I) o).runT P w #[]=(.ok (.value v) w,es)/\∀e∈es,∃a:Addr,e=⟨.cell a,false,false⟩/\E5 o.op I a/\(U.f a.block).isSome=true:=by
 have hV:oa (execOp (ak I) o):=by
  refine amB ?_
  cases ho:o.op<;>rw[ho]at hs<;>first|exact hs.elim|exact .inl rfl|skip
  exact .inr ⟨_,rfl,hs⟩
 let E0:Env P:={main:=true,st:=λ_ _ _ _=>False,iQ:=λh _=>h,own:=λ_ _ _ _ _ h=>h.elim}
 have h1:aU E0 {o with dst:=some 0} I [] U (λaC dk ae=>aC 0=v/\ae=U) (λ_ _=>False):=M5 (o:={o with dst:=some 0}) hv ⟨by simp[aB,up],rfl⟩;have h2:=sC h1;unfold wpOp at h2;have h3:=amC _ U (by exact hV) h2;obtain⟨bY,r,e1,e2,e3⟩:=ao0 _ (aoX hs) h3 w #[] hw;refine⟨bY,?_,e2⟩;rcases e3 with⟨nx,rfl,v',rfl,hn⟩|⟨h,rfl,hh⟩
 ·obtain⟨h4,_⟩:(aB I (some 0) v') 0=v/\U=U:=hn;simp[aB,up]at h4;subst h4;simpa using e1
 ·cases h<;>exact hh.elim
def AK(ops:Array Oper):Nat->Array Bool->List (List Nat)
 |0,_=>[[]]
 |fuel+1,listed=>match Region.ready .any ops listed with
  |[]=>[[]]
  |rs=>rs.flatMap λi=>(AK ops fuel (listed.setIfInBounds i true)).map (i::·)
def Ri(ops:Array Oper):∀(fuel t:Nat) (listed:Array Bool),Region.linearise.go .any ops fuel t listed []∈AK ops fuel listed:=by
 intro fuel
 induction fuel with
 |zero=>intro t listed;simp[Region.linearise.go,AK]
 |succ fuel ih=>
  intro t listed;simp only[Region.linearise.go,AK]
  change (match(Region.ready .any ops listed)[t %(Region.ready .any ops listed).length]? with
   |some i=>Region.linearise.go .any ops fuel (t/(Region.ready .any ops listed).length) (listed.setIfInBounds i true) [i]
   |none=>[].reverse)∈_
  cases hr:Region.ready .any ops listed with
  |nil=>simp
  |cons x xs=>
   have bl:t %(x::xs).length<(x::xs).length:=Nat.mod_lt _ al;rw[List.getElem?_eq_getElem bl];simp only[];rw[linearise_go_acc,List.reverse_singleton,List.singleton_append];exact List.mem_flatMap.2 ⟨_,List.getElem_mem bl,List.mem_map.2 ⟨_,ih _ _,rfl⟩⟩
def endsIn(ops:Array Oper)(m:Nat):Bool:=(AK ops ops.size (Array.replicate ops.size false)).all λl=>l.getLast?==some m&&l.dropLast.all (·!=m)
variable {ops:Array Oper}{m:Nat}
def apk(hm:P.follows .mixedOrders=true)(h:endsIn ops m=true)(t:Nat):∃p,Region.schedule (P.follows .mixedOrders) ops t=p++[m]/\∀i∈p,i≠m:=by
 have:=Ri ops ops.size t (Array.replicate ops.size false);simp only[Region.schedule,hm,Bool.true_or,if_true,Region.linearise];generalize Region.linearise.go .any ops ops.size t (Array.replicate ops.size false) []=l at this;unfold endsIn at h;rw[List.all_eq_true]at h;have h:=h l this;simp only[Bool.and_eq_true,beq_iff_eq,List.all_eq_true,bne_iff_ne,ne_eq]at h;refine⟨l.dropLast,?_,h.2⟩;have aE:l≠[]:=by intro e;subst e;simp at h
 rw[List.getLast?_eq_some_getLast aE,Option.some.injEq]at h;rw[<-h.1];exact(List.dropLast_concat_getLast aE).symm
def gS(ops:Array Oper)(m:Nat):Array Oper:=ops.modify m λo=>{o with op:=.move (.const undef)}
def T7(ops:Array Oper)(m:Nat):(gS ops m).size=ops.size:=by simp[gS]
variable {i:Nat}
def HH(h:i≠m):(gS ops m)[i]? =ops[i]? :=by simp[gS,Array.getElem?_modify,Ne.symm h]
def akX(ops:Array Oper)(m i:Nat):((gS ops m)[i]?).map (·.after)=(ops[i]?).map (·.after):=by
 by_cases h:i=m
 ·subst h;simp[gS,Array.getElem?_modify];cases ops[i]? <;>rfl
 ·rw[HH h]
def akY(ops:Array Oper)(m i:Nat):gn (gS ops m) i=gn ops i:=by
 unfold gn;by_cases h:i=m
 ·subst h;simp[gS,Array.getElem?_modify];cases ops[i]? <;>rfl
 ·rw[HH h]
def ak0(ops:Array Oper)(m:Nat)(listed:Array Bool):Region.ready .any (gS ops m) listed=Region.ready .any ops listed:=by
 unfold Region.ready;rw[T7];congr 1
 funext i
 have:=akX ops m i
 cases h1:(gS ops m)[i]? <;>cases h2:ops[i]? <;>rw[h1,h2]at this<;>first|cases this|simp_all
def akZ(ops:Array Oper)(m:Nat):∀(fuel t:Nat) (listed:Array Bool) (acc:List Nat),Region.linearise.go .any (gS ops m) fuel t listed acc=Region.linearise.go .any ops fuel t listed acc:=by
 intro fuel
 induction fuel with
 |zero=>intro t listed acc;rfl
 |succ fuel ih=>
  intro t listed acc;simp only[Region.linearise.go]
  change (match(Region.ready .any (gS ops m) listed)[t %(Region.ready .any (gS ops m) listed).length]? with
   |some i=>Region.linearise.go .any (gS ops m) fuel (t/(Region.ready .any (gS ops m) listed).length) (listed.setIfInBounds i true) (i::acc)
   |none=>acc.reverse)=(match(Region.ready .any ops listed)[t %(Region.ready .any ops listed).length]? with
   |some i=>Region.linearise.go .any ops fuel (t/(Region.ready .any ops listed).length) (listed.setIfInBounds i true) (i::acc)
   |none=>acc.reverse)
  rw[ak0];split
  ·exact ih _ _ _
  ·rfl
def ak1(hm:P.follows .mixedOrders=true)(ops:Array Oper)(m t:Nat):Region.schedule (P.follows .mixedOrders) (gS ops m) t=Region.schedule (P.follows .mixedOrders) ops t:=by simp only[Region.schedule,hm,Bool.true_or,if_true,Region.linearise,T7];exact akZ ops m _ _ _ _
def xk(P:Program)(N:Nat)(ops:Array Oper)(κ:Hp)(Q:av->Prop):List Nat->av->Prop
 |[],I=>Q I
 |i::rest,I=>match ops[i]? with
  |some o=>pD N o.dst=true/\o.guard=none/\Cf P o.op I/\∃v,cV P o.op I κ=some v/\xk P N ops κ Q rest (aB I o.dst v)
  |none=>False
variable {N:Nat}{κ:Hp}{E:Env P}{ds:List Deferred}
def apK{Q:Post}:∀(p:List Nat),(∀i∈p,i≠m)->(∀i o,i≠m->ops[i]? =some o->BJ o.op=true/\EE P o.op=true/\o.guard=none)->∀(I:av),mS E N (gS ops m) Q (p++[m]) I ds κ->
 xk P N ops κ (λI=>Q .normal (aB I (gn ops m) undef) ds κ) p I:=by
 intro p
 induction p with
 |nil=>
  intro _ _ I h;simp only[List.nil_append,mS,ml]at h;simp only[xk]
  cases ho:(gS ops m)[m]? with
  |none=>rw[ho]at h;exact h.elim
  |some o=>
   rw[ho]at h
   have hd:o.dst=gn ops m:=by have:=akY ops m m;unfold gn at this|-;rw[ho]at this;exact this
   obtain⟨o',uK,rfl⟩:∃o',ops[m]? =some o'/\o={o' with op:=.move (.const undef)}:=by simp only[gS,Array.getElem?_modify]at ho;obtain⟨o',h1,h2⟩:=Option.map_eq_some_iff.1 ho;exact⟨o',h1,h2.symm⟩
   obtain⟨_,h⟩:=h;rw[<-hd];split at h
   ·simp only[cW,if_true,cV,ak]at h;obtain⟨v,hv,h⟩:=h
    cases hv;exact h
   ·exact h
 |cons i p ih=>
  intro hp hk I h;have xQ:=hp i al;rw[List.cons_append]at h;simp only[mS,ml]at h;rw[HH xQ]at h;simp only[xk]
  cases ho:ops[i]? with
  |none=>rw[ho]at h;exact h.elim
  |some o=>
   rw[ho]at h;obtain⟨zy,DX,hg⟩:=hk i o xQ ho;obtain⟨hd,h⟩:=h;rw[if_pos (by simp[Region.wanted,hg]),if_pos (by cases aS:o.op<;>rw[aS]at zy<;>first|rfl|(simp[BJ]at zy;done))]at h;obtain⟨v,hv,h⟩:=h;exact⟨hd,hg,apG zy DX hv,v,hv,ih (λj hj=>hp j (List.mem_cons_of_mem _ hj)) hk _ h⟩
variable {main:Bool}{b:Frame}{k:List Item}{cs:List Frame}{rest:List Nat}{a:Act}
def Nh(ho:ops[i]? =some o)(hg:o.guard=none)(hs:Cf P o.op I)(hv:cV P o.op I κ=some v)(hk:b.kind≠.early)(ha:cM N a I ds)(w:World)(hw:∀b o,κ.f b=some o->w.heap[b]? =some o):
 ∃es,stepG P main (G (b.at a (.inRegion ops (i::rest)::k)) cs) w=.go (G (b.at (a.put o.dst v) (.inRegion ops rest::k)) cs) w es/\∀e∈es,∃x:Addr,e=⟨.cell x,false,false⟩/\E5 o.op I x/\(κ.f x.block).isSome=true:=by
 obtain⟨es,h1,h2⟩:=apM hs hv w hw;rw[<-ha.eval]at h1;have fC:(b.at a (.inRegion ops (i::rest)::k)).finish v=b.at (a.put o.dst v) (.inRegion ops rest::k):=by rw[Frame.finish_at,ho];rfl
 have ou:(b.kind==CallKind.early)=false:=aW hk;refine⟨seen P b.fn es,?_,λe he=>h2 e (mem_seen he)⟩;rw[stepG_oper ho (by simp[Region.wanted,hg])];rw[<-fC];simp[stepG.apply,-Sem.runT_eq,h1,G,Frame.at,ou,GStep.after]
def dM(P:Program)(N:Nat)(ops:Array Oper)(Fam:Hp->Prop)(Ok:Addr->Prop)(Q:av->Prop):List Nat->av->Prop
 |[],I=>Q I
 |i::rest,I=>match ops[i]? with
  |some o=>pD N o.dst=true/\o.guard=none/\Cf P o.op I/\(∀y,E5 o.op I y->Ok y)/\∃v,(∀κ,Fam κ->cV P o.op I κ=some v)/\dM P N ops Fam Ok Q rest (aB I o.dst v)
  |none=>False
variable {K:World->Prop}{Still:Loc->Prop}{s:Seat}{Fam:Hp->Prop}{Ok:Addr->Prop}{Q:av->Prop}{n:Nat}
def Ft{B:Nat}(hK:∀w,K w->∃κ,Fam κ/\∀b o,κ.f b=some o->w.heap[b]? =some o)(hS:∀a,Ok a->Still (.cell a)/\a.block<B)(hk:b.kind≠.early)(hn:∀I a,cM N a I ds->Q I->Way P main K Still B s n (G (b.at a (.inRegion ops rest::k)) cs)):
 ∀(p:List Nat) (I:av) (a:Act),dM P N ops Fam Ok Q p I->cM N a I ds->Way P main K Still B s (n+p.length) (G (b.at a (.inRegion ops (p++rest)::k)) cs):=by
 intro p
 induction p with
 |nil=>exactλI a h ha=>hn I a ha h
 |cons i p ih=>
  intro I a h ha;simp only[dM]at h
  cases ho:ops[i]? with
  |none=>rw[ho]at h;exact h.elim
  |some o=>
   rw[ho]at h;obtain⟨hd,hg,hs,gq,v,hv,h⟩:=h;rw[List.length_cons,<-Nat.add_assoc];refine .inr ⟨rfl,λw hw=>?_⟩;obtain⟨κ,hF,ye⟩:=hK w hw;obtain⟨es,h1,h2⟩:=Nh (main:=main) (k:=k) (cs:=cs) (rest:=p++rest) ho hg hs (hv κ hF) hk ha w ye;rw[List.cons_append,h1];refine⟨atRel_refl w,λe he=>?_,ih _ _ h (ha.put hd v)⟩;obtain⟨x,rfl,hx,_⟩:=h2 e he;exact⟨x,rfl,hS x (gq x hx)⟩
def Way.ctl{B:Nat}{g g':Goroutine}(h:∀w,stepG P main g w=.go g' w)(hr:g.status=.running)(k:Way P main K Still B s n g'):Way P main K Still B s (n+1) g:=
 .inr ⟨hr,λw _=>by rw[h w];exact⟨atRel_refl w,al,k⟩⟩
def Way.region{B:Nat}{id:Nat}(h:Way P main K Still B s n (G (b.at a (.inRegion ops (List.range ops.size)::k)) cs)):
 Way P main K Still B s (n+1) (G (b.at a (.code (.region id ops false)::k)) cs):=Way.ctl (λw=>stepG_region) rfl h
def Way.JP{B:Nat}{id:Nat}(h:∀t,Way P main K Still B s n (G (b.at a (.inRegion ops (Region.schedule (P.follows .mixedOrders) ops t)::k)) cs)):Way P main K Still B s (n+1) (G (b.at a (.code (.region id ops true)::k)) cs):=by
 refine .inr ⟨rfl,λw _=>?_⟩
 have:stepG P main (G (b.at a (.code (.region id ops true)::k)) cs) w=.go (G (b.at a (.inRegion ops (Region.schedule (P.follows .mixedOrders) ops (w.tape w.drawn (.order b.fn id)))::k)) cs) {w with drawn:=w.drawn+1}:=by simp[G,stepG,stepG.exec,Frame.at,choose,Sem.run,Question.forced,Question.cut]
 rw[this];exact⟨⟨w.drawn+1,rfl⟩,al,h _⟩
variable {d ty:Nat}{ps:String}{af:Array Edge}{a:Addr}
def pH(ho:ops[i]? =some {dst:=some d,op:=.load t x,type:=ty,pos:=ps,after:=af,guard:=none})(hd:d<N)(hx:ak I x=.pointer (some a))(ht:dD P t=false)(hi:dt P t=true)(gq:Ok a)(hv:∀κ,Fam κ->κ.cell? a=some v)(k:dM P N ops Fam Ok Q rest (up I d v)):dM P N ops Fam Ok Q (i::rest) I:=by
 simp only[dM,ho];refine⟨decide_eq_true hd,trivial,⟨⟨a,hx⟩,ht⟩,λy hy=>?_,v,λκ ye=>?_,k⟩
 ·simp only[E5]at hy;rw[hx]at hy;cases hy;exact gq
 ·simp only[cV,hx,hi,if_true,jh,ht,Bool.false_eq_true,if_false];exact hv κ ye
def vv(ho:ops[i]? =some {dst:=some d,op:=.nilCheck x,type:=ty,pos:=ps,after:=af,guard:=none})(hd:d<N)(hx:ak I x=.pointer (some a))(k:dM P N ops Fam Ok Q rest (up I d (.pointer (some a)))):dM P N ops Fam Ok Q (i::rest) I:=by
 simp only[dM,ho];exact⟨decide_eq_true hd,trivial,.inl ⟨a,hx⟩,λy hy=>hy.elim,_,λκ ye=>by simp only[cV,hx],k⟩
def vu{s f:Nat}{off:Nat}(ho:ops[i]? =some {dst:=some d,op:=.fieldAddr s x f,type:=ty,pos:=ps,after:=af,guard:=none})(hd:d<N)(hx:ak I x=.pointer (some a))(hf:bM P s f=some off)(k:dM P N ops Fam Ok Q rest (up I d (.pointer (some (a.add off))))):dM P N ops Fam Ok Q (i::rest) I:=by
 simp only[dM,ho];exact⟨decide_eq_true hd,trivial,⟨⟨a,hx⟩,by rw[hf];rfl⟩,λy hy=>hy.elim,_,λκ ye=>by simp only[cV,hx,hf],k⟩
def E9{bo:BinOp}{t2:TypeId}(ho:ops[i]? =some {dst:=some d,op:=.binOp bo t x y t2,type:=ty,pos:=ps,after:=af,guard:=none})(hd:d<N)(hv:cK bo (ak I x) (ak I y)=some v)(k:dM P N ops Fam Ok Q rest (up I d v)):dM P N ops Fam Ok Q (i::rest) I:=by
 simp only[dM,ho];exact⟨decide_eq_true hd,trivial,⟨v,hv⟩,λy hy=>hy.elim,v,λκ ye=>by simp only[cV,hv],k⟩
def Ik(ho:ops[i]? =some {dst:=some d,op:=.move x,type:=ty,pos:=ps,after:=af,guard:=none})(hd:d<N)(k:dM P N ops Fam Ok Q rest (up I d (ak I x))):dM P N ops Fam Ok Q (i::rest) I:=by
 simp only[dM,ho];exact⟨decide_eq_true hd,trivial,trivial,λy hy=>hy.elim,_,λκ ye=>by simp only[cV],k⟩
def apH{j:Nat}{vs:Array Value}(ho:ops[i]? =some {dst:=some d,op:=.extract x j,type:=ty,pos:=ps,after:=af,guard:=none})(hd:d<N)(hx:ak I x=.tuple vs)(hv:vs[j]? =some v)(k:dM P N ops Fam Ok Q rest (up I d v)):dM P N ops Fam Ok Q (i::rest) I:=by
 simp only[dM,ho];exact⟨decide_eq_true hd,trivial,trivial,λy hy=>hy.elim,_,λκ ye=>by simp only[cV,hx,hv],k⟩
def left(ops:Array Oper)(listed:Array Bool):List Nat:=(List.range ops.size).filter λi=> !listed.getD i true
def aj6{listed:Array Bool}(hs:listed.size=ops.size)(hi:i∈left ops listed):(left ops (listed.setIfInBounds i true)).length<(left ops listed).length:=by
 have e:left ops (listed.setIfInBounds i true)=(left ops listed).filter λj=>j !=i:=by
  simp only[left,List.filter_filter];apply List.filter_congr;intro j hj;simp only[List.mem_range]at hj;by_cases h:j=i
  ·subst h;simp[Array.getD_eq_getD_getElem?,Array.getElem?_setIfInBounds_self_of_lt (by omega:j<listed.size)]
  ·simp[Array.getD_eq_getD_getElem?,Array.getElem?_setIfInBounds_ne (Ne.symm h),h]
 rw[e,List.length_filter_lt_length_iff_exists];exact⟨i,hi,al⟩
variable {Q:Post}
def arT{au1:(Nat->Bool)->av->List Deferred->Hp->Prop}(hm:P.follows .mixedOrders=true)(DY:∀(i:Nat) (o:Oper),ops[i]? =some o->∀e∈o.after,e.on<i)(gL:∀(L:Nat->Bool) (i:Nat) (o:Oper) (I:av) (ds:List Deferred) (U:Hp) (K:av->List Deferred->Hp->Prop),ops[i]? =some o->L i=false->(∀e∈o.after,Region.binds .any e=true->L e.on=true)->au1 L I ds U->
  (∀aC dk ae,au1 (λj=>L j||j==i) aC dk ae->K aC dk ae)->ml E N ops Q i K I ds U)(zr:∀(L:Nat->Bool) I ds U,(∀i,i<ops.size->L i=true)->au1 L I ds U->Q .normal I ds U)(h0:au1 (λ_=>false) I ds U)(t:Nat):mS E N ops Q (Region.schedule (P.follows .mixedOrders) ops t) I ds U:=by
 simp only[Region.schedule,hm,Bool.true_or,if_true,Region.linearise]
 have key:∀(fuel t:Nat) (listed:Array Bool) (I:av) (ds:List Deferred) (U:Hp),listed.size=ops.size->(left ops listed).length<=fuel->au1 (λj=>listed.getD j false) I ds U->mS E N ops Q (Region.linearise.go .any ops fuel t listed []) I ds U:=by
  intro fuel
  induction fuel with
  |zero=>
   intro t listed I ds U hs hl hI;simp only[Region.linearise.go,List.reverse_nil,mS];refine zr _ _ _ _ (λi hi=>?_) hI;have:left ops listed=[]:=aW hl;have hn:i∉left ops listed:=by rw[this];simp
   simp only[left,List.mem_filter,List.mem_range,not_and,Bool.not_eq_true',Bool.not_eq_false]at hn;have:=hn hi;simpa[Array.getD_eq_getD_getElem?,Array.getElem?_eq_getElem (by omega:i<listed.size)]using this
  |succ fuel ih=>
   intro t listed I ds U hs hl hI;simp only[Region.linearise.go]
   change mS E N ops Q (match(Region.ready .any ops listed)[t %(Region.ready .any ops listed).length]? with
    |some i=>Region.linearise.go .any ops fuel (t/(Region.ready .any ops listed).length) (listed.setIfInBounds i true) [i]
    |none=>[].reverse) I ds U
   have qf:∀i,i∈Region.ready .any ops listed↔i<ops.size/\listed.getD i true=false/\∃o,ops[i]? =some o/\∀e∈o.after,Region.binds .any e=true->listed.getD e.on false=true:=by
    intro i;simp only[Region.ready,List.mem_filter,List.mem_range,Bool.and_eq_true,Bool.not_eq_true'];constructor
    ·rintro⟨h1,h2,h3⟩;refine⟨h1,h2,ops[i],Array.getElem?_eq_getElem h1,λe he hb=>?_⟩;rw[Array.getElem?_eq_getElem h1]at h3;simp only[Option.map_some,Option.getD_some,Array.all_eq_true_iff_forall_mem,Bool.or_eq_true,Bool.not_eq_true']at h3;rcases h3 e he with h|h
     ·rw[hb]at h;cases h
     ·exact h
    ·rintro⟨h1,h2,o,ho,h3⟩;refine⟨h1,h2,?_⟩;rw[ho];simp only[Option.map_some,Option.getD_some,Array.all_eq_true_iff_forall_mem,Bool.or_eq_true,Bool.not_eq_true'];intro e he
     cases hb:Region.binds .any e with
     |false=>exact .inl rfl
     |true=>exact .inr (h3 e he hb)
   cases hr:Region.ready .any ops listed with
   |nil=>
    simp only[List.length_nil,List.getElem?_nil,List.reverse_nil,mS];refine zr _ _ _ _ (λi=>?_) hI
    induction i using Nat.strongRecOn with
    |_ i ihi=>
     intro hi
     cases hgi:listed.getD i false with
     |true=>rfl
     |false=>
      have:i∈Region.ready .any ops listed:=by
       refine(qf i).2 ⟨hi,?_,ops[i],Array.getElem?_eq_getElem hi,λe he hb=>?_⟩
       ·simpa[Array.getD_eq_getD_getElem?,Array.getElem?_eq_getElem (by omega:i<listed.size)]using hgi
       ·have:=DY i _ (Array.getElem?_eq_getElem hi) e he;exact ihi e.on this aa
      rw[hr]at this;cases this
   |cons x xs=>
    have bl:t %(x::xs).length<(x::xs).length:=Nat.mod_lt _ al;rw[List.getElem?_eq_getElem bl];simp only[];rw[linearise_go_acc,List.reverse_singleton,List.singleton_append];have xR:(x::xs)[t %(x::xs).length]∈Region.ready .any ops listed:=by rw[hr];exact List.getElem_mem bl
    generalize(x::xs)[t %(x::xs).length]=i at xR|-;obtain⟨h1,h2,o,ho,h3⟩:=(qf i).1 xR;have uC:i∈left ops listed:=by simp only[left,List.mem_filter,List.mem_range,Bool.not_eq_true'];exact⟨h1,h2⟩
    have hf:listed.getD i false=false:=by simpa[Array.getD_eq_getD_getElem?,Array.getElem?_eq_getElem (by omega:i<listed.size)]using h2
    refine gL (λj=>listed.getD j false) i o I ds U _ ho hf h3 hI λaC dk ae Dd=>ih _ _ _ _ _ (aW hs) (by have:=aj6 hs uC;omega) ?_
    have e:(λj=>(listed.setIfInBounds i true).getD j false)=λj=>listed.getD j false||j==i:=by
     funext j
     by_cases h:j=i
     ·subst h;simp[Array.getD_eq_getD_getElem?,Array.getElem?_setIfInBounds_self_of_lt (by omega:j<listed.size)]
     ·simp[Array.getD_eq_getD_getElem?,Array.getElem?_setIfInBounds_ne (Ne.symm h),h]
    rw[e];exact Dd
 refine key _ _ _ _ _ _ al (by exact Nat.le_trans (List.length_filter_le _ _) al) ?_
 have e:(λj=>(Array.replicate ops.size false).getD j false)=λ_=>false:=by
  funext j
  rw[Array.getD_eq_getD_getElem?,Array.getElem?_replicate];split<;>rfl
 rw[e];exact h0
end
section
open Go.Proofs
abbrev pJ:Go.Conc.Lib.WgLink:={add:=55,done:=57,wait:=60,relMerge:=91,disable:=92,enable:=93,inBubble:=94,associate:=95,fatal:=96,uOr:=97,uAdd:=98,raceRead:=99,uLoad:=100,uStore:=101,disassociate:=102,semrelease:=103,acquire:=108,isAssociated:=109,uCas:=110,raceWrite:=111,semacquire:=112,orU64:=143,addU64:=144,loadU64:=145,storeU64:=146,casU64:=152,tWgP:=197,tUP:=137,tAssoc:=199,tWg:=131,tAU:=128,tU64:=126,tUint:=68,tU32:=129,tPU32:=202,tPAU:=282,tPU64:=284,tNoCopy:=123,tANoCopy:=124,tAlign64:=125}
def ID:Go.Conc.Lib.WgLib prog pJ:=
 ⟨func55,func57,func60,func91,func92,func93,func94,func95,func96,func97,func98,func99,func100,func101,func102,func103,func108,func109,func110,func111,func112,func143,func144,func145,func146,func152,underlying197,runUnderlying197,sizeOf197,isAgg197,zeroValue197,underlying137,runUnderlying137,sizeOf137,isAgg137,zeroValue137,underlying199,runUnderlying199,sizeOf199,isAgg199,zeroValue199,underlying131,runUnderlying131,sizeOf131,isAgg131,zeroValue131,underlying128,runUnderlying128,sizeOf128,isAgg128,zeroValue128,underlying126,runUnderlying126,sizeOf126,isAgg126,zeroValue126,underlying68,runUnderlying68,sizeOf68,isAgg68,zeroValue68,underlying129,runUnderlying129,sizeOf129,isAgg129,zeroValue129,underlying202,runUnderlying202,sizeOf202,isAgg202,zeroValue202,underlying282,runUnderlying282,sizeOf282,isAgg282,zeroValue282,underlying284,runUnderlying284,sizeOf284,isAgg284,zeroValue284,underlying0,runUnderlying0,sizeOf0,isAgg0,zeroValue0,underlying3,runUnderlying3,sizeOf3,isAgg3,zeroValue3,underlying4,runUnderlying4,sizeOf4,isAgg4,zeroValue4,underlying9,runUnderlying9,sizeOf9,isAgg9,zeroValue9,underlying20,runUnderlying20,sizeOf20,isAgg20,zeroValue20,underlying21,runUnderlying21,sizeOf21,isAgg21,zeroValue21,ah,ah⟩
end
section
open Go.Conc
variable {P:Program}{E:Env P}{N:Nat}{ops:Array Oper}
def yG{Q:Post}(b:Frame)(hb:b.kind≠.early)(k:List Item)(cs:List Frame)(tl:List Nat)(hQ:∀ch I ds U,¬Q (.panic ch) I ds U)(l:List Nat):
 ∀(I:av) (ds:List Deferred) (U:Hp) (a:Act),jl E N ops Q (l.filterMap (ops[·]?)) I ds U->cM N a I ds->ax E (G (b.at a (.inRegion ops (l++tl)::k)) cs) U (λg ae=>∃aC dk a',cM N a' aC dk/\Q .normal aC dk ae/\g=G (b.at a' (.inRegion ops tl::k)) cs):=by
 induction l with
 |nil=>
  intro I ds U a h ha;exact ax.here ⟨I,ds,a,ha,h,rfl⟩
 |cons i rest ih=>
  intro I ds U a h ha
  cases ho:ops[i]? with
  |none=>
   rw[List.filterMap_cons_none ho]at h;have jx:((ops[i]?).map (Region.wanted · (yielded ops a.tmps))).getD false=false:=by rw[ho];rfl
   have fC:(b.at a (.inRegion ops (i::(rest++tl))::k)).finish undef=b.at a (.inRegion ops (rest++tl)::k):=by rw[Frame.finish_at,ho];rfl
   refine ax.ctl (g':=G (b.at a (.inRegion ops (rest++tl)::k)) cs) (λw=>?_) rfl rfl (ih _ _ _ _ h ha);rw[<-fC];simp only[Frame.at]at*;simp[G,stepG,stepG.exec,jx]
  |some o=>
   rw[List.filterMap_cons_some ho]at h;simp only[jl]at h;obtain⟨hd,h⟩:=h;by_cases hw:Region.wanted o (gX N ops I)=true
   ·rw[if_pos hw]at h;have jx:Region.wanted o (yielded ops a.tmps)=true:=by rw[ha.yI];exact hw
    have h:=sC h;unfold wpOp at h;rw[<-ha.eval]at h;refine ax.step rfl (Nr (P:=P) (main:=E.main) (b:=b) (k:=k) (cs:=cs) (rest:=rest++tl) ho jx hb h) ?_;rintro g ae (⟨v,hv,rfl⟩|⟨d,tp,rfl⟩|⟨f,args,hc,rfl⟩|⟨v,hp,rfl⟩)
    ·exact ih _ _ _ _ hv (ha.put hd v)
    ·exact ih _ _ _ _ tp ((ha.defer d).put hd undef)
    ·refine ay.run hc ?_ ?_
     ·intro v gA hv;have fC:(b.at a (.inRegion ops (i::(rest++tl))::k)).finish v=b.at (a.put o.dst v) (.inRegion ops (rest++tl)::k):=by rw[Frame.finish_at,ho];rfl
      rw[fC];exact ih _ _ _ _ hv (ha.put hd v)
     ·intro ch gA hp;exact absurd hp (hQ _ _ _ _)
    ·exact absurd hp (hQ _ _ _ _)
   ·rw[if_neg hw]at h;have jx:((ops[i]?).map (Region.wanted · (yielded ops a.tmps))).getD false=false:=by rw[ho,ha.yI];simpa using hw
    have fC:(b.at a (.inRegion ops (i::(rest++tl))::k)).finish undef=b.at (a.put o.dst undef) (.inRegion ops (rest++tl)::k):=by rw[Frame.finish_at,ho];rfl
    refine ax.ctl (g':=G (b.at (a.put o.dst undef) (.inRegion ops (rest++tl)::k)) cs) (λw=>?_) rfl rfl (ih _ _ _ _ h (ha.put hd undef));rw[<-fC];simp only[Frame.at]at*;simp[G,stepG,stepG.exec,jx]
def ki(X:av->List Deferred->Hp->Prop):Post
 | .normal,I,ds,U=>X I ds U
 |_,_,_,_=>False
variable {X:av->List Deferred->Hp->Prop}
def yt:∀ch I ds U,¬ki X (.panic ch) I ds U:=λ_ _ _ _ h=>h
variable {c:Code}{U:Hp}{b:Frame}{k:List Item}{cs:List Frame}{a:Act}
def nT{I:av}{ds:List Deferred}(h:cO E N c (ki X) I ds U)(hb:b.kind≠.early)(ha:cM N a I ds):
 ax E (G (b.at a (.code c::k)) cs) U λg ae=>∃aC dk a',cM N a' aC dk/\X aC dk ae/\g=G (b.at a' k) cs:=by
 refine(IF c _ _ _ _ h b k cs a hb ha).mono ?_;rintro g ae ⟨e,aC,dk,a',dI,hq,Bh⟩
 cases e<;>first|exact hq.elim|skip
 obtain rfl:=Bh;exact⟨aC,dk,a',dI,hq,rfl⟩
def Hv:Op->Bool
 | .defer _=>true
 |_=>false
variable {main:Bool}{w:World}
def ap8{id:Nat}:stepG P main (G (b.atR a (.inBlock id::k)) cs) w=.go (G (b.atR a k) cs) w:=by simp[G,stepG,stepG.exec,Frame.atR]
def ap7{id:Nat}:stepG P main (G (b.atR a (.code (.block id c)::k)) cs) w=.go (G (b.atR a (.code c:: .inBlock id::k)) cs) w:=by simp[G,stepG,stepG.exec,Frame.atR]
def VP{id:Nat}:stepG P main (G (b.atR a (.code (.region id ops false)::k)) cs) w=.go (G (b.atR a (.inRegion ops (List.range ops.size)::k)) cs) w:=by simp[G,stepG,stepG.exec,Frame.atR]
def aqa:stepG P main (G (b.atR a (.inRegion ops []::k)) cs) w=.go (G (b.atR a k) cs) w:=by simp[G,stepG,stepG.exec,Frame.atR]
variable {i:Nat}{rest:List Nat}{o:Oper}
def ap9(ho:ops[i]? =some o)(hw:Region.wanted o (yielded ops a.tmps)=true)(hd:Hv o.op=false):
 stepG P main (G (b.atR a (.inRegion ops (i::rest)::k)) cs) w=stepG.apply P true (b.atR a (.inRegion ops (i::rest)::k)) cs none (execOp a.eval o) w:=by
 have he:=Frame.eval_atR b a (.inRegion ops (i::rest)::k);simp only[Frame.atR]at he
 cases hr:b.roundOf with
 |none=>simp[G,stepG,stepG.exec,stepG.oper,Frame.oper?,Frame.atR,ho,hw,hr];rw[hr]at he;rw[he]
 |some l=>
  rw[hr]at he;simp only[G,stepG,stepG.exec,stepG.oper,Frame.oper?,Frame.atR,ho,hw,hr,Option.map_some,Option.getD_some,if_true,he]
  cases aS:o.op<;>first|rfl|(rw[aS]at hd;cases hd)
def aqj(ho:ops[i]? =some o)(hw:Region.wanted o (yielded ops a.tmps)=true)(hd:Hv o.op=false)(hk:b.kind≠.early){V:Value->Hp->Prop}{D:Deferred->Hp->Prop}{C:FuncId->Array Value->Hp->Prop}(h:wpS P (execOp a.eval o) (pK V D C) (sL λ_ _=>False) U):
 gZ P main (G (b.atR a (.inRegion ops (i::rest)::k)) cs) U λg ae=>
  (∃v,V v ae/\g=G (b.atR (a.put o.dst v) (.inRegion ops rest::k)) cs)\/
  (∃d,D d ae/\g=G (b.atR ({a with defers:=d::a.defers}.put o.dst undef) (.inRegion ops rest::k)) cs)\/
  (∃f args,C f args ae/\g=G (Frame.enter P f args .normal) (b.atR a (.inRegion ops (i::rest)::k)::cs)):=by
 intro au2 w hs
 have fC:∀v,(b.atR a (.inRegion ops (i::rest)::k)).finish v=b.atR (a.put o.dst v) (.inRegion ops rest::k):=by intro v;rw[Frame.finish_atR,ho];rfl
 have ou:(b.kind==CallKind.early)=false:=aW hk;obtain⟨w',ae,bY,e1,cU,eF,gp,hr⟩:=oL (execOp a.eval o) w U #[] h hs;have gF:((execOp a.eval o).runT P w #[]).2=bY:=by simpa using e1
 rw[ap9 ho hw hd];have iJ:∀e∈seen P b.fn bY,iD au2 w'.heap.size e:=λe he=>gp e (mem_seen he);rcases hr with⟨nx,hn,hq⟩|⟨hh,hn,hq⟩
 ·have e2:(execOp a.eval o).runT P w #[]=(.ok nx w',bY):=Prod.ext hn gF
  cases nx<;>first|exact hq.elim|skip
  ·rename_i v
   have:stepG.apply P true (b.atR a (.inRegion ops (i::rest)::k)) cs none (execOp a.eval o) w=.go (G (b.atR (a.put o.dst v) (.inRegion ops rest::k)) cs) w' (seen P b.fn bY):=by rw[<-fC];simp[stepG.apply,-Sem.runT_eq,e2,G,Frame.atR,ou,GStep.after]
   rw[this];exact⟨ae,cU,eF,iJ,rfl,.inl ⟨v,hq,rfl⟩⟩
  ·have:stepG.apply P true (b.atR a (.inRegion ops (i::rest)::k)) cs none (execOp a.eval o) w=.go (G (b.atR (a.put o.dst undef) (.inRegion ops rest::k)) cs) w' (seen P b.fn bY):=by rw[<-fC];simp[stepG.apply,-Sem.runT_eq,e2,G,Frame.atR,ou,GStep.after]
   rw[this];exact⟨ae,cU,eF,iJ,rfl,.inl ⟨undef,hq,rfl⟩⟩
  ·rename_i f args
   have:stepG.apply P true (b.atR a (.inRegion ops (i::rest)::k)) cs none (execOp a.eval o) w=.go (G (Frame.enter P f args .normal) (b.atR a (.inRegion ops (i::rest)::k)::cs)) w' (seen P b.fn bY):=by simp[stepG.apply,-Sem.runT_eq,e2,G,Frame.atR,ou,GStep.after]
   rw[this];exact⟨ae,cU,eF,iJ,rfl,.inr (.inr ⟨f,args,hq,rfl⟩)⟩
  ·rename_i d
   have DF:({b.atR a (.inRegion ops (i::rest)::k)with defers:=d::a.defers}:Frame).finish undef=b.atR ({a with defers:=d::a.defers}.put o.dst undef) (.inRegion ops rest::k):=by have:=Frame.finish_atR b {a with defers:=d::a.defers} ops i rest k undef;rw[ho]at this;exact this
   have:stepG.apply P true (b.atR a (.inRegion ops (i::rest)::k)) cs none (execOp a.eval o) w=.go (G (b.atR ({a with defers:=d::a.defers}.put o.dst undef) (.inRegion ops rest::k)) cs) w' (seen P b.fn bY):=by rw[<-DF];simp[stepG.apply,-Sem.runT_eq,e2,G,Frame.atR,ou,GStep.after]
   rw[this];exact⟨ae,cU,eF,iJ,rfl,.inr (.inl ⟨d,hq,rfl⟩)⟩
 ·cases hh<;>exact hq.elim
def Wm(hb:b.kind≠.early)(G6:(ops.toList.all λo=> !Hv o.op)=true)(l:List Nat):
 ∀(I:av) (ds:List Deferred) (U:Hp) (a:Act),jl E N ops (ki X) (l.filterMap (ops[·]?)) I ds U->cM N a I ds->
  ax E (G (b.atR a (.inRegion ops l::k)) cs) U (λg ae=>∃aC dk a',cM N a' aC dk/\X aC dk ae/\g=G (b.atR a' k) cs):=by
 induction l with
 |nil=>
  intro I ds U a h ha;exact ax.ctl (λw=>aqa) rfl rfl (ax.here ⟨I,ds,a,ha,h,rfl⟩)
 |cons i rest ih=>
  intro I ds U a h ha
  cases ho:ops[i]? with
  |none=>
   rw[List.filterMap_cons_none ho]at h;have jx:((ops[i]?).map (Region.wanted · (yielded ops a.tmps))).getD false=false:=by rw[ho];rfl
   have fC:(b.atR a (.inRegion ops (i::rest)::k)).finish undef=b.atR a (.inRegion ops rest::k):=by rw[Frame.finish_atR,ho];rfl
   refine ax.ctl (g':=G (b.atR a (.inRegion ops rest::k)) cs) (λw=>?_) rfl rfl (ih _ _ _ _ h ha);rw[<-fC];simp only[Frame.atR]at*;simp[G,stepG,stepG.exec,jx]
  |some o=>
   rw[List.filterMap_cons_some ho]at h;simp only[jl]at h;obtain⟨hd,h⟩:=h;by_cases hw:Region.wanted o (gX N ops I)=true
   ·rw[if_pos hw]at h;have jx:Region.wanted o (yielded ops a.tmps)=true:=by rw[ha.yI];exact hw
    have h:=sC h;unfold wpOp at h;rw[<-ha.eval]at h
    have hod:Hv o.op=false:=by have:=List.all_eq_true.1 G6 o (by rw[Array.getElem?_eq_some_iff]at ho;obtain⟨h1,rfl⟩:=ho;simp);simpa using this
    have h:wpS P (execOp a.eval o) (pK (λv ae=>jl E N ops (ki X) (rest.filterMap (ops[·]?)) (aB I o.dst v) ds ae) (λd ae=>jl E N ops (ki X) (rest.filterMap (ops[·]?)) (aB I o.dst undef) (d::ds) ae)
     (λf args ae=>ay E f args ae (yr (λv gA=>jl E N ops (ki X) (rest.filterMap (ops[·]?)) (aB I o.dst v) ds gA) λ_ _=>False))) (sL λ_ _=>False) U:=h
    refine ax.step rfl (aqj (P:=P) (main:=E.main) (b:=b) (k:=k) (cs:=cs) (rest:=rest) ho jx hod hb h) ?_;rintro g ae (⟨v,hv,rfl⟩|⟨d,tp,rfl⟩|⟨f,args,hc,rfl⟩)
    ·exact ih _ _ _ _ hv (ha.put hd v)
    ·exact ih _ _ _ _ tp ((ha.defer d).put hd undef)
    ·refine ay.run hc ?_ ?_
     ·intro v gA hv;have fC:(b.atR a (.inRegion ops (i::rest)::k)).finish v=b.atR (a.put o.dst v) (.inRegion ops rest::k):=by rw[Frame.finish_atR,ho];rfl
      rw[fC];exact ih _ _ _ _ hv (ha.put hd v)
     ·intro ch gA hp;exact hp.elim
   ·rw[if_neg hw]at h;have jx:((ops[i]?).map (Region.wanted · (yielded ops a.tmps))).getD false=false:=by rw[ho,ha.yI];simpa using hw
    have fC:(b.atR a (.inRegion ops (i::rest)::k)).finish undef=b.atR (a.put o.dst undef) (.inRegion ops rest::k):=by rw[Frame.finish_atR,ho];rfl
    refine ax.ctl (g':=G (b.atR (a.put o.dst undef) (.inRegion ops rest::k)) cs) (λw=>?_) rfl rfl (ih _ _ _ _ h (ha.put hd undef));rw[<-fC];simp only[Frame.atR]at*;simp[G,stepG,stepG.exec,jx]
variable {l:Nat}{r:Loop}
def VQ{dst:Option Tmp}{t x:Operand}{cB:Array TypeId}{ty:TypeId}{pos:String}{af:Array Edge}{gd:Option (Nat×Bool)}{p:Tmp}(ho:ops[i]? =some ⟨dst,.call ⟨.value t,#[x],cB⟩,ty,pos,af,gd⟩)(hw:Region.wanted ⟨dst,.call ⟨.value t,#[x],cB⟩,ty,pos,af,gd⟩ (yielded ops a.tmps)=true)(ht:a.eval t=.func (.yield l) #[] #[])(hl:U.f l=some (.loop r))(hp:r.params= #[p]):
 gZ P main (G (b.at a (.inRegion ops (i::rest)::k)) cs) U λg ae=>ae=U/\
  g=G (Frame.round l r.fn (r.tmps.setIfInBounds p (a.eval x)) r.assign r.body .normal) (b.at a (.inRegion ops (i::rest)::k)::cs):=by
 intro au2 w hs
 have h:wpS P (execOp a.eval ⟨dst,.call ⟨.value t,#[x],cB⟩,ty,pos,af,gd⟩) (λn ae=>n=.round l r.fn (r.tmps.setIfInBounds p (a.eval x)) r.assign r.body/\ae=U) (λ_ _=>False) U:=by simp only[execOp,resolve,Deferred.ofValue,ht,aG,bt,invoke,Instr.yield,Instr.getLoop,oK];refine⟨_,hl,rfl,?_⟩;simp only[bt,hp];simp[bt]
 obtain⟨w',ae,bY,e1,cU,eF,gp,hr⟩:=oL _ w U #[] h hs;have gF:((execOp a.eval ⟨dst,.call ⟨.value t,#[x],cB⟩,ty,pos,af,gd⟩).runT P w #[]).2=bY:=by simpa using e1
 rw[stepG_oper ho hw];have iJ:∀fn,∀e∈seen P fn bY,iD au2 w'.heap.size e:=λfn e he=>gp e (mem_seen he);rcases hr with⟨nx,hn,hq,rfl⟩|⟨hh,hn,hq⟩
 ·subst hq;have e2:(execOp a.eval ⟨dst,.call ⟨.value t,#[x],cB⟩,ty,pos,af,gd⟩).runT P w #[]=(_,bY):=Prod.ext hn gF;generalize execOp a.eval _=s at e2|-;unfold stepG.apply;simp only[if_true,e2,G,GStep.after];refine⟨_,cU,eF,λe he=>?_,rfl,rfl,rfl⟩;split at he
  ·simp[seen]at he
  ·simp only[Array.append_empty]at he;exact iJ _ e he
 ·exact hq.elim
def xj(l:Nat)(fn:FuncId):Frame:={(default:Frame)with fn,kind:=.normal,roundOf:=some l}
variable {fn:FuncId}{x y:Code}
def ao3{tmps:Array Value}:Frame.round l fn tmps x y .normal=(xj l fn).atR ⟨tmps,[]⟩ [.code x,.beginRound,.code y]:=by simp[Frame.round,xj,Frame.atR]
def aqd(hl:U.f l=some (.loop r))(hs:r.state=.ready):
 gZ P main (G ((xj l fn).atR a (.beginRound::k)) cs) U λg ae=>ae=U.set l (.loop {r with state:=.busy})/\g=G ((xj l fn).atR a k) cs:=by
 intro au2 w cU
 have h:wpS P (do (some l).elim (stuck "beginRound: no round") Instr.beginRound;pure Next.skip) (λn ae=>n=.skip/\ae=U.set l (.loop {r with state:=.busy})) (λ_ _=>False) U:=by simp only[Option.elim,Instr.beginRound,Instr.getLoop,aG,oK];refine⟨_,hl,rfl,?_⟩;simp only[bt,tW];refine⟨_,hl,rfl,?_⟩;rw[hs];simp[bt]
 obtain⟨w',ae,bY,e1,iH,eF,gp,hr⟩:=oL _ w U #[] h cU;rcases hr with⟨nx,hn,rfl,rfl⟩|⟨hh,hn,hq⟩
 ·have gF:((do (some l).elim (stuck "beginRound: no round") Instr.beginRound;pure Next.skip:Sem Next).runT P w #[]).2=bY:=by simpa using e1
  have e2:(do (some l).elim (stuck "beginRound: no round") Instr.beginRound;pure Next.skip:Sem Next).runT P w #[]=(_,bY):=Prod.ext hn gF;have iJ:∀fn,∀e∈seen P fn bY,iD au2 w'.heap.size e:=λfn e he=>gp e (mem_seen he);simp only[G,Frame.atR,xj,stepG,stepG.exec];generalize Ee:(do (some l).elim (stuck "beginRound: no round") Instr.beginRound;pure Next.skip:Sem Next)=s at e2|-;unfold stepG.apply;simp only[if_true,e2,GStep.after,Frame.finish];refine⟨_,iH,eF,λe he=>?_,rfl,rfl,rfl⟩;split at he
  ·simp[seen]at he
  ·simp only[Array.append_empty]at he;exact iJ _ e he
 ·exact hq.elim
def aqf{c:Frame}(hl:U.f l=some (.loop r)):
 gZ P main (G ((xj l fn).atR a []) (c::cs)) U λg ae=>ae=U.set l (.loop {r with state:=.ready,pending:=none})/\g=G (c.finish (.bool true)) cs:=by
 intro au2 w cU
 have h:wpS P (Instr.endRound l none) (λn ae=>n=.bool true/\ae=U.set l (.loop {r with state:=.ready,pending:=none})) (λ_ _=>False) U:=by simp only[Instr.endRound,Instr.getLoop,aG,oK];refine⟨_,hl,rfl,?_⟩;simp only[bt,tW];refine⟨_,hl,rfl,?_⟩;simp
 obtain⟨w',ae,bY,e1,iH,eF,gp,hr⟩:=oL _ w U #[] h cU;rcases hr with⟨nx,hn,rfl,rfl⟩|⟨hh,hn,hq⟩
 ·have gF:((Instr.endRound l none).runT P w #[]).2=bY:=by simpa using e1
  have e2:(Instr.endRound l none).runT P w #[]=(_,bY):=Prod.ext hn gF;have iJ:∀fn,∀e∈seen P fn bY,iD au2 w'.heap.size e:=λfn e he=>gp e (mem_seen he);simp only[G,Frame.atR,xj,stepG,stepG.exec];generalize Instr.endRound l none=s at e2|-;simp only[e2,GStep.after,doReturn];exact⟨_,iH,eF,λe he=>iJ _ e (aW he),rfl,rfl,rfl⟩
 ·exact hq.elim
def aqk{f:Operand}{ps:Array Tmp}{fid:FuncId}{cap:Array Value}(hf:a.eval f=.func (.func fid) #[] cap)(hg:ck P fid=true)(hk:b.kind=.normal):
 gZ P main (G (b.at a (.code (.rangeFunc f ps x y)::k)) cs) U λg ae=>∃d l,U.f d=none/\l≠d/\U.f l=none/\
  ae=(U.set d (.deferred (some []))).set l (.loop {state:=.ready,pending:=none,fn:=b.fn,tmps:=a.tmps,params:=ps,assign:=x,body:=y,defers:=d})/\
  g=G (Frame.enter P fid (#[.func (.yield l) #[] #[]]++cap) .normal) (b.at {a with defers:={target:=.collected d,args:=#[]}::a.defers} (.inRangeFunc l::k)::cs):=by
 intro au2 w cU
 have h:wpS P (Instr.enterLoop b.fn a.tmps ps x y none) (λn ae=>∃d,n=(n.1,[{target:=.collected d,args:=#[]}])/\U.f d=none/\n.1≠d/\U.f n.1=none/\
  ae=(U.set d (.deferred (some []))).set n.1 (.loop {state:=.ready,pending:=none,fn:=b.fn,tmps:=a.tmps,params:=ps,assign:=x,body:=y,defers:=d})) (λ_ _=>False) U:=by
  simp only[Instr.enterLoop,aG,yH,bt];intro d hd l hl
  have aE:l≠d:=by intro e;subst e;simp[Hp.set]at hl
  refine⟨d,rfl,hd,aE,?_,rfl⟩;simpa[Hp.set,aE]using hl
 obtain⟨w1,cX,Qy,e1,j8,jf,KT,hr⟩:=oL _ w U #[] h cU;rcases hr with⟨⟨l,mk⟩,hn,d,hm,hd,aE,Sw,kE⟩|⟨hh,hn,hq⟩
 ·simp only[Prod.mk.injEq,true_and]at hm aE Sw kE;subst hm;have gF:((Instr.enterLoop b.fn a.tmps ps x y none).runT P w #[]).2=Qy:=by simpa using e1
  have e2:(Instr.enterLoop b.fn a.tmps ps x y none).runT P w #[]=(_,Qy):=Prod.ext hn gF
  have h3:∀ev:Operand->Value,ev f=a.eval f->(∀v,ev (.const v)=v)->wpS P (do let d<-resolve ev {callee:=.value f,args:=#[.const (.func (.yield l) #[] #[])],argTypes:=#[]} 0;invoke d.target d.args)
   (λn ae=>n=.enter fid (#[.func (.yield l) #[] #[]]++cap)/\ae=cX) (λ_ _=>False) cX:=by
   intro ev h1 h2;simp only[resolve,Deferred.ofValue,h1,hf,aG,bt,invoke];refine IG hg ?_;simp[h2]
  have kA:∀td ds,({fn:=b.fn,tmps:=a.tmps,todo:=td,defers:=ds,mode:=.run,kind:=b.kind}:Frame).eval=a.eval:=by intro td ds;funext o;cases o<;>rfl
  simp only[G,Frame.at,stepG,stepG.exec];generalize Instr.enterLoop b.fn a.tmps ps x y none=s at e2|-;simp only[e2];have h4:=h3 a.eval rfl (λ_=>rfl);obtain⟨w2,jm,JV,e3,iH,ic,KU,bZ⟩:=oL _ w1 cX #[] h4 j8;rcases bZ with⟨nx,xW,rfl,tC⟩|⟨_,_,hq⟩
  ·subst tC;have e3':((do let d<-resolve a.eval {callee:=.value f,args:=#[.const (.func (.yield l) #[] #[])],argTypes:=#[]} 0;invoke d.target d.args:Sem Next).runT P w1 #[]).2=JV:=by simpa using e3
   have e4:(do let d<-resolve a.eval {callee:=.value f,args:=#[.const (.func (.yield l) #[] #[])],argTypes:=#[]} 0;invoke d.target d.args:Sem Next).runT P w1 #[]=(_,JV):=Prod.ext xW e3';simp only[kA];generalize(do let d<-resolve a.eval {callee:=.value f,args:=#[.const (.func (.yield l) #[] #[])],argTypes:=#[]} 0;invoke d.target d.args:Sem Next)=s2 at e4|-;unfold stepG.apply;simp only[if_true,e4,GStep.after,hk];refine⟨_,iH,jf.trans ic,λe he=>?_,rfl,d,l,hd,aE,Sw,kE,rfl⟩;rcases Array.mem_append.1 he with he|he
   ·exact(KT e (mem_seen he)).mono ic.um
   ·simp only[Array.append_empty]at he;exact KU e (mem_seen he)
  ·exact hq.elim
 ·exact hq.elim
def aqe(hl:U.f l=some (.loop r))(hs:r.state=.ready)(hp:r.pending=none):
 gZ P main (G (b.at a (.endRangeFunc l::k)) cs) U λg ae=>ae=U.set l (.loop {r with state:=.exhausted})/\g=G (b.at a k) cs:=by
 intro au2 w cU
 have h:wpS P (Instr.endLoop l) (λn ae=>n=none/\ae=U.set l (.loop {r with state:=.exhausted})) (λ_ _=>False) U:=by simp only[Instr.endLoop,Instr.getLoop,aG,oK];refine⟨_,hl,rfl,?_⟩;simp only[bt,hs];rw[if_neg ai,aG,tW];exact⟨_,hl,rfl,hp,rfl⟩
 obtain⟨w',ae,bY,e1,iH,eF,gp,hr⟩:=oL _ w U #[] h cU;rcases hr with⟨nx,hn,rfl,rfl⟩|⟨hh,hn,hq⟩
 ·have gF:((Instr.endLoop l).runT P w #[]).2=bY:=by simpa using e1
  have e2:(Instr.endLoop l).runT P w #[]=(_,bY):=Prod.ext hn gF;have iJ:∀fn,∀e∈seen P fn bY,iD au2 w'.heap.size e:=λfn e he=>gp e (mem_seen he);simp only[G,Frame.at,stepG,stepG.exec];generalize Instr.endLoop l=s at e2|-;simp only[e2,GStep.after];exact⟨_,iH,eF,λe he=>iJ _ e (aW he),rfl,rfl,rfl⟩
 ·exact hq.elim
def aqi{d:Nat}{fr:Frame}(hd:U.f d=some (.deferred (some [])))(hm:fr.mode=.returning)(nF:fr.defers=[{target:=.collected d,args:=#[]}]):
 gZ P main (G fr cs) U λg ae=>ae=U.set d (.deferred none)/\g=G {fr with defers:=[]} cs:=by
 intro au2 w cU
 have h:wpS P (Instr.takeDeferred d) (λn ae=>n=[]/\ae=U.set d (.deferred none)) (λ_ _=>False) U:=by simp only[Instr.takeDeferred,aG,oK];refine⟨_,hd,rfl,?_⟩;simp only[bt,aG,tW];exact⟨_,hd,rfl,trivial,trivial⟩
 obtain⟨w',ae,bY,e1,iH,eF,gp,hr⟩:=oL _ w U #[] h cU;rcases hr with⟨nx,hn,rfl,rfl⟩|⟨hh,hn,hq⟩
 ·have gF:((Instr.takeDeferred d).runT P w #[]).2=bY:=by simpa using e1
  have e2:(Instr.takeDeferred d).runT P w #[]=(_,bY):=Prod.ext hn gF;have iJ:∀fn,∀e∈seen P fn bY,iD au2 w'.heap.size e:=λfn e he=>gp e (mem_seen he);simp only[G,stepG,hm,unwind,nF];generalize Instr.takeDeferred d=s at e2|-;simp only[e2,GStep.after];exact⟨_,iH,eF,λe he=>iJ _ e (aW he),rfl,rfl,rfl⟩
 ·exact hq.elim
end
end Go.Qw
