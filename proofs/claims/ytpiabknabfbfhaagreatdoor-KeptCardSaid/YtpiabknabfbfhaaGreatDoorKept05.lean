/- 5 -/
import Derived.Conc.FxEnd
import Derived.Conc.FxBegin
import Derived.Test.YtpiabknabfbfhaaGreatDoorKept04
set_option linter.all false
set_option maxRecDepth 100000
set_option maxHeartbeats 8000000
namespace Go.Qw
open Go Go.Conc
section
open Go.ConcN (sumTo upd sumTo_upd upd_ne upd_same)
def cQ.setChan {auu:Nat->Prop}{w:World}{U:Hp}(h:cQ auu w U){c:Nat}(hc:auu c)(cap:Nat)(buf:Array Value)(cl:Bool)(s r:Nat)(tm:Bool):cQ auu (w.setChan c cap buf cl s r tm) U:=by refine⟨λ{b o} hb=>?_,h.fX,λb hj=>by simpa[World.setChan]using h.low b hj⟩;have:c≠b:=λe=>h.sx hb (e▸hc);rw[heap_setChan_ne w _ _ _ _ _ _ this];exact h.heap hb
def Tq(h j:Nat)(fh:FuncId)(ph:String)(fj:FuncId)(pj:String)(c k cap:Nat):∀op∈met h j fh ph fj pj c k cap,∀a,op.act≠.mark (.release a):=by intro op aS a;simp only[met,List.mem_toArray,List.mem_cons,List.not_mem_nil,or_false]at aS;rcases aS with rfl|rfl|rfl|rfl<;>simp
def lV.setChan{W w:World}(h:lV W w)(c cap:Nat)(buf:Array Value)(cl:Bool)(s r:Nat)(tm:Bool):lV W (w.setChan c cap buf cl s r tm):=⟨h.os,h.tape,h.output⟩
variable {P:Program}{D:Duo P}
def Duo.Base.VC{gs cq:Array Goroutine}{w:World}{T u:Trace}{q:Nat->Nat}(b:D.Base gs w T q){c k k':Nat}{cl:Bool}(hc:D.chans c)(hk:w.heap[c]? =some (.chan 0 #[] cl k k false))(hs:cq.size=gs.size)(ho:∀i,0<i->i≠D.j->cq[i]? =gs[i]?)(hd:∀i,Deaf (T++u) i=Deaf T i)(hn:∀op∈u,∀a,op.act≠.mark (.release a)):D.Base cq (w.setChan c 0 #[] false k' k' false) (T++u) q:=by
 refine⟨by rw[hs];exact b.lJ,λi x h1 h2 hx=>?_,λi hi=>?_,(hd 0).trans b.d0,(hd _).trans b.dj,?_,λc' cE=>?_,by simpa[World.setChan]using b.mZ,b.rI.setChan _ _ _ _ _ _ _,b.nr.app hn⟩
 ·rw[ho i h1 h2]at hx;rw[hd];exact b.gY i x h1 h2 hx
 ·rw[hs]at hi;rw[hd];exact b.above i hi
 ·exact D.J4 w c k' hc b.k
 ·by_cases e:c=c'
  ·subst e;exact⟨k',heap_setChan_self w hk _ _ _ _ _ _⟩
  ·obtain⟨k0,h0⟩:=b.chans c' cE;exact⟨k0,by rw[heap_setChan_ne w _ _ _ _ _ _ e];exact h0⟩
def Duo.yJ(D:Duo P)(a b h x:Nat)(sa sb:Seat)(c kk:Nat)(v:Value)(U:Hp)(m:Machine)(T':Trace):Prop:=
 ∃cq w' bF q' ga gb J' k fh ph fj pj T1,m=crowd cq w' bF/\cq[a]? =some (Go.Conc.served ga undef)/\sa.home ga/\cq[b]? =some (Go.Conc.served gb (commResult sb.cases sb.shape kk v true))/\sb.home gb/\D.Base cq w' T' q'/\cQ J' w' U/\(∀y,D.Hid y->J' y)/\
  c<w'.heap.size/\T'=T1++met a b fh ph fj pj c k 0/\dN D.S D.Still D.Q D.j x w'.heap.size (Knows T1 h) T1/\Deaf T1 a=0/\Deaf T1 b=0
variable {P:Program}
theorem Duo.meet (D:Duo P){a b:Nat}(t:D.gF a b){sa sb:Seat}{c kk:Nat}{v zs z:Value}(hc:D.chans c)(Ld:sa.cases= #[scase c v zs])(xP:sa.shape=.send)(GF:D.Fits sb)(hk:sb.cases[kk]? =some (rcase c z))
 (hu:∀(m:Nat) (cc:CommCase),m≠kk->sb.cases[m]? =some cc->cc.chan≠.chan (some c)) (iq:∀cc∈sb.cases,cc.send=none) {h x:Nat} (t':(h=a/\x=b)\/(h=b/\x=a))
 {gs:Array Goroutine} {w:World} {sl:Option (Nat×Nat)} {q:Nat->Nat} {auu:Nat->Prop} {na nb:Nat} {ya yb:Goroutine} {U:Hp} {T:Trace} (oB:gs[a]? =some ya) (po:gs[b]? =some yb) (rZ:ei P (a==0) D.KW D.Still D.B sa na ya) (se:ei P (b==0) D.KW D.Still D.B sb nb yb)
 (hb:D.Base gs w T q) (hp:dN D.S D.Still D.Q D.j x w.heap.size (Knows T h) T) (gh:cQ auu w U) (hJ:∀y,D.Hid y->auu y) (hn:0<na\/0<nb):
 ∃N m' T',runNT P N (crowd gs w sl) T=(.next m',T')/\D.yJ a b h x sa sb c kk v U m' T':=by
 have KB:D.Fits sa:=by intro cc cS;rw[Ld]at cS;simp only[List.mem_toArray,List.mem_cons,List.not_mem_nil,or_false]at cS;subst cS;exact⟨c,hc,rfl⟩
 let Inv:Nat->Machine->Trace->Prop:=λμ m T=>(∃gs w sl q auu na nb ya yb,m=crowd gs w sl/\gs[a]? =some ya/\gs[b]? =some yb/\ei P (a==0) D.KW D.Still D.B sa na ya/\ei P (b==0) D.KW D.Still D.B sb nb yb/\D.Base gs w T q/\
  dN D.S D.Still D.Q D.j x w.heap.size (Knows T h) T/\cQ auu w U/\(∀y,D.Hid y->auu y)/\(0<na\/0<nb)/\μ=na+nb+sumTo gs.size q+1)\/D.yJ a b h x sa sb c kk v U m T
 suffices step:∀μ m T,Inv μ m T->D.yJ a b h x sa sb c kk v U m T\/∃m' ops vt,stepT P m=(.next m',ops)/\vt<μ/\Inv vt m' (T++ops)by
  exact runs_until step _ _ _ (.inl ⟨gs,w,sl,q,auu,na,nb,ya,yb,rfl,oB,po,rZ,se,hb,hp,gh,hJ,hn,rfl⟩)
 clear hn hJ gh hp hb se rZ po oB T ya yb na nb auu q sl w gs;have hx:x=a\/x=b:=t'.elim (λe=>.inr e.2) (λe=>.inl e.2);have hh:h=a\/h=b:=t'.elim (λe=>.inl e.1) (λe=>.inr e.1)
 have quiet:∀{p n:Nat} {T:Trace} {fn:FuncId} {pos:String} {es:Array Event},(p=a\/p=b)->dN D.S D.Still D.Q D.j x n (Knows T h) T->D.B<=n->(∀e∈es,EvC D.Still D.B e)->
  dN D.S D.Still D.Q D.j x n (Knows (T++MemOp.ofEvents p fn pos es) h) (T++MemOp.ofEvents p fn pos es):=by
  intro p n T fn pos es hp H hB eU;by_cases e:p=x
  ·subst e;exact H.other (λ_ z=>z.app _) (λl hl=>(D.apart l hl).2) hB eU
  ·have e':p=h:=by
    rcases t' with⟨rfl,rfl⟩|⟨rfl,rfl⟩
    ·exact hp.resolve_right e
    ·exact hp.resolve_left e
   subst e';obtain⟨h1,h2,h3,_⟩:=evC_ops (i:=p) (fn:=fn) (pos:=pos) eU
   exact H.appH h1 (λop aS b hb=>by
    obtain⟨b1,b2⟩:=h2 op aS b hb
    exact⟨λy=>absurd y (D.apart _ b2).1,λ_=>b1,λy=>absurd y (D.apart _ b2).2⟩) (λop aS=>MemAct.low_mono hB (h3 op aS))
 rintro μ m T (⟨gs,w,sl,q,auu,na,nb,ya,yb,rfl,oB,po,rZ,se,hb,hp,gh,hJ,hn,rfl⟩|Kx)
 case inr=>exact .inl Kx
 right;have Le:=ei.status rZ;have uD:=ei.status se
 have kH:∃(i:Nat) (g:Goroutine),gs[i]? =some g/\g.status=.running:=by
  rcases hn with hn|hn
  ·exact⟨a,ya,oB,Le.elim (·.1) (λz=>aa)⟩
  ·exact⟨b,yb,po,uD.elim (·.1) (λz=>aa)⟩
 obtain⟨i,z',d,bF,hi,hz,bw⟩:=crowd_pick (P:=P) (w:=w) (sl:=sl) (hb.awake t oB po (Le.elim (λa=>.inl a.1) (λa=>.inr (.inl a.1))) (uD.elim (λa=>.inl a.1) (λa=>.inr (.inl a.1)))) kH;have lC:=hb.at d;by_cases ea:i=a
 ·
  subst ea;obtain rfl:z'=ya:=by rw[oB]at hi;exact(Option.some.inj hi).symm
  rcases uD with⟨wv,v8⟩|⟨fC,rfl⟩
  ·
   obtain⟨cq,y',n',d',es,eX,bd,gU,fH,uG,q9,cH,eU⟩:=D.other t.symm KB (sl:=bF) lC po (λd=>again_of_running (.inl wv) _) (λc b=>offersAt_of_not_blocked (by rw[wv];simp) c b) oB hz rZ;exact⟨_,_,n'+nb+sumTo gs.size q+1,bw.trans eX,aa,.inl ⟨cq,w.at d',bF,q,auu,n',nb,y',yb,rfl,uG,fH,q9,se,cH,quiet (.inl rfl) hp hb.mZ eU,gh.at d',hJ,.inr v8,by rw[gU]⟩⟩
  ·rcases ei.pick rZ hz (D.C6 _ lC.k)with⟨cR,es,k,rfl,qQ,eU,ma⟩|⟨n',y',d',es,bd,l7,eU,ma,q9⟩
   ·
    obtain⟨pU,gb,rfl,aeH⟩:∃pU gb,yb=parked gb sb.cases sb.shape/\AtIn P (b==0) D.KW D.Still D.B sb pU gb:=by
     rcases se with⟨k',h0,_⟩|⟨_,pU,gb,e,h0⟩
     ·omega
     ·exact⟨pU,gb,e,h0⟩
    obtain⟨kc,qW⟩:=lC.chans c hc;rw[Ld,xP]at ma
    have KV:partners (gs.setIfInBounds i ph) c false=[(b,kk)]:=by rw[Ve lC t.symm po,offersAt_parked_at hk hu];rfl
    have hm:=crowd_send_meets_sel (P:=P) (sl:=bF) oB ma qW t.ne.symm po hk KV;refine⟨_,_,0,bw.trans hm,aa,.inr ⟨_,_,bF,q,cR,gb,auu,kc,cR.frame.fn,cR.frame.place,gb.frame.fn,gb.frame.place,T++MemOp.ofEvents i z'.frame.fn z'.frame.place es,rfl,?_,qQ.2.2.2.2.1,?_,aeH.2.2.2.2.1,?_,(gh.at d).setChan (hJ c (.inr (.inl hc))) _ _ _ _ _ _,hJ,?_,by simp[met],?_,?_,?_⟩⟩
    ·rw[Array.getElem?_setIfInBounds_self_of_lt (by simpa using hb.lt t.left)];rfl
    ·rw[Array.getElem?_setIfInBounds_ne t.ne,Array.getElem?_setIfInBounds_self_of_lt (by simpa using hb.lt t.right)];rfl
    ·rw[<-Array.append_assoc];refine Duo.Base.VC (lC.set (p:=i) t.left z' (y7 eU)) hc qW al (λj h1 h2=>?_) (λj=>NR _ _ _ _ _ _ _ _) (Tq _ _ _ _ _ _ _ _ _);have e1:i≠j:=by rcases t with⟨rfl,rfl⟩|⟨rfl,rfl⟩<;>omega
     have e2:b≠j:=by rcases t with⟨rfl,rfl⟩|⟨rfl,rfl⟩<;>omega
     simp[Array.getElem?_setIfInBounds_ne e1,Array.getElem?_setIfInBounds_ne e2]
    ·simpa[World.setChan]using(Array.getElem?_eq_some_iff.1 qW).1
    ·have:=quiet (fn:=z'.frame.fn) (pos:=z'.frame.place) (p:=i) (.inl rfl) hp hb.mZ eU;simp only[World.setChan,Array.size_setIfInBounds];exact this
    ·rw[Deaf_own,deafBehind_still (Qe eU)];exact hb.deaf t.left
    ·rw[Deaf_other T t.ne.symm.symm _ (λop aS=>by obtain⟨e,_,rfl⟩:=Conc.mem_ofEvents aS;rfl)];exact hb.deaf t.right
   ·refine⟨_,_,n'+0+sumTo gs.size q+1,bw.trans (runT_crowd_go oB ma),aa,.inl ⟨_,w.at d',bF,q,auu,n',0,y',yb,rfl,sw (hb.lt t.left) _ _,rf t.ne.symm po (ei.stays (hb.at d').chans GF se) _ _,q9,se,(hb.at d').step t.left (hb.at d').k hb.chans (Nat.le_refl _) (hb.rI.at d') (y7 eU),quiet (.inl rfl) hp hb.mZ eU,gh.at d',hJ,?_,by rw[iN]⟩⟩;exact .inl l7
 ·by_cases eb:i=b
  ·
   subst eb;obtain rfl:z'=yb:=by rw[po]at hi;exact(Option.some.inj hi).symm
   rcases Le with⟨Sk,zx⟩|⟨ij,rfl⟩
   ·
    obtain⟨cq,y',n',d',es,eX,bd,gU,fH,uG,q9,cH,eU⟩:=D.other t GF (sl:=bF) lC oB (λd=>again_of_running (.inl Sk) _) (λc b=>offersAt_of_not_blocked (by rw[Sk];simp) c b) po hz se;exact⟨_,_,na+n'+sumTo gs.size q+1,bw.trans eX,aa,.inl ⟨cq,w.at d',bF,q,auu,na,n',ya,y',rfl,fH,uG,rZ,q9,cH,quiet (.inr rfl) hp hb.mZ eU,gh.at d',hJ,.inl zx,by rw[gU]⟩⟩
   ·rcases ei.pick se hz (D.C6 _ lC.k)with⟨cR,es,k,rfl,qQ,eU,ma⟩|⟨n',y',d',es,bd,l7,eU,ma,q9⟩
    ·
     obtain⟨pU,ga,rfl,aeG⟩:∃pU ga,ya=parked ga sa.cases sa.shape/\AtIn P (a==0) D.KW D.Still D.B sa pU ga:=by
      rcases rZ with⟨k',h0,_⟩|⟨_,pU,ga,e,h0⟩
      ·omega
      ·exact⟨pU,ga,e,h0⟩
     rw[Ld,xP]at oB;obtain⟨kc,qW⟩:=lC.chans c hc
     have KV:partners (gs.setIfInBounds i ph) c true=[(a,0)]:=by rw[Ve lC t oB,offersAt_parked_send];simp
     have eC:∀(m:Nat) (c':CommCase),m≠kk->sb.cases[m]? =some c'->NoWays (w.at d) (gs.setIfInBounds i ph) c':=by intro m c' hm cE;obtain⟨r,fD,bZ⟩:=GF c' (Array.mem_of_getElem? cE);have aE:c≠r:=λe=>hu m c' hm cE (e▸bZ);refine Mh bZ (lC.chans r fD) (EL lC t oB ?_);rw[iq c' (Array.mem_of_getElem? cE)];show offersAt _ r true=[];rw[offersAt_parked_send,if_neg aE]
     have hm:=crowd_sel_recv_meets (P:=P) (sl:=bF) po ma hk eC qW t.ne oB KV;refine⟨_,_,0,bw.trans hm,aa,.inr ⟨_,_,bF,q,ga,cR,auu,kc,ga.frame.fn,ga.frame.place,cR.frame.fn,cR.frame.place,T++MemOp.ofEvents i z'.frame.fn z'.frame.place es,rfl,?_,aeG.2.2.2.2.1,?_,qQ.2.2.2.2.1,?_,(gh.at d).setChan (hJ c (.inr (.inl hc))) _ _ _ _ _ _,hJ,?_,by simp[met],?_,?_,?_⟩⟩
     ·rw[Array.getElem?_setIfInBounds_ne t.ne.symm,Array.getElem?_setIfInBounds_self_of_lt (by simpa using hb.lt t.left)];rfl
     ·rw[Array.getElem?_setIfInBounds_self_of_lt (by simpa using hb.lt t.right)];rfl
     ·rw[<-Array.append_assoc];refine Duo.Base.VC (lC.set (p:=i) t.right z' (y7 eU)) hc qW al (λj h1 h2=>?_) (λj=>NR _ _ _ _ _ _ _ _) (Tq _ _ _ _ _ _ _ _ _);have e1:i≠j:=by rcases t with⟨rfl,rfl⟩|⟨rfl,rfl⟩<;>omega
      have e2:a≠j:=by rcases t with⟨rfl,rfl⟩|⟨rfl,rfl⟩<;>omega
      simp[Array.getElem?_setIfInBounds_ne e1,Array.getElem?_setIfInBounds_ne e2]
     ·simpa[World.setChan]using(Array.getElem?_eq_some_iff.1 qW).1
     ·have:=quiet (fn:=z'.frame.fn) (pos:=z'.frame.place) (p:=i) (.inr rfl) hp hb.mZ eU;simp only[World.setChan,Array.size_setIfInBounds];exact this
     ·rw[Deaf_other T t.ne.symm _ (λop aS=>by obtain⟨e,_,rfl⟩:=Conc.mem_ofEvents aS;rfl)];exact hb.deaf t.left
     ·rw[Deaf_own,deafBehind_still (Qe eU)];exact hb.deaf t.right
    ·exact⟨_,_,0+n'+sumTo gs.size q+1,bw.trans (runT_crowd_go po ma),aa,.inl ⟨_,w.at d',bF,q,auu,0,n',ya,y',rfl,rf t.ne oB (ei.stays (hb.at d').chans KB rZ) _ _,sw (hb.lt t.right) _ _,rZ,q9,(hb.at d').step t.right (hb.at d').k hb.chans (Nat.le_refl _) (hb.rI.at d') (y7 eU),quiet (.inr rfl) hp hb.mZ eU,gh.at d',hJ,.inr l7,by rw[iN]⟩⟩
  ·obtain⟨i1,i2⟩:=t.AU ea eb;obtain⟨g',es,q',eX,hm,bd,cH⟩:=hb.leave i1 i2 hi hz d bF;refine⟨_,_,na+nb+sumTo gs.size q'+1,bw.trans eX,aa,.inl ⟨_,w.at d,bF,q',auu,na,nb,ya,yb,rfl,rf (λe=>ea e.symm) oB (ei.stays hb.chans KB rZ) _ _,rf (λe=>eb e.symm) po (ei.stays hb.chans GF se) _ _,rZ,se,cH,?_,gh.at d,hJ,hn,by rw[iN]⟩⟩;exact hp.appMute (λ_ x=>x.app _) (λop aS=>by obtain⟨e,he,rfl⟩:=Conc.mem_ofEvents aS;exact touch_mute (hm e he)) (λop aS=>by obtain⟨e,he,rfl⟩:=Conc.mem_ofEvents aS;exact low_mute (hm e he) _)
end
variable {a b:Nat}
def dN.stay{S Still Cp Q:Loc->Prop}{jw B:Nat}{t u:Trace}(H:dN S Still Q jw a B (Knows t b) t)(xA:∀l,Cp l->Still l)(hn:∀op∈u,op.act.touch?=none)(hl:∀op∈u,op.act.low B)(he:∀i,Knows t a i->Knows (t++u) b i):dN S Cp Q jw a B (Knows (t++u) b) (t++u):=by
 refine⟨λsaid=>noRace_appendMute (H.clean said) hn,λi J ha hm=>?_,λi J ha hw hS=>?_,λi J ha hq=>?_,seen_app H.seen hl⟩
 ·obtain⟨x,hx,bG⟩:=touch_of ha;rcases getElem?_append_cases hx with⟨hi,cX⟩|⟨_,dv⟩
  ·rcases H.known i J (by rw[touchAt_of cX];exact bG) hm with y|⟨y,z,v⟩|⟨y,z,v⟩
   ·exact .inl (y.app u)
   ·exact .inr (.inl ⟨y,z,λc=>v ((counts_old hi).1 c)⟩)
   ·have:=knows_own cX;have e:x.g=a:=by have:=g?_of cX;rw[y]at this;exact(Option.some.inj this).symm
    exact .inl (he i (e▸this))
  ·rw[hn x dv]at bG;cases bG
 ·obtain⟨x,hx,bG⟩:=touch_of ha;rcases getElem?_append_cases hx with⟨hi,cX⟩|⟨_,dv⟩
  ·exact(H.wrote i J (by rw[touchAt_of cX];exact bG) hw (xA _ hS)).app u
  ·rw[hn x dv]at bG;cases bG
 ·obtain⟨x,hx,bG⟩:=touch_of ha;rcases getElem?_append_cases hx with⟨_,cX⟩|⟨_,dv⟩
  ·exact(H.pure i J (by rw[touchAt_of cX];exact bG) hq).imp id (·.app u)
  ·rw[hn x dv]at bG;cases bG
variable {h c:Nat}
def Tp{j:Nat}{fh:FuncId}{ph:String}{fj:FuncId}{pj:String}{k cap B:Nat}(hc:c<B):∀op∈met h j fh ph fj pj c k cap,op.act.low B:=by intro op aS;simp only[met,List.mem_toArray,List.mem_cons,List.not_mem_nil,or_false]at aS;rcases aS with rfl|rfl|rfl|rfl<;>exact hc
structure Duo.Next {P:Program} (D D':Duo P):Prop where
 w:D'.W=D.W
 j:D'.j=D.j
 chans:D'.chans=D.chans
 s:D'.S=D.S
 q:D'.Q=D.Q
 b:D'.B=D.B
 k:∀w,D.K w->D'.K w
 fX:∀b,D'.Hid b->D.Hid b
variable {P:Program}{D D':Duo P}{T:Trace}
def Duo.Next.base(n:D.Next D'){gs:Array Goroutine}{w:World}{q:Nat->Nat}(b:D.Base gs w T q):D'.Base gs w T q:=
 ⟨by rw[n.j];exact b.lJ,by rw[n.j];exact b.gY,b.above,b.d0,by rw[n.j];exact b.dj,n.k w b.k,by rw[n.chans];exact b.chans,by rw[n.b];exact b.mZ,by rw[n.w];exact b.rI,by rw[n.q];exact b.nr⟩
def Duo.Next.refl(D:Duo P):D.Next D:=⟨rfl,rfl,rfl,rfl,rfl,rfl,λ_ h=>h,λ_ h=>h⟩
variable {sa sb s':Seat}{kk:Nat}{v:Value}{U:Hp}{m:Machine}
def Duo.yJ.pass (hm:D.yJ a b a b sa sb c kk v U m T)(n:D.Next D')(ha:∀ga,sa.home ga->∃k,ei P (a==0) D'.KW D'.Still D'.B s' k (Go.Conc.served ga undef)):
 ∃gb,sb.home gb/\D'.St b a s' (Go.Conc.served gb (commResult sb.cases sb.shape kk v true)) U m T:=by
 obtain⟨cq,w',bF,q',ga,gb,J',k,fh,ph,fj,pj,T1,rfl,h1,h2,h3,h4,h5,h6,h7,h8,rfl,h9,bB,bR⟩:=hm;obtain⟨k',eu⟩:=ha ga h2;refine⟨gb,h4,cq,w',bF,q',J',k',_,rfl,h3,h1,eu,n.base h5,?_,h6,λx hx=>h7 x (n.fX x hx)⟩;rw[n.s,n.q,n.j];refine h9.pass (λl hl=>?_) (met_mute _ _ _ _ _ _ _ _ _) (Tp h8) (λi hi=>SZ bB bR _ _ _ _ _ _ _ hi);obtain⟨x,rfl⟩:=D'.cell l (.inr (.inl hl));exact⟨rfl,by rw[<-n.s];exact(D'.apart _ hl).1⟩
def Duo.yJ.stay (hm:D.yJ a b b a sa sb c kk v U m T)(n:D.Next D')(hS:∀l,D'.Still l->D.Still l)(ha:∀ga,sa.home ga->∃k,ei P (a==0) D'.KW D'.Still D'.B s' k (Go.Conc.served ga undef)):
 ∃gb,sb.home gb/\D'.St b a s' (Go.Conc.served gb (commResult sb.cases sb.shape kk v true)) U m T:=by
 obtain⟨cq,w',bF,q',ga,gb,J',k,fh,ph,fj,pj,T1,rfl,h1,h2,h3,h4,h5,h6,h7,h8,rfl,h9,bB,bR⟩:=hm;obtain⟨k',eu⟩:=ha ga h2;refine⟨gb,h4,cq,w',bF,q',J',k',_,rfl,h3,h1,eu,n.base h5,?_,h6,λx hx=>h7 x (n.fX x hx)⟩;rw[n.s,n.q,n.j];exact h9.stay hS (met_mute _ _ _ _ _ _ _ _ _) (Tp h8) (λi hi=>SZ bB bR _ _ _ _ _ _ _ hi)
def Duo.env(D:Duo P)(hD:D.Deep){x:Nat}(t:D.gF h x){s:Seat}(hs:D.Fits s):Env P where
 main:=h==0
 st:=D.St h x s
 iR:=by rintro g U J m T ⟨gs,w,sl,q,auu,n,y,e0,e1,e2,e3,e4,e5,e6,e7⟩ hle;exact⟨gs,w,sl,q,auu,n,y,e0,e1,e2,e3,e4,e5,e6.iR hle,e7⟩
 own:=λg U m T X nA hr hX=>D.run t hs nA hr (ic.ac7 hD hX)
section
open Go.ConcN (sumTo upd sumTo_upd upd_ne upd_same)
structure Lone (P:Program) (S Q:Loc->Prop) (B:Nat) (gs:Array Goroutine) (w:World) (T:Trace) (q:Nat->Nat) (d:Nat):Prop where
 pos:0<gs.size
 gY:∀i g,0<i->gs[i]? =some g->QuitsD P (q i) (Deaf T i) g
 above:∀i,gs.size<=i->Deaf T i=0
 d0:Deaf T 0=d
 past:dN S (λ_=>False) (λ_=>False) 0 0 B (Knows T 0) T
 nr:pM Q T
def Fy(S:Loc->Prop)(n:Nat)(e:Event):Prop:=(∀b,(MemAct.ofEvent e).touch?=some b->S b.loc->b.kind≠.plain)/\(MemAct.ofEvent e).low n/\∀a,e.loc≠.mark (.release a)
section
variable {P:Program}{D:Duo P}{a:Nat}{b:Nat}{c:Nat}{U:Hp}{T:Trace}
variable {P:Program}{S Q:Loc->Prop}{B:Nat}{gs:Array Goroutine}{w w':World}{T:Trace}{q:Nat->Nat}{d:Nat}
def Lone.leave (h:Lone P S Q B gs w T q d){i:Nat}(h1:0<i){g:Goroutine}(hg:gs[i]? =some g)(hr:g.status=.running)(dd:Nat)(bF:Option (Nat×Nat)):
 ∃g' es q',runT P (crowd gs (w.at dd) bF) i=(.next (crowd (mN P gs i g g' (w.at dd)) (w.at dd) bF),MemOp.ofEvents i g.frame.fn g.frame.place es)/\sumTo gs.size q'<sumTo gs.size q/\Lone P S Q B (mN P gs i g g' (w.at dd)) (w.at dd) (T++MemOp.ofEvents i g.frame.fn g.frame.place es) q' d:=by
 have hq:=h.gY i g h1 hg;have qT:(i==0)=false:=by simp;omega
 have bd:i<gs.size:=(Array.getElem?_eq_some_iff.1 hg).1
 cases nK:q i with
 |zero=>rw[nK]at hq;rw[hq.1]at hr;cases hr
 |succ k=>
  rw[nK]at hq;rcases hq with⟨hf,_⟩|⟨_,g',es,hm,ma,bz⟩
  ·rw[hf]at hr;cases hr
  have eX:=runT_crowd_go (P:=P) (sl:=bF) (i:=i) hg (by rw[qT];exact ma (w.at dd))
  have Lg:sumTo gs.size (upd q i k)+(k+1)=sumTo gs.size q+k:=by have:=sumTo_upd q k id bd;simpa[nK]using this
  have fO:∀k,k≠i->Deaf (T++MemOp.ofEvents i g.frame.fn g.frame.place es) k=Deaf T k:=λk e=>Deaf_other T (λx=>e x.symm) _ (λop aS=>by obtain⟨e,_,rfl⟩:=Conc.mem_ofEvents aS;rfl);refine⟨g',es,upd q i k,eX,aa,by rw[iN];exact h.pos,λc x c1 hx=>?_,λc hc=>?_,(fO 0 aa).trans h.d0,?_,h.nr.events λe he=>Mk (hm e he)⟩
  ·by_cases e:c=i
   ·subst e;rw[sw bd]at hx;obtain rfl:=Option.some.inj hx;rw[upd_same,Deaf_own];exact bz
   ·obtain⟨z,hz,rfl⟩:=wM e hx;have pg:=h.gY c z c1 hz;rw[woken_quitsD pg,upd_ne q k e,fO c e];exact pg
  ·rw[iN]at hc;rw[fO c aa];exact h.above c hc
  ·exact h.past.appMute (λ_ x=>x.app _) (λop aS=>by obtain⟨e,he,rfl⟩:=Conc.mem_ofEvents aS;exact touch_mute (hm e he)) (λop aS=>by obtain⟨e,he,rfl⟩:=Conc.mem_ofEvents aS;exact low_mute (hm e he) _)
def Lone.awake (h:Lone P S Q B gs w T q d){a:Goroutine}(ha:gs[0]? =some a)(hr:a.status=.running):∀z∈gs,awake z:=by
 intro z hz;obtain⟨i,hi,rfl⟩:=Array.mem_iff_getElem.1 hz;by_cases e:i=0
 ·subst e;have:gs[0]=a:=by simpa[Array.getElem?_eq_getElem hi]using ha
  rw[this];exact awake_of (.inl hr)
 ·exact awake_of ((h.gY i _ aa (Array.getElem?_eq_getElem hi)).status.elim .inl λx=>.inr (.inr x))
def Lone.picked (h:Lone P S Q B gs w T q d){a:Goroutine}(ha:gs[0]? =some a)(hr:a.status=.running)(sl:Option (Nat×Nat)):
 ∃N cq dd bF vm T' q',runNT P N (crowd gs w sl) T=(.next (crowd cq (w.at dd) bF),T')/\cq.size=gs.size/\cq[0]? =some a/\Lone P S Q B cq (w.at dd) T' q' d/\∃pR,stepT P (crowd cq (w.at dd) bF)=runT P (crowd cq (w.at pR) vm) 0:=by
 generalize hM:sumTo gs.size q=M
 induction M using Nat.strongRecOn generalizing gs w sl T q with
 |_ M ih=>
  obtain⟨i,z,dd,bF,hi,hz,bw⟩:=crowd_pick (P:=P) (w:=w) (sl:=sl) (h.awake ha hr) ⟨0,a,ha,hr⟩;by_cases e:i=0
  ·subst e;exact⟨0,gs,w.drawn,sl,bF,T,q,rfl,rfl,ha,h,dd,bw⟩
  ·obtain⟨g',es,q',eX,bd,h'⟩:=h.leave aa hi hz dd bF;obtain⟨N,cq,pR,s1,s2,T',q'',fD,j0,dk,gm,hx⟩:=ih _ (by rw[<-hM];rw[iN];exact bd) h' (rf (λe'=>e e'.symm) ha (again_of_running (.inl hr) _) _ _) bF rfl;exact⟨N+1,cq,pR,s1,s2,T',q'',by simp only[runNT,bw,eX];exact fD,j0.trans (iN _ _ _),dk,gm,hx⟩
def Lone.go (h:Lone P S Q B gs w T q d){a:Goroutine}(ha:gs[0]? =some a)(hr:a.status=.running)(sl:Option (Nat×Nat)){X:Goroutine->World->Array Event->Prop}
 (hs:∀dd,∃a' w' es,stepG P true a (w.at dd)=.go a' w' es/\(∀e∈es,Fy S B e)/\X a' w' es):
 ∃N cq a' w' bF T' q' es,runNT P N (crowd gs w sl) T=(.next (crowd cq w' bF),T')/\cq.size=gs.size/\cq[0]? =some a'/\X a' w' es/\Lone P S Q B cq w' T' q' (deafBehind d es):=by
 obtain⟨N,cq,dd,bF,vm,T',q',fD,j0,dk,gm,pR,hx⟩:=h.picked ha hr sl;obtain⟨a',w',es,hgo,kF,hX⟩:=hs pR;have eX:=runT_crowd_go (P:=P) (sl:=vm) (i:=0) dk (show stepG P (0==0) a (w.at pR)=_ from hgo);have fO:∀i,i≠0->Deaf (T'++MemOp.ofEvents 0 a.frame.fn a.frame.place es) i=Deaf T' i:=λi hi=>Deaf_other T' (λx=>hi x.symm) _ (λop aS=>by obtain⟨e,_,rfl⟩:=Conc.mem_ofEvents aS;rfl);refine⟨N+1,mN P cq 0 a a' w',a',w',vm,T'++MemOp.ofEvents 0 a.frame.fn a.frame.place es,q',es,?_,(iN _ _ _).trans j0,sw gm.pos _ _,hX,by rw[iN];exact gm.pos,λc x c1 hx=>?_,λc hc=>?_,by rw[Deaf_own,gm.d0],?_,gm.nr.events λe he=>BM (kF e he).2.2⟩
 ·rw[runNT_add,fD];simp only[runNT,hx,eX]
 ·obtain⟨z,hz,rfl⟩:=wM aa hx;have pg:=gm.gY c z c1 hz;rw[woken_quitsD pg,fO c aa];exact pg
 ·rw[iN]at hc;have:=gm.pos;rw[fO c aa];exact gm.above c hc
 ·refine gm.past.appH (λop aS=>by obtain⟨e,_,rfl⟩:=Conc.mem_ofEvents aS;rfl) (λop aS b hb=>?_) (λop aS=>?_)
  ·obtain⟨e,he,rfl⟩:=Conc.mem_ofEvents aS;exact⟨(kF e he).1 b hb,λx=>x.elim,λx=>x.elim⟩
  ·obtain⟨e,he,rfl⟩:=Conc.mem_ofEvents aS;exact(kF e he).2.1
def Lone.goes {D:World->World->Array Event->Prop}{Stop:Goroutine->World->Prop}(hD:∀w w' es,D w w' es->∀e∈es,Fy S B e/\e.loc≠.mark .disable/\e.loc≠.mark .enable):
 ∀(n:Nat) {gs:Array Goroutine} {w:World} {T:Trace} {q:Nat->Nat} {a:Goroutine} (sl:Option (Nat×Nat)),Lone P S Q B gs w T q d->gs[0]? =some a->Goes P true AtRel D Stop n a w->
 ∃N cq a' w' bF T' q',runNT P N (crowd gs w sl) T=(.next (crowd cq w' bF),T')/\cq.size=gs.size/\cq[0]? =some a'/\(∀dd,Stop a' (w'.at dd))/\Lone P S Q B cq w' T' q' d:=by
 intro n
 induction n with
 |zero=>exactλ{gs w T q a} sl h ha hG=>⟨0,gs,a,w,sl,T,q,rfl,rfl,ha,λdd=>hG _ ⟨dd,rfl⟩,h⟩
 |succ n ih=>
  intro gs w T q a sl h ha hG;rcases hG with hG|⟨hr,hG⟩
  ·exact⟨0,gs,a,w,sl,T,q,rfl,rfl,ha,λdd=>hG _ ⟨dd,rfl⟩,h⟩
  ·obtain⟨N,cq,a',w',bF,T',q',es,h1,h2,h3,⟨hg,aE⟩,h4⟩:=h.go ha hr sl (X:=λa' w' es=>Goes P true AtRel D Stop n a' w'/\∀e∈es,e.loc≠.mark .disable/\e.loc≠.mark .enable) (λdd=>by
    have:=hG (w.at dd) ⟨dd,rfl⟩
    cases hgo:stepG P true a (w.at dd)<;>rw[hgo]at this<;>first|exact this.elim|skip
    rename_i a' w' es
    obtain⟨hd,hg⟩:=this
    exact⟨a',w',es,rfl,λe he=>(hD _ _ _ hd e he).1,hg,λe he=>(hD _ _ _ hd e he).2⟩)
   rw[deafBehind_still aE]at h4;obtain⟨N2,xw,a2,w2,xc,T2,q2,k1,k2,k3,k4,k5⟩:=ih bF h4 h3 hg;exact⟨N+N2,xw,a2,w2,xc,T2,q2,runNT_then h1 k1,k2.trans h2,k3,k4,k5⟩
def Lone.of {auu:Nat->Prop}(ha:0<gs.size)(hL:Leavers P T gs q)(hP:Past (tQ auu) w.heap.size T)(hN:pM Q T):Lone P (tQ auu) Q w.heap.size gs w T q 0:=
 ⟨ha,hL.old,hL.above,hP.hears,dN.ofPast hP (λ_ h=>h),hN⟩
def Lone.back {auu:Nat->Prop}(h:Lone P (tQ auu) Q B gs w T q 0):Leavers P T gs q/\Past (tQ auu) B T:=⟨⟨h.gY,h.above⟩,h.past.toPast h.d0⟩
def Lone.spawn (h:Lone P S Q B gs w T q 0){a a' child:Goroutine}(ha:gs[0]? =some a)(hr:a.status=.running)(sl:Option (Nat×Nat))(hs:∀dd,stepG P true a (w.at dd)=.spawn a' child (w.at dd) #[])
 {D:Duo P} {s:Seat} {n:Nat} {U:Hp} {auu:Nat->Prop} (hj:D.j=gs.size) (hBw:B<=w.heap.size) (Q3:D.S=S) (hDQ:D.Q=Q) (hh:ei P true D.KW D.Still D.B s n a') (hK:D.K w) (hc:∀c,D.chans c->Open c w) (hB:D.B<=w.heap.size) (hF:lV D.W w) (gh:cQ auu w U) (hJ:∀b,D.Hid b->auu b):
 ∃N m' T',runNT P N (crowd gs w sl) T=(.next m',T')/\D.St D.j 0 s child U m' T':=by
 obtain⟨N,cq,dd,bF,vm,T',q',fD,j0,dk,gm,pR,hx⟩:=h.picked ha hr sl;have eX:=runT_crowd_spawn (P:=P) (sl:=vm) (i:=0) dk (show stepG P (0==0) a (w.at pR)=_ from hs pR)
 have GZ:((MemOp.ofEvents 0 a.frame.fn a.frame.place #[]).push {g:=0,fn:=a.frame.fn,pos:=a.frame.place,act:=.go cq.size}).push {g:=cq.size,fn:=child.frame.fn,pos:=a.frame.place,act:=.start}=kU 0 cq.size a.frame.fn a.frame.place child.frame.fn:=by simp[ofEvents_eq,kU]
 rw[GZ]at eX;have uo:D.j=cq.size:=hj.trans j0.symm;have hd:∀i,Deaf (T'++kU 0 cq.size a.frame.fn a.frame.place child.frame.fn) i=Deaf T' i:=λi=>Deaf_quiet (RY _ _ _ _ _ i)
 refine⟨N+1,crowd ((cq.setIfInBounds 0 a').push child) (w.at pR) vm,T'++kU 0 cq.size a.frame.fn a.frame.place child.frame.fn,by rw[runNT_add,fD];simp only[runNT,hx,eX],_,w.at pR,vm,q',auu,n,a',rfl,?_,?_,aY hh,⟨?_,λi x h1 h2 hx=>?_,λi hi=>?_,by rw[hd];exact gm.d0,?_,D.C7 w pR hK,hc,hB,hF.at pR,pM.app (Q:=D.Q) (by rw[hDQ];exact gm.nr) λop aS a=>by
  simp only[kU,List.mem_toArray,List.mem_cons,List.not_mem_nil,or_false]at aS
  rcases aS with rfl|rfl<;>simp⟩,?_,gh.at pR,hJ⟩
 ·rw[uo,show cq.size=(cq.setIfInBounds 0 a').size by simp,Array.getElem?_push_size]
 ·rw[Array.getElem?_push_lt (by simpa using gm.pos)];simp
 ·rw[uo];simp
 ·have cX:cq[i]? =some x:=by rw[Array.getElem?_push,if_neg (by simp;omega),Array.getElem?_setIfInBounds_ne aa]at hx;exact hx
  rw[hd];exact gm.gY i x h1 cX
 ·rw[hd];exact gm.above i (by simp at hi;omega)
 ·rw[hd,uo];exact gm.above _ (Nat.le_refl _)
 ·rw[uo,Q3];refine dN.hire (gm.past.mono hBw) (λl hl=>?_) (λl hl=>?_) gm.d0 (gm.above _ (Nat.le_refl _)) _ _ _
  ·obtain⟨x,rfl⟩:=D.cell l (.inr (.inl hl));exact⟨rfl,by rw[<-Q3];exact(D.apart _ hl).1⟩
  ·obtain⟨x,rfl⟩:=D.cell l (.inr (.inr hl));rfl
end
end
section
open Go.ConcX (OfWg stA smA)
structure jS (S:Loc->Prop) (Wg j B:Nat) (rel:Option Nat) (t:Trace):Prop where
 clean:∀said,¬Race said t
 known:∀i a,touchAt t i=some a->a.loc.isMemory=true->Knows t 0 i\/(S a.loc/\a.kind=.atomic/\¬t.counts i)\/(t.g? i=some j/\OfWg Wg a.loc/\a.kind=.atomic/\∀r,rel=some r->i<=r)
 pure:∀i a,touchAt t i=some a->OfWg Wg a.loc->a.kind≠.plain\/Knows t j i
 seen:∀op∈t,op.act.low B
 EX:∀r,rel=some r->t.act? r=some (.mark (.releaseMerge (stA Wg)))/\t.g? r=some j/\t.heard r
 norel:∀i,t.act? i≠some (.mark (.release (stA Wg)))
section
variable {a:Nat}{b:Nat}{c:Nat}{v:Value}
variable {S:Loc->Prop}{Wg j B:Nat}{rel:Option Nat}{t u:Trace}
def jS.ofK {Q Still:Loc->Prop}{o:Nat}(H:dN S (λ_=>False) Q j o B (Knows t 0) t)(hQ:∀l,OfWg Wg l->Q l)(hn:∀i,t.act? i≠some (.mark (.release (stA Wg)))):jS S Wg j B none t:=
 ⟨H.clean,λi a ha hm=>(H.known i a ha hm).imp id λx=>x.imp id λy=>y.2.2.elim,λi a ha hw=>H.pure i a ha (hQ _ hw),H.seen,λr h=>(by cases h),hn⟩
def Mj (h:∀i,t.act? i≠some (.mark (.release (stA Wg))))(hu:∀op∈u,op.act≠.mark (.release (stA Wg))):∀i,(t++u).act? i≠some (.mark (.release (stA Wg))):=by
 intro i hi;obtain⟨op,ho,GX⟩:=Option.map_eq_some_iff.1 hi;rcases getElem?_append_cases ho with⟨_,uz⟩|⟨_,hou⟩
 ·exact h i (by rw[act?_of uz,GX])
 ·exact hu op hou GX
def MM (h:∀r,rel=some r->t.act? r=some (.mark (.releaseMerge (stA Wg)))/\t.g? r=some j/\t.heard r):∀r,rel=some r->(t++u).act? r=some (.mark (.releaseMerge (stA Wg)))/\(t++u).g? r=some j/\(t++u).heard r:=by intro r hr;obtain⟨h1,h2,h3⟩:=h r hr;have bd:=lt_of_act? h1;exact⟨by rw[act?_old bd];exact h1,by rw[g?_old bd];exact h2,(heard_old bd).2 h3⟩
def jS.old_known (H:jS S Wg j B rel t){i:Nat}{a:Touch}{x:MemOp}(cX:t[i]? =some x)(bG:x.act.touch?=some a)(hm:a.loc.isMemory=true):
 Knows (t++u) 0 i\/(S a.loc/\a.kind=.atomic/\¬(t++u).counts i)\/((t++u).g? i=some j/\OfWg Wg a.loc/\a.kind=.atomic/\∀r,rel=some r->i<=r):=by
 have hi:=lt_size_of_getElem? cX;rcases H.known i a (by rw[touchAt_of cX];exact bG) hm with x|⟨x,y,z⟩|⟨x,y⟩
 ·exact .inl (x.app u)
 ·exact .inr (.inl ⟨x,y,λc=>z ((counts_old hi).1 c)⟩)
 ·exact .inr (.inr ⟨by rw[g?_old hi];exact x,y⟩)
def jS.appMute (H:jS S Wg j B rel t)(hn:∀op∈u,op.act.touch?=none)(hl:∀op∈u,op.act.low B)(hr:∀op∈u,op.act≠.mark (.release (stA Wg))):jS S Wg j B rel (t++u):=by
 refine⟨λsaid=>noRace_appendMute (H.clean said) hn,λi a ha hm=>?_,λi a ha hq=>?_,seen_app H.seen hl,MM H.EX,Mj H.norel hr⟩
 ·obtain⟨x,hx,bG⟩:=touch_of ha;rcases getElem?_append_cases hx with⟨_,cX⟩|⟨_,dv⟩
  ·exact H.old_known cX bG hm
  ·rw[hn x dv]at bG;cases bG
 ·obtain⟨x,hx,bG⟩:=touch_of ha;rcases getElem?_append_cases hx with⟨_,cX⟩|⟨_,dv⟩
  ·exact(H.pure i a (by rw[touchAt_of cX];exact bG) hq).imp id (·.app u)
  ·rw[hn x dv]at bG;cases bG
def jS.app0 (H:jS S Wg j B rel t)(hu:∀op∈u,op.g=0)(hs:∀op∈u,∀b,op.act.touch?=some b->(S b.loc->b.kind≠.plain)/\(OfWg Wg b.loc->b.kind≠.plain))(hl:∀op∈u,op.act.low B)(hr:∀op∈u,op.act≠.mark (.release (stA Wg))):
 jS S Wg j B rel (t++u):=by
 refine⟨λsaid=>noRace_append (H.clean said) hu λi a ha op aS b hb hc=>?_,λi a ha hm=>?_,λi a ha hq=>?_,seen_app H.seen hl,MM H.EX,Mj H.norel hr⟩
 ·obtain⟨h1,h2⟩:=hs op aS b hb
  have at_:a.kind=.atomic->b.kind≠.plain->False:=λy cH=>by
   obtain⟨_,_,_,xE⟩:=hc;rw[y]at xE;rcases xE with z|z|⟨_,z,_⟩
   ·cases z
   ·exact cH z
   ·cases z
  rcases H.known i a ha hc.2.1 with hk|⟨x,y,_⟩|⟨_,x,y,_⟩
  ·exact hk
  ·exact(at_ y (h1 (hc.1▸x))).elim
  ·exact(at_ y (h2 (hc.1▸x))).elim
 ·obtain⟨x,hx,bG⟩:=touch_of ha;rcases getElem?_append_cases hx with⟨_,cX⟩|⟨_,dv⟩
  ·exact H.old_known cX bG hm
  ·have:=knows_own hx;rw[hu x dv]at this;exact .inl this
 ·obtain⟨x,hx,bG⟩:=touch_of ha;rcases getElem?_append_cases hx with⟨_,cX⟩|⟨_,dv⟩
  ·exact(H.pure i a (by rw[touchAt_of cX];exact bG) hq).imp id (·.app u)
  ·exact .inl ((hs x dv a bG).2 hq)
def jS.appJ (H:jS S Wg j B rel t)(hu:∀op∈u,op.g=j)(hs:∀op∈u,∀b,op.act.touch?=some b->OfWg Wg b.loc/\b.kind=.atomic)(hc:rel=none\/((∀l,OfWg Wg l->S l)/\∀k,t.size<=k->¬(t++u).counts k))(hl:∀op∈u,op.act.low B)
 (hr:∀op∈u,op.act≠.mark (.release (stA Wg))):jS S Wg j B rel (t++u):=by
 refine⟨λsaid=>noRace_append (H.clean said) hu λi a ha op aS b hb hc=>?_,λi a ha hm=>?_,λi a ha hq=>?_,seen_app H.seen hl,MM H.EX,Mj H.norel hr⟩
 ·obtain⟨hbQ,hbk⟩:=hs op aS b hb;rcases H.pure i a ha (hc.1▸hbQ)with this|this
  ·obtain⟨_,_,_,xE⟩:=hc;rw[hbk]at xE;rcases xE with z|z|⟨_,_,z⟩
   ·exact absurd z this
   ·cases z
   ·cases z
  ·exact this
 ·obtain⟨x,hx,bG⟩:=touch_of ha;rcases getElem?_append_cases hx with⟨_,cX⟩|⟨xI,dv⟩
  ·exact H.old_known cX bG hm
  ·rcases hc with rfl|⟨hq,hc⟩
   ·exact .inr (.inr ⟨by rw[g?_of hx,hu x dv],(hs x dv a bG).1,(hs x dv a bG).2,λr h=>by cases h⟩)
   ·exact .inr (.inl ⟨hq _ (hs x dv a bG).1,(hs x dv a bG).2,hc i xI⟩)
 ·obtain⟨x,hx,bG⟩:=touch_of ha;rcases getElem?_append_cases hx with⟨_,cX⟩|⟨_,dv⟩
  ·exact(H.pure i a (by rw[touchAt_of cX];exact bG) hq).imp id (·.app u)
  ·rw[(hs x dv a bG).2];exact .inl (λe=>by cases e)
def jS.release (H:jS S Wg j B none t)(hd:Deaf t j=0)(hW:Wg<B){op:MemOp}(hg:op.g=j)(ha:op.act=.mark (.releaseMerge (stA Wg))):jS S Wg j B (some t.size) (t++ #[op]):=by
 have hm:∀o∈(#[op]:Trace),o.act.touch?=none:=by intro o ho;simp at ho;subst ho;rw[ha];rfl
 have H':=H.appMute (u:=#[op]) hm (by intro o ho;simp at ho;subst ho;rw[ha];exact hW) (by intro o ho;simp at ho;subst ho;rw[ha];simp);have e0:(t++ #[op])[t.size]? =some op:=al;refine⟨H'.clean,λi a Lh rW=>?_,H'.pure,H'.seen,λr hr=>?_,H'.norel⟩
 ·rcases H'.known i a Lh rW with x|x|⟨x,y,z,_⟩
  ·exact .inl x
  ·exact .inr (.inl x)
  ·refine .inr (.inr ⟨x,y,z,λr hr=>?_⟩)
   cases hr
   unfold Trace.g? at x;obtain⟨v,hv,_⟩:=Option.map_eq_some_iff.1 x;have:=lt_size_of_getElem? hv;simp at this;omega
 ·cases hr
  exact⟨by rw[act?_of e0,ha],by rw[g?_of e0,hg],j,by rw[g?_of e0,hg],by rw[deaf_old (Nat.le_refl _)];exact hd⟩
def jS.acquire {r:Nat}(H:jS S Wg j B (some r) t)(hd:Deaf t 0=0)(hj:j≠0)(hW:Wg<B){op:MemOp}(hg:op.g=0)(ha:op.act=.mark (.acquire (stA Wg))):dN S (λ_=>False) (OfWg Wg) j j B (Knows (t++ #[op]) 0) (t++ #[op]):=by
 have hm:∀o∈(#[op]:Trace),o.act.touch?=none:=by intro o ho;simp at ho;subst ho;rw[ha];rfl
 have H':=H.appMute (u:=#[op]) hm (by intro o ho;simp at ho;subst ho;rw[ha];exact hW) (by intro o ho;simp at ho;subst ho;rw[ha];simp);have e0:(t++ #[op])[t.size]? =some op:=al;obtain⟨r1,r2,r3⟩:=H'.EX r rfl;have agw:r<t.size:=lt_of_act? (H.EX r rfl).1;have AT:HappensBefore (t++ #[op]) r t.size:=.single (.inr ⟨.marked agw (.inr r1) (by rw[act?_of e0,ha]) (λk _ _=>H'.norel k),r3,0,by rw[g?_of e0,hg],by rw[deaf_old (Nat.le_refl _)];exact hd⟩);refine⟨H'.clean,λi a Lh rW=>?_,λ_ _ _ _ x=>x.elim,H'.pure,H'.seen⟩;rcases H'.known i a Lh rW with x|x|⟨x,_,_,z⟩
 ·exact .inl x
 ·exact .inr (.inl x)
 ·refine .inl ⟨t.size,op,e0,hg,.inr ?_⟩;have hir:=z r rfl;rcases Nat.lt_or_ge i r with h|h
  ·exact .trans (.single (.inl ⟨h,j,x,r2⟩)) AT
  ·obtain rfl:i=r:=aa;exact AT
end
end
section
open Go.ConcX
open Go.ConcN (sumTo upd sumTo_upd upd_ne upd_same)
structure Jn (P:Program) where
 ty:TypeId
 Wg:Nat
 C:Nat
 C':Nat
 Low:Nat
 B0:Nat
 j:Nat
 aut:Payload
 I':Payload
 Y:Shy Wg C
 Y':Shy Wg C'
 vals:List Value
 lT:List Value
 S:Loc->Prop
 vv:Goroutine->World->Prop
 Z:World->Prop
 s:Seat
 kk:Nat
 c3:Nat
 z:Value
 hj:0<j
 hW:Wg<Low
 hC:C<Low
 xy:C'<Low
 xz:C≠Wg
 J1:C'≠Wg
 Gj:C≠C'
 lD:c3<Low
 ok:∀act,@Shy.ok Wg C Y act->okF S Low Wg act
 HD:∀act,@Shy.ok Wg C' Y' act->okF S Low Wg act
 Kb:∀l,OfWg Wg l->S l
 Q2:∀g w,vv g w->g.status=.running
 Q1:∀g w,vv g w->∃m,Goes P true (@RPa aut ty Wg C vals) (DPi (λ_=>True) Wg C Low) (@AtW1 aut P ty Wg C Low Y vals (λ_=>True) vv λ_ _=>True) m g w
 hZ:∀w w',(∀b,b<Low->b≠Wg->w'.heap[b]? =w.heap[b]?)->Z w->Z w'
 Rc:∀w,Z w->(∃k,w.heap[c3]? =some (.chan 0 #[] true k k false))/\∀(m:Nat) (cc:CommCase),m≠kk->s.cases[m]? =some cc->cc.send=none/\∃c,cc.chan=.chan (some c)/\Open c w
 hk:s.cases[kk]? =some (rcase c3 z)
 serve:∀cR w,s.home cR->KCa ty Wg w->@Full aut C vals w->@Full I' C' lT w->
  (∃n,Goes P false (RCa ty Wg Low) (DCs (λ_=>True) Wg C) (@AtR0 aut P ty Wg C Low vals) n (Go.Conc.served cR (commResult s.cases s.shape kk z false)) w)/\
  (∃n,Goes P false (RCa ty Wg Low) (DCs (λ_=>True) Wg C') (@AtR0 I' P ty Wg C' Low lT) n (Go.Conc.served cR (commResult s.cases s.shape kk z false)) w)
section
variable {P:Program}{a:Nat}{b:Nat}{T:Trace}
variable {P:Program}(K:Jn P)
attribute [local instance] Jn.Y
inductive WJ:Nat->Nat->Nat->Goroutine->World->Prop
 |c0 {n b w}:0<n->ei P false K.Z (λ_=>False) K.B0 K.s n b->K.Z w->WJ 0 0 n b w
 |c1 {n n' b w}:Goes P false (RCa K.ty K.Wg K.Low) (DCs (λ_=>True) K.Wg K.C) (@AtR0 K.aut P K.ty K.Wg K.C K.Low K.vals) n b w->
  Goes P false (RCa K.ty K.Wg K.Low) (@DCs (λ_=>True) K.Wg K.C' K.Y') (@AtR0 K.I' P K.ty K.Wg K.C' K.Low K.lT) n' b w->WJ 1 0 n b w
 |c2 {n b w}:Goes P false (RCa K.ty K.Wg K.Low) DC0 (AtK1 P K.ty K.Wg K.Low) n b w->WJ 2 0 n b w
 |c3 {n b w}:Goes P false (RCa K.ty K.Wg K.Low) DC0 (AtD1 P K.ty K.Wg K.Low) n b w->WJ 3 1 n b w
 |c4 {n b w}:Goes P false (RCd K.Low) DC0 (AtD2 P K.Wg K.Low) n b w->WJ 4 1 n b w
 |c5 {n b w}:Goes P false (RCd K.Low) DC0 (AtD3 P K.Wg K.Low) n b w->WJ 5 1 n b w
 |c6 {n b w}:Goes P false (RCd K.Low) DC0 (AtD4 P K.Wg) n b w->WJ 6 1 n b w
 |c7 {n d b w}:QuitsD P n d b->WJ 7 d n b w
abbrev Jn.Ra (K:Jn P):World->World->Prop:= @RPa K.aut K.ty K.Wg K.C K.vals
abbrev Jn.Rb (K:Jn P):World->World->Prop:= @RPb K.aut K.ty K.Wg K.C K.vals
abbrev Jn.Di (K:Jn P):World->World->Array Event->Prop:=DPi (λ_=>True) K.Wg K.C K.Low
inductive MJ:Nat->Nat->Nat->Goroutine->World->Prop
 |a1 {n a w}:Goes P true K.Ra K.Di (@AtKd K.aut P K.ty K.Wg K.C K.Low K.Y K.vals (λ_=>True) K.vv) n a w->MJ 1 0 n a w
 |a2 {n a w}:Goes P true K.Ra K.Di K.vv n a w->MJ 2 1 n a w
 |a3 {n a w}:Goes P true K.Ra K.Di (@AtW1 K.aut P K.ty K.Wg K.C K.Low K.Y K.vals (λ_=>True) K.vv λ_ _=>True) n a w->MJ 3 1 n a w
 |a4 {n a w}:Goes P true K.Ra K.Di (@AtW2 K.aut P K.ty K.Wg K.C K.Low K.Y K.vals (λ_=>True) K.vv λ_ _=>True) n a w->MJ 4 1 n a w
 |a5 {n a w}:Goes P true K.Rb K.Di (@AtW3 K.aut P K.ty K.Wg K.C K.Low K.Y K.vals (λ_=>True) λ_ _=>True) n a w->MJ 5 1 n a w
 |blk {a w}:(∀w₁,K.Rb w w₁->@AtW3 K.aut P K.ty K.Wg K.C K.Low K.Y K.vals (λ_=>True) (λ_ _=>True) a w₁)->MJ 10 1 0 {a with status:=.blocked} w
 |a6 {n a w}:Goes P true AtRel K.Di (AtW4 P K.Wg K.C K.Low (λ_=>True) λ_ _=>True) n a w->MJ 6 1 n a w
 |a7 {n a w}:Goes P true AtRel K.Di (AtKe P K.Wg K.C K.Low (λ_=>True) λ_ _=>True) n a w->MJ 7 1 n a w
 |a8 {n a w}:Goes P true AtRel K.Di (AtAcq P K.Wg K.C K.Low (λ_=>True) λ_ _=>True) n a w->MJ 8 0 n a w
structure JB (gs:Array Goroutine) (w:World) (T:Trace) (q:Nat->Nat) (d0 dj:Nat) (rel:Option Nat):Prop where
 lJ:K.j<gs.size
 gY:∀i g,0<i->i≠K.j->gs[i]? =some g->QuitsD P (q i) (Deaf T i) g
 above:∀i,gs.size<=i->Deaf T i=0
 e0:Deaf T 0=d0
 ej:Deaf T K.j=dj
 past:jS K.S K.Wg K.j K.Low rel T
 full: @Full K.aut K.C K.vals w
 AX: @Full K.I' K.C' K.lT w
def Jn.Ev0 (K:Jn P)(e:Event):Prop:=
 (∀b,(MemAct.ofEvent e).touch?=some b->(K.S b.loc->b.kind≠.plain)/\(OfWg K.Wg b.loc->b.kind≠.plain))/\(MemAct.ofEvent e).low K.Low/\MemAct.ofEvent e≠.mark (.release (stA K.Wg))
def Jn.EvJ (K:Jn P)(e:Event):Prop:=
 (∀b,(MemAct.ofEvent e).touch?=some b->OfWg K.Wg b.loc/\b.kind=.atomic)/\(MemAct.ofEvent e).low K.Low/\MemAct.ofEvent e≠.mark (.release (stA K.Wg))
variable {K}
def ab0 {e:Event}(h:EvQ (λ_=>True) K.Wg K.C 0 e):K.Ev0 e:=by obtain⟨h1,_⟩:=h;obtain⟨_,h2,h3,h4⟩:=h1 0 "";obtain⟨h5,h6,_⟩:=K.ok _ h4;exact⟨λb hb=>⟨(h5 b hb).1,λhw=>(h5 b hb).1 (K.Kb _ hw)⟩,h6,h3⟩
def ab3 {e:Event}(h:EvQ (λ_=>True) K.Wg K.C 1 e)(h': @EvQ (λ_=>True) K.Wg K.C' K.Y' 1 e):K.EvJ e/\e.loc≠.mark .disable/\e.loc≠.mark .enable:=by
 obtain⟨h1,hd,he,_⟩:=h;obtain⟨rK,_⟩:=h';obtain⟨_,h2,h3,h4⟩:=h1 0 "";obtain⟨_,lB,_⟩:=rK 0 "";obtain⟨_,h6,_⟩:=K.ok _ h4;refine⟨⟨λb hb=>?_,h6,h3⟩,hd,he⟩
 have hw:OfWg K.Wg b.loc:=by
  have f1:=(h2 b hb).1;have f2:=(lB b hb).1;rcases f1 with f1|⟨f1,_⟩|⟨_,_,f1⟩
  ·rcases f2 with f2|⟨f2,_⟩|⟨_,_,f2⟩
   ·rcases f1 with(⟨a,ha,cH⟩|f1)|⟨a,ha,cH,_⟩
    ·exact⟨a,ha,cH⟩
    ·rcases f2 with(⟨a,ha,cH⟩|f2)|⟨a,ha,cH,_⟩
     ·exact⟨a,ha,cH⟩
     ·rw[f1]at f2;exact absurd (Loc.obj.inj f2) K.Gj
     ·rw[f1]at ha;cases ha
    ·rcases f2 with(⟨x,hx,xU⟩|f2)|⟨x,hx,xU,_⟩
     ·exact⟨x,hx,xU⟩
     ·rw[ha]at f2;cases f2
     ·rw[ha]at hx;cases hx;exact absurd (cH.symm.trans xU) K.Gj
   ·cases f2
   ·exact absurd trivial f2
  ·cases f1
  ·exact absurd trivial f1
 refine⟨hw,?_⟩;obtain⟨a,ha,dm⟩:=hw;have:=(h2 b hb).2.1 (.inl ⟨a,ha,dm⟩)
 cases hk:b.kind with
 |plain=>exact absurd hk this.1
 |atomic=>rfl
 |said=>exact absurd (this.2 hk) ai
variable {gs:Array Goroutine}{w w':World}{T:Trace}{q:Nat->Nat}{d0 dj:Nat}{rel:Option Nat}
def wR {g:Nat}{fn:FuncId}{pos:String}{es:Array Event}{X:MemAct->Prop}(h:∀e∈es,X (MemAct.ofEvent e)):∀op∈MemOp.ofEvents g fn pos es,X op.act:=by intro op aS;obtain⟨e,he,rfl⟩:=Conc.mem_ofEvents aS;exact h e he
def zQ {g:Nat}{fn:FuncId}{pos:String}{es:Array Event}:∀op∈MemOp.ofEvents g fn pos es,op.g=g:=by intro op aS;obtain⟨e,_,rfl⟩:=Conc.mem_ofEvents aS;rfl
def JB.main (h:JB K gs w T q d0 dj rel){a a':Goroutine}{fn:FuncId}{pos:String}{es:Array Event}{PO:Nat}(he:∀e∈es,K.Ev0 e)(hd:deafBehind d0 es=PO)(hw:∀b,b<K.Low->b≠K.Wg->w'.heap[b]? =w.heap[b]?):
 JB K (mN P gs 0 a a' w') w' (T++MemOp.ofEvents 0 fn pos es) q PO dj rel:=by
 have fO:∀i,i≠0->Deaf (T++MemOp.ofEvents 0 fn pos es) i=Deaf T i:=λi hi=>Deaf_other T (λx=>hi x.symm) _ zQ;refine⟨by rw[iN];exact h.lJ,λi x h1 h2 hx=>?_,λi hi=>?_,by rw[Deaf_own,h.e0,hd],by rw[fO _ (by have:=K.hj;omega),h.ej],?_,λhc=>(hw _ K.hC K.xz).trans (h.full hc),λhc=>(hw _ K.xy K.J1).trans (h.AX hc)⟩
 ·obtain⟨z,hz,rfl⟩:=wM aa hx;have hq:=h.gY i z h1 h2 hz;rw[woken_quitsD hq,fO i aa];exact hq
 ·rw[iN]at hi;have:=h.lJ;rw[fO i aa];exact h.above i hi
 ·exact h.past.app0 zQ (wR (X:=λact=>∀b,act.touch?=some b->(K.S b.loc->b.kind≠.plain)/\(OfWg K.Wg b.loc->b.kind≠.plain)) λe x=>(he e x).1) (wR (X:=λact=>act.low K.Low) λe x=>(he e x).2.1) (wR (X:=λact=>act≠.mark (.release (stA K.Wg))) λe x=>(he e x).2.2)
def JB.work (h:JB K gs w T q d0 dj rel){b b':Goroutine}{fn:FuncId}{pos:String}{es:Array Event}{PY:Nat}{Ac:Option Nat}(hd:deafBehind dj es=PY)(hw:∀b,b<K.Low->b≠K.Wg->w'.heap[b]? =w.heap[b]?)
 (hp:jS K.S K.Wg K.j K.Low Ac (T++MemOp.ofEvents K.j fn pos es)):JB K (mN P gs K.j b b' w') w' (T++MemOp.ofEvents K.j fn pos es) q d0 PY Ac:=by
 have fO:∀i,i≠K.j->Deaf (T++MemOp.ofEvents K.j fn pos es) i=Deaf T i:=λi hi=>Deaf_other T (λx=>hi x.symm) _ zQ;refine⟨by rw[iN];exact h.lJ,λi x h1 h2 hx=>?_,λi hi=>?_,by rw[fO 0 (by have:=K.hj;omega),h.e0],by rw[Deaf_own,h.ej,hd],hp,λhc=>(hw _ K.hC K.xz).trans (h.full hc),λhc=>(hw _ K.xy K.J1).trans (h.AX hc)⟩
 ·obtain⟨z,hz,rfl⟩:=wM h2 hx;have hq:=h.gY i z h1 h2 hz;rw[woken_quitsD hq,fO i h2];exact hq
 ·rw[iN]at hi;have:=h.lJ;rw[fO i aa];exact h.above i hi
def JB.at (h:JB K gs w T q d0 dj rel)(d:Nat):JB K gs (w.at d) T q d0 dj rel:=⟨h.lJ,h.gY,h.above,h.e0,h.ej,h.past,h.full,h.AX⟩
def JB.CJ (h:JB K gs w T q d0 1 rel){fn:FuncId}{pos:String}{es:Array Event}(he:∀e∈es,K.EvJ e)(hd:∀j e,es[j]? =some e->(MemAct.ofEvent e).touch?=none\/0<deafBehind 1 (es.extract 0 j)):jS K.S K.Wg K.j K.Low rel (T++MemOp.ofEvents K.j fn pos es):=by
 refine h.past.appJ zQ (wR (X:=λact=>∀b,act.touch?=some b->OfWg K.Wg b.loc/\b.kind=.atomic) λe x=>(he e x).1) (.inr ⟨K.Kb,λk hk hc=>?_⟩) (wR (X:=λact=>act.low K.Low) λe x=>(he e x).2.1) (wR (X:=λact=>act≠.mark (.release (stA K.Wg))) λe x=>(he e x).2.2);obtain⟨x,hx,hm,ou⟩:=hc;obtain⟨op,aS,Sf⟩:=touch_of (show touchAt _ k=some x from hx);rw[Array.getElem?_append_right hk,ofEvents_eq,Array.getElem?_map]at aS;obtain⟨e,GA,rfl⟩:=Option.map_eq_some_iff.1 aS;have hks:k-T.size<es.size:=(Array.getElem?_eq_some_iff.1 GA).1;rcases hd (k-T.size) e GA with h0|h0
 ·have:(MemAct.ofEvent e).touch?=some x:=Sf;rw[h0]at this;cases this
 ·rcases ou with ou|⟨g,hg,GG⟩
  ·exact ou ((he e (Array.mem_of_getElem? GA)).1 x Sf).2
  ·have e1:(T++MemOp.ofEvents K.j fn pos es).g? k=some K.j:=by unfold Trace.g?;rw[Array.getElem?_append_right hk,ofEvents_eq,Array.getElem?_map,GA];rfl
   rw[hg]at e1
   cases e1
   have:=deaf_inside T K.j fn pos es (k-T.size) aa;rw[show T.size+(k-T.size)=k by omega,GG,h.ej]at this;omega
end
section
attribute [local instance] Jn.Y
def WW(K:Jn P)(mt ct:Nat)(w:World):Prop:=
 (mt<=4/\ct<=3/\WgAt K.ty K.Wg w KK 0)\/((mt=5\/mt=10)/\ct<=3/\WgAt K.ty K.Wg w (KK+1) 0)\/((mt=5\/mt=10)/\(ct=4\/ct=5)/\WgAt K.ty K.Wg w 1 0)\/
  ((mt=5\/mt=10)/\ct=6/\WgAt K.ty K.Wg w 0 0)\/(mt=5/\ct=7/\WgAt K.ty K.Wg w 0 1)\/((mt<=4\/(6<=mt/\mt<=8))/\ct=7/\WgAt K.ty K.Wg w 0 0)
def rk(ct mt:Nat):Nat:=
 if ct=7 then(if mt=5 then 20 else if mt=4 then 9 else if mt=3 then 7 else if mt=2 then 8 else if mt=1 then 10 else if mt=6 then 6 else if mt=7 then 5 else 4)
 else 20-mt
variable {K:Jn P}
def yx:∀x y z,RCa K.ty K.Wg K.Low x y->RCa K.ty K.Wg K.Low y z->RCa K.ty K.Wg K.Low x z:=λ_ _ _ h h'=>h.trans h'
def Nn:∀x y z,RCd K.Low x y->RCd K.Low y z->RCd K.Low x z:=λ_ _ _ h h'=>h.trans h'
variable {w w':World}{ct cd cn:Nat}{b:Goroutine}
def WJ.low(h:WJ K ct cd cn b w)(hl:∀x,x<K.Low->w'.heap[x]? =w.heap[x]?):WJ K ct cd cn b w':=by
 have ha:RCa K.ty K.Wg K.Low w w':=RCd.toA K.hW hl
 cases h with
 |c0 h1 h2 h3=>exact .c0 h1 h2 (K.hZ w w' (λx hx _=>hl x hx) h3)
 |c1 h1 h2=>exact .c1 (Goes.rely yx h1 ha) (Goes.rely yx h2 ha)
 |c2 h1=>exact .c2 (Goes.rely yx h1 ha)
 |c3 h1=>exact .c3 (Goes.rely yx h1 ha)
 |c4 h1=>exact .c4 (Goes.rely Nn h1 hl)
 |c5 h1=>exact .c5 (Goes.rely Nn h1 hl)
 |c6 h1=>exact .c6 (Goes.rely Nn h1 hl)
 |c7 h1=>exact .c7 h1
def WJ.ka(h:WJ K ct cd cn b w)(hl:∀x,x<K.Low->x≠K.Wg->w'.heap[x]? =w.heap[x]?)(hk:KCa K.ty K.Wg w->KCa K.ty K.Wg w')(hc:ct<=3\/ct=7):WJ K ct cd cn b w':=by
 have ha:RCa K.ty K.Wg K.Low w w':=⟨hl,hk⟩
 cases h with
 |c0 h1 h2 h3=>exact .c0 h1 h2 (K.hZ w w' hl h3)
 |c1 h1 h2=>exact .c1 (Goes.rely yx h1 ha) (Goes.rely yx h2 ha)
 |c2 h1=>exact .c2 (Goes.rely yx h1 ha)
 |c3 h1=>exact .c3 (Goes.rely yx h1 ha)
 |c4 h1=>omega
 |c5 h1=>omega
 |c6 h1=>omega
 |c7 h1=>exact .c7 h1
def WJ.status (h:WJ K ct cd cn b w)(h1:KCa K.ty K.Wg w\/4<=ct):b.status=.running\/(b.status=.finished/\ct=7):=by
 cases h with
 |c0 h1 h2 h3=>exact .inl ((ei.status h2).elim (·.1) (λz=>aa))
 |c1 h1 h2=>exact .inl (h1.running (λ_ _ x=>x.1) w (RCa.refl w))
 |c2 h1=>exact .inl (h1.running (λ_ _ x=>x.1) w (RCa.refl w))
 |c3 h1=>exact .inl (h1.running (λ_ _ x=>x.1) w (RCa.refl w))
 |c4 h1=>exact .inl (h1.running (λ_ _ x=>x.1) w (RCd.refl w))
 |c5 h1=>exact .inl (h1.running (λ_ _ x=>x.1) w (RCd.refl w))
 |c6 h1=>exact .inl (h1.running (λ_ _ x=>x.1) w (RCd.refl w))
 |c7 h1=>exact h1.status.imp id (λx=>⟨x,rfl⟩)
def ve(w:World)(o:Nat)(v:Value):∀x,x<K.Low->x≠K.Wg->(w.setCell ⟨K.Wg,o,none⟩ v).heap[x]? =w.heap[x]? :=by intro x _ hx;simp only[World.setCell,Array.getElem?_modify];rw[if_neg (λe=>hx e.symm)]
def JN{aut:Payload}{C:Nat}{vals:List Value}(h: @Full aut C vals w)(e:w'.heap[C]? =w.heap[C]?): @Full aut C vals w':=λhc=>e.trans (h hc)
def FF(K:Jn P)(mt md mn ct cd cn:Nat)(b:Goroutine)(w:World)(a':Goroutine)(w':World)(es:Array Event):Prop:=
 (∀e∈es,K.Ev0 e)/\(∀x,x<K.Low->x≠K.Wg->w'.heap[x]? =w.heap[x]?)/\WJ K ct cd cn b w'/\∃kL pA,MJ K kL (deafBehind md es) pA a' w'/\WW K kL ct w'/\(rk ct kL<rk ct mt\/(rk ct kL=rk ct mt/\pA<mn))
def Gd{m:Mark}(h1:(MemAct.mark m).low K.Low)(h2:∀x,(MemAct.mark m).touch?≠some x)(h3:m≠.release (stA K.Wg)):K.Ev0 (mk m):=by refine⟨λb hb=>absurd hb (h2 b),h1,λe=>?_⟩;injection e with e;exact h3 e
def AV(a:Addr)(ha:a.block=K.Wg)(x:Bool):K.Ev0 ⟨.cell a,x,true⟩:=by
 refine⟨λb hb=>?_,?_,?_⟩
 ·cases x<;>simp[MemAct.ofEvent,MemAct.touch?]at hb<;>subst hb<;>exact⟨λ_=>al,λ_=>al⟩
 ·cases x<;>(show a.block<K.Low;rw[ha];exact K.hW)
 ·cases x<;>simp[MemAct.ofEvent]
def ab1:∀e∈semEvents (smA K.Wg),K.Ev0 e:=by
 intro e he;simp[semEvents]at he;rcases he with rfl|rfl|rfl|rfl
 ·exact Gd (m:=.disable) trivial (by simp[MemAct.touch?]) al
 ·exact AV _ rfl _
 ·exact AV _ rfl _
 ·exact Gd (m:=.enable) trivial (by simp[MemAct.touch?]) al
variable {mt md mn:Nat}{a:Goroutine}{n:Nat}
def inner{R:World->World->Prop}{Stop:Goroutine->World->Prop}(hc:WJ K ct cd cn b w)(hw:WW K mt ct w)(mk:∀{n a w},Goes P true R K.Di Stop n a w->MJ K mt md n a w){a':Goroutine}{es:Array Event}(hD:K.Di w w' es)(hg:Goes P true R K.Di Stop n a' w')(hn:n<mn):
 FF K mt md mn ct cd cn b w a' w' es:=by
 obtain⟨hl,he⟩:=hD;refine⟨λe h=>ab0 (he e h),λx hx _=>hl x hx,hc.low hl,mt,n,?_,?_,.inr ⟨rfl,hn⟩⟩
 ·rw[deafBehind_still (λe h=>⟨(he e h).2.1,(he e h).2.2.1⟩)];exact mk hg
 ·have e:=hl K.Wg K.hW;simp only[WW,WgAt,e];exact hw
def MJ.Vj(hc:WJ K ct cd cn b w)(hw:WW K mt ct w)(hf: @Full K.aut K.C K.vals w)(zw:mt=3\/mt=2)(hmd:md=1)(hn:n<=mn\/mt=2)(h:Goes P true K.Ra K.Di (@AtW1 K.aut P K.ty K.Wg K.C K.Low K.Y K.vals (λ_=>True) K.vv λ_ _=>True) n a w):
 ∃a' w' es,stepG P true a w=.go a' w' es/\FF K mt md mn ct cd cn b w a' w' es:=by
 letI:=K.aut
 subst hmd;rcases Goes.cases h with ir|⟨n',rfl,gP⟩
 ·obtain⟨_,a',hgo,h1,h2⟩:=ir w (RPa.refl w);refine⟨a',w,_,hgo,λe he=>?_,λ_ _ _=>rfl,hc,?_⟩
  ·simp at he;subst he;exact AV _ rfl _
  ·rcases hw with⟨_,gl,hw⟩|⟨x,_⟩|⟨x,_⟩|⟨x,_⟩|⟨x,_⟩|⟨_,gl,hw⟩
   ·obtain⟨m,hm⟩:=h1 hw;exact⟨4,m,.a4 hm,.inl ⟨aa,gl,hw⟩,.inl (by unfold rk;rw[if_neg aa,if_neg aa];omega)⟩
   ·omega
   ·omega
   ·omega
   ·omega
   ·obtain⟨m,hm⟩:=h2 ⟨hw,hf⟩;subst gl;exact⟨7,m,.a7 hm,.inr (.inr (.inr (.inr (.inr ⟨.inr ⟨aa,aa⟩,rfl,hw⟩)))),.inl (by rcases zw with rfl|rfl<;>decide)⟩
 ·obtain⟨a',w',es,hgo,hD,fH⟩:=gP w (RPa.refl w);refine⟨a',w',es,hgo,?_⟩;rcases zw with rfl|rfl
  ·exact inner hc hw .a3 hD fH aa
  ·have hw3:WW K 3 ct w:=by
    rcases hw with⟨_,gl,hw⟩|⟨x,_⟩|⟨x,_⟩|⟨x,_⟩|⟨x,_⟩|⟨_,gl,hw⟩
    ·exact .inl ⟨aa,gl,hw⟩
    ·omega
    ·omega
    ·omega
    ·omega
    ·exact .inr (.inr (.inr (.inr (.inr ⟨.inl aa,gl,hw⟩))))
   obtain⟨o1,o2,o3,kL,pA,o4,o5,o6⟩:=inner (mn:=n'+1) (md:=1) hc hw3 .a3 hD fH aa;refine⟨o1,o2,o3,kL,pA,o4,o5,.inl ?_⟩;have:rk ct 3<rk ct 2:=by unfold rk;split<;>simp
   omega
def MJ.step(h:MJ K mt md mn a w)(hm:mt≠10)(hc:WJ K ct cd cn b w)(hw:WW K mt ct w)(hf: @Full K.aut K.C K.vals w):
 (∃a' w' es,stepG P true a w=.go a' w' es/\FF K mt md mn ct cd cn b w a' w' es)\/
  (ct=7/\md=0/\∃a',stepG P true a w=.go a' w #[mk (.acquire (stA K.Wg))]/\∃m,Goes P true AtRel (DPj (λ_=>True) K.Wg K.C K.Low) (AtRetJ P K.Wg K.C (λ_=>True) λ_ _=>True) m a' w):=by
 letI:=K.aut
 cases h with
 |blk _=>exact absurd rfl hm
 |a1 h=>
  left;rcases Goes.cases h with ir|⟨n',rfl,gP⟩
  ·obtain⟨_,a',hgo,m,hg⟩:=ir w (RPa.refl w);refine⟨a',w,_,hgo,λe he=>?_,λ_ _ _=>rfl,hc,2,m,.a2 hg,?_,.inl (by unfold rk;split<;>simp)⟩
   ·simp at he;subst he;exact Gd (m:=.disable) trivial (by simp[MemAct.touch?]) al
   ·rcases hw with⟨_,gl,hw⟩|⟨x,_⟩|⟨x,_⟩|⟨x,_⟩|⟨x,_⟩|⟨_,gl,hw⟩
    ·exact .inl ⟨aa,gl,hw⟩
    ·omega
    ·omega
    ·omega
    ·omega
    ·exact .inr (.inr (.inr (.inr (.inr ⟨.inl aa,gl,hw⟩))))
  ·obtain⟨a',w',es,hgo,hD,fH⟩:=gP w (RPa.refl w);exact⟨a',w',es,hgo,inner hc hw .a1 hD fH aa⟩
 |a2 h=>
  left;rcases Goes.cases h with ir|⟨n',rfl,gP⟩
  ·obtain⟨m,rU⟩:=K.Q1 a w (ir w (RPa.refl w));exact MJ.Vj hc hw hf (.inr rfl) rfl (.inr rfl) rU
  ·obtain⟨a',w',es,hgo,hD,fH⟩:=gP w (RPa.refl w);exact⟨a',w',es,hgo,inner hc hw .a2 hD fH aa⟩
 |a3 h=>exact .inl (MJ.Vj hc hw hf (.inl rfl) rfl (.inl (Nat.le_refl _)) h)
 |a4 h=>
  left;rcases Goes.cases h with ir|⟨n',rfl,gP⟩
  ·obtain⟨_,h1,h2⟩:=ir w (RPa.refl w);rcases hw with⟨_,gl,hw⟩|⟨x,_⟩|⟨x,_⟩|⟨x,_⟩|⟨x,_⟩|⟨_,gl,hw⟩
   ·obtain⟨a',hgo,m,hg⟩:=h1 hw;refine⟨a',_,_,hgo,λe he=>?_,ve w 0 _,hc.ka (ve w 0 _) (λ_=>.inr (hw.setSt _)) (.inl gl),5,m,.a5 hg,.inr (.inl ⟨.inl rfl,gl,hw.setSt _⟩),.inl (by unfold rk;rw[if_neg aa,if_neg aa];omega)⟩;simp at he;rcases he with rfl|rfl<;>exact AV _ rfl _
   ·omega
   ·omega
   ·omega
   ·omega
   ·obtain⟨a',hgo,m,hg⟩:=h2 ⟨hw,hf⟩;refine⟨a',w,_,hgo,λe he=>?_,λ_ _ _=>rfl,hc,2,m,.a2 hg,.inr (.inr (.inr (.inr (.inr ⟨.inl aa,gl,hw⟩)))),.inl (by subst gl;decide)⟩;simp at he;subst he;exact AV _ rfl _
  ·obtain⟨a',w',es,hgo,hD,fH⟩:=gP w (RPa.refl w);exact⟨a',w',es,hgo,inner hc hw .a4 hD fH aa⟩
 |a5 h=>
  left;rcases Goes.cases h with ir|⟨n',rfl,gP⟩
  ·obtain⟨_,_,h1,h2⟩:=ir w (RPb.refl w)
   have blk:(∃st,WgAt K.ty K.Wg w st 0)->WW K 10 ct w->ct≠7->∃a' w' es,stepG P true a w=.go a' w' es/\FF K 5 1 mn ct cd cn b w a' w' es:=λbw jz h7=>
    ⟨_,w,_,h1 bw,λe he=>by simp at he,λ_ _ _=>rfl,hc,10,0,.blk ir,jz,.inl (by unfold rk;rw[if_neg h7,if_neg h7];omega)⟩
   rcases hw with⟨x,_⟩|⟨_,gl,hw⟩|⟨_,gl,hw⟩|⟨_,gl,hw⟩|⟨_,gl,hw⟩|⟨x,_⟩
   ·omega
   ·exact blk ⟨_,hw⟩ (.inr (.inl ⟨.inr rfl,gl,hw⟩)) aa
   ·exact blk ⟨_,hw⟩ (.inr (.inr (.inl ⟨.inr rfl,gl,hw⟩))) aa
   ·exact blk ⟨_,hw⟩ (.inr (.inr (.inr (.inl ⟨.inr rfl,gl,hw⟩)))) aa
   ·obtain⟨a',hgo,m,hg⟩:=h2 ⟨hw,hf⟩;refine⟨a',_,_,hgo,ab1,ve w 1 _,hc.ka (ve w 1 _) ?_ (.inr gl),6,m,.a6 hg,.inr (.inr (.inr (.inr (.inr ⟨.inr ⟨aa,aa⟩,gl,hw.setSm _⟩)))),.inl (by subst gl;decide)⟩;rintro(x|x)
    ·have:=(x.unique hw).1;exact absurd this ai
    ·have:=(x.unique hw).1;exact absurd this ai
   ·omega
  ·obtain⟨a',w',es,hgo,hD,fH⟩:=gP w (RPb.refl w);exact⟨a',w',es,hgo,inner hc hw .a5 hD fH aa⟩
 |a6 h=>
  left;rcases Goes.cases h with ir|⟨n',rfl,gP⟩
  ·obtain⟨_,a',hgo,m,hg⟩:=ir w (atRel_refl w);rcases hw with⟨x,_⟩|⟨x,_⟩|⟨x,_⟩|⟨x,_⟩|⟨x,_⟩|⟨_,gl,hw⟩<;>first|omega|skip
   refine⟨a',w,_,hgo,λe he=>?_,λ_ _ _=>rfl,hc,7,m,.a7 hg,.inr (.inr (.inr (.inr (.inr ⟨.inr ⟨aa,aa⟩,gl,hw⟩)))),.inl (by subst gl;decide)⟩;simp at he;subst he;exact AV _ rfl _
  ·obtain⟨a',w',es,hgo,hD,fH⟩:=gP w (atRel_refl w);exact⟨a',w',es,hgo,inner hc hw .a6 hD fH aa⟩
 |a7 h=>
  left;rcases Goes.cases h with ir|⟨n',rfl,gP⟩
  ·obtain⟨_,a',hgo,m,hg⟩:=ir w (atRel_refl w);rcases hw with⟨x,_⟩|⟨x,_⟩|⟨x,_⟩|⟨x,_⟩|⟨x,_⟩|⟨_,gl,hw⟩<;>first|omega|skip
   refine⟨a',w,_,hgo,λe he=>?_,λ_ _ _=>rfl,hc,8,m,.a8 hg,.inr (.inr (.inr (.inr (.inr ⟨.inr ⟨aa,aa⟩,gl,hw⟩)))),.inl (by subst gl;decide)⟩;simp at he;subst he;exact Gd (m:=.enable) trivial (by simp[MemAct.touch?]) al
  ·obtain⟨a',w',es,hgo,hD,fH⟩:=gP w (atRel_refl w);exact⟨a',w',es,hgo,inner hc hw .a7 hD fH aa⟩
 |a8 h=>
  rcases Goes.cases h with ir|⟨n',rfl,gP⟩
  ·obtain⟨_,a',hgo,m,hg⟩:=ir w (atRel_refl w);rcases hw with⟨x,_⟩|⟨x,_⟩|⟨x,_⟩|⟨x,_⟩|⟨x,_⟩|⟨_,gl,hw⟩<;>first|omega|skip
   exact .inr ⟨gl,rfl,a',hgo,m,hg⟩
  ·obtain⟨a',w',es,hgo,hD,fH⟩:=gP w (atRel_refl w);exact .inl ⟨a',w',es,hgo,inner hc hw .a8 hD fH aa⟩
end
section
attribute [local instance] Jn.Y
def Az(K:Jn P)(mt:Nat)(w w':World):Prop:=(mt<=4->K.Ra w w')/\(mt=5\/mt=10->K.Rb w w')/\(6<=mt->mt<=8->AtRel w w')
def IN(K:Jn P)(mt ct cd cn:Nat)(rel:Option Nat)(T:Trace)(b:Goroutine)(w:World)(b':Goroutine)(w':World)(es:Array Event):Prop:=
 (∀x,x<K.Low->x≠K.Wg->w'.heap[x]? =w.heap[x]?)/\Az K mt w w'/\∃oV CB Ac,WJ K oV (deafBehind cd es) CB b' w'/\(∀fn pos,jS K.S K.Wg K.j K.Low Ac (T++MemOp.ofEvents K.j fn pos es))/\(Ac.isSome=decide (2<=oV))/\
  WW K (if oV=7/\mt=10 then 5 else mt) oV w'/\(mt=10->oV=7->mayWake P b=true)/\(ct<oV\/(oV=ct/\CB<cn))/\oV<=7
variable {K:Jn P}{w w':World}{mt:Nat}
def M9(h1:w'.tape=w.tape)(h2:w'.os=w.os)(h3:w'.output=w.output)(h4:w'.heap.size=w.heap.size)(h5:∀k:Nat,w'.heap[k]? =w.heap[k]?)(h6:6<=mt->mt<=8->AtRel w w'):Az K mt w w':=by
 letI:=K.aut
 have ha:Aside2 K.C K.Wg w w':=⟨h1,h2,h3,h4,λk _ _=>h5 k⟩;have hg:∀{x y:Int},WgAt K.ty K.Wg w x y->WgAt K.ty K.Wg w' x y:=λh=>h.of_block (h5 _);have hf:Full K.C K.vals w->Full K.C K.vals w':=λh=>JN h (h5 _);refine⟨λ_=>⟨ha,λh=>h.imp hg (λx=>⟨hg x.1,hf x.2⟩),λh=>⟨hg h.1,hf h.2⟩⟩,λ_=>⟨ha,λh=>?_,λh=>⟨hg h.1,hf h.2⟩⟩,h6⟩;rcases h with h|h|h|h
 ·exact .inl (hg h)
 ·exact .inr (.inl (hg h))
 ·exact .inr (.inr (.inl (hg h)))
 ·exact .inr (.inr (.inr ⟨hg h.1,hf h.2⟩))
def E8(w:World):Az K mt w w:=M9 rfl rfl rfl rfl (λ_=>rfl) (λ_ _=>atRel_refl w)
def Vn(w:World)(d:Nat):Az K mt w (w.at d):=M9 rfl rfl rfl rfl (λ_=>rfl) (λ_ _=>⟨d,rfl⟩)
def FP(w:World)(o:Nat)(v:Value):Aside2 K.C K.Wg w (w.setCell ⟨K.Wg,o,none⟩ v):=
 ⟨rfl,rfl,rfl,by simp[World.setCell],λk _ hk=>by
  simp only[World.setCell,Array.getElem?_modify]
  rw[if_neg (λe=>hk e.symm)]⟩
def Mt{g:Nat}{fn:FuncId}{pos:String}:MemOp.ofEvents g fn pos #[]= #[]:=by simp[ofEvents_eq]
variable {ct:Nat}
def NC(h:WW K mt ct w)(e:w'.heap[K.Wg]? =w.heap[K.Wg]?):WW K mt ct w':=by simp only[WW,WgAt,e];exact h
def VX(h:WW K mt ct w):WW K (if ct=7/\mt=10 then 5 else mt) ct w:=by
 split
 ·rename_i e;obtain⟨rfl,rfl⟩:=e;rcases h with⟨x,_⟩|⟨_,x,_⟩|⟨_,x,_⟩|⟨_,x,_⟩|⟨x,_⟩|⟨x,_⟩<;>omega
 ·exact h
variable {md cd cn:Nat}{b:Goroutine}{gs:Array Goroutine}{q:Nat->Nat}{rel:Option Nat}
def ES{n':Nat}{b':Goroutine}(hB:JB K gs w T q md cd rel)(hw:WW K mt ct w)(hr:rel.isSome=decide (2<=ct))(h7:ct<7)(hj:WJ K ct cd n' b' w)(hn:n'<cn):IN K mt ct cd cn rel T b w b' w #[]:=
 ⟨λ_ _ _=>rfl,E8 w,ct,n',rel,hj,λfn pos=>by rw[Mt,Array.append_empty];exact hB.past,hr,VX hw,λ_ h=>aa,.inr ⟨rfl,hn⟩,aa⟩
def CQ(a:Addr)(ha:a.block=K.Wg)(x:Bool):K.EvJ ⟨.cell a,x,true⟩:=by
 refine⟨λb hb=>?_,?_,?_⟩
 ·cases x<;>simp[MemAct.ofEvent,MemAct.touch?]at hb<;>subst hb<;>exact⟨⟨a,rfl,ha⟩,rfl⟩
 ·cases x<;>(show a.block<K.Low;rw[ha];exact K.hW)
 ·cases x<;>simp[MemAct.ofEvent]
def Qf{m:Mark}(h1:(MemAct.mark m).low K.Low)(h2:∀x,(MemAct.mark m).touch?≠some x)(h3:m≠.release (stA K.Wg)):K.EvJ (mk m):=by refine⟨λb hb=>absurd hb (h2 b),h1,λe=>?_⟩;injection e with e;exact h3 e
def M8(zw:mt=5\/mt=10)(h:K.Rb w w'):Az K mt w w':=⟨λx=>aa,λ_=>h,λx y=>aa⟩
def WJ.step(h:WJ K ct cd cn b w)(hr:b.status=.running)(hw:WW K mt ct w)(hB:JB K gs w T q md cd rel)(nM:rel.isSome=decide (2<=ct)):
 (∃b' w' es,stepG P false b w=.go b' w' es/\IN K mt ct cd cn rel T b w b' w' es)\/
  (ct=0/\cd=0/\K.Z w/\∃cR,K.s.home cR/\stepG P false b w=.comm cR K.s.cases true K.s.shape w #[]):=by
 have e0:∀{es:Array Event},(∀e∈es,EvC (λ_=>False) K.B0 e)->es= #[]:=λhe=>Array.eq_empty_iff_forall_not_mem.2 λe hm=>by obtain⟨_,_,x,_⟩:=he e hm;exact x
 cases h with
 |c0 h1 h2 h3=>
  rcases ei.pick h2 hr h3 with⟨cR,es,k,rfl,qQ,eU,bw⟩|⟨n',y',d,es,bd,l7,eU,bw,l9⟩
  ·right;obtain rfl:=e0 eU;exact⟨rfl,rfl,h3,cR,qQ.2.2.2.2.1,bw⟩
  ·left;obtain rfl:=e0 eU;refine⟨y',_,_,bw,λ_ _ _=>rfl,Vn w d,0,n',rel,.c0 l7 l9 (K.hZ w _ (λ_ _ _=>rfl) h3),λfn pos=>by rw[Mt,Array.append_empty];exact hB.past,nM,?_,λ_ h=>aa,.inr ⟨rfl,bd⟩,aa⟩;rw[if_neg aa];exact NC hw rfl
 |c1 h1 h2=>
  left;have Lb:rel=none:=by cases rel<;>simp_all
  subst Lb
  have release:∀{b':Goroutine},stepG P false b w=.go b' w #[mk (.releaseMerge (stA K.Wg))]->(∃m,Goes P false (RCa K.ty K.Wg K.Low) DC0 (AtK1 P K.ty K.Wg K.Low) m b' w)->
   ∃b' w' es,stepG P false b w=.go b' w' es/\IN K mt 1 0 cn none T b w b' w' es:=by
   intro b' hgo ⟨m,hm⟩;refine⟨b',w,_,hgo,λ_ _ _=>rfl,E8 w,2,m,some T.size,.c2 hm,λfn pos=>?_,rfl,?_,λ_ h=>aa,.inl aa,aa⟩
   ·have:=hB.past.release hB.ej K.hW (op:={g:=K.j,fn:=fn,pos:=pos,act:=.mark (.releaseMerge (stA K.Wg))}) rfl rfl;simpa[ofEvents_eq,MemAct.ofEvent,mk]using this
   ·rw[if_neg aa];rcases hw with⟨x,_,y⟩|⟨x,_,y⟩|⟨_,x,_⟩|⟨_,x,_⟩|⟨_,x,_⟩|⟨_,x,_⟩<;>first|omega|skip
    ·exact .inl ⟨x,aa,y⟩
    ·exact .inr (.inl ⟨x,aa,y⟩)
  rcases Goes.cases h1 with ir|⟨n',rfl,gP⟩
  ·obtain⟨_,_,b',hgo,hm⟩:=ir w (RCa.refl w);exact release hgo hm
  ·rcases Goes.cases h2 with ir|⟨atI,rfl,agM⟩
   ·obtain⟨_,_,b',hgo,hm⟩:=ir w (RCa.refl w);exact release hgo hm
   ·obtain⟨b',w',es,hgo,⟨hA,eU⟩,hg⟩:=gP w (RCa.refl w);obtain⟨ZF,aru,abZ,RU,⟨ad0,afi⟩,afr⟩:=agM w (RCa.refl w);obtain⟨rfl,rfl,rfl⟩:b'=ZF/\w'=aru/\es=abZ:=by rw[hgo]at RU;injection RU with x y z;exact⟨x,y,z⟩
    have lY:∀k:Nat,w'.heap[k]? =w.heap[k]? :=λk=>by
     by_cases e:k=K.C
     ·exact ad0.block k (λx=>K.Gj (e.symm.trans x))
     ·exact hA.block k e
    have kF:∀e∈es,K.EvJ e/\e.loc≠.mark .disable/\e.loc≠.mark .enable:=λe he=>ab3 (eU e he) (afi e he);have hd:deafBehind 0 es=0:=deafBehind_still (λe he=>(kF e he).2) _;refine⟨b',w',es,hgo,λx _ _=>lY x,M9 hA.tape hA.os hA.output hA.size lY ?_,1,n',none,by rw[hd];exact .c1 hg afr,λfn pos=>?_,rfl,?_,λ_ h=>aa,.inr ⟨rfl,aa⟩,aa⟩
    ·intro h6 h8;rcases hw with⟨x,_,y⟩|⟨x,_,y⟩|⟨_,x,_⟩|⟨_,x,_⟩|⟨_,x,_⟩|⟨_,x,_⟩<;>omega
    ·exact hB.past.appJ zQ (wR (X:=λact=>∀b,act.touch?=some b->OfWg K.Wg b.loc/\b.kind=.atomic) λe x=>(kF e x).1.1) (.inl rfl) (wR (X:=λact=>act.low K.Low) λe x=>(kF e x).1.2.1)
      (wR (X:=λact=>act≠.mark (.release (stA K.Wg))) λe x=>(kF e x).1.2.2)
    ·rw[if_neg aa];exact NC hw (lY _)
 |c2 h1=>
  left;rcases Goes.cases h1 with ir|⟨n',rfl,gP⟩
  ·obtain⟨_,b',hgo,m,hm⟩:=ir w (RCa.refl w);refine⟨b',w,_,hgo,λ_ _ _=>rfl,E8 w,3,m,rel,.c3 hm,λfn pos=>?_,nM,?_,λ_ h=>aa,.inl aa,aa⟩
   ·refine hB.past.appMute ?_ ?_ ?_<;>(intro op aS;obtain⟨e,he,rfl⟩:=Conc.mem_ofEvents aS;simp at he;subst he)
    ·rfl
    ·trivial
    ·simp[MemAct.ofEvent,mk]
   ·rw[if_neg aa];rcases hw with⟨x,_,y⟩|⟨x,_,y⟩|⟨_,x,_⟩|⟨_,x,_⟩|⟨_,x,_⟩|⟨_,x,_⟩<;>first|omega|skip
    ·exact .inl ⟨x,aa,y⟩
    ·exact .inr (.inl ⟨x,aa,y⟩)
  ·obtain⟨b',w',es,hgo,⟨rfl,rfl⟩,hg⟩:=gP w (RCa.refl w);exact⟨b',_,_,hgo,ES hB hw nM aa (.c2 hg) aa⟩
 |c3 h1=>
  left
  letI:=K.aut
  have bk:∀e∈(#[rd (stA K.Wg),wr (stA K.Wg)]:Array Event),K.EvJ e:=by intro e he;simp at he;rcases he with rfl|rfl<;>exact CQ _ rfl _
  have PU:∀j e,(#[rd (stA K.Wg),wr (stA K.Wg)]:Array Event)[j]? =some e->(MemAct.ofEvent e).touch?=none\/0<deafBehind 1 ((#[rd (stA K.Wg),wr (stA K.Wg)]:Array Event).extract 0 j):=by
   intro j e he
   match j,he with
   |0,_=>exact .inr (by simp[deafBehind])
   |1,_=>exact .inr (by simp[deafBehind,rd])
   |j+2,he=>simp at he
  rcases Goes.cases h1 with ir|⟨n',rfl,gP⟩
  ·obtain⟨_,hl,hm⟩:=ir w (RCa.refl w);rcases hw with⟨x,_,y⟩|⟨x,_,y⟩|⟨_,x,_⟩|⟨_,x,_⟩|⟨_,x,_⟩|⟨_,x,_⟩<;>first|omega|skip
   ·obtain⟨b',hgo,qq,hq⟩:=hl y
    refine⟨b',_,_,hgo,ve w 0 _,⟨λ_=>⟨FP w 0 _,λ_=>.inr ⟨y.setSt _,JN hB.full (ve w 0 _ _ K.hC K.xz)⟩,λz=>absurd (z.1.unique y).1 ai⟩,λz=>aa,λz=>aa⟩,
     7,qq,rel,.c7 hq,λfn pos=>hB.CJ bk PU,by rw[nM];rfl,?_,λz=>aa,.inl aa,aa⟩
    rw[if_neg aa];exact .inr (.inr (.inr (.inr (.inr ⟨.inl x,rfl,y.setSt _⟩))))
   ·obtain⟨b',hgo,m,hg⟩:=hm y;refine⟨b',_,_,hgo,ve w 0 _,M8 x ⟨FP w 0 _,λ_=>.inr (.inl (y.setSt _)),λz=>absurd (z.1.unique y).1 ai⟩,4,m,rel,.c4 hg,λfn pos=>hB.CJ bk PU,by rw[nM];rfl,?_,λ_ z=>aa,.inl aa,aa⟩;rw[if_neg aa];exact .inr (.inr (.inl ⟨x,.inl rfl,y.setSt _⟩))
  ·obtain⟨b',w',es,hgo,⟨rfl,rfl⟩,hg⟩:=gP w (RCa.refl w);exact⟨b',_,_,hgo,ES hB hw nM aa (.c3 hg) aa⟩
 |c4 h1=>
  left;rcases Goes.cases h1 with ir|⟨n',rfl,gP⟩
  ·obtain⟨_,b',hgo,m,hm⟩:=ir w (RCd.refl w);refine⟨b',w,_,hgo,λ_ _ _=>rfl,E8 w,5,m,rel,.c5 hm,λfn pos=>hB.CJ ?_ ?_,by rw[nM];rfl,?_,λ_ h=>aa,.inl aa,aa⟩
   ·intro e he;simp at he;subst he;exact CQ _ rfl _
   ·intro j e he
    match j,he with
    |0,_=>exact .inr (by simp[deafBehind])
    |j+1,he=>simp at he
   ·rw[if_neg aa];rcases hw with⟨_,x,y⟩|⟨_,x,y⟩|⟨x,_,y⟩|⟨_,x,_⟩|⟨_,x,_⟩|⟨_,x,_⟩<;>first|omega|skip
    exact .inr (.inr (.inl ⟨x,.inr rfl,y⟩))
  ·obtain⟨b',w',es,hgo,⟨rfl,rfl⟩,hg⟩:=gP w (RCd.refl w);exact⟨b',_,_,hgo,ES hB hw nM aa (.c4 hg) aa⟩
 |c5 h1=>
  left
  letI:=K.aut
  rcases Goes.cases h1 with ir|⟨n',rfl,gP⟩
  ·obtain⟨_,b',hgo,m,hm⟩:=ir w (RCd.refl w);rcases hw with⟨_,x,y⟩|⟨_,x,y⟩|⟨x,_,y⟩|⟨_,x,_⟩|⟨_,x,_⟩|⟨_,x,_⟩<;>first|omega|skip
   refine⟨b',_,_,hgo,ve w 0 _,M8 x ⟨FP w 0 _,λ_=>.inr (.inr (.inl (y.setSt _))),λz=>absurd (z.1.unique y).2 ai⟩,6,m,rel,.c6 hm,λfn pos=>hB.CJ ?_ ?_,by rw[nM];rfl,?_,λ_ h=>aa,.inl aa,aa⟩
   ·intro e he;simp at he;subst he;exact CQ _ rfl _
   ·intro j e he
    match j,he with
    |0,_=>exact .inr (by simp[deafBehind])
    |j+1,he=>simp at he
   ·rw[if_neg aa];exact .inr (.inr (.inr (.inl ⟨x,rfl,y.setSt _⟩)))
  ·obtain⟨b',w',es,hgo,⟨rfl,rfl⟩,hg⟩:=gP w (RCd.refl w);exact⟨b',_,_,hgo,ES hB hw nM aa (.c5 hg) aa⟩
 |c6 h1=>
  left
  letI:=K.aut
  rcases Goes.cases h1 with ir|⟨n',rfl,gP⟩
  ·obtain⟨_,DO,b',hgo,qq,hq⟩:=ir w (RCd.refl w);rcases hw with⟨_,x,y⟩|⟨_,x,y⟩|⟨_,x,y⟩|⟨x,_,y⟩|⟨_,x,_⟩|⟨_,x,_⟩<;>first|omega|skip
   refine⟨b',_,_,hgo,ve w 1 _,M8 x ⟨FP w 1 _,λ_=>.inr (.inr (.inr ⟨y.setSm _,JN hB.full (ve w 1 _ _ K.hC K.xz)⟩)),λz=>absurd (z.1.unique y).2 ai⟩,7,qq,rel,?_,λfn pos=>hB.CJ ?_ ?_,by rw[nM];rfl,?_,λ_ _=>DO,.inl aa,aa⟩
   ·have:deafBehind 1 (semEvents (smA K.Wg))=1:=by simp[deafBehind,semEvents]
    rw[this];exact .c7 hq
   ·intro e he;simp[semEvents]at he;rcases he with rfl|rfl|rfl|rfl
    ·exact Qf (m:=.disable) trivial (by simp[MemAct.touch?]) al
    ·exact CQ _ rfl _
    ·exact CQ _ rfl _
    ·exact Qf (m:=.enable) trivial (by simp[MemAct.touch?]) al
   ·intro j e he
    match j,he with
    |0,he=>simp[semEvents]at he;subst he;exact .inl rfl
    |1,he=>exact .inr (by simp[deafBehind,semEvents])
    |2,he=>exact .inr (by simp[deafBehind,semEvents])
    |3,he=>simp[semEvents]at he;subst he;exact .inl rfl
    |j+4,he=>simp[semEvents]at he
   ·have:(if 7=7/\mt=10 then 5 else mt)=5:=by rcases x with rfl|rfl<;>rfl
    rw[this];exact .inr (.inr (.inr (.inr (.inl ⟨rfl,rfl,y.setSm _⟩))))
  ·obtain⟨b',w',es,hgo,⟨rfl,rfl⟩,hg⟩:=gP w (RCd.refl w);exact⟨b',_,_,hgo,ES hB hw nM aa (.c6 hg) aa⟩
 |c7 h1=>
  left
  cases cn with
  |zero=>rw[h1.1]at hr;cases hr
  |succ n=>
   rcases h1 with⟨hf,_⟩|⟨_,b',es,hm,bw,hq⟩
   ·rw[hf]at hr;cases hr
   refine⟨b',w,es,bw w,λ_ _ _=>rfl,E8 w,7,n,rel,.c7 hq,λfn pos=>?_,nM,VX hw,λx _=>?_,.inr ⟨rfl,aa⟩,aa⟩
   ·refine hB.past.appMute ?_ ?_ ?_<;>(intro op aS;obtain⟨e,he,rfl⟩:=Conc.mem_ofEvents aS)
    ·exact touch_mute (hm e he)
    ·exact low_mute (hm e he) _
    ·intro e';have:=hm e he;obtain⟨loc,wr,sy⟩:=e
     cases loc<;>simp_all[Event.mute,MemAct.ofEvent]
   ·subst x;rcases hw with⟨x,_⟩|⟨_,x,_⟩|⟨_,x,_⟩|⟨_,x,_⟩|⟨x,_⟩|⟨x,_⟩<;>omega
end
abbrev Mu:=Nat×Nat×Nat×Nat×Nat
def Tf:Mu->Mu->Prop:=Prod.Lex (·<·) (Prod.Lex (·<·) (Prod.Lex (·<·) (Prod.Lex (·<·) (·<·))))
def ajR:WellFounded Tf:=
 (Prod.lex ⟨_,Nat.lt_wfRel.wf⟩ (Prod.lex ⟨_,Nat.lt_wfRel.wf⟩ (Prod.lex ⟨_,Nat.lt_wfRel.wf⟩ (Prod.lex ⟨_,Nat.lt_wfRel.wf⟩ ⟨_,Nat.lt_wfRel.wf⟩)))).wf
section
attribute [local instance] Jn.Y
variable {K:Jn P}
def Ij:∀x y z,K.Ra x y->K.Ra y z->K.Ra x z:=λ_ _ _ h h'=>by letI:=K.aut;exact h.trans h'
def Vy:∀x y z,K.Rb x y->K.Rb y z->K.Rb x z:=λ_ _ _ h h'=>by letI:=K.aut;exact h.trans h'
variable {w w':World}{mt md mn:Nat}{a:Goroutine}
def MJ.rely (h:MJ K mt md mn a w)(s:Az K mt w w'):MJ K mt md mn a w':=by
 obtain⟨s1,s2,s3⟩:=s
 cases h with
 |a1 h=>exact .a1 (Goes.rely Ij h (s1 aa))
 |a2 h=>exact .a2 (Goes.rely Ij h (s1 aa))
 |a3 h=>exact .a3 (Goes.rely Ij h (s1 aa))
 |a4 h=>exact .a4 (Goes.rely Ij h (s1 aa))
 |a5 h=>exact .a5 (Goes.rely Vy h (s2 aa))
 |blk h=>exact .blk (λw₁ r=>h w₁ (Vy _ _ _ (s2 aa) r))
 |a6 h=>exact .a6 (Goes.rely atRel_trans h (s3 aa aa))
 |a7 h=>exact .a7 (Goes.rely atRel_trans h (s3 aa aa))
 |a8 h=>exact .a8 (Goes.rely atRel_trans h (s3 aa aa))
def MJ.status(h:MJ K mt md mn a w):(mt≠10/\a.status=.running)\/(mt=10/\a.status=.blocked/\a.offers=none):=by
 letI:=K.aut
 cases h with
 |a1 h=>exact .inl ⟨aa,h.running (λ_ _ x=>x.1) w (RPa.refl w)⟩
 |a2 h=>exact .inl ⟨aa,h.running K.Q2 w (RPa.refl w)⟩
 |a3 h=>exact .inl ⟨aa,h.running (λ_ _ x=>x.1) w (RPa.refl w)⟩
 |a4 h=>exact .inl ⟨aa,h.running (λ_ _ x=>x.1) w (RPa.refl w)⟩
 |a5 h=>exact .inl ⟨aa,h.running (λ_ _ x=>x.1) w (RPb.refl w)⟩
 |blk h=>exact .inr ⟨rfl,rfl,(h w (RPb.refl w)).2.1⟩
 |a6 h=>exact .inl ⟨aa,h.running (λ_ _ x=>x.1) w (atRel_refl w)⟩
 |a7 h=>exact .inl ⟨aa,h.running (λ_ _ x=>x.1) w (atRel_refl w)⟩
 |a8 h=>exact .inl ⟨aa,h.running (λ_ _ x=>x.1) w (atRel_refl w)⟩
def MJ.other(h:MJ K mt md mn a w)(g g':Goroutine):∃kL pA,MJ K kL md pA (woken P g g' w a) w/\((kL=mt)\/(mt=10/\kL=5))/\(mt=10->mayWake P g=true->(g'.status=.running\/g'.status=.finished)->kL=5):=by
 letI:=K.aut
 rcases h.status with⟨aE,hr⟩|⟨rfl,_⟩
 ·exact⟨mt,mn,by rw[woken_of_again (again_of_running (.inl hr) w)];exact h,.inl rfl,λe=>absurd e aE⟩
 ·cases h with
  | @blk a _ h=>
    have hr:=(h w (RPb.refl w)).1;have ho:=(h w (RPb.refl w)).2.1;by_cases hw:(mayWake P g&&g'.status != .blocked&&g'.status != .waiting)=true
    ·refine⟨5,0,?_,.inr ⟨rfl,rfl⟩,λ_ _ _=>rfl⟩
     have e:woken P g g' w {a with status:=.blocked}=a:=by
      unfold woken;rw[if_pos hw];unfold Goroutine.again;simp only[ho];obtain⟨fr,cs,st,dy,of⟩:=a
      cases hr
      cases ho
      rfl
     rw[e];exact .a5 h
    ·refine⟨10,0,?_,.inl rfl,λ_ h1 h2=>?_⟩
     ·have e:woken P g g' w {a with status:=.blocked}={a with status:=.blocked}:=by unfold woken;rw[if_neg hw]
      rw[e];exact .blk h
     ·exfalso;apply hw;rw[h1];rcases h2 with h2|h2<;>rw[h2]<;>rfl
variable {ct:Nat}
def VY(h:WW K 10 ct w):WW K 5 ct w:=by
 rcases h with⟨x,_⟩|⟨_,x,y⟩|⟨_,x,y⟩|⟨_,x,y⟩|⟨x,_⟩|⟨x,_⟩<;>first|omega|skip
 ·exact .inr (.inl ⟨.inl rfl,x,y⟩)
 ·exact .inr (.inr (.inl ⟨.inl rfl,x,y⟩))
 ·exact .inr (.inr (.inr (.inl ⟨.inl rfl,x,y⟩)))
variable {cd cn:Nat}{b:Goroutine}{gs:Array Goroutine}{q:Nat->Nat}{rel:Option Nat}
def JInv(K:Jn P)(μ:Mu)(m:Machine)(T:Trace):Prop:=
 ∃gs w sl q a b mt md mn ct cd cn rel,m=crowd gs w sl/\gs[0]? =some a/\gs[K.j]? =some b/\MJ K mt md mn a w/\WJ K ct cd cn b w/\JB K gs w T q md cd rel/\WW K mt ct w/\rel.isSome=decide (2<=ct)/\ct<=7/\
  μ=(7-ct,cn,sumTo gs.size q,rk ct mt,mn)
def NZ(K:Jn P)(m:Machine)(T:Trace):Prop:=
 ∃gs w sl q a n,m=crowd gs w sl/\gs[0]? =some a/\Goes P true AtRel (DPj (λ_=>True) K.Wg K.C K.Low) (AtRetJ P K.Wg K.C (λ_=>True) λ_ _=>True) n a w/\Leavers P T gs q/\Past K.S K.Low T
def JB.leave(h:JB K gs w T q md cd rel){i:Nat}(h1:0<i)(h2:i≠K.j){g:Goroutine}(hg:gs[i]? =some g)(hr:g.status=.running)(bF:Option (Nat×Nat)):
 ∃g' es q',runT P (crowd gs w bF) i=(.next (crowd (mN P gs i g g' w) w bF),MemOp.ofEvents i g.frame.fn g.frame.place es)/\sumTo gs.size q'<sumTo gs.size q/\JB K (mN P gs i g g' w) w (T++MemOp.ofEvents i g.frame.fn g.frame.place es) q' md cd rel:=by
 have hq:=h.gY i g h1 h2 hg;have qT:(i==0)=false:=by simp;omega
 have bd:i<gs.size:=(Array.getElem?_eq_some_iff.1 hg).1
 cases nK:q i with
 |zero=>rw[nK]at hq;rw[hq.1]at hr;cases hr
 |succ k=>
  rw[nK]at hq;rcases hq with⟨hf,_⟩|⟨_,g',es,hm,ma,bz⟩
  ·rw[hf]at hr;cases hr
  have eX:=runT_crowd_go (P:=P) (sl:=bF) (i:=i) hg (by rw[qT];exact ma w)
  have Lg:sumTo gs.size (upd q i k)+(k+1)=sumTo gs.size q+k:=by have:=sumTo_upd q k id bd;simpa[nK]using this
  have fO:∀k,k≠i->Deaf (T++MemOp.ofEvents i g.frame.fn g.frame.place es) k=Deaf T k:=λk e=>Deaf_other T (λx=>e x.symm) _ zQ;refine⟨g',es,upd q i k,eX,aa,by rw[iN];exact h.lJ,λc x c1 c2 hx=>?_,λc hc=>?_,by rw[fO 0 aa];exact h.e0,by rw[fO _ (λe=>h2 e.symm)];exact h.ej,?_,h.full,h.AX⟩
  ·by_cases e:c=i
   ·subst e;rw[sw bd]at hx;obtain rfl:=Option.some.inj hx;rw[upd_same,Deaf_own];exact bz
   ·obtain⟨z,hz,rfl⟩:=wM e hx;have pg:=h.gY c z c1 c2 hz;rw[woken_quitsD pg,upd_ne q k e,fO c e];exact pg
  ·rw[iN]at hc;rw[fO c aa];exact h.above c hc
  ·refine h.past.appMute ?_ ?_ ?_<;>(intro op aS;obtain⟨e,he,rfl⟩:=Conc.mem_ofEvents aS)
   ·exact touch_mute (hm e he)
   ·exact low_mute (hm e he) _
   ·intro e';have:=hm e he;obtain⟨loc,wr,sy⟩:=e
    cases loc<;>simp_all[Event.mute,MemAct.ofEvent]
def JB.EL(h:JB K gs w T q md cd rel)(ha:gs[0]? =some a)(hm:MJ K mt md mn a w){s:Bool}:partners (gs.setIfInBounds K.j ph) c s=[]:=by
 refine partners_nil λi z hz=>?_;rcases getElem?_stand gs K.j i z hz with⟨_,rfl⟩|⟨h1,h2⟩
 ·exact offersAt_ph c s
 ·by_cases e:i=0
  ·subst e;rw[ha]at h2;rw[<-Option.some.inj h2];rcases hm.status with⟨_,x⟩|⟨_,x,y⟩
   ·exact offersAt_of_not_blocked (by rw[x];simp) c s
   ·simp[offersAt,x,y]
  ·refine offersAt_of_not_blocked (λrP=>?_) c s;have:=(h.gY i z aa h1 h2).status;rcases this with y|y<;>rw[rP]at y<;>cases y
def join_step(μ:Mu)(m:Machine)(T:Trace)(h:JInv K μ m T):∃m' ops,stepT P m=(.next m',ops)/\(NZ K m' (T++ops)\/∃vt,Tf vt μ/\JInv K vt m' (T++ops)):=by
 obtain⟨gs,Cd,sl,q,a,b,mt,md,mn,ct,cd,cn,rel,rfl,ha,hb,J7,JZ,vR,Gq,nM,h7,rfl⟩:=h
 have Hn:∀{w:World},WW K mt ct w->KCa K.ty K.Wg w\/4<=ct:=by
  intro w hW;rcases hW with⟨_,_,x⟩|⟨_,_,x⟩|⟨_,x,_⟩|⟨_,x,_⟩|⟨_,x,_⟩|⟨_,x,_⟩
  ·exact .inl (.inl x)
  ·exact .inl (.inr x)
  all_goals exact .inr aa
 have RF:=JZ.status (Hn Gq);have KO:=J7.status;have hj:=K.hj
 have Dg:∀z∈gs,awake z:=by
  intro z hz;obtain⟨i,hi,rfl⟩:=Array.mem_iff_getElem.1 hz;by_cases e:i=0
  ·subst e;have:gs[0]=a:=by simpa[Array.getElem?_eq_getElem hi]using ha
   rw[this];exact awake_of (KO.elim (λx=>.inl x.2) (λx=>.inr (.inl x.2.1)))
  ·by_cases e':i=K.j
   ·have:gs[i]=b:=by subst e';simpa[Array.getElem?_eq_getElem hi]using hb
    rw[this];exact awake_of (RF.elim .inl (λx=>.inr (.inr x.1)))
   ·exact awake_of ((vR.gY i _ aa e' (Array.getElem?_eq_getElem hi)).status.elim .inl λx=>.inr (.inr x))
 have kH:∃(i:Nat) (g:Goroutine),gs[i]? =some g/\g.status=.running:=by
  rcases KO with⟨_,x⟩|⟨rfl,_⟩
  ·exact⟨0,a,ha,x⟩
  ·rcases RF with x|⟨_,rfl⟩
   ·exact⟨_,b,hb,x⟩
   ·rcases Gq with⟨x,_⟩|⟨_,x,_⟩|⟨_,x,_⟩|⟨_,x,_⟩|⟨x,_⟩|⟨x,_⟩<;>omega
 obtain⟨i,z,d,bF,hi,hz,bw⟩:=crowd_pick (P:=P) (w:=Cd) (sl:=sl) Dg kH;have hM:MJ K mt md mn a (Cd.at d):=J7.rely (Vn Cd d);have hC:WJ K ct cd cn b (Cd.at d):=JZ.low (λ_ _=>rfl);have hB:=vR.at d;have hW:WW K mt ct (Cd.at d):=NC Gq rfl;generalize Cd.at d=w at*;clear J7 JZ vR Gq;have QW:0<gs.size:=(Array.getElem?_eq_some_iff.1 ha).1;by_cases e0:i=0
 ·
  subst e0;obtain rfl:z=a:=by rw[ha]at hi;exact(Option.some.inj hi).symm
  have aE:mt≠10:=by rcases KO with⟨x,_⟩|⟨_,x,_⟩;exact x;rw[hz]at x;cases x
  rcases hM.step aE hC hW hB.full with⟨a',w',es,hgo,kF,DL,xy,kL,pA,J6,rN,bd⟩|⟨rfl,rfl,a',hgo,n,hg⟩
  ·have eX:=runT_crowd_go (P:=P) (sl:=bF) (i:=0) hi (show stepG P (0==0) z w=_ from hgo);have kT:=hC.status (Hn hW);refine⟨_,_,bw.trans eX,.inr ⟨(7-ct,cn,sumTo gs.size q,rk ct kL,pA),?_,_,w',bF,q,a',b,kL,_,pA,ct,cd,cn,rel,rfl,sw QW _ _,rf aa hb (again_of_running (kT.elim .inl λx=>.inr x.1) _) _ _,J6,xy,hB.main kF rfl DL,rN,nM,h7,by rw[iN]⟩⟩;refine .right _ (.right _ (.right _ ?_));rcases bd with bd|⟨he,bd⟩
   ·exact .left _ _ bd
   ·rw[he];exact .right _ bd
  ·
   have eX:=runT_crowd_go (P:=P) (sl:=bF) (i:=0) hi (show stepG P (0==0) z w=_ from hgo);obtain⟨r,rfl⟩:∃r,rel=some r:=by cases rel<;>simp_all
   cases hC with
   |c7 hq=>
    have fO:∀i,i≠0->Deaf (T++MemOp.ofEvents 0 z.frame.fn z.frame.place #[mk (.acquire (stA K.Wg))]) i=Deaf T i:=λi hi=>Deaf_other T (λx=>hi x.symm) _ zQ;have P8:MemOp.ofEvents 0 z.frame.fn z.frame.place #[mk (.acquire (stA K.Wg))]= #[{g:=0,fn:=z.frame.fn,pos:=z.frame.place,act:=.mark (.acquire (stA K.Wg))}]:=by simp[ofEvents_eq,MemAct.ofEvent,mk]
    refine⟨_,_,bw.trans eX,.inl ⟨_,w,bF,upd q K.j cn,a',n,rfl,sw QW _ _,hg,⟨λi x h1 hx=>?_,λi hi=>?_⟩,?_⟩⟩
    ·obtain⟨y,hy,rfl⟩:=wM aa hx;rw[fO i aa];by_cases e:i=K.j
     ·subst e;rw[hb]at hy;obtain rfl:=Option.some.inj hy;rw[woken_quitsD hq,upd_same,hB.ej];exact hq
     ·have qZ:=hB.gY i y h1 e hy;rw[woken_quitsD qZ,upd_ne q cn e];exact qZ
    ·rw[iN]at hi;rw[fO i aa];exact hB.above i hi
    ·rw[P8];refine dN.toPast (hB.past.acquire hB.e0 aa K.hW rfl rfl) ?_;rw[<-P8,Deaf_own,hB.e0];rfl
 ·by_cases ej:i=K.j
  ·
   obtain rfl:z=b:=by rw[ej,hb]at hi;exact(Option.some.inj hi).symm
   have qT:(i==0)=false:=by simp;omega
   rcases hC.step hz hW hB nM with⟨b',w',es,hgo,DL,agN,oV,CB,Ac,xy,hp',agv,rN,hwk,bd,h7'⟩|⟨rfl,rfl,hZ,cR,afu,Kv⟩
   ·have eX:=runT_crowd_go (P:=P) (sl:=bF) (i:=i) (by rw[ej];exact hb) (by rw[qT];exact hgo);have J6:=hM.rely agN;obtain⟨kL,pA,J8,zw,DO⟩:=J6.other z b'
    have hWf:WW K kL oV w':=by
     rcases zw with rfl|⟨rfl,rfl⟩
     ·by_cases e:oV=7/\kL=10
      ·exfalso;obtain⟨rfl,rfl⟩:=e;have hs:=xy.status (.inr aa);have:=DO rfl (hwk rfl rfl) (hs.imp id (·.1));omega
      ·rw[if_neg e]at rN;exact rN
     ·by_cases e:oV=7/\10=10
      ·rw[if_pos e]at rN;exact rN
      ·rw[if_neg e]at rN;exact VY rN
    have KN:(mN P gs i z b' w')[0]? =some (woken P z b' w' a):=by rw[Array.getElem?_setIfInBounds_ne aa,Array.getElem?_map,ha];rfl
    subst ej;refine⟨_,_,bw.trans eX,.inr ⟨(7-oV,CB,sumTo gs.size q,rk oV kL,pA),?_,_,w',bF,q,_,b',kL,md,pA,oV,_,CB,Ac,rfl,KN,sw hB.lJ _ _,J8,xy,hB.work rfl DL (hp' _ _),hWf,agv,h7',by rw[iN]⟩⟩;rcases bd with bd|⟨rfl,bd⟩
    ·exact .left _ _ aa
    ·exact .right _ (.left _ _ bd)
   ·
    obtain⟨⟨kc,qW⟩,agk⟩:=K.Rc w hZ
    have eC:∀(m:Nat) (c':CommCase),m≠K.kk->K.s.cases[m]? =some c'->NoWays w (gs.setIfInBounds K.j ph) c':=by intro m c' hm cE;obtain⟨h1,c,h2,h3⟩:=agk m c' hm cE;exact Mh h2 h3 (hB.EL ha hM)
    have RD:=crowd_sel_recv_closed (P:=P) (sl:=bF) hb (by rw[show(K.j==0)=false from by simp;omega];exact Kv) K.hk eC qW (hB.EL ha hM);rw[ej]at bw;have hkw:KCa K.ty K.Wg w:=(Hn hW).resolve_right aa;obtain⟨⟨n1,g1⟩,n2,g2⟩:=K.serve cR w afu hkw hB.full hB.AX;have Lb:rel=none:=by cases rel<;>simp_all
    subst Lb;have eo:MemOp.ofEvents K.j z.frame.fn z.frame.place #[]= #[]:=Mt;rw[eo]at RD;have GZ:∀op∈(#[]++ #[{g:=K.j,fn:=cR.frame.fn,pos:=cR.frame.place,act:=.recvClosed K.c3}]:Trace),op={g:=K.j,fn:=cR.frame.fn,pos:=cR.frame.place,act:=.recvClosed K.c3}:=by intro op aS;simpa using aS
    have hd:∀i,Deaf (T++(#[]++ #[{g:=K.j,fn:=cR.frame.fn,pos:=cR.frame.place,act:=.recvClosed K.c3}])) i=Deaf T i:=λi=>Deaf_quiet (λop aS d=>by rw[GZ op aS];rfl);refine⟨_,_,bw.trans RD,.inr ⟨(7-1,n1,sumTo gs.size q,rk 1 mt,mn),.left _ _ aa,_,w,bF,q,a,_,mt,md,mn,1,0,n1,none,rfl,by rw[Array.getElem?_setIfInBounds_ne aa];exact ha,Array.getElem?_setIfInBounds_self_of_lt hB.lJ,hM,.c1 g1 g2,?_,?_,rfl,aa,al⟩⟩
    ·refine⟨by simpa using hB.lJ,λi x h1 h2 hx=>?_,λi hi=>?_,by rw[hd];exact hB.e0,by rw[hd];exact hB.ej,?_,hB.full,hB.AX⟩
     ·rw[Array.getElem?_setIfInBounds_ne (λe=>h2 e.symm)]at hx;rw[hd];exact hB.gY i x h1 h2 hx
     ·rw[hd];exact hB.above i (aY hi)
     ·refine hB.past.appMute ?_ ?_ ?_<;>(intro op aS;rw[GZ op aS])
      ·rfl
      ·exact K.lD
      ·simp
    ·rcases hW with⟨x,_,y⟩|⟨x,_,y⟩|⟨_,x,_⟩|⟨_,x,_⟩|⟨_,x,_⟩|⟨_,x,_⟩<;>first|omega|skip
     ·exact .inl ⟨x,aa,y⟩
     ·exact .inr (.inl ⟨x,aa,y⟩)
  ·
   obtain⟨g',es,q',eX,bd,o0⟩:=hB.leave aa ej hi hz bF;obtain⟨kL,pA,J8,zw,_⟩:=hM.other z g';have kT:=hC.status (Hn hW)
   have KN:(mN P gs i z g' w)[0]? =some (woken P z g' w a):=by rw[Array.getElem?_setIfInBounds_ne aa,Array.getElem?_map,ha];rfl
   refine⟨_,_,bw.trans eX,.inr ⟨(7-ct,cn,sumTo gs.size q',rk ct kL,pA),.right _ (.right _ (.left _ _ bd)),_,w,bF,q',_,b,kL,md,pA,ct,cd,cn,rel,rfl,KN,rf (λe=>ej e.symm) hb (again_of_running (kT.elim .inl λx=>.inr x.1) _) _ _,J8,hC,o0,?_,nM,h7,by rw[iN]⟩⟩;rcases zw with rfl|⟨rfl,rfl⟩
   ·exact hW
   ·exact VY hW
def aiv{μ:Mu}(h:JInv K μ m T):∃N m' T',runNT P N m T=(.next m',T')/\NZ K m' T':=by
 induction μ using ajR.induction generalizing m T with
 |_ μ ih=>
  obtain⟨m',ops,hs,he|⟨vt,bd,hI⟩⟩:=join_step μ m T h
  ·exact⟨1,m',T++ops,by simp only[runNT,hs],he⟩
  ·obtain⟨N,py,oP,hr,hd⟩:=ih vt bd hI;exact⟨N+1,py,oP,by simp only[runNT,hs];exact hr,hd⟩
end
end
section
open Go.ConcN (sumTo upd sumTo_upd upd_ne upd_same)
variable {D:Duo P}
structure Duo.FG (D:Duo P) (h x:Nat) (s:Seat) (g:Goroutine) (U:Hp) (gs:Array Goroutine) (w:World) (T:Trace) (q:Nat->Nat) (auu:Nat->Prop) (n:Nat) (y:Goroutine):Prop where
 hg:gs[h]? =some g
 hy:gs[x]? =some y
 afe:ei P (x==0) D.KW D.Still D.B s n y
 base:D.Base gs w T q
 past:dN D.S D.Still D.Q D.j x w.heap.size (Knows T h) T
 qp:cQ auu w U
 fX:∀b,D.Hid b->auu b
variable {s:Seat}{g:Goroutine}
def Duo.FG.picked{x:Nat}(t:D.gF h x)(hs:D.Fits s)(hr:g.status=.running){auu:Nat->Prop}:∀(M:Nat) {gs:Array Goroutine} {w:World} {T:Trace} {q:Nat->Nat} {n:Nat} {y:Goroutine} (sl:Option (Nat×Nat)),
 n+sumTo gs.size q=M->D.FG h x s g U gs w T q auu n y->∃N cq w' bF T' q' n' y' dd vm,runNT P N (crowd gs w sl) T=(.next (crowd cq w' bF),T')/\D.FG h x s g U cq w' T' q' auu n' y'/\stepT P (crowd cq w' bF)=runT P (crowd cq (w'.at dd) vm) h:=by
 intro M
 induction M using Nat.strongRecOn with
 |_ M ih=>
  intro gs w T q n y sl hM hp;obtain⟨hg,hy,l9,hb,KX,gh,hJ⟩:=hp;have wD:=ei.status l9;obtain⟨i,z,d,bF,hi,hz,bw⟩:=crowd_pick (P:=P) (w:=w) (sl:=sl) (hb.awake t hg hy (.inl hr) (wD.elim (λa=>.inl a.1) (λa=>.inr (.inl a.1)))) ⟨h,g,hg,hr⟩;by_cases eh:i=h
  ·subst eh;exact⟨0,gs,w,sl,T,q,n,y,d,bF,rfl,⟨hg,hy,l9,hb,KX,gh,hJ⟩,bw⟩
  ·by_cases ex:i=x
   ·subst ex;obtain rfl:z=y:=by rw[hy]at hi;exact(Option.some.inj hi).symm
    obtain⟨cq,y',n',d',es,eX,bd,gU,fH,uG,q9,cH,eU⟩:=D.other t hs (sl:=bF) (hb.at d) hg (λd=>again_of_running (.inl hr) _) (λc b=>offersAt_of_not_blocked (by rw[hr];simp) c b) hy hz l9;obtain⟨N,xw,w2,xc,T2,q2,n2,y2,dd,Ag,k1,k2,k3⟩:=ih (n'+sumTo cq.size q) (by rw[gU];omega) bF rfl ⟨fH,uG,q9,cH,KX.other (λ_ x=>x.app _) (λl hl=>(D.apart l hl).2) hb.mZ eU,gh.at d',hJ⟩;exact⟨N+1,xw,w2,xc,T2,q2,n2,y2,dd,Ag,by simp only[runNT,bw,eX];exact k1,k2,k3⟩
   ·obtain⟨i1,i2⟩:=t.AU eh ex;obtain⟨g',es,q',eX,hm,bd,cH⟩:=hb.leave i1 i2 hi hz d bF
    obtain⟨N,xw,w2,xc,T2,q2,n2,y2,dd,Ag,k1,k2,k3⟩:=ih (n+sumTo (mN P gs i z g' (w.at d)).size q') (by rw[iN];omega) bF rfl
     ⟨rf (λe=>eh e.symm) hg (again_of_running (.inl hr) _) _ _,rf (λe=>ex e.symm) hy (ei.stays (hb.at d).chans hs l9) _ _,l9,cH,
      KX.appMute (λ_ x=>x.app _) (λop aS=>by obtain⟨e,he,rfl⟩:=Conc.mem_ofEvents aS;exact touch_mute (hm e he)) (λop aS=>by obtain⟨e,he,rfl⟩:=Conc.mem_ofEvents aS;exact low_mute (hm e he) _),gh.at d,hJ⟩
    exact⟨N+1,xw,w2,xc,T2,q2,n2,y2,dd,Ag,by simp only[runNT,bw,eX];exact k1,k2,k3⟩
variable {D:Duo P}
structure Duo.Closed (D:Duo P) (c3:Nat) (s:Seat) (g:Goroutine) (U:Hp) (gs:Array Goroutine) (w:World) (T:Trace) (q:Nat->Nat) (auu:Nat->Prop) (n:Nat) (y:Goroutine):Prop where
 hg:gs[0]? =some g
 hy:gs[D.j]? =some y
 pos:0<n
 afe:ei P false D.KW D.Still D.B s n y
 lJ:D.j<gs.size
 gY:∀i g,0<i->i≠D.j->gs[i]? =some g->QuitsD P (q i) (Deaf T i) g
 above:∀i,gs.size<=i->Deaf T i=0
 d0:Deaf T 0=0
 dj:Deaf T D.j=0
 k:D.K w
 shut:∃k,w.heap[c3]? =some (.chan 0 #[] true k k false)
 open_:∀c,D.chans c->c≠c3->Open c w
 rI:lV D.W w
 nr:pM D.Q T
 past:dN D.S D.Still D.Q D.j D.j w.heap.size (Knows T 0) T
 qp:cQ auu w U
 fX:∀b,D.Hid b->auu b
 mZ:D.B<=w.heap.size
def Duo.shut(D:Duo P)(hs:D.Fits s)(iq:∀cc∈s.cases,cc.send=none){c3:Nat}{z:Value}(hc:D.chans c3)(hk:s.cases[kk]? =some (rcase c3 z)){g':Goroutine}(nA:D.St 0 D.j s g U m T)(hr:g.status=.running)(DO:mayWake P g=true)(eV:g'.status=.running)(hKs:∀w k,D.K w->D.K (w.setChan c3 0 #[] true k k false))(aH:∀w k,w.heap[c3]? =some (.chan 0 #[] false k k false)->stepG P true g w=.go g' (w.setChan c3 0 #[] true k k false) (closeEvents c3)):
 ∃N gs w sl T' q auu n y,runNT P N m T=(.next (crowd gs w sl),T')/\D.Closed c3 s g' U gs w T' q auu n y:=by
 have t:D.gF 0 D.j:=.inl ⟨rfl,rfl⟩;have hj:=D.hj;obtain⟨gs,w,sl,q,auu,n,y,rfl,e1,e2,e3,e4,e5,e6,e7⟩:=nA;obtain⟨N,gs,w,sl,T',q,n,y,dd,bF,kH,⟨hg,hy,l9,hb,hp,gh,hJ⟩,bw⟩:=Duo.FG.picked t hs hr _ sl rfl ⟨e1,e2,e3,e4,e5,e6,e7⟩;obtain⟨k,qW⟩:=(hb.at dd).chans c3 hc;have hgo:=aH (w.at dd) k qW;have eX:=runT_crowd_go (P:=P) (sl:=bF) (i:=0) hg (show stepG P (0==0) g (w.at dd)=_ from hgo)
 have Ry:∀e∈closeEvents c3,Calm e:=by intro e he;simp[closeEvents]at he;rcases he with rfl|rfl<;>exact⟨⟨al,al⟩,al⟩
 have hcB:c3<w.heap.size:=(Array.getElem?_eq_some_iff.1 (show w.heap[c3]? =_ from qW)).1;have oA:((w.at dd).setChan c3 0 #[] true k k false).heap[c3]? =some (.chan 0 #[] true k k false):=heap_setChan_self _ qW _ _ _ _ _ _
 have ag0:∃n' y',0<n'/\woken P g g' ((w.at dd).setChan c3 0 #[] true k k false) y=y'/\ei P false D.KW D.Still D.B s n' y':=by
  have DD:(D.j==0)=false:=by simp;omega
  rw[DD]at l9;rcases l9 with⟨k',rfl,hw⟩|⟨rfl,pU,cR,rfl,qQ⟩
  ·exact⟨_,y,aa,woken_of_again (again_of_running (.inl hw.running) _),.inl ⟨k',rfl,hw⟩⟩
  ·refine⟨1,{parked cR s.cases s.shape with status:=.running},aa,?_,.inl ⟨0,rfl,cR,qQ.tries _ _⟩⟩;unfold woken;rw[if_pos (by rw[DO,eV];rfl)];exact again_some_closed hk oA
 obtain⟨n',y',DR,uG,dX⟩:=ag0
 have fO:∀i,Deaf (T'++MemOp.ofEvents 0 g.frame.fn g.frame.place (closeEvents c3)) i=Deaf T' i:=by
  intro i;by_cases e:i=0
  ·subst e;rw[Deaf_own];exact deafBehind_still (λe h=>(Ry e h).1) _
  ·exact Deaf_other T' (λx=>e x.symm) _ (λop aS=>by obtain⟨e,_,rfl⟩:=Conc.mem_ofEvents aS;rfl)
 refine⟨N+1,mN P gs 0 g g' ((w.at dd).setChan c3 0 #[] true k k false),(w.at dd).setChan c3 0 #[] true k k false,bF,T'++MemOp.ofEvents 0 g.frame.fn g.frame.place (closeEvents c3),q,auu,n',y',?_,sw (hb.lt (.inl rfl)) _ _,?_,DR,dX,
  by rw[iN];exact hb.lJ,λi x h1 h2 hx=>?_,λi hi=>?_,(fO 0).trans hb.d0,(fO _).trans hb.dj,hKs _ _ (hb.at dd).k,⟨k,oA⟩,λc cS aE=>?_,(hb.rI.at dd).setChan _ _ _ _ _ _ _,hb.nr.events λe he=>BM (Ry e he).2,?_,(gh.at dd).setChan (hJ c3 (.inr (.inl hc))) _ _ _ _ _ _,hJ,by have:=(hb.at dd).mZ;simpa[World.setChan]using this⟩
 ·rw[runNT_add,kH];simp only[runNT,bw,eX]
 ·rw[Array.getElem?_setIfInBounds_ne aa,Array.getElem?_map,hy];simp only[Option.map_some];rw[uG]
 ·obtain⟨v,hv,rfl⟩:=wM aa hx;have hq:=hb.gY i v h1 h2 hv;rw[woken_quitsD hq,fO];exact hq
 ·rw[iN]at hi;rw[fO];exact hb.above i hi
 ·obtain⟨k0,h0⟩:=hb.chans c cS;exact⟨k0,by rw[heap_setChan_ne _ _ _ _ _ _ _ (λe=>aE e.symm)];exact h0⟩
 ·have gU:((w.at dd).setChan c3 0 #[] true k k false).heap.size=w.heap.size:=by simp only[World.setChan,Array.size_setIfInBounds];rfl
  rw[gU];refine hp.appH (λop aS=>by obtain⟨e,_,rfl⟩:=Conc.mem_ofEvents aS;rfl) (λop aS b fC=>?_) (λop aS=>?_)
  ·obtain⟨e,he,rfl⟩:=Conc.mem_ofEvents aS
   have afU:∀a:Addr,b.loc≠.cell a:=by intro a ha;simp[closeEvents]at he;rcases he with rfl|rfl<;>simp[MemAct.ofEvent,MemAct.touch?]at fC;subst fC;cases ha
   have none:¬(D.S b.loc\/D.Still b.loc\/D.Q b.loc):=λx=>by obtain⟨a,ha⟩:=D.cell _ x;exact afU a ha
   exact⟨λx=>absurd (.inl x) none,λx=>absurd (.inr (.inl x)) none,λx=>absurd (.inr (.inr x)) none⟩
  ·obtain⟨e,he,rfl⟩:=Conc.mem_ofEvents aS;simp[closeEvents]at he;rcases he with rfl|rfl<;>exact hcB
end
end Go.Qw
