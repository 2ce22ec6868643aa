/- Part 10. -/
import Derived.Conc.FxEnd
import Derived.Conc.FxBegin
import Derived.Test.YtpiabknabfbfhaaGreatDoorFairly09
set_option linter.all false
set_option maxRecDepth 100000
set_option maxHeartbeats 8000000
namespace Go.Qw
open Go Go.Conc
variable {a b:Nat}
def dJ.stay{S Still BX Q:Loc->Prop}{jw B:Nat}{t u:Trace}(H:dJ S Still Q jw a B (Knows t b) t)(wW:∀l,BX l->Still l)(hn:∀op∈u,op.act.touch?=none)(hl:∀op∈u,op.act.low B)(he:∀i,Knows t a i->Knows (t++u) b i):dJ S BX Q jw a B (Knows (t++u) b) (t++u):=by
 refine⟨λsaid=>noRace_appendMute (H.clean said) hn,λi τ ha hm=>?_,λi τ ha hw hS=>?_,λi τ ha hq=>?_,seen_app H.seen hl⟩
 ·obtain⟨x,hx,bF⟩:=touch_of ha;rcases getElem?_append_cases hx with⟨hi,cU⟩|⟨_,dp⟩
  ·rcases H.known i τ (by rw[touchAt_of cU];exact bF) hm with y|⟨y,z,v⟩|⟨y,z,v⟩
   ·exact .inl (y.app u)
   ·exact .inr (.inl ⟨y,z,λc=>v ((counts_old hi).1 c)⟩)
   ·have:=knows_own cU;have e:x.g=a:=by have:=g?_of cU;rw[y]at this;exact(Option.some.inj this).symm
    exact .inl (he i (e▸this))
  ·rw[hn x dp]at bF;cases bF
 ·obtain⟨x,hx,bF⟩:=touch_of ha;rcases getElem?_append_cases hx with⟨hi,cU⟩|⟨_,dp⟩
  ·exact(H.wrote i τ (by rw[touchAt_of cU];exact bF) hw (wW _ hS)).app u
  ·rw[hn x dp]at bF;cases bF
 ·obtain⟨x,hx,bF⟩:=touch_of ha;rcases getElem?_append_cases hx with⟨_,cU⟩|⟨_,dp⟩
  ·exact(H.pure i τ (by rw[touchAt_of cU];exact bF) hq).imp id (·.app u)
  ·rw[hn x dp]at bF;cases bF
variable {h c:Nat}
def SF{j:Nat}{fh:FuncId}{ph:String}{fj:FuncId}{pj:String}{k cap B:Nat}(hc:c<B):∀op∈met h j fh ph fj pj c k cap,op.act.low B:=by intro op aS;simp only[met,List.mem_toArray,List.mem_cons,List.not_mem_nil,or_false]at aS;rcases aS with rfl|rfl|rfl|rfl<;>exact hc
structure Duo.Next {P:Program} (D D':Duo P):Prop where
 w:D'.W=D.W
 j:D'.j=D.j
 chans:D'.chans=D.chans
 s:D'.S=D.S
 q:D'.Q=D.Q
 b:D'.B=D.B
 k:∀w,D.K w->D'.K w
 fA:∀b,D'.Hid b->D.Hid b
variable {P:Program}{D D':Duo P}{T:Trace}
def Duo.Next.base(n:D.Next D'){gs:Array Goroutine}{w:World}{q:Nat->Nat}(b:D.Base gs w T q):D'.Base gs w T q:=
 ⟨by rw[n.j];exact b.kR,by rw[n.j];exact b.gI,b.above,b.d0,by rw[n.j];exact b.dj,n.k w b.k,by rw[n.chans];exact b.chans,by rw[n.b];exact b.mA,by rw[n.w];exact b.q9,by rw[n.q];exact b.nr⟩
def Duo.Next.refl(D:Duo P):D.Next D:=⟨rfl,rfl,rfl,rfl,rfl,rfl,λ_ h=>h,λ_ h=>h⟩
variable {sa sb s':Seat}{kk:Nat}{v:Value}{σ:Hp}{m:Machine}
def Duo.yg.pass (hm:D.yg a b a b sa sb c kk v σ m T)(n:D.Next D')(ha:∀ga,sa.home ga->∃k,dW P (a==0) D'.KW D'.Still D'.B s' k (Go.Conc.served ga undef)):
 ∃gb,sb.home gb/\D'.St b a s' (Go.Conc.served gb (commResult sb.cases sb.shape kk v true)) σ m T:=by
 obtain⟨bZ,w',bE,q',ga,gb,J',k,fh,ph,fj,pj,T1,rfl,h1,h2,h3,h4,h5,h6,h7,h8,rfl,h9,bA,bP⟩:=hm;obtain⟨k',dX⟩:=ha ga h2;refine⟨gb,h4,bZ,w',bE,q',J',k',_,rfl,h3,h1,dX,n.base h5,?_,h6,λx hx=>h7 x (n.fA x hx)⟩;rw[n.s,n.q,n.j];refine h9.pass (λl hl=>?_) (met_mute _ _ _ _ _ _ _ _ _) (SF h8) (λi hi=>Sf bA bP _ _ _ _ _ _ _ hi);obtain⟨x,rfl⟩:=D'.cell l (.inr (.inl hl));exact⟨rfl,by rw[<-n.s];exact(D'.apart _ hl).1⟩
def Duo.yg.stay (hm:D.yg a b b a sa sb c kk v σ m T)(n:D.Next D')(hS:∀l,D'.Still l->D.Still l)(ha:∀ga,sa.home ga->∃k,dW P (a==0) D'.KW D'.Still D'.B s' k (Go.Conc.served ga undef)):
 ∃gb,sb.home gb/\D'.St b a s' (Go.Conc.served gb (commResult sb.cases sb.shape kk v true)) σ m T:=by
 obtain⟨bZ,w',bE,q',ga,gb,J',k,fh,ph,fj,pj,T1,rfl,h1,h2,h3,h4,h5,h6,h7,h8,rfl,h9,bA,bP⟩:=hm;obtain⟨k',dX⟩:=ha ga h2;refine⟨gb,h4,bZ,w',bE,q',J',k',_,rfl,h3,h1,dX,n.base h5,?_,h6,λx hx=>h7 x (n.fA x hx)⟩;rw[n.s,n.q,n.j];exact h9.stay hS (met_mute _ _ _ _ _ _ _ _ _) (SF h8) (λi hi=>Sf bA bP _ _ _ _ _ _ _ hi)
def Duo.env(D:Duo P)(hD:D.Deep){x:Nat}(t:D.gf h x){s:Seat}(hs:D.Fits s):Env P where
 main:=h==0
 st:=D.St h x s
 ik:=by rintro g σ τ m T ⟨gs,w,sl,q,J,n,y,e0,e1,e2,e3,e4,e5,e6,e7⟩ hle;exact⟨gs,w,sl,q,J,n,y,e0,e1,e2,e3,e4,e5,e6.ik hle,e7⟩
 own:=λg σ m T X mG hr hX=>D.run t hs mG hr (gM.ab1 hD hX)
section
open Go.ConcN (sumTo upd sumTo_upd upd_ne upd_same)
structure Lone (P:Program) (S Q:Loc->Prop) (B:Nat) (gs:Array Goroutine) (w:World) (T:Trace) (q:Nat->Nat) (d:Nat):Prop where
 pos:0<gs.size
 gI:∀i g,0<i->gs[i]? =some g->QuitsD P (q i) (Deaf T i) g
 above:∀i,gs.size<=i->Deaf T i=0
 d0:Deaf T 0=d
 past:dJ S (λ_=>False) (λ_=>False) 0 0 B (Knows T 0) T
 nr:pk Q T
def EW(S:Loc->Prop)(n:Nat)(e:Event):Prop:=(∀b,(MemAct.ofEvent e).touch?=some b->S b.loc->b.kind≠.plain)/\(MemAct.ofEvent e).low n/\∀a,e.loc≠.mark (.release a)
section
variable {P:Program}{D:Duo P}{a:Nat}{b:Nat}{c:Nat}{σ:Hp}{T:Trace}
variable {P:Program}{S Q:Loc->Prop}{B:Nat}{gs:Array Goroutine}{w w':World}{T:Trace}{q:Nat->Nat}{d:Nat}
def Lone.leave (h:Lone P S Q B gs w T q d){i:Nat}(h1:0<i){g:Goroutine}(hg:gs[i]? =some g)(hr:g.status=.running)(dd:Nat)(bE:Option (Nat×Nat)):
 ∃g' es q',runT P (crowd gs (w.at dd) bE) i=(.next (crowd (mh P gs i g g' (w.at dd)) (w.at dd) bE),MemOp.ofEvents i g.frame.fn g.frame.place es)/\sumTo gs.size q'<sumTo gs.size q/\Lone P S Q B (mh P gs i g g' (w.at dd)) (w.at dd) (T++MemOp.ofEvents i g.frame.fn g.frame.place es) q' d:=by
 have hq:=h.gI i g h1 hg;have qA:(i==0)=false:=by simp;omega
 have bj:i<gs.size:=(Array.getElem?_eq_some_iff.1 hg).1
 cases mQ:q i with
 |zero=>rw[mQ]at hq;rw[hq.1]at hr;cases hr
 |succ k=>
  rw[mQ]at hq;rcases hq with⟨hf,_⟩|⟨_,g',es,hm,lG,bz⟩
  ·rw[hf]at hr;cases hr
  have eG:=runT_crowd_go (P:=P) (sl:=bE) (i:=i) hg (by rw[qA];exact lG (w.at dd))
  have Kx:sumTo gs.size (upd q i k)+(k+1)=sumTo gs.size q+k:=by have:=sumTo_upd q k id bj;simpa[mQ]using this
  have fp:∀k,k≠i->Deaf (T++MemOp.ofEvents i g.frame.fn g.frame.place es) k=Deaf T k:=λk e=>Deaf_other T (λx=>e x.symm) _ (λop aS=>by obtain⟨e,_,rfl⟩:=Conc.mem_ofEvents aS;rfl);refine⟨g',es,upd q i k,eG,aa,by rw[iz];exact h.pos,λc x c1 hx=>?_,λc hc=>?_,(fp 0 aa).trans h.d0,?_,h.nr.events λe he=>LD (hm e he)⟩
  ·by_cases e:c=i
   ·subst e;rw[rI bj]at hx;obtain rfl:=Option.some.inj hx;rw[upd_same,Deaf_own];exact bz
   ·obtain⟨z,hz,rfl⟩:=vT e hx;have oN:=h.gI c z c1 hz;rw[woken_quitsD oN,upd_ne q k e,fp c e];exact oN
  ·rw[iz]at hc;rw[fp c aa];exact h.above c hc
  ·exact h.past.appMute (λ_ x=>x.app _) (λop aS=>by obtain⟨e,he,rfl⟩:=Conc.mem_ofEvents aS;exact touch_mute (hm e he)) (λop aS=>by obtain⟨e,he,rfl⟩:=Conc.mem_ofEvents aS;exact low_mute (hm e he) _)
def Lone.awake (h:Lone P S Q B gs w T q d){a:Goroutine}(ha:gs[0]? =some a)(hr:a.status=.running):∀z∈gs,awake z:=by
 intro z hz;obtain⟨i,hi,rfl⟩:=Array.mem_iff_getElem.1 hz;by_cases e:i=0
 ·subst e;have:gs[0]=a:=by simpa[Array.getElem?_eq_getElem hi]using ha
  rw[this];exact awake_of (.inl hr)
 ·exact awake_of ((h.gI i _ aa (Array.getElem?_eq_getElem hi)).status.elim .inl λx=>.inr (.inr x))
def Lone.picked (h:Lone P S Q B gs w T q d){a:Goroutine}(ha:gs[0]? =some a)(hr:a.status=.running)(sl:Option (Nat×Nat)):
 ∃N bZ dd bE uI T' q',runNT P N (crowd gs w sl) T=(.next (crowd bZ (w.at dd) bE),T')/\bZ.size=gs.size/\bZ[0]? =some a/\Lone P S Q B bZ (w.at dd) T' q' d/\∃py,stepT P (crowd bZ (w.at dd) bE)=runT P (crowd bZ (w.at py) uI) 0:=by
 generalize hM:sumTo gs.size q=M
 induction M using Nat.strongRecOn generalizing gs w sl T q with
 |_ M ih=>
  obtain⟨i,z,dd,bE,hi,hz,bw⟩:=crowd_pick (P:=P) (w:=w) (sl:=sl) (h.awake ha hr) ⟨0,a,ha,hr⟩;by_cases e:i=0
  ·subst e;exact⟨0,gs,w.drawn,sl,bE,T,q,rfl,rfl,ha,h,dd,bw⟩
  ·obtain⟨g',es,q',eG,bj,h'⟩:=h.leave aa hi hz dd bE;obtain⟨N,bZ,py,s1,s2,T',q'',eU,jK,da,fL,hx⟩:=ih _ (by rw[<-hM];rw[iz];exact bj) h' (qJ (λe'=>e e'.symm) ha (again_of_running (.inl hr) _) _ _) bE rfl;exact⟨N+1,bZ,py,s1,s2,T',q'',by simp only[runNT,bw,eG];exact eU,jK.trans (iz _ _ _),da,fL,hx⟩
def Lone.go (h:Lone P S Q B gs w T q d){a:Goroutine}(ha:gs[0]? =some a)(hr:a.status=.running)(sl:Option (Nat×Nat)){X:Goroutine->World->Array Event->Prop}
 (hs:∀dd,∃a' w' es,stepG P true a (w.at dd)=.go a' w' es/\(∀e∈es,EW S B e)/\X a' w' es):
 ∃N bZ a' w' bE T' q' es,runNT P N (crowd gs w sl) T=(.next (crowd bZ w' bE),T')/\bZ.size=gs.size/\bZ[0]? =some a'/\X a' w' es/\Lone P S Q B bZ w' T' q' (deafBehind d es):=by
 obtain⟨N,bZ,dd,bE,uI,T',q',eU,jK,da,fL,py,hx⟩:=h.picked ha hr sl;obtain⟨a',w',es,hgo,jU,hX⟩:=hs py;have eG:=runT_crowd_go (P:=P) (sl:=uI) (i:=0) da (show stepG P (0==0) a (w.at py)=_ from hgo);have fp:∀i,i≠0->Deaf (T'++MemOp.ofEvents 0 a.frame.fn a.frame.place es) i=Deaf T' i:=λi hi=>Deaf_other T' (λx=>hi x.symm) _ (λop aS=>by obtain⟨e,_,rfl⟩:=Conc.mem_ofEvents aS;rfl);refine⟨N+1,mh P bZ 0 a a' w',a',w',uI,T'++MemOp.ofEvents 0 a.frame.fn a.frame.place es,q',es,?_,(iz _ _ _).trans jK,rI fL.pos _ _,hX,by rw[iz];exact fL.pos,λc x c1 hx=>?_,λc hc=>?_,by rw[Deaf_own,fL.d0],?_,fL.nr.events λe he=>Bf (jU e he).2.2⟩
 ·rw[runNT_add,eU];simp only[runNT,hx,eG]
 ·obtain⟨z,hz,rfl⟩:=vT aa hx;have oN:=fL.gI c z c1 hz;rw[woken_quitsD oN,fp c aa];exact oN
 ·rw[iz]at hc;have:=fL.pos;rw[fp c aa];exact fL.above c hc
 ·refine fL.past.appH (λop aS=>by obtain⟨e,_,rfl⟩:=Conc.mem_ofEvents aS;rfl) (λop aS b hb=>?_) (λop aS=>?_)
  ·obtain⟨e,he,rfl⟩:=Conc.mem_ofEvents aS;exact⟨(jU e he).1 b hb,λx=>x.elim,λx=>x.elim⟩
  ·obtain⟨e,he,rfl⟩:=Conc.mem_ofEvents aS;exact(jU e he).2.1
def Lone.goes {D:World->World->Array Event->Prop}{Stop:Goroutine->World->Prop}(hD:∀w w' es,D w w' es->∀e∈es,EW S B e/\e.loc≠.mark .disable/\e.loc≠.mark .enable):
 ∀(n:Nat) {gs:Array Goroutine} {w:World} {T:Trace} {q:Nat->Nat} {a:Goroutine} (sl:Option (Nat×Nat)),Lone P S Q B gs w T q d->gs[0]? =some a->Goes P true AtRel D Stop n a w->
 ∃N bZ a' w' bE T' q',runNT P N (crowd gs w sl) T=(.next (crowd bZ w' bE),T')/\bZ.size=gs.size/\bZ[0]? =some a'/\(∀dd,Stop a' (w'.at dd))/\Lone P S Q B bZ w' T' q' d:=by
 intro n
 induction n with
 |zero=>exactλ{gs w T q a} sl h ha hG=>⟨0,gs,a,w,sl,T,q,rfl,rfl,ha,λdd=>hG _ ⟨dd,rfl⟩,h⟩
 |succ n ih=>
  intro gs w T q a sl h ha hG;rcases hG with hG|⟨hr,hG⟩
  ·exact⟨0,gs,a,w,sl,T,q,rfl,rfl,ha,λdd=>hG _ ⟨dd,rfl⟩,h⟩
  ·obtain⟨N,bZ,a',w',bE,T',q',es,h1,h2,h3,⟨hg,aE⟩,h4⟩:=h.go ha hr sl (X:=λa' w' es=>Goes P true AtRel D Stop n a' w'/\∀e∈es,e.loc≠.mark .disable/\e.loc≠.mark .enable) (λdd=>by
    have:=hG (w.at dd) ⟨dd,rfl⟩
    cases hgo:stepG P true a (w.at dd)<;>rw[hgo]at this<;>first|exact this.elim|skip
    rename_i a' w' es
    obtain⟨hd,hg⟩:=this
    exact⟨a',w',es,rfl,λe he=>(hD _ _ _ hd e he).1,hg,λe he=>(hD _ _ _ hd e he).2⟩)
   rw[deafBehind_still aE]at h4;obtain⟨N2,wQ,a2,w2,wC,T2,q2,k1,k2,k3,k4,k5⟩:=ih bE h4 h3 hg;exact⟨N+N2,wQ,a2,w2,wC,T2,q2,runNT_then h1 k1,k2.trans h2,k3,k4,k5⟩
def Lone.of {J:Nat->Prop}(ha:0<gs.size)(hL:Leavers P T gs q)(hP:Past (th J) w.heap.size T)(hN:pk Q T):Lone P (th J) Q w.heap.size gs w T q 0:=
 ⟨ha,hL.old,hL.above,hP.hears,dJ.ofPast hP (λ_ h=>h),hN⟩
def Lone.back {J:Nat->Prop}(h:Lone P (th J) Q B gs w T q 0):Leavers P T gs q/\Past (th J) B T:=⟨⟨h.gI,h.above⟩,h.past.toPast h.d0⟩
def Lone.spawn (h:Lone P S Q B gs w T q 0){a a' child:Goroutine}(ha:gs[0]? =some a)(hr:a.status=.running)(sl:Option (Nat×Nat))(hs:∀dd,stepG P true a (w.at dd)=.spawn a' child (w.at dd) #[])
 {D:Duo P} {s:Seat} {n:Nat} {σ:Hp} {J:Nat->Prop} (hj:D.j=gs.size) (hBw:B<=w.heap.size) (Qb:D.S=S) (hDQ:D.Q=Q) (hh:dW P true D.KW D.Still D.B s n a') (hK:D.K w) (hc:∀c,D.chans c->Open c w) (hB:D.B<=w.heap.size) (hF:lh D.W w) (fD:cN J w σ) (hJ:∀b,D.Hid b->J b):
 ∃N m' T',runNT P N (crowd gs w sl) T=(.next m',T')/\D.St D.j 0 s child σ m' T':=by
 obtain⟨N,bZ,dd,bE,uI,T',q',eU,jK,da,fL,py,hx⟩:=h.picked ha hr sl;have eG:=runT_crowd_spawn (P:=P) (sl:=uI) (i:=0) da (show stepG P (0==0) a (w.at py)=_ from hs py)
 have Gl:((MemOp.ofEvents 0 a.frame.fn a.frame.place #[]).push {g:=0,fn:=a.frame.fn,pos:=a.frame.place,act:=.go bZ.size}).push {g:=bZ.size,fn:=child.frame.fn,pos:=a.frame.place,act:=.start}=kz 0 bZ.size a.frame.fn a.frame.place child.frame.fn:=by simp[ofEvents_eq,kz]
 rw[Gl]at eG;have tI:D.j=bZ.size:=hj.trans jK.symm;have hd:∀i,Deaf (T'++kz 0 bZ.size a.frame.fn a.frame.place child.frame.fn) i=Deaf T' i:=λi=>Deaf_quiet (Q7 _ _ _ _ _ i)
 refine⟨N+1,crowd ((bZ.setIfInBounds 0 a').push child) (w.at py) uI,T'++kz 0 bZ.size a.frame.fn a.frame.place child.frame.fn,by rw[runNT_add,eU];simp only[runNT,hx,eG],_,w.at py,uI,q',J,n,a',rfl,?_,?_,aZ hh,⟨?_,λi x h1 h2 hx=>?_,λi hi=>?_,by rw[hd];exact fL.d0,?_,D.CB w py hK,hc,hB,hF.at py,pk.app (Q:=D.Q) (by rw[hDQ];exact fL.nr) λop aS a=>by
  simp only[kz,List.mem_toArray,List.mem_cons,List.not_mem_nil,or_false]at aS
  rcases aS with rfl|rfl<;>simp⟩,?_,fD.at py,hJ⟩
 ·rw[tI,show bZ.size=(bZ.setIfInBounds 0 a').size by simp,Array.getElem?_push_size]
 ·rw[Array.getElem?_push_lt (by simpa using fL.pos)];simp
 ·rw[tI];simp
 ·have cU:bZ[i]? =some x:=by rw[Array.getElem?_push,if_neg (by simp;omega),Array.getElem?_setIfInBounds_ne aa]at hx;exact hx
  rw[hd];exact fL.gI i x h1 cU
 ·rw[hd];exact fL.above i (by simp at hi;omega)
 ·rw[hd,tI];exact fL.above _ (Nat.le_refl _)
 ·rw[tI,Qb];refine dJ.hire (fL.past.mono hBw) (λl hl=>?_) (λl hl=>?_) fL.d0 (fL.above _ (Nat.le_refl _)) _ _ _
  ·obtain⟨x,rfl⟩:=D.cell l (.inr (.inl hl));exact⟨rfl,by rw[<-Qb];exact(D.apart _ hl).1⟩
  ·obtain⟨x,rfl⟩:=D.cell l (.inr (.inr hl));rfl
end
end
section
open Go.ConcX (OfWg stA smA)
structure jC (S:Loc->Prop) (Wg j B:Nat) (rel:Option Nat) (t:Trace):Prop where
 clean:∀said,¬Race said t
 known:∀i a,touchAt t i=some a->a.loc.isMemory=true->Knows t 0 i\/(S a.loc/\a.kind=.atomic/\¬t.counts i)\/(t.g? i=some j/\OfWg Wg a.loc/\a.kind=.atomic/\∀r,rel=some r->i<=r)
 pure:∀i a,touchAt t i=some a->OfWg Wg a.loc->a.kind≠.plain\/Knows t j i
 seen:∀op∈t,op.act.low B
 Em:∀r,rel=some r->t.act? r=some (.mark (.releaseMerge (stA Wg)))/\t.g? r=some j/\t.heard r
 norel:∀i,t.act? i≠some (.mark (.release (stA Wg)))
section
variable {a:Nat}{b:Nat}{c:Nat}{v:Value}
variable {S:Loc->Prop}{Wg j B:Nat}{rel:Option Nat}{t u:Trace}
def jC.ofK {Q Still:Loc->Prop}{o:Nat}(H:dJ S (λ_=>False) Q j o B (Knows t 0) t)(hQ:∀l,OfWg Wg l->Q l)(hn:∀i,t.act? i≠some (.mark (.release (stA Wg)))):jC S Wg j B none t:=
 ⟨H.clean,λi a ha hm=>(H.known i a ha hm).imp id λx=>x.imp id λy=>y.2.2.elim,λi a ha hw=>H.pure i a ha (hQ _ hw),H.seen,λr h=>(by cases h),hn⟩
def LC (h:∀i,t.act? i≠some (.mark (.release (stA Wg))))(hu:∀op∈u,op.act≠.mark (.release (stA Wg))):∀i,(t++u).act? i≠some (.mark (.release (stA Wg))):=by
 intro i hi;obtain⟨op,ho,Rq⟩:=Option.map_eq_some_iff.1 hi;rcases getElem?_append_cases ho with⟨_,tN⟩|⟨_,hou⟩
 ·exact h i (by rw[act?_of tN,Rq])
 ·exact hu op hou Rq
def L9 (h:∀r,rel=some r->t.act? r=some (.mark (.releaseMerge (stA Wg)))/\t.g? r=some j/\t.heard r):∀r,rel=some r->(t++u).act? r=some (.mark (.releaseMerge (stA Wg)))/\(t++u).g? r=some j/\(t++u).heard r:=by intro r hr;obtain⟨h1,h2,h3⟩:=h r hr;have bj:=lt_of_act? h1;exact⟨by rw[act?_old bj];exact h1,by rw[g?_old bj];exact h2,(heard_old bj).2 h3⟩
def jC.old_known (H:jC S Wg j B rel t){i:Nat}{a:Touch}{x:MemOp}(cU:t[i]? =some x)(bF:x.act.touch?=some a)(hm:a.loc.isMemory=true):
 Knows (t++u) 0 i\/(S a.loc/\a.kind=.atomic/\¬(t++u).counts i)\/((t++u).g? i=some j/\OfWg Wg a.loc/\a.kind=.atomic/\∀r,rel=some r->i<=r):=by
 have hi:=lt_size_of_getElem? cU;rcases H.known i a (by rw[touchAt_of cU];exact bF) hm with x|⟨x,y,z⟩|⟨x,y⟩
 ·exact .inl (x.app u)
 ·exact .inr (.inl ⟨x,y,λc=>z ((counts_old hi).1 c)⟩)
 ·exact .inr (.inr ⟨by rw[g?_old hi];exact x,y⟩)
def jC.appMute (H:jC S Wg j B rel t)(hn:∀op∈u,op.act.touch?=none)(hl:∀op∈u,op.act.low B)(hr:∀op∈u,op.act≠.mark (.release (stA Wg))):jC S Wg j B rel (t++u):=by
 refine⟨λsaid=>noRace_appendMute (H.clean said) hn,λi a ha hm=>?_,λi a ha hq=>?_,seen_app H.seen hl,L9 H.Em,LC H.norel hr⟩
 ·obtain⟨x,hx,bF⟩:=touch_of ha;rcases getElem?_append_cases hx with⟨_,cU⟩|⟨_,dp⟩
  ·exact H.old_known cU bF hm
  ·rw[hn x dp]at bF;cases bF
 ·obtain⟨x,hx,bF⟩:=touch_of ha;rcases getElem?_append_cases hx with⟨_,cU⟩|⟨_,dp⟩
  ·exact(H.pure i a (by rw[touchAt_of cU];exact bF) hq).imp id (·.app u)
  ·rw[hn x dp]at bF;cases bF
def jC.app0 (H:jC S Wg j B rel t)(hu:∀op∈u,op.g=0)(hs:∀op∈u,∀b,op.act.touch?=some b->(S b.loc->b.kind≠.plain)/\(OfWg Wg b.loc->b.kind≠.plain))(hl:∀op∈u,op.act.low B)(hr:∀op∈u,op.act≠.mark (.release (stA Wg))):
 jC S Wg j B rel (t++u):=by
 refine⟨λsaid=>noRace_append (H.clean said) hu λi a ha op aS b hb hc=>?_,λi a ha hm=>?_,λi a ha hq=>?_,seen_app H.seen hl,L9 H.Em,LC H.norel hr⟩
 ·obtain⟨h1,h2⟩:=hs op aS b hb
  have at_:a.kind=.atomic->b.kind≠.plain->False:=λy dE=>by
   obtain⟨_,_,_,xa⟩:=hc;rw[y]at xa;rcases xa with z|z|⟨_,z,_⟩
   ·cases z
   ·exact dE z
   ·cases z
  rcases H.known i a ha hc.2.1 with hk|⟨x,y,_⟩|⟨_,x,y,_⟩
  ·exact hk
  ·exact(at_ y (h1 (hc.1▸x))).elim
  ·exact(at_ y (h2 (hc.1▸x))).elim
 ·obtain⟨x,hx,bF⟩:=touch_of ha;rcases getElem?_append_cases hx with⟨_,cU⟩|⟨_,dp⟩
  ·exact H.old_known cU bF hm
  ·have:=knows_own hx;rw[hu x dp]at this;exact .inl this
 ·obtain⟨x,hx,bF⟩:=touch_of ha;rcases getElem?_append_cases hx with⟨_,cU⟩|⟨_,dp⟩
  ·exact(H.pure i a (by rw[touchAt_of cU];exact bF) hq).imp id (·.app u)
  ·exact .inl ((hs x dp a bF).2 hq)
def jC.appJ (H:jC S Wg j B rel t)(hu:∀op∈u,op.g=j)(hs:∀op∈u,∀b,op.act.touch?=some b->OfWg Wg b.loc/\b.kind=.atomic)(hc:rel=none\/((∀l,OfWg Wg l->S l)/\∀k,t.size<=k->¬(t++u).counts k))(hl:∀op∈u,op.act.low B)
 (hr:∀op∈u,op.act≠.mark (.release (stA Wg))):jC S Wg j B rel (t++u):=by
 refine⟨λsaid=>noRace_append (H.clean said) hu λi a ha op aS b hb hc=>?_,λi a ha hm=>?_,λi a ha hq=>?_,seen_app H.seen hl,L9 H.Em,LC H.norel hr⟩
 ·obtain⟨hbQ,hbk⟩:=hs op aS b hb;rcases H.pure i a ha (hc.1▸hbQ)with this|this
  ·obtain⟨_,_,_,xa⟩:=hc;rw[hbk]at xa;rcases xa with z|z|⟨_,_,z⟩
   ·exact absurd z this
   ·cases z
   ·cases z
  ·exact this
 ·obtain⟨x,hx,bF⟩:=touch_of ha;rcases getElem?_append_cases hx with⟨_,cU⟩|⟨sA,dp⟩
  ·exact H.old_known cU bF hm
  ·rcases hc with rfl|⟨hq,hc⟩
   ·exact .inr (.inr ⟨by rw[g?_of hx,hu x dp],(hs x dp a bF).1,(hs x dp a bF).2,λr h=>by cases h⟩)
   ·exact .inr (.inl ⟨hq _ (hs x dp a bF).1,(hs x dp a bF).2,hc i sA⟩)
 ·obtain⟨x,hx,bF⟩:=touch_of ha;rcases getElem?_append_cases hx with⟨_,cU⟩|⟨_,dp⟩
  ·exact(H.pure i a (by rw[touchAt_of cU];exact bF) hq).imp id (·.app u)
  ·rw[(hs x dp a bF).2];exact .inl (λe=>by cases e)
def jC.release (H:jC S Wg j B none t)(hd:Deaf t j=0)(hW:Wg<B){op:MemOp}(hg:op.g=j)(ha:op.act=.mark (.releaseMerge (stA Wg))):jC S Wg j B (some t.size) (t++ #[op]):=by
 have hm:∀o∈(#[op]:Trace),o.act.touch?=none:=by intro o ho;simp at ho;subst ho;rw[ha];rfl
 have H':=H.appMute (u:=#[op]) hm (by intro o ho;simp at ho;subst ho;rw[ha];exact hW) (by intro o ho;simp at ho;subst ho;rw[ha];simp);have e0:(t++ #[op])[t.size]? =some op:=al;refine⟨H'.clean,λi a Ky ru=>?_,H'.pure,H'.seen,λr hr=>?_,H'.norel⟩
 ·rcases H'.known i a Ky ru with x|x|⟨x,y,z,_⟩
  ·exact .inl x
  ·exact .inr (.inl x)
  ·refine .inr (.inr ⟨x,y,z,λr hr=>?_⟩)
   cases hr
   unfold Trace.g? at x;obtain⟨v,hv,_⟩:=Option.map_eq_some_iff.1 x;have:=lt_size_of_getElem? hv;simp at this;omega
 ·cases hr
  exact⟨by rw[act?_of e0,ha],by rw[g?_of e0,hg],j,by rw[g?_of e0,hg],by rw[deaf_old (Nat.le_refl _)];exact hd⟩
def jC.acquire {r:Nat}(H:jC S Wg j B (some r) t)(hd:Deaf t 0=0)(hj:j≠0)(hW:Wg<B){op:MemOp}(hg:op.g=0)(ha:op.act=.mark (.acquire (stA Wg))):dJ S (λ_=>False) (OfWg Wg) j j B (Knows (t++ #[op]) 0) (t++ #[op]):=by
 have hm:∀o∈(#[op]:Trace),o.act.touch?=none:=by intro o ho;simp at ho;subst ho;rw[ha];rfl
 have H':=H.appMute (u:=#[op]) hm (by intro o ho;simp at ho;subst ho;rw[ha];exact hW) (by intro o ho;simp at ho;subst ho;rw[ha];simp);have e0:(t++ #[op])[t.size]? =some op:=al;obtain⟨r1,r2,r3⟩:=H'.Em r rfl;have afq:r<t.size:=lt_of_act? (H.Em r rfl).1;have Ap:HappensBefore (t++ #[op]) r t.size:=.single (.inr ⟨.marked afq (.inr r1) (by rw[act?_of e0,ha]) (λk _ _=>H'.norel k),r3,0,by rw[g?_of e0,hg],by rw[deaf_old (Nat.le_refl _)];exact hd⟩);refine⟨H'.clean,λi a Ky ru=>?_,λ_ _ _ _ x=>x.elim,H'.pure,H'.seen⟩;rcases H'.known i a Ky ru with x|x|⟨x,_,_,z⟩
 ·exact .inl x
 ·exact .inr (.inl x)
 ·refine .inl ⟨t.size,op,e0,hg,.inr ?_⟩;have hir:=z r rfl;rcases Nat.lt_or_ge i r with h|h
  ·exact .trans (.single (.inl ⟨h,j,x,r2⟩)) Ap
  ·obtain rfl:i=r:=aa;exact Ap
end
end
section
open Go.ConcX
open Go.ConcN (sumTo upd sumTo_upd upd_ne upd_same)
structure Jn (P:Program) where
 ty:TypeId
 Wg:Nat
 C:Nat
 C':Nat
 Low:Nat
 B0:Nat
 j:Nat
 I:Payload
 I':Payload
 Y:Shy Wg C
 Y':Shy Wg C'
 vals:List Value
 kZ:List Value
 S:Loc->Prop
 uQ:Goroutine->World->Prop
 Z:World->Prop
 s:Seat
 kk:Nat
 c3:Nat
 z:Value
 hj:0<j
 hW:Wg<Low
 hC:C<Low
 wT:C'<Low
 wV:C≠Wg
 Jl:C'≠Wg
 FC:C≠C'
 kL:c3<Low
 ok:∀act,@Shy.ok Wg C Y act->okF S Low Wg act
 G1:∀act,@Shy.ok Wg C' Y' act->okF S Low Wg act
 Jw:∀l,OfWg Wg l->S l
 Qa:∀g w,uQ g w->g.status=.running
 P9:∀g w,uQ g w->∃m,Goes P true (@RPa I ty Wg C vals) (DPi (λ_=>True) Wg C Low) (@AtW1 I P ty Wg C Low Y vals (λ_=>True) uQ λ_ _=>True) m g w
 hZ:∀w w',(∀b,b<Low->b≠Wg->w'.heap[b]? =w.heap[b]?)->Z w->Z w'
 Qh:∀w,Z w->(∃k,w.heap[c3]? =some (.chan 0 #[] true k k false))/\∀(m:Nat) (cc:CommCase),m≠kk->s.cases[m]? =some cc->cc.send=none/\∃c,cc.chan=.chan (some c)/\Open c w
 hk:s.cases[kk]? =some (rcase c3 z)
 serve:∀cO w,s.home cO->KCa ty Wg w->@Full I C vals w->@Full I' C' kZ w->
  (∃n,Goes P false (RCa ty Wg Low) (DCs (λ_=>True) Wg C) (@AtR0 I P ty Wg C Low vals) n (Go.Conc.served cO (commResult s.cases s.shape kk z false)) w)/\
  (∃n,Goes P false (RCa ty Wg Low) (DCs (λ_=>True) Wg C') (@AtR0 I' P ty Wg C' Low kZ) n (Go.Conc.served cO (commResult s.cases s.shape kk z false)) w)
section
variable {P:Program}{a:Nat}{b:Nat}{T:Trace}
variable {P:Program}(K:Jn P)
attribute [local instance] Jn.Y
inductive WJ:Nat->Nat->Nat->Goroutine->World->Prop
 |c0 {n b w}:0<n->dW P false K.Z (λ_=>False) K.B0 K.s n b->K.Z w->WJ 0 0 n b w
 |c1 {n n' b w}:Goes P false (RCa K.ty K.Wg K.Low) (DCs (λ_=>True) K.Wg K.C) (@AtR0 K.I P K.ty K.Wg K.C K.Low K.vals) n b w->
  Goes P false (RCa K.ty K.Wg K.Low) (@DCs (λ_=>True) K.Wg K.C' K.Y') (@AtR0 K.I' P K.ty K.Wg K.C' K.Low K.kZ) n' b w->WJ 1 0 n b w
 |c2 {n b w}:Goes P false (RCa K.ty K.Wg K.Low) DC0 (AtK1 P K.ty K.Wg K.Low) n b w->WJ 2 0 n b w
 |c3 {n b w}:Goes P false (RCa K.ty K.Wg K.Low) DC0 (AtD1 P K.ty K.Wg K.Low) n b w->WJ 3 1 n b w
 |c4 {n b w}:Goes P false (RCd K.Low) DC0 (AtD2 P K.Wg K.Low) n b w->WJ 4 1 n b w
 |c5 {n b w}:Goes P false (RCd K.Low) DC0 (AtD3 P K.Wg K.Low) n b w->WJ 5 1 n b w
 |c6 {n b w}:Goes P false (RCd K.Low) DC0 (AtD4 P K.Wg) n b w->WJ 6 1 n b w
 |c7 {n d b w}:QuitsD P n d b->WJ 7 d n b w
abbrev Jn.Ra (K:Jn P):World->World->Prop:= @RPa K.I K.ty K.Wg K.C K.vals
abbrev Jn.Rb (K:Jn P):World->World->Prop:= @RPb K.I K.ty K.Wg K.C K.vals
abbrev Jn.Di (K:Jn P):World->World->Array Event->Prop:=DPi (λ_=>True) K.Wg K.C K.Low
inductive MJ:Nat->Nat->Nat->Goroutine->World->Prop
 |a1 {n a w}:Goes P true K.Ra K.Di (@AtKd K.I P K.ty K.Wg K.C K.Low K.Y K.vals (λ_=>True) K.uQ) n a w->MJ 1 0 n a w
 |a2 {n a w}:Goes P true K.Ra K.Di K.uQ n a w->MJ 2 1 n a w
 |a3 {n a w}:Goes P true K.Ra K.Di (@AtW1 K.I P K.ty K.Wg K.C K.Low K.Y K.vals (λ_=>True) K.uQ λ_ _=>True) n a w->MJ 3 1 n a w
 |a4 {n a w}:Goes P true K.Ra K.Di (@AtW2 K.I P K.ty K.Wg K.C K.Low K.Y K.vals (λ_=>True) K.uQ λ_ _=>True) n a w->MJ 4 1 n a w
 |a5 {n a w}:Goes P true K.Rb K.Di (@AtW3 K.I P K.ty K.Wg K.C K.Low K.Y K.vals (λ_=>True) λ_ _=>True) n a w->MJ 5 1 n a w
 |blk {a w}:(∀w₁,K.Rb w w₁->@AtW3 K.I P K.ty K.Wg K.C K.Low K.Y K.vals (λ_=>True) (λ_ _=>True) a w₁)->MJ 10 1 0 {a with status:=.blocked} w
 |a6 {n a w}:Goes P true AtRel K.Di (AtW4 P K.Wg K.C K.Low (λ_=>True) λ_ _=>True) n a w->MJ 6 1 n a w
 |a7 {n a w}:Goes P true AtRel K.Di (AtKe P K.Wg K.C K.Low (λ_=>True) λ_ _=>True) n a w->MJ 7 1 n a w
 |a8 {n a w}:Goes P true AtRel K.Di (AtAcq P K.Wg K.C K.Low (λ_=>True) λ_ _=>True) n a w->MJ 8 0 n a w
structure JB (gs:Array Goroutine) (w:World) (T:Trace) (q:Nat->Nat) (d0 dj:Nat) (rel:Option Nat):Prop where
 kR:K.j<gs.size
 gI:∀i g,0<i->i≠K.j->gs[i]? =some g->QuitsD P (q i) (Deaf T i) g
 above:∀i,gs.size<=i->Deaf T i=0
 e0:Deaf T 0=d0
 ej:Deaf T K.j=dj
 past:jC K.S K.Wg K.j K.Low rel T
 full: @Full K.I K.C K.vals w
 Au: @Full K.I' K.C' K.kZ w
def Jn.Ev0 (K:Jn P)(e:Event):Prop:=
 (∀b,(MemAct.ofEvent e).touch?=some b->(K.S b.loc->b.kind≠.plain)/\(OfWg K.Wg b.loc->b.kind≠.plain))/\(MemAct.ofEvent e).low K.Low/\MemAct.ofEvent e≠.mark (.release (stA K.Wg))
def Jn.EvJ (K:Jn P)(e:Event):Prop:=
 (∀b,(MemAct.ofEvent e).touch?=some b->OfWg K.Wg b.loc/\b.kind=.atomic)/\(MemAct.ofEvent e).low K.Low/\MemAct.ofEvent e≠.mark (.release (stA K.Wg))
variable {K}
def aaV {e:Event}(h:EvQ (λ_=>True) K.Wg K.C 0 e):K.Ev0 e:=by obtain⟨h1,_⟩:=h;obtain⟨_,h2,h3,h4⟩:=h1 0 "";obtain⟨h5,h6,_⟩:=K.ok _ h4;exact⟨λb hb=>⟨(h5 b hb).1,λhw=>(h5 b hb).1 (K.Jw _ hw)⟩,h6,h3⟩
def aaY {e:Event}(h:EvQ (λ_=>True) K.Wg K.C 1 e)(h': @EvQ (λ_=>True) K.Wg K.C' K.Y' 1 e):K.EvJ e/\e.loc≠.mark .disable/\e.loc≠.mark .enable:=by
 obtain⟨h1,hd,he,_⟩:=h;obtain⟨rf,_⟩:=h';obtain⟨_,h2,h3,h4⟩:=h1 0 "";obtain⟨_,kK,_⟩:=rf 0 "";obtain⟨_,h6,_⟩:=K.ok _ h4;refine⟨⟨λb hb=>?_,h6,h3⟩,hd,he⟩
 have hw:OfWg K.Wg b.loc:=by
  have f1:=(h2 b hb).1;have f2:=(kK b hb).1;rcases f1 with f1|⟨f1,_⟩|⟨_,_,f1⟩
  ·rcases f2 with f2|⟨f2,_⟩|⟨_,_,f2⟩
   ·rcases f1 with(⟨a,ha,dE⟩|f1)|⟨a,ha,dE,_⟩
    ·exact⟨a,ha,dE⟩
    ·rcases f2 with(⟨a,ha,dE⟩|f2)|⟨a,ha,dE,_⟩
     ·exact⟨a,ha,dE⟩
     ·rw[f1]at f2;exact absurd (Loc.obj.inj f2) K.FC
     ·rw[f1]at ha;cases ha
    ·rcases f2 with(⟨x,hx,Dw⟩|f2)|⟨x,hx,Dw,_⟩
     ·exact⟨x,hx,Dw⟩
     ·rw[ha]at f2;cases f2
     ·rw[ha]at hx;cases hx;exact absurd (dE.symm.trans Dw) K.FC
   ·cases f2
   ·exact absurd trivial f2
  ·cases f1
  ·exact absurd trivial f1
 refine⟨hw,?_⟩;obtain⟨a,ha,di⟩:=hw;have:=(h2 b hb).2.1 (.inl ⟨a,ha,di⟩)
 cases hk:b.kind with
 |plain=>exact absurd hk this.1
 |atomic=>rfl
 |said=>exact absurd (this.2 hk) ai
variable {gs:Array Goroutine}{w w':World}{T:Trace}{q:Nat->Nat}{d0 dj:Nat}{rel:Option Nat}
def vY {g:Nat}{fn:FuncId}{pos:String}{es:Array Event}{X:MemAct->Prop}(h:∀e∈es,X (MemAct.ofEvent e)):∀op∈MemOp.ofEvents g fn pos es,X op.act:=by intro op aS;obtain⟨e,he,rfl⟩:=Conc.mem_ofEvents aS;exact h e he
def zk {g:Nat}{fn:FuncId}{pos:String}{es:Array Event}:∀op∈MemOp.ofEvents g fn pos es,op.g=g:=by intro op aS;obtain⟨e,_,rfl⟩:=Conc.mem_ofEvents aS;rfl
def JB.main (h:JB K gs w T q d0 dj rel){a a':Goroutine}{fn:FuncId}{pos:String}{es:Array Event}{OX:Nat}(he:∀e∈es,K.Ev0 e)(hd:deafBehind d0 es=OX)(hw:∀b,b<K.Low->b≠K.Wg->w'.heap[b]? =w.heap[b]?):
 JB K (mh P gs 0 a a' w') w' (T++MemOp.ofEvents 0 fn pos es) q OX dj rel:=by
 have fp:∀i,i≠0->Deaf (T++MemOp.ofEvents 0 fn pos es) i=Deaf T i:=λi hi=>Deaf_other T (λx=>hi x.symm) _ zk;refine⟨by rw[iz];exact h.kR,λi x h1 h2 hx=>?_,λi hi=>?_,by rw[Deaf_own,h.e0,hd],by rw[fp _ (by have:=K.hj;omega),h.ej],?_,λhc=>(hw _ K.hC K.wV).trans (h.full hc),λhc=>(hw _ K.wT K.Jl).trans (h.Au hc)⟩
 ·obtain⟨z,hz,rfl⟩:=vT aa hx;have hq:=h.gI i z h1 h2 hz;rw[woken_quitsD hq,fp i aa];exact hq
 ·rw[iz]at hi;have:=h.kR;rw[fp i aa];exact h.above i hi
 ·exact h.past.app0 zk (vY (X:=λact=>∀b,act.touch?=some b->(K.S b.loc->b.kind≠.plain)/\(OfWg K.Wg b.loc->b.kind≠.plain)) λe x=>(he e x).1) (vY (X:=λact=>act.low K.Low) λe x=>(he e x).2.1) (vY (X:=λact=>act≠.mark (.release (stA K.Wg))) λe x=>(he e x).2.2)
def JB.work (h:JB K gs w T q d0 dj rel){b b':Goroutine}{fn:FuncId}{pos:String}{es:Array Event}{O5:Nat}{zu:Option Nat}(hd:deafBehind dj es=O5)(hw:∀b,b<K.Low->b≠K.Wg->w'.heap[b]? =w.heap[b]?)
 (hp:jC K.S K.Wg K.j K.Low zu (T++MemOp.ofEvents K.j fn pos es)):JB K (mh P gs K.j b b' w') w' (T++MemOp.ofEvents K.j fn pos es) q d0 O5 zu:=by
 have fp:∀i,i≠K.j->Deaf (T++MemOp.ofEvents K.j fn pos es) i=Deaf T i:=λi hi=>Deaf_other T (λx=>hi x.symm) _ zk;refine⟨by rw[iz];exact h.kR,λi x h1 h2 hx=>?_,λi hi=>?_,by rw[fp 0 (by have:=K.hj;omega),h.e0],by rw[Deaf_own,h.ej,hd],hp,λhc=>(hw _ K.hC K.wV).trans (h.full hc),λhc=>(hw _ K.wT K.Jl).trans (h.Au hc)⟩
 ·obtain⟨z,hz,rfl⟩:=vT h2 hx;have hq:=h.gI i z h1 h2 hz;rw[woken_quitsD hq,fp i h2];exact hq
 ·rw[iz]at hi;have:=h.kR;rw[fp i aa];exact h.above i hi
def JB.at (h:JB K gs w T q d0 dj rel)(d:Nat):JB K gs (w.at d) T q d0 dj rel:=⟨h.kR,h.gI,h.above,h.e0,h.ej,h.past,h.full,h.Au⟩
def JB.Cg (h:JB K gs w T q d0 1 rel){fn:FuncId}{pos:String}{es:Array Event}(he:∀e∈es,K.EvJ e)(hd:∀j e,es[j]? =some e->(MemAct.ofEvent e).touch?=none\/0<deafBehind 1 (es.extract 0 j)):jC K.S K.Wg K.j K.Low rel (T++MemOp.ofEvents K.j fn pos es):=by
 refine h.past.appJ zk (vY (X:=λact=>∀b,act.touch?=some b->OfWg K.Wg b.loc/\b.kind=.atomic) λe x=>(he e x).1) (.inr ⟨K.Jw,λk hk hc=>?_⟩) (vY (X:=λact=>act.low K.Low) λe x=>(he e x).2.1) (vY (X:=λact=>act≠.mark (.release (stA K.Wg))) λe x=>(he e x).2.2);obtain⟨x,hx,hm,nP⟩:=hc;obtain⟨op,aS,Ru⟩:=touch_of (show touchAt _ k=some x from hx);rw[Array.getElem?_append_right hk,ofEvents_eq,Array.getElem?_map]at aS;obtain⟨e,FT,rfl⟩:=Option.map_eq_some_iff.1 aS;have hks:k-T.size<es.size:=(Array.getElem?_eq_some_iff.1 FT).1;rcases hd (k-T.size) e FT with h0|h0
 ·have:(MemAct.ofEvent e).touch?=some x:=Ru;rw[h0]at this;cases this
 ·rcases nP with nP|⟨g,hg,hg0⟩
  ·exact nP ((he e (Array.mem_of_getElem? FT)).1 x Ru).2
  ·have e1:(T++MemOp.ofEvents K.j fn pos es).g? k=some K.j:=by unfold Trace.g?;rw[Array.getElem?_append_right hk,ofEvents_eq,Array.getElem?_map,FT];rfl
   rw[hg]at e1
   cases e1
   have:=deaf_inside T K.j fn pos es (k-T.size) aa;rw[show T.size+(k-T.size)=k by omega,hg0,h.ej]at this;omega
end
section
attribute [local instance] Jn.Y
def WW(K:Jn P)(mt ct:Nat)(w:World):Prop:=
 (mt<=4/\ct<=3/\WgAt K.ty K.Wg w KK 0)\/((mt=5\/mt=10)/\ct<=3/\WgAt K.ty K.Wg w (KK+1) 0)\/((mt=5\/mt=10)/\(ct=4\/ct=5)/\WgAt K.ty K.Wg w 1 0)\/
  ((mt=5\/mt=10)/\ct=6/\WgAt K.ty K.Wg w 0 0)\/(mt=5/\ct=7/\WgAt K.ty K.Wg w 0 1)\/((mt<=4\/(6<=mt/\mt<=8))/\ct=7/\WgAt K.ty K.Wg w 0 0)
def rk(ct mt:Nat):Nat:=
 if ct=7 then(if mt=5 then 20 else if mt=4 then 9 else if mt=3 then 7 else if mt=2 then 8 else if mt=1 then 10 else if mt=6 then 6 else if mt=7 then 5 else 4)
 else 20-mt
variable {K:Jn P}
def xT:∀x y z,RCa K.ty K.Wg K.Low x y->RCa K.ty K.Wg K.Low y z->RCa K.ty K.Wg K.Low x z:=λ_ _ _ h h'=>h.trans h'
def MH:∀x y z,RCd K.Low x y->RCd K.Low y z->RCd K.Low x z:=λ_ _ _ h h'=>h.trans h'
variable {w w':World}{ct cd cn:Nat}{b:Goroutine}
def WJ.low(h:WJ K ct cd cn b w)(hl:∀x,x<K.Low->w'.heap[x]? =w.heap[x]?):WJ K ct cd cn b w':=by
 have ha:RCa K.ty K.Wg K.Low w w':=RCd.toA K.hW hl
 cases h with
 |c0 h1 h2 h3=>exact .c0 h1 h2 (K.hZ w w' (λx hx _=>hl x hx) h3)
 |c1 h1 h2=>exact .c1 (Goes.rely xT h1 ha) (Goes.rely xT h2 ha)
 |c2 h1=>exact .c2 (Goes.rely xT h1 ha)
 |c3 h1=>exact .c3 (Goes.rely xT h1 ha)
 |c4 h1=>exact .c4 (Goes.rely MH h1 hl)
 |c5 h1=>exact .c5 (Goes.rely MH h1 hl)
 |c6 h1=>exact .c6 (Goes.rely MH h1 hl)
 |c7 h1=>exact .c7 h1
def WJ.ka(h:WJ K ct cd cn b w)(hl:∀x,x<K.Low->x≠K.Wg->w'.heap[x]? =w.heap[x]?)(hk:KCa K.ty K.Wg w->KCa K.ty K.Wg w')(hc:ct<=3\/ct=7):WJ K ct cd cn b w':=by
 have ha:RCa K.ty K.Wg K.Low w w':=⟨hl,hk⟩
 cases h with
 |c0 h1 h2 h3=>exact .c0 h1 h2 (K.hZ w w' hl h3)
 |c1 h1 h2=>exact .c1 (Goes.rely xT h1 ha) (Goes.rely xT h2 ha)
 |c2 h1=>exact .c2 (Goes.rely xT h1 ha)
 |c3 h1=>exact .c3 (Goes.rely xT h1 ha)
 |c4 h1=>omega
 |c5 h1=>omega
 |c6 h1=>omega
 |c7 h1=>exact .c7 h1
def WJ.status (h:WJ K ct cd cn b w)(h1:KCa K.ty K.Wg w\/4<=ct):b.status=.running\/(b.status=.finished/\ct=7):=by
 cases h with
 |c0 h1 h2 h3=>exact .inl ((dW.status h2).elim (·.1) (λz=>aa))
 |c1 h1 h2=>exact .inl (h1.running (λ_ _ x=>x.1) w (RCa.refl w))
 |c2 h1=>exact .inl (h1.running (λ_ _ x=>x.1) w (RCa.refl w))
 |c3 h1=>exact .inl (h1.running (λ_ _ x=>x.1) w (RCa.refl w))
 |c4 h1=>exact .inl (h1.running (λ_ _ x=>x.1) w (RCd.refl w))
 |c5 h1=>exact .inl (h1.running (λ_ _ x=>x.1) w (RCd.refl w))
 |c6 h1=>exact .inl (h1.running (λ_ _ x=>x.1) w (RCd.refl w))
 |c7 h1=>exact h1.status.imp id (λx=>⟨x,rfl⟩)
def uB(w:World)(o:Nat)(v:Value):∀x,x<K.Low->x≠K.Wg->(w.setCell ⟨K.Wg,o,none⟩ v).heap[x]? =w.heap[x]? :=by intro x _ hx;simp only[World.setCell,Array.getElem?_modify];rw[if_neg (λe=>hx e.symm)]
def I7{I:Payload}{C:Nat}{vals:List Value}(h: @Full I C vals w)(e:w'.heap[C]? =w.heap[C]?): @Full I C vals w':=λhc=>e.trans (h hc)
def E4(K:Jn P)(mt md mn ct cd cn:Nat)(b:Goroutine)(w:World)(a':Goroutine)(w':World)(es:Array Event):Prop:=
 (∀e∈es,K.Ev0 e)/\(∀x,x<K.Low->x≠K.Wg->w'.heap[x]? =w.heap[x]?)/\WJ K ct cd cn b w'/\∃j0 oV,MJ K j0 (deafBehind md es) oV a' w'/\WW K j0 ct w'/\(rk ct j0<rk ct mt\/(rk ct j0=rk ct mt/\oV<mn))
def Ft{m:Mark}(h1:(MemAct.mark m).low K.Low)(h2:∀x,(MemAct.mark m).touch?≠some x)(h3:m≠.release (stA K.Wg)):K.Ev0 (mk m):=by refine⟨λb hb=>absurd hb (h2 b),h1,λe=>?_⟩;injection e with e;exact h3 e
def Ar(a:Addr)(ha:a.block=K.Wg)(x:Bool):K.Ev0 ⟨.cell a,x,true⟩:=by
 refine⟨λb hb=>?_,?_,?_⟩
 ·cases x<;>simp[MemAct.ofEvent,MemAct.touch?]at hb<;>subst hb<;>exact⟨λ_=>al,λ_=>al⟩
 ·cases x<;>(show a.block<K.Low;rw[ha];exact K.hW)
 ·cases x<;>simp[MemAct.ofEvent]
def aaW:∀e∈semEvents (smA K.Wg),K.Ev0 e:=by
 intro e he;simp[semEvents]at he;rcases he with rfl|rfl|rfl|rfl
 ·exact Ft (m:=.disable) trivial (by simp[MemAct.touch?]) al
 ·exact Ar _ rfl _
 ·exact Ar _ rfl _
 ·exact Ft (m:=.enable) trivial (by simp[MemAct.touch?]) al
variable {mt md mn:Nat}{a:Goroutine}{n:Nat}
def inner{R:World->World->Prop}{Stop:Goroutine->World->Prop}(hc:WJ K ct cd cn b w)(hw:WW K mt ct w)(mk:∀{n a w},Goes P true R K.Di Stop n a w->MJ K mt md n a w){a':Goroutine}{es:Array Event}(hD:K.Di w w' es)(hg:Goes P true R K.Di Stop n a' w')(hn:n<mn):
 E4 K mt md mn ct cd cn b w a' w' es:=by
 obtain⟨hl,he⟩:=hD;refine⟨λe h=>aaV (he e h),λx hx _=>hl x hx,hc.low hl,mt,n,?_,?_,.inr ⟨rfl,hn⟩⟩
 ·rw[deafBehind_still (λe h=>⟨(he e h).2.1,(he e h).2.2.1⟩)];exact mk hg
 ·have e:=hl K.Wg K.hW;simp only[WW,WgAt,e];exact hw
def MJ.UC(hc:WJ K ct cd cn b w)(hw:WW K mt ct w)(hf: @Full K.I K.C K.vals w)(yW:mt=3\/mt=2)(hmd:md=1)(hn:n<=mn\/mt=2)(h:Goes P true K.Ra K.Di (@AtW1 K.I P K.ty K.Wg K.C K.Low K.Y K.vals (λ_=>True) K.uQ λ_ _=>True) n a w):
 ∃a' w' es,stepG P true a w=.go a' w' es/\E4 K mt md mn ct cd cn b w a' w' es:=by
 letI:=K.I
 subst hmd;rcases Goes.cases h with gU|⟨n',rfl,gz⟩
 ·obtain⟨_,a',hgo,h1,h2⟩:=gU w (RPa.refl w);refine⟨a',w,_,hgo,λe he=>?_,λ_ _ _=>rfl,hc,?_⟩
  ·simp at he;subst he;exact Ar _ rfl _
  ·rcases hw with⟨_,fK,hw⟩|⟨x,_⟩|⟨x,_⟩|⟨x,_⟩|⟨x,_⟩|⟨_,fK,hw⟩
   ·obtain⟨m,hm⟩:=h1 hw;exact⟨4,m,.a4 hm,.inl ⟨aa,fK,hw⟩,.inl (by unfold rk;rw[if_neg aa,if_neg aa];omega)⟩
   ·omega
   ·omega
   ·omega
   ·omega
   ·obtain⟨m,hm⟩:=h2 ⟨hw,hf⟩;subst fK;exact⟨7,m,.a7 hm,.inr (.inr (.inr (.inr (.inr ⟨.inr ⟨aa,aa⟩,rfl,hw⟩)))),.inl (by rcases yW with rfl|rfl<;>decide)⟩
 ·obtain⟨a',w',es,hgo,hD,eX⟩:=gz w (RPa.refl w);refine⟨a',w',es,hgo,?_⟩;rcases yW with rfl|rfl
  ·exact inner hc hw .a3 hD eX aa
  ·have hw3:WW K 3 ct w:=by
    rcases hw with⟨_,fK,hw⟩|⟨x,_⟩|⟨x,_⟩|⟨x,_⟩|⟨x,_⟩|⟨_,fK,hw⟩
    ·exact .inl ⟨aa,fK,hw⟩
    ·omega
    ·omega
    ·omega
    ·omega
    ·exact .inr (.inr (.inr (.inr (.inr ⟨.inl aa,fK,hw⟩))))
   obtain⟨o1,o2,o3,j0,oV,o4,o5,o6⟩:=inner (mn:=n'+1) (md:=1) hc hw3 .a3 hD eX aa;refine⟨o1,o2,o3,j0,oV,o4,o5,.inl ?_⟩;have:rk ct 3<rk ct 2:=by unfold rk;split<;>simp
   omega
def MJ.step(h:MJ K mt md mn a w)(hm:mt≠10)(hc:WJ K ct cd cn b w)(hw:WW K mt ct w)(hf: @Full K.I K.C K.vals w):
 (∃a' w' es,stepG P true a w=.go a' w' es/\E4 K mt md mn ct cd cn b w a' w' es)\/
  (ct=7/\md=0/\∃a',stepG P true a w=.go a' w #[mk (.acquire (stA K.Wg))]/\∃m,Goes P true AtRel (DPj (λ_=>True) K.Wg K.C K.Low) (AtRetJ P K.Wg K.C (λ_=>True) λ_ _=>True) m a' w):=by
 letI:=K.I
 cases h with
 |blk _=>exact absurd rfl hm
 |a1 h=>
  left;rcases Goes.cases h with gU|⟨n',rfl,gz⟩
  ·obtain⟨_,a',hgo,m,hg⟩:=gU w (RPa.refl w);refine⟨a',w,_,hgo,λe he=>?_,λ_ _ _=>rfl,hc,2,m,.a2 hg,?_,.inl (by unfold rk;split<;>simp)⟩
   ·simp at he;subst he;exact Ft (m:=.disable) trivial (by simp[MemAct.touch?]) al
   ·rcases hw with⟨_,fK,hw⟩|⟨x,_⟩|⟨x,_⟩|⟨x,_⟩|⟨x,_⟩|⟨_,fK,hw⟩
    ·exact .inl ⟨aa,fK,hw⟩
    ·omega
    ·omega
    ·omega
    ·omega
    ·exact .inr (.inr (.inr (.inr (.inr ⟨.inl aa,fK,hw⟩))))
  ·obtain⟨a',w',es,hgo,hD,eX⟩:=gz w (RPa.refl w);exact⟨a',w',es,hgo,inner hc hw .a1 hD eX aa⟩
 |a2 h=>
  left;rcases Goes.cases h with gU|⟨n',rfl,gz⟩
  ·obtain⟨m,rp⟩:=K.P9 a w (gU w (RPa.refl w));exact MJ.UC hc hw hf (.inr rfl) rfl (.inr rfl) rp
  ·obtain⟨a',w',es,hgo,hD,eX⟩:=gz w (RPa.refl w);exact⟨a',w',es,hgo,inner hc hw .a2 hD eX aa⟩
 |a3 h=>exact .inl (MJ.UC hc hw hf (.inl rfl) rfl (.inl (Nat.le_refl _)) h)
 |a4 h=>
  left;rcases Goes.cases h with gU|⟨n',rfl,gz⟩
  ·obtain⟨_,h1,h2⟩:=gU w (RPa.refl w);rcases hw with⟨_,fK,hw⟩|⟨x,_⟩|⟨x,_⟩|⟨x,_⟩|⟨x,_⟩|⟨_,fK,hw⟩
   ·obtain⟨a',hgo,m,hg⟩:=h1 hw;refine⟨a',_,_,hgo,λe he=>?_,uB w 0 _,hc.ka (uB w 0 _) (λ_=>.inr (hw.setSt _)) (.inl fK),5,m,.a5 hg,.inr (.inl ⟨.inl rfl,fK,hw.setSt _⟩),.inl (by unfold rk;rw[if_neg aa,if_neg aa];omega)⟩;simp at he;rcases he with rfl|rfl<;>exact Ar _ rfl _
   ·omega
   ·omega
   ·omega
   ·omega
   ·obtain⟨a',hgo,m,hg⟩:=h2 ⟨hw,hf⟩;refine⟨a',w,_,hgo,λe he=>?_,λ_ _ _=>rfl,hc,2,m,.a2 hg,.inr (.inr (.inr (.inr (.inr ⟨.inl aa,fK,hw⟩)))),.inl (by subst fK;decide)⟩;simp at he;subst he;exact Ar _ rfl _
  ·obtain⟨a',w',es,hgo,hD,eX⟩:=gz w (RPa.refl w);exact⟨a',w',es,hgo,inner hc hw .a4 hD eX aa⟩
 |a5 h=>
  left;rcases Goes.cases h with gU|⟨n',rfl,gz⟩
  ·obtain⟨_,_,h1,h2⟩:=gU w (RPb.refl w)
   have blk:(∃st,WgAt K.ty K.Wg w st 0)->WW K 10 ct w->ct≠7->∃a' w' es,stepG P true a w=.go a' w' es/\E4 K 5 1 mn ct cd cn b w a' w' es:=λbw jg h7=>
    ⟨_,w,_,h1 bw,λe he=>by simp at he,λ_ _ _=>rfl,hc,10,0,.blk gU,jg,.inl (by unfold rk;rw[if_neg h7,if_neg h7];omega)⟩
   rcases hw with⟨x,_⟩|⟨_,fK,hw⟩|⟨_,fK,hw⟩|⟨_,fK,hw⟩|⟨_,fK,hw⟩|⟨x,_⟩
   ·omega
   ·exact blk ⟨_,hw⟩ (.inr (.inl ⟨.inr rfl,fK,hw⟩)) aa
   ·exact blk ⟨_,hw⟩ (.inr (.inr (.inl ⟨.inr rfl,fK,hw⟩))) aa
   ·exact blk ⟨_,hw⟩ (.inr (.inr (.inr (.inl ⟨.inr rfl,fK,hw⟩)))) aa
   ·obtain⟨a',hgo,m,hg⟩:=h2 ⟨hw,hf⟩;refine⟨a',_,_,hgo,aaW,uB w 1 _,hc.ka (uB w 1 _) ?_ (.inr fK),6,m,.a6 hg,.inr (.inr (.inr (.inr (.inr ⟨.inr ⟨aa,aa⟩,fK,hw.setSm _⟩)))),.inl (by subst fK;decide)⟩;rintro(x|x)
    ·have:=(x.unique hw).1;exact absurd this ai
    ·have:=(x.unique hw).1;exact absurd this ai
   ·omega
  ·obtain⟨a',w',es,hgo,hD,eX⟩:=gz w (RPb.refl w);exact⟨a',w',es,hgo,inner hc hw .a5 hD eX aa⟩
 |a6 h=>
  left;rcases Goes.cases h with gU|⟨n',rfl,gz⟩
  ·obtain⟨_,a',hgo,m,hg⟩:=gU w (atRel_refl w);rcases hw with⟨x,_⟩|⟨x,_⟩|⟨x,_⟩|⟨x,_⟩|⟨x,_⟩|⟨_,fK,hw⟩<;>first|omega|skip
   refine⟨a',w,_,hgo,λe he=>?_,λ_ _ _=>rfl,hc,7,m,.a7 hg,.inr (.inr (.inr (.inr (.inr ⟨.inr ⟨aa,aa⟩,fK,hw⟩)))),.inl (by subst fK;decide)⟩;simp at he;subst he;exact Ar _ rfl _
  ·obtain⟨a',w',es,hgo,hD,eX⟩:=gz w (atRel_refl w);exact⟨a',w',es,hgo,inner hc hw .a6 hD eX aa⟩
 |a7 h=>
  left;rcases Goes.cases h with gU|⟨n',rfl,gz⟩
  ·obtain⟨_,a',hgo,m,hg⟩:=gU w (atRel_refl w);rcases hw with⟨x,_⟩|⟨x,_⟩|⟨x,_⟩|⟨x,_⟩|⟨x,_⟩|⟨_,fK,hw⟩<;>first|omega|skip
   refine⟨a',w,_,hgo,λe he=>?_,λ_ _ _=>rfl,hc,8,m,.a8 hg,.inr (.inr (.inr (.inr (.inr ⟨.inr ⟨aa,aa⟩,fK,hw⟩)))),.inl (by subst fK;decide)⟩;simp at he;subst he;exact Ft (m:=.enable) trivial (by simp[MemAct.touch?]) al
  ·obtain⟨a',w',es,hgo,hD,eX⟩:=gz w (atRel_refl w);exact⟨a',w',es,hgo,inner hc hw .a7 hD eX aa⟩
 |a8 h=>
  rcases Goes.cases h with gU|⟨n',rfl,gz⟩
  ·obtain⟨_,a',hgo,m,hg⟩:=gU w (atRel_refl w);rcases hw with⟨x,_⟩|⟨x,_⟩|⟨x,_⟩|⟨x,_⟩|⟨x,_⟩|⟨_,fK,hw⟩<;>first|omega|skip
   exact .inr ⟨fK,rfl,a',hgo,m,hg⟩
  ·obtain⟨a',w',es,hgo,hD,eX⟩:=gz w (atRel_refl w);exact .inl ⟨a',w',es,hgo,inner hc hw .a8 hD eX aa⟩
end
end
end Go.Qw
