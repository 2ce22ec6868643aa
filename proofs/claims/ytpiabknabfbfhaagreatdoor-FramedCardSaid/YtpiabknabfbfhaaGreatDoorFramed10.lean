/- 10 -/
import Derived.Conc.FxEnd
import Derived.Conc.FxBegin
import Derived.Test.YtpiabknabfbfhaaGreatDoorFramed09
set_option linter.all false
set_option maxRecDepth 100000
set_option maxHeartbeats 8000000
namespace Go.Qw
open Go Go.Conc
variable {a b:Nat}
def dN.stay{S Still BV Q:Loc->Prop}{jw B:Nat}{t u:Trace}(H:dN S Still Q jw a B (Knows t b) t)(xb:∀l,BV l->Still l)(hn:∀op∈u,op.act.touch?=none)(hl:∀op∈u,op.act.low B)(he:∀i,Knows t a i->Knows (t++u) b i):dN S BV Q jw a B (Knows (t++u) b) (t++u):=by
 refine⟨λsaid=>noRace_appendMute (H.clean said) hn,λi R ha hm=>?_,λi R ha hw hS=>?_,λi R ha hq=>?_,seen_app H.seen hl⟩
 ·obtain⟨x,hx,bH⟩:=touch_of ha;rcases getElem?_append_cases hx with⟨hi,cY⟩|⟨_,dx⟩
  ·rcases H.known i R (by rw[touchAt_of cY];exact bH) hm with y|⟨y,z,v⟩|⟨y,z,v⟩
   ·exact .inl (y.app u)
   ·exact .inr (.inl ⟨y,z,λc=>v ((counts_old hi).1 c)⟩)
   ·have:=knows_own cY;have e:x.g=a:=by have:=g?_of cY;rw[y]at this;exact(Option.some.inj this).symm
    exact .inl (he i (e▸this))
  ·rw[hn x dx]at bH;cases bH
 ·obtain⟨x,hx,bH⟩:=touch_of ha;rcases getElem?_append_cases hx with⟨hi,cY⟩|⟨_,dx⟩
  ·exact(H.wrote i R (by rw[touchAt_of cY];exact bH) hw (xb _ hS)).app u
  ·rw[hn x dx]at bH;cases bH
 ·obtain⟨x,hx,bH⟩:=touch_of ha;rcases getElem?_append_cases hx with⟨_,cY⟩|⟨_,dx⟩
  ·exact(H.pure i R (by rw[touchAt_of cY];exact bH) hq).imp id (·.app u)
  ·rw[hn x dx]at bH;cases bH
variable {h c:Nat}
def SJ{j:Nat}{fh:FuncId}{ph:String}{fj:FuncId}{pj:String}{k cap B:Nat}(hc:c<B):∀op∈met h j fh ph fj pj c k cap,op.act.low B:=by intro op aR;simp only[met,List.mem_toArray,List.mem_cons,List.not_mem_nil,or_false]at aR;rcases aR with rfl|rfl|rfl|rfl<;>exact hc
structure Duo.Next {P:Program} (D D':Duo P):Prop where
 w:D'.W=D.W
 j:D'.j=D.j
 chans:D'.chans=D.chans
 s:D'.S=D.S
 q:D'.Q=D.Q
 b:D'.B=D.B
 k:∀w,D.K w->D'.K w
 gV:∀b,D'.Hid b->D.Hid b
variable {P:Program}{D D':Duo P}{T:Trace}
def Duo.Next.base(n:D.Next D'){gs:Array Goroutine}{w:World}{q:Nat->Nat}(b:D.Base gs w T q):D'.Base gs w T q:=
 ⟨by rw[n.j];exact b.kZ,by rw[n.j];exact b.gK,b.above,b.d0,by rw[n.j];exact b.dj,n.k w b.k,by rw[n.chans];exact b.chans,by rw[n.b];exact b.mF,by rw[n.w];exact b.rp,by rw[n.q];exact b.nr⟩
def Duo.Next.refl(D:Duo P):D.Next D:=⟨rfl,rfl,rfl,rfl,rfl,rfl,λ_ h=>h,λ_ h=>h⟩
variable {sa sb s':Seat}{kk:Nat}{v:Value}{U:Hp}{m:Machine}
def Duo.yk.pass (hm:D.yk a b a b sa sb c kk v U m T)(n:D.Next D')(ha:∀ga,sa.home ga->∃k,dY P (a==0) D'.KW D'.Still D'.B s' k (Go.Conc.served ga undef)):
 ∃gb,sb.home gb/\D'.St b a s' (Go.Conc.served gb (commResult sb.cases sb.shape kk v true)) U m T:=by
 obtain⟨ck,w',bG,q',ga,gb,J',k,fh,ph,fj,pj,T1,rfl,h1,h2,h3,h4,h5,h6,h7,h8,rfl,h9,bE,bO⟩:=hm;obtain⟨k',dZ⟩:=ha ga h2;refine⟨gb,h4,ck,w',bG,q',J',k',_,rfl,h3,h1,dZ,n.base h5,?_,h6,λx hx=>h7 x (n.gV x hx)⟩;rw[n.s,n.q,n.j];refine h9.pass (λl hl=>?_) (met_mute _ _ _ _ _ _ _ _ _) (SJ h8) (λi hi=>Sh bE bO _ _ _ _ _ _ _ hi);obtain⟨x,rfl⟩:=D'.cell l (.inr (.inl hl));exact⟨rfl,by rw[<-n.s];exact(D'.apart _ hl).1⟩
def Duo.yk.stay (hm:D.yk a b b a sa sb c kk v U m T)(n:D.Next D')(hS:∀l,D'.Still l->D.Still l)(ha:∀ga,sa.home ga->∃k,dY P (a==0) D'.KW D'.Still D'.B s' k (Go.Conc.served ga undef)):
 ∃gb,sb.home gb/\D'.St b a s' (Go.Conc.served gb (commResult sb.cases sb.shape kk v true)) U m T:=by
 obtain⟨ck,w',bG,q',ga,gb,J',k,fh,ph,fj,pj,T1,rfl,h1,h2,h3,h4,h5,h6,h7,h8,rfl,h9,bE,bO⟩:=hm;obtain⟨k',dZ⟩:=ha ga h2;refine⟨gb,h4,ck,w',bG,q',J',k',_,rfl,h3,h1,dZ,n.base h5,?_,h6,λx hx=>h7 x (n.gV x hx)⟩;rw[n.s,n.q,n.j];exact h9.stay hS (met_mute _ _ _ _ _ _ _ _ _) (SJ h8) (λi hi=>Sh bE bO _ _ _ _ _ _ _ hi)
def Duo.env(D:Duo P)(hD:D.Deep){x:Nat}(t:D.gf h x){s:Seat}(hs:D.Fits s):Env P where
 main:=h==0
 st:=D.St h x s
 iD:=by rintro g U R m T ⟨gs,w,sl,q,J,n,y,e0,e1,e2,e3,e4,e5,e6,e7⟩ hle;exact⟨gs,w,sl,q,J,n,y,e0,e1,e2,e3,e4,e5,e6.iD hle,e7⟩
 own:=λg U m T X mL hr hX=>D.run t hs mL hr (gQ.acy hD hX)
section
open Go.ConcN (sumTo upd sumTo_upd upd_ne upd_same)
structure Lone (P:Program) (S Q:Loc->Prop) (B:Nat) (gs:Array Goroutine) (w:World) (T:Trace) (q:Nat->Nat) (d:Nat):Prop where
 pos:0<gs.size
 gK:∀i g,0<i->gs[i]? =some g->QuitsD P (q i) (Deaf T i) g
 above:∀i,gs.size<=i->Deaf T i=0
 d0:Deaf T 0=d
 past:dN S (λ_=>False) (λ_=>False) 0 0 B (Knows T 0) T
 nr:pF Q T
def E3(S:Loc->Prop)(n:Nat)(e:Event):Prop:=(∀b,(MemAct.ofEvent e).touch?=some b->S b.loc->b.kind≠.plain)/\(MemAct.ofEvent e).low n/\∀a,e.loc≠.mark (.release a)
section
variable {P:Program}{D:Duo P}{a:Nat}{b:Nat}{c:Nat}{U:Hp}{T:Trace}
variable {P:Program}{S Q:Loc->Prop}{B:Nat}{gs:Array Goroutine}{w w':World}{T:Trace}{q:Nat->Nat}{d:Nat}
def Lone.leave (h:Lone P S Q B gs w T q d){i:Nat}(h1:0<i){g:Goroutine}(hg:gs[i]? =some g)(hr:g.status=.running)(dd:Nat)(bG:Option (Nat×Nat)):
 ∃g' es q',runT P (crowd gs (w.at dd) bG) i=(.next (crowd (mo P gs i g g' (w.at dd)) (w.at dd) bG),MemOp.ofEvents i g.frame.fn g.frame.place es)/\sumTo gs.size q'<sumTo gs.size q/\Lone P S Q B (mo P gs i g g' (w.at dd)) (w.at dd) (T++MemOp.ofEvents i g.frame.fn g.frame.place es) q' d:=by
 have hq:=h.gK i g h1 hg;have qE:(i==0)=false:=by simp;omega
 have aZ:i<gs.size:=(Array.getElem?_eq_some_iff.1 hg).1
 cases mW:q i with
 |zero=>rw[mW]at hq;rw[hq.1]at hr;cases hr
 |succ k=>
  rw[mW]at hq;rcases hq with⟨hf,_⟩|⟨_,g',es,hm,lO,bu⟩
  ·rw[hf]at hr;cases hr
  have eH:=runT_crowd_go (P:=P) (sl:=bG) (i:=i) hg (by rw[qE];exact lO (w.at dd))
  have KF:sumTo gs.size (upd q i k)+(k+1)=sumTo gs.size q+k:=by have:=sumTo_upd q k id aZ;simpa[mW]using this
  have fw:∀k,k≠i->Deaf (T++MemOp.ofEvents i g.frame.fn g.frame.place es) k=Deaf T k:=λk e=>Deaf_other T (λx=>e x.symm) _ (λop aR=>by obtain⟨e,_,rfl⟩:=Conc.mem_ofEvents aR;rfl);refine⟨g',es,upd q i k,eH,aa,by rw[iB];exact h.pos,λc x c1 hx=>?_,λc hc=>?_,(fw 0 aa).trans h.d0,?_,h.nr.events λe he=>LM (hm e he)⟩
  ·by_cases e:c=i
   ·subst e;rw[rS aZ]at hx;obtain rfl:=Option.some.inj hx;rw[upd_same,Deaf_own];exact bu
   ·obtain⟨z,hz,rfl⟩:=vY e hx;have oY:=h.gK c z c1 hz;rw[woken_quitsD oY,upd_ne q k e,fw c e];exact oY
  ·rw[iB]at hc;rw[fw c aa];exact h.above c hc
  ·exact h.past.appMute (λ_ x=>x.app _) (λop aR=>by obtain⟨e,he,rfl⟩:=Conc.mem_ofEvents aR;exact touch_mute (hm e he)) (λop aR=>by obtain⟨e,he,rfl⟩:=Conc.mem_ofEvents aR;exact low_mute (hm e he) _)
def Lone.awake (h:Lone P S Q B gs w T q d){a:Goroutine}(ha:gs[0]? =some a)(hr:a.status=.running):∀z∈gs,awake z:=by
 intro z hz;obtain⟨i,hi,rfl⟩:=Array.mem_iff_getElem.1 hz;by_cases e:i=0
 ·subst e;have:gs[0]=a:=by simpa[Array.getElem?_eq_getElem hi]using ha
  rw[this];exact awake_of (.inl hr)
 ·exact awake_of ((h.gK i _ aa (Array.getElem?_eq_getElem hi)).status.elim .inl λx=>.inr (.inr x))
def Lone.picked (h:Lone P S Q B gs w T q d){a:Goroutine}(ha:gs[0]? =some a)(hr:a.status=.running)(sl:Option (Nat×Nat)):
 ∃N ck dd bG uQ T' q',runNT P N (crowd gs w sl) T=(.next (crowd ck (w.at dd) bG),T')/\ck.size=gs.size/\ck[0]? =some a/\Lone P S Q B ck (w.at dd) T' q' d/\∃pJ,stepT P (crowd ck (w.at dd) bG)=runT P (crowd ck (w.at pJ) uQ) 0:=by
 generalize hM:sumTo gs.size q=M
 induction M using Nat.strongRecOn generalizing gs w sl T q with
 |_ M ih=>
  obtain⟨i,z,dd,bG,hi,hz,bt⟩:=crowd_pick (P:=P) (w:=w) (sl:=sl) (h.awake ha hr) ⟨0,a,ha,hr⟩;by_cases e:i=0
  ·subst e;exact⟨0,gs,w.drawn,sl,bG,T,q,rfl,rfl,ha,h,dd,bt⟩
  ·obtain⟨g',es,q',eH,aZ,h'⟩:=h.leave aa hi hz dd bG;obtain⟨N,ck,pJ,s1,s2,T',q'',eX,jS,de,fI,hx⟩:=ih _ (by rw[<-hM];rw[iB];exact aZ) h' (qO (λe'=>e e'.symm) ha (again_of_running (.inl hr) _) _ _) bG rfl;exact⟨N+1,ck,pJ,s1,s2,T',q'',by simp only[runNT,bt,eH];exact eX,jS.trans (iB _ _ _),de,fI,hx⟩
def Lone.go (h:Lone P S Q B gs w T q d){a:Goroutine}(ha:gs[0]? =some a)(hr:a.status=.running)(sl:Option (Nat×Nat)){X:Goroutine->World->Array Event->Prop}
 (hs:∀dd,∃a' w' es,stepG P true a (w.at dd)=.go a' w' es/\(∀e∈es,E3 S B e)/\X a' w' es):
 ∃N ck a' w' bG T' q' es,runNT P N (crowd gs w sl) T=(.next (crowd ck w' bG),T')/\ck.size=gs.size/\ck[0]? =some a'/\X a' w' es/\Lone P S Q B ck w' T' q' (deafBehind d es):=by
 obtain⟨N,ck,dd,bG,uQ,T',q',eX,jS,de,fI,pJ,hx⟩:=h.picked ha hr sl;obtain⟨a',w',es,hgo,ki,hX⟩:=hs pJ;have eH:=runT_crowd_go (P:=P) (sl:=uQ) (i:=0) de (show stepG P (0==0) a (w.at pJ)=_ from hgo);have fw:∀i,i≠0->Deaf (T'++MemOp.ofEvents 0 a.frame.fn a.frame.place es) i=Deaf T' i:=λi hi=>Deaf_other T' (λx=>hi x.symm) _ (λop aR=>by obtain⟨e,_,rfl⟩:=Conc.mem_ofEvents aR;rfl);refine⟨N+1,mo P ck 0 a a' w',a',w',uQ,T'++MemOp.ofEvents 0 a.frame.fn a.frame.place es,q',es,?_,(iB _ _ _).trans jS,rS fI.pos _ _,hX,by rw[iB];exact fI.pos,λc x c1 hx=>?_,λc hc=>?_,by rw[Deaf_own,fI.d0],?_,fI.nr.events λe he=>Bh (ki e he).2.2⟩
 ·rw[runNT_add,eX];simp only[runNT,hx,eH]
 ·obtain⟨z,hz,rfl⟩:=vY aa hx;have oY:=fI.gK c z c1 hz;rw[woken_quitsD oY,fw c aa];exact oY
 ·rw[iB]at hc;have:=fI.pos;rw[fw c aa];exact fI.above c hc
 ·refine fI.past.appH (λop aR=>by obtain⟨e,_,rfl⟩:=Conc.mem_ofEvents aR;rfl) (λop aR b hb=>?_) (λop aR=>?_)
  ·obtain⟨e,he,rfl⟩:=Conc.mem_ofEvents aR;exact⟨(ki e he).1 b hb,λx=>x.elim,λx=>x.elim⟩
  ·obtain⟨e,he,rfl⟩:=Conc.mem_ofEvents aR;exact(ki e he).2.1
def Lone.goes {D:World->World->Array Event->Prop}{Stop:Goroutine->World->Prop}(hD:∀w w' es,D w w' es->∀e∈es,E3 S B e/\e.loc≠.mark .disable/\e.loc≠.mark .enable):
 ∀(n:Nat) {gs:Array Goroutine} {w:World} {T:Trace} {q:Nat->Nat} {a:Goroutine} (sl:Option (Nat×Nat)),Lone P S Q B gs w T q d->gs[0]? =some a->Goes P true AtRel D Stop n a w->
 ∃N ck a' w' bG T' q',runNT P N (crowd gs w sl) T=(.next (crowd ck w' bG),T')/\ck.size=gs.size/\ck[0]? =some a'/\(∀dd,Stop a' (w'.at dd))/\Lone P S Q B ck w' T' q' d:=by
 intro n
 induction n with
 |zero=>exactλ{gs w T q a} sl h ha hG=>⟨0,gs,a,w,sl,T,q,rfl,rfl,ha,λdd=>hG _ ⟨dd,rfl⟩,h⟩
 |succ n ih=>
  intro gs w T q a sl h ha hG;rcases hG with hG|⟨hr,hG⟩
  ·exact⟨0,gs,a,w,sl,T,q,rfl,rfl,ha,λdd=>hG _ ⟨dd,rfl⟩,h⟩
  ·obtain⟨N,ck,a',w',bG,T',q',es,h1,h2,h3,⟨hg,aE⟩,h4⟩:=h.go ha hr sl (X:=λa' w' es=>Goes P true AtRel D Stop n a' w'/\∀e∈es,e.loc≠.mark .disable/\e.loc≠.mark .enable) (λdd=>by
    have:=hG (w.at dd) ⟨dd,rfl⟩
    cases hgo:stepG P true a (w.at dd)<;>rw[hgo]at this<;>first|exact this.elim|skip
    rename_i a' w' es
    obtain⟨hd,hg⟩:=this
    exact⟨a',w',es,rfl,λe he=>(hD _ _ _ hd e he).1,hg,λe he=>(hD _ _ _ hd e he).2⟩)
   rw[deafBehind_still aE]at h4;obtain⟨N2,wY,a2,w2,wH,T2,q2,k1,k2,k3,k4,k5⟩:=ih bG h4 h3 hg;exact⟨N+N2,wY,a2,w2,wH,T2,q2,runNT_then h1 k1,k2.trans h2,k3,k4,k5⟩
def Lone.of {J:Nat->Prop}(ha:0<gs.size)(hL:Leavers P T gs q)(hP:Past (tB J) w.heap.size T)(hN:pF Q T):Lone P (tB J) Q w.heap.size gs w T q 0:=
 ⟨ha,hL.old,hL.above,hP.hears,dN.ofPast hP (λ_ h=>h),hN⟩
def Lone.back {J:Nat->Prop}(h:Lone P (tB J) Q B gs w T q 0):Leavers P T gs q/\Past (tB J) B T:=⟨⟨h.gK,h.above⟩,h.past.toPast h.d0⟩
def Lone.spawn (h:Lone P S Q B gs w T q 0){a a' child:Goroutine}(ha:gs[0]? =some a)(hr:a.status=.running)(sl:Option (Nat×Nat))(hs:∀dd,stepG P true a (w.at dd)=.spawn a' child (w.at dd) #[])
 {D:Duo P} {s:Seat} {n:Nat} {U:Hp} {J:Nat->Prop} (hj:D.j=gs.size) (hBw:B<=w.heap.size) (Qg:D.S=S) (hDQ:D.Q=Q) (hh:dY P true D.KW D.Still D.B s n a') (hK:D.K w) (hc:∀c,D.chans c->Open c w) (hB:D.B<=w.heap.size) (hF:lF D.W w) (fE:cP J w U) (hJ:∀b,D.Hid b->J b):
 ∃N m' T',runNT P N (crowd gs w sl) T=(.next m',T')/\D.St D.j 0 s child U m' T':=by
 obtain⟨N,ck,dd,bG,uQ,T',q',eX,jS,de,fI,pJ,hx⟩:=h.picked ha hr sl;have eH:=runT_crowd_spawn (P:=P) (sl:=uQ) (i:=0) de (show stepG P (0==0) a (w.at pJ)=_ from hs pJ)
 have Gp:((MemOp.ofEvents 0 a.frame.fn a.frame.place #[]).push {g:=0,fn:=a.frame.fn,pos:=a.frame.place,act:=.go ck.size}).push {g:=ck.size,fn:=child.frame.fn,pos:=a.frame.place,act:=.start}=kH 0 ck.size a.frame.fn a.frame.place child.frame.fn:=by simp[ofEvents_eq,kH]
 rw[Gp]at eH;have tR:D.j=ck.size:=hj.trans jS.symm;have hd:∀i,Deaf (T'++kH 0 ck.size a.frame.fn a.frame.place child.frame.fn) i=Deaf T' i:=λi=>Deaf_quiet (Rc _ _ _ _ _ i)
 refine⟨N+1,crowd ((ck.setIfInBounds 0 a').push child) (w.at pJ) uQ,T'++kH 0 ck.size a.frame.fn a.frame.place child.frame.fn,by rw[runNT_add,eX];simp only[runNT,hx,eH],_,w.at pJ,uQ,q',J,n,a',rfl,?_,?_,aV hh,⟨?_,λi x h1 h2 hx=>?_,λi hi=>?_,by rw[hd];exact fI.d0,?_,D.CC w pJ hK,hc,hB,hF.at pJ,pF.app (Q:=D.Q) (by rw[hDQ];exact fI.nr) λop aR a=>by
  simp only[kH,List.mem_toArray,List.mem_cons,List.not_mem_nil,or_false]at aR
  rcases aR with rfl|rfl<;>simp⟩,?_,fE.at pJ,hJ⟩
 ·rw[tR,show ck.size=(ck.setIfInBounds 0 a').size by simp,Array.getElem?_push_size]
 ·rw[Array.getElem?_push_lt (by simpa using fI.pos)];simp
 ·rw[tR];simp
 ·have cY:ck[i]? =some x:=by rw[Array.getElem?_push,if_neg (by simp;omega),Array.getElem?_setIfInBounds_ne aa]at hx;exact hx
  rw[hd];exact fI.gK i x h1 cY
 ·rw[hd];exact fI.above i (by simp at hi;omega)
 ·rw[hd,tR];exact fI.above _ (Nat.le_refl _)
 ·rw[tR,Qg];refine dN.hire (fI.past.mono hBw) (λl hl=>?_) (λl hl=>?_) fI.d0 (fI.above _ (Nat.le_refl _)) _ _ _
  ·obtain⟨x,rfl⟩:=D.cell l (.inr (.inl hl));exact⟨rfl,by rw[<-Qg];exact(D.apart _ hl).1⟩
  ·obtain⟨x,rfl⟩:=D.cell l (.inr (.inr hl));rfl
end
end
section
open Go.ConcX (OfWg stA smA)
structure jH (S:Loc->Prop) (Wg j B:Nat) (rel:Option Nat) (t:Trace):Prop where
 clean:∀said,¬Race said t
 known:∀i a,touchAt t i=some a->a.loc.isMemory=true->Knows t 0 i\/(S a.loc/\a.kind=.atomic/\¬t.counts i)\/(t.g? i=some j/\OfWg Wg a.loc/\a.kind=.atomic/\∀r,rel=some r->i<=r)
 pure:∀i a,touchAt t i=some a->OfWg Wg a.loc->a.kind≠.plain\/Knows t j i
 seen:∀op∈t,op.act.low B
 Eu:∀r,rel=some r->t.act? r=some (.mark (.releaseMerge (stA Wg)))/\t.g? r=some j/\t.heard r
 norel:∀i,t.act? i≠some (.mark (.release (stA Wg)))
section
variable {a:Nat}{b:Nat}{c:Nat}{v:Value}
variable {S:Loc->Prop}{Wg j B:Nat}{rel:Option Nat}{t u:Trace}
def jH.ofK {Q Still:Loc->Prop}{o:Nat}(H:dN S (λ_=>False) Q j o B (Knows t 0) t)(hQ:∀l,OfWg Wg l->Q l)(hn:∀i,t.act? i≠some (.mark (.release (stA Wg)))):jH S Wg j B none t:=
 ⟨H.clean,λi a ha hm=>(H.known i a ha hm).imp id λx=>x.imp id λy=>y.2.2.elim,λi a ha hw=>H.pure i a ha (hQ _ hw),H.seen,λr h=>(by cases h),hn⟩
def LL (h:∀i,t.act? i≠some (.mark (.release (stA Wg))))(hu:∀op∈u,op.act≠.mark (.release (stA Wg))):∀i,(t++u).act? i≠some (.mark (.release (stA Wg))):=by
 intro i hi;obtain⟨op,ho,Dq⟩:=Option.map_eq_some_iff.1 hi;rcases getElem?_append_cases ho with⟨_,tX⟩|⟨_,Kt⟩
 ·exact h i (by rw[act?_of tX,Dq])
 ·exact hu op Kt Dq
def Mf (h:∀r,rel=some r->t.act? r=some (.mark (.releaseMerge (stA Wg)))/\t.g? r=some j/\t.heard r):∀r,rel=some r->(t++u).act? r=some (.mark (.releaseMerge (stA Wg)))/\(t++u).g? r=some j/\(t++u).heard r:=by intro r hr;obtain⟨h1,h2,h3⟩:=h r hr;have aZ:=lt_of_act? h1;exact⟨by rw[act?_old aZ];exact h1,by rw[g?_old aZ];exact h2,(heard_old aZ).2 h3⟩
def jH.old_known (H:jH S Wg j B rel t){i:Nat}{a:Touch}{x:MemOp}(cY:t[i]? =some x)(bH:x.act.touch?=some a)(hm:a.loc.isMemory=true):
 Knows (t++u) 0 i\/(S a.loc/\a.kind=.atomic/\¬(t++u).counts i)\/((t++u).g? i=some j/\OfWg Wg a.loc/\a.kind=.atomic/\∀r,rel=some r->i<=r):=by
 have hi:=lt_size_of_getElem? cY;rcases H.known i a (by rw[touchAt_of cY];exact bH) hm with x|⟨x,y,z⟩|⟨x,y⟩
 ·exact .inl (x.app u)
 ·exact .inr (.inl ⟨x,y,λc=>z ((counts_old hi).1 c)⟩)
 ·exact .inr (.inr ⟨by rw[g?_old hi];exact x,y⟩)
def jH.appMute (H:jH S Wg j B rel t)(hn:∀op∈u,op.act.touch?=none)(hl:∀op∈u,op.act.low B)(hr:∀op∈u,op.act≠.mark (.release (stA Wg))):jH S Wg j B rel (t++u):=by
 refine⟨λsaid=>noRace_appendMute (H.clean said) hn,λi a ha hm=>?_,λi a ha hq=>?_,seen_app H.seen hl,Mf H.Eu,LL H.norel hr⟩
 ·obtain⟨x,hx,bH⟩:=touch_of ha;rcases getElem?_append_cases hx with⟨_,cY⟩|⟨_,dx⟩
  ·exact H.old_known cY bH hm
  ·rw[hn x dx]at bH;cases bH
 ·obtain⟨x,hx,bH⟩:=touch_of ha;rcases getElem?_append_cases hx with⟨_,cY⟩|⟨_,dx⟩
  ·exact(H.pure i a (by rw[touchAt_of cY];exact bH) hq).imp id (·.app u)
  ·rw[hn x dx]at bH;cases bH
def jH.app0 (H:jH S Wg j B rel t)(hu:∀op∈u,op.g=0)(hs:∀op∈u,∀b,op.act.touch?=some b->(S b.loc->b.kind≠.plain)/\(OfWg Wg b.loc->b.kind≠.plain))(hl:∀op∈u,op.act.low B)(hr:∀op∈u,op.act≠.mark (.release (stA Wg))):
 jH S Wg j B rel (t++u):=by
 refine⟨λsaid=>noRace_append (H.clean said) hu λi a ha op aR b hb hc=>?_,λi a ha hm=>?_,λi a ha hq=>?_,seen_app H.seen hl,Mf H.Eu,LL H.norel hr⟩
 ·obtain⟨h1,h2⟩:=hs op aR b hb
  have at_:a.kind=.atomic->b.kind≠.plain->False:=λy cD=>by
   obtain⟨_,_,_,xe⟩:=hc;rw[y]at xe;rcases xe with z|z|⟨_,z,_⟩
   ·cases z
   ·exact cD z
   ·cases z
  rcases H.known i a ha hc.2.1 with hk|⟨x,y,_⟩|⟨_,x,y,_⟩
  ·exact hk
  ·exact(at_ y (h1 (hc.1▸x))).elim
  ·exact(at_ y (h2 (hc.1▸x))).elim
 ·obtain⟨x,hx,bH⟩:=touch_of ha;rcases getElem?_append_cases hx with⟨_,cY⟩|⟨_,dx⟩
  ·exact H.old_known cY bH hm
  ·have:=knows_own hx;rw[hu x dx]at this;exact .inl this
 ·obtain⟨x,hx,bH⟩:=touch_of ha;rcases getElem?_append_cases hx with⟨_,cY⟩|⟨_,dx⟩
  ·exact(H.pure i a (by rw[touchAt_of cY];exact bH) hq).imp id (·.app u)
  ·exact .inl ((hs x dx a bH).2 hq)
def jH.appJ (H:jH S Wg j B rel t)(hu:∀op∈u,op.g=j)(hs:∀op∈u,∀b,op.act.touch?=some b->OfWg Wg b.loc/\b.kind=.atomic)(hc:rel=none\/((∀l,OfWg Wg l->S l)/\∀k,t.size<=k->¬(t++u).counts k))(hl:∀op∈u,op.act.low B)
 (hr:∀op∈u,op.act≠.mark (.release (stA Wg))):jH S Wg j B rel (t++u):=by
 refine⟨λsaid=>noRace_append (H.clean said) hu λi a ha op aR b hb hc=>?_,λi a ha hm=>?_,λi a ha hq=>?_,seen_app H.seen hl,Mf H.Eu,LL H.norel hr⟩
 ·obtain⟨hbQ,hbk⟩:=hs op aR b hb;rcases H.pure i a ha (hc.1▸hbQ)with this|this
  ·obtain⟨_,_,_,xe⟩:=hc;rw[hbk]at xe;rcases xe with z|z|⟨_,_,z⟩
   ·exact absurd z this
   ·cases z
   ·cases z
  ·exact this
 ·obtain⟨x,hx,bH⟩:=touch_of ha;rcases getElem?_append_cases hx with⟨_,cY⟩|⟨xi,dx⟩
  ·exact H.old_known cY bH hm
  ·rcases hc with rfl|⟨hq,hc⟩
   ·exact .inr (.inr ⟨by rw[g?_of hx,hu x dx],(hs x dx a bH).1,(hs x dx a bH).2,λr h=>by cases h⟩)
   ·exact .inr (.inl ⟨hq _ (hs x dx a bH).1,(hs x dx a bH).2,hc i xi⟩)
 ·obtain⟨x,hx,bH⟩:=touch_of ha;rcases getElem?_append_cases hx with⟨_,cY⟩|⟨_,dx⟩
  ·exact(H.pure i a (by rw[touchAt_of cY];exact bH) hq).imp id (·.app u)
  ·rw[(hs x dx a bH).2];exact .inl (λe=>by cases e)
def jH.release (H:jH S Wg j B none t)(hd:Deaf t j=0)(hW:Wg<B){op:MemOp}(hg:op.g=j)(ha:op.act=.mark (.releaseMerge (stA Wg))):jH S Wg j B (some t.size) (t++ #[op]):=by
 have hm:∀o∈(#[op]:Trace),o.act.touch?=none:=by intro o ho;simp at ho;subst ho;rw[ha];rfl
 have H':=H.appMute (u:=#[op]) hm (by intro o ho;simp at ho;subst ho;rw[ha];exact hW) (by intro o ho;simp at ho;subst ho;rw[ha];simp);have e0:(t++ #[op])[t.size]? =some op:=ak;refine⟨H'.clean,λi a KG rI=>?_,H'.pure,H'.seen,λr hr=>?_,H'.norel⟩
 ·rcases H'.known i a KG rI with x|x|⟨x,y,z,_⟩
  ·exact .inl x
  ·exact .inr (.inl x)
  ·refine .inr (.inr ⟨x,y,z,λr hr=>?_⟩)
   cases hr
   unfold Trace.g? at x;obtain⟨v,hv,_⟩:=Option.map_eq_some_iff.1 x;have:=lt_size_of_getElem? hv;simp at this;omega
 ·cases hr
  exact⟨by rw[act?_of e0,ha],by rw[g?_of e0,hg],j,by rw[g?_of e0,hg],by rw[deaf_old (Nat.le_refl _)];exact hd⟩
def jH.acquire {r:Nat}(H:jH S Wg j B (some r) t)(hd:Deaf t 0=0)(hj:j≠0)(hW:Wg<B){op:MemOp}(hg:op.g=0)(ha:op.act=.mark (.acquire (stA Wg))):dN S (λ_=>False) (OfWg Wg) j j B (Knows (t++ #[op]) 0) (t++ #[op]):=by
 have hm:∀o∈(#[op]:Trace),o.act.touch?=none:=by intro o ho;simp at ho;subst ho;rw[ha];rfl
 have H':=H.appMute (u:=#[op]) hm (by intro o ho;simp at ho;subst ho;rw[ha];exact hW) (by intro o ho;simp at ho;subst ho;rw[ha];simp);have e0:(t++ #[op])[t.size]? =some op:=ak;obtain⟨r1,r2,r3⟩:=H'.Eu r rfl;have afO:r<t.size:=lt_of_act? (H.Eu r rfl).1;have Ap:HappensBefore (t++ #[op]) r t.size:=.single (.inr ⟨.marked afO (.inr r1) (by rw[act?_of e0,ha]) (λk _ _=>H'.norel k),r3,0,by rw[g?_of e0,hg],by rw[deaf_old (Nat.le_refl _)];exact hd⟩);refine⟨H'.clean,λi a KG rI=>?_,λ_ _ _ _ x=>x.elim,H'.pure,H'.seen⟩;rcases H'.known i a KG rI with x|x|⟨x,_,_,z⟩
 ·exact .inl x
 ·exact .inr (.inl x)
 ·refine .inl ⟨t.size,op,e0,hg,.inr ?_⟩;have hir:=z r rfl;rcases Nat.lt_or_ge i r with h|h
  ·exact .trans (.single (.inl ⟨h,j,x,r2⟩)) Ap
  ·obtain rfl:i=r:=aa;exact Ap
end
end
section
open Go.ConcX
open Go.ConcN (sumTo upd sumTo_upd upd_ne upd_same)
structure Jn (P:Program) where
 ty:TypeId
 Wg:Nat
 C:Nat
 C':Nat
 Low:Nat
 B0:Nat
 j:Nat
 atz:Payload
 I':Payload
 Y:Shy Wg C
 Y':Shy Wg C'
 vals:List Value
 lD:List Value
 S:Loc->Prop
 uX:Goroutine->World->Prop
 Z:World->Prop
 s:Seat
 kk:Nat
 c3:Nat
 z:Value
 hj:0<j
 hW:Wg<Low
 hC:C<Low
 w7:C'<Low
 xa:C≠Wg
 Jv:C'≠Wg
 FG:C≠C'
 kT:c3<Low
 ok:∀act,@Shy.ok Wg C Y act->okF S Low Wg act
 G4:∀act,@Shy.ok Wg C' Y' act->okF S Low Wg act
 JG:∀l,OfWg Wg l->S l
 Qf:∀g w,uX g w->g.status=.running
 Qe:∀g w,uX g w->∃m,Goes P true (@RPa atz ty Wg C vals) (DPi (λ_=>True) Wg C Low) (@AtW1 atz P ty Wg C Low Y vals (λ_=>True) uX λ_ _=>True) m g w
 hZ:∀w w',(∀b,b<Low->b≠Wg->w'.heap[b]? =w.heap[b]?)->Z w->Z w'
 Qn:∀w,Z w->(∃k,w.heap[c3]? =some (.chan 0 #[] true k k false))/\∀(m:Nat) (cc:CommCase),m≠kk->s.cases[m]? =some cc->cc.send=none/\∃c,cc.chan=.chan (some c)/\Open c w
 hk:s.cases[kk]? =some (rcase c3 z)
 serve:∀cQ w,s.home cQ->KCa ty Wg w->@Full atz C vals w->@Full I' C' lD w->
  (∃n,Goes P false (RCa ty Wg Low) (DCs (λ_=>True) Wg C) (@AtR0 atz P ty Wg C Low vals) n (Go.Conc.served cQ (commResult s.cases s.shape kk z false)) w)/\
  (∃n,Goes P false (RCa ty Wg Low) (DCs (λ_=>True) Wg C') (@AtR0 I' P ty Wg C' Low lD) n (Go.Conc.served cQ (commResult s.cases s.shape kk z false)) w)
section
variable {P:Program}{a:Nat}{b:Nat}{T:Trace}
variable {P:Program}(K:Jn P)
attribute [local instance] Jn.Y
inductive WJ:Nat->Nat->Nat->Goroutine->World->Prop
 |c0 {n b w}:0<n->dY P false K.Z (λ_=>False) K.B0 K.s n b->K.Z w->WJ 0 0 n b w
 |c1 {n n' b w}:Goes P false (RCa K.ty K.Wg K.Low) (DCs (λ_=>True) K.Wg K.C) (@AtR0 K.atz P K.ty K.Wg K.C K.Low K.vals) n b w->
  Goes P false (RCa K.ty K.Wg K.Low) (@DCs (λ_=>True) K.Wg K.C' K.Y') (@AtR0 K.I' P K.ty K.Wg K.C' K.Low K.lD) n' b w->WJ 1 0 n b w
 |c2 {n b w}:Goes P false (RCa K.ty K.Wg K.Low) DC0 (AtK1 P K.ty K.Wg K.Low) n b w->WJ 2 0 n b w
 |c3 {n b w}:Goes P false (RCa K.ty K.Wg K.Low) DC0 (AtD1 P K.ty K.Wg K.Low) n b w->WJ 3 1 n b w
 |c4 {n b w}:Goes P false (RCd K.Low) DC0 (AtD2 P K.Wg K.Low) n b w->WJ 4 1 n b w
 |c5 {n b w}:Goes P false (RCd K.Low) DC0 (AtD3 P K.Wg K.Low) n b w->WJ 5 1 n b w
 |c6 {n b w}:Goes P false (RCd K.Low) DC0 (AtD4 P K.Wg) n b w->WJ 6 1 n b w
 |c7 {n d b w}:QuitsD P n d b->WJ 7 d n b w
abbrev Jn.Ra (K:Jn P):World->World->Prop:= @RPa K.atz K.ty K.Wg K.C K.vals
abbrev Jn.Rb (K:Jn P):World->World->Prop:= @RPb K.atz K.ty K.Wg K.C K.vals
abbrev Jn.Di (K:Jn P):World->World->Array Event->Prop:=DPi (λ_=>True) K.Wg K.C K.Low
inductive MJ:Nat->Nat->Nat->Goroutine->World->Prop
 |a1 {n a w}:Goes P true K.Ra K.Di (@AtKd K.atz P K.ty K.Wg K.C K.Low K.Y K.vals (λ_=>True) K.uX) n a w->MJ 1 0 n a w
 |a2 {n a w}:Goes P true K.Ra K.Di K.uX n a w->MJ 2 1 n a w
 |a3 {n a w}:Goes P true K.Ra K.Di (@AtW1 K.atz P K.ty K.Wg K.C K.Low K.Y K.vals (λ_=>True) K.uX λ_ _=>True) n a w->MJ 3 1 n a w
 |a4 {n a w}:Goes P true K.Ra K.Di (@AtW2 K.atz P K.ty K.Wg K.C K.Low K.Y K.vals (λ_=>True) K.uX λ_ _=>True) n a w->MJ 4 1 n a w
 |a5 {n a w}:Goes P true K.Rb K.Di (@AtW3 K.atz P K.ty K.Wg K.C K.Low K.Y K.vals (λ_=>True) λ_ _=>True) n a w->MJ 5 1 n a w
 |blk {a w}:(∀w₁,K.Rb w w₁->@AtW3 K.atz P K.ty K.Wg K.C K.Low K.Y K.vals (λ_=>True) (λ_ _=>True) a w₁)->MJ 10 1 0 {a with status:=.blocked} w
 |a6 {n a w}:Goes P true AtRel K.Di (AtW4 P K.Wg K.C K.Low (λ_=>True) λ_ _=>True) n a w->MJ 6 1 n a w
 |a7 {n a w}:Goes P true AtRel K.Di (AtKe P K.Wg K.C K.Low (λ_=>True) λ_ _=>True) n a w->MJ 7 1 n a w
 |a8 {n a w}:Goes P true AtRel K.Di (AtAcq P K.Wg K.C K.Low (λ_=>True) λ_ _=>True) n a w->MJ 8 0 n a w
structure JB (gs:Array Goroutine) (w:World) (T:Trace) (q:Nat->Nat) (d0 dj:Nat) (rel:Option Nat):Prop where
 kZ:K.j<gs.size
 gK:∀i g,0<i->i≠K.j->gs[i]? =some g->QuitsD P (q i) (Deaf T i) g
 above:∀i,gs.size<=i->Deaf T i=0
 e0:Deaf T 0=d0
 ej:Deaf T K.j=dj
 past:jH K.S K.Wg K.j K.Low rel T
 full: @Full K.atz K.C K.vals w
 Au: @Full K.I' K.C' K.lD w
def Jn.Ev0 (K:Jn P)(e:Event):Prop:=
 (∀b,(MemAct.ofEvent e).touch?=some b->(K.S b.loc->b.kind≠.plain)/\(OfWg K.Wg b.loc->b.kind≠.plain))/\(MemAct.ofEvent e).low K.Low/\MemAct.ofEvent e≠.mark (.release (stA K.Wg))
def Jn.EvJ (K:Jn P)(e:Event):Prop:=
 (∀b,(MemAct.ofEvent e).touch?=some b->OfWg K.Wg b.loc/\b.kind=.atomic)/\(MemAct.ofEvent e).low K.Low/\MemAct.ofEvent e≠.mark (.release (stA K.Wg))
variable {K}
def abm {e:Event}(h:EvQ (λ_=>True) K.Wg K.C 0 e):K.Ev0 e:=by obtain⟨h1,_⟩:=h;obtain⟨_,h2,h3,h4⟩:=h1 0 "";obtain⟨h5,h6,_⟩:=K.ok _ h4;exact⟨λb hb=>⟨(h5 b hb).1,λhw=>(h5 b hb).1 (K.JG _ hw)⟩,h6,h3⟩
def abp {e:Event}(h:EvQ (λ_=>True) K.Wg K.C 1 e)(h': @EvQ (λ_=>True) K.Wg K.C' K.Y' 1 e):K.EvJ e/\e.loc≠.mark .disable/\e.loc≠.mark .enable:=by
 obtain⟨h1,hd,he,_⟩:=h;obtain⟨ru,_⟩:=h';obtain⟨_,h2,h3,h4⟩:=h1 0 "";obtain⟨_,kS,_⟩:=ru 0 "";obtain⟨_,h6,_⟩:=K.ok _ h4;refine⟨⟨λb hb=>?_,h6,h3⟩,hd,he⟩
 have hw:OfWg K.Wg b.loc:=by
  have f1:=(h2 b hb).1;have f2:=(kS b hb).1;rcases f1 with f1|⟨f1,_⟩|⟨_,_,f1⟩
  ·rcases f2 with f2|⟨f2,_⟩|⟨_,_,f2⟩
   ·rcases f1 with(⟨a,ha,cD⟩|f1)|⟨a,ha,cD,_⟩
    ·exact⟨a,ha,cD⟩
    ·rcases f2 with(⟨a,ha,cD⟩|f2)|⟨a,ha,cD,_⟩
     ·exact⟨a,ha,cD⟩
     ·rw[f1]at f2;exact absurd (Loc.obj.inj f2) K.FG
     ·rw[f1]at ha;cases ha
    ·rcases f2 with(⟨x,hx,DD⟩|f2)|⟨x,hx,DD,_⟩
     ·exact⟨x,hx,DD⟩
     ·rw[ha]at f2;cases f2
     ·rw[ha]at hx;cases hx;exact absurd (cD.symm.trans DD) K.FG
   ·cases f2
   ·exact absurd trivial f2
  ·cases f1
  ·exact absurd trivial f1
 refine⟨hw,?_⟩;obtain⟨a,ha,dq⟩:=hw;have:=(h2 b hb).2.1 (.inl ⟨a,ha,dq⟩)
 cases hk:b.kind with
 |plain=>exact absurd hk this.1
 |atomic=>rfl
 |said=>exact absurd (this.2 hk) an
variable {gs:Array Goroutine}{w w':World}{T:Trace}{q:Nat->Nat}{d0 dj:Nat}{rel:Option Nat}
def wv {g:Nat}{fn:FuncId}{pos:String}{es:Array Event}{X:MemAct->Prop}(h:∀e∈es,X (MemAct.ofEvent e)):∀op∈MemOp.ofEvents g fn pos es,X op.act:=by intro op aR;obtain⟨e,he,rfl⟩:=Conc.mem_ofEvents aR;exact h e he
def zq {g:Nat}{fn:FuncId}{pos:String}{es:Array Event}:∀op∈MemOp.ofEvents g fn pos es,op.g=g:=by intro op aR;obtain⟨e,_,rfl⟩:=Conc.mem_ofEvents aR;rfl
def JB.main (h:JB K gs w T q d0 dj rel){a a':Goroutine}{fn:FuncId}{pos:String}{es:Array Event}{O5:Nat}(he:∀e∈es,K.Ev0 e)(hd:deafBehind d0 es=O5)(hw:∀b,b<K.Low->b≠K.Wg->w'.heap[b]? =w.heap[b]?):
 JB K (mo P gs 0 a a' w') w' (T++MemOp.ofEvents 0 fn pos es) q O5 dj rel:=by
 have fw:∀i,i≠0->Deaf (T++MemOp.ofEvents 0 fn pos es) i=Deaf T i:=λi hi=>Deaf_other T (λx=>hi x.symm) _ zq;refine⟨by rw[iB];exact h.kZ,λi x h1 h2 hx=>?_,λi hi=>?_,by rw[Deaf_own,h.e0,hd],by rw[fw _ (by have:=K.hj;omega),h.ej],?_,λhc=>(hw _ K.hC K.xa).trans (h.full hc),λhc=>(hw _ K.w7 K.Jv).trans (h.Au hc)⟩
 ·obtain⟨z,hz,rfl⟩:=vY aa hx;have hq:=h.gK i z h1 h2 hz;rw[woken_quitsD hq,fw i aa];exact hq
 ·rw[iB]at hi;have:=h.kZ;rw[fw i aa];exact h.above i hi
 ·exact h.past.app0 zq (wv (X:=λact=>∀b,act.touch?=some b->(K.S b.loc->b.kind≠.plain)/\(OfWg K.Wg b.loc->b.kind≠.plain)) λe x=>(he e x).1) (wv (X:=λact=>act.low K.Low) λe x=>(he e x).2.1) (wv (X:=λact=>act≠.mark (.release (stA K.Wg))) λe x=>(he e x).2.2)
def JB.work (h:JB K gs w T q d0 dj rel){b b':Goroutine}{fn:FuncId}{pos:String}{es:Array Event}{Pb:Nat}{zB:Option Nat}(hd:deafBehind dj es=Pb)(hw:∀b,b<K.Low->b≠K.Wg->w'.heap[b]? =w.heap[b]?)
 (hp:jH K.S K.Wg K.j K.Low zB (T++MemOp.ofEvents K.j fn pos es)):JB K (mo P gs K.j b b' w') w' (T++MemOp.ofEvents K.j fn pos es) q d0 Pb zB:=by
 have fw:∀i,i≠K.j->Deaf (T++MemOp.ofEvents K.j fn pos es) i=Deaf T i:=λi hi=>Deaf_other T (λx=>hi x.symm) _ zq;refine⟨by rw[iB];exact h.kZ,λi x h1 h2 hx=>?_,λi hi=>?_,by rw[fw 0 (by have:=K.hj;omega),h.e0],by rw[Deaf_own,h.ej,hd],hp,λhc=>(hw _ K.hC K.xa).trans (h.full hc),λhc=>(hw _ K.w7 K.Jv).trans (h.Au hc)⟩
 ·obtain⟨z,hz,rfl⟩:=vY h2 hx;have hq:=h.gK i z h1 h2 hz;rw[woken_quitsD hq,fw i h2];exact hq
 ·rw[iB]at hi;have:=h.kZ;rw[fw i aa];exact h.above i hi
def JB.at (h:JB K gs w T q d0 dj rel)(d:Nat):JB K gs (w.at d) T q d0 dj rel:=⟨h.kZ,h.gK,h.above,h.e0,h.ej,h.past,h.full,h.Au⟩
def JB.Cf (h:JB K gs w T q d0 1 rel){fn:FuncId}{pos:String}{es:Array Event}(he:∀e∈es,K.EvJ e)(hd:∀j e,es[j]? =some e->(MemAct.ofEvent e).touch?=none\/0<deafBehind 1 (es.extract 0 j)):jH K.S K.Wg K.j K.Low rel (T++MemOp.ofEvents K.j fn pos es):=by
 refine h.past.appJ zq (wv (X:=λact=>∀b,act.touch?=some b->OfWg K.Wg b.loc/\b.kind=.atomic) λe x=>(he e x).1) (.inr ⟨K.JG,λk hk hc=>?_⟩) (wv (X:=λact=>act.low K.Low) λe x=>(he e x).2.1) (wv (X:=λact=>act≠.mark (.release (stA K.Wg))) λe x=>(he e x).2.2);obtain⟨x,hx,hm,nY⟩:=hc;obtain⟨op,aR,Ru⟩:=touch_of (show touchAt _ k=some x from hx);rw[Array.getElem?_append_right hk,ofEvents_eq,Array.getElem?_map]at aR;obtain⟨e,FV,rfl⟩:=Option.map_eq_some_iff.1 aR;have hks:k-T.size<es.size:=(Array.getElem?_eq_some_iff.1 FV).1;rcases hd (k-T.size) e FV with h0|h0
 ·have:(MemAct.ofEvent e).touch?=some x:=Ru;rw[h0]at this;cases this
 ·rcases nY with nY|⟨g,hg,F8⟩
  ·exact nY ((he e (Array.mem_of_getElem? FV)).1 x Ru).2
  ·have e1:(T++MemOp.ofEvents K.j fn pos es).g? k=some K.j:=by unfold Trace.g?;rw[Array.getElem?_append_right hk,ofEvents_eq,Array.getElem?_map,FV];rfl
   rw[hg]at e1
   cases e1
   have:=deaf_inside T K.j fn pos es (k-T.size) aa;rw[show T.size+(k-T.size)=k by omega,F8,h.ej]at this;omega
end
section
attribute [local instance] Jn.Y
def WW(K:Jn P)(mt ct:Nat)(w:World):Prop:=
 (mt<=4/\ct<=3/\WgAt K.ty K.Wg w KK 0)\/((mt=5\/mt=10)/\ct<=3/\WgAt K.ty K.Wg w (KK+1) 0)\/((mt=5\/mt=10)/\(ct=4\/ct=5)/\WgAt K.ty K.Wg w 1 0)\/
  ((mt=5\/mt=10)/\ct=6/\WgAt K.ty K.Wg w 0 0)\/(mt=5/\ct=7/\WgAt K.ty K.Wg w 0 1)\/((mt<=4\/(6<=mt/\mt<=8))/\ct=7/\WgAt K.ty K.Wg w 0 0)
def rk(ct mt:Nat):Nat:=
 if ct=7 then(if mt=5 then 20 else if mt=4 then 9 else if mt=3 then 7 else if mt=2 then 8 else if mt=1 then 10 else if mt=6 then 6 else if mt=7 then 5 else 4)
 else 20-mt
variable {K:Jn P}
def xV:∀x y z,RCa K.ty K.Wg K.Low x y->RCa K.ty K.Wg K.Low y z->RCa K.ty K.Wg K.Low x z:=λ_ _ _ h h'=>h.trans h'
def MO:∀x y z,RCd K.Low x y->RCd K.Low y z->RCd K.Low x z:=λ_ _ _ h h'=>h.trans h'
variable {w w':World}{ct cd cn:Nat}{b:Goroutine}
def WJ.low(h:WJ K ct cd cn b w)(hl:∀x,x<K.Low->w'.heap[x]? =w.heap[x]?):WJ K ct cd cn b w':=by
 have ha:RCa K.ty K.Wg K.Low w w':=RCd.toA K.hW hl
 cases h with
 |c0 h1 h2 h3=>exact .c0 h1 h2 (K.hZ w w' (λx hx _=>hl x hx) h3)
 |c1 h1 h2=>exact .c1 (Goes.rely xV h1 ha) (Goes.rely xV h2 ha)
 |c2 h1=>exact .c2 (Goes.rely xV h1 ha)
 |c3 h1=>exact .c3 (Goes.rely xV h1 ha)
 |c4 h1=>exact .c4 (Goes.rely MO h1 hl)
 |c5 h1=>exact .c5 (Goes.rely MO h1 hl)
 |c6 h1=>exact .c6 (Goes.rely MO h1 hl)
 |c7 h1=>exact .c7 h1
def WJ.ka(h:WJ K ct cd cn b w)(hl:∀x,x<K.Low->x≠K.Wg->w'.heap[x]? =w.heap[x]?)(hk:KCa K.ty K.Wg w->KCa K.ty K.Wg w')(hc:ct<=3\/ct=7):WJ K ct cd cn b w':=by
 have ha:RCa K.ty K.Wg K.Low w w':=⟨hl,hk⟩
 cases h with
 |c0 h1 h2 h3=>exact .c0 h1 h2 (K.hZ w w' hl h3)
 |c1 h1 h2=>exact .c1 (Goes.rely xV h1 ha) (Goes.rely xV h2 ha)
 |c2 h1=>exact .c2 (Goes.rely xV h1 ha)
 |c3 h1=>exact .c3 (Goes.rely xV h1 ha)
 |c4 h1=>omega
 |c5 h1=>omega
 |c6 h1=>omega
 |c7 h1=>exact .c7 h1
def WJ.status (h:WJ K ct cd cn b w)(h1:KCa K.ty K.Wg w\/4<=ct):b.status=.running\/(b.status=.finished/\ct=7):=by
 cases h with
 |c0 h1 h2 h3=>exact .inl ((dY.status h2).elim (·.1) (λz=>aa))
 |c1 h1 h2=>exact .inl (h1.running (λ_ _ x=>x.1) w (RCa.refl w))
 |c2 h1=>exact .inl (h1.running (λ_ _ x=>x.1) w (RCa.refl w))
 |c3 h1=>exact .inl (h1.running (λ_ _ x=>x.1) w (RCa.refl w))
 |c4 h1=>exact .inl (h1.running (λ_ _ x=>x.1) w (RCd.refl w))
 |c5 h1=>exact .inl (h1.running (λ_ _ x=>x.1) w (RCd.refl w))
 |c6 h1=>exact .inl (h1.running (λ_ _ x=>x.1) w (RCd.refl w))
 |c7 h1=>exact h1.status.imp id (λx=>⟨x,rfl⟩)
def uJ(w:World)(o:Nat)(v:Value):∀x,x<K.Low->x≠K.Wg->(w.setCell ⟨K.Wg,o,none⟩ v).heap[x]? =w.heap[x]? :=by intro x _ hx;simp only[World.setCell,Array.getElem?_modify];rw[if_neg (λe=>hx e.symm)]
def Jg{atz:Payload}{C:Nat}{vals:List Value}(h: @Full atz C vals w)(e:w'.heap[C]? =w.heap[C]?): @Full atz C vals w':=λhc=>e.trans (h hc)
def Fa(K:Jn P)(mt md mn ct cd cn:Nat)(b:Goroutine)(w:World)(a':Goroutine)(w':World)(es:Array Event):Prop:=
 (∀e∈es,K.Ev0 e)/\(∀x,x<K.Low->x≠K.Wg->w'.heap[x]? =w.heap[x]?)/\WJ K ct cd cn b w'/\∃kA po,MJ K kA (deafBehind md es) po a' w'/\WW K kA ct w'/\(rk ct kA<rk ct mt\/(rk ct kA=rk ct mt/\po<mn))
def FB{m:Mark}(h1:(MemAct.mark m).low K.Low)(h2:∀x,(MemAct.mark m).touch?≠some x)(h3:m≠.release (stA K.Wg)):K.Ev0 (mk m):=by refine⟨λb hb=>absurd hb (h2 b),h1,λe=>?_⟩;injection e with e;exact h3 e
def Ar(a:Addr)(ha:a.block=K.Wg)(x:Bool):K.Ev0 ⟨.cell a,x,true⟩:=by
 refine⟨λb hb=>?_,?_,?_⟩
 ·cases x<;>simp[MemAct.ofEvent,MemAct.touch?]at hb<;>subst hb<;>exact⟨λ_=>ak,λ_=>ak⟩
 ·cases x<;>(show a.block<K.Low;rw[ha];exact K.hW)
 ·cases x<;>simp[MemAct.ofEvent]
def abn:∀e∈semEvents (smA K.Wg),K.Ev0 e:=by
 intro e he;simp[semEvents]at he;rcases he with rfl|rfl|rfl|rfl
 ·exact FB (m:=.disable) trivial (by simp[MemAct.touch?]) ak
 ·exact Ar _ rfl _
 ·exact Ar _ rfl _
 ·exact FB (m:=.enable) trivial (by simp[MemAct.touch?]) ak
variable {mt md mn:Nat}{a:Goroutine}{n:Nat}
def inner{atA:World->World->Prop}{Stop:Goroutine->World->Prop}(hc:WJ K ct cd cn b w)(hw:WW K mt ct w)(mk:∀{n a w},Goes P true atA K.Di Stop n a w->MJ K mt md n a w){a':Goroutine}{es:Array Event}(hD:K.Di w w' es)(hg:Goes P true atA K.Di Stop n a' w')(hn:n<mn):
 Fa K mt md mn ct cd cn b w a' w' es:=by
 obtain⟨hl,he⟩:=hD;refine⟨λe h=>abm (he e h),λx hx _=>hl x hx,hc.low hl,mt,n,?_,?_,.inr ⟨rfl,hn⟩⟩
 ·rw[deafBehind_still (λe h=>⟨(he e h).2.1,(he e h).2.2.1⟩)];exact mk hg
 ·have e:=hl K.Wg K.hW;simp only[WW,WgAt,e];exact hw
def MJ.UH(hc:WJ K ct cd cn b w)(hw:WW K mt ct w)(hf: @Full K.atz K.C K.vals w)(yZ:mt=3\/mt=2)(hmd:md=1)(hn:n<=mn\/mt=2)(h:Goes P true K.Ra K.Di (@AtW1 K.atz P K.ty K.Wg K.C K.Low K.Y K.vals (λ_=>True) K.uX λ_ _=>True) n a w):
 ∃a' w' es,stepG P true a w=.go a' w' es/\Fa K mt md mn ct cd cn b w a' w' es:=by
 letI:=K.atz
 subst hmd;rcases Goes.cases h with hU|⟨n',rfl,gu⟩
 ·obtain⟨_,a',hgo,h1,h2⟩:=hU w (RPa.refl w);refine⟨a',w,_,hgo,λe he=>?_,λ_ _ _=>rfl,hc,?_⟩
  ·simp at he;subst he;exact Ar _ rfl _
  ·rcases hw with⟨_,fH,hw⟩|⟨x,_⟩|⟨x,_⟩|⟨x,_⟩|⟨x,_⟩|⟨_,fH,hw⟩
   ·obtain⟨m,hm⟩:=h1 hw;exact⟨4,m,.a4 hm,.inl ⟨aa,fH,hw⟩,.inl (by unfold rk;rw[if_neg aa,if_neg aa];omega)⟩
   ·omega
   ·omega
   ·omega
   ·omega
   ·obtain⟨m,hm⟩:=h2 ⟨hw,hf⟩;subst fH;exact⟨7,m,.a7 hm,.inr (.inr (.inr (.inr (.inr ⟨.inr ⟨aa,aa⟩,rfl,hw⟩)))),.inl (by rcases yZ with rfl|rfl<;>decide)⟩
 ·obtain⟨a',w',es,hgo,hD,ff⟩:=gu w (RPa.refl w);refine⟨a',w',es,hgo,?_⟩;rcases yZ with rfl|rfl
  ·exact inner hc hw .a3 hD ff aa
  ·have hw3:WW K 3 ct w:=by
    rcases hw with⟨_,fH,hw⟩|⟨x,_⟩|⟨x,_⟩|⟨x,_⟩|⟨x,_⟩|⟨_,fH,hw⟩
    ·exact .inl ⟨aa,fH,hw⟩
    ·omega
    ·omega
    ·omega
    ·omega
    ·exact .inr (.inr (.inr (.inr (.inr ⟨.inl aa,fH,hw⟩))))
   obtain⟨o1,o2,o3,kA,po,o4,o5,o6⟩:=inner (mn:=n'+1) (md:=1) hc hw3 .a3 hD ff aa;refine⟨o1,o2,o3,kA,po,o4,o5,.inl ?_⟩;have:rk ct 3<rk ct 2:=by unfold rk;split<;>simp
   omega
def MJ.step(h:MJ K mt md mn a w)(hm:mt≠10)(hc:WJ K ct cd cn b w)(hw:WW K mt ct w)(hf: @Full K.atz K.C K.vals w):
 (∃a' w' es,stepG P true a w=.go a' w' es/\Fa K mt md mn ct cd cn b w a' w' es)\/
  (ct=7/\md=0/\∃a',stepG P true a w=.go a' w #[mk (.acquire (stA K.Wg))]/\∃m,Goes P true AtRel (DPj (λ_=>True) K.Wg K.C K.Low) (AtRetJ P K.Wg K.C (λ_=>True) λ_ _=>True) m a' w):=by
 letI:=K.atz
 cases h with
 |blk _=>exact absurd rfl hm
 |a1 h=>
  left;rcases Goes.cases h with hU|⟨n',rfl,gu⟩
  ·obtain⟨_,a',hgo,m,hg⟩:=hU w (RPa.refl w);refine⟨a',w,_,hgo,λe he=>?_,λ_ _ _=>rfl,hc,2,m,.a2 hg,?_,.inl (by unfold rk;split<;>simp)⟩
   ·simp at he;subst he;exact FB (m:=.disable) trivial (by simp[MemAct.touch?]) ak
   ·rcases hw with⟨_,fH,hw⟩|⟨x,_⟩|⟨x,_⟩|⟨x,_⟩|⟨x,_⟩|⟨_,fH,hw⟩
    ·exact .inl ⟨aa,fH,hw⟩
    ·omega
    ·omega
    ·omega
    ·omega
    ·exact .inr (.inr (.inr (.inr (.inr ⟨.inl aa,fH,hw⟩))))
  ·obtain⟨a',w',es,hgo,hD,ff⟩:=gu w (RPa.refl w);exact⟨a',w',es,hgo,inner hc hw .a1 hD ff aa⟩
 |a2 h=>
  left;rcases Goes.cases h with hU|⟨n',rfl,gu⟩
  ·obtain⟨m,rF⟩:=K.Qe a w (hU w (RPa.refl w));exact MJ.UH hc hw hf (.inr rfl) rfl (.inr rfl) rF
  ·obtain⟨a',w',es,hgo,hD,ff⟩:=gu w (RPa.refl w);exact⟨a',w',es,hgo,inner hc hw .a2 hD ff aa⟩
 |a3 h=>exact .inl (MJ.UH hc hw hf (.inl rfl) rfl (.inl (Nat.le_refl _)) h)
 |a4 h=>
  left;rcases Goes.cases h with hU|⟨n',rfl,gu⟩
  ·obtain⟨_,h1,h2⟩:=hU w (RPa.refl w);rcases hw with⟨_,fH,hw⟩|⟨x,_⟩|⟨x,_⟩|⟨x,_⟩|⟨x,_⟩|⟨_,fH,hw⟩
   ·obtain⟨a',hgo,m,hg⟩:=h1 hw;refine⟨a',_,_,hgo,λe he=>?_,uJ w 0 _,hc.ka (uJ w 0 _) (λ_=>.inr (hw.setSt _)) (.inl fH),5,m,.a5 hg,.inr (.inl ⟨.inl rfl,fH,hw.setSt _⟩),.inl (by unfold rk;rw[if_neg aa,if_neg aa];omega)⟩;simp at he;rcases he with rfl|rfl<;>exact Ar _ rfl _
   ·omega
   ·omega
   ·omega
   ·omega
   ·obtain⟨a',hgo,m,hg⟩:=h2 ⟨hw,hf⟩;refine⟨a',w,_,hgo,λe he=>?_,λ_ _ _=>rfl,hc,2,m,.a2 hg,.inr (.inr (.inr (.inr (.inr ⟨.inl aa,fH,hw⟩)))),.inl (by subst fH;decide)⟩;simp at he;subst he;exact Ar _ rfl _
  ·obtain⟨a',w',es,hgo,hD,ff⟩:=gu w (RPa.refl w);exact⟨a',w',es,hgo,inner hc hw .a4 hD ff aa⟩
 |a5 h=>
  left;rcases Goes.cases h with hU|⟨n',rfl,gu⟩
  ·obtain⟨_,_,h1,h2⟩:=hU w (RPb.refl w)
   have blk:(∃st,WgAt K.ty K.Wg w st 0)->WW K 10 ct w->ct≠7->∃a' w' es,stepG P true a w=.go a' w' es/\Fa K 5 1 mn ct cd cn b w a' w' es:=λbt jj h7=>
    ⟨_,w,_,h1 bt,λe he=>by simp at he,λ_ _ _=>rfl,hc,10,0,.blk hU,jj,.inl (by unfold rk;rw[if_neg h7,if_neg h7];omega)⟩
   rcases hw with⟨x,_⟩|⟨_,fH,hw⟩|⟨_,fH,hw⟩|⟨_,fH,hw⟩|⟨_,fH,hw⟩|⟨x,_⟩
   ·omega
   ·exact blk ⟨_,hw⟩ (.inr (.inl ⟨.inr rfl,fH,hw⟩)) aa
   ·exact blk ⟨_,hw⟩ (.inr (.inr (.inl ⟨.inr rfl,fH,hw⟩))) aa
   ·exact blk ⟨_,hw⟩ (.inr (.inr (.inr (.inl ⟨.inr rfl,fH,hw⟩)))) aa
   ·obtain⟨a',hgo,m,hg⟩:=h2 ⟨hw,hf⟩;refine⟨a',_,_,hgo,abn,uJ w 1 _,hc.ka (uJ w 1 _) ?_ (.inr fH),6,m,.a6 hg,.inr (.inr (.inr (.inr (.inr ⟨.inr ⟨aa,aa⟩,fH,hw.setSm _⟩)))),.inl (by subst fH;decide)⟩;rintro(x|x)
    ·have:=(x.unique hw).1;exact absurd this an
    ·have:=(x.unique hw).1;exact absurd this an
   ·omega
  ·obtain⟨a',w',es,hgo,hD,ff⟩:=gu w (RPb.refl w);exact⟨a',w',es,hgo,inner hc hw .a5 hD ff aa⟩
 |a6 h=>
  left;rcases Goes.cases h with hU|⟨n',rfl,gu⟩
  ·obtain⟨_,a',hgo,m,hg⟩:=hU w (atRel_refl w);rcases hw with⟨x,_⟩|⟨x,_⟩|⟨x,_⟩|⟨x,_⟩|⟨x,_⟩|⟨_,fH,hw⟩<;>first|omega|skip
   refine⟨a',w,_,hgo,λe he=>?_,λ_ _ _=>rfl,hc,7,m,.a7 hg,.inr (.inr (.inr (.inr (.inr ⟨.inr ⟨aa,aa⟩,fH,hw⟩)))),.inl (by subst fH;decide)⟩;simp at he;subst he;exact Ar _ rfl _
  ·obtain⟨a',w',es,hgo,hD,ff⟩:=gu w (atRel_refl w);exact⟨a',w',es,hgo,inner hc hw .a6 hD ff aa⟩
 |a7 h=>
  left;rcases Goes.cases h with hU|⟨n',rfl,gu⟩
  ·obtain⟨_,a',hgo,m,hg⟩:=hU w (atRel_refl w);rcases hw with⟨x,_⟩|⟨x,_⟩|⟨x,_⟩|⟨x,_⟩|⟨x,_⟩|⟨_,fH,hw⟩<;>first|omega|skip
   refine⟨a',w,_,hgo,λe he=>?_,λ_ _ _=>rfl,hc,8,m,.a8 hg,.inr (.inr (.inr (.inr (.inr ⟨.inr ⟨aa,aa⟩,fH,hw⟩)))),.inl (by subst fH;decide)⟩;simp at he;subst he;exact FB (m:=.enable) trivial (by simp[MemAct.touch?]) ak
  ·obtain⟨a',w',es,hgo,hD,ff⟩:=gu w (atRel_refl w);exact⟨a',w',es,hgo,inner hc hw .a7 hD ff aa⟩
 |a8 h=>
  rcases Goes.cases h with hU|⟨n',rfl,gu⟩
  ·obtain⟨_,a',hgo,m,hg⟩:=hU w (atRel_refl w);rcases hw with⟨x,_⟩|⟨x,_⟩|⟨x,_⟩|⟨x,_⟩|⟨x,_⟩|⟨_,fH,hw⟩<;>first|omega|skip
   exact .inr ⟨fH,rfl,a',hgo,m,hg⟩
  ·obtain⟨a',w',es,hgo,hD,ff⟩:=gu w (atRel_refl w);exact .inl ⟨a',w',es,hgo,inner hc hw .a8 hD ff aa⟩
end
end
end Go.Qw
