/- 8 -/
import Derived.Test.YtpiabknabfbfhaaGreatDoorKept07
set_option linter.all false
set_option maxRecDepth 100000
set_option maxHeartbeats 8000000
namespace Go.Qw
open Go Go.Proofs Go.Proofs.Tryz
section
open Go.Conc
open Go.ConcX
def wS(w:World):World:=(w.alloc (wgBlock 131 0 0)).setCell (stA w.heap.size) (.int .u64 KK)
def aqV{w:World}{b:Nat}(h:b<w.heap.size):(wS w).heap[b]? =w.heap[b]? :=by rw[wS,EZ _ _ (by show b≠w.heap.size;omega)];show(w.heap.push _)[b]? =_;rw[Array.getElem?_push_lt h,Array.getElem?_eq_getElem h]
def aqW(w:World):(wS w).heap[w.heap.size]? =some (wgBlock 131 KK 0):=by show(Array.modify (w.heap.push (wgBlock 131 0 0)) w.heap.size _)[w.heap.size]? =_;rw[Array.getElem?_modify,if_pos rfl,Array.getElem?_push_size];simp[stA,wgBlock]
def Nv(w:World):(wS w).heap.size=w.heap.size+1:=by show(Array.modify (w.heap.push (wgBlock 131 0 0)) w.heap.size _).size=_;simp
noncomputable def yj(J:Hp)(c1 c2 c3:Nat):Hp:=J.only λb=>b≠c1/\b≠c2/\b≠c3
variable {W:World}{J U:Hp}{m:Machine}{T:Trace}{bc:Nat}{ch:List UInt8}{cb kb sb ub db c1 c2 c3:Nat}{cs:List Frame}{I:av}{a:Act}{l:List Value}{bg:Nat}{ph fr:Int}
def aco(nA:yN prog W (G (bU.at a [.code rp]) cs) J m T)(ha:cM 52 a I [])(r2:I 2=pV cb)(r3:I 3=pV kb)(r4:I 4=pV sb)(r5:I 5=pV ub)(r6:I 6=pV db)(hE:NS U J bc ch cb kb sb ub db c1 c2 c3)(hb:U.f bc=some (.cells l.toArray 90 (0,0)))(mF:Cn bg ph fr l)(hp:ph≠5):
 ∃(t:Tk) (hc:t.Ok t.cb) (hs:t.Ok t.sb) (hd:t.Ok t.db) (hb:t.Ok bc) (N:Nat) (m':Machine) (T':Trace),t.W=W/\t.c1=c1/\t.c2=c2/\t.c3=c3/\t.cb=cb/\t.sb=sb/\t.ub=ub/\t.db=db/\t.cs=cs/\t.Ip=wgBlock 131 KK 0/\runNT prog N m T=(.next m',T')/\
  (t.B1 (λb=>b=t.wg) bc l hc hs hb).St t.j 0 (t.sS fr) (born prog (call56 t.wg t.cb kb t.sb t.ub t.db)) (yj J c1 c2 c3) m' T':=by
 obtain⟨gs,w,sl,q,auu,rfl,e1,e2,e3,e4,e5,e6⟩:=nA;have l7:0<gs.size:=(Array.getElem?_eq_some_iff.1 e1).1;obtain⟨S,hS⟩:∃S:Loc->Prop,S=λl=>∃x:Addr,l=.cell x/\(auu x.block\/x.block=w.heap.size):=⟨_,rfl⟩
 have lH:Lone prog S (OfWg w.heap.size) (w.heap.size+1) gs w T q 0:=by
  have h0:=Lone.of (Q:=λ_=>False) l7 e2 e3 (λ_ _ _ h=>h.elim);refine⟨h0.pos,h0.gY,h0.above,h0.d0,(h0.past.mono aa).aoV (λl ⟨x,h1,h2⟩=>by rw[hS];exact⟨x,h1,.inl h2⟩),λop aS x ⟨y,hy,po⟩ Kk=>?_⟩;obtain rfl:y=x:=by simpa using hy.symm
  have:=h0.past.seen op aS;rw[Kk]at this;have:y.block<w.heap.size:=this;omega
 have old:∀{b:Nat} {o:Obj},J.f b=some o->b<w.heap.size/\¬auu b/\w.heap[b]? =some o:=λh=>⟨e4.lt h,e4.sx h,e4.heap h⟩;have s5:∀(v:World) (x:World) (dd:Nat),(∃d,x=v.at d)->∃d,x.at dd=v.at d:=λv x dd ⟨d,h⟩=>⟨dd,by rw[h];rfl⟩;have h0:LS S (OfWg w.heap.size) (w.heap.size+1) (G (bU.at a [.code rp]) cs) 0 (λx=>∃d,x=w.at d) (crowd gs w sl) T:=⟨gs,w,sl,q,rfl,e1,lH,w.drawn,rfl⟩;have p1:=h0.ctl (g':=G (bU.at a [.code (.region 2 g2 false),.code (.seq (.region 3 g3 false) (.seq (.region 4 g4 false) iM))]) cs) rfl (s5 w) (λw=>by rw[aob];exact stepG_seq)
 have p2:=two p1 λm T h=>h.ctl (g':=G (bU.at a [.inRegion g2 [0],.code (.seq (.region 3 g3 false) (.seq (.region 4 g4 false) iM))]) cs) rfl (s5 w) (λw=>by
  have hr:List.range g2.size=[0]:=ah
  rw[<-hr];exact stepG_region)
 obtain⟨ps,af,ty,ho⟩:=acT
 have p3:=two p2 λm T h=>h.step (g':=G (bU.at (a.put (some 7) (pV w.heap.size)) [.inRegion g2 [],.code (.seq (.region 3 g3 false) (.seq (.region 4 g4 false) iM))]) cs) (R':=λx=>∃d,x=(w.alloc (wgBlock 131 0 0)).at d) rfl (s5 w) (λx ⟨d,hx⟩=>by
  subst hx
  exact⟨_,W8 ho _,d,rfl⟩)
 have Dd:=ha.put (dst:=some 7) ai (pV w.heap.size);obtain⟨a7,ea7⟩:∃a7,a7=a.put (some 7) (pV w.heap.size):=⟨_,rfl⟩;rw[<-ea7]at p3 Dd;have p4:=two p3 λm T h=>h.ctl (g':=G (bU.at a7 [.code (.seq (.region 3 g3 false) (.seq (.region 4 g4 false) iM))]) cs) rfl (s5 _) (λw=>stepG_region_end);have p5:=two p4 λm T h=>h.ctl (g':=G (bU.at a7 [.code (.region 3 g3 false),.code (.seq (.region 4 g4 false) iM)]) cs) rfl (s5 _) (λw=>stepG_seq)
 have p6:=two p5 λm T h=>h.ctl (g':=G (bU.at a7 [.inRegion g3 [0],.code (.seq (.region 4 g4 false) iM)]) cs) rfl (s5 _) (λw=>by
  have hr:List.range g3.size=[0]:=ah
  rw[<-hr];exact stepG_region)
 have v7:a7.eval (.tmp 7)=pV w.heap.size:=by rw[Dd.eval];simp[ak,aC,up]
 have p7:=two p6 λm T h=>h.ctl rfl (s5 _) (λw=>WT v7 w);have mE:=old hE.c
 have p8:∃N m' T',runNT prog N (crowd gs w sl) T=(.next m',T')/\LS S (OfWg w.heap.size) (w.heap.size+1) (G (bU.at (a7.put ((g3[0]?).bind (·.dst)) (.tuple #[])) [.inRegion g3 [],.code (.seq (.region 4 g4 false) iM)]) cs) 0 (λx=>∃d,x=(wS w).at d) m' T':=by
  refine two p7 λm T ⟨cq,w',bF,q',h1,h2,h3,d,h4⟩=>?_;subst h1 h4
  obtain⟨N,xw,w2,xc,T2,q2,k1,k2,k3,k4,dd,k5⟩:=ajI (C:=cb) h3 h2 (by show(w.heap.push _)[w.heap.size]? =_;simp) aa aa (λx hx hs=>by
   rw[hS]at hs
   obtain⟨y,hy,h⟩:=hs
   obtain rfl:y=x:=by simpa using hy.symm
   rw[hx]at h
   rcases h with h|h
   ·exact mE.2.1 h
   ·omega)
  exact⟨N,_,T2,k1,xw,w2,xc,q2,rfl,k3,k4,dd,k5⟩
 obtain⟨ps3,af3,ty3,arS,ho3⟩:=QA;have ed:(g3[0]?).bind (·.dst)=some 12:=by rw[ho3];rfl
 rw[ed]at p8;have pb:=Dd.put (dst:=some 12) ai (.tuple #[]);obtain⟨a8,ea8⟩:∃a8,a8=a7.put (some 12) (.tuple #[]):=⟨_,rfl⟩;rw[<-ea8]at p8 pb;have p9:=two p8 λm T h=>h.ctl (g':=G (bU.at a8 [.code (.seq (.region 4 g4 false) iM)]) cs) rfl (s5 _) (λw=>stepG_region_end);have p10:=two p9 λm T h=>h.ctl (g':=G (bU.at a8 [.code (.region 4 g4 false),.code iM]) cs) rfl (s5 _) (λw=>stepG_seq)
 have p11:=two p10 λm T h=>h.ctl (g':=G (bU.at a8 [.inRegion g4 [0,1],.code iM]) cs) rfl (s5 _) (λw=>by
  have hr:List.range g4.size=[0,1]:=ah
  rw[<-hr];exact stepG_region)
 have u7:a8.eval (.tmp 7)=pV w.heap.size:=by rw[pb.eval];simp[ak,aC,up]
 have u2:a8.eval (.tmp 2)=pV cb:=by rw[pb.eval];simp[ak,aC,up,r2]
 have u3:a8.eval (.tmp 3)=pV kb:=by rw[pb.eval];simp[ak,aC,up,r3]
 have u4:a8.eval (.tmp 4)=pV sb:=by rw[pb.eval];simp[ak,aC,up,r4]
 have u5:a8.eval (.tmp 5)=pV ub:=by rw[pb.eval];simp[ak,aC,up,r5]
 have u6:a8.eval (.tmp 6)=pV db:=by rw[pb.eval];simp[ak,aC,up,r6]
 have ql:=two p11 λm T h=>h.ctl rfl (s5 _) (λw=>acR u7 u2 u3 u4 u5 u6 w);have Kj:=pb.put (dst:=some 13) ai (.func (.func 56) #[] (oS w.heap.size cb kb sb ub db));obtain⟨a9,ea9⟩:∃a9,a9=a8.put (some 13) (.func (.func 56) #[] (oS w.heap.size cb kb sb ub db)):=⟨_,rfl⟩;rw[<-ea9]at ql Kj;have u13:a9.eval (.tmp 13)=.func (.func 56) #[] (oS w.heap.size cb kb sb ub db):=by rw[Kj.eval];simp[ak,aC,up]
 obtain⟨N1,m1,T1,fD,QT,w1,MX,q1,rfl,g1,l1,d1,rfl⟩:=ql;have ago:=l1.pos;have gC:=old hE.u;have nN:=old hE.s;have zj:=old hE.d;have te:=old hE.k;have Gu:=old (hE.le _ _ hb);have cF:=old hE.h1;have dV:=old hE.h2;have lD:=old hE.h3;have BL:∀{x c:Nat} {o:Obj},J.f x=some o->J.f c=some nP->o≠nP->x≠c:=λh1 h2 h3 e=>by rw[e,h2]at h1;exact h3 (Option.some.inj h1).symm
 have nb:∀{x y:Nat} {o p:Obj},J.f x=some o->J.f y=some p->o≠p->x≠y:=λh1 h2 h3 e=>by rw[e,h2]at h1;exact h3 (Option.some.inj h1).symm
 have oc:∀{c:Array Value} {e:Nat} {z:Nat×Nat},Obj.cells c e z≠nP:=λh=>by simp[nP]at h
 let t:Tk:={W:=W,j:=QT.size,c1:=c1,c2:=c2,c3:=c3,cb:=cb,sb:=sb,ub:=ub,db:=db,wg:=w.heap.size,Jh:=auu,Bd:=w.heap.size+1,cs:=cs,cw:=[],Ip:=wgBlock 131 KK 0,hj:=ago,d12:=hE.d12,d13:=hE.d13,d23:=hE.d23
            gC:=⟨BL hE.u hE.h1 oc,BL hE.u hE.h2 oc,BL hE.u hE.h3 oc,aa,gC.2.1,aa⟩
            Hd:=⟨aa,aa,aa⟩}
 have ok:∀{x:Nat} {c:Array Value} {e:Nat} {z:Nat×Nat},J.f x=some (.cells c e z)->e≠120->t.Ok x:=λh he=>by have ho:=old h;exact⟨BL h hE.h1 oc,BL h hE.h2 oc,BL h hE.h3 oc,by show _≠w.heap.size;omega,nb h hE.u (λe=>by simp at e;exact he e.2.1),ho.2.1,by show _<w.heap.size+1;omega⟩
 have oH:t.Ok t.cb:=ok hE.c ai;have oks:t.Ok t.sb:=ok hE.s ai;have Mv:t.Ok t.db:=ok hE.d ai;have wQ:t.Ok bc:=ok (hE.le _ _ hb) ai;have xG:∀{b:Nat} {o:Obj},J.f b=some o->((wS w).at d1).heap[b]? =some o:=λh=>(aqV (old h).1).trans (old h).2.2
 have pa:t.K1 bc l ((wS w).at d1):=⟨⟨xG hE.u,aqW w⟩,xG hE.c,xG hE.s,(l[3]?).getD undef,by
  have:l.set 3 ((l[3]?).getD undef)=l:=by
   apply List.ext_getElem?
   intro i
   rw[List.getElem?_set]
   split
   ·rename_i h;subst h
    have:3<l.length:=by rw[mF.len];decide
    simp[this]
   ·rfl
  rw[this];exact xG (hE.le _ _ hb)⟩
 have hh:∃n,ei prog true (t.B1 (λb=>b=t.wg) bc l oH oks wQ).KW (t.B1 (λb=>b=t.wg) bc l oH oks wQ).Still (t.B1 (λb=>b=t.wg) bc l oH oks wQ).B (t.sS fr) n (G (bU.at a9 [.inRegion g4 [],.code iM]) cs):=by
  refine⟨_,.inl ⟨_,rfl,Way.ctl (n:=25) (λw=>stepG_region_end) rfl ?_⟩⟩;rw[ajX];refine Way.ctl (λw=>stepG_seq) rfl ?_;refine Way.ctl (λw=>stepG_block) rfl ?_;refine Way.ctl (λw=>stepG_loop) rfl ?_;refine aq1 (bc:=bc) (bg:=bg) (ph:=ph) (fr:=fr) hp (λw ⟨h1,h2,h3,r,h4⟩=>⟨⟨λb=>w.heap[b]?⟩,⟨h2,h3,_,_,h4,⟨?_,?_,?_,?_⟩⟩,λ_ _ h=>h⟩) (λa ha=>⟨.inr ⟨a,rfl,ha⟩,(Tk.UI oH oks wQ ha).lt⟩) Kj ⟨?_,?_,?_,?_,?_⟩
  ·have:=u2;rw[pb.eval]at this;simpa[aC,up,ak]using this
  ·have:=u4;rw[pb.eval]at this;simpa[aC,up,ak]using this
  ·have:=u5;rw[pb.eval]at this;simpa[aC,up,ak]using this
  ·have:=u6;rw[pb.eval]at this;simpa[aC,up,ak]using this
  ·simp only[aC,up];rfl
  ·simpa using mF.len
  ·simpa using mF.g
  ·simpa using mF.ph
  ·simpa using mF.fr
 obtain⟨n,hh⟩:=hh;have xA:(t.B1 (λb=>b=t.wg) bc l oH oks wQ).S=S:=by rw[hS];rfl
 have agD:cQ (λb=>auu b\/b=w.heap.size\/b=c1\/b=c2\/b=c3) ((wS w).at d1) (yj J c1 c2 c3):=by
  refine⟨λ{b o} h=>xG (Hp.alY _ _ _ _ h),λb hb=>?_,λb hb=>?_⟩
  ·simp only[yj,Hp.only];split
   ·rename_i aE;rcases hb with hb|rfl|rfl|rfl|rfl
    ·exact e4.fX b hb
    ·cases e:J.f w.heap.size with
     |none=>rfl
     |some o=>exact absurd (old e).1 aa
    ·exact absurd rfl aE.1
    ·exact absurd rfl aE.2.1
    ·exact absurd rfl aE.2.2
   ·rfl
  ·show b<(wS w).heap.size;rw[Nv];rcases hb with hb|rfl|rfl|rfl|rfl
   ·have:=e4.low b hb;omega
   ·omega
   ·omega
   ·omega
   ·omega
 have aft:∀b,(t.B1 (λb=>b=t.wg) bc l oH oks wQ).Hid b->(λb=>auu b\/b=w.heap.size\/b=c1\/b=c2\/b=c3) b:=by
  intro b hb;rcases hb with hb|hb|⟨x,hx,hb|hb⟩
  ·exact .inr (.inl hb)
  ·rcases hb with rfl|rfl|rfl
   ·exact .inr (.inr (.inl rfl))
   ·exact .inr (.inr (.inr (.inl rfl)))
   ·exact .inr (.inr (.inr (.inr rfl)))
  ·obtain⟨y,hy,h⟩:=hb;obtain rfl:y=x:=by simpa using hy.symm
   rcases h with h|h
   ·exact .inl (hx▸h)
   ·exact .inr (.inl (hx▸h))
  ·obtain⟨y,hy,h⟩:=hb;obtain rfl:y=x:=by simpa using hy.symm
   exact .inr (.inl (hx▸h))
 obtain⟨N2,m2,T2,bZ,Ai⟩:=l1.spawn g1 rfl MX (λdd=>adO u13 _) (D:=t.B1 (λb=>b=t.wg) bc l oH oks wQ) (s:=t.sS fr) (U:=yj J c1 c2 c3) (auu:=λb=>auu b\/b=w.heap.size\/b=c1\/b=c2\/b=c3) rfl (by show _<=(wS w).heap.size;rw[Nv];exact Nat.le_refl _) xA rfl hh pa
  (λc cS=>by
   rcases cS with rfl|rfl|rfl
   ·exact⟨0,xG hE.h1⟩
   ·exact⟨0,xG hE.h2⟩
   ·exact⟨0,xG hE.h3⟩) (by show _<=(wS w).heap.size;rw[Nv];exact Nat.le_refl _) ⟨e5.os,e5.tape,e5.output⟩
  agD aft
 exact⟨t,oH,oks,Mv,wQ,_,m2,T2,rfl,rfl,rfl,rfl,rfl,rfl,rfl,rfl,rfl,rfl,runNT_then fD bZ,Ai⟩
end
section
open Go.Conc
open Go.ConcX (wgBlock KK)
def acp(F:FS){W:World}{a:F.γ}{kO φ0:Hp}{ch:List UInt8}(gB:F.oH a ch)(hI:F.aut a kO)(hd:kO.dr φ0)(hp:F.ph a≠5)(hn:ch.length<=4611686018427387904):
 aw (solo prog W) 40 #[pV F.bc,.string (B ch)] (kO.bA φ0) λe J=>e=.returned (.tuple #[])/\∃a' ae,F.Loop (F.add a ch) a'/\F.aut a' ae/\ae.dr φ0/\J=ae.bA φ0:=by
 intro cs m T hm;obtain⟨N1,m1,T1,g1,J,fD,qu,cb,kb,sb,ub,db,c1,c2,c3,hE,I,ac,ha,r2,r3,r4,r5,r6,rfl⟩:=entry (E:=solo prog W) (U:=kO.bA φ0) (bc:=F.bc) (ch:=ch) (cs:=cs) m T hm;obtain⟨l,hl,mF,iC⟩:=F.conn hI;obtain⟨t,oH,oks,Mv,wQ,N2,m2,T2,z0,z1,z2,z3,z4,z5,z6,z7,z8,z9,bZ,Ai⟩:=aco (W:=W) (bg:=F.bg) (ph:=F.ph a) (fr:=F.fr a) qu ha r2 r3 r4 r5 r6 hE (Hp.iQ hl) mF hp;subst z1 z2 z3 z4 z5 z6 z7;have s0:∀{b:Nat},(kO.bA φ0).f b=none->kO.f b=none:=λh=>tY (Hp.aji kO φ0) h
 have p0:∀{b:Nat},(kO.bA φ0).f b=none->φ0.f b=none:=λh=>by have:=s0 h;rw[Hp.lS this]at h;exact h
 obtain⟨φ,By⟩:∃φ,φ=((φ0.set t.cb (.cells #[pV F.bc] 70 (0,0))).set t.sb (.cells #[.chan (some t.c1)] 119 (0,0))).set t.db (.cells #[.chan (some t.c3)] 121 (0,0)):=⟨_,rfl⟩;have nb:∀{x y:Nat} {o p:Obj},J.f x=some o->J.f y=some p->o≠p->x≠y:=λh1 h2 h3 e=>by rw[e,h2]at h1;exact h3 (Option.some.inj h1).symm
 have ncs:t.cb≠t.sb:=nb hE.c hE.s al;have TJ:t.cb≠t.db:=nb hE.c hE.d al;have nsd:t.sb≠t.db:=nb hE.s hE.d al;have nuc:t.ub≠t.cb:=nb hE.u hE.c al;have nus:t.ub≠t.sb:=nb hE.u hE.s al;have nud:t.ub≠t.db:=nb hE.u hE.d al;have fc:φ.f t.cb=some (.cells #[pV F.bc] 70 (0,0)):=by rw[By];simp[Hp.set,ncs,TJ]
 have fs:φ.f t.sb=some (.cells #[.chan (some t.c1)] 119 (0,0)):=by rw[By];simp[Hp.set,nsd]
 have fd:φ.f t.db=some (.cells #[.chan (some t.c3)] 121 (0,0)):=by rw[By];simp[Hp.set]
 have fo:∀{b:Nat},b≠t.cb->b≠t.sb->b≠t.db->φ.f b=φ0.f b:=λh1 h2 h3=>by rw[By];simp[Hp.set,h1,h2,h3]
 have R2:φ0.le φ:=by
  intro b o hb;have h1:b≠t.cb:=λe=>by rw[e,p0 hE.nc]at hb;cases hb
  have h2:b≠t.sb:=λe=>by rw[e,p0 hE.ns]at hb;cases hb
  have h3:b≠t.db:=λe=>by rw[e,p0 hE.nd]at hb;cases hb
  rw[fo h1 h2 h3];exact hb
 have afa:kO.dr φ:=by
  intro b;by_cases h1:b=t.cb
  ·subst h1;exact .inl (s0 hE.nc)
  by_cases h2:b=t.sb
  ·subst h2;exact .inl (s0 hE.ns)
  by_cases h3:b=t.db
  ·subst h3;exact .inl (s0 hE.nd)
  rw[fo h1 h2 h3];exact hd b
 have nC:Bx F t.cb t.sb t.db t.c1 t.c3 φ:=⟨fc,fs,fd⟩
 have gC:(kO.bA φ).f t.ub=none:=by rw[Hp.lS (s0 hE.nu),fo nuc nus nud];exact p0 hE.nu
 have ala:∀{b:Nat} {o:Obj},J.f b=some o->o≠nP->b≠t.c1/\b≠t.c2/\b≠t.c3:=λh ho=>⟨nb h hE.h1 ho,nb h hE.h2 ho,nb h hE.h3 ho⟩;have SL:∀{b:Nat} {o:Obj},J.f b=some o->b≠t.c1/\b≠t.c2/\b≠t.c3->(yj J t.c1 t.c2 t.c3).f b=some o:=λh hb=>Hp.EN h hb;have oc:∀{c:Array Value} {e:Nat} {z:Nat×Nat},Obj.cells c e z≠nP:=λh=>by simp[nP]at h
 have od:∀{b:Nat} {c:Array Value} {e:Nat} {z:Nat×Nat},J.f b=some (.cells c e z)->(yj J t.c1 t.c2 t.c3).f b=some (.cells c e z):=λh=>SL h (ala h oc)
 have hle:(kO.bA φ).le (yj J t.c1 t.c2 t.c3):=by
  intro b o hb;by_cases h1:b=t.cb
  ·subst h1;rw[Hp.lS (s0 hE.nc),fc]at hb;cases hb;exact od hE.c
  by_cases h2:b=t.sb
  ·subst h2;rw[Hp.lS (s0 hE.ns),fs]at hb;cases hb;exact od hE.s
  by_cases h3:b=t.db
  ·subst h3;rw[Hp.lS (s0 hE.nd),fd]at hb;cases hb;exact od hE.d
  have kD:(kO.bA φ0).f b=some o:=by simp only[Hp.bA]at hb|-;rw[fo h1 h2 h3]at hb;exact hb
  refine SL (hE.le _ _ kD) ⟨?_,?_,?_⟩
  ·intro e;rw[e,hE.n1]at kD;cases kD
  ·intro e;rw[e,hE.n2]at kD;cases kD
  ·intro e;rw[e,hE.n3]at kD;cases kD
 have hW:Bw t F.bc kb l ch (yj J t.c1 t.c2 t.c3):=⟨od hE.c,od hE.k,od hE.s,od hE.u,od hE.d,od (hE.le _ _ (Hp.iQ hl))⟩;obtain⟨N3,m3,T3,a',ae,g',cw,eN,afV,C3,jI,qa,hT',ru⟩:=acu F gB hI afa nC gC hp hle hW hn iC mF hl Ai;have HD:∀{b:Nat},t.Ok b->Tk.Ok {t with cw:=cw} b:=λh=>⟨h.n1,h.n2,h.n3,h.nw,h.nu,h.nj,h.lt⟩;obtain⟨N4,m4,T4,a4,uC,s9,B9⟩:=acs (t:={t with cw:=cw}) (bc:=F.bc) (U:=ae.bA φ) (vb:=pV F.bc) z9 (HD oH) (HD Mv) TJ qa (Hp.uT jI _ _ fc) (Hp.uT jI _ _ fd) hT' ru
 have afS:(ae.bA φ0).le (ae.bA φ):=by
  intro b o hb;rcases Hp.Im hb with h1|⟨h1,h2⟩
  ·exact Hp.iQ h1
  ·rw[Hp.lS h1];exact R2 _ _ h2
 have ae7:ae.dr φ0:=by
  intro b;rcases jI b with h|h
  ·exact .inl h
  ·right
   cases e:φ0.f b with
   |none=>rfl
   |some o=>rw[R2 _ _ e]at h;cases h
 have kH:ax (solo prog W) (G (bU.at a4 [.inRegion ml []]) cs) (ae.bA φ) λg J=>∃e fr,g=G fr cs/\fr.fn=40/\Leaving prog fr J e/\(e=.returned (.tuple #[])/\∃a' ae,F.Loop (F.add a ch) a'/\F.aut a' ae/\ae.dr φ0/\J=ae.bA φ0):=by
  refine ax.iR (J:=ae.bA φ0) ?_ afS;refine ax.ctl (λw=>stepG_region_end) rfl rfl ?_;refine ax.ctl (λw=>stepG_end) rfl rfl (ax.here ⟨.returned (.tuple #[]),_,rfl,rfl,⟨rfl,s9,rfl,_,func40,?_⟩,rfl,a',ae,afV,C3,ae7,rfl⟩);have:(results f40 a4.tmps)=pure (.tuple #[]):=by simp[results,f40]
  show wpS prog (results f40 a4.tmps) _ _ _;rw[this];exact⟨rfl,rfl⟩
 have Vh:yN prog t.W (G (bU.at a4 [.inRegion ml []]) t.cs) (ae.bA φ) m4 T4:=B9;rw[z0,z8]at Vh;obtain⟨N5,m5,T5,g5,dx,G3,Aj,fG⟩:=kH m4 T4 Vh;exact⟨_,m5,T5,g5,dx,runNT_then (runNT_then (runNT_then (runNT_then fD bZ) eN) uC) G3,Aj,fG⟩
end
variable {P:Program}{I:av}{U:Hp}
def ara{E:Env P}{N:Nat}{a b c:Code}{Q:Post}{ds:List Deferred}(h:cO E N (.seq (.seq a b) c) Q I ds U):cO E N (.seq a (.seq b c)) Q I ds U:=by
 have e:lQ (cO E N b (lQ (cO E N c Q) Q)) (lQ (cO E N c Q) Q)=lQ (cO E N b (lQ (cO E N c Q) Q)) Q:=by funext e;cases e<;>rfl
 show cO E N a (lQ (cO E N b (lQ (cO E N c Q) Q)) Q) I ds U;rw[<-e];exact h
variable {J:Hp}{b:Nat}{v:Value}
def nQ{a:Tmp}{t:TypeId}(ha:I a=pV b)(ht:dq P t=true)(h:jg P t ⟨b,0,none⟩ J=some v):lW P #[.cell a t] I J v:=by unfold lW;have h2:=wI (Q:=λv' ae=>v'=v/\ae=J) (H:=λ_ _=>False) ht (uS h ⟨rfl,rfl⟩);simp[asAddr,ha];exact h2
def apS:cC prog 135=5:=ah
def zJ:dq prog 135=true:=ah
def zL{a1 a2 a3 a4 a5:Value}{e:Nat}(h:J.f b=some (.cells #[a1,a2,a3,a4,a5] e (0,0))):jg prog 135 ⟨b,0,none⟩ J=some (.agg #[a1,a2,a3,a4,a5]):=by unfold jg;rw[if_pos WV,apS];simp[cellsOf,h]
variable {l:List Value}
def vj{i:Nat}(h:l[i]? =some v):l.set i v=l:=by
 apply List.ext_getElem?;intro j;rw[List.getElem?_set];split
 ·rename_i e;subst e;have:i<l.length:=(List.getElem?_eq_some_iff.1 h).1;simp[this,<-h]
 ·rfl
def G1{o:Obj}(h:U.f b=some o):U.set b o=U:=Hp.ext' λx=>by
 by_cases e:x=b
 ·subst e;rw[Hp.bD,h]
 ·rw[Hp.aM _ e]
variable {bc ub:Nat}{o:Obj}
def S9(h1:J.f bc=some o)(h2:∀x,x≠bc->x≠ub->J.f x=U.f x)(gC:U.f ub=none)(aE:bc≠ub):(U.set bc o).le J:=λx p hx=>by
 by_cases e:x=bc
 ·subst e;rw[Hp.bD]at hx;rw[h1];exact hx
 ·rw[Hp.aM _ e]at hx;have e2:x≠ub:=bl hx gC;rw[h2 x e e2];exact hx
def LM{ab:Nat}(h1:J.f bc=some o)(h2:∀x,x≠bc->x≠ab->x≠ub->J.f x=U.f x)(gC:U.f ub=none)(dm:U.f ab=none):(U.set bc o).le J:=λx p hx=>by
 by_cases e:x=bc
 ·subst e;rw[Hp.bD]at hx;rw[h1];exact hx
 ·rw[Hp.aM _ e]at hx;have e2:x≠ub:=bl hx gC;have e3:x≠ab:=bl hx dm;rw[h2 x e e3 e2];exact hx
def pT:List UInt8:=[65,77,81,80,0,0,9,1]
def dK(gr:Bool)(s:List UInt8)(size:Int):Un×Bool×List UInt8:=
 if gr=false then
  let n:=min s.length 8
  if s.take n≠pT.take n then(⟨0,0,[],true,true⟩,false,s)
  else if n=8 then(⟨0,0,[],true,false⟩,true,s.drop 8)
  else(⟨0,0,[],false,false⟩,false,s)
 else if s.length<7 then(⟨0,0,[],false,false⟩,true,s)
 else
  let kind:=num (s.take 1)
  let ch:=num ((s.drop 1).take 2)
  let n:=num ((s.drop 3).take 4)
  let r:=s.drop 7
  let gv:Bool:=if kind=1\/kind=2\/kind=3 then decide ((n:Int)>size-8)else if kind=8 then decide (n>0\/ch≠0)else true
  if gv=false/\r.length<=n then(⟨0,0,[],false,false⟩,true,s)
  else if gv then(⟨kind,ch,[],false,true⟩,true,s)
  else(⟨kind,ch,r.take n,false,decide (num ((r.drop n).take 1)≠206)⟩,true,r.drop (n+1))
variable {E:Env prog}{et:Nat}{s:List UInt8}{size:Int}
def akL(hb:U.f bc=some (.cells l.toArray et (0,0)))(iC:l[3]? =some (.string (B s)))(nH:l[4]? =some (.bool false)):
 aw E 104 #[.pointer (some ⟨bc,3,none⟩),.int .i64 size] U λe' ae=>e'=.returned (uV (dK false s size).1)/\(U.set bc (.cells ((l.set 3 (.string (B (dK false s size).2.2))).set 4 (.bool (dK false s size).2.1)).toArray et (0,0))).le ae:=by
 refine aV func104 ntmps104 results104 λQ aD an aB=>?_;refine ag ?_;refineλub gC=>?_;refine fR gC hb iC nH ?_;obtain⟨n,hn⟩:∃n,n=min s.length 8:=⟨_,rfl⟩;have KM:min (s.length:Int) 8=(n:Int):=aa;refine Tt (a:=(s.length:Int)) (b:=8) au au ?_;rw[KM];refine ag ?_;have d0:(0:Int)<=n:=aa;have d1:(n:Int)<=s.length:=aa;have d2:(n:Int)<=8:=aa;refine bJ 6 ?_;simp only[go_sem,Nat.reduceLT,Nat.reduceBEq,Nat.reduceAdd,d0,d1];refine⟨aa,?_⟩;refine ag ?_;refine amv (b:=decide (s.take n≠pT.take n)) ?_ ?_
 ·simp only[go_sem,seval,Nat.sub_zero];intro hg;have fH:¬s.take n=pT.take n:=aY hg;have hu:dK false s size=(⟨0,0,[],true,true⟩,false,s):=by simp[dK,<-hn,fH]
  rw[hu]at an;refine an (nQ (b:=ub) au zJ (zL au)) ao ⟨by simp[uV],?_⟩;rw[vj iC,vj nH,G1 hb];exact Hr gC
 intro hg;have fH:s.take n=pT.take n:=aY hg;have bd:4<l.length:=(List.getElem?_eq_some_iff.1 nH).1;have aE:bc≠ub:=bl gC hb;have atj:∀o,(U.set bc o).f ub=none:=λo=>by rw[Hp.aM _ (λe=>aE e.symm)];exact gC
 have g4:∀v,(l.set 4 v)[4]? =some v:=λv=>by simp[bd]
 have g3:∀v,(l.set 4 v)[3]? =some (.string (B s)):=λv=>by rw[List.getElem?_set_ne ai];exact iC
 have xR:∀o x,((U.set ub o).set bc x).f ub=some o:=λo x=>by rw[Hp.aM _ (λe=>aE e.symm),Hp.bD]
 have afW:3<l.length:=aa;by_cases h8:n=8
 ·have d3:((n:Int)=8):=aa;have d4:(8:Int)<=s.length:=aa;simp only[go_sem,seval,gC,hb,d3,bd,g4,d4,afW,xR]
  have hu:dK false s size=(⟨0,0,[],true,false⟩,true,s.drop 8):=by have:=fH;simp[dK,<-hn,h8]at this|-;exact this
  rw[hu]at an;refine an (nQ (b:=ub) au zJ (zL au)) ao ⟨by simp[uV],?_⟩;refine S9 (ub:=ub) ?_ (λx h1 h2=>?_) gC aE
  ·rw[Hp.aM _ aE,Hp.bD,List.set_comm _ _ ai];have:List.take (s.length-8) (s.drop 8)=s.drop 8:=List.take_of_length_le al;rw[this]
  ·simp[Hp.set,h1,h2]
 ·have d3:¬((n:Int)=8):=aa;simp only[go_sem,seval,gC,hb,d3,bd,g4,xR]
  have hu:dK false s size=(⟨0,0,[],false,false⟩,false,s):=by have:=fH;simp[dK,<-hn,h8]at this|-;exact this
  rw[hu]at an;refine an (nQ (b:=ub) au zJ (zL au)) ao ⟨by simp[uV],?_⟩;refine S9 (ub:=ub) ?_ (λx h1 h2=>?_) gC aE
  ·rw[vj iC,Hp.aM _ aE,Hp.bD]
  ·simp[Hp.set,h1,h2]
def akK(hb:U.f bc=some (.cells l.toArray et (0,0)))(iC:l[3]? =some (.string (B s)))(nH:l[4]? =some (.bool true))(hs:s.length<7):
 aw E 104 #[.pointer (some ⟨bc,3,none⟩),.int .i64 size] U λe' ae=>e'=.returned (uV (dK true s size).1)/\(U.set bc (.cells ((l.set 3 (.string (B (dK true s size).2.2))).set 4 (.bool (dK true s size).2.1)).toArray et (0,0))).le ae:=by
 refine aV func104 ntmps104 results104 λQ aD an aB=>?_;refine ag ?_;refineλub gC=>?_;have d0:(s.length:Int)<7:=aa;refine mr gC hb iC nH d0 ?_;have hu:dK true s size=(⟨0,0,[],false,false⟩,true,s):=by simp[dK,hs]
 rw[hu]at an;refine an (nQ (b:=ub) au zJ (zL au)) ao ⟨by simp[uV],?_⟩;rw[vj iC,vj nH,G1 hb];exact Hr gC
def akJ(hb:U.f bc=some (.cells l.toArray et (0,0)))(iC:l[3]? =some (.string (B s)))(nH:l[4]? =some (.bool true))(hs:7<=s.length)(gU:0<=size/\size<=1000000):
 aw E 104 #[.pointer (some ⟨bc,3,none⟩),.int .i64 size] U λe' ae=>e'=.returned (uV (dK true s size).1)/\(U.set bc (.cells ((l.set 3 (.string (B (dK true s size).2.2))).set 4 (.bool (dK true s size).2.1)).toArray et (0,0))).le ae:=by
 refine aV func104 ntmps104 results104 λQ aD an aB=>?_
 iterate 7 refine ara ?_
 refine fL λK hK=>?_;refine ag ?_;refineλub gC=>?_;have d0:¬(s.length:Int)<7:=aa;refine mr gC hb iC nH d0 ?_;refineλab dm=>?_;have tf:ub≠ab:=bl dm aX;have Gt:U.f ab=none:=by rw[Hp.aM _ (λe=>tf e.symm)]at dm;exact dm
 refine ag ?_;have nb:ub≠bc:=bl gC hb;have na:ab≠bc:=bl Gt hb;refine aL (EM (w:=1) (c:=[.string (B s)]) (s:=s) aX rfl aa aa) ?_;rintro v fM ⟨hv,h1⟩
 cases hv
 have a1:fM.f ab=some (.cells #[.string (B (s.drop 1))] 289 (0,0)):=by rw[h1,Hp.bD];rfl
 have u1:fM.f ub=some (.cells #[.int .i64 0,.int .i64 0,.string (B []),.bool false,.bool false] 135 (0,0)):=by rw[h1,Hp.aM _ tf,Hp.aM _ tf,Hp.bD];rfl
 have o1:∀x,x≠ab->x≠ub->fM.f x=U.f x:=λx e1 e2=>by rw[h1,Hp.aM _ e1,Hp.aM _ e1,Hp.aM _ e2]
 clear h1;refine ag ?_;refine aL (EM (w:=2) (c:=[.string (B (s.drop 1))]) (s:=s.drop 1) a1 rfl aa (by simp;omega)) ?_;rintro v cV ⟨hv,h2⟩
 cases hv
 have a2:cV.f ab=some (.cells #[.string (B (s.drop 3))] 289 (0,0)):=by rw[h2,Hp.bD];simp[List.drop_drop]
 have u2:=u1;rw[<-Hp.aM (U:=fM) (.cells ([.string (B (s.drop 1))].set 0 (.string (B ((s.drop 1).drop 2)))).toArray 289 (0,0)) tf]at u2;have u2:cV.f ub=some (.cells #[.int .i64 0,.int .i64 0,.string (B []),.bool false,.bool false] 135 (0,0)):=by rw[h2];exact u2
 have o2:∀x,x≠ab->x≠ub->cV.f x=U.f x:=λx e1 e2=>by rw[h2,Hp.aM _ e1];exact o1 x e1 e2
 clear h2 a1 u1 o1;obtain⟨kind,GO⟩:∃k,k=num (s.take 1):=⟨_,rfl⟩;obtain⟨ch,dO⟩:∃k,k=num ((s.drop 1).take 2):=⟨_,rfl⟩;rw[<-GO,<-dO];refine aJ u2 ?_;have Oi:∀o,(cV.set ub o).f ab=some (.cells #[.string (B (s.drop 3))] 289 (0,0)):=λo=>by rw[Hp.aM _ (λe=>tf e.symm)];exact a2
 refine aL (EM (w:=4) (c:=[.string (B (s.drop 3))]) (s:=s.drop 3) (Oi _) rfl aa (by simp;omega)) ?_;rintro v dp ⟨hv,h3⟩
 cases hv
 have a3:dp.f ab=some (.cells #[.string (B (s.drop 7))] 289 (0,0)):=by rw[h3,Hp.bD];simp[List.drop_drop]
 have u3:dp.f ub=some (.cells #[.int .i64 kind,.int .i64 ch,.string (B []),.bool false,.bool false] 135 (0,0)):=by rw[h3,Hp.aM _ tf,Hp.bD];rfl
 have o3:∀x,x≠ab->x≠ub->dp.f x=U.f x:=λx e1 e2=>by rw[h3,Hp.aM _ e1,Hp.aM _ e2];exact o2 x e1 e2
 clear h3 a2 Oi u2 o2;obtain⟨n,hn⟩:∃k,k=num ((s.drop 3).take 4):=⟨_,rfl⟩;rw[<-hn];refine aJ u3 ?_;have as9:=TU ((s.drop 3).take 4);have IS:∀o,(dp.set ub o).f ab=some (.cells #[.string (B (s.drop 7))] 289 (0,0)):=λo=>by rw[Hp.aM _ (λe=>tf e.symm)];exact a3
 have c1:IntKind.wrap .i64 (size-8)=size-8:=wrap64 aa aa
 have tail:∀(I:av) (w:Bool),I 0=.pointer (some ⟨bc,3,none⟩)->I 4=pV ub->I 7=pV ab->I 8=Value.int .i64 n->(if kind=1\/kind=2\/kind=3 then decide ((n:Int)>size-8)else if kind=8 then decide (n>0\/ch≠0)else true)=w->K I [] (dp.set ub (.cells #[.int .i64 kind,.int .i64 ch,.string (B []),.bool false,.bool w] 135 (0,0))):=by
  intro I w h0 h4 h7 h8 hw;refine hK _ _ _ ?_
  cases w with
  |true=>
   refine aJ h4 ?_
   have hu:dK true s size=(⟨kind,ch,[],false,true⟩,true,s):=by simp only[dK,<-GO,<-dO,<-hn,hw];simp[Nat.not_lt.2 hs]
   rw[hu]at an;refine an (nQ (b:=ub) (aQ h4) zJ (zL au)) ao ⟨by simp[uV],?_⟩;rw[vj iC,vj nH];refine LM (ub:=ub) (ab:=ab) ?_ (λx e1 e2 e3=>?_) gC Gt
   ·rw[Hp.aM _ (λe=>nb e.symm),o3 bc (λe=>na e.symm) (λe=>nb e.symm)];exact hb
   ·rw[Hp.aM _ e3];exact o3 x e2 e3
  |false=>
   by_cases eV:(s.drop 7).length<=n
   ·have hr:((s.drop 7).length:Int)<=n:=aa;refine mr h4 h7 h8 IS hr ?_
    have hu:dK true s size=(⟨0,0,[],false,false⟩,true,s):=by simp only[dK,<-GO,<-dO,<-hn,hw];simp at eV;simp[Nat.not_lt.2 hs,eV]
    rw[hu]at an;refine an (nQ (b:=ub) (aQ h4) zJ (zL au)) ao ⟨by simp[uV],?_⟩;rw[vj iC,vj nH];refine LM (ub:=ub) (ab:=ab) ?_ (λx e1 e2 e3=>?_) gC Gt
    ·rw[Hp.aM _ (λe=>nb e.symm),o3 bc (λe=>na e.symm) (λe=>nb e.symm)];exact hb
    ·rw[Hp.aM _ e3];exact o3 x e2 e3
   have hr:¬((s.drop 7).length:Int)<=n:=aa;refine mr h4 h7 h8 IS hr ?_;refine aL (Ng (n:=(n:Int)) (c:=[.string (B (s.drop 7))]) (s:=s.drop 7) (IS _) rfl aa aa) ?_;rintro v fU ⟨hv,sY⟩
   cases hv
   rw[Int.toNat_natCast]at sY|-;have a4:fU.f ab=some (.cells #[.string (B ((s.drop 7).drop n))] 289 (0,0)):=by rw[sY,Hp.bD];rfl
   have u4:fU.f ub=some (.cells #[.int .i64 kind,.int .i64 ch,.string (B []),.bool false,.bool false] 135 (0,0)):=by rw[sY,Hp.aM _ tf,Hp.bD]
   have o4:∀x,x≠ab->x≠ub->fU.f x=U.f x:=λx e1 e2=>by rw[sY,Hp.aM _ e1,Hp.aM _ e2];exact o3 x e1 e2
   clear sY;refine bN h4 h7 u4 ?_;have WO:∀o,(fU.set ub o).f ab=some (.cells #[.string (B ((s.drop 7).drop n))] 289 (0,0)):=λo=>by rw[Hp.aM _ (λe=>tf e.symm)];exact a4
   refine aL (EM (w:=1) (c:=[.string (B ((s.drop 7).drop n))]) (s:=(s.drop 7).drop n) (WO _) rfl aa (by simp at eV|-;omega)) ?_;rintro v fY ⟨hv,h5⟩
   cases hv
   have a5:fY.f ab=some (.cells #[.string (B ((s.drop 7).drop (n+1)))] 289 (0,0)):=by rw[h5,Hp.bD];simp[List.drop_drop,Nat.add_assoc]
   have u5:fY.f ub=some (.cells #[.int .i64 kind,.int .i64 ch,.string (B ((s.drop 7).take n)),.bool false,.bool false] 135 (0,0)):=by rw[h5,Hp.aM _ tf,Hp.bD];rfl
   have o5:∀x,x≠ab->x≠ub->fY.f x=U.f x:=λx e1 e2=>by rw[h5,Hp.aM _ e1,Hp.aM _ e2];exact o4 x e1 e2
   clear h5;obtain⟨z,hz⟩:∃k,k=num (((s.drop 7).drop n).take 1):=⟨_,rfl⟩;rw[<-hz];have WQ:∀o,(fY.set ub o).f ab=some (.cells #[.string (B ((s.drop 7).drop (n+1)))] 289 (0,0)):=λo=>by rw[Hp.aM _ (λe=>tf e.symm)];exact a5
   have b5:∀o,(fY.set ub o).f bc=some (.cells l.toArray et (0,0)):=λo=>by rw[Hp.aM _ (λe=>nb e.symm),o5 bc (λe=>na e.symm) (λe=>nb e.symm)];exact hb
   have bd:3<l.length:=(List.getElem?_eq_some_iff.1 iC).1;have v5:∀o o',((fY.set ub o).set bc o').f ub=some o:=λo o'=>by rw[Hp.aM _ nb,Hp.bD]
   refine jl h0 h4 h7 u5 WQ b5 bd v5 ?_
   have hu:dK true s size=(⟨kind,ch,(s.drop 7).take n,false,decide (z≠206)⟩,true,(s.drop 7).drop (n+1)):=by simp only[dK,<-GO,<-dO,<-hn,<-hz,hw];simp at eV;simp[Nat.not_lt.2 hs,Nat.not_le.2 eV]
   rw[hu]at an;refine an (nQ (b:=ub) (aQ h4) zJ (zL au)) ao ⟨by simp[uV];omega,?_⟩;refine LM (ub:=ub) (ab:=ab) ?_ (λx e1 e2 e3=>?_) gC Gt
   ·rw[Hp.aM _ (λe=>nb e.symm),Hp.bD];have:(l.set 3 (.string (B ((s.drop 7).drop (n+1)))))[4]? =some (.bool true):=by rw[List.getElem?_set_ne ai];exact nH
    rw[vj this]
   ·rw[Hp.aM _ e3,Hp.aM _ e1,Hp.aM _ e3];exact o5 x e2 e3
 by_cases k1:(kind:Int)=1
 ·simp only[go_sem,seval,u3,eq_true k1,c1];refine tail _ _ ?_ ?_ ?_ ?_ (by rw[if_pos aa])<;>exact au
 by_cases k2:(kind:Int)=2
 ·simp only[go_sem,seval,u3,k1,eq_true k2,c1];refine tail _ _ ?_ ?_ ?_ ?_ (by rw[if_pos aa])<;>exact au
 by_cases k3:(kind:Int)=3
 ·simp only[go_sem,seval,u3,k1,k2,eq_true k3,c1];refine tail _ _ ?_ ?_ ?_ ?_ (by rw[if_pos aa])<;>exact au
 by_cases k8:(kind:Int)=8
 ·by_cases Bp:(n:Int)>0
  ·simp only[go_sem,seval,u3,k1,k2,k3,eq_true k8,Bp];refine tail _ true ?_ ?_ ?_ ?_ (by rw[if_neg aa,if_pos aa];simp;omega)<;>exact au
  ·simp only[go_sem,seval,u3,k1,k2,k3,eq_true k8,Bp];refine tail _ (decide ((ch:Int)≠0)) ?_ ?_ ?_ ?_ (by rw[if_neg aa,if_pos aa];congr 1;simp;omega)<;>exact au
 ·refine mr u3 k1 k2 k3 k8 ?_;refine tail _ true ?_ ?_ ?_ ?_ (by rw[if_neg aa,if_neg aa])<;>exact au
def akI{gr:Bool}(hb:U.f bc=some (.cells l.toArray et (0,0)))(iC:l[3]? =some (.string (B s)))(nH:l[4]? =some (.bool gr))(gU:0<=size/\size<=1000000):
 aw E 104 #[.pointer (some ⟨bc,3,none⟩),.int .i64 size] U λe' ae=>e'=.returned (uV (dK gr s size).1)/\(U.set bc (.cells ((l.set 3 (.string (B (dK gr s size).2.2))).set 4 (.bool (dK gr s size).2.1)).toArray et (0,0))).le ae:=by
 cases gr with
 |false=>exact akL hb iC nH
 |true=>
  rcases Nat.lt_or_ge s.length 7 with h|h
  ·exact akK hb iC nH h
  ·exact akJ hb iC nH h gU
variable {bg:Nat}{lg:List Value}{out:List UInt8}{clock:Int}
def UY(hb:U.f bc=some (.cells l.toArray 90 (0,0)))(hg:U.f bg=some (.cells lg.toArray 74 (0,0)))(hl:l.length=12)(h0:l[0]? =some (pV bg))(bR:l[11]? =some (.string (B out)))(hc:lg[6]? =some (.int .i64 clock))(hlen:out.length+s.length<=9223372036854775807)(aE:bg≠bc):
 aw E 43 #[pV bc,.string (B s)] U λe' ae=>e'=.returned (.tuple #[])/\ae=U.set bc (.cells ((l.set 11 (.string (B (out++s)))).set 9 (.int .i64 clock)).toArray 90 (0,0)):=by
 refine aV func43 ntmps43 results43 λQ aD an aB=>?_;have g0:∀v,(l.set 11 v)[0]? =some (pV bg):=λv=>by rw[List.getElem?_set_ne ai];exact h0
 have fH:∀o,(U.set bc o).f bg=some (.cells lg.toArray 74 (0,0)):=λo=>by rw[Hp.aM _ aE];exact hg
 refine oK hb bR hlen hl g0 fH hc ?_;exact aD dz ao ⟨rfl,rfl⟩
def aaa{ch cl me:Nat}{xs:List Arg}(hb:U.f bc=some (.cells l.toArray 90 (0,0)))(hg:U.f bg=some (.cells lg.toArray 74 (0,0)))(hl:l.length=12)(h0:l[0]? =some (pV bg))(bR:l[11]? =some (.string (B out)))(hc:lg[6]? =some (.int .i64 clock))(aE:bg≠bc)(hv:Ap U xs v)(gB:∀a∈xs,lr a)(hn:xs.length<=1000)(dO:ch<9223372036854775808)(aH:cl<9223372036854775808)(aO:me<9223372036854775808)(gn:(dg xs).length<=10000000)(hlen:out.length+(ck ch cl me xs).length<=9223372036854775807):
 aw E 105 #[pV bc,.int .i64 ch,.int .i64 cl,.int .i64 me,v] U λe' ae=>e'=.returned (.tuple #[])/\ae=U.set bc (.cells ((l.set 11 (.string (B (out++ck ch cl me xs)))).set 9 (.int .i64 clock)).toArray 90 (0,0)):=by
 refine aV func105 ntmps105 results105 λQ aD an aB=>?_;refine ag ?_;refine aZ (aq2 hv gB hn dO aH aO gn) ?_;refine ag ?_;refine aZ (UY hb hg hl h0 bR hc hlen aE) ?_;refine ag ?_;exact aD dz ao ⟨rfl,rfl⟩
section
open Go.Conc
structure Fv (E:Env prog) (lb:Nat) (p:Tmp) (r:Loop) (A:Hp->List Value->Hp->Prop):Prop where
 params:r.params= #[p]
 loop:∀{X xs U},A X xs U->U.f lb=some (.loop r)
 ext:∀{X xs U},A X xs U->X.le U
 new:∀{X xs U b o},A X xs U->U.f b=none->A (X.set b o) xs (U.set b o)
 upd:∀{X xs U b o o'},A X xs U->X.f b=some o'->A (X.set b o) xs (U.set b o)
 round:∀{X xs U},A X xs U->∀v c cs,xs.length<1000000->dn v=true->ax E (G (Frame.round lb r.fn (r.tmps.setIfInBounds p v) r.assign r.body .normal) (c::cs)) U λg J=>g=G (c.finish (.bool true)) cs/\A X (xs++[v]) J
structure Left {α:Type} (l done rem:List (α×Value×Nat)) (seen:Array Nat):Prop where
 perm:(done++rem).Perm l
 seen:∀e∈l,e.2.2∈seen↔e∈done
variable {α:Type}{l:List (α×Value×Nat)}{e:α×Value×Nat}
def Vi(hn:(l.map (·.2.2)).Nodup){e':α×Value×Nat}(h:e∈l)(h':e'∈l)(he:e.2.2=e'.2.2):e=e':=by
 induction l with
 |nil=>cases h
 |cons x l ih=>
  simp only[List.map_cons,List.nodup_cons,List.mem_map,not_exists,not_and]at hn;simp only[List.mem_cons]at h h';rcases h with rfl|h<;>rcases h' with rfl|h'
  ·rfl
  ·exact absurd he.symm (hn.1 _ h')
  ·exact absurd he (hn.1 _ h)
  ·exact ih hn.2 h h'
theorem ak8(hn:(l.map (·.2.2)).Nodup):l.Nodup:=by rw[List.nodup_iff_pairwise_ne]at hn|-;exact(List.pairwise_map.1 hn).imp λh e=>h (by rw[e])
theorem Left.start(l:List (α×Value×Nat)):Left l [] l #[]:=⟨.refl _,al⟩
variable {done rem:List (α×Value×Nat)}{seen:Array Nat}
def Left.mem(h:Left l done rem seen)(he:e∈l)(hs:e.2.2∉seen):e∈rem:=by
 have:=h.perm.mem_iff.2 he;rcases List.mem_append.1 this with h1|h1
 ·exact absurd ((h.seen e he).2 h1) hs
 ·exact h1
def Left.step(hn:(l.map (·.2.2)).Nodup)(h:Left l done rem seen)(he:e∈l)(hs:e.2.2∉seen):
 ∃B2,B2.length<rem.length/\Left l (done++[e]) B2 (seen.push e.2.2):=by
 obtain⟨s,t,rfl⟩:=List.append_of_mem (h.mem he hs);refine⟨s++t,al,?_,?_⟩
 ·refine List.Perm.trans ?_ h.perm;rw[List.append_assoc];exact List.Perm.append_left _ (by rw[List.singleton_append];exact List.perm_middle.symm)
 ·intro x hx;simp only[Array.mem_push,List.mem_append,List.mem_singleton];rw[h.seen x hx];constructor
  ·rintro(h1|h1)
   ·exact .inl h1
   ·exact .inr (Vi hn hx he h1)
  ·rintro(h1|rfl)
   ·exact .inl h1
   ·exact .inr rfl
theorem Left.all(hn:(l.map (·.2.2)).Nodup)(h:Left l done rem seen)(ha:∀e∈l,e.2.2∈seen):done.Perm l:=by
 have hr:rem=[]:=by
  cases rem with
  |nil=>rfl
  |cons x rem=>
   have hx:x∈l:=h.perm.mem_iff.1 al;have hd:=(h.seen x hx).1 (ha x hx);have GV:(done++x::rem).Nodup:=h.perm.nodup_iff.2 (ak8 hn);rw[List.nodup_append]at GV;exact absurd rfl (GV.2.2 x hd x al)
 have:=h.perm;rw[hr,List.append_nil]at this;exact this
section
variable {P:Program}{E:Env P}{I:av}{ds:List Deferred}{U:Hp}{dst:Option Tmp}{ty:TypeId}{pos:String}{af:Array Edge}{g:Option (Nat×Bool)}{nx:av->List Deferred->Hp->Prop}{pn:List PanicEntry->Hp->Prop}
variable {α:Type}[DecidableEq α]{f:α->Value}{l:List (α×Value×Nat)}{c:Nat}
def P7 {x:Operand}{it b since:Nat}{seen:Array Nat}{e:α×Value×Nat}(hx:ak I x=pV it)(hi:U.f it=some (.mapIter (some b) since (seen.push e.2.2) c))(hb:U.f b=some (aU f l c))(hn:(l.map (·.2.2)).Nodup)(he:e∈l)
 (h:nx (aC I dst (.tuple #[f e.1,e.2.1])) ds U):aT E ⟨dst,.entry x,ty,pos,af,g⟩ I ds U nx pn:=by
 show wpOp E _ I ds U nx pn;unfold wpOp;simp only[execOp,Instr.entry,aG,hx,oL];refine⟨_,hi,rfl,?_⟩;simp only[Array.back?_push,aG,oL];refine⟨_,hb,rfl,?_⟩;simp only[aU,bne_self_eq_false,Bool.false_eq_true,if_false,bt]
 have:(l.map λe=>(⟨f e.1,e.2.1,e.2.2⟩:MapEntry)).toArray.find? (λx=>x.born==e.2.2)=some ⟨f e.1,e.2.1,e.2.2⟩:=by
  rw[List.find?_toArray];clear hb hi h
  induction l with
  |nil=>cases he
  |cons x l ih=>
   simp only[List.map_cons,List.find?_cons];by_cases uF:x.2.2=e.2.2
   ·have:x=e:=Vi hn al he uF;subst this;simp
   ·have h':(x.2.2==e.2.2)=false:=aY uF;simp only[h'];simp only[List.map_cons,List.nodup_cons]at hn;rcases List.mem_cons.1 he with rfl|he
    ·exact absurd rfl uF
    ·exact ih hn.2 he
 simp only[this,bt];exact h
end
def Yields(f:FuncId)(pick:α×Value×Nat->Value)(key:α->Value)(tc:TypeId):Prop:=
 ∀{E:Env prog} {lb:Nat} {p:Tmp} {r:Loop} {A:Hp->List Value->Hp->Prop} (_:Fv E lb p r A) {X U:Hp} {xs:List Value} {l:List (α×Value×Nat)} {c bm m:Nat},
  A X xs U->X.f bm=some (.cells #[.map (some m)] tc (0,0))->X.f m=some (aU key l c)->(∀e∈l,e.2.2<c)->(l.map (·.2.2)).Nodup->xs.length+l.length<=1000000->(∀e∈l,dn (pick e)=true)->
  aw E f #[.func (.yield lb) #[] #[],pV bm] U λe J=>e=.returned (.tuple #[])/\∃X' ks,ks.Perm (l.map pick)/\X.le X'/\A X' (xs++ks) J
def aW(i:Int):Value:=.int .i64 i
def bT(l:List UInt8):Value:=.string (B l)
def HW(k:IntKind)(a b:Int):Instr.sameNow (.int k) (aW a) (aW b)=some (decide (a=b)):=by simp only[aW,Instr.sameNow,if_true];by_cases h:a=b<;>simp[h]
def O4(a b:List UInt8):(B a==B b)=decide (a=b):=by show((B a).data==(B b).data)=_;rw[NN,NN];by_cases h:a=b<;>simp[h]
def UR(a b:List UInt8):Instr.sameNow .string (bT a) (bT b)=some (decide (a=b)):=by simp only[bT,Instr.sameNow,O4]
def HT(a:Int):Instr.sameBits 10000 (aW a) (aW a)=true:=by simp[aW,Instr.sameBits]
def UM(a:List UInt8):Instr.sameBits 10000 (bT a) (bT a)=true:=by simp[bT,Instr.sameBits,O4]
def uO:mU prog 72 aW:=⟨3,70,.int .i64,ah,ah,.inl ⟨_,rfl⟩,HW _,HT⟩
def uP:mU prog 88 aW:=⟨3,185,.int .i64,ah,ah,.inl ⟨_,rfl⟩,HW _,HT⟩
def BD:mU prog 273 aW:=⟨3,280,.int .i64,ah,ah,.inl ⟨_,rfl⟩,HW _,HT⟩
def wG:mU prog 114 bT:=⟨9,77,.string,ah,ah,.inr rfl,UR,UM⟩
def zK:mU prog 274 bT:=⟨9,186,.string,ah,ah,.inr rfl,UR,UM⟩
inductive yG:(α:Type)->FuncId->TypeId->(α->Value)->Prop
 |ZR:yG Int 82 72 aW
 |ZJ:yG Int 181 88 aW
 |ZO:yG Int 222 273 aW
 |ZN:yG (List UInt8) 220 274 bT
noncomputable def qM(f:FuncId):Func:=(prog.funcs[f]?).getD default
noncomputable def BI(f:FuncId):Code:=(qM f).body.getD .skip
noncomputable def iI(f:FuncId):Array Oper:=bM (bO (BI f))
noncomputable def LI(f:FuncId):Code:=dP (dP (aP (BI f)))
noncomputable def Uw(f:FuncId):Array Oper:=bM (bO (LI f))
noncomputable def nI(f:FuncId):Code:=dP (aP (aP (LI f)))
noncomputable def Ux(f:FuncId):Array Oper:=bM (bO (nI f))
noncomputable def yr(f:FuncId):Array Oper:=bM (bO (aP (nI f)))
def bI(f:FuncId):Frame:={(default:Frame)with fn:=f,kind:=.normal}
def Au:BI 82=f82.body.getD .skip:=by unfold BI qM;rw[func82];rfl
def Aq:BI 181=f181.body.getD .skip:=by unfold BI qM;rw[func181];rfl
def As:BI 222=f222.body.getD .skip:=by unfold BI qM;rw[func222];rfl
def Ar:BI 220=f220.body.getD .skip:=by unfold BI qM;rw[func220];rfl
structure FI (lb it:Nat) (I:av):Prop where
 y:I 0=.func (.yield lb) #[] #[]
 i:I 5=pV it
section
variable {α:Type}{f:FuncId}{T:TypeId}{key:α->Value}(k:yG α f T key)
include k
def Qt:prog.funcs[f]? =some (qM f):=by
 unfold qM
 cases k<;>simp only[func82,func181,func222,func220,Option.getD_some]
def acD:(qM f).results= #[]:=by cases k<;>kernel_rfl
def acC:(qM f).ntmps=14:=by cases k<;>kernel_rfl
def acB:(qM f).body=some (BI f):=by cases k<;>kernel_rfl
def We:BI f=.seq (.region 0 (iI f) false) (.block 0 (.loop (LI f))):=by cases k<;>kernel_rfl
def N7:LI f=.seq (.region 1 (Uw f) false) (.seq (.cond (.tmp 7) .skip (.exit 0)) (.block 1 (nI f))):=by cases k<;>kernel_rfl
def TE:nI f=.seq (.region 2 (Ux f) false) (.seq (.region 3 (yr f) false) (.cond (.tmp 13) .ret .skip)):=by cases k<;>kernel_rfl
def ano:∃ps af t,(yr f)[2]? =some {dst:=some 12,op:=.call ⟨.value (.tmp 10),#[.tmp 11],#[t]⟩,type:=4,pos:=ps,after:=af,guard:=none}:=by cases k<;>exact⟨_,_,_,by simp only[yr,nI,LI,Au,Aq,As,Ar,f82,f181,f222,f220,Option.getD_some,aP,bO,dP,bM];rfl⟩
end
section
variable {E:Env prog}{α:Type}{f:FuncId}{T:TypeId}{key:α->Value}{lb:Nat}{p:Tmp}{r:Loop}{A:Hp->List Value->Hp->Prop}{l:List (α×Value×Nat)}{c m:Nat}{cs:List Frame}
def ajK (k:yG α f T key)(C:Fv E lb p r A)(hold:∀e∈l,e.2.2<c)(hn:(l.map (·.2.2)).Nodup){X0:Hp}{xs:List Value}{it:Nat}(gL:xs.length+l.length<=1000000)(kV:∀e∈l,dn (key e.1)=true):∀(n:Nat) (done rem:List (α×Value×Nat)) (seen:Array Nat) (X U:Hp) (I:av) (a:Act),rem.length<n->Left l done rem seen->X0.le X->
 A X (xs++done.map λe=>key e.1) U->X.f it=some (.mapIter (some m) c seen c)->X0.f it=none->X.f m=some (aU key l c)->it≠m->FI lb it I->cM 14 a I []->
 ax E (G ((bI f).at a (.code (LI f):: .inLoop (LI f):: .inBlock 0::[])) cs) U λg J=>∃e fr,g=G fr cs/\fr.fn=f/\Leaving prog fr J e/\
  (e=.returned (.tuple #[])/\∃X' ks,ks.Perm (l.map λe=>key e.1)/\X0.le X'/\A X' (xs++ks) J):=by
 intro n
 induction n with
 |zero=>intro _ _ _ _ _ _ _ h;omega
 |succ n ih=>
  intro done rem seen X U I a hlen hL hX hA hit h0 hm aE hF ha;have KI:=C.ext hA _ _ hit;have vZ:=C.ext hA _ _ hm;rw[N7 k];refine ax.ctl (λw=>stepG_seq) rfl rfl ?_;refine(nR (E:=E) (N:=14) (X:=λI ds J=>ds=[]/\FI lb it I/\((I 7=.bool true/\∃e∈l,e.2.2∉seen/\J=U.set it (.mapIter (some m) c (seen.push e.2.2) c))\/(I 7=.bool false/\(∀e∈l,e.2.2∈seen)/\J=U))) ?_ (by simp[bI]) ha).bind ?_
  ·cases k
   all_goals
    simp only[Uw,LI,Au,Aq,As,Ar,f82,f181,f222,f220,Option.getD_some,aP,bO,dP,bM];refine ag ?_;refine TN hF.i KI vZ hold ?_ ?_
    ·intro e he hs;simp only[go_sem,seval,aC,up];exact⟨rfl,⟨by simp[up,hF.y],by simp[up,hF.i]⟩,.inl ⟨by simp[up],e,he,hs,rfl⟩⟩
    ·intro hs;simp only[go_sem,seval,aC,up];exact⟨rfl,⟨by simp[up,hF.y],by simp[up,hF.i]⟩,.inr ⟨by simp[up],hs,rfl⟩⟩
  rintro g J ⟨qz,_,a1,dk,⟨rfl,om,eE⟩,rfl⟩;refine ax.ctl (λw=>stepG_seq) rfl rfl ?_;rcases eE with⟨h7,e,he,hs,rfl⟩|⟨h7,hs,rfl⟩
  ·refine ax.ctl (λw=>stepG_cond (t:=true) (by rw[dk.eval];exact h7)) rfl rfl ?_;refine ax.ctl (λw=>stepG_skip) rfl rfl ?_;refine ax.ctl (λw=>stepG_block) rfl rfl ?_;rw[TE k];refine ax.ctl (λw=>stepG_seq) rfl rfl ?_;have y9:=C.upd (o:=.mapIter (some m) c (seen.push e.2.2) c) hA hit;have DC:(U.set it (.mapIter (some m) c (seen.push e.2.2) c)).f it=some (.mapIter (some m) c (seen.push e.2.2) c):=aX;have pf:(U.set it (.mapIter (some m) c (seen.push e.2.2) c)).f m=some (aU key l c):=by rw[Hp.aM _ (Ne.symm aE)];exact vZ
   generalize eO:U.set it (.mapIter (some m) c (seen.push e.2.2) c)=J at y9 DC pf;refine(nR (E:=E) (N:=14) (X:=λI ds bW=>ds=[]/\FI lb it I/\I 3=key e.1/\bW=J) ?_ (by simp[bI]) dk).bind ?_
   ·cases k
    all_goals
     simp only[Ux,nI,LI,Au,Aq,As,Ar,f82,f181,f222,f220,Option.getD_some,aP,bO,dP,bM];refine ag ?_;refine P7 om.i DC pf hn he ?_;simp only[go_sem,seval,aC,up];exact⟨rfl,⟨by simp[up,om.y],by simp[up,om.i]⟩,by simp[up],rfl⟩
   rintro g bW ⟨mw,_,a2,gK,⟨rfl,nv,h3,rfl⟩,rfl⟩;refine ax.ctl (λw=>stepG_seq) rfl rfl ?_;refine ax.ctl (λw=>stepG_region) rfl rfl ?_;have hr:List.range (yr f).size=[0,1]++[2,3]:=by cases k<;>kernel_rfl
   rw[hr];refine(yz (E:=E) (N:=14) (ops:=yr f) (Q:=ki λI ds nZ=>ds=[]/\FI lb it I/\I 10=.func (.yield lb) #[] #[]/\I 11=key e.1/\nZ=bW) (bI f) (by simp[bI]) _ cs [2,3] yl [0,1] mw [] bW a2 ?_ gK).bind ?_
   ·cases k
    all_goals
     simp only[yr,nI,LI,Au,Aq,As,Ar,f82,f181,f222,f220,Option.getD_some,aP,bO,dP,bM];simp only[List.filterMap_cons,List.filterMap_nil,List.getElem?_toArray,List.getElem?_cons_succ,List.getElem?_cons_zero];simp only[go_sem,seval,aC,up,ki];exact⟨⟨by simp[up,nv.y],by simp[up,nv.i]⟩,by simp[nv.y],by simp[h3]⟩
   rintro g nZ ⟨IA,_,a3,s6,⟨rfl,uf,bB,bR,rfl⟩,rfl⟩;obtain⟨ps,af,tt,ho⟩:=ano k;refine ax.step rfl (Vl ho rfl (by rw[s6.eval];exact bB) (C.loop y9) C.params) ?_;rintro g dx ⟨rfl,rfl⟩
   have KJ:(xs++done.map λe=>key e.1).length<1000000:=by have h1:=hL.perm.length_eq;have h2:=List.length_pos_of_mem (hL.mem he hs);simp only[List.length_append,List.length_map]at h1|-;omega
   have hv:a3.eval (.tmp 11)=key e.1:=by rw[s6.eval];exact bR
   refine(C.round y9 _ _ _ KJ (by rw[hv];exact kV e he)).bind ?_;rintro g sF ⟨rfl,C2⟩;rw[Frame.finish_at,ho];rw[hv]at C2;have zd:cM 14 _ _ []:=s6.put (dst:=some 12) ai (.bool true);refine(yz (E:=E) (N:=14) (ops:=yr f) (Q:=ki λI ds nZ=>ds=[]/\FI lb it I/\I 13=.bool false/\nZ=sF) (bI f) (by simp[bI]) _ cs [] yl [3] _ [] sF _ ?_ zd).bind ?_
   ·cases k
    all_goals
     simp only[yr,nI,LI,Au,Aq,As,Ar,f82,f181,f222,f220,Option.getD_some,aP,bO,dP,bM];simp only[List.filterMap_cons,List.filterMap_nil,List.getElem?_toArray,List.getElem?_cons_succ,List.getElem?_cons_zero];simp only[go_sem,seval,aC,up,ki];exact⟨by simp[up,uf.y],by simp[up,uf.i]⟩
   rintro g nZ ⟨NI,_,a5,Dc,⟨rfl,J2,mC,rfl⟩,rfl⟩;refine ax.ctl (λw=>stepG_region_end) rfl rfl ?_;refine ax.ctl (λw=>stepG_cond (t:=false) (by rw[Dc.eval];exact mC)) rfl rfl ?_;refine ax.ctl (λw=>stepG_skip) rfl rfl ?_;refine ax.ctl (λw=>stepG_inBlock) rfl rfl ?_;refine ax.ctl (λw=>stepG_inLoop) rfl rfl ?_;obtain⟨B2,bd,C8⟩:=hL.step hn he hs;rw[<-TE k,<-N7 k];refine ih (done++[e]) B2 (seen.push e.2.2) (X.set it (.mapIter (some m) c (seen.push e.2.2) c)) nZ NI a5 aa C8 ?_ ?_ aX h0 (by rw[Hp.aM _ (Ne.symm aE)];exact hm) aE J2 Dc
   ·intro b o hb;by_cases rO:b=it
    ·subst rO;rw[h0]at hb;cases hb
    ·rw[Hp.aM _ rO];exact hX _ _ hb
   ·rw[List.map_append,<-List.append_assoc];exact C2
  ·refine ax.ctl (λw=>stepG_cond (t:=false) (by rw[dk.eval];exact h7)) rfl rfl ?_;refine ax.ctl (λw=>stepG_exit (k':=[]) rfl) rfl rfl ?_;refine ax.ctl (λw=>stepG_end) rfl rfl (ax.here ⟨.returned (.tuple #[]),_,rfl,rfl,⟨rfl,?_,rfl,qM f,?_,?_⟩,rfl,X,_,(hL.all hn hs).map _,hX,hA⟩)
   ·exact dk.defers
   ·exact Qt k
   ·show wpS _ (results (qM f) a1.tmps) _ _ _;rw[wZ (fn:=qM f) dk];simp[B3,acD k,bt]
end
variable {f:FuncId}{key:α->Value}
theorem Iz{T:TypeId}(k:yG α f T key):Yields f (λe:α×Value×Nat=>key e.1) key T:=by
 intro E lb p r A C X U xs l c bm m hA dI hm hold hn gL kV cs;have Kr:=C.ext hA _ _ dI;have vZ:=C.ext hA _ _ hm
 have pd:Frame.enter prog f #[.func (.yield lb) #[] #[],pV bm] .normal=(bI f).at {tmps:=#[.func (.yield lb) #[] #[],pV bm]++Array.replicate 12 undef,defers:=[]} [.code (BI f)]:=by simp[Frame.enter,Frame.at,Qt k,bI,acC k,acB k]
 rw[pd,We k];have ha:=sL #[.func (.yield lb) #[] #[],pV bm] 14 al;refine ax.ctl (λw=>stepG_seq) rfl rfl ?_;refine(nR (E:=E) (N:=14) (X:=λI ds J=>ds=[]/\∃it,FI lb it I/\U.f it=none/\J=U.set it (.mapIter (some m) c #[] c)) ?_ (by simp[bI]) ha).bind ?_
 ·cases k
  all_goals
   simp only[iI,Au,Aq,As,Ar,f82,f181,f222,f220,Option.getD_some,bO,bM];refine aJ Kr ?_;refine UH (by first|exact uO|exact uP|exact BD|exact zK) rfl vZ ?_;intro it hit;simp only[go_sem,seval,aC];exact⟨rfl,it,⟨by simp[up,nV],by simp[up]⟩,hit,rfl⟩
 rintro g J ⟨qz,_,a1,dk,⟨rfl,it,hF,hit,rfl⟩,rfl⟩;refine ax.ctl (λw=>stepG_block) rfl rfl ?_;refine ax.ctl (λw=>stepG_loop) rfl rfl ?_
 have zb:X.f it=none:=by
  cases h:X.f it with
  |none=>rfl
  |some o=>rw[C.ext hA _ _ h]at hit;cases hit
 have aE:it≠m:=bl hm zb;refine ajK k C hold hn gL kV (l.length+1) [] l #[] (X.set it (.mapIter (some m) c #[] c)) _ qz a1 aa (.start l) ?_ (by simpa using C.new hA hit) aX zb (by rw[Hp.aM _ (Ne.symm aE)];exact hm) aE hF dk;intro b o hb;by_cases rO:b=it
 ·subst rO;rw[zb]at hb;cases hb
 ·rw[Hp.aM _ rO];exact hb
def arG:Yields 82 (λe:Int×Value×Nat=>aW e.1) aW 72:=Iz .ZR
def arD:Yields 181 (λe:Int×Value×Nat=>aW e.1) aW 88:=Iz .ZJ
def arF:Yields 222 (λe:Int×Value×Nat=>aW e.1) aW 273:=Iz .ZO
def arE:Yields 220 (λe:List UInt8×Value×Nat=>bT e.1) bT 274:=Iz .ZN
noncomputable def sH:Code:=f85.body.getD .skip
noncomputable def i85:Array Oper:=bM (bO sH)
noncomputable def sI:Code:=dP (dP (aP sH))
noncomputable def Ut:Array Oper:=bM (bO sI)
noncomputable def yf:Code:=dP (aP (aP sI))
noncomputable def Uu:Array Oper:=bM (bO yf)
noncomputable def yq:Array Oper:=bM (bO (aP yf))
def Wd:sH=.seq (.region 0 i85 false) (.block 0 (.loop sI)):=ah
def N6:sI=.seq (.region 1 Ut false) (.seq (.cond (.tmp 8) .skip (.exit 0)) (.block 1 yf)):=ah
def TD:yf=.seq (.region 2 Uu false) (.seq (.region 3 yq false) (.cond (.tmp 14) .ret .skip)):=ah
def tT:Frame:={(default:Frame)with fn:=85,kind:=.normal}
def amT:∃ps af,yq[2]? =some {dst:=some 13,op:=.call ⟨.value (.tmp 11),#[.tmp 12],#[77]⟩,type:=4,pos:=ps,after:=af,guard:=none}:=⟨_,_,by simp only[yq,yf,sI,sH,f85,Option.getD_some,aP,bO,dP,bM];rfl⟩
structure Ax (lb it:Nat) (I:av):Prop where
 y:I 0=.func (.yield lb) #[] #[]
 i:I 6=pV it
section
variable {E:Env prog}{lb:Nat}{p:Tmp}{r:Loop}{A:Hp->List Value->Hp->Prop}{l:List (List UInt8×Value×Nat)}{c m:Nat}{cs:List Frame}
def ajJ (C:Fv E lb p r A)(hold:∀e∈l,e.2.2<c)(hn:(l.map (·.2.2)).Nodup){X0:Hp}{xs:List Value}{it:Nat}(gL:xs.length+l.length<=1000000)(kV:∀e∈l,dn (e.2.1)=true):∀(n:Nat) (done rem:List (List UInt8×Value×Nat)) (seen:Array Nat) (X U:Hp) (I:av) (a:Act),rem.length<n->Left l done rem seen->X0.le X->
 A X (xs++done.map λe=>e.2.1) U->X.f it=some (.mapIter (some m) c seen c)->X0.f it=none->X.f m=some (aU bT l c)->it≠m->Ax lb it I->cM 15 a I []->
 ax E (G (tT.at a (.code sI:: .inLoop sI:: .inBlock 0::[])) cs) U λg J=>∃e fr,g=G fr cs/\fr.fn=85/\Leaving prog fr J e/\
  (e=.returned (.tuple #[])/\∃X' ks,ks.Perm (l.map λe=>e.2.1)/\X0.le X'/\A X' (xs++ks) J):=by
 intro n
 induction n with
 |zero=>intro _ _ _ _ _ _ _ h;omega
 |succ n ih=>
  intro done rem seen X U I a hlen hL hX hA hit h0 hm aE hF ha;have KI:=C.ext hA _ _ hit;have vZ:=C.ext hA _ _ hm;rw[N6];refine ax.ctl (λw=>stepG_seq) rfl rfl ?_;refine(nR (E:=E) (N:=15) (X:=λI ds J=>ds=[]/\Ax lb it I/\((I 8=.bool true/\∃e∈l,e.2.2∉seen/\J=U.set it (.mapIter (some m) c (seen.push e.2.2) c))\/(I 8=.bool false/\(∀e∈l,e.2.2∈seen)/\J=U))) ?_ (by simp[tT]) ha).bind ?_
  ·simp only[Ut,sI,sH,f85,Option.getD_some,aP,bO,dP,bM];refine ag ?_;refine TN hF.i KI vZ hold ?_ ?_
   ·intro e he hs;simp only[go_sem,seval,aC,up];exact⟨rfl,⟨by simp[up,hF.y],by simp[up,hF.i]⟩,.inl ⟨by simp[up],e,he,hs,rfl⟩⟩
   ·intro hs;simp only[go_sem,seval,aC,up];exact⟨rfl,⟨by simp[up,hF.y],by simp[up,hF.i]⟩,.inr ⟨by simp[up],hs,rfl⟩⟩
  rintro g J ⟨qz,_,a1,dk,⟨rfl,om,eE⟩,rfl⟩;refine ax.ctl (λw=>stepG_seq) rfl rfl ?_;rcases eE with⟨h7,e,he,hs,rfl⟩|⟨h7,hs,rfl⟩
  ·refine ax.ctl (λw=>stepG_cond (t:=true) (by rw[dk.eval];exact h7)) rfl rfl ?_;refine ax.ctl (λw=>stepG_skip) rfl rfl ?_;refine ax.ctl (λw=>stepG_block) rfl rfl ?_;rw[TD];refine ax.ctl (λw=>stepG_seq) rfl rfl ?_;have y9:=C.upd (o:=.mapIter (some m) c (seen.push e.2.2) c) hA hit;have DC:(U.set it (.mapIter (some m) c (seen.push e.2.2) c)).f it=some (.mapIter (some m) c (seen.push e.2.2) c):=aX;have pf:(U.set it (.mapIter (some m) c (seen.push e.2.2) c)).f m=some (aU bT l c):=by rw[Hp.aM _ (Ne.symm aE)];exact vZ
   generalize eO:U.set it (.mapIter (some m) c (seen.push e.2.2) c)=J at y9 DC pf;refine(nR (E:=E) (N:=15) (X:=λI ds bW=>ds=[]/\Ax lb it I/\I 4=e.2.1/\bW=J) ?_ (by simp[tT]) dk).bind ?_
   ·simp only[Uu,yf,sI,sH,f85,Option.getD_some,aP,bO,dP,bM];refine ag ?_;refine P7 om.i DC pf hn he ?_;simp only[go_sem,seval,aC,up];exact⟨rfl,⟨by simp[up,om.y],by simp[up,om.i]⟩,by simp[up],rfl⟩
   rintro g bW ⟨mw,_,a2,gK,⟨rfl,nv,h3,rfl⟩,rfl⟩;refine ax.ctl (λw=>stepG_seq) rfl rfl ?_;refine ax.ctl (λw=>stepG_region) rfl rfl ?_;have hr:List.range yq.size=[0,1]++[2,3]:=ah;rw[hr];refine(yz (E:=E) (N:=15) (ops:=yq) (Q:=ki λI ds nZ=>ds=[]/\Ax lb it I/\I 11=.func (.yield lb) #[] #[]/\I 12=e.2.1/\nZ=bW) tT (by simp[tT]) _ cs [2,3] yl [0,1] mw [] bW a2 ?_ gK).bind ?_
   ·simp only[yq,yf,sI,sH,f85,Option.getD_some,aP,bO,dP,bM];simp only[List.filterMap_cons,List.filterMap_nil,List.getElem?_toArray,List.getElem?_cons_succ,List.getElem?_cons_zero];simp only[go_sem,seval,aC,up,ki];exact⟨⟨by simp[up,nv.y],by simp[up,nv.i]⟩,by simp[nv.y],by simp[h3]⟩
   rintro g nZ ⟨IA,_,a3,s6,⟨rfl,uf,bB,bR,rfl⟩,rfl⟩;obtain⟨ps,af,ho⟩:=amT;refine ax.step rfl (Vl ho rfl (by rw[s6.eval];exact bB) (C.loop y9) C.params) ?_;rintro g dx ⟨rfl,rfl⟩
   have KJ:(xs++done.map λe=>e.2.1).length<1000000:=by have h1:=hL.perm.length_eq;have h2:=List.length_pos_of_mem (hL.mem he hs);simp only[List.length_append,List.length_map]at h1|-;omega
   have hv:a3.eval (.tmp 12)=e.2.1:=by rw[s6.eval];exact bR
   refine(C.round y9 _ _ _ KJ (by rw[hv];exact kV e he)).bind ?_;rintro g sF ⟨rfl,C2⟩;rw[Frame.finish_at,ho];rw[hv]at C2;have zd:cM 15 _ _ []:=s6.put (dst:=some 13) ai (.bool true);refine(yz (E:=E) (N:=15) (ops:=yq) (Q:=ki λI ds nZ=>ds=[]/\Ax lb it I/\I 14=.bool false/\nZ=sF) tT (by simp[tT]) _ cs [] yl [3] _ [] sF _ ?_ zd).bind ?_
   ·simp only[yq,yf,sI,sH,f85,Option.getD_some,aP,bO,dP,bM];simp only[List.filterMap_cons,List.filterMap_nil,List.getElem?_toArray,List.getElem?_cons_succ,List.getElem?_cons_zero];simp only[go_sem,seval,aC,up,ki];exact⟨by simp[up,uf.y],by simp[up,uf.i]⟩
   rintro g nZ ⟨NI,_,a5,Dc,⟨rfl,J2,mC,rfl⟩,rfl⟩;refine ax.ctl (λw=>stepG_region_end) rfl rfl ?_;refine ax.ctl (λw=>stepG_cond (t:=false) (by rw[Dc.eval];exact mC)) rfl rfl ?_;refine ax.ctl (λw=>stepG_skip) rfl rfl ?_;refine ax.ctl (λw=>stepG_inBlock) rfl rfl ?_;refine ax.ctl (λw=>stepG_inLoop) rfl rfl ?_;obtain⟨B2,bd,C8⟩:=hL.step hn he hs;rw[<-TD,<-N6];refine ih (done++[e]) B2 (seen.push e.2.2) (X.set it (.mapIter (some m) c (seen.push e.2.2) c)) nZ NI a5 aa C8 ?_ ?_ aX h0 (by rw[Hp.aM _ (Ne.symm aE)];exact hm) aE J2 Dc
   ·intro b o hb;by_cases rO:b=it
    ·subst rO;rw[h0]at hb;cases hb
    ·rw[Hp.aM _ rO];exact hX _ _ hb
   ·rw[List.map_append,<-List.append_assoc];exact C2
  ·refine ax.ctl (λw=>stepG_cond (t:=false) (by rw[dk.eval];exact h7)) rfl rfl ?_;refine ax.ctl (λw=>stepG_exit (k':=[]) rfl) rfl rfl ?_;refine ax.ctl (λw=>stepG_end) rfl rfl (ax.here ⟨.returned (.tuple #[]),_,rfl,rfl,⟨rfl,?_,rfl,f85,?_,?_⟩,rfl,X,_,(hL.all hn hs).map _,hX,hA⟩)
   ·exact dk.defers
   ·exact func85
   ·show wpS _ (results f85 a1.tmps) _ _ _;rw[wZ (fn:=f85) dk];simp[B3,f85,bt]
end
def arH:Yields 85 (λe:List UInt8×Value×Nat=>e.2.1) bT 114:=by
 intro E lb p r A C X U xs l c bm m hA dI hm hold hn gL kV cs;have Kr:=C.ext hA _ _ dI;have vZ:=C.ext hA _ _ hm
 have pd:Frame.enter prog 85 #[.func (.yield lb) #[] #[],pV bm] .normal=tT.at {tmps:=#[.func (.yield lb) #[] #[],pV bm]++Array.replicate 13 undef,defers:=[]} [.code sH]:=by simp[Frame.enter,Frame.at,func85,tT,f85,sH]
 rw[pd,Wd];have ha:=sL #[.func (.yield lb) #[] #[],pV bm] 15 al;refine ax.ctl (λw=>stepG_seq) rfl rfl ?_;refine(nR (E:=E) (N:=15) (X:=λI ds J=>ds=[]/\∃it,Ax lb it I/\U.f it=none/\J=U.set it (.mapIter (some m) c #[] c)) ?_ (by simp[tT]) ha).bind ?_
 ·simp only[i85,sH,f85,Option.getD_some,bO,bM];refine aJ Kr ?_;refine UH wG rfl vZ ?_;intro it hit;simp only[go_sem,seval,aC];exact⟨rfl,it,⟨by simp[up,nV],by simp[up]⟩,hit,rfl⟩
 rintro g J ⟨qz,_,a1,dk,⟨rfl,it,hF,hit,rfl⟩,rfl⟩;refine ax.ctl (λw=>stepG_block) rfl rfl ?_;refine ax.ctl (λw=>stepG_loop) rfl rfl ?_
 have zb:X.f it=none:=by
  cases h:X.f it with
  |none=>rfl
  |some o=>rw[C.ext hA _ _ h]at hit;cases hit
 have aE:it≠m:=bl hm zb;refine ajJ C hold hn gL kV (l.length+1) [] l #[] (X.set it (.mapIter (some m) c #[] c)) _ qz a1 aa (.start l) ?_ (by simpa using C.new hA hit) aX zb (by rw[Hp.aM _ (Ne.symm aE)];exact hm) aE hF dk;intro b o hb;by_cases rO:b=it
 ·subst rO;rw[zb]at hb;cases hb
 ·rw[Hp.aM _ rO];exact hb
inductive Sl (ety:TypeId) (U:Hp) (xs:List Value):Value->Prop
 |nil:xs=[]->Sl ety U xs (.slice none 0 0)
 |at(a:Nat) (pad:List Value):U.f a=some (.cells (xs++pad).toArray ety (0,0))->Sl ety U xs (.slice (some ⟨a,0,none⟩) xs.length (xs.length+pad.length))
variable {E:Env P}{ds:List Deferred}{dst:Option Tmp}{ty:TypeId}{pos:String}{af:Array Edge}{g:Option (Nat×Bool)}{nx:av->List Deferred->Hp->Prop}{pn:List PanicEntry->Hp->Prop}{xs:List Value}
def app1{t u:TypeId}{x y:Operand}(el:oO P t)(hz:el.z=1)(hb:el.bytes<=16){z0:Value}(hzero:el.zero= #[z0])(hu:BO P u=true){v0 w:Value}{bn:Nat}(hv:Sl el.e U xs v0)(hx:ak I x=v0)(hy:ak I y=.slice (some ⟨bn,0,none⟩) 1 1)(cD:U.f bn=some (.cells [w].toArray el.e (0,0)))(hw:dn w=true)(gn:xs.length<=1000000)(h:∀a pad,(U.f a=none\/∃c,v0=.slice (some ⟨a,0,none⟩) xs.length c)->nx (aC I dst (.slice (some ⟨a,0,none⟩) (xs.length+1) (xs.length+1+pad.length))) ds (U.set a (.cells (xs++[w]++pad).toArray el.e (0,0)))):
 aT E ⟨dst,.call ⟨.builtin .append,#[x,y],#[t,u]⟩,ty,pos,af,g⟩ I ds U nx pn:=by
 have hn:tB (ak I y)=some 1:=by rw[hy];rfl
 have iZ:jd U el.z 1 (ak I y)=some #[w]:=by rw[hy,hz];simp[jd,cellsOf,cD]
 have il:∀n,n<=1000000->(2*(n+1)+192)*el.bytes<=2^48:=by intro n hn;have:(2*(n+1)+192)*el.bytes<=(2*(n+1)+192)*16:=Nat.mul_le_mul_left _ hb;omega
 cases hv with
 |nil h0=>
  subst h0;refine sM el (base:=none) (l:=0) (c:=0) (n:=1) (old:=#[]) (new:=#[w]) hu hx hn rfl iZ (il 0 aa) aa (λhc=>aa) ?_;intro hc b cap fC jZ;have:=h b (List.replicate (cap-1) z0) (.inl fC);simp only[List.length_nil,Nat.zero_add,List.length_replicate,List.nil_append]at this;rw[hzero,Fs];have e1:1+(cap-1)=cap:=aa;rw[e1]at this
  have e2:(#[]++ #[w]++(List.replicate (cap-(0+1)) z0).toArray:Array Value)=([w]++List.replicate (cap-1) z0).toArray:=by apply Array.ext';simp
  rw[e2];exact this
 |«at»a pad ha=>
  have hold:jd U el.z xs.length (.slice (some ⟨a,0,none⟩) xs.length (xs.length+pad.length))=some xs.toArray:=by
   rw[hz];simp only[jd,cellsOf,ha]
   cases xs with
   |nil=>simp
   |cons x xs=>simp
  refine sM el (base:=some ⟨a,0,none⟩) (l:=xs.length) (c:=xs.length+pad.length) (n:=1) (old:=xs.toArray) (new:=#[w]) hu hx hn hold iZ (il _ gn) aa ?_ ?_
  ·intro hc;have:=h a (pad.drop 1) (.inr ⟨_,rfl⟩);have e1:xs.length+1+(pad.drop 1).length=xs.length+pad.length:=by simp;omega
   rw[e1]at this;refine⟨_,⟨_,_,ha,rfl,by simp[hz]at hc|-;omega,by simp[hw],rfl⟩,?_⟩
   have e2:((xs++pad).toArray.extract 0 ((⟨a,0,none⟩:Addr).off+xs.length*el.z)++ #[w]++(xs++pad).toArray.extract ((⟨a,0,none⟩:Addr).off+xs.length*el.z+(#[w]:Array Value).size) (xs++pad).toArray.size)=(xs++[w]++pad.drop 1).toArray:=by apply Array.ext';simp[hz,List.drop_append];rw[List.drop_eq_nil_of_le aa,List.nil_append,List.take_of_length_le (by simp;omega)]
   rw[e2];exact this
  ·intro hc b cap fC jZ;have:=h b (List.replicate (cap-(xs.length+1)) z0) (.inl fC);have e1:xs.length+1+(List.replicate (cap-(xs.length+1)) z0).length=cap:=by simp;omega
   rw[e1]at this;rw[hzero,Fs]
   have e2:(xs.toArray++ #[w]++(List.replicate (cap-(xs.length+1)) z0).toArray:Array Value)=(xs++[w]++List.replicate (cap-(xs.length+1)) z0).toArray:=by apply Array.ext';simp
   rw[e2];exact this
structure tN (ety kr:TypeId) (bb lb d:Nat) (r:Loop) (X:Hp) (xs:List Value) (U:Hp):Prop where
 ext:X.le U
 nb:X.f bb=none
 nl:X.f lb=none
 nd:X.f d=none
 loop:U.f lb=some (.loop r)
 vL:U.f d=some (.deferred (some []))
 cell:∃v,U.f bb=some (.cells #[v] kr (0,0))/\Sl ety U xs v/\∀a n c,v=.slice (some a) n c->X.f a.block=none
variable {ety:TypeId}
def Sl.keep(h:Sl ety U xs v)(k:∀a n c,v=.slice (some a) n c->J.f a.block=U.f a.block):Sl ety J xs v:=by
 cases h with
 |nil h=>exact .nil h
 |«at»a pad h=>exact .at a pad (by rw[k _ _ _ rfl];exact h)
variable {kr:TypeId}{bb lb d:Nat}{r:Loop}{X:Hp}
def tN.apart(h:tN ety kr bb lb d r X xs U)(hX:X.f b=some o):b≠bb/\b≠lb/\b≠d:=by
 refine⟨?_,?_,?_⟩<;>(intro e;subst e)
 ·rw[h.nb]at hX;cases hX
 ·rw[h.nl]at hX;cases hX
 ·rw[h.nd]at hX;cases hX
def iv(h:X.le U)(b:Nat)(o:Obj):(X.set b o).le (U.set b o):=by
 intro x y hx;by_cases e:x=b
 ·subst e;rw[Hp.bD]at hx|-;exact hx
 ·rw[Hp.aM _ e]at hx|-;exact h _ _ hx
def tN.new(h:tN ety kr bb lb d r X xs U)(hb:U.f b=none):tN ety kr bb lb d r (X.set b o) xs (U.set b o):=by
 obtain⟨v,h1,h2,h3⟩:=h.cell;have n1:bb≠b:=bl h1 hb;have n2:lb≠b:=λe=>by subst e;have:=h.loop;rw[hb]at this;cases this
 have n3:d≠b:=λe=>by subst e;have:=h.vL;rw[hb]at this;cases this
 have n4:∀a n c,v=.slice (some a) n c->a.block≠b:=by
  intro a n c e e2
  cases h2 with
  |nil=>cases e
  |«at»a' pad ha=>cases e;subst e2;rw[hb]at ha;cases ha
 refine⟨iv h.ext _ _,by rw[Hp.aM _ n1];exact h.nb,by rw[Hp.aM _ n2];exact h.nl,by rw[Hp.aM _ n3];exact h.nd,by rw[Hp.aM _ n2];exact h.loop,by rw[Hp.aM _ n3];exact h.vL,
  v,by rw[Hp.aM _ n1];exact h1,h2.keep λa n c e=>Hp.aM _ (n4 a n c e),λa n c e=>by rw[Hp.aM _ (n4 a n c e)];exact h3 a n c e⟩
def tN.upd(h:tN ety kr bb lb d r X xs U){o':Obj}(hb:X.f b=some o'):tN ety kr bb lb d r (X.set b o) xs (U.set b o):=by
 obtain⟨v,h1,h2,h3⟩:=h.cell;obtain⟨n1,n2,n3⟩:=h.apart hb;have n1:=n1.symm;have n2:=n2.symm;have n3:=n3.symm;have n4:∀a n c,v=.slice (some a) n c->a.block≠b:=λa n c e e2=>by have:=h3 a n c e;rw[e2,hb]at this;cases this
 refine⟨iv h.ext _ _,by rw[Hp.aM _ n1];exact h.nb,by rw[Hp.aM _ n2];exact h.nl,by rw[Hp.aM _ n3];exact h.nd,by rw[Hp.aM _ n2];exact h.loop,by rw[Hp.aM _ n3];exact h.vL,
  v,by rw[Hp.aM _ n1];exact h1,h2.keep λa n c e=>Hp.aM _ (n4 a n c e),λa n c e=>by rw[Hp.aM _ (n4 a n c e)];exact h3 a n c e⟩
inductive yO:FuncId->TypeId->TypeId->Prop
 |ZH:yO 133 22 3
 |ZI:yO 136 75 77
 |ZP:yO 239 49 9
noncomputable def rJ(fs:FuncId):Func:=(prog.funcs[fs]?).getD default
noncomputable def BS(fs:FuncId):Code:=(rJ fs).body.getD .skip
noncomputable def Rm(fs:FuncId):Array Oper:=bM (bO (BS fs))
noncomputable def Ba(fs:FuncId):Array Oper:=bM (bO (bO (aP (BS fs))))
noncomputable def HV(fs:FuncId):Code:=dP (aP (bO (aP (BS fs))))
noncomputable def tS(fs:FuncId):Array Oper:=bM (bO (aP (aP (BS fs))))
def OM:Code->Code| .rangeFunc _ _ a _=>a|c=>c
def O7:Code->Code| .rangeFunc _ _ _ b=>b|c=>c
noncomputable def yR(fs:FuncId):Array Oper:=bM (OM (HV fs))
noncomputable def yT(fs:FuncId):Array Oper:=bM (dP (O7 (HV fs)))
def bS(fs:FuncId):Frame:={(default:Frame)with fn:=fs,kind:=.normal}
def Ch:BS 133=f133.body.getD .skip:=by unfold BS rJ;rw[func133];rfl
def Ci:BS 136=f136.body.getD .skip:=by unfold BS rJ;rw[func136];rfl
def Cj:BS 239=f239.body.getD .skip:=by unfold BS rJ;rw[func239];rfl
def e22:oO prog 22 where
 e:=3
 z:=1
 zero:=#[.int .i64 0]
 bytes:=8
 hu:=ah
 hi:=⟨t3,.int .i64 0,ah,ah,ah,rfl,ah⟩
def e75:oO prog 75 where
 e:=77
 z:=1
 zero:=#[.pointer none]
 bytes:=8
 hu:=ah
 hi:=⟨t77,.pointer none,ah,ah,ah,rfl,ah⟩
def e49:oO prog 49 where
 e:=9
 z:=1
 zero:=#[.string (B [])]
 bytes:=16
 hu:=ah
 hi:=⟨t9,.string (B []),ah,ah,ah,rfl,ah⟩
section
variable {fs:FuncId}{kr ety:TypeId}(k:yO fs kr ety)
include k
def Qu:prog.funcs[fs]? =some (rJ fs):=by
 unfold rJ
 cases k<;>simp only[func133,func136,func239,Option.getD_some]
def acF:(rJ fs).ntmps=13:=by cases k<;>kernel_rfl
def acE:(rJ fs).body=some (BS fs):=by cases k<;>kernel_rfl
def yO.ne:kr≠ety:=by cases k<;>decide
def Wh:BS fs=.seq (.region 0 (Rm fs) false) (.seq (.seq (.region 1 (Ba fs) false) (.block 0 (.rangeFunc (.tmp 6) #[7] (.region 2 (yR fs) false) (.block 1 (.region 3 (yT fs) false))))) (.seq (.region 4 (tS fs) false) .ret)):=by cases k<;>kernel_rfl
end
variable {E:Env prog}{fs:FuncId}
def aaQ(k:yO fs kr ety){T:Array Value}(hT:T.size=13)(h2:T.getD 2 undef=pV bb):
 Fv E lb 7 {state:=.ready,pending:=none,fn:=fs,tmps:=T,params:=#[7],assign:=.region 2 (yR fs) false,body:=.block 1 (.region 3 (yT fs) false),defers:=d}
  (tN ety kr bb lb d {state:=.ready,pending:=none,fn:=fs,tmps:=T,params:=#[7],assign:=.region 2 (yR fs) false,body:=.block 1 (.region 3 (yT fs) false),defers:=d}):=by
 refine⟨rfl,λh=>h.loop,λh=>h.ext,λh hb=>h.new hb,λh hb=>h.upd hb,?_⟩;intro X xs U h v c cs bd xQ;rw[aoo]
 obtain⟨mS,ha,r2,r7⟩:∃mS:av,cM 13 ⟨T.setIfInBounds 7 v,[]⟩ mS []/\mS 2=pV bb/\mS 7=v:=by
  refine⟨λt=>(T.setIfInBounds 7 v).getD t undef,⟨by simp[hT],rfl,λt=>rfl⟩,?_,?_⟩
  ·show(T.setIfInBounds 7 v).getD 2 undef=_;rw[Array.getD_eq_getD_getElem?,Array.getElem?_setIfInBounds_ne ai,<-Array.getD_eq_getD_getElem?,h2]
  ·show(T.setIfInBounds 7 v).getD 7 undef=_;rw[Array.getD_eq_getD_getElem?,Array.getElem?_setIfInBounds_self_of_lt (by rw[hT];decide)];rfl
 refine ax.ctl (λw=>Vk) rfl rfl ?_;refine(VQ (E:=E) (N:=13) (ops:=yR fs) (X:=λI ds J=>ds=[]/\I 2=pV bb/\I 5=v/\J=U) (by simp[w7]) (by cases k<;>kernel_rfl) _ mS [] U _ ?_ ha).bind ?_
 ·have hr:List.range (yR fs).size=[0]:=by cases k<;>kernel_rfl
  rw[hr]
  cases k
  all_goals
   simp only[yR,HV,Ch,Ci,Cj,f133,f136,f239,Option.getD_some,aP,bO,dP,bM,OM];simp only[List.filterMap_cons,List.filterMap_nil,List.getElem?_toArray,List.getElem?_cons_zero];simp only[go_sem,seval,aC,up,ki,r2,r7]
 rintro g J ⟨qz,_,a1,dk,⟨rfl,oZ,kS,rfl⟩,rfl⟩;refine ax.step rfl (apA h.loop rfl) ?_;rintro g bW ⟨rfl,rfl⟩;refine ax.ctl (λw=>apu) rfl rfl ?_;refine ax.ctl (λw=>Vk) rfl rfl ?_;obtain⟨v0,c1,c2,c3⟩:=h.cell;have L8:bb≠lb:=λe=>by subst e;have:=h.loop;rw[c1]at this;cases this
 have nbd:bb≠d:=λe=>by subst e;have:=h.vL;rw[c1]at this;cases this
 have TP:lb≠d:=λe=>by subst e;have:=h.loop;rw[h.vL]at this;cases this
 generalize si:J.set lb _=fM;have vG:fM.f bb=some (.cells #[v0] kr (0,0)):=by rw[<-si,Hp.aM _ L8];exact c1
 have yg:∀a n c,v0=.slice (some a) n c->a.block≠lb/\a.block≠bb/\a.block≠d/\∃cc e z,J.f a.block=some (.cells cc e z):=by
  intro a n c e
  cases c2 with
  |nil=>cases e
  |«at»a' pad dH=>
   cases e
   refine⟨λe=>?_,λe=>?_,λe=>?_,_,_,_,dH⟩<;>(have e':=e;simp only at e';subst e')
   ·rw[h.loop]at dH;cases dH
   ·rw[c1]at dH;simp[k.ne]at dH
   ·rw[h.vL]at dH;cases dH
 have ZM:Sl ety fM xs v0:=c2.keep λa n c e=>by rw[<-si,Hp.aM _ (yg a n c e).1]
 refine(VQ (E:=E) (N:=13) (ops:=yT fs) (X:=λI ds bW=>ds=[]/\∃cV,cV.le bW/\(∃v',cV.f bb=some (.cells #[v'] kr (0,0))/\Sl ety cV (xs++[v]) v'/\∀a n c,v'=.slice (some a) n c->X.f a.block=none)/\(∀b o,b≠bb->(∀a n c,v0=.slice (some a) n c->b≠a.block)->fM.f b=some o->cV.f b=some o)) (by simp[w7]) (by cases k<;>kernel_rfl) _ qz [] fM _ ?_ dk).bind ?_
 ·have hr:List.range (yT fs).size=[0,1,2,3,4]:=by cases k<;>kernel_rfl
  rw[hr];have TH:∀bn,fM.f bn=none->bb≠bn:=λbn cD e=>by subst e;rw[vG]at cD;cases cD
  have ZL:∀bn,fM.f bn=none->∀o,(fM.set bn o).f bb=some (.cells #[v0] kr (0,0)):=λbn cD o=>by rw[Hp.aM _ (TH bn cD)];exact vG
  have ZQ:∀bn,fM.f bn=none->∀o,Sl ety (fM.set bn o) xs v0:=λbn cD o=>ZM.keep λa n c e=>by
   refine Hp.aM _ λe2=>?_;have:=yg a n c e;obtain⟨m1,m2,m3,cc,ee,z,m4⟩:=this;have m5:fM.f a.block=J.f a.block:=by rw[<-si];exact Hp.aM _ m1
   rw[m4,e2,cD]at m5;cases m5
  have lst:∀(bn a:Nat) (pad:List Value) (o1 o2:Obj),a≠bb->Sl ety (((fM.set bn o1).set a (.cells (xs++[v]++pad).toArray ety (0,0))).set bb o2) (xs++[v]) (.slice (some ⟨a,0,none⟩) (xs.length+1) (xs.length+1+pad.length)):=λbn a pad o1 o2 dm=>by have:=Sl.at (ety:=ety) (U:=(((fM.set bn o1).set a (.cells (xs++[v]++pad).toArray ety (0,0))).set bb o2)) (xs:=xs++[v]) a pad (by rw[Hp.aM _ dm];exact Hp.bD _ _);simpa using this
  cases k
  all_goals
   simp only[yT,HV,Ch,Ci,Cj,f133,f136,f239,Option.getD_some,aP,bO,dP,bM,O7];simp only[List.filterMap_cons,List.filterMap_nil,List.getElem?_toArray,List.getElem?_cons_succ,List.getElem?_cons_zero];simp only[go_sem,seval,aC,up,oZ,kS,vG];have Sr:Value.cells v= #[v]:=Pt xQ;unfold Value.cells at Sr;simp only[Sr];refine ag ?_;refineλbn cD=>?_;have nbn:=TH bn cD;have Pe:=ZL bn cD;have Jb:=ZQ bn cD;refine ag ?_
   first|refine app1 e22 rfl ai rfl ah (Jb _) rfl rfl aX xQ aa ?_|refine app1 e75 rfl ai rfl ah (Jb _) rfl rfl aX xQ aa ?_|refine app1 e49 rfl ai rfl ah (Jb _) rfl rfl aX xQ aa ?_
   intro a pad qg
   have dm:a≠bb:=by
    rcases qg with qg|⟨c,e⟩
    ·intro e;subst e;rw[Pe]at qg;cases qg
    ·exact(yg _ _ _ e).2.1
   have hXa:X.f a=none:=by
    rcases qg with qg|⟨c,e⟩
    ·cases hx:X.f a with
     |none=>rfl
     |some o=>
      have h1:=h.ext _ _ hx;have h2:a≠lb:=bl hx h.nl
      have h3:a≠bn:=λe=>by subst e;rw[<-si,Hp.aM _ h2]at cD;rw[cD]at h1;cases h1
      rw[Hp.aM _ h3,<-si,Hp.aM _ h2,h1]at qg;cases qg
    ·exact c3 _ _ _ e
   have afL:∀b o,b≠bb->(∀a n c,v0=.slice (some a) n c->b≠a.block)->fM.f b=some o->b≠a/\b≠bn:=by
    intro b o h1 h2 h3;have hn:b≠bn:=bl h3 cD;refine⟨λe=>?_,hn⟩;subst e;rcases qg with qg|⟨c,e⟩
    ·rw[Hp.aM _ hn,h3]at qg;cases qg
    ·exact h2 _ _ _ e rfl
   have ZK:=λo o'=>(Hp.aM (U:=fM.set bn o) o' dm.symm).trans (Pe o);simp only[go_sem,seval,aC,up,ki,oZ,ZK];refine⟨_,Hp.le_refl _,⟨_,aX,?_,?_⟩,?_⟩
   ·exact lst _ _ _ _ _ dm
   ·intro a' n c e
    cases e
    exact hXa
   ·intro b o h1 h2 h3;obtain⟨k1,k2⟩:=afL b o h1 h2 h3;rw[Hp.aM _ h1,Hp.aM _ k1,Hp.aM _ k2];exact h3
 rintro g bW ⟨mw,_,a2,gK,⟨rfl,cV,hle,kE,D2⟩,rfl⟩;refine ax.iR (J:=cV) ?_ hle;refine ax.ctl (λw=>apv) rfl rfl ?_;have R1:cV.f lb=_:=D2 lb _ (Ne.symm L8) (λa n c e=>(yg a n c e).1.symm) (by rw[<-si];exact Hp.bD _ _);have ed:a2.defers=[]:=gK.defers;obtain⟨tm2,d2⟩:=a2;subst ed;refine ax.step rfl (apC R1) ?_;rintro g fY ⟨rfl,rfl⟩;refine ax.here ⟨rfl,?_⟩;obtain⟨v',e1,e2,e3⟩:=kE
 have hk:∀b o,X.f b=some o->cV.f b=some o:=by intro b o hb;obtain⟨n1,n2,n3⟩:=h.apart hb;refine D2 b o n1 (λa n c e e2=>by have:=c3 a n c e;rw[<-e2,hb]at this;cases this) ?_;rw[<-si,Hp.aM _ n2];exact h.ext _ _ hb
 refine⟨?_,h.nb,h.nl,h.nd,aX,?_,v',?_,?_,e3⟩
 ·intro b o hb;rw[Hp.aM _ (h.apart hb).2.1];exact hk b o hb
 ·rw[Hp.aM _ TP.symm];refine D2 d _ nbd.symm (λa n c e=>(yg a n c e).2.2.1.symm) ?_;rw[<-si,Hp.aM _ TP.symm];exact h.vL
 ·rw[Hp.aM _ L8];exact e1
 ·refine e2.keep λa n c e=>Hp.aM _ λe5=>?_;subst e
  cases e2 with
  |«at»a' pad dH=>
   have e6:a'=lb:=e5;subst e6;rw[R1]at dH;cases dH
variable {pick:α×Value×Nat->Value}{tc:TypeId}{bm m c:Nat}
theorem I6(k:yO fs kr ety)(hY:Yields f pick key tc)(hg:cz prog f=true)(dI:U.f bm=some (.cells #[.map (some m)] tc (0,0)))(hm:U.f m=some (aU key l c))(hold:∀e∈l,e.2.2<c)(hn:(l.map (·.2.2)).Nodup)(gL:l.length<=1000000)(kV:∀e∈l,dn (pick e)=true):
 aw E fs #[.slice none 0 0,.func (.func f) #[] #[pV bm]] U λe J=>U.le J/\∃v ks,e=.returned v/\ks.Perm (l.map pick)/\Sl ety J ks v/\∀a n c,v=.slice (some a) n c->U.f a.block=none:=by
 intro cs
 have pd:Frame.enter prog fs #[.slice none 0 0,.func (.func f) #[] #[pV bm]] .normal=(bS fs).at {tmps:=#[.slice none 0 0,.func (.func f) #[] #[pV bm]]++Array.replicate 11 undef,defers:=[]} [.code (BS fs)]:=by simp[Frame.enter,Frame.at,Qu k,bS,acF k,acE k]
 rw[pd,Wh k];have ha:=sL #[.slice none 0 0,.func (.func f) #[] #[pV bm]] 13 al;refine ax.ctl (λw=>stepG_seq) rfl rfl ?_;refine(nR (E:=E) (N:=13) (X:=λI ds J=>ds=[]/\∃bb,I 2=pV bb/\I 1=.func (.func f) #[] #[pV bm]/\U.f bb=none/\J=U.set bb (.cells #[.slice none 0 0] kr (0,0))) ?_ (by simp[bS]) ha).bind ?_
 ·cases k
  all_goals
   simp only[Rm,Ch,Ci,Cj,f133,f136,f239,Option.getD_some,bO,bM];refine ag ?_;refineλbb fC=>?_;simp only[go_sem,seval,aC];exact⟨rfl,bb,by simp[up],by simp[up,nV],fC,rfl⟩
 rintro g J ⟨qz,_,a1,dk,⟨rfl,bb,h2,h1,fC,rfl⟩,rfl⟩;generalize eO:U.set bb (.cells #[.slice none 0 0] kr (0,0))=J;have Kq:J.f bb=some (.cells #[.slice none 0 0] kr (0,0)):=by rw[<-eO];exact Hp.bD _ _
 have SI:∀b o,U.f b=some o->b≠bb/\J.f b=some o:=by intro b o hb;have:b≠bb:=bl hb fC;exact⟨this,by rw[<-eO,Hp.aM _ this];exact hb⟩
 refine ax.ctl (λw=>stepG_seq) rfl rfl ?_;refine ax.ctl (λw=>stepG_seq) rfl rfl ?_;refine(nR (E:=E) (N:=13) (X:=λI ds bW=>ds=[]/\I 2=pV bb/\I 6=.func (.func f) #[] #[pV bm]/\bW=J) ?_ (by simp[bS]) dk).bind ?_
 ·cases k
  all_goals
   simp only[Ba,Ch,Ci,Cj,f133,f136,f239,Option.getD_some,aP,bO,bM];simp only[go_sem,seval,aC];exact⟨rfl,by simp[up,h2],by simp[up,h1],rfl⟩
 rintro g bW ⟨mw,_,a2,gK,⟨rfl,h2,h6,rfl⟩,rfl⟩;refine ax.ctl (λw=>stepG_block) rfl rfl ?_;refine ax.step rfl (apH (fid:=f) (cap:=#[pV bm]) (by rw[gK.eval];exact h6) hg rfl) ?_;rintro g fU ⟨d,lb,hd,aE,DJ,Hg,rfl⟩;have hT:a2.tmps.size=13:=gK.size;have hT2:a2.tmps.getD 2 undef=pV bb:=by rw[gK.tmps];exact h2
 have C:=aaQ k (E:=E) (lb:=lb) (d:=d) hT hT2;have TO:lb≠bb:=bl DJ Kq;have ndb:d≠bb:=bl hd Kq
 have aha:∀b o,U.f b=some o->fU.f b=some o:=by intro b o hb;obtain⟨k1,k2⟩:=SI b o hb;have k3:b≠d:=bl hd k2;have k4:b≠lb:=bl DJ k2;rw[Hg,Hp.aM _ k4,Hp.aM _ k3];exact k2
 have uv:∀b,bW.f b=none->U.f b=none:=by
  intro b hb
  cases hs:U.f b with
  |none=>rfl
  |some o=>rw[(SI b o hs).2]at hb;cases hb
 have Gi:tN ety kr bb lb d {state:=.ready,pending:=none,fn:=fs,tmps:=a2.tmps,params:=#[7],assign:=.region 2 (yR fs) false,body:=.block 1 (.region 3 (yT fs) false),defers:=d} U [] fU:=by
  refine⟨aha,fC,uv _ DJ,uv _ hd,?_,?_,.slice none 0 0,?_,.nil rfl,λa n c e=>by cases e⟩
  ·rw[Hg];exact Hp.bD _ _
  ·rw[Hg,Hp.aM _ aE.symm];exact Hp.bD _ _
  ·rw[Hg,Hp.aM _ TO.symm,Hp.aM _ ndb.symm];exact Kq
 have Ku:=hY C Gi dI hm hold hn (aY gL) kV;have abL:(#[.func (.yield lb) #[] #[]]++ #[pV bm]:Array Value)= #[.func (.yield lb) #[] #[],pV bm]:=rfl;rw[abL];refine aw.run Ku ?_ ?_
 ·rintro v fY ⟨hv,X',ks,hp,xC,hA⟩;rw[List.nil_append]at hA;have fG:((bS fs).at {a2 with defers:={target:=.collected d,args:=#[]}::a2.defers} (.inRangeFunc lb:: .inBlock 0:: .code ((Code.region 4 (tS fs) false).seq Code.ret)::[])).finish v=(bS fs).at {a2 with defers:={target:=.collected d,args:=#[]}::a2.defers} (.endRangeFunc lb:: .inBlock 0:: .code ((Code.region 4 (tS fs) false).seq Code.ret)::[]):=rfl;rw[fG];refine ax.step rfl (apB hA.loop rfl rfl) ?_;rintro g yC ⟨rfl,rfl⟩;refine ax.ctl (λw=>stepG_inBlock) rfl rfl ?_;refine ax.ctl (λw=>stepG_seq) rfl rfl ?_;obtain⟨v',c1,c2,c3⟩:=hA.cell
  have yg:∀a n c,v'=.slice (some a) n c->a.block≠lb/\a.block≠d:=by
   intro a n c e
   cases c2 with
   |nil=>cases e
   |«at»a' pad dH=>
    cases e
    refine⟨λe=>?_,λe=>?_⟩<;>(have e':=e;simp only at e';subst e')
    ·rw[hA.loop]at dH;cases dH
    ·rw[hA.vL]at dH;cases dH
  generalize Hh:fY.set lb _=pH;have Bc:pH.f d=some (.deferred (some [])):=by rw[<-Hh,Hp.aM _ aE.symm];exact hA.vL
  have Dh:pH.f bb=some (.cells #[v'] kr (0,0)):=by rw[<-Hh,Hp.aM _ TO.symm];exact c1
  have hs7:Sl ety pH ks v':=c2.keep λa n c e=>by rw[<-Hh,Hp.aM _ (yg a n c e).1]
  have ahb:U.le pH:=by intro b o hb;have h1:=xC b o hb;rw[<-Hh,Hp.aM _ (hA.apart h1).2.1];exact hA.ext _ _ h1
  have Dd:cM 13 {a2 with defers:={target:=.collected d,args:=#[]}::a2.defers} mw [{target:=.collected d,args:=#[]}]:=gK.defer _;refine(nR (E:=E) (N:=13) (X:=λI ds bW=>ds=[{target:=.collected d,args:=#[]}]/\I 4=v'/\bW=pH) ?_ (by simp[bS]) Dd).bind ?_
  ·cases k
   all_goals
    simp only[tS,Ch,Ci,Cj,f133,f136,f239,Option.getD_some,aP,bO,bM];simp only[go_sem,seval,aC,up,h2,Dh];exact⟨rfl,by simp[up],rfl⟩
  rintro g bW ⟨ρ8,_,a8,pb,⟨rfl,h4,rfl⟩,rfl⟩;refine ax.ctl (g':=G {(bS fs).at a8 [.code .ret]with mode:=.returning} cs) (λw=>?_) rfl rfl ?_
  ·simp[G,stepG,stepG.exec,Frame.at]
  refine ax.step rfl (apF (d:=d) Bc rfl pb.defers) ?_;rintro g vu ⟨rfl,rfl⟩;have nX:∀b o,U.f b=some o->b≠d:=λb o hb e=>by subst e;have:=uv _ hd;rw[this]at hb;cases hb
  refine ax.here ⟨.returned v',_,rfl,rfl,⟨rfl,rfl,rfl,rJ fs,Qu k,?_⟩,?_,v',ks,rfl,hp,?_,?_⟩
  ·show wpS _ (results (rJ fs) a8.tmps) _ _ _;rw[wZ (fn:=rJ fs) pb];have h0:(rJ fs).results= #[.tmp 4]:=by cases k<;>kernel_rfl
   simp[B3,h0,bt,h4]
  ·intro b o hb;rw[Hp.aM _ (nX b o hb)];exact ahb b o hb
  ·exact hs7.keep λa n c e=>Hp.aM _ (yg a n c e).2
  ·intro a n c e
   cases hs:U.f a.block with
   |none=>rfl
   |some o=>have:=xC _ _ hs;rw[c3 a n c e]at this;cases this
 ·rintro ch fY ⟨hv,_⟩
  cases hv
def Lx{i:Int}:aw E 214 #[.int .i64 i] U λe' ae=>e'=.returned (.bool false)/\ae=U:=by refine aV func214 ntmps214 results214 λQ aD an aB=>?_;refine ag ?_;refine an aI ao ⟨?_,rfl⟩;simp[up]
def Ly{l:List UInt8}:aw E 86 #[.string (B l)] U λe' ae=>e'=.returned (.bool false)/\ae=U:=by refine aV func86 ntmps86 results86 λQ aD an aB=>?_;refine ag ?_;refine an aI ao ⟨?_,rfl⟩;simp[up]
def px{i j:Int}:aw E 168 #[.int .i64 i,.int .i64 j] U λe' ae=>e'=.returned (.bool (decide (i<j)))/\ae=U:=by refine aV func168 ntmps168 results168 λQ aD an aB=>?_;refine ag ?_;refine aZ Lx ?_;refine ag ?_;exact an aI ao ⟨rfl,rfl⟩
variable {i j:List UInt8}
def ajB:aw E 262 #[.string (B i),.string (B j)] U λe' ae=>e'=.returned (.bool (Op.bytesLess i j))/\ae=U:=by refine aV func262 ntmps262 results262 λQ aD an aB=>?_;refine ag ?_;refine aZ Ly ?_;refine ag ?_;exact an aI ao ⟨rfl,rfl⟩
def aaV:aw E 52 #[.string (B i),.string (B j)] U λe' ae=>e'=.returned (.int .i64 (if Op.bytesLess i j then-1 else if i=j then 0 else 1))/\ae=U:=by
 refine aV func52 ntmps52 results52 λQ aD an aB=>?_;refine ag ?_;refine aZ Ly ?_;refine ag ?_;refine aZ Ly ?_;refine ag ?_
 cases h1:Op.bytesLess i j with
 |true=>
  refine ag ?_;exact an aI ao ⟨by simp[h1,up],rfl⟩
 |false=>
  refine aJ h1 ?_;by_cases h2:i=j
  ·subst h2;refine ag ?_;exact an aI ao ⟨by simp[h1,up],rfl⟩
  ·simp only[go_sem,seval,h2,decide_false,Bool.not_false];exact an aI ao ⟨by simp[h1,h2,up],rfl⟩
def Pb(l:List UInt8)(i:Nat):(l.getD i 0).toNat<=255:=by have:=(l.getD i 0).toNat_lt;omega
def ZB(l:List UInt8)(i:Nat):IntKind.i64.wrap (0+IntKind.i64.wrap (pP l i))=((l.getD i 0).toNat:Int):=by have h:=Pb l i;unfold pP;have e:=wrap64 (n:=((l.getD i 0).toNat:Int)) aa aa;rw[e,Int.zero_add,e]
def ajq{n:Nat}(hn:n<=255):aw E 172 #[.int .u64 n] U λe' ae=>(∃k:Nat,k<=255/\e'=.returned (.int .i64 k))/\ae=U:=by
 refine aV func172 ntmps172 results172 λQ aD an aB=>?_;have c0:¬(4294967296:Int)<=n:=aa;have c1:¬(65536:Int)<=n:=aa;have c2:¬(256:Int)<=n:=aa;refine bN c0 c1 c2 ?_
 have e8:IntKind.u8.wrap (n:Int)=n:=by have:((n:Int) % 256)=n:=aa;simpa[IntKind.wrap,IntKind.bits,IntKind.signed]using this
 rw[e8];refine⟨⟨aa,Int.lt_of_le_of_lt (b:=255) aa jU⟩,?_⟩;refine ag ?_;exact an aI ao ⟨⟨_,Pb _ _,congrArg (λx=>Fin.returned (.int .i64 x)) (ZB _ _)⟩,rfl⟩
def Ta{n:Nat}(hn:n<=255):aw E 135 #[.int .u64 n] U λe' ae=>(∃k:Nat,k<=255/\e'=.returned (.int .i64 k))/\ae=U:=by
 refine aV func135 ntmps135 results135 λQ aD an aB=>?_;refine ag ?_;refine aL (ajq hn) ?_;rintro v ae ⟨⟨k,hk,hv⟩,rfl⟩
 cases hv
 refine ag ?_;exact an aI ao ⟨⟨k,hk,rfl⟩,rfl⟩
def Hp.MU(h:U.f b=some o):U.set b o=U:=Hp.ext' λx=>by
 by_cases e:x=b
 ·subst e;rw[Hp.bD,h]
 ·rw[Hp.aM _ e]
structure yI {κ:Type} (lt:κ->κ->Bool):Prop where
 trans:∀{a b c},lt b a=false->lt c b=false->lt c a=false
 asym:∀{a b},lt a b=true->lt b a=false
def dR{κ:Type}(lt:κ->κ->Bool)(l:List κ):Prop:=l.Pairwise λa b=>lt b a=false
structure Down {κ:Type} (lt:κ->κ->Bool) (A:List κ) (x:κ) (B:List κ):Prop where
 jG:dR lt (A++B)
 le:∀b∈B,lt b x=false
section
variable {κ:Type}{lt:κ->κ->Bool}{A B:List κ}{x y:κ}
def Down.start (h:dR lt A):Down lt A x []:=⟨aY h,al⟩
def Down.step (L:yI lt)(h:Down lt (A++[y]) x B)(hl:lt x y=true):Down lt A x (y::B):=by
 refine⟨by have:=h.jG;simpa using this,λb hb=>?_⟩;rcases List.mem_cons.1 hb with rfl|hb
 ·exact L.asym hl
 ·exact h.le b hb
def Down.Jq (h:Down lt [] x B):dR lt (x::B):=by refine List.pairwise_cons.2 ⟨h.le,by simpa[dR]using h.jG⟩
def Down.Jr (L:yI lt)(h:Down lt (A++[y]) x B)(hl:lt x y=false):dR lt (A++[y]++x::B):=by
 have hs:=h.jG;unfold dR at hs|-;rw[List.pairwise_append]at hs;obtain⟨h1,h2,h3⟩:=hs;have rK:=h1;rw[List.pairwise_append]at rK;rw[List.pairwise_append];refine⟨h1,List.pairwise_cons.2 ⟨h.le,h2⟩,?_⟩;intro a ha b hb;rcases List.mem_cons.1 hb with rfl|hb
 ·rcases List.mem_append.1 ha with dH|dH
  ·exact L.trans (rK.2.2 a dH y al) hl
  ·simp at dH;subst dH;exact hl
 ·exact h3 a ha b hb
end
def kg(a b:Int):Bool:=decide (a<b)
def BF:yI kg:=⟨by simp only[kg,decide_eq_false_iff_not];omega,by simp only[kg,decide_eq_false_iff_not,decide_eq_true_eq];omega⟩
variable {xs:List Int}
def aif{blk cap:Nat}{pad:List Value}(hb:U.f blk=some (.cells (xs.map aW++pad).toArray 3 (0,0)))(hn:xs.length<=1000000):
 aw E 162 #[.slice (some ⟨blk,0,none⟩) xs.length cap,.int .i64 0,.int .i64 xs.length] U λe J=>e=.returned (.tuple #[])/\∃ys,ys.Perm xs/\dR kg ys/\J=U.set blk (.cells (ys.map aW++pad).toArray 3 (0,0)):=by
 refine aV func162 ntmps162 results162 λQ aD an aB=>?_;refine ag ?_;refine dh (λm I ds ae=>ds=[]/\I 0=.slice (some ⟨blk,0,none⟩) xs.length cap/\I 1=.int .i64 0/\I 2=.int .i64 xs.length/\∃S R,m=R.length/\(S++R).Perm xs/\dR kg S/\(I 6=.int .i64 S.length\/(xs=[]/\S=[]/\I 6=.int .i64 1))/\ae=U.set blk (.cells ((S++R).map aW++pad).toArray 3 (0,0))) (xs.length-1) ?_ ?_
 ·refine⟨rfl,?_,?_,?_,xs.take 1,xs.drop 1,al,by rw[List.take_append_drop],?_,?_,?_⟩
  ·exact au
  ·exact au
  ·exact au
  ·cases xs<;>simp[dR]
  ·cases xs with
   |nil=>exact .inr ⟨rfl,rfl,au⟩
   |cons x xs=>refine .inl ?_;simp only[go_sem,seval];rfl
  ·rw[List.take_append_drop,Hp.MU hb]
 ·rintro m I ds ae X ⟨rfl,h0,h1,h2,S,R,rfl,hp,hs,h6,rfl⟩ hX;have hlen:=hp.length_eq;rw[List.length_append]at hlen
  cases R with
  |nil=>
   have c1:∀i:Int,(i=S.length\/(xs=[]/\i=1))->¬i<(xs.length:Int):=by
    rintro i (rfl|⟨rfl,rfl⟩)
    ·simp at hlen;omega
    ·simp
   obtain⟨i,hi,pW⟩:∃i:Int,(i=S.length\/(xs=[]/\i=1))/\I 6=.int .i64 i:=by
    rcases h6 with h6|⟨h,_,h6⟩
    ·exact⟨_,.inl rfl,h6⟩
    ·exact⟨_,.inr ⟨h,rfl⟩,h6⟩
   have c1:=c1 i hi;refine bN h2 pW c1 ?_;exact aD dz ao ⟨rfl,S,aY hp,hs,al⟩
  |cons x R=>
   have pW:I 6=.int .i64 S.length:=by
    rcases h6 with h6|⟨h6,_⟩
    ·exact h6
    ·subst h6;simp at hlen
   have c1:(S.length:Int)<xs.length:=by simp at hlen;omega
   refine bN h2 pW c1 ?_;refine dh (λm I ds ae=>ds=[]/\I 0=.slice (some ⟨blk,0,none⟩) xs.length cap/\I 1=.int .i64 0/\I 2=.int .i64 xs.length/\I 6=.int .i64 S.length/\∃A B,m=A.length/\A.length+B.length=S.length/\(A++x::B++R).Perm xs/\Down kg A x B/\I 7=.int .i64 A.length/\ae=U.set blk (.cells ((A++x::B++R).map aW++pad).toArray 3 (0,0))) S.length ?_ ?_
   ·refine⟨rfl,?_,?_,?_,?_,S,[],rfl,al,aY hp,.start hs,?_,al⟩<;>exact iP h0 h1 h2 pW
   ·rintro m I ds ae X' ⟨rfl,h0,h1,h2,h6,A,B,rfl,np,hp,hd,h7,rfl⟩ xC;have gx:((A++x::B++R).map aW++pad)[A.length]? =some (aW x):=al;rcases List.eq_nil_or_concat A with rfl|⟨A,y,rfl⟩
    ·have c2:¬((([]:List Int).length:Int)>0):=al;simp only[List.length_nil]at h7 c2;refine ag ?_;refine bJ 15 ?_;refine bN h1 h6 h7 ?_;have cT:=hd.Jq;refine hX R.length _ _ _ _ al ⟨rfl,?_,?_,?_,x::B,R,rfl,aY hp,cT,.inl ?_,al⟩ ao
     ·exact aQ h0
     ·exact aQ h1
     ·exact aQ h2
     ·refine ag ?_;rw[wrap64 aa aa];simp at np;simp[np]
    ·simp only[List.concat_eq_append]at*;have gx:((A++[y]++x::B++R).map aW++pad)[(A++[y]).length]? =some (aW x):=by simp[List.getElem?_append_right]
     have gy:((A++[y]++x::B++R).map aW++pad)[A.length]? =some (aW y):=by simp[List.getElem?_append_right]
     have c2:(((A++[y]).length:Nat):Int)>0:=al
     have c3:(0:Int)<=(((A++[y]).length:Nat):Int)/\(((A++[y]).length:Nat):Int)<xs.length:=by have:=hp.length_eq;simp at this|-;omega
     have c4:(0:Int)<=(((A++[y]).length:Nat):Int)-1/\(((A++[y]).length:Nat):Int)-1<(xs.length:Int):=by have:=hp.length_eq;simp at this|-;omega
     have c5:IntKind.i64.wrap ((((A++[y]).length:Nat):Int)-1)=(A.length:Int):=by rw[wrap64 al (by simp at c3|-;omega)];simp
     have c6:(0:Int)<=A.length/\(A.length:Int)<xs.length:=by simp at c4|-;omega
     generalize hL:(A++[y]++x::B++R).map aW++pad=L at gx gy;generalize hj:(A++[y]).length=j at*;have f1:(U.set blk (.cells L.toArray 3 (0,0))).f blk=some (.cells L.toArray 3 (0,0)):=aX;refine ag ?_;refine bJ 15 ?_;simp only[go_sem,seval,h0,h1,h7,c2,c3,c5,c6,f1,gx,gy];refine aZ px ?_;refine gp ?_
     cases hl:decide (x<y)with
     |false=>
      refine aJ h6 ?_;have cT:=hd.Jr BF (show kg x y=false from hl);refine hX R.length _ _ _ _ al ⟨rfl,?_,?_,?_,A++[y]++x::B,R,rfl,aY hp,cT,.inl ?_,by rw[hL]⟩ ao
      ·exact aQ h0
      ·exact aQ h1
      ·exact aQ h2
      ·refine ag ?_;have e1:(A++[y]++x::B).length=S.length+1:=by simp at hj np|-;omega
       rw[e1,wrap64 aa aa];rfl
     |true=>
      refine ag ?_;refine bJ 18 ?_;have sk:∀x,dn (aW x)=true:=λ_=>rfl;have fS:∀o,(U.set blk o).f blk=some o:=λ_=>Hp.bD _ _;have lj:j<L.length:=(List.getElem?_eq_some_iff.1 gx).1;have lA:A.length<L.length:=(List.getElem?_eq_some_iff.1 gy).1;have S5:A.length<(L.set j (aW y)).length:=by simpa using lA
      simp only[go_sem,seval,h0,h7,c3,c5,c6,fS,gx,gy,sk,lj];refine gp ?_;refine ag ?_;refine⟨lA,?_⟩;refine gp ?_;refine bu h7 c5 ?_
      have e1:(L.set j (aW y)).set A.length (aW x)=(A++x::(y::B)++R).map aW++pad:=by rw[<-hL,<-hj];simp[List.set_append]
      rw[e1];refine xC A.length _ _ _ _ (by rw[<-hj];simp) ⟨rfl,?_,?_,?_,?_,A,y::B,rfl,by rw[<-hj]at np;simp at np|-;omega,?_,hd.step BF hl,?_,rfl⟩ ao
      ·exact aQ h0
      ·exact aQ h1
      ·exact aQ h2
      ·exact aQ h6
      ·refine List.Perm.trans ?_ hp;simp only[List.append_assoc,List.cons_append,List.nil_append];exact List.Perm.append_left _ (List.Perm.swap ..)
      ·exact au
theorem zR{β:Type}{f:α->β}{ks zs:List β}(h:ks.Perm zs):∀{xs:List α},zs=xs.map f->∃ys:List α,ys.Perm xs/\ks=ys.map f:=by
 induction h with
 |nil=>
  intro xs e
  cases xs with
  |nil=>exact⟨[],.refl _,rfl⟩
  |cons x xs=>cases e
 |cons a h ih=>
  intro xs e
  cases xs with
  |nil=>cases e
  |cons x xs=>
   simp only[List.map_cons,List.cons.injEq]at e;obtain⟨ys,h1,h2⟩:=ih e.2;exact⟨x::ys,h1.cons _,by rw[List.map_cons,h2,e.1]⟩
 |swap a b l=>
  intro xs e
  cases xs with
  |nil=>cases e
  |cons x xs=>
   cases xs with
   |nil=>simp at e
   |cons y xs=>
    simp only[List.map_cons,List.cons.injEq]at e;exact⟨y::x::xs,List.Perm.swap ..,by simp only[List.map_cons];rw[e.1,e.2.1,e.2.2]⟩
 |trans h1 h2 ih1 ih2=>
  intro xs e;obtain⟨ys,k1,k2⟩:=ih2 e;obtain⟨zs,k3,k4⟩:=ih1 k2;exact⟨zs,k3.trans k1,k4⟩
def sJ(U J:Hp)(v:Value):Prop:=∀b,(∀a n c,v=.slice (some a) n c->b≠a.block)->J.f b=U.f b
def aii:aw E 162 #[.slice none 0 0,.int .i64 0,.int .i64 0] U λe J=>e=.returned (.tuple #[])/\J=U:=by
 refine fZ func162 ntmps162 results162 rfl al λQ aD an aB=>?_;refine ag ?_;refine dh (λm I ds ae=>ds=[]/\I 2=.int .i64 0/\I 6=.int .i64 1/\ae=U) 0 ?_ ?_
 ·refine⟨rfl,?_,?_,rfl⟩<;>exact au
 ·rintro m I ds ae X ⟨rfl,h2,h6,rfl⟩ hX;have c:¬(1:Int)<0:=ai;refine bN h2 h6 c ?_;exact aD dz ao ⟨rfl,rfl⟩
def aih(h:Sl 3 U (xs.map aW) v)(hn:xs.length<=1000000):
 aw E 162 #[v,.int .i64 0,.int .i64 xs.length] U λe J=>e=.returned (.tuple #[])/\∃ys,ys.Perm xs/\dR kg ys/\Sl 3 J (ys.map aW) v/\sJ U J v:=by
 generalize hk:xs.map aW=ks at h
 cases h with
 |nil h0=>
  have:xs=[]:=by rw[h0]at hk;simpa using hk
  subst this;refine aii.mono ?_;rintro e J ⟨rfl,rfl⟩;exact⟨rfl,[],.refl _,.nil,.nil rfl,λ_ _=>rfl⟩
 |«at»a pad ha=>
  have hl:ks.length=xs.length:=by rw[<-hk];simp
  rw[hl];refine(aif (cap:=xs.length+pad.length) (pad:=pad) (by rw[hk];exact ha) hn).mono ?_;rintro e J ⟨rfl,ys,h1,h2,rfl⟩;refine⟨rfl,ys,h1,h2,?_,?_⟩
  ·have:=Sl.at (ety:=3) (U:=U.set a (.cells (ys.map aW++pad).toArray 3 (0,0))) (xs:=ys.map aW) a pad aX;have e:(ys.map aW).length=xs.length:=by simpa using h1.length_eq
   rw[e]at this;exact this
  ·intro b hb;exact Hp.aM _ (hb _ _ _ rfl)
def amn{k:Int}(h:Sl 3 U (xs.map aW) v)(hn:xs.length<=12):
 aw E 134 #[v,.int .i64 0,.int .i64 xs.length,.int .i64 k] U λe J=>e=.returned (.tuple #[])/\∃ys,ys.Perm xs/\dR kg ys/\Sl 3 J (ys.map aW) v/\sJ U J v:=by
 refine aV func134 ntmps134 results134 λQ aD an aB=>?_;refine ag ?_;refine dh (λm I ds ae=>ds=[]/\I 0=v/\I 1=.int .i64 0/\I 2=.int .i64 xs.length/\ae=U) 0 ?_ ?_
 ·refine⟨rfl,?_,?_,?_,rfl⟩<;>exact au
 ·rintro m I ds ae X ⟨rfl,h0,h1,h2,rfl⟩ hX;have c:(xs.length:Int)<=12:=aa;have c0:IntKind.i64.wrap ((xs.length:Int)-0)=xs.length:=by rw[Int.sub_zero];exact wrap64 aa aa
  refine mr h0 h1 h2 c0 c ?_;refine aL (aih h aa) ?_;rintro w J ⟨hw,eE⟩
  cases hw
  refine ag ?_;exact an dz ao ⟨rfl,eE⟩
theorem aaS(hY:Yields f pick key tc)(hg:cz prog f=true)(dI:U.f bm=some (.cells #[.map (some m)] tc (0,0)))(hm:U.f m=some (aU key l c))(hold:∀e∈l,e.2.2<c)(hn:(l.map (·.2.2)).Nodup)(gL:l.length<=1000000)(kV:∀e∈l,dn (pick e)=true):
 aw E 80 #[.func (.func f) #[] #[pV bm]] U λe J=>U.le J/\∃v ks,e=.returned v/\ks.Perm (l.map pick)/\Sl 3 J ks v/\∀a n c,v=.slice (some a) n c->U.f a.block=none:=by
 refine aV func80 ntmps80 results80 λQ aD an aB=>?_;refine ag ?_;refine aL (I6 .ZH hY hg dI hm hold hn gL kV) ?_;rintro v J ⟨hle,v',ks,hv,h1,h2,h3⟩
 cases hv
 refine ag ?_;exact an aI ao ⟨hle,v,ks,rfl,h1,h2,h3⟩
end
end Go.Qw
