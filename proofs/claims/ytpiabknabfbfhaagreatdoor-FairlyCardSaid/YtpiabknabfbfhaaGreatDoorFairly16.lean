/- Part 16. -/
import Derived.Test.YtpiabknabfbfhaaGreatDoorFairly15
set_option linter.all false
set_option maxRecDepth 100000
set_option maxHeartbeats 8000000
namespace Go.Qw
open Go Go.Proofs Go.Proofs.Tryz
section
open Go.Conc
open Go.ConcX
def wS(w:World):World:=(w.alloc (wgBlock 131 0 0)).setCell (stA w.heap.size) (.int .u64 KK)
def apP{w:World}{b:Nat}(h:b<w.heap.size):(wS w).heap[b]? =w.heap[b]? :=by rw[wS,Ep _ _ (by show b≠w.heap.size;omega)];show(w.heap.push _)[b]? =_;rw[Array.getElem?_push_lt h,Array.getElem?_eq_getElem h]
def apQ(w:World):(wS w).heap[w.heap.size]? =some (wgBlock 131 KK 0):=by show(Array.modify (w.heap.push (wgBlock 131 0 0)) w.heap.size _)[w.heap.size]? =_;rw[Array.getElem?_modify,if_pos rfl,Array.getElem?_push_size];simp[stA,wgBlock]
def MQ(w:World):(wS w).heap.size=w.heap.size+1:=by show(Array.modify (w.heap.push (wgBlock 131 0 0)) w.heap.size _).size=_;simp
noncomputable def xH(τ:Hp)(c1 c2 c3:Nat):Hp:=τ.only λb=>b≠c1/\b≠c2/\b≠c3
variable {W:World}{τ σ:Hp}{m:Machine}{T:Trace}{bc:Nat}{ch:List UInt8}{cb kb sb ub db c1 c2 c3:Nat}{cs:List Frame}{ρ:av}{a:Act}{l:List Value}{bg:Nat}{ph fr:Int}
def abk(mG:yk prog W (G (bT.at a [.code qP]) cs) τ m T)(ha:cJ 52 a ρ [])(r2:ρ 2=pV cb)(r3:ρ 3=pV kb)(r4:ρ 4=pV sb)(r5:ρ 5=pV ub)(r6:ρ 6=pV db)(hE:Nf σ τ bc ch cb kb sb ub db c1 c2 c3)(hb:σ.f bc=some (.cells l.toArray 90 (0,0)))(l8:Cn bg ph fr l)(hp:ph≠5):
 ∃(t:Tk) (hc:t.Ok t.cb) (hs:t.Ok t.sb) (hd:t.Ok t.db) (hb:t.Ok bc) (N:Nat) (m':Machine) (T':Trace),t.W=W/\t.c1=c1/\t.c2=c2/\t.c3=c3/\t.cb=cb/\t.sb=sb/\t.ub=ub/\t.db=db/\t.cs=cs/\t.HE=wgBlock 131 KK 0/\runNT prog N m T=(.next m',T')/\
  (t.B1 (λb=>b=t.wg) bc l hc hs hb).St t.j 0 (t.sS fr) (born prog (call56 t.wg t.cb kb t.sb t.ub t.db)) (xH τ c1 c2 c3) m' T':=by
 obtain⟨gs,w,sl,q,J,rfl,e1,e2,e3,e4,e5,e6⟩:=mG;have mP:0<gs.size:=(Array.getElem?_eq_some_iff.1 e1).1;obtain⟨S,hS⟩:∃S:Loc->Prop,S=λl=>∃x:Addr,l=.cell x/\(J x.block\/x.block=w.heap.size):=⟨_,rfl⟩
 have lD:Lone prog S (OfWg w.heap.size) (w.heap.size+1) gs w T q 0:=by
  have h0:=Lone.of (Q:=λ_=>False) mP e2 e3 (λ_ _ _ h=>h.elim);refine⟨h0.pos,h0.gI,h0.above,h0.d0,(h0.past.mono aa).anR (λl ⟨x,h1,h2⟩=>by rw[hS];exact⟨x,h1,.inl h2⟩),λop aS x ⟨y,hy,oP⟩ JG=>?_⟩;obtain rfl:y=x:=by simpa using hy.symm
  have:=h0.past.seen op aS;rw[JG]at this;have:y.block<w.heap.size:=this;omega
 have old:∀{b:Nat} {o:Obj},τ.f b=some o->b<w.heap.size/\¬J b/\w.heap[b]? =some o:=λh=>⟨e4.lt h,e4.rJ h,e4.heap h⟩;have so:∀(v:World) (x:World) (dd:Nat),(∃d,x=v.at d)->∃d,x.at dd=v.at d:=λv x dd ⟨d,h⟩=>⟨dd,by rw[h];rfl⟩;have h0:LS S (OfWg w.heap.size) (w.heap.size+1) (G (bT.at a [.code qP]) cs) 0 (λx=>∃d,x=w.at d) (crowd gs w sl) T:=⟨gs,w,sl,q,rfl,e1,lD,w.drawn,rfl⟩;have p1:=h0.ctl (g':=G (bT.at a [.code (.region 2 g2 false),.code (.seq (.region 3 g3 false) (.seq (.region 4 g4 false) iy))]) cs) rfl (so w) (λw=>by rw[am3];exact stepG_seq)
 have p2:=two p1 λm T h=>h.ctl (g':=G (bT.at a [.inRegion g2 [0],.code (.seq (.region 3 g3 false) (.seq (.region 4 g4 false) iy))]) cs) rfl (so w) (λw=>by
  have hr:List.range g2.size=[0]:=ah
  rw[<-hr];exact stepG_region)
 obtain⟨ps,af,ty,ho⟩:=abO
 have p3:=two p2 λm T h=>h.step (g':=G (bT.at (a.put (some 7) (pV w.heap.size)) [.inRegion g2 [],.code (.seq (.region 3 g3 false) (.seq (.region 4 g4 false) iy))]) cs) (R':=λx=>∃d,x=(w.alloc (wgBlock 131 0 0)).at d) rfl (so w) (λx ⟨d,hx⟩=>by
  subst hx
  exact⟨_,V2 ho _,d,rfl⟩)
 have CI:=ha.put (dst:=some 7) ai (pV w.heap.size);obtain⟨a7,ea7⟩:∃a7,a7=a.put (some 7) (pV w.heap.size):=⟨_,rfl⟩;rw[<-ea7]at p3 CI;have p4:=two p3 λm T h=>h.ctl (g':=G (bT.at a7 [.code (.seq (.region 3 g3 false) (.seq (.region 4 g4 false) iy))]) cs) rfl (so _) (λw=>stepG_region_end);have p5:=two p4 λm T h=>h.ctl (g':=G (bT.at a7 [.code (.region 3 g3 false),.code (.seq (.region 4 g4 false) iy)]) cs) rfl (so _) (λw=>stepG_seq)
 have p6:=two p5 λm T h=>h.ctl (g':=G (bT.at a7 [.inRegion g3 [0],.code (.seq (.region 4 g4 false) iy)]) cs) rfl (so _) (λw=>by
  have hr:List.range g3.size=[0]:=ah
  rw[<-hr];exact stepG_region)
 have v7:a7.eval (.tmp 7)=pV w.heap.size:=by rw[CI.eval];simp[ak,aB,up]
 have p7:=two p6 λm T h=>h.ctl rfl (so _) (λw=>VP v7 w);have l7:=old hE.c
 have p8:∃N m' T',runNT prog N (crowd gs w sl) T=(.next m',T')/\LS S (OfWg w.heap.size) (w.heap.size+1) (G (bT.at (a7.put ((g3[0]?).bind (·.dst)) (.tuple #[])) [.inRegion g3 [],.code (.seq (.region 4 g4 false) iy)]) cs) 0 (λx=>∃d,x=(wS w).at d) m' T':=by
  refine two p7 λm T ⟨bZ,w',bE,q',h1,h2,h3,d,h4⟩=>?_;subst h1 h4
  obtain⟨N,wQ,w2,wC,T2,q2,k1,k2,k3,k4,dd,k5⟩:=aiF (C:=cb) h3 h2 (by show(w.heap.push _)[w.heap.size]? =_;simp) aa aa (λx hx hs=>by
   rw[hS]at hs
   obtain⟨y,hy,h⟩:=hs
   obtain rfl:y=x:=by simpa using hy.symm
   rw[hx]at h
   rcases h with h|h
   ·exact l7.2.1 h
   ·omega)
  exact⟨N,_,T2,k1,wQ,w2,wC,q2,rfl,k3,k4,dd,k5⟩
 obtain⟨ps3,af3,ty3,aqJ,ho3⟩:=PL;have ed:(g3[0]?).bind (·.dst)=some 12:=by rw[ho3];rfl
 rw[ed]at p8;have oI:=CI.put (dst:=some 12) ai (.tuple #[]);obtain⟨a8,ea8⟩:∃a8,a8=a7.put (some 12) (.tuple #[]):=⟨_,rfl⟩;rw[<-ea8]at p8 oI;have p9:=two p8 λm T h=>h.ctl (g':=G (bT.at a8 [.code (.seq (.region 4 g4 false) iy)]) cs) rfl (so _) (λw=>stepG_region_end);have p10:=two p9 λm T h=>h.ctl (g':=G (bT.at a8 [.code (.region 4 g4 false),.code iy]) cs) rfl (so _) (λw=>stepG_seq)
 have p11:=two p10 λm T h=>h.ctl (g':=G (bT.at a8 [.inRegion g4 [0,1],.code iy]) cs) rfl (so _) (λw=>by
  have hr:List.range g4.size=[0,1]:=ah
  rw[<-hr];exact stepG_region)
 have u7:a8.eval (.tmp 7)=pV w.heap.size:=by rw[oI.eval];simp[ak,aB,up]
 have u2:a8.eval (.tmp 2)=pV cb:=by rw[oI.eval];simp[ak,aB,up,r2]
 have u3:a8.eval (.tmp 3)=pV kb:=by rw[oI.eval];simp[ak,aB,up,r3]
 have u4:a8.eval (.tmp 4)=pV sb:=by rw[oI.eval];simp[ak,aB,up,r4]
 have u5:a8.eval (.tmp 5)=pV ub:=by rw[oI.eval];simp[ak,aB,up,r5]
 have u6:a8.eval (.tmp 6)=pV db:=by rw[oI.eval];simp[ak,aB,up,r6]
 have pQ:=two p11 λm T h=>h.ctl rfl (so _) (λw=>abM u7 u2 u3 u4 u5 u6 w);have JF:=oI.put (dst:=some 13) ai (.func (.func 56) #[] (oz w.heap.size cb kb sb ub db));obtain⟨a9,ea9⟩:∃a9,a9=a8.put (some 13) (.func (.func 56) #[] (oz w.heap.size cb kb sb ub db)):=⟨_,rfl⟩;rw[<-ea9]at pQ JF;have u13:a9.eval (.tmp 13)=.func (.func 56) #[] (oz w.heap.size cb kb sb ub db):=by rw[JF.eval];simp[ak,aB,up]
 obtain⟨N1,m1,T1,eU,P1,w1,Mi,q1,rfl,g1,l1,d1,rfl⟩:=pQ;have afj:=l1.pos;have fX:=old hE.u;have mU:=old hE.s;have yL:=old hE.d;have sB:=old hE.k;have FM:=old (hE.le _ _ hb);have cB:=old hE.h1;have dP:=old hE.h2;have kL:=old hE.h3;have Be:∀{x c:Nat} {o:Obj},τ.f x=some o->τ.f c=some mZ->o≠mZ->x≠c:=λh1 h2 h3 e=>by rw[e,h2]at h1;exact h3 (Option.some.inj h1).symm
 have nb:∀{x y:Nat} {o p:Obj},τ.f x=some o->τ.f y=some p->o≠p->x≠y:=λh1 h2 h3 e=>by rw[e,h2]at h1;exact h3 (Option.some.inj h1).symm
 have oc:∀{c:Array Value} {e:Nat} {z:Nat×Nat},Obj.cells c e z≠mZ:=λh=>by simp[mZ]at h
 let t:Tk:={W:=W,j:=P1.size,c1:=c1,c2:=c2,c3:=c3,cb:=cb,sb:=sb,ub:=ub,db:=db,wg:=w.heap.size,Jh:=J,Bd:=w.heap.size+1,cs:=cs,cw:=[],HE:=wgBlock 131 KK 0,hj:=afj,d12:=hE.d12,d13:=hE.d13,d23:=hE.d23
            fX:=⟨Be hE.u hE.h1 oc,Be hE.u hE.h2 oc,Be hE.u hE.h3 oc,aa,fX.2.1,aa⟩
            GB:=⟨aa,aa,aa⟩}
 have ok:∀{x:Nat} {c:Array Value} {e:Nat} {z:Nat×Nat},τ.f x=some (.cells c e z)->e≠120->t.Ok x:=λh he=>by have ho:=old h;exact⟨Be h hE.h1 oc,Be h hE.h2 oc,Be h hE.h3 oc,by show _≠w.heap.size;omega,nb h hE.u (λe=>by simp at e;exact he e.2.1),ho.2.1,by show _<w.heap.size+1;omega⟩
 have od:t.Ok t.cb:=ok hE.c ai;have oks:t.Ok t.sb:=ok hE.s ai;have LP:t.Ok t.db:=ok hE.d ai;have vX:t.Ok bc:=ok (hE.le _ _ hb) ai;have xc:∀{b:Nat} {o:Obj},τ.f b=some o->((wS w).at d1).heap[b]? =some o:=λh=>(apP (old h).1).trans (old h).2.2
 have oH:t.K1 bc l ((wS w).at d1):=⟨⟨xc hE.u,apQ w⟩,xc hE.c,xc hE.s,(l[3]?).getD undef,by
  have:l.set 3 ((l[3]?).getD undef)=l:=by
   apply List.ext_getElem?
   intro i
   rw[List.getElem?_set]
   split
   ·rename_i h;subst h
    have:3<l.length:=by rw[l8.len];decide
    simp[this]
   ·rfl
  rw[this];exact xc (hE.le _ _ hb)⟩
 have hh:∃n,dW prog true (t.B1 (λb=>b=t.wg) bc l od oks vX).KW (t.B1 (λb=>b=t.wg) bc l od oks vX).Still (t.B1 (λb=>b=t.wg) bc l od oks vX).B (t.sS fr) n (G (bT.at a9 [.inRegion g4 [],.code iy]) cs):=by
  refine⟨_,.inl ⟨_,rfl,Way.ctl (n:=25) (λw=>stepG_region_end) rfl ?_⟩⟩;rw[aiU];refine Way.ctl (λw=>stepG_seq) rfl ?_;refine Way.ctl (λw=>stepG_block) rfl ?_;refine Way.ctl (λw=>stepG_loop) rfl ?_;refine apV (bc:=bc) (bg:=bg) (ph:=ph) (fr:=fr) hp (λw ⟨h1,h2,h3,r,h4⟩=>⟨⟨λb=>w.heap[b]?⟩,⟨h2,h3,_,_,h4,⟨?_,?_,?_,?_⟩⟩,λ_ _ h=>h⟩) (λa ha=>⟨.inr ⟨a,rfl,ha⟩,(Tk.TU od oks vX ha).lt⟩) JF ⟨?_,?_,?_,?_,?_⟩
  ·have:=u2;rw[oI.eval]at this;simpa[aB,up,ak]using this
  ·have:=u4;rw[oI.eval]at this;simpa[aB,up,ak]using this
  ·have:=u5;rw[oI.eval]at this;simpa[aB,up,ak]using this
  ·have:=u6;rw[oI.eval]at this;simpa[aB,up,ak]using this
  ·simp only[aB,up];rfl
  ·simpa using l8.len
  ·simpa using l8.g
  ·simpa using l8.ph
  ·simpa using l8.fr
 obtain⟨n,hh⟩:=hh;have wW:(t.B1 (λb=>b=t.wg) bc l od oks vX).S=S:=by rw[hS];rfl
 have afx:cN (λb=>J b\/b=w.heap.size\/b=c1\/b=c2\/b=c3) ((wS w).at d1) (xH τ c1 c2 c3):=by
  refine⟨λ{b o} h=>xc (Hp.akQ _ _ _ _ h),λb hb=>?_,λb hb=>?_⟩
  ·simp only[xH,Hp.only];split
   ·rename_i aE;rcases hb with hb|rfl|rfl|rfl|rfl
    ·exact e4.fA b hb
    ·cases e:τ.f w.heap.size with
     |none=>rfl
     |some o=>exact absurd (old e).1 aa
    ·exact absurd rfl aE.1
    ·exact absurd rfl aE.2.1
    ·exact absurd rfl aE.2.2
   ·rfl
  ·show b<(wS w).heap.size;rw[MQ];rcases hb with hb|rfl|rfl|rfl|rfl
   ·have:=e4.low b hb;omega
   ·omega
   ·omega
   ·omega
   ·omega
 have aet:∀b,(t.B1 (λb=>b=t.wg) bc l od oks vX).Hid b->(λb=>J b\/b=w.heap.size\/b=c1\/b=c2\/b=c3) b:=by
  intro b hb;rcases hb with hb|hb|⟨x,hx,hb|hb⟩
  ·exact .inr (.inl hb)
  ·rcases hb with rfl|rfl|rfl
   ·exact .inr (.inr (.inl rfl))
   ·exact .inr (.inr (.inr (.inl rfl)))
   ·exact .inr (.inr (.inr (.inr rfl)))
  ·obtain⟨y,hy,h⟩:=hb;obtain rfl:y=x:=by simpa using hy.symm
   rcases h with h|h
   ·exact .inl (hx▸h)
   ·exact .inr (.inl (hx▸h))
  ·obtain⟨y,hy,h⟩:=hb;obtain rfl:y=x:=by simpa using hy.symm
   exact .inr (.inl (hx▸h))
 obtain⟨N2,m2,T2,bY,zH⟩:=l1.spawn g1 rfl Mi (λdd=>acK u13 _) (D:=t.B1 (λb=>b=t.wg) bc l od oks vX) (s:=t.sS fr) (σ:=xH τ c1 c2 c3) (J:=λb=>J b\/b=w.heap.size\/b=c1\/b=c2\/b=c3) rfl (by show _<=(wS w).heap.size;rw[MQ];exact Nat.le_refl _) wW rfl hh oH
  (λc cP=>by
   rcases cP with rfl|rfl|rfl
   ·exact⟨0,xc hE.h1⟩
   ·exact⟨0,xc hE.h2⟩
   ·exact⟨0,xc hE.h3⟩) (by show _<=(wS w).heap.size;rw[MQ];exact Nat.le_refl _) ⟨e5.os,e5.tape,e5.output⟩
  afx aet
 exact⟨t,od,oks,LP,vX,_,m2,T2,rfl,rfl,rfl,rfl,rfl,rfl,rfl,rfl,rfl,rfl,runNT_then eU bY,zH⟩
end
section
open Go.Conc
open Go.ConcX (wgBlock KK)
def abl(F:FS){W:World}{a:F.γ}{kg φ0:Hp}{ch:List UInt8}(fV:F.od a ch)(hI:F.I a kg)(hd:kg.dV φ0)(hp:F.ph a≠5)(hn:ch.length<=4611686018427387904):
 ay (solo prog W) 40 #[pV F.bc,.string (B ch)] (kg.bJ φ0) λe τ=>e=.returned (.tuple #[])/\∃a' ae,F.Loop (F.add a ch) a'/\F.I a' ae/\ae.dV φ0/\τ=ae.bJ φ0:=by
 intro cs m T hm;obtain⟨N1,m1,T1,g1,τ,eU,pa,cb,kb,sb,ub,db,c1,c2,c3,hE,ρ,ac,ha,r2,r3,r4,r5,r6,rfl⟩:=entry (E:=solo prog W) (σ:=kg.bJ φ0) (bc:=F.bc) (ch:=ch) (cs:=cs) m T hm;obtain⟨l,hl,l8,ic⟩:=F.conn hI;obtain⟨t,od,oks,LP,vX,N2,m2,T2,z0,z1,z2,z3,z4,z5,z6,z7,z8,z9,bY,zH⟩:=abk (W:=W) (bg:=F.bg) (ph:=F.ph a) (fr:=F.fr a) pa ha r2 r3 r4 r5 r6 hE (Hp.jz hl) l8 hp;subst z1 z2 z3 z4 z5 z6 z7;have s0:∀{b:Nat},(kg.bJ φ0).f b=none->kg.f b=none:=λh=>tu (Hp.aie kg φ0) h
 have p0:∀{b:Nat},(kg.bJ φ0).f b=none->φ0.f b=none:=λh=>by have:=s0 h;rw[Hp.pX this]at h;exact h
 obtain⟨φ,AZ⟩:∃φ,φ=((φ0.set t.cb (.cells #[pV F.bc] 70 (0,0))).set t.sb (.cells #[.chan (some t.c1)] 119 (0,0))).set t.db (.cells #[.chan (some t.c3)] 121 (0,0)):=⟨_,rfl⟩;have nb:∀{x y:Nat} {o p:Obj},τ.f x=some o->τ.f y=some p->o≠p->x≠y:=λh1 h2 h3 e=>by rw[e,h2]at h1;exact h3 (Option.some.inj h1).symm
 have ncs:t.cb≠t.sb:=nb hE.c hE.s al;have S3:t.cb≠t.db:=nb hE.c hE.d al;have nsd:t.sb≠t.db:=nb hE.s hE.d al;have nuc:t.ub≠t.cb:=nb hE.u hE.c al;have nus:t.ub≠t.sb:=nb hE.u hE.s al;have nud:t.ub≠t.db:=nb hE.u hE.d al;have fc:φ.f t.cb=some (.cells #[pV F.bc] 70 (0,0)):=by rw[AZ];simp[Hp.set,ncs,S3]
 have fs:φ.f t.sb=some (.cells #[.chan (some t.c1)] 119 (0,0)):=by rw[AZ];simp[Hp.set,nsd]
 have fd:φ.f t.db=some (.cells #[.chan (some t.c3)] 121 (0,0)):=by rw[AZ];simp[Hp.set]
 have fo:∀{b:Nat},b≠t.cb->b≠t.sb->b≠t.db->φ.f b=φ0.f b:=λh1 h2 h3=>by rw[AZ];simp[Hp.set,h1,h2,h3]
 have Rg:φ0.le φ:=by
  intro b o hb;have h1:b≠t.cb:=λe=>by rw[e,p0 hE.nc]at hb;cases hb
  have h2:b≠t.sb:=λe=>by rw[e,p0 hE.ns]at hb;cases hb
  have h3:b≠t.db:=λe=>by rw[e,p0 hE.nd]at hb;cases hb
  rw[fo h1 h2 h3];exact hb
 have ad8:kg.dV φ:=by
  intro b;by_cases h1:b=t.cb
  ·subst h1;exact .inl (s0 hE.nc)
  by_cases h2:b=t.sb
  ·subst h2;exact .inl (s0 hE.ns)
  by_cases h3:b=t.db
  ·subst h3;exact .inl (s0 hE.nd)
  rw[fo h1 h2 h3];exact hd b
 have mI:Bx F t.cb t.sb t.db t.c1 t.c3 φ:=⟨fc,fs,fd⟩
 have fX:(kg.bJ φ).f t.ub=none:=by rw[Hp.pX (s0 hE.nu),fo nuc nus nud];exact p0 hE.nu
 have aj3:∀{b:Nat} {o:Obj},τ.f b=some o->o≠mZ->b≠t.c1/\b≠t.c2/\b≠t.c3:=λh ho=>⟨nb h hE.h1 ho,nb h hE.h2 ho,nb h hE.h3 ho⟩;have R4:∀{b:Nat} {o:Obj},τ.f b=some o->b≠t.c1/\b≠t.c2/\b≠t.c3->(xH τ t.c1 t.c2 t.c3).f b=some o:=λh hb=>Hp.G2 h hb;have oc:∀{c:Array Value} {e:Nat} {z:Nat×Nat},Obj.cells c e z≠mZ:=λh=>by simp[mZ]at h
 have nJ:∀{b:Nat} {c:Array Value} {e:Nat} {z:Nat×Nat},τ.f b=some (.cells c e z)->(xH τ t.c1 t.c2 t.c3).f b=some (.cells c e z):=λh=>R4 h (aj3 h oc)
 have hle:(kg.bJ φ).le (xH τ t.c1 t.c2 t.c3):=by
  intro b o hb;by_cases h1:b=t.cb
  ·subst h1;rw[Hp.pX (s0 hE.nc),fc]at hb;cases hb;exact nJ hE.c
  by_cases h2:b=t.sb
  ·subst h2;rw[Hp.pX (s0 hE.ns),fs]at hb;cases hb;exact nJ hE.s
  by_cases h3:b=t.db
  ·subst h3;rw[Hp.pX (s0 hE.nd),fd]at hb;cases hb;exact nJ hE.d
  have lY:(kg.bJ φ0).f b=some o:=by simp only[Hp.bJ]at hb|-;rw[fo h1 h2 h3]at hb;exact hb
  refine R4 (hE.le _ _ lY) ⟨?_,?_,?_⟩
  ·intro e;rw[e,hE.n1]at lY;cases lY
  ·intro e;rw[e,hE.n2]at lY;cases lY
  ·intro e;rw[e,hE.n3]at lY;cases lY
 have hW:Bw t F.bc kb l ch (xH τ t.c1 t.c2 t.c3):=⟨nJ hE.c,nJ hE.k,nJ hE.s,nJ hE.u,nJ hE.d,nJ (hE.le _ _ (Hp.jz hl))⟩;obtain⟨N3,m3,T3,a',ae,g',cw,eg,aeW,Cx,jm,pG,hT',qR⟩:=abo F fV hI ad8 mI fX hp hle hW hn ic l8 hl zH;have G1:∀{b:Nat},t.Ok b->Tk.Ok {t with cw:=cw} b:=λh=>⟨h.n1,h.n2,h.n3,h.nw,h.nu,h.nj,h.lt⟩;obtain⟨N4,m4,T4,a4,tQ,sx,BF⟩:=abn (t:={t with cw:=cw}) (bc:=F.bc) (σ:=ae.bJ φ) (vb:=pV F.bc) z9 (G1 od) (G1 LP) S3 pG (Hp.uj jm _ _ fc) (Hp.uj jm _ _ fd) hT' qR
 have aeT:(ae.bJ φ0).le (ae.bJ φ):=by
  intro b o hb;rcases Hp.HC hb with h1|⟨h1,h2⟩
  ·exact Hp.jz h1
  ·rw[Hp.pX h1];exact Rg _ _ h2
 have ad5:ae.dV φ0:=by
  intro b;rcases jm b with h|h
  ·exact .inl h
  ·right
   cases e:φ0.f b with
   |none=>rfl
   |some o=>rw[Rg _ _ e]at h;cases h
 have jW:ax (solo prog W) (G (bT.at a4 [.inRegion lM []]) cs) (ae.bJ φ) λg τ=>∃e fr,g=G fr cs/\fr.fn=40/\Leaving prog fr τ e/\(e=.returned (.tuple #[])/\∃a' ae,F.Loop (F.add a ch) a'/\F.I a' ae/\ae.dV φ0/\τ=ae.bJ φ0):=by
  refine ax.ik (τ:=ae.bJ φ0) ?_ aeT;refine ax.ctl (λw=>stepG_region_end) rfl rfl ?_;refine ax.ctl (λw=>stepG_end) rfl rfl (ax.here ⟨.returned (.tuple #[]),_,rfl,rfl,⟨rfl,sx,rfl,_,func40,?_⟩,rfl,a',ae,aeW,Cx,ad5,rfl⟩);have:(results f40 a4.tmps)=pure (.tuple #[]):=by simp[results,f40]
  show wpS prog (results f40 a4.tmps) _ _ _;rw[this];exact⟨rfl,rfl⟩
 have Uy:yk prog t.W (G (bT.at a4 [.inRegion lM []]) t.cs) (ae.bJ φ) m4 T4:=BF;rw[z0,z8]at Uy;obtain⟨N5,m5,T5,g5,dr,Gq,zI,eV⟩:=jW m4 T4 Uy;exact⟨_,m5,T5,g5,dr,runNT_then (runNT_then (runNT_then (runNT_then eU bY) eg) tQ) Gq,zI,eV⟩
end
variable {P:Program}{ρ:av}{σ:Hp}
def ap3{E:Env P}{N:Nat}{a b c:Code}{Q:Post}{ds:List Deferred}(h:cK E N (.seq (.seq a b) c) Q ρ ds σ):cK E N (.seq a (.seq b c)) Q ρ ds σ:=by
 have e:kX (cK E N b (kX (cK E N c Q) Q)) (kX (cK E N c Q) Q)=kX (cK E N b (kX (cK E N c Q) Q)) Q:=by funext e;cases e<;>rfl
 show cK E N a (kX (cK E N b (kX (cK E N c Q) Q)) Q) ρ ds σ;rw[<-e];exact h
variable {τ:Hp}{b:Nat}{v:Value}
def ni{a:Tmp}{t:TypeId}(ha:ρ a=pV b)(ht:dm P t=true)(h:iQ P t ⟨b,0,none⟩ τ=some v):ln P #[.cell a t] ρ τ v:=by unfold ln;have h2:=vP (Q:=λv' ae=>v'=v/\ae=τ) (H:=λ_ _=>False) ht (ui h ⟨rfl,rfl⟩);simp[asAddr,ha];exact h2
def aoN:cq prog 135=5:=ah
def zf:dm prog 135=true:=ah
def zh{a1 a2 a3 a4 a5:Value}{e:Nat}(h:τ.f b=some (.cells #[a1,a2,a3,a4,a5] e (0,0))):iQ prog 135 ⟨b,0,none⟩ τ=some (.agg #[a1,a2,a3,a4,a5]):=by unfold iQ;rw[if_pos VR,aoN];simp[cellsOf,h]
variable {l:List Value}
def uF{i:Nat}(h:l[i]? =some v):l.set i v=l:=by
 apply List.ext_getElem?;intro j;rw[List.getElem?_set];split
 ·rename_i e;subst e;have:i<l.length:=(List.getElem?_eq_some_iff.1 h).1;simp[this,<-h]
 ·rfl
def Gn{o:Obj}(h:σ.f b=some o):σ.set b o=σ:=Hp.ext' λx=>by
 by_cases e:x=b
 ·subst e;rw[Hp.bD,h]
 ·rw[Hp.aO _ e]
variable {bc ub:Nat}{o:Obj}
def So(h1:τ.f bc=some o)(h2:∀x,x≠bc->x≠ub->τ.f x=σ.f x)(fX:σ.f ub=none)(aE:bc≠ub):(σ.set bc o).le τ:=λx p hx=>by
 by_cases e:x=bc
 ·subst e;rw[Hp.bD]at hx;rw[h1];exact hx
 ·rw[Hp.aO _ e]at hx;have e2:x≠ub:=bp hx fX;rw[h2 x e e2];exact hx
def KZ{ab:Nat}(h1:τ.f bc=some o)(h2:∀x,x≠bc->x≠ab->x≠ub->τ.f x=σ.f x)(fX:σ.f ub=none)(di:σ.f ab=none):(σ.set bc o).le τ:=λx p hx=>by
 by_cases e:x=bc
 ·subst e;rw[Hp.bD]at hx;rw[h1];exact hx
 ·rw[Hp.aO _ e]at hx;have e2:x≠ub:=bp hx fX;have e3:x≠ab:=bp hx di;rw[h2 x e e3 e2];exact hx
def pA:List UInt8:=[65,77,81,80,0,0,9,1]
def ft(gr:Bool)(s:List UInt8)(size:Int):Un×Bool×List UInt8:=
 if gr=false then
  let n:=min s.length 8
  if s.take n≠pA.take n then(⟨0,0,[],true,true⟩,false,s)
  else if n=8 then(⟨0,0,[],true,false⟩,true,s.drop 8)
  else(⟨0,0,[],false,false⟩,false,s)
 else if s.length<7 then(⟨0,0,[],false,false⟩,true,s)
 else
  let kind:=num (s.take 1)
  let ch:=num ((s.drop 1).take 2)
  let n:=num ((s.drop 3).take 4)
  let r:=s.drop 7
  let fR:Bool:=if kind=1\/kind=2\/kind=3 then decide ((n:Int)>size-8)else if kind=8 then decide (n>0\/ch≠0)else true
  if fR=false/\r.length<=n then(⟨0,0,[],false,false⟩,true,s)
  else if fR then(⟨kind,ch,[],false,true⟩,true,s)
  else(⟨kind,ch,r.take n,false,decide (num ((r.drop n).take 1)≠206)⟩,true,r.drop (n+1))
variable {E:Env prog}{et:Nat}{s:List UInt8}{size:Int}
def ajE(hb:σ.f bc=some (.cells l.toArray et (0,0)))(ic:l[3]? =some (.string (B s)))(mN:l[4]? =some (.bool false)):
 ay E 104 #[.pointer (some ⟨bc,3,none⟩),.int .i64 size] σ λe' ae=>e'=.returned (uV (ft false s size).1)/\(σ.set bc (.cells ((l.set 3 (.string (B (ft false s size).2.2))).set 4 (.bool (ft false s size).2.1)).toArray et (0,0))).le ae:=by
 refine aW func104 ntmps104 results104 λQ aC an aA=>?_;refine ag ?_;refineλub fX=>?_;refine fB fX hb ic mN ?_;obtain⟨n,hn⟩:∃n,n=min s.length 8:=⟨_,rfl⟩;have J9:min (s.length:Int) 8=(n:Int):=aa;refine SH (a:=(s.length:Int)) (b:=8) au au ?_;rw[J9];refine ag ?_;have d0:(0:Int)<=n:=aa;have d1:(n:Int)<=s.length:=aa;have d2:(n:Int)<=8:=aa;refine bG 6 ?_;simp only[go_sem,Nat.reduceLT,Nat.reduceBEq,Nat.reduceAdd,d0,d1];refine⟨aa,?_⟩;refine ag ?_;refine alr (b:=decide (s.take n≠pA.take n)) ?_ ?_
 ·simp only[go_sem,seval,Nat.sub_zero];intro hg;have eX:¬s.take n=pA.take n:=aZ hg;have hu:ft false s size=(⟨0,0,[],true,true⟩,false,s):=by simp[ft,<-hn,eX]
  rw[hu]at an;refine an (ni (b:=ub) au zf (zh au)) ao ⟨by simp[uV],?_⟩;rw[uF ic,uF mN,Gn hb];exact GO fX
 intro hg;have eX:s.take n=pA.take n:=aZ hg;have bj:4<l.length:=(List.getElem?_eq_some_iff.1 mN).1;have aE:bc≠ub:=bp fX hb;have ar6:∀o,(σ.set bc o).f ub=none:=λo=>by rw[Hp.aO _ (λe=>aE e.symm)];exact fX
 have g4:∀v,(l.set 4 v)[4]? =some v:=λv=>by simp[bj]
 have g3:∀v,(l.set 4 v)[3]? =some (.string (B s)):=λv=>by rw[List.getElem?_set_ne ai];exact ic
 have xr:∀o x,((σ.set ub o).set bc x).f ub=some o:=λo x=>by rw[Hp.aO _ (λe=>aE e.symm),Hp.bD]
 have aeX:3<l.length:=aa;by_cases h8:n=8
 ·have d3:((n:Int)=8):=aa;have d4:(8:Int)<=s.length:=aa;simp only[go_sem,seval,fX,hb,d3,bj,g4,d4,aeX,xr]
  have hu:ft false s size=(⟨0,0,[],true,false⟩,true,s.drop 8):=by have:=eX;simp[ft,<-hn,h8]at this|-;exact this
  rw[hu]at an;refine an (ni (b:=ub) au zf (zh au)) ao ⟨by simp[uV],?_⟩;refine So (ub:=ub) ?_ (λx h1 h2=>?_) fX aE
  ·rw[Hp.aO _ aE,Hp.bD,List.set_comm _ _ ai];have:List.take (s.length-8) (s.drop 8)=s.drop 8:=List.take_of_length_le al;rw[this]
  ·simp[Hp.set,h1,h2]
 ·have d3:¬((n:Int)=8):=aa;simp only[go_sem,seval,fX,hb,d3,bj,g4,xr]
  have hu:ft false s size=(⟨0,0,[],false,false⟩,false,s):=by have:=eX;simp[ft,<-hn,h8]at this|-;exact this
  rw[hu]at an;refine an (ni (b:=ub) au zf (zh au)) ao ⟨by simp[uV],?_⟩;refine So (ub:=ub) ?_ (λx h1 h2=>?_) fX aE
  ·rw[uF ic,Hp.aO _ aE,Hp.bD]
  ·simp[Hp.set,h1,h2]
def ajD(hb:σ.f bc=some (.cells l.toArray et (0,0)))(ic:l[3]? =some (.string (B s)))(mN:l[4]? =some (.bool true))(hs:s.length<7):
 ay E 104 #[.pointer (some ⟨bc,3,none⟩),.int .i64 size] σ λe' ae=>e'=.returned (uV (ft true s size).1)/\(σ.set bc (.cells ((l.set 3 (.string (B (ft true s size).2.2))).set 4 (.bool (ft true s size).2.1)).toArray et (0,0))).le ae:=by
 refine aW func104 ntmps104 results104 λQ aC an aA=>?_;refine ag ?_;refineλub fX=>?_;have d0:(s.length:Int)<7:=aa;refine lO fX hb ic mN d0 ?_;have hu:ft true s size=(⟨0,0,[],false,false⟩,true,s):=by simp[ft,hs]
 rw[hu]at an;refine an (ni (b:=ub) au zf (zh au)) ao ⟨by simp[uV],?_⟩;rw[uF ic,uF mN,Gn hb];exact GO fX
def ajC(hb:σ.f bc=some (.cells l.toArray et (0,0)))(ic:l[3]? =some (.string (B s)))(mN:l[4]? =some (.bool true))(hs:7<=s.length)(gE:0<=size/\size<=1000000):
 ay E 104 #[.pointer (some ⟨bc,3,none⟩),.int .i64 size] σ λe' ae=>e'=.returned (uV (ft true s size).1)/\(σ.set bc (.cells ((l.set 3 (.string (B (ft true s size).2.2))).set 4 (.bool (ft true s size).2.1)).toArray et (0,0))).le ae:=by
 refine aW func104 ntmps104 results104 λQ aC an aA=>?_
 iterate 7 refine ap3 ?_
 refine fG λK hK=>?_;refine ag ?_;refineλub fX=>?_;have d0:¬(s.length:Int)<7:=aa;refine lO fX hb ic mN d0 ?_;refineλab di=>?_;have sC:ub≠ab:=bp di aY;have FL:σ.f ab=none:=by rw[Hp.aO _ (λe=>sC e.symm)]at di;exact di
 refine ag ?_;have nb:ub≠bc:=bp fX hb;have na:ab≠bc:=bp FL hb;refine aL (Ec (w:=1) (c:=[.string (B s)]) (s:=s) aY rfl aa aa) ?_;rintro v fy ⟨hv,h1⟩
 cases hv
 have a1:fy.f ab=some (.cells #[.string (B (s.drop 1))] 289 (0,0)):=by rw[h1,Hp.bD];rfl
 have u1:fy.f ub=some (.cells #[.int .i64 0,.int .i64 0,.string (B []),.bool false,.bool false] 135 (0,0)):=by rw[h1,Hp.aO _ sC,Hp.aO _ sC,Hp.bD];rfl
 have o1:∀x,x≠ab->x≠ub->fy.f x=σ.f x:=λx e1 e2=>by rw[h1,Hp.aO _ e1,Hp.aO _ e1,Hp.aO _ e2]
 clear h1;refine ag ?_;refine aL (Ec (w:=2) (c:=[.string (B (s.drop 1))]) (s:=s.drop 1) a1 rfl aa (by simp;omega)) ?_;rintro v cM ⟨hv,h2⟩
 cases hv
 have a2:cM.f ab=some (.cells #[.string (B (s.drop 3))] 289 (0,0)):=by rw[h2,Hp.bD];simp[List.drop_drop]
 have u2:=u1;rw[<-Hp.aO (σ:=fy) (.cells ([.string (B (s.drop 1))].set 0 (.string (B ((s.drop 1).drop 2)))).toArray 289 (0,0)) sC]at u2;have u2:cM.f ub=some (.cells #[.int .i64 0,.int .i64 0,.string (B []),.bool false,.bool false] 135 (0,0)):=by rw[h2];exact u2
 have o2:∀x,x≠ab->x≠ub->cM.f x=σ.f x:=λx e1 e2=>by rw[h2,Hp.aO _ e1];exact o1 x e1 e2
 clear h2 a1 u1 o1;obtain⟨kind,Gc⟩:∃k,k=num (s.take 1):=⟨_,rfl⟩;obtain⟨ch,dK⟩:∃k,k=num ((s.drop 1).take 2):=⟨_,rfl⟩;rw[<-Gc,<-dK];refine aG u2 ?_;have Nu:∀o,(cM.set ub o).f ab=some (.cells #[.string (B (s.drop 3))] 289 (0,0)):=λo=>by rw[Hp.aO _ (λe=>sC e.symm)];exact a2
 refine aL (Ec (w:=4) (c:=[.string (B (s.drop 3))]) (s:=s.drop 3) (Nu _) rfl aa (by simp;omega)) ?_;rintro v dv ⟨hv,h3⟩
 cases hv
 have a3:dv.f ab=some (.cells #[.string (B (s.drop 7))] 289 (0,0)):=by rw[h3,Hp.bD];simp[List.drop_drop]
 have u3:dv.f ub=some (.cells #[.int .i64 kind,.int .i64 ch,.string (B []),.bool false,.bool false] 135 (0,0)):=by rw[h3,Hp.aO _ sC,Hp.bD];rfl
 have o3:∀x,x≠ab->x≠ub->dv.f x=σ.f x:=λx e1 e2=>by rw[h3,Hp.aO _ e1,Hp.aO _ e2];exact o2 x e1 e2
 clear h3 a2 Nu u2 o2;obtain⟨n,hn⟩:∃k,k=num ((s.drop 3).take 4):=⟨_,rfl⟩;rw[<-hn];refine aG u3 ?_;have arX:=Te ((s.drop 3).take 4);have Ic:∀o,(dv.set ub o).f ab=some (.cells #[.string (B (s.drop 7))] 289 (0,0)):=λo=>by rw[Hp.aO _ (λe=>sC e.symm)];exact a3
 have c1:IntKind.wrap .i64 (size-8)=size-8:=wrap64 aa aa
 have tail:∀(ρ:av) (w:Bool),ρ 0=.pointer (some ⟨bc,3,none⟩)->ρ 4=pV ub->ρ 7=pV ab->ρ 8=Value.int .i64 n->(if kind=1\/kind=2\/kind=3 then decide ((n:Int)>size-8)else if kind=8 then decide (n>0\/ch≠0)else true)=w->K ρ [] (dv.set ub (.cells #[.int .i64 kind,.int .i64 ch,.string (B []),.bool false,.bool w] 135 (0,0))):=by
  intro ρ w h0 h4 h7 h8 hw;refine hK _ _ _ ?_
  cases w with
  |true=>
   refine aG h4 ?_
   have hu:ft true s size=(⟨kind,ch,[],false,true⟩,true,s):=by simp only[ft,<-Gc,<-dK,<-hn,hw];simp[Nat.not_lt.2 hs]
   rw[hu]at an;refine an (ni (b:=ub) (aK h4) zf (zh au)) ao ⟨by simp[uV],?_⟩;rw[uF ic,uF mN];refine KZ (ub:=ub) (ab:=ab) ?_ (λx e1 e2 e3=>?_) fX FL
   ·rw[Hp.aO _ (λe=>nb e.symm),o3 bc (λe=>na e.symm) (λe=>nb e.symm)];exact hb
   ·rw[Hp.aO _ e3];exact o3 x e2 e3
  |false=>
   by_cases ig:(s.drop 7).length<=n
   ·have hr:((s.drop 7).length:Int)<=n:=aa;refine lO h4 h7 h8 Ic hr ?_
    have hu:ft true s size=(⟨0,0,[],false,false⟩,true,s):=by simp only[ft,<-Gc,<-dK,<-hn,hw];simp at ig;simp[Nat.not_lt.2 hs,ig]
    rw[hu]at an;refine an (ni (b:=ub) (aK h4) zf (zh au)) ao ⟨by simp[uV],?_⟩;rw[uF ic,uF mN];refine KZ (ub:=ub) (ab:=ab) ?_ (λx e1 e2 e3=>?_) fX FL
    ·rw[Hp.aO _ (λe=>nb e.symm),o3 bc (λe=>na e.symm) (λe=>nb e.symm)];exact hb
    ·rw[Hp.aO _ e3];exact o3 x e2 e3
   have hr:¬((s.drop 7).length:Int)<=n:=aa;refine lO h4 h7 h8 Ic hr ?_;refine aL (MB (n:=(n:Int)) (c:=[.string (B (s.drop 7))]) (s:=s.drop 7) (Ic _) rfl aa aa) ?_;rintro v fH ⟨hv,sm⟩
   cases hv
   rw[Int.toNat_natCast]at sm|-;have a4:fH.f ab=some (.cells #[.string (B ((s.drop 7).drop n))] 289 (0,0)):=by rw[sm,Hp.bD];rfl
   have u4:fH.f ub=some (.cells #[.int .i64 kind,.int .i64 ch,.string (B []),.bool false,.bool false] 135 (0,0)):=by rw[sm,Hp.aO _ sC,Hp.bD]
   have o4:∀x,x≠ab->x≠ub->fH.f x=σ.f x:=λx e1 e2=>by rw[sm,Hp.aO _ e1,Hp.aO _ e2];exact o3 x e1 e2
   clear sm;refine bO h4 h7 u4 ?_;have VL:∀o,(fH.set ub o).f ab=some (.cells #[.string (B ((s.drop 7).drop n))] 289 (0,0)):=λo=>by rw[Hp.aO _ (λe=>sC e.symm)];exact a4
   refine aL (Ec (w:=1) (c:=[.string (B ((s.drop 7).drop n))]) (s:=(s.drop 7).drop n) (VL _) rfl aa (by simp at ig|-;omega)) ?_;rintro v gX ⟨hv,h5⟩
   cases hv
   have a5:gX.f ab=some (.cells #[.string (B ((s.drop 7).drop (n+1)))] 289 (0,0)):=by rw[h5,Hp.bD];simp[List.drop_drop,Nat.add_assoc]
   have u5:gX.f ub=some (.cells #[.int .i64 kind,.int .i64 ch,.string (B ((s.drop 7).take n)),.bool false,.bool false] 135 (0,0)):=by rw[h5,Hp.aO _ sC,Hp.bD];rfl
   have o5:∀x,x≠ab->x≠ub->gX.f x=σ.f x:=λx e1 e2=>by rw[h5,Hp.aO _ e1,Hp.aO _ e2];exact o4 x e1 e2
   clear h5;obtain⟨z,hz⟩:∃k,k=num (((s.drop 7).drop n).take 1):=⟨_,rfl⟩;rw[<-hz];have VM:∀o,(gX.set ub o).f ab=some (.cells #[.string (B ((s.drop 7).drop (n+1)))] 289 (0,0)):=λo=>by rw[Hp.aO _ (λe=>sC e.symm)];exact a5
   have b5:∀o,(gX.set ub o).f bc=some (.cells l.toArray et (0,0)):=λo=>by rw[Hp.aO _ (λe=>nb e.symm),o5 bc (λe=>na e.symm) (λe=>nb e.symm)];exact hb
   have bj:3<l.length:=(List.getElem?_eq_some_iff.1 ic).1;have v5:∀o o',((gX.set ub o).set bc o').f ub=some o:=λo o'=>by rw[Hp.aO _ nb,Hp.bD]
   refine pT h0 h4 h7 u5 VM b5 bj v5 ?_
   have hu:ft true s size=(⟨kind,ch,(s.drop 7).take n,false,decide (z≠206)⟩,true,(s.drop 7).drop (n+1)):=by simp only[ft,<-Gc,<-dK,<-hn,<-hz,hw];simp at ig;simp[Nat.not_lt.2 hs,Nat.not_le.2 ig]
   rw[hu]at an;refine an (ni (b:=ub) (aK h4) zf (zh au)) ao ⟨by simp[uV];omega,?_⟩;refine KZ (ub:=ub) (ab:=ab) ?_ (λx e1 e2 e3=>?_) fX FL
   ·rw[Hp.aO _ (λe=>nb e.symm),Hp.bD];have:(l.set 3 (.string (B ((s.drop 7).drop (n+1)))))[4]? =some (.bool true):=by rw[List.getElem?_set_ne ai];exact mN
    rw[uF this]
   ·rw[Hp.aO _ e3,Hp.aO _ e1,Hp.aO _ e3];exact o5 x e2 e3
 by_cases k1:(kind:Int)=1
 ·simp only[go_sem,seval,u3,eq_true k1,c1];refine tail _ _ ?_ ?_ ?_ ?_ (by rw[if_pos aa])<;>exact au
 by_cases k2:(kind:Int)=2
 ·simp only[go_sem,seval,u3,k1,eq_true k2,c1];refine tail _ _ ?_ ?_ ?_ ?_ (by rw[if_pos aa])<;>exact au
 by_cases k3:(kind:Int)=3
 ·simp only[go_sem,seval,u3,k1,k2,eq_true k3,c1];refine tail _ _ ?_ ?_ ?_ ?_ (by rw[if_pos aa])<;>exact au
 by_cases k8:(kind:Int)=8
 ·by_cases AR:(n:Int)>0
  ·simp only[go_sem,seval,u3,k1,k2,k3,eq_true k8,AR];refine tail _ true ?_ ?_ ?_ ?_ (by rw[if_neg aa,if_pos aa];simp;omega)<;>exact au
  ·simp only[go_sem,seval,u3,k1,k2,k3,eq_true k8,AR];refine tail _ (decide ((ch:Int)≠0)) ?_ ?_ ?_ ?_ (by rw[if_neg aa,if_pos aa];congr 1;simp;omega)<;>exact au
 ·refine lO u3 k1 k2 k3 k8 ?_;refine tail _ true ?_ ?_ ?_ ?_ (by rw[if_neg aa,if_neg aa])<;>exact au
def ajB{gr:Bool}(hb:σ.f bc=some (.cells l.toArray et (0,0)))(ic:l[3]? =some (.string (B s)))(mN:l[4]? =some (.bool gr))(gE:0<=size/\size<=1000000):
 ay E 104 #[.pointer (some ⟨bc,3,none⟩),.int .i64 size] σ λe' ae=>e'=.returned (uV (ft gr s size).1)/\(σ.set bc (.cells ((l.set 3 (.string (B (ft gr s size).2.2))).set 4 (.bool (ft gr s size).2.1)).toArray et (0,0))).le ae:=by
 cases gr with
 |false=>exact ajE hb ic mN
 |true=>
  rcases Nat.lt_or_ge s.length 7 with h|h
  ·exact ajD hb ic mN h
  ·exact ajC hb ic mN h gE
variable {bg:Nat}{lg:List Value}{out:List UInt8}{clock:Int}
def Ue(hb:σ.f bc=some (.cells l.toArray 90 (0,0)))(hg:σ.f bg=some (.cells lg.toArray 74 (0,0)))(hl:l.length=12)(h0:l[0]? =some (pV bg))(bP:l[11]? =some (.string (B out)))(hc:lg[6]? =some (.int .i64 clock))(hlen:out.length+s.length<=9223372036854775807)(aE:bg≠bc):
 ay E 43 #[pV bc,.string (B s)] σ λe' ae=>e'=.returned (.tuple #[])/\ae=σ.set bc (.cells ((l.set 11 (.string (B (out++s)))).set 9 (.int .i64 clock)).toArray 90 (0,0)):=by
 refine aW func43 ntmps43 results43 λQ aC an aA=>?_;have g0:∀v,(l.set 11 v)[0]? =some (pV bg):=λv=>by rw[List.getElem?_set_ne ai];exact h0
 have eX:∀o,(σ.set bc o).f bg=some (.cells lg.toArray 74 (0,0)):=λo=>by rw[Hp.aO _ aE];exact hg
 refine Es hb bP hlen hl g0 eX hc ?_;exact aC du ao ⟨rfl,rfl⟩
def Y7{ch cl me:Nat}{xs:List Arg}(hb:σ.f bc=some (.cells l.toArray 90 (0,0)))(hg:σ.f bg=some (.cells lg.toArray 74 (0,0)))(hl:l.length=12)(h0:l[0]? =some (pV bg))(bP:l[11]? =some (.string (B out)))(hc:lg[6]? =some (.int .i64 clock))(aE:bg≠bc)(hv:zN σ xs v)(fV:∀a∈xs,kH a)(hn:xs.length<=1000)(dK:ch<9223372036854775808)(aM:cl<9223372036854775808)(aP:me<9223372036854775808)(fM:(cW xs).length<=10000000)(hlen:out.length+(ck ch cl me xs).length<=9223372036854775807):
 ay E 105 #[pV bc,.int .i64 ch,.int .i64 cl,.int .i64 me,v] σ λe' ae=>e'=.returned (.tuple #[])/\ae=σ.set bc (.cells ((l.set 11 (.string (B (out++ck ch cl me xs)))).set 9 (.int .i64 clock)).toArray 90 (0,0)):=by
 refine aW func105 ntmps105 results105 λQ aC an aA=>?_;refine ag ?_;refine aR (apW hv fV hn dK aM aP fM) ?_;refine ag ?_;refine aR (Ue hb hg hl h0 bP hc hlen aE) ?_;refine ag ?_;exact aC du ao ⟨rfl,rfl⟩
section
open Go.Conc
structure EV (E:Env prog) (lb:Nat) (p:Tmp) (r:Loop) (A:Hp->List Value->Hp->Prop):Prop where
 params:r.params= #[p]
 loop:∀{X xs σ},A X xs σ->σ.f lb=some (.loop r)
 ext:∀{X xs σ},A X xs σ->X.le σ
 new:∀{X xs σ b o},A X xs σ->σ.f b=none->A (X.set b o) xs (σ.set b o)
 upd:∀{X xs σ b o o'},A X xs σ->X.f b=some o'->A (X.set b o) xs (σ.set b o)
 round:∀{X xs σ},A X xs σ->∀v c cs,xs.length<1000000->de v=true->ax E (G (Frame.round lb r.fn (r.tmps.setIfInBounds p v) r.assign r.body .normal) (c::cs)) σ λg τ=>g=G (c.finish (.bool true)) cs/\A X (xs++[v]) τ
structure Left {α:Type} (l done rem:List (α×Value×Nat)) (seen:Array Nat):Prop where
 perm:(done++rem).Perm l
 seen:∀e∈l,e.2.2∈seen↔e∈done
variable {α:Type}{l:List (α×Value×Nat)}{e:α×Value×Nat}
def UB(hn:(l.map (·.2.2)).Nodup){e':α×Value×Nat}(h:e∈l)(h':e'∈l)(he:e.2.2=e'.2.2):e=e':=by
 induction l with
 |nil=>cases h
 |cons x l ih=>
  simp only[List.map_cons,List.nodup_cons,List.mem_map,not_exists,not_and]at hn;simp only[List.mem_cons]at h h';rcases h with rfl|h<;>rcases h' with rfl|h'
  ·rfl
  ·exact absurd he.symm (hn.1 _ h')
  ·exact absurd he (hn.1 _ h)
  ·exact ih hn.2 h h'
theorem aj1(hn:(l.map (·.2.2)).Nodup):l.Nodup:=by rw[List.nodup_iff_pairwise_ne]at hn|-;exact(List.pairwise_map.1 hn).imp λh e=>h (by rw[e])
theorem Left.start(l:List (α×Value×Nat)):Left l [] l #[]:=⟨.refl _,al⟩
variable {done rem:List (α×Value×Nat)}{seen:Array Nat}
def Left.mem(h:Left l done rem seen)(he:e∈l)(hs:e.2.2∉seen):e∈rem:=by
 have:=h.perm.mem_iff.2 he;rcases List.mem_append.1 this with h1|h1
 ·exact absurd ((h.seen e he).2 h1) hs
 ·exact h1
def Left.step(hn:(l.map (·.2.2)).Nodup)(h:Left l done rem seen)(he:e∈l)(hs:e.2.2∉seen):
 ∃Bs,Bs.length<rem.length/\Left l (done++[e]) Bs (seen.push e.2.2):=by
 obtain⟨s,t,rfl⟩:=List.append_of_mem (h.mem he hs);refine⟨s++t,al,?_,?_⟩
 ·refine List.Perm.trans ?_ h.perm;rw[List.append_assoc];exact List.Perm.append_left _ (by rw[List.singleton_append];exact List.perm_middle.symm)
 ·intro x hx;simp only[Array.mem_push,List.mem_append,List.mem_singleton];rw[h.seen x hx];constructor
  ·rintro(h1|h1)
   ·exact .inl h1
   ·exact .inr (UB hn hx he h1)
  ·rintro(h1|rfl)
   ·exact .inl h1
   ·exact .inr rfl
theorem Left.all(hn:(l.map (·.2.2)).Nodup)(h:Left l done rem seen)(ha:∀e∈l,e.2.2∈seen):done.Perm l:=by
 have hr:rem=[]:=by
  cases rem with
  |nil=>rfl
  |cons x rem=>
   have hx:x∈l:=h.perm.mem_iff.1 al;have hd:=(h.seen x hx).1 (ha x hx);have Gj:(done++x::rem).Nodup:=h.perm.nodup_iff.2 (aj1 hn);rw[List.nodup_append]at Gj;exact absurd rfl (Gj.2.2 x hd x al)
 have:=h.perm;rw[hr,List.append_nil]at this;exact this
section
variable {P:Program}{E:Env P}{ρ:av}{ds:List Deferred}{σ:Hp}{dst:Option Tmp}{ty:TypeId}{pos:String}{af:Array Edge}{g:Option (Nat×Bool)}{nx:av->List Deferred->Hp->Prop}{pn:List PanicEntry->Hp->Prop}
variable {α:Type}[DecidableEq α]{f:α->Value}{l:List (α×Value×Nat)}{c:Nat}
theorem Pd {x:Operand}{it b since:Nat}{seen:Array Nat}{e:α×Value×Nat}(hx:ak ρ x=pV it)(hi:σ.f it=some (.mapIter (some b) since (seen.push e.2.2) c))(hb:σ.f b=some (aU f l c))(hn:(l.map (·.2.2)).Nodup)(he:e∈l)
 (h:nx (aB ρ dst (.tuple #[f e.1,e.2.1])) ds σ):aT E ⟨dst,.entry x,ty,pos,af,g⟩ ρ ds σ nx pn:=by
 show wpOp E _ ρ ds σ nx pn;unfold wpOp;simp only[execOp,Instr.entry,aH,hx,oj];refine⟨_,hi,rfl,?_⟩;simp only[Array.back?_push,aH,oj];refine⟨_,hb,rfl,?_⟩;simp only[aU,bne_self_eq_false,Bool.false_eq_true,if_false,bq]
 have:(l.map λe=>(⟨f e.1,e.2.1,e.2.2⟩:MapEntry)).toArray.find? (λx=>x.born==e.2.2)=some ⟨f e.1,e.2.1,e.2.2⟩:=by
  rw[List.find?_toArray];clear hb hi h
  induction l with
  |nil=>cases he
  |cons x l ih=>
   simp only[List.map_cons,List.find?_cons];by_cases xu:x.2.2=e.2.2
   ·have:x=e:=UB hn al he xu;subst this;simp
   ·have h':(x.2.2==e.2.2)=false:=aZ xu;simp only[h'];simp only[List.map_cons,List.nodup_cons]at hn;rcases List.mem_cons.1 he with rfl|he
    ·exact absurd rfl xu
    ·exact ih hn.2 he
 simp only[this,bq];exact h
end
def Yields(f:FuncId)(pick:α×Value×Nat->Value)(key:α->Value)(tc:TypeId):Prop:=
 ∀{E:Env prog} {lb:Nat} {p:Tmp} {r:Loop} {A:Hp->List Value->Hp->Prop} (_:EV E lb p r A) {X σ:Hp} {xs:List Value} {l:List (α×Value×Nat)} {c bm m:Nat},
  A X xs σ->X.f bm=some (.cells #[.map (some m)] tc (0,0))->X.f m=some (aU key l c)->(∀e∈l,e.2.2<c)->(l.map (·.2.2)).Nodup->xs.length+l.length<=1000000->(∀e∈l,de (pick e)=true)->
  ay E f #[.func (.yield lb) #[] #[],pV bm] σ λe τ=>e=.returned (.tuple #[])/\∃X' ks,ks.Perm (l.map pick)/\X.le X'/\A X' (xs++ks) τ
def aV(i:Int):Value:=.int .i64 i
def bR(l:List UInt8):Value:=.string (B l)
theorem Hh(k:IntKind)(a b:Int):Instr.sameNow (.int k) (aV a) (aV b)=some (decide (a=b)):=by simp only[aV,Instr.sameNow,if_true];by_cases h:a=b<;>simp[h]
theorem Od(a b:List UInt8):(B a==B b)=decide (a=b):=by show((B a).data==(B b).data)=_;rw[M9,M9];by_cases h:a=b<;>simp[h]
theorem T7(a b:List UInt8):Instr.sameNow .string (bR a) (bR b)=some (decide (a=b)):=by simp only[bR,Instr.sameNow,Od]
theorem Hd(a:Int):Instr.sameBits 10000 (aV a) (aV a)=true:=by simp[aV,Instr.sameBits]
theorem TY(a:List UInt8):Instr.sameBits 10000 (bR a) (bR a)=true:=by simp[bR,Instr.sameBits,Od]
def ud:mr prog 72 aV:=⟨3,70,.int .i64,ah,ah,.inl ⟨_,rfl⟩,Hh _,Hd⟩
def ue:mr prog 88 aV:=⟨3,185,.int .i64,ah,ah,.inl ⟨_,rfl⟩,Hh _,Hd⟩
def A6:mr prog 273 aV:=⟨3,280,.int .i64,ah,ah,.inl ⟨_,rfl⟩,Hh _,Hd⟩
def vN:mr prog 114 bR:=⟨9,77,.string,ah,ah,.inr rfl,T7,TY⟩
def zg:mr prog 274 bR:=⟨9,186,.string,ah,ah,.inr rfl,T7,TY⟩
end
end Go.Qw
