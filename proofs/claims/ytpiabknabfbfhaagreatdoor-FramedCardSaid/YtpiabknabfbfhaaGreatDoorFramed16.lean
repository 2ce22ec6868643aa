/- 16 -/
import Derived.Test.YtpiabknabfbfhaaGreatDoorFramed15
set_option linter.all false
set_option maxRecDepth 100000
set_option maxHeartbeats 8000000
namespace Go.Qw
open Go Go.Proofs Go.Proofs.Tryz
section
open Go.Conc
open Go.ConcX
def wS(w:World):World:=(w.alloc (wgBlock 131 0 0)).setCell (stA w.heap.size) (.int .u64 KK)
def ap9{w:World}{b:Nat}(h:b<w.heap.size):(wS w).heap[b]? =w.heap[b]? :=by rw[wS,Ew _ _ (by show b≠w.heap.size;omega)];show(w.heap.push _)[b]? =_;rw[Array.getElem?_push_lt h,Array.getElem?_eq_getElem h]
def aqa(w:World):(wS w).heap[w.heap.size]? =some (wgBlock 131 KK 0):=by show(Array.modify (w.heap.push (wgBlock 131 0 0)) w.heap.size _)[w.heap.size]? =_;rw[Array.getElem?_modify,if_pos rfl,Array.getElem?_push_size];simp[stA,wgBlock]
def MW(w:World):(wS w).heap.size=w.heap.size+1:=by show(Array.modify (w.heap.push (wgBlock 131 0 0)) w.heap.size _).size=_;simp
noncomputable def xK(R:Hp)(c1 c2 c3:Nat):Hp:=R.only λb=>b≠c1/\b≠c2/\b≠c3
variable {W:World}{R U:Hp}{m:Machine}{T:Trace}{bc:Nat}{ch:List UInt8}{cb kb sb ub db c1 c2 c3:Nat}{cs:List Frame}{I:av}{a:Act}{l:List Value}{bg:Nat}{ph fr:Int}
def abI(mL:yo prog W (G (bT.at a [.code qV]) cs) R m T)(ha:cM 52 a I [])(r2:I 2=pV cb)(r3:I 3=pV kb)(r4:I 4=pV sb)(r5:I 5=pV ub)(r6:I 6=pV db)(hE:Nj U R bc ch cb kb sb ub db c1 c2 c3)(hb:U.f bc=some (.cells l.toArray 90 (0,0)))(mg:Cn bg ph fr l)(hp:ph≠5):
 ∃(t:Tk) (hc:t.Ok t.cb) (hs:t.Ok t.sb) (hd:t.Ok t.db) (hb:t.Ok bc) (N:Nat) (m':Machine) (T':Trace),t.W=W/\t.c1=c1/\t.c2=c2/\t.c3=c3/\t.cb=cb/\t.sb=sb/\t.ub=ub/\t.db=db/\t.cs=cs/\t.HG=wgBlock 131 KK 0/\runNT prog N m T=(.next m',T')/\
  (t.B1 (λb=>b=t.wg) bc l hc hs hb).St t.j 0 (t.sS fr) (born prog (call56 t.wg t.cb kb t.sb t.ub t.db)) (xK R c1 c2 c3) m' T':=by
 obtain⟨gs,w,sl,q,J,rfl,e1,e2,e3,e4,e5,e6⟩:=mL;have oX:0<gs.size:=(Array.getElem?_eq_some_iff.1 e1).1;obtain⟨S,hS⟩:∃S:Loc->Prop,S=λl=>∃x:Addr,l=.cell x/\(J x.block\/x.block=w.heap.size):=⟨_,rfl⟩
 have lL:Lone prog S (OfWg w.heap.size) (w.heap.size+1) gs w T q 0:=by
  have h0:=Lone.of (Q:=λ_=>False) oX e2 e3 (λ_ _ _ h=>h.elim);refine⟨h0.pos,h0.gK,h0.above,h0.d0,(h0.past.mono aa).an5 (λl ⟨x,h1,h2⟩=>by rw[hS];exact⟨x,h1,.inl h2⟩),λop aR x ⟨y,hy,o0⟩ JP=>?_⟩;obtain rfl:y=x:=by simpa using hy.symm
  have:=h0.past.seen op aR;rw[JP]at this;have:y.block<w.heap.size:=this;omega
 have old:∀{b:Nat} {o:Obj},R.f b=some o->b<w.heap.size/\¬J b/\w.heap[b]? =some o:=λh=>⟨e4.lt h,e4.rU h,e4.heap h⟩;have sE:∀(v:World) (x:World) (dd:Nat),(∃d,x=v.at d)->∃d,x.at dd=v.at d:=λv x dd ⟨d,h⟩=>⟨dd,by rw[h];rfl⟩;have h0:LS S (OfWg w.heap.size) (w.heap.size+1) (G (bT.at a [.code qV]) cs) 0 (λx=>∃d,x=w.at d) (crowd gs w sl) T:=⟨gs,w,sl,q,rfl,e1,lL,w.drawn,rfl⟩;have p1:=h0.ctl (g':=G (bT.at a [.code (.region 2 g2 false),.code (.seq (.region 3 g3 false) (.seq (.region 4 g4 false) iA))]) cs) rfl (sE w) (λw=>by rw[anm];exact stepG_seq)
 have p2:=two p1 λm T h=>h.ctl (g':=G (bT.at a [.inRegion g2 [0],.code (.seq (.region 3 g3 false) (.seq (.region 4 g4 false) iA))]) cs) rfl (sE w) (λw=>by
  have hr:List.range g2.size=[0]:=ah
  rw[<-hr];exact stepG_region)
 obtain⟨ps,af,ty,ho⟩:=ach
 have p3:=two p2 λm T h=>h.step (g':=G (bT.at (a.put (some 7) (pV w.heap.size)) [.inRegion g2 [],.code (.seq (.region 3 g3 false) (.seq (.region 4 g4 false) iA))]) cs) (R':=λx=>∃d,x=(w.alloc (wgBlock 131 0 0)).at d) rfl (sE w) (λx ⟨d,hx⟩=>by
  subst hx
  exact⟨_,V7 ho _,d,rfl⟩)
 have CL:=ha.put (dst:=some 7) an (pV w.heap.size);obtain⟨a7,ea7⟩:∃a7,a7=a.put (some 7) (pV w.heap.size):=⟨_,rfl⟩;rw[<-ea7]at p3 CL;have p4:=two p3 λm T h=>h.ctl (g':=G (bT.at a7 [.code (.seq (.region 3 g3 false) (.seq (.region 4 g4 false) iA))]) cs) rfl (sE _) (λw=>stepG_region_end);have p5:=two p4 λm T h=>h.ctl (g':=G (bT.at a7 [.code (.region 3 g3 false),.code (.seq (.region 4 g4 false) iA)]) cs) rfl (sE _) (λw=>stepG_seq)
 have p6:=two p5 λm T h=>h.ctl (g':=G (bT.at a7 [.inRegion g3 [0],.code (.seq (.region 4 g4 false) iA)]) cs) rfl (sE _) (λw=>by
  have hr:List.range g3.size=[0]:=ah
  rw[<-hr];exact stepG_region)
 have v7:a7.eval (.tmp 7)=pV w.heap.size:=by rw[CL.eval];simp[ai,aA,up]
 have p7:=two p6 λm T h=>h.ctl rfl (sE _) (λw=>VU v7 w);have mf:=old hE.c
 have p8:∃N m' T',runNT prog N (crowd gs w sl) T=(.next m',T')/\LS S (OfWg w.heap.size) (w.heap.size+1) (G (bT.at (a7.put ((g3[0]?).bind (·.dst)) (.tuple #[])) [.inRegion g3 [],.code (.seq (.region 4 g4 false) iA)]) cs) 0 (λx=>∃d,x=(wS w).at d) m' T':=by
  refine two p7 λm T ⟨ck,w',bG,q',h1,h2,h3,d,h4⟩=>?_;subst h1 h4
  obtain⟨N,wY,w2,wH,T2,q2,k1,k2,k3,k4,dd,k5⟩:=aiY (C:=cb) h3 h2 (by show(w.heap.push _)[w.heap.size]? =_;simp) aa aa (λx hx hs=>by
   rw[hS]at hs
   obtain⟨y,hy,h⟩:=hs
   obtain rfl:y=x:=by simpa using hy.symm
   rw[hx]at h
   rcases h with h|h
   ·exact mf.2.1 h
   ·omega)
  exact⟨N,_,T2,k1,wY,w2,wH,q2,rfl,k3,k4,dd,k5⟩
 obtain⟨ps3,af3,ty3,aq4,ho3⟩:=PT;have ed:(g3[0]?).bind (·.dst)=some 12:=by rw[ho3];rfl
 rw[ed]at p8;have oS:=CL.put (dst:=some 12) an (.tuple #[]);obtain⟨a8,ea8⟩:∃a8,a8=a7.put (some 12) (.tuple #[]):=⟨_,rfl⟩;rw[<-ea8]at p8 oS;have p9:=two p8 λm T h=>h.ctl (g':=G (bT.at a8 [.code (.seq (.region 4 g4 false) iA)]) cs) rfl (sE _) (λw=>stepG_region_end);have p10:=two p9 λm T h=>h.ctl (g':=G (bT.at a8 [.code (.region 4 g4 false),.code iA]) cs) rfl (sE _) (λw=>stepG_seq)
 have p11:=two p10 λm T h=>h.ctl (g':=G (bT.at a8 [.inRegion g4 [0,1],.code iA]) cs) rfl (sE _) (λw=>by
  have hr:List.range g4.size=[0,1]:=ah
  rw[<-hr];exact stepG_region)
 have u7:a8.eval (.tmp 7)=pV w.heap.size:=by rw[oS.eval];simp[ai,aA,up]
 have u2:a8.eval (.tmp 2)=pV cb:=by rw[oS.eval];simp[ai,aA,up,r2]
 have u3:a8.eval (.tmp 3)=pV kb:=by rw[oS.eval];simp[ai,aA,up,r3]
 have u4:a8.eval (.tmp 4)=pV sb:=by rw[oS.eval];simp[ai,aA,up,r4]
 have u5:a8.eval (.tmp 5)=pV ub:=by rw[oS.eval];simp[ai,aA,up,r5]
 have u6:a8.eval (.tmp 6)=pV db:=by rw[oS.eval];simp[ai,aA,up,r6]
 have pZ:=two p11 λm T h=>h.ctl rfl (sE _) (λw=>acf u7 u2 u3 u4 u5 u6 w);have JO:=oS.put (dst:=some 13) an (.func (.func 56) #[] (oG w.heap.size cb kb sb ub db));obtain⟨a9,ea9⟩:∃a9,a9=a8.put (some 13) (.func (.func 56) #[] (oG w.heap.size cb kb sb ub db)):=⟨_,rfl⟩;rw[<-ea9]at pZ JO;have u13:a9.eval (.tmp 13)=.func (.func 56) #[] (oG w.heap.size cb kb sb ub db):=by rw[JO.eval];simp[ai,aA,up]
 obtain⟨N1,m1,T1,eX,P7,w1,Mp,q1,rfl,g1,l1,d1,rfl⟩:=pZ;have afH:=l1.pos;have fX:=old hE.u;have mZ:=old hE.s;have yQ:=old hE.d;have sK:=old hE.k;have FO:=old (hE.le _ _ hb);have cG:=old hE.h1;have dU:=old hE.h2;have kT:=old hE.h3;have Bg:∀{x c:Nat} {o:Obj},R.f x=some o->R.f c=some nv->o≠nv->x≠c:=λh1 h2 h3 e=>by rw[e,h2]at h1;exact h3 (Option.some.inj h1).symm
 have nb:∀{x y:Nat} {o p:Obj},R.f x=some o->R.f y=some p->o≠p->x≠y:=λh1 h2 h3 e=>by rw[e,h2]at h1;exact h3 (Option.some.inj h1).symm
 have oc:∀{c:Array Value} {e:Nat} {z:Nat×Nat},Obj.cells c e z≠nv:=λh=>by simp[nv]at h
 let t:Tk:={W:=W,j:=P7.size,c1:=c1,c2:=c2,c3:=c3,cb:=cb,sb:=sb,ub:=ub,db:=db,wg:=w.heap.size,Jh:=J,Bd:=w.heap.size+1,cs:=cs,cw:=[],HG:=wgBlock 131 KK 0,hj:=afH,d12:=hE.d12,d13:=hE.d13,d23:=hE.d23
            fX:=⟨Bg hE.u hE.h1 oc,Bg hE.u hE.h2 oc,Bg hE.u hE.h3 oc,aa,fX.2.1,aa⟩
            GF:=⟨aa,aa,aa⟩}
 have ok:∀{x:Nat} {c:Array Value} {e:Nat} {z:Nat×Nat},R.f x=some (.cells c e z)->e≠120->t.Ok x:=λh he=>by have ho:=old h;exact⟨Bg h hE.h1 oc,Bg h hE.h2 oc,Bg h hE.h3 oc,by show _≠w.heap.size;omega,nb h hE.u (λe=>by simp at e;exact he e.2.1),ho.2.1,by show _<w.heap.size+1;omega⟩
 have ou:t.Ok t.cb:=ok hE.c an;have oks:t.Ok t.sb:=ok hE.s an;have LZ:t.Ok t.db:=ok hE.d an;have we:t.Ok bc:=ok (hE.le _ _ hb) an;have xg:∀{b:Nat} {o:Obj},R.f b=some o->((wS w).at d1).heap[b]? =some o:=λh=>(ap9 (old h).1).trans (old h).2.2
 have oQ:t.K1 bc l ((wS w).at d1):=⟨⟨xg hE.u,aqa w⟩,xg hE.c,xg hE.s,(l[3]?).getD undef,by
  have:l.set 3 ((l[3]?).getD undef)=l:=by
   apply List.ext_getElem?
   intro i
   rw[List.getElem?_set]
   split
   ·rename_i h;subst h
    have:3<l.length:=by rw[mg.len];decide
    simp[this]
   ·rfl
  rw[this];exact xg (hE.le _ _ hb)⟩
 have hh:∃n,dY prog true (t.B1 (λb=>b=t.wg) bc l ou oks we).KW (t.B1 (λb=>b=t.wg) bc l ou oks we).Still (t.B1 (λb=>b=t.wg) bc l ou oks we).B (t.sS fr) n (G (bT.at a9 [.inRegion g4 [],.code iA]) cs):=by
  refine⟨_,.inl ⟨_,rfl,Way.ctl (n:=25) (λw=>stepG_region_end) rfl ?_⟩⟩;rw[ajd];refine Way.ctl (λw=>stepG_seq) rfl ?_;refine Way.ctl (λw=>stepG_block) rfl ?_;refine Way.ctl (λw=>stepG_loop) rfl ?_;refine aqf (bc:=bc) (bg:=bg) (ph:=ph) (fr:=fr) hp (λw ⟨h1,h2,h3,r,h4⟩=>⟨⟨λb=>w.heap[b]?⟩,⟨h2,h3,_,_,h4,⟨?_,?_,?_,?_⟩⟩,λ_ _ h=>h⟩) (λa ha=>⟨.inr ⟨a,rfl,ha⟩,(Tk.TZ ou oks we ha).lt⟩) JO ⟨?_,?_,?_,?_,?_⟩
  ·have:=u2;rw[oS.eval]at this;simpa[aA,up,ai]using this
  ·have:=u4;rw[oS.eval]at this;simpa[aA,up,ai]using this
  ·have:=u5;rw[oS.eval]at this;simpa[aA,up,ai]using this
  ·have:=u6;rw[oS.eval]at this;simpa[aA,up,ai]using this
  ·simp only[aA,up];rfl
  ·simpa using mg.len
  ·simpa using mg.g
  ·simpa using mg.ph
  ·simpa using mg.fr
 obtain⟨n,hh⟩:=hh;have xb:(t.B1 (λb=>b=t.wg) bc l ou oks we).S=S:=by rw[hS];rfl
 have afV:cP (λb=>J b\/b=w.heap.size\/b=c1\/b=c2\/b=c3) ((wS w).at d1) (xK R c1 c2 c3):=by
  refine⟨λ{b o} h=>xg (Hp.ak9 _ _ _ _ h),λb hb=>?_,λb hb=>?_⟩
  ·simp only[xK,Hp.only];split
   ·rename_i aE;rcases hb with hb|rfl|rfl|rfl|rfl
    ·exact e4.gV b hb
    ·cases e:R.f w.heap.size with
     |none=>rfl
     |some o=>exact absurd (old e).1 aa
    ·exact absurd rfl aE.1
    ·exact absurd rfl aE.2.1
    ·exact absurd rfl aE.2.2
   ·rfl
  ·show b<(wS w).heap.size;rw[MW];rcases hb with hb|rfl|rfl|rfl|rfl
   ·have:=e4.low b hb;omega
   ·omega
   ·omega
   ·omega
   ·omega
 have aeS:∀b,(t.B1 (λb=>b=t.wg) bc l ou oks we).Hid b->(λb=>J b\/b=w.heap.size\/b=c1\/b=c2\/b=c3) b:=by
  intro b hb;rcases hb with hb|hb|⟨x,hx,hb|hb⟩
  ·exact .inr (.inl hb)
  ·rcases hb with rfl|rfl|rfl
   ·exact .inr (.inr (.inl rfl))
   ·exact .inr (.inr (.inr (.inl rfl)))
   ·exact .inr (.inr (.inr (.inr rfl)))
  ·obtain⟨y,hy,h⟩:=hb;obtain rfl:y=x:=by simpa using hy.symm
   rcases h with h|h
   ·exact .inl (hx▸h)
   ·exact .inr (.inl (hx▸h))
  ·obtain⟨y,hy,h⟩:=hb;obtain rfl:y=x:=by simpa using hy.symm
   exact .inr (.inl (hx▸h))
 obtain⟨N2,m2,T2,bX,zH⟩:=l1.spawn g1 rfl Mp (λdd=>adf u13 _) (D:=t.B1 (λb=>b=t.wg) bc l ou oks we) (s:=t.sS fr) (U:=xK R c1 c2 c3) (J:=λb=>J b\/b=w.heap.size\/b=c1\/b=c2\/b=c3) rfl (by show _<=(wS w).heap.size;rw[MW];exact Nat.le_refl _) xb rfl hh oQ
  (λc cR=>by
   rcases cR with rfl|rfl|rfl
   ·exact⟨0,xg hE.h1⟩
   ·exact⟨0,xg hE.h2⟩
   ·exact⟨0,xg hE.h3⟩) (by show _<=(wS w).heap.size;rw[MW];exact Nat.le_refl _) ⟨e5.os,e5.tape,e5.output⟩
  afV aeS
 exact⟨t,ou,oks,LZ,we,_,m2,T2,rfl,rfl,rfl,rfl,rfl,rfl,rfl,rfl,rfl,rfl,runNT_then eX bX,zH⟩
end
section
open Go.Conc
open Go.ConcX (wgBlock KK)
def abJ(F:FS){W:World}{a:F.γ}{kD φ0:Hp}{ch:List UInt8}(fU:F.ou a ch)(hI:F.atz a kD)(hd:kD.dp φ0)(hp:F.ph a≠5)(hn:ch.length<=4611686018427387904):
 aw (solo prog W) 40 #[pV F.bc,.string (B ch)] (kD.bB φ0) λe R=>e=.returned (.tuple #[])/\∃a' ae,F.Loop (F.add a ch) a'/\F.atz a' ae/\ae.dp φ0/\R=ae.bB φ0:=by
 intro cs m T hm;obtain⟨N1,m1,T1,g1,R,eX,lr,cb,kb,sb,ub,db,c1,c2,c3,hE,I,ac,ha,r2,r3,r4,r5,r6,rfl⟩:=entry (E:=solo prog W) (U:=kD.bB φ0) (bc:=F.bc) (ch:=ch) (cs:=cs) m T hm;obtain⟨l,hl,mg,iq⟩:=F.conn hI;obtain⟨t,ou,oks,LZ,we,N2,m2,T2,z0,z1,z2,z3,z4,z5,z6,z7,z8,z9,bX,zH⟩:=abI (W:=W) (bg:=F.bg) (ph:=F.ph a) (fr:=F.fr a) lr ha r2 r3 r4 r5 r6 hE (Hp.iC hl) mg hp;subst z1 z2 z3 z4 z5 z6 z7;have s0:∀{b:Nat},(kD.bB φ0).f b=none->kD.f b=none:=λh=>tH (Hp.aix kD φ0) h
 have p0:∀{b:Nat},(kD.bB φ0).f b=none->φ0.f b=none:=λh=>by have:=s0 h;rw[Hp.lC this]at h;exact h
 obtain⟨φ,A3⟩:∃φ,φ=((φ0.set t.cb (.cells #[pV F.bc] 70 (0,0))).set t.sb (.cells #[.chan (some t.c1)] 119 (0,0))).set t.db (.cells #[.chan (some t.c3)] 121 (0,0)):=⟨_,rfl⟩;have nb:∀{x y:Nat} {o p:Obj},R.f x=some o->R.f y=some p->o≠p->x≠y:=λh1 h2 h3 e=>by rw[e,h2]at h1;exact h3 (Option.some.inj h1).symm
 have ncs:t.cb≠t.sb:=nb hE.c hE.s ak;have S6:t.cb≠t.db:=nb hE.c hE.d ak;have nsd:t.sb≠t.db:=nb hE.s hE.d ak;have nuc:t.ub≠t.cb:=nb hE.u hE.c ak;have nus:t.ub≠t.sb:=nb hE.u hE.s ak;have nud:t.ub≠t.db:=nb hE.u hE.d ak;have fc:φ.f t.cb=some (.cells #[pV F.bc] 70 (0,0)):=by rw[A3];simp[Hp.set,ncs,S6]
 have fs:φ.f t.sb=some (.cells #[.chan (some t.c1)] 119 (0,0)):=by rw[A3];simp[Hp.set,nsd]
 have fd:φ.f t.db=some (.cells #[.chan (some t.c3)] 121 (0,0)):=by rw[A3];simp[Hp.set]
 have fo:∀{b:Nat},b≠t.cb->b≠t.sb->b≠t.db->φ.f b=φ0.f b:=λh1 h2 h3=>by rw[A3];simp[Hp.set,h1,h2,h3]
 have Ri:φ0.le φ:=by
  intro b o hb;have h1:b≠t.cb:=λe=>by rw[e,p0 hE.nc]at hb;cases hb
  have h2:b≠t.sb:=λe=>by rw[e,p0 hE.ns]at hb;cases hb
  have h3:b≠t.db:=λe=>by rw[e,p0 hE.nd]at hb;cases hb
  rw[fo h1 h2 h3];exact hb
 have aey:kD.dp φ:=by
  intro b;by_cases h1:b=t.cb
  ·subst h1;exact .inl (s0 hE.nc)
  by_cases h2:b=t.sb
  ·subst h2;exact .inl (s0 hE.ns)
  by_cases h3:b=t.db
  ·subst h3;exact .inl (s0 hE.nd)
  rw[fo h1 h2 h3];exact hd b
 have mO:Bx F t.cb t.sb t.db t.c1 t.c3 φ:=⟨fc,fs,fd⟩
 have fX:(kD.bB φ).f t.ub=none:=by rw[Hp.lC (s0 hE.nu),fo nuc nus nud];exact p0 hE.nu
 have akm:∀{b:Nat} {o:Obj},R.f b=some o->o≠nv->b≠t.c1/\b≠t.c2/\b≠t.c3:=λh ho=>⟨nb h hE.h1 ho,nb h hE.h2 ho,nb h hE.h3 ho⟩;have R5:∀{b:Nat} {o:Obj},R.f b=some o->b≠t.c1/\b≠t.c2/\b≠t.c3->(xK R t.c1 t.c2 t.c3).f b=some o:=λh hb=>Hp.Ej h hb;have oc:∀{c:Array Value} {e:Nat} {z:Nat×Nat},Obj.cells c e z≠nv:=λh=>by simp[nv]at h
 have nQ:∀{b:Nat} {c:Array Value} {e:Nat} {z:Nat×Nat},R.f b=some (.cells c e z)->(xK R t.c1 t.c2 t.c3).f b=some (.cells c e z):=λh=>R5 h (akm h oc)
 have hle:(kD.bB φ).le (xK R t.c1 t.c2 t.c3):=by
  intro b o hb;by_cases h1:b=t.cb
  ·subst h1;rw[Hp.lC (s0 hE.nc),fc]at hb;cases hb;exact nQ hE.c
  by_cases h2:b=t.sb
  ·subst h2;rw[Hp.lC (s0 hE.ns),fs]at hb;cases hb;exact nQ hE.s
  by_cases h3:b=t.db
  ·subst h3;rw[Hp.lC (s0 hE.nd),fd]at hb;cases hb;exact nQ hE.d
  have nU:(kD.bB φ0).f b=some o:=by simp only[Hp.bB]at hb|-;rw[fo h1 h2 h3]at hb;exact hb
  refine R5 (hE.le _ _ nU) ⟨?_,?_,?_⟩
  ·intro e;rw[e,hE.n1]at nU;cases nU
  ·intro e;rw[e,hE.n2]at nU;cases nU
  ·intro e;rw[e,hE.n3]at nU;cases nU
 have hW:Bw t F.bc kb l ch (xK R t.c1 t.c2 t.c3):=⟨nQ hE.c,nQ hE.k,nQ hE.s,nQ hE.u,nQ hE.d,nQ (hE.le _ _ (Hp.iC hl))⟩;obtain⟨N3,m3,T3,a',ae,g',cw,ep,afk,Cy,jv,pP,hT',qZ⟩:=abM F fU hI aey mO fX hp hle hW hn iq mg hl zH;have G4:∀{b:Nat},t.Ok b->Tk.Ok {t with cw:=cw} b:=λh=>⟨h.n1,h.n2,h.n3,h.nw,h.nu,h.nj,h.lt⟩;obtain⟨N4,m4,T4,a4,ua,sI,BE⟩:=abL (t:={t with cw:=cw}) (bc:=F.bc) (U:=ae.bB φ) (vb:=pV F.bc) z9 (G4 ou) (G4 LZ) S6 pP (Hp.uy jv _ _ fc) (Hp.uy jv _ _ fd) hT' qZ
 have afh:(ae.bB φ0).le (ae.bB φ):=by
  intro b o hb;rcases Hp.HE hb with h1|⟨h1,h2⟩
  ·exact Hp.iC h1
  ·rw[Hp.lC h1];exact Ri _ _ h2
 have aev:ae.dp φ0:=by
  intro b;rcases jv b with h|h
  ·exact .inl h
  ·right
   cases e:φ0.f b with
   |none=>rfl
   |some o=>rw[Ri _ _ e]at h;cases h
 have kt:ax (solo prog W) (G (bT.at a4 [.inRegion lT []]) cs) (ae.bB φ) λg R=>∃e fr,g=G fr cs/\fr.fn=40/\Leaving prog fr R e/\(e=.returned (.tuple #[])/\∃a' ae,F.Loop (F.add a ch) a'/\F.atz a' ae/\ae.dp φ0/\R=ae.bB φ0):=by
  refine ax.iD (R:=ae.bB φ0) ?_ afh;refine ax.ctl (λw=>stepG_region_end) rfl rfl ?_;refine ax.ctl (λw=>stepG_end) rfl rfl (ax.here ⟨.returned (.tuple #[]),_,rfl,rfl,⟨rfl,sI,rfl,_,func40,?_⟩,rfl,a',ae,afk,Cy,aev,rfl⟩);have:(results f40 a4.tmps)=pure (.tuple #[]):=by simp[results,f40]
  show wpS prog (results f40 a4.tmps) _ _ _;rw[this];exact⟨rfl,rfl⟩
 have UF:yo prog t.W (G (bT.at a4 [.inRegion lT []]) t.cs) (ae.bB φ) m4 T4:=BE;rw[z0,z8]at UF;obtain⟨N5,m5,T5,g5,dz,Gt,zI,fe⟩:=kt m4 T4 UF;exact⟨_,m5,T5,g5,dz,runNT_then (runNT_then (runNT_then (runNT_then eX bX) ep) ua) Gt,zI,fe⟩
end
variable {P:Program}{I:av}{U:Hp}
def aqp{E:Env P}{N:Nat}{a b c:Code}{Q:Post}{ds:List Deferred}(h:cO E N (.seq (.seq a b) c) Q I ds U):cO E N (.seq a (.seq b c)) Q I ds U:=by
 have e:lz (cO E N b (lz (cO E N c Q) Q)) (lz (cO E N c Q) Q)=lz (cO E N b (lz (cO E N c Q) Q)) Q:=by funext e;cases e<;>rfl
 show cO E N a (lz (cO E N b (lz (cO E N c Q) Q)) Q) I ds U;rw[<-e];exact h
variable {R:Hp}{b:Nat}{v:Value}
def nA{a:Tmp}{t:TypeId}(ha:I a=pV b)(ht:dk P t=true)(h:iQ P t ⟨b,0,none⟩ R=some v):lG P #[.cell a t] I R v:=by unfold lG;have h2:=rO (Q:=λv' ae=>v'=v/\ae=R) (H:=λ_ _=>False) ht (qN h ⟨rfl,rfl⟩);simp[asAddr,ha];exact h2
def ao3:cC prog 135=5:=ah
def zk:dk prog 135=true:=ah
def zn{a1 a2 a3 a4 a5:Value}{e:Nat}(h:R.f b=some (.cells #[a1,a2,a3,a4,a5] e (0,0))):iQ prog 135 ⟨b,0,none⟩ R=some (.agg #[a1,a2,a3,a4,a5]):=by unfold iQ;rw[if_pos VW,ao3];simp[cellsOf,h]
variable {l:List Value}
def uN{i:Nat}(h:l[i]? =some v):l.set i v=l:=by
 apply List.ext_getElem?;intro j;rw[List.getElem?_set];split
 ·rename_i e;subst e;have:i<l.length:=(List.getElem?_eq_some_iff.1 h).1;simp[this,<-h]
 ·rfl
def Gr{o:Obj}(h:U.f b=some o):U.set b o=U:=Hp.ext' λx=>by
 by_cases e:x=b
 ·subst e;rw[Hp.bD,h]
 ·rw[Hp.aM _ e]
variable {bc ub:Nat}{o:Obj}
def Sr(h1:R.f bc=some o)(h2:∀x,x≠bc->x≠ub->R.f x=U.f x)(fX:U.f ub=none)(aE:bc≠ub):(U.set bc o).le R:=λx p hx=>by
 by_cases e:x=bc
 ·subst e;rw[Hp.bD]at hx;rw[h1];exact hx
 ·rw[Hp.aM _ e]at hx;have e2:x≠ub:=bh hx fX;rw[h2 x e e2];exact hx
def Lf{ab:Nat}(h1:R.f bc=some o)(h2:∀x,x≠bc->x≠ab->x≠ub->R.f x=U.f x)(fX:U.f ub=none)(dq:U.f ab=none):(U.set bc o).le R:=λx p hx=>by
 by_cases e:x=bc
 ·subst e;rw[Hp.bD]at hx;rw[h1];exact hx
 ·rw[Hp.aM _ e]at hx;have e2:x≠ub:=bh hx fX;have e3:x≠ab:=bh hx dq;rw[h2 x e e3 e2];exact hx
def pK:List UInt8:=[65,77,81,80,0,0,9,1]
def eI(gr:Bool)(s:List UInt8)(size:Int):Un×Bool×List UInt8:=
 if gr=false then
  let n:=min s.length 8
  if s.take n≠pK.take n then(⟨0,0,[],true,true⟩,false,s)
  else if n=8 then(⟨0,0,[],true,false⟩,true,s.drop 8)
  else(⟨0,0,[],false,false⟩,false,s)
 else if s.length<7 then(⟨0,0,[],false,false⟩,true,s)
 else
  let kind:=num (s.take 1)
  let ch:=num ((s.drop 1).take 2)
  let n:=num ((s.drop 3).take 4)
  let r:=s.drop 7
  let fB:Bool:=if kind=1\/kind=2\/kind=3 then decide ((n:Int)>size-8)else if kind=8 then decide (n>0\/ch≠0)else true
  if fB=false/\r.length<=n then(⟨0,0,[],false,false⟩,true,s)
  else if fB then(⟨kind,ch,[],false,true⟩,true,s)
  else(⟨kind,ch,r.take n,false,decide (num ((r.drop n).take 1)≠206)⟩,true,r.drop (n+1))
variable {E:Env prog}{et:Nat}{s:List UInt8}{size:Int}
def ajX(hb:U.f bc=some (.cells l.toArray et (0,0)))(iq:l[3]? =some (.string (B s)))(mU:l[4]? =some (.bool false)):
 aw E 104 #[.pointer (some ⟨bc,3,none⟩),.int .i64 size] U λe' ae=>e'=.returned (uV (eI false s size).1)/\(U.set bc (.cells ((l.set 3 (.string (B (eI false s size).2.2))).set 4 (.bool (eI false s size).2.1)).toArray et (0,0))).le ae:=by
 refine aX func104 ntmps104 results104 λQ aB al az=>?_;refine ag ?_;refineλub fX=>?_;refine fA fX hb iq mU ?_;obtain⟨n,hn⟩:∃n,n=min s.length 8:=⟨_,rfl⟩;have Kk:min (s.length:Int) 8=(n:Int):=aa;refine SL (a:=(s.length:Int)) (b:=8) au au ?_;rw[Kk];refine ag ?_;have d0:(0:Int)<=n:=aa;have d1:(n:Int)<=s.length:=aa;have d2:(n:Int)<=8:=aa;refine bJ 6 ?_;simp only[go_sem,Nat.reduceLT,Nat.reduceBEq,Nat.reduceAdd,d0,d1];refine⟨aa,?_⟩;refine ag ?_;refine alK (b:=decide (s.take n≠pK.take n)) ?_ ?_
 ·simp only[go_sem,seval,Nat.sub_zero];intro hg;have ff:¬s.take n=pK.take n:=aV hg;have hu:eI false s size=(⟨0,0,[],true,true⟩,false,s):=by simp[eI,<-hn,ff]
  rw[hu]at al;refine al (nA (b:=ub) au zk (zn au)) ao ⟨by simp[uV],?_⟩;rw[uN iq,uN mU,Gr hb];exact GR fX
 intro hg;have ff:s.take n=pK.take n:=aV hg;have aZ:4<l.length:=(List.getElem?_eq_some_iff.1 mU).1;have aE:bc≠ub:=bh fX hb;have ass:∀o,(U.set bc o).f ub=none:=λo=>by rw[Hp.aM _ (λe=>aE e.symm)];exact fX
 have g4:∀v,(l.set 4 v)[4]? =some v:=λv=>by simp[aZ]
 have g3:∀v,(l.set 4 v)[3]? =some (.string (B s)):=λv=>by rw[List.getElem?_set_ne an];exact iq
 have xv:∀o x,((U.set ub o).set bc x).f ub=some o:=λo x=>by rw[Hp.aM _ (λe=>aE e.symm),Hp.bD]
 have afl:3<l.length:=aa;by_cases h8:n=8
 ·have d3:((n:Int)=8):=aa;have d4:(8:Int)<=s.length:=aa;simp only[go_sem,seval,fX,hb,d3,aZ,g4,d4,afl,xv]
  have hu:eI false s size=(⟨0,0,[],true,false⟩,true,s.drop 8):=by have:=ff;simp[eI,<-hn,h8]at this|-;exact this
  rw[hu]at al;refine al (nA (b:=ub) au zk (zn au)) ao ⟨by simp[uV],?_⟩;refine Sr (ub:=ub) ?_ (λx h1 h2=>?_) fX aE
  ·rw[Hp.aM _ aE,Hp.bD,List.set_comm _ _ an];have:List.take (s.length-8) (s.drop 8)=s.drop 8:=List.take_of_length_le ak;rw[this]
  ·simp[Hp.set,h1,h2]
 ·have d3:¬((n:Int)=8):=aa;simp only[go_sem,seval,fX,hb,d3,aZ,g4,xv]
  have hu:eI false s size=(⟨0,0,[],false,false⟩,false,s):=by have:=ff;simp[eI,<-hn,h8]at this|-;exact this
  rw[hu]at al;refine al (nA (b:=ub) au zk (zn au)) ao ⟨by simp[uV],?_⟩;refine Sr (ub:=ub) ?_ (λx h1 h2=>?_) fX aE
  ·rw[uN iq,Hp.aM _ aE,Hp.bD]
  ·simp[Hp.set,h1,h2]
def ajW(hb:U.f bc=some (.cells l.toArray et (0,0)))(iq:l[3]? =some (.string (B s)))(mU:l[4]? =some (.bool true))(hs:s.length<7):
 aw E 104 #[.pointer (some ⟨bc,3,none⟩),.int .i64 size] U λe' ae=>e'=.returned (uV (eI true s size).1)/\(U.set bc (.cells ((l.set 3 (.string (B (eI true s size).2.2))).set 4 (.bool (eI true s size).2.1)).toArray et (0,0))).le ae:=by
 refine aX func104 ntmps104 results104 λQ aB al az=>?_;refine ag ?_;refineλub fX=>?_;have d0:(s.length:Int)<7:=aa;refine ln fX hb iq mU d0 ?_;have hu:eI true s size=(⟨0,0,[],false,false⟩,true,s):=by simp[eI,hs]
 rw[hu]at al;refine al (nA (b:=ub) au zk (zn au)) ao ⟨by simp[uV],?_⟩;rw[uN iq,uN mU,Gr hb];exact GR fX
def ajV(hb:U.f bc=some (.cells l.toArray et (0,0)))(iq:l[3]? =some (.string (B s)))(mU:l[4]? =some (.bool true))(hs:7<=s.length)(gD:0<=size/\size<=1000000):
 aw E 104 #[.pointer (some ⟨bc,3,none⟩),.int .i64 size] U λe' ae=>e'=.returned (uV (eI true s size).1)/\(U.set bc (.cells ((l.set 3 (.string (B (eI true s size).2.2))).set 4 (.bool (eI true s size).2.1)).toArray et (0,0))).le ae:=by
 refine aX func104 ntmps104 results104 λQ aB al az=>?_
 iterate 7 refine aqp ?_
 refine fG λK hK=>?_;refine ag ?_;refineλub fX=>?_;have d0:¬(s.length:Int)<7:=aa;refine ln fX hb iq mU d0 ?_;refineλab dq=>?_;have sL:ub≠ab:=bh dq aT;have FN:U.f ab=none:=by rw[Hp.aM _ (λe=>sL e.symm)]at dq;exact dq
 refine ag ?_;have nb:ub≠bc:=bh fX hb;have na:ab≠bc:=bh FN hb;refine aJ (Ei (w:=1) (c:=[.string (B s)]) (s:=s) aT rfl aa aa) ?_;rintro v fP ⟨hv,h1⟩
 cases hv
 have a1:fP.f ab=some (.cells #[.string (B (s.drop 1))] 289 (0,0)):=by rw[h1,Hp.bD];rfl
 have u1:fP.f ub=some (.cells #[.int .i64 0,.int .i64 0,.string (B []),.bool false,.bool false] 135 (0,0)):=by rw[h1,Hp.aM _ sL,Hp.aM _ sL,Hp.bD];rfl
 have o1:∀x,x≠ab->x≠ub->fP.f x=U.f x:=λx e1 e2=>by rw[h1,Hp.aM _ e1,Hp.aM _ e1,Hp.aM _ e2]
 clear h1;refine ag ?_;refine aJ (Ei (w:=2) (c:=[.string (B (s.drop 1))]) (s:=s.drop 1) a1 rfl aa (by simp;omega)) ?_;rintro v cU ⟨hv,h2⟩
 cases hv
 have a2:cU.f ab=some (.cells #[.string (B (s.drop 3))] 289 (0,0)):=by rw[h2,Hp.bD];simp[List.drop_drop]
 have u2:=u1;rw[<-Hp.aM (U:=fP) (.cells ([.string (B (s.drop 1))].set 0 (.string (B ((s.drop 1).drop 2)))).toArray 289 (0,0)) sL]at u2;have u2:cU.f ub=some (.cells #[.int .i64 0,.int .i64 0,.string (B []),.bool false,.bool false] 135 (0,0)):=by rw[h2];exact u2
 have o2:∀x,x≠ab->x≠ub->cU.f x=U.f x:=λx e1 e2=>by rw[h2,Hp.aM _ e1];exact o1 x e1 e2
 clear h2 a1 u1 o1;obtain⟨kind,Gf⟩:∃k,k=num (s.take 1):=⟨_,rfl⟩;obtain⟨ch,eF⟩:∃k,k=num ((s.drop 1).take 2):=⟨_,rfl⟩;rw[<-Gf,<-eF];refine aH u2 ?_;have Ny:∀o,(cU.set ub o).f ab=some (.cells #[.string (B (s.drop 3))] 289 (0,0)):=λo=>by rw[Hp.aM _ (λe=>sL e.symm)];exact a2
 refine aJ (Ei (w:=4) (c:=[.string (B (s.drop 3))]) (s:=s.drop 3) (Ny _) rfl aa (by simp;omega)) ?_;rintro v dv ⟨hv,h3⟩
 cases hv
 have a3:dv.f ab=some (.cells #[.string (B (s.drop 7))] 289 (0,0)):=by rw[h3,Hp.bD];simp[List.drop_drop]
 have u3:dv.f ub=some (.cells #[.int .i64 kind,.int .i64 ch,.string (B []),.bool false,.bool false] 135 (0,0)):=by rw[h3,Hp.aM _ sL,Hp.bD];rfl
 have o3:∀x,x≠ab->x≠ub->dv.f x=U.f x:=λx e1 e2=>by rw[h3,Hp.aM _ e1,Hp.aM _ e2];exact o2 x e1 e2
 clear h3 a2 Ny u2 o2;obtain⟨n,hn⟩:∃k,k=num ((s.drop 3).take 4):=⟨_,rfl⟩;rw[<-hn];refine aH u3 ?_;have asj:=LU ((s.drop 3).take 4);have Ij:∀o,(dv.set ub o).f ab=some (.cells #[.string (B (s.drop 7))] 289 (0,0)):=λo=>by rw[Hp.aM _ (λe=>sL e.symm)];exact a3
 have c1:IntKind.wrap .i64 (size-8)=size-8:=wrap64 aa aa
 have tail:∀(I:av) (w:Bool),I 0=.pointer (some ⟨bc,3,none⟩)->I 4=pV ub->I 7=pV ab->I 8=Value.int .i64 n->(if kind=1\/kind=2\/kind=3 then decide ((n:Int)>size-8)else if kind=8 then decide (n>0\/ch≠0)else true)=w->K I [] (dv.set ub (.cells #[.int .i64 kind,.int .i64 ch,.string (B []),.bool false,.bool w] 135 (0,0))):=by
  intro I w h0 h4 h7 h8 hw;refine hK _ _ _ ?_
  cases w with
  |true=>
   refine aH h4 ?_
   have hu:eI true s size=(⟨kind,ch,[],false,true⟩,true,s):=by simp only[eI,<-Gf,<-eF,<-hn,hw];simp[Nat.not_lt.2 hs]
   rw[hu]at al;refine al (nA (b:=ub) (aP h4) zk (zn au)) ao ⟨by simp[uV],?_⟩;rw[uN iq,uN mU];refine Lf (ub:=ub) (ab:=ab) ?_ (λx e1 e2 e3=>?_) fX FN
   ·rw[Hp.aM _ (λe=>nb e.symm),o3 bc (λe=>na e.symm) (λe=>nb e.symm)];exact hb
   ·rw[Hp.aM _ e3];exact o3 x e2 e3
  |false=>
   by_cases gC:(s.drop 7).length<=n
   ·have hr:((s.drop 7).length:Int)<=n:=aa;refine ln h4 h7 h8 Ij hr ?_
    have hu:eI true s size=(⟨0,0,[],false,false⟩,true,s):=by simp only[eI,<-Gf,<-eF,<-hn,hw];simp at gC;simp[Nat.not_lt.2 hs,gC]
    rw[hu]at al;refine al (nA (b:=ub) (aP h4) zk (zn au)) ao ⟨by simp[uV],?_⟩;rw[uN iq,uN mU];refine Lf (ub:=ub) (ab:=ab) ?_ (λx e1 e2 e3=>?_) fX FN
    ·rw[Hp.aM _ (λe=>nb e.symm),o3 bc (λe=>na e.symm) (λe=>nb e.symm)];exact hb
    ·rw[Hp.aM _ e3];exact o3 x e2 e3
   have hr:¬((s.drop 7).length:Int)<=n:=aa;refine ln h4 h7 h8 Ij hr ?_;refine aJ (MH (n:=(n:Int)) (c:=[.string (B (s.drop 7))]) (s:=s.drop 7) (Ij _) rfl aa aa) ?_;rintro v gH ⟨hv,sC⟩
   cases hv
   rw[Int.toNat_natCast]at sC|-;have a4:gH.f ab=some (.cells #[.string (B ((s.drop 7).drop n))] 289 (0,0)):=by rw[sC,Hp.bD];rfl
   have u4:gH.f ub=some (.cells #[.int .i64 kind,.int .i64 ch,.string (B []),.bool false,.bool false] 135 (0,0)):=by rw[sC,Hp.aM _ sL,Hp.bD]
   have o4:∀x,x≠ab->x≠ub->gH.f x=U.f x:=λx e1 e2=>by rw[sC,Hp.aM _ e1,Hp.aM _ e2];exact o3 x e1 e2
   clear sC;refine bR h4 h7 u4 ?_;have VQ:∀o,(gH.set ub o).f ab=some (.cells #[.string (B ((s.drop 7).drop n))] 289 (0,0)):=λo=>by rw[Hp.aM _ (λe=>sL e.symm)];exact a4
   refine aJ (Ei (w:=1) (c:=[.string (B ((s.drop 7).drop n))]) (s:=(s.drop 7).drop n) (VQ _) rfl aa (by simp at gC|-;omega)) ?_;rintro v dA ⟨hv,h5⟩
   cases hv
   have a5:dA.f ab=some (.cells #[.string (B ((s.drop 7).drop (n+1)))] 289 (0,0)):=by rw[h5,Hp.bD];simp[List.drop_drop,Nat.add_assoc]
   have u5:dA.f ub=some (.cells #[.int .i64 kind,.int .i64 ch,.string (B ((s.drop 7).take n)),.bool false,.bool false] 135 (0,0)):=by rw[h5,Hp.aM _ sL,Hp.bD];rfl
   have o5:∀x,x≠ab->x≠ub->dA.f x=U.f x:=λx e1 e2=>by rw[h5,Hp.aM _ e1,Hp.aM _ e2];exact o4 x e1 e2
   clear h5;obtain⟨z,hz⟩:∃k,k=num (((s.drop 7).drop n).take 1):=⟨_,rfl⟩;rw[<-hz];have VR:∀o,(dA.set ub o).f ab=some (.cells #[.string (B ((s.drop 7).drop (n+1)))] 289 (0,0)):=λo=>by rw[Hp.aM _ (λe=>sL e.symm)];exact a5
   have b5:∀o,(dA.set ub o).f bc=some (.cells l.toArray et (0,0)):=λo=>by rw[Hp.aM _ (λe=>nb e.symm),o5 bc (λe=>na e.symm) (λe=>nb e.symm)];exact hb
   have aZ:3<l.length:=(List.getElem?_eq_some_iff.1 iq).1;have v5:∀o o',((dA.set ub o).set bc o').f ub=some o:=λo o'=>by rw[Hp.aM _ nb,Hp.bD]
   refine rY h0 h4 h7 u5 VR b5 aZ v5 ?_
   have hu:eI true s size=(⟨kind,ch,(s.drop 7).take n,false,decide (z≠206)⟩,true,(s.drop 7).drop (n+1)):=by simp only[eI,<-Gf,<-eF,<-hn,<-hz,hw];simp at gC;simp[Nat.not_lt.2 hs,Nat.not_le.2 gC]
   rw[hu]at al;refine al (nA (b:=ub) (aP h4) zk (zn au)) ao ⟨by simp[uV];omega,?_⟩;refine Lf (ub:=ub) (ab:=ab) ?_ (λx e1 e2 e3=>?_) fX FN
   ·rw[Hp.aM _ (λe=>nb e.symm),Hp.bD];have:(l.set 3 (.string (B ((s.drop 7).drop (n+1)))))[4]? =some (.bool true):=by rw[List.getElem?_set_ne an];exact mU
    rw[uN this]
   ·rw[Hp.aM _ e3,Hp.aM _ e1,Hp.aM _ e3];exact o5 x e2 e3
 by_cases k1:(kind:Int)=1
 ·simp only[go_sem,seval,u3,eq_true k1,c1];refine tail _ _ ?_ ?_ ?_ ?_ (by rw[if_pos aa])<;>exact au
 by_cases k2:(kind:Int)=2
 ·simp only[go_sem,seval,u3,k1,eq_true k2,c1];refine tail _ _ ?_ ?_ ?_ ?_ (by rw[if_pos aa])<;>exact au
 by_cases k3:(kind:Int)=3
 ·simp only[go_sem,seval,u3,k1,k2,eq_true k3,c1];refine tail _ _ ?_ ?_ ?_ ?_ (by rw[if_pos aa])<;>exact au
 by_cases k8:(kind:Int)=8
 ·by_cases AT:(n:Int)>0
  ·simp only[go_sem,seval,u3,k1,k2,k3,eq_true k8,AT];refine tail _ true ?_ ?_ ?_ ?_ (by rw[if_neg aa,if_pos aa];simp;omega)<;>exact au
  ·simp only[go_sem,seval,u3,k1,k2,k3,eq_true k8,AT];refine tail _ (decide ((ch:Int)≠0)) ?_ ?_ ?_ ?_ (by rw[if_neg aa,if_pos aa];congr 1;simp;omega)<;>exact au
 ·refine ln u3 k1 k2 k3 k8 ?_;refine tail _ true ?_ ?_ ?_ ?_ (by rw[if_neg aa,if_neg aa])<;>exact au
def ajU{gr:Bool}(hb:U.f bc=some (.cells l.toArray et (0,0)))(iq:l[3]? =some (.string (B s)))(mU:l[4]? =some (.bool gr))(gD:0<=size/\size<=1000000):
 aw E 104 #[.pointer (some ⟨bc,3,none⟩),.int .i64 size] U λe' ae=>e'=.returned (uV (eI gr s size).1)/\(U.set bc (.cells ((l.set 3 (.string (B (eI gr s size).2.2))).set 4 (.bool (eI gr s size).2.1)).toArray et (0,0))).le ae:=by
 cases gr with
 |false=>exact ajX hb iq mU
 |true=>
  rcases Nat.lt_or_ge s.length 7 with h|h
  ·exact ajW hb iq mU h
  ·exact ajV hb iq mU h gD
variable {bg:Nat}{lg:List Value}{out:List UInt8}{clock:Int}
def Uk(hb:U.f bc=some (.cells l.toArray 90 (0,0)))(hg:U.f bg=some (.cells lg.toArray 74 (0,0)))(hl:l.length=12)(h0:l[0]? =some (pV bg))(bO:l[11]? =some (.string (B out)))(hc:lg[6]? =some (.int .i64 clock))(hlen:out.length+s.length<=9223372036854775807)(aE:bg≠bc):
 aw E 43 #[pV bc,.string (B s)] U λe' ae=>e'=.returned (.tuple #[])/\ae=U.set bc (.cells ((l.set 11 (.string (B (out++s)))).set 9 (.int .i64 clock)).toArray 90 (0,0)):=by
 refine aX func43 ntmps43 results43 λQ aB al az=>?_;have g0:∀v,(l.set 11 v)[0]? =some (pV bg):=λv=>by rw[List.getElem?_set_ne an];exact h0
 have ff:∀o,(U.set bc o).f bg=some (.cells lg.toArray 74 (0,0)):=λo=>by rw[Hp.aM _ aE];exact hg
 refine Ey hb bO hlen hl g0 ff hc ?_;exact aB dB ao ⟨rfl,rfl⟩
def Zx{ch cl me:Nat}{xs:List Arg}(hb:U.f bc=some (.cells l.toArray 90 (0,0)))(hg:U.f bg=some (.cells lg.toArray 74 (0,0)))(hl:l.length=12)(h0:l[0]? =some (pV bg))(bO:l[11]? =some (.string (B out)))(hc:lg[6]? =some (.int .i64 clock))(aE:bg≠bc)(hv:zO U xs v)(fU:∀a∈xs,kP a)(hn:xs.length<=1000)(eF:ch<9223372036854775808)(aK:cl<9223372036854775808)(aN:me<9223372036854775808)(fJ:(bZ xs).length<=10000000)(hlen:out.length+(cg ch cl me xs).length<=9223372036854775807):
 aw E 105 #[pV bc,.int .i64 ch,.int .i64 cl,.int .i64 me,v] U λe' ae=>e'=.returned (.tuple #[])/\ae=U.set bc (.cells ((l.set 11 (.string (B (out++cg ch cl me xs)))).set 9 (.int .i64 clock)).toArray 90 (0,0)):=by
 refine aX func105 ntmps105 results105 λQ aB al az=>?_;refine ag ?_;refine bz (aqg hv fU hn eF aK aN fJ) ?_;refine ag ?_;refine bz (Uk hb hg hl h0 bO hc hlen aE) ?_;refine ag ?_;exact aB dB ao ⟨rfl,rfl⟩
section
open Go.Conc
structure E2 (E:Env prog) (lb:Nat) (p:Tmp) (r:Loop) (A:Hp->List Value->Hp->Prop):Prop where
 params:r.params= #[p]
 loop:∀{X xs U},A X xs U->U.f lb=some (.loop r)
 ext:∀{X xs U},A X xs U->X.le U
 new:∀{X xs U b o},A X xs U->U.f b=none->A (X.set b o) xs (U.set b o)
 upd:∀{X xs U b o o'},A X xs U->X.f b=some o'->A (X.set b o) xs (U.set b o)
 round:∀{X xs U},A X xs U->∀v c cs,xs.length<1000000->di v=true->ax E (G (Frame.round lb r.fn (r.tmps.setIfInBounds p v) r.assign r.body .normal) (c::cs)) U λg R=>g=G (c.finish (.bool true)) cs/\A X (xs++[v]) R
structure Left {α:Type} (l done rem:List (α×Value×Nat)) (seen:Array Nat):Prop where
 perm:(done++rem).Perm l
 seen:∀e∈l,e.2.2∈seen↔e∈done
variable {α:Type}{l:List (α×Value×Nat)}{e:α×Value×Nat}
def UG(hn:(l.map (·.2.2)).Nodup){e':α×Value×Nat}(h:e∈l)(h':e'∈l)(he:e.2.2=e'.2.2):e=e':=by
 induction l with
 |nil=>cases h
 |cons x l ih=>
  simp only[List.map_cons,List.nodup_cons,List.mem_map,not_exists,not_and]at hn;simp only[List.mem_cons]at h h';rcases h with rfl|h<;>rcases h' with rfl|h'
  ·rfl
  ·exact absurd he.symm (hn.1 _ h')
  ·exact absurd he (hn.1 _ h)
  ·exact ih hn.2 h h'
theorem akk(hn:(l.map (·.2.2)).Nodup):l.Nodup:=by rw[List.nodup_iff_pairwise_ne]at hn|-;exact(List.pairwise_map.1 hn).imp λh e=>h (by rw[e])
theorem Left.start(l:List (α×Value×Nat)):Left l [] l #[]:=⟨.refl _,ak⟩
variable {done rem:List (α×Value×Nat)}{seen:Array Nat}
def Left.mem(h:Left l done rem seen)(he:e∈l)(hs:e.2.2∉seen):e∈rem:=by
 have:=h.perm.mem_iff.2 he;rcases List.mem_append.1 this with h1|h1
 ·exact absurd ((h.seen e he).2 h1) hs
 ·exact h1
def Left.step(hn:(l.map (·.2.2)).Nodup)(h:Left l done rem seen)(he:e∈l)(hs:e.2.2∉seen):
 ∃Bv,Bv.length<rem.length/\Left l (done++[e]) Bv (seen.push e.2.2):=by
 obtain⟨s,t,rfl⟩:=List.append_of_mem (h.mem he hs);refine⟨s++t,ak,?_,?_⟩
 ·refine List.Perm.trans ?_ h.perm;rw[List.append_assoc];exact List.Perm.append_left _ (by rw[List.singleton_append];exact List.perm_middle.symm)
 ·intro x hx;simp only[Array.mem_push,List.mem_append,List.mem_singleton];rw[h.seen x hx];constructor
  ·rintro(h1|h1)
   ·exact .inl h1
   ·exact .inr (UG hn hx he h1)
  ·rintro(h1|rfl)
   ·exact .inl h1
   ·exact .inr rfl
theorem Left.all(hn:(l.map (·.2.2)).Nodup)(h:Left l done rem seen)(ha:∀e∈l,e.2.2∈seen):done.Perm l:=by
 have hr:rem=[]:=by
  cases rem with
  |nil=>rfl
  |cons x rem=>
   have hx:x∈l:=h.perm.mem_iff.1 ak;have hd:=(h.seen x hx).1 (ha x hx);have Gl:(done++x::rem).Nodup:=h.perm.nodup_iff.2 (akk hn);rw[List.nodup_append]at Gl;exact absurd rfl (Gl.2.2 x hd x ak)
 have:=h.perm;rw[hr,List.append_nil]at this;exact this
section
variable {P:Program}{E:Env P}{I:av}{ds:List Deferred}{U:Hp}{dst:Option Tmp}{ty:TypeId}{pos:String}{af:Array Edge}{g:Option (Nat×Bool)}{nx:av->List Deferred->Hp->Prop}{pn:List PanicEntry->Hp->Prop}
variable {α:Type}[DecidableEq α]{f:α->Value}{l:List (α×Value×Nat)}{c:Nat}
def Pk {x:Operand}{it b since:Nat}{seen:Array Nat}{e:α×Value×Nat}(hx:ai I x=pV it)(hi:U.f it=some (.mapIter (some b) since (seen.push e.2.2) c))(hb:U.f b=some (aU f l c))(hn:(l.map (·.2.2)).Nodup)(he:e∈l)
 (h:nx (aA I dst (.tuple #[f e.1,e.2.1])) ds U):aS E ⟨dst,.entry x,ty,pos,af,g⟩ I ds U nx pn:=by
 show wpOp E _ I ds U nx pn;unfold wpOp;simp only[execOp,Instr.entry,aF,hx,oz];refine⟨_,hi,rfl,?_⟩;simp only[Array.back?_push,aF,oz];refine⟨_,hb,rfl,?_⟩;simp only[aU,bne_self_eq_false,Bool.false_eq_true,if_false,bl]
 have:(l.map λe=>(⟨f e.1,e.2.1,e.2.2⟩:MapEntry)).toArray.find? (λx=>x.born==e.2.2)=some ⟨f e.1,e.2.1,e.2.2⟩:=by
  rw[List.find?_toArray];clear hb hi h
  induction l with
  |nil=>cases he
  |cons x l ih=>
   simp only[List.map_cons,List.find?_cons];by_cases xx:x.2.2=e.2.2
   ·have:x=e:=UG hn ak he xx;subst this;simp
   ·have h':(x.2.2==e.2.2)=false:=aV xx;simp only[h'];simp only[List.map_cons,List.nodup_cons]at hn;rcases List.mem_cons.1 he with rfl|he
    ·exact absurd rfl xx
    ·exact ih hn.2 he
 simp only[this,bl];exact h
end
def Yields(f:FuncId)(pick:α×Value×Nat->Value)(key:α->Value)(tc:TypeId):Prop:=
 ∀{E:Env prog} {lb:Nat} {p:Tmp} {r:Loop} {A:Hp->List Value->Hp->Prop} (_:E2 E lb p r A) {X U:Hp} {xs:List Value} {l:List (α×Value×Nat)} {c bm m:Nat},
  A X xs U->X.f bm=some (.cells #[.map (some m)] tc (0,0))->X.f m=some (aU key l c)->(∀e∈l,e.2.2<c)->(l.map (·.2.2)).Nodup->xs.length+l.length<=1000000->(∀e∈l,di (pick e)=true)->
  aw E f #[.func (.yield lb) #[] #[],pV bm] U λe R=>e=.returned (.tuple #[])/\∃X' ks,ks.Perm (l.map pick)/\X.le X'/\A X' (xs++ks) R
def aW(i:Int):Value:=.int .i64 i
def bP(l:List UInt8):Value:=.string (B l)
def Hi(k:IntKind)(a b:Int):Instr.sameNow (.int k) (aW a) (aW b)=some (decide (a=b)):=by simp only[aW,Instr.sameNow,if_true];by_cases h:a=b<;>simp[h]
def Om(a b:List UInt8):(B a==B b)=decide (a=b):=by show((B a).data==(B b).data)=_;rw[EZ,EZ];by_cases h:a=b<;>simp[h]
def Ud(a b:List UInt8):Instr.sameNow .string (bP a) (bP b)=some (decide (a=b)):=by simp only[bP,Instr.sameNow,Om]
def Hf(a:Int):Instr.sameBits 10000 (aW a) (aW a)=true:=by simp[aW,Instr.sameBits]
def T8(a:List UInt8):Instr.sameBits 10000 (bP a) (bP a)=true:=by simp[bP,Instr.sameBits,Om]
def ur:mA prog 72 aW:=⟨3,70,.int .i64,ah,ah,.inl ⟨_,rfl⟩,Hi _,Hf⟩
def uu:mA prog 88 aW:=⟨3,185,.int .i64,ah,ah,.inl ⟨_,rfl⟩,Hi _,Hf⟩
def A8:mA prog 273 aW:=⟨3,280,.int .i64,ah,ah,.inl ⟨_,rfl⟩,Hi _,Hf⟩
def vT:mA prog 114 bP:=⟨9,77,.string,ah,ah,.inr rfl,Ud,T8⟩
def zl:mA prog 274 bP:=⟨9,186,.string,ah,ah,.inr rfl,Ud,T8⟩
end
end Go.Qw
