/- Part 30. -/
import Derived.Test.YtpiabknabfbfhaaGreatDoorFairly29
set_option linter.all false
set_option maxRecDepth 100000
set_option maxHeartbeats 8000000
namespace Go.Qw
open Go Go.Conc Go.Proofs Go.Proofs.Tryz
variable {E:Env prog}{σ:Hp}
def YX{f:FuncId}{fn:Func}{c:Code}{n:Nat}{rs:Array ResultVar}{args:Array Value}{R:Fin->Hp->Prop}(hf:prog.funcs[f]? =some fn)(hn:fn.ntmps=n)(hr:fn.results=rs)(hb:fn.body=some c)(hs:args.size<=fn.ntmps)(h:∀Q:Post,(∀ρ σ τ v b3 b4,ln prog rs ρ τ v->τ.le σ->R (.returned v) τ->Q .ret ρ [gl 188 #[pV b3,pV b4]] σ)->
  (∀ρ σ b3 b4,(∀(c:Frame) (cs:List Frame),c.mode=.panicking lr->ax E (G (Frame.enter prog 188 #[pV b3,pV b4] .deferred) (c::cs)) σ λg τ=>g=G {c with mode:=.returning} cs/\∃v,ln prog rs ρ τ v/\R (.returned v) τ)->Q (.panic lr) ρ [gl 188 #[pV b3,pV b4]] σ)->
  cK E n c Q (nB args n) [] σ):ay E f args σ R:=by
 subst hn;subst hr;refine YW hf hb hs (h _ ?_ ?_)
 ·exactλρ σ τ v b3 b4 h1 hl h2=>⟨b3,b4,v,τ,hl,rfl,h1,h2⟩
 ·exactλρ σ b3 b4 h=>⟨rfl,b3,b4,rfl,h⟩
section
variable {E:Env prog}{σ:Hp}{H:Hid}{n:N}{X:Ext}{no:Nat}{c:CN}{h:HN}{bf:Nat}{f:FR}{r:HR}
variable {A:Lay}{id:Int}
def aq.BJ {er:Er}{b b3 b4:Nat}{of o3 o4:Obj}(a:aq A H n (er.ext b++(bf,of)::(b4,o4)::(b3,o3)::X) σ)(o:Obj):aq A H n (er.ext b++(bf,of)::X) (σ.set b4 o):=by
 cases er with
 |nil=>
  have a1:=a.zE (i:=1) (p:=(b4,o4)) rfl o;exact a1.zr (λi=>if i=0 then 0 else i+2) (λi hi=>by cases i<;>simp[Er.ext]) (λi j _ _ e=>by split at e<;>split at e<;>omega)
 |soft e cl me=>
  have a1:=a.zE (i:=2) (p:=(b4,o4)) rfl o
  exact a1.zr (λi=>if i<2 then i else i+2) (λi hi=>by
   rcases i with _|_|i
   ·rfl
   ·rfl
   ·rw[if_neg aa];rfl) (λi j _ _ e=>by split at e<;>split at e<;>omega)
 |cH e cl me=>
  have a1:=a.zE (i:=2) (p:=(b4,o4)) rfl o
  exact a1.zr (λi=>if i<2 then i else i+2) (λi hi=>by
   rcases i with _|_|i
   ·rfl
   ·rfl
   ·rw[if_neg aa];rfl) (λi j _ _ e=>by split at e<;>split at e<;>omega)
def aq.qU {er:Er}{b b3 b4:Nat}{of o3 o4:Obj}(a:aq A H n (er.ext b++(bf,of)::(b4,o4)::(b3,o3)::X) σ):σ.f b4=some o4/\σ.f b3=some o3:=by
 cases er with
 |nil=>exact⟨a.ext (i:=1) (p:=(b4,o4)) rfl,a.ext (i:=2) (p:=(b3,o3)) rfl⟩
 |soft e cl me=>exact⟨a.ext (i:=2) (p:=(b4,o4)) rfl,a.ext (i:=3) (p:=(b3,o3)) rfl⟩
 |cH e cl me=>exact⟨a.ext (i:=2) (p:=(b4,o4)) rfl,a.ext (i:=3) (p:=(b3,o3)) rfl⟩
structure Nk (n:N) (id:Int) (c:CN):Prop where
 w:Wf n
 out:c.r.out.length<=100000000000000
 leave:zT n id c
 fr:∀no h,n.h? id no=some h->EX n id no c h
def MD {b3 b4 cl me:Nat}{f2:FR}{v0:Value}{H':Hid}{τ:Hp}{ρ:av}{c0:Frame}{cs:List Frame}{r:HO}(yJ:c0.mode=.panicking lr)(aM:f2.cl=(cl:Int))(aP:f2.me=(me:Int))(h4:ρ 4=pV b4)(hr:r=.bad cl me)
 (a:aq A H' n ((bf,bN f2)::(b4,.cells [v0].toArray 45 (0,0))::(b3,.cells [pV bf].toArray 291 (0,0))::X) τ):
 ax E (G (Frame.enter prog 188 #[pV b3,pV b4] .deferred) (c0::cs)) τ λg τ=>g=G {c0 with mode:=.returning} cs/\∃v,ln prog #[.cell 4 45] ρ τ v/\iq A X n bf f (.ok (r.get n).1 (r.get n).2) (.returned v) τ:=by
 obtain⟨k4,k3⟩:=aq.qU (er:=.nil) (b:=0) a;refine(aaq (bf:=bf) (v0:=v0) (S:=λb τ=>τ.f b4=some (.cells [.iface 214 (pV b)].toArray 45 (0,0))/\aq A H' n ((Er.cH 502 cl me).ext b++(bf,bN f2)::X) τ) yJ k3 k4 ?_).mono ?_
 ·intro fy hle;refine(jF (e:=502) (a.le hle) aM aP).mono ?_;rintro e cM ⟨b,rfl,a2⟩;exact⟨b,rfl,(aq.qU a2).1,aY,a2.BJ _⟩
 ·rintro g cM ⟨rfl,b,k,a2⟩;refine⟨rfl,_,ni (b:=b4) h4 ah (A7 k),?_⟩;rw[hr];exact⟨A,H',b,f2,rfl,.refl A,a2⟩
def adB (a:aq A H n ((bf,bN f)::X) σ)(hc:n.ar id=some c)(K:Nk n id c)(hs:f.s=f.u.iS)(aM:f.cl=0)(aP:f.me=0)(dK:0<=f.u.channel/\f.u.channel<1000000)(jq:f.s.length<=500000):
 ay E 150 #[pV (A.conn id),pV bf] σ (iq A X n bf f (.ok ((n.fJ id c f.u).get n).1 ((n.fJ id c f.u).get n).2)):=by
 refine YX func150 ntmps150 results150 rfl al λQ an aA=>?_;refine fG λK0 Jo=>?_;refine ag ?_;refineλb3 gN=>?_;refine ag ?_;refineλb4 yI=>?_;have a2:=λo'=>(a.iH gN _).iH yI o';refine ag ?_;generalize hZ:Hp.set (Hp.set σ b3 _) b4 _=fy;have a3:aq A H n ((b4,.cells [.nilIface].toArray 45 (0,0))::(b3,.cells [pV bf].toArray 291 (0,0))::(bf,bN f)::X) fy:=dO (a2 _) hZ
 have a4:aq A H n ((bf,bN f)::(b4,.cells [.nilIface].toArray 45 (0,0))::(b3,.cells [pV bf].toArray 291 (0,0))::X) fy:=
  a3.zr (λi=>if i=0 then 2 else if i<3 then i-1 else i) (λi hi=>by
   rcases i with _|_|_|i
   ·rfl
   ·rfl
   ·rfl
   ·rw[if_neg aa,if_neg aa];rfl) (λi j _ _ e=>by split at e<;>split at e<;>(try split at e)<;>(try split at e)<;>omega)
 clear a3 a2;refine Jo _ _ _ ?_;refine fG λK1 oH=>?_;refine ag ?_;refine aao (df:=188) (caps:=#[pV b3,pV b4]) ?_ ?_
 ·exact au
 refine oH _ _ _ ?_
 have tail:∀{cM:Hp} {ρ:av} {f2:FR} {cl me:Nat},aq A H n ((bf,bN f2)::(b4,.cells [.nilIface].toArray 45 (0,0))::(b3,.cells [pV bf].toArray 291 (0,0))::X) cM->f2.u=f.u->f2.cl=(cl:Int)->f2.me=(me:Int)->f2.s.length<=500000->
  n.fJ id c f.u=n.jb id c f.u.channel f.u.kind f2.s cl me->ρ 0=pV (A.conn id)->ρ 3=pV b3->ρ 4=pV b4->cK E 75 (aQ (aQ (aQ (f150.body.getD .skip)))) Q ρ [gl 188 #[pV b3,pV b4]] cM:=by
  intro cM ρ f2 cl me a5 hu CS Gg afB he r0 r3 r4;have kM:=a5.eu hc;obtain⟨k4,k3⟩:=aq.qU (er:=.nil) (b:=0) a5;have mK:=a5.eJ;rw[hu]at mK;simp only[f150,Option.getD_some,aQ];have gQ:f2.u.kind=f.u.kind:=by rw[hu]
  have QG:f2.u.channel=f.u.channel:=by rw[hu]
  by_cases pQ:c.r.ph=1\/c.r.ph=2
  ·have nO:n.jb id c f.u.channel f.u.kind f2.s cl me=n.begin id c f2.u.channel f2.u.kind f2.s cl me:=by unfold N.jb;rw[if_pos pQ,gQ,QG]
   have JO:=Xd (E:=E) a5 hc pQ CS Gg K.out;rcases pQ with p1|p1
   all_goals
    first|simp only[go_sem,seval,r0,r3,kM,k3,(show¬c.r.ph=1 by omega),eq_true p1,decide_true,decide_false]|simp only[go_sem,seval,r0,r3,kM,k3,eq_true p1,decide_true]
    refine dC acb JO ?_ (λch dv hx=>?_)
    ·intro v dv hx
     cases hr:n.begin id c f2.u.channel f2.u.kind f2.s cl me with
     |bad x y=>rw[hr]at hx;obtain⟨_,_,h,_⟩:=hx;cases h
     |ok n' er=>
      rw[hr]at hx;obtain⟨A',H',b,f',hv,C9,a6⟩:=hx;obtain⟨sK,pO⟩:=a6.qU
      have hR:iq A X n bf f (.ok ((n.fJ id c f.u).get n).1 ((n.fJ id c f.u).get n).2) (.returned (er.v b)) (dv.set b4 (.cells [er.v b].toArray 45 (0,0))):=by rw[he,nO,hr];exact⟨A',H',b,f',rfl,C9,a6.BJ _⟩
      have gS:iQ prog 45 ⟨b4,0,none⟩ (dv.set b4 (.cells [er.v b].toArray 45 (0,0)))=some (er.v b):=A7 aY
      cases hv
      cases er<;>simp only[go_sem,seval,Er.v,r4,sK]<;>exact an _ _ _ _ _ _ (ni (b:=b4) (by simp[up,r4]) ah gS) ao hR
    ·cases hr:n.begin id c f2.u.channel f2.u.kind f2.s cl me with
     |ok n' er=>rw[hr]at hx;obtain⟨_,_,_,_,h,_⟩:=hx;cases h
     |bad x y=>
      rw[hr]at hx;obtain⟨H',s,h,a6⟩:=hx
      cases h
      exact aA _ _ _ _ (λc0 cs yJ=>MD yJ rfl rfl (by first|exact r4|(simp only[go_sem,seval,r4];done)|(simp[aB,up,r4];done)) (he.trans (nO.trans hr)) a6)
  have p1:¬c.r.ph=1:=λe=>pQ (.inl e);have p2:¬c.r.ph=2:=λe=>pQ (.inr e);by_cases p3:c.r.ph=3
  ·by_cases z:f.u.channel=0
   ·simp only[go_sem,seval,r0,r3,kM,k3,mK,p1,p2,eq_true p3,eq_true z,decide_true,decide_false];have nO:n.jb id c f.u.channel f.u.kind f2.s cl me=n.control id f2.u.kind f2.s cl me:=by unfold N.jb;rw[if_neg pQ,if_pos p3,if_pos z,gQ]
    refine dC acd (Z5 a5 hc K.leave CS Gg K.out) ?_ (λch dv hx=>?_)
    ·intro v dv hx
     cases hr:n.control id f2.u.kind f2.s cl me with
     |bad x y=>rw[hr]at hx;obtain⟨_,_,h,_⟩:=hx;cases h
     |ok n' er=>
      rw[hr]at hx;obtain⟨A',H',b,f',hv,C9,a6⟩:=hx;obtain⟨sK,pO⟩:=a6.qU
      have hR:iq A X n bf f (.ok ((n.fJ id c f.u).get n).1 ((n.fJ id c f.u).get n).2) (.returned (er.v b)) (dv.set b4 (.cells [er.v b].toArray 45 (0,0))):=by rw[he,nO,hr];exact⟨A',H',b,f',rfl,C9,a6.BJ _⟩
      have gS:iQ prog 45 ⟨b4,0,none⟩ (dv.set b4 (.cells [er.v b].toArray 45 (0,0)))=some (er.v b):=A7 aY
      cases hv
      cases er<;>simp only[go_sem,seval,Er.v,r4,sK]<;>exact an _ _ _ _ _ _ (ni (b:=b4) (by simp[up,r4]) ah gS) ao hR
    ·cases hr:n.control id f2.u.kind f2.s cl me with
     |ok n' er=>rw[hr]at hx;obtain⟨_,_,_,_,h,_⟩:=hx;cases h
     |bad x y=>
      rw[hr]at hx;obtain⟨H',s,h,a6⟩:=hx
      cases h
      exact aA _ _ _ _ (λc0 cs yJ=>MD yJ rfl rfl (by first|exact r4|(simp only[go_sem,seval,r4];done)|(simp[aB,up,r4];done)) (he.trans (nO.trans hr)) a6)
   ·obtain⟨no,dY⟩:∃no:Nat,f.u.channel=(no:Int):=⟨f.u.channel.toNat,aa⟩;have KA:f.u.channel.toNat=no:=aa;simp only[go_sem,seval,r0,r3,kM,k3,mK,p1,p2,eq_true p3,z,decide_true,decide_false];have nO:n.jb id c f.u.channel f.u.kind f2.s cl me=n.lN id c no f2.u.kind f2.s cl me:=by unfold N.jb;rw[if_neg pQ,if_pos p3,if_neg z,gQ,KA]
    refine dC ace (akL (no:=no) a5 K.w hc (λh hh=>K.fr no h hh) (QG.trans dY) aa CS Gg K.out afB) ?_ (λch dv hx=>?_)
    ·intro v dv hx
     cases hr:n.lN id c no f2.u.kind f2.s cl me with
     |bad x y=>rw[hr]at hx;obtain⟨_,_,h,_⟩:=hx;cases h
     |ok n' er=>
      rw[hr]at hx;obtain⟨A',H',b,f',hv,C9,a6⟩:=hx;obtain⟨sK,pO⟩:=a6.qU
      have hR:iq A X n bf f (.ok ((n.fJ id c f.u).get n).1 ((n.fJ id c f.u).get n).2) (.returned (er.v b)) (dv.set b4 (.cells [er.v b].toArray 45 (0,0))):=by rw[he,nO,hr];exact⟨A',H',b,f',rfl,C9,a6.BJ _⟩
      have gS:iQ prog 45 ⟨b4,0,none⟩ (dv.set b4 (.cells [er.v b].toArray 45 (0,0)))=some (er.v b):=A7 aY
      cases hv
      cases er<;>simp only[go_sem,seval,Er.v,r4,sK]<;>exact an _ _ _ _ _ _ (ni (b:=b4) (by simp[up,r4]) ah gS) ao hR
    ·cases hr:n.lN id c no f2.u.kind f2.s cl me with
     |ok n' er=>rw[hr]at hx;obtain⟨_,_,_,_,h,_⟩:=hx;cases h
     |bad x y=>
      rw[hr]at hx;obtain⟨H',s,h,a6⟩:=hx
      cases h
      exact aA _ _ _ _ (λc0 cs yJ=>MD yJ rfl rfl (by first|exact r4|(simp only[go_sem,seval,r4];done)|(simp[aB,up,r4];done)) (he.trans (nO.trans hr)) a6)
  have yM:∀{dv:Hp} {n':N},aq A H n' ((bf,bN f2)::(b4,.cells [.nilIface].toArray 45 (0,0))::(b3,.cells [pV bf].toArray 291 (0,0))::X) dv->n.jb id c f.u.channel f.u.kind f2.s cl me=.ok n' .nil->
   iq A X n bf f (.ok ((n.fJ id c f.u).get n).1 ((n.fJ id c f.u).get n).2) (.returned .nilIface) (dv.set b4 (.cells [.nilIface].toArray 45 (0,0))):=by
   intro dv n' a6 e;rw[he,e];exact⟨A,H,0,f2,rfl,.refl A,aq.BJ (er:=.nil) (b:=0) a6 _⟩
  have gS:∀dv:Hp,iQ prog 45 ⟨b4,0,none⟩ (dv.set b4 (.cells [.nilIface].toArray 45 (0,0)))=some .nilIface:=λdv=>A7 aY;by_cases p4:c.r.ph=4
  rotate_left
  ·have nO:n.jb id c f.u.channel f.u.kind f2.s cl me=.ok n .nil:=by unfold N.jb;rw[if_neg pQ,if_neg p3,if_neg (λh=>p4 h.1)]
   simp only[go_sem,seval,r0,r4,kM,k4,p1,p2,p3,p4,decide_true,decide_false];exact an _ _ _ _ _ _ (ni (b:=b4) (by simp[up,r4]) ah (gS _)) ao (yM a5 nO)
  simp only[go_sem,seval,r0,r3,kM,k3,p1,p2,p3,eq_true p4,decide_true,decide_false];refineλb1 iM=>?_;refine ag ?_;have o1:=a5.fresh iM;generalize mH:Hp.set cM b1 _=cZ;have a6:=dO (o1 _) mH;have jK:cZ.f b1=some (.cells (([51]:List Int).map iV++[]).toArray 3 (0,0)):=by rw[<-mH];exact Hp.bD _ _
  obtain⟨sK,pO⟩:=aq.qU (er:=.nil) (b:=0) a6;have ib:=a6.eu hc;have CX:=a6.eJ;rw[hu]at CX;refine aR (tX (ms:=[51]) (pad:=[]) a6.eC jK al) ?_;have i1:f2.kQ 10 [51]=decide (f2.u.kind=1/\cl=10/\me=51):=Dx CS Gg 10 51;rw[gQ]at i1;by_cases q1:f.u.kind=1/\cl=10/\me=51
  ·rw[decide_eq_true q1]at i1;by_cases z:f.u.channel=0
   ·have nO:n.jb id c f.u.channel f.u.kind f2.s cl me=.ok (n.bC id λr=>{r with ph:=5}) .nil:=by unfold N.jb;rw[if_neg pQ,if_neg p3,if_pos ⟨p4,q1.1,q1.2.1,q1.2.2,z⟩]
    have a7:=a6.nv hc λr=>{r with ph:=5};simp only[go_sem,seval,r0,r3,r4,i1,CX,ib,pO,eq_true z,decide_true];generalize hZ:Hp.set cZ (A.conn id) _=pc;replace a7:=dO a7 hZ;obtain⟨k47,k37⟩:=aq.qU (er:=.nil) (b:=0) a7;refine aG k47 ?_;exact an _ _ _ _ _ _ (ni (b:=b4) (by simp[up,r4]) ah (gS _)) ao (yM a7 nO)
   ·have nO:n.jb id c f.u.channel f.u.kind f2.s cl me=.ok n .nil:=by unfold N.jb;rw[if_neg pQ,if_neg p3,if_neg (λh=>z h.2.2.2.2)]
    simp only[go_sem,seval,r3,r4,i1,CX,pO,sK,z,decide_true,decide_false];exact an _ _ _ _ _ _ (ni (b:=b4) (by simp[up,r4]) ah (gS _)) ao (yM a6 nO)
  ·rw[decide_eq_false q1]at i1;have nO:n.jb id c f.u.channel f.u.kind f2.s cl me=.ok n .nil:=by unfold N.jb;rw[if_neg pQ,if_neg p3,if_neg (λh=>q1 ⟨h.2.1,h.2.2.1,h.2.2.2.1⟩)]
   simp only[go_sem,seval,r4,i1,sK,decide_true];exact an _ _ _ _ _ _ (ni (b:=b4) (by simp[up,r4]) ah (gS _)) ao (yM a6 nO)
 refine fG λK2 pD=>?_;have JV:=a4.eJ;obtain⟨k4,k3⟩:=aq.qU (er:=.nil) (b:=0) a4;by_cases kk:f.u.kind=1
 rotate_left
 ·simp only[go_sem,seval,k3,JV,kk,decide_false];refine pD _ _ _ (tail (f2:=f) (cl:=0) (me:=0) a4 rfl aM aP jq (by unfold N.fJ;rw[if_neg kk,hs]) ?_ ?_ ?_)
  ·exact au
  ·exact au
  ·exact au
 by_cases l4:f.s.length<4
 ·have KV:(f.s.length:Int)<4:=aa
  have he:n.fJ id c f.u=.ok n (.cH 502 0 0):=by
   unfold N.fJ;rw[if_pos kk,<-hs];by_cases l2:2<=f.s.length
   ·have e1:fu 2 f.s=some (num (f.s.take 2),f.s.drop 2):=by unfold fu;rw[if_pos l2]
    have e2:fu 2 (f.s.drop 2)=none:=by unfold fu;rw[if_neg (by rw[List.length_drop];omega)]
    rw[e1];simp only;rw[e2]
   ·have e1:fu 2 f.s=none:=by unfold fu;rw[if_neg l2]
    rw[e1]
  simp only[go_sem,seval,k3,JV,eq_true kk,KV,decide_true];refine aL (jF (e:=502) (cl:=0) (me:=0) a4 aM aP) ?_;rintro v dv ⟨b,hv,a5⟩
  cases hv
  obtain⟨sK,pO⟩:=a5.qU;simp only[go_sem,seval,Er.v,sK];refine an _ _ _ (.iface 214 (pV b)) _ _ (ni (b:=b4) (by simp[up]) ah (A7 aY)) ao ?_;rw[he];exact⟨A,H,b,_,rfl,.refl A,a5.BJ _⟩
 have KV:¬(f.s.length:Int)<4:=aa;simp only[go_sem,seval,k3,JV,eq_true kk,KV,decide_true,decide_false];refine Al [0,1,2,3,4,6,7,8,5,9,10,11,12,13,14,15] ?_;refine aG k3 ?_;refine iC nM a4 (ob (w:=2) a4.eJ rfl ai) (λx1 s1 cM eU a5=>?_) (λhr s τ a5=>by unfold fu at hr;rw[if_pos aa]at hr;cases hr);obtain⟨sK,pO⟩:=aq.qU (er:=.nil) (b:=0) a5;refine⟨dG pO,?_⟩;refine ag ?_
 have ls1:s1.length=f.s.length-2:=by unfold fu at eU;rw[if_pos aa]at eU;simp only[Option.some.injEq,Prod.mk.injEq]at eU;rw[<-eU.2,List.length_drop]
 refine iC nM a5 (ob (w:=2) a5.eJ rfl ai) (λx2 s2 dv bY a6=>?_) (λhr s τ a5=>by unfold fu at hr;simp only at hr;rw[if_pos aa]at hr;cases hr);simp only at bY;obtain⟨asb,ahE⟩:=aq.qU (er:=.nil) (b:=0) a6
 have ls2:s2.length=s1.length-2:=by unfold fu at bY;rw[if_pos aa]at bY;simp only[Option.some.injEq,Prod.mk.injEq]at bY;rw[<-bY.2,List.length_drop]
 have CX:=a6.eJ;refine⟨dG ahE,?_⟩;refine aG CX ?_;have g3:=λo=>(aq.qU (er:=.nil) (b:=0) (a6.uD o)).2;refine KU g3 ?_;refine KU g3 ?_;have a7:=a6.uD (bN {f with s:=s2,cl:=(x1:Int),me:=(x2:Int)});generalize hZ:Hp.set dv bf _=pc;replace a7:=dO a7 hZ
 have he:n.fJ id c f.u=n.jb id c f.u.channel f.u.kind s2 x1 x2:=by unfold N.fJ;rw[if_pos kk,<-hs,eU];simp only;rw[bY,kk]
 refine pD _ _ _ (tail (f2:={f with s:=s2,cl:=(x1:Int),me:=(x2:Int)}) (cl:=x1) (me:=x2) a7 rfl rfl rfl (by show s2.length<=_;omega) he ?_ ?_ ?_)
 ·exact au
 ·exact au
 ·exact au
end
section
variable {E:Env prog}{σ:Hp}{H:Hid}{n:N}{X:Ext}{c:CN}{f:FR}{r:HR}
variable {A:Lay}{id:Int}
structure Nb (g:jA):Prop where
 jc:0<=g.jc/\g.jc<65536
 frame:0<=g.frame/\g.frame<100000
 gh:0<=g.gh/\g.gh<65536
def ZN (hc:n.ar id=some c):∃c1,(n.leave id).ar id=some c1/\c1.r=c.r:=by
 have e:n.leave id=(n.gJ id c.ch).dI id λc=>{c with ch:=[]}:=by unfold N.leave;rw[hc];rfl
 obtain⟨c1,cB,ec⟩:=Bq (Ek.trans (Bo hc):(n.gJ id c.ch).rC id=some c.r);exact⟨{c1 with ch:=[]},by rw[e];simp[cB],ec⟩
def ZM {e cl me:Nat}(hc:n.ar id=some c):∃c1,(n.cH id e cl me).ar id=some c1:=by obtain⟨c1,h1,_⟩:=ZN hc;unfold N.cH;rw[rY,if_pos rfl];simp[h1]
def apC {u:Un}(a:aq A H n X σ)(hc:n.ar id=some c)(G:Nb n.cfg)(fN:c.r.out.length<=100000000000000)(L:zT n id c)
 (Cs:u.jT=false->u.fR=false->u.kind≠8->ay E 107 #[pV (A.conn id),uV u] σ λe τ=>e=.returned (.tuple #[])/\∃A',qa A A'/\At A' (n.lz id u) X τ):
 ay E 59 #[pV (A.conn id),uV u] σ λe τ=>e=.returned (.tuple #[])/\∃A',qa A A'/\At A' (n.unit id u) X τ:=by
 cases pI:u.jT with
 |true=>
  cases hw:u.fR with
  |true=>
   have e:n.unit id u=(n.send id pA).bC id λr=>{r with ph:=5}:=by unfold N.unit;rw[pI,hw];rfl
   refine aW func59 ntmps59 results59 λQ aC an aA=>?_;simp only[go_sem,seval,uV];refineλb3 gN=>?_;have a1:=λo=>a.fresh gN o;refine bt pI hw ?_;refine aL (Mb (s:=pA) (a1 _) hc (by simp[pA];omega)) ?_;rintro v cM ⟨hv,a2⟩
   cases hv
   have dP:(n.send id pA).ar id=some {c with r:={c.r with out:=c.r.out++pA,gV:=n.clock}}:=by rw[rY,if_pos rfl,hc];rfl
   have a3:=a2.nv dP λr=>{r with ph:=5};refine aG (a2.eu dP) ?_;refine aC du ao ⟨rfl,A,.refl A,H,?_⟩;rw[e];exact dO a3 rfl
  |false=>
   have e:n.unit id u=(n.bC id λr=>{r with ph:=1}).send id (ck 0 10 30 [.short n.cfg.jc.toNat,.long n.cfg.frame.toNat,.short n.cfg.gh.toNat]):=by unfold N.unit;rw[pI,hw];rfl
   obtain⟨g1,g2⟩:=G.jc;obtain⟨g3,g4⟩:=G.frame;obtain⟨g5,g6⟩:=G.gh;refine(apB (k1:=n.cfg.jc.toNat) (k2:=n.cfg.frame.toNat) (k3:=n.cfg.gh.toNat) pI hw a.gw (a.conn hc) aa aa aa aa aa aa fN).mono ?_;rintro e' τ ⟨rfl,rfl⟩;refine⟨rfl,A,.refl A,H,?_⟩;rw[e];have a1:=a.nv hc λr=>{r with ph:=1,out:=r.out++ck 0 10 30 [.short n.cfg.jc.toNat,.long n.cfg.frame.toNat,.short n.cfg.gh.toNat],gV:=n.clock}
   have e2:(n.bC id λr=>{r with ph:=1}).send id (ck 0 10 30 [.short n.cfg.jc.toNat,.long n.cfg.frame.toNat,.short n.cfg.gh.toNat])=n.bC id λr=>{r with ph:=1,out:=r.out++ck 0 10 30 [.short n.cfg.jc.toNat,.long n.cfg.frame.toNat,.short n.cfg.gh.toNat],gV:=n.clock}:=by simp only[N.send,N.bC,ML];rfl
   rw[e2];exact a1
 |false=>
  cases hw:u.fR with
  |true=>
   have e:n.unit id u=(if n.ph id=4 then n else n.cH id 501 0 0).bC id λr=>{r with ph:=5}:=by unfold N.unit;rw[pI,hw];rfl
   have Pf:n.ph id=c.r.ph:=by unfold N.ph;rw[hc];rfl
   refine aW func59 ntmps59 results59 λQ aC an aA=>?_;simp only[go_sem,seval,uV];refineλb3 gN=>?_;refine ag ?_;have o1:=a.fresh gN;generalize hZ:Hp.set σ b3 _=fy;have hb:fy.f b3=some (.cells [iV u.kind,iV u.channel,sV u.iS,.bool u.jT,.bool u.fR].toArray 135 (0,0)):=by rw[<-hZ];exact Hp.bD _ _
   have a1:=dO (o1 _) hZ;have cB:=a1.eu hc;by_cases p4:c.r.ph=4
   ·simp only[go_sem,seval,pI,hw,hb,cB,eq_true p4,decide_true];have a3:=a1.nv hc λr=>{r with ph:=5};refine aC du ao ⟨rfl,A,.refl A,H,?_⟩;rw[e,Pf,if_pos p4];exact dO a3 rfl
   ·refine lO pI hw hb cB p4 ?_;refineλbb eS=>?_;have a2:=λo=>a1.iH eS o;refine ag ?_;refine aL (Qu (e:=501) (cl:=0) (me:=0) (a2 (tr 501 0 0)) (List.mem_cons_self ..) hc L ai fN) ?_;rintro v cM ⟨hv,H2,a3⟩
    cases hv
    obtain⟨c2,dP⟩:=ZM (e:=501) (cl:=0) (me:=0) hc;have a4:=a3.nv dP λr=>{r with ph:=5};refine aG (a3.eu dP) ?_;refine aC du ao ⟨rfl,A,.refl A,H2,?_⟩;rw[e,Pf,if_neg p4];exact aq.oD (dO a4 rfl)
  |false=>
   by_cases k8:u.kind=8
   ·have e:n.unit id u=n:=by unfold N.unit;rw[pI,hw];simp[k8]
    refine(apz pI hw k8).mono ?_;rintro e' τ ⟨rfl,rfl⟩;rw[e];exact⟨rfl,A,.refl A,H,a⟩
   ·have e:n.unit id u=n.lz id u:=by unfold N.unit;rw[pI,hw];simp[k8]
    rw[e];exact apA pI hw k8 (Cs pI hw k8)
end
section
open Go.Extern
variable {f:FR}{Q:Value->Hp->Prop}{H:Halt->Hp->Prop}{t:Nat}
def NU:wpS prog (ReflectliteValue.unpack (.iface 297 (pV t))) Q H σ=∀b,σ.f b=none->Q (.agg #[hT 297,pV b,.int .u64 150]) (σ.set b (.cells #[pV t] 297)):=ah
def WU:wpS prog (ReflectliteValue.unpack (.iface 298 (pV t))) Q H σ=∀b,σ.f b=none->Q (.agg #[hT 298,pV b,.int .u64 150]) (σ.set b (.cells #[pV t] 298)):=ah
def WT:wpS prog (ReflectliteValue.unpack (.iface 296 (.agg #[pV t]))) Q H σ=∀b,σ.f b=none->Q (.agg #[hT 296,pV b,.int .u64 153]) (σ.set b (.cells #[pV t] 296)):=ah
def WS:wpS prog (ReflectliteValue.unpack (.iface 214 (pV t))) Q H σ=∀b,σ.f b=none->Q (.agg #[hT 214,pV b,.int .u64 150]) (σ.set b (.cells #[pV t] 214)):=ah
variable {a:Nat}
def NS:wpS prog (ReflectliteValue.methodAny (ReflectliteValue.valueError "reflectlite.Value.Type" 0) (λt _ _ _=>ReflectliteType.toType t) #[.agg #[hT 297,pV a,.int .u64 150]]) Q H σ=Q (rT 297) σ:=ah
def WO:wpS prog (ReflectliteValue.methodAny (ReflectliteValue.valueError "reflectlite.Value.Type" 0) (λt _ _ _=>ReflectliteType.toType t) #[.agg #[hT 298,pV a,.int .u64 150]]) Q H σ=Q (rT 298) σ:=ah
def NO:wpS prog (ReflectliteType.abiMethod (λt=>(λa:Nat=>Value.int IntKind.u8 (a:Int))<$>Rtype.kind t) #[hT 297]) Q H σ=Q (.int .u8 22) σ:=ah
def WB:wpS prog (ReflectliteType.abiMethod (λt=>(λa:Nat=>Value.int IntKind.u8 (a:Int))<$>Rtype.kind t) #[hT 298]) Q H σ=Q (.int .u8 22) σ:=ah
def NN:wpS prog (ReflectliteType.abiMethod (λt=>(λa:Nat=>Value.int IntKind.u8 (a:Int))<$>Rtype.kind t) #[hT 296]) Q H σ=Q (.int .u8 25) σ:=ah
def WA:wpS prog (ReflectliteType.abiMethod (λt=>(λa:Nat=>Value.int IntKind.u8 (a:Int))<$>Rtype.kind t) #[hT 214]) Q H σ=Q (.int .u8 22) σ:=ah
def NK:wpS prog (ReflectliteType.method ReflectliteType.elem #[.agg #[hT 297]]) Q H σ=Q (rT 296) σ:=ah
def Wt:wpS prog (ReflectliteType.method ReflectliteType.elem #[.agg #[hT 298]]) Q H σ=Q (rT 214) σ:=ah
def NL:wpS prog (ReflectliteType.relation "Implements" ReflectliteType.implements_ #[.agg #[hT 296],rT 45]) Q H σ=Q (.bool true) σ:=ah
def Wy:wpS prog (ReflectliteType.relation "Implements" ReflectliteType.implements_ #[.agg #[hT 214],rT 45]) Q H σ=Q (.bool true) σ:=ah
variable {v:Value}
def WR:wpS prog (ReflectliteType.typeOf #[.iface 296 v]) Q H σ=Q (rT 296) σ:=ah
def NT:wpS prog (ReflectliteType.typeOf #[.iface 214 v]) Q H σ=Q (rT 214) σ:=ah
def Wq:wpS prog (ReflectliteType.relation "AssignableTo" ReflectliteType.assignableTo #[.agg #[hT 296],rT 296]) Q H σ=Q (.bool true) σ:=ah
def Wn:wpS prog (ReflectliteType.relation "AssignableTo" ReflectliteType.assignableTo #[.agg #[hT 214],rT 214]) Q H σ=Q (.bool true) σ:=ah
def Wo:wpS prog (ReflectliteType.relation "AssignableTo" ReflectliteType.assignableTo #[.agg #[hT 214],rT 296]) Q H σ=Q (.bool false) σ:=ah
variable {QP:Option (TypeId×Addr×Nat)->Hp->Prop}
def NP:wpS prog (ReflectliteValue.parts (.agg #[hT 297,pV a,.int .u64 150])) QP H σ=QP (some (297,⟨a,0,none⟩,150)) σ:=ah
def NQ:wpS prog (ReflectliteValue.parts (.agg #[hT 298,pV a,.int .u64 150])) QP H σ=QP (some (298,⟨a,0,none⟩,150)) σ:=ah
def WL:wpS prog (ReflectliteValue.parts (.agg #[hT 296,pV a,.int .u64 409])) QP H σ=QP (some (296,⟨a,0,none⟩,409)) σ:=ah
def WI:wpS prog (ReflectliteValue.parts (.agg #[hT 214,pV a,.int .u64 406])) QP H σ=QP (some (214,⟨a,0,none⟩,406)) σ:=ah
def WK:wpS prog (ReflectliteValue.parts (.agg #[hT 296,pV a,.int .u64 153])) QP H σ=QP (some (296,⟨a,0,none⟩,153)) σ:=ah
def WH:wpS prog (ReflectliteValue.parts (.agg #[hT 214,pV a,.int .u64 150])) QP H σ=QP (some (214,⟨a,0,none⟩,150)) σ:=ah
variable {QE:Option TypeId->Hp->Prop}
def Wu:wpS prog (Rtype.elem? 297) QE H σ=QE (some 296) σ:=ah
def Wv:wpS prog (Rtype.elem? 298) QE H σ=QE (some 214) σ:=ah
def WG{p:Nat}:wpS prog (ReflectliteValue.mk 296 ⟨p,0,none⟩ ReflectliteValue.flagAddr) Q H σ=Q (.agg #[hT 296,pV p,.int .u64 409]) σ:=ah
def WE{p:Nat}:wpS prog (ReflectliteValue.mk 214 ⟨p,0,none⟩ ReflectliteValue.flagAddr) Q H σ=Q (.agg #[hT 214,pV p,.int .u64 406]) σ:=ah
def Ws{QD:Bool->Hp->Prop}:wpS prog (Rtype.directlyAssignable 296 296) QD H σ=QD true σ:=ah
def Wr{QD:Bool->Hp->Prop}:wpS prog (Rtype.directlyAssignable 214 214) QD H σ=QD true σ:=ah
variable {e:TypeId}
def NM(ha:σ.f a=some (.cells #[pV t] e (0,0)))(h:Q (.bool false) σ):wpS prog (ReflectliteValue.method (ReflectliteValue.valueError "reflectlite.Value.IsNil" 0) ReflectliteValue.isNil #[.agg #[hT 297,pV a,.int .u64 150]]) Q H σ:=by rw[Fc,aH,NP];show wpS prog (ReflectliteValue.isNil 297 ⟨a,0,none⟩ 150 22) Q H σ;unfold ReflectliteValue.isNil;rw[if_neg ai,aH];refine vP (P:=prog) (t:=297) (a:=⟨a,0,none⟩) (σ:=σ) ah (ui (B4 ah ha) ?_);exact h
def Ww(ha:σ.f a=some (.cells #[pV t] e (0,0)))(h:Q (.agg #[hT 296,pV t,.int .u64 409]) σ):wpS prog (ReflectliteValue.method (ReflectliteValue.valueError "reflectlite.Value.Elem" 0) ReflectliteValue.elem #[.agg #[hT 297,pV a,.int .u64 150]]) Q H σ:=by rw[Fc,aH,NP];show wpS prog (ReflectliteValue.elem 297 ⟨a,0,none⟩ 150 22) Q H σ;unfold ReflectliteValue.elem;rw[if_neg ai];rw[aH];refine vP (P:=prog) (t:=297) (a:=⟨a,0,none⟩) (σ:=σ) ah (ui (B4 ah ha) ?_);rw[aH,Wu];exact WG▸h
def Wz(ha:σ.f a=some (.cells #[pV t] e (0,0)))(h:Q (.bool false) σ):wpS prog (ReflectliteValue.method (ReflectliteValue.valueError "reflectlite.Value.IsNil" 0) ReflectliteValue.isNil #[.agg #[hT 298,pV a,.int .u64 150]]) Q H σ:=by rw[Fc,aH,NQ];show wpS prog (ReflectliteValue.isNil 298 ⟨a,0,none⟩ 150 22) Q H σ;unfold ReflectliteValue.isNil;rw[if_neg ai,aH];refine vP (P:=prog) (t:=298) (a:=⟨a,0,none⟩) (σ:=σ) ah (ui (B4 ah ha) ?_);exact h
def Wx(ha:σ.f a=some (.cells #[pV t] e (0,0)))(h:Q (.agg #[hT 214,pV t,.int .u64 406]) σ):wpS prog (ReflectliteValue.method (ReflectliteValue.valueError "reflectlite.Value.Elem" 0) ReflectliteValue.elem #[.agg #[hT 298,pV a,.int .u64 150]]) Q H σ:=by rw[Fc,aH,NQ];show wpS prog (ReflectliteValue.elem 298 ⟨a,0,none⟩ 150 22) Q H σ;unfold ReflectliteValue.elem;rw[if_neg ai];rw[aH];refine vP (P:=prog) (t:=298) (a:=⟨a,0,none⟩) (σ:=σ) ah (ui (B4 ah ha) ?_);rw[aH,Wv];exact WE▸h
variable {b i:Nat}{old:Value}{e1:TypeId}
def WM(hb:σ.f b=some (.cells #[pV i] e1 (0,0)))(ht:σ.f t=some (.cells [old].toArray 214 (0,0)))(h:Q (.tuple #[]) (σ.set t (.cells [pV i].toArray 214 (0,0)))):
 wpS prog (ReflectliteValue.set #[.agg #[hT 214,pV t,.int .u64 406],.agg #[hT 214,pV b,.int .u64 150]]) Q H σ:=by
 rw[NR,aH,WI,aH,WH];simp only[];rw[if_neg ai,aH];refine vP (P:=prog) (t:=214) (a:=⟨b,0,none⟩) (σ:=σ) ah (ui (B4 ah hb) ?_);rw[aH,Wr];simp only[if_true,aH];refine Mp ah ?_;unfold uL;simp only[ht];refine⟨trivial,al,trivial,ah,?_⟩;exact h
def Wk(hb:σ.f b=some (.cells #[pV t] 298 (0,0)))(ht:σ.f t=some (.cells [old].toArray 214 (0,0))):
 ay E 64 #[.iface 214 (pV i),.iface 298 (pV t),.agg #[hT 298,pV b,.int .u64 150],rT 214] σ λe τ=>e=.returned (.bool true)/\τ=σ.set t (.cells [pV i].toArray 214 (0,0)):=by
 refine fI func64 ntmps64 results64 rfl al λQ aC an aA=>?_;refine ag ?_;refineλb6 pF=>?_;have n6:∀{x o},σ.f x=some o->¬x=b6:=λh e=>by subst e;rw[pF]at h;cases h
 refine ag ?_;refine dh (λm ρ ds ae=>ds=[]/\ρ 0=.iface 214 (pV i)/\ρ 3=rT 214/\ρ 6=pV b6/\ae=σ.set b6 (.cells [hT 298,pV b,.int .u64 150].toArray 140 (0,0))) 0 ?_ ?_
 ·refine⟨rfl,?_,?_,?_,rfl⟩<;>exact au
 ·rintro m ρ ds ae X ⟨rfl,h0,h3,h6,rfl⟩ hX;refine aG h0 ?_;refine fz func113 rfl ah ah HJ ?_;rw[NT];refine aG h3 ?_;refine lJ (t:=222) (v:=.agg #[hT 214]) (recv:=.agg #[hT 214]) (f:=333) (name:= "AssignableTo") ?_ (λQ H h=>by rw[Fb];exact h) ?_
  ·exact au
  refine ag ?_;refine fz func333 rfl ah ah HL ?_;rw[Wn];have l6:∀o,(σ.set b6 o).f b6=some o:=λ_=>Hp.bD _ _;refine bt h6 l6 ?_;refine fz func114 rfl ah ah Vh ?_;refine Wx (a:=b) (t:=t) (e:=298) ((Hp.az (n6 hb)).trans hb) ?_;refine aG h0 ?_;refine fz func61 rfl ah ah EN ?_;show wpS prog (ReflectliteValue.unpack (.iface 214 (pV i))) _ _ _;rw[WS];intro b9 oJ
  have n9:∀{x:Nat} {o:Obj},σ.f x=some o->¬x=b9:=by intro x o h e;subst e;have h1:(σ.set b6 (.cells [hT 298,pV b,.int .u64 150].toArray 140 (0,0))).f x=some o:=(Hp.az (n6 h)).trans h;have h2:(σ.set b6 (.cells [hT 298,pV b,.int .u64 150].toArray 140 (0,0))).f x=none:=oJ;rw[h1]at h2;cases h2
  refine ag ?_;refine fz func115 rfl ah ah Vi ?_;refine WM (t:=t) (b:=b9) (i:=i) (old:=old) (e1:=214) aY ((Hp.az (n9 ht)).trans ((Hp.az (n6 ht)).trans ht)) ?_;refine ag ?_;refine an (τ:=(σ.set t (.cells [pV i].toArray 214 (0,0)))) aI ?_ ⟨by simp[up],rfl⟩;exact gW (λx p h=>(Hp.az (n9 h)).trans ((Hp.az (n6 h)).trans h)) _ _
variable {et:TypeId}
def Wh(h0:σ.f 0=some (.cells #[rT 45] et (0,0)))(ht:σ.f t=some (.cells [old].toArray 214 (0,0))):
 ay E 41 #[.iface 214 (pV i),.iface 298 (pV t)] σ λe τ=>e=.returned (.bool true)/\τ=σ.set t (.cells [pV i].toArray 214 (0,0)):=by
 refine fI func41 ntmps41 results41 rfl al λQ aC an aA=>?_;refine ag ?_;refine fz func61 rfl ah ah EN ?_;show wpS prog (ReflectliteValue.unpack (.iface 298 (pV t))) _ _ _;rw[WU];intro b hb;have nb:∀{x o},σ.f x=some o->¬x=b:=λh e=>by subst e;rw[hb]at h;cases h
 refine ag ?_;refineλb5 lC=>?_;have xF:¬b5=b:=bp lC aY;rw[Hp.az xF]at lC
 have n5:∀{x:Nat} {o:Obj},σ.f x=some o->¬x=b5:=by intro x o h e;subst e;rw[lC]at h;cases h
 have l5:∀(H:Hp) (o:Obj),(H.set b5 o).f b5=some o:=λ_ _=>Hp.bD _ _;have lb:∀o o',((σ.set b o).set b5 o').f b=some o:=λo o'=>(Hp.az (λe=>xF e.symm)).trans aY;have lo:∀{x:Nat} {p:Obj} o o',σ.f x=some p->((σ.set b o).set b5 o').f x=some p:=λo o' h=>(Hp.az (n5 h)).trans ((Hp.az (nb h)).trans h);refine aG l5 ?_;refine fz func62 rfl ah ah M1 ?_;rw[WO];refine ag ?_;refine lJ (t:=222) (v:=.agg #[hT 298]) (recv:=hT 298) (f:=319) (name:= "Kind") ?_ (λQ H h=>by rw[Ac];exact h) ?_
 ·exact au
 refine ag ?_;refine fz func319 rfl ah ah BM ?_;show wpS prog (ReflectliteType.abiMethod (λt=>(λa:Nat=>Value.int IntKind.u8 (a:Int))<$>Rtype.kind t) #[hT 298]) _ _ _;rw[WB];refine aG l5 ?_;rw[Hp.set_set];refine fz func63 rfl ah ah M3 ?_;refine Wz (a:=b) (t:=t) (e:=298) (lb _ _) ?_;refine ag ?_;refine lJ (t:=222) (v:=.agg #[hT 298]) (recv:=.agg #[hT 298]) (f:=335) (name:= "Elem") ?_ (λQ H h=>by rw[Ir];exact h) ?_
 ·exact au
 refine ag ?_;refine fz func335 rfl ah ah MZ ?_;rw[Wt];refine ag ?_;refine lJ (t:=222) (v:=.agg #[hT 214]) (recv:=hT 214) (f:=319) (name:= "Kind") ?_ (λQ H h=>by rw[Ac];exact h) ?_
 ·exact au
 refine ag ?_;refine fz func319 rfl ah ah BM ?_;show wpS prog (ReflectliteType.abiMethod (λt=>(λa:Nat=>Value.int IntKind.u8 (a:Int))<$>Rtype.kind t) #[hT 214]) _ _ _;rw[WA];have l0:∀o o',((σ.set b o).set b5 o').f 0=some (.cells #[rT 45] et (0,0)):=λo o'=>lo o o' h0;refine aG l0 ?_;refine lJ (t:=222) (v:=.agg #[hT 214]) (recv:=.agg #[hT 214]) (f:=336) (name:= "Implements") ?_ (λQ H h=>by rw[Is];exact h) ?_
 ·exact au
 refine ag ?_;refine fz func336 rfl ah ah M0 ?_;rw[Wy];refine aG l5 ?_;refine aR (Wk (b:=b) (lb _ _) (lo _ _ ht)) ?_;refine ag ?_;refine an (τ:=(σ.set t (.cells [pV i].toArray 214 (0,0)))) aI ?_ ⟨by simp[up],rfl⟩;exact gW (λx p h=>lo _ _ h) _ _
def WC(ha:σ.f a=some (.cells #[v] e (0,0))):iQ prog 296 ⟨a,0,none⟩ σ=some (.agg #[v]):=by have hg:dx prog 296=true:=ah;have hs:cq prog 296=1:=ah;unfold iQ;rw[if_pos hg];simp[cellsOf,ha,hs]
def WN(hb:σ.f b=some (.cells #[pV i] e1 (0,0)))(ht:σ.f t=some (.cells [old].toArray 296 (0,0)))(h:Q (.tuple #[]) (σ.set t (.cells [pV i].toArray 296 (0,0)))):
 wpS prog (ReflectliteValue.set #[.agg #[hT 296,pV t,.int .u64 409],.agg #[hT 296,pV b,.int .u64 153]]) Q H σ:=by
 rw[NR,aH,WL,aH,WK];simp only[];rw[if_neg ai,aH];refine vP (P:=prog) (t:=296) (a:=⟨b,0,none⟩) (σ:=σ) ah (ui (WC hb) ?_);rw[aH,Ws];simp only[if_true,aH];refine Mp ah ?_;unfold uL;have e:(Value.agg #[pV i]).cells= #[pV i]:=by first|rfl|decide|simp[Value.cells]
 simp only[ht,e];refine⟨trivial,al,trivial,ah,?_⟩;refine⟨by simp[de],?_⟩;have e3: #[old].extract 0 0++ #[pV i]++ #[old].extract (0+ #[pV i].size)= #[pV i]:=al;rw[e3];exact h
def Wm(hb:σ.f b=some (.cells #[pV t] 297 (0,0)))(ht:σ.f t=some (.cells [old].toArray 296 (0,0))):
 ay E 64 #[.iface 296 (.agg #[pV i]),.iface 297 (pV t),.agg #[hT 297,pV b,.int .u64 150],rT 296] σ λe τ=>e=.returned (.bool true)/\τ=σ.set t (.cells [pV i].toArray 296 (0,0)):=by
 refine fI func64 ntmps64 results64 rfl al λQ aC an aA=>?_;refine ag ?_;refineλb6 pF=>?_;have n6:∀{x o},σ.f x=some o->¬x=b6:=λh e=>by subst e;rw[pF]at h;cases h
 refine ag ?_;refine dh (λm ρ ds ae=>ds=[]/\ρ 0=.iface 296 (.agg #[pV i])/\ρ 3=rT 296/\ρ 6=pV b6/\ae=σ.set b6 (.cells [hT 297,pV b,.int .u64 150].toArray 140 (0,0))) 0 ?_ ?_
 ·refine⟨rfl,?_,?_,?_,rfl⟩<;>exact au
 ·rintro m ρ ds ae X ⟨rfl,h0,h3,h6,rfl⟩ hX;refine aG h0 ?_;refine fz func113 rfl ah ah HJ ?_;rw[WR];refine aG h3 ?_;refine lJ (t:=222) (v:=.agg #[hT 296]) (recv:=.agg #[hT 296]) (f:=333) (name:= "AssignableTo") ?_ (λQ H h=>by rw[Fb];exact h) ?_
  ·exact au
  refine ag ?_;refine fz func333 rfl ah ah HL ?_;rw[Wq];have l6:∀o,(σ.set b6 o).f b6=some o:=λ_=>Hp.bD _ _;refine bt h6 l6 ?_;refine fz func114 rfl ah ah Vh ?_;refine Ww (a:=b) (t:=t) (e:=297) ((Hp.az (n6 hb)).trans hb) ?_;refine aG h0 ?_;refine fz func61 rfl ah ah EN ?_;show wpS prog (ReflectliteValue.unpack (.iface 296 (.agg #[pV i]))) _ _ _;rw[WT];intro b9 oJ
  have n9:∀{x:Nat} {o:Obj},σ.f x=some o->¬x=b9:=by intro x o h e;subst e;have h1:(σ.set b6 (.cells [hT 297,pV b,.int .u64 150].toArray 140 (0,0))).f x=some o:=(Hp.az (n6 h)).trans h;have h2:(σ.set b6 (.cells [hT 297,pV b,.int .u64 150].toArray 140 (0,0))).f x=none:=oJ;rw[h1]at h2;cases h2
  refine ag ?_;refine fz func115 rfl ah ah Vi ?_;refine WN (t:=t) (b:=b9) (i:=i) (old:=old) (e1:=296) aY ((Hp.az (n9 ht)).trans ((Hp.az (n6 ht)).trans ht)) ?_;refine ag ?_;refine an (τ:=(σ.set t (.cells [pV i].toArray 296 (0,0)))) aI ?_ ⟨by simp[up],rfl⟩;exact gW (λx p h=>(Hp.az (n9 h)).trans ((Hp.az (n6 h)).trans h)) _ _
def Wj(h0:σ.f 0=some (.cells #[rT 45] et (0,0)))(ht:σ.f t=some (.cells [old].toArray 296 (0,0))):
 ay E 41 #[.iface 296 (.agg #[pV i]),.iface 297 (pV t)] σ λe τ=>e=.returned (.bool true)/\τ=σ.set t (.cells [pV i].toArray 296 (0,0)):=by
 refine fI func41 ntmps41 results41 rfl al λQ aC an aA=>?_;refine ag ?_;refine fz func61 rfl ah ah EN ?_;show wpS prog (ReflectliteValue.unpack (.iface 297 (pV t))) _ _ _;rw[NU];intro b hb;have nb:∀{x o},σ.f x=some o->¬x=b:=λh e=>by subst e;rw[hb]at h;cases h
 refine ag ?_;refineλb5 lC=>?_;have xF:¬b5=b:=bp lC aY;rw[Hp.az xF]at lC
 have n5:∀{x:Nat} {o:Obj},σ.f x=some o->¬x=b5:=by intro x o h e;subst e;rw[lC]at h;cases h
 have l5:∀(H:Hp) (o:Obj),(H.set b5 o).f b5=some o:=λ_ _=>Hp.bD _ _;have lb:∀o o',((σ.set b o).set b5 o').f b=some o:=λo o'=>(Hp.az (λe=>xF e.symm)).trans aY;have lo:∀{x:Nat} {p:Obj} o o',σ.f x=some p->((σ.set b o).set b5 o').f x=some p:=λo o' h=>(Hp.az (n5 h)).trans ((Hp.az (nb h)).trans h);refine aG l5 ?_;refine fz func62 rfl ah ah M1 ?_;rw[NS];refine ag ?_;refine lJ (t:=222) (v:=.agg #[hT 297]) (recv:=hT 297) (f:=319) (name:= "Kind") ?_ (λQ H h=>by rw[Ac];exact h) ?_
 ·exact au
 refine ag ?_;refine fz func319 rfl ah ah BM ?_;show wpS prog (ReflectliteType.abiMethod (λt=>(λa:Nat=>Value.int IntKind.u8 (a:Int))<$>Rtype.kind t) #[hT 297]) _ _ _;rw[NO];refine aG l5 ?_;rw[Hp.set_set];refine fz func63 rfl ah ah M3 ?_;refine NM (a:=b) (t:=t) (e:=297) (lb _ _) ?_;refine ag ?_;refine lJ (t:=222) (v:=.agg #[hT 297]) (recv:=.agg #[hT 297]) (f:=335) (name:= "Elem") ?_ (λQ H h=>by rw[Ir];exact h) ?_
 ·exact au
 refine ag ?_;refine fz func335 rfl ah ah MZ ?_;rw[NK];refine ag ?_;refine lJ (t:=222) (v:=.agg #[hT 296]) (recv:=hT 296) (f:=319) (name:= "Kind") ?_ (λQ H h=>by rw[Ac];exact h) ?_
 ·exact au
 refine ag ?_;refine fz func319 rfl ah ah BM ?_;show wpS prog (ReflectliteType.abiMethod (λt=>(λa:Nat=>Value.int IntKind.u8 (a:Int))<$>Rtype.kind t) #[hT 296]) _ _ _;rw[NN];have l0:∀o o',((σ.set b o).set b5 o').f 0=some (.cells #[rT 45] et (0,0)):=λo o'=>lo o o' h0;refine aG l0 ?_;refine lJ (t:=222) (v:=.agg #[hT 296]) (recv:=.agg #[hT 296]) (f:=336) (name:= "Implements") ?_ (λQ H h=>by rw[Is];exact h) ?_
 ·exact au
 refine ag ?_;refine fz func336 rfl ah ah M0 ?_;rw[NL];refine aG l5 ?_;refine aR (Wm (b:=b) (lb _ _) (lo _ _ ht)) ?_;refine ag ?_;refine an (τ:=(σ.set t (.cells [pV i].toArray 296 (0,0)))) aI ?_ ⟨by simp[up],rfl⟩;exact gW (λx p h=>lo _ _ h) _ _
variable {nm:String}{sg:TypeId}
def ai6{got:Array Method}(h:(got.any λm=>m.name==nm&&m.sig==sg)=false):∃m,Instr.missingMethod #[(nm,sg)] got=some m:=by
 unfold Instr.missingMethod;by_cases c:(Char.ofNat (nat_lit 46))∈nm.toList
 ·simp[h,List.partition,List.partition.loop,c,Instr.least]
 ·simp[h,List.partition,List.partition.loop,c,Instr.least]
def Hu{D T:TypeId}{I IT:TypeInfo}(hu:prog.underlying T=some (.interface #[(nm,sg)]))(hi:prog.info? D=some I)(hm:(I.methods.any λm=>m.name==nm&&m.sig==sg)=false)(hT:prog.info? T=some IT)(hz:IT.zero=some .nilIface)(Q:Value->Hp->Prop)(H:Halt->Hp->Prop):wpS prog (Instr.typeAssert (.iface D v) 45 T true) Q H σ=Q (.tuple #[.nilIface,.bool false]) σ:=by
 obtain⟨m,rp⟩:=ai6 hm;simp only[Instr.typeAssert,aH,dZ,hu,fQ,hi,rp,if_true,zeroValue,hT,hz,bq]
def ao0(Q:Value->Hp->Prop)(H:Halt->Hp->Prop):wpS prog (Instr.typeAssert (.iface 214 (pV i)) 45 227 true) Q H σ=Q (.tuple #[.nilIface,.bool false]) σ:=
 Hu (nm:= "As") (sg:=229) (I:=t214) (IT:=t227) ah ah ir ah ah Q H
def aoZ(Q:Value->Hp->Prop)(H:Halt->Hp->Prop):wpS prog (Instr.typeAssert (.iface 214 (pV i)) 45 230 true) Q H σ=Q (.tuple #[.iface 214 (pV i),.bool true]) σ:=ah
def aoW{i:Int}(Q:Value->Hp->Prop)(H:Halt->Hp->Prop):wpS prog (Instr.typeAssert (.iface 215 (iV i)) 45 227 true) Q H σ=Q (.tuple #[.nilIface,.bool false]) σ:=
 Hu (nm:= "As") (sg:=229) (I:=t215) (IT:=t227) ah ah ir ah ah Q H
def aoX{i:Int}(Q:Value->Hp->Prop)(H:Halt->Hp->Prop):wpS prog (Instr.typeAssert (.iface 215 (iV i)) 45 230 true) Q H σ=Q (.tuple #[.nilIface,.bool false]) σ:=
 Hu (nm:= "Unwrap") (sg:=231) (I:=t215) (IT:=t230) ah ah ir ah ah Q H
def aoY{i:Int}(Q:Value->Hp->Prop)(H:Halt->Hp->Prop):wpS prog (Instr.typeAssert (.iface 215 (iV i)) 45 232 true) Q H σ=Q (.tuple #[.nilIface,.bool false]) σ:=
 Hu (nm:= "Unwrap") (sg:=234) (I:=t215) (IT:=t232) ah ah ir ah ah Q H
def Mz{D T:TypeId}{l:Array (String×TypeId)}(hu:prog.underlying T=some (.interface l)):kW prog T (.iface D v)=none:=by simp only[kW,hu]
def UI{D:TypeId}:kW prog 227 (.iface D v)=none:=Mz (l:=#[("As",229)]) ah
def UJ{D:TypeId}:kW prog 230 (.iface D v)=none:=Mz (l:=#[("Unwrap",231)]) ah
def ao1{D:TypeId}:kW prog 232 (.iface D v)=none:=Mz (l:=#[("Unwrap",234)]) ah
def WQ:wpS prog (ReflectliteType.typeOf #[.iface 215 v]) Q H σ=Q (rT 215) σ:=ah
def Wp:wpS prog (ReflectliteType.relation "AssignableTo" ReflectliteType.assignableTo #[.agg #[hT 215],rT 296]) Q H σ=Q (.bool false) σ:=ah
def WD{QM:FuncId×Value->Hp->Prop}:wpS prog (method (prog.types.size+Made.depth) 214 (pV i) "Unwrap") QM H σ=QM (330,pV i) σ:=ah
variable {H:Hid}{ρ:av}{ds:List Deferred}{dst:Option Tmp}{ty:TypeId}{pos:String}{af:Array Edge}{g:Option (Nat×Bool)}{nx:av->List Deferred->Hp->Prop}{pn:List PanicEntry->Hp->Prop}
def ED{x:Operand}{t a D:TypeId}{r:Value}{k:Value->Prop}{o:Option Value}(ho:o=none)(hk:∀(Q:Value->Hp->Prop) (H:Halt->Hp->Prop),wpS prog (Instr.typeAssert (.iface D v) t a true) Q H σ=Q r σ)(hx:ak ρ x=.iface D v)(h:nx (aB ρ dst r) ds σ):kU (wpOp E ⟨dst,.typeAssert x t a true,ty,pos,af,g⟩ ρ ds σ nx pn) k o:=by
 subst ho;show wpOp E ⟨dst,.typeAssert x t a true,ty,pos,af,g⟩ ρ ds σ nx pn;unfold wpOp;simp only[execOp,lf,hx];rw[hk];exact h
variable {e:Int}{x y:Value}
def apE(hi:σ.f i=some (.cells [iV e,x,y].toArray 217 (0,0))):ay E 330 #[pV i] σ λe' τ=>e'=.returned (.iface 215 (iV e))/\τ=σ:=by refine aW func330 ntmps330 results330 λQ aC an aA=>?_;refine aG hi ?_;exact an aI ao ⟨by simp[up],rfl⟩
def Wl(hi:σ.f i=some (.cells [iV e,x,y].toArray 217 (0,0))):
 ay E 64 #[.iface 214 (pV i),.iface 297 (pV t),.agg #[hT 297,pV b,.int .u64 150],rT 296] σ λe τ=>e=.returned (.bool false)/\τ=σ:=by
 refine fI func64 ntmps64 results64 rfl al λQ aC an aA=>?_;refine ag ?_;refineλb6 pF=>?_;have n6:∀{x o},σ.f x=some o->¬x=b6:=λh e=>by subst e;rw[pF]at h;cases h
 refine ag ?_;refine dh (λm ρ ds ae=>ds=[]/\ρ 3=rT 296/\ρ 6=pV b6/\ae=σ.set b6 (.cells [hT 297,pV b,.int .u64 150].toArray 140 (0,0))/\((m=1/\ρ 0=.iface 214 (pV i))\/(m=0/\ρ 0=.iface 215 (iV e)))) 1 ?_ ?_
 ·refine⟨rfl,?_,?_,rfl,.inl ⟨rfl,?_⟩⟩<;>exact au
 ·rintro m ρ ds ae X ⟨rfl,h3,h6,rfl,hm⟩ hX;rcases hm with⟨rfl,h0⟩|⟨rfl,h0⟩
  ·refine aG h0 ?_;refine fz func113 rfl ah ah HJ ?_;rw[NT];refine aG h3 ?_;refine lJ (t:=222) (v:=.agg #[hT 214]) (recv:=.agg #[hT 214]) (f:=333) (name:= "AssignableTo") ?_ (λQ H h=>by rw[Fb];exact h) ?_
   ·exact au
   refine ag ?_;refine fz func333 rfl ah ah HL ?_;rw[Wo];refine aG h0 ?_;refine ED UI (ao0 (i:=i)) au ?_;refine aG h0 ?_;refine ED UJ (aoZ (i:=i)) au ?_;refine ag ?_;refine lJ (t:=214) (v:=pV i) (recv:=pV i) (f:=330) (name:= "Unwrap") ?_ (λQ H h=>by rw[WD];exact h) ?_
   ·exact au
   refine ag ?_;refine aR (apE (e:=e) (x:=x) (y:=y) ((Hp.az (n6 hi)).trans hi)) ?_;refine ag ?_;refine hX 0 _ _ _ _ aa ⟨rfl,?_,?_,rfl,.inr ⟨rfl,?_⟩⟩ ao
   ·exact aK h3
   ·exact aK h6
   ·exact au
  ·refine aG h0 ?_;refine fz func113 rfl ah ah HJ ?_;rw[WQ];refine aG h3 ?_;refine lJ (t:=222) (v:=.agg #[hT 215]) (recv:=.agg #[hT 215]) (f:=333) (name:= "AssignableTo") ?_ (λQ H h=>by rw[Fb];exact h) ?_
   ·exact au
   refine ag ?_;refine fz func333 rfl ah ah HL ?_;rw[Wp];refine aG h0 ?_;refine ED UI (aoW (i:=e)) au ?_;refine aG h0 ?_;refine ED UJ (aoX (i:=e)) au ?_;refine ag ?_;refine ED ao1 (aoY (i:=e)) au ?_;refine ag ?_;refine an (τ:=σ) aI ?_ ⟨?_,rfl⟩
   ·first|exact jZ pF|(rw[Hp.set_set];exact jZ pF)
   ·simp[up]
def Wi(hi:σ.f i=some (.cells [iV e,x,y].toArray 217 (0,0)))(h0:σ.f 0=some (.cells #[rT 45] et (0,0)))(ht:σ.f t=some (.cells [old].toArray 296 (0,0))):
 ay E 41 #[.iface 214 (pV i),.iface 297 (pV t)] σ λe τ=>e=.returned (.bool false)/\τ=σ:=by
 refine fI func41 ntmps41 results41 rfl al λQ aC an aA=>?_;refine ag ?_;refine fz func61 rfl ah ah EN ?_;show wpS prog (ReflectliteValue.unpack (.iface 297 (pV t))) _ _ _;rw[NU];intro b hb;have nb:∀{x o},σ.f x=some o->¬x=b:=λh e=>by subst e;rw[hb]at h;cases h
 refine ag ?_;refineλb5 lC=>?_;have xF:¬b5=b:=bp lC aY;rw[Hp.az xF]at lC
 have n5:∀{x:Nat} {o:Obj},σ.f x=some o->¬x=b5:=by intro x o h e;subst e;rw[lC]at h;cases h
 have l5:∀(H:Hp) (o:Obj),(H.set b5 o).f b5=some o:=λ_ _=>Hp.bD _ _;have lb:∀o o',((σ.set b o).set b5 o').f b=some o:=λo o'=>(Hp.az (λe=>xF e.symm)).trans aY;have lo:∀{x:Nat} {p:Obj} o o',σ.f x=some p->((σ.set b o).set b5 o').f x=some p:=λo o' h=>(Hp.az (n5 h)).trans ((Hp.az (nb h)).trans h);refine aG l5 ?_;refine fz func62 rfl ah ah M1 ?_;rw[NS];refine ag ?_;refine lJ (t:=222) (v:=.agg #[hT 297]) (recv:=hT 297) (f:=319) (name:= "Kind") ?_ (λQ H h=>by rw[Ac];exact h) ?_
 ·exact au
 refine ag ?_;refine fz func319 rfl ah ah BM ?_;show wpS prog (ReflectliteType.abiMethod (λt=>(λa:Nat=>Value.int IntKind.u8 (a:Int))<$>Rtype.kind t) #[hT 297]) _ _ _;rw[NO];refine aG l5 ?_;rw[Hp.set_set];refine fz func63 rfl ah ah M3 ?_;refine NM (a:=b) (t:=t) (e:=297) (lb _ _) ?_;refine ag ?_;refine lJ (t:=222) (v:=.agg #[hT 297]) (recv:=.agg #[hT 297]) (f:=335) (name:= "Elem") ?_ (λQ H h=>by rw[Ir];exact h) ?_
 ·exact au
 refine ag ?_;refine fz func335 rfl ah ah MZ ?_;rw[NK];refine ag ?_;refine lJ (t:=222) (v:=.agg #[hT 296]) (recv:=hT 296) (f:=319) (name:= "Kind") ?_ (λQ H h=>by rw[Ac];exact h) ?_
 ·exact au
 refine ag ?_;refine fz func319 rfl ah ah BM ?_;show wpS prog (ReflectliteType.abiMethod (λt=>(λa:Nat=>Value.int IntKind.u8 (a:Int))<$>Rtype.kind t) #[hT 296]) _ _ _;rw[NN];have l0:∀o o',((σ.set b o).set b5 o').f 0=some (.cells #[rT 45] et (0,0)):=λo o'=>lo o o' h0;refine aG l0 ?_;refine lJ (t:=222) (v:=.agg #[hT 296]) (recv:=.agg #[hT 296]) (f:=336) (name:= "Implements") ?_ (λQ H h=>by rw[Is];exact h) ?_
 ·exact au
 refine ag ?_;refine fz func336 rfl ah ah M0 ?_;rw[NL];refine aG l5 ?_;refine aR (Wl (b:=b) (lo _ _ hi)) ?_;refine ag ?_;refine an (τ:=σ) aI ?_ ⟨by simp[up],rfl⟩;exactλx p h=>lo _ _ h
end
end Go.Qw
