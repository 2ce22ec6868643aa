/- 30 -/
import Derived.Test.YtpiabknabfbfhaaGreatDoorFramed29
set_option linter.all false
set_option maxRecDepth 100000
set_option maxHeartbeats 8000000
namespace Go.Qw
open Go Go.Conc Go.Proofs Go.Proofs.Tryz
variable {E:Env prog}{U:Hp}
def Zo{f:FuncId}{fn:Func}{c:Code}{n:Nat}{rs:Array ResultVar}{args:Array Value}{atA:Fin->Hp->Prop}(hf:prog.funcs[f]? =some fn)(hn:fn.ntmps=n)(hr:fn.results=rs)(hb:fn.body=some c)(hs:args.size<=fn.ntmps)(h:∀Q:Post,(∀I U R v b3 b4,lG prog rs I R v->R.le U->atA (.returned v) R->Q .ret I [gl 188 #[pV b3,pV b4]] U)->
  (∀I U b3 b4,(∀(c:Frame) (cs:List Frame),c.mode=.panicking lH->ax E (G (Frame.enter prog 188 #[pV b3,pV b4] .deferred) (c::cs)) U λg R=>g=G {c with mode:=.returning} cs/\∃v,lG prog rs I R v/\atA (.returned v) R)->Q (.panic lH) I [gl 188 #[pV b3,pV b4]] U)->
  cO E n c Q (nG args n) [] U):aw E f args U atA:=by
 subst hn;subst hr;refine Zm hf hb hs (h _ ?_ ?_)
 ·exactλI U R v b3 b4 h1 hl h2=>⟨b3,b4,v,R,hl,rfl,h1,h2⟩
 ·exactλI U b3 b4 h=>⟨rfl,b3,b4,rfl,h⟩
section
variable {E:Env prog}{U:Hp}{H:Hid}{n:N}{X:Ext}{no:Nat}{c:CN}{h:HN}{bf:Nat}{f:FR}{r:HR}
variable {A:Lay}{id:Int}
def aq.BH {er:Er}{b b3 b4:Nat}{of o3 o4:Obj}(a:aq A H n (er.ext b++(bf,of)::(b4,o4)::(b3,o3)::X) U)(o:Obj):aq A H n (er.ext b++(bf,of)::X) (U.set b4 o):=by
 cases er with
 |nil=>
  have a1:=a.zE (i:=1) (p:=(b4,o4)) rfl o;exact a1.zy (λi=>if i=0 then 0 else i+2) (λi hi=>by cases i<;>simp[Er.ext]) (λi j _ _ e=>by split at e<;>split at e<;>omega)
 |soft e cl me=>
  have a1:=a.zE (i:=2) (p:=(b4,o4)) rfl o
  exact a1.zy (λi=>if i<2 then i else i+2) (λi hi=>by
   rcases i with _|_|i
   ·rfl
   ·rfl
   ·rw[if_neg aa];rfl) (λi j _ _ e=>by split at e<;>split at e<;>omega)
 |cA e cl me=>
  have a1:=a.zE (i:=2) (p:=(b4,o4)) rfl o
  exact a1.zy (λi=>if i<2 then i else i+2) (λi hi=>by
   rcases i with _|_|i
   ·rfl
   ·rfl
   ·rw[if_neg aa];rfl) (λi j _ _ e=>by split at e<;>split at e<;>omega)
def aq.rf {er:Er}{b b3 b4:Nat}{of o3 o4:Obj}(a:aq A H n (er.ext b++(bf,of)::(b4,o4)::(b3,o3)::X) U):U.f b4=some o4/\U.f b3=some o3:=by
 cases er with
 |nil=>exact⟨a.ext (i:=1) (p:=(b4,o4)) rfl,a.ext (i:=2) (p:=(b3,o3)) rfl⟩
 |soft e cl me=>exact⟨a.ext (i:=2) (p:=(b4,o4)) rfl,a.ext (i:=3) (p:=(b3,o3)) rfl⟩
 |cA e cl me=>exact⟨a.ext (i:=2) (p:=(b4,o4)) rfl,a.ext (i:=3) (p:=(b3,o3)) rfl⟩
structure Np (n:N) (id:Int) (c:CN):Prop where
 w:Wf n
 out:c.r.out.length<=100000000000000
 leave:zV n id c
 fr:∀no h,n.h? id no=some h->E4 n id no c h
def MK {b3 b4 cl me:Nat}{f2:FR}{v0:Value}{H':Hid}{R:Hp}{I:av}{c0:Frame}{cs:List Frame}{r:HO}(yO:c0.mode=.panicking lH)(aK:f2.cl=(cl:Int))(aN:f2.me=(me:Int))(h4:I 4=pV b4)(hr:r=.bad cl me)
 (a:aq A H' n ((bf,bN f2)::(b4,.cells [v0].toArray 45 (0,0))::(b3,.cells [pV bf].toArray 291 (0,0))::X) R):
 ax E (G (Frame.enter prog 188 #[pV b3,pV b4] .deferred) (c0::cs)) R λg R=>g=G {c0 with mode:=.returning} cs/\∃v,lG prog #[.cell 4 45] I R v/\iw A X n bf f (.ok (r.get n).1 (r.get n).2) (.returned v) R:=by
 obtain⟨k4,k3⟩:=aq.rf (er:=.nil) (b:=0) a;refine(aaP (bf:=bf) (v0:=v0) (S:=λb R=>R.f b4=some (.cells [.iface 214 (pV b)].toArray 45 (0,0))/\aq A H' n ((Er.cA 502 cl me).ext b++(bf,bN f2)::X) R) yO k3 k4 ?_).mono ?_
 ·intro fP hle;refine(jL (e:=502) (a.le hle) aK aN).mono ?_;rintro e cU ⟨b,rfl,a2⟩;exact⟨b,rfl,(aq.rf a2).1,aT,a2.BH _⟩
 ·rintro g cU ⟨rfl,b,k,a2⟩;refine⟨rfl,_,nA (b:=b4) h4 ah (A9 k),?_⟩;rw[hr];exact⟨A,H',b,f2,rfl,.refl A,a2⟩
def ad5 (a:aq A H n ((bf,bN f)::X) U)(hc:n.ar id=some c)(K:Np n id c)(hs:f.s=f.u.gL)(aK:f.cl=0)(aN:f.me=0)(eF:0<=f.u.channel/\f.u.channel<1000000)(ji:f.s.length<=500000):
 aw E 150 #[pV (A.conn id),pV bf] U (iw A X n bf f (.ok ((n.eS id c f.u).get n).1 ((n.eS id c f.u).get n).2)):=by
 refine Zo func150 ntmps150 results150 rfl ak λQ al az=>?_;refine fG λK0 Jx=>?_;refine ag ?_;refineλb3 gS=>?_;refine ag ?_;refineλb4 yN=>?_;have a2:=λo'=>(a.iE gS _).iE yN o';refine ag ?_;generalize hZ:Hp.set (Hp.set U b3 _) b4 _=fP;have a3:aq A H n ((b4,.cells [.nilIface].toArray 45 (0,0))::(b3,.cells [pV bf].toArray 291 (0,0))::(bf,bN f)::X) fP:=dT (a2 _) hZ
 have a4:aq A H n ((bf,bN f)::(b4,.cells [.nilIface].toArray 45 (0,0))::(b3,.cells [pV bf].toArray 291 (0,0))::X) fP:=
  a3.zy (λi=>if i=0 then 2 else if i<3 then i-1 else i) (λi hi=>by
   rcases i with _|_|_|i
   ·rfl
   ·rfl
   ·rfl
   ·rw[if_neg aa,if_neg aa];rfl) (λi j _ _ e=>by split at e<;>split at e<;>(try split at e)<;>(try split at e)<;>omega)
 clear a3 a2;refine Jx _ _ _ ?_;refine fG λK1 oQ=>?_;refine ag ?_;refine aaN (df:=188) (caps:=#[pV b3,pV b4]) ?_ ?_
 ·exact au
 refine oQ _ _ _ ?_
 have tail:∀{cU:Hp} {I:av} {f2:FR} {cl me:Nat},aq A H n ((bf,bN f2)::(b4,.cells [.nilIface].toArray 45 (0,0))::(b3,.cells [pV bf].toArray 291 (0,0))::X) cU->f2.u=f.u->f2.cl=(cl:Int)->f2.me=(me:Int)->f2.s.length<=500000->
  n.eS id c f.u=n.gR id c f.u.channel f.u.kind f2.s cl me->I 0=pV (A.conn id)->I 3=pV b3->I 4=pV b4->cO E 75 (aO (aO (aO (f150.body.getD .skip)))) Q I [gl 188 #[pV b3,pV b4]] cU:=by
  intro cU I f2 cl me a5 hu CY Gi afZ he r0 r3 r4;have kU:=a5.eC hc;obtain⟨k4,k3⟩:=aq.rf (er:=.nil) (b:=0) a5;have mQ:=a5.eN;rw[hu]at mQ;simp only[f150,Option.getD_some,aO];have gW:f2.u.kind=f.u.kind:=by rw[hu]
  have QR:f2.u.channel=f.u.channel:=by rw[hu]
  by_cases pZ:c.r.ph=1\/c.r.ph=2
  ·have nW:n.gR id c f.u.channel f.u.kind f2.s cl me=n.begin id c f2.u.channel f2.u.kind f2.s cl me:=by unfold N.gR;rw[if_pos pZ,gW,QR]
   have JZ:=XF (E:=E) a5 hc pZ CY Gi K.out;rcases pZ with p1|p1
   all_goals
    first|simp only[go_sem,seval,r0,r3,kU,k3,(show¬c.r.ph=1 by omega),eq_true p1,decide_true,decide_false]|simp only[go_sem,seval,r0,r3,kU,k3,eq_true p1,decide_true]
    refine dI acI JZ ?_ (λch dv hx=>?_)
    ·intro v dv hx
     cases hr:n.begin id c f2.u.channel f2.u.kind f2.s cl me with
     |bad x y=>rw[hr]at hx;obtain⟨_,_,h,_⟩:=hx;cases h
     |ok n' er=>
      rw[hr]at hx;obtain⟨A',H',b,f',hv,Dd,a6⟩:=hx;obtain⟨sY,pX⟩:=a6.rf
      have hR:iw A X n bf f (.ok ((n.eS id c f.u).get n).1 ((n.eS id c f.u).get n).2) (.returned (er.v b)) (dv.set b4 (.cells [er.v b].toArray 45 (0,0))):=by rw[he,nW,hr];exact⟨A',H',b,f',rfl,Dd,a6.BH _⟩
      have gY:iQ prog 45 ⟨b4,0,none⟩ (dv.set b4 (.cells [er.v b].toArray 45 (0,0)))=some (er.v b):=A9 aT
      cases hv
      cases er<;>simp only[go_sem,seval,Er.v,r4,sY]<;>exact al _ _ _ _ _ _ (nA (b:=b4) (by simp[up,r4]) ah gY) ao hR
    ·cases hr:n.begin id c f2.u.channel f2.u.kind f2.s cl me with
     |ok n' er=>rw[hr]at hx;obtain⟨_,_,_,_,h,_⟩:=hx;cases h
     |bad x y=>
      rw[hr]at hx;obtain⟨H',s,h,a6⟩:=hx
      cases h
      exact az _ _ _ _ (λc0 cs yO=>MK yO rfl rfl (by first|exact r4|(simp only[go_sem,seval,r4];done)|(simp[aA,up,r4];done)) (he.trans (nW.trans hr)) a6)
  have p1:¬c.r.ph=1:=λe=>pZ (.inl e);have p2:¬c.r.ph=2:=λe=>pZ (.inr e);by_cases p3:c.r.ph=3
  ·by_cases z:f.u.channel=0
   ·simp only[go_sem,seval,r0,r3,kU,k3,mQ,p1,p2,eq_true p3,eq_true z,decide_true,decide_false];have nW:n.gR id c f.u.channel f.u.kind f2.s cl me=n.control id f2.u.kind f2.s cl me:=by unfold N.gR;rw[if_neg pZ,if_pos p3,if_pos z,gW]
    refine dI acJ (aat a5 hc K.leave CY Gi K.out) ?_ (λch dv hx=>?_)
    ·intro v dv hx
     cases hr:n.control id f2.u.kind f2.s cl me with
     |bad x y=>rw[hr]at hx;obtain⟨_,_,h,_⟩:=hx;cases h
     |ok n' er=>
      rw[hr]at hx;obtain⟨A',H',b,f',hv,Dd,a6⟩:=hx;obtain⟨sY,pX⟩:=a6.rf
      have hR:iw A X n bf f (.ok ((n.eS id c f.u).get n).1 ((n.eS id c f.u).get n).2) (.returned (er.v b)) (dv.set b4 (.cells [er.v b].toArray 45 (0,0))):=by rw[he,nW,hr];exact⟨A',H',b,f',rfl,Dd,a6.BH _⟩
      have gY:iQ prog 45 ⟨b4,0,none⟩ (dv.set b4 (.cells [er.v b].toArray 45 (0,0)))=some (er.v b):=A9 aT
      cases hv
      cases er<;>simp only[go_sem,seval,Er.v,r4,sY]<;>exact al _ _ _ _ _ _ (nA (b:=b4) (by simp[up,r4]) ah gY) ao hR
    ·cases hr:n.control id f2.u.kind f2.s cl me with
     |ok n' er=>rw[hr]at hx;obtain⟨_,_,_,_,h,_⟩:=hx;cases h
     |bad x y=>
      rw[hr]at hx;obtain⟨H',s,h,a6⟩:=hx
      cases h
      exact az _ _ _ _ (λc0 cs yO=>MK yO rfl rfl (by first|exact r4|(simp only[go_sem,seval,r4];done)|(simp[aA,up,r4];done)) (he.trans (nW.trans hr)) a6)
   ·obtain⟨no,eV⟩:∃no:Nat,f.u.channel=(no:Int):=⟨f.u.channel.toNat,aa⟩;have KI:f.u.channel.toNat=no:=aa;simp only[go_sem,seval,r0,r3,kU,k3,mQ,p1,p2,eq_true p3,z,decide_true,decide_false];have nW:n.gR id c f.u.channel f.u.kind f2.s cl me=n.jW id c no f2.u.kind f2.s cl me:=by unfold N.gR;rw[if_neg pZ,if_pos p3,if_neg z,gW,KI]
    refine dI acK (ak4 (no:=no) a5 K.w hc (λh hh=>K.fr no h hh) (QR.trans eV) aa CY Gi K.out afZ) ?_ (λch dv hx=>?_)
    ·intro v dv hx
     cases hr:n.jW id c no f2.u.kind f2.s cl me with
     |bad x y=>rw[hr]at hx;obtain⟨_,_,h,_⟩:=hx;cases h
     |ok n' er=>
      rw[hr]at hx;obtain⟨A',H',b,f',hv,Dd,a6⟩:=hx;obtain⟨sY,pX⟩:=a6.rf
      have hR:iw A X n bf f (.ok ((n.eS id c f.u).get n).1 ((n.eS id c f.u).get n).2) (.returned (er.v b)) (dv.set b4 (.cells [er.v b].toArray 45 (0,0))):=by rw[he,nW,hr];exact⟨A',H',b,f',rfl,Dd,a6.BH _⟩
      have gY:iQ prog 45 ⟨b4,0,none⟩ (dv.set b4 (.cells [er.v b].toArray 45 (0,0)))=some (er.v b):=A9 aT
      cases hv
      cases er<;>simp only[go_sem,seval,Er.v,r4,sY]<;>exact al _ _ _ _ _ _ (nA (b:=b4) (by simp[up,r4]) ah gY) ao hR
    ·cases hr:n.jW id c no f2.u.kind f2.s cl me with
     |ok n' er=>rw[hr]at hx;obtain⟨_,_,_,_,h,_⟩:=hx;cases h
     |bad x y=>
      rw[hr]at hx;obtain⟨H',s,h,a6⟩:=hx
      cases h
      exact az _ _ _ _ (λc0 cs yO=>MK yO rfl rfl (by first|exact r4|(simp only[go_sem,seval,r4];done)|(simp[aA,up,r4];done)) (he.trans (nW.trans hr)) a6)
  have vB:∀{dv:Hp} {n':N},aq A H n' ((bf,bN f2)::(b4,.cells [.nilIface].toArray 45 (0,0))::(b3,.cells [pV bf].toArray 291 (0,0))::X) dv->n.gR id c f.u.channel f.u.kind f2.s cl me=.ok n' .nil->
   iw A X n bf f (.ok ((n.eS id c f.u).get n).1 ((n.eS id c f.u).get n).2) (.returned .nilIface) (dv.set b4 (.cells [.nilIface].toArray 45 (0,0))):=by
   intro dv n' a6 e;rw[he,e];exact⟨A,H,0,f2,rfl,.refl A,aq.BH (er:=.nil) (b:=0) a6 _⟩
  have gY:∀dv:Hp,iQ prog 45 ⟨b4,0,none⟩ (dv.set b4 (.cells [.nilIface].toArray 45 (0,0)))=some .nilIface:=λdv=>A9 aT;by_cases p4:c.r.ph=4
  rotate_left
  ·have nW:n.gR id c f.u.channel f.u.kind f2.s cl me=.ok n .nil:=by unfold N.gR;rw[if_neg pZ,if_neg p3,if_neg (λh=>p4 h.1)]
   simp only[go_sem,seval,r0,r4,kU,k4,p1,p2,p3,p4,decide_true,decide_false];exact al _ _ _ _ _ _ (nA (b:=b4) (by simp[up,r4]) ah (gY _)) ao (vB a5 nW)
  simp only[go_sem,seval,r0,r3,kU,k3,p1,p2,p3,eq_true p4,decide_true,decide_false];refineλb1 iN=>?_;refine ag ?_;have o1:=a5.fresh iN;generalize mM:Hp.set cU b1 _=dg;have a6:=dT (o1 _) mM;have jS:dg.f b1=some (.cells (([51]:List Int).map iV++[]).toArray 3 (0,0)):=by rw[<-mM];exact Hp.bD _ _
  obtain⟨sY,pX⟩:=aq.rf (er:=.nil) (b:=0) a6;have im:=a6.eC hc;have C1:=a6.eN;rw[hu]at C1;refine bz (uj (ms:=[51]) (pad:=[]) a6.ei jS ak) ?_;have i1:f2.kY 10 [51]=decide (f2.u.kind=1/\cl=10/\me=51):=DG CY Gi 10 51;rw[gW]at i1;by_cases q1:f.u.kind=1/\cl=10/\me=51
  ·rw[decide_eq_true q1]at i1;by_cases z:f.u.channel=0
   ·have nW:n.gR id c f.u.channel f.u.kind f2.s cl me=.ok (n.bC id λr=>{r with ph:=5}) .nil:=by unfold N.gR;rw[if_neg pZ,if_neg p3,if_pos ⟨p4,q1.1,q1.2.1,q1.2.2,z⟩]
    have a7:=a6.nD hc λr=>{r with ph:=5};simp only[go_sem,seval,r0,r3,r4,i1,C1,im,pX,eq_true z,decide_true];generalize hZ:Hp.set dg (A.conn id) _=pA;replace a7:=dT a7 hZ;obtain⟨k47,k37⟩:=aq.rf (er:=.nil) (b:=0) a7;refine aH k47 ?_;exact al _ _ _ _ _ _ (nA (b:=b4) (by simp[up,r4]) ah (gY _)) ao (vB a7 nW)
   ·have nW:n.gR id c f.u.channel f.u.kind f2.s cl me=.ok n .nil:=by unfold N.gR;rw[if_neg pZ,if_neg p3,if_neg (λh=>z h.2.2.2.2)]
    simp only[go_sem,seval,r3,r4,i1,C1,pX,sY,z,decide_true,decide_false];exact al _ _ _ _ _ _ (nA (b:=b4) (by simp[up,r4]) ah (gY _)) ao (vB a6 nW)
  ·rw[decide_eq_false q1]at i1;have nW:n.gR id c f.u.channel f.u.kind f2.s cl me=.ok n .nil:=by unfold N.gR;rw[if_neg pZ,if_neg p3,if_neg (λh=>q1 ⟨h.2.1,h.2.2.1,h.2.2.2.1⟩)]
   simp only[go_sem,seval,r4,i1,sY,decide_true];exact al _ _ _ _ _ _ (nA (b:=b4) (by simp[up,r4]) ah (gY _)) ao (vB a6 nW)
 refine fG λK2 pN=>?_;have J7:=a4.eN;obtain⟨k4,k3⟩:=aq.rf (er:=.nil) (b:=0) a4;by_cases kk:f.u.kind=1
 rotate_left
 ·simp only[go_sem,seval,k3,J7,kk,decide_false];refine pN _ _ _ (tail (f2:=f) (cl:=0) (me:=0) a4 rfl aK aN ji (by unfold N.eS;rw[if_neg kk,hs]) ?_ ?_ ?_)
  ·exact au
  ·exact au
  ·exact au
 by_cases l4:f.s.length<4
 ·have Lc:(f.s.length:Int)<4:=aa
  have he:n.eS id c f.u=.ok n (.cA 502 0 0):=by
   unfold N.eS;rw[if_pos kk,<-hs];by_cases l2:2<=f.s.length
   ·have e1:eP 2 f.s=some (num (f.s.take 2),f.s.drop 2):=by unfold eP;rw[if_pos l2]
    have e2:eP 2 (f.s.drop 2)=none:=by unfold eP;rw[if_neg (by rw[List.length_drop];omega)]
    rw[e1];simp only;rw[e2]
   ·have e1:eP 2 f.s=none:=by unfold eP;rw[if_neg l2]
    rw[e1]
  simp only[go_sem,seval,k3,J7,eq_true kk,Lc,decide_true];refine aJ (jL (e:=502) (cl:=0) (me:=0) a4 aK aN) ?_;rintro v dv ⟨b,hv,a5⟩
  cases hv
  obtain⟨sY,pX⟩:=a5.rf;simp only[go_sem,seval,Er.v,sY];refine al _ _ _ (.iface 214 (pV b)) _ _ (nA (b:=b4) (by simp[up]) ah (A9 aT)) ao ?_;rw[he];exact⟨A,H,b,_,rfl,.refl A,a5.BH _⟩
 have Lc:¬(f.s.length:Int)<4:=aa;simp only[go_sem,seval,k3,J7,eq_true kk,Lc,decide_true,decide_false];refine Al [0,1,2,3,4,6,7,8,5,9,10,11,12,13,14,15] ?_;refine aH k3 ?_;refine iG nS a4 (oo (w:=2) a4.eN rfl an) (λx1 s1 cU eX a5=>?_) (λhr s R a5=>by unfold eP at hr;rw[if_pos aa]at hr;cases hr);obtain⟨sY,pX⟩:=aq.rf (er:=.nil) (b:=0) a5;refine⟨dL pX,?_⟩;refine ag ?_
 have ls1:s1.length=f.s.length-2:=by unfold eP at eX;rw[if_pos aa]at eX;simp only[Option.some.injEq,Prod.mk.injEq]at eX;rw[<-eX.2,List.length_drop]
 refine iG nS a5 (oo (w:=2) a5.eN rfl an) (λx2 s2 dv bX a6=>?_) (λhr s R a5=>by unfold eP at hr;simp only at hr;rw[if_pos aa]at hr;cases hr);simp only at bX;obtain⟨asx,ahY⟩:=aq.rf (er:=.nil) (b:=0) a6
 have ls2:s2.length=s1.length-2:=by unfold eP at bX;rw[if_pos aa]at bX;simp only[Option.some.injEq,Prod.mk.injEq]at bX;rw[<-bX.2,List.length_drop]
 have C1:=a6.eN;refine⟨dL ahY,?_⟩;refine aH C1 ?_;have g3:=λo=>(aq.rf (er:=.nil) (b:=0) (a6.uL o)).2;refine Lb g3 ?_;refine Lb g3 ?_;have a7:=a6.uL (bN {f with s:=s2,cl:=(x1:Int),me:=(x2:Int)});generalize hZ:Hp.set dv bf _=pA;replace a7:=dT a7 hZ
 have he:n.eS id c f.u=n.gR id c f.u.channel f.u.kind s2 x1 x2:=by unfold N.eS;rw[if_pos kk,<-hs,eX];simp only;rw[bX,kk]
 refine pN _ _ _ (tail (f2:={f with s:=s2,cl:=(x1:Int),me:=(x2:Int)}) (cl:=x1) (me:=x2) a7 rfl rfl rfl (by show s2.length<=_;omega) he ?_ ?_ ?_)
 ·exact au
 ·exact au
 ·exact au
end
section
variable {E:Env prog}{U:Hp}{H:Hid}{n:N}{X:Ext}{c:CN}{f:FR}{r:HR}
variable {A:Lay}{id:Int}
structure Ng (g:jZ):Prop where
 jc:0<=g.jc/\g.jc<65536
 frame:0<=g.frame/\g.frame<100000
 gh:0<=g.gh/\g.gh<65536
def aab (hc:n.ar id=some c):∃c1,(n.leave id).ar id=some c1/\c1.r=c.r:=by
 have e:n.leave id=(n.gM id c.ch).dn id λc=>{c with ch:=[]}:=by unfold N.leave;rw[hc];rfl
 obtain⟨c1,cG,ec⟩:=Bt (Es.trans (Br hc):(n.gM id c.ch).rC id=some c.r);exact⟨{c1 with ch:=[]},by rw[e];simp[cG],ec⟩
def aaa {e cl me:Nat}(hc:n.ar id=some c):∃c1,(n.cA id e cl me).ar id=some c1:=by obtain⟨c1,h1,_⟩:=aab hc;unfold N.cA;rw[sw,if_pos rfl];simp[h1]
def apW {u:Un}(a:aq A H n X U)(hc:n.ar id=some c)(G:Ng n.cfg)(fK:c.r.out.length<=100000000000000)(L:zV n id c)
 (Cs:u.jf=false->u.fB=false->u.kind≠8->aw E 107 #[pV (A.conn id),uV u] U λe R=>e=.returned (.tuple #[])/\∃A',qi A A'/\At A' (n.ju id u) X R):
 aw E 59 #[pV (A.conn id),uV u] U λe R=>e=.returned (.tuple #[])/\∃A',qi A A'/\At A' (n.unit id u) X R:=by
 cases pR:u.jf with
 |true=>
  cases hw:u.fB with
  |true=>
   have e:n.unit id u=(n.send id pK).bC id λr=>{r with ph:=5}:=by unfold N.unit;rw[pR,hw];rfl
   refine aX func59 ntmps59 results59 λQ aB al az=>?_;simp only[go_sem,seval,uV];refineλb3 gS=>?_;have a1:=λo=>a.fresh gS o;refine bq pR hw ?_;refine aJ (Mh (s:=pK) (a1 _) hc (by simp[pK];omega)) ?_;rintro v cU ⟨hv,a2⟩
   cases hv
   have dU:(n.send id pK).ar id=some {c with r:={c.r with out:=c.r.out++pK,ib:=n.clock}}:=by rw[sw,if_pos rfl,hc];rfl
   have a3:=a2.nD dU λr=>{r with ph:=5};refine aH (a2.eC dU) ?_;refine aB dB ao ⟨rfl,A,.refl A,H,?_⟩;rw[e];exact dT a3 rfl
  |false=>
   have e:n.unit id u=(n.bC id λr=>{r with ph:=1}).send id (cg 0 10 30 [.short n.cfg.jc.toNat,.long n.cfg.frame.toNat,.short n.cfg.gh.toNat]):=by unfold N.unit;rw[pR,hw];rfl
   obtain⟨g1,g2⟩:=G.jc;obtain⟨g3,g4⟩:=G.frame;obtain⟨g5,g6⟩:=G.gh;refine(apV (k1:=n.cfg.jc.toNat) (k2:=n.cfg.frame.toNat) (k3:=n.cfg.gh.toNat) pR hw a.gw (a.conn hc) aa aa aa aa aa aa fK).mono ?_;rintro e' R ⟨rfl,rfl⟩;refine⟨rfl,A,.refl A,H,?_⟩;rw[e];have a1:=a.nD hc λr=>{r with ph:=1,out:=r.out++cg 0 10 30 [.short n.cfg.jc.toNat,.long n.cfg.frame.toNat,.short n.cfg.gh.toNat],ib:=n.clock}
   have e2:(n.bC id λr=>{r with ph:=1}).send id (cg 0 10 30 [.short n.cfg.jc.toNat,.long n.cfg.frame.toNat,.short n.cfg.gh.toNat])=n.bC id λr=>{r with ph:=1,out:=r.out++cg 0 10 30 [.short n.cfg.jc.toNat,.long n.cfg.frame.toNat,.short n.cfg.gh.toNat],ib:=n.clock}:=by simp only[N.send,N.bC,MR];rfl
   rw[e2];exact a1
 |false=>
  cases hw:u.fB with
  |true=>
   have e:n.unit id u=(if n.ph id=4 then n else n.cA id 501 0 0).bC id λr=>{r with ph:=5}:=by unfold N.unit;rw[pR,hw];rfl
   have Pm:n.ph id=c.r.ph:=by unfold N.ph;rw[hc];rfl
   refine aX func59 ntmps59 results59 λQ aB al az=>?_;simp only[go_sem,seval,uV];refineλb3 gS=>?_;refine ag ?_;have o1:=a.fresh gS;generalize hZ:Hp.set U b3 _=fP;have hb:fP.f b3=some (.cells [iV u.kind,iV u.channel,sV u.gL,.bool u.jf,.bool u.fB].toArray 135 (0,0)):=by rw[<-hZ];exact Hp.bD _ _
   have a1:=dT (o1 _) hZ;have cG:=a1.eC hc;by_cases p4:c.r.ph=4
   ·simp only[go_sem,seval,pR,hw,hb,cG,eq_true p4,decide_true];have a3:=a1.nD hc λr=>{r with ph:=5};refine aB dB ao ⟨rfl,A,.refl A,H,?_⟩;rw[e,Pm,if_pos p4];exact dT a3 rfl
   ·refine ln pR hw hb cG p4 ?_;refineλbb eU=>?_;have a2:=λo=>a1.iE eU o;refine ag ?_;refine aJ (QC (e:=501) (cl:=0) (me:=0) (a2 (tG 501 0 0)) (List.mem_cons_self ..) hc L an fK) ?_;rintro v cU ⟨hv,H2,a3⟩
    cases hv
    obtain⟨c2,dU⟩:=aaa (e:=501) (cl:=0) (me:=0) hc;have a4:=a3.nD dU λr=>{r with ph:=5};refine aH (a3.eC dU) ?_;refine aB dB ao ⟨rfl,A,.refl A,H2,?_⟩;rw[e,Pm,if_neg p4];exact aq.oL (dT a4 rfl)
  |false=>
   by_cases k8:u.kind=8
   ·have e:n.unit id u=n:=by unfold N.unit;rw[pR,hw];simp[k8]
    refine(apT pR hw k8).mono ?_;rintro e' R ⟨rfl,rfl⟩;rw[e];exact⟨rfl,A,.refl A,H,a⟩
   ·have e:n.unit id u=n.ju id u:=by unfold N.unit;rw[pR,hw];simp[k8]
    rw[e];exact apU pR hw k8 (Cs pR hw k8)
end
section
open Go.Extern
variable {f:FR}{Q:Value->Hp->Prop}{H:Halt->Hp->Prop}{t:Nat}
def N6:wpS prog (ReflectliteValue.unpack (.iface 297 (pV t))) Q H U=∀b,U.f b=none->Q (.agg #[hT 297,pV b,.int .u64 150]) (U.set b (.cells #[pV t] 297)):=ah
def Xi:wpS prog (ReflectliteValue.unpack (.iface 298 (pV t))) Q H U=∀b,U.f b=none->Q (.agg #[hT 298,pV b,.int .u64 150]) (U.set b (.cells #[pV t] 298)):=ah
def Xh:wpS prog (ReflectliteValue.unpack (.iface 296 (.agg #[pV t]))) Q H U=∀b,U.f b=none->Q (.agg #[hT 296,pV b,.int .u64 153]) (U.set b (.cells #[pV t] 296)):=ah
def Xg:wpS prog (ReflectliteValue.unpack (.iface 214 (pV t))) Q H U=∀b,U.f b=none->Q (.agg #[hT 214,pV b,.int .u64 150]) (U.set b (.cells #[pV t] 214)):=ah
variable {a:Nat}
def NZ:wpS prog (ReflectliteValue.methodAny (ReflectliteValue.valueError "reflectlite.Value.Type" 0) (λt _ _ _=>ReflectliteType.toType t) #[.agg #[hT 297,pV a,.int .u64 150]]) Q H U=Q (rT 297) U:=ah
def Xb:wpS prog (ReflectliteValue.methodAny (ReflectliteValue.valueError "reflectlite.Value.Type" 0) (λt _ _ _=>ReflectliteType.toType t) #[.agg #[hT 298,pV a,.int .u64 150]]) Q H U=Q (rT 298) U:=ah
def NV:wpS prog (ReflectliteType.abiMethod (λt=>(λa:Nat=>Value.int IntKind.u8 (a:Int))<$>Rtype.kind t) #[hT 297]) Q H U=Q (.int .u8 22) U:=ah
def WT:wpS prog (ReflectliteType.abiMethod (λt=>(λa:Nat=>Value.int IntKind.u8 (a:Int))<$>Rtype.kind t) #[hT 298]) Q H U=Q (.int .u8 22) U:=ah
def NU:wpS prog (ReflectliteType.abiMethod (λt=>(λa:Nat=>Value.int IntKind.u8 (a:Int))<$>Rtype.kind t) #[hT 296]) Q H U=Q (.int .u8 25) U:=ah
def WS:wpS prog (ReflectliteType.abiMethod (λt=>(λa:Nat=>Value.int IntKind.u8 (a:Int))<$>Rtype.kind t) #[hT 214]) Q H U=Q (.int .u8 22) U:=ah
def NR:wpS prog (ReflectliteType.method ReflectliteType.elem #[.agg #[hT 297]]) Q H U=Q (rT 296) U:=ah
def WD:wpS prog (ReflectliteType.method ReflectliteType.elem #[.agg #[hT 298]]) Q H U=Q (rT 214) U:=ah
def NS:wpS prog (ReflectliteType.relation "Implements" ReflectliteType.implements_ #[.agg #[hT 296],rT 45]) Q H U=Q (.bool true) U:=ah
def WN:wpS prog (ReflectliteType.relation "Implements" ReflectliteType.implements_ #[.agg #[hT 214],rT 45]) Q H U=Q (.bool true) U:=ah
variable {v:Value}
def Xe:wpS prog (ReflectliteType.typeOf #[.iface 296 v]) Q H U=Q (rT 296) U:=ah
def N0:wpS prog (ReflectliteType.typeOf #[.iface 214 v]) Q H U=Q (rT 214) U:=ah
def Wy:wpS prog (ReflectliteType.relation "AssignableTo" ReflectliteType.assignableTo #[.agg #[hT 296],rT 296]) Q H U=Q (.bool true) U:=ah
def Wv:wpS prog (ReflectliteType.relation "AssignableTo" ReflectliteType.assignableTo #[.agg #[hT 214],rT 214]) Q H U=Q (.bool true) U:=ah
def Ww:wpS prog (ReflectliteType.relation "AssignableTo" ReflectliteType.assignableTo #[.agg #[hT 214],rT 296]) Q H U=Q (.bool false) U:=ah
variable {QP:Option (TypeId×Addr×Nat)->Hp->Prop}
def NW:wpS prog (ReflectliteValue.parts (.agg #[hT 297,pV a,.int .u64 150])) QP H U=QP (some (297,⟨a,0,none⟩,150)) U:=ah
def NX:wpS prog (ReflectliteValue.parts (.agg #[hT 298,pV a,.int .u64 150])) QP H U=QP (some (298,⟨a,0,none⟩,150)) U:=ah
def W5:wpS prog (ReflectliteValue.parts (.agg #[hT 296,pV a,.int .u64 409])) QP H U=QP (some (296,⟨a,0,none⟩,409)) U:=ah
def W3:wpS prog (ReflectliteValue.parts (.agg #[hT 214,pV a,.int .u64 406])) QP H U=QP (some (214,⟨a,0,none⟩,406)) U:=ah
def W4:wpS prog (ReflectliteValue.parts (.agg #[hT 296,pV a,.int .u64 153])) QP H U=QP (some (296,⟨a,0,none⟩,153)) U:=ah
def W2:wpS prog (ReflectliteValue.parts (.agg #[hT 214,pV a,.int .u64 150])) QP H U=QP (some (214,⟨a,0,none⟩,150)) U:=ah
variable {QE:Option TypeId->Hp->Prop}
def WG:wpS prog (Rtype.elem? 297) QE H U=QE (some 296) U:=ah
def WH:wpS prog (Rtype.elem? 298) QE H U=QE (some 214) U:=ah
def W0{p:Nat}:wpS prog (ReflectliteValue.mk 296 ⟨p,0,none⟩ ReflectliteValue.flagAddr) Q H U=Q (.agg #[hT 296,pV p,.int .u64 409]) U:=ah
def WZ{p:Nat}:wpS prog (ReflectliteValue.mk 214 ⟨p,0,none⟩ ReflectliteValue.flagAddr) Q H U=Q (.agg #[hT 214,pV p,.int .u64 406]) U:=ah
def WB{QD:Bool->Hp->Prop}:wpS prog (Rtype.directlyAssignable 296 296) QD H U=QD true U:=ah
def WA{QD:Bool->Hp->Prop}:wpS prog (Rtype.directlyAssignable 214 214) QD H U=QD true U:=ah
variable {e:TypeId}
def NT(ha:U.f a=some (.cells #[pV t] e (0,0)))(h:Q (.bool false) U):wpS prog (ReflectliteValue.method (ReflectliteValue.valueError "reflectlite.Value.IsNil" 0) ReflectliteValue.isNil #[.agg #[hT 297,pV a,.int .u64 150]]) Q H U:=by rw[Ac,aF,NW];show wpS prog (ReflectliteValue.isNil 297 ⟨a,0,none⟩ 150 22) Q H U;unfold ReflectliteValue.isNil;rw[if_neg an,aF];refine rO (P:=prog) (t:=297) (a:=⟨a,0,none⟩) (U:=U) ah (qN (wP ah ha) ?_);exact h
def WK(ha:U.f a=some (.cells #[pV t] e (0,0)))(h:Q (.agg #[hT 296,pV t,.int .u64 409]) U):wpS prog (ReflectliteValue.method (ReflectliteValue.valueError "reflectlite.Value.Elem" 0) ReflectliteValue.elem #[.agg #[hT 297,pV a,.int .u64 150]]) Q H U:=by rw[Ac,aF,NW];show wpS prog (ReflectliteValue.elem 297 ⟨a,0,none⟩ 150 22) Q H U;unfold ReflectliteValue.elem;rw[if_neg an];rw[aF];refine rO (P:=prog) (t:=297) (a:=⟨a,0,none⟩) (U:=U) ah (qN (wP ah ha) ?_);rw[aF,WG];exact W0▸h
def WQ(ha:U.f a=some (.cells #[pV t] e (0,0)))(h:Q (.bool false) U):wpS prog (ReflectliteValue.method (ReflectliteValue.valueError "reflectlite.Value.IsNil" 0) ReflectliteValue.isNil #[.agg #[hT 298,pV a,.int .u64 150]]) Q H U:=by rw[Ac,aF,NX];show wpS prog (ReflectliteValue.isNil 298 ⟨a,0,none⟩ 150 22) Q H U;unfold ReflectliteValue.isNil;rw[if_neg an,aF];refine rO (P:=prog) (t:=298) (a:=⟨a,0,none⟩) (U:=U) ah (qN (wP ah ha) ?_);exact h
def WL(ha:U.f a=some (.cells #[pV t] e (0,0)))(h:Q (.agg #[hT 214,pV t,.int .u64 406]) U):wpS prog (ReflectliteValue.method (ReflectliteValue.valueError "reflectlite.Value.Elem" 0) ReflectliteValue.elem #[.agg #[hT 298,pV a,.int .u64 150]]) Q H U:=by rw[Ac,aF,NX];show wpS prog (ReflectliteValue.elem 298 ⟨a,0,none⟩ 150 22) Q H U;unfold ReflectliteValue.elem;rw[if_neg an];rw[aF];refine rO (P:=prog) (t:=298) (a:=⟨a,0,none⟩) (U:=U) ah (qN (wP ah ha) ?_);rw[aF,WH];exact WZ▸h
variable {b i:Nat}{old:Value}{e1:TypeId}
def W8(hb:U.f b=some (.cells #[pV i] e1 (0,0)))(ht:U.f t=some (.cells [old].toArray 214 (0,0)))(h:Q (.tuple #[]) (U.set t (.cells [pV i].toArray 214 (0,0)))):
 wpS prog (ReflectliteValue.set #[.agg #[hT 214,pV t,.int .u64 406],.agg #[hT 214,pV b,.int .u64 150]]) Q H U:=by
 rw[Ix,aF,W3,aF,W2];simp only[];rw[if_neg an,aF];refine rO (P:=prog) (t:=214) (a:=⟨b,0,none⟩) (U:=U) ah (qN (wP ah hb) ?_);rw[aF,WA];simp only[if_true,aF];refine Hs ah ?_;unfold tp;simp only[ht];refine⟨trivial,ak,trivial,ah,?_⟩;exact h
def Ws(hb:U.f b=some (.cells #[pV t] 298 (0,0)))(ht:U.f t=some (.cells [old].toArray 214 (0,0))):
 aw E 64 #[.iface 214 (pV i),.iface 298 (pV t),.agg #[hT 298,pV b,.int .u64 150],rT 214] U λe R=>e=.returned (.bool true)/\R=U.set t (.cells [pV i].toArray 214 (0,0)):=by
 refine eY func64 ntmps64 results64 rfl ak λQ aB al az=>?_;refine ag ?_;refineλb6 nV=>?_;have n6:∀{x o},U.f x=some o->¬x=b6:=λh e=>by subst e;rw[nV]at h;cases h
 refine ag ?_;refine cZ (λm I ds ae=>ds=[]/\I 0=.iface 214 (pV i)/\I 3=rT 214/\I 6=pV b6/\ae=U.set b6 (.cells [hT 298,pV b,.int .u64 150].toArray 140 (0,0))) 0 ?_ ?_
 ·refine⟨rfl,?_,?_,?_,rfl⟩<;>exact au
 ·rintro m I ds ae X ⟨rfl,h0,h3,h6,rfl⟩ hX;refine aH h0 ?_;refine dH func113 rfl ah ah ES ?_;rw[N0];refine aH h3 ?_;refine jy (t:=222) (v:=.agg #[hT 214]) (recv:=.agg #[hT 214]) (f:=333) (name:= "AssignableTo") ?_ (λQ H h=>by rw[B2];exact h) ?_
  ·exact au
  refine ag ?_;refine dH func333 rfl ah ah ET ?_;rw[Wv];have l6:∀o,(U.set b6 o).f b6=some o:=λ_=>Hp.bD _ _;refine bq h6 l6 ?_;refine dH func114 rfl ah ah M6 ?_;refine WL (a:=b) (t:=t) (e:=298) ((Hp.ay (n6 hb)).trans hb) ?_;refine aH h0 ?_;refine dH func61 rfl ah ah zM ?_;show wpS prog (ReflectliteValue.unpack (.iface 214 (pV i))) _ _ _;rw[Xg];intro b9 mN
  have n9:∀{x:Nat} {o:Obj},U.f x=some o->¬x=b9:=by intro x o h e;subst e;have h1:(U.set b6 (.cells [hT 298,pV b,.int .u64 150].toArray 140 (0,0))).f x=some o:=(Hp.ay (n6 h)).trans h;have h2:(U.set b6 (.cells [hT 298,pV b,.int .u64 150].toArray 140 (0,0))).f x=none:=mN;rw[h1]at h2;cases h2
  refine ag ?_;refine dH func115 rfl ah ah M7 ?_;refine W8 (t:=t) (b:=b9) (i:=i) (old:=old) (e1:=214) aT ((Hp.ay (n9 ht)).trans ((Hp.ay (n6 ht)).trans ht)) ?_;refine ag ?_;refine al (R:=(U.set t (.cells [pV i].toArray 214 (0,0)))) aG ?_ ⟨by simp[up],rfl⟩;exact gG (λx p h=>(Hp.ay (n9 h)).trans ((Hp.ay (n6 h)).trans h)) _ _
variable {et:TypeId}
def Wo(h0:U.f 0=some (.cells #[rT 45] et (0,0)))(ht:U.f t=some (.cells [old].toArray 214 (0,0))):
 aw E 41 #[.iface 214 (pV i),.iface 298 (pV t)] U λe R=>e=.returned (.bool true)/\R=U.set t (.cells [pV i].toArray 214 (0,0)):=by
 refine eY func41 ntmps41 results41 rfl ak λQ aB al az=>?_;refine ag ?_;refine dH func61 rfl ah ah zM ?_;show wpS prog (ReflectliteValue.unpack (.iface 298 (pV t))) _ _ _;rw[Xi];intro b hb;have nb:∀{x o},U.f x=some o->¬x=b:=λh e=>by subst e;rw[hb]at h;cases h
 refine ag ?_;refineλb5 jO=>?_;have s8:¬b5=b:=bh jO aT;rw[Hp.ay s8]at jO
 have n5:∀{x:Nat} {o:Obj},U.f x=some o->¬x=b5:=by intro x o h e;subst e;rw[jO]at h;cases h
 have l5:∀(H:Hp) (o:Obj),(H.set b5 o).f b5=some o:=λ_ _=>Hp.bD _ _;have lb:∀o o',((U.set b o).set b5 o').f b=some o:=λo o'=>(Hp.ay (λe=>s8 e.symm)).trans aT;have lo:∀{x:Nat} {p:Obj} o o',U.f x=some p->((U.set b o).set b5 o').f x=some p:=λo o' h=>(Hp.ay (n5 h)).trans ((Hp.ay (nb h)).trans h);refine aH l5 ?_;refine dH func62 rfl ah ah HS ?_;rw[Xb];refine ag ?_;refine jy (t:=222) (v:=.agg #[hT 298]) (recv:=hT 298) (f:=319) (name:= "Kind") ?_ (λQ H h=>by rw[wQ];exact h) ?_
 ·exact au
 refine ag ?_;refine dH func319 rfl ah ah xZ ?_;show wpS prog (ReflectliteType.abiMethod (λt=>(λa:Nat=>Value.int IntKind.u8 (a:Int))<$>Rtype.kind t) #[hT 298]) _ _ _;rw[WT];refine aH l5 ?_;rw[Hp.set_set];refine dH func63 rfl ah ah HT ?_;refine WQ (a:=b) (t:=t) (e:=298) (lb _ _) ?_;refine ag ?_;refine jy (t:=222) (v:=.agg #[hT 298]) (recv:=.agg #[hT 298]) (f:=335) (name:= "Elem") ?_ (λQ H h=>by rw[Fi];exact h) ?_
 ·exact au
 refine ag ?_;refine dH func335 rfl ah ah HP ?_;rw[WD];refine ag ?_;refine jy (t:=222) (v:=.agg #[hT 214]) (recv:=hT 214) (f:=319) (name:= "Kind") ?_ (λQ H h=>by rw[wQ];exact h) ?_
 ·exact au
 refine ag ?_;refine dH func319 rfl ah ah xZ ?_;show wpS prog (ReflectliteType.abiMethod (λt=>(λa:Nat=>Value.int IntKind.u8 (a:Int))<$>Rtype.kind t) #[hT 214]) _ _ _;rw[WS];have l0:∀o o',((U.set b o).set b5 o').f 0=some (.cells #[rT 45] et (0,0)):=λo o'=>lo o o' h0;refine aH l0 ?_;refine jy (t:=222) (v:=.agg #[hT 214]) (recv:=.agg #[hT 214]) (f:=336) (name:= "Implements") ?_ (λQ H h=>by rw[Fj];exact h) ?_
 ·exact au
 refine ag ?_;refine dH func336 rfl ah ah HQ ?_;rw[WN];refine aH l5 ?_;refine bz (Ws (b:=b) (lb _ _) (lo _ _ ht)) ?_;refine ag ?_;refine al (R:=(U.set t (.cells [pV i].toArray 214 (0,0)))) aG ?_ ⟨by simp[up],rfl⟩;exact gG (λx p h=>lo _ _ h) _ _
def WX(ha:U.f a=some (.cells #[v] e (0,0))):iQ prog 296 ⟨a,0,none⟩ U=some (.agg #[v]):=by have hg:dD prog 296=true:=ah;have hs:cC prog 296=1:=ah;unfold iQ;rw[if_pos hg];simp[cellsOf,ha,hs]
def W9(hb:U.f b=some (.cells #[pV i] e1 (0,0)))(ht:U.f t=some (.cells [old].toArray 296 (0,0)))(h:Q (.tuple #[]) (U.set t (.cells [pV i].toArray 296 (0,0)))):
 wpS prog (ReflectliteValue.set #[.agg #[hT 296,pV t,.int .u64 409],.agg #[hT 296,pV b,.int .u64 153]]) Q H U:=by
 rw[Ix,aF,W5,aF,W4];simp only[];rw[if_neg an,aF];refine rO (P:=prog) (t:=296) (a:=⟨b,0,none⟩) (U:=U) ah (qN (WX hb) ?_);rw[aF,WB];simp only[if_true,aF];refine Hs ah ?_;unfold tp;have e:(Value.agg #[pV i]).cells= #[pV i]:=by first|rfl|decide|simp[Value.cells]
 simp only[ht,e];refine⟨trivial,ak,trivial,ah,?_⟩;refine⟨by simp[di],?_⟩;have e3: #[old].extract 0 0++ #[pV i]++ #[old].extract (0+ #[pV i].size)= #[pV i]:=ak;rw[e3];exact h
def Wu(hb:U.f b=some (.cells #[pV t] 297 (0,0)))(ht:U.f t=some (.cells [old].toArray 296 (0,0))):
 aw E 64 #[.iface 296 (.agg #[pV i]),.iface 297 (pV t),.agg #[hT 297,pV b,.int .u64 150],rT 296] U λe R=>e=.returned (.bool true)/\R=U.set t (.cells [pV i].toArray 296 (0,0)):=by
 refine eY func64 ntmps64 results64 rfl ak λQ aB al az=>?_;refine ag ?_;refineλb6 nV=>?_;have n6:∀{x o},U.f x=some o->¬x=b6:=λh e=>by subst e;rw[nV]at h;cases h
 refine ag ?_;refine cZ (λm I ds ae=>ds=[]/\I 0=.iface 296 (.agg #[pV i])/\I 3=rT 296/\I 6=pV b6/\ae=U.set b6 (.cells [hT 297,pV b,.int .u64 150].toArray 140 (0,0))) 0 ?_ ?_
 ·refine⟨rfl,?_,?_,?_,rfl⟩<;>exact au
 ·rintro m I ds ae X ⟨rfl,h0,h3,h6,rfl⟩ hX;refine aH h0 ?_;refine dH func113 rfl ah ah ES ?_;rw[Xe];refine aH h3 ?_;refine jy (t:=222) (v:=.agg #[hT 296]) (recv:=.agg #[hT 296]) (f:=333) (name:= "AssignableTo") ?_ (λQ H h=>by rw[B2];exact h) ?_
  ·exact au
  refine ag ?_;refine dH func333 rfl ah ah ET ?_;rw[Wy];have l6:∀o,(U.set b6 o).f b6=some o:=λ_=>Hp.bD _ _;refine bq h6 l6 ?_;refine dH func114 rfl ah ah M6 ?_;refine WK (a:=b) (t:=t) (e:=297) ((Hp.ay (n6 hb)).trans hb) ?_;refine aH h0 ?_;refine dH func61 rfl ah ah zM ?_;show wpS prog (ReflectliteValue.unpack (.iface 296 (.agg #[pV i]))) _ _ _;rw[Xh];intro b9 mN
  have n9:∀{x:Nat} {o:Obj},U.f x=some o->¬x=b9:=by intro x o h e;subst e;have h1:(U.set b6 (.cells [hT 297,pV b,.int .u64 150].toArray 140 (0,0))).f x=some o:=(Hp.ay (n6 h)).trans h;have h2:(U.set b6 (.cells [hT 297,pV b,.int .u64 150].toArray 140 (0,0))).f x=none:=mN;rw[h1]at h2;cases h2
  refine ag ?_;refine dH func115 rfl ah ah M7 ?_;refine W9 (t:=t) (b:=b9) (i:=i) (old:=old) (e1:=296) aT ((Hp.ay (n9 ht)).trans ((Hp.ay (n6 ht)).trans ht)) ?_;refine ag ?_;refine al (R:=(U.set t (.cells [pV i].toArray 296 (0,0)))) aG ?_ ⟨by simp[up],rfl⟩;exact gG (λx p h=>(Hp.ay (n9 h)).trans ((Hp.ay (n6 h)).trans h)) _ _
def Wq(h0:U.f 0=some (.cells #[rT 45] et (0,0)))(ht:U.f t=some (.cells [old].toArray 296 (0,0))):
 aw E 41 #[.iface 296 (.agg #[pV i]),.iface 297 (pV t)] U λe R=>e=.returned (.bool true)/\R=U.set t (.cells [pV i].toArray 296 (0,0)):=by
 refine eY func41 ntmps41 results41 rfl ak λQ aB al az=>?_;refine ag ?_;refine dH func61 rfl ah ah zM ?_;show wpS prog (ReflectliteValue.unpack (.iface 297 (pV t))) _ _ _;rw[N6];intro b hb;have nb:∀{x o},U.f x=some o->¬x=b:=λh e=>by subst e;rw[hb]at h;cases h
 refine ag ?_;refineλb5 jO=>?_;have s8:¬b5=b:=bh jO aT;rw[Hp.ay s8]at jO
 have n5:∀{x:Nat} {o:Obj},U.f x=some o->¬x=b5:=by intro x o h e;subst e;rw[jO]at h;cases h
 have l5:∀(H:Hp) (o:Obj),(H.set b5 o).f b5=some o:=λ_ _=>Hp.bD _ _;have lb:∀o o',((U.set b o).set b5 o').f b=some o:=λo o'=>(Hp.ay (λe=>s8 e.symm)).trans aT;have lo:∀{x:Nat} {p:Obj} o o',U.f x=some p->((U.set b o).set b5 o').f x=some p:=λo o' h=>(Hp.ay (n5 h)).trans ((Hp.ay (nb h)).trans h);refine aH l5 ?_;refine dH func62 rfl ah ah HS ?_;rw[NZ];refine ag ?_;refine jy (t:=222) (v:=.agg #[hT 297]) (recv:=hT 297) (f:=319) (name:= "Kind") ?_ (λQ H h=>by rw[wQ];exact h) ?_
 ·exact au
 refine ag ?_;refine dH func319 rfl ah ah xZ ?_;show wpS prog (ReflectliteType.abiMethod (λt=>(λa:Nat=>Value.int IntKind.u8 (a:Int))<$>Rtype.kind t) #[hT 297]) _ _ _;rw[NV];refine aH l5 ?_;rw[Hp.set_set];refine dH func63 rfl ah ah HT ?_;refine NT (a:=b) (t:=t) (e:=297) (lb _ _) ?_;refine ag ?_;refine jy (t:=222) (v:=.agg #[hT 297]) (recv:=.agg #[hT 297]) (f:=335) (name:= "Elem") ?_ (λQ H h=>by rw[Fi];exact h) ?_
 ·exact au
 refine ag ?_;refine dH func335 rfl ah ah HP ?_;rw[NR];refine ag ?_;refine jy (t:=222) (v:=.agg #[hT 296]) (recv:=hT 296) (f:=319) (name:= "Kind") ?_ (λQ H h=>by rw[wQ];exact h) ?_
 ·exact au
 refine ag ?_;refine dH func319 rfl ah ah xZ ?_;show wpS prog (ReflectliteType.abiMethod (λt=>(λa:Nat=>Value.int IntKind.u8 (a:Int))<$>Rtype.kind t) #[hT 296]) _ _ _;rw[NU];have l0:∀o o',((U.set b o).set b5 o').f 0=some (.cells #[rT 45] et (0,0)):=λo o'=>lo o o' h0;refine aH l0 ?_;refine jy (t:=222) (v:=.agg #[hT 296]) (recv:=.agg #[hT 296]) (f:=336) (name:= "Implements") ?_ (λQ H h=>by rw[Fj];exact h) ?_
 ·exact au
 refine ag ?_;refine dH func336 rfl ah ah HQ ?_;rw[NS];refine aH l5 ?_;refine bz (Wu (b:=b) (lb _ _) (lo _ _ ht)) ?_;refine ag ?_;refine al (R:=(U.set t (.cells [pV i].toArray 296 (0,0)))) aG ?_ ⟨by simp[up],rfl⟩;exact gG (λx p h=>lo _ _ h) _ _
variable {nm:String}{sg:TypeId}
def ajo{got:Array Method}(h:(got.any λm=>m.name==nm&&m.sig==sg)=false):∃m,Instr.missingMethod #[(nm,sg)] got=some m:=by
 unfold Instr.missingMethod;by_cases c:(Char.ofNat (nat_lit 46))∈nm.toList
 ·simp[h,List.partition,List.partition.loop,c,Instr.least]
 ·simp[h,List.partition,List.partition.loop,c,Instr.least]
def Hw{D T:TypeId}{atz IT:TypeInfo}(hu:prog.underlying T=some (.interface #[(nm,sg)]))(hi:prog.info? D=some atz)(hm:(atz.methods.any λm=>m.name==nm&&m.sig==sg)=false)(hT:prog.info? T=some IT)(hz:IT.zero=some .nilIface)(Q:Value->Hp->Prop)(H:Halt->Hp->Prop):wpS prog (Instr.typeAssert (.iface D v) 45 T true) Q H U=Q (.tuple #[.nilIface,.bool false]) U:=by
 obtain⟨m,rF⟩:=ajo hm;simp only[Instr.typeAssert,aF,eg,hu,fO,hi,rF,if_true,zeroValue,hT,hz,bl]
def apg(Q:Value->Hp->Prop)(H:Halt->Hp->Prop):wpS prog (Instr.typeAssert (.iface 214 (pV i)) 45 227 true) Q H U=Q (.tuple #[.nilIface,.bool false]) U:=
 Hw (nm:= "As") (sg:=229) (atz:=t214) (IT:=t227) ah ah kE ah ah Q H
def apf(Q:Value->Hp->Prop)(H:Halt->Hp->Prop):wpS prog (Instr.typeAssert (.iface 214 (pV i)) 45 230 true) Q H U=Q (.tuple #[.iface 214 (pV i),.bool true]) U:=ah
def apc{i:Int}(Q:Value->Hp->Prop)(H:Halt->Hp->Prop):wpS prog (Instr.typeAssert (.iface 215 (iV i)) 45 227 true) Q H U=Q (.tuple #[.nilIface,.bool false]) U:=
 Hw (nm:= "As") (sg:=229) (atz:=t215) (IT:=t227) ah ah kE ah ah Q H
def apd{i:Int}(Q:Value->Hp->Prop)(H:Halt->Hp->Prop):wpS prog (Instr.typeAssert (.iface 215 (iV i)) 45 230 true) Q H U=Q (.tuple #[.nilIface,.bool false]) U:=
 Hw (nm:= "Unwrap") (sg:=231) (atz:=t215) (IT:=t230) ah ah kE ah ah Q H
def ape{i:Int}(Q:Value->Hp->Prop)(H:Halt->Hp->Prop):wpS prog (Instr.typeAssert (.iface 215 (iV i)) 45 232 true) Q H U=Q (.tuple #[.nilIface,.bool false]) U:=
 Hw (nm:= "Unwrap") (sg:=234) (atz:=t215) (IT:=t232) ah ah kE ah ah Q H
def MF{D T:TypeId}{l:Array (String×TypeId)}(hu:prog.underlying T=some (.interface l)):lv prog T (.iface D v)=none:=by simp only[lv,hu]
def UN{D:TypeId}:lv prog 227 (.iface D v)=none:=MF (l:=#[("As",229)]) ah
def UO{D:TypeId}:lv prog 230 (.iface D v)=none:=MF (l:=#[("Unwrap",231)]) ah
def aph{D:TypeId}:lv prog 232 (.iface D v)=none:=MF (l:=#[("Unwrap",234)]) ah
def Xd:wpS prog (ReflectliteType.typeOf #[.iface 215 v]) Q H U=Q (rT 215) U:=ah
def Wx:wpS prog (ReflectliteType.relation "AssignableTo" ReflectliteType.assignableTo #[.agg #[hT 215],rT 296]) Q H U=Q (.bool false) U:=ah
def WY{QM:FuncId×Value->Hp->Prop}:wpS prog (method (prog.types.size+Made.depth) 214 (pV i) "Unwrap") QM H U=QM (330,pV i) U:=ah
variable {H:Hid}{I:av}{ds:List Deferred}{dst:Option Tmp}{ty:TypeId}{pos:String}{af:Array Edge}{g:Option (Nat×Bool)}{nx:av->List Deferred->Hp->Prop}{pn:List PanicEntry->Hp->Prop}
def EI{x:Operand}{t a D:TypeId}{r:Value}{k:Value->Prop}{o:Option Value}(ho:o=none)(hk:∀(Q:Value->Hp->Prop) (H:Halt->Hp->Prop),wpS prog (Instr.typeAssert (.iface D v) t a true) Q H U=Q r U)(hx:ai I x=.iface D v)(h:nx (aA I dst r) ds U):lh (wpOp E ⟨dst,.typeAssert x t a true,ty,pos,af,g⟩ I ds U nx pn) k o:=by
 subst ho;show wpOp E ⟨dst,.typeAssert x t a true,ty,pos,af,g⟩ I ds U nx pn;unfold wpOp;simp only[execOp,lE,hx];rw[hk];exact h
variable {e:Int}{x y:Value}
def apY(hi:U.f i=some (.cells [iV e,x,y].toArray 217 (0,0))):aw E 330 #[pV i] U λe' R=>e'=.returned (.iface 215 (iV e))/\R=U:=by refine aX func330 ntmps330 results330 λQ aB al az=>?_;refine aH hi ?_;exact al aG ao ⟨by simp[up],rfl⟩
def Wt(hi:U.f i=some (.cells [iV e,x,y].toArray 217 (0,0))):
 aw E 64 #[.iface 214 (pV i),.iface 297 (pV t),.agg #[hT 297,pV b,.int .u64 150],rT 296] U λe R=>e=.returned (.bool false)/\R=U:=by
 refine eY func64 ntmps64 results64 rfl ak λQ aB al az=>?_;refine ag ?_;refineλb6 nV=>?_;have n6:∀{x o},U.f x=some o->¬x=b6:=λh e=>by subst e;rw[nV]at h;cases h
 refine ag ?_;refine cZ (λm I ds ae=>ds=[]/\I 3=rT 296/\I 6=pV b6/\ae=U.set b6 (.cells [hT 297,pV b,.int .u64 150].toArray 140 (0,0))/\((m=1/\I 0=.iface 214 (pV i))\/(m=0/\I 0=.iface 215 (iV e)))) 1 ?_ ?_
 ·refine⟨rfl,?_,?_,rfl,.inl ⟨rfl,?_⟩⟩<;>exact au
 ·rintro m I ds ae X ⟨rfl,h3,h6,rfl,hm⟩ hX;rcases hm with⟨rfl,h0⟩|⟨rfl,h0⟩
  ·refine aH h0 ?_;refine dH func113 rfl ah ah ES ?_;rw[N0];refine aH h3 ?_;refine jy (t:=222) (v:=.agg #[hT 214]) (recv:=.agg #[hT 214]) (f:=333) (name:= "AssignableTo") ?_ (λQ H h=>by rw[B2];exact h) ?_
   ·exact au
   refine ag ?_;refine dH func333 rfl ah ah ET ?_;rw[Ww];refine aH h0 ?_;refine EI UN (apg (i:=i)) au ?_;refine aH h0 ?_;refine EI UO (apf (i:=i)) au ?_;refine ag ?_;refine jy (t:=214) (v:=pV i) (recv:=pV i) (f:=330) (name:= "Unwrap") ?_ (λQ H h=>by rw[WY];exact h) ?_
   ·exact au
   refine ag ?_;refine bz (apY (e:=e) (x:=x) (y:=y) ((Hp.ay (n6 hi)).trans hi)) ?_;refine ag ?_;refine hX 0 _ _ _ _ aa ⟨rfl,?_,?_,rfl,.inr ⟨rfl,?_⟩⟩ ao
   ·exact aP h3
   ·exact aP h6
   ·exact au
  ·refine aH h0 ?_;refine dH func113 rfl ah ah ES ?_;rw[Xd];refine aH h3 ?_;refine jy (t:=222) (v:=.agg #[hT 215]) (recv:=.agg #[hT 215]) (f:=333) (name:= "AssignableTo") ?_ (λQ H h=>by rw[B2];exact h) ?_
   ·exact au
   refine ag ?_;refine dH func333 rfl ah ah ET ?_;rw[Wx];refine aH h0 ?_;refine EI UN (apc (i:=e)) au ?_;refine aH h0 ?_;refine EI UO (apd (i:=e)) au ?_;refine ag ?_;refine EI aph (ape (i:=e)) au ?_;refine ag ?_;refine al (R:=U) aG ?_ ⟨?_,rfl⟩
   ·first|exact kz nV|(rw[Hp.set_set];exact kz nV)
   ·simp[up]
def Wp(hi:U.f i=some (.cells [iV e,x,y].toArray 217 (0,0)))(h0:U.f 0=some (.cells #[rT 45] et (0,0)))(ht:U.f t=some (.cells [old].toArray 296 (0,0))):
 aw E 41 #[.iface 214 (pV i),.iface 297 (pV t)] U λe R=>e=.returned (.bool false)/\R=U:=by
 refine eY func41 ntmps41 results41 rfl ak λQ aB al az=>?_;refine ag ?_;refine dH func61 rfl ah ah zM ?_;show wpS prog (ReflectliteValue.unpack (.iface 297 (pV t))) _ _ _;rw[N6];intro b hb;have nb:∀{x o},U.f x=some o->¬x=b:=λh e=>by subst e;rw[hb]at h;cases h
 refine ag ?_;refineλb5 jO=>?_;have s8:¬b5=b:=bh jO aT;rw[Hp.ay s8]at jO
 have n5:∀{x:Nat} {o:Obj},U.f x=some o->¬x=b5:=by intro x o h e;subst e;rw[jO]at h;cases h
 have l5:∀(H:Hp) (o:Obj),(H.set b5 o).f b5=some o:=λ_ _=>Hp.bD _ _;have lb:∀o o',((U.set b o).set b5 o').f b=some o:=λo o'=>(Hp.ay (λe=>s8 e.symm)).trans aT;have lo:∀{x:Nat} {p:Obj} o o',U.f x=some p->((U.set b o).set b5 o').f x=some p:=λo o' h=>(Hp.ay (n5 h)).trans ((Hp.ay (nb h)).trans h);refine aH l5 ?_;refine dH func62 rfl ah ah HS ?_;rw[NZ];refine ag ?_;refine jy (t:=222) (v:=.agg #[hT 297]) (recv:=hT 297) (f:=319) (name:= "Kind") ?_ (λQ H h=>by rw[wQ];exact h) ?_
 ·exact au
 refine ag ?_;refine dH func319 rfl ah ah xZ ?_;show wpS prog (ReflectliteType.abiMethod (λt=>(λa:Nat=>Value.int IntKind.u8 (a:Int))<$>Rtype.kind t) #[hT 297]) _ _ _;rw[NV];refine aH l5 ?_;rw[Hp.set_set];refine dH func63 rfl ah ah HT ?_;refine NT (a:=b) (t:=t) (e:=297) (lb _ _) ?_;refine ag ?_;refine jy (t:=222) (v:=.agg #[hT 297]) (recv:=.agg #[hT 297]) (f:=335) (name:= "Elem") ?_ (λQ H h=>by rw[Fi];exact h) ?_
 ·exact au
 refine ag ?_;refine dH func335 rfl ah ah HP ?_;rw[NR];refine ag ?_;refine jy (t:=222) (v:=.agg #[hT 296]) (recv:=hT 296) (f:=319) (name:= "Kind") ?_ (λQ H h=>by rw[wQ];exact h) ?_
 ·exact au
 refine ag ?_;refine dH func319 rfl ah ah xZ ?_;show wpS prog (ReflectliteType.abiMethod (λt=>(λa:Nat=>Value.int IntKind.u8 (a:Int))<$>Rtype.kind t) #[hT 296]) _ _ _;rw[NU];have l0:∀o o',((U.set b o).set b5 o').f 0=some (.cells #[rT 45] et (0,0)):=λo o'=>lo o o' h0;refine aH l0 ?_;refine jy (t:=222) (v:=.agg #[hT 296]) (recv:=.agg #[hT 296]) (f:=336) (name:= "Implements") ?_ (λQ H h=>by rw[Fj];exact h) ?_
 ·exact au
 refine ag ?_;refine dH func336 rfl ah ah HQ ?_;rw[NS];refine aH l5 ?_;refine bz (Wt (b:=b) (lo _ _ hi)) ?_;refine ag ?_;refine al (R:=U) aG ?_ ⟨by simp[up],rfl⟩;exactλx p h=>lo _ _ h
end
end Go.Qw
