/- 10 -/
import Derived.Test.YtpiabknabfbfhaaGreatDoorAgain09
set_option linter.all false
set_option maxRecDepth 100000
set_option maxHeartbeats 8000000
namespace Go.Qw
open Go.Proofs.Tryz
section
open Go Go.Conc Go.Proofs
variable {E:Env prog}{U:Hp}
def ab9{b3 b4 bf:Nat}{v0:Value}{c:Frame}{cs:List Frame}{S:Nat->Hp->Prop}(hc:c.mode=.panicking lT)(h3:U.f b3=some (.cells [pV bf].toArray 291 (0,0)))(h4:U.f b4=some (.cells [v0].toArray 45 (0,0)))(aeE:∀J,U.le J->ay E 189 #[pV bf,iV 502] J λe cf=>∃v,e=.returned (.iface 214 (pV v))/\cf.f b4=some (.cells [v0].toArray 45 (0,0))/\S v (cf.set b4 (.cells [.iface 214 (pV v)].toArray 45 (0,0)))):
 ax E (G (Frame.enter prog 188 #[pV b3,pV b4] .deferred) (c::cs)) U λg J=>g=G {c with mode:=.returning} cs/\∃v,S v J:=by
 have pe:Frame.enter prog 188 #[pV b3,pV b4] .deferred=AO.at {tmps:=#[pV b3,pV b4]++Array.replicate 11 undef,defers:=[]} [.code tY]:=by simp[Frame.enter,Frame.at,func188,AO,f188,tY]
 rw[pe,Ob];have ha:=sQ #[pV b3,pV b4] 13 al;refine ax.ctl (λw=>stepG_seq) rfl rfl ?_;refine ax.ctl (λw=>stepG_region) rfl rfl ?_;have hr:List.range E2.size=[0]:=ah;rw[hr];obtain⟨ps,af,ho⟩:=U4;refine ax.step rfl (aqm ho rfl rfl hc) ?_;rintro g J ⟨rfl,rfl⟩;have dn:cM 13 _ _ []:=ha.put (dst:=some 5) ai (.iface 325 (.agg #[]));refine ax.ctl (λw=>stepG_region_end) rfl rfl ?_;refine(nT (E:=E) (N:=13) (X:=λI ds cf=>ds=[]/\∃v,S v cf) ?_ (by simp[AO]) dn).bind ?_
 ·simp only[LR,tY,f188,Option.getD_some,aR,dT];simp only[go_sem,seval,aB,up];refineλb hb=>?_;have g3:∀o,(J.set b o).f b3=_:=λo=>(Hp.az (bj h3 hb)).trans h3;simp only[go_sem,seval,aB,up,g3,Hp.set_set];refine aK (aeE _ (by rw[Hp.set_set];exact kG hb)) ?_;rintro w cQ ⟨v,hv,ta,hS⟩
  cases hv
  simp only[go_sem,seval,aB,up,ta];exact⟨rfl,v,hS⟩
 rintro g cf ⟨lO,jm,a2,gH,⟨rfl,v,hS⟩,rfl⟩;refine ax.ctl (λw=>stepG_end) rfl rfl ?_;refine ax.step rfl (aqh (fn:=f188) rfl gH.defers rfl rfl func188 ah) ?_;rintro g nZ ⟨rfl,rfl⟩;exact ax.here ⟨rfl,v,hS⟩
def ab6(E:Env prog)(fn:Func)(R:Fin->Hp->Prop):Post
 | .normal,I,ds,U| .ret,I,ds,U=>∃b3 b4 v J,J.le U/\ds=[gE 188 #[pV b3,pV b4]]/\FQ prog fn I J v/\R (.returned v) J
 | .panic ch,I,ds,U=>ch=lT/\∃b3 b4,ds=[gE 188 #[pV b3,pV b4]]/\∀(c:Frame) (cs:List Frame),c.mode=.panicking lT->
  ax E (G (Frame.enter prog 188 #[pV b3,pV b4] .deferred) (c::cs)) U λg J=>g=G {c with mode:=.returning} cs/\∃v,FQ prog fn I J v/\R (.returned v) J
 |_,_,_,_=>False
variable {f:FuncId}{fn:Func}{c:Code}{args:Array Value}{R:Fin->Hp->Prop}
def aaH(hf:prog.funcs[f]? =some fn)(hb:fn.body=some c)(hn:args.size<=fn.ntmps)(h:cO E fn.ntmps c (ab6 E fn R) (nV args fn.ntmps) [] U):ay E f args U R:=by
 intro cs
 let b:Frame:={(default:Frame)with fn:=f,kind:=.normal}
 have pe:Frame.enter prog f args .normal=b.at {tmps:=args++Array.replicate (fn.ntmps-args.size) undef,defers:=[]} [.code c]:=by simp[Frame.enter,Frame.at,hf,hb,b]
 rw[pe]
 have fin:∀(I:av) (ds:List Deferred) (ae:Hp) (a:Act) (todo:List Item),cM fn.ntmps a I ds->(∃b3 b4 v J,J.le ae/\ds=[gE 188 #[pV b3,pV b4]]/\FQ prog fn I J v/\R (.returned v) J)->
  ax E (G {b.at a todo with mode:=.returning} cs) ae λg ae=>∃e fr,g=G fr cs/\fr.fn=f/\Leaving prog fr ae e/\R e ae:=by
  rintro I ds ae a todo ha ⟨b3,b4,v,J,hle,nF,hv,hR⟩;refine ax.iQ (J:=J) ?_ hle
  have hd:({b.at a todo with mode:=.returning}:Frame).defers=gE 188 #[pV b3,pV b4]::[]:=by have:=ha.defers;simp only[Frame.at];rw[this,nF]
  refine ax.step rfl (aqn rfl hd Re) ?_;rintro g cf ⟨rfl,rfl⟩;refine(ab8 rfl).bind ?_;rintro g nZ ⟨rfl,rfl⟩;refine ax.here ⟨.returned v,_,rfl,rfl,⟨rfl,rfl,rfl,fn,hf,?_⟩,hR⟩;have:=xi (fn:=fn) ha;simp only[Frame.at];rw[this];exact hv
 refine(IF c _ _ _ _ h b [] cs _ (by simp[b]) (sQ args fn.ntmps hn)).bind (Comes.mono ?_ ?_ ?_ ?_)
 ·intro I ds ae a ha hq;exact ax.ctl (λw=>stepG_end) rfl rfl (fin I ds ae a [] ha hq)
 ·exactλid I ds ae a ri _ hq=>hq.elim
 ·exactλI ds ae a todo ha hq=>fin I ds ae a todo ha hq
 ·rintro ch I ds ae a todo ha ⟨rfl,b3,b4,nF,kD⟩
  have hd:({b.at a todo with mode:=.panicking lT}:Frame).defers=gE 188 #[pV b3,pV b4]::[]:=by have:=ha.defers;simp only[Frame.at];rw[this,nF]
  refine ax.step rfl (aqo (chain:=lT) rfl hd Re) ?_;rintro g cf ⟨rfl,rfl⟩;refine(kD _ cs rfl).bind ?_;rintro g nZ ⟨rfl,v,hv,hR⟩;refine ax.here ⟨.returned v,_,rfl,rfl,⟨rfl,rfl,rfl,fn,hf,?_⟩,hR⟩;have:=xi (fn:=fn) ha;simp only[Frame.at];rw[this];exact hv
def aaI{n:Nat}{rs:Array ResultVar}(hf:prog.funcs[f]? =some fn)(hn:fn.ntmps=n)(hr:fn.results=rs)(hb:fn.body=some c)(hs:args.size<=fn.ntmps)(h:∀Q:Post,(∀I U J v b3 b4,lR prog rs I J v->J.le U->R (.returned v) J->Q .ret I [gE 188 #[pV b3,pV b4]] U)->
  (∀I U b3 b4,(∀(c:Frame) (cs:List Frame),c.mode=.panicking lT->ax E (G (Frame.enter prog 188 #[pV b3,pV b4] .deferred) (c::cs)) U λg J=>g=G {c with mode:=.returning} cs/\∃v,lR prog rs I J v/\R (.returned v) J)->Q (.panic lT) I [gE 188 #[pV b3,pV b4]] U)->
  cO E n c Q (nV args n) [] U):ay E f args U R:=by
 subst hn;subst hr;refine aaH hf hb hs (h _ ?_ ?_)
 ·exactλI U J v b3 b4 h1 hl h2=>⟨b3,b4,v,J,hl,rfl,h1,h2⟩
 ·exactλI U b3 b4 h=>⟨rfl,b3,b4,rfl,h⟩
section
variable {E:Env prog}{A:Lay}{H:Hid}{n:N}{X:Ext}{U:Hp}{id:Int}{no:Nat}{c:CN}{h:HN}{nm:List UInt8}{q:QN}{bf:Nat}{f:FR}{r:HR}
def aq.Cj {er:Er}{b b3 b4:Nat}{of o3 o4:Obj}(a:aq A H n (er.ext b++(bf,of)::(b4,o4)::(b3,o3)::X) U)(o:Obj):aq A H n (er.ext b++(bf,of)::X) (U.set b4 o):=by
 cases er with
 |nil=>
  have a1:=a.Ao (i:=1) (p:=(b4,o4)) rfl o;exact a1.Ah (λi=>if i=0 then 0 else i+2) (λi hi=>by cases i<;>simp[Er.ext]) (λi j _ _ e=>by split at e<;>split at e<;>omega)
 |soft e cl me=>
  have a1:=a.Ao (i:=2) (p:=(b4,o4)) rfl o
  exact a1.Ah (λi=>if i<2 then i else i+2) (λi hi=>by
   rcases i with _|_|i
   ·rfl
   ·rfl
   ·rw[if_neg aa];rfl) (λi j _ _ e=>by split at e<;>split at e<;>omega)
 |cL e cl me=>
  have a1:=a.Ao (i:=2) (p:=(b4,o4)) rfl o
  exact a1.Ah (λi=>if i<2 then i else i+2) (λi hi=>by
   rcases i with _|_|i
   ·rfl
   ·rfl
   ·rw[if_neg aa];rfl) (λi j _ _ e=>by split at e<;>split at e<;>omega)
def aq.rG {er:Er}{b b3 b4:Nat}{of o3 o4:Obj}(a:aq A H n (er.ext b++(bf,of)::(b4,o4)::(b3,o3)::X) U):U.f b4=some o4/\U.f b3=some o3:=by
 cases er with
 |nil=>exact⟨a.ext (i:=1) (p:=(b4,o4)) rfl,a.ext (i:=2) (p:=(b3,o3)) rfl⟩
 |soft e cl me=>exact⟨a.ext (i:=2) (p:=(b4,o4)) rfl,a.ext (i:=3) (p:=(b3,o3)) rfl⟩
 |cL e cl me=>exact⟨a.ext (i:=2) (p:=(b4,o4)) rfl,a.ext (i:=3) (p:=(b3,o3)) rfl⟩
structure On (n:N) (id:Int) (c:CN):Prop where
 w:Wf n
 out:c.r.out.length<=100000000000000
 leave:AF n id c
 fr:∀no h,n.h? id no=some h->FH n id no c h
def NC {b3 b4 cl me:Nat}{f2:FR}{v0:Value}{H':Hid}{J:Hp}{I:av}{c0:Frame}{cs:List Frame}{r:HO}(zo:c0.mode=.panicking lT)(aH:f2.cl=(cl:Int))(aP:f2.me=(me:Int))(h4:I 4=pV b4)(hr:r=.bad cl me)
 (a:aq A H' n ((bf,bP f2)::(b4,.cells [v0].toArray 45 (0,0))::(b3,.cells [pV bf].toArray 291 (0,0))::X) J):
 ax E (G (Frame.enter prog 188 #[pV b3,pV b4] .deferred) (c0::cs)) J λg J=>g=G {c0 with mode:=.returning} cs/\∃v,lR prog #[.cell 4 45] I J v/\iE A X n bf f (.ok (r.get n).1 (r.get n).2) (.returned v) J:=by
 obtain⟨k4,k3⟩:=aq.rG (er:=.nil) (b:=0) a;refine(ab9 (bf:=bf) (v0:=v0) (S:=λb J=>J.f b4=some (.cells [.iface 214 (pV b)].toArray 45 (0,0))/\aq A H' n ((Er.cL 502 cl me).ext b++(bf,bP f2)::X) J) zo k3 k4 ?_).mono ?_
 ·intro fA hle;refine(jY (e:=502) (a.le hle) aH aP).mono ?_;rintro e cQ ⟨b,rfl,a2⟩;exact⟨b,rfl,(aq.rG a2).1,aZ,a2.Cj _⟩
 ·rintro g cQ ⟨rfl,b,k,a2⟩;refine⟨rfl,_,nS (b:=b4) h4 ah (BL k),?_⟩;rw[hr];exact⟨A,H',b,f2,rfl,.refl A,a2⟩
def afm (a:aq A H n ((bf,bP f)::X) U)(hc:n.ar id=some c)(K:On n id c)(hs:f.s=f.u.ji)(aH:f.cl=0)(aP:f.me=0)(dR:0<=f.u.channel/\f.u.channel<1000000)(jJ:f.s.length<=500000):
 ay E 150 #[pV (A.conn id),pV bf] U (iE A X n bf f (.ok ((n.fB id c f.u).get n).1 ((n.fB id c f.u).get n).2)):=by
 refine aaI func150 ntmps150 results150 rfl al λQ an aA=>?_;refine dU λK0 Bb=>?_;refine ag ?_;refineλb3 hU=>?_;refine ag ?_;refineλb4 zn=>?_;have a2:=λo'=>(a.iR hU _).iR zn o';refine ag ?_;generalize hZ:Hp.set (Hp.set U b3 _) b4 _=fA;have a3:aq A H n ((b4,.cells [.nilIface].toArray 45 (0,0))::(b3,.cells [pV bf].toArray 291 (0,0))::(bf,bP f)::X) fA:=dP (a2 _) hZ
 have a4:aq A H n ((bf,bP f)::(b4,.cells [.nilIface].toArray 45 (0,0))::(b3,.cells [pV bf].toArray 291 (0,0))::X) fA:=
  a3.Ah (λi=>if i=0 then 2 else if i<3 then i-1 else i) (λi hi=>by
   rcases i with _|_|_|i
   ·rfl
   ·rfl
   ·rfl
   ·rw[if_neg aa,if_neg aa];rfl) (λi j _ _ e=>by split at e<;>split at e<;>(try split at e)<;>(try split at e)<;>omega)
 clear a3 a2;refine Bb _ _ _ ?_;refine dU λK1 mB=>?_;refine ag ?_;refine ab7 (df:=188) (caps:=#[pV b3,pV b4]) ?_ ?_
 ·exact au
 refine mB _ _ _ ?_
 have tail:∀{cQ:Hp} {I:av} {f2:FR} {cl me:Nat},aq A H n ((bf,bP f2)::(b4,.cells [.nilIface].toArray 45 (0,0))::(b3,.cells [pV bf].toArray 291 (0,0))::X) cQ->f2.u=f.u->f2.cl=(cl:Int)->f2.me=(me:Int)->f2.s.length<=500000->
  n.fB id c f.u=n.iS id c f.u.channel f.u.kind f2.s cl me->I 0=pV (A.conn id)->I 3=pV b3->I 4=pV b4->cO E 75 (aR (aR (aR (f150.body.getD .skip)))) Q I [gE 188 #[pV b3,pV b4]] cQ:=by
  intro cQ I f2 cl me a5 hu Dy G3 ahs he r0 r3 r4;have lz:=a5.eJ hc;obtain⟨k4,k3⟩:=aq.rG (er:=.nil) (b:=0) a5;have nG:=a5.fi;rw[hu]at nG;simp only[f150,Option.getD_some,aR];have ic:f2.u.kind=f.u.kind:=by rw[hu]
  have R4:f2.u.channel=f.u.channel:=by rw[hu]
  by_cases qn:c.r.ph=1\/c.r.ph=2
  ·have oo:n.iS id c f.u.channel f.u.kind f2.s cl me=n.begin id c f2.u.channel f2.u.kind f2.s cl me:=by unfold N.iS;rw[if_pos qn,ic,R4]
   have KP:=Y0 (E:=E) a5 hc qn Dy G3 K.out;rcases qn with p1|p1
   all_goals
    first|simp only[go_sem,seval,r0,r3,lz,k3,(show¬c.r.ph=1 by omega),eq_true p1,decide_true,decide_false]|simp only[go_sem,seval,r0,r3,lz,k3,eq_true p1,decide_true]
    refine dH ad4 KP ?_ (λch dB hx=>?_)
    ·intro v dB hx
     cases hr:n.begin id c f2.u.channel f2.u.kind f2.s cl me with
     |bad x y=>rw[hr]at hx;obtain⟨_,_,h,_⟩:=hx;cases h
     |ok n' er=>
      rw[hr]at hx;obtain⟨A',H',b,f',hv,DW,a6⟩:=hx;obtain⟨tE,qk⟩:=a6.rG
      have hR:iE A X n bf f (.ok ((n.fB id c f.u).get n).1 ((n.fB id c f.u).get n).2) (.returned (er.v b)) (dB.set b4 (.cells [er.v b].toArray 45 (0,0))):=by rw[he,oo,hr];exact⟨A',H',b,f',rfl,DW,a6.Cj _⟩
      have ij:jh prog 45 ⟨b4,0,none⟩ (dB.set b4 (.cells [er.v b].toArray 45 (0,0)))=some (er.v b):=BL aZ
      cases hv
      cases er<;>simp only[go_sem,seval,Er.v,r4,tE]<;>exact an _ _ _ _ _ _ (nS (b:=b4) (by simp[up,r4]) ah ij) ao hR
    ·cases hr:n.begin id c f2.u.channel f2.u.kind f2.s cl me with
     |ok n' er=>rw[hr]at hx;obtain⟨_,_,_,_,h,_⟩:=hx;cases h
     |bad x y=>
      rw[hr]at hx;obtain⟨H',s,h,a6⟩:=hx
      cases h
      exact aA _ _ _ _ (λc0 cs zo=>NC zo rfl rfl (by first|exact r4|(simp only[go_sem,seval,r4];done)|(simp[aB,up,r4];done)) (he.trans (oo.trans hr)) a6)
  have p1:¬c.r.ph=1:=λe=>qn (.inl e);have p2:¬c.r.ph=2:=λe=>qn (.inr e);by_cases p3:c.r.ph=3
  ·by_cases z:f.u.channel=0
   ·simp only[go_sem,seval,r0,r3,lz,k3,nG,p1,p2,eq_true p3,eq_true z,decide_true,decide_false];have oo:n.iS id c f.u.channel f.u.kind f2.s cl me=n.control id f2.u.kind f2.s cl me:=by unfold N.iS;rw[if_neg qn,if_pos p3,if_pos z,ic]
    refine dH ad5 (abO a5 hc K.leave Dy G3 K.out) ?_ (λch dB hx=>?_)
    ·intro v dB hx
     cases hr:n.control id f2.u.kind f2.s cl me with
     |bad x y=>rw[hr]at hx;obtain⟨_,_,h,_⟩:=hx;cases h
     |ok n' er=>
      rw[hr]at hx;obtain⟨A',H',b,f',hv,DW,a6⟩:=hx;obtain⟨tE,qk⟩:=a6.rG
      have hR:iE A X n bf f (.ok ((n.fB id c f.u).get n).1 ((n.fB id c f.u).get n).2) (.returned (er.v b)) (dB.set b4 (.cells [er.v b].toArray 45 (0,0))):=by rw[he,oo,hr];exact⟨A',H',b,f',rfl,DW,a6.Cj _⟩
      have ij:jh prog 45 ⟨b4,0,none⟩ (dB.set b4 (.cells [er.v b].toArray 45 (0,0)))=some (er.v b):=BL aZ
      cases hv
      cases er<;>simp only[go_sem,seval,Er.v,r4,tE]<;>exact an _ _ _ _ _ _ (nS (b:=b4) (by simp[up,r4]) ah ij) ao hR
    ·cases hr:n.control id f2.u.kind f2.s cl me with
     |ok n' er=>rw[hr]at hx;obtain⟨_,_,_,_,h,_⟩:=hx;cases h
     |bad x y=>
      rw[hr]at hx;obtain⟨H',s,h,a6⟩:=hx
      cases h
      exact aA _ _ _ _ (λc0 cs zo=>NC zo rfl rfl (by first|exact r4|(simp only[go_sem,seval,r4];done)|(simp[aB,up,r4];done)) (he.trans (oo.trans hr)) a6)
   ·obtain⟨no,eH⟩:∃no:Nat,f.u.channel=(no:Int):=⟨f.u.channel.toNat,aa⟩;have LH:f.u.channel.toNat=no:=aa;simp only[go_sem,seval,r0,r3,lz,k3,nG,p1,p2,eq_true p3,z,decide_true,decide_false];have oo:n.iS id c f.u.channel f.u.kind f2.s cl me=n.kW id c no f2.u.kind f2.s cl me:=by unfold N.iS;rw[if_neg qn,if_pos p3,if_neg z,ic,LH]
    refine dH ad6 (amz (no:=no) a5 K.w hc (λh hh=>K.fr no h hh) (R4.trans eH) aa Dy G3 K.out ahs) ?_ (λch dB hx=>?_)
    ·intro v dB hx
     cases hr:n.kW id c no f2.u.kind f2.s cl me with
     |bad x y=>rw[hr]at hx;obtain⟨_,_,h,_⟩:=hx;cases h
     |ok n' er=>
      rw[hr]at hx;obtain⟨A',H',b,f',hv,DW,a6⟩:=hx;obtain⟨tE,qk⟩:=a6.rG
      have hR:iE A X n bf f (.ok ((n.fB id c f.u).get n).1 ((n.fB id c f.u).get n).2) (.returned (er.v b)) (dB.set b4 (.cells [er.v b].toArray 45 (0,0))):=by rw[he,oo,hr];exact⟨A',H',b,f',rfl,DW,a6.Cj _⟩
      have ij:jh prog 45 ⟨b4,0,none⟩ (dB.set b4 (.cells [er.v b].toArray 45 (0,0)))=some (er.v b):=BL aZ
      cases hv
      cases er<;>simp only[go_sem,seval,Er.v,r4,tE]<;>exact an _ _ _ _ _ _ (nS (b:=b4) (by simp[up,r4]) ah ij) ao hR
    ·cases hr:n.kW id c no f2.u.kind f2.s cl me with
     |ok n' er=>rw[hr]at hx;obtain⟨_,_,_,_,h,_⟩:=hx;cases h
     |bad x y=>
      rw[hr]at hx;obtain⟨H',s,h,a6⟩:=hx
      cases h
      exact aA _ _ _ _ (λc0 cs zo=>NC zo rfl rfl (by first|exact r4|(simp only[go_sem,seval,r4];done)|(simp[aB,up,r4];done)) (he.trans (oo.trans hr)) a6)
  have zr:∀{dB:Hp} {n':N},aq A H n' ((bf,bP f2)::(b4,.cells [.nilIface].toArray 45 (0,0))::(b3,.cells [pV bf].toArray 291 (0,0))::X) dB->n.iS id c f.u.channel f.u.kind f2.s cl me=.ok n' .nil->
   iE A X n bf f (.ok ((n.fB id c f.u).get n).1 ((n.fB id c f.u).get n).2) (.returned .nilIface) (dB.set b4 (.cells [.nilIface].toArray 45 (0,0))):=by
   intro dB n' a6 e;rw[he,e];exact⟨A,H,0,f2,rfl,.refl A,aq.Cj (er:=.nil) (b:=0) a6 _⟩
  have ij:∀dB:Hp,jh prog 45 ⟨b4,0,none⟩ (dB.set b4 (.cells [.nilIface].toArray 45 (0,0)))=some .nilIface:=λdB=>BL aZ;by_cases p4:c.r.ph=4
  rotate_left
  ·have oo:n.iS id c f.u.channel f.u.kind f2.s cl me=.ok n .nil:=by unfold N.iS;rw[if_neg qn,if_neg p3,if_neg (λh=>p4 h.1)]
   simp only[go_sem,seval,r0,r4,lz,k4,p1,p2,p3,p4,decide_true,decide_false];exact an _ _ _ _ _ _ (nS (b:=b4) (by simp[up,r4]) ah (ij _)) ao (zr a5 oo)
  simp only[go_sem,seval,r0,r3,lz,k3,p1,p2,p3,eq_true p4,decide_true,decide_false];refineλb1 jd=>?_;refine ag ?_;have o1:=a5.fresh jd;generalize nD:Hp.set cQ b1 _=cX;have a6:=dP (o1 _) nD;have j8:cX.f b1=some (.cells (([51]:List Int).map iV++[]).toArray 3 (0,0)):=by rw[<-nD];exact Hp.bD _ _
  obtain⟨tE,qk⟩:=aq.rG (er:=.nil) (b:=0) a6;have iz:=a6.eJ hc;have DD:=a6.fi;rw[hu]at DD;refine aT (uU (ms:=[51]) (pad:=[]) a6.eK j8 al) ?_;have i1:f2.lD 10 [51]=decide (f2.u.kind=1/\cl=10/\me=51):=Ej Dy G3 10 51;rw[ic]at i1;by_cases q1:f.u.kind=1/\cl=10/\me=51
  ·rw[decide_eq_true q1]at i1;by_cases z:f.u.channel=0
   ·have oo:n.iS id c f.u.channel f.u.kind f2.s cl me=.ok (n.bA id λr=>{r with ph:=5}) .nil:=by unfold N.iS;rw[if_neg qn,if_neg p3,if_pos ⟨p4,q1.1,q1.2.1,q1.2.2,z⟩]
    have a7:=a6.mQ hc λr=>{r with ph:=5};simp only[go_sem,seval,r0,r3,r4,i1,DD,iz,qk,eq_true z,decide_true];generalize hZ:Hp.set cX (A.conn id) _=lP;replace a7:=dP a7 hZ;obtain⟨k47,k37⟩:=aq.rG (er:=.nil) (b:=0) a7;refine aJ k47 ?_;exact an _ _ _ _ _ _ (nS (b:=b4) (by simp[up,r4]) ah (ij _)) ao (zr a7 oo)
   ·have oo:n.iS id c f.u.channel f.u.kind f2.s cl me=.ok n .nil:=by unfold N.iS;rw[if_neg qn,if_neg p3,if_neg (λh=>z h.2.2.2.2)]
    simp only[go_sem,seval,r3,r4,i1,DD,qk,tE,z,decide_true,decide_false];exact an _ _ _ _ _ _ (nS (b:=b4) (by simp[up,r4]) ah (ij _)) ao (zr a6 oo)
  ·rw[decide_eq_false q1]at i1;have oo:n.iS id c f.u.channel f.u.kind f2.s cl me=.ok n .nil:=by unfold N.iS;rw[if_neg qn,if_neg p3,if_neg (λh=>q1 ⟨h.2.1,h.2.2.1,h.2.2.2.1⟩)]
   simp only[go_sem,seval,r4,i1,tE,decide_true];exact an _ _ _ _ _ _ (nS (b:=b4) (by simp[up,r4]) ah (ij _)) ao (zr a6 oo)
 refine dU λK2 nB=>?_;have KX:=a4.fi;obtain⟨k4,k3⟩:=aq.rG (er:=.nil) (b:=0) a4;by_cases kk:f.u.kind=1
 rotate_left
 ·simp only[go_sem,seval,k3,KX,kk,decide_false];refine nB _ _ _ (tail (f2:=f) (cl:=0) (me:=0) a4 rfl aH aP jJ (by unfold N.fB;rw[if_neg kk,hs]) ?_ ?_ ?_)
  ·exact au
  ·exact au
  ·exact au
 by_cases l4:f.s.length<4
 ·have L5:(f.s.length:Int)<4:=aa
  have he:n.fB id c f.u=.ok n (.cL 502 0 0):=by
   unfold N.fB;rw[if_pos kk,<-hs];by_cases l2:2<=f.s.length
   ·have e1:fu 2 f.s=some (num (f.s.take 2),f.s.drop 2):=by unfold fu;rw[if_pos l2]
    have e2:fu 2 (f.s.drop 2)=none:=by unfold fu;rw[if_neg (by rw[List.length_drop];omega)]
    rw[e1];simp only;rw[e2]
   ·have e1:fu 2 f.s=none:=by unfold fu;rw[if_neg l2]
    rw[e1]
  simp only[go_sem,seval,k3,KX,eq_true kk,L5,decide_true];refine aK (jY (e:=502) (cl:=0) (me:=0) a4 aH aP) ?_;rintro v dB ⟨b,hv,a5⟩
  cases hv
  obtain⟨tE,qk⟩:=a5.rG;simp only[go_sem,seval,Er.v,tE];refine an _ _ _ (.iface 214 (pV b)) _ _ (nS (b:=b4) (by simp[up]) ah (BL aZ)) ao ?_;rw[he];exact⟨A,H,b,_,rfl,.refl A,a5.Cj _⟩
 have L5:¬(f.s.length:Int)<4:=aa;simp only[go_sem,seval,k3,KX,eq_true kk,L5,decide_true,decide_false];refine AW [0,1,2,3,4,6,7,8,5,9,10,11,12,13,14,15] ?_;refine aJ k3 ?_;refine iT oj a4 (oG (w:=2) a4.fi rfl ai) (λx1 s1 cQ fz a5=>?_) (λhr s J a5=>by unfold fu at hr;rw[if_pos aa]at hr;cases hr);obtain⟨tE,qk⟩:=aq.rG (er:=.nil) (b:=0) a5;refine⟨dL qk,?_⟩;refine ag ?_
 have ls1:s1.length=f.s.length-2:=by unfold fu at fz;rw[if_pos aa]at fz;simp only[Option.some.injEq,Prod.mk.injEq]at fz;rw[<-fz.2,List.length_drop]
 refine iT oj a5 (oG (w:=2) a5.fi rfl ai) (λx2 s2 dB bZ a6=>?_) (λhr s J a5=>by unfold fu at hr;simp only at hr;rw[if_pos aa]at hr;cases hr);simp only at bZ;obtain⟨atW,ajp⟩:=aq.rG (er:=.nil) (b:=0) a6
 have ls2:s2.length=s1.length-2:=by unfold fu at bZ;rw[if_pos aa]at bZ;simp only[Option.some.injEq,Prod.mk.injEq]at bZ;rw[<-bZ.2,List.length_drop]
 have DD:=a6.fi;refine⟨dL ajp,?_⟩;refine aJ DD ?_;have g3:=λo=>(aq.rG (er:=.nil) (b:=0) (a6.vq o)).2;refine L4 g3 ?_;refine L4 g3 ?_;have a7:=a6.vq (bP {f with s:=s2,cl:=(x1:Int),me:=(x2:Int)});generalize hZ:Hp.set dB bf _=lP;replace a7:=dP a7 hZ
 have he:n.fB id c f.u=n.iS id c f.u.channel f.u.kind s2 x1 x2:=by unfold N.fB;rw[if_pos kk,<-hs,fz];simp only;rw[bZ,kk]
 refine nB _ _ _ (tail (f2:={f with s:=s2,cl:=(x1:Int),me:=(x2:Int)}) (cl:=x1) (me:=x2) a7 rfl rfl rfl (by show s2.length<=_;omega) he ?_ ?_ ?_)
 ·exact au
 ·exact au
 ·exact au
end
section
variable {E:Env prog}{A:Lay}{H:Hid}{n:N}{X:Ext}{U:Hp}{id:Int}{no:Nat}{c:CN}{h:HN}{nm:List UInt8}{q:QN}{bf:Nat}{f:FR}{r:HR}
structure Oe (g:kt):Prop where
 jq:0<=g.jq/\g.jq<65536
 frame:0<=g.frame/\g.frame<100000
 gD:0<=g.gD/\g.gD<65536
def abw (hc:n.ar id=some c):∃c1,(n.leave id).ar id=some c1/\c1.r=c.r:=by
 have e:n.leave id=(n.gV id c.ch).dN id λc=>{c with ch:=[]}:=by unfold N.leave;rw[hc];rfl
 obtain⟨c1,cG,ec⟩:=B7 (E4.trans (B5 hc):(n.gV id c.ch).rC id=some c.r);exact⟨{c1 with ch:=[]},by rw[e];simp[cG],ec⟩
def abv {e cl me:Nat}(hc:n.ar id=some c):∃c1,(n.cL id e cl me).ar id=some c1:=by obtain⟨c1,h1,_⟩:=abw hc;unfold N.cL;rw[sZ,if_pos rfl];simp[h1]
def arl {u:Un}(a:aq A H n X U)(hc:n.ar id=some c)(G:Oe n.cfg)(eS:c.r.out.length<=100000000000000)(L:AF n id c)
 (C8:u.kz=false->u.gm=false->u.kind≠8->ay E 107 #[pV (A.conn id),uV u] U λe J=>e=.returned (.tuple #[])/\∃A',qA A A'/\At A' (n.kQ id u) X J):
 ay E 59 #[pV (A.conn id),uV u] U λe J=>e=.returned (.tuple #[])/\∃A',qA A A'/\At A' (n.unit id u) X J:=by
 cases qe:u.kz with
 |true=>
  cases hw:u.gm with
  |true=>
   have e:n.unit id u=(n.send id pW).bA id λr=>{r with ph:=5}:=by unfold N.unit;rw[qe,hw];rfl
   refine aX func59 ntmps59 results59 λQ aD an aA=>?_;simp only[go_sem,seval,uV];refineλb3 hU=>?_;have a1:=λo=>a.fresh hU o;refine bu qe hw ?_;refine aK (Na (s:=pW) (a1 _) hc (by simp[pW];omega)) ?_;rintro v cQ ⟨hv,a2⟩
   cases hv
   have dX:(n.send id pW).ar id=some {c with r:={c.r with out:=c.r.out++pW,iq:=n.clock}}:=by rw[sZ,if_pos rfl,hc];rfl
   have a3:=a2.mQ dX λr=>{r with ph:=5};refine aJ (a2.eJ dX) ?_;refine aD dA ao ⟨rfl,A,.refl A,H,?_⟩;rw[e];exact dP a3 rfl
  |false=>
   have e:n.unit id u=(n.bA id λr=>{r with ph:=1}).send id (bK 0 10 30 [.short n.cfg.jq.toNat,.long n.cfg.frame.toNat,.short n.cfg.gD.toNat]):=by unfold N.unit;rw[qe,hw];rfl
   obtain⟨g1,g2⟩:=G.jq;obtain⟨g3,g4⟩:=G.frame;obtain⟨g5,g6⟩:=G.gD;refine(ark (k1:=n.cfg.jq.toNat) (k2:=n.cfg.frame.toNat) (k3:=n.cfg.gD.toNat) qe hw a.gw (a.conn hc) aa aa aa aa aa aa eS).mono ?_;rintro e' J ⟨rfl,rfl⟩;refine⟨rfl,A,.refl A,H,?_⟩;rw[e];have a1:=a.mQ hc λr=>{r with ph:=1,out:=r.out++bK 0 10 30 [.short n.cfg.jq.toNat,.long n.cfg.frame.toNat,.short n.cfg.gD.toNat],iq:=n.clock}
   have e2:(n.bA id λr=>{r with ph:=1}).send id (bK 0 10 30 [.short n.cfg.jq.toNat,.long n.cfg.frame.toNat,.short n.cfg.gD.toNat])=n.bA id λr=>{r with ph:=1,out:=r.out++bK 0 10 30 [.short n.cfg.jq.toNat,.long n.cfg.frame.toNat,.short n.cfg.gD.toNat],iq:=n.clock}:=by simp only[N.send,N.bA,NK];rfl
   rw[e2];exact a1
 |false=>
  cases hw:u.gm with
  |true=>
   have e:n.unit id u=(if n.ph id=4 then n else n.cL id 501 0 0).bA id λr=>{r with ph:=5}:=by unfold N.unit;rw[qe,hw];rfl
   have Qu:n.ph id=c.r.ph:=by unfold N.ph;rw[hc];rfl
   refine aX func59 ntmps59 results59 λQ aD an aA=>?_;simp only[go_sem,seval,uV];refineλb3 hU=>?_;refine ag ?_;have o1:=a.fresh hU;generalize hZ:Hp.set U b3 _=fA;have hb:fA.f b3=some (.cells [iV u.kind,iV u.channel,sV u.ji,.bool u.kz,.bool u.gm].toArray 135 (0,0)):=by rw[<-hZ];exact Hp.bD _ _
   have a1:=dP (o1 _) hZ;have cG:=a1.eJ hc;by_cases p4:c.r.ph=4
   ·simp only[go_sem,seval,qe,hw,hb,cG,eq_true p4,decide_true];have a3:=a1.mQ hc λr=>{r with ph:=5};refine aD dA ao ⟨rfl,A,.refl A,H,?_⟩;rw[e,Qu,if_pos p4];exact dP a3 rfl
   ·refine lI qe hw hb cG p4 ?_;refineλbb eQ=>?_;have a2:=λo=>a1.iR eQ o;refine ag ?_;refine aK (RV (e:=501) (cl:=0) (me:=0) (a2 (ui 501 0 0)) (List.mem_cons_self ..) hc L ai eS) ?_;rintro v cQ ⟨hv,H2,a3⟩
    cases hv
    obtain⟨c2,dX⟩:=abv (e:=501) (cl:=0) (me:=0) hc;have a4:=a3.mQ dX λr=>{r with ph:=5};refine aJ (a3.eJ dX) ?_;refine aD dA ao ⟨rfl,A,.refl A,H2,?_⟩;rw[e,Qu,if_neg p4];exact aq.oW (dP a4 rfl)
  |false=>
   by_cases k8:u.kind=8
   ·have e:n.unit id u=n:=by unfold N.unit;rw[qe,hw];simp[k8]
    refine(ari qe hw k8).mono ?_;rintro e' J ⟨rfl,rfl⟩;rw[e];exact⟨rfl,A,.refl A,H,a⟩
   ·have e:n.unit id u=n.kQ id u:=by unfold N.unit;rw[qe,hw];simp[k8]
    rw[e];exact arj qe hw k8 (C8 qe hw k8)
end
end
section
open Go Go.Conc Go.Proofs
open Go.Extern
variable {Q:Value->Hp->Prop}{H:Halt->Hp->Prop}{U:Hp}{t:Nat}
def Pd:wpS prog (ReflectliteValue.unpack (.iface 297 (pV t))) Q H U=∀b,U.f b=none->Q (.agg #[hT 297,pV b,.int .u64 150]) (U.set b (.cells #[pV t] 297)):=ah
def YF:wpS prog (ReflectliteValue.unpack (.iface 298 (pV t))) Q H U=∀b,U.f b=none->Q (.agg #[hT 298,pV b,.int .u64 150]) (U.set b (.cells #[pV t] 298)):=ah
def YE:wpS prog (ReflectliteValue.unpack (.iface 296 (.agg #[pV t]))) Q H U=∀b,U.f b=none->Q (.agg #[hT 296,pV b,.int .u64 153]) (U.set b (.cells #[pV t] 296)):=ah
def YD:wpS prog (ReflectliteValue.unpack (.iface 214 (pV t))) Q H U=∀b,U.f b=none->Q (.agg #[hT 214,pV b,.int .u64 150]) (U.set b (.cells #[pV t] 214)):=ah
variable {a:Nat}
def Pb:wpS prog (ReflectliteValue.methodAny (ReflectliteValue.valueError "reflectlite.Value.Type" 0) (λt _ _ _=>ReflectliteType.toType t) #[.agg #[hT 297,pV a,.int .u64 150]]) Q H U=Q (rT 297) U:=ah
def YA:wpS prog (ReflectliteValue.methodAny (ReflectliteValue.valueError "reflectlite.Value.Type" 0) (λt _ _ _=>ReflectliteType.toType t) #[.agg #[hT 298,pV a,.int .u64 150]]) Q H U=Q (rT 298) U:=ah
def O7:wpS prog (ReflectliteType.abiMethod (λt=>(λa:Nat=>Value.int IntKind.u8 (a:Int))<$>Rtype.kind t) #[hT 297]) Q H U=Q (.int .u8 22) U:=ah
def Yo:wpS prog (ReflectliteType.abiMethod (λt=>(λa:Nat=>Value.int IntKind.u8 (a:Int))<$>Rtype.kind t) #[hT 298]) Q H U=Q (.int .u8 22) U:=ah
def O6:wpS prog (ReflectliteType.abiMethod (λt=>(λa:Nat=>Value.int IntKind.u8 (a:Int))<$>Rtype.kind t) #[hT 296]) Q H U=Q (.int .u8 25) U:=ah
def Yn:wpS prog (ReflectliteType.abiMethod (λt=>(λa:Nat=>Value.int IntKind.u8 (a:Int))<$>Rtype.kind t) #[hT 214]) Q H U=Q (.int .u8 22) U:=ah
def O3:wpS prog (ReflectliteType.method ReflectliteType.elem #[.agg #[hT 297]]) Q H U=Q (rT 296) U:=ah
def Yg:wpS prog (ReflectliteType.method ReflectliteType.elem #[.agg #[hT 298]]) Q H U=Q (rT 214) U:=ah
def O4:wpS prog (ReflectliteType.relation "Implements" ReflectliteType.implements_ #[.agg #[hT 296],rT 45]) Q H U=Q (.bool true) U:=ah
def Yl:wpS prog (ReflectliteType.relation "Implements" ReflectliteType.implements_ #[.agg #[hT 214],rT 45]) Q H U=Q (.bool true) U:=ah
variable {v:Value}
def YC:wpS prog (ReflectliteType.typeOf #[.iface 296 v]) Q H U=Q (rT 296) U:=ah
def Pc:wpS prog (ReflectliteType.typeOf #[.iface 214 v]) Q H U=Q (rT 214) U:=ah
def Yd:wpS prog (ReflectliteType.relation "AssignableTo" ReflectliteType.assignableTo #[.agg #[hT 296],rT 296]) Q H U=Q (.bool true) U:=ah
def X9:wpS prog (ReflectliteType.relation "AssignableTo" ReflectliteType.assignableTo #[.agg #[hT 214],rT 214]) Q H U=Q (.bool true) U:=ah
def Ya:wpS prog (ReflectliteType.relation "AssignableTo" ReflectliteType.assignableTo #[.agg #[hT 214],rT 296]) Q H U=Q (.bool false) U:=ah
variable {QP:Option (TypeId×Addr×Nat)->Hp->Prop}
def O8:wpS prog (ReflectliteValue.parts (.agg #[hT 297,pV a,.int .u64 150])) QP H U=QP (some (297,⟨a,0,none⟩,150)) U:=ah
def O9:wpS prog (ReflectliteValue.parts (.agg #[hT 298,pV a,.int .u64 150])) QP H U=QP (some (298,⟨a,0,none⟩,150)) U:=ah
def Yx:wpS prog (ReflectliteValue.parts (.agg #[hT 296,pV a,.int .u64 409])) QP H U=QP (some (296,⟨a,0,none⟩,409)) U:=ah
def Yv:wpS prog (ReflectliteValue.parts (.agg #[hT 214,pV a,.int .u64 406])) QP H U=QP (some (214,⟨a,0,none⟩,406)) U:=ah
def Yw:wpS prog (ReflectliteValue.parts (.agg #[hT 296,pV a,.int .u64 153])) QP H U=QP (some (296,⟨a,0,none⟩,153)) U:=ah
def Yu:wpS prog (ReflectliteValue.parts (.agg #[hT 214,pV a,.int .u64 150])) QP H U=QP (some (214,⟨a,0,none⟩,150)) U:=ah
variable {QE:Option TypeId->Hp->Prop}
def Yh:wpS prog (Rtype.elem? 297) QE H U=QE (some 296) U:=ah
def Yi:wpS prog (Rtype.elem? 298) QE H U=QE (some 214) U:=ah
def Yt{p:Nat}:wpS prog (ReflectliteValue.mk 296 ⟨p,0,none⟩ ReflectliteValue.flagAddr) Q H U=Q (.agg #[hT 296,pV p,.int .u64 409]) U:=ah
def Ys{p:Nat}:wpS prog (ReflectliteValue.mk 214 ⟨p,0,none⟩ ReflectliteValue.flagAddr) Q H U=Q (.agg #[hT 214,pV p,.int .u64 406]) U:=ah
def Yf{QD:Bool->Hp->Prop}:wpS prog (Rtype.directlyAssignable 296 296) QD H U=QD true U:=ah
def Ye{QD:Bool->Hp->Prop}:wpS prog (Rtype.directlyAssignable 214 214) QD H U=QD true U:=ah
variable {e:TypeId}
def O5(ha:U.f a=some (.cells #[pV t] e (0,0)))(h:Q (.bool false) U):wpS prog (ReflectliteValue.method (ReflectliteValue.valueError "reflectlite.Value.IsNil" 0) ReflectliteValue.isNil #[.agg #[hT 297,pV a,.int .u64 150]]) Q H U:=by rw[F9,aG,O8];show wpS prog (ReflectliteValue.isNil 297 ⟨a,0,none⟩ 150 22) Q H U;unfold ReflectliteValue.isNil;rw[if_neg ai,aG];refine wT (P:=prog) (t:=297) (a:=⟨a,0,none⟩) (U:=U) ah (va (CH ah ha) ?_);exact h
def Yj(ha:U.f a=some (.cells #[pV t] e (0,0)))(h:Q (.agg #[hT 296,pV t,.int .u64 409]) U):wpS prog (ReflectliteValue.method (ReflectliteValue.valueError "reflectlite.Value.Elem" 0) ReflectliteValue.elem #[.agg #[hT 297,pV a,.int .u64 150]]) Q H U:=by rw[F9,aG,O8];show wpS prog (ReflectliteValue.elem 297 ⟨a,0,none⟩ 150 22) Q H U;unfold ReflectliteValue.elem;rw[if_neg ai];rw[aG];refine wT (P:=prog) (t:=297) (a:=⟨a,0,none⟩) (U:=U) ah (va (CH ah ha) ?_);rw[aG,Yh];exact Yt▸h
def Ym(ha:U.f a=some (.cells #[pV t] e (0,0)))(h:Q (.bool false) U):wpS prog (ReflectliteValue.method (ReflectliteValue.valueError "reflectlite.Value.IsNil" 0) ReflectliteValue.isNil #[.agg #[hT 298,pV a,.int .u64 150]]) Q H U:=by rw[F9,aG,O9];show wpS prog (ReflectliteValue.isNil 298 ⟨a,0,none⟩ 150 22) Q H U;unfold ReflectliteValue.isNil;rw[if_neg ai,aG];refine wT (P:=prog) (t:=298) (a:=⟨a,0,none⟩) (U:=U) ah (va (CH ah ha) ?_);exact h
def Yk(ha:U.f a=some (.cells #[pV t] e (0,0)))(h:Q (.agg #[hT 214,pV t,.int .u64 406]) U):wpS prog (ReflectliteValue.method (ReflectliteValue.valueError "reflectlite.Value.Elem" 0) ReflectliteValue.elem #[.agg #[hT 298,pV a,.int .u64 150]]) Q H U:=by rw[F9,aG,O9];show wpS prog (ReflectliteValue.elem 298 ⟨a,0,none⟩ 150 22) Q H U;unfold ReflectliteValue.elem;rw[if_neg ai];rw[aG];refine wT (P:=prog) (t:=298) (a:=⟨a,0,none⟩) (U:=U) ah (va (CH ah ha) ?_);rw[aG,Yi];exact Ys▸h
variable {b i:Nat}{old:Value}{e1:TypeId}
def Yy(hb:U.f b=some (.cells #[pV i] e1 (0,0)))(ht:U.f t=some (.cells [old].toArray 214 (0,0)))(h:Q (.tuple #[]) (U.set t (.cells [pV i].toArray 214 (0,0)))):
 wpS prog (ReflectliteValue.set #[.agg #[hT 214,pV t,.int .u64 406],.agg #[hT 214,pV b,.int .u64 150]]) Q H U:=by
 rw[Pa,aG,Yv,aG,Yu];simp only[];rw[if_neg ai,aG];refine wT (P:=prog) (t:=214) (a:=⟨b,0,none⟩) (U:=U) ah (va (CH ah hb) ?_);rw[aG,Ye];simp only[if_true,aG];refine Nq ah ?_;unfold vz;simp only[ht];refine⟨trivial,al,trivial,ah,?_⟩;exact h
variable {E:Env prog}
def X6(hb:U.f b=some (.cells #[pV t] 298 (0,0)))(ht:U.f t=some (.cells [old].toArray 214 (0,0))):
 ay E 64 #[.iface 214 (pV i),.iface 298 (pV t),.agg #[hT 298,pV b,.int .u64 150],rT 214] U λe J=>e=.returned (.bool true)/\J=U.set t (.cells [pV i].toArray 214 (0,0)):=by
 refine fR func64 ntmps64 results64 rfl al λQ aD an aA=>?_;refine ag ?_;refineλb6 qa=>?_;have n6:∀{x o},U.f x=some o->¬x=b6:=λh e=>by subst e;rw[qa]at h;cases h
 refine ag ?_;refine di (λm I ds ae=>ds=[]/\I 0=.iface 214 (pV i)/\I 3=rT 214/\I 6=pV b6/\ae=U.set b6 (.cells [hT 298,pV b,.int .u64 150].toArray 140 (0,0))) 0 ?_ ?_
 ·refine⟨rfl,?_,?_,?_,rfl⟩<;>exact au
 ·rintro m I ds ae X ⟨rfl,h0,h3,h6,rfl⟩ hX;refine aJ h0 ?_;refine fN func113 rfl ah ah IK ?_;rw[Pc];refine aJ h3 ?_;refine ma (t:=222) (v:=.agg #[hT 214]) (recv:=.agg #[hT 214]) (f:=333) (name:= "AssignableTo") ?_ (λQ H h=>by rw[F8];exact h) ?_
  ·exact au
  refine ag ?_;refine fN func333 rfl ah ah IL ?_;rw[X9];have l6:∀o,(U.set b6 o).f b6=some o:=λ_=>Hp.bD _ _;refine bu h6 l6 ?_;refine fN func114 rfl ah ah Wv ?_;refine Yk (a:=b) (t:=t) (e:=298) ((Hp.az (n6 hb)).trans hb) ?_;refine aJ h0 ?_;refine fN func61 rfl ah ah Fv ?_;show wpS prog (ReflectliteValue.unpack (.iface 214 (pV i))) _ _ _;rw[YD];intro b9 pd
  have n9:∀{x:Nat} {o:Obj},U.f x=some o->¬x=b9:=by intro x o h e;subst e;have h1:(U.set b6 (.cells [hT 298,pV b,.int .u64 150].toArray 140 (0,0))).f x=some o:=(Hp.az (n6 h)).trans h;have h2:(U.set b6 (.cells [hT 298,pV b,.int .u64 150].toArray 140 (0,0))).f x=none:=pd;rw[h1]at h2;cases h2
  refine ag ?_;refine fN func115 rfl ah ah Ww ?_;refine Yy (t:=t) (b:=b9) (i:=i) (old:=old) (e1:=214) aZ ((Hp.az (n9 ht)).trans ((Hp.az (n6 ht)).trans ht)) ?_;refine ag ?_;refine an (J:=(U.set t (.cells [pV i].toArray 214 (0,0)))) aI ?_ ⟨by simp[up],rfl⟩;exact ir (λx p h=>(Hp.az (n9 h)).trans ((Hp.az (n6 h)).trans h)) _ _
variable {et:TypeId}
def X3(h0:U.f 0=some (.cells #[rT 45] et (0,0)))(ht:U.f t=some (.cells [old].toArray 214 (0,0))):
 ay E 41 #[.iface 214 (pV i),.iface 298 (pV t)] U λe J=>e=.returned (.bool true)/\J=U.set t (.cells [pV i].toArray 214 (0,0)):=by
 refine fR func41 ntmps41 results41 rfl al λQ aD an aA=>?_;refine ag ?_;refine fN func61 rfl ah ah Fv ?_;show wpS prog (ReflectliteValue.unpack (.iface 298 (pV t))) _ _ _;rw[YF];intro b hb;have nb:∀{x o},U.f x=some o->¬x=b:=λh e=>by subst e;rw[hb]at h;cases h
 refine ag ?_;refineλb5 lV=>?_;have yo:¬b5=b:=bj lV aZ;rw[Hp.az yo]at lV
 have n5:∀{x:Nat} {o:Obj},U.f x=some o->¬x=b5:=by intro x o h e;subst e;rw[lV]at h;cases h
 have l5:∀(H:Hp) (o:Obj),(H.set b5 o).f b5=some o:=λ_ _=>Hp.bD _ _;have lb:∀o o',((U.set b o).set b5 o').f b=some o:=λo o'=>(Hp.az (λe=>yo e.symm)).trans aZ;have lo:∀{x:Nat} {p:Obj} o o',U.f x=some p->((U.set b o).set b5 o').f x=some p:=λo o' h=>(Hp.az (n5 h)).trans ((Hp.az (nb h)).trans h);refine aJ l5 ?_;refine fN func62 rfl ah ah NZ ?_;rw[YA];refine ag ?_;refine ma (t:=222) (v:=.agg #[hT 298]) (recv:=hT 298) (f:=319) (name:= "Kind") ?_ (λQ H h=>by rw[AN];exact h) ?_
 ·exact au
 refine ag ?_;refine fN func319 rfl ah ah Cm ?_;show wpS prog (ReflectliteType.abiMethod (λt=>(λa:Nat=>Value.int IntKind.u8 (a:Int))<$>Rtype.kind t) #[hT 298]) _ _ _;rw[Yo];refine aJ l5 ?_;rw[Hp.set_set];refine fN func63 rfl ah ah N0 ?_;refine Ym (a:=b) (t:=t) (e:=298) (lb _ _) ?_;refine ag ?_;refine ma (t:=222) (v:=.agg #[hT 298]) (recv:=.agg #[hT 298]) (f:=335) (name:= "Elem") ?_ (λQ H h=>by rw[Jt];exact h) ?_
 ·exact au
 refine ag ?_;refine fN func335 rfl ah ah NX ?_;rw[Yg];refine ag ?_;refine ma (t:=222) (v:=.agg #[hT 214]) (recv:=hT 214) (f:=319) (name:= "Kind") ?_ (λQ H h=>by rw[AN];exact h) ?_
 ·exact au
 refine ag ?_;refine fN func319 rfl ah ah Cm ?_;show wpS prog (ReflectliteType.abiMethod (λt=>(λa:Nat=>Value.int IntKind.u8 (a:Int))<$>Rtype.kind t) #[hT 214]) _ _ _;rw[Yn];have l0:∀o o',((U.set b o).set b5 o').f 0=some (.cells #[rT 45] et (0,0)):=λo o'=>lo o o' h0;refine aJ l0 ?_;refine ma (t:=222) (v:=.agg #[hT 214]) (recv:=.agg #[hT 214]) (f:=336) (name:= "Implements") ?_ (λQ H h=>by rw[Ju];exact h) ?_
 ·exact au
 refine ag ?_;refine fN func336 rfl ah ah NY ?_;rw[Yl];refine aJ l5 ?_;refine aT (X6 (b:=b) (lb _ _) (lo _ _ ht)) ?_;refine ag ?_;refine an (J:=(U.set t (.cells [pV i].toArray 214 (0,0)))) aI ?_ ⟨by simp[up],rfl⟩;exact ir (λx p h=>lo _ _ h) _ _
def Yp(ha:U.f a=some (.cells #[v] e (0,0))):jh prog 296 ⟨a,0,none⟩ U=some (.agg #[v]):=by have hg:dD prog 296=true:=ah;have hs:cD prog 296=1:=ah;unfold jh;rw[if_pos hg];simp[cellsOf,ha,hs]
def Yz(hb:U.f b=some (.cells #[pV i] e1 (0,0)))(ht:U.f t=some (.cells [old].toArray 296 (0,0)))(h:Q (.tuple #[]) (U.set t (.cells [pV i].toArray 296 (0,0)))):
 wpS prog (ReflectliteValue.set #[.agg #[hT 296,pV t,.int .u64 409],.agg #[hT 296,pV b,.int .u64 153]]) Q H U:=by
 rw[Pa,aG,Yx,aG,Yw];simp only[];rw[if_neg ai,aG];refine wT (P:=prog) (t:=296) (a:=⟨b,0,none⟩) (U:=U) ah (va (Yp hb) ?_);rw[aG,Yf];simp only[if_true,aG];refine Nq ah ?_;unfold vz;have e:(Value.agg #[pV i]).cells= #[pV i]:=by first|rfl|decide|simp[Value.cells]
 simp only[ht,e];refine⟨trivial,al,trivial,ah,?_⟩;refine⟨by simp[dp],?_⟩;have e3: #[old].extract 0 0++ #[pV i]++ #[old].extract (0+ #[pV i].size)= #[pV i]:=al;rw[e3];exact h
def X8(hb:U.f b=some (.cells #[pV t] 297 (0,0)))(ht:U.f t=some (.cells [old].toArray 296 (0,0))):
 ay E 64 #[.iface 296 (.agg #[pV i]),.iface 297 (pV t),.agg #[hT 297,pV b,.int .u64 150],rT 296] U λe J=>e=.returned (.bool true)/\J=U.set t (.cells [pV i].toArray 296 (0,0)):=by
 refine fR func64 ntmps64 results64 rfl al λQ aD an aA=>?_;refine ag ?_;refineλb6 qa=>?_;have n6:∀{x o},U.f x=some o->¬x=b6:=λh e=>by subst e;rw[qa]at h;cases h
 refine ag ?_;refine di (λm I ds ae=>ds=[]/\I 0=.iface 296 (.agg #[pV i])/\I 3=rT 296/\I 6=pV b6/\ae=U.set b6 (.cells [hT 297,pV b,.int .u64 150].toArray 140 (0,0))) 0 ?_ ?_
 ·refine⟨rfl,?_,?_,?_,rfl⟩<;>exact au
 ·rintro m I ds ae X ⟨rfl,h0,h3,h6,rfl⟩ hX;refine aJ h0 ?_;refine fN func113 rfl ah ah IK ?_;rw[YC];refine aJ h3 ?_;refine ma (t:=222) (v:=.agg #[hT 296]) (recv:=.agg #[hT 296]) (f:=333) (name:= "AssignableTo") ?_ (λQ H h=>by rw[F8];exact h) ?_
  ·exact au
  refine ag ?_;refine fN func333 rfl ah ah IL ?_;rw[Yd];have l6:∀o,(U.set b6 o).f b6=some o:=λ_=>Hp.bD _ _;refine bu h6 l6 ?_;refine fN func114 rfl ah ah Wv ?_;refine Yj (a:=b) (t:=t) (e:=297) ((Hp.az (n6 hb)).trans hb) ?_;refine aJ h0 ?_;refine fN func61 rfl ah ah Fv ?_;show wpS prog (ReflectliteValue.unpack (.iface 296 (.agg #[pV i]))) _ _ _;rw[YE];intro b9 pd
  have n9:∀{x:Nat} {o:Obj},U.f x=some o->¬x=b9:=by intro x o h e;subst e;have h1:(U.set b6 (.cells [hT 297,pV b,.int .u64 150].toArray 140 (0,0))).f x=some o:=(Hp.az (n6 h)).trans h;have h2:(U.set b6 (.cells [hT 297,pV b,.int .u64 150].toArray 140 (0,0))).f x=none:=pd;rw[h1]at h2;cases h2
  refine ag ?_;refine fN func115 rfl ah ah Ww ?_;refine Yz (t:=t) (b:=b9) (i:=i) (old:=old) (e1:=296) aZ ((Hp.az (n9 ht)).trans ((Hp.az (n6 ht)).trans ht)) ?_;refine ag ?_;refine an (J:=(U.set t (.cells [pV i].toArray 296 (0,0)))) aI ?_ ⟨by simp[up],rfl⟩;exact ir (λx p h=>(Hp.az (n9 h)).trans ((Hp.az (n6 h)).trans h)) _ _
def X5(h0:U.f 0=some (.cells #[rT 45] et (0,0)))(ht:U.f t=some (.cells [old].toArray 296 (0,0))):
 ay E 41 #[.iface 296 (.agg #[pV i]),.iface 297 (pV t)] U λe J=>e=.returned (.bool true)/\J=U.set t (.cells [pV i].toArray 296 (0,0)):=by
 refine fR func41 ntmps41 results41 rfl al λQ aD an aA=>?_;refine ag ?_;refine fN func61 rfl ah ah Fv ?_;show wpS prog (ReflectliteValue.unpack (.iface 297 (pV t))) _ _ _;rw[Pd];intro b hb;have nb:∀{x o},U.f x=some o->¬x=b:=λh e=>by subst e;rw[hb]at h;cases h
 refine ag ?_;refineλb5 lV=>?_;have yo:¬b5=b:=bj lV aZ;rw[Hp.az yo]at lV
 have n5:∀{x:Nat} {o:Obj},U.f x=some o->¬x=b5:=by intro x o h e;subst e;rw[lV]at h;cases h
 have l5:∀(H:Hp) (o:Obj),(H.set b5 o).f b5=some o:=λ_ _=>Hp.bD _ _;have lb:∀o o',((U.set b o).set b5 o').f b=some o:=λo o'=>(Hp.az (λe=>yo e.symm)).trans aZ;have lo:∀{x:Nat} {p:Obj} o o',U.f x=some p->((U.set b o).set b5 o').f x=some p:=λo o' h=>(Hp.az (n5 h)).trans ((Hp.az (nb h)).trans h);refine aJ l5 ?_;refine fN func62 rfl ah ah NZ ?_;rw[Pb];refine ag ?_;refine ma (t:=222) (v:=.agg #[hT 297]) (recv:=hT 297) (f:=319) (name:= "Kind") ?_ (λQ H h=>by rw[AN];exact h) ?_
 ·exact au
 refine ag ?_;refine fN func319 rfl ah ah Cm ?_;show wpS prog (ReflectliteType.abiMethod (λt=>(λa:Nat=>Value.int IntKind.u8 (a:Int))<$>Rtype.kind t) #[hT 297]) _ _ _;rw[O7];refine aJ l5 ?_;rw[Hp.set_set];refine fN func63 rfl ah ah N0 ?_;refine O5 (a:=b) (t:=t) (e:=297) (lb _ _) ?_;refine ag ?_;refine ma (t:=222) (v:=.agg #[hT 297]) (recv:=.agg #[hT 297]) (f:=335) (name:= "Elem") ?_ (λQ H h=>by rw[Jt];exact h) ?_
 ·exact au
 refine ag ?_;refine fN func335 rfl ah ah NX ?_;rw[O3];refine ag ?_;refine ma (t:=222) (v:=.agg #[hT 296]) (recv:=hT 296) (f:=319) (name:= "Kind") ?_ (λQ H h=>by rw[AN];exact h) ?_
 ·exact au
 refine ag ?_;refine fN func319 rfl ah ah Cm ?_;show wpS prog (ReflectliteType.abiMethod (λt=>(λa:Nat=>Value.int IntKind.u8 (a:Int))<$>Rtype.kind t) #[hT 296]) _ _ _;rw[O6];have l0:∀o o',((U.set b o).set b5 o').f 0=some (.cells #[rT 45] et (0,0)):=λo o'=>lo o o' h0;refine aJ l0 ?_;refine ma (t:=222) (v:=.agg #[hT 296]) (recv:=.agg #[hT 296]) (f:=336) (name:= "Implements") ?_ (λQ H h=>by rw[Ju];exact h) ?_
 ·exact au
 refine ag ?_;refine fN func336 rfl ah ah NY ?_;rw[O4];refine aJ l5 ?_;refine aT (X8 (b:=b) (lb _ _) (lo _ _ ht)) ?_;refine ag ?_;refine an (J:=(U.set t (.cells [pV i].toArray 296 (0,0)))) aI ?_ ⟨by simp[up],rfl⟩;exact ir (λx p h=>lo _ _ h) _ _
variable {nm:String}{sg:TypeId}
def akS{got:Array Method}(h:(got.any λm=>m.name==nm&&m.sig==sg)=false):∃m,Instr.missingMethod #[(nm,sg)] got=some m:=by
 unfold Instr.missingMethod;by_cases c:(Char.ofNat (nat_lit 46))∈nm.toList
 ·simp[h,List.partition,List.partition.loop,c,Instr.least]
 ·simp[h,List.partition,List.partition.loop,c,Instr.least]
def Ir{D T:TypeId}{au1 IT:TypeInfo}(hu:prog.underlying T=some (.interface #[(nm,sg)]))(hi:prog.info? D=some au1)(hm:(au1.methods.any λm=>m.name==nm&&m.sig==sg)=false)(hT:prog.info? T=some IT)(hz:IT.zero=some .nilIface)(Q:Value->Hp->Prop)(H:Halt->Hp->Prop):wpS prog (Instr.typeAssert (.iface D v) 45 T true) Q H U=Q (.tuple #[.nilIface,.bool false]) U:=by
 obtain⟨m,rX⟩:=akS hm;simp only[Instr.typeAssert,aG,eu,hu,gl,hi,rX,if_true,zeroValue,hT,hz,bt]
def aqI(Q:Value->Hp->Prop)(H:Halt->Hp->Prop):wpS prog (Instr.typeAssert (.iface 214 (pV i)) 45 227 true) Q H U=Q (.tuple #[.nilIface,.bool false]) U:=
 Ir (nm:= "As") (sg:=229) (au1:=t214) (IT:=t227) ah ah jb ah ah Q H
def aqH(Q:Value->Hp->Prop)(H:Halt->Hp->Prop):wpS prog (Instr.typeAssert (.iface 214 (pV i)) 45 230 true) Q H U=Q (.tuple #[.iface 214 (pV i),.bool true]) U:=ah
def aqE{i:Int}(Q:Value->Hp->Prop)(H:Halt->Hp->Prop):wpS prog (Instr.typeAssert (.iface 215 (iV i)) 45 227 true) Q H U=Q (.tuple #[.nilIface,.bool false]) U:=
 Ir (nm:= "As") (sg:=229) (au1:=t215) (IT:=t227) ah ah jb ah ah Q H
def aqF{i:Int}(Q:Value->Hp->Prop)(H:Halt->Hp->Prop):wpS prog (Instr.typeAssert (.iface 215 (iV i)) 45 230 true) Q H U=Q (.tuple #[.nilIface,.bool false]) U:=
 Ir (nm:= "Unwrap") (sg:=231) (au1:=t215) (IT:=t230) ah ah jb ah ah Q H
def aqG{i:Int}(Q:Value->Hp->Prop)(H:Halt->Hp->Prop):wpS prog (Instr.typeAssert (.iface 215 (iV i)) 45 232 true) Q H U=Q (.tuple #[.nilIface,.bool false]) U:=
 Ir (nm:= "Unwrap") (sg:=234) (au1:=t215) (IT:=t232) ah ah jb ah ah Q H
def Ny{D T:TypeId}{l:Array (String×TypeId)}(hu:prog.underlying T=some (.interface l)):lJ prog T (.iface D v)=none:=by simp only[lJ,hu]
def VU{D:TypeId}:lJ prog 227 (.iface D v)=none:=Ny (l:=#[("As",229)]) ah
def VV{D:TypeId}:lJ prog 230 (.iface D v)=none:=Ny (l:=#[("Unwrap",231)]) ah
def aqJ{D:TypeId}:lJ prog 232 (.iface D v)=none:=Ny (l:=#[("Unwrap",234)]) ah
def YB:wpS prog (ReflectliteType.typeOf #[.iface 215 v]) Q H U=Q (rT 215) U:=ah
def Yb:wpS prog (ReflectliteType.relation "AssignableTo" ReflectliteType.assignableTo #[.agg #[hT 215],rT 296]) Q H U=Q (.bool false) U:=ah
def Yr{QM:FuncId×Value->Hp->Prop}:wpS prog (method (prog.types.size+Made.depth) 214 (pV i) "Unwrap") QM H U=QM (330,pV i) U:=ah
variable {I:av}{ds:List Deferred}{dst:Option Tmp}{ty:TypeId}{pos:String}{af:Array Edge}{g:Option (Nat×Bool)}{nx:av->List Deferred->Hp->Prop}{pn:List PanicEntry->Hp->Prop}
def Fi{x:Operand}{t a D:TypeId}{r:Value}{k:Value->Prop}{o:Option Value}(ho:o=none)(hk:∀(Q:Value->Hp->Prop) (H:Halt->Hp->Prop),wpS prog (Instr.typeAssert (.iface D v) t a true) Q H U=Q r U)(hx:ak I x=.iface D v)(h:nx (aB I dst r) ds U):lH (wpOp E ⟨dst,.typeAssert x t a true,ty,pos,af,g⟩ I ds U nx pn) k o:=by
 subst ho;show wpOp E ⟨dst,.typeAssert x t a true,ty,pos,af,g⟩ I ds U nx pn;unfold wpOp;simp only[execOp,lN,hx];rw[hk];exact h
variable {e:Int}{x y:Value}
def aro(hi:U.f i=some (.cells [iV e,x,y].toArray 217 (0,0))):ay E 330 #[pV i] U λe' J=>e'=.returned (.iface 215 (iV e))/\J=U:=by refine aX func330 ntmps330 results330 λQ aD an aA=>?_;refine aJ hi ?_;exact an aI ao ⟨by simp[up],rfl⟩
def X7(hi:U.f i=some (.cells [iV e,x,y].toArray 217 (0,0))):
 ay E 64 #[.iface 214 (pV i),.iface 297 (pV t),.agg #[hT 297,pV b,.int .u64 150],rT 296] U λe J=>e=.returned (.bool false)/\J=U:=by
 refine fR func64 ntmps64 results64 rfl al λQ aD an aA=>?_;refine ag ?_;refineλb6 qa=>?_;have n6:∀{x o},U.f x=some o->¬x=b6:=λh e=>by subst e;rw[qa]at h;cases h
 refine ag ?_;refine di (λm I ds ae=>ds=[]/\I 3=rT 296/\I 6=pV b6/\ae=U.set b6 (.cells [hT 297,pV b,.int .u64 150].toArray 140 (0,0))/\((m=1/\I 0=.iface 214 (pV i))\/(m=0/\I 0=.iface 215 (iV e)))) 1 ?_ ?_
 ·refine⟨rfl,?_,?_,rfl,.inl ⟨rfl,?_⟩⟩<;>exact au
 ·rintro m I ds ae X ⟨rfl,h3,h6,rfl,hm⟩ hX;rcases hm with⟨rfl,h0⟩|⟨rfl,h0⟩
  ·refine aJ h0 ?_;refine fN func113 rfl ah ah IK ?_;rw[Pc];refine aJ h3 ?_;refine ma (t:=222) (v:=.agg #[hT 214]) (recv:=.agg #[hT 214]) (f:=333) (name:= "AssignableTo") ?_ (λQ H h=>by rw[F8];exact h) ?_
   ·exact au
   refine ag ?_;refine fN func333 rfl ah ah IL ?_;rw[Ya];refine aJ h0 ?_;refine Fi VU (aqI (i:=i)) au ?_;refine aJ h0 ?_;refine Fi VV (aqH (i:=i)) au ?_;refine ag ?_;refine ma (t:=214) (v:=pV i) (recv:=pV i) (f:=330) (name:= "Unwrap") ?_ (λQ H h=>by rw[Yr];exact h) ?_
   ·exact au
   refine ag ?_;refine aT (aro (e:=e) (x:=x) (y:=y) ((Hp.az (n6 hi)).trans hi)) ?_;refine ag ?_;refine hX 0 _ _ _ _ aa ⟨rfl,?_,?_,rfl,.inr ⟨rfl,?_⟩⟩ ao
   ·exact aQ h3
   ·exact aQ h6
   ·exact au
  ·refine aJ h0 ?_;refine fN func113 rfl ah ah IK ?_;rw[YB];refine aJ h3 ?_;refine ma (t:=222) (v:=.agg #[hT 215]) (recv:=.agg #[hT 215]) (f:=333) (name:= "AssignableTo") ?_ (λQ H h=>by rw[F8];exact h) ?_
   ·exact au
   refine ag ?_;refine fN func333 rfl ah ah IL ?_;rw[Yb];refine aJ h0 ?_;refine Fi VU (aqE (i:=e)) au ?_;refine aJ h0 ?_;refine Fi VV (aqF (i:=e)) au ?_;refine ag ?_;refine Fi aqJ (aqG (i:=e)) au ?_;refine ag ?_;refine an (J:=U) aI ?_ ⟨?_,rfl⟩
   ·first|exact kG qa|(rw[Hp.set_set];exact kG qa)
   ·simp[up]
def X4(hi:U.f i=some (.cells [iV e,x,y].toArray 217 (0,0)))(h0:U.f 0=some (.cells #[rT 45] et (0,0)))(ht:U.f t=some (.cells [old].toArray 296 (0,0))):
 ay E 41 #[.iface 214 (pV i),.iface 297 (pV t)] U λe J=>e=.returned (.bool false)/\J=U:=by
 refine fR func41 ntmps41 results41 rfl al λQ aD an aA=>?_;refine ag ?_;refine fN func61 rfl ah ah Fv ?_;show wpS prog (ReflectliteValue.unpack (.iface 297 (pV t))) _ _ _;rw[Pd];intro b hb;have nb:∀{x o},U.f x=some o->¬x=b:=λh e=>by subst e;rw[hb]at h;cases h
 refine ag ?_;refineλb5 lV=>?_;have yo:¬b5=b:=bj lV aZ;rw[Hp.az yo]at lV
 have n5:∀{x:Nat} {o:Obj},U.f x=some o->¬x=b5:=by intro x o h e;subst e;rw[lV]at h;cases h
 have l5:∀(H:Hp) (o:Obj),(H.set b5 o).f b5=some o:=λ_ _=>Hp.bD _ _;have lb:∀o o',((U.set b o).set b5 o').f b=some o:=λo o'=>(Hp.az (λe=>yo e.symm)).trans aZ;have lo:∀{x:Nat} {p:Obj} o o',U.f x=some p->((U.set b o).set b5 o').f x=some p:=λo o' h=>(Hp.az (n5 h)).trans ((Hp.az (nb h)).trans h);refine aJ l5 ?_;refine fN func62 rfl ah ah NZ ?_;rw[Pb];refine ag ?_;refine ma (t:=222) (v:=.agg #[hT 297]) (recv:=hT 297) (f:=319) (name:= "Kind") ?_ (λQ H h=>by rw[AN];exact h) ?_
 ·exact au
 refine ag ?_;refine fN func319 rfl ah ah Cm ?_;show wpS prog (ReflectliteType.abiMethod (λt=>(λa:Nat=>Value.int IntKind.u8 (a:Int))<$>Rtype.kind t) #[hT 297]) _ _ _;rw[O7];refine aJ l5 ?_;rw[Hp.set_set];refine fN func63 rfl ah ah N0 ?_;refine O5 (a:=b) (t:=t) (e:=297) (lb _ _) ?_;refine ag ?_;refine ma (t:=222) (v:=.agg #[hT 297]) (recv:=.agg #[hT 297]) (f:=335) (name:= "Elem") ?_ (λQ H h=>by rw[Jt];exact h) ?_
 ·exact au
 refine ag ?_;refine fN func335 rfl ah ah NX ?_;rw[O3];refine ag ?_;refine ma (t:=222) (v:=.agg #[hT 296]) (recv:=hT 296) (f:=319) (name:= "Kind") ?_ (λQ H h=>by rw[AN];exact h) ?_
 ·exact au
 refine ag ?_;refine fN func319 rfl ah ah Cm ?_;show wpS prog (ReflectliteType.abiMethod (λt=>(λa:Nat=>Value.int IntKind.u8 (a:Int))<$>Rtype.kind t) #[hT 296]) _ _ _;rw[O6];have l0:∀o o',((U.set b o).set b5 o').f 0=some (.cells #[rT 45] et (0,0)):=λo o'=>lo o o' h0;refine aJ l0 ?_;refine ma (t:=222) (v:=.agg #[hT 296]) (recv:=.agg #[hT 296]) (f:=336) (name:= "Implements") ?_ (λQ H h=>by rw[Ju];exact h) ?_
 ·exact au
 refine ag ?_;refine fN func336 rfl ah ah NY ?_;rw[O4];refine aJ l5 ?_;refine aT (X7 (b:=b) (lo _ _ hi)) ?_;refine ag ?_;refine an (J:=U) aI ?_ ⟨by simp[up],rfl⟩;exactλx p h=>lo _ _ h
end
section
variable {β:Type}
variable {α:Type}[DecidableEq α]
def oF {l:List (α×β)}{k:α}{v:β}(nd:(l.map (·.1)).Nodup)(h:(k,v)∈l):bq l k=some v:=by
 induction l with
 |nil=>cases h
 |cons e l ih=>
  rw[List.map_cons,List.nodup_cons]at nd;unfold bq;rw[List.find?_cons];rcases List.mem_cons.1 h with rfl|h'
  ·simp
  ·have aE:¬e.1=k:=λx=>nd.1 (by rw[x];exact List.mem_map_of_mem (f:=(·.1)) h');simp only[aE,decide_false];exact ih nd.2 h'
def Io {l:List (α×β)}{k:α}{v:β}(nd:(l.map (·.1)).Nodup)(h:bq l k=some v)(f:β->β)(g:β->Nat):
 ((dE l k f).map λe=>g e.2).sum+g v=(l.map λe=>g e.2).sum+g (f v):=by
 induction l with
 |nil=>cases h
 |cons e l ih=>
  rw[List.map_cons,List.nodup_cons]at nd;unfold bq at h;rw[List.find?_cons]at h;unfold dE at ih|-;rw[List.map_cons];by_cases he:e.1=k
  ·simp only[he,decide_true,Option.map_some]at h
   cases h
   have e2:(l.map λe=>if e.1=k then(e.1,f e.2)else e)=l:=by
    have:(l.map λe=>if e.1=k then(e.1,f e.2)else e)=l.map λe=>e:=List.map_congr_left λa ha=>by rw[if_neg];intro x;exact nd.1 (by rw[he,<-x];exact List.mem_map_of_mem (f:=(·.1)) ha)
    rw[this,List.map_id']
   have e3:(List.map (λe=>g e.2) (e::l)).sum=g e.2+(l.map λe=>g e.2).sum:=by rw[List.map_cons,List.sum_cons]
   rw[if_pos he,e2,e3,List.map_cons,List.sum_cons];dsimp only;omega
  ·simp only[he,decide_false]at h;simp only[if_neg he,List.map_cons,List.sum_cons];have:=ih nd.2 h;omega
def Nv {l:List (α×β)}{k:α}(f:β->β)(g:β->Nat)(hg:∀v,bq l k=some v->g (f v)=g v)(nd:(l.map (·.1)).Nodup):
 ((dE l k f).map λe=>g e.2).sum=(l.map λe=>g e.2).sum:=by
 cases h:bq l k with
 |some v=>have:=Io nd h f g;have:=hg v h;omega
 |none=>
  have:dE l k f=l:=by
   unfold dE
   have:(l.map λe=>if e.1=k then(e.1,f e.2)else e)=l.map λe=>e:=List.map_congr_left λa ha=>by rw[if_neg (ja h a ha)]
   rw[this,List.map_id']
  rw[this]
def aqt {lt:α->α->Bool}(l:List (α×β))(k:α)(v:β)(g:β->Nat):((da lt l k v).map λe=>g e.2).sum=(l.map λe=>g e.2).sum+g v:=by have:=((vH (lt:=lt) l k v).map λe=>g e.2).sum_nat;rw[this];simp only[List.map_cons,List.sum_cons];omega
def aqs {l:List (α×β)}{k:α}{v:β}(nd:(l.map (·.1)).Nodup)(h:bq l k=some v)(g:β->Nat):
 ((cC l k).map λe=>g e.2).sum+g v=(l.map λe=>g e.2).sum:=by
 induction l with
 |nil=>cases h
 |cons e l ih=>
  rw[List.map_cons,List.nodup_cons]at nd;unfold bq at h;rw[List.find?_cons]at h;unfold cC at ih|-;rw[List.filter_cons];by_cases he:e.1=k
  ·simp only[he,decide_true,Option.map_some]at h
   cases h
   have e2:(l.filter λe=>decide (e.1≠k))=l:=List.filter_eq_self.2 λa ha=>by simp only[ne_eq,decide_not,Bool.not_eq_eq_eq_not,Bool.not_true,decide_eq_false_iff_not];intro x;exact nd.1 (by rw[he,<-x];exact List.mem_map_of_mem (f:=(·.1)) ha)
   rw[if_neg (by simp[he]),e2];simp only[List.map_cons,List.sum_cons];omega
  ·simp only[he,decide_false]at h;have:=ih nd.2 h;rw[if_pos (by simp[he])];simp only[List.map_cons,List.sum_cons]at this|-;omega
omit [DecidableEq α]in
def FY {lt:α->α->Bool}{l:List (α×β)}{k:α}{v:β}{e:α×β}:e∈da lt l k v↔e=(k,v)\/e∈l:=by rw[(vH l k v).mem_iff,List.mem_cons]
def OS {lt:α->α->Bool}{l:List (α×β)}{k:α}{v:β}(nd:(l.map (·.1)).Nodup)(h:bq l k=none):((da lt l k v).map (·.1)).Nodup:=by rw[((vH (lt:=lt) l k v).map (·.1)).nodup_iff,List.map_cons,List.nodup_cons];refine⟨λhm=>?_,nd⟩;obtain⟨e,he,hk⟩:=List.mem_map.1 hm;exact ja h e he hk
def OT {lt:α->α->Bool}(L:yO lt){l:List (α×β)}{k:α}{v:β}(s:dV lt (l.map (·.1))):dV lt ((da lt l k v).map (·.1)):=by
 unfold dV at s|-
 induction l with
 |nil=>simp[da]
 |cons e l ih=>
  rw[List.map_cons,List.pairwise_cons]at s;simp only[da];split
  ·rename_i bl;rw[List.map_cons,List.map_cons,List.pairwise_cons,List.pairwise_cons];refine⟨λb hb=>?_,s⟩;rcases List.mem_cons.1 hb with rfl|hb
   ·exact L.asym bl
   ·exact L.trans (L.asym bl) (s.1 b hb)
  ·rename_i bl;rw[List.map_cons,List.pairwise_cons];refine⟨λb hb=>?_,ih s.2⟩;obtain⟨x,hx,rfl⟩:=List.mem_map.1 hb;rcases FY.1 hx with rfl|hx
   ·simpa using bl
   ·exact s.1 _ (List.mem_map_of_mem hx)
def XJ {l:List (Nat×β)}{k:Nat}{v:β}(s:(l.map (·.1)).Pairwise (·<·))(h:bq l k=none):((da lG l k v).map (·.1)).Pairwise (·<·):=by
 induction l with
 |nil=>simp[da]
 |cons e l ih=>
  have GM:¬e.1=k:=ja h e al
  have eF:bq l k=none:=by unfold bq at h|-;simp only[List.find?_cons,GM,decide_false]at h;exact h
  rw[List.map_cons,List.pairwise_cons]at s;simp only[da];split
  ·rename_i bl;have zB:k<e.1:=by simpa[lG]using bl
   rw[List.map_cons,List.map_cons,List.pairwise_cons,List.pairwise_cons];refine⟨λb hb=>?_,s⟩;rcases List.mem_cons.1 hb with rfl|hb
   ·exact zB
   ·exact Nat.lt_trans zB (s.1 b hb)
  ·rename_i bl
   have zB:e.1<k:=by have:¬k<e.1:=by simpa[lG]using bl
                     omega
   rw[List.map_cons,List.pairwise_cons];refine⟨λb hb=>?_,ih s.2 eF⟩;obtain⟨x,hx,rfl⟩:=List.mem_map.1 hb;rcases FY.1 hx with rfl|hx
   ·exact zB
   ·exact s.1 _ (List.mem_map_of_mem hx)
omit [DecidableEq α]in
def ME [BEq α][LawfulBEq α]{l m:List α}(nd:l.Nodup)(h:∀a∈l,a∈m):l.length<=m.length:=by
 induction l generalizing m with
 |nil=>simp
 |cons a l ih=>
  rw[List.nodup_cons]at nd;have h1:a∈m:=h a al;have:=ih (m:=m.erase a) nd.2 λb hb=>(List.mem_erase_of_ne (λe=>nd.1 (by rw[<-e];exact hb))).2 (h b (by simp[hb]));rw[List.length_erase_of_mem h1]at this;have:0<m.length:=List.length_pos_of_mem h1;simp only[List.length_cons];omega
end
def BN{l:List Nat}(s:l.Pairwise (·<·)):l.Nodup:=s.imp λh=>Nat.ne_of_lt h
def akx{l:List Int}(s:l.Pairwise (·<·)):l.Nodup:=s.imp λh=>Int.ne_of_lt h
variable {α:Type}{l:List α}{f:α->Nat}
def Ip{B:Nat}(h:∀a∈l,f a<=B):(l.map f).sum<=l.length*B:=by
 induction l with
 |nil=>simp
 |cons a l ih=>
  have h1:=h a al;have h2:=ih λb hb=>h b (by simp[hb]);simp only[List.map_cons,List.sum_cons,List.length_cons,Nat.succ_mul];omega
def Mb{a:α}(h:a∈l):f a<=(l.map f).sum:=by
 induction l with
 |nil=>cases h
 |cons b l ih=>
  simp only[List.map_cons,List.sum_cons];rcases List.mem_cons.1 h with rfl|h
  ·omega
  ·have:=ih h;omega
def N.eO(n:N)(w:HN->Nat):Nat:=(n.aF.map λe=>(e.2.ch.map λg=>w g.2).sum).sum
def N.ij(n:N)(nm:List UInt8):Nat:=n.eO λh=>h.un.countP λe=>decide (e.2.1=nm)
def N.cnt(n:N)(nm:List UInt8)(s:Int):Nat:=n.eO λh=>h.un.countP λe=>decide (e.2.1=nm)&&decide (e.2.2.seq=s)
section
variable {n:N}{no:Nat}{c:CN}{h:HN}{w:HN->Nat}{nm:List UInt8}
variable {id:Int}
@[simp] def auI {f:QN->QN}:(n.bH nm f).eO w=n.eO w:=rfl
def NF (hs:(n.aF.map (·.1)).Nodup)(hc:n.ar id=some c)(f:CN->CN):
 (n.dN id f).eO w+(c.ch.map λg=>w g.2).sum=n.eO w+((f c).ch.map λg=>w g.2).sum:=
 Io hs hc f λc=>(c.ch.map λg:Nat×HN=>w g.2).sum
def NG (hs:(n.aF.map (·.1)).Nodup){f:CR->CR}:(n.bA id f).eO w=n.eO w:=
 Nv (f:=λc:CN=>{c with r:=f c.r}) (g:=λc:CN=>(c.ch.map λg:Nat×HN=>w g.2).sum) (λ_ _=>rfl) hs
def aq3 (hs:(n.aF.map (·.1)).Nodup)(hc:n.ar id=some c)(qT:(c.ch.map (·.1)).Nodup)(hh:n.h? id no=some h)(f:HN->HN):
 (n.bB id no f).eO w+w h=n.eO w+w (f h):=by
 have h1:=NF (w:=w) hs hc λc=>{c with ch:=dE c.ch no f};have h2:=Io qT (Dm hh hc) f w;simp only at h1;have e:(n.bB id no f)=n.dN id λc=>{c with ch:=dE c.ch no f}:=rfl;rw[e];omega
def Mc (hh:n.h? id no=some h):w h<=n.eO w:=by obtain⟨c,hc⟩:=xL hh;have h1:w h<=(c.ch.map λg=>w g.2).sum:=Mb (f:=λg:Nat×HN=>w g.2) (iZ (Dm hh hc));have h2:(c.ch.map λg=>w g.2).sum<=n.eO w:=Mb (f:=λe:Int×CN=>(e.2.ch.map λg=>w g.2).sum) (iZ hc);omega
end
variable {m:aM}
structure Cv (m:aM):Prop where
 body:m.body.length<=10000
 key:m.key.length<=255
variable {h:HN}
structure AH (T:Int) (h:HN):Prop where
 un:(h.un.map (·.1)).Pairwise (·<·)
 ut:∀e∈h.un,(e.1:Int)<=h.r.tag
 tag:0<=h.r.tag/\h.r.tag<=T
 co:dV cP (h.co.map (·.1))
 cn:(h.co.map (·.1)).Nodup
 tG:h.co.length<=4
 want:0<=h.r.want/\h.r.want<=3
 body:h.r.body.length<=20000
 size:h.r.size<=10000
 key:h.r.key.length<=255
 msg:∀e∈h.un,Cv e.2.2
structure Cx (K:Nat) (r:CR):Prop where
 out:r.out.length<=K
 frame:64<=r.frame/\r.frame<=4096
 cZ:r.cZ<=8
variable {no:Nat}{c:CN}
structure AE (K:Nat) (c:CN):Prop where
 r:Cx K c.r
 jF:(c.ch.map (·.1)).Pairwise (·<·)
 no:∀e∈c.ch,1<=e.1/\e.1<=8
variable {q:QN}
structure Ow (lim:Int) (q:QN):Prop where
 lim:(q.ready.length:Int)+q.held<=lim
 jF:q.ready.Pairwise λa b=>a.seq<b.seq
 msg:∀m∈q.ready,Cv m
 cons:q.cons.Nodup
structure FJ (g:kt):Prop where
 ok:Oe g
 queue:g.queue<=50
 an8:0<=g.queue
 body:g.body<=10000
 frame:64<=g.frame/\g.frame<=4096
 jq:g.jq<=8
variable {n:N}{nm:List UInt8}
structure xx (n:N) (nm:List UInt8) (q:QN):Prop where
 held:q.held=(n.ij nm:Int)
 one:∀s,(q.ready.countP λm=>decide (m.seq=s))+n.cnt nm s<=1
 no:∀s,n.messages<s->(q.ready.countP λm=>decide (m.seq=s))+n.cnt nm s=0
variable {w:HN->Nat}{k:Int}{x:XN}
structure Ok (T:Int) (K:Nat) (ex:List Int) (n:N):Prop where
 cfg:FJ n.cfg
 sc:(n.aF.map (·.1)).Pairwise (·<·)
 lc:n.aF.length<=4
 ids:∀id,(n.ar id).isSome->1<=id/\id<=n.last
 sq:dV cP (n.aN.map (·.1))
 nq:(n.aN.map (·.1)).Nodup
 lq:n.aN.length<=8
 w:Wf n
 c:∀id c,n.ar id=some c->AE K c
 h:∀id no h,n.h? id no=some h->AH T h
 part:∀id no h,n.h? id no=some h->id∉ex->h.r.want=3->(h.r.body.length:Int)<=h.r.size
 q:∀nm q,n.q? nm=some q->Ow n.cfg.queue q
 cnt:∀nm q,n.q? nm=some q->xx n nm q
 x:∀k x,n.x? k=some x->(1<=k/\k<=n.bh)/\x.tag.length<=8
 xn:(n.xs.map (·.1)).Nodup
 xl:n.xs.length<=n.eO λh=>h.co.length
 gR:0<=n.messages/\n.messages<=T
 bh:0<=n.bh/\n.bh<=T
 last:0<=n.last
section
variable {β:Type}{n:N}{no:Nat}{c:CN}{h:HN}{w:HN->Nat}{nm:List UInt8}{q:QN}{k:Int}{x:XN}{m:aM}{n':N}{T:Int}{T':Int}{K:Nat}{K':Nat}{ex:List Int}{fT:List Int}
variable {id:Int}
def Ok.nc (o:Ok T K ex n):(n.aF.map (·.1)).Nodup:=akx o.sc
def AH.mono (o:AH T h)(ht:T<=T'):AH T' h:={o with tag:=⟨o.tag.1,Int.le_trans o.tag.2 ht⟩}
def Cx.mono {r:CR}(o:Cx K r)(hk:K<=K'):Cx K' r:={o with out:=Nat.le_trans o.out hk}
def AE.mono (o:AE K c)(hk:K<=K'):AE K' c:={o with r:=o.r.mono hk}
def Ok.mono (o:Ok T K ex n)(ht:T<=T')(hk:K<=K'):Ok T' K' ex n:={o with
 c:=λid c hc=>(o.c id c hc).mono hk
 h:=λid no h hh=>(o.h id no h hh).mono ht
 gR:=⟨o.gR.1,Int.le_trans o.gR.2 ht⟩
 bh:=⟨o.bh.1,Int.le_trans o.bh.2 ht⟩}
def Ok.QI (o:Ok T K ex n)(hx:∀i∈ex,i∈fT):Ok T K fT n:={o with part:=λid no h hh hi=>o.part id no h hh λhm=>hi (hx _ hm)}
def mf {α β:Type}[DecidableEq α]{l:List (α×β)}{k:α}:(bq l k).isSome↔k∈l.map (·.1):=by
 constructor
 ·intro h;obtain⟨v,hv⟩:=Option.isSome_iff_exists.1 h;exact List.mem_map_of_mem (f:=(·.1)) (iZ hv)
 ·intro h;obtain⟨e,he,rfl⟩:=List.mem_map.1 h
  cases hv:bq l e.1 with
  |none=>exact absurd rfl (ja hv e he)
  |some _=>rfl
def Wf.of (w:Wf n)(hx:∀k,n'.x? k=n.x? k)(hq:∀nm q',n'.q? nm=some q'->∃q,n.q? nm=some q/\q'.cons=q.cons)(gP:∀nm,(n.q? nm).isSome->(n'.q? nm).isSome)
 (hh:∀id no h',n'.h? id no=some h'->∃h,n.h? id no=some h/\h'.co=h.co/\∀e∈h'.un,e∈h.un\/(n.q? e.2.1).isSome) (fE:∀id no h,n.h? id no=some h->∃h',n'.h? id no=some h'/\h'.co=h.co):Wf n' where
 un:=λid no h' ei e he=>by obtain⟨h,h1,_,h3⟩:=hh _ _ _ ei;exact gP _ ((h3 e he).elim (λh4=>w.un _ _ _ h1 e h4) _root_.id)
 xq:=λk x hk=>gP _ (w.xq k x (by rw[<-hx];exact hk))
 xh:=λk x hk=>by obtain⟨h,h1,h2⟩:=w.xh k x (by rw[<-hx];exact hk);obtain⟨h',h3,h4⟩:=fE _ _ _ h1;exact⟨h',h3,by rw[h4];exact h2⟩
 co:=λid no h' ei e he=>by obtain⟨h,h1,h2,_⟩:=hh _ _ _ ei;obtain⟨x,h5⟩:=w.co _ _ _ h1 e (by rw[<-h2];exact he);exact⟨x,by rw[hx];exact h5⟩
 qc:=λnm q' bz k hk=>by obtain⟨q,h1,h2⟩:=hq _ _ bz;obtain⟨x,h5⟩:=w.qc _ _ h1 k (by rw[<-h2];exact hk);exact⟨x,by rw[hx];exact h5⟩
def Ok.of (o:Ok T K ex n)(R2:n'.cfg=n.cfg)(tn:n'.aF.map (·.1)=n.aF.map (·.1))(si:n'.aN.map (·.1)=n.aN.map (·.1))(LN:n'.xs=n.xs)(SE:n'.bh=n.bh)(mI:n'.last=n.last)
 (hm:0<=n'.messages/\n'.messages<=T') (ht:T<=T')
 (hc:∀id c',n'.ar id=some c'->AE K' c')
 (hh:∀id no h',n'.h? id no=some h'->AH T' h'/\(id∉fT->h'.r.want=3->(h'.r.body.length:Int)<=h'.r.size)/\∃h,n.h? id no=some h/\h'.co=h.co/\∀e∈h'.un,e∈h.un\/(n.q? e.2.1).isSome)
 (fE:∀id no h,n.h? id no=some h->∃h',n'.h? id no=some h'/\h'.co=h.co)
 (hq:∀nm q',n'.q? nm=some q'->Ow n.cfg.queue q'/\xx n' nm q'/\∃q,n.q? nm=some q/\q'.cons=q.cons)
 (ahC:(n'.eO λh=>h.co.length)=n.eO λh=>h.co.length):Ok T' K' fT n':=by
 have hx:∀k,n'.x? k=n.x? k:=λk=>by unfold N.x?;rw[LN]
 have lk:n'.aF.length=n.aF.length:=by have:=congrArg List.length tn;simpa using this
 have ED:n'.aN.length=n.aN.length:=by have:=congrArg List.length si;simpa using this
 exact{
  cfg:=by rw[R2];exact o.cfg
  sc:=by rw[tn];exact o.sc
  lc:=by rw[lk];exact o.lc
  ids:=λid hi=>by rw[mI];exact o.ids id (mf.2 (by rw[<-tn];exact mf.1 hi))
  sq:=by rw[si];exact o.sq
  nq:=by rw[si];exact o.nq
  lq:=by rw[ED];exact o.lq
  w:=o.w.of hx (λnm q' h1=>(hq nm q' h1).2.2) (λnm hi=>mf.2 (by rw[si];exact mf.1 hi)) (λid no h' h1=>(hh id no h' h1).2.2) fE
  c:=hc
  h:=λid no h' h1=>(hh id no h' h1).1
  part:=λid no h' h1=>(hh id no h' h1).2.1
  q:=λnm q' h1=>by rw[R2];exact(hq nm q' h1).1
  cnt:=λnm q' h1=>(hq nm q' h1).2.1
  x:=λk x hk=>by rw[SE];exact o.x k x (by rw[<-hx];exact hk)
  xn:=by rw[LN];exact o.xn
  xl:=by rw[LN,ahC];exact o.xl
  gR:=hm
  bh:=by rw[SE];exact⟨o.bh.1,Int.le_trans o.bh.2 ht⟩
  last:=by rw[mI];exact o.last}
def rM {f:CN->CN}:(n.dN id f).aF.map (·.1)=n.aF.map (·.1):=oP _ _ _ λx=>x
def B4 {f:QN->QN}:(n.bH nm f).aN.map (·.1)=n.aN.map (·.1):=oP _ _ _ λx=>x
def xx.same (o:xx n nm q)(h1:n'.ij nm=n.ij nm)(h2:∀s,n'.cnt nm s=n.cnt nm s)(h3:n'.messages=n.messages):xx n' nm q:=
 ⟨by rw[h1];exact o.held,λs=>by rw[h2];exact o.one s,λs hs=>by rw[h2];exact o.no s (by rw[<-h3];exact hs)⟩
def Ok.bA (o:Ok T K ex n){f:CR->CR}(hk:K<=K')(hf:∀c,n.ar id=some c->Cx K' (f c.r)):Ok T K' ex (n.bA id f):=by
 refine o.of rfl rM rfl rfl rfl rfl o.gR (Int.le_refl _) (λi c' cF=>?_) (λi no h' ei=>?_) (λi no h hh=>⟨h,by rw[KE];exact hh,rfl⟩) (λnm q' bz=>⟨o.q nm q' bz,(o.cnt nm q' bz).same (NG o.nc) (λs=>NG o.nc) rfl,q',bz,rfl⟩) (NG o.nc)
 ·rw[qG]at cF;by_cases e:i=id
  ·subst e;rw[if_pos rfl]at cF;obtain⟨c,hc,rfl⟩:=Option.map_eq_some_iff.1 cF;exact⟨hf c hc,(o.c i c hc).jF,(o.c i c hc).no⟩
  ·rw[if_neg e]at cF;exact(o.c i c' cF).mono hk
 ·rw[KE]at ei;exact⟨o.h _ _ _ ei,o.part _ _ _ ei,h',ei,rfl,λe he=>.inl he⟩
def Ok.send (o:Ok T K ex n){s:List UInt8}:Ok T (K+s.length) ex (n.send id s):=
 o.bA aa λc hc=>⟨by have:=(o.c id c hc).r.out;simp only[List.length_append];omega,(o.c id c hc).r.frame,(o.c id c hc).r.cZ⟩
def y7 (hc:n.ar id=some c)(o:Ok T K ex n):(c.ch.map (·.1)).Nodup:=BN (o.c id c hc).jF
def Fo (o:Ok T K ex n)(hh:n.h? id no=some h)(f:HN->HN)(w:HN->Nat):(n.bB id no f).eO w+w h=n.eO w+w (f h):=by obtain⟨c,hc⟩:=xL hh;exact aq3 o.nc hc (y7 hc o) hh f
def CO (o:Ok T K ex n){f:HN->HN}:∀i c',(n.bB id no f).ar i=some c'->AE K c':=λi c' cF=>by
 rw[vP]at cF;by_cases e:i=id
 ·subst e;rw[if_pos rfl]at cF;obtain⟨c,hc,rfl⟩:=Option.map_eq_some_iff.1 cF;have hk:(dE c.ch no f).map (·.1)=c.ch.map (·.1):=oP _ _ _ λx=>x;refine⟨(o.c i c hc).r,by simp only;rw[hk];exact(o.c i c hc).jF,λe he=>?_⟩;have:e.1∈c.ch.map (·.1):=by rw[<-hk];exact List.mem_map_of_mem (f:=(·.1)) he
  obtain⟨e',gp,h2⟩:=List.mem_map.1 this;rw[<-h2];exact(o.c i c hc).no e' gp
 ·rw[if_neg e]at cF;exact o.c i c' cF
def Ok.cN (o:Ok T K ex n){f:HR->HR}(hh:n.h? id no=some h)(hf:AH T' {h with r:=f h.r})(ht:T<=T')(hp:id∉fT->(f h.r).want=3->((f h.r).body.length:Int)<=(f h.r).size)(hx:∀i∈ex,i∈fT):Ok T' K fT (n.cN id no f):=by
 have key:∀w:HN->Nat,(∀h,w {h with r:=f h.r}=w h)->(n.cN id no f).eO w=n.eO w:=λw hw=>by have:=Fo o hh (λh=>{h with r:=f h.r}) w;rw[hw h]at this;have e:n.cN id no f=n.bB id no λh=>{h with r:=f h.r}:=rfl;rw[e];omega
 refine o.of rfl rM rfl rfl rfl rfl ⟨o.gR.1,Int.le_trans o.gR.2 ht⟩ ht (CO o) (λi j h' ei=>?_) (λi j g hg=>?_) (λnm q' bz=>⟨o.q nm q' bz,(o.cnt nm q' bz).same (key _ λ_=>rfl) (λs=>key _ λ_=>rfl) rfl,q',bz,rfl⟩) (key _ λ_=>rfl)
 ·rw[KD]at ei;by_cases e:i=id/\j=no
  ·obtain⟨rfl,rfl⟩:=e;rw[if_pos ⟨rfl,rfl⟩,hh]at ei
   cases ei
   exact⟨hf,hp,h,hh,rfl,λe he=>.inl he⟩
  ·rw[if_neg e]at ei;exact⟨(o.h _ _ _ ei).mono ht,λhi=>o.part _ _ _ ei λhm=>hi (hx _ hm),h',ei,rfl,λe he=>.inl he⟩
 ·rw[KD];by_cases e:i=id/\j=no
  ·rw[if_pos e,hg];exact⟨_,rfl,rfl⟩
  ·rw[if_neg e];exact⟨g,hg,rfl⟩
def Ok.bH (o:Ok T K ex n){f:QN->QN}(hf:∀q,n.q? nm=some q->(f q).ready.Sublist q.ready/\(f q).held=q.held/\(f q).cons=q.cons):Ok T K ex (n.bH nm f):=by
 refine o.of rfl rfl B4 rfl rfl rfl o.gR (Int.le_refl _) o.c (λi j h' ei=>⟨o.h _ _ _ ei,o.part _ _ _ ei,h',ei,rfl,λe he=>.inl he⟩) (λi j h hh=>⟨h,hh,rfl⟩) (λdm q' bz=>?_) rfl;rw[vn]at bz;by_cases e:dm=nm
 ·rw[if_pos e]at bz;obtain⟨q,hq,rfl⟩:=Option.map_eq_some_iff.1 bz;obtain⟨f1,f2,f3⟩:=hf q (by rw[<-e];exact hq);have oq:=o.q _ _ hq;have oc:=o.cnt _ _ hq;refine⟨⟨?_,oq.jF.sublist f1,λm hm=>oq.msg m (f1.subset hm),by rw[f3];exact oq.cons⟩,⟨by rw[f2];exact oc.held,λs=>?_,λs hs=>?_⟩,q,hq,f3⟩
  ·have:=f1.length_le;have:=oq.lim;rw[f2];omega
  ·have:=f1.countP_le (p:=λm=>decide (m.seq=s));have h2:=oc.one s;exact Nat.le_trans (Nat.add_le_add_right this _) h2
  ·have:=f1.countP_le (p:=λm=>decide (m.seq=s));have h2:=oc.no s hs;exact Nat.le_zero.1 (Nat.le_trans (Nat.add_le_add_right this _) (Nat.le_of_eq h2))
 ·rw[if_neg e]at bz;exact⟨o.q _ _ bz,(o.cnt _ _ bz).same rfl (λ_=>rfl) rfl,q',bz,rfl⟩
end
section
variable {β:Type}{n:N}{no:Nat}{c:CN}{h:HN}{w:HN->Nat}{nm:List UInt8}{q:QN}{k:Int}{x:XN}{m:aM}{T:Int}{T':Int}{K:Nat}{ex:List Int}
variable {id:Int}
def Qb {β:Type}{l:List (Nat×β)}{k:Nat}{v:β}(s:(l.map (·.1)).Nodup)(h:bq l k=some v)(p:Nat×β->Bool)(hp:∀a b v,p (a,v)=p (b,v)):
 (cC l k).countP p+(if p (k,v)then 1 else 0)=l.countP p:=by
 have key:∀l:List (Nat×β),l.countP p=(l.map λe=>(λv=>if p (0,v)then 1 else 0) e.2).sum:=λl=>by
  induction l with
  |nil=>rfl
  |cons e l ih=>
   rw[List.countP_cons,ih,List.map_cons,List.sum_cons];have:p (0,e.2)=p e:=hp 0 e.1 e.2
   dsimp only
   rw[this];omega
 have:=aqs s h λv=>if p (0,v)then 1 else 0;rw[key,key,hp k 0 v];exact this
def Ok.hand (o:Ok T K ex n){ms:List aM}{g:QN->QN}{na:Bool}(hh:n.h? id no=some h)(hq:n.q? nm=some q)(hr:q.ready=m::ms)(hg:(g q).ready=ms/\(g q).held=q.held/\(g q).cons=q.cons):
 Ok (T+1) K ex ((n.bH nm g).hand id no nm m na):=by
 have oq:=o.q _ _ hq;have oc:=o.cnt _ _ hq;have oh:=o.h _ _ _ hh;have hm:Cv m:=oq.msg m (by rw[hr];simp);have j9:ms.Sublist q.ready:=by rw[hr];exact List.sublist_cons_self _ _
 obtain⟨g1,g2,g3⟩:=hg
 cases na with
 |true=>
  have o1:Ok T K ex (n.bH nm g):=by
   exact o.bH λq' bz=>by
    rw[hq]at bz;cases bz
    exact⟨by rw[g1];exact j9,g2,g3⟩
  have nH:(n.bH nm g).h? id no=some h:=hh;unfold N.hand;rw[if_pos rfl];exact o1.cN nH (T':=T+1) {oh with ut:=λe he=>by have:=oh.ut e he;simp only;omega,tag:=⟨by have:=oh.tag.1;simp only;omega,by have:=oh.tag.2;simp only;omega⟩} aa (λhi=>o.part _ _ _ hh hi) λ_ hi=>hi
 |false=>
  let f:HN->HN:=λh=>{h with r:={h.r with tag:=h.r.tag+1},un:=h.un++[((h.r.tag+1).toNat,(nm,m))]}
  have e1:(n.bH nm g).hand id no nm m false=(n.bB id no f).bH nm λq=>{g q with held:=(g q).held+1}:=by unfold N.hand;rw[if_neg al];have:(n.bH nm g).bB id no f=(n.bB id no f).bH nm g:=rfl;rw[this,Fp]
  rw[e1];have tt:=λw:HN->Nat=>Fo o hh f w;have iB:(f h).un=h.un++[((h.r.tag+1).toNat,(nm,m))]:=rfl
  have DO:∀dm,(n.bB id no f).ij dm=n.ij dm+(if nm=dm then 1 else 0):=λdm=>by have:=tt λh=>h.un.countP λe=>decide (e.2.1=dm);rw[iB,List.countP_append,List.countP_singleton]at this;unfold N.ij;simp only[decide_eq_true_eq]at this;omega
  have xN:∀dm s,(n.bB id no f).cnt dm s=n.cnt dm s+(if nm=dm/\m.seq=s then 1 else 0):=λdm s=>by have:=tt λh=>h.un.countP λe=>decide (e.2.1=dm)&&decide (e.2.2.seq=s);rw[iB,List.countP_append,List.countP_singleton]at this;unfold N.cnt;simp only[Bool.and_eq_true,decide_eq_true_eq]at this;omega
  have LG:((n.bB id no f).eO λh=>h.co.length)=n.eO λh=>h.co.length:=by have:=tt λh=>h.co.length;have e:(f h).co=h.co:=rfl;rw[e]at this;omega
  refine o.of rfl (show(n.bB id no f).aF.map (·.1)=_ from rM (f:=λc=>{c with ch:=dE c.ch no f})) (B4 (n:=n.bB id no f)) rfl rfl rfl ⟨o.gR.1,by have:=o.gR.2;show n.messages<=T+1;omega⟩ aa (CO o) (λi j h' ei=>?_) (λi j g hg=>?_) (λdm q' bz=>?_) LG
  ·rw[Bf,jZ]at ei;by_cases e:i=id/\j=no
   ·obtain⟨rfl,rfl⟩:=e;rw[if_pos ⟨rfl,rfl⟩,hh]at ei
    cases ei
    have h0:=oh.tag.1;refine⟨{oh with un:=?_,ut:=?_,tag:=⟨?_,?_⟩,msg:=?_},λhi hw=>o.part _ _ h hh hi hw,h,hh,rfl,λe he=>?_⟩
    ·rw[iB,List.map_append,List.pairwise_append];refine⟨oh.un,al,λa ha b hb=>?_⟩;obtain⟨e,he,rfl⟩:=List.mem_map.1 ha;have h2:=oh.ut e he;simp only[List.map_cons,List.map_nil,List.mem_singleton]at hb;subst hb;omega
    ·intro e he;rw[iB]at he;rcases List.mem_append.1 he with he|he
     ·have:=oh.ut e he;show(e.1:Int)<=h.r.tag+1;omega
     ·simp only[List.mem_singleton]at he;subst he;show(((h.r.tag+1).toNat:Nat):Int)<=h.r.tag+1;omega
    ·show 0<=h.r.tag+1;omega
    ·show h.r.tag+1<=T+1;have:=oh.tag.2;omega
    ·intro e he;rw[iB]at he;rcases List.mem_append.1 he with he|he
     ·exact oh.msg e he
     ·simp only[List.mem_singleton]at he;subst he;exact hm
    ·rw[iB]at he;rcases List.mem_append.1 he with he|he
     ·exact .inl he
     ·simp only[List.mem_singleton]at he;subst he;exact .inr (by rw[hq];rfl)
   ·rw[if_neg e]at ei;exact⟨(o.h _ _ _ ei).mono aa,o.part _ _ _ ei,h',ei,rfl,λe he=>.inl he⟩
  ·rw[Bf,jZ];by_cases e:i=id/\j=no
   ·rw[if_pos e,hg];exact⟨_,rfl,rfl⟩
   ·rw[if_neg e];exact⟨g,hg,rfl⟩
  ·rw[vn,H0]at bz;by_cases e:dm=nm
   ·subst e;rw[if_pos rfl,hq]at bz
    cases bz
    refine⟨⟨?_,?_,?_,?_⟩,⟨?_,λs=>?_,λs hs=>?_⟩,q,hq,g3⟩
    ·have:=oq.lim;rw[hr]at this;simp only[g1,g2,List.length_cons]at this|-;omega
    ·simp only[g1];exact oq.jF.sublist j9
    ·simp only[g1];exactλm hm=>oq.msg m (j9.subset hm)
    ·simp only[g3];exact oq.cons
    ·show(g q).held+1=(((n.bB id no f).ij dm:Nat):Int);rw[DO,g2,oc.held,if_pos rfl];omega
    ·have:=oc.one s;show(((g q).ready.countP λm=>decide (m.seq=s))+(n.bB id no f).cnt dm s)<=1;rw[hr,List.countP_cons]at this;rw[xN,g1];simp only[decide_eq_true_eq,true_and]at this|-;omega
    ·have:=oc.no s hs;show(((g q).ready.countP λm=>decide (m.seq=s))+(n.bB id no f).cnt dm s)=0;rw[hr,List.countP_cons]at this;rw[xN,g1];simp only[decide_eq_true_eq,true_and]at this|-;omega
   ·rw[if_neg e]at bz;refine⟨o.q _ _ bz,(o.cnt _ _ bz).same ?_ (λs=>?_) rfl,q',bz,rfl⟩
    ·show(n.bB id no f).ij dm=_;rw[DO,if_neg λx=>e x.symm];omega
    ·show(n.bB id no f).cnt dm s=_;rw[xN,if_neg λx=>e x.1.symm];omega
end
def Mn(ms:List aM)(m:aM):(im ms m).Perm ({m with again:=true}::ms):=by unfold im;refine List.perm_middle.trans (List.Perm.cons _ ?_);rw[List.takeWhile_append_dropWhile]
def akK{ms:List aM}(s:ms.Pairwise λa b=>a.seq<b.seq)(hm:∀x∈ms,x.seq≠m.seq):(im ms m).Pairwise λa b=>a.seq<b.seq:=by
 unfold im
 induction ms with
 |nil=>simp
 |cons a ms ih=>
  rw[List.pairwise_cons]at s;have ih:=ih s.2 λx hx=>hm x (by simp[hx]);by_cases h:a.seq<m.seq
  ·rw[List.takeWhile_cons_of_pos (aW h),List.dropWhile_cons_of_pos (aW h),List.cons_append,List.pairwise_cons];refine⟨λb hb=>?_,ih⟩;rcases List.mem_append.1 hb with hb|hb
   ·exact s.1 b ((List.takeWhile_sublist _).subset hb)
   ·rcases List.mem_cons.1 hb with rfl|hb
    ·exact h
    ·exact s.1 b ((List.dropWhile_sublist _).subset hb)
  ·rw[List.takeWhile_cons_of_neg (aW h),List.dropWhile_cons_of_neg (aW h),List.nil_append,List.pairwise_cons,List.pairwise_cons];have h1:m.seq<a.seq:=by have:=hm a al;omega
   refine⟨λb hb=>?_,s⟩;rcases List.mem_cons.1 hb with rfl|hb
   ·exact h1
   ·have:=s.1 b hb;show m.seq<b.seq;omega
section
variable {n:N}{no:Nat}{c:CN}{h:HN}{w:HN->Nat}{nm:List UInt8}{q:QN}{x:XN}{m:aM}{T:Int}{K:Nat}{ex:List Int}
variable {id:Int}
def Ok.settle (o:Ok T K ex n){tag:Nat}{b:Bool}:Ok T K ex (n.settle id no tag b):=by
 unfold N.settle
 cases hh:n.h? id no with
 |none=>exact o
 |some h=>
  cases hu:bq h.un tag with
  |none=>simp only[Option.bind_some,hu];exact o
  |some e=>
   obtain⟨nm,m⟩:=e;simp only[Option.bind_some,hu];have oh:=o.h _ _ _ hh;have qf:=iZ hu;obtain⟨q,hq⟩:=Option.isSome_iff_exists.1 (o.w.un _ _ _ hh _ qf);simp only at hq;have oq:=o.q _ _ hq;have oc:=o.cnt _ _ hq;have hm:Cv m:=oh.msg _ qf
   let f:HN->HN:=λh=>{h with un:=cC h.un tag}
   have tt:=λw:HN->Nat=>Fo o hh f w;have iB:(f h).un=cC h.un tag:=rfl
   have DO:∀dm,(n.bB id no f).ij dm+(if nm=dm then 1 else 0)=n.ij dm:=λdm=>by have h1:=tt λh=>h.un.countP λe=>decide (e.2.1=dm);have h2:=Qb (BN oh.un) hu (λe=>decide (e.2.1=dm)) λ_ _ _=>rfl;simp only[iB]at h1;simp only[decide_eq_true_eq]at h2;unfold N.ij;omega
   have xN:∀dm s,(n.bB id no f).cnt dm s+(if nm=dm/\m.seq=s then 1 else 0)=n.cnt dm s:=λdm s=>by have h1:=tt λh=>h.un.countP λe=>decide (e.2.1=dm)&&decide (e.2.2.seq=s);have h2:=Qb (BN oh.un) hu (λe=>decide (e.2.1=dm)&&decide (e.2.2.seq=s)) λ_ _ _=>rfl;simp only[iB]at h1;simp only[Bool.and_eq_true,decide_eq_true_eq]at h2;unfold N.cnt;omega
   have LG:((n.bB id no f).eO λh=>h.co.length)=n.eO λh=>h.co.length:=by have:=tt λh=>h.co.length;have e:(f h).co=h.co:=rfl;rw[e]at this;omega
   refine o.of rfl (show(n.bB id no f).aF.map (·.1)=_ from rM (f:=λc=>{c with ch:=dE c.ch no f})) (B4 (n:=n.bB id no f)) rfl rfl rfl o.gR (Int.le_refl _) (CO o) (λi j h' ei=>?_) (λi j g hg=>?_) (λdm q' bz=>?_) LG
   ·rw[Bf,jZ]at ei;by_cases e:i=id/\j=no
    ·obtain⟨rfl,rfl⟩:=e;rw[if_pos ⟨rfl,rfl⟩,hh]at ei
     cases ei
     have j9:(cC h.un tag).Sublist h.un:=List.filter_sublist;exact⟨{oh with un:=oh.un.sublist (j9.map _),ut:=λe he=>oh.ut e (j9.subset he),msg:=λe he=>oh.msg e (j9.subset he)},λhi hw=>o.part _ _ h hh hi hw,h,hh,rfl,λe he=>.inl (j9.subset he)⟩
    ·rw[if_neg e]at ei;exact⟨o.h _ _ _ ei,o.part _ _ _ ei,h',ei,rfl,λe he=>.inl he⟩
   ·rw[Bf,jZ];by_cases e:i=id/\j=no
    ·rw[if_pos e,hg];exact⟨_,rfl,rfl⟩
    ·rw[if_neg e];exact⟨g,hg,rfl⟩
   ·rw[vn,H0]at bz;by_cases e:dm=nm
    ·subst e;rw[if_pos rfl,hq]at bz
     cases bz
     have cG:∀s,((if b=true then im q.ready m else q.ready).countP λm=>decide (m.seq=s))+(n.bB id no f).cnt dm s<=(q.ready.countP λm=>decide (m.seq=s))+n.cnt dm s:=λs=>by
      have h3:=xN dm s;simp only[true_and]at h3
      cases b with
      |false=>simp only[Bool.false_eq_true,if_false];omega
      |true=>
       simp only[if_true];rw[(Mn q.ready m).countP_eq,List.countP_cons];simp only[decide_eq_true_eq];omega
     refine⟨⟨?_,?_,?_,oq.cons⟩,⟨?_,λs=>Nat.le_trans (cG s) (oc.one s),λs hs=>Nat.le_zero.1 (Nat.le_trans (cG s) (Nat.le_of_eq (oc.no s hs)))⟩,q,hq,rfl⟩
     ·have:=oq.lim
      cases b with
      |false=>simp only[Bool.false_eq_true,if_false];omega
      |true=>simp only[if_true];rw[(Mn q.ready m).length_eq,List.length_cons];omega
     ·cases b with
      |false=>simp only[Bool.false_eq_true,if_false];exact oq.jF
      |true=>
       simp only[if_true];refine akK oq.jF λy hy e=>?_;have h1:=oc.one m.seq;have h2:0<q.ready.countP λx=>decide (x.seq=m.seq):=List.countP_pos_iff.2 ⟨y,hy,by simpa using e⟩;have h3:=xN dm m.seq;simp only[true_and,if_true]at h3;omega
     ·cases b with
      |false=>simp only[Bool.false_eq_true,if_false];exact oq.msg
      |true=>
       simp only[if_true];intro y hy;rcases List.mem_cons.1 ((Mn q.ready m).mem_iff.1 hy)with rfl|hy
       ·exact⟨hm.body,hm.key⟩
       ·exact oq.msg y hy
     ·show q.held-1=(((n.bB id no f).ij dm:Nat):Int);have:=DO dm;rw[if_pos rfl]at this;rw[oc.held];omega
    ·rw[if_neg e]at bz;refine⟨o.q _ _ bz,(o.cnt _ _ bz).same ?_ (λs=>?_) rfl,q',bz,rfl⟩
     ·show(n.bB id no f).ij dm=_;have:=DO dm;rw[if_neg λx=>e x.symm]at this;omega
     ·show(n.bB id no f).cnt dm s=_;have:=xN dm s;rw[if_neg λx=>e x.1.symm]at this;omega
def Ok.kY (o:Ok T K ex n){l:List (Nat×(List UInt8×aM))}:Ok T K ex (n.kY id no l):=by
 unfold N.kY
 induction l generalizing n with
 |nil=>exact o
 |cons e l ih=>exact ih o.settle
def Ok.jP (o:Ok T K ex n){p:Nat->Bool}{b:Bool}{l:List (Nat×(List UInt8×aM))}:Ok T K ex (n.jP id no p b l):=by
 unfold N.jP
 induction l generalizing n with
 |nil=>exact o
 |cons e l ih=>
  rw[List.foldl_cons];split
  ·exact ih o.settle
  ·exact ih o
def Ok.jN (o:Ok T K ex n){key body:List UInt8}(hk:key.length<=255)(hb:body.length<=10000):Ok (T+1) K ex (n.jN key body).1:=by
 unfold N.jN
 cases hq:n.q? key with
 |none=>exact o.mono aa (Nat.le_refl _)
 |some q=>
  simp only[];split
  ·exact o.mono aa (Nat.le_refl _)
  ·rename_i fZ;have oq:=o.q _ _ hq;have oc:=o.cnt _ _ hq;have G1:=o.gR.1;refine o.of rfl rfl (B4 (n:={n with messages:=n.messages+1})) rfl rfl rfl ⟨by show 0<=n.messages+1;omega,by have:=o.gR.2;show n.messages+1<=T+1;omega⟩ aa o.c (λi j h' ei=>⟨(o.h _ _ _ ei).mono aa,o.part _ _ _ ei,h',ei,rfl,λe he=>.inl he⟩) (λi j g hg=>⟨g,hg,rfl⟩) (λdm q' bz=>?_) rfl;rw[vn]at bz;have Lw:∀i,N.q? {n with messages:=n.messages+1} i=n.q? i:=λ_=>rfl;rw[Lw]at bz;by_cases e:dm=key
   ·subst e;rw[if_pos rfl,hq]at bz
    cases bz
    have hold:∀y∈q.ready,y.seq<=n.messages:=λy hy=>by
     by_cases Ta:n.messages<y.seq
     ·have h1:=oc.no _ Ta;have h2:0<q.ready.countP λx=>decide (x.seq=y.seq):=List.countP_pos_iff.2 ⟨y,hy,al⟩;omega
     ·omega
    refine⟨⟨?_,?_,λy hy=>?_,oq.cons⟩,⟨oc.held,λs=>?_,λs hs=>?_⟩,q,hq,rfl⟩
    ·simp only[List.length_append,List.length_cons,List.length_nil];omega
    ·simp only[];rw[List.pairwise_append];refine⟨oq.jF,al,λa ha b hb=>?_⟩;simp only[List.mem_singleton]at hb;subst hb;have:=hold a ha;show a.seq<n.messages+1;omega
    ·rcases List.mem_append.1 hy with hy|hy
     ·exact oq.msg y hy
     ·simp only[List.mem_singleton]at hy;subst hy;exact⟨hb,hk⟩
    ·show((q.ready++[(⟨n.messages+1,dm,body,false⟩:aM)]).countP λm=>decide (m.seq=s))+n.cnt dm s<=1;rw[List.countP_append,List.countP_singleton];simp only[decide_eq_true_eq];have h1:=oc.one s;by_cases e:n.messages+1=s
     ·have:=oc.no s aa;rw[if_pos e];omega
     ·rw[if_neg e];omega
    ·show((q.ready++[(⟨n.messages+1,dm,body,false⟩:aM)]).countP λm=>decide (m.seq=s))+n.cnt dm s=0;have cU:n.messages+1<s:=hs;rw[List.countP_append,List.countP_singleton];simp only[decide_eq_true_eq];rw[if_neg aa];have:=oc.no s aa;omega
   ·rw[if_neg e]at bz;exact⟨o.q _ _ bz,⟨(o.cnt _ _ bz).held,(o.cnt _ _ bz).one,λs hs=>(o.cnt _ _ bz).no s (by have cU:n.messages+1<s:=hs;omega)⟩,q',bz,rfl⟩
end
def N.without(n:N)(l:List Int):N:={n with aN:=n.aN.map λe=>(e.1,{e.2 with cons:=e.2.cons.filter λk=>decide (k∉l)}),xs:=n.xs.filter λe=>decide (e.1∉l)}
section
variable {β:Type}{n:N}{aL:Int}{no:Nat}{dC:Nat}{c:CN}{h:HN}{w:HN->Nat}{nm:List UInt8}{q:QN}{k:Int}{x:XN}{m:aM}{T:Int}{K:Nat}{ex:List Int}{l:List Int}
variable {id:Int}
@[simp] def KF:(n.without l).h? id no=n.h? id no:=rfl
@[simp] def asI:(n.without l).ar id=n.ar id:=rfl
def OQ {β γ:Type}{α:Type}[DecidableEq α](l:List (α×β))(k:α)(f:β->γ):bq (l.map λe=>(e.1,f e.2)) k=(bq l k).map f:=by unfold bq;rw[List.find?_map,Option.map_map,Option.map_map];rfl
def H6:(n.without l).q? nm=(n.q? nm).map λq=>{q with cons:=q.cons.filter λk=>decide (k∉l)}:=by unfold N.q? N.without;exact OQ (γ:=QN) n.aN nm λq:QN=>{q with cons:=q.cons.filter λk=>decide (k∉l)}
def OP {β:Type}{α:Type}[DecidableEq α](l:List (α×β))(k:α)(p:α->Bool):bq (l.filter λe=>p e.1) k=if p k then bq l k else none:=by
 induction l with
 |nil=>simp[bq]
 |cons e l ih=>
  unfold bq at ih|-;rw[List.filter_cons];by_cases he:e.1=k
  ·subst he;by_cases hp:p e.1
   ·simp[hp]
   ·rw[if_neg hp,ih,if_neg hp,if_neg hp]
  ·by_cases hp:p e.1
   ·rw[if_pos hp,List.find?_cons,List.find?_cons];simp only[he,decide_false];exact ih
   ·rw[if_neg hp,List.find?_cons];simp only[he,decide_false];exact ih
def Fy:(n.without l).x? k=if k∈l then none else n.x? k:=by unfold N.x? N.without;rw[OP n.xs k λa=>decide (a∉l)];by_cases h:k∈l<;>simp[h]
structure QX (n:N):Prop where
 nq:(n.aN.map (·.1)).Nodup
 qc:∀nm q,n.q? nm=some q->∀k∈q.cons,∃x,n.x? k=some x/\x.q=nm
 xq:∀k x,n.x? k=some x->(n.q? x.q).isSome
def Ok.qx (o:Ok T K ex n):QX n:=⟨o.nq,o.w.qc,o.w.xq⟩
def QX.without (o:QX n):QX (n.without l):=by
 refine⟨?_,λnm q hq k hk=>?_,λk x hx=>?_⟩
 ·have:((n.without l).aN.map (·.1))=n.aN.map (·.1):=by unfold N.without;rw[List.map_map];rfl
  rw[this];exact o.nq
 ·rw[H6]at hq;obtain⟨q0,h0,rfl⟩:=Option.map_eq_some_iff.1 hq;obtain⟨h1,h2⟩:=List.mem_filter.1 hk;obtain⟨x,hx,hn⟩:=o.qc nm q0 h0 k h1;exact⟨x,by rw[Fy,if_neg (aW h2)];exact hx,hn⟩
 ·rw[Fy]at hx;split at hx
  ·cases hx
  ·have:=o.xq k x hx;rw[H6];simpa using this
def PK (o:QX n):n.cancel k=n.without [k]:=by
 have hf:∀nm q,n.q? nm=some q->(∀x,n.x? k=some x->¬x.q=nm)->(q.cons.filter λj=>decide (j∉[k]))=q.cons:=λnm q hq hx=>List.filter_eq_self.2 λj hj=>by simp only[List.mem_singleton,decide_not,Bool.not_eq_eq_eq_not,Bool.not_true,decide_eq_false_iff_not];rintro rfl;obtain⟨x,h1,h2⟩:=o.qc nm q hq j hj;exact hx x h1 h2
 unfold N.cancel N.without
 cases hx:n.x? k with
 |none=>
  simp only[]
  have e1:(n.aN.map λe=>(e.1,{e.2 with cons:=e.2.cons.filter λj=>decide (j∉[k])}))=n.aN:=by
   have:(n.aN.map λe=>(e.1,{e.2 with cons:=e.2.cons.filter λj=>decide (j∉[k])}))=n.aN.map λe=>e:=List.map_congr_left λe he=>by rw[hf e.1 e.2 (oF o.nq he) λx h1=>by rw[hx]at h1;cases h1]
   rw[this,List.map_id']
  have e2:(n.xs.filter λe=>decide (e.1∉[k]))=n.xs:=List.filter_eq_self.2 λe he=>by have:=ja hx e he;simpa using this
  rw[e1,e2]
 |some x=>
  simp only[]
  have e1:(n.bH x.q λq=>{q with cons:=q.cons.filter λj=>decide (j≠k)}).aN=n.aN.map λe=>(e.1,{e.2 with cons:=e.2.cons.filter λj=>decide (j∉[k])}):=by
   unfold N.bH dE;apply List.map_congr_left;intro e he;by_cases hn:e.1=x.q
   ·rw[if_pos hn]
    have:(e.2.cons.filter λj=>decide (j≠k))=e.2.cons.filter λj=>decide (j∉[k]):=by apply List.filter_congr;intro j _;simp
    simp only[this]
   ·rw[if_neg hn,hf e.1 e.2 (oF o.nq he) λy hy=>by rw[hx]at hy;cases hy;exactλz=>hn z.symm]
  have e2:cC n.xs k=n.xs.filter λe=>decide (e.1∉[k]):=by unfold cC;apply List.filter_congr;intro e _;simp
  rw[<-e1,e2];rfl
def arK {l':List Int}:(n.without l).without l'=n.without (l++l'):=by
 unfold N.without;simp only[List.map_map,List.filter_filter];congr 1
 ·apply List.map_congr_left;intro e _;simp only[Function.comp]
  have:((e.2.cons.filter λk=>decide (k∉l)).filter λk=>decide (k∉l'))=e.2.cons.filter λk=>decide (k∉l++l'):=by rw[List.filter_filter];apply List.filter_congr;intro k _;rw[Bool.eq_iff_iff];simp only[Bool.and_eq_true,decide_eq_true_eq,List.mem_append,not_or];exact And.comm
  rw[this]
 ·apply List.filter_congr;intro e _;rw[Bool.eq_iff_iff];simp only[Bool.and_eq_true,decide_eq_true_eq,List.mem_append,not_or];exact And.comm
def filter_all {α:Type}(l:List α):(l.filter λ_=>true)=l:=List.filter_eq_self.2 λ_ _=>rfl
def arJ:n.without []=n:=by unfold N.without;simp only[List.not_mem_nil,not_false_eq_true,decide_true,filter_all,List.map_id']
def PM (o:QX n){l:List (List UInt8×Int)}:n.jX l=n.without (l.map (·.2)):=by
 unfold N.jX
 induction l generalizing n with
 |nil=>rw[List.foldl_nil,List.map_nil,arJ]
 |cons e l ih=>
  rw[List.foldl_cons,PK o,ih o.without,arK];rfl
def aff {tag:Nat}{b:Bool}(hh:n.h? id no=some h):(n.settle id no tag b).h? id no=some {h with un:=cC h.un tag}:=by
 unfold N.settle;rw[hh]
 cases hu:bq h.un tag with
 |none=>
  simp only[Option.bind_some,hu,hh];have:cC h.un tag=h.un:=List.filter_eq_self.2 λe he=>by have:=ja hu e he;simpa using this
  rw[this]
 |some e=>
  simp only[Option.bind_some,hu];rw[Bf,jZ,if_pos ⟨rfl,rfl⟩,hh];rfl
def afh {tag:Nat}{b:Bool}(aE:¬(aL=id/\dC=no)):(n.settle id no tag b).h? aL dC=n.h? aL dC:=by
 unfold N.settle;split
 ·rfl
 ·rw[Bf,jZ,if_neg aE]
def RN {p:Nat->Bool}{b:Bool}{l:List (Nat×(List UInt8×aM))}(hh:n.h? id no=some h):
 (n.jP id no p b l).h? id no=some {h with un:=h.un.filter λe=> !(l.any λt=>decide (t.1=e.1)&&p t.1)}:=by
 unfold N.jP
 induction l generalizing n h with
 |nil=>rw[List.foldl_nil,hh];simp only[List.any_nil,Bool.not_false,filter_all]
 |cons t l ih=>
  rw[List.foldl_cons];by_cases hp:p t.1
  ·rw[if_pos hp,ih (aff hh)]
   have:((cC h.un t.1).filter λe=> !(l.any λt=>decide (t.1=e.1)&&p t.1))=h.un.filter λe=> !((t::l).any λt=>decide (t.1=e.1)&&p t.1):=by
    unfold cC;rw[List.filter_filter];apply List.filter_congr;intro e _;simp only[List.any_cons,hp,Bool.and_true,Bool.not_or];rw[Bool.and_comm];congr 1;by_cases h1:e.1=t.1
    ·simp[h1]
    ·have h2:¬t.1=e.1:=λx=>h1 x.symm;simp[h1,h2]
   simp only[this]
  ·rw[if_neg hp,ih hh]
   have:(h.un.filter λe=> !(l.any λt=>decide (t.1=e.1)&&p t.1))=h.un.filter λe=> !((t::l).any λt=>decide (t.1=e.1)&&p t.1):=by apply List.filter_congr;intro e _;simp[hp]
   rw[this]
def afg {p:Nat->Bool}{b:Bool}{l:List (Nat×(List UInt8×aM))}(aE:¬(aL=id/\dC=no)):(n.jP id no p b l).h? aL dC=n.h? aL dC:=by
 unfold N.jP
 induction l generalizing n with
 |nil=>rfl
 |cons t l ih=>
  rw[List.foldl_cons,ih];split
  ·exact afh aE
  ·rfl
def Ng {l:List (Nat×(List UInt8×aM))}:n.kY id no l=n.jP id no (λ_=>true) true l:=by unfold N.kY N.jP;rfl
def RJ (hh:n.h? id no=some h):(n.release id no).h? id no=some {h with un:=[],co:=[]}:=by
 rw[B8 hh,Ng];have h1:((n.jX h.co).bB id no λh=>{h with co:=[]}).h? id no=some {h with co:=[]}:=by rw[jZ,if_pos ⟨rfl,rfl⟩,GA,hh];rfl
 rw[RN h1]
 have:(h.un.filter λe=> !(h.un.any λt=>decide (t.1=e.1)&&true))=[]:=List.filter_eq_nil_iff.2 λe he=>by simp only[Bool.and_true,Bool.not_eq_eq_eq_not,Bool.not_true,Bool.not_eq_false,List.any_eq_true,decide_eq_true_eq];exact⟨e,he,rfl⟩
 simp only[this]
def RL (aE:¬(aL=id/\dC=no)):(n.release id no).h? aL dC=n.h? aL dC:=by
 cases hh:n.h? id no with
 |none=>unfold N.release;rw[hh]
 |some h=>rw[B8 hh,Ng,afg aE,jZ,if_neg aE,GA]
def QU {α:Type}(l:List α)(p:α->Prop)[DecidablePred p]:(l.filter λa=>decide (p a)).length+(l.filter λa=>decide (¬p a)).length=l.length:=by
 induction l with
 |nil=>rfl
 |cons a l ih=>by_cases h:p a<;>simp[h]at ih|-<;>omega
def P6 (o:Ok T K ex n)(hh:n.h? id no=some h):(h.co.map (·.2)).Nodup:=by
 have oh:=o.h _ _ _ hh
 have key:∀l:List (List UInt8×Int),(∀e∈l,e∈h.co)->(l.map (·.1)).Nodup->(l.map (·.2)).Nodup:=λl=>by
  induction l with
  |nil=>intro _ _;simp
  |cons e l ih=>
   intro h1 h2;rw[List.map_cons,List.nodup_cons]at h2|-;refine⟨λhm=>?_,ih (λe he=>h1 e (by simp[he])) h2.2⟩;obtain⟨e',gp,hv⟩:=List.mem_map.1 hm;obtain⟨x,hx,_,_,ht⟩:=o.w.co _ _ _ hh e (h1 e al);obtain⟨x',cY,_,_,Hi⟩:=o.w.co _ _ _ hh e' (h1 e' (by simp[gp]));rw[hv,hx]at cY
   cases cY
   exact h2.1 (by rw[<-ht,Hi];exact List.mem_map_of_mem (f:=(·.1)) gp)
 exact key h.co (λ_ h=>h) oh.cn
def Ok.rF (o:Ok T K ex n)(hh:n.h? id no=some h)(L:List Int){f:HN->HN}(hf:∀h,(f h).r=h.r/\(f h).un=h.un)(qS:(f h).co=h.co.filter λe=>decide (e.2∉L))(hL:∀k∈L,k∈h.co.map (·.2)):Ok T K ex ((n.without L).bB id no f):=by
 have oh:=o.h _ _ _ hh;have j9:(f h).co.Sublist h.co:=by rw[qS];exact List.filter_sublist
 have tt:=λw:HN->Nat=>Fo o hh f w;have yD:∀w:HN->Nat,((n.without L).bB id no f).eO w=(n.bB id no f).eO w:=λ_=>rfl
 have same:∀w:HN->Nat,(∀g:HN,w (f g)=w g)->((n.without L).bB id no f).eO w=n.eO w:=λw hw=>by have:=tt w;rw[hw]at this;rw[yD];omega
 have si:((n.without L).bB id no f).aN.map (·.1)=n.aN.map (·.1):=by have:((n.without L).bB id no f).aN=(n.without L).aN:=rfl;rw[this];unfold N.without;rw[List.map_map];rfl
 have tn:((n.without L).bB id no f).aF.map (·.1)=n.aF.map (·.1):=rM (n:=n) (f:=λc=>{c with ch:=dE c.ch no f});have lk:((n.without L).bB id no f).aF.length=n.aF.length:=by have:=congrArg List.length tn;simpa using this
 have ED:((n.without L).bB id no f).aN.length=n.aN.length:=by have:=congrArg List.length si;simpa using this
 have q9:∀i,((n.without L).bB id no f).q? i=(n.q? i).map λq=>{q with cons:=q.cons.filter λk=>decide (k∉L)}:=λi=>by rw[H0,H6]
 have tA:∀i,((n.without L).bB id no f).x? i=if i∈L then none else n.x? i:=λi=>by rw[ar8,Fy]
 have rW:∀i j g',((n.without L).bB id no f).h? i j=some g'->(i=id/\j=no/\g'=f h)\/(¬(i=id/\j=no)/\n.h? i j=some g'):=λi j g' hg=>by
  rw[jZ,KF]at hg;by_cases e:i=id/\j=no
  ·obtain⟨rfl,rfl⟩:=e;rw[if_pos ⟨rfl,rfl⟩,hh]at hg
   cases hg;exact .inl ⟨rfl,rfl,rfl⟩
  ·rw[if_neg e]at hg;exact .inr ⟨e,hg⟩
 have hLx:∀k∈L,∃x,n.x? k=some x/\x.id=id/\x.no=no/\bq h.co x.tag=some k:=λk hk=>by obtain⟨e,he,rfl⟩:=List.mem_map.1 (hL k hk);obtain⟨x,h1,h2,h3,h4⟩:=o.w.co _ _ _ hh e he;exact⟨x,h1,h2,h3,by rw[h4];exact oF oh.cn he⟩
 exact{
  cfg:=o.cfg
  sc:=by rw[tn];exact o.sc
  lc:=by rw[lk];exact o.lc
  ids:=λi hi=>o.ids i (mf.2 (by rw[<-tn];exact mf.1 hi))
  sq:=by rw[si];exact o.sq
  nq:=by rw[si];exact o.nq
  lq:=by rw[ED];exact o.lq
  w:={
   un:=λi j g' hg e he=>by
    rw[q9]
    rcases rW i j g' hg with⟨rfl,rfl,rfl⟩|⟨_,h1⟩
    ·have:=o.w.un _ _ _ hh e (by rw[(hf h).2]at he;exact he);simpa using this
    ·have:=o.w.un _ _ _ h1 e he;simpa using this
   xq:=λk x hx=>by
    rw[tA]at hx
    split at hx
    ·cases hx
    ·rw[q9];have:=o.w.xq k x hx;simpa using this
   xh:=λk x hx=>by
    rw[tA]at hx
    split at hx
    ·cases hx
    ·rename_i hk
     obtain⟨g,h1,h2⟩:=o.w.xh k x hx
     by_cases e:x.id=id/\x.no=no
     ·obtain⟨e1,e2⟩:=e
      rw[e1,e2]at h1|-
      rw[hh]at h1
      cases h1
      refine⟨f h,by rw[jZ,KF,if_pos ⟨rfl,rfl⟩,hh];rfl,?_⟩
      rw[qS]
      exact oF (by rw[<-qS];exact oh.cn.sublist (j9.map _)) (List.mem_filter.2 ⟨iZ h2,aW hk⟩)
     ·exact⟨g,by rw[jZ,KF,if_neg e];exact h1,h2⟩
   co:=λi j g' hg e he=>by
    rw[tA]
    rcases rW i j g' hg with⟨rfl,rfl,rfl⟩|⟨aE,h1⟩
    ·rw[qS]at he
     obtain⟨KT,KU⟩:=List.mem_filter.1 he
     rw[if_neg (aW KU)]
     exact o.w.co _ _ _ hh e KT
    ·obtain⟨x,h2,h3,h4,h5⟩:=o.w.co _ _ _ h1 e he
     rw[if_neg]
     ·exact⟨x,h2,h3,h4,h5⟩
     ·intro hm
      obtain⟨y,k1,k2,k3,_⟩:=hLx _ hm
      rw[h2]at k1
      cases k1
      exact aE ⟨by rw[<-h3,k2],by rw[<-h4,k3]⟩
   qc:=λnm q' bz k hk=>by
    rw[q9]at bz
    obtain⟨q,h1,rfl⟩:=Option.map_eq_some_iff.1 bz
    obtain⟨k1,k2⟩:=List.mem_filter.1 hk
    rw[tA,if_neg (by simpa using k2)]
    exact o.w.qc nm q h1 k k1}
  c:=λi c' cF=>CO o i c' cF
  h:=λi j g' hg=>by
   rcases rW i j g' hg with⟨rfl,rfl,rfl⟩|⟨_,h1⟩
   ·obtain⟨f1,f2⟩:=hf h
    exact⟨by rw[f2];exact oh.un,by rw[f1,f2];exact oh.ut,by rw[f1];exact oh.tag,oh.co.sublist (j9.map _),oh.cn.sublist (j9.map _),Nat.le_trans j9.length_le oh.tG,by rw[f1];exact oh.want,by rw[f1];exact oh.body,by rw[f1];exact oh.size,by rw[f1];exact oh.key,by rw[f2];exact oh.msg⟩
   ·exact o.h _ _ _ h1
  part:=λi j g' hg=>by
   rcases rW i j g' hg with⟨rfl,rfl,rfl⟩|⟨_,h1⟩
   ·rw[(hf h).1];exact o.part _ _ _ hh
   ·exact o.part _ _ _ h1
  q:=λnm q' bz=>by
   rw[q9]at bz
   obtain⟨q,h1,rfl⟩:=Option.map_eq_some_iff.1 bz
   exact⟨(o.q _ _ h1).lim,(o.q _ _ h1).jF,(o.q _ _ h1).msg,(o.q _ _ h1).cons.sublist List.filter_sublist⟩
  cnt:=λnm q' bz=>by
   rw[q9]at bz
   obtain⟨q,h1,rfl⟩:=Option.map_eq_some_iff.1 bz
   exact xx.same (q:={q with cons:=_}) ⟨(o.cnt _ _ h1).held,(o.cnt _ _ h1).one,(o.cnt _ _ h1).no⟩ (same _ λg=>by rw[(hf g).2]) (λs=>same _ λg=>by rw[(hf g).2]) rfl
  x:=λk x hx=>by
   rw[tA]at hx
   split at hx
   ·cases hx
   ·exact o.x k x hx
  xn:=o.xn.sublist (List.Sublist.map _ List.filter_sublist)
  xl:=by
   have h1:=tt λh=>h.co.length
   rw[yD]
   have h2:(f h).co.length+(h.co.filter λe=>decide (e.2∈L)).length=h.co.length:=by
    rw[qS]
    have:=QU h.co λe=>e.2∈L
    omega
   have h3:(h.co.filter λe=>decide (e.2∈L)).length<=(n.xs.filter λe=>decide (e.1∈L)).length:=by
    have hn:((h.co.filter λe=>decide (e.2∈L)).map (·.2)).Nodup:=(P6 o hh).sublist (List.Sublist.map _ List.filter_sublist)
    have:=ME (m:=(n.xs.filter λe=>decide (e.1∈L)).map (·.1)) hn λk hk=>by
     obtain⟨e,he,rfl⟩:=List.mem_map.1 hk
     obtain⟨h4,h5⟩:=List.mem_filter.1 he
     obtain⟨x,h6,_⟩:=o.w.co _ _ _ hh e h4
     exact List.mem_map.2 ⟨(e.2,x),List.mem_filter.2 ⟨iZ h6,h5⟩,rfl⟩
    simpa using this
   have h4:(n.xs.filter λe=>decide (e.1∈L)).length+(n.xs.filter λe=>decide (e.1∉L)).length=n.xs.length:=QU n.xs λe=>e.1∈L
   have h5:=o.xl
   show(n.xs.filter λe=>decide (e.1∉L)).length<=_
   omega
  gR:=o.gR
  bh:=o.bh
  last:=o.last}
end
theorem sum_add(l:List α)(f g:α->Nat):(l.map λa=>f a+g a).sum=(l.map f).sum+(l.map g).sum:=by
 induction l with
 |nil=>rfl
 |cons a l ih=>simp only[List.map_cons,List.sum_cons,ih];omega
def akf{un:List (Nat×(List UInt8×aM))}{ks:List (List UInt8)}(h:∀e∈un,e.2.1∈ks):un.length<=(ks.map λk=>un.countP λe=>decide (e.2.1=k)).sum:=by
 induction un with
 |nil=>simp
 |cons e un ih=>
  have h1:=ih λe he=>h e (by simp[he])
  have h2:(ks.map λk=>(e::un).countP λe=>decide (e.2.1=k))=ks.map λk=>(un.countP λe=>decide (e.2.1=k))+(if e.2.1=k then 1 else 0):=by apply List.map_congr_left;intro k _;rw[List.countP_cons];simp only[decide_eq_true_eq]
  rw[h2,sum_add ks (λk=>un.countP λe=>decide (e.2.1=k)) λk=>if e.2.1=k then 1 else 0];have h3:(if e.2.1=e.2.1 then 1 else 0)<=(ks.map λk=>if e.2.1=k then 1 else 0).sum:=Mb (f:=λk=>if e.2.1=k then 1 else 0) (h e al);rw[if_pos rfl]at h3;simp only[List.length_cons];omega
def akz{l:List Nat}(s:l.Pairwise (·<·))(B:Nat)(h:∀a∈l,1<=a/\a<=B):l.length<=B:=by
 have:=ME (BN s) (m:=(List.range B).map (·+1)) λa ha=>by have:=h a ha;exact List.mem_map.2 ⟨a-1,List.mem_range.2 aa,aa⟩
 simpa using this
section
variable {n:N}{aL:Int}{no:Nat}{dC:Nat}{c:CN}{h:HN}{w:HN->Nat}{nm:List UInt8}{q:QN}{k:Int}{x:XN}{m:aM}{T:Int}{K:Nat}{ex:List Int}{l:List Int}
variable {id:Int}
def Ok.held (o:Ok T K ex n)(hq:n.q? nm=some q):0<=q.held/\q.held<=50/\q.ready.length<=50:=by have h1:=(o.cnt _ _ hq).held;have h2:=(o.q _ _ hq).lim;have h3:=o.cfg.queue;omega
def Ok.TF (o:Ok T K ex n)(hc:n.ar id=some c):c.ch.length<=8:=by
 have:=akz (o.c _ _ hc).jF 8 λa ha=>by obtain⟨e,he,rfl⟩:=List.mem_map.1 ha;exact(o.c _ _ hc).no e he
 simpa using this
def Ok.EF (o:Ok T K ex n)(hh:n.h? id no=some h):h.un.length<=400:=by
 have h1:=akf (un:=h.un) (ks:=n.aN.map (·.1)) λe he=>mf.1 (o.w.un _ _ _ hh e he);rw[List.map_map]at h1
 have h2:((n.aN.map ((λk=>h.un.countP λe=>decide (e.2.1=k))∘(·.1))).sum)<=n.aN.length*50:=Ip λe he=>by have hq:n.q? e.1=some e.2:=oF o.nq he;have h3:=(o.cnt _ _ hq).held;have h4:=o.held hq;have h5:(h.un.countP λt=>decide (t.2.1=e.1))<=n.ij e.1:=Mc (w:=λh:HN=>h.un.countP λt=>decide (t.2.1=e.1)) hh;simp only[Function.comp];omega
 have h6:=o.lq;omega
def Ok.V1 (o:Ok T K ex n){w:HN->Nat}{B:Nat}(hw:∀id no h,n.h? id no=some h->w h<=B):n.eO w<=32*B:=by
 have h1:n.eO w<=n.aF.length*(8*B):=Ip λe he=>by
  have hc:n.ar e.1=some e.2:=oF o.nc he
  have h2:(e.2.ch.map λg=>w g.2).sum<=e.2.ch.length*B:=Ip λg hg=>by
   have:n.h? e.1 g.1=some g.2:=by unfold N.h?;rw[hc];exact oF (y7 hc o) hg
   exact hw _ _ _ this
  have h3:=o.TF hc;exact Nat.le_trans h2 (Nat.mul_le_mul_right B h3)
 have h2:=o.lc;have h3:n.aF.length*(8*B)<=4*(8*B):=Nat.mul_le_mul_right _ h2;omega
def Ok.lxs (o:Ok T K ex n):n.xs.length<=128:=by have h1:=o.V1 (w:=λh=>h.co.length) (B:=4) λid no h hh=>(o.h _ _ _ hh).tG;have h2:=o.xl;omega
def Ok.Hz (o:Ok T K ex n)(hq:n.q? nm=some q):q.cons.length<=128:=by
 have h1:=ME (o.q _ _ hq).cons (m:=n.xs.map (·.1)) λk hk=>by obtain⟨x,hx,_⟩:=o.w.qc _ _ hq k hk;exact List.mem_map_of_mem (f:=(·.1)) (iZ hx)
 have h2:=o.lxs;rw[List.length_map]at h1;omega
def Ok.aaN (o:Ok T K ex n)(hx:n.x? k=some x):FE n k:=by obtain⟨q,hq⟩:=Option.isSome_iff_exists.1 (o.w.xq k x hx);exact⟨x,q,hx,hq,by have:=o.Hz hq;omega,λj hj=>by obtain⟨y,hy,_⟩:=o.w.qc _ _ hq j hj;rw[hy];rfl⟩
def Ok.aaM (o:Ok T K ex n){e:Nat×(List UInt8×aM)}(hh:n.h? id no=some h)(hu:bq h.un e.1=some e.2):IV n id no e:=by obtain⟨q,hq⟩:=Option.isSome_iff_exists.1 (o.w.un _ _ _ hh _ (iZ hu));simp only at hq;have h1:=o.held hq;have h2:=(o.cnt _ _ hq).held;have h3:(h.un.countP λt=>decide (t.2.1=e.2.1))<=n.ij e.2.1:=Mc (w:=λh:HN=>h.un.countP λt=>decide (t.2.1=e.2.1)) hh;have h4:0<h.un.countP λt=>decide (t.2.1=e.2.1):=List.countP_pos_iff.2 ⟨_,iZ hu,al⟩;exact⟨h,q,hh,hu,hq,aa,aa,(o.q _ _ hq).jF⟩
def V7 {α:Type}{p:α->Bool}{e f:α}(aE:e≠f)(he:p e=true)(hf:p f=true):∀{l:List α},e∈l->f∈l->2<=l.countP p
 |x::l,h1,h2=>by
  have c:∀{z},z∈l->p z=true->0<l.countP p:=λh k=>List.countP_pos_iff.2 ⟨_,h,k⟩;rcases List.mem_cons.1 h1 with rfl|k1<;>rcases List.mem_cons.1 h2 with rfl|k2
  ·exact absurd rfl aE
  ·have:=c k2 hf;rw[List.countP_cons_of_pos he];omega
  ·have:=c k1 he;rw[List.countP_cons_of_pos hf];omega
  ·have:=V7 aE he hf k1 k2;rw[List.countP_cons];omega
def Ok.Vt (o:Ok T K ex n)(hh:n.h? id no=some h):tZ h.un:=by intro e he f hf h1 h2 h3;obtain⟨q,hq⟩:=Option.isSome_iff_exists.1 (o.w.un _ _ _ hh _ he);have h4:=(o.cnt _ _ hq).one e.2.2.seq;have h5:(h.un.countP λt=>decide (t.2.1=e.2.1)&&decide (t.2.2.seq=e.2.2.seq))<=n.cnt e.2.1 e.2.2.seq:=Mc (w:=λh:HN=>h.un.countP λt=>decide (t.2.1=e.2.1)&&decide (t.2.2.seq=e.2.2.seq)) hh;have h6:=V7 (p:=λt:Nat×(List UInt8×aM)=>decide (t.2.1=e.2.1)&&decide (t.2.2.seq=e.2.2.seq)) (λx=>h1 (by rw[x])) al (by simp[h2,h3]) he hf;omega
def Ok.PI (o:Ok T K ex n)(hh:n.h? id no=some h)(p:Nat->Bool)(b:Bool):IW n id no h p b:=by have iB:=BN (o.h _ _ _ hh).un;refine⟨iB,o.Vt hh,by have:=o.EF hh;omega,λl e he hn _=>?_⟩;refine(o.jP (id:=id) (no:=no) (p:=p) (b:=b) (l:=l)).aaM (RN hh) ?_;refine oF (iB.sublist (List.Sublist.map _ List.filter_sublist)) (List.mem_filter.2 ⟨he,?_⟩);simp only[Bool.not_eq_eq_eq_not,Bool.not_true,List.any_eq_false,Bool.and_eq_true,decide_eq_true_eq,not_and];intro x hx k;exact absurd k (hn x hx)
def Ok.sz (o:Ok T K ex n)(hh:n.h? id no=some h):Ok T K ex ((n.jX h.co).bB id no λh=>{h with co:=[]}):=by
 rw[PM o.qx];refine o.rF hh _ (λ_=>⟨rfl,rfl⟩) ?_ λk hk=>hk
 symm
 refine List.filter_eq_nil_iff.2 λe he=>?_;simp only[decide_not,Bool.not_eq_eq_eq_not,Bool.not_true,decide_eq_false_iff_not,Decidable.not_not];exact List.mem_map_of_mem (f:=(·.2)) he
def Ok.Ge (o:Ok T K ex n)(hh:n.h? id no=some h):yL n id no h:=by
 have oh:=o.h _ _ _ hh;refine⟨oh.co,BN oh.un,o.Vt hh,by have:=oh.tG;omega,by have:=o.EF hh;omega,λj hj=>?_,λl e he hn=>?_⟩
 ·obtain⟨x,hx,_,_,_⟩:=o.w.co _ _ _ hh _ (List.getElem_mem hj);rw[PM o.qx];have hq:=o.w.xq _ _ hx;obtain⟨q,hq⟩:=Option.isSome_iff_exists.1 hq
  have oy:h.co[j].2∉(h.co.take j).map (·.2):=by intro hm;obtain⟨e,he,hv⟩:=List.mem_map.1 hm;obtain⟨i,hi,rfl⟩:=List.getElem_of_mem he;rw[List.length_take]at hi;rw[List.getElem_take]at hv;have h1:(h.co.map (·.2))[i]'(by simp;omega)=(h.co.map (·.2))[j]'(aW hj):=aW hv;exact(List.pairwise_iff_getElem.1 (P6 o hh)) i j (by simp;omega) (aW hj) aa h1
  refine⟨x,_,by rw[Fy,if_neg oy];exact hx,by rw[H6,hq];rfl,?_,λi hi=>?_⟩
  ·have h1:=o.Hz hq;have h2:(q.cons.filter λk=>decide (k∉(h.co.take j).map (·.2))).length<=q.cons.length:=List.length_filter_le _ _;simp only;omega
  ·obtain⟨h1,h2⟩:=List.mem_filter.1 hi;obtain⟨y,hy,_⟩:=o.w.qc _ _ hq i h1;rw[Fy,if_neg (aW h2),hy];rfl
 ·have h1:((n.jX h.co).bB id no λh=>{h with co:=[]}).h? id no=some {h with co:=[]}:=by rw[jZ,if_pos ⟨rfl,rfl⟩,GA,hh];rfl
  rw[Ng];exact((o.sz hh).PI h1 (λ_=>true) true).step l e he hn rfl
def Ok.release (o:Ok T K ex n):Ok T K ex (n.release id no):=by
 cases hh:n.h? id no with
 |none=>unfold N.release;rw[hh];exact o
 |some h=>rw[B8 hh];exact(o.sz hh).kY
def Ok.gV (o:Ok T K ex n){l:List (Nat×HN)}:Ok T K ex (n.gV id l):=by
 unfold N.gV
 induction l generalizing n with
 |nil=>exact o
 |cons e l ih=>rw[List.foldl_cons];exact ih o.release
def RM {l:List (Nat×HN)}(aE:∀e∈l,¬(aL=id/\dC=e.1)):(n.gV id l).h? aL dC=n.h? aL dC:=by
 unfold N.gV
 induction l generalizing n with
 |nil=>rfl
 |cons e l ih=>rw[List.foldl_cons,ih λe he=>aE e (by simp[he])];exact RL (aE e al)
def Gg {f:HN->HN}:((n.bB id no f).ar aL).map (λc=>c.ch.map (·.1))=(n.ar aL).map λc=>c.ch.map (·.1):=by
 rw[vP];split
 ·cases n.ar aL with
  |none=>rfl
  |some c=>simp only[Option.map_some];congr 1;exact oP _ _ _ λx=>x
 ·rfl
def abf {tag:Nat}{b:Bool}:((n.settle id no tag b).ar aL).map (λc=>c.ch.map (·.1))=(n.ar aL).map λc=>c.ch.map (·.1):=by
 unfold N.settle;split
 ·rfl
 ·rw[y9];exact Gg
def abg {l:List (Nat×(List UInt8×aM))}:((n.kY id no l).ar aL).map (λc=>c.ch.map (·.1))=(n.ar aL).map λc=>c.ch.map (·.1):=by
 unfold N.kY
 induction l generalizing n with
 |nil=>rfl
 |cons e l ih=>rw[List.foldl_cons,ih];exact abf
def abd:((n.release id no).ar aL).map (λc=>c.ch.map (·.1))=(n.ar aL).map λc=>c.ch.map (·.1):=by
 cases hh:n.h? id no with
 |none=>unfold N.release;rw[hh]
 |some h=>rw[B8 hh,abg,Gg,P4]
def JG {l:List (Nat×HN)}:((n.gV id l).ar aL).map (λc=>c.ch.map (·.1))=(n.ar aL).map λc=>c.ch.map (·.1):=by
 unfold N.gV
 induction l generalizing n with
 |nil=>rfl
 |cons e l ih=>rw[List.foldl_cons,ih];exact abd
def Ok.Gd (o:Ok T K ex n)(hc:n.ar id=some c):AF n id c:=by
 refine⟨(o.c _ _ hc).jF,by have:=o.TF hc;omega,λj=>?_,λj hj=>?_⟩
 ·have:=JG (n:=n) (id:=id) (aL:=id) (l:=c.ch.take j);rw[hc,Option.map_some]at this;obtain⟨cj,h1,h2⟩:=Option.map_eq_some_iff.1 this;exact⟨cj,h1,h2⟩
 ·have h1:n.h? id c.ch[j].1=some c.ch[j].2:=by unfold N.h?;rw[hc];exact oF (y7 hc o) (List.getElem_mem hj)
  have h2:(n.gV id (c.ch.take j)).h? id c.ch[j].1=some c.ch[j].2:=by rw[RM λe he hx=>HM (y7 hc o) hj e he hx.2.symm];exact h1
  exact⟨_,h2,(o.gV (id:=id) (l:=c.ch.take j)).Ge h2⟩
end
section
variable {n:N}{aL:Int}{no:Nat}{dC:Nat}{c:CN}{h:HN}{w:HN->Nat}{nm:List UInt8}{q:QN}{k:Int}{x:XN}{T:Int}{K:Nat}{ex:List Int}{fT:List Int}{l:List Int}
variable {id:Int}
def VT {α:Type}(l:List α)(p:α->Bool)(f:α->Nat)(h:∀a∈l,p a=false->f a=0):((l.filter p).map f).sum=(l.map f).sum:=by
 induction l with
 |nil=>rfl
 |cons a l ih=>
  have ih:=ih λb hb=>h b (by simp[hb])
  cases hp:p a with
  |true=>rw[List.filter_cons_of_pos hp];simp only[List.map_cons,List.sum_cons,ih]
  |false=>rw[List.filter_cons_of_neg (by simp[hp])];simp only[List.map_cons,List.sum_cons,ih,h a al hp];omega
def RI {p:Nat->Bool}:(n.dN id λc=>{c with ch:=c.ch.filter λe=>p e.1}).h? aL dC=if aL=id/\p dC=false then none else n.h? aL dC:=by
 unfold N.h?;rw[qF];by_cases e:aL=id
 ·subst e;rw[if_pos rfl]
  cases n.ar aL with
  |none=>simp
  |some c=>
   simp only[Option.map_some,Option.bind_some,true_and];rw[OP c.ch dC p]
   cases p dC<;>simp
 ·rw[if_neg e,if_neg λx=>e x.1]
def Ok.Tw (o:Ok T K ex n)(p:Nat->Bool)(he:∀no h,n.h? id no=some h->p no=false->h.un=[]/\h.co=[])(hx:∀i∈ex,i∈fT\/(i=id/\∀no,p no=false)):
 Ok T K fT (n.dN id λc=>{c with ch:=c.ch.filter λe=>p e.1}):=by
 have same:∀w:HN->Nat,(∀h:HN,h.un=[]->h.co=[]->w h=0)->(n.dN id λc=>{c with ch:=c.ch.filter λe=>p e.1}).eO w=n.eO w:=λw hw=>by
  cases hc:n.ar id with
  |none=>
   exact Nv (f:=λc:CN=>{c with ch:=c.ch.filter λe=>p e.1}) (g:=λc:CN=>(c.ch.map λg:Nat×HN=>w g.2).sum) (λv hv=>by rw[N.ar]at hc;rw[hc]at hv;cases hv) o.nc
  |some c=>
   have h1:=NF (w:=w) o.nc hc λc=>{c with ch:=c.ch.filter λe=>p e.1}
   have h2:=VT c.ch (λe=>p e.1) (λg=>w g.2) λg hg hp=>by
    have:n.h? id g.1=some g.2:=by unfold N.h?;rw[hc];exact oF (y7 hc o) hg
    obtain⟨h3,h4⟩:=he _ _ this hp;exact hw _ h3 h4
   simp only at h1;rw[h2]at h1;omega
 have sub:∀i j g,(n.dN id λc=>{c with ch:=c.ch.filter λe=>p e.1}).h? i j=some g->n.h? i j=some g/\¬(i=id/\p j=false):=λi j g hg=>by
  rw[RI]at hg;split at hg
  ·cases hg
  ·rename_i aE;exact⟨hg,aE⟩
 have lk:(n.dN id λc=>{c with ch:=c.ch.filter λe=>p e.1}).aF.length=n.aF.length:=by have:=congrArg List.length (rM (n:=n) (id:=id) (f:=λc=>{c with ch:=c.ch.filter λe=>p e.1}));simpa using this
 exact{
  cfg:=o.cfg
  sc:=by rw[rM];exact o.sc
  lc:=by rw[lk];exact o.lc
  ids:=λi hi=>o.ids i (mf.2 (by rw[<-rM];exact mf.1 hi))
  sq:=o.sq
  nq:=o.nq
  lq:=o.lq
  w:={
   un:=λi j g hg=>o.w.un _ _ _ (sub _ _ _ hg).1
   xq:=o.w.xq
   xh:=λk x hx=>by
    obtain⟨g,h1,h2⟩:=o.w.xh k x hx
    refine⟨g,?_,h2⟩
    rw[RI,if_neg]
    ·exact h1
    ·rintro⟨e1,e2⟩
     obtain⟨_,h4⟩:=he _ _ (by rw[<-e1];exact h1) e2
     rw[h4]at h2;cases h2
   co:=λi j g hg=>o.w.co _ _ _ (sub _ _ _ hg).1
   qc:=o.w.qc}
  c:=λi c' cF=>by
   rw[qF]at cF
   by_cases e:i=id
   ·subst e
    rw[if_pos rfl]at cF
    obtain⟨c,hc,rfl⟩:=Option.map_eq_some_iff.1 cF
    have oc:=o.c _ _ hc
    exact⟨oc.r,oc.jF.sublist (List.Sublist.map _ List.filter_sublist),λe he=>oc.no e (List.filter_sublist.subset he)⟩
   ·rw[if_neg e]at cF;exact o.c _ _ cF
  h:=λi j g hg=>o.h _ _ _ (sub _ _ _ hg).1
  part:=λi j g hg hi=>o.part _ _ _ (sub _ _ _ hg).1 λhm=>by
   rcases hx i hm with h1|⟨h1,h2⟩
   ·exact hi h1
   ·exact(sub _ _ _ hg).2 ⟨h1,h2 j⟩
  q:=o.q
  cnt:=λnm q hq=>(o.cnt nm q hq).same (same _ λh h1 _=>by rw[h1];rfl) (λs=>same _ λh h1 _=>by rw[h1];rfl) rfl
  x:=o.x
  xn:=o.xn
  xl:=by rw[same _ λh _ h2=>by rw[h2];rfl];exact o.xl
  gR:=o.gR
  bh:=o.bh
  last:=o.last}
def Ok.oY (o:Ok T K ex n):Ok T K ex (n.oY id no):=by
 have:=(o.release (id:=id) (no:=no)).Tw (id:=id) (fT:=ex) (λa=>decide (a≠no)) (λj g hg hp=>by
  have:j=no:=aW hp
  subst this
  cases hh:n.h? id j with
  |none=>unfold N.release at hg;rw[hh]at hg;simp only at hg;rw[hh]at hg;cases hg
  |some h=>rw[RJ hh]at hg;cases hg;exact⟨rfl,rfl⟩) λi hi=>.inl hi
 exact this
def afe {l:List (Nat×HN)}(nd:(l.map (·.1)).Nodup){e:Nat×HN}(hm:e∈l)(hh:n.h? id e.1=some h):(n.gV id l).h? id e.1=some {h with un:=[],co:=[]}:=by
 unfold N.gV
 induction l generalizing n with
 |nil=>cases hm
 |cons a l ih=>
  rw[List.map_cons,List.nodup_cons]at nd;rw[List.foldl_cons];rcases List.mem_cons.1 hm with rfl|hm
  ·have:=RM (n:=n.release id e.1) (id:=id) (aL:=id) (dC:=e.1) (l:=l) λb hb hx=>nd.1 (by rw[hx.2];exact List.mem_map_of_mem (f:=(·.1)) hb);unfold N.gV at this;rw[this,RJ hh]
  ·refine ih nd.2 hm ?_;rw[RL λhx=>nd.1 (by rw[<-hx.2];exact List.mem_map_of_mem (f:=(·.1)) hm)];exact hh
def Md (hc:n.ar id=some c):n.leave id=(n.gV id c.ch).dN id λc=>{c with ch:=[]}:=by unfold N.leave;rw[hc];rfl
def Ok.leave (o:Ok T K ex n)(hx:∀i∈ex,i∈fT\/i=id)(hi:(n.ar id).isSome):Ok T K fT (n.leave id):=by
 obtain⟨c,hc⟩:=Option.isSome_iff_exists.1 hi;rw[Md hc];have hd:=JG (n:=n) (id:=id) (aL:=id) (l:=c.ch);rw[hc,Option.map_some]at hd;obtain⟨c1,cG,ek⟩:=Option.map_eq_some_iff.1 hd
 have:=(o.gV (id:=id) (l:=c.ch)).Tw (id:=id) (fT:=fT) (λ_=>false) (λj g hg _=>by
  have h1:j∈c1.ch.map (·.1):=by
   have:=Dm hg cG
   exact List.mem_map_of_mem (f:=(·.1)) (iZ this)
  rw[ek]at h1
  obtain⟨e,he,rfl⟩:=List.mem_map.1 h1
  have h2:n.h? id e.1=some e.2:=by unfold N.h?;rw[hc];exact oF (y7 hc o) he
  rw[afe (y7 hc o) he h2]at hg
  cases hg;exact⟨rfl,rfl⟩) λi hi=>(hx i hi).imp (λh=>h) λh=>⟨h,λ_=>rfl⟩
 have e:(λc:CN=>{c with ch:=c.ch.filter λe=>(λ_:Nat=>false) e.1})=λc=>{c with ch:=[]}:=by
  funext c
  have:(c.ch.filter λe=>(λ_:Nat=>false) e.1)=[]:=List.filter_eq_nil_iff.2 λ_ _=>al;rw[this]
 rw[e]at this;exact this
def Ok.yD (o:Ok T K ex n){w:HN->Nat}(hw:∀id no h,n.h? id no=some h->w h=0):n.eO w=0:=by have:=o.V1 (w:=w) (B:=0) λi j h hh=>Nat.le_of_eq (hw i j h hh);omega
def Ok.ald (o:Ok T K ex n)(hc:n.ar id=some c)(hn:bq c.ch no=none)(eH:1<=no/\no<=8):Ok T K ex (n.dN id λc=>{c with ch:=da lG c.ch no ⟨gu,[],[]⟩}):=by
 have uI:n.h? id no=none:=by unfold N.h?;rw[hc];exact hn
 have hT:0<=T:=Int.le_trans o.gR.1 o.gR.2
 have rW:∀i j,(n.dN id λc=>{c with ch:=da lG c.ch no ⟨gu,[],[]⟩}).h? i j=if i=id/\j=no then some ⟨gu,[],[]⟩else n.h? i j:=λi j=>by
  unfold N.h?;rw[qF];by_cases e:i=id
  ·subst e;rw[if_pos rfl,hc];simp only[Option.map_some,Option.bind_some,true_and];exact yX _ _ _ _ hn
  ·rw[if_neg e,if_neg λx=>e x.1]
 have same:∀w:HN->Nat,w ⟨gu,[],[]⟩=0->(n.dN id λc=>{c with ch:=da lG c.ch no ⟨gu,[],[]⟩}).eO w=n.eO w:=λw hw=>by have h1:=NF (w:=w) o.nc hc λc=>{c with ch:=da lG c.ch no ⟨gu,[],[]⟩};simp only at h1;rw[aqt (lt:=lG) c.ch no (⟨gu,[],[]⟩:HN) w,hw]at h1;omega
 have xz:∀i j g,(n.dN id λc=>{c with ch:=da lG c.ch no ⟨gu,[],[]⟩}).h? i j=some g->g=⟨gu,[],[]⟩\/n.h? i j=some g:=λi j g hg=>by
  rw[rW]at hg;split at hg
  ·cases hg;exact .inl rfl
  ·exact .inr hg
 have lk:(n.dN id λc=>{c with ch:=da lG c.ch no ⟨gu,[],[]⟩}).aF.length=n.aF.length:=by have:=congrArg List.length (rM (n:=n) (id:=id) (f:=λc=>{c with ch:=da lG c.ch no ⟨gu,[],[]⟩}));simpa using this
 exact{
  cfg:=o.cfg
  sc:=by rw[rM];exact o.sc
  lc:=by rw[lk];exact o.lc
  ids:=λi hi=>o.ids i (mf.2 (by rw[<-rM];exact mf.1 hi))
  sq:=o.sq
  nq:=o.nq
  lq:=o.lq
  w:={
   un:=λi j g hg e he=>by
    rcases xz _ _ _ hg with rfl|hg
    ·cases he
    ·exact o.w.un _ _ _ hg e he
   xq:=o.w.xq
   xh:=λk x hx=>by
    obtain⟨g,h1,h2⟩:=o.w.xh k x hx
    refine⟨g,?_,h2⟩
    rw[rW,if_neg]
    ·exact h1
    ·rintro⟨e1,e2⟩;rw[e1,e2,uI]at h1;cases h1
   co:=λi j g hg e he=>by
    rcases xz _ _ _ hg with rfl|hg
    ·cases he
    ·exact o.w.co _ _ _ hg e he
   qc:=o.w.qc}
  c:=λi c' cF=>by
   rw[qF]at cF
   by_cases e:i=id
   ·subst e
    rw[if_pos rfl,hc]at cF
    cases cF
    have oc:=o.c _ _ hc
    refine⟨oc.r,XJ oc.jF hn,λe he=>?_⟩
    rcases FY.1 he with rfl|he
    ·exact eH
    ·exact oc.no e he
   ·rw[if_neg e]at cF;exact o.c _ _ cF
  h:=λi j g hg=>by
   rcases xz _ _ _ hg with rfl|hg
   ·exact⟨List.Pairwise.nil,(λ_ h=>by cases h),⟨by simp[gu],by simpa[gu]using hT⟩,List.Pairwise.nil,List.Pairwise.nil,al,by simp[gu],by simp[gu],by simp[gu],by simp[gu],(λ_ h=>by cases h)⟩
   ·exact o.h _ _ _ hg
  part:=λi j g hg hi hw=>by
   rcases xz _ _ _ hg with rfl|hg
   ·simp[gu]at hw
   ·exact o.part _ _ _ hg hi hw
  q:=o.q
  cnt:=λnm q hq=>(o.cnt nm q hq).same (same _ rfl) (λs=>same _ rfl) rfl
  x:=o.x
  xn:=o.xn
  xl:=by rw[same _ rfl];exact o.xl
  gR:=o.gR
  bh:=o.bh
  last:=o.last}
def Ok.tK (o:Ok T K ex n)(hq:n.q? nm=none)(hl:n.aN.length<=7)(hg:0<=n.cfg.queue):Ok T K ex {n with aN:=da cP n.aN nm ⟨[],0,0,[]⟩}:=by
 have q9:∀i,N.q? {n with aN:=da cP n.aN nm ⟨[],0,0,[]⟩} i=if i=nm then some ⟨[],0,0,[]⟩else n.q? i:=λi=>yX _ _ _ _ hq
 have xz:∀i q,N.q? {n with aN:=da cP n.aN nm ⟨[],0,0,[]⟩} i=some q->(i=nm/\q=⟨[],0,0,[]⟩)\/n.q? i=some q:=λi q h=>by
  rw[q9]at h;split at h
  ·rename_i e;cases h;exact .inl ⟨e,rfl⟩
  ·exact .inr h
 have up:∀i,(n.q? i).isSome->(N.q? {n with aN:=da cP n.aN nm ⟨[],0,0,[]⟩} i).isSome:=λi hi=>by rw[q9];split<;>simp_all
 have eH:∀i j h,n.h? i j=some h->∀e∈h.un,¬e.2.1=nm:=λi j h hh e he hx=>by have:=o.w.un _ _ _ hh e he;rw[hx,hq]at this;cases this
 have lk:=(vH (lt:=cP) n.aN nm (⟨[],0,0,[]⟩:QN)).length_eq
 exact{
  cfg:=o.cfg
  sc:=o.sc
  lc:=o.lc
  ids:=o.ids
  sq:=OT wW o.sq
  nq:=OS o.nq hq
  lq:=by show(da cP n.aN nm _).length<=8;rw[lk,List.length_cons];omega
  w:={
   un:=λi j g hg e he=>up _ (o.w.un _ _ _ hg e he)
   xq:=λk x hx=>up _ (o.w.xq k x hx)
   xh:=o.w.xh
   co:=o.w.co
   qc:=λi q bz k hk=>by
    rcases xz _ _ bz with⟨_,rfl⟩|h
    ·cases hk
    ·exact o.w.qc _ _ h k hk}
  c:=o.c
  h:=o.h
  part:=o.part
  q:=λi q bz=>by
   rcases xz _ _ bz with⟨_,rfl⟩|h
   ·exact⟨aW hg,List.Pairwise.nil,(λ_ h=>by cases h),List.Pairwise.nil⟩
   ·exact o.q _ _ h
  cnt:=λi q bz=>by
   rcases xz _ _ bz with⟨rfl,rfl⟩|h
   ·have h1:N.ij {n with aN:=da cP n.aN i ⟨[],0,0,[]⟩} i=0:=o.yD (w:=λh=>h.un.countP λe:Nat×(List UInt8×aM)=>decide (e.2.1=i)) λi' j h hh=>List.countP_eq_zero.2 λe he=>by simpa using eH _ _ _ hh e he
    have h2:∀s,N.cnt {n with aN:=da cP n.aN i ⟨[],0,0,[]⟩} i s=0:=λs=>o.yD (w:=λh=>h.un.countP λe:Nat×(List UInt8×aM)=>decide (e.2.1=i)&&decide (e.2.2.seq=s)) λi' j h hh=>List.countP_eq_zero.2 λe he=>by
     have:=eH _ _ _ hh e he
     simp[this]
    exact⟨by rw[h1];rfl,λs=>by rw[h2];simp,λs _=>by rw[h2];simp⟩
   ·exact⟨(o.cnt _ _ h).held,(o.cnt _ _ h).one,(o.cnt _ _ h).no⟩
  x:=o.x
  xn:=o.xn
  xl:=o.xl
  gR:=o.gR
  bh:=o.bh
  last:=o.last}
end
section
variable {n:N}{no:Nat}{c:CN}{h:HN}{w:HN->Nat}{nm:List UInt8}{q:QN}{k:Int}{x:XN}{T:Int}{T':Int}{K:Nat}{ex:List Int}
variable {id:Int}
def Ok.Wz (o:Ok T K ex n):n.x? (n.bh+1)=none:=by
 cases hx:n.x? (n.bh+1)with
 |none=>rfl
 |some x=>have:=(o.x _ _ hx).1.2;omega
def Ok.kM (o:Ok T K ex n)(hh:n.h? id no=some h)(hq:n.q? nm=some q){tg:List UInt8}{na:Bool}(ht:bq h.co tg=none)(hl:h.co.length<=3)(Bz:tg.length<=8):Ok (T+1) K ex (n.kM id no nm tg na):=by
 have oh:=o.h _ _ _ hh
 let k:=n.bh+1
 let f:HN->HN:=λh=>{h with co:=da cP h.co tg k}
 have hT:=o.gR;have hN:=o.bh;have tt:=λw:HN->Nat=>Fo o hh f w;have yD:∀w:HN->Nat,(n.kM id no nm tg na).eO w=(n.bB id no f).eO w:=λ_=>rfl
 have same:∀w:HN->Nat,(∀g:HN,w (f g)=w g)->(n.kM id no nm tg na).eO w=n.eO w:=λw hw=>by have:=tt w;rw[hw]at this;rw[yD];omega
 have si:(n.kM id no nm tg na).aN.map (·.1)=n.aN.map (·.1):=B4 (n:=n) (f:=λq=>{q with cons:=q.cons++[k]});have tn:(n.kM id no nm tg na).aF.map (·.1)=n.aF.map (·.1):=rM (n:=n) (f:=λc=>{c with ch:=dE c.ch no f});have lk:(n.kM id no nm tg na).aF.length=n.aF.length:=by have:=congrArg List.length tn;simpa using this
 have ED:(n.kM id no nm tg na).aN.length=n.aN.length:=by have:=congrArg List.length si;simpa using this
 have q9:∀i,(n.kM id no nm tg na).q? i=if i=nm then(n.q? i).map (λq=>{q with cons:=q.cons++[k]})else n.q? i:=λi=>vn (n:=n) (nm:=nm) (fq:=λq=>{q with cons:=q.cons++[k]})
 have tA:∀i,(n.kM id no nm tg na).x? i=if i=k then some ⟨id,no,tg,nm,na⟩else n.x? i:=λi=>by
  show bq (n.xs++[(k,⟨id,no,tg,nm,na⟩)]) i=_;have hk:=o.Wz;unfold N.x? at hk|-;unfold bq at hk|-;rw[List.find?_append];by_cases e:i=k
  ·subst e;rw[if_pos rfl];have:(n.xs.find? λe=>decide (e.1=k))=none:=aW hk;rw[this];simp
  ·rw[if_neg e];have:¬k=i:=λx=>e x.symm;simp[this]
 have Hm:∀i j,(n.kM id no nm tg na).h? i j=(n.bB id no f).h? i j:=λ_ _=>rfl
 have rW:∀i j g',(n.kM id no nm tg na).h? i j=some g'->(i=id/\j=no/\g'=f h)\/(¬(i=id/\j=no)/\n.h? i j=some g'):=λi j g' hg=>by
  rw[Hm,jZ]at hg;by_cases e:i=id/\j=no
  ·obtain⟨rfl,rfl⟩:=e;rw[if_pos ⟨rfl,rfl⟩,hh]at hg
   cases hg;exact .inl ⟨rfl,rfl,rfl⟩
  ·rw[if_neg e]at hg;exact .inr ⟨e,hg⟩
 have nN:∀i,(n.q? i).isSome->((n.kM id no nm tg na).q? i).isSome:=λi hi=>by
  rw[q9];split
  ·simpa using hi
  ·exact hi
 have hold:∀i y,n.x? i=some y->¬i=k:=λi y hy e=>by have:=(o.x _ _ hy).1.2;omega
 have af6:∀e,e∈(f h).co↔e=(tg,k)\/e∈h.co:=λe=>FY
 exact{
  cfg:=o.cfg
  sc:=by rw[tn];exact o.sc
  lc:=by rw[lk];exact o.lc
  ids:=λi hi=>o.ids i (mf.2 (by rw[<-tn];exact mf.1 hi))
  sq:=by rw[si];exact o.sq
  nq:=by rw[si];exact o.nq
  lq:=by rw[ED];exact o.lq
  w:={
   un:=λi j g' hg e he=>by
    rcases rW i j g' hg with⟨rfl,rfl,rfl⟩|⟨_,h1⟩
    ·exact nN _ (o.w.un _ _ _ hh e he)
    ·exact nN _ (o.w.un _ _ _ h1 e he)
   xq:=λi y hy=>by
    rw[tA]at hy
    split at hy
    ·cases hy;exact nN _ (by rw[hq];rfl)
    ·exact nN _ (o.w.xq _ _ hy)
   xh:=λi y hy=>by
    rw[tA]at hy
    split at hy
    ·rename_i e
     cases hy
     refine⟨f h,by rw[Hm,jZ,if_pos ⟨rfl,rfl⟩,hh];rfl,?_⟩
     show bq (da cP h.co tg k) tg=_
     rw[yX _ _ _ _ ht,if_pos rfl,e]
    ·obtain⟨g,h1,h2⟩:=o.w.xh _ _ hy
     by_cases e:y.id=id/\y.no=no
     ·obtain⟨e1,e2⟩:=e
      rw[e1,e2]at h1|-
      rw[hh]at h1
      cases h1
      refine⟨f h,by rw[Hm,jZ,if_pos ⟨rfl,rfl⟩,hh];rfl,?_⟩
      show bq (da cP h.co tg k) y.tag=_
      rw[yX _ _ _ _ ht,if_neg]
      ·exact h2
      ·intro x;rw[x,ht]at h2;cases h2
     ·exact⟨g,by rw[Hm,jZ,if_neg e];exact h1,h2⟩
   co:=λi j g' hg e he=>by
    rw[tA]
    rcases rW i j g' hg with⟨rfl,rfl,rfl⟩|⟨aE,h1⟩
    ·rcases(af6 e).1 he with rfl|he
     ·rw[if_pos rfl];exact⟨_,rfl,rfl,rfl,rfl⟩
     ·obtain⟨y,h2,h3⟩:=o.w.co _ _ _ hh e he
      rw[if_neg (hold _ _ h2)];exact⟨y,h2,h3⟩
    ·obtain⟨y,h2,h3⟩:=o.w.co _ _ _ h1 e he
     rw[if_neg (hold _ _ h2)];exact⟨y,h2,h3⟩
   qc:=λi q' bz j hj=>by
    rw[q9]at bz
    rw[tA]
    by_cases e:i=nm
    ·subst e
     rw[if_pos rfl,hq]at bz
     cases bz
     rcases List.mem_append.1 hj with hj|hj
     ·obtain⟨y,h1,h2⟩:=o.w.qc _ _ hq j hj
      rw[if_neg (hold _ _ h1)];exact⟨y,h1,h2⟩
     ·rw[if_pos (aW hj)];exact⟨_,rfl,rfl⟩
    ·rw[if_neg e]at bz
     obtain⟨y,h1,h2⟩:=o.w.qc _ _ bz j hj
     rw[if_neg (hold _ _ h1)];exact⟨y,h1,h2⟩}
  c:=λi c' cF=>CO o i c' cF
  h:=λi j g' hg=>by
   rcases rW i j g' hg with⟨rfl,rfl,rfl⟩|⟨_,h1⟩
   ·have:=oh.mono (T':=T+1) aa
    exact{this with
     co:=OT wW oh.co
     cn:=OS oh.cn ht
     tG:=by show(da cP h.co tg k).length<=4;rw[(vH (lt:=cP) h.co tg k).length_eq,List.length_cons];omega}
   ·exact(o.h _ _ _ h1).mono aa
  part:=λi j g' hg=>by
   rcases rW i j g' hg with⟨rfl,rfl,rfl⟩|⟨_,h1⟩
   ·exactλhi hw=>o.part _ _ h hh hi hw
   ·exact o.part _ _ _ h1
  q:=λi q' bz=>by
   rw[q9]at bz
   by_cases e:i=nm
   ·subst e
    rw[if_pos rfl,hq]at bz
    cases bz
    have oq:=o.q _ _ hq
    refine⟨oq.lim,oq.jF,oq.msg,?_⟩
    show(q.cons++[k]).Nodup
    rw[List.nodup_append]
    refine⟨oq.cons,al,λa ha b hb=>?_⟩
    simp only[List.mem_singleton]at hb
    obtain⟨y,h1,_⟩:=o.w.qc _ _ hq a ha
    rw[hb];exact hold _ _ h1
   ·rw[if_neg e]at bz;exact o.q _ _ bz
  cnt:=λi q' bz=>by
   rw[q9]at bz
   have key:∀q0,n.q? i=some q0->q'.ready=q0.ready->q'.held=q0.held->xx (n.kM id no nm tg na) i q':=λq0 h0 h1 h2=>by
    have oc:=o.cnt _ _ h0
    refine xx.same (n:=n) ⟨by rw[h2];exact oc.held,by rw[h1];exact oc.one,by rw[h1];exact oc.no⟩ (same _ λg=>rfl) (λs=>same _ λg=>rfl) rfl
   by_cases e:i=nm
   ·rw[if_pos e]at bz
    obtain⟨q0,h0,rfl⟩:=Option.map_eq_some_iff.1 bz
    exact key q0 h0 rfl rfl
   ·rw[if_neg e]at bz;exact key q' bz rfl rfl
  x:=λi y hy=>by
   rw[tA]at hy
   show(1<=i/\i<=n.bh+1)/\_
   split at hy
   ·rename_i e;cases hy;exact⟨⟨aa,aa⟩,Bz⟩
   ·have:=o.x _ _ hy;exact⟨⟨this.1.1,aa⟩,this.2⟩
  xn:=by
   show((n.xs++[(k,(⟨id,no,tg,nm,na⟩:XN))]).map (·.1)).Nodup
   rw[List.map_append,List.nodup_append]
   refine⟨o.xn,al,λa ha b hb=>?_⟩
   simp only[List.map_cons,List.map_nil,List.mem_singleton]at hb
   obtain⟨y,hy⟩:=Option.isSome_iff_exists.1 (mf.2 ha)
   rw[hb];exact hold a y hy
  xl:=by
   have h1:=tt λh=>h.co.length
   have h2:(f h).co.length=h.co.length+1:=by
    show(da cP h.co tg k).length=_
    rw[(vH (lt:=cP) h.co tg k).length_eq,List.length_cons]
   have h3:=o.xl
   show(n.xs++[(k,(⟨id,no,tg,nm,na⟩:XN))]).length<=_
   rw[yD,List.length_append]
   simp only[List.length_cons,List.length_nil]
   omega
  gR:=⟨hT.1,by show n.messages<=T+1;omega⟩
  bh:=⟨by show 0<=n.bh+1;omega,by show n.bh+1<=T+1;omega⟩
  last:=o.last}
end
def am1(ch m:Nat)(hm:1<=m):∀(f:Nat) (b:List UInt8),(eU ch m f b).length<=9*b.length:=by
 intro f
 induction f with
 |zero=>intro b;simp[eU]
 |succ f ih=>
  intro b;unfold eU;split
  ·simp
  ·rename_i hb;have h1:=ih (b.drop m);have h2:0<b.length:=List.length_pos_iff.2 hb;rw[List.length_append,kP,List.length_take];rw[List.length_drop]at h1;omega
def ni(ch cl me:Nat)(xs:List Arg):(bK ch cl me xs).length=(dg xs).length+12:=by unfold bK;rw[kP];simp only[List.length_append,bJ];omega
def abN{ch size:Nat}{b:List UInt8}(hs:9<=size):(mv ch b size).length<=20+9*b.length:=by unfold mv;have:=am1 ch (size-8) aa b.length b;simp only[List.length_append,kP,bJ];omega
section
variable {n:N}{aL:Int}{no:Nat}{c:CN}{h:HN}{w:HN->Nat}{nm:List UInt8}{q:QN}{k:Int}{x:XN}{m:aM}{n':N}{T:Int}{K:Nat}{ex:List Int}{l:List Int}
variable {id:Int}
def Ok.Q2 (o:Ok T K ex n)(hc:n.ar id=some c):∃fr:Nat,c.r.frame=(fr:Int)/\64<=fr/\fr<=4096:=⟨c.r.frame.toNat,by have:=(o.c _ _ hc).r.frame;omega,by have:=(o.c _ _ hc).r.frame;omega,by have:=(o.c _ _ hc).r.frame;omega⟩
def Ok.MC (o:Ok T K ex n)(hh:n.h? id no=some h):1<=no/\no<=8:=by obtain⟨c,hc⟩:=xL hh;exact(o.c _ _ hc).no _ (iZ (Dm hh hc))
def Ok.VX (o:Ok T K ex n)(hh:n.h? id no=some h):∀e∈h.un,(e.1:Int)≠h.r.tag+1:=λe he hx=>by have:=(o.h _ _ _ hh).ut e he;omega
def Ok.ann (o:Ok T K ex n)(hT:T<=1000000000000):yR n:=⟨⟨o.gR.1,Int.le_trans o.gR.2 hT⟩,λnm q hq=>by have:=o.held hq;omega⟩
def Ok.adR (o:Ok T K ex n)(hT:T<=1000000000000)(hh:n.h? id no=some h):IZ n h:=
 ⟨⟨(o.h _ _ _ hh).tag.1,Int.le_trans (o.h _ _ _ hh).tag.2 hT⟩,o.VX hh,λnm q hq=>⟨by have:=o.held hq;omega,by have:=o.held hq;omega,λm hm=>by have:=(o.q _ _ hq).msg m hm;exact⟨by have:=this.body;omega,by have:=this.key;omega⟩⟩⟩
def Ok.akO (o:Ok T K ex n)(hT:T<=1000000000000)(hK:K<=100000000000000)(hc:n.ar id=some c)(hh:n.h? id no=some h):I8 n id no c h:=by
 refine⟨o.w,by have:=o.MC hh;omega,Nat.le_trans (o.c _ _ hc).r.out hK,(o.h _ _ _ hh).tG,o.Wz,⟨o.bh.1,Int.le_trans o.bh.2 hT⟩,λnm q hq=>by have:=o.held hq;have:=o.Hz hq;omega,λtg k hk=>?_,?_,o.adR hT hh,λtag many b=>o.PI hh _ b,?_⟩
 ·obtain⟨x,hx,_⟩:=o.w.co _ _ _ hh _ (iZ hk);exact o.aaN hx
 ·obtain⟨fr,h1,h2,h3⟩:=o.Q2 hc;exact⟨fr,h1,aa,aa⟩
 ·exact(o.send (id:=id) (s:=bK no 20 41 [])).Ge (by rw[pZ];exact hh)
def Ok.adv (o:Ok T K ex n)(hT:T<=1000000000000)(hK:K<=100000000000000)(hc:n.ar id=some c)(hh:n.h? id no=some h):FH n id no c h:=
 ⟨o.akO hT hK hc hh,o.ann hT,(o.h _ _ _ hh).want,by have:=(o.h _ _ _ hh).body;omega,o.Ge hh⟩
def Ok.afl (o:Ok T K ex n)(hT:T<=1000000000000)(hK:K<=100000000000000)(hc:n.ar id=some c):On n id c:=
 ⟨o.w,Nat.le_trans (o.c _ _ hc).r.out hK,o.Gd hc,λno h hh=>o.adv hT hK hc hh⟩
def V5 (h:n.vA q=some k):k∈q.cons:=by
 unfold N.vA at h;rw[Option.or_eq_some_iff]at h;rcases h with h|⟨_,h⟩
 ·exact(List.mem_filter.1 (List.mem_of_find?_eq_some h)).1
 ·exact(List.mem_filter.1 (List.mem_of_mem_head? h)).1
def Ok.Ig (o:Ok T K ex n)(hT:T<=1000000000000)(hK:K<=100000000000000):I9 n:=by
 have can:∀nm q,n.q? nm=some q->IX n nm q:=λnm q hq=>⟨by have:=o.Hz hq;omega,λk hk=>by
  obtain⟨x,hx,hn⟩:=o.w.qc _ _ hq k hk
  obtain⟨h,hh,_⟩:=o.w.xh _ _ hx
  exact⟨x,h,hx,hn,hh⟩⟩
 refine⟨o.sq,by have:=o.lq;omega,λnm q hq=>⟨can nm q hq,by have:=o.held hq;omega⟩,λnm q m ms k hq hr ht=>?_⟩;obtain⟨x,h,hx,hn,hh⟩:=(can nm q hq).2 k (V5 ht);obtain⟨c,hc⟩:=xL hh;obtain⟨fr,h1,h2,h3⟩:=o.Q2 hc;have hm:=(o.q _ _ hq).msg m (by rw[hr];simp);refine⟨x,c,h,{q with ready:=q.ready.tail,last:=k},fr,hx,hc,hh,by rw[vn,if_pos hn,hn,hq];rfl,⟨(o.h _ _ _ hh).tag.1,Int.le_trans (o.h _ _ _ hh).tag.2 hT⟩,by have:=o.held hq;simp only;omega,o.VX hh,h1,aa,by have:=o.MC hh;omega,Nat.le_trans (o.c _ _ hc).r.out hK,by have:=hm.body;omega,by have:=hm.key;omega,by have:=(o.x _ _ hx).2;omega⟩
def adw (hc:n.ar id=some c):n.frame id=c.r.frame.toNat:=by unfold N.frame;rw[hc];rfl
def Ok.give (o:Ok T K ex n)(hm:Cv m){s:List UInt8}(hs:s.length<=900)(hi:(n.ar id).isSome):Ok T (K+100000) ex (n.give id no m s):=by
 unfold N.give;obtain⟨c,hc⟩:=Option.isSome_iff_exists.1 hi;have h1:9<=n.frame id:=by rw[adw hc];have:=(o.c _ _ hc).r.frame;omega
 have h2:=abN (ch:=no) (b:=m.body) h1;have h3:=hm.body;refine((o.send (id:=id) (s:=s)).send).mono (Int.le_refl _) ?_;omega
def Tr {na:Bool}(hc:(n.ar aL).isSome):((n.hand id no nm m na).ar aL).isSome:=by
 unfold N.hand;split
 ·rw[JJ];split
  ·simpa using hc
  ·exact hc
 ·rw[y9,vP];split
  ·simpa using hc
  ·exact hc
def rK (a:Arg)(l:List Arg):(dg (a::l)).length=(eI a).length+(dg l).length:=by unfold dg;rw[List.flatMap_cons,List.length_append]
def mY:(dg []).length=0:=rfl
def Js (k:Nat):(eI (.short k)).length=2:=bJ _ _
def AM (k:Nat):(eI (.long k)).length=4:=bJ _ _
def OZ (k:Nat):(eI (.mM k)).length=8:=bJ _ _
def OY (b:Bool):(eI (.flag b)).length=1:=bJ _ _
def vJ (s:List UInt8):(eI (.text s)).length=1+s.length:=by show(aw 1 s.length++s).length=_;rw[List.length_append,bJ]
def Ok.iY (o:Ok T K ex n)(hs:n.iY nm=some n'):Ok (T+1) (K+100000) ex n':=by
 unfold N.iY at hs;split at hs
 ·cases hs
 ·rename_i q hq;split at hs
  ·cases hs
  ·rename_i m ms hr;split at hs
   ·cases hs
   ·rename_i k ht
    cases hs
    obtain⟨x,hx,hn⟩:=o.w.qc _ _ hq k (V5 ht);obtain⟨h,hh,_⟩:=o.w.xh _ _ hx;obtain⟨c,hc⟩:=xL hh;have hm:=(o.q _ _ hq).msg m (by rw[hr];simp);unfold N.take;rw[ar9,hx];simp only[];rw[hn];have o1:=o.hand (na:=x.fG) (g:=λq=>{q with ready:=q.ready.tail,last:=k}) hh hq hr ⟨by simp only[hr,List.tail_cons],rfl,rfl⟩;refine o1.give hm ?_ (Tr (by rw[y9,hc];rfl));rw[ni];simp only[rK,mY,vJ,OZ,OY];have h1:=(o.x _ _ hx).2;have h2:=hm.key;omega
def N.rq (n:N):Nat:=(n.aN.map λe=>e.2.ready.length).sum
def Ok.rq (o:Ok T K ex n):n.rq<=400:=by have h1:n.rq<=n.aN.length*50:=Ip λe he=>(o.held (oF o.nq he)).2.2;have:=o.lq;omega
def aoJ (o:Ok T K ex n)(hs:n.iY nm=some n'):n'.rq+1=n.rq:=by
 unfold N.iY at hs;split at hs
 ·cases hs
 ·rename_i q hq;split at hs
  ·cases hs
  ·rename_i m ms hr;split at hs
   ·cases hs
   ·rename_i k ht
    cases hs
    have h1:=Io o.nq hq (λq=>{q with ready:=q.ready.tail,last:=k}) λq=>q.ready.length;have e1:(n.bH nm λq=>{q with ready:=q.ready.tail,last:=k}).rq+q.ready.length=n.rq+q.ready.tail.length:=h1;rw[hr,List.length_cons,List.tail_cons]at e1
    have h2:∀(n:N) id no nm m na,(n.aN.map (·.1)).Nodup->(n.hand id no nm m na).rq=n.rq:=λn id no nm m na hq=>by
     unfold N.hand;split
     ·rfl
     ·exact Nv (l:=n.aN) (k:=nm) (λq:QN=>{q with held:=q.held+1}) (λq:QN=>q.ready.length) (λ_ _=>rfl) hq
    have h3:(N.take (n.bH nm λq=>{q with ready:=q.ready.tail,last:=k}) k m).rq=(n.bH nm λq=>{q with ready:=q.ready.tail,last:=k}).rq:=by
     unfold N.take;split
     ·rfl
     ·exact h2 _ _ _ _ _ _ (by rw[B4];exact o.nq)
    rw[h3];omega
def ob (T:Int)(K:Nat)(ex:List Int)(R:Nat)(n:N):Prop:=∃j:Nat,Ok (T+j) (K+100000*j) ex n/\j+n.rq<=R
def ob.step {R:Nat}(o:ob T K ex R n)(hs:n.iY nm=some n'):ob T K ex R n':=by obtain⟨j,h1,h2⟩:=o;refine⟨j+1,?_,by have:=aoJ h1 hs;omega⟩;exact(h1.iY hs).mono aa aa
def ob.kI {R:Nat}(o:ob T K ex R n){f:Nat}:ob T K ex R (n.kI f nm):=by
 induction f generalizing n with
 |zero=>exact o
 |succ f ih=>
  unfold N.kI
  cases h:n.iY nm with
  |none=>exact o
  |some n'=>exact ih (o.step h)
def ob.serve {R:Nat}(o:ob T K ex R n):ob T K ex R n.serve:=by
 unfold N.serve;generalize n.aN.map (·.1)=l
 induction l generalizing n with
 |nil=>exact o
 |cons a l ih=>rw[List.foldl_cons];exact ih o.kI
def Ok.Nb (o:Ok T K ex n):ob T K ex 400 n:=⟨0,o.mono aa aa,by have:=o.rq;omega⟩
def ob.ok (o:ob T K ex 400 n):Ok (T+400) (K+40000000) ex n:=by obtain⟨j,h1,h2⟩:=o;exact h1.mono aa aa
def ob.Ig (o:ob T K ex 400 n)(hT:T+400<=1000000000000)(hK:K+40000000<=100000000000000):I9 n:=o.ok.Ig hT hK
def Ok.serve (o:Ok T K ex n):Ok (T+400) (K+40000000) ex n.serve:=o.Nb.serve.ok
end
end Go.Qw
