/- 29 -/
import Derived.Test.YtpiabknabfbfhaaGreatDoorFramed28
set_option linter.all false
set_option maxRecDepth 100000
set_option maxHeartbeats 8000000
namespace Go.Qw
open Go Go.Conc Go.Proofs Go.Proofs.Tryz
section
variable {E:Env prog}{H:Hid}{n:N}{X:Ext}{U:Hp}{no:Nat}{c:CN}{h:HN}{bf:Nat}{f:FR}{r:HR}
variable {A:Lay}{id:Int}
def DG {cl me:Nat}(aK:f.cl=(cl:Int))(aN:f.me=(me:Int))(x y:Nat):f.kY (x:Int) [(y:Int)]=decide (f.u.kind=1/\cl=x/\me=y):=by simp only[FR.kY,aK,aN,List.mem_singleton];by_cases h0:f.u.kind=1<;>by_cases h1:cl=x<;>by_cases h2:me=y<;>simp[h0,h1,h2]<;>omega
def ahr {cl me:Nat}(aK:f.cl=(cl:Int))(aN:f.me=(me:Int))(x y z:Nat):f.kY (x:Int) [(y:Int),(z:Int)]=decide (f.u.kind=1/\cl=x/\(me=y\/me=z)):=by simp only[FR.kY,aK,aN,List.mem_cons,List.not_mem_nil,or_false];by_cases h0:f.u.kind=1<;>by_cases h1:cl=x<;>by_cases h2:me=y<;>by_cases h3:me=z<;>simp[h0,h1,h2,h3]<;>omega
structure E4 (n:N) (id:Int) (no:Nat) (c:CN) (h:HN):Prop where
 M:Ie n id no c h
 P:ym n
 want:0<=h.r.want/\h.r.want<=3
 body:h.r.body.length<=500000
 rel:yg n id no h
def ab5 {cl me:Nat}(a:aq A H n ((bf,bN f)::X) U)(F:E4 n id no c h)(hc:n.ar id=some c)(hh:n.h? id no=some h)(aK:f.cl=(cl:Int))(aN:f.me=(me:Int))(ji:f.s.length<=500000):
 aw E 231 #[pV (A.chan id no),pV bf] U (iw A X n bf f (n.iK id no h f.u.kind f.s cl me)):=by
 refine aX func231 ntmps231 results231 λQ aB al az=>?_;have eV:=F.M.xE;have fK:=F.M.out;have eF:=a.bV hh
 cases vz:h.r.closing with
 |true=>
  rw[vz]at eF;refine aH eF ?_;refineλb1 iN=>?_;refine ag ?_;have o1:=a.fresh iN;generalize mM:Hp.set U b1 _=dg;have a1:aq A H n ((bf,bN f)::X) dg:=dT (o1 _) mM;have jS:dg.f b1=some (.cells (([40]:List Int).map iV++[]).toArray 3 (0,0)):=by rw[<-mM];exact Hp.bD _ _
  refine bz (uj (ms:=[40]) (pad:=[]) a1.ei jS ak) ?_;have i1:f.kY 20 [40]=decide (f.u.kind=1/\cl=20/\me=40):=DG aK aN 20 40;have i2:f.kY 20 [40,41]=decide (f.u.kind=1/\cl=20/\(me=40\/me=41)):=ahr aK aN 20 40 41;by_cases m1:f.u.kind=1/\cl=20/\me=40
  ·have e:n.iK id no h f.u.kind f.s cl me=.ok ((n.send id (cg no 20 41 [])).lJ id no) .nil:=by unfold N.iK;rw[vz,if_pos rfl,if_pos m1]
   rw[decide_eq_true m1]at i1;rw[decide_eq_true ⟨m1.1,m1.2.1,.inl m1.2.2⟩]at i2;refine aH i1 ?_;refine bJ 9 ?_;refine aH (a1.bV hh) ?_;refine aJ (pI (ch:=no) (cl:=20) (me:=41) (xs:=[]) a1 hc (.inl ⟨rfl,rfl⟩) ak ak aa an an (by simp[bZ]) aa) ?_;rintro v gH ⟨hv,a5⟩
   cases hv
   have yS:(n.send id (cg no 20 41 [])).h? id no=some h:=by rw[pO];exact hh
   have kU:(n.send id (cg no 20 41 [])).ar id=some {c with r:={c.r with out:=c.r.out++cg no 20 41 [],ib:=n.clock}}:=by rw[sw,if_pos rfl,hc];rfl
   refine⟨by(repeat(first|exact jA|(apply jz;(focus decide+kernel))|(refine lf rfl (aP (a5.bV yS)) ?_))),?_⟩;refine ag ?_;refineλb2 dh=>?_;refine ag ?_;have o2:=a5.fresh dh;generalize vw:Hp.set gH b2 _=ja;have a6:aq A H (n.send id (cg no 20 41 [])) ((bf,bN f)::X) ja:=dT (o2 _) vw;have iy:ja.f b2=some (.cells (([40,41]:List Int).map iV++[]).toArray 3 (0,0)):=by rw[<-vw];exact Hp.bD _ _
   refine bz (uj (ms:=[40,41]) (pad:=[]) a6.ei iy ak) ?_;refine aH i2 ?_;refine aJ (IY a6 kU yS F.M.fin) ?_;rintro v dA ⟨hv,H2,a7⟩
   cases hv
   refine ag ?_;refine al aG ao ?_;rw[e];exact⟨A,H2,0,_,by simp[up,Er.v],.refl A,a7⟩
  rw[decide_eq_false m1]at i1;refine aH i1 ?_;refineλb2 dh=>?_;refine ag ?_;have o2:=a1.fresh dh;generalize vw:Hp.set dg b2 _=ja;have a2:aq A H n ((bf,bN f)::X) ja:=dT (o2 _) vw;have iy:ja.f b2=some (.cells (([40,41]:List Int).map iV++[]).toArray 3 (0,0)):=by rw[<-vw];exact Hp.bD _ _
  refine bz (uj (ms:=[40,41]) (pad:=[]) a2.ei iy ak) ?_;by_cases m2:f.u.kind=1/\cl=20/\me=41
  ·have e:n.iK id no h f.u.kind f.s cl me=.ok (n.lJ id no) .nil:=by unfold N.iK;rw[vz,if_pos rfl,if_neg m1,if_pos m2]
   rw[decide_eq_true ⟨m2.1,m2.2.1,.inr m2.2.2⟩]at i2;refine aH i2 ?_;refine aJ (IY a2 hc hh F.rel) ?_;rintro v dA ⟨hv,H2,a7⟩
   cases hv
   refine ag ?_;refine al aG ao ?_;rw[e];exact⟨A,H2,0,_,by simp[up,Er.v],.refl A,a7⟩
  ·have e:n.iK id no h f.u.kind f.s cl me=.ok n .nil:=by unfold N.iK;rw[vz,if_pos rfl,if_neg m1,if_neg m2]
   rw[decide_eq_false (λ⟨x,y,z⟩=>z.elim (λz=>m1 ⟨x,y,z⟩) (λz=>m2 ⟨x,y,z⟩))]at i2;refine aH i2 ?_;refine al aG ao ?_;rw[e];exact⟨A,H,0,_,by simp[up,Er.v],.refl A,a2⟩
 |false=>
  rw[vz]at eF;have hf:=a.eN;refine aH eF ?_;refine bJ 11 ?_;refine bq eF hf ?_;refine aji (a:=h.r.want) (b:=1) ?_ ?_ ?_
  ·exact au
  ·exact au
  refine⟨dL hf,?_⟩;by_cases t1:f.u.kind=max h.r.want 1
  rotate_left
  ·have e:n.iK id no h f.u.kind f.s cl me=.ok n (.cA 505 cl me):=by unfold N.iK;rw[vz,if_neg Bool.false_ne_true,if_pos t1]
   refine aH t1 ?_;refine aJ (jL (e:=505) a aK aN) ?_;rintro v gH ⟨b,hv,a4⟩
   cases hv
   refine ag ?_;refine al aG ao ?_;rw[e];exact⟨A,H,b,_,by simp[up],.refl A,a4⟩
  obtain⟨w1,w2⟩:=F.want;have Re:f.u.kind=1\/f.u.kind=2\/f.u.kind=3:=aa;simp only[go_sem,seval,hf,eq_true t1,decide_true];rcases Re with k1|k2|k3
  ·have e:n.iK id no h f.u.kind f.s cl me=n.method id no h f.s cl me:=by unfold N.iK;rw[vz,if_neg Bool.false_ne_true,if_neg (by simpa using t1),if_neg aa,if_neg aa]
   have n2:¬f.u.kind=2:=aa;have n3:¬f.u.kind=3:=aa;simp only[go_sem,seval,n2,n3,decide_false];refine dI acV (ajn a F.M hc hh k1 aK aN aa) ?_ (λch R hx=>az _ _ _ _ ao (by rw[e];exact hx));intro v R hx;refine ag ?_;exact al aG ao (by rw[e];exact rW hx (by simp[up]))
  ·have e:n.iK id no h f.u.kind f.s cl me=n.header id no h.r f.s:=by unfold N.iK;rw[vz,if_neg Bool.false_ne_true,if_neg (by simpa using t1),if_pos k2]
   simp only[go_sem,seval,hf,eq_true k2,decide_true];have a2:=a.uL (bN {f with cl:=60,me:=40});rw[Hp.set_set];generalize hZ:Hp.set U bf _=cU;replace a2:=dT a2 hZ;refine dI acT (aeB a2 hc hh rfl rfl F.P) ?_ (λch R hx=>az _ _ _ _ ao ?_)
   ·intro v R hx;refine ag ?_;refine al aG ao ?_;rw[e]
    cases hw:n.header id no h.r f.s<;>(rw[hw]at hx;exact rW hx (by simp[up]))
   ·rw[e]
    cases hw:n.header id no h.r f.s<;>(rw[hw]at hx;exact hx)
  ·have e:n.iK id no h f.u.kind f.s cl me=n.part id no h.r f.s:=by unfold N.iK;rw[vz,if_neg Bool.false_ne_true,if_neg (by simpa using t1),if_neg aa,if_pos k3]
   have n2:¬f.u.kind=2:=aa;simp only[go_sem,seval,hf,n2,eq_true k3,decide_true,decide_false];have a2:=a.uL (bN {f with cl:=60,me:=40});rw[Hp.set_set];generalize hZ:Hp.set U bf _=cU;replace a2:=dT a2 hZ;have hbo:=F.body;refine dI acU (alx a2 hc hh rfl rfl F.P (by show _+f.s.length<=_;omega)) ?_ (λch R hx=>az _ _ _ _ ao ?_)
   ·intro v R hx;refine ag ?_;refine al aG ao ?_;rw[e]
    cases hw:n.part id no h.r f.s<;>(rw[hw]at hx;exact rW hx (by simp[up]))
   ·rw[e]
    cases hw:n.part id no h.r f.s<;>(rw[hw]at hx;exact hx)
def aat {cl me:Nat}(a:aq A H n ((bf,bN f)::X) U)(hc:n.ar id=some c)(atA:zV n id c)(aK:f.cl=(cl:Int))(aN:f.me=(me:Int))(fK:c.r.out.length<=100000000000000):
 aw E 191 #[pV (A.conn id),pV bf] U (iw A X n bf f (n.control id f.u.kind f.s cl me)):=by
 refine aX func191 ntmps191 results191 λQ aB al az=>?_;refine ag ?_;refineλb1 iN=>?_;refine ag ?_;have o1:=a.fresh iN;generalize mM:Hp.set U b1 _=dg;have a1:aq A H n ((bf,bN f)::X) dg:=dT (o1 _) mM;have jS:dg.f b1=some (.cells (([50]:List Int).map iV++[]).toArray 3 (0,0)):=by rw[<-mM];exact Hp.bD _ _
 refine bz (uj (ms:=[50]) (pad:=[]) a1.ei jS ak) ?_;have i1:f.kY 10 [50]=decide (f.u.kind=1/\cl=10/\me=50):=DG aK aN 10 50;by_cases m1:f.u.kind=1/\cl=10/\me=50
 rotate_left
 ·have e:n.control id f.u.kind f.s cl me=.ok n (.cA 503 cl me):=by unfold N.control;rw[if_neg m1]
  rw[decide_eq_false m1]at i1;refine aH i1 ?_;refine aJ (jL (e:=503) a1 aK aN) ?_;rintro v gH ⟨b,hv,a4⟩
  cases hv
  refine ag ?_;refine al aG ao ?_;rw[e];exact⟨A,H,b,_,by simp[up],.refl A,a4⟩
 rw[decide_eq_true m1]at i1;refine aH i1 ?_;refine dI P3 (Pz a1) ?_ (λch R hx=>az _ _ _ _ ao ?_)
 rotate_left
 ·rcases hx with⟨_,h,_⟩|⟨hp,h,s,a4⟩
  ·cases h
  ·cases h
   have e:n.control id f.u.kind f.s cl me=.bad cl me:=by
    unfold N.control;rw[if_pos m1];cases hq:te f.s with
    |none=>rfl
    |some l=>cases l with
     |nil=>exact absurd hq hp
     |cons x l=>rfl
   rw[e];exact⟨H,s,rfl,by rw[<-aK,<-aN];exact a4⟩
 rintro v dv (⟨hp,hv,a4⟩|⟨_,h,_⟩)
 rotate_left
 ·cases h
 cases hv
 have e:n.control id f.u.kind f.s cl me=.ok (((n.leave id).send id (cg 0 10 51 [])).bC id λr=>{r with ph:=5}) .nil:=by unfold N.control;rw[if_pos m1,hp]
 refine ag ?_;refine aJ (Ll a4 hc atA) ?_;rintro v dA ⟨hv,H2,a5⟩
 cases hv
 have kU:∃c1,(n.leave id).ar id=some c1/\c1.r=c.r:=by
  have e:n.leave id=(n.gM id c.ch).dn id λc=>{c with ch:=[]}:=by unfold N.leave;rw[hc];rfl
  obtain⟨c1,cG,ec⟩:=Bt (Es.trans (Br hc):(n.gM id c.ch).rC id=some c.r);exact⟨{c1 with ch:=[]},by rw[e];simp[cG],ec⟩
 obtain⟨c1,cG,ec⟩:=kU;refine ag ?_;refine aJ (pI (ch:=0) (cl:=10) (me:=51) (xs:=[]) a5 cG (.inl ⟨rfl,rfl⟩) ak ak an an an (by simp[bZ]) (by rw[ec];omega)) ?_;rintro v yd ⟨hv,a6⟩
 cases hv
 have im:((n.leave id).send id (cg 0 10 51 [])).ar id=some {c1 with r:={c1.r with out:=c1.r.out++cg 0 10 51 [],ib:=(n.leave id).clock}}:=by rw[sw,if_pos rfl,cG];rfl
 refine aH (a6.eC im) ?_;have a7:=a6.nD im λr=>{r with ph:=5};refine al aG ao ?_;rw[e];exact⟨A,H2,0,_,by simp[up,Er.v],.refl A,dT a7 rfl⟩
end
section
variable {E:Env prog}{H:Hid}{n:N}{X:Ext}{U:Hp}{no:Nat}{c:CN}{h:HN}{nm:List UInt8}{bf:Nat}{f:FR}{r:HR}
variable {A:Lay}{id:Int}
def ak4 {cl me:Nat}(a:aq A H n ((bf,bN f)::X) U)(w:Wf n)(hc:n.ar id=some c)(F:∀h,n.h? id no=some h->E4 n id no c h)(eF:f.u.channel=(no:Int))(eV:no<1000000)(aK:f.cl=(cl:Int))(aN:f.me=(me:Int))(fK:c.r.out.length<=100000000000000)(ji:f.s.length<=500000):
 aw E 192 #[pV (A.conn id),pV bf] U (iw A X n bf f (n.jW id c no f.u.kind f.s cl me)):=by
 have hf:=a.eN;rw[eF]at hf;have cR:=a.eC hc;obtain⟨l,k,m1,m2,m3⟩:=a.chm hc;have i1:f.kY 20 [10]=decide (f.u.kind=1/\cl=20/\me=10):=DG aK aN 20 10;by_cases t1:(no:Int)>c.r.dm
 ·have e:n.jW id c no f.u.kind f.s cl me=.ok n (.cA 504 cl me):=by unfold N.jW;rw[if_pos t1]
  refine aX func192 ntmps192 results192 λQ aB al az=>?_;refine ag ?_;refine bJ 10 ?_;simp only[go_sem,seval,cR,hf,t1,decide_true];refine aJ (jL (e:=504) a aK aN) ?_;rintro v gH ⟨b,hv,a4⟩
  cases hv
  refine ag ?_;refine al aG ao ?_;rw[e];exact⟨A,H,b,_,by simp[up],.refl A,a4⟩
 cases hg:bw c.ch no with
 |some h=>
  have hh:n.h? id no=some h:=by unfold N.h?;rw[hc];exact hg
  have e:n.jW id c no f.u.kind f.s cl me=n.iK id no h f.u.kind f.s cl me:=by unfold N.jW;rw[if_neg t1,hg]
  obtain⟨st,bt⟩:=rP m2 m3 (List.mem_map_of_mem (f:=λe:Nat×HN=>((e.1:Int),pV (A.chan id e.1))) (gI hg));have dr:((dt l (no:Int)).map (·.2.1)).getD (.pointer none)=pV (A.chan id no):=by rw[bt];rfl
  refine aX func192 ntmps192 results192 λQ aB al az=>?_;refine ag ?_;refine bJ 10 ?_;simp only[go_sem,seval,cR,hf,t1,decide_false];refine bJ 11 ?_;refine bq cR hf ?_;refine jU (b:=H.chm id) (k:=(no:Int)) (l:=l) (c:=k) uu (z:=.pointer none) ah ?_ m1 ?_ ?_
  ·exact au
  ·exact au
  refine⟨iP hf cR,?_⟩;simp only[go_sem,seval,dr,Bool.false_eq_true];refine dI acS (ab5 a (F h hh) hc hh aK aN ji) ?_ (λch R hx=>az _ _ _ _ ao (by rw[e];exact hx));intro v R hx;refine ag ?_;exact al aG ao (by rw[e];exact rW hx (by simp[up]))
 |none=>
 have Dj:∀e∈(c.ch.map λe=>((e.1:Int),pV (A.chan id e.1))),e.1≠(no:Int):=λe he=>by obtain⟨y,hy,rfl⟩:=List.mem_map.1 he;have:=iF hg y hy;show(y.1:Int)≠no;omega
 have hl:dt l (no:Int)=none:=map_none m3 Dj;by_cases k1:f.u.kind=1/\cl=20/\me=10
 ·rw[decide_eq_true k1]at i1;by_cases ht:∃s0,jm f.s=some (s0,[])
  ·obtain⟨s0,ht⟩:=ht
   have e:n.jW id c no f.u.kind f.s cl me=.ok ((n.dn id λc=>{c with ch:=cJ kK c.ch no ⟨fV,[],[]⟩}).send id (cg no 20 11 [.long 0])) .nil:=by unfold N.jW;rw[if_neg t1,hg];simp only;rw[if_pos k1,ht]
   refine(ak3 a.gw (a.conn hc) m1 m2.uniq a.ei eF eV aa hl i1 ht fK).mono ?_;rintro e' R ⟨rfl,un,co,hb,u1,u2,u3,n1,n2,n3,rfl⟩;rw[e];have a1:=a.uL (bN {f with s:=[]})
   have fresh:∀{x},U.f x=none->(U.set bf (bN {f with s:=[]})).f x=none:=λ{x} hx=>by rw[Hp.ay (bh hx a.ei)];exact hx
   obtain⟨d1,d2⟩:=D7 m2 m3 Dj (pV hb)
   have Gh:(c.ch.map λe=>((e.1:Int),pV ((A.setChan id no hb un co).chan id e.1)))=c.ch.map λe=>((e.1:Int),pV (A.chan id e.1)):=List.map_congr_left λe he=>by have:¬e.1=no:=iF hg e he;simp[Lay.setChan,this]
   have iN:(A.setChan id no hb un co).chan id no=hb:=by simp[Lay.setChan]
   have a2:=a1.ajK w hc hg (hb:=hb) (ub:=un) (cb:=co) (fresh u1) (fresh u2) (fresh u3) (λe=>n1 e.symm) n2 n3 (o:=aU aW (jk l (no:Int) (pV hb) k) (jB l (no:Int) k)) ⟨_,_,rfl,d1,by
    refine d2.trans (List.Perm.symm ?_)
    refine((u0 (lt:=kK) c.ch no ⟨fV,[],[]⟩).map _).trans ?_
    simp only[List.map_cons,iN,Gh]
    exact List.Perm.refl _⟩
   have dU:(n.dn id λc=>{c with ch:=cJ kK c.ch no ⟨fV,[],[]⟩}).ar id=some {c with ch:=cJ kK c.ch no ⟨fV,[],[]⟩}:=by simp[hc]
   have a3:=a2.nD dU λr=>{r with out:=r.out++cg no 20 11 [.long 0],ib:=n.clock};exact⟨A.setChan id no hb un co,H,0,_,rfl,⟨rfl,rfl,rfl⟩,a3⟩
  ·have e:n.jW id c no f.u.kind f.s cl me=.bad cl me:=by
    unfold N.jW;rw[if_neg t1,hg];simp only;rw[if_pos k1]
    cases hp:jm f.s with
    |none=>rfl
    |some p=>
     obtain⟨x,y⟩:=p
     cases y with
     |nil=>exact absurd ⟨x,hp⟩ ht
     |cons z y=>rfl
   have dr:((dt l (no:Int)).map (·.2.1)).getD (.pointer none)=.pointer none:=by rw[hl];rfl
   refine aX func192 ntmps192 results192 λQ aB al az=>?_;refine ag ?_;refine bJ 10 ?_;simp only[go_sem,seval,cR,hf,t1,decide_false];refine bJ 11 ?_;refine bq cR hf ?_;refine jU (b:=H.chm id) (k:=(no:Int)) (l:=l) (c:=k) uu (z:=.pointer none) ah ?_ m1 ?_ ?_
   ·exact au
   ·exact au
   refine⟨iP hf cR,?_⟩;simp only[go_sem,seval,dr,Bool.false_eq_true];refineλb1 iN=>?_;refine ag ?_;have o1:=a.fresh iN;generalize mM:Hp.set U b1 _=dg;have a1:aq A H n ((bf,bN f)::X) dg:=dT (o1 _) mM;have jS:dg.f b1=some (.cells (([10]:List Int).map iV++[]).toArray 3 (0,0)):=by rw[<-mM];exact Hp.bD _ _
   refine bz (uj (ms:=[10]) (pad:=[]) a1.ei jS ak) ?_;refine aH i1 ?_;refine iG sA a1 (tq a1.eN rfl) (λnm rest R hr a2=>?_) (λhr s R a2=>az _ _ _ _ ao (by rw[e];exact⟨H,s,rfl,by rw[<-aK,<-aN];exact a2⟩));refine ag ?_;refine qk a2 (λhs=>?_) (λhs=>az _ _ _ _ ao (by rw[e];exact⟨H,rest,rfl,by rw[<-aK,<-aN];exact a2⟩));simp only at hs;subst hs;exact absurd ⟨nm,hr⟩ ht
 ·have e:n.jW id c no f.u.kind f.s cl me=.ok n (.cA 504 cl me):=by unfold N.jW;rw[if_neg t1,hg];simp only;rw[if_neg k1]
  rw[decide_eq_false k1]at i1;have dr:((dt l (no:Int)).map (·.2.1)).getD (.pointer none)=.pointer none:=by rw[hl];rfl
  refine aX func192 ntmps192 results192 λQ aB al az=>?_;refine ag ?_;refine bJ 10 ?_;simp only[go_sem,seval,cR,hf,t1,decide_false];refine bJ 11 ?_;refine bq cR hf ?_;refine jU (b:=H.chm id) (k:=(no:Int)) (l:=l) (c:=k) uu (z:=.pointer none) ah ?_ m1 ?_ ?_
  ·exact au
  ·exact au
  refine⟨iP hf cR,?_⟩;simp only[go_sem,seval,dr,Bool.false_eq_true];refineλb1 iN=>?_;refine ag ?_;have o1:=a.fresh iN;generalize mM:Hp.set U b1 _=dg;have a1:aq A H n ((bf,bN f)::X) dg:=dT (o1 _) mM;have jS:dg.f b1=some (.cells (([10]:List Int).map iV++[]).toArray 3 (0,0)):=by rw[<-mM];exact Hp.bD _ _
  refine bz (uj (ms:=[10]) (pad:=[]) a1.ei jS ak) ?_;refine aH i1 ?_;refine aJ (jL (e:=504) a1 aK aN) ?_;rintro v gH ⟨b,hv,a4⟩
  cases hv
  refine ag ?_;refine al aG ao ?_;rw[e];exact⟨A,H,b,_,by simp[up],.refl A,a4⟩
end
section
variable {E:Env prog}{H:Hid}{n:N}{X:Ext}{U:Hp}{c:CN}{h:HN}{nm:List UInt8}{bf:Nat}{f:FR}{r:HR}
variable {A:Lay}{id:Int}
def XF {cl me:Nat}(a:aq A H n ((bf,bN f)::X) U)(hc:n.ar id=some c)(pU:c.r.ph=1\/c.r.ph=2)(aK:f.cl=(cl:Int))(aN:f.me=(me:Int))(fK:c.r.out.length<=100000000000000):
 aw E 190 #[pV (A.conn id),pV bf] U (iw A X n bf f (n.begin id c f.u.channel f.u.kind f.s cl me)):=by
 refine aX func190 ntmps190 results190 λQ aB al az=>?_;refine ag ?_;refineλm hm=>?_;have nm:∀{x o},U.f x=some o->¬x=m:=λh e=>by subst e;rw[hm]at h;cases h
 refine ag ?_;refine R7 (b:=m) (k:=1) (l:=[]) (c:=0) (w:=iV 31) (l':=[(1,iV 31,0)]) (c':=1) La (by simp[jI]) ?_ aT ?_ ?_ rfl rfl ?_
 ·exact au
 ·exact au
 ·exact au
 intro fP rN;have oW:fP.f m=some (aU aW [(1,iV 31,0)] 1):=by rw[rN];exact Hp.bD _ _
 refine ag ?_;refine R7 (b:=m) (k:=2) (l:=[(1,iV 31,0)]) (c:=1) (w:=iV 40) (l':=[(1,iV 31,0),(2,iV 40,1)]) (c':=2) La (by simp[jI]) ?_ oW ?_ ?_ rfl rfl ?_
 ·exact au
 ·exact au
 ·exact au
 intro R fF;have yX:R.f m=some (aU aW [(1,iV 31,0),(2,iV 40,1)] 2):=by rw[fF];exact Hp.bD _ _
 have hle:U.le R:=λx y h=>by rw[fF,Hp.ay (nm h),rN,Hp.ay (nm h),Hp.ay (nm h)];exact h
 clear fF rN oW;have a1:=a.le hle;have cG:=a1.eC hc;refine aH cG ?_;refine jU (b:=m) (k:=c.r.ph) (l:=[(1,iV 31,0),(2,iV 40,1)]) (c:=2) La (z:=iV 0) ah ?_ yX ?_ ?_
 ·exact au
 ·exact au
 obtain⟨W,hW⟩:∃W:Nat,W=if c.r.ph=1 then 31 else 40:=⟨_,rfl⟩
 have dr:((dt [((1:Int),iV 31,0),(2,iV 40,1)] c.r.ph).map (·.2.1)).getD (iV 0)=iV W:=by rcases pU with h|h<;>(rw[hW,h];rfl)
 simp only[go_sem,seval,dr,Bool.false_eq_true];refineλbm dK=>?_;refine ag ?_;have o1:=a1.fresh dK;generalize mM:Hp.set R bm _=dg;have a2:aq A H n ((bf,bN f)::X) dg:=dT (o1 _) mM;have jS:dg.f bm=some (.cells (([(W:Int)]:List Int).map iV++[]).toArray 3 (0,0)):=by rw[<-mM];exact Hp.bD _ _
 refine bz (uj (ms:=[(W:Int)]) (pad:=[]) a2.ei jS ak) ?_;have i1:f.kY 10 [(W:Int)]=decide (f.u.kind=1/\cl=10/\me=W):=DG aK aN 10 W;by_cases k1:f.u.kind=1/\cl=10/\me=W
 rotate_left
 ·have e:n.begin id c f.u.channel f.u.kind f.s cl me=.ok n (.cA 503 cl me):=by unfold N.begin;rw[<-hW,if_pos (.inl k1)]
  rw[decide_eq_false k1]at i1;refine aH i1 ?_;refine aJ (jL (e:=503) (a2) aK aN) ?_;rintro v uW ⟨b,hv,a9⟩
  cases hv
  refine ag ?_;refine al aG ao ?_;rw[e];exact⟨A,H,b,_,by simp[up],.refl A,a9⟩
 rw[decide_eq_true k1]at i1;have Q4:=a2.eN;by_cases k2:f.u.channel=0
 rotate_left
 ·have e:n.begin id c f.u.channel f.u.kind f.s cl me=.ok n (.cA 503 cl me):=by unfold N.begin;rw[if_pos (.inr k2)]
  refine bR i1 Q4 k2 ?_;refine aJ (jL (e:=503) (a2) aK aN) ?_;rintro v uW ⟨b,hv,a9⟩
  cases hv
  refine ag ?_;refine al aG ao ?_;rw[e];exact⟨A,H,b,_,by simp[up],.refl A,a9⟩
 have kn:¬(¬(f.u.kind=1/\cl=10/\me=(if c.r.ph=1 then 31 else 40))\/f.u.channel≠0):=by rw[<-hW];exactλh=>h.elim (λh=>h k1) (λh=>h k2)
 have dU:=a2.eC hc;simp only[go_sem,seval,i1,Q4,eq_true k2,decide_true,dU]
 have bad:∀{s:List UInt8} {R:Hp},n.begin id c f.u.channel f.u.kind f.s cl me=.bad cl me->aq A H n ((bf,bN {f with s:=s})::X) R->iw A X n bf f (n.begin id c f.u.channel f.u.kind f.s cl me) (.panicked lH) R:=by intro s R e a1;rw[e];exact⟨H,s,rfl,by rw[<-aK,<-aN];exact a1⟩
 by_cases p2:c.r.ph=2
 ·simp only[go_sem,seval,eq_true p2,decide_true];refine iG sA a2 (tq a2.eN rfl) (λtx rest R hr a3=>?_) (λhr s R a3=>az _ _ _ _ ao (bad (by unfold N.begin;rw[if_neg kn,if_pos p2,hr]) a3));refine ag ?_
  refine qk a3 (λhs=>?_) (λhs=>az _ _ _ _ ao (bad (s:=rest) (by
   unfold N.begin;rw[if_neg kn,if_pos p2,hr]
   simp only at hs;cases rest with
   |nil=>exact absurd rfl hs
   |cons x l=>rfl) a3))
  simp only at hs;subst hs;have e:n.begin id c f.u.channel f.u.kind f.s cl me=.ok ((n.bC id λr=>{r with ph:=3}).send id (cg 0 10 41 [.text []])) .nil:=by unfold N.begin;rw[if_neg kn,if_pos p2,hr]
  refine aH (a3.eC hc) ?_;have a4:=a3.nD hc λr=>{r with ph:=3};generalize hZ:Hp.set R (A.conn id) _=cU;replace a4:=dT a4 hZ;have hc4:(n.bC id λr=>{r with ph:=3}).ar id=some {c with r:={c.r with ph:=3}}:=by simp[hc]
  refineλba gT=>?_;have a5:=λo=>a4.fresh gT o;refine ag ?_;refine aJ (pI (ch:=0) (cl:=10) (me:=41) (xs:=[.text []]) (a5 _) hc4 (.inr ⟨ba,rfl,aT⟩) (by simp[kP]) ak an an an an (by show c.r.out.length<=_;omega)) ?_;rintro v yd ⟨hv,a6⟩
  cases hv
  refine ag ?_;refine al aG ao ?_;rw[e];exact⟨A,H,0,_,by simp[up,Er.v],.refl A,a6⟩
 simp only[go_sem,seval,p2,decide_false];refine xW [0,1,2,4,5,6,8,9,10,3,7,11,12,13,14] (λch ds U=>ds=[]/\(iw A X n bf f (n.begin id c f.u.channel f.u.kind f.s cl me)) (.panicked ch) U) ah kE (λch I ds U h=>by obtain⟨rfl,h⟩:=h;exact az _ _ _ _ ao h) ?_;refine ag ?_;refine iG nS a2 (oo (w:=2) a2.eN rfl an) (λx1 s1 dv eX a3=>?_) (λeX s R a3=>⟨rfl,bad (by unfold N.begin;rw[if_neg kn,if_neg p2,eX]) a3⟩);refine fL ?_;refine ag ?_;refine iG nS a3 (oo (w:=4) a3.eN rfl an) (λx2 s2 gH bX a4=>?_) (λbX s R a4=>⟨rfl,bad (by unfold N.begin;rw[if_neg kn,if_neg p2,eX];simp only at bX|-;rw[bX]) a4⟩);simp only at bX;refine fL ?_;refine ag ?_;refine iG nS a4 (oo (w:=2) a4.eN rfl an) (λx3 s3 dA ep a5=>?_) (λep s R a5=>⟨rfl,bad (by unfold N.begin;rw[if_neg kn,if_neg p2,eX];simp only at ep|-;rw[bX];simp only;rw[ep]) a5⟩);simp only at ep;refine fL ?_;refine ag ?_
 refine qk a5 (λhs=>?_) (λhs=>az _ _ _ _ ao (bad (s:=s3) (by
  unfold N.begin;rw[if_neg kn,if_neg p2,eX];simp only;rw[bX];simp only;rw[ep]
  simp only at hs;cases s3 with
  |nil=>exact absurd rfl hs
  |cons x l=>rfl) a5))
 simp only at hs;subst hs;refine bq (a5.eC hc) a5.jM ?_;refineλba gT=>?_;refine ag ?_;rw[Hp.set_set];have a6:=λo=>a5.fresh gT o;have mf:=λo=>(a6 o).eC hc
 have e0:n.begin id c f.u.channel f.u.kind f.s cl me=if x1<1\/(x1:Int)>n.cfg.jc\/x2<64\/(x2:Int)>n.cfg.frame\/(x3:Int)>n.cfg.gh then .ok n (.cA 530 cl me)
  else .ok (n.bC id λr=>{r with dm:=x1,frame:=x2,gh:=x3,ph:=2}) .nil:=by
  unfold N.begin;rw[if_neg kn,if_neg p2,eX];simp only;rw[bX];simp only;rw[ep]
 by_cases d1:(x1:Int)<1
 ·have e:=e0.trans (if_pos (.inl aa));simp only[go_sem,seval,d1,decide_true];refine aJ (jL (f:={f with s:=[]}) (e:=530) (a6 _) aK aN) ?_;rintro v uW ⟨b,hv,a9⟩
  cases hv
  refine ag ?_;refine al aG ao ?_;rw[e];exact⟨A,H,b,_,by simp[up],.refl A,a9⟩
 by_cases d2:(x1:Int)>n.cfg.jc
 ·have e:=e0.trans (if_pos (.inr (.inl d2)));simp only[go_sem,seval,d1,d2,decide_true,decide_false];refine aJ (jL (f:={f with s:=[]}) (e:=530) (a6 _) aK aN) ?_;rintro v uW ⟨b,hv,a9⟩
  cases hv
  refine ag ?_;refine al aG ao ?_;rw[e];exact⟨A,H,b,_,by simp[up],.refl A,a9⟩
 by_cases d3:(x2:Int)<64
 ·have e:=e0.trans (if_pos (.inr (.inr (.inl aa))));simp only[go_sem,seval,d1,d2,d3,decide_true,decide_false];refine aJ (jL (f:={f with s:=[]}) (e:=530) (a6 _) aK aN) ?_;rintro v uW ⟨b,hv,a9⟩
  cases hv
  refine ag ?_;refine al aG ao ?_;rw[e];exact⟨A,H,b,_,by simp[up],.refl A,a9⟩
 by_cases d4:(x2:Int)>n.cfg.frame
 ·have e:=e0.trans (if_pos (.inr (.inr (.inr (.inl d4)))));simp only[go_sem,seval,d1,d2,d3,d4,decide_true,decide_false];refine aJ (jL (f:={f with s:=[]}) (e:=530) (a6 _) aK aN) ?_;rintro v uW ⟨b,hv,a9⟩
  cases hv
  refine ag ?_;refine al aG ao ?_;rw[e];exact⟨A,H,b,_,by simp[up],.refl A,a9⟩
 by_cases d5:(x3:Int)>n.cfg.gh
 ·have e:=e0.trans (if_pos (.inr (.inr (.inr (.inr d5)))));simp only[go_sem,seval,d1,d2,d3,d4,d5,decide_true,decide_false];refine aJ (jL (f:={f with s:=[]}) (e:=530) (a6 _) aK aN) ?_;rintro v uW ⟨b,hv,a9⟩
  cases hv
  refine ag ?_;refine al aG ao ?_;rw[e];exact⟨A,H,b,_,by simp[up],.refl A,a9⟩
 have e:=e0.trans (if_neg aa);simp only[go_sem,seval,d1,d2,d3,d4,d5,decide_true,decide_false,mf];have a7:=λo=>(a6 o).nD hc λr=>{r with dm:=(x1:Int),frame:=(x2:Int),gh:=(x3:Int),ph:=2};refine al aG ao ?_;rw[e];exact⟨A,H,0,_,by simp[up,Er.v],.refl A,dT (a7 _) (by first|rfl|(simp only[Hp.set_set];rfl))⟩
end
section
variable {H:Hid}{n:N}{X:Ext}{U:Hp}{h:HN}{r:HR}
variable {A:Lay}
def aq.zy (a:aq A H n X U){Y:Ext}(g:Nat->Nat)(hg:∀i,i<Y.length->Y[i]? =X[g i]?)(hi:∀i j,i<Y.length->j<Y.length->g i=g j->i=j):aq A H n Y U:=by
 have key:∀r,(view n A H Y r).isSome->∃r',view n A H Y r=view n A H X r'/\cI A H Y r=cI A H X r'/\((r'=r/\∀i,r≠.ext i)\/∃i,i<Y.length/\r=.ext i/\r'=.ext (g i)):=by
  intro r hr;by_cases he:∃i,r=.ext i
  ·obtain⟨i,rfl⟩:=he
   have hl:i<Y.length:=by
    by_cases h:i<Y.length
    ·exact h
    ·simp[view,List.getElem?_eq_none (Nat.le_of_not_lt h)]at hr
   exact⟨.ext (g i),by simp only[view,hg i hl],by simp only[cI,hg i hl],.inr ⟨i,hl,rfl,rfl⟩⟩
  ·refine⟨r,?_,?_,.inl ⟨rfl,λi e=>he ⟨i,e⟩⟩⟩<;>cases r<;>first|rfl|exact absurd ⟨_,rfl⟩ he
 refine⟨λr v hv=>?_,λr s hr hs e=>?_⟩
 ·obtain⟨r',h1,h2,_⟩:=key r (by rw[hv];rfl);rw[h2];exact a.has r' v (by rw[<-h1];exact hv)
 ·obtain⟨r',h1,h2,h3⟩:=key r hr;obtain⟨s',g1,g2,g3⟩:=key s hs;have h:=a.inj r' s' (by rw[<-h1];exact hr) (by rw[<-g1];exact hs) (by rw[<-h2,<-g2];exact e);rcases h3 with⟨e1,f1⟩|⟨i,l1,e1,gm⟩<;>rcases g3 with⟨e2,f2⟩|⟨j,l2,e2,Pf⟩
  ·rw[<-e1,<-e2,h]
  ·exact absurd (by rw[<-e1,h,Pf]) (f1 (g j))
  ·exact absurd (by rw[<-e2,<-h,gm]) (f2 (g i))
  ·rw[gm,Pf]at h;rw[e1,e2,hi i j l1 l2 (by injection h)]
end
variable {U:Hp}{P:Program}{main:Bool}{cs:List Frame}{fr:Frame}
def aoV{df:FuncId}{caps:Array Value}{ds:List Deferred}{chain:List PanicEntry}(hm:fr.mode=.panicking chain)(hd:fr.defers=gl df caps::ds)(hg:cq P df=true):
 gQ P main (G fr cs) U λg ae=>ae=U/\g=G (Frame.enter P df caps .deferred) ({fr with defers:=ds}::cs):=by
 intro J w cS
 have h:wpS P (invoke (gl df caps).target (gl df caps).args) (λn ae=>n=.enter df caps/\ae=U) (λ_ _=>False) U:=by simp only[gl,invoke];refine HI hg ?_;simp
 obtain⟨w',ae,bW,e1,iy,dZ,fT,hr⟩:=oA _ w U #[] h cS;rcases hr with⟨nx,hn,rfl,rfl⟩|⟨hh,hn,hq⟩
 ·have gm:((invoke (gl df caps).target (gl df caps).args).runT P w #[]).2=bW:=by simpa using e1
  have e2:(invoke (gl df caps).target (gl df caps).args).runT P w #[]=(_,bW):=Prod.ext hn gm;have iz:∀fn,∀e∈seen P fn bW,iv J w'.heap.size e:=λfn e he=>fT e (mem_seen he);have kX:((gl df caps).target matches .nil)=false:=rfl
  have step:stepG P main (G fr cs) w=callDeferred P {fr with defers:=ds} cs none (gl df caps) w:=by simp only[G,stepG,hm,unwind,hd];rfl
  rw[step];unfold callDeferred;simp only[kX];generalize invoke (gl df caps).target (gl df caps).args=s at e2|-;simp only[e2,GStep.after];exact⟨_,iy,dZ,λe he=>iz _ e (aV he),rfl,rfl,rfl⟩
 ·exact hq.elim
variable {b:Frame}{a:Act}{k:List Item}{c:Frame}{v:Value}
def aoT{ops:Array Oper}{i:Nat}{rest:List Nat}{dst:Option Tmp}{cz:Array TypeId}{ty:TypeId}{pos:String}{af:Array Edge}{gd:Option (Nat×Bool)}(ho:ops[i]? =some ⟨dst,.call ⟨.builtin .recover,#[],cz⟩,ty,pos,af,gd⟩)(hw:Region.wanted ⟨dst,.call ⟨.builtin .recover,#[],cz⟩,ty,pos,af,gd⟩ (yielded ops a.tmps)=true)(hb:b.kind=.deferred)(hc:c.mode=.panicking [{v:=v,recovered:=false}]):
 gQ P main (G (b.at a (.inRegion ops (i::rest)::k)) (c::cs)) U λg ae=>ae=U/\g=G (b.at (a.put dst v) (.inRegion ops rest::k)) ({c with mode:=.panicking [{v:=v,recovered:=true}]}::cs):=by
 intro J w hs
 have h:wpS P (execOp a.eval ⟨dst,.call ⟨.builtin .recover,#[],cz⟩,ty,pos,af,gd⟩) (λn ae=>n=.recover/\ae=U) (λ_ _=>False) U:=by simp only[execOp,resolve,aF,bl,invoke];exact⟨rfl,rfl⟩
 obtain⟨w',ae,bW,e1,cS,dZ,fT,hr⟩:=oA _ w U #[] h hs;have gm:((execOp a.eval ⟨dst,.call ⟨.builtin .recover,#[],cz⟩,ty,pos,af,gd⟩).runT P w #[]).2=bW:=by simpa using e1
 rw[stepG_oper ho hw];have iz:∀fn,∀e∈seen P fn bW,iv J w'.heap.size e:=λfn e he=>fT e (mem_seen he);have fe:(b.at a (.inRegion ops (i::rest)::k)).finish v=b.at (a.put dst v) (.inRegion ops rest::k):=by rw[Frame.finish_at,ho];rfl
 have KJ:tryRecover (b.at a (.inRegion ops (i::rest)::k)) (c::cs)=some (v,{c with mode:=.panicking [{v:=v,recovered:=true}]}::cs):=by unfold tryRecover;simp only[Frame.at,hb,hc]
 rcases hr with⟨nx,hn,hq,rfl⟩|⟨hh,hn,hq⟩
 ·subst hq;have e2:(execOp a.eval ⟨dst,.call ⟨.builtin .recover,#[],cz⟩,ty,pos,af,gd⟩).runT P w #[]=(_,bW):=Prod.ext hn gm;generalize execOp a.eval _=s at e2|-;unfold stepG.apply;have KB:(b.at a (.inRegion ops (i::rest)::k)).roundOf=none:=rfl;simp only[if_true,e2,KB,KJ,GStep.after,fe];refine⟨_,cS,dZ,λe he=>?_,rfl,rfl,rfl⟩;split at he
  ·simp[seen]at he
  ·simp only[Array.append_empty]at he;exact iz _ e he
 ·exact hq.elim
def aoO{fn:Func}(hm:fr.mode=.returning)(hd:fr.defers=[])(hk:fr.kind=.deferred)(hc:c.mode=.panicking [{v:=v,recovered:=true}])(hf:P.funcs[fr.fn]? =some fn)(hr:fn.results= #[]):
 gQ P main (G fr (c::cs)) U λg ae=>ae=U/\g=G {c with mode:=.returning} cs:=by
 intro J w hs
 have fC:∀tmps,wpS P (results fn tmps) (λv' ae=>v'=.tuple #[]/\ae=U) (λ_ _=>False) U:=by intro tmps;simp[results,hr,bl]
 obtain⟨w',ae,bW,e1,cS,dZ,fT,Dx⟩:=oA (results fn fr.tmps) w U #[] (fC _) hs;rcases Dx with⟨v',hn,rfl,rfl⟩|⟨_,_,hq⟩
 ·have gm:((results fn fr.tmps).runT P w #[]).2=bW:=by simpa using e1
  have e2:(results fn fr.tmps).runT P w #[]=(.ok (.tuple #[]) w',bW):=Prod.ext hn gm
  have:stepG P main (G fr (c::cs)) w=.go (G {c with mode:=.returning} cs) w' (seen P fr.fn bW):=by simp[G,stepG,hm,unwind,hd,hf,-Sem.runT_eq,e2,doReturn,hk,GStep.after,hc]
  rw[this];exact⟨_,cS,dZ,λe he=>fT e (mem_seen he),rfl,rfl,rfl⟩
 ·exact hq.elim
variable {E:Env prog}{f:FR}
def aaP{b3 b4 bf:Nat}{v0:Value}{S:Nat->Hp->Prop}(hc:c.mode=.panicking lH)(h3:U.f b3=some (.cells [pV bf].toArray 291 (0,0)))(h4:U.f b4=some (.cells [v0].toArray 45 (0,0)))(adm:∀R,U.le R->aw E 189 #[pV bf,iV 502] R λe bY=>∃v,e=.returned (.iface 214 (pV v))/\bY.f b4=some (.cells [v0].toArray 45 (0,0))/\S v (bY.set b4 (.cells [.iface 214 (pV v)].toArray 45 (0,0)))):
 ax E (G (Frame.enter prog 188 #[pV b3,pV b4] .deferred) (c::cs)) U λg R=>g=G {c with mode:=.returning} cs/\∃v,S v R:=by
 have oT:Frame.enter prog 188 #[pV b3,pV b4] .deferred=Ad.at {tmps:=#[pV b3,pV b4]++Array.replicate 11 undef,defers:=[]} [.code tz]:=by simp[Frame.enter,Frame.at,func188,Ad,f188,tz]
 rw[oT,Nd];have ha:=sr #[pV b3,pV b4] 13 ak;refine ax.ctl (λw=>stepG_seq) rfl rfl ?_;refine ax.ctl (λw=>stepG_region) rfl rfl ?_;have hr:List.range Eo.size=[0]:=ah;rw[hr];obtain⟨ps,af,ho⟩:=TQ;refine ax.step rfl (aoT ho rfl rfl hc) ?_;rintro g R ⟨rfl,rfl⟩;have de:cM 13 _ _ []:=ha.put (dst:=some 5) an (.iface 325 (.agg #[]));refine ax.ctl (λw=>stepG_region_end) rfl rfl ?_;refine(nB (E:=E) (N:=13) (X:=λI ds bY=>ds=[]/\∃v,S v bY) ?_ (by simp[Ad]) de).bind ?_
 ·simp only[KS,tz,f188,Option.getD_some,aO,dO];simp only[go_sem,seval,aA,up];refineλb hb=>?_;have g3:∀o,(R.set b o).f b3=_:=λo=>(Hp.ay (bh h3 hb)).trans h3;simp only[go_sem,seval,aA,up,g3,Hp.set_set];refine aJ (adm _ (by rw[Hp.set_set];exact kz hb)) ?_;rintro w cU ⟨v,hv,sC,hS⟩
  cases hv
  simp only[go_sem,seval,aA,up,sC];exact⟨rfl,v,hS⟩
 rintro g bY ⟨lW,ja,a2,gp,⟨rfl,v,hS⟩,rfl⟩;refine ax.ctl (λw=>stepG_end) rfl rfl ?_;refine ax.step rfl (aoO (fn:=f188) rfl gp.defers rfl rfl func188 ah) ?_;rintro g nL ⟨rfl,rfl⟩;exact ax.here ⟨rfl,v,hS⟩
variable {c:CN}
def aaM(E:Env prog)(fn:Func)(atA:Fin->Hp->Prop):Post
 | .normal,I,ds,U| .ret,I,ds,U=>∃b3 b4 v R,R.le U/\ds=[gl 188 #[pV b3,pV b4]]/\Fc prog fn I R v/\atA (.returned v) R
 | .panic ch,I,ds,U=>ch=lH/\∃b3 b4,ds=[gl 188 #[pV b3,pV b4]]/\∀(c:Frame) (cs:List Frame),c.mode=.panicking lH->
  ax E (G (Frame.enter prog 188 #[pV b3,pV b4] .deferred) (c::cs)) U λg R=>g=G {c with mode:=.returning} cs/\∃v,Fc prog fn I R v/\atA (.returned v) R
 |_,_,_,_=>False
def Zm{f:FuncId}{fn:Func}{c:Code}{args:Array Value}{atA:Fin->Hp->Prop}(hf:prog.funcs[f]? =some fn)(hb:fn.body=some c)(hn:args.size<=fn.ntmps)(h:cO E fn.ntmps c (aaM E fn atA) (nG args fn.ntmps) [] U):aw E f args U atA:=by
 intro cs
 let b:Frame:={(default:Frame)with fn:=f,kind:=.normal}
 have oT:Frame.enter prog f args .normal=b.at {tmps:=args++Array.replicate (fn.ntmps-args.size) undef,defers:=[]} [.code c]:=by simp[Frame.enter,Frame.at,hf,hb,b]
 rw[oT]
 have fin:∀(I:av) (ds:List Deferred) (ae:Hp) (a:Act) (todo:List Item),cM fn.ntmps a I ds->(∃b3 b4 v R,R.le ae/\ds=[gl 188 #[pV b3,pV b4]]/\Fc prog fn I R v/\atA (.returned v) R)->
  ax E (G {b.at a todo with mode:=.returning} cs) ae λg ae=>∃e fr,g=G fr cs/\fr.fn=f/\Leaving prog fr ae e/\atA e ae:=by
  rintro I ds ae a todo ha ⟨b3,b4,v,R,hle,mP,hv,hR⟩;refine ax.iD (R:=R) ?_ hle
  have hd:({b.at a todo with mode:=.returning}:Frame).defers=gl 188 #[pV b3,pV b4]::[]:=by have:=ha.defers;simp only[Frame.at];rw[this,mP]
  refine ax.step rfl (aoU rfl hd P1) ?_;rintro g bY ⟨rfl,rfl⟩;refine(aaO rfl).bind ?_;rintro g nL ⟨rfl,rfl⟩;refine ax.here ⟨.returned v,_,rfl,rfl,⟨rfl,rfl,rfl,fn,hf,?_⟩,hR⟩;have:=wC (fn:=fn) ha;simp only[Frame.at];rw[this];exact hv
 refine(HH c _ _ _ _ h b [] cs _ (by simp[b]) (sr args fn.ntmps hn)).bind (Comes.mono ?_ ?_ ?_ ?_)
 ·intro I ds ae a ha hq;exact ax.ctl (λw=>stepG_end) rfl rfl (fin I ds ae a [] ha hq)
 ·exactλid I ds ae a qM _ hq=>hq.elim
 ·exactλI ds ae a todo ha hq=>fin I ds ae a todo ha hq
 ·rintro ch I ds ae a todo ha ⟨rfl,b3,b4,mP,kt⟩
  have hd:({b.at a todo with mode:=.panicking lH}:Frame).defers=gl 188 #[pV b3,pV b4]::[]:=by have:=ha.defers;simp only[Frame.at];rw[this,mP]
  refine ax.step rfl (aoV (chain:=lH) rfl hd P1) ?_;rintro g bY ⟨rfl,rfl⟩;refine(kt _ cs rfl).bind ?_;rintro g nL ⟨rfl,v,hv,hR⟩;refine ax.here ⟨.returned v,_,rfl,rfl,⟨rfl,rfl,rfl,fn,hf,?_⟩,hR⟩;have:=wC (fn:=fn) ha;simp only[Frame.at];rw[this];exact hv
end Go.Qw
