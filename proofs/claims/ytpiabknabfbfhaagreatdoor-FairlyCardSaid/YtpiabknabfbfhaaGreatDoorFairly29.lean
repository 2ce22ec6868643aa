/- Part 29. -/
import Derived.Test.YtpiabknabfbfhaaGreatDoorFairly28
set_option linter.all false
set_option maxRecDepth 100000
set_option maxHeartbeats 8000000
namespace Go.Qw
open Go Go.Conc Go.Proofs Go.Proofs.Tryz
section
variable {E:Env prog}{H:Hid}{n:N}{X:Ext}{σ:Hp}{no:Nat}{c:CN}{h:HN}{bf:Nat}{f:FR}{r:HR}
variable {A:Lay}{id:Int}
def Dx {cl me:Nat}(aM:f.cl=(cl:Int))(aP:f.me=(me:Int))(x y:Nat):f.kQ (x:Int) [(y:Int)]=decide (f.u.kind=1/\cl=x/\me=y):=by simp only[FR.kQ,aM,aP,List.mem_singleton];by_cases h0:f.u.kind=1<;>by_cases h1:cl=x<;>by_cases h2:me=y<;>simp[h0,h1,h2]<;>omega
def ag7 {cl me:Nat}(aM:f.cl=(cl:Int))(aP:f.me=(me:Int))(x y z:Nat):f.kQ (x:Int) [(y:Int),(z:Int)]=decide (f.u.kind=1/\cl=x/\(me=y\/me=z)):=by simp only[FR.kQ,aM,aP,List.mem_cons,List.not_mem_nil,or_false];by_cases h0:f.u.kind=1<;>by_cases h1:cl=x<;>by_cases h2:me=y<;>by_cases h3:me=z<;>simp[h0,h1,h2,h3]<;>omega
structure EX (n:N) (id:Int) (no:Nat) (c:CN) (h:HN):Prop where
 M:H8 n id no c h
 P:yi n
 want:0<=h.r.want/\h.r.want<=3
 body:h.r.body.length<=500000
 rel:yc n id no h
def abG {cl me:Nat}(a:aq A H n ((bf,bN f)::X) σ)(F:EX n id no c h)(hc:n.ar id=some c)(hh:n.h? id no=some h)(aM:f.cl=(cl:Int))(aP:f.me=(me:Int))(jq:f.s.length<=500000):
 ay E 231 #[pV (A.chan id no),pV bf] σ (iq A X n bf f (n.jG id no h f.u.kind f.s cl me)):=by
 refine aW func231 ntmps231 results231 λQ aC an aA=>?_;have dY:=F.M.xA;have fN:=F.M.out;have dK:=a.bW hh
 cases vr:h.r.closing with
 |true=>
  rw[vr]at dK;refine aG dK ?_;refineλb1 iM=>?_;refine ag ?_;have o1:=a.fresh iM;generalize mH:Hp.set σ b1 _=cZ;have a1:aq A H n ((bf,bN f)::X) cZ:=dO (o1 _) mH;have jK:cZ.f b1=some (.cells (([40]:List Int).map iV++[]).toArray 3 (0,0)):=by rw[<-mH];exact Hp.bD _ _
  refine aR (tX (ms:=[40]) (pad:=[]) a1.eC jK al) ?_;have i1:f.kQ 20 [40]=decide (f.u.kind=1/\cl=20/\me=40):=Dx aM aP 20 40;have i2:f.kQ 20 [40,41]=decide (f.u.kind=1/\cl=20/\(me=40\/me=41)):=ag7 aM aP 20 40 41;by_cases m1:f.u.kind=1/\cl=20/\me=40
  ·have e:n.jG id no h f.u.kind f.s cl me=.ok ((n.send id (ck no 20 41 [])).pz id no) .nil:=by unfold N.jG;rw[vr,if_pos rfl,if_pos m1]
   rw[decide_eq_true m1]at i1;rw[decide_eq_true ⟨m1.1,m1.2.1,.inl m1.2.2⟩]at i2;refine aG i1 ?_;refine bG 9 ?_;refine aG (a1.bW hh) ?_;refine aL (px (ch:=no) (cl:=20) (me:=41) (xs:=[]) a1 hc (.inl ⟨rfl,rfl⟩) al al aa ai ai (by simp[cW]) aa) ?_;rintro v fH ⟨hv,a5⟩
   cases hv
   have yO:(n.send id (ck no 20 41 [])).h? id no=some h:=by rw[pE];exact hh
   have kM:(n.send id (ck no 20 41 [])).ar id=some {c with r:={c.r with out:=c.r.out++ck no 20 41 [],gV:=n.clock}}:=by rw[rY,if_pos rfl,hc];rfl
   refine⟨by(repeat(first|exact js|(apply jr;(focus decide+kernel))|(refine kS rfl (aK (a5.bW yO)) ?_))),?_⟩;refine ag ?_;refineλb2 eQ=>?_;refine ag ?_;have o2:=a5.fresh eQ;generalize vp:Hp.set fH b2 _=iZ;have a6:aq A H (n.send id (ck no 20 41 [])) ((bf,bN f)::X) iZ:=dO (o2 _) vp;have iw:iZ.f b2=some (.cells (([40,41]:List Int).map iV++[]).toArray 3 (0,0)):=by rw[<-vp];exact Hp.bD _ _
   refine aR (tX (ms:=[40,41]) (pad:=[]) a6.eC iw al) ?_;refine aG i2 ?_;refine aL (IP a6 kM yO F.M.fin) ?_;rintro v gX ⟨hv,H2,a7⟩
   cases hv
   refine ag ?_;refine an aI ao ?_;rw[e];exact⟨A,H2,0,_,by simp[up,Er.v],.refl A,a7⟩
  rw[decide_eq_false m1]at i1;refine aG i1 ?_;refineλb2 eQ=>?_;refine ag ?_;have o2:=a1.fresh eQ;generalize vp:Hp.set cZ b2 _=iZ;have a2:aq A H n ((bf,bN f)::X) iZ:=dO (o2 _) vp;have iw:iZ.f b2=some (.cells (([40,41]:List Int).map iV++[]).toArray 3 (0,0)):=by rw[<-vp];exact Hp.bD _ _
  refine aR (tX (ms:=[40,41]) (pad:=[]) a2.eC iw al) ?_;by_cases m2:f.u.kind=1/\cl=20/\me=41
  ·have e:n.jG id no h f.u.kind f.s cl me=.ok (n.pz id no) .nil:=by unfold N.jG;rw[vr,if_pos rfl,if_neg m1,if_pos m2]
   rw[decide_eq_true ⟨m2.1,m2.2.1,.inr m2.2.2⟩]at i2;refine aG i2 ?_;refine aL (IP a2 hc hh F.rel) ?_;rintro v gX ⟨hv,H2,a7⟩
   cases hv
   refine ag ?_;refine an aI ao ?_;rw[e];exact⟨A,H2,0,_,by simp[up,Er.v],.refl A,a7⟩
  ·have e:n.jG id no h f.u.kind f.s cl me=.ok n .nil:=by unfold N.jG;rw[vr,if_pos rfl,if_neg m1,if_neg m2]
   rw[decide_eq_false (λ⟨x,y,z⟩=>z.elim (λz=>m1 ⟨x,y,z⟩) (λz=>m2 ⟨x,y,z⟩))]at i2;refine aG i2 ?_;refine an aI ao ?_;rw[e];exact⟨A,H,0,_,by simp[up,Er.v],.refl A,a2⟩
 |false=>
  rw[vr]at dK;have hf:=a.eJ;refine aG dK ?_;refine bG 11 ?_;refine bt dK hf ?_;refine aiZ (a:=h.r.want) (b:=1) ?_ ?_ ?_
  ·exact au
  ·exact au
  refine⟨dG hf,?_⟩;by_cases t1:f.u.kind=max h.r.want 1
  rotate_left
  ·have e:n.jG id no h f.u.kind f.s cl me=.ok n (.cH 505 cl me):=by unfold N.jG;rw[vr,if_neg Bool.false_ne_true,if_pos t1]
   refine aG t1 ?_;refine aL (jF (e:=505) a aM aP) ?_;rintro v fH ⟨b,hv,a4⟩
   cases hv
   refine ag ?_;refine an aI ao ?_;rw[e];exact⟨A,H,b,_,by simp[up],.refl A,a4⟩
  obtain⟨w1,w2⟩:=F.want;have Q8:f.u.kind=1\/f.u.kind=2\/f.u.kind=3:=aa;simp only[go_sem,seval,hf,eq_true t1,decide_true];rcases Q8 with k1|k2|k3
  ·have e:n.jG id no h f.u.kind f.s cl me=n.method id no h f.s cl me:=by unfold N.jG;rw[vr,if_neg Bool.false_ne_true,if_neg (by simpa using t1),if_neg aa,if_neg aa]
   have n2:¬f.u.kind=2:=aa;have n3:¬f.u.kind=3:=aa;simp only[go_sem,seval,n2,n3,decide_false];refine dC acs (ai5 a F.M hc hh k1 aM aP aa) ?_ (λch τ hx=>aA _ _ _ _ ao (by rw[e];exact hx));intro v τ hx;refine ag ?_;exact an aI ao (by rw[e];exact rN hx (by simp[up]))
  ·have e:n.jG id no h f.u.kind f.s cl me=n.header id no h.r f.s:=by unfold N.jG;rw[vr,if_neg Bool.false_ne_true,if_neg (by simpa using t1),if_pos k2]
   simp only[go_sem,seval,hf,eq_true k2,decide_true];have a2:=a.uD (bN {f with cl:=60,me:=40});rw[Hp.set_set];generalize hZ:Hp.set σ bf _=cM;replace a2:=dO a2 hZ;refine dC acp (aeb a2 hc hh rfl rfl F.P) ?_ (λch τ hx=>aA _ _ _ _ ao ?_)
   ·intro v τ hx;refine ag ?_;refine an aI ao ?_;rw[e]
    cases hw:n.header id no h.r f.s<;>(rw[hw]at hx;exact rN hx (by simp[up]))
   ·rw[e]
    cases hw:n.header id no h.r f.s<;>(rw[hw]at hx;exact hx)
  ·have e:n.jG id no h f.u.kind f.s cl me=n.part id no h.r f.s:=by unfold N.jG;rw[vr,if_neg Bool.false_ne_true,if_neg (by simpa using t1),if_neg aa,if_pos k3]
   have n2:¬f.u.kind=2:=aa;simp only[go_sem,seval,hf,n2,eq_true k3,decide_true,decide_false];have a2:=a.uD (bN {f with cl:=60,me:=40});rw[Hp.set_set];generalize hZ:Hp.set σ bf _=cM;replace a2:=dO a2 hZ;have hbo:=F.body;refine dC acr (alb a2 hc hh rfl rfl F.P (by show _+f.s.length<=_;omega)) ?_ (λch τ hx=>aA _ _ _ _ ao ?_)
   ·intro v τ hx;refine ag ?_;refine an aI ao ?_;rw[e]
    cases hw:n.part id no h.r f.s<;>(rw[hw]at hx;exact rN hx (by simp[up]))
   ·rw[e]
    cases hw:n.part id no h.r f.s<;>(rw[hw]at hx;exact hx)
def Z5 {cl me:Nat}(a:aq A H n ((bf,bN f)::X) σ)(hc:n.ar id=some c)(R:zT n id c)(aM:f.cl=(cl:Int))(aP:f.me=(me:Int))(fN:c.r.out.length<=100000000000000):
 ay E 191 #[pV (A.conn id),pV bf] σ (iq A X n bf f (n.control id f.u.kind f.s cl me)):=by
 refine aW func191 ntmps191 results191 λQ aC an aA=>?_;refine ag ?_;refineλb1 iM=>?_;refine ag ?_;have o1:=a.fresh iM;generalize mH:Hp.set σ b1 _=cZ;have a1:aq A H n ((bf,bN f)::X) cZ:=dO (o1 _) mH;have jK:cZ.f b1=some (.cells (([50]:List Int).map iV++[]).toArray 3 (0,0)):=by rw[<-mH];exact Hp.bD _ _
 refine aR (tX (ms:=[50]) (pad:=[]) a1.eC jK al) ?_;have i1:f.kQ 10 [50]=decide (f.u.kind=1/\cl=10/\me=50):=Dx aM aP 10 50;by_cases m1:f.u.kind=1/\cl=10/\me=50
 rotate_left
 ·have e:n.control id f.u.kind f.s cl me=.ok n (.cH 503 cl me):=by unfold N.control;rw[if_neg m1]
  rw[decide_eq_false m1]at i1;refine aG i1 ?_;refine aL (jF (e:=503) a1 aM aP) ?_;rintro v fH ⟨b,hv,a4⟩
  cases hv
  refine ag ?_;refine an aI ao ?_;rw[e];exact⟨A,H,b,_,by simp[up],.refl A,a4⟩
 rw[decide_eq_true m1]at i1;refine aG i1 ?_;refine dC PW (Pu a1) ?_ (λch τ hx=>aA _ _ _ _ ao ?_)
 rotate_left
 ·rcases hx with⟨_,h,_⟩|⟨hp,h,s,a4⟩
  ·cases h
  ·cases h
   have e:n.control id f.u.kind f.s cl me=.bad cl me:=by
    unfold N.control;rw[if_pos m1];cases hq:sU f.s with
    |none=>rfl
    |some l=>cases l with
     |nil=>exact absurd hq hp
     |cons x l=>rfl
   rw[e];exact⟨H,s,rfl,by rw[<-aM,<-aP];exact a4⟩
 rintro v dv (⟨hp,hv,a4⟩|⟨_,h,_⟩)
 rotate_left
 ·cases h
 cases hv
 have e:n.control id f.u.kind f.s cl me=.ok (((n.leave id).send id (ck 0 10 51 [])).bC id λr=>{r with ph:=5}) .nil:=by unfold N.control;rw[if_pos m1,hp]
 refine ag ?_;refine aL (Ld a4 hc R) ?_;rintro v gX ⟨hv,H2,a5⟩
 cases hv
 have kM:∃c1,(n.leave id).ar id=some c1/\c1.r=c.r:=by
  have e:n.leave id=(n.gJ id c.ch).dI id λc=>{c with ch:=[]}:=by unfold N.leave;rw[hc];rfl
  obtain⟨c1,cB,ec⟩:=Bq (Ek.trans (Bo hc):(n.gJ id c.ch).rC id=some c.r);exact⟨{c1 with ch:=[]},by rw[e];simp[cB],ec⟩
 obtain⟨c1,cB,ec⟩:=kM;refine ag ?_;refine aL (px (ch:=0) (cl:=10) (me:=51) (xs:=[]) a5 cB (.inl ⟨rfl,rfl⟩) al al ai ai ai (by simp[cW]) (by rw[ec];omega)) ?_;rintro v wH ⟨hv,a6⟩
 cases hv
 have ib:((n.leave id).send id (ck 0 10 51 [])).ar id=some {c1 with r:={c1.r with out:=c1.r.out++ck 0 10 51 [],gV:=(n.leave id).clock}}:=by rw[rY,if_pos rfl,cB];rfl
 refine aG (a6.eu ib) ?_;have a7:=a6.nv ib λr=>{r with ph:=5};refine an aI ao ?_;rw[e];exact⟨A,H2,0,_,by simp[up,Er.v],.refl A,dO a7 rfl⟩
end
section
variable {E:Env prog}{H:Hid}{n:N}{X:Ext}{σ:Hp}{no:Nat}{c:CN}{h:HN}{nm:List UInt8}{bf:Nat}{f:FR}{r:HR}
variable {A:Lay}{id:Int}
def akL {cl me:Nat}(a:aq A H n ((bf,bN f)::X) σ)(w:Wf n)(hc:n.ar id=some c)(F:∀h,n.h? id no=some h->EX n id no c h)(dK:f.u.channel=(no:Int))(dY:no<1000000)(aM:f.cl=(cl:Int))(aP:f.me=(me:Int))(fN:c.r.out.length<=100000000000000)(jq:f.s.length<=500000):
 ay E 192 #[pV (A.conn id),pV bf] σ (iq A X n bf f (n.lN id c no f.u.kind f.s cl me)):=by
 have hf:=a.eJ;rw[dK]at hf;have cP:=a.eu hc;obtain⟨l,k,m1,m2,m3⟩:=a.chm hc;have i1:f.kQ 20 [10]=decide (f.u.kind=1/\cl=20/\me=10):=Dx aM aP 20 10;by_cases t1:(no:Int)>c.r.dg
 ·have e:n.lN id c no f.u.kind f.s cl me=.ok n (.cH 504 cl me):=by unfold N.lN;rw[if_pos t1]
  refine aW func192 ntmps192 results192 λQ aC an aA=>?_;refine ag ?_;refine bG 10 ?_;simp only[go_sem,seval,cP,hf,t1,decide_true];refine aL (jF (e:=504) a aM aP) ?_;rintro v fH ⟨b,hv,a4⟩
  cases hv
  refine ag ?_;refine an aI ao ?_;rw[e];exact⟨A,H,b,_,by simp[up],.refl A,a4⟩
 cases hg:bu c.ch no with
 |some h=>
  have hh:n.h? id no=some h:=by unfold N.h?;rw[hc];exact hg
  have e:n.lN id c no f.u.kind f.s cl me=n.jG id no h f.u.kind f.s cl me:=by unfold N.lN;rw[if_neg t1,hg]
  obtain⟨st,bw⟩:=rE m2 m3 (List.mem_map_of_mem (f:=λe:Nat×HN=>((e.1:Int),pV (A.chan id e.1))) (iJ hg));have dk:((dn l (no:Int)).map (·.2.1)).getD (.pointer none)=pV (A.chan id no):=by rw[bw];rfl
  refine aW func192 ntmps192 results192 λQ aC an aA=>?_;refine ag ?_;refine bG 10 ?_;simp only[go_sem,seval,cP,hf,t1,decide_false];refine bG 11 ?_;refine bt cP hf ?_;refine jM (b:=H.chm id) (k:=(no:Int)) (l:=l) (c:=k) ue (z:=.pointer none) ah ?_ m1 ?_ ?_
  ·exact au
  ·exact au
  refine⟨iP hf cP,?_⟩;simp only[go_sem,seval,dk,Bool.false_eq_true];refine dC aco (abG a (F h hh) hc hh aM aP jq) ?_ (λch τ hx=>aA _ _ _ _ ao (by rw[e];exact hx));intro v τ hx;refine ag ?_;exact an aI ao (by rw[e];exact rN hx (by simp[up]))
 |none=>
 have Dd:∀e∈(c.ch.map λe=>((e.1:Int),pV (A.chan id e.1))),e.1≠(no:Int):=λe he=>by obtain⟨y,hy,rfl⟩:=List.mem_map.1 he;have:=iK hg y hy;show(y.1:Int)≠no;omega
 have hl:dn l (no:Int)=none:=map_none m3 Dd;by_cases k1:f.u.kind=1/\cl=20/\me=10
 ·rw[decide_eq_true k1]at i1;by_cases ht:∃s0,jP f.s=some (s0,[])
  ·obtain⟨s0,ht⟩:=ht
   have e:n.lN id c no f.u.kind f.s cl me=.ok ((n.dI id λc=>{c with ch:=cV kT c.ch no ⟨gu,[],[]⟩}).send id (ck no 20 11 [.long 0])) .nil:=by unfold N.lN;rw[if_neg t1,hg];simp only;rw[if_pos k1,ht]
   refine(akK a.gw (a.conn hc) m1 m2.uniq a.eC dK dY aa hl i1 ht fN).mono ?_;rintro e' τ ⟨rfl,un,co,hb,u1,u2,u3,n1,n2,n3,rfl⟩;rw[e];have a1:=a.uD (bN {f with s:=[]})
   have fresh:∀{x},σ.f x=none->(σ.set bf (bN {f with s:=[]})).f x=none:=λ{x} hx=>by rw[Hp.az (bp hx a.eC)];exact hx
   obtain⟨d1,d2⟩:=D1 m2 m3 Dd (pV hb)
   have Gf:(c.ch.map λe=>((e.1:Int),pV ((A.setChan id no hb un co).chan id e.1)))=c.ch.map λe=>((e.1:Int),pV (A.chan id e.1)):=List.map_congr_left λe he=>by have:¬e.1=no:=iK hg e he;simp[Lay.setChan,this]
   have iM:(A.setChan id no hb un co).chan id no=hb:=by simp[Lay.setChan]
   have a2:=a1.ajs w hc hg (hb:=hb) (ub:=un) (cb:=co) (fresh u1) (fresh u2) (fresh u3) (λe=>n1 e.symm) n2 n3 (o:=aU aV (ji l (no:Int) (pV hb) k) (ju l (no:Int) k)) ⟨_,_,rfl,d1,by
    refine d2.trans (List.Perm.symm ?_)
    refine((uU (lt:=kT) c.ch no ⟨gu,[],[]⟩).map _).trans ?_
    simp only[List.map_cons,iM,Gf]
    exact List.Perm.refl _⟩
   have dP:(n.dI id λc=>{c with ch:=cV kT c.ch no ⟨gu,[],[]⟩}).ar id=some {c with ch:=cV kT c.ch no ⟨gu,[],[]⟩}:=by simp[hc]
   have a3:=a2.nv dP λr=>{r with out:=r.out++ck no 20 11 [.long 0],gV:=n.clock};exact⟨A.setChan id no hb un co,H,0,_,rfl,⟨rfl,rfl,rfl⟩,a3⟩
  ·have e:n.lN id c no f.u.kind f.s cl me=.bad cl me:=by
    unfold N.lN;rw[if_neg t1,hg];simp only;rw[if_pos k1]
    cases hp:jP f.s with
    |none=>rfl
    |some p=>
     obtain⟨x,y⟩:=p
     cases y with
     |nil=>exact absurd ⟨x,hp⟩ ht
     |cons z y=>rfl
   have dk:((dn l (no:Int)).map (·.2.1)).getD (.pointer none)=.pointer none:=by rw[hl];rfl
   refine aW func192 ntmps192 results192 λQ aC an aA=>?_;refine ag ?_;refine bG 10 ?_;simp only[go_sem,seval,cP,hf,t1,decide_false];refine bG 11 ?_;refine bt cP hf ?_;refine jM (b:=H.chm id) (k:=(no:Int)) (l:=l) (c:=k) ue (z:=.pointer none) ah ?_ m1 ?_ ?_
   ·exact au
   ·exact au
   refine⟨iP hf cP,?_⟩;simp only[go_sem,seval,dk,Bool.false_eq_true];refineλb1 iM=>?_;refine ag ?_;have o1:=a.fresh iM;generalize mH:Hp.set σ b1 _=cZ;have a1:aq A H n ((bf,bN f)::X) cZ:=dO (o1 _) mH;have jK:cZ.f b1=some (.cells (([10]:List Int).map iV++[]).toArray 3 (0,0)):=by rw[<-mH];exact Hp.bD _ _
   refine aR (tX (ms:=[10]) (pad:=[]) a1.eC jK al) ?_;refine aG i1 ?_;refine iC sf a1 (s6 a1.eJ rfl) (λnm rest τ hr a2=>?_) (λhr s τ a2=>aA _ _ _ _ ao (by rw[e];exact⟨H,s,rfl,by rw[<-aM,<-aP];exact a2⟩));refine ag ?_;refine qe a2 (λhs=>?_) (λhs=>aA _ _ _ _ ao (by rw[e];exact⟨H,rest,rfl,by rw[<-aM,<-aP];exact a2⟩));simp only at hs;subst hs;exact absurd ⟨nm,hr⟩ ht
 ·have e:n.lN id c no f.u.kind f.s cl me=.ok n (.cH 504 cl me):=by unfold N.lN;rw[if_neg t1,hg];simp only;rw[if_neg k1]
  rw[decide_eq_false k1]at i1;have dk:((dn l (no:Int)).map (·.2.1)).getD (.pointer none)=.pointer none:=by rw[hl];rfl
  refine aW func192 ntmps192 results192 λQ aC an aA=>?_;refine ag ?_;refine bG 10 ?_;simp only[go_sem,seval,cP,hf,t1,decide_false];refine bG 11 ?_;refine bt cP hf ?_;refine jM (b:=H.chm id) (k:=(no:Int)) (l:=l) (c:=k) ue (z:=.pointer none) ah ?_ m1 ?_ ?_
  ·exact au
  ·exact au
  refine⟨iP hf cP,?_⟩;simp only[go_sem,seval,dk,Bool.false_eq_true];refineλb1 iM=>?_;refine ag ?_;have o1:=a.fresh iM;generalize mH:Hp.set σ b1 _=cZ;have a1:aq A H n ((bf,bN f)::X) cZ:=dO (o1 _) mH;have jK:cZ.f b1=some (.cells (([10]:List Int).map iV++[]).toArray 3 (0,0)):=by rw[<-mH];exact Hp.bD _ _
  refine aR (tX (ms:=[10]) (pad:=[]) a1.eC jK al) ?_;refine aG i1 ?_;refine aL (jF (e:=504) a1 aM aP) ?_;rintro v fH ⟨b,hv,a4⟩
  cases hv
  refine ag ?_;refine an aI ao ?_;rw[e];exact⟨A,H,b,_,by simp[up],.refl A,a4⟩
end
section
variable {E:Env prog}{H:Hid}{n:N}{X:Ext}{σ:Hp}{c:CN}{h:HN}{nm:List UInt8}{bf:Nat}{f:FR}{r:HR}
variable {A:Lay}{id:Int}
def Xd {cl me:Nat}(a:aq A H n ((bf,bN f)::X) σ)(hc:n.ar id=some c)(pM:c.r.ph=1\/c.r.ph=2)(aM:f.cl=(cl:Int))(aP:f.me=(me:Int))(fN:c.r.out.length<=100000000000000):
 ay E 190 #[pV (A.conn id),pV bf] σ (iq A X n bf f (n.begin id c f.u.channel f.u.kind f.s cl me)):=by
 refine aW func190 ntmps190 results190 λQ aC an aA=>?_;refine ag ?_;refineλm hm=>?_;have nm:∀{x o},σ.f x=some o->¬x=m:=λh e=>by subst e;rw[hm]at h;cases h
 refine ag ?_;refine R6 (b:=m) (k:=1) (l:=[]) (c:=0) (w:=iV 31) (l':=[(1,iV 31,0)]) (c':=1) KT (by simp[jD]) ?_ aY ?_ ?_ rfl rfl ?_
 ·exact au
 ·exact au
 ·exact au
 intro fy rD;have oM:fy.f m=some (aU aV [(1,iV 31,0)] 1):=by rw[rD];exact Hp.bD _ _
 refine ag ?_;refine R6 (b:=m) (k:=2) (l:=[(1,iV 31,0)]) (c:=1) (w:=iV 40) (l':=[(1,iV 31,0),(2,iV 40,1)]) (c':=2) KT (by simp[jD]) ?_ oM ?_ ?_ rfl rfl ?_
 ·exact au
 ·exact au
 ·exact au
 intro τ fE;have yU:τ.f m=some (aU aV [(1,iV 31,0),(2,iV 40,1)] 2):=by rw[fE];exact Hp.bD _ _
 have hle:σ.le τ:=λx y h=>by rw[fE,Hp.az (nm h),rD,Hp.az (nm h),Hp.az (nm h)];exact h
 clear fE rD oM;have a1:=a.le hle;have cB:=a1.eu hc;refine aG cB ?_;refine jM (b:=m) (k:=c.r.ph) (l:=[(1,iV 31,0),(2,iV 40,1)]) (c:=2) KT (z:=iV 0) ah ?_ yU ?_ ?_
 ·exact au
 ·exact au
 obtain⟨W,hW⟩:∃W:Nat,W=if c.r.ph=1 then 31 else 40:=⟨_,rfl⟩
 have dk:((dn [((1:Int),iV 31,0),(2,iV 40,1)] c.r.ph).map (·.2.1)).getD (iV 0)=iV W:=by rcases pM with h|h<;>(rw[hW,h];rfl)
 simp only[go_sem,seval,dk,Bool.false_eq_true];refineλbm dF=>?_;refine ag ?_;have o1:=a1.fresh dF;generalize mH:Hp.set τ bm _=cZ;have a2:aq A H n ((bf,bN f)::X) cZ:=dO (o1 _) mH;have jK:cZ.f bm=some (.cells (([(W:Int)]:List Int).map iV++[]).toArray 3 (0,0)):=by rw[<-mH];exact Hp.bD _ _
 refine aR (tX (ms:=[(W:Int)]) (pad:=[]) a2.eC jK al) ?_;have i1:f.kQ 10 [(W:Int)]=decide (f.u.kind=1/\cl=10/\me=W):=Dx aM aP 10 W;by_cases k1:f.u.kind=1/\cl=10/\me=W
 rotate_left
 ·have e:n.begin id c f.u.channel f.u.kind f.s cl me=.ok n (.cH 503 cl me):=by unfold N.begin;rw[<-hW,if_pos (.inl k1)]
  rw[decide_eq_false k1]at i1;refine aG i1 ?_;refine aL (jF (e:=503) (a2) aM aP) ?_;rintro v uP ⟨b,hv,a9⟩
  cases hv
  refine ag ?_;refine an aI ao ?_;rw[e];exact⟨A,H,b,_,by simp[up],.refl A,a9⟩
 rw[decide_eq_true k1]at i1;have QY:=a2.eJ;by_cases k2:f.u.channel=0
 rotate_left
 ·have e:n.begin id c f.u.channel f.u.kind f.s cl me=.ok n (.cH 503 cl me):=by unfold N.begin;rw[if_pos (.inr k2)]
  refine bO i1 QY k2 ?_;refine aL (jF (e:=503) (a2) aM aP) ?_;rintro v uP ⟨b,hv,a9⟩
  cases hv
  refine ag ?_;refine an aI ao ?_;rw[e];exact⟨A,H,b,_,by simp[up],.refl A,a9⟩
 have kn:¬(¬(f.u.kind=1/\cl=10/\me=(if c.r.ph=1 then 31 else 40))\/f.u.channel≠0):=by rw[<-hW];exactλh=>h.elim (λh=>h k1) (λh=>h k2)
 have dP:=a2.eu hc;simp only[go_sem,seval,i1,QY,eq_true k2,decide_true,dP]
 have bad:∀{s:List UInt8} {τ:Hp},n.begin id c f.u.channel f.u.kind f.s cl me=.bad cl me->aq A H n ((bf,bN {f with s:=s})::X) τ->iq A X n bf f (n.begin id c f.u.channel f.u.kind f.s cl me) (.panicked lr) τ:=by intro s τ e a1;rw[e];exact⟨H,s,rfl,by rw[<-aM,<-aP];exact a1⟩
 by_cases p2:c.r.ph=2
 ·simp only[go_sem,seval,eq_true p2,decide_true];refine iC sf a2 (s6 a2.eJ rfl) (λtx rest τ hr a3=>?_) (λhr s τ a3=>aA _ _ _ _ ao (bad (by unfold N.begin;rw[if_neg kn,if_pos p2,hr]) a3));refine ag ?_
  refine qe a3 (λhs=>?_) (λhs=>aA _ _ _ _ ao (bad (s:=rest) (by
   unfold N.begin;rw[if_neg kn,if_pos p2,hr]
   simp only at hs;cases rest with
   |nil=>exact absurd rfl hs
   |cons x l=>rfl) a3))
  simp only at hs;subst hs;have e:n.begin id c f.u.channel f.u.kind f.s cl me=.ok ((n.bC id λr=>{r with ph:=3}).send id (ck 0 10 41 [.text []])) .nil:=by unfold N.begin;rw[if_neg kn,if_pos p2,hr]
  refine aG (a3.eu hc) ?_;have a4:=a3.nv hc λr=>{r with ph:=3};generalize hZ:Hp.set τ (A.conn id) _=cM;replace a4:=dO a4 hZ;have hc4:(n.bC id λr=>{r with ph:=3}).ar id=some {c with r:={c.r with ph:=3}}:=by simp[hc]
  refineλba gO=>?_;have a5:=λo=>a4.fresh gO o;refine ag ?_;refine aL (px (ch:=0) (cl:=10) (me:=41) (xs:=[.text []]) (a5 _) hc4 (.inr ⟨ba,rfl,aY⟩) (by simp[kH]) al ai ai ai ai (by show c.r.out.length<=_;omega)) ?_;rintro v wH ⟨hv,a6⟩
  cases hv
  refine ag ?_;refine an aI ao ?_;rw[e];exact⟨A,H,0,_,by simp[up,Er.v],.refl A,a6⟩
 simp only[go_sem,seval,p2,decide_false];refine xU [0,1,2,4,5,6,8,9,10,3,7,11,12,13,14] (λch ds σ=>ds=[]/\(iq A X n bf f (n.begin id c f.u.channel f.u.kind f.s cl me)) (.panicked ch) σ) ah ir (λch ρ ds σ h=>by obtain⟨rfl,h⟩:=h;exact aA _ _ _ _ ao h) ?_;refine ag ?_;refine iC nM a2 (ob (w:=2) a2.eJ rfl ai) (λx1 s1 dv eU a3=>?_) (λeU s τ a3=>⟨rfl,bad (by unfold N.begin;rw[if_neg kn,if_neg p2,eU]) a3⟩);refine fO ?_;refine ag ?_;refine iC nM a3 (ob (w:=4) a3.eJ rfl ai) (λx2 s2 fH bY a4=>?_) (λbY s τ a4=>⟨rfl,bad (by unfold N.begin;rw[if_neg kn,if_neg p2,eU];simp only at bY|-;rw[bY]) a4⟩);simp only at bY;refine fO ?_;refine ag ?_;refine iC nM a4 (ob (w:=2) a4.eJ rfl ai) (λx3 s3 gX eg a5=>?_) (λeg s τ a5=>⟨rfl,bad (by unfold N.begin;rw[if_neg kn,if_neg p2,eU];simp only at eg|-;rw[bY];simp only;rw[eg]) a5⟩);simp only at eg;refine fO ?_;refine ag ?_
 refine qe a5 (λhs=>?_) (λhs=>aA _ _ _ _ ao (bad (s:=s3) (by
  unfold N.begin;rw[if_neg kn,if_neg p2,eU];simp only;rw[bY];simp only;rw[eg]
  simp only at hs;cases s3 with
  |nil=>exact absurd rfl hs
  |cons x l=>rfl) a5))
 simp only at hs;subst hs;refine bt (a5.eu hc) a5.jH ?_;refineλba gO=>?_;refine ag ?_;rw[Hp.set_set];have a6:=λo=>a5.fresh gO o;have l7:=λo=>(a6 o).eu hc
 have e0:n.begin id c f.u.channel f.u.kind f.s cl me=if x1<1\/(x1:Int)>n.cfg.jc\/x2<64\/(x2:Int)>n.cfg.frame\/(x3:Int)>n.cfg.gh then .ok n (.cH 530 cl me)
  else .ok (n.bC id λr=>{r with dg:=x1,frame:=x2,gh:=x3,ph:=2}) .nil:=by
  unfold N.begin;rw[if_neg kn,if_neg p2,eU];simp only;rw[bY];simp only;rw[eg]
 by_cases d1:(x1:Int)<1
 ·have e:=e0.trans (if_pos (.inl aa));simp only[go_sem,seval,d1,decide_true];refine aL (jF (f:={f with s:=[]}) (e:=530) (a6 _) aM aP) ?_;rintro v uP ⟨b,hv,a9⟩
  cases hv
  refine ag ?_;refine an aI ao ?_;rw[e];exact⟨A,H,b,_,by simp[up],.refl A,a9⟩
 by_cases d2:(x1:Int)>n.cfg.jc
 ·have e:=e0.trans (if_pos (.inr (.inl d2)));simp only[go_sem,seval,d1,d2,decide_true,decide_false];refine aL (jF (f:={f with s:=[]}) (e:=530) (a6 _) aM aP) ?_;rintro v uP ⟨b,hv,a9⟩
  cases hv
  refine ag ?_;refine an aI ao ?_;rw[e];exact⟨A,H,b,_,by simp[up],.refl A,a9⟩
 by_cases d3:(x2:Int)<64
 ·have e:=e0.trans (if_pos (.inr (.inr (.inl aa))));simp only[go_sem,seval,d1,d2,d3,decide_true,decide_false];refine aL (jF (f:={f with s:=[]}) (e:=530) (a6 _) aM aP) ?_;rintro v uP ⟨b,hv,a9⟩
  cases hv
  refine ag ?_;refine an aI ao ?_;rw[e];exact⟨A,H,b,_,by simp[up],.refl A,a9⟩
 by_cases d4:(x2:Int)>n.cfg.frame
 ·have e:=e0.trans (if_pos (.inr (.inr (.inr (.inl d4)))));simp only[go_sem,seval,d1,d2,d3,d4,decide_true,decide_false];refine aL (jF (f:={f with s:=[]}) (e:=530) (a6 _) aM aP) ?_;rintro v uP ⟨b,hv,a9⟩
  cases hv
  refine ag ?_;refine an aI ao ?_;rw[e];exact⟨A,H,b,_,by simp[up],.refl A,a9⟩
 by_cases d5:(x3:Int)>n.cfg.gh
 ·have e:=e0.trans (if_pos (.inr (.inr (.inr (.inr d5)))));simp only[go_sem,seval,d1,d2,d3,d4,d5,decide_true,decide_false];refine aL (jF (f:={f with s:=[]}) (e:=530) (a6 _) aM aP) ?_;rintro v uP ⟨b,hv,a9⟩
  cases hv
  refine ag ?_;refine an aI ao ?_;rw[e];exact⟨A,H,b,_,by simp[up],.refl A,a9⟩
 have e:=e0.trans (if_neg aa);simp only[go_sem,seval,d1,d2,d3,d4,d5,decide_true,decide_false,l7];have a7:=λo=>(a6 o).nv hc λr=>{r with dg:=(x1:Int),frame:=(x2:Int),gh:=(x3:Int),ph:=2};refine an aI ao ?_;rw[e];exact⟨A,H,0,_,by simp[up,Er.v],.refl A,dO (a7 _) (by first|rfl|(simp only[Hp.set_set];rfl))⟩
end
section
variable {H:Hid}{n:N}{X:Ext}{σ:Hp}{h:HN}{r:HR}
variable {A:Lay}
def aq.zr (a:aq A H n X σ){Y:Ext}(g:Nat->Nat)(hg:∀i,i<Y.length->Y[i]? =X[g i]?)(hi:∀i j,i<Y.length->j<Y.length->g i=g j->i=j):aq A H n Y σ:=by
 have key:∀r,(view n A H Y r).isSome->∃r',view n A H Y r=view n A H X r'/\cD A H Y r=cD A H X r'/\((r'=r/\∀i,r≠.ext i)\/∃i,i<Y.length/\r=.ext i/\r'=.ext (g i)):=by
  intro r hr;by_cases he:∃i,r=.ext i
  ·obtain⟨i,rfl⟩:=he
   have hl:i<Y.length:=by
    by_cases h:i<Y.length
    ·exact h
    ·simp[view,List.getElem?_eq_none (Nat.le_of_not_lt h)]at hr
   exact⟨.ext (g i),by simp only[view,hg i hl],by simp only[cD,hg i hl],.inr ⟨i,hl,rfl,rfl⟩⟩
  ·refine⟨r,?_,?_,.inl ⟨rfl,λi e=>he ⟨i,e⟩⟩⟩<;>cases r<;>first|rfl|exact absurd ⟨_,rfl⟩ he
 refine⟨λr v hv=>?_,λr s hr hs e=>?_⟩
 ·obtain⟨r',h1,h2,_⟩:=key r (by rw[hv];rfl);rw[h2];exact a.has r' v (by rw[<-h1];exact hv)
 ·obtain⟨r',h1,h2,h3⟩:=key r hr;obtain⟨s',g1,g2,g3⟩:=key s hs;have h:=a.inj r' s' (by rw[<-h1];exact hr) (by rw[<-g1];exact hs) (by rw[<-h2,<-g2];exact e);rcases h3 with⟨e1,f1⟩|⟨i,l1,e1,gm⟩<;>rcases g3 with⟨e2,f2⟩|⟨j,l2,e2,O9⟩
  ·rw[<-e1,<-e2,h]
  ·exact absurd (by rw[<-e1,h,O9]) (f1 (g j))
  ·exact absurd (by rw[<-e2,<-h,gm]) (f2 (g i))
  ·rw[gm,O9]at h;rw[e1,e2,hi i j l1 l2 (by injection h)]
end
variable {σ:Hp}{P:Program}{main:Bool}{cs:List Frame}{fr:Frame}
def aoG{df:FuncId}{caps:Array Value}{ds:List Deferred}{chain:List PanicEntry}(hm:fr.mode=.panicking chain)(hd:fr.defers=gl df caps::ds)(hg:cf P df=true):
 gM P main (G fr cs) σ λg ae=>ae=σ/\g=G (Frame.enter P df caps .deferred) ({fr with defers:=ds}::cs):=by
 intro J w cQ
 have h:wpS P (invoke (gl df caps).target (gl df caps).args) (λn ae=>n=.enter df caps/\ae=σ) (λ_ _=>False) σ:=by simp only[gl,invoke];refine HG hg ?_;simp
 obtain⟨w',ae,bX,e1,iw,dX,fU,hr⟩:=om _ w σ #[] h cQ;rcases hr with⟨nx,hn,rfl,rfl⟩|⟨hh,hn,hq⟩
 ·have gm:((invoke (gl df caps).target (gl df caps).args).runT P w #[]).2=bX:=by simpa using e1
  have e2:(invoke (gl df caps).target (gl df caps).args).runT P w #[]=(_,bX):=Prod.ext hn gm;have ix:∀fn,∀e∈seen P fn bX,im J w'.heap.size e:=λfn e he=>fU e (mem_seen he);have pK:((gl df caps).target matches .nil)=false:=rfl
  have step:stepG P main (G fr cs) w=callDeferred P {fr with defers:=ds} cs none (gl df caps) w:=by simp only[G,stepG,hm,unwind,hd];rfl
  rw[step];unfold callDeferred;simp only[pK];generalize invoke (gl df caps).target (gl df caps).args=s at e2|-;simp only[e2,GStep.after];exact⟨_,iw,dX,λe he=>ix _ e (aZ he),rfl,rfl,rfl⟩
 ·exact hq.elim
variable {b:Frame}{a:Act}{k:List Item}{c:Frame}{v:Value}
def aoE{ops:Array Oper}{i:Nat}{rest:List Nat}{dst:Option Tmp}{cg:Array TypeId}{ty:TypeId}{pos:String}{af:Array Edge}{gd:Option (Nat×Bool)}(ho:ops[i]? =some ⟨dst,.call ⟨.builtin .recover,#[],cg⟩,ty,pos,af,gd⟩)(hw:Region.wanted ⟨dst,.call ⟨.builtin .recover,#[],cg⟩,ty,pos,af,gd⟩ (yielded ops a.tmps)=true)(hb:b.kind=.deferred)(hc:c.mode=.panicking [{v:=v,recovered:=false}]):
 gM P main (G (b.at a (.inRegion ops (i::rest)::k)) (c::cs)) σ λg ae=>ae=σ/\g=G (b.at (a.put dst v) (.inRegion ops rest::k)) ({c with mode:=.panicking [{v:=v,recovered:=true}]}::cs):=by
 intro J w hs
 have h:wpS P (execOp a.eval ⟨dst,.call ⟨.builtin .recover,#[],cg⟩,ty,pos,af,gd⟩) (λn ae=>n=.recover/\ae=σ) (λ_ _=>False) σ:=by simp only[execOp,resolve,aH,bq,invoke];exact⟨rfl,rfl⟩
 obtain⟨w',ae,bX,e1,cQ,dX,fU,hr⟩:=om _ w σ #[] h hs;have gm:((execOp a.eval ⟨dst,.call ⟨.builtin .recover,#[],cg⟩,ty,pos,af,gd⟩).runT P w #[]).2=bX:=by simpa using e1
 rw[stepG_oper ho hw];have ix:∀fn,∀e∈seen P fn bX,im J w'.heap.size e:=λfn e he=>fU e (mem_seen he);have eV:(b.at a (.inRegion ops (i::rest)::k)).finish v=b.at (a.put dst v) (.inRegion ops rest::k):=by rw[Frame.finish_at,ho];rfl
 have KB:tryRecover (b.at a (.inRegion ops (i::rest)::k)) (c::cs)=some (v,{c with mode:=.panicking [{v:=v,recovered:=true}]}::cs):=by unfold tryRecover;simp only[Frame.at,hb,hc]
 rcases hr with⟨nx,hn,hq,rfl⟩|⟨hh,hn,hq⟩
 ·subst hq;have e2:(execOp a.eval ⟨dst,.call ⟨.builtin .recover,#[],cg⟩,ty,pos,af,gd⟩).runT P w #[]=(_,bX):=Prod.ext hn gm;generalize execOp a.eval _=s at e2|-;unfold stepG.apply;have Kt:(b.at a (.inRegion ops (i::rest)::k)).roundOf=none:=rfl;simp only[if_true,e2,Kt,KB,GStep.after,eV];refine⟨_,cQ,dX,λe he=>?_,rfl,rfl,rfl⟩;split at he
  ·simp[seen]at he
  ·simp only[Array.append_empty]at he;exact ix _ e he
 ·exact hq.elim
def aoz{fn:Func}(hm:fr.mode=.returning)(hd:fr.defers=[])(hk:fr.kind=.deferred)(hc:c.mode=.panicking [{v:=v,recovered:=true}])(hf:P.funcs[fr.fn]? =some fn)(hr:fn.results= #[]):
 gM P main (G fr (c::cs)) σ λg ae=>ae=σ/\g=G {c with mode:=.returning} cs:=by
 intro J w hs
 have eN:∀tmps,wpS P (results fn tmps) (λv' ae=>v'=.tuple #[]/\ae=σ) (λ_ _=>False) σ:=by intro tmps;simp[results,hr,bq]
 obtain⟨w',ae,bX,e1,cQ,dX,fU,Dr⟩:=om (results fn fr.tmps) w σ #[] (eN _) hs;rcases Dr with⟨v',hn,rfl,rfl⟩|⟨_,_,hq⟩
 ·have gm:((results fn fr.tmps).runT P w #[]).2=bX:=by simpa using e1
  have e2:(results fn fr.tmps).runT P w #[]=(.ok (.tuple #[]) w',bX):=Prod.ext hn gm
  have:stepG P main (G fr (c::cs)) w=.go (G {c with mode:=.returning} cs) w' (seen P fr.fn bX):=by simp[G,stepG,hm,unwind,hd,hf,-Sem.runT_eq,e2,doReturn,hk,GStep.after,hc]
  rw[this];exact⟨_,cQ,dX,λe he=>fU e (mem_seen he),rfl,rfl,rfl⟩
 ·exact hq.elim
variable {E:Env prog}{f:FR}
def aaq{b3 b4 bf:Nat}{v0:Value}{S:Nat->Hp->Prop}(hc:c.mode=.panicking lr)(h3:σ.f b3=some (.cells [pV bf].toArray 291 (0,0)))(h4:σ.f b4=some (.cells [v0].toArray 45 (0,0)))(acQ:∀τ,σ.le τ->ay E 189 #[pV bf,iV 502] τ λe cC=>∃v,e=.returned (.iface 214 (pV v))/\cC.f b4=some (.cells [v0].toArray 45 (0,0))/\S v (cC.set b4 (.cells [.iface 214 (pV v)].toArray 45 (0,0)))):
 ax E (G (Frame.enter prog 188 #[pV b3,pV b4] .deferred) (c::cs)) σ λg τ=>g=G {c with mode:=.returning} cs/\∃v,S v τ:=by
 have oK:Frame.enter prog 188 #[pV b3,pV b4] .deferred=Ad.at {tmps:=#[pV b3,pV b4]++Array.replicate 11 undef,defers:=[]} [.code te]:=by simp[Frame.enter,Frame.at,func188,Ad,f188,te]
 rw[oK,M8];have ha:=rV #[pV b3,pV b4] 13 al;refine ax.ctl (λw=>stepG_seq) rfl rfl ?_;refine ax.ctl (λw=>stepG_region) rfl rfl ?_;have hr:List.range Ei.size=[0]:=ah;rw[hr];obtain⟨ps,af,ho⟩:=TL;refine ax.step rfl (aoE ho rfl rfl hc) ?_;rintro g τ ⟨rfl,rfl⟩;have da:cJ 13 _ _ []:=ha.put (dst:=some 5) ai (.iface 325 (.agg #[]));refine ax.ctl (λw=>stepG_region_end) rfl rfl ?_;refine(np (E:=E) (N:=13) (X:=λρ ds cC=>ds=[]/\∃v,S v cC) ?_ (by simp[Ad]) da).bind ?_
 ·simp only[KJ,te,f188,Option.getD_some,aQ,dL];simp only[go_sem,seval,aB,up];refineλb hb=>?_;have g3:∀o,(τ.set b o).f b3=_:=λo=>(Hp.az (bp h3 hb)).trans h3;simp only[go_sem,seval,aB,up,g3,Hp.set_set];refine aL (acQ _ (by rw[Hp.set_set];exact jZ hb)) ?_;rintro w cM ⟨v,hv,sm,hS⟩
  cases hv
  simp only[go_sem,seval,aB,up,sm];exact⟨rfl,v,hS⟩
 rintro g cC ⟨lR,iZ,a2,gp,⟨rfl,v,hS⟩,rfl⟩;refine ax.ctl (λw=>stepG_end) rfl rfl ?_;refine ax.step rfl (aoz (fn:=f188) rfl gp.defers rfl rfl func188 ah) ?_;rintro g nE ⟨rfl,rfl⟩;exact ax.here ⟨rfl,v,hS⟩
variable {c:CN}
def aan(E:Env prog)(fn:Func)(R:Fin->Hp->Prop):Post
 | .normal,ρ,ds,σ| .ret,ρ,ds,σ=>∃b3 b4 v τ,τ.le σ/\ds=[gl 188 #[pV b3,pV b4]]/\E6 prog fn ρ τ v/\R (.returned v) τ
 | .panic ch,ρ,ds,σ=>ch=lr/\∃b3 b4,ds=[gl 188 #[pV b3,pV b4]]/\∀(c:Frame) (cs:List Frame),c.mode=.panicking lr->
  ax E (G (Frame.enter prog 188 #[pV b3,pV b4] .deferred) (c::cs)) σ λg τ=>g=G {c with mode:=.returning} cs/\∃v,E6 prog fn ρ τ v/\R (.returned v) τ
 |_,_,_,_=>False
def YW{f:FuncId}{fn:Func}{c:Code}{args:Array Value}{R:Fin->Hp->Prop}(hf:prog.funcs[f]? =some fn)(hb:fn.body=some c)(hn:args.size<=fn.ntmps)(h:cK E fn.ntmps c (aan E fn R) (nB args fn.ntmps) [] σ):ay E f args σ R:=by
 intro cs
 let b:Frame:={(default:Frame)with fn:=f,kind:=.normal}
 have oK:Frame.enter prog f args .normal=b.at {tmps:=args++Array.replicate (fn.ntmps-args.size) undef,defers:=[]} [.code c]:=by simp[Frame.enter,Frame.at,hf,hb,b]
 rw[oK]
 have fin:∀(ρ:av) (ds:List Deferred) (ae:Hp) (a:Act) (todo:List Item),cJ fn.ntmps a ρ ds->(∃b3 b4 v τ,τ.le ae/\ds=[gl 188 #[pV b3,pV b4]]/\E6 prog fn ρ τ v/\R (.returned v) τ)->
  ax E (G {b.at a todo with mode:=.returning} cs) ae λg ae=>∃e fr,g=G fr cs/\fr.fn=f/\Leaving prog fr ae e/\R e ae:=by
  rintro ρ ds ae a todo ha ⟨b3,b4,v,τ,hle,mJ,hv,hR⟩;refine ax.ik (τ:=τ) ?_ hle
  have hd:({b.at a todo with mode:=.returning}:Frame).defers=gl 188 #[pV b3,pV b4]::[]:=by have:=ha.defers;simp only[Frame.at];rw[this,mJ]
  refine ax.step rfl (aoF rfl hd PV) ?_;rintro g cC ⟨rfl,rfl⟩;refine(aap rfl).bind ?_;rintro g nE ⟨rfl,rfl⟩;refine ax.here ⟨.returned v,_,rfl,rfl,⟨rfl,rfl,rfl,fn,hf,?_⟩,hR⟩;have:=wv (fn:=fn) ha;simp only[Frame.at];rw[this];exact hv
 refine(HF c _ _ _ _ h b [] cs _ (by simp[b]) (rV args fn.ntmps hn)).bind (Comes.mono ?_ ?_ ?_ ?_)
 ·intro ρ ds ae a ha hq;exact ax.ctl (λw=>stepG_end) rfl rfl (fin ρ ds ae a [] ha hq)
 ·exactλid ρ ds ae a qI _ hq=>hq.elim
 ·exactλρ ds ae a todo ha hq=>fin ρ ds ae a todo ha hq
 ·rintro ch ρ ds ae a todo ha ⟨rfl,b3,b4,mJ,jW⟩
  have hd:({b.at a todo with mode:=.panicking lr}:Frame).defers=gl 188 #[pV b3,pV b4]::[]:=by have:=ha.defers;simp only[Frame.at];rw[this,mJ]
  refine ax.step rfl (aoG (chain:=lr) rfl hd PV) ?_;rintro g cC ⟨rfl,rfl⟩;refine(jW _ cs rfl).bind ?_;rintro g nE ⟨rfl,v,hv,hR⟩;refine ax.here ⟨.returned v,_,rfl,rfl,⟨rfl,rfl,rfl,fn,hf,?_⟩,hR⟩;have:=wv (fn:=fn) ha;simp only[Frame.at];rw[this];exact hv
end Go.Qw
