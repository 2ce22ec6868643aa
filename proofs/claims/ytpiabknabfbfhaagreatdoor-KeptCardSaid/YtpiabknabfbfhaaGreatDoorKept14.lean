/- 14 -/
import Derived.Test.YtpiabknabfbfhaaGreatDoorKept13
set_option linter.all false
set_option maxRecDepth 100000
set_option maxHeartbeats 8000000
namespace Go.Qw
open Go Go.Conc Go.Proofs Go.Proofs.Tryz
section
variable {E:Env prog}{H:Hid}{n:N}{X:Ext}{U:Hp}{no:Nat}{c:CN}{h:HN}{nm:List UInt8}{q:QN}{bf:Nat}{f:FR}{r:HR}
variable {A:Lay}{id:Int}
def yL (n:N):Prop:=(0<=n.messages/\n.messages<=1000000000000)/\∀nm q,n.q? nm=some q->q.ready.length<=1000/\0<=q.held/\q.held<=1000000
def amJ {key body:List UInt8}(a:aq A H n X U)(P:yL n):
 aw E 285 #[pV A.br,sV key,sV body] U λe J=>e=.returned (if(n.jO key body).2 then .nilIface else .iface 215 (iV 506))/\At A (n.jO key body).1 X J:=by
 obtain⟨rW,jy⟩:=P;obtain⟨l,k,h1,h2,h3⟩:=a.mq
 cases hq:n.q? key with
 |none=>
  have e:n.jO key body=(n,true):=by unfold N.jO;simp only[hq]
  have bw:=map_none h3 (k:=key) (λe he=>by obtain⟨y,hy,rfl⟩:=List.mem_map.1 he;exact jc hq y hy);refine aV func285 ntmps285 results285 λQ aD an aB=>?_;refine aJ a.tU ?_;refine j9 (b:=A.mq) (k:=key) (l:=l) (c:=k) wG (z:=.pointer none) ah ?_ h1 ?_ ?_
  ·exact au
  ·exact au
  have dt:((du l key).map (·.2.1)).getD (.pointer none)=.pointer none:=by rw[bw];rfl
  simp only[go_sem,seval,dt,Bool.false_eq_true];exact an aI ao ⟨by simp[up,e],by rw[e];exact⟨H,a⟩⟩
 |some q=>
 obtain⟨st,bw⟩:=so h2 h3 (List.mem_map_of_mem (f:=λe:List UInt8×QN=>(e.1,pV (A.queue e.1))) (jb hq));obtain⟨q1,q2,q3⟩:=jy key q hq;by_cases hr:(q.ready.length:Int)+q.held>=n.cfg.queue
 ·have e:n.jO key body=(n,false):=by unfold N.jO;simp only[hq];rw[if_pos hr]
  obtain⟨b0,c0,iq⟩:=(a.ft hq).shape;have hf:=a.tH hq;rw[iq]at hf;have wl:IntKind.i64.wrap ((q.ready.length:Int)+q.held)=(q.ready.length:Int)+q.held:=wrap64 aa aa;refine aV func285 ntmps285 results285 λQ aD an aB=>?_;refine aJ a.tU ?_;refine j9 (b:=A.mq) (k:=key) (l:=l) (c:=k) wG (z:=.pointer none) ah ?_ h1 ?_ ?_
  ·exact au
  ·exact au
  have dt:((du l key).map (·.2.1)).getD (.pointer none)=pV (A.queue key):=by rw[bw];rfl
  simp only[go_sem,seval,dt,Bool.false_eq_true];refine bJ 15 ?_;simp only[go_sem,seval,hf,a.tU,wl,hr,decide_true];exact an aI ao ⟨by simp[up,e],by rw[e];exact⟨H,a⟩⟩
 ·have e:n.jO key body=(({n with messages:=n.messages+1}:N).bK key λq=>{q with ready:=q.ready++[⟨n.messages+1,key,body,false⟩]},true):=by unfold N.jO;simp only[hq];rw[if_neg hr]
  refine(amI (key:=key) (body:=body) a.br h1 bw (a.queue hq) (a.ft hq) q1 ⟨q2,q3⟩ aa rW).mono ?_;rintro e' J ⟨rfl,jj,ab,o,dm,⟨z,rfl⟩,ho,hle⟩;refine⟨by rw[e];rfl,?_⟩;rw[e];have a1:=a.U2 (n.messages+1) n.bj;obtain⟨k1,k2,k3⟩:=OY ho al
  have nbr:¬ab=A.br:=λe=>by subst e;rcases dm with h|⟨_,_,_,_,_,h⟩<;>(rw[a.br]at h;simp[ix]at h)
  have we:({n with messages:=n.messages+1,bj:=n.bj}:N).q? key=some q:=hq;refine⟨H.jP key jj,((a1.MT we (λq=>{q with ready:=q.ready++[⟨n.messages+1,key,body,false⟩]}) rfl ?_ (o:=.cells z 193 (0,0)) (rv:=jj) k3 k2)).le hle⟩;rcases dm with h|⟨off,m,cc,z',e1,h⟩
  ·exact Hl.tR a1 (.ft key) ((Hp.ay nbr).trans h)
  ·have DT:kW (H.rv key)=false:=by rw[e1];rfl
   have eb:pN (H.rv key)=ab:=by rw[e1];rfl
   have:=Hl.apart a1 (.ft key) (by rw[UJ we DT];rfl);rw[<-eb];exact this
def aqL {g k:HR->HR}(hk:∀r,k (g r)=k r):(n.cN id no g).cN id no k=n.cN id no k:=by
 simp only[N.cN,N.bC,N.dM,dD,List.map_map];congr 1;refine List.map_congr_left λe _=>?_;simp only[Function.comp];by_cases h1:e.1=id
 ·simp only[if_pos h1,List.map_map];congr 2;refine List.map_congr_left λe' _=>?_;simp only[Function.comp];by_cases h2:e'.1=no
  ·simp only[if_pos h2,hk]
  ·simp only[if_neg h2]
 ·simp only[if_neg h1]
def VN (a:aq A H (n.cN id no λ_=>r) ((bf,bP f)::X) U)(hc:n.ar id=some c)(hh:n.h? id no=some h)(aH:f.cl=((60:Nat):Int))(aO:f.me=((40:Nat):Int))(P:yL n):
 aw E 267 #[pV (A.chan id no),pV bf] U (iG A X n bf f (n.whole id no r)):=by
 refine aV func267 ntmps267 results267 λQ aD an aB=>?_;have nF:(n.cN id no λ_=>r).h? id no=some {h with r:=r}:=by simp[N.cN,hh]
 refine ag ?_;refine bJ 10 ?_;by_cases hs:(r.body.length:Int)<r.size
 ·have e:n.whole id no r=.ok (n.cN id no λ_=>r) .nil:=by unfold N.whole;rw[if_pos hs]
  simp only[go_sem,seval,a.bX nF,hs,decide_true];refine an aI ao ?_;rw[e];exact⟨A,H,0,_,by simp[up,Er.v],.refl A,a⟩
 have e:n.whole id no r=.ok ((n.cN id no λ_=>{r with want:=1}).jO r.key r.body).1 (if((n.cN id no λ_=>{r with want:=1}).jO r.key r.body).2 then .nil else .soft 506 60 40):=by unfold N.whole;rw[if_neg hs]
 simp only[go_sem,seval,a.bX nF,hs,decide_false];have a2:=a.yt nF λ_=>{r with want:=1};rw[aqL (g:=λ_=>r) (k:=λ_=>{r with want:=1}) (λ_=>rfl)]at a2;generalize hZ:Hp.set U (A.chan id no) _=cV;replace a2:=dU a2 hZ;have fI:(n.cN id no λ_=>{r with want:=1}).h? id no=some {h with r:={r with want:=1}}:=by simp[N.cN,hh]
 have dV:(n.cN id no λ_=>{r with want:=1}).ar id=some {c with ch:=dD c.ch no λh=>{h with r:={r with want:=1}}}:=by simp[N.cN,hc]
 have P2:yL (n.cN id no λ_=>{r with want:=1}):=P;generalize hN:(n.cN id no λ_=>{r with want:=1})=n2 at a2 fI dV P2 e;refine bJ 20 ?_;refine bN (a2.bX fI) (a2.eQ dV) a2.jX ?_;refine aL (amJ (key:=r.key) (body:=r.body) a2 P2) ?_;rintro v dp ⟨hv,H3,a3⟩
 cases hp:(n2.jO r.key r.body).2 with
 |true=>
  rw[hp]at hv e
  cases hv
  refine gp ?_;refine ag ?_;refine an aI ao ?_;rw[e];exact⟨A,H3,0,_,by simp[up,Er.v],.refl A,a3⟩
 |false=>
  rw[hp]at hv e
  cases hv
  refine gp ?_;refine ag ?_;refine aL (xd (e:=506) a3 aH aO) ?_;rintro v fU ⟨b,hv,a4⟩
  cases hv
  refine ag ?_;refine an aI ao ?_;rw[e];exact⟨A,H3,b,_,by simp[up],.refl A,a4⟩
def ami (a:aq A H n ((bf,bP f)::X) U)(hc:n.ar id=some c)(hh:n.h? id no=some h)(aH:f.cl=((60:Nat):Int))(aO:f.me=((40:Nat):Int))(P:yL n)(hl:h.r.body.length+f.s.length<=1000000):
 aw E 245 #[pV (A.chan id no),pV bf] U (iG A X n bf f (n.part id no h.r f.s)):=by
 refine aV func245 ntmps245 results245 λQ aD an aB=>?_;have l1:h.r.body.length+f.s.length<=9223372036854775807:=aa;refine ag ?_;refine bJ 13 ?_;refine bN (a.bX hh) a.ff l1 ?_;refine⟨by(repeat(first|exact jM|(apply jL;(focus decide+kernel))|(refine lK rfl (xg (a.bX hh) a.ff) ?_))),?_⟩;refine ag ?_;have a2:=a.yt hh λ_=>{h.r with body:=h.r.body++f.s};have a3:=a.yt hh λr=>{r with body:=r.body++f.s};generalize hZ:Hp.set U (A.chan id no) _=cV;replace a2:=dU a2 hZ;replace a3:=dU a3 hZ;have fI:(n.cN id no λ_=>{h.r with body:=h.r.body++f.s}).h? id no=some {h with r:={h.r with body:=h.r.body++f.s}}:=by simp[N.cN,hh]
 refine bJ 10 ?_;by_cases hs:((h.r.body++f.s).length:Int)>h.r.size
 ·have e:n.part id no h.r f.s=.ok (n.cN id no λr=>{r with body:=r.body++f.s}) (.cL 502 60 40):=by unfold N.part;rw[if_pos hs]
  simp only[go_sem,seval,a2.bX fI,hs,decide_true];refine aL (jW (e:=502) a3 aH aO) ?_;rintro v fU ⟨b,hv,a4⟩
  cases hv
  refine ag ?_;refine an aI ao ?_;rw[e];exact⟨A,H,b,_,by simp[up],.refl A,a4⟩
 have e:n.part id no h.r f.s=n.whole id no {h.r with body:=h.r.body++f.s}:=by unfold N.part;rw[if_neg hs]
 simp only[go_sem,seval,a2.bX fI,hs,decide_false];refine dG QO (VN a2 hc hh aH aO P) ?_ (λch J h=>aB _ _ _ _ ao (by rw[e];exact h));intro v J h;refine ag ?_;exact an aI ao (by rw[e];exact sC h (by simp[up]))
def afd (a:aq A H n ((bf,bP f)::X) U)(hc:n.ar id=some c)(hh:n.h? id no=some h)(aH:f.cl=((60:Nat):Int))(aO:f.me=((40:Nat):Int))(P:yL n):
 aw E 244 #[pV (A.chan id no),pV bf] U (iG A X n bf f (n.header id no h.r f.s)):=by
 refine aV func244 ntmps244 results244 λQ aD an aB=>?_
 have bad:∀{s:List UInt8} {J:Hp},n.header id no h.r f.s=.bad 60 40->aq A H n ((bf,bP {f with s:=s})::X) J->iG A X n bf f (n.header id no h.r f.s) (.panicked lX) J:=by intro s J e a1;rw[e];exact⟨H,s,rfl,by rw[<-aH,<-aO];exact a1⟩
 refine ag ?_;refine yy [0,1,2,4,5,6,8,9,10,12,13,14,3,7,11,15,16,17,18,19] (λch ds U=>ds=[]/\(iG A X n bf f (n.header id no h.r f.s)) (.panicked ch) U) ah jU (λch I ds U h=>by obtain⟨rfl,h⟩:=h;exact aB _ _ _ _ ao h) ?_;refine ag ?_;refine iU og a (oG (w:=2) a.ff rfl ai) (λx1 s1 J fD a1=>?_) (λfD s J a1=>⟨rfl,bad (by unfold N.header;rw[fD]) a1⟩);refine gp ?_;refine ag ?_;refine iU og a1 (oG (w:=2) a1.ff rfl ai) (λx2 s2 cV bZ a2=>?_) (λbZ s J a2=>⟨rfl,bad (by unfold N.header;rw[fD];simp only at bZ|-;rw[bZ]) a2⟩);simp only at bZ;refine gp ?_;refine ag ?_;refine iU og a2 (oG (w:=4) a2.ff rfl ai) (λx3 s3 dp eN a3=>?_) (λeN s J a3=>⟨rfl,bad (by unfold N.header;rw[fD];simp only at eN|-;rw[bZ];simp only;rw[eN]) a3⟩);simp only at eN;refine gp ?_;refine ag ?_;refine iU og a3 (oG (w:=4) a3.ff rfl ai) (λx4 s4 fU uC a4=>?_) (λuC s J a4=>⟨rfl,bad (by unfold N.header;rw[fD];simp only at uC|-;rw[bZ];simp only;rw[eN];simp only;rw[uC]) a4⟩);simp only at uC;refine gp ?_;refine ag ?_
 refine qE a4 (λhs=>?_) (λhs=>aB _ _ _ _ ao (bad (s:=s4) (by
  unfold N.header;rw[fD];simp only;rw[bZ];simp only;rw[eN];simp only;rw[uC]
  simp only at hs;cases s4 with
  |nil=>exact absurd rfl hs
  |cons x l=>rfl) a4))
 simp only at hs;subst hs;by_cases t1:x1≠60\/x2≠0
 ·have e:n.header id no h.r f.s=.ok n (.cL 502 60 40):=by unfold N.header;rw[fD];simp only;rw[bZ];simp only;rw[eN];simp only;rw[uC];simp only;rw[if_pos t1]
  by_cases k1:(x1:Int)=60
  ·have k2:¬(x2:Int)=0:=aa;simp only[go_sem,seval,eq_true k1,k2,decide_true,decide_false];refine aL (jW (e:=502) a4 aH aO) ?_;rintro v fY ⟨b,hv,a5⟩
   cases hv
   refine ag ?_;refine an aI ao ?_;rw[e];exact⟨A,H,b,_,by simp[up],.refl A,a5⟩
  ·simp only[go_sem,seval,k1,decide_true];refine aL (jW (e:=502) a4 aH aO) ?_;rintro v fY ⟨b,hv,a5⟩
   cases hv
   refine ag ?_;refine an aI ao ?_;rw[e];exact⟨A,H,b,_,by simp[up],.refl A,a5⟩
 have k1:(x1:Int)=60:=aa;have k2:(x2:Int)=0:=aa;simp only[go_sem,seval,eq_true k1,eq_true k2,decide_true,decide_false];by_cases t2:x3>0\/(x4:Int)>n.cfg.body
 ·have e:n.header id no h.r f.s=.ok n (.soft 311 60 40):=by unfold N.header;rw[fD];simp only;rw[bZ];simp only;rw[eN];simp only;rw[uC];simp only;rw[if_neg t1,if_pos t2]
  by_cases k3:(x3:Int)>0
  ·simp only[go_sem,seval,k3,decide_true];refine aL (xd (e:=311) a4 aH aO) ?_;rintro v fY ⟨b,hv,a5⟩
   cases hv
   refine ag ?_;refine an aI ao ?_;rw[e];exact⟨A,H,b,_,by simp[up],.refl A,a5⟩
  ·have k4:(x4:Int)>n.cfg.body:=aa;simp only[go_sem,seval,k3,k4,a4.bX hh,a4.eQ hc,a4.jX,decide_true,decide_false];refine aL (xd (e:=311) a4 aH aO) ?_;rintro v fY ⟨b,hv,a5⟩
   cases hv
   refine ag ?_;refine an aI ao ?_;rw[e];exact⟨A,H,b,_,by simp[up],.refl A,a5⟩
 have k3:¬(x3:Int)>0:=aa;have k4:¬(x4:Int)>n.cfg.body:=aa;have e:n.header id no h.r f.s=n.whole id no {h.r with want:=3,size:=x4,body:=[]}:=by unfold N.header;rw[fD];simp only;rw[bZ];simp only;rw[eN];simp only;rw[uC];simp only;rw[if_neg t1,if_neg t2]
 have GD:=a4.bX hh;simp only[go_sem,seval,k3,k4,GD,a4.eQ hc,a4.jX,decide_true,decide_false];have a5:=a4.yt hh λ_=>{h.r with want:=3,size:=(x4:Int),body:=[]};rw[Hp.set_set,Hp.set_set];generalize hZ:Hp.set fU (A.chan id no) _=fY;replace a5:=dU a5 hZ;refine dG QO (VN a5 hc hh aH aO P) ?_ (λch J hx=>aB _ _ _ _ ao ?_)
 ·intro v J hx;refine ag ?_;refine an aI ao ?_;rw[e]
  cases hw:n.whole id no {h.r with want:=3,size:=(x4:Int),body:=[]}<;>(rw[hw]at hx;exact sC hx (by simp[up]))
 ·rw[e]
  cases hw:n.whole id no {h.r with want:=3,size:=(x4:Int),body:=[]}<;>(rw[hw]at hx;exact hx)
end
section
variable {E:Env prog}{H:Hid}{n:N}{X:Ext}{U:Hp}{no:Nat}{c:CN}{h:HN}{bf:Nat}{f:FR}{r:HR}
variable {A:Lay}{id:Int}
def Ea {cl me:Nat}(aH:f.cl=(cl:Int))(aO:f.me=(me:Int))(x y:Nat):f.lI (x:Int) [(y:Int)]=decide (f.u.kind=1/\cl=x/\me=y):=by simp only[FR.lI,aH,aO,List.mem_singleton];by_cases h0:f.u.kind=1<;>by_cases h1:cl=x<;>by_cases h2:me=y<;>simp[h0,h1,h2]<;>omega
def ah7 {cl me:Nat}(aH:f.cl=(cl:Int))(aO:f.me=(me:Int))(x y z:Nat):f.lI (x:Int) [(y:Int),(z:Int)]=decide (f.u.kind=1/\cl=x/\(me=y\/me=z)):=by simp only[FR.lI,aH,aO,List.mem_cons,List.not_mem_nil,or_false];by_cases h0:f.u.kind=1<;>by_cases h1:cl=x<;>by_cases h2:me=y<;>by_cases h3:me=z<;>simp[h0,h1,h2,h3]<;>omega
structure Fz (n:N) (id:Int) (no:Nat) (c:CN) (h:HN):Prop where
 M:IL n id no c h
 P:yL n
 want:0<=h.r.want/\h.r.want<=3
 body:h.r.body.length<=500000
 rel:yF n id no h
def acL {cl me:Nat}(a:aq A H n ((bf,bP f)::X) U)(F:Fz n id no c h)(hc:n.ar id=some c)(hh:n.h? id no=some h)(aH:f.cl=(cl:Int))(aO:f.me=(me:Int))(jK:f.s.length<=500000):
 aw E 231 #[pV (A.chan id no),pV bf] U (iG A X n bf f (n.jv id no h f.u.kind f.s cl me)):=by
 refine aV func231 ntmps231 results231 λQ aD an aB=>?_;have eC:=F.M.yc;have fP:=F.M.out;have dO:=a.bX hh
 cases vU:h.r.closing with
 |true=>
  rw[vU]at dO;refine aJ dO ?_;refineλb1 iY=>?_;refine ag ?_;have o1:=a.fresh iY;generalize nB:Hp.set U b1 _=cY;have a1:aq A H n ((bf,bP f)::X) cY:=dU (o1 _) nB;have j0:cY.f b1=some (.cells (([40]:List Int).map iV++[]).toArray 3 (0,0)):=by rw[<-nB];exact Hp.bD _ _
  refine aZ (uK (ms:=[40]) (pad:=[]) a1.eK j0 al) ?_;have i1:f.lI 20 [40]=decide (f.u.kind=1/\cl=20/\me=40):=Ea aH aO 20 40;have i2:f.lI 20 [40,41]=decide (f.u.kind=1/\cl=20/\(me=40\/me=41)):=ah7 aH aO 20 40 41;by_cases m1:f.u.kind=1/\cl=20/\me=40
  ·have e:n.jv id no h f.u.kind f.s cl me=.ok ((n.send id (ck no 20 41 [])).pS id no) .nil:=by unfold N.jv;rw[vU,if_pos rfl,if_pos m1]
   rw[decide_eq_true m1]at i1;rw[decide_eq_true ⟨m1.1,m1.2.1,.inl m1.2.2⟩]at i2;refine aJ i1 ?_;refine bJ 9 ?_;refine aJ (a1.bX hh) ?_;refine aL (pQ (ch:=no) (cl:=20) (me:=41) (xs:=[]) a1 hc (.inl ⟨rfl,rfl⟩) al al aa ai ai (by simp[dg]) aa) ?_;rintro v fU ⟨hv,a5⟩
   cases hv
   have zn:(n.send id (ck no 20 41 [])).h? id no=some h:=by rw[pY];exact hh
   have lE:(n.send id (ck no 20 41 [])).ar id=some {c with r:={c.r with out:=c.r.out++ck no 20 41 [],iu:=n.clock}}:=by rw[sO,if_pos rfl,hc];rfl
   refine⟨by(repeat(first|exact jM|(apply jL;(focus decide+kernel))|(refine lK rfl (aQ (a5.bX zn)) ?_))),?_⟩;refine ag ?_;refineλb2 dA=>?_;refine ag ?_;have o2:=a5.fresh dA;generalize vS:Hp.set fU b2 _=jo;have a6:aq A H (n.send id (ck no 20 41 [])) ((bf,bP f)::X) jo:=dU (o2 _) vS;have iK:jo.f b2=some (.cells (([40,41]:List Int).map iV++[]).toArray 3 (0,0)):=by rw[<-vS];exact Hp.bD _ _
   refine aZ (uK (ms:=[40,41]) (pad:=[]) a6.eK iK al) ?_;refine aJ i2 ?_;refine aL (Jw a6 lE zn F.M.fin) ?_;rintro v fY ⟨hv,H2,a7⟩
   cases hv
   refine ag ?_;refine an aI ao ?_;rw[e];exact⟨A,H2,0,_,by simp[up,Er.v],.refl A,a7⟩
  rw[decide_eq_false m1]at i1;refine aJ i1 ?_;refineλb2 dA=>?_;refine ag ?_;have o2:=a1.fresh dA;generalize vS:Hp.set cY b2 _=jo;have a2:aq A H n ((bf,bP f)::X) jo:=dU (o2 _) vS;have iK:jo.f b2=some (.cells (([40,41]:List Int).map iV++[]).toArray 3 (0,0)):=by rw[<-vS];exact Hp.bD _ _
  refine aZ (uK (ms:=[40,41]) (pad:=[]) a2.eK iK al) ?_;by_cases m2:f.u.kind=1/\cl=20/\me=41
  ·have e:n.jv id no h f.u.kind f.s cl me=.ok (n.pS id no) .nil:=by unfold N.jv;rw[vU,if_pos rfl,if_neg m1,if_pos m2]
   rw[decide_eq_true ⟨m2.1,m2.2.1,.inr m2.2.2⟩]at i2;refine aJ i2 ?_;refine aL (Jw a2 hc hh F.rel) ?_;rintro v fY ⟨hv,H2,a7⟩
   cases hv
   refine ag ?_;refine an aI ao ?_;rw[e];exact⟨A,H2,0,_,by simp[up,Er.v],.refl A,a7⟩
  ·have e:n.jv id no h f.u.kind f.s cl me=.ok n .nil:=by unfold N.jv;rw[vU,if_pos rfl,if_neg m1,if_neg m2]
   rw[decide_eq_false (λ⟨x,y,z⟩=>z.elim (λz=>m1 ⟨x,y,z⟩) (λz=>m2 ⟨x,y,z⟩))]at i2;refine aJ i2 ?_;refine an aI ao ?_;rw[e];exact⟨A,H,0,_,by simp[up,Er.v],.refl A,a2⟩
 |false=>
  rw[vU]at dO;have hf:=a.ff;refine aJ dO ?_;refine bJ 11 ?_;refine bu dO hf ?_;refine aj2 (a:=h.r.want) (b:=1) ?_ ?_ ?_
  ·exact au
  ·exact au
  refine⟨dJ hf,?_⟩;by_cases t1:f.u.kind=max h.r.want 1
  rotate_left
  ·have e:n.jv id no h f.u.kind f.s cl me=.ok n (.cL 505 cl me):=by unfold N.jv;rw[vU,if_neg Bool.false_ne_true,if_pos t1]
   refine aJ t1 ?_;refine aL (jW (e:=505) a aH aO) ?_;rintro v fU ⟨b,hv,a4⟩
   cases hv
   refine ag ?_;refine an aI ao ?_;rw[e];exact⟨A,H,b,_,by simp[up],.refl A,a4⟩
  obtain⟨w1,w2⟩:=F.want;have RZ:f.u.kind=1\/f.u.kind=2\/f.u.kind=3:=aa;simp only[go_sem,seval,hf,eq_true t1,decide_true];rcases RZ with k1|k2|k3
  ·have e:n.jv id no h f.u.kind f.s cl me=n.method id no h f.s cl me:=by unfold N.jv;rw[vU,if_neg Bool.false_ne_true,if_neg (by simpa using t1),if_neg aa,if_neg aa]
   have n2:¬f.u.kind=2:=aa;have n3:¬f.u.kind=3:=aa;simp only[go_sem,seval,n2,n3,decide_false];refine dG adx (aka a F.M hc hh k1 aH aO aa) ?_ (λch J hx=>aB _ _ _ _ ao (by rw[e];exact hx));intro v J hx;refine ag ?_;exact an aI ao (by rw[e];exact sC hx (by simp[up]))
  ·have e:n.jv id no h f.u.kind f.s cl me=n.header id no h.r f.s:=by unfold N.jv;rw[vU,if_neg Bool.false_ne_true,if_neg (by simpa using t1),if_pos k2]
   simp only[go_sem,seval,hf,eq_true k2,decide_true];have a2:=a.vg (bP {f with cl:=60,me:=40});rw[Hp.set_set];generalize hZ:Hp.set U bf _=cV;replace a2:=dU a2 hZ;refine dG adv (afd a2 hc hh rfl rfl F.P) ?_ (λch J hx=>aB _ _ _ _ ao ?_)
   ·intro v J hx;refine ag ?_;refine an aI ao ?_;rw[e]
    cases hw:n.header id no h.r f.s<;>(rw[hw]at hx;exact sC hx (by simp[up]))
   ·rw[e]
    cases hw:n.header id no h.r f.s<;>(rw[hw]at hx;exact hx)
  ·have e:n.jv id no h f.u.kind f.s cl me=n.part id no h.r f.s:=by unfold N.jv;rw[vU,if_neg Bool.false_ne_true,if_neg (by simpa using t1),if_neg aa,if_pos k3]
   have n2:¬f.u.kind=2:=aa;simp only[go_sem,seval,hf,n2,eq_true k3,decide_true,decide_false];have a2:=a.vg (bP {f with cl:=60,me:=40});rw[Hp.set_set];generalize hZ:Hp.set U bf _=cV;replace a2:=dU a2 hZ;have hbo:=F.body;refine dG adw (ami a2 hc hh rfl rfl F.P (by show _+f.s.length<=_;omega)) ?_ (λch J hx=>aB _ _ _ _ ao ?_)
   ·intro v J hx;refine ag ?_;refine an aI ao ?_;rw[e]
    cases hw:n.part id no h.r f.s<;>(rw[hw]at hx;exact sC hx (by simp[up]))
   ·rw[e]
    cases hw:n.part id no h.r f.s<;>(rw[hw]at hx;exact hx)
def aa6 {cl me:Nat}(a:aq A H n ((bf,bP f)::X) U)(hc:n.ar id=some c)(R:Aw n id c)(aH:f.cl=(cl:Int))(aO:f.me=(me:Int))(fP:c.r.out.length<=100000000000000):
 aw E 191 #[pV (A.conn id),pV bf] U (iG A X n bf f (n.control id f.u.kind f.s cl me)):=by
 refine aV func191 ntmps191 results191 λQ aD an aB=>?_;refine ag ?_;refineλb1 iY=>?_;refine ag ?_;have o1:=a.fresh iY;generalize nB:Hp.set U b1 _=cY;have a1:aq A H n ((bf,bP f)::X) cY:=dU (o1 _) nB;have j0:cY.f b1=some (.cells (([50]:List Int).map iV++[]).toArray 3 (0,0)):=by rw[<-nB];exact Hp.bD _ _
 refine aZ (uK (ms:=[50]) (pad:=[]) a1.eK j0 al) ?_;have i1:f.lI 10 [50]=decide (f.u.kind=1/\cl=10/\me=50):=Ea aH aO 10 50;by_cases m1:f.u.kind=1/\cl=10/\me=50
 rotate_left
 ·have e:n.control id f.u.kind f.s cl me=.ok n (.cL 503 cl me):=by unfold N.control;rw[if_neg m1]
  rw[decide_eq_false m1]at i1;refine aJ i1 ?_;refine aL (jW (e:=503) a1 aH aO) ?_;rintro v fU ⟨b,hv,a4⟩
  cases hv
  refine ag ?_;refine an aI ao ?_;rw[e];exact⟨A,H,b,_,by simp[up],.refl A,a4⟩
 rw[decide_eq_true m1]at i1;refine aJ i1 ?_;refine dG QL (Ql a1) ?_ (λch J hx=>aB _ _ _ _ ao ?_)
 rotate_left
 ·rcases hx with⟨_,h,_⟩|⟨hp,h,s,a4⟩
  ·cases h
  ·cases h
   have e:n.control id f.u.kind f.s cl me=.bad cl me:=by
    unfold N.control;rw[if_pos m1];cases hq:tF f.s with
    |none=>rfl
    |some l=>cases l with
     |nil=>exact absurd hq hp
     |cons x l=>rfl
   rw[e];exact⟨H,s,rfl,by rw[<-aH,<-aO];exact a4⟩
 rintro v dp (⟨hp,hv,a4⟩|⟨_,h,_⟩)
 rotate_left
 ·cases h
 cases hv
 have e:n.control id f.u.kind f.s cl me=.ok (((n.leave id).send id (ck 0 10 51 [])).bE id λr=>{r with ph:=5}) .nil:=by unfold N.control;rw[if_pos m1,hp]
 refine ag ?_;refine aL (LR a4 hc R) ?_;rintro v fY ⟨hv,H2,a5⟩
 cases hv
 have lE:∃c1,(n.leave id).ar id=some c1/\c1.r=c.r:=by
  have e:n.leave id=(n.gZ id c.ch).dM id λc=>{c with ch:=[]}:=by unfold N.leave;rw[hc];rfl
  obtain⟨c1,cF,ec⟩:=BY (EV.trans (BW hc):(n.gZ id c.ch).rC id=some c.r);exact⟨{c1 with ch:=[]},by rw[e];simp[cF],ec⟩
 obtain⟨c1,cF,ec⟩:=lE;refine ag ?_;refine aL (pQ (ch:=0) (cl:=10) (me:=51) (xs:=[]) a5 cF (.inl ⟨rfl,rfl⟩) al al ai ai ai (by simp[dg]) (by rw[ec];omega)) ?_;rintro v yC ⟨hv,a6⟩
 cases hv
 have iA:((n.leave id).send id (ck 0 10 51 [])).ar id=some {c1 with r:={c1.r with out:=c1.r.out++ck 0 10 51 [],iu:=(n.leave id).clock}}:=by rw[sO,if_pos rfl,cF];rfl
 refine aJ (a6.eQ iA) ?_;have a7:=a6.nS iA λr=>{r with ph:=5};refine an aI ao ?_;rw[e];exact⟨A,H2,0,_,by simp[up,Er.v],.refl A,dU a7 rfl⟩
end
section
variable {E:Env prog}{H:Hid}{n:N}{X:Ext}{U:Hp}{no:Nat}{c:CN}{h:HN}{nm:List UInt8}{bf:Nat}{f:FR}{r:HR}
variable {A:Lay}{id:Int}
def alT {cl me:Nat}(a:aq A H n ((bf,bP f)::X) U)(w:Wf n)(hc:n.ar id=some c)(F:∀h,n.h? id no=some h->Fz n id no c h)(dO:f.u.channel=(no:Int))(eC:no<1000000)(aH:f.cl=(cl:Int))(aO:f.me=(me:Int))(fP:c.r.out.length<=100000000000000)(jK:f.s.length<=500000):
 aw E 192 #[pV (A.conn id),pV bf] U (iG A X n bf f (n.kY id c no f.u.kind f.s cl me)):=by
 have hf:=a.ff;rw[dO]at hf;have cS:=a.eQ hc;obtain⟨l,k,m1,m2,m3⟩:=a.chm hc;have i1:f.lI 20 [10]=decide (f.u.kind=1/\cl=20/\me=10):=Ea aH aO 20 10;by_cases t1:(no:Int)>c.r.de
 ·have e:n.kY id c no f.u.kind f.s cl me=.ok n (.cL 504 cl me):=by unfold N.kY;rw[if_pos t1]
  refine aV func192 ntmps192 results192 λQ aD an aB=>?_;refine ag ?_;refine bJ 10 ?_;simp only[go_sem,seval,cS,hf,t1,decide_true];refine aL (jW (e:=504) a aH aO) ?_;rintro v fU ⟨b,hv,a4⟩
  cases hv
  refine ag ?_;refine an aI ao ?_;rw[e];exact⟨A,H,b,_,by simp[up],.refl A,a4⟩
 cases hg:bq c.ch no with
 |some h=>
  have hh:n.h? id no=some h:=by unfold N.h?;rw[hc];exact hg
  have e:n.kY id c no f.u.kind f.s cl me=n.jv id no h f.u.kind f.s cl me:=by unfold N.kY;rw[if_neg t1,hg]
  obtain⟨st,bw⟩:=so m2 m3 (List.mem_map_of_mem (f:=λe:Nat×HN=>((e.1:Int),pV (A.chan id e.1))) (jb hg));have dt:((du l (no:Int)).map (·.2.1)).getD (.pointer none)=pV (A.chan id no):=by rw[bw];rfl
  refine aV func192 ntmps192 results192 λQ aD an aB=>?_;refine ag ?_;refine bJ 10 ?_;simp only[go_sem,seval,cS,hf,t1,decide_false];refine bJ 11 ?_;refine bu cS hf ?_;refine j9 (b:=H.chm id) (k:=(no:Int)) (l:=l) (c:=k) uP (z:=.pointer none) ah ?_ m1 ?_ ?_
  ·exact au
  ·exact au
  refine⟨jf hf cS,?_⟩;simp only[go_sem,seval,dt,Bool.false_eq_true];refine dG adu (acL a (F h hh) hc hh aH aO jK) ?_ (λch J hx=>aB _ _ _ _ ao (by rw[e];exact hx));intro v J hx;refine ag ?_;exact an aI ao (by rw[e];exact sC hx (by simp[up]))
 |none=>
 have DN:∀e∈(c.ch.map λe=>((e.1:Int),pV (A.chan id e.1))),e.1≠(no:Int):=λe he=>by obtain⟨y,hy,rfl⟩:=List.mem_map.1 he;have:=jc hg y hy;show(y.1:Int)≠no;omega
 have hl:du l (no:Int)=none:=map_none m3 DN;by_cases k1:f.u.kind=1/\cl=20/\me=10
 ·rw[decide_eq_true k1]at i1;by_cases ht:∃s0,jE f.s=some (s0,[])
  ·obtain⟨s0,ht⟩:=ht
   have e:n.kY id c no f.u.kind f.s cl me=.ok ((n.dM id λc=>{c with ch:=cZ lM c.ch no ⟨gN,[],[]⟩}).send id (ck no 20 11 [.long 0])) .nil:=by unfold N.kY;rw[if_neg t1,hg];simp only;rw[if_pos k1,ht]
   refine(alS a.gw (a.conn hc) m1 m2.uniq a.eK dO eC aa hl i1 ht fP).mono ?_;rintro e' J ⟨rfl,un,co,hb,u1,u2,u3,n1,n2,n3,rfl⟩;rw[e];have a1:=a.vg (bP {f with s:=[]})
   have fresh:∀{x},U.f x=none->(U.set bf (bP {f with s:=[]})).f x=none:=λ{x} hx=>by rw[Hp.ay (bl hx a.eK)];exact hx
   obtain⟨d1,d2⟩:=Ez m2 m3 DN (pV hb)
   have GQ:(c.ch.map λe=>((e.1:Int),pV ((A.setChan id no hb un co).chan id e.1)))=c.ch.map λe=>((e.1:Int),pV (A.chan id e.1)):=List.map_congr_left λe he=>by have:¬e.1=no:=jc hg e he;simp[Lay.setChan,this]
   have iY:(A.setChan id no hb un co).chan id no=hb:=by simp[Lay.setChan]
   have a2:=a1.akx w hc hg (hb:=hb) (ub:=un) (cb:=co) (fresh u1) (fresh u2) (fresh u3) (λe=>n1 e.symm) n2 n3 (o:=aU aW (jB l (no:Int) (pV hb) k) (jN l (no:Int) k)) ⟨_,_,rfl,d1,by
    refine d2.trans (List.Perm.symm ?_)
    refine((vA (lt:=lM) c.ch no ⟨gN,[],[]⟩).map _).trans ?_
    simp only[List.map_cons,iY,GQ]
    exact List.Perm.refl _⟩
   have dV:(n.dM id λc=>{c with ch:=cZ lM c.ch no ⟨gN,[],[]⟩}).ar id=some {c with ch:=cZ lM c.ch no ⟨gN,[],[]⟩}:=by simp[hc]
   have a3:=a2.nS dV λr=>{r with out:=r.out++ck no 20 11 [.long 0],iu:=n.clock};exact⟨A.setChan id no hb un co,H,0,_,rfl,⟨rfl,rfl,rfl⟩,a3⟩
  ·have e:n.kY id c no f.u.kind f.s cl me=.bad cl me:=by
    unfold N.kY;rw[if_neg t1,hg];simp only;rw[if_pos k1]
    cases hp:jE f.s with
    |none=>rfl
    |some p=>
     obtain⟨x,y⟩:=p
     cases y with
     |nil=>exact absurd ⟨x,hp⟩ ht
     |cons z y=>rfl
   have dt:((du l (no:Int)).map (·.2.1)).getD (.pointer none)=.pointer none:=by rw[hl];rfl
   refine aV func192 ntmps192 results192 λQ aD an aB=>?_;refine ag ?_;refine bJ 10 ?_;simp only[go_sem,seval,cS,hf,t1,decide_false];refine bJ 11 ?_;refine bu cS hf ?_;refine j9 (b:=H.chm id) (k:=(no:Int)) (l:=l) (c:=k) uP (z:=.pointer none) ah ?_ m1 ?_ ?_
   ·exact au
   ·exact au
   refine⟨jf hf cS,?_⟩;simp only[go_sem,seval,dt,Bool.false_eq_true];refineλb1 iY=>?_;refine ag ?_;have o1:=a.fresh iY;generalize nB:Hp.set U b1 _=cY;have a1:aq A H n ((bf,bP f)::X) cY:=dU (o1 _) nB;have j0:cY.f b1=some (.cells (([10]:List Int).map iV++[]).toArray 3 (0,0)):=by rw[<-nB];exact Hp.bD _ _
   refine aZ (uK (ms:=[10]) (pad:=[]) a1.eK j0 al) ?_;refine aJ i1 ?_;refine iU sU a1 (tK a1.ff rfl) (λnm rest J hr a2=>?_) (λhr s J a2=>aB _ _ _ _ ao (by rw[e];exact⟨H,s,rfl,by rw[<-aH,<-aO];exact a2⟩));refine ag ?_;refine qE a2 (λhs=>?_) (λhs=>aB _ _ _ _ ao (by rw[e];exact⟨H,rest,rfl,by rw[<-aH,<-aO];exact a2⟩));simp only at hs;subst hs;exact absurd ⟨nm,hr⟩ ht
 ·have e:n.kY id c no f.u.kind f.s cl me=.ok n (.cL 504 cl me):=by unfold N.kY;rw[if_neg t1,hg];simp only;rw[if_neg k1]
  rw[decide_eq_false k1]at i1;have dt:((du l (no:Int)).map (·.2.1)).getD (.pointer none)=.pointer none:=by rw[hl];rfl
  refine aV func192 ntmps192 results192 λQ aD an aB=>?_;refine ag ?_;refine bJ 10 ?_;simp only[go_sem,seval,cS,hf,t1,decide_false];refine bJ 11 ?_;refine bu cS hf ?_;refine j9 (b:=H.chm id) (k:=(no:Int)) (l:=l) (c:=k) uP (z:=.pointer none) ah ?_ m1 ?_ ?_
  ·exact au
  ·exact au
  refine⟨jf hf cS,?_⟩;simp only[go_sem,seval,dt,Bool.false_eq_true];refineλb1 iY=>?_;refine ag ?_;have o1:=a.fresh iY;generalize nB:Hp.set U b1 _=cY;have a1:aq A H n ((bf,bP f)::X) cY:=dU (o1 _) nB;have j0:cY.f b1=some (.cells (([10]:List Int).map iV++[]).toArray 3 (0,0)):=by rw[<-nB];exact Hp.bD _ _
  refine aZ (uK (ms:=[10]) (pad:=[]) a1.eK j0 al) ?_;refine aJ i1 ?_;refine aL (jW (e:=504) a1 aH aO) ?_;rintro v fU ⟨b,hv,a4⟩
  cases hv
  refine ag ?_;refine an aI ao ?_;rw[e];exact⟨A,H,b,_,by simp[up],.refl A,a4⟩
end
section
variable {E:Env prog}{H:Hid}{n:N}{X:Ext}{U:Hp}{c:CN}{h:HN}{nm:List UInt8}{bf:Nat}{f:FR}{r:HR}
variable {A:Lay}{id:Int}
def Yl {cl me:Nat}(a:aq A H n ((bf,bP f)::X) U)(hc:n.ar id=some c)(qh:c.r.ph=1\/c.r.ph=2)(aH:f.cl=(cl:Int))(aO:f.me=(me:Int))(fP:c.r.out.length<=100000000000000):
 aw E 190 #[pV (A.conn id),pV bf] U (iG A X n bf f (n.begin id c f.u.channel f.u.kind f.s cl me)):=by
 refine aV func190 ntmps190 results190 λQ aD an aB=>?_;refine ag ?_;refineλm hm=>?_;have nm:∀{x o},U.f x=some o->¬x=m:=λh e=>by subst e;rw[hm]at h;cases h
 refine ag ?_;refine SN (b:=m) (k:=1) (l:=[]) (c:=0) (w:=iV 31) (l':=[(1,iV 31,0)]) (c':=1) LG (by simp[jT]) ?_ aX ?_ ?_ rfl rfl ?_
 ·exact au
 ·exact au
 ·exact au
 intro fM si;have pf:fM.f m=some (aU aW [(1,iV 31,0)] 1):=by rw[si];exact Hp.bD _ _
 refine ag ?_;refine SN (b:=m) (k:=2) (l:=[(1,iV 31,0)]) (c:=1) (w:=iV 40) (l':=[(1,iV 31,0),(2,iV 40,1)]) (c':=2) LG (by simp[jT]) ?_ pf ?_ ?_ rfl rfl ?_
 ·exact au
 ·exact au
 ·exact au
 intro J eO;have ur:J.f m=some (aU aW [(1,iV 31,0),(2,iV 40,1)] 2):=by rw[eO];exact Hp.bD _ _
 have hle:U.le J:=λx y h=>by rw[eO,Hp.ay (nm h),si,Hp.ay (nm h),Hp.ay (nm h)];exact h
 clear eO si pf;have a1:=a.le hle;have cF:=a1.eQ hc;refine aJ cF ?_;refine j9 (b:=m) (k:=c.r.ph) (l:=[(1,iV 31,0),(2,iV 40,1)]) (c:=2) LG (z:=iV 0) ah ?_ ur ?_ ?_
 ·exact au
 ·exact au
 obtain⟨W,hW⟩:∃W:Nat,W=if c.r.ph=1 then 31 else 40:=⟨_,rfl⟩
 have dt:((du [((1:Int),iV 31,0),(2,iV 40,1)] c.r.ph).map (·.2.1)).getD (iV 0)=iV W:=by rcases qh with h|h<;>(rw[hW,h];rfl)
 simp only[go_sem,seval,dt,Bool.false_eq_true];refineλbm dI=>?_;refine ag ?_;have o1:=a1.fresh dI;generalize nB:Hp.set J bm _=cY;have a2:aq A H n ((bf,bP f)::X) cY:=dU (o1 _) nB;have j0:cY.f bm=some (.cells (([(W:Int)]:List Int).map iV++[]).toArray 3 (0,0)):=by rw[<-nB];exact Hp.bD _ _
 refine aZ (uK (ms:=[(W:Int)]) (pad:=[]) a2.eK j0 al) ?_;have i1:f.lI 10 [(W:Int)]=decide (f.u.kind=1/\cl=10/\me=W):=Ea aH aO 10 W;by_cases k1:f.u.kind=1/\cl=10/\me=W
 rotate_left
 ·have e:n.begin id c f.u.channel f.u.kind f.s cl me=.ok n (.cL 503 cl me):=by unfold N.begin;rw[<-hW,if_pos (.inl k1)]
  rw[decide_eq_false k1]at i1;refine aJ i1 ?_;refine aL (jW (e:=503) (a2) aH aO) ?_;rintro v vu ⟨b,hv,a9⟩
  cases hv
  refine ag ?_;refine an aI ao ?_;rw[e];exact⟨A,H,b,_,by simp[up],.refl A,a9⟩
 rw[decide_eq_true k1]at i1;have RP:=a2.ff;by_cases k2:f.u.channel=0
 rotate_left
 ·have e:n.begin id c f.u.channel f.u.kind f.s cl me=.ok n (.cL 503 cl me):=by unfold N.begin;rw[if_pos (.inr k2)]
  refine bN i1 RP k2 ?_;refine aL (jW (e:=503) (a2) aH aO) ?_;rintro v vu ⟨b,hv,a9⟩
  cases hv
  refine ag ?_;refine an aI ao ?_;rw[e];exact⟨A,H,b,_,by simp[up],.refl A,a9⟩
 have kn:¬(¬(f.u.kind=1/\cl=10/\me=(if c.r.ph=1 then 31 else 40))\/f.u.channel≠0):=by rw[<-hW];exactλh=>h.elim (λh=>h k1) (λh=>h k2)
 have dV:=a2.eQ hc;simp only[go_sem,seval,i1,RP,eq_true k2,decide_true,dV]
 have bad:∀{s:List UInt8} {J:Hp},n.begin id c f.u.channel f.u.kind f.s cl me=.bad cl me->aq A H n ((bf,bP {f with s:=s})::X) J->iG A X n bf f (n.begin id c f.u.channel f.u.kind f.s cl me) (.panicked lX) J:=by intro s J e a1;rw[e];exact⟨H,s,rfl,by rw[<-aH,<-aO];exact a1⟩
 by_cases p2:c.r.ph=2
 ·simp only[go_sem,seval,eq_true p2,decide_true];refine iU sU a2 (tK a2.ff rfl) (λtx rest J hr a3=>?_) (λhr s J a3=>aB _ _ _ _ ao (bad (by unfold N.begin;rw[if_neg kn,if_pos p2,hr]) a3));refine ag ?_
  refine qE a3 (λhs=>?_) (λhs=>aB _ _ _ _ ao (bad (s:=rest) (by
   unfold N.begin;rw[if_neg kn,if_pos p2,hr]
   simp only at hs;cases rest with
   |nil=>exact absurd rfl hs
   |cons x l=>rfl) a3))
  simp only at hs;subst hs;have e:n.begin id c f.u.channel f.u.kind f.s cl me=.ok ((n.bE id λr=>{r with ph:=3}).send id (ck 0 10 41 [.text []])) .nil:=by unfold N.begin;rw[if_neg kn,if_pos p2,hr]
  refine aJ (a3.eQ hc) ?_;have a4:=a3.nS hc λr=>{r with ph:=3};generalize hZ:Hp.set J (A.conn id) _=cV;replace a4:=dU a4 hZ;have hc4:(n.bE id λr=>{r with ph:=3}).ar id=some {c with r:={c.r with ph:=3}}:=by simp[hc]
  refineλba ij=>?_;have a5:=λo=>a4.fresh ij o;refine ag ?_;refine aL (pQ (ch:=0) (cl:=10) (me:=41) (xs:=[.text []]) (a5 _) hc4 (.inr ⟨ba,rfl,aX⟩) (by simp[lr]) al ai ai ai ai (by show c.r.out.length<=_;omega)) ?_;rintro v yC ⟨hv,a6⟩
  cases hv
  refine ag ?_;refine an aI ao ?_;rw[e];exact⟨A,H,0,_,by simp[up,Er.v],.refl A,a6⟩
 simp only[go_sem,seval,p2,decide_false];refine yy [0,1,2,4,5,6,8,9,10,3,7,11,12,13,14] (λch ds U=>ds=[]/\(iG A X n bf f (n.begin id c f.u.channel f.u.kind f.s cl me)) (.panicked ch) U) ah jU (λch I ds U h=>by obtain⟨rfl,h⟩:=h;exact aB _ _ _ _ ao h) ?_;refine ag ?_;refine iU og a2 (oG (w:=2) a2.ff rfl ai) (λx1 s1 dp fD a3=>?_) (λfD s J a3=>⟨rfl,bad (by unfold N.begin;rw[if_neg kn,if_neg p2,fD]) a3⟩);refine gp ?_;refine ag ?_;refine iU og a3 (oG (w:=4) a3.ff rfl ai) (λx2 s2 fU bZ a4=>?_) (λbZ s J a4=>⟨rfl,bad (by unfold N.begin;rw[if_neg kn,if_neg p2,fD];simp only at bZ|-;rw[bZ]) a4⟩);simp only at bZ;refine gp ?_;refine ag ?_;refine iU og a4 (oG (w:=2) a4.ff rfl ai) (λx3 s3 fY eN a5=>?_) (λeN s J a5=>⟨rfl,bad (by unfold N.begin;rw[if_neg kn,if_neg p2,fD];simp only at eN|-;rw[bZ];simp only;rw[eN]) a5⟩);simp only at eN;refine gp ?_;refine ag ?_
 refine qE a5 (λhs=>?_) (λhs=>aB _ _ _ _ ao (bad (s:=s3) (by
  unfold N.begin;rw[if_neg kn,if_neg p2,fD];simp only;rw[bZ];simp only;rw[eN]
  simp only at hs;cases s3 with
  |nil=>exact absurd rfl hs
  |cons x l=>rfl) a5))
 simp only at hs;subst hs;refine bu (a5.eQ hc) a5.jX ?_;refineλba ij=>?_;refine ag ?_;rw[Hp.set_set];have a6:=λo=>a5.fresh ij o;have mE:=λo=>(a6 o).eQ hc
 have e0:n.begin id c f.u.channel f.u.kind f.s cl me=if x1<1\/(x1:Int)>n.cfg.jr\/x2<64\/(x2:Int)>n.cfg.frame\/(x3:Int)>n.cfg.gG then .ok n (.cL 530 cl me)
  else .ok (n.bE id λr=>{r with de:=x1,frame:=x2,gG:=x3,ph:=2}) .nil:=by
  unfold N.begin;rw[if_neg kn,if_neg p2,fD];simp only;rw[bZ];simp only;rw[eN]
 by_cases d1:(x1:Int)<1
 ·have e:=e0.trans (if_pos (.inl aa));simp only[go_sem,seval,d1,decide_true];refine aL (jW (f:={f with s:=[]}) (e:=530) (a6 _) aH aO) ?_;rintro v vu ⟨b,hv,a9⟩
  cases hv
  refine ag ?_;refine an aI ao ?_;rw[e];exact⟨A,H,b,_,by simp[up],.refl A,a9⟩
 by_cases d2:(x1:Int)>n.cfg.jr
 ·have e:=e0.trans (if_pos (.inr (.inl d2)));simp only[go_sem,seval,d1,d2,decide_true,decide_false];refine aL (jW (f:={f with s:=[]}) (e:=530) (a6 _) aH aO) ?_;rintro v vu ⟨b,hv,a9⟩
  cases hv
  refine ag ?_;refine an aI ao ?_;rw[e];exact⟨A,H,b,_,by simp[up],.refl A,a9⟩
 by_cases d3:(x2:Int)<64
 ·have e:=e0.trans (if_pos (.inr (.inr (.inl aa))));simp only[go_sem,seval,d1,d2,d3,decide_true,decide_false];refine aL (jW (f:={f with s:=[]}) (e:=530) (a6 _) aH aO) ?_;rintro v vu ⟨b,hv,a9⟩
  cases hv
  refine ag ?_;refine an aI ao ?_;rw[e];exact⟨A,H,b,_,by simp[up],.refl A,a9⟩
 by_cases d4:(x2:Int)>n.cfg.frame
 ·have e:=e0.trans (if_pos (.inr (.inr (.inr (.inl d4)))));simp only[go_sem,seval,d1,d2,d3,d4,decide_true,decide_false];refine aL (jW (f:={f with s:=[]}) (e:=530) (a6 _) aH aO) ?_;rintro v vu ⟨b,hv,a9⟩
  cases hv
  refine ag ?_;refine an aI ao ?_;rw[e];exact⟨A,H,b,_,by simp[up],.refl A,a9⟩
 by_cases d5:(x3:Int)>n.cfg.gG
 ·have e:=e0.trans (if_pos (.inr (.inr (.inr (.inr d5)))));simp only[go_sem,seval,d1,d2,d3,d4,d5,decide_true,decide_false];refine aL (jW (f:={f with s:=[]}) (e:=530) (a6 _) aH aO) ?_;rintro v vu ⟨b,hv,a9⟩
  cases hv
  refine ag ?_;refine an aI ao ?_;rw[e];exact⟨A,H,b,_,by simp[up],.refl A,a9⟩
 have e:=e0.trans (if_neg aa);simp only[go_sem,seval,d1,d2,d3,d4,d5,decide_true,decide_false,mE];have a7:=λo=>(a6 o).nS hc λr=>{r with de:=(x1:Int),frame:=(x2:Int),gG:=(x3:Int),ph:=2};refine an aI ao ?_;rw[e];exact⟨A,H,0,_,by simp[up,Er.v],.refl A,dU (a7 _) (by first|rfl|(simp only[Hp.set_set];rfl))⟩
end
section
variable {H:Hid}{n:N}{X:Ext}{U:Hp}{h:HN}{r:HR}
variable {A:Lay}
def aq.Aa (a:aq A H n X U){Y:Ext}(g:Nat->Nat)(hg:∀i,i<Y.length->Y[i]? =X[g i]?)(hi:∀i j,i<Y.length->j<Y.length->g i=g j->i=j):aq A H n Y U:=by
 have key:∀r,(view n A H Y r).isSome->∃r',view n A H Y r=view n A H X r'/\cG A H Y r=cG A H X r'/\((r'=r/\∀i,r≠.ext i)\/∃i,i<Y.length/\r=.ext i/\r'=.ext (g i)):=by
  intro r hr;by_cases he:∃i,r=.ext i
  ·obtain⟨i,rfl⟩:=he
   have hl:i<Y.length:=by
    by_cases h:i<Y.length
    ·exact h
    ·simp[view,List.getElem?_eq_none (Nat.le_of_not_lt h)]at hr
   exact⟨.ext (g i),by simp only[view,hg i hl],by simp only[cG,hg i hl],.inr ⟨i,hl,rfl,rfl⟩⟩
  ·refine⟨r,?_,?_,.inl ⟨rfl,λi e=>he ⟨i,e⟩⟩⟩<;>cases r<;>first|rfl|exact absurd ⟨_,rfl⟩ he
 refine⟨λr v hv=>?_,λr s hr hs e=>?_⟩
 ·obtain⟨r',h1,h2,_⟩:=key r (by rw[hv];rfl);rw[h2];exact a.has r' v (by rw[<-h1];exact hv)
 ·obtain⟨r',h1,h2,h3⟩:=key r hr;obtain⟨s',g1,g2,g3⟩:=key s hs;have h:=a.inj r' s' (by rw[<-h1];exact hr) (by rw[<-g1];exact hs) (by rw[<-h2,<-g2];exact e);rcases h3 with⟨e1,f1⟩|⟨i,l1,e1,gI⟩<;>rcases g3 with⟨e2,f2⟩|⟨j,l2,e2,P3⟩
  ·rw[<-e1,<-e2,h]
  ·exact absurd (by rw[<-e1,h,P3]) (f1 (g j))
  ·exact absurd (by rw[<-e2,<-h,gI]) (f2 (g i))
  ·rw[gI,P3]at h;rw[e1,e2,hi i j l1 l2 (by injection h)]
end
variable {U:Hp}{P:Program}{main:Bool}{cs:List Frame}{fr:Frame}
def apL{df:FuncId}{caps:Array Value}{ds:List Deferred}{chain:List PanicEntry}(hm:fr.mode=.panicking chain)(hd:fr.defers=gH df caps::ds)(hg:cz P df=true):
 ic P main (G fr cs) U λg ae=>ae=U/\g=G (Frame.enter P df caps .deferred) ({fr with defers:=ds}::cs):=by
 intro auu w cT
 have h:wpS P (invoke (gH df caps).target (gH df caps).args) (λn ae=>n=.enter df caps/\ae=U) (λ_ _=>False) U:=by simp only[gH,invoke];refine Ir hg ?_;simp
 obtain⟨w',ae,bY,e1,iK,eu,gA,hr⟩:=oM _ w U #[] h cT;rcases hr with⟨nx,hn,rfl,rfl⟩|⟨hh,hn,hq⟩
 ·have gI:((invoke (gH df caps).target (gH df caps).args).runT P w #[]).2=bY:=by simpa using e1
  have e2:(invoke (gH df caps).target (gH df caps).args).runT P w #[]=(_,bY):=Prod.ext hn gI;have iL:∀fn,∀e∈seen P fn bY,iF auu w'.heap.size e:=λfn e he=>gA e (mem_seen he);have mI:((gH df caps).target matches .nil)=false:=rfl
  have step:stepG P main (G fr cs) w=callDeferred P {fr with defers:=ds} cs none (gH df caps) w:=by simp only[G,stepG,hm,unwind,hd];rfl
  rw[step];unfold callDeferred;simp only[mI];generalize invoke (gH df caps).target (gH df caps).args=s at e2|-;simp only[e2,GStep.after];exact⟨_,iK,eu,λe he=>iL _ e (aY he),rfl,rfl,rfl⟩
 ·exact hq.elim
variable {b:Frame}{a:Act}{k:List Item}{c:Frame}{v:Value}
def apJ{ops:Array Oper}{i:Nat}{rest:List Nat}{dst:Option Tmp}{cA:Array TypeId}{ty:TypeId}{pos:String}{af:Array Edge}{gd:Option (Nat×Bool)}(ho:ops[i]? =some ⟨dst,.call ⟨.builtin .recover,#[],cA⟩,ty,pos,af,gd⟩)(hw:Region.wanted ⟨dst,.call ⟨.builtin .recover,#[],cA⟩,ty,pos,af,gd⟩ (yielded ops a.tmps)=true)(hb:b.kind=.deferred)(hc:c.mode=.panicking [{v:=v,recovered:=false}]):
 ic P main (G (b.at a (.inRegion ops (i::rest)::k)) (c::cs)) U λg ae=>ae=U/\g=G (b.at (a.put dst v) (.inRegion ops rest::k)) ({c with mode:=.panicking [{v:=v,recovered:=true}]}::cs):=by
 intro auu w hs
 have h:wpS P (execOp a.eval ⟨dst,.call ⟨.builtin .recover,#[],cA⟩,ty,pos,af,gd⟩) (λn ae=>n=.recover/\ae=U) (λ_ _=>False) U:=by simp only[execOp,resolve,aG,bt,invoke];exact⟨rfl,rfl⟩
 obtain⟨w',ae,bY,e1,cT,eu,gA,hr⟩:=oM _ w U #[] h hs;have gI:((execOp a.eval ⟨dst,.call ⟨.builtin .recover,#[],cA⟩,ty,pos,af,gd⟩).runT P w #[]).2=bY:=by simpa using e1
 rw[stepG_oper ho hw];have iL:∀fn,∀e∈seen P fn bY,iF auu w'.heap.size e:=λfn e he=>gA e (mem_seen he);have fG:(b.at a (.inRegion ops (i::rest)::k)).finish v=b.at (a.put dst v) (.inRegion ops rest::k):=by rw[Frame.finish_at,ho];rfl
 have Ll:tryRecover (b.at a (.inRegion ops (i::rest)::k)) (c::cs)=some (v,{c with mode:=.panicking [{v:=v,recovered:=true}]}::cs):=by unfold tryRecover;simp only[Frame.at,hb,hc]
 rcases hr with⟨nx,hn,hq,rfl⟩|⟨hh,hn,hq⟩
 ·subst hq;have e2:(execOp a.eval ⟨dst,.call ⟨.builtin .recover,#[],cA⟩,ty,pos,af,gd⟩).runT P w #[]=(_,bY):=Prod.ext hn gI;generalize execOp a.eval _=s at e2|-;unfold stepG.apply;have Lc:(b.at a (.inRegion ops (i::rest)::k)).roundOf=none:=rfl;simp only[if_true,e2,Lc,Ll,GStep.after,fG];refine⟨_,cT,eu,λe he=>?_,rfl,rfl,rfl⟩;split at he
  ·simp[seen]at he
  ·simp only[Array.append_empty]at he;exact iL _ e he
 ·exact hq.elim
variable {fn:Func}
def apE(hm:fr.mode=.returning)(hd:fr.defers=[])(hk:fr.kind=.deferred)(hc:c.mode=.panicking [{v:=v,recovered:=true}])(hf:P.funcs[fr.fn]? =some fn)(hr:fn.results= #[]):
 ic P main (G fr (c::cs)) U λg ae=>ae=U/\g=G {c with mode:=.returning} cs:=by
 intro auu w hs
 have eE:∀tmps,wpS P (results fn tmps) (λv' ae=>v'=.tuple #[]/\ae=U) (λ_ _=>False) U:=by intro tmps;simp[results,hr,bt]
 obtain⟨w',ae,bY,e1,cT,eu,gA,D3⟩:=oM (results fn fr.tmps) w U #[] (eE _) hs;rcases D3 with⟨v',hn,rfl,rfl⟩|⟨_,_,hq⟩
 ·have gI:((results fn fr.tmps).runT P w #[]).2=bY:=by simpa using e1
  have e2:(results fn fr.tmps).runT P w #[]=(.ok (.tuple #[]) w',bY):=Prod.ext hn gI
  have:stepG P main (G fr (c::cs)) w=.go (G {c with mode:=.returning} cs) w' (seen P fr.fn bY):=by simp[G,stepG,hm,unwind,hd,hf,-Sem.runT_eq,e2,doReturn,hk,GStep.after,hc]
  rw[this];exact⟨_,cT,eu,λe he=>gA e (mem_seen he),rfl,rfl,rfl⟩
 ·exact hq.elim
variable {E:Env prog}{f:FR}
def abu{b3 b4 bf:Nat}{v0:Value}{S:Nat->Hp->Prop}(hc:c.mode=.panicking lX)(h3:U.f b3=some (.cells [pV bf].toArray 291 (0,0)))(h4:U.f b4=some (.cells [v0].toArray 45 (0,0)))(adV:∀J,U.le J->aw E 189 #[pV bf,iV 502] J λe bW=>∃v,e=.returned (.iface 214 (pV v))/\bW.f b4=some (.cells [v0].toArray 45 (0,0))/\S v (bW.set b4 (.cells [.iface 214 (pV v)].toArray 45 (0,0)))):
 ax E (G (Frame.enter prog 188 #[pV b3,pV b4] .deferred) (c::cs)) U λg J=>g=G {c with mode:=.returning} cs/\∃v,S v J:=by
 have pd:Frame.enter prog 188 #[pV b3,pV b4] .deferred=AH.at {tmps:=#[pV b3,pV b4]++Array.replicate 11 undef,defers:=[]} [.code tO]:=by simp[Frame.enter,Frame.at,func188,AH,f188,tO]
 rw[pd,NM];have ha:=sL #[pV b3,pV b4] 13 al;refine ax.ctl (λw=>stepG_seq) rfl rfl ?_;refine ax.ctl (λw=>stepG_region) rfl rfl ?_;have hr:List.range ET.size=[0]:=ah;rw[hr];obtain⟨ps,af,ho⟩:=Uz;refine ax.step rfl (apJ ho rfl rfl hc) ?_;rintro g J ⟨rfl,rfl⟩;have dk:cM 13 _ _ []:=ha.put (dst:=some 5) ai (.iface 325 (.agg #[]));refine ax.ctl (λw=>stepG_region_end) rfl rfl ?_;refine(nR (E:=E) (N:=13) (X:=λI ds bW=>ds=[]/\∃v,S v bW) ?_ (by simp[AH]) dk).bind ?_
 ·simp only[Lu,tO,f188,Option.getD_some,aP,dP];simp only[go_sem,seval,aC,up];refineλb hb=>?_;have g3:∀o,(J.set b o).f b3=_:=λo=>(Hp.ay (bl h3 hb)).trans h3;simp only[go_sem,seval,aC,up,g3,Hp.set_set];refine aL (adV _ (by rw[Hp.set_set];exact kK hb)) ?_;rintro w cV ⟨v,hv,sY,hS⟩
  cases hv
  simp only[go_sem,seval,aC,up,sY];exact⟨rfl,v,hS⟩
 rintro g bW ⟨mw,jo,a2,gK,⟨rfl,v,hS⟩,rfl⟩;refine ax.ctl (λw=>stepG_end) rfl rfl ?_;refine ax.step rfl (apE (fn:=f188) rfl gK.defers rfl rfl func188 ah) ?_;rintro g nZ ⟨rfl,rfl⟩;exact ax.here ⟨rfl,v,hS⟩
variable {c:CN}
def abq(E:Env prog)(fn:Func)(R:Fin->Hp->Prop):Post
 | .normal,I,ds,U| .ret,I,ds,U=>∃b3 b4 v J,J.le U/\ds=[gH 188 #[pV b3,pV b4]]/\FH prog fn I J v/\R (.returned v) J
 | .panic ch,I,ds,U=>ch=lX/\∃b3 b4,ds=[gH 188 #[pV b3,pV b4]]/\∀(c:Frame) (cs:List Frame),c.mode=.panicking lX->
  ax E (G (Frame.enter prog 188 #[pV b3,pV b4] .deferred) (c::cs)) U λg J=>g=G {c with mode:=.returning} cs/\∃v,FH prog fn I J v/\R (.returned v) J
 |_,_,_,_=>False
variable {f:FuncId}{c:Code}{args:Array Value}{R:Fin->Hp->Prop}
def Z0(hf:prog.funcs[f]? =some fn)(hb:fn.body=some c)(hn:args.size<=fn.ntmps)(h:cO E fn.ntmps c (abq E fn R) (nV args fn.ntmps) [] U):aw E f args U R:=by
 intro cs
 let b:Frame:={(default:Frame)with fn:=f,kind:=.normal}
 have pd:Frame.enter prog f args .normal=b.at {tmps:=args++Array.replicate (fn.ntmps-args.size) undef,defers:=[]} [.code c]:=by simp[Frame.enter,Frame.at,hf,hb,b]
 rw[pd]
 have fin:∀(I:av) (ds:List Deferred) (ae:Hp) (a:Act) (todo:List Item),cM fn.ntmps a I ds->(∃b3 b4 v J,J.le ae/\ds=[gH 188 #[pV b3,pV b4]]/\FH prog fn I J v/\R (.returned v) J)->
  ax E (G {b.at a todo with mode:=.returning} cs) ae λg ae=>∃e fr,g=G fr cs/\fr.fn=f/\Leaving prog fr ae e/\R e ae:=by
  rintro I ds ae a todo ha ⟨b3,b4,v,J,hle,nD,hv,hR⟩;refine ax.iR (J:=J) ?_ hle
  have hd:({b.at a todo with mode:=.returning}:Frame).defers=gH 188 #[pV b3,pV b4]::[]:=by have:=ha.defers;simp only[Frame.at];rw[this,nD]
  refine ax.step rfl (apK rfl hd QK) ?_;rintro g bW ⟨rfl,rfl⟩;refine(abt rfl).bind ?_;rintro g nZ ⟨rfl,rfl⟩;refine ax.here ⟨.returned v,_,rfl,rfl,⟨rfl,rfl,rfl,fn,hf,?_⟩,hR⟩;have:=wZ (fn:=fn) ha;simp only[Frame.at];rw[this];exact hv
 refine(Iq c _ _ _ _ h b [] cs _ (by simp[b]) (sL args fn.ntmps hn)).bind (Comes.mono ?_ ?_ ?_ ?_)
 ·intro I ds ae a ha hq;exact ax.ctl (λw=>stepG_end) rfl rfl (fin I ds ae a [] ha hq)
 ·exactλid I ds ae a ra _ hq=>hq.elim
 ·exactλI ds ae a todo ha hq=>fin I ds ae a todo ha hq
 ·rintro ch I ds ae a todo ha ⟨rfl,b3,b4,nD,kH⟩
  have hd:({b.at a todo with mode:=.panicking lX}:Frame).defers=gH 188 #[pV b3,pV b4]::[]:=by have:=ha.defers;simp only[Frame.at];rw[this,nD]
  refine ax.step rfl (apL (chain:=lX) rfl hd QK) ?_;rintro g bW ⟨rfl,rfl⟩;refine(kH _ cs rfl).bind ?_;rintro g nZ ⟨rfl,v,hv,hR⟩;refine ax.here ⟨.returned v,_,rfl,rfl,⟨rfl,rfl,rfl,fn,hf,?_⟩,hR⟩;have:=wZ (fn:=fn) ha;simp only[Frame.at];rw[this];exact hv
def Z1{n:Nat}{rs:Array ResultVar}(hf:prog.funcs[f]? =some fn)(hn:fn.ntmps=n)(hr:fn.results=rs)(hb:fn.body=some c)(hs:args.size<=fn.ntmps)(h:∀Q:Post,(∀I U J v b3 b4,lW prog rs I J v->J.le U->R (.returned v) J->Q .ret I [gH 188 #[pV b3,pV b4]] U)->
  (∀I U b3 b4,(∀(c:Frame) (cs:List Frame),c.mode=.panicking lX->ax E (G (Frame.enter prog 188 #[pV b3,pV b4] .deferred) (c::cs)) U λg J=>g=G {c with mode:=.returning} cs/\∃v,lW prog rs I J v/\R (.returned v) J)->Q (.panic lX) I [gH 188 #[pV b3,pV b4]] U)->
  cO E n c Q (nV args n) [] U):aw E f args U R:=by
 subst hn;subst hr;refine Z0 hf hb hs (h _ ?_ ?_)
 ·exactλI U J v b3 b4 h1 hl h2=>⟨b3,b4,v,J,hl,rfl,h1,h2⟩
 ·exactλI U b3 b4 h=>⟨rfl,b3,b4,rfl,h⟩
section
variable {E:Env prog}{H:Hid}{n:N}{X:Ext}{U:Hp}{no:Nat}{c:CN}{h:HN}{bf:Nat}{f:FR}{r:HR}{b:Frame}{a:Act}{k:List Item}{cs:List Frame}
variable {A:Lay}{id:Int}
def aq.Cc {er:Er}{b b3 b4:Nat}{of o3 o4:Obj}(a:aq A H n (er.ext b++(bf,of)::(b4,o4)::(b3,o3)::X) U)(o:Obj):aq A H n (er.ext b++(bf,of)::X) (U.set b4 o):=by
 cases er with
 |nil=>
  have a1:=a.Af (i:=1) (p:=(b4,o4)) rfl o;exact a1.Aa (λi=>if i=0 then 0 else i+2) (λi hi=>by cases i<;>simp[Er.ext]) (λi j _ _ e=>by split at e<;>split at e<;>omega)
 |soft e cl me=>
  have a1:=a.Af (i:=2) (p:=(b4,o4)) rfl o
  exact a1.Aa (λi=>if i<2 then i else i+2) (λi hi=>by
   rcases i with _|_|i
   ·rfl
   ·rfl
   ·rw[if_neg aa];rfl) (λi j _ _ e=>by split at e<;>split at e<;>omega)
 |cL e cl me=>
  have a1:=a.Af (i:=2) (p:=(b4,o4)) rfl o
  exact a1.Aa (λi=>if i<2 then i else i+2) (λi hi=>by
   rcases i with _|_|i
   ·rfl
   ·rfl
   ·rw[if_neg aa];rfl) (λi j _ _ e=>by split at e<;>split at e<;>omega)
def aq.rA {er:Er}{b b3 b4:Nat}{of o3 o4:Obj}(a:aq A H n (er.ext b++(bf,of)::(b4,o4)::(b3,o3)::X) U):U.f b4=some o4/\U.f b3=some o3:=by
 cases er with
 |nil=>exact⟨a.ext (i:=1) (p:=(b4,o4)) rfl,a.ext (i:=2) (p:=(b3,o3)) rfl⟩
 |soft e cl me=>exact⟨a.ext (i:=2) (p:=(b4,o4)) rfl,a.ext (i:=3) (p:=(b3,o3)) rfl⟩
 |cL e cl me=>exact⟨a.ext (i:=2) (p:=(b4,o4)) rfl,a.ext (i:=3) (p:=(b3,o3)) rfl⟩
structure NX (n:N) (id:Int) (c:CN):Prop where
 w:Wf n
 out:c.r.out.length<=100000000000000
 leave:Aw n id c
 fr:∀no h,n.h? id no=some h->Fz n id no c h
def Ni {b3 b4 cl me:Nat}{f2:FR}{v0:Value}{H':Hid}{J:Hp}{I:av}{c0:Frame}{cs:List Frame}{r:HO}(zh:c0.mode=.panicking lX)(aH:f2.cl=(cl:Int))(aO:f2.me=(me:Int))(h4:I 4=pV b4)(hr:r=.bad cl me)
 (a:aq A H' n ((bf,bP f2)::(b4,.cells [v0].toArray 45 (0,0))::(b3,.cells [pV bf].toArray 291 (0,0))::X) J):
 ax E (G (Frame.enter prog 188 #[pV b3,pV b4] .deferred) (c0::cs)) J λg J=>g=G {c0 with mode:=.returning} cs/\∃v,lW prog #[.cell 4 45] I J v/\iG A X n bf f (.ok (r.get n).1 (r.get n).2) (.returned v) J:=by
 obtain⟨k4,k3⟩:=aq.rA (er:=.nil) (b:=0) a;refine(abu (bf:=bf) (v0:=v0) (S:=λb J=>J.f b4=some (.cells [.iface 214 (pV b)].toArray 45 (0,0))/\aq A H' n ((Er.cL 502 cl me).ext b++(bf,bP f2)::X) J) zh k3 k4 ?_).mono ?_
 ·intro fM hle;refine(jW (e:=502) (a.le hle) aH aO).mono ?_;rintro e cV ⟨b,rfl,a2⟩;exact⟨b,rfl,(aq.rA a2).1,aX,a2.Cc _⟩
 ·rintro g cV ⟨rfl,b,k,a2⟩;refine⟨rfl,_,nQ (b:=b4) h4 ah (BE k),?_⟩;rw[hr];exact⟨A,H',b,f2,rfl,.refl A,a2⟩
def aeF (a:aq A H n ((bf,bP f)::X) U)(hc:n.ar id=some c)(K:NX n id c)(hs:f.s=f.u.jh)(aH:f.cl=0)(aO:f.me=0)(dO:0<=f.u.channel/\f.u.channel<1000000)(jK:f.s.length<=500000):
 aw E 150 #[pV (A.conn id),pV bf] U (iG A X n bf f (.ok ((n.fF id c f.u).get n).1 ((n.fF id c f.u).get n).2)):=by
 refine Z1 func150 ntmps150 results150 rfl al λQ an aB=>?_;refine fL λK0 C5=>?_;refine ag ?_;refineλb3 ig=>?_;refine ag ?_;refineλb4 zg=>?_;have a2:=λo'=>(a.iS ig _).iS zg o';refine ag ?_;generalize hZ:Hp.set (Hp.set U b3 _) b4 _=fM;have a3:aq A H n ((b4,.cells [.nilIface].toArray 45 (0,0))::(b3,.cells [pV bf].toArray 291 (0,0))::(bf,bP f)::X) fM:=dU (a2 _) hZ
 have a4:aq A H n ((bf,bP f)::(b4,.cells [.nilIface].toArray 45 (0,0))::(b3,.cells [pV bf].toArray 291 (0,0))::X) fM:=
  a3.Aa (λi=>if i=0 then 2 else if i<3 then i-1 else i) (λi hi=>by
   rcases i with _|_|_|i
   ·rfl
   ·rfl
   ·rfl
   ·rw[if_neg aa,if_neg aa];rfl) (λi j _ _ e=>by split at e<;>split at e<;>(try split at e)<;>(try split at e)<;>omega)
 clear a3 a2;refine C5 _ _ _ ?_;refine fL λK1 pa=>?_;refine ag ?_;refine abr (df:=188) (caps:=#[pV b3,pV b4]) ?_ ?_
 ·exact au
 refine pa _ _ _ ?_
 have tail:∀{cV:Hp} {I:av} {f2:FR} {cl me:Nat},aq A H n ((bf,bP f2)::(b4,.cells [.nilIface].toArray 45 (0,0))::(b3,.cells [pV bf].toArray 291 (0,0))::X) cV->f2.u=f.u->f2.cl=(cl:Int)->f2.me=(me:Int)->f2.s.length<=500000->
  n.fF id c f.u=n.iT id c f.u.channel f.u.kind f2.s cl me->I 0=pV (A.conn id)->I 3=pV b3->I 4=pV b4->cO E 75 (aP (aP (aP (f150.body.getD .skip)))) Q I [gH 188 #[pV b3,pV b4]] cV:=by
  intro cV I f2 cl me a5 hu Dm GR agI he r0 r3 r4;have lE:=a5.eQ hc;obtain⟨k4,k3⟩:=aq.rA (er:=.nil) (b:=0) a5;have nE:=a5.ff;rw[hu]at nE;simp only[f150,Option.getD_some,aP];have ik:f2.u.kind=f.u.kind:=by rw[hu]
  have RB:f2.u.channel=f.u.channel:=by rw[hu]
  by_cases ql:c.r.ph=1\/c.r.ph=2
  ·have oo:n.iT id c f.u.channel f.u.kind f2.s cl me=n.begin id c f2.u.channel f2.u.kind f2.s cl me:=by unfold N.iT;rw[if_pos ql,ik,RB]
   have Ku:=Yl (E:=E) a5 hc ql Dm GR K.out;rcases ql with p1|p1
   all_goals
    first|simp only[go_sem,seval,r0,r3,lE,k3,(show¬c.r.ph=1 by omega),eq_true p1,decide_true,decide_false]|simp only[go_sem,seval,r0,r3,lE,k3,eq_true p1,decide_true]
    refine dG adj Ku ?_ (λch dp hx=>?_)
    ·intro v dp hx
     cases hr:n.begin id c f2.u.channel f2.u.kind f2.s cl me with
     |bad x y=>rw[hr]at hx;obtain⟨_,_,h,_⟩:=hx;cases h
     |ok n' er=>
      rw[hr]at hx;obtain⟨A',H',b,f',hv,DI,a6⟩:=hx;obtain⟨tw,qj⟩:=a6.rA
      have hR:iG A X n bf f (.ok ((n.fF id c f.u).get n).1 ((n.fF id c f.u).get n).2) (.returned (er.v b)) (dp.set b4 (.cells [er.v b].toArray 45 (0,0))):=by rw[he,oo,hr];exact⟨A',H',b,f',rfl,DI,a6.Cc _⟩
      have im:jg prog 45 ⟨b4,0,none⟩ (dp.set b4 (.cells [er.v b].toArray 45 (0,0)))=some (er.v b):=BE aX
      cases hv
      cases er<;>simp only[go_sem,seval,Er.v,r4,tw]<;>exact an _ _ _ _ _ _ (nQ (b:=b4) (by simp[up,r4]) ah im) ao hR
    ·cases hr:n.begin id c f2.u.channel f2.u.kind f2.s cl me with
     |ok n' er=>rw[hr]at hx;obtain⟨_,_,_,_,h,_⟩:=hx;cases h
     |bad x y=>
      rw[hr]at hx;obtain⟨H',s,h,a6⟩:=hx
      cases h
      exact aB _ _ _ _ (λc0 cs zh=>Ni zh rfl rfl (by first|exact r4|(simp only[go_sem,seval,r4];done)|(simp[aC,up,r4];done)) (he.trans (oo.trans hr)) a6)
  have p1:¬c.r.ph=1:=λe=>ql (.inl e);have p2:¬c.r.ph=2:=λe=>ql (.inr e);by_cases p3:c.r.ph=3
  ·by_cases z:f.u.channel=0
   ·simp only[go_sem,seval,r0,r3,lE,k3,nE,p1,p2,eq_true p3,eq_true z,decide_true,decide_false];have oo:n.iT id c f.u.channel f.u.kind f2.s cl me=n.control id f2.u.kind f2.s cl me:=by unfold N.iT;rw[if_neg ql,if_pos p3,if_pos z,ik]
    refine dG adk (aa6 a5 hc K.leave Dm GR K.out) ?_ (λch dp hx=>?_)
    ·intro v dp hx
     cases hr:n.control id f2.u.kind f2.s cl me with
     |bad x y=>rw[hr]at hx;obtain⟨_,_,h,_⟩:=hx;cases h
     |ok n' er=>
      rw[hr]at hx;obtain⟨A',H',b,f',hv,DI,a6⟩:=hx;obtain⟨tw,qj⟩:=a6.rA
      have hR:iG A X n bf f (.ok ((n.fF id c f.u).get n).1 ((n.fF id c f.u).get n).2) (.returned (er.v b)) (dp.set b4 (.cells [er.v b].toArray 45 (0,0))):=by rw[he,oo,hr];exact⟨A',H',b,f',rfl,DI,a6.Cc _⟩
      have im:jg prog 45 ⟨b4,0,none⟩ (dp.set b4 (.cells [er.v b].toArray 45 (0,0)))=some (er.v b):=BE aX
      cases hv
      cases er<;>simp only[go_sem,seval,Er.v,r4,tw]<;>exact an _ _ _ _ _ _ (nQ (b:=b4) (by simp[up,r4]) ah im) ao hR
    ·cases hr:n.control id f2.u.kind f2.s cl me with
     |ok n' er=>rw[hr]at hx;obtain⟨_,_,_,_,h,_⟩:=hx;cases h
     |bad x y=>
      rw[hr]at hx;obtain⟨H',s,h,a6⟩:=hx
      cases h
      exact aB _ _ _ _ (λc0 cs zh=>Ni zh rfl rfl (by first|exact r4|(simp only[go_sem,seval,r4];done)|(simp[aC,up,r4];done)) (he.trans (oo.trans hr)) a6)
   ·obtain⟨no,eC⟩:∃no:Nat,f.u.channel=(no:Int):=⟨f.u.channel.toNat,aa⟩;have Lj:f.u.channel.toNat=no:=aa;simp only[go_sem,seval,r0,r3,lE,k3,nE,p1,p2,eq_true p3,z,decide_true,decide_false];have oo:n.iT id c f.u.channel f.u.kind f2.s cl me=n.kY id c no f2.u.kind f2.s cl me:=by unfold N.iT;rw[if_neg ql,if_pos p3,if_neg z,ik,Lj]
    refine dG adl (alT (no:=no) a5 K.w hc (λh hh=>K.fr no h hh) (RB.trans eC) aa Dm GR K.out agI) ?_ (λch dp hx=>?_)
    ·intro v dp hx
     cases hr:n.kY id c no f2.u.kind f2.s cl me with
     |bad x y=>rw[hr]at hx;obtain⟨_,_,h,_⟩:=hx;cases h
     |ok n' er=>
      rw[hr]at hx;obtain⟨A',H',b,f',hv,DI,a6⟩:=hx;obtain⟨tw,qj⟩:=a6.rA
      have hR:iG A X n bf f (.ok ((n.fF id c f.u).get n).1 ((n.fF id c f.u).get n).2) (.returned (er.v b)) (dp.set b4 (.cells [er.v b].toArray 45 (0,0))):=by rw[he,oo,hr];exact⟨A',H',b,f',rfl,DI,a6.Cc _⟩
      have im:jg prog 45 ⟨b4,0,none⟩ (dp.set b4 (.cells [er.v b].toArray 45 (0,0)))=some (er.v b):=BE aX
      cases hv
      cases er<;>simp only[go_sem,seval,Er.v,r4,tw]<;>exact an _ _ _ _ _ _ (nQ (b:=b4) (by simp[up,r4]) ah im) ao hR
    ·cases hr:n.kY id c no f2.u.kind f2.s cl me with
     |ok n' er=>rw[hr]at hx;obtain⟨_,_,_,_,h,_⟩:=hx;cases h
     |bad x y=>
      rw[hr]at hx;obtain⟨H',s,h,a6⟩:=hx
      cases h
      exact aB _ _ _ _ (λc0 cs zh=>Ni zh rfl rfl (by first|exact r4|(simp only[go_sem,seval,r4];done)|(simp[aC,up,r4];done)) (he.trans (oo.trans hr)) a6)
  have zk:∀{dp:Hp} {n':N},aq A H n' ((bf,bP f2)::(b4,.cells [.nilIface].toArray 45 (0,0))::(b3,.cells [pV bf].toArray 291 (0,0))::X) dp->n.iT id c f.u.channel f.u.kind f2.s cl me=.ok n' .nil->
   iG A X n bf f (.ok ((n.fF id c f.u).get n).1 ((n.fF id c f.u).get n).2) (.returned .nilIface) (dp.set b4 (.cells [.nilIface].toArray 45 (0,0))):=by
   intro dp n' a6 e;rw[he,e];exact⟨A,H,0,f2,rfl,.refl A,aq.Cc (er:=.nil) (b:=0) a6 _⟩
  have im:∀dp:Hp,jg prog 45 ⟨b4,0,none⟩ (dp.set b4 (.cells [.nilIface].toArray 45 (0,0)))=some .nilIface:=λdp=>BE aX;by_cases p4:c.r.ph=4
  rotate_left
  ·have oo:n.iT id c f.u.channel f.u.kind f2.s cl me=.ok n .nil:=by unfold N.iT;rw[if_neg ql,if_neg p3,if_neg (λh=>p4 h.1)]
   simp only[go_sem,seval,r0,r4,lE,k4,p1,p2,p3,p4,decide_true,decide_false];exact an _ _ _ _ _ _ (nQ (b:=b4) (by simp[up,r4]) ah (im _)) ao (zk a5 oo)
  simp only[go_sem,seval,r0,r3,lE,k3,p1,p2,p3,eq_true p4,decide_true,decide_false];refineλb1 iY=>?_;refine ag ?_;have o1:=a5.fresh iY;generalize nB:Hp.set cV b1 _=cY;have a6:=dU (o1 _) nB;have j0:cY.f b1=some (.cells (([51]:List Int).map iV++[]).toArray 3 (0,0)):=by rw[<-nB];exact Hp.bD _ _
  obtain⟨tw,qj⟩:=aq.rA (er:=.nil) (b:=0) a6;have iA:=a6.eQ hc;have Dq:=a6.ff;rw[hu]at Dq;refine aZ (uK (ms:=[51]) (pad:=[]) a6.eK j0 al) ?_;have i1:f2.lI 10 [51]=decide (f2.u.kind=1/\cl=10/\me=51):=Ea Dm GR 10 51;rw[ik]at i1;by_cases q1:f.u.kind=1/\cl=10/\me=51
  ·rw[decide_eq_true q1]at i1;by_cases z:f.u.channel=0
   ·have oo:n.iT id c f.u.channel f.u.kind f2.s cl me=.ok (n.bE id λr=>{r with ph:=5}) .nil:=by unfold N.iT;rw[if_neg ql,if_neg p3,if_pos ⟨p4,q1.1,q1.2.1,q1.2.2,z⟩]
    have a7:=a6.nS hc λr=>{r with ph:=5};simp only[go_sem,seval,r0,r3,r4,i1,Dq,iA,qj,eq_true z,decide_true];generalize hZ:Hp.set cY (A.conn id) _=pH;replace a7:=dU a7 hZ;obtain⟨k47,k37⟩:=aq.rA (er:=.nil) (b:=0) a7;refine aJ k47 ?_;exact an _ _ _ _ _ _ (nQ (b:=b4) (by simp[up,r4]) ah (im _)) ao (zk a7 oo)
   ·have oo:n.iT id c f.u.channel f.u.kind f2.s cl me=.ok n .nil:=by unfold N.iT;rw[if_neg ql,if_neg p3,if_neg (λh=>z h.2.2.2.2)]
    simp only[go_sem,seval,r3,r4,i1,Dq,qj,tw,z,decide_true,decide_false];exact an _ _ _ _ _ _ (nQ (b:=b4) (by simp[up,r4]) ah (im _)) ao (zk a6 oo)
  ·rw[decide_eq_false q1]at i1;have oo:n.iT id c f.u.channel f.u.kind f2.s cl me=.ok n .nil:=by unfold N.iT;rw[if_neg ql,if_neg p3,if_neg (λh=>q1 ⟨h.2.1,h.2.2.1,h.2.2.2.1⟩)]
   simp only[go_sem,seval,r4,i1,tw,decide_true];exact an _ _ _ _ _ _ (nQ (b:=b4) (by simp[up,r4]) ah (im _)) ao (zk a6 oo)
 refine fL λK2 pX=>?_;have KA:=a4.ff;obtain⟨k4,k3⟩:=aq.rA (er:=.nil) (b:=0) a4;by_cases kk:f.u.kind=1
 rotate_left
 ·simp only[go_sem,seval,k3,KA,kk,decide_false];refine pX _ _ _ (tail (f2:=f) (cl:=0) (me:=0) a4 rfl aH aO jK (by unfold N.fF;rw[if_neg kk,hs]) ?_ ?_ ?_)
  ·exact au
  ·exact au
  ·exact au
 by_cases l4:f.s.length<4
 ·have LJ:(f.s.length:Int)<4:=aa
  have he:n.fF id c f.u=.ok n (.cL 502 0 0):=by
   unfold N.fF;rw[if_pos kk,<-hs];by_cases l2:2<=f.s.length
   ·have e1:fp 2 f.s=some (num (f.s.take 2),f.s.drop 2):=by unfold fp;rw[if_pos l2]
    have e2:fp 2 (f.s.drop 2)=none:=by unfold fp;rw[if_neg (by rw[List.length_drop];omega)]
    rw[e1];simp only;rw[e2]
   ·have e1:fp 2 f.s=none:=by unfold fp;rw[if_neg l2]
    rw[e1]
  simp only[go_sem,seval,k3,KA,eq_true kk,LJ,decide_true];refine aL (jW (e:=502) (cl:=0) (me:=0) a4 aH aO) ?_;rintro v dp ⟨b,hv,a5⟩
  cases hv
  obtain⟨tw,qj⟩:=a5.rA;simp only[go_sem,seval,Er.v,tw];refine an _ _ _ (.iface 214 (pV b)) _ _ (nQ (b:=b4) (by simp[up]) ah (BE aX)) ao ?_;rw[he];exact⟨A,H,b,_,rfl,.refl A,a5.Cc _⟩
 have LJ:¬(f.s.length:Int)<4:=aa;simp only[go_sem,seval,k3,KA,eq_true kk,LJ,decide_true,decide_false];refine AP [0,1,2,3,4,6,7,8,5,9,10,11,12,13,14,15] ?_;refine aJ k3 ?_;refine iU og a4 (oG (w:=2) a4.ff rfl ai) (λx1 s1 cV fD a5=>?_) (λhr s J a5=>by unfold fp at hr;rw[if_pos aa]at hr;cases hr);obtain⟨tw,qj⟩:=aq.rA (er:=.nil) (b:=0) a5;refine⟨dJ qj,?_⟩;refine ag ?_
 have ls1:s1.length=f.s.length-2:=by unfold fp at fD;rw[if_pos aa]at fD;simp only[Option.some.injEq,Prod.mk.injEq]at fD;rw[<-fD.2,List.length_drop]
 refine iU og a5 (oG (w:=2) a5.ff rfl ai) (λx2 s2 dp bZ a6=>?_) (λhr s J a5=>by unfold fp at hr;simp only at hr;rw[if_pos aa]at hr;cases hr);simp only at bZ;obtain⟨atp,aiE⟩:=aq.rA (er:=.nil) (b:=0) a6
 have ls2:s2.length=s1.length-2:=by unfold fp at bZ;rw[if_pos aa]at bZ;simp only[Option.some.injEq,Prod.mk.injEq]at bZ;rw[<-bZ.2,List.length_drop]
 have Dq:=a6.ff;refine⟨dJ aiE,?_⟩;refine aJ Dq ?_;have g3:=λo=>(aq.rA (er:=.nil) (b:=0) (a6.vg o)).2;refine LH g3 ?_;refine LH g3 ?_;have a7:=a6.vg (bP {f with s:=s2,cl:=(x1:Int),me:=(x2:Int)});generalize hZ:Hp.set dp bf _=pH;replace a7:=dU a7 hZ
 have he:n.fF id c f.u=n.iT id c f.u.channel f.u.kind s2 x1 x2:=by unfold N.fF;rw[if_pos kk,<-hs,fD];simp only;rw[bZ,kk]
 refine pX _ _ _ (tail (f2:={f with s:=s2,cl:=(x1:Int),me:=(x2:Int)}) (cl:=x1) (me:=x2) a7 rfl rfl rfl (by show s2.length<=_;omega) he ?_ ?_ ?_)
 ·exact au
 ·exact au
 ·exact au
end
section
variable {E:Env prog}{H:Hid}{n:N}{X:Ext}{U:Hp}{c:CN}{f:FR}{r:HR}{a:Act}
variable {A:Lay}{id:Int}
structure NP (g:kt):Prop where
 jr:0<=g.jr/\g.jr<65536
 frame:0<=g.frame/\g.frame<100000
 gG:0<=g.gG/\g.gG<65536
def aaO (hc:n.ar id=some c):∃c1,(n.leave id).ar id=some c1/\c1.r=c.r:=by
 have e:n.leave id=(n.gZ id c.ch).dM id λc=>{c with ch:=[]}:=by unfold N.leave;rw[hc];rfl
 obtain⟨c1,cF,ec⟩:=BY (EV.trans (BW hc):(n.gZ id c.ch).rC id=some c.r);exact⟨{c1 with ch:=[]},by rw[e];simp[cF],ec⟩
def aaN {e cl me:Nat}(hc:n.ar id=some c):∃c1,(n.cL id e cl me).ar id=some c1:=by obtain⟨c1,h1,_⟩:=aaO hc;unfold N.cL;rw[sO,if_pos rfl];simp[h1]
def aqI {u:Un}(a:aq A H n X U)(hc:n.ar id=some c)(G:NP n.cfg)(fP:c.r.out.length<=100000000000000)(L:Aw n id c)
 (CY:u.kC=false->u.gv=false->u.kind≠8->aw E 107 #[pV (A.conn id),uV u] U λe J=>e=.returned (.tuple #[])/\∃A',qB A A'/\At A' (n.kz id u) X J):
 aw E 59 #[pV (A.conn id),uV u] U λe J=>e=.returned (.tuple #[])/\∃A',qB A A'/\At A' (n.unit id u) X J:=by
 cases qe:u.kC with
 |true=>
  cases hw:u.gv with
  |true=>
   have e:n.unit id u=(n.send id pT).bE id λr=>{r with ph:=5}:=by unfold N.unit;rw[qe,hw];rfl
   refine aV func59 ntmps59 results59 λQ aD an aB=>?_;simp only[go_sem,seval,uV];refineλb3 ig=>?_;have a1:=λo=>a.fresh ig o;refine bu qe hw ?_;refine aL (MQ (s:=pT) (a1 _) hc (by simp[pT];omega)) ?_;rintro v cV ⟨hv,a2⟩
   cases hv
   have dV:(n.send id pT).ar id=some {c with r:={c.r with out:=c.r.out++pT,iu:=n.clock}}:=by rw[sO,if_pos rfl,hc];rfl
   have a3:=a2.nS dV λr=>{r with ph:=5};refine aJ (a2.eQ dV) ?_;refine aD dz ao ⟨rfl,A,.refl A,H,?_⟩;rw[e];exact dU a3 rfl
  |false=>
   have e:n.unit id u=(n.bE id λr=>{r with ph:=1}).send id (ck 0 10 30 [.short n.cfg.jr.toNat,.long n.cfg.frame.toNat,.short n.cfg.gG.toNat]):=by unfold N.unit;rw[qe,hw];rfl
   obtain⟨g1,g2⟩:=G.jr;obtain⟨g3,g4⟩:=G.frame;obtain⟨g5,g6⟩:=G.gG;refine(aqH (k1:=n.cfg.jr.toNat) (k2:=n.cfg.frame.toNat) (k3:=n.cfg.gG.toNat) qe hw a.gw (a.conn hc) aa aa aa aa aa aa fP).mono ?_;rintro e' J ⟨rfl,rfl⟩;refine⟨rfl,A,.refl A,H,?_⟩;rw[e];have a1:=a.nS hc λr=>{r with ph:=1,out:=r.out++ck 0 10 30 [.short n.cfg.jr.toNat,.long n.cfg.frame.toNat,.short n.cfg.gG.toNat],iu:=n.clock}
   have e2:(n.bE id λr=>{r with ph:=1}).send id (ck 0 10 30 [.short n.cfg.jr.toNat,.long n.cfg.frame.toNat,.short n.cfg.gG.toNat])=n.bE id λr=>{r with ph:=1,out:=r.out++ck 0 10 30 [.short n.cfg.jr.toNat,.long n.cfg.frame.toNat,.short n.cfg.gG.toNat],iu:=n.clock}:=by simp only[N.send,N.bE,Nq];rfl
   rw[e2];exact a1
 |false=>
  cases hw:u.gv with
  |true=>
   have e:n.unit id u=(if n.ph id=4 then n else n.cL id 501 0 0).bE id λr=>{r with ph:=5}:=by unfold N.unit;rw[qe,hw];rfl
   have P9:n.ph id=c.r.ph:=by unfold N.ph;rw[hc];rfl
   refine aV func59 ntmps59 results59 λQ aD an aB=>?_;simp only[go_sem,seval,uV];refineλb3 ig=>?_;refine ag ?_;have o1:=a.fresh ig;generalize hZ:Hp.set U b3 _=fM;have hb:fM.f b3=some (.cells [iV u.kind,iV u.channel,sV u.jh,.bool u.kC,.bool u.gv].toArray 135 (0,0)):=by rw[<-hZ];exact Hp.bD _ _
   have a1:=dU (o1 _) hZ;have cF:=a1.eQ hc;by_cases p4:c.r.ph=4
   ·simp only[go_sem,seval,qe,hw,hb,cF,eq_true p4,decide_true];have a3:=a1.nS hc λr=>{r with ph:=5};refine aD dz ao ⟨rfl,A,.refl A,H,?_⟩;rw[e,P9,if_pos p4];exact dU a3 rfl
   ·refine mr qe hw hb cF p4 ?_;refineλbb fC=>?_;have a2:=λo=>a1.iS fC o;refine ag ?_;refine aL (Rr (e:=501) (cl:=0) (me:=0) (a2 (tX 501 0 0)) (List.mem_cons_self ..) hc L ai fP) ?_;rintro v cV ⟨hv,H2,a3⟩
    cases hv
    obtain⟨c2,dV⟩:=aaN (e:=501) (cl:=0) (me:=0) hc;have a4:=a3.nS dV λr=>{r with ph:=5};refine aJ (a3.eQ dV) ?_;refine aD dz ao ⟨rfl,A,.refl A,H2,?_⟩;rw[e,P9,if_neg p4];exact aq.oW (dU a4 rfl)
  |false=>
   by_cases k8:u.kind=8
   ·have e:n.unit id u=n:=by unfold N.unit;rw[qe,hw];simp[k8]
    refine(aqF qe hw k8).mono ?_;rintro e' J ⟨rfl,rfl⟩;rw[e];exact⟨rfl,A,.refl A,H,a⟩
   ·have e:n.unit id u=n.kz id u:=by unfold N.unit;rw[qe,hw];simp[k8]
    rw[e];exact aqG qe hw k8 (CY qe hw k8)
end
section
open Go.Extern
variable {f:FR}{Q:Value->Hp->Prop}{H:Halt->Hp->Prop}{t:Nat}
def OL:wpS prog (ReflectliteValue.unpack (.iface 297 (pV t))) Q H U=∀b,U.f b=none->Q (.agg #[hT 297,pV b,.int .u64 150]) (U.set b (.cells #[pV t] 297)):=ah
def XY:wpS prog (ReflectliteValue.unpack (.iface 298 (pV t))) Q H U=∀b,U.f b=none->Q (.agg #[hT 298,pV b,.int .u64 150]) (U.set b (.cells #[pV t] 298)):=ah
def XX:wpS prog (ReflectliteValue.unpack (.iface 296 (.agg #[pV t]))) Q H U=∀b,U.f b=none->Q (.agg #[hT 296,pV b,.int .u64 153]) (U.set b (.cells #[pV t] 296)):=ah
def XW:wpS prog (ReflectliteValue.unpack (.iface 214 (pV t))) Q H U=∀b,U.f b=none->Q (.agg #[hT 214,pV b,.int .u64 150]) (U.set b (.cells #[pV t] 214)):=ah
def OJ{a:Nat}:wpS prog (ReflectliteValue.methodAny (ReflectliteValue.valueError "reflectlite.Value.Type" 0) (λt _ _ _=>ReflectliteType.toType t) #[.agg #[hT 297,pV a,.int .u64 150]]) Q H U=Q (rT 297) U:=ah
def XT{a:Nat}:wpS prog (ReflectliteValue.methodAny (ReflectliteValue.valueError "reflectlite.Value.Type" 0) (λt _ _ _=>ReflectliteType.toType t) #[.agg #[hT 298,pV a,.int .u64 150]]) Q H U=Q (rT 298) U:=ah
def OF:wpS prog (ReflectliteType.abiMethod (λt=>(λa:Nat=>Value.int IntKind.u8 (a:Int))<$>Rtype.kind t) #[hT 297]) Q H U=Q (.int .u8 22) U:=ah
def XH:wpS prog (ReflectliteType.abiMethod (λt=>(λa:Nat=>Value.int IntKind.u8 (a:Int))<$>Rtype.kind t) #[hT 298]) Q H U=Q (.int .u8 22) U:=ah
def OE:wpS prog (ReflectliteType.abiMethod (λt=>(λa:Nat=>Value.int IntKind.u8 (a:Int))<$>Rtype.kind t) #[hT 296]) Q H U=Q (.int .u8 25) U:=ah
def XG:wpS prog (ReflectliteType.abiMethod (λt=>(λa:Nat=>Value.int IntKind.u8 (a:Int))<$>Rtype.kind t) #[hT 214]) Q H U=Q (.int .u8 22) U:=ah
def OB:wpS prog (ReflectliteType.method ReflectliteType.elem #[.agg #[hT 297]]) Q H U=Q (rT 296) U:=ah
def Xz:wpS prog (ReflectliteType.method ReflectliteType.elem #[.agg #[hT 298]]) Q H U=Q (rT 214) U:=ah
def OC:wpS prog (ReflectliteType.relation "Implements" ReflectliteType.implements_ #[.agg #[hT 296],rT 45]) Q H U=Q (.bool true) U:=ah
def XE:wpS prog (ReflectliteType.relation "Implements" ReflectliteType.implements_ #[.agg #[hT 214],rT 45]) Q H U=Q (.bool true) U:=ah
def XV:wpS prog (ReflectliteType.typeOf #[.iface 296 v]) Q H U=Q (rT 296) U:=ah
def OK:wpS prog (ReflectliteType.typeOf #[.iface 214 v]) Q H U=Q (rT 214) U:=ah
def Xw:wpS prog (ReflectliteType.relation "AssignableTo" ReflectliteType.assignableTo #[.agg #[hT 296],rT 296]) Q H U=Q (.bool true) U:=ah
def Xt:wpS prog (ReflectliteType.relation "AssignableTo" ReflectliteType.assignableTo #[.agg #[hT 214],rT 214]) Q H U=Q (.bool true) U:=ah
def Xu:wpS prog (ReflectliteType.relation "AssignableTo" ReflectliteType.assignableTo #[.agg #[hT 214],rT 296]) Q H U=Q (.bool false) U:=ah
variable {a:Nat}{QP:Option (TypeId×Addr×Nat)->Hp->Prop}
def OG:wpS prog (ReflectliteValue.parts (.agg #[hT 297,pV a,.int .u64 150])) QP H U=QP (some (297,⟨a,0,none⟩,150)) U:=ah
def OH:wpS prog (ReflectliteValue.parts (.agg #[hT 298,pV a,.int .u64 150])) QP H U=QP (some (298,⟨a,0,none⟩,150)) U:=ah
def XQ:wpS prog (ReflectliteValue.parts (.agg #[hT 296,pV a,.int .u64 409])) QP H U=QP (some (296,⟨a,0,none⟩,409)) U:=ah
def XO:wpS prog (ReflectliteValue.parts (.agg #[hT 214,pV a,.int .u64 406])) QP H U=QP (some (214,⟨a,0,none⟩,406)) U:=ah
def XP:wpS prog (ReflectliteValue.parts (.agg #[hT 296,pV a,.int .u64 153])) QP H U=QP (some (296,⟨a,0,none⟩,153)) U:=ah
def XM:wpS prog (ReflectliteValue.parts (.agg #[hT 214,pV a,.int .u64 150])) QP H U=QP (some (214,⟨a,0,none⟩,150)) U:=ah
variable {QE:Option TypeId->Hp->Prop}
def XA:wpS prog (Rtype.elem? 297) QE H U=QE (some 296) U:=ah
def XB:wpS prog (Rtype.elem? 298) QE H U=QE (some 214) U:=ah
def XL{p:Nat}:wpS prog (ReflectliteValue.mk 296 ⟨p,0,none⟩ ReflectliteValue.flagAddr) Q H U=Q (.agg #[hT 296,pV p,.int .u64 409]) U:=ah
def XK{p:Nat}:wpS prog (ReflectliteValue.mk 214 ⟨p,0,none⟩ ReflectliteValue.flagAddr) Q H U=Q (.agg #[hT 214,pV p,.int .u64 406]) U:=ah
def Xy{QD:Bool->Hp->Prop}:wpS prog (Rtype.directlyAssignable 296 296) QD H U=QD true U:=ah
def Xx{QD:Bool->Hp->Prop}:wpS prog (Rtype.directlyAssignable 214 214) QD H U=QD true U:=ah
variable {e:TypeId}
def OD(ha:U.f a=some (.cells #[pV t] e (0,0)))(h:Q (.bool false) U):wpS prog (ReflectliteValue.method (ReflectliteValue.valueError "reflectlite.Value.IsNil" 0) ReflectliteValue.isNil #[.agg #[hT 297,pV a,.int .u64 150]]) Q H U:=by rw[FO,aG,OG];show wpS prog (ReflectliteValue.isNil 297 ⟨a,0,none⟩ 150 22) Q H U;unfold ReflectliteValue.isNil;rw[if_neg ai,aG];refine wI (P:=prog) (t:=297) (a:=⟨a,0,none⟩) (U:=U) ah (uS (Cv ah ha) ?_);exact h
def XC(ha:U.f a=some (.cells #[pV t] e (0,0)))(h:Q (.agg #[hT 296,pV t,.int .u64 409]) U):wpS prog (ReflectliteValue.method (ReflectliteValue.valueError "reflectlite.Value.Elem" 0) ReflectliteValue.elem #[.agg #[hT 297,pV a,.int .u64 150]]) Q H U:=by rw[FO,aG,OG];show wpS prog (ReflectliteValue.elem 297 ⟨a,0,none⟩ 150 22) Q H U;unfold ReflectliteValue.elem;rw[if_neg ai];rw[aG];refine wI (P:=prog) (t:=297) (a:=⟨a,0,none⟩) (U:=U) ah (uS (Cv ah ha) ?_);rw[aG,XA];exact XL▸h
def XF(ha:U.f a=some (.cells #[pV t] e (0,0)))(h:Q (.bool false) U):wpS prog (ReflectliteValue.method (ReflectliteValue.valueError "reflectlite.Value.IsNil" 0) ReflectliteValue.isNil #[.agg #[hT 298,pV a,.int .u64 150]]) Q H U:=by rw[FO,aG,OH];show wpS prog (ReflectliteValue.isNil 298 ⟨a,0,none⟩ 150 22) Q H U;unfold ReflectliteValue.isNil;rw[if_neg ai,aG];refine wI (P:=prog) (t:=298) (a:=⟨a,0,none⟩) (U:=U) ah (uS (Cv ah ha) ?_);exact h
def XD(ha:U.f a=some (.cells #[pV t] e (0,0)))(h:Q (.agg #[hT 214,pV t,.int .u64 406]) U):wpS prog (ReflectliteValue.method (ReflectliteValue.valueError "reflectlite.Value.Elem" 0) ReflectliteValue.elem #[.agg #[hT 298,pV a,.int .u64 150]]) Q H U:=by rw[FO,aG,OH];show wpS prog (ReflectliteValue.elem 298 ⟨a,0,none⟩ 150 22) Q H U;unfold ReflectliteValue.elem;rw[if_neg ai];rw[aG];refine wI (P:=prog) (t:=298) (a:=⟨a,0,none⟩) (U:=U) ah (uS (Cv ah ha) ?_);rw[aG,XB];exact XK▸h
variable {b i:Nat}{old:Value}{e1:TypeId}
def XR(hb:U.f b=some (.cells #[pV i] e1 (0,0)))(ht:U.f t=some (.cells [old].toArray 214 (0,0)))(h:Q (.tuple #[]) (U.set t (.cells [pV i].toArray 214 (0,0)))):
 wpS prog (ReflectliteValue.set #[.agg #[hT 214,pV t,.int .u64 406],.agg #[hT 214,pV b,.int .u64 150]]) Q H U:=by
 rw[OI,aG,XO,aG,XM];simp only[];rw[if_neg ai,aG];refine wI (P:=prog) (t:=214) (a:=⟨b,0,none⟩) (U:=U) ah (uS (Cv ah hb) ?_);rw[aG,Xx];simp only[if_true,aG];refine M5 ah ?_;unfold vo;simp only[ht];refine⟨trivial,al,trivial,ah,?_⟩;exact h
def Xo(hb:U.f b=some (.cells #[pV t] 298 (0,0)))(ht:U.f t=some (.cells [old].toArray 214 (0,0))):
 aw E 64 #[.iface 214 (pV i),.iface 298 (pV t),.agg #[hT 298,pV b,.int .u64 150],rT 214] U λe J=>e=.returned (.bool true)/\J=U.set t (.cells [pV i].toArray 214 (0,0)):=by
 refine fZ func64 ntmps64 results64 rfl al λQ aD an aB=>?_;refine ag ?_;refineλb6 pZ=>?_;have n6:∀{x o},U.f x=some o->¬x=b6:=λh e=>by subst e;rw[pZ]at h;cases h
 refine ag ?_;refine dh (λm I ds ae=>ds=[]/\I 0=.iface 214 (pV i)/\I 3=rT 214/\I 6=pV b6/\ae=U.set b6 (.cells [hT 298,pV b,.int .u64 150].toArray 140 (0,0))) 0 ?_ ?_
 ·refine⟨rfl,?_,?_,?_,rfl⟩<;>exact au
 ·rintro m I ds ae X ⟨rfl,h0,h3,h6,rfl⟩ hX;refine aJ h0 ?_;refine fV func113 rfl ah ah Iv ?_;rw[OK];refine aJ h3 ?_;refine mh (t:=222) (v:=.agg #[hT 214]) (recv:=.agg #[hT 214]) (f:=333) (name:= "AssignableTo") ?_ (λQ H h=>by rw[FN];exact h) ?_
  ·exact au
  refine ag ?_;refine fV func333 rfl ah ah Iw ?_;rw[Xt];have l6:∀o,(U.set b6 o).f b6=some o:=λ_=>Hp.bD _ _;refine bu h6 l6 ?_;refine fV func114 rfl ah ah VZ ?_;refine XD (a:=b) (t:=t) (e:=298) ((Hp.ay (n6 hb)).trans hb) ?_;refine aJ h0 ?_;refine fV func61 rfl ah ah Fl ?_;show wpS prog (ReflectliteValue.unpack (.iface 214 (pV i))) _ _ _;rw[XW];intro b9 pc
  have n9:∀{x:Nat} {o:Obj},U.f x=some o->¬x=b9:=by intro x o h e;subst e;have h1:(U.set b6 (.cells [hT 298,pV b,.int .u64 150].toArray 140 (0,0))).f x=some o:=(Hp.ay (n6 h)).trans h;have h2:(U.set b6 (.cells [hT 298,pV b,.int .u64 150].toArray 140 (0,0))).f x=none:=pc;rw[h1]at h2;cases h2
  refine ag ?_;refine fV func115 rfl ah ah V0 ?_;refine XR (t:=t) (b:=b9) (i:=i) (old:=old) (e1:=214) aX ((Hp.ay (n9 ht)).trans ((Hp.ay (n6 ht)).trans ht)) ?_;refine ag ?_;refine an (J:=(U.set t (.cells [pV i].toArray 214 (0,0)))) aI ?_ ⟨by simp[up],rfl⟩;exact iv (λx p h=>(Hp.ay (n9 h)).trans ((Hp.ay (n6 h)).trans h)) _ _
variable {et:TypeId}
def Xl(h0:U.f 0=some (.cells #[rT 45] et (0,0)))(ht:U.f t=some (.cells [old].toArray 214 (0,0))):
 aw E 41 #[.iface 214 (pV i),.iface 298 (pV t)] U λe J=>e=.returned (.bool true)/\J=U.set t (.cells [pV i].toArray 214 (0,0)):=by
 refine fZ func41 ntmps41 results41 rfl al λQ aD an aB=>?_;refine ag ?_;refine fV func61 rfl ah ah Fl ?_;show wpS prog (ReflectliteValue.unpack (.iface 298 (pV t))) _ _ _;rw[XY];intro b hb;have nb:∀{x o},U.f x=some o->¬x=b:=λh e=>by subst e;rw[hb]at h;cases h
 refine ag ?_;refineλb5 lZ=>?_;have yh:¬b5=b:=bl lZ aX;rw[Hp.ay yh]at lZ
 have n5:∀{x:Nat} {o:Obj},U.f x=some o->¬x=b5:=by intro x o h e;subst e;rw[lZ]at h;cases h
 have l5:∀(H:Hp) (o:Obj),(H.set b5 o).f b5=some o:=λ_ _=>Hp.bD _ _;have lb:∀o o',((U.set b o).set b5 o').f b=some o:=λo o'=>(Hp.ay (λe=>yh e.symm)).trans aX;have lo:∀{x:Nat} {p:Obj} o o',U.f x=some p->((U.set b o).set b5 o').f x=some p:=λo o' h=>(Hp.ay (n5 h)).trans ((Hp.ay (nb h)).trans h);refine aJ l5 ?_;refine fV func62 rfl ah ah NG ?_;rw[XT];refine ag ?_;refine mh (t:=222) (v:=.agg #[hT 298]) (recv:=hT 298) (f:=319) (name:= "Kind") ?_ (λQ H h=>by rw[AG];exact h) ?_
 ·exact au
 refine ag ?_;refine fV func319 rfl ah ah Ce ?_;show wpS prog (ReflectliteType.abiMethod (λt=>(λa:Nat=>Value.int IntKind.u8 (a:Int))<$>Rtype.kind t) #[hT 298]) _ _ _;rw[XH];refine aJ l5 ?_;rw[Hp.set_set];refine fV func63 rfl ah ah NH ?_;refine XF (a:=b) (t:=t) (e:=298) (lb _ _) ?_;refine ag ?_;refine mh (t:=222) (v:=.agg #[hT 298]) (recv:=.agg #[hT 298]) (f:=335) (name:= "Elem") ?_ (λQ H h=>by rw[I8];exact h) ?_
 ·exact au
 refine ag ?_;refine fV func335 rfl ah ah ND ?_;rw[Xz];refine ag ?_;refine mh (t:=222) (v:=.agg #[hT 214]) (recv:=hT 214) (f:=319) (name:= "Kind") ?_ (λQ H h=>by rw[AG];exact h) ?_
 ·exact au
 refine ag ?_;refine fV func319 rfl ah ah Ce ?_;show wpS prog (ReflectliteType.abiMethod (λt=>(λa:Nat=>Value.int IntKind.u8 (a:Int))<$>Rtype.kind t) #[hT 214]) _ _ _;rw[XG];have l0:∀o o',((U.set b o).set b5 o').f 0=some (.cells #[rT 45] et (0,0)):=λo o'=>lo o o' h0;refine aJ l0 ?_;refine mh (t:=222) (v:=.agg #[hT 214]) (recv:=.agg #[hT 214]) (f:=336) (name:= "Implements") ?_ (λQ H h=>by rw[I9];exact h) ?_
 ·exact au
 refine ag ?_;refine fV func336 rfl ah ah NF ?_;rw[XE];refine aJ l5 ?_;refine aZ (Xo (b:=b) (lb _ _) (lo _ _ ht)) ?_;refine ag ?_;refine an (J:=(U.set t (.cells [pV i].toArray 214 (0,0)))) aI ?_ ⟨by simp[up],rfl⟩;exact iv (λx p h=>lo _ _ h) _ _
def XI(ha:U.f a=some (.cells #[v] e (0,0))):jg prog 296 ⟨a,0,none⟩ U=some (.agg #[v]):=by have hg:dC prog 296=true:=ah;have hs:cC prog 296=1:=ah;unfold jg;rw[if_pos hg];simp[cellsOf,ha,hs]
def XS(hb:U.f b=some (.cells #[pV i] e1 (0,0)))(ht:U.f t=some (.cells [old].toArray 296 (0,0)))(h:Q (.tuple #[]) (U.set t (.cells [pV i].toArray 296 (0,0)))):
 wpS prog (ReflectliteValue.set #[.agg #[hT 296,pV t,.int .u64 409],.agg #[hT 296,pV b,.int .u64 153]]) Q H U:=by
 rw[OI,aG,XQ,aG,XP];simp only[];rw[if_neg ai,aG];refine wI (P:=prog) (t:=296) (a:=⟨b,0,none⟩) (U:=U) ah (uS (XI hb) ?_);rw[aG,Xy];simp only[if_true,aG];refine M5 ah ?_;unfold vo;have e:(Value.agg #[pV i]).cells= #[pV i]:=by first|rfl|decide|simp[Value.cells]
 simp only[ht,e];refine⟨trivial,al,trivial,ah,?_⟩;refine⟨by simp[dn],?_⟩;have e3: #[old].extract 0 0++ #[pV i]++ #[old].extract (0+ #[pV i].size)= #[pV i]:=al;rw[e3];exact h
def Xs(hb:U.f b=some (.cells #[pV t] 297 (0,0)))(ht:U.f t=some (.cells [old].toArray 296 (0,0))):
 aw E 64 #[.iface 296 (.agg #[pV i]),.iface 297 (pV t),.agg #[hT 297,pV b,.int .u64 150],rT 296] U λe J=>e=.returned (.bool true)/\J=U.set t (.cells [pV i].toArray 296 (0,0)):=by
 refine fZ func64 ntmps64 results64 rfl al λQ aD an aB=>?_;refine ag ?_;refineλb6 pZ=>?_;have n6:∀{x o},U.f x=some o->¬x=b6:=λh e=>by subst e;rw[pZ]at h;cases h
 refine ag ?_;refine dh (λm I ds ae=>ds=[]/\I 0=.iface 296 (.agg #[pV i])/\I 3=rT 296/\I 6=pV b6/\ae=U.set b6 (.cells [hT 297,pV b,.int .u64 150].toArray 140 (0,0))) 0 ?_ ?_
 ·refine⟨rfl,?_,?_,?_,rfl⟩<;>exact au
 ·rintro m I ds ae X ⟨rfl,h0,h3,h6,rfl⟩ hX;refine aJ h0 ?_;refine fV func113 rfl ah ah Iv ?_;rw[XV];refine aJ h3 ?_;refine mh (t:=222) (v:=.agg #[hT 296]) (recv:=.agg #[hT 296]) (f:=333) (name:= "AssignableTo") ?_ (λQ H h=>by rw[FN];exact h) ?_
  ·exact au
  refine ag ?_;refine fV func333 rfl ah ah Iw ?_;rw[Xw];have l6:∀o,(U.set b6 o).f b6=some o:=λ_=>Hp.bD _ _;refine bu h6 l6 ?_;refine fV func114 rfl ah ah VZ ?_;refine XC (a:=b) (t:=t) (e:=297) ((Hp.ay (n6 hb)).trans hb) ?_;refine aJ h0 ?_;refine fV func61 rfl ah ah Fl ?_;show wpS prog (ReflectliteValue.unpack (.iface 296 (.agg #[pV i]))) _ _ _;rw[XX];intro b9 pc
  have n9:∀{x:Nat} {o:Obj},U.f x=some o->¬x=b9:=by intro x o h e;subst e;have h1:(U.set b6 (.cells [hT 297,pV b,.int .u64 150].toArray 140 (0,0))).f x=some o:=(Hp.ay (n6 h)).trans h;have h2:(U.set b6 (.cells [hT 297,pV b,.int .u64 150].toArray 140 (0,0))).f x=none:=pc;rw[h1]at h2;cases h2
  refine ag ?_;refine fV func115 rfl ah ah V0 ?_;refine XS (t:=t) (b:=b9) (i:=i) (old:=old) (e1:=296) aX ((Hp.ay (n9 ht)).trans ((Hp.ay (n6 ht)).trans ht)) ?_;refine ag ?_;refine an (J:=(U.set t (.cells [pV i].toArray 296 (0,0)))) aI ?_ ⟨by simp[up],rfl⟩;exact iv (λx p h=>(Hp.ay (n9 h)).trans ((Hp.ay (n6 h)).trans h)) _ _
def Xn(h0:U.f 0=some (.cells #[rT 45] et (0,0)))(ht:U.f t=some (.cells [old].toArray 296 (0,0))):
 aw E 41 #[.iface 296 (.agg #[pV i]),.iface 297 (pV t)] U λe J=>e=.returned (.bool true)/\J=U.set t (.cells [pV i].toArray 296 (0,0)):=by
 refine fZ func41 ntmps41 results41 rfl al λQ aD an aB=>?_;refine ag ?_;refine fV func61 rfl ah ah Fl ?_;show wpS prog (ReflectliteValue.unpack (.iface 297 (pV t))) _ _ _;rw[OL];intro b hb;have nb:∀{x o},U.f x=some o->¬x=b:=λh e=>by subst e;rw[hb]at h;cases h
 refine ag ?_;refineλb5 lZ=>?_;have yh:¬b5=b:=bl lZ aX;rw[Hp.ay yh]at lZ
 have n5:∀{x:Nat} {o:Obj},U.f x=some o->¬x=b5:=by intro x o h e;subst e;rw[lZ]at h;cases h
 have l5:∀(H:Hp) (o:Obj),(H.set b5 o).f b5=some o:=λ_ _=>Hp.bD _ _;have lb:∀o o',((U.set b o).set b5 o').f b=some o:=λo o'=>(Hp.ay (λe=>yh e.symm)).trans aX;have lo:∀{x:Nat} {p:Obj} o o',U.f x=some p->((U.set b o).set b5 o').f x=some p:=λo o' h=>(Hp.ay (n5 h)).trans ((Hp.ay (nb h)).trans h);refine aJ l5 ?_;refine fV func62 rfl ah ah NG ?_;rw[OJ];refine ag ?_;refine mh (t:=222) (v:=.agg #[hT 297]) (recv:=hT 297) (f:=319) (name:= "Kind") ?_ (λQ H h=>by rw[AG];exact h) ?_
 ·exact au
 refine ag ?_;refine fV func319 rfl ah ah Ce ?_;show wpS prog (ReflectliteType.abiMethod (λt=>(λa:Nat=>Value.int IntKind.u8 (a:Int))<$>Rtype.kind t) #[hT 297]) _ _ _;rw[OF];refine aJ l5 ?_;rw[Hp.set_set];refine fV func63 rfl ah ah NH ?_;refine OD (a:=b) (t:=t) (e:=297) (lb _ _) ?_;refine ag ?_;refine mh (t:=222) (v:=.agg #[hT 297]) (recv:=.agg #[hT 297]) (f:=335) (name:= "Elem") ?_ (λQ H h=>by rw[I8];exact h) ?_
 ·exact au
 refine ag ?_;refine fV func335 rfl ah ah ND ?_;rw[OB];refine ag ?_;refine mh (t:=222) (v:=.agg #[hT 296]) (recv:=hT 296) (f:=319) (name:= "Kind") ?_ (λQ H h=>by rw[AG];exact h) ?_
 ·exact au
 refine ag ?_;refine fV func319 rfl ah ah Ce ?_;show wpS prog (ReflectliteType.abiMethod (λt=>(λa:Nat=>Value.int IntKind.u8 (a:Int))<$>Rtype.kind t) #[hT 296]) _ _ _;rw[OE];have l0:∀o o',((U.set b o).set b5 o').f 0=some (.cells #[rT 45] et (0,0)):=λo o'=>lo o o' h0;refine aJ l0 ?_;refine mh (t:=222) (v:=.agg #[hT 296]) (recv:=.agg #[hT 296]) (f:=336) (name:= "Implements") ?_ (λQ H h=>by rw[I9];exact h) ?_
 ·exact au
 refine ag ?_;refine fV func336 rfl ah ah NF ?_;rw[OC];refine aJ l5 ?_;refine aZ (Xs (b:=b) (lb _ _) (lo _ _ ht)) ?_;refine ag ?_;refine an (J:=(U.set t (.cells [pV i].toArray 296 (0,0)))) aI ?_ ⟨by simp[up],rfl⟩;exact iv (λx p h=>lo _ _ h) _ _
variable {nm:String}{sg:TypeId}
def akb{got:Array Method}(h:(got.any λm=>m.name==nm&&m.sig==sg)=false):∃m,Instr.missingMethod #[(nm,sg)] got=some m:=by
 unfold Instr.missingMethod;by_cases c:(Char.ofNat (nat_lit 46))∈nm.toList
 ·simp[h,List.partition,List.partition.loop,c,Instr.least]
 ·simp[h,List.partition,List.partition.loop,c,Instr.least]
def Ic{D T:TypeId}{aut IT:TypeInfo}(hu:prog.underlying T=some (.interface #[(nm,sg)]))(hi:prog.info? D=some aut)(hm:(aut.methods.any λm=>m.name==nm&&m.sig==sg)=false)(hT:prog.info? T=some IT)(hz:IT.zero=some .nilIface)(Q:Value->Hp->Prop)(H:Halt->Hp->Prop):wpS prog (Instr.typeAssert (.iface D v) 45 T true) Q H U=Q (.tuple #[.nilIface,.bool false]) U:=by
 obtain⟨m,rU⟩:=akb hm;simp only[Instr.typeAssert,aG,eg,hu,gu,hi,rU,if_true,zeroValue,hT,hz,bt]
def ap5(Q:Value->Hp->Prop)(H:Halt->Hp->Prop):wpS prog (Instr.typeAssert (.iface 214 (pV i)) 45 227 true) Q H U=Q (.tuple #[.nilIface,.bool false]) U:=
 Ic (nm:= "As") (sg:=229) (aut:=t214) (IT:=t227) ah ah jU ah ah Q H
def ap4(Q:Value->Hp->Prop)(H:Halt->Hp->Prop):wpS prog (Instr.typeAssert (.iface 214 (pV i)) 45 230 true) Q H U=Q (.tuple #[.iface 214 (pV i),.bool true]) U:=ah
def ap1{i:Int}(Q:Value->Hp->Prop)(H:Halt->Hp->Prop):wpS prog (Instr.typeAssert (.iface 215 (iV i)) 45 227 true) Q H U=Q (.tuple #[.nilIface,.bool false]) U:=
 Ic (nm:= "As") (sg:=229) (aut:=t215) (IT:=t227) ah ah jU ah ah Q H
def ap2{i:Int}(Q:Value->Hp->Prop)(H:Halt->Hp->Prop):wpS prog (Instr.typeAssert (.iface 215 (iV i)) 45 230 true) Q H U=Q (.tuple #[.nilIface,.bool false]) U:=
 Ic (nm:= "Unwrap") (sg:=231) (aut:=t215) (IT:=t230) ah ah jU ah ah Q H
def ap3{i:Int}(Q:Value->Hp->Prop)(H:Halt->Hp->Prop):wpS prog (Instr.typeAssert (.iface 215 (iV i)) 45 232 true) Q H U=Q (.tuple #[.nilIface,.bool false]) U:=
 Ic (nm:= "Unwrap") (sg:=234) (aut:=t215) (IT:=t232) ah ah jU ah ah Q H
def Nd{D T:TypeId}{l:Array (String×TypeId)}(hu:prog.underlying T=some (.interface l)):lP prog T (.iface D v)=none:=by simp only[lP,hu]
def Vp{D:TypeId}:lP prog 227 (.iface D v)=none:=Nd (l:=#[("As",229)]) ah
def Vq{D:TypeId}:lP prog 230 (.iface D v)=none:=Nd (l:=#[("Unwrap",231)]) ah
def ap6{D:TypeId}:lP prog 232 (.iface D v)=none:=Nd (l:=#[("Unwrap",234)]) ah
def XU:wpS prog (ReflectliteType.typeOf #[.iface 215 v]) Q H U=Q (rT 215) U:=ah
def Xv:wpS prog (ReflectliteType.relation "AssignableTo" ReflectliteType.assignableTo #[.agg #[hT 215],rT 296]) Q H U=Q (.bool false) U:=ah
def XJ{QM:FuncId×Value->Hp->Prop}:wpS prog (method (prog.types.size+Made.depth) 214 (pV i) "Unwrap") QM H U=QM (330,pV i) U:=ah
variable {H:Hid}{I:av}{ds:List Deferred}{dst:Option Tmp}{ty:TypeId}{pos:String}{af:Array Edge}{g:Option (Nat×Bool)}{nx:av->List Deferred->Hp->Prop}{pn:List PanicEntry->Hp->Prop}
def Fa{x:Operand}{t a D:TypeId}{r:Value}{k:Value->Prop}{o:Option Value}(ho:o=none)(hk:∀(Q:Value->Hp->Prop) (H:Halt->Hp->Prop),wpS prog (Instr.typeAssert (.iface D v) t a true) Q H U=Q r U)(hx:ak I x=.iface D v)(h:nx (aC I dst r) ds U):lN (wpOp E ⟨dst,.typeAssert x t a true,ty,pos,af,g⟩ I ds U nx pn) k o:=by
 subst ho;show wpOp E ⟨dst,.typeAssert x t a true,ty,pos,af,g⟩ I ds U nx pn;unfold wpOp;simp only[execOp,lU,hx];rw[hk];exact h
variable {e:Int}{x y:Value}
def aqK(hi:U.f i=some (.cells [iV e,x,y].toArray 217 (0,0))):aw E 330 #[pV i] U λe' J=>e'=.returned (.iface 215 (iV e))/\J=U:=by refine aV func330 ntmps330 results330 λQ aD an aB=>?_;refine aJ hi ?_;exact an aI ao ⟨by simp[up],rfl⟩
def Xr(hi:U.f i=some (.cells [iV e,x,y].toArray 217 (0,0))):
 aw E 64 #[.iface 214 (pV i),.iface 297 (pV t),.agg #[hT 297,pV b,.int .u64 150],rT 296] U λe J=>e=.returned (.bool false)/\J=U:=by
 refine fZ func64 ntmps64 results64 rfl al λQ aD an aB=>?_;refine ag ?_;refineλb6 pZ=>?_;have n6:∀{x o},U.f x=some o->¬x=b6:=λh e=>by subst e;rw[pZ]at h;cases h
 refine ag ?_;refine dh (λm I ds ae=>ds=[]/\I 3=rT 296/\I 6=pV b6/\ae=U.set b6 (.cells [hT 297,pV b,.int .u64 150].toArray 140 (0,0))/\((m=1/\I 0=.iface 214 (pV i))\/(m=0/\I 0=.iface 215 (iV e)))) 1 ?_ ?_
 ·refine⟨rfl,?_,?_,rfl,.inl ⟨rfl,?_⟩⟩<;>exact au
 ·rintro m I ds ae X ⟨rfl,h3,h6,rfl,hm⟩ hX;rcases hm with⟨rfl,h0⟩|⟨rfl,h0⟩
  ·refine aJ h0 ?_;refine fV func113 rfl ah ah Iv ?_;rw[OK];refine aJ h3 ?_;refine mh (t:=222) (v:=.agg #[hT 214]) (recv:=.agg #[hT 214]) (f:=333) (name:= "AssignableTo") ?_ (λQ H h=>by rw[FN];exact h) ?_
   ·exact au
   refine ag ?_;refine fV func333 rfl ah ah Iw ?_;rw[Xu];refine aJ h0 ?_;refine Fa Vp (ap5 (i:=i)) au ?_;refine aJ h0 ?_;refine Fa Vq (ap4 (i:=i)) au ?_;refine ag ?_;refine mh (t:=214) (v:=pV i) (recv:=pV i) (f:=330) (name:= "Unwrap") ?_ (λQ H h=>by rw[XJ];exact h) ?_
   ·exact au
   refine ag ?_;refine aZ (aqK (e:=e) (x:=x) (y:=y) ((Hp.ay (n6 hi)).trans hi)) ?_;refine ag ?_;refine hX 0 _ _ _ _ aa ⟨rfl,?_,?_,rfl,.inr ⟨rfl,?_⟩⟩ ao
   ·exact aQ h3
   ·exact aQ h6
   ·exact au
  ·refine aJ h0 ?_;refine fV func113 rfl ah ah Iv ?_;rw[XU];refine aJ h3 ?_;refine mh (t:=222) (v:=.agg #[hT 215]) (recv:=.agg #[hT 215]) (f:=333) (name:= "AssignableTo") ?_ (λQ H h=>by rw[FN];exact h) ?_
   ·exact au
   refine ag ?_;refine fV func333 rfl ah ah Iw ?_;rw[Xv];refine aJ h0 ?_;refine Fa Vp (ap1 (i:=e)) au ?_;refine aJ h0 ?_;refine Fa Vq (ap2 (i:=e)) au ?_;refine ag ?_;refine Fa ap6 (ap3 (i:=e)) au ?_;refine ag ?_;refine an (J:=U) aI ?_ ⟨?_,rfl⟩
   ·first|exact kK pZ|(rw[Hp.set_set];exact kK pZ)
   ·simp[up]
def Xm(hi:U.f i=some (.cells [iV e,x,y].toArray 217 (0,0)))(h0:U.f 0=some (.cells #[rT 45] et (0,0)))(ht:U.f t=some (.cells [old].toArray 296 (0,0))):
 aw E 41 #[.iface 214 (pV i),.iface 297 (pV t)] U λe J=>e=.returned (.bool false)/\J=U:=by
 refine fZ func41 ntmps41 results41 rfl al λQ aD an aB=>?_;refine ag ?_;refine fV func61 rfl ah ah Fl ?_;show wpS prog (ReflectliteValue.unpack (.iface 297 (pV t))) _ _ _;rw[OL];intro b hb;have nb:∀{x o},U.f x=some o->¬x=b:=λh e=>by subst e;rw[hb]at h;cases h
 refine ag ?_;refineλb5 lZ=>?_;have yh:¬b5=b:=bl lZ aX;rw[Hp.ay yh]at lZ
 have n5:∀{x:Nat} {o:Obj},U.f x=some o->¬x=b5:=by intro x o h e;subst e;rw[lZ]at h;cases h
 have l5:∀(H:Hp) (o:Obj),(H.set b5 o).f b5=some o:=λ_ _=>Hp.bD _ _;have lb:∀o o',((U.set b o).set b5 o').f b=some o:=λo o'=>(Hp.ay (λe=>yh e.symm)).trans aX;have lo:∀{x:Nat} {p:Obj} o o',U.f x=some p->((U.set b o).set b5 o').f x=some p:=λo o' h=>(Hp.ay (n5 h)).trans ((Hp.ay (nb h)).trans h);refine aJ l5 ?_;refine fV func62 rfl ah ah NG ?_;rw[OJ];refine ag ?_;refine mh (t:=222) (v:=.agg #[hT 297]) (recv:=hT 297) (f:=319) (name:= "Kind") ?_ (λQ H h=>by rw[AG];exact h) ?_
 ·exact au
 refine ag ?_;refine fV func319 rfl ah ah Ce ?_;show wpS prog (ReflectliteType.abiMethod (λt=>(λa:Nat=>Value.int IntKind.u8 (a:Int))<$>Rtype.kind t) #[hT 297]) _ _ _;rw[OF];refine aJ l5 ?_;rw[Hp.set_set];refine fV func63 rfl ah ah NH ?_;refine OD (a:=b) (t:=t) (e:=297) (lb _ _) ?_;refine ag ?_;refine mh (t:=222) (v:=.agg #[hT 297]) (recv:=.agg #[hT 297]) (f:=335) (name:= "Elem") ?_ (λQ H h=>by rw[I8];exact h) ?_
 ·exact au
 refine ag ?_;refine fV func335 rfl ah ah ND ?_;rw[OB];refine ag ?_;refine mh (t:=222) (v:=.agg #[hT 296]) (recv:=hT 296) (f:=319) (name:= "Kind") ?_ (λQ H h=>by rw[AG];exact h) ?_
 ·exact au
 refine ag ?_;refine fV func319 rfl ah ah Ce ?_;show wpS prog (ReflectliteType.abiMethod (λt=>(λa:Nat=>Value.int IntKind.u8 (a:Int))<$>Rtype.kind t) #[hT 296]) _ _ _;rw[OE];have l0:∀o o',((U.set b o).set b5 o').f 0=some (.cells #[rT 45] et (0,0)):=λo o'=>lo o o' h0;refine aJ l0 ?_;refine mh (t:=222) (v:=.agg #[hT 296]) (recv:=.agg #[hT 296]) (f:=336) (name:= "Implements") ?_ (λQ H h=>by rw[I9];exact h) ?_
 ·exact au
 refine ag ?_;refine fV func336 rfl ah ah NF ?_;rw[OC];refine aJ l5 ?_;refine aZ (Xr (b:=b) (lo _ _ hi)) ?_;refine ag ?_;refine an (J:=U) aI ?_ ⟨by simp[up],rfl⟩;exactλx p h=>lo _ _ h
end
end Go.Qw
