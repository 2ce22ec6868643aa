/- 38 -/
import Derived.Test.YtpiabknabfbfhaaGreatDoorFramed36
set_option linter.all false
set_option maxRecDepth 100000
set_option maxHeartbeats 8000000
namespace Go.Qw
open Go Go.Conc Go.Proofs Go.Proofs.Tryz
variable {E:Env prog}{U:Hp}{s:List UInt8}
def aku(hs:s.length<=6):aw E 42 #[sV s] U λe R=>e=.returned (iV (num s))/\R=U:=by
 refine eY func42 ntmps42 results42 rfl ak λQ aB al az=>?_;refine ag ?_;refine cZ (λm I ds R=>ds=[]/\R=U/\I 0=sV s/\∃i:Nat,i<=s.length/\m=s.length-i/\I 4=iV i/\I 3=iV (num (s.take i))) s.length ?_ ?_
 ·refine⟨rfl,rfl,?_,0,Nat.zero_le _,rfl,?_,?_⟩<;>exact au
 rintro m I ds R Y ⟨rfl,rfl,r0,i,hi,rfl,r4,r3⟩ hY;by_cases aZ:i<s.length
 ·have c1:(i:Int)<s.length:=aa;have c2:(0:Int)<=i/\(i:Int)<s.length:=aa;have w1:=fM i;have h1:=LU (s.take i);have h2:(s.take i).length=i:=by simp;omega
  have h3:(256:Nat)^i<=256^6:=Nat.pow_le_pow_right aa aa;have h4:nP s i=(((s.getD i 0).toNat:Nat):Int):=rfl;have h5:=(s.getD i 0).toNat_lt;rw[h2]at h1;simp only[go_sem,seval,r0,r3,r4,c1,c2,w1,h4];refine hY (s.length-(i+1)) _ _ _ _ aa ⟨rfl,rfl,?_,i+1,aa,rfl,?_,?_⟩ ao
  ·simp only[go_sem,seval,r0]
  ·exact aP w1
  ·refine ag ?_;rw[Uv aa aa,Ti s i aZ]
 ·have c1:¬(i:Int)<s.length:=aa;simp only[go_sem,seval,r0,r3,r4,c1];refine al aG ao ⟨?_,rfl⟩;rw[List.take_of_length_le aa];simp[up]
def aqi(h:Whole s)(aE:s≠[]):∃n t,n<=56/\s.length=n+8+t.length/\(s.drop 3).take 4=bp 4 n/\s.getD (n+7) 0=206/\s.drop (n+8)=t/\Whole t:=by
 cases h with
 |nil=>exact absurd rfl aE
 | @cons k ch p t hp ht=>
   have e:lZ k ch p++t=(bp 1 k++bp 2 ch)++(bp 4 p.length++(p++([206]++t))):=by simp[lZ]
   have l3:(bp 1 k++bp 2 ch).length=3:=by simp[cB]
   refine⟨p.length,t,hp,by rw[List.length_append,qy],?_,?_,?_,ht⟩
   ·rw[e,List.drop_left' l3,List.take_left' (cB _ _)]
   ·rw[List.getD_eq_getElem?_getD,e,List.getElem?_append_right aa,l3,List.getElem?_append_right (by rw[cB];omega),cB,List.getElem?_append_right aa];have:p.length+7-3-4-p.length=0:=aa;rw[this];rfl
   ·rw[List.drop_left' (qy _ _ _)]
def aqh(h:Whole s)(hl:s.length<=1000000000000000000):aw E 27 #[sV s,iV 64] U λe R=>e=.returned (.bool true)/\R=U:=by
 refine eY func27 ntmps27 results27 rfl ak λQ aB al az=>?_;by_cases hg:s=[65,77,81,80,0,0,9,1]
 ·have hg:=eq_true hg;refine aH hg ?_;exact al aG ao ⟨by simp[up],rfl⟩
 have hg:=eq_false hg;refine aH hg ?_;refine cZ (λm I ds R=>ds=[]/\R=U/\I 1=iV 64/\∃t,m=t.length/\Whole t/\t.length<=s.length/\I 0=sV t) s.length ?_ ?_
 ·refine⟨rfl,rfl,?_,s,rfl,h,Nat.le_refl _,?_⟩<;>exact au
 rintro m I ds R Y ⟨rfl,rfl,r1,t,rfl,ht,RG,r0⟩ hY;by_cases h0:t=[]
 ·subst h0;have c0:¬(0:Int)<(([]:List UInt8).length:Int):=ak;simp only[go_sem,seval,r0,c0];exact al aG ao ⟨by simp[up],rfl⟩
 ·obtain⟨n,u,hn,hlen,h4,adn,hd,hu⟩:=aqi ht h0;have c0:(0:Int)<t.length:=aa;have c1:¬(t.length:Int)<8:=aa;have c2:(0:Int)<=3/\(3:Int)<=7/\(7:Int)<=t.length:=aa;have afs:num (bp 4 n)=n:=akq 4 n aa;have w1:IntKind.i64.wrap ((n:Int)+8)=((n+8:Nat):Int):=cX;have w2:IntKind.i64.wrap ((n:Int)+7)=((n+7:Nat):Int):=cX;have w3:IntKind.i64.wrap 56=56:=wrap64 aa aa;have c3:¬(56:Int)<n:=aa;have c4:¬(t.length:Int)<((n+8:Nat):Int):=aa;have c5:(0:Int)<=((n+7:Nat):Int)/\((n+7:Nat):Int)<t.length:=aa;have c6:(0:Int)<=((n+8:Nat):Int)/\((n+8:Nat):Int)<=t.length/\(t.length:Int)<=t.length:=aa
  have hb:nP t (n+7)=206:=by show((((t.getD (n+7) 0).toNat:Nat)):Int)=206;rw[adn];rfl
  have nt:(decide ¬True)=false:=an;have td:List.take (t.length-(n+8)) (List.drop (n+8) t)=u:=by rw[hd];exact List.take_of_length_le aa
  simp only[go_sem,seval,r0,r1,c0,c1,c2];rw[h4];refine bz (aku (s:=bp 4 n) (by rw[cB];decide)) ?_;rw[afs];simp only[go_sem,seval,r0,r1,w1,w2,w3,c3,c4,c5,c6,hb,nt,td,Int.toNat_natCast];refine hY u.length _ _ _ _ aa ⟨rfl,rfl,?_,u,rfl,hu,aa,?_⟩ ao
  ·exact aP r1
  ·exact au
def apC:aw E 26 #[.nilIface] U λe R=>e=.returned (iV 0)/\R=U:=by refine eY func26 ntmps26 results26 rfl ak λQ aB al az=>?_;refine ag ?_;exact al aG ao ⟨by simp[up],rfl⟩
def SX.shape{α:Type}{f:α->List Value}{z e:Nat}{l:List α}{v:Value}{X:Ext}(h:SX f z e l v X):∃b c,v=.slice b l.length c:=by
 cases h with
 |none h=>exact⟨_,_,by rw[h];rfl⟩
 |«at»b c pad _ _=>exact⟨_,_,rfl⟩
def alk{n:N}{T:Int}{id:Int}(atz:Inv T n)(hs:s.length<=5000):∀e∈(n.feed id s).outs,e.2.length<=1000000000000:=by
 have key:∃T' K',K'<=1000000000000/\Ok T' K' [] (n.feed id s):=by
  unfold N.feed;split
  ·exact⟨_,_,aa,atz.ok.iY⟩
  ·cases hc:n.ar id with
   |none=>
    have e1:n.recv id s=n:=by unfold N.recv N.bC N.dn;have:dw n.aD id (λc=>{c with r:={c.r with recv:=n.clock,rest:=c.r.rest++s}})=n.aD:=yt λe he hx=>absurd hx (iF hc e he);rw[this]
    rw[Cm,e1,show N.js _ n id=n from I3 (by unfold N.ph;rw[hc];rfl)];exact⟨_,_,aa,atz.ok.iY⟩
   |some c=>
    have h1:=(atz.ok.tF (s:=s) hc).ok;have h2:=atz.rest id;exact⟨_,_,aa,h1.iY⟩
 obtain⟨T',K',hK,o⟩:=key;intro e he;unfold N.outs at he;obtain⟨h1,_⟩:=List.mem_filter.1 he;obtain⟨x,hx,rfl⟩:=List.mem_map.1 h1;have:=(o.c x.1 x.2 (ni o.nc hx)).r.out;simp only;omega
section
variable {U:Hp}{φ:Hp}
variable {W:World}
def ab2 {l:List (List UInt8)}{L1:List Value}{ab off cap ez:Nat}{cs:List Value}{fz:Nat×Nat}(hb:Base U L1)(dq:U.f ab=none)
 (jQ:∀i (h:i<l.length),cs[off+i]? =some (sV l[i])) (Df:l.length<=9223372036854775807):
 aw (nF W φ) 6 #[.slice (some ⟨ab,off,none⟩) l.length cap] (U.set ab (.cells cs.toArray ez fz)) λe R=>e=.returned (.bool true)/\R.f 0=U.f 0/\R.f 1=U.f 1/\R.f ab=some (.cells cs.toArray ez fz):=by
 obtain⟨o,ho⟩:∃o,o=Obj.cells cs.toArray ez fz:=⟨_,rfl⟩;rw[<-ho];refine aX func6 ntmps6 results6 λQ aB al az=>?_;refine ag ?_;refine aJ (aom (λφ=>Oj (h:=0) an hb Ol Ty Tz) dq) ?_;rintro v R ⟨bY,AD,rfl,gb,hv,F8⟩
 cases hv
 rw[Iy]at F8;have hg:=F8.add AD o;refine ag ?_;refine cZ (λk I ds bY=>ds=[]/\I 0=.slice (some ⟨ab,off,none⟩) l.length cap/\I 3=pV gb/\I 4=iV 1/\∃(i:Nat) (n:N),k=40-i/\i<=40/\i<=l.length/\I 5=iV i/\NJ n/\Gw gb n [(ab,o)] bY/\Inv (10000000+4000000*(i:Int)) n) 40 ?_ ?_
 ·refine⟨rfl,?_,?_,?_,0,lr,rfl,aa,aa,?_,NJ.lr,hg,R8.mono aa⟩<;>exact au
 rintro k I ds dv Y ⟨rfl,qW,qX,wE,i,n,rfl,ar6,sJ,rX,J,AM,atz⟩ hY;have fin:∀{n:N} {R:Hp},Gw gb n [(ab,o)] R->(R.f 0=U.f 0/\R.f 1=U.f 1/\R.f ab=some o):=λhg=>⟨(Base.same hb hg).1,(Base.same hb hg).2,hg.at⟩;by_cases vB:i<l.length/\i<40
 ·obtain⟨hi,hi4⟩:=vB;have c0:(i:Int)<l.length:=aa;have c1:(i:Int)<40:=aa;have Dq:dv.f ab=some (.cells cs.toArray ez fz):=by rw[<-ho];exact AM.at
  have hx:=jQ i hi;obtain⟨s,hs⟩:∃s,s=l[i]:=⟨_,rfl⟩;rw[<-hs]at hx;have ci:(0:Int)<=i/\(i:Int)<l.length:=aa;have w3:=fM i;by_cases fR:s.length>5000
  ·have c2:(5000:Int)<s.length:=aa;simp only[go_sem,seval,qW,qX,wE,rX,c0,c1,ci,Dq,hx,c2,w3];refine hY (40-(i+1)) _ _ _ _ aa ⟨rfl,?_,?_,?_,i+1,n,rfl,aa,aa,?_,J,AM,atz.mono aa⟩ ao
   all_goals simp only[go_sem,seval,qW,qX,wE,w3]
  ·have c2:¬(5000:Int)<s.length:=aa;simp only[go_sem,seval,qW,qX,wE,rX,c0,c1,ci,Dq,hx,c2];have yF:=PC (W:=W) (φ:=φ) (id:=1) (s:=s) AM atz aa aa;have J2:=(J.feed (id:=1) (s:=s)).clean;have zd:=alk (id:=1) atz (show s.length<=5000 by omega);have Kt:=(J.feed (id:=1) (s:=s)).outs;have I2:Inv (10000000+4000000*((i+1:Nat):Int)) (n.feed 1 s).clean:=(atz.feed (id:=1) (s:=s)).mono aa;have hol:=alj (id:=1) (s:=s) atz
   cases hc:n.ar 1 with
   |none=>
    rw[hc]at yF;refine bz yF ?_;have nU:=AM.ve.1;refine fA qW qX wE rX ?_;refine bz (apB nU) ?_;have e0:¬(3:Int)=0:=an;have nt:(decide ¬True)=false:=an;refine Ey qW qX wE rX e0 nt w3 ?_;refine cZ (λm aC cV bY=>cV=[]/\aC 0=.slice (some ⟨ab,off,none⟩) l.length cap/\aC 3=pV gb/\aC 4=iV 1/\aC 5=iV i/\aC 6=.slice none 0 0/\aC 9=iV 0/\bY=dv) 0 ?_ ?_
    ·refine⟨rfl,?_,?_,?_,?_,?_,?_,rfl⟩<;>exact ic qW qX wE rX
    rintro m M8 ds4 dA Y4 ⟨rfl,q0,q3,q4,q5,q6,q9,rfl⟩ Qm;simp only[go_sem,seval,q0,q3,q4,q5,q6,q9,w3];refine hY (40-(i+1)) _ _ _ _ aa ⟨rfl,?_,?_,?_,i+1,n,rfl,aa,aa,?_,J,AM,atz.mono aa⟩ ao
    all_goals simp only[go_sem,seval,q0,q3,q4,w3]
   |some c=>
    rw[hc]at yF;refine aJ yF ?_;rintro v gH ⟨v',Xp,hv,hp,A,hA,H,a⟩
    cases hv
    obtain⟨pb,pc,rfl,Kz⟩:=hp.read a;have hg4:Gw gb (n.feed 1 s).clean [(ab,o)] gH:=Gw.drop (Y:=Xp) ⟨A,hA,H,a⟩;generalize hP:(n.feed 1 s).outs=P at*;refine fA qW qX wE rX ?_;refine bz apC ?_;have nt:(decide ¬True)=false:=an;refine ln qW qX wE rX nt ?_;refine cZ (λm aC cV bY=>cV=[]/\aC 0=.slice (some ⟨ab,off,none⟩) l.length cap/\aC 3=pV gb/\aC 4=iV 1/\aC 5=iV i/\aC 6=.slice pb P.length pc/\bY=gH/\∃j:Nat,m=P.length-j/\j<=P.length/\aC 9=iV j) P.length ?_ ?_
    ·refine⟨rfl,?_,?_,?_,?_,?_,rfl,0,rfl,Nat.zero_le _,?_⟩<;>exact ic qW qX wE rX
    rintro m M8 ds4 dA Y4 ⟨rfl,q0,q3,q4,q5,q6,fF,j,rfl,hjl,q9⟩ Qm;rw[fF];clear fF dA;by_cases hj:j<P.length
    ·have d0:(j:Int)<P.length:=aa;have dj:(0:Int)<=j/\(j:Int)<P.length:=aa;obtain⟨pa,L,rfl,Rw,CF,oR⟩:=Kz j hj;obtain⟨o1,o2,o3⟩:=Kt P[j] (List.getElem_mem hj);have ji:=zd P[j] (List.getElem_mem hj);have w4:=fM j;rw[o1]at CF;obtain⟨bs,JX⟩:∃bs,bs=P[j].2:=⟨_,rfl⟩;rw[<-JX]at oR o2 o3 ji;have f3:=eq_false o3;simp only[go_sem,seval,q0,q3,q4,q5,q6,q9,d0,dj,Rw,CF,oR];refine bz (aqh o2 aa) ?_;simp only[go_sem,seval,q0,q3,q4,q5,q6,q9,d0,dj,Rw,CF,oR,f3,nt,w4];refine Qm (P.length-(j+1)) _ _ _ _ aa ⟨rfl,?_,?_,?_,?_,?_,rfl,j+1,rfl,aa,?_⟩ ao
     all_goals simp only[go_sem,seval,q0,q3,q4,q5,q6,w4]
    ·have d0:¬(j:Int)<P.length:=aa;simp only[go_sem,seval,q0,q3,q4,q5,q6,q9,d0,w3];refine hY (40-(i+1)) _ _ _ _ aa ⟨rfl,?_,?_,?_,i+1,_,rfl,aa,aa,?_,J2,hg4,I2⟩ ao
     all_goals simp only[go_sem,seval,q0,q3,q4,w3]
 ·have tail:∀{nx:av->List Deferred->Hp->Prop} {pn:List PanicEntry->Hp->Prop} {ds:List Deferred} {d:Option Tmp} {I:av},(∀(qb:Option Addr) (qc:Nat) (cb:Option Addr) (cc:Nat) (dA:Hp),Gw gb n [(ab,o)] dA->nx (aA I d (.agg #[.slice qb n.nC.length qc,.slice cb n.aD.length cc])) ds dA)->jJ (nF W φ) 22 #[pV gb] dv d I ds nx pn:=by intro nx pn ds d I hk;refine aJ (Uh AM atz.ok) ?_;rintro v5 dA ⟨qv,cv,Xq,Y2,zf,vv,kV,kg⟩;obtain⟨cb,cc,rfl,_⟩:=kg.read;obtain⟨qb,qc,rfl⟩:=vv.shape;injection zf with zf;subst zf;have:=hk qb qc cb cc dA kV.drop.drop;simpa using this
  have q1:(1:Int)<=n.nC.length:=by have:=J.lq;simp[N.nC];omega
  have q2:(n.aD.length:Int)<=1:=by have:=J.lc;omega
  have last:∀(qb:Option Addr) (qc:Nat) (cb:Option Addr) (cc:Nat) (dA:Hp) (b2:Nat) (o2:Obj),Gw gb n [(ab,o)] dA->dA.f b2=none->((dA.set b2 o2).f 0=U.f 0/\(dA.set b2 o2).f 1=U.f 1/\(dA.set b2 o2).f ab=some o):=by
   intro qb qc cb cc dA b2 o2 kV dh;have:=fin kV;have k:∀x,(dA.f x).isSome->(dA.set b2 o2).f x=dA.f x:=λx hx=>Hp.ay λe=>by subst e;rw[dh]at hx;cases hx
   rw[k 0 (by rw[kV.ve.1];rfl),k 1 (by rw[kV.ve.2];rfl),k ab (by rw[kV.at];rfl)];exact this
  by_cases hi:i<l.length
  ·have c0:(i:Int)<l.length:=aa;have c1:¬(i:Int)<40:=aa;refine ln qW qX rX c0 c1 ?_;refine tail λqb qc cb cc dA kV=>?_;refine ag ?_;refineλb2 dh=>?_;simp only[go_sem,seval,q1,q2];refine al aG ao ⟨by simp[up],?_⟩
   first|exact last qb qc cb cc _ b2 _ kV dh|(rw[Hp.set_set];exact last qb qc cb cc _ b2 _ kV dh)
  ·have c0:¬(i:Int)<l.length:=aa;refine fA qW qX rX c0 ?_;refine tail λqb qc cb cc dA kV=>?_;refine ag ?_;refineλb2 dh=>?_;simp only[go_sem,seval,q1,q2];refine al aG ao ⟨by simp[up],?_⟩
   first|exact last qb qc cb cc _ b2 _ kV dh|(rw[Hp.set_set];exact last qb qc cb cc _ b2 _ kV dh)
def ab3 {base:Option Addr}{cap:Nat}{L1:List Value}(hb:Base U L1):
 aw (nF W φ) 6 #[.slice base 0 cap] U λe R=>e=.returned (.bool true)/\R.f 0=U.f 0/\R.f 1=U.f 1:=by
 refine aX func6 ntmps6 results6 λQ aB al az=>?_;refine ag ?_;refine aJ (Oj (h:=0) an hb Ol Ty Tz) ?_;rintro v R ⟨gb,hv,hg⟩
 cases hv
 rw[Iy]at hg;refine ag ?_;refine cZ (λk I ds bY=>ds=[]/\I 0=.slice base 0 cap/\I 3=pV gb/\I 5=iV 0/\bY=R) 0 ?_ ?_
 ·refine⟨rfl,?_,?_,?_,rfl⟩<;>exact au
 rintro k I ds dv Y ⟨rfl,qW,qX,rX,rfl⟩ hY;have c0:¬(0:Int)<((0:Nat):Int):=an;refine fA qW qX rX c0 ?_;refine aJ (Uh hg R8.ok) ?_;rintro v5 dA ⟨qv,cv,Xq,Y2,zf,vv,kV,kg⟩;obtain⟨cb,cc,rfl,_⟩:=kg.read;obtain⟨qb,qc,rfl⟩:=vv.shape;injection zf with zf;subst zf;have oU:=kV.drop.drop;have q1:(1:Int)<=lr.nC.length:=an;have q3:(lr.aD.length:Int)<=1:=an;have q2:(((lr.aD.map (·.1)).map aW).length:Int)<=1:=an;refine ag ?_;refineλb2 dh=>?_;simp only[go_sem,seval,q1,q2];have k:∀x o,(dA.f x).isSome->(dA.set b2 o).f x=dA.f x:=λx o hx=>Hp.ay λe=>by subst e;rw[dh]at hx;cases hx
 have:=Base.same hb oU;refine al aG ao ⟨by simp[up];exact q3,?_⟩
 first
  |(rw[k 0 _ (by rw[oU.ve.1];rfl),k 1 _ (by rw[oU.ve.2];rfl)];exact this)
  |(rw[Hp.set_set,k 0 _ (by rw[oU.ve.1];rfl),k 1 _ (by rw[oU.ve.2];rfl)];exact this)
end
end Go.Qw
