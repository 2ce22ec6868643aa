/- 17 -/
import Derived.Test.YtpiabknabfbfhaaGreatDoorKept16
set_option linter.all false
set_option maxRecDepth 100000
set_option maxHeartbeats 8000000
namespace Go.Qw
open Go Go.Conc Go.Proofs Go.Proofs.Tryz
inductive SX {α:Type} (f:α->List Value) (z:Nat) (e:TypeId) (l:List α):Value->Ext->Prop
 |none:l=[]->SX f z e l (.slice Option.none 0 0) []
 |at(a c:Nat) (pad:List Value):l.length<=c->z*(c-l.length)<=pad.length->SX f z e l (.slice (some ⟨a,0,Option.none⟩) l.length c) [(a,.cells (l.flatMap f++pad).toArray e (0,0))]
def acA{α:Type}{f:α->List Value}{z:Nat}(hf:∀a,(f a).length=z)(l:List α):(l.flatMap f).length=z*l.length:=by
 induction l with
 |nil=>rfl
 |cons e l ih=>rw[List.flatMap_cons,List.length_append,ih,hf,List.length_cons,Nat.mul_succ];omega
section
variable {E:Env prog}{H:Hid}{n:N}{X:Ext}{U:Hp}{c:CN}{I:av}{ds:List Deferred}{dst:Option Tmp}{ty:TypeId}{pos:String}{af:Array Edge}{nx:av->List Deferred->Hp->Prop}{pn:List PanicEntry->Hp->Prop}
variable {A:Lay}{id:Int}
variable {g:Option (Nat×Bool)}
def V5 {t:TypeId}(el:oO prog t)(hz:el.zero.size=el.z)(k:Nat):(Builtin.zeroCells el.zero k).toList.length=k*el.z:=by rw[Array.length_toList];simp[Builtin.zeroCells,hz]
def Xh {α:Type}{f:α->List Value}{t u:TypeId}(el:oO prog t)(hu:BO prog u=true)(hf:∀a,(f a).length=el.z)(hz:el.zero.size=el.z)(hby:el.bytes<=100)(SE:1<=el.z)(kV:∀a,(f a).toArray.all dn=true)
 {x y:Operand} {l:List α} {v0:Value} {Xp:Ext} {m:α} {bn:Nat} (hv:SX f el.z el.e l v0 Xp) (a:aq A H n (Xp++X) U) (hx:ak I x=v0) (hy:ak I y=.slice (some ⟨bn,0,none⟩) 1 1) (cD:U.f bn=some (.cells (f m).toArray el.e (0,0))) (gn:l.length<=1000000)
 (h:∀v' Cr J,SX f el.z el.e (l++[m]) v' Cr->aq A H n (Cr++X) J->nx (aC I dst v') ds J):
 aT E ⟨dst,.call ⟨.builtin .append,#[x,y],#[t,u]⟩,ty,pos,af,g⟩ I ds U nx pn:=by
 have hn:tB (ak I y)=some 1:=by rw[hy];rfl
 have uu:(f m).toArray.size=el.z:=by simp[hf]
 have iZ:jd U el.z 1 (ak I y)=some (f m).toArray:=by
  rw[hy];show cellsOf U ⟨bn,0,none⟩ (1*el.z)=_;have e:0+1*el.z<=(f m).length:=by rw[hf];omega
  simp only[cellsOf,cD,List.size_toArray,true_and,if_pos e];congr 1;apply Array.ext';have e5:(f m).take el.z=f m:=List.take_of_length_le (by rw[hf];exact Nat.le_refl _);simp[e5]
 have il:∀n,n<=1000000->(2*(n+1)+192)*el.bytes<=2^48:=by intro n hn;have:=Nat.mul_le_mul_left (2*(n+1)+192) hby;omega
 have hfm:(l++[m]).flatMap f=l.flatMap f++f m:=al;have DK:=acA hf l
 cases hv with
 |none h0=>
  subst h0;refine sM el (base:=none) (l:=0) (c:=0) (n:=1) (old:=#[]) (new:=_) hu hx hn rfl iZ (il 0 aa) aa (λhc=>aa) ?_;intro hc b cap fC jZ;have a1:=aq.iS (X:=X) a fC (.cells (#[]++(f m).toArray++Builtin.zeroCells el.zero (cap-(0+1))) el.e);refine h _ [_] _ (.at b cap (Builtin.zeroCells el.zero (cap-1)).toList (aY jZ) (by rw[V5 el hz,Nat.mul_comm];simp)) ?_
  have e:(([]++[m]).flatMap f++(Builtin.zeroCells el.zero (cap-1)).toList).toArray= #[]++(f m).toArray++Builtin.zeroCells el.zero (cap-(0+1)):=by apply Array.ext';simp
  rw[e];exact a1
 |«at»b c pad h1 h2=>
  have h3:U.f b=some (.cells (l.flatMap f++pad).toArray el.e (0,0)):=aq.eK (X:=X) a;have e2:l.length*el.z=(l.flatMap f).length:=by rw[DK,Nat.mul_comm]
  have hold:jd U el.z l.length (.slice (some ⟨b,0,none⟩) l.length c)=some (l.flatMap f).toArray:=by show(cellsOf U ⟨b,0,none⟩ (l.length*el.z))=_;have e:0+l.length*el.z<=(l.flatMap f).length+pad.length:=aa;simp only[cellsOf,h3,List.size_toArray,List.length_append,true_and,if_pos e];congr 1;apply Array.ext';simp[e2]
  refine sM el (base:=some ⟨b,0,none⟩) (l:=l.length) (c:=c) (n:=1) (old:=(l.flatMap f).toArray) (new:=_) hu hx hn hold iZ (il _ gn) aa ?_ ?_
  ·intro hc
   have th:el.z<=pad.length:=by refine Nat.le_trans ?_ h2;have:el.z*1<=el.z*(c-l.length):=Nat.mul_le_mul_left _ aa;omega
   have e3:((l.flatMap f++pad).toArray.extract 0 (0+l.length*el.z)++(f m).toArray++(l.flatMap f++pad).toArray.extract (0+l.length*el.z+(f m).toArray.size) (l.flatMap f++pad).toArray.size)=((l++[m]).flatMap f++pad.drop el.z).toArray:=by rw[hfm,Nat.zero_add,e2,uu];generalize l.flatMap f=L;have d1:(L++pad).take L.length=L:=List.take_left' rfl;have d2:(L++pad).drop (L.length+el.z)=pad.drop el.z:=List.drop_length_add_append ..;apply Array.ext';simp only[Array.toList_append,Array.toList_extract,List.extract_eq_take_drop,List.drop_zero,Nat.sub_zero,List.size_toArray,d1,d2];rw[List.take_of_length_le (by simp only[List.length_append,List.length_drop];omega)]
   refine⟨_,⟨_,_,h3,rfl,?_,kV m,rfl⟩,?_⟩
   ·show 0+l.length*el.z+(f m).toArray.size<=_;rw[uu];simp only[List.size_toArray,List.length_append];omega
   ·show nx _ _ (U.set b (.cells ((l.flatMap f++pad).toArray.extract 0 (0+l.length*el.z)++(f m).toArray++(l.flatMap f++pad).toArray.extract (0+l.length*el.z+(f m).toArray.size) (l.flatMap f++pad).toArray.size) el.e (0,0)));rw[e3];have e4:l.length+1=(l++[m]).length:=al;rw[e4];refine h _ [(b,_)] _ (.at b c (pad.drop el.z) (by simp;omega) ?_) (aq.vg (X:=X) a _);rw[List.length_drop,List.length_append,List.length_singleton]
    have e5:el.z*(c-l.length)=el.z*(c-(l.length+1))+el.z:=by rw[<-Nat.mul_succ];congr 1;omega
    omega
  ·intro hc b' cap fC jZ;have a1:=aq.iS a fC (.cells ((l.flatMap f).toArray++(f m).toArray++Builtin.zeroCells el.zero (cap-(l.length+1))) el.e)
   have e:((l++[m]).flatMap f++(Builtin.zeroCells el.zero (cap-(l.length+1))).toList).toArray=(l.flatMap f).toArray++(f m).toArray++Builtin.zeroCells el.zero (cap-(l.length+1)):=by apply Array.ext';simp
   have e4:l.length+1=(l++[m]).length:=al;rw[<-e]at a1|-;rw[e4]at a1|-;refine h _ [(b',_)] _ (.at b' cap (Builtin.zeroCells el.zero (cap-(l++[m]).length)).toList (aY jZ) (by rw[V5 el hz,Nat.mul_comm];omega)) ?_
   exact a1.Aa (λi=>if i=0 then 0 else i+1) (λi hi=>by
    cases i with
    |zero=>rfl
    |succ i=>rfl) (λi j _ _ e=>by split at e<;>split at e<;>omega)
end
structure QS where
 name:List UInt8
 ready:Int
 held:Int
 cons:Int
def QS.vals(q:QS):List Value:=[sV q.name,iV q.ready,iV q.held,iV q.cons]
def N.qp(n:N):List QS:=n.aN.map λe=>⟨e.1,e.2.ready.length,e.2.held,e.2.cons.length⟩
def abP:oO prog 34 where
 e:=39
 z:=4
 zero:=#[.string (B []),.int .i64 0,.int .i64 0,.int .i64 0]
 bytes:=40
 hu:=ah
 hi:=⟨t39,.agg #[.string (B []),.int .i64 0,.int .i64 0,.int .i64 0],ah,ah,ah,rfl,ah⟩
section
variable {E:Env prog}{H:Hid}{n:N}{X:Ext}{U:Hp}
variable {A:Lay}{id:Int}
def apm (a:aq A H n X U)(agK:dR cP (n.aN.map (·.1)))(hlen:n.aN.length<=12):
 aw E 34 #[pV A.br] U λe J=>∃v Y,e=.returned v/\aq A H n (Y++X) J/\Sl 77 J ((n.aN.map λe=>A.queue e.1).map dY) v/\∀{A':Lay} {H':Hid} {n':N} {ae:Hp} {X':Ext},aq A' H' n' (Y++X') ae->Sl 77 ae ((n.aN.map λe=>A.queue e.1).map dY) v:=by
 obtain⟨lq,kq,jy,gT,l8⟩:=a.mq;have R6:lq.length=n.aN.length:=by have:=l8.length_eq;simpa using this
 obtain⟨nf,zy⟩:∃nf:Nat->List UInt8,∀e∈n.aN,nf (A.queue e.1)=e.1:=by
  refine⟨λb=>((n.aN.find? λe=>decide (A.queue e.1=b)).map (·.1)).getD [],λe he=>?_⟩
  cases hf:n.aN.find? λe'=>decide (A.queue e'.1=A.queue e.1)with
  |none=>have:=List.find?_eq_none.1 hf e he;simp at this
  |some e'=>
   have h1:=List.find?_some hf;simp only[decide_eq_true_eq]at h1;have:=a.inj (.queue e'.1) (.queue e.1) (by have:=xX (List.mem_of_find?_eq_some hf);simpa[view]using this) (by have:=xX he;simpa[view]using this) (by simpa[cG]using h1);injection this with e1;simp only[hf];simpa using e1
 have th:=l8.map (·.2);simp only[List.map_map]at th;obtain⟨qs,zC,nL⟩:=zR th (xs:=n.aN.map λe=>A.queue e.1) (f:=dY) (by simp[List.map_map,Function.comp_def,dY])
 have KQ:qC U nf qs:=by intro b hb;obtain⟨e,he,rfl⟩:=List.mem_map.1 (zC.mem_iff.1 hb);obtain⟨q,hq⟩:=Option.isSome_iff_exists.1 (xX he);exact⟨_,a.tH hq,by simp[zy e he]⟩
 refine(Vg a.tU rfl jy gT.old gT.nd aa (by simpa[Function.comp_def]using nL) KQ).mono ?_;rintro e J ⟨hle,v,ys,rfl,p1,p2,p3,p4⟩
 have wD:ys=n.aN.map λe=>A.queue e.1:=by
  have e1:ys.map nf=n.aN.map (·.1):=by
   refine Ah wK I5 (((p1.trans zC).map nf).trans ?_) ?_ agK
   ·rw[List.map_map];have:(n.aN.map (nf∘λe=>A.queue e.1))=n.aN.map (·.1):=List.map_congr_left λe he=>zy e he;rw[this]
   ·rw[dR,List.pairwise_map];exact p2
  have e2:ys.map (λb=>A.queue (nf b))=ys:=by
   conv=>rhs;rw[<-List.map_id ys]
   apply List.map_congr_left;intro b hb;obtain⟨e,he,rfl⟩:=List.mem_map.1 ((p1.trans zC).mem_iff.1 hb);simp[zy e he]
  rw[<-e2];have:=congrArg (List.map A.queue) e1;simpa[List.map_map,Function.comp_def]using this
 subst wD;obtain⟨Y,a1,rn⟩:=a.IW hle p3 p4;exact⟨v,Y,rfl,a1,p3,rn⟩
end
section
variable {E:Env prog}{H:Hid}{n:N}{X:Ext}{U:Hp}{c:CN}{I:av}{ds:List Deferred}{g:Nat}{T:Int}
variable {A:Lay}{id:Int}
def Wx (g:Nat)(n:N)(X:Ext)(e:Fin)(J:Hp):Prop:=∃qv cv Xq Y,e=.returned (.agg #[qv,cv])/\SX QS.vals 4 39 n.qp qv Xq/\Gw g n (Xq++(Y++X)) J/\Sl 3 J ((n.aF.map (·.1)).map aW) cv
def apU:cC prog 36=2:=ah
def aip:dq prog 36=true:=ah
def ajf {J:Hp}{b:Nat}{a1 a2:Value}{e:Nat}(h:J.f b=some (.cells #[a1,a2] e (0,0))):jg prog 36 ⟨b,0,none⟩ J=some (.agg #[a1,a2]):=by unfold jg;rw[if_pos WX,apU];simp[cellsOf,h]
def aq.U4 {Z:Ext}{b:Nat}{o:Obj}(a:aq A H n (Z++(b,o)::X) U)(o':Obj):aq A H n (Z++(b,o')::X) (U.set b o'):=by have:=a.Af (i:=Z.length) (p:=(b,o)) al o';simpa[List.set_append]using this
def aoF {K:Nat}{ex:List Int}(h:Gw g n X U)(O:Ok T K ex n):aw E 22 #[pV g] U (Wx g n X):=by
 obtain⟨A,rfl,H,a⟩:=h;refine aV func22 ntmps22 results22 λQ aD an aB=>?_;obtain⟨lc,kc,cF,dV,lD⟩:=a.mc;have Bn:lc.length=n.aF.length:=by have:=lD.length_eq;simpa using this
 have nH:=O.lc;have hl8:=O.lq;refine ag ?_;refineλb2 dA=>?_;have g2:=λo=>(a.iS dA o).jX;have a2:=a.iS dA (.cells [.slice none 0 0,.slice none 0 0].toArray 36 (0,0));simp only[go_sem,seval,g2];generalize vS:Hp.set U b2 _=jo;replace a2:=dU a2 vS;obtain⟨lc,kc,cF,dV,lD⟩:=a2.mc;have Bn:lc.length=n.aF.length:=by have:=lD.length_eq;simpa using this
 refine aL (M1 cF dV.old dV.nd aa) ?_;rintro cv J ⟨hle,v',ys,hv,p1,p2,p3,p4⟩
 cases hv
 obtain rfl:ys=n.aF.map (·.1):=by
  refine Ah BF FM (p1.trans ?_) (p2 aa) ?_
  ·have:=lD.map (·.1);simpa[List.map_map,Function.comp_def]using this
  ·have:=O.sc;exact this.imp λh=>by simp[kg];omega
 obtain⟨Yc,a3,an7⟩:=a2.IW hle p3 p4;obtain⟨AK,AL,rfl,_⟩:=p3.read;refine ag ?_;refineλb3 ig=>?_;have g3:=λo=>(a3.iS ig o).tU;have h3:=λo=>(a3.iS ig o).jX;have a4:=a3.iS ig (.cells [.slice none 0 0,.slice AK (n.aF.map (·.1)).length AL].toArray 36 (0,0));refine aJ h3 ?_;rw[Hp.set_set];generalize hZ4:Hp.set J b3 _=V7;replace a4:=dU a4 hZ4;refine aL (apm a4 O.sq aa) ?_;rintro v fY ⟨v',Yq,hv,a5,q3,an8⟩
 cases hv
 obtain⟨base,cap,rfl,_⟩:=q3.read;have hl:(n.aN.map λe=>A.queue e.1).length=n.aN.length:=al;refine aJ hl ?_;refine dh (λm I ds ae=>ds=[]/\I 2=pV b2/\I 3=pV b3/\I 16=.slice base n.aN.length cap/\I 17=iV n.aN.length/\∃(j:Nat) (v:Value) (Xq:Ext),j+m=n.aN.length/\I 18=iV j/\SX QS.vals 4 39 (n.qp.take j) v Xq/\aq A H n (Xq++(Yq++((b3,.cells [v,.slice AK (n.aF.map (·.1)).length AL].toArray 36 (0,0))::(Yc++((b2,.cells [.slice none 0 0,.slice none 0 0].toArray 36 (0,0))::X))))) ae) n.aN.length ?_ ?_
 ·refine⟨rfl,?_,?_,?_,?_,0,.slice none 0 0,[],al,?_,.none rfl,a5⟩<;>exact aQ hl
 rintro m I ds cY Y ⟨rfl,h2,h3,xx,JU,j,v,Xq,xL,vP,xB,aj⟩ hY;have f3:cY.f b3=some (.cells #[v,.slice AK (n.aF.map (·.1)).length AL] 36 (0,0)):=(aq.ni (aq.ni aj)).eK;have f2:cY.f b2=some (.cells #[.slice none 0 0,.slice none 0 0] 36 (0,0)):=(aq.ni (aq.ni (aq.ni aj)).oW).eK
 cases m with
 |succ m=>
  have hj:j<n.aN.length:=aa;have c0:(j:Int)<n.aN.length:=aa;have sj:=an8 (aq.ni aj);obtain⟨bb2,yX,e2,r2⟩:=sj.read;simp only[Value.slice.injEq]at e2;obtain⟨rfl,_,_⟩:=e2;obtain⟨ba,L,rfl,ij,hL⟩:=r2 j (aY hj);simp only[List.getElem_map,dY]at hL;have w1:=fT j;obtain⟨nm,jJ⟩:∃nm,nm=n.aN[j].1:=⟨_,rfl⟩;rw[<-jJ]at hL;have hq:n.q? nm=some n.aN[j].2:=by rw[jJ];exact oF O.nq (List.getElem_mem hj)
  generalize qZ:n.aN[j].2=q at*;have fq:=aj.tH hq;simp only[go_sem,seval,xx,JU,vP,c0,decide_true];refine⟨aa,?_⟩;refine bu ij hL ?_;refine AP [0,1,2,3,4,5,8,9,10,11,6,12,7,13,14,15,16,17,18] ?_;obtain⟨rb,rc,iq⟩:=(aj.ft hq).shape
  obtain⟨sb,sc,lF⟩:∃b c,H.cv nm=.slice b q.cons.length c:=by
   rcases(aj.iy hq).form with⟨h1,h2⟩|⟨b,pad,h1,_⟩
   ·have:q.cons=[]:=aY h1;exact⟨_,_,by rw[h2,this];rfl⟩
   ·exact⟨_,_,by rw[h1];simp only[List.length_map];rfl⟩
  have JI:=aj.queue hq;rw[iq,lF]at fq JI;refine bN h3 f3 fq ?_;refine aZ (MK JI) ?_;refine⟨jf f3 fq,?_⟩;refine ag ?_;refine aZ (PG JI) ?_;refine⟨jf f3 fq,?_⟩;refine ag ?_;refine⟨dJ f3,?_⟩;refine ag ?_;refineλbn cD=>?_;have fr:=λo=>aj.fresh cD o;have Qv:=λo=>(aq.ni (aq.ni (fr o))).eK;simp only at Qv;have frq:=λo=>(fr o).tH hq;rw[iq,lF]at frq;refine⟨dJ Qv,?_⟩;refine ag ?_;generalize zc:Hp.set cY bn _=sF;have a6:=dU (fr _) zc;have Ks:sF.f bn=some (.cells (QS.vals ⟨nm,q.ready.length,q.held,q.cons.length⟩).toArray 39 (0,0)):=by rw[<-zc];exact Hp.bD _ _
  refine Xh abP (f:=QS.vals) ah (λ_=>rfl) rfl ai ai (λ_=>by simp[QS.vals,dn]) xB a6 ?_ ?_ Ks (by simp;omega) ?_
  ·exact au
  ·exact au
  intro v7 WN pH Q8 a7;have f37:pH.f b3=some (.cells #[v,.slice AK (n.aF.map (·.1)).length AL] 36 (0,0)):=(aq.ni (aq.ni a7)).eK;have JJ:=a7.tH hq;rw[iq,lF]at JJ;refine⟨jf f37 JJ,?_⟩;refine bu h3 f37 ?_;rw[<-List.append_assoc]at a7;have a8:=a7.U4 (.cells [v7,.slice AK (n.aF.map (·.1)).length AL].toArray 36 (0,0))
  have wB:∃b c,v7=.slice b (n.qp.take j++[(⟨nm,q.ready.length,q.held,q.cons.length⟩:QS)]).length c:=by cases Q8 with
   |none h=>simp at h
   |«at»b c pad _ _=>exact⟨_,_,rfl⟩
  obtain⟨US,UT,wB⟩:=wB;rw[wB]at a8;refine aJ wB ?_;refine⟨jf f37 JJ,?_⟩;refine bu vP w1 ?_
  have hsj:n.qp.take (j+1)=n.qp.take j++[⟨nm,q.ready.length,q.held,q.cons.length⟩]:=by
   have uo:j<n.qp.length:=by simpa[N.qp]using hj
   rw[List.take_succ_eq_append_getElem uo];congr 2;simp only[N.qp,List.getElem_map,jJ,qZ]
  refine hY m _ _ _ _ aa ⟨rfl,?_,?_,?_,?_,j+1,v7,WN,aa,?_,by rw[hsj];exact Q8,?_⟩ ao
  ·exact aQ h2
  ·exact aQ h3
  ·exact aQ xx
  ·exact aQ JU
  ·exact au
  ·rw[wB,<-List.append_assoc];exact dU a8 rfl
 |zero=>
  have c0:¬(j:Int)<n.aN.length:=aa;obtain rfl:j=n.aN.length:=aa;rw[List.take_of_length_le (by simp[N.qp])]at xB
  have wB:∃b c,v=.slice b n.qp.length c:=by cases xB with
   |none h=>exact⟨_,_,by rw[h];rfl⟩
   |«at»b c pad _ _=>exact⟨_,_,rfl⟩
  obtain⟨US,UT,wB⟩:=wB;rw[wB]at f3 xB;simp only[go_sem,seval,h2,h3,JU,vP,c0,decide_false,f3,f2];have k0:=aq.Ga (Z:=Xq) (Y:=Yq) aj;have k1:aq A H n (Xq++(Yc++(b2,.cells [.slice none 0 0,.slice none 0 0].toArray 36 (0,0))::X)) cY:=aq.Ga (Z:=Xq) (Y:=[(b3,_)]) k0;rw[<-List.append_assoc]at k1;have k2:=(k1.U4 (.cells [.slice US n.qp.length UT,.slice AK (n.aF.map (·.1)).length AL].toArray 36 (0,0)));have k3:aq A H n ((Xq++Yc)++X) _:=aq.Ga (Z:=Xq++Yc) (Y:=[(b2,_)]) k2;rw[List.append_assoc]at k3;refine an (nQ (b:=b2) ?_ aip (ajf aX)) ao ⟨_,_,Xq,Yc,rfl,xB,⟨A,rfl,H,dU k3 rfl⟩,an7 (aq.ni (dU k3 rfl))⟩;exact aQ h2
end
def N.lO(n:N)(id:Int)(s:List UInt8):List UInt8:=match n.ar id with
 |none=>[63]
 |some _=>(bq (n.feed id s).outs id).getD []
def N.then(n:N)(id:Int)(s:List UInt8):N:=match n.ar id with
 |none=>n
 |some _=>(n.feed id s).clean
def Inv.then {n:N}{T:Int}{id:Int}{s:List UInt8}(aut:Inv T n):Inv (T+402*(s.length+4107:Nat)) (n.then id s):=by
 unfold N.then;split
 ·exact aut.mono aa
 ·exact aut.feed
variable {l:List (Int×List UInt8)}{pad:List Value}
def amA{i:Nat}(h:i<l.length):(gD l++pad)[i*2]? =some (iV l[i].1)/\(gD l++pad)[i*2+1]? =some (sV l[i].2):=by
 have hl:=HG l;rw[List.getElem?_append_left aa,List.getElem?_append_left aa];clear hl
 induction l generalizing i with
 |nil=>simp at h
 |cons e l ih=>
  have e1:gD (e::l)=iV e.1::sV e.2::gD l:=by simp[gD]
  rw[e1]
  cases i with
  |zero=>exact⟨rfl,rfl⟩
  |succ i=>
   have h':i<l.length:=aY h;have:=ih h';have a1:(i+1)*2=i*2+1+1:=aa;have a2:(i+1)*2+1=i*2+1+1+1:=aa;rw[a2,a1];simpa using this
variable {c:CN}{v:Value}{Xp:Ext}
def PX.shape(h:PX l v Xp):∃b c,v=.slice b l.length c:=by
 cases h with
 |none h=>exact⟨_,_,by rw[h];rfl⟩
 |«at»a c pad _ _=>exact⟨_,_,rfl⟩
variable {X:Ext}{H:Hid}{n:N}{U:Hp}
def PX.read{A:Lay}(h:PX l v Xp)(a:aq A H n (Xp++X) U):∃b c,v=.slice b l.length c/\∀i (hi:i<l.length),∃(a:Nat) (L:List Value),b=some ⟨a,0,Option.none⟩/\U.f a=some (.cells L.toArray 55 (0,0))/\L[i*2]? =some (iV l[i].1)/\L[i*2+1]? =some (sV l[i].2):=by
 cases h with
 |none h=>exact⟨_,_,by rw[h];rfl,λi hi=>by rw[h]at hi;simp at hi⟩
 |«at»b c pad _ _=>exact⟨_,_,rfl,λi hi=>⟨b,_,rfl,aq.eK (X:=X) a,amA hi⟩⟩
def Gw.drop{g:Nat}{Y:Ext}(h:Gw g n (Y++X) U):Gw g n X U:=by obtain⟨A,e,H,a⟩:=h;exact⟨A,e,H,a.ni⟩
variable {β:Type}{l:List (Int×β)}
def W2{j:Nat}(hj:j<l.length)(h:∀e∈l.take j,¬e.1=l[j].1):bq l l[j].1=some l[j].2:=by
 have e:l=l.take j++(l[j].1,l[j].2)::l.drop (j+1):=by conv=>lhs;rw[<-List.take_append_drop j l,List.drop_eq_getElem_cons hj]
 generalize hk:l[j].1=k at*;generalize hv:l[j].2=v at*;rw[e];exact Oo h
def W3{k:Int}(h:∀e∈l,¬e.1=k):bq l k=none:=by
 unfold bq;have:(l.find? λe=>decide (e.1=k))=none:=List.find?_eq_none.2 λe he=>by simpa using h e he
 rw[this];rfl
section
variable {H:Hid}{n:N}{X:Ext}{U:Hp}{c:CN}{I:av}{ds:List Deferred}{g:Nat}{T:Int}{φ:Hp}
variable {A:Lay}{id:Int}{W:World}
def al8 {s:List UInt8}(aut:Inv T n):(n.feed id s).outs.length<=4:=by
 have h1:(n.feed id s).outs.length<=(n.feed id s).aF.length:=by unfold N.outs;refine Nat.le_trans (List.length_filter_le _ _) ?_;simp
 have h2:(n.feed id s).aF.length<=4:=by
  unfold N.feed;split
  ·exact aut.ok.lf.lc
  ·cases hc:n.ar id with
   |none=>
    have e:n.tW id s=n:=by
     have e1:n.recv id s=n:=by unfold N.recv N.bE N.dM;have:dD n.aF id (λc=>{c with r:={c.r with recv:=n.clock,rest:=c.r.rest++s}})=n.aF:=AE λe he hx=>absurd hx (jc hc e he);rw[this]
     rw[Gg,e1];exact Qn (by unfold N.ph;rw[hc];rfl)
    rw[e];exact aut.ok.lf.lc
   |some c=>exact(aut.ok.tW hc).ok.lf.lc
 omega
def MO {s:List UInt8}(h:Gw g n X U)(aut:Inv T n)(hs:s.length<=900000)(hT:T+402*(s.length+4107:Nat)+2000<=1000000000000):
 aw (nU W φ) 15 #[pV g,iV id,sV s] U λe J=>e=.returned (sV (n.lO id s))/\Gw g (n.then id s) X J:=by
 have y8:=Qm (W:=W) (φ:=φ) (id:=id) h aut hs hT;refine aV func15 ntmps15 results15 λQ aD an aB=>?_;refine ag ?_
 cases hc:n.ar id with
 |none=>
  rw[hc]at y8;have e1:n.lO id s=[63]:=by unfold N.lO;rw[hc]
  have e2:n.then id s=n:=by unfold N.then;rw[hc]
  rw[e1,e2]at an;refine aZ y8 ?_;refine ag ?_;exact an aI ao ⟨by simp[up],h⟩
 |some c=>
  rw[hc]at y8;have e1:n.lO id s=(bq (n.feed id s).outs id).getD []:=by unfold N.lO;rw[hc]
  have e2:n.then id s=(n.feed id s).clean:=by unfold N.then;rw[hc]
  rw[e1,e2]at an;have hol:=al8 (id:=id) (s:=s) aut;refine aL y8 ?_;rintro v J ⟨v',Xp,hv,hp,A,hA,H,a⟩
  cases hv
  obtain⟨b,cap,rfl,La⟩:=hp.read a;generalize atc:(n.feed id s).outs=l at*;refine ag ?_;refine dh (λm I ds ae=>ds=[]/\I 1=iV id/\I 7=.slice b l.length cap/\ae=J/\∃j:Nat,m=l.length-j/\j<=l.length/\I 9=iV j/\∀e∈l.take j,¬e.1=id) l.length ?_ ?_
  ·refine⟨rfl,?_,?_,rfl,0,rfl,Nat.zero_le _,?_,al⟩<;>exact au
  rintro m I ds cY Y ⟨rfl,h1,h7,rfl,j,rfl,hjl,h9,eC⟩ hY;by_cases hj:j<l.length
  ·have c0:(j:Int)<l.length:=aa;obtain⟨ab,L,rfl,dm,Gn,qP⟩:=La j hj;have cj:(0:Int)<=j/\(j:Int)<l.length:=aa;have w1:=fT j;by_cases fX:l[j].1=id
   ·have asX:(l[j].1:Int)=id:=fX;simp only[go_sem,seval,h1,h7,h9,c0,cj,dm,Gn,qP,fX];have:=W2 hj (by rw[fX];exact eC);rw[fX]at this;rw[this]at an;exact an aI ao ⟨by simp[up],A,hA,H,a.ni⟩
   ·simp only[go_sem,seval,h1,h7,h9,c0,cj,dm,Gn,fX,w1];refine hY (l.length-(j+1)) _ _ _ _ aa ⟨rfl,?_,?_,rfl,j+1,rfl,aa,?_,?_⟩ ao
    ·exact aQ h1
    ·exact aQ h7
    ·exact au
    ·intro e he;rw[List.take_succ_eq_append_getElem hj]at he;rcases List.mem_append.1 he with he|he
     ·exact eC e he
     ·simp only[List.mem_singleton]at he;rw[he];exact fX
  ·have c0:¬(j:Int)<l.length:=aa;refine bN h7 h9 c0 ?_;have:bq l id=none:=W3 (by rw[List.take_of_length_le aa]at eC;exact eC);rw[this]at an;exact an aI ao ⟨by simp[up],A,hA,H,a.ni⟩
end
def vH:kt:=⟨4,200,50,50,1000⟩
def nY:List UInt8:=fB 0 10 30 (aA 2 4++aA 4 200++aA 2 50)++fB 0 10 41 (aA 1 0)++fB 1 20 11 (aA 4 0)
def aqY:nY.length=49:=jU
section
variable {H:Hid}{n:N}{X:Ext}{U:Hp}{g:Nat}{T:Int}{φ:Hp}
variable {A:Lay}{id:Int}{W:World}
def RM {h:Nat}:(qd h).length<=200:=by unfold qd;simp only[List.length_append,tV,bH,List.length_cons,List.length_nil];have:pT.length=8:=rfl;omega
def aiw {h:Nat}(hh:h<=1000)(hg:Gw g n X U)(aut:Inv T n)(hl:n.aF.length<=3)(mH:n.last<=1000000000)(hT:T<=100000000000){ot:List UInt8}
 (fP:(n.connect.feed (n.last+1) (qd h)).outs=[(n.last+1,ot)]) (h1:ot.length=nY.length+22) (h2:ot.take nY.length=nY):
 aw (nU W φ) 23 #[pV g,iV h] U λe J=>e=.returned (iV (n.last+1))/\Gw g (n.connect.then (n.last+1) (qd h)) X J:=by
 refine aV func23 ntmps23 results23 λQ aD an aB=>?_;refine ag ?_;refine aL (aa0 hg aut hl mH) ?_;rintro v J ⟨hv,g1⟩
 cases hv
 have I1:=aut.connect hl;refine ag ?_;refine aZ (afh hh) ?_;refine ag ?_;have hlen:=RM (h:=h);have mF:=AO (id:=n.last+1) aut.ok;rw[if_pos rfl]at mF;have y8:=Qm (W:=W) (φ:=φ) (id:=n.last+1) (s:=qd h) g1 I1 aa aa;rw[mF]at y8;have agP:n.connect.then (n.last+1) (qd h)=(n.connect.feed (n.last+1) (qd h)).clean:=by unfold N.then;rw[mF]
 rw[agP]at an;refine aL y8 ?_;rintro v cV ⟨v',Xp,hv,hp,A,hA,H,a⟩
 cases hv
 rw[fP]at hp;obtain⟨b,cap,rfl,La⟩:=hp.read a;obtain⟨ab,L,rfl,dm,Gn,qP⟩:=La 0 al;simp only[List.getElem_cons_zero,Nat.zero_mul,Nat.zero_add]at Gn qP;refine ag ?_;refine aZ (jD (n:=4) (w:=2) ai ai) ?_;refine ag ?_;refine aZ (jD (n:=200) (w:=4) ai ai) ?_;refine ag ?_;refine aZ (jD (n:=50) (w:=2) ai ai) ?_;have l1:(aA 2 4).length+(aA 4 200).length<=9223372036854775807:=ai;have l2:(aA 2 4++aA 4 200).length+(aA 2 50).length<=9223372036854775807:=ai;refine bu l1 l2 ?_;refine aZ (sm (ch:=0) (cl:=10) (me:=30) (p:=aA 2 4++aA 4 200++aA 2 50) ai ai ai ai) ?_;refine ag ?_;refine aZ (zO (s:=[]) ai) ?_;refine ag ?_;refine aZ (sm (ch:=0) (cl:=10) (me:=41) (p:=aA 1 0) ai ai ai ai) ?_;have m1:(fB 0 10 30 (aA 2 4++aA 4 200++aA 2 50)).length+(fB 0 10 41 (aA 1 0)).length<=9223372036854775807:=ai;have m2:(fB 0 10 30 (aA 2 4++aA 4 200++aA 2 50)++fB 0 10 41 (aA 1 0)).length+(fB 1 20 11 (aA 4 0)).length<=9223372036854775807:=ai;refine aJ m1 ?_;refine aZ (jD (n:=0) (w:=4) ai ai) ?_;refine ag ?_;refine aZ (sm (ch:=1) (cl:=20) (me:=11) (p:=aA 4 0) ai ai ai ai) ?_;have eW:fB 0 10 30 (aA 2 4++aA 4 200++aA 2 50)++fB 0 10 41 (aA 1 0)++fB 1 20 11 (aA 4 0)=nY:=rfl;have c1:(([(n.last+1,ot)]:List (Int×List UInt8)).length:Int)=1:=rfl;have nt:(decide ¬True)=false:=ai;have lw:(ot.length:Int)=(nY.length:Int)+22:=aa
 have ww:IntKind.i64.wrap ((nY.length:Int)+22)=(nY.length:Int)+22:=by have:=aqY;rw[wrap64 aa aa]
 refine E1 m2 eW dm qP lw ww ?_;refine⟨aa,?_⟩;have tw0:ot.take (nY.length-0)=nY:=h2;simp only[go_sem,seval,lw,tw0,Int.toNat_natCast];exact an aI ao ⟨by simp[up],A,hA,H,a.ni⟩
def Jf:FA vH:=⟨⟨ai,ai,ai⟩,ai,ai,ai,ai,ai⟩
def OZ {h:Nat}{L1:List Value}(hh:h<=1000)(hb:Base U L1){ot:List UInt8}
 (fP:((N.new vH).connect.feed 1 (qd h)).outs=[(1,ot)]) (h1:ot.length=nY.length+22) (h2:ot.take nY.length=nY):
 aw (nU W φ) 13 #[iV h] U λe J=>∃g,e=.returned (.tuple #[pV g,iV 1])/\Gw g ((N.new vH).connect.then 1 (qd h)) [] J:=by
 refine aV func13 ntmps13 results13 λQ aD an aB=>?_;refine ag ?_;refine aL (akv (cfg:=vH) hb Jf ai ai ai ai) ?_;rintro v J ⟨g,hv,hg⟩
 cases hv
 refine ag ?_;refine aL (aiw (n:=N.new vH) hh hg (Inv.new Jf) ai ai ai fP h1 h2) ?_;rintro w J ⟨hw,hB⟩;obtain rfl:w=iV 1:=by injection hw
 simp only[go_sem,seval];exact an (ji) ao ⟨g,by simp[up],hB⟩
end
def Mz:List UInt8:=nY++ck 1 50 11 [.text [113],.long 0,.long 0]
def Uf:Mz.length=nY.length+22:=jU
def Ug:Mz.take nY.length=nY:=jU
def qu:N:=⟨vH,0,1,0,0,[(1,⟨⟨3,[],true,4,64,0,0,0,[]⟩,[(1,⟨gN,[],[]⟩)]⟩)],[([113],⟨[],0,0,[]⟩)],[]⟩
def O0:((N.new vH).connect.feed 1 (qd 0)).outs=[(1,Mz)]:=jU
def O3:(N.new vH).connect.then 1 (qd 0)=qu:=ah
def zS(ch:Nat)(key body:List UInt8):List UInt8:=fB ch 60 40 (aA 1 key.length++key)
def Bf(ch:Nat)(body:List UInt8):List UInt8:=ep 2 ch (aA 2 60++aA 2 0++aA 8 body.length)
def lL(ch:Nat)(key body:List UInt8):List UInt8:=zS ch key body++Bf ch body++dZ ch 50 body.length body
def qD:List UInt8:=[48,49,50,51,52,53,54,55,56,57,97,98,99,100,101,102,103,104,105,106,107,108,109,110,111,112,113,114,115,116,117,118,119,120,121,122]
def lv(i:Nat):List UInt8:=[(97+i % 26).toUInt8,(97+i/26 % 26).toUInt8]++(List.replicate (i % 5) qD).flatten
variable {ch m f:Nat}{b:List UInt8}
def Uo(h:b≠[]):dZ ch m (f+1) b=ep 3 ch (b.take m)++dZ ch m f (b.drop m):=by rw[dZ,if_neg h]
def Um:dZ ch m f []=[]:=by cases f<;>simp[dZ]
def Uk(hm:1<=m)(hf:b.length<=f):dZ ch m f b=dZ ch m b.length b:=MB ch m hm f b.length b hf (Nat.le_refl _)
variable {I:av}{ds:List Deferred}{dst:Option Tmp}{ty:TypeId}{pos:String}{af:Array Edge}{nx:av->List Deferred->Hp->Prop}{pn:List PanicEntry->Hp->Prop}{P:Program}{E:Env P}{g:Option (Nat×Bool)}
def Zz{s d e:TypeId}{x:Operand}{b cap:Nat}{k l:Nat}{et:TypeId}(hs:P.underlying s=some (.slice e))(hd:P.underlying d=some .string)(he:P.underlying e=some (.int .u8))(hx:ak I x=.slice (some ⟨b,0,none⟩) 2 cap)(hb:U.f b=some (.cells (.int .u8 k:: .int .u8 l::pad).toArray et (0,0)))(h:nx (aC I dst (.string (B [UInt8.ofNat k,UInt8.ofNat l]))) ds U):wpOp E ⟨dst,.convert s d x,ty,pos,af,g⟩ I ds U nx pn:=by
 unfold wpOp;simp only[execOp,convert,aG,eg,hs,hd,hx,he,Conv.bytesToString,loadCells];refine Iu (a:=⟨b,0,none⟩) hb rfl 2 0 #[] _ al ?_
 have e1:(#[]++(.int .u8 (k:Int):: .int .u8 (l:Int)::pad).toArray.extract ((⟨b,0,none⟩:Addr).off+0) ((⟨b,0,none⟩:Addr).off+0+2):Array Value)= #[.int .u8 (k:Int),.int .u8 (l:Int)]:=by apply Array.ext';simp
 rw[e1];exact h
variable {E:Env prog}{key:List UInt8}
def aj5{body:List UInt8}(dO:ch<100000)(hk:key.length<=1000)(hb:body.length<=10000):aw E 16 #[iV ch,sV key,sV body] U λe J=>e=.returned (sV (lL ch key body))/\J=U:=by
 refine fZ func16 ntmps16 results16 rfl al λQ aD an aB=>?_;refine ag ?_;refine aZ (zO (s:=key) aa) ?_;refine ag ?_;refine aZ (sm (ch:=ch) (cl:=60) (me:=40) (p:=aA 1 key.length++key) dO ai ai (by simp[bH];omega)) ?_;refine ag ?_;refine aZ (jD (n:=60) (w:=2) ai ai) ?_;refine ag ?_;refine aZ (jD (n:=0) (w:=2) ai ai) ?_;have l1:(aA 2 60).length+(aA 2 0).length<=9223372036854775807:=by simp[bH]
 refine aJ l1 ?_;refine aZ (jD (n:=body.length) (w:=8) ai aa) ?_;have l2:(aA 2 60++aA 2 0).length+(aA 8 body.length).length<=9223372036854775807:=by simp[bH]
 refine aJ l2 ?_;refine aZ (zN (kind:=2) (ch:=ch) (p:=aA 2 60++aA 2 0++aA 8 body.length) ai dO (by simp[bH])) ?_;have l3:(fB ch 60 40 (aA 1 key.length++key)).length+(ep 2 ch (aA 2 60++aA 2 0++aA 8 body.length)).length<=9223372036854775807:=by simp[tV,ju,bH];omega
 refine aJ l3 ?_;refine dh (λm I ds ae=>ds=[]/\I 0=iV ch/\ae=U/\∃(s b:List UInt8),m=b.length/\I 2=sV b/\I 7=sV s/\b.length<=body.length/\s.length+9*b.length<=100+key.length+9*body.length/\s++dZ ch 50 b.length b=lL ch key body) body.length ?_ ?_
 ·refine⟨rfl,?_,rfl,zS ch key body++Bf ch body,body,rfl,?_,?_,Nat.le_refl _,?_,rfl⟩
  ·exact au
  ·exact au
  ·exact au
  ·simp[zS,Bf,tV,ju,bH];omega
 rintro m I ds fM Y ⟨rfl,h0,eO,s,b,rfl,h2,h7,rP,jK,eE⟩ hY;rw[eO];clear eO fM;by_cases kD:b=[]
 ·subst kD;have c0:¬(0:Int)<(([]:List UInt8).length:Int):=al;refine bu h2 h7 ?_;rw[List.length_nil,Um,List.append_nil]at eE;exact an aI ao ⟨by simp[up,eE],rfl⟩
 ·have l7:0<b.length:=List.length_pos_iff.2 kD;have c0:(0:Int)<b.length:=aa
  have LD:∀k:Nat,(k=50\/k=b.length/\b.length<=50)->1<=k->k<=b.length->s++ep 3 ch (b.take k)++dZ ch 50 (b.drop k).length (b.drop k)=lL ch key body:=by
   intro k hk iB DG
   have e1:b.take 50=b.take k/\b.drop 50=b.drop k:=by
    rcases hk with rfl|⟨rfl,oj⟩
    ·exact⟨rfl,rfl⟩
    ·exact⟨by rw[List.take_of_length_le oj,List.take_of_length_le (Nat.le_refl _)],by rw[List.drop_eq_nil_of_le oj,List.drop_eq_nil_of_le (Nat.le_refl _)]⟩
   rw[<-eE];obtain⟨f,hf⟩:∃f,b.length=f+1:=⟨b.length-1,aa⟩
   conv=>rhs;rw[hf,Uo kD,e1.1,e1.2]
   rw[Uk ai (f:=f) (by rw[List.length_drop];omega),List.append_assoc]
  have fin:∀(az:av) (k:Nat),(k=50\/k=b.length/\b.length<=50)->1<=k->k<=b.length->az 0=iV ch->az 2=sV (b.drop k)->az 7=sV (s++ep 3 ch (b.take k))->Y az [] U:=by intro az k hk iB DG k0 k2 k7;refine hY (b.drop k).length _ _ _ _ (by rw[List.length_drop];omega) ⟨rfl,k0,rfl,_,_,rfl,k2,k7,by rw[List.length_drop];omega,?_,LD k hk iB DG⟩ ao;rw[List.length_append,ju,List.length_take,List.length_drop];omega
  by_cases oj:b.length>50
  ·have c1:(50:Int)<b.length:=aa;have c2:(0:Int)<=50/\(50:Int)<=b.length:=aa;refine E1 h0 h2 h7 c0 c1 c2 ?_;refine aZ (zN (kind:=3) (ch:=ch) (p:=b.take 50) ai dO (by rw[List.length_take];omega)) ?_;have l4:s.length+(ep 3 ch (b.take 50)).length<=9223372036854775807:=by rw[ju,List.length_take];omega
   have c3:(0:Int)<=50/\(50:Int)<=b.length/\(b.length:Int)<=b.length:=aa;refine fR h2 l4 c2 c3 ?_;refine fin _ 50 (.inl rfl) ai aa ?_ ?_ ?_
   ·exact aQ h0
   ·refine ag ?_;rw[List.take_of_length_le (by rw[List.length_drop];exact Nat.le_refl _)]
   ·simp only[go_sem,seval]
    try rfl
  ·have c1:¬(50:Int)<b.length:=aa;have c2:(0:Int)<=b.length/\(b.length:Int)<=b.length:=aa;have et:b.take (b.length-0)=b.take b.length:=rfl;refine E1 h0 h2 h7 c0 c1 c2 ?_;rw[et];refine aZ (zN (kind:=3) (ch:=ch) (p:=b.take b.length) ai dO (by rw[List.length_take];omega)) ?_;have l4:s.length+(ep 3 ch (b.take b.length)).length<=9223372036854775807:=by rw[ju,List.length_take];omega
   refine bN h2 l4 c2 ?_;refine fin _ b.length (.inr ⟨rfl,aa⟩) l7 (Nat.le_refl _) ?_ ?_ ?_
   ·exact aQ h0
   ·refine ag ?_;rw[List.take_of_length_le (by rw[List.length_drop];exact Nat.le_refl _)]
   ·simp only[go_sem,seval]
    try rfl
def O8{i:Nat}(hi:i<=1000000):aw E 17 #[iV i] U λe J=>e=.returned (sV (lv i))/\J=U:=by
 refine fZ func17 ntmps17 results17 rfl al λQ aD an aB=>?_;obtain⟨p,hp⟩:∃p,p=i % 26:=⟨_,rfl⟩;obtain⟨q,hq⟩:∃q,q=i/26:=⟨_,rfl⟩;obtain⟨r,hr⟩:∃r,r=q % 26:=⟨_,rfl⟩;obtain⟨t,ht⟩:∃t,t=i % 5:=⟨_,rfl⟩;have m1:(i:Int).tmod 26=(p:Int):=by rw[hp];rfl
 have m2:(i:Int).tdiv 26=(q:Int):=by rw[hq];rfl
 have m3:(q:Int).tmod 26=(r:Int):=by rw[hr];rfl
 have m4:(i:Int).tmod 5=(t:Int):=by rw[ht];rfl
 have w0:IntKind.i64.wrap (q:Int)=q:=wrap64 aa aa;have w1:IntKind.i64.wrap (97+(p:Int))=((97+p:Nat):Int):=cJ;have w2:IntKind.i64.wrap (97+(r:Int))=((97+r:Nat):Int):=cJ;have u1:IntKind.wrap .u8 ((97+p:Nat):Int)=((97+p:Nat):Int):=by rw[IntKind.wrap_u8];omega
 have u2:IntKind.wrap .u8 ((97+r:Nat):Int)=((97+r:Nat):Int):=by rw[IntKind.wrap_u8];omega
 refine jl m1 m2 w0 m3 w1 w2 u1 u2 ?_;refineλb hb=>?_;refine ag ?_;refine Zz (e:=5) (b:=b) (cap:=2) (k:=97+p) (l:=97+r) (pad:=[]) (et:=5) ah ah ah ?_ aX ?_
 ·exact au
 refine ag ?_;have gM:∀o,U.le (U.set b o):=λo x p hx=>by rw[Hp.ay (bl hb hx)];exact hx
 generalize hZ:Hp.set U b _=cY;have hle:U.le cY:=by rw[<-hZ];exact gM _
 clear hZ hb gM;refine dh (λm I ds ae=>ds=[]/\I 0=iV i/\ae=cY/\∃j:Nat,m=t-j/\j<=t/\I 4=iV j/\I 3=sV ([(97+p).toUInt8,(97+r).toUInt8]++(List.replicate j qD).flatten)) t ?_ ?_
 ·refine⟨rfl,?_,rfl,0,rfl,Nat.zero_le _,?_,?_⟩<;>exact au
 rintro m I ds fM Y ⟨rfl,h0,eO,j,rfl,hjt,h4,h3⟩ hY;rw[eO];clear eO fM;by_cases hj:j<t
 ·have c0:(j:Int)<t:=aa;have w5:=fT j
  have hal:(List.replicate j qD).flatten.length<=36*j:=by rw[List.length_flatten,List.map_replicate,List.sum_replicate_nat];have:qD.length=36:=rfl;rw[this];omega
  have l5:([(97+p).toUInt8,(97+r).toUInt8]++(List.replicate j qD).flatten).length+qD.length<=9223372036854775807:=by have:qD.length=36:=rfl;simp only[List.length_append,List.length_cons,List.length_nil];omega
  have bw:([(97+p).toUInt8,(97+r).toUInt8]++(List.replicate j qD).flatten)++qD=[(97+p).toUInt8,(97+r).toUInt8]++(List.replicate (j+1) qD).flatten:=by rw[List.append_assoc,List.replicate_succ'];simp
  generalize hss:([(97+p).toUInt8,(97+r).toUInt8]++(List.replicate j qD).flatten)=ss at*;have l6:ss.length+36<=9223372036854775807:=l5;refine oK h0 h4 h3 m4 c0 l6 w5 ?_;refine hY (t-(j+1)) _ _ _ _ aa ⟨rfl,?_,rfl,j+1,rfl,aa,?_,?_⟩ ao
  ·exact aQ h0
  ·exact au
  ·refine ag ?_;exact congrArg (λl=>Value.string (B l)) bw
 ·have c0:¬(j:Int)<t:=aa;refine mr h0 h4 h3 m4 c0 ?_;refine an (J:=U) aI hle ⟨?_,rfl⟩;have e1:j=i % 5:=aa;have:lv i=[(97+p).toUInt8,(97+r).toUInt8]++(List.replicate j qD).flatten:=by unfold lv;rw[hp,hr,hq,e1]
  simp[up,this]
def amy{c:Int}{n:Nat}(hn:0<n):∃k:Nat,yo c n=k/\k<n:=by have:=amx (c:=c) (n:=n) aa;exact⟨(yo c n).toNat,aa,aa⟩
def ahx:Inv 2000000 qu:=by have h:=((Inv.new Jf).connect ai).then (id:=1) (s:=qd 0);rw[O3]at h;have:=RM (h:=0);exact h.mono aa
def SX.one{f:QS->List Value}{z e:Nat}{x:QS}{A:Lay}(h:SX f z e [x] v Xp)(a:aq A H n (Xp++X) U):∃(b c:Nat) (L:List Value),v=.slice (some ⟨b,0,Option.none⟩) 1 c/\U.f b=some (.cells (f x++L).toArray e (0,0)):=by
 cases h with
 |none h=>cases h
 |«at»b c pad _ _=>exact⟨b,c,pad,rfl,by have:=aq.eK (X:=X) a;simpa using this⟩
def Gw.OW{g:Nat}(h:Gw g n X U):U.f 0=some (.cells #[rT 45] 143 (0,0))/\U.f 1=some (.cells BR.toArray 396 (0,0)):=by obtain⟨A,_,H,a⟩:=h;refine⟨a.b0,?_⟩;rw[<-A.qP];exact a.b1
def Base.same{J:Hp}{L1:List Value}{g:Nat}(hb:Base U L1)(h:Gw g n X J):J.f 0=U.f 0/\J.f 1=U.f 1:=by rw[hb.b0,hb.b1,h.OW.1,h.OW.2,hb.l1];exact⟨rfl,rfl⟩
inductive Zn
 |one
 |fst (ch:List (Nat×HN))
 |snd (ch:List (Nat×HN))
 |alone
def Zn.i:Zn->Int
 |one|fst _=>1
 |snd _|alone=>2
def Zn.last:Zn->Int
 |one=>1
 |_=>2
def vI(rest out:List UInt8)(ch:List (Nat×HN)):CN:=⟨⟨3,rest,true,4,64,0,0,0,out⟩,ch⟩
def Zn.aF(a:CN):Zn->List (Int×CN)
 |one=>[(1,a)]
 |fst c=>[(1,a),(2,vI [] [] c)]
 |snd c=>[(1,vI [] [] c),(2,a)]
 |alone=>[(2,a)]
def W(z:Zn)(rest out:List UInt8)(hr:HR)(un:List (Nat×(List UInt8×aR)))(R:List aR)(h k:Int):N:=⟨vH,0,z.last,k,0,z.aF (vI rest out [(1,⟨hr,un,[]⟩)]),[([113],⟨R,h,0,[]⟩)],[]⟩
variable {z:Zn}{rest out:List UInt8}{hr:HR}{un:List (Nat×(List UInt8×aR))}{R:List aR}{h k:Int}
def Od:(W z rest out hr un R h k).serve=W z rest out hr un R h k:=by cases R<;>rfl
def AA:(W z rest out hr un R h k).ar z.i=some (vI rest out [(1,⟨hr,un,[]⟩)]):=by cases z<;>rfl
def Oc:(W z rest out hr un R h k).ph z.i=3:=by cases z<;>rfl
variable {oJ:List UInt8}{u:Un}
def Oa(hn:dK true rest 64=(u,true,oJ)):(W z rest out hr un R h k).cut z.i=(u,W z oJ out hr un R h k):=by
 have e:(W z rest out hr un R h k).cut z.i=((dK true rest 64).1,(W z rest out hr un R h k).bE z.i λr=>{r with kA:=(dK true rest 64).2.1,rest:=(dK true rest 64).2.2}):=by cases z<;>rfl
 rw[e,hn]
 cases z<;>rfl
variable {HF:List UInt8}{eV:HR}{sE:List (Nat×(List UInt8×aR))}{R':List aR}{h' k':Int}
def Cq(hn:dK true rest 64=(u,true,oJ))(hi:u.idle=false)(hu:(W z oJ out hr un R h k).unit z.i u=W z oJ HF eV sE R' h' k'):(W z rest out hr un R h k).iz (f+1) z.i=(W z oJ HF eV sE R' h' k').iz f z.i:=by rw[N.iz,Oa hn,Oc,if_neg ai];simp only[hi,hu,Od];rfl
def WD(hn:dK true rest 64=(u,true,rest))(hi:u.idle=true):(W z rest out hr un R h k).iz (f+1) z.i=W z rest out hr un R h k:=by rw[N.iz,Oa hn,Oc,if_neg ai];simp only[hi];rfl
def Ob:(W z [] out hr un R h k).iz (f+1) z.i=W z [] out hr un R h k:=WD (akG _) rfl
variable {hn:HN}{cl me:Nat}{p:List UInt8}{er:Er}{n':N}
def Ts{id:Int}(hc:n.ar id=some c)(h3:c.r.ph=3)(hm:1<=c.r.de)(hh:bq c.ch 1=some hn)(aH:hn.r.closing=false)(hw:hn.r.want<=1)(l1:cl<65536)(l2:me<65536)(hM:n.method id 1 hn p cl me=.ok n' er):n.unit id ⟨1,1,aA 2 cl++aA 2 me++p,false,false⟩=n'.fault id 1 er:=by
 have e1:n.fF id c ⟨1,1,aA 2 cl++aA 2 me++p,false,false⟩=n.method id 1 hn p cl me:=by unfold N.fF;simp only[List.append_assoc,wT (w:=2) (n:=cl) l1,wT (w:=2) (n:=me) l2];unfold N.iT;simp only[h3];unfold N.kY;have:max hn.r.want 1=1:=aa;have ur:¬((1:Int).toNat:Int)>c.r.de:=aa;unfold N.jv;simp only[hh,aH,this,Int.toNat_one];simp;intro hx;omega
 unfold N.unit N.kz;simp only[hc,e1,hM];rfl
def OX{n:Nat}(h:n<4294967296):aA 8 n=aA 4 0++aA 4 n:=by
 unfold aA
 have e:∀i<4,(n/256^(8-1-i)).toUInt8=0:=λi hi=>by have:n/256^(8-1-i)=0:=Nat.div_eq_of_lt (Nat.lt_of_lt_of_le h (Nat.pow_le_pow_right (n:=256) (i:=4) ai aa));rw[this];rfl
 simp only[List.range_succ,List.range_zero,List.map_cons,List.map_nil,List.nil_append,List.cons_append];rw[e 0 ai,e 1 ai,e 2 ai,e 3 ai];rfl
variable {s:List UInt8}
def WA(hs:s≠[]):(W z [] [] hr un R h k).feed z.i s=((W z s [] hr un R h k).iz (s.length+2) z.i).lf:=by
 unfold N.feed;rw[if_neg hs];have e1:(W z [] [] hr un R h k).tW z.i s=(W z s [] hr un R h k).iz (s.length+2) z.i:=by cases z<;>rfl
 rw[e1]
def Oe(hs:s≠[])(hL:(W z s [] hr un R h k).iz (s.length+2) z.i=W z [] out eV sE R' h' k'):(W z [] [] hr un R h k).then z.i s=W z [] [] eV sE R' h' k'/\(W z [] [] hr un R h k).lO z.i s=out:=by
 have e:(W z [] [] hr un R h k).feed z.i s=W z [] out eV sE R' h' k':=by
  rw[WA hs,hL];have:(W z [] out eV sE R' h' k').lf=(W z [] out eV sE R' h' k').serve:=by cases z<;>rfl
  rw[this,Od]
 unfold N.then N.lO;simp only[AA,e];refine⟨by cases z<;>rfl,?_⟩
 cases z<;>cases out<;>rfl
def WK(aH:hr.closing=false)(hw:hr.want<=1):(W z rest out hr un R h k).unit z.i ⟨1,1,aA 2 60++aA 2 40++(aA 1 1++[113]),false,false⟩=W z rest out {hr with key:=[113],want:=2} un R h k:=
 Ts (n:=W z rest out hr un R h k) (c:=vI rest out [(1,⟨hr,un,[]⟩)]) (hn:=⟨hr,un,[]⟩) (cl:=60) (me:=40) (er:=.nil) AA rfl (by show(1:Int)<=4;decide) rfl aH hw ai ai (by cases z<;>rfl)
variable {kd:Nat}
def LF{id:Int}(hk:kd=2\/kd=3)(hc:n.ar id=some c)(h3:c.r.ph=3)(hm:1<=c.r.de)(hh:bq c.ch 1=some hn)(aH:hn.r.closing=false)(hw:hn.r.want=kd)(hM:(if kd=2 then n.header id 1 hn.r p else n.part id 1 hn.r p)=.ok n' er):n.unit id ⟨kd,1,p,false,false⟩=n'.fault id 1 er:=by
 have e1:n.fF id c ⟨kd,1,p,false,false⟩=if kd=2 then n.header id 1 hn.r p else n.part id 1 hn.r p:=by unfold N.fF;rw[if_neg (by show¬(kd:Int)=1;omega)];unfold N.iT;rw[if_neg aa,if_pos h3,if_neg (by show¬(1:Int)=0;decide)];unfold N.kY;have ur:¬((1:Int).toNat:Int)>c.r.de:=aa;rw[if_neg ur];simp only[Int.toNat_one,hh];unfold N.jv;rw[if_neg (by rw[aH];decide),if_neg (by rw[hw];simp only[Decidable.not_not];omega)];rcases hk with rfl|rfl<;>rfl
 unfold N.unit N.kz;have h8:¬(kd:Int)=8:=aa;simp only[hc,e1,hM,h8];rfl
def WC{len:Nat}(aH:hr.closing=false)(hw:hr.want=2)(h0:0<len)(h1:len<=1000):(W z rest out hr un R h k).unit z.i ⟨2,1,aA 2 60++aA 2 0++aA 8 len,false,false⟩=W z rest out {hr with want:=3,size:=len,body:=[]} un R h k:=by
 refine LF (n:=W z rest out hr un R h k) (c:=vI rest out [(1,⟨hr,un,[]⟩)]) (hn:=⟨hr,un,[]⟩) (kd:=2) (er:=.nil) (.inl rfl) AA rfl (by show(1:Int)<=4;decide) rfl aH hw ?_;rw[if_pos rfl];unfold N.header
 have e4:fp 4 (aA 4 len)=some (len,[]):=by have:=wT (w:=4) (n:=len) (s:=[]) aa;rwa[List.append_nil]at this
 rw[OX aa,List.append_assoc];simp only[wT (w:=2) (n:=60) ai,wT (w:=2) (n:=0) ai,wT (w:=4) (n:=0) ai,e4];rw[if_neg ai,if_neg (by show¬((0:Nat)>0\/(len:Int)>1000);omega)];unfold N.whole;rw[if_pos (by simp;omega)]
 cases z<;>rfl
def WH(aH:hr.closing=false)(hw:hr.want=3)(hl:((hr.body++p).length:Int)<hr.size):(W z rest out hr un R h k).unit z.i ⟨3,1,p,false,false⟩=W z rest out {hr with body:=hr.body++p} un R h k:=by
 refine LF (n:=W z rest out hr un R h k) (c:=vI rest out [(1,⟨hr,un,[]⟩)]) (hn:=⟨hr,un,[]⟩) (kd:=3) (er:=.nil) (.inr rfl) AA rfl (by show(1:Int)<=4;decide) rfl aH hw ?_;rw[if_neg ai];unfold N.part;rw[if_neg (by show¬_;simp only[];omega)];unfold N.whole;rw[if_pos hl]
 cases z<;>rfl
def amH{q:QN}(hq:n.q? key=some q)(hn:(q.ready.length:Int)+q.held<n.cfg.queue):n.jO key b=(({n with messages:=n.messages+1}:N).bK key λq=>{q with ready:=q.ready++[⟨n.messages+1,key,b,false⟩]},true):=by unfold N.jO;simp only[hq];rw[if_neg aa]
variable {no:Nat}
def aq3{id:Int}{r:HR}{q:QN}(h1:¬(r.body.length:Int)<r.size)(hq:n.q? r.key=some q)(hn:(q.ready.length:Int)+q.held<n.cfg.queue):
 n.whole id no r=.ok (({(n.cN id no λ_=>{r with want:=1})with messages:=n.messages+1}:N).bK r.key λq=>{q with ready:=q.ready++[⟨n.messages+1,r.key,r.body,false⟩]}) .nil:=by
 have:=amH (n:=n.cN id no λ_=>{r with want:=1}) (key:=r.key) (b:=r.body) (q:=q) hq hn;unfold N.whole;rw[if_neg h1];simp only[this];rfl
def WE(aH:hr.closing=false)(hw:hr.want=3)(hl:((hr.body++p).length:Int)=hr.size)(hk:hr.key=[113])(hn:(R.length:Int)+h<50):(W z rest out hr un R h k).unit z.i ⟨3,1,p,false,false⟩=W z rest out {hr with body:=hr.body++p,want:=1} un (R++[⟨k+1,[113],hr.body++p,false⟩]) h (k+1):=by refine LF (n:=W z rest out hr un R h k) (c:=vI rest out [(1,⟨hr,un,[]⟩)]) (hn:=⟨hr,un,[]⟩) (kd:=3) (er:=.nil) (.inr rfl) AA rfl (by show(1:Int)<=4;decide) rfl aH hw ?_;rw[if_neg ai];unfold N.part;rw[if_neg (by simp only[];omega)];have e:=aq3 (n:=W z rest out hr un R h k) (id:=z.i) (no:=1) (r:={hr with body:=hr.body++p}) (q:=⟨R,h,0,[]⟩) (by simp only[];omega) (by show N.q? _ hr.key=_;rw[hk];rfl) hn;simp only[hk]at e;rw[show({hr with body:=hr.body++p}:HR)=⟨hr.closing,hr.mo,hr.tag,hr.want,[113],hr.body++p,hr.size⟩by rw[<-hk]];exact e.trans (by rw[show({hr with body:=hr.body++p,want:=1}:HR)=⟨hr.closing,hr.mo,hr.tag,1,[113],hr.body++p,hr.size⟩by rw[<-hk]];cases z<;>rfl)
def EF(zp:kd=1\/kd=2\/kd=3)(hp:p.length<=56):dK true (ep kd 1 p++rest) 64=(⟨kd,1,p,false,false⟩,true,rest):=
 akF (k:=kd) (ch:=1) aa ai aa (by rw[if_pos zp];simp;omega)
def D9(zp:kd=1\/kd=2\/kd=3):(⟨kd,1,p,false,false⟩:Un).idle=false:=by rcases zp with rfl|rfl|rfl<;>rfl
def WI(aH:hr.closing=false)(hw:hr.want=3)(hk:hr.key=[113])(hn:(R.length:Int)+h<50):∀(m:Nat) (b d:List UInt8) (f:Nat),b.length<=m->b≠[]->b.length+2<=f->hr.size=(d++b).length->
 (W z (dZ 1 50 b.length b) out {hr with body:=d} un R h k).iz f z.i=W z [] out {hr with body:=d++b,want:=1} un (R++[⟨k+1,[113],d++b,false⟩]) h (k+1):=by
 intro m
 induction m with
 |zero=>intro b d f hm hb;exact absurd (List.length_eq_zero_iff.1 aa) hb
 |succ m ih=>
  intro b d f hm hb hf hz;obtain⟨l,hl⟩:∃l,b.length=l+1:=⟨b.length-1,by have:=List.length_pos_iff.2 hb;omega⟩;obtain⟨g,rfl⟩:∃g,f=g+1:=⟨f-1,aa⟩;rw[hl,dZ,if_neg hb];have hp:(b.take 50).length<=56:=by rw[List.length_take];omega
  by_cases oj:b.length<=50
  ·have e1:b.take 50=b:=List.take_of_length_le oj;have e2:b.drop 50=[]:=List.drop_eq_nil_of_le oj;have e3:dZ 1 50 l []=[]:=by cases l<;>simp[dZ]
   rw[Cq (EF (.inr (.inr rfl)) hp) (D9 (.inr (.inr rfl))) (WE (hr:={hr with body:=d}) aH hw (by rw[e1];exact hz.symm) hk hn),e1,e2,e3];obtain⟨g',rfl⟩:∃g',g=g'+1:=⟨g-1,aa⟩;exact Ob
  ·have e3:dZ 1 50 l (b.drop 50)=dZ 1 50 (b.drop 50).length (b.drop 50):=MB 1 50 ai _ _ _ (by rw[List.length_drop];omega) (Nat.le_refl _);have uH:hr.size=(d.length+b.length:Nat):=by rw[hz,List.length_append]
   rw[Cq (EF (.inr (.inr rfl)) hp) (D9 (.inr (.inr rfl))) (WH (hr:={hr with body:=d}) aH hw (by show((d++b.take 50).length:Int)<hr.size;rw[uH,List.length_append,List.length_take];omega)),e3];have e4:d++b.take 50++b.drop 50=d++b:=by rw[List.append_assoc,List.take_append_drop]
   have:=ih (b.drop 50) (d++b.take 50) g (by rw[List.length_drop];omega) (λe=>by have:=List.length_drop (i:=50) (l:=b);rw[e]at this;simp at this;omega) (by rw[List.length_drop];omega) (by rw[e4];exact hz);rw[e4]at this;exact this
def WL(hb:b≠[])(rP:b.length<=1000)(aH:hr.closing=false)(hw:hr.want<=1)(hn:(R.length:Int)+h<50):
 (W z [] [] hr un R h k).then z.i (lL 1 [113] b)=W z [] [] {hr with key:=[113],want:=1,size:=b.length,body:=b} un (R++[⟨k+1,[113],b,false⟩]) h (k+1)/\(W z [] [] hr un R h k).lO z.i (lL 1 [113] b)=[]:=by
 refine Oe (by simp[lL,zS,fB,ep,aA]) ?_;have e:(lL 1 [113] b).length+2=((dZ 1 50 b.length b).length+b.length+2+(lL 1 [113] b).length-(dZ 1 50 b.length b).length-b.length-2)+2:=aa
 have rX:b.length<=(dZ 1 50 b.length b).length:=by
  have:∀(f:Nat) (b:List UInt8),b.length<=f->b.length<=(dZ 1 50 f b).length:=by
   intro f
   induction f with
   |zero=>intro b h;simp[dZ];exact List.length_eq_zero_iff.1 aa
   |succ f ih=>
    intro b hf;rw[dZ];split
    ·simp_all
    ·have:=ih (b.drop 50) (by rw[List.length_drop];omega);rw[List.length_append,ju,List.length_take];rw[List.length_drop]at this;omega
  exact this _ _ (Nat.le_refl _)
 have R9:(lL 1 [113] b).length=14+20+(dZ 1 50 b.length b).length:=by simp[lL,zS,Bf,fB,ju,bH];omega
 have hf:(lL 1 [113] b).length+2=((lL 1 [113] b).length)+1+1:=rfl;rw[hf];unfold lL zS Bf fB;rw[List.append_assoc];have l1:(aA 2 60++aA 2 40++(aA 1 1++[113])).length<=56:=by simp[bH]
 have l2:(aA 2 60++aA 2 0++aA 8 b.length).length<=56:=by simp[bH]
 have k1:(aA 1 ([113]:List UInt8).length++[113]:List UInt8)=aA 1 1++[113]:=rfl;rw[k1,Cq (EF (.inl rfl) l1) (D9 (.inl rfl)) (WK aH hw),Cq (EF (.inr (.inl rfl)) l2) (D9 (.inr (.inl rfl))) (WC (hr:={hr with key:=[113],want:=2}) aH rfl (List.length_pos_iff.2 hb) rP)];refine(WI (hr:={hr with key:=[113],want:=3,size:=b.length,body:=[]}) aH rfl rfl hn _ b [] _ (Nat.le_refl _) hb ?_ rfl).trans rfl;simp only[List.length_append,ju,bH];omega
def oY:List UInt8:=fB 1 60 70 (aA 1 1++[113]++aA 1 0)
def vz(t:Nat):List UInt8:=fB 1 60 80 (aA 8 t++aA 1 0)
def xv(t:Nat)(again:Bool)(left:Nat):List UInt8:=fB 1 60 71 (aA 8 t++aA 1 (if again then 1 else 0)++(aA 1 1++[113])++aA 4 left)
def FT(b:List UInt8):List UInt8:=ep 2 1 (aA 2 60++aA 2 0++aA 8 b.length)++dZ 1 56 b.length b
def Vv:jE (aA 1 1++[113]++s)=some ([113],s):=by unfold jE;rw[List.append_assoc,wT ai];simp[yn]
def JG:ym (aA 1 0)=some (false,[]):=jU
def IP(hs:s=fB 1 cl me p)(hp:p.length<=52)(aH:hr.closing=false)(hw:hr.want<=1)(l1:cl<65536)(l2:me<65536)(hM:(W z [] [] hr un R h k).method z.i 1 ⟨hr,un,[]⟩ p cl me=.ok (W z [] out eV sE R' h' k') .nil):
 (W z [] [] hr un R h k).then z.i s=W z [] [] eV sE R' h' k'/\(W z [] [] hr un R h k).lO z.i s=out:=by
 subst hs;refine Oe (by simp[fB,ep,aA]) ?_;have hl:(aA 2 cl++aA 2 me++p).length<=56:=by simp[bH];omega
 have hu:(W z [] [] hr un R h k).unit z.i ⟨1,1,aA 2 cl++aA 2 me++p,false,false⟩=W z [] out eV sE R' h' k':=
  Ts (n:=W z [] [] hr un R h k) (c:=vI [] [] [(1,⟨hr,un,[]⟩)]) (hn:=⟨hr,un,[]⟩) (er:=.nil) AA rfl (by show(1:Int)<=4;decide) rfl aH hw l1 l2 hM
 have e:=EF (rest:=[]) (kd:=1) (.inl rfl) hl;rw[List.append_nil]at e;rw[fB,Cq (f:=(ep 1 1 (aA 2 cl++aA 2 me++p)).length+1) e (D9 (.inl rfl)) hu];exact Ob
def Tr{id:Int}{g:HN}:n.method id no g s 60 70=n.get id no s 60 70:=by simp[N.method]
def aj9{id:Int}{g:HN}:n.method id no g s 60 80=n.settled id no g s 60 80:=by simp[N.method]
def WB{m:aR}{ms:List aR}{t:Nat}(aH:hr.closing=false)(hw:hr.want<=1)(ht:hr.tag=t)(hk:m.key=[113]):
 (W z [] [] hr un (m::ms) h k).then z.i oY=W z [] [] {hr with tag:=t+1} (un++[(t+1,([113],m))]) ms (h+1) k/\(W z [] [] hr un (m::ms) h k).lO z.i oY=xv (t+1) m.again ms.length++FT m.body:=by
 refine IP (hs:=rfl) ai aH hw ai ai ?_;rw[Tr];unfold N.get;rw[Vv];simp only[JG];have hq:(W z [] [] hr un (m::ms) h k).q? [113]=some ⟨m::ms,h,0,[]⟩:=rfl
 have hg:(W z [] [] hr un (m::ms) h k).tag z.i 1=t:=by
  have:(W z [] [] hr un (m::ms) h k).tag z.i 1=hr.tag.toNat:=by cases z<;>rfl
  rw[this,ht];rfl
 have e2:(hr.tag+1).toNat=t+1:=by rw[ht];rfl
 have e3:hr.tag+1=(t+1:Int):=by rw[ht]
 simp only[hq,hg]
 have eo:ck 1 60 71 [.mM (t+1),.flag m.again,.text m.key,.long ms.length]=xv (t+1) m.again ms.length:=by rw[hk];unfold ck xv fB;simp[dg,eJ]
 rw[eo,<-e3,<-e2]
 cases z<;>rfl
def WG(aH:hr.closing=false)(hw:hr.want<=1):
 (W z [] [] hr un [] h k).then z.i oY=W z [] [] hr un [] h k/\(W z [] [] hr un [] h k).lO z.i oY=fB 1 60 72 []:=by
 refine IP (hs:=rfl) ai aH hw ai ai ?_;rw[Tr];unfold N.get;rw[Vv];simp only[JG]
 cases z<;>rfl
def all_none{id:Int}{p:Nat->Bool}{back:Bool}:∀{l:List (Nat×(List UInt8×aR))},(∀e∈l,p e.1=false)->n.iO id no p back l=n
 |[],_=>rfl
 |e::l,hp=>by unfold N.iO;rw[List.foldl_cons,hp e (List.mem_cons_self ..)];exact all_none λe he=>hp e (List.mem_cons_of_mem _ he)
def Wz{t:Nat}{m:aR}(aH:hr.closing=false)(hw:hr.want<=1)(ht:t<4294967296)(hn:∀e∈un,e.1≠t):
 (W z [] [] hr ((t,([113],m))::un) R h k).then z.i (vz t)=W z [] [] hr un R (h-1) k/\(W z [] [] hr ((t,([113],m))::un) R h k).lO z.i (vz t)=[]:=by
 refine IP (hs:=rfl) (by simp[bH]) aH hw ai ai ?_;rw[aj9];unfold N.settled;rw[OX ht,List.append_assoc];simp only[wT (w:=4) (n:=0) ai,wT (w:=4) (n:=t) ht,JG];have hg:bq ((t,([113],m))::un) t=some ([113],m):=by simp[bq]
 rw[if_pos (by simp[hg])];congr 1;unfold N.iO;rw[List.foldl_cons];simp only[Bool.and_false,Bool.or_false,decide_true,Bool.false_and,if_true]
 have e1:(W z [] [] hr ((t,([113],m))::un) R h k).settle z.i 1 t false=W z [] [] hr un R (h-1) k:=by
  unfold N.settle
  have hh:((W z [] [] hr ((t,([113],m))::un) R h k).h? z.i 1).bind (λh=>bq h.un t)=some ([113],m):=by
   have:(W z [] [] hr ((t,([113],m))::un) R h k).h? z.i 1=some ⟨hr,(t,([113],m))::un,[]⟩:=by cases z<;>rfl
   rw[this];exact hg
  have hd:cB ((t,([113],m))::un) t=un:=by unfold cB;rw[List.filter_cons,if_neg al];exact List.filter_eq_self.2 λe he=>by simpa using hn e he
  rw[hh];have:W z [] [] hr (cB ((t,([113],m))::un) t) R (h-1) k=_:=congrArg (λl=>W z [] [] hr l R (h-1) k) hd;rw[<-this]
  cases z<;>rfl
 rw[e1];have:=all_none (n:=W z [] [] hr un R (h-1) k) (id:=z.i) (no:=1) (p:=λt'=>decide (t'=t)) (back:=false) (l:=un) (λe he=>by simpa using hn e he);unfold N.iO at this;exact this
def mK(k:Nat):aR:=⟨(k:Int)+1,[113],lv k,false⟩
variable {g:Nat}
def hK:Nat->Nat->HR
 |0,g=>⟨false,0,g,0,[],[],0⟩
 |p+1,g=>⟨false,0,g,1,[113],lv p,(lv p).length⟩
def xi(s c:Nat):List (Nat×(List UInt8×aR)):=(List.range' s c).map λk=>(k+1,([113],mK k))
def qn(g c:Nat):List aR:=(List.range' g c).map mK
def mQ(z:Zn)(p g s:Nat):N:=W z [] [] (hK p g) (xi s (g-s)) (qn g (p-g)) ((g-s:Nat):Int) p
def FQ{i:Nat}:2<=(lv i).length/\(lv i).length<=146:=by have:qD.length=36:=rfl;unfold lv;simp only[List.length_append,List.length_cons,List.length_nil,List.length_flatten,List.map_replicate,List.sum_replicate_nat,this];omega
def Y0{i:Nat}:lv i≠[]:=λe=>by have:=(FQ (i:=i)).1;rw[e]at this;simp at this
variable {p:Nat}
def Gl:(hK p g).closing=false:=by cases p<;>rfl
def Gm:(hK p g).want<=1:=by cases p<;>simp[hK]
def aef:(hK p g).tag=g:=by cases p<;>rfl
def anM{c:Nat}:qn g (c+1)=qn g c++[mK (g+c)]:=by unfold qn;rw[List.range'_concat];simp
variable {s:Nat}
def aqz{c:Nat}:xi s (c+1)=xi s c++[(s+c+1,([113],mK (s+c)))]:=by unfold xi;rw[List.range'_concat];simp
abbrev jH:=mQ .one
def N0:jH 0 0 0=qu:=rfl
def Wo(h1:s<=g)(h2:g<=p)(h3:p-s<50):(mQ z p g s).then z.i (lL 1 [113] (lv p))=mQ z (p+1) g s/\(mQ z p g s).lO z.i (lL 1 [113] (lv p))=[]:=by
 have hl:=FQ (i:=p);have h:=WL (z:=z) (hr:=hK p g) (un:=xi s (g-s)) (R:=qn g (p-g)) (h:=((g-s:Nat):Int)) (k:=p) (b:=lv p) Y0 aa Gl Gm (by simp[qn];omega);refine⟨h.1.trans ?_,h.2⟩;have e:p+1-g=(p-g)+1:=aa;have e2:g+(p-g)=p:=aa;unfold mQ;rw[e,anM,e2]
 cases p<;>rfl
def Wm(h1:s<=g)(h2:g<p):(mQ z p g s).then z.i oY=mQ z p (g+1) s/\(mQ z p g s).lO z.i oY=xv (g+1) false (p-g-1)++FT (lv g):=by
 have e:p-g=(p-(g+1))+1:=aa;have e1:qn g (p-g)=mK g::qn (g+1) (p-(g+1)):=by rw[e];rfl
 have h:=WB (z:=z) (hr:=hK p g) (un:=xi s (g-s)) (m:=mK g) (ms:=qn (g+1) (p-(g+1))) (h:=((g-s:Nat):Int)) (k:=p) (t:=g) Gl Gm aef rfl;unfold mQ;rw[e1];refine⟨h.1.trans ?_,h.2.trans ?_⟩
 ·have e3:g+1-s=(g-s)+1:=aa;have e4:s+(g-s)=g:=aa;rw[e3,aqz,e4];have e5:({hK p g with tag:=(g:Int)+1}:HR)=hK p (g+1):=by cases p<;>rfl
  rw[e5];rfl
 ·have:(qn (g+1) (p-(g+1))).length=p-g-1:=by simp[qn];omega
  rw[this];rfl
def Wn:(mQ z p p s).then z.i oY=mQ z p p s/\(mQ z p p s).lO z.i oY=fB 1 60 72 []:=by unfold mQ;rw[Nat.sub_self];exact WG (z:=z) Gl Gm
def Wl(h1:s<g)(h2:g<=1000):(mQ z p g s).then z.i (vz (s+1))=mQ z p g (s+1)/\(mQ z p g s).lO z.i (vz (s+1))=[]:=by
 have e:g-s=(g-(s+1))+1:=aa;have e1:xi s (g-s)=(s+1,([113],mK s))::xi (s+1) (g-(s+1)):=by rw[e];rfl
 have h:=Wz (z:=z) (hr:=hK p g) (un:=xi (s+1) (g-(s+1))) (R:=qn g (p-g)) (h:=((g-s:Nat):Int)) (k:=p) (t:=s+1) (m:=mK s) Gl Gm aa (λe he=>by
  obtain⟨j,hj,rfl⟩:=List.mem_map.1 he
  have:=List.mem_range'.1 hj
  obtain⟨i,hi,rfl⟩:=this
  simp;omega)
 unfold mQ;rw[e1];refine⟨h.1.trans ?_,h.2⟩;have e2:((g-s:Nat):Int)-1=((g-(s+1):Nat):Int):=aa;rw[e2]
def Wp:(mQ z p g s).qp=[⟨[113],((p-g:Nat):Int),((g-s:Nat):Int),0⟩]:=by show [(⟨[113],((qn g (p-g)).length:Int),_,_⟩:QS)]=_;simp[qn]
def Env.same{E E':Env P}(hm:E.main=E'.main)(hs:E.st=E'.st):E=E':=by obtain⟨m,s,w,o⟩:=E;obtain⟨m',s',w',o'⟩:=E';simp only at hm hs;subst hm;subst hs;rfl
def Hp.aqD(U ψ φ:Hp):(U.bA ψ).bA φ=U.bA (ψ.bA φ):=Hp.ext' λb=>by
 simp only[Hp.bA]
 cases U.f b<;>rfl
def Hp.abz{ψ φ:Hp}(d:ψ.dr φ):(U.dr ψ/\(U.bA ψ).dr φ)↔U.dr (ψ.bA φ):=by
 constructor
 ·rintro⟨d1,d2⟩ b;rcases d1 b with e|e
  ·exact .inl e
  ·rcases d2 b with e2|e2
   ·left
    cases h:U.f b with
    |none=>rfl
    |some o=>rw[Hp.iQ h]at e2;cases e2
   ·right;rw[Hp.lS e];exact e2
 ·intro d1;refine⟨λb=>?_,λb=>?_⟩
  ·rcases d1 b with e|e
   ·exact .inl e
   ·right
    cases h:ψ.f b with
    |none=>rfl
    |some o=>rw[Hp.iQ h]at e;cases e
  ·rcases d1 b with e|e
   ·rw[Hp.lS e];exact d b
   ·right
    cases h:ψ.f b with
    |none=>rw[Hp.lS h]at e;exact e
    |some o=>rw[Hp.iQ h]at e;cases e
section
variable {U:Hp}{g:Nat}{T:Int}{φ:Hp}{hr:HR}{R:List aR}{h:Int}{f:Nat}{ψ:Hp}{args:Array Value}
variable {W:World}{f:FuncId}{R:Fin->Hp->Prop}
def apd (h:∀φ,aw (nU W φ) f args U R)(d:U.dr ψ):aw (nU W φ) f args (U.bA ψ) λe J=>∃ae,ae.dr ψ/\J=ae.bA ψ/\R e ae:=by
 by_cases dd:ψ.dr φ
 ·have e:(nU W φ).frame ψ=nU W (ψ.bA φ):=by
   refine Env.same rfl ?_
   funext g U m T
   have h1:=Hp.abz (U:=U) dd;show(U.dr ψ/\(U.bA ψ).dr φ/\(solo prog W).st g ((U.bA ψ).bA φ) m T)=(U.dr (ψ.bA φ)/\(solo prog W).st g (U.bA (ψ.bA φ)) m T);rw[Hp.aqD,<-and_assoc];exact propext (and_congr_left' h1)
  have h2:=h (ψ.bA φ);rw[<-e]at h2;exact h2.kz d
 ·rintro cs m T ⟨d2,_⟩;exfalso;apply dd;intro b;rcases d2 b with e|e
  ·left
   cases h:ψ.f b with
   |none=>rfl
   |some o=>
    rcases d b with e1|e1
    ·rw[Hp.lS e1,h]at e;cases e
    ·rw[h]at e1;cases e1
  ·exact .inr e
def apc {b:Nat}{o:Obj}(h:∀φ,aw (nU W φ) f args U R)(hb:U.f b=none):aw (nU W φ) f args (U.set b o) λe J=>∃ae,ae.f b=none/\J=ae.set b o/\R e ae:=by
 let s:Hp:=⟨λx=>if x=b then some o else none⟩
 have sb:s.f b=some o:=if_pos rfl;have sn:∀x,x≠b->s.f x=none:=λx hx=>if_neg hx
 have key:∀J:Hp,J.f b=none->J.bA s=J.set b o:=λJ h=>Hp.ext' λx=>by
  by_cases e:x=b
  ·subst e;rw[Hp.lS h,sb,Hp.bD]
  ·rw[Hp.aM _ e]
   cases hx:J.f x with
   |none=>rw[Hp.lS hx,sn x e]
   |some p=>rw[Hp.iQ hx]
 have d:U.dr s:=λx=>by
  by_cases e:x=b
  ·subst e;exact .inl hb
  ·exact .inr (sn x e)
 have:=apd (φ:=φ) h d;rw[key U hb]at this;refine this.mono ?_;rintro e J ⟨ae,d',rfl,hr⟩;have cH:ae.f b=none:=(d' b).resolve_right (by rw[sb];simp);exact⟨ae,cH,key _ cH,hr⟩
end
def Gw.add{b:Nat}(h:Gw g n X U)(hb:U.f b=none)(o:Obj):Gw g n ((b,o)::X) (U.set b o):=by obtain⟨A,hA,H,a⟩:=h;exact⟨A,hA,H,a.iS hb o⟩
def Gw.at{b:Nat}{o:Obj}(h:Gw g n ((b,o)::X) U):U.f b=some o:=by obtain⟨A,hA,H,a⟩:=h;exact a.eK
def Inv.MP{m:N}{T:Int}{s:List UInt8}(aut:Inv T n)(hs:s.length<=800)(h:n.then 1 s=m):Inv (T+2000000) m:=by subst h;exact(aut.then (id:=1) (s:=s)).mono aa
def aj6(h:b.length<=146):(lL 1 [113] b).length<=800:=by
 have key:∀(f:Nat) (b:List UInt8),(dZ 1 50 f b).length<=b.length+8*((b.length+49)/50):=by
  intro f
  induction f with
  |zero=>intro b;simp[dZ]
  |succ f ih=>
   intro b;rw[dZ];split
   ·simp
   ·rename_i hb;have:=ih (b.drop 50);have:=List.length_pos_iff.2 hb;rw[List.length_append,ju,List.length_take];rw[List.length_drop]at*;omega
 have:=key b.length b;simp only[lL,zS,Bf,List.length_append,tV,ju,bH,List.length_cons,List.length_nil];omega
section
variable {H:Hid}{n:N}{U:Hp}{c:CN}{I:av}{ds:List Deferred}{g:Nat}{φ:Hp}{z:Zn}{out:List UInt8}{h:Int}{k:Int}{f:Nat}
variable {W:World}
def KR (ab off n cap gb i p g s:Nat)(I:av):Prop:=I 0=.slice (some ⟨ab,off,none⟩) n cap/\I 3=pV gb/\I 4=iV 1/\I 5=iV p/\I 6=iV g/\I 7=iV s/\I 8=iV i
def aiK {l:List Int}{L1:List Value}{ab off cap ez:Nat}{cs:List Value}{fz:Nat×Nat}(hl:∀x∈l,-9223372036854775808<=x/\x<=9223372036854775807)(hb:Base U L1)(dm:U.f ab=none)
 (kT:∀i (h:i<l.length),cs[off+i]? =some (iV l[i])) (DK:l.length<=9223372036854775807):
 aw (nU W φ) 3 #[.slice (some ⟨ab,off,none⟩) l.length cap] (U.set ab (.cells cs.toArray ez fz)) λe J=>e=.returned (.bool true)/\J.f 0=U.f 0/\J.f 1=U.f 1/\J.f ab=some (.cells cs.toArray ez fz):=by
 obtain⟨o,ho⟩:∃o,o=Obj.cells cs.toArray ez fz:=⟨_,rfl⟩;rw[<-ho];refine aV func3 ntmps3 results3 λQ aD an aB=>?_;refine ag ?_;refine aL (apc (λφ=>OZ (h:=0) ai hb O0 Uf Ug) dm) ?_;rintro v J ⟨bW,A7,rfl,gb,hv,GG⟩
 cases hv
 rw[O3]at GG;have hg:=GG.add A7 o;refine ag ?_;refine dh (λk I ds bW=>ds=[]/\I 0=.slice (some ⟨ab,off,none⟩) l.length cap/\I 3=pV gb/\I 4=iV 1/\∃i p g s:Nat,k=60-i/\i<=60/\i<=l.length/\I 5=iV p/\I 6=iV g/\I 7=iV s/\I 8=iV i/\s<=g/\g<=p/\p<=i/\p-s<=50/\Gw gb (jH p g s) [(ab,o)] bW/\Inv (10000000+2000000*(i:Int)) (jH p g s)) 60 ?_ ?_
 ·refine⟨rfl,?_,?_,?_,0,0,0,0,rfl,aa,aa,?_,?_,?_,?_,aa,aa,aa,aa,by rw[N0];exact hg,by rw[N0];exact ahx.mono aa⟩<;>exact au
 rintro k I ds dp Y ⟨rfl,eH,fu,fE,i,p,g,s,rfl,asU,tb,fw,fy,fA,eI,h1,h2,h3,h4,xH,aut⟩ hY
 have fin:∀(x:av),Gw gb (jH p g s) [(ab,o)] dp->(dp.f 0=U.f 0/\dp.f 1=U.f 1/\dp.f ab=some o):=λx hg=>by have:=Base.same hb hg;exact⟨this.1,this.2,hg.at⟩
 by_cases hi:i<l.length
 ·have c0:(i:Int)<l.length:=aa;by_cases hi6:i<60
  ·have c1:(i:Int)<60:=aa;have GX:dp.f ab=some (.cells cs.toArray ez fz):=by rw[<-ho];exact xH.at
   have hx:=kT i hi;have xU:=hl l[i] (List.getElem_mem hi);obtain⟨x,uF⟩:∃x,x=l[i]:=⟨_,rfl⟩;rw[<-uF]at hx xU;have ci:(0:Int)<=i/\(i:Int)<l.length:=aa;have w3:=fT i;have w5:IntKind.i64.wrap ((p:Int)-(s:Int))=((p-s:Nat):Int):=cJ;have I':Inv (10000000+2000000*((i+1:Nat):Int)) (jH p g s):=aut.mono aa;refine fL λK0 C5=>?_;refine fR eH eI c0 c1 ?_;refine C5 _ _ _ (fL λK9 hK9=>Al (fL λK hK=>?_))
   have next:∀(p g s:Nat) (I:av) (J bW:Hp),KR ab off l.length cap gb i p g s I->s<=g->g<=p->p<=i+1->p-s<=50->Gw gb (jH p g s) [(ab,o)] J->Inv (10000000+2000000*((i+1:Nat):Int)) (jH p g s)->J.le bW->K9 I [] bW:=by
    rintro p g s I J bW ⟨eH,fu,fE,fw,fy,fA,eI⟩ h1 h2 h3 h4 hg aut eO;refine hK9 _ _ _ ?_;refine bu eI w3 ?_;refine hY (60-(i+1)) _ _ _ _ aa ⟨rfl,?_,?_,?_,i+1,p,g,s,rfl,aa,aa,?_,?_,?_,?_,aa,aa,aa,aa,hg,aut⟩ eO
    all_goals simp only[go_sem,seval,eH,fu,fE,fw,fy,fA]
   have tail:∀(p g s:Nat) (I:av) (fU:Hp),KR ab off l.length cap gb i p g s I->s<=g->g<=p->p<=i+1->p-s<=50->Gw gb (jH p g s) [(ab,o)] fU->Inv (10000000+2000000*((i+1:Nat):Int)) (jH p g s)->K I [] fU:=by
    rintro p g s I fU ⟨eH,fu,fE,fw,fy,fA,eI⟩ h1 h2 h3 h4 rR I3;refine hK _ _ _ ?_;refine aJ fu ?_;refine aL (aoF rR (I3).ok) ?_;rintro v5 fY ⟨qv,cv,Xq,Y2,Ln,xB,zl,lF⟩;obtain⟨cb,cc,rfl,_⟩:=lF.read;injection Ln with Ln;subst Ln;rw[Wp]at xB;obtain⟨A,hA,H,a⟩:=zl;obtain⟨qb,qc,L,rfl,we⟩:=xB.one a;have ta:Gw gb (jH p g s) [(ab,o)] fY:=Gw.drop (Gw.drop ⟨A,hA,H,a⟩);refine ag ?_;refineλb2 dA=>?_;have hbq:∀o,(fY.set b2 o).f qb=some (.cells ([sV [113],iV ((p-g:Nat):Int),iV ((g-s:Nat):Int),iV 0]++L).toArray 39 (0,0)):=λo=>by rw[Hp.ay (bl dA we)];exact we
    have hle:∀o,fY.le (fY.set b2 o):=λo x q hx=>by rw[Hp.ay (bl dA hx)];exact hx
    have v1:IntKind.i64.wrap ((p:Int)-(g:Int))=((p-g:Nat):Int):=cJ;have v2:IntKind.i64.wrap ((g:Int)-(s:Int))=((g-s:Nat):Int):=cJ;have nt:(decide ¬True)=false:=ai;refine oK fw fy fA hbq v1 v2 nt ?_;refine next p g s _ _ _ ⟨?_,?_,?_,?_,?_,?_,?_⟩ h1 h2 h3 h4 ta I3 (by first|exact hle _|(rw[Hp.set_set];exact hle _))<;>exact vp eH fu fE fw fy fA eI
   simp only[go_sem,seval,eH,fu,fE,fw,fy,fA,eI,ci,GX,hx];obtain⟨k,hk,lk⟩:=amy (c:=x) (n:=4) ai;refine aZ (amt (n:=((4:Nat):Int)) xU ai) ?_;rw[hk];by_cases h01:k<2
   ·rcases(show k=0\/k=1 by omega)with rfl|rfl
    all_goals
     by_cases asP:p-s=50
     ·have cf:((p-s:Nat):Int)=50:=aa;simp only[go_sem,seval,eH,fu,fE,fw,fy,fA,eI,w5,cf,w3];refine next p g s _ _ _ ⟨?_,?_,?_,?_,?_,?_,?_⟩ aa aa aa aa xH I' ao<;>exact vp eH fu fE fw fy fA eI
     ·have cf:¬((p-s:Nat):Int)=50:=aa;have w4:=fT p;simp only[go_sem,seval,eH,fu,fE,fw,fy,fA,eI,w5,cf];refine aZ (O8 (i:=p) aa) ?_;have rP:=FQ (i:=p);refine oK eH fu fE fw fy fA eI ?_;refine aZ (aj5 (ch:=1) (key:=[113]) (body:=lv p) ai ai aa) ?_;have R9:=aj6 rP.2;obtain⟨K1,K2⟩:=Wo (z:=.one) h1 h2 (show p-s<50 by omega);have I2:=aut.MP R9 K1;refine oK eH fu fE fw fy fA eI ?_;refine aL (MO (id:=1) (s:=lL 1 [113] (lv p)) xH aut aa aa) ?_;rintro v fU ⟨hv,rR⟩;have K3:(jH p g s).lO 1 (lL 1 [113] (lv p))=[]:=K2;rw[K3]at hv;rw[show(jH p g s).then 1 (lL 1 [113] (lv p))=jH (p+1) g s from K1]at rR
      cases hv
      have I3:Inv (10000000+2000000*((i+1:Nat):Int)) (jH (p+1) g s):=I2.mono aa;refine jl eH fu fE fw fy fA eI w4 ?_;refine tail (p+1) (g) (s) _ _ ⟨?_,?_,?_,?_,?_,?_,?_⟩ aa aa aa aa rR I3<;>exact vp eH fu fE fw fy fA eI
   rcases(show k=2\/k=3 by omega)with DF|DF
   ·obtain rfl:k=2:=aa;refine oK eH fu fE fw fy fA eI ?_;refine aZ (zO (s:=[113]) ai) ?_;refine oK eH fu fE fw fy fA eI ?_;refine aZ (jD (n:=0) (w:=1) ai ai) ?_;have j1:(aA 1 1++[113]).length+(aA 1 0).length<=9223372036854775807:=ai;refine jl eH fu fE fw fy fA eI j1 ?_;refine aZ (sm (ch:=1) (cl:=60) (me:=70) (p:=aA 1 1++[113]++aA 1 0) ai ai ai ai) ?_;have GH:oY.length<=800:=jU;have eG:fB 1 60 70 (aA 1 1++[113]++aA 1 0)=oY:=rfl;rw[eG];refine oK eH fu fE fw fy fA eI ?_;refine aL (MO (id:=1) (s:=oY) xH aut aa aa) ?_;rintro v fU ⟨hv,rR⟩
    cases hv
    by_cases hgp:g=p
    ·subst hgp;obtain⟨K1,K2⟩:=Wn (z:=.one) (p:=g) (s:=s);have K3:(jH g g s).lO 1 oY=fB 1 60 72 []:=K2;rw[show(jH g g s).then 1 oY=jH g g s from K1]at rR;rw[K3];refine oK eH fu fE fw fy fA eI ?_;refine aZ (sm (ch:=1) (cl:=60) (me:=72) (p:=[]) ai ai ai ai) ?_;have nt:(decide ¬True)=false:=ai;simp only[go_sem,seval,eH,fu,fE,fw,fy,fA,eI,nt,w3];refine next g g s _ _ _ ⟨?_,?_,?_,?_,?_,?_,?_⟩ aa aa aa aa rR I' ao<;>exact vp eH fu fE fw fy fA eI
    ·have bd:g<p:=aa;have cg:¬(g:Int)=p:=aa;obtain⟨K1,K2⟩:=Wm (z:=.one) (p:=p) (s:=s) h1 bd;have I2:=aut.MP GH K1;have I3:Inv (10000000+2000000*((i+1:Nat):Int)) (jH p (g+1) s):=I2.mono aa;rw[show(jH p g s).then 1 oY=jH p (g+1) s from K1]at rR;obtain⟨out,fP⟩:∃out,out=(jH p g s).lO 1 oY:=⟨_,rfl⟩;have K3:out=xv (g+1) false (p-g-1)++FT (lv g):=fP.trans K2;rw[<-fP];have w4:=fT g;have w6:IntKind.i64.wrap ((p:Int)-((g+1:Nat):Int))=((p-g-1:Nat):Int):=cJ;have rP:=FQ (i:=g);obtain⟨b,lC⟩:∃b,b=lv g:=⟨_,rfl⟩;refine jl eH fu fE fw fy fA eI cg ?_;refine aZ (O8 (i:=g) aa) ?_;rw[<-lC]at rP K3|-;refine jl eH fu fE fw fy fA eI w4 ?_;refine aZ (jD (n:=g+1) (w:=8) ai aa) ?_;refine oK eH fu fE fw fy fA eI ?_;refine aZ (jD (n:=0) (w:=1) ai ai) ?_;have j2:(aA 8 (g+1)).length+(aA 1 0).length<=9223372036854775807:=by simp[bH]
     refine jl eH fu fE fw fy fA eI j2 ?_;refine aZ (zO (s:=[113]) ai) ?_;have j3:(aA 8 (g+1)++aA 1 0).length+(aA 1 1++[113]).length<=9223372036854775807:=by simp[bH]
     simp only[go_sem,seval,eH,fu,fE,fw,fy,fA,eI,j3,w4,w6];refine aZ (jD (n:=p-g-1) (w:=4) ai aa) ?_;have j4:(aA 8 (g+1)++aA 1 0++(aA 1 1++[113])).length+(aA 4 (p-g-1)).length<=9223372036854775807:=by simp[bH]
     refine jl eH fu fE fw fy fA eI j4 ?_;refine aZ (sm (ch:=1) (cl:=60) (me:=71) (p:=aA 8 (g+1)++aA 1 0++(aA 1 1++[113])++aA 4 (p-g-1)) ai ai ai (by simp[bH])) ?_;have eW:fB 1 60 71 (aA 8 (g+1)++aA 1 0++(aA 1 1++[113])++aA 4 (p-g-1))=xv (g+1) false (p-g-1):=rfl;have hwl:(xv (g+1) false (p-g-1)).length<=100:=by rw[<-eW];simp[tV,bH]
     rw[eW];generalize xv (g+1) false (p-g-1)=W0 at*;refine oK eH fu fE fw fy fA eI ?_;refine aZ (jD (n:=60) (w:=2) ai ai) ?_;refine oK eH fu fE fw fy fA eI ?_;refine aZ (jD (n:=0) (w:=2) ai ai) ?_;have j5:(aA 2 60).length+(aA 2 0).length<=9223372036854775807:=ai;refine jl eH fu fE fw fy fA eI j5 ?_;refine aZ (jD (n:=b.length) (w:=8) ai aa) ?_;have j6:(aA 2 60++aA 2 0).length+(aA 8 b.length).length<=9223372036854775807:=by simp[bH]
     refine jl eH fu fE fw fy fA eI j6 ?_;refine aZ (zN (kind:=2) (ch:=1) (p:=aA 2 60++aA 2 0++aA 8 b.length) ai ai (by simp[bH])) ?_;have RR:(ep 2 1 (aA 2 60++aA 2 0++aA 8 b.length)).length<=100:=by simp[ju,bH]
     have eF:FT b=ep 2 1 (aA 2 60++aA 2 0++aA 8 b.length)++dZ 1 56 b.length b:=rfl;rw[eF]at K3;generalize ep 2 1 (aA 2 60++aA 2 0++aA 8 b.length)=F0 at*;have j7:W0.length+F0.length<=9223372036854775807:=aa;refine jl eH fu fE fw fy fA eI j7 ?_;refine dh (λm az da bW=>da=[]/\az 0=.slice (some ⟨ab,off,none⟩) l.length cap/\az 3=pV gb/\az 4=iV 1/\az 5=iV p/\az 6=iV ((g+1:Nat):Int)/\az 7=iV s/\az 8=iV i/\az 10=sV out/\bW=fU/\∃b' w':List UInt8,m=b'.length/\az 11=sV b'/\az 12=sV w'/\b'.length<=b.length/\w'.length+9*b'.length<=200+9*b.length/\w'++dZ 1 56 b'.length b'=out) b.length ?_ ?_
     ·refine⟨rfl,?_,?_,?_,?_,?_,?_,?_,?_,rfl,b,W0++F0,rfl,?_,?_,Nat.le_refl _,by rw[List.length_append];omega,by rw[K3,List.append_assoc]⟩<;>exact sD eH fu fE fw fy fA eI w4
     rintro m V6 ds4 fY Y4 ⟨rfl,q0,q3,q4,q5,q6,q7,q8,zT,eO,b',w',rfl,zV,zW,iY,xT,eE⟩ Q9;rw[eO];clear eO fY;by_cases kD:b'=[]
     ·subst kD;have c0:¬(0:Int)<(([]:List UInt8).length:Int):=al;rw[List.length_nil,Um,List.append_nil]at eE;subst eE;have nt:(decide ¬True)=false:=ai;clear Q9;simp only[go_sem,seval,q0,q3,q4,q5,q6,q7,q8,zT,zV,zW,c0,nt];clear fw fy fA eI eH fu fE;refine tail (p) (g+1) (s) _ _ ⟨?_,?_,?_,?_,?_,?_,?_⟩ aa aa aa aa rR I3<;>simp only[go_sem,seval,q0,q3,q4,q5,q6,q7,q8]
     ·have l7:0<b'.length:=List.length_pos_iff.2 kD;have c0:(0:Int)<b'.length:=aa
      have LD:∀k:Nat,(k=56\/k=b'.length/\b'.length<=56)->1<=k->k<=b'.length->w'++ep 3 1 (b'.take k)++dZ 1 56 (b'.drop k).length (b'.drop k)=out:=by
       intro k hk iB DG
       have e1:b'.take 56=b'.take k/\b'.drop 56=b'.drop k:=by
        rcases hk with rfl|⟨rfl,oj⟩
        ·exact⟨rfl,rfl⟩
        ·exact⟨by rw[List.take_of_length_le oj,List.take_of_length_le (Nat.le_refl _)],by rw[List.drop_eq_nil_of_le oj,List.drop_eq_nil_of_le (Nat.le_refl _)]⟩
       rw[<-eE];obtain⟨f,hf⟩:∃f,b'.length=f+1:=⟨b'.length-1,aa⟩
       conv=>rhs;rw[hf,Uo kD,e1.1,e1.2]
       rw[Uk ai (f:=f) (by rw[List.length_drop];omega),List.append_assoc]
      have fin:∀(az:av) (k:Nat),(k=56\/k=b'.length/\b'.length<=56)->1<=k->k<=b'.length->az 0=.slice (some ⟨ab,off,none⟩) l.length cap->az 3=pV gb->az 4=iV 1->az 5=iV p->az 6=iV ((g+1:Nat):Int)->az 7=iV s->az 8=iV i->az 10=sV out->az 11=sV (b'.drop k)->az 12=sV (w'++ep 3 1 (b'.take k))->Y4 az [] fU:=by intro az k hk iB DG k0 k3 k4 k5 k6 k7 k8 tu tv LB;refine Q9 (b'.drop k).length _ _ _ _ (by rw[List.length_drop];omega) ⟨rfl,k0,k3,k4,k5,k6,k7,k8,tu,rfl,_,_,rfl,tv,LB,by rw[List.length_drop];omega,?_,LD k hk iB DG⟩ ao;rw[List.length_append,ju,List.length_take,List.length_drop];omega
      by_cases oj:b'.length>56
      ·have c1:(56:Int)<b'.length:=aa;have c2:(0:Int)<=56/\(56:Int)<=b'.length:=aa;simp only[go_sem,seval,q0,q3,q4,q5,q6,q7,q8,zT,zV,zW,c0,c1,c2];refine aZ (zN (kind:=3) (ch:=1) (p:=b'.take 56) ai ai (by rw[List.length_take];omega)) ?_;have l4:w'.length+(ep 3 1 (b'.take 56)).length<=9223372036854775807:=by rw[ju,List.length_take];omega
       have c3:(0:Int)<=56/\(56:Int)<=b'.length/\(b'.length:Int)<=b'.length:=aa;simp only[go_sem,seval,q0,q3,q4,q5,q6,q7,q8,zT,zV,zW,l4,c2,c3];refine fin _ 56 (.inl rfl) ai aa ?_ ?_ ?_ ?_ ?_ ?_ ?_ ?_ ?_ ?_
       all_goals simp only[go_sem,seval,q0,q3,q4,q5,q6,q7,q8,zT,zV,zW]
       all_goals first|rfl|(rw[List.take_of_length_le (by rw[List.length_drop];exact Nat.le_refl _)])
      ·have c1:¬(56:Int)<b'.length:=aa;have c2:(0:Int)<=b'.length/\(b'.length:Int)<=b'.length:=aa;have et:b'.take (b'.length-0)=b'.take b'.length:=rfl;simp only[go_sem,seval,q0,q3,q4,q5,q6,q7,q8,zT,zV,zW,c0,c1,c2];rw[et];refine aZ (zN (kind:=3) (ch:=1) (p:=b'.take b'.length) ai ai (by rw[List.length_take];omega)) ?_;have l4:w'.length+(ep 3 1 (b'.take b'.length)).length<=9223372036854775807:=by rw[ju,List.length_take];omega
       simp only[go_sem,seval,q0,q3,q4,q5,q6,q7,q8,zT,zV,zW,l4,c2];refine fin _ b'.length (.inr ⟨rfl,aa⟩) l7 (Nat.le_refl _) ?_ ?_ ?_ ?_ ?_ ?_ ?_ ?_ ?_ ?_
       all_goals simp only[go_sem,seval,q0,q3,q4,q5,q6,q7,q8,zT,zV,zW]
       all_goals first|rfl|(rw[List.take_of_length_le (by rw[List.length_drop];exact Nat.le_refl _)])
   ·obtain rfl:k=3:=aa;by_cases hsg:s=g
    ·subst hsg;refine jl eH fu fE fw fy fA eI w3 ?_;refine next p s s _ _ _ ⟨?_,?_,?_,?_,?_,?_,?_⟩ aa aa aa aa xH I' ao<;>exact vp eH fu fE fw fy fA eI
    ·have bd:s<g:=aa;have cs2:¬(s:Int)=g:=aa;have w4:=fT s;simp only[go_sem,seval,eH,fu,fE,fw,fy,fA,eI,cs2,w4];refine aZ (jD (n:=s+1) (w:=8) ai aa) ?_;refine oK eH fu fE fw fy fA eI ?_;refine aZ (jD (n:=0) (w:=1) ai ai) ?_;have j1:(aA 8 (s+1)).length+(aA 1 0).length<=9223372036854775807:=by simp[bH]
     refine jl eH fu fE fw fy fA eI j1 ?_;refine aZ (sm (ch:=1) (cl:=60) (me:=80) (p:=aA 8 (s+1)++aA 1 0) ai ai ai (by simp[bH])) ?_;have eG:fB 1 60 80 (aA 8 (s+1)++aA 1 0)=vz (s+1):=rfl;have GH:(vz (s+1)).length<=800:=by rw[<-eG];simp[tV,bH]
     rw[eG];obtain⟨K1,K2⟩:=Wl (z:=.one) (p:=p) bd aa;have I2:=aut.MP GH K1;have I3:Inv (10000000+2000000*((i+1:Nat):Int)) (jH p g (s+1)):=I2.mono aa;refine jl eH fu fE fw fy fA eI w4 ?_;refine aL (MO (id:=1) (s:=vz (s+1)) xH aut aa aa) ?_;rintro v fU ⟨hv,rR⟩;rw[show(jH p g s).lO 1 (vz (s+1))=[]from K2]at hv;rw[show(jH p g s).then 1 (vz (s+1))=jH p g (s+1)from K1]at rR
     cases hv
     refine jl eH fu fE fw fy fA eI w4 ?_;refine tail (p) (g) (s+1) _ _ ⟨?_,?_,?_,?_,?_,?_,?_⟩ aa aa aa aa rR I3<;>exact vp eH fu fE fw fy fA eI
  ·have c1:¬(i:Int)<60:=aa;refine fR eH eI c0 c1 ?_;have:=fin I xH;exact an aI ao ⟨by simp[up],this⟩
 ·have c0:¬(i:Int)<l.length:=aa;refine bN eH eI c0 ?_;have:=fin I xH;exact an aI ao ⟨by simp[up],this⟩
def aiL {base:Option Addr}{cap:Nat}{L1:List Value}(hb:Base U L1):
 aw (nU W φ) 3 #[.slice base 0 cap] U λe J=>e=.returned (.bool true)/\J.f 0=U.f 0/\J.f 1=U.f 1:=by
 refine aV func3 ntmps3 results3 λQ aD an aB=>?_;refine ag ?_;refine aL (OZ (h:=0) ai hb O0 Uf Ug) ?_;rintro v J ⟨gb,hv,hg⟩
 cases hv
 refine ag ?_;refine dh (λk I ds bW=>ds=[]/\I 0=.slice base 0 cap/\I 8=iV 0/\bW=J) 0 ?_ ?_
 ·refine⟨rfl,?_,?_,rfl⟩<;>exact au
 rintro k I ds dp Y ⟨rfl,eH,eI,rfl⟩ hY;have c0:¬(0:Int)<((0:Nat):Int):=ai;refine bN eH eI c0 ?_;exact an aI ao ⟨by simp[up],Base.same hb hg⟩
end
end Go.Qw
