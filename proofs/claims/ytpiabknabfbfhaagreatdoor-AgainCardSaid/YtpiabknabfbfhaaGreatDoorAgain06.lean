/- 6 -/
import Derived.Test.YtpiabknabfbfhaaGreatDoorAgain05
set_option linter.all false
set_option maxRecDepth 100000
set_option maxHeartbeats 8000000
namespace Go.Qw
open Go Go.Proofs Go.Proofs.Tryz
variable {P:Program}{I:av}{U:Hp}
def arP{E:Env P}{N:Nat}{a b c:Code}{Q:Post}{ds:List Deferred}(h:cO E N (.seq (.seq a b) c) Q I ds U):cO E N (.seq a (.seq b c)) Q I ds U:=by
 have e:lK (cO E N b (lK (cO E N c Q) Q)) (lK (cO E N c Q) Q)=lK (cO E N b (lK (cO E N c Q) Q)) Q:=by funext e;cases e<;>rfl
 show cO E N a (lK (cO E N b (lK (cO E N c Q) Q)) Q) I ds U;rw[<-e];exact h
variable {J:Hp}{b:Nat}{v:Value}
def nS{a:Tmp}{t:TypeId}(ha:I a=pV b)(ht:dt P t=true)(h:jh P t ⟨b,0,none⟩ J=some v):lR P #[.cell a t] I J v:=by unfold lR;have h2:=wT (Q:=λv' ae=>v'=v/\ae=J) (H:=λ_ _=>False) ht (va h ⟨rfl,rfl⟩);simp[asAddr,ha];exact h2
def aqv:cD prog 135=5:=ah
def zT:dt prog 135=true:=ah
def zW{a1 a2 a3 a4 a5:Value}{e:Nat}(h:J.f b=some (.cells #[a1,a2,a3,a4,a5] e (0,0))):jh prog 135 ⟨b,0,none⟩ J=some (.agg #[a1,a2,a3,a4,a5]):=by unfold jh;rw[if_pos Xu,aqv];simp[cellsOf,h]
variable {l:List Value}
def vt{i:Nat}(h:l[i]? =some v):l.set i v=l:=by
 apply List.ext_getElem?;intro j;rw[List.getElem?_set];split
 ·rename_i e;subst e;have:i<l.length:=(List.getElem?_eq_some_iff.1 h).1;simp[this,<-h]
 ·rfl
def Hb{o:Obj}(h:U.f b=some o):U.set b o=U:=Hp.ext' λx=>by
 by_cases e:x=b
 ·subst e;rw[Hp.bD,h]
 ·rw[Hp.aO _ e]
variable {bc ub:Nat}{o:Obj}
def TG(h1:J.f bc=some o)(h2:∀x,x≠bc->x≠ub->J.f x=U.f x)(gv:U.f ub=none)(aE:bc≠ub):(U.set bc o).le J:=λx p hx=>by
 by_cases e:x=bc
 ·subst e;rw[Hp.bD]at hx;rw[h1];exact hx
 ·rw[Hp.aO _ e]at hx;have e2:x≠ub:=bj hx gv;rw[h2 x e e2];exact hx
def L9{ab:Nat}(h1:J.f bc=some o)(h2:∀x,x≠bc->x≠ab->x≠ub->J.f x=U.f x)(gv:U.f ub=none)(dr:U.f ab=none):(U.set bc o).le J:=λx p hx=>by
 by_cases e:x=bc
 ·subst e;rw[Hp.bD]at hx;rw[h1];exact hx
 ·rw[Hp.aO _ e]at hx;have e2:x≠ub:=bj hx gv;have e3:x≠ab:=bj hx dr;rw[h2 x e e3 e2];exact hx
def pW:List UInt8:=[65,77,81,80,0,0,9,1]
def dz(gr:Bool)(s:List UInt8)(size:Int):Un×Bool×List UInt8:=
 if gr=false then
  let n:=min s.length 8
  if s.take n≠pW.take n then(⟨0,0,[],true,true⟩,false,s)
  else if n=8 then(⟨0,0,[],true,false⟩,true,s.drop 8)
  else(⟨0,0,[],false,false⟩,false,s)
 else if s.length<7 then(⟨0,0,[],false,false⟩,true,s)
 else
  let kind:=num (s.take 1)
  let ch:=num ((s.drop 1).take 2)
  let n:=num ((s.drop 3).take 4)
  let r:=s.drop 7
  let gm:Bool:=if kind=1\/kind=2\/kind=3 then decide ((n:Int)>size-8)else if kind=8 then decide (n>0\/ch≠0)else true
  if gm=false/\r.length<=n then(⟨0,0,[],false,false⟩,true,s)
  else if gm then(⟨kind,ch,[],false,true⟩,true,s)
  else(⟨kind,ch,r.take n,false,decide (num ((r.drop n).take 1)≠206)⟩,true,r.drop (n+1))
variable {E:Env prog}{et:Nat}{s:List UInt8}{size:Int}
def als(hb:U.f bc=some (.cells l.toArray et (0,0)))(iA:l[3]? =some (.string (B s)))(nK:l[4]? =some (.bool false)):
 ay E 104 #[.pointer (some ⟨bc,3,none⟩),.int .i64 size] U λe' ae=>e'=.returned (uV (dz false s size).1)/\(U.set bc (.cells ((l.set 3 (.string (B (dz false s size).2.2))).set 4 (.bool (dz false s size).2.1)).toArray et (0,0))).le ae:=by
 refine aX func104 ntmps104 results104 λQ aD an aA=>?_;refine ag ?_;refineλub gv=>?_;refine fV gv hb iA nK ?_;obtain⟨n,hn⟩:∃n,n=min s.length 8:=⟨_,rfl⟩;have Ll:min (s.length:Int) 8=(n:Int):=aa;refine TY (a:=(s.length:Int)) (b:=8) au au ?_;rw[Ll];refine ag ?_;have d0:(0:Int)<=n:=aa;have d1:(n:Int)<=s.length:=aa;have d2:(n:Int)<=8:=aa;refine bG 6 ?_;simp only[go_sem,Nat.reduceLT,Nat.reduceBEq,Nat.reduceAdd,d0,d1];refine⟨aa,?_⟩;refine ag ?_;refine anb (b:=decide (s.take n≠pW.take n)) ?_ ?_
 ·simp only[go_sem,seval,Nat.sub_zero];intro hg;have fD:¬s.take n=pW.take n:=aW hg;have hu:dz false s size=(⟨0,0,[],true,true⟩,false,s):=by simp[dz,<-hn,fD]
  rw[hu]at an;refine an (nS (b:=ub) au zT (zW au)) ao ⟨by simp[uV],?_⟩;rw[vt iA,vt nK,Hb hb];exact HB gv
 intro hg;have fD:s.take n=pW.take n:=aW hg;have bl:4<l.length:=(List.getElem?_eq_some_iff.1 nK).1;have aE:bc≠ub:=bj gv hb;have atP:∀o,(U.set bc o).f ub=none:=λo=>by rw[Hp.aO _ (λe=>aE e.symm)];exact gv
 have g4:∀v,(l.set 4 v)[4]? =some v:=λv=>by simp[bl]
 have g3:∀v,(l.set 4 v)[3]? =some (.string (B s)):=λv=>by rw[List.getElem?_set_ne ai];exact iA
 have xZ:∀o x,((U.set ub o).set bc x).f ub=some o:=λo x=>by rw[Hp.aO _ (λe=>aE e.symm),Hp.bD]
 have agO:3<l.length:=aa;by_cases h8:n=8
 ·have d3:((n:Int)=8):=aa;have d4:(8:Int)<=s.length:=aa;simp only[go_sem,seval,gv,hb,d3,bl,g4,d4,agO,xZ]
  have hu:dz false s size=(⟨0,0,[],true,false⟩,true,s.drop 8):=by have:=fD;simp[dz,<-hn,h8]at this|-;exact this
  rw[hu]at an;refine an (nS (b:=ub) au zT (zW au)) ao ⟨by simp[uV],?_⟩;refine TG (ub:=ub) ?_ (λx h1 h2=>?_) gv aE
  ·rw[Hp.aO _ aE,Hp.bD,List.set_comm _ _ ai];have:List.take (s.length-8) (s.drop 8)=s.drop 8:=List.take_of_length_le al;rw[this]
  ·simp[Hp.set,h1,h2]
 ·have d3:¬((n:Int)=8):=aa;simp only[go_sem,seval,gv,hb,d3,bl,g4,xZ]
  have hu:dz false s size=(⟨0,0,[],false,false⟩,false,s):=by have:=fD;simp[dz,<-hn,h8]at this|-;exact this
  rw[hu]at an;refine an (nS (b:=ub) au zT (zW au)) ao ⟨by simp[uV],?_⟩;refine TG (ub:=ub) ?_ (λx h1 h2=>?_) gv aE
  ·rw[vt iA,Hp.aO _ aE,Hp.bD]
  ·simp[Hp.set,h1,h2]
def alr(hb:U.f bc=some (.cells l.toArray et (0,0)))(iA:l[3]? =some (.string (B s)))(nK:l[4]? =some (.bool true))(hs:s.length<7):
 ay E 104 #[.pointer (some ⟨bc,3,none⟩),.int .i64 size] U λe' ae=>e'=.returned (uV (dz true s size).1)/\(U.set bc (.cells ((l.set 3 (.string (B (dz true s size).2.2))).set 4 (.bool (dz true s size).2.1)).toArray et (0,0))).le ae:=by
 refine aX func104 ntmps104 results104 λQ aD an aA=>?_;refine ag ?_;refineλub gv=>?_;have d0:(s.length:Int)<7:=aa;refine lI gv hb iA nK d0 ?_;have hu:dz true s size=(⟨0,0,[],false,false⟩,true,s):=by simp[dz,hs]
 rw[hu]at an;refine an (nS (b:=ub) au zT (zW au)) ao ⟨by simp[uV],?_⟩;rw[vt iA,vt nK,Hb hb];exact HB gv
def alq(hb:U.f bc=some (.cells l.toArray et (0,0)))(iA:l[3]? =some (.string (B s)))(nK:l[4]? =some (.bool true))(hs:7<=s.length)(gQ:0<=size/\size<=1000000):
 ay E 104 #[.pointer (some ⟨bc,3,none⟩),.int .i64 size] U λe' ae=>e'=.returned (uV (dz true s size).1)/\(U.set bc (.cells ((l.set 3 (.string (B (dz true s size).2.2))).set 4 (.bool (dz true s size).2.1)).toArray et (0,0))).le ae:=by
 refine aX func104 ntmps104 results104 λQ aD an aA=>?_
 iterate 7 refine arP ?_
 refine dU λK hK=>?_;refine ag ?_;refineλub gv=>?_;have d0:¬(s.length:Int)<7:=aa;refine lI gv hb iA nK d0 ?_;refineλab dr=>?_;have tv:ub≠ab:=bj dr aZ;have GC:U.f ab=none:=by rw[Hp.aO _ (λe=>tv e.symm)]at dr;exact dr
 refine ag ?_;have nb:ub≠bc:=bj gv hb;have na:ab≠bc:=bj GC hb;refine aK (EU (w:=1) (c:=[.string (B s)]) (s:=s) aZ rfl aa aa) ?_;rintro v fA ⟨hv,h1⟩
 cases hv
 have a1:fA.f ab=some (.cells #[.string (B (s.drop 1))] 289 (0,0)):=by rw[h1,Hp.bD];rfl
 have u1:fA.f ub=some (.cells #[.int .i64 0,.int .i64 0,.string (B []),.bool false,.bool false] 135 (0,0)):=by rw[h1,Hp.aO _ tv,Hp.aO _ tv,Hp.bD];rfl
 have o1:∀x,x≠ab->x≠ub->fA.f x=U.f x:=λx e1 e2=>by rw[h1,Hp.aO _ e1,Hp.aO _ e1,Hp.aO _ e2]
 clear h1;refine ag ?_;refine aK (EU (w:=2) (c:=[.string (B (s.drop 1))]) (s:=s.drop 1) a1 rfl aa (by simp;omega)) ?_;rintro v cQ ⟨hv,h2⟩
 cases hv
 have a2:cQ.f ab=some (.cells #[.string (B (s.drop 3))] 289 (0,0)):=by rw[h2,Hp.bD];simp[List.drop_drop]
 have u2:=u1;rw[<-Hp.aO (U:=fA) (.cells ([.string (B (s.drop 1))].set 0 (.string (B ((s.drop 1).drop 2)))).toArray 289 (0,0)) tv]at u2;have u2:cQ.f ub=some (.cells #[.int .i64 0,.int .i64 0,.string (B []),.bool false,.bool false] 135 (0,0)):=by rw[h2];exact u2
 have o2:∀x,x≠ab->x≠ub->cQ.f x=U.f x:=λx e1 e2=>by rw[h2,Hp.aO _ e1];exact o1 x e1 e2
 clear h2 a1 u1 o1;obtain⟨kind,GZ⟩:∃k,k=num (s.take 1):=⟨_,rfl⟩;obtain⟨ch,dR⟩:∃k,k=num ((s.drop 1).take 2):=⟨_,rfl⟩;rw[<-GZ,<-dR];refine aJ u2 ?_;have OM:∀o,(cQ.set ub o).f ab=some (.cells #[.string (B (s.drop 3))] 289 (0,0)):=λo=>by rw[Hp.aO _ (λe=>tv e.symm)];exact a2
 refine aK (EU (w:=4) (c:=[.string (B (s.drop 3))]) (s:=s.drop 3) (OM _) rfl aa (by simp;omega)) ?_;rintro v dB ⟨hv,h3⟩
 cases hv
 have a3:dB.f ab=some (.cells #[.string (B (s.drop 7))] 289 (0,0)):=by rw[h3,Hp.bD];simp[List.drop_drop]
 have u3:dB.f ub=some (.cells #[.int .i64 kind,.int .i64 ch,.string (B []),.bool false,.bool false] 135 (0,0)):=by rw[h3,Hp.aO _ tv,Hp.bD];rfl
 have o3:∀x,x≠ab->x≠ub->dB.f x=U.f x:=λx e1 e2=>by rw[h3,Hp.aO _ e1,Hp.aO _ e2];exact o2 x e1 e2
 clear h3 a2 OM u2 o2;obtain⟨n,hn⟩:∃k,k=num ((s.drop 3).take 4):=⟨_,rfl⟩;rw[<-hn];refine aJ u3 ?_;have atF:=Uw ((s.drop 3).take 4);have Je:∀o,(dB.set ub o).f ab=some (.cells #[.string (B (s.drop 7))] 289 (0,0)):=λo=>by rw[Hp.aO _ (λe=>tv e.symm)];exact a3
 have c1:IntKind.wrap .i64 (size-8)=size-8:=wrap64 aa aa
 have tail:∀(I:av) (w:Bool),I 0=.pointer (some ⟨bc,3,none⟩)->I 4=pV ub->I 7=pV ab->I 8=Value.int .i64 n->(if kind=1\/kind=2\/kind=3 then decide ((n:Int)>size-8)else if kind=8 then decide (n>0\/ch≠0)else true)=w->K I [] (dB.set ub (.cells #[.int .i64 kind,.int .i64 ch,.string (B []),.bool false,.bool w] 135 (0,0))):=by
  intro I w h0 h4 h7 h8 hw;refine hK _ _ _ ?_
  cases w with
  |true=>
   refine aJ h4 ?_
   have hu:dz true s size=(⟨kind,ch,[],false,true⟩,true,s):=by simp only[dz,<-GZ,<-dR,<-hn,hw];simp[Nat.not_lt.2 hs]
   rw[hu]at an;refine an (nS (b:=ub) (aQ h4) zT (zW au)) ao ⟨by simp[uV],?_⟩;rw[vt iA,vt nK];refine L9 (ub:=ub) (ab:=ab) ?_ (λx e1 e2 e3=>?_) gv GC
   ·rw[Hp.aO _ (λe=>nb e.symm),o3 bc (λe=>na e.symm) (λe=>nb e.symm)];exact hb
   ·rw[Hp.aO _ e3];exact o3 x e2 e3
  |false=>
   by_cases eX:(s.drop 7).length<=n
   ·have hr:((s.drop 7).length:Int)<=n:=aa;refine lI h4 h7 h8 Je hr ?_
    have hu:dz true s size=(⟨0,0,[],false,false⟩,true,s):=by simp only[dz,<-GZ,<-dR,<-hn,hw];simp at eX;simp[Nat.not_lt.2 hs,eX]
    rw[hu]at an;refine an (nS (b:=ub) (aQ h4) zT (zW au)) ao ⟨by simp[uV],?_⟩;rw[vt iA,vt nK];refine L9 (ub:=ub) (ab:=ab) ?_ (λx e1 e2 e3=>?_) gv GC
    ·rw[Hp.aO _ (λe=>nb e.symm),o3 bc (λe=>na e.symm) (λe=>nb e.symm)];exact hb
    ·rw[Hp.aO _ e3];exact o3 x e2 e3
   have hr:¬((s.drop 7).length:Int)<=n:=aa;refine lI h4 h7 h8 Je hr ?_;refine aK (NA (n:=(n:Int)) (c:=[.string (B (s.drop 7))]) (s:=s.drop 7) (Je _) rfl aa aa) ?_;rintro v iu ⟨hv,ta⟩
   cases hv
   rw[Int.toNat_natCast]at ta|-;have a4:iu.f ab=some (.cells #[.string (B ((s.drop 7).drop n))] 289 (0,0)):=by rw[ta,Hp.bD];rfl
   have u4:iu.f ub=some (.cells #[.int .i64 kind,.int .i64 ch,.string (B []),.bool false,.bool false] 135 (0,0)):=by rw[ta,Hp.aO _ tv,Hp.bD]
   have o4:∀x,x≠ab->x≠ub->iu.f x=U.f x:=λx e1 e2=>by rw[ta,Hp.aO _ e1,Hp.aO _ e2];exact o3 x e1 e2
   clear ta;refine bR h4 h7 u4 ?_;have Xm:∀o,(iu.set ub o).f ab=some (.cells #[.string (B ((s.drop 7).drop n))] 289 (0,0)):=λo=>by rw[Hp.aO _ (λe=>tv e.symm)];exact a4
   refine aK (EU (w:=1) (c:=[.string (B ((s.drop 7).drop n))]) (s:=(s.drop 7).drop n) (Xm _) rfl aa (by simp at eX|-;omega)) ?_;rintro v gB ⟨hv,h5⟩
   cases hv
   have a5:gB.f ab=some (.cells #[.string (B ((s.drop 7).drop (n+1)))] 289 (0,0)):=by rw[h5,Hp.bD];simp[List.drop_drop,Nat.add_assoc]
   have u5:gB.f ub=some (.cells #[.int .i64 kind,.int .i64 ch,.string (B ((s.drop 7).take n)),.bool false,.bool false] 135 (0,0)):=by rw[h5,Hp.aO _ tv,Hp.bD];rfl
   have o5:∀x,x≠ab->x≠ub->gB.f x=U.f x:=λx e1 e2=>by rw[h5,Hp.aO _ e1,Hp.aO _ e2];exact o4 x e1 e2
   clear h5;obtain⟨z,hz⟩:∃k,k=num (((s.drop 7).drop n).take 1):=⟨_,rfl⟩;rw[<-hz];have Xn:∀o,(gB.set ub o).f ab=some (.cells #[.string (B ((s.drop 7).drop (n+1)))] 289 (0,0)):=λo=>by rw[Hp.aO _ (λe=>tv e.symm)];exact a5
   have b5:∀o,(gB.set ub o).f bc=some (.cells l.toArray et (0,0)):=λo=>by rw[Hp.aO _ (λe=>nb e.symm),o5 bc (λe=>na e.symm) (λe=>nb e.symm)];exact hb
   have bl:3<l.length:=(List.getElem?_eq_some_iff.1 iA).1;have v5:∀o o',((gB.set ub o).set bc o').f ub=some o:=λo o'=>by rw[Hp.aO _ nb,Hp.bD]
   refine jE h0 h4 h7 u5 Xn b5 bl v5 ?_
   have hu:dz true s size=(⟨kind,ch,(s.drop 7).take n,false,decide (z≠206)⟩,true,(s.drop 7).drop (n+1)):=by simp only[dz,<-GZ,<-dR,<-hn,<-hz,hw];simp at eX;simp[Nat.not_lt.2 hs,Nat.not_le.2 eX]
   rw[hu]at an;refine an (nS (b:=ub) (aQ h4) zT (zW au)) ao ⟨by simp[uV];omega,?_⟩;refine L9 (ub:=ub) (ab:=ab) ?_ (λx e1 e2 e3=>?_) gv GC
   ·rw[Hp.aO _ (λe=>nb e.symm),Hp.bD];have:(l.set 3 (.string (B ((s.drop 7).drop (n+1)))))[4]? =some (.bool true):=by rw[List.getElem?_set_ne ai];exact nK
    rw[vt this]
   ·rw[Hp.aO _ e3,Hp.aO _ e1,Hp.aO _ e3];exact o5 x e2 e3
 by_cases k1:(kind:Int)=1
 ·simp only[go_sem,seval,u3,eq_true k1,c1];refine tail _ _ ?_ ?_ ?_ ?_ (by rw[if_pos aa])<;>exact au
 by_cases k2:(kind:Int)=2
 ·simp only[go_sem,seval,u3,k1,eq_true k2,c1];refine tail _ _ ?_ ?_ ?_ ?_ (by rw[if_pos aa])<;>exact au
 by_cases k3:(kind:Int)=3
 ·simp only[go_sem,seval,u3,k1,k2,eq_true k3,c1];refine tail _ _ ?_ ?_ ?_ ?_ (by rw[if_pos aa])<;>exact au
 by_cases k8:(kind:Int)=8
 ·by_cases xV:(n:Int)>0
  ·simp only[go_sem,seval,u3,k1,k2,k3,eq_true k8,xV];refine tail _ true ?_ ?_ ?_ ?_ (by rw[if_neg aa,if_pos aa];simp;omega)<;>exact au
  ·simp only[go_sem,seval,u3,k1,k2,k3,eq_true k8,xV];refine tail _ (decide ((ch:Int)≠0)) ?_ ?_ ?_ ?_ (by rw[if_neg aa,if_pos aa];congr 1;simp;omega)<;>exact au
 ·refine lI u3 k1 k2 k3 k8 ?_;refine tail _ true ?_ ?_ ?_ ?_ (by rw[if_neg aa,if_neg aa])<;>exact au
def alp{gr:Bool}(hb:U.f bc=some (.cells l.toArray et (0,0)))(iA:l[3]? =some (.string (B s)))(nK:l[4]? =some (.bool gr))(gQ:0<=size/\size<=1000000):
 ay E 104 #[.pointer (some ⟨bc,3,none⟩),.int .i64 size] U λe' ae=>e'=.returned (uV (dz gr s size).1)/\(U.set bc (.cells ((l.set 3 (.string (B (dz gr s size).2.2))).set 4 (.bool (dz gr s size).2.1)).toArray et (0,0))).le ae:=by
 cases gr with
 |false=>exact als hb iA nK
 |true=>
  rcases Nat.lt_or_ge s.length 7 with h|h
  ·exact alr hb iA nK h
  ·exact alq hb iA nK h gQ
variable {bg:Nat}{lg:List Value}{out:List UInt8}{clock:Int}
def Vs(hb:U.f bc=some (.cells l.toArray 90 (0,0)))(hg:U.f bg=some (.cells lg.toArray 74 (0,0)))(hl:l.length=12)(h0:l[0]? =some (pV bg))(bT:l[11]? =some (.string (B out)))(hc:lg[6]? =some (.int .i64 clock))(hlen:out.length+s.length<=9223372036854775807)(aE:bg≠bc):
 ay E 43 #[pV bc,.string (B s)] U λe' ae=>e'=.returned (.tuple #[])/\ae=U.set bc (.cells ((l.set 11 (.string (B (out++s)))).set 9 (.int .i64 clock)).toArray 90 (0,0)):=by
 refine aX func43 ntmps43 results43 λQ aD an aA=>?_;have g0:∀v,(l.set 11 v)[0]? =some (pV bg):=λv=>by rw[List.getElem?_set_ne ai];exact h0
 have fD:∀o,(U.set bc o).f bg=some (.cells lg.toArray 74 (0,0)):=λo=>by rw[Hp.aO _ aE];exact hg
 refine jR hb bT hlen hl g0 fD hc ?_;exact aD dA ao ⟨rfl,rfl⟩
def aaR{ch cl me:Nat}{xs:List Arg}(hb:U.f bc=some (.cells l.toArray 90 (0,0)))(hg:U.f bg=some (.cells lg.toArray 74 (0,0)))(hl:l.length=12)(h0:l[0]? =some (pV bg))(bT:l[11]? =some (.string (B out)))(hc:lg[6]? =some (.int .i64 clock))(aE:bg≠bc)(hv:Ay U xs v)(gq:∀a∈xs,lh a)(hn:xs.length<=1000)(dR:ch<9223372036854775808)(aH:cl<9223372036854775808)(aP:me<9223372036854775808)(fZ:(dg xs).length<=10000000)(hlen:out.length+(bK ch cl me xs).length<=9223372036854775807):
 ay E 105 #[pV bc,.int .i64 ch,.int .i64 cl,.int .i64 me,v] U λe' ae=>e'=.returned (.tuple #[])/\ae=U.set bc (.cells ((l.set 11 (.string (B (out++bK ch cl me xs)))).set 9 (.int .i64 clock)).toArray 90 (0,0)):=by
 refine aX func105 ntmps105 results105 λQ aD an aA=>?_;refine ag ?_;refine aT (arH hv gq hn dR aH aP fZ) ?_;refine ag ?_;refine aT (Vs hb hg hl h0 bT hc hlen aE) ?_;refine ag ?_;exact aD dA ao ⟨rfl,rfl⟩
section
open Go.Conc
structure FF (E:Env prog) (lb:Nat) (p:Tmp) (r:Loop) (A:Hp->List Value->Hp->Prop):Prop where
 params:r.params= #[p]
 loop:∀{X xs U},A X xs U->U.f lb=some (.loop r)
 ext:∀{X xs U},A X xs U->X.le U
 new:∀{X xs U b o},A X xs U->U.f b=none->A (X.set b o) xs (U.set b o)
 upd:∀{X xs U b o o'},A X xs U->X.f b=some o'->A (X.set b o) xs (U.set b o)
 round:∀{X xs U},A X xs U->∀v c cs,xs.length<1000000->dp v=true->ax E (G (Frame.round lb r.fn (r.tmps.setIfInBounds p v) r.assign r.body .normal) (c::cs)) U λg J=>g=G (c.finish (.bool true)) cs/\A X (xs++[v]) J
structure Left {α:Type} (l done rem:List (α×Value×Nat)) (seen:Array Nat):Prop where
 perm:(done++rem).Perm l
 seen:∀e∈l,e.2.2∈seen↔e∈done
variable {α:Type}{l:List (α×Value×Nat)}{e:α×Value×Nat}
def VM(hn:(l.map (·.2.2)).Nodup){e':α×Value×Nat}(h:e∈l)(h':e'∈l)(he:e.2.2=e'.2.2):e=e':=by
 induction l with
 |nil=>cases h
 |cons x l ih=>
  simp only[List.map_cons,List.nodup_cons,List.mem_map,not_exists,not_and]at hn;simp only[List.mem_cons]at h h';rcases h with rfl|h<;>rcases h' with rfl|h'
  ·rfl
  ·exact absurd he.symm (hn.1 _ h')
  ·exact absurd he (hn.1 _ h)
  ·exact ih hn.2 h h'
theorem alQ(hn:(l.map (·.2.2)).Nodup):l.Nodup:=by rw[List.nodup_iff_pairwise_ne]at hn|-;exact(List.pairwise_map.1 hn).imp λh e=>h (by rw[e])
theorem Left.start(l:List (α×Value×Nat)):Left l [] l #[]:=⟨.refl _,al⟩
variable {done rem:List (α×Value×Nat)}{seen:Array Nat}
def Left.mem(h:Left l done rem seen)(he:e∈l)(hs:e.2.2∉seen):e∈rem:=by
 have:=h.perm.mem_iff.2 he;rcases List.mem_append.1 this with h1|h1
 ·exact absurd ((h.seen e he).2 h1) hs
 ·exact h1
def Left.step(hn:(l.map (·.2.2)).Nodup)(h:Left l done rem seen)(he:e∈l)(hs:e.2.2∉seen):
 ∃B9,B9.length<rem.length/\Left l (done++[e]) B9 (seen.push e.2.2):=by
 obtain⟨s,t,rfl⟩:=List.append_of_mem (h.mem he hs);refine⟨s++t,al,?_,?_⟩
 ·refine List.Perm.trans ?_ h.perm;rw[List.append_assoc];exact List.Perm.append_left _ (by rw[List.singleton_append];exact List.perm_middle.symm)
 ·intro x hx;simp only[Array.mem_push,List.mem_append,List.mem_singleton];rw[h.seen x hx];constructor
  ·rintro(h1|h1)
   ·exact .inl h1
   ·exact .inr (VM hn hx he h1)
  ·rintro(h1|rfl)
   ·exact .inl h1
   ·exact .inr rfl
theorem Left.all(hn:(l.map (·.2.2)).Nodup)(h:Left l done rem seen)(ha:∀e∈l,e.2.2∈seen):done.Perm l:=by
 have hr:rem=[]:=by
  cases rem with
  |nil=>rfl
  |cons x rem=>
   have hx:x∈l:=h.perm.mem_iff.1 al;have hd:=(h.seen x hx).1 (ha x hx);have G6:(done++x::rem).Nodup:=h.perm.nodup_iff.2 (alQ hn);rw[List.nodup_append]at G6;exact absurd rfl (G6.2.2 x hd x al)
 have:=h.perm;rw[hr,List.append_nil]at this;exact this
section
variable {P:Program}{E:Env P}{I:av}{ds:List Deferred}{U:Hp}{dst:Option Tmp}{ty:TypeId}{pos:String}{af:Array Edge}{g:Option (Nat×Bool)}{nx:av->List Deferred->Hp->Prop}{pn:List PanicEntry->Hp->Prop}
variable {α:Type}[DecidableEq α]{f:α->Value}{l:List (α×Value×Nat)}{c:Nat}
def Qs {x:Operand}{it b since:Nat}{seen:Array Nat}{e:α×Value×Nat}(hx:ak I x=pV it)(hi:U.f it=some (.mapIter (some b) since (seen.push e.2.2) c))(hb:U.f b=some (aV f l c))(hn:(l.map (·.2.2)).Nodup)(he:e∈l)
 (h:nx (aB I dst (.tuple #[f e.1,e.2.1])) ds U):aU E ⟨dst,.entry x,ty,pos,af,g⟩ I ds U nx pn:=by
 show wpOp E _ I ds U nx pn;unfold wpOp;simp only[execOp,Instr.entry,aG,hx,oK];refine⟨_,hi,rfl,?_⟩;simp only[Array.back?_push,aG,oK];refine⟨_,hb,rfl,?_⟩;simp only[aV,bne_self_eq_false,Bool.false_eq_true,if_false,bt]
 have:(l.map λe=>(⟨f e.1,e.2.1,e.2.2⟩:MapEntry)).toArray.find? (λx=>x.born==e.2.2)=some ⟨f e.1,e.2.1,e.2.2⟩:=by
  rw[List.find?_toArray];clear hb hi h
  induction l with
  |nil=>cases he
  |cons x l ih=>
   simp only[List.map_cons,List.find?_cons];by_cases yd:x.2.2=e.2.2
   ·have:x=e:=VM hn al he yd;subst this;simp
   ·have h':(x.2.2==e.2.2)=false:=aW yd;simp only[h'];simp only[List.map_cons,List.nodup_cons]at hn;rcases List.mem_cons.1 he with rfl|he
    ·exact absurd rfl yd
    ·exact ih hn.2 he
 simp only[this,bt];exact h
end
def Yields(f:FuncId)(pick:α×Value×Nat->Value)(key:α->Value)(tc:TypeId):Prop:=
 ∀{E:Env prog} {lb:Nat} {p:Tmp} {r:Loop} {A:Hp->List Value->Hp->Prop} (_:FF E lb p r A) {X U:Hp} {xs:List Value} {l:List (α×Value×Nat)} {c bm m:Nat},
  A X xs U->X.f bm=some (.cells #[.map (some m)] tc (0,0))->X.f m=some (aV key l c)->(∀e∈l,e.2.2<c)->(l.map (·.2.2)).Nodup->xs.length+l.length<=1000000->(∀e∈l,dp (pick e)=true)->
  ay E f #[.func (.yield lb) #[] #[],pV bm] U λe J=>e=.returned (.tuple #[])/\∃X' ks,ks.Perm (l.map pick)/\X.le X'/\A X' (xs++ks) J
def aY(i:Int):Value:=.int .i64 i
def bU(l:List UInt8):Value:=.string (B l)
def Ie(k:IntKind)(a b:Int):Instr.sameNow (.int k) (aY a) (aY b)=some (decide (a=b)):=by simp only[aY,Instr.sameNow,if_true];by_cases h:a=b<;>simp[h]
def Ps(a b:List UInt8):(B a==B b)=decide (a=b):=by show((B a).data==(B b).data)=_;rw[Oc,Oc];by_cases h:a=b<;>simp[h]
def Vl(a b:List UInt8):Instr.sameNow .string (bU a) (bU b)=some (decide (a=b)):=by simp only[bU,Instr.sameNow,Ps]
def Ia(a:Int):Instr.sameBits 10000 (aY a) (aY a)=true:=by simp[aY,Instr.sameBits]
def Vh(a:List UInt8):Instr.sameBits 10000 (bU a) (bU a)=true:=by simp[bU,Instr.sameBits,Ps]
def su:mV prog 72 aY:=⟨3,70,.int .i64,ah,ah,.inl ⟨_,rfl⟩,Ie _,Ia⟩
def uZ:mV prog 88 aY:=⟨3,185,.int .i64,ah,ah,.inl ⟨_,rfl⟩,Ie _,Ia⟩
def BK:mV prog 273 aY:=⟨3,280,.int .i64,ah,ah,.inl ⟨_,rfl⟩,Ie _,Ia⟩
def wQ:mV prog 114 bU:=⟨9,77,.string,ah,ah,.inr rfl,Vl,Vh⟩
def zV:mV prog 274 bU:=⟨9,186,.string,ah,ah,.inr rfl,Vl,Vh⟩
inductive yM:(α:Type)->FuncId->TypeId->(α->Value)->Prop
 |c82:yM Int 82 72 aY
 |aaq:yM Int 181 88 aY
 |aav:yM Int 222 273 aY
 |aau:yM (List UInt8) 220 274 bU
noncomputable def qK(f:FuncId):Func:=(prog.funcs[f]?).getD default
noncomputable def BI(f:FuncId):Code:=(qK f).body.getD .skip
noncomputable def iI(f:FuncId):Array Oper:=bN (bO (BI f))
noncomputable def LI(f:FuncId):Code:=dT (dT (aR (BI f)))
noncomputable def U1(f:FuncId):Array Oper:=bN (bO (LI f))
noncomputable def nI(f:FuncId):Code:=dT (aR (aR (LI f)))
noncomputable def U2(f:FuncId):Array Oper:=bN (bO (nI f))
noncomputable def yz(f:FuncId):Array Oper:=bN (bO (aR (nI f)))
def bI(f:FuncId):Frame:={(default:Frame)with fn:=f,kind:=.normal}
def AD:BI 82=f82.body.getD .skip:=by unfold BI qK;rw[func82];rfl
def Az:BI 181=f181.body.getD .skip:=by unfold BI qK;rw[func181];rfl
def AB:BI 222=f222.body.getD .skip:=by unfold BI qK;rw[func222];rfl
def AA:BI 220=f220.body.getD .skip:=by unfold BI qK;rw[func220];rfl
structure FI (lb it:Nat) (I:av):Prop where
 y:I 0=.func (.yield lb) #[] #[]
 i:I 5=pV it
section
variable {α:Type}{f:FuncId}{T:TypeId}{key:α->Value}(k:yM α f T key)
include k
def QY:prog.funcs[f]? =some (qK f):=by
 unfold qK
 cases k<;>simp only[func82,func181,func222,func220,Option.getD_some]
def adq:(qK f).results= #[]:=by cases k<;>kernel_rfl
def adp:(qK f).ntmps=14:=by cases k<;>kernel_rfl
def ado:(qK f).body=some (BI f):=by cases k<;>kernel_rfl
def WQ:BI f=.seq (.region 0 (iI f) false) (.block 0 (.loop (LI f))):=by cases k<;>kernel_rfl
def Ou:LI f=.seq (.region 1 (U1 f) false) (.seq (.cond (.tmp 7) .skip (.exit 0)) (.block 1 (nI f))):=by cases k<;>kernel_rfl
def Ue:nI f=.seq (.region 2 (U2 f) false) (.seq (.region 3 (yz f) false) (.cond (.tmp 13) .ret .skip)):=by cases k<;>kernel_rfl
def an4:∃ps af t,(yz f)[2]? =some {dst:=some 12,op:=.call ⟨.value (.tmp 10),#[.tmp 11],#[t]⟩,type:=4,pos:=ps,after:=af,guard:=none}:=by cases k<;>exact⟨_,_,_,by simp only[yz,nI,LI,AD,Az,AB,AA,f82,f181,f222,f220,Option.getD_some,aR,bO,dT,bN];rfl⟩
end
section
variable {E:Env prog}{α:Type}{f:FuncId}{T:TypeId}{key:α->Value}{lb:Nat}{p:Tmp}{r:Loop}{A:Hp->List Value->Hp->Prop}{l:List (α×Value×Nat)}{c m:Nat}{cs:List Frame}
def akr (k:yM α f T key)(C:FF E lb p r A)(hold:∀e∈l,e.2.2<c)(hn:(l.map (·.2.2)).Nodup){X0:Hp}{xs:List Value}{it:Nat}(gI:xs.length+l.length<=1000000)(kT:∀e∈l,dp (key e.1)=true):∀(n:Nat) (done rem:List (α×Value×Nat)) (seen:Array Nat) (X U:Hp) (I:av) (a:Act),rem.length<n->Left l done rem seen->X0.le X->
 A X (xs++done.map λe=>key e.1) U->X.f it=some (.mapIter (some m) c seen c)->X0.f it=none->X.f m=some (aV key l c)->it≠m->FI lb it I->cM 14 a I []->
 ax E (G ((bI f).at a (.code (LI f):: .inLoop (LI f):: .inBlock 0::[])) cs) U λg J=>∃e fr,g=G fr cs/\fr.fn=f/\Leaving prog fr J e/\
  (e=.returned (.tuple #[])/\∃X' ks,ks.Perm (l.map λe=>key e.1)/\X0.le X'/\A X' (xs++ks) J):=by
 intro n
 induction n with
 |zero=>intro _ _ _ _ _ _ _ h;omega
 |succ n ih=>
  intro done rem seen X U I a hlen hL hX hA hit h0 hm aE hF ha;have Lh:=C.ext hA _ _ hit;have wD:=C.ext hA _ _ hm;rw[Ou k];refine ax.ctl (λw=>stepG_seq) rfl rfl ?_;refine(nT (E:=E) (N:=14) (X:=λI ds J=>ds=[]/\FI lb it I/\((I 7=.bool true/\∃e∈l,e.2.2∉seen/\J=U.set it (.mapIter (some m) c (seen.push e.2.2) c))\/(I 7=.bool false/\(∀e∈l,e.2.2∈seen)/\J=U))) ?_ (by simp[bI]) ha).bind ?_
  ·cases k
   all_goals
    simp only[U1,LI,AD,Az,AB,AA,f82,f181,f222,f220,Option.getD_some,aR,bO,dT,bN];refine ag ?_;refine Up hF.i Lh wD hold ?_ ?_
    ·intro e he hs;simp only[go_sem,seval,aB,up];exact⟨rfl,⟨by simp[up,hF.y],by simp[up,hF.i]⟩,.inl ⟨by simp[up],e,he,hs,rfl⟩⟩
    ·intro hs;simp only[go_sem,seval,aB,up];exact⟨rfl,⟨by simp[up,hF.y],by simp[up,hF.i]⟩,.inr ⟨by simp[up],hs,rfl⟩⟩
  rintro g J ⟨qy,_,a1,dn,⟨rfl,om,fp⟩,rfl⟩;refine ax.ctl (λw=>stepG_seq) rfl rfl ?_;rcases fp with⟨h7,e,he,hs,rfl⟩|⟨h7,hs,rfl⟩
  ·refine ax.ctl (λw=>stepG_cond (t:=true) (by rw[dn.eval];exact h7)) rfl rfl ?_;refine ax.ctl (λw=>stepG_skip) rfl rfl ?_;refine ax.ctl (λw=>stepG_block) rfl rfl ?_;rw[Ue k];refine ax.ctl (λw=>stepG_seq) rfl rfl ?_;have zg:=C.upd (o:=.mapIter (some m) c (seen.push e.2.2) c) hA hit;have DU:(U.set it (.mapIter (some m) c (seen.push e.2.2) c)).f it=some (.mapIter (some m) c (seen.push e.2.2) c):=aZ;have pg:(U.set it (.mapIter (some m) c (seen.push e.2.2) c)).f m=some (aV key l c):=by rw[Hp.aO _ (Ne.symm aE)];exact wD
   generalize fF:U.set it (.mapIter (some m) c (seen.push e.2.2) c)=J at zg DU pg;refine(nT (E:=E) (N:=14) (X:=λI ds cf=>ds=[]/\FI lb it I/\I 3=key e.1/\cf=J) ?_ (by simp[bI]) dn).bind ?_
   ·cases k
    all_goals
     simp only[U2,nI,LI,AD,Az,AB,AA,f82,f181,f222,f220,Option.getD_some,aR,bO,dT,bN];refine ag ?_;refine Qs om.i DU pg hn he ?_;simp only[go_sem,seval,aB,up];exact⟨rfl,⟨by simp[up,om.y],by simp[up,om.i]⟩,by simp[up],rfl⟩
   rintro g cf ⟨lO,_,a2,gH,⟨rfl,nA,h3,rfl⟩,rfl⟩;refine ax.ctl (λw=>stepG_seq) rfl rfl ?_;refine ax.ctl (λw=>stepG_region) rfl rfl ?_;have hr:List.range (yz f).size=[0,1]++[2,3]:=by cases k<;>kernel_rfl
   rw[hr];refine(yG (E:=E) (N:=14) (ops:=yz f) (Q:=ki λI ds nZ=>ds=[]/\FI lb it I/\I 10=.func (.yield lb) #[] #[]/\I 11=key e.1/\nZ=cf) (bI f) (by simp[bI]) _ cs [2,3] yt [0,1] lO [] cf a2 ?_ gH).bind ?_
   ·cases k
    all_goals
     simp only[yz,nI,LI,AD,Az,AB,AA,f82,f181,f222,f220,Option.getD_some,aR,bO,dT,bN];simp only[List.filterMap_cons,List.filterMap_nil,List.getElem?_toArray,List.getElem?_cons_succ,List.getElem?_cons_zero];simp only[go_sem,seval,aB,up,ki];exact⟨⟨by simp[up,nA.y],by simp[up,nA.i]⟩,by simp[nA.y],by simp[h3]⟩
   rintro g nZ ⟨FC,_,a3,th,⟨rfl,uv,bC,bT,rfl⟩,rfl⟩;obtain⟨ps,af,tt,ho⟩:=an4 k;refine ax.step rfl (VQ ho rfl (by rw[th.eval];exact bC) (C.loop zg) C.params) ?_;rintro g dx ⟨rfl,rfl⟩
   have Li:(xs++done.map λe=>key e.1).length<1000000:=by have h1:=hL.perm.length_eq;have h2:=List.length_pos_of_mem (hL.mem he hs);simp only[List.length_append,List.length_map]at h1|-;omega
   have hv:a3.eval (.tmp 11)=key e.1:=by rw[th.eval];exact bT
   refine(C.round zg _ _ _ Li (by rw[hv];exact kT e he)).bind ?_;rintro g sK ⟨rfl,Dc⟩;rw[Frame.finish_at,ho];rw[hv]at Dc;have zk:cM 14 _ _ []:=th.put (dst:=some 12) ai (.bool true);refine(yG (E:=E) (N:=14) (ops:=yz f) (Q:=ki λI ds nZ=>ds=[]/\FI lb it I/\I 13=.bool false/\nZ=sK) (bI f) (by simp[bI]) _ cs [] yt [3] _ [] sK _ ?_ zk).bind ?_
   ·cases k
    all_goals
     simp only[yz,nI,LI,AD,Az,AB,AA,f82,f181,f222,f220,Option.getD_some,aR,bO,dT,bN];simp only[List.filterMap_cons,List.filterMap_nil,List.getElem?_toArray,List.getElem?_cons_succ,List.getElem?_cons_zero];simp only[go_sem,seval,aB,up,ki];exact⟨by simp[up,uv.y],by simp[up,uv.i]⟩
   rintro g nZ ⟨N6,_,a5,Dn,⟨rfl,Kq,mz,rfl⟩,rfl⟩;refine ax.ctl (λw=>stepG_region_end) rfl rfl ?_;refine ax.ctl (λw=>stepG_cond (t:=false) (by rw[Dn.eval];exact mz)) rfl rfl ?_;refine ax.ctl (λw=>stepG_skip) rfl rfl ?_;refine ax.ctl (λw=>stepG_inBlock) rfl rfl ?_;refine ax.ctl (λw=>stepG_inLoop) rfl rfl ?_;obtain⟨B9,bl,Dj⟩:=hL.step hn he hs;rw[<-Ue k,<-Ou k];refine ih (done++[e]) B9 (seen.push e.2.2) (X.set it (.mapIter (some m) c (seen.push e.2.2) c)) nZ N6 a5 aa Dj ?_ ?_ aZ h0 (by rw[Hp.aO _ (Ne.symm aE)];exact hm) aE Kq Dn
   ·intro b o hb;by_cases rU:b=it
    ·subst rU;rw[h0]at hb;cases hb
    ·rw[Hp.aO _ rU];exact hX _ _ hb
   ·rw[List.map_append,<-List.append_assoc];exact Dc
  ·refine ax.ctl (λw=>stepG_cond (t:=false) (by rw[dn.eval];exact h7)) rfl rfl ?_;refine ax.ctl (λw=>stepG_exit (k':=[]) rfl) rfl rfl ?_;refine ax.ctl (λw=>stepG_end) rfl rfl (ax.here ⟨.returned (.tuple #[]),_,rfl,rfl,⟨rfl,?_,rfl,qK f,?_,?_⟩,rfl,X,_,(hL.all hn hs).map _,hX,hA⟩)
   ·exact dn.defers
   ·exact QY k
   ·show wpS _ (results (qK f) a1.tmps) _ _ _;rw[xi (fn:=qK f) dn];simp[Ca,adq k,bt]
end
variable {f:FuncId}{key:α->Value}
theorem IP{T:TypeId}(k:yM α f T key):Yields f (λe:α×Value×Nat=>key e.1) key T:=by
 intro E lb p r A C X U xs l c bm m hA dK hm hold hn gI kT cs;have KM:=C.ext hA _ _ dK;have wD:=C.ext hA _ _ hm
 have pe:Frame.enter prog f #[.func (.yield lb) #[] #[],pV bm] .normal=(bI f).at {tmps:=#[.func (.yield lb) #[] #[],pV bm]++Array.replicate 12 undef,defers:=[]} [.code (BI f)]:=by simp[Frame.enter,Frame.at,QY k,bI,adp k,ado k]
 rw[pe,WQ k];have ha:=sQ #[.func (.yield lb) #[] #[],pV bm] 14 al;refine ax.ctl (λw=>stepG_seq) rfl rfl ?_;refine(nT (E:=E) (N:=14) (X:=λI ds J=>ds=[]/\∃it,FI lb it I/\U.f it=none/\J=U.set it (.mapIter (some m) c #[] c)) ?_ (by simp[bI]) ha).bind ?_
 ·cases k
  all_goals
   simp only[iI,AD,Az,AB,AA,f82,f181,f222,f220,Option.getD_some,bO,bN];refine aJ KM ?_;refine Vc (by first|exact su|exact uZ|exact BK|exact zV) rfl wD ?_;intro it hit;simp only[go_sem,seval,aB];exact⟨rfl,it,⟨by simp[up,nV],by simp[up]⟩,hit,rfl⟩
 rintro g J ⟨qy,_,a1,dn,⟨rfl,it,hF,hit,rfl⟩,rfl⟩;refine ax.ctl (λw=>stepG_block) rfl rfl ?_;refine ax.ctl (λw=>stepG_loop) rfl rfl ?_
 have zi:X.f it=none:=by
  cases h:X.f it with
  |none=>rfl
  |some o=>rw[C.ext hA _ _ h]at hit;cases hit
 have aE:it≠m:=bj hm zi;refine akr k C hold hn gI kT (l.length+1) [] l #[] (X.set it (.mapIter (some m) c #[] c)) _ qy a1 aa (.start l) ?_ (by simpa using C.new hA hit) aZ zi (by rw[Hp.aO _ (Ne.symm aE)];exact hm) aE hF dn;intro b o hb;by_cases rU:b=it
 ·subst rU;rw[zi]at hb;cases hb
 ·rw[Hp.aO _ rU];exact hb
def asi:Yields 82 (λe:Int×Value×Nat=>aY e.1) aY 72:=IP .c82
def asf:Yields 181 (λe:Int×Value×Nat=>aY e.1) aY 88:=IP .aaq
def ash:Yields 222 (λe:Int×Value×Nat=>aY e.1) aY 273:=IP .aav
def asg:Yields 220 (λe:List UInt8×Value×Nat=>bU e.1) bU 274:=IP .aau
noncomputable def sM:Code:=f85.body.getD .skip
noncomputable def i85:Array Oper:=bN (bO sM)
noncomputable def sN:Code:=dT (dT (aR sM))
noncomputable def UY:Array Oper:=bN (bO sN)
noncomputable def ym:Code:=dT (aR (aR sN))
noncomputable def UZ:Array Oper:=bN (bO ym)
noncomputable def yy:Array Oper:=bN (bO (aR ym))
def WO:sM=.seq (.region 0 i85 false) (.block 0 (.loop sN)):=ah
def Ot:sN=.seq (.region 1 UY false) (.seq (.cond (.tmp 8) .skip (.exit 0)) (.block 1 ym)):=ah
def Ud:ym=.seq (.region 2 UZ false) (.seq (.region 3 yy false) (.cond (.tmp 14) .ret .skip)):=ah
def ue:Frame:={(default:Frame)with fn:=85,kind:=.normal}
def anB:∃ps af,yy[2]? =some {dst:=some 13,op:=.call ⟨.value (.tmp 11),#[.tmp 12],#[77]⟩,type:=4,pos:=ps,after:=af,guard:=none}:=⟨_,_,by simp only[yy,ym,sN,sM,f85,Option.getD_some,aR,bO,dT,bN];rfl⟩
structure AG (lb it:Nat) (I:av):Prop where
 y:I 0=.func (.yield lb) #[] #[]
 i:I 6=pV it
section
variable {E:Env prog}{lb:Nat}{p:Tmp}{r:Loop}{A:Hp->List Value->Hp->Prop}{l:List (List UInt8×Value×Nat)}{c m:Nat}{cs:List Frame}
def akq (C:FF E lb p r A)(hold:∀e∈l,e.2.2<c)(hn:(l.map (·.2.2)).Nodup){X0:Hp}{xs:List Value}{it:Nat}(gI:xs.length+l.length<=1000000)(kT:∀e∈l,dp (e.2.1)=true):∀(n:Nat) (done rem:List (List UInt8×Value×Nat)) (seen:Array Nat) (X U:Hp) (I:av) (a:Act),rem.length<n->Left l done rem seen->X0.le X->
 A X (xs++done.map λe=>e.2.1) U->X.f it=some (.mapIter (some m) c seen c)->X0.f it=none->X.f m=some (aV bU l c)->it≠m->AG lb it I->cM 15 a I []->
 ax E (G (ue.at a (.code sN:: .inLoop sN:: .inBlock 0::[])) cs) U λg J=>∃e fr,g=G fr cs/\fr.fn=85/\Leaving prog fr J e/\
  (e=.returned (.tuple #[])/\∃X' ks,ks.Perm (l.map λe=>e.2.1)/\X0.le X'/\A X' (xs++ks) J):=by
 intro n
 induction n with
 |zero=>intro _ _ _ _ _ _ _ h;omega
 |succ n ih=>
  intro done rem seen X U I a hlen hL hX hA hit h0 hm aE hF ha;have Lh:=C.ext hA _ _ hit;have wD:=C.ext hA _ _ hm;rw[Ot];refine ax.ctl (λw=>stepG_seq) rfl rfl ?_;refine(nT (E:=E) (N:=15) (X:=λI ds J=>ds=[]/\AG lb it I/\((I 8=.bool true/\∃e∈l,e.2.2∉seen/\J=U.set it (.mapIter (some m) c (seen.push e.2.2) c))\/(I 8=.bool false/\(∀e∈l,e.2.2∈seen)/\J=U))) ?_ (by simp[ue]) ha).bind ?_
  ·simp only[UY,sN,sM,f85,Option.getD_some,aR,bO,dT,bN];refine ag ?_;refine Up hF.i Lh wD hold ?_ ?_
   ·intro e he hs;simp only[go_sem,seval,aB,up];exact⟨rfl,⟨by simp[up,hF.y],by simp[up,hF.i]⟩,.inl ⟨by simp[up],e,he,hs,rfl⟩⟩
   ·intro hs;simp only[go_sem,seval,aB,up];exact⟨rfl,⟨by simp[up,hF.y],by simp[up,hF.i]⟩,.inr ⟨by simp[up],hs,rfl⟩⟩
  rintro g J ⟨qy,_,a1,dn,⟨rfl,om,fp⟩,rfl⟩;refine ax.ctl (λw=>stepG_seq) rfl rfl ?_;rcases fp with⟨h7,e,he,hs,rfl⟩|⟨h7,hs,rfl⟩
  ·refine ax.ctl (λw=>stepG_cond (t:=true) (by rw[dn.eval];exact h7)) rfl rfl ?_;refine ax.ctl (λw=>stepG_skip) rfl rfl ?_;refine ax.ctl (λw=>stepG_block) rfl rfl ?_;rw[Ud];refine ax.ctl (λw=>stepG_seq) rfl rfl ?_;have zg:=C.upd (o:=.mapIter (some m) c (seen.push e.2.2) c) hA hit;have DU:(U.set it (.mapIter (some m) c (seen.push e.2.2) c)).f it=some (.mapIter (some m) c (seen.push e.2.2) c):=aZ;have pg:(U.set it (.mapIter (some m) c (seen.push e.2.2) c)).f m=some (aV bU l c):=by rw[Hp.aO _ (Ne.symm aE)];exact wD
   generalize fF:U.set it (.mapIter (some m) c (seen.push e.2.2) c)=J at zg DU pg;refine(nT (E:=E) (N:=15) (X:=λI ds cf=>ds=[]/\AG lb it I/\I 4=e.2.1/\cf=J) ?_ (by simp[ue]) dn).bind ?_
   ·simp only[UZ,ym,sN,sM,f85,Option.getD_some,aR,bO,dT,bN];refine ag ?_;refine Qs om.i DU pg hn he ?_;simp only[go_sem,seval,aB,up];exact⟨rfl,⟨by simp[up,om.y],by simp[up,om.i]⟩,by simp[up],rfl⟩
   rintro g cf ⟨lO,_,a2,gH,⟨rfl,nA,h3,rfl⟩,rfl⟩;refine ax.ctl (λw=>stepG_seq) rfl rfl ?_;refine ax.ctl (λw=>stepG_region) rfl rfl ?_;have hr:List.range yy.size=[0,1]++[2,3]:=ah;rw[hr];refine(yG (E:=E) (N:=15) (ops:=yy) (Q:=ki λI ds nZ=>ds=[]/\AG lb it I/\I 11=.func (.yield lb) #[] #[]/\I 12=e.2.1/\nZ=cf) ue (by simp[ue]) _ cs [2,3] yt [0,1] lO [] cf a2 ?_ gH).bind ?_
   ·simp only[yy,ym,sN,sM,f85,Option.getD_some,aR,bO,dT,bN];simp only[List.filterMap_cons,List.filterMap_nil,List.getElem?_toArray,List.getElem?_cons_succ,List.getElem?_cons_zero];simp only[go_sem,seval,aB,up,ki];exact⟨⟨by simp[up,nA.y],by simp[up,nA.i]⟩,by simp[nA.y],by simp[h3]⟩
   rintro g nZ ⟨FC,_,a3,th,⟨rfl,uv,bC,bT,rfl⟩,rfl⟩;obtain⟨ps,af,ho⟩:=anB;refine ax.step rfl (VQ ho rfl (by rw[th.eval];exact bC) (C.loop zg) C.params) ?_;rintro g dx ⟨rfl,rfl⟩
   have Li:(xs++done.map λe=>e.2.1).length<1000000:=by have h1:=hL.perm.length_eq;have h2:=List.length_pos_of_mem (hL.mem he hs);simp only[List.length_append,List.length_map]at h1|-;omega
   have hv:a3.eval (.tmp 12)=e.2.1:=by rw[th.eval];exact bT
   refine(C.round zg _ _ _ Li (by rw[hv];exact kT e he)).bind ?_;rintro g sK ⟨rfl,Dc⟩;rw[Frame.finish_at,ho];rw[hv]at Dc;have zk:cM 15 _ _ []:=th.put (dst:=some 13) ai (.bool true);refine(yG (E:=E) (N:=15) (ops:=yy) (Q:=ki λI ds nZ=>ds=[]/\AG lb it I/\I 14=.bool false/\nZ=sK) ue (by simp[ue]) _ cs [] yt [3] _ [] sK _ ?_ zk).bind ?_
   ·simp only[yy,ym,sN,sM,f85,Option.getD_some,aR,bO,dT,bN];simp only[List.filterMap_cons,List.filterMap_nil,List.getElem?_toArray,List.getElem?_cons_succ,List.getElem?_cons_zero];simp only[go_sem,seval,aB,up,ki];exact⟨by simp[up,uv.y],by simp[up,uv.i]⟩
   rintro g nZ ⟨N6,_,a5,Dn,⟨rfl,Kq,mz,rfl⟩,rfl⟩;refine ax.ctl (λw=>stepG_region_end) rfl rfl ?_;refine ax.ctl (λw=>stepG_cond (t:=false) (by rw[Dn.eval];exact mz)) rfl rfl ?_;refine ax.ctl (λw=>stepG_skip) rfl rfl ?_;refine ax.ctl (λw=>stepG_inBlock) rfl rfl ?_;refine ax.ctl (λw=>stepG_inLoop) rfl rfl ?_;obtain⟨B9,bl,Dj⟩:=hL.step hn he hs;rw[<-Ud,<-Ot];refine ih (done++[e]) B9 (seen.push e.2.2) (X.set it (.mapIter (some m) c (seen.push e.2.2) c)) nZ N6 a5 aa Dj ?_ ?_ aZ h0 (by rw[Hp.aO _ (Ne.symm aE)];exact hm) aE Kq Dn
   ·intro b o hb;by_cases rU:b=it
    ·subst rU;rw[h0]at hb;cases hb
    ·rw[Hp.aO _ rU];exact hX _ _ hb
   ·rw[List.map_append,<-List.append_assoc];exact Dc
  ·refine ax.ctl (λw=>stepG_cond (t:=false) (by rw[dn.eval];exact h7)) rfl rfl ?_;refine ax.ctl (λw=>stepG_exit (k':=[]) rfl) rfl rfl ?_;refine ax.ctl (λw=>stepG_end) rfl rfl (ax.here ⟨.returned (.tuple #[]),_,rfl,rfl,⟨rfl,?_,rfl,f85,?_,?_⟩,rfl,X,_,(hL.all hn hs).map _,hX,hA⟩)
   ·exact dn.defers
   ·exact func85
   ·show wpS _ (results f85 a1.tmps) _ _ _;rw[xi (fn:=f85) dn];simp[Ca,f85,bt]
end
def asj:Yields 85 (λe:List UInt8×Value×Nat=>e.2.1) bU 114:=by
 intro E lb p r A C X U xs l c bm m hA dK hm hold hn gI kT cs;have KM:=C.ext hA _ _ dK;have wD:=C.ext hA _ _ hm
 have pe:Frame.enter prog 85 #[.func (.yield lb) #[] #[],pV bm] .normal=ue.at {tmps:=#[.func (.yield lb) #[] #[],pV bm]++Array.replicate 13 undef,defers:=[]} [.code sM]:=by simp[Frame.enter,Frame.at,func85,ue,f85,sM]
 rw[pe,WO];have ha:=sQ #[.func (.yield lb) #[] #[],pV bm] 15 al;refine ax.ctl (λw=>stepG_seq) rfl rfl ?_;refine(nT (E:=E) (N:=15) (X:=λI ds J=>ds=[]/\∃it,AG lb it I/\U.f it=none/\J=U.set it (.mapIter (some m) c #[] c)) ?_ (by simp[ue]) ha).bind ?_
 ·simp only[i85,sM,f85,Option.getD_some,bO,bN];refine aJ KM ?_;refine Vc wQ rfl wD ?_;intro it hit;simp only[go_sem,seval,aB];exact⟨rfl,it,⟨by simp[up,nV],by simp[up]⟩,hit,rfl⟩
 rintro g J ⟨qy,_,a1,dn,⟨rfl,it,hF,hit,rfl⟩,rfl⟩;refine ax.ctl (λw=>stepG_block) rfl rfl ?_;refine ax.ctl (λw=>stepG_loop) rfl rfl ?_
 have zi:X.f it=none:=by
  cases h:X.f it with
  |none=>rfl
  |some o=>rw[C.ext hA _ _ h]at hit;cases hit
 have aE:it≠m:=bj hm zi;refine akq C hold hn gI kT (l.length+1) [] l #[] (X.set it (.mapIter (some m) c #[] c)) _ qy a1 aa (.start l) ?_ (by simpa using C.new hA hit) aZ zi (by rw[Hp.aO _ (Ne.symm aE)];exact hm) aE hF dn;intro b o hb;by_cases rU:b=it
 ·subst rU;rw[zi]at hb;cases hb
 ·rw[Hp.aO _ rU];exact hb
inductive Sl (ety:TypeId) (U:Hp) (xs:List Value):Value->Prop
 |nil:xs=[]->Sl ety U xs (.slice none 0 0)
 |at(a:Nat) (pad:List Value):U.f a=some (.cells (xs++pad).toArray ety (0,0))->Sl ety U xs (.slice (some ⟨a,0,none⟩) xs.length (xs.length+pad.length))
variable {E:Env P}{ds:List Deferred}{dst:Option Tmp}{ty:TypeId}{pos:String}{af:Array Edge}{g:Option (Nat×Bool)}{nx:av->List Deferred->Hp->Prop}{pn:List PanicEntry->Hp->Prop}{t:TypeId}{xs:List Value}
def app1{u:TypeId}{x y:Operand}(el:oN P t)(hz:el.z=1)(hb:el.bytes<=16){z0:Value}(hzero:el.zero= #[z0])(hu:BX P u=true){v0 w:Value}{bn:Nat}(hv:Sl el.e U xs v0)(hx:ak I x=v0)(hy:ak I y=.slice (some ⟨bn,0,none⟩) 1 1)(cE:U.f bn=some (.cells [w].toArray el.e (0,0)))(hw:dp w=true)(fZ:xs.length<=1000000)(h:∀a pad,(U.f a=none\/∃c,v0=.slice (some ⟨a,0,none⟩) xs.length c)->nx (aB I dst (.slice (some ⟨a,0,none⟩) (xs.length+1) (xs.length+1+pad.length))) ds (U.set a (.cells (xs++[w]++pad).toArray el.e (0,0)))):
 aU E ⟨dst,.call ⟨.builtin .append,#[x,y],#[t,u]⟩,ty,pos,af,g⟩ I ds U nx pn:=by
 have hn:tH (ak I y)=some 1:=by rw[hy];rfl
 have iX:jc U el.z 1 (ak I y)=some #[w]:=by rw[hy,hz];simp[jc,cellsOf,cE]
 have ig:∀n,n<=1000000->(2*(n+1)+192)*el.bytes<=2^48:=by intro n hn;have:(2*(n+1)+192)*el.bytes<=(2*(n+1)+192)*16:=Nat.mul_le_mul_left _ hb;omega
 cases hv with
 |nil h0=>
  subst h0;refine sU el (base:=none) (l:=0) (c:=0) (n:=1) (old:=#[]) (new:=#[w]) hu hx hn rfl iX (ig 0 aa) aa (λhc=>aa) ?_;intro hc b cap eQ j0;have:=h b (List.replicate (cap-1) z0) (.inl eQ);simp only[List.length_nil,Nat.zero_add,List.length_replicate,List.nil_append]at this;rw[hzero,FB];have e1:1+(cap-1)=cap:=aa;rw[e1]at this
  have e2:(#[]++ #[w]++(List.replicate (cap-(0+1)) z0).toArray:Array Value)=([w]++List.replicate (cap-1) z0).toArray:=by apply Array.ext';simp
  rw[e2];exact this
 |«at»a pad ha=>
  have hold:jc U el.z xs.length (.slice (some ⟨a,0,none⟩) xs.length (xs.length+pad.length))=some xs.toArray:=by
   rw[hz];simp only[jc,cellsOf,ha]
   cases xs with
   |nil=>simp
   |cons x xs=>simp
  refine sU el (base:=some ⟨a,0,none⟩) (l:=xs.length) (c:=xs.length+pad.length) (n:=1) (old:=xs.toArray) (new:=#[w]) hu hx hn hold iX (ig _ fZ) aa ?_ ?_
  ·intro hc;have:=h a (pad.drop 1) (.inr ⟨_,rfl⟩);have e1:xs.length+1+(pad.drop 1).length=xs.length+pad.length:=by simp;omega
   rw[e1]at this;refine⟨_,⟨_,_,ha,rfl,by simp[hz]at hc|-;omega,by simp[hw],rfl⟩,?_⟩
   have e2:((xs++pad).toArray.extract 0 ((⟨a,0,none⟩:Addr).off+xs.length*el.z)++ #[w]++(xs++pad).toArray.extract ((⟨a,0,none⟩:Addr).off+xs.length*el.z+(#[w]:Array Value).size) (xs++pad).toArray.size)=(xs++[w]++pad.drop 1).toArray:=by apply Array.ext';simp[hz,List.drop_append];rw[List.drop_eq_nil_of_le aa,List.nil_append,List.take_of_length_le (by simp;omega)]
   rw[e2];exact this
  ·intro hc b cap eQ j0;have:=h b (List.replicate (cap-(xs.length+1)) z0) (.inl eQ);have e1:xs.length+1+(List.replicate (cap-(xs.length+1)) z0).length=cap:=by simp;omega
   rw[e1]at this;rw[hzero,FB]
   have e2:(xs.toArray++ #[w]++(List.replicate (cap-(xs.length+1)) z0).toArray:Array Value)=(xs++[w]++List.replicate (cap-(xs.length+1)) z0).toArray:=by apply Array.ext';simp
   rw[e2];exact this
structure tX (ety kr:TypeId) (bb lb d:Nat) (r:Loop) (X:Hp) (xs:List Value) (U:Hp):Prop where
 ext:X.le U
 nb:X.f bb=none
 nl:X.f lb=none
 nd:X.f d=none
 loop:U.f lb=some (.loop r)
 vR:U.f d=some (.deferred (some []))
 cell:∃v,U.f bb=some (.cells #[v] kr (0,0))/\Sl ety U xs v/\∀a n c,v=.slice (some a) n c->X.f a.block=none
variable {ety:TypeId}
def Sl.keep(h:Sl ety U xs v)(k:∀a n c,v=.slice (some a) n c->J.f a.block=U.f a.block):Sl ety J xs v:=by
 cases h with
 |nil h=>exact .nil h
 |«at»a pad h=>exact .at a pad (by rw[k _ _ _ rfl];exact h)
variable {kr:TypeId}{bb lb d:Nat}{r:Loop}{X:Hp}
def tX.apart(h:tX ety kr bb lb d r X xs U)(hX:X.f b=some o):b≠bb/\b≠lb/\b≠d:=by
 refine⟨?_,?_,?_⟩<;>(intro e;subst e)
 ·rw[h.nb]at hX;cases hX
 ·rw[h.nl]at hX;cases hX
 ·rw[h.nd]at hX;cases hX
def ir(h:X.le U)(b:Nat)(o:Obj):(X.set b o).le (U.set b o):=by
 intro x y hx;by_cases e:x=b
 ·subst e;rw[Hp.bD]at hx|-;exact hx
 ·rw[Hp.aO _ e]at hx|-;exact h _ _ hx
def tX.new(h:tX ety kr bb lb d r X xs U)(hb:U.f b=none):tX ety kr bb lb d r (X.set b o) xs (U.set b o):=by
 obtain⟨v,h1,h2,h3⟩:=h.cell;have n1:bb≠b:=bj h1 hb;have n2:lb≠b:=λe=>by subst e;have:=h.loop;rw[hb]at this;cases this
 have n3:d≠b:=λe=>by subst e;have:=h.vR;rw[hb]at this;cases this
 have n4:∀a n c,v=.slice (some a) n c->a.block≠b:=by
  intro a n c e e2
  cases h2 with
  |nil=>cases e
  |«at»a' pad ha=>cases e;subst e2;rw[hb]at ha;cases ha
 refine⟨ir h.ext _ _,by rw[Hp.aO _ n1];exact h.nb,by rw[Hp.aO _ n2];exact h.nl,by rw[Hp.aO _ n3];exact h.nd,by rw[Hp.aO _ n2];exact h.loop,by rw[Hp.aO _ n3];exact h.vR,
  v,by rw[Hp.aO _ n1];exact h1,h2.keep λa n c e=>Hp.aO _ (n4 a n c e),λa n c e=>by rw[Hp.aO _ (n4 a n c e)];exact h3 a n c e⟩
def tX.upd(h:tX ety kr bb lb d r X xs U){o':Obj}(hb:X.f b=some o'):tX ety kr bb lb d r (X.set b o) xs (U.set b o):=by
 obtain⟨v,h1,h2,h3⟩:=h.cell;obtain⟨n1,n2,n3⟩:=h.apart hb;have n1:=n1.symm;have n2:=n2.symm;have n3:=n3.symm;have n4:∀a n c,v=.slice (some a) n c->a.block≠b:=λa n c e e2=>by have:=h3 a n c e;rw[e2,hb]at this;cases this
 refine⟨ir h.ext _ _,by rw[Hp.aO _ n1];exact h.nb,by rw[Hp.aO _ n2];exact h.nl,by rw[Hp.aO _ n3];exact h.nd,by rw[Hp.aO _ n2];exact h.loop,by rw[Hp.aO _ n3];exact h.vR,
  v,by rw[Hp.aO _ n1];exact h1,h2.keep λa n c e=>Hp.aO _ (n4 a n c e),λa n c e=>by rw[Hp.aO _ (n4 a n c e)];exact h3 a n c e⟩
inductive yU:FuncId->TypeId->TypeId->Prop
 |aao:yU 133 22 3
 |aap:yU 136 75 77
 |aaw:yU 239 49 9
noncomputable def rO(fs:FuncId):Func:=(prog.funcs[fs]?).getD default
noncomputable def BS(fs:FuncId):Code:=(rO fs).body.getD .skip
noncomputable def RP(fs:FuncId):Array Oper:=bN (bO (BS fs))
noncomputable def Bi(fs:FuncId):Array Oper:=bN (bO (bO (aR (BS fs))))
noncomputable def Ic(fs:FuncId):Code:=dT (aR (bO (aR (BS fs))))
noncomputable def tS(fs:FuncId):Array Oper:=bN (bO (aR (aR (BS fs))))
def Pe:Code->Code| .rangeFunc _ _ a _=>a|c=>c
def Pv:Code->Code| .rangeFunc _ _ _ b=>b|c=>c
noncomputable def yY(fs:FuncId):Array Oper:=bN (Pe (Ic fs))
noncomputable def y0(fs:FuncId):Array Oper:=bN (dT (Pv (Ic fs)))
def bS(fs:FuncId):Frame:={(default:Frame)with fn:=fs,kind:=.normal}
def Cr:BS 133=f133.body.getD .skip:=by unfold BS rO;rw[func133];rfl
def Cs:BS 136=f136.body.getD .skip:=by unfold BS rO;rw[func136];rfl
def Ct:BS 239=f239.body.getD .skip:=by unfold BS rO;rw[func239];rfl
def e22:oN prog 22 where
 e:=3
 z:=1
 zero:=#[.int .i64 0]
 bytes:=8
 hu:=ah
 hi:=⟨t3,.int .i64 0,ah,ah,ah,rfl,ah⟩
def e75:oN prog 75 where
 e:=77
 z:=1
 zero:=#[.pointer none]
 bytes:=8
 hu:=ah
 hi:=⟨t77,.pointer none,ah,ah,ah,rfl,ah⟩
def e49:oN prog 49 where
 e:=9
 z:=1
 zero:=#[.string (B [])]
 bytes:=16
 hu:=ah
 hi:=⟨t9,.string (B []),ah,ah,ah,rfl,ah⟩
section
variable {fs:FuncId}{kr ety:TypeId}(k:yU fs kr ety)
include k
def QZ:prog.funcs[fs]? =some (rO fs):=by
 unfold rO
 cases k<;>simp only[func133,func136,func239,Option.getD_some]
def adt:(rO fs).ntmps=13:=by cases k<;>kernel_rfl
def ads:(rO fs).body=some (BS fs):=by cases k<;>kernel_rfl
def yU.ne:kr≠ety:=by cases k<;>decide
def WR:BS fs=.seq (.region 0 (RP fs) false) (.seq (.seq (.region 1 (Bi fs) false) (.block 0 (.rangeFunc (.tmp 6) #[7] (.region 2 (yY fs) false) (.block 1 (.region 3 (y0 fs) false))))) (.seq (.region 4 (tS fs) false) .ret)):=by cases k<;>kernel_rfl
end
variable {E:Env prog}{fs:FuncId}
def aby(k:yU fs kr ety){T:Array Value}(hT:T.size=13)(h2:T.getD 2 undef=pV bb):
 FF E lb 7 {state:=.ready,pending:=none,fn:=fs,tmps:=T,params:=#[7],assign:=.region 2 (yY fs) false,body:=.block 1 (.region 3 (y0 fs) false),defers:=d}
  (tX ety kr bb lb d {state:=.ready,pending:=none,fn:=fs,tmps:=T,params:=#[7],assign:=.region 2 (yY fs) false,body:=.block 1 (.region 3 (y0 fs) false),defers:=d}):=by
 refine⟨rfl,λh=>h.loop,λh=>h.ext,λh hb=>h.new hb,λh hb=>h.upd hb,?_⟩;intro X xs U h v c cs bl xY;rw[ao3]
 obtain⟨mU,ha,r2,r7⟩:∃mU:av,cM 13 ⟨T.setIfInBounds 7 v,[]⟩ mU []/\mU 2=pV bb/\mU 7=v:=by
  refine⟨λt=>(T.setIfInBounds 7 v).getD t undef,⟨by simp[hT],rfl,λt=>rfl⟩,?_,?_⟩
  ·show(T.setIfInBounds 7 v).getD 2 undef=_;rw[Array.getD_eq_getD_getElem?,Array.getElem?_setIfInBounds_ne ai,<-Array.getD_eq_getD_getElem?,h2]
  ·show(T.setIfInBounds 7 v).getD 7 undef=_;rw[Array.getD_eq_getD_getElem?,Array.getElem?_setIfInBounds_self_of_lt (by rw[hT];decide)];rfl
 refine ax.ctl (λw=>VP) rfl rfl ?_;refine(Wm (E:=E) (N:=13) (ops:=yY fs) (X:=λI ds J=>ds=[]/\I 2=pV bb/\I 5=v/\J=U) (by simp[xj]) (by cases k<;>kernel_rfl) _ mU [] U _ ?_ ha).bind ?_
 ·have hr:List.range (yY fs).size=[0]:=by cases k<;>kernel_rfl
  rw[hr]
  cases k
  all_goals
   simp only[yY,Ic,Cr,Cs,Ct,f133,f136,f239,Option.getD_some,aR,bO,dT,bN,Pe];simp only[List.filterMap_cons,List.filterMap_nil,List.getElem?_toArray,List.getElem?_cons_zero];simp only[go_sem,seval,aB,up,ki,r2,r7]
 rintro g J ⟨qy,_,a1,dn,⟨rfl,o0,kR,rfl⟩,rfl⟩;refine ax.step rfl (aqd h.loop rfl) ?_;rintro g cf ⟨rfl,rfl⟩;refine ax.ctl (λw=>ap7) rfl rfl ?_;refine ax.ctl (λw=>VP) rfl rfl ?_;obtain⟨v0,c1,c2,c3⟩:=h.cell;have Ms:bb≠lb:=λe=>by subst e;have:=h.loop;rw[c1]at this;cases this
 have nbd:bb≠d:=λe=>by subst e;have:=h.vR;rw[c1]at this;cases this
 have Ur:lb≠d:=λe=>by subst e;have:=h.loop;rw[h.vR]at this;cases this
 generalize sr:J.set lb _=fA;have vN:fA.f bb=some (.cells #[v0] kr (0,0)):=by rw[<-sr,Hp.aO _ Ms];exact c1
 have yn:∀a n c,v0=.slice (some a) n c->a.block≠lb/\a.block≠bb/\a.block≠d/\∃cc e z,J.f a.block=some (.cells cc e z):=by
  intro a n c e
  cases c2 with
  |nil=>cases e
  |«at»a' pad dI=>
   cases e
   refine⟨λe=>?_,λe=>?_,λe=>?_,_,_,_,dI⟩<;>(have e':=e;simp only at e';subst e')
   ·rw[h.loop]at dI;cases dI
   ·rw[c1]at dI;simp[k.ne]at dI
   ·rw[h.vR]at dI;cases dI
 have c2':Sl ety fA xs v0:=c2.keep λa n c e=>by rw[<-sr,Hp.aO _ (yn a n c e).1]
 refine(Wm (E:=E) (N:=13) (ops:=y0 fs) (X:=λI ds cf=>ds=[]/\∃cQ,cQ.le cf/\(∃v',cQ.f bb=some (.cells #[v'] kr (0,0))/\Sl ety cQ (xs++[v]) v'/\∀a n c,v'=.slice (some a) n c->X.f a.block=none)/\(∀b o,b≠bb->(∀a n c,v0=.slice (some a) n c->b≠a.block)->fA.f b=some o->cQ.f b=some o)) (by simp[xj]) (by cases k<;>kernel_rfl) _ qy [] fA _ ?_ dn).bind ?_
 ·have hr:List.range (y0 fs).size=[0,1,2,3,4]:=by cases k<;>kernel_rfl
  rw[hr];have Uh:∀bn,fA.f bn=none->bb≠bn:=λbn cE e=>by subst e;rw[vN]at cE;cases cE
  have aas:∀bn,fA.f bn=none->∀o,(fA.set bn o).f bb=some (.cells #[v0] kr (0,0)):=λbn cE o=>by rw[Hp.aO _ (Uh bn cE)];exact vN
  have aax:∀bn,fA.f bn=none->∀o,Sl ety (fA.set bn o) xs v0:=λbn cE o=>c2'.keep λa n c e=>by
   refine Hp.aO _ λe2=>?_;have:=yn a n c e;obtain⟨m1,m2,m3,cc,ee,z,m4⟩:=this;have m5:fA.f a.block=J.f a.block:=by rw[<-sr];exact Hp.aO _ m1
   rw[m4,e2,cE]at m5;cases m5
  have lst:∀(bn a:Nat) (pad:List Value) (o1 o2:Obj),a≠bb->Sl ety (((fA.set bn o1).set a (.cells (xs++[v]++pad).toArray ety (0,0))).set bb o2) (xs++[v]) (.slice (some ⟨a,0,none⟩) (xs.length+1) (xs.length+1+pad.length)):=λbn a pad o1 o2 dr=>by have:=Sl.at (ety:=ety) (U:=(((fA.set bn o1).set a (.cells (xs++[v]++pad).toArray ety (0,0))).set bb o2)) (xs:=xs++[v]) a pad (by rw[Hp.aO _ dr];exact Hp.bD _ _);simpa using this
  cases k
  all_goals
   simp only[y0,Ic,Cr,Cs,Ct,f133,f136,f239,Option.getD_some,aR,bO,dT,bN,Pv];simp only[List.filterMap_cons,List.filterMap_nil,List.getElem?_toArray,List.getElem?_cons_succ,List.getElem?_cons_zero];simp only[go_sem,seval,aB,up,o0,kR,vN];have SY:Value.cells v= #[v]:=PT xY;unfold Value.cells at SY;simp only[SY];refine ag ?_;refineλbn cE=>?_;have nbn:=Uh bn cE;have PD:=aas bn cE;have Jy:=aax bn cE;refine ag ?_
   first|refine app1 e22 rfl ai rfl ah (Jy _) rfl rfl aZ xY aa ?_|refine app1 e75 rfl ai rfl ah (Jy _) rfl rfl aZ xY aa ?_|refine app1 e49 rfl ai rfl ah (Jy _) rfl rfl aZ xY aa ?_
   intro a pad qh
   have dr:a≠bb:=by
    rcases qh with qh|⟨c,e⟩
    ·intro e;subst e;rw[PD]at qh;cases qh
    ·exact(yn _ _ _ e).2.1
   have hXa:X.f a=none:=by
    rcases qh with qh|⟨c,e⟩
    ·cases hx:X.f a with
     |none=>rfl
     |some o=>
      have h1:=h.ext _ _ hx;have h2:a≠lb:=bj hx h.nl
      have h3:a≠bn:=λe=>by subst e;rw[<-sr,Hp.aO _ h2]at cE;rw[cE]at h1;cases h1
      rw[Hp.aO _ h3,<-sr,Hp.aO _ h2,h1]at qh;cases qh
    ·exact c3 _ _ _ e
   have agB:∀b o,b≠bb->(∀a n c,v0=.slice (some a) n c->b≠a.block)->fA.f b=some o->b≠a/\b≠bn:=by
    intro b o h1 h2 h3;have hn:b≠bn:=bj h3 cE;refine⟨λe=>?_,hn⟩;subst e;rcases qh with qh|⟨c,e⟩
    ·rw[Hp.aO _ hn,h3]at qh;cases qh
    ·exact h2 _ _ _ e rfl
   have c1m:=λo o'=>(Hp.aO (U:=fA.set bn o) o' dr.symm).trans (PD o);simp only[go_sem,seval,aB,up,ki,o0,c1m];refine⟨_,Hp.le_refl _,⟨_,aZ,?_,?_⟩,?_⟩
   ·exact lst _ _ _ _ _ dr
   ·intro a' n c e
    cases e
    exact hXa
   ·intro b o h1 h2 h3;obtain⟨k1,k2⟩:=agB b o h1 h2 h3;rw[Hp.aO _ h1,Hp.aO _ k1,Hp.aO _ k2];exact h3
 rintro g cf ⟨lO,_,a2,gH,⟨rfl,cQ,hle,lB,Ec⟩,rfl⟩;refine ax.iQ (J:=cQ) ?_ hle;refine ax.ctl (λw=>ap8) rfl rfl ?_;have Ss:cQ.f lb=_:=Ec lb _ (Ne.symm Ms) (λa n c e=>(yn a n c e).1.symm) (by rw[<-sr];exact Hp.bD _ _);have ed:a2.defers=[]:=gH.defers;obtain⟨tm2,d2⟩:=a2;subst ed;refine ax.step rfl (aqf Ss) ?_;rintro g gB ⟨rfl,rfl⟩;refine ax.here ⟨rfl,?_⟩;obtain⟨v',e1,e2,e3⟩:=lB
 have hk:∀b o,X.f b=some o->cQ.f b=some o:=by intro b o hb;obtain⟨n1,n2,n3⟩:=h.apart hb;refine Ec b o n1 (λa n c e e2=>by have:=c3 a n c e;rw[<-e2,hb]at this;cases this) ?_;rw[<-sr,Hp.aO _ n2];exact h.ext _ _ hb
 refine⟨?_,h.nb,h.nl,h.nd,aZ,?_,v',?_,?_,e3⟩
 ·intro b o hb;rw[Hp.aO _ (h.apart hb).2.1];exact hk b o hb
 ·rw[Hp.aO _ Ur.symm];refine Ec d _ nbd.symm (λa n c e=>(yn a n c e).2.2.1.symm) ?_;rw[<-sr,Hp.aO _ Ur.symm];exact h.vR
 ·rw[Hp.aO _ Ms];exact e1
 ·refine e2.keep λa n c e=>Hp.aO _ λe5=>?_;subst e
  cases e2 with
  |«at»a' pad dI=>
   have e6:a'=lb:=e5;subst e6;rw[Ss]at dI;cases dI
variable {pick:α×Value×Nat->Value}{tc:TypeId}{bm m c:Nat}
theorem Jr(k:yU fs kr ety)(hY:Yields f pick key tc)(hg:ck prog f=true)(dK:U.f bm=some (.cells #[.map (some m)] tc (0,0)))(hm:U.f m=some (aV key l c))(hold:∀e∈l,e.2.2<c)(hn:(l.map (·.2.2)).Nodup)(gI:l.length<=1000000)(kT:∀e∈l,dp (pick e)=true):
 ay E fs #[.slice none 0 0,.func (.func f) #[] #[pV bm]] U λe J=>U.le J/\∃v ks,e=.returned v/\ks.Perm (l.map pick)/\Sl ety J ks v/\∀a n c,v=.slice (some a) n c->U.f a.block=none:=by
 intro cs
 have pe:Frame.enter prog fs #[.slice none 0 0,.func (.func f) #[] #[pV bm]] .normal=(bS fs).at {tmps:=#[.slice none 0 0,.func (.func f) #[] #[pV bm]]++Array.replicate 11 undef,defers:=[]} [.code (BS fs)]:=by simp[Frame.enter,Frame.at,QZ k,bS,adt k,ads k]
 rw[pe,WR k];have ha:=sQ #[.slice none 0 0,.func (.func f) #[] #[pV bm]] 13 al;refine ax.ctl (λw=>stepG_seq) rfl rfl ?_;refine(nT (E:=E) (N:=13) (X:=λI ds J=>ds=[]/\∃bb,I 2=pV bb/\I 1=.func (.func f) #[] #[pV bm]/\U.f bb=none/\J=U.set bb (.cells #[.slice none 0 0] kr (0,0))) ?_ (by simp[bS]) ha).bind ?_
 ·cases k
  all_goals
   simp only[RP,Cr,Cs,Ct,f133,f136,f239,Option.getD_some,bO,bN];refine ag ?_;refineλbb eQ=>?_;simp only[go_sem,seval,aB];exact⟨rfl,bb,by simp[up],by simp[up,nV],eQ,rfl⟩
 rintro g J ⟨qy,_,a1,dn,⟨rfl,bb,h2,h1,eQ,rfl⟩,rfl⟩;generalize fF:U.set bb (.cells #[.slice none 0 0] kr (0,0))=J;have KL:J.f bb=some (.cells #[.slice none 0 0] kr (0,0)):=by rw[<-fF];exact Hp.bD _ _
 have Tf:∀b o,U.f b=some o->b≠bb/\J.f b=some o:=by intro b o hb;have:b≠bb:=bj hb eQ;exact⟨this,by rw[<-fF,Hp.aO _ this];exact hb⟩
 refine ax.ctl (λw=>stepG_seq) rfl rfl ?_;refine ax.ctl (λw=>stepG_seq) rfl rfl ?_;refine(nT (E:=E) (N:=13) (X:=λI ds cf=>ds=[]/\I 2=pV bb/\I 6=.func (.func f) #[] #[pV bm]/\cf=J) ?_ (by simp[bS]) dn).bind ?_
 ·cases k
  all_goals
   simp only[Bi,Cr,Cs,Ct,f133,f136,f239,Option.getD_some,aR,bO,bN];simp only[go_sem,seval,aB];exact⟨rfl,by simp[up,h2],by simp[up,h1],rfl⟩
 rintro g cf ⟨lO,_,a2,gH,⟨rfl,h2,h6,rfl⟩,rfl⟩;refine ax.ctl (λw=>stepG_block) rfl rfl ?_;refine ax.step rfl (aqk (fid:=f) (cap:=#[pV bm]) (by rw[gH.eval];exact h6) hg rfl) ?_;rintro g iu ⟨d,lb,hd,aE,DX,zQ,rfl⟩;have hT:a2.tmps.size=13:=gH.size;have hT2:a2.tmps.getD 2 undef=pV bb:=by rw[gH.tmps];exact h2
 have C:=aby k (E:=E) (lb:=lb) (d:=d) hT hT2;have Uq:lb≠bb:=bj DX KL;have ndb:d≠bb:=bj hd KL
 have ahU:∀b o,U.f b=some o->iu.f b=some o:=by intro b o hb;obtain⟨k1,k2⟩:=Tf b o hb;have k3:b≠d:=bj hd k2;have k4:b≠lb:=bj DX k2;rw[zQ,Hp.aO _ k4,Hp.aO _ k3];exact k2
 have uI:∀b,cf.f b=none->U.f b=none:=by
  intro b hb
  cases hs:U.f b with
  |none=>rfl
  |some o=>rw[(Tf b o hs).2]at hb;cases hb
 have Gs:tX ety kr bb lb d {state:=.ready,pending:=none,fn:=fs,tmps:=a2.tmps,params:=#[7],assign:=.region 2 (yY fs) false,body:=.block 1 (.region 3 (y0 fs) false),defers:=d} U [] iu:=by
  refine⟨ahU,eQ,uI _ DX,uI _ hd,?_,?_,.slice none 0 0,?_,.nil rfl,λa n c e=>by cases e⟩
  ·rw[zQ];exact Hp.bD _ _
  ·rw[zQ,Hp.aO _ aE.symm];exact Hp.bD _ _
  ·rw[zQ,Hp.aO _ Uq.symm,Hp.aO _ ndb.symm];exact KL
 have KP:=hY C Gs dK hm hold hn (aW gI) kT;have acv:(#[.func (.yield lb) #[] #[]]++ #[pV bm]:Array Value)= #[.func (.yield lb) #[] #[],pV bm]:=rfl;rw[acv];refine ay.run KP ?_ ?_
 ·rintro v gB ⟨hv,X',ks,hp,xK,hA⟩;rw[List.nil_append]at hA;have fC:((bS fs).at {a2 with defers:={target:=.collected d,args:=#[]}::a2.defers} (.inRangeFunc lb:: .inBlock 0:: .code ((Code.region 4 (tS fs) false).seq Code.ret)::[])).finish v=(bS fs).at {a2 with defers:={target:=.collected d,args:=#[]}::a2.defers} (.endRangeFunc lb:: .inBlock 0:: .code ((Code.region 4 (tS fs) false).seq Code.ret)::[]):=rfl;rw[fC];refine ax.step rfl (aqe hA.loop rfl rfl) ?_;rintro g xv ⟨rfl,rfl⟩;refine ax.ctl (λw=>stepG_inBlock) rfl rfl ?_;refine ax.ctl (λw=>stepG_seq) rfl rfl ?_;obtain⟨v',c1,c2,c3⟩:=hA.cell
  have yn:∀a n c,v'=.slice (some a) n c->a.block≠lb/\a.block≠d:=by
   intro a n c e
   cases c2 with
   |nil=>cases e
   |«at»a' pad dI=>
    cases e
    refine⟨λe=>?_,λe=>?_⟩<;>(have e':=e;simp only at e';subst e')
    ·rw[hA.loop]at dI;cases dI
    ·rw[hA.vR]at dI;cases dI
  generalize uR:gB.set lb _=lP;have Bl:lP.f d=some (.deferred (some [])):=by rw[<-uR,Hp.aO _ aE.symm];exact hA.vR
  have Dt:lP.f bb=some (.cells #[v'] kr (0,0)):=by rw[<-uR,Hp.aO _ Uq.symm];exact c1
  have hs7:Sl ety lP ks v':=c2.keep λa n c e=>by rw[<-uR,Hp.aO _ (yn a n c e).1]
  have ahV:U.le lP:=by intro b o hb;have h1:=xK b o hb;rw[<-uR,Hp.aO _ (hA.apart h1).2.1];exact hA.ext _ _ h1
  have Dp:cM 13 {a2 with defers:={target:=.collected d,args:=#[]}::a2.defers} lO [{target:=.collected d,args:=#[]}]:=gH.defer _;refine(nT (E:=E) (N:=13) (X:=λI ds cf=>ds=[{target:=.collected d,args:=#[]}]/\I 4=v'/\cf=lP) ?_ (by simp[bS]) Dp).bind ?_
  ·cases k
   all_goals
    simp only[tS,Cr,Cs,Ct,f133,f136,f239,Option.getD_some,aR,bO,bN];simp only[go_sem,seval,aB,up,h2,Dt];exact⟨rfl,by simp[up],rfl⟩
  rintro g cf ⟨ρ8,_,a8,pc,⟨rfl,h4,rfl⟩,rfl⟩;refine ax.ctl (g':=G {(bS fs).at a8 [.code .ret]with mode:=.returning} cs) (λw=>?_) rfl rfl ?_
  ·simp[G,stepG,stepG.exec,Frame.at]
  refine ax.step rfl (aqi (d:=d) Bl rfl pc.defers) ?_;rintro g vD ⟨rfl,rfl⟩;have nX:∀b o,U.f b=some o->b≠d:=λb o hb e=>by subst e;have:=uI _ hd;rw[this]at hb;cases hb
  refine ax.here ⟨.returned v',_,rfl,rfl,⟨rfl,rfl,rfl,rO fs,QZ k,?_⟩,?_,v',ks,rfl,hp,?_,?_⟩
  ·show wpS _ (results (rO fs) a8.tmps) _ _ _;rw[xi (fn:=rO fs) pc];have h0:(rO fs).results= #[.tmp 4]:=by cases k<;>kernel_rfl
   simp[Ca,h0,bt,h4]
  ·intro b o hb;rw[Hp.aO _ (nX b o hb)];exact ahV b o hb
  ·exact hs7.keep λa n c e=>Hp.aO _ (yn a n c e).2
  ·intro a n c e
   cases hs:U.f a.block with
   |none=>rfl
   |some o=>have:=xK _ _ hs;rw[c3 a n c e]at this;cases this
 ·rintro ch gB ⟨hv,_⟩
  cases hv
def LW{i:Int}:ay E 214 #[.int .i64 i] U λe' ae=>e'=.returned (.bool false)/\ae=U:=by refine aX func214 ntmps214 results214 λQ aD an aA=>?_;refine ag ?_;refine an aI ao ⟨?_,rfl⟩;simp[up]
def LX{l:List UInt8}:ay E 86 #[.string (B l)] U λe' ae=>e'=.returned (.bool false)/\ae=U:=by refine aX func86 ntmps86 results86 λQ aD an aA=>?_;refine ag ?_;refine an aI ao ⟨?_,rfl⟩;simp[up]
def py{i j:Int}:ay E 168 #[.int .i64 i,.int .i64 j] U λe' ae=>e'=.returned (.bool (decide (i<j)))/\ae=U:=by refine aX func168 ntmps168 results168 λQ aD an aA=>?_;refine ag ?_;refine aT LW ?_;refine ag ?_;exact an aI ao ⟨rfl,rfl⟩
variable {i j:List UInt8}
def aki:ay E 262 #[.string (B i),.string (B j)] U λe' ae=>e'=.returned (.bool (Op.bytesLess i j))/\ae=U:=by refine aX func262 ntmps262 results262 λQ aD an aA=>?_;refine ag ?_;refine aT LX ?_;refine ag ?_;exact an aI ao ⟨rfl,rfl⟩
def abD:ay E 52 #[.string (B i),.string (B j)] U λe' ae=>e'=.returned (.int .i64 (if Op.bytesLess i j then-1 else if i=j then 0 else 1))/\ae=U:=by
 refine aX func52 ntmps52 results52 λQ aD an aA=>?_;refine ag ?_;refine aT LX ?_;refine ag ?_;refine aT LX ?_;refine ag ?_
 cases h1:Op.bytesLess i j with
 |true=>
  refine ag ?_;exact an aI ao ⟨by simp[h1,up],rfl⟩
 |false=>
  refine aJ h1 ?_;by_cases h2:i=j
  ·subst h2;refine ag ?_;exact an aI ao ⟨by simp[h1,up],rfl⟩
  ·simp only[go_sem,seval,h2,decide_false,Bool.not_false];exact an aI ao ⟨by simp[h1,h2,up],rfl⟩
def Py(l:List UInt8)(i:Nat):(l.getD i 0).toNat<=255:=by have:=(l.getD i 0).toNat_lt;omega
def aai(l:List UInt8)(i:Nat):IntKind.i64.wrap (0+IntKind.i64.wrap (pR l i))=((l.getD i 0).toNat:Int):=by have h:=Py l i;unfold pR;have e:=wrap64 (n:=((l.getD i 0).toNat:Int)) aa aa;rw[e,Int.zero_add,e]
variable {n:Nat}
def aj7(hn:n<=255):ay E 172 #[.int .u64 n] U λe' ae=>(∃k:Nat,k<=255/\e'=.returned (.int .i64 k))/\ae=U:=by
 refine aX func172 ntmps172 results172 λQ aD an aA=>?_;have c0:¬(4294967296:Int)<=n:=aa;have c1:¬(65536:Int)<=n:=aa;have c2:¬(256:Int)<=n:=aa;refine bR c0 c1 c2 ?_
 have e8:IntKind.u8.wrap (n:Int)=n:=by have:((n:Int) % 256)=n:=aa;simpa[IntKind.wrap,IntKind.bits,IntKind.signed]using this
 rw[e8];refine⟨⟨aa,Int.lt_of_le_of_lt (b:=255) aa jb⟩,?_⟩;refine ag ?_;exact an aI ao ⟨⟨_,Py _ _,congrArg (λx=>Fin.returned (.int .i64 x)) (aai _ _)⟩,rfl⟩
def TH(hn:n<=255):ay E 135 #[.int .u64 n] U λe' ae=>(∃k:Nat,k<=255/\e'=.returned (.int .i64 k))/\ae=U:=by
 refine aX func135 ntmps135 results135 λQ aD an aA=>?_;refine ag ?_;refine aK (aj7 hn) ?_;rintro v ae ⟨⟨k,hk,hv⟩,rfl⟩
 cases hv
 refine ag ?_;exact an aI ao ⟨⟨k,hk,rfl⟩,rfl⟩
def Hp.Nf(h:U.f b=some o):U.set b o=U:=Hp.ext' λx=>by
 by_cases e:x=b
 ·subst e;rw[Hp.bD,h]
 ·rw[Hp.aO _ e]
structure yO {κ:Type} (lt:κ->κ->Bool):Prop where
 trans:∀{a b c},lt b a=false->lt c b=false->lt c a=false
 asym:∀{a b},lt a b=true->lt b a=false
def dV{κ:Type}(lt:κ->κ->Bool)(l:List κ):Prop:=l.Pairwise λa b=>lt b a=false
structure Down {κ:Type} (lt:κ->κ->Bool) (A:List κ) (x:κ) (B:List κ):Prop where
 jF:dV lt (A++B)
 le:∀b∈B,lt b x=false
section
variable {κ:Type}{lt:κ->κ->Bool}{A B:List κ}{x y:κ}
def Down.start (h:dV lt A):Down lt A x []:=⟨aW h,al⟩
def Down.step (L:yO lt)(h:Down lt (A++[y]) x B)(hl:lt x y=true):Down lt A x (y::B):=by
 refine⟨by have:=h.jF;simpa using this,λb hb=>?_⟩;rcases List.mem_cons.1 hb with rfl|hb
 ·exact L.asym hl
 ·exact h.le b hb
def Down.JN (h:Down lt [] x B):dV lt (x::B):=by refine List.pairwise_cons.2 ⟨h.le,by simpa[dV]using h.jF⟩
def Down.JO (L:yO lt)(h:Down lt (A++[y]) x B)(hl:lt x y=false):dV lt (A++[y]++x::B):=by
 have hs:=h.jF;unfold dV at hs|-;rw[List.pairwise_append]at hs;obtain⟨h1,h2,h3⟩:=hs;have rP:=h1;rw[List.pairwise_append]at rP;rw[List.pairwise_append];refine⟨h1,List.pairwise_cons.2 ⟨h.le,h2⟩,?_⟩;intro a ha b hb;rcases List.mem_cons.1 hb with rfl|hb
 ·rcases List.mem_append.1 ha with dI|dI
  ·exact L.trans (rP.2.2 a dI y al) hl
  ·simp at dI;subst dI;exact hl
 ·exact h3 a ha b hb
end
def kg(a b:Int):Bool:=decide (a<b)
def BM:yO kg:=⟨by simp only[kg,decide_eq_false_iff_not];omega,by simp only[kg,decide_eq_false_iff_not,decide_eq_true_eq];omega⟩
variable {xs:List Int}{blk cap:Nat}{pad:List Value}
def ai0(hb:U.f blk=some (.cells (xs.map aY++pad).toArray 3 (0,0)))(hn:xs.length<=1000000):
 ay E 162 #[.slice (some ⟨blk,0,none⟩) xs.length cap,.int .i64 0,.int .i64 xs.length] U λe J=>e=.returned (.tuple #[])/\∃ys,ys.Perm xs/\dV kg ys/\J=U.set blk (.cells (ys.map aY++pad).toArray 3 (0,0)):=by
 refine aX func162 ntmps162 results162 λQ aD an aA=>?_;refine ag ?_;refine di (λm I ds ae=>ds=[]/\I 0=.slice (some ⟨blk,0,none⟩) xs.length cap/\I 1=.int .i64 0/\I 2=.int .i64 xs.length/\∃S R,m=R.length/\(S++R).Perm xs/\dV kg S/\(I 6=.int .i64 S.length\/(xs=[]/\S=[]/\I 6=.int .i64 1))/\ae=U.set blk (.cells ((S++R).map aY++pad).toArray 3 (0,0))) (xs.length-1) ?_ ?_
 ·refine⟨rfl,?_,?_,?_,xs.take 1,xs.drop 1,al,by rw[List.take_append_drop],?_,?_,?_⟩
  ·exact au
  ·exact au
  ·exact au
  ·cases xs<;>simp[dV]
  ·cases xs with
   |nil=>exact .inr ⟨rfl,rfl,au⟩
   |cons x xs=>refine .inl ?_;simp only[go_sem,seval];rfl
  ·rw[List.take_append_drop,Hp.Nf hb]
 ·rintro m I ds ae X ⟨rfl,h0,h1,h2,S,R,rfl,hp,hs,h6,rfl⟩ hX;have hlen:=hp.length_eq;rw[List.length_append]at hlen
  cases R with
  |nil=>
   have c1:∀i:Int,(i=S.length\/(xs=[]/\i=1))->¬i<(xs.length:Int):=by
    rintro i (rfl|⟨rfl,rfl⟩)
    ·simp at hlen;omega
    ·simp
   obtain⟨i,hi,pY⟩:∃i:Int,(i=S.length\/(xs=[]/\i=1))/\I 6=.int .i64 i:=by
    rcases h6 with h6|⟨h,_,h6⟩
    ·exact⟨_,.inl rfl,h6⟩
    ·exact⟨_,.inr ⟨h,rfl⟩,h6⟩
   have c1:=c1 i hi;refine bR h2 pY c1 ?_;exact aD dA ao ⟨rfl,S,aW hp,hs,al⟩
  |cons x R=>
   have pY:I 6=.int .i64 S.length:=by
    rcases h6 with h6|⟨h6,_⟩
    ·exact h6
    ·subst h6;simp at hlen
   have c1:(S.length:Int)<xs.length:=by simp at hlen;omega
   refine bR h2 pY c1 ?_;refine di (λm I ds ae=>ds=[]/\I 0=.slice (some ⟨blk,0,none⟩) xs.length cap/\I 1=.int .i64 0/\I 2=.int .i64 xs.length/\I 6=.int .i64 S.length/\∃A B,m=A.length/\A.length+B.length=S.length/\(A++x::B++R).Perm xs/\Down kg A x B/\I 7=.int .i64 A.length/\ae=U.set blk (.cells ((A++x::B++R).map aY++pad).toArray 3 (0,0))) S.length ?_ ?_
   ·refine⟨rfl,?_,?_,?_,?_,S,[],rfl,al,aW hp,.start hs,?_,al⟩<;>exact iP h0 h1 h2 pY
   ·rintro m I ds ae X' ⟨rfl,h0,h1,h2,h6,A,B,rfl,nv,hp,hd,h7,rfl⟩ xK;have gx:((A++x::B++R).map aY++pad)[A.length]? =some (aY x):=al;rcases List.eq_nil_or_concat A with rfl|⟨A,y,rfl⟩
    ·have c2:¬((([]:List Int).length:Int)>0):=al;simp only[List.length_nil]at h7 c2;refine ag ?_;refine bG 15 ?_;refine bR h1 h6 h7 ?_;have cU:=hd.JN;refine hX R.length _ _ _ _ al ⟨rfl,?_,?_,?_,x::B,R,rfl,aW hp,cU,.inl ?_,al⟩ ao
     ·exact aQ h0
     ·exact aQ h1
     ·exact aQ h2
     ·refine ag ?_;rw[wrap64 aa aa];simp at nv;simp[nv]
    ·simp only[List.concat_eq_append]at*;have gx:((A++[y]++x::B++R).map aY++pad)[(A++[y]).length]? =some (aY x):=by simp[List.getElem?_append_right]
     have gy:((A++[y]++x::B++R).map aY++pad)[A.length]? =some (aY y):=by simp[List.getElem?_append_right]
     have c2:(((A++[y]).length:Nat):Int)>0:=al
     have c3:(0:Int)<=(((A++[y]).length:Nat):Int)/\(((A++[y]).length:Nat):Int)<xs.length:=by have:=hp.length_eq;simp at this|-;omega
     have c4:(0:Int)<=(((A++[y]).length:Nat):Int)-1/\(((A++[y]).length:Nat):Int)-1<(xs.length:Int):=by have:=hp.length_eq;simp at this|-;omega
     have c5:IntKind.i64.wrap ((((A++[y]).length:Nat):Int)-1)=(A.length:Int):=by rw[wrap64 al (by simp at c3|-;omega)];simp
     have c6:(0:Int)<=A.length/\(A.length:Int)<xs.length:=by simp at c4|-;omega
     generalize hL:(A++[y]++x::B++R).map aY++pad=L at gx gy;generalize hj:(A++[y]).length=j at*;have f1:(U.set blk (.cells L.toArray 3 (0,0))).f blk=some (.cells L.toArray 3 (0,0)):=aZ;refine ag ?_;refine bG 15 ?_;simp only[go_sem,seval,h0,h1,h7,c2,c3,c5,c6,f1,gx,gy];refine aT py ?_;refine gf ?_
     cases hl:decide (x<y)with
     |false=>
      refine aJ h6 ?_;have cU:=hd.JO BM (show kg x y=false from hl);refine hX R.length _ _ _ _ al ⟨rfl,?_,?_,?_,A++[y]++x::B,R,rfl,aW hp,cU,.inl ?_,by rw[hL]⟩ ao
      ·exact aQ h0
      ·exact aQ h1
      ·exact aQ h2
      ·refine ag ?_;have e1:(A++[y]++x::B).length=S.length+1:=by simp at hj nv|-;omega
       rw[e1,wrap64 aa aa];rfl
     |true=>
      refine ag ?_;refine bG 18 ?_;have sk:∀x,dp (aY x)=true:=λ_=>rfl;have fS:∀o,(U.set blk o).f blk=some o:=λ_=>Hp.bD _ _;have lj:j<L.length:=(List.getElem?_eq_some_iff.1 gx).1;have lA:A.length<L.length:=(List.getElem?_eq_some_iff.1 gy).1;have TC:A.length<(L.set j (aY y)).length:=by simpa using lA
      simp only[go_sem,seval,h0,h7,c3,c5,c6,fS,gx,gy,sk,lj];refine gf ?_;refine ag ?_;refine⟨lA,?_⟩;refine gf ?_;refine bu h7 c5 ?_
      have e1:(L.set j (aY y)).set A.length (aY x)=(A++x::(y::B)++R).map aY++pad:=by rw[<-hL,<-hj];simp[List.set_append]
      rw[e1];refine xK A.length _ _ _ _ (by rw[<-hj];simp) ⟨rfl,?_,?_,?_,?_,A,y::B,rfl,by rw[<-hj]at nv;simp at nv|-;omega,?_,hd.step BM hl,?_,rfl⟩ ao
      ·exact aQ h0
      ·exact aQ h1
      ·exact aQ h2
      ·exact aQ h6
      ·refine List.Perm.trans ?_ hp;simp only[List.append_assoc,List.cons_append,List.nil_append];exact List.Perm.append_left _ (List.Perm.swap ..)
      ·exact au
theorem Ab{β:Type}{f:α->β}{ks zs:List β}(h:ks.Perm zs):∀{xs:List α},zs=xs.map f->∃ys:List α,ys.Perm xs/\ks=ys.map f:=by
 induction h with
 |nil=>
  intro xs e
  cases xs with
  |nil=>exact⟨[],.refl _,rfl⟩
  |cons x xs=>cases e
 |cons a h ih=>
  intro xs e
  cases xs with
  |nil=>cases e
  |cons x xs=>
   simp only[List.map_cons,List.cons.injEq]at e;obtain⟨ys,h1,h2⟩:=ih e.2;exact⟨x::ys,h1.cons _,by rw[List.map_cons,h2,e.1]⟩
 |swap a b l=>
  intro xs e
  cases xs with
  |nil=>cases e
  |cons x xs=>
   cases xs with
   |nil=>simp at e
   |cons y xs=>
    simp only[List.map_cons,List.cons.injEq]at e;exact⟨y::x::xs,List.Perm.swap ..,by simp only[List.map_cons];rw[e.1,e.2.1,e.2.2]⟩
 |trans h1 h2 ih1 ih2=>
  intro xs e;obtain⟨ys,k1,k2⟩:=ih2 e;obtain⟨zs,k3,k4⟩:=ih1 k2;exact⟨zs,k3.trans k1,k4⟩
def sO(U J:Hp)(v:Value):Prop:=∀b,(∀a n c,v=.slice (some a) n c->b≠a.block)->J.f b=U.f b
def ai2:ay E 162 #[.slice none 0 0,.int .i64 0,.int .i64 0] U λe J=>e=.returned (.tuple #[])/\J=U:=by
 refine fR func162 ntmps162 results162 rfl al λQ aD an aA=>?_;refine ag ?_;refine di (λm I ds ae=>ds=[]/\I 2=.int .i64 0/\I 6=.int .i64 1/\ae=U) 0 ?_ ?_
 ·refine⟨rfl,?_,?_,rfl⟩<;>exact au
 ·rintro m I ds ae X ⟨rfl,h2,h6,rfl⟩ hX;have c:¬(1:Int)<0:=ai;refine bR h2 h6 c ?_;exact aD dA ao ⟨rfl,rfl⟩
def ai1(h:Sl 3 U (xs.map aY) v)(hn:xs.length<=1000000):
 ay E 162 #[v,.int .i64 0,.int .i64 xs.length] U λe J=>e=.returned (.tuple #[])/\∃ys,ys.Perm xs/\dV kg ys/\Sl 3 J (ys.map aY) v/\sO U J v:=by
 generalize hk:xs.map aY=ks at h
 cases h with
 |nil h0=>
  have:xs=[]:=by rw[h0]at hk;simpa using hk
  subst this;refine ai2.mono ?_;rintro e J ⟨rfl,rfl⟩;exact⟨rfl,[],.refl _,.nil,.nil rfl,λ_ _=>rfl⟩
 |«at»a pad ha=>
  have hl:ks.length=xs.length:=by rw[<-hk];simp
  rw[hl];refine(ai0 (cap:=xs.length+pad.length) (pad:=pad) (by rw[hk];exact ha) hn).mono ?_;rintro e J ⟨rfl,ys,h1,h2,rfl⟩;refine⟨rfl,ys,h1,h2,?_,?_⟩
  ·have:=Sl.at (ety:=3) (U:=U.set a (.cells (ys.map aY++pad).toArray 3 (0,0))) (xs:=ys.map aY) a pad aZ;have e:(ys.map aY).length=xs.length:=by simpa using h1.length_eq
   rw[e]at this;exact this
  ·intro b hb;exact Hp.aO _ (hb _ _ _ rfl)
def am4{k:Int}(h:Sl 3 U (xs.map aY) v)(hn:xs.length<=12):
 ay E 134 #[v,.int .i64 0,.int .i64 xs.length,.int .i64 k] U λe J=>e=.returned (.tuple #[])/\∃ys,ys.Perm xs/\dV kg ys/\Sl 3 J (ys.map aY) v/\sO U J v:=by
 refine aX func134 ntmps134 results134 λQ aD an aA=>?_;refine ag ?_;refine di (λm I ds ae=>ds=[]/\I 0=v/\I 1=.int .i64 0/\I 2=.int .i64 xs.length/\ae=U) 0 ?_ ?_
 ·refine⟨rfl,?_,?_,?_,rfl⟩<;>exact au
 ·rintro m I ds ae X ⟨rfl,h0,h1,h2,rfl⟩ hX;have c:(xs.length:Int)<=12:=aa;have c0:IntKind.i64.wrap ((xs.length:Int)-0)=xs.length:=by rw[Int.sub_zero];exact wrap64 aa aa
  refine lI h0 h1 h2 c0 c ?_;refine aK (ai1 h aa) ?_;rintro w J ⟨hw,fp⟩
  cases hw
  refine ag ?_;exact an dA ao ⟨rfl,fp⟩
theorem abA(hY:Yields f pick key tc)(hg:ck prog f=true)(dK:U.f bm=some (.cells #[.map (some m)] tc (0,0)))(hm:U.f m=some (aV key l c))(hold:∀e∈l,e.2.2<c)(hn:(l.map (·.2.2)).Nodup)(gI:l.length<=1000000)(kT:∀e∈l,dp (pick e)=true):
 ay E 80 #[.func (.func f) #[] #[pV bm]] U λe J=>U.le J/\∃v ks,e=.returned v/\ks.Perm (l.map pick)/\Sl 3 J ks v/\∀a n c,v=.slice (some a) n c->U.f a.block=none:=by
 refine aX func80 ntmps80 results80 λQ aD an aA=>?_;refine ag ?_;refine aK (Jr .aao hY hg dK hm hold hn gI kT) ?_;rintro v J ⟨hle,v',ks,hv,h1,h2,h3⟩
 cases hv
 refine ag ?_;exact an aI ao ⟨hle,v,ks,rfl,h1,h2,h3⟩
abbrev cP(a b:List UInt8):Bool:=Op.bytesLess a b
def TN{a b:UInt8}:a<b↔a.toNat<b.toNat:=UInt8.lt_iff_toNat_lt
def wW:yO cP:=by
 have cc:∀(x y:UInt8) (a b:List UInt8),cP (x::a) (y::b)=(decide (x<y)||(x==y&&cP a b)):=λ_ _ _ _=>rfl;have cn:∀a,cP a []=false:=λa=>by cases a<;>rfl
 have nc:∀y b,cP [] (y::b)=true:=λ_ _=>rfl;refine⟨?_,?_⟩
 ·intro a b c
  induction b generalizing a c with
  |nil=>
   intro h1 _
   cases a with
   |nil=>exact cn c
   |cons x a=>rw[nc]at h1;cases h1
  |cons y b ih=>
   intro h1 h2
   cases a with
   |nil=>exact cn c
   |cons x a=>
    cases c with
    |nil=>rw[nc]at h2;cases h2
    |cons z c=>
     rw[cc]at*;simp only[Bool.or_eq_false_iff,decide_eq_false_iff_not,Bool.and_eq_false_iff,beq_eq_false_iff_ne,ne_eq,TN]at*;obtain⟨p1,p2⟩:=h1;obtain⟨q1,q2⟩:=h2;refine⟨aa,?_⟩;by_cases e:z=x
     ·right;subst e;have e2:z=y:=UInt8.toNat_inj.1 aa;subst e2;exact ih (p2.resolve_left al) (q2.resolve_left al)
     ·exact .inl e
 ·intro a
  induction a with
  |nil=>intro b h;exact cn b
  |cons x a ih=>
   intro b h
   cases b with
   |nil=>rw[cn]at h;cases h
   |cons y b=>
    rw[cc]at*;simp only[Bool.or_eq_false_iff,Bool.or_eq_true,Bool.and_eq_true,decide_eq_true_eq,decide_eq_false_iff_not,Bool.and_eq_false_iff,beq_iff_eq,beq_eq_false_iff_ne,ne_eq,TN]at*;rcases h with h|⟨rfl,h⟩
    ·exact⟨aa,.inl (λe=>by subst e;omega)⟩
    ·exact⟨aa,.inr (ih h)⟩
variable {xs:List (List UInt8)}
def ai6(hb:U.f blk=some (.cells (xs.map bU++pad).toArray 9 (0,0)))(hn:xs.length<=1000000):
 ay E 256 #[.slice (some ⟨blk,0,none⟩) xs.length cap,.int .i64 0,.int .i64 xs.length] U λe J=>e=.returned (.tuple #[])/\∃ys,ys.Perm xs/\dV cP ys/\J=U.set blk (.cells (ys.map bU++pad).toArray 9 (0,0)):=by
 refine aX func256 ntmps256 results256 λQ aD an aA=>?_;refine ag ?_;refine di (λm I ds ae=>ds=[]/\I 0=.slice (some ⟨blk,0,none⟩) xs.length cap/\I 1=.int .i64 0/\I 2=.int .i64 xs.length/\∃S R,m=R.length/\(S++R).Perm xs/\dV cP S/\(I 6=.int .i64 S.length\/(xs=[]/\S=[]/\I 6=.int .i64 1))/\ae=U.set blk (.cells ((S++R).map bU++pad).toArray 9 (0,0))) (xs.length-1) ?_ ?_
 ·refine⟨rfl,?_,?_,?_,xs.take 1,xs.drop 1,al,by rw[List.take_append_drop],?_,?_,?_⟩
  ·exact au
  ·exact au
  ·exact au
  ·cases xs<;>simp[dV]
  ·cases xs with
   |nil=>exact .inr ⟨rfl,rfl,au⟩
   |cons x xs=>refine .inl ?_;simp only[go_sem,seval];rfl
  ·rw[List.take_append_drop,Hp.Nf hb]
 ·rintro m I ds ae X ⟨rfl,h0,h1,h2,S,R,rfl,hp,hs,h6,rfl⟩ hX;have hlen:=hp.length_eq;rw[List.length_append]at hlen
  cases R with
  |nil=>
   have c1:∀i:Int,(i=S.length\/(xs=[]/\i=1))->¬i<(xs.length:Int):=by
    rintro i (rfl|⟨rfl,rfl⟩)
    ·simp at hlen;omega
    ·simp
   obtain⟨i,hi,pY⟩:∃i:Int,(i=S.length\/(xs=[]/\i=1))/\I 6=.int .i64 i:=by
    rcases h6 with h6|⟨h,_,h6⟩
    ·exact⟨_,.inl rfl,h6⟩
    ·exact⟨_,.inr ⟨h,rfl⟩,h6⟩
   have c1:=c1 i hi;refine bR h2 pY c1 ?_;exact aD dA ao ⟨rfl,S,aW hp,hs,al⟩
  |cons x R=>
   have pY:I 6=.int .i64 S.length:=by
    rcases h6 with h6|⟨h6,_⟩
    ·exact h6
    ·subst h6;simp at hlen
   have c1:(S.length:Int)<xs.length:=by simp at hlen;omega
   refine bR h2 pY c1 ?_;refine di (λm I ds ae=>ds=[]/\I 0=.slice (some ⟨blk,0,none⟩) xs.length cap/\I 1=.int .i64 0/\I 2=.int .i64 xs.length/\I 6=.int .i64 S.length/\∃A B,m=A.length/\A.length+B.length=S.length/\(A++x::B++R).Perm xs/\Down cP A x B/\I 7=.int .i64 A.length/\ae=U.set blk (.cells ((A++x::B++R).map bU++pad).toArray 9 (0,0))) S.length ?_ ?_
   ·refine⟨rfl,?_,?_,?_,?_,S,[],rfl,al,aW hp,.start hs,?_,al⟩<;>exact iP h0 h1 h2 pY
   ·rintro m I ds ae X' ⟨rfl,h0,h1,h2,h6,A,B,rfl,nv,hp,hd,h7,rfl⟩ xK;have gx:((A++x::B++R).map bU++pad)[A.length]? =some (bU x):=al;rcases List.eq_nil_or_concat A with rfl|⟨A,y,rfl⟩
    ·have c2:¬((([]:List (List UInt8)).length:Int)>0):=al;simp only[List.length_nil]at h7 c2;refine ag ?_;refine bG 15 ?_;refine bR h1 h6 h7 ?_;have cU:=hd.JN;refine hX R.length _ _ _ _ al ⟨rfl,?_,?_,?_,x::B,R,rfl,aW hp,cU,.inl ?_,al⟩ ao
     ·exact aQ h0
     ·exact aQ h1
     ·exact aQ h2
     ·refine ag ?_;rw[wrap64 aa aa];simp at nv;simp[nv]
    ·simp only[List.concat_eq_append]at*;have gx:((A++[y]++x::B++R).map bU++pad)[(A++[y]).length]? =some (bU x):=by simp[List.getElem?_append_right]
     have gy:((A++[y]++x::B++R).map bU++pad)[A.length]? =some (bU y):=by simp[List.getElem?_append_right]
     have c2:(((A++[y]).length:Nat):Int)>0:=al
     have c3:(0:Int)<=(((A++[y]).length:Nat):Int)/\(((A++[y]).length:Nat):Int)<xs.length:=by have:=hp.length_eq;simp at this|-;omega
     have c4:(0:Int)<=(((A++[y]).length:Nat):Int)-1/\(((A++[y]).length:Nat):Int)-1<(xs.length:Int):=by have:=hp.length_eq;simp at this|-;omega
     have c5:IntKind.i64.wrap ((((A++[y]).length:Nat):Int)-1)=(A.length:Int):=by rw[wrap64 al (by simp at c3|-;omega)];simp
     have c6:(0:Int)<=A.length/\(A.length:Int)<xs.length:=by simp at c4|-;omega
     generalize hL:(A++[y]++x::B++R).map bU++pad=L at gx gy;generalize hj:(A++[y]).length=j at*;have f1:(U.set blk (.cells L.toArray 9 (0,0))).f blk=some (.cells L.toArray 9 (0,0)):=aZ;refine ag ?_;refine bG 15 ?_;simp only[go_sem,seval,h0,h1,h7,c2,c3,c5,c6,f1,gx,gy];refine aT aki ?_;refine gf ?_
     cases hl:Op.bytesLess x y with
     |false=>
      refine aJ h6 ?_;have cU:=hd.JO wW (show cP x y=false from hl);refine hX R.length _ _ _ _ al ⟨rfl,?_,?_,?_,A++[y]++x::B,R,rfl,aW hp,cU,.inl ?_,by rw[hL]⟩ ao
      ·exact aQ h0
      ·exact aQ h1
      ·exact aQ h2
      ·refine ag ?_;have e1:(A++[y]++x::B).length=S.length+1:=by simp at hj nv|-;omega
       rw[e1,wrap64 aa aa];rfl
     |true=>
      refine ag ?_;refine bG 18 ?_;have sk:∀x,dp (bU x)=true:=λ_=>rfl;have fS:∀o,(U.set blk o).f blk=some o:=λ_=>Hp.bD _ _;have lj:j<L.length:=(List.getElem?_eq_some_iff.1 gx).1;have lA:A.length<L.length:=(List.getElem?_eq_some_iff.1 gy).1;have TC:A.length<(L.set j (bU y)).length:=by simpa using lA
      simp only[go_sem,seval,h0,h7,c3,c5,c6,fS,gx,gy,sk,lj];refine gf ?_;refine ag ?_;refine⟨lA,?_⟩;refine gf ?_;refine bu h7 c5 ?_
      have e1:(L.set j (bU y)).set A.length (bU x)=(A++x::(y::B)++R).map bU++pad:=by rw[<-hL,<-hj];simp[List.set_append]
      rw[e1];refine xK A.length _ _ _ _ (by rw[<-hj];simp) ⟨rfl,?_,?_,?_,?_,A,y::B,rfl,by rw[<-hj]at nv;simp at nv|-;omega,?_,hd.step wW hl,?_,rfl⟩ ao
      ·exact aQ h0
      ·exact aQ h1
      ·exact aQ h2
      ·exact aQ h6
      ·refine List.Perm.trans ?_ hp;simp only[List.append_assoc,List.cons_append,List.nil_append];exact List.Perm.append_left _ (List.Perm.swap ..)
      ·exact au
def ai8:ay E 256 #[.slice none 0 0,.int .i64 0,.int .i64 0] U λe J=>e=.returned (.tuple #[])/\J=U:=by
 refine fR func256 ntmps256 results256 rfl al λQ aD an aA=>?_;refine ag ?_;refine di (λm I ds ae=>ds=[]/\I 2=.int .i64 0/\I 6=.int .i64 1/\ae=U) 0 ?_ ?_
 ·refine⟨rfl,?_,?_,rfl⟩<;>exact au
 ·rintro m I ds ae X ⟨rfl,h2,h6,rfl⟩ hX;have c:¬(1:Int)<0:=ai;refine bR h2 h6 c ?_;exact aD dA ao ⟨rfl,rfl⟩
def ai7(h:Sl 9 U (xs.map bU) v)(hn:xs.length<=1000000):
 ay E 256 #[v,.int .i64 0,.int .i64 xs.length] U λe J=>e=.returned (.tuple #[])/\∃ys,ys.Perm xs/\dV cP ys/\Sl 9 J (ys.map bU) v/\sO U J v:=by
 generalize hk:xs.map bU=ks at h
 cases h with
 |nil h0=>
  have:xs=[]:=by rw[h0]at hk;simpa using hk
  subst this;refine ai8.mono ?_;rintro e J ⟨rfl,rfl⟩;exact⟨rfl,[],.refl _,.nil,.nil rfl,λ_ _=>rfl⟩
 |«at»a pad ha=>
  have hl:ks.length=xs.length:=by rw[<-hk];simp
  rw[hl];refine(ai6 (cap:=xs.length+pad.length) (pad:=pad) (by rw[hk];exact ha) hn).mono ?_;rintro e J ⟨rfl,ys,h1,h2,rfl⟩;refine⟨rfl,ys,h1,h2,?_,?_⟩
  ·have:=Sl.at (ety:=9) (U:=U.set a (.cells (ys.map bU++pad).toArray 9 (0,0))) (xs:=ys.map bU) a pad aZ;have e:(ys.map bU).length=xs.length:=by simpa using h1.length_eq
   rw[e]at this;exact this
  ·intro b hb;exact Hp.aO _ (hb _ _ _ rfl)
def am8{k:Int}(h:Sl 9 U (xs.map bU) v)(hn:xs.length<=12):
 ay E 240 #[v,.int .i64 0,.int .i64 xs.length,.int .i64 k] U λe J=>e=.returned (.tuple #[])/\∃ys,ys.Perm xs/\dV cP ys/\Sl 9 J (ys.map bU) v/\sO U J v:=by
 refine aX func240 ntmps240 results240 λQ aD an aA=>?_;refine ag ?_;refine di (λm I ds ae=>ds=[]/\I 0=v/\I 1=.int .i64 0/\I 2=.int .i64 xs.length/\ae=U) 0 ?_ ?_
 ·refine⟨rfl,?_,?_,?_,rfl⟩<;>exact au
 ·rintro m I ds ae X ⟨rfl,h0,h1,h2,rfl⟩ hX;have c:(xs.length:Int)<=12:=aa;have c0:IntKind.i64.wrap ((xs.length:Int)-0)=xs.length:=by rw[Int.sub_zero];exact wrap64 aa aa
  refine lI h0 h1 h2 c0 c ?_;refine aK (ai7 h aa) ?_;rintro w J ⟨hw,fp⟩
  cases hw
  refine ag ?_;exact an dA ao ⟨rfl,fp⟩
def apV(h:Sl 9 U (xs.map bU) v)(hn:xs.length<=12):
 ay E 219 #[v] U λe J=>e=.returned (.tuple #[])/\∃ys,ys.Perm xs/\dV cP ys/\Sl 9 J (ys.map bU) v/\sO U J v:=by
 refine aX func219 ntmps219 results219 λQ aD an aA=>?_
 obtain⟨base,cap,rfl⟩:∃base cap,v=.slice base xs.length cap:=by
  generalize hk:xs.map bU=ks at h;have hl:ks.length=xs.length:=by rw[<-hk];simp
  cases h with
  |nil h0=>exact⟨none,0,by rw[<-hl,h0];rfl⟩
  |«at»a pad ha=>exact⟨_,_,by rw[hl]⟩
 have cu:IntKind.u64.wrap (xs.length:Int)=xs.length:=by have:((xs.length:Int) % 18446744073709551616)=xs.length:=aa;simpa[IntKind.wrap,IntKind.bits,IntKind.signed]using this
 refine aJ cu ?_;refine aK (TH aa) ?_;rintro w ae ⟨⟨k,hk,hw⟩,rfl⟩
 cases hw
 refine ag ?_;refine aK (am8 h hn) ?_;rintro w J ⟨hw,fp⟩
 cases hw
 refine ag ?_;exact aD dA ao ⟨rfl,fp⟩
theorem abz(hY:Yields f pick key tc)(hg:ck prog f=true)(dK:U.f bm=some (.cells #[.map (some m)] tc (0,0)))(hm:U.f m=some (aV key l c))(hold:∀e∈l,e.2.2<c)(hn:(l.map (·.2.2)).Nodup)(gI:l.length<=1000000)(kT:∀e∈l,dp (pick e)=true):
 ay E 218 #[.func (.func f) #[] #[pV bm]] U λe J=>U.le J/\∃v ks,e=.returned v/\ks.Perm (l.map pick)/\Sl 9 J ks v/\∀a n c,v=.slice (some a) n c->U.f a.block=none:=by
 refine aX func218 ntmps218 results218 λQ aD an aA=>?_;refine ag ?_;refine aK (Jr .aaw hY hg dK hm hold hn gI kT) ?_;rintro v J ⟨hle,v',ks,hv,h1,h2,h3⟩
 cases hv
 refine ag ?_;exact an aI ao ⟨hle,v,ks,rfl,h1,h2,h3⟩
variable {l:List (List UInt8×Value×Nat)}
def apZ(hY:Yields f (λe:List UInt8×Value×Nat=>bU e.1) bU tc)(hg:ck prog f=true)(dK:U.f bm=some (.cells #[.map (some m)] tc (0,0)))(hm:U.f m=some (aV bU l c))(hold:∀e∈l,e.2.2<c)(hn:(l.map (·.2.2)).Nodup)(gI:l.length<=12):
 ay E 182 #[.func (.func f) #[] #[pV bm]] U λe J=>U.le J/\∃v ys,e=.returned v/\ys.Perm (l.map (·.1))/\dV cP ys/\Sl 9 J (ys.map bU) v/\∀a n c,v=.slice (some a) n c->U.f a.block=none:=by
 refine aX func182 ntmps182 results182 λQ aD an aA=>?_;refine ag ?_;refine aK (abz hY hg dK hm hold hn aa (λ_ _=>rfl)) ?_;rintro v J ⟨hle,v',ks,hv,h1,h2,h3⟩
 cases hv
 obtain⟨xs,k1,rfl⟩:=Ab h1 (xs:=l.map (·.1)) (f:=bU) al;refine ag ?_;have hlen:xs.length<=12:=by rw[k1.length_eq];simpa using gI
 refine aK (apV h2 hlen) ?_;rintro w cf ⟨hw,ys,p1,p2,p3,p4⟩
 cases hw
 refine ag ?_;refine an aI ao ⟨?_,v,ys,rfl,p1.trans k1,p2,p3,h3⟩;intro b o hb;rw[p4 b (λa n c e e2=>by have:=h3 a n c e;rw[<-e2,hb]at this;cases this)];exact hle b o hb
def ajx:ay E 183 #[.map (some m)] U λe J=>∃bm,e=.returned (.func (.func 220) #[] #[pV bm])/\U.f bm=none/\J=U.set bm (.cells #[.map (some m)] 274 (0,0)):=by refine aX func183 ntmps183 results183 λQ aD an aA=>?_;refine ag ?_;refineλbm dK=>?_;refine ag ?_;exact an aI ao ⟨bm,rfl,dK,rfl⟩
def apY(hm:U.f m=some (aV bU l c))(hold:∀e∈l,e.2.2<c)(hn:(l.map (·.2.2)).Nodup)(gI:l.length<=12):
 ay E 139 #[.map (some m)] U λe J=>U.le J/\∃v ys,e=.returned v/\ys.Perm (l.map (·.1))/\dV cP ys/\Sl 9 J (ys.map bU) v/\∀a n c,v=.slice (some a) n c->U.f a.block=none:=by
 refine aX func139 ntmps139 results139 λQ aD an aA=>?_;refine ag ?_;refine aK ajx ?_;rintro w J ⟨bm,hw,dK,rfl⟩
 cases hw
 have aE:m≠bm:=bj hm dK;have rX:(U.set bm (.cells #[.map (some m)] 274 (0,0))).f m=some (aV bU l c):=by rw[Hp.aO _ aE];exact hm
 refine ag ?_;refine aK (apZ asg ad8 aZ rX hold hn gI) ?_;rintro v J ⟨hle,v',ys,hv,h1,h2,h3,h4⟩
 cases hv
 refine ag ?_;refine an aI ao ⟨?_,v,ys,rfl,h1,h2,h3,?_⟩
 ·intro b o hb;have:b≠bm:=bj hb dK;exact hle b o (by rw[Hp.aO _ this];exact hb)
 ·intro a n c e;have:=h4 a n c e;by_cases e2:a.block=bm
  ·rw[e2];exact dK
  ·rw[Hp.aO _ e2]at this;exact this
def ep(q:Nat):Value:=pV q
def vf(nm:Nat->List UInt8)(a b:Nat):Bool:=cP (nm a) (nm b)
def TL(nm:Nat->List UInt8):yO (vf nm):=⟨λh k=>wW.trans h k,λh=>wW.asym h⟩
def JI(i j:List UInt8):Int:=if Op.bytesLess i j then-1 else if i=j then 0 else 1
def abu(i j:List UInt8):decide (JI i j<0)=cP i j:=by
 unfold JI cP
 cases h:Op.bytesLess i j
 ·by_cases e:i=j<;>simp[e]
 ·simp
def abt{x y:Nat}{lx ly:List Value}(hx:U.f x=some (.cells lx.toArray 81 (0,0)))(S4:lx[0]? =some (.string (B i)))(hy:U.f y=some (.cells ly.toArray 81 (0,0)))(S9:ly[0]? =some (.string (B j))):
 ay E 51 #[ep x,ep y] U λe' ae=>e'=.returned (.int .i64 (JI i j))/\ae=U:=by
 refine aX func51 ntmps51 results51 λQ aD an aA=>?_;simp only[go_sem,seval,ep];refine bG 10 ?_;simp only[go_sem,seval,ep,hx,S4,hy,S9];refine aT abD ?_;refine gf ?_;refine ag ?_;exact an aI ao ⟨rfl,rfl⟩
variable {nm:Nat->List UInt8}{xs:List Nat}
def ai3(hq:∀q∈xs,q≠blk/\∃l:List Value,U.f q=some (.cells l.toArray 81 (0,0))/\l[0]? =some (.string (B (nm q))))(hb:U.f blk=some (.cells (xs.map ep++pad).toArray 77 (0,0)))(hn:xs.length<=1000000):
 ay E 173 #[.slice (some ⟨blk,0,none⟩) xs.length cap,.int .i64 0,.int .i64 xs.length,.func (.func 51) #[] #[]] U λe J=>e=.returned (.tuple #[])/\∃ys,ys.Perm xs/\dV (vf nm) ys/\J=U.set blk (.cells (ys.map ep++pad).toArray 77 (0,0)):=by
 refine aX func173 ntmps173 results173 λQ aD an aA=>?_;refine ag ?_;refine di (λm I ds ae=>ds=[]/\I 0=.slice (some ⟨blk,0,none⟩) xs.length cap/\I 1=.int .i64 0/\I 2=.int .i64 xs.length/\I 3=.func (.func 51) #[] #[]/\∃S R,m=R.length/\(S++R).Perm xs/\dV (vf nm) S/\(I 8=.int .i64 S.length\/(xs=[]/\S=[]/\I 8=.int .i64 1))/\ae=U.set blk (.cells ((S++R).map ep++pad).toArray 77 (0,0))) (xs.length-1) ?_ ?_
 ·refine⟨rfl,?_,?_,?_,?_,xs.take 1,xs.drop 1,al,by rw[List.take_append_drop],?_,?_,?_⟩
  ·exact au
  ·exact au
  ·exact au
  ·exact au
  ·cases xs<;>simp[dV]
  ·cases xs with
   |nil=>exact .inr ⟨rfl,rfl,au⟩
   |cons x xs=>refine .inl ?_;simp only[go_sem,seval];rfl
  ·rw[List.take_append_drop,Hp.Nf hb]
 ·rintro m I ds ae X ⟨rfl,h0,h1,h2,h3,S,R,rfl,hp,hs,h6,rfl⟩ hX;have hlen:=hp.length_eq;rw[List.length_append]at hlen
  cases R with
  |nil=>
   have c1:∀i:Int,(i=S.length\/(xs=[]/\i=1))->¬i<(xs.length:Int):=by
    rintro i (rfl|⟨rfl,rfl⟩)
    ·simp at hlen;omega
    ·simp
   obtain⟨i,hi,pY⟩:∃i:Int,(i=S.length\/(xs=[]/\i=1))/\I 8=.int .i64 i:=by
    rcases h6 with h6|⟨h,_,h6⟩
    ·exact⟨_,.inl rfl,h6⟩
    ·exact⟨_,.inr ⟨h,rfl⟩,h6⟩
   have c1:=c1 i hi;refine bR h2 pY c1 ?_;exact aD dA ao ⟨rfl,S,aW hp,hs,al⟩
  |cons x R=>
   have pY:I 8=.int .i64 S.length:=by
    rcases h6 with h6|⟨h6,_⟩
    ·exact h6
    ·subst h6;simp at hlen
   have c1:(S.length:Int)<xs.length:=by simp at hlen;omega
   refine bR h2 pY c1 ?_;refine di (λm I ds ae=>ds=[]/\I 0=.slice (some ⟨blk,0,none⟩) xs.length cap/\I 1=.int .i64 0/\I 2=.int .i64 xs.length/\I 3=.func (.func 51) #[] #[]/\I 8=.int .i64 S.length/\∃A B,m=A.length/\A.length+B.length=S.length/\(A++x::B++R).Perm xs/\Down (vf nm) A x B/\I 9=.int .i64 A.length/\ae=U.set blk (.cells ((A++x::B++R).map ep++pad).toArray 77 (0,0))) S.length ?_ ?_
   ·refine⟨rfl,?_,?_,?_,?_,?_,S,[],rfl,al,aW hp,.start hs,?_,al⟩<;>exact pI h0 h1 h2 h3 pY
   ·rintro m I ds ae X' ⟨rfl,h0,h1,h2,h3,h6,A,B,rfl,nv,hp,hd,h7,rfl⟩ xK;have gx:((A++x::B++R).map ep++pad)[A.length]? =some (ep x):=al;rcases List.eq_nil_or_concat A with rfl|⟨A,y,rfl⟩
    ·have c2:¬((([]:List Nat).length:Int)>0):=al;simp only[List.length_nil]at h7 c2;refine ag ?_;refine bG 17 ?_;refine bR h1 h6 h7 ?_;have cU:=hd.JN;refine hX R.length _ _ _ _ al ⟨rfl,?_,?_,?_,?_,x::B,R,rfl,aW hp,cU,.inl ?_,al⟩ ao
     ·exact aQ h0
     ·exact aQ h1
     ·exact aQ h2
     ·exact aQ h3
     ·refine ag ?_;rw[wrap64 aa aa];simp at nv;simp[nv]
    ·simp only[List.concat_eq_append]at*;have gx:((A++[y]++x::B++R).map ep++pad)[(A++[y]).length]? =some (ep x):=by simp[List.getElem?_append_right]
     have gy:((A++[y]++x::B++R).map ep++pad)[A.length]? =some (ep y):=by simp[List.getElem?_append_right]
     have c2:(((A++[y]).length:Nat):Int)>0:=al
     have c3:(0:Int)<=(((A++[y]).length:Nat):Int)/\(((A++[y]).length:Nat):Int)<xs.length:=by have:=hp.length_eq;simp at this|-;omega
     have c4:(0:Int)<=(((A++[y]).length:Nat):Int)-1/\(((A++[y]).length:Nat):Int)-1<(xs.length:Int):=by have:=hp.length_eq;simp at this|-;omega
     have c5:IntKind.i64.wrap ((((A++[y]).length:Nat):Int)-1)=(A.length:Int):=by rw[wrap64 al (by simp at c3|-;omega)];simp
     have c6:(0:Int)<=A.length/\(A.length:Int)<xs.length:=by simp at c4|-;omega
     generalize hL:(A++[y]++x::B++R).map ep++pad=L at gx gy;generalize hj:(A++[y]).length=j at*;have f1:(U.set blk (.cells L.toArray 77 (0,0))).f blk=some (.cells L.toArray 77 (0,0)):=aZ;refine ag ?_;refine bG 17 ?_;simp only[go_sem,seval,h0,h1,h3,h7,c2,c3,c5,c6,f1,gx,gy];have zP:=hq x (hp.mem_iff.1 al);have hyq:=hq y (hp.mem_iff.1 al);obtain⟨nx,lx,ex,ex0⟩:=zP;obtain⟨ny,ly,ey,ey0⟩:=hyq;rw[EZ (f:=51) (l:=#[]) (cap:=#[]) au];simp only[go_sem,seval,Array.empty_append,Array.append_empty];refine aT (abt (by rw[Hp.aO _ nx];exact ex) ex0 (by rw[Hp.aO _ ny];exact ey) ey0) ?_;refine gf ?_;have aH:=abu (nm x) (nm y)
     cases hl:vf nm x y with
     |false=>
      simp only[go_sem,seval,h6,aH,show cP (nm x) (nm y)=_ from hl];have cU:=hd.JO (TL nm) hl;refine hX R.length _ _ _ _ al ⟨rfl,?_,?_,?_,?_,A++[y]++x::B,R,rfl,aW hp,cU,.inl ?_,by rw[hL]⟩ ao
      ·exact aQ h0
      ·exact aQ h1
      ·exact aQ h2
      ·exact aQ h3
      ·refine ag ?_;have e1:(A++[y]++x::B).length=S.length+1:=by simp at hj nv|-;omega
       rw[e1,wrap64 aa aa];rfl
     |true=>
      simp only[go_sem,seval,aH,show cP (nm x) (nm y)=_ from hl];refine bG 18 ?_;have sk:∀x,dp (ep x)=true:=λ_=>rfl;have fS:∀o,(U.set blk o).f blk=some o:=λ_=>Hp.bD _ _;have lj:j<L.length:=(List.getElem?_eq_some_iff.1 gx).1;have lA:A.length<L.length:=(List.getElem?_eq_some_iff.1 gy).1;have TC:A.length<(L.set j (ep y)).length:=by simpa using lA
      simp only[go_sem,seval,h0,h7,c3,c5,c6,fS,gx,gy,sk,lj];refine gf ?_;refine ag ?_;refine⟨lA,?_⟩;refine gf ?_;refine bu h7 c5 ?_
      have e1:(L.set j (ep y)).set A.length (ep x)=(A++x::(y::B)++R).map ep++pad:=by rw[<-hL,<-hj];simp[List.set_append]
      rw[e1];refine xK A.length _ _ _ _ (by rw[<-hj];simp) ⟨rfl,?_,?_,?_,?_,?_,A,y::B,rfl,by rw[<-hj]at nv;simp at nv|-;omega,?_,hd.step (TL nm) hl,?_,rfl⟩ ao
      ·exact aQ h0
      ·exact aQ h1
      ·exact aQ h2
      ·exact aQ h3
      ·exact aQ h6
      ·refine List.Perm.trans ?_ hp;simp only[List.append_assoc,List.cons_append,List.nil_append];exact List.Perm.append_left _ (List.Perm.swap ..)
      ·exact au
def qB(U:Hp)(nm:Nat->List UInt8)(xs:List Nat):Prop:=∀q∈xs,∃l:List Value,U.f q=some (.cells l.toArray 81 (0,0))/\l[0]? =some (.string (B (nm q)))
def qB.perm{ys:List Nat}(h:qB U nm xs)(p:ys.Perm xs):qB U nm ys:=λq hq=>h q (p.mem_iff.1 hq)
def qB.le(h:qB U nm xs)(k:U.le J):qB J nm xs:=λq hq=>by obtain⟨l,h1,h2⟩:=h q hq;exact⟨l,k _ _ h1,h2⟩
def ai5:ay E 173 #[.slice none 0 0,.int .i64 0,.int .i64 0,.func (.func 51) #[] #[]] U λe J=>e=.returned (.tuple #[])/\J=U:=by
 refine fR func173 ntmps173 results173 rfl al λQ aD an aA=>?_;refine ag ?_;refine di (λm I ds ae=>ds=[]/\I 2=.int .i64 0/\I 8=.int .i64 1/\ae=U) 0 ?_ ?_
 ·refine⟨rfl,?_,?_,rfl⟩<;>exact au
 ·rintro m I ds ae X ⟨rfl,h2,h6,rfl⟩ hX;have c:¬(1:Int)<0:=ai;refine bR h2 h6 c ?_;exact aD dA ao ⟨rfl,rfl⟩
def ai4(hq:qB U nm xs)(h:Sl 77 U (xs.map ep) v)(hn:xs.length<=1000000):
 ay E 173 #[v,.int .i64 0,.int .i64 xs.length,.func (.func 51) #[] #[]] U λe J=>e=.returned (.tuple #[])/\∃ys,ys.Perm xs/\dV (vf nm) ys/\Sl 77 J (ys.map ep) v/\sO U J v:=by
 generalize hk:xs.map ep=ks at h
 cases h with
 |nil h0=>
  have:xs=[]:=by rw[h0]at hk;simpa using hk
  subst this;refine ai5.mono ?_;rintro e J ⟨rfl,rfl⟩;exact⟨rfl,[],.refl _,.nil,.nil rfl,λ_ _=>rfl⟩
 |«at»a pad ha=>
  have hl:ks.length=xs.length:=by rw[<-hk];simp
  rw[hl]
  have bz:∀q∈xs,q≠a/\∃l:List Value,U.f q=some (.cells l.toArray 81 (0,0))/\l[0]? =some (.string (B (nm q))):=by intro q hqm;obtain⟨l,h1,h2⟩:=hq q hqm;refine⟨λe=>?_,l,h1,h2⟩;subst e;rw[ha]at h1;simp at h1
  refine(ai3 (cap:=xs.length+pad.length) (pad:=pad) bz (by rw[hk];exact ha) hn).mono ?_;rintro e J ⟨rfl,ys,h1,h2,rfl⟩;refine⟨rfl,ys,h1,h2,?_,?_⟩
  ·have:=Sl.at (ety:=77) (U:=U.set a (.cells (ys.map ep++pad).toArray 77 (0,0))) (xs:=ys.map ep) a pad aZ;have e:(ys.map ep).length=xs.length:=by simpa using h1.length_eq
   rw[e]at this;exact this
  ·intro b hb;exact Hp.aO _ (hb _ _ _ rfl)
def am7{k:Int}(hq:qB U nm xs)(h:Sl 77 U (xs.map ep) v)(hn:xs.length<=12):
 ay E 137 #[v,.int .i64 0,.int .i64 xs.length,.int .i64 k,.func (.func 51) #[] #[]] U λe J=>e=.returned (.tuple #[])/\∃ys,ys.Perm xs/\dV (vf nm) ys/\Sl 77 J (ys.map ep) v/\sO U J v:=by
 refine aX func137 ntmps137 results137 λQ aD an aA=>?_;refine ag ?_;refine di (λm I ds ae=>ds=[]/\I 0=v/\I 1=.int .i64 0/\I 2=.int .i64 xs.length/\I 4=.func (.func 51) #[] #[]/\ae=U) 0 ?_ ?_
 ·refine⟨rfl,?_,?_,?_,?_,rfl⟩<;>exact au
 ·rintro m I ds ae X ⟨rfl,h0,h1,h2,h4,rfl⟩ hX;have c:(xs.length:Int)<=12:=aa;have c0:IntKind.i64.wrap ((xs.length:Int)-0)=xs.length:=by rw[Int.sub_zero];exact wrap64 aa aa
  refine jQ h0 h1 h2 h4 c0 c ?_;refine aK (ai4 hq h aa) ?_;rintro w J ⟨hw,fp⟩
  cases hw
  refine ag ?_;exact an dA ao ⟨rfl,fp⟩
def apX(hq:qB U nm xs)(h:Sl 77 U (xs.map ep) v)(hn:xs.length<=12):
 ay E 84 #[v,.func (.func 51) #[] #[]] U λe J=>e=.returned (.tuple #[])/\∃ys,ys.Perm xs/\dV (vf nm) ys/\Sl 77 J (ys.map ep) v/\sO U J v:=by
 refine aX func84 ntmps84 results84 λQ aD an aA=>?_
 obtain⟨base,cap,rfl⟩:∃base cap,v=.slice base xs.length cap:=by
  generalize hk:xs.map ep=ks at h;have hl:ks.length=xs.length:=by rw[<-hk];simp
  cases h with
  |nil h0=>exact⟨none,0,by rw[<-hl,h0];rfl⟩
  |«at»a pad ha=>exact⟨_,_,by rw[hl]⟩
 have cu:IntKind.u64.wrap (xs.length:Int)=xs.length:=by have:((xs.length:Int) % 18446744073709551616)=xs.length:=aa;simpa[IntKind.wrap,IntKind.bits,IntKind.signed]using this
 refine aJ cu ?_;refine aK (TH aa) ?_;rintro w ae ⟨⟨k,hk,hw⟩,rfl⟩
 cases hw
 refine ag ?_;refine aK (am7 hq h hn) ?_;rintro w J ⟨hw,fp⟩
 cases hw
 refine ag ?_;exact aD dA ao ⟨rfl,fp⟩
theorem abB(hY:Yields f pick key tc)(hg:ck prog f=true){l:List (α×Value×Nat)}(dK:U.f bm=some (.cells #[.map (some m)] tc (0,0)))(hm:U.f m=some (aV key l c))(hold:∀e∈l,e.2.2<c)(hn:(l.map (·.2.2)).Nodup)(gI:l.length<=1000000)(kT:∀e∈l,dp (pick e)=true):
 ay E 83 #[.func (.func f) #[] #[pV bm]] U λe J=>U.le J/\∃v ks,e=.returned v/\ks.Perm (l.map pick)/\Sl 77 J ks v/\∀a n c,v=.slice (some a) n c->U.f a.block=none:=by
 refine aX func83 ntmps83 results83 λQ aD an aA=>?_;refine ag ?_;refine aK (Jr .aap hY hg dK hm hold hn gI kT) ?_;rintro v J ⟨hle,v',ks,hv,h1,h2,h3⟩
 cases hv
 refine ag ?_;exact an aI ao ⟨hle,v,ks,rfl,h1,h2,h3⟩
def ary:ay E 50 #[.map (some m)] U λe J=>∃bm,e=.returned (.func (.func 85) #[] #[pV bm])/\U.f bm=none/\J=U.set bm (.cells #[.map (some m)] 114 (0,0)):=by refine aX func50 ntmps50 results50 λQ aD an aA=>?_;refine ag ?_;refineλbm dK=>?_;refine ag ?_;exact an aI ao ⟨bm,rfl,dK,rfl⟩
variable {qs:List Nat}
def ap3(dK:U.f bm=some (.cells #[.map (some m)] 114 (0,0)))(hm:U.f m=some (aV bU l c))(hold:∀e∈l,e.2.2<c)(hn:(l.map (·.2.2)).Nodup)(gI:l.length<=12)(nN:l.map (·.2.1)=qs.map ep)(jI:qB U nm qs):
 ay E 49 #[.func (.func 85) #[] #[pV bm],.func (.func 51) #[] #[]] U λe J=>U.le J/\∃v ys,e=.returned v/\ys.Perm qs/\dV (vf nm) ys/\Sl 77 J (ys.map ep) v/\∀a n c,v=.slice (some a) n c->U.f a.block=none:=by
 refine aX func49 ntmps49 results49 λQ aD an aA=>?_
 have kT:∀e∈l,dp e.2.1=true:=by
  intro e he;have:e.2.1∈qs.map ep:=by rw[<-nN];exact List.mem_map_of_mem he
  obtain⟨q,_,hq⟩:=List.mem_map.1 this;rw[<-hq];rfl
 refine ag ?_;refine aK (abB asj aex dK hm hold hn aa kT) ?_;rintro v J ⟨hle,v',ks,hv,h1,h2,h3⟩
 cases hv
 obtain⟨xs,k1,rfl⟩:=Ab h1 (xs:=qs) (f:=ep) nN;refine ag ?_
 have hlen:xs.length<=12:=by have:=congrArg List.length nN;simp at this;rw[k1.length_eq];omega
 refine aK (apX ((jI.perm k1).le hle) h2 hlen) ?_;rintro w cf ⟨hw,ys,p1,p2,p3,p4⟩
 cases hw
 refine ag ?_;refine an aI ao ⟨?_,v,ys,rfl,p1.trans k1,p2,p3,h3⟩;intro b o hb;rw[p4 b (λa n c e e2=>by have:=h3 a n c e;rw[<-e2,hb]at this;cases this)];exact hle b o hb
def VK{lb:List Value}(hb:U.f bb=some (.cells lb.toArray 116 (0,0)))(mC:lb[0]? =some (.map (some m)))(hm:U.f m=some (aV bU l c))(hold:∀e∈l,e.2.2<c)(hn:(l.map (·.2.2)).Nodup)(gI:l.length<=12)(nN:l.map (·.2.1)=qs.map ep)(jI:qB U nm qs):
 ay E 34 #[pV bb] U λe J=>U.le J/\∃v ys,e=.returned v/\ys.Perm qs/\dV (vf nm) ys/\Sl 77 J (ys.map ep) v/\∀a n c,v=.slice (some a) n c->U.f a.block=none:=by
 refine aX func34 ntmps34 results34 λQ aD an aA=>?_;refine bu hb mC ?_;refine aK ary ?_;rintro w J ⟨bm,hw,dK,rfl⟩
 cases hw
 have aE:∀{b o},U.f b=some o->b≠bm:=λh e=>by subst e;rw[dK]at h;cases h
 have kC:U.le (U.set bm (.cells #[.map (some m)] 114 (0,0))):=λb o h=>by rw[Hp.aO _ (aE h)];exact h
 have rX:=kC _ _ hm;refine ag ?_;refine aK (ap3 aZ rX hold hn gI nN (jI.le kC)) ?_;rintro v J ⟨hle,v',ys,hv,h1,h2,h3,h4⟩
 cases hv
 refine ag ?_;refine an aI ao ⟨Hp.le_trans kC hle,v,ys,rfl,h1,h2,h3,?_⟩;intro a n c e;have:=h4 a n c e;by_cases e2:a.block=bm
 ·rw[e2];exact dK
 ·rw[Hp.aO _ e2]at this;exact this
variable {m i v:Operand}
def aiF:cW (.mapUpdate t m i v)=false:=bp
def aiz:cW (.insert t m i v)=false:=bp
def aiD{ok:Bool}:cW (.lookup t m i ok)=false:=bp
def aiA{r:Operand}{m:String}{a:Array Operand}{b:Array TypeId}:cW (.call ⟨.invoke r m,a,b⟩)=false:=bp
variable {x:Array Operand}{a:Array TypeId}
def ait:cW (.call ⟨.builtin .delete,x,a⟩)=false:=bp
def air:cW (.call ⟨.builtin .clear,x,a⟩)=false:=bp
attribute [go_sem] aiF aiz aiD aiA ait air
structure Has (L:List (Nat×Obj)) (U:Hp):Prop where
 nd:(L.map (·.1)).Nodup
 all:∀p∈L,U.f p.1=some p.2
def Hp.az{x:Nat}(h:¬x=b):(U.set b o).f x=U.f x:=Hp.aO _ h
variable {L:List (Nat×Obj)}
def Has.le(h:Has L U)(k:U.le J):Has L J:=⟨h.nd,λp hp=>k _ _ (h.all p hp)⟩
def Has.at(h:Has L U)(n:Nat)(hn:L[n]? =some (b,o)):U.f b=some o:=h.all _ (List.mem_of_getElem? hn)
def Has.get(h:Has L U)(hm:(b,o)∈L):U.f b=some o:=h.all _ hm
variable {o':Obj}
def Has.ne(h:Has L U){i j:Nat}{b':Nat}(hi:L[i]? =some (b,o))(hj:L[j]? =some (b',o'))(qV:i≠j):¬b=b':=by
 intro e;subst e;obtain⟨mH,DR⟩:=List.getElem?_eq_some_iff.1 hi;obtain⟨nJ,qW⟩:=List.getElem?_eq_some_iff.1 hj;have:=h.nd;rw[List.nodup_iff_pairwise_ne]at this
 have key:∀i j (mH:i<L.length) (nJ:j<L.length),i<j->(L[i]).1≠(L[j]).1:=by intro i j mH nJ qV;have h1:=List.pairwise_iff_getElem.1 this i j (aW mH) (aW nJ) qV;simpa using h1
 rcases Nat.lt_or_gt_of_ne qV with h1|h1
 ·exact key i j mH nJ h1 (by rw[DR,qW])
 ·exact key j i nJ mH h1 (by rw[DR,qW])
def Has.perm{L':List (Nat×Obj)}(h:Has L U)(p:L'.Perm L):Has L' U:=
 ⟨(p.map _).nodup_iff.2 h.nd,λx hx=>h.all x (p.mem_iff.1 hx)⟩
def Has.sub{L':List (Nat×Obj)}(h:Has L U)(p:L'.Sublist L):Has L' U:=
 ⟨h.nd.sublist (p.map _),λx hx=>h.all x (p.subset hx)⟩
def Has.set (h:Has L U)(n:Nat)(hn:L[n]? =some (b,o))(o':Obj):Has (L.set n (b,o')) (U.set b o'):=by
 obtain⟨h1,h2⟩:=List.getElem?_eq_some_iff.1 hn
 have e:(L.set n (b,o')).map (·.1)=L.map (·.1):=by
  rw[List.map_set];apply List.ext_getElem?;intro i;rw[List.getElem?_set];by_cases hi:n=i
  ·subst hi;simp[h1,h2]
  ·simp[hi]
 refine⟨by rw[e];exact h.nd,λp hp=>?_⟩;obtain⟨i,hi,rfl⟩:=List.mem_iff_getElem.1 hp;rw[List.getElem_set];by_cases Lq:n=i
 ·subst Lq;simp[Hp.bD]
 ·simp only[Lq,if_false];have GS:i<L.length:=aW hi;have this:¬(L[i]).1=b:=h.ne (i:=i) (j:=n) (List.getElem?_eq_getElem GS) hn (λe=>Lq e.symm);rw[Hp.aO _ this];exact h.all _ (List.getElem_mem GS)
def Has.new(h:Has L U)(hb:U.f b=none)(o:Obj):Has ((b,o)::L) (U.set b o):=by
 have aE:∀p∈L,p.1≠b:=λp hp e=>by have:=h.all p hp;rw[e,hb]at this;cases this
 refine⟨?_,λp hp=>?_⟩
 ·rw[List.map_cons,List.nodup_cons];refine⟨λhm=>?_,h.nd⟩;obtain⟨p,hp,e⟩:=List.mem_map.1 hm;exact aE p hp e
 ·rcases List.mem_cons.1 hp with rfl|hp
  ·exact Hp.bD _ _
  ·rw[Hp.aO _ (aE p hp)];exact h.all p hp
variable {v:Value}
def Has.only(h:Has L U)(k:sO U J v)(hv:∀a n c,v=.slice (some a) n c->∀p∈L,p.1≠a.block):Has L J:=
 ⟨h.nd,λp hp=>by rw[k p.1 (λa n c e=>hv a n c e p hp)];exact h.all p hp⟩
abbrev iV(i:Int):Value:=.int .i64 i
abbrev sV(l:List UInt8):Value:=.string (B l)
structure kt where
 jq:Int
 frame:Int
 gD:Int
 queue:Int
 body:Int
def kt.vals(c:kt):List Value:=[iV c.jq,iV c.frame,iV c.gD,iV c.queue,iV c.body]
def eP(cfg:kt)(br mc:Nat)(clock last:Int):Obj:=.cells [iV cfg.jq,iV cfg.frame,iV cfg.gD,iV cfg.queue,iV cfg.body,pV br,iV clock,iV last,.map (some mc)].toArray 74 (0,0)
def iw(mq:Nat)(cZ messages bh:Int):Obj:=.cells [.map (some mq),iV cZ,iV messages,iV bh].toArray 116 (0,0)
structure CR where
 ph:Int
 rest:List UInt8
 iy:Bool
 cZ:Int
 frame:Int
 gD:Int
 iq:Int
 recv:Int
 out:List UInt8
def CR.vals(g:Nat)(id:Int)(chm:Nat)(c:CR):List Value:=[pV g,iV id,iV c.ph,sV c.rest,.bool c.iy,.map (some chm),iV c.cZ,iV c.frame,iV c.gD,iV c.iq,iV c.recv,sV c.out]
def fI(g:Nat)(id:Int)(chm:Nat)(c:CR):Obj:=.cells (c.vals g id chm).toArray 90 (0,0)
structure HR where
 closing:Bool
 mj:Int
 tag:Int
 want:Int
 key:List UInt8
 body:List UInt8
 size:Int
def HR.vals(c:Nat)(no:Int)(un co:Nat)(h:HR):List Value:=[pV c,iV no,.bool h.closing,iV h.mj,iV h.tag,.map (some un),.map (some co),iV h.want,sV h.key,sV h.body,iV h.size]
def iF(c:Nat)(no:Int)(un co:Nat)(h:HR):Obj:=.cells (h.vals c no un co).toArray 276 (0,0)
def fM(name:List UInt8)(ready:Value)(held last:Int)(cons:Value):Obj:=.cells [sV name,ready,iV held,iV last,cons].toArray 81 (0,0)
def Uk{cZ:Int}:ay E 46 #[iV cZ] U λe J=>∃b m,e=.returned (pV b)/\U.f m=none/\b≠m/\U.f b=none/\J=(U.set m (aV bU [] 0)).set b (iw m cZ 0 0):=by refine aX func46 ntmps46 results46 λQ aD an aA=>?_;refine ag ?_;refineλm hm=>?_;refine ag ?_;refineλb hb=>?_;refine ag ?_;have aE:b≠m:=bj hb aZ;rw[Hp.aO _ aE]at hb;exact an aI ao ⟨b,m,rfl,hm,aE,hb,rfl⟩
variable {cfg:kt}{g br mc:Nat}{last:Int}{l:List (Int×Value×Nat)}
def abH(hg:U.f g=some (eP cfg br mc clock last))(hm:U.f mc=some (aV aY l c))(hl:l.length≠4)(hu:jW l)(h1: -9223372036854775808<=last+1)(h2:last+1<=9223372036854775807):
 ay E 37 #[pV g] U λe J=>∃b chm,e=.returned (.tuple #[iV (last+1),.nilIface])/\U.f b=none/\U.f chm=none/\b≠chm/\
  J=(((U.set g (eP cfg br mc clock (last+1))).set chm (aV aY [] 0)).set b (fI g (last+1) chm ⟨0,[],false,0,cfg.frame,0,clock,clock,[]⟩)).set mc (aV aY (jz l (last+1) (pV b) c) (jM l (last+1) c)):=by
 refine aX func37 ntmps37 results37 λQ aD an aA=>?_;have c4:¬((l.length:Int)=4):=aa;simp only[go_sem,seval,hg,eP];refine HF su au hm ?_;have w1:IntKind.i64.wrap (last+1)=last+1:=wrap64 h1 h2;simp only[go_sem,seval,c4,hg,eP,w1];have n1:¬mc=g:=bj hm hg (by simp[eP,aV]);refine AW [0,1,2,3,4,5,6,7,8,9,10,11,12,14,15,16,17,18,19,20,21,22,23,24,25,26,13,27,28,29] ?_;refine ag ?_;refineλchm GJ=>?_;have fg:(U.set g (eP cfg br mc clock (last+1))).f g=some (eP cfg br mc clock (last+1)):=aZ;have n2:¬chm=g:=bj GJ aZ;have JX:∀o,((U.set g (eP cfg br mc clock (last+1))).set chm o).f g=some (eP cfg br mc clock (last+1)):=λo=>by rw[Hp.az (Ne.symm n2)];exact fg
 simp only[eP]at JX;refine⟨dL JX,?_⟩;rw[Hp.az n2]at GJ;have n3:¬chm=mc:=bj GJ hm;refine ag ?_;refine⟨dL JX,?_⟩;refine ag ?_;refineλb hb=>?_;have k1:¬b=chm:=bj hb aZ;rw[Hp.az k1]at hb;have k2:¬b=g:=bj hb aZ;rw[Hp.az k2]at hb;have k3:¬b=mc:=bj hb hm;have QR:∀o o',(((U.set g (eP cfg br mc clock (last+1))).set chm o).set b o').f g=some (eP cfg br mc clock (last+1)):=λo o'=>by rw[Hp.az (Ne.symm k2),Hp.az (Ne.symm n2)];exact fg
 simp only[eP]at QR;refine⟨dL QR,?_⟩;refine ag ?_;have fm:∀o o' bW,(((U.set g o).set chm o').set b bW).f mc=some (aV aY l c):=λo o' bW=>by rw[Hp.az (Ne.symm k3),Hp.az (Ne.symm n3),Hp.az n1];exact hm
 refine BO (b:=mc) (k:=last+1) su hu ?_ (fm _ _ _) ?_ ?_
 ·exact au
 ·simp only[go_sem,seval,aY]
 refine gf ?_;have k4:¬g=mc:=λe=>n1 e.symm;have QT:∀o o' bW,((((U.set g (eP cfg br mc clock (last+1))).set chm o).set b o').set mc bW).f g=some (eP cfg br mc clock (last+1)):=λo o' bW=>by rw[Hp.az k4,Hp.az (Ne.symm k2),Hp.az (Ne.symm n2)];exact fg
 simp only[eP]at QT;refine aJ QT ?_;refine an iO ao ⟨b,chm,?_,hb,GJ,k1,?_⟩
 ·exact au
 ·rfl
variable {main:Bool}{b:Frame}{a:Act}{k:List Item}{cs:List Frame}{w:World}{c:Code}
def aqc:stepG P main (G (b.at a (.code (.scope c)::k)) cs) w=.go (G (b.at a (.code c:: .inScope c::k)) cs) w:=by simp[G,stepG,stepG.exec,Frame.at]
def aqb:stepG P main (G (b.at a (.inScope c::k)) cs) w=.go (G (b.at a k) cs) w:=by simp[G,stepG,stepG.exec,Frame.at]
variable {E:Env P}{fn:Func}{args:Array Value}{R:Fin->Hp->Prop}
def aaK(hf:P.funcs[f]? =some fn)(hb:fn.body=some (.scope c))(hn:args.size<=fn.ntmps)(h:cO E fn.ntmps c (Vk P fn R) (nV args fn.ntmps) [] U):ay E f args U R:=by
 intro cs
 let b:Frame:={(default:Frame)with fn:=f,kind:=.normal}
 have pe:Frame.enter P f args .normal=b.at {tmps:=args++Array.replicate (fn.ntmps-args.size) undef,defers:=[]} [.code (.scope c)]:=by simp[Frame.enter,Frame.at,hf,hb,b]
 rw[pe];refine ax.ctl (λw=>aqc) rfl rfl ?_;refine(IF c _ _ _ _ h b [.inScope c] cs _ (by simp[b]) (sQ args fn.ntmps hn)).bind (Comes.mono ?_ ?_ ?_ ?_)
 ·rintro I ds ae a ha ⟨nF,v,J,hle,hv,hR⟩;refine ax.ctl (λw=>aqb) rfl rfl ?_;refine ax.iQ (J:=J) (ax.ctl (λw=>stepG_end) rfl rfl (ax.here ⟨.returned v,_,rfl,rfl,⟨rfl,?_,rfl,fn,hf,?_⟩,hR⟩)) hle
  ·have:=ha.defers;subst nF;exact this
  ·have:=xi (fn:=fn) ha;simp only[Frame.at];rw[this];exact hv
 ·exactλid I ds ae a ri _ hq=>hq.elim
 ·rintro I ds ae a todo ha ⟨nF,v,J,hle,hv,hR⟩;refine ax.iQ (J:=J) (ax.here ⟨.returned v,_,rfl,rfl,⟨rfl,?_,rfl,fn,hf,?_⟩,hR⟩) hle
  ·have:=ha.defers;subst nF;exact this
  ·have:=xi (fn:=fn) ha;simp only[Frame.at];rw[this];exact hv
 ·rintro ch I ds ae a todo ha ⟨nF,J,hle,hR⟩;refine ax.iQ (J:=J) (ax.here ⟨.panicked ch,_,rfl,rfl,⟨rfl,?_,fn,hf⟩,hR⟩) hle;have:=ha.defers;subst nF;exact this
def aaJ{rs:Array ResultVar}(hf:P.funcs[f]? =some fn)(hn:fn.ntmps=n)(hr:fn.results=rs)(hb:fn.body=some (.scope c))(hs:args.size<=fn.ntmps)(h:∀Q:Post,(∀{I U J v},lR P rs I J v->J.le U->R (.returned v) J->Q .normal I [] U)->(∀{I U J v},lR P rs I J v->J.le U->R (.returned v) J->Q .ret I [] U)->(∀ch I U J,J.le U->R (.panicked ch) J->Q (.panic ch) I [] U)->
  cO E n c Q (nV args n) [] U):ay E f args U R:=by
 subst hn;subst hr;refine aaK hf hb hs (h _ ?_ ?_ ?_)
 ·exactλ{I U J v} h1 hl h2=>⟨rfl,v,J,hl,h1,h2⟩
 ·exactλ{I U J v} h1 hl h2=>⟨rfl,v,J,hl,h1,h2⟩
 ·exactλch I U J hl h=>⟨rfl,J,hl,h⟩
def Sl.read{κ:Type}{f:κ->Value}{ys:List κ}(hs:Sl ety J (ys.map f) v):
 ∃base cap,v=.slice base ys.length cap/\∀i (hi:i<ys.length),∃(a:Nat) (L:List Value),base=some ⟨a,0,none⟩/\J.f a=some (.cells L.toArray ety (0,0))/\L[i]? =some (f ys[i]):=by
 generalize hk:ys.map f=ks at hs;have hl:ks.length=ys.length:=by rw[<-hk];simp
 cases hs with
 |nil h0=>exact⟨_,_,by rw[<-hl,h0];rfl,λi hi=>by rw[<-hl,h0]at hi;cases hi⟩
 |«at»a pad ha=>
  refine⟨_,_,by rw[hl],λi hi=>⟨a,_,rfl,ha,?_⟩⟩;rw[List.getElem?_append_left aa,<-hk];simp[hi]
def Idle(U:Hp)(c:Nat)(l:List (Int×Value×Nat)):Prop:=
 ∀e∈l,∃h un co k1 k2 hr,e.2.1=pV h/\U.f h=some (iF c e.1 un co hr)/\U.f un=some (aV aY [] k1)/\U.f co=some (aV bU [] k2)
variable {c:Nat}
def Idle.le(h:Idle U c l)(k:U.le J):Idle J c l:=by intro e he;obtain⟨h,un,co,k1,k2,hr,a,b,d,f⟩:=h e he;exact⟨h,un,co,k1,k2,hr,a,k _ _ b,k _ _ d,k _ _ f⟩
def FT(U:Hp)(qs:List Nat):Prop:=∀q∈qs,∃name b c held last cons,U.f q=some (fM name (.slice b 0 c) held last cons)
def FT.le(h:FT U qs)(k:U.le J):FT J qs:=by intro q hq;obtain⟨name,b,c,held,last,cons,e⟩:=h q hq;exact⟨name,b,c,held,last,cons,k _ _ e⟩
def oX:oN prog 43 where
 e:=55
 z:=2
 zero:=#[.int .i64 0,.string (B [])]
 bytes:=24
 hu:=ah
 hi:=⟨Tryz.t55,.agg #[.int .i64 0,.string (B [])],ah,ah,ah,rfl,ah⟩
structure Rest (U:Hp) (g:Nat) (cfg:kt) (br mc mq:Nat) (clock last:Int) (cZ messages bh:Int) (lq:List (List UInt8×Value×Nat)) (kq:Nat) (qs:List Nat):Prop where
 hg:U.f g=some (eP cfg br mc clock last)
 hb:U.f br=some (iw mq cZ messages bh)
 hm:U.f mq=some (aV bU lq kq)
 hold:∀e∈lq,e.2.2<kq
 hn:(lq.map (·.2.2)).Nodup
 gI:lq.length<=12
 nN:lq.map (·.2.1)=qs.map ep
 bw:FT U qs
def Rest.le {U J:Hp}{g br mc mq kq:Nat}{cfg:kt}{clock last cZ messages bh:Int}{lq:List (List UInt8×Value×Nat)}{qs:List Nat}(h:Rest U g cfg br mc mq clock last cZ messages bh lq kq qs)(k:U.le J):Rest J g cfg br mc mq clock last cZ messages bh lq kq qs:=
 ⟨k _ _ h.hg,k _ _ h.hb,k _ _ h.hm,h.hold,h.hn,h.gI,h.nN,h.bw.le k⟩
variable {chm:Nat}{cr:CR}
def Rest.set{mq kq:Nat}{cZ messages bh:Int}{lq:List (List UInt8×Value×Nat)}(h:Rest U g cfg br mc mq clock last cZ messages bh lq kq qs){gg:Nat}{id:Int}(hc:U.f c=some (fI gg id chm cr)):
 Rest (U.set c o) g cfg br mc mq clock last cZ messages bh lq kq qs:=by
 refine⟨?_,?_,?_,h.hold,h.hn,h.gI,h.nN,?_⟩
 ·rw[Hp.az];exact h.hg;intro e;have:=h.hg;rw[e,hc]at this;simp[eP,fI]at this
 ·rw[Hp.az];exact h.hb;intro e;have:=h.hb;rw[e,hc]at this;simp[iw,fI]at this
 ·rw[Hp.az];exact h.hm;intro e;have:=h.hm;rw[e,hc]at this;simp[aV,fI]at this
 ·intro q hq;obtain⟨name,b,cc,held,last,cons,e⟩:=h.bw q hq;refine⟨name,b,cc,held,last,cons,?_⟩;rw[Hp.az];exact e;intro e2;rw[e2,hc]at e;simp[fM,fI]at e
def ay.iQ {P:Program}{E:Env P}{f:FuncId}{args:Array Value}{U J:Hp}{R:Fin->Hp->Prop}(h:ay E f args J R)(k:J.le U):ay E f args U R:=λcs=>(h cs).iQ k
variable {E:Env prog}{k:Nat}{ch:List UInt8}
def ac6{id:Int}(hg:U.f g=some (eP cfg br mc clock last))(nL:U.f mc=some (aV aY l k))(fP:dq l id=none):
 ay E 25 #[pV g,iV id,sV ch] U λe J=>e=.returned (.tuple #[.slice none 0 0,.iface 51 (iV 3)])/\J=U:=by
 refine fR func25 ntmps25 results25 rfl al λQ aD an aA=>?_;simp only[eP]at hg;refine aJ hg ?_;refine jy (b:=mc) (k:=id) su (z:=.pointer none) ah ?_ nL ?_ ?_
 ·exact au
 ·simp only[go_sem,seval,aY]
 have de:((dq l id).map (·.2.1)).getD (.pointer none)=.pointer none:=by rw[fP];rfl
 simp only[go_sem,seval,de,Bool.false_eq_true];exact an iO ao ⟨by simp[up],rfl⟩
def ac5{st:Nat}{id:Int}(hg:U.f g=some (eP cfg br mc clock last))(nL:U.f mc=some (aV aY l k))(fP:dq l id=some (id,pV c,st))(Ki:ay E 39 #[pV g] U λe J=>∃v,e=.returned v/\R (.returned (.tuple #[v,.nilIface])) J):
 ay E 25 #[pV g,iV id,sV []] U R:=by
 refine aX func25 ntmps25 results25 λQ aD an aA=>?_;simp only[eP]at hg;refine aJ hg ?_;refine jy (b:=mc) (k:=id) su (z:=.pointer none) ah ?_ nL ?_ ?_
 ·exact au
 ·simp only[go_sem,seval,aY]
 have de:((dq l id).map (·.2.1)).getD (.pointer none)=pV c:=by rw[fP];rfl
 simp only[go_sem,seval,de,Bool.false_eq_true,decide_true];refine aK Ki ?_;rintro v J ⟨v',hv,hR⟩
 cases hv
 refine ag ?_;exact an iO ao (by simpa[up]using hR)
def ac4{st:Nat}{id:Int}(hg:U.f g=some (eP cfg br mc clock last))(nL:U.f mc=some (aV aY l k))(fP:dq l id=some (id,pV c,st))(hc:U.f c=some (fI g id chm cr))(dR:ch≠[])(Db:ay E 40 #[pV c,sV ch] (U.set c (fI g id chm {cr with recv:=clock})) λe J=>e=.returned (.tuple #[])/\ay E 39 #[pV g] J λe' cf=>∃v,e'=.returned v/\R (.returned (.tuple #[v,.nilIface])) cf):
 ay E 25 #[pV g,iV id,sV ch] U R:=by
 refine aX func25 ntmps25 results25 λQ aD an aA=>?_;simp only[eP]at hg;refine aJ hg ?_;refine jy (b:=mc) (k:=id) su (z:=.pointer none) ah ?_ nL ?_ ?_
 ·exact au
 ·simp only[go_sem,seval,aY]
 have de:((dq l id).map (·.2.1)).getD (.pointer none)=pV c:=by rw[fP];rfl
 have e1:U.set c (fI g id chm {cr with recv:=clock})=U.set c (.cells [pV g,iV id,iV cr.ph,sV cr.rest,.bool cr.iy,.map (some chm),iV cr.cZ,iV cr.frame,iV cr.gD,iV cr.iq,iV clock,sV cr.out].toArray 90 (0,0)):=rfl;simp only[fI,CR.vals]at hc;simp only[go_sem,seval,de,Bool.false_eq_true,dR,hg,hc];rw[e1]at Db;refine aK Db ?_;rintro w IU ⟨hw,Ki⟩
 cases hw
 refine ag ?_;refine aK Ki ?_;rintro v J ⟨v',hv,hR⟩
 cases hv
 refine ag ?_;exact an iO ao (by simpa[up]using hR)
structure FR where
 u:Un
 s:List UInt8
 cl:Int
 me:Int
def FR.vals(f:FR):List Value:=[iV f.u.kind,iV f.u.channel,sV f.u.ji,.bool f.u.kz,.bool f.u.gm,sV f.s,iV f.cl,iV f.me]
def bP(f:FR):Obj:=.cells f.vals.toArray 293 (0,0)
def FR.lD(f:FR)(cl:Int)(ms:List Int):Bool:=decide (f.u.kind=1)&&(decide (f.cl=cl)&&decide (f.me∈ms))
variable {ms:List Int}{x:Int}
def aia(hb:U.f bm=some (.cells (ms.map iV++pad).toArray 3 (0,0)))(hn:ms.length<=1000):
 ay E 247 #[.slice (some ⟨bm,0,none⟩) ms.length cap,iV x] U λe J=>(∃k:Int,e=.returned (iV k)/\(0<=k↔x∈ms))/\J=U:=by
 refine aX func247 ntmps247 results247 λQ aD an aA=>?_;refine ag ?_;refine di (λm I ds ae=>ds=[]/\I 0=.slice (some ⟨bm,0,none⟩) ms.length cap/\I 1=iV x/\I 7=iV ms.length/\ae=U/\∃i:Nat,i+m=ms.length/\I 8=iV i/\x∉ms.take i) ms.length ?_ ?_
 ·refine⟨rfl,?_,?_,?_,rfl,0,al,?_,al⟩<;>exact au
  try rfl
 ·rintro m I ds ae X ⟨rfl,h0,h1,h7,rfl,i,xQ,h8,oy⟩ hX
  cases m with
  |zero=>
   have c0:¬(i:Int)<ms.length:=aa;refine bR h7 h8 c0 ?_;rw[List.take_of_length_le aa]at oy;exact an aI ao ⟨⟨-1,by simp[up],by simp[oy]⟩,rfl⟩
  |succ m=>
   have hi:i<ms.length:=aa;have c0:(i:Int)<ms.length:=aa;have c1:(0:Int)<=i:=aa;have hL:(ms.map iV++pad)[i]? =some (iV ms[i]):=by rw[List.getElem?_append_left (aW hi)];simp[hi]
   have w1:=fQ i;by_cases hx:x=ms[i]
   ·simp only[go_sem,seval,h0,h1,h7,h8,c0,c1,hb,hL,hx,decide_true];refine an aI ao ⟨⟨(i:Int),?_,?_⟩,rfl⟩
    ·simp[up]
    ·exact⟨λ_=>by rw[hx];exact List.getElem_mem hi,λ_=>aa⟩
   ·simp only[go_sem,seval,h0,h1,h7,h8,c0,c1,hb,hL,hx,decide_false,w1];refine hX m _ _ _ _ aa ⟨rfl,?_,?_,?_,rfl,i+1,aa,?_,?_⟩ ao
    ·exact aQ h0
    ·exact aQ h1
    ·exact aQ h7
    ·exact au
    ·intro hm;rw[List.take_succ_eq_append_getElem hi,List.mem_append]at hm;rcases hm with h|h
     ·exact oy h
     ·exact hx (aW h)
def abM(hb:U.f bm=some (.cells (ms.map iV++pad).toArray 3 (0,0)))(hn:ms.length<=1000):
 ay E 232 #[.slice (some ⟨bm,0,none⟩) ms.length cap,iV x] U λe J=>e=.returned (.bool (decide (x∈ms)))/\J=U:=by
 refine fR func232 ntmps232 results232 rfl al λQ aD an aA=>?_;refine ag ?_;refine dH aei (aia hb hn) ?_ (λch ae ⟨⟨_,h,_⟩,_⟩=>by cases h);rintro v J ⟨⟨k,hv,hk⟩,rfl⟩
 cases hv
 refine ag ?_;exact an aI ao ⟨by simp[up,hk],rfl⟩
variable {bf:Nat}{f:FR}
def uU{cl:Int}(hf:U.f bf=some (bP f))(hb:U.f bm=some (.cells (ms.map iV++pad).toArray 3 (0,0)))(hn:ms.length<=1000):
 ay E 193 #[pV bf,iV cl,.slice (some ⟨bm,0,none⟩) ms.length cap] U λe J=>e=.returned (.bool (f.lD cl ms))/\J=U:=by
 refine fR func193 ntmps193 results193 rfl al λQ aD an aA=>?_;simp only[bP,FR.vals]at hf;by_cases h1:f.u.kind=1
 ·by_cases h2:f.cl=cl
  ·simp only[go_sem,seval,hf,h1,h2,decide_true];refine aT (abM hb hn) ?_;refine ag ?_;refine an aI ao ⟨?_,rfl⟩;simp[up,FR.lD,h1,h2]
  ·simp only[go_sem,seval,hf,h1,h2,decide_true,decide_false];refine an aI ao ⟨?_,rfl⟩;simp[up,FR.lD,h1,h2]
 ·simp only[go_sem,seval,hf,h1,decide_false];refine an aI ao ⟨?_,rfl⟩;simp[up,FR.lD,h1]
def ac3{e:Int}(hf:U.f bf=some (bP f)):
 ay E 189 #[pV bf,iV e] U λe' J=>∃b,e'=.returned (.iface 214 (pV b))/\U.f b=none/\J=U.set b (.cells [iV e,iV f.cl,iV f.me].toArray 217 (0,0)):=by
 refine aX func189 ntmps189 results189 λQ aD an aA=>?_;simp only[bP,FR.vals]at hf;refine ag ?_;refine bG 13 ?_;refine aJ hf ?_;refine gf ?_;refine ag ?_;refineλb hb=>⟨by(repeat(first|exact jL|(apply jK;(focus decide+kernel)))),?_⟩;refine ag ?_;refine an aI ao ⟨b,?_,hb,rfl⟩;simp[up]
def L3:mV prog 355 aY:=⟨85,3,.int .i64,ah,ah,.inl ⟨_,rfl⟩,Ie _,Ia⟩
section
variable {P:Program}{E:Env P}{I:av}{ds:List Deferred}{U:Hp}{dst:Option Tmp}{ty:TypeId}{pos:String}{af:Array Edge}{g:Option (Nat×Bool)}{nx:av->List Deferred->Hp->Prop}{pn:List PanicEntry->Hp->Prop}
variable {α:Type}[DecidableEq α]{f:α->Value}{t:TypeId}{l:List (α×Value×Nat)}{c:Nat}{k:α}
def Tm {m i v:Operand}(ko:mV P t f){b:Nat}{w:Value}{l':List (α×Value×Nat)}{c':Nat}(hu:jW l)(hm:ak I m=.map (some b))(hb:U.f b=some (aV f l c))(hi:ak I i=f k)(hv:ak I v=w)(hl:l'=jz l k w c)(hc:c'=jM l k c)
 (h:∀J,J=U.set b (aV f l' c')->nx (aB I dst undef) ds J):aU E ⟨dst,.insert t m i v,ty,pos,af,g⟩ I ds U nx pn:=by
 subst hv;subst hl;subst hc;exact aif ko hu hm hb hi (h _ rfl)
end
def JA(ch cl me:Nat)(xs:List Arg):(bK ch cl me xs).length=(dg xs).length+12:=by simp[bK,kP,dg,eI,bJ];omega
def H9{id:Int}{ch cl me:Nat}{xs:List Arg}(hg:U.f g=some (eP cfg br mc clock last))(hc:U.f c=some (fI g id chm cr))(hv:Ay U xs v)(gq:∀a∈xs,lh a)(hn:xs.length<=1000)(dR:ch<9223372036854775808)(aH:cl<9223372036854775808)(aP:me<9223372036854775808)(fZ:(dg xs).length<=10000000)(eS:cr.out.length<=1000000000000000):
 ay E 105 #[pV c,iV ch,iV cl,iV me,v] U λe J=>e=.returned (.tuple #[])/\J=U.set c (fI g id chm {cr with out:=cr.out++bK ch cl me xs,iq:=clock}):=by
 have vg:g≠c:=bj hc hg (by simp[eP,fI]);exact aaR (bc:=c) (bg:=g) (l:=cr.vals g id chm) (lg:=[iV cfg.jq,iV cfg.frame,iV cfg.gD,iV cfg.queue,iV cfg.body,pV br,iV clock,iV last,.map (some mc)]) hc hg rfl rfl rfl rfl vg hv gq hn dR aH aP fZ (by rw[JA];omega)
variable {E:Env P}{g:Option (Nat×Bool)}{x:Operand}
def aib{e:TypeId}{b:Nat}{k:IntKind}{j:Int}{ie:TypeInfo}(hu:P.underlying t=some (.array n e))(he:P.info? e=some ie)(hz:ie.size=1)(hx:ak I x=pV b)(hi:ak I i=.int k j)(h0:0<=j)(hn:j<n)(hs:iW P t=none)(h:nx (aB I dst (.pointer (some ⟨b,j.toNat,none⟩))) ds U):
 qI (aU E ⟨dst,.indexAddr t x i,ty,pos,af,g⟩ I ds U nx pn) (λz=>uY (wpOp E ⟨dst,.indexAddr t x i,ty,pos,af,g⟩ I ds U nx pn) z (λv=>nx (aB I dst v) ds U) (ak I i) (ak I x)) (iW P t):=by
 rw[hs,Gn]
 have fU:tR P t=none:=by unfold tR;rw[hu]
 have e0:aU E ⟨dst,.indexAddr t x i,ty,pos,af,g⟩ I ds U nx pn=wpOp E ⟨dst,.indexAddr t x i,ty,pos,af,g⟩ I ds U nx pn:=by simp only[aU,fU]
 rw[e0];unfold wpOp;simp only[execOp,Instr.indexAt,aG,hi,hx,asIntOf,bt,eu,hu,Instr.sureAddr];rw[if_pos ⟨h0,by exact_mod_cast hn⟩];simp only[aG,sizeOf,gl,he,bt,hz,Nat.mul_one];have e1:(⟨b,0,none⟩:Addr).add j.toNat=⟨b,j.toNat,none⟩:=by rw[Jj,Nat.zero_add]
 rw[e1];exact h
def aop(hu:P.underlying t=some .string)(hx:ak I x=.string (B s))(h:∀it,U.f it=none->nx (aB I dst (pV it)) ds (U.set it (.stringIter (B s) 0))):aU E ⟨dst,.range t x,ty,pos,af,g⟩ I ds U nx pn:=by
 show wpOp E _ I ds U nx pn;unfold wpOp;simp only[execOp,Instr.range,aG,eu,hu,hx,bt,yH];exact h
def Ul{it pos':Nat}(hx:ak I x=pV it)(hi:U.f it=some (.stringIter (B s) pos'))(h1:pos'<s.length->nx (aB I dst (.tuple #[.bool true,.int .i64 pos',.int .i32 (Utf8.decode (B s) pos').1])) ds (U.set it (.stringIter (B s) (pos'+(Utf8.decode (B s) pos').2))))(h2:¬pos'<s.length->nx (aB I dst (.tuple #[.bool false])) ds U):aU E ⟨dst,.next x true,ty,pos,af,g⟩ I ds U nx pn:=by
 show wpOp E _ I ds U nx pn;unfold wpOp;simp only[execOp,Instr.next,aG,hx,oK];refine⟨_,hi,rfl,?_⟩;by_cases h:pos'<s.length
 ·have h':pos'<(B s).size:=by rw[xm];exact h
  simp only[if_pos h',aG,tW];exact⟨_,hi,rfl,h1 h⟩
 ·have h':¬pos'<(B s).size:=by rw[xm];exact h
  simp only[if_neg h',bt];exact h2 h
variable {E:Env prog}{q:Nat}{name:List UInt8}{b:Option Addr}{held:Int}
def M6{cons:Value}(hq:U.f q=some (fM name (.slice b n cap) held last cons)):ay E 35 #[pV q] U λe J=>e=.returned (iV n)/\J=U:=by refine fR func35 ntmps35 results35 rfl al λQ aD an aA=>?_;simp only[fM]at hq;refine aJ hq ?_;exact an aI ao ⟨by simp[up],rfl⟩
def P7{ready:Value}(hq:U.f q=some (fM name ready held last (.slice b n cap))):ay E 36 #[pV q] U λe J=>e=.returned (iV n)/\J=U:=by refine fR func36 ntmps36 results36 rfl al λQ aD an aA=>?_;simp only[fM]at hq;refine aJ hq ?_;exact an aI ao ⟨by simp[up],rfl⟩
def amy{g:Nat}{id:Int}{no:Nat}{s0:List UInt8}(hg:U.f g=some (eP cfg br mc clock last))(hc:U.f c=some (fI g id chm cr))(hm:U.f chm=some (aV aY l k))(hu:jW l)(hf:U.f bf=some (bP f))(eH:f.u.channel=(no:Int))(atG:no<1000000)(agQ:(no:Int)<=cr.cZ)(hl:dq l (no:Int)=none)(hM:f.lD 20 [10]=true)(ht:jB f.s=some (s0,[]))(eS:cr.out.length<=100000000000000):
 ay E 192 #[pV c,pV bf] U λe J=>e=.returned .nilIface/\∃un co h,U.f un=none/\U.f co=none/\U.f h=none/\un≠co/\h≠un/\h≠co/\
  J=(((((U.set bf (bP {f with s:=[]})).set un (aV aY [] 0)).set co (aV bU [] 0)).set h (iF c no un co ⟨false,0,0,0,[],[],0⟩)).set chm (aV aY (jz l (no:Int) (pV h) k) (jM l (no:Int) k))).set c (fI g id chm {cr with out:=cr.out++bK no 20 11 [.long 0],iq:=clock}):=by
 refine aX func192 ntmps192 results192 λQ aD an aA=>?_;have Bo:=hf;have cF:=hc;simp only[fI,CR.vals]at cF;simp only[bP,FR.vals,eH]at Bo;have c1:¬(no:Int)>cr.cZ:=aa;refine ag ?_;refine bG 10 ?_;refine bR cF Bo c1 ?_;refine bG 11 ?_;refine bu cF Bo ?_;refine jy (b:=chm) (k:=(no:Int)) (l:=l) (c:=k) uZ (z:=.pointer none) ah ?_ hm ?_ ?_
 ·exact au
 ·exact au
 have de:((dq l (no:Int)).map (·.2.1)).getD (.pointer none)=.pointer none:=by rw[hl];rfl
 refine⟨jg Bo cF,?_⟩;simp only[go_sem,seval,de,Bool.false_eq_true];refineλbm dK=>?_;have nb:∀{x o},U.f x=some o->¬x=bm:=λh e=>by subst e;rw[h]at dK;cases dK
 have kC:∀o,U.le (U.set bm o):=λo x y h=>by rw[Hp.az (nb h)];exact h
 refine ag ?_;refine aT (uU (ms:=[10]) (pad:=[]) (kC _ _ _ hf) aZ al) ?_;simp only[go_sem,seval,hM,Bool.not_true];have GN:=kC (.cells #[iV 10] 3 (0,0)) _ _ hf;simp only[bP,FR.vals,eH]at GN;refine CK s8 (tU GN rfl) (λw rest hr=>?_) (λhr=>by rw[ht]at hr;cases hr);rw[ht]at hr;obtain⟨rfl,rfl⟩:s0=w/\[]=rest:=aW hr;refine ag ?_;refine aK (Qr aZ rfl) ?_;rintro v dx ⟨hv,Te⟩
 cases hv
 have ncf:¬c=bf:=bj hc hf (by simp[fI,bP]);have ngf:¬g=bf:=bj hg hf (by simp[eP,bP]);have MA:¬chm=bf:=bj hm hf (by simp[aV,bP]);have vg:¬g=c:=bj hc hg (by simp[eP,fI])
 have uE:(U.set bf (bP {f with s:=[]})).le dx:=by
  rw[Te]
  have e:(Obj.cells (([iV f.u.kind,iV no,sV f.u.ji,.bool f.u.kz,.bool f.u.gm,sV f.s,iV f.cl,iV f.me]:List Value).set 5 (.string (B []))).toArray 293)=bP {f with s:=[]}:=by simp[bP,FR.vals,eH]
  rw[e];exact ir (kC _) _ _
 clear Te;have lz:=uE _ _ ((Hp.az ncf).trans hc);have wy:=uE _ _ ((Hp.az ngf).trans hg);have rY:=uE _ _ ((Hp.az MA).trans hm);have nG:=uE _ _ aZ;have iz:=lz;have tq:=wy;simp only[fI,CR.vals]at iz;simp only[eP]at tq;simp only[bP,FR.vals,eH]at nG;refine ag ?_;refine NS 15 16 [0,1,2,3,4,5,6,7,8,9,10,11,12,13,14,15,16,17,18,19] [0,1,2,3,4,5,6,7,8,9,10,11,12,13,14,16,15,17,18,19] (λ_ _ _=>False) ah jb (λ_ _ _ _ h=>h.elim) ?_ ?_<;>simp only[iv,List.modify_toArray,List.modify_succ_cons,List.modify_zero_cons]
 ·refine bu iz nG ?_;refineλun iB=>?_;have xa:∀{x o},dx.f x=some o->¬x=un:=λh e=>by subst e;rw[iB]at h;cases h
  have Eo:∀o,(dx.set un o).f c=_:=λo=>(Hp.az (xa iz)).trans iz;have Ez:∀o,(dx.set un o).f bf=_:=λo=>(Hp.az (xa nG)).trans nG;refine⟨jg Eo Ez,?_⟩;refine ag ?_;refineλco qS=>?_;have BQ:¬co=un:=bj qS aZ;rw[Hp.az BQ]at qS;have w7:∀{x o},dx.f x=some o->¬x=co:=λh e=>by subst e;rw[qS]at h;cases h
  have wR:∀o o',((dx.set un o).set co o').f c=_:=λo o'=>(Hp.az (w7 iz)).trans (Eo o);have zX:∀o o',((dx.set un o).set co o').f bf=_:=λo o'=>(Hp.az (w7 nG)).trans (Ez o);refine⟨jg wR zX,?_⟩;refine ag ?_;refine⟨jg wR zX,?_⟩;refine ag ?_;refineλh hh=>?_;have ES:¬h=co:=bj hh aZ;rw[Hp.az ES]at hh;have ER:¬h=un:=bj hh aZ;rw[Hp.az ER]at hh;have nh:∀{x o},dx.f x=some o->¬x=h:=λk e=>by subst e;rw[hh]at k;cases k
  have hH:∀o,((dx.set un (aV aY [] 0)).set co (aV bU [] 0)).set h o=((dx.set un (aV aY [] 0)).set co (aV bU [] 0)).set h o:=λo=>rfl;have e1:((dx.set un (.map #[] 0)).set co (.map #[] 0)).set h (iF c no un co ⟨false,0,0,0,[],[],0⟩)=((dx.set un (aV aY [] 0)).set co (aV bU [] 0)).set h (iF c no un co ⟨false,0,0,0,[],[],0⟩):=hH _;have Ep:∀o o' bW,(((dx.set un o).set co o').set h bW).f c=_:=λo o' bW=>(Hp.az (nh iz)).trans (wR o o');have EA:∀o o' bW,(((dx.set un o).set co o').set h bW).f bf=_:=λo o' bW=>(Hp.az (nh nG)).trans (zX o o');have Mi:∀o o' bW,(((dx.set un o).set co o').set h bW).f chm=some (aV aY l k):=λo o' bW=>(Hp.az (nh rY)).trans ((Hp.az (w7 rY)).trans ((Hp.az (xa rY)).trans rY));have Mh:∀o o' bW,(((dx.set un o).set co o').set h bW).f g=_:=λo o' bW=>(Hp.az (nh tq)).trans ((Hp.az (w7 tq)).trans ((Hp.az (xa tq)).trans tq));refine⟨jg Ep EA,?_⟩;refine ag ?_;refine BO (b:=chm) (k:=(no:Int)) uZ hu ?_ (Mi _ _ _) ?_ ?_
  ·exact au
  ·exact au
  refine gf ?_;have Mw:¬c=chm:=bj rY lz (by simp[aV,fI]);have My:¬bf=chm:=λe=>MA e.symm;have Mz:¬g=chm:=bj rY wy (by simp[aV,eP]);have Mf:∀o o' bW o3,((((dx.set un o).set co o').set h bW).set chm o3).f bf=_:=λo o' bW o3=>(Hp.az My).trans (EA o o' bW);have Es:∀o o' bW o3,((((dx.set un o).set co o').set h bW).set chm o3).f c=_:=λo o' bW o3=>(Hp.az Mw).trans (Ep o o' bW);have EC:∀o o' bW o3,((((dx.set un o).set co o').set h bW).set chm o3).f g=_:=λo o' bW o3=>(Hp.az Mz).trans (Mh o o' bW);refine aJ Mf ?_;refineλba ib=>?_;have KJ:((((dx.set un (.map #[] 0)).set co (.map #[] 0)).set h (iF c no un co ⟨false,0,0,0,[],[],0⟩)).set chm (aV aY (jz l (no:Int) (pV h) k) (jM l (no:Int) k))).f ba=none:=ib;have wZ:∀{x o},((((dx.set un (.map #[] 0)).set co (.map #[] 0)).set h (iF c no un co ⟨false,0,0,0,[],[],0⟩)).set chm (aV aY (jz l (no:Int) (pV h) k) (jM l (no:Int) k))).f x=some o->¬x=ba:=λk e=>by subst e;rw[KJ]at k;cases k
  refine ag ?_;refine aT (H9 (g:=g) (id:=id) (chm:=chm) (cr:=cr) (ch:=no) (cl:=20) (me:=11) (xs:=[.long 0]) ((Hp.az (wZ (EC _ _ _ _))).trans (EC _ _ _ _)) ((Hp.az (wZ (Es _ _ _ _))).trans (Es _ _ _ _)) (.inr ⟨ba,rfl,aZ⟩) (by simp[lh]) al aa ai ai ai aa) ?_;refine ag ?_
  have back:∀{x},dx.f x=none->U.f x=none:=by
   intro x hx
   cases hs:U.f x with
   |none=>rfl
   |some o=>
    by_cases e:x=bf
    ·subst e;rw[nG]at hx;cases hx
    ·rw[uE _ _ ((Hp.az e).trans hs)]at hx;cases hx
  refine an (J:=((((((U.set bf (bP {f with s:=[]})).set un (aV aY [] 0)).set co (aV bU [] 0)).set h (iF c no un co ⟨false,0,0,0,[],[],0⟩)).set chm (aV aY (jz l (no:Int) (pV h) k) (jM l (no:Int) k))).set c (fI g id chm {cr with out:=cr.out++bK no 20 11 [.long 0],iq:=clock}))) aI ?_ ⟨?_,un,co,h,back iB,back qS,back hh,(λe=>BQ e.symm),ER,ES,rfl⟩
  ·refine ir ?_ _ _;have k1:(((((U.set bf (bP {f with s:=[]})).set un (aV aY [] 0)).set co (aV bU [] 0)).set h (iF c no un co ⟨false,0,0,0,[],[],0⟩)).set chm (aV aY (jz l (no:Int) (pV h) k) (jM l (no:Int) k))).le ((((dx.set un (aV aY [] 0)).set co (aV bU [] 0)).set h (iF c no un co ⟨false,0,0,0,[],[],0⟩)).set chm (aV aY (jz l (no:Int) (pV h) k) (jM l (no:Int) k))):=ir (ir (ir (ir uE _ _) _ _) _ _) _ _;rw[<-e1]at k1;exact Hp.le_trans k1 (λx o hx=>(Hp.az (wZ hx)).trans hx)
  ·simp[up]
 ·refine bu iz nG ?_;refineλco qS=>?_;have w7:∀{x o},dx.f x=some o->¬x=co:=λh e=>by subst e;rw[qS]at h;cases h
  have Eo:∀o,(dx.set co o).f c=_:=λo=>(Hp.az (w7 iz)).trans iz;have Ez:∀o,(dx.set co o).f bf=_:=λo=>(Hp.az (w7 nG)).trans nG;refine⟨jg Eo Ez,?_⟩;refine ag ?_;refineλun iB=>?_;have BQ:¬un=co:=bj iB aZ;rw[Hp.az BQ]at iB;have xa:∀{x o},dx.f x=some o->¬x=un:=λh e=>by subst e;rw[iB]at h;cases h
  have wR:∀o o',((dx.set co o).set un o').f c=_:=λo o'=>(Hp.az (xa iz)).trans (Eo o);have zX:∀o o',((dx.set co o).set un o').f bf=_:=λo o'=>(Hp.az (xa nG)).trans (Ez o);refine⟨jg wR zX,?_⟩;refine ag ?_;refine⟨jg wR zX,?_⟩;refine ag ?_;refineλh hh=>?_;have ES:¬h=un:=bj hh aZ;rw[Hp.az ES]at hh;have ER:¬h=co:=bj hh aZ;rw[Hp.az ER]at hh;have nh:∀{x o},dx.f x=some o->¬x=h:=λk e=>by subst e;rw[hh]at k;cases k
  have hH:∀o,((dx.set co (aV bU [] 0)).set un (aV aY [] 0)).set h o=((dx.set un (aV aY [] 0)).set co (aV bU [] 0)).set h o:=λo=>by rw[Hp.set_comm (λe=>BQ e.symm)]
  have e1:((dx.set co (.map #[] 0)).set un (.map #[] 0)).set h (iF c no un co ⟨false,0,0,0,[],[],0⟩)=((dx.set un (aV aY [] 0)).set co (aV bU [] 0)).set h (iF c no un co ⟨false,0,0,0,[],[],0⟩):=hH _;have Ep:∀o o' bW,(((dx.set co o).set un o').set h bW).f c=_:=λo o' bW=>(Hp.az (nh iz)).trans (wR o o');have EA:∀o o' bW,(((dx.set co o).set un o').set h bW).f bf=_:=λo o' bW=>(Hp.az (nh nG)).trans (zX o o');have Mi:∀o o' bW,(((dx.set co o).set un o').set h bW).f chm=some (aV aY l k):=λo o' bW=>(Hp.az (nh rY)).trans ((Hp.az (xa rY)).trans ((Hp.az (w7 rY)).trans rY));have Mh:∀o o' bW,(((dx.set co o).set un o').set h bW).f g=_:=λo o' bW=>(Hp.az (nh tq)).trans ((Hp.az (xa tq)).trans ((Hp.az (w7 tq)).trans tq));refine⟨jg Ep EA,?_⟩;refine ag ?_;refine BO (b:=chm) (k:=(no:Int)) uZ hu ?_ (Mi _ _ _) ?_ ?_
  ·exact au
  ·exact au
  refine gf ?_;have Mw:¬c=chm:=bj rY lz (by simp[aV,fI]);have My:¬bf=chm:=λe=>MA e.symm;have Mz:¬g=chm:=bj rY wy (by simp[aV,eP]);have Mf:∀o o' bW o3,((((dx.set co o).set un o').set h bW).set chm o3).f bf=_:=λo o' bW o3=>(Hp.az My).trans (EA o o' bW);have Es:∀o o' bW o3,((((dx.set co o).set un o').set h bW).set chm o3).f c=_:=λo o' bW o3=>(Hp.az Mw).trans (Ep o o' bW);have EC:∀o o' bW o3,((((dx.set co o).set un o').set h bW).set chm o3).f g=_:=λo o' bW o3=>(Hp.az Mz).trans (Mh o o' bW);refine aJ Mf ?_;refineλba ib=>?_;have KJ:((((dx.set co (.map #[] 0)).set un (.map #[] 0)).set h (iF c no un co ⟨false,0,0,0,[],[],0⟩)).set chm (aV aY (jz l (no:Int) (pV h) k) (jM l (no:Int) k))).f ba=none:=ib;have wZ:∀{x o},((((dx.set co (.map #[] 0)).set un (.map #[] 0)).set h (iF c no un co ⟨false,0,0,0,[],[],0⟩)).set chm (aV aY (jz l (no:Int) (pV h) k) (jM l (no:Int) k))).f x=some o->¬x=ba:=λk e=>by subst e;rw[KJ]at k;cases k
  refine ag ?_;refine aT (H9 (g:=g) (id:=id) (chm:=chm) (cr:=cr) (ch:=no) (cl:=20) (me:=11) (xs:=[.long 0]) ((Hp.az (wZ (EC _ _ _ _))).trans (EC _ _ _ _)) ((Hp.az (wZ (Es _ _ _ _))).trans (Es _ _ _ _)) (.inr ⟨ba,rfl,aZ⟩) (by simp[lh]) al aa ai ai ai aa) ?_;refine ag ?_
  have back:∀{x},dx.f x=none->U.f x=none:=by
   intro x hx
   cases hs:U.f x with
   |none=>rfl
   |some o=>
    by_cases e:x=bf
    ·subst e;rw[nG]at hx;cases hx
    ·rw[uE _ _ ((Hp.az e).trans hs)]at hx;cases hx
  refine an (J:=((((((U.set bf (bP {f with s:=[]})).set un (aV aY [] 0)).set co (aV bU [] 0)).set h (iF c no un co ⟨false,0,0,0,[],[],0⟩)).set chm (aV aY (jz l (no:Int) (pV h) k) (jM l (no:Int) k))).set c (fI g id chm {cr with out:=cr.out++bK no 20 11 [.long 0],iq:=clock}))) aI ?_ ⟨?_,un,co,h,back iB,back qS,back hh,(λe=>BQ e),ES,ER,rfl⟩
  ·refine ir ?_ _ _;have k1:(((((U.set bf (bP {f with s:=[]})).set un (aV aY [] 0)).set co (aV bU [] 0)).set h (iF c no un co ⟨false,0,0,0,[],[],0⟩)).set chm (aV aY (jz l (no:Int) (pV h) k) (jM l (no:Int) k))).le ((((dx.set un (aV aY [] 0)).set co (aV bU [] 0)).set h (iF c no un co ⟨false,0,0,0,[],[],0⟩)).set chm (aV aY (jz l (no:Int) (pV h) k) (jM l (no:Int) k))):=ir (ir (ir (ir uE _ _) _ _) _ _) _ _;rw[<-e1]at k1;exact Hp.le_trans k1 (λx o hx=>(Hp.az (wZ hx)).trans hx)
  ·simp[up]
end
end Go.Qw
