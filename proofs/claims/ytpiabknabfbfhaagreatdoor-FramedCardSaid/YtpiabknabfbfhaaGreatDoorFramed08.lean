/- 8 -/
import Derived.Lib.UnsafeStr
import Derived.Test.YtpiabknabfbfhaaGreatDoorFramed07
set_option linter.all false
set_option maxRecDepth 100000
set_option maxHeartbeats 8000000
namespace Go.Qw
open Go Go.Proofs.Tryz
section
open Go.Proofs
def Ow(a b:List UInt8):dG (a++b)=dG a++dG b:=by simp[dG]
def vf(a:List UInt8):(dG a).length=a.length:=by simp[dG]
def YX(a:List UInt8):(dG a).all di=true:=by simp[dG,di]
variable {U:Hp}{b:Nat}
def Hp.set_comm{a:Nat}{x y:Obj}(h:a≠b):(U.set a x).set b y=(U.set b y).set a x:=
 Hp.ext' λz=>by
  simp only[Hp.set];by_cases h1:z=b
  ·subst h1;simp[Ne.symm h]
  ·simp[h1]
def EX(z:Value)(n:Nat):Builtin.zeroCells #[z] n=(List.replicate n z).toArray:=by
 apply Array.ext';simp only[Builtin.zeroCells,Array.toList_map,Array.toList_range];apply List.ext_getElem?;intro i;simp only[List.getElem?_map,List.getElem?_replicate];by_cases h:i<n
 ·rw[List.getElem?_eq_getElem (aV h)];simp[h,Nat.mod_one]
 ·rw[List.getElem?_eq_none (aV h)];simp[h]
variable {E:Env prog}{I:av}{ds:List Deferred}{R:Hp}{dst:Option Tmp}{ty:TypeId}{pos:String}{af:Array Edge}{g:Option (Nat×Bool)}{nx:av->List Deferred->Hp->Prop}{pn:List PanicEntry->Hp->Prop}{l s:List UInt8}
def Oo{x y:Operand}{u:TypeId}{sl:Value}(hb:R.f b=none)(hu:Bj prog u=true)(hB:iu R b l U)(hs:U.f b=some (.cells #[pV b,sl] 155 (0,0)))(hx:ai I x=sl)(hn:s7 (ai I y)=some s.length)(hf:iM U 1 s.length (ai I y)=some (dG s).toArray)(fJ:l.length+s.length<=1000000000000)(h:∀v' ae HY,di v'=true->ae.f b=some (.cells #[pV b,sl] 155 (0,0))->HY.le (ae.set b (.cells #[pV b,v'] 155 (0,0)))->iu R b (l++s) HY->nx (aA I dst v') ds ae):
 aS E ⟨dst,.call ⟨.builtin .append,#[x,y],#[67,u]⟩,ty,pos,af,g⟩ I ds U nx pn:=by
 have kF:vo.z=1:=rfl;have Ch:vo.bytes=1:=rfl
 cases hB with
 |new hl kx=>
  subst kx;rw[Hp.bD]at hs;simp at hs
 |old hl kx=>
  subst hl;subst kx;rw[Hp.bD]at hs;simp at hs;subst hs;refine ss vo (base:=none) (l:=0) (c:=0) (n:=s.length) (old:=#[]) (new:=(dG s).toArray) hu hx hn rfl (by rw[kF];exact hf) (by rw[Ch];simp at fJ;omega) (by simp at fJ;omega) ?_ ?_
  ·intro hc;have:s=[]:=List.eq_nil_of_length_eq_zero aa;subst this;refine⟨_,rfl,?_⟩;refine h _ _ _ rfl aT ao (.old rfl ?_);simp only[Hp.set_set,List.length_nil,Nat.zero_add]
  ·intro hc bb cap eU jP;have aE:bb≠b:=by intro e;subst e;rw[Hp.bD]at eU;cases eU
   have CV:R.f bb=none:=by rw[Hp.aM _ aE]at eU;exact eU
   refine h _ _ _ rfl ?_ ao (.buf bb cap (List.replicate (cap-s.length) (.int .u8 0)) CV aE (aV jP) (by simp;omega) ?_)
   ·rw[Hp.aM _ (λe=>aE e.symm),Hp.bD]
   ·have ez:vo.zero= #[.int .u8 0]:=rfl;rw[ez,EX,Hp.set_comm aE,Hp.set_set]
    have e1: #[]++(dG s).toArray++(List.replicate (cap-(0+s.length)) (Value.int .u8 0)).toArray=(dG s++List.replicate (cap-s.length) (Value.int .u8 0)).toArray:=by apply Array.ext';simp
    rw[e1];simp only[Nat.zero_add,List.nil_append];rfl
 |buf bb cap rest CV aE hc hr kx=>
  subst kx;rw[Hp.aM _ (λe=>aE e.symm),Hp.bD]at hs;simp at hs;subst hs;have j9:((R.set b (.cells #[pV b,.slice (some ⟨bb,0,none⟩) l.length cap] 155 (0,0))).set bb (.cells (dG l++rest).toArray 5 (0,0))).f bb=some (.cells (dG l++rest).toArray 5 (0,0)):=aT
  have hold:iM ((R.set b (.cells #[pV b,.slice (some ⟨bb,0,none⟩) l.length cap] 155 (0,0))).set bb (.cells (dG l++rest).toArray 5 (0,0))) vo.z l.length (.slice (some ⟨bb,0,none⟩) l.length cap)=some (dG l).toArray:=by rw[kF];simp only[iM,cellsOf,j9];rw[if_pos ⟨trivial,by simp[vf]⟩];congr 1;apply Array.ext';simp[List.extract_eq_take_drop,vf]
  refine ss vo (base:=some ⟨bb,0,none⟩) (l:=l.length) (c:=cap) (n:=s.length) (old:=(dG l).toArray) (new:=(dG s).toArray) hu hx hn hold (by rw[kF];exact hf) (by rw[Ch];omega) aa ?_ ?_
  ·intro xj;refine⟨_,⟨_,_,j9,rfl,?_,?_,rfl⟩,?_⟩
   ·rw[kF];simp[vf];omega
   ·have:=YX s;simpa using this
   ·refine h _ _ _ rfl ?_ ao (.buf bb cap (rest.drop s.length) CV aE (aV xj) (by simp;omega) ?_)
    ·rw[Hp.aM _ (λe=>aE e.symm),Hp.aM _ (λe=>aE e.symm),Hp.bD]
    ·rw[Hp.set_set,Hp.set_comm aE,Hp.set_set]
     have e1:(dG l++rest).toArray.extract 0 (0+l.length*vo.z)++(dG s).toArray++(dG l++rest).toArray.extract (0+l.length*vo.z+(dG s).toArray.size) (dG l++rest).toArray.size=(dG (l++s)++rest.drop s.length).toArray:=by rw[kF];apply Array.ext';simp only[Array.toList_append,Array.toList_extract,List.extract_eq_take_drop,List.size_toArray,Nat.zero_add,Nat.mul_one,Nat.sub_zero,List.drop_zero,Ow,vf,List.append_assoc];rw[List.take_append_of_le_length (by rw[vf];omega),List.take_of_length_le (by rw[vf];omega)];congr 2;rw[List.drop_append,vf,List.drop_eq_nil_of_le (by rw[vf];omega)];simp[vf];rw[List.take_of_length_le (by simp;omega)]
     rw[e1];simp only[List.length_append]
  ·intro fK b2 rm dh ael;have xr:b2≠bb:=by intro e;subst e;rw[Hp.bD]at dh;cases dh
   have Gj:b2≠b:=by intro e;subst e;rw[Hp.aM _ (λe=>aE e.symm),Hp.bD]at dh;cases dh
   have ht2:R.f b2=none:=by rw[Hp.aM _ xr,Hp.aM _ Gj]at dh;exact dh
   refine h _ _ ((R.set b (.cells #[pV b,.slice (some ⟨b2,0,none⟩) (l++s).length rm] 155 (0,0))).set b2 (.cells (dG (l++s)++List.replicate (rm-(l.length+s.length)) (Value.int .u8 0)).toArray 5 (0,0))) rfl ?_ ?_
    (.buf b2 rm _ ht2 Gj (aV ael) (by simp;omega) rfl)
   ·rw[Hp.aM _ (λe=>Gj e.symm),Hp.aM _ (λe=>aE e.symm),Hp.bD]
   ·have ez:vo.zero= #[.int .u8 0]:=rfl
    have e1:(dG l).toArray++(dG s).toArray++(List.replicate (rm-(l.length+s.length)) (Value.int .u8 0)).toArray=(dG (l++s)++List.replicate (rm-(l.length+s.length)) (Value.int .u8 0)).toArray:=by apply Array.ext';simp[Ow]
    rw[ez,EX,e1,Hp.set_comm Gj,Hp.set_comm aE,Hp.set_set,List.length_append];rw[Hp.set_comm (λe=>xr e.symm)];exact GR (by rw[Hp.aM _ (λe=>xr e.symm),Hp.aM _ aE];exact CV)
def OY(hB:iu R b l U):
 aw E 117 #[pV b] U λe' ae=>e'=.returned (.tuple #[])/\iu R b l ae/\∃sl,ae.f b=some (.cells #[pV b,sl] 155 (0,0)):=by
 cases hB with
 |new hl hs=>
  subst hs;refine(aav aT).mono λe' ae ⟨h1,h2⟩=>⟨h1,?_,?_⟩
  ·rw[h2,Hp.set_set];exact .old hl rfl
  ·rw[h2];exact⟨_,aT⟩
 |old hl hs=>
  subst hs;refine(OZ aT).mono λe' ae ⟨h1,h2⟩=>⟨h1,?_,?_⟩
  ·rw[h2];exact .old hl rfl
  ·rw[h2];exact⟨_,aT⟩
 |buf bb cap rest hn aE hc hr hs=>
  subst hs
  have hf:((R.set b (.cells #[pV b,.slice (some ⟨bb,0,none⟩) l.length cap] 155 (0,0))).set bb (.cells (dG l++rest).toArray 5 (0,0))).f b=some (.cells #[pV b,.slice (some ⟨bb,0,none⟩) l.length cap] 155 (0,0)):=by rw[Hp.aM _ (λe=>aE e.symm),Hp.bD]
  refine(OZ hf).mono λe' ae ⟨h1,h2⟩=>⟨h1,?_,?_⟩
  ·rw[h2];exact .buf bb cap rest hn aE hc hr rfl
  ·rw[h2];exact⟨_,hf⟩
def Vl(hb:R.f b=none)(hB:iu R b l U)(fJ:l.length+s.length<=1000000000000):
 aw E 66 #[pV b,.string (B s)] U λe' ae=>e'=.returned (.tuple #[.int .i64 s.length,.nilIface])/\iu R b (l++s) ae:=by
 refine aX func66 ntmps66 results66 λQ aB al az=>?_;refine ag ?_;refine dI PY (OY hB) (λv rh ⟨h1,qA,sl,hs⟩=>?_) (λch ae ⟨h,_⟩=>by cases h);refine aH hs ?_;refine Oo hb aj0 qA hs au (s:=s) (by simp only[go_sem,seval,s7]) ?_ fJ (λv' ae HY h0 h1 h2 h3=>?_)
 ·simp only[go_sem,seval,iM];rw[Nf,Ox];simp
 ·refine bq h1 h0 ?_;refine al iT h2 ⟨?_,h3⟩;exact au
variable {n:Nat}{o:Obj}
def iu.frame(h:iu R b l U)(hn:U.f n=none):iu (R.set n o) b l (U.set n o):=by
 cases h with
 |new hl hs=>
  subst hs;have aE:b≠n:=bh hn aT;exact .new hl (Hp.set_comm aE)
 |old hl hs=>
  subst hs;have aE:b≠n:=bh hn aT;exact .old hl (Hp.set_comm aE)
 |buf bb cap rest h1 h2 h3 h4 hs=>
  subst hs;have n2:bb≠n:=bh hn aT;have n1:b≠n:=λe=>by subst e;rw[Hp.aM _ (λe=>h2 e.symm),Hp.bD]at hn;cases hn
  refine .buf bb cap rest (by rw[Hp.aM _ n2];exact h1) h2 h3 h4 ?_;rw[Hp.set_comm n2,Hp.set_comm n1]
def DV{bY:Hp}(h:R.le bY)(b:Nat)(o:Obj):(R.set b o).le (bY.set b o):=λx p hx=>by
 by_cases e:x=b
 ·subst e;rw[Hp.bD]at hx|-;exact hx
 ·rw[Hp.aM _ e]at hx|-;exact h x p hx
def kz(hn:R.f n=none):R.le (R.set n o):=λx p hx=>by have:x≠n:=bh hx hn;rw[Hp.aM _ this];exact hx
def iu.forget(h:iu (R.set n o) b l U)(hn:R.f n=none):∃ae,ae.le U/\iu R b l ae:=by
 have hle:=kz (o:=o) hn
 cases h with
 |new hl hs=>subst hs;exact⟨_,DV hle _ _,.new hl rfl⟩
 |old hl hs=>subst hs;exact⟨_,DV hle _ _,.old hl rfl⟩
 |buf bb cap rest h1 h2 h3 h4 hs=>
  subst hs;have n2:bb≠n:=bh h1 aT;exact⟨_,DV (DV hle _ _) _ _,.buf bb cap rest (by rw[Hp.aM _ n2]at h1;exact h1) h2 h3 h4 rfl⟩
def iu.none(h:iu R b l U)(hn:U.f n=none):R.f n=none/\n≠b:=by
 cases h with
 |new hl hs=>
  subst hs;have aE:n≠b:=bh hn aT;rw[Hp.aM _ aE]at hn;exact⟨hn,aE⟩
 |old hl hs=>
  subst hs;have aE:n≠b:=bh hn aT;rw[Hp.aM _ aE]at hn;exact⟨hn,aE⟩
 |buf bb cap rest h1 h2 h3 h4 hs=>
  subst hs;have n2:n≠bb:=bh hn aT;rw[Hp.aM _ n2]at hn;have aE:n≠b:=bh hn aT;rw[Hp.aM _ aE]at hn;exact⟨hn,aE⟩
def Vk{y:UInt8}(hb:R.f b=none)(hB:iu R b l U)(fJ:l.length+1<=1000000000000):
 aw E 67 #[pV b,.int .u8 y.toNat] U λe' ae=>e'=.returned .nilIface/\iu R b (l++[y]) ae:=by
 refine aX func67 ntmps67 results67 λQ aB al az=>?_;refine ag ?_;refine dI PY (OY hB) (λv rh ⟨h1,qA,sl,hs⟩=>?_) (λch ae ⟨h,_⟩=>by cases h);refine aH hs ?_;refineλnb vG=>?_;obtain⟨Dn,Rp⟩:=qA.none vG;have yH:=qA.frame (o:=.cells #[.int .u8 y.toNat] 5 (0,0)) vG;have iy:(rh.set nb (.cells #[.int .u8 y.toNat] 5 (0,0))).f b=some (.cells #[pV b,sl] 155 (0,0)):=by rw[Hp.aM _ (λe=>Rp e.symm)];exact hs
 refine ag ?_
 dsimp only
 refine Oo (R:=R.set nb (.cells #[.int .u8 y.toNat] 5 (0,0))) (l:=l) (s:=[y]) (by rw[Hp.aM _ (λe=>Rp e.symm)];exact hb) ah yH iy au au ?_ (aV fJ) (λv' ae HY h0 h1 h2 h3=>?_)
 ·refine ag ?_;simp[iM,cellsOf,Hp.set,dG]
 ·obtain⟨HZ,g1,g2⟩:=h3.forget Dn;refine bq h1 h0 ?_;exact al aG (Hp.le_trans g1 h2) ⟨rfl,g2⟩
variable {x:Array Operand}{a:Array TypeId}
def ahp:cW (.call ⟨.builtin .unsafeSliceData,x,a⟩)=false:=bj
def aho:cW (.call ⟨.builtin .unsafeString,x,a⟩)=false:=bj
attribute [go_sem] ahp aho
variable {P:Program}{E:Env P}{x:Operand}
def aoj{cz:Array TypeId}{a:Addr}{c:Nat}(hx:ai I x=.slice (some a) n c)(hc:c≠0)(h:nx (aA I dst (.pointer (some a))) ds U):aS E ⟨dst,.call ⟨.builtin .unsafeSliceData,#[x],cz⟩,ty,pos,af,g⟩ I ds U nx pn:=by
 show wpOp E _ I ds U nx pn;unfold wpOp;simp only[execOp,resolve,aF,bl,invoke];show wpS P (do pure (Next.value (<-Builtin.unsafeSliceData_ cz ty (#[x].map (ai I)))):Sem Next) _ _ _;rw[lE];have e1: #[x].map (ai I)= #[.slice (some a) n c]:=by simp[hx]
 rw[e1];obtain⟨k,rfl⟩:∃k,c=k+1:=⟨c-1,aa⟩;exact h
def aiX{Q:ByteArray->Hp->Prop}{H:Halt->Hp->Prop}:∀(l:List UInt8) (off:Nat) (acc:ByteArray),(∀j x,l[j]? =some x->U.cell? ⟨b,off+j,none⟩=some (.int .u8 x.toNat))->Q ⟨acc.data++l.toArray⟩ U->wpS P (loadBytes ⟨b,off,none⟩ acc l.length) Q H U:=by
 intro l
 induction l with
 |nil=>
  intro off acc _ h;have:(⟨acc.data++([]:List UInt8).toArray⟩:ByteArray)=acc:=ak;rw[this]at h;exact h
 |cons x l ih=>
  intro off acc hl h;have h0:=hl 0 x rfl;simp only[List.length_cons,loadBytes,aF];refine⟨_,h0,?_⟩;have ha:(⟨b,off,none⟩:Addr).add 1=⟨b,off+1,none⟩:=by unfold Addr.add;simp
  simp only[ha];refine ih (off+1) _ (λj y hy=>?_) ?_
  ·have:=hl (j+1) y (aV hy);rw[show off+1+j=off+(j+1)by omega];exact this
  ·have e:(acc.push ((x.toNat:Int).toNat).toUInt8).data++l.toArray=acc.data++(x::l).toArray:=by have hx:((x.toNat:Int).toNat).toUInt8=x:=ak;rw[hx];simp[ByteArray.push]
   rw[e];exact h
def aoY{y:Operand}{pt it el:TypeId}{bb:Nat}{rest:List Value}(hpt:P.underlying pt=some (.pointer el))(FX:P.cellsOf el=1)(hx:ai I x=pV bb)(hy:ai I y=.int .i64 l.length)(hl:l≠[])(fJ:l.length<=1000000000000)(hb:U.f bb=some (.cells (dG l++rest).toArray el (0,0)))(h:∀ae,(∀b,b≠bb->ae.f b=U.f b)->nx (aA I dst (.string (B l))) ds ae):aS E ⟨dst,.call ⟨.builtin .unsafeString,#[x,y],#[pt,it]⟩,ty,pos,af,g⟩ I ds U nx pn:=by
 show wpOp E _ I ds U nx pn;unfold wpOp
 have AT:(l.length:Int)≠0:=by have:l.length≠0:=λe=>hl (List.eq_nil_of_length_eq_zero e);omega
 simp only[execOp,resolve,aF,bl,invoke];show wpS P (do pure (Next.value (<-Builtin.unsafeString_ #[pt,it] ty (#[x,y].map (ai I)))):Sem Next) _ _ _;rw[lE];have e1: #[x,y].map (ai I)= #[pV bb,.int .i64 l.length]:=by simp[hx,hy]
 rw[e1]
 show wpS P (do
  if(l.length:Int)<0 then runtimePanic (.error "unsafe.String: len out of range")
  if(l.length:Int)>IntKind.i64.max then unsupported (.unsafePointer "String: a length above the largest int")
  if(l.length:Int)=0 then pure (.string .empty)
  else if<-variablesAt ⟨bb,0,none⟩ (<-elemOf pt) (l.length:Int).toNat then do
   let s<-loadBytes ⟨bb,0,none⟩ .empty (l.length:Int).toNat
   freeze ⟨bb,0,none⟩ (l.length:Int).toNat
   pure (.string s)
  else unsupported (.unsafePointer "String: not so many bytes at ptr"):Sem Value) _ _ _
 rw[if_neg aa,if_neg (by rw[show IntKind.i64.max=9223372036854775807 from rfl];omega),if_neg AT];simp only[aF,bl,elemOf,eg,hpt,variablesAt,zK,zL];have xt:U.shape? bb=some (el,(dG l++rest).length):=by simp[Hp.shape?,hb]
 rw[xt];have hlen:(dG l++rest).length=l.length+rest.length:=by simp[dG]
 refine⟨by rw[hb];rfl,?_⟩;show wpS P (if liesAt P P.depth el ((dG l++rest).length/P.cellsOf el) 0 el (l.length:Int).toNat=true then _ else _) _ _ _
 have hla:liesAt P P.depth el ((dG l++rest).length/P.cellsOf el) 0 el (l.length:Int).toNat=true:=by rw[FX,Nat.div_one];exact Go.Lib.liesAt_bytes FX _ _ (by rw[hlen];simp)
 rw[if_pos hla];rw[aF];have KI:(l.length:Int).toNat=l.length:=ak;rw[KI];refine aiX l 0 .empty (λj x hj=>?_) ?_
 ·have tR:j<l.length:=(List.getElem?_eq_some_iff.1 hj).1
  have h1:(dG l++rest)[j]? =some (.int .u8 x.toNat):=by rw[List.getElem?_append_left (by simpa[dG]using tR)];simp[dG,hj]
  simp[Hp.cell?,hb,h1]
 ·have hB:(⟨ByteArray.empty.data++l.toArray⟩:ByteArray)=B l:=by simp[B]
  rw[hB,aF,Vh];refine⟨by simp[hb],h _ λb aE=>?_⟩;unfold Hp.freeze;split
  ·rfl
  ·simp[Hp.modify,aE]
def apQ:∃el,prog.underlying 240=some (.pointer el)/\el=5/\prog.cellsOf el=1:=⟨5,underlying240,rfl,ah⟩
variable {E:Env prog}
def Mz(hb:R.f b=none)(hB:iu R b l U)(hl:l≠[])(fJ:l.length<=1000000000000):
 aw E 68 #[pV b] U λe' ae=>e'=.returned (.string (B l))/\ae=R:=by
 cases hB with
 |new h _=>exact absurd h hl
 |old h _=>exact absurd h hl
 |buf bb cap rest h1 h2 h3 h4 hs=>
  have hc:cap≠0:=λe=>hl (List.eq_nil_of_length_eq_zero aa);have hf:U.f b=some (.cells #[pV b,.slice (some ⟨bb,0,none⟩) l.length cap] 155 (0,0)):=by rw[hs,Hp.aM _ (λe=>h2 e.symm),Hp.bD]
  have eU:U.f bb=some (.cells (dG l++rest).toArray 5 (0,0)):=by rw[hs,Hp.bD]
  have hle:∀ae:Hp,(∀x,x≠bb->ae.f x=U.f x)->R.le ae:=λae hh x o hx=>by have n1:x≠bb:=bh hx h1;have n2:x≠b:=bh hx hb;rw[hh x n1,hs,Hp.aM _ n1,Hp.aM _ n2];exact hx
  clear hs;refine aX func68 ntmps68 results68 λQ aB al az=>?_;refine ag ?_;refine xW [0,1,2,3,5,6,7,8,9,4,10,11] (λ_ _ _=>False) ah ah (λ_ _ _ _ h=>h.elim) ?_;refine aH hf ?_;refine aoj (a:=⟨bb,0,none⟩) (n:=l.length) (c:=cap) au hc ⟨?_,?_⟩
  ·(repeat(first|exact jA|(apply jz;(focus decide+kernel))))
   refine lf rfl (aP hf) ?_
   (repeat(first|exact jA|(apply jz;(focus decide+kernel))))
  refine ag ?_;obtain⟨el,u1,rfl,u2⟩:=apQ;refine aoY (bb:=bb) (l:=l) (rest:=rest) u1 u2 au au hl fJ eU λae hh=>⟨by(repeat(first|exact jA|(apply jz;(focus decide+kernel)))),?_⟩;refine ag ?_;exact al aG (hle ae hh) ⟨au,rfl⟩
def bp(w n:Nat):List UInt8:=(List.range w).map λi=>(n/256^(w-1-i)).toUInt8
def cB(w n:Nat):(bp w n).length=w:=by simp[bp]
def XD{w i:Nat}(h:i<w):(bp w n)[i]? =some (n/256^(w-1-i)).toUInt8:=by simp[bp,h]
def YW{k:Nat}(hk:k<=7)(hn:n<9223372036854775808):IntKind.wrap .u8 (xS .i64 (n:Int) ((8*k:Nat):Int))=(((n/256^k).toUInt8).toNat:Int):=by
 have e0:IntKind.i64.bits=64:=rfl;unfold xS;rw[e0,Int.toNat_natCast,Nat.min_eq_left aa]
 have e1:(2:Int)^(8*k)=((256^k:Nat):Int):=by rw[show(256:Nat)=2^8 by rfl,<-Nat.pow_mul];simp
 rw[e1,Int.fdiv_eq_ediv_of_nonneg _ (Int.natCast_nonneg _),<-Int.natCast_ediv,IntKind.wrap_u8];have:(n/256^k).toUInt8.toNat=(n/256^k) % 256:=ak;rw[this];omega
def Bp{w:Nat}(hb:R.f b=none)(hB:iu R b l U)(hw:w<=8)(hn:n<9223372036854775808)(fJ:l.length+8<=1000000000):
 aw E 116 #[pV b,.int .i64 w,.int .i64 n] U λe' ae=>e'=.returned (pV b)/\iu R b (l++bp w n) ae:=by
 refine aX func116 ntmps116 results116 λQ aB al az=>?_;refine ag ?_;refine cZ (λm I ds U=>ds=[]/\I 0=pV b/\I 2=.int .i64 n/\I 7=.int .i64 ((m:Int)-1)/\∃i,i+m=w/\iu R b (l++(bp w n).take i) U) w ?_ ?_
 ·have c1:IntKind.wrap .i64 ((w:Int)-1)=(w:Int)-1:=wrap64 aa aa;refine aH c1 ?_;exact⟨0,aa,aV hB⟩
 ·rintro m I ds U X ⟨rfl,h0,h2,h7,i,hi,hB⟩ hX
  cases m with
  |zero=>
   have c1:¬((0:Int)<=((0:Nat):Int)-1):=aa;refine bq h0 h7 ?_;refine al aG ao ⟨au,?_⟩;rw[List.take_of_length_le (by rw[cB];omega)]at hB;exact hB
  |succ k=>
   have c1:(0:Int)<=((k+1:Nat):Int)-1:=aa;have c2:IntKind.wrap .i64 (8*(((k+1:Nat):Int)-1))=((8*k:Nat):Int):=cX;have c3:(0:Int)<=((8*k:Nat):Int):=aa;have c4:=YW (n:=n) (k:=k) aa hn;refine bq h7 c1 ?_;refine bJ 9 ?_;refine Mn h0 h2 h7 c2 c3 c4 ?_;refine dI ada (Vk hb hB ?_) ?_ ?_
   ·simp[cB];omega
   ·rintro v ae ⟨h,oP⟩;refine fL ?_;have c5:IntKind.wrap .i64 (((k+1:Nat):Int)-1-1)=(k:Int)-1:=cX;refine bq h7 c5 ?_;refine hX k _ _ _ _ aa ⟨rfl,?_,?_,?_,i+1,aa,?_⟩ ao
    ·exact aP h0
    ·exact aP h2
    ·exact au
    ·have e:(bp w n).take (i+1)=(bp w n).take i++[(n/256^k).toUInt8]:=by rw[List.take_add_one,XD aa,show w-1-i=k by omega];rfl
     rw[e,<-List.append_assoc];exact oP
   ·rintro ch ae ⟨h,_⟩;cases h
inductive Arg
 |Bl (n:Nat)
 |short (n:Nat)
 |long (n:Nat)
 |ng (n:Nat)
 |text (s:List UInt8)
 |flag (b:Bool)
def oF:Arg->Value
 | .Bl n=>.iface 157 (.int .i64 n)
 | .short n=>.iface 158 (.int .i64 n)
 | .long n=>.iface 159 (.int .i64 n)
 | .ng n=>.iface 237 (.int .i64 n)
 | .text s=>.iface 238 (.string (B s))
 | .flag b=>.iface 239 (.bool b)
def dC:Arg->List UInt8
 | .Bl n=>bp 1 n
 | .short n=>bp 2 n
 | .long n=>bp 4 n
 | .ng n=>bp 8 n
 | .text s=>bp 1 s.length++s
 | .flag b=>bp 1 (if b then 1 else 0)
def kP:Arg->Prop
 | .Bl n| .short n| .long n| .ng n=>n<9223372036854775808
 |_=>True
def bZ(l:List Arg):List UInt8:=l.flatMap dC
def Yn{x:Nat}(h:iu R b l U)(hb:R.f b=none)(hx:R.f x=some o):U.f x=some o:=by
 have aE:x≠b:=bh hx hb
 cases h with
 |new _ hs=>rw[hs,Hp.aM _ aE];exact hx
 |old _ hs=>rw[hs,Hp.aM _ aE];exact hx
 |buf bb _ _ h1 _ _ _ hs=>
  have h2:x≠bb:=bh hx h1;rw[hs,Hp.aM _ h2,Hp.aM _ aE];exact hx
def zO(R:Hp)(xs:List Arg)(v:Value):Prop:=
 (xs=[]/\v=.slice none 0 0)\/∃sb,v=.slice (some ⟨sb,0,none⟩) xs.length xs.length/\R.f sb=some (.cells (xs.map oF).toArray 20 (0,0))
variable {xs:List Arg}{v:Value}
def G8(hb:R.f b=none)(hB:iu R b l U)(hv:zO R xs v)(fU:∀a∈xs,kP a)(hn:xs.length<=1000)(fJ:l.length+(bZ xs).length<=900000000):
 aw E 65 #[pV b,v] U λe' ae=>e'=.returned (.tuple #[])/\iu R b (l++bZ xs) ae:=by
 refine aX func65 ntmps65 results65 λQ aB al az=>?_
 have hlen:∃bs c,v=.slice bs xs.length c:=by
  rcases hv with⟨rfl,rfl⟩|⟨sb,rfl,_⟩
  ·exact⟨_,_,rfl⟩
  ·exact⟨_,_,rfl⟩
 obtain⟨bs,c,RI⟩:=hlen;refine aH RI ?_;refine cZ (λm I ds U=>ds=[]/\∃i,i+m=xs.length/\I 0=pV b/\I 13=v/\I 14=.int .i64 xs.length/\I 15=.int .i64 i/\iu R b (l++bZ (xs.take i)) U) xs.length ?_ ?_
 ·refine⟨rfl,0,aa,?_,?_,?_,?_,?_⟩
  ·exact au
  ·exact aP RI
  ·exact au
  ·exact au
  ·simpa[bZ]using hB
 ·rintro m I ds U X ⟨rfl,i,hi,h0,l8,l9,kG,hB⟩ hX;rcases Nat.lt_or_ge i xs.length with aZ|xi
  ·have c1:(i:Int)<xs.length:=aa;rcases hv with⟨rfl,rfl⟩|⟨sb,rfl,mZ⟩
   ·simp at aZ
   have ud:=Yn hB hb mZ;have c2:(0:Int)<=i:=aa;obtain⟨a,ha⟩:∃a,xs[i]? =some a:=⟨_,List.getElem?_eq_getElem aZ⟩;have j9:(xs.map oF)[i]? =some (oF a):=by simp[ha]
   have vJ:bZ (xs.take (i+1))=bZ (xs.take i)++dC a:=by rw[List.take_add_one,ha];simp[bZ]
   have hlen:(bZ (xs.take i)).length+(dC a).length<=(bZ xs).length:=by
    have:bZ xs=bZ (xs.take (i+1))++bZ (xs.drop (i+1)):=by simp only[bZ];rw[<-List.flatMap_append,List.take_append_drop]
    rw[this,vJ];simp
   have c5:IntKind.wrap .i64 ((i:Int)+1)=((i+1:Nat):Int):=cX;have Gn:=fU a (List.mem_of_getElem? ha)
   have fin:∀aC ae,aC 0=pV b->aC 13=.slice (some ⟨sb,0,none⟩) xs.length xs.length->aC 14=.int .i64 xs.length->aC 15=.int .i64 ((i+1:Nat):Int)->iu R b (l++bZ (xs.take i)++dC a) ae->X aC [] ae:=by intro aC ae k0 k13 k14 k15 kB;refine hX (m-1) _ _ _ _ aa ⟨rfl,i+1,aa,k0,k13,k14,k15,?_⟩ ao;rw[vJ,<-List.append_assoc];exact kB
   cases a with
   |Bl n=>
    simp only[oF]at j9;refine rY h0 l8 l9 kG c1 c2 ud j9 ?_;refine dI Av (Bp (w:=1) hb hB aa Gn (by simp at hlen|-;omega)) ?_ ?_
    ·rintro v ae ⟨h,oP⟩;refine bq kG c5 ?_;exact fin _ _ (aP h0) (aP l8) (aP l9) au oP
    ·rintro ch ae ⟨h,_⟩;cases h
   |short n=>
    simp only[oF]at j9;refine rY h0 l8 l9 kG c1 c2 ud j9 ?_;refine dI Av (Bp (w:=2) hb hB aa Gn (by simp at hlen|-;omega)) ?_ ?_
    ·rintro v ae ⟨h,oP⟩;refine bq kG c5 ?_;exact fin _ _ (aP h0) (aP l8) (aP l9) au oP
    ·rintro ch ae ⟨h,_⟩;cases h
   |long n=>
    simp only[oF]at j9;refine rY h0 l8 l9 kG c1 c2 ud j9 ?_;refine dI Av (Bp (w:=4) hb hB aa Gn (by simp at hlen|-;omega)) ?_ ?_
    ·rintro v ae ⟨h,oP⟩;refine bq kG c5 ?_;exact fin _ _ (aP h0) (aP l8) (aP l9) au oP
    ·rintro ch ae ⟨h,_⟩;cases h
   |ng n=>
    simp only[oF]at j9;refine rY h0 l8 l9 kG c1 c2 ud j9 ?_;refine dI Av (Bp (w:=8) hb hB aa Gn (by simp at hlen|-;omega)) ?_ ?_
    ·rintro v ae ⟨h,oP⟩;refine bq kG c5 ?_;exact fin _ _ (aP h0) (aP l8) (aP l9) au oP
    ·rintro ch ae ⟨h,_⟩;cases h
   |text t=>
    simp only[oF]at j9
    have ht:t.length<=900000000:=by
     have:(dC (.text t)).length=1+t.length:=by simp[dC,cB]
     omega
    have gX:(bp 1 t.length).length=1:=cB _ _;have iq:(dC (.text t)).length=1+t.length:=by simp[dC,cB]
    refine rY h0 l8 l9 kG c1 c2 ud j9 ?_;refine dI Av (Bp (w:=1) hb hB aa aa (by simp at hlen|-;omega)) ?_ ?_
    ·rintro v ae ⟨h,oP⟩
     cases h
     refine ag ?_;refine dI ac9 (Vl hb oP (by simp at hlen|-;omega)) ?_ ?_
     ·rintro v fZ ⟨h,adu⟩;refine bq kG c5 ?_;refine fin _ _ (aP h0) (aP l8) (aP l9) au ?_;simp only[dC];rw[<-List.append_assoc];exact adu
     ·rintro ch ae ⟨h,_⟩;cases h
    ·rintro ch ae ⟨h,_⟩;cases h
   |flag f=>
    simp only[oF]at j9
    cases f
    all_goals
     refine rY h0 l8 l9 kG c1 c2 ud j9 ?_;refine dI Av (Bp (w:=1) hb hB aa an (by simp at hlen|-;omega)) ?_ ?_
     ·rintro v ae ⟨h,oP⟩;refine bq kG c5 ?_;exact fin _ _ (aP h0) (aP l8) (aP l9) au oP
     ·rintro ch ae ⟨h,_⟩;cases h
  ·have c1:¬(i:Int)<xs.length:=aa;refine bR l9 kG c1 ?_;refine aB dB ao ⟨rfl,?_⟩;rw[List.take_of_length_le aa]at hB;exact hB
def lZ(kind ch:Nat)(p:List UInt8):List UInt8:=bp 1 kind++bp 2 ch++bp 4 p.length++p++[206]
def qy(kind ch:Nat)(p:List UInt8):(lZ kind ch p).length=p.length+8:=by simp[lZ,cB];omega
def Je{kind ch:Nat}{p:List UInt8}(hk:kind<9223372036854775808)(hc:ch<9223372036854775808)(hp:p.length<=100000000):
 aw E 44 #[.int .i64 kind,.int .i64 ch,.string (B p)] U λe' ae=>e'=.returned (.string (B (lZ kind ch p)))/\ae=U:=by
 refine aX func44 ntmps44 results44 λQ aB al az=>?_;refine ag ?_;refineλb hb=>?_;refine ag ?_;refineλsb mZ=>?_;have vu:iu U b [] (U.set b (.cells #[.pointer none,.slice none 0 0] 155 (0,0))):=.new rfl rfl;have aE:b≠sb:=bh mZ aT;have Dz:U.f sb=none:=by rw[Hp.aM _ (λe=>aE e.symm)]at mZ;exact mZ
 have qA:=vu.frame (o:=.cells ([Arg.Bl kind,.short ch,.long p.length].map oF).toArray 20 (0,0)) mZ;obtain⟨R,fF⟩:∃R,R=U.set sb (.cells ([Arg.Bl kind,.short ch,.long p.length].map oF).toArray 20 (0,0)):=⟨_,rfl⟩;rw[<-fF]at qA;have sG:R.f b=none:=by rw[fF,Hp.aM _ aE];exact hb
 refine ag ?_;refine dI ac8 (G8 sG qA (.inr ⟨sb,rfl,by rw[fF,Hp.bD]⟩) (by simp[kP,hk,hc];omega) ak (by simp[bZ,dC,cB])) ?_ ?_
 ·rintro v ae ⟨h,yH⟩;refine ag ?_;refine aJ (Vl sG yH (by simp[bZ,dC,cB];omega)) ?_;rintro v ae ⟨h,Js⟩;refine ag ?_;refine aJ (Vk (y:=206) sG Js (by simp[bZ,dC,cB];omega)) ?_;rintro v ae ⟨h,hB4⟩;refine ag ?_;refine bz (Mz sG hB4 ak (by simp[bZ,dC,cB];omega)) ?_;refine ag ?_;refine al (R:=U) aG (by rw[fF];exact kz Dz) ⟨?_,rfl⟩;refine ag ?_;simp[lZ,bZ,dC]
 ·rintro ch ae ⟨h,_⟩;cases h
def cg(ch cl me:Nat)(xs:List Arg):List UInt8:=lZ 1 ch (bp 2 cl++bp 2 me++bZ xs)
def aqg{ch cl me:Nat}(hv:zO U xs v)(fU:∀a∈xs,kP a)(hn:xs.length<=1000)(hc:ch<9223372036854775808)(aK:cl<9223372036854775808)(aN:me<9223372036854775808)(fJ:(bZ xs).length<=10000000):
 aw E 149 #[.int .i64 ch,.int .i64 cl,.int .i64 me,v] U λe' ae=>e'=.returned (.string (B (cg ch cl me xs)))/\ae=U:=by
 refine aX func149 ntmps149 results149 λQ aB al az=>?_;refine ag ?_;refineλb hb=>?_;refine ag ?_;refineλsb mZ=>?_;have vu:iu U b [] (U.set b (.cells #[.pointer none,.slice none 0 0] 155 (0,0))):=.new rfl rfl;have aE:b≠sb:=bh mZ aT;have Dz:U.f sb=none:=by rw[Hp.aM _ (λe=>aE e.symm)]at mZ;exact mZ
 have qA:=vu.frame (o:=.cells ([Arg.short cl,.short me].map oF).toArray 20 (0,0)) mZ;obtain⟨R,fF⟩:∃R,R=U.set sb (.cells ([Arg.short cl,.short me].map oF).toArray 20 (0,0)):=⟨_,rfl⟩;rw[<-fF]at qA;have hle:U.le R:=by rw[fF];exact kz Dz
 have sG:R.f b=none:=by rw[fF,Hp.aM _ aE];exact hb
 have GC:zO R xs v:=hv.imp id λ⟨x,h1,h2⟩=>⟨x,h1,hle _ _ h2⟩;refine ag ?_;refine aJ (G8 (xs:=[.short cl,.short me]) sG qA (.inr ⟨sb,rfl,by rw[fF,Hp.bD]⟩) (by simp[kP,aK,aN]) ak (by simp[bZ,dC,cB])) ?_;rintro v1 ae ⟨h,yH⟩;refine ag ?_;refine aJ (G8 sG yH GC fU hn (by simp[bZ,dC,cB]at fJ|-;omega)) ?_;rintro v2 ae ⟨h,Js⟩;refine ag ?_;refine bz (Mz sG Js ?_ ?_) ?_
 ·simp[bZ,dC,bp]
 ·simp[bZ,dC,cB]at fJ|-;omega
 refine ag ?_;refine bz (Je (kind:=1) aa hc ?_) ?_
 ·simp[bZ,dC,cB]at fJ|-;omega
 refine ag ?_;refine al (R:=U) aG hle ⟨?_,rfl⟩;refine ag ?_;simp[cg,bZ,dC]
end
section
open Go.Conc
variable {x:Array Operand}{a:Array TypeId}
def ahg:cW (.call ⟨.builtin .min,x,a⟩)=false:=bj
def ahf:cW (.call ⟨.builtin .max,x,a⟩)=false:=bj
attribute [go_sem] ahg ahf
variable {P:Program}{E:Env P}{I:av}{ds:List Deferred}{U:Hp}{dst:Option Tmp}{ty:TypeId}{pos:String}{af:Array Edge}{g:Option (Nat×Bool)}{nx:av->List Deferred->Hp->Prop}{pn:List PanicEntry->Hp->Prop}{x y:Operand}{cz:Array TypeId}{a b:Int}
def SL(hx:ai I x=.int .i64 a)(hy:ai I y=.int .i64 b)(h:nx (aA I dst (.int .i64 (min a b))) ds U):aS E ⟨dst,.call ⟨.builtin .min,#[x,y],cz⟩,ty,pos,af,g⟩ I ds U nx pn:=by
 show wpOp E _ I ds U nx pn;unfold wpOp;simp only[execOp,resolve,aF,bl,invoke];show wpS P (do pure (Next.value (<-Builtin.min_ cz ty (#[x,y].map (ai I)))):Sem Next) _ _ _;rw[lE];have e1: #[x,y].map (ai I)= #[.int .i64 a,.int .i64 b]:=by simp[hx,hy]
 rw[e1];simp only[Builtin.min_,List.foldlM,Builtin.min2];have e2:(if b<a then b else a)=min a b:=aa;rw[e2];exact h
def aji(hx:ai I x=.int .i64 a)(hy:ai I y=.int .i64 b)(h:nx (aA I dst (.int .i64 (max a b))) ds U):aS E ⟨dst,.call ⟨.builtin .max,#[x,y],cz⟩,ty,pos,af,g⟩ I ds U nx pn:=by
 show wpOp E _ I ds U nx pn;unfold wpOp;simp only[execOp,resolve,aF,bl,invoke];show wpS P (do pure (Next.value (<-Builtin.max_ cz ty (#[x,y].map (ai I)))):Sem Next) _ _ _;rw[lE];have e1: #[x,y].map (ai I)= #[.int .i64 a,.int .i64 b]:=by simp[hx,hy]
 rw[e1];simp only[Builtin.max_,List.foldlM,Builtin.max2];have e2:(if b>a then b else a)=max a b:=aa;rw[e2];exact h
end
section
open Go.Proofs
def mw(ch m:Nat):Nat->List UInt8->List UInt8
 |0,_=>[]
 |f+1,b=>if b=[]then []else lZ 3 ch (b.take m)++mw ch m f (b.drop m)
def lI(ch:Nat)(body:List UInt8)(size:Nat):List UInt8:=lZ 2 ch (bp 2 60++bp 2 0++bp 8 body.length)++mw ch (size-8) body.length body
def alC(ch m:Nat)(hm:1<=m):∀(f g:Nat) (b:List UInt8),b.length<=f->b.length<=g->mw ch m f b=mw ch m g b:=by
 intro f
 induction f with
 |zero=>
  intro g b hf _;have:b=[]:=List.eq_nil_of_length_eq_zero aa;subst this
  cases g<;>simp[mw]
 |succ f ih=>
  intro g b hf hg
  cases g with
  |zero=>
   have:b=[]:=List.eq_nil_of_length_eq_zero aa;subst this;simp[mw]
  |succ g=>
   simp only[mw];split
   ·rfl
   ·rename_i hb;have:b.length≠0:=λe=>hb (List.eq_nil_of_length_eq_zero e);rw[ih g (b.drop m) (by simp;omega) (by simp;omega)]
def TF(ch m:Nat)(hm:1<=m):∀(f:Nat) (b:List UInt8),b.length<=f->(mw ch m f b).length<=9*b.length:=by
 intro f
 induction f with
 |zero=>intro b h;simp[mw]
 |succ f ih=>
  intro b h;simp only[mw];split
  ·simp
  ·rename_i hb;have h0:b.length≠0:=λe=>hb (List.eq_nil_of_length_eq_zero e);have:=ih (b.drop m) (by simp;omega);simp only[List.length_append,qy,List.length_take,List.length_drop]at this|-;rcases Nat.le_total m b.length with h1|h1
   ·rw[Nat.min_eq_left h1];omega
   ·rw[Nat.min_eq_right h1];omega
def OX{E:Env prog}{U:Hp}{ch size:Nat}{body:List UInt8}(hc:ch<9223372036854775808)(hs:9<=size)(iy:size<=1000000)(hb:body.length<=1000000):
 aw E 292 #[.int .i64 ch,.string (B body),.int .i64 size] U λe' ae=>e'=.returned (.string (B (lI ch body size)))/\ae=U:=by
 refine aX func292 ntmps292 results292 λQ aB al az=>?_;refine ag ?_;refineλb eU=>?_;refine ag ?_;refineλsb mZ=>?_;have vu:iu U b [] (U.set b (.cells #[.pointer none,.slice none 0 0] 155 (0,0))):=.new rfl rfl;have aE:b≠sb:=bh mZ aT;have Dz:U.f sb=none:=by rw[Hp.aM _ (λe=>aE e.symm)]at mZ;exact mZ
 have qA:=vu.frame (o:=.cells ([Arg.short 60,.short 0,.ng body.length].map oF).toArray 20 (0,0)) mZ;obtain⟨R,fF⟩:∃R,R=U.set sb (.cells ([Arg.short 60,.short 0,.ng body.length].map oF).toArray 20 (0,0)):=⟨_,rfl⟩;rw[<-fF]at qA;have hle:U.le R:=by rw[fF];exact kz Dz
 have sG:R.f b=none:=by rw[fF,Hp.aM _ aE];exact eU
 refine ag ?_;refine aJ (G8 (xs:=[.short 60,.short 0,.ng body.length]) sG qA (.inr ⟨sb,rfl,by rw[fF,Hp.bD]⟩) (by simp[kP];omega) ak (by simp[bZ,dC,cB])) ?_;rintro v1 ae ⟨h,yH⟩;refine ag ?_;refine bz (Mz sG yH (by simp[bZ,dC,bp]) (by simp[bZ,dC,cB])) ?_;refine ag ?_;refine bz (Je (kind:=2) aa hc (by simp[bZ,dC,cB])) ?_;have c1:IntKind.wrap .i64 ((size:Int)-8)=((size-8:Nat):Int):=cX;refine aH c1 ?_;refine cZ (λm I ds ae=>ds=[]/\ae=R/\∃r acc,m=r.length/\r.length<=body.length/\I 0=.int .i64 ch/\I 1=.string (B r)/\I 8=.string (B acc)/\I 9=.int .i64 ((size-8:Nat):Int)/\acc.length+9*r.length<=100000000/\acc++mw ch (size-8) r.length r=lI ch body size) body.length ?_ ?_
 ·refine⟨rfl,rfl,body,lZ 2 ch (bZ [.short 60,.short 0,.ng body.length]),rfl,Nat.le_refl _,?_,?_,?_,?_,?_,?_⟩
  ·exact au
  ·exact au
  ·exact au
  ·exact au
  ·simp[qy,bZ,dC,cB];omega
  ·simp[lI,bZ,dC]
 ·rintro m I ds ae X ⟨rfl,rfl,r,acc,rfl,AW,h0,h1,h8,h9,hal,Qx⟩ hX
  cases hr:decide (r=[])with
  |true=>
   obtain rfl:r=[]:=aV hr;have c2:¬(((0:Nat):Int)>0):=ak;refine bq h1 h8 ?_;refine al (R:=U) aG hle ⟨?_,rfl⟩;simp only[go_sem,seval,<-Qx];simp[mw]
  |false=>
   have gC:r≠[]:=aV hr;have hl:0<r.length:=Nat.pos_of_ne_zero λe=>gC (List.eq_nil_of_length_eq_zero e);have c2:(r.length:Int)>0:=aa;refine bR h1 h9 c2 ?_;have Kk:min ((size-8:Nat):Int) (r.length:Int)=((min (size-8) r.length:Nat):Int):=aa;refine SL (a:=((size-8:Nat):Int)) (b:=(r.length:Int)) au au ?_;obtain⟨k,hk⟩:∃k,k=min (size-8) r.length:=⟨_,rfl⟩;rw[Kk,<-hk];have d0:(0:Int)<=k:=aa;have d1:(k:Int)<=r.length:=aa;have d2:(0:Int)<=r.length:=aa;refine ln h0 h1 h8 d0 d1 ?_;rw[Nat.sub_zero];refine bz (Je (kind:=3) aa hc (by simp;omega)) ?_;have c3:acc.length+(lZ 3 ch (r.take k)).length<=9223372036854775807:=by rw[qy];simp;omega
   refine fA h1 d0 d1 c3 ?_;have aex:List.take (r.length-k) (r.drop k)=r.drop k:=List.take_of_length_le ak;refine hX (r.drop k).length _ _ _ _ (by simp;omega) ⟨rfl,rfl,r.drop k,acc++lZ 3 ch (r.take k),rfl,by simp;omega,?_,?_,?_,?_,?_,?_⟩ ao
   ·exact aP h0
   ·refine ag ?_;rw[aex]
   ·exact au
   ·exact aP h9
   ·rw[List.length_append,qy];simp;omega
   ·rw[<-Qx,List.append_assoc];congr 1;obtain⟨f,hf⟩:∃f,r.length=f+1:=⟨r.length-1,aa⟩;rw[hf];simp only[mw,if_neg gC]
    have e1:r.take (size-8)=r.take k:=by
     rw[hk];rcases Nat.le_total (size-8) r.length with h|h
     ·rw[Nat.min_eq_left h]
     ·rw[Nat.min_eq_right h,List.take_of_length_le h,List.take_length]
    have e2:r.drop (size-8)=r.drop k:=by
     rw[hk];rcases Nat.le_total (size-8) r.length with h|h
     ·rw[Nat.min_eq_left h]
     ·rw[Nat.min_eq_right h,List.drop_eq_nil_of_le h,List.drop_length]
    rw[e1,e2];congr 1;exact alC ch (size-8) aa _ _ _ (Nat.le_refl _) (by simp;omega)
end
section
open Go.Conc
def Hp.dp(U φ:Hp):Prop:=∀b,U.f b=none\/φ.f b=none
def Hp.bB(U φ:Hp):Hp:=⟨λb=>match U.f b with|some o=>some o|none=>φ.f b⟩
variable {U φ:Hp}{b:Nat}{o:Obj}
def Hp.iC(h:U.f b=some o):(U.bB φ).f b=some o:=by simp[Hp.bB,h]
def Hp.lC(h:U.f b=none):(U.bB φ).f b=φ.f b:=by simp[Hp.bB,h]
def Hp.aix(U φ:Hp):U.le (U.bB φ):=λ_ _ h=>Hp.iC h
def Hp.uy(d:U.dp φ):φ.le (U.bB φ):=λb o h=>by
 rcases d b with e|e
 ·rw[Hp.lC e];exact h
 ·rw[e]at h;cases h
def Hp.HE(h:(U.bB φ).f b=some o):U.f b=some o\/(U.f b=none/\φ.f b=some o):=by
 cases e:U.f b with
 |some x=>rw[Hp.iC e]at h;exact .inl h
 |none=>rw[Hp.lC e]at h;exact .inr ⟨rfl,h⟩
def Hp.apS{R:Hp}(h:R.le U)(d:U.dp φ):(R.bB φ).le (U.bB φ):=by
 intro b o hb;rcases Hp.HE hb with h1|⟨_,h1⟩
 ·exact Hp.iC (h b o h1)
 ·rcases d b with e|e
  ·rw[Hp.lC e];exact h1
  ·rw[e]at h1;cases h1
def Hp.dp.iD{R:Hp}(d:U.dp φ)(h:R.le U):R.dp φ:=by
 intro b;rcases d b with e|e
 ·left
  cases hb:R.f b with
  |none=>rfl
  |some o=>have:=h b o hb;rw[e]at this;cases this
 ·exact .inr e
variable {J:Nat->Prop}{w:World}
def cP.split(h:cP J w (U.bB φ))(d:U.dp φ):cP (λb=>J b\/(φ.f b).isSome=true) w U:=by
 refine⟨λhb=>h.heap (Hp.iC hb),λb hj=>?_,λb hj=>?_⟩
 ·rcases hj with hj|hj
  ·cases hb:U.f b with
   |none=>rfl
   |some o=>have:=h.gV b hj;rw[Hp.iC hb]at this;cases this
  ·rcases d b with e|e
   ·exact e
   ·rw[e]at hj;cases hj
 ·rcases hj with hj|hj
  ·exact h.low b hj
  ·obtain⟨o,ho⟩:=Option.isSome_iff_exists.1 hj;exact h.lt (Hp.uy d b o ho)
def cP.apX(h:cP (λb=>J b\/(φ.f b).isSome=true) w U)(hJ:∀b,J b->φ.f b=none)(A3:∀b o,φ.f b=some o->w.heap[b]? =some o):cP J w (U.bB φ)/\U.dp φ:=by
 refine⟨⟨λ{b o} hb=>?_,λb hj=>?_,λb hj=>h.low b (.inl hj)⟩,λb=>?_⟩
 ·rcases Hp.HE hb with h1|⟨_,h1⟩
  ·exact h.heap h1
  ·exact A3 b o h1
 ·rw[Hp.lC (h.gV b (.inl hj))];exact hJ b hj
 ·cases e:φ.f b with
  |none=>exact .inr rfl
  |some o=>exact .inl (h.gV b (.inr (by rw[e];rfl)))
def iv.fewer{J':Nat->Prop}{n:Nat}{e:Event}(hJ:∀b,J b->J' b)(h:iv J' n e):iv J n e:=by
 unfold iv at h|-
 cases hl:e.loc<;>rw[hl]at h<;>first|exact h|exact⟨λx=>h.1 (hJ _ x),h.2⟩
variable {P:Program}
def gQ.frame{main:Bool}{g:Goroutine}{X:Goroutine->Hp->Prop}(h:gQ P main g U X)(d:U.dp φ):
 gQ P main g (U.bB φ) λg' R=>∃ae,ae.dp φ/\R=ae.bB φ/\X g' ae:=by
 intro J w hs;have:=h _ w (hs.split d)
 cases hg:stepG P main g w<;>rw[hg]at this<;>first|exact this.elim|skip
 obtain⟨ae,h1,h2,h3,h4,h5⟩:=this
 have hJ:∀b,J b->φ.f b=none:=λb hj=>by
  have:=hs.gV b hj
  cases e:U.f b with
  |none=>rw[Hp.lC e]at this;exact this
  |some o=>rw[Hp.iC e]at this;cases this
 obtain⟨k1,k2⟩:=h1.apX hJ (λb o hb=>by rw[h2.hidden b (.inr (by rw[hb];rfl))];exact hs.heap (Hp.uy d b o hb));exact⟨_,k1,⟨λb hj=>h2.hidden b (.inl hj),h2.os,h2.tape,h2.output,h2.tI⟩,λe he=>(h3 e he).fewer λb=>.inl,h4,ae,k2,rfl,h5⟩
def Env.frame {P:Program}(E:Env P)(φ:Hp):Env P where
 main:=E.main
 st g U m T:=U.dp φ/\E.st g (U.bB φ) m T
 iD:=λ⟨d,h⟩ k=>⟨d.iD k,E.iD h (Hp.apS k d)⟩
 own:=by rintro g U m T X ⟨d,h⟩ hr hX;obtain⟨N,m',T',g',R,h1,h2,h3,ae,d',rfl,hx⟩:=E.own g _ m T _ h hr (hX.frame d);exact⟨N,m',T',g',ae,h1,⟨d',h2⟩,h3,hx⟩
variable {a:Addr}
def OK{v:Value}(h:U.cell? a=some v):(U.bB φ).cell? a=some v:=by obtain⟨c,e,z,hb,hs,hv⟩:=Ai h;simp[Hp.cell?,Hp.iC hb,hs,hv]
def PQ(hb:U.f a.block=some o):(U.bB φ).frozen? a=U.frozen? a:=by simp only[Hp.frozen?,Hp.iC hb,hb]
def an4{r:Nat}(hb:U.f r=some o):(U.bB φ).shape? r=U.shape? r:=by simp only[Hp.shape?,Hp.iC hb,hb]
def SM(hb:U.f b=some o)(g:Obj->Obj):(U.bB φ).modify b g=(U.modify b g).bB φ:=by
 simp only[Hp.modify,Hp.bB,Hp.mk.injEq]
 funext x
 by_cases e:x=b
 ·subst e;simp[hb]
 ·simp[e]
def Hn(b:Nat)(o:Obj):(U.bB φ).set b o=(U.set b o).bB φ:=by
 simp only[Hp.set,Hp.bB,Hp.mk.injEq]
 funext x
 by_cases e:x=b
 ·subst e;simp
 ·simp[e]
def anW(hb:U.f a.block=some o)(v:Value):(U.bB φ).setCell a v=(U.setCell a v).bB φ:=SM hb _
def aca(hb:U.f a.block=some o)(n:Nat):(U.bB φ).freeze a n=(U.freeze a n).bB φ:=by
 unfold Hp.freeze;split
 ·rfl
 ·exact SM hb _
def IP(d:U.dp φ)(hb:φ.f b=none):(U.set b o).dp φ:=by
 intro x;by_cases e:x=b
 ·subst e;exact .inr hb
 ·simpa[Hp.set,e]using d x
def Pa(d:U.dp φ)(hb:U.f b=some o):φ.f b=none:=by
 rcases d b with e|e
 ·rw[e]at hb;cases hb
 ·exact e
def O9(g:Obj->Obj)(d:U.dp φ):(U.modify b g).dp φ:=by
 intro x;by_cases e:x=b
 ·subst e;rcases d x with e|e
  ·exact .inl (by simp[Hp.modify,e])
  ·exact .inr e
 ·simpa[Hp.modify,e]using d x
def aqw{α:Type}{Q:α->Hp->Prop}{H:Halt->Hp->Prop}:
 ∀(s:Sem α) (U:Hp),U.dp φ->wpS P s Q H U->wpS P s (λa R=>∃ae,ae.dp φ/\R=ae.bB φ/\Q a ae) (λh R=>∃ae,ae.dp φ/\R=ae.bB φ/\H h ae) (U.bB φ):=by
 intro s
 induction s with
 |pure a=>exactλU d h=>⟨U,d,rfl,h⟩
 |load m a k ih=>exactλU d ⟨v,hv,h⟩=>⟨v,OK hv,ih v U d h⟩
 |store m a v k ih=>
  intro U d h
  have key:(∃u,U.cell? a=some u)/\U.frozen? a=false/\wpS P k Q H (U.setCell a v)->(∃u,(U.bB φ).cell? a=some u)/\(U.bB φ).frozen? a=false/\wpS P k (λa R=>∃ae,ae.dp φ/\R=ae.bB φ/\Q a ae) (λh R=>∃ae,ae.dp φ/\R=ae.bB φ/\H h ae) ((U.bB φ).setCell a v):=by rintro⟨⟨u,hu⟩,hz,h⟩;obtain⟨c,e,z,hb,_,_⟩:=Ai hu;refine⟨⟨u,OK hu⟩,by rw[PQ hb];exact hz,?_⟩;rw[anW hb];exact ih _ (O9 _ d) h
  cases v<;>first|exact h.elim|exact key h
 |new o k ih=>
  intro U d h b hb;rw[Hn]
  have hs:U.f b=none:=by
   cases e:U.f b with
   |none=>rfl
   |some x=>rw[Hp.iC e]at hb;cases hb
  exact ih b _ (IP d (by rw[Hp.lC hs]at hb;exact hb)) (h b hs)
 |shape r k ih=>
  rintro U d ⟨h1,h⟩;obtain⟨o,ho⟩:=Option.isSome_iff_exists.1 h1;refine⟨by rw[Hp.iC ho];rfl,?_⟩;rw[an4 ho];exact ih _ _ d h
 |freeze a n k ih=>
  rintro U d ⟨h1,h⟩;obtain⟨o,ho⟩:=Option.isSome_iff_exists.1 h1;refine⟨by rw[Hp.iC ho];rfl,?_⟩;rw[aca ho];refine ih _ ?_ h;unfold Hp.freeze;split
  ·exact d
  ·exact O9 _ d
 |frozen a k ih=>
  rintro U d ⟨h1,h⟩;obtain⟨o,ho⟩:=Option.isSome_iff_exists.1 h1;refine⟨by rw[Hp.iC ho];rfl,?_⟩;rw[PQ ho];exact ih _ _ d h
 |getObj r k ih=>exactλU d ⟨o,ho,hc,h⟩=>⟨o,Hp.iC ho,hc,ih _ _ d h⟩
 |setObj r o k ih=>
  rintro U d ⟨o',ho,hc,h⟩;refine⟨o',Hp.iC ho,hc,?_⟩;rw[Hn];exact ih _ (IP d (Pa d ho)) h
 |choose q k ih=>
  intro U d h;unfold wpS at h|-;split
  ·rename_i hf;rw[if_pos hf]at h;exact ih _ _ d h
  ·rename_i hf;rw[if_neg hf]at h;exactλt=>ih _ _ d (h t)
 |sys c k ih=>exactλU d h=>h.elim
 |program k ih=>exactλU d h=>ih _ _ d h
 |mark m k ih=>exactλU d h=>⟨h.1,ih _ d h.2⟩
 |halt h=>exactλU d x=>⟨U,d,rfl,x⟩
def aw.ju{E:Env P}{f:FuncId}{args:Array Value}{atA:Fin->Hp->Prop}(h:aw (E.frame φ) f args U atA)(d:U.dp φ):
 aw E f args (U.bB φ) λe R=>∃ae,ae.dp φ/\R=ae.bB φ/\atA e ae:=by
 intro cs m T hm;obtain⟨N,m',T',g',ae,h1,⟨d',h2⟩,e,fr,rfl,hf,hl,hR⟩:=h cs m T ⟨d,hm⟩;refine⟨N,m',T',_,_,h1,h2,e,fr,rfl,hf,?_,ae,d',rfl,hR⟩
 cases e with
 |returned v=>
  obtain⟨a1,a2,a3,fn,a4,a5⟩:=hl;exact⟨a1,a2,a3,fn,a4,M3 (λv' R ⟨fZ,_,e1,e2,e3⟩=>⟨e2,by rw[e1,e3]⟩) (λ_ _ ⟨_,_,_,x⟩=>x) _ _ (aqw _ _ d' a5)⟩
 |panicked ch=>exact hl
noncomputable def Hp.only(U:Hp)(D:Nat->Prop):Hp:=⟨λb=>open Classical in if D b then U.f b else none⟩
def Hp.ak9(U:Hp)(D:Nat->Prop):(U.only D).le U:=λb o h=>by
 simp only[Hp.only]at h;split at h
 ·exact h
 ·cases h
def Hp.Ej{D:Nat->Prop}(h:U.f b=some o)(hb:D b):(U.only D).f b=some o:=by simp[Hp.only,hb,h]
def Hp.ak8(U:Hp)(D:Nat->Prop):(U.only D).dp (U.only λb=>¬D b):=λb=>by
 by_cases h:D b
 ·right;simp[Hp.only,h]
 ·left;simp[Hp.only,h]
def Hp.alb(U:Hp)(D:Nat->Prop):(U.only D).bB (U.only λb=>¬D b)=U:=by
 show Hp.mk _=Hp.mk _;congr 1
 funext b
 by_cases h:D b
 ·simp only[Hp.only,h,if_true,not_true,if_false]
  cases U.f b<;>rfl
 ·simp[Hp.only,h]
end
end Go.Qw
