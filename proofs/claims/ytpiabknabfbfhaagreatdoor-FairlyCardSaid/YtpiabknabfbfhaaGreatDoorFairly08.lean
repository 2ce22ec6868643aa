/- Part 8. -/
import Derived.Lib.UnsafeStr
import Derived.Test.YtpiabknabfbfhaaGreatDoorFairly07
set_option linter.all false
set_option maxRecDepth 100000
set_option maxHeartbeats 8000000
namespace Go.Qw
open Go Go.Proofs.Tryz
section
open Go.Proofs
def Om(a b:List UInt8):dB (a++b)=dB a++dB b:=by simp[dB]
def uY(a:List UInt8):(dB a).length=a.length:=by simp[dB]
def Yz(a:List UInt8):(dB a).all de=true:=by simp[dB,de]
variable {σ:Hp}{b:Nat}
def Hp.set_comm{a:Nat}{x y:Obj}(h:a≠b):(σ.set a x).set b y=(σ.set b y).set a x:=
 Hp.ext' λz=>by
  simp only[Hp.set];by_cases h1:z=b
  ·subst h1;simp[Ne.symm h]
  ·simp[h1]
def ES(z:Value)(n:Nat):Builtin.zeroCells #[z] n=(List.replicate n z).toArray:=by
 apply Array.ext';simp only[Builtin.zeroCells,Array.toList_map,Array.toList_range];apply List.ext_getElem?;intro i;simp only[List.getElem?_map,List.getElem?_replicate];by_cases h:i<n
 ·rw[List.getElem?_eq_getElem (aZ h)];simp[h,Nat.mod_one]
 ·rw[List.getElem?_eq_none (aZ h)];simp[h]
variable {E:Env prog}{ρ:av}{ds:List Deferred}{τ:Hp}{dst:Option Tmp}{ty:TypeId}{pos:String}{af:Array Edge}{g:Option (Nat×Bool)}{nx:av->List Deferred->Hp->Prop}{pn:List PanicEntry->Hp->Prop}{l s:List UInt8}
def Og{x y:Operand}{u:TypeId}{sl:Value}(hb:τ.f b=none)(hu:Bh prog u=true)(hB:il τ b l σ)(hs:σ.f b=some (.cells #[pV b,sl] 155 (0,0)))(hx:ak ρ x=sl)(hn:sN (ak ρ y)=some s.length)(hf:iL σ 1 s.length (ak ρ y)=some (dB s).toArray)(fM:l.length+s.length<=1000000000000)(h:∀v' ae HT,de v'=true->ae.f b=some (.cells #[pV b,sl] 155 (0,0))->HT.le (ae.set b (.cells #[pV b,v'] 155 (0,0)))->il τ b (l++s) HT->nx (aB ρ dst v') ds ae):
 aT E ⟨dst,.call ⟨.builtin .append,#[x,y],#[67,u]⟩,ty,pos,af,g⟩ ρ ds σ nx pn:=by
 have kr:vg.z=1:=rfl;have Ci:vg.bytes=1:=rfl
 cases hB with
 |new hl jX=>
  subst jX;rw[Hp.bD]at hs;simp at hs
 |old hl jX=>
  subst hl;subst jX;rw[Hp.bD]at hs;simp at hs;subst hs;refine rW vg (base:=none) (l:=0) (c:=0) (n:=s.length) (old:=#[]) (new:=(dB s).toArray) hu hx hn rfl (by rw[kr];exact hf) (by rw[Ci];simp at fM;omega) (by simp at fM;omega) ?_ ?_
  ·intro hc;have:s=[]:=List.eq_nil_of_length_eq_zero aa;subst this;refine⟨_,rfl,?_⟩;refine h _ _ _ rfl aY ao (.old rfl ?_);simp only[Hp.set_set,List.length_nil,Nat.zero_add]
  ·intro hc bb cap eS jJ;have aE:bb≠b:=by intro e;subst e;rw[Hp.bD]at eS;cases eS
   have CP:τ.f bb=none:=by rw[Hp.aO _ aE]at eS;exact eS
   refine h _ _ _ rfl ?_ ao (.buf bb cap (List.replicate (cap-s.length) (.int .u8 0)) CP aE (aZ jJ) (by simp;omega) ?_)
   ·rw[Hp.aO _ (λe=>aE e.symm),Hp.bD]
   ·have ez:vg.zero= #[.int .u8 0]:=rfl;rw[ez,ES,Hp.set_comm aE,Hp.set_set]
    have e1: #[]++(dB s).toArray++(List.replicate (cap-(0+s.length)) (Value.int .u8 0)).toArray=(dB s++List.replicate (cap-s.length) (Value.int .u8 0)).toArray:=by apply Array.ext';simp
    rw[e1];simp only[Nat.zero_add,List.nil_append];rfl
 |buf bb cap rest CP aE hc hr jX=>
  subst jX;rw[Hp.aO _ (λe=>aE e.symm),Hp.bD]at hs;simp at hs;subst hs;have kN:((τ.set b (.cells #[pV b,.slice (some ⟨bb,0,none⟩) l.length cap] 155 (0,0))).set bb (.cells (dB l++rest).toArray 5 (0,0))).f bb=some (.cells (dB l++rest).toArray 5 (0,0)):=aY
  have hold:iL ((τ.set b (.cells #[pV b,.slice (some ⟨bb,0,none⟩) l.length cap] 155 (0,0))).set bb (.cells (dB l++rest).toArray 5 (0,0))) vg.z l.length (.slice (some ⟨bb,0,none⟩) l.length cap)=some (dB l).toArray:=by rw[kr];simp only[iL,cellsOf,kN];rw[if_pos ⟨trivial,by simp[uY]⟩];congr 1;apply Array.ext';simp[List.extract_eq_take_drop,uY]
  refine rW vg (base:=some ⟨bb,0,none⟩) (l:=l.length) (c:=cap) (n:=s.length) (old:=(dB l).toArray) (new:=(dB s).toArray) hu hx hn hold (by rw[kr];exact hf) (by rw[Ci];omega) aa ?_ ?_
  ·intro xf;refine⟨_,⟨_,_,kN,rfl,?_,?_,rfl⟩,?_⟩
   ·rw[kr];simp[uY];omega
   ·have:=Yz s;simpa using this
   ·refine h _ _ _ rfl ?_ ao (.buf bb cap (rest.drop s.length) CP aE (aZ xf) (by simp;omega) ?_)
    ·rw[Hp.aO _ (λe=>aE e.symm),Hp.aO _ (λe=>aE e.symm),Hp.bD]
    ·rw[Hp.set_set,Hp.set_comm aE,Hp.set_set]
     have e1:(dB l++rest).toArray.extract 0 (0+l.length*vg.z)++(dB s).toArray++(dB l++rest).toArray.extract (0+l.length*vg.z+(dB s).toArray.size) (dB l++rest).toArray.size=(dB (l++s)++rest.drop s.length).toArray:=by rw[kr];apply Array.ext';simp only[Array.toList_append,Array.toList_extract,List.extract_eq_take_drop,List.size_toArray,Nat.zero_add,Nat.mul_one,Nat.sub_zero,List.drop_zero,Om,uY,List.append_assoc];rw[List.take_append_of_le_length (by rw[uY];omega),List.take_of_length_le (by rw[uY];omega)];congr 2;rw[List.drop_append,uY,List.drop_eq_nil_of_le (by rw[uY];omega)];simp[uY];rw[List.take_of_length_le (by simp;omega)]
     rw[e1];simp only[List.length_append]
  ·intro fN b2 qY eQ adV;have xm:b2≠bb:=by intro e;subst e;rw[Hp.bD]at eQ;cases eQ
   have Gh:b2≠b:=by intro e;subst e;rw[Hp.aO _ (λe=>aE e.symm),Hp.bD]at eQ;cases eQ
   have ht2:τ.f b2=none:=by rw[Hp.aO _ xm,Hp.aO _ Gh]at eQ;exact eQ
   refine h _ _ ((τ.set b (.cells #[pV b,.slice (some ⟨b2,0,none⟩) (l++s).length qY] 155 (0,0))).set b2 (.cells (dB (l++s)++List.replicate (qY-(l.length+s.length)) (Value.int .u8 0)).toArray 5 (0,0))) rfl ?_ ?_
    (.buf b2 qY _ ht2 Gh (aZ adV) (by simp;omega) rfl)
   ·rw[Hp.aO _ (λe=>Gh e.symm),Hp.aO _ (λe=>aE e.symm),Hp.bD]
   ·have ez:vg.zero= #[.int .u8 0]:=rfl
    have e1:(dB l).toArray++(dB s).toArray++(List.replicate (qY-(l.length+s.length)) (Value.int .u8 0)).toArray=(dB (l++s)++List.replicate (qY-(l.length+s.length)) (Value.int .u8 0)).toArray:=by apply Array.ext';simp[Om]
    rw[ez,ES,e1,Hp.set_comm Gh,Hp.set_comm aE,Hp.set_set,List.length_append];rw[Hp.set_comm (λe=>xm e.symm)];exact GO (by rw[Hp.aO _ (λe=>xm e.symm),Hp.aO _ aE];exact CP)
def OS(hB:il τ b l σ):
 ay E 117 #[pV b] σ λe' ae=>e'=.returned (.tuple #[])/\il τ b l ae/\∃sl,ae.f b=some (.cells #[pV b,sl] 155 (0,0)):=by
 cases hB with
 |new hl hs=>
  subst hs;refine(Z7 aY).mono λe' ae ⟨h1,h2⟩=>⟨h1,?_,?_⟩
  ·rw[h2,Hp.set_set];exact .old hl rfl
  ·rw[h2];exact⟨_,aY⟩
 |old hl hs=>
  subst hs;refine(OT aY).mono λe' ae ⟨h1,h2⟩=>⟨h1,?_,?_⟩
  ·rw[h2];exact .old hl rfl
  ·rw[h2];exact⟨_,aY⟩
 |buf bb cap rest hn aE hc hr hs=>
  subst hs
  have hf:((τ.set b (.cells #[pV b,.slice (some ⟨bb,0,none⟩) l.length cap] 155 (0,0))).set bb (.cells (dB l++rest).toArray 5 (0,0))).f b=some (.cells #[pV b,.slice (some ⟨bb,0,none⟩) l.length cap] 155 (0,0)):=by rw[Hp.aO _ (λe=>aE e.symm),Hp.bD]
  refine(OT hf).mono λe' ae ⟨h1,h2⟩=>⟨h1,?_,?_⟩
  ·rw[h2];exact .buf bb cap rest hn aE hc hr rfl
  ·rw[h2];exact⟨_,hf⟩
def Ve(hb:τ.f b=none)(hB:il τ b l σ)(fM:l.length+s.length<=1000000000000):
 ay E 66 #[pV b,.string (B s)] σ λe' ae=>e'=.returned (.tuple #[.int .i64 s.length,.nilIface])/\il τ b (l++s) ae:=by
 refine aW func66 ntmps66 results66 λQ aC an aA=>?_;refine ag ?_;refine dC PQ (OS hB) (λv qV ⟨h1,qo,sl,hs⟩=>?_) (λch ae ⟨h,_⟩=>by cases h);refine aG hs ?_;refine Og hb ajH qo hs au (s:=s) (by simp only[go_sem,seval,sN]) ?_ fM (λv' ae HT h0 h1 h2 h3=>?_)
 ·simp only[go_sem,seval,iL];rw[Na,On];simp
 ·refine bt h1 h0 ?_;refine an iT h2 ⟨?_,h3⟩;exact au
variable {n:Nat}{o:Obj}
def il.frame(h:il τ b l σ)(hn:σ.f n=none):il (τ.set n o) b l (σ.set n o):=by
 cases h with
 |new hl hs=>
  subst hs;have aE:b≠n:=bp hn aY;exact .new hl (Hp.set_comm aE)
 |old hl hs=>
  subst hs;have aE:b≠n:=bp hn aY;exact .old hl (Hp.set_comm aE)
 |buf bb cap rest h1 h2 h3 h4 hs=>
  subst hs;have n2:bb≠n:=bp hn aY;have n1:b≠n:=λe=>by subst e;rw[Hp.aO _ (λe=>h2 e.symm),Hp.bD]at hn;cases hn
  refine .buf bb cap rest (by rw[Hp.aO _ n2];exact h1) h2 h3 h4 ?_;rw[Hp.set_comm n2,Hp.set_comm n1]
def DM{cC:Hp}(h:τ.le cC)(b:Nat)(o:Obj):(τ.set b o).le (cC.set b o):=λx p hx=>by
 by_cases e:x=b
 ·subst e;rw[Hp.bD]at hx|-;exact hx
 ·rw[Hp.aO _ e]at hx|-;exact h x p hx
def jZ(hn:τ.f n=none):τ.le (τ.set n o):=λx p hx=>by have:x≠n:=bp hx hn;rw[Hp.aO _ this];exact hx
def il.forget(h:il (τ.set n o) b l σ)(hn:τ.f n=none):∃ae,ae.le σ/\il τ b l ae:=by
 have hle:=jZ (o:=o) hn
 cases h with
 |new hl hs=>subst hs;exact⟨_,DM hle _ _,.new hl rfl⟩
 |old hl hs=>subst hs;exact⟨_,DM hle _ _,.old hl rfl⟩
 |buf bb cap rest h1 h2 h3 h4 hs=>
  subst hs;have n2:bb≠n:=bp h1 aY;exact⟨_,DM (DM hle _ _) _ _,.buf bb cap rest (by rw[Hp.aO _ n2]at h1;exact h1) h2 h3 h4 rfl⟩
def il.none(h:il τ b l σ)(hn:σ.f n=none):τ.f n=none/\n≠b:=by
 cases h with
 |new hl hs=>
  subst hs;have aE:n≠b:=bp hn aY;rw[Hp.aO _ aE]at hn;exact⟨hn,aE⟩
 |old hl hs=>
  subst hs;have aE:n≠b:=bp hn aY;rw[Hp.aO _ aE]at hn;exact⟨hn,aE⟩
 |buf bb cap rest h1 h2 h3 h4 hs=>
  subst hs;have n2:n≠bb:=bp hn aY;rw[Hp.aO _ n2]at hn;have aE:n≠b:=bp hn aY;rw[Hp.aO _ aE]at hn;exact⟨hn,aE⟩
def Vd{y:UInt8}(hb:τ.f b=none)(hB:il τ b l σ)(fM:l.length+1<=1000000000000):
 ay E 67 #[pV b,.int .u8 y.toNat] σ λe' ae=>e'=.returned .nilIface/\il τ b (l++[y]) ae:=by
 refine aW func67 ntmps67 results67 λQ aC an aA=>?_;refine ag ?_;refine dC PQ (OS hB) (λv qV ⟨h1,qo,sl,hs⟩=>?_) (λch ae ⟨h,_⟩=>by cases h);refine aG hs ?_;refineλnb vz=>?_;obtain⟨Dh,Ro⟩:=qo.none vz;have yC:=qo.frame (o:=.cells #[.int .u8 y.toNat] 5 (0,0)) vz;have iw:(qV.set nb (.cells #[.int .u8 y.toNat] 5 (0,0))).f b=some (.cells #[pV b,sl] 155 (0,0)):=by rw[Hp.aO _ (λe=>Ro e.symm)];exact hs
 refine ag ?_
 dsimp only
 refine Og (τ:=τ.set nb (.cells #[.int .u8 y.toNat] 5 (0,0))) (l:=l) (s:=[y]) (by rw[Hp.aO _ (λe=>Ro e.symm)];exact hb) ah yC iw au au ?_ (aZ fM) (λv' ae HT h0 h1 h2 h3=>?_)
 ·refine ag ?_;simp[iL,cellsOf,Hp.set,dB]
 ·obtain⟨HU,g1,g2⟩:=h3.forget Dh;refine bt h1 h0 ?_;exact an aI (Hp.le_trans g1 h2) ⟨rfl,g2⟩
variable {x:Array Operand}{a:Array TypeId}
def ag5:cT (.call ⟨.builtin .unsafeSliceData,x,a⟩)=false:=bl
def ag4:cT (.call ⟨.builtin .unsafeString,x,a⟩)=false:=bl
attribute [go_sem] ag5 ag4
variable {P:Program}{E:Env P}{x:Operand}
def an5{cg:Array TypeId}{a:Addr}{c:Nat}(hx:ak ρ x=.slice (some a) n c)(hc:c≠0)(h:nx (aB ρ dst (.pointer (some a))) ds σ):aT E ⟨dst,.call ⟨.builtin .unsafeSliceData,#[x],cg⟩,ty,pos,af,g⟩ ρ ds σ nx pn:=by
 show wpOp E _ ρ ds σ nx pn;unfold wpOp;simp only[execOp,resolve,aH,bq,invoke];show wpS P (do pure (Next.value (<-Builtin.unsafeSliceData_ cg ty (#[x].map (ak ρ)))):Sem Next) _ _ _;rw[lf];have e1: #[x].map (ak ρ)= #[.slice (some a) n c]:=by simp[hx]
 rw[e1];obtain⟨k,rfl⟩:∃k,c=k+1:=⟨c-1,aa⟩;exact h
def aiE{Q:ByteArray->Hp->Prop}{H:Halt->Hp->Prop}:∀(l:List UInt8) (off:Nat) (acc:ByteArray),(∀j x,l[j]? =some x->σ.cell? ⟨b,off+j,none⟩=some (.int .u8 x.toNat))->Q ⟨acc.data++l.toArray⟩ σ->wpS P (loadBytes ⟨b,off,none⟩ acc l.length) Q H σ:=by
 intro l
 induction l with
 |nil=>
  intro off acc _ h;have:(⟨acc.data++([]:List UInt8).toArray⟩:ByteArray)=acc:=al;rw[this]at h;exact h
 |cons x l ih=>
  intro off acc hl h;have h0:=hl 0 x rfl;simp only[List.length_cons,loadBytes,aH];refine⟨_,h0,?_⟩;have ha:(⟨b,off,none⟩:Addr).add 1=⟨b,off+1,none⟩:=by unfold Addr.add;simp
  simp only[ha];refine ih (off+1) _ (λj y hy=>?_) ?_
  ·have:=hl (j+1) y (aZ hy);rw[show off+1+j=off+(j+1)by omega];exact this
  ·have e:(acc.push ((x.toNat:Int).toNat).toUInt8).data++l.toArray=acc.data++(x::l).toArray:=by have hx:((x.toNat:Int).toNat).toUInt8=x:=al;rw[hx];simp[ByteArray.push]
   rw[e];exact h
def aoJ{y:Operand}{pt it el:TypeId}{bb:Nat}{rest:List Value}(hpt:P.underlying pt=some (.pointer el))(QU:P.cellsOf el=1)(hx:ak ρ x=pV bb)(hy:ak ρ y=.int .i64 l.length)(hl:l≠[])(fM:l.length<=1000000000000)(hb:σ.f bb=some (.cells (dB l++rest).toArray el (0,0)))(h:∀ae,(∀b,b≠bb->ae.f b=σ.f b)->nx (aB ρ dst (.string (B l))) ds ae):aT E ⟨dst,.call ⟨.builtin .unsafeString,#[x,y],#[pt,it]⟩,ty,pos,af,g⟩ ρ ds σ nx pn:=by
 show wpOp E _ ρ ds σ nx pn;unfold wpOp
 have AR:(l.length:Int)≠0:=by have:l.length≠0:=λe=>hl (List.eq_nil_of_length_eq_zero e);omega
 simp only[execOp,resolve,aH,bq,invoke];show wpS P (do pure (Next.value (<-Builtin.unsafeString_ #[pt,it] ty (#[x,y].map (ak ρ)))):Sem Next) _ _ _;rw[lf];have e1: #[x,y].map (ak ρ)= #[pV bb,.int .i64 l.length]:=by simp[hx,hy]
 rw[e1]
 show wpS P (do
  if(l.length:Int)<0 then runtimePanic (.error "unsafe.String: len out of range")
  if(l.length:Int)>IntKind.i64.max then unsupported (.unsafePointer "String: a length above the largest int")
  if(l.length:Int)=0 then pure (.string .empty)
  else if<-variablesAt ⟨bb,0,none⟩ (<-elemOf pt) (l.length:Int).toNat then do
   let s<-loadBytes ⟨bb,0,none⟩ .empty (l.length:Int).toNat
   freeze ⟨bb,0,none⟩ (l.length:Int).toNat
   pure (.string s)
  else unsupported (.unsafePointer "String: not so many bytes at ptr"):Sem Value) _ _ _
 rw[if_neg aa,if_neg (by rw[show IntKind.i64.max=9223372036854775807 from rfl];omega),if_neg AR];simp only[aH,bq,elemOf,dZ,hpt,variablesAt,zK,zL];have xo:σ.shape? bb=some (el,(dB l++rest).length):=by simp[Hp.shape?,hb]
 rw[xo];have hlen:(dB l++rest).length=l.length+rest.length:=by simp[dB]
 refine⟨by rw[hb];rfl,?_⟩;show wpS P (if liesAt P P.depth el ((dB l++rest).length/P.cellsOf el) 0 el (l.length:Int).toNat=true then _ else _) _ _ _
 have Rc:liesAt P P.depth el ((dB l++rest).length/P.cellsOf el) 0 el (l.length:Int).toNat=true:=by rw[QU,Nat.div_one];exact Go.Lib.liesAt_bytes QU _ _ (by rw[hlen];simp)
 rw[if_pos Rc];rw[aH];have KA:(l.length:Int).toNat=l.length:=al;rw[KA];refine aiE l 0 .empty (λj x hj=>?_) ?_
 ·have tI:j<l.length:=(List.getElem?_eq_some_iff.1 hj).1
  have h1:(dB l++rest)[j]? =some (.int .u8 x.toNat):=by rw[List.getElem?_append_left (by simpa[dB]using tI)];simp[dB,hj]
  simp[Hp.cell?,hb,h1]
 ·have hB:(⟨ByteArray.empty.data++l.toArray⟩:ByteArray)=B l:=by simp[B]
  rw[hB,aH,Va];refine⟨by simp[hb],h _ λb aE=>?_⟩;unfold Hp.freeze;split
  ·rfl
  ·simp[Hp.modify,aE]
def apx:∃el,prog.underlying 240=some (.pointer el)/\el=5/\prog.cellsOf el=1:=⟨5,underlying240,rfl,ah⟩
variable {E:Env prog}
def Mr(hb:τ.f b=none)(hB:il τ b l σ)(hl:l≠[])(fM:l.length<=1000000000000):
 ay E 68 #[pV b] σ λe' ae=>e'=.returned (.string (B l))/\ae=τ:=by
 cases hB with
 |new h _=>exact absurd h hl
 |old h _=>exact absurd h hl
 |buf bb cap rest h1 h2 h3 h4 hs=>
  have hc:cap≠0:=λe=>hl (List.eq_nil_of_length_eq_zero aa);have hf:σ.f b=some (.cells #[pV b,.slice (some ⟨bb,0,none⟩) l.length cap] 155 (0,0)):=by rw[hs,Hp.aO _ (λe=>h2 e.symm),Hp.bD]
  have eS:σ.f bb=some (.cells (dB l++rest).toArray 5 (0,0)):=by rw[hs,Hp.bD]
  have hle:∀ae:Hp,(∀x,x≠bb->ae.f x=σ.f x)->τ.le ae:=λae hh x o hx=>by have n1:x≠bb:=bp hx h1;have n2:x≠b:=bp hx hb;rw[hh x n1,hs,Hp.aO _ n1,Hp.aO _ n2];exact hx
  clear hs;refine aW func68 ntmps68 results68 λQ aC an aA=>?_;refine ag ?_;refine xU [0,1,2,3,5,6,7,8,9,4,10,11] (λ_ _ _=>False) ah ah (λ_ _ _ _ h=>h.elim) ?_;refine aG hf ?_;refine an5 (a:=⟨bb,0,none⟩) (n:=l.length) (c:=cap) au hc ⟨?_,?_⟩
  ·(repeat(first|exact js|(apply jr;(focus decide+kernel))))
   refine kS rfl (aK hf) ?_
   (repeat(first|exact js|(apply jr;(focus decide+kernel))))
  refine ag ?_;obtain⟨el,u1,rfl,u2⟩:=apx;refine aoJ (bb:=bb) (l:=l) (rest:=rest) u1 u2 au au hl fM eS λae hh=>⟨by(repeat(first|exact js|(apply jr;(focus decide+kernel)))),?_⟩;refine ag ?_;exact an aI (hle ae hh) ⟨au,rfl⟩
def aw(w n:Nat):List UInt8:=(List.range w).map λi=>(n/256^(w-1-i)).toUInt8
def bV(w n:Nat):(aw w n).length=w:=by simp[aw]
def Xc{w i:Nat}(h:i<w):(aw w n)[i]? =some (n/256^(w-1-i)).toUInt8:=by simp[aw,h]
def Yy{k:Nat}(hk:k<=7)(hn:n<9223372036854775808):IntKind.wrap .u8 (xQ .i64 (n:Int) ((8*k:Nat):Int))=(((n/256^k).toUInt8).toNat:Int):=by
 have e0:IntKind.i64.bits=64:=rfl;unfold xQ;rw[e0,Int.toNat_natCast,Nat.min_eq_left aa]
 have e1:(2:Int)^(8*k)=((256^k:Nat):Int):=by rw[show(256:Nat)=2^8 by rfl,<-Nat.pow_mul];simp
 rw[e1,Int.fdiv_eq_ediv_of_nonneg _ (Int.natCast_nonneg _),<-Int.natCast_ediv,IntKind.wrap_u8];have:(n/256^k).toUInt8.toNat=(n/256^k) % 256:=al;rw[this];omega
def Bm{w:Nat}(hb:τ.f b=none)(hB:il τ b l σ)(hw:w<=8)(hn:n<9223372036854775808)(fM:l.length+8<=1000000000):
 ay E 116 #[pV b,.int .i64 w,.int .i64 n] σ λe' ae=>e'=.returned (pV b)/\il τ b (l++aw w n) ae:=by
 refine aW func116 ntmps116 results116 λQ aC an aA=>?_;refine ag ?_;refine dh (λm ρ ds σ=>ds=[]/\ρ 0=pV b/\ρ 2=.int .i64 n/\ρ 7=.int .i64 ((m:Int)-1)/\∃i,i+m=w/\il τ b (l++(aw w n).take i) σ) w ?_ ?_
 ·have c1:IntKind.wrap .i64 ((w:Int)-1)=(w:Int)-1:=wrap64 aa aa;refine aG c1 ?_;exact⟨0,aa,aZ hB⟩
 ·rintro m ρ ds σ X ⟨rfl,h0,h2,h7,i,hi,hB⟩ hX
  cases m with
  |zero=>
   have c1:¬((0:Int)<=((0:Nat):Int)-1):=aa;refine bt h0 h7 ?_;refine an aI ao ⟨au,?_⟩;rw[List.take_of_length_le (by rw[bV];omega)]at hB;exact hB
  |succ k=>
   have c1:(0:Int)<=((k+1:Nat):Int)-1:=aa;have c2:IntKind.wrap .i64 (8*(((k+1:Nat):Int)-1))=((8*k:Nat):Int):=cI;have c3:(0:Int)<=((8*k:Nat):Int):=aa;have c4:=Yy (n:=n) (k:=k) aa hn;refine bt h7 c1 ?_;refine bG 9 ?_;refine BC h0 h2 h7 c2 c3 c4 ?_;refine dC acH (Vd hb hB ?_) ?_ ?_
   ·simp[bV];omega
   ·rintro v ae ⟨h,oG⟩;refine fO ?_;have c5:IntKind.wrap .i64 (((k+1:Nat):Int)-1-1)=(k:Int)-1:=cI;refine bt h7 c5 ?_;refine hX k _ _ _ _ aa ⟨rfl,?_,?_,?_,i+1,aa,?_⟩ ao
    ·exact aK h0
    ·exact aK h2
    ·exact au
    ·have e:(aw w n).take (i+1)=(aw w n).take i++[(n/256^k).toUInt8]:=by rw[List.take_add_one,Xc aa,show w-1-i=k by omega];rfl
     rw[e,<-List.append_assoc];exact oG
   ·rintro ch ae ⟨h,_⟩;cases h
inductive Arg
 |Bi (n:Nat)
 |short (n:Nat)
 |long (n:Nat)
 |mW (n:Nat)
 |text (s:List UInt8)
 |flag (b:Bool)
def oy:Arg->Value
 | .Bi n=>.iface 157 (.int .i64 n)
 | .short n=>.iface 158 (.int .i64 n)
 | .long n=>.iface 159 (.int .i64 n)
 | .mW n=>.iface 237 (.int .i64 n)
 | .text s=>.iface 238 (.string (B s))
 | .flag b=>.iface 239 (.bool b)
def ep:Arg->List UInt8
 | .Bi n=>aw 1 n
 | .short n=>aw 2 n
 | .long n=>aw 4 n
 | .mW n=>aw 8 n
 | .text s=>aw 1 s.length++s
 | .flag b=>aw 1 (if b then 1 else 0)
def kH:Arg->Prop
 | .Bi n| .short n| .long n| .mW n=>n<9223372036854775808
 |_=>True
def cW(l:List Arg):List UInt8:=l.flatMap ep
def XV{x:Nat}(h:il τ b l σ)(hb:τ.f b=none)(hx:τ.f x=some o):σ.f x=some o:=by
 have aE:x≠b:=bp hx hb
 cases h with
 |new _ hs=>rw[hs,Hp.aO _ aE];exact hx
 |old _ hs=>rw[hs,Hp.aO _ aE];exact hx
 |buf bb _ _ h1 _ _ _ hs=>
  have h2:x≠bb:=bp hx h1;rw[hs,Hp.aO _ h2,Hp.aO _ aE];exact hx
def zN(τ:Hp)(xs:List Arg)(v:Value):Prop:=
 (xs=[]/\v=.slice none 0 0)\/∃sb,v=.slice (some ⟨sb,0,none⟩) xs.length xs.length/\τ.f sb=some (.cells (xs.map oy).toArray 20 (0,0))
variable {xs:List Arg}{v:Value}
def G6(hb:τ.f b=none)(hB:il τ b l σ)(hv:zN τ xs v)(fV:∀a∈xs,kH a)(hn:xs.length<=1000)(fM:l.length+(cW xs).length<=900000000):
 ay E 65 #[pV b,v] σ λe' ae=>e'=.returned (.tuple #[])/\il τ b (l++cW xs) ae:=by
 refine aW func65 ntmps65 results65 λQ aC an aA=>?_
 have hlen:∃bs c,v=.slice bs xs.length c:=by
  rcases hv with⟨rfl,rfl⟩|⟨sb,rfl,_⟩
  ·exact⟨_,_,rfl⟩
  ·exact⟨_,_,rfl⟩
 obtain⟨bs,c,RG⟩:=hlen;refine aG RG ?_;refine dh (λm ρ ds σ=>ds=[]/\∃i,i+m=xs.length/\ρ 0=pV b/\ρ 13=v/\ρ 14=.int .i64 xs.length/\ρ 15=.int .i64 i/\il τ b (l++cW (xs.take i)) σ) xs.length ?_ ?_
 ·refine⟨rfl,0,aa,?_,?_,?_,?_,?_⟩
  ·exact au
  ·exact aK RG
  ·exact au
  ·exact au
  ·simpa[cW]using hB
 ·rintro m ρ ds σ X ⟨rfl,i,hi,h0,lW,lX,ky,hB⟩ hX;rcases Nat.lt_or_ge i xs.length with bj|sA
  ·have c1:(i:Int)<xs.length:=aa;rcases hv with⟨rfl,rfl⟩|⟨sb,rfl,mU⟩
   ·simp at bj
   have tR:=XV hB hb mU;have c2:(0:Int)<=i:=aa;obtain⟨a,ha⟩:∃a,xs[i]? =some a:=⟨_,List.getElem?_eq_getElem bj⟩;have kN:(xs.map oy)[i]? =some (oy a):=by simp[ha]
   have vD:cW (xs.take (i+1))=cW (xs.take i)++ep a:=by rw[List.take_add_one,ha];simp[cW]
   have hlen:(cW (xs.take i)).length+(ep a).length<=(cW xs).length:=by
    have:cW xs=cW (xs.take (i+1))++cW (xs.drop (i+1)):=by simp only[cW];rw[<-List.flatMap_append,List.take_append_drop]
    rw[this,vD];simp
   have c5:IntKind.wrap .i64 ((i:Int)+1)=((i+1:Nat):Int):=cI;have Gk:=fV a (List.mem_of_getElem? ha)
   have fin:∀aD ae,aD 0=pV b->aD 13=.slice (some ⟨sb,0,none⟩) xs.length xs.length->aD 14=.int .i64 xs.length->aD 15=.int .i64 ((i+1:Nat):Int)->il τ b (l++cW (xs.take i)++ep a) ae->X aD [] ae:=by intro aD ae k0 k13 k14 k15 kB;refine hX (m-1) _ _ _ _ aa ⟨rfl,i+1,aa,k0,k13,k14,k15,?_⟩ ao;rw[vD,<-List.append_assoc];exact kB
   cases a with
   |Bi n=>
    simp only[oy]at kN;refine pT h0 lW lX ky c1 c2 tR kN ?_;refine dC Av (Bm (w:=1) hb hB aa Gk (by simp at hlen|-;omega)) ?_ ?_
    ·rintro v ae ⟨h,oG⟩;refine bt ky c5 ?_;exact fin _ _ (aK h0) (aK lW) (aK lX) au oG
    ·rintro ch ae ⟨h,_⟩;cases h
   |short n=>
    simp only[oy]at kN;refine pT h0 lW lX ky c1 c2 tR kN ?_;refine dC Av (Bm (w:=2) hb hB aa Gk (by simp at hlen|-;omega)) ?_ ?_
    ·rintro v ae ⟨h,oG⟩;refine bt ky c5 ?_;exact fin _ _ (aK h0) (aK lW) (aK lX) au oG
    ·rintro ch ae ⟨h,_⟩;cases h
   |long n=>
    simp only[oy]at kN;refine pT h0 lW lX ky c1 c2 tR kN ?_;refine dC Av (Bm (w:=4) hb hB aa Gk (by simp at hlen|-;omega)) ?_ ?_
    ·rintro v ae ⟨h,oG⟩;refine bt ky c5 ?_;exact fin _ _ (aK h0) (aK lW) (aK lX) au oG
    ·rintro ch ae ⟨h,_⟩;cases h
   |mW n=>
    simp only[oy]at kN;refine pT h0 lW lX ky c1 c2 tR kN ?_;refine dC Av (Bm (w:=8) hb hB aa Gk (by simp at hlen|-;omega)) ?_ ?_
    ·rintro v ae ⟨h,oG⟩;refine bt ky c5 ?_;exact fin _ _ (aK h0) (aK lW) (aK lX) au oG
    ·rintro ch ae ⟨h,_⟩;cases h
   |text t=>
    simp only[oy]at kN
    have ht:t.length<=900000000:=by
     have:(ep (.text t)).length=1+t.length:=by simp[ep,bV]
     omega
    have gR:(aw 1 t.length).length=1:=bV _ _;have ic:(ep (.text t)).length=1+t.length:=by simp[ep,bV]
    refine pT h0 lW lX ky c1 c2 tR kN ?_;refine dC Av (Bm (w:=1) hb hB aa aa (by simp at hlen|-;omega)) ?_ ?_
    ·rintro v ae ⟨h,oG⟩
     cases h
     refine ag ?_;refine dC acG (Ve hb oG (by simp at hlen|-;omega)) ?_ ?_
     ·rintro v fZ ⟨h,acW⟩;refine bt ky c5 ?_;refine fin _ _ (aK h0) (aK lW) (aK lX) au ?_;simp only[ep];rw[<-List.append_assoc];exact acW
     ·rintro ch ae ⟨h,_⟩;cases h
    ·rintro ch ae ⟨h,_⟩;cases h
   |flag f=>
    simp only[oy]at kN
    cases f
    all_goals
     refine pT h0 lW lX ky c1 c2 tR kN ?_;refine dC Av (Bm (w:=1) hb hB aa ai (by simp at hlen|-;omega)) ?_ ?_
     ·rintro v ae ⟨h,oG⟩;refine bt ky c5 ?_;exact fin _ _ (aK h0) (aK lW) (aK lX) au oG
     ·rintro ch ae ⟨h,_⟩;cases h
  ·have c1:¬(i:Int)<xs.length:=aa;refine bO lX ky c1 ?_;refine aC du ao ⟨rfl,?_⟩;rw[List.take_of_length_le aa]at hB;exact hB
def kt(kind ch:Nat)(p:List UInt8):List UInt8:=aw 1 kind++aw 2 ch++aw 4 p.length++p++[206]
def nL(kind ch:Nat)(p:List UInt8):(kt kind ch p).length=p.length+8:=by simp[kt,bV];omega
def I5{kind ch:Nat}{p:List UInt8}(hk:kind<9223372036854775808)(hc:ch<9223372036854775808)(hp:p.length<=100000000):
 ay E 44 #[.int .i64 kind,.int .i64 ch,.string (B p)] σ λe' ae=>e'=.returned (.string (B (kt kind ch p)))/\ae=σ:=by
 refine aW func44 ntmps44 results44 λQ aC an aA=>?_;refine ag ?_;refineλb hb=>?_;refine ag ?_;refineλsb mU=>?_;have vo:il σ b [] (σ.set b (.cells #[.pointer none,.slice none 0 0] 155 (0,0))):=.new rfl rfl;have aE:b≠sb:=bp mU aY;have Dt:σ.f sb=none:=by rw[Hp.aO _ (λe=>aE e.symm)]at mU;exact mU
 have qo:=vo.frame (o:=.cells ([Arg.Bi kind,.short ch,.long p.length].map oy).toArray 20 (0,0)) mU;obtain⟨τ,fE⟩:∃τ,τ=σ.set sb (.cells ([Arg.Bi kind,.short ch,.long p.length].map oy).toArray 20 (0,0)):=⟨_,rfl⟩;rw[<-fE]at qo;have su:τ.f b=none:=by rw[fE,Hp.aO _ aE];exact hb
 refine ag ?_;refine dC acF (G6 su qo (.inr ⟨sb,rfl,by rw[fE,Hp.bD]⟩) (by simp[kH,hk,hc];omega) al (by simp[cW,ep,bV])) ?_ ?_
 ·rintro v ae ⟨h,yC⟩;refine ag ?_;refine aL (Ve su yC (by simp[cW,ep,bV];omega)) ?_;rintro v ae ⟨h,Ji⟩;refine ag ?_;refine aL (Vd (y:=206) su Ji (by simp[cW,ep,bV];omega)) ?_;rintro v ae ⟨h,hB4⟩;refine ag ?_;refine aR (Mr su hB4 al (by simp[cW,ep,bV];omega)) ?_;refine ag ?_;refine an (τ:=σ) aI (by rw[fE];exact jZ Dt) ⟨?_,rfl⟩;refine ag ?_;simp[kt,cW,ep]
 ·rintro ch ae ⟨h,_⟩;cases h
def ck(ch cl me:Nat)(xs:List Arg):List UInt8:=kt 1 ch (aw 2 cl++aw 2 me++cW xs)
def apW{ch cl me:Nat}(hv:zN σ xs v)(fV:∀a∈xs,kH a)(hn:xs.length<=1000)(hc:ch<9223372036854775808)(aM:cl<9223372036854775808)(aP:me<9223372036854775808)(fM:(cW xs).length<=10000000):
 ay E 149 #[.int .i64 ch,.int .i64 cl,.int .i64 me,v] σ λe' ae=>e'=.returned (.string (B (ck ch cl me xs)))/\ae=σ:=by
 refine aW func149 ntmps149 results149 λQ aC an aA=>?_;refine ag ?_;refineλb hb=>?_;refine ag ?_;refineλsb mU=>?_;have vo:il σ b [] (σ.set b (.cells #[.pointer none,.slice none 0 0] 155 (0,0))):=.new rfl rfl;have aE:b≠sb:=bp mU aY;have Dt:σ.f sb=none:=by rw[Hp.aO _ (λe=>aE e.symm)]at mU;exact mU
 have qo:=vo.frame (o:=.cells ([Arg.short cl,.short me].map oy).toArray 20 (0,0)) mU;obtain⟨τ,fE⟩:∃τ,τ=σ.set sb (.cells ([Arg.short cl,.short me].map oy).toArray 20 (0,0)):=⟨_,rfl⟩;rw[<-fE]at qo;have hle:σ.le τ:=by rw[fE];exact jZ Dt
 have su:τ.f b=none:=by rw[fE,Hp.aO _ aE];exact hb
 have Gz:zN τ xs v:=hv.imp id λ⟨x,h1,h2⟩=>⟨x,h1,hle _ _ h2⟩;refine ag ?_;refine aL (G6 (xs:=[.short cl,.short me]) su qo (.inr ⟨sb,rfl,by rw[fE,Hp.bD]⟩) (by simp[kH,aM,aP]) al (by simp[cW,ep,bV])) ?_;rintro v1 ae ⟨h,yC⟩;refine ag ?_;refine aL (G6 su yC Gz fV hn (by simp[cW,ep,bV]at fM|-;omega)) ?_;rintro v2 ae ⟨h,Ji⟩;refine ag ?_;refine aR (Mr su Ji ?_ ?_) ?_
 ·simp[cW,ep,aw]
 ·simp[cW,ep,bV]at fM|-;omega
 refine ag ?_;refine aR (I5 (kind:=1) aa hc ?_) ?_
 ·simp[cW,ep,bV]at fM|-;omega
 refine ag ?_;refine an (τ:=σ) aI hle ⟨?_,rfl⟩;refine ag ?_;simp[ck,cW,ep]
end
section
open Go.Conc
variable {x:Array Operand}{a:Array TypeId}
def agW:cT (.call ⟨.builtin .min,x,a⟩)=false:=bl
def agV:cT (.call ⟨.builtin .max,x,a⟩)=false:=bl
attribute [go_sem] agW agV
variable {P:Program}{E:Env P}{ρ:av}{ds:List Deferred}{σ:Hp}{dst:Option Tmp}{ty:TypeId}{pos:String}{af:Array Edge}{g:Option (Nat×Bool)}{nx:av->List Deferred->Hp->Prop}{pn:List PanicEntry->Hp->Prop}{x y:Operand}{cg:Array TypeId}{a b:Int}
def SH(hx:ak ρ x=.int .i64 a)(hy:ak ρ y=.int .i64 b)(h:nx (aB ρ dst (.int .i64 (min a b))) ds σ):aT E ⟨dst,.call ⟨.builtin .min,#[x,y],cg⟩,ty,pos,af,g⟩ ρ ds σ nx pn:=by
 show wpOp E _ ρ ds σ nx pn;unfold wpOp;simp only[execOp,resolve,aH,bq,invoke];show wpS P (do pure (Next.value (<-Builtin.min_ cg ty (#[x,y].map (ak ρ)))):Sem Next) _ _ _;rw[lf];have e1: #[x,y].map (ak ρ)= #[.int .i64 a,.int .i64 b]:=by simp[hx,hy]
 rw[e1];simp only[Builtin.min_,List.foldlM,Builtin.min2];have e2:(if b<a then b else a)=min a b:=aa;rw[e2];exact h
def aiZ(hx:ak ρ x=.int .i64 a)(hy:ak ρ y=.int .i64 b)(h:nx (aB ρ dst (.int .i64 (max a b))) ds σ):aT E ⟨dst,.call ⟨.builtin .max,#[x,y],cg⟩,ty,pos,af,g⟩ ρ ds σ nx pn:=by
 show wpOp E _ ρ ds σ nx pn;unfold wpOp;simp only[execOp,resolve,aH,bq,invoke];show wpS P (do pure (Next.value (<-Builtin.max_ cg ty (#[x,y].map (ak ρ)))):Sem Next) _ _ _;rw[lf];have e1: #[x,y].map (ak ρ)= #[.int .i64 a,.int .i64 b]:=by simp[hx,hy]
 rw[e1];simp only[Builtin.max_,List.foldlM,Builtin.max2];have e2:(if b>a then b else a)=max a b:=aa;rw[e2];exact h
end
section
open Go.Proofs
def iR(ch m:Nat):Nat->List UInt8->List UInt8
 |0,_=>[]
 |f+1,b=>if b=[]then []else kt 3 ch (b.take m)++iR ch m f (b.drop m)
def lT(ch:Nat)(body:List UInt8)(size:Nat):List UInt8:=kt 2 ch (aw 2 60++aw 2 0++aw 8 body.length)++iR ch (size-8) body.length body
def Ty(ch m:Nat)(hm:1<=m):∀(f g:Nat) (b:List UInt8),b.length<=f->b.length<=g->iR ch m f b=iR ch m g b:=by
 intro f
 induction f with
 |zero=>
  intro g b hf _;have:b=[]:=List.eq_nil_of_length_eq_zero aa;subst this
  cases g<;>simp[iR]
 |succ f ih=>
  intro g b hf hg
  cases g with
  |zero=>
   have:b=[]:=List.eq_nil_of_length_eq_zero aa;subst this;simp[iR]
  |succ g=>
   simp only[iR];split
   ·rfl
   ·rename_i hb;have:b.length≠0:=λe=>hb (List.eq_nil_of_length_eq_zero e);rw[ih g (b.drop m) (by simp;omega) (by simp;omega)]
def Tx(ch m:Nat)(hm:1<=m):∀(f:Nat) (b:List UInt8),b.length<=f->(iR ch m f b).length<=9*b.length:=by
 intro f
 induction f with
 |zero=>intro b h;simp[iR]
 |succ f ih=>
  intro b h;simp only[iR];split
  ·simp
  ·rename_i hb;have h0:b.length≠0:=λe=>hb (List.eq_nil_of_length_eq_zero e);have:=ih (b.drop m) (by simp;omega);simp only[List.length_append,nL,List.length_take,List.length_drop]at this|-;rcases Nat.le_total m b.length with h1|h1
   ·rw[Nat.min_eq_left h1];omega
   ·rw[Nat.min_eq_right h1];omega
def OR{E:Env prog}{σ:Hp}{ch size:Nat}{body:List UInt8}(hc:ch<9223372036854775808)(hs:9<=size)(iw:size<=1000000)(hb:body.length<=1000000):
 ay E 292 #[.int .i64 ch,.string (B body),.int .i64 size] σ λe' ae=>e'=.returned (.string (B (lT ch body size)))/\ae=σ:=by
 refine aW func292 ntmps292 results292 λQ aC an aA=>?_;refine ag ?_;refineλb eS=>?_;refine ag ?_;refineλsb mU=>?_;have vo:il σ b [] (σ.set b (.cells #[.pointer none,.slice none 0 0] 155 (0,0))):=.new rfl rfl;have aE:b≠sb:=bp mU aY;have Dt:σ.f sb=none:=by rw[Hp.aO _ (λe=>aE e.symm)]at mU;exact mU
 have qo:=vo.frame (o:=.cells ([Arg.short 60,.short 0,.mW body.length].map oy).toArray 20 (0,0)) mU;obtain⟨τ,fE⟩:∃τ,τ=σ.set sb (.cells ([Arg.short 60,.short 0,.mW body.length].map oy).toArray 20 (0,0)):=⟨_,rfl⟩;rw[<-fE]at qo;have hle:σ.le τ:=by rw[fE];exact jZ Dt
 have su:τ.f b=none:=by rw[fE,Hp.aO _ aE];exact eS
 refine ag ?_;refine aL (G6 (xs:=[.short 60,.short 0,.mW body.length]) su qo (.inr ⟨sb,rfl,by rw[fE,Hp.bD]⟩) (by simp[kH];omega) al (by simp[cW,ep,bV])) ?_;rintro v1 ae ⟨h,yC⟩;refine ag ?_;refine aR (Mr su yC (by simp[cW,ep,aw]) (by simp[cW,ep,bV])) ?_;refine ag ?_;refine aR (I5 (kind:=2) aa hc (by simp[cW,ep,bV])) ?_;have c1:IntKind.wrap .i64 ((size:Int)-8)=((size-8:Nat):Int):=cI;refine aG c1 ?_;refine dh (λm ρ ds ae=>ds=[]/\ae=τ/\∃r acc,m=r.length/\r.length<=body.length/\ρ 0=.int .i64 ch/\ρ 1=.string (B r)/\ρ 8=.string (B acc)/\ρ 9=.int .i64 ((size-8:Nat):Int)/\acc.length+9*r.length<=100000000/\acc++iR ch (size-8) r.length r=lT ch body size) body.length ?_ ?_
 ·refine⟨rfl,rfl,body,kt 2 ch (cW [.short 60,.short 0,.mW body.length]),rfl,Nat.le_refl _,?_,?_,?_,?_,?_,?_⟩
  ·exact au
  ·exact au
  ·exact au
  ·exact au
  ·simp[nL,cW,ep,bV];omega
  ·simp[lT,cW,ep]
 ·rintro m ρ ds ae X ⟨rfl,rfl,r,acc,rfl,AU,h0,h1,h8,h9,hal,Qq⟩ hX
  cases hr:decide (r=[])with
  |true=>
   obtain rfl:r=[]:=aZ hr;have c2:¬(((0:Nat):Int)>0):=al;refine bt h1 h8 ?_;refine an (τ:=σ) aI hle ⟨?_,rfl⟩;simp only[go_sem,seval,<-Qq];simp[iR]
  |false=>
   have ig:r≠[]:=aZ hr;have hl:0<r.length:=Nat.pos_of_ne_zero λe=>ig (List.eq_nil_of_length_eq_zero e);have c2:(r.length:Int)>0:=aa;refine bO h1 h9 c2 ?_;have J9:min ((size-8:Nat):Int) (r.length:Int)=((min (size-8) r.length:Nat):Int):=aa;refine SH (a:=((size-8:Nat):Int)) (b:=(r.length:Int)) au au ?_;obtain⟨k,hk⟩:∃k,k=min (size-8) r.length:=⟨_,rfl⟩;rw[J9,<-hk];have d0:(0:Int)<=k:=aa;have d1:(k:Int)<=r.length:=aa;have d2:(0:Int)<=r.length:=aa;refine lO h0 h1 h8 d0 d1 ?_;rw[Nat.sub_zero];refine aR (I5 (kind:=3) aa hc (by simp;omega)) ?_;have c3:acc.length+(kt 3 ch (r.take k)).length<=9223372036854775807:=by rw[nL];simp;omega
   refine fB h1 d0 d1 c3 ?_;have ad7:List.take (r.length-k) (r.drop k)=r.drop k:=List.take_of_length_le al;refine hX (r.drop k).length _ _ _ _ (by simp;omega) ⟨rfl,rfl,r.drop k,acc++kt 3 ch (r.take k),rfl,by simp;omega,?_,?_,?_,?_,?_,?_⟩ ao
   ·exact aK h0
   ·refine ag ?_;rw[ad7]
   ·exact au
   ·exact aK h9
   ·rw[List.length_append,nL];simp;omega
   ·rw[<-Qq,List.append_assoc];congr 1;obtain⟨f,hf⟩:∃f,r.length=f+1:=⟨r.length-1,aa⟩;rw[hf];simp only[iR,if_neg ig]
    have e1:r.take (size-8)=r.take k:=by
     rw[hk];rcases Nat.le_total (size-8) r.length with h|h
     ·rw[Nat.min_eq_left h]
     ·rw[Nat.min_eq_right h,List.take_of_length_le h,List.take_length]
    have e2:r.drop (size-8)=r.drop k:=by
     rw[hk];rcases Nat.le_total (size-8) r.length with h|h
     ·rw[Nat.min_eq_left h]
     ·rw[Nat.min_eq_right h,List.drop_eq_nil_of_le h,List.drop_length]
    rw[e1,e2];congr 1;exact Ty ch (size-8) aa _ _ _ (Nat.le_refl _) (by simp;omega)
end
section
open Go.Conc
def Hp.dV(σ φ:Hp):Prop:=∀b,σ.f b=none\/φ.f b=none
def Hp.bJ(σ φ:Hp):Hp:=⟨λb=>match σ.f b with|some o=>some o|none=>φ.f b⟩
variable {σ φ:Hp}{b:Nat}{o:Obj}
def Hp.jz(h:σ.f b=some o):(σ.bJ φ).f b=some o:=by simp[Hp.bJ,h]
def Hp.pX(h:σ.f b=none):(σ.bJ φ).f b=φ.f b:=by simp[Hp.bJ,h]
def Hp.aie(σ φ:Hp):σ.le (σ.bJ φ):=λ_ _ h=>Hp.jz h
def Hp.uj(d:σ.dV φ):φ.le (σ.bJ φ):=λb o h=>by
 rcases d b with e|e
 ·rw[Hp.pX e];exact h
 ·rw[e]at h;cases h
def Hp.HC(h:(σ.bJ φ).f b=some o):σ.f b=some o\/(σ.f b=none/\φ.f b=some o):=by
 cases e:σ.f b with
 |some x=>rw[Hp.jz e]at h;exact .inl h
 |none=>rw[Hp.pX e]at h;exact .inr ⟨rfl,h⟩
def Hp.apy{τ:Hp}(h:τ.le σ)(d:σ.dV φ):(τ.bJ φ).le (σ.bJ φ):=by
 intro b o hb;rcases Hp.HC hb with h1|⟨_,h1⟩
 ·exact Hp.jz (h b o h1)
 ·rcases d b with e|e
  ·rw[Hp.pX e];exact h1
  ·rw[e]at h1;cases h1
def Hp.dV.ik{τ:Hp}(d:σ.dV φ)(h:τ.le σ):τ.dV φ:=by
 intro b;rcases d b with e|e
 ·left
  cases hb:τ.f b with
  |none=>rfl
  |some o=>have:=h b o hb;rw[e]at this;cases this
 ·exact .inr e
variable {J:Nat->Prop}{w:World}
def cN.split(h:cN J w (σ.bJ φ))(d:σ.dV φ):cN (λb=>J b\/(φ.f b).isSome=true) w σ:=by
 refine⟨λhb=>h.heap (Hp.jz hb),λb hj=>?_,λb hj=>?_⟩
 ·rcases hj with hj|hj
  ·cases hb:σ.f b with
   |none=>rfl
   |some o=>have:=h.fA b hj;rw[Hp.jz hb]at this;cases this
  ·rcases d b with e|e
   ·exact e
   ·rw[e]at hj;cases hj
 ·rcases hj with hj|hj
  ·exact h.low b hj
  ·obtain⟨o,ho⟩:=Option.isSome_iff_exists.1 hj;exact h.lt (Hp.uj d b o ho)
def cN.apD(h:cN (λb=>J b\/(φ.f b).isSome=true) w σ)(hJ:∀b,J b->φ.f b=none)(AZ:∀b o,φ.f b=some o->w.heap[b]? =some o):cN J w (σ.bJ φ)/\σ.dV φ:=by
 refine⟨⟨λ{b o} hb=>?_,λb hj=>?_,λb hj=>h.low b (.inl hj)⟩,λb=>?_⟩
 ·rcases Hp.HC hb with h1|⟨_,h1⟩
  ·exact h.heap h1
  ·exact AZ b o h1
 ·rw[Hp.pX (h.fA b (.inl hj))];exact hJ b hj
 ·cases e:φ.f b with
  |none=>exact .inr rfl
  |some o=>exact .inl (h.fA b (.inr (by rw[e];rfl)))
def im.fewer{J':Nat->Prop}{n:Nat}{e:Event}(hJ:∀b,J b->J' b)(h:im J' n e):im J n e:=by
 unfold im at h|-
 cases hl:e.loc<;>rw[hl]at h<;>first|exact h|exact⟨λx=>h.1 (hJ _ x),h.2⟩
variable {P:Program}
def gM.frame{main:Bool}{g:Goroutine}{X:Goroutine->Hp->Prop}(h:gM P main g σ X)(d:σ.dV φ):
 gM P main g (σ.bJ φ) λg' τ=>∃ae,ae.dV φ/\τ=ae.bJ φ/\X g' ae:=by
 intro J w hs;have:=h _ w (hs.split d)
 cases hg:stepG P main g w<;>rw[hg]at this<;>first|exact this.elim|skip
 obtain⟨ae,h1,h2,h3,h4,h5⟩:=this
 have hJ:∀b,J b->φ.f b=none:=λb hj=>by
  have:=hs.fA b hj
  cases e:σ.f b with
  |none=>rw[Hp.pX e]at this;exact this
  |some o=>rw[Hp.jz e]at this;cases this
 obtain⟨k1,k2⟩:=h1.apD hJ (λb o hb=>by rw[h2.hidden b (.inr (by rw[hb];rfl))];exact hs.heap (Hp.uj d b o hb));exact⟨_,k1,⟨λb hj=>h2.hidden b (.inl hj),h2.os,h2.tape,h2.output,h2.tv⟩,λe he=>(h3 e he).fewer λb=>.inl,h4,ae,k2,rfl,h5⟩
def Env.frame {P:Program}(E:Env P)(φ:Hp):Env P where
 main:=E.main
 st g σ m T:=σ.dV φ/\E.st g (σ.bJ φ) m T
 ik:=λ⟨d,h⟩ k=>⟨d.ik k,E.ik h (Hp.apy k d)⟩
 own:=by rintro g σ m T X ⟨d,h⟩ hr hX;obtain⟨N,m',T',g',τ,h1,h2,h3,ae,d',rfl,hx⟩:=E.own g _ m T _ h hr (hX.frame d);exact⟨N,m',T',g',ae,h1,⟨d',h2⟩,h3,hx⟩
variable {a:Addr}
def OC{v:Value}(h:σ.cell? a=some v):(σ.bJ φ).cell? a=some v:=by obtain⟨c,e,z,hb,hs,hv⟩:=Ai h;simp[Hp.cell?,Hp.jz hb,hs,hv]
def PK(hb:σ.f a.block=some o):(σ.bJ φ).frozen? a=σ.frozen? a:=by simp only[Hp.frozen?,Hp.jz hb,hb]
def anP{r:Nat}(hb:σ.f r=some o):(σ.bJ φ).shape? r=σ.shape? r:=by simp only[Hp.shape?,Hp.jz hb,hb]
def SI(hb:σ.f b=some o)(g:Obj->Obj):(σ.bJ φ).modify b g=(σ.modify b g).bJ φ:=by
 simp only[Hp.modify,Hp.bJ,Hp.mk.injEq]
 funext x
 by_cases e:x=b
 ·subst e;simp[hb]
 ·simp[e]
def Hm(b:Nat)(o:Obj):(σ.bJ φ).set b o=(σ.set b o).bJ φ:=by
 simp only[Hp.set,Hp.bJ,Hp.mk.injEq]
 funext x
 by_cases e:x=b
 ·subst e;simp
 ·simp[e]
def anH(hb:σ.f a.block=some o)(v:Value):(σ.bJ φ).setCell a v=(σ.setCell a v).bJ φ:=SI hb _
def abI(hb:σ.f a.block=some o)(n:Nat):(σ.bJ φ).freeze a n=(σ.freeze a n).bJ φ:=by
 unfold Hp.freeze;split
 ·rfl
 ·exact SI hb _
def IH(d:σ.dV φ)(hb:φ.f b=none):(σ.set b o).dV φ:=by
 intro x;by_cases e:x=b
 ·subst e;exact .inr hb
 ·simpa[Hp.set,e]using d x
def O4(d:σ.dV φ)(hb:σ.f b=some o):φ.f b=none:=by
 rcases d b with e|e
 ·rw[e]at hb;cases hb
 ·exact e
def O3(g:Obj->Obj)(d:σ.dV φ):(σ.modify b g).dV φ:=by
 intro x;by_cases e:x=b
 ·subst e;rcases d x with e|e
  ·exact .inl (by simp[Hp.modify,e])
  ·exact .inr e
 ·simpa[Hp.modify,e]using d x
def aqa{α:Type}{Q:α->Hp->Prop}{H:Halt->Hp->Prop}:
 ∀(s:Sem α) (σ:Hp),σ.dV φ->wpS P s Q H σ->wpS P s (λa τ=>∃ae,ae.dV φ/\τ=ae.bJ φ/\Q a ae) (λh τ=>∃ae,ae.dV φ/\τ=ae.bJ φ/\H h ae) (σ.bJ φ):=by
 intro s
 induction s with
 |pure a=>exactλσ d h=>⟨σ,d,rfl,h⟩
 |load m a k ih=>exactλσ d ⟨v,hv,h⟩=>⟨v,OC hv,ih v σ d h⟩
 |store m a v k ih=>
  intro σ d h
  have key:(∃u,σ.cell? a=some u)/\σ.frozen? a=false/\wpS P k Q H (σ.setCell a v)->(∃u,(σ.bJ φ).cell? a=some u)/\(σ.bJ φ).frozen? a=false/\wpS P k (λa τ=>∃ae,ae.dV φ/\τ=ae.bJ φ/\Q a ae) (λh τ=>∃ae,ae.dV φ/\τ=ae.bJ φ/\H h ae) ((σ.bJ φ).setCell a v):=by rintro⟨⟨u,hu⟩,hz,h⟩;obtain⟨c,e,z,hb,_,_⟩:=Ai hu;refine⟨⟨u,OC hu⟩,by rw[PK hb];exact hz,?_⟩;rw[anH hb];exact ih _ (O3 _ d) h
  cases v<;>first|exact h.elim|exact key h
 |new o k ih=>
  intro σ d h b hb;rw[Hm]
  have hs:σ.f b=none:=by
   cases e:σ.f b with
   |none=>rfl
   |some x=>rw[Hp.jz e]at hb;cases hb
  exact ih b _ (IH d (by rw[Hp.pX hs]at hb;exact hb)) (h b hs)
 |shape r k ih=>
  rintro σ d ⟨h1,h⟩;obtain⟨o,ho⟩:=Option.isSome_iff_exists.1 h1;refine⟨by rw[Hp.jz ho];rfl,?_⟩;rw[anP ho];exact ih _ _ d h
 |freeze a n k ih=>
  rintro σ d ⟨h1,h⟩;obtain⟨o,ho⟩:=Option.isSome_iff_exists.1 h1;refine⟨by rw[Hp.jz ho];rfl,?_⟩;rw[abI ho];refine ih _ ?_ h;unfold Hp.freeze;split
  ·exact d
  ·exact O3 _ d
 |frozen a k ih=>
  rintro σ d ⟨h1,h⟩;obtain⟨o,ho⟩:=Option.isSome_iff_exists.1 h1;refine⟨by rw[Hp.jz ho];rfl,?_⟩;rw[PK ho];exact ih _ _ d h
 |getObj r k ih=>exactλσ d ⟨o,ho,hc,h⟩=>⟨o,Hp.jz ho,hc,ih _ _ d h⟩
 |setObj r o k ih=>
  rintro σ d ⟨o',ho,hc,h⟩;refine⟨o',Hp.jz ho,hc,?_⟩;rw[Hm];exact ih _ (IH d (O4 d ho)) h
 |choose q k ih=>
  intro σ d h;unfold wpS at h|-;split
  ·rename_i hf;rw[if_pos hf]at h;exact ih _ _ d h
  ·rename_i hf;rw[if_neg hf]at h;exactλt=>ih _ _ d (h t)
 |sys c k ih=>exactλσ d h=>h.elim
 |program k ih=>exactλσ d h=>ih _ _ d h
 |mark m k ih=>exactλσ d h=>⟨h.1,ih _ d h.2⟩
 |halt h=>exactλσ d x=>⟨σ,d,rfl,x⟩
def ay.lz{E:Env P}{f:FuncId}{args:Array Value}{R:Fin->Hp->Prop}(h:ay (E.frame φ) f args σ R)(d:σ.dV φ):
 ay E f args (σ.bJ φ) λe τ=>∃ae,ae.dV φ/\τ=ae.bJ φ/\R e ae:=by
 intro cs m T hm;obtain⟨N,m',T',g',ae,h1,⟨d',h2⟩,e,fr,rfl,hf,hl,hR⟩:=h cs m T ⟨d,hm⟩;refine⟨N,m',T',_,_,h1,h2,e,fr,rfl,hf,?_,ae,d',rfl,hR⟩
 cases e with
 |returned v=>
  obtain⟨a1,a2,a3,fn,a4,a5⟩:=hl;exact⟨a1,a2,a3,fn,a4,MW (λv' τ ⟨fZ,_,e1,e2,e3⟩=>⟨e2,by rw[e1,e3]⟩) (λ_ _ ⟨_,_,_,x⟩=>x) _ _ (aqa _ _ d' a5)⟩
 |panicked ch=>exact hl
noncomputable def Hp.only(σ:Hp)(D:Nat->Prop):Hp:=⟨λb=>open Classical in if D b then σ.f b else none⟩
def Hp.akQ(σ:Hp)(D:Nat->Prop):(σ.only D).le σ:=λb o h=>by
 simp only[Hp.only]at h;split at h
 ·exact h
 ·cases h
def Hp.G2{D:Nat->Prop}(h:σ.f b=some o)(hb:D b):(σ.only D).f b=some o:=by simp[Hp.only,hb,h]
def Hp.akP(σ:Hp)(D:Nat->Prop):(σ.only D).dV (σ.only λb=>¬D b):=λb=>by
 by_cases h:D b
 ·right;simp[Hp.only,h]
 ·left;simp[Hp.only,h]
def Hp.akR(σ:Hp)(D:Nat->Prop):(σ.only D).bJ (σ.only λb=>¬D b)=σ:=by
 show Hp.mk _=Hp.mk _;congr 1
 funext b
 by_cases h:D b
 ·simp only[Hp.only,h,if_true,not_true,if_false]
  cases σ.f b<;>rfl
 ·simp[Hp.only,h]
end
end Go.Qw
