/- Part 23. -/
import Derived.Test.YtpiabknabfbfhaaGreatDoorFairly22
set_option linter.all false
set_option maxRecDepth 100000
set_option maxHeartbeats 8000000
namespace Go.Qw
open Go Go.Conc Go.Proofs Go.Proofs.Tryz
variable {E:Env prog}{σ:Hp}{y:Int}
def ZT{x:Int}:ay E 225 #[iV x,iV y] σ λe τ=>e=.returned (iV (if x<y then-1 else if y<x then 1 else 0))/\τ=σ:=by
 refine fI func225 ntmps225 results225 rfl al λQ aC an aA=>?_;refine ag ?_;refine aR KO ?_;refine ag ?_;refine aR KO ?_;refine ag ?_;by_cases h1:x<y
 ·simp only[go_sem,seval,h1,decide_true];exact an aI ao ⟨by simp[up,h1],rfl⟩
 ·by_cases h2:y<x
  ·simp only[go_sem,seval,h1,h2,decide_true,decide_false];exact an aI ao ⟨by simp[up,h1,h2],rfl⟩
  ·simp only[go_sem,seval,h1,h2,decide_false];exact an aI ao ⟨by simp[up,h1,h2],rfl⟩
variable {m:aX}
def OL:ay E 224 #[m.v,iV y] σ λe τ=>e=.returned (iV (if m.seq<y then-1 else if y<m.seq then 1 else 0))/\σ.le τ:=by refine fI func224 ntmps224 results224 rfl al λQ aC an aA=>?_;simp only[go_sem,seval,aX.v];refineλb hb=>?_;simp only[go_sem,seval];refine Ov acm ZT ?_;simp only[go_sem,seval];exact an aI ao ⟨by simp[up],jZ hb⟩
variable {ms:List aX}{v:Value}
def ZJ(hm:gB σ ms v)(hn:ms.length<=1000000):
 ay E 227 #[v] σ λe τ=>∃rv,e=.returned rv/\(rv=.slice none 0 0/\ms=[]/\τ=σ\/∃a c pad,rv=.slice (some ⟨a,0,none⟩) ms.length c/\σ.f a=none/\ms.length<=c/\4*(c-ms.length)<=List.length (α:=Value) pad/\(σ.set a (.cells (bd ms++pad).toArray 193 (0,0))).le τ/\σ.le τ):=by
 refine aW func227 ntmps227 results227 λQ aC an aA=>?_;have HB:prog.underlying 78=some (.slice 193):=ah
 cases hm with
 |none h0=>
  subst h0;refine ag ?_;refine Ph HB (b:=none) (n:=0) (c:=0) ?_ ?_ ?_
  ·exact au
  ·exact au
  simp only[go_sem,seval,Option.isNone_none];exact an aI ao ⟨_,rfl,.inl ⟨by simp[up],rfl,rfl⟩⟩
 |«at»a pre pad c h1 h2 h3=>
  refine ag ?_;refine Ph HB (b:=some ⟨a,pre.length,none⟩) (n:=ms.length) (c:=c) ?_ ?_ ?_
  ·exact au
  ·exact au
  simp only[go_sem,seval,Option.isNone_some];refineλb hb=>?_;have GW:¬a=b:=bp hb h3;have e2:ms.length*4=(bd ms).length:=by rw[oW];omega
  have iF:∀o,iL (σ.set b o) iD.z ms.length (.slice (some ⟨a,pre.length,none⟩) ms.length c)=some (bd ms).toArray:=by
   intro o;show(cellsOf (σ.set b o) ⟨a,pre.length,none⟩ (ms.length*4))=_;have e:pre.length+ms.length*4<=pre.length+(bd ms).length+pad.length:=by rw[oW];omega
   simp only[cellsOf,Hp.az GW,h3,List.size_toArray,List.length_append,true_and,if_pos e];congr 1;apply Array.ext';simp[e2]
  refine ag ?_;refine rW iD (base:=some ⟨b,0,none⟩) (l:=0) (c:=0) (n:=ms.length) (old:=#[]) (new:=(bd ms).toArray) ah ?_ ?_ ?_ (by simp only[go_sem,seval];exact iF _) ?_ aa ?_ ?_
  ·exact au
  ·exact au
  ·show(cellsOf _ ⟨b,0,none⟩ (0*4))=_;simp[cellsOf,Hp.bD]
  ·show(2*(0+ms.length)+192)*48<=2^48;omega
  ·intro h0;have Ge:ms=[]:=List.length_eq_zero_iff.1 aa;subst Ge;refine⟨_,⟨_,_,aY,rfl,by simp[bd],by simp[bd],rfl⟩,?_⟩;simp only[go_sem,seval,Nat.zero_add,List.length_nil];refine an aI ao ⟨_,rfl,.inr ⟨b,0,[],by simp[up],hb,Nat.le_refl _,al,?_,?_⟩⟩
   ·simp[bd];exact Hp.le_refl _
   ·exact jZ hb
  ·intro hc b2 cap eQ jJ
   have sI:σ.f b2=none:=by
    cases hs:σ.f b2 with
    |none=>rfl
    |some o=>have:=jZ (o:=.cells #[] 193 (0,0)) hb b2 o hs;rw[Hp.az (bp hs hb)]at eQ;rw[hs]at eQ;cases eQ
   simp only[go_sem,seval,Nat.zero_add]at jJ|-;refine an aI ao ⟨_,rfl,.inr ⟨b2,cap,(Builtin.zeroCells iD.zero (cap-ms.length)).toList,by simp[up],sI,jJ,by rw[ER];omega,?_,?_⟩⟩
   ·have e3:((bd ms).toArray++Builtin.zeroCells iD.zero (cap-ms.length))=(bd ms++(Builtin.zeroCells iD.zero (cap-ms.length)).toList).toArray:=by apply Array.ext';simp
    rw[<-e3];exact DM (jZ hb) _ _
   ·exact Hp.le_trans (jZ hb) (jZ eQ)
def aid{pre pad:List Value}{i:Nat}(hi:i<ms.length):∃p2 q2,pre++bd ms++pad=p2++ms[i].vals++q2/\p2.length=pre.length+i*4:=by
 refine⟨pre++bd (ms.take i),bd (ms.drop (i+1))++pad,?_,?_⟩
 ·have this:bd ms=bd (ms.take i)++(ms[i].vals++bd (ms.drop (i+1))):=by
   have h1:bd (ms.take i)++bd (ms.drop i)=bd ms:=by unfold bd;rw[<-List.flatMap_append,List.take_append_drop]
   rw[<-h1,<-List.getElem_cons_drop hi];rfl
  rw[this];simp
 ·rw[List.length_append,oW,List.length_take];omega
variable {α:Type}{i:Nat}
def apc{l:List α}{p:α->Bool}(h1:∀x∈l.take i,p x=true)(h2:∀x∈l.drop i,p x=false)(hi:i<=l.length):(l.takeWhile p).length=i/\l.takeWhile p=l.take i/\l.dropWhile p=l.drop i:=by
 have e1:l.takeWhile p=l.take i:=by
  conv=>lhs;rw[<-List.take_append_drop i l]
  rw[List.takeWhile_append_of_pos h1]
  cases hd:l.drop i with
  |nil=>simp
  |cons a t=>simp[h2 a (by rw[hd];simp)]
 refine⟨by rw[e1,List.length_take];omega,e1,?_⟩;have e2:=List.takeWhile_append_dropWhile (p:=p) (l:=l);rw[e1]at e2;have e3:=List.take_append_drop i l;exact List.append_cancel_left (e2.trans e3.symm)
def XZ{no:Int}(hm:gB σ ms v)(hn:ms.length<=1000000)(hs:ms.Pairwise λa b=>a.seq<b.seq):
 ay E 223 #[v,iV no,.func (.func 224) #[] #[]] σ λe τ=>(∃b:Bool,e=.returned (.tuple #[iV ((ms.takeWhile λx=>decide (x.seq<no)).length:Nat),.bool b]))/\σ.le τ:=by
 refine aW func223 ntmps223 results223 λQ aC an aA=>?_;obtain⟨base,cap,rfl⟩:=hm.shape
 have gS:∀{τ:Hp},σ.le τ->∀i (hi:i<ms.length),∃a off p2 q2,base=some ⟨a,off,none⟩/\τ.f a=some (.cells (p2++ms[i].vals++q2).toArray 193 (0,0))/\p2.length=off+i*4:=by
  intro τ hle i hi;generalize hl:ms.length=L at hm
  cases hm with
  |none h0=>subst h0;simp at hi
  |«at»a pre pad c h1 h2 h3=>
   obtain⟨p2,q2,e1,e2⟩:=aid (pre:=pre) (pad:=pad) hi;exact⟨a,pre.length,p2,q2,rfl,by rw[<-e1];exact hle _ _ h3,e2⟩
 refine ag ?_;refine dh (λm ρ ds ae=>ds=[]/\ρ 0=.slice base ms.length cap/\ρ 1=iV no/\ρ 2=.func (.func 224) #[] #[]/\ρ 8=iV ms.length/\σ.le ae/\∃i j:Nat,m=j-i/\i<=j/\j<=ms.length/\ρ 9=iV i/\ρ 10=iV j/\(∀x∈ms.take i,x.seq<no)/\(∀x∈ms.drop j,¬x.seq<no)) ms.length ?_ ?_
 ·refine⟨rfl,?_,?_,?_,?_,Hp.le_refl _,0,ms.length,al,aa,aa,?_,?_,al,al⟩<;>exact au
 ·rintro m ρ ds ae X ⟨rfl,h0,h1,h2,h8,hle,i,j,rfl,qB,hj,h9,bA,AQ,C4⟩ hX;by_cases c0:i<j
  ·have u0:(i:Int)<j:=aa;have w1:IntKind.i64.wrap ((i:Int)+j)=((i+j:Nat):Int):=cI
   have wu:∀k:Nat,k<=2000000->IntKind.u64.wrap (k:Int)=k:=λk hk=>by have:((k:Int) % 18446744073709551616)=k:=aa;simpa[IntKind.wrap,IntKind.bits,IntKind.signed]using this
   have ws:xQ .u64 ((i+j:Nat):Int) 1=(((i+j)/2:Nat):Int):=by show Int.fdiv _ (2^(min (1:Int).toNat 64))=_;rw[show(2:Int)^(min (1:Int).toNat 64)=2 from rfl,Int.fdiv_eq_ediv_of_nonneg _ aa];omega
   obtain⟨h,hh⟩:∃h,h=(i+j)/2:=⟨_,rfl⟩;have mL:i<=h/\h<j:=aa;obtain⟨a,off,p2,q2,rfl,hf,e2⟩:=gS hle h aa;have w2:IntKind.i64.wrap (((i+j)/2:Nat):Int)=h:=by rw[<-hh];exact wrap64 aa aa
   have w3:=fF h;have b1:(0:Int)<=h/\(h:Int)<ms.length:=aa;simp only[go_sem,seval,h0,h2,h9,bA,u0,decide_true,w1,wu (i+j) aa,ws,w2];refine⟨b1,?_⟩;refine ag ?_;refine LN (pre:=p2) (pad:=q2) (m:=ms[h]) (e:=193) hf (by simp[e2]) ?_;refine aG h1 ?_;rw[Eg (f:=224) (l:=#[]) (cap:=#[]) au];refine ag ?_;refine aL OL ?_;rintro v τ ⟨hv,nQ⟩
   cases hv
   have qE:=Hp.le_trans hle nQ;by_cases c1:ms[h].seq<no
   ·simp only[go_sem,seval,if_pos c1,w3];refine hX (j-(h+1)) _ _ _ _ aa ⟨rfl,?_,?_,?_,?_,qE,h+1,j,rfl,aa,hj,?_,?_,?_,C4⟩ ao
    ·exact aK h0
    ·exact aK h1
    ·exact aK h2
    ·exact aK h8
    ·exact au
    ·exact aK bA
    ·intro x hx;obtain⟨k,hk,rfl⟩:=List.mem_take_iff_getElem.1 hx;by_cases e:k=h
     ·subst e;exact c1
     ·have:=List.pairwise_iff_getElem.1 hs k h aa aa aa;omega
   ·have c2:¬(if no<ms[h].seq then(1:Int)else 0)<0:=by split<;>omega
    simp only[go_sem,seval,if_neg c1,c2,decide_false];refine hX (h-i) _ _ _ _ aa ⟨rfl,?_,?_,?_,?_,qE,i,h,rfl,aa,aa,?_,?_,AQ,?_⟩ ao
    ·exact aK h0
    ·exact aK h1
    ·exact aK h2
    ·exact aK h8
    ·exact aK h9
    ·exact au
    ·intro x hx;obtain⟨k,hk,rfl⟩:=List.mem_drop_iff_getElem.1 hx;by_cases e:k=0
     ·subst e;simpa using c1
     ·have:=List.pairwise_iff_getElem.1 hs h (h+k) aa aa aa;omega
  ·have u0:¬(i:Int)<j:=aa;obtain rfl:i=j:=aa;have ew:(ms.takeWhile λx=>decide (x.seq<no)).length=i:=(apc (λx hx=>by simpa using AQ x hx) (λx hx=>by simpa using C4 x hx) hj).1;by_cases c4:i<ms.length
   ·have Iv:(i:Int)<ms.length:=aa;have b1:(0:Int)<=i/\(i:Int)<ms.length:=aa;obtain⟨a,off,p2,q2,rfl,hf,e2⟩:=gS hle i c4;simp only[go_sem,seval,h0,h2,h8,h9,bA,u0,Iv,decide_true,decide_false];refine⟨aa,?_⟩;refine ag ?_;refine LN (pre:=p2) (pad:=q2) (m:=ms[i]) (e:=193) hf (by simp[e2]) ?_;refine aG h1 ?_;rw[Eg (f:=224) (l:=#[]) (cap:=#[]) au];refine ag ?_;refine aL OL ?_;rintro v τ ⟨hv,nQ⟩
    cases hv
    refine ag ?_;exact an iT ao ⟨⟨decide ((if ms[i].seq<no then(-1:Int)else if no<ms[i].seq then 1 else 0)=0),by simp[up,ew]⟩,Hp.le_trans hle nQ⟩
   ·have Iv:¬(i:Int)<ms.length:=aa;simp only[go_sem,seval,h8,h9,bA,u0,Iv,decide_false];exact an iT ao ⟨⟨false,by simp[up,ew]⟩,hle⟩
variable {P:Program}{a:Addr}{c:Array Value}{e:TypeId}{H:Halt->Hp->Prop}
def GY{z:Nat×Nat}(ha:σ.f a.block=some (.cells c e z)){Q:Unit->Hp->Prop}(k:Q () σ):wpS P (noView a) Q H σ:=by simp only[noView,viewAt,aH,zL,Hp.shape?,ha];refine⟨rfl,?_⟩;simp only[Option.isSome_some,if_true,bq,Option.isSome_none,Bool.false_eq_true,if_false];exact k
def UF(ha:σ.f a.block=some (.cells c e (0,0))){Q:Bool->Hp->Prop}(k:Q false σ):wpS P (stringish a) Q H σ:=by have h0:∀n,(decide (0<=n)&&decide (n<0))=false:=al;simp only[stringish,aH,HI,Hp.frozen?,ha,h0];refine⟨rfl,?_⟩;simp only[Bool.false_eq_true,if_false,aH,zL,Hp.shape?,ha];refine⟨rfl,?_⟩;simp only[HI,Hp.frozen?,ha,h0];exact⟨rfl,k⟩
def SC{b:Addr}{c':Array Value}{e':TypeId}(ha:σ.f a.block=some (.cells c e (0,0)))(hb:σ.f b.block=some (.cells c' e' (0,0))){Q:Bool->Hp->Prop}(k:Q false σ):wpS P (mayBeOne a b) Q H σ:=by
 simp only[mayBeOne,aH];refine UF ha (UF hb ?_);simp only[bq,zL,Bool.false_and,Bool.or_false]
 first|exact k|exact⟨by rw[ha];rfl,by rw[hb];rfl,k⟩
variable {a bn off:Nat}
def ak2{la ca:Nat}{x y:List Value}(ha:σ.f a=some (.cells x.toArray 193 (0,0)))(hb:σ.f bn=some (.cells y.toArray 193 (0,0)))(hx:0<x.length)(hy:0<y.length)(aE:¬bn=a){dst:Option Tmp}{ρ:av}{ds:List Deferred}{nx:av->List Deferred->Hp->Prop}{pn:List PanicEntry->Hp->Prop}(k:nx (aB ρ dst (.bool false)) ds σ):jR E 241 #[.slice (some ⟨bn,0,none⟩) 1 1,.slice (some ⟨a,off,none⟩) la ca] σ dst ρ ds nx pn:=by
 refine fz func241 rfl ah ah (ex:=Extern.SlicesOverlaps.overlaps #[78,78] #[4]) ah ?_;have HB:prog.underlying 78=some (.slice 193):=ah
 obtain⟨ie,vu,hiz⟩:∃ie,prog.info? 193=some ie/\ie.size=4:=by obtain⟨i,zv,h1,h2,_⟩:=iD.hi;exact⟨i,h1,h2⟩
 have ae0:(bn !=a)=true:=aZ aE;have ae1:(bn==a)=false:=aZ aE;have RM:¬x.length=0:=aa;have RS:¬y.length=0:=aa
 have e:Extern.SlicesOverlaps.overlaps #[78,78] #[4] #[.slice (some ⟨bn,0,none⟩) 1 1,.slice (some ⟨a,off,none⟩) la ca]=(do
  let .slice elem<-underlying 78|stuck "slices.overlaps: slice type expected"
  let size<-sizeOf elem
  if 1=0\/la=0\/size=0 then pure (.bool false)
  else if bn !=a&&(<-frozen ⟨bn,0,none⟩)&&(<-frozen ⟨a,off,none⟩)then unsupported .addressObserved
  else do
   if bn !=a then do
    noView ⟨bn,0,none⟩;noView ⟨a,off,none⟩
    if<-mayBeOne ⟨bn,0,none⟩ ⟨a,off,none⟩then return .bool ((<-choose (.extern "sameAddr.stringBytes" 2))==1)
   pure (.bool (bn==a&&0<off+la*size&&off<0+1*size))):=rfl
 show wpS prog (Extern.SlicesOverlaps.overlaps #[78,78] #[4] #[.slice (some ⟨bn,0,none⟩) 1 1,.slice (some ⟨a,off,none⟩) la ca]) _ _ _;rw[e];simp only[aH,dZ,HB,sizeOf,fQ,vu,bq,hiz];by_cases hl:la=0
 ·simp only[hl,true_or,or_true,if_true,bq];exact k
 ·have hc:¬(1=0\/la=0\/4=0):=aa;rw[if_neg hc];simp only[ae0,ae1,if_true,aH,HI,Hp.frozen?,ha,hb,Bool.true_and];refine⟨rfl,rfl,?_⟩;have hf:(decide (0<=0)&&decide (0<0)&&(decide (0<=off)&&decide (off<0)))=false:=al;simp only[hf,Bool.false_eq_true,if_false,aH];refine GY hb (GY ha (SC hb ha ?_));simp only[Bool.false_eq_true,if_false,bq,Bool.false_and];exact k
def Mo{A Z new:List α}(h:A.length=off):(A++Z).take off++new++(A++Z).drop (off+new.length)=A++new++Z.drop new.length:=by subst h;rw[List.take_left' rfl,List.drop_append,List.drop_of_length_le (Nat.le_add_right _ _),Nat.add_sub_cancel_left,List.nil_append]
def SK(ms:List aX):(bd ms).all de=true:=by simp only[bd,List.all_eq_true,List.mem_flatMap];rintro x ⟨m,_,hx⟩;simp only[aX.vals,List.mem_cons,List.not_mem_nil,or_false]at hx;rcases hx with rfl|rfl|rfl|rfl<;>rfl
def R5(hm:gB σ ms v)(hn:ms.length<=1000000)(cz:σ.f bn=some (.cells #[iV m.seq,sV m.key,sV m.body,.bool m.again] 193 (0,0)))(hi:i<=ms.length)(hv:∀off n c,v≠.slice (some ⟨bn,off,none⟩) n c):
 ay E 226 #[v,iV i,.slice (some ⟨bn,0,none⟩) 1 1] σ λe τ=>∃rv a o,e=.returned rv/\(σ.f a=none\/∃off n c z,v=.slice (some ⟨a,off,none⟩) n c/\σ.f a=some (.cells z 193 (0,0)))/\(∃z,o=.cells z 193 (0,0))/\(∀cC:Hp,cC.f a=some o->gB cC (ms.take i++m::ms.drop i) rv)/\(σ.set a o).le τ:=by
 refine aW func226 ntmps226 results226 λQ aC an aA=>?_;obtain⟨base,cap,rfl⟩:=hm.shape
 have jJ:ms.length<=cap:=by
  generalize hL:ms.length=L at hm|-
  cases hm with
  |none h0=>subst h0;simp
  |«at»a pre pad c h1 h2 h3=>exact h1
 have b1:(0:Int)<=i/\(i:Int)<=ms.length:=aa;refine ag ?_;refine⟨aa,?_⟩;by_cases c0:i=ms.length
 ·have u0:(i:Int)=ms.length:=aa;simp only[go_sem,seval,u0,decide_true];refine NG (v0:=.slice base ms.length cap) (m:=m) (bn:=bn) hm ?_ ?_ cz hn ?_
  ·exact au
  ·exact au
  intro rv a o h1 h2 h3;refine ag ?_;refine an aI ao ⟨rv,a,o,by simp[up],h1,h3,λτ fE=>?_,Hp.le_refl _⟩;rw[c0,List.take_length,List.drop_length];exact h2 τ fE
 ·have u0:¬(i:Int)=ms.length:=aa
  have hx:∃a pre pad,base=some ⟨a,List.length (α:=Value) pre,none⟩/\4*(cap-ms.length)<=List.length (α:=Value) pad/\σ.f a=some (.cells (pre++bd ms++pad).toArray 193 (0,0)):=by
   generalize hL:ms.length=L at hm
   cases hm with
   |none h0=>subst h0;exfalso;apply c0;simpa using hi
   |«at»a pre pad c h1 h2 h3=>exact⟨a,pre,pad,rfl,h2,h3⟩
  obtain⟨a,pre,pad,rfl,h2,h3⟩:=hx;have hia:i<ms.length:=aa;have w1:IntKind.i64.wrap ((ms.length:Int)+1)=((ms.length+1:Nat):Int):=cI;have w2:IntKind.i64.wrap (((ms.length+1:Nat):Int)-i)=((ms.length+1-i:Nat):Int):=cI;have w3:=fF i;have w4:IntKind.i64.wrap (1+(i:Int))=((i+1:Nat):Int):=by rw[Int.add_comm];exact w3
  have eD:(bd (ms.drop i)).length=4*(ms.length-i):=by rw[oW,List.length_drop]
  have eT:(bd (ms.take i)).length=4*i:=by rw[oW,List.length_take,Nat.min_eq_left hi]
  have eM:bd ms=bd (ms.take i)++bd (ms.drop i):=by unfold bd;rw[<-List.flatMap_append,List.take_append_drop]
  have eL:pre++bd ms++pad=(pre++bd (ms.take i))++(bd (ms.drop i)++pad):=by rw[eM];simp
  have eR:bd (ms.take i++m::ms.drop i)=bd (ms.take i)++(m.vals++bd (ms.drop i)):=by simp[bd]
  have GW:¬bn=a:=λe=>hv pre.length ms.length cap (by rw[e]);by_cases c1:cap<ms.length+1
  ·have u9:(((ms.length+1:Nat):Int))>(cap:Int):=aa;simp only[go_sem,seval,u0,w1,decide_true,decide_false];refine OA (e:=193) ah (b:=some ⟨a,pre.length,none⟩) (n:=ms.length) (c:=cap) ?_ ?_
   ·exact au
   simp only[go_sem,seval,u9,decide_true];refine⟨aa,?_⟩;refine bt w1 w2 ?_;refine Wc iD (base:=some ⟨a,pre.length,none⟩) (l:=i) (c:=cap) (n:=ms.length+1-i) (k:=.i64) (old:=(bd (ms.take i)).toArray) ah ?_ ?_ ai aa ?_ ?_ ai aa aa ?_
   ·simp only[go_sem,seval,ite_self,Nat.sub_zero]
   ·exact au
   ·show cellsOf σ ⟨a,pre.length,none⟩ (i*4)=_;have e:pre.length+i*4<=(pre++bd ms++pad).toArray.size:=by simp[oW];omega
    simp only[cellsOf,h3,true_and,if_pos e];congr 1;apply Array.ext';rw[eL];have:i*4=(bd (ms.take i)).length:=by rw[eT];omega
    simp[this]
   ·show(2*(i+(ms.length+1-i))+192)*48<=2^48;omega
   intro b cp hb hcp;have nb:¬bn=b:=bp hb cz;have vU:¬a=b:=bp hb h3;have k1:¬cp-i=0:=aa;have k2:¬cp-(i+1)=0:=aa;have k3:¬cap-i=0:=aa;refine ag ?_;refine⟨aa,?_⟩;refine ag ?_
   have eZ:∃Z:List Value,(Builtin.zeroCells iD.zero (ms.length+1-i)++Builtin.zeroCells iD.zero (cp-(i+(ms.length+1-i)))).toList=Z/\Z.length=4*(cp-i):=⟨_,rfl,by rw[Array.toList_append,List.length_append,ER,ER];omega⟩
   obtain⟨Z,hZ,JA⟩:=eZ
   have adO:((bd (ms.take i)).toArray++Builtin.zeroCells iD.zero (ms.length+1-i)++Builtin.zeroCells iD.zero (cp-(i+(ms.length+1-i))):Array Value)=(bd (ms.take i)++Z).toArray:=by rw[<-hZ];apply Array.ext';simp
   rw[adO];refine Fp iD (b:=b) (off:=0+i*4) (k:=1) (dl:=ms.length+1-i) (dc:=cp-i) (new:=m.vals) (L:=bd (ms.take i)++Z) (e:=193) ?_ ?_ ?_ aY ?_ ?_ ?_
   ·have e:i+(ms.length+1-i)-i=ms.length+1-i:=aa;have k1':¬cp=i:=aa;exact wG k1' e
   ·exact au
   ·have e:Nat.min 1 (ms.length+1-i)=1:=by show min _ _=_;omega
    refine aG e ?_;show cellsOf _ ⟨bn,0,none⟩ 4=_;simp[cellsOf,Hp.az nb,cz,aX.vals]
   ·simp[aX.vals,JA,eT];omega
   ·simp[aX.vals,de]
   have e4:m.vals.length=4:=rfl
   have s1:(bd (ms.take i)++Z).take (0+i*4)++m.vals++(bd (ms.take i)++Z).drop (0+i*4+m.vals.length)=(bd (ms.take i)++m.vals)++Z.drop 4:=by rw[List.take_left' (by rw[eT];omega),List.drop_append,List.drop_of_length_le (by rw[eT,e4];omega),eT,e4,List.nil_append];congr 2;omega
   rw[s1,Hp.set_set];refine ag ?_;refine bG 9 ?_;refine aG w3 ?_;refine⟨aa,?_⟩;refine ag ?_;refine⟨aa,?_⟩;refine ag ?_;refine Fp iD (b:=b) (off:=0+(i+1)*4) (k:=ms.length-i) (dl:=ms.length-i) (dc:=cp-(i+1)) (new:=bd (ms.drop i)) (L:=(bd (ms.take i)++m.vals)++Z.drop 4) (e:=193) ?_ ?_ ?_ aY ?_ ?_ ?_
   ·have e:i+(ms.length+1-i)-(i+1)=ms.length-i:=aa;have k2':¬cp=i+1:=aa;exact wG k2' e
   ·exact au
   ·have e:Nat.min (ms.length-i) (ms.length-i)=ms.length-i:=Nat.min_self _;have pO:¬cap=i:=aa;refine bt e pO ?_;show cellsOf _ ⟨a,pre.length+i*4,none⟩ ((ms.length-i)*4)=_;have e2:pre.length+i*4+(ms.length-i)*4<=(pre++bd ms++pad).toArray.size:=by simp[oW];omega
    simp only[cellsOf,Hp.az vU,h3,true_and,if_pos e2];congr 1;apply Array.ext';rw[eL];have e3:pre.length+i*4=(pre++bd (ms.take i)).length:=by rw[List.length_append,eT];omega
    have e4:(ms.length-i)*4=(bd (ms.drop i)).length:=by rw[eD];omega
    rw[e3,e4];simp
   ·simp[aX.vals,JA,eT,eD];omega
   ·exact SK _
   have s2:(bd (ms.take i)++m.vals++Z.drop 4).take (0+(i+1)*4)++bd (ms.drop i)++(bd (ms.take i)++m.vals++Z.drop 4).drop (0+(i+1)*4+(bd (ms.drop i)).length)=bd (ms.take i++m::ms.drop i)++(Z.drop 4).drop (bd (ms.drop i)).length:=by
    have e5:(bd (ms.take i)++m.vals).length=0+(i+1)*4:=by rw[List.length_append,eT,e4];omega
    rw[Mo e5,eR];simp
   rw[s2,Hp.set_set];refine fO ?_;refine ag ?_;refine an aI ao ⟨_,b,_,rfl,.inl hb,⟨_,rfl⟩,λτ fE=>?_,Hp.le_refl _⟩;have el:i+(ms.length+1-i)=(ms.take i++m::ms.drop i).length:=by simp;omega
   have:=gB.at (σ:=τ) (ms:=ms.take i++m::ms.drop i) b [] ((Z.drop 4).drop (bd (ms.drop i)).length) cp (by rw[<-el];exact hcp) (by rw[<-el,List.length_drop,List.length_drop,JA,eD];omega) (aZ fE);simp[up,el];simpa using this
  ·have u9:¬(((ms.length+1:Nat):Int))>(cap:Int):=aa;simp only[go_sem,seval,u0,w1,decide_false];refine OA (e:=193) ah (b:=some ⟨a,pre.length,none⟩) (n:=ms.length) (c:=cap) ?_ ?_
   ·exact au
   have k3:¬cap-i=0:=aa;have k4:¬cap-(i+1)=0:=aa;simp only[go_sem,seval,u9,w1,decide_false];refine⟨aa,?_⟩;simp only[go_sem,seval,w3,ite_self,Nat.sub_zero];refine⟨aa,?_⟩;have k5:¬cap=i+1:=aa;refine aG k5 ?_;refine ak2 (x:=pre++bd ms++pad) (y:=[iV m.seq,sV m.key,sV m.body,.bool m.again]) h3 cz (by simp[oW];omega) al GW ?_;refine ag ?_;refine bG 9 ?_;refine aG w3 ?_;refine⟨aa,?_⟩;refine aG k5 ?_;refine⟨aa,?_⟩;refine ag ?_;obtain⟨Y,hY⟩:∃Y,Y=bd (ms.drop i)++pad:=⟨_,rfl⟩;have FH:Y.length=4*(ms.length-i)+pad.length:=by rw[hY,List.length_append,eD]
   have pO:¬cap=i:=aa;refine Fp iD (b:=a) (off:=pre.length+(i+1)*4) (k:=ms.length+1-i) (dl:=ms.length-i) (dc:=cap-(i+1)) (new:=bd (ms.drop i)) (L:=pre++bd ms++pad) (e:=193) ?_ ?_ ?_ h3 ?_ ?_ ?_
   ·have e:ms.length+1-(i+1)=ms.length-i:=aa;exact wG k5 e
   ·exact au
   ·have e:Nat.min (ms.length+1-i) (ms.length-i)=ms.length-i:=by show min _ _=_;omega
    refine bt e pO ?_;show cellsOf _ ⟨a,pre.length+i*4,none⟩ ((ms.length-i)*4)=_;have e2:pre.length+i*4+(ms.length-i)*4<=(pre++bd ms++pad).toArray.size:=by simp[oW];omega
    simp only[cellsOf,h3,true_and,if_pos e2];congr 1;apply Array.ext';rw[eL];have e3:pre.length+i*4=(pre++bd (ms.take i)).length:=by rw[List.length_append,eT];omega
    have e4:(ms.length-i)*4=(bd (ms.drop i)).length:=by rw[eD];omega
    rw[e3,e4];simp
   ·simp[oW];omega
   ·exact SK _
   have s1:(pre++bd ms++pad).take (pre.length+(i+1)*4)++bd (ms.drop i)++(pre++bd ms++pad).drop (pre.length+(i+1)*4+(bd (ms.drop i)).length)=(pre++bd (ms.take i))++(Y.take 4++bd (ms.drop i)++Y.drop (4+(bd (ms.drop i)).length)):=by
    rw[eL,<-hY];have e5:(pre++bd (ms.take i)).length=pre.length+i*4:=by rw[List.length_append,eT];omega
    have e6:(pre++bd (ms.take i)++Y.take 4).length=pre.length+(i+1)*4:=by rw[List.length_append,e5,List.length_take,FH];omega
    have e7:pre++bd (ms.take i)++Y=(pre++bd (ms.take i)++Y.take 4)++Y.drop 4:=al;rw[e7,Mo e6,List.drop_drop];simp
   rw[s1];refine fO ?_;refine ag ?_;refine⟨aa,?_⟩;refine aG pO ?_;have e4:m.vals.length=4:=rfl;refine Fp iD (b:=a) (off:=pre.length+i*4) (k:=1) (dl:=ms.length+1-i) (dc:=cap-i) (new:=m.vals) (L:=(pre++bd (ms.take i))++(Y.take 4++bd (ms.drop i)++Y.drop (4+(bd (ms.drop i)).length))) (e:=193) ?_ ?_ ?_ aY ?_ ?_ ?_
   ·exact aK pO
   ·exact au
   ·have e:Nat.min 1 (ms.length+1-i)=1:=by show min _ _=_;omega
    refine aG e ?_;show cellsOf _ ⟨bn,0,none⟩ 4=_;simp[cellsOf,Hp.az GW,cz,aX.vals]
   ·simp only[List.length_append,List.length_take,List.length_drop,eT,eD,FH,e4];omega
   ·simp[aX.vals,de]
   have s2:((pre++bd (ms.take i))++(Y.take 4++bd (ms.drop i)++Y.drop (4+(bd (ms.drop i)).length))).take (pre.length+i*4)++m.vals++((pre++bd (ms.take i))++(Y.take 4++bd (ms.drop i)++Y.drop (4+(bd (ms.drop i)).length))).drop (pre.length+i*4+m.vals.length)=pre++bd (ms.take i++m::ms.drop i)++Y.drop (4+(bd (ms.drop i)).length):=by
    have e5:(pre++bd (ms.take i)).length=pre.length+i*4:=by rw[List.length_append,eT];omega
    have e6:(Y.take 4).length=4:=by rw[List.length_take,FH];omega
    rw[Mo e5,e4,List.append_assoc (Y.take 4),List.drop_left' e6,eR];simp
   rw[s2,Hp.set_set];refine ag ?_;refine an aI ao ⟨_,a,_,rfl,.inr ⟨_,_,_,_,rfl,h3⟩,⟨_,rfl⟩,λτ fE=>?_,Hp.le_refl _⟩;have el:ms.length+1=(ms.take i++m::ms.drop i).length:=by simp;omega
   have:=gB.at (σ:=τ) (ms:=ms.take i++m::ms.drop i) a pre (Y.drop (4+(bd (ms.drop i)).length)) cap (by rw[<-el];omega) (by rw[<-el,List.length_drop,FH,eD];omega) fE;simp[up,el];simpa using this
def N9(i:Nat)(hi:i=(ms.takeWhile λx=>decide (x.seq<m.seq)).length):jh ms m=ms.take i++{m with again:=true}::ms.drop i:=by
 have h1:=List.takeWhile_append_dropWhile (p:=λx:aX=>decide (x.seq<m.seq)) (l:=ms);unfold jh
 have e1:ms.take i=ms.takeWhile λx=>decide (x.seq<m.seq):=by
  conv=>lhs;rw[<-h1]
  rw[hi,List.take_left' rfl]
 have e2:ms.drop i=ms.dropWhile λx=>decide (x.seq<m.seq):=by
  conv=>lhs;rw[<-h1]
  rw[hi,List.drop_left' rfl]
 rw[e1,e2]
def OK(hm:gB σ ms v)(hn:ms.length<=1000000):
 ay E 227 #[v] σ λe τ=>∃rv,e=.returned rv/\gB τ ms rv/\σ.le τ/\∀a off n c,rv=.slice (some ⟨a,off,none⟩) n c->σ.f a=none/\∃o,τ.f a=some o:=by
 refine(ZJ hm hn).mono ?_;rintro e τ ⟨rv,rfl,h⟩;refine⟨rv,rfl,?_⟩;rcases h with⟨rfl,rfl,rfl⟩|⟨a,c,pad,rfl,h1,h2,h3,h4,h5⟩
 ·exact⟨.none rfl,Hp.le_refl _,λa off n c h=>by simp at h⟩
 ·refine⟨?_,h5,λa' off n c' h=>?_⟩
  ·exact .at a [] pad c h2 h3 (h4 _ _ (by rw[Hp.bD];simp))
  ·simp only[Value.slice.injEq,Option.some.injEq,Addr.mk.injEq]at h;obtain⟨⟨rfl,_⟩,_⟩:=h;exact⟨h1,_,h4 _ _ aY⟩
def N8{q:Nat}{o oq Tt:Obj}{τ gX:Hp}(hq:σ.f q=some oq)(ha:σ.f a=none)(h1:σ.le τ)(h2:(τ.set a o).le gX):((σ.set a o).set q Tt).le (gX.set q Tt):=by
 refine gW (λx p hx=>?_) _ _;by_cases e:x=a
 ·subst e;rw[Hp.bD]at hx;exact h2 _ _ (by rw[Hp.bD];exact hx)
 ·rw[Hp.az e]at hx;exact h2 _ _ (by rw[Hp.az e];exact h1 _ _ hx)
def Xa{q:Nat}{rv cons:Value}{name:List UInt8}{held last:Int}(hq:σ.f q=some (fw name rv held last cons))(hm:gB σ ms rv)(hn:ms.length<=1000000)(hs:ms.Pairwise λa b=>a.seq<b.seq):
 ay E 187 #[pV q,m.v] σ λe τ=>e=.returned (.tuple #[])/\∃iU a o,σ.f a=none/\(∃z,o=.cells z 193 (0,0))/\(∀cC:Hp,cC.f a=some o->gB cC (jh ms m) iU)/\((σ.set a o).set q (fw name iU held last cons)).le τ:=by
 refine aW func187 ntmps187 results187 λQ aC an aA=>?_;obtain⟨base,cap,rfl⟩:=hm.shape;simp only[fw]at hq;simp only[go_sem,seval,aX.v];refineλb hb=>?_;have n1:∀{x o},σ.f x=some o->¬x=b:=λh e=>by subst e;rw[hb]at h;cases h
 refine ag ?_;rw[Hp.set_set];have jf:∀o,(σ.set b o).f q=_:=λo=>(Hp.az (n1 hq)).trans hq;have jV:∀o,σ.le (σ.set b o):=λo=>jZ hb;refine bG 12 ?_;refine aG jf ?_;refine dC acj (XZ (hm.le (jV _)) hn hs) ?_ (λch ae ⟨⟨_,h⟩,_⟩=>by cases h);rintro v τ ⟨⟨bb,hv⟩,nQ⟩;obtain⟨i,hi⟩:∃i,i=(ms.takeWhile λx=>decide (x.seq<m.seq)).length:=⟨_,rfl⟩;obtain rfl:v=.tuple #[iV i,.bool bb]:=by rw[hi];injection hv
 have tH:i<=ms.length:=by rw[hi];exact(List.takeWhile_sublist _).length_le
 have gD:=nQ _ _ (jf _);refine⟨dG jf,?_⟩;refine ag ?_;have eQ:=nQ _ _ (Hp.bD (σ:=σ) b _);refine MT 5 8 [0,1,2,3,4,6,7,5,8,9,10,11,12] [0,1,2,3,4,6,7,8,5,9,10,11,12] (λ_ _ _=>False) ah ir (λ_ _ _ _ h=>h.elim) ?_ ?_<;>simp only[gY,List.modify_toArray,List.modify_succ_cons,List.modify_zero_cons]
 ·refine bt gD eQ ?_;refine aL (OK (hm.le (Hp.le_trans (jV _) nQ)) hn) ?_;rintro v dv ⟨rv,hv,yV,qE,gP⟩
  cases hv
  have lE:=qE _ _ gD;have gN:=qE _ _ eQ;refine⟨dG gN,?_⟩;refine ag ?_;refineλbn cz=>?_;have nR:∀o,dv.le (dv.set bn o):=λo=>jZ cz;have Dk:=λo=>nR o _ _ lE;have yI:=λo=>nR o _ _ gN;refine⟨iP Dk yI,?_⟩;refine ag ?_;refine aL (R5 (m:={m with again:=true}) (i:=i) (yV.le (nR _)) hn aY tH (λoff n c h=>?_)) ?_
  ·obtain⟨_,o,ho⟩:=gP _ _ _ _ h;rw[cz]at ho;cases ho
  rintro v gX ⟨iU,a,o,hv,h1,h2,h3,h4⟩
  cases hv
  have yR:σ.le τ:=Hp.le_trans (jV _) nQ
  have yH:σ.f a=none:=by
   cases hs:σ.f a with
   |none=>rfl
   |some p=>
    rcases h1 with h1|⟨off,n,c,z,h1,_⟩
    ·rw[nR _ _ _ (qE _ _ (yR _ _ hs))]at h1;cases h1
    ·have:=(gP _ _ _ _ h1).1;rw[yR _ _ hs]at this;cases this
  have vA:gX.f q=_:=h4 _ _ ((Hp.az (bp hq yH)).trans (Dk _));obtain⟨b',c',KE⟩:=(h3 (σ.set a o) aY).shape;subst KE;refine⟨dG vA,?_⟩;refine aG vA ?_;refine⟨dG vA,?_⟩;refine aC du ao ⟨rfl,_,a,o,yH,h2,λcC fE=>?_,N8 hq yH (Hp.le_trans yR (Hp.le_trans qE (nR _))) h4⟩;rw[N9 i hi];exact h3 cC fE
 ·refine bt gD eQ ?_;refineλbn cz=>?_;have nR:∀o,τ.le (τ.set bn o):=λo=>jZ cz;have Dk:=λo=>nR o _ _ gD;have yI:=λo=>nR o _ _ eQ;refine⟨dG Dk,?_⟩;refine ag ?_;refine aL (OK (hm.le (Hp.le_trans (Hp.le_trans (jV _) nQ) (nR _))) hn) ?_;rintro v dv ⟨rv,hv,yV,qE,gP⟩
  cases hv
  have lE:=qE _ _ (Dk _);have gN:=qE _ _ (yI _);refine⟨iP lE gN,?_⟩;refine ag ?_;refine aL (R5 (m:={m with again:=true}) (i:=i) yV hn (qE _ _ aY) tH (λoff n c h=>?_)) ?_
  ·have:=(gP _ _ _ _ h).1;rw[Hp.bD]at this;cases this
  rintro v gX ⟨iU,a,o,hv,h1,h2,h3,h4⟩
  cases hv
  have yR:σ.le τ:=Hp.le_trans (jV _) nQ
  have yH:σ.f a=none:=by
   cases hs:σ.f a with
   |none=>rfl
   |some p=>
    rcases h1 with h1|⟨off,n,c,z,h1,_⟩
    ·rw[qE _ _ (nR _ _ _ (yR _ _ hs))]at h1;cases h1
    ·have:=(gP _ _ _ _ h1).1;rw[nR _ _ _ (yR _ _ hs)]at this;cases this
  have vA:gX.f q=_:=h4 _ _ ((Hp.az (bp hq yH)).trans lE);obtain⟨b',c',KE⟩:=(h3 (σ.set a o) aY).shape;subst KE;refine⟨dG vA,?_⟩;refine aG vA ?_;refine⟨dG vA,?_⟩;refine aC du ao ⟨rfl,_,a,o,yH,h2,λcC fE=>?_,N8 hq yH (Hp.le_trans yR (Hp.le_trans (nR _) qE)) h4⟩;rw[N9 i hi];exact h3 cC fE
section
variable {c:Nat}{v:Value}
variable {α:Type}[DecidableEq α]{l:List (α×Value×Nat)}{kv:List (α×Value)}{k:α}
abbrev uu (l:List (α×Value×Nat)):List (α×Value):=l.map λe=>(e.1,e.2.1)
def rE (o:pg l c)(p:(uu l).Perm kv)(h:(k,v)∈kv):∃st,dn l k=some (k,v,st):=by
 obtain⟨e,he,h2⟩:=List.mem_map.1 (p.mem_iff.2 h)
 cases h2
 refine⟨e.2.2,?_⟩;unfold dn;rw[List.find?_eq_some_iff_append];obtain⟨s,t,bw⟩:=List.append_of_mem he;refine⟨al,s,t,bw,λa ha=>?_⟩;have hu:=o.uniq;unfold jD at hu;rw[bw,List.map_append,List.nodup_append]at hu;simpa usingλe2=>hu.2.2 _ (List.mem_map_of_mem ha) _ al e2
def map_none (p:(uu l).Perm kv)(h:∀e∈kv,e.1≠k):dn l k=none:=by unfold dn;rw[List.find?_eq_none];intro e he;have:(e.1,e.2.1)∈kv:=p.mem_iff.1 (List.mem_map_of_mem he);simpa using h _ this
def D1 (o:pg l c)(p:(uu l).Perm kv)(h:∀e∈kv,e.1≠k)(v:Value):pg (ji l k v c) (ju l k c)/\(uu (ji l k v c)).Perm ((k,v)::kv):=by
 have hn:=map_none p h;simp only[ji,ju,hn,Option.isSome_none,Bool.false_eq_true,if_false];refine⟨⟨?_,?_,?_⟩,?_⟩
 ·have hu:=o.uniq;unfold jD at hu|-;rw[List.map_append,List.nodup_append];refine⟨hu,al,?_⟩;intro a ha b hb;obtain⟨e,he,rfl⟩:=List.mem_map.1 ha;simp only[List.map_cons,List.map_nil,List.mem_singleton]at hb;subst hb;exact h _ (p.mem_iff.1 (List.mem_map_of_mem he))
 ·intro e he;rcases List.mem_append.1 he with he|he
  ·have:=o.old e he;omega
  ·simp only[List.mem_singleton]at he;subst he;simp
 ·rw[List.map_append,List.nodup_append];refine⟨o.nd,al,?_⟩;intro a ha b hb;obtain⟨e,he,rfl⟩:=List.mem_map.1 ha;simp only[List.map_cons,List.map_nil,List.mem_singleton]at hb;subst hb;have:=o.old e he;omega
 ·simp only[uu,List.map_append,List.map_cons,List.map_nil];exact List.perm_append_comm.trans (p.cons _)
def DZ (o:pg l c)(p:(uu l).Perm kv)(k:α):pg (rF l k) c/\(uu (rF l k)).Perm (kv.filter λe=>decide (e.1≠k)):=by
 refine⟨⟨?_,λe he=>o.old e (List.mem_filter.1 he).1,?_⟩,?_⟩
 ·exact List.Nodup.sublist (List.Sublist.map _ List.filter_sublist) o.uniq
 ·exact List.Nodup.sublist (List.Sublist.map _ List.filter_sublist) o.nd
 ·have e1:uu (rF l k)=(uu l).filter λe=>decide (e.1≠k):=by unfold rF uu;rw[List.filter_map];rfl
  rw[e1];exact p.filter _
end
def aiX{c:Nat}:pg ([]:List (α×Value×Nat)) c:=⟨by simp[jD],al,al⟩
section
variable {E:Env prog}{σ:Hp}{c:Nat}{v:Value}{H:Hid}{n:N}{X:Ext}{no:Nat}{h:HN}{nm:List UInt8}{q:QN}{m:aX}{tag:Nat}{back:Bool}
variable {A:Lay}{id:Int}
def apw (f:Nat×(List UInt8×aX)->Value)(un:List (Nat×(List UInt8×aX))):((un.map λe=>((e.1:Int),f e)).filter λe=>decide (e.1≠(tag:Int)))=(cF un tag).map λe=>((e.1:Int),f e):=by unfold cF;rw[List.filter_map];congr 1;apply List.filter_congr;intro e _;simp only[Function.comp,decide_eq_decide];omega
def Ob {ms:List aX}{rv:Value}{b:Nat}{o:Obj}(ho:∀cC:Hp,cC.f b=some o->gB cC ms rv)(tK:ms≠[]):kC rv=false/\po rv=b/\oo (.eP rv ms) o:=by
 have h:=ho ⟨λx=>if x=b then some o else none⟩ al
 cases h with
 |none e=>exact absurd e tK
 |«at»a pre pad c h1 h2 h3=>
  by_cases e:a=b
  ·subst e;simp only[if_true,Option.some.injEq]at h3;exact⟨rfl,rfl,a,pre,pad,c,rfl,h1,h2,h3⟩
  ·simp[e]at h3
def Uo (a:aq A H n X σ)(hh:n.h? id no=some h)(hu:bu h.un tag=some (nm,m))(hq:n.q? nm=some q)(b1:1<=q.held/\q.held<=1000000)(b2:q.ready.length<=1000000)(hs:q.ready.Pairwise λa b=>a.seq<b.seq):
 ay E 142 #[pV (A.chan id no),iV tag,.bool back] σ λe τ=>e=.returned (.tuple #[])/\At A (n.settle id no tag back) X τ:=by
 refine aW func142 ntmps142 results142 λQ aC an aA=>?_;obtain⟨l,c,fL,gR,ic⟩:=a.un hh;obtain⟨st,hf⟩:=rE gR ic (List.mem_map_of_mem (f:=λe:Nat×(List UInt8×aX)=>((e.1:Int),tG (A.queue e.2.1) e.2.2)) (iJ hu));have wh:IntKind.i64.wrap (q.held-1)=q.held-1:=wrap64 aa aa;refine aG (a.bW hh) ?_;refine jM (b:=A.un id no) (k:=(tag:Int)) (l:=l) (c:=c) A6 (z:=.agg #[.pointer none,iV 0,sV [],sV [],.bool false]) ah ?_ fL ?_ ?_
 ·exact au
 ·exact au
 have dk:((dn l (tag:Int)).map (·.2.1)).getD (.agg #[.pointer none,iV 0,sV [],sV [],.bool false])=.agg #[pV (A.queue nm),iV m.seq,sV m.key,sV m.body,.bool m.again]:=by rw[hf];rfl
 rw[if_neg Bool.false_ne_true,dk];refine ag ?_;refineλb6 pF=>?_;refine ag ?_;rw[Hp.set_set];have a6:=λo=>a.iH pF o;have h6:=λo=>(a6 o).bW hh;obtain⟨d1,d2⟩:=DZ gR ic (tag:Int);refine aG h6 ?_;refine Ch (b:=A.un id no) (k:=(tag:Int)) (l:=l) (c:=c) A6 gR.uniq ?_ (jZ pF _ _ fL) ?_ ?_
 ·exact au
 ·exact au
 have a7:=λo=>(a6 o).Ul hh (λh=>{h with un:=cF h.un tag}) rfl rfl (o:=aU aV (rF l tag) c) ⟨_,_,rfl,d1,by simp only;rw[<-apw (tag:=tag) (f:=λe=>tG (A.queue e.2.1) e.2.2)];exact d2⟩;have x7:=λo=>(a7 o).eC;have Rw:(n.bB id no λh=>{h with un:=cF h.un tag}).q? nm=some q:=hq;have q7:=λo=>(a7 o).sY Rw;simp only at x7;have a8:=λo=>(a7 o).Hj Rw (λq=>{q with held:=q.held-1}) rfl rfl;have x8:=λo=>(a8 o).eC;simp only[fw]at x8;refine bO x7 q7 wh ?_
 have es:n.settle id no tag back=((n.bB id no λh=>{h with un:=cF h.un tag}).bL nm λq=>{q with held:=q.held-1}).bL nm λq=>{q with ready:=if back then jh q.ready m else q.ready}:=by unfold N.settle;rw[hh];simp only[Option.bind_some,hu];rw[EH]
 cases back with
 |false=>
  refine ag ?_;refine aC du ao ⟨rfl,H,?_⟩;rw[es];simp only[Bool.false_eq_true,if_false];rw[apH];exact(a8 _).oD
 |true=>
  refine aG x8 ?_;have Dl:((n.bB id no λh=>{h with un:=cF h.un tag}).bL nm λq=>{q with held:=q.held-1}).q? nm=some {q with held:=q.held-1}:=by simp[hq]
  refine aL (Xa (m:=m) ((a8 _).queue Dl) ((a8 _).eP Dl) b2 hs) ?_;rintro v τ ⟨hv,iU,b,o,hb,⟨z,hz⟩,ho,hle⟩
  cases hv
  refine ag ?_;refine aC du ao ⟨rfl,H.jv nm iU,?_⟩;obtain⟨_,k2,k3⟩:=Ob ho (by simp[jh]);rw[es];exact(((a8 _).Me Dl (λq=>{q with ready:=jh q.ready m}) rfl (Hl.tk (a8 _) (.eP nm) hb) (o:=o) (rv:=iU) k3 k2).le hle).oD
end
variable {O:Type}{l:List (α×O)}
def GZ(nd:(l.map (·.1)).Nodup){j:Nat}(hj:j<l.length):∀e∈l.take j,¬e.1=l[j].1:=by intro e he hx;obtain⟨i,hi,rfl⟩:=List.getElem_of_mem he;rw[List.length_take]at hi;rw[List.getElem_take]at hx;have h1:(l.map (·.1))[i]'(by simp;omega)=(l.map (·.1))[j]'(aZ hj):=aZ hx;exact(List.pairwise_iff_getElem.1 nd) i j (by simp;omega) (aZ hj) aa h1
theorem SE{x:aX}{R:List aX}:jh (x::R) m=if x.seq<m.seq then x::jh R m else{m with again:=true}::x::R:=by unfold jh;by_cases h:x.seq<m.seq<;>simp[h,List.takeWhile_cons,List.dropWhile_cons]
theorem SD {a b:aX}(h:a.seq≠b.seq):∀R:List aX,jh (jh R a) b=jh (jh R b) a
 |[]=>by
  show jh [_] b=jh [_] a;simp only[SE]
  (repeat' split)<;>first|rfl|omega
 |x::R=>by
  have ih:=SD h R;simp only[SE,ih,apply_ite λl=>jh l a,apply_ite λl=>jh l b]
  (repeat' split)<;>first|rfl|omega
def V3 [DecidableEq α]{k k':α}(h:k≠k')(f g:O->O):dz (dz l k f) k' g=dz (dz l k' g) k f:=by
 unfold dz;rw[List.map_map,List.map_map];refine List.map_congr_left λe _=>?_;by_cases h1:e.1=k<;>by_cases h2:e.1=k'<;>simp[h1,h2]
 all_goals first|exact absurd (h1.symm.trans h2) h|simp_all
def tf(l:List (Nat×(List UInt8×aX))):Prop:=∀e∈l,∀f∈l,e.1≠f.1->e.2.1=f.2.1->e.2.2.seq≠f.2.2.seq
section
variable {n:N}{no:Nat}{h:HN}{q:QN}{m:aX}
variable {id:Int}
theorem anL (n:N)(id:Int)(no t:Nat)(b:Bool):n.settle id no t b=n\/∃h e,n.h? id no=some h/\bu h.un t=some e/\n.settle id no t b=(n.bB id no λh=>{h with un:=cF h.un t}).bL e.1 λq=>{q with held:=q.held-1,ready:=if b then jh q.ready e.2 else q.ready}:=by
 unfold N.settle
 cases hh:n.h? id no with
 |none=>exact .inl rfl
 |some h=>cases hu:bu h.un t with
  |none=>simp[hu]
  |some e=>exact .inr ⟨h,e,rfl,hu,by simp[hu]⟩
theorem anK {t u:Nat}{b:Bool}(D:∀h,n.h? id no=some h->tf h.un):(n.settle id no t b).settle id no u b=(n.settle id no u b).settle id no t b:=by
 by_cases AW:t=u
 ·rw[AW]
 have S:∀{m:N} {t:Nat} {h:HN} {e},m.h? id no=some h->bu h.un t=some e->m.settle id no t b=(m.bB id no λh=>{h with un:=cF h.un t}).bL e.1 λq=>{q with held:=q.held-1,ready:=if b then jh q.ready e.2 else q.ready}:=λh1 h2=>by unfold N.settle;rw[h1];simp[h2]
 have Z:∀{m:N} {t:Nat} {h:HN},m.h? id no=some h->bu h.un t=none->m.settle id no t b=m:=λh1 h2=>by unfold N.settle;rw[h1];simp[h2]
 cases hh:n.h? id no with
 |none=>unfold N.settle;simp[hh]
 |some h=>
  have A:∀{t:Nat} {w:List UInt8} {g:QN->QN},((n.bB id no λh=>{h with un:=cF h.un t}).bL w g).h? id no=some {h with un:=cF h.un t}:=λ{t w g}=>by show(n.bB id no λh=>{h with un:=cF h.un t}).h? id no=_;rw[jI,if_pos ⟨rfl,rfl⟩,hh];rfl
  have U:∀{t u:Nat},t≠u->bu (cF h.un t) u=bu h.un u:=λh=>by rw[BZ,if_neg λe=>h e.symm]
  cases ht:bu h.un t with
  |none=>rw[Z hh ht];cases hu:bu h.un u with
   |none=>rw[Z hh hu,Z hh ht]
   |some f=>rw[S hh hu,Z A (show bu (cF h.un u) t=none by rw[U λe=>AW e.symm,ht])]
  |some e=>cases hu:bu h.un u with
   |none=>rw[Z hh hu,S hh ht,Z A (show bu (cF h.un t) u=none by rw[U AW,hu])]
   |some f=>
    rw[S hh ht,S hh hu,S A (show bu (cF h.un t) u=some f by rw[U AW,hu]),S A (show bu (cF h.un u) t=some e by rw[U λe=>AW e.symm,ht])];have c1:∀{m:N} {w:List UInt8} {g:QN->QN} {k:HN->HN},(m.bL w g).bB id no k=(m.bB id no k).bL w g:=rfl
    have c3:((n.bB id no λh=>{h with un:=cF h.un t}).bB id no λh=>{h with un:=cF h.un u})=(n.bB id no λh=>{h with un:=cF h.un u}).bB id no λh=>{h with un:=cF h.un t}:=by rw[MO,MO];congr 1;funext h;simp only[HN.mk.injEq,true_and,and_true];unfold cF;rw[List.filter_filter,List.filter_filter];congr 1;funext x;exact Bool.and_comm _ _
    rw[c1,c1,c3];by_cases hq:e.1=f.1
    ·rw[hq,EH,EH];congr 1;funext q;have:=D h hh _ (iJ ht) _ (iJ hu) AW hq
     cases b
     ·rfl
     ·simp only[if_true,SD this]
    ·unfold N.bL;simp only[V3 hq]
theorem anD {t:Nat}{b:Bool}(D:∀h,n.h? id no=some h->tf h.un):∀h,(n.settle id no t b).h? id no=some h->tf h.un:=by
 rcases anL n id no t b with e|⟨g,e,hg,_,hs⟩
 ·rw[e];exact D
 ·intro h hh;rw[hs]at hh;have:=jI (n:=n) (id:=id) (no:=no) (aJ:=id) (dw:=no) (g:=λh=>{h with un:=cF h.un t});rw[if_pos ⟨rfl,rfl⟩,hg]at this
  cases hh.symm.trans this
  exactλe he f hf=>D _ hg e (List.mem_filter.1 he).1 f (List.mem_filter.1 hf).1
theorem Um {p:Nat->Bool}{b:Bool}{l m:List (Nat×(List UInt8×aX))}(hp:l.Perm m):∀{n:N},(∀h,n.h? id no=some h->tf h.un)->n.jx id no p b l=n.jx id no p b m:=by
 have step:∀{n:N} {e:Nat×(List UInt8×aX)},(∀h,n.h? id no=some h->tf h.un)->∀h,(if p e.1 then n.settle id no e.1 b else n).h? id no=some h->tf h.un:=λD=>by split;exact anD D;exact D
 induction hp with
 |nil=>intro n _;rfl
 |cons e _ ih=>intro n D;exact ih (step D)
 |swap e f l=>
  intro n D;show List.foldl _ _ l=List.foldl _ _ l;congr 1;by_cases h1:p e.1=true<;>by_cases h2:p f.1=true<;>simp only[h1,h2,if_true,if_false,Bool.false_eq_true];exact anK D
 |trans _ _ i j=>intro n D;rw[i D,j D]
end
end Go.Qw
