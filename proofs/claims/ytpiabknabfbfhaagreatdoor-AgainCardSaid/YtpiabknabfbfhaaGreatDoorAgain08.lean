/- 8 -/
import Derived.Sort.AssemblyPlain
import Derived.Test.YtpiabknabfbfhaaGreatDoorAgain07
set_option linter.all false
set_option maxRecDepth 100000
set_option maxHeartbeats 8000000
namespace Go.Qw
open Go Go.Conc Go.Proofs Go.Proofs.Tryz
variable {E:Env prog}{U:Hp}{y:Int}
def abC{x:Int}:ay E 225 #[iV x,iV y] U λe J=>e=.returned (iV (if x<y then-1 else if y<x then 1 else 0))/\J=U:=by
 refine fR func225 ntmps225 results225 rfl al λQ aD an aA=>?_;refine ag ?_;refine aT LW ?_;refine ag ?_;refine aT LW ?_;refine ag ?_;by_cases h1:x<y
 ·simp only[go_sem,seval,h1,decide_true];exact an aI ao ⟨by simp[up,h1],rfl⟩
 ·by_cases h2:y<x
  ·simp only[go_sem,seval,h1,h2,decide_true,decide_false];exact an aI ao ⟨by simp[up,h1,h2],rfl⟩
  ·simp only[go_sem,seval,h1,h2,decide_false];exact an aI ao ⟨by simp[up,h1,h2],rfl⟩
variable {m:aM}
def P1:ay E 224 #[m.v,iV y] U λe J=>e=.returned (iV (if m.seq<y then-1 else if y<m.seq then 1 else 0))/\U.le J:=by refine fR func224 ntmps224 results224 rfl al λQ aD an aA=>?_;simp only[go_sem,seval,aM.v];refineλb hb=>?_;simp only[go_sem,seval];refine PH aec abC ?_;simp only[go_sem,seval];exact an aI ao ⟨by simp[up],kG hb⟩
variable {ms:List aM}{v:Value}
def abr(hm:gN U ms v)(hn:ms.length<=1000000):
 ay E 227 #[v] U λe J=>∃rv,e=.returned rv/\(rv=.slice none 0 0/\ms=[]/\J=U\/∃a c pad,rv=.slice (some ⟨a,0,none⟩) ms.length c/\U.f a=none/\ms.length<=c/\4*(c-ms.length)<=List.length (α:=Value) pad/\(U.set a (.cells (bd ms++pad).toArray 193 (0,0))).le J/\U.le J):=by
 refine aX func227 ntmps227 results227 λQ aD an aA=>?_;have IB:prog.underlying 78=some (.slice 193):=ah
 cases hm with
 |none h0=>
  subst h0;refine ag ?_;refine Qx IB (b:=none) (n:=0) (c:=0) ?_ ?_ ?_
  ·exact au
  ·exact au
  simp only[go_sem,seval,Option.isNone_none];exact an aI ao ⟨_,rfl,.inl ⟨by simp[up],rfl,rfl⟩⟩
 |«at»a pre pad c h1 h2 h3=>
  refine ag ?_;refine Qx IB (b:=some ⟨a,pre.length,none⟩) (n:=ms.length) (c:=c) ?_ ?_ ?_
  ·exact au
  ·exact au
  simp only[go_sem,seval,Option.isNone_some];refineλb hb=>?_;have HI:¬a=b:=bj hb h3;have e2:ms.length*4=(bd ms).length:=by rw[pC];omega
  have iX:∀o,jc (U.set b o) iU.z ms.length (.slice (some ⟨a,pre.length,none⟩) ms.length c)=some (bd ms).toArray:=by
   intro o;show(cellsOf (U.set b o) ⟨a,pre.length,none⟩ (ms.length*4))=_;have e:pre.length+ms.length*4<=pre.length+(bd ms).length+pad.length:=by rw[pC];omega
   simp only[cellsOf,Hp.az HI,h3,List.size_toArray,List.length_append,true_and,if_pos e];congr 1;apply Array.ext';simp[e2]
  refine ag ?_;refine sU iU (base:=some ⟨b,0,none⟩) (l:=0) (c:=0) (n:=ms.length) (old:=#[]) (new:=(bd ms).toArray) ah ?_ ?_ ?_ (by simp only[go_sem,seval];exact iX _) ?_ aa ?_ ?_
  ·exact au
  ·exact au
  ·show(cellsOf _ ⟨b,0,none⟩ (0*4))=_;simp[cellsOf,Hp.bD]
  ·show(2*(0+ms.length)+192)*48<=2^48;omega
  ·intro h0;have G1:ms=[]:=List.length_eq_zero_iff.1 aa;subst G1;refine⟨_,⟨_,_,aZ,rfl,by simp[bd],by simp[bd],rfl⟩,?_⟩;simp only[go_sem,seval,Nat.zero_add,List.length_nil];refine an aI ao ⟨_,rfl,.inr ⟨b,0,[],by simp[up],hb,Nat.le_refl _,al,?_,?_⟩⟩
   ·simp[bd];exact Hp.le_refl _
   ·exact kG hb
  ·intro hc b2 cap fO j0
   have tC:U.f b2=none:=by
    cases hs:U.f b2 with
    |none=>rfl
    |some o=>have:=kG (o:=.cells #[] 193 (0,0)) hb b2 o hs;rw[Hp.az (bj hs hb)]at fO;rw[hs]at fO;cases fO
   simp only[go_sem,seval,Nat.zero_add]at j0|-;refine an aI ao ⟨_,rfl,.inr ⟨b2,cap,(Builtin.zeroCells iU.zero (cap-ms.length)).toList,by simp[up],tC,j0,by rw[FA];omega,?_,?_⟩⟩
   ·have e3:((bd ms).toArray++Builtin.zeroCells iU.zero (cap-ms.length))=(bd ms++(Builtin.zeroCells iU.zero (cap-ms.length)).toList).toArray:=by apply Array.ext';simp
    rw[<-e3];exact Ew (kG hb) _ _
   ·exact Hp.le_trans (kG hb) (kG fO)
variable {pad:List Value}{i:Nat}
def ajY{pre:List Value}(hi:i<ms.length):∃p2 q2,pre++bd ms++pad=p2++ms[i].vals++q2/\p2.length=pre.length+i*4:=by
 refine⟨pre++bd (ms.take i),bd (ms.drop (i+1))++pad,?_,?_⟩
 ·have this:bd ms=bd (ms.take i)++(ms[i].vals++bd (ms.drop (i+1))):=by
   have h1:bd (ms.take i)++bd (ms.drop i)=bd ms:=by unfold bd;rw[<-List.flatMap_append,List.take_append_drop]
   rw[<-h1,<-List.getElem_cons_drop hi];rfl
  rw[this];simp
 ·rw[List.length_append,pC,List.length_take];omega
variable {α:Type}
def aqU{l:List α}{p:α->Bool}(h1:∀x∈l.take i,p x=true)(h2:∀x∈l.drop i,p x=false)(hi:i<=l.length):(l.takeWhile p).length=i/\l.takeWhile p=l.take i/\l.dropWhile p=l.drop i:=by
 have e1:l.takeWhile p=l.take i:=by
  conv=>lhs;rw[<-List.take_append_drop i l]
  rw[List.takeWhile_append_of_pos h1]
  cases hd:l.drop i with
  |nil=>simp
  |cons a t=>simp[h2 a (by rw[hd];simp)]
 refine⟨by rw[e1,List.length_take];omega,e1,?_⟩;have e2:=List.takeWhile_append_dropWhile (p:=p) (l:=l);rw[e1]at e2;have e3:=List.take_append_drop i l;exact List.append_cancel_left (e2.trans e3.symm)
def ZO{no:Int}(hm:gN U ms v)(hn:ms.length<=1000000)(hs:ms.Pairwise λa b=>a.seq<b.seq):
 ay E 223 #[v,iV no,.func (.func 224) #[] #[]] U λe J=>(∃b:Bool,e=.returned (.tuple #[iV ((ms.takeWhile λx=>decide (x.seq<no)).length:Nat),.bool b]))/\U.le J:=by
 refine aX func223 ntmps223 results223 λQ aD an aA=>?_;obtain⟨base,cap,rfl⟩:=hm.shape
 have ij:∀{J:Hp},U.le J->∀i (hi:i<ms.length),∃a off p2 q2,base=some ⟨a,off,none⟩/\J.f a=some (.cells (p2++ms[i].vals++q2).toArray 193 (0,0))/\p2.length=off+i*4:=by
  intro J hle i hi;generalize hl:ms.length=L at hm
  cases hm with
  |none h0=>subst h0;simp at hi
  |«at»a pre pad c h1 h2 h3=>
   obtain⟨p2,q2,e1,e2⟩:=ajY (pre:=pre) (pad:=pad) hi;exact⟨a,pre.length,p2,q2,rfl,by rw[<-e1];exact hle _ _ h3,e2⟩
 refine ag ?_;refine di (λm I ds ae=>ds=[]/\I 0=.slice base ms.length cap/\I 1=iV no/\I 2=.func (.func 224) #[] #[]/\I 8=iV ms.length/\U.le ae/\∃i j:Nat,m=j-i/\i<=j/\j<=ms.length/\I 9=iV i/\I 10=iV j/\(∀x∈ms.take i,x.seq<no)/\(∀x∈ms.drop j,¬x.seq<no)) ms.length ?_ ?_
 ·refine⟨rfl,?_,?_,?_,?_,Hp.le_refl _,0,ms.length,al,aa,aa,?_,?_,al,al⟩<;>exact au
 ·rintro m I ds ae X ⟨rfl,h0,h1,h2,h8,hle,i,j,rfl,qV,hj,h9,bC,Bu,DN⟩ hX;by_cases c0:i<j
  ·have vM:(i:Int)<j:=aa;have w1:IntKind.i64.wrap ((i:Int)+j)=((i+j:Nat):Int):=cH
   have wu:∀k:Nat,k<=2000000->IntKind.u64.wrap (k:Int)=k:=λk hk=>by have:((k:Int) % 18446744073709551616)=k:=aa;simpa[IntKind.wrap,IntKind.bits,IntKind.signed]using this
   have ws:yB .u64 ((i+j:Nat):Int) 1=(((i+j)/2:Nat):Int):=by show Int.fdiv _ (2^(min (1:Int).toNat 64))=_;rw[show(2:Int)^(min (1:Int).toNat 64)=2 from rfl,Int.fdiv_eq_ediv_of_nonneg _ aa];omega
   obtain⟨h,hh⟩:∃h,h=(i+j)/2:=⟨_,rfl⟩;have nH:i<=h/\h<j:=aa;obtain⟨a,off,p2,q2,rfl,hf,e2⟩:=ij hle h aa;have w2:IntKind.i64.wrap (((i+j)/2:Nat):Int)=h:=by rw[<-hh];exact wrap64 aa aa
   have w3:=fQ h;have b1:(0:Int)<=h/\(h:Int)<ms.length:=aa;simp only[go_sem,seval,h0,h2,h9,bC,vM,decide_true,w1,wu (i+j) aa,ws,w2];refine⟨b1,?_⟩;refine ag ?_;refine MP (pre:=p2) (pad:=q2) (m:=ms[h]) (e:=193) hf (by simp[e2]) ?_;refine aJ h1 ?_;rw[EZ (f:=224) (l:=#[]) (cap:=#[]) au];refine ag ?_;refine aK P1 ?_;rintro v J ⟨hv,ov⟩
   cases hv
   have qY:=Hp.le_trans hle ov;by_cases c1:ms[h].seq<no
   ·simp only[go_sem,seval,if_pos c1,w3];refine hX (j-(h+1)) _ _ _ _ aa ⟨rfl,?_,?_,?_,?_,qY,h+1,j,rfl,aa,hj,?_,?_,?_,DN⟩ ao
    ·exact aQ h0
    ·exact aQ h1
    ·exact aQ h2
    ·exact aQ h8
    ·exact au
    ·exact aQ bC
    ·intro x hx;obtain⟨k,hk,rfl⟩:=List.mem_take_iff_getElem.1 hx;by_cases e:k=h
     ·subst e;exact c1
     ·have:=List.pairwise_iff_getElem.1 hs k h aa aa aa;omega
   ·have c2:¬(if no<ms[h].seq then(1:Int)else 0)<0:=by split<;>omega
    simp only[go_sem,seval,if_neg c1,c2,decide_false];refine hX (h-i) _ _ _ _ aa ⟨rfl,?_,?_,?_,?_,qY,i,h,rfl,aa,aa,?_,?_,Bu,?_⟩ ao
    ·exact aQ h0
    ·exact aQ h1
    ·exact aQ h2
    ·exact aQ h8
    ·exact aQ h9
    ·exact au
    ·intro x hx;obtain⟨k,hk,rfl⟩:=List.mem_drop_iff_getElem.1 hx;by_cases e:k=0
     ·subst e;simpa using c1
     ·have:=List.pairwise_iff_getElem.1 hs h (h+k) aa aa aa;omega
  ·have vM:¬(i:Int)<j:=aa;obtain rfl:i=j:=aa;have ew:(ms.takeWhile λx=>decide (x.seq<no)).length=i:=(aqU (λx hx=>by simpa using Bu x hx) (λx hx=>by simpa using DN x hx) hj).1;by_cases c4:i<ms.length
   ·have Jz:(i:Int)<ms.length:=aa;have b1:(0:Int)<=i/\(i:Int)<ms.length:=aa;obtain⟨a,off,p2,q2,rfl,hf,e2⟩:=ij hle i c4;simp only[go_sem,seval,h0,h2,h8,h9,bC,vM,Jz,decide_true,decide_false];refine⟨aa,?_⟩;refine ag ?_;refine MP (pre:=p2) (pad:=q2) (m:=ms[i]) (e:=193) hf (by simp[e2]) ?_;refine aJ h1 ?_;rw[EZ (f:=224) (l:=#[]) (cap:=#[]) au];refine ag ?_;refine aK P1 ?_;rintro v J ⟨hv,ov⟩
    cases hv
    refine ag ?_;exact an iO ao ⟨⟨decide ((if ms[i].seq<no then(-1:Int)else if no<ms[i].seq then 1 else 0)=0),by simp[up,ew]⟩,Hp.le_trans hle ov⟩
   ·have Jz:¬(i:Int)<ms.length:=aa;simp only[go_sem,seval,h8,h9,bC,vM,Jz,decide_false];exact an iO ao ⟨⟨false,by simp[up,ew]⟩,hle⟩
variable {P:Program}{a:Addr}{c:Array Value}{e:TypeId}{H:Halt->Hp->Prop}
def HL{z:Nat×Nat}(ha:U.f a.block=some (.cells c e z)){Q:Unit->Hp->Prop}(k:Q () U):wpS P (noView a) Q H U:=by simp only[noView,viewAt,aG,Aw,Hp.shape?,ha];refine⟨rfl,?_⟩;simp only[Option.isSome_some,if_true,bt,Option.isSome_none,Bool.false_eq_true,if_false];exact k
def VR(ha:U.f a.block=some (.cells c e (0,0))){Q:Bool->Hp->Prop}(k:Q false U):wpS P (stringish a) Q H U:=by have h0:∀n,(decide (0<=n)&&decide (n<0))=false:=al;simp only[stringish,aG,II,Hp.frozen?,ha,h0];refine⟨rfl,?_⟩;simp only[Bool.false_eq_true,if_false,aG,Aw,Hp.shape?,ha];refine⟨rfl,?_⟩;simp only[II,Hp.frozen?,ha,h0];exact⟨rfl,k⟩
variable {c':Array Value}
def TS{b:Addr}{e':TypeId}(ha:U.f a.block=some (.cells c e (0,0)))(hb:U.f b.block=some (.cells c' e' (0,0))){Q:Bool->Hp->Prop}(k:Q false U):wpS P (mayBeOne a b) Q H U:=by
 simp only[mayBeOne,aG];refine VR ha (VR hb ?_);simp only[bt,Aw,Bool.false_and,Bool.or_false]
 first|exact k|exact⟨by rw[ha];rfl,by rw[hb];rfl,k⟩
variable {a bn off:Nat}{dst:Option Tmp}{I:av}{ds:List Deferred}{nx:av->List Deferred->Hp->Prop}{pn:List PanicEntry->Hp->Prop}
def amO{la ca:Nat}{x y:List Value}(ha:U.f a=some (.cells x.toArray 193 (0,0)))(hb:U.f bn=some (.cells y.toArray 193 (0,0)))(hx:0<x.length)(hy:0<y.length)(aE:¬bn=a)(k:nx (aB I dst (.bool false)) ds U):kx E 241 #[.slice (some ⟨bn,0,none⟩) 1 1,.slice (some ⟨a,off,none⟩) la ca] U dst I ds nx pn:=by
 refine fN func241 rfl ah ah (ex:=Extern.SlicesOverlaps.overlaps #[78,78] #[4]) ah ?_;have IB:prog.underlying 78=some (.slice 193):=ah
 obtain⟨ie,wA,hiz⟩:∃ie,prog.info? 193=some ie/\ie.size=4:=by obtain⟨i,zv,h1,h2,_⟩:=iU.hi;exact⟨i,h1,h2⟩
 have agR:(bn !=a)=true:=aW aE;have agS:(bn==a)=false:=aW aE;have S4:¬x.length=0:=aa;have S9:¬y.length=0:=aa
 have e:Extern.SlicesOverlaps.overlaps #[78,78] #[4] #[.slice (some ⟨bn,0,none⟩) 1 1,.slice (some ⟨a,off,none⟩) la ca]=(do
  let .slice elem<-underlying 78|stuck "slices.overlaps: slice type expected"
  let size<-sizeOf elem
  if 1=0\/la=0\/size=0 then pure (.bool false)
  else if bn !=a&&(<-frozen ⟨bn,0,none⟩)&&(<-frozen ⟨a,off,none⟩)then unsupported .addressObserved
  else do
   if bn !=a then do
    noView ⟨bn,0,none⟩;noView ⟨a,off,none⟩
    if<-mayBeOne ⟨bn,0,none⟩ ⟨a,off,none⟩then return .bool ((<-choose (.extern "sameAddr.stringBytes" 2))==1)
   pure (.bool (bn==a&&0<off+la*size&&off<0+1*size))):=rfl
 show wpS prog (Extern.SlicesOverlaps.overlaps #[78,78] #[4] #[.slice (some ⟨bn,0,none⟩) 1 1,.slice (some ⟨a,off,none⟩) la ca]) _ _ _;rw[e];simp only[aG,eu,IB,sizeOf,gl,wA,bt,hiz];by_cases hl:la=0
 ·simp only[hl,true_or,or_true,if_true,bt];exact k
 ·have hc:¬(1=0\/la=0\/4=0):=aa;rw[if_neg hc];simp only[agR,agS,if_true,aG,II,Hp.frozen?,ha,hb,Bool.true_and];refine⟨rfl,rfl,?_⟩;have hf:(decide (0<=0)&&decide (0<0)&&(decide (0<=off)&&decide (off<0)))=false:=al;simp only[hf,Bool.false_eq_true,if_false,aG];refine HL hb (HL ha (TS hb ha ?_));simp only[Bool.false_eq_true,if_false,bt,Bool.false_and];exact k
def Np{A Z new:List α}(h:A.length=off):(A++Z).take off++new++(A++Z).drop (off+new.length)=A++new++Z.drop new.length:=by subst h;rw[List.take_left' rfl,List.drop_append,List.drop_of_length_le (Nat.le_add_right _ _),Nat.add_sub_cancel_left,List.nil_append]
def T6(ms:List aM):(bd ms).all dp=true:=by simp only[bd,List.all_eq_true,List.mem_flatMap];rintro x ⟨m,_,hx⟩;simp only[aM.vals,List.mem_cons,List.not_mem_nil,or_false]at hx;rcases hx with rfl|rfl|rfl|rfl<;>rfl
def Tl(hm:gN U ms v)(hn:ms.length<=1000000)(cE:U.f bn=some (.cells #[iV m.seq,sV m.key,sV m.body,.bool m.again] 193 (0,0)))(hi:i<=ms.length)(hv:∀off n c,v≠.slice (some ⟨bn,off,none⟩) n c):
 ay E 226 #[v,iV i,.slice (some ⟨bn,0,none⟩) 1 1] U λe J=>∃rv a o,e=.returned rv/\(U.f a=none\/∃off n c z,v=.slice (some ⟨a,off,none⟩) n c/\U.f a=some (.cells z 193 (0,0)))/\(∃z,o=.cells z 193 (0,0))/\(∀cf:Hp,cf.f a=some o->gN cf (ms.take i++m::ms.drop i) rv)/\(U.set a o).le J:=by
 refine aX func226 ntmps226 results226 λQ aD an aA=>?_;obtain⟨base,cap,rfl⟩:=hm.shape
 have j0:ms.length<=cap:=by
  generalize hL:ms.length=L at hm|-
  cases hm with
  |none h0=>subst h0;simp
  |«at»a pre pad c h1 h2 h3=>exact h1
 have b1:(0:Int)<=i/\(i:Int)<=ms.length:=aa;refine ag ?_;refine⟨aa,?_⟩;by_cases c0:i=ms.length
 ·have vM:(i:Int)=ms.length:=aa;simp only[go_sem,seval,vM,decide_true];refine OX (v0:=.slice base ms.length cap) (m:=m) (bn:=bn) hm ?_ ?_ cE hn ?_
  ·exact au
  ·exact au
  intro rv a o h1 h2 h3;refine ag ?_;refine an aI ao ⟨rv,a,o,by simp[up],h1,h3,λJ fF=>?_,Hp.le_refl _⟩;rw[c0,List.take_length,List.drop_length];exact h2 J fF
 ·have vM:¬(i:Int)=ms.length:=aa
  have hx:∃a pre pad,base=some ⟨a,List.length (α:=Value) pre,none⟩/\4*(cap-ms.length)<=List.length (α:=Value) pad/\U.f a=some (.cells (pre++bd ms++pad).toArray 193 (0,0)):=by
   generalize hL:ms.length=L at hm
   cases hm with
   |none h0=>subst h0;exfalso;apply c0;simpa using hi
   |«at»a pre pad c h1 h2 h3=>exact⟨a,pre,pad,rfl,h2,h3⟩
  obtain⟨a,pre,pad,rfl,h2,h3⟩:=hx;have hia:i<ms.length:=aa;have w1:IntKind.i64.wrap ((ms.length:Int)+1)=((ms.length+1:Nat):Int):=cH;have w2:IntKind.i64.wrap (((ms.length+1:Nat):Int)-i)=((ms.length+1-i:Nat):Int):=cH;have w3:=fQ i;have w4:IntKind.i64.wrap (1+(i:Int))=((i+1:Nat):Int):=by rw[Int.add_comm];exact w3
  have eD:(bd (ms.drop i)).length=4*(ms.length-i):=by rw[pC,List.length_drop]
  have eT:(bd (ms.take i)).length=4*i:=by rw[pC,List.length_take,Nat.min_eq_left hi]
  have eM:bd ms=bd (ms.take i)++bd (ms.drop i):=by unfold bd;rw[<-List.flatMap_append,List.take_append_drop]
  have eL:pre++bd ms++pad=(pre++bd (ms.take i))++(bd (ms.drop i)++pad):=by rw[eM];simp
  have eR:bd (ms.take i++m::ms.drop i)=bd (ms.take i)++(m.vals++bd (ms.drop i)):=by simp[bd]
  have HI:¬bn=a:=λe=>hv pre.length ms.length cap (by rw[e]);by_cases c1:cap<ms.length+1
  ·have vN:(((ms.length+1:Nat):Int))>(cap:Int):=aa;simp only[go_sem,seval,vM,w1,decide_true,decide_false];refine PN (e:=193) ah (b:=some ⟨a,pre.length,none⟩) (n:=ms.length) (c:=cap) ?_ ?_
   ·exact au
   simp only[go_sem,seval,vN,decide_true];refine⟨aa,?_⟩;refine bu w1 w2 ?_;refine XX iU (base:=some ⟨a,pre.length,none⟩) (l:=i) (c:=cap) (n:=ms.length+1-i) (k:=.i64) (old:=(bd (ms.take i)).toArray) ah ?_ ?_ ai aa ?_ ?_ ai aa aa ?_
   ·simp only[go_sem,seval,ite_self,Nat.sub_zero]
   ·exact au
   ·show cellsOf U ⟨a,pre.length,none⟩ (i*4)=_;have e:pre.length+i*4<=(pre++bd ms++pad).toArray.size:=by simp[pC];omega
    simp only[cellsOf,h3,true_and,if_pos e];congr 1;apply Array.ext';rw[eL];have:i*4=(bd (ms.take i)).length:=by rw[eT];omega
    simp[this]
   ·show(2*(i+(ms.length+1-i))+192)*48<=2^48;omega
   intro b cp hb hcp;have nb:¬bn=b:=bj hb cE;have wZ:¬a=b:=bj hb h3;have k1:¬cp-i=0:=aa;have k2:¬cp-(i+1)=0:=aa;have k3:¬cap-i=0:=aa;refine ag ?_;refine⟨aa,?_⟩;refine ag ?_
   have eZ:∃Z:List Value,(Builtin.zeroCells iU.zero (ms.length+1-i)++Builtin.zeroCells iU.zero (cp-(i+(ms.length+1-i)))).toList=Z/\Z.length=4*(cp-i):=⟨_,rfl,by rw[Array.toList_append,List.length_append,FA,FA];omega⟩
   obtain⟨Z,hZ,KC⟩:=eZ
   have afz:((bd (ms.take i)).toArray++Builtin.zeroCells iU.zero (ms.length+1-i)++Builtin.zeroCells iU.zero (cp-(i+(ms.length+1-i))):Array Value)=(bd (ms.take i)++Z).toArray:=by rw[<-hZ];apply Array.ext';simp
   rw[afz];refine Gi iU (b:=b) (off:=0+i*4) (k:=1) (dl:=ms.length+1-i) (dc:=cp-i) (new:=m.vals) (L:=bd (ms.take i)++Z) (e:=193) ?_ ?_ ?_ aZ ?_ ?_ ?_
   ·have e:i+(ms.length+1-i)-i=ms.length+1-i:=aa;have k1':¬cp=i:=aa;exact xu k1' e
   ·exact au
   ·have e:Nat.min 1 (ms.length+1-i)=1:=by show min _ _=_;omega
    refine aJ e ?_;show cellsOf _ ⟨bn,0,none⟩ 4=_;simp[cellsOf,Hp.az nb,cE,aM.vals]
   ·simp[aM.vals,KC,eT];omega
   ·simp[aM.vals,dp]
   have e4:m.vals.length=4:=rfl
   have s1:(bd (ms.take i)++Z).take (0+i*4)++m.vals++(bd (ms.take i)++Z).drop (0+i*4+m.vals.length)=(bd (ms.take i)++m.vals)++Z.drop 4:=by rw[List.take_left' (by rw[eT];omega),List.drop_append,List.drop_of_length_le (by rw[eT,e4];omega),eT,e4,List.nil_append];congr 2;omega
   rw[s1,Hp.set_set];refine ag ?_;refine bG 9 ?_;refine aJ w3 ?_;refine⟨aa,?_⟩;refine ag ?_;refine⟨aa,?_⟩;refine ag ?_;refine Gi iU (b:=b) (off:=0+(i+1)*4) (k:=ms.length-i) (dl:=ms.length-i) (dc:=cp-(i+1)) (new:=bd (ms.drop i)) (L:=(bd (ms.take i)++m.vals)++Z.drop 4) (e:=193) ?_ ?_ ?_ aZ ?_ ?_ ?_
   ·have e:i+(ms.length+1-i)-(i+1)=ms.length-i:=aa;have k2':¬cp=i+1:=aa;exact xu k2' e
   ·exact au
   ·have e:Nat.min (ms.length-i) (ms.length-i)=ms.length-i:=Nat.min_self _;have qk:¬cap=i:=aa;refine bu e qk ?_;show cellsOf _ ⟨a,pre.length+i*4,none⟩ ((ms.length-i)*4)=_;have e2:pre.length+i*4+(ms.length-i)*4<=(pre++bd ms++pad).toArray.size:=by simp[pC];omega
    simp only[cellsOf,Hp.az wZ,h3,true_and,if_pos e2];congr 1;apply Array.ext';rw[eL];have e3:pre.length+i*4=(pre++bd (ms.take i)).length:=by rw[List.length_append,eT];omega
    have e4:(ms.length-i)*4=(bd (ms.drop i)).length:=by rw[eD];omega
    rw[e3,e4];simp
   ·simp[aM.vals,KC,eT,eD];omega
   ·exact T6 _
   have s2:(bd (ms.take i)++m.vals++Z.drop 4).take (0+(i+1)*4)++bd (ms.drop i)++(bd (ms.take i)++m.vals++Z.drop 4).drop (0+(i+1)*4+(bd (ms.drop i)).length)=bd (ms.take i++m::ms.drop i)++(Z.drop 4).drop (bd (ms.drop i)).length:=by
    have e5:(bd (ms.take i)++m.vals).length=0+(i+1)*4:=by rw[List.length_append,eT,e4];omega
    rw[Np e5,eR];simp
   rw[s2,Hp.set_set];refine gf ?_;refine ag ?_;refine an aI ao ⟨_,b,_,rfl,.inl hb,⟨_,rfl⟩,λJ fF=>?_,Hp.le_refl _⟩;have el:i+(ms.length+1-i)=(ms.take i++m::ms.drop i).length:=by simp;omega
   have:=gN.at (U:=J) (ms:=ms.take i++m::ms.drop i) b [] ((Z.drop 4).drop (bd (ms.drop i)).length) cp (by rw[<-el];exact hcp) (by rw[<-el,List.length_drop,List.length_drop,KC,eD];omega) (aW fF);simp[up,el];simpa using this
  ·have vN:¬(((ms.length+1:Nat):Int))>(cap:Int):=aa;simp only[go_sem,seval,vM,w1,decide_false];refine PN (e:=193) ah (b:=some ⟨a,pre.length,none⟩) (n:=ms.length) (c:=cap) ?_ ?_
   ·exact au
   have k3:¬cap-i=0:=aa;have k4:¬cap-(i+1)=0:=aa;simp only[go_sem,seval,vN,w1,decide_false];refine⟨aa,?_⟩;simp only[go_sem,seval,w3,ite_self,Nat.sub_zero];refine⟨aa,?_⟩;have k5:¬cap=i+1:=aa;refine aJ k5 ?_;refine amO (x:=pre++bd ms++pad) (y:=[iV m.seq,sV m.key,sV m.body,.bool m.again]) h3 cE (by simp[pC];omega) al HI ?_;refine ag ?_;refine bG 9 ?_;refine aJ w3 ?_;refine⟨aa,?_⟩;refine aJ k5 ?_;refine⟨aa,?_⟩;refine ag ?_;obtain⟨Y,hY⟩:∃Y,Y=bd (ms.drop i)++pad:=⟨_,rfl⟩;have Gz:Y.length=4*(ms.length-i)+pad.length:=by rw[hY,List.length_append,eD]
   have qk:¬cap=i:=aa;refine Gi iU (b:=a) (off:=pre.length+(i+1)*4) (k:=ms.length+1-i) (dl:=ms.length-i) (dc:=cap-(i+1)) (new:=bd (ms.drop i)) (L:=pre++bd ms++pad) (e:=193) ?_ ?_ ?_ h3 ?_ ?_ ?_
   ·have e:ms.length+1-(i+1)=ms.length-i:=aa;exact xu k5 e
   ·exact au
   ·have e:Nat.min (ms.length+1-i) (ms.length-i)=ms.length-i:=by show min _ _=_;omega
    refine bu e qk ?_;show cellsOf _ ⟨a,pre.length+i*4,none⟩ ((ms.length-i)*4)=_;have e2:pre.length+i*4+(ms.length-i)*4<=(pre++bd ms++pad).toArray.size:=by simp[pC];omega
    simp only[cellsOf,h3,true_and,if_pos e2];congr 1;apply Array.ext';rw[eL];have e3:pre.length+i*4=(pre++bd (ms.take i)).length:=by rw[List.length_append,eT];omega
    have e4:(ms.length-i)*4=(bd (ms.drop i)).length:=by rw[eD];omega
    rw[e3,e4];simp
   ·simp[pC];omega
   ·exact T6 _
   have s1:(pre++bd ms++pad).take (pre.length+(i+1)*4)++bd (ms.drop i)++(pre++bd ms++pad).drop (pre.length+(i+1)*4+(bd (ms.drop i)).length)=(pre++bd (ms.take i))++(Y.take 4++bd (ms.drop i)++Y.drop (4+(bd (ms.drop i)).length)):=by
    rw[eL,<-hY];have e5:(pre++bd (ms.take i)).length=pre.length+i*4:=by rw[List.length_append,eT];omega
    have e6:(pre++bd (ms.take i)++Y.take 4).length=pre.length+(i+1)*4:=by rw[List.length_append,e5,List.length_take,Gz];omega
    have e7:pre++bd (ms.take i)++Y=(pre++bd (ms.take i)++Y.take 4)++Y.drop 4:=al;rw[e7,Np e6,List.drop_drop];simp
   rw[s1];refine gf ?_;refine ag ?_;refine⟨aa,?_⟩;refine aJ qk ?_;have e4:m.vals.length=4:=rfl;refine Gi iU (b:=a) (off:=pre.length+i*4) (k:=1) (dl:=ms.length+1-i) (dc:=cap-i) (new:=m.vals) (L:=(pre++bd (ms.take i))++(Y.take 4++bd (ms.drop i)++Y.drop (4+(bd (ms.drop i)).length))) (e:=193) ?_ ?_ ?_ aZ ?_ ?_ ?_
   ·exact aQ qk
   ·exact au
   ·have e:Nat.min 1 (ms.length+1-i)=1:=by show min _ _=_;omega
    refine aJ e ?_;show cellsOf _ ⟨bn,0,none⟩ 4=_;simp[cellsOf,Hp.az HI,cE,aM.vals]
   ·simp only[List.length_append,List.length_take,List.length_drop,eT,eD,Gz,e4];omega
   ·simp[aM.vals,dp]
   have s2:((pre++bd (ms.take i))++(Y.take 4++bd (ms.drop i)++Y.drop (4+(bd (ms.drop i)).length))).take (pre.length+i*4)++m.vals++((pre++bd (ms.take i))++(Y.take 4++bd (ms.drop i)++Y.drop (4+(bd (ms.drop i)).length))).drop (pre.length+i*4+m.vals.length)=pre++bd (ms.take i++m::ms.drop i)++Y.drop (4+(bd (ms.drop i)).length):=by
    have e5:(pre++bd (ms.take i)).length=pre.length+i*4:=by rw[List.length_append,eT];omega
    have e6:(Y.take 4).length=4:=by rw[List.length_take,Gz];omega
    rw[Np e5,e4,List.append_assoc (Y.take 4),List.drop_left' e6,eR];simp
   rw[s2,Hp.set_set];refine ag ?_;refine an aI ao ⟨_,a,_,rfl,.inr ⟨_,_,_,_,rfl,h3⟩,⟨_,rfl⟩,λJ fF=>?_,Hp.le_refl _⟩;have el:ms.length+1=(ms.take i++m::ms.drop i).length:=by simp;omega
   have:=gN.at (U:=J) (ms:=ms.take i++m::ms.drop i) a pre (Y.drop (4+(bd (ms.drop i)).length)) cap (by rw[<-el];omega) (by rw[<-el,List.length_drop,Gz,eD];omega) fF;simp[up,el];simpa using this
def Pp(i:Nat)(hi:i=(ms.takeWhile λx=>decide (x.seq<m.seq)).length):im ms m=ms.take i++{m with again:=true}::ms.drop i:=by
 have h1:=List.takeWhile_append_dropWhile (p:=λx:aM=>decide (x.seq<m.seq)) (l:=ms);unfold im
 have e1:ms.take i=ms.takeWhile λx=>decide (x.seq<m.seq):=by
  conv=>lhs;rw[<-h1]
  rw[hi,List.take_left' rfl]
 have e2:ms.drop i=ms.dropWhile λx=>decide (x.seq<m.seq):=by
  conv=>lhs;rw[<-h1]
  rw[hi,List.drop_left' rfl]
 rw[e1,e2]
def PZ(hm:gN U ms v)(hn:ms.length<=1000000):
 ay E 227 #[v] U λe J=>∃rv,e=.returned rv/\gN J ms rv/\U.le J/\∀a off n c,rv=.slice (some ⟨a,off,none⟩) n c->U.f a=none/\∃o,J.f a=some o:=by
 refine(abr hm hn).mono ?_;rintro e J ⟨rv,rfl,h⟩;refine⟨rv,rfl,?_⟩;rcases h with⟨rfl,rfl,rfl⟩|⟨a,c,pad,rfl,h1,h2,h3,h4,h5⟩
 ·exact⟨.none rfl,Hp.le_refl _,λa off n c h=>by simp at h⟩
 ·refine⟨?_,h5,λa' off n c' h=>?_⟩
  ·exact .at a [] pad c h2 h3 (h4 _ _ (by rw[Hp.bD];simp))
  ·simp only[Value.slice.injEq,Option.some.injEq,Addr.mk.injEq]at h;obtain⟨⟨rfl,_⟩,_⟩:=h;exact⟨h1,_,h4 _ _ aZ⟩
variable {q:Nat}{J:Hp}
def Po{o oq UL:Obj}{gB:Hp}(hq:U.f q=some oq)(ha:U.f a=none)(h1:U.le J)(h2:(J.set a o).le gB):((U.set a o).set q UL).le (gB.set q UL):=by
 refine ir (λx p hx=>?_) _ _;by_cases e:x=a
 ·subst e;rw[Hp.bD]at hx;exact h2 _ _ (by rw[Hp.bD];exact hx)
 ·rw[Hp.az e]at hx;exact h2 _ _ (by rw[Hp.az e];exact h1 _ _ hx)
def YU{rv cons:Value}{name:List UInt8}{held last:Int}(hq:U.f q=some (fM name rv held last cons))(hm:gN U ms rv)(hn:ms.length<=1000000)(hs:ms.Pairwise λa b=>a.seq<b.seq):
 ay E 187 #[pV q,m.v] U λe J=>e=.returned (.tuple #[])/\∃jj a o,U.f a=none/\(∃z,o=.cells z 193 (0,0))/\(∀cf:Hp,cf.f a=some o->gN cf (im ms m) jj)/\((U.set a o).set q (fM name jj held last cons)).le J:=by
 refine aX func187 ntmps187 results187 λQ aD an aA=>?_;obtain⟨base,cap,rfl⟩:=hm.shape;simp only[fM]at hq;simp only[go_sem,seval,aM.v];refineλb hb=>?_;have n1:∀{x o},U.f x=some o->¬x=b:=λh e=>by subst e;rw[hb]at h;cases h
 refine ag ?_;rw[Hp.set_set];have jv:∀o,(U.set b o).f q=_:=λo=>(Hp.az (n1 hq)).trans hq;have kC:∀o,U.le (U.set b o):=λo=>kG hb;refine bG 12 ?_;refine aJ jv ?_;refine dH aeb (ZO (hm.le (kC _)) hn hs) ?_ (λch ae ⟨⟨_,h⟩,_⟩=>by cases h);rintro v J ⟨⟨bb,hv⟩,ov⟩;obtain⟨i,hi⟩:∃i,i=(ms.takeWhile λx=>decide (x.seq<m.seq)).length:=⟨_,rfl⟩;obtain rfl:v=.tuple #[iV i,.bool bb]:=by rw[hi];injection hv
 have uC:i<=ms.length:=by rw[hi];exact(List.takeWhile_sublist _).length_le
 have gP:=ov _ _ (jv _);refine⟨dL jv,?_⟩;refine ag ?_;have fO:=ov _ _ (Hp.bD (U:=U) b _);refine NS 5 8 [0,1,2,3,4,6,7,5,8,9,10,11,12] [0,1,2,3,4,6,7,8,5,9,10,11,12] (λ_ _ _=>False) ah jb (λ_ _ _ _ h=>h.elim) ?_ ?_<;>simp only[iv,List.modify_toArray,List.modify_succ_cons,List.modify_zero_cons]
 ·refine bu gP fO ?_;refine aK (PZ (hm.le (Hp.le_trans (kC _) ov)) hn) ?_;rintro v dB ⟨rv,hv,zD,qY,gJ⟩
  cases hv
  have lX:=qY _ _ gP;have hU:=qY _ _ fO;refine⟨dL hU,?_⟩;refine ag ?_;refineλbn cE=>?_;have ow:∀o,dB.le (dB.set bn o):=λo=>kG cE;have D7:=λo=>ow o _ _ lX;have zn:=λo=>ow o _ _ hU;refine⟨jg D7 zn,?_⟩;refine ag ?_;refine aK (Tl (m:={m with again:=true}) (i:=i) (zD.le (ow _)) hn aZ uC (λoff n c h=>?_)) ?_
  ·obtain⟨_,o,ho⟩:=gJ _ _ _ _ h;rw[cE]at ho;cases ho
  rintro v gB ⟨jj,a,o,hv,h1,h2,h3,h4⟩
  cases hv
  have zA:U.le J:=Hp.le_trans (kC _) ov
  have zm:U.f a=none:=by
   cases hs:U.f a with
   |none=>rfl
   |some p=>
    rcases h1 with h1|⟨off,n,c,z,h1,_⟩
    ·rw[ow _ _ _ (qY _ _ (zA _ _ hs))]at h1;cases h1
    ·have:=(gJ _ _ _ _ h1).1;rw[zA _ _ hs]at this;cases this
  have wF:gB.f q=_:=h4 _ _ ((Hp.az (bj hq zm)).trans (D7 _));obtain⟨b',c',LM⟩:=(h3 (U.set a o) aZ).shape;subst LM;refine⟨dL wF,?_⟩;refine aJ wF ?_;refine⟨dL wF,?_⟩;refine aD dA ao ⟨rfl,_,a,o,zm,h2,λcf fF=>?_,Po hq zm (Hp.le_trans zA (Hp.le_trans qY (ow _))) h4⟩;rw[Pp i hi];exact h3 cf fF
 ·refine bu gP fO ?_;refineλbn cE=>?_;have ow:∀o,J.le (J.set bn o):=λo=>kG cE;have D7:=λo=>ow o _ _ gP;have zn:=λo=>ow o _ _ fO;refine⟨dL D7,?_⟩;refine ag ?_;refine aK (PZ (hm.le (Hp.le_trans (Hp.le_trans (kC _) ov) (ow _))) hn) ?_;rintro v dB ⟨rv,hv,zD,qY,gJ⟩
  cases hv
  have lX:=qY _ _ (D7 _);have hU:=qY _ _ (zn _);refine⟨jg lX hU,?_⟩;refine ag ?_;refine aK (Tl (m:={m with again:=true}) (i:=i) zD hn (qY _ _ aZ) uC (λoff n c h=>?_)) ?_
  ·have:=(gJ _ _ _ _ h).1;rw[Hp.bD]at this;cases this
  rintro v gB ⟨jj,a,o,hv,h1,h2,h3,h4⟩
  cases hv
  have zA:U.le J:=Hp.le_trans (kC _) ov
  have zm:U.f a=none:=by
   cases hs:U.f a with
   |none=>rfl
   |some p=>
    rcases h1 with h1|⟨off,n,c,z,h1,_⟩
    ·rw[qY _ _ (ow _ _ _ (zA _ _ hs))]at h1;cases h1
    ·have:=(gJ _ _ _ _ h1).1;rw[ow _ _ _ (zA _ _ hs)]at this;cases this
  have wF:gB.f q=_:=h4 _ _ ((Hp.az (bj hq zm)).trans lX);obtain⟨b',c',LM⟩:=(h3 (U.set a o) aZ).shape;subst LM;refine⟨dL wF,?_⟩;refine aJ wF ?_;refine⟨dL wF,?_⟩;refine aD dA ao ⟨rfl,_,a,o,zm,h2,λcf fF=>?_,Po hq zm (Hp.le_trans zA (Hp.le_trans (ow _) qY)) h4⟩;rw[Pp i hi];exact h3 cf fF
section
variable {c:Nat}{v:Value}
variable {α:Type}[DecidableEq α]{l:List (α×Value×Nat)}{kv:List (α×Value)}{k:α}
abbrev vj (l:List (α×Value×Nat)):List (α×Value):=l.map λe=>(e.1,e.2.1)
def sw (o:pN l c)(p:(vj l).Perm kv)(h:(k,v)∈kv):∃st,dq l k=some (k,v,st):=by
 obtain⟨e,he,h2⟩:=List.mem_map.1 (p.mem_iff.2 h)
 cases h2
 refine⟨e.2.2,?_⟩;unfold dq;rw[List.find?_eq_some_iff_append];obtain⟨s,t,bw⟩:=List.append_of_mem he;refine⟨al,s,t,bw,λa ha=>?_⟩;have hu:=o.uniq;unfold jW at hu;rw[bw,List.map_append,List.nodup_append]at hu;simpa usingλe2=>hu.2.2 _ (List.mem_map_of_mem ha) _ al e2
def map_none (p:(vj l).Perm kv)(h:∀e∈kv,e.1≠k):dq l k=none:=by unfold dq;rw[List.find?_eq_none];intro e he;have:(e.1,e.2.1)∈kv:=p.mem_iff.1 (List.mem_map_of_mem he);simpa using h _ this
def EJ (o:pN l c)(p:(vj l).Perm kv)(h:∀e∈kv,e.1≠k)(v:Value):pN (jz l k v c) (jM l k c)/\(vj (jz l k v c)).Perm ((k,v)::kv):=by
 have hn:=map_none p h;simp only[jz,jM,hn,Option.isSome_none,Bool.false_eq_true,if_false];refine⟨⟨?_,?_,?_⟩,?_⟩
 ·have hu:=o.uniq;unfold jW at hu|-;rw[List.map_append,List.nodup_append];refine⟨hu,al,?_⟩;intro a ha b hb;obtain⟨e,he,rfl⟩:=List.mem_map.1 ha;simp only[List.map_cons,List.map_nil,List.mem_singleton]at hb;subst hb;exact h _ (p.mem_iff.1 (List.mem_map_of_mem he))
 ·intro e he;rcases List.mem_append.1 he with he|he
  ·have:=o.old e he;omega
  ·simp only[List.mem_singleton]at he;subst he;simp
 ·rw[List.map_append,List.nodup_append];refine⟨o.nd,al,?_⟩;intro a ha b hb;obtain⟨e,he,rfl⟩:=List.mem_map.1 ha;simp only[List.map_cons,List.map_nil,List.mem_singleton]at hb;subst hb;have:=o.old e he;omega
 ·simp only[vj,List.map_append,List.map_cons,List.map_nil];exact List.perm_append_comm.trans (p.cons _)
def EI (o:pN l c)(p:(vj l).Perm kv)(k:α):pN (sx l k) c/\(vj (sx l k)).Perm (kv.filter λe=>decide (e.1≠k)):=by
 refine⟨⟨?_,λe he=>o.old e (List.mem_filter.1 he).1,?_⟩,?_⟩
 ·exact List.Nodup.sublist (List.Sublist.map _ List.filter_sublist) o.uniq
 ·exact List.Nodup.sublist (List.Sublist.map _ List.filter_sublist) o.nd
 ·have e1:vj (sx l k)=(vj l).filter λe=>decide (e.1≠k):=by unfold sx vj;rw[List.filter_map];rfl
  rw[e1];exact p.filter _
end
def akH{c:Nat}:pN ([]:List (α×Value×Nat)) c:=⟨by simp[jW],al,al⟩
section
variable {E:Env prog}{U:Hp}{c:Nat}{v:Value}{H:Hid}{X:Ext}{no:Nat}{h:HN}{nm:List UInt8}{q:QN}{m:aM}{tag:Nat}{back:Bool}
variable {A:Lay}{n:N}{id:Int}
def are (f:Nat×(List UInt8×aM)->Value)(un:List (Nat×(List UInt8×aM))):((un.map λe=>((e.1:Int),f e)).filter λe=>decide (e.1≠(tag:Int)))=(cC un tag).map λe=>((e.1:Int),f e):=by unfold cC;rw[List.filter_map];congr 1;apply List.filter_congr;intro e _;simp only[Function.comp,decide_eq_decide];omega
def Pq {ms:List aM}{rv:Value}{b:Nat}{o:Obj}(ho:∀cf:Hp,cf.f b=some o->gN cf ms rv)(uG:ms≠[]):kU rv=false/\pP rv=b/\oM (.fw rv ms) o:=by
 have h:=ho ⟨λx=>if x=b then some o else none⟩ al
 cases h with
 |none e=>exact absurd e uG
 |«at»a pre pad c h1 h2 h3=>
  by_cases e:a=b
  ·subst e;simp only[if_true,Option.some.injEq]at h3;exact⟨rfl,rfl,a,pre,pad,c,rfl,h1,h2,h3⟩
  ·simp[e]at h3
def VB (a:aq A H n X U)(hh:n.h? id no=some h)(hu:bq h.un tag=some (nm,m))(hq:n.q? nm=some q)(b1:1<=q.held/\q.held<=1000000)(b2:q.ready.length<=1000000)(hs:q.ready.Pairwise λa b=>a.seq<b.seq):
 ay E 142 #[pV (A.chan id no),iV tag,.bool back] U λe J=>e=.returned (.tuple #[])/\At A (n.settle id no tag back) X J:=by
 refine aX func142 ntmps142 results142 λQ aD an aA=>?_;obtain⟨l,c,fY,ig,iA⟩:=a.un hh;obtain⟨st,hf⟩:=sw ig iA (List.mem_map_of_mem (f:=λe:Nat×(List UInt8×aM)=>((e.1:Int),uB (A.queue e.2.1) e.2.2)) (iZ hu));have wh:IntKind.i64.wrap (q.held-1)=q.held-1:=wrap64 aa aa;refine aJ (a.bX hh) ?_;refine jy (b:=A.un id no) (k:=(tag:Int)) (l:=l) (c:=c) BK (z:=.agg #[.pointer none,iV 0,sV [],sV [],.bool false]) ah ?_ fY ?_ ?_
 ·exact au
 ·exact au
 have de:((dq l (tag:Int)).map (·.2.1)).getD (.agg #[.pointer none,iV 0,sV [],sV [],.bool false])=.agg #[pV (A.queue nm),iV m.seq,sV m.key,sV m.body,.bool m.again]:=by rw[hf];rfl
 rw[if_neg Bool.false_ne_true,de];refine ag ?_;refineλb6 qa=>?_;refine ag ?_;rw[Hp.set_set];have a6:=λo=>a.iR qa o;have h6:=λo=>(a6 o).bX hh;obtain⟨d1,d2⟩:=EI ig iA (tag:Int);refine aJ h6 ?_;refine CY (b:=A.un id no) (k:=(tag:Int)) (l:=l) (c:=c) BK ig.uniq ?_ (kG qa _ _ fY) ?_ ?_
 ·exact au
 ·exact au
 have a7:=λo=>(a6 o).Vz hh (λh=>{h with un:=cC h.un tag}) rfl rfl (o:=aV aY (sx l tag) c) ⟨_,_,rfl,d1,by simp only;rw[<-are (tag:=tag) (f:=λe=>uB (A.queue e.2.1) e.2.2)];exact d2⟩;have x7:=λo=>(a7 o).eK;have SK:(n.bB id no λh=>{h with un:=cC h.un tag}).q? nm=some q:=hq;have q7:=λo=>(a7 o).tN SK;simp only at x7;have a8:=λo=>(a7 o).Ih SK (λq=>{q with held:=q.held-1}) rfl rfl;have x8:=λo=>(a8 o).eK;simp only[fM]at x8;refine bR x7 q7 wh ?_
 have es:n.settle id no tag back=((n.bB id no λh=>{h with un:=cC h.un tag}).bH nm λq=>{q with held:=q.held-1}).bH nm λq=>{q with ready:=if back then im q.ready m else q.ready}:=by unfold N.settle;rw[hh];simp only[Option.bind_some,hu];rw[Fp]
 cases back with
 |false=>
  refine ag ?_;refine aD dA ao ⟨rfl,H,?_⟩;rw[es];simp only[Bool.false_eq_true,if_false];rw[ars];exact(a8 _).oW
 |true=>
  refine aJ x8 ?_;have D8:((n.bB id no λh=>{h with un:=cC h.un tag}).bH nm λq=>{q with held:=q.held-1}).q? nm=some {q with held:=q.held-1}:=by simp[hq]
  refine aK (YU (m:=m) ((a8 _).queue D8) ((a8 _).fw D8) b2 hs) ?_;rintro v J ⟨hv,jj,b,o,hb,⟨z,hz⟩,ho,hle⟩
  cases hv
  refine ag ?_;refine aD dA ao ⟨rfl,H.jO nm jj,?_⟩;obtain⟨_,k2,k3⟩:=Pq ho (by simp[im]);rw[es];exact(((a8 _).Nd D8 (λq=>{q with ready:=im q.ready m}) rfl (Hl.ud (a8 _) (.fw nm) hb) (o:=o) (rv:=jj) k3 k2).le hle).oW
end
variable {β:Type}{l:List (α×β)}{j:Nat}
def HM(nd:(l.map (·.1)).Nodup)(hj:j<l.length):∀e∈l.take j,¬e.1=l[j].1:=by intro e he hx;obtain⟨i,hi,rfl⟩:=List.getElem_of_mem he;rw[List.length_take]at hi;rw[List.getElem_take]at hx;have h1:(l.map (·.1))[i]'(by simp;omega)=(l.map (·.1))[j]'(aW hj):=aW hx;exact(List.pairwise_iff_getElem.1 nd) i j (by simp;omega) (aW hj) aa h1
def TU{x:aM}{R:List aM}:im (x::R) m=if x.seq<m.seq then x::im R m else{m with again:=true}::x::R:=by unfold im;by_cases h:x.seq<m.seq<;>simp[h,List.takeWhile_cons,List.dropWhile_cons]
def TT {a b:aM}(h:a.seq≠b.seq):∀R:List aM,im (im R a) b=im (im R b) a
 |[]=>by
  show im [_] b=im [_] a;simp only[TU]
  (repeat' split)<;>first|rfl|omega
 |x::R=>by
  have ih:=TT h R;simp only[TU,ih,apply_ite λl=>im l a,apply_ite λl=>im l b]
  (repeat' split)<;>first|rfl|omega
def XO [DecidableEq α]{k k':α}(h:k≠k')(f g:β->β):dE (dE l k f) k' g=dE (dE l k' g) k f:=by
 unfold dE;rw[List.map_map,List.map_map];refine List.map_congr_left λe _=>?_;by_cases h1:e.1=k<;>by_cases h2:e.1=k'<;>simp[h1,h2]
 all_goals first|exact absurd (h1.symm.trans h2) h|simp_all
def tZ(l:List (Nat×(List UInt8×aM))):Prop:=∀e∈l,∀f∈l,e.1≠f.1->e.2.1=f.2.1->e.2.2.seq≠f.2.2.seq
section
variable {no:Nat}{h:HN}{q:QN}{m:aM}
variable {n:N}{id:Int}
def apv (n:N)(id:Int)(no t:Nat)(b:Bool):n.settle id no t b=n\/∃h e,n.h? id no=some h/\bq h.un t=some e/\n.settle id no t b=(n.bB id no λh=>{h with un:=cC h.un t}).bH e.1 λq=>{q with held:=q.held-1,ready:=if b then im q.ready e.2 else q.ready}:=by
 unfold N.settle
 cases hh:n.h? id no with
 |none=>exact .inl rfl
 |some h=>cases hu:bq h.un t with
  |none=>simp[hu]
  |some e=>exact .inr ⟨h,e,rfl,hu,by simp[hu]⟩
def apu {t u:Nat}{b:Bool}(D:∀h,n.h? id no=some h->tZ h.un):(n.settle id no t b).settle id no u b=(n.settle id no u b).settle id no t b:=by
 by_cases BA:t=u
 ·rw[BA]
 have S:∀{m:N} {t:Nat} {h:HN} {e},m.h? id no=some h->bq h.un t=some e->m.settle id no t b=(m.bB id no λh=>{h with un:=cC h.un t}).bH e.1 λq=>{q with held:=q.held-1,ready:=if b then im q.ready e.2 else q.ready}:=λh1 h2=>by unfold N.settle;rw[h1];simp[h2]
 have Z:∀{m:N} {t:Nat} {h:HN},m.h? id no=some h->bq h.un t=none->m.settle id no t b=m:=λh1 h2=>by unfold N.settle;rw[h1];simp[h2]
 cases hh:n.h? id no with
 |none=>unfold N.settle;simp[hh]
 |some h=>
  have A:∀{t:Nat} {w:List UInt8} {g:QN->QN},((n.bB id no λh=>{h with un:=cC h.un t}).bH w g).h? id no=some {h with un:=cC h.un t}:=λ{t w g}=>by show(n.bB id no λh=>{h with un:=cC h.un t}).h? id no=_;rw[jZ,if_pos ⟨rfl,rfl⟩,hh];rfl
  have au0:∀{t u:Nat},t≠u->bq (cC h.un t) u=bq h.un u:=λh=>by rw[CE,if_neg λe=>h e.symm]
  cases ht:bq h.un t with
  |none=>rw[Z hh ht];cases hu:bq h.un u with
   |none=>rw[Z hh hu,Z hh ht]
   |some f=>rw[S hh hu,Z A (show bq (cC h.un u) t=none by rw[au0 λe=>BA e.symm,ht])]
  |some e=>cases hu:bq h.un u with
   |none=>rw[Z hh hu,S hh ht,Z A (show bq (cC h.un t) u=none by rw[au0 BA,hu])]
   |some f=>
    rw[S hh ht,S hh hu,S A (show bq (cC h.un t) u=some f by rw[au0 BA,hu]),S A (show bq (cC h.un u) t=some e by rw[au0 λe=>BA e.symm,ht])];have c1:∀{m:N} {w:List UInt8} {g:QN->QN} {k:HN->HN},(m.bH w g).bB id no k=(m.bB id no k).bH w g:=rfl
    have c3:((n.bB id no λh=>{h with un:=cC h.un t}).bB id no λh=>{h with un:=cC h.un u})=(n.bB id no λh=>{h with un:=cC h.un u}).bB id no λh=>{h with un:=cC h.un t}:=by rw[NN,NN];congr 1;funext h;simp only[HN.mk.injEq,true_and,and_true];unfold cC;rw[List.filter_filter,List.filter_filter];congr 1;funext x;exact Bool.and_comm _ _
    rw[c1,c1,c3];by_cases hq:e.1=f.1
    ·rw[hq,Fp,Fp];congr 1;funext q;have:=D h hh _ (iZ ht) _ (iZ hu) BA hq
     cases b
     ·rfl
     ·simp only[if_true,TT this]
    ·unfold N.bH;simp only[XO hq]
def apm {t:Nat}{b:Bool}(D:∀h,n.h? id no=some h->tZ h.un):∀h,(n.settle id no t b).h? id no=some h->tZ h.un:=by
 rcases apv n id no t b with e|⟨g,e,hg,_,hs⟩
 ·rw[e];exact D
 ·intro h hh;rw[hs]at hh;have:=jZ (n:=n) (id:=id) (no:=no) (aL:=id) (dC:=no) (g:=λh=>{h with un:=cC h.un t});rw[if_pos ⟨rfl,rfl⟩,hg]at this
  cases hh.symm.trans this
  exactλe he f hf=>D _ hg e (List.mem_filter.1 he).1 f (List.mem_filter.1 hf).1
def VA {p:Nat->Bool}{b:Bool}{l m:List (Nat×(List UInt8×aM))}(hp:l.Perm m):∀{n:N},(∀h,n.h? id no=some h->tZ h.un)->n.jP id no p b l=n.jP id no p b m:=by
 have step:∀{n:N} {e:Nat×(List UInt8×aM)},(∀h,n.h? id no=some h->tZ h.un)->∀h,(if p e.1 then n.settle id no e.1 b else n).h? id no=some h->tZ h.un:=λD=>by split;exact apm D;exact D
 induction hp with
 |nil=>intro n _;rfl
 |cons e _ ih=>intro n D;exact ih (step D)
 |swap e f l=>
  intro n D;show List.foldl _ _ l=List.foldl _ _ l;congr 1;by_cases h1:p e.1=true<;>by_cases h2:p f.1=true<;>simp only[h1,h2,if_true,if_false,Bool.false_eq_true];exact apu D
 |trans _ _ i j=>intro n D;rw[i D,j D]
end
variable {ty:TypeId}{pos:String}{af:Array Edge}{g:Option (Nat×Bool)}{E:Env P}{b:Nat}{e1 e2:TypeId}
def acJ{t u:TypeId}{x y:Operand}{i:TypeInfo}(hu:P.underlying t=some (.pointer e))(hi:P.info? e=some i)(gQ:i.size≠0)(hx:ak I x=pV a)(hy:ak I y=pV b)(ha:U.f a=some (.cells c e1 (0,0)))(hb:U.f b=some (.cells c' e2 (0,0)))(h:nx (aB I dst (.bool (decide (a=b)))) ds U):wpOp E ⟨dst,.binOp .eql t x y u,ty,pos,af,g⟩ I ds U nx pn:=by
 have hz:∀n,(decide (0<=n)&&decide (n<0))=false:=al;unfold wpOp;simp only[execOp,hx,hy,aG];refine zd ?_ ⟨al,al⟩;unfold binOp;simp only[aG,bt];refine C2 λk=>?_;unfold Op.equalIn;simp only[aG,eu,hu,samePointer,sameAddr,sizeOf,gl,hi,bt];rw[if_pos gQ];by_cases dr:a=b
 ·subst dr;simp only[beq_self_eq_true,if_true,bt];rw[decide_eq_true rfl]at h;exact h
 ·have GB:(a==b)=false:=aW dr;simp only[GB,Bool.false_eq_true,if_false,aG,II,Hp.frozen?,ha,hb,hz];refine⟨rfl,rfl,?_⟩;simp only[Bool.false_and,Bool.false_eq_true,if_false,aG];refine HL ha (HL hb (TS ha hb ?_));simp only[Bool.false_eq_true,if_false,bt];rw[decide_eq_false dr]at h;exact h
variable {c:Nat}
def FN(U:Hp)(cs:List Nat):Prop:=∀x∈cs,∃c:Array Value,U.f x=some (.cells c 191 (0,0))
def Sl.form{ety:TypeId}{xs:List Value}(h:Sl ety U xs v):(xs=[]/\v=.slice none 0 0)\/∃(a:Nat) (pad:List Value),v=.slice (some ⟨a,0,none⟩) xs.length (xs.length+pad.length)/\U.f a=some (.cells (xs++pad).toArray ety (0,0)):=by
 cases h with
 |nil h0=>exact .inl ⟨h0,rfl⟩
 |«at»a pad ha=>exact .inr ⟨a,pad,rfl,ha⟩
variable {E:Env prog}{cb bx:Nat}
def Tp{x:Nat}{c:Array Value}(nE:U.f bx=some (.cells #[pV cb] 186 (0,0)))(ha:U.f x=some (.cells c e1 (0,0)))(hb:U.f cb=some (.cells c' e2 (0,0))):
 ay E 185 #[pV x,pV bx] U λe J=>e=.returned (.bool (decide (x=cb)))/\J=U:=by
 refine fR func185 ntmps185 results185 rfl al λQ aD an aA=>?_;refine aJ nE ?_;obtain⟨i,hi,gQ⟩:∃i,prog.info? 191=some i/\i.size≠0:=⟨t191,ah,by rw[show t191.size=5 by kernel_rfl];decide⟩;refine acJ (e:=191) (a:=x) (b:=cb) ah hi gQ ?_ ?_ ha hb ?_
 ·exact au
 ·exact au
 refine ag ?_;exact an aI ao ⟨by simp[up],rfl⟩
variable {h:HN}{cs:List Nat}
def ah9(hv:Sl 186 U (cs.map pV) v)(hn:cs.length<=1000000)(hl:FN U cs)(hc:FN U [cb])(nE:U.f bx=some (.cells #[pV cb] 186 (0,0))):
 ay E 221 #[v,.func (.func 185) #[] #[pV bx]] U λe J=>(e=.returned (iV (-1))/\cb∉cs\/∃i:Nat,e=.returned (iV i)/\∃h:i<cs.length,cs[i]=cb/\cb∉cs.take i)/\J=U:=by
 refine aX func221 ntmps221 results221 λQ aD an aA=>?_;obtain⟨base,cap,rfl,hr⟩:=hv.read;refine ag ?_;refine di (λm I ds ae=>ds=[]/\I 0=.slice base cs.length cap/\I 1=.func (.func 185) #[] #[pV bx]/\I 7=iV cs.length/\ae=U/\∃i:Nat,i+m=cs.length/\I 8=iV i/\cb∉cs.take i) cs.length ?_ ?_
 ·refine⟨rfl,?_,?_,?_,rfl,0,al,?_,al⟩<;>exact au
 ·rintro m I ds ae X ⟨rfl,h0,h1,h7,rfl,i,xQ,h8,oy⟩ hX
  cases m with
  |zero=>
   have c0:¬(i:Int)<cs.length:=aa;simp only[go_sem,seval,h7,h8,c0,decide_false];rw[List.take_of_length_le aa]at oy;exact an aI ao ⟨.inl ⟨by simp[up],oy⟩,rfl⟩
  |succ m=>
   have hi:i<cs.length:=aa;have c0:(i:Int)<cs.length:=aa;obtain⟨a,L,rfl,ha,hL⟩:=hr i hi;obtain⟨c1,tz⟩:=hl cs[i] (List.getElem_mem hi);obtain⟨c2,rh⟩:=hc cb al;have w1:=fQ i;have b1:(0:Int)<=i/\(i:Int)<cs.length:=aa;simp only[go_sem,seval,h0,h1,h7,h8,c0,decide_true];refine⟨aa,?_⟩;refine bu ha hL ?_;rw[EZ (f:=185) (l:=#[]) (cap:=#[pV bx]) au];refine ag ?_;refine aT (Tp nE tz rh) ?_;by_cases hx:cs[i]=cb
   ·simp only[go_sem,seval,hx,decide_true];exact an aI ao ⟨.inr ⟨i,by simp[up],hi,hx,oy⟩,rfl⟩
   ·simp only[go_sem,seval,hx,decide_false,h8,w1];refine hX m _ _ _ _ aa ⟨rfl,?_,?_,?_,rfl,i+1,aa,?_,?_⟩ ao
    ·exact aQ h0
    ·exact aQ h1
    ·exact aQ h7
    ·exact au
    ·intro hm;rw[List.take_succ_eq_append_getElem hi,List.mem_append]at hm;rcases hm with h|h
     ·exact oy h
     ·exact hx (List.mem_singleton.1 h).symm
def acd(hv:Sl 186 U (cs.map pV) v)(hn:cs.length<=1000000)(hl:FN U cs)(hc:FN U [cb])(nE:U.f bx=some (.cells #[pV cb] 186 (0,0)))(cE:∀off n c,v≠.slice (some ⟨bx,off,none⟩) n c):
 ay E 184 #[v,.func (.func 185) #[] #[pV bx]] U λe J=>(e=.returned v/\cb∉cs/\J=U)\/∃(a:Nat) (pad:List Value),(∃n c,v=.slice (some ⟨a,0,none⟩) n c)/\
  e=.returned (.slice (some ⟨a,0,none⟩) (cs.filter λx=>decide (x≠cb)).length ((cs.filter λx=>decide (x≠cb)).length+pad.length))/\J=U.set a (.cells ((cs.filter λx=>decide (x≠cb)).map pV++pad).toArray 186 (0,0)):=by
 refine aX func184 ntmps184 results184 λQ aD an aA=>?_;obtain⟨base,cap,rfl,hr⟩:=hv.read;refine ag ?_;refine dH ad9 (ah9 hv hn hl hc nE) ?_ (λch ae ⟨h,_⟩=>by rcases h with⟨h,_⟩|⟨_,h,_⟩<;>cases h);rintro w J ⟨hw,rfl⟩;rcases hw with⟨hw,oy⟩|⟨i,hw,hi,hxi,oy⟩
 ·cases hw
  refine ag ?_;exact an aI ao (.inl ⟨by simp[up],oy,rfl⟩)
 cases hw
 obtain⟨a,pad,rfl,ha,j0⟩:∃(a:Nat) (pad:List Value),base=some ⟨a,0,none⟩/\J.f a=some (.cells (cs.map pV++pad).toArray 186 (0,0))/\cap=cs.length+pad.length:=by
  rcases hv.form with⟨h0,_⟩|⟨a,pad,h1,h2⟩
  ·simp at h0;subst h0;simp at hi
  ·simp only[Value.slice.injEq]at h1;exact⟨a,pad,h1.1,h2,aW h1.2.2⟩
 subst j0;have cm:¬(i:Int)= -1:=aa;have w1:=fQ i;have Uz:∀{x c},J.f x=some (.cells c 191 (0,0))->¬x=a:=λh e=>by subst e;rw[ha]at h;simp at h
 have nbx:¬bx=a:=λe=>cE 0 cs.length (cs.length+pad.length) (by rw[e]);simp only[go_sem,seval,cm,decide_false,w1]
 refine di (λm I ds ae=>ds=[]/\I 0=.slice (some ⟨a,0,none⟩) cs.length (cs.length+pad.length)/\I 1=.func (.func 185) #[] #[pV bx]/\∃(i j:Nat) (L:List Value),j+m=cs.length/\I 5=iV i/\I 6=iV j/\i<j/\
  L.take i=((cs.take j).filter λx=>decide (x≠cb)).map pV/\L.drop j=(cs.drop j).map pV++pad/\L.length=cs.length+pad.length/\ae=J.set a (.cells L.toArray 186 (0,0))) (cs.length-(i+1)) ?_ ?_
 ·refine⟨rfl,?_,?_,i,i+1,cs.map pV++pad,aa,?_,?_,aa,?_,?_,al,(Hb ha).symm⟩
  ·exact au
  ·exact au
  ·exact au
  ·exact au
  ·have e1:(cs.take (i+1)).filter (λx=>decide (x≠cb))=cs.take i:=by
    rw[List.take_succ_eq_append_getElem hi,List.filter_append]
    have e2:(cs.take i).filter (λx=>decide (x≠cb))=cs.take i:=by rw[List.filter_eq_self];intro x hx;simpa usingλe:x=cb=>oy (e▸hx)
    rw[e2];simp[hxi]
   rw[e1,List.take_append_of_le_length (by simp;omega),List.map_take]
  ·rw[List.drop_append_of_le_length (by simp;omega),List.map_drop]
 ·rintro m I ds ae X ⟨rfl,h0,h1,i,j,L,xT,h5,h6,qV,qP,Bc,RB,rfl⟩ hX
  have uC:((cs.take j).filter λx=>decide (x≠cb)).length=i:=by have:=congrArg List.length qP;simp only[List.length_map,List.length_take]at this;omega
  have Ks:(J.set a (.cells L.toArray 186 (0,0))).f a=some (.cells L.toArray 186 (0,0)):=aZ
  cases m with
  |zero=>
   have wB:j=cs.length:=aa;have c0:¬(j:Int)<cs.length:=aa;simp only[go_sem,seval,h0,h5,h6,c0,decide_false];refine⟨aa,?_⟩;have k1:¬cs.length+pad.length-i=0:=aa;have k2:¬cs.length+pad.length=i:=aa;have ef:(cs.take j).filter (λx=>decide (x≠cb))=cs.filter λx=>decide (x≠cb):=by rw[List.take_of_length_le aa]
   rw[ef]at qP uC;rw[wB,List.drop_length]at Bc;refine ag ?_;refine abp Qq (z0:=.pointer none) rfl rfl (b:=a) (off:=0+i*1) (n:=cs.length-i) (c:=cs.length+pad.length-i) ?_ Ks aa ?_
   ·exact aQ k2
   have eL:L.take (0+i*1)++List.replicate (cs.length-i) (.pointer none)++L.drop (0+i*1+(cs.length-i))=(cs.filter λx=>decide (x≠cb)).map pV++(List.replicate (cs.length-i) (.pointer none)++pad):=by rw[show 0+i*1=i by omega,show i+(cs.length-i)=cs.length by omega,qP,Bc];simp
   rw[eL,Hp.set_set];refine bu h0 h5 ?_;refine⟨aa,?_⟩;refine ag ?_;refine an aI ao (.inr ⟨a,_,⟨_,_,rfl⟩,?_,rfl⟩);have e1:i+(List.replicate (cs.length-i) (Value.pointer none)++pad).length=cs.length+pad.length:=by rw[List.length_append,List.length_replicate];omega
   rw[uC,e1];simp[up]
  |succ m=>
   have hj:j<cs.length:=aa;have c0:(j:Int)<cs.length:=aa;rw[<-List.getElem_cons_drop hj]at Bc;obtain⟨c1,tz⟩:=hl cs[j] (List.getElem_mem hj);obtain⟨c2,rh⟩:=hc cb al
   have hLj:L[j]? =some (pV cs[j]):=by have e0:L[j]? =(L.drop j)[0]? :=al;rw[e0,Bc];rfl
   have w3:=fQ j;have w4:=fQ i;simp only[go_sem,seval,h0,h6,c0,decide_true];refine⟨aa,?_⟩;refine bR Ks hLj h1 ?_;rw[EZ (f:=185) (l:=#[]) (cap:=#[pV bx]) au];refine ag ?_;refine aT (Tp ((Hp.az nbx).trans nE) ((Hp.az (Uz tz)).trans tz) ((Hp.az (Uz rh)).trans rh)) ?_;by_cases hx:cs[j]=cb
   ·simp only[go_sem,seval,hx,decide_true,h6,w3];refine hX m _ _ _ _ aa ⟨rfl,?_,?_,i,j+1,L,aa,?_,?_,aa,?_,?_,RB,rfl⟩ ao
    ·exact aQ h0
    ·exact aQ h1
    ·exact aQ h5
    ·exact au
    ·rw[qP,List.take_succ_eq_append_getElem hj,List.filter_append];simp[hx]
    ·rw[<-List.tail_drop,Bc];rfl
   ·simp only[go_sem,seval,hx,decide_false,h0,h5];refine⟨aa,?_⟩;have Gx:∃y,L[i]? =some y:=⟨L[i]'aa,by rw[List.getElem?_eq_getElem]⟩;obtain⟨y,hy⟩:=Gx;refine aJ Ks ?_;refine⟨aa,?_⟩;rw[Hp.set_set];refine fV h5 h6 w3 w4 ?_;have bl:i<L.length:=aa;refine hX m _ _ _ _ aa ⟨rfl,?_,?_,i+1,j+1,L.set i (pV cs[j]),aa,?_,?_,aa,?_,?_,aW RB,rfl⟩ ao
    ·exact aQ h0
    ·exact aQ h1
    ·exact au
    ·exact au
    ·rw[List.take_succ_eq_append_getElem (aW bl),List.getElem_set_self,List.take_set_of_le (Nat.le_refl _),qP,List.take_succ_eq_append_getElem hj,List.filter_append];simp[hx]
    ·rw[List.drop_set_of_lt aa,<-List.tail_drop,Bc];rfl
section
variable {E:Env prog}{U:Hp}{c:Nat}{v:Value}{H:Hid}{X:Ext}{h:HN}{nm:List UInt8}{q:QN}{cs:List Nat}{cb:Nat}{bx:Nat}{k:Int}{x:XN}
variable {A:Lay}{n:N}{id:Int}
def Sl.le {ety:TypeId}{U J:Hp}{xs:List Value}{v:Value}(h:Sl ety U xs v)(k:U.le J):Sl ety J xs v:=by
 cases h with
 |nil h0=>exact .nil h0
 |«at»a pad ha=>exact .at a pad (k _ _ ha)
def abJ (a:aq A H n X U){j k:Int}(hj:(n.x? j).isSome)(hk:(n.x? k).isSome)(e:A.cons j=A.cons k):j=k:=by
 have:=a.inj (.cons j) (.cons k) (by simpa[view]using hj) (by simpa[view]using hk) (by simpa[cI]using e)
 cases this;rfl
def PL (a:aq A H n X U)(w:∀j∈q.cons,(n.x? j).isSome)(hx:n.x? k=some x)(hq:n.q? x.q=some q)(hn:q.cons.length<=1000000):
 ay E 140 #[pV A.br,pV (A.cons k)] U λe J=>e=.returned (.tuple #[])/\At A (n.cancel k) X J:=by
 refine aX func140 ntmps140 results140 λQ aD an aA=>?_;have hs:=a.ix hq;have emap:(q.cons.map λk=>pV (A.cons k))=(q.cons.map A.cons).map pV:=by rw[List.map_map];rfl
 rw[emap]at hs;obtain⟨base,cap,j7,_⟩:=hs.read;have mJ:=a.tN hq;rw[j7]at mJ;simp only[List.length_map]at mJ;refine ag ?_;refineλbx nE=>?_;have a1:=λo=>a.iR nE o;have jd:=λo=>(a1 o).eK;simp only at jd;have cG:=λo=>(a1 o).vQ hx;have jv:=λo=>kG (o:=o) nE _ _ mJ;refine ag ?_;refine bG 16 ?_;refine bR jd cG jv ?_
 have Sx:∀j,(n.x? j).isSome->∀o,∃c:Array Value,(U.set bx o).f (A.cons j)=some (.cells c 191 (0,0)):=λj hj o=>by obtain⟨y,hy⟩:=Option.isSome_iff_exists.1 hj;exact⟨_,(a1 o).cons hy⟩
 have cE:∀off n c,H.cv x.q≠.slice (some ⟨bx,off,none⟩) n c:=λoff n' c e=>by
  rcases hs.form with⟨_,h2⟩|⟨a',pad,h1,h2⟩
  ·rw[h2]at e;cases e
  ·rw[h1]at e;simp only[Value.slice.injEq,Option.some.injEq,Addr.mk.injEq]at e;rw[e.1.1]at h2;rw[h2]at nE;cases nE
 refine dH ad3 (acd (cs:=q.cons.map A.cons) (v:=.slice base q.cons.length cap) (cb:=A.cons k) (bx:=bx) ?_ (aW hn) ?_ ?_ (jd _) (by rw[j7]at cE;simpa using cE)) ?_ (λch ae h=>by rcases h with⟨h,_⟩|⟨_,_,_,h,_⟩<;>cases h)
 ·have:=λo=>hs.le (kG (o:=o) nE);rw[j7]at this;simpa using this _
 ·intro y hy;obtain⟨j,hj,rfl⟩:=List.mem_map.1 hy;exact Sx j (w j hj) _
 ·intro y hy;simp only[List.mem_singleton]at hy;subst hy;exact Sx k (by rw[hx];rfl) _
 have agq:(q.cons.map A.cons).filter (λy=>decide (y≠A.cons k))=(q.cons.filter λj=>decide (j≠k)).map A.cons:=by rw[List.filter_map];congr 1;apply List.filter_congr;intro j hj;simp only[Function.comp,decide_eq_decide,ne_eq];exact not_congr ⟨λe=>abJ a (w j hj) (by rw[hx];rfl) e,λe=>by rw[e]⟩
 have es:n.cancel k={n.bH x.q (λq=>{q with cons:=q.cons.filter λj=>decide (j≠k)})with xs:=cC n.xs k}:=by unfold N.cancel;rw[hx]
 rintro v J (⟨hv,oy,rfl⟩|⟨b,pad,⟨n',c',hv0⟩,hv,rfl⟩)
 ·cases hv
  have hk:q.cons.filter (λj=>decide (j≠k))=q.cons:=by rw[List.filter_eq_self];intro j hj;simpa usingλe:j=k=>oy (by subst e;exact List.mem_map_of_mem hj)
  refine⟨jg jd cG,?_⟩;refine aJ jv ?_;refine⟨dF jd cG jv,?_⟩;refine aD dA ao ⟨rfl,H,?_⟩;have a2:=(a1 (.cells (Value.cells (pV (A.cons k))) 186)).Ih (nm:=x.q) hq (λq=>{q with cons:=q.cons.filter λj=>decide (j≠k)}) rfl hk;rw[j7]at a2;simp only[List.length_map]at a2;rw[es];exact a2.oW.Qg k
 ·rw[agq]at hv|-;have hb:base=some ⟨b,0,none⟩:=by injection hv0
  obtain⟨z,KO⟩:∃z,U.f b=some (.cells z 186 (0,0)):=by
   rcases hs.form with⟨_,h2⟩|⟨a',amV,h1,h2⟩
   ·rw[j7,hb]at h2;cases h2
   ·rw[j7,hb]at h1;simp only[Value.slice.injEq,Option.some.injEq,Addr.mk.injEq]at h1;rw[h1.1.1];exact⟨_,h2⟩
  have n1:¬bx=b:=bj nE KO;have n2:¬A.cons k=b:=λe=>by have:=a.cons hx;rw[e,KO]at this;simp[ln]at this
  have n3:¬A.queue x.q=b:=λe=>by rw[e,KO]at mJ;simp at mJ
  have fO:=λo o'=>(Hp.az (o:=o') n1).trans (jd o);have dX:=λo o'=>(Hp.az (o:=o') n2).trans (cG o);have gP:=λo o'=>(Hp.az (o:=o') n3).trans (jv o)
  cases hv
  refine⟨jg fO dX,?_⟩;refine aJ gP ?_;refine⟨dF fO dX gP,?_⟩;refine aD dA ao ⟨rfl,H.pG x.q (.slice (some ⟨b,0,none⟩) ((q.cons.filter λj=>decide (j≠k)).map A.cons).length (((q.cons.filter λj=>decide (j≠k)).map A.cons).length+pad.length)),?_⟩;have D4:kU (H.cv x.q)=false:=by rw[j7,hb];rfl
  have eb:pP (H.cv x.q)=b:=by rw[j7,hb];rfl
  have ec:((q.cons.filter λj=>decide (j≠k)).map λj=>pV (A.cons j))=((q.cons.filter λj=>decide (j≠k)).map A.cons).map pV:=by rw[List.map_map];rfl
  have a2:=(a1 (.cells (Value.cells (pV (A.cons k))) 186)).Vx (nm:=x.q) hq (b:=b) (λq=>{q with cons:=q.cons.filter λj=>decide (j≠k)}) rfl
   (by have:=Hl.apart (a1 (.cells (Value.cells (pV (A.cons k))) 186)) (.ix x.q) (by rw[Qc hq D4];rfl);rw[<-eb];exact this)
   (cv:=.slice (some ⟨b,0,none⟩) ((q.cons.filter λj=>decide (j≠k)).map A.cons).length (((q.cons.filter λj=>decide (j≠k)).map A.cons).length+pad.length)) (o:=.cells (((q.cons.filter λj=>decide (j≠k)).map A.cons).map pV++pad).toArray 186 (0,0))
   ⟨b,pad,al,by simp only;rw[ec]⟩ rfl
  rw[es];exact a2.oW.Qg k
end
abbrev dS(blk:Nat)(n cap:Nat):Value:=.slice (some ⟨blk,0,none⟩) n cap
def Mx(U:Hp)(blk:Nat)(d:List Int)(pad:List Value)(J:Hp):Prop:=∃xs:List Int,xs.Perm d/\J=U.set blk (.cells (xs.map aY++pad).toArray 3 (0,0))
variable {x:XN}
def sP(U:Hp)(blk n:Nat):Prop:=∃L:List Value,U.f blk=some (.cells L.toArray 3 (0,0))/\∀i<n,∃x:Int,L[i]? =some (iV x)
def BH{E:Env P}{N:Nat}{c:Code}{Q:Post}(e:Ex)(F:av->Hp->Prop)(h2:∀aC ae,F aC ae->Q e aC [] ae)(h1:∀Q':Post,(∀aC ae,F aC ae->Q' e aC [] ae)->cO E N c Q' I [] U):cO E N c Q I [] U:=h1 Q h2
variable {blk n:Nat}
def sP.two(h:sP U blk n)(hi:i<n)(hj:j<n):∃(L:List Value) (x y:Int),U.f blk=some (.cells L.toArray 3 (0,0))/\((0:Int)<=i/\(i:Int)<n)/\((0:Int)<=j/\(j:Int)<n)/\L[i]? =some (iV x)/\L[j]? =some (iV y):=by obtain⟨L,h1,h2⟩:=h;obtain⟨x,hx⟩:=h2 i hi;obtain⟨y,hy⟩:=h2 j hj;exact⟨L,x,y,h1,aa,aa,hx,hy⟩
variable {sb:Nat}
def sP.set(h:sP U blk n)(aE:blk≠sb)(o:Obj):sP (U.set sb o) blk n:=by obtain⟨L,h1,h2⟩:=h;exact⟨L,(Hp.az aE).trans h1,h2⟩
variable {d:List Int}
def Mx.two(h:Mx U blk d pad J)(hi:i<d.length)(hj:j<d.length):∃(L:List Value) (x y:Int),J.f blk=some (.cells L.toArray 3 (0,0))/\((0:Int)<=i/\(i:Int)<d.length)/\((0:Int)<=j/\(j:Int)<d.length)/\L[i]? =some (iV x)/\L[j]? =some (iV y)/\i<L.length/\j<L.length/\Mx U blk d pad (J.set blk (.cells ((L.set i (iV y)).set j (iV x)).toArray 3 (0,0))):=by
 obtain⟨xs,p,rfl⟩:=h;have hl:=p.length_eq;rw[<-hl]at hi hj;refine⟨_,xs[i],xs[j],aZ,aa,aa,?_,?_,by simp;omega,by simp;omega,(xs.set i xs[j]).set j xs[i],(List.set_set_perm hi hj).trans p,?_⟩
 ·rw[List.getElem?_append_left (aW hi)];simp[hi,aY]
 ·rw[List.getElem?_append_left (aW hj)];simp[hj,aY]
 ·rw[Hp.set_set,List.set_append_left _ _ (aW hi),List.set_append_left _ _ (aW hj),List.map_set,List.map_set];rfl
def Mx.rd(h:Mx U blk d pad J):sP J blk d.length:=by have k:=h;obtain⟨xs,p,rfl⟩:=k;exact⟨_,aZ,λi hi=>by obtain⟨L,x,_,h1,_,_,h2,_⟩:=h.two hi hi;rw[Hp.bD]at h1;cases h1;exact⟨x,h2⟩⟩
variable {cap et:Nat}{s:Int}{lo hi:Nat}
def MT(hd:sP U blk n)(hs:U.f sb=some (.cells [iV s].toArray et (0,0)))(ha:lo<=a/\a<hi)(hb:lo<=b/\b<hi)(hn:hi<=n):
 ay E 237 #[dS blk n cap,iV a,iV b,pV sb] U λe J=>(∃x y:Nat,(lo<=x/\x<hi)/\(lo<=y/\y<hi)/\e=.returned (.tuple #[iV x,iV y]))/\∃s:Int,J=U.set sb (.cells [iV s].toArray et (0,0)):=by
 refine aX func237 ntmps237 results237 λQ aD an aA=>?_;obtain⟨L,x,y,fa,c1,c2,ga,gb⟩:=hd.two (i:=a) (j:=b) aa aa;simp only[go_sem,seval,dS];refine bG 9 ?_;refine lI c1 c2 fa ga gb ?_;refine aT py ?_;refine⟨dF fa ga gb,?_⟩
 cases decide (y<x)with
 |false=>
  refine ag ?_;exact an (J:=U) iO ao ⟨⟨a,b,ha,hb,by simp[up]⟩,s,by rw[Hp.Ii hs]⟩
 |true=>
  refine aJ hs ?_;exact an iO ao ⟨⟨b,a,hb,ha,by simp[up]⟩,_,rfl⟩
def Mp(hd:sP U blk n)(hs:U.f sb=some (.cells [iV s].toArray et (0,0)))(aE:blk≠sb)(ha:lo<=a/\a<hi)(hb:lo<=b/\b<hi)(hc:lo<=c/\c<hi)(hn:hi<=n):
 ay E 213 #[dS blk n cap,iV a,iV b,iV c,pV sb] U λe J=>(∃x:Nat,(lo<=x/\x<hi)/\e=.returned (iV x))/\∃s:Int,J=U.set sb (.cells [iV s].toArray et (0,0)):=by
 refine aX func213 ntmps213 results213 λQ aD an aA=>?_;have qj:∀o,(U.set sb o).f sb=some o:=λ_=>aZ;refine ag ?_;refine dH Kc (MT (cap:=cap) hd hs ha hb hn) ?_ (λch ae ⟨⟨_,_,_,_,h⟩,_⟩=>by cases h);rintro v J ⟨⟨x1,y1,tz,hy1,hv⟩,s1,rfl⟩
 cases hv
 refine ag ?_;refine dH Kc (MT (cap:=cap) (hd.set aE _) (qj _) hy1 hc hn) ?_ (λch ae ⟨⟨_,_,_,_,h⟩,_⟩=>by cases h);rintro v J ⟨⟨x2,y2,rh,Ta,hv⟩,s2,rfl⟩
 cases hv
 rw[Hp.set_set];refine ag ?_;refine dH Kc (MT (cap:=cap) (hd.set aE _) (qj _) tz rh hn) ?_ (λch ae ⟨⟨_,_,_,_,h⟩,_⟩=>by cases h);rintro v J ⟨⟨x3,y3,S5,hy3,hv⟩,s3,rfl⟩
 cases hv
 rw[Hp.set_set];refine ag ?_;exact an aI ao ⟨⟨y3,hy3,by simp[up]⟩,s3,rfl⟩
def Mo(hd:sP U blk n)(hs:U.f sb=some (.cells [iV s].toArray et (0,0)))(aE:blk≠sb)(ha:lo+1<=a/\a+1<hi)(hn:hi<=n)(hh:hi<=1000000):
 ay E 212 #[dS blk n cap,iV a,pV sb] U λe J=>(∃x:Nat,(lo<=x/\x<hi)/\e=.returned (iV x))/\∃s:Int,J=U.set sb (.cells [iV s].toArray et (0,0)):=by
 refine aX func212 ntmps212 results212 λQ aD an aA=>?_;have w1:IntKind.i64.wrap ((a:Int)-1)=((a-1:Nat):Int):=cH;have w2:=fQ a;refine bu w1 w2 ?_;refine aK (Mp (cap:=cap) (lo:=lo) (hi:=hi) hd hs aE aa aa aa hn) ?_;rintro v J ⟨⟨x,hx,hv⟩,s2,rfl⟩
 cases hv
 refine ag ?_;exact an aI ao ⟨⟨x,hx,by simp[up]⟩,s2,rfl⟩
def aoT(M:Mx U blk d pad J)(hb:b<=d.length)(jd:1<=b)(hn:d.length<=1000000)(ha:a<=b):
 ay E 166 #[dS blk d.length cap,iV a,iV b] J λe J=>e=.returned (.tuple #[])/\Mx U blk d pad J:=by
 refine aX func166 ntmps166 results166 λQ aD an aA=>?_;have w1:IntKind.i64.wrap ((b:Int)-1)=((b-1:Nat):Int):=cH;have sk:∀x,dp (iV x)=true:=λ_=>rfl;refine aJ w1 ?_;refine di (λm I ds ae=>ds=[]/\I 0=dS blk d.length cap/\∃(i j:Nat),m=j-i/\I 6=iV i/\I 7=iV j/\j<b/\Mx U blk d pad ae) (b-1-a) ?_ ?_
 ·refine⟨rfl,?_,a,b-1,rfl,?_,?_,aa,M⟩<;>exact au
 rintro m I ds cX Y ⟨rfl,h0,i,j,rfl,h6,h7,hj,M⟩ hY;by_cases qV:i<j
 ·have k:(i:Int)<j:=aa;have w2:=fQ i;have w3:IntKind.i64.wrap ((j:Int)-1)=((j-1:Nat):Int):=cH;refine bR h6 h7 k ?_;obtain⟨L,x,y,fa,cx,cy,gx,gy,l1,l2,M2⟩:=M.two (i:=i) (j:=j) aa aa;refine bG 16 ?_;simp only[go_sem,seval,h0,h6,h7,cx,cy,fa,gx,gy,sk,l1];refine⟨dF fa gx gy,?_⟩;refine ag ?_;refine⟨l2,?_⟩;refine⟨dF fa gx gy,?_⟩;refine fV h6 h7 w2 w3 ?_
  try rw[Hp.set_set]
  refine hY (j-1-(i+1)) _ _ _ _ aa ⟨rfl,?_,i+1,j-1,rfl,?_,?_,aa,M2⟩ ao<;>exact aQ h0
 ·have k:¬(i:Int)<j:=aa;refine bR h6 h7 k ?_;exact aD dA ao ⟨rfl,M⟩
def aih(M:Mx U blk d pad J)(dr:a<=b)(hb:b<=d.length)(hn:d.length<=1000000):
 ay E 162 #[dS blk d.length cap,iV a,iV b] J λe J=>e=.returned (.tuple #[])/\Mx U blk d pad J:=by
 refine aX func162 ntmps162 results162 λQ aD an aA=>?_;have w1:=fQ a;have sk:∀x,dp (iV x)=true:=λ_=>rfl;refine aJ w1 ?_;refine di (λm I ds ae=>ds=[]/\I 0=dS blk d.length cap/\I 1=iV a/\I 2=iV b/\∃i:Nat,m=b-i/\I 6=iV i/\a<i/\i<=b+1/\Mx U blk d pad ae) (b-(a+1)) ?_ ?_
 ·refine⟨rfl,?_,?_,?_,a+1,rfl,?_,aa,aa,M⟩<;>exact au
 rintro m I ds cX Y ⟨rfl,h0,h1,h2,i,rfl,h6,Dr,DT,M⟩ hY;by_cases qV:i<b
 ·have k:(i:Int)<b:=aa;have w2:=fQ i;refine bR h2 h6 k ?_;refine di (λ(j:Nat) I ds ae=>ds=[]/\I 0=dS blk d.length cap/\I 1=iV a/\I 2=iV b/\I 6=iV i/\I 7=iV j/\a<=j/\j<=i/\Mx U blk d pad ae) i ?_ ?_
  ·refine⟨rfl,?_,?_,?_,?_,?_,aa,aa,M⟩<;>exact iP h0 h1 h2 h6
  clear M h0 h1 h2 h6;rintro j I ds cX Y2 ⟨rfl,h0,h1,h2,h6,h7,haj,Bs,M⟩ Kz;refine ag ?_;refine bG 15 ?_;by_cases hj:a<j
  ·obtain⟨p,hp⟩:∃p,p=j-1:=⟨_,rfl⟩;have kj:(j:Int)>a:=aa;have w3:IntKind.i64.wrap ((j:Int)-1)=(p:Int):=cH;obtain⟨L,x,y,fa,c1,c2,gi,gj⟩:=M.rd.two (i:=j) (j:=p) aa aa;simp only[go_sem,seval,h0,h1,h7,kj,c1,c2,w3,fa,gi,gj];refine aT py ?_;refine⟨dF fa gi gj,?_⟩
   cases decide (x<y)with
   |false=>
    refine bu h6 w2 ?_;refine hY (b-(i+1)) _ _ _ _ aa ⟨rfl,?_,?_,?_,i+1,rfl,?_,aa,aa,M⟩ ao<;>exact nW h0 h1 h2
   |true=>
    refine ag ?_;obtain⟨L,x,y,fa,cx,cy,gx,gy,l1,l2,M2⟩:=M.two (i:=j) (j:=p) aa aa;refine bG 18 ?_;simp only[go_sem,seval,h0,h7,w3,cx,cy,fa,gx,gy,sk,l1];refine⟨dF fa gx gy,?_⟩;refine ag ?_;refine⟨l2,?_⟩;refine⟨dF fa gx gy,?_⟩;refine bu h7 w3 ?_
    try rw[Hp.set_set]
    refine Kz p _ _ _ _ aa ⟨rfl,?_,?_,?_,?_,?_,aa,aa,M2⟩ ao<;>exact iP h0 h1 h2 h6
  ·have kj:¬(j:Int)>a:=aa;refine lI h1 h6 h7 kj w2 ?_;refine hY (b-(i+1)) _ _ _ _ aa ⟨rfl,?_,?_,?_,i+1,rfl,?_,aa,aa,M⟩ ao<;>exact nW h0 h1 h2
 ·have k:¬(i:Int)<b:=aa;refine bR h2 h6 k ?_;exact aD dA ao ⟨rfl,M⟩
def abi(hd:sP U blk n)(dr:a+12<b)(hb:b<=n)(hn:n<=1000000):
 ay E 165 #[dS blk n cap,iV a,iV b] U λe J=>(∃(x:Nat) (h:Int),(a<=x/\x<b)/\e=.returned (.tuple #[iV x,iV h]))/\J=U:=by
 refine aX func165 ntmps165 results165 λQ aD an aA=>?_;obtain⟨l,hl⟩:∃l,l=b-a:=⟨_,rfl⟩;obtain⟨q,hq⟩:∃q,q=l/4:=⟨_,rfl⟩;have w1:IntKind.i64.wrap ((b:Int)-(a:Int))=(l:Int):=cH
 have w4:IntKind.i64.wrap ((l:Int).tdiv 4)=(q:Int):=by
  have:(l:Int).tdiv 4=(q:Int):=by rw[hq];rfl
  rw[this,wrap64 aa aa]
 obtain⟨j2,qW⟩:∃j,j=q*2:=⟨_,rfl⟩;obtain⟨k3,Sp⟩:∃j,j=q*3:=⟨_,rfl⟩;obtain⟨i,hi⟩:∃i,i=a+q:=⟨_,rfl⟩;obtain⟨j,hj⟩:∃j,j=a+j2:=⟨_,rfl⟩;obtain⟨k,hk⟩:∃k,k=a+k3:=⟨_,rfl⟩;have m2:IntKind.i64.wrap ((q:Int)*2)=(j2:Int):=cH;have m3:IntKind.i64.wrap ((q:Int)*3)=(k3:Int):=cH;have m0:IntKind.i64.wrap ((q:Int)*1)=(q:Int):=cH;have t1:IntKind.i64.wrap ((a:Int)+(q:Int))=(i:Int):=cH;have t2:IntKind.i64.wrap ((a:Int)+(j2:Int))=(j:Int):=cH;have t3:IntKind.i64.wrap ((a:Int)+(k3:Int))=(k:Int):=cH;have k8:(8:Int)<=l:=aa;refine aJ w1 ?_;refineλb9 pd=>?_;have aE:blk≠b9:=λe=>by obtain⟨_,h,_⟩:=hd;rw[e,pd]at h;cases h
 have gJ:∀o,U.le (U.set b9 o):=λo x p hx=>by rw[Hp.az (bj pd hx)];exact hx
 have ec:(Value.int IntKind.i64 0).cells=[iV 0].toArray:=by first|rfl|simp[Value.cells]
 have fL:∀o,sP (U.set b9 o) blk n:=λo=>hd.set aE o;have qj:∀o,(U.set b9 o).f b9=some o:=λ_=>aZ;refine jE w4 m0 m2 m3 t1 t2 t3 k8 ?_;rw[ec];by_cases rQ:l>=50
 ·have L0:(50:Int)<=l:=aa;refine aJ L0 ?_;refine aK (Mo (cap:=cap) (a:=i) (lo:=a) (hi:=b) (s:=0) (et:=3) (fL _) (qj _) aE aa hb aa) ?_;rintro v J ⟨⟨x1,tz,hv⟩,s1,rfl⟩
  cases hv
  rw[Hp.set_set];refine ag ?_;refine aK (Mo (cap:=cap) (a:=j) (lo:=a) (hi:=b) (s:=s1) (et:=3) (fL _) (qj _) aE aa hb aa) ?_;rintro v J ⟨⟨x2,rh,hv⟩,s2,rfl⟩
  cases hv
  rw[Hp.set_set];refine ag ?_;refine aK (Mo (cap:=cap) (a:=k) (lo:=a) (hi:=b) (s:=s2) (et:=3) (fL _) (qj _) aE aa hb aa) ?_;rintro v J ⟨⟨x3,S5,hv⟩,s3,rfl⟩
  cases hv
  rw[Hp.set_set];refine ag ?_;refine aK (Mp (cap:=cap) (lo:=a) (hi:=b) (s:=s3) (et:=3) (fL _) (qj _) aE tz rh S5 hb) ?_;rintro v J ⟨⟨x,hx,hv⟩,s,rfl⟩
  cases hv
  rw[Hp.set_set];by_cases z0:s=0
  ·refine bu qj z0 ?_;exact an iO (gJ _) ⟨⟨x,_,hx,by simp[up];rfl⟩,rfl⟩
  by_cases z1:s=12
  ·refine bu qj z1 ?_;exact an iO (gJ _) ⟨⟨x,_,hx,by simp[up];rfl⟩,rfl⟩
  ·refine bR qj z0 z1 ?_;exact an iO (gJ _) ⟨⟨x,_,hx,by simp[up];rfl⟩,rfl⟩
 ·have L0:¬(50:Int)<=l:=aa;refine aJ L0 ?_;refine aK (Mp (cap:=cap) (lo:=a) (hi:=b) (s:=0) (et:=3) (fL _) (qj _) aE (b:=j) (a:=i) (c:=k) aa aa aa hb) ?_;rintro v J ⟨⟨x,hx,hv⟩,s,rfl⟩
  cases hv
  rw[Hp.set_set];by_cases z0:s=0
  ·refine bu qj z0 ?_;exact an iO (gJ _) ⟨⟨x,_,hx,by simp[up];rfl⟩,rfl⟩
  by_cases z1:s=12
  ·refine bu qj z1 ?_;exact an iO (gJ _) ⟨⟨x,_,hx,by simp[up];rfl⟩,rfl⟩
  ·refine bR qj z0 z1 ?_;exact an iO (gJ _) ⟨⟨x,_,hx,by simp[up];rfl⟩,rfl⟩
def VD{first:Nat}(M:Mx U blk d pad J)(hb:first+hi<=d.length)(Bu:lo<=d.length)(hn:d.length<=1000000):
 ay E 209 #[dS blk d.length cap,iV lo,iV hi,iV first] J λe J=>e=.returned (.tuple #[])/\Mx U blk d pad J:=by
 refine aX func209 ntmps209 results209 λQ aD an aA=>?_;have sk:∀x,dp (iV x)=true:=λ_=>rfl;refine ag ?_;refine di (λm I ds ae=>ds=[]/\I 0=dS blk d.length cap/\I 2=iV hi/\I 3=iV first/\∃root:Nat,m=hi-root/\I 8=iV root/\root<=d.length/\Mx U blk d pad ae) (hi-lo) ?_ ?_
 ·refine⟨rfl,?_,?_,?_,lo,rfl,?_,Bu,M⟩<;>exact au
 clear M;rintro m I ds J Y ⟨rfl,h0,h2,h3,root,rfl,h8,By,M⟩ hY;obtain⟨r2,bZ⟩:∃r2,r2=2*root:=⟨_,rfl⟩;obtain⟨ch,dR⟩:∃ch,ch=2*root+1:=⟨_,rfl⟩;have m1:IntKind.i64.wrap (2*(root:Int))=(r2:Int):=cH;have m2:IntKind.i64.wrap ((r2:Int)+1)=(ch:Int):=cH;have m3:=fQ ch;by_cases xP:hi<=ch
 ·have k1:(hi:Int)<=ch:=aa;refine lI h2 h8 m1 m2 k1 ?_;exact aD dA ao ⟨rfl,M⟩
 have k1:¬(hi:Int)<=ch:=aa;refine Ck (dU λK1 mB=>?_);refine bR h8 m1 m2 ?_;refine mB _ _ _ (dU λK2 nB=>?_);refine bu h2 k1 ?_;refine nB _ _ _ (dU λK3 pb=>?_);clear mB nB
 have tail:∀(I:av) (c:Nat),I 0=dS blk d.length cap->I 2=iV hi->I 3=iV first->I 8=iV root->I 9=iV c->root<c->c<hi->K3 I [] J:=by
  clear h0 h2 h3 h8 I;intro I c h0 h2 h3 h8 h9 hrc hc;refine pb _ _ _ ?_;clear pb;obtain⟨p,hp⟩:∃p,p=first+root:=⟨_,rfl⟩
  obtain⟨q,hq⟩:∃q,q=first+c:=⟨_,rfl⟩
  have wp:IntKind.i64.wrap ((first:Int)+(root:Int))=(p:Int):=cH;have wq:IntKind.i64.wrap ((first:Int)+(c:Int))=(q:Int):=cH;obtain⟨L,x,y,fa,cx,cy,gx,gy,l1,l2,M2⟩:=M.two (i:=p) (j:=q) aa aa;refine ag ?_;refine bG 14 ?_;simp only[go_sem,seval,h0,h3,h8,h9,wp,wq,cx,cy,fa,gx,gy];refine aT py ?_;refine⟨dF fa gx gy,?_⟩
  cases decide (x<y)with
  |false=>
   refine ag ?_;exact an dA ao ⟨rfl,M⟩
  |true=>
   refine ag ?_;refine bG 24 ?_;simp only[go_sem,seval,h0,h3,h8,h9,wp,wq,cx,cy,fa,gx,gy,sk,l1];refine⟨dF fa gx gy,?_⟩;refine ag ?_;refine⟨l2,?_⟩;refine⟨dF fa gx gy,?_⟩;refine aJ h9 ?_
   try rw[Hp.set_set]
   refine hY (hi-c) _ _ _ _ aa ⟨rfl,?_,?_,?_,c,rfl,?_,aa,M2⟩ ao<;>exact nW h0 h2 h3
 refine ag ?_;refine bG 20 ?_;by_cases fY:ch+1<hi
 ·have k2:((ch+1:Nat):Int)<hi:=aa;obtain⟨p,hp⟩:∃p,p=first+ch:=⟨_,rfl⟩
  have wp:IntKind.i64.wrap ((first:Int)+(ch:Int))=(p:Int):=cH;have wq:=fQ p;obtain⟨L,x,y,fa,cx,cy,gx,gy⟩:=M.rd.two (i:=p) (j:=p+1) aa aa;simp only[go_sem,seval,h0,h2,h3,m3,k2,wp,wq,cx,cy,fa,gx,gy];refine aT py ?_;refine⟨dF fa gx gy,?_⟩
  cases decide (x<y)with
  |true=>
   refine aJ m3 ?_;refine tail _ (ch+1) ?_ ?_ ?_ ?_ ?_ aa aa<;>exact iP h0 h2 h3 h8
  |false=>
   refine ag ?_;refine tail _ ch ?_ ?_ ?_ ?_ ?_ aa aa<;>exact iP h0 h2 h3 h8
 ·have k2:¬((ch+1:Nat):Int)<hi:=aa;refine bR h2 m3 k2 ?_;refine tail _ ch ?_ ?_ ?_ ?_ ?_ aa aa<;>exact iP h0 h2 h3 h8
def afZ(M:Mx U blk d pad J)(dr:a+12<b)(hb:b<=d.length)(hn:d.length<=1000000):
 ay E 163 #[dS blk d.length cap,iV a,iV b] J λe J=>e=.returned (.tuple #[])/\Mx U blk d pad J:=by
 refine aX func163 ntmps163 results163 λQ aD an aA=>?_;have sk:∀x,dp (iV x)=true:=λ_=>rfl;obtain⟨hi,DN⟩:∃hi,hi=b-a:=⟨_,rfl⟩;obtain⟨mH,atp⟩:∃mH,mH=hi-1:=⟨_,rfl⟩;obtain⟨g,hg⟩:∃g,g=mH/2:=⟨_,rfl⟩;have w1:IntKind.i64.wrap ((b:Int)-(a:Int))=(hi:Int):=cH;have w2:IntKind.i64.wrap ((hi:Int)-1)=(mH:Int):=cH
 have w3:IntKind.i64.wrap ((mH:Int).tdiv 2)=(g:Int):=by
  have:(mH:Int).tdiv 2=(g:Int):=by rw[hg];rfl
  rw[this,wrap64 aa aa]
 refine bR w1 w2 w3 ?_;refine di (λk I ds ae=>ds=[]/\I 0=dS blk d.length cap/\I 6=iV a/\I 7=iV 0/\I 8=iV hi/\∃z:Int,z=(k:Int)-1/\I 9=iV z/\k<=g+1/\Mx U blk d pad ae) (g+1) ?_ ?_
 ·refine⟨rfl,?_,?_,?_,?_,g,aa,?_,Nat.le_refl _,M⟩<;>exact au
 clear M;rintro k I ds J Y ⟨rfl,h0,h6,h7,h8,z,hz,h9,hk,M⟩ hY;have w4:IntKind.i64.wrap (z-1)=z-1:=cH
 cases k with
 |succ k=>
  have c0:(0:Int)<=z:=aa;obtain rfl:z=(k:Int):=aa;refine lI h0 h6 h8 h9 c0 ?_;refine aK (VD M aa aa aa) ?_;rintro v J ⟨hv,M⟩
  cases hv
  refine bu h9 w4 ?_;refine hY k _ _ _ _ aa ⟨rfl,?_,?_,?_,?_,_,rfl,?_,aa,M⟩ ao<;>exact iP h0 h6 h7 h8
 |zero=>
  have c0:¬(0:Int)<=z:=aa;refine fV h8 h9 c0 w2 ?_;clear hY hz;refine di (λk I ds ae=>ds=[]/\I 0=dS blk d.length cap/\I 6=iV a/\I 7=iV 0/\∃z:Int,z=(k:Int)-1/\I 10=iV z/\k<=hi/\Mx U blk d pad ae) hi ?_ ?_
  ·refine⟨rfl,?_,?_,?_,mH,aa,?_,Nat.le_refl _,M⟩<;>exact nW h0 h6 h7
  clear M h0 h6 h7 h8 h9 I w4 c0 z;rintro k I ds J Y ⟨rfl,h0,h6,h7,z,hz,bC,hk,M⟩ hY;have w4:IntKind.i64.wrap (z-1)=z-1:=cH
  cases k with
  |succ k=>
   have c1:(0:Int)<=z:=aa;obtain rfl:z=(k:Int):=aa;obtain⟨y',uQ⟩:∃y,y=a+k:=⟨_,rfl⟩;have w6:IntKind.i64.wrap ((a:Int)+(k:Int))=(y':Int):=cH;refine bu bC c1 ?_;obtain⟨L,x,y,fa,cx,cy,gx,gy,l1,l2,M2⟩:=M.two (i:=a) (j:=y') aa aa;refine bG 20 ?_;simp only[go_sem,seval,h0,h6,bC,w6,cx,cy,fa,gx,gy,sk,l1];refine⟨dF fa gx gy,?_⟩;refine ag ?_;refine⟨l2,?_⟩;refine⟨dF fa gx gy,?_⟩;refine fV h0 h6 h7 bC ?_
   try rw[Hp.set_set]
   have hsd:=VD (E:=E) (cap:=cap) (lo:=0) (hi:=k) (first:=a) M2 aa aa aa;refine aK hsd ?_;rintro v J ⟨hv,M⟩
   cases hv
   refine bu bC w4 ?_;refine hY k _ _ _ _ aa ⟨rfl,?_,?_,?_,_,rfl,?_,aa,M⟩ ao<;>exact nW h0 h6 h7
  |zero=>
   have c1:¬(0:Int)<=z:=aa;refine bu bC c1 ?_;exact aD dA ao ⟨rfl,M⟩
def amZ{pv:Nat}(M:Mx U blk d pad J)(dr:a+12<b)(hb:b<=d.length)(hn:d.length<=1000000)(Ha:a<=pv)(qZ:pv<b):
 ay E 170 #[dS blk d.length cap,iV a,iV b,iV pv] J λe J=>(∃(m:Nat) (r:Bool),a<=m/\m<b/\e=.returned (.tuple #[iV m,.bool r]))/\Mx U blk d pad J:=by
 refine aX func170 ntmps170 results170 λQ aD an aA=>?_;obtain⟨a1,dn⟩:∃a1,a1=a+1:=⟨_,rfl⟩;obtain⟨b1,jd⟩:∃b1,b1=b-1:=⟨_,rfl⟩;have wa:IntKind.i64.wrap ((a:Int)+1)=(a1:Int):=cH;have wb:IntKind.i64.wrap ((b:Int)-1)=(b1:Int):=cH;have sk:∀x,dp (iV x)=true:=λ_=>rfl;refine ag ?_;obtain⟨L,x,y,fa,cx,cy,gx,gy,l1,l2,M2⟩:=M.two (i:=a) (j:=pv) aa aa;refine bG 16 ?_;refine jR cx cy fa gx gy sk l1 ?_;refine⟨dF fa gx gy,?_⟩;refine ag ?_;refine⟨l2,?_⟩;refine⟨dF fa gx gy,?_⟩;refine bu wa wb ?_
 try rw[Hp.set_set]
 clear M;generalize J.set blk _=J at*;have M:=M2;clear M2;refine BH (.exit 0) (λI ae=>(I 0=dS blk d.length cap/\I 1=iV a/\I 11=iV b1)/\ae=J/\∃k:Nat,I 10=iV k/\a1<=k/\(k<=b1+1\/k=a1)) ?_ λQ hQ=>?_
 rotate_left
 ·refine di (λm I ds ae=>ds=[]/\(I 0=dS blk d.length cap/\I 1=iV a/\I 11=iV b1)/\ae=J/\∃k:Nat,I 10=iV k/\m=b1+1-k/\a1<=k/\(k<=b1+1\/k=a1)) (b1+1-a1) ?_ ?_
  ·refine⟨rfl,⟨?_,?_,?_⟩,rfl,a1,?_,rfl,aa,aa⟩<;>exact au
  rintro m I ds _ X ⟨rfl,⟨g0,g1,gj⟩,rfl,k,gk,rfl,jf,ic⟩ hX;refine ag ?_;refine bG 14 ?_;by_cases hle:k<=b1
  ·have c0:(k:Int)<=b1:=aa;obtain⟨L,x,y,fa,cx,ca,gx,ga⟩:=M.rd.two (i:=k) (j:=a) aa aa;have wk:=fQ k;simp only[go_sem,seval,g0,g1,gj,gk,c0,cx,ca,fa,gx,ga];refine aT py ?_;refine⟨dF fa gx ga,?_⟩
   cases decide (x<y)with
   |true=>
    refine bu gk wk ?_;refine hX _ _ _ _ _ aa ⟨rfl,⟨?_,?_,?_⟩,rfl,k+1,?_,rfl,aa,aa⟩ ao<;>exact nW g0 g1 gj
   |false=>
    refine ag ?_;refine hQ _ _ ⟨⟨?_,?_,?_⟩,rfl,k,?_,jf,ic⟩<;>exact iP g0 g1 gj gk
  ·have c0:¬(k:Int)<=b1:=aa;refine bR gj gk c0 ?_;refine hQ _ _ ⟨⟨?_,?_,?_⟩,rfl,k,?_,jf,ic⟩<;>exact iP g0 g1 gj gk
 rintro I J ⟨⟨h0,h1,bT⟩,rfl,i2,bC,Ph,AP⟩;refine ag ?_;refine BH (.exit 2) (λI ae=>(I 0=dS blk d.length cap/\I 1=iV a/\I 10=iV i2)/\ae=J/\∃k:Nat,I 11=iV k/\k<=b1/\(i2<=k+1\/k=b1)) ?_ λQ hQ=>?_
 rotate_left
 ·refine di (λk I ds ae=>ds=[]/\(I 0=dS blk d.length cap/\I 1=iV a/\I 10=iV i2)/\ae=J/\I 11=iV k/\k<=b1/\(i2<=k+1\/k=b1)) (b1) ?_ ?_
  ·refine⟨rfl,⟨?_,?_,?_⟩,rfl,?_,aa,aa⟩<;>exact iP h0 h1 bC bT
  rintro k I ds _ X ⟨rfl,⟨g0,g1,gj⟩,rfl,gk,jf,ic⟩ hX;refine ag ?_;refine bG 15 ?_;by_cases hle:i2<=k
  ·have c0:(i2:Int)<=k:=aa;obtain⟨L,x,y,fa,cx,ca,gx,ga⟩:=M.rd.two (i:=k) (j:=a) aa aa;obtain⟨p,hp⟩:∃p,p=k-1:=⟨_,rfl⟩;have wk:IntKind.i64.wrap ((k:Int)-1)=(p:Int):=cH;simp only[go_sem,seval,g0,g1,gj,gk,c0,cx,ca,fa,gx,ga];refine aT py ?_;refine⟨dF fa gx ga,?_⟩
   cases decide (x<y)with
   |false=>
    refine bu gk wk ?_;refine hX p _ _ _ _ aa ⟨rfl,⟨?_,?_,?_⟩,rfl,?_,aa,aa⟩ ao<;>exact nW g0 g1 gj
   |true=>
    refine ag ?_;refine hQ _ _ ⟨⟨?_,?_,?_⟩,rfl,k,?_,jf,ic⟩<;>exact iP g0 g1 gj gk
  ·have c0:¬(i2:Int)<=k:=aa;refine bR gj gk c0 ?_;refine hQ _ _ ⟨⟨?_,?_,?_⟩,rfl,k,?_,jf,ic⟩<;>exact iP g0 g1 gj gk
 rintro I J ⟨⟨h0,h1,bC⟩,rfl,j2,bT,Pj,Pk⟩;by_cases qV:j2<i2
 ·have k0:(j2:Int)<i2:=aa;refine bR bC bT k0 ?_;obtain⟨L,x,y,fa,cx,cy,gx,gy,l1,l2,M2⟩:=M.two (i:=j2) (j:=a) aa aa;refine bG 16 ?_;simp only[go_sem,seval,h0,h1,bT,cx,cy,fa,gx,gy,sk,l1];refine⟨dF fa gx gy,?_⟩;refine ag ?_;refine⟨l2,?_⟩;refine⟨dF fa gx gy,?_⟩;refine aJ bT ?_
  try rw[Hp.set_set]
  exact an iO ao ⟨⟨j2,_,aa,aa,by simp[up];rfl⟩,M2⟩
 have k0:¬(j2:Int)<i2:=aa;have wi:=fQ i2;have wj:IntKind.i64.wrap ((j2:Int)-1)=((j2-1:Nat):Int):=cH;refine bR bC bT k0 ?_;obtain⟨L,x,y,fa,cx,cy,gx,gy,l1,l2,M2⟩:=M.two (i:=i2) (j:=j2) aa aa;refine bG 16 ?_;simp only[go_sem,seval,h0,bC,bT,cx,cy,fa,gx,gy,sk,l1];refine⟨dF fa gx gy,?_⟩;refine ag ?_;refine⟨l2,?_⟩;refine⟨dF fa gx gy,?_⟩;refine fV bC bT wi wj ?_
 try rw[Hp.set_set]
 refine di (λm I ds ae=>ds=[]/\I 0=dS blk d.length cap/\I 1=iV a/\∃(i j:Nat),m=j+1-i/\I 10=iV i/\I 11=iV j/\a+2<=i/\i<=b/\i<=j+2/\j<b/\Mx U blk d pad ae) _ ⟨rfl,?_,?_,i2+1,j2-1,rfl,?_,?_,aa,aa,aa,aa,M2⟩ ?_
 iterate 4 simp only[go_sem,seval,h0,h1]
 clear h0 h1 bC bT M M2 I;rintro m I ds J Y ⟨rfl,h0,h1,i,j,rfl,bC,bT,Dr,DT,agp,hjb,M⟩ hY;refine ag ?_;refine BH (.exit 6) (λI ae=>(I 0=dS blk d.length cap/\I 1=iV a/\I 11=iV j)/\ae=J/\∃k:Nat,I 10=iV k/\i<=k/\(k<=j+1\/k=i)) ?_ λQ hQ=>?_
 rotate_left
 ·refine di (λm I ds ae=>ds=[]/\(I 0=dS blk d.length cap/\I 1=iV a/\I 11=iV j)/\ae=J/\∃k:Nat,I 10=iV k/\m=j+1-k/\i<=k/\(k<=j+1\/k=i)) (j+1-i) ?_ ?_
  ·refine⟨rfl,⟨?_,?_,?_⟩,rfl,i,?_,rfl,aa,aa⟩<;>exact iP h0 h1 bC bT
  rintro m I ds _ X ⟨rfl,⟨g0,g1,gj⟩,rfl,k,gk,rfl,jf,ic⟩ hX;refine ag ?_;refine bG 14 ?_;by_cases hle:k<=j
  ·have c0:(k:Int)<=j:=aa;obtain⟨L,x,y,fa,cx,ca,gx,ga⟩:=M.rd.two (i:=k) (j:=a) aa aa;have wk:=fQ k;simp only[go_sem,seval,g0,g1,gj,gk,c0,cx,ca,fa,gx,ga];refine aT py ?_;refine⟨dF fa gx ga,?_⟩
   cases decide (x<y)with
   |true=>
    refine bu gk wk ?_;refine hX _ _ _ _ _ aa ⟨rfl,⟨?_,?_,?_⟩,rfl,k+1,?_,rfl,aa,aa⟩ ao<;>exact nW g0 g1 gj
   |false=>
    refine ag ?_;refine hQ _ _ ⟨⟨?_,?_,?_⟩,rfl,k,?_,jf,ic⟩<;>exact iP g0 g1 gj gk
  ·have c0:¬(k:Int)<=j:=aa;refine bR gj gk c0 ?_;refine hQ _ _ ⟨⟨?_,?_,?_⟩,rfl,k,?_,jf,ic⟩<;>exact iP g0 g1 gj gk
 rintro I J ⟨⟨h0,h1,bT⟩,rfl,i2,bC,Ph,AP⟩;refine ag ?_;refine BH (.exit 8) (λI ae=>(I 0=dS blk d.length cap/\I 1=iV a/\I 10=iV i2)/\ae=J/\∃k:Nat,I 11=iV k/\k<=j/\(i2<=k+1\/k=j)) ?_ λQ hQ=>?_
 rotate_left
 ·refine di (λk I ds ae=>ds=[]/\(I 0=dS blk d.length cap/\I 1=iV a/\I 10=iV i2)/\ae=J/\I 11=iV k/\k<=j/\(i2<=k+1\/k=j)) (j) ?_ ?_
  ·refine⟨rfl,⟨?_,?_,?_⟩,rfl,?_,aa,aa⟩<;>exact iP h0 h1 bC bT
  rintro k I ds _ X ⟨rfl,⟨g0,g1,gj⟩,rfl,gk,jf,ic⟩ hX;refine ag ?_;refine bG 15 ?_;by_cases hle:i2<=k
  ·have c0:(i2:Int)<=k:=aa;obtain⟨L,x,y,fa,cx,ca,gx,ga⟩:=M.rd.two (i:=k) (j:=a) aa aa;obtain⟨p,hp⟩:∃p,p=k-1:=⟨_,rfl⟩;have wk:IntKind.i64.wrap ((k:Int)-1)=(p:Int):=cH;simp only[go_sem,seval,g0,g1,gj,gk,c0,cx,ca,fa,gx,ga];refine aT py ?_;refine⟨dF fa gx ga,?_⟩
   cases decide (x<y)with
   |false=>
    refine bu gk wk ?_;refine hX p _ _ _ _ aa ⟨rfl,⟨?_,?_,?_⟩,rfl,?_,aa,aa⟩ ao<;>exact nW g0 g1 gj
   |true=>
    refine ag ?_;refine hQ _ _ ⟨⟨?_,?_,?_⟩,rfl,k,?_,jf,ic⟩<;>exact iP g0 g1 gj gk
  ·have c0:¬(i2:Int)<=k:=aa;refine bR gj gk c0 ?_;refine hQ _ _ ⟨⟨?_,?_,?_⟩,rfl,k,?_,jf,ic⟩<;>exact iP g0 g1 gj gk
 rintro I J ⟨⟨h0,h1,bC⟩,rfl,j2,bT,Pj,Pk⟩;by_cases qV:j2<i2
 ·have k0:(j2:Int)<i2:=aa;refine bR bC bT k0 ?_;obtain⟨L,x,y,fa,cx,cy,gx,gy,l1,l2,M2⟩:=M.two (i:=j2) (j:=a) aa aa;refine bG 16 ?_;simp only[go_sem,seval,h0,h1,bT,cx,cy,fa,gx,gy,sk,l1];refine⟨dF fa gx gy,?_⟩;refine ag ?_;refine⟨l2,?_⟩;refine⟨dF fa gx gy,?_⟩;refine aJ bT ?_
  try rw[Hp.set_set]
  exact an iO ao ⟨⟨j2,_,aa,aa,by simp[up];rfl⟩,M2⟩
 have k0:¬(j2:Int)<i2:=aa;have wi:=fQ i2;have wj:IntKind.i64.wrap ((j2:Int)-1)=((j2-1:Nat):Int):=cH;refine bR bC bT k0 ?_;obtain⟨L,x,y,fa,cx,cy,gx,gy,l1,l2,M2⟩:=M.two (i:=i2) (j:=j2) aa aa;refine bG 16 ?_;simp only[go_sem,seval,h0,bC,bT,cx,cy,fa,gx,gy,sk,l1];refine⟨dF fa gx gy,?_⟩;refine ag ?_;refine⟨l2,?_⟩;refine⟨dF fa gx gy,?_⟩;refine fV bC bT wi wj ?_
 try rw[Hp.set_set]
 refine hY _ _ _ _ _ aa ⟨rfl,?_,?_,i2+1,j2-1,rfl,?_,?_,aa,aa,aa,aa,M2⟩ ao<;>exact xu h0 h1
def amY{pv:Nat}(M:Mx U blk d pad J)(dr:a+12<b)(hb:b<=d.length)(hn:d.length<=1000000)(Ha:a<=pv)(qZ:pv<b):
 ay E 169 #[dS blk d.length cap,iV a,iV b,iV pv] J λe J=>(∃m:Nat,a<m/\m<=b/\e=.returned (iV m))/\Mx U blk d pad J:=by
 refine aX func169 ntmps169 results169 λQ aD an aA=>?_;obtain⟨a1,dn⟩:∃a1,a1=a+1:=⟨_,rfl⟩;obtain⟨b1,jd⟩:∃b1,b1=b-1:=⟨_,rfl⟩;have wa:IntKind.i64.wrap ((a:Int)+1)=(a1:Int):=cH;have wb:IntKind.i64.wrap ((b:Int)-1)=(b1:Int):=cH;have sk:∀x,dp (iV x)=true:=λ_=>rfl;refine ag ?_;obtain⟨L,x,y,fa,cx,cy,gx,gy,l1,l2,M2⟩:=M.two (i:=a) (j:=pv) aa aa;refine bG 16 ?_;refine jR cx cy fa gx gy sk l1 ?_;refine⟨dF fa gx gy,?_⟩;refine ag ?_;refine⟨l2,?_⟩;refine⟨dF fa gx gy,?_⟩;refine bu wa wb ?_
 try rw[Hp.set_set]
 refine di (λm I ds ae=>ds=[]/\I 0=dS blk d.length cap/\I 1=iV a/\∃(i j:Nat),m=j+1-i/\I 9=iV i/\I 10=iV j/\a<i/\i<=b/\i<=j+2/\j<b/\Mx U blk d pad ae) _ ⟨rfl,?_,?_,a1,b1,rfl,?_,?_,aa,aa,aa,aa,M2⟩ ?_
 iterate 4 simp only[go_sem,seval]
 clear M M2;rintro m I ds J Y ⟨rfl,h0,h1,i,j,rfl,h9,bC,Dr,DT,agp,hjb,M⟩ hY;refine ag ?_;refine BH (.exit 2) (λI ae=>(I 0=dS blk d.length cap/\I 1=iV a/\I 10=iV j)/\ae=J/\∃k:Nat,I 9=iV k/\i<=k/\(k<=j+1\/k=i)) ?_ λQ hQ=>?_
 rotate_left
 ·refine di (λm I ds ae=>ds=[]/\(I 0=dS blk d.length cap/\I 1=iV a/\I 10=iV j)/\ae=J/\∃k:Nat,I 9=iV k/\m=j+1-k/\i<=k/\(k<=j+1\/k=i)) (j+1-i) ?_ ?_
  ·refine⟨rfl,⟨?_,?_,?_⟩,rfl,i,?_,rfl,aa,aa⟩<;>exact iP h0 h1 h9 bC
  rintro m I ds _ X ⟨rfl,⟨g0,g1,gj⟩,rfl,k,gk,rfl,jf,ic⟩ hX;refine ag ?_;refine bG 15 ?_;by_cases hle:k<=j
  ·have c0:(k:Int)<=j:=aa;obtain⟨L,x,y,fa,cx,ca,gx,ga⟩:=M.rd.two (i:=a) (j:=k) aa aa;have wk:=fQ k;simp only[go_sem,seval,g0,g1,gj,gk,c0,cx,ca,fa,gx,ga];refine aT py ?_;refine⟨dF fa gx ga,?_⟩
   cases decide (x<y)with
   |false=>
    refine bu gk wk ?_;refine hX _ _ _ _ _ aa ⟨rfl,⟨?_,?_,?_⟩,rfl,k+1,?_,rfl,aa,aa⟩ ao<;>exact nW g0 g1 gj
   |true=>
    refine ag ?_;refine hQ _ _ ⟨⟨?_,?_,?_⟩,rfl,k,?_,jf,ic⟩<;>exact iP g0 g1 gj gk
  ·have c0:¬(k:Int)<=j:=aa;refine bR gj gk c0 ?_;refine hQ _ _ ⟨⟨?_,?_,?_⟩,rfl,k,?_,jf,ic⟩<;>exact iP g0 g1 gj gk
 rintro I J ⟨⟨h0,h1,bC⟩,rfl,i2,h9,Ph,AP⟩;refine ag ?_;refine BH (.exit 4) (λI ae=>(I 0=dS blk d.length cap/\I 1=iV a/\I 9=iV i2)/\ae=J/\∃k:Nat,I 10=iV k/\k<=j/\(i2<=k+1\/k=j)) ?_ λQ hQ=>?_
 rotate_left
 ·refine di (λk I ds ae=>ds=[]/\(I 0=dS blk d.length cap/\I 1=iV a/\I 9=iV i2)/\ae=J/\I 10=iV k/\k<=j/\(i2<=k+1\/k=j)) (j) ?_ ?_
  ·refine⟨rfl,⟨?_,?_,?_⟩,rfl,?_,aa,aa⟩<;>exact iP h0 h1 h9 bC
  rintro k I ds _ X ⟨rfl,⟨g0,g1,gj⟩,rfl,gk,jf,ic⟩ hX;refine ag ?_;refine bG 14 ?_;by_cases hle:i2<=k
  ·have c0:(i2:Int)<=k:=aa;obtain⟨L,x,y,fa,cx,ca,gx,ga⟩:=M.rd.two (i:=a) (j:=k) aa aa;obtain⟨p,hp⟩:∃p,p=k-1:=⟨_,rfl⟩;have wk:IntKind.i64.wrap ((k:Int)-1)=(p:Int):=cH;simp only[go_sem,seval,g0,g1,gj,gk,c0,cx,ca,fa,gx,ga];refine aT py ?_;refine⟨dF fa gx ga,?_⟩
   cases decide (x<y)with
   |true=>
    refine bu gk wk ?_;refine hX p _ _ _ _ aa ⟨rfl,⟨?_,?_,?_⟩,rfl,?_,aa,aa⟩ ao<;>exact nW g0 g1 gj
   |false=>
    refine ag ?_;refine hQ _ _ ⟨⟨?_,?_,?_⟩,rfl,k,?_,jf,ic⟩<;>exact iP g0 g1 gj gk
  ·have c0:¬(i2:Int)<=k:=aa;refine bR gj gk c0 ?_;refine hQ _ _ ⟨⟨?_,?_,?_⟩,rfl,k,?_,jf,ic⟩<;>exact iP g0 g1 gj gk
 rintro I J ⟨⟨h0,h1,h9⟩,rfl,j2,bC,Pj,Pk⟩;by_cases qV:j2<i2
 ·have k0:(j2:Int)<i2:=aa;refine bR h9 bC k0 ?_;exact an aI ao ⟨⟨i2,aa,aa,by simp[up]⟩,M⟩
 have k0:¬(j2:Int)<i2:=aa;have wi:=fQ i2;have wj:IntKind.i64.wrap ((j2:Int)-1)=((j2-1:Nat):Int):=cH;refine bR h9 bC k0 ?_;obtain⟨L,x,y,fa,cx,cy,gx,gy,l1,l2,M2⟩:=M.two (i:=i2) (j:=j2) aa aa;refine bG 16 ?_;simp only[go_sem,seval,h0,h9,bC,cx,cy,fa,gx,gy,sk,l1];refine⟨dF fa gx gy,?_⟩;refine ag ?_;refine⟨l2,?_⟩;refine⟨dF fa gx gy,?_⟩;refine fV h9 bC wi wj ?_
 try rw[Hp.set_set]
 refine hY _ _ _ _ _ aa ⟨rfl,?_,?_,i2+1,j2-1,rfl,?_,?_,aa,aa,aa,aa,M2⟩ ao<;>exact xu h0 h1
section
open Go.Sort
def Fj:List UInt8:=(List.range 256).map λi=>(bitsLen i).toUInt8
def aqR:∀m<256,(pR Fj m).toNat<=8/\0<=pR Fj m/\(1<=m->2^(pR Fj m).toNat<=2*m):=jb
variable {k x:Int}
def VW{L:List UInt8}(hL:L=Fj)(hn:n<256)(hT:pR L n=x):∃k:Nat,x=(k:Int)/\k<=8/\(1<=n->2^k<=2*n):=by subst hL;subst hT;have:=aqR n hn;exact⟨(pR Fj n).toNat,aa,this.1,this.2.2⟩
def aj8(hn:n<=65535):ay E 172 #[.int .u64 n] U λe' ae=>(∃k:Nat,k<=300/\(1<=n->2^k<=2*n)/\e'=.returned (.int .i64 k))/\ae=U:=by
 refine aX func172 ntmps172 results172 λQ aD an aA=>?_;have k1:¬(4294967296:Int)<=n:=aa;have k2:¬(65536:Int)<=n:=aa;by_cases h:n<256
 ·have k3:¬(256:Int)<=n:=aa;have w8:IntKind.wrap .u8 (n:Int)=n:=by rw[IntKind.wrap_u8];omega
  refine fV k1 k2 k3 w8 ?_;refine⟨⟨aa,?_⟩,?_⟩
  ·show(n:Int)<256;omega
  refine ag ?_;generalize hT:pR _ n=x;obtain⟨k,rfl,hk,hp⟩:=VW jb h hT;clear hT;have w9:IntKind.i64.wrap (k:Int)=k:=wrap64 aa aa;have Fs:IntKind.i64.wrap (0+(k:Int))=(k:Int):=cH;refine bu w9 Fs ?_;exact an aI ao ⟨⟨k,aa,hp,by simp[up]⟩,rfl⟩
 ·have k3:(256:Int)<=n:=aa;obtain⟨q,hq⟩:∃q,q=n/256:=⟨_,rfl⟩
  have hs:yB .u64 (n:Int) 8=(q:Int):=by show Int.fdiv (n:Int) (2^8)=_;rw[Int.fdiv_eq_ediv_of_nonneg _ ai];omega
  have w8:IntKind.wrap .u8 (q:Int)=q:=by rw[IntKind.wrap_u8];omega
  refine lI k1 k2 k3 hs w8 ?_;refine⟨⟨aa,?_⟩,?_⟩
  ·show(q:Int)<256;omega
  refine ag ?_;generalize hT:pR _ q=x;obtain⟨k,rfl,hk,hp⟩:=VW jb aa hT;clear hT;have w9:IntKind.i64.wrap (k:Int)=k:=wrap64 aa aa;have w11:IntKind.i64.wrap 8=8:=wrap64 ai ai;have Fs:IntKind.i64.wrap (8+(k:Int))=((k+8:Nat):Int):=cH;refine bR w9 w11 Fs ?_;refine an aI ao ⟨⟨k+8,aa,λ_=>?_,by simp[up]⟩,rfl⟩;have:=hp aa;rw[Nat.pow_add];omega
def TI(hn:n<=65535):ay E 135 #[.int .u64 n] U λe' ae=>(∃k:Nat,k<=300/\(1<=n->2^k<=2*n)/\e'=.returned (.int .i64 k))/\ae=U:=by
 refine aX func135 ntmps135 results135 λQ aD an aA=>?_;refine ag ?_;refine dH ad1 (aj8 hn) ?_ (λch ae ⟨⟨_,_,_,h⟩,_⟩=>by cases h);rintro v J ⟨⟨k,h1,h2,hv⟩,rfl⟩
 cases hv
 refine ag ?_;exact an aI ao ⟨⟨k,h1,h2,by simp[up]⟩,rfl⟩
def ar2(z:Int):0<=IntKind.wrap .u64 z/\IntKind.wrap .u64 z<18446744073709551616:=by rw[IntKind.wrap_u64];omega
def asb(x y:Int):0<=IM .u64 x y/\IM .u64 x y<18446744073709551616:=ar2 _
def XT{m:Nat}(hm:m<18446744073709551616):∃k:Nat,CG .u64 x (m:Int)=k/\k<=m:=by
 refine⟨(BitVec.ofInt 64 x&&&BitVec.ofInt 64 (m:Int)).toNat,?_,?_⟩
 ·unfold CG;have h:=(BitVec.ofInt 64 x&&&BitVec.ofInt 64 (m:Int)).isLt;show IntKind.wrap .u64 (((BitVec.ofInt 64 x&&&BitVec.ofInt 64 (m:Int)).toNat:Nat):Int)=_;rw[IntKind.wrap_u64];omega
 ·rw[BitVec.toNat_and]
  have e:(BitVec.ofInt 64 (m:Int)).toNat=m:=by rw[BitVec.ofInt_natCast,BitVec.toNat_ofNat];omega
  rw[e];exact Nat.and_le_right
def anj(h1:1<=n)(hn:n<=65535):ay E 210 #[iV n] U λe' ae=>(∃m:Nat,1<=m/\m<=2*n/\e'=.returned (.int .u64 m))/\ae=U:=by
 refine aX func210 ntmps210 results210 λQ aD an aA=>?_;have w1:IntKind.wrap .u64 (n:Int)=n:=by rw[IntKind.wrap_u64];omega
 refine aJ w1 ?_;refine dH Q9 (TI hn) ?_ (λch ae ⟨⟨_,_,_,h⟩,_⟩=>by cases h);rintro v J ⟨⟨k,hk,hp,hv⟩,rfl⟩
 cases hv
 have hp:=hp h1;have k0:(0:Int)<=k:=aa
 have agz:k<=17:=by
  by_cases h:k<=17
  ·exact h
  ·have:2^18<=2^k:=Nat.pow_le_pow_right ai aa;omega
 have hs:Ce .u64 1 (k:Int)=((2^k:Nat):Int):=by
  unfold Ce;have e1:min (k:Int).toNat (IntKind.bits .u64)=k:=by show min k 64=k;omega
  rw[e1,Int.one_mul,IntKind.wrap_u64];have:((2:Int)^k)=((2^k:Nat):Int):=al;rw[this];clear this agz;generalize 2^k=m at*;omega
 refine bu k0 hs ?_;exact an aI ao ⟨⟨2^k,Nat.one_le_two_pow,hp,by simp[up]⟩,rfl⟩
def asa{rb:Nat}(hr:U.f rb=some (.cells #[.int .u64 x] et (0,0))):ay E 211 #[pV rb] U λe' ae=>∃y:Int,(0<=y/\y<18446744073709551616)/\e'=.returned (.int .u64 y)/\ae=U.set rb (.cells #[.int .u64 y] et (0,0)):=by
 refine aX func211 ntmps211 results211 λQ aD an aA=>?_;have f1:∀(H:Hp) o,(H.set rb o).f rb=some o:=λ_ o=>Hp.bD _ _;refine ag ?_;refine bG 10 ?_;refine aJ hr ?_;refine⟨dL hr,?_⟩
 try simp only[go_sem,seval]
 refine bG 10 ?_
 try simp only[go_sem,seval,f1]
 refine⟨dL f1,?_⟩
 try simp only[go_sem,seval]
 refine bG 10 ?_
 try simp only[go_sem,seval,f1]
 refine⟨dL f1,?_⟩
 try simp only[go_sem,seval,f1]
 refine an aI ao ⟨_,asb _ _,by simp[up];rfl,?_⟩
 first|rfl|(rw[Hp.set_set];rfl)|(rw[Hp.set_set,Hp.set_set];rfl)
end
def ZN(M:Mx U blk d pad J)(dr:a+12<b)(hb:b<=d.length)(hn:d.length<=65535):
 ay E 164 #[dS blk d.length cap,iV a,iV b] J λe J=>e=.returned (.tuple #[])/\Mx U blk d pad J:=by
 refine aX func164 ntmps164 results164 λQ aD an aA=>?_;have sk:∀x,dp (iV x)=true:=λ_=>rfl;obtain⟨l,hl⟩:∃l,l=b-a:=⟨_,rfl⟩;obtain⟨q,hq⟩:∃q,q=l/4:=⟨_,rfl⟩;have w1:IntKind.i64.wrap ((b:Int)-(a:Int))=(l:Int):=cH;have k8:(8:Int)<=l:=aa;have wu:IntKind.wrap .u64 (l:Int)=l:=by rw[IntKind.wrap_u64];omega
 have w4:IntKind.i64.wrap ((l:Int).tdiv 4)=(q:Int):=by
  have:(l:Int).tdiv 4=(q:Int):=by rw[hq];rfl
  rw[this,wrap64 aa aa]
 obtain⟨q2,gP⟩:∃q2,q2=q*2:=⟨_,rfl⟩;have m2:IntKind.i64.wrap ((q:Int)*2)=(q2:Int):=cH;obtain⟨j,hj⟩:∃j,j=a+q2:=⟨_,rfl⟩;have s2:IntKind.i64.wrap ((a:Int)+(q2:Int))=(j:Int):=cH;have s3:IntKind.i64.wrap ((j:Int)-1)=((j-1:Nat):Int):=cH;have s4:=fQ j;obtain⟨IU,ahW⟩:∃IU,IU=J:=⟨_,rfl⟩;refine bR w1 k8 wu ?_;refineλrb wG=>?_;have MM:blk≠rb:=λe=>by obtain⟨L,_,_,h,_⟩:=M.two (i:=0) (j:=0) aa aa;rw[e,wG]at h;cases h
 have f1:∀(H:Hp) o,(H.set rb o).f rb=some o:=λ_ o=>Hp.bD _ _;refine aJ f1 ?_;rw[Hp.set_set];refine dH ad7 (anj aa aa) ?_ (λch ae ⟨⟨_,_,_,h⟩,_⟩=>by cases h);rintro v _ ⟨⟨m,pg,uF,hv⟩,rfl⟩
 cases hv
 obtain⟨mm,rZ⟩:∃mm,mm=m-1:=⟨_,rfl⟩;have wm:IntKind.wrap .u64 ((m:Int)-1)=(mm:Int):=by rw[IntKind.wrap_u64];omega
 refine fV w4 m2 s2 s3 ?_;refine di (λk I ds ae=>ds=[]/\(I 0=dS blk d.length cap/\I 1=iV a/\I 6=iV l/\I 7=pV rb/\I 8=.int .u64 m)/\∃(i:Nat) (x:Int) (J:Hp),k=j+2-i/\I 9=iV i/\j-1<=i/\i<=j+2/\Mx U blk d pad J/\J.f rb=none/\ae=J.set rb (.cells #[.int .u64 x] 342 (0,0))) (j+2-(j-1)) ?_ ?_
 ·refine⟨rfl,⟨?_,?_,?_,?_,?_⟩,j-1,l,J,rfl,?_,aa,aa,M,wG,rfl⟩<;>exact au
 clear M wG ahW IU;rintro k I ds _ Y ⟨rfl,⟨h0,h1,h6,h7,h8⟩,i,x,J,rfl,h9,mH,DR,M,wG,rfl⟩ hY;refine dU λK1 mB=>?_;by_cases hle:i<=j+1
 ·have c0:(i:Int)<=((j+1:Nat):Int):=aa;refine jE h1 h6 h9 w4 m2 s2 s4 c0 ?_;refine mB _ _ _ (dU λK2 nB=>Ck (dU λK3 pb=>?_));refine aJ h7 ?_;refine aK (asa (f1 _ _)) ?_;rintro v _ ⟨y,hy,hv,rfl⟩
  cases hv
  obtain⟨o,ho,SI⟩:=XT (x:=y) (m:=mm) aa;have wo:IntKind.i64.wrap (o:Int)=o:=wrap64 aa aa;refine fV h8 wm ho wo ?_;refine pb _ _ _ (dU λK4 qO=>?_)
  have tail:∀(I:av) (z:Nat),I 0=dS blk d.length cap->I 1=iV a->I 6=iV l->I 7=pV rb->I 8=.int .u64 m->I 9=iV i->I 10=iV z->z<l->K4 I [] (J.set rb (.cells #[.int .u64 y] 342 (0,0))):=by
   clear h0 h1 h6 h7 h8 h9 I;intro I z h0 h1 h6 h7 h8 h9 bC hz;refine qO _ _ _ ?_;obtain⟨p,hp⟩:∃p,p=a+z:=⟨_,rfl⟩;have wz:IntKind.i64.wrap ((a:Int)+(z:Int))=(p:Int):=cH;have w5:=fQ i;obtain⟨L,x,y',fb,cx,cy,gx,gy,l1,l2,M2⟩:=M.two (i:=i) (j:=p) aa aa;have fa:(J.set rb (.cells #[.int .u64 y] 342 (0,0))).f blk=some (.cells L.toArray 3 (0,0)):=(Hp.az MM).trans fb;refine ag ?_;refine bG 20 ?_;simp only[go_sem,seval,h0,h1,h9,bC,wz,cx,cy,fa,gx,gy,sk,l1];refine⟨dF fa gx gy,?_⟩;refine ag ?_;refine⟨l2,?_⟩;refine⟨dF fa gx gy,?_⟩;refine ag ?_;refine nB _ _ _ ?_;refine bu h9 w5 ?_
   try rw[Hp.set_set]
   rw[Hp.set_comm MM.symm];refine hY (j+2-(i+1)) _ _ _ _ aa ⟨rfl,⟨?_,?_,?_,?_,?_⟩,i+1,y,_,rfl,?_,aa,aa,M2,by rw[Hp.az MM.symm];exact wG,rfl⟩ ao<;>exact pI h0 h1 h6 h7 h8
  by_cases xP:l<=o
  ·have c1:(l:Int)<=o:=aa;obtain⟨t,ht⟩:∃t,t=o-l:=⟨_,rfl⟩;have wt:IntKind.i64.wrap ((o:Int)-(l:Int))=(t:Int):=cH;refine bR h6 c1 wt ?_;refine tail _ t ?_ ?_ ?_ ?_ ?_ ?_ ?_ aa<;>exact Iu h0 h1 h6 h7 h8 h9
  ·have c1:¬(l:Int)<=o:=aa;refine bu h6 c1 ?_;refine tail _ o ?_ ?_ ?_ ?_ ?_ ?_ ?_ aa<;>exact Iu h0 h1 h6 h7 h8 h9
 ·have c0:¬(i:Int)<=((j+1:Nat):Int):=aa;refine jE h1 h6 h9 w4 m2 s2 s4 c0 ?_;exact aD dA (λb o h=>(Hp.az λe=>by rw[e,wG]at h;cases h).trans h) ⟨rfl,M⟩
def PS(blk n cap a b i k:Nat)(I:av):Prop:=I 0=dS blk n cap/\I 1=iV a/\I 2=iV b/\I 7=iV i/\I 8=iV k
variable {E:Env prog}{U J:Hp}{d:List Int}{pad:List Value}{blk cap a b:Nat}
theorem amX (M:Mx U blk d pad J)(dr:a+12<b)(hb:b<=d.length)(hn:d.length<=1000000):
 ay E 167 #[dS blk d.length cap,iV a,iV b] J λe J=>(∃r:Bool,e=.returned (.bool r))/\Mx U blk d pad J:=by
 refine aX func167 ntmps167 results167 λQ aD an aA=>?_;have sk:∀x,dp (iV x)=true:=λ_=>rfl;have wa:=fQ a;have Wh:IntKind.i64.wrap ((b:Int)-(a:Int))=((b-a:Nat):Int):=cH;refine aJ wa ?_;refine di (λs I ds ae=>ds=[]/\∃(i n8:Nat),PS blk d.length cap a b i n8 I/\n8+s=5/\a<i/\i<=b/\Mx U blk d pad ae) 5 ⟨rfl,a+1,0,⟨?_,?_,?_,?_,?_⟩,rfl,aa,aa,M⟩ ?_
 iterate 4 simp only[go_sem,seval]
 ·exact au
 clear M;rintro s I ds J Y ⟨rfl,i,n8,⟨h0,h1,h2,h7,h8⟩,h5,Dr,DT,M⟩ hY;refine dU λK0 Bb=>?_
 cases s with
 |zero=>
  have c0:¬(n8:Int)<5:=aa;refine bu h8 c0 ?_;exact an aI ao ⟨⟨_,by simp[up];rfl⟩,M⟩
 |succ s=>
  have c0:(n8:Int)<5:=aa;have wn:=fQ n8;refine bu h8 c0 ?_;refine Bb _ _ _ (dU λK1 mB=>Ck (dU λK2 nB=>?_))
  have Fl:∀(I:av) (i2:Nat),PS blk d.length cap a b i2 n8 I->a<i2->i2<=b->K2 I [] J:=by
   clear h0 h1 h2 h7 h8 I;rintro I i2 ⟨h0,h1,h2,h7,h8⟩ Dr DT
   have next:∀(I:av) (J:Hp),PS blk d.length cap a b i2 n8 I->Mx U blk d pad J->K1 I [] J:=by rintro I J ⟨h0,h1,h2,h7,h8⟩ M;refine mB _ _ _ ?_;refine bu h8 wn ?_;refine hY s _ _ _ _ aa ⟨rfl,i2,n8+1,⟨?_,?_,?_,?_,?_⟩,aa,aa,aa,M⟩ ao<;>exact iP h0 h1 h2 h7
   refine nB _ _ _ (dU λK3 pb=>?_);by_cases att:i2=b
   ·have c1:(i2:Int)=b:=aa;refine bR h2 h7 c1 ?_;exact an aI ao ⟨⟨_,by simp[up];rfl⟩,M⟩
   have c1:¬(i2:Int)=b:=aa;refine bR h2 h7 c1 ?_;refine pb _ _ _ (dU λK4 qO=>?_);by_cases rQ:b-a<50
   ·have c2:((b-a:Nat):Int)<50:=aa;refine fV h1 h2 Wh c2 ?_;exact an aI ao ⟨⟨_,by simp[up];rfl⟩,M⟩
   have c2:¬((b-a:Nat):Int)<50:=aa;refine fV h1 h2 Wh c2 ?_;refine qO _ _ _ (dU λK5 vZ=>?_);obtain⟨i1,mH⟩:∃i1,i1=i2-1:=⟨_,rfl⟩;have wi:IntKind.i64.wrap ((i2:Int)-1)=(i1:Int):=cH;have Fs:=fQ i2;obtain⟨ia,hia⟩:∃ia,ia=i2-a:=⟨_,rfl⟩;have Wk:IntKind.i64.wrap ((i2:Int)-(a:Int))=(ia:Int):=cH;obtain⟨bi,atl⟩:∃bi,bi=b-i2:=⟨_,rfl⟩;have Wi:IntKind.i64.wrap ((b:Int)-(i2:Int))=(bi:Int):=cH;refine ag ?_;obtain⟨L,x,y,fa,cx,cy,gx,gy,l1,l2,M2⟩:=M.two (i:=i2) (j:=i1) aa aa;refine bG 18 ?_;simp only[go_sem,seval,h0,h7,wi,cx,cy,fa,gx,gy,sk,l1];refine⟨dF fa gx gy,?_⟩;refine ag ?_;refine⟨l2,?_⟩;refine⟨dF fa gx gy,?_⟩;refine ag ?_
   try rw[Hp.set_set]
   refine vZ _ _ _ (dU λK6 zh=>?_);clear M;generalize J.set blk _=J at*
   have Nz:∀(I:av) (J:Hp),PS blk d.length cap a b i2 n8 I->Mx U blk d pad J->K6 I [] J:=by
    clear h0 h1 h2 h7 h8 M2 I J;rintro I J ⟨h0,h1,h2,h7,h8⟩ M;refine zh _ _ _ ?_;by_cases rU:2<=bi
    ·have c3:(2:Int)<=bi:=aa;refine fV h2 h7 Wi c3 ?_;refine di (λm I ds ae=>ds=[]/\PS blk d.length cap a b i2 n8 I/\∃k:Nat,m=b-k/\I 10=iV k/\1<=k/\k<=b/\Mx U blk d pad ae) (b-(i2+1)) ⟨rfl,⟨?_,?_,?_,?_,?_⟩,i2+1,rfl,?_,aa,aa,M⟩ ?_
     iterate 6 simp only[go_sem,seval,h0,h1,h2,h7,h8,Fs]
     clear M h0 h1 h2 h7 h8 I J;rintro m I ds J X ⟨rfl,⟨h0,h1,h2,h7,h8⟩,k,rfl,gk,jf,tu,M⟩ hX;by_cases tr:k<b
     ·have c0:(k:Int)<b:=aa;obtain⟨p,hp⟩:∃p,p=k-1:=⟨_,rfl⟩;have wk:IntKind.i64.wrap ((k:Int)-1)=(p:Int):=cH;have NR:=fQ k;refine bR h2 gk c0 ?_;obtain⟨L,x,y,fa,cx,cy,gx,gy⟩:=M.rd.two (i:=k) (j:=p) aa aa;refine bG 11 ?_;refine jE h0 gk wk cx cy fa gx gy ?_;refine aT py ?_;refine⟨dF fa gx gy,?_⟩
      cases decide (x<y)with
      |false=>
       refine ag ?_;refine next _ _ ⟨?_,?_,?_,?_,?_⟩ M<;>exact pI h0 h1 h2 h7 h8
      |true=>
       refine ag ?_;clear fa cx cy gx gy;obtain⟨L,x,y,fa,cx,cy,gx,gy,l1,l2,M2⟩:=M.two (i:=k) (j:=p) aa aa;refine bG 18 ?_;simp only[go_sem,seval,h0,gk,wk,cx,cy,fa,gx,gy,sk,l1];refine⟨dF fa gx gy,?_⟩;refine ag ?_;refine⟨l2,?_⟩;refine⟨dF fa gx gy,?_⟩;refine bu gk NR ?_
       try rw[Hp.set_set]
       refine hX _ _ _ _ _ aa ⟨rfl,⟨?_,?_,?_,?_,?_⟩,k+1,rfl,?_,aa,aa,M2⟩ ao<;>exact pI h0 h1 h2 h7 h8
     ·have c0:¬(k:Int)<b:=aa;refine bR h2 gk c0 ?_;refine next _ _ ⟨?_,?_,?_,?_,?_⟩ M<;>exact pI h0 h1 h2 h7 h8
    ·have c3:¬(2:Int)<=bi:=aa;refine fV h2 h7 Wi c3 ?_;refine next _ _ ⟨?_,?_,?_,?_,?_⟩ M<;>exact pI h0 h1 h2 h7 h8
   have M:=M2;by_cases hi3:2<=ia
   ·have c4:(2:Int)<=ia:=aa;refine fV h1 h7 Wk c4 ?_;refine di (λk I ds ae=>ds=[]/\PS blk d.length cap a b i2 n8 I/\I 9=iV k/\k<b/\Mx U blk d pad ae) i1 ⟨rfl,⟨?_,?_,?_,?_,?_⟩,?_,aa,M⟩ ?_
    iterate 6 simp only[go_sem,seval,h0,h1,h2,h7,h8,wi]
    clear M M2 h0 h1 h2 h7 h8 I J;rintro k I ds J X ⟨rfl,⟨h0,h1,h2,h7,h8⟩,gk,tu,M⟩ hX;by_cases tr:1<=k
    ·have c0:(1:Int)<=k:=aa;obtain⟨p,hp⟩:∃p,p=k-1:=⟨_,rfl⟩;have wk:IntKind.i64.wrap ((k:Int)-1)=(p:Int):=cH;refine bu gk c0 ?_;obtain⟨L,x,y,fa,cx,cy,gx,gy⟩:=M.rd.two (i:=k) (j:=p) aa aa;refine bG 11 ?_;refine jE h0 gk wk cx cy fa gx gy ?_;refine aT py ?_;refine⟨dF fa gx gy,?_⟩
     cases decide (x<y)with
     |false=>
      refine ag ?_;refine Nz _ _ ⟨?_,?_,?_,?_,?_⟩ M<;>exact pI h0 h1 h2 h7 h8
     |true=>
      refine ag ?_;clear fa cx cy gx gy;obtain⟨L,x,y,fa,cx,cy,gx,gy,l1,l2,M2⟩:=M.two (i:=k) (j:=p) aa aa;refine bG 18 ?_;simp only[go_sem,seval,h0,gk,wk,cx,cy,fa,gx,gy,sk,l1];refine⟨dF fa gx gy,?_⟩;refine ag ?_;refine⟨l2,?_⟩;refine⟨dF fa gx gy,?_⟩;refine bu gk wk ?_
      try rw[Hp.set_set]
      refine hX p _ _ _ _ aa ⟨rfl,⟨?_,?_,?_,?_,?_⟩,?_,aa,M2⟩ ao<;>exact pI h0 h1 h2 h7 h8
    ·have c0:¬(1:Int)<=k:=aa;refine bu gk c0 ?_;refine Nz _ _ ⟨?_,?_,?_,?_,?_⟩ M<;>exact pI h0 h1 h2 h7 h8
   ·have c4:¬(2:Int)<=ia:=aa;refine fV h1 h7 Wk c4 ?_;refine Nz _ _ ⟨?_,?_,?_,?_,?_⟩ M<;>exact pI h0 h1 h2 h7 h8
  refine Ck (di (λm I ds ae=>ds=[]/\ae=J/\∃k:Nat,PS blk d.length cap a b k n8 I/\m=b-k/\a<k/\k<=b) (b-i) ⟨rfl,rfl,i,⟨?_,?_,?_,?_,?_⟩,rfl,Dr,DT⟩ ?_)
  iterate 5 simp only[go_sem,seval,h0,h1,h2,h7,h8]
  clear h0 h1 h2 h7 h8 I;rintro m I ds _ X ⟨rfl,rfl,k,⟨h0,h1,h2,h7,h8⟩,rfl,RR,tu⟩ hX;refine ag ?_;refine bG 16 ?_;by_cases hle:k<b
  ·have c1:(k:Int)<b:=aa;obtain⟨k1,jf⟩:∃k1,k1=k-1:=⟨_,rfl⟩;have wk:IntKind.i64.wrap ((k:Int)-1)=(k1:Int):=cH;have NR:=fQ k;obtain⟨L,x,y,fa,cx,cy,gx,gy⟩:=M.rd.two (i:=k) (j:=k1) aa aa;simp only[go_sem,seval,h0,h2,h7,c1,wk,cx,cy,fa,gx,gy];refine aT py ?_;refine⟨dF fa gx gy,?_⟩
   cases decide (x<y)with
   |false=>
    refine bu h7 NR ?_;refine hX (b-(k+1)) _ _ _ _ aa ⟨rfl,rfl,k+1,⟨?_,?_,?_,?_,?_⟩,rfl,aa,aa⟩ ao<;>exact iP h0 h1 h2 h8
   |true=>
    refine ag ?_;refine Fl _ k ⟨?_,?_,?_,?_,?_⟩ RR tu<;>exact pI h0 h1 h2 h7 h8
  ·have c1:¬(k:Int)<b:=aa;refine bR h2 h7 c1 ?_;refine Fl _ k ⟨?_,?_,?_,?_,?_⟩ RR tu<;>exact pI h0 h1 h2 h7 h8
def PR(blk n cap a b l:Nat)(wb wp:Bool)(k:Nat)(I:av):Prop:=I 0=dS blk n cap/\I 1=iV a/\I 2=iV b/\I 3=iV l/\I 8=.bool wb/\I 9=.bool wp/\I 10=iV k
variable {E:Env prog}{U:Hp}{m:aM}{J:Hp}{d:List Int}{pad:List Value}{blk cap a b:Nat}
theorem am6:∀(m:Nat) {J:Hp} {a b lim:Nat},b-a<=m->a<=b->b<=d.length->d.length<=65535->lim<=1000000->Mx U blk d pad J->
 ay E 134 #[dS blk d.length cap,iV a,iV b,iV lim] J λe J=>e=.returned (.tuple #[])/\Mx U blk d pad J:=by
 intro m
 induction m using Nat.strongRecOn with
 |_ m ih=>
 intro J a b lim hm dr hb hn fZ M;refine aX func134 ntmps134 results134 λQ aD an aA=>?_;refine ag ?_;refine di (λk I ds ae=>ds=[]/\∃(a' b' ve:Nat) (wb wp:Bool),k=b'-a'/\(I 0=dS blk d.length cap/\I 1=iV a'/\I 2=iV b'/\I 3=iV ve/\I 8=.bool wb/\I 9=.bool wp)/\a<=a'/\a'<=b'/\b'<=b/\ve<=1000000/\Mx U blk d pad ae) (b-a) ?_ ?_
 ·refine⟨rfl,a,b,lim,true,true,rfl,⟨?_,?_,?_,?_,?_,?_⟩,Nat.le_refl _,dr,Nat.le_refl _,fZ,M⟩<;>exact au
 clear M;rintro k I ds J Y ⟨rfl,a',b',ve,wb,wp,rfl,⟨h0,h1,h2,h3,h8,h9⟩,haa,GB,eQ,G0,M⟩ hY;obtain⟨n,Lr⟩:∃n,n=b'-a':=⟨_,rfl⟩;have w1:IntKind.i64.wrap ((b':Int)-(a':Int))=(n:Int):=cH;refine Ck (dU λK1 mB=>?_);refine bR h1 h2 w1 ?_;refine mB _ _ _ (dU λK2 nB=>?_);clear mB;by_cases o0:n<=12
 ·have c1:(n:Int)<=12:=aa;refine fV h0 h1 h2 c1 ?_;refine aK (aih M GB aa aa) ?_;rintro v J ⟨hv,M⟩
  cases hv
  refine ag ?_;exact an dA ao ⟨rfl,M⟩
 have c1:¬(n:Int)<=12:=aa;refine aJ c1 ?_;refine nB _ _ _ (dU λK3 pb=>?_);clear nB;by_cases lW:ve=0
 ·have c2:(ve:Int)=0:=aa;refine lI h0 h1 h2 h3 c2 ?_;refine aK (afZ M aa aa aa) ?_;rintro v J ⟨hv,M⟩
  cases hv
  refine ag ?_;exact an dA ao ⟨rfl,M⟩
 have c2:¬(ve:Int)=0:=aa;refine bu h3 c2 ?_;refine pb _ _ _ (dU λK4 qO=>?_);clear pb
 have tail:∀(I:av) (l1:Nat) (J:Hp),PR blk d.length cap a' b' l1 wb wp n I->l1<=1000000->Mx U blk d pad J->K4 I [] J:=by
  clear h0 h1 h2 h3 h8 h9 M I J;rintro I l1 J ⟨h0,h1,h2,h3,h8,h9,bC⟩ fY M;refine qO _ _ _ (dU λK5 vZ=>?_);clear qO;refine bR h0 h1 h2 ?_;refine dH adX (abi (cap:=cap) M.rd aa aa aa) ?_ (λch ae ⟨⟨_,_,_,h⟩,_⟩=>by cases h);rintro v _ ⟨⟨pv,hv,⟨p1,p2⟩,hr⟩,rfl⟩;obtain rfl:v=.tuple #[iV pv,iV hv]:=by injection hr
  simp only[go_sem,seval];refine vZ _ _ _ (dU λK6 zh=>?_);clear vZ
  have Fl:∀(I:av) (pv:Nat) (hv:Int) (J:Hp),PR blk d.length cap a' b' l1 wb wp n I->I 11=iV pv->I 12=iV hv->a'<=pv->pv<b'->Mx U blk d pad J->K6 I [] J:=by
   clear h0 h1 h2 h3 h8 h9 bC M p1 p2 hr I J pv hv;rintro I pv hv J ⟨h0,h1,h2,h3,h8,h9,bC⟩ bT Kf p1 p2 M;refine zh _ _ _ (dU λK7 Df=>?_);clear zh
   have Is:∀(I:av) (J:Hp),PR blk d.length cap a' b' l1 wb wp n I->I 11=iV pv->Mx U blk d pad J->K7 I [] J:=by
    clear h0 h1 h2 h3 h8 h9 bC bT Kf M I J;rintro I J ⟨h0,h1,h2,h3,h8,h9,bC⟩ bT M;refine Df _ _ _ (dU λK8 Gu=>?_);clear Df
    have VY:∀I:av,PR blk d.length cap a' b' l1 wb wp n I->I 11=iV pv->K8 I [] J:=by
     clear h0 h1 h2 h3 h8 h9 bC bT I;rintro I ⟨h0,h1,h2,h3,h8,h9,bC⟩ bT;refine Gu _ _ _ ?_;refine fV h0 h1 h2 bT ?_;refine dH ad0 (amZ (cap:=cap) M aa aa aa p1 p2) ?_ (λch ae ⟨⟨_,_,_,_,h⟩,_⟩=>by cases h);rintro v J ⟨⟨sz,ap,m1,m2,hr⟩,M⟩
     cases hr
     obtain⟨ll,atC⟩:∃ll,ll=sz-a':=⟨_,rfl⟩;obtain⟨rl,By⟩:∃rl,rl=b'-sz:=⟨_,rfl⟩;obtain⟨q8,D8⟩:∃q8,q8=n/8:=⟨_,rfl⟩;have wl:IntKind.i64.wrap ((sz:Int)-(a':Int))=(ll:Int):=cH;have wr:IntKind.i64.wrap ((b':Int)-(sz:Int))=(rl:Int):=cH
     have w8:IntKind.i64.wrap ((n:Int).tdiv 8)=(q8:Int):=by
      have:(n:Int).tdiv 8=(q8:Int):=by rw[D8];rfl
      rw[this,wrap64 aa aa]
     have wm:=fQ sz;by_cases hlr:ll<rl
     ·have k1:(ll:Int)<rl:=aa;simp only[go_sem,seval,h0,h1,h2,h3,bC,wl,wr,w8,k1];refine aK (ih (m-1) aa aa aa aa aa fY M) ?_;rintro v J ⟨hv,M⟩
      cases hv
      refine aJ wm ?_;refine hY _ _ _ _ _ aa ⟨rfl,sz+1,b',l1,decide ((q8:Int)<=ll),ap,rfl,⟨?_,?_,?_,?_,?_,?_⟩,aa,aa,eQ,fY,M⟩ ao<;>exact nW h0 h2 h3
     ·have k1:¬(ll:Int)<rl:=aa;simp only[go_sem,seval,h0,h1,h2,h3,bC,wl,wr,w8,k1,wm];refine aK (ih (m-1) aa aa aa aa aa fY M) ?_;rintro v J ⟨hv,M⟩
      cases hv
      refine ag ?_;refine hY _ _ _ _ _ aa ⟨rfl,a',sz,l1,decide ((q8:Int)<=rl),ap,rfl,⟨?_,?_,?_,?_,?_,?_⟩,aa,aa,aa,fY,M⟩ ao<;>exact nW h0 h1 h3
    refine ag ?_;refine bG 15 ?_;by_cases uy:a'=0
    ·have k0':¬(0:Int)<a':=aa;refine bu h1 k0' ?_;refine VY _ ⟨?_,?_,?_,?_,?_,?_,?_⟩ ?_<;>exact sI h0 h1 h2 h3 h8 h9 bC bT
    ·have k0:(0:Int)<a':=aa;obtain⟨a1,dn⟩:∃a1,a1=a'-1:=⟨_,rfl⟩;have wa:IntKind.i64.wrap ((a':Int)-1)=(a1:Int):=cH;obtain⟨L,x,y,fa,cx,cy,gx,gy⟩:=M.rd.two (i:=a1) (j:=pv) aa aa;simp only[go_sem,seval,h0,h1,bT,k0,wa,cx,cy,fa,gx,gy];refine aT py ?_;refine⟨dF fa gx gy,?_⟩
     cases decide (x<y)with
     |true=>
      refine ag ?_;refine VY _ ⟨?_,?_,?_,?_,?_,?_,?_⟩ ?_<;>exact sI h0 h1 h2 h3 h8 h9 bC bT
     |false=>
      refine fV h0 h1 h2 bT ?_;refine dH adZ (amY (cap:=cap) M aa aa aa p1 p2) ?_ (λch ae ⟨⟨_,_,_,h⟩,_⟩=>by cases h);rintro v J ⟨⟨sz,m1,m2,hr⟩,M⟩
      cases hr
      refine ag ?_;refine hY _ _ _ _ _ aa ⟨rfl,sz,b',l1,wb,wp,rfl,⟨?_,?_,?_,?_,?_,?_⟩,aa,aa,eQ,fY,M⟩ ao<;>exact pI h0 h2 h3 h8 h9
   cases wb with
   |false=>
    refine aJ h8 ?_;refine Is _ _ ⟨?_,?_,?_,?_,?_,?_,?_⟩ ?_ M<;>exact sI h0 h1 h2 h3 h8 h9 bC bT
   |true=>
    cases wp with
    |false=>
     refine bu h8 h9 ?_;refine Is _ _ ⟨?_,?_,?_,?_,?_,?_,?_⟩ ?_ M<;>exact sI h0 h1 h2 h3 h8 h9 bC bT
    |true=>
     by_cases nH:hv=1
     ·refine jR h0 h1 h2 h8 h9 Kf nH ?_;refine dH adY (amX (cap:=cap) M aa aa aa) ?_ (λch ae ⟨⟨_,h⟩,_⟩=>by cases h);rintro v J ⟨⟨r,hr⟩,M⟩
      cases hr
      cases r with
      |true=>
       refine ag ?_;exact an dA ao ⟨rfl,M⟩
      |false=>
       refine ag ?_;refine Is _ _ ⟨?_,?_,?_,?_,?_,?_,?_⟩ ?_ M<;>exact sI h0 h1 h2 h3 h8 h9 bC bT
     ·refine fV h8 h9 Kf nH ?_;refine Is _ _ ⟨?_,?_,?_,?_,?_,?_,?_⟩ ?_ M<;>exact sI h0 h1 h2 h3 h8 h9 bC bT
  by_cases lr:hv=2
  ·obtain⟨x1,tz⟩:∃x1,x1=b'-1:=⟨_,rfl⟩;obtain⟨x2,rh⟩:∃x2,x2=pv-a':=⟨_,rfl⟩;have wx1:IntKind.i64.wrap ((b':Int)-1)=(x1:Int):=cH;have wx2:IntKind.i64.wrap ((pv:Int)-(a':Int))=(x2:Int):=cH;have wx3:IntKind.i64.wrap ((x1:Int)-(x2:Int))=((x1-x2:Nat):Int):=cH;refine fV h0 h1 h2 lr ?_;refine aK (aoT M aa aa aa GB) ?_;rintro v J ⟨hv,M⟩
   cases hv
   refine lI h1 h2 wx1 wx2 wx3 ?_;refine Fl _ (x1-x2) 1 _ ⟨?_,?_,?_,?_,?_,?_,?_⟩ ?_ ?_ aa aa M<;>exact Iv h0 h1 h2 h3 h8 h9 bC
  ·refine aJ lr ?_;refine Fl _ pv hv _ ⟨?_,?_,?_,?_,?_,?_,?_⟩ ?_ ?_ p1 p2 M<;>exact Iv h0 h1 h2 h3 h8 h9 bC
 cases wb with
 |true=>
  refine aJ h8 ?_;refine tail _ ve _ ⟨?_,?_,?_,?_,?_,?_,?_⟩ G0 M<;>exact Iu h0 h1 h2 h3 h8 h9
 |false=>
  have wl:IntKind.i64.wrap ((ve:Int)-1)=((ve-1:Nat):Int):=cH;refine fV h0 h1 h2 h8 ?_;refine aK (ZN M aa aa aa) ?_;rintro v J ⟨hv,M⟩
  cases hv
  refine bu h3 wl ?_;refine tail _ (ve-1) _ ⟨?_,?_,?_,?_,?_,?_,?_⟩ aa M<;>exact pI h0 h1 h2 h8 h9
def am5{xs:List Int}{k:Nat}(hk:k<=300)(h:Sl 3 U (xs.map aY) v)(hn:xs.length<=1000):
 ay E 134 #[v,.int .i64 0,.int .i64 xs.length,.int .i64 k] U λe J=>e=.returned (.tuple #[])/\∃ys,ys.Perm xs/\(xs.length<=12->dV kg ys)/\Sl 3 J (ys.map aY) v/\sO U J v:=by
 by_cases o0:xs.length<=12
 ·exact(am4 h o0).mono λe J ⟨h1,ys,h2,h3,h4⟩=>⟨h1,ys,h2,λ_=>h3,h4⟩
 rcases h.form with⟨h0,_⟩|⟨a,pad,h1,h2⟩
 ·exact absurd (by simp at h0;simp[h0]) o0
 ·have hp:=am6 (E:=E) (U:=U) (d:=xs) (pad:=pad) (blk:=a) (cap:=(xs.map aY).length+pad.length) xs.length (J:=U) (a:=0) (b:=xs.length) (lim:=k) aa aa aa aa aa ⟨xs,.refl _,(Hp.Ii h2).symm⟩;have ev:v=dS a xs.length ((xs.map aY).length+pad.length):=by rw[h1];simp only[List.length_map]
  rw[ev];refine ay.mono hp ?_;rintro e J ⟨rfl,ys,p,rfl⟩;have hl:=p.length_eq;refine⟨rfl,ys,p,λh=>absurd h o0,?_,λb hb=>Hp.az (hb _ _ _ rfl)⟩;have:=Sl.at (ety:=3) (U:=U.set a (.cells (ys.map aY++pad).toArray 3 (0,0))) (xs:=ys.map aY) a pad aZ;rw[List.length_map,hl]at this;rw[List.length_map];exact this
def apW{xs:List Int}(h:Sl 3 U (xs.map aY) v)(hn:xs.length<=1000):
 ay E 81 #[v] U λe J=>e=.returned (.tuple #[])/\∃ys,ys.Perm xs/\(xs.length<=12->dV kg ys)/\Sl 3 J (ys.map aY) v/\sO U J v:=by
 refine aX func81 ntmps81 results81 λQ aD an aA=>?_
 obtain⟨base,cap,rfl⟩:∃base cap,v=.slice base xs.length cap:=by
  generalize hk:xs.map aY=ks at h;have hl:ks.length=xs.length:=by rw[<-hk];simp
  cases h with
  |nil h0=>exact⟨none,0,by rw[<-hl,h0];rfl⟩
  |«at»a pad ha=>exact⟨_,_,by rw[hl]⟩
 have cu:IntKind.u64.wrap (xs.length:Int)=xs.length:=by have:((xs.length:Int) % 18446744073709551616)=xs.length:=aa;simpa[IntKind.wrap,IntKind.bits,IntKind.signed]using this
 refine aJ cu ?_;refine dH Q9 (TI aa) ?_ (λch ae ⟨⟨_,_,_,h⟩,_⟩=>by cases h);rintro w ae ⟨⟨k,hk,_,hw⟩,rfl⟩
 cases hw
 refine ag ?_;refine aK (am5 hk h hn) ?_;rintro w J ⟨hw,fp⟩
 cases hw
 refine ag ?_;exact aD dA ao ⟨rfl,fp⟩
variable {f:FuncId}{tc:TypeId}{bm m:Nat}{l:List (Int×Value×Nat)}
def ap1(hY:Yields f (λe:Int×Value×Nat=>aY e.1) aY tc)(hg:ck prog f=true)(dK:U.f bm=some (.cells #[.map (some m)] tc (0,0)))(hm:U.f m=some (aV aY l c))(hold:∀e∈l,e.2.2<c)(hn:(l.map (·.2.2)).Nodup)(gI:l.length<=1000):
 ay E 47 #[.func (.func f) #[] #[pV bm]] U λe J=>U.le J/\∃v ys,e=.returned v/\ys.Perm (l.map (·.1))/\(l.length<=12->dV kg ys)/\Sl 3 J (ys.map aY) v/\∀a n c,v=.slice (some a) n c->U.f a.block=none:=by
 refine aX func47 ntmps47 results47 λQ aD an aA=>?_;refine ag ?_;refine aK (abA hY hg dK hm hold hn aa (λ_ _=>rfl)) ?_;rintro v J ⟨hle,v',ks,hv,h1,h2,h3⟩
 cases hv
 obtain⟨xs,k1,rfl⟩:=Ab h1 (xs:=l.map (·.1)) (f:=aY) al;refine ag ?_;have hlen:xs.length<=1000:=by rw[k1.length_eq];simpa using gI
 refine aK (apW h2 hlen) ?_;rintro w cf ⟨hw,ys,p1,p2,p3,p4⟩
 cases hw
 refine ag ?_;refine an aI ao ⟨?_,v,ys,rfl,p1.trans k1,λh=>p2 (by rw[k1.length_eq];simpa using h),p3,h3⟩;intro b o hb;rw[p4 b (λa n c e e2=>by have:=h3 a n c e;rw[<-e2,hb]at this;cases this)];exact hle b o hb
def No(hY:Yields f (λe:Int×Value×Nat=>aY e.1) aY tc)(hg:ck prog f=true)(dK:U.f bm=none)(hm:U.f m=some (aV aY l c))(hold:∀e∈l,e.2.2<c)(hn:(l.map (·.2.2)).Nodup)(gI:l.length<=1000):
 ay E 47 #[.func (.func f) #[] #[pV bm]] (U.set bm (.cells #[.map (some m)] tc (0,0))) λe J=>U.le J/\∃v ys,e=.returned v/\ys.Perm (l.map (·.1))/\(l.length<=12->dV kg ys)/\Sl 3 J (ys.map aY) v/\∀a n c,v=.slice (some a) n c->U.f a.block=none:=by
 have aE:m≠bm:=bj hm dK;refine(ap1 hY hg aZ (by rw[Hp.aO _ aE];exact hm) hold hn gI).mono ?_;rintro e J ⟨hle,v,ys,hv,h1,h2,h3,h4⟩;refine⟨?_,v,ys,hv,h1,h2,h3,?_⟩
 ·intro b o hb;have:b≠bm:=bj hb dK;exact hle b o (by rw[Hp.aO _ this];exact hb)
 ·intro a n c e;have:=h4 a n c e;by_cases e2:a.block=bm
  ·rw[e2];exact dK
  ·rw[Hp.aO _ e2]at this;exact this
def ajz:ay E 48 #[.map (some m)] U λe J=>∃bm,e=.returned (.func (.func 82) #[] #[pV bm])/\U.f bm=none/\J=U.set bm (.cells #[.map (some m)] 72 (0,0)):=by refine aX func48 ntmps48 results48 λQ aD an aA=>?_;refine ag ?_;refineλbm dK=>?_;refine ag ?_;exact an aI ao ⟨bm,rfl,dK,rfl⟩
def Nn(hm:U.f m=some (aV aY l c))(hold:∀e∈l,e.2.2<c)(hn:(l.map (·.2.2)).Nodup)(gI:l.length<=1000):
 ay E 33 #[.map (some m)] U λe J=>U.le J/\∃v ys,e=.returned v/\ys.Perm (l.map (·.1))/\(l.length<=12->dV kg ys)/\Sl 3 J (ys.map aY) v/\∀a n c,v=.slice (some a) n c->U.f a.block=none:=by
 refine aX func33 ntmps33 results33 λQ aD an aA=>?_;refine ag ?_;refine aK ajz ?_;rintro w J ⟨bm,hw,dK,rfl⟩
 cases hw
 refine ag ?_;refine aK (No asi aew dK hm hold hn gI) ?_;rintro v J ⟨hle,v',ys,hv,hr⟩
 cases hv
 refine ag ?_;exact an aI ao ⟨hle,v,ys,rfl,hr⟩
def ajw:ay E 138 #[.map (some m)] U λe J=>∃bm,e=.returned (.func (.func 181) #[] #[pV bm])/\U.f bm=none/\J=U.set bm (.cells #[.map (some m)] 88 (0,0)):=by refine aX func138 ntmps138 results138 λQ aD an aA=>?_;refine ag ?_;refineλbm dK=>?_;refine ag ?_;exact an aI ao ⟨bm,rfl,dK,rfl⟩
def ap2(hm:U.f m=some (aV aY l c))(hold:∀e∈l,e.2.2<c)(hn:(l.map (·.2.2)).Nodup)(gI:l.length<=1000):
 ay E 87 #[.map (some m)] U λe J=>U.le J/\∃v ys,e=.returned v/\ys.Perm (l.map (·.1))/\(l.length<=12->dV kg ys)/\Sl 3 J (ys.map aY) v/\∀a n c,v=.slice (some a) n c->U.f a.block=none:=by
 refine aX func87 ntmps87 results87 λQ aD an aA=>?_;refine ag ?_;refine aK ajw ?_;rintro w J ⟨bm,hw,dK,rfl⟩
 cases hw
 refine ag ?_;refine aK (No asf ad2 dK hm hold hn gI) ?_;rintro v J ⟨hle,v',ys,hv,hr⟩
 cases hv
 refine ag ?_;exact an aI ao ⟨hle,v,ys,rfl,hr⟩
def ajy:ay E 186 #[.map (some m)] U λe J=>∃bm,e=.returned (.func (.func 222) #[] #[pV bm])/\U.f bm=none/\J=U.set bm (.cells #[.map (some m)] 273 (0,0)):=by refine aX func186 ntmps186 results186 λQ aD an aA=>?_;refine ag ?_;refineλbm dK=>?_;refine ag ?_;exact an aI ao ⟨bm,rfl,dK,rfl⟩
def VJ(hm:U.f m=some (aV aY l c))(hold:∀e∈l,e.2.2<c)(hn:(l.map (·.2.2)).Nodup)(gI:l.length<=1000):
 ay E 141 #[.map (some m)] U λe J=>U.le J/\∃v ys,e=.returned v/\ys.Perm (l.map (·.1))/\(l.length<=12->dV kg ys)/\Sl 3 J (ys.map aY) v/\∀a n c,v=.slice (some a) n c->U.f a.block=none:=by
 refine aX func141 ntmps141 results141 λQ aD an aA=>?_;refine ag ?_;refine aK ajy ?_;rintro w J ⟨bm,hw,dK,rfl⟩
 cases hw
 refine ag ?_;refine aK (No ash aea dK hm hold hn gI) ?_;rintro v J ⟨hle,v',ys,hv,hr⟩
 cases hv
 refine ag ?_;exact an aI ao ⟨hle,v,ys,rfl,hr⟩
variable {m:aM}
def Aq{lt:α->α->Bool}(L:yO lt)(XU:∀{a b},lt a b=false->lt b a=false->a=b):∀{l m:List α},l.Perm m->dV lt l->dV lt m->l=m:=by
 intro l
 induction l with
 |nil=>intro m p _ _;exact(List.nil_perm.1 p).symm
 |cons a l ih=>
  intro m p h1 h2
  cases m with
  |nil=>exact absurd p.symm al
  |cons b m=>
   have dr:a=b:=by
    by_cases e:a=b
    ·exact e
    ·have ha:a∈m:=by
      have:=p.mem_iff.1 (List.mem_cons_self (a:=a) (l:=l));rcases List.mem_cons.1 this with h|h
      ·exact absurd h e
      ·exact h
     have hb:b∈l:=by
      have:=p.mem_iff.2 (List.mem_cons_self (a:=b) (l:=m));rcases List.mem_cons.1 this with h|h
      ·exact absurd h.symm e
      ·exact h
     exact XU ((List.pairwise_cons.1 h2).1 a ha) ((List.pairwise_cons.1 h1).1 b hb)
   subst dr;rw[ih ((List.perm_cons a).1 p) (List.pairwise_cons.1 h1).2 (List.pairwise_cons.1 h2).2]
def FZ{a b:Int}(h:kg a b=false)(k:kg b a=false):a=b:=by simp[kg]at h k;omega
def Jq{a b:List UInt8}(h:cP a b=false)(k:cP b a=false):a=b:=by
 induction a generalizing b with
 |nil=>cases b with
  |nil=>rfl
  |cons y b=>simp[cP,Op.bytesLess]at h
 |cons x a ih=>cases b with
  |nil=>simp[cP,Op.bytesLess]at k
  |cons y b=>
   simp only[cP,Op.bytesLess,Bool.or_eq_false_iff,decide_eq_false_iff_not,Bool.and_eq_false_iff,beq_eq_false_iff_ne,ne_eq]at h k
   have hxy:x=y:=by have h1:=h.1;have k1:=k.1;exact UInt8.le_antisymm (UInt8.not_lt.1 k1) (UInt8.not_lt.1 h1)
   subst hxy;rw[ih (by rcases h.2 with h|h;exact absurd rfl h;exact h) (by rcases k.2 with h|h;exact absurd rfl h;exact h)]
section
variable {E:Env prog}{U:Hp}{c:Nat}{v:Value}{H:Hid}{X:Ext}{no:Nat}{h:HN}{nm:List UInt8}{q:QN}{m:aM}{back:Bool}{I:av}{ds:List Deferred}{k:Int}{x:XN}{J:Hp}{d:List Int}{pad:List Value}{cap:Nat}{a:Nat}{b:Nat}{n:Nat}
variable {A:Lay}{n:N}{id:Int}
def aq.OO (a:aq A H n X U)(l:U.le J){b:Nat}{o:Obj}(hb:U.f b=none)(ho:J.f b=some o):aq A H n ((b,o)::X) J:=
 (a.iR hb o).le (λx p hx=>by
  by_cases e:x=b
  ·subst e;rw[Hp.bD]at hx;cases hx;exact ho
  ·rw[Hp.az e]at hx;exact l _ _ hx)
def aq.AJ {ety:TypeId}{ys:List Value}{v:Value}(a:aq A H n X U)(l:U.le J)(hs:Sl ety J ys v)(hf:∀a n c,v=.slice (some a) n c->U.f a.block=none):
 ∃X',aq A H n X' J/\∀{A' H' n' ae},aq A' H' n' X' ae->aq A' H' n' X ae/\Sl ety ae ys v:=by
 rcases hs.form with⟨h1,h2⟩|⟨b,pad,h1,h2⟩
 ·exact⟨X,a.le l,λa'=>⟨a',by rw[h2];exact .nil h1⟩⟩
 ·refine⟨(b,.cells (ys++pad).toArray ety (0,0))::X,a.OO l (hf _ _ _ h1) h2,λa'=>⟨a'.oW,by rw[h1];exact .at b pad a'.eK⟩⟩
def N.jX (n:N)(l:List (List UInt8×Int)):N:=l.foldl (λn e=>n.cancel e.2) n
def N.kY (n:N)(id:Int)(no:Nat)(l:List (Nat×(List UInt8×aM))):N:=l.foldl (λn e=>n.settle id no e.1 true) n
def FE (n:N)(k:Int):Prop:=∃x q,n.x? k=some x/\n.q? x.q=some q/\q.cons.length<=1000000/\∀j∈q.cons,(n.x? j).isSome
def IV (n:N)(id:Int)(no:Nat)(e:Nat×(List UInt8×aM)):Prop:=∃h q,n.h? id no=some h/\bq h.un e.1=some e.2/\n.q? e.2.1=some q/\(1<=q.held/\q.held<=1000000)/\q.ready.length<=1000000/\q.ready.Pairwise λa b=>a.seq<b.seq
structure yL (n:N) (id:Int) (no:Nat) (h:HN):Prop where
 co:dV cP (h.co.map (·.1))
 un:(h.un.map (·.1)).Nodup
 sep:tZ h.un
 tG:h.co.length<=12
 EF:h.un.length<=1000
 cancel:∀j (hj:j<h.co.length),FE (n.jX (h.co.take j)) h.co[j].2
 back:∀l e,e∈h.un->(∀x∈l,¬x.1=e.1)->IV (((n.jX h.co).bB id no λh=>{h with co:=[]}).kY id no l) id no e
@[simp] def P3 {k:Int}:(n.cancel k).ar id=n.ar id:=by unfold N.cancel;split<;>rfl
@[simp] def RG {k:Int}:(n.cancel k).h? id no=n.h? id no:=by unfold N.cancel;split<;>rfl
@[simp] def GA {l:List (List UInt8×Int)}:(n.jX l).h? id no=n.h? id no:=by
 unfold N.jX
 induction l generalizing n with
 |nil=>rfl
 |cons e l ih=>rw[List.foldl_cons,ih,RG]
@[simp] def P4 {l:List (List UInt8×Int)}:(n.jX l).ar id=n.ar id:=by
 unfold N.jX
 induction l generalizing n with
 |nil=>rfl
 |cons e l ih=>rw[List.foldl_cons,ih,P3]
def aaP {l:List (List UInt8×Int)}{j:Nat}(hj:j<l.length):n.jX (l.take (j+1))=(n.jX (l.take j)).cancel l[j].2:=by unfold N.jX;rw[List.take_succ_eq_append_getElem hj,List.foldl_append];rfl
def apy {l:List (Nat×(List UInt8×aM))}{j:Nat}(hj:j<l.length):n.kY id no (l.take (j+1))=(n.kY id no (l.take j)).settle id no l[j].1 true:=by unfold N.kY;rw[List.take_succ_eq_append_getElem hj,List.foldl_append];rfl
def apx {l m:List (Nat×(List UInt8×aM))}(hp:l.Perm m)(D:∀h,n.h? id no=some h->tZ h.un):n.kY id no l=n.kY id no m:=VA (p:=λ_=>true) (b:=true) hp D
def M7 (a:aq A H n X U){c:CN}(hc:n.ar id=some c)(hh:n.h? id no=some h)(R:yL n id no h):
 ay E 88 #[pV (A.chan id no)] U λe J=>e=.returned (.tuple #[])/\At A (n.release id no) X J:=by
 refine aX func88 ntmps88 results88 λQ aD an aA=>?_;obtain⟨lc,kc,cG,dX,lv⟩:=a.co hh;have Bt:lc.length=h.co.length:=by have:=lv.length_eq;simpa using this
 refine aJ (a.bX hh) ?_;refine aK (apY cG dX.old dX.nd (by rw[Bt];exact R.tG)) ?_;rintro v J ⟨hle,v',ys,hv,p1,p2,p3,p4⟩
 cases hv
 obtain rfl:ys=h.co.map (·.1):=by refine Aq wW Jq (p1.trans ?_) p2 R.co;have:=lv.map (·.1);simpa[List.map_map,Function.comp_def]using this
 obtain⟨X',a1,ru⟩:=a.AJ hle p3 p4;obtain⟨base,cap,rfl,_⟩:=p3.read;have hl:(h.co.map (·.1)).length=h.co.length:=al;refine aJ hl ?_;refine di (λm I ds ae=>ds=[]/\I 0=pV (A.chan id no)/\I 10=.slice base h.co.length cap/\I 11=iV h.co.length/\∃(j:Nat) (H':Hid),j+m=h.co.length/\I 12=iV j/\aq A H' (n.jX (h.co.take j)) X' ae) h.co.length ?_ ?_
 ·refine⟨rfl,?_,?_,?_,0,H,al,?_,a1⟩<;>exact aQ hl
 rintro m I ds cX Y ⟨rfl,h0,bC,bT,j,H1,xT,o0,aj⟩ hY;have zx:(n.jX (h.co.take j)).h? id no=some h:=by simp[hh]
 have je:(n.jX (h.co.take j)).ar id=some c:=by simp[hc]
 cases m with
 |succ m=>
  have hj:j<h.co.length:=aa;have c0:(j:Int)<h.co.length:=aa;obtain⟨_,sj⟩:=ru aj;obtain⟨b2,za,e2,r2⟩:=sj.read;simp only[Value.slice.injEq]at e2;obtain⟨rfl,_,_⟩:=e2;obtain⟨ba,L,rfl,ib,hL⟩:=r2 j (aW hj);simp only[List.getElem_map,bU]at hL;have w1:IntKind.i64.wrap ((j:Int)+1)=((j+1:Nat):Int):=by have:=R.tG;rw[wrap64 aa aa];rfl
  simp only[go_sem,seval,bC,bT,o0,c0,decide_true];refine⟨aa,?_⟩;refine bu ib hL ?_;refine bG 17 ?_;refine fV h0 (aj.bX zx) (aj.eJ je) aj.jG ?_;obtain⟨lj,kj,nJ,qW,xS⟩:=aj.co zx;obtain⟨x,q,hx,hq,Ea,pk⟩:=R.cancel j hj;obtain⟨st,bw⟩:=sw qW xS (List.mem_map_of_mem (f:=λe:List UInt8×Int=>(e.1,pV (A.cons e.2))) (List.getElem_mem hj));refine jy (b:=A.co id no) (k:=h.co[j].1) (l:=lj) (c:=kj) zV (z:=.pointer none) ah ?_ nJ ?_ ?_
  ·exact au
  ·exact au
  have de:((dq lj h.co[j].1).map (·.2.1)).getD (.pointer none)=pV (A.cons h.co[j].2):=by rw[bw];rfl
  rw[if_neg Bool.false_ne_true,de];refine⟨by(repeat(first|exact jL|(apply jK;(focus decide+kernel))|(refine lF rfl (nW (aj.bX zx) (aj.eJ je) aj.jG) ?_))),?_⟩;refine ag ?_;refine aK (PL aj pk hx hq Ea) ?_;rintro v2 cQ ⟨l8,H2,a2⟩
  cases l8
  have fE:((n.jX (h.co.take j)).cancel h.co[j].2).h? id no=some h:=by simp[hh]
  have RZ:((n.jX (h.co.take j)).cancel h.co[j].2).ar id=some c:=by simp[hc]
  have a2c:=a2.bX fE;have a2d:∃z,cQ.f (A.conn id)=some (.cells (([pV A.gw]:List Value)++z).toArray 90 (0,0)):=⟨_,a2.eJ RZ⟩;refine⟨by(repeat(first|exact jL|(apply jK;(focus decide+kernel))|(refine lF rfl (nW (a2.bX fE) (a2.eJ RZ) a2.jG) ?_))),?_⟩;refine bu o0 w1 ?_;refine hY m _ _ _ _ aa ⟨rfl,?_,?_,?_,j+1,H2,aa,?_,by rw[aaP hj];exact a2⟩ ao
  ·exact aQ h0
  ·exact aQ bC
  ·exact aQ bT
  ·exact au
 |zero=>
  have c0:¬(j:Int)<h.co.length:=aa;have wB:j=h.co.length:=aa;rw[wB,List.take_length]at aj zx je;obtain⟨lj,kj,nJ,qW,xS⟩:=aj.co zx;simp only[go_sem,seval,h0,bT,o0,c0,decide_false,aj.bX zx];refine abq (b:=A.co id no) (f:=bU) (l:=lj) (c:=kj) (d:=.map 9 186) ah ?_ nJ ?_
  ·exact au
  have a3:=(ru aj).1.Nc zx (λh=>{h with co:=[]}) rfl rfl (o:=aV bU [] kj) ⟨[],kj,rfl,akH,al⟩;have zu:((n.jX h.co).bB id no λh=>{h with co:=[]}).h? id no=some {h with co:=[]}:=by simp[hh]
  obtain⟨lu,ku,xZ,zM,yc⟩:=a3.un zu;have zC:lu.length=h.un.length:=by have:=yc.length_eq;simpa using this
  refine bu h0 (a3.bX zu) ?_;refine aK (VJ xZ zM.old zM.nd (by rw[zC];exact R.EF)) ?_;rintro v iu ⟨ow,v',ys,hv,p1,_,p3,p4⟩
  cases hv
  obtain⟨ts,wI,rfl⟩:=Ab (p1.trans (by have:=yc.map (·.1);simpa[List.map_map,Function.comp_def]using this)) (xs:=h.un) (f:=λe=>((e.1:Nat):Int)) rfl;have hl:=wI.length_eq;obtain⟨X2,a4,Ai⟩:=a3.AJ ow p3 p4;obtain⟨CI,rL,rfl,_⟩:=p3.read;have ig:(ts.map λe=>((e.1:Nat):Int)).length=ts.length:=al;refine aJ ig ?_;refine di (λm I ds ae=>ds=[]/\I 0=pV (A.chan id no)/\I 42=.slice CI ts.length rL/\I 43=iV ts.length/\∃(j:Nat) (H':Hid),j+m=ts.length/\I 44=iV j/\aq A H' (((n.jX h.co).bB id no λh=>{h with co:=[]}).kY id no (ts.take j)) X2 ae) ts.length ?_ ?_
  ·refine⟨rfl,?_,?_,?_,0,H1,al,?_,a4⟩<;>exact xu h0 ig
  clear hY h0 bC bT o0;rintro m I ds dx Y ⟨rfl,h0,Ro,vX,j,H5,xT,uq,aj⟩ hY;have w1:IntKind.i64.wrap ((j:Int)+1)=((j+1:Nat):Int):=by have:=R.EF;rw[wrap64 aa aa];rfl
  cases m with
  |succ m=>
   have hj:j<ts.length:=aa;have c0:(j:Int)<ts.length:=aa;obtain⟨_,sj⟩:=Ai aj;obtain⟨b2,za,e2,r2⟩:=sj.read;simp only[Value.slice.injEq]at e2;obtain⟨rfl,_,_⟩:=e2;obtain⟨ba,L,rfl,ib,hL⟩:=r2 j (aW hj);simp only[List.getElem_map,aY]at hL;obtain⟨h',q,ei,iB,hq,b1,AP,hs⟩:=R.back (ts.take j) ts[j] (wI.mem_iff.1 (List.getElem_mem hj)) (HM ((wI.map (·.1)).nodup_iff.2 R.un) hj);simp only[go_sem,seval,Ro,vX,uq,c0,decide_true];refine⟨aa,?_⟩;refine bR ib hL h0 ?_;refine aK (VB (nm:=ts[j].2.1) (m:=ts[j].2.2) aj ei iB hq b1 AP hs) ?_;rintro v2 cQ ⟨l8,H2,a2⟩
   cases l8
   refine bu uq w1 ?_;refine hY m _ _ _ _ aa ⟨rfl,?_,?_,?_,j+1,H2,aa,?_,by rw[apy hj];exact a2⟩ ao
   ·exact aQ h0
   ·exact aQ Ro
   ·exact aQ vX
   ·exact au
  |zero=>
   have c0:¬(j:Int)<ts.length:=aa;have wB:j=ts.length:=aa;rw[wB,List.take_length]at aj;simp only[go_sem,seval,vX,uq,c0,decide_false];refine aD dA ao ⟨rfl,H5,?_⟩;have e:n.release id no=((n.jX h.co).bB id no λh=>{h with co:=[]}).kY id no h.un:=by unfold N.release;rw[hh];rfl
   rw[e,<-apx wI λg hg=>by cases zu.symm.trans hg;exact R.sep];exact(Ai aj).1
end
section
variable {U:Hp}{c:Nat}{v:Value}{H:Hid}{X:Ext}{no:Nat}{h:HN}{m:aM}{cb:Nat}{a:Nat}{b:Nat}{n:Nat}{A':Lay}{H':Hid}{o:Obj}
variable {A:Lay}{n:N}{id:Int}{c:CN}
def mO (id:Int)(p:Nat->Bool):Ref->Bool
 | .chan i j| .un i j| .co i j=>decide (i=id)&&p j
 |_=>false
def Hl.forget {w:Ref->Option V}{ad:Ref->Nat}(h:Hl w ad U)(f:Ref->Bool):Hl (λr=>if f r then none else w r) ad U:=
 h.sub λr=>by cases h:f r<;>simp[h]
def aq.acB (a:aq A H n X U)(hc:n.ar id=some c)(hb:U.f b=none)(f:CN->CN)(hf:(f c).ch=[]):
 aq A (H.vp id b) (n.dN id f) X ((U.set b (aV aY [] 0)).set (A.conn id) (fI A.gw id b (f c).r)):=by
 have h0:=Hl.forget a (mO id λ_=>true);have h1:=Hl.put h0 (r:=.chm id) (b:=b) (v:=.pA []) (Hl.ud h0 _ hb) ⟨[],0,rfl,⟨by simp[jW],al,al⟩,al⟩;have h2:=Hl.vr h1 (r:=.conn id) (by simp[upd,view,hc,mO]) (fI A.gw id b (f c).r);have e2:upd (cI A H X) (.chm id) b (.conn id)=A.conn id:=by simp[upd,cI]
 rw[e2]at h2
 have hh:∀i j,(n.dN id f).h? i j=if i=id then none else n.h? i j:=λi j=>by
  unfold N.h?;rw[qF];by_cases e:i=id
  ·subst e;simp[hc,hf,bq]
  ·simp[e]
 refine Hl.congr h2 (λr=>?_) (λr hr=>?_)
 ·cases r
  case conn i=>by_cases e:i=id<;>simp[view,upd,e,hc,mO,Hid.vp]
  case chm i=>by_cases e:i=id<;>simp[view,upd,e,hc,mO,hf]
  case chan i j=>by_cases e:i=id<;>simp[view,upd,e,hh,mO]
  case un i j=>by_cases e:i=id<;>simp[view,upd,e,hh,mO]
  case co i j=>by_cases e:i=id<;>simp[view,upd,e,hh,mO]
  case mc=>simp only[view,upd,N.dN,mO,reduceCtorEq,if_false];rw[oP _ _ _ λi=>(i,pV (A.conn i))]
  all_goals simp[view,upd,mO]<;>rfl
 ·cases r
  case chm i=>by_cases e:i=id<;>simp[cI,upd,e,Hid.vp]
  all_goals simp[cI,upd]<;>rfl
def aq.aca (a:aq A H n X U)(hc:n.ar id=some c)(no:Nat)(ho:oM (.pA ((cC c.ch no).map λe=>((e.1:Int),pV (A.chan id e.1)))) o):
 aq A H (n.dN id λc=>{c with ch:=cC c.ch no}) X (U.set (H.chm id) o):=by
 have h0:=Hl.forget a (mO id λj=>decide (j=no));have h1:=Hl.set h0 (r:=.chm id) (by simp[view,hc,mO]) ho
 have hh:∀i j,(n.dN id λc=>{c with ch:=cC c.ch no}).h? i j=if i=id/\j=no then none else n.h? i j:=λi j=>by
  unfold N.h?;rw[qF];by_cases e:i=id
  ·subst e;simp[hc,CE]
  ·simp[e]
 refine Hl.congr h1 (λr=>?_) (λr hr=>rfl)
 cases r
 case conn i=>by_cases e:i=id<;>simp[view,upd,e,hc,mO]
 case chm i=>by_cases e:i=id<;>simp[view,upd,e,hc,mO]
 case chan i j=>by_cases e:i=id<;>by_cases e2:j=no<;>simp[view,upd,e,e2,hh,mO]
 case un i j=>by_cases e:i=id<;>by_cases e2:j=no<;>simp[view,upd,e,e2,hh,mO]
 case co i j=>by_cases e:i=id<;>by_cases e2:j=no<;>simp[view,upd,e,e2,hh,mO]
 case mc=>simp only[view,upd,N.dN,mO,reduceCtorEq,if_false];rw[oP _ _ _ λi=>(i,pV (A.conn i))]
 all_goals simp[view,upd,mO]<;>rfl
def Lay.setChan (A:Lay)(id:Int)(no:Nat)(hb ub cb:Nat):Lay:={A with
 chan:=λi j=>if i=id/\j=no then hb else A.chan i j
 un:=λi j=>if i=id/\j=no then ub else A.un i j
 co:=λi j=>if i=id/\j=no then cb else A.co i j}
def aq.ale (a:aq A H n X U)(w:Wf n)(hc:n.ar id=some c)(hn:bq c.ch no=none){hb ub cb:Nat}(h1:U.f ub=none)(h2:U.f cb=none)(h3:U.f hb=none)(n1:cb≠ub)(n2:hb≠ub)(n3:hb≠cb)
 (ho:oM (.pA ((da lG c.ch no ⟨gu,[],[]⟩).map λe=>((e.1:Int),pV ((A.setChan id no hb ub cb).chan id e.1)))) o):
 aq (A.setChan id no hb ub cb) H (n.dN id λc=>{c with ch:=da lG c.ch no ⟨gu,[],[]⟩}) X
  ((((U.set ub (aV aY [] 0)).set cb (aV bU [] 0)).set hb (iF (A.conn id) no ub cb gu)).set (H.chm id) o):=by
 have uI:n.h? id no=none:=by simp[N.h?,hc,hn]
 have h0:=a.Ib w (A':=A.setChan id no hb ub cb) (H':=H) ⟨rfl,rfl,rfl,rfl,rfl,λ_ _=>⟨rfl,rfl⟩,λi j hj=>by
  have:¬(i=id/\j=no):=λe=>by rw[e.1,e.2,uI]at hj;cases hj
  simp[Lay.setChan,this],λ_ _=>⟨rfl,rfl,rfl⟩,λ_ _=>rfl⟩
 have g1:=Hl.put h0 (r:=.un id no) (b:=ub) (v:=.pA []) (Hl.ud h0 _ h1) ⟨[],0,rfl,⟨by simp[jW],al,al⟩,al⟩;have g2:=Hl.put g1 (r:=.co id no) (b:=cb) (v:=.yl []) (Hl.ud g1 _ (by rw[Hp.az n1];exact h2)) ⟨[],0,rfl,⟨by simp[jW],al,al⟩,al⟩;have g3:=Hl.put g2 (r:=.chan id no) (b:=hb) (v:=.obj (iF (A.conn id) no ub cb gu)) (Hl.ud g2 _ (by rw[Hp.az n3,Hp.az n2];exact h3)) (_root_.id rfl);have g4:=Hl.set g3 (r:=.chm id) (by simp[upd,view,hc]) ho;have e4:upd (upd (upd (cI (A.setChan id no hb ub cb) H X) (.un id no) ub) (.co id no) cb) (.chan id no) hb (.chm id)=H.chm id:=by simp[upd,cI]
 rw[e4]at g4
 have hh:∀i j,(n.dN id λc=>{c with ch:=da lG c.ch no ⟨gu,[],[]⟩}).h? i j=if i=id/\j=no then some ⟨gu,[],[]⟩else n.h? i j:=λi j=>by
  unfold N.h?;rw[qF];by_cases e:i=id
  ·subst e;simp[hc,yX _ _ _ _ hn]
  ·simp[e]
 refine Hl.congr g4 (λr=>?_) (λr hr=>?_)
 ·cases r
  case conn i=>by_cases e:i=id<;>simp[view,upd,e,hc]<;>rfl
  case chm i=>by_cases e:i=id<;>simp[view,upd,e,hc]
  case chan i j=>by_cases e:i=id/\j=no<;>simp[view,upd,e,hh]<;>simp[Lay.setChan]
  case un i j=>by_cases e:i=id/\j=no<;>simp[view,upd,e,hh]
  case co i j=>by_cases e:i=id/\j=no<;>simp[view,upd,e,hh]
  case mc=>simp only[view,upd,N.dN,reduceCtorEq,if_false];rw[oP _ _ _ λi=>(i,pV ((A.setChan id no hb ub cb).conn i))]
  all_goals simp[view,upd]<;>rfl
 ·cases r
  case chan i j=>by_cases e:i=id/\j=no<;>simp[cI,upd,e,Lay.setChan]
  case un i j=>by_cases e:i=id/\j=no<;>simp[cI,upd,e,Lay.setChan]
  case co i j=>by_cases e:i=id/\j=no<;>simp[cI,upd,e,Lay.setChan]
  all_goals simp[cI,upd]<;>rfl
def Lay.rB (A:Lay)(id:Int)(b:Nat):Lay:={A with conn:=λi=>if i=id then b else A.conn i}
def aq.alf (a:aq A H n X U)(w:Wf n)(hn:n.ar id=none){m:Nat}(h1:U.f m=none)(h2:U.f b=none)(n1:b≠m)(r0:CR)(ho:oM (.pA ((n.aF++[(id,(⟨r0,[]⟩:CN))]).map λe=>(e.1,pV ((A.rB id b).conn e.1)))) o):
 aq (A.rB id b) (H.vp id m) {n with aF:=n.aF++[(id,⟨r0,[]⟩)]} X (((U.set m (aV aY [] 0)).set b (fI A.gw id m r0)).set A.mc o):=by
 have h0:=a.Ib w (A':=A.rB id b) (H':=H.vp id m) ⟨rfl,rfl,rfl,rfl,rfl,λi hi=>by simp[Lay.rB,Hid.vp,Nl (f:=n.ar) hn hi],λ_ _ _=>⟨rfl,rfl,rfl⟩,λ_ _=>⟨rfl,rfl,rfl⟩,λ_ _=>rfl⟩;have g1:=Hl.put h0 (r:=.chm id) (b:=m) (v:=.pA []) (Hl.ud h0 _ h1) ⟨[],0,rfl,⟨by simp[jW],al,al⟩,al⟩;have g2:=Hl.put g1 (r:=.conn id) (b:=b) (v:=.obj (fI A.gw id m r0)) (Hl.ud g1 _ (by rw[Hp.az n1];exact h2)) (_root_.id rfl);have g3:=Hl.set g2 (r:=.mc) (by simp[upd,view]) ho;have e3:upd (upd (cI (A.rB id b) (H.vp id m) X) (.chm id) m) (.conn id) b .mc=A.mc:=by simp[upd,cI,Lay.rB]
 rw[e3]at g3
 have cT:∀i,N.ar {n with aF:=n.aF++[(id,⟨r0,[]⟩)]} i=if i=id then some ⟨r0,[]⟩else n.ar i:=by
  intro i;unfold N.ar bq;simp only[List.find?_append,List.find?_cons,List.find?_nil];by_cases e:i=id
  ·subst e;have:(n.aF.find? λe=>decide (e.1=i))=none:=by unfold N.ar bq at hn;simpa using hn
   simp[this]
  ·have e2:¬id=i:=λz=>e z.symm;simp[e2,e]
 have hh:∀i j,N.h? {n with aF:=n.aF++[(id,⟨r0,[]⟩)]} i j=n.h? i j:=λi j=>by
  unfold N.h?;rw[cT];by_cases e:i=id
  ·subst e;simp[hn,bq]
  ·simp[e]
 refine Hl.congr g3 (λr=>?_) (λr hr=>?_)
 ·cases r
  case conn i=>by_cases e:i=id<;>simp[view,upd,e,cT]<;>simp[Lay.rB,Hid.vp]
  case chm i=>by_cases e:i=id<;>simp[view,upd,e,cT]
  case chan i j=>simp[view,upd,hh]
  case un i j=>simp[view,upd,hh]
  case co i j=>simp[view,upd,hh]
  all_goals simp[view,upd]<;>rfl
 ·cases r
  case conn i=>by_cases e:i=id<;>simp[cI,upd,e,Lay.rB]
  case chm i=>by_cases e:i=id<;>simp[cI,upd,e,Hid.vp]
  all_goals simp[cI,upd]<;>rfl
def aq.Qf (a:aq A H n X U)(id:Int)(ho:oM (.pA ((cC n.aF id).map λe=>(e.1,pV (A.conn e.1)))) o):
 aq A H {n with aF:=cC n.aF id} X (U.set A.mc o):=by
 have h1:=Hl.set a (r:=.mc) (by simp[view]) ho;refine Hl.sub h1 (λr=>?_);have cT:∀i,N.ar {n with aF:=cC n.aF id} i=if i=id then none else n.ar i:=λi=>CE _ _ _
 have hh:∀i j,N.h? {n with aF:=cC n.aF id} i j=if i=id then none else n.h? i j:=λi j=>by unfold N.h?;rw[cT];split<;>rfl
 cases r
 case conn i=>by_cases e:i=id<;>simp[view,upd,e,cT]
 case chm i=>by_cases e:i=id<;>simp[view,upd,e,cT]
 case chan i j=>by_cases e:i=id<;>simp[view,upd,e,hh]
 case un i j=>by_cases e:i=id<;>simp[view,upd,e,hh]
 case co i j=>by_cases e:i=id<;>simp[view,upd,e,hh]
 case mc=>exact .inr (by simp[view,upd])
 all_goals exact .inr (by simp[view,upd]<;>rfl)
end
section
variable {c:Nat}{no:Nat}{h:HN}{tag:Nat}{k:Int}{b:Nat}{n:Nat}{aL:Int}{dC:Nat}
variable {n:N}{id:Int}{c:CN}
def N.rC (n:N)(id:Int):Option CR:=(n.ar id).map λc=>c.r
def N.rH (n:N)(id:Int)(no:Nat):Option HR:=(n.h? id no).map λh=>h.r
def rp {f:HN->HN}:(n.bB id no f).rC aL=n.rC aL:=by
 unfold N.rC;rw[vP];split
 ·cases n.ar aL<;>rfl
 ·rfl
def Vb {f:HN->HN}(hf:∀h,(f h).r=h.r):(n.bB id no f).rH aL dC=n.rH aL dC:=by
 unfold N.rH;rw[jZ];split
 ·cases n.h? aL dC<;>simp[hf]
 ·rfl
def U6 {tag:Nat}{b:Bool}:(n.settle id no tag b).rC aL=n.rC aL:=by unfold N.settle;split<;>first|rfl|exact rp
def aog {tag:Nat}{b:Bool}:(n.settle id no tag b).rH aL dC=n.rH aL dC:=by unfold N.settle;split<;>first|rfl|exact Vb λ_=>rfl
def aoc {k:Int}:(n.cancel k).rC aL=n.rC aL:=by unfold N.rC;rw[P3]
def aoe {l:List (Nat×(List UInt8×aM))}:(n.kY id no l).rC aL=n.rC aL:=by
 unfold N.kY
 induction l generalizing n with
 |nil=>rfl
 |cons e l ih=>rw[List.foldl_cons,ih];exact U6
def aoh {l:List (Nat×(List UInt8×aM))}:(n.kY id no l).rH aL dC=n.rH aL dC:=by
 unfold N.kY
 induction l generalizing n with
 |nil=>rfl
 |cons e l ih=>rw[List.foldl_cons,ih];exact aog
def B8 (hh:n.h? id no=some h):n.release id no=((n.jX h.co).bB id no λh=>{h with co:=[]}).kY id no h.un:=by unfold N.release;rw[hh];rfl
def B6:(n.release id no).rC aL=n.rC aL:=by
 cases hh:n.h? id no with
 |none=>unfold N.release;rw[hh]
 |some h=>rw[B8 hh,aoe,rp];unfold N.rC;rw[P4]
def U9:(n.release id no).rH aL dC=n.rH aL dC:=by
 cases hh:n.h? id no with
 |none=>unfold N.release;rw[hh]
 |some h=>rw[B8 hh,aoh];refine(Vb (f:=λh=>{h with co:=[]}) λ_=>rfl).trans ?_;unfold N.rH;rw[GA]
def N.gV (n:N)(id:Int)(l:List (Nat×HN)):N:=l.foldl (λn e=>n.release id e.1) n
def E4 {l:List (Nat×HN)}:(n.gV id l).rC aL=n.rC aL:=by
 unfold N.gV
 induction l generalizing n with
 |nil=>rfl
 |cons e l ih=>rw[List.foldl_cons,ih];exact B6
def aoP {l:List (Nat×HN)}{j:Nat}(hj:j<l.length):n.gV id (l.take (j+1))=(n.gV id (l.take j)).release id l[j].1:=by unfold N.gV;rw[List.take_succ_eq_append_getElem hj,List.foldl_append];rfl
def B7 {r:CR}(h:n.rC id=some r):∃c,n.ar id=some c/\c.r=r:=by unfold N.rC at h;obtain⟨c,h1,h2⟩:=Option.map_eq_some_iff.1 h;exact⟨c,h1,h2⟩
def Va {r:HR}(h:n.rH id no=some r):∃c,n.h? id no=some c/\c.r=r:=by unfold N.rH at h;obtain⟨c,h1,h2⟩:=Option.map_eq_some_iff.1 h;exact⟨c,h1,h2⟩
def B5 (h:n.ar id=some c):n.rC id=some c.r:=by simp[N.rC,h]
def U8 (hh:n.h? id no=some h):n.rH id no=some h.r:=by simp[N.rH,hh]
structure AF (n:N) (id:Int) (c:CN):Prop where
 jF:(c.ch.map (·.1)).Pairwise (·<·)
 len:c.ch.length<=12
 step:∀j,∃cj,(n.gV id (c.ch.take j)).ar id=some cj/\cj.ch.map (·.1)=c.ch.map (·.1)
 rel:∀j (hj:j<c.ch.length),∃h,(n.gV id (c.ch.take j)).h? id c.ch[j].1=some h/\yL (n.gV id (c.ch.take j)) id c.ch[j].1 h
end
section
variable {E:Env prog}{U:Hp}{c:Nat}{v:Value}{H:Hid}{X:Ext}{h:HN}{m:aM}{I:av}{ds:List Deferred}{k:Int}{J:Hp}{cap:Nat}{a:Nat}{b:Nat}{n:Nat}{s:Int}{H':Hid}{o:Obj}
variable {A:Lay}{n:N}{id:Int}{c:CN}
def aq.mem (a:aq A H n X U){p:Nat×Obj}(h:p∈X):U.f p.1=some p.2:=by obtain⟨i,hi⟩:=List.getElem?_of_mem h;exact a.ext hi
def pS (a:aq A H n X U)(hc:n.ar id=some c){ch cl me:Nat}{xs:List Arg}{v:Value}(hv:Ay U xs v)(gq:∀a∈xs,lh a)(hn:xs.length<=1000)
 (dR:ch<9223372036854775808) (aH:cl<9223372036854775808) (aP:me<9223372036854775808) (fZ:(dg xs).length<=10000000) (eS:c.r.out.length<=1000000000000000):
 ay E 105 #[pV (A.conn id),iV ch,iV cl,iV me,v] U λe J=>e=.returned (.tuple #[])/\aq A H (n.send id (bK ch cl me xs)) X J:=
 (H9 a.gw (a.conn hc) hv gq hn dR aH aP fZ eS).mono λe J ⟨h1,h2⟩=>⟨h1,by subst h2;exact a.mQ hc λr=>{r with out:=r.out++bK ch cl me xs,iq:=n.clock}⟩
def Na (a:aq A H n X U)(hc:n.ar id=some c){s:List UInt8}(eS:c.r.out.length+s.length<=9223372036854775807):
 ay E 43 #[pV (A.conn id),sV s] U λe J=>e=.returned (.tuple #[])/\aq A H (n.send id s) X J:=
 (Vs (a.eJ hc) a.jG rfl rfl rfl rfl eS (λe=>by have:=a.gw;rw[e,a.conn hc]at this;simp[fI,eP,CR.vals]at this)).mono λe J ⟨h1,h2⟩=>⟨h1,by subst h2;exact a.mQ hc λr=>{r with out:=r.out++s,iq:=n.clock}⟩
def Me (a:aq A H n X U)(hc:n.ar id=some c)(R:AF n id c):
 ay E 53 #[pV (A.conn id)] U λe J=>e=.returned (.tuple #[])/\At A (n.leave id) X J:=by
 refine aX func53 ntmps53 results53 λQ aD an aA=>?_;obtain⟨lc,kc,cG,dX,lv⟩:=a.chm hc;have Bt:lc.length=c.ch.length:=by have:=lv.length_eq;simpa using this
 refine aJ (a.eJ hc) ?_;refine aK (ap2 cG dX.old dX.nd (by have:=R.len;omega)) ?_;rintro v J ⟨hle,v',ys,hv,p1,p2,p3,p4⟩
 cases hv
 obtain rfl:ys=c.ch.map λe=>((e.1:Nat):Int):=by
  refine Aq BM FZ (p1.trans ?_) (p2 (by have:=R.len;omega)) ?_
  ·have:=lv.map (·.1);simpa[List.map_map,Function.comp_def]using this
  ·have:=R.jF;rw[dV,List.pairwise_map];rw[List.pairwise_map]at this;exact this.imp λh=>by simp[kg];omega
 obtain⟨X',a1,ru⟩:=a.AJ hle p3 p4;obtain⟨base,cap,rfl,_⟩:=p3.read;have hl:(c.ch.map λe=>((e.1:Nat):Int)).length=c.ch.length:=al;refine aJ hl ?_;refine di (λm I ds ae=>ds=[]/\I 0=pV (A.conn id)/\I 8=.slice base c.ch.length cap/\I 9=iV c.ch.length/\∃(j:Nat) (H':Hid),j+m=c.ch.length/\I 10=iV j/\aq A H' (n.gV id (c.ch.take j)) X' ae) c.ch.length ?_ ?_
 ·refine⟨rfl,?_,?_,?_,0,H,al,?_,a1⟩<;>exact aQ hl
 rintro m I ds cX Y ⟨rfl,h0,h8,h9,j,H1,xT,bC,aj⟩ hY;obtain⟨cj,je,hkj⟩:=R.step j
 cases m with
 |succ m=>
  have hj:j<c.ch.length:=aa;have c0:(j:Int)<c.ch.length:=aa;obtain⟨_,sj⟩:=ru aj;obtain⟨b2,za,e2,r2⟩:=sj.read;simp only[Value.slice.injEq]at e2;obtain⟨rfl,_,_⟩:=e2;obtain⟨ba,L,rfl,ib,hL⟩:=r2 j (aW hj);simp only[List.getElem_map,aY]at hL;have w1:IntKind.i64.wrap ((j:Int)+1)=((j+1:Nat):Int):=by have:=R.len;rw[wrap64 aa aa];rfl
  obtain⟨h,hh,Rh⟩:=R.rel j hj;obtain⟨lj,kj,nJ,qW,xS⟩:=aj.chm je
  have qf:((c.ch[j].1:Int),pV (A.chan id c.ch[j].1))∈cj.ch.map λe=>((e.1:Int),pV (A.chan id e.1)):=by
   have:c.ch[j].1∈cj.ch.map (·.1):=by rw[hkj];exact List.mem_map_of_mem (List.getElem_mem hj)
   obtain⟨e,he,h2⟩:=List.mem_map.1 this;exact List.mem_map.2 ⟨e,he,by rw[h2]⟩
  obtain⟨st,bw⟩:=sw qW xS qf;simp only[go_sem,seval,h8,h9,bC,c0,decide_true];refine⟨aa,?_⟩;refine fV ib hL h0 (aj.eJ je) ?_;refine jy (b:=H1.chm id) (k:=(c.ch[j].1:Int)) (l:=lj) (c:=kj) uZ (z:=.pointer none) ah ?_ nJ ?_ ?_
  ·exact au
  ·exact au
  have de:((dq lj (c.ch[j].1:Int)).map (·.2.1)).getD (.pointer none)=pV (A.chan id c.ch[j].1):=by rw[bw];rfl
  rw[if_neg Bool.false_ne_true,de];refine ag ?_;refine aK (M7 aj je hh Rh) ?_;rintro v2 cQ ⟨l8,H2,a2⟩
  cases l8
  refine bu bC w1 ?_;refine hY m _ _ _ _ aa ⟨rfl,?_,?_,?_,j+1,H2,aa,?_,by rw[aoP hj];exact a2⟩ ao
  ·exact aQ h0
  ·exact aQ h8
  ·exact aQ h9
  ·exact au
 |zero=>
  have c0:¬(j:Int)<c.ch.length:=aa;have wB:j=c.ch.length:=aa;rw[wB,List.take_length]at aj je;simp only[go_sem,seval,h0,h9,bC,c0,decide_false];refineλmb SA=>?_;have a5:=λo=>aj.fresh SA o;have f5:=λo=>(a5 o).eJ je;refine aJ f5 ?_;refine aD dA ao ⟨rfl,H1.vp id mb,?_⟩;have e:n.leave id=(n.gV id c.ch).dN id λc=>{c with ch:=[]}:=by unfold N.leave;rw[hc];rfl
  rw[e];exact(ru aj).1.acB je SA (λc=>{c with ch:=[]}) rfl
end
end Go.Qw
