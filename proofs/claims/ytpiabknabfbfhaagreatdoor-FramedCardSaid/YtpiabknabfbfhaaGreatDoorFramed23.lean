/- 23 -/
import Derived.Test.YtpiabknabfbfhaaGreatDoorFramed22
set_option linter.all false
set_option maxRecDepth 100000
set_option maxHeartbeats 8000000
namespace Go.Qw
open Go Go.Conc Go.Proofs Go.Proofs.Tryz
variable {E:Env prog}{U:Hp}{y:Int}
def aah{x:Int}:aw E 225 #[iV x,iV y] U λe R=>e=.returned (iV (if x<y then-1 else if y<x then 1 else 0))/\R=U:=by
 refine eY func225 ntmps225 results225 rfl ak λQ aB al az=>?_;refine ag ?_;refine bz KV ?_;refine ag ?_;refine bz KV ?_;refine ag ?_;by_cases h1:x<y
 ·simp only[go_sem,seval,h1,decide_true];exact al aG ao ⟨by simp[up,h1],rfl⟩
 ·by_cases h2:y<x
  ·simp only[go_sem,seval,h1,h2,decide_true,decide_false];exact al aG ao ⟨by simp[up,h1,h2],rfl⟩
  ·simp only[go_sem,seval,h1,h2,decide_false];exact al aG ao ⟨by simp[up,h1,h2],rfl⟩
variable {m:aQ}
def OR:aw E 224 #[m.v,iV y] U λe R=>e=.returned (iV (if m.seq<y then-1 else if y<m.seq then 1 else 0))/\U.le R:=by refine eY func224 ntmps224 results224 rfl ak λQ aB al az=>?_;simp only[go_sem,seval,aQ.v];refineλb hb=>?_;simp only[go_sem,seval];refine OC acQ aah ?_;simp only[go_sem,seval];exact al aG ao ⟨by simp[up],kz hb⟩
variable {ms:List aQ}{v:Value}
def Z7(hm:gz U ms v)(hn:ms.length<=1000000):
 aw E 227 #[v] U λe R=>∃rv,e=.returned rv/\(rv=.slice none 0 0/\ms=[]/\R=U\/∃a c pad,rv=.slice (some ⟨a,0,none⟩) ms.length c/\U.f a=none/\ms.length<=c/\4*(c-ms.length)<=List.length (α:=Value) pad/\(U.set a (.cells (bd ms++pad).toArray 193 (0,0))).le R/\U.le R):=by
 refine aX func227 ntmps227 results227 λQ aB al az=>?_;have HD:prog.underlying 78=some (.slice 193):=ah
 cases hm with
 |none h0=>
  subst h0;refine ag ?_;refine Pp HD (b:=none) (n:=0) (c:=0) ?_ ?_ ?_
  ·exact au
  ·exact au
  simp only[go_sem,seval,Option.isNone_none];exact al aG ao ⟨_,rfl,.inl ⟨by simp[up],rfl,rfl⟩⟩
 |«at»a pre pad c h1 h2 h3=>
  refine ag ?_;refine Pp HD (b:=some ⟨a,pre.length,none⟩) (n:=ms.length) (c:=c) ?_ ?_ ?_
  ·exact au
  ·exact au
  simp only[go_sem,seval,Option.isNone_some];refineλb hb=>?_;have GZ:¬a=b:=bh hb h3;have e2:ms.length*4=(bd ms).length:=by rw[pq];omega
  have iL:∀o,iM (U.set b o) iH.z ms.length (.slice (some ⟨a,pre.length,none⟩) ms.length c)=some (bd ms).toArray:=by
   intro o;show(cellsOf (U.set b o) ⟨a,pre.length,none⟩ (ms.length*4))=_;have e:pre.length+ms.length*4<=pre.length+(bd ms).length+pad.length:=by rw[pq];omega
   simp only[cellsOf,Hp.ay GZ,h3,List.size_toArray,List.length_append,true_and,if_pos e];congr 1;apply Array.ext';simp[e2]
  refine ag ?_;refine ss iH (base:=some ⟨b,0,none⟩) (l:=0) (c:=0) (n:=ms.length) (old:=#[]) (new:=(bd ms).toArray) ah ?_ ?_ ?_ (by simp only[go_sem,seval];exact iL _) ?_ aa ?_ ?_
  ·exact au
  ·exact au
  ·show(cellsOf _ ⟨b,0,none⟩ (0*4))=_;simp[cellsOf,Hp.bD]
  ·show(2*(0+ms.length)+192)*48<=2^48;omega
  ·intro h0;have Gg:ms=[]:=List.length_eq_zero_iff.1 aa;subst Gg;refine⟨_,⟨_,_,aT,rfl,by simp[bd],by simp[bd],rfl⟩,?_⟩;simp only[go_sem,seval,Nat.zero_add,List.length_nil];refine al aG ao ⟨_,rfl,.inr ⟨b,0,[],by simp[up],hb,Nat.le_refl _,ak,?_,?_⟩⟩
   ·simp[bd];exact Hp.le_refl _
   ·exact kz hb
  ·intro hc b2 cap dh jP
   have sU:U.f b2=none:=by
    cases hs:U.f b2 with
    |none=>rfl
    |some o=>have:=kz (o:=.cells #[] 193 (0,0)) hb b2 o hs;rw[Hp.ay (bh hs hb)]at dh;rw[hs]at dh;cases dh
   simp only[go_sem,seval,Nat.zero_add]at jP|-;refine al aG ao ⟨_,rfl,.inr ⟨b2,cap,(Builtin.zeroCells iH.zero (cap-ms.length)).toList,by simp[up],sU,jP,by rw[EW];omega,?_,?_⟩⟩
   ·have e3:((bd ms).toArray++Builtin.zeroCells iH.zero (cap-ms.length))=(bd ms++(Builtin.zeroCells iH.zero (cap-ms.length)).toList).toArray:=by apply Array.ext';simp
    rw[<-e3];exact DV (kz hb) _ _
   ·exact Hp.le_trans (kz hb) (kz dh)
def aiw{pre pad:List Value}{i:Nat}(hi:i<ms.length):∃p2 q2,pre++bd ms++pad=p2++ms[i].vals++q2/\p2.length=pre.length+i*4:=by
 refine⟨pre++bd (ms.take i),bd (ms.drop (i+1))++pad,?_,?_⟩
 ·have this:bd ms=bd (ms.take i)++(ms[i].vals++bd (ms.drop (i+1))):=by
   have h1:bd (ms.take i)++bd (ms.drop i)=bd ms:=by unfold bd;rw[<-List.flatMap_append,List.take_append_drop]
   rw[<-h1,<-List.getElem_cons_drop hi];rfl
  rw[this];simp
 ·rw[List.length_append,pq,List.length_take];omega
variable {α:Type}{i:Nat}
def apt{l:List α}{p:α->Bool}(h1:∀x∈l.take i,p x=true)(h2:∀x∈l.drop i,p x=false)(hi:i<=l.length):(l.takeWhile p).length=i/\l.takeWhile p=l.take i/\l.dropWhile p=l.drop i:=by
 have e1:l.takeWhile p=l.take i:=by
  conv=>lhs;rw[<-List.take_append_drop i l]
  rw[List.takeWhile_append_of_pos h1]
  cases hd:l.drop i with
  |nil=>simp
  |cons a t=>simp[h2 a (by rw[hd];simp)]
 refine⟨by rw[e1,List.length_take];omega,e1,?_⟩;have e2:=List.takeWhile_append_dropWhile (p:=p) (l:=l);rw[e1]at e2;have e3:=List.take_append_drop i l;exact List.append_cancel_left (e2.trans e3.symm)
def Ys{no:Int}(hm:gz U ms v)(hn:ms.length<=1000000)(hs:ms.Pairwise λa b=>a.seq<b.seq):
 aw E 223 #[v,iV no,.func (.func 224) #[] #[]] U λe R=>(∃b:Bool,e=.returned (.tuple #[iV ((ms.takeWhile λx=>decide (x.seq<no)).length:Nat),.bool b]))/\U.le R:=by
 refine aX func223 ntmps223 results223 λQ aB al az=>?_;obtain⟨base,cap,rfl⟩:=hm.shape
 have gY:∀{R:Hp},U.le R->∀i (hi:i<ms.length),∃a off p2 q2,base=some ⟨a,off,none⟩/\R.f a=some (.cells (p2++ms[i].vals++q2).toArray 193 (0,0))/\p2.length=off+i*4:=by
  intro R hle i hi;generalize hl:ms.length=L at hm
  cases hm with
  |none h0=>subst h0;simp at hi
  |«at»a pre pad c h1 h2 h3=>
   obtain⟨p2,q2,e1,e2⟩:=aiw (pre:=pre) (pad:=pad) hi;exact⟨a,pre.length,p2,q2,rfl,by rw[<-e1];exact hle _ _ h3,e2⟩
 refine ag ?_;refine cZ (λm I ds ae=>ds=[]/\I 0=.slice base ms.length cap/\I 1=iV no/\I 2=.func (.func 224) #[] #[]/\I 8=iV ms.length/\U.le ae/\∃i j:Nat,m=j-i/\i<=j/\j<=ms.length/\I 9=iV i/\I 10=iV j/\(∀x∈ms.take i,x.seq<no)/\(∀x∈ms.drop j,¬x.seq<no)) ms.length ?_ ?_
 ·refine⟨rfl,?_,?_,?_,?_,Hp.le_refl _,0,ms.length,ak,aa,aa,?_,?_,ak,ak⟩<;>exact au
 ·rintro m I ds ae X ⟨rfl,h0,h1,h2,h8,hle,i,j,rfl,qF,hj,h9,bE,AS,C8⟩ hX;by_cases c0:i<j
  ·have vh:(i:Int)<j:=aa;have w1:IntKind.i64.wrap ((i:Int)+j)=((i+j:Nat):Int):=cX
   have wu:∀k:Nat,k<=2000000->IntKind.u64.wrap (k:Int)=k:=λk hk=>by have:((k:Int) % 18446744073709551616)=k:=aa;simpa[IntKind.wrap,IntKind.bits,IntKind.signed]using this
   have ws:xS .u64 ((i+j:Nat):Int) 1=(((i+j)/2:Nat):Int):=by show Int.fdiv _ (2^(min (1:Int).toNat 64))=_;rw[show(2:Int)^(min (1:Int).toNat 64)=2 from rfl,Int.fdiv_eq_ediv_of_nonneg _ aa];omega
   obtain⟨h,hh⟩:∃h,h=(i+j)/2:=⟨_,rfl⟩;have mR:i<=h/\h<j:=aa;obtain⟨a,off,p2,q2,rfl,hf,e2⟩:=gY hle h aa;have w2:IntKind.i64.wrap (((i+j)/2:Nat):Int)=h:=by rw[<-hh];exact wrap64 aa aa
   have w3:=fM h;have b1:(0:Int)<=h/\(h:Int)<ms.length:=aa;simp only[go_sem,seval,h0,h2,h9,bE,vh,decide_true,w1,wu (i+j) aa,ws,w2];refine⟨b1,?_⟩;refine ag ?_;refine LX (pre:=p2) (pad:=q2) (m:=ms[h]) (e:=193) hf (by simp[e2]) ?_;refine aH h1 ?_;rw[Em (f:=224) (l:=#[]) (cap:=#[]) au];refine ag ?_;refine aJ OR ?_;rintro v R ⟨hv,nZ⟩
   cases hv
   have qI:=Hp.le_trans hle nZ;by_cases c1:ms[h].seq<no
   ·simp only[go_sem,seval,if_pos c1,w3];refine hX (j-(h+1)) _ _ _ _ aa ⟨rfl,?_,?_,?_,?_,qI,h+1,j,rfl,aa,hj,?_,?_,?_,C8⟩ ao
    ·exact aP h0
    ·exact aP h1
    ·exact aP h2
    ·exact aP h8
    ·exact au
    ·exact aP bE
    ·intro x hx;obtain⟨k,hk,rfl⟩:=List.mem_take_iff_getElem.1 hx;by_cases e:k=h
     ·subst e;exact c1
     ·have:=List.pairwise_iff_getElem.1 hs k h aa aa aa;omega
   ·have c2:¬(if no<ms[h].seq then(1:Int)else 0)<0:=by split<;>omega
    simp only[go_sem,seval,if_neg c1,c2,decide_false];refine hX (h-i) _ _ _ _ aa ⟨rfl,?_,?_,?_,?_,qI,i,h,rfl,aa,aa,?_,?_,AS,?_⟩ ao
    ·exact aP h0
    ·exact aP h1
    ·exact aP h2
    ·exact aP h8
    ·exact aP h9
    ·exact au
    ·intro x hx;obtain⟨k,hk,rfl⟩:=List.mem_drop_iff_getElem.1 hx;by_cases e:k=0
     ·subst e;simpa using c1
     ·have:=List.pairwise_iff_getElem.1 hs h (h+k) aa aa aa;omega
  ·have vh:¬(i:Int)<j:=aa;obtain rfl:i=j:=aa;have ew:(ms.takeWhile λx=>decide (x.seq<no)).length=i:=(apt (λx hx=>by simpa using AS x hx) (λx hx=>by simpa using C8 x hx) hj).1;by_cases c4:i<ms.length
   ·have IC:(i:Int)<ms.length:=aa;have b1:(0:Int)<=i/\(i:Int)<ms.length:=aa;obtain⟨a,off,p2,q2,rfl,hf,e2⟩:=gY hle i c4;simp only[go_sem,seval,h0,h2,h8,h9,bE,vh,IC,decide_true,decide_false];refine⟨aa,?_⟩;refine ag ?_;refine LX (pre:=p2) (pad:=q2) (m:=ms[i]) (e:=193) hf (by simp[e2]) ?_;refine aH h1 ?_;rw[Em (f:=224) (l:=#[]) (cap:=#[]) au];refine ag ?_;refine aJ OR ?_;rintro v R ⟨hv,nZ⟩
    cases hv
    refine ag ?_;exact al iT ao ⟨⟨decide ((if ms[i].seq<no then(-1:Int)else if no<ms[i].seq then 1 else 0)=0),by simp[up,ew]⟩,Hp.le_trans hle nZ⟩
   ·have IC:¬(i:Int)<ms.length:=aa;simp only[go_sem,seval,h8,h9,bE,vh,IC,decide_false];exact al iT ao ⟨⟨false,by simp[up,ew]⟩,hle⟩
variable {P:Program}{a:Addr}{c:Array Value}{e:TypeId}{H:Halt->Hp->Prop}
def G1{z:Nat×Nat}(ha:U.f a.block=some (.cells c e z)){Q:Unit->Hp->Prop}(k:Q () U):wpS P (noView a) Q H U:=by simp only[noView,viewAt,aF,zL,Hp.shape?,ha];refine⟨rfl,?_⟩;simp only[Option.isSome_some,if_true,bl,Option.isSome_none,Bool.false_eq_true,if_false];exact k
def UK(ha:U.f a.block=some (.cells c e (0,0))){Q:Bool->Hp->Prop}(k:Q false U):wpS P (stringish a) Q H U:=by have h0:∀n,(decide (0<=n)&&decide (n<0))=false:=ak;simp only[stringish,aF,HM,Hp.frozen?,ha,h0];refine⟨rfl,?_⟩;simp only[Bool.false_eq_true,if_false,aF,zL,Hp.shape?,ha];refine⟨rfl,?_⟩;simp only[HM,Hp.frozen?,ha,h0];exact⟨rfl,k⟩
def SG{b:Addr}{c':Array Value}{e':TypeId}(ha:U.f a.block=some (.cells c e (0,0)))(hb:U.f b.block=some (.cells c' e' (0,0))){Q:Bool->Hp->Prop}(k:Q false U):wpS P (mayBeOne a b) Q H U:=by
 simp only[mayBeOne,aF];refine UK ha (UK hb ?_);simp only[bl,zL,Bool.false_and,Bool.or_false]
 first|exact k|exact⟨by rw[ha];rfl,by rw[hb];rfl,k⟩
variable {a bn off:Nat}
def alm{la ca:Nat}{x y:List Value}(ha:U.f a=some (.cells x.toArray 193 (0,0)))(hb:U.f bn=some (.cells y.toArray 193 (0,0)))(hx:0<x.length)(hy:0<y.length)(aE:¬bn=a){dst:Option Tmp}{I:av}{ds:List Deferred}{nx:av->List Deferred->Hp->Prop}{pn:List PanicEntry->Hp->Prop}(k:nx (aA I dst (.bool false)) ds U):jJ E 241 #[.slice (some ⟨bn,0,none⟩) 1 1,.slice (some ⟨a,off,none⟩) la ca] U dst I ds nx pn:=by
 refine dH func241 rfl ah ah (ex:=Extern.SlicesOverlaps.overlaps #[78,78] #[4]) ah ?_;have HD:prog.underlying 78=some (.slice 193):=ah
 obtain⟨ie,vC,hiz⟩:∃ie,prog.info? 193=some ie/\ie.size=4:=by obtain⟨i,zv,h1,h2,_⟩:=iH.hi;exact⟨i,h1,h2⟩
 have afo:(bn !=a)=true:=aV aE;have afp:(bn==a)=false:=aV aE;have RP:¬x.length=0:=aa;have RV:¬y.length=0:=aa
 have e:Extern.SlicesOverlaps.overlaps #[78,78] #[4] #[.slice (some ⟨bn,0,none⟩) 1 1,.slice (some ⟨a,off,none⟩) la ca]=(do
  let .slice elem<-underlying 78|stuck "slices.overlaps: slice type expected"
  let size<-sizeOf elem
  if 1=0\/la=0\/size=0 then pure (.bool false)
  else if bn !=a&&(<-frozen ⟨bn,0,none⟩)&&(<-frozen ⟨a,off,none⟩)then unsupported .addressObserved
  else do
   if bn !=a then do
    noView ⟨bn,0,none⟩;noView ⟨a,off,none⟩
    if<-mayBeOne ⟨bn,0,none⟩ ⟨a,off,none⟩then return .bool ((<-choose (.extern "sameAddr.stringBytes" 2))==1)
   pure (.bool (bn==a&&0<off+la*size&&off<0+1*size))):=rfl
 show wpS prog (Extern.SlicesOverlaps.overlaps #[78,78] #[4] #[.slice (some ⟨bn,0,none⟩) 1 1,.slice (some ⟨a,off,none⟩) la ca]) _ _ _;rw[e];simp only[aF,eg,HD,sizeOf,fO,vC,bl,hiz];by_cases hl:la=0
 ·simp only[hl,true_or,or_true,if_true,bl];exact k
 ·have hc:¬(1=0\/la=0\/4=0):=aa;rw[if_neg hc];simp only[afo,afp,if_true,aF,HM,Hp.frozen?,ha,hb,Bool.true_and];refine⟨rfl,rfl,?_⟩;have hf:(decide (0<=0)&&decide (0<0)&&(decide (0<=off)&&decide (off<0)))=false:=ak;simp only[hf,Bool.false_eq_true,if_false,aF];refine G1 hb (G1 ha (SG hb ha ?_));simp only[Bool.false_eq_true,if_false,bl,Bool.false_and];exact k
def Mw{A Z new:List α}(h:A.length=off):(A++Z).take off++new++(A++Z).drop (off+new.length)=A++new++Z.drop new.length:=by subst h;rw[List.take_left' rfl,List.drop_append,List.drop_of_length_le (Nat.le_add_right _ _),Nat.add_sub_cancel_left,List.nil_append]
def SO(ms:List aQ):(bd ms).all di=true:=by simp only[bd,List.all_eq_true,List.mem_flatMap];rintro x ⟨m,_,hx⟩;simp only[aQ.vals,List.mem_cons,List.not_mem_nil,or_false]at hx;rcases hx with rfl|rfl|rfl|rfl<;>rfl
def R6(hm:gz U ms v)(hn:ms.length<=1000000)(cE:U.f bn=some (.cells #[iV m.seq,sV m.key,sV m.body,.bool m.again] 193 (0,0)))(hi:i<=ms.length)(hv:∀off n c,v≠.slice (some ⟨bn,off,none⟩) n c):
 aw E 226 #[v,iV i,.slice (some ⟨bn,0,none⟩) 1 1] U λe R=>∃rv a o,e=.returned rv/\(U.f a=none\/∃off n c z,v=.slice (some ⟨a,off,none⟩) n c/\U.f a=some (.cells z 193 (0,0)))/\(∃z,o=.cells z 193 (0,0))/\(∀bY:Hp,bY.f a=some o->gz bY (ms.take i++m::ms.drop i) rv)/\(U.set a o).le R:=by
 refine aX func226 ntmps226 results226 λQ aB al az=>?_;obtain⟨base,cap,rfl⟩:=hm.shape
 have jP:ms.length<=cap:=by
  generalize hL:ms.length=L at hm|-
  cases hm with
  |none h0=>subst h0;simp
  |«at»a pre pad c h1 h2 h3=>exact h1
 have b1:(0:Int)<=i/\(i:Int)<=ms.length:=aa;refine ag ?_;refine⟨aa,?_⟩;by_cases c0:i=ms.length
 ·have vh:(i:Int)=ms.length:=aa;simp only[go_sem,seval,vh,decide_true];refine NN (v0:=.slice base ms.length cap) (m:=m) (bn:=bn) hm ?_ ?_ cE hn ?_
  ·exact au
  ·exact au
  intro rv a o h1 h2 h3;refine ag ?_;refine al aG ao ⟨rv,a,o,by simp[up],h1,h3,λR fF=>?_,Hp.le_refl _⟩;rw[c0,List.take_length,List.drop_length];exact h2 R fF
 ·have vh:¬(i:Int)=ms.length:=aa
  have hx:∃a pre pad,base=some ⟨a,List.length (α:=Value) pre,none⟩/\4*(cap-ms.length)<=List.length (α:=Value) pad/\U.f a=some (.cells (pre++bd ms++pad).toArray 193 (0,0)):=by
   generalize hL:ms.length=L at hm
   cases hm with
   |none h0=>subst h0;exfalso;apply c0;simpa using hi
   |«at»a pre pad c h1 h2 h3=>exact⟨a,pre,pad,rfl,h2,h3⟩
  obtain⟨a,pre,pad,rfl,h2,h3⟩:=hx;have hia:i<ms.length:=aa;have w1:IntKind.i64.wrap ((ms.length:Int)+1)=((ms.length+1:Nat):Int):=cX;have w2:IntKind.i64.wrap (((ms.length+1:Nat):Int)-i)=((ms.length+1-i:Nat):Int):=cX;have w3:=fM i;have w4:IntKind.i64.wrap (1+(i:Int))=((i+1:Nat):Int):=by rw[Int.add_comm];exact w3
  have eD:(bd (ms.drop i)).length=4*(ms.length-i):=by rw[pq,List.length_drop]
  have eT:(bd (ms.take i)).length=4*i:=by rw[pq,List.length_take,Nat.min_eq_left hi]
  have eM:bd ms=bd (ms.take i)++bd (ms.drop i):=by unfold bd;rw[<-List.flatMap_append,List.take_append_drop]
  have eL:pre++bd ms++pad=(pre++bd (ms.take i))++(bd (ms.drop i)++pad):=by rw[eM];simp
  have eR:bd (ms.take i++m::ms.drop i)=bd (ms.take i)++(m.vals++bd (ms.drop i)):=by simp[bd]
  have GZ:¬bn=a:=λe=>hv pre.length ms.length cap (by rw[e]);by_cases c1:cap<ms.length+1
  ·have vj:(((ms.length+1:Nat):Int))>(cap:Int):=aa;simp only[go_sem,seval,vh,w1,decide_true,decide_false];refine OH (e:=193) ah (b:=some ⟨a,pre.length,none⟩) (n:=ms.length) (c:=cap) ?_ ?_
   ·exact au
   simp only[go_sem,seval,vj,decide_true];refine⟨aa,?_⟩;refine bq w1 w2 ?_;refine Wk iH (base:=some ⟨a,pre.length,none⟩) (l:=i) (c:=cap) (n:=ms.length+1-i) (k:=.i64) (old:=(bd (ms.take i)).toArray) ah ?_ ?_ an aa ?_ ?_ an aa aa ?_
   ·simp only[go_sem,seval,ite_self,Nat.sub_zero]
   ·exact au
   ·show cellsOf U ⟨a,pre.length,none⟩ (i*4)=_;have e:pre.length+i*4<=(pre++bd ms++pad).toArray.size:=by simp[pq];omega
    simp only[cellsOf,h3,true_and,if_pos e];congr 1;apply Array.ext';rw[eL];have:i*4=(bd (ms.take i)).length:=by rw[eT];omega
    simp[this]
   ·show(2*(i+(ms.length+1-i))+192)*48<=2^48;omega
   intro b cp hb hcp;have nb:¬bn=b:=bh hb cE;have vZ:¬a=b:=bh hb h3;have k1:¬cp-i=0:=aa;have k2:¬cp-(i+1)=0:=aa;have k3:¬cap-i=0:=aa;refine ag ?_;refine⟨aa,?_⟩;refine ag ?_
   have eZ:∃Z:List Value,(Builtin.zeroCells iH.zero (ms.length+1-i)++Builtin.zeroCells iH.zero (cp-(i+(ms.length+1-i)))).toList=Z/\Z.length=4*(cp-i):=⟨_,rfl,by rw[Array.toList_append,List.length_append,EW,EW];omega⟩
   obtain⟨Z,hZ,JK⟩:=eZ
   have aef:((bd (ms.take i)).toArray++Builtin.zeroCells iH.zero (ms.length+1-i)++Builtin.zeroCells iH.zero (cp-(i+(ms.length+1-i))):Array Value)=(bd (ms.take i)++Z).toArray:=by rw[<-hZ];apply Array.ext';simp
   rw[aef];refine Fy iH (b:=b) (off:=0+i*4) (k:=1) (dl:=ms.length+1-i) (dc:=cp-i) (new:=m.vals) (L:=bd (ms.take i)++Z) (e:=193) ?_ ?_ ?_ aT ?_ ?_ ?_
   ·have e:i+(ms.length+1-i)-i=ms.length+1-i:=aa;have k1':¬cp=i:=aa;exact wL k1' e
   ·exact au
   ·have e:Nat.min 1 (ms.length+1-i)=1:=by show min _ _=_;omega
    refine aH e ?_;show cellsOf _ ⟨bn,0,none⟩ 4=_;simp[cellsOf,Hp.ay nb,cE,aQ.vals]
   ·simp[aQ.vals,JK,eT];omega
   ·simp[aQ.vals,di]
   have e4:m.vals.length=4:=rfl
   have s1:(bd (ms.take i)++Z).take (0+i*4)++m.vals++(bd (ms.take i)++Z).drop (0+i*4+m.vals.length)=(bd (ms.take i)++m.vals)++Z.drop 4:=by rw[List.take_left' (by rw[eT];omega),List.drop_append,List.drop_of_length_le (by rw[eT,e4];omega),eT,e4,List.nil_append];congr 2;omega
   rw[s1,Hp.set_set];refine ag ?_;refine bJ 9 ?_;refine aH w3 ?_;refine⟨aa,?_⟩;refine ag ?_;refine⟨aa,?_⟩;refine ag ?_;refine Fy iH (b:=b) (off:=0+(i+1)*4) (k:=ms.length-i) (dl:=ms.length-i) (dc:=cp-(i+1)) (new:=bd (ms.drop i)) (L:=(bd (ms.take i)++m.vals)++Z.drop 4) (e:=193) ?_ ?_ ?_ aT ?_ ?_ ?_
   ·have e:i+(ms.length+1-i)-(i+1)=ms.length-i:=aa;have k2':¬cp=i+1:=aa;exact wL k2' e
   ·exact au
   ·have e:Nat.min (ms.length-i) (ms.length-i)=ms.length-i:=Nat.min_self _;have pX:¬cap=i:=aa;refine bq e pX ?_;show cellsOf _ ⟨a,pre.length+i*4,none⟩ ((ms.length-i)*4)=_;have e2:pre.length+i*4+(ms.length-i)*4<=(pre++bd ms++pad).toArray.size:=by simp[pq];omega
    simp only[cellsOf,Hp.ay vZ,h3,true_and,if_pos e2];congr 1;apply Array.ext';rw[eL];have e3:pre.length+i*4=(pre++bd (ms.take i)).length:=by rw[List.length_append,eT];omega
    have e4:(ms.length-i)*4=(bd (ms.drop i)).length:=by rw[eD];omega
    rw[e3,e4];simp
   ·simp[aQ.vals,JK,eT,eD];omega
   ·exact SO _
   have s2:(bd (ms.take i)++m.vals++Z.drop 4).take (0+(i+1)*4)++bd (ms.drop i)++(bd (ms.take i)++m.vals++Z.drop 4).drop (0+(i+1)*4+(bd (ms.drop i)).length)=bd (ms.take i++m::ms.drop i)++(Z.drop 4).drop (bd (ms.drop i)).length:=by
    have e5:(bd (ms.take i)++m.vals).length=0+(i+1)*4:=by rw[List.length_append,eT,e4];omega
    rw[Mw e5,eR];simp
   rw[s2,Hp.set_set];refine fL ?_;refine ag ?_;refine al aG ao ⟨_,b,_,rfl,.inl hb,⟨_,rfl⟩,λR fF=>?_,Hp.le_refl _⟩;have el:i+(ms.length+1-i)=(ms.take i++m::ms.drop i).length:=by simp;omega
   have:=gz.at (U:=R) (ms:=ms.take i++m::ms.drop i) b [] ((Z.drop 4).drop (bd (ms.drop i)).length) cp (by rw[<-el];exact hcp) (by rw[<-el,List.length_drop,List.length_drop,JK,eD];omega) (aV fF);simp[up,el];simpa using this
  ·have vj:¬(((ms.length+1:Nat):Int))>(cap:Int):=aa;simp only[go_sem,seval,vh,w1,decide_false];refine OH (e:=193) ah (b:=some ⟨a,pre.length,none⟩) (n:=ms.length) (c:=cap) ?_ ?_
   ·exact au
   have k3:¬cap-i=0:=aa;have k4:¬cap-(i+1)=0:=aa;simp only[go_sem,seval,vj,w1,decide_false];refine⟨aa,?_⟩;simp only[go_sem,seval,w3,ite_self,Nat.sub_zero];refine⟨aa,?_⟩;have k5:¬cap=i+1:=aa;refine aH k5 ?_;refine alm (x:=pre++bd ms++pad) (y:=[iV m.seq,sV m.key,sV m.body,.bool m.again]) h3 cE (by simp[pq];omega) ak GZ ?_;refine ag ?_;refine bJ 9 ?_;refine aH w3 ?_;refine⟨aa,?_⟩;refine aH k5 ?_;refine⟨aa,?_⟩;refine ag ?_;obtain⟨Y,hY⟩:∃Y,Y=bd (ms.drop i)++pad:=⟨_,rfl⟩;have FL:Y.length=4*(ms.length-i)+pad.length:=by rw[hY,List.length_append,eD]
   have pX:¬cap=i:=aa;refine Fy iH (b:=a) (off:=pre.length+(i+1)*4) (k:=ms.length+1-i) (dl:=ms.length-i) (dc:=cap-(i+1)) (new:=bd (ms.drop i)) (L:=pre++bd ms++pad) (e:=193) ?_ ?_ ?_ h3 ?_ ?_ ?_
   ·have e:ms.length+1-(i+1)=ms.length-i:=aa;exact wL k5 e
   ·exact au
   ·have e:Nat.min (ms.length+1-i) (ms.length-i)=ms.length-i:=by show min _ _=_;omega
    refine bq e pX ?_;show cellsOf _ ⟨a,pre.length+i*4,none⟩ ((ms.length-i)*4)=_;have e2:pre.length+i*4+(ms.length-i)*4<=(pre++bd ms++pad).toArray.size:=by simp[pq];omega
    simp only[cellsOf,h3,true_and,if_pos e2];congr 1;apply Array.ext';rw[eL];have e3:pre.length+i*4=(pre++bd (ms.take i)).length:=by rw[List.length_append,eT];omega
    have e4:(ms.length-i)*4=(bd (ms.drop i)).length:=by rw[eD];omega
    rw[e3,e4];simp
   ·simp[pq];omega
   ·exact SO _
   have s1:(pre++bd ms++pad).take (pre.length+(i+1)*4)++bd (ms.drop i)++(pre++bd ms++pad).drop (pre.length+(i+1)*4+(bd (ms.drop i)).length)=(pre++bd (ms.take i))++(Y.take 4++bd (ms.drop i)++Y.drop (4+(bd (ms.drop i)).length)):=by
    rw[eL,<-hY];have e5:(pre++bd (ms.take i)).length=pre.length+i*4:=by rw[List.length_append,eT];omega
    have e6:(pre++bd (ms.take i)++Y.take 4).length=pre.length+(i+1)*4:=by rw[List.length_append,e5,List.length_take,FL];omega
    have e7:pre++bd (ms.take i)++Y=(pre++bd (ms.take i)++Y.take 4)++Y.drop 4:=ak;rw[e7,Mw e6,List.drop_drop];simp
   rw[s1];refine fL ?_;refine ag ?_;refine⟨aa,?_⟩;refine aH pX ?_;have e4:m.vals.length=4:=rfl;refine Fy iH (b:=a) (off:=pre.length+i*4) (k:=1) (dl:=ms.length+1-i) (dc:=cap-i) (new:=m.vals) (L:=(pre++bd (ms.take i))++(Y.take 4++bd (ms.drop i)++Y.drop (4+(bd (ms.drop i)).length))) (e:=193) ?_ ?_ ?_ aT ?_ ?_ ?_
   ·exact aP pX
   ·exact au
   ·have e:Nat.min 1 (ms.length+1-i)=1:=by show min _ _=_;omega
    refine aH e ?_;show cellsOf _ ⟨bn,0,none⟩ 4=_;simp[cellsOf,Hp.ay GZ,cE,aQ.vals]
   ·simp only[List.length_append,List.length_take,List.length_drop,eT,eD,FL,e4];omega
   ·simp[aQ.vals,di]
   have s2:((pre++bd (ms.take i))++(Y.take 4++bd (ms.drop i)++Y.drop (4+(bd (ms.drop i)).length))).take (pre.length+i*4)++m.vals++((pre++bd (ms.take i))++(Y.take 4++bd (ms.drop i)++Y.drop (4+(bd (ms.drop i)).length))).drop (pre.length+i*4+m.vals.length)=pre++bd (ms.take i++m::ms.drop i)++Y.drop (4+(bd (ms.drop i)).length):=by
    have e5:(pre++bd (ms.take i)).length=pre.length+i*4:=by rw[List.length_append,eT];omega
    have e6:(Y.take 4).length=4:=by rw[List.length_take,FL];omega
    rw[Mw e5,e4,List.append_assoc (Y.take 4),List.drop_left' e6,eR];simp
   rw[s2,Hp.set_set];refine ag ?_;refine al aG ao ⟨_,a,_,rfl,.inr ⟨_,_,_,_,rfl,h3⟩,⟨_,rfl⟩,λR fF=>?_,Hp.le_refl _⟩;have el:ms.length+1=(ms.take i++m::ms.drop i).length:=by simp;omega
   have:=gz.at (U:=R) (ms:=ms.take i++m::ms.drop i) a pre (Y.drop (4+(bd (ms.drop i)).length)) cap (by rw[<-el];omega) (by rw[<-el,List.length_drop,FL,eD];omega) fF;simp[up,el];simpa using this
def Oh(i:Nat)(hi:i=(ms.takeWhile λx=>decide (x.seq<m.seq)).length):iR ms m=ms.take i++{m with again:=true}::ms.drop i:=by
 have h1:=List.takeWhile_append_dropWhile (p:=λx:aQ=>decide (x.seq<m.seq)) (l:=ms);unfold iR
 have e1:ms.take i=ms.takeWhile λx=>decide (x.seq<m.seq):=by
  conv=>lhs;rw[<-h1]
  rw[hi,List.take_left' rfl]
 have e2:ms.drop i=ms.dropWhile λx=>decide (x.seq<m.seq):=by
  conv=>lhs;rw[<-h1]
  rw[hi,List.drop_left' rfl]
 rw[e1,e2]
def OQ(hm:gz U ms v)(hn:ms.length<=1000000):
 aw E 227 #[v] U λe R=>∃rv,e=.returned rv/\gz R ms rv/\U.le R/\∀a off n c,rv=.slice (some ⟨a,off,none⟩) n c->U.f a=none/\∃o,R.f a=some o:=by
 refine(Z7 hm hn).mono ?_;rintro e R ⟨rv,rfl,h⟩;refine⟨rv,rfl,?_⟩;rcases h with⟨rfl,rfl,rfl⟩|⟨a,c,pad,rfl,h1,h2,h3,h4,h5⟩
 ·exact⟨.none rfl,Hp.le_refl _,λa off n c h=>by simp at h⟩
 ·refine⟨?_,h5,λa' off n c' h=>?_⟩
  ·exact .at a [] pad c h2 h3 (h4 _ _ (by rw[Hp.bD];simp))
  ·simp only[Value.slice.injEq,Option.some.injEq,Addr.mk.injEq]at h;obtain⟨⟨rfl,_⟩,_⟩:=h;exact⟨h1,_,h4 _ _ aT⟩
def Og{q:Nat}{o oq Tx:Obj}{R dA:Hp}(hq:U.f q=some oq)(ha:U.f a=none)(h1:U.le R)(h2:(R.set a o).le dA):((U.set a o).set q Tx).le (dA.set q Tx):=by
 refine gG (λx p hx=>?_) _ _;by_cases e:x=a
 ·subst e;rw[Hp.bD]at hx;exact h2 _ _ (by rw[Hp.bD];exact hx)
 ·rw[Hp.ay e]at hx;exact h2 _ _ (by rw[Hp.ay e];exact h1 _ _ hx)
def XB{q:Nat}{rv cons:Value}{name:List UInt8}{held last:Int}(hq:U.f q=some (fy name rv held last cons))(hm:gz U ms rv)(hn:ms.length<=1000000)(hs:ms.Pairwise λa b=>a.seq<b.seq):
 aw E 187 #[pV q,m.v] U λe R=>e=.returned (.tuple #[])/\∃iU a o,U.f a=none/\(∃z,o=.cells z 193 (0,0))/\(∀bY:Hp,bY.f a=some o->gz bY (iR ms m) iU)/\((U.set a o).set q (fy name iU held last cons)).le R:=by
 refine aX func187 ntmps187 results187 λQ aB al az=>?_;obtain⟨base,cap,rfl⟩:=hm.shape;simp only[fy]at hq;simp only[go_sem,seval,aQ.v];refineλb hb=>?_;have n1:∀{x o},U.f x=some o->¬x=b:=λh e=>by subst e;rw[hb]at h;cases h
 refine ag ?_;rw[Hp.set_set];have jh:∀o,(U.set b o).f q=_:=λo=>(Hp.ay (n1 hq)).trans hq;have kr:∀o,U.le (U.set b o):=λo=>kz hb;refine bJ 12 ?_;refine aH jh ?_;refine dI acP (Ys (hm.le (kr _)) hn hs) ?_ (λch ae ⟨⟨_,h⟩,_⟩=>by cases h);rintro v R ⟨⟨bb,hv⟩,nZ⟩;obtain⟨i,hi⟩:∃i,i=(ms.takeWhile λx=>decide (x.seq<m.seq)).length:=⟨_,rfl⟩;obtain rfl:v=.tuple #[iV i,.bool bb]:=by rw[hi];injection hv
 have sJ:i<=ms.length:=by rw[hi];exact(List.takeWhile_sublist _).length_le
 have gB:=nZ _ _ (jh _);refine⟨dL jh,?_⟩;refine ag ?_;have dh:=nZ _ _ (Hp.bD (U:=U) b _);refine MZ 5 8 [0,1,2,3,4,6,7,5,8,9,10,11,12] [0,1,2,3,4,6,7,8,5,9,10,11,12] (λ_ _ _=>False) ah kE (λ_ _ _ _ h=>h.elim) ?_ ?_<;>simp only[ig,List.modify_toArray,List.modify_succ_cons,List.modify_zero_cons]
 ·refine bq gB dh ?_;refine aJ (OQ (hm.le (Hp.le_trans (kr _) nZ)) hn) ?_;rintro v dv ⟨rv,hv,yY,qI,gU⟩
  cases hv
  have lM:=qI _ _ gB;have gS:=qI _ _ dh;refine⟨dL gS,?_⟩;refine ag ?_;refineλbn cE=>?_;have n7:∀o,dv.le (dv.set bn o):=λo=>kz cE;have Dr:=λo=>n7 o _ _ lM;have yN:=λo=>n7 o _ _ gS;refine⟨iP Dr yN,?_⟩;refine ag ?_;refine aJ (R6 (m:={m with again:=true}) (i:=i) (yY.le (n7 _)) hn aT sJ (λoff n c h=>?_)) ?_
  ·obtain⟨_,o,ho⟩:=gU _ _ _ _ h;rw[cE]at ho;cases ho
  rintro v dA ⟨iU,a,o,hv,h1,h2,h3,h4⟩
  cases hv
  have yU:U.le R:=Hp.le_trans (kr _) nZ
  have yM:U.f a=none:=by
   cases hs:U.f a with
   |none=>rfl
   |some p=>
    rcases h1 with h1|⟨off,n,c,z,h1,_⟩
    ·rw[n7 _ _ _ (qI _ _ (yU _ _ hs))]at h1;cases h1
    ·have:=(gU _ _ _ _ h1).1;rw[yU _ _ hs]at this;cases this
  have vH:dA.f q=_:=h4 _ _ ((Hp.ay (bh hq yM)).trans (Dr _));obtain⟨b',c',KN⟩:=(h3 (U.set a o) aT).shape;subst KN;refine⟨dL vH,?_⟩;refine aH vH ?_;refine⟨dL vH,?_⟩;refine aB dB ao ⟨rfl,_,a,o,yM,h2,λbY fF=>?_,Og hq yM (Hp.le_trans yU (Hp.le_trans qI (n7 _))) h4⟩;rw[Oh i hi];exact h3 bY fF
 ·refine bq gB dh ?_;refineλbn cE=>?_;have n7:∀o,R.le (R.set bn o):=λo=>kz cE;have Dr:=λo=>n7 o _ _ gB;have yN:=λo=>n7 o _ _ dh;refine⟨dL Dr,?_⟩;refine ag ?_;refine aJ (OQ (hm.le (Hp.le_trans (Hp.le_trans (kr _) nZ) (n7 _))) hn) ?_;rintro v dv ⟨rv,hv,yY,qI,gU⟩
  cases hv
  have lM:=qI _ _ (Dr _);have gS:=qI _ _ (yN _);refine⟨iP lM gS,?_⟩;refine ag ?_;refine aJ (R6 (m:={m with again:=true}) (i:=i) yY hn (qI _ _ aT) sJ (λoff n c h=>?_)) ?_
  ·have:=(gU _ _ _ _ h).1;rw[Hp.bD]at this;cases this
  rintro v dA ⟨iU,a,o,hv,h1,h2,h3,h4⟩
  cases hv
  have yU:U.le R:=Hp.le_trans (kr _) nZ
  have yM:U.f a=none:=by
   cases hs:U.f a with
   |none=>rfl
   |some p=>
    rcases h1 with h1|⟨off,n,c,z,h1,_⟩
    ·rw[qI _ _ (n7 _ _ _ (yU _ _ hs))]at h1;cases h1
    ·have:=(gU _ _ _ _ h1).1;rw[n7 _ _ _ (yU _ _ hs)]at this;cases this
  have vH:dA.f q=_:=h4 _ _ ((Hp.ay (bh hq yM)).trans lM);obtain⟨b',c',KN⟩:=(h3 (U.set a o) aT).shape;subst KN;refine⟨dL vH,?_⟩;refine aH vH ?_;refine⟨dL vH,?_⟩;refine aB dB ao ⟨rfl,_,a,o,yM,h2,λbY fF=>?_,Og hq yM (Hp.le_trans yU (Hp.le_trans (n7 _) qI)) h4⟩;rw[Oh i hi];exact h3 bY fF
section
variable {c:Nat}{v:Value}
variable {α:Type}[DecidableEq α]{l:List (α×Value×Nat)}{kv:List (α×Value)}{k:α}
abbrev uD (l:List (α×Value×Nat)):List (α×Value):=l.map λe=>(e.1,e.2.1)
def rP (o:pE l c)(p:(uD l).Perm kv)(h:(k,v)∈kv):∃st,dt l k=some (k,v,st):=by
 obtain⟨e,he,h2⟩:=List.mem_map.1 (p.mem_iff.2 h)
 cases h2
 refine⟨e.2.2,?_⟩;unfold dt;rw[List.find?_eq_some_iff_append];obtain⟨s,t,bt⟩:=List.append_of_mem he;refine⟨ak,s,t,bt,λa ha=>?_⟩;have hu:=o.uniq;unfold jI at hu;rw[bt,List.map_append,List.nodup_append]at hu;simpa usingλe2=>hu.2.2 _ (List.mem_map_of_mem ha) _ ak e2
def map_none (p:(uD l).Perm kv)(h:∀e∈kv,e.1≠k):dt l k=none:=by unfold dt;rw[List.find?_eq_none];intro e he;have:(e.1,e.2.1)∈kv:=p.mem_iff.1 (List.mem_map_of_mem he);simpa using h _ this
def D7 (o:pE l c)(p:(uD l).Perm kv)(h:∀e∈kv,e.1≠k)(v:Value):pE (jk l k v c) (jB l k c)/\(uD (jk l k v c)).Perm ((k,v)::kv):=by
 have hn:=map_none p h;simp only[jk,jB,hn,Option.isSome_none,Bool.false_eq_true,if_false];refine⟨⟨?_,?_,?_⟩,?_⟩
 ·have hu:=o.uniq;unfold jI at hu|-;rw[List.map_append,List.nodup_append];refine⟨hu,ak,?_⟩;intro a ha b hb;obtain⟨e,he,rfl⟩:=List.mem_map.1 ha;simp only[List.map_cons,List.map_nil,List.mem_singleton]at hb;subst hb;exact h _ (p.mem_iff.1 (List.mem_map_of_mem he))
 ·intro e he;rcases List.mem_append.1 he with he|he
  ·have:=o.old e he;omega
  ·simp only[List.mem_singleton]at he;subst he;simp
 ·rw[List.map_append,List.nodup_append];refine⟨o.nd,ak,?_⟩;intro a ha b hb;obtain⟨e,he,rfl⟩:=List.mem_map.1 ha;simp only[List.map_cons,List.map_nil,List.mem_singleton]at hb;subst hb;have:=o.old e he;omega
 ·simp only[uD,List.map_append,List.map_cons,List.map_nil];exact List.perm_append_comm.trans (p.cons _)
def D6 (o:pE l c)(p:(uD l).Perm kv)(k:α):pE (rQ l k) c/\(uD (rQ l k)).Perm (kv.filter λe=>decide (e.1≠k)):=by
 refine⟨⟨?_,λe he=>o.old e (List.mem_filter.1 he).1,?_⟩,?_⟩
 ·exact List.Nodup.sublist (List.Sublist.map _ List.filter_sublist) o.uniq
 ·exact List.Nodup.sublist (List.Sublist.map _ List.filter_sublist) o.nd
 ·have e1:uD (rQ l k)=(uD l).filter λe=>decide (e.1≠k):=by unfold rQ uD;rw[List.filter_map];rfl
  rw[e1];exact p.filter _
end
def ajg{c:Nat}:pE ([]:List (α×Value×Nat)) c:=⟨by simp[jI],ak,ak⟩
section
variable {E:Env prog}{U:Hp}{c:Nat}{v:Value}{H:Hid}{n:N}{X:Ext}{no:Nat}{h:HN}{nm:List UInt8}{q:QN}{m:aQ}{tag:Nat}{back:Bool}
variable {A:Lay}{id:Int}
def apP (f:Nat×(List UInt8×aQ)->Value)(un:List (Nat×(List UInt8×aQ))):((un.map λe=>((e.1:Int),f e)).filter λe=>decide (e.1≠(tag:Int)))=(cH un tag).map λe=>((e.1:Int),f e):=by unfold cH;rw[List.filter_map];congr 1;apply List.filter_congr;intro e _;simp only[Function.comp,decide_eq_decide];omega
def Oi {ms:List aQ}{rv:Value}{b:Nat}{o:Obj}(ho:∀bY:Hp,bY.f b=some o->gz bY ms rv)(tU:ms≠[]):kJ rv=false/\pG rv=b/\oB (.eQ rv ms) o:=by
 have h:=ho ⟨λx=>if x=b then some o else none⟩ ak
 cases h with
 |none e=>exact absurd e tU
 |«at»a pre pad c h1 h2 h3=>
  by_cases e:a=b
  ·subst e;simp only[if_true,Option.some.injEq]at h3;exact⟨rfl,rfl,a,pre,pad,c,rfl,h1,h2,h3⟩
  ·simp[e]at h3
def Uu (a:aq A H n X U)(hh:n.h? id no=some h)(hu:bw h.un tag=some (nm,m))(hq:n.q? nm=some q)(b1:1<=q.held/\q.held<=1000000)(b2:q.ready.length<=1000000)(hs:q.ready.Pairwise λa b=>a.seq<b.seq):
 aw E 142 #[pV (A.chan id no),iV tag,.bool back] U λe R=>e=.returned (.tuple #[])/\At A (n.settle id no tag back) X R:=by
 refine aX func142 ntmps142 results142 λQ aB al az=>?_;obtain⟨l,c,fI,gX,iq⟩:=a.un hh;obtain⟨st,hf⟩:=rP gX iq (List.mem_map_of_mem (f:=λe:Nat×(List UInt8×aQ)=>((e.1:Int),tQ (A.queue e.2.1) e.2.2)) (gI hu));have wh:IntKind.i64.wrap (q.held-1)=q.held-1:=wrap64 aa aa;refine aH (a.bV hh) ?_;refine jU (b:=A.un id no) (k:=(tag:Int)) (l:=l) (c:=c) A8 (z:=.agg #[.pointer none,iV 0,sV [],sV [],.bool false]) ah ?_ fI ?_ ?_
 ·exact au
 ·exact au
 have dr:((dt l (tag:Int)).map (·.2.1)).getD (.agg #[.pointer none,iV 0,sV [],sV [],.bool false])=.agg #[pV (A.queue nm),iV m.seq,sV m.key,sV m.body,.bool m.again]:=by rw[hf];rfl
 rw[if_neg Bool.false_ne_true,dr];refine ag ?_;refineλb6 nV=>?_;refine ag ?_;rw[Hp.set_set];have a6:=λo=>a.iE nV o;have h6:=λo=>(a6 o).bV hh;obtain⟨d1,d2⟩:=D6 gX iq (tag:Int);refine aH h6 ?_;refine Cg (b:=A.un id no) (k:=(tag:Int)) (l:=l) (c:=c) A8 gX.uniq ?_ (kz nV _ _ fI) ?_ ?_
 ·exact au
 ·exact au
 have a7:=λo=>(a6 o).Us hh (λh=>{h with un:=cH h.un tag}) rfl rfl (o:=aU aW (rQ l tag) c) ⟨_,_,rfl,d1,by simp only;rw[<-apP (tag:=tag) (f:=λe=>tQ (A.queue e.2.1) e.2.2)];exact d2⟩;have x7:=λo=>(a7 o).ei;have Rx:(n.bA id no λh=>{h with un:=cH h.un tag}).q? nm=some q:=hq;have q7:=λo=>(a7 o).th Rx;simp only at x7;have a8:=λo=>(a7 o).Hk Rx (λq=>{q with held:=q.held-1}) rfl rfl;have x8:=λo=>(a8 o).ei;simp only[fy]at x8;refine bR x7 q7 wh ?_
 have es:n.settle id no tag back=((n.bA id no λh=>{h with un:=cH h.un tag}).bF nm λq=>{q with held:=q.held-1}).bF nm λq=>{q with ready:=if back then iR q.ready m else q.ready}:=by unfold N.settle;rw[hh];simp only[Option.bind_some,hu];rw[EM]
 cases back with
 |false=>
  refine ag ?_;refine aB dB ao ⟨rfl,H,?_⟩;rw[es];simp only[Bool.false_eq_true,if_false];rw[ap1];exact(a8 _).oL
 |true=>
  refine aH x8 ?_;have Ds:((n.bA id no λh=>{h with un:=cH h.un tag}).bF nm λq=>{q with held:=q.held-1}).q? nm=some {q with held:=q.held-1}:=by simp[hq]
  refine aJ (XB (m:=m) ((a8 _).queue Ds) ((a8 _).eQ Ds) b2 hs) ?_;rintro v R ⟨hv,iU,b,o,hb,⟨z,hz⟩,ho,hle⟩
  cases hv
  refine ag ?_;refine aB dB ao ⟨rfl,H.jC nm iU,?_⟩;obtain⟨_,k2,k3⟩:=Oi ho (by simp[iR]);rw[es];exact(((a8 _).Mk Ds (λq=>{q with ready:=iR q.ready m}) rfl (Hl.tC (a8 _) (.eQ nm) hb) (o:=o) (rv:=iU) k3 k2).le hle).oL
end
variable {β:Type}{l:List (α×β)}
def G2(nd:(l.map (·.1)).Nodup){j:Nat}(hj:j<l.length):∀e∈l.take j,¬e.1=l[j].1:=by intro e he hx;obtain⟨i,hi,rfl⟩:=List.getElem_of_mem he;rw[List.length_take]at hi;rw[List.getElem_take]at hx;have h1:(l.map (·.1))[i]'(by simp;omega)=(l.map (·.1))[j]'(aV hj):=aV hx;exact(List.pairwise_iff_getElem.1 nd) i j (by simp;omega) (aV hj) aa h1
def SI{x:aQ}{atA:List aQ}:iR (x::atA) m=if x.seq<m.seq then x::iR atA m else{m with again:=true}::x::atA:=by unfold iR;by_cases h:x.seq<m.seq<;>simp[h,List.takeWhile_cons,List.dropWhile_cons]
def SH {a b:aQ}(h:a.seq≠b.seq):∀atA:List aQ,iR (iR atA a) b=iR (iR atA b) a
 |[]=>by
  show iR [_] b=iR [_] a;simp only[SI]
  (repeat' split)<;>first|rfl|omega
 |x::atA=>by
  have ih:=SH h atA;simp only[SI,ih,apply_ite λl=>iR l a,apply_ite λl=>iR l b]
  (repeat' split)<;>first|rfl|omega
def V9 [DecidableEq α]{k k':α}(h:k≠k')(f g:β->β):dw (dw l k f) k' g=dw (dw l k' g) k f:=by
 unfold dw;rw[List.map_map,List.map_map];refine List.map_congr_left λe _=>?_;by_cases h1:e.1=k<;>by_cases h2:e.1=k'<;>simp[h1,h2]
 all_goals first|exact absurd (h1.symm.trans h2) h|simp_all
def tA(l:List (Nat×(List UInt8×aQ))):Prop:=∀e∈l,∀f∈l,e.1≠f.1->e.2.1=f.2.1->e.2.2.seq≠f.2.2.seq
section
variable {n:N}{no:Nat}{h:HN}{q:QN}{m:aQ}
variable {id:Int}
def an0 (n:N)(id:Int)(no t:Nat)(b:Bool):n.settle id no t b=n\/∃h e,n.h? id no=some h/\bw h.un t=some e/\n.settle id no t b=(n.bA id no λh=>{h with un:=cH h.un t}).bF e.1 λq=>{q with held:=q.held-1,ready:=if b then iR q.ready e.2 else q.ready}:=by
 unfold N.settle
 cases hh:n.h? id no with
 |none=>exact .inl rfl
 |some h=>cases hu:bw h.un t with
  |none=>simp[hu]
  |some e=>exact .inr ⟨h,e,rfl,hu,by simp[hu]⟩
def anZ {t u:Nat}{b:Bool}(D:∀h,n.h? id no=some h->tA h.un):(n.settle id no t b).settle id no u b=(n.settle id no u b).settle id no t b:=by
 by_cases AY:t=u
 ·rw[AY]
 have S:∀{m:N} {t:Nat} {h:HN} {e},m.h? id no=some h->bw h.un t=some e->m.settle id no t b=(m.bA id no λh=>{h with un:=cH h.un t}).bF e.1 λq=>{q with held:=q.held-1,ready:=if b then iR q.ready e.2 else q.ready}:=λh1 h2=>by unfold N.settle;rw[h1];simp[h2]
 have Z:∀{m:N} {t:Nat} {h:HN},m.h? id no=some h->bw h.un t=none->m.settle id no t b=m:=λh1 h2=>by unfold N.settle;rw[h1];simp[h2]
 cases hh:n.h? id no with
 |none=>unfold N.settle;simp[hh]
 |some h=>
  have A:∀{t:Nat} {w:List UInt8} {g:QN->QN},((n.bA id no λh=>{h with un:=cH h.un t}).bF w g).h? id no=some {h with un:=cH h.un t}:=λ{t w g}=>by show(n.bA id no λh=>{h with un:=cH h.un t}).h? id no=_;rw[jN,if_pos ⟨rfl,rfl⟩,hh];rfl
  have aty:∀{t u:Nat},t≠u->bw (cH h.un t) u=bw h.un u:=λh=>by rw[BX,if_neg λe=>h e.symm]
  cases ht:bw h.un t with
  |none=>rw[Z hh ht];cases hu:bw h.un u with
   |none=>rw[Z hh hu,Z hh ht]
   |some f=>rw[S hh hu,Z A (show bw (cH h.un u) t=none by rw[aty λe=>AY e.symm,ht])]
  |some e=>cases hu:bw h.un u with
   |none=>rw[Z hh hu,S hh ht,Z A (show bw (cH h.un t) u=none by rw[aty AY,hu])]
   |some f=>
    rw[S hh ht,S hh hu,S A (show bw (cH h.un t) u=some f by rw[aty AY,hu]),S A (show bw (cH h.un u) t=some e by rw[aty λe=>AY e.symm,ht])];have c1:∀{m:N} {w:List UInt8} {g:QN->QN} {k:HN->HN},(m.bF w g).bA id no k=(m.bA id no k).bF w g:=rfl
    have c3:((n.bA id no λh=>{h with un:=cH h.un t}).bA id no λh=>{h with un:=cH h.un u})=(n.bA id no λh=>{h with un:=cH h.un u}).bA id no λh=>{h with un:=cH h.un t}:=by rw[MU,MU];congr 1;funext h;simp only[HN.mk.injEq,true_and,and_true];unfold cH;rw[List.filter_filter,List.filter_filter];congr 1;funext x;exact Bool.and_comm _ _
    rw[c1,c1,c3];by_cases hq:e.1=f.1
    ·rw[hq,EM,EM];congr 1;funext q;have:=D h hh _ (gI ht) _ (gI hu) AY hq
     cases b
     ·rfl
     ·simp only[if_true,SH this]
    ·unfold N.bF;simp only[V9 hq]
def anS {t:Nat}{b:Bool}(D:∀h,n.h? id no=some h->tA h.un):∀h,(n.settle id no t b).h? id no=some h->tA h.un:=by
 rcases an0 n id no t b with e|⟨g,e,hg,_,hs⟩
 ·rw[e];exact D
 ·intro h hh;rw[hs]at hh;have:=jN (n:=n) (id:=id) (no:=no) (aI:=id) (dE:=no) (g:=λh=>{h with un:=cH h.un t});rw[if_pos ⟨rfl,rfl⟩,hg]at this
  cases hh.symm.trans this
  exactλe he f hf=>D _ hg e (List.mem_filter.1 he).1 f (List.mem_filter.1 hf).1
def Ut {p:Nat->Bool}{b:Bool}{l m:List (Nat×(List UInt8×aQ))}(hp:l.Perm m):∀{n:N},(∀h,n.h? id no=some h->tA h.un)->n.jD id no p b l=n.jD id no p b m:=by
 have step:∀{n:N} {e:Nat×(List UInt8×aQ)},(∀h,n.h? id no=some h->tA h.un)->∀h,(if p e.1 then n.settle id no e.1 b else n).h? id no=some h->tA h.un:=λD=>by split;exact anS D;exact D
 induction hp with
 |nil=>intro n _;rfl
 |cons e _ ih=>intro n D;exact ih (step D)
 |swap e f l=>
  intro n D;show List.foldl _ _ l=List.foldl _ _ l;congr 1;by_cases h1:p e.1=true<;>by_cases h2:p f.1=true<;>simp only[h1,h2,if_true,if_false,Bool.false_eq_true];exact anZ D
 |trans _ _ i j=>intro n D;rw[i D,j D]
end
end Go.Qw
