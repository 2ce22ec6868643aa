/- 18 -/
import Derived.Test.YtpiabknabfbfhaaGreatDoorFramed17
set_option linter.all false
set_option maxRecDepth 100000
set_option maxHeartbeats 8000000
namespace Go.Qw
open Go Go.Conc Go.Proofs Go.Proofs.Tryz
variable {U:Hp}{o:Obj}
def Hp.Ml{b:Nat}(h:U.f b=some o):U.set b o=U:=Hp.ext' λx=>by
 by_cases e:x=b
 ·subst e;rw[Hp.bD,h]
 ·rw[Hp.aM _ e]
structure yj {κ:Type} (lt:κ->κ->Bool):Prop where
 trans:∀{a b c},lt b a=false->lt c b=false->lt c a=false
 asym:∀{a b},lt a b=true->lt b a=false
def dP{κ:Type}(lt:κ->κ->Bool)(l:List κ):Prop:=l.Pairwise λa b=>lt b a=false
structure Down {κ:Type} (lt:κ->κ->Bool) (A:List κ) (x:κ) (B:List κ):Prop where
 jq:dP lt (A++B)
 le:∀b∈B,lt b x=false
section
variable {κ:Type}{lt:κ->κ->Bool}{x:κ}{y:κ}
variable {A B:List κ}
def Down.start (h:dP lt A):Down lt A x []:=⟨aV h,ak⟩
def Down.step (L:yj lt)(h:Down lt (A++[y]) x B)(hl:lt x y=true):Down lt A x (y::B):=by
 refine⟨by have:=h.jq;simpa using this,λb hb=>?_⟩;rcases List.mem_cons.1 hb with rfl|hb
 ·exact L.asym hl
 ·exact h.le b hb
def Down.IQ (h:Down lt [] x B):dP lt (x::B):=by refine List.pairwise_cons.2 ⟨h.le,by simpa[dP]using h.jq⟩
def Down.IS (L:yj lt)(h:Down lt (A++[y]) x B)(hl:lt x y=false):dP lt (A++[y]++x::B):=by
 have hs:=h.jq;unfold dP at hs|-;rw[List.pairwise_append]at hs;obtain⟨h1,h2,h3⟩:=hs;have ru:=h1;rw[List.pairwise_append]at ru;rw[List.pairwise_append];refine⟨h1,List.pairwise_cons.2 ⟨h.le,h2⟩,?_⟩;intro a ha b hb;rcases List.mem_cons.1 hb with rfl|hb
 ·rcases List.mem_append.1 ha with dJ|dJ
  ·exact L.trans (ru.2.2 a dJ y ak) hl
  ·simp at dJ;subst dJ;exact hl
 ·exact h3 a ha b hb
end
def jV(a b:Int):Bool:=decide (a<b)
def Ba:yj jV:=⟨by simp only[jV,decide_eq_false_iff_not];omega,by simp only[jV,decide_eq_false_iff_not,decide_eq_true_eq];omega⟩
variable {E:Env prog}{xs:List Int}{blk cap:Nat}{pad:List Value}
def ahz(hb:U.f blk=some (.cells (xs.map aW++pad).toArray 3 (0,0)))(hn:xs.length<=1000000):
 aw E 162 #[.slice (some ⟨blk,0,none⟩) xs.length cap,.int .i64 0,.int .i64 xs.length] U λe R=>e=.returned (.tuple #[])/\∃ys,ys.Perm xs/\dP jV ys/\R=U.set blk (.cells (ys.map aW++pad).toArray 3 (0,0)):=by
 refine aX func162 ntmps162 results162 λQ aB al az=>?_;refine ag ?_;refine cZ (λm I ds ae=>ds=[]/\I 0=.slice (some ⟨blk,0,none⟩) xs.length cap/\I 1=.int .i64 0/\I 2=.int .i64 xs.length/\∃S atA,m=atA.length/\(S++atA).Perm xs/\dP jV S/\(I 6=.int .i64 S.length\/(xs=[]/\S=[]/\I 6=.int .i64 1))/\ae=U.set blk (.cells ((S++atA).map aW++pad).toArray 3 (0,0))) (xs.length-1) ?_ ?_
 ·refine⟨rfl,?_,?_,?_,xs.take 1,xs.drop 1,ak,by rw[List.take_append_drop],?_,?_,?_⟩
  ·exact au
  ·exact au
  ·exact au
  ·cases xs<;>simp[dP]
  ·cases xs with
   |nil=>exact .inr ⟨rfl,rfl,au⟩
   |cons x xs=>refine .inl ?_;simp only[go_sem,seval];rfl
  ·rw[List.take_append_drop,Hp.Ml hb]
 ·rintro m I ds ae X ⟨rfl,h0,h1,h2,S,atA,rfl,hp,hs,h6,rfl⟩ hX;have hlen:=hp.length_eq;rw[List.length_append]at hlen
  cases atA with
  |nil=>
   have c1:∀i:Int,(i=S.length\/(xs=[]/\i=1))->¬i<(xs.length:Int):=by
    rintro i (rfl|⟨rfl,rfl⟩)
    ·simp at hlen;omega
    ·simp
   obtain⟨i,hi,pM⟩:∃i:Int,(i=S.length\/(xs=[]/\i=1))/\I 6=.int .i64 i:=by
    rcases h6 with h6|⟨h,_,h6⟩
    ·exact⟨_,.inl rfl,h6⟩
    ·exact⟨_,.inr ⟨h,rfl⟩,h6⟩
   have c1:=c1 i hi;refine bR h2 pM c1 ?_;exact aB dB ao ⟨rfl,S,aV hp,hs,ak⟩
  |cons x atA=>
   have pM:I 6=.int .i64 S.length:=by
    rcases h6 with h6|⟨h6,_⟩
    ·exact h6
    ·subst h6;simp at hlen
   have c1:(S.length:Int)<xs.length:=by simp at hlen;omega
   refine bR h2 pM c1 ?_;refine cZ (λm I ds ae=>ds=[]/\I 0=.slice (some ⟨blk,0,none⟩) xs.length cap/\I 1=.int .i64 0/\I 2=.int .i64 xs.length/\I 6=.int .i64 S.length/\∃A B,m=A.length/\A.length+B.length=S.length/\(A++x::B++atA).Perm xs/\Down jV A x B/\I 7=.int .i64 A.length/\ae=U.set blk (.cells ((A++x::B++atA).map aW++pad).toArray 3 (0,0))) S.length ?_ ?_
   ·refine⟨rfl,?_,?_,?_,?_,S,[],rfl,ak,aV hp,.start hs,?_,ak⟩<;>exact ic h0 h1 h2 pM
   ·rintro m I ds ae X' ⟨rfl,h0,h1,h2,h6,A,B,rfl,mI,hp,hd,h7,rfl⟩ xc;have gx:((A++x::B++atA).map aW++pad)[A.length]? =some (aW x):=ak;rcases List.eq_nil_or_concat A with rfl|⟨A,y,rfl⟩
    ·have c2:¬((([]:List Int).length:Int)>0):=ak;simp only[List.length_nil]at h7 c2;refine ag ?_;refine bJ 15 ?_;refine bR h1 h6 h7 ?_;have cS:=hd.IQ;refine hX atA.length _ _ _ _ ak ⟨rfl,?_,?_,?_,x::B,atA,rfl,aV hp,cS,.inl ?_,ak⟩ ao
     ·exact aP h0
     ·exact aP h1
     ·exact aP h2
     ·refine ag ?_;rw[wrap64 aa aa];simp at mI;simp[mI]
    ·simp only[List.concat_eq_append]at*;have gx:((A++[y]++x::B++atA).map aW++pad)[(A++[y]).length]? =some (aW x):=by simp[List.getElem?_append_right]
     have gy:((A++[y]++x::B++atA).map aW++pad)[A.length]? =some (aW y):=by simp[List.getElem?_append_right]
     have c2:(((A++[y]).length:Nat):Int)>0:=ak
     have c3:(0:Int)<=(((A++[y]).length:Nat):Int)/\(((A++[y]).length:Nat):Int)<xs.length:=by have:=hp.length_eq;simp at this|-;omega
     have c4:(0:Int)<=(((A++[y]).length:Nat):Int)-1/\(((A++[y]).length:Nat):Int)-1<(xs.length:Int):=by have:=hp.length_eq;simp at this|-;omega
     have c5:IntKind.i64.wrap ((((A++[y]).length:Nat):Int)-1)=(A.length:Int):=by rw[wrap64 ak (by simp at c3|-;omega)];simp
     have c6:(0:Int)<=A.length/\(A.length:Int)<xs.length:=by simp at c4|-;omega
     generalize hL:(A++[y]++x::B++atA).map aW++pad=L at gx gy;generalize hj:(A++[y]).length=j at*;have f1:(U.set blk (.cells L.toArray 3 (0,0))).f blk=some (.cells L.toArray 3 (0,0)):=aT;refine ag ?_;refine bJ 15 ?_;simp only[go_sem,seval,h0,h1,h7,c2,c3,c5,c6,f1,gx,gy];refine bz pf ?_;refine fL ?_
     cases hl:decide (x<y)with
     |false=>
      refine aH h6 ?_;have cS:=hd.IS Ba (show jV x y=false from hl);refine hX atA.length _ _ _ _ ak ⟨rfl,?_,?_,?_,A++[y]++x::B,atA,rfl,aV hp,cS,.inl ?_,by rw[hL]⟩ ao
      ·exact aP h0
      ·exact aP h1
      ·exact aP h2
      ·refine ag ?_;have e1:(A++[y]++x::B).length=S.length+1:=by simp at hj mI|-;omega
       rw[e1,wrap64 aa aa];rfl
     |true=>
      refine ag ?_;refine bJ 18 ?_;have sk:∀x,di (aW x)=true:=λ_=>rfl;have fS:∀o,(U.set blk o).f blk=some o:=λ_=>Hp.bD _ _;have lj:j<L.length:=(List.getElem?_eq_some_iff.1 gx).1;have lA:A.length<L.length:=(List.getElem?_eq_some_iff.1 gy).1;have Sm:A.length<(L.set j (aW y)).length:=by simpa using lA
      simp only[go_sem,seval,h0,h7,c3,c5,c6,fS,gx,gy,sk,lj];refine fL ?_;refine ag ?_;refine⟨lA,?_⟩;refine fL ?_;refine bq h7 c5 ?_
      have e1:(L.set j (aW y)).set A.length (aW x)=(A++x::(y::B)++atA).map aW++pad:=by rw[<-hL,<-hj];simp[List.set_append]
      rw[e1];refine xc A.length _ _ _ _ (by rw[<-hj];simp) ⟨rfl,?_,?_,?_,?_,A,y::B,rfl,by rw[<-hj]at mI;simp at mI|-;omega,?_,hd.step Ba hl,?_,rfl⟩ ao
      ·exact aP h0
      ·exact aP h1
      ·exact aP h2
      ·exact aP h6
      ·refine List.Perm.trans ?_ hp;simp only[List.append_assoc,List.cons_append,List.nil_append];exact List.Perm.append_left _ (List.Perm.swap ..)
      ·exact au
variable {α:Type}
def zt{β:Type}{f:α->β}{ks zs:List β}(h:ks.Perm zs):∀{xs:List α},zs=xs.map f->∃ys:List α,ys.Perm xs/\ks=ys.map f:=by
 induction h with
 |nil=>
  intro xs e
  cases xs with
  |nil=>exact⟨[],.refl _,rfl⟩
  |cons x xs=>cases e
 |cons a h ih=>
  intro xs e
  cases xs with
  |nil=>cases e
  |cons x xs=>
   simp only[List.map_cons,List.cons.injEq]at e;obtain⟨ys,h1,h2⟩:=ih e.2;exact⟨x::ys,h1.cons _,by rw[List.map_cons,h2,e.1]⟩
 |swap a b l=>
  intro xs e
  cases xs with
  |nil=>cases e
  |cons x xs=>
   cases xs with
   |nil=>simp at e
   |cons y xs=>
    simp only[List.map_cons,List.cons.injEq]at e;exact⟨y::x::xs,List.Perm.swap ..,by simp only[List.map_cons];rw[e.1,e.2.1,e.2.2]⟩
 |trans h1 h2 ih1 ih2=>
  intro xs e;obtain⟨ys,k1,k2⟩:=ih2 e;obtain⟨zs,k3,k4⟩:=ih1 k2;exact⟨zs,k3.trans k1,k4⟩
def sm(U R:Hp)(v:Value):Prop:=∀b,(∀a n c,v=.slice (some a) n c->b≠a.block)->R.f b=U.f b
def ahB:aw E 162 #[.slice none 0 0,.int .i64 0,.int .i64 0] U λe R=>e=.returned (.tuple #[])/\R=U:=by
 refine eY func162 ntmps162 results162 rfl ak λQ aB al az=>?_;refine ag ?_;refine cZ (λm I ds ae=>ds=[]/\I 2=.int .i64 0/\I 6=.int .i64 1/\ae=U) 0 ?_ ?_
 ·refine⟨rfl,?_,?_,rfl⟩<;>exact au
 ·rintro m I ds ae X ⟨rfl,h2,h6,rfl⟩ hX;have c:¬(1:Int)<0:=an;refine bR h2 h6 c ?_;exact aB dB ao ⟨rfl,rfl⟩
variable {v:Value}
def ahA(h:Sl 3 U (xs.map aW) v)(hn:xs.length<=1000000):
 aw E 162 #[v,.int .i64 0,.int .i64 xs.length] U λe R=>e=.returned (.tuple #[])/\∃ys,ys.Perm xs/\dP jV ys/\Sl 3 R (ys.map aW) v/\sm U R v:=by
 generalize hk:xs.map aW=ks at h
 cases h with
 |nil h0=>
  have:xs=[]:=by rw[h0]at hk;simpa using hk
  subst this;refine ahB.mono ?_;rintro e R ⟨rfl,rfl⟩;exact⟨rfl,[],.refl _,.nil,.nil rfl,λ_ _=>rfl⟩
 |«at»a pad ha=>
  have hl:ks.length=xs.length:=by rw[<-hk];simp
  rw[hl];refine(ahz (cap:=xs.length+pad.length) (pad:=pad) (by rw[hk];exact ha) hn).mono ?_;rintro e R ⟨rfl,ys,h1,h2,rfl⟩;refine⟨rfl,ys,h1,h2,?_,?_⟩
  ·have:=Sl.at (ety:=3) (U:=U.set a (.cells (ys.map aW++pad).toArray 3 (0,0))) (xs:=ys.map aW) a pad aT;have e:(ys.map aW).length=xs.length:=by simpa using h1.length_eq
   rw[e]at this;exact this
  ·intro b hb;exact Hp.aM _ (hb _ _ _ rfl)
def alD{k:Int}(h:Sl 3 U (xs.map aW) v)(hn:xs.length<=12):
 aw E 134 #[v,.int .i64 0,.int .i64 xs.length,.int .i64 k] U λe R=>e=.returned (.tuple #[])/\∃ys,ys.Perm xs/\dP jV ys/\Sl 3 R (ys.map aW) v/\sm U R v:=by
 refine aX func134 ntmps134 results134 λQ aB al az=>?_;refine ag ?_;refine cZ (λm I ds ae=>ds=[]/\I 0=v/\I 1=.int .i64 0/\I 2=.int .i64 xs.length/\ae=U) 0 ?_ ?_
 ·refine⟨rfl,?_,?_,?_,rfl⟩<;>exact au
 ·rintro m I ds ae X ⟨rfl,h0,h1,h2,rfl⟩ hX;have c:(xs.length:Int)<=12:=aa;have c0:IntKind.i64.wrap ((xs.length:Int)-0)=xs.length:=by rw[Int.sub_zero];exact wrap64 aa aa
  refine ln h0 h1 h2 c0 c ?_;refine aJ (ahA h aa) ?_;rintro w R ⟨hw,fC⟩
  cases hw
  refine ag ?_;exact al dB ao ⟨rfl,fC⟩
variable {f:FuncId}{pick:α×Value×Nat->Value}{key:α->Value}{tc:TypeId}{bm m c:Nat}{l:List (α×Value×Nat)}
def aaf(hY:Yields f pick key tc)(hg:cq prog f=true)(dK:U.f bm=some (.cells #[.map (some m)] tc (0,0)))(hm:U.f m=some (aU key l c))(hold:∀e∈l,e.2.2<c)(hn:(l.map (·.2.2)).Nodup)(fR:l.length<=1000000)(kI:∀e∈l,di (pick e)=true):
 aw E 80 #[.func (.func f) #[] #[pV bm]] U λe R=>U.le R/\∃v ks,e=.returned v/\ks.Perm (l.map pick)/\Sl 3 R ks v/\∀a n c,v=.slice (some a) n c->U.f a.block=none:=by
 refine aX func80 ntmps80 results80 λQ aB al az=>?_;refine ag ?_;refine aJ (Iv .Y1 hY hg dK hm hold hn fR kI) ?_;rintro v R ⟨hle,v',ks,hv,h1,h2,h3⟩
 cases hv
 refine ag ?_;exact al aG ao ⟨hle,v,ks,rfl,h1,h2,h3⟩
abbrev cN(a b:List UInt8):Bool:=Op.bytesLess a b
def SA{a b:UInt8}:a<b↔a.toNat<b.toNat:=UInt8.lt_iff_toNat_lt
def vW:yj cN:=by
 have cc:∀(x y:UInt8) (a b:List UInt8),cN (x::a) (y::b)=(decide (x<y)||(x==y&&cN a b)):=λ_ _ _ _=>rfl;have cn:∀a,cN a []=false:=λa=>by cases a<;>rfl
 have nc:∀y b,cN [] (y::b)=true:=λ_ _=>rfl;refine⟨?_,?_⟩
 ·intro a b c
  induction b generalizing a c with
  |nil=>
   intro h1 _
   cases a with
   |nil=>exact cn c
   |cons x a=>rw[nc]at h1;cases h1
  |cons y b ih=>
   intro h1 h2
   cases a with
   |nil=>exact cn c
   |cons x a=>
    cases c with
    |nil=>rw[nc]at h2;cases h2
    |cons z c=>
     rw[cc]at*;simp only[Bool.or_eq_false_iff,decide_eq_false_iff_not,Bool.and_eq_false_iff,beq_eq_false_iff_ne,ne_eq,SA]at*;obtain⟨p1,p2⟩:=h1;obtain⟨q1,q2⟩:=h2;refine⟨aa,?_⟩;by_cases e:z=x
     ·right;subst e;have e2:z=y:=UInt8.toNat_inj.1 aa;subst e2;exact ih (p2.resolve_left ak) (q2.resolve_left ak)
     ·exact .inl e
 ·intro a
  induction a with
  |nil=>intro b h;exact cn b
  |cons x a ih=>
   intro b h
   cases b with
   |nil=>rw[cn]at h;cases h
   |cons y b=>
    rw[cc]at*;simp only[Bool.or_eq_false_iff,Bool.or_eq_true,Bool.and_eq_true,decide_eq_true_eq,decide_eq_false_iff_not,Bool.and_eq_false_iff,beq_iff_eq,beq_eq_false_iff_ne,ne_eq,SA]at*;rcases h with h|⟨rfl,h⟩
    ·exact⟨aa,.inl (λe=>by subst e;omega)⟩
    ·exact⟨aa,.inr (ih h)⟩
variable {xs:List (List UInt8)}
def ahF(hb:U.f blk=some (.cells (xs.map bP++pad).toArray 9 (0,0)))(hn:xs.length<=1000000):
 aw E 256 #[.slice (some ⟨blk,0,none⟩) xs.length cap,.int .i64 0,.int .i64 xs.length] U λe R=>e=.returned (.tuple #[])/\∃ys,ys.Perm xs/\dP cN ys/\R=U.set blk (.cells (ys.map bP++pad).toArray 9 (0,0)):=by
 refine aX func256 ntmps256 results256 λQ aB al az=>?_;refine ag ?_;refine cZ (λm I ds ae=>ds=[]/\I 0=.slice (some ⟨blk,0,none⟩) xs.length cap/\I 1=.int .i64 0/\I 2=.int .i64 xs.length/\∃S atA,m=atA.length/\(S++atA).Perm xs/\dP cN S/\(I 6=.int .i64 S.length\/(xs=[]/\S=[]/\I 6=.int .i64 1))/\ae=U.set blk (.cells ((S++atA).map bP++pad).toArray 9 (0,0))) (xs.length-1) ?_ ?_
 ·refine⟨rfl,?_,?_,?_,xs.take 1,xs.drop 1,ak,by rw[List.take_append_drop],?_,?_,?_⟩
  ·exact au
  ·exact au
  ·exact au
  ·cases xs<;>simp[dP]
  ·cases xs with
   |nil=>exact .inr ⟨rfl,rfl,au⟩
   |cons x xs=>refine .inl ?_;simp only[go_sem,seval];rfl
  ·rw[List.take_append_drop,Hp.Ml hb]
 ·rintro m I ds ae X ⟨rfl,h0,h1,h2,S,atA,rfl,hp,hs,h6,rfl⟩ hX;have hlen:=hp.length_eq;rw[List.length_append]at hlen
  cases atA with
  |nil=>
   have c1:∀i:Int,(i=S.length\/(xs=[]/\i=1))->¬i<(xs.length:Int):=by
    rintro i (rfl|⟨rfl,rfl⟩)
    ·simp at hlen;omega
    ·simp
   obtain⟨i,hi,pM⟩:∃i:Int,(i=S.length\/(xs=[]/\i=1))/\I 6=.int .i64 i:=by
    rcases h6 with h6|⟨h,_,h6⟩
    ·exact⟨_,.inl rfl,h6⟩
    ·exact⟨_,.inr ⟨h,rfl⟩,h6⟩
   have c1:=c1 i hi;refine bR h2 pM c1 ?_;exact aB dB ao ⟨rfl,S,aV hp,hs,ak⟩
  |cons x atA=>
   have pM:I 6=.int .i64 S.length:=by
    rcases h6 with h6|⟨h6,_⟩
    ·exact h6
    ·subst h6;simp at hlen
   have c1:(S.length:Int)<xs.length:=by simp at hlen;omega
   refine bR h2 pM c1 ?_;refine cZ (λm I ds ae=>ds=[]/\I 0=.slice (some ⟨blk,0,none⟩) xs.length cap/\I 1=.int .i64 0/\I 2=.int .i64 xs.length/\I 6=.int .i64 S.length/\∃A B,m=A.length/\A.length+B.length=S.length/\(A++x::B++atA).Perm xs/\Down cN A x B/\I 7=.int .i64 A.length/\ae=U.set blk (.cells ((A++x::B++atA).map bP++pad).toArray 9 (0,0))) S.length ?_ ?_
   ·refine⟨rfl,?_,?_,?_,?_,S,[],rfl,ak,aV hp,.start hs,?_,ak⟩<;>exact ic h0 h1 h2 pM
   ·rintro m I ds ae X' ⟨rfl,h0,h1,h2,h6,A,B,rfl,mI,hp,hd,h7,rfl⟩ xc;have gx:((A++x::B++atA).map bP++pad)[A.length]? =some (bP x):=ak;rcases List.eq_nil_or_concat A with rfl|⟨A,y,rfl⟩
    ·have c2:¬((([]:List (List UInt8)).length:Int)>0):=ak;simp only[List.length_nil]at h7 c2;refine ag ?_;refine bJ 15 ?_;refine bR h1 h6 h7 ?_;have cS:=hd.IQ;refine hX atA.length _ _ _ _ ak ⟨rfl,?_,?_,?_,x::B,atA,rfl,aV hp,cS,.inl ?_,ak⟩ ao
     ·exact aP h0
     ·exact aP h1
     ·exact aP h2
     ·refine ag ?_;rw[wrap64 aa aa];simp at mI;simp[mI]
    ·simp only[List.concat_eq_append]at*;have gx:((A++[y]++x::B++atA).map bP++pad)[(A++[y]).length]? =some (bP x):=by simp[List.getElem?_append_right]
     have gy:((A++[y]++x::B++atA).map bP++pad)[A.length]? =some (bP y):=by simp[List.getElem?_append_right]
     have c2:(((A++[y]).length:Nat):Int)>0:=ak
     have c3:(0:Int)<=(((A++[y]).length:Nat):Int)/\(((A++[y]).length:Nat):Int)<xs.length:=by have:=hp.length_eq;simp at this|-;omega
     have c4:(0:Int)<=(((A++[y]).length:Nat):Int)-1/\(((A++[y]).length:Nat):Int)-1<(xs.length:Int):=by have:=hp.length_eq;simp at this|-;omega
     have c5:IntKind.i64.wrap ((((A++[y]).length:Nat):Int)-1)=(A.length:Int):=by rw[wrap64 ak (by simp at c3|-;omega)];simp
     have c6:(0:Int)<=A.length/\(A.length:Int)<xs.length:=by simp at c4|-;omega
     generalize hL:(A++[y]++x::B++atA).map bP++pad=L at gx gy;generalize hj:(A++[y]).length=j at*;have f1:(U.set blk (.cells L.toArray 9 (0,0))).f blk=some (.cells L.toArray 9 (0,0)):=aT;refine ag ?_;refine bJ 15 ?_;simp only[go_sem,seval,h0,h1,h7,c2,c3,c5,c6,f1,gx,gy];refine bz aiQ ?_;refine fL ?_
     cases hl:Op.bytesLess x y with
     |false=>
      refine aH h6 ?_;have cS:=hd.IS vW (show cN x y=false from hl);refine hX atA.length _ _ _ _ ak ⟨rfl,?_,?_,?_,A++[y]++x::B,atA,rfl,aV hp,cS,.inl ?_,by rw[hL]⟩ ao
      ·exact aP h0
      ·exact aP h1
      ·exact aP h2
      ·refine ag ?_;have e1:(A++[y]++x::B).length=S.length+1:=by simp at hj mI|-;omega
       rw[e1,wrap64 aa aa];rfl
     |true=>
      refine ag ?_;refine bJ 18 ?_;have sk:∀x,di (bP x)=true:=λ_=>rfl;have fS:∀o,(U.set blk o).f blk=some o:=λ_=>Hp.bD _ _;have lj:j<L.length:=(List.getElem?_eq_some_iff.1 gx).1;have lA:A.length<L.length:=(List.getElem?_eq_some_iff.1 gy).1;have Sm:A.length<(L.set j (bP y)).length:=by simpa using lA
      simp only[go_sem,seval,h0,h7,c3,c5,c6,fS,gx,gy,sk,lj];refine fL ?_;refine ag ?_;refine⟨lA,?_⟩;refine fL ?_;refine bq h7 c5 ?_
      have e1:(L.set j (bP y)).set A.length (bP x)=(A++x::(y::B)++atA).map bP++pad:=by rw[<-hL,<-hj];simp[List.set_append]
      rw[e1];refine xc A.length _ _ _ _ (by rw[<-hj];simp) ⟨rfl,?_,?_,?_,?_,A,y::B,rfl,by rw[<-hj]at mI;simp at mI|-;omega,?_,hd.step vW hl,?_,rfl⟩ ao
      ·exact aP h0
      ·exact aP h1
      ·exact aP h2
      ·exact aP h6
      ·refine List.Perm.trans ?_ hp;simp only[List.append_assoc,List.cons_append,List.nil_append];exact List.Perm.append_left _ (List.Perm.swap ..)
      ·exact au
def ahH:aw E 256 #[.slice none 0 0,.int .i64 0,.int .i64 0] U λe R=>e=.returned (.tuple #[])/\R=U:=by
 refine eY func256 ntmps256 results256 rfl ak λQ aB al az=>?_;refine ag ?_;refine cZ (λm I ds ae=>ds=[]/\I 2=.int .i64 0/\I 6=.int .i64 1/\ae=U) 0 ?_ ?_
 ·refine⟨rfl,?_,?_,rfl⟩<;>exact au
 ·rintro m I ds ae X ⟨rfl,h2,h6,rfl⟩ hX;have c:¬(1:Int)<0:=an;refine bR h2 h6 c ?_;exact aB dB ao ⟨rfl,rfl⟩
def ahG(h:Sl 9 U (xs.map bP) v)(hn:xs.length<=1000000):
 aw E 256 #[v,.int .i64 0,.int .i64 xs.length] U λe R=>e=.returned (.tuple #[])/\∃ys,ys.Perm xs/\dP cN ys/\Sl 9 R (ys.map bP) v/\sm U R v:=by
 generalize hk:xs.map bP=ks at h
 cases h with
 |nil h0=>
  have:xs=[]:=by rw[h0]at hk;simpa using hk
  subst this;refine ahH.mono ?_;rintro e R ⟨rfl,rfl⟩;exact⟨rfl,[],.refl _,.nil,.nil rfl,λ_ _=>rfl⟩
 |«at»a pad ha=>
  have hl:ks.length=xs.length:=by rw[<-hk];simp
  rw[hl];refine(ahF (cap:=xs.length+pad.length) (pad:=pad) (by rw[hk];exact ha) hn).mono ?_;rintro e R ⟨rfl,ys,h1,h2,rfl⟩;refine⟨rfl,ys,h1,h2,?_,?_⟩
  ·have:=Sl.at (ety:=9) (U:=U.set a (.cells (ys.map bP++pad).toArray 9 (0,0))) (xs:=ys.map bP) a pad aT;have e:(ys.map bP).length=xs.length:=by simpa using h1.length_eq
   rw[e]at this;exact this
  ·intro b hb;exact Hp.aM _ (hb _ _ _ rfl)
def alH{k:Int}(h:Sl 9 U (xs.map bP) v)(hn:xs.length<=12):
 aw E 240 #[v,.int .i64 0,.int .i64 xs.length,.int .i64 k] U λe R=>e=.returned (.tuple #[])/\∃ys,ys.Perm xs/\dP cN ys/\Sl 9 R (ys.map bP) v/\sm U R v:=by
 refine aX func240 ntmps240 results240 λQ aB al az=>?_;refine ag ?_;refine cZ (λm I ds ae=>ds=[]/\I 0=v/\I 1=.int .i64 0/\I 2=.int .i64 xs.length/\ae=U) 0 ?_ ?_
 ·refine⟨rfl,?_,?_,?_,rfl⟩<;>exact au
 ·rintro m I ds ae X ⟨rfl,h0,h1,h2,rfl⟩ hX;have c:(xs.length:Int)<=12:=aa;have c0:IntKind.i64.wrap ((xs.length:Int)-0)=xs.length:=by rw[Int.sub_zero];exact wrap64 aa aa
  refine ln h0 h1 h2 c0 c ?_;refine aJ (ahG h aa) ?_;rintro w R ⟨hw,fC⟩
  cases hw
  refine ag ?_;exact al dB ao ⟨rfl,fC⟩
def aor(h:Sl 9 U (xs.map bP) v)(hn:xs.length<=12):
 aw E 219 #[v] U λe R=>e=.returned (.tuple #[])/\∃ys,ys.Perm xs/\dP cN ys/\Sl 9 R (ys.map bP) v/\sm U R v:=by
 refine aX func219 ntmps219 results219 λQ aB al az=>?_
 obtain⟨base,cap,rfl⟩:∃base cap,v=.slice base xs.length cap:=by
  generalize hk:xs.map bP=ks at h;have hl:ks.length=xs.length:=by rw[<-hk];simp
  cases h with
  |nil h0=>exact⟨none,0,by rw[<-hl,h0];rfl⟩
  |«at»a pad ha=>exact⟨_,_,by rw[hl]⟩
 have cu:IntKind.u64.wrap (xs.length:Int)=xs.length:=by have:((xs.length:Int) % 18446744073709551616)=xs.length:=aa;simpa[IntKind.wrap,IntKind.bits,IntKind.signed]using this
 refine aH cu ?_;refine aJ (Ss aa) ?_;rintro w ae ⟨⟨k,hk,hw⟩,rfl⟩
 cases hw
 refine ag ?_;refine aJ (alH h hn) ?_;rintro w R ⟨hw,fC⟩
 cases hw
 refine ag ?_;exact aB dB ao ⟨rfl,fC⟩
def aae(hY:Yields f pick key tc)(hg:cq prog f=true)(dK:U.f bm=some (.cells #[.map (some m)] tc (0,0)))(hm:U.f m=some (aU key l c))(hold:∀e∈l,e.2.2<c)(hn:(l.map (·.2.2)).Nodup)(fR:l.length<=1000000)(kI:∀e∈l,di (pick e)=true):
 aw E 218 #[.func (.func f) #[] #[pV bm]] U λe R=>U.le R/\∃v ks,e=.returned v/\ks.Perm (l.map pick)/\Sl 9 R ks v/\∀a n c,v=.slice (some a) n c->U.f a.block=none:=by
 refine aX func218 ntmps218 results218 λQ aB al az=>?_;refine ag ?_;refine aJ (Iv .Zb hY hg dK hm hold hn fR kI) ?_;rintro v R ⟨hle,v',ks,hv,h1,h2,h3⟩
 cases hv
 refine ag ?_;exact al aG ao ⟨hle,v,ks,rfl,h1,h2,h3⟩
variable {l:List (List UInt8×Value×Nat)}
def aov(hY:Yields f (λe:List UInt8×Value×Nat=>bP e.1) bP tc)(hg:cq prog f=true)(dK:U.f bm=some (.cells #[.map (some m)] tc (0,0)))(hm:U.f m=some (aU bP l c))(hold:∀e∈l,e.2.2<c)(hn:(l.map (·.2.2)).Nodup)(fR:l.length<=12):
 aw E 182 #[.func (.func f) #[] #[pV bm]] U λe R=>U.le R/\∃v ys,e=.returned v/\ys.Perm (l.map (·.1))/\dP cN ys/\Sl 9 R (ys.map bP) v/\∀a n c,v=.slice (some a) n c->U.f a.block=none:=by
 refine aX func182 ntmps182 results182 λQ aB al az=>?_;refine ag ?_;refine aJ (aae hY hg dK hm hold hn aa (λ_ _=>rfl)) ?_;rintro v R ⟨hle,v',ks,hv,h1,h2,h3⟩
 cases hv
 obtain⟨xs,k1,rfl⟩:=zt h1 (xs:=l.map (·.1)) (f:=bP) ak;refine ag ?_;have hlen:xs.length<=12:=by rw[k1.length_eq];simpa using fR
 refine aJ (aor h2 hlen) ?_;rintro w bY ⟨hw,ys,p1,p2,p3,p4⟩
 cases hw
 refine ag ?_;refine al aG ao ⟨?_,v,ys,rfl,p1.trans k1,p2,p3,h3⟩;intro b o hb;rw[p4 b (λa n c e e2=>by have:=h3 a n c e;rw[<-e2,hb]at this;cases this)];exact hle b o hb
def ah5:aw E 183 #[.map (some m)] U λe R=>∃bm,e=.returned (.func (.func 220) #[] #[pV bm])/\U.f bm=none/\R=U.set bm (.cells #[.map (some m)] 274 (0,0)):=by refine aX func183 ntmps183 results183 λQ aB al az=>?_;refine ag ?_;refineλbm dK=>?_;refine ag ?_;exact al aG ao ⟨bm,rfl,dK,rfl⟩
def aou(hm:U.f m=some (aU bP l c))(hold:∀e∈l,e.2.2<c)(hn:(l.map (·.2.2)).Nodup)(fR:l.length<=12):
 aw E 139 #[.map (some m)] U λe R=>U.le R/\∃v ys,e=.returned v/\ys.Perm (l.map (·.1))/\dP cN ys/\Sl 9 R (ys.map bP) v/\∀a n c,v=.slice (some a) n c->U.f a.block=none:=by
 refine aX func139 ntmps139 results139 λQ aB al az=>?_;refine ag ?_;refine aJ ah5 ?_;rintro w R ⟨bm,hw,dK,rfl⟩
 cases hw
 have aE:m≠bm:=bh hm dK;have rF:(U.set bm (.cells #[.map (some m)] 274 (0,0))).f m=some (aU bP l c):=by rw[Hp.aM _ aE];exact hm
 refine ag ?_;refine aJ (aov aqQ acM aT rF hold hn fR) ?_;rintro v R ⟨hle,v',ys,hv,h1,h2,h3,h4⟩
 cases hv
 refine ag ?_;refine al aG ao ⟨?_,v,ys,rfl,h1,h2,h3,?_⟩
 ·intro b o hb;have:b≠bm:=bh hb dK;exact hle b o (by rw[Hp.aM _ this];exact hb)
 ·intro a n c e;have:=h4 a n c e;by_cases e2:a.block=bm
  ·rw[e2];exact dK
  ·rw[Hp.aM _ e2]at this;exact this
def dX(q:Nat):Value:=pV q
def uA(nm:Nat->List UInt8)(a b:Nat):Bool:=cN (nm a) (nm b)
def Sy(nm:Nat->List UInt8):yj (uA nm):=⟨λh k=>vW.trans h k,λh=>vW.asym h⟩
def IJ(i j:List UInt8):Int:=if Op.bytesLess i j then-1 else if i=j then 0 else 1
def Z9(i j:List UInt8):decide (IJ i j<0)=cN i j:=by
 unfold IJ cN
 cases h:Op.bytesLess i j
 ·by_cases e:i=j<;>simp[e]
 ·simp
def Z8{x y:Nat}{lx ly:List Value}{i j:List UInt8}(hx:U.f x=some (.cells lx.toArray 81 (0,0)))(RP:lx[0]? =some (.string (B i)))(hy:U.f y=some (.cells ly.toArray 81 (0,0)))(RV:ly[0]? =some (.string (B j))):
 aw E 51 #[dX x,dX y] U λe' ae=>e'=.returned (.int .i64 (IJ i j))/\ae=U:=by
 refine aX func51 ntmps51 results51 λQ aB al az=>?_;simp only[go_sem,seval,dX];refine bJ 10 ?_;simp only[go_sem,seval,dX,hx,RP,hy,RV];refine bz aai ?_;refine fL ?_;refine ag ?_;exact al aG ao ⟨rfl,rfl⟩
variable {nm:Nat->List UInt8}{xs:List Nat}
def ahC(hq:∀q∈xs,q≠blk/\∃l:List Value,U.f q=some (.cells l.toArray 81 (0,0))/\l[0]? =some (.string (B (nm q))))(hb:U.f blk=some (.cells (xs.map dX++pad).toArray 77 (0,0)))(hn:xs.length<=1000000):
 aw E 173 #[.slice (some ⟨blk,0,none⟩) xs.length cap,.int .i64 0,.int .i64 xs.length,.func (.func 51) #[] #[]] U λe R=>e=.returned (.tuple #[])/\∃ys,ys.Perm xs/\dP (uA nm) ys/\R=U.set blk (.cells (ys.map dX++pad).toArray 77 (0,0)):=by
 refine aX func173 ntmps173 results173 λQ aB al az=>?_;refine ag ?_;refine cZ (λm I ds ae=>ds=[]/\I 0=.slice (some ⟨blk,0,none⟩) xs.length cap/\I 1=.int .i64 0/\I 2=.int .i64 xs.length/\I 3=.func (.func 51) #[] #[]/\∃S atA,m=atA.length/\(S++atA).Perm xs/\dP (uA nm) S/\(I 8=.int .i64 S.length\/(xs=[]/\S=[]/\I 8=.int .i64 1))/\ae=U.set blk (.cells ((S++atA).map dX++pad).toArray 77 (0,0))) (xs.length-1) ?_ ?_
 ·refine⟨rfl,?_,?_,?_,?_,xs.take 1,xs.drop 1,ak,by rw[List.take_append_drop],?_,?_,?_⟩
  ·exact au
  ·exact au
  ·exact au
  ·exact au
  ·cases xs<;>simp[dP]
  ·cases xs with
   |nil=>exact .inr ⟨rfl,rfl,au⟩
   |cons x xs=>refine .inl ?_;simp only[go_sem,seval];rfl
  ·rw[List.take_append_drop,Hp.Ml hb]
 ·rintro m I ds ae X ⟨rfl,h0,h1,h2,h3,S,atA,rfl,hp,hs,h6,rfl⟩ hX;have hlen:=hp.length_eq;rw[List.length_append]at hlen
  cases atA with
  |nil=>
   have c1:∀i:Int,(i=S.length\/(xs=[]/\i=1))->¬i<(xs.length:Int):=by
    rintro i (rfl|⟨rfl,rfl⟩)
    ·simp at hlen;omega
    ·simp
   obtain⟨i,hi,pM⟩:∃i:Int,(i=S.length\/(xs=[]/\i=1))/\I 8=.int .i64 i:=by
    rcases h6 with h6|⟨h,_,h6⟩
    ·exact⟨_,.inl rfl,h6⟩
    ·exact⟨_,.inr ⟨h,rfl⟩,h6⟩
   have c1:=c1 i hi;refine bR h2 pM c1 ?_;exact aB dB ao ⟨rfl,S,aV hp,hs,ak⟩
  |cons x atA=>
   have pM:I 8=.int .i64 S.length:=by
    rcases h6 with h6|⟨h6,_⟩
    ·exact h6
    ·subst h6;simp at hlen
   have c1:(S.length:Int)<xs.length:=by simp at hlen;omega
   refine bR h2 pM c1 ?_;refine cZ (λm I ds ae=>ds=[]/\I 0=.slice (some ⟨blk,0,none⟩) xs.length cap/\I 1=.int .i64 0/\I 2=.int .i64 xs.length/\I 3=.func (.func 51) #[] #[]/\I 8=.int .i64 S.length/\∃A B,m=A.length/\A.length+B.length=S.length/\(A++x::B++atA).Perm xs/\Down (uA nm) A x B/\I 9=.int .i64 A.length/\ae=U.set blk (.cells ((A++x::B++atA).map dX++pad).toArray 77 (0,0))) S.length ?_ ?_
   ·refine⟨rfl,?_,?_,?_,?_,?_,S,[],rfl,ak,aV hp,.start hs,?_,ak⟩<;>exact qf h0 h1 h2 h3 pM
   ·rintro m I ds ae X' ⟨rfl,h0,h1,h2,h3,h6,A,B,rfl,mI,hp,hd,h7,rfl⟩ xc;have gx:((A++x::B++atA).map dX++pad)[A.length]? =some (dX x):=ak;rcases List.eq_nil_or_concat A with rfl|⟨A,y,rfl⟩
    ·have c2:¬((([]:List Nat).length:Int)>0):=ak;simp only[List.length_nil]at h7 c2;refine ag ?_;refine bJ 17 ?_;refine bR h1 h6 h7 ?_;have cS:=hd.IQ;refine hX atA.length _ _ _ _ ak ⟨rfl,?_,?_,?_,?_,x::B,atA,rfl,aV hp,cS,.inl ?_,ak⟩ ao
     ·exact aP h0
     ·exact aP h1
     ·exact aP h2
     ·exact aP h3
     ·refine ag ?_;rw[wrap64 aa aa];simp at mI;simp[mI]
    ·simp only[List.concat_eq_append]at*;have gx:((A++[y]++x::B++atA).map dX++pad)[(A++[y]).length]? =some (dX x):=by simp[List.getElem?_append_right]
     have gy:((A++[y]++x::B++atA).map dX++pad)[A.length]? =some (dX y):=by simp[List.getElem?_append_right]
     have c2:(((A++[y]).length:Nat):Int)>0:=ak
     have c3:(0:Int)<=(((A++[y]).length:Nat):Int)/\(((A++[y]).length:Nat):Int)<xs.length:=by have:=hp.length_eq;simp at this|-;omega
     have c4:(0:Int)<=(((A++[y]).length:Nat):Int)-1/\(((A++[y]).length:Nat):Int)-1<(xs.length:Int):=by have:=hp.length_eq;simp at this|-;omega
     have c5:IntKind.i64.wrap ((((A++[y]).length:Nat):Int)-1)=(A.length:Int):=by rw[wrap64 ak (by simp at c3|-;omega)];simp
     have c6:(0:Int)<=A.length/\(A.length:Int)<xs.length:=by simp at c4|-;omega
     generalize hL:(A++[y]++x::B++atA).map dX++pad=L at gx gy;generalize hj:(A++[y]).length=j at*;have f1:(U.set blk (.cells L.toArray 77 (0,0))).f blk=some (.cells L.toArray 77 (0,0)):=aT;refine ag ?_;refine bJ 17 ?_;simp only[go_sem,seval,h0,h1,h3,h7,c2,c3,c5,c6,f1,gx,gy];have zh:=hq x (hp.mem_iff.1 ak);have hyq:=hq y (hp.mem_iff.1 ak);obtain⟨nx,lx,ex,ex0⟩:=zh;obtain⟨ny,ly,ey,ey0⟩:=hyq;rw[Em (f:=51) (l:=#[]) (cap:=#[]) au];simp only[go_sem,seval,Array.empty_append,Array.append_empty];refine bz (Z8 (by rw[Hp.aM _ nx];exact ex) ex0 (by rw[Hp.aM _ ny];exact ey) ey0) ?_;refine fL ?_;have aK:=Z9 (nm x) (nm y)
     cases hl:uA nm x y with
     |false=>
      simp only[go_sem,seval,h6,aK,show cN (nm x) (nm y)=_ from hl];have cS:=hd.IS (Sy nm) hl;refine hX atA.length _ _ _ _ ak ⟨rfl,?_,?_,?_,?_,A++[y]++x::B,atA,rfl,aV hp,cS,.inl ?_,by rw[hL]⟩ ao
      ·exact aP h0
      ·exact aP h1
      ·exact aP h2
      ·exact aP h3
      ·refine ag ?_;have e1:(A++[y]++x::B).length=S.length+1:=by simp at hj mI|-;omega
       rw[e1,wrap64 aa aa];rfl
     |true=>
      simp only[go_sem,seval,aK,show cN (nm x) (nm y)=_ from hl];refine bJ 18 ?_;have sk:∀x,di (dX x)=true:=λ_=>rfl;have fS:∀o,(U.set blk o).f blk=some o:=λ_=>Hp.bD _ _;have lj:j<L.length:=(List.getElem?_eq_some_iff.1 gx).1;have lA:A.length<L.length:=(List.getElem?_eq_some_iff.1 gy).1;have Sm:A.length<(L.set j (dX y)).length:=by simpa using lA
      simp only[go_sem,seval,h0,h7,c3,c5,c6,fS,gx,gy,sk,lj];refine fL ?_;refine ag ?_;refine⟨lA,?_⟩;refine fL ?_;refine bq h7 c5 ?_
      have e1:(L.set j (dX y)).set A.length (dX x)=(A++x::(y::B)++atA).map dX++pad:=by rw[<-hL,<-hj];simp[List.set_append]
      rw[e1];refine xc A.length _ _ _ _ (by rw[<-hj];simp) ⟨rfl,?_,?_,?_,?_,?_,A,y::B,rfl,by rw[<-hj]at mI;simp at mI|-;omega,?_,hd.step (Sy nm) hl,?_,rfl⟩ ao
      ·exact aP h0
      ·exact aP h1
      ·exact aP h2
      ·exact aP h3
      ·exact aP h6
      ·refine List.Perm.trans ?_ hp;simp only[List.append_assoc,List.cons_append,List.nil_append];exact List.Perm.append_left _ (List.Perm.swap ..)
      ·exact au
def qj(U:Hp)(nm:Nat->List UInt8)(xs:List Nat):Prop:=∀q∈xs,∃l:List Value,U.f q=some (.cells l.toArray 81 (0,0))/\l[0]? =some (.string (B (nm q)))
def qj.perm{ys:List Nat}(h:qj U nm xs)(p:ys.Perm xs):qj U nm ys:=λq hq=>h q (p.mem_iff.1 hq)
variable {R:Hp}
def qj.le(h:qj U nm xs)(k:U.le R):qj R nm xs:=λq hq=>by obtain⟨l,h1,h2⟩:=h q hq;exact⟨l,k _ _ h1,h2⟩
def ahE:aw E 173 #[.slice none 0 0,.int .i64 0,.int .i64 0,.func (.func 51) #[] #[]] U λe R=>e=.returned (.tuple #[])/\R=U:=by
 refine eY func173 ntmps173 results173 rfl ak λQ aB al az=>?_;refine ag ?_;refine cZ (λm I ds ae=>ds=[]/\I 2=.int .i64 0/\I 8=.int .i64 1/\ae=U) 0 ?_ ?_
 ·refine⟨rfl,?_,?_,rfl⟩<;>exact au
 ·rintro m I ds ae X ⟨rfl,h2,h6,rfl⟩ hX;have c:¬(1:Int)<0:=an;refine bR h2 h6 c ?_;exact aB dB ao ⟨rfl,rfl⟩
def ahD(hq:qj U nm xs)(h:Sl 77 U (xs.map dX) v)(hn:xs.length<=1000000):
 aw E 173 #[v,.int .i64 0,.int .i64 xs.length,.func (.func 51) #[] #[]] U λe R=>e=.returned (.tuple #[])/\∃ys,ys.Perm xs/\dP (uA nm) ys/\Sl 77 R (ys.map dX) v/\sm U R v:=by
 generalize hk:xs.map dX=ks at h
 cases h with
 |nil h0=>
  have:xs=[]:=by rw[h0]at hk;simpa using hk
  subst this;refine ahE.mono ?_;rintro e R ⟨rfl,rfl⟩;exact⟨rfl,[],.refl _,.nil,.nil rfl,λ_ _=>rfl⟩
 |«at»a pad ha=>
  have hl:ks.length=xs.length:=by rw[<-hk];simp
  rw[hl]
  have bu:∀q∈xs,q≠a/\∃l:List Value,U.f q=some (.cells l.toArray 81 (0,0))/\l[0]? =some (.string (B (nm q))):=by intro q hqm;obtain⟨l,h1,h2⟩:=hq q hqm;refine⟨λe=>?_,l,h1,h2⟩;subst e;rw[ha]at h1;simp at h1
  refine(ahC (cap:=xs.length+pad.length) (pad:=pad) bu (by rw[hk];exact ha) hn).mono ?_;rintro e R ⟨rfl,ys,h1,h2,rfl⟩;refine⟨rfl,ys,h1,h2,?_,?_⟩
  ·have:=Sl.at (ety:=77) (U:=U.set a (.cells (ys.map dX++pad).toArray 77 (0,0))) (xs:=ys.map dX) a pad aT;have e:(ys.map dX).length=xs.length:=by simpa using h1.length_eq
   rw[e]at this;exact this
  ·intro b hb;exact Hp.aM _ (hb _ _ _ rfl)
def alG{k:Int}(hq:qj U nm xs)(h:Sl 77 U (xs.map dX) v)(hn:xs.length<=12):
 aw E 137 #[v,.int .i64 0,.int .i64 xs.length,.int .i64 k,.func (.func 51) #[] #[]] U λe R=>e=.returned (.tuple #[])/\∃ys,ys.Perm xs/\dP (uA nm) ys/\Sl 77 R (ys.map dX) v/\sm U R v:=by
 refine aX func137 ntmps137 results137 λQ aB al az=>?_;refine ag ?_;refine cZ (λm I ds ae=>ds=[]/\I 0=v/\I 1=.int .i64 0/\I 2=.int .i64 xs.length/\I 4=.func (.func 51) #[] #[]/\ae=U) 0 ?_ ?_
 ·refine⟨rfl,?_,?_,?_,?_,rfl⟩<;>exact au
 ·rintro m I ds ae X ⟨rfl,h0,h1,h2,h4,rfl⟩ hX;have c:(xs.length:Int)<=12:=aa;have c0:IntKind.i64.wrap ((xs.length:Int)-0)=xs.length:=by rw[Int.sub_zero];exact wrap64 aa aa
  refine Mn h0 h1 h2 h4 c0 c ?_;refine aJ (ahD hq h aa) ?_;rintro w R ⟨hw,fC⟩
  cases hw
  refine ag ?_;exact al dB ao ⟨rfl,fC⟩
def aot(hq:qj U nm xs)(h:Sl 77 U (xs.map dX) v)(hn:xs.length<=12):
 aw E 84 #[v,.func (.func 51) #[] #[]] U λe R=>e=.returned (.tuple #[])/\∃ys,ys.Perm xs/\dP (uA nm) ys/\Sl 77 R (ys.map dX) v/\sm U R v:=by
 refine aX func84 ntmps84 results84 λQ aB al az=>?_
 obtain⟨base,cap,rfl⟩:∃base cap,v=.slice base xs.length cap:=by
  generalize hk:xs.map dX=ks at h;have hl:ks.length=xs.length:=by rw[<-hk];simp
  cases h with
  |nil h0=>exact⟨none,0,by rw[<-hl,h0];rfl⟩
  |«at»a pad ha=>exact⟨_,_,by rw[hl]⟩
 have cu:IntKind.u64.wrap (xs.length:Int)=xs.length:=by have:((xs.length:Int) % 18446744073709551616)=xs.length:=aa;simpa[IntKind.wrap,IntKind.bits,IntKind.signed]using this
 refine aH cu ?_;refine aJ (Ss aa) ?_;rintro w ae ⟨⟨k,hk,hw⟩,rfl⟩
 cases hw
 refine ag ?_;refine aJ (alG hq h hn) ?_;rintro w R ⟨hw,fC⟩
 cases hw
 refine ag ?_;exact aB dB ao ⟨rfl,fC⟩
def aag(hY:Yields f pick key tc)(hg:cq prog f=true){l:List (α×Value×Nat)}(dK:U.f bm=some (.cells #[.map (some m)] tc (0,0)))(hm:U.f m=some (aU key l c))(hold:∀e∈l,e.2.2<c)(hn:(l.map (·.2.2)).Nodup)(fR:l.length<=1000000)(kI:∀e∈l,di (pick e)=true):
 aw E 83 #[.func (.func f) #[] #[pV bm]] U λe R=>U.le R/\∃v ks,e=.returned v/\ks.Perm (l.map pick)/\Sl 77 R ks v/\∀a n c,v=.slice (some a) n c->U.f a.block=none:=by
 refine aX func83 ntmps83 results83 λQ aB al az=>?_;refine ag ?_;refine aJ (Iv .Y3 hY hg dK hm hold hn fR kI) ?_;rintro v R ⟨hle,v',ks,hv,h1,h2,h3⟩
 cases hv
 refine ag ?_;exact al aG ao ⟨hle,v,ks,rfl,h1,h2,h3⟩
def ap7:aw E 50 #[.map (some m)] U λe R=>∃bm,e=.returned (.func (.func 85) #[] #[pV bm])/\U.f bm=none/\R=U.set bm (.cells #[.map (some m)] 114 (0,0)):=by refine aX func50 ntmps50 results50 λQ aB al az=>?_;refine ag ?_;refineλbm dK=>?_;refine ag ?_;exact al aG ao ⟨bm,rfl,dK,rfl⟩
def aoz{qs:List Nat}(dK:U.f bm=some (.cells #[.map (some m)] 114 (0,0)))(hm:U.f m=some (aU bP l c))(hold:∀e∈l,e.2.2<c)(hn:(l.map (·.2.2)).Nodup)(fR:l.length<=12)(mX:l.map (·.2.1)=qs.map dX)(jx:qj U nm qs):
 aw E 49 #[.func (.func 85) #[] #[pV bm],.func (.func 51) #[] #[]] U λe R=>U.le R/\∃v ys,e=.returned v/\ys.Perm qs/\dP (uA nm) ys/\Sl 77 R (ys.map dX) v/\∀a n c,v=.slice (some a) n c->U.f a.block=none:=by
 refine aX func49 ntmps49 results49 λQ aB al az=>?_
 have kI:∀e∈l,di e.2.1=true:=by
  intro e he;have:e.2.1∈qs.map dX:=by rw[<-mX];exact List.mem_map_of_mem he
  obtain⟨q,_,hq⟩:=List.mem_map.1 this;rw[<-hq];rfl
 refine ag ?_;refine aJ (aag aqT ade dK hm hold hn aa kI) ?_;rintro v R ⟨hle,v',ks,hv,h1,h2,h3⟩
 cases hv
 obtain⟨xs,k1,rfl⟩:=zt h1 (xs:=qs) (f:=dX) mX;refine ag ?_
 have hlen:xs.length<=12:=by have:=congrArg List.length mX;simp at this;rw[k1.length_eq];omega
 refine aJ (aot ((jx.perm k1).le hle) h2 hlen) ?_;rintro w bY ⟨hw,ys,p1,p2,p3,p4⟩
 cases hw
 refine ag ?_;refine al aG ao ⟨?_,v,ys,rfl,p1.trans k1,p2,p3,h3⟩;intro b o hb;rw[p4 b (λa n c e e2=>by have:=h3 a n c e;rw[<-e2,hb]at this;cases this)];exact hle b o hb
def UE{bb:Nat}{lb:List Value}{qs:List Nat}(hb:U.f bb=some (.cells lb.toArray 116 (0,0)))(nU:lb[0]? =some (.map (some m)))(hm:U.f m=some (aU bP l c))(hold:∀e∈l,e.2.2<c)(hn:(l.map (·.2.2)).Nodup)(fR:l.length<=12)(mX:l.map (·.2.1)=qs.map dX)(jx:qj U nm qs):
 aw E 34 #[pV bb] U λe R=>U.le R/\∃v ys,e=.returned v/\ys.Perm qs/\dP (uA nm) ys/\Sl 77 R (ys.map dX) v/\∀a n c,v=.slice (some a) n c->U.f a.block=none:=by
 refine aX func34 ntmps34 results34 λQ aB al az=>?_;refine bq hb nU ?_;refine aJ ap7 ?_;rintro w R ⟨bm,hw,dK,rfl⟩
 cases hw
 have aE:∀{b o},U.f b=some o->b≠bm:=λh e=>by subst e;rw[dK]at h;cases h
 have kr:U.le (U.set bm (.cells #[.map (some m)] 114 (0,0))):=λb o h=>by rw[Hp.aM _ (aE h)];exact h
 have rF:=kr _ _ hm;refine ag ?_;refine aJ (aoz aT rF hold hn fR mX (jx.le kr)) ?_;rintro v R ⟨hle,v',ys,hv,h1,h2,h3,h4⟩
 cases hv
 refine ag ?_;refine al aG ao ⟨Hp.le_trans kr hle,v,ys,rfl,h1,h2,h3,?_⟩;intro a n c e;have:=h4 a n c e;by_cases e2:a.block=bm
 ·rw[e2];exact dK
 ·rw[Hp.aM _ e2]at this;exact this
variable {t:TypeId}{m i v:Operand}
def ahe:cW (.mapUpdate t m i v)=false:=bj
def ag8:cW (.insert t m i v)=false:=bj
def ahc{ok:Bool}:cW (.lookup t m i ok)=false:=bj
def ag9{r:Operand}{m:String}{a:Array Operand}{b:Array TypeId}:cW (.call ⟨.invoke r m,a,b⟩)=false:=bj
variable {x:Array Operand}{a:Array TypeId}
def ag2:cW (.call ⟨.builtin .delete,x,a⟩)=false:=bj
def ag0:cW (.call ⟨.builtin .clear,x,a⟩)=false:=bj
attribute [go_sem] ahe ag8 ahc ag9 ag2 ag0
structure Has (L:List (Nat×Obj)) (U:Hp):Prop where
 nd:(L.map (·.1)).Nodup
 all:∀p∈L,U.f p.1=some p.2
variable {b:Nat}
def Hp.ay{x:Nat}(h:¬x=b):(U.set b o).f x=U.f x:=Hp.aM _ h
variable {L:List (Nat×Obj)}
def Has.le(h:Has L U)(k:U.le R):Has L R:=⟨h.nd,λp hp=>k _ _ (h.all p hp)⟩
def Has.at(h:Has L U)(n:Nat)(hn:L[n]? =some (b,o)):U.f b=some o:=h.all _ (List.mem_of_getElem? hn)
def Has.get(h:Has L U)(hm:(b,o)∈L):U.f b=some o:=h.all _ hm
variable {o':Obj}
def Has.ne(h:Has L U){i j:Nat}{b':Nat}(hi:L[i]? =some (b,o))(hj:L[j]? =some (b',o'))(qF:i≠j):¬b=b':=by
 intro e;subst e;obtain⟨mh,Ke⟩:=List.getElem?_eq_some_iff.1 hi;obtain⟨mS,qG⟩:=List.getElem?_eq_some_iff.1 hj;have:=h.nd;rw[List.nodup_iff_pairwise_ne]at this
 have key:∀i j (mh:i<L.length) (mS:j<L.length),i<j->(L[i]).1≠(L[j]).1:=by intro i j mh mS qF;have h1:=List.pairwise_iff_getElem.1 this i j (aV mh) (aV mS) qF;simpa using h1
 rcases Nat.lt_or_gt_of_ne qF with h1|h1
 ·exact key i j mh mS h1 (by rw[Ke,qG])
 ·exact key j i mS mh h1 (by rw[Ke,qG])
def Has.perm{L':List (Nat×Obj)}(h:Has L U)(p:L'.Perm L):Has L' U:=
 ⟨(p.map _).nodup_iff.2 h.nd,λx hx=>h.all x (p.mem_iff.1 hx)⟩
def Has.sub{L':List (Nat×Obj)}(h:Has L U)(p:L'.Sublist L):Has L' U:=
 ⟨h.nd.sublist (p.map _),λx hx=>h.all x (p.subset hx)⟩
def Has.set (h:Has L U)(n:Nat)(hn:L[n]? =some (b,o))(o':Obj):Has (L.set n (b,o')) (U.set b o'):=by
 obtain⟨h1,h2⟩:=List.getElem?_eq_some_iff.1 hn
 have e:(L.set n (b,o')).map (·.1)=L.map (·.1):=by
  rw[List.map_set];apply List.ext_getElem?;intro i;rw[List.getElem?_set];by_cases hi:n=i
  ·subst hi;simp[h1,h2]
  ·simp[hi]
 refine⟨by rw[e];exact h.nd,λp hp=>?_⟩;obtain⟨i,hi,rfl⟩:=List.mem_iff_getElem.1 hp;rw[List.getElem_set];by_cases Kr:n=i
 ·subst Kr;simp[Hp.bD]
 ·simp only[Kr,if_false];have AN:i<L.length:=aV hi;have this:¬(L[i]).1=b:=h.ne (i:=i) (j:=n) (List.getElem?_eq_getElem AN) hn (λe=>Kr e.symm);rw[Hp.aM _ this];exact h.all _ (List.getElem_mem AN)
def Has.new(h:Has L U)(hb:U.f b=none)(o:Obj):Has ((b,o)::L) (U.set b o):=by
 have aE:∀p∈L,p.1≠b:=λp hp e=>by have:=h.all p hp;rw[e,hb]at this;cases this
 refine⟨?_,λp hp=>?_⟩
 ·rw[List.map_cons,List.nodup_cons];refine⟨λhm=>?_,h.nd⟩;obtain⟨p,hp,e⟩:=List.mem_map.1 hm;exact aE p hp e
 ·rcases List.mem_cons.1 hp with rfl|hp
  ·exact Hp.bD _ _
  ·rw[Hp.aM _ (aE p hp)];exact h.all p hp
def Has.only(h:Has L U){v:Value}(k:sm U R v)(hv:∀a n c,v=.slice (some a) n c->∀p∈L,p.1≠a.block):Has L R:=
 ⟨h.nd,λp hp=>by rw[k p.1 (λa n c e=>hv a n c e p hp)];exact h.all p hp⟩
abbrev iV(i:Int):Value:=.int .i64 i
abbrev sV(l:List UInt8):Value:=.string (B l)
structure jZ where
 jc:Int
 frame:Int
 gh:Int
 queue:Int
 body:Int
def jZ.vals(c:jZ):List Value:=[iV c.jc,iV c.frame,iV c.gh,iV c.queue,iV c.body]
def eE(cfg:jZ)(br mc:Nat)(clock last:Int):Obj:=.cells [iV cfg.jc,iV cfg.frame,iV cfg.gh,iV cfg.queue,iV cfg.body,pV br,iV clock,iV last,.map (some mc)].toArray 74 (0,0)
def ij(mq:Nat)(dm messages aY:Int):Obj:=.cells [.map (some mq),iV dm,iV messages,iV aY].toArray 116 (0,0)
structure CR where
 ph:Int
 rest:List UInt8
 je:Bool
 dm:Int
 frame:Int
 gh:Int
 ib:Int
 recv:Int
 out:List UInt8
def CR.vals(g:Nat)(id:Int)(chm:Nat)(c:CR):List Value:=[pV g,iV id,iV c.ph,sV c.rest,.bool c.je,.map (some chm),iV c.dm,iV c.frame,iV c.gh,iV c.ib,iV c.recv,sV c.out]
def fu(g:Nat)(id:Int)(chm:Nat)(c:CR):Obj:=.cells (c.vals g id chm).toArray 90 (0,0)
structure HR where
 closing:Bool
 nz:Int
 tag:Int
 want:Int
 key:List UInt8
 body:List UInt8
 size:Int
def HR.vals(c:Nat)(no:Int)(un co:Nat)(h:HR):List Value:=[pV c,iV no,.bool h.closing,iV h.nz,iV h.tag,.map (some un),.map (some co),iV h.want,sV h.key,sV h.body,iV h.size]
def ix(c:Nat)(no:Int)(un co:Nat)(h:HR):Obj:=.cells (h.vals c no un co).toArray 276 (0,0)
def fy(name:List UInt8)(ready:Value)(held last:Int)(cons:Value):Obj:=.cells [sV name,ready,iV held,iV last,cons].toArray 81 (0,0)
def S7{dm:Int}:aw E 46 #[iV dm] U λe R=>∃b m,e=.returned (pV b)/\U.f m=none/\b≠m/\U.f b=none/\R=(U.set m (aU bP [] 0)).set b (ij m dm 0 0):=by refine aX func46 ntmps46 results46 λQ aB al az=>?_;refine ag ?_;refineλm hm=>?_;refine ag ?_;refineλb hb=>?_;refine ag ?_;have aE:b≠m:=bh hb aT;rw[Hp.aM _ aE]at hb;exact al aG ao ⟨b,m,rfl,hm,aE,hb,rfl⟩
end Go.Qw
