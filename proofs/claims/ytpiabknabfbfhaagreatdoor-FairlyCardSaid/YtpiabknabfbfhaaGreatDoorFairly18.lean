/- Part 18. -/
import Derived.Test.YtpiabknabfbfhaaGreatDoorFairly17
set_option linter.all false
set_option maxRecDepth 100000
set_option maxHeartbeats 8000000
namespace Go.Qw
open Go Go.Conc Go.Proofs Go.Proofs.Tryz
variable {σ:Hp}{o:Obj}
def Hp.Mf{b:Nat}(h:σ.f b=some o):σ.set b o=σ:=Hp.ext' λx=>by
 by_cases e:x=b
 ·subst e;rw[Hp.bD,h]
 ·rw[Hp.aO _ e]
structure yf {κ:Type} (lt:κ->κ->Bool):Prop where
 trans:∀{a b c},lt b a=false->lt c b=false->lt c a=false
 asym:∀{a b},lt a b=true->lt b a=false
def dM{κ:Type}(lt:κ->κ->Bool)(l:List κ):Prop:=l.Pairwise λa b=>lt b a=false
structure Down {κ:Type} (lt:κ->κ->Bool) (A:List κ) (x:κ) (B:List κ):Prop where
 jl:dM lt (A++B)
 le:∀b∈B,lt b x=false
section
variable {κ:Type}{lt:κ->κ->Bool}{x:κ}{y:κ}
variable {A B:List κ}
def Down.start (h:dM lt A):Down lt A x []:=⟨aZ h,al⟩
def Down.step (L:yf lt)(h:Down lt (A++[y]) x B)(hl:lt x y=true):Down lt A x (y::B):=by
 refine⟨by have:=h.jl;simpa using this,λb hb=>?_⟩;rcases List.mem_cons.1 hb with rfl|hb
 ·exact L.asym hl
 ·exact h.le b hb
def Down.II (h:Down lt [] x B):dM lt (x::B):=by refine List.pairwise_cons.2 ⟨h.le,by simpa[dM]using h.jl⟩
def Down.IJ (L:yf lt)(h:Down lt (A++[y]) x B)(hl:lt x y=false):dM lt (A++[y]++x::B):=by
 have hs:=h.jl;unfold dM at hs|-;rw[List.pairwise_append]at hs;obtain⟨h1,h2,h3⟩:=hs;have rf:=h1;rw[List.pairwise_append]at rf;rw[List.pairwise_append];refine⟨h1,List.pairwise_cons.2 ⟨h.le,h2⟩,?_⟩;intro a ha b hb;rcases List.mem_cons.1 hb with rfl|hb
 ·rcases List.mem_append.1 ha with dD|dD
  ·exact L.trans (rf.2.2 a dD y al) hl
  ·simp at dD;subst dD;exact hl
 ·exact h3 a ha b hb
end
def jN(a b:Int):Bool:=decide (a<b)
def A8:yf jN:=⟨by simp only[jN,decide_eq_false_iff_not];omega,by simp only[jN,decide_eq_false_iff_not,decide_eq_true_eq];omega⟩
variable {E:Env prog}{xs:List Int}{blk cap:Nat}{pad:List Value}
def ahf(hb:σ.f blk=some (.cells (xs.map aV++pad).toArray 3 (0,0)))(hn:xs.length<=1000000):
 ay E 162 #[.slice (some ⟨blk,0,none⟩) xs.length cap,.int .i64 0,.int .i64 xs.length] σ λe τ=>e=.returned (.tuple #[])/\∃ys,ys.Perm xs/\dM jN ys/\τ=σ.set blk (.cells (ys.map aV++pad).toArray 3 (0,0)):=by
 refine aW func162 ntmps162 results162 λQ aC an aA=>?_;refine ag ?_;refine dh (λm ρ ds ae=>ds=[]/\ρ 0=.slice (some ⟨blk,0,none⟩) xs.length cap/\ρ 1=.int .i64 0/\ρ 2=.int .i64 xs.length/\∃S R,m=R.length/\(S++R).Perm xs/\dM jN S/\(ρ 6=.int .i64 S.length\/(xs=[]/\S=[]/\ρ 6=.int .i64 1))/\ae=σ.set blk (.cells ((S++R).map aV++pad).toArray 3 (0,0))) (xs.length-1) ?_ ?_
 ·refine⟨rfl,?_,?_,?_,xs.take 1,xs.drop 1,al,by rw[List.take_append_drop],?_,?_,?_⟩
  ·exact au
  ·exact au
  ·exact au
  ·cases xs<;>simp[dM]
  ·cases xs with
   |nil=>exact .inr ⟨rfl,rfl,au⟩
   |cons x xs=>refine .inl ?_;simp only[go_sem,seval];rfl
  ·rw[List.take_append_drop,Hp.Mf hb]
 ·rintro m ρ ds ae X ⟨rfl,h0,h1,h2,S,R,rfl,hp,hs,h6,rfl⟩ hX;have hlen:=hp.length_eq;rw[List.length_append]at hlen
  cases R with
  |nil=>
   have c1:∀i:Int,(i=S.length\/(xs=[]/\i=1))->¬i<(xs.length:Int):=by
    rintro i (rfl|⟨rfl,rfl⟩)
    ·simp at hlen;omega
    ·simp
   obtain⟨i,hi,pC⟩:∃i:Int,(i=S.length\/(xs=[]/\i=1))/\ρ 6=.int .i64 i:=by
    rcases h6 with h6|⟨h,_,h6⟩
    ·exact⟨_,.inl rfl,h6⟩
    ·exact⟨_,.inr ⟨h,rfl⟩,h6⟩
   have c1:=c1 i hi;refine bO h2 pC c1 ?_;exact aC du ao ⟨rfl,S,aZ hp,hs,al⟩
  |cons x R=>
   have pC:ρ 6=.int .i64 S.length:=by
    rcases h6 with h6|⟨h6,_⟩
    ·exact h6
    ·subst h6;simp at hlen
   have c1:(S.length:Int)<xs.length:=by simp at hlen;omega
   refine bO h2 pC c1 ?_;refine dh (λm ρ ds ae=>ds=[]/\ρ 0=.slice (some ⟨blk,0,none⟩) xs.length cap/\ρ 1=.int .i64 0/\ρ 2=.int .i64 xs.length/\ρ 6=.int .i64 S.length/\∃A B,m=A.length/\A.length+B.length=S.length/\(A++x::B++R).Perm xs/\Down jN A x B/\ρ 7=.int .i64 A.length/\ae=σ.set blk (.cells ((A++x::B++R).map aV++pad).toArray 3 (0,0))) S.length ?_ ?_
   ·refine⟨rfl,?_,?_,?_,?_,S,[],rfl,al,aZ hp,.start hs,?_,al⟩<;>exact iB h0 h1 h2 pC
   ·rintro m ρ ds ae X' ⟨rfl,h0,h1,h2,h6,A,B,rfl,mD,hp,hd,h7,rfl⟩ wY;have gx:((A++x::B++R).map aV++pad)[A.length]? =some (aV x):=al;rcases List.eq_nil_or_concat A with rfl|⟨A,y,rfl⟩
    ·have c2:¬((([]:List Int).length:Int)>0):=al;simp only[List.length_nil]at h7 c2;refine ag ?_;refine bG 15 ?_;refine bO h1 h6 h7 ?_;have cQ:=hd.II;refine hX R.length _ _ _ _ al ⟨rfl,?_,?_,?_,x::B,R,rfl,aZ hp,cQ,.inl ?_,al⟩ ao
     ·exact aK h0
     ·exact aK h1
     ·exact aK h2
     ·refine ag ?_;rw[wrap64 aa aa];simp at mD;simp[mD]
    ·simp only[List.concat_eq_append]at*;have gx:((A++[y]++x::B++R).map aV++pad)[(A++[y]).length]? =some (aV x):=by simp[List.getElem?_append_right]
     have gy:((A++[y]++x::B++R).map aV++pad)[A.length]? =some (aV y):=by simp[List.getElem?_append_right]
     have c2:(((A++[y]).length:Nat):Int)>0:=al
     have c3:(0:Int)<=(((A++[y]).length:Nat):Int)/\(((A++[y]).length:Nat):Int)<xs.length:=by have:=hp.length_eq;simp at this|-;omega
     have c4:(0:Int)<=(((A++[y]).length:Nat):Int)-1/\(((A++[y]).length:Nat):Int)-1<(xs.length:Int):=by have:=hp.length_eq;simp at this|-;omega
     have c5:IntKind.i64.wrap ((((A++[y]).length:Nat):Int)-1)=(A.length:Int):=by rw[wrap64 al (by simp at c3|-;omega)];simp
     have c6:(0:Int)<=A.length/\(A.length:Int)<xs.length:=by simp at c4|-;omega
     generalize hL:(A++[y]++x::B++R).map aV++pad=L at gx gy;generalize hj:(A++[y]).length=j at*;have f1:(σ.set blk (.cells L.toArray 3 (0,0))).f blk=some (.cells L.toArray 3 (0,0)):=aY;refine ag ?_;refine bG 15 ?_;simp only[go_sem,seval,h0,h1,h7,c2,c3,c5,c6,f1,gx,gy];refine aR oS ?_;refine fO ?_
     cases hl:decide (x<y)with
     |false=>
      refine aG h6 ?_;have cQ:=hd.IJ A8 (show jN x y=false from hl);refine hX R.length _ _ _ _ al ⟨rfl,?_,?_,?_,A++[y]++x::B,R,rfl,aZ hp,cQ,.inl ?_,by rw[hL]⟩ ao
      ·exact aK h0
      ·exact aK h1
      ·exact aK h2
      ·refine ag ?_;have e1:(A++[y]++x::B).length=S.length+1:=by simp at hj mD|-;omega
       rw[e1,wrap64 aa aa];rfl
     |true=>
      refine ag ?_;refine bG 18 ?_;have sk:∀x,de (aV x)=true:=λ_=>rfl;have fS:∀o,(σ.set blk o).f blk=some o:=λ_=>Hp.bD _ _;have lj:j<L.length:=(List.getElem?_eq_some_iff.1 gx).1;have lA:A.length<L.length:=(List.getElem?_eq_some_iff.1 gy).1;have Sj:A.length<(L.set j (aV y)).length:=by simpa using lA
      simp only[go_sem,seval,h0,h7,c3,c5,c6,fS,gx,gy,sk,lj];refine fO ?_;refine ag ?_;refine⟨lA,?_⟩;refine fO ?_;refine bt h7 c5 ?_
      have e1:(L.set j (aV y)).set A.length (aV x)=(A++x::(y::B)++R).map aV++pad:=by rw[<-hL,<-hj];simp[List.set_append]
      rw[e1];refine wY A.length _ _ _ _ (by rw[<-hj];simp) ⟨rfl,?_,?_,?_,?_,A,y::B,rfl,by rw[<-hj]at mD;simp at mD|-;omega,?_,hd.step A8 hl,?_,rfl⟩ ao
      ·exact aK h0
      ·exact aK h1
      ·exact aK h2
      ·exact aK h6
      ·refine List.Perm.trans ?_ hp;simp only[List.append_assoc,List.cons_append,List.nil_append];exact List.Perm.append_left _ (List.Perm.swap ..)
      ·exact au
variable {α:Type}
def zn{O:Type}{f:α->O}{ks zs:List O}(h:ks.Perm zs):∀{xs:List α},zs=xs.map f->∃ys:List α,ys.Perm xs/\ks=ys.map f:=by
 induction h with
 |nil=>
  intro xs e
  cases xs with
  |nil=>exact⟨[],.refl _,rfl⟩
  |cons x xs=>cases e
 |cons a h ih=>
  intro xs e
  cases xs with
  |nil=>cases e
  |cons x xs=>
   simp only[List.map_cons,List.cons.injEq]at e;obtain⟨ys,h1,h2⟩:=ih e.2;exact⟨x::ys,h1.cons _,by rw[List.map_cons,h2,e.1]⟩
 |swap a b l=>
  intro xs e
  cases xs with
  |nil=>cases e
  |cons x xs=>
   cases xs with
   |nil=>simp at e
   |cons y xs=>
    simp only[List.map_cons,List.cons.injEq]at e;exact⟨y::x::xs,List.Perm.swap ..,by simp only[List.map_cons];rw[e.1,e.2.1,e.2.2]⟩
 |trans h1 h2 ih1 ih2=>
  intro xs e;obtain⟨ys,k1,k2⟩:=ih2 e;obtain⟨zs,k3,k4⟩:=ih1 k2;exact⟨zs,k3.trans k1,k4⟩
def rS(σ τ:Hp)(v:Value):Prop:=∀b,(∀a n c,v=.slice (some a) n c->b≠a.block)->τ.f b=σ.f b
def ahh:ay E 162 #[.slice none 0 0,.int .i64 0,.int .i64 0] σ λe τ=>e=.returned (.tuple #[])/\τ=σ:=by
 refine fI func162 ntmps162 results162 rfl al λQ aC an aA=>?_;refine ag ?_;refine dh (λm ρ ds ae=>ds=[]/\ρ 2=.int .i64 0/\ρ 6=.int .i64 1/\ae=σ) 0 ?_ ?_
 ·refine⟨rfl,?_,?_,rfl⟩<;>exact au
 ·rintro m ρ ds ae X ⟨rfl,h2,h6,rfl⟩ hX;have c:¬(1:Int)<0:=ai;refine bO h2 h6 c ?_;exact aC du ao ⟨rfl,rfl⟩
variable {v:Value}
def ahg(h:Sl 3 σ (xs.map aV) v)(hn:xs.length<=1000000):
 ay E 162 #[v,.int .i64 0,.int .i64 xs.length] σ λe τ=>e=.returned (.tuple #[])/\∃ys,ys.Perm xs/\dM jN ys/\Sl 3 τ (ys.map aV) v/\rS σ τ v:=by
 generalize hk:xs.map aV=ks at h
 cases h with
 |nil h0=>
  have:xs=[]:=by rw[h0]at hk;simpa using hk
  subst this;refine ahh.mono ?_;rintro e τ ⟨rfl,rfl⟩;exact⟨rfl,[],.refl _,.nil,.nil rfl,λ_ _=>rfl⟩
 |«at»a pad ha=>
  have hl:ks.length=xs.length:=by rw[<-hk];simp
  rw[hl];refine(ahf (cap:=xs.length+pad.length) (pad:=pad) (by rw[hk];exact ha) hn).mono ?_;rintro e τ ⟨rfl,ys,h1,h2,rfl⟩;refine⟨rfl,ys,h1,h2,?_,?_⟩
  ·have:=Sl.at (ety:=3) (σ:=σ.set a (.cells (ys.map aV++pad).toArray 3 (0,0))) (xs:=ys.map aV) a pad aY;have e:(ys.map aV).length=xs.length:=by simpa using h1.length_eq
   rw[e]at this;exact this
  ·intro b hb;exact Hp.aO _ (hb _ _ _ rfl)
def alj{k:Int}(h:Sl 3 σ (xs.map aV) v)(hn:xs.length<=12):
 ay E 134 #[v,.int .i64 0,.int .i64 xs.length,.int .i64 k] σ λe τ=>e=.returned (.tuple #[])/\∃ys,ys.Perm xs/\dM jN ys/\Sl 3 τ (ys.map aV) v/\rS σ τ v:=by
 refine aW func134 ntmps134 results134 λQ aC an aA=>?_;refine ag ?_;refine dh (λm ρ ds ae=>ds=[]/\ρ 0=v/\ρ 1=.int .i64 0/\ρ 2=.int .i64 xs.length/\ae=σ) 0 ?_ ?_
 ·refine⟨rfl,?_,?_,?_,rfl⟩<;>exact au
 ·rintro m ρ ds ae X ⟨rfl,h0,h1,h2,rfl⟩ hX;have c:(xs.length:Int)<=12:=aa;have c0:IntKind.i64.wrap ((xs.length:Int)-0)=xs.length:=by rw[Int.sub_zero];exact wrap64 aa aa
  refine lO h0 h1 h2 c0 c ?_;refine aL (ahg h aa) ?_;rintro w τ ⟨hw,eN⟩
  cases hw
  refine ag ?_;exact an du ao ⟨rfl,eN⟩
variable {f:FuncId}{pick:α×Value×Nat->Value}{key:α->Value}{tc:TypeId}{bm m c:Nat}{l:List (α×Value×Nat)}
def ZR(hY:Yields f pick key tc)(hg:cf prog f=true)(dF:σ.f bm=some (.cells #[.map (some m)] tc (0,0)))(hm:σ.f m=some (aU key l c))(hold:∀e∈l,e.2.2<c)(hn:(l.map (·.2.2)).Nodup)(gq:l.length<=1000000)(kA:∀e∈l,de (pick e)=true):
 ay E 80 #[.func (.func f) #[] #[pV bm]] σ λe τ=>σ.le τ/\∃v ks,e=.returned v/\ks.Perm (l.map pick)/\Sl 3 τ ks v/\∀a n c,v=.slice (some a) n c->σ.f a.block=none:=by
 refine aW func80 ntmps80 results80 λQ aC an aA=>?_;refine ag ?_;refine aL (Ip .YD hY hg dF hm hold hn gq kA) ?_;rintro v τ ⟨hle,v',ks,hv,h1,h2,h3⟩
 cases hv
 refine ag ?_;exact an aI ao ⟨hle,v,ks,rfl,h1,h2,h3⟩
abbrev cL(a b:List UInt8):Bool:=Op.bytesLess a b
theorem Sw{a b:UInt8}:a<b↔a.toNat<b.toNat:=UInt8.lt_iff_toNat_lt
theorem vR:yf cL:=by
 have cc:∀(x y:UInt8) (a b:List UInt8),cL (x::a) (y::b)=(decide (x<y)||(x==y&&cL a b)):=λ_ _ _ _=>rfl;have cn:∀a,cL a []=false:=λa=>by cases a<;>rfl
 have nc:∀y b,cL [] (y::b)=true:=λ_ _=>rfl;refine⟨?_,?_⟩
 ·intro a b c
  induction b generalizing a c with
  |nil=>
   intro h1 _
   cases a with
   |nil=>exact cn c
   |cons x a=>rw[nc]at h1;cases h1
  |cons y b ih=>
   intro h1 h2
   cases a with
   |nil=>exact cn c
   |cons x a=>
    cases c with
    |nil=>rw[nc]at h2;cases h2
    |cons z c=>
     rw[cc]at*;simp only[Bool.or_eq_false_iff,decide_eq_false_iff_not,Bool.and_eq_false_iff,beq_eq_false_iff_ne,ne_eq,Sw]at*;obtain⟨p1,p2⟩:=h1;obtain⟨q1,q2⟩:=h2;refine⟨aa,?_⟩;by_cases e:z=x
     ·right;subst e;have e2:z=y:=UInt8.toNat_inj.1 aa;subst e2;exact ih (p2.resolve_left al) (q2.resolve_left al)
     ·exact .inl e
 ·intro a
  induction a with
  |nil=>intro b h;exact cn b
  |cons x a ih=>
   intro b h
   cases b with
   |nil=>rw[cn]at h;cases h
   |cons y b=>
    rw[cc]at*;simp only[Bool.or_eq_false_iff,Bool.or_eq_true,Bool.and_eq_true,decide_eq_true_eq,decide_eq_false_iff_not,Bool.and_eq_false_iff,beq_iff_eq,beq_eq_false_iff_ne,ne_eq,Sw]at*;rcases h with h|⟨rfl,h⟩
    ·exact⟨aa,.inl (λe=>by subst e;omega)⟩
    ·exact⟨aa,.inr (ih h)⟩
variable {xs:List (List UInt8)}
theorem ahl(hb:σ.f blk=some (.cells (xs.map bR++pad).toArray 9 (0,0)))(hn:xs.length<=1000000):
 ay E 256 #[.slice (some ⟨blk,0,none⟩) xs.length cap,.int .i64 0,.int .i64 xs.length] σ λe τ=>e=.returned (.tuple #[])/\∃ys,ys.Perm xs/\dM cL ys/\τ=σ.set blk (.cells (ys.map bR++pad).toArray 9 (0,0)):=by
 refine aW func256 ntmps256 results256 λQ aC an aA=>?_;refine ag ?_;refine dh (λm ρ ds ae=>ds=[]/\ρ 0=.slice (some ⟨blk,0,none⟩) xs.length cap/\ρ 1=.int .i64 0/\ρ 2=.int .i64 xs.length/\∃S R,m=R.length/\(S++R).Perm xs/\dM cL S/\(ρ 6=.int .i64 S.length\/(xs=[]/\S=[]/\ρ 6=.int .i64 1))/\ae=σ.set blk (.cells ((S++R).map bR++pad).toArray 9 (0,0))) (xs.length-1) ?_ ?_
 ·refine⟨rfl,?_,?_,?_,xs.take 1,xs.drop 1,al,by rw[List.take_append_drop],?_,?_,?_⟩
  ·exact au
  ·exact au
  ·exact au
  ·cases xs<;>simp[dM]
  ·cases xs with
   |nil=>exact .inr ⟨rfl,rfl,au⟩
   |cons x xs=>refine .inl ?_;simp only[go_sem,seval];rfl
  ·rw[List.take_append_drop,Hp.Mf hb]
 ·rintro m ρ ds ae X ⟨rfl,h0,h1,h2,S,R,rfl,hp,hs,h6,rfl⟩ hX;have hlen:=hp.length_eq;rw[List.length_append]at hlen
  cases R with
  |nil=>
   have c1:∀i:Int,(i=S.length\/(xs=[]/\i=1))->¬i<(xs.length:Int):=by
    rintro i (rfl|⟨rfl,rfl⟩)
    ·simp at hlen;omega
    ·simp
   obtain⟨i,hi,pC⟩:∃i:Int,(i=S.length\/(xs=[]/\i=1))/\ρ 6=.int .i64 i:=by
    rcases h6 with h6|⟨h,_,h6⟩
    ·exact⟨_,.inl rfl,h6⟩
    ·exact⟨_,.inr ⟨h,rfl⟩,h6⟩
   have c1:=c1 i hi;refine bO h2 pC c1 ?_;exact aC du ao ⟨rfl,S,aZ hp,hs,al⟩
  |cons x R=>
   have pC:ρ 6=.int .i64 S.length:=by
    rcases h6 with h6|⟨h6,_⟩
    ·exact h6
    ·subst h6;simp at hlen
   have c1:(S.length:Int)<xs.length:=by simp at hlen;omega
   refine bO h2 pC c1 ?_;refine dh (λm ρ ds ae=>ds=[]/\ρ 0=.slice (some ⟨blk,0,none⟩) xs.length cap/\ρ 1=.int .i64 0/\ρ 2=.int .i64 xs.length/\ρ 6=.int .i64 S.length/\∃A B,m=A.length/\A.length+B.length=S.length/\(A++x::B++R).Perm xs/\Down cL A x B/\ρ 7=.int .i64 A.length/\ae=σ.set blk (.cells ((A++x::B++R).map bR++pad).toArray 9 (0,0))) S.length ?_ ?_
   ·refine⟨rfl,?_,?_,?_,?_,S,[],rfl,al,aZ hp,.start hs,?_,al⟩<;>exact iB h0 h1 h2 pC
   ·rintro m ρ ds ae X' ⟨rfl,h0,h1,h2,h6,A,B,rfl,mD,hp,hd,h7,rfl⟩ wY;have gx:((A++x::B++R).map bR++pad)[A.length]? =some (bR x):=al;rcases List.eq_nil_or_concat A with rfl|⟨A,y,rfl⟩
    ·have c2:¬((([]:List (List UInt8)).length:Int)>0):=al;simp only[List.length_nil]at h7 c2;refine ag ?_;refine bG 15 ?_;refine bO h1 h6 h7 ?_;have cQ:=hd.II;refine hX R.length _ _ _ _ al ⟨rfl,?_,?_,?_,x::B,R,rfl,aZ hp,cQ,.inl ?_,al⟩ ao
     ·exact aK h0
     ·exact aK h1
     ·exact aK h2
     ·refine ag ?_;rw[wrap64 aa aa];simp at mD;simp[mD]
    ·simp only[List.concat_eq_append]at*;have gx:((A++[y]++x::B++R).map bR++pad)[(A++[y]).length]? =some (bR x):=by simp[List.getElem?_append_right]
     have gy:((A++[y]++x::B++R).map bR++pad)[A.length]? =some (bR y):=by simp[List.getElem?_append_right]
     have c2:(((A++[y]).length:Nat):Int)>0:=al
     have c3:(0:Int)<=(((A++[y]).length:Nat):Int)/\(((A++[y]).length:Nat):Int)<xs.length:=by have:=hp.length_eq;simp at this|-;omega
     have c4:(0:Int)<=(((A++[y]).length:Nat):Int)-1/\(((A++[y]).length:Nat):Int)-1<(xs.length:Int):=by have:=hp.length_eq;simp at this|-;omega
     have c5:IntKind.i64.wrap ((((A++[y]).length:Nat):Int)-1)=(A.length:Int):=by rw[wrap64 al (by simp at c3|-;omega)];simp
     have c6:(0:Int)<=A.length/\(A.length:Int)<xs.length:=by simp at c4|-;omega
     generalize hL:(A++[y]++x::B++R).map bR++pad=L at gx gy;generalize hj:(A++[y]).length=j at*;have f1:(σ.set blk (.cells L.toArray 9 (0,0))).f blk=some (.cells L.toArray 9 (0,0)):=aY;refine ag ?_;refine bG 15 ?_;simp only[go_sem,seval,h0,h1,h7,c2,c3,c5,c6,f1,gx,gy];refine aR aiy ?_;refine fO ?_
     cases hl:Op.bytesLess x y with
     |false=>
      refine aG h6 ?_;have cQ:=hd.IJ vR (show cL x y=false from hl);refine hX R.length _ _ _ _ al ⟨rfl,?_,?_,?_,A++[y]++x::B,R,rfl,aZ hp,cQ,.inl ?_,by rw[hL]⟩ ao
      ·exact aK h0
      ·exact aK h1
      ·exact aK h2
      ·refine ag ?_;have e1:(A++[y]++x::B).length=S.length+1:=by simp at hj mD|-;omega
       rw[e1,wrap64 aa aa];rfl
     |true=>
      refine ag ?_;refine bG 18 ?_;have sk:∀x,de (bR x)=true:=λ_=>rfl;have fS:∀o,(σ.set blk o).f blk=some o:=λ_=>Hp.bD _ _;have lj:j<L.length:=(List.getElem?_eq_some_iff.1 gx).1;have lA:A.length<L.length:=(List.getElem?_eq_some_iff.1 gy).1;have Sj:A.length<(L.set j (bR y)).length:=by simpa using lA
      simp only[go_sem,seval,h0,h7,c3,c5,c6,fS,gx,gy,sk,lj];refine fO ?_;refine ag ?_;refine⟨lA,?_⟩;refine fO ?_;refine bt h7 c5 ?_
      have e1:(L.set j (bR y)).set A.length (bR x)=(A++x::(y::B)++R).map bR++pad:=by rw[<-hL,<-hj];simp[List.set_append]
      rw[e1];refine wY A.length _ _ _ _ (by rw[<-hj];simp) ⟨rfl,?_,?_,?_,?_,A,y::B,rfl,by rw[<-hj]at mD;simp at mD|-;omega,?_,hd.step vR hl,?_,rfl⟩ ao
      ·exact aK h0
      ·exact aK h1
      ·exact aK h2
      ·exact aK h6
      ·refine List.Perm.trans ?_ hp;simp only[List.append_assoc,List.cons_append,List.nil_append];exact List.Perm.append_left _ (List.Perm.swap ..)
      ·exact au
theorem ahn:ay E 256 #[.slice none 0 0,.int .i64 0,.int .i64 0] σ λe τ=>e=.returned (.tuple #[])/\τ=σ:=by
 refine fI func256 ntmps256 results256 rfl al λQ aC an aA=>?_;refine ag ?_;refine dh (λm ρ ds ae=>ds=[]/\ρ 2=.int .i64 0/\ρ 6=.int .i64 1/\ae=σ) 0 ?_ ?_
 ·refine⟨rfl,?_,?_,rfl⟩<;>exact au
 ·rintro m ρ ds ae X ⟨rfl,h2,h6,rfl⟩ hX;have c:¬(1:Int)<0:=ai;refine bO h2 h6 c ?_;exact aC du ao ⟨rfl,rfl⟩
theorem ahm(h:Sl 9 σ (xs.map bR) v)(hn:xs.length<=1000000):
 ay E 256 #[v,.int .i64 0,.int .i64 xs.length] σ λe τ=>e=.returned (.tuple #[])/\∃ys,ys.Perm xs/\dM cL ys/\Sl 9 τ (ys.map bR) v/\rS σ τ v:=by
 generalize hk:xs.map bR=ks at h
 cases h with
 |nil h0=>
  have:xs=[]:=by rw[h0]at hk;simpa using hk
  subst this;refine ahn.mono ?_;rintro e τ ⟨rfl,rfl⟩;exact⟨rfl,[],.refl _,.nil,.nil rfl,λ_ _=>rfl⟩
 |«at»a pad ha=>
  have hl:ks.length=xs.length:=by rw[<-hk];simp
  rw[hl];refine(ahl (cap:=xs.length+pad.length) (pad:=pad) (by rw[hk];exact ha) hn).mono ?_;rintro e τ ⟨rfl,ys,h1,h2,rfl⟩;refine⟨rfl,ys,h1,h2,?_,?_⟩
  ·have:=Sl.at (ety:=9) (σ:=σ.set a (.cells (ys.map bR++pad).toArray 9 (0,0))) (xs:=ys.map bR) a pad aY;have e:(ys.map bR).length=xs.length:=by simpa using h1.length_eq
   rw[e]at this;exact this
  ·intro b hb;exact Hp.aO _ (hb _ _ _ rfl)
theorem alo{k:Int}(h:Sl 9 σ (xs.map bR) v)(hn:xs.length<=12):
 ay E 240 #[v,.int .i64 0,.int .i64 xs.length,.int .i64 k] σ λe τ=>e=.returned (.tuple #[])/\∃ys,ys.Perm xs/\dM cL ys/\Sl 9 τ (ys.map bR) v/\rS σ τ v:=by
 refine aW func240 ntmps240 results240 λQ aC an aA=>?_;refine ag ?_;refine dh (λm ρ ds ae=>ds=[]/\ρ 0=v/\ρ 1=.int .i64 0/\ρ 2=.int .i64 xs.length/\ae=σ) 0 ?_ ?_
 ·refine⟨rfl,?_,?_,?_,rfl⟩<;>exact au
 ·rintro m ρ ds ae X ⟨rfl,h0,h1,h2,rfl⟩ hX;have c:(xs.length:Int)<=12:=aa;have c0:IntKind.i64.wrap ((xs.length:Int)-0)=xs.length:=by rw[Int.sub_zero];exact wrap64 aa aa
  refine lO h0 h1 h2 c0 c ?_;refine aL (ahm h aa) ?_;rintro w τ ⟨hw,eN⟩
  cases hw
  refine ag ?_;exact an du ao ⟨rfl,eN⟩
theorem aob(h:Sl 9 σ (xs.map bR) v)(hn:xs.length<=12):
 ay E 219 #[v] σ λe τ=>e=.returned (.tuple #[])/\∃ys,ys.Perm xs/\dM cL ys/\Sl 9 τ (ys.map bR) v/\rS σ τ v:=by
 refine aW func219 ntmps219 results219 λQ aC an aA=>?_
 obtain⟨base,cap,rfl⟩:∃base cap,v=.slice base xs.length cap:=by
  generalize hk:xs.map bR=ks at h;have hl:ks.length=xs.length:=by rw[<-hk];simp
  cases h with
  |nil h0=>exact⟨none,0,by rw[<-hl,h0];rfl⟩
  |«at»a pad ha=>exact⟨_,_,by rw[hl]⟩
 have cu:IntKind.u64.wrap (xs.length:Int)=xs.length:=by have:((xs.length:Int) % 18446744073709551616)=xs.length:=aa;simpa[IntKind.wrap,IntKind.bits,IntKind.signed]using this
 refine aG cu ?_;refine aL (Sp aa) ?_;rintro w ae ⟨⟨k,hk,hw⟩,rfl⟩
 cases hw
 refine ag ?_;refine aL (alo h hn) ?_;rintro w τ ⟨hw,eN⟩
 cases hw
 refine ag ?_;exact aC du ao ⟨rfl,eN⟩
def ZQ(hY:Yields f pick key tc)(hg:cf prog f=true)(dF:σ.f bm=some (.cells #[.map (some m)] tc (0,0)))(hm:σ.f m=some (aU key l c))(hold:∀e∈l,e.2.2<c)(hn:(l.map (·.2.2)).Nodup)(gq:l.length<=1000000)(kA:∀e∈l,de (pick e)=true):
 ay E 218 #[.func (.func f) #[] #[pV bm]] σ λe τ=>σ.le τ/\∃v ks,e=.returned v/\ks.Perm (l.map pick)/\Sl 9 τ ks v/\∀a n c,v=.slice (some a) n c->σ.f a.block=none:=by
 refine aW func218 ntmps218 results218 λQ aC an aA=>?_;refine ag ?_;refine aL (Ip .YL hY hg dF hm hold hn gq kA) ?_;rintro v τ ⟨hle,v',ks,hv,h1,h2,h3⟩
 cases hv
 refine ag ?_;exact an aI ao ⟨hle,v,ks,rfl,h1,h2,h3⟩
variable {l:List (List UInt8×Value×Nat)}
theorem aof(hY:Yields f (λe:List UInt8×Value×Nat=>bR e.1) bR tc)(hg:cf prog f=true)(dF:σ.f bm=some (.cells #[.map (some m)] tc (0,0)))(hm:σ.f m=some (aU bR l c))(hold:∀e∈l,e.2.2<c)(hn:(l.map (·.2.2)).Nodup)(gq:l.length<=12):
 ay E 182 #[.func (.func f) #[] #[pV bm]] σ λe τ=>σ.le τ/\∃v ys,e=.returned v/\ys.Perm (l.map (·.1))/\dM cL ys/\Sl 9 τ (ys.map bR) v/\∀a n c,v=.slice (some a) n c->σ.f a.block=none:=by
 refine aW func182 ntmps182 results182 λQ aC an aA=>?_;refine ag ?_;refine aL (ZQ hY hg dF hm hold hn aa (λ_ _=>rfl)) ?_;rintro v τ ⟨hle,v',ks,hv,h1,h2,h3⟩
 cases hv
 obtain⟨xs,k1,rfl⟩:=zn h1 (xs:=l.map (·.1)) (f:=bR) al;refine ag ?_;have hlen:xs.length<=12:=by rw[k1.length_eq];simpa using gq
 refine aL (aob h2 hlen) ?_;rintro w cC ⟨hw,ys,p1,p2,p3,p4⟩
 cases hw
 refine ag ?_;refine an aI ao ⟨?_,v,ys,rfl,p1.trans k1,p2,p3,h3⟩;intro b o hb;rw[p4 b (λa n c e e2=>by have:=h3 a n c e;rw[<-e2,hb]at this;cases this)];exact hle b o hb
theorem ahM:ay E 183 #[.map (some m)] σ λe τ=>∃bm,e=.returned (.func (.func 220) #[] #[pV bm])/\σ.f bm=none/\τ=σ.set bm (.cells #[.map (some m)] 274 (0,0)):=by refine aW func183 ntmps183 results183 λQ aC an aA=>?_;refine ag ?_;refineλbm dF=>?_;refine ag ?_;exact an aI ao ⟨bm,rfl,dF,rfl⟩
theorem aoe(hm:σ.f m=some (aU bR l c))(hold:∀e∈l,e.2.2<c)(hn:(l.map (·.2.2)).Nodup)(gq:l.length<=12):
 ay E 139 #[.map (some m)] σ λe τ=>σ.le τ/\∃v ys,e=.returned v/\ys.Perm (l.map (·.1))/\dM cL ys/\Sl 9 τ (ys.map bR) v/\∀a n c,v=.slice (some a) n c->σ.f a.block=none:=by
 refine aW func139 ntmps139 results139 λQ aC an aA=>?_;refine ag ?_;refine aL ahM ?_;rintro w τ ⟨bm,hw,dF,rfl⟩
 cases hw
 have aE:m≠bm:=bp hm dF;have rp:(σ.set bm (.cells #[.map (some m)] 274 (0,0))).f m=some (aU bR l c):=by rw[Hp.aO _ aE];exact hm
 refine ag ?_;refine aL (aof aqu acg aY rp hold hn gq) ?_;rintro v τ ⟨hle,v',ys,hv,h1,h2,h3,h4⟩
 cases hv
 refine ag ?_;refine an aI ao ⟨?_,v,ys,rfl,h1,h2,h3,?_⟩
 ·intro b o hb;have:b≠bm:=bp hb dF;exact hle b o (by rw[Hp.aO _ this];exact hb)
 ·intro a n c e;have:=h4 a n c e;by_cases e2:a.block=bm
  ·rw[e2];exact dF
  ·rw[Hp.aO _ e2]at this;exact this
def dU(q:Nat):Value:=pV q
def uo(nm:Nat->List UInt8)(a b:Nat):Bool:=cL (nm a) (nm b)
theorem Su(nm:Nat->List UInt8):yf (uo nm):=⟨λh k=>vR.trans h k,λh=>vR.asym h⟩
def ID(i j:List UInt8):Int:=if Op.bytesLess i j then-1 else if i=j then 0 else 1
theorem ZL(i j:List UInt8):decide (ID i j<0)=cL i j:=by
 unfold ID cL
 cases h:Op.bytesLess i j
 ·by_cases e:i=j<;>simp[e]
 ·simp
theorem ZK{x y:Nat}{lx ly:List Value}{i j:List UInt8}(hx:σ.f x=some (.cells lx.toArray 81 (0,0)))(RM:lx[0]? =some (.string (B i)))(hy:σ.f y=some (.cells ly.toArray 81 (0,0)))(RS:ly[0]? =some (.string (B j))):
 ay E 51 #[dU x,dU y] σ λe' ae=>e'=.returned (.int .i64 (ID i j))/\ae=σ:=by
 refine aW func51 ntmps51 results51 λQ aC an aA=>?_;simp only[go_sem,seval,dU];refine bG 10 ?_;simp only[go_sem,seval,dU,hx,RM,hy,RS];refine aR ZU ?_;refine fO ?_;refine ag ?_;exact an aI ao ⟨rfl,rfl⟩
variable {nm:Nat->List UInt8}{xs:List Nat}
theorem ahi(hq:∀q∈xs,q≠blk/\∃l:List Value,σ.f q=some (.cells l.toArray 81 (0,0))/\l[0]? =some (.string (B (nm q))))(hb:σ.f blk=some (.cells (xs.map dU++pad).toArray 77 (0,0)))(hn:xs.length<=1000000):
 ay E 173 #[.slice (some ⟨blk,0,none⟩) xs.length cap,.int .i64 0,.int .i64 xs.length,.func (.func 51) #[] #[]] σ λe τ=>e=.returned (.tuple #[])/\∃ys,ys.Perm xs/\dM (uo nm) ys/\τ=σ.set blk (.cells (ys.map dU++pad).toArray 77 (0,0)):=by
 refine aW func173 ntmps173 results173 λQ aC an aA=>?_;refine ag ?_;refine dh (λm ρ ds ae=>ds=[]/\ρ 0=.slice (some ⟨blk,0,none⟩) xs.length cap/\ρ 1=.int .i64 0/\ρ 2=.int .i64 xs.length/\ρ 3=.func (.func 51) #[] #[]/\∃S R,m=R.length/\(S++R).Perm xs/\dM (uo nm) S/\(ρ 8=.int .i64 S.length\/(xs=[]/\S=[]/\ρ 8=.int .i64 1))/\ae=σ.set blk (.cells ((S++R).map dU++pad).toArray 77 (0,0))) (xs.length-1) ?_ ?_
 ·refine⟨rfl,?_,?_,?_,?_,xs.take 1,xs.drop 1,al,by rw[List.take_append_drop],?_,?_,?_⟩
  ·exact au
  ·exact au
  ·exact au
  ·exact au
  ·cases xs<;>simp[dM]
  ·cases xs with
   |nil=>exact .inr ⟨rfl,rfl,au⟩
   |cons x xs=>refine .inl ?_;simp only[go_sem,seval];rfl
  ·rw[List.take_append_drop,Hp.Mf hb]
 ·rintro m ρ ds ae X ⟨rfl,h0,h1,h2,h3,S,R,rfl,hp,hs,h6,rfl⟩ hX;have hlen:=hp.length_eq;rw[List.length_append]at hlen
  cases R with
  |nil=>
   have c1:∀i:Int,(i=S.length\/(xs=[]/\i=1))->¬i<(xs.length:Int):=by
    rintro i (rfl|⟨rfl,rfl⟩)
    ·simp at hlen;omega
    ·simp
   obtain⟨i,hi,pC⟩:∃i:Int,(i=S.length\/(xs=[]/\i=1))/\ρ 8=.int .i64 i:=by
    rcases h6 with h6|⟨h,_,h6⟩
    ·exact⟨_,.inl rfl,h6⟩
    ·exact⟨_,.inr ⟨h,rfl⟩,h6⟩
   have c1:=c1 i hi;refine bO h2 pC c1 ?_;exact aC du ao ⟨rfl,S,aZ hp,hs,al⟩
  |cons x R=>
   have pC:ρ 8=.int .i64 S.length:=by
    rcases h6 with h6|⟨h6,_⟩
    ·exact h6
    ·subst h6;simp at hlen
   have c1:(S.length:Int)<xs.length:=by simp at hlen;omega
   refine bO h2 pC c1 ?_;refine dh (λm ρ ds ae=>ds=[]/\ρ 0=.slice (some ⟨blk,0,none⟩) xs.length cap/\ρ 1=.int .i64 0/\ρ 2=.int .i64 xs.length/\ρ 3=.func (.func 51) #[] #[]/\ρ 8=.int .i64 S.length/\∃A B,m=A.length/\A.length+B.length=S.length/\(A++x::B++R).Perm xs/\Down (uo nm) A x B/\ρ 9=.int .i64 A.length/\ae=σ.set blk (.cells ((A++x::B++R).map dU++pad).toArray 77 (0,0))) S.length ?_ ?_
   ·refine⟨rfl,?_,?_,?_,?_,?_,S,[],rfl,al,aZ hp,.start hs,?_,al⟩<;>exact pW h0 h1 h2 h3 pC
   ·rintro m ρ ds ae X' ⟨rfl,h0,h1,h2,h3,h6,A,B,rfl,mD,hp,hd,h7,rfl⟩ wY;have gx:((A++x::B++R).map dU++pad)[A.length]? =some (dU x):=al;rcases List.eq_nil_or_concat A with rfl|⟨A,y,rfl⟩
    ·have c2:¬((([]:List Nat).length:Int)>0):=al;simp only[List.length_nil]at h7 c2;refine ag ?_;refine bG 17 ?_;refine bO h1 h6 h7 ?_;have cQ:=hd.II;refine hX R.length _ _ _ _ al ⟨rfl,?_,?_,?_,?_,x::B,R,rfl,aZ hp,cQ,.inl ?_,al⟩ ao
     ·exact aK h0
     ·exact aK h1
     ·exact aK h2
     ·exact aK h3
     ·refine ag ?_;rw[wrap64 aa aa];simp at mD;simp[mD]
    ·simp only[List.concat_eq_append]at*;have gx:((A++[y]++x::B++R).map dU++pad)[(A++[y]).length]? =some (dU x):=by simp[List.getElem?_append_right]
     have gy:((A++[y]++x::B++R).map dU++pad)[A.length]? =some (dU y):=by simp[List.getElem?_append_right]
     have c2:(((A++[y]).length:Nat):Int)>0:=al
     have c3:(0:Int)<=(((A++[y]).length:Nat):Int)/\(((A++[y]).length:Nat):Int)<xs.length:=by have:=hp.length_eq;simp at this|-;omega
     have c4:(0:Int)<=(((A++[y]).length:Nat):Int)-1/\(((A++[y]).length:Nat):Int)-1<(xs.length:Int):=by have:=hp.length_eq;simp at this|-;omega
     have c5:IntKind.i64.wrap ((((A++[y]).length:Nat):Int)-1)=(A.length:Int):=by rw[wrap64 al (by simp at c3|-;omega)];simp
     have c6:(0:Int)<=A.length/\(A.length:Int)<xs.length:=by simp at c4|-;omega
     generalize hL:(A++[y]++x::B++R).map dU++pad=L at gx gy;generalize hj:(A++[y]).length=j at*;have f1:(σ.set blk (.cells L.toArray 77 (0,0))).f blk=some (.cells L.toArray 77 (0,0)):=aY;refine ag ?_;refine bG 17 ?_;simp only[go_sem,seval,h0,h1,h3,h7,c2,c3,c5,c6,f1,gx,gy];have zc:=hq x (hp.mem_iff.1 al);have hyq:=hq y (hp.mem_iff.1 al);obtain⟨nx,lx,ex,ex0⟩:=zc;obtain⟨ny,ly,ey,ey0⟩:=hyq;rw[Eg (f:=51) (l:=#[]) (cap:=#[]) au];simp only[go_sem,seval,Array.empty_append,Array.append_empty];refine aR (ZK (by rw[Hp.aO _ nx];exact ex) ex0 (by rw[Hp.aO _ ny];exact ey) ey0) ?_;refine fO ?_;have aM:=ZL (nm x) (nm y)
     cases hl:uo nm x y with
     |false=>
      simp only[go_sem,seval,h6,aM,show cL (nm x) (nm y)=_ from hl];have cQ:=hd.IJ (Su nm) hl;refine hX R.length _ _ _ _ al ⟨rfl,?_,?_,?_,?_,A++[y]++x::B,R,rfl,aZ hp,cQ,.inl ?_,by rw[hL]⟩ ao
      ·exact aK h0
      ·exact aK h1
      ·exact aK h2
      ·exact aK h3
      ·refine ag ?_;have e1:(A++[y]++x::B).length=S.length+1:=by simp at hj mD|-;omega
       rw[e1,wrap64 aa aa];rfl
     |true=>
      simp only[go_sem,seval,aM,show cL (nm x) (nm y)=_ from hl];refine bG 18 ?_;have sk:∀x,de (dU x)=true:=λ_=>rfl;have fS:∀o,(σ.set blk o).f blk=some o:=λ_=>Hp.bD _ _;have lj:j<L.length:=(List.getElem?_eq_some_iff.1 gx).1;have lA:A.length<L.length:=(List.getElem?_eq_some_iff.1 gy).1;have Sj:A.length<(L.set j (dU y)).length:=by simpa using lA
      simp only[go_sem,seval,h0,h7,c3,c5,c6,fS,gx,gy,sk,lj];refine fO ?_;refine ag ?_;refine⟨lA,?_⟩;refine fO ?_;refine bt h7 c5 ?_
      have e1:(L.set j (dU y)).set A.length (dU x)=(A++x::(y::B)++R).map dU++pad:=by rw[<-hL,<-hj];simp[List.set_append]
      rw[e1];refine wY A.length _ _ _ _ (by rw[<-hj];simp) ⟨rfl,?_,?_,?_,?_,?_,A,y::B,rfl,by rw[<-hj]at mD;simp at mD|-;omega,?_,hd.step (Su nm) hl,?_,rfl⟩ ao
      ·exact aK h0
      ·exact aK h1
      ·exact aK h2
      ·exact aK h3
      ·exact aK h6
      ·refine List.Perm.trans ?_ hp;simp only[List.append_assoc,List.cons_append,List.nil_append];exact List.Perm.append_left _ (List.Perm.swap ..)
      ·exact au
def qd(σ:Hp)(nm:Nat->List UInt8)(xs:List Nat):Prop:=∀q∈xs,∃l:List Value,σ.f q=some (.cells l.toArray 81 (0,0))/\l[0]? =some (.string (B (nm q)))
theorem qd.perm{ys:List Nat}(h:qd σ nm xs)(p:ys.Perm xs):qd σ nm ys:=λq hq=>h q (p.mem_iff.1 hq)
variable {τ:Hp}
theorem qd.le(h:qd σ nm xs)(k:σ.le τ):qd τ nm xs:=λq hq=>by obtain⟨l,h1,h2⟩:=h q hq;exact⟨l,k _ _ h1,h2⟩
theorem ahk:ay E 173 #[.slice none 0 0,.int .i64 0,.int .i64 0,.func (.func 51) #[] #[]] σ λe τ=>e=.returned (.tuple #[])/\τ=σ:=by
 refine fI func173 ntmps173 results173 rfl al λQ aC an aA=>?_;refine ag ?_;refine dh (λm ρ ds ae=>ds=[]/\ρ 2=.int .i64 0/\ρ 8=.int .i64 1/\ae=σ) 0 ?_ ?_
 ·refine⟨rfl,?_,?_,rfl⟩<;>exact au
 ·rintro m ρ ds ae X ⟨rfl,h2,h6,rfl⟩ hX;have c:¬(1:Int)<0:=ai;refine bO h2 h6 c ?_;exact aC du ao ⟨rfl,rfl⟩
theorem ahj(hq:qd σ nm xs)(h:Sl 77 σ (xs.map dU) v)(hn:xs.length<=1000000):
 ay E 173 #[v,.int .i64 0,.int .i64 xs.length,.func (.func 51) #[] #[]] σ λe τ=>e=.returned (.tuple #[])/\∃ys,ys.Perm xs/\dM (uo nm) ys/\Sl 77 τ (ys.map dU) v/\rS σ τ v:=by
 generalize hk:xs.map dU=ks at h
 cases h with
 |nil h0=>
  have:xs=[]:=by rw[h0]at hk;simpa using hk
  subst this;refine ahk.mono ?_;rintro e τ ⟨rfl,rfl⟩;exact⟨rfl,[],.refl _,.nil,.nil rfl,λ_ _=>rfl⟩
 |«at»a pad ha=>
  have hl:ks.length=xs.length:=by rw[<-hk];simp
  rw[hl]
  have bz:∀q∈xs,q≠a/\∃l:List Value,σ.f q=some (.cells l.toArray 81 (0,0))/\l[0]? =some (.string (B (nm q))):=by intro q hqm;obtain⟨l,h1,h2⟩:=hq q hqm;refine⟨λe=>?_,l,h1,h2⟩;subst e;rw[ha]at h1;simp at h1
  refine(ahi (cap:=xs.length+pad.length) (pad:=pad) bz (by rw[hk];exact ha) hn).mono ?_;rintro e τ ⟨rfl,ys,h1,h2,rfl⟩;refine⟨rfl,ys,h1,h2,?_,?_⟩
  ·have:=Sl.at (ety:=77) (σ:=σ.set a (.cells (ys.map dU++pad).toArray 77 (0,0))) (xs:=ys.map dU) a pad aY;have e:(ys.map dU).length=xs.length:=by simpa using h1.length_eq
   rw[e]at this;exact this
  ·intro b hb;exact Hp.aO _ (hb _ _ _ rfl)
theorem aln{k:Int}(hq:qd σ nm xs)(h:Sl 77 σ (xs.map dU) v)(hn:xs.length<=12):
 ay E 137 #[v,.int .i64 0,.int .i64 xs.length,.int .i64 k,.func (.func 51) #[] #[]] σ λe τ=>e=.returned (.tuple #[])/\∃ys,ys.Perm xs/\dM (uo nm) ys/\Sl 77 τ (ys.map dU) v/\rS σ τ v:=by
 refine aW func137 ntmps137 results137 λQ aC an aA=>?_;refine ag ?_;refine dh (λm ρ ds ae=>ds=[]/\ρ 0=v/\ρ 1=.int .i64 0/\ρ 2=.int .i64 xs.length/\ρ 4=.func (.func 51) #[] #[]/\ae=σ) 0 ?_ ?_
 ·refine⟨rfl,?_,?_,?_,?_,rfl⟩<;>exact au
 ·rintro m ρ ds ae X ⟨rfl,h0,h1,h2,h4,rfl⟩ hX;have c:(xs.length:Int)<=12:=aa;have c0:IntKind.i64.wrap ((xs.length:Int)-0)=xs.length:=by rw[Int.sub_zero];exact wrap64 aa aa
  refine BC h0 h1 h2 h4 c0 c ?_;refine aL (ahj hq h aa) ?_;rintro w τ ⟨hw,eN⟩
  cases hw
  refine ag ?_;exact an du ao ⟨rfl,eN⟩
theorem aod(hq:qd σ nm xs)(h:Sl 77 σ (xs.map dU) v)(hn:xs.length<=12):
 ay E 84 #[v,.func (.func 51) #[] #[]] σ λe τ=>e=.returned (.tuple #[])/\∃ys,ys.Perm xs/\dM (uo nm) ys/\Sl 77 τ (ys.map dU) v/\rS σ τ v:=by
 refine aW func84 ntmps84 results84 λQ aC an aA=>?_
 obtain⟨base,cap,rfl⟩:∃base cap,v=.slice base xs.length cap:=by
  generalize hk:xs.map dU=ks at h;have hl:ks.length=xs.length:=by rw[<-hk];simp
  cases h with
  |nil h0=>exact⟨none,0,by rw[<-hl,h0];rfl⟩
  |«at»a pad ha=>exact⟨_,_,by rw[hl]⟩
 have cu:IntKind.u64.wrap (xs.length:Int)=xs.length:=by have:((xs.length:Int) % 18446744073709551616)=xs.length:=aa;simpa[IntKind.wrap,IntKind.bits,IntKind.signed]using this
 refine aG cu ?_;refine aL (Sp aa) ?_;rintro w ae ⟨⟨k,hk,hw⟩,rfl⟩
 cases hw
 refine ag ?_;refine aL (aln hq h hn) ?_;rintro w τ ⟨hw,eN⟩
 cases hw
 refine ag ?_;exact aC du ao ⟨rfl,eN⟩
def ZS(hY:Yields f pick key tc)(hg:cf prog f=true){l:List (α×Value×Nat)}(dF:σ.f bm=some (.cells #[.map (some m)] tc (0,0)))(hm:σ.f m=some (aU key l c))(hold:∀e∈l,e.2.2<c)(hn:(l.map (·.2.2)).Nodup)(gq:l.length<=1000000)(kA:∀e∈l,de (pick e)=true):
 ay E 83 #[.func (.func f) #[] #[pV bm]] σ λe τ=>σ.le τ/\∃v ks,e=.returned v/\ks.Perm (l.map pick)/\Sl 77 τ ks v/\∀a n c,v=.slice (some a) n c->σ.f a.block=none:=by
 refine aW func83 ntmps83 results83 λQ aC an aA=>?_;refine ag ?_;refine aL (Ip .YE hY hg dF hm hold hn gq kA) ?_;rintro v τ ⟨hle,v',ks,hv,h1,h2,h3⟩
 cases hv
 refine ag ?_;exact an aI ao ⟨hle,v,ks,rfl,h1,h2,h3⟩
theorem apN:ay E 50 #[.map (some m)] σ λe τ=>∃bm,e=.returned (.func (.func 85) #[] #[pV bm])/\σ.f bm=none/\τ=σ.set bm (.cells #[.map (some m)] 114 (0,0)):=by refine aW func50 ntmps50 results50 λQ aC an aA=>?_;refine ag ?_;refineλbm dF=>?_;refine ag ?_;exact an aI ao ⟨bm,rfl,dF,rfl⟩
theorem aoj{qs:List Nat}(dF:σ.f bm=some (.cells #[.map (some m)] 114 (0,0)))(hm:σ.f m=some (aU bR l c))(hold:∀e∈l,e.2.2<c)(hn:(l.map (·.2.2)).Nodup)(gq:l.length<=12)(mR:l.map (·.2.1)=qs.map dU)(jo:qd σ nm qs):
 ay E 49 #[.func (.func 85) #[] #[pV bm],.func (.func 51) #[] #[]] σ λe τ=>σ.le τ/\∃v ys,e=.returned v/\ys.Perm qs/\dM (uo nm) ys/\Sl 77 τ (ys.map dU) v/\∀a n c,v=.slice (some a) n c->σ.f a.block=none:=by
 refine aW func49 ntmps49 results49 λQ aC an aA=>?_
 have kA:∀e∈l,de e.2.1=true:=by
  intro e he;have:e.2.1∈qs.map dU:=by rw[<-mR];exact List.mem_map_of_mem he
  obtain⟨q,_,hq⟩:=List.mem_map.1 this;rw[<-hq];rfl
 refine ag ?_;refine aL (ZS aqx acJ dF hm hold hn aa kA) ?_;rintro v τ ⟨hle,v',ks,hv,h1,h2,h3⟩
 cases hv
 obtain⟨xs,k1,rfl⟩:=zn h1 (xs:=qs) (f:=dU) mR;refine ag ?_
 have hlen:xs.length<=12:=by have:=congrArg List.length mR;simp at this;rw[k1.length_eq];omega
 refine aL (aod ((jo.perm k1).le hle) h2 hlen) ?_;rintro w cC ⟨hw,ys,p1,p2,p3,p4⟩
 cases hw
 refine ag ?_;refine an aI ao ⟨?_,v,ys,rfl,p1.trans k1,p2,p3,h3⟩;intro b o hb;rw[p4 b (λa n c e e2=>by have:=h3 a n c e;rw[<-e2,hb]at this;cases this)];exact hle b o hb
theorem Ux{bb:Nat}{lb:List Value}{qs:List Nat}(hb:σ.f bb=some (.cells lb.toArray 116 (0,0)))(lY:lb[0]? =some (.map (some m)))(hm:σ.f m=some (aU bR l c))(hold:∀e∈l,e.2.2<c)(hn:(l.map (·.2.2)).Nodup)(gq:l.length<=12)(mR:l.map (·.2.1)=qs.map dU)(jo:qd σ nm qs):
 ay E 34 #[pV bb] σ λe τ=>σ.le τ/\∃v ys,e=.returned v/\ys.Perm qs/\dM (uo nm) ys/\Sl 77 τ (ys.map dU) v/\∀a n c,v=.slice (some a) n c->σ.f a.block=none:=by
 refine aW func34 ntmps34 results34 λQ aC an aA=>?_;refine bt hb lY ?_;refine aL apN ?_;rintro w τ ⟨bm,hw,dF,rfl⟩
 cases hw
 have aE:∀{b o},σ.f b=some o->b≠bm:=λh e=>by subst e;rw[dF]at h;cases h
 have jV:σ.le (σ.set bm (.cells #[.map (some m)] 114 (0,0))):=λb o h=>by rw[Hp.aO _ (aE h)];exact h
 have rp:=jV _ _ hm;refine ag ?_;refine aL (aoj aY rp hold hn gq mR (jo.le jV)) ?_;rintro v τ ⟨hle,v',ys,hv,h1,h2,h3,h4⟩
 cases hv
 refine ag ?_;refine an aI ao ⟨Hp.le_trans jV hle,v,ys,rfl,h1,h2,h3,?_⟩;intro a n c e;have:=h4 a n c e;by_cases e2:a.block=bm
 ·rw[e2];exact dF
 ·rw[Hp.aO _ e2]at this;exact this
variable {t:TypeId}{m i v:Operand}
theorem agU:cT (.mapUpdate t m i v)=false:=bl
theorem agO:cT (.insert t m i v)=false:=bl
theorem agS{ok:Bool}:cT (.lookup t m i ok)=false:=bl
theorem agP{r:Operand}{m:String}{a:Array Operand}{b:Array TypeId}:cT (.call ⟨.invoke r m,a,b⟩)=false:=bl
variable {x:Array Operand}{a:Array TypeId}
theorem agI:cT (.call ⟨.builtin .delete,x,a⟩)=false:=bl
theorem agG:cT (.call ⟨.builtin .clear,x,a⟩)=false:=bl
attribute [go_sem] agU agO agS agP agI agG
structure Has (L:List (Nat×Obj)) (σ:Hp):Prop where
 nd:(L.map (·.1)).Nodup
 all:∀p∈L,σ.f p.1=some p.2
variable {b:Nat}
theorem Hp.az{x:Nat}(h:¬x=b):(σ.set b o).f x=σ.f x:=Hp.aO _ h
variable {L:List (Nat×Obj)}
theorem Has.le(h:Has L σ)(k:σ.le τ):Has L τ:=⟨h.nd,λp hp=>k _ _ (h.all p hp)⟩
theorem Has.at(h:Has L σ)(n:Nat)(hn:L[n]? =some (b,o)):σ.f b=some o:=h.all _ (List.mem_of_getElem? hn)
theorem Has.get(h:Has L σ)(hm:(b,o)∈L):σ.f b=some o:=h.all _ hm
variable {o':Obj}
theorem Has.ne(h:Has L σ){i j:Nat}{b':Nat}(hi:L[i]? =some (b,o))(hj:L[j]? =some (b',o'))(qB:i≠j):¬b=b':=by
 intro e;subst e;obtain⟨l9,J2⟩:=List.getElem?_eq_some_iff.1 hi;obtain⟨mM,qC⟩:=List.getElem?_eq_some_iff.1 hj;have:=h.nd;rw[List.nodup_iff_pairwise_ne]at this
 have key:∀i j (l9:i<L.length) (mM:j<L.length),i<j->(L[i]).1≠(L[j]).1:=by intro i j l9 mM qB;have h1:=List.pairwise_iff_getElem.1 this i j (aZ l9) (aZ mM) qB;simpa using h1
 rcases Nat.lt_or_gt_of_ne qB with h1|h1
 ·exact key i j l9 mM h1 (by rw[J2,qC])
 ·exact key j i mM l9 h1 (by rw[J2,qC])
theorem Has.perm{L':List (Nat×Obj)}(h:Has L σ)(p:L'.Perm L):Has L' σ:=
 ⟨(p.map _).nodup_iff.2 h.nd,λx hx=>h.all x (p.mem_iff.1 hx)⟩
theorem Has.sub{L':List (Nat×Obj)}(h:Has L σ)(p:L'.Sublist L):Has L' σ:=
 ⟨h.nd.sublist (p.map _),λx hx=>h.all x (p.subset hx)⟩
theorem Has.set (h:Has L σ)(n:Nat)(hn:L[n]? =some (b,o))(o':Obj):Has (L.set n (b,o')) (σ.set b o'):=by
 obtain⟨h1,h2⟩:=List.getElem?_eq_some_iff.1 hn
 have e:(L.set n (b,o')).map (·.1)=L.map (·.1):=by
  rw[List.map_set];apply List.ext_getElem?;intro i;rw[List.getElem?_set];by_cases hi:n=i
  ·subst hi;simp[h1,h2]
  ·simp[hi]
 refine⟨by rw[e];exact h.nd,λp hp=>?_⟩;obtain⟨i,hi,rfl⟩:=List.mem_iff_getElem.1 hp;rw[List.getElem_set];by_cases Kg:n=i
 ·subst Kg;simp[Hp.bD]
 ·simp only[Kg,if_false];have FY:i<L.length:=aZ hi;have this:¬(L[i]).1=b:=h.ne (i:=i) (j:=n) (List.getElem?_eq_getElem FY) hn (λe=>Kg e.symm);rw[Hp.aO _ this];exact h.all _ (List.getElem_mem FY)
theorem Has.new(h:Has L σ)(hb:σ.f b=none)(o:Obj):Has ((b,o)::L) (σ.set b o):=by
 have aE:∀p∈L,p.1≠b:=λp hp e=>by have:=h.all p hp;rw[e,hb]at this;cases this
 refine⟨?_,λp hp=>?_⟩
 ·rw[List.map_cons,List.nodup_cons];refine⟨λhm=>?_,h.nd⟩;obtain⟨p,hp,e⟩:=List.mem_map.1 hm;exact aE p hp e
 ·rcases List.mem_cons.1 hp with rfl|hp
  ·exact Hp.bD _ _
  ·rw[Hp.aO _ (aE p hp)];exact h.all p hp
theorem Has.only(h:Has L σ){v:Value}(k:rS σ τ v)(hv:∀a n c,v=.slice (some a) n c->∀p∈L,p.1≠a.block):Has L τ:=
 ⟨h.nd,λp hp=>by rw[k p.1 (λa n c e=>hv a n c e p hp)];exact h.all p hp⟩
abbrev iV(i:Int):Value:=.int .i64 i
abbrev sV(l:List UInt8):Value:=.string (B l)
structure jA where
 jc:Int
 frame:Int
 gh:Int
 queue:Int
 body:Int
def jA.vals(c:jA):List Value:=[iV c.jc,iV c.frame,iV c.gh,iV c.queue,iV c.body]
def eE(cfg:jA)(br mc:Nat)(clock last:Int):Obj:=.cells [iV cfg.jc,iV cfg.frame,iV cfg.gh,iV cfg.queue,iV cfg.body,pV br,iV clock,iV last,.map (some mc)].toArray 74 (0,0)
def gZ(mq:Nat)(dg messages bh:Int):Obj:=.cells [.map (some mq),iV dg,iV messages,iV bh].toArray 116 (0,0)
structure CR where
 ph:Int
 rest:List UInt8
 kx:Bool
 dg:Int
 frame:Int
 gh:Int
 gV:Int
 recv:Int
 out:List UInt8
def CR.vals(g:Nat)(id:Int)(chm:Nat)(c:CR):List Value:=[pV g,iV id,iV c.ph,sV c.rest,.bool c.kx,.map (some chm),iV c.dg,iV c.frame,iV c.gh,iV c.gV,iV c.recv,sV c.out]
def fi(g:Nat)(id:Int)(chm:Nat)(c:CR):Obj:=.cells (c.vals g id chm).toArray 90 (0,0)
structure HR where
 closing:Bool
 ng:Int
 tag:Int
 want:Int
 key:List UInt8
 body:List UInt8
 size:Int
def HR.vals(c:Nat)(no:Int)(un co:Nat)(h:HR):List Value:=[pV c,iV no,.bool h.closing,iV h.ng,iV h.tag,.map (some un),.map (some co),iV h.want,sV h.key,sV h.body,iV h.size]
def iu(c:Nat)(no:Int)(un co:Nat)(h:HR):Obj:=.cells (h.vals c no un co).toArray 276 (0,0)
def fw(name:List UInt8)(ready:Value)(held last:Int)(cons:Value):Obj:=.cells [sV name,ready,iV held,iV last,cons].toArray 81 (0,0)
theorem S4{dg:Int}:ay E 46 #[iV dg] σ λe τ=>∃b m,e=.returned (pV b)/\σ.f m=none/\b≠m/\σ.f b=none/\τ=(σ.set m (aU bR [] 0)).set b (gZ m dg 0 0):=by refine aW func46 ntmps46 results46 λQ aC an aA=>?_;refine ag ?_;refineλm hm=>?_;refine ag ?_;refineλb hb=>?_;refine ag ?_;have aE:b≠m:=bp hb aY;rw[Hp.aO _ aE]at hb;exact an aI ao ⟨b,m,rfl,hm,aE,hb,rfl⟩
end Go.Qw
