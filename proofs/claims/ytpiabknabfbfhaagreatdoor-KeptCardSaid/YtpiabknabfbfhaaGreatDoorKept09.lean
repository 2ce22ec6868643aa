/- 9 -/
import Derived.Test.YtpiabknabfbfhaaGreatDoorKept08
set_option linter.all false
set_option maxRecDepth 100000
set_option maxHeartbeats 8000000
namespace Go.Qw
open Go Go.Conc Go.Proofs Go.Proofs.Tryz
abbrev cP(a b:List UInt8):Bool:=Op.bytesLess a b
def Tg{a b:UInt8}:a<b↔a.toNat<b.toNat:=UInt8.lt_iff_toNat_lt
def wK:yI cP:=by
 have cc:∀(x y:UInt8) (a b:List UInt8),cP (x::a) (y::b)=(decide (x<y)||(x==y&&cP a b)):=λ_ _ _ _=>rfl;have cn:∀a,cP a []=false:=λa=>by cases a<;>rfl
 have nc:∀y b,cP [] (y::b)=true:=λ_ _=>rfl;refine⟨?_,?_⟩
 ·intro a b c
  induction b generalizing a c with
  |nil=>
   intro h1 _
   cases a with
   |nil=>exact cn c
   |cons x a=>rw[nc]at h1;cases h1
  |cons y b ih=>
   intro h1 h2
   cases a with
   |nil=>exact cn c
   |cons x a=>
    cases c with
    |nil=>rw[nc]at h2;cases h2
    |cons z c=>
     rw[cc]at*;simp only[Bool.or_eq_false_iff,decide_eq_false_iff_not,Bool.and_eq_false_iff,beq_eq_false_iff_ne,ne_eq,Tg]at*;obtain⟨p1,p2⟩:=h1;obtain⟨q1,q2⟩:=h2;refine⟨aa,?_⟩;by_cases e:z=x
     ·right;subst e;have e2:z=y:=UInt8.toNat_inj.1 aa;subst e2;exact ih (p2.resolve_left al) (q2.resolve_left al)
     ·exact .inl e
 ·intro a
  induction a with
  |nil=>intro b h;exact cn b
  |cons x a ih=>
   intro b h
   cases b with
   |nil=>rw[cn]at h;cases h
   |cons y b=>
    rw[cc]at*;simp only[Bool.or_eq_false_iff,Bool.or_eq_true,Bool.and_eq_true,decide_eq_true_eq,decide_eq_false_iff_not,Bool.and_eq_false_iff,beq_iff_eq,beq_eq_false_iff_ne,ne_eq,Tg]at*;rcases h with h|⟨rfl,h⟩
    ·exact⟨aa,.inl (λe=>by subst e;omega)⟩
    ·exact⟨aa,.inr (ih h)⟩
variable {E:Env prog}{U:Hp}{xs:List (List UInt8)}{blk cap:Nat}{pad:List Value}
def aim(hb:U.f blk=some (.cells (xs.map bT++pad).toArray 9 (0,0)))(hn:xs.length<=1000000):
 aw E 256 #[.slice (some ⟨blk,0,none⟩) xs.length cap,.int .i64 0,.int .i64 xs.length] U λe J=>e=.returned (.tuple #[])/\∃ys,ys.Perm xs/\dR cP ys/\J=U.set blk (.cells (ys.map bT++pad).toArray 9 (0,0)):=by
 refine aV func256 ntmps256 results256 λQ aD an aB=>?_;refine ag ?_;refine dh (λm I ds ae=>ds=[]/\I 0=.slice (some ⟨blk,0,none⟩) xs.length cap/\I 1=.int .i64 0/\I 2=.int .i64 xs.length/\∃S R,m=R.length/\(S++R).Perm xs/\dR cP S/\(I 6=.int .i64 S.length\/(xs=[]/\S=[]/\I 6=.int .i64 1))/\ae=U.set blk (.cells ((S++R).map bT++pad).toArray 9 (0,0))) (xs.length-1) ?_ ?_
 ·refine⟨rfl,?_,?_,?_,xs.take 1,xs.drop 1,al,by rw[List.take_append_drop],?_,?_,?_⟩
  ·exact au
  ·exact au
  ·exact au
  ·cases xs<;>simp[dR]
  ·cases xs with
   |nil=>exact .inr ⟨rfl,rfl,au⟩
   |cons x xs=>refine .inl ?_;simp only[go_sem,seval];rfl
  ·rw[List.take_append_drop,Hp.MU hb]
 ·rintro m I ds ae X ⟨rfl,h0,h1,h2,S,R,rfl,hp,hs,h6,rfl⟩ hX;have hlen:=hp.length_eq;rw[List.length_append]at hlen
  cases R with
  |nil=>
   have c1:∀i:Int,(i=S.length\/(xs=[]/\i=1))->¬i<(xs.length:Int):=by
    rintro i (rfl|⟨rfl,rfl⟩)
    ·simp at hlen;omega
    ·simp
   obtain⟨i,hi,pW⟩:∃i:Int,(i=S.length\/(xs=[]/\i=1))/\I 6=.int .i64 i:=by
    rcases h6 with h6|⟨h,_,h6⟩
    ·exact⟨_,.inl rfl,h6⟩
    ·exact⟨_,.inr ⟨h,rfl⟩,h6⟩
   have c1:=c1 i hi;refine bN h2 pW c1 ?_;exact aD dz ao ⟨rfl,S,aY hp,hs,al⟩
  |cons x R=>
   have pW:I 6=.int .i64 S.length:=by
    rcases h6 with h6|⟨h6,_⟩
    ·exact h6
    ·subst h6;simp at hlen
   have c1:(S.length:Int)<xs.length:=by simp at hlen;omega
   refine bN h2 pW c1 ?_;refine dh (λm I ds ae=>ds=[]/\I 0=.slice (some ⟨blk,0,none⟩) xs.length cap/\I 1=.int .i64 0/\I 2=.int .i64 xs.length/\I 6=.int .i64 S.length/\∃A B,m=A.length/\A.length+B.length=S.length/\(A++x::B++R).Perm xs/\Down cP A x B/\I 7=.int .i64 A.length/\ae=U.set blk (.cells ((A++x::B++R).map bT++pad).toArray 9 (0,0))) S.length ?_ ?_
   ·refine⟨rfl,?_,?_,?_,?_,S,[],rfl,al,aY hp,.start hs,?_,al⟩<;>exact iP h0 h1 h2 pW
   ·rintro m I ds ae X' ⟨rfl,h0,h1,h2,h6,A,B,rfl,np,hp,hd,h7,rfl⟩ xC;have gx:((A++x::B++R).map bT++pad)[A.length]? =some (bT x):=al;rcases List.eq_nil_or_concat A with rfl|⟨A,y,rfl⟩
    ·have c2:¬((([]:List (List UInt8)).length:Int)>0):=al;simp only[List.length_nil]at h7 c2;refine ag ?_;refine bJ 15 ?_;refine bN h1 h6 h7 ?_;have cT:=hd.Jq;refine hX R.length _ _ _ _ al ⟨rfl,?_,?_,?_,x::B,R,rfl,aY hp,cT,.inl ?_,al⟩ ao
     ·exact aQ h0
     ·exact aQ h1
     ·exact aQ h2
     ·refine ag ?_;rw[wrap64 aa aa];simp at np;simp[np]
    ·simp only[List.concat_eq_append]at*;have gx:((A++[y]++x::B++R).map bT++pad)[(A++[y]).length]? =some (bT x):=by simp[List.getElem?_append_right]
     have gy:((A++[y]++x::B++R).map bT++pad)[A.length]? =some (bT y):=by simp[List.getElem?_append_right]
     have c2:(((A++[y]).length:Nat):Int)>0:=al
     have c3:(0:Int)<=(((A++[y]).length:Nat):Int)/\(((A++[y]).length:Nat):Int)<xs.length:=by have:=hp.length_eq;simp at this|-;omega
     have c4:(0:Int)<=(((A++[y]).length:Nat):Int)-1/\(((A++[y]).length:Nat):Int)-1<(xs.length:Int):=by have:=hp.length_eq;simp at this|-;omega
     have c5:IntKind.i64.wrap ((((A++[y]).length:Nat):Int)-1)=(A.length:Int):=by rw[wrap64 al (by simp at c3|-;omega)];simp
     have c6:(0:Int)<=A.length/\(A.length:Int)<xs.length:=by simp at c4|-;omega
     generalize hL:(A++[y]++x::B++R).map bT++pad=L at gx gy;generalize hj:(A++[y]).length=j at*;have f1:(U.set blk (.cells L.toArray 9 (0,0))).f blk=some (.cells L.toArray 9 (0,0)):=aX;refine ag ?_;refine bJ 15 ?_;simp only[go_sem,seval,h0,h1,h7,c2,c3,c5,c6,f1,gx,gy];refine aZ ajB ?_;refine gp ?_
     cases hl:Op.bytesLess x y with
     |false=>
      refine aJ h6 ?_;have cT:=hd.Jr wK (show cP x y=false from hl);refine hX R.length _ _ _ _ al ⟨rfl,?_,?_,?_,A++[y]++x::B,R,rfl,aY hp,cT,.inl ?_,by rw[hL]⟩ ao
      ·exact aQ h0
      ·exact aQ h1
      ·exact aQ h2
      ·refine ag ?_;have e1:(A++[y]++x::B).length=S.length+1:=by simp at hj np|-;omega
       rw[e1,wrap64 aa aa];rfl
     |true=>
      refine ag ?_;refine bJ 18 ?_;have sk:∀x,dn (bT x)=true:=λ_=>rfl;have fS:∀o,(U.set blk o).f blk=some o:=λ_=>Hp.bD _ _;have lj:j<L.length:=(List.getElem?_eq_some_iff.1 gx).1;have lA:A.length<L.length:=(List.getElem?_eq_some_iff.1 gy).1;have S5:A.length<(L.set j (bT y)).length:=by simpa using lA
      simp only[go_sem,seval,h0,h7,c3,c5,c6,fS,gx,gy,sk,lj];refine gp ?_;refine ag ?_;refine⟨lA,?_⟩;refine gp ?_;refine bu h7 c5 ?_
      have e1:(L.set j (bT y)).set A.length (bT x)=(A++x::(y::B)++R).map bT++pad:=by rw[<-hL,<-hj];simp[List.set_append]
      rw[e1];refine xC A.length _ _ _ _ (by rw[<-hj];simp) ⟨rfl,?_,?_,?_,?_,A,y::B,rfl,by rw[<-hj]at np;simp at np|-;omega,?_,hd.step wK hl,?_,rfl⟩ ao
      ·exact aQ h0
      ·exact aQ h1
      ·exact aQ h2
      ·exact aQ h6
      ·refine List.Perm.trans ?_ hp;simp only[List.append_assoc,List.cons_append,List.nil_append];exact List.Perm.append_left _ (List.Perm.swap ..)
      ·exact au
def aio:aw E 256 #[.slice none 0 0,.int .i64 0,.int .i64 0] U λe J=>e=.returned (.tuple #[])/\J=U:=by
 refine fZ func256 ntmps256 results256 rfl al λQ aD an aB=>?_;refine ag ?_;refine dh (λm I ds ae=>ds=[]/\I 2=.int .i64 0/\I 6=.int .i64 1/\ae=U) 0 ?_ ?_
 ·refine⟨rfl,?_,?_,rfl⟩<;>exact au
 ·rintro m I ds ae X ⟨rfl,h2,h6,rfl⟩ hX;have c:¬(1:Int)<0:=ai;refine bN h2 h6 c ?_;exact aD dz ao ⟨rfl,rfl⟩
variable {v:Value}
def ain(h:Sl 9 U (xs.map bT) v)(hn:xs.length<=1000000):
 aw E 256 #[v,.int .i64 0,.int .i64 xs.length] U λe J=>e=.returned (.tuple #[])/\∃ys,ys.Perm xs/\dR cP ys/\Sl 9 J (ys.map bT) v/\sJ U J v:=by
 generalize hk:xs.map bT=ks at h
 cases h with
 |nil h0=>
  have:xs=[]:=by rw[h0]at hk;simpa using hk
  subst this;refine aio.mono ?_;rintro e J ⟨rfl,rfl⟩;exact⟨rfl,[],.refl _,.nil,.nil rfl,λ_ _=>rfl⟩
 |«at»a pad ha=>
  have hl:ks.length=xs.length:=by rw[<-hk];simp
  rw[hl];refine(aim (cap:=xs.length+pad.length) (pad:=pad) (by rw[hk];exact ha) hn).mono ?_;rintro e J ⟨rfl,ys,h1,h2,rfl⟩;refine⟨rfl,ys,h1,h2,?_,?_⟩
  ·have:=Sl.at (ety:=9) (U:=U.set a (.cells (ys.map bT++pad).toArray 9 (0,0))) (xs:=ys.map bT) a pad aX;have e:(ys.map bT).length=xs.length:=by simpa using h1.length_eq
   rw[e]at this;exact this
  ·intro b hb;exact Hp.aM _ (hb _ _ _ rfl)
def amr{k:Int}(h:Sl 9 U (xs.map bT) v)(hn:xs.length<=12):
 aw E 240 #[v,.int .i64 0,.int .i64 xs.length,.int .i64 k] U λe J=>e=.returned (.tuple #[])/\∃ys,ys.Perm xs/\dR cP ys/\Sl 9 J (ys.map bT) v/\sJ U J v:=by
 refine aV func240 ntmps240 results240 λQ aD an aB=>?_;refine ag ?_;refine dh (λm I ds ae=>ds=[]/\I 0=v/\I 1=.int .i64 0/\I 2=.int .i64 xs.length/\ae=U) 0 ?_ ?_
 ·refine⟨rfl,?_,?_,?_,rfl⟩<;>exact au
 ·rintro m I ds ae X ⟨rfl,h0,h1,h2,rfl⟩ hX;have c:(xs.length:Int)<=12:=aa;have c0:IntKind.i64.wrap ((xs.length:Int)-0)=xs.length:=by rw[Int.sub_zero];exact wrap64 aa aa
  refine mr h0 h1 h2 c0 c ?_;refine aL (ain h aa) ?_;rintro w J ⟨hw,eE⟩
  cases hw
  refine ag ?_;exact an dz ao ⟨rfl,eE⟩
def aph(h:Sl 9 U (xs.map bT) v)(hn:xs.length<=12):
 aw E 219 #[v] U λe J=>e=.returned (.tuple #[])/\∃ys,ys.Perm xs/\dR cP ys/\Sl 9 J (ys.map bT) v/\sJ U J v:=by
 refine aV func219 ntmps219 results219 λQ aD an aB=>?_
 obtain⟨base,cap,rfl⟩:∃base cap,v=.slice base xs.length cap:=by
  generalize hk:xs.map bT=ks at h;have hl:ks.length=xs.length:=by rw[<-hk];simp
  cases h with
  |nil h0=>exact⟨none,0,by rw[<-hl,h0];rfl⟩
  |«at»a pad ha=>exact⟨_,_,by rw[hl]⟩
 have cu:IntKind.u64.wrap (xs.length:Int)=xs.length:=by have:((xs.length:Int) % 18446744073709551616)=xs.length:=aa;simpa[IntKind.wrap,IntKind.bits,IntKind.signed]using this
 refine aJ cu ?_;refine aL (Ta aa) ?_;rintro w ae ⟨⟨k,hk,hw⟩,rfl⟩
 cases hw
 refine ag ?_;refine aL (amr h hn) ?_;rintro w J ⟨hw,eE⟩
 cases hw
 refine ag ?_;exact aD dz ao ⟨rfl,eE⟩
variable {f:FuncId}{α:Type}{pick:α×Value×Nat->Value}{key:α->Value}{tc:TypeId}{bm m c:Nat}
def aaR(hY:Yields f pick key tc)(hg:cz prog f=true){l:List (α×Value×Nat)}(dI:U.f bm=some (.cells #[.map (some m)] tc (0,0)))(hm:U.f m=some (aU key l c))(hold:∀e∈l,e.2.2<c)(hn:(l.map (·.2.2)).Nodup)(gL:l.length<=1000000)(kV:∀e∈l,dn (pick e)=true):
 aw E 218 #[.func (.func f) #[] #[pV bm]] U λe J=>U.le J/\∃v ks,e=.returned v/\ks.Perm (l.map pick)/\Sl 9 J ks v/\∀a n c,v=.slice (some a) n c->U.f a.block=none:=by
 refine aV func218 ntmps218 results218 λQ aD an aB=>?_;refine ag ?_;refine aL (I6 .ZP hY hg dI hm hold hn gL kV) ?_;rintro v J ⟨hle,v',ks,hv,h1,h2,h3⟩
 cases hv
 refine ag ?_;exact an aI ao ⟨hle,v,ks,rfl,h1,h2,h3⟩
variable {l:List (List UInt8×Value×Nat)}
def apl(hY:Yields f (λe:List UInt8×Value×Nat=>bT e.1) bT tc)(hg:cz prog f=true)(dI:U.f bm=some (.cells #[.map (some m)] tc (0,0)))(hm:U.f m=some (aU bT l c))(hold:∀e∈l,e.2.2<c)(hn:(l.map (·.2.2)).Nodup)(gL:l.length<=12):
 aw E 182 #[.func (.func f) #[] #[pV bm]] U λe J=>U.le J/\∃v ys,e=.returned v/\ys.Perm (l.map (·.1))/\dR cP ys/\Sl 9 J (ys.map bT) v/\∀a n c,v=.slice (some a) n c->U.f a.block=none:=by
 refine aV func182 ntmps182 results182 λQ aD an aB=>?_;refine ag ?_;refine aL (aaR hY hg dI hm hold hn aa (λ_ _=>rfl)) ?_;rintro v J ⟨hle,v',ks,hv,h1,h2,h3⟩
 cases hv
 obtain⟨xs,k1,rfl⟩:=zR h1 (xs:=l.map (·.1)) (f:=bT) al;refine ag ?_;have hlen:xs.length<=12:=by rw[k1.length_eq];simpa using gL
 refine aL (aph h2 hlen) ?_;rintro w bW ⟨hw,ys,p1,p2,p3,p4⟩
 cases hw
 refine ag ?_;refine an aI ao ⟨?_,v,ys,rfl,p1.trans k1,p2,p3,h3⟩;intro b o hb;rw[p4 b (λa n c e e2=>by have:=h3 a n c e;rw[<-e2,hb]at this;cases this)];exact hle b o hb
def aiQ:aw E 183 #[.map (some m)] U λe J=>∃bm,e=.returned (.func (.func 220) #[] #[pV bm])/\U.f bm=none/\J=U.set bm (.cells #[.map (some m)] 274 (0,0)):=by refine aV func183 ntmps183 results183 λQ aD an aB=>?_;refine ag ?_;refineλbm dI=>?_;refine ag ?_;exact an aI ao ⟨bm,rfl,dI,rfl⟩
def apk(hm:U.f m=some (aU bT l c))(hold:∀e∈l,e.2.2<c)(hn:(l.map (·.2.2)).Nodup)(gL:l.length<=12):
 aw E 139 #[.map (some m)] U λe J=>U.le J/\∃v ys,e=.returned v/\ys.Perm (l.map (·.1))/\dR cP ys/\Sl 9 J (ys.map bT) v/\∀a n c,v=.slice (some a) n c->U.f a.block=none:=by
 refine aV func139 ntmps139 results139 λQ aD an aB=>?_;refine ag ?_;refine aL aiQ ?_;rintro w J ⟨bm,hw,dI,rfl⟩
 cases hw
 have aE:m≠bm:=bl hm dI;have rU:(U.set bm (.cells #[.map (some m)] 274 (0,0))).f m=some (aU bT l c):=by rw[Hp.aM _ aE];exact hm
 refine ag ?_;refine aL (apl arE adn aX rU hold hn gL) ?_;rintro v J ⟨hle,v',ys,hv,h1,h2,h3,h4⟩
 cases hv
 refine ag ?_;refine an aI ao ⟨?_,v,ys,rfl,h1,h2,h3,?_⟩
 ·intro b o hb;have:b≠bm:=bl hb dI;exact hle b o (by rw[Hp.aM _ this];exact hb)
 ·intro a n c e;have:=h4 a n c e;by_cases e2:a.block=bm
  ·rw[e2];exact dI
  ·rw[Hp.aM _ e2]at this;exact this
def dY(q:Nat):Value:=pV q
def uW(nm:Nat->List UInt8)(a b:Nat):Bool:=cP (nm a) (nm b)
def Te(nm:Nat->List UInt8):yI (uW nm):=⟨λh k=>wK.trans h k,λh=>wK.asym h⟩
def Jk(i j:List UInt8):Int:=if Op.bytesLess i j then-1 else if i=j then 0 else 1
def aaM(i j:List UInt8):decide (Jk i j<0)=cP i j:=by
 unfold Jk cP
 cases h:Op.bytesLess i j
 ·by_cases e:i=j<;>simp[e]
 ·simp
def aaL{x y:Nat}{lx ly:List Value}{i j:List UInt8}(hx:U.f x=some (.cells lx.toArray 81 (0,0)))(Sw:lx[0]? =some (.string (B i)))(hy:U.f y=some (.cells ly.toArray 81 (0,0)))(SC:ly[0]? =some (.string (B j))):
 aw E 51 #[dY x,dY y] U λe' ae=>e'=.returned (.int .i64 (Jk i j))/\ae=U:=by
 refine aV func51 ntmps51 results51 λQ aD an aB=>?_;simp only[go_sem,seval,dY];refine bJ 10 ?_;simp only[go_sem,seval,dY,hx,Sw,hy,SC];refine aZ aaV ?_;refine gp ?_;refine ag ?_;exact an aI ao ⟨rfl,rfl⟩
variable {nm:Nat->List UInt8}{xs:List Nat}
def aij(hq:∀q∈xs,q≠blk/\∃l:List Value,U.f q=some (.cells l.toArray 81 (0,0))/\l[0]? =some (.string (B (nm q))))(hb:U.f blk=some (.cells (xs.map dY++pad).toArray 77 (0,0)))(hn:xs.length<=1000000):
 aw E 173 #[.slice (some ⟨blk,0,none⟩) xs.length cap,.int .i64 0,.int .i64 xs.length,.func (.func 51) #[] #[]] U λe J=>e=.returned (.tuple #[])/\∃ys,ys.Perm xs/\dR (uW nm) ys/\J=U.set blk (.cells (ys.map dY++pad).toArray 77 (0,0)):=by
 refine aV func173 ntmps173 results173 λQ aD an aB=>?_;refine ag ?_;refine dh (λm I ds ae=>ds=[]/\I 0=.slice (some ⟨blk,0,none⟩) xs.length cap/\I 1=.int .i64 0/\I 2=.int .i64 xs.length/\I 3=.func (.func 51) #[] #[]/\∃S R,m=R.length/\(S++R).Perm xs/\dR (uW nm) S/\(I 8=.int .i64 S.length\/(xs=[]/\S=[]/\I 8=.int .i64 1))/\ae=U.set blk (.cells ((S++R).map dY++pad).toArray 77 (0,0))) (xs.length-1) ?_ ?_
 ·refine⟨rfl,?_,?_,?_,?_,xs.take 1,xs.drop 1,al,by rw[List.take_append_drop],?_,?_,?_⟩
  ·exact au
  ·exact au
  ·exact au
  ·exact au
  ·cases xs<;>simp[dR]
  ·cases xs with
   |nil=>exact .inr ⟨rfl,rfl,au⟩
   |cons x xs=>refine .inl ?_;simp only[go_sem,seval];rfl
  ·rw[List.take_append_drop,Hp.MU hb]
 ·rintro m I ds ae X ⟨rfl,h0,h1,h2,h3,S,R,rfl,hp,hs,h6,rfl⟩ hX;have hlen:=hp.length_eq;rw[List.length_append]at hlen
  cases R with
  |nil=>
   have c1:∀i:Int,(i=S.length\/(xs=[]/\i=1))->¬i<(xs.length:Int):=by
    rintro i (rfl|⟨rfl,rfl⟩)
    ·simp at hlen;omega
    ·simp
   obtain⟨i,hi,pW⟩:∃i:Int,(i=S.length\/(xs=[]/\i=1))/\I 8=.int .i64 i:=by
    rcases h6 with h6|⟨h,_,h6⟩
    ·exact⟨_,.inl rfl,h6⟩
    ·exact⟨_,.inr ⟨h,rfl⟩,h6⟩
   have c1:=c1 i hi;refine bN h2 pW c1 ?_;exact aD dz ao ⟨rfl,S,aY hp,hs,al⟩
  |cons x R=>
   have pW:I 8=.int .i64 S.length:=by
    rcases h6 with h6|⟨h6,_⟩
    ·exact h6
    ·subst h6;simp at hlen
   have c1:(S.length:Int)<xs.length:=by simp at hlen;omega
   refine bN h2 pW c1 ?_;refine dh (λm I ds ae=>ds=[]/\I 0=.slice (some ⟨blk,0,none⟩) xs.length cap/\I 1=.int .i64 0/\I 2=.int .i64 xs.length/\I 3=.func (.func 51) #[] #[]/\I 8=.int .i64 S.length/\∃A B,m=A.length/\A.length+B.length=S.length/\(A++x::B++R).Perm xs/\Down (uW nm) A x B/\I 9=.int .i64 A.length/\ae=U.set blk (.cells ((A++x::B++R).map dY++pad).toArray 77 (0,0))) S.length ?_ ?_
   ·refine⟨rfl,?_,?_,?_,?_,?_,S,[],rfl,al,aY hp,.start hs,?_,al⟩<;>exact qy h0 h1 h2 h3 pW
   ·rintro m I ds ae X' ⟨rfl,h0,h1,h2,h3,h6,A,B,rfl,np,hp,hd,h7,rfl⟩ xC;have gx:((A++x::B++R).map dY++pad)[A.length]? =some (dY x):=al;rcases List.eq_nil_or_concat A with rfl|⟨A,y,rfl⟩
    ·have c2:¬((([]:List Nat).length:Int)>0):=al;simp only[List.length_nil]at h7 c2;refine ag ?_;refine bJ 17 ?_;refine bN h1 h6 h7 ?_;have cT:=hd.Jq;refine hX R.length _ _ _ _ al ⟨rfl,?_,?_,?_,?_,x::B,R,rfl,aY hp,cT,.inl ?_,al⟩ ao
     ·exact aQ h0
     ·exact aQ h1
     ·exact aQ h2
     ·exact aQ h3
     ·refine ag ?_;rw[wrap64 aa aa];simp at np;simp[np]
    ·simp only[List.concat_eq_append]at*;have gx:((A++[y]++x::B++R).map dY++pad)[(A++[y]).length]? =some (dY x):=by simp[List.getElem?_append_right]
     have gy:((A++[y]++x::B++R).map dY++pad)[A.length]? =some (dY y):=by simp[List.getElem?_append_right]
     have c2:(((A++[y]).length:Nat):Int)>0:=al
     have c3:(0:Int)<=(((A++[y]).length:Nat):Int)/\(((A++[y]).length:Nat):Int)<xs.length:=by have:=hp.length_eq;simp at this|-;omega
     have c4:(0:Int)<=(((A++[y]).length:Nat):Int)-1/\(((A++[y]).length:Nat):Int)-1<(xs.length:Int):=by have:=hp.length_eq;simp at this|-;omega
     have c5:IntKind.i64.wrap ((((A++[y]).length:Nat):Int)-1)=(A.length:Int):=by rw[wrap64 al (by simp at c3|-;omega)];simp
     have c6:(0:Int)<=A.length/\(A.length:Int)<xs.length:=by simp at c4|-;omega
     generalize hL:(A++[y]++x::B++R).map dY++pad=L at gx gy;generalize hj:(A++[y]).length=j at*;have f1:(U.set blk (.cells L.toArray 77 (0,0))).f blk=some (.cells L.toArray 77 (0,0)):=aX;refine ag ?_;refine bJ 17 ?_;simp only[go_sem,seval,h0,h1,h3,h7,c2,c3,c5,c6,f1,gx,gy];have zG:=hq x (hp.mem_iff.1 al);have hyq:=hq y (hp.mem_iff.1 al);obtain⟨nx,lx,ex,ex0⟩:=zG;obtain⟨ny,ly,ey,ey0⟩:=hyq;rw[ER (f:=51) (l:=#[]) (cap:=#[]) au];simp only[go_sem,seval,Array.empty_append,Array.append_empty];refine aZ (aaL (by rw[Hp.aM _ nx];exact ex) ex0 (by rw[Hp.aM _ ny];exact ey) ey0) ?_;refine gp ?_;have aH:=aaM (nm x) (nm y)
     cases hl:uW nm x y with
     |false=>
      simp only[go_sem,seval,h6,aH,show cP (nm x) (nm y)=_ from hl];have cT:=hd.Jr (Te nm) hl;refine hX R.length _ _ _ _ al ⟨rfl,?_,?_,?_,?_,A++[y]++x::B,R,rfl,aY hp,cT,.inl ?_,by rw[hL]⟩ ao
      ·exact aQ h0
      ·exact aQ h1
      ·exact aQ h2
      ·exact aQ h3
      ·refine ag ?_;have e1:(A++[y]++x::B).length=S.length+1:=by simp at hj np|-;omega
       rw[e1,wrap64 aa aa];rfl
     |true=>
      simp only[go_sem,seval,aH,show cP (nm x) (nm y)=_ from hl];refine bJ 18 ?_;have sk:∀x,dn (dY x)=true:=λ_=>rfl;have fS:∀o,(U.set blk o).f blk=some o:=λ_=>Hp.bD _ _;have lj:j<L.length:=(List.getElem?_eq_some_iff.1 gx).1;have lA:A.length<L.length:=(List.getElem?_eq_some_iff.1 gy).1;have S5:A.length<(L.set j (dY y)).length:=by simpa using lA
      simp only[go_sem,seval,h0,h7,c3,c5,c6,fS,gx,gy,sk,lj];refine gp ?_;refine ag ?_;refine⟨lA,?_⟩;refine gp ?_;refine bu h7 c5 ?_
      have e1:(L.set j (dY y)).set A.length (dY x)=(A++x::(y::B)++R).map dY++pad:=by rw[<-hL,<-hj];simp[List.set_append]
      rw[e1];refine xC A.length _ _ _ _ (by rw[<-hj];simp) ⟨rfl,?_,?_,?_,?_,?_,A,y::B,rfl,by rw[<-hj]at np;simp at np|-;omega,?_,hd.step (Te nm) hl,?_,rfl⟩ ao
      ·exact aQ h0
      ·exact aQ h1
      ·exact aQ h2
      ·exact aQ h3
      ·exact aQ h6
      ·refine List.Perm.trans ?_ hp;simp only[List.append_assoc,List.cons_append,List.nil_append];exact List.Perm.append_left _ (List.Perm.swap ..)
      ·exact au
def qC(U:Hp)(nm:Nat->List UInt8)(xs:List Nat):Prop:=∀q∈xs,∃l:List Value,U.f q=some (.cells l.toArray 81 (0,0))/\l[0]? =some (.string (B (nm q)))
def qC.perm{ys:List Nat}(h:qC U nm xs)(p:ys.Perm xs):qC U nm ys:=λq hq=>h q (p.mem_iff.1 hq)
variable {J:Hp}
def qC.le(h:qC U nm xs)(k:U.le J):qC J nm xs:=λq hq=>by obtain⟨l,h1,h2⟩:=h q hq;exact⟨l,k _ _ h1,h2⟩
def ail:aw E 173 #[.slice none 0 0,.int .i64 0,.int .i64 0,.func (.func 51) #[] #[]] U λe J=>e=.returned (.tuple #[])/\J=U:=by
 refine fZ func173 ntmps173 results173 rfl al λQ aD an aB=>?_;refine ag ?_;refine dh (λm I ds ae=>ds=[]/\I 2=.int .i64 0/\I 8=.int .i64 1/\ae=U) 0 ?_ ?_
 ·refine⟨rfl,?_,?_,rfl⟩<;>exact au
 ·rintro m I ds ae X ⟨rfl,h2,h6,rfl⟩ hX;have c:¬(1:Int)<0:=ai;refine bN h2 h6 c ?_;exact aD dz ao ⟨rfl,rfl⟩
def aik(hq:qC U nm xs)(h:Sl 77 U (xs.map dY) v)(hn:xs.length<=1000000):
 aw E 173 #[v,.int .i64 0,.int .i64 xs.length,.func (.func 51) #[] #[]] U λe J=>e=.returned (.tuple #[])/\∃ys,ys.Perm xs/\dR (uW nm) ys/\Sl 77 J (ys.map dY) v/\sJ U J v:=by
 generalize hk:xs.map dY=ks at h
 cases h with
 |nil h0=>
  have:xs=[]:=by rw[h0]at hk;simpa using hk
  subst this;refine ail.mono ?_;rintro e J ⟨rfl,rfl⟩;exact⟨rfl,[],.refl _,.nil,.nil rfl,λ_ _=>rfl⟩
 |«at»a pad ha=>
  have hl:ks.length=xs.length:=by rw[<-hk];simp
  rw[hl]
  have bz:∀q∈xs,q≠a/\∃l:List Value,U.f q=some (.cells l.toArray 81 (0,0))/\l[0]? =some (.string (B (nm q))):=by intro q hqm;obtain⟨l,h1,h2⟩:=hq q hqm;refine⟨λe=>?_,l,h1,h2⟩;subst e;rw[ha]at h1;simp at h1
  refine(aij (cap:=xs.length+pad.length) (pad:=pad) bz (by rw[hk];exact ha) hn).mono ?_;rintro e J ⟨rfl,ys,h1,h2,rfl⟩;refine⟨rfl,ys,h1,h2,?_,?_⟩
  ·have:=Sl.at (ety:=77) (U:=U.set a (.cells (ys.map dY++pad).toArray 77 (0,0))) (xs:=ys.map dY) a pad aX;have e:(ys.map dY).length=xs.length:=by simpa using h1.length_eq
   rw[e]at this;exact this
  ·intro b hb;exact Hp.aM _ (hb _ _ _ rfl)
def amq{k:Int}(hq:qC U nm xs)(h:Sl 77 U (xs.map dY) v)(hn:xs.length<=12):
 aw E 137 #[v,.int .i64 0,.int .i64 xs.length,.int .i64 k,.func (.func 51) #[] #[]] U λe J=>e=.returned (.tuple #[])/\∃ys,ys.Perm xs/\dR (uW nm) ys/\Sl 77 J (ys.map dY) v/\sJ U J v:=by
 refine aV func137 ntmps137 results137 λQ aD an aB=>?_;refine ag ?_;refine dh (λm I ds ae=>ds=[]/\I 0=v/\I 1=.int .i64 0/\I 2=.int .i64 xs.length/\I 4=.func (.func 51) #[] #[]/\ae=U) 0 ?_ ?_
 ·refine⟨rfl,?_,?_,?_,?_,rfl⟩<;>exact au
 ·rintro m I ds ae X ⟨rfl,h0,h1,h2,h4,rfl⟩ hX;have c:(xs.length:Int)<=12:=aa;have c0:IntKind.i64.wrap ((xs.length:Int)-0)=xs.length:=by rw[Int.sub_zero];exact wrap64 aa aa
  refine E1 h0 h1 h2 h4 c0 c ?_;refine aL (aik hq h aa) ?_;rintro w J ⟨hw,eE⟩
  cases hw
  refine ag ?_;exact an dz ao ⟨rfl,eE⟩
def apj(hq:qC U nm xs)(h:Sl 77 U (xs.map dY) v)(hn:xs.length<=12):
 aw E 84 #[v,.func (.func 51) #[] #[]] U λe J=>e=.returned (.tuple #[])/\∃ys,ys.Perm xs/\dR (uW nm) ys/\Sl 77 J (ys.map dY) v/\sJ U J v:=by
 refine aV func84 ntmps84 results84 λQ aD an aB=>?_
 obtain⟨base,cap,rfl⟩:∃base cap,v=.slice base xs.length cap:=by
  generalize hk:xs.map dY=ks at h;have hl:ks.length=xs.length:=by rw[<-hk];simp
  cases h with
  |nil h0=>exact⟨none,0,by rw[<-hl,h0];rfl⟩
  |«at»a pad ha=>exact⟨_,_,by rw[hl]⟩
 have cu:IntKind.u64.wrap (xs.length:Int)=xs.length:=by have:((xs.length:Int) % 18446744073709551616)=xs.length:=aa;simpa[IntKind.wrap,IntKind.bits,IntKind.signed]using this
 refine aJ cu ?_;refine aL (Ta aa) ?_;rintro w ae ⟨⟨k,hk,hw⟩,rfl⟩
 cases hw
 refine ag ?_;refine aL (amq hq h hn) ?_;rintro w J ⟨hw,eE⟩
 cases hw
 refine ag ?_;exact aD dz ao ⟨rfl,eE⟩
def aaT(hY:Yields f pick key tc)(hg:cz prog f=true){l:List (α×Value×Nat)}(dI:U.f bm=some (.cells #[.map (some m)] tc (0,0)))(hm:U.f m=some (aU key l c))(hold:∀e∈l,e.2.2<c)(hn:(l.map (·.2.2)).Nodup)(gL:l.length<=1000000)(kV:∀e∈l,dn (pick e)=true):
 aw E 83 #[.func (.func f) #[] #[pV bm]] U λe J=>U.le J/\∃v ks,e=.returned v/\ks.Perm (l.map pick)/\Sl 77 J ks v/\∀a n c,v=.slice (some a) n c->U.f a.block=none:=by
 refine aV func83 ntmps83 results83 λQ aD an aB=>?_;refine ag ?_;refine aL (I6 .ZI hY hg dI hm hold hn gL kV) ?_;rintro v J ⟨hle,v',ks,hv,h1,h2,h3⟩
 cases hv
 refine ag ?_;exact an aI ao ⟨hle,v,ks,rfl,h1,h2,h3⟩
def aqT:aw E 50 #[.map (some m)] U λe J=>∃bm,e=.returned (.func (.func 85) #[] #[pV bm])/\U.f bm=none/\J=U.set bm (.cells #[.map (some m)] 114 (0,0)):=by refine aV func50 ntmps50 results50 λQ aD an aB=>?_;refine ag ?_;refineλbm dI=>?_;refine ag ?_;exact an aI ao ⟨bm,rfl,dI,rfl⟩
variable {qs:List Nat}
def apq(dI:U.f bm=some (.cells #[.map (some m)] 114 (0,0)))(hm:U.f m=some (aU bT l c))(hold:∀e∈l,e.2.2<c)(hn:(l.map (·.2.2)).Nodup)(gL:l.length<=12)(nL:l.map (·.2.1)=qs.map dY)(jJ:qC U nm qs):
 aw E 49 #[.func (.func 85) #[] #[pV bm],.func (.func 51) #[] #[]] U λe J=>U.le J/\∃v ys,e=.returned v/\ys.Perm qs/\dR (uW nm) ys/\Sl 77 J (ys.map dY) v/\∀a n c,v=.slice (some a) n c->U.f a.block=none:=by
 refine aV func49 ntmps49 results49 λQ aD an aB=>?_
 have kV:∀e∈l,dn e.2.1=true:=by
  intro e he;have:e.2.1∈qs.map dY:=by rw[<-nL];exact List.mem_map_of_mem he
  obtain⟨q,_,hq⟩:=List.mem_map.1 this;rw[<-hq];rfl
 refine ag ?_;refine aL (aaT arH adN dI hm hold hn aa kV) ?_;rintro v J ⟨hle,v',ks,hv,h1,h2,h3⟩
 cases hv
 obtain⟨xs,k1,rfl⟩:=zR h1 (xs:=qs) (f:=dY) nL;refine ag ?_
 have hlen:xs.length<=12:=by have:=congrArg List.length nL;simp at this;rw[k1.length_eq];omega
 refine aL (apj ((jJ.perm k1).le hle) h2 hlen) ?_;rintro w bW ⟨hw,ys,p1,p2,p3,p4⟩
 cases hw
 refine ag ?_;refine an aI ao ⟨?_,v,ys,rfl,p1.trans k1,p2,p3,h3⟩;intro b o hb;rw[p4 b (λa n c e e2=>by have:=h3 a n c e;rw[<-e2,hb]at this;cases this)];exact hle b o hb
def Vg{bb:Nat}{lb:List Value}(hb:U.f bb=some (.cells lb.toArray 116 (0,0)))(kD:lb[0]? =some (.map (some m)))(hm:U.f m=some (aU bT l c))(hold:∀e∈l,e.2.2<c)(hn:(l.map (·.2.2)).Nodup)(gL:l.length<=12)(nL:l.map (·.2.1)=qs.map dY)(jJ:qC U nm qs):
 aw E 34 #[pV bb] U λe J=>U.le J/\∃v ys,e=.returned v/\ys.Perm qs/\dR (uW nm) ys/\Sl 77 J (ys.map dY) v/\∀a n c,v=.slice (some a) n c->U.f a.block=none:=by
 refine aV func34 ntmps34 results34 λQ aD an aB=>?_;refine bu hb kD ?_;refine aL aqT ?_;rintro w J ⟨bm,hw,dI,rfl⟩
 cases hw
 have aE:∀{b o},U.f b=some o->b≠bm:=λh e=>by subst e;rw[dI]at h;cases h
 have kG:U.le (U.set bm (.cells #[.map (some m)] 114 (0,0))):=λb o h=>by rw[Hp.aM _ (aE h)];exact h
 have rU:=kG _ _ hm;refine ag ?_;refine aL (apq aX rU hold hn gL nL (jJ.le kG)) ?_;rintro v J ⟨hle,v',ys,hv,h1,h2,h3,h4⟩
 cases hv
 refine ag ?_;refine an aI ao ⟨Hp.le_trans kG hle,v,ys,rfl,h1,h2,h3,?_⟩;intro a n c e;have:=h4 a n c e;by_cases e2:a.block=bm
 ·rw[e2];exact dI
 ·rw[Hp.aM _ e2]at this;exact this
variable {t:TypeId}{m i v:Operand}
def ahU:cW (.mapUpdate t m i v)=false:=bp
def ahO:cW (.insert t m i v)=false:=bp
def ahS{ok:Bool}:cW (.lookup t m i ok)=false:=bp
def ahP{r:Operand}{m:String}{a:Array Operand}{b:Array TypeId}:cW (.call ⟨.invoke r m,a,b⟩)=false:=bp
variable {x:Array Operand}{a:Array TypeId}
def ahI:cW (.call ⟨.builtin .delete,x,a⟩)=false:=bp
def ahG:cW (.call ⟨.builtin .clear,x,a⟩)=false:=bp
attribute [go_sem] ahU ahO ahS ahP ahI ahG
structure Has (L:List (Nat×Obj)) (U:Hp):Prop where
 nd:(L.map (·.1)).Nodup
 all:∀p∈L,U.f p.1=some p.2
variable {b:Nat}{o:Obj}
def Hp.ay{x:Nat}(h:¬x=b):(U.set b o).f x=U.f x:=Hp.aM _ h
variable {L:List (Nat×Obj)}
def Has.le(h:Has L U)(k:U.le J):Has L J:=⟨h.nd,λp hp=>k _ _ (h.all p hp)⟩
def Has.at(h:Has L U)(n:Nat)(hn:L[n]? =some (b,o)):U.f b=some o:=h.all _ (List.mem_of_getElem? hn)
def Has.get(h:Has L U)(hm:(b,o)∈L):U.f b=some o:=h.all _ hm
variable {o':Obj}
def Has.ne(h:Has L U){i j:Nat}{b':Nat}(hi:L[i]? =some (b,o))(hj:L[j]? =some (b',o'))(qU:i≠j):¬b=b':=by
 intro e;subst e;obtain⟨mG,KH⟩:=List.getElem?_eq_some_iff.1 hi;obtain⟨nG,qV⟩:=List.getElem?_eq_some_iff.1 hj;have:=h.nd;rw[List.nodup_iff_pairwise_ne]at this
 have key:∀i j (mG:i<L.length) (nG:j<L.length),i<j->(L[i]).1≠(L[j]).1:=by intro i j mG nG qU;have h1:=List.pairwise_iff_getElem.1 this i j (aY mG) (aY nG) qU;simpa using h1
 rcases Nat.lt_or_gt_of_ne qU with h1|h1
 ·exact key i j mG nG h1 (by rw[KH,qV])
 ·exact key j i nG mG h1 (by rw[KH,qV])
def Has.perm{L':List (Nat×Obj)}(h:Has L U)(p:L'.Perm L):Has L' U:=
 ⟨(p.map _).nodup_iff.2 h.nd,λx hx=>h.all x (p.mem_iff.1 hx)⟩
def Has.sub{L':List (Nat×Obj)}(h:Has L U)(p:L'.Sublist L):Has L' U:=
 ⟨h.nd.sublist (p.map _),λx hx=>h.all x (p.subset hx)⟩
def Has.set (h:Has L U)(n:Nat)(hn:L[n]? =some (b,o))(o':Obj):Has (L.set n (b,o')) (U.set b o'):=by
 obtain⟨h1,h2⟩:=List.getElem?_eq_some_iff.1 hn
 have e:(L.set n (b,o')).map (·.1)=L.map (·.1):=by
  rw[List.map_set];apply List.ext_getElem?;intro i;rw[List.getElem?_set];by_cases hi:n=i
  ·subst hi;simp[h1,h2]
  ·simp[hi]
 refine⟨by rw[e];exact h.nd,λp hp=>?_⟩;obtain⟨i,hi,rfl⟩:=List.mem_iff_getElem.1 hp;rw[List.getElem_set];by_cases KS:n=i
 ·subst KS;simp[Hp.bD]
 ·simp only[KS,if_false];have Bi:i<L.length:=aY hi;have this:¬(L[i]).1=b:=h.ne (i:=i) (j:=n) (List.getElem?_eq_getElem Bi) hn (λe=>KS e.symm);rw[Hp.aM _ this];exact h.all _ (List.getElem_mem Bi)
def Has.new(h:Has L U)(hb:U.f b=none)(o:Obj):Has ((b,o)::L) (U.set b o):=by
 have aE:∀p∈L,p.1≠b:=λp hp e=>by have:=h.all p hp;rw[e,hb]at this;cases this
 refine⟨?_,λp hp=>?_⟩
 ·rw[List.map_cons,List.nodup_cons];refine⟨λhm=>?_,h.nd⟩;obtain⟨p,hp,e⟩:=List.mem_map.1 hm;exact aE p hp e
 ·rcases List.mem_cons.1 hp with rfl|hp
  ·exact Hp.bD _ _
  ·rw[Hp.aM _ (aE p hp)];exact h.all p hp
variable {v:Value}
def Has.only(h:Has L U)(k:sJ U J v)(hv:∀a n c,v=.slice (some a) n c->∀p∈L,p.1≠a.block):Has L J:=
 ⟨h.nd,λp hp=>by rw[k p.1 (λa n c e=>hv a n c e p hp)];exact h.all p hp⟩
abbrev iV(i:Int):Value:=.int .i64 i
abbrev sV(l:List UInt8):Value:=.string (B l)
structure kt where
 jr:Int
 frame:Int
 gG:Int
 queue:Int
 body:Int
def kt.vals(c:kt):List Value:=[iV c.jr,iV c.frame,iV c.gG,iV c.queue,iV c.body]
def eS(cfg:kt)(br mc:Nat)(clock last:Int):Obj:=.cells [iV cfg.jr,iV cfg.frame,iV cfg.gG,iV cfg.queue,iV cfg.body,pV br,iV clock,iV last,.map (some mc)].toArray 74 (0,0)
def ix(mq:Nat)(de messages bj:Int):Obj:=.cells [.map (some mq),iV de,iV messages,iV bj].toArray 116 (0,0)
structure CR where
 ph:Int
 rest:List UInt8
 kA:Bool
 de:Int
 frame:Int
 gG:Int
 iu:Int
 recv:Int
 out:List UInt8
def CR.vals(g:Nat)(id:Int)(chm:Nat)(c:CR):List Value:=[pV g,iV id,iV c.ph,sV c.rest,.bool c.kA,.map (some chm),iV c.de,iV c.frame,iV c.gG,iV c.iu,iV c.recv,sV c.out]
def fN(g:Nat)(id:Int)(chm:Nat)(c:CR):Obj:=.cells (c.vals g id chm).toArray 90 (0,0)
structure HR where
 closing:Bool
 mo:Int
 tag:Int
 want:Int
 key:List UInt8
 body:List UInt8
 size:Int
def HR.vals(c:Nat)(no:Int)(un co:Nat)(h:HR):List Value:=[pV c,iV no,.bool h.closing,iV h.mo,iV h.tag,.map (some un),.map (some co),iV h.want,sV h.key,sV h.body,iV h.size]
def iH(c:Nat)(no:Int)(un co:Nat)(h:HR):Obj:=.cells (h.vals c no un co).toArray 276 (0,0)
def fQ(name:List UInt8)(ready:Value)(held last:Int)(cons:Value):Obj:=.cells [sV name,ready,iV held,iV last,cons].toArray 81 (0,0)
def TK{de:Int}:aw E 46 #[iV de] U λe J=>∃b m,e=.returned (pV b)/\U.f m=none/\b≠m/\U.f b=none/\J=(U.set m (aU bT [] 0)).set b (ix m de 0 0):=by refine aV func46 ntmps46 results46 λQ aD an aB=>?_;refine ag ?_;refineλm hm=>?_;refine ag ?_;refineλb hb=>?_;refine ag ?_;have aE:b≠m:=bl hb aX;rw[Hp.aM _ aE]at hb;exact an aI ao ⟨b,m,rfl,hm,aE,hb,rfl⟩
variable {cfg:kt}{g br mc:Nat}{clock last:Int}{l:List (Int×Value×Nat)}
def aaZ(hg:U.f g=some (eS cfg br mc clock last))(hm:U.f mc=some (aU aW l c))(hl:l.length≠4)(hu:jT l)(h1: -9223372036854775808<=last+1)(h2:last+1<=9223372036854775807):
 aw E 37 #[pV g] U λe J=>∃b chm,e=.returned (.tuple #[iV (last+1),.nilIface])/\U.f b=none/\U.f chm=none/\b≠chm/\
  J=(((U.set g (eS cfg br mc clock (last+1))).set chm (aU aW [] 0)).set b (fN g (last+1) chm ⟨0,[],false,0,cfg.frame,0,clock,clock,[]⟩)).set mc (aU aW (jB l (last+1) (pV b) c) (jN l (last+1) c)):=by
 refine aV func37 ntmps37 results37 λQ aD an aB=>?_;have c4:¬((l.length:Int)=4):=aa;simp only[go_sem,seval,hg,eS];refine Hu uO au hm ?_;have w1:IntKind.i64.wrap (last+1)=last+1:=wrap64 h1 h2;simp only[go_sem,seval,c4,hg,eS,w1];have n1:¬mc=g:=bl hm hg (by simp[eS,aU]);refine AP [0,1,2,3,4,5,6,7,8,9,10,11,12,14,15,16,17,18,19,20,21,22,23,24,25,26,13,27,28,29] ?_;refine ag ?_;refineλchm Gy=>?_;have fg:(U.set g (eS cfg br mc clock (last+1))).f g=some (eS cfg br mc clock (last+1)):=aX;have n2:¬chm=g:=bl Gy aX;have Jz:∀o,((U.set g (eS cfg br mc clock (last+1))).set chm o).f g=some (eS cfg br mc clock (last+1)):=λo=>by rw[Hp.ay (Ne.symm n2)];exact fg
 simp only[eS]at Jz;refine⟨dJ Jz,?_⟩;rw[Hp.ay n2]at Gy;have n3:¬chm=mc:=bl Gy hm;refine ag ?_;refine⟨dJ Jz,?_⟩;refine ag ?_;refineλb hb=>?_;have k1:¬b=chm:=bl hb aX;rw[Hp.ay k1]at hb;have k2:¬b=g:=bl hb aX;rw[Hp.ay k2]at hb;have k3:¬b=mc:=bl hb hm;have Qo:∀o o',(((U.set g (eS cfg br mc clock (last+1))).set chm o).set b o').f g=some (eS cfg br mc clock (last+1)):=λo o'=>by rw[Hp.ay (Ne.symm k2),Hp.ay (Ne.symm n2)];exact fg
 simp only[eS]at Qo;refine⟨dJ Qo,?_⟩;refine ag ?_;have fm:∀o o' bV,(((U.set g o).set chm o').set b bV).f mc=some (aU aW l c):=λo o' bV=>by rw[Hp.ay (Ne.symm k3),Hp.ay (Ne.symm n3),Hp.ay n1];exact hm
 refine BH (b:=mc) (k:=last+1) uO hu ?_ (fm _ _ _) ?_ ?_
 ·exact au
 ·simp only[go_sem,seval,aW]
 refine gp ?_;have k4:¬g=mc:=λe=>n1 e.symm;have Qp:∀o o' bV,((((U.set g (eS cfg br mc clock (last+1))).set chm o).set b o').set mc bV).f g=some (eS cfg br mc clock (last+1)):=λo o' bV=>by rw[Hp.ay k4,Hp.ay (Ne.symm k2),Hp.ay (Ne.symm n2)];exact fg
 simp only[eS]at Qp;refine aJ Qp ?_;refine an ji ao ⟨b,chm,?_,hb,Gy,k1,?_⟩
 ·exact au
 ·rfl
variable {P:Program}{main:Bool}{b:Frame}{a:Act}{k:List Item}{cs:List Frame}{w:World}{c:Code}
def apz:stepG P main (G (b.at a (.code (.scope c)::k)) cs) w=.go (G (b.at a (.code c:: .inScope c::k)) cs) w:=by simp[G,stepG,stepG.exec,Frame.at]
def apy:stepG P main (G (b.at a (.inScope c::k)) cs) w=.go (G (b.at a k) cs) w:=by simp[G,stepG,stepG.exec,Frame.at]
variable {E:Env P}{fn:Func}{args:Array Value}{R:Fin->Hp->Prop}
def Z3(hf:P.funcs[f]? =some fn)(hb:fn.body=some (.scope c))(hn:args.size<=fn.ntmps)(h:cO E fn.ntmps c (UP P fn R) (nV args fn.ntmps) [] U):aw E f args U R:=by
 intro cs
 let b:Frame:={(default:Frame)with fn:=f,kind:=.normal}
 have pd:Frame.enter P f args .normal=b.at {tmps:=args++Array.replicate (fn.ntmps-args.size) undef,defers:=[]} [.code (.scope c)]:=by simp[Frame.enter,Frame.at,hf,hb,b]
 rw[pd];refine ax.ctl (λw=>apz) rfl rfl ?_;refine(Iq c _ _ _ _ h b [.inScope c] cs _ (by simp[b]) (sL args fn.ntmps hn)).bind (Comes.mono ?_ ?_ ?_ ?_)
 ·rintro I ds ae a ha ⟨nD,v,J,hle,hv,hR⟩;refine ax.ctl (λw=>apy) rfl rfl ?_;refine ax.iR (J:=J) (ax.ctl (λw=>stepG_end) rfl rfl (ax.here ⟨.returned v,_,rfl,rfl,⟨rfl,?_,rfl,fn,hf,?_⟩,hR⟩)) hle
  ·have:=ha.defers;subst nD;exact this
  ·have:=wZ (fn:=fn) ha;simp only[Frame.at];rw[this];exact hv
 ·exactλid I ds ae a ra _ hq=>hq.elim
 ·rintro I ds ae a todo ha ⟨nD,v,J,hle,hv,hR⟩;refine ax.iR (J:=J) (ax.here ⟨.returned v,_,rfl,rfl,⟨rfl,?_,rfl,fn,hf,?_⟩,hR⟩) hle
  ·have:=ha.defers;subst nD;exact this
  ·have:=wZ (fn:=fn) ha;simp only[Frame.at];rw[this];exact hv
 ·rintro ch I ds ae a todo ha ⟨nD,J,hle,hR⟩;refine ax.iR (J:=J) (ax.here ⟨.panicked ch,_,rfl,rfl,⟨rfl,?_,fn,hf⟩,hR⟩) hle;have:=ha.defers;subst nD;exact this
variable {n:Nat}
def Z2{rs:Array ResultVar}(hf:P.funcs[f]? =some fn)(hn:fn.ntmps=n)(hr:fn.results=rs)(hb:fn.body=some (.scope c))(hs:args.size<=fn.ntmps)(h:∀Q:Post,(∀{I U J v},lW P rs I J v->J.le U->R (.returned v) J->Q .normal I [] U)->(∀{I U J v},lW P rs I J v->J.le U->R (.returned v) J->Q .ret I [] U)->(∀ch I U J,J.le U->R (.panicked ch) J->Q (.panic ch) I [] U)->
  cO E n c Q (nV args n) [] U):aw E f args U R:=by
 subst hn;subst hr;refine Z3 hf hb hs (h _ ?_ ?_ ?_)
 ·exactλ{I U J v} h1 hl h2=>⟨rfl,v,J,hl,h1,h2⟩
 ·exactλ{I U J v} h1 hl h2=>⟨rfl,v,J,hl,h1,h2⟩
 ·exactλch I U J hl h=>⟨rfl,J,hl,h⟩
def Sl.read{κ:Type}{f:κ->Value}{ety:TypeId}{ys:List κ}(hs:Sl ety J (ys.map f) v):
 ∃base cap,v=.slice base ys.length cap/\∀i (hi:i<ys.length),∃(a:Nat) (L:List Value),base=some ⟨a,0,none⟩/\J.f a=some (.cells L.toArray ety (0,0))/\L[i]? =some (f ys[i]):=by
 generalize hk:ys.map f=ks at hs;have hl:ks.length=ys.length:=by rw[<-hk];simp
 cases hs with
 |nil h0=>exact⟨_,_,by rw[<-hl,h0];rfl,λi hi=>by rw[<-hl,h0]at hi;cases hi⟩
 |«at»a pad ha=>
  refine⟨_,_,by rw[hl],λi hi=>⟨a,_,rfl,ha,?_⟩⟩;rw[List.getElem?_append_left aa,<-hk];simp[hi]
def Idle(U:Hp)(c:Nat)(l:List (Int×Value×Nat)):Prop:=
 ∀e∈l,∃h un co k1 k2 hr,e.2.1=pV h/\U.f h=some (iH c e.1 un co hr)/\U.f un=some (aU aW [] k1)/\U.f co=some (aU bT [] k2)
variable {c:Nat}
def Idle.le(h:Idle U c l)(k:U.le J):Idle J c l:=by intro e he;obtain⟨h,un,co,k1,k2,hr,a,b,d,f⟩:=h e he;exact⟨h,un,co,k1,k2,hr,a,k _ _ b,k _ _ d,k _ _ f⟩
variable {b:Nat}
def FJ(U:Hp)(qs:List Nat):Prop:=∀q∈qs,∃name b c held last cons,U.f q=some (fQ name (.slice b 0 c) held last cons)
def FJ.le(h:FJ U qs)(k:U.le J):FJ J qs:=by intro q hq;obtain⟨name,b,c,held,last,cons,e⟩:=h q hq;exact⟨name,b,c,held,last,cons,k _ _ e⟩
def oX:oO prog 43 where
 e:=55
 z:=2
 zero:=#[.int .i64 0,.string (B [])]
 bytes:=24
 hu:=ah
 hi:=⟨Tryz.t55,.agg #[.int .i64 0,.string (B [])],ah,ah,ah,rfl,ah⟩
structure Rest (U:Hp) (g:Nat) (cfg:kt) (br mc mq:Nat) (clock last:Int) (de messages bj:Int) (lq:List (List UInt8×Value×Nat)) (kq:Nat) (qs:List Nat):Prop where
 hg:U.f g=some (eS cfg br mc clock last)
 hb:U.f br=some (ix mq de messages bj)
 hm:U.f mq=some (aU bT lq kq)
 hold:∀e∈lq,e.2.2<kq
 hn:(lq.map (·.2.2)).Nodup
 gL:lq.length<=12
 nL:lq.map (·.2.1)=qs.map dY
 bw:FJ U qs
def Rest.le {U J:Hp}{g br mc mq kq:Nat}{cfg:kt}{clock last de messages bj:Int}{lq:List (List UInt8×Value×Nat)}{qs:List Nat}(h:Rest U g cfg br mc mq clock last de messages bj lq kq qs)(k:U.le J):Rest J g cfg br mc mq clock last de messages bj lq kq qs:=
 ⟨k _ _ h.hg,k _ _ h.hb,k _ _ h.hm,h.hold,h.hn,h.gL,h.nL,h.bw.le k⟩
variable {chm:Nat}{cr:CR}
def Rest.set{mq kq:Nat}{de messages bj:Int}{lq:List (List UInt8×Value×Nat)}(h:Rest U g cfg br mc mq clock last de messages bj lq kq qs){gg:Nat}{id:Int}(hc:U.f c=some (fN gg id chm cr)):
 Rest (U.set c o) g cfg br mc mq clock last de messages bj lq kq qs:=by
 refine⟨?_,?_,?_,h.hold,h.hn,h.gL,h.nL,?_⟩
 ·rw[Hp.ay];exact h.hg;intro e;have:=h.hg;rw[e,hc]at this;simp[eS,fN]at this
 ·rw[Hp.ay];exact h.hb;intro e;have:=h.hb;rw[e,hc]at this;simp[ix,fN]at this
 ·rw[Hp.ay];exact h.hm;intro e;have:=h.hm;rw[e,hc]at this;simp[aU,fN]at this
 ·intro q hq;obtain⟨name,b,cc,held,last,cons,e⟩:=h.bw q hq;refine⟨name,b,cc,held,last,cons,?_⟩;rw[Hp.ay];exact e;intro e2;rw[e2,hc]at e;simp[fQ,fN]at e
def aw.iR {P:Program}{E:Env P}{f:FuncId}{args:Array Value}{U J:Hp}{R:Fin->Hp->Prop}(h:aw E f args J R)(k:J.le U):aw E f args U R:=λcs=>(h cs).iR k
variable {E:Env prog}{k:Nat}{ch:List UInt8}
def aci{id:Int}(hg:U.f g=some (eS cfg br mc clock last))(nJ:U.f mc=some (aU aW l k))(fX:du l id=none):
 aw E 25 #[pV g,iV id,sV ch] U λe J=>e=.returned (.tuple #[.slice none 0 0,.iface 51 (iV 3)])/\J=U:=by
 refine fZ func25 ntmps25 results25 rfl al λQ aD an aB=>?_;simp only[eS]at hg;refine aJ hg ?_;refine j9 (b:=mc) (k:=id) uO (z:=.pointer none) ah ?_ nJ ?_ ?_
 ·exact au
 ·simp only[go_sem,seval,aW]
 have dt:((du l id).map (·.2.1)).getD (.pointer none)=.pointer none:=by rw[fX];rfl
 simp only[go_sem,seval,dt,Bool.false_eq_true];exact an ji ao ⟨by simp[up],rfl⟩
def ach{st:Nat}{id:Int}(hg:U.f g=some (eS cfg br mc clock last))(nJ:U.f mc=some (aU aW l k))(fX:du l id=some (id,pV c,st))(JW:aw E 39 #[pV g] U λe J=>∃v,e=.returned v/\R (.returned (.tuple #[v,.nilIface])) J):
 aw E 25 #[pV g,iV id,sV []] U R:=by
 refine aV func25 ntmps25 results25 λQ aD an aB=>?_;simp only[eS]at hg;refine aJ hg ?_;refine j9 (b:=mc) (k:=id) uO (z:=.pointer none) ah ?_ nJ ?_ ?_
 ·exact au
 ·simp only[go_sem,seval,aW]
 have dt:((du l id).map (·.2.1)).getD (.pointer none)=pV c:=by rw[fX];rfl
 simp only[go_sem,seval,dt,Bool.false_eq_true,decide_true];refine aL JW ?_;rintro v J ⟨v',hv,hR⟩
 cases hv
 refine ag ?_;exact an ji ao (by simpa[up]using hR)
def acg{st:Nat}{id:Int}(hg:U.f g=some (eS cfg br mc clock last))(nJ:U.f mc=some (aU aW l k))(fX:du l id=some (id,pV c,st))(hc:U.f c=some (fN g id chm cr))(dO:ch≠[])(C1:aw E 40 #[pV c,sV ch] (U.set c (fN g id chm {cr with recv:=clock})) λe J=>e=.returned (.tuple #[])/\aw E 39 #[pV g] J λe' bW=>∃v,e'=.returned v/\R (.returned (.tuple #[v,.nilIface])) bW):
 aw E 25 #[pV g,iV id,sV ch] U R:=by
 refine aV func25 ntmps25 results25 λQ aD an aB=>?_;simp only[eS]at hg;refine aJ hg ?_;refine j9 (b:=mc) (k:=id) uO (z:=.pointer none) ah ?_ nJ ?_ ?_
 ·exact au
 ·simp only[go_sem,seval,aW]
 have dt:((du l id).map (·.2.1)).getD (.pointer none)=pV c:=by rw[fX];rfl
 have e1:U.set c (fN g id chm {cr with recv:=clock})=U.set c (.cells [pV g,iV id,iV cr.ph,sV cr.rest,.bool cr.kA,.map (some chm),iV cr.de,iV cr.frame,iV cr.gG,iV cr.iu,iV clock,sV cr.out].toArray 90 (0,0)):=rfl;simp only[fN,CR.vals]at hc;simp only[go_sem,seval,dt,Bool.false_eq_true,dO,hg,hc];rw[e1]at C1;refine aL C1 ?_;rintro w ID ⟨hw,JW⟩
 cases hw
 refine ag ?_;refine aL JW ?_;rintro v J ⟨v',hv,hR⟩
 cases hv
 refine ag ?_;exact an ji ao (by simpa[up]using hR)
structure FR where
 u:Un
 s:List UInt8
 cl:Int
 me:Int
def FR.vals(f:FR):List Value:=[iV f.u.kind,iV f.u.channel,sV f.u.jh,.bool f.u.kC,.bool f.u.gv,sV f.s,iV f.cl,iV f.me]
def bP(f:FR):Obj:=.cells f.vals.toArray 293 (0,0)
def FR.lI(f:FR)(cl:Int)(ms:List Int):Bool:=decide (f.u.kind=1)&&(decide (f.cl=cl)&&decide (f.me∈ms))
variable {ms:List Int}{x:Int}
def ahq(hb:U.f bm=some (.cells (ms.map iV++pad).toArray 3 (0,0)))(hn:ms.length<=1000):
 aw E 247 #[.slice (some ⟨bm,0,none⟩) ms.length cap,iV x] U λe J=>(∃k:Int,e=.returned (iV k)/\(0<=k↔x∈ms))/\J=U:=by
 refine aV func247 ntmps247 results247 λQ aD an aB=>?_;refine ag ?_;refine dh (λm I ds ae=>ds=[]/\I 0=.slice (some ⟨bm,0,none⟩) ms.length cap/\I 1=iV x/\I 7=iV ms.length/\ae=U/\∃i:Nat,i+m=ms.length/\I 8=iV i/\x∉ms.take i) ms.length ?_ ?_
 ·refine⟨rfl,?_,?_,?_,rfl,0,al,?_,al⟩<;>exact au
  try rfl
 ·rintro m I ds ae X ⟨rfl,h0,h1,h7,rfl,i,Bl,h8,oy⟩ hX
  cases m with
  |zero=>
   have c0:¬(i:Int)<ms.length:=aa;refine bN h7 h8 c0 ?_;rw[List.take_of_length_le aa]at oy;exact an aI ao ⟨⟨-1,by simp[up],by simp[oy]⟩,rfl⟩
  |succ m=>
   have hi:i<ms.length:=aa;have c0:(i:Int)<ms.length:=aa;have c1:(0:Int)<=i:=aa;have hL:(ms.map iV++pad)[i]? =some (iV ms[i]):=by rw[List.getElem?_append_left (aY hi)];simp[hi]
   have w1:=fT i;by_cases hx:x=ms[i]
   ·simp only[go_sem,seval,h0,h1,h7,h8,c0,c1,hb,hL,hx,decide_true];refine an aI ao ⟨⟨(i:Int),?_,?_⟩,rfl⟩
    ·simp[up]
    ·exact⟨λ_=>by rw[hx];exact List.getElem_mem hi,λ_=>aa⟩
   ·simp only[go_sem,seval,h0,h1,h7,h8,c0,c1,hb,hL,hx,decide_false,w1];refine hX m _ _ _ _ aa ⟨rfl,?_,?_,?_,rfl,i+1,aa,?_,?_⟩ ao
    ·exact aQ h0
    ·exact aQ h1
    ·exact aQ h7
    ·exact au
    ·intro hm;rw[List.take_succ_eq_append_getElem hi,List.mem_append]at hm;rcases hm with h|h
     ·exact oy h
     ·exact hx (aY h)
def aa4(hb:U.f bm=some (.cells (ms.map iV++pad).toArray 3 (0,0)))(hn:ms.length<=1000):
 aw E 232 #[.slice (some ⟨bm,0,none⟩) ms.length cap,iV x] U λe J=>e=.returned (.bool (decide (x∈ms)))/\J=U:=by
 refine fZ func232 ntmps232 results232 rfl al λQ aD an aB=>?_;refine ag ?_;refine dG ady (ahq hb hn) ?_ (λch ae ⟨⟨_,h,_⟩,_⟩=>by cases h);rintro v J ⟨⟨k,hv,hk⟩,rfl⟩
 cases hv
 refine ag ?_;exact an aI ao ⟨by simp[up,hk],rfl⟩
variable {bf:Nat}{f:FR}
def uK{cl:Int}(hf:U.f bf=some (bP f))(hb:U.f bm=some (.cells (ms.map iV++pad).toArray 3 (0,0)))(hn:ms.length<=1000):
 aw E 193 #[pV bf,iV cl,.slice (some ⟨bm,0,none⟩) ms.length cap] U λe J=>e=.returned (.bool (f.lI cl ms))/\J=U:=by
 refine fZ func193 ntmps193 results193 rfl al λQ aD an aB=>?_;simp only[bP,FR.vals]at hf;by_cases h1:f.u.kind=1
 ·by_cases h2:f.cl=cl
  ·simp only[go_sem,seval,hf,h1,h2,decide_true];refine aZ (aa4 hb hn) ?_;refine ag ?_;refine an aI ao ⟨?_,rfl⟩;simp[up,FR.lI,h1,h2]
  ·simp only[go_sem,seval,hf,h1,h2,decide_true,decide_false];refine an aI ao ⟨?_,rfl⟩;simp[up,FR.lI,h1,h2]
 ·simp only[go_sem,seval,hf,h1,decide_false];refine an aI ao ⟨?_,rfl⟩;simp[up,FR.lI,h1]
def acf{e:Int}(hf:U.f bf=some (bP f)):
 aw E 189 #[pV bf,iV e] U λe' J=>∃b,e'=.returned (.iface 214 (pV b))/\U.f b=none/\J=U.set b (.cells [iV e,iV f.cl,iV f.me].toArray 217 (0,0)):=by
 refine aV func189 ntmps189 results189 λQ aD an aB=>?_;simp only[bP,FR.vals]at hf;refine ag ?_;refine bJ 13 ?_;refine aJ hf ?_;refine gp ?_;refine ag ?_;refineλb hb=>⟨by(repeat(first|exact jM|(apply jL;(focus decide+kernel)))),?_⟩;refine ag ?_;refine an aI ao ⟨b,?_,hb,rfl⟩;simp[up]
def LG:mU prog 355 aW:=⟨85,3,.int .i64,ah,ah,.inl ⟨_,rfl⟩,HW _,HT⟩
section
variable {E:Env prog}{U:Hp}{J:Hp}{b:Nat}{P:Program}{I:av}{ds:List Deferred}{dst:Option Tmp}{ty:TypeId}{pos:String}{af:Array Edge}{g:Option (Nat×Bool)}{nx:av->List Deferred->Hp->Prop}{pn:List PanicEntry->Hp->Prop}{t:TypeId}{c:Nat}
variable {E:Env P}
variable {α:Type}[DecidableEq α]{f:α->Value}{l:List (α×Value×Nat)}{k:α}
def SN {m i v:Operand}(ko:mU P t f){b:Nat}{w:Value}{l':List (α×Value×Nat)}{c':Nat}(hu:jT l)(hm:ak I m=.map (some b))(hb:U.f b=some (aU f l c))(hi:ak I i=f k)(hv:ak I v=w)(hl:l'=jB l k w c)(hc:c'=jN l k c)
 (h:∀J,J=U.set b (aU f l' c')->nx (aC I dst undef) ds J):aT E ⟨dst,.insert t m i v,ty,pos,af,g⟩ I ds U nx pn:=by
 subst hv;subst hl;subst hc;exact ahv ko hu hm hb hi (h _ rfl)
end
def Jd(ch cl me:Nat)(xs:List Arg):(ck ch cl me xs).length=(dg xs).length+12:=by simp[ck,ju,dg,eJ,bH];omega
variable {ch cl me:Nat}
def HS{id:Int}{xs:List Arg}(hg:U.f g=some (eS cfg br mc clock last))(hc:U.f c=some (fN g id chm cr))(hv:Ap U xs v)(gB:∀a∈xs,lr a)(hn:xs.length<=1000)(dO:ch<9223372036854775808)(aH:cl<9223372036854775808)(aO:me<9223372036854775808)(gn:(dg xs).length<=10000000)(fP:cr.out.length<=1000000000000000):
 aw E 105 #[pV c,iV ch,iV cl,iV me,v] U λe J=>e=.returned (.tuple #[])/\J=U.set c (fN g id chm {cr with out:=cr.out++ck ch cl me xs,iu:=clock}):=by
 have uX:g≠c:=bl hc hg (by simp[eS,fN]);exact aaa (bc:=c) (bg:=g) (l:=cr.vals g id chm) (lg:=[iV cfg.jr,iV cfg.frame,iV cfg.gG,iV cfg.queue,iV cfg.body,pV br,iV clock,iV last,.map (some mc)]) hc hg rfl rfl rfl rfl uX hv gB hn dO aH aO gn (by rw[Jd];omega)
variable {I:av}{ds:List Deferred}{dst:Option Tmp}{ty:TypeId}{pos:String}{af:Array Edge}{g:Option (Nat×Bool)}{nx:av->List Deferred->Hp->Prop}{pn:List PanicEntry->Hp->Prop}{E:Env P}{e:TypeId}{x:Operand}
def ahr{k:IntKind}{j:Int}{ie:TypeInfo}(hu:P.underlying t=some (.array n e))(he:P.info? e=some ie)(hz:ie.size=1)(hx:ak I x=pV b)(hi:ak I i=.int k j)(h0:0<=j)(hn:j<n)(hs:iX P t=none)(h:nx (aC I dst (.pointer (some ⟨b,j.toNat,none⟩))) ds U):
 qJ (aT E ⟨dst,.indexAddr t x i,ty,pos,af,g⟩ I ds U nx pn) (λz=>uN (wpOp E ⟨dst,.indexAddr t x i,ty,pos,af,g⟩ I ds U nx pn) z (λv=>nx (aC I dst v) ds U) (ak I i) (ak I x)) (iX P t):=by
 rw[hs,Ge]
 have gh:tJ P t=none:=by unfold tJ;rw[hu]
 have e0:aT E ⟨dst,.indexAddr t x i,ty,pos,af,g⟩ I ds U nx pn=wpOp E ⟨dst,.indexAddr t x i,ty,pos,af,g⟩ I ds U nx pn:=by simp only[aT,gh]
 rw[e0];unfold wpOp;simp only[execOp,Instr.indexAt,aG,hi,hx,asIntOf,bt,eg,hu,Instr.sureAddr];rw[if_pos ⟨h0,by exact_mod_cast hn⟩];simp only[aG,sizeOf,gu,he,bt,hz,Nat.mul_one];have e1:(⟨b,0,none⟩:Addr).add j.toNat=⟨b,j.toNat,none⟩:=by rw[IX,Nat.zero_add]
 rw[e1];exact h
def anK{s:List UInt8}(hu:P.underlying t=some .string)(hx:ak I x=.string (B s))(h:∀it,U.f it=none->nx (aC I dst (pV it)) ds (U.set it (.stringIter (B s) 0))):aT E ⟨dst,.range t x,ty,pos,af,g⟩ I ds U nx pn:=by
 show wpOp E _ I ds U nx pn;unfold wpOp;simp only[execOp,Instr.range,aG,eg,hu,hx,bt,yA];exact h
def TL{it pos':Nat}{s:List UInt8}(hx:ak I x=pV it)(hi:U.f it=some (.stringIter (B s) pos'))(h1:pos'<s.length->nx (aC I dst (.tuple #[.bool true,.int .i64 pos',.int .i32 (Utf8.decode (B s) pos').1])) ds (U.set it (.stringIter (B s) (pos'+(Utf8.decode (B s) pos').2))))(h2:¬pos'<s.length->nx (aC I dst (.tuple #[.bool false])) ds U):aT E ⟨dst,.next x true,ty,pos,af,g⟩ I ds U nx pn:=by
 show wpOp E _ I ds U nx pn;unfold wpOp;simp only[execOp,Instr.next,aG,hx,oL];refine⟨_,hi,rfl,?_⟩;by_cases h:pos'<s.length
 ·have h':pos'<(B s).size:=by rw[xb];exact h
  simp only[if_pos h',aG,tM];exact⟨_,hi,rfl,h1 h⟩
 ·have h':¬pos'<(B s).size:=by rw[xb];exact h
  simp only[if_neg h',bt];exact h2 h
variable {E:Env prog}{q:Nat}{name:List UInt8}{b:Option Addr}{held:Int}
def MK{cons:Value}(hq:U.f q=some (fQ name (.slice b n cap) held last cons)):aw E 35 #[pV q] U λe J=>e=.returned (iV n)/\J=U:=by refine fZ func35 ntmps35 results35 rfl al λQ aD an aB=>?_;simp only[fQ]at hq;refine aJ hq ?_;exact an aI ao ⟨by simp[up],rfl⟩
def PG{ready:Value}(hq:U.f q=some (fQ name ready held last (.slice b n cap))):aw E 36 #[pV q] U λe J=>e=.returned (iV n)/\J=U:=by refine fZ func36 ntmps36 results36 rfl al λQ aD an aB=>?_;simp only[fQ]at hq;refine aJ hq ?_;exact an aI ao ⟨by simp[up],rfl⟩
def alS{g:Nat}{id:Int}{no:Nat}{s0:List UInt8}(hg:U.f g=some (eS cfg br mc clock last))(hc:U.f c=some (fN g id chm cr))(hm:U.f chm=some (aU aW l k))(hu:jT l)(hf:U.f bf=some (bP f))(eC:f.u.channel=(no:Int))(ata:no<1000000)(afZ:(no:Int)<=cr.de)(hl:du l (no:Int)=none)(hM:f.lI 20 [10]=true)(ht:jE f.s=some (s0,[]))(fP:cr.out.length<=100000000000000):
 aw E 192 #[pV c,pV bf] U λe J=>e=.returned .nilIface/\∃un co h,U.f un=none/\U.f co=none/\U.f h=none/\un≠co/\h≠un/\h≠co/\
  J=(((((U.set bf (bP {f with s:=[]})).set un (aU aW [] 0)).set co (aU bT [] 0)).set h (iH c no un co ⟨false,0,0,0,[],[],0⟩)).set chm (aU aW (jB l (no:Int) (pV h) k) (jN l (no:Int) k))).set c (fN g id chm {cr with out:=cr.out++ck no 20 11 [.long 0],iu:=clock}):=by
 refine aV func192 ntmps192 results192 λQ aD an aB=>?_;have Bg:=hf;have cE:=hc;simp only[fN,CR.vals]at cE;simp only[bP,FR.vals,eC]at Bg;have c1:¬(no:Int)>cr.de:=aa;refine ag ?_;refine bJ 10 ?_;refine bN cE Bg c1 ?_;refine bJ 11 ?_;refine bu cE Bg ?_;refine j9 (b:=chm) (k:=(no:Int)) (l:=l) (c:=k) uP (z:=.pointer none) ah ?_ hm ?_ ?_
 ·exact au
 ·exact au
 have dt:((du l (no:Int)).map (·.2.1)).getD (.pointer none)=.pointer none:=by rw[hl];rfl
 refine⟨jf Bg cE,?_⟩;simp only[go_sem,seval,dt,Bool.false_eq_true];refineλbm dI=>?_;have nb:∀{x o},U.f x=some o->¬x=bm:=λh e=>by subst e;rw[h]at dI;cases dI
 have kG:∀o,U.le (U.set bm o):=λo x y h=>by rw[Hp.ay (nb h)];exact h
 refine ag ?_;refine aZ (uK (ms:=[10]) (pad:=[]) (kG _ _ _ hf) aX al) ?_;simp only[go_sem,seval,hM,Bool.not_true];have GD:=kG (.cells #[iV 10] 3 (0,0)) _ _ hf;simp only[bP,FR.vals,eC]at GD;refine Cy sU (tK GD rfl) (λw rest hr=>?_) (λhr=>by rw[ht]at hr;cases hr);rw[ht]at hr;obtain⟨rfl,rfl⟩:s0=w/\[]=rest:=aY hr;refine ag ?_;refine aL (P6 aX rfl) ?_;rintro v dx ⟨hv,SH⟩
 cases hv
 have ncf:¬c=bf:=bl hc hf (by simp[fN,bP]);have ngf:¬g=bf:=bl hg hf (by simp[eS,bP]);have Me:¬chm=bf:=bl hm hf (by simp[aU,bP]);have uX:¬g=c:=bl hc hg (by simp[eS,fN])
 have uq:(U.set bf (bP {f with s:=[]})).le dx:=by
  rw[SH]
  have e:(Obj.cells (([iV f.u.kind,iV no,sV f.u.jh,.bool f.u.kC,.bool f.u.gv,sV f.s,iV f.cl,iV f.me]:List Value).set 5 (.string (B []))).toArray 293)=bP {f with s:=[]}:=by simp[bP,FR.vals,eC]
  rw[e];exact iv (kG _) _ _
 clear SH;have lE:=uq _ _ ((Hp.ay ncf).trans hc);have zl:=uq _ _ ((Hp.ay ngf).trans hg);have rV:=uq _ _ ((Hp.ay Me).trans hm);have nE:=uq _ _ aX;have iA:=lE;have ta:=zl;simp only[fN,CR.vals]at iA;simp only[eS]at ta;simp only[bP,FR.vals,eC]at nE;refine ag ?_;refine Ny 15 16 [0,1,2,3,4,5,6,7,8,9,10,11,12,13,14,15,16,17,18,19] [0,1,2,3,4,5,6,7,8,9,10,11,12,13,14,16,15,17,18,19] (λ_ _ _=>False) ah jU (λ_ _ _ _ h=>h.elim) ?_ ?_<;>simp only[iw,List.modify_toArray,List.modify_succ_cons,List.modify_zero_cons]
 ·refine bu iA nE ?_;refineλun iD=>?_;have wP:∀{x o},dx.f x=some o->¬x=un:=λh e=>by subst e;rw[iD]at h;cases h
  have Ef:∀o,(dx.set un o).f c=_:=λo=>(Hp.ay (wP iA)).trans iA;have En:∀o,(dx.set un o).f bf=_:=λo=>(Hp.ay (wP nE)).trans nE;refine⟨jf Ef En,?_⟩;refine ag ?_;refineλco qS=>?_;have BJ:¬co=un:=bl qS aX;rw[Hp.ay BJ]at qS;have wO:∀{x o},dx.f x=some o->¬x=co:=λh e=>by subst e;rw[qS]at h;cases h
  have wH:∀o o',((dx.set un o).set co o').f c=_:=λo o'=>(Hp.ay (wO iA)).trans (Ef o);have zM:∀o o',((dx.set un o).set co o').f bf=_:=λo o'=>(Hp.ay (wO nE)).trans (En o);refine⟨jf wH zM,?_⟩;refine ag ?_;refine⟨jf wH zM,?_⟩;refine ag ?_;refineλh hh=>?_;have EK:¬h=co:=bl hh aX;rw[Hp.ay EK]at hh;have EJ:¬h=un:=bl hh aX;rw[Hp.ay EJ]at hh;have nh:∀{x o},dx.f x=some o->¬x=h:=λk e=>by subst e;rw[hh]at k;cases k
  have hH:∀o,((dx.set un (aU aW [] 0)).set co (aU bT [] 0)).set h o=((dx.set un (aU aW [] 0)).set co (aU bT [] 0)).set h o:=λo=>rfl;have e1:((dx.set un (.map #[] 0)).set co (.map #[] 0)).set h (iH c no un co ⟨false,0,0,0,[],[],0⟩)=((dx.set un (aU aW [] 0)).set co (aU bT [] 0)).set h (iH c no un co ⟨false,0,0,0,[],[],0⟩):=hH _;have Eg:∀o o' bV,(((dx.set un o).set co o').set h bV).f c=_:=λo o' bV=>(Hp.ay (nh iA)).trans (wH o o');have Eo:∀o o' bV,(((dx.set un o).set co o').set h bV).f bf=_:=λo o' bV=>(Hp.ay (nh nE)).trans (zM o o');have LX:∀o o' bV,(((dx.set un o).set co o').set h bV).f chm=some (aU aW l k):=λo o' bV=>(Hp.ay (nh rV)).trans ((Hp.ay (wO rV)).trans ((Hp.ay (wP rV)).trans rV));have LW:∀o o' bV,(((dx.set un o).set co o').set h bV).f g=_:=λo o' bV=>(Hp.ay (nh ta)).trans ((Hp.ay (wO ta)).trans ((Hp.ay (wP ta)).trans ta));refine⟨jf Eg Eo,?_⟩;refine ag ?_;refine BH (b:=chm) (k:=(no:Int)) uP hu ?_ (LX _ _ _) ?_ ?_
  ·exact au
  ·exact au
  refine gp ?_;have Mb:¬c=chm:=bl rV lE (by simp[aU,fN]);have Mc:¬bf=chm:=λe=>Me e.symm;have Md:¬g=chm:=bl rV zl (by simp[aU,eS]);have LU:∀o o' bV o3,((((dx.set un o).set co o').set h bV).set chm o3).f bf=_:=λo o' bV o3=>(Hp.ay Mc).trans (Eo o o' bV);have Eh:∀o o' bV o3,((((dx.set un o).set co o').set h bV).set chm o3).f c=_:=λo o' bV o3=>(Hp.ay Mb).trans (Eg o o' bV);have Ep:∀o o' bV o3,((((dx.set un o).set co o').set h bV).set chm o3).f g=_:=λo o' bV o3=>(Hp.ay Md).trans (LW o o' bV);refine aJ LU ?_;refineλba ij=>?_;have Ko:((((dx.set un (.map #[] 0)).set co (.map #[] 0)).set h (iH c no un co ⟨false,0,0,0,[],[],0⟩)).set chm (aU aW (jB l (no:Int) (pV h) k) (jN l (no:Int) k))).f ba=none:=ij;have wN:∀{x o},((((dx.set un (.map #[] 0)).set co (.map #[] 0)).set h (iH c no un co ⟨false,0,0,0,[],[],0⟩)).set chm (aU aW (jB l (no:Int) (pV h) k) (jN l (no:Int) k))).f x=some o->¬x=ba:=λk e=>by subst e;rw[Ko]at k;cases k
  refine ag ?_;refine aZ (HS (g:=g) (id:=id) (chm:=chm) (cr:=cr) (ch:=no) (cl:=20) (me:=11) (xs:=[.long 0]) ((Hp.ay (wN (Ep _ _ _ _))).trans (Ep _ _ _ _)) ((Hp.ay (wN (Eh _ _ _ _))).trans (Eh _ _ _ _)) (.inr ⟨ba,rfl,aX⟩) (by simp[lr]) al aa ai ai ai aa) ?_;refine ag ?_
  have back:∀{x},dx.f x=none->U.f x=none:=by
   intro x hx
   cases hs:U.f x with
   |none=>rfl
   |some o=>
    by_cases e:x=bf
    ·subst e;rw[nE]at hx;cases hx
    ·rw[uq _ _ ((Hp.ay e).trans hs)]at hx;cases hx
  refine an (J:=((((((U.set bf (bP {f with s:=[]})).set un (aU aW [] 0)).set co (aU bT [] 0)).set h (iH c no un co ⟨false,0,0,0,[],[],0⟩)).set chm (aU aW (jB l (no:Int) (pV h) k) (jN l (no:Int) k))).set c (fN g id chm {cr with out:=cr.out++ck no 20 11 [.long 0],iu:=clock}))) aI ?_ ⟨?_,un,co,h,back iD,back qS,back hh,(λe=>BJ e.symm),EJ,EK,rfl⟩
  ·refine iv ?_ _ _;have k1:(((((U.set bf (bP {f with s:=[]})).set un (aU aW [] 0)).set co (aU bT [] 0)).set h (iH c no un co ⟨false,0,0,0,[],[],0⟩)).set chm (aU aW (jB l (no:Int) (pV h) k) (jN l (no:Int) k))).le ((((dx.set un (aU aW [] 0)).set co (aU bT [] 0)).set h (iH c no un co ⟨false,0,0,0,[],[],0⟩)).set chm (aU aW (jB l (no:Int) (pV h) k) (jN l (no:Int) k))):=iv (iv (iv (iv uq _ _) _ _) _ _) _ _;rw[<-e1]at k1;exact Hp.le_trans k1 (λx o hx=>(Hp.ay (wN hx)).trans hx)
  ·simp[up]
 ·refine bu iA nE ?_;refineλco qS=>?_;have wO:∀{x o},dx.f x=some o->¬x=co:=λh e=>by subst e;rw[qS]at h;cases h
  have Ef:∀o,(dx.set co o).f c=_:=λo=>(Hp.ay (wO iA)).trans iA;have En:∀o,(dx.set co o).f bf=_:=λo=>(Hp.ay (wO nE)).trans nE;refine⟨jf Ef En,?_⟩;refine ag ?_;refineλun iD=>?_;have BJ:¬un=co:=bl iD aX;rw[Hp.ay BJ]at iD;have wP:∀{x o},dx.f x=some o->¬x=un:=λh e=>by subst e;rw[iD]at h;cases h
  have wH:∀o o',((dx.set co o).set un o').f c=_:=λo o'=>(Hp.ay (wP iA)).trans (Ef o);have zM:∀o o',((dx.set co o).set un o').f bf=_:=λo o'=>(Hp.ay (wP nE)).trans (En o);refine⟨jf wH zM,?_⟩;refine ag ?_;refine⟨jf wH zM,?_⟩;refine ag ?_;refineλh hh=>?_;have EK:¬h=un:=bl hh aX;rw[Hp.ay EK]at hh;have EJ:¬h=co:=bl hh aX;rw[Hp.ay EJ]at hh;have nh:∀{x o},dx.f x=some o->¬x=h:=λk e=>by subst e;rw[hh]at k;cases k
  have hH:∀o,((dx.set co (aU bT [] 0)).set un (aU aW [] 0)).set h o=((dx.set un (aU aW [] 0)).set co (aU bT [] 0)).set h o:=λo=>by rw[Hp.set_comm (λe=>BJ e.symm)]
  have e1:((dx.set co (.map #[] 0)).set un (.map #[] 0)).set h (iH c no un co ⟨false,0,0,0,[],[],0⟩)=((dx.set un (aU aW [] 0)).set co (aU bT [] 0)).set h (iH c no un co ⟨false,0,0,0,[],[],0⟩):=hH _;have Eg:∀o o' bV,(((dx.set co o).set un o').set h bV).f c=_:=λo o' bV=>(Hp.ay (nh iA)).trans (wH o o');have Eo:∀o o' bV,(((dx.set co o).set un o').set h bV).f bf=_:=λo o' bV=>(Hp.ay (nh nE)).trans (zM o o');have LX:∀o o' bV,(((dx.set co o).set un o').set h bV).f chm=some (aU aW l k):=λo o' bV=>(Hp.ay (nh rV)).trans ((Hp.ay (wP rV)).trans ((Hp.ay (wO rV)).trans rV));have LW:∀o o' bV,(((dx.set co o).set un o').set h bV).f g=_:=λo o' bV=>(Hp.ay (nh ta)).trans ((Hp.ay (wP ta)).trans ((Hp.ay (wO ta)).trans ta));refine⟨jf Eg Eo,?_⟩;refine ag ?_;refine BH (b:=chm) (k:=(no:Int)) uP hu ?_ (LX _ _ _) ?_ ?_
  ·exact au
  ·exact au
  refine gp ?_;have Mb:¬c=chm:=bl rV lE (by simp[aU,fN]);have Mc:¬bf=chm:=λe=>Me e.symm;have Md:¬g=chm:=bl rV zl (by simp[aU,eS]);have LU:∀o o' bV o3,((((dx.set co o).set un o').set h bV).set chm o3).f bf=_:=λo o' bV o3=>(Hp.ay Mc).trans (Eo o o' bV);have Eh:∀o o' bV o3,((((dx.set co o).set un o').set h bV).set chm o3).f c=_:=λo o' bV o3=>(Hp.ay Mb).trans (Eg o o' bV);have Ep:∀o o' bV o3,((((dx.set co o).set un o').set h bV).set chm o3).f g=_:=λo o' bV o3=>(Hp.ay Md).trans (LW o o' bV);refine aJ LU ?_;refineλba ij=>?_;have Ko:((((dx.set co (.map #[] 0)).set un (.map #[] 0)).set h (iH c no un co ⟨false,0,0,0,[],[],0⟩)).set chm (aU aW (jB l (no:Int) (pV h) k) (jN l (no:Int) k))).f ba=none:=ij;have wN:∀{x o},((((dx.set co (.map #[] 0)).set un (.map #[] 0)).set h (iH c no un co ⟨false,0,0,0,[],[],0⟩)).set chm (aU aW (jB l (no:Int) (pV h) k) (jN l (no:Int) k))).f x=some o->¬x=ba:=λk e=>by subst e;rw[Ko]at k;cases k
  refine ag ?_;refine aZ (HS (g:=g) (id:=id) (chm:=chm) (cr:=cr) (ch:=no) (cl:=20) (me:=11) (xs:=[.long 0]) ((Hp.ay (wN (Ep _ _ _ _))).trans (Ep _ _ _ _)) ((Hp.ay (wN (Eh _ _ _ _))).trans (Eh _ _ _ _)) (.inr ⟨ba,rfl,aX⟩) (by simp[lr]) al aa ai ai ai aa) ?_;refine ag ?_
  have back:∀{x},dx.f x=none->U.f x=none:=by
   intro x hx
   cases hs:U.f x with
   |none=>rfl
   |some o=>
    by_cases e:x=bf
    ·subst e;rw[nE]at hx;cases hx
    ·rw[uq _ _ ((Hp.ay e).trans hs)]at hx;cases hx
  refine an (J:=((((((U.set bf (bP {f with s:=[]})).set un (aU aW [] 0)).set co (aU bT [] 0)).set h (iH c no un co ⟨false,0,0,0,[],[],0⟩)).set chm (aU aW (jB l (no:Int) (pV h) k) (jN l (no:Int) k))).set c (fN g id chm {cr with out:=cr.out++ck no 20 11 [.long 0],iu:=clock}))) aI ?_ ⟨?_,un,co,h,back iD,back qS,back hh,(λe=>BJ e),EK,EJ,rfl⟩
  ·refine iv ?_ _ _;have k1:(((((U.set bf (bP {f with s:=[]})).set un (aU aW [] 0)).set co (aU bT [] 0)).set h (iH c no un co ⟨false,0,0,0,[],[],0⟩)).set chm (aU aW (jB l (no:Int) (pV h) k) (jN l (no:Int) k))).le ((((dx.set un (aU aW [] 0)).set co (aU bT [] 0)).set h (iH c no un co ⟨false,0,0,0,[],[],0⟩)).set chm (aU aW (jB l (no:Int) (pV h) k) (jN l (no:Int) k))):=iv (iv (iv (iv uq _ _) _ _) _ _) _ _;rw[<-e1]at k1;exact Hp.le_trans k1 (λx o hx=>(Hp.ay (wN hx)).trans hx)
  ·simp[up]
def gH(f:FuncId)(caps:Array Value):Deferred:={target:=.fn (.func f) caps,args:=#[]}
variable {fr:Frame}{df:FuncId}{caps:Array Value}
def apK(hm:fr.mode=.returning)(hd:fr.defers=gH df caps::ds)(hg:cz P df=true):
 ic P main (G fr cs) U λg ae=>ae=U/\g=G (Frame.enter P df caps .deferred) ({fr with defers:=ds}::cs):=by
 intro auu w cT
 have h:wpS P (invoke (gH df caps).target (gH df caps).args) (λn ae=>n=.enter df caps/\ae=U) (λ_ _=>False) U:=by simp only[gH,invoke];refine Ir hg ?_;simp
 obtain⟨w',ae,bY,e1,iK,eu,gA,hr⟩:=oM _ w U #[] h cT;rcases hr with⟨nx,hn,rfl,rfl⟩|⟨hh,hn,hq⟩
 ·have gI:((invoke (gH df caps).target (gH df caps).args).runT P w #[]).2=bY:=by simpa using e1
  have e2:(invoke (gH df caps).target (gH df caps).args).runT P w #[]=(_,bY):=Prod.ext hn gI;have iL:∀fn,∀e∈seen P fn bY,iF auu w'.heap.size e:=λfn e he=>gA e (mem_seen he);have mI:((gH df caps).target matches .nil)=false:=rfl
  have step:stepG P main (G fr cs) w=callDeferred P {fr with defers:=ds} cs none (gH df caps) w:=by simp only[G,stepG,hm,unwind,hd];rfl
  rw[step];unfold callDeferred;simp only[mI];generalize invoke (gH df caps).target (gH df caps).args=s at e2|-;simp only[e2,GStep.after];exact⟨_,iK,eu,λe he=>iL _ e (aY he),rfl,rfl,rfl⟩
 ·exact hq.elim
variable {b:Frame}{k:List Item}{cA:Array TypeId}{c:Frame}
def apI{ops:Array Oper}{i:Nat}{rest:List Nat}{gd:Option (Nat×Bool)}(ho:ops[i]? =some ⟨dst,.call ⟨.builtin .recover,#[],cA⟩,ty,pos,af,gd⟩)(hw:Region.wanted ⟨dst,.call ⟨.builtin .recover,#[],cA⟩,ty,pos,af,gd⟩ (yielded ops a.tmps)=true)(hb:b.kind=.deferred)(hc:c.mode=.returning):
 ic P main (G (b.at a (.inRegion ops (i::rest)::k)) (c::cs)) U λg ae=>ae=U/\g=G (b.at (a.put dst .nilIface) (.inRegion ops rest::k)) (c::cs):=by
 intro auu w hs
 have h:wpS P (execOp a.eval ⟨dst,.call ⟨.builtin .recover,#[],cA⟩,ty,pos,af,gd⟩) (λn ae=>n=.recover/\ae=U) (λ_ _=>False) U:=by simp only[execOp,resolve,aG,bt,invoke];exact⟨rfl,rfl⟩
 obtain⟨w',ae,bY,e1,cT,eu,gA,hr⟩:=oM _ w U #[] h hs;have gI:((execOp a.eval ⟨dst,.call ⟨.builtin .recover,#[],cA⟩,ty,pos,af,gd⟩).runT P w #[]).2=bY:=by simpa using e1
 rw[stepG_oper ho hw];have iL:∀fn,∀e∈seen P fn bY,iF auu w'.heap.size e:=λfn e he=>gA e (mem_seen he);have fG:(b.at a (.inRegion ops (i::rest)::k)).finish .nilIface=b.at (a.put dst .nilIface) (.inRegion ops rest::k):=by rw[Frame.finish_at,ho];rfl
 have Ll:tryRecover (b.at a (.inRegion ops (i::rest)::k)) (c::cs)=none:=by unfold tryRecover;simp only[Frame.at,hb,hc]
 rcases hr with⟨nx,hn,hq,rfl⟩|⟨hh,hn,hq⟩
 ·subst hq;have e2:(execOp a.eval ⟨dst,.call ⟨.builtin .recover,#[],cA⟩,ty,pos,af,gd⟩).runT P w #[]=(_,bY):=Prod.ext hn gI;generalize execOp a.eval _=s at e2|-;unfold stepG.apply;have Lc:(b.at a (.inRegion ops (i::rest)::k)).roundOf=none:=rfl;simp only[if_true,e2,Lc,Ll,GStep.after,fG];refine⟨_,cT,eu,λe he=>?_,rfl,rfl,rfl⟩;split at he
  ·simp[seen]at he
  ·simp only[Array.append_empty]at he;exact iL _ e he
 ·exact hq.elim
def apD(hm:fr.mode=.returning)(hd:fr.defers=[])(hk:fr.kind=.deferred)(hc:c.mode=.returning)(hf:P.funcs[fr.fn]? =some fn)(hr:fn.results= #[]):
 ic P main (G fr (c::cs)) U λg ae=>ae=U/\g=G c cs:=by
 intro auu w hs
 have eE:∀tmps,wpS P (results fn tmps) (λv' ae=>v'=.tuple #[]/\ae=U) (λ_ _=>False) U:=by intro tmps;simp[results,hr,bt]
 obtain⟨w',ae,bY,e1,cT,eu,gA,D3⟩:=oM (results fn fr.tmps) w U #[] (eE _) hs;rcases D3 with⟨v',hn,rfl,rfl⟩|⟨_,_,hq⟩
 ·have gI:((results fn fr.tmps).runT P w #[]).2=bY:=by simpa using e1
  have e2:(results fn fr.tmps).runT P w #[]=(.ok (.tuple #[]) w',bY):=Prod.ext hn gI
  have:stepG P main (G fr (c::cs)) w=.go (G c cs) w' (seen P fr.fn bY):=by simp[G,stepG,hm,unwind,hd,hf,-Sem.runT_eq,e2,doReturn,hk,GStep.after,hc]
  rw[this];exact⟨_,cT,eu,λe he=>gA e (mem_seen he),rfl,rfl,rfl⟩
 ·exact hq.elim
noncomputable def tO:Code:=f188.body.getD .skip
noncomputable def ET:Array Oper:=bM (bO tO)
noncomputable def Lu:Code:=dP (aP tO)
def NM:tO=.seq (.region 0 ET false) (.block 0 Lu):=ah
def AH:Frame:={(default:Frame)with fn:=188,kind:=.deferred}
def Uz:∃ps af,ET[0]? =some {dst:=some 5,op:=.call ⟨.builtin .recover,#[],#[]⟩,type:=20,pos:=ps,after:=af,guard:=none}:=⟨_,_,by simp only[ET,tO,f188,Option.getD_some,bO,bM];rfl⟩
def abt{b3 b4:Nat}(hc:c.mode=.returning):
 ax E (G (Frame.enter prog 188 #[pV b3,pV b4] .deferred) (c::cs)) U λg J=>g=G c cs/\J=U:=by
 have pd:Frame.enter prog 188 #[pV b3,pV b4] .deferred=AH.at {tmps:=#[pV b3,pV b4]++Array.replicate 11 undef,defers:=[]} [.code tO]:=by simp[Frame.enter,Frame.at,func188,AH,f188,tO]
 rw[pd,NM];have ha:=sL #[pV b3,pV b4] 13 al;refine ax.ctl (λw=>stepG_seq) rfl rfl ?_;refine ax.ctl (λw=>stepG_region) rfl rfl ?_;have hr:List.range ET.size=[0]:=ah;rw[hr];obtain⟨ps,af,ho⟩:=Uz;refine ax.step rfl (apI ho rfl rfl hc) ?_;rintro g J ⟨rfl,rfl⟩;have dk:cM 13 _ _ []:=ha.put (dst:=some 5) ai .nilIface;refine ax.ctl (λw=>stepG_region_end) rfl rfl ?_;refine(nR (E:=E) (N:=13) (X:=λI ds bW=>ds=[]/\bW=J) ?_ (by simp[AH]) dk).bind ?_
 ·simp only[Lu,tO,f188,Option.getD_some,aP,dP];simp only[go_sem,seval,aC,up];exact⟨rfl,rfl⟩
 rintro g bW ⟨mw,_,a2,gK,⟨rfl,rfl⟩,rfl⟩;refine ax.ctl (λw=>stepG_end) rfl rfl ?_;refine ax.step rfl (apD (fn:=f188) rfl gK.defers rfl hc func188 ah) ?_;rintro g nZ ⟨rfl,rfl⟩;exact ax.here ⟨rfl,rfl⟩
variable {E:Env P}
def abr{t:Operand}(ht:ak I t=.func (.func df) #[] caps)(h:nx (aC I dst undef) (gH df caps::ds) U):aT E ⟨dst,.defer ⟨.value t,#[],cA⟩,ty,pos,af,g⟩ I ds U nx pn:=by show wpOp E _ I ds U nx pn;unfold wpOp;simp only[execOp,resolve,Deferred.ofValue,ht,aG,bt];have e1:(#[]++Array.map (ak I) #[]:Array Value)= #[]:=al;rw[e1];exact h
def BE{b:Nat}(h:J.f b=some (.cells #[v] e (0,0))):jg prog 45 ⟨b,0,none⟩ J=some v:=by unfold jg;rw[if_neg (by rw[WY];simp)];simp[Hp.cell?,h]
variable {E:Env prog}{c:Nat}{u:Un}
def aqG{R:Hp->Prop}(hg:u.kC=false)(hw:u.gv=false)(hk:u.kind≠8)(CY:aw E 107 #[pV c,uV u] U λe J=>e=.returned (.tuple #[])/\R J):
 aw E 59 #[pV c,uV u] U λe J=>e=.returned (.tuple #[])/\R J:=by
 refine aV func59 ntmps59 results59 λQ aD an aB=>?_;simp only[uV]at CY;simp only[go_sem,seval,uV];refineλb3 ig=>?_;have hle:∀o,U.le (U.set b3 o):=λo x p h=>by rw[Hp.ay (bl h ig)];exact h
 have c8:¬u.kind=8:=hk;refine bN hg hw c8 ?_;rw[hg,hw]at CY;refine aL (CY.iR (hle _)) ?_;rintro v J ⟨hv,hR⟩
 cases hv
 refine ag ?_;exact aD dz ao ⟨rfl,hR⟩
def aqF(hg:u.kC=false)(hw:u.gv=false)(hk:u.kind=8):
 aw E 59 #[pV c,uV u] U λe J=>e=.returned (.tuple #[])/\J=U:=by
 refine fZ func59 ntmps59 results59 rfl al λQ aD an aB=>?_;simp only[go_sem,seval,uV];refineλb3 ig=>?_;have hle:∀o,U.le (U.set b3 o):=λo x p h=>by rw[Hp.ay (bl h ig)];exact h
 simp only[go_sem,seval,hg,hw,hk,decide_true];exact aD (J:=U) dz (hle _) ⟨rfl,rfl⟩
def aqH{g k1 k2 k3:Nat}{id:Int}(qe:u.kC=true)(hw:u.gv=false)(hg:U.f g=some (eS cfg br mc clock last))(hc:U.f c=some (fN g id chm cr))(e1:cfg.jr=k1)(e2:cfg.frame=k2)(e3:cfg.gG=k3)(l1:k1<100000)(l2:k2<100000)(l3:k3<100000)(fP:cr.out.length<=100000000000000):
 aw E 59 #[pV c,uV u] U λe J=>e=.returned (.tuple #[])/\J=U.set c (fN g id chm {cr with ph:=1,out:=cr.out++ck 0 10 30 [.short k1,.long k2,.short k3],iu:=clock}):=by
 refine fZ func59 ntmps59 results59 rfl al λQ aD an aB=>?_;have uX:¬g=c:=bl hc hg (by simp[eS,fN]);have cE:=hc;have fH:=hg;simp only[fN,CR.vals]at cE;simp only[eS,e1,e2,e3]at fH;simp only[go_sem,seval,uV];refineλb3 ig=>?_;have nb:∀{x o},U.f x=some o->¬x=b3:=λh e=>by subst e;rw[ig]at h;cases h
 have lc:∀o,(U.set b3 o).f c=_:=λo=>(Hp.ay (nb cE)).trans cE;have lg:∀o,(U.set b3 o).f g=_:=λo=>(Hp.ay (nb fH)).trans fH;have wH:∀(H:Hp) (o:Obj),(H.set c o).f c=some o:=λ_ _=>Hp.bD _ _;have LV:∀o o',((U.set b3 o).set c o').f g=_:=λo o'=>(Hp.ay uX).trans (lg o);refine bN qe hw lc ?_;refine bJ 30 ?_;refine bu wH LV ?_;refineλba ij=>?_;have Hy:¬c=ba:=bl ij aX;have nga:¬g=ba:=λe=>by subst e;rw[LV]at ij;cases ij
 have S7:∀(H:Hp) (o o':Obj),((H.set c o).set ba o').f c=some o:=λ_ _ _=>(Hp.ay Hy).trans aX;have Td:∀o o' bV,(((U.set b3 o).set c o').set ba bV).f g=_:=λo o' bV=>(Hp.ay nga).trans (LV o o');refine⟨jf S7 Td,?_⟩;refine ag ?_;refine aZ (HS (g:=g) (id:=id) (chm:=chm) (cr:={cr with ph:=1}) (ch:=0) (cl:=10) (me:=30) (xs:=[.short k1,.long k2,.short k3]) (cfg:=cfg) (br:=br) (mc:=mc) (clock:=clock) (last:=last) ?_ (S7 _ _ _) (.inr ⟨ba,rfl,aX⟩) ?_ al ai ai ai ?_ (by show cr.out.length<=_;omega)) ?_
 ·rw[Td];simp[eS,e1,e2,e3]
 ·simp[lr];omega
 ·simp[dg,eJ,bH]
 refine gp ?_;refine ag ?_;refine aD (J:=(U.set c (fN g id chm {cr with ph:=1,out:=cr.out++ck 0 10 30 [.short k1,.long k2,.short k3],iu:=clock}))) dz ?_ ⟨rfl,rfl⟩;intro x o hx;by_cases e:x=c
 ·subst e;rw[Hp.bD]at hx|-;exact hx
 ·rw[Hp.ay e]at hx;have h5:∀o,(U.set b3 o).f x=_:=λo=>(Hp.ay (nb hx)).trans hx;have:x≠ba:=λe'=>by subst e';rw[Hp.ay e,h5]at ij;cases ij
  rw[Hp.ay e,Hp.ay this,Hp.ay e];exact h5 _
def aku(c1:¬cfg.jr<1)(c2:¬cfg.jr>8)(c3:¬cfg.frame<64)(c4:¬cfg.frame>4096)(c5:¬cfg.gG<0)(c6:¬cfg.gG>50)(c7:¬cfg.queue<1)(c8:¬cfg.queue>50)(c9:¬cfg.body<0)(ZG:¬cfg.body>10000):
 aw E 32 #[.agg cfg.vals.toArray] U λe J=>∃g br mq mc,e=.returned (.tuple #[pV g,.nilIface])/\U.f g=none/\U.f br=none/\U.f mq=none/\U.f mc=none/\br≠mq/\mc≠mq/\mc≠br/\g≠mq/\g≠br/\g≠mc/\
  J=(((U.set mq (aU bT [] 0)).set br (ix mq cfg.queue 0 0)).set mc (aU aW [] 0)).set g (eS cfg br mc 0 0):=by
 refine aV func32 ntmps32 results32 λQ aD an aB=>?_;simp only[go_sem,seval,kt.vals];refineλb1 iY=>?_;have lb:∀(H:Hp) (o:Obj),(H.set b1 o).f b1=some o:=λ_ _=>Hp.bD _ _;simp only[go_sem,seval,lb,c1,c2,c3,c4,c5,c6,c7,c8,c9,ZG];refine Ny 3 4 [0,1,2,3,4,5,6,7,8] [0,1,2,4,3,5,6,7,8] (λ_ _ _=>False) ah jU (λ_ _ _ _ h=>h.elim) ?_ ?_<;>simp only[iw,List.modify_toArray,List.modify_succ_cons,List.modify_zero_cons]
 ·refine aJ lb ?_;refine aL TK ?_;rintro v J ⟨br,mq,hv,vY,L9,qR,rfl⟩
  cases hv
  have TA:¬b1=mq:=bl vY aX;have Tz:¬b1=br:=bl qR aX;rw[Hp.ay (λe=>TA e.symm)]at vY;rw[Hp.ay (λe=>Tz e.symm)]at qR;have l1:∀o o' bV,(((U.set b1 o).set mq o').set br bV).f b1=some o:=λo o' bV=>(Hp.ay Tz).trans ((Hp.ay TA).trans aX);refine⟨dJ l1,?_⟩;refine ag ?_;refineλmc nJ=>?_;have TI:¬mc=br:=bl nJ aX;rw[Hp.ay TI]at nJ;have EE:¬mc=mq:=bl nJ aX;rw[Hp.ay EE]at nJ;have ED:¬mc=b1:=bl nJ aX;rw[Hp.ay ED]at nJ;have l2:∀o o' bV o3,((((U.set b1 o).set mq o').set br bV).set mc o3).f b1=some o:=λo o' bV o3=>(Hp.ay (λe=>ED e.symm)).trans (l1 o o' bV);refine⟨dJ l2,?_⟩;refine ag ?_;refine⟨dJ l2,?_⟩;refine ag ?_;refineλg hg=>?_;have uX:¬g=mc:=bl hg aX;rw[Hp.ay uX]at hg;have EH:¬g=br:=bl hg aX;rw[Hp.ay EH]at hg;have EI:¬g=mq:=bl hg aX;rw[Hp.ay EI]at hg;have EG:¬g=b1:=bl hg aX;rw[Hp.ay EG]at hg;have l3:∀o o' bV o3 o4,(((((U.set b1 o).set mq o').set br bV).set mc o3).set g o4).f b1=some o:=λo o' bV o3 o4=>(Hp.ay (λe=>EG e.symm)).trans (l2 o o' bV o3);refine⟨dJ l3,?_⟩;refine ag ?_;refine an (J:=((((U.set mq (aU bT [] 0)).set br (ix mq cfg.queue 0 0)).set mc (aU aW [] 0)).set g (eS cfg br mc 0 0))) ji ?_ ⟨g,br,mq,mc,?_,hg,qR,vY,nJ,L9,EE,TI,EI,EH,uX,rfl⟩
  ·exact iv (iv (iv (iv (λx p h=>by rw[Hp.ay (bl h iY)];exact h) _ _) _ _) _ _) _ _
  ·simp[up]
 ·refine aJ lb ?_;refineλmc nJ=>?_;have ED:¬mc=b1:=bl nJ aX;rw[Hp.ay ED]at nJ;have l0:∀o o',((U.set b1 o).set mc o').f b1=some o:=λo o'=>(Hp.ay (λe=>ED e.symm)).trans aX;refine⟨dJ l0,?_⟩;refine ag ?_;refine aL TK ?_;rintro v J ⟨br,mq,hv,vY,L9,qR,rfl⟩
  cases hv
  have Mn:¬mq=mc:=bl vY aX;rw[Hp.ay Mn]at vY;have TR:¬mq=b1:=bl vY aX;rw[Hp.ay TR]at vY;have EC:¬br=mc:=bl qR aX;rw[Hp.ay EC]at qR;have TG:¬br=b1:=bl qR aX;rw[Hp.ay TG]at qR;have l1:∀o o' bV o3,((((U.set b1 o).set mc o').set mq bV).set br o3).f b1=some o:=λo o' bV o3=>(Hp.ay (λe=>TG e.symm)).trans ((Hp.ay (λe=>TR e.symm)).trans (l0 o o'));refine⟨dJ l1,?_⟩;refine ag ?_;refine⟨dJ l1,?_⟩;refine ag ?_;refineλg hg=>?_;have EH:¬g=br:=bl hg aX;rw[Hp.ay EH]at hg;have EI:¬g=mq:=bl hg aX;rw[Hp.ay EI]at hg;have uX:¬g=mc:=bl hg aX;rw[Hp.ay uX]at hg;have EG:¬g=b1:=bl hg aX;rw[Hp.ay EG]at hg;have l3:∀o o' bV o3 o4,(((((U.set b1 o).set mc o').set mq bV).set br o3).set g o4).f b1=some o:=λo o' bV o3 o4=>(Hp.ay (λe=>EG e.symm)).trans (l1 o o' bV o3);refine⟨dJ l3,?_⟩;refine ag ?_
  have Kv:∀(H:Hp) (o o' bV:Obj),(((H.set mc o).set mq o').set br bV)=(((H.set mq o').set br bV).set mc o):=by intro H o o' bV;rw[Hp.set_comm (a:=mc) (b:=mq) (λe=>Mn e.symm),Hp.set_comm (a:=mc) (b:=br) (λe=>EC e.symm)]
  refine an (J:=((((U.set mq (aU bT [] 0)).set br (ix mq cfg.queue 0 0)).set mc (aU aW [] 0)).set g (eS cfg br mc 0 0))) ji ?_ ⟨g,br,mq,mc,?_,hg,qR,vY,nJ,L9,(λe=>Mn e.symm),(λe=>EC e.symm),EI,EH,uX,rfl⟩
  ·rw[Kv];exact iv (iv (iv (iv (λx p h=>by rw[Hp.ay (bl h iY)];exact h) _ _) _ _) _ _) _ _
  ·simp[up]
section
open Go.Extern
abbrev hT(t:Nat):Value:=.pointer (some ⟨4,t,none⟩)
abbrev rT(t:Nat):Value:=.iface 222 (.agg #[hT t])
variable {H:Halt->Hp->Prop}{QM:FuncId×Value->Hp->Prop}{t:Nat}
def AG:wpS prog (method (prog.types.size+Made.depth) 222 (.agg #[hT t]) "Kind") QM H U=QM (319,hT t) U:=ah
def I8:wpS prog (method (prog.types.size+Made.depth) 222 (.agg #[hT t]) "Elem") QM H U=QM (335,.agg #[hT t]) U:=ah
def I9:wpS prog (method (prog.types.size+Made.depth) 222 (.agg #[hT t]) "Implements") QM H U=QM (336,.agg #[hT t]) U:=ah
def FN:wpS prog (method (prog.types.size+Made.depth) 222 (.agg #[hT t]) "AssignableTo") QM H U=QM (333,.agg #[hT t]) U:=ah
variable {t:TypeId}
def FO(z:Sem Value)(f:TypeId->Addr->Nat->Nat->Sem Value)(v:Value):
 ReflectliteValue.method z f #[v]=(do match<-ReflectliteValue.parts v with|none=>z|some (t,a,fl)=>f t a fl (fl % 32)):=rfl
def Cv{a:TypeId}(hg:dC prog t=false)(ha:U.f a=some (.cells #[v] e (0,0))):jg prog t ⟨a,0,none⟩ U=some v:=by unfold jg;rw[if_neg (by rw[hg];simp)];simp[Hp.cell?,ha]
variable {b:Nat}
def OI(v x:Value):ReflectliteValue.set #[v,x]=(do
 let(some (dst,a,fl),some (src,b,_)):=(<-ReflectliteValue.parts v,<-ReflectliteValue.parts x)
  |unsupported (.noEntry "extern/(internal/reflectlite.Value).Set.zeroValue")
 if fl/ReflectliteValue.flagAddr % 2==0 then unsupported (.noEntry "extern/(internal/reflectlite.Value).Set.unaddressable")
 let val<-loadVar src b
 if<-Rtype.directlyAssignable dst src then storeVar dst a val
 else if<-Rtype.implements dst src then
  if(<-Rtype.kind src)==20 then
   match val with
   | .nilIface=>unsupported (.noEntry "extern/reflectlite: a nil value of one interface type handed on as a value of another")
   |_=>storeVar dst a val
  else storeVar dst a (.iface src val)
 else panicString ("reflectlite.Set: value of type " ++(<-Rtype.spelt src)++ " is not assignable to type " ++(<-Rtype.spelt dst))
 pure (.tuple #[])):=rfl
variable {E:Env P}
def mh{r:Operand}{name:String}{args:Array Operand}{recv:Value}{f:FuncId}(hx:ak I r=.iface t v)(hm:∀(Q:FuncId×Value->Hp->Prop) (H:Halt->Hp->Prop),Q (f,recv) U->wpS P (method (P.types.size+Made.depth) t v name) Q H U)(h:kx E f (#[recv]++args.map (ak I)) U dst I ds nx pn):aT E ⟨dst,.call ⟨.invoke r name,args,cA⟩,ty,pos,af,g⟩ I ds U nx pn:=by
 show wpOp E _ I ds U nx pn;unfold wpOp
 have e1:(#[Value.iface t v]++args.map (ak I)).extract 1 (#[Value.iface t v]++args.map (ak I)).size=args.map (ak I):=by apply Array.ext';simp[List.take_of_length_le]
 have e2:(#[Value.iface t v]++args.map (ak I))[0]? =some (.iface t v):=by rw[Array.getElem?_append_left al];rfl
 simp only[execOp,resolve,hx,aG,bt,invoke,e2,callMethod,Am];refine hm _ _ ?_;rw[e1];exact h
def Fl:Extern.find f61=some (λargs=>ReflectliteValue.unpack (args.getD 0 (.tuple #[]))):=ah
def NG:Extern.find f62=some (ReflectliteValue.methodAny (ReflectliteValue.valueError "reflectlite.Value.Type" 0) (λt _ _ _=>ReflectliteType.toType t)):=ah
def NH:Extern.find f63=some (ReflectliteValue.method (ReflectliteValue.valueError "reflectlite.Value.IsNil" 0) ReflectliteValue.isNil):=ah
def Iv:Extern.find f113=some ReflectliteType.typeOf:=ah
def VZ:Extern.find f114=some (ReflectliteValue.method (ReflectliteValue.valueError "reflectlite.Value.Elem" 0) ReflectliteValue.elem):=ah
def V0:Extern.find f115=some ReflectliteValue.set:=ah
def Ce:Extern.find f319=some (ReflectliteType.abiMethod λt=>(λa:Nat=>Value.int IntKind.u8 (a:Int))<$>Rtype.kind t):=ah
def Iw:Extern.find f333=some (ReflectliteType.relation "AssignableTo" ReflectliteType.assignableTo):=ah
def ND:Extern.find f335=some (ReflectliteType.method ReflectliteType.elem):=ah
def NF:Extern.find f336=some (ReflectliteType.relation "Implements" ReflectliteType.implements_):=ah
end
def Yi(i n:Nat):aA (i+1) n=(n/256^i).toUInt8::aA i n:=by unfold aA;rw[List.range_succ_eq_map,List.map_cons,List.map_map];congr 1;apply List.map_congr_left;intro j hj;simp only[Function.comp_def];have:i+1-1-(j+1)=i-1-j:=aa;rw[this]
variable {E:Env P}
def ZA{s d:TypeId}{b:Nat}{k:Nat}{et:TypeId}(hs:P.underlying s=some (.slice e))(hd:P.underlying d=some .string)(he:P.underlying e=some (.int .u8))(hx:ak I x=.slice (some ⟨b,0,none⟩) 1 cap)(hb:U.f b=some (.cells (.int .u8 k::pad).toArray et (0,0)))(h:nx (aC I dst (.string (B [UInt8.ofNat k]))) ds U):wpOp E ⟨dst,.convert s d x,ty,pos,af,g⟩ I ds U nx pn:=by
 unfold wpOp;simp only[execOp,convert,aG,eg,hs,hd,hx,he,Conv.bytesToString,loadCells];refine Iu (a:=⟨b,0,none⟩) hb rfl 1 0 #[] _ al ?_
 have e1:(#[]++(.int .u8 (k:Int)::pad).toArray.extract ((⟨b,0,none⟩:Addr).off+0) ((⟨b,0,none⟩:Addr).off+0+1):Array Value)= #[.int .u8 (k:Int)]:=by apply Array.ext';simp
 rw[e1];exact h
variable {E:Env prog}
def jD{w:Nat}(hw:w<=8)(hn:n<9223372036854775808):aw E 20 #[iV n,iV w] U λe J=>e=.returned (sV (aA w n))/\J=U:=by
 refine fZ func20 ntmps20 results20 rfl al λQ aD an aB=>?_;refine ag ?_;refine dh (λm I ds ae=>ds=[]/\U.le ae/\I 1=iV w/\∃i:Nat,i+m=w/\I 0=iV ((n/256^i:Nat):Int)/\I 5=sV (aA i n)/\I 6=iV i) w ?_ ?_
 ·refine⟨rfl,Hp.le_refl _,?_,0,al,?_,?_,?_⟩
  ·exact au
  ·simp only[go_sem,seval];simp
  ·exact au
  ·exact au
 ·rintro m I ds ae X ⟨rfl,hle,h1,i,Bl,h0,h5,h6⟩ hX
  cases m with
  |zero=>
   have c0:¬(i:Int)<w:=aa;obtain rfl:i=w:=aa;refine fR h1 h5 h6 c0 ?_;exact an (J:=U) aI hle ⟨by simp[up],rfl⟩
  |succ m=>
   have c0:(i:Int)<w:=aa;have wU:IntKind.u8.wrap ((n/256^i:Nat):Int)=(((n/256^i) % 256:Nat):Int):=by rw[IntKind.wrap_u8];omega
   have wS:yu .i64 ((n/256^i:Nat):Int) 8=((n/256^(i+1):Nat):Int):=by unfold yu;have e1:(8:Int).toNat=8:=rfl;have e2:min 8 IntKind.i64.bits=8:=rfl;rw[e1,e2,Nat.pow_succ,<-Nat.div_div_eq_div_mul,Int.natCast_ediv,show(2:Int)^8=((256:Nat):Int)from rfl,Int.fdiv_eq_ediv_of_nonneg _ aa];simp only[Int.natCast_ediv]
   have w1:=fT i;refine mr h0 h1 h6 c0 wU ?_;refineλb hb=>?_;have ov:∀o,U.le (ae.set b o):=λo x p h=>by rw[Hp.ay (bl hb (hle _ _ h))];exact hle _ _ h
   refine ag ?_;refine ZA (e:=5) (b:=b) (cap:=1) (k:=(n/256^i) % 256) (pad:=[]) (et:=5) ah ah ah ?_ aX ?_
   ·exact au
   have lb:1+(aA i n).length<=9223372036854775807:=by rw[bH];omega
   have eB:[UInt8.ofNat ((n/256^i) % 256)]++aA i n=aA (i+1) n:=by
    rw[Yi]
    have:UInt8.ofNat ((n/256^i) % 256)=(n/256^i).toUInt8:=by apply UInt8.toNat_inj.1;simp
    rw[this];rfl
   simp only[go_sem,seval,h0,h5,h6,lb,eB,wS,w1];refine hX m _ _ _ _ aa ⟨rfl,ov _,?_,i+1,aa,?_,?_,?_⟩ ao
   ·exact aQ h1
   ·exact au
   ·exact au
   ·exact au
def zO{s:List UInt8}(hs:s.length<=1000000):aw E 19 #[sV s] U λe J=>e=.returned (sV (aA 1 s.length++s))/\J=U:=by
 refine fZ func19 ntmps19 results19 rfl al λQ aD an aB=>?_;refine ag ?_;refine aZ (jD (n:=s.length) (w:=1) ai aa) ?_;have l1:(aA 1 s.length).length+s.length<=9223372036854775807:=by rw[bH];omega
 refine aJ l1 ?_;exact an aI ao ⟨by simp[up],rfl⟩
variable {p:List UInt8}
def zN{kind:Nat}(hk:kind<1000)(hc:ch<100000)(hp:p.length<=1000000):aw E 21 #[iV kind,iV ch,sV p] U λe J=>e=.returned (sV (ep kind ch p))/\J=U:=by
 refine fZ func21 ntmps21 results21 rfl al λQ aD an aB=>?_;refine ag ?_;refine aZ (jD (n:=kind) (w:=1) ai aa) ?_;refine ag ?_;refine aZ (jD (n:=ch) (w:=2) ai aa) ?_;refine ag ?_;refine aZ (jD (n:=p.length) (w:=4) ai aa) ?_;have l1:(aA 1 kind).length+(aA 2 ch).length<=9223372036854775807:=by simp only[bH];omega
 have l2:(aA 1 kind++aA 2 ch).length+(aA 4 p.length).length<=9223372036854775807:=by simp only[List.length_append,bH];omega
 have l3:(aA 1 kind++aA 2 ch++aA 4 p.length).length+p.length<=9223372036854775807:=by simp only[List.length_append,bH];omega
 have l4:(aA 1 kind++aA 2 ch++aA 4 p.length++p).length+1<=9223372036854775807:=by simp only[List.length_append,bH];omega
 refine fR l1 l2 l3 l4 ?_;exact an aI ao ⟨by simp[up,ep],rfl⟩
def ajb(hc:ch<100000)(h1:cl<100000)(h2:me<100000)(hp:p.length<=100000):aw E 18 #[iV ch,iV cl,iV me,sV p] U λe J=>e=.returned (sV (ep 1 ch (aA 2 cl++aA 2 me++p)))/\J=U:=by
 refine fZ func18 ntmps18 results18 rfl al λQ aD an aB=>?_;refine ag ?_;refine aZ (jD (n:=cl) (w:=2) ai aa) ?_;refine ag ?_;refine aZ (jD (n:=me) (w:=2) ai aa) ?_;have l1:(aA 2 cl).length+(aA 2 me).length<=9223372036854775807:=by simp only[bH];omega
 have l2:(aA 2 cl++aA 2 me).length+p.length<=9223372036854775807:=by simp only[List.length_append,bH];omega
 refine bu l1 l2 ?_;refine aZ (zN (kind:=1) ai hc (by simp only[List.length_append,bH];omega)) ?_;refine ag ?_;exact an aI ao ⟨by simp[up],rfl⟩
def fB(ch cl me:Nat)(p:List UInt8):List UInt8:=ep 1 ch (aA 2 cl++aA 2 me++p)
def tV(ch cl me:Nat)(p:List UInt8):(fB ch cl me p).length=p.length+12:=by simp[fB,ju,bH];omega
def qd(h:Nat):List UInt8:=pT++fB 0 10 31 (aA 2 4++aA 4 64++aA 2 h)++fB 0 10 40 (aA 1 1++[47])++fB 1 20 10 (aA 1 0)++fB 1 50 10 (aA 1 1++[113])
def sm(hc:ch<100000)(h1:cl<100000)(h2:me<100000)(hp:p.length<=100000):aw E 18 #[iV ch,iV cl,iV me,sV p] U λe J=>e=.returned (sV (fB ch cl me p))/\J=U:=ajb hc h1 h2 hp
def afh{h:Nat}(hh:h<=1000):aw E 38 #[iV h] U λe J=>e=.returned (sV (qd h))/\J=U:=by
 refine fZ func38 ntmps38 results38 rfl al λQ aD an aB=>?_;refine ag ?_;refine aZ (jD (n:=4) (w:=2) ai ai) ?_;refine ag ?_;refine aZ (jD (n:=64) (w:=4) ai ai) ?_;refine ag ?_;refine aZ (jD (n:=h) (w:=2) ai aa) ?_;have l1:(aA 2 4).length+(aA 4 64).length<=9223372036854775807:=ai;have l2:(aA 2 4++aA 4 64).length+(aA 2 h).length<=9223372036854775807:=by simp only[List.length_append,bH];omega
 refine bu l1 l2 ?_;refine aZ (sm (ch:=0) (cl:=10) (me:=31) ai ai ai (by simp only[List.length_append,bH];omega)) ?_;have la:(fB 0 10 31 (aA 2 4++aA 4 64++aA 2 h)).length=20:=by rw[tV];simp[bH]
 have lb:(fB 0 10 40 (aA 1 1++[47])).length=14:=by rw[tV];simp[bH]
 have lc:(fB 1 20 10 (aA 1 0)).length=13:=by rw[tV];simp[bH]
 have ld:(fB 1 50 10 (aA 1 1++[113])).length=14:=by rw[tV];simp[bH]
 refine aJ la ?_;refine aZ (zO (s:=[47]) ai) ?_;refine ag ?_;refine aZ (sm (ch:=0) (cl:=10) (me:=40) (p:=aA 1 1++[47]) ai ai ai ai) ?_;refine bu la lb ?_;refine aZ (zO (s:=[]) ai) ?_;refine ag ?_;refine aZ (sm (ch:=1) (cl:=20) (me:=10) (p:=aA 1 0) ai ai ai ai) ?_;simp only[go_sem,seval,la,lb,lc,List.length_append];refine aZ (zO (s:=[113]) ai) ?_;refine ag ?_;refine aZ (sm (ch:=1) (cl:=50) (me:=10) (p:=aA 1 1++[113]) ai ai ai ai) ?_;simp only[go_sem,seval,la,lb,lc,ld,List.length_append];exact an aI ao ⟨by simp[up,qd,pT],rfl⟩
def yo(c n:Int):Int:=(if c<0 then-(c+1)else c).tmod n
def amx{c n:Int}(hn:0<n):0<=yo c n/\yo c n<n:=by
 unfold yo;have h0:0<=(if c<0 then-(c+1)else c):=by split<;>omega
 exact⟨Int.tmod_nonneg n h0,Int.tmod_lt_of_pos _ hn⟩
def amt{c n:Int}(hc: -9223372036854775808<=c/\c<=9223372036854775807)(hn:0<n/\n<=1000):aw E 14 #[iV c,iV n] U λe J=>e=.returned (iV (yo c n))/\J=U:=by
 refine fZ func14 ntmps14 results14 rfl al λQ aD an aB=>?_;have nz:¬n=0:=aa;by_cases h0:c<0
 ·have w1:IntKind.i64.wrap (c+1)=c+1:=wrap64 aa aa;have w2:IntKind.i64.wrap (0-(c+1))= -(c+1):=cJ;refine fR h0 w1 w2 nz ?_;exact an aI ao ⟨by simp[up,yo,h0],rfl⟩
 ·refine bu h0 nz ?_;exact an aI ao ⟨by simp[up,yo,h0],rfl⟩
end Go.Qw
