/- 12 -/
import Derived.Sort.AssemblyPlain
import Derived.Test.YtpiabknabfbfhaaGreatDoorKept11
set_option linter.all false
set_option maxRecDepth 100000
set_option maxHeartbeats 8000000
namespace Go.Qw
open Go Go.Conc Go.Proofs Go.Proofs.Tryz
variable {E:Env prog}{U J:Hp}{d:List Int}{pad:List Value}{blk cap a b pv:Nat}
def aml(M:Mx U blk d pad J)(dm:a+12<b)(hb:b<=d.length)(hn:d.length<=1000000)(G0:a<=pv)(th:pv<b):
 aw E 170 #[dS blk d.length cap,iV a,iV b,iV pv] J λe J=>(∃(m:Nat) (r:Bool),a<=m/\m<b/\e=.returned (.tuple #[iV m,.bool r]))/\Mx U blk d pad J:=by
 refine aV func170 ntmps170 results170 λQ aD an aB=>?_;obtain⟨a1,dk⟩:∃a1,a1=a+1:=⟨_,rfl⟩;obtain⟨b1,iY⟩:∃b1,b1=b-1:=⟨_,rfl⟩;have wa:IntKind.i64.wrap ((a:Int)+1)=(a1:Int):=cJ;have wb:IntKind.i64.wrap ((b:Int)-1)=(b1:Int):=cJ;have sk:∀x,dn (iV x)=true:=λ_=>rfl;refine ag ?_;obtain⟨L,x,y,fa,cx,cy,gx,gy,l1,l2,M2⟩:=M.two (i:=a) (j:=pv) aa aa;refine bJ 16 ?_;refine oK cx cy fa gx gy sk l1 ?_;refine⟨dE fa gx gy,?_⟩;refine ag ?_;refine⟨l2,?_⟩;refine⟨dE fa gx gy,?_⟩;refine bu wa wb ?_
 try rw[Hp.set_set]
 clear M;generalize J.set blk _=J at*;have M:=M2;clear M2;refine BB (.exit 0) (λI ae=>(I 0=dS blk d.length cap/\I 1=iV a/\I 11=iV b1)/\ae=J/\∃k:Nat,I 10=iV k/\a1<=k/\(k<=b1+1\/k=a1)) ?_ λQ hQ=>?_
 rotate_left
 ·refine dh (λm I ds ae=>ds=[]/\(I 0=dS blk d.length cap/\I 1=iV a/\I 11=iV b1)/\ae=J/\∃k:Nat,I 10=iV k/\m=b1+1-k/\a1<=k/\(k<=b1+1\/k=a1)) (b1+1-a1) ?_ ?_
  ·refine⟨rfl,⟨?_,?_,?_⟩,rfl,a1,?_,rfl,aa,aa⟩<;>exact au
  rintro m I ds _ X ⟨rfl,⟨g0,g1,gj⟩,rfl,k,gk,rfl,iB,ik⟩ hX;refine ag ?_;refine bJ 14 ?_;by_cases hle:k<=b1
  ·have c0:(k:Int)<=b1:=aa;obtain⟨L,x,y,fa,cx,ca,gx,ga⟩:=M.rd.two (i:=k) (j:=a) aa aa;have wk:=fT k;simp only[go_sem,seval,g0,g1,gj,gk,c0,cx,ca,fa,gx,ga];refine aZ px ?_;refine⟨dE fa gx ga,?_⟩
   cases decide (x<y)with
   |true=>
    refine bu gk wk ?_;refine hX _ _ _ _ _ aa ⟨rfl,⟨?_,?_,?_⟩,rfl,k+1,?_,rfl,aa,aa⟩ ao<;>exact nW g0 g1 gj
   |false=>
    refine ag ?_;refine hQ _ _ ⟨⟨?_,?_,?_⟩,rfl,k,?_,iB,ik⟩<;>exact iP g0 g1 gj gk
  ·have c0:¬(k:Int)<=b1:=aa;refine bN gj gk c0 ?_;refine hQ _ _ ⟨⟨?_,?_,?_⟩,rfl,k,?_,iB,ik⟩<;>exact iP g0 g1 gj gk
 rintro I J ⟨⟨h0,h1,bR⟩,rfl,i2,bB,OP,AI⟩;refine ag ?_;refine BB (.exit 2) (λI ae=>(I 0=dS blk d.length cap/\I 1=iV a/\I 10=iV i2)/\ae=J/\∃k:Nat,I 11=iV k/\k<=b1/\(i2<=k+1\/k=b1)) ?_ λQ hQ=>?_
 rotate_left
 ·refine dh (λk I ds ae=>ds=[]/\(I 0=dS blk d.length cap/\I 1=iV a/\I 10=iV i2)/\ae=J/\I 11=iV k/\k<=b1/\(i2<=k+1\/k=b1)) (b1) ?_ ?_
  ·refine⟨rfl,⟨?_,?_,?_⟩,rfl,?_,aa,aa⟩<;>exact iP h0 h1 bB bR
  rintro k I ds _ X ⟨rfl,⟨g0,g1,gj⟩,rfl,gk,iB,ik⟩ hX;refine ag ?_;refine bJ 15 ?_;by_cases hle:i2<=k
  ·have c0:(i2:Int)<=k:=aa;obtain⟨L,x,y,fa,cx,ca,gx,ga⟩:=M.rd.two (i:=k) (j:=a) aa aa;obtain⟨p,hp⟩:∃p,p=k-1:=⟨_,rfl⟩;have wk:IntKind.i64.wrap ((k:Int)-1)=(p:Int):=cJ;simp only[go_sem,seval,g0,g1,gj,gk,c0,cx,ca,fa,gx,ga];refine aZ px ?_;refine⟨dE fa gx ga,?_⟩
   cases decide (x<y)with
   |false=>
    refine bu gk wk ?_;refine hX p _ _ _ _ aa ⟨rfl,⟨?_,?_,?_⟩,rfl,?_,aa,aa⟩ ao<;>exact nW g0 g1 gj
   |true=>
    refine ag ?_;refine hQ _ _ ⟨⟨?_,?_,?_⟩,rfl,k,?_,iB,ik⟩<;>exact iP g0 g1 gj gk
  ·have c0:¬(i2:Int)<=k:=aa;refine bN gj gk c0 ?_;refine hQ _ _ ⟨⟨?_,?_,?_⟩,rfl,k,?_,iB,ik⟩<;>exact iP g0 g1 gj gk
 rintro I J ⟨⟨h0,h1,bB⟩,rfl,j2,bR,OQ,OR⟩;by_cases qU:j2<i2
 ·have k0:(j2:Int)<i2:=aa;refine bN bB bR k0 ?_;obtain⟨L,x,y,fa,cx,cy,gx,gy,l1,l2,M2⟩:=M.two (i:=j2) (j:=a) aa aa;refine bJ 16 ?_;simp only[go_sem,seval,h0,h1,bR,cx,cy,fa,gx,gy,sk,l1];refine⟨dE fa gx gy,?_⟩;refine ag ?_;refine⟨l2,?_⟩;refine⟨dE fa gx gy,?_⟩;refine aJ bR ?_
  try rw[Hp.set_set]
  exact an ji ao ⟨⟨j2,_,aa,aa,by simp[up];rfl⟩,M2⟩
 have k0:¬(j2:Int)<i2:=aa;have wi:=fT i2;have wj:IntKind.i64.wrap ((j2:Int)-1)=((j2-1:Nat):Int):=cJ;refine bN bB bR k0 ?_;obtain⟨L,x,y,fa,cx,cy,gx,gy,l1,l2,M2⟩:=M.two (i:=i2) (j:=j2) aa aa;refine bJ 16 ?_;simp only[go_sem,seval,h0,bB,bR,cx,cy,fa,gx,gy,sk,l1];refine⟨dE fa gx gy,?_⟩;refine ag ?_;refine⟨l2,?_⟩;refine⟨dE fa gx gy,?_⟩;refine fR bB bR wi wj ?_
 try rw[Hp.set_set]
 refine dh (λm I ds ae=>ds=[]/\I 0=dS blk d.length cap/\I 1=iV a/\∃(i j:Nat),m=j+1-i/\I 10=iV i/\I 11=iV j/\a+2<=i/\i<=b/\i<=j+2/\j<b/\Mx U blk d pad ae) _ ⟨rfl,?_,?_,i2+1,j2-1,rfl,?_,?_,aa,aa,aa,aa,M2⟩ ?_
 iterate 4 simp only[go_sem,seval,h0,h1]
 clear h0 h1 bB bR M M2 I;rintro m I ds J Y ⟨rfl,h0,h1,i,j,rfl,bB,bR,Df,Dz,afA,hjb,M⟩ hY;refine ag ?_;refine BB (.exit 6) (λI ae=>(I 0=dS blk d.length cap/\I 1=iV a/\I 11=iV j)/\ae=J/\∃k:Nat,I 10=iV k/\i<=k/\(k<=j+1\/k=i)) ?_ λQ hQ=>?_
 rotate_left
 ·refine dh (λm I ds ae=>ds=[]/\(I 0=dS blk d.length cap/\I 1=iV a/\I 11=iV j)/\ae=J/\∃k:Nat,I 10=iV k/\m=j+1-k/\i<=k/\(k<=j+1\/k=i)) (j+1-i) ?_ ?_
  ·refine⟨rfl,⟨?_,?_,?_⟩,rfl,i,?_,rfl,aa,aa⟩<;>exact iP h0 h1 bB bR
  rintro m I ds _ X ⟨rfl,⟨g0,g1,gj⟩,rfl,k,gk,rfl,iB,ik⟩ hX;refine ag ?_;refine bJ 14 ?_;by_cases hle:k<=j
  ·have c0:(k:Int)<=j:=aa;obtain⟨L,x,y,fa,cx,ca,gx,ga⟩:=M.rd.two (i:=k) (j:=a) aa aa;have wk:=fT k;simp only[go_sem,seval,g0,g1,gj,gk,c0,cx,ca,fa,gx,ga];refine aZ px ?_;refine⟨dE fa gx ga,?_⟩
   cases decide (x<y)with
   |true=>
    refine bu gk wk ?_;refine hX _ _ _ _ _ aa ⟨rfl,⟨?_,?_,?_⟩,rfl,k+1,?_,rfl,aa,aa⟩ ao<;>exact nW g0 g1 gj
   |false=>
    refine ag ?_;refine hQ _ _ ⟨⟨?_,?_,?_⟩,rfl,k,?_,iB,ik⟩<;>exact iP g0 g1 gj gk
  ·have c0:¬(k:Int)<=j:=aa;refine bN gj gk c0 ?_;refine hQ _ _ ⟨⟨?_,?_,?_⟩,rfl,k,?_,iB,ik⟩<;>exact iP g0 g1 gj gk
 rintro I J ⟨⟨h0,h1,bR⟩,rfl,i2,bB,OP,AI⟩;refine ag ?_;refine BB (.exit 8) (λI ae=>(I 0=dS blk d.length cap/\I 1=iV a/\I 10=iV i2)/\ae=J/\∃k:Nat,I 11=iV k/\k<=j/\(i2<=k+1\/k=j)) ?_ λQ hQ=>?_
 rotate_left
 ·refine dh (λk I ds ae=>ds=[]/\(I 0=dS blk d.length cap/\I 1=iV a/\I 10=iV i2)/\ae=J/\I 11=iV k/\k<=j/\(i2<=k+1\/k=j)) (j) ?_ ?_
  ·refine⟨rfl,⟨?_,?_,?_⟩,rfl,?_,aa,aa⟩<;>exact iP h0 h1 bB bR
  rintro k I ds _ X ⟨rfl,⟨g0,g1,gj⟩,rfl,gk,iB,ik⟩ hX;refine ag ?_;refine bJ 15 ?_;by_cases hle:i2<=k
  ·have c0:(i2:Int)<=k:=aa;obtain⟨L,x,y,fa,cx,ca,gx,ga⟩:=M.rd.two (i:=k) (j:=a) aa aa;obtain⟨p,hp⟩:∃p,p=k-1:=⟨_,rfl⟩;have wk:IntKind.i64.wrap ((k:Int)-1)=(p:Int):=cJ;simp only[go_sem,seval,g0,g1,gj,gk,c0,cx,ca,fa,gx,ga];refine aZ px ?_;refine⟨dE fa gx ga,?_⟩
   cases decide (x<y)with
   |false=>
    refine bu gk wk ?_;refine hX p _ _ _ _ aa ⟨rfl,⟨?_,?_,?_⟩,rfl,?_,aa,aa⟩ ao<;>exact nW g0 g1 gj
   |true=>
    refine ag ?_;refine hQ _ _ ⟨⟨?_,?_,?_⟩,rfl,k,?_,iB,ik⟩<;>exact iP g0 g1 gj gk
  ·have c0:¬(i2:Int)<=k:=aa;refine bN gj gk c0 ?_;refine hQ _ _ ⟨⟨?_,?_,?_⟩,rfl,k,?_,iB,ik⟩<;>exact iP g0 g1 gj gk
 rintro I J ⟨⟨h0,h1,bB⟩,rfl,j2,bR,OQ,OR⟩;by_cases qU:j2<i2
 ·have k0:(j2:Int)<i2:=aa;refine bN bB bR k0 ?_;obtain⟨L,x,y,fa,cx,cy,gx,gy,l1,l2,M2⟩:=M.two (i:=j2) (j:=a) aa aa;refine bJ 16 ?_;simp only[go_sem,seval,h0,h1,bR,cx,cy,fa,gx,gy,sk,l1];refine⟨dE fa gx gy,?_⟩;refine ag ?_;refine⟨l2,?_⟩;refine⟨dE fa gx gy,?_⟩;refine aJ bR ?_
  try rw[Hp.set_set]
  exact an ji ao ⟨⟨j2,_,aa,aa,by simp[up];rfl⟩,M2⟩
 have k0:¬(j2:Int)<i2:=aa;have wi:=fT i2;have wj:IntKind.i64.wrap ((j2:Int)-1)=((j2-1:Nat):Int):=cJ;refine bN bB bR k0 ?_;obtain⟨L,x,y,fa,cx,cy,gx,gy,l1,l2,M2⟩:=M.two (i:=i2) (j:=j2) aa aa;refine bJ 16 ?_;simp only[go_sem,seval,h0,bB,bR,cx,cy,fa,gx,gy,sk,l1];refine⟨dE fa gx gy,?_⟩;refine ag ?_;refine⟨l2,?_⟩;refine⟨dE fa gx gy,?_⟩;refine fR bB bR wi wj ?_
 try rw[Hp.set_set]
 refine hY _ _ _ _ _ aa ⟨rfl,?_,?_,i2+1,j2-1,rfl,?_,?_,aa,aa,aa,aa,M2⟩ ao<;>exact xg h0 h1
def amk(M:Mx U blk d pad J)(dm:a+12<b)(hb:b<=d.length)(hn:d.length<=1000000)(G0:a<=pv)(th:pv<b):
 aw E 169 #[dS blk d.length cap,iV a,iV b,iV pv] J λe J=>(∃m:Nat,a<m/\m<=b/\e=.returned (iV m))/\Mx U blk d pad J:=by
 refine aV func169 ntmps169 results169 λQ aD an aB=>?_;obtain⟨a1,dk⟩:∃a1,a1=a+1:=⟨_,rfl⟩;obtain⟨b1,iY⟩:∃b1,b1=b-1:=⟨_,rfl⟩;have wa:IntKind.i64.wrap ((a:Int)+1)=(a1:Int):=cJ;have wb:IntKind.i64.wrap ((b:Int)-1)=(b1:Int):=cJ;have sk:∀x,dn (iV x)=true:=λ_=>rfl;refine ag ?_;obtain⟨L,x,y,fa,cx,cy,gx,gy,l1,l2,M2⟩:=M.two (i:=a) (j:=pv) aa aa;refine bJ 16 ?_;refine oK cx cy fa gx gy sk l1 ?_;refine⟨dE fa gx gy,?_⟩;refine ag ?_;refine⟨l2,?_⟩;refine⟨dE fa gx gy,?_⟩;refine bu wa wb ?_
 try rw[Hp.set_set]
 refine dh (λm I ds ae=>ds=[]/\I 0=dS blk d.length cap/\I 1=iV a/\∃(i j:Nat),m=j+1-i/\I 9=iV i/\I 10=iV j/\a<i/\i<=b/\i<=j+2/\j<b/\Mx U blk d pad ae) _ ⟨rfl,?_,?_,a1,b1,rfl,?_,?_,aa,aa,aa,aa,M2⟩ ?_
 iterate 4 simp only[go_sem,seval]
 clear M M2;rintro m I ds J Y ⟨rfl,h0,h1,i,j,rfl,h9,bB,Df,Dz,afA,hjb,M⟩ hY;refine ag ?_;refine BB (.exit 2) (λI ae=>(I 0=dS blk d.length cap/\I 1=iV a/\I 10=iV j)/\ae=J/\∃k:Nat,I 9=iV k/\i<=k/\(k<=j+1\/k=i)) ?_ λQ hQ=>?_
 rotate_left
 ·refine dh (λm I ds ae=>ds=[]/\(I 0=dS blk d.length cap/\I 1=iV a/\I 10=iV j)/\ae=J/\∃k:Nat,I 9=iV k/\m=j+1-k/\i<=k/\(k<=j+1\/k=i)) (j+1-i) ?_ ?_
  ·refine⟨rfl,⟨?_,?_,?_⟩,rfl,i,?_,rfl,aa,aa⟩<;>exact iP h0 h1 h9 bB
  rintro m I ds _ X ⟨rfl,⟨g0,g1,gj⟩,rfl,k,gk,rfl,iB,ik⟩ hX;refine ag ?_;refine bJ 15 ?_;by_cases hle:k<=j
  ·have c0:(k:Int)<=j:=aa;obtain⟨L,x,y,fa,cx,ca,gx,ga⟩:=M.rd.two (i:=a) (j:=k) aa aa;have wk:=fT k;simp only[go_sem,seval,g0,g1,gj,gk,c0,cx,ca,fa,gx,ga];refine aZ px ?_;refine⟨dE fa gx ga,?_⟩
   cases decide (x<y)with
   |false=>
    refine bu gk wk ?_;refine hX _ _ _ _ _ aa ⟨rfl,⟨?_,?_,?_⟩,rfl,k+1,?_,rfl,aa,aa⟩ ao<;>exact nW g0 g1 gj
   |true=>
    refine ag ?_;refine hQ _ _ ⟨⟨?_,?_,?_⟩,rfl,k,?_,iB,ik⟩<;>exact iP g0 g1 gj gk
  ·have c0:¬(k:Int)<=j:=aa;refine bN gj gk c0 ?_;refine hQ _ _ ⟨⟨?_,?_,?_⟩,rfl,k,?_,iB,ik⟩<;>exact iP g0 g1 gj gk
 rintro I J ⟨⟨h0,h1,bB⟩,rfl,i2,h9,OP,AI⟩;refine ag ?_;refine BB (.exit 4) (λI ae=>(I 0=dS blk d.length cap/\I 1=iV a/\I 9=iV i2)/\ae=J/\∃k:Nat,I 10=iV k/\k<=j/\(i2<=k+1\/k=j)) ?_ λQ hQ=>?_
 rotate_left
 ·refine dh (λk I ds ae=>ds=[]/\(I 0=dS blk d.length cap/\I 1=iV a/\I 9=iV i2)/\ae=J/\I 10=iV k/\k<=j/\(i2<=k+1\/k=j)) (j) ?_ ?_
  ·refine⟨rfl,⟨?_,?_,?_⟩,rfl,?_,aa,aa⟩<;>exact iP h0 h1 h9 bB
  rintro k I ds _ X ⟨rfl,⟨g0,g1,gj⟩,rfl,gk,iB,ik⟩ hX;refine ag ?_;refine bJ 14 ?_;by_cases hle:i2<=k
  ·have c0:(i2:Int)<=k:=aa;obtain⟨L,x,y,fa,cx,ca,gx,ga⟩:=M.rd.two (i:=a) (j:=k) aa aa;obtain⟨p,hp⟩:∃p,p=k-1:=⟨_,rfl⟩;have wk:IntKind.i64.wrap ((k:Int)-1)=(p:Int):=cJ;simp only[go_sem,seval,g0,g1,gj,gk,c0,cx,ca,fa,gx,ga];refine aZ px ?_;refine⟨dE fa gx ga,?_⟩
   cases decide (x<y)with
   |true=>
    refine bu gk wk ?_;refine hX p _ _ _ _ aa ⟨rfl,⟨?_,?_,?_⟩,rfl,?_,aa,aa⟩ ao<;>exact nW g0 g1 gj
   |false=>
    refine ag ?_;refine hQ _ _ ⟨⟨?_,?_,?_⟩,rfl,k,?_,iB,ik⟩<;>exact iP g0 g1 gj gk
  ·have c0:¬(i2:Int)<=k:=aa;refine bN gj gk c0 ?_;refine hQ _ _ ⟨⟨?_,?_,?_⟩,rfl,k,?_,iB,ik⟩<;>exact iP g0 g1 gj gk
 rintro I J ⟨⟨h0,h1,h9⟩,rfl,j2,bB,OQ,OR⟩;by_cases qU:j2<i2
 ·have k0:(j2:Int)<i2:=aa;refine bN h9 bB k0 ?_;exact an aI ao ⟨⟨i2,aa,aa,by simp[up]⟩,M⟩
 have k0:¬(j2:Int)<i2:=aa;have wi:=fT i2;have wj:IntKind.i64.wrap ((j2:Int)-1)=((j2-1:Nat):Int):=cJ;refine bN h9 bB k0 ?_;obtain⟨L,x,y,fa,cx,cy,gx,gy,l1,l2,M2⟩:=M.two (i:=i2) (j:=j2) aa aa;refine bJ 16 ?_;simp only[go_sem,seval,h0,h9,bB,cx,cy,fa,gx,gy,sk,l1];refine⟨dE fa gx gy,?_⟩;refine ag ?_;refine⟨l2,?_⟩;refine⟨dE fa gx gy,?_⟩;refine fR h9 bB wi wj ?_
 try rw[Hp.set_set]
 refine hY _ _ _ _ _ aa ⟨rfl,?_,?_,i2+1,j2-1,rfl,?_,?_,aa,aa,aa,aa,M2⟩ ao<;>exact xg h0 h1
section
open Go.Sort
def Fb:List UInt8:=(List.range 256).map λi=>(bitsLen i).toUInt8
def aqe:∀m<256,(pP Fb m).toNat<=8/\0<=pP Fb m/\(1<=m->2^(pP Fb m).toNat<=2*m):=jU
variable {n:Nat}{x:Int}
def Vr{L:List UInt8}(hL:L=Fb)(hn:n<256)(hT:pP L n=x):∃k:Nat,x=(k:Int)/\k<=8/\(1<=n->2^k<=2*n):=by subst hL;subst hT;have:=aqe n hn;exact⟨(pP Fb n).toNat,aa,this.1,this.2.2⟩
def ajr(hn:n<=65535):aw E 172 #[.int .u64 n] U λe' ae=>(∃k:Nat,k<=300/\(1<=n->2^k<=2*n)/\e'=.returned (.int .i64 k))/\ae=U:=by
 refine aV func172 ntmps172 results172 λQ aD an aB=>?_;have k1:¬(4294967296:Int)<=n:=aa;have k2:¬(65536:Int)<=n:=aa;by_cases h:n<256
 ·have k3:¬(256:Int)<=n:=aa;have w8:IntKind.wrap .u8 (n:Int)=n:=by rw[IntKind.wrap_u8];omega
  refine fR k1 k2 k3 w8 ?_;refine⟨⟨aa,?_⟩,?_⟩
  ·show(n:Int)<256;omega
  refine ag ?_;generalize hT:pP _ n=x;obtain⟨k,rfl,hk,hp⟩:=Vr jU h hT;clear hT;have w9:IntKind.i64.wrap (k:Int)=k:=wrap64 aa aa;have Fh:IntKind.i64.wrap (0+(k:Int))=(k:Int):=cJ;refine bu w9 Fh ?_;exact an aI ao ⟨⟨k,aa,hp,by simp[up]⟩,rfl⟩
 ·have k3:(256:Int)<=n:=aa;obtain⟨q,hq⟩:∃q,q=n/256:=⟨_,rfl⟩
  have hs:yu .u64 (n:Int) 8=(q:Int):=by show Int.fdiv (n:Int) (2^8)=_;rw[Int.fdiv_eq_ediv_of_nonneg _ ai];omega
  have w8:IntKind.wrap .u8 (q:Int)=q:=by rw[IntKind.wrap_u8];omega
  refine mr k1 k2 k3 hs w8 ?_;refine⟨⟨aa,?_⟩,?_⟩
  ·show(q:Int)<256;omega
  refine ag ?_;generalize hT:pP _ q=x;obtain⟨k,rfl,hk,hp⟩:=Vr jU aa hT;clear hT;have w9:IntKind.i64.wrap (k:Int)=k:=wrap64 aa aa;have w11:IntKind.i64.wrap 8=8:=wrap64 ai ai;have Fh:IntKind.i64.wrap (8+(k:Int))=((k+8:Nat):Int):=cJ;refine bN w9 w11 Fh ?_;refine an aI ao ⟨⟨k+8,aa,λ_=>?_,by simp[up]⟩,rfl⟩;have:=hp aa;rw[Nat.pow_add];omega
def Tb(hn:n<=65535):aw E 135 #[.int .u64 n] U λe' ae=>(∃k:Nat,k<=300/\(1<=n->2^k<=2*n)/\e'=.returned (.int .i64 k))/\ae=U:=by
 refine aV func135 ntmps135 results135 λQ aD an aB=>?_;refine ag ?_;refine dG adg (ajr hn) ?_ (λch ae ⟨⟨_,_,_,h⟩,_⟩=>by cases h);rintro v J ⟨⟨k,h1,h2,hv⟩,rfl⟩
 cases hv
 refine ag ?_;exact an aI ao ⟨⟨k,h1,h2,by simp[up]⟩,rfl⟩
def arp(z:Int):0<=IntKind.wrap .u64 z/\IntKind.wrap .u64 z<18446744073709551616:=by rw[IntKind.wrap_u64];omega
def arz(x y:Int):0<=Ix .u64 x y/\Ix .u64 x y<18446744073709551616:=arp _
def Xe{m:Nat}(hm:m<18446744073709551616):∃k:Nat,Cu .u64 x (m:Int)=k/\k<=m:=by
 refine⟨(BitVec.ofInt 64 x&&&BitVec.ofInt 64 (m:Int)).toNat,?_,?_⟩
 ·unfold Cu;have h:=(BitVec.ofInt 64 x&&&BitVec.ofInt 64 (m:Int)).isLt;show IntKind.wrap .u64 (((BitVec.ofInt 64 x&&&BitVec.ofInt 64 (m:Int)).toNat:Nat):Int)=_;rw[IntKind.wrap_u64];omega
 ·rw[BitVec.toNat_and]
  have e:(BitVec.ofInt 64 (m:Int)).toNat=m:=by rw[BitVec.ofInt_natCast,BitVec.toNat_ofNat];omega
  rw[e];exact Nat.and_le_right
def amC(h1:1<=n)(hn:n<=65535):aw E 210 #[iV n] U λe' ae=>(∃m:Nat,1<=m/\m<=2*n/\e'=.returned (.int .u64 m))/\ae=U:=by
 refine aV func210 ntmps210 results210 λQ aD an aB=>?_;have w1:IntKind.wrap .u64 (n:Int)=n:=by rw[IntKind.wrap_u64];omega
 refine aJ w1 ?_;refine dG QI (Tb hn) ?_ (λch ae ⟨⟨_,_,_,h⟩,_⟩=>by cases h);rintro v J ⟨⟨k,hk,hp,hv⟩,rfl⟩
 cases hv
 have hp:=hp h1;have k0:(0:Int)<=k:=aa
 have afJ:k<=17:=by
  by_cases h:k<=17
  ·exact h
  ·have:2^18<=2^k:=Nat.pow_le_pow_right ai aa;omega
 have hs:B7 .u64 1 (k:Int)=((2^k:Nat):Int):=by
  unfold B7;have e1:min (k:Int).toNat (IntKind.bits .u64)=k:=by show min k 64=k;omega
  rw[e1,Int.one_mul,IntKind.wrap_u64];have:((2:Int)^k)=((2^k:Nat):Int):=al;rw[this];clear this afJ;generalize 2^k=m at*;omega
 refine bu k0 hs ?_;exact an aI ao ⟨⟨2^k,Nat.one_le_two_pow,hp,by simp[up]⟩,rfl⟩
def ary{rb et:Nat}(hr:U.f rb=some (.cells #[.int .u64 x] et (0,0))):aw E 211 #[pV rb] U λe' ae=>∃y:Int,(0<=y/\y<18446744073709551616)/\e'=.returned (.int .u64 y)/\ae=U.set rb (.cells #[.int .u64 y] et (0,0)):=by
 refine aV func211 ntmps211 results211 λQ aD an aB=>?_;have f1:∀(H:Hp) o,(H.set rb o).f rb=some o:=λ_ o=>Hp.bD _ _;refine ag ?_;refine bJ 10 ?_;refine aJ hr ?_;refine⟨dJ hr,?_⟩
 try simp only[go_sem,seval]
 refine bJ 10 ?_
 try simp only[go_sem,seval,f1]
 refine⟨dJ f1,?_⟩
 try simp only[go_sem,seval]
 refine bJ 10 ?_
 try simp only[go_sem,seval,f1]
 refine⟨dJ f1,?_⟩
 try simp only[go_sem,seval,f1]
 refine an aI ao ⟨_,arz _ _,by simp[up];rfl,?_⟩
 first|rfl|(rw[Hp.set_set];rfl)|(rw[Hp.set_set,Hp.set_set];rfl)
end
def Y5(M:Mx U blk d pad J)(dm:a+12<b)(hb:b<=d.length)(hn:d.length<=65535):
 aw E 164 #[dS blk d.length cap,iV a,iV b] J λe J=>e=.returned (.tuple #[])/\Mx U blk d pad J:=by
 refine aV func164 ntmps164 results164 λQ aD an aB=>?_;have sk:∀x,dn (iV x)=true:=λ_=>rfl;obtain⟨l,hl⟩:∃l,l=b-a:=⟨_,rfl⟩;obtain⟨q,hq⟩:∃q,q=l/4:=⟨_,rfl⟩;have w1:IntKind.i64.wrap ((b:Int)-(a:Int))=(l:Int):=cJ;have k8:(8:Int)<=l:=aa;have wu:IntKind.wrap .u64 (l:Int)=l:=by rw[IntKind.wrap_u64];omega
 have w4:IntKind.i64.wrap ((l:Int).tdiv 4)=(q:Int):=by
  have:(l:Int).tdiv 4=(q:Int):=by rw[hq];rfl
  rw[this,wrap64 aa aa]
 obtain⟨q2,gT⟩:∃q2,q2=q*2:=⟨_,rfl⟩;have m2:IntKind.i64.wrap ((q:Int)*2)=(q2:Int):=cJ;obtain⟨j,hj⟩:∃j,j=a+q2:=⟨_,rfl⟩;have s2:IntKind.i64.wrap ((a:Int)+(q2:Int))=(j:Int):=cJ;have s3:IntKind.i64.wrap ((j:Int)-1)=((j-1:Nat):Int):=cJ;have s4:=fT j;obtain⟨ID,ahc⟩:∃ID,ID=J:=⟨_,rfl⟩;refine bN w1 k8 wu ?_;refineλrb wv=>?_;have Mp:blk≠rb:=λe=>by obtain⟨L,_,_,h,_⟩:=M.two (i:=0) (j:=0) aa aa;rw[e,wv]at h;cases h
 have f1:∀(H:Hp) o,(H.set rb o).f rb=some o:=λ_ o=>Hp.bD _ _;refine aJ f1 ?_;rw[Hp.set_set];refine dG adm (amC aa aa) ?_ (λch ae ⟨⟨_,_,_,h⟩,_⟩=>by cases h);rintro v _ ⟨⟨m,pf,ur,hv⟩,rfl⟩
 cases hv
 obtain⟨mm,rW⟩:∃mm,mm=m-1:=⟨_,rfl⟩;have wm:IntKind.wrap .u64 ((m:Int)-1)=(mm:Int):=by rw[IntKind.wrap_u64];omega
 refine fR w4 m2 s2 s3 ?_;refine dh (λk I ds ae=>ds=[]/\(I 0=dS blk d.length cap/\I 1=iV a/\I 6=iV l/\I 7=pV rb/\I 8=.int .u64 m)/\∃(i:Nat) (x:Int) (J:Hp),k=j+2-i/\I 9=iV i/\j-1<=i/\i<=j+2/\Mx U blk d pad J/\J.f rb=none/\ae=J.set rb (.cells #[.int .u64 x] 342 (0,0))) (j+2-(j-1)) ?_ ?_
 ·refine⟨rfl,⟨?_,?_,?_,?_,?_⟩,j-1,l,J,rfl,?_,aa,aa,M,wv,rfl⟩<;>exact au
 clear M wv ahc ID;rintro k I ds _ Y ⟨rfl,⟨h0,h1,h6,h7,h8⟩,i,x,J,rfl,h9,mG,KH,M,wv,rfl⟩ hY;refine fL λK1 pa=>?_;by_cases hle:i<=j+1
 ·have c0:(i:Int)<=((j+1:Nat):Int):=aa;refine jl h1 h6 h9 w4 m2 s2 s4 c0 ?_;refine pa _ _ _ (fL λK2 pX=>Al (fL λK3 rM=>?_));refine aJ h7 ?_;refine aL (ary (f1 _ _)) ?_;rintro v _ ⟨y,hy,hv,rfl⟩
  cases hv
  obtain⟨o,ho,Se⟩:=Xe (x:=y) (m:=mm) aa;have wo:IntKind.i64.wrap (o:Int)=o:=wrap64 aa aa;refine fR h8 wm ho wo ?_;refine rM _ _ _ (fL λK4 uh=>?_)
  have tail:∀(I:av) (z:Nat),I 0=dS blk d.length cap->I 1=iV a->I 6=iV l->I 7=pV rb->I 8=.int .u64 m->I 9=iV i->I 10=iV z->z<l->K4 I [] (J.set rb (.cells #[.int .u64 y] 342 (0,0))):=by
   clear h0 h1 h6 h7 h8 h9 I;intro I z h0 h1 h6 h7 h8 h9 bB hz;refine uh _ _ _ ?_;obtain⟨p,hp⟩:∃p,p=a+z:=⟨_,rfl⟩;have wz:IntKind.i64.wrap ((a:Int)+(z:Int))=(p:Int):=cJ;have w5:=fT i;obtain⟨L,x,y',fb,cx,cy,gx,gy,l1,l2,M2⟩:=M.two (i:=i) (j:=p) aa aa;have fa:(J.set rb (.cells #[.int .u64 y] 342 (0,0))).f blk=some (.cells L.toArray 3 (0,0)):=(Hp.ay Mp).trans fb;refine ag ?_;refine bJ 20 ?_;simp only[go_sem,seval,h0,h1,h9,bB,wz,cx,cy,fa,gx,gy,sk,l1];refine⟨dE fa gx gy,?_⟩;refine ag ?_;refine⟨l2,?_⟩;refine⟨dE fa gx gy,?_⟩;refine ag ?_;refine pX _ _ _ ?_;refine bu h9 w5 ?_
   try rw[Hp.set_set]
   rw[Hp.set_comm Mp.symm];refine hY (j+2-(i+1)) _ _ _ _ aa ⟨rfl,⟨?_,?_,?_,?_,?_⟩,i+1,y,_,rfl,?_,aa,aa,M2,by rw[Hp.ay Mp.symm];exact wv,rfl⟩ ao<;>exact qy h0 h1 h6 h7 h8
  by_cases xI:l<=o
  ·have c1:(l:Int)<=o:=aa;obtain⟨t,ht⟩:∃t,t=o-l:=⟨_,rfl⟩;have wt:IntKind.i64.wrap ((o:Int)-(l:Int))=(t:Int):=cJ;refine bN h6 c1 wt ?_;refine tail _ t ?_ ?_ ?_ ?_ ?_ ?_ ?_ aa<;>exact Ih h0 h1 h6 h7 h8 h9
  ·have c1:¬(l:Int)<=o:=aa;refine bu h6 c1 ?_;refine tail _ o ?_ ?_ ?_ ?_ ?_ ?_ ?_ aa<;>exact Ih h0 h1 h6 h7 h8 h9
 ·have c0:¬(i:Int)<=((j+1:Nat):Int):=aa;refine jl h1 h6 h9 w4 m2 s2 s4 c0 ?_;exact aD dz (λb o h=>(Hp.ay λe=>by rw[e,wv]at h;cases h).trans h) ⟨rfl,M⟩
def PS(blk n cap a b i k:Nat)(I:av):Prop:=I 0=dS blk n cap/\I 1=iV a/\I 2=iV b/\I 7=iV i/\I 8=iV k
variable {E:Env prog}{U J:Hp}{d:List Int}{pad:List Value}{blk cap a b:Nat}
theorem amj (M:Mx U blk d pad J)(dm:a+12<b)(hb:b<=d.length)(hn:d.length<=1000000):
 aw E 167 #[dS blk d.length cap,iV a,iV b] J λe J=>(∃r:Bool,e=.returned (.bool r))/\Mx U blk d pad J:=by
 refine aV func167 ntmps167 results167 λQ aD an aB=>?_;have sk:∀x,dn (iV x)=true:=λ_=>rfl;have wa:=fT a;have VL:IntKind.i64.wrap ((b:Int)-(a:Int))=((b-a:Nat):Int):=cJ;refine aJ wa ?_;refine dh (λs I ds ae=>ds=[]/\∃(i n8:Nat),PS blk d.length cap a b i n8 I/\n8+s=5/\a<i/\i<=b/\Mx U blk d pad ae) 5 ⟨rfl,a+1,0,⟨?_,?_,?_,?_,?_⟩,rfl,aa,aa,M⟩ ?_
 iterate 4 simp only[go_sem,seval]
 ·exact au
 clear M;rintro s I ds J Y ⟨rfl,i,n8,⟨h0,h1,h2,h7,h8⟩,h5,Df,Dz,M⟩ hY;refine fL λK0 C5=>?_
 cases s with
 |zero=>
  have c0:¬(n8:Int)<5:=aa;refine bu h8 c0 ?_;exact an aI ao ⟨⟨_,by simp[up];rfl⟩,M⟩
 |succ s=>
  have c0:(n8:Int)<5:=aa;have wn:=fT n8;refine bu h8 c0 ?_;refine C5 _ _ _ (fL λK1 pa=>Al (fL λK2 pX=>?_))
  have Fc:∀(I:av) (i2:Nat),PS blk d.length cap a b i2 n8 I->a<i2->i2<=b->K2 I [] J:=by
   clear h0 h1 h2 h7 h8 I;rintro I i2 ⟨h0,h1,h2,h7,h8⟩ Df Dz
   have next:∀(I:av) (J:Hp),PS blk d.length cap a b i2 n8 I->Mx U blk d pad J->K1 I [] J:=by rintro I J ⟨h0,h1,h2,h7,h8⟩ M;refine pa _ _ _ ?_;refine bu h8 wn ?_;refine hY s _ _ _ _ aa ⟨rfl,i2,n8+1,⟨?_,?_,?_,?_,?_⟩,aa,aa,aa,M⟩ ao<;>exact iP h0 h1 h2 h7
   refine pX _ _ _ (fL λK3 rM=>?_);by_cases asW:i2=b
   ·have c1:(i2:Int)=b:=aa;refine bN h2 h7 c1 ?_;exact an aI ao ⟨⟨_,by simp[up];rfl⟩,M⟩
   have c1:¬(i2:Int)=b:=aa;refine bN h2 h7 c1 ?_;refine rM _ _ _ (fL λK4 uh=>?_);by_cases oj:b-a<50
   ·have c2:((b-a:Nat):Int)<50:=aa;refine fR h1 h2 VL c2 ?_;exact an aI ao ⟨⟨_,by simp[up];rfl⟩,M⟩
   have c2:¬((b-a:Nat):Int)<50:=aa;refine fR h1 h2 VL c2 ?_;refine uh _ _ _ (fL λK5 A4=>?_);obtain⟨i1,mG⟩:∃i1,i1=i2-1:=⟨_,rfl⟩;have wi:IntKind.i64.wrap ((i2:Int)-1)=(i1:Int):=cJ;have Fh:=fT i2;obtain⟨ia,hia⟩:∃ia,ia=i2-a:=⟨_,rfl⟩;have VO:IntKind.i64.wrap ((i2:Int)-(a:Int))=(ia:Int):=cJ;obtain⟨bi,asL⟩:∃bi,bi=b-i2:=⟨_,rfl⟩;have VM:IntKind.i64.wrap ((b:Int)-(i2:Int))=(bi:Int):=cJ;refine ag ?_;obtain⟨L,x,y,fa,cx,cy,gx,gy,l1,l2,M2⟩:=M.two (i:=i2) (j:=i1) aa aa;refine bJ 18 ?_;simp only[go_sem,seval,h0,h7,wi,cx,cy,fa,gx,gy,sk,l1];refine⟨dE fa gx gy,?_⟩;refine ag ?_;refine⟨l2,?_⟩;refine⟨dE fa gx gy,?_⟩;refine ag ?_
   try rw[Hp.set_set]
   refine A4 _ _ _ (fL λK6 Gk=>?_);clear M;generalize J.set blk _=J at*
   have Nf:∀(I:av) (J:Hp),PS blk d.length cap a b i2 n8 I->Mx U blk d pad J->K6 I [] J:=by
    clear h0 h1 h2 h7 h8 M2 I J;rintro I J ⟨h0,h1,h2,h7,h8⟩ M;refine Gk _ _ _ ?_;by_cases rO:2<=bi
    ·have c3:(2:Int)<=bi:=aa;refine fR h2 h7 VM c3 ?_;refine dh (λm I ds ae=>ds=[]/\PS blk d.length cap a b i2 n8 I/\∃k:Nat,m=b-k/\I 10=iV k/\1<=k/\k<=b/\Mx U blk d pad ae) (b-(i2+1)) ⟨rfl,⟨?_,?_,?_,?_,?_⟩,i2+1,rfl,?_,aa,aa,M⟩ ?_
     iterate 6 simp only[go_sem,seval,h0,h1,h2,h7,h8,Fh]
     clear M h0 h1 h2 h7 h8 I J;rintro m I ds J X ⟨rfl,⟨h0,h1,h2,h7,h8⟩,k,rfl,gk,iB,te,M⟩ hX;by_cases DF:k<b
     ·have c0:(k:Int)<b:=aa;obtain⟨p,hp⟩:∃p,p=k-1:=⟨_,rfl⟩;have wk:IntKind.i64.wrap ((k:Int)-1)=(p:Int):=cJ;have Nx:=fT k;refine bN h2 gk c0 ?_;obtain⟨L,x,y,fa,cx,cy,gx,gy⟩:=M.rd.two (i:=k) (j:=p) aa aa;refine bJ 11 ?_;refine jl h0 gk wk cx cy fa gx gy ?_;refine aZ px ?_;refine⟨dE fa gx gy,?_⟩
      cases decide (x<y)with
      |false=>
       refine ag ?_;refine next _ _ ⟨?_,?_,?_,?_,?_⟩ M<;>exact qy h0 h1 h2 h7 h8
      |true=>
       refine ag ?_;clear fa cx cy gx gy;obtain⟨L,x,y,fa,cx,cy,gx,gy,l1,l2,M2⟩:=M.two (i:=k) (j:=p) aa aa;refine bJ 18 ?_;simp only[go_sem,seval,h0,gk,wk,cx,cy,fa,gx,gy,sk,l1];refine⟨dE fa gx gy,?_⟩;refine ag ?_;refine⟨l2,?_⟩;refine⟨dE fa gx gy,?_⟩;refine bu gk Nx ?_
       try rw[Hp.set_set]
       refine hX _ _ _ _ _ aa ⟨rfl,⟨?_,?_,?_,?_,?_⟩,k+1,rfl,?_,aa,aa,M2⟩ ao<;>exact qy h0 h1 h2 h7 h8
     ·have c0:¬(k:Int)<b:=aa;refine bN h2 gk c0 ?_;refine next _ _ ⟨?_,?_,?_,?_,?_⟩ M<;>exact qy h0 h1 h2 h7 h8
    ·have c3:¬(2:Int)<=bi:=aa;refine fR h2 h7 VM c3 ?_;refine next _ _ ⟨?_,?_,?_,?_,?_⟩ M<;>exact qy h0 h1 h2 h7 h8
   have M:=M2;by_cases hi3:2<=ia
   ·have c4:(2:Int)<=ia:=aa;refine fR h1 h7 VO c4 ?_;refine dh (λk I ds ae=>ds=[]/\PS blk d.length cap a b i2 n8 I/\I 9=iV k/\k<b/\Mx U blk d pad ae) i1 ⟨rfl,⟨?_,?_,?_,?_,?_⟩,?_,aa,M⟩ ?_
    iterate 6 simp only[go_sem,seval,h0,h1,h2,h7,h8,wi]
    clear M M2 h0 h1 h2 h7 h8 I J;rintro k I ds J X ⟨rfl,⟨h0,h1,h2,h7,h8⟩,gk,te,M⟩ hX;by_cases DF:1<=k
    ·have c0:(1:Int)<=k:=aa;obtain⟨p,hp⟩:∃p,p=k-1:=⟨_,rfl⟩;have wk:IntKind.i64.wrap ((k:Int)-1)=(p:Int):=cJ;refine bu gk c0 ?_;obtain⟨L,x,y,fa,cx,cy,gx,gy⟩:=M.rd.two (i:=k) (j:=p) aa aa;refine bJ 11 ?_;refine jl h0 gk wk cx cy fa gx gy ?_;refine aZ px ?_;refine⟨dE fa gx gy,?_⟩
     cases decide (x<y)with
     |false=>
      refine ag ?_;refine Nf _ _ ⟨?_,?_,?_,?_,?_⟩ M<;>exact qy h0 h1 h2 h7 h8
     |true=>
      refine ag ?_;clear fa cx cy gx gy;obtain⟨L,x,y,fa,cx,cy,gx,gy,l1,l2,M2⟩:=M.two (i:=k) (j:=p) aa aa;refine bJ 18 ?_;simp only[go_sem,seval,h0,gk,wk,cx,cy,fa,gx,gy,sk,l1];refine⟨dE fa gx gy,?_⟩;refine ag ?_;refine⟨l2,?_⟩;refine⟨dE fa gx gy,?_⟩;refine bu gk wk ?_
      try rw[Hp.set_set]
      refine hX p _ _ _ _ aa ⟨rfl,⟨?_,?_,?_,?_,?_⟩,?_,aa,M2⟩ ao<;>exact qy h0 h1 h2 h7 h8
    ·have c0:¬(1:Int)<=k:=aa;refine bu gk c0 ?_;refine Nf _ _ ⟨?_,?_,?_,?_,?_⟩ M<;>exact qy h0 h1 h2 h7 h8
   ·have c4:¬(2:Int)<=ia:=aa;refine fR h1 h7 VO c4 ?_;refine Nf _ _ ⟨?_,?_,?_,?_,?_⟩ M<;>exact qy h0 h1 h2 h7 h8
  refine Al (dh (λm I ds ae=>ds=[]/\ae=J/\∃k:Nat,PS blk d.length cap a b k n8 I/\m=b-k/\a<k/\k<=b) (b-i) ⟨rfl,rfl,i,⟨?_,?_,?_,?_,?_⟩,rfl,Df,Dz⟩ ?_)
  iterate 5 simp only[go_sem,seval,h0,h1,h2,h7,h8]
  clear h0 h1 h2 h7 h8 I;rintro m I ds _ X ⟨rfl,rfl,k,⟨h0,h1,h2,h7,h8⟩,rfl,Ro,te⟩ hX;refine ag ?_;refine bJ 16 ?_;by_cases hle:k<b
  ·have c1:(k:Int)<b:=aa;obtain⟨k1,iB⟩:∃k1,k1=k-1:=⟨_,rfl⟩;have wk:IntKind.i64.wrap ((k:Int)-1)=(k1:Int):=cJ;have Nx:=fT k;obtain⟨L,x,y,fa,cx,cy,gx,gy⟩:=M.rd.two (i:=k) (j:=k1) aa aa;simp only[go_sem,seval,h0,h2,h7,c1,wk,cx,cy,fa,gx,gy];refine aZ px ?_;refine⟨dE fa gx gy,?_⟩
   cases decide (x<y)with
   |false=>
    refine bu h7 Nx ?_;refine hX (b-(k+1)) _ _ _ _ aa ⟨rfl,rfl,k+1,⟨?_,?_,?_,?_,?_⟩,rfl,aa,aa⟩ ao<;>exact iP h0 h1 h2 h8
   |true=>
    refine ag ?_;refine Fc _ k ⟨?_,?_,?_,?_,?_⟩ Ro te<;>exact qy h0 h1 h2 h7 h8
  ·have c1:¬(k:Int)<b:=aa;refine bN h2 h7 c1 ?_;refine Fc _ k ⟨?_,?_,?_,?_,?_⟩ Ro te<;>exact qy h0 h1 h2 h7 h8
def PR(blk n cap a b l:Nat)(wb wp:Bool)(k:Nat)(I:av):Prop:=I 0=dS blk n cap/\I 1=iV a/\I 2=iV b/\I 3=iV l/\I 8=.bool wb/\I 9=.bool wp/\I 10=iV k
variable {E:Env prog}{U J:Hp}{d:List Int}{pad:List Value}{blk cap a b:Nat}
theorem amp:∀(m:Nat) {J:Hp} {a b lim:Nat},b-a<=m->a<=b->b<=d.length->d.length<=65535->lim<=1000000->Mx U blk d pad J->
 aw E 134 #[dS blk d.length cap,iV a,iV b,iV lim] J λe J=>e=.returned (.tuple #[])/\Mx U blk d pad J:=by
 intro m
 induction m using Nat.strongRecOn with
 |_ m ih=>
 intro J a b lim hm dm hb hn gn M;refine aV func134 ntmps134 results134 λQ aD an aB=>?_;refine ag ?_;refine dh (λk I ds ae=>ds=[]/\∃(a' b' uU:Nat) (wb wp:Bool),k=b'-a'/\(I 0=dS blk d.length cap/\I 1=iV a'/\I 2=iV b'/\I 3=iV uU/\I 8=.bool wb/\I 9=.bool wp)/\a<=a'/\a'<=b'/\b'<=b/\uU<=1000000/\Mx U blk d pad ae) (b-a) ?_ ?_
 ·refine⟨rfl,a,b,lim,true,true,rfl,⟨?_,?_,?_,?_,?_,?_⟩,Nat.le_refl _,dm,Nat.le_refl _,gn,M⟩<;>exact au
 clear M;rintro k I ds J Y ⟨rfl,a',b',uU,wb,wp,rfl,⟨h0,h1,h2,h3,h8,h9⟩,haa,A7,fC,DK,M⟩ hY;obtain⟨n,KT⟩:∃n,n=b'-a':=⟨_,rfl⟩;have w1:IntKind.i64.wrap ((b':Int)-(a':Int))=(n:Int):=cJ;refine Al (fL λK1 pa=>?_);refine bN h1 h2 w1 ?_;refine pa _ _ _ (fL λK2 pX=>?_);clear pa;by_cases oZ:n<=12
 ·have c1:(n:Int)<=12:=aa;refine fR h0 h1 h2 c1 ?_;refine aL (ahw M A7 aa aa) ?_;rintro v J ⟨hv,M⟩
  cases hv
  refine ag ?_;exact an dz ao ⟨rfl,M⟩
 have c1:¬(n:Int)<=12:=aa;refine aJ c1 ?_;refine pX _ _ _ (fL λK3 rM=>?_);clear pX;by_cases lH:uU=0
 ·have c2:(uU:Int)=0:=aa;refine mr h0 h1 h2 h3 c2 ?_;refine aL (afg M aa aa aa) ?_;rintro v J ⟨hv,M⟩
  cases hv
  refine ag ?_;exact an dz ao ⟨rfl,M⟩
 have c2:¬(uU:Int)=0:=aa;refine bu h3 c2 ?_;refine rM _ _ _ (fL λK4 uh=>?_);clear rM
 have tail:∀(I:av) (l1:Nat) (J:Hp),PR blk d.length cap a' b' l1 wb wp n I->l1<=1000000->Mx U blk d pad J->K4 I [] J:=by
  clear h0 h1 h2 h3 h8 h9 M I J;rintro I l1 J ⟨h0,h1,h2,h3,h8,h9,bB⟩ gm M;refine uh _ _ _ (fL λK5 A4=>?_);clear uh;refine bN h0 h1 h2 ?_;refine dG ada (aaB (cap:=cap) M.rd aa aa aa) ?_ (λch ae ⟨⟨_,_,_,h⟩,_⟩=>by cases h);rintro v _ ⟨⟨pv,hv,⟨p1,p2⟩,hr⟩,rfl⟩;obtain rfl:v=.tuple #[iV pv,iV hv]:=by injection hr
  simp only[go_sem,seval];refine A4 _ _ _ (fL λK6 Gk=>?_);clear A4
  have Fc:∀(I:av) (pv:Nat) (hv:Int) (J:Hp),PR blk d.length cap a' b' l1 wb wp n I->I 11=iV pv->I 12=iV hv->a'<=pv->pv<b'->Mx U blk d pad J->K6 I [] J:=by
   clear h0 h1 h2 h3 h8 h9 bB M p1 p2 hr I J pv hv;rintro I pv hv J ⟨h0,h1,h2,h3,h8,h9,bB⟩ bR JS p1 p2 M;refine Gk _ _ _ (fL λK7 Q5=>?_);clear Gk
   have Ie:∀(I:av) (J:Hp),PR blk d.length cap a' b' l1 wb wp n I->I 11=iV pv->Mx U blk d pad J->K7 I [] J:=by
    clear h0 h1 h2 h3 h8 h9 bB bR JS M I J;rintro I J ⟨h0,h1,h2,h3,h8,h9,bB⟩ bR M;refine Q5 _ _ _ (fL λK8 hK8=>?_);clear Q5
    have Vt:∀I:av,PR blk d.length cap a' b' l1 wb wp n I->I 11=iV pv->K8 I [] J:=by
     clear h0 h1 h2 h3 h8 h9 bB bR I;rintro I ⟨h0,h1,h2,h3,h8,h9,bB⟩ bR;refine hK8 _ _ _ ?_;refine fR h0 h1 h2 bR ?_;refine dG adf (aml (cap:=cap) M aa aa aa p1 p2) ?_ (λch ae ⟨⟨_,_,_,_,h⟩,_⟩=>by cases h);rintro v J ⟨⟨su,ap,m1,m2,hr⟩,M⟩
     cases hr
     obtain⟨ll,as6⟩:∃ll,ll=su-a':=⟨_,rfl⟩;obtain⟨rl,Br⟩:∃rl,rl=b'-su:=⟨_,rfl⟩;obtain⟨q8,DX⟩:∃q8,q8=n/8:=⟨_,rfl⟩;have wl:IntKind.i64.wrap ((su:Int)-(a':Int))=(ll:Int):=cJ;have wr:IntKind.i64.wrap ((b':Int)-(su:Int))=(rl:Int):=cJ
     have w8:IntKind.i64.wrap ((n:Int).tdiv 8)=(q8:Int):=by
      have:(n:Int).tdiv 8=(q8:Int):=by rw[DX];rfl
      rw[this,wrap64 aa aa]
     have wm:=fT su;by_cases hlr:ll<rl
     ·have k1:(ll:Int)<rl:=aa;simp only[go_sem,seval,h0,h1,h2,h3,bB,wl,wr,w8,k1];refine aL (ih (m-1) aa aa aa aa aa gm M) ?_;rintro v J ⟨hv,M⟩
      cases hv
      refine aJ wm ?_;refine hY _ _ _ _ _ aa ⟨rfl,su+1,b',l1,decide ((q8:Int)<=ll),ap,rfl,⟨?_,?_,?_,?_,?_,?_⟩,aa,aa,fC,gm,M⟩ ao<;>exact nW h0 h2 h3
     ·have k1:¬(ll:Int)<rl:=aa;simp only[go_sem,seval,h0,h1,h2,h3,bB,wl,wr,w8,k1,wm];refine aL (ih (m-1) aa aa aa aa aa gm M) ?_;rintro v J ⟨hv,M⟩
      cases hv
      refine ag ?_;refine hY _ _ _ _ _ aa ⟨rfl,a',su,l1,decide ((q8:Int)<=rl),ap,rfl,⟨?_,?_,?_,?_,?_,?_⟩,aa,aa,aa,gm,M⟩ ao<;>exact nW h0 h1 h3
    refine ag ?_;refine bJ 15 ?_;by_cases ui:a'=0
    ·have k0':¬(0:Int)<a':=aa;refine bu h1 k0' ?_;refine Vt _ ⟨?_,?_,?_,?_,?_,?_,?_⟩ ?_<;>exact sD h0 h1 h2 h3 h8 h9 bB bR
    ·have k0:(0:Int)<a':=aa;obtain⟨a1,dk⟩:∃a1,a1=a'-1:=⟨_,rfl⟩;have wa:IntKind.i64.wrap ((a':Int)-1)=(a1:Int):=cJ;obtain⟨L,x,y,fa,cx,cy,gx,gy⟩:=M.rd.two (i:=a1) (j:=pv) aa aa;simp only[go_sem,seval,h0,h1,bR,k0,wa,cx,cy,fa,gx,gy];refine aZ px ?_;refine⟨dE fa gx gy,?_⟩
     cases decide (x<y)with
     |true=>
      refine ag ?_;refine Vt _ ⟨?_,?_,?_,?_,?_,?_,?_⟩ ?_<;>exact sD h0 h1 h2 h3 h8 h9 bB bR
     |false=>
      refine fR h0 h1 h2 bR ?_;refine dG ade (amk (cap:=cap) M aa aa aa p1 p2) ?_ (λch ae ⟨⟨_,_,_,h⟩,_⟩=>by cases h);rintro v J ⟨⟨su,m1,m2,hr⟩,M⟩
      cases hr
      refine ag ?_;refine hY _ _ _ _ _ aa ⟨rfl,su,b',l1,wb,wp,rfl,⟨?_,?_,?_,?_,?_,?_⟩,aa,aa,fC,gm,M⟩ ao<;>exact qy h0 h2 h3 h8 h9
   cases wb with
   |false=>
    refine aJ h8 ?_;refine Ie _ _ ⟨?_,?_,?_,?_,?_,?_,?_⟩ ?_ M<;>exact sD h0 h1 h2 h3 h8 h9 bB bR
   |true=>
    cases wp with
    |false=>
     refine bu h8 h9 ?_;refine Ie _ _ ⟨?_,?_,?_,?_,?_,?_,?_⟩ ?_ M<;>exact sD h0 h1 h2 h3 h8 h9 bB bR
    |true=>
     by_cases nF:hv=1
     ·refine oK h0 h1 h2 h8 h9 JS nF ?_;refine dG adb (amj (cap:=cap) M aa aa aa) ?_ (λch ae ⟨⟨_,h⟩,_⟩=>by cases h);rintro v J ⟨⟨r,hr⟩,M⟩
      cases hr
      cases r with
      |true=>
       refine ag ?_;exact an dz ao ⟨rfl,M⟩
      |false=>
       refine ag ?_;refine Ie _ _ ⟨?_,?_,?_,?_,?_,?_,?_⟩ ?_ M<;>exact sD h0 h1 h2 h3 h8 h9 bB bR
     ·refine fR h8 h9 JS nF ?_;refine Ie _ _ ⟨?_,?_,?_,?_,?_,?_,?_⟩ ?_ M<;>exact sD h0 h1 h2 h3 h8 h9 bB bR
  by_cases lB:hv=2
  ·obtain⟨x1,wC⟩:∃x1,x1=b'-1:=⟨_,rfl⟩;obtain⟨x2,tk⟩:∃x2,x2=pv-a':=⟨_,rfl⟩;have wx1:IntKind.i64.wrap ((b':Int)-1)=(x1:Int):=cJ;have wx2:IntKind.i64.wrap ((pv:Int)-(a':Int))=(x2:Int):=cJ;have wx3:IntKind.i64.wrap ((x1:Int)-(x2:Int))=((x1-x2:Nat):Int):=cJ;refine fR h0 h1 h2 lB ?_;refine aL (aoe M aa aa aa A7) ?_;rintro v J ⟨hv,M⟩
   cases hv
   refine mr h1 h2 wx1 wx2 wx3 ?_;refine Fc _ (x1-x2) 1 _ ⟨?_,?_,?_,?_,?_,?_,?_⟩ ?_ ?_ aa aa M<;>exact vp h0 h1 h2 h3 h8 h9 bB
  ·refine aJ lB ?_;refine Fc _ pv hv _ ⟨?_,?_,?_,?_,?_,?_,?_⟩ ?_ ?_ p1 p2 M<;>exact vp h0 h1 h2 h3 h8 h9 bB
 cases wb with
 |true=>
  refine aJ h8 ?_;refine tail _ uU _ ⟨?_,?_,?_,?_,?_,?_,?_⟩ DK M<;>exact Ih h0 h1 h2 h3 h8 h9
 |false=>
  have wl:IntKind.i64.wrap ((uU:Int)-1)=((uU-1:Nat):Int):=cJ;refine fR h0 h1 h2 h8 ?_;refine aL (Y5 M aa aa aa) ?_;rintro v J ⟨hv,M⟩
  cases hv
  refine bu h3 wl ?_;refine tail _ (uU-1) _ ⟨?_,?_,?_,?_,?_,?_,?_⟩ aa M<;>exact qy h0 h1 h2 h8 h9
variable {xs:List Int}{v:Value}
def amo{k:Nat}(hk:k<=300)(h:Sl 3 U (xs.map aW) v)(hn:xs.length<=1000):
 aw E 134 #[v,.int .i64 0,.int .i64 xs.length,.int .i64 k] U λe J=>e=.returned (.tuple #[])/\∃ys,ys.Perm xs/\(xs.length<=12->dR kg ys)/\Sl 3 J (ys.map aW) v/\sJ U J v:=by
 by_cases oZ:xs.length<=12
 ·exact(amn h oZ).mono λe J ⟨h1,ys,h2,h3,h4⟩=>⟨h1,ys,h2,λ_=>h3,h4⟩
 rcases h.form with⟨h0,_⟩|⟨a,pad,h1,h2⟩
 ·exact absurd (by simp at h0;simp[h0]) oZ
 ·have hp:=amp (E:=E) (U:=U) (d:=xs) (pad:=pad) (blk:=a) (cap:=(xs.map aW).length+pad.length) xs.length (J:=U) (a:=0) (b:=xs.length) (lim:=k) aa aa aa aa aa ⟨xs,.refl _,(Hp.HZ h2).symm⟩;have ev:v=dS a xs.length ((xs.map aW).length+pad.length):=by rw[h1];simp only[List.length_map]
  rw[ev];refine aw.mono hp ?_;rintro e J ⟨rfl,ys,p,rfl⟩;have hl:=p.length_eq;refine⟨rfl,ys,p,λh=>absurd h oZ,?_,λb hb=>Hp.ay (hb _ _ _ rfl)⟩;have:=Sl.at (ety:=3) (U:=U.set a (.cells (ys.map aW++pad).toArray 3 (0,0))) (xs:=ys.map aW) a pad aX;rw[List.length_map,hl]at this;rw[List.length_map];exact this
def api(h:Sl 3 U (xs.map aW) v)(hn:xs.length<=1000):
 aw E 81 #[v] U λe J=>e=.returned (.tuple #[])/\∃ys,ys.Perm xs/\(xs.length<=12->dR kg ys)/\Sl 3 J (ys.map aW) v/\sJ U J v:=by
 refine aV func81 ntmps81 results81 λQ aD an aB=>?_
 obtain⟨base,cap,rfl⟩:∃base cap,v=.slice base xs.length cap:=by
  generalize hk:xs.map aW=ks at h;have hl:ks.length=xs.length:=by rw[<-hk];simp
  cases h with
  |nil h0=>exact⟨none,0,by rw[<-hl,h0];rfl⟩
  |«at»a pad ha=>exact⟨_,_,by rw[hl]⟩
 have cu:IntKind.u64.wrap (xs.length:Int)=xs.length:=by have:((xs.length:Int) % 18446744073709551616)=xs.length:=aa;simpa[IntKind.wrap,IntKind.bits,IntKind.signed]using this
 refine aJ cu ?_;refine dG QI (Tb aa) ?_ (λch ae ⟨⟨_,_,_,h⟩,_⟩=>by cases h);rintro w ae ⟨⟨k,hk,_,hw⟩,rfl⟩
 cases hw
 refine ag ?_;refine aL (amo hk h hn) ?_;rintro w J ⟨hw,eE⟩
 cases hw
 refine ag ?_;exact aD dz ao ⟨rfl,eE⟩
variable {f:FuncId}{tc:TypeId}{bm m c:Nat}{l:List (Int×Value×Nat)}
def apn(hY:Yields f (λe:Int×Value×Nat=>aW e.1) aW tc)(hg:cz prog f=true)(dI:U.f bm=some (.cells #[.map (some m)] tc (0,0)))(hm:U.f m=some (aU aW l c))(hold:∀e∈l,e.2.2<c)(hn:(l.map (·.2.2)).Nodup)(gL:l.length<=1000):
 aw E 47 #[.func (.func f) #[] #[pV bm]] U λe J=>U.le J/\∃v ys,e=.returned v/\ys.Perm (l.map (·.1))/\(l.length<=12->dR kg ys)/\Sl 3 J (ys.map aW) v/\∀a n c,v=.slice (some a) n c->U.f a.block=none:=by
 refine aV func47 ntmps47 results47 λQ aD an aB=>?_;refine ag ?_;refine aL (aaS hY hg dI hm hold hn aa (λ_ _=>rfl)) ?_;rintro v J ⟨hle,v',ks,hv,h1,h2,h3⟩
 cases hv
 obtain⟨xs,k1,rfl⟩:=zR h1 (xs:=l.map (·.1)) (f:=aW) al;refine ag ?_;have hlen:xs.length<=1000:=by rw[k1.length_eq];simpa using gL
 refine aL (api h2 hlen) ?_;rintro w bW ⟨hw,ys,p1,p2,p3,p4⟩
 cases hw
 refine ag ?_;refine an aI ao ⟨?_,v,ys,rfl,p1.trans k1,λh=>p2 (by rw[k1.length_eq];simpa using h),p3,h3⟩;intro b o hb;rw[p4 b (λa n c e e2=>by have:=h3 a n c e;rw[<-e2,hb]at this;cases this)];exact hle b o hb
def M3(hY:Yields f (λe:Int×Value×Nat=>aW e.1) aW tc)(hg:cz prog f=true)(dI:U.f bm=none)(hm:U.f m=some (aU aW l c))(hold:∀e∈l,e.2.2<c)(hn:(l.map (·.2.2)).Nodup)(gL:l.length<=1000):
 aw E 47 #[.func (.func f) #[] #[pV bm]] (U.set bm (.cells #[.map (some m)] tc (0,0))) λe J=>U.le J/\∃v ys,e=.returned v/\ys.Perm (l.map (·.1))/\(l.length<=12->dR kg ys)/\Sl 3 J (ys.map aW) v/\∀a n c,v=.slice (some a) n c->U.f a.block=none:=by
 have aE:m≠bm:=bl hm dI;refine(apn hY hg aX (by rw[Hp.aM _ aE];exact hm) hold hn gL).mono ?_;rintro e J ⟨hle,v,ys,hv,h1,h2,h3,h4⟩;refine⟨?_,v,ys,hv,h1,h2,h3,?_⟩
 ·intro b o hb;have:b≠bm:=bl hb dI;exact hle b o (by rw[Hp.aM _ this];exact hb)
 ·intro a n c e;have:=h4 a n c e;by_cases e2:a.block=bm
  ·rw[e2];exact dI
  ·rw[Hp.aM _ e2]at this;exact this
def aiS:aw E 48 #[.map (some m)] U λe J=>∃bm,e=.returned (.func (.func 82) #[] #[pV bm])/\U.f bm=none/\J=U.set bm (.cells #[.map (some m)] 72 (0,0)):=by refine aV func48 ntmps48 results48 λQ aD an aB=>?_;refine ag ?_;refineλbm dI=>?_;refine ag ?_;exact an aI ao ⟨bm,rfl,dI,rfl⟩
def M1(hm:U.f m=some (aU aW l c))(hold:∀e∈l,e.2.2<c)(hn:(l.map (·.2.2)).Nodup)(gL:l.length<=1000):
 aw E 33 #[.map (some m)] U λe J=>U.le J/\∃v ys,e=.returned v/\ys.Perm (l.map (·.1))/\(l.length<=12->dR kg ys)/\Sl 3 J (ys.map aW) v/\∀a n c,v=.slice (some a) n c->U.f a.block=none:=by
 refine aV func33 ntmps33 results33 λQ aD an aB=>?_;refine ag ?_;refine aL aiS ?_;rintro w J ⟨bm,hw,dI,rfl⟩
 cases hw
 refine ag ?_;refine aL (M3 arG adM dI hm hold hn gL) ?_;rintro v J ⟨hle,v',ys,hv,hr⟩
 cases hv
 refine ag ?_;exact an aI ao ⟨hle,v,ys,rfl,hr⟩
def aiP:aw E 138 #[.map (some m)] U λe J=>∃bm,e=.returned (.func (.func 181) #[] #[pV bm])/\U.f bm=none/\J=U.set bm (.cells #[.map (some m)] 88 (0,0)):=by refine aV func138 ntmps138 results138 λQ aD an aB=>?_;refine ag ?_;refineλbm dI=>?_;refine ag ?_;exact an aI ao ⟨bm,rfl,dI,rfl⟩
def apo(hm:U.f m=some (aU aW l c))(hold:∀e∈l,e.2.2<c)(hn:(l.map (·.2.2)).Nodup)(gL:l.length<=1000):
 aw E 87 #[.map (some m)] U λe J=>U.le J/\∃v ys,e=.returned v/\ys.Perm (l.map (·.1))/\(l.length<=12->dR kg ys)/\Sl 3 J (ys.map aW) v/\∀a n c,v=.slice (some a) n c->U.f a.block=none:=by
 refine aV func87 ntmps87 results87 λQ aD an aB=>?_;refine ag ?_;refine aL aiP ?_;rintro w J ⟨bm,hw,dI,rfl⟩
 cases hw
 refine ag ?_;refine aL (M3 arD adh dI hm hold hn gL) ?_;rintro v J ⟨hle,v',ys,hv,hr⟩
 cases hv
 refine ag ?_;exact an aI ao ⟨hle,v,ys,rfl,hr⟩
def aiR:aw E 186 #[.map (some m)] U λe J=>∃bm,e=.returned (.func (.func 222) #[] #[pV bm])/\U.f bm=none/\J=U.set bm (.cells #[.map (some m)] 273 (0,0)):=by refine aV func186 ntmps186 results186 λQ aD an aB=>?_;refine ag ?_;refineλbm dI=>?_;refine ag ?_;exact an aI ao ⟨bm,rfl,dI,rfl⟩
def Vf(hm:U.f m=some (aU aW l c))(hold:∀e∈l,e.2.2<c)(hn:(l.map (·.2.2)).Nodup)(gL:l.length<=1000):
 aw E 141 #[.map (some m)] U λe J=>U.le J/\∃v ys,e=.returned v/\ys.Perm (l.map (·.1))/\(l.length<=12->dR kg ys)/\Sl 3 J (ys.map aW) v/\∀a n c,v=.slice (some a) n c->U.f a.block=none:=by
 refine aV func141 ntmps141 results141 λQ aD an aB=>?_;refine ag ?_;refine aL aiR ?_;rintro w J ⟨bm,hw,dI,rfl⟩
 cases hw
 refine ag ?_;refine aL (M3 arF adp dI hm hold hn gL) ?_;rintro v J ⟨hle,v',ys,hv,hr⟩
 cases hv
 refine ag ?_;exact an aI ao ⟨hle,v,ys,rfl,hr⟩
def Ah{α:Type}{lt:α->α->Bool}(L:yI lt)(Xf:∀{a b},lt a b=false->lt b a=false->a=b):∀{l m:List α},l.Perm m->dR lt l->dR lt m->l=m:=by
 intro l
 induction l with
 |nil=>intro m p _ _;exact(List.nil_perm.1 p).symm
 |cons a l ih=>
  intro m p h1 h2
  cases m with
  |nil=>exact absurd p.symm al
  |cons b m=>
   have dm:a=b:=by
    by_cases e:a=b
    ·exact e
    ·have ha:a∈m:=by
      have:=p.mem_iff.1 (List.mem_cons_self (a:=a) (l:=l));rcases List.mem_cons.1 this with h|h
      ·exact absurd h e
      ·exact h
     have hb:b∈l:=by
      have:=p.mem_iff.2 (List.mem_cons_self (a:=b) (l:=m));rcases List.mem_cons.1 this with h|h
      ·exact absurd h.symm e
      ·exact h
     exact Xf ((List.pairwise_cons.1 h2).1 a ha) ((List.pairwise_cons.1 h1).1 b hb)
   subst dm;rw[ih ((List.perm_cons a).1 p) (List.pairwise_cons.1 h1).2 (List.pairwise_cons.1 h2).2]
def FM{a b:Int}(h:kg a b=false)(k:kg b a=false):a=b:=by simp[kg]at h k;omega
def I5{a b:List UInt8}(h:cP a b=false)(k:cP b a=false):a=b:=by
 induction a generalizing b with
 |nil=>cases b with
  |nil=>rfl
  |cons y b=>simp[cP,Op.bytesLess]at h
 |cons x a ih=>cases b with
  |nil=>simp[cP,Op.bytesLess]at k
  |cons y b=>
   simp only[cP,Op.bytesLess,Bool.or_eq_false_iff,decide_eq_false_iff_not,Bool.and_eq_false_iff,beq_eq_false_iff_ne,ne_eq]at h k
   have hxy:x=y:=by have h1:=h.1;have k1:=k.1;exact UInt8.le_antisymm (UInt8.not_lt.1 k1) (UInt8.not_lt.1 h1)
   subst hxy;rw[ih (by rcases h.2 with h|h;exact absurd rfl h;exact h) (by rcases k.2 with h|h;exact absurd rfl h;exact h)]
section
variable {E:Env prog}{U:Hp}{J:Hp}{d:List Int}{pad:List Value}{cap:Nat}{a:Nat}{b:Nat}{H:Hid}{n:N}{X:Ext}{no:Nat}{h:HN}
variable {A:Lay}{id:Int}
def aq.Ol (a:aq A H n X U)(l:U.le J){b:Nat}{o:Obj}(hb:U.f b=none)(ho:J.f b=some o):aq A H n ((b,o)::X) J:=
 (a.iS hb o).le (λx p hx=>by
  by_cases e:x=b
  ·subst e;rw[Hp.bD]at hx;cases hx;exact ho
  ·rw[Hp.ay e]at hx;exact l _ _ hx)
def aq.AB {ety:TypeId}{ys:List Value}{v:Value}(a:aq A H n X U)(l:U.le J)(hs:Sl ety J ys v)(hf:∀a n c,v=.slice (some a) n c->U.f a.block=none):
 ∃X',aq A H n X' J/\∀{A' H' n' ae},aq A' H' n' X' ae->aq A' H' n' X ae/\Sl ety ae ys v:=by
 rcases hs.form with⟨h1,h2⟩|⟨b,pad,h1,h2⟩
 ·exact⟨X,a.le l,λa'=>⟨a',by rw[h2];exact .nil h1⟩⟩
 ·refine⟨(b,.cells (ys++pad).toArray ety (0,0))::X,a.Ol l (hf _ _ _ h1) h2,λa'=>⟨a'.oW,by rw[h1];exact .at b pad a'.eK⟩⟩
def N.jV (n:N)(l:List (List UInt8×Int)):N:=l.foldl (λn e=>n.cancel e.2) n
def N.kZ (n:N)(id:Int)(no:Nat)(l:List (Nat×(List UInt8×aR))):N:=l.foldl (λn e=>n.settle id no e.1 true) n
def Fu (n:N)(k:Int):Prop:=∃x q,n.x? k=some x/\n.q? x.q=some q/\q.cons.length<=1000000/\∀j∈q.cons,(n.x? j).isSome
def IE (n:N)(id:Int)(no:Nat)(e:Nat×(List UInt8×aR)):Prop:=∃h q,n.h? id no=some h/\bq h.un e.1=some e.2/\n.q? e.2.1=some q/\(1<=q.held/\q.held<=1000000)/\q.ready.length<=1000000/\q.ready.Pairwise λa b=>a.seq<b.seq
structure yF (n:N) (id:Int) (no:Nat) (h:HN):Prop where
 co:dR cP (h.co.map (·.1))
 un:(h.un.map (·.1)).Nodup
 sep:tP h.un
 tA:h.co.length<=12
 Eu:h.un.length<=1000
 cancel:∀j (hj:j<h.co.length),Fu (n.jV (h.co.take j)) h.co[j].2
 back:∀l e,e∈h.un->(∀x∈l,¬x.1=e.1)->IE (((n.jV h.co).bC id no λh=>{h with co:=[]}).kZ id no l) id no e
@[simp] def PC {k:Int}:(n.cancel k).ar id=n.ar id:=by unfold N.cancel;split<;>rfl
@[simp] def Re {k:Int}:(n.cancel k).h? id no=n.h? id no:=by unfold N.cancel;split<;>rfl
@[simp] def Gs {l:List (List UInt8×Int)}:(n.jV l).h? id no=n.h? id no:=by
 unfold N.jV
 induction l generalizing n with
 |nil=>rfl
 |cons e l ih=>rw[List.foldl_cons,ih,Re]
@[simp] def PD {l:List (List UInt8×Int)}:(n.jV l).ar id=n.ar id:=by
 unfold N.jV
 induction l generalizing n with
 |nil=>rfl
 |cons e l ih=>rw[List.foldl_cons,ih,PC]
def Z8 {l:List (List UInt8×Int)}{j:Nat}(hj:j<l.length):n.jV (l.take (j+1))=(n.jV (l.take j)).cancel l[j].2:=by unfold N.jV;rw[List.take_succ_eq_append_getElem hj,List.foldl_append];rfl
def aoS {l:List (Nat×(List UInt8×aR))}{j:Nat}(hj:j<l.length):n.kZ id no (l.take (j+1))=(n.kZ id no (l.take j)).settle id no l[j].1 true:=by unfold N.kZ;rw[List.take_succ_eq_append_getElem hj,List.foldl_append];rfl
def aoR {l m:List (Nat×(List UInt8×aR))}(hp:l.Perm m)(D:∀h,n.h? id no=some h->tP h.un):n.kZ id no l=n.kZ id no m:=U6 (p:=λ_=>true) (b:=true) hp D
def ML (a:aq A H n X U){c:CN}(hc:n.ar id=some c)(hh:n.h? id no=some h)(R:yF n id no h):
 aw E 88 #[pV (A.chan id no)] U λe J=>e=.returned (.tuple #[])/\At A (n.release id no) X J:=by
 refine aV func88 ntmps88 results88 λQ aD an aB=>?_;obtain⟨lc,kc,cF,dV,lD⟩:=a.co hh;have Bn:lc.length=h.co.length:=by have:=lD.length_eq;simpa using this
 refine aJ (a.bX hh) ?_;refine aL (apk cF dV.old dV.nd (by rw[Bn];exact R.tA)) ?_;rintro v J ⟨hle,v',ys,hv,p1,p2,p3,p4⟩
 cases hv
 obtain rfl:ys=h.co.map (·.1):=by refine Ah wK I5 (p1.trans ?_) p2 R.co;have:=lD.map (·.1);simpa[List.map_map,Function.comp_def]using this
 obtain⟨X',a1,rn⟩:=a.AB hle p3 p4;obtain⟨base,cap,rfl,_⟩:=p3.read;have hl:(h.co.map (·.1)).length=h.co.length:=al;refine aJ hl ?_;refine dh (λm I ds ae=>ds=[]/\I 0=pV (A.chan id no)/\I 10=.slice base h.co.length cap/\I 11=iV h.co.length/\∃(j:Nat) (H':Hid),j+m=h.co.length/\I 12=iV j/\aq A H' (n.jV (h.co.take j)) X' ae) h.co.length ?_ ?_
 ·refine⟨rfl,?_,?_,?_,0,H,al,?_,a1⟩<;>exact aQ hl
 rintro m I ds cY Y ⟨rfl,h0,bB,bR,j,H1,xL,oZ,aj⟩ hY;have zo:(n.jV (h.co.take j)).h? id no=some h:=by simp[hh]
 have je:(n.jV (h.co.take j)).ar id=some c:=by simp[hc]
 cases m with
 |succ m=>
  have hj:j<h.co.length:=aa;have c0:(j:Int)<h.co.length:=aa;obtain⟨_,sj⟩:=rn aj;obtain⟨b2,yX,e2,r2⟩:=sj.read;simp only[Value.slice.injEq]at e2;obtain⟨rfl,_,_⟩:=e2;obtain⟨ba,L,rfl,ij,hL⟩:=r2 j (aY hj);simp only[List.getElem_map,bT]at hL;have w1:IntKind.i64.wrap ((j:Int)+1)=((j+1:Nat):Int):=by have:=R.tA;rw[wrap64 aa aa];rfl
  simp only[go_sem,seval,bB,bR,oZ,c0,decide_true];refine⟨aa,?_⟩;refine bu ij hL ?_;refine bJ 17 ?_;refine fR h0 (aj.bX zo) (aj.eQ je) aj.jX ?_;obtain⟨lj,kj,nG,qV,xK⟩:=aj.co zo;obtain⟨x,q,hx,hq,DZ,pg⟩:=R.cancel j hj;obtain⟨st,bw⟩:=so qV xK (List.mem_map_of_mem (f:=λe:List UInt8×Int=>(e.1,pV (A.cons e.2))) (List.getElem_mem hj));refine j9 (b:=A.co id no) (k:=h.co[j].1) (l:=lj) (c:=kj) zK (z:=.pointer none) ah ?_ nG ?_ ?_
  ·exact au
  ·exact au
  have dt:((du lj h.co[j].1).map (·.2.1)).getD (.pointer none)=pV (A.cons h.co[j].2):=by rw[bw];rfl
  rw[if_neg Bool.false_ne_true,dt];refine⟨by(repeat(first|exact jM|(apply jL;(focus decide+kernel))|(refine lK rfl (nW (aj.bX zo) (aj.eQ je) aj.jX) ?_))),?_⟩;refine ag ?_;refine aL (Pm aj pg hx hq DZ) ?_;rintro v2 cV ⟨mf,H2,a2⟩
  cases mf
  have fI:((n.jV (h.co.take j)).cancel h.co[j].2).h? id no=some h:=by simp[hh]
  have Rw:((n.jV (h.co.take j)).cancel h.co[j].2).ar id=some c:=by simp[hc]
  have a2c:=a2.bX fI;have a2d:∃z,cV.f (A.conn id)=some (.cells (([pV A.gw]:List Value)++z).toArray 90 (0,0)):=⟨_,a2.eQ Rw⟩;refine⟨by(repeat(first|exact jM|(apply jL;(focus decide+kernel))|(refine lK rfl (nW (a2.bX fI) (a2.eQ Rw) a2.jX) ?_))),?_⟩;refine bu oZ w1 ?_;refine hY m _ _ _ _ aa ⟨rfl,?_,?_,?_,j+1,H2,aa,?_,by rw[Z8 hj];exact a2⟩ ao
  ·exact aQ h0
  ·exact aQ bB
  ·exact aQ bR
  ·exact au
 |zero=>
  have c0:¬(j:Int)<h.co.length:=aa;have vX:j=h.co.length:=aa;rw[vX,List.take_length]at aj zo je;obtain⟨lj,kj,nG,qV,xK⟩:=aj.co zo;simp only[go_sem,seval,h0,bR,oZ,c0,decide_false,aj.bX zo];refine aaJ (b:=A.co id no) (f:=bT) (l:=lj) (c:=kj) (d:=.map 9 186) ah ?_ nG ?_
  ·exact au
  have a3:=(rn aj).1.MS zo (λh=>{h with co:=[]}) rfl rfl (o:=aU bT [] kj) ⟨[],kj,rfl,aj0,al⟩;have zm:((n.jV h.co).bC id no λh=>{h with co:=[]}).h? id no=some {h with co:=[]}:=by simp[hh]
  obtain⟨lu,ku,xR,zF,xS⟩:=a3.un zm;have zt:lu.length=h.un.length:=by have:=xS.length_eq;simpa using this
  refine bu h0 (a3.bX zm) ?_;refine aL (Vf xR zF.old zF.nd (by rw[zt];exact R.Eu)) ?_;rintro v fU ⟨ow,v',ys,hv,p1,_,p3,p4⟩
  cases hv
  obtain⟨ts,wy,rfl⟩:=zR (p1.trans (by have:=xS.map (·.1);simpa[List.map_map,Function.comp_def]using this)) (xs:=h.un) (f:=λe=>((e.1:Nat):Int)) rfl;have hl:=wy.length_eq;obtain⟨X2,a4,Ab⟩:=a3.AB ow p3 p4;obtain⟨Cw,rF,rfl,_⟩:=p3.read;have il:(ts.map λe=>((e.1:Nat):Int)).length=ts.length:=al;refine aJ il ?_;refine dh (λm I ds ae=>ds=[]/\I 0=pV (A.chan id no)/\I 42=.slice Cw ts.length rF/\I 43=iV ts.length/\∃(j:Nat) (H':Hid),j+m=ts.length/\I 44=iV j/\aq A H' (((n.jV h.co).bC id no λh=>{h with co:=[]}).kZ id no (ts.take j)) X2 ae) ts.length ?_ ?_
  ·refine⟨rfl,?_,?_,?_,0,H1,al,?_,a4⟩<;>exact xg h0 il
  clear hY h0 bB bR oZ;rintro m I ds dx Y ⟨rfl,h0,QY,vQ,j,H5,xL,ud,aj⟩ hY;have w1:IntKind.i64.wrap ((j:Int)+1)=((j+1:Nat):Int):=by have:=R.Eu;rw[wrap64 aa aa];rfl
  cases m with
  |succ m=>
   have hj:j<ts.length:=aa;have c0:(j:Int)<ts.length:=aa;obtain⟨_,sj⟩:=Ab aj;obtain⟨b2,yX,e2,r2⟩:=sj.read;simp only[Value.slice.injEq]at e2;obtain⟨rfl,_,_⟩:=e2;obtain⟨ba,L,rfl,ij,hL⟩:=r2 j (aY hj);simp only[List.getElem_map,aW]at hL;obtain⟨h',q,dX,iD,hq,b1,AI,hs⟩:=R.back (ts.take j) ts[j] (wy.mem_iff.1 (List.getElem_mem hj)) (HA ((wy.map (·.1)).nodup_iff.2 R.un) hj);simp only[go_sem,seval,QY,vQ,ud,c0,decide_true];refine⟨aa,?_⟩;refine bN ij hL h0 ?_;refine aL (U7 (nm:=ts[j].2.1) (m:=ts[j].2.2) aj dX iD hq b1 AI hs) ?_;rintro v2 cV ⟨mf,H2,a2⟩
   cases mf
   refine bu ud w1 ?_;refine hY m _ _ _ _ aa ⟨rfl,?_,?_,?_,j+1,H2,aa,?_,by rw[aoS hj];exact a2⟩ ao
   ·exact aQ h0
   ·exact aQ QY
   ·exact aQ vQ
   ·exact au
  |zero=>
   have c0:¬(j:Int)<ts.length:=aa;have vX:j=ts.length:=aa;rw[vX,List.take_length]at aj;simp only[go_sem,seval,vQ,ud,c0,decide_false];refine aD dz ao ⟨rfl,H5,?_⟩;have e:n.release id no=((n.jV h.co).bC id no λh=>{h with co:=[]}).kZ id no h.un:=by unfold N.release;rw[hh];rfl
   rw[e,<-aoR wy λg hg=>by cases zm.symm.trans hg;exact R.sep];exact(Ab aj).1
end
section
variable {U:Hp}{a:Nat}{b:Nat}{H:Hid}{n:N}{X:Ext}{no:Nat}{h:HN}{A':Lay}{H':Hid}{c:CN}{o:Obj}
variable {A:Lay}{id:Int}
def mO (id:Int)(p:Nat->Bool):Ref->Bool
 | .chan i j| .un i j| .co i j=>decide (i=id)&&p j
 |_=>false
def Hl.forget {w:Ref->Option V}{ad:Ref->Nat}(h:Hl w ad U)(f:Ref->Bool):Hl (λr=>if f r then none else w r) ad U:=
 h.sub λr=>by cases h:f r<;>simp[h]
def aq.abR (a:aq A H n X U)(hc:n.ar id=some c)(hb:U.f b=none)(f:CN->CN)(hf:(f c).ch=[]):
 aq A (H.vf id b) (n.dM id f) X ((U.set b (aU aW [] 0)).set (A.conn id) (fN A.gw id b (f c).r)):=by
 have h0:=Hl.forget a (mO id λ_=>true);have h1:=Hl.put h0 (r:=.chm id) (b:=b) (v:=.pz []) (Hl.tR h0 _ hb) ⟨[],0,rfl,⟨by simp[jT],al,al⟩,al⟩;have h2:=Hl.vh h1 (r:=.conn id) (by simp[upd,view,hc,mO]) (fN A.gw id b (f c).r);have e2:upd (cG A H X) (.chm id) b (.conn id)=A.conn id:=by simp[upd,cG]
 rw[e2]at h2
 have hh:∀i j,(n.dM id f).h? i j=if i=id then none else n.h? i j:=λi j=>by
  unfold N.h?;rw[qG];by_cases e:i=id
  ·subst e;simp[hc,hf,bq]
  ·simp[e]
 refine Hl.congr h2 (λr=>?_) (λr hr=>?_)
 ·cases r
  case conn i=>by_cases e:i=id<;>simp[view,upd,e,hc,mO,Hid.vf]
  case chm i=>by_cases e:i=id<;>simp[view,upd,e,hc,mO,hf]
  case chan i j=>by_cases e:i=id<;>simp[view,upd,e,hh,mO]
  case un i j=>by_cases e:i=id<;>simp[view,upd,e,hh,mO]
  case co i j=>by_cases e:i=id<;>simp[view,upd,e,hh,mO]
  case mc=>simp only[view,upd,N.dM,mO,reduceCtorEq,if_false];rw[oQ _ _ _ λi=>(i,pV (A.conn i))]
  all_goals simp[view,upd,mO]<;>rfl
 ·cases r
  case chm i=>by_cases e:i=id<;>simp[cG,upd,e,Hid.vf]
  all_goals simp[cG,upd]<;>rfl
def aq.abv (a:aq A H n X U)(hc:n.ar id=some c)(no:Nat)(ho:oN (.pz ((cB c.ch no).map λe=>((e.1:Int),pV (A.chan id e.1)))) o):
 aq A H (n.dM id λc=>{c with ch:=cB c.ch no}) X (U.set (H.chm id) o):=by
 have h0:=Hl.forget a (mO id λj=>decide (j=no));have h1:=Hl.set h0 (r:=.chm id) (by simp[view,hc,mO]) ho
 have hh:∀i j,(n.dM id λc=>{c with ch:=cB c.ch no}).h? i j=if i=id/\j=no then none else n.h? i j:=λi j=>by
  unfold N.h?;rw[qG];by_cases e:i=id
  ·subst e;simp[hc,Cs]
  ·simp[e]
 refine Hl.congr h1 (λr=>?_) (λr hr=>rfl)
 cases r
 case conn i=>by_cases e:i=id<;>simp[view,upd,e,hc,mO]
 case chm i=>by_cases e:i=id<;>simp[view,upd,e,hc,mO]
 case chan i j=>by_cases e:i=id<;>by_cases e2:j=no<;>simp[view,upd,e,e2,hh,mO]
 case un i j=>by_cases e:i=id<;>by_cases e2:j=no<;>simp[view,upd,e,e2,hh,mO]
 case co i j=>by_cases e:i=id<;>by_cases e2:j=no<;>simp[view,upd,e,e2,hh,mO]
 case mc=>simp only[view,upd,N.dM,mO,reduceCtorEq,if_false];rw[oQ _ _ _ λi=>(i,pV (A.conn i))]
 all_goals simp[view,upd,mO]<;>rfl
def Lay.setChan (A:Lay)(id:Int)(no:Nat)(hb ub cb:Nat):Lay:={A with
 chan:=λi j=>if i=id/\j=no then hb else A.chan i j
 un:=λi j=>if i=id/\j=no then ub else A.un i j
 co:=λi j=>if i=id/\j=no then cb else A.co i j}
def aq.akx (a:aq A H n X U)(w:Wf n)(hc:n.ar id=some c)(hn:bq c.ch no=none){hb ub cb:Nat}(h1:U.f ub=none)(h2:U.f cb=none)(h3:U.f hb=none)(n1:cb≠ub)(n2:hb≠ub)(n3:hb≠cb)
 (ho:oN (.pz ((cZ lM c.ch no ⟨gN,[],[]⟩).map λe=>((e.1:Int),pV ((A.setChan id no hb ub cb).chan id e.1)))) o):
 aq (A.setChan id no hb ub cb) H (n.dM id λc=>{c with ch:=cZ lM c.ch no ⟨gN,[],[]⟩}) X
  ((((U.set ub (aU aW [] 0)).set cb (aU bT [] 0)).set hb (iH (A.conn id) no ub cb gN)).set (H.chm id) o):=by
 have uv:n.h? id no=none:=by simp[N.h?,hc,hn]
 have h0:=a.HU w (A':=A.setChan id no hb ub cb) (H':=H) ⟨rfl,rfl,rfl,rfl,rfl,λ_ _=>⟨rfl,rfl⟩,λi j hj=>by
  have:¬(i=id/\j=no):=λe=>by rw[e.1,e.2,uv]at hj;cases hj
  simp[Lay.setChan,this],λ_ _=>⟨rfl,rfl,rfl⟩,λ_ _=>rfl⟩
 have g1:=Hl.put h0 (r:=.un id no) (b:=ub) (v:=.pz []) (Hl.tR h0 _ h1) ⟨[],0,rfl,⟨by simp[jT],al,al⟩,al⟩;have g2:=Hl.put g1 (r:=.co id no) (b:=cb) (v:=.ye []) (Hl.tR g1 _ (by rw[Hp.ay n1];exact h2)) ⟨[],0,rfl,⟨by simp[jT],al,al⟩,al⟩;have g3:=Hl.put g2 (r:=.chan id no) (b:=hb) (v:=.obj (iH (A.conn id) no ub cb gN)) (Hl.tR g2 _ (by rw[Hp.ay n3,Hp.ay n2];exact h3)) (_root_.id rfl);have g4:=Hl.set g3 (r:=.chm id) (by simp[upd,view,hc]) ho;have e4:upd (upd (upd (cG (A.setChan id no hb ub cb) H X) (.un id no) ub) (.co id no) cb) (.chan id no) hb (.chm id)=H.chm id:=by simp[upd,cG]
 rw[e4]at g4
 have hh:∀i j,(n.dM id λc=>{c with ch:=cZ lM c.ch no ⟨gN,[],[]⟩}).h? i j=if i=id/\j=no then some ⟨gN,[],[]⟩else n.h? i j:=λi j=>by
  unfold N.h?;rw[qG];by_cases e:i=id
  ·subst e;simp[hc,yQ _ _ _ _ hn]
  ·simp[e]
 refine Hl.congr g4 (λr=>?_) (λr hr=>?_)
 ·cases r
  case conn i=>by_cases e:i=id<;>simp[view,upd,e,hc]<;>rfl
  case chm i=>by_cases e:i=id<;>simp[view,upd,e,hc]
  case chan i j=>by_cases e:i=id/\j=no<;>simp[view,upd,e,hh]<;>simp[Lay.setChan]
  case un i j=>by_cases e:i=id/\j=no<;>simp[view,upd,e,hh]
  case co i j=>by_cases e:i=id/\j=no<;>simp[view,upd,e,hh]
  case mc=>simp only[view,upd,N.dM,reduceCtorEq,if_false];rw[oQ _ _ _ λi=>(i,pV ((A.setChan id no hb ub cb).conn i))]
  all_goals simp[view,upd]<;>rfl
 ·cases r
  case chan i j=>by_cases e:i=id/\j=no<;>simp[cG,upd,e,Lay.setChan]
  case un i j=>by_cases e:i=id/\j=no<;>simp[cG,upd,e,Lay.setChan]
  case co i j=>by_cases e:i=id/\j=no<;>simp[cG,upd,e,Lay.setChan]
  all_goals simp[cG,upd]<;>rfl
def Lay.rq (A:Lay)(id:Int)(b:Nat):Lay:={A with conn:=λi=>if i=id then b else A.conn i}
def aq.aky (a:aq A H n X U)(w:Wf n)(hn:n.ar id=none){m:Nat}(h1:U.f m=none)(h2:U.f b=none)(n1:b≠m)(r0:CR)(ho:oN (.pz ((n.aF++[(id,(⟨r0,[]⟩:CN))]).map λe=>(e.1,pV ((A.rq id b).conn e.1)))) o):
 aq (A.rq id b) (H.vf id m) {n with aF:=n.aF++[(id,⟨r0,[]⟩)]} X (((U.set m (aU aW [] 0)).set b (fN A.gw id m r0)).set A.mc o):=by
 have h0:=a.HU w (A':=A.rq id b) (H':=H.vf id m) ⟨rfl,rfl,rfl,rfl,rfl,λi hi=>by simp[Lay.rq,Hid.vf,M0 (f:=n.ar) hn hi],λ_ _ _=>⟨rfl,rfl,rfl⟩,λ_ _=>⟨rfl,rfl,rfl⟩,λ_ _=>rfl⟩;have g1:=Hl.put h0 (r:=.chm id) (b:=m) (v:=.pz []) (Hl.tR h0 _ h1) ⟨[],0,rfl,⟨by simp[jT],al,al⟩,al⟩;have g2:=Hl.put g1 (r:=.conn id) (b:=b) (v:=.obj (fN A.gw id m r0)) (Hl.tR g1 _ (by rw[Hp.ay n1];exact h2)) (_root_.id rfl);have g3:=Hl.set g2 (r:=.mc) (by simp[upd,view]) ho;have e3:upd (upd (cG (A.rq id b) (H.vf id m) X) (.chm id) m) (.conn id) b .mc=A.mc:=by simp[upd,cG,Lay.rq]
 rw[e3]at g3
 have cS:∀i,N.ar {n with aF:=n.aF++[(id,⟨r0,[]⟩)]} i=if i=id then some ⟨r0,[]⟩else n.ar i:=by
  intro i;unfold N.ar bq;simp only[List.find?_append,List.find?_cons,List.find?_nil];by_cases e:i=id
  ·subst e;have:(n.aF.find? λe=>decide (e.1=i))=none:=by unfold N.ar bq at hn;simpa using hn
   simp[this]
  ·have e2:¬id=i:=λz=>e z.symm;simp[e2,e]
 have hh:∀i j,N.h? {n with aF:=n.aF++[(id,⟨r0,[]⟩)]} i j=n.h? i j:=λi j=>by
  unfold N.h?;rw[cS];by_cases e:i=id
  ·subst e;simp[hn,bq]
  ·simp[e]
 refine Hl.congr g3 (λr=>?_) (λr hr=>?_)
 ·cases r
  case conn i=>by_cases e:i=id<;>simp[view,upd,e,cS]<;>simp[Lay.rq,Hid.vf]
  case chm i=>by_cases e:i=id<;>simp[view,upd,e,cS]
  case chan i j=>simp[view,upd,hh]
  case un i j=>simp[view,upd,hh]
  case co i j=>simp[view,upd,hh]
  all_goals simp[view,upd]<;>rfl
 ·cases r
  case conn i=>by_cases e:i=id<;>simp[cG,upd,e,Lay.rq]
  case chm i=>by_cases e:i=id<;>simp[cG,upd,e,Hid.vf]
  all_goals simp[cG,upd]<;>rfl
def aq.PQ (a:aq A H n X U)(id:Int)(ho:oN (.pz ((cB n.aF id).map λe=>(e.1,pV (A.conn e.1)))) o):
 aq A H {n with aF:=cB n.aF id} X (U.set A.mc o):=by
 have h1:=Hl.set a (r:=.mc) (by simp[view]) ho;refine Hl.sub h1 (λr=>?_);have cS:∀i,N.ar {n with aF:=cB n.aF id} i=if i=id then none else n.ar i:=λi=>Cs _ _ _
 have hh:∀i j,N.h? {n with aF:=cB n.aF id} i j=if i=id then none else n.h? i j:=λi j=>by unfold N.h?;rw[cS];split<;>rfl
 cases r
 case conn i=>by_cases e:i=id<;>simp[view,upd,e,cS]
 case chm i=>by_cases e:i=id<;>simp[view,upd,e,cS]
 case chan i j=>by_cases e:i=id<;>simp[view,upd,e,hh]
 case un i j=>by_cases e:i=id<;>simp[view,upd,e,hh]
 case co i j=>by_cases e:i=id<;>simp[view,upd,e,hh]
 case mc=>exact .inr (by simp[view,upd])
 all_goals exact .inr (by simp[view,upd]<;>rfl)
end
section
variable {b:Nat}{n:N}{no:Nat}{h:HN}{c:CN}{k:Int}{aK:Int}{dB:Nat}
variable {id:Int}
def N.rC (n:N)(id:Int):Option CR:=(n.ar id).map λc=>c.r
def N.rH (n:N)(id:Int)(no:Nat):Option HR:=(n.h? id no).map λh=>h.r
def rj {f:HN->HN}:(n.bC id no f).rC aK=n.rC aK:=by
 unfold N.rC;rw[vJ];split
 ·cases n.ar aK<;>rfl
 ·rfl
def UG {f:HN->HN}(hf:∀h,(f h).r=h.r):(n.bC id no f).rH aK dB=n.rH aK dB:=by
 unfold N.rH;rw[jY];split
 ·cases n.h? aK dB<;>simp[hf]
 ·rfl
def UB {tag:Nat}{b:Bool}:(n.settle id no tag b).rC aK=n.rC aK:=by unfold N.settle;split<;>first|rfl|exact rj
def anB {tag:Nat}{b:Bool}:(n.settle id no tag b).rH aK dB=n.rH aK dB:=by unfold N.settle;split<;>first|rfl|exact UG λ_=>rfl
def anw {k:Int}:(n.cancel k).rC aK=n.rC aK:=by unfold N.rC;rw[PC]
def anz {l:List (Nat×(List UInt8×aR))}:(n.kZ id no l).rC aK=n.rC aK:=by
 unfold N.kZ
 induction l generalizing n with
 |nil=>rfl
 |cons e l ih=>rw[List.foldl_cons,ih];exact UB
def anC {l:List (Nat×(List UInt8×aR))}:(n.kZ id no l).rH aK dB=n.rH aK dB:=by
 unfold N.kZ
 induction l generalizing n with
 |nil=>rfl
 |cons e l ih=>rw[List.foldl_cons,ih];exact anB
def BZ (hh:n.h? id no=some h):n.release id no=((n.jV h.co).bC id no λh=>{h with co:=[]}).kZ id no h.un:=by unfold N.release;rw[hh];rfl
def BX:(n.release id no).rC aK=n.rC aK:=by
 cases hh:n.h? id no with
 |none=>unfold N.release;rw[hh]
 |some h=>rw[BZ hh,anz,rj];unfold N.rC;rw[PD]
def UE:(n.release id no).rH aK dB=n.rH aK dB:=by
 cases hh:n.h? id no with
 |none=>unfold N.release;rw[hh]
 |some h=>rw[BZ hh,anC];refine(UG (f:=λh=>{h with co:=[]}) λ_=>rfl).trans ?_;unfold N.rH;rw[Gs]
def N.gZ (n:N)(id:Int)(l:List (Nat×HN)):N:=l.foldl (λn e=>n.release id e.1) n
def EV {l:List (Nat×HN)}:(n.gZ id l).rC aK=n.rC aK:=by
 unfold N.gZ
 induction l generalizing n with
 |nil=>rfl
 |cons e l ih=>rw[List.foldl_cons,ih];exact BX
def aoa {l:List (Nat×HN)}{j:Nat}(hj:j<l.length):n.gZ id (l.take (j+1))=(n.gZ id (l.take j)).release id l[j].1:=by unfold N.gZ;rw[List.take_succ_eq_append_getElem hj,List.foldl_append];rfl
def BY {r:CR}(h:n.rC id=some r):∃c,n.ar id=some c/\c.r=r:=by unfold N.rC at h;obtain⟨c,h1,h2⟩:=Option.map_eq_some_iff.1 h;exact⟨c,h1,h2⟩
def UF {r:HR}(h:n.rH id no=some r):∃c,n.h? id no=some c/\c.r=r:=by unfold N.rH at h;obtain⟨c,h1,h2⟩:=Option.map_eq_some_iff.1 h;exact⟨c,h1,h2⟩
def BW (h:n.ar id=some c):n.rC id=some c.r:=by simp[N.rC,h]
def UD (hh:n.h? id no=some h):n.rH id no=some h.r:=by simp[N.rH,hh]
structure Aw (n:N) (id:Int) (c:CN):Prop where
 jG:(c.ch.map (·.1)).Pairwise (·<·)
 len:c.ch.length<=12
 step:∀j,∃cj,(n.gZ id (c.ch.take j)).ar id=some cj/\cj.ch.map (·.1)=c.ch.map (·.1)
 rel:∀j (hj:j<c.ch.length),∃h,(n.gZ id (c.ch.take j)).h? id c.ch[j].1=some h/\yF (n.gZ id (c.ch.take j)) id c.ch[j].1 h
end
section
variable {E:Env prog}{U:Hp}{J:Hp}{cap:Nat}{a:Nat}{b:Nat}{s:Int}{H:Hid}{n:N}{X:Ext}{h:HN}{H':Hid}{c:CN}{k:Int}{o:Obj}
variable {A:Lay}{id:Int}
def aq.mem (a:aq A H n X U){p:Nat×Obj}(h:p∈X):U.f p.1=some p.2:=by obtain⟨i,hi⟩:=List.getElem?_of_mem h;exact a.ext hi
def pQ (a:aq A H n X U)(hc:n.ar id=some c){ch cl me:Nat}{xs:List Arg}{v:Value}(hv:Ap U xs v)(gB:∀a∈xs,lr a)(hn:xs.length<=1000)
 (dO:ch<9223372036854775808) (aH:cl<9223372036854775808) (aO:me<9223372036854775808) (gn:(dg xs).length<=10000000) (fP:c.r.out.length<=1000000000000000):
 aw E 105 #[pV (A.conn id),iV ch,iV cl,iV me,v] U λe J=>e=.returned (.tuple #[])/\aq A H (n.send id (ck ch cl me xs)) X J:=
 (HS a.gw (a.conn hc) hv gB hn dO aH aO gn fP).mono λe J ⟨h1,h2⟩=>⟨h1,by subst h2;exact a.nS hc λr=>{r with out:=r.out++ck ch cl me xs,iu:=n.clock}⟩
def MQ (a:aq A H n X U)(hc:n.ar id=some c){s:List UInt8}(fP:c.r.out.length+s.length<=9223372036854775807):
 aw E 43 #[pV (A.conn id),sV s] U λe J=>e=.returned (.tuple #[])/\aq A H (n.send id s) X J:=
 (UY (a.eQ hc) a.jX rfl rfl rfl rfl fP (λe=>by have:=a.gw;rw[e,a.conn hc]at this;simp[fN,eS,CR.vals]at this)).mono λe J ⟨h1,h2⟩=>⟨h1,by subst h2;exact a.nS hc λr=>{r with out:=r.out++s,iu:=n.clock}⟩
def LR (a:aq A H n X U)(hc:n.ar id=some c)(R:Aw n id c):
 aw E 53 #[pV (A.conn id)] U λe J=>e=.returned (.tuple #[])/\At A (n.leave id) X J:=by
 refine aV func53 ntmps53 results53 λQ aD an aB=>?_;obtain⟨lc,kc,cF,dV,lD⟩:=a.chm hc;have Bn:lc.length=c.ch.length:=by have:=lD.length_eq;simpa using this
 refine aJ (a.eQ hc) ?_;refine aL (apo cF dV.old dV.nd (by have:=R.len;omega)) ?_;rintro v J ⟨hle,v',ys,hv,p1,p2,p3,p4⟩
 cases hv
 obtain rfl:ys=c.ch.map λe=>((e.1:Nat):Int):=by
  refine Ah BF FM (p1.trans ?_) (p2 (by have:=R.len;omega)) ?_
  ·have:=lD.map (·.1);simpa[List.map_map,Function.comp_def]using this
  ·have:=R.jG;rw[dR,List.pairwise_map];rw[List.pairwise_map]at this;exact this.imp λh=>by simp[kg];omega
 obtain⟨X',a1,rn⟩:=a.AB hle p3 p4;obtain⟨base,cap,rfl,_⟩:=p3.read;have hl:(c.ch.map λe=>((e.1:Nat):Int)).length=c.ch.length:=al;refine aJ hl ?_;refine dh (λm I ds ae=>ds=[]/\I 0=pV (A.conn id)/\I 8=.slice base c.ch.length cap/\I 9=iV c.ch.length/\∃(j:Nat) (H':Hid),j+m=c.ch.length/\I 10=iV j/\aq A H' (n.gZ id (c.ch.take j)) X' ae) c.ch.length ?_ ?_
 ·refine⟨rfl,?_,?_,?_,0,H,al,?_,a1⟩<;>exact aQ hl
 rintro m I ds cY Y ⟨rfl,h0,h8,h9,j,H1,xL,bB,aj⟩ hY;obtain⟨cj,je,hkj⟩:=R.step j
 cases m with
 |succ m=>
  have hj:j<c.ch.length:=aa;have c0:(j:Int)<c.ch.length:=aa;obtain⟨_,sj⟩:=rn aj;obtain⟨b2,yX,e2,r2⟩:=sj.read;simp only[Value.slice.injEq]at e2;obtain⟨rfl,_,_⟩:=e2;obtain⟨ba,L,rfl,ij,hL⟩:=r2 j (aY hj);simp only[List.getElem_map,aW]at hL;have w1:IntKind.i64.wrap ((j:Int)+1)=((j+1:Nat):Int):=by have:=R.len;rw[wrap64 aa aa];rfl
  obtain⟨h,hh,Rh⟩:=R.rel j hj;obtain⟨lj,kj,nG,qV,xK⟩:=aj.chm je
  have qf:((c.ch[j].1:Int),pV (A.chan id c.ch[j].1))∈cj.ch.map λe=>((e.1:Int),pV (A.chan id e.1)):=by
   have:c.ch[j].1∈cj.ch.map (·.1):=by rw[hkj];exact List.mem_map_of_mem (List.getElem_mem hj)
   obtain⟨e,he,h2⟩:=List.mem_map.1 this;exact List.mem_map.2 ⟨e,he,by rw[h2]⟩
  obtain⟨st,bw⟩:=so qV xK qf;simp only[go_sem,seval,h8,h9,bB,c0,decide_true];refine⟨aa,?_⟩;refine fR ij hL h0 (aj.eQ je) ?_;refine j9 (b:=H1.chm id) (k:=(c.ch[j].1:Int)) (l:=lj) (c:=kj) uP (z:=.pointer none) ah ?_ nG ?_ ?_
  ·exact au
  ·exact au
  have dt:((du lj (c.ch[j].1:Int)).map (·.2.1)).getD (.pointer none)=pV (A.chan id c.ch[j].1):=by rw[bw];rfl
  rw[if_neg Bool.false_ne_true,dt];refine ag ?_;refine aL (ML aj je hh Rh) ?_;rintro v2 cV ⟨mf,H2,a2⟩
  cases mf
  refine bu bB w1 ?_;refine hY m _ _ _ _ aa ⟨rfl,?_,?_,?_,j+1,H2,aa,?_,by rw[aoa hj];exact a2⟩ ao
  ·exact aQ h0
  ·exact aQ h8
  ·exact aQ h9
  ·exact au
 |zero=>
  have c0:¬(j:Int)<c.ch.length:=aa;have vX:j=c.ch.length:=aa;rw[vX,List.take_length]at aj je;simp only[go_sem,seval,h0,h9,bB,c0,decide_false];refineλmb R8=>?_;have a5:=λo=>aj.fresh R8 o;have f5:=λo=>(a5 o).eQ je;refine aJ f5 ?_;refine aD dz ao ⟨rfl,H1.vf id mb,?_⟩;have e:n.leave id=(n.gZ id c.ch).dM id λc=>{c with ch:=[]}:=by unfold N.leave;rw[hc];rfl
  rw[e];exact(rn aj).1.abR je R8 (λc=>{c with ch:=[]}) rfl
end
def dU{A:Lay}{H:Hid}{n:N}{X:Ext}{Z Z':Hp}(a:aq A H n X Z)(e:Z=Z'):aq A H n X Z':=e▸a
def tX(e cl me:Nat):Obj:=.cells [iV e,iV cl,iV me].toArray 217 (0,0)
def Qs(e cl me:Nat):(dg (qL e cl me)).length=7:=by simp[dg,eJ,qL,bH]
section
variable {E:Env prog}{U:Hp}{J:Hp}{a:Nat}{b:Nat}{H:Hid}{n:N}{X:Ext}{no:Nat}{h:HN}{c:CN}{k:Int}{o:Obj}{e:Nat}{cl:Nat}{me:Nat}
variable {A:Lay}{id:Int}
def apb (a:aq A H n X U)(hb:(b,tX e cl me)∈X)(hc:n.ar id=some c)(hh:n.h? id no=some h)(R:yF n id no h)(eC:no<1000000)(he:e<1000000/\cl<1000000/\me<1000000)(fP:c.r.out.length<=100000000000000):
 aw E 151 #[pV (A.chan id no),pV b] U λe' J=>e'=.returned (.tuple #[])/\At A (n.soft id no e cl me) X J:=by
 refine aV func151 ntmps151 results151 λQ aD an aB=>?_;refine ag ?_;refine aL (ML a hc hh R) ?_;rintro v J ⟨hv,H1,a1⟩
 cases hv
 obtain⟨c1,cF,ec⟩:=BY (BX.trans (BW hc));obtain⟨h1,nF,eh⟩:=UF (UE.trans (UD hh));refine aJ (a1.bX nF) ?_;have a2:=a1.yt nF λr=>{r with closing:=true};generalize hZ:J.set (A.chan id no) _=cV;replace a2:=dU a2 hZ;have fI:((n.release id no).cN id no λr=>{r with closing:=true}).h? id no=some {h1 with r:={h1.r with closing:=true}}:=by simp[nF]
 have dV:∃c2,((n.release id no).cN id no λr=>{r with closing:=true}).ar id=some c2/\c2.r=c.r:=by refine BY (rj.trans ?_);rw[BW cF,ec]
 obtain⟨c2,dV,ec2⟩:=dV;have fb:=a2.mem hb;simp only[tX]at fb;refine bJ 26 ?_;refine bu (a2.bX fI) fb ?_;refineλbn cD=>?_;have a3:=λo=>a2.fresh cD o;have f3:=λo=>(a3 o).mem hb;simp only[tX]at f3;have g3:=λo=>(a3 o).bX fI;refine LH g3 ?_;refine ag ?_;refine aL (pQ (ch:=no) (cl:=20) (me:=40) (xs:=qL e cl me) (a3 _) dV (.inr ⟨bn,rfl,aX⟩) ?_ (by simp[qL]) aa ai ai (by rw[Qs];decide) (by rw[ec2];omega)) ?_
 ·simp[qL,lr];omega
 rintro v fU ⟨hv,a4⟩
 cases hv
 have f4:=a4.mem hb;simp only[tX]at f4;have KE:(((n.release id no).cN id no λr=>{r with closing:=true}).send id (ck no 20 40 (qL e cl me))).h? id no=some {h1 with r:={h1.r with closing:=true}}:=by rw[pY];exact fI
 have g4:=a4.bX KE;refine S0 f4 g4 ?_;exact aD dz ao ⟨rfl,H1,a4⟩
def Rr (a:aq A H n X U)(hb:(b,tX e cl me)∈X)(hc:n.ar id=some c)(R:Aw n id c)(he:e<1000000/\cl<1000000/\me<1000000)(fP:c.r.out.length<=100000000000000):
 aw E 106 #[pV (A.conn id),pV b] U λe' J=>e'=.returned (.tuple #[])/\At A (n.cL id e cl me) X J:=by
 refine aV func106 ntmps106 results106 λQ aD an aB=>?_;refine ag ?_;refine aL (LR a hc R) ?_;rintro v J ⟨hv,H1,a1⟩
 cases hv
 have cF:∃c1,(n.leave id).ar id=some c1/\c1.r=c.r:=by
  have e:n.leave id=(n.gZ id c.ch).dM id λc=>{c with ch:=[]}:=by unfold N.leave;rw[hc];rfl
  obtain⟨c1,cF,ec⟩:=BY (EV.trans (BW hc):(n.gZ id c.ch).rC id=some c.r);exact⟨{c1 with ch:=[]},by rw[e];simp[cF],ec⟩
 obtain⟨c1,cF,ec⟩:=cF;refine aJ (a1.eQ cF) ?_;have a2:=a1.nS cF λr=>{r with ph:=4};generalize hZ:J.set (A.conn id) _=cV;replace a2:=dU a2 hZ;have dV:((n.leave id).bE id λr=>{r with ph:=4}).ar id=some {c1 with r:={c1.r with ph:=4}}:=by simp[cF]
 have fb:=a2.mem hb;simp only[tX]at fb;refine bJ 19 ?_;refine aJ fb ?_;refineλbn cD=>?_;have a3:=λo=>a2.fresh cD o;have f3:=λo=>(a3 o).mem hb;simp only[tX]at f3;refine⟨dJ f3,?_⟩;refine ag ?_;refine aL (pQ (ch:=0) (cl:=10) (me:=50) (xs:=qL e cl me) (a3 _) dV (.inr ⟨bn,rfl,aX⟩) ?_ (by simp[qL]) aa ai ai (by rw[Qs];decide) (by simp only;rw[ec];omega)) ?_
 ·simp[qL,lr];omega
 rintro v fU ⟨hv,a4⟩
 cases hv
 have f4:=a4.mem hb;simp only[tX]at f4;refine⟨dJ f4,?_⟩;exact aD dz ao ⟨rfl,H1,a4⟩
def Jw (a:aq A H n X U)(hc:n.ar id=some c)(hh:n.h? id no=some h)(R:yF n id no h):
 aw E 243 #[pV (A.chan id no)] U λe' J=>e'=.returned (.tuple #[])/\At A (n.pS id no) X J:=by
 refine aV func243 ntmps243 results243 λQ aD an aB=>?_;refine ag ?_;refine aL (ML a hc hh R) ?_;rintro v J ⟨hv,H1,a1⟩
 cases hv
 obtain⟨c1,cF,ec⟩:=BY (BX.trans (BW hc));obtain⟨h1,nF,eh⟩:=UF (UE.trans (UD hh));obtain⟨lj,kj,nG,qV,xK⟩:=a1.chm cF;refine ag ?_;refine bJ 12 ?_;refine bu (a1.bX nF) (a1.eQ cF) ?_;refine CK (b:=H1.chm id) (k:=(no:Int)) (l:=lj) (c:=kj) uP qV.uniq ?_ nG ?_ ?_
 ·exact au
 ·exact au
 obtain⟨d1,d2⟩:=Ey qV xK (no:Int)
 have em:((c1.ch.map λe=>((e.1:Int),pV (A.chan id e.1))).filter λe=>decide (e.1≠(no:Int)))=(cB c1.ch no).map λe=>((e.1:Int),pV (A.chan id e.1)):=by unfold cB;rw[List.filter_map];congr 1;apply List.filter_congr;intro e _;simp only[Function.comp,decide_eq_decide];omega
 rw[em]at d2;have a2:=a1.abv cF no ⟨_,_,rfl,d1,d2⟩;have nch:¬A.chan id no=H1.chm id:=λe=>by have:=a1.chan nF;rw[e,nG]at this;simp[aU,iH]at this
 have ncn:¬A.conn id=H1.chm id:=λe=>by have:=a1.conn cF;rw[e,nG]at this;simp[aU,fN]at this
 have g2:=λo=>(Hp.ay (o:=o) nch).trans (a1.bX nF);have f2:=λo=>(Hp.ay (o:=o) ncn).trans (a1.eQ cF);refine S0 g2 f2 ?_;exact aD dz ao ⟨rfl,H1,a2⟩
end
section
variable {E:Env prog}{U:Hp}{J:Hp}{a:Nat}{b:Nat}{et:Nat}{H:Hid}{n:N}{X:Ext}{no:Nat}{h:HN}{nm:List UInt8}{c:CN}{q:QN}{k:Int}{o:Obj}{e:Nat}{m:aR}
variable {A:Lay}{id:Int}
def Rq {na:Bool}(a:aq A H n X U)(hh:n.h? id no=some h)(hq:n.q? nm=some q)(b1:0<=h.r.tag/\h.r.tag<=1000000000000)(b2:0<=q.held/\q.held<=1000000)(iZ:∀e∈h.un,(e.1:Int)≠h.r.tag+1):
 aw E 291 #[pV (A.chan id no),pV (A.queue nm),m.v,.bool na] U λe J=>e=.returned (iV (h.r.tag+1))/\aq A H (n.hand id no nm m na) X J:=by
 show aw E 291 #[pV (A.chan id no),pV (A.queue nm),.agg #[iV m.seq,sV m.key,sV m.body,.bool m.again],.bool na] U _;refine aV func291 ntmps291 results291 λQ aD an aB=>?_;have w1:IntKind.i64.wrap (h.r.tag+1)=h.r.tag+1:=wrap64 aa aa;have w2:IntKind.i64.wrap (q.held+1)=q.held+1:=wrap64 aa aa;refine ag ?_;refineλb5 lZ=>?_;refine ag ?_;have a5:=λo=>a.iS lZ o;have f5:=λo=>(a5 o).bX hh;refine bu f5 w1 ?_;have a6:=λo=>(a5 o).yt hh λr=>{r with tag:=r.tag+1};generalize hZ:Hp.set (Hp.set U b5 _) (A.chan id no) _=yC;replace a6:=dU (a6 _) hZ;have pe:(n.cN id no λr=>{r with tag:=r.tag+1}).h? id no=some {h with r:={h.r with tag:=h.r.tag+1}}:=by simp[hh]
 cases na with
 |true=>
  refine aJ (a6.bX pe) ?_;refine an aI ao ⟨by simp[up],?_⟩;exact a6.oW
 |false=>
  have uB:(n.cN id no λr=>{r with tag:=r.tag+1}).q? nm=some q:=hq;refine bu (a6.tH uB) w2 ?_;have a7:=a6.HY uB (λq=>{q with held:=q.held+1}) rfl rfl;generalize vS:Hp.set yC (A.queue nm) _=pH;replace a7:=dU a7 vS;have x7:=a7.eK;simp only at x7;have Du:((n.cN id no λr=>{r with tag:=r.tag+1}).bK nm λq=>{q with held:=q.held+1}).h? id no=some {h with r:={h.r with tag:=h.r.tag+1}}:=by simp[hh]
  obtain⟨l,kk,gm,il,iC⟩:=a7.un Du;refine bJ 12 ?_;refine bu (a7.bX Du) x7 ?_;refine⟨by(repeat(first|exact jM|(apply jL;(focus decide+kernel))|(refine lK rfl (aQ (a7.bX Du)) ?_))),?_⟩;refine ag ?_;refine BH (b:=A.un id no) (k:=h.r.tag+1) (l:=l) (c:=kk) BD il.uniq ?_ gm ?_ ?_
  ·exact au
  ·exact au
  refine ag ?_
  have hnk:∀e∈(h.un.map λe=>((e.1:Int),um (A.queue e.2.1) e.2.2)),e.1≠h.r.tag+1:=by intro e he;obtain⟨y,hy,rfl⟩:=List.mem_map.1 he;exact iZ y hy
  obtain⟨d1,d2⟩:=Ez il iC hnk (um (A.queue nm) m);have et:(((h.r.tag+1).toNat:Nat):Int)=h.r.tag+1:=aa
  have a8:=a7.U5 Du (λh=>{h with un:=h.un++[(h.r.tag.toNat,(nm,m))]}) rfl rfl (o:=aU aW (jB l (h.r.tag+1) (.agg #[pV (A.queue nm),iV m.seq,sV m.key,sV m.body,.bool m.again]) kk) (jN l (h.r.tag+1) kk))
   ⟨_,_,rfl,d1,d2.trans (by simp only[List.map_append,List.map_cons,List.map_nil,et];exact List.perm_append_comm (l₁:=[_]))⟩
  have f8:=a8.bX (h:={h with r:={h.r with tag:=h.r.tag+1},un:=h.un++[((h.r.tag+1).toNat,(nm,m))]}) (by rw[jY,Du];simp);have x8:=a8.eK;simp only at x8;refine⟨jf f8 x8,?_⟩;refine aJ f8 ?_;refine an aI ao ⟨by simp[up],?_⟩
  have es:n.hand id no nm m false=((n.cN id no λr=>{r with tag:=r.tag+1}).bK nm λq=>{q with held:=q.held+1}).bC id no λh=>{h with un:=h.un++[(h.r.tag.toNat,(nm,m))]}:=by have e1:∀(n:N) (f:HN->HN) (g:QN->QN),(n.bK nm g).bC id no f=(n.bC id no f).bK nm g:=λ_ _ _=>rfl;rw[e1];unfold N.hand N.cN;rw[Nt,if_neg Bool.false_ne_true]
  rw[es];exact a8.oW
end
section
variable {n:N}{no:Nat}{h:HN}{nm:List UInt8}{c:CN}{k:Int}{m:aR}{na:Bool}
variable {id:Int}
def PE (hc:n.ar id=some c):∃c',(n.hand id no nm m na).ar id=some c'/\c'.r=c.r:=by
 unfold N.hand;split
 ·simp[hc]
 ·simp[hc]
def Rf (hh:n.h? id no=some h):∃h',(n.hand id no nm m na).h? id no=some h'/\h'.r={h.r with tag:=h.r.tag+1}:=by
 unfold N.hand;split
 ·simp[hh]
 ·simp[hh]
def V1:(n.hand id no nm m na).x? k=n.x? k:=by unfold N.hand;split<;>rfl
end
section
variable {E:Env prog}{U:Hp}{J:Hp}{a:Nat}{s:Int}{H:Hid}{n:N}{X:Ext}{no:Nat}{h:HN}{nm:List UInt8}{c:CN}{q:QN}{k:Int}{x:XN}{o:Obj}{e:Nat}{cl:Nat}{me:Nat}{m:aR}{na:Bool}
variable {A:Lay}{id:Int}
def aqj {fr:Nat}(a:aq A H n X U)(hx:n.x? k=some x)(hc:n.ar x.id=some c)(hh:n.h? x.id x.no=some h)(hq:n.q? x.q=some q)(b1:0<=h.r.tag/\h.r.tag<=1000000000000)(b2:0<=q.held/\q.held<=1000000)(iZ:∀e∈h.un,(e.1:Int)≠h.r.tag+1)
 (gM:c.r.frame=(fr:Int)) (f1:9<=fr/\fr<=1000000) (eC:x.no<1000000) (fP:c.r.out.length<=100000000000000) (Ru:m.body.length<=100000) (as1:m.key.length<=1000) (ati:x.tag.length<=1000):
 aw E 328 #[pV (A.chan x.id x.no),pV (A.cons k),m.v] U λe J=>e=.returned (.tuple #[])/\aq A H (n.take k m) X J:=by
 show aw E 328 #[pV (A.chan x.id x.no),pV (A.cons k),.agg #[iV m.seq,sV m.key,sV m.body,.bool m.again]] U _;refine aV func328 ntmps328 results328 λQ aD an aB=>?_;obtain⟨tg,Bs⟩:∃tg:Nat,h.r.tag=(tg:Int):=⟨h.r.tag.toNat,aa⟩;refine ag ?_;refineλb5 lZ=>?_;refine ag ?_;have a5:=λo=>a.iS lZ o;have x5:=λo=>(a5 o).eK;simp only at x5;have c5:=λo=>(a5 o).vK hx;refine bJ 12 ?_;refine bu c5 x5 ?_;refine aL (Rq (m:=m) (na:=x.fJ) (a5 _) hh hq b1 b2 iZ) ?_;rintro v J ⟨hv,a6⟩;have Jy:h.r.tag+1=((tg+1:Nat):Int):=aa;obtain rfl:v=iV ((tg+1:Nat):Int):=by rw[<-Jy];injection hv
 obtain⟨c6,iA,sQ⟩:=PE (n:=n) (no:=x.no) (nm:=x.q) (m:=m) (na:=x.fJ) hc;obtain⟨h6,pe,eh6⟩:=Rf (n:=n) (nm:=x.q) (m:=m) (na:=x.fJ) hh;have uE:(n.hand x.id x.no x.q m x.fJ).x? k=some x:=by rw[V1];exact hx
 have x6:=a6.eK;simp only at x6;refine⟨jf x6 (a6.vK uE),?_⟩;refine ag ?_;refine bJ 23 ?_;refine bN (a6.bX pe) (a6.vK uE) x6 ?_;refineλbn cD=>?_;have a7:=λo=>a6.fresh cD o;have x7:=λo=>(a7 o).eK;simp only at x7;have h7:=λo=>(a7 o).bX pe;have c7:=λo=>(a7 o).vK uE;refine⟨dJ h7,?_⟩;refine ag ?_;refine aL (pQ (ch:=x.no) (cl:=60) (me:=60) (xs:=[.text x.tag,.mM (tg+1),.flag m.again,.text m.key]) (a7 _) iA (.inr ⟨bn,rfl,aX⟩) ?_ al aa ai ai ?_ (by rw[sQ];omega)) ?_
 ·simp[lr];omega
 ·simp[dg,eJ,bH];omega
 rintro v τ8 ⟨hv,a8⟩
 cases hv
 have aH:(ck x.no 60 60 [.text x.tag,.mM (tg+1),.flag m.again,.text m.key]).length<=3000:=by rw[Jd];simp[dg,eJ,bH];omega
 generalize hS:ck x.no 60 60 [.text x.tag,.mM (tg+1),.flag m.again,.text m.key]=S at a8 aH;have Dv:((n.hand x.id x.no x.q m x.fJ).send x.id S).h? x.id x.no=some h6:=by rw[pY];exact pe
 have zi:((n.hand x.id x.no x.q m x.fJ).send x.id S).ar x.id=some {c6 with r:={c6.r with out:=c6.r.out++S,iu:=(n.hand x.id x.no x.q m x.fJ).clock}}:=by rw[sO,if_pos rfl,iA];rfl
 have hx8:((n.hand x.id x.no x.q m x.fJ).send x.id S).x? k=some x:=by rw[V2];exact uE
 have x8:=a8.eK;simp only at x8;have h8:=a8.bX Dv;have Z9:=a8.vK hx8;have f8:=a8.eQ zi;simp only[sQ,gM]at f8;refine⟨dE h8 Z9 x8,?_⟩;refine ag ?_;refine bJ 19 ?_;refine bN h8 x8 f8 ?_;refine aZ (PH (ch:=x.no) (size:=fr) (body:=m.body) aa f1.1 f1.2 aa) ?_;refine⟨dJ h8,?_⟩;refine ag ?_
 have ae3:(mz x.no m.body fr).length<=1000000:=by unfold mz;have:=Ul x.no (fr-8) aa m.body.length m.body (Nat.le_refl _);simp only[List.length_append,ju,bH];omega
 refine aL (MQ (s:=mz x.no m.body fr) a8 zi (by simp only[List.length_append,sQ];omega)) ?_;rintro v vu ⟨hv,a9⟩
 cases hv
 have x9:=a9.eK;simp only at x9;have KF:(((n.hand x.id x.no x.q m x.fJ).send x.id S).send x.id (mz x.no m.body fr)).h? x.id x.no=some h6:=by rw[pY];exact Dv
 have Dl:∃c9,(((n.hand x.id x.no x.q m x.fJ).send x.id S).send x.id (mz x.no m.body fr)).ar x.id=some c9/\c9.r.frame=fr:=by rw[sO,if_pos rfl,zi];exact⟨_,rfl,by simp only;rw[sQ];exact gM⟩
 obtain⟨c9,Dl,Jv⟩:=Dl;have h9:=a9.bX KF;have f9:=a9.eQ Dl;rw[Jv]at f9;refine⟨dE h9 x9 f9,?_⟩;refine aD dz ao ⟨rfl,?_⟩
 have e:n.take k m=((n.hand x.id x.no x.q m x.fJ).send x.id S).send x.id (mz x.no m.body fr):=by
  unfold N.take;rw[hx];have e1:n.tag x.id x.no=tg:=by unfold N.tag;rw[hh];simp[Bs]
  have e2:(n.hand x.id x.no x.q m x.fJ).frame x.id=fr:=by unfold N.frame;rw[iA];simp[sQ,gM]
  simp only[N.give,e1,e2,hS]
 rw[e];exact a9.oW
end
section
variable {E:Env prog}{U:Hp}{J:Hp}{a:Nat}{b:Nat}{H:Hid}{n:N}{X:Ext}{no:Nat}{h:HN}{nm:List UInt8}{c:CN}{q:QN}{k:Int}{x:XN}{e:Nat}{m:aR}
variable {A:Lay}{id:Int}
def IG (n:N)(nm:List UInt8)(q:QN):Prop:=q.cons.length<=1000/\∀k∈q.cons,∃x h,n.x? k=some x/\x.q=nm/\n.h? x.id x.no=some h
def oU (A:Lay)(n:N)(k:Int):ib:=match n.x? k with
 |some x=>⟨A.cons k,A.chan x.id x.no,k,x.tag,x.fJ,match n.h? x.id x.no with|some h=>h.r.free h.un.length|none=>false⟩
 |none=>⟨0,0,k,[],false,false⟩
def aaW:(oU A n k).may=n.may k:=by
 unfold oU N.may ib.may
 cases n.x? k with
 |none=>rfl
 |some x=>simp only[];cases n.h? x.id x.no<;>rfl
def aaX:(oU A n k).no=k:=by unfold oU;cases n.x? k<;>rfl
def aqt (cs:List Int)(last:Int):Ca (cs.map (oU A n)) last=(((cs.filter n.may).find? λk=>decide (k>last)).or (cs.filter n.may).head?).map (oU A n):=by
 unfold Ca
 have e1:(cs.map (oU A n)).filter ib.may=(cs.filter n.may).map (oU A n):=by rw[List.filter_map];congr 1;apply List.filter_congr;intro k _;exact aaW
 rw[e1,List.find?_map];have e2:((λx:ib=>decide (x.no>last))∘oU A n)=λk=>decide (k>last):=by funext k;simp[aaX]
 rw[e2]
 cases(cs.filter n.may).find? λk=>decide (k>last)with
 |some k=>rfl
 |none=>cases cs.filter n.may<;>rfl
def aqu (a:aq A H n X U)(hq:n.q? nm=some q)(T:IG n nm q):
 aw E 89 #[pV (A.queue nm)] U λe J=>e=.returned (match n.vq q with|some k=>pV (A.cons k)|none=>.pointer none)/\J=U:=by
 have hv:=a.iy hq
 have ev:(q.cons.map λk=>pV (A.cons k))=(q.cons.map (oU A n)).map λx=>pV x.cb:=by rw[List.map_map];apply List.map_congr_left;intro k hk;obtain⟨x,h,hx,_⟩:=T.2 k hk;simp[oU,hx]
 rw[ev]at hv;refine(aqs (a.queue hq) hv (λy hy=>?_) (by simpa using T.1)).mono ?_
 ·obtain⟨k,hk,rfl⟩:=List.mem_map.1 hy;obtain⟨x,h,hx,zG,hh⟩:=T.2 k hk;obtain⟨l,c,h1,h2,h3⟩:=a.un hh;have hlen:l.length=h.un.length:=by have:=h3.length_eq;simpa using this
  refine⟨?_,A.conn x.id,A.un x.id x.no,A.co x.id x.no,c,x.no,h.r,l,?_,?_,?_⟩
  ·have:=a.cons hx;rw[zG]at this;simpa[oU,hx]using this
  ·simpa[oU,hx]using a.chan hh
  ·exact h1
  ·simp[oU,hx,hh,hlen]
 ·rintro e J ⟨rfl,rfl⟩;refine⟨?_,rfl⟩;rw[aqt];unfold N.vq
  cases hz:((q.cons.filter n.may).find? λk=>decide (k>q.last)).or (q.cons.filter n.may).head? with
  |none=>rfl
  |some k=>
   have hk:k∈q.cons:=by
    cases hf:(q.cons.filter n.may).find? λk=>decide (k>q.last)with
    |some j=>rw[hf,Option.some_or]at hz;cases hz;exact(List.mem_filter.1 (List.mem_of_find?_eq_some hf)).1
    |none=>
     rw[hf,Option.none_or]at hz;obtain⟨l,hl⟩:=List.head?_eq_some_iff.1 hz;have:k∈q.cons.filter n.may:=by rw[hl];simp
     exact(List.mem_filter.1 this).1
   obtain⟨x,h,hx,_⟩:=T.2 k hk;simp[rh,oU,hx]
def TM {ms:List aR}(a:aq A H n X U)(hq:n.q? nm=some q)(hr:q.ready=m::ms)(hn:ms.length<=1000):
 aw E 90 #[pV (A.queue nm)] U λe J=>e=.returned (.tuple #[m.v,.bool true])/\At A (n.bK nm λq=>{q with ready:=q.ready.tail}) X J:=by
 refine(akA (a.queue hq) (by rw[<-hr];exact a.ft hq) hn).mono ?_;rintro e J ⟨rfl,jj,hm,hle,b,off,T8,n1,n1',c1,vG,e1,e2⟩;refine⟨rfl,H.jP nm jj,?_⟩;have:=a.aiH hq (rv:=jj) (λq=>{q with ready:=q.ready.tail}) rfl (by rw[e1];rfl) (by rw[e2];rfl) (by simp only;rw[hr];exact hm) (by rw[e1,e2];rfl);exact this.le hle
end
end Go.Qw
