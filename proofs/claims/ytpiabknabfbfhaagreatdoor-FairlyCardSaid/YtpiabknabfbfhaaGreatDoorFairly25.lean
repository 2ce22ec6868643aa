/- Part 25. -/
import Derived.Sort.AssemblyPlain
import Derived.Test.YtpiabknabfbfhaaGreatDoorFairly24
set_option linter.all false
set_option maxRecDepth 100000
set_option maxHeartbeats 8000000
namespace Go.Qw
open Go Go.Conc Go.Proofs Go.Proofs.Tryz
section
open Go.Sort
def EE:List UInt8:=(List.range 256).map λi=>(bitsLen i).toUInt8
def ao9:∀m<256,(pr EE m).toNat<=8/\0<=pr EE m/\(1<=m->2^(pr EE m).toNat<=2*m):=ir
variable {n:Nat}{x:Int}
def UK{L:List UInt8}(hL:L=EE)(hn:n<256)(hT:pr L n=x):∃k:Nat,x=(k:Int)/\k<=8/\(1<=n->2^k<=2*n):=by subst hL;subst hT;have:=ao9 n hn;exact⟨(pr EE n).toNat,aa,this.1,this.2.2⟩
variable {E:Env prog}{σ:Hp}
def aio(hn:n<=65535):ay E 172 #[.int .u64 n] σ λe' ae=>(∃k:Nat,k<=300/\(1<=n->2^k<=2*n)/\e'=.returned (.int .i64 k))/\ae=σ:=by
 refine aW func172 ntmps172 results172 λQ aC an aA=>?_;have k1:¬(4294967296:Int)<=n:=aa;have k2:¬(65536:Int)<=n:=aa;by_cases h:n<256
 ·have k3:¬(256:Int)<=n:=aa;have w8:IntKind.wrap .u8 (n:Int)=n:=by rw[IntKind.wrap_u8];omega
  refine fB k1 k2 k3 w8 ?_;refine⟨⟨aa,?_⟩,?_⟩
  ·show(n:Int)<256;omega
  refine ag ?_;generalize hT:pr _ n=x;obtain⟨k,rfl,hk,hp⟩:=UK ir h hT;clear hT;have w9:IntKind.i64.wrap (k:Int)=k:=wrap64 aa aa;have EJ:IntKind.i64.wrap (0+(k:Int))=(k:Int):=cI;refine bt w9 EJ ?_;exact an aI ao ⟨⟨k,aa,hp,by simp[up]⟩,rfl⟩
 ·have k3:(256:Int)<=n:=aa;obtain⟨q,hq⟩:∃q,q=n/256:=⟨_,rfl⟩
  have hs:xQ .u64 (n:Int) 8=(q:Int):=by show Int.fdiv (n:Int) (2^8)=_;rw[Int.fdiv_eq_ediv_of_nonneg _ ai];omega
  have w8:IntKind.wrap .u8 (q:Int)=q:=by rw[IntKind.wrap_u8];omega
  refine lO k1 k2 k3 hs w8 ?_;refine⟨⟨aa,?_⟩,?_⟩
  ·show(q:Int)<256;omega
  refine ag ?_;generalize hT:pr _ q=x;obtain⟨k,rfl,hk,hp⟩:=UK ir aa hT;clear hT;have w9:IntKind.i64.wrap (k:Int)=k:=wrap64 aa aa;have w11:IntKind.i64.wrap 8=8:=wrap64 ai ai;have EJ:IntKind.i64.wrap (8+(k:Int))=((k+8:Nat):Int):=cI;refine bO w9 w11 EJ ?_;refine an aI ao ⟨⟨k+8,aa,λ_=>?_,by simp[up]⟩,rfl⟩;have:=hp aa;rw[Nat.pow_add];omega
def Sq(hn:n<=65535):ay E 135 #[.int .u64 n] σ λe' ae=>(∃k:Nat,k<=300/\(1<=n->2^k<=2*n)/\e'=.returned (.int .i64 k))/\ae=σ:=by
 refine aW func135 ntmps135 results135 λQ aC an aA=>?_;refine ag ?_;refine dC ab8 (aio hn) ?_ (λch ae ⟨⟨_,_,_,h⟩,_⟩=>by cases h);rintro v τ ⟨⟨k,h1,h2,hv⟩,rfl⟩
 cases hv
 refine ag ?_;exact an aI ao ⟨⟨k,h1,h2,by simp[up]⟩,rfl⟩
def aqg(z:Int):0<=IntKind.wrap .u64 z/\IntKind.wrap .u64 z<18446744073709551616:=by rw[IntKind.wrap_u64];omega
def aqp(x y:Int):0<=HM .u64 x y/\HM .u64 x y<18446744073709551616:=aqg _
def V8{m:Nat}(hm:m<18446744073709551616):∃k:Nat,B3 .u64 x (m:Int)=k/\k<=m:=by
 refine⟨(BitVec.ofInt 64 x&&&BitVec.ofInt 64 (m:Int)).toNat,?_,?_⟩
 ·unfold B3;have h:=(BitVec.ofInt 64 x&&&BitVec.ofInt 64 (m:Int)).isLt;show IntKind.wrap .u64 (((BitVec.ofInt 64 x&&&BitVec.ofInt 64 (m:Int)).toNat:Nat):Int)=_;rw[IntKind.wrap_u64];omega
 ·rw[BitVec.toNat_and]
  have e:(BitVec.ofInt 64 (m:Int)).toNat=m:=by rw[BitVec.ofInt_natCast,BitVec.toNat_ofNat];omega
  rw[e];exact Nat.and_le_right
def aly(h1:1<=n)(hn:n<=65535):ay E 210 #[iV n] σ λe' ae=>(∃m:Nat,1<=m/\m<=2*n/\e'=.returned (.int .u64 m))/\ae=σ:=by
 refine aW func210 ntmps210 results210 λQ aC an aA=>?_;have w1:IntKind.wrap .u64 (n:Int)=n:=by rw[IntKind.wrap_u64];omega
 refine aG w1 ?_;refine dC PT (Sq hn) ?_ (λch ae ⟨⟨_,_,_,h⟩,_⟩=>by cases h);rintro v τ ⟨⟨k,hk,hp,hv⟩,rfl⟩
 cases hv
 have hp:=hp h1;have k0:(0:Int)<=k:=aa
 have aeJ:k<=17:=by
  by_cases h:k<=17
  ·exact h
  ·have:2^18<=2^k:=Nat.pow_le_pow_right ai aa;omega
 have hs:BD .u64 1 (k:Int)=((2^k:Nat):Int):=by
  unfold BD;have e1:min (k:Int).toNat (IntKind.bits .u64)=k:=by show min k 64=k;omega
  rw[e1,Int.one_mul,IntKind.wrap_u64];have:((2:Int)^k)=((2^k:Nat):Int):=al;rw[this];clear this aeJ;generalize 2^k=m at*;omega
 refine bt k0 hs ?_;exact an aI ao ⟨⟨2^k,Nat.one_le_two_pow,hp,by simp[up]⟩,rfl⟩
def aqo{rb et:Nat}(hr:σ.f rb=some (.cells #[.int .u64 x] et (0,0))):ay E 211 #[pV rb] σ λe' ae=>∃y:Int,(0<=y/\y<18446744073709551616)/\e'=.returned (.int .u64 y)/\ae=σ.set rb (.cells #[.int .u64 y] et (0,0)):=by
 refine aW func211 ntmps211 results211 λQ aC an aA=>?_;have f1:∀(H:Hp) o,(H.set rb o).f rb=some o:=λ_ o=>Hp.bD _ _;refine ag ?_;refine bG 10 ?_;refine aG hr ?_;refine⟨dG hr,?_⟩
 try simp only[go_sem,seval]
 refine bG 10 ?_
 try simp only[go_sem,seval,f1]
 refine⟨dG f1,?_⟩
 try simp only[go_sem,seval]
 refine bG 10 ?_
 try simp only[go_sem,seval,f1]
 refine⟨dG f1,?_⟩
 try simp only[go_sem,seval,f1]
 refine an aI ao ⟨_,aqp _ _,by simp[up];rfl,?_⟩
 first|rfl|(rw[Hp.set_set];rfl)|(rw[Hp.set_set,Hp.set_set];rfl)
end
variable {E:Env prog}{σ τ:Hp}{d:List Int}{pad:List Value}{blk cap a b:Nat}
def XY(M:Mx σ blk d pad τ)(di:a+12<b)(hb:b<=d.length)(hn:d.length<=65535):
 ay E 164 #[dS blk d.length cap,iV a,iV b] τ λe τ=>e=.returned (.tuple #[])/\Mx σ blk d pad τ:=by
 refine aW func164 ntmps164 results164 λQ aC an aA=>?_;have sk:∀x,de (iV x)=true:=λ_=>rfl;obtain⟨l,hl⟩:∃l,l=b-a:=⟨_,rfl⟩;obtain⟨q,hq⟩:∃q,q=l/4:=⟨_,rfl⟩;have w1:IntKind.i64.wrap ((b:Int)-(a:Int))=(l:Int):=cI;have k8:(8:Int)<=l:=aa;have wu:IntKind.wrap .u64 (l:Int)=l:=by rw[IntKind.wrap_u64];omega
 have w4:IntKind.i64.wrap ((l:Int).tdiv 4)=(q:Int):=by
  have:(l:Int).tdiv 4=(q:Int):=by rw[hq];rfl
  rw[this,wrap64 aa aa]
 obtain⟨q2,gD⟩:∃q2,q2=q*2:=⟨_,rfl⟩;have m2:IntKind.i64.wrap ((q:Int)*2)=(q2:Int):=cI;obtain⟨j,hj⟩:∃j,j=a+q2:=⟨_,rfl⟩;have s2:IntKind.i64.wrap ((a:Int)+(q2:Int))=(j:Int):=cI;have s3:IntKind.i64.wrap ((j:Int)-1)=((j-1:Nat):Int):=cI;have s4:=fF j;obtain⟨HV,af9⟩:∃HV,HV=τ:=⟨_,rfl⟩;refine bO w1 k8 wu ?_;refineλrb vC=>?_;have LK:blk≠rb:=λe=>by obtain⟨L,_,_,h,_⟩:=M.two (i:=0) (j:=0) aa aa;rw[e,vC]at h;cases h
 have f1:∀(H:Hp) o,(H.set rb o).f rb=some o:=λ_ o=>Hp.bD _ _;refine aG f1 ?_;rw[Hp.set_set];refine dC acf (aly aa aa) ?_ (λch ae ⟨⟨_,_,_,h⟩,_⟩=>by cases h);rintro v _ ⟨⟨m,oM,yU,hv⟩,rfl⟩
 cases hv
 obtain⟨mm,ru⟩:∃mm,mm=m-1:=⟨_,rfl⟩;have wm:IntKind.wrap .u64 ((m:Int)-1)=(mm:Int):=by rw[IntKind.wrap_u64];omega
 refine fB w4 m2 s2 s3 ?_;refine dh (λk ρ ds ae=>ds=[]/\(ρ 0=dS blk d.length cap/\ρ 1=iV a/\ρ 6=iV l/\ρ 7=pV rb/\ρ 8=.int .u64 m)/\∃(i:Nat) (x:Int) (τ:Hp),k=j+2-i/\ρ 9=iV i/\j-1<=i/\i<=j+2/\Mx σ blk d pad τ/\τ.f rb=none/\ae=τ.set rb (.cells #[.int .u64 x] 342 (0,0))) (j+2-(j-1)) ?_ ?_
 ·refine⟨rfl,⟨?_,?_,?_,?_,?_⟩,j-1,l,τ,rfl,?_,aa,aa,M,vC,rfl⟩<;>exact au
 clear M vC af9 HV;rintro k ρ ds _ Y ⟨rfl,⟨h0,h1,h6,h7,h8⟩,i,x,τ,rfl,h9,l9,J2,M,vC,rfl⟩ hY;refine fG λK1 oH=>?_;by_cases hle:i<=j+1
 ·have c0:(i:Int)<=((j+1:Nat):Int):=aa;refine pT h1 h6 h9 w4 m2 s2 s4 c0 ?_;refine oH _ _ _ (fG λK2 pD=>BK (fG λK3 ri=>?_));refine aG h7 ?_;refine aL (aqo (f1 _ _)) ?_;rintro v _ ⟨y,hy,hv,rfl⟩
  cases hv
  obtain⟨o,ho,Rt⟩:=V8 (x:=y) (m:=mm) aa;have wo:IntKind.i64.wrap (o:Int)=o:=wrap64 aa aa;refine fB h8 wm ho wo ?_;refine ri _ _ _ (fG λK4 tD=>?_)
  have tail:∀(ρ:av) (z:Nat),ρ 0=dS blk d.length cap->ρ 1=iV a->ρ 6=iV l->ρ 7=pV rb->ρ 8=.int .u64 m->ρ 9=iV i->ρ 10=iV z->z<l->K4 ρ [] (τ.set rb (.cells #[.int .u64 y] 342 (0,0))):=by
   clear h0 h1 h6 h7 h8 h9 ρ;intro ρ z h0 h1 h6 h7 h8 h9 bA hz;refine tD _ _ _ ?_;obtain⟨p,hp⟩:∃p,p=a+z:=⟨_,rfl⟩;have wz:IntKind.i64.wrap ((a:Int)+(z:Int))=(p:Int):=cI;have w5:=fF i;obtain⟨L,x,y',fb,cx,cy,gx,gy,l1,l2,M2⟩:=M.two (i:=i) (j:=p) aa aa;have fa:(τ.set rb (.cells #[.int .u64 y] 342 (0,0))).f blk=some (.cells L.toArray 3 (0,0)):=(Hp.az LK).trans fb;refine ag ?_;refine bG 20 ?_;simp only[go_sem,seval,h0,h1,h9,bA,wz,cx,cy,fa,gx,gy,sk,l1];refine⟨dA fa gx gy,?_⟩;refine ag ?_;refine⟨l2,?_⟩;refine⟨dA fa gx gy,?_⟩;refine ag ?_;refine pD _ _ _ ?_;refine bt h9 w5 ?_
   try rw[Hp.set_set]
   rw[Hp.set_comm LK.symm];refine hY (j+2-(i+1)) _ _ _ _ aa ⟨rfl,⟨?_,?_,?_,?_,?_⟩,i+1,y,_,rfl,?_,aa,aa,M2,by rw[Hp.az LK.symm];exact vC,rfl⟩ ao<;>exact pW h0 h1 h6 h7 h8
  by_cases sA:l<=o
  ·have c1:(l:Int)<=o:=aa;obtain⟨t,ht⟩:∃t,t=o-l:=⟨_,rfl⟩;have wt:IntKind.i64.wrap ((o:Int)-(l:Int))=(t:Int):=cI;refine bO h6 c1 wt ?_;refine tail _ t ?_ ?_ ?_ ?_ ?_ ?_ ?_ aa<;>exact Hw h0 h1 h6 h7 h8 h9
  ·have c1:¬(l:Int)<=o:=aa;refine bt h6 c1 ?_;refine tail _ o ?_ ?_ ?_ ?_ ?_ ?_ ?_ aa<;>exact Hw h0 h1 h6 h7 h8 h9
 ·have c0:¬(i:Int)<=((j+1:Nat):Int):=aa;refine pT h1 h6 h9 w4 m2 s2 s4 c0 ?_;exact aC du (λb o h=>(Hp.az λe=>by rw[e,vC]at h;cases h).trans h) ⟨rfl,M⟩
def PS(blk n cap a b i k:Nat)(ρ:av):Prop:=ρ 0=dS blk n cap/\ρ 1=iV a/\ρ 2=iV b/\ρ 7=iV i/\ρ 8=iV k
variable {E:Env prog}{σ τ:Hp}{d:List Int}{pad:List Value}{blk cap a b:Nat}
theorem alc (M:Mx σ blk d pad τ)(di:a+12<b)(hb:b<=d.length)(hn:d.length<=1000000):
 ay E 167 #[dS blk d.length cap,iV a,iV b] τ λe τ=>(∃r:Bool,e=.returned (.bool r))/\Mx σ blk d pad τ:=by
 refine aW func167 ntmps167 results167 λQ aC an aA=>?_;have sk:∀x,de (iV x)=true:=λ_=>rfl;have wa:=fF a;have U3:IntKind.i64.wrap ((b:Int)-(a:Int))=((b-a:Nat):Int):=cI;refine aG wa ?_;refine dh (λs ρ ds ae=>ds=[]/\∃(i n8:Nat),PS blk d.length cap a b i n8 ρ/\n8+s=5/\a<i/\i<=b/\Mx σ blk d pad ae) 5 ⟨rfl,a+1,0,⟨?_,?_,?_,?_,?_⟩,rfl,aa,aa,M⟩ ?_
 iterate 4 simp only[go_sem,seval]
 ·exact au
 clear M;rintro s ρ ds τ Y ⟨rfl,i,n8,⟨h0,h1,h2,h7,h8⟩,h5,CK,C6,M⟩ hY;refine fG λK0 Jo=>?_
 cases s with
 |zero=>
  have c0:¬(n8:Int)<5:=aa;refine bt h8 c0 ?_;exact an aI ao ⟨⟨_,by simp[up];rfl⟩,M⟩
 |succ s=>
  have c0:(n8:Int)<5:=aa;have wn:=fF n8;refine bt h8 c0 ?_;refine Jo _ _ _ (fG λK1 oH=>BK (fG λK2 pD=>?_))
  have EF:∀(ρ:av) (i2:Nat),PS blk d.length cap a b i2 n8 ρ->a<i2->i2<=b->K2 ρ [] τ:=by
   clear h0 h1 h2 h7 h8 ρ;rintro ρ i2 ⟨h0,h1,h2,h7,h8⟩ CK C6
   have next:∀(ρ:av) (τ:Hp),PS blk d.length cap a b i2 n8 ρ->Mx σ blk d pad τ->K1 ρ [] τ:=by rintro ρ τ ⟨h0,h1,h2,h7,h8⟩ M;refine oH _ _ _ ?_;refine bt h8 wn ?_;refine hY s _ _ _ _ aa ⟨rfl,i2,n8+1,⟨?_,?_,?_,?_,?_⟩,aa,aa,aa,M⟩ ao<;>exact iB h0 h1 h2 h7
   refine pD _ _ _ (fG λK3 ri=>?_);by_cases arK:i2=b
   ·have c1:(i2:Int)=b:=aa;refine bO h2 h7 c1 ?_;exact an aI ao ⟨⟨_,by simp[up];rfl⟩,M⟩
   have c1:¬(i2:Int)=b:=aa;refine bO h2 h7 c1 ?_;refine ri _ _ _ (fG λK4 tD=>?_);by_cases vn:b-a<50
   ·have c2:((b-a:Nat):Int)<50:=aa;refine fB h1 h2 U3 c2 ?_;exact an aI ao ⟨⟨_,by simp[up];rfl⟩,M⟩
   have c2:¬((b-a:Nat):Int)<50:=aa;refine fB h1 h2 U3 c2 ?_;refine tD _ _ _ (fG λK5 Az=>?_);obtain⟨i1,l9⟩:∃i1,i1=i2-1:=⟨_,rfl⟩;have wi:IntKind.i64.wrap ((i2:Int)-1)=(i1:Int):=cI;have EJ:=fF i2;obtain⟨ia,hia⟩:∃ia,ia=i2-a:=⟨_,rfl⟩;have U6:IntKind.i64.wrap ((i2:Int)-(a:Int))=(ia:Int):=cI;obtain⟨bi,arC⟩:∃bi,bi=b-i2:=⟨_,rfl⟩;have U4:IntKind.i64.wrap ((b:Int)-(i2:Int))=(bi:Int):=cI;refine ag ?_;obtain⟨L,x,y,fa,cx,cy,gx,gy,l1,l2,M2⟩:=M.two (i:=i2) (j:=i1) aa aa;refine bG 18 ?_;simp only[go_sem,seval,h0,h7,wi,cx,cy,fa,gx,gy,sk,l1];refine⟨dA fa gx gy,?_⟩;refine ag ?_;refine⟨l2,?_⟩;refine⟨dA fa gx gy,?_⟩;refine ag ?_
   try rw[Hp.set_set]
   refine Az _ _ _ (fG λK6 FD=>?_);clear M;generalize τ.set blk _=τ at*
   have MA:∀(ρ:av) (τ:Hp),PS blk d.length cap a b i2 n8 ρ->Mx σ blk d pad τ->K6 ρ [] τ:=by
    clear h0 h1 h2 h7 h8 M2 ρ τ;rintro ρ τ ⟨h0,h1,h2,h7,h8⟩ M;refine FD _ _ _ ?_;by_cases rj:2<=bi
    ·have c3:(2:Int)<=bi:=aa;refine fB h2 h7 U4 c3 ?_;refine dh (λm ρ ds ae=>ds=[]/\PS blk d.length cap a b i2 n8 ρ/\∃k:Nat,m=b-k/\ρ 10=iV k/\1<=k/\k<=b/\Mx σ blk d pad ae) (b-(i2+1)) ⟨rfl,⟨?_,?_,?_,?_,?_⟩,i2+1,rfl,?_,aa,aa,M⟩ ?_
     iterate 6 simp only[go_sem,seval,h0,h1,h2,h7,h8,EJ]
     clear M h0 h1 h2 h7 h8 ρ τ;rintro m ρ ds τ X ⟨rfl,⟨h0,h1,h2,h7,h8⟩,k,rfl,gk,iO,sB,M⟩ hX;by_cases J5:k<b
     ·have c0:(k:Int)<b:=aa;obtain⟨p,hp⟩:∃p,p=k-1:=⟨_,rfl⟩;have wk:IntKind.i64.wrap ((k:Int)-1)=(p:Int):=cI;have MS:=fF k;refine bO h2 gk c0 ?_;obtain⟨L,x,y,fa,cx,cy,gx,gy⟩:=M.rd.two (i:=k) (j:=p) aa aa;refine bG 11 ?_;refine pT h0 gk wk cx cy fa gx gy ?_;refine aR oS ?_;refine⟨dA fa gx gy,?_⟩
      cases decide (x<y)with
      |false=>
       refine ag ?_;refine next _ _ ⟨?_,?_,?_,?_,?_⟩ M<;>exact pW h0 h1 h2 h7 h8
      |true=>
       refine ag ?_;clear fa cx cy gx gy;obtain⟨L,x,y,fa,cx,cy,gx,gy,l1,l2,M2⟩:=M.two (i:=k) (j:=p) aa aa;refine bG 18 ?_;simp only[go_sem,seval,h0,gk,wk,cx,cy,fa,gx,gy,sk,l1];refine⟨dA fa gx gy,?_⟩;refine ag ?_;refine⟨l2,?_⟩;refine⟨dA fa gx gy,?_⟩;refine bt gk MS ?_
       try rw[Hp.set_set]
       refine hX _ _ _ _ _ aa ⟨rfl,⟨?_,?_,?_,?_,?_⟩,k+1,rfl,?_,aa,aa,M2⟩ ao<;>exact pW h0 h1 h2 h7 h8
     ·have c0:¬(k:Int)<b:=aa;refine bO h2 gk c0 ?_;refine next _ _ ⟨?_,?_,?_,?_,?_⟩ M<;>exact pW h0 h1 h2 h7 h8
    ·have c3:¬(2:Int)<=bi:=aa;refine fB h2 h7 U4 c3 ?_;refine next _ _ ⟨?_,?_,?_,?_,?_⟩ M<;>exact pW h0 h1 h2 h7 h8
   have M:=M2;by_cases hi3:2<=ia
   ·have c4:(2:Int)<=ia:=aa;refine fB h1 h7 U6 c4 ?_;refine dh (λk ρ ds ae=>ds=[]/\PS blk d.length cap a b i2 n8 ρ/\ρ 9=iV k/\k<b/\Mx σ blk d pad ae) i1 ⟨rfl,⟨?_,?_,?_,?_,?_⟩,?_,aa,M⟩ ?_
    iterate 6 simp only[go_sem,seval,h0,h1,h2,h7,h8,wi]
    clear M M2 h0 h1 h2 h7 h8 ρ τ;rintro k ρ ds τ X ⟨rfl,⟨h0,h1,h2,h7,h8⟩,gk,sB,M⟩ hX;by_cases J5:1<=k
    ·have c0:(1:Int)<=k:=aa;obtain⟨p,hp⟩:∃p,p=k-1:=⟨_,rfl⟩;have wk:IntKind.i64.wrap ((k:Int)-1)=(p:Int):=cI;refine bt gk c0 ?_;obtain⟨L,x,y,fa,cx,cy,gx,gy⟩:=M.rd.two (i:=k) (j:=p) aa aa;refine bG 11 ?_;refine pT h0 gk wk cx cy fa gx gy ?_;refine aR oS ?_;refine⟨dA fa gx gy,?_⟩
     cases decide (x<y)with
     |false=>
      refine ag ?_;refine MA _ _ ⟨?_,?_,?_,?_,?_⟩ M<;>exact pW h0 h1 h2 h7 h8
     |true=>
      refine ag ?_;clear fa cx cy gx gy;obtain⟨L,x,y,fa,cx,cy,gx,gy,l1,l2,M2⟩:=M.two (i:=k) (j:=p) aa aa;refine bG 18 ?_;simp only[go_sem,seval,h0,gk,wk,cx,cy,fa,gx,gy,sk,l1];refine⟨dA fa gx gy,?_⟩;refine ag ?_;refine⟨l2,?_⟩;refine⟨dA fa gx gy,?_⟩;refine bt gk wk ?_
      try rw[Hp.set_set]
      refine hX p _ _ _ _ aa ⟨rfl,⟨?_,?_,?_,?_,?_⟩,?_,aa,M2⟩ ao<;>exact pW h0 h1 h2 h7 h8
    ·have c0:¬(1:Int)<=k:=aa;refine bt gk c0 ?_;refine MA _ _ ⟨?_,?_,?_,?_,?_⟩ M<;>exact pW h0 h1 h2 h7 h8
   ·have c4:¬(2:Int)<=ia:=aa;refine fB h1 h7 U6 c4 ?_;refine MA _ _ ⟨?_,?_,?_,?_,?_⟩ M<;>exact pW h0 h1 h2 h7 h8
  refine BK (dh (λm ρ ds ae=>ds=[]/\ae=τ/\∃k:Nat,PS blk d.length cap a b k n8 ρ/\m=b-k/\a<k/\k<=b) (b-i) ⟨rfl,rfl,i,⟨?_,?_,?_,?_,?_⟩,rfl,CK,C6⟩ ?_)
  iterate 5 simp only[go_sem,seval,h0,h1,h2,h7,h8]
  clear h0 h1 h2 h7 h8 ρ;rintro m ρ ds _ X ⟨rfl,rfl,k,⟨h0,h1,h2,h7,h8⟩,rfl,Qr,sB⟩ hX;refine ag ?_;refine bG 16 ?_;by_cases hle:k<b
  ·have c1:(k:Int)<b:=aa;obtain⟨k1,iO⟩:∃k1,k1=k-1:=⟨_,rfl⟩;have wk:IntKind.i64.wrap ((k:Int)-1)=(k1:Int):=cI;have MS:=fF k;obtain⟨L,x,y,fa,cx,cy,gx,gy⟩:=M.rd.two (i:=k) (j:=k1) aa aa;simp only[go_sem,seval,h0,h2,h7,c1,wk,cx,cy,fa,gx,gy];refine aR oS ?_;refine⟨dA fa gx gy,?_⟩
   cases decide (x<y)with
   |false=>
    refine bt h7 MS ?_;refine hX (b-(k+1)) _ _ _ _ aa ⟨rfl,rfl,k+1,⟨?_,?_,?_,?_,?_⟩,rfl,aa,aa⟩ ao<;>exact iB h0 h1 h2 h8
   |true=>
    refine ag ?_;refine EF _ k ⟨?_,?_,?_,?_,?_⟩ Qr sB<;>exact pW h0 h1 h2 h7 h8
  ·have c1:¬(k:Int)<b:=aa;refine bO h2 h7 c1 ?_;refine EF _ k ⟨?_,?_,?_,?_,?_⟩ Qr sB<;>exact pW h0 h1 h2 h7 h8
def PR(blk n cap a b l:Nat)(wb wp:Bool)(k:Nat)(ρ:av):Prop:=ρ 0=dS blk n cap/\ρ 1=iV a/\ρ 2=iV b/\ρ 3=iV l/\ρ 8=.bool wb/\ρ 9=.bool wp/\ρ 10=iV k
variable {E:Env prog}{σ τ:Hp}{d:List Int}{pad:List Value}{blk cap a b:Nat}
theorem alm:∀(m:Nat) {τ:Hp} {a b lim:Nat},b-a<=m->a<=b->b<=d.length->d.length<=65535->lim<=1000000->Mx σ blk d pad τ->
 ay E 134 #[dS blk d.length cap,iV a,iV b,iV lim] τ λe τ=>e=.returned (.tuple #[])/\Mx σ blk d pad τ:=by
 intro m
 induction m using Nat.strongRecOn with
 |_ m ih=>
 intro τ a b lim hm di hb hn fM M;refine aW func134 ntmps134 results134 λQ aC an aA=>?_;refine ag ?_;refine dh (λk ρ ds ae=>ds=[]/\∃(a' b' um:Nat) (wb wp:Bool),k=b'-a'/\(ρ 0=dS blk d.length cap/\ρ 1=iV a'/\ρ 2=iV b'/\ρ 3=iV um/\ρ 8=.bool wb/\ρ 9=.bool wp)/\a<=a'/\a'<=b'/\b'<=b/\um<=1000000/\Mx σ blk d pad ae) (b-a) ?_ ?_
 ·refine⟨rfl,a,b,lim,true,true,rfl,⟨?_,?_,?_,?_,?_,?_⟩,Nat.le_refl _,di,Nat.le_refl _,fM,M⟩<;>exact au
 clear M;rintro k ρ ds τ Y ⟨rfl,a',b',um,wb,wp,rfl,⟨h0,h1,h2,h3,h8,h9⟩,haa,FK,eS,Gd,M⟩ hY;obtain⟨n,Kh⟩:∃n,n=b'-a':=⟨_,rfl⟩;have w1:IntKind.i64.wrap ((b':Int)-(a':Int))=(n:Int):=cI;refine BK (fG λK1 oH=>?_);refine bO h1 h2 w1 ?_;refine oH _ _ _ (fG λK2 pD=>?_);clear oH;by_cases oF:n<=12
 ·have c1:(n:Int)<=12:=aa;refine fB h0 h1 h2 c1 ?_;refine aL (agv M FK aa aa) ?_;rintro v τ ⟨hv,M⟩
  cases hv
  refine ag ?_;exact an du ao ⟨rfl,M⟩
 have c1:¬(n:Int)<=12:=aa;refine aG c1 ?_;refine pD _ _ _ (fG λK3 ri=>?_);clear pD;by_cases lD:um=0
 ·have c2:(um:Int)=0:=aa;refine lO h0 h1 h2 h3 c2 ?_;refine aL (aee M aa aa aa) ?_;rintro v τ ⟨hv,M⟩
  cases hv
  refine ag ?_;exact an du ao ⟨rfl,M⟩
 have c2:¬(um:Int)=0:=aa;refine bt h3 c2 ?_;refine ri _ _ _ (fG λK4 tD=>?_);clear ri
 have tail:∀(ρ:av) (l1:Nat) (τ:Hp),PR blk d.length cap a' b' l1 wb wp n ρ->l1<=1000000->Mx σ blk d pad τ->K4 ρ [] τ:=by
  clear h0 h1 h2 h3 h8 h9 M ρ τ;rintro ρ l1 τ ⟨h0,h1,h2,h3,h8,h9,bA⟩ fL M;refine tD _ _ _ (fG λK5 Az=>?_);clear tD;refine bO h0 h1 h2 ?_;refine dC ab4 (ZA (cap:=cap) M.rd aa aa aa) ?_ (λch ae ⟨⟨_,_,_,h⟩,_⟩=>by cases h);rintro v _ ⟨⟨pv,hv,⟨p1,p2⟩,hr⟩,rfl⟩;obtain rfl:v=.tuple #[iV pv,iV hv]:=by injection hr
  simp only[go_sem,seval];refine Az _ _ _ (fG λK6 FD=>?_);clear Az
  have EF:∀(ρ:av) (pv:Nat) (hv:Int) (τ:Hp),PR blk d.length cap a' b' l1 wb wp n ρ->ρ 11=iV pv->ρ 12=iV hv->a'<=pv->pv<b'->Mx σ blk d pad τ->K6 ρ [] τ:=by
   clear h0 h1 h2 h3 h8 h9 bA M p1 p2 hr ρ τ pv hv;rintro ρ pv hv τ ⟨h0,h1,h2,h3,h8,h9,bA⟩ bP Jc p1 p2 M;refine FD _ _ _ (fG λK7 Qd=>?_);clear FD
   have Hv:∀(ρ:av) (τ:Hp),PR blk d.length cap a' b' l1 wb wp n ρ->ρ 11=iV pv->Mx σ blk d pad τ->K7 ρ [] τ:=by
    clear h0 h1 h2 h3 h8 h9 bA bP Jc M ρ τ;rintro ρ τ ⟨h0,h1,h2,h3,h8,h9,bA⟩ bP M;refine Qd _ _ _ (fG λK8 hK8=>?_);clear Qd
    have UM:∀ρ:av,PR blk d.length cap a' b' l1 wb wp n ρ->ρ 11=iV pv->K8 ρ [] τ:=by
     clear h0 h1 h2 h3 h8 h9 bA bP ρ;rintro ρ ⟨h0,h1,h2,h3,h8,h9,bA⟩ bP;refine hK8 _ _ _ ?_;refine fB h0 h1 h2 bP ?_;refine dC ab7 (ale (cap:=cap) M aa aa aa p1 p2) ?_ (λch ae ⟨⟨_,_,_,_,h⟩,_⟩=>by cases h);rintro v τ ⟨⟨rG,ap,m1,m2,hr⟩,M⟩
     cases hr
     obtain⟨ll,arT⟩:∃ll,ll=rG-a':=⟨_,rfl⟩;obtain⟨rl,AU⟩:∃rl,rl=b'-rG:=⟨_,rfl⟩;obtain⟨q8,Dl⟩:∃q8,q8=n/8:=⟨_,rfl⟩;have wl:IntKind.i64.wrap ((rG:Int)-(a':Int))=(ll:Int):=cI;have wr:IntKind.i64.wrap ((b':Int)-(rG:Int))=(rl:Int):=cI
     have w8:IntKind.i64.wrap ((n:Int).tdiv 8)=(q8:Int):=by
      have:(n:Int).tdiv 8=(q8:Int):=by rw[Dl];rfl
      rw[this,wrap64 aa aa]
     have wm:=fF rG;by_cases hlr:ll<rl
     ·have k1:(ll:Int)<rl:=aa;simp only[go_sem,seval,h0,h1,h2,h3,bA,wl,wr,w8,k1];refine aL (ih (m-1) aa aa aa aa aa fL M) ?_;rintro v τ ⟨hv,M⟩
      cases hv
      refine aG wm ?_;refine hY _ _ _ _ _ aa ⟨rfl,rG+1,b',l1,decide ((q8:Int)<=ll),ap,rfl,⟨?_,?_,?_,?_,?_,?_⟩,aa,aa,eS,fL,M⟩ ao<;>exact nC h0 h2 h3
     ·have k1:¬(ll:Int)<rl:=aa;simp only[go_sem,seval,h0,h1,h2,h3,bA,wl,wr,w8,k1,wm];refine aL (ih (m-1) aa aa aa aa aa fL M) ?_;rintro v τ ⟨hv,M⟩
      cases hv
      refine ag ?_;refine hY _ _ _ _ _ aa ⟨rfl,a',rG,l1,decide ((q8:Int)<=rl),ap,rfl,⟨?_,?_,?_,?_,?_,?_⟩,aa,aa,aa,fL,M⟩ ao<;>exact nC h0 h1 h3
    refine ag ?_;refine bG 15 ?_;by_cases tE:a'=0
    ·have k0':¬(0:Int)<a':=aa;refine bt h1 k0' ?_;refine UM _ ⟨?_,?_,?_,?_,?_,?_,?_⟩ ?_<;>exact s7 h0 h1 h2 h3 h8 h9 bA bP
    ·have k0:(0:Int)<a':=aa;obtain⟨a1,da⟩:∃a1,a1=a'-1:=⟨_,rfl⟩;have wa:IntKind.i64.wrap ((a':Int)-1)=(a1:Int):=cI;obtain⟨L,x,y,fa,cx,cy,gx,gy⟩:=M.rd.two (i:=a1) (j:=pv) aa aa;simp only[go_sem,seval,h0,h1,bP,k0,wa,cx,cy,fa,gx,gy];refine aR oS ?_;refine⟨dA fa gx gy,?_⟩
     cases decide (x<y)with
     |true=>
      refine ag ?_;refine UM _ ⟨?_,?_,?_,?_,?_,?_,?_⟩ ?_<;>exact s7 h0 h1 h2 h3 h8 h9 bA bP
     |false=>
      refine fB h0 h1 h2 bP ?_;refine dC ab6 (ald (cap:=cap) M aa aa aa p1 p2) ?_ (λch ae ⟨⟨_,_,_,h⟩,_⟩=>by cases h);rintro v τ ⟨⟨rG,m1,m2,hr⟩,M⟩
      cases hr
      refine ag ?_;refine hY _ _ _ _ _ aa ⟨rfl,rG,b',l1,wb,wp,rfl,⟨?_,?_,?_,?_,?_,?_⟩,aa,aa,eS,fL,M⟩ ao<;>exact pW h0 h2 h3 h8 h9
   cases wb with
   |false=>
    refine aG h8 ?_;refine Hv _ _ ⟨?_,?_,?_,?_,?_,?_,?_⟩ ?_ M<;>exact s7 h0 h1 h2 h3 h8 h9 bA bP
   |true=>
    cases wp with
    |false=>
     refine bt h8 h9 ?_;refine Hv _ _ ⟨?_,?_,?_,?_,?_,?_,?_⟩ ?_ M<;>exact s7 h0 h1 h2 h3 h8 h9 bA bP
    |true=>
     by_cases mL:hv=1
     ·refine Es h0 h1 h2 h8 h9 Jc mL ?_;refine dC ab5 (alc (cap:=cap) M aa aa aa) ?_ (λch ae ⟨⟨_,h⟩,_⟩=>by cases h);rintro v τ ⟨⟨r,hr⟩,M⟩
      cases hr
      cases r with
      |true=>
       refine ag ?_;exact an du ao ⟨rfl,M⟩
      |false=>
       refine ag ?_;refine Hv _ _ ⟨?_,?_,?_,?_,?_,?_,?_⟩ ?_ M<;>exact s7 h0 h1 h2 h3 h8 h9 bA bP
     ·refine fB h8 h9 Jc mL ?_;refine Hv _ _ ⟨?_,?_,?_,?_,?_,?_,?_⟩ ?_ M<;>exact s7 h0 h1 h2 h3 h8 h9 bA bP
  by_cases kK:hv=2
  ·obtain⟨x1,vH⟩:∃x1,x1=b'-1:=⟨_,rfl⟩;obtain⟨x2,sF⟩:∃x2,x2=pv-a':=⟨_,rfl⟩;have wx1:IntKind.i64.wrap ((b':Int)-1)=(x1:Int):=cI;have wx2:IntKind.i64.wrap ((pv:Int)-(a':Int))=(x2:Int):=cI;have wx3:IntKind.i64.wrap ((x1:Int)-(x2:Int))=((x1-x2:Nat):Int):=cI;refine fB h0 h1 h2 kK ?_;refine aL (am6 M aa aa aa FK) ?_;rintro v τ ⟨hv,M⟩
   cases hv
   refine lO h1 h2 wx1 wx2 wx3 ?_;refine EF _ (x1-x2) 1 _ ⟨?_,?_,?_,?_,?_,?_,?_⟩ ?_ ?_ aa aa M<;>exact Hx h0 h1 h2 h3 h8 h9 bA
  ·refine aG kK ?_;refine EF _ pv hv _ ⟨?_,?_,?_,?_,?_,?_,?_⟩ ?_ ?_ p1 p2 M<;>exact Hx h0 h1 h2 h3 h8 h9 bA
 cases wb with
 |true=>
  refine aG h8 ?_;refine tail _ um _ ⟨?_,?_,?_,?_,?_,?_,?_⟩ Gd M<;>exact Hw h0 h1 h2 h3 h8 h9
 |false=>
  have wl:IntKind.i64.wrap ((um:Int)-1)=((um-1:Nat):Int):=cI;refine fB h0 h1 h2 h8 ?_;refine aL (XY M aa aa aa) ?_;rintro v τ ⟨hv,M⟩
  cases hv
  refine bt h3 wl ?_;refine tail _ (um-1) _ ⟨?_,?_,?_,?_,?_,?_,?_⟩ aa M<;>exact pW h0 h1 h2 h8 h9
variable {xs:List Int}{v:Value}
def alk{k:Nat}(hk:k<=300)(h:Sl 3 σ (xs.map aV) v)(hn:xs.length<=1000):
 ay E 134 #[v,.int .i64 0,.int .i64 xs.length,.int .i64 k] σ λe τ=>e=.returned (.tuple #[])/\∃ys,ys.Perm xs/\(xs.length<=12->dM jN ys)/\Sl 3 τ (ys.map aV) v/\rS σ τ v:=by
 by_cases oF:xs.length<=12
 ·exact(alj h oF).mono λe τ ⟨h1,ys,h2,h3,h4⟩=>⟨h1,ys,h2,λ_=>h3,h4⟩
 rcases h.form with⟨h0,_⟩|⟨a,pad,h1,h2⟩
 ·exact absurd (by simp at h0;simp[h0]) oF
 ·have hp:=alm (E:=E) (σ:=σ) (d:=xs) (pad:=pad) (blk:=a) (cap:=(xs.map aV).length+pad.length) xs.length (τ:=σ) (a:=0) (b:=xs.length) (lim:=k) aa aa aa aa aa ⟨xs,.refl _,(Hp.Hk h2).symm⟩;have ev:v=dS a xs.length ((xs.map aV).length+pad.length):=by rw[h1];simp only[List.length_map]
  rw[ev];refine ay.mono hp ?_;rintro e τ ⟨rfl,ys,p,rfl⟩;have hl:=p.length_eq;refine⟨rfl,ys,p,λh=>absurd h oF,?_,λb hb=>Hp.az (hb _ _ _ rfl)⟩;have:=Sl.at (ety:=3) (σ:=σ.set a (.cells (ys.map aV++pad).toArray 3 (0,0))) (xs:=ys.map aV) a pad aY;rw[List.length_map,hl]at this;rw[List.length_map];exact this
def aoc(h:Sl 3 σ (xs.map aV) v)(hn:xs.length<=1000):
 ay E 81 #[v] σ λe τ=>e=.returned (.tuple #[])/\∃ys,ys.Perm xs/\(xs.length<=12->dM jN ys)/\Sl 3 τ (ys.map aV) v/\rS σ τ v:=by
 refine aW func81 ntmps81 results81 λQ aC an aA=>?_
 obtain⟨base,cap,rfl⟩:∃base cap,v=.slice base xs.length cap:=by
  generalize hk:xs.map aV=ks at h;have hl:ks.length=xs.length:=by rw[<-hk];simp
  cases h with
  |nil h0=>exact⟨none,0,by rw[<-hl,h0];rfl⟩
  |«at»a pad ha=>exact⟨_,_,by rw[hl]⟩
 have cu:IntKind.u64.wrap (xs.length:Int)=xs.length:=by have:((xs.length:Int) % 18446744073709551616)=xs.length:=aa;simpa[IntKind.wrap,IntKind.bits,IntKind.signed]using this
 refine aG cu ?_;refine dC PT (Sq aa) ?_ (λch ae ⟨⟨_,_,_,h⟩,_⟩=>by cases h);rintro w ae ⟨⟨k,hk,_,hw⟩,rfl⟩
 cases hw
 refine ag ?_;refine aL (alk hk h hn) ?_;rintro w τ ⟨hw,eN⟩
 cases hw
 refine ag ?_;exact aC du ao ⟨rfl,eN⟩
variable {n:Nat}{f:FuncId}{tc:TypeId}{bm m c:Nat}{l:List (Int×Value×Nat)}
def aoh(hY:Yields f (λe:Int×Value×Nat=>aV e.1) aV tc)(hg:cf prog f=true)(dF:σ.f bm=some (.cells #[.map (some m)] tc (0,0)))(hm:σ.f m=some (aU aV l c))(hold:∀e∈l,e.2.2<c)(hn:(l.map (·.2.2)).Nodup)(gq:l.length<=1000):
 ay E 47 #[.func (.func f) #[] #[pV bm]] σ λe τ=>σ.le τ/\∃v ys,e=.returned v/\ys.Perm (l.map (·.1))/\(l.length<=12->dM jN ys)/\Sl 3 τ (ys.map aV) v/\∀a n c,v=.slice (some a) n c->σ.f a.block=none:=by
 refine aW func47 ntmps47 results47 λQ aC an aA=>?_;refine ag ?_;refine aL (ZR hY hg dF hm hold hn aa (λ_ _=>rfl)) ?_;rintro v τ ⟨hle,v',ks,hv,h1,h2,h3⟩
 cases hv
 obtain⟨xs,k1,rfl⟩:=zn h1 (xs:=l.map (·.1)) (f:=aV) al;refine ag ?_;have hlen:xs.length<=1000:=by rw[k1.length_eq];simpa using gq
 refine aL (aoc h2 hlen) ?_;rintro w cC ⟨hw,ys,p1,p2,p3,p4⟩
 cases hw
 refine ag ?_;refine an aI ao ⟨?_,v,ys,rfl,p1.trans k1,λh=>p2 (by rw[k1.length_eq];simpa using h),p3,h3⟩;intro b o hb;rw[p4 b (λa n c e e2=>by have:=h3 a n c e;rw[<-e2,hb]at this;cases this)];exact hle b o hb
def Mn(hY:Yields f (λe:Int×Value×Nat=>aV e.1) aV tc)(hg:cf prog f=true)(dF:σ.f bm=none)(hm:σ.f m=some (aU aV l c))(hold:∀e∈l,e.2.2<c)(hn:(l.map (·.2.2)).Nodup)(gq:l.length<=1000):
 ay E 47 #[.func (.func f) #[] #[pV bm]] (σ.set bm (.cells #[.map (some m)] tc (0,0))) λe τ=>σ.le τ/\∃v ys,e=.returned v/\ys.Perm (l.map (·.1))/\(l.length<=12->dM jN ys)/\Sl 3 τ (ys.map aV) v/\∀a n c,v=.slice (some a) n c->σ.f a.block=none:=by
 have aE:m≠bm:=bp hm dF;refine(aoh hY hg aY (by rw[Hp.aO _ aE];exact hm) hold hn gq).mono ?_;rintro e τ ⟨hle,v,ys,hv,h1,h2,h3,h4⟩;refine⟨?_,v,ys,hv,h1,h2,h3,?_⟩
 ·intro b o hb;have:b≠bm:=bp hb dF;exact hle b o (by rw[Hp.aO _ this];exact hb)
 ·intro a n c e;have:=h4 a n c e;by_cases e2:a.block=bm
  ·rw[e2];exact dF
  ·rw[Hp.aO _ e2]at this;exact this
def ahO:ay E 48 #[.map (some m)] σ λe τ=>∃bm,e=.returned (.func (.func 82) #[] #[pV bm])/\σ.f bm=none/\τ=σ.set bm (.cells #[.map (some m)] 72 (0,0)):=by refine aW func48 ntmps48 results48 λQ aC an aA=>?_;refine ag ?_;refineλbm dF=>?_;refine ag ?_;exact an aI ao ⟨bm,rfl,dF,rfl⟩
def Mm(hm:σ.f m=some (aU aV l c))(hold:∀e∈l,e.2.2<c)(hn:(l.map (·.2.2)).Nodup)(gq:l.length<=1000):
 ay E 33 #[.map (some m)] σ λe τ=>σ.le τ/\∃v ys,e=.returned v/\ys.Perm (l.map (·.1))/\(l.length<=12->dM jN ys)/\Sl 3 τ (ys.map aV) v/\∀a n c,v=.slice (some a) n c->σ.f a.block=none:=by
 refine aW func33 ntmps33 results33 λQ aC an aA=>?_;refine ag ?_;refine aL ahO ?_;rintro w τ ⟨bm,hw,dF,rfl⟩
 cases hw
 refine ag ?_;refine aL (Mn aqw acI dF hm hold hn gq) ?_;rintro v τ ⟨hle,v',ys,hv,hr⟩
 cases hv
 refine ag ?_;exact an aI ao ⟨hle,v,ys,rfl,hr⟩
def ahL:ay E 138 #[.map (some m)] σ λe τ=>∃bm,e=.returned (.func (.func 181) #[] #[pV bm])/\σ.f bm=none/\τ=σ.set bm (.cells #[.map (some m)] 88 (0,0)):=by refine aW func138 ntmps138 results138 λQ aC an aA=>?_;refine ag ?_;refineλbm dF=>?_;refine ag ?_;exact an aI ao ⟨bm,rfl,dF,rfl⟩
def aoi(hm:σ.f m=some (aU aV l c))(hold:∀e∈l,e.2.2<c)(hn:(l.map (·.2.2)).Nodup)(gq:l.length<=1000):
 ay E 87 #[.map (some m)] σ λe τ=>σ.le τ/\∃v ys,e=.returned v/\ys.Perm (l.map (·.1))/\(l.length<=12->dM jN ys)/\Sl 3 τ (ys.map aV) v/\∀a n c,v=.slice (some a) n c->σ.f a.block=none:=by
 refine aW func87 ntmps87 results87 λQ aC an aA=>?_;refine ag ?_;refine aL ahL ?_;rintro w τ ⟨bm,hw,dF,rfl⟩
 cases hw
 refine ag ?_;refine aL (Mn aqt ab9 dF hm hold hn gq) ?_;rintro v τ ⟨hle,v',ys,hv,hr⟩
 cases hv
 refine ag ?_;exact an aI ao ⟨hle,v,ys,rfl,hr⟩
def ahN:ay E 186 #[.map (some m)] σ λe τ=>∃bm,e=.returned (.func (.func 222) #[] #[pV bm])/\σ.f bm=none/\τ=σ.set bm (.cells #[.map (some m)] 273 (0,0)):=by refine aW func186 ntmps186 results186 λQ aC an aA=>?_;refine ag ?_;refineλbm dF=>?_;refine ag ?_;exact an aI ao ⟨bm,rfl,dF,rfl⟩
def Uw(hm:σ.f m=some (aU aV l c))(hold:∀e∈l,e.2.2<c)(hn:(l.map (·.2.2)).Nodup)(gq:l.length<=1000):
 ay E 141 #[.map (some m)] σ λe τ=>σ.le τ/\∃v ys,e=.returned v/\ys.Perm (l.map (·.1))/\(l.length<=12->dM jN ys)/\Sl 3 τ (ys.map aV) v/\∀a n c,v=.slice (some a) n c->σ.f a.block=none:=by
 refine aW func141 ntmps141 results141 λQ aC an aA=>?_;refine ag ?_;refine aL ahN ?_;rintro w τ ⟨bm,hw,dF,rfl⟩
 cases hw
 refine ag ?_;refine aL (Mn aqv aci dF hm hold hn gq) ?_;rintro v τ ⟨hle,v',ys,hv,hr⟩
 cases hv
 refine ag ?_;exact an aI ao ⟨hle,v,ys,rfl,hr⟩
def zG{α:Type}{lt:α->α->Bool}(L:yf lt)(V9:∀{a b},lt a b=false->lt b a=false->a=b):∀{l m:List α},l.Perm m->dM lt l->dM lt m->l=m:=by
 intro l
 induction l with
 |nil=>intro m p _ _;exact(List.nil_perm.1 p).symm
 |cons a l ih=>
  intro m p h1 h2
  cases m with
  |nil=>exact absurd p.symm al
  |cons b m=>
   have di:a=b:=by
    by_cases e:a=b
    ·exact e
    ·have ha:a∈m:=by
      have:=p.mem_iff.1 (List.mem_cons_self (a:=a) (l:=l));rcases List.mem_cons.1 this with h|h
      ·exact absurd h e
      ·exact h
     have hb:b∈l:=by
      have:=p.mem_iff.2 (List.mem_cons_self (a:=b) (l:=m));rcases List.mem_cons.1 this with h|h
      ·exact absurd h.symm e
      ·exact h
     exact V9 ((List.pairwise_cons.1 h2).1 a ha) ((List.pairwise_cons.1 h1).1 b hb)
   subst di;rw[ih ((List.perm_cons a).1 p) (List.pairwise_cons.1 h1).2 (List.pairwise_cons.1 h2).2]
def Fa{a b:Int}(h:jN a b=false)(k:jN b a=false):a=b:=by simp[jN]at h k;omega
def Io{a b:List UInt8}(h:cL a b=false)(k:cL b a=false):a=b:=by
 induction a generalizing b with
 |nil=>cases b with
  |nil=>rfl
  |cons y b=>simp[cL,Op.bytesLess]at h
 |cons x a ih=>cases b with
  |nil=>simp[cL,Op.bytesLess]at k
  |cons y b=>
   simp only[cL,Op.bytesLess,Bool.or_eq_false_iff,decide_eq_false_iff_not,Bool.and_eq_false_iff,beq_eq_false_iff_ne,ne_eq]at h k
   have hxy:x=y:=by have h1:=h.1;have k1:=k.1;exact UInt8.le_antisymm (UInt8.not_lt.1 k1) (UInt8.not_lt.1 h1)
   subst hxy;rw[ih (by rcases h.2 with h|h;exact absurd rfl h;exact h) (by rcases k.2 with h|h;exact absurd rfl h;exact h)]
section
variable {E:Env prog}{σ:Hp}{τ:Hp}{d:List Int}{pad:List Value}{cap:Nat}{a:Nat}{b:Nat}{c:Nat}{n:Nat}{H:Hid}{X:Ext}{no:Nat}{h:HN}
variable {A:Lay}{n:N}{id:Int}
def aq.Nw (a:aq A H n X σ)(l:σ.le τ){b:Nat}{o:Obj}(hb:σ.f b=none)(ho:τ.f b=some o):aq A H n ((b,o)::X) τ:=
 (a.iH hb o).le (λx p hx=>by
  by_cases e:x=b
  ·subst e;rw[Hp.bD]at hx;cases hx;exact ho
  ·rw[Hp.az e]at hx;exact l _ _ hx)
def aq.zY {ety:TypeId}{ys:List Value}{v:Value}(a:aq A H n X σ)(l:σ.le τ)(hs:Sl ety τ ys v)(hf:∀a n c,v=.slice (some a) n c->σ.f a.block=none):
 ∃X',aq A H n X' τ/\∀{A' H' n' ae},aq A' H' n' X' ae->aq A' H' n' X ae/\Sl ety ae ys v:=by
 rcases hs.form with⟨h1,h2⟩|⟨b,pad,h1,h2⟩
 ·exact⟨X,a.le l,λa'=>⟨a',by rw[h2];exact .nil h1⟩⟩
 ·refine⟨(b,.cells (ys++pad).toArray ety (0,0))::X,a.Nw l (hf _ _ _ h1) h2,λa'=>⟨a'.oD,by rw[h1];exact .at b pad a'.eC⟩⟩
def N.jE (n:N)(l:List (List UInt8×Int)):N:=l.foldl (λn e=>n.cancel e.2) n
def N.kE (n:N)(id:Int)(no:Nat)(l:List (Nat×(List UInt8×aX))):N:=l.foldl (λn e=>n.settle id no e.1 true) n
def EU (n:N)(k:Int):Prop:=∃x q,n.x? k=some x/\n.q? x.q=some q/\q.cons.length<=1000000/\∀j∈q.cons,(n.x? j).isSome
def HW (n:N)(id:Int)(no:Nat)(e:Nat×(List UInt8×aX)):Prop:=∃h q,n.h? id no=some h/\bu h.un e.1=some e.2/\n.q? e.2.1=some q/\(1<=q.held/\q.held<=1000000)/\q.ready.length<=1000000/\q.ready.Pairwise λa b=>a.seq<b.seq
structure yc (n:N) (id:Int) (no:Nat) (h:HN):Prop where
 co:dM cL (h.co.map (·.1))
 un:(h.un.map (·.1)).Nodup
 sep:tf h.un
 sM:h.co.length<=12
 DW:h.un.length<=1000
 cancel:∀j (hj:j<h.co.length),EU (n.jE (h.co.take j)) h.co[j].2
 back:∀l e,e∈h.un->(∀x∈l,¬x.1=e.1)->HW (((n.jE h.co).bB id no λh=>{h with co:=[]}).kE id no l) id no e
@[simp] def OM {k:Int}:(n.cancel k).ar id=n.ar id:=by unfold N.cancel;split<;>rfl
@[simp] def Qi {k:Int}:(n.cancel k).h? id no=n.h? id no:=by unfold N.cancel;split<;>rfl
@[simp] def FJ {l:List (List UInt8×Int)}:(n.jE l).h? id no=n.h? id no:=by
 unfold N.jE
 induction l generalizing n with
 |nil=>rfl
 |cons e l ih=>rw[List.foldl_cons,ih,Qi]
@[simp] def ON {l:List (List UInt8×Int)}:(n.jE l).ar id=n.ar id:=by
 unfold N.jE
 induction l generalizing n with
 |nil=>rfl
 |cons e l ih=>rw[List.foldl_cons,ih,OM]
def Y5 {l:List (List UInt8×Int)}{j:Nat}(hj:j<l.length):n.jE (l.take (j+1))=(n.jE (l.take j)).cancel l[j].2:=by unfold N.jE;rw[List.take_succ_eq_append_getElem hj,List.foldl_append];rfl
def anO {l:List (Nat×(List UInt8×aX))}{j:Nat}(hj:j<l.length):n.kE id no (l.take (j+1))=(n.kE id no (l.take j)).settle id no l[j].1 true:=by unfold N.kE;rw[List.take_succ_eq_append_getElem hj,List.foldl_append];rfl
def anN {l m:List (Nat×(List UInt8×aX))}(hp:l.Perm m)(D:∀h,n.h? id no=some h->tf h.un):n.kE id no l=n.kE id no m:=Um (p:=λ_=>true) (b:=true) hp D
def L8 (a:aq A H n X σ){c:CN}(hc:n.ar id=some c)(hh:n.h? id no=some h)(R:yc n id no h):
 ay E 88 #[pV (A.chan id no)] σ λe τ=>e=.returned (.tuple #[])/\At A (n.release id no) X τ:=by
 refine aW func88 ntmps88 results88 λQ aC an aA=>?_;obtain⟨lc,kc,cB,dP,kL⟩:=a.co hh;have AP:lc.length=h.co.length:=by have:=kL.length_eq;simpa using this
 refine aG (a.bW hh) ?_;refine aL (aoe cB dP.old dP.nd (by rw[AP];exact R.sM)) ?_;rintro v τ ⟨hle,v',ys,hv,p1,p2,p3,p4⟩
 cases hv
 obtain rfl:ys=h.co.map (·.1):=by refine zG vR Io (p1.trans ?_) p2 R.co;have:=kL.map (·.1);simpa[List.map_map,Function.comp_def]using this
 obtain⟨X',a1,qO⟩:=a.zY hle p3 p4;obtain⟨base,cap,rfl,_⟩:=p3.read;have hl:(h.co.map (·.1)).length=h.co.length:=al;refine aG hl ?_;refine dh (λm ρ ds ae=>ds=[]/\ρ 0=pV (A.chan id no)/\ρ 10=.slice base h.co.length cap/\ρ 11=iV h.co.length/\∃(j:Nat) (H':Hid),j+m=h.co.length/\ρ 12=iV j/\aq A H' (n.jE (h.co.take j)) X' ae) h.co.length ?_ ?_
 ·refine⟨rfl,?_,?_,?_,0,H,al,?_,a1⟩<;>exact aK hl
 rintro m ρ ds cZ Y ⟨rfl,h0,bA,bP,j,H1,xi,oF,aj⟩ hY;have yP:(n.jE (h.co.take j)).h? id no=some h:=by simp[hh]
 have iN:(n.jE (h.co.take j)).ar id=some c:=by simp[hc]
 cases m with
 |succ m=>
  have hj:j<h.co.length:=aa;have c0:(j:Int)<h.co.length:=aa;obtain⟨_,sj⟩:=qO aj;obtain⟨b2,yv,e2,r2⟩:=sj.read;simp only[Value.slice.injEq]at e2;obtain⟨rfl,_,_⟩:=e2;obtain⟨ba,L,rfl,gO,hL⟩:=r2 j (aZ hj);simp only[List.getElem_map,bR]at hL;have w1:IntKind.i64.wrap ((j:Int)+1)=((j+1:Nat):Int):=by have:=R.sM;rw[wrap64 aa aa];rfl
  simp only[go_sem,seval,bA,bP,oF,c0,decide_true];refine⟨aa,?_⟩;refine bt gO hL ?_;refine bG 17 ?_;refine fB h0 (aj.bW yP) (aj.eu iN) aj.jH ?_;obtain⟨lj,kj,mM,qC,xg⟩:=aj.co yP;obtain⟨x,q,hx,hq,Dn,oN⟩:=R.cancel j hj;obtain⟨st,bw⟩:=rE qC xg (List.mem_map_of_mem (f:=λe:List UInt8×Int=>(e.1,pV (A.cons e.2))) (List.getElem_mem hj));refine jM (b:=A.co id no) (k:=h.co[j].1) (l:=lj) (c:=kj) zg (z:=.pointer none) ah ?_ mM ?_ ?_
  ·exact au
  ·exact au
  have dk:((dn lj h.co[j].1).map (·.2.1)).getD (.pointer none)=pV (A.cons h.co[j].2):=by rw[bw];rfl
  rw[if_neg Bool.false_ne_true,dk];refine⟨by(repeat(first|exact js|(apply jr;(focus decide+kernel))|(refine kS rfl (nC (aj.bW yP) (aj.eu iN) aj.jH) ?_))),?_⟩;refine ag ?_;refine aL (Oy aj oN hx hq Dn) ?_;rintro v2 cM ⟨lH,H2,a2⟩
  cases lH
  have eY:((n.jE (h.co.take j)).cancel h.co[j].2).h? id no=some h:=by simp[hh]
  have Qy:((n.jE (h.co.take j)).cancel h.co[j].2).ar id=some c:=by simp[hc]
  have a2c:=a2.bW eY;have a2d:∃z,cM.f (A.conn id)=some (.cells (([pV A.gw]:List Value)++z).toArray 90 (0,0)):=⟨_,a2.eu Qy⟩;refine⟨by(repeat(first|exact js|(apply jr;(focus decide+kernel))|(refine kS rfl (nC (a2.bW eY) (a2.eu Qy) a2.jH) ?_))),?_⟩;refine bt oF w1 ?_;refine hY m _ _ _ _ aa ⟨rfl,?_,?_,?_,j+1,H2,aa,?_,by rw[Y5 hj];exact a2⟩ ao
  ·exact aK h0
  ·exact aK bA
  ·exact aK bP
  ·exact au
 |zero=>
  have c0:¬(j:Int)<h.co.length:=aa;have vv:j=h.co.length:=aa;rw[vv,List.take_length]at aj yP iN;obtain⟨lj,kj,mM,qC,xg⟩:=aj.co yP;simp only[go_sem,seval,h0,bP,oF,c0,decide_false,aj.bW yP];refine ZI (b:=A.co id no) (f:=bR) (l:=lj) (c:=kj) (d:=.map 9 186) ah ?_ mM ?_
  ·exact au
  have a3:=(qO aj).1.Md yP (λh=>{h with co:=[]}) rfl rfl (o:=aU bR [] kj) ⟨[],kj,rfl,aiX,al⟩;have yN:((n.jE h.co).bB id no λh=>{h with co:=[]}).h? id no=some {h with co:=[]}:=by simp[hh]
  obtain⟨lu,ku,xr,za,xt⟩:=a3.un yN;have yT:lu.length=h.un.length:=by have:=xt.length_eq;simpa using this
  refine bt h0 (a3.bW yN) ?_;refine aL (Uw xr za.old za.nd (by rw[yT];exact R.DW)) ?_;rintro v fH ⟨nR,v',ys,hv,p1,_,p3,p4⟩
  cases hv
  obtain⟨ts,vE,rfl⟩:=zn (p1.trans (by have:=xt.map (·.1);simpa[List.map_map,Function.comp_def]using this)) (xs:=h.un) (f:=λe=>((e.1:Nat):Int)) rfl;have hl:=vE.length_eq;obtain⟨X2,a4,zt⟩:=a3.zY nR p3 p4;obtain⟨B5,qY,rfl,_⟩:=p3.read;have gR:(ts.map λe=>((e.1:Nat):Int)).length=ts.length:=al;refine aG gR ?_;refine dh (λm ρ ds ae=>ds=[]/\ρ 0=pV (A.chan id no)/\ρ 42=.slice B5 ts.length qY/\ρ 43=iV ts.length/\∃(j:Nat) (H':Hid),j+m=ts.length/\ρ 44=iV j/\aq A H' (((n.jE h.co).bB id no λh=>{h with co:=[]}).kE id no (ts.take j)) X2 ae) ts.length ?_ ?_
  ·refine⟨rfl,?_,?_,?_,0,H1,al,?_,a4⟩<;>exact wG h0 gR
  clear hY h0 bA bP oF;rintro m ρ ds dr Y ⟨rfl,h0,P6,vm,j,H5,xi,tA,aj⟩ hY;have w1:IntKind.i64.wrap ((j:Int)+1)=((j+1:Nat):Int):=by have:=R.DW;rw[wrap64 aa aa];rfl
  cases m with
  |succ m=>
   have hj:j<ts.length:=aa;have c0:(j:Int)<ts.length:=aa;obtain⟨_,sj⟩:=zt aj;obtain⟨b2,yv,e2,r2⟩:=sj.read;simp only[Value.slice.injEq]at e2;obtain⟨rfl,_,_⟩:=e2;obtain⟨ba,L,rfl,gO,hL⟩:=r2 j (aZ hj);simp only[List.getElem_map,aV]at hL;obtain⟨h',q,dT,ij,hq,b1,Ae,hs⟩:=R.back (ts.take j) ts[j] (vE.mem_iff.1 (List.getElem_mem hj)) (GZ ((vE.map (·.1)).nodup_iff.2 R.un) hj);simp only[go_sem,seval,P6,vm,tA,c0,decide_true];refine⟨aa,?_⟩;refine bO gO hL h0 ?_;refine aL (Uo (nm:=ts[j].2.1) (m:=ts[j].2.2) aj dT ij hq b1 Ae hs) ?_;rintro v2 cM ⟨lH,H2,a2⟩
   cases lH
   refine bt tA w1 ?_;refine hY m _ _ _ _ aa ⟨rfl,?_,?_,?_,j+1,H2,aa,?_,by rw[anO hj];exact a2⟩ ao
   ·exact aK h0
   ·exact aK P6
   ·exact aK vm
   ·exact au
  |zero=>
   have c0:¬(j:Int)<ts.length:=aa;have vv:j=ts.length:=aa;rw[vv,List.take_length]at aj;simp only[go_sem,seval,vm,tA,c0,decide_false];refine aC du ao ⟨rfl,H5,?_⟩;have e:n.release id no=((n.jE h.co).bB id no λh=>{h with co:=[]}).kE id no h.un:=by unfold N.release;rw[hh];rfl
   rw[e,<-anN vE λg hg=>by cases yN.symm.trans hg;exact R.sep];exact(zt aj).1
end
end Go.Qw
