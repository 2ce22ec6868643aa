/- 25 -/
import Derived.Sort.AssemblyPlain
import Derived.Test.YtpiabknabfbfhaaGreatDoorFramed24
set_option linter.all false
set_option maxRecDepth 100000
set_option maxHeartbeats 8000000
namespace Go.Qw
open Go Go.Conc Go.Proofs Go.Proofs.Tryz
section
open Go.Sort
def EJ:List UInt8:=(List.range 256).map λi=>(bitsLen i).toUInt8
def apq:∀m<256,(nP EJ m).toNat<=8/\0<=nP EJ m/\(1<=m->2^(nP EJ m).toNat<=2*m):=kE
variable {n:Nat}{x:Int}
def UP{L:List UInt8}(hL:L=EJ)(hn:n<256)(hT:nP L n=x):∃k:Nat,x=(k:Int)/\k<=8/\(1<=n->2^k<=2*n):=by subst hL;subst hT;have:=apq n hn;exact⟨(nP EJ n).toNat,aa,this.1,this.2.2⟩
variable {E:Env prog}{U:Hp}
def aiG(hn:n<=65535):aw E 172 #[.int .u64 n] U λe' ae=>(∃k:Nat,k<=300/\(1<=n->2^k<=2*n)/\e'=.returned (.int .i64 k))/\ae=U:=by
 refine aX func172 ntmps172 results172 λQ aB al az=>?_;have k1:¬(4294967296:Int)<=n:=aa;have k2:¬(65536:Int)<=n:=aa;by_cases h:n<256
 ·have k3:¬(256:Int)<=n:=aa;have w8:IntKind.wrap .u8 (n:Int)=n:=by rw[IntKind.wrap_u8];omega
  refine fA k1 k2 k3 w8 ?_;refine⟨⟨aa,?_⟩,?_⟩
  ·show(n:Int)<256;omega
  refine ag ?_;generalize hT:nP _ n=x;obtain⟨k,rfl,hk,hp⟩:=UP kE h hT;clear hT;have w9:IntKind.i64.wrap (k:Int)=k:=wrap64 aa aa;have EO:IntKind.i64.wrap (0+(k:Int))=(k:Int):=cX;refine bq w9 EO ?_;exact al aG ao ⟨⟨k,aa,hp,by simp[up]⟩,rfl⟩
 ·have k3:(256:Int)<=n:=aa;obtain⟨q,hq⟩:∃q,q=n/256:=⟨_,rfl⟩
  have hs:xS .u64 (n:Int) 8=(q:Int):=by show Int.fdiv (n:Int) (2^8)=_;rw[Int.fdiv_eq_ediv_of_nonneg _ an];omega
  have w8:IntKind.wrap .u8 (q:Int)=q:=by rw[IntKind.wrap_u8];omega
  refine ln k1 k2 k3 hs w8 ?_;refine⟨⟨aa,?_⟩,?_⟩
  ·show(q:Int)<256;omega
  refine ag ?_;generalize hT:nP _ q=x;obtain⟨k,rfl,hk,hp⟩:=UP kE aa hT;clear hT;have w9:IntKind.i64.wrap (k:Int)=k:=wrap64 aa aa;have w11:IntKind.i64.wrap 8=8:=wrap64 an an;have EO:IntKind.i64.wrap (8+(k:Int))=((k+8:Nat):Int):=cX;refine bR w9 w11 EO ?_;refine al aG ao ⟨⟨k+8,aa,λ_=>?_,by simp[up]⟩,rfl⟩;have:=hp aa;rw[Nat.pow_add];omega
def Su(hn:n<=65535):aw E 135 #[.int .u64 n] U λe' ae=>(∃k:Nat,k<=300/\(1<=n->2^k<=2*n)/\e'=.returned (.int .i64 k))/\ae=U:=by
 refine aX func135 ntmps135 results135 λQ aB al az=>?_;refine ag ?_;refine dI acF (aiG hn) ?_ (λch ae ⟨⟨_,_,_,h⟩,_⟩=>by cases h);rintro v R ⟨⟨k,h1,h2,hv⟩,rfl⟩
 cases hv
 refine ag ?_;exact al aG ao ⟨⟨k,h1,h2,by simp[up]⟩,rfl⟩
def aqC(z:Int):0<=IntKind.wrap .u64 z/\IntKind.wrap .u64 z<18446744073709551616:=by rw[IntKind.wrap_u64];omega
def aqL(x y:Int):0<=HU .u64 x y/\HU .u64 x y<18446744073709551616:=aqC _
def We{m:Nat}(hm:m<18446744073709551616):∃k:Nat,BZ .u64 x (m:Int)=k/\k<=m:=by
 refine⟨(BitVec.ofInt 64 x&&&BitVec.ofInt 64 (m:Int)).toNat,?_,?_⟩
 ·unfold BZ;have h:=(BitVec.ofInt 64 x&&&BitVec.ofInt 64 (m:Int)).isLt;show IntKind.wrap .u64 (((BitVec.ofInt 64 x&&&BitVec.ofInt 64 (m:Int)).toNat:Nat):Int)=_;rw[IntKind.wrap_u64];omega
 ·rw[BitVec.toNat_and]
  have e:(BitVec.ofInt 64 (m:Int)).toNat=m:=by rw[BitVec.ofInt_natCast,BitVec.toNat_ofNat];omega
  rw[e];exact Nat.and_le_right
def alP(h1:1<=n)(hn:n<=65535):aw E 210 #[iV n] U λe' ae=>(∃m:Nat,1<=m/\m<=2*n/\e'=.returned (.int .u64 m))/\ae=U:=by
 refine aX func210 ntmps210 results210 λQ aB al az=>?_;have w1:IntKind.wrap .u64 (n:Int)=n:=by rw[IntKind.wrap_u64];omega
 refine aH w1 ?_;refine dI PZ (Su hn) ?_ (λch ae ⟨⟨_,_,_,h⟩,_⟩=>by cases h);rintro v R ⟨⟨k,hk,hp,hv⟩,rfl⟩
 cases hv
 have hp:=hp h1;have k0:(0:Int)<=k:=aa
 have ae8:k<=17:=by
  by_cases h:k<=17
  ·exact h
  ·have:2^18<=2^k:=Nat.pow_le_pow_right an aa;omega
 have hs:BC .u64 1 (k:Int)=((2^k:Nat):Int):=by
  unfold BC;have e1:min (k:Int).toNat (IntKind.bits .u64)=k:=by show min k 64=k;omega
  rw[e1,Int.one_mul,IntKind.wrap_u64];have:((2:Int)^k)=((2^k:Nat):Int):=ak;rw[this];clear this ae8;generalize 2^k=m at*;omega
 refine bq k0 hs ?_;exact al aG ao ⟨⟨2^k,Nat.one_le_two_pow,hp,by simp[up]⟩,rfl⟩
def aqK{rb et:Nat}(hr:U.f rb=some (.cells #[.int .u64 x] et (0,0))):aw E 211 #[pV rb] U λe' ae=>∃y:Int,(0<=y/\y<18446744073709551616)/\e'=.returned (.int .u64 y)/\ae=U.set rb (.cells #[.int .u64 y] et (0,0)):=by
 refine aX func211 ntmps211 results211 λQ aB al az=>?_;have f1:∀(H:Hp) o,(H.set rb o).f rb=some o:=λ_ o=>Hp.bD _ _;refine ag ?_;refine bJ 10 ?_;refine aH hr ?_;refine⟨dL hr,?_⟩
 try simp only[go_sem,seval]
 refine bJ 10 ?_
 try simp only[go_sem,seval,f1]
 refine⟨dL f1,?_⟩
 try simp only[go_sem,seval]
 refine bJ 10 ?_
 try simp only[go_sem,seval,f1]
 refine⟨dL f1,?_⟩
 try simp only[go_sem,seval,f1]
 refine al aG ao ⟨_,aqL _ _,by simp[up];rfl,?_⟩
 first|rfl|(rw[Hp.set_set];rfl)|(rw[Hp.set_set,Hp.set_set];rfl)
end
variable {E:Env prog}{U R:Hp}{d:List Int}{pad:List Value}{blk cap a b:Nat}
def Yr(M:Mx U blk d pad R)(dq:a+12<b)(hb:b<=d.length)(hn:d.length<=65535):
 aw E 164 #[dS blk d.length cap,iV a,iV b] R λe R=>e=.returned (.tuple #[])/\Mx U blk d pad R:=by
 refine aX func164 ntmps164 results164 λQ aB al az=>?_;have sk:∀x,di (iV x)=true:=λ_=>rfl;obtain⟨l,hl⟩:∃l,l=b-a:=⟨_,rfl⟩;obtain⟨q,hq⟩:∃q,q=l/4:=⟨_,rfl⟩;have w1:IntKind.i64.wrap ((b:Int)-(a:Int))=(l:Int):=cX;have k8:(8:Int)<=l:=aa;have wu:IntKind.wrap .u64 (l:Int)=l:=by rw[IntKind.wrap_u64];omega
 have w4:IntKind.i64.wrap ((l:Int).tdiv 4)=(q:Int):=by
  have:(l:Int).tdiv 4=(q:Int):=by rw[hq];rfl
  rw[this,wrap64 aa aa]
 obtain⟨q2,gB⟩:∃q2,q2=q*2:=⟨_,rfl⟩;have m2:IntKind.i64.wrap ((q:Int)*2)=(q2:Int):=cX;obtain⟨j,hj⟩:∃j,j=a+q2:=⟨_,rfl⟩;have s2:IntKind.i64.wrap ((a:Int)+(q2:Int))=(j:Int):=cX;have s3:IntKind.i64.wrap ((j:Int)-1)=((j-1:Nat):Int):=cX;have s4:=fM j;obtain⟨H0,agx⟩:∃H0,H0=R:=⟨_,rfl⟩;refine bR w1 k8 wu ?_;refineλrb vI=>?_;have LR:blk≠rb:=λe=>by obtain⟨L,_,_,h,_⟩:=M.two (i:=0) (j:=0) aa aa;rw[e,vI]at h;cases h
 have f1:∀(H:Hp) o,(H.set rb o).f rb=some o:=λ_ o=>Hp.bD _ _;refine aH f1 ?_;rw[Hp.set_set];refine dI acL (alP aa aa) ?_ (λch ae ⟨⟨_,_,_,h⟩,_⟩=>by cases h);rintro v _ ⟨⟨m,oW,yX,hv⟩,rfl⟩
 cases hv
 obtain⟨mm,rI⟩:∃mm,mm=m-1:=⟨_,rfl⟩;have wm:IntKind.wrap .u64 ((m:Int)-1)=(mm:Int):=by rw[IntKind.wrap_u64];omega
 refine fA w4 m2 s2 s3 ?_;refine cZ (λk I ds ae=>ds=[]/\(I 0=dS blk d.length cap/\I 1=iV a/\I 6=iV l/\I 7=pV rb/\I 8=.int .u64 m)/\∃(i:Nat) (x:Int) (R:Hp),k=j+2-i/\I 9=iV i/\j-1<=i/\i<=j+2/\Mx U blk d pad R/\R.f rb=none/\ae=R.set rb (.cells #[.int .u64 x] 342 (0,0))) (j+2-(j-1)) ?_ ?_
 ·refine⟨rfl,⟨?_,?_,?_,?_,?_⟩,j-1,l,R,rfl,?_,aa,aa,M,vI,rfl⟩<;>exact au
 clear M vI agx H0;rintro k I ds _ Y ⟨rfl,⟨h0,h1,h6,h7,h8⟩,i,x,R,rfl,h9,mh,Ke,M,vI,rfl⟩ hY;refine fG λK1 oQ=>?_;by_cases hle:i<=j+1
 ·have c0:(i:Int)<=((j+1:Nat):Int):=aa;refine rY h1 h6 h9 w4 m2 s2 s4 c0 ?_;refine oQ _ _ _ (fG λK2 pN=>BJ (fG λK3 rz=>?_));refine aH h7 ?_;refine aJ (aqK (f1 _ _)) ?_;rintro v _ ⟨y,hy,hv,rfl⟩
  cases hv
  obtain⟨o,ho,Rt⟩:=We (x:=y) (m:=mm) aa;have wo:IntKind.i64.wrap (o:Int)=o:=wrap64 aa aa;refine fA h8 wm ho wo ?_;refine rz _ _ _ (fG λK4 tN=>?_)
  have tail:∀(I:av) (z:Nat),I 0=dS blk d.length cap->I 1=iV a->I 6=iV l->I 7=pV rb->I 8=.int .u64 m->I 9=iV i->I 10=iV z->z<l->K4 I [] (R.set rb (.cells #[.int .u64 y] 342 (0,0))):=by
   clear h0 h1 h6 h7 h8 h9 I;intro I z h0 h1 h6 h7 h8 h9 bE hz;refine tN _ _ _ ?_;obtain⟨p,hp⟩:∃p,p=a+z:=⟨_,rfl⟩;have wz:IntKind.i64.wrap ((a:Int)+(z:Int))=(p:Int):=cX;have w5:=fM i;obtain⟨L,x,y',fb,cx,cy,gx,gy,l1,l2,M2⟩:=M.two (i:=i) (j:=p) aa aa;have fa:(R.set rb (.cells #[.int .u64 y] 342 (0,0))).f blk=some (.cells L.toArray 3 (0,0)):=(Hp.ay LR).trans fb;refine ag ?_;refine bJ 20 ?_;simp only[go_sem,seval,h0,h1,h9,bE,wz,cx,cy,fa,gx,gy,sk,l1];refine⟨dF fa gx gy,?_⟩;refine ag ?_;refine⟨l2,?_⟩;refine⟨dF fa gx gy,?_⟩;refine ag ?_;refine pN _ _ _ ?_;refine bq h9 w5 ?_
   try rw[Hp.set_set]
   rw[Hp.set_comm LR.symm];refine hY (j+2-(i+1)) _ _ _ _ aa ⟨rfl,⟨?_,?_,?_,?_,?_⟩,i+1,y,_,rfl,?_,aa,aa,M2,by rw[Hp.ay LR.symm];exact vI,rfl⟩ ao<;>exact qf h0 h1 h6 h7 h8
  by_cases xi:l<=o
  ·have c1:(l:Int)<=o:=aa;obtain⟨t,ht⟩:∃t,t=o-l:=⟨_,rfl⟩;have wt:IntKind.i64.wrap ((o:Int)-(l:Int))=(t:Int):=cX;refine bR h6 c1 wt ?_;refine tail _ t ?_ ?_ ?_ ?_ ?_ ?_ ?_ aa<;>exact Hy h0 h1 h6 h7 h8 h9
  ·have c1:¬(l:Int)<=o:=aa;refine bq h6 c1 ?_;refine tail _ o ?_ ?_ ?_ ?_ ?_ ?_ ?_ aa<;>exact Hy h0 h1 h6 h7 h8 h9
 ·have c0:¬(i:Int)<=((j+1:Nat):Int):=aa;refine rY h1 h6 h9 w4 m2 s2 s4 c0 ?_;exact aB dB (λb o h=>(Hp.ay λe=>by rw[e,vI]at h;cases h).trans h) ⟨rfl,M⟩
def PS(blk n cap a b i k:Nat)(I:av):Prop:=I 0=dS blk n cap/\I 1=iV a/\I 2=iV b/\I 7=iV i/\I 8=iV k
variable {E:Env prog}{U R:Hp}{d:List Int}{pad:List Value}{blk cap a b:Nat}
theorem aly (M:Mx U blk d pad R)(dq:a+12<b)(hb:b<=d.length)(hn:d.length<=1000000):
 aw E 167 #[dS blk d.length cap,iV a,iV b] R λe R=>(∃r:Bool,e=.returned (.bool r))/\Mx U blk d pad R:=by
 refine aX func167 ntmps167 results167 λQ aB al az=>?_;have sk:∀x,di (iV x)=true:=λ_=>rfl;have wa:=fM a;have Va:IntKind.i64.wrap ((b:Int)-(a:Int))=((b-a:Nat):Int):=cX;refine aH wa ?_;refine cZ (λs I ds ae=>ds=[]/\∃(i n8:Nat),PS blk d.length cap a b i n8 I/\n8+s=5/\a<i/\i<=b/\Mx U blk d pad ae) 5 ⟨rfl,a+1,0,⟨?_,?_,?_,?_,?_⟩,rfl,aa,aa,M⟩ ?_
 iterate 4 simp only[go_sem,seval]
 ·exact au
 clear M;rintro s I ds R Y ⟨rfl,i,n8,⟨h0,h1,h2,h7,h8⟩,h5,CO,Da,M⟩ hY;refine fG λK0 Jx=>?_
 cases s with
 |zero=>
  have c0:¬(n8:Int)<5:=aa;refine bq h8 c0 ?_;exact al aG ao ⟨⟨_,by simp[up];rfl⟩,M⟩
 |succ s=>
  have c0:(n8:Int)<5:=aa;have wn:=fM n8;refine bq h8 c0 ?_;refine Jx _ _ _ (fG λK1 oQ=>BJ (fG λK2 pN=>?_))
  have EK:∀(I:av) (i2:Nat),PS blk d.length cap a b i2 n8 I->a<i2->i2<=b->K2 I [] R:=by
   clear h0 h1 h2 h7 h8 I;rintro I i2 ⟨h0,h1,h2,h7,h8⟩ CO Da
   have next:∀(I:av) (R:Hp),PS blk d.length cap a b i2 n8 I->Mx U blk d pad R->K1 I [] R:=by rintro I R ⟨h0,h1,h2,h7,h8⟩ M;refine oQ _ _ _ ?_;refine bq h8 wn ?_;refine hY s _ _ _ _ aa ⟨rfl,i2,n8+1,⟨?_,?_,?_,?_,?_⟩,aa,aa,aa,M⟩ ao<;>exact ic h0 h1 h2 h7
   refine pN _ _ _ (fG λK3 rz=>?_);by_cases ar8:i2=b
   ·have c1:(i2:Int)=b:=aa;refine bR h2 h7 c1 ?_;exact al aG ao ⟨⟨_,by simp[up];rfl⟩,M⟩
   have c1:¬(i2:Int)=b:=aa;refine bR h2 h7 c1 ?_;refine rz _ _ _ (fG λK4 tN=>?_);by_cases Cw:b-a<50
   ·have c2:((b-a:Nat):Int)<50:=aa;refine fA h1 h2 Va c2 ?_;exact al aG ao ⟨⟨_,by simp[up];rfl⟩,M⟩
   have c2:¬((b-a:Nat):Int)<50:=aa;refine fA h1 h2 Va c2 ?_;refine tN _ _ _ (fG λK5 Az=>?_);obtain⟨i1,mh⟩:∃i1,i1=i2-1:=⟨_,rfl⟩;have wi:IntKind.i64.wrap ((i2:Int)-1)=(i1:Int):=cX;have EO:=fM i2;obtain⟨ia,hia⟩:∃ia,ia=i2-a:=⟨_,rfl⟩;have Vd:IntKind.i64.wrap ((i2:Int)-(a:Int))=(ia:Int):=cX;obtain⟨bi,arY⟩:∃bi,bi=b-i2:=⟨_,rfl⟩;have Vb:IntKind.i64.wrap ((b:Int)-(i2:Int))=(bi:Int):=cX;refine ag ?_;obtain⟨L,x,y,fa,cx,cy,gx,gy,l1,l2,M2⟩:=M.two (i:=i2) (j:=i1) aa aa;refine bJ 18 ?_;simp only[go_sem,seval,h0,h7,wi,cx,cy,fa,gx,gy,sk,l1];refine⟨dF fa gx gy,?_⟩;refine ag ?_;refine⟨l2,?_⟩;refine⟨dF fa gx gy,?_⟩;refine ag ?_
   try rw[Hp.set_set]
   refine Az _ _ _ (fG λK6 FH=>?_);clear M;generalize R.set blk _=R at*
   have MG:∀(I:av) (R:Hp),PS blk d.length cap a b i2 n8 I->Mx U blk d pad R->K6 I [] R:=by
    clear h0 h1 h2 h7 h8 M2 I R;rintro I R ⟨h0,h1,h2,h7,h8⟩ M;refine FH _ _ _ ?_;by_cases rB:2<=bi
    ·have c3:(2:Int)<=bi:=aa;refine fA h2 h7 Vb c3 ?_;refine cZ (λm I ds ae=>ds=[]/\PS blk d.length cap a b i2 n8 I/\∃k:Nat,m=b-k/\I 10=iV k/\1<=k/\k<=b/\Mx U blk d pad ae) (b-(i2+1)) ⟨rfl,⟨?_,?_,?_,?_,?_⟩,i2+1,rfl,?_,aa,aa,M⟩ ?_
     iterate 6 simp only[go_sem,seval,h0,h1,h2,h7,h8,EO]
     clear M h0 h1 h2 h7 h8 I R;rintro m I ds R X ⟨rfl,⟨h0,h1,h2,h7,h8⟩,k,rfl,gk,jR,sK,M⟩ hX;by_cases Kg:k<b
     ·have c0:(k:Int)<b:=aa;obtain⟨p,hp⟩:∃p,p=k-1:=⟨_,rfl⟩;have wk:IntKind.i64.wrap ((k:Int)-1)=(p:Int):=cX;have MY:=fM k;refine bR h2 gk c0 ?_;obtain⟨L,x,y,fa,cx,cy,gx,gy⟩:=M.rd.two (i:=k) (j:=p) aa aa;refine bJ 11 ?_;refine rY h0 gk wk cx cy fa gx gy ?_;refine bz pf ?_;refine⟨dF fa gx gy,?_⟩
      cases decide (x<y)with
      |false=>
       refine ag ?_;refine next _ _ ⟨?_,?_,?_,?_,?_⟩ M<;>exact qf h0 h1 h2 h7 h8
      |true=>
       refine ag ?_;clear fa cx cy gx gy;obtain⟨L,x,y,fa,cx,cy,gx,gy,l1,l2,M2⟩:=M.two (i:=k) (j:=p) aa aa;refine bJ 18 ?_;simp only[go_sem,seval,h0,gk,wk,cx,cy,fa,gx,gy,sk,l1];refine⟨dF fa gx gy,?_⟩;refine ag ?_;refine⟨l2,?_⟩;refine⟨dF fa gx gy,?_⟩;refine bq gk MY ?_
       try rw[Hp.set_set]
       refine hX _ _ _ _ _ aa ⟨rfl,⟨?_,?_,?_,?_,?_⟩,k+1,rfl,?_,aa,aa,M2⟩ ao<;>exact qf h0 h1 h2 h7 h8
     ·have c0:¬(k:Int)<b:=aa;refine bR h2 gk c0 ?_;refine next _ _ ⟨?_,?_,?_,?_,?_⟩ M<;>exact qf h0 h1 h2 h7 h8
    ·have c3:¬(2:Int)<=bi:=aa;refine fA h2 h7 Vb c3 ?_;refine next _ _ ⟨?_,?_,?_,?_,?_⟩ M<;>exact qf h0 h1 h2 h7 h8
   have M:=M2;by_cases hi3:2<=ia
   ·have c4:(2:Int)<=ia:=aa;refine fA h1 h7 Vd c4 ?_;refine cZ (λk I ds ae=>ds=[]/\PS blk d.length cap a b i2 n8 I/\I 9=iV k/\k<b/\Mx U blk d pad ae) i1 ⟨rfl,⟨?_,?_,?_,?_,?_⟩,?_,aa,M⟩ ?_
    iterate 6 simp only[go_sem,seval,h0,h1,h2,h7,h8,wi]
    clear M M2 h0 h1 h2 h7 h8 I R;rintro k I ds R X ⟨rfl,⟨h0,h1,h2,h7,h8⟩,gk,sK,M⟩ hX;by_cases Kg:1<=k
    ·have c0:(1:Int)<=k:=aa;obtain⟨p,hp⟩:∃p,p=k-1:=⟨_,rfl⟩;have wk:IntKind.i64.wrap ((k:Int)-1)=(p:Int):=cX;refine bq gk c0 ?_;obtain⟨L,x,y,fa,cx,cy,gx,gy⟩:=M.rd.two (i:=k) (j:=p) aa aa;refine bJ 11 ?_;refine rY h0 gk wk cx cy fa gx gy ?_;refine bz pf ?_;refine⟨dF fa gx gy,?_⟩
     cases decide (x<y)with
     |false=>
      refine ag ?_;refine MG _ _ ⟨?_,?_,?_,?_,?_⟩ M<;>exact qf h0 h1 h2 h7 h8
     |true=>
      refine ag ?_;clear fa cx cy gx gy;obtain⟨L,x,y,fa,cx,cy,gx,gy,l1,l2,M2⟩:=M.two (i:=k) (j:=p) aa aa;refine bJ 18 ?_;simp only[go_sem,seval,h0,gk,wk,cx,cy,fa,gx,gy,sk,l1];refine⟨dF fa gx gy,?_⟩;refine ag ?_;refine⟨l2,?_⟩;refine⟨dF fa gx gy,?_⟩;refine bq gk wk ?_
      try rw[Hp.set_set]
      refine hX p _ _ _ _ aa ⟨rfl,⟨?_,?_,?_,?_,?_⟩,?_,aa,M2⟩ ao<;>exact qf h0 h1 h2 h7 h8
    ·have c0:¬(1:Int)<=k:=aa;refine bq gk c0 ?_;refine MG _ _ ⟨?_,?_,?_,?_,?_⟩ M<;>exact qf h0 h1 h2 h7 h8
   ·have c4:¬(2:Int)<=ia:=aa;refine fA h1 h7 Vd c4 ?_;refine MG _ _ ⟨?_,?_,?_,?_,?_⟩ M<;>exact qf h0 h1 h2 h7 h8
  refine BJ (cZ (λm I ds ae=>ds=[]/\ae=R/\∃k:Nat,PS blk d.length cap a b k n8 I/\m=b-k/\a<k/\k<=b) (b-i) ⟨rfl,rfl,i,⟨?_,?_,?_,?_,?_⟩,rfl,CO,Da⟩ ?_)
  iterate 5 simp only[go_sem,seval,h0,h1,h2,h7,h8]
  clear h0 h1 h2 h7 h8 I;rintro m I ds _ X ⟨rfl,rfl,k,⟨h0,h1,h2,h7,h8⟩,rfl,Qy,sK⟩ hX;refine ag ?_;refine bJ 16 ?_;by_cases hle:k<b
  ·have c1:(k:Int)<b:=aa;obtain⟨k1,jR⟩:∃k1,k1=k-1:=⟨_,rfl⟩;have wk:IntKind.i64.wrap ((k:Int)-1)=(k1:Int):=cX;have MY:=fM k;obtain⟨L,x,y,fa,cx,cy,gx,gy⟩:=M.rd.two (i:=k) (j:=k1) aa aa;simp only[go_sem,seval,h0,h2,h7,c1,wk,cx,cy,fa,gx,gy];refine bz pf ?_;refine⟨dF fa gx gy,?_⟩
   cases decide (x<y)with
   |false=>
    refine bq h7 MY ?_;refine hX (b-(k+1)) _ _ _ _ aa ⟨rfl,rfl,k+1,⟨?_,?_,?_,?_,?_⟩,rfl,aa,aa⟩ ao<;>exact ic h0 h1 h2 h8
   |true=>
    refine ag ?_;refine EK _ k ⟨?_,?_,?_,?_,?_⟩ Qy sK<;>exact qf h0 h1 h2 h7 h8
  ·have c1:¬(k:Int)<b:=aa;refine bR h2 h7 c1 ?_;refine EK _ k ⟨?_,?_,?_,?_,?_⟩ Qy sK<;>exact qf h0 h1 h2 h7 h8
def PR(blk n cap a b l:Nat)(wb wp:Bool)(k:Nat)(I:av):Prop:=I 0=dS blk n cap/\I 1=iV a/\I 2=iV b/\I 3=iV l/\I 8=.bool wb/\I 9=.bool wp/\I 10=iV k
variable {E:Env prog}{U R:Hp}{d:List Int}{pad:List Value}{blk cap a b:Nat}
theorem alF:∀(m:Nat) {R:Hp} {a b lim:Nat},b-a<=m->a<=b->b<=d.length->d.length<=65535->lim<=1000000->Mx U blk d pad R->
 aw E 134 #[dS blk d.length cap,iV a,iV b,iV lim] R λe R=>e=.returned (.tuple #[])/\Mx U blk d pad R:=by
 intro m
 induction m using Nat.strongRecOn with
 |_ m ih=>
 intro R a b lim hm dq hb hn fJ M;refine aX func134 ntmps134 results134 λQ aB al az=>?_;refine ag ?_;refine cZ (λk I ds ae=>ds=[]/\∃(a' b' uz:Nat) (wb wp:Bool),k=b'-a'/\(I 0=dS blk d.length cap/\I 1=iV a'/\I 2=iV b'/\I 3=iV uz/\I 8=.bool wb/\I 9=.bool wp)/\a<=a'/\a'<=b'/\b'<=b/\uz<=1000000/\Mx U blk d pad ae) (b-a) ?_ ?_
 ·refine⟨rfl,a,b,lim,true,true,rfl,⟨?_,?_,?_,?_,?_,?_⟩,Nat.le_refl _,dq,Nat.le_refl _,fJ,M⟩<;>exact au
 clear M;rintro k I ds R Y ⟨rfl,a',b',uz,wb,wp,rfl,⟨h0,h1,h2,h3,h8,h9⟩,haa,AD,eU,Df,M⟩ hY;obtain⟨n,Ks⟩:∃n,n=b'-a':=⟨_,rfl⟩;have w1:IntKind.i64.wrap ((b':Int)-(a':Int))=(n:Int):=cX;refine BJ (fG λK1 oQ=>?_);refine bR h1 h2 w1 ?_;refine oQ _ _ _ (fG λK2 pN=>?_);clear oQ;by_cases oO:n<=12
 ·have c1:(n:Int)<=12:=aa;refine fA h0 h1 h2 c1 ?_;refine aJ (agR M AD aa aa) ?_;rintro v R ⟨hv,M⟩
  cases hv
  refine ag ?_;exact al dB ao ⟨rfl,M⟩
 have c1:¬(n:Int)<=12:=aa;refine aH c1 ?_;refine pN _ _ _ (fG λK3 rz=>?_);clear pN;by_cases lL:uz=0
 ·have c2:(uz:Int)=0:=aa;refine ln h0 h1 h2 h3 c2 ?_;refine aJ (aeE M aa aa aa) ?_;rintro v R ⟨hv,M⟩
  cases hv
  refine ag ?_;exact al dB ao ⟨rfl,M⟩
 have c2:¬(uz:Int)=0:=aa;refine bq h3 c2 ?_;refine rz _ _ _ (fG λK4 tN=>?_);clear rz
 have tail:∀(I:av) (l1:Nat) (R:Hp),PR blk d.length cap a' b' l1 wb wp n I->l1<=1000000->Mx U blk d pad R->K4 I [] R:=by
  clear h0 h1 h2 h3 h8 h9 M I R;rintro I l1 R ⟨h0,h1,h2,h3,h8,h9,bE⟩ fI M;refine tN _ _ _ (fG λK5 Az=>?_);clear tN;refine bR h0 h1 h2 ?_;refine dI acB (ZY (cap:=cap) M.rd aa aa aa) ?_ (λch ae ⟨⟨_,_,_,h⟩,_⟩=>by cases h);rintro v _ ⟨⟨pv,hv,⟨p1,p2⟩,hr⟩,rfl⟩;obtain rfl:v=.tuple #[iV pv,iV hv]:=by injection hr
  simp only[go_sem,seval];refine Az _ _ _ (fG λK6 FH=>?_);clear Az
  have EK:∀(I:av) (pv:Nat) (hv:Int) (R:Hp),PR blk d.length cap a' b' l1 wb wp n I->I 11=iV pv->I 12=iV hv->a'<=pv->pv<b'->Mx U blk d pad R->K6 I [] R:=by
   clear h0 h1 h2 h3 h8 h9 bE M p1 p2 hr I R pv hv;rintro I pv hv R ⟨h0,h1,h2,h3,h8,h9,bE⟩ bO Jm p1 p2 M;refine FH _ _ _ (fG λK7 Qi=>?_);clear FH
   have Hx:∀(I:av) (R:Hp),PR blk d.length cap a' b' l1 wb wp n I->I 11=iV pv->Mx U blk d pad R->K7 I [] R:=by
    clear h0 h1 h2 h3 h8 h9 bE bO Jm M I R;rintro I R ⟨h0,h1,h2,h3,h8,h9,bE⟩ bO M;refine Qi _ _ _ (fG λK8 hK8=>?_);clear Qi
    have UR:∀I:av,PR blk d.length cap a' b' l1 wb wp n I->I 11=iV pv->K8 I [] R:=by
     clear h0 h1 h2 h3 h8 h9 bE bO I;rintro I ⟨h0,h1,h2,h3,h8,h9,bE⟩ bO;refine hK8 _ _ _ ?_;refine fA h0 h1 h2 bO ?_;refine dI acE (alA (cap:=cap) M aa aa aa p1 p2) ?_ (λch ae ⟨⟨_,_,_,_,h⟩,_⟩=>by cases h);rintro v R ⟨⟨rR,ap,m1,m2,hr⟩,M⟩
     cases hr
     obtain⟨ll,asg⟩:∃ll,ll=rR-a':=⟨_,rfl⟩;obtain⟨rl,AW⟩:∃rl,rl=b'-rR:=⟨_,rfl⟩;obtain⟨q8,Ds⟩:∃q8,q8=n/8:=⟨_,rfl⟩;have wl:IntKind.i64.wrap ((rR:Int)-(a':Int))=(ll:Int):=cX;have wr:IntKind.i64.wrap ((b':Int)-(rR:Int))=(rl:Int):=cX
     have w8:IntKind.i64.wrap ((n:Int).tdiv 8)=(q8:Int):=by
      have:(n:Int).tdiv 8=(q8:Int):=by rw[Ds];rfl
      rw[this,wrap64 aa aa]
     have wm:=fM rR;by_cases hlr:ll<rl
     ·have k1:(ll:Int)<rl:=aa;simp only[go_sem,seval,h0,h1,h2,h3,bE,wl,wr,w8,k1];refine aJ (ih (m-1) aa aa aa aa aa fI M) ?_;rintro v R ⟨hv,M⟩
      cases hv
      refine aH wm ?_;refine hY _ _ _ _ _ aa ⟨rfl,rR+1,b',l1,decide ((q8:Int)<=ll),ap,rfl,⟨?_,?_,?_,?_,?_,?_⟩,aa,aa,eU,fI,M⟩ ao<;>exact nH h0 h2 h3
     ·have k1:¬(ll:Int)<rl:=aa;simp only[go_sem,seval,h0,h1,h2,h3,bE,wl,wr,w8,k1,wm];refine aJ (ih (m-1) aa aa aa aa aa fI M) ?_;rintro v R ⟨hv,M⟩
      cases hv
      refine ag ?_;refine hY _ _ _ _ _ aa ⟨rfl,a',rR,l1,decide ((q8:Int)<=rl),ap,rfl,⟨?_,?_,?_,?_,?_,?_⟩,aa,aa,aa,fI,M⟩ ao<;>exact nH h0 h1 h3
    refine ag ?_;refine bJ 15 ?_;by_cases tO:a'=0
    ·have k0':¬(0:Int)<a':=aa;refine bq h1 k0' ?_;refine UR _ ⟨?_,?_,?_,?_,?_,?_,?_⟩ ?_<;>exact tr h0 h1 h2 h3 h8 h9 bE bO
    ·have k0:(0:Int)<a':=aa;obtain⟨a1,de⟩:∃a1,a1=a'-1:=⟨_,rfl⟩;have wa:IntKind.i64.wrap ((a':Int)-1)=(a1:Int):=cX;obtain⟨L,x,y,fa,cx,cy,gx,gy⟩:=M.rd.two (i:=a1) (j:=pv) aa aa;simp only[go_sem,seval,h0,h1,bO,k0,wa,cx,cy,fa,gx,gy];refine bz pf ?_;refine⟨dF fa gx gy,?_⟩
     cases decide (x<y)with
     |true=>
      refine ag ?_;refine UR _ ⟨?_,?_,?_,?_,?_,?_,?_⟩ ?_<;>exact tr h0 h1 h2 h3 h8 h9 bE bO
     |false=>
      refine fA h0 h1 h2 bO ?_;refine dI acD (alz (cap:=cap) M aa aa aa p1 p2) ?_ (λch ae ⟨⟨_,_,_,h⟩,_⟩=>by cases h);rintro v R ⟨⟨rR,m1,m2,hr⟩,M⟩
      cases hr
      refine ag ?_;refine hY _ _ _ _ _ aa ⟨rfl,rR,b',l1,wb,wp,rfl,⟨?_,?_,?_,?_,?_,?_⟩,aa,aa,eU,fI,M⟩ ao<;>exact qf h0 h2 h3 h8 h9
   cases wb with
   |false=>
    refine aH h8 ?_;refine Hx _ _ ⟨?_,?_,?_,?_,?_,?_,?_⟩ ?_ M<;>exact tr h0 h1 h2 h3 h8 h9 bE bO
   |true=>
    cases wp with
    |false=>
     refine bq h8 h9 ?_;refine Hx _ _ ⟨?_,?_,?_,?_,?_,?_,?_⟩ ?_ M<;>exact tr h0 h1 h2 h3 h8 h9 bE bO
    |true=>
     by_cases mR:hv=1
     ·refine Ey h0 h1 h2 h8 h9 Jm mR ?_;refine dI acC (aly (cap:=cap) M aa aa aa) ?_ (λch ae ⟨⟨_,h⟩,_⟩=>by cases h);rintro v R ⟨⟨r,hr⟩,M⟩
      cases hr
      cases r with
      |true=>
       refine ag ?_;exact al dB ao ⟨rfl,M⟩
      |false=>
       refine ag ?_;refine Hx _ _ ⟨?_,?_,?_,?_,?_,?_,?_⟩ ?_ M<;>exact tr h0 h1 h2 h3 h8 h9 bE bO
     ·refine fA h8 h9 Jm mR ?_;refine Hx _ _ ⟨?_,?_,?_,?_,?_,?_,?_⟩ ?_ M<;>exact tr h0 h1 h2 h3 h8 h9 bE bO
  by_cases kS:hv=2
  ·obtain⟨x1,vN⟩:∃x1,x1=b'-1:=⟨_,rfl⟩;obtain⟨x2,sO⟩:∃x2,x2=pv-a':=⟨_,rfl⟩;have wx1:IntKind.i64.wrap ((b':Int)-1)=(x1:Int):=cX;have wx2:IntKind.i64.wrap ((pv:Int)-(a':Int))=(x2:Int):=cX;have wx3:IntKind.i64.wrap ((x1:Int)-(x2:Int))=((x1-x2:Nat):Int):=cX;refine fA h0 h1 h2 kS ?_;refine aJ (anp M aa aa aa AD) ?_;rintro v R ⟨hv,M⟩
   cases hv
   refine ln h1 h2 wx1 wx2 wx3 ?_;refine EK _ (x1-x2) 1 _ ⟨?_,?_,?_,?_,?_,?_,?_⟩ ?_ ?_ aa aa M<;>exact Hz h0 h1 h2 h3 h8 h9 bE
  ·refine aH kS ?_;refine EK _ pv hv _ ⟨?_,?_,?_,?_,?_,?_,?_⟩ ?_ ?_ p1 p2 M<;>exact Hz h0 h1 h2 h3 h8 h9 bE
 cases wb with
 |true=>
  refine aH h8 ?_;refine tail _ uz _ ⟨?_,?_,?_,?_,?_,?_,?_⟩ Df M<;>exact Hy h0 h1 h2 h3 h8 h9
 |false=>
  have wl:IntKind.i64.wrap ((uz:Int)-1)=((uz-1:Nat):Int):=cX;refine fA h0 h1 h2 h8 ?_;refine aJ (Yr M aa aa aa) ?_;rintro v R ⟨hv,M⟩
  cases hv
  refine bq h3 wl ?_;refine tail _ (uz-1) _ ⟨?_,?_,?_,?_,?_,?_,?_⟩ aa M<;>exact qf h0 h1 h2 h8 h9
variable {xs:List Int}{v:Value}
def alE{k:Nat}(hk:k<=300)(h:Sl 3 U (xs.map aW) v)(hn:xs.length<=1000):
 aw E 134 #[v,.int .i64 0,.int .i64 xs.length,.int .i64 k] U λe R=>e=.returned (.tuple #[])/\∃ys,ys.Perm xs/\(xs.length<=12->dP jV ys)/\Sl 3 R (ys.map aW) v/\sm U R v:=by
 by_cases oO:xs.length<=12
 ·exact(alD h oO).mono λe R ⟨h1,ys,h2,h3,h4⟩=>⟨h1,ys,h2,λ_=>h3,h4⟩
 rcases h.form with⟨h0,_⟩|⟨a,pad,h1,h2⟩
 ·exact absurd (by simp at h0;simp[h0]) oO
 ·have hp:=alF (E:=E) (U:=U) (d:=xs) (pad:=pad) (blk:=a) (cap:=(xs.map aW).length+pad.length) xs.length (R:=U) (a:=0) (b:=xs.length) (lim:=k) aa aa aa aa aa ⟨xs,.refl _,(Hp.Hm h2).symm⟩;have ev:v=dS a xs.length ((xs.map aW).length+pad.length):=by rw[h1];simp only[List.length_map]
  rw[ev];refine aw.mono hp ?_;rintro e R ⟨rfl,ys,p,rfl⟩;have hl:=p.length_eq;refine⟨rfl,ys,p,λh=>absurd h oO,?_,λb hb=>Hp.ay (hb _ _ _ rfl)⟩;have:=Sl.at (ety:=3) (U:=U.set a (.cells (ys.map aW++pad).toArray 3 (0,0))) (xs:=ys.map aW) a pad aT;rw[List.length_map,hl]at this;rw[List.length_map];exact this
def aos(h:Sl 3 U (xs.map aW) v)(hn:xs.length<=1000):
 aw E 81 #[v] U λe R=>e=.returned (.tuple #[])/\∃ys,ys.Perm xs/\(xs.length<=12->dP jV ys)/\Sl 3 R (ys.map aW) v/\sm U R v:=by
 refine aX func81 ntmps81 results81 λQ aB al az=>?_
 obtain⟨base,cap,rfl⟩:∃base cap,v=.slice base xs.length cap:=by
  generalize hk:xs.map aW=ks at h;have hl:ks.length=xs.length:=by rw[<-hk];simp
  cases h with
  |nil h0=>exact⟨none,0,by rw[<-hl,h0];rfl⟩
  |«at»a pad ha=>exact⟨_,_,by rw[hl]⟩
 have cu:IntKind.u64.wrap (xs.length:Int)=xs.length:=by have:((xs.length:Int) % 18446744073709551616)=xs.length:=aa;simpa[IntKind.wrap,IntKind.bits,IntKind.signed]using this
 refine aH cu ?_;refine dI PZ (Su aa) ?_ (λch ae ⟨⟨_,_,_,h⟩,_⟩=>by cases h);rintro w ae ⟨⟨k,hk,_,hw⟩,rfl⟩
 cases hw
 refine ag ?_;refine aJ (alE hk h hn) ?_;rintro w R ⟨hw,fC⟩
 cases hw
 refine ag ?_;exact aB dB ao ⟨rfl,fC⟩
variable {n:Nat}{f:FuncId}{tc:TypeId}{bm m c:Nat}{l:List (Int×Value×Nat)}
def aox(hY:Yields f (λe:Int×Value×Nat=>aW e.1) aW tc)(hg:cq prog f=true)(dK:U.f bm=some (.cells #[.map (some m)] tc (0,0)))(hm:U.f m=some (aU aW l c))(hold:∀e∈l,e.2.2<c)(hn:(l.map (·.2.2)).Nodup)(fR:l.length<=1000):
 aw E 47 #[.func (.func f) #[] #[pV bm]] U λe R=>U.le R/\∃v ys,e=.returned v/\ys.Perm (l.map (·.1))/\(l.length<=12->dP jV ys)/\Sl 3 R (ys.map aW) v/\∀a n c,v=.slice (some a) n c->U.f a.block=none:=by
 refine aX func47 ntmps47 results47 λQ aB al az=>?_;refine ag ?_;refine aJ (aaf hY hg dK hm hold hn aa (λ_ _=>rfl)) ?_;rintro v R ⟨hle,v',ks,hv,h1,h2,h3⟩
 cases hv
 obtain⟨xs,k1,rfl⟩:=zt h1 (xs:=l.map (·.1)) (f:=aW) ak;refine ag ?_;have hlen:xs.length<=1000:=by rw[k1.length_eq];simpa using fR
 refine aJ (aos h2 hlen) ?_;rintro w bY ⟨hw,ys,p1,p2,p3,p4⟩
 cases hw
 refine ag ?_;refine al aG ao ⟨?_,v,ys,rfl,p1.trans k1,λh=>p2 (by rw[k1.length_eq];simpa using h),p3,h3⟩;intro b o hb;rw[p4 b (λa n c e e2=>by have:=h3 a n c e;rw[<-e2,hb]at this;cases this)];exact hle b o hb
def Mv(hY:Yields f (λe:Int×Value×Nat=>aW e.1) aW tc)(hg:cq prog f=true)(dK:U.f bm=none)(hm:U.f m=some (aU aW l c))(hold:∀e∈l,e.2.2<c)(hn:(l.map (·.2.2)).Nodup)(fR:l.length<=1000):
 aw E 47 #[.func (.func f) #[] #[pV bm]] (U.set bm (.cells #[.map (some m)] tc (0,0))) λe R=>U.le R/\∃v ys,e=.returned v/\ys.Perm (l.map (·.1))/\(l.length<=12->dP jV ys)/\Sl 3 R (ys.map aW) v/\∀a n c,v=.slice (some a) n c->U.f a.block=none:=by
 have aE:m≠bm:=bh hm dK;refine(aox hY hg aT (by rw[Hp.aM _ aE];exact hm) hold hn fR).mono ?_;rintro e R ⟨hle,v,ys,hv,h1,h2,h3,h4⟩;refine⟨?_,v,ys,hv,h1,h2,h3,?_⟩
 ·intro b o hb;have:b≠bm:=bh hb dK;exact hle b o (by rw[Hp.aM _ this];exact hb)
 ·intro a n c e;have:=h4 a n c e;by_cases e2:a.block=bm
  ·rw[e2];exact dK
  ·rw[Hp.aM _ e2]at this;exact this
def ah7:aw E 48 #[.map (some m)] U λe R=>∃bm,e=.returned (.func (.func 82) #[] #[pV bm])/\U.f bm=none/\R=U.set bm (.cells #[.map (some m)] 72 (0,0)):=by refine aX func48 ntmps48 results48 λQ aB al az=>?_;refine ag ?_;refineλbm dK=>?_;refine ag ?_;exact al aG ao ⟨bm,rfl,dK,rfl⟩
def Mt(hm:U.f m=some (aU aW l c))(hold:∀e∈l,e.2.2<c)(hn:(l.map (·.2.2)).Nodup)(fR:l.length<=1000):
 aw E 33 #[.map (some m)] U λe R=>U.le R/\∃v ys,e=.returned v/\ys.Perm (l.map (·.1))/\(l.length<=12->dP jV ys)/\Sl 3 R (ys.map aW) v/\∀a n c,v=.slice (some a) n c->U.f a.block=none:=by
 refine aX func33 ntmps33 results33 λQ aB al az=>?_;refine ag ?_;refine aJ ah7 ?_;rintro w R ⟨bm,hw,dK,rfl⟩
 cases hw
 refine ag ?_;refine aJ (Mv aqS adb dK hm hold hn fR) ?_;rintro v R ⟨hle,v',ys,hv,hr⟩
 cases hv
 refine ag ?_;exact al aG ao ⟨hle,v,ys,rfl,hr⟩
def ah4:aw E 138 #[.map (some m)] U λe R=>∃bm,e=.returned (.func (.func 181) #[] #[pV bm])/\U.f bm=none/\R=U.set bm (.cells #[.map (some m)] 88 (0,0)):=by refine aX func138 ntmps138 results138 λQ aB al az=>?_;refine ag ?_;refineλbm dK=>?_;refine ag ?_;exact al aG ao ⟨bm,rfl,dK,rfl⟩
def aoy(hm:U.f m=some (aU aW l c))(hold:∀e∈l,e.2.2<c)(hn:(l.map (·.2.2)).Nodup)(fR:l.length<=1000):
 aw E 87 #[.map (some m)] U λe R=>U.le R/\∃v ys,e=.returned v/\ys.Perm (l.map (·.1))/\(l.length<=12->dP jV ys)/\Sl 3 R (ys.map aW) v/\∀a n c,v=.slice (some a) n c->U.f a.block=none:=by
 refine aX func87 ntmps87 results87 λQ aB al az=>?_;refine ag ?_;refine aJ ah4 ?_;rintro w R ⟨bm,hw,dK,rfl⟩
 cases hw
 refine ag ?_;refine aJ (Mv aqP acG dK hm hold hn fR) ?_;rintro v R ⟨hle,v',ys,hv,hr⟩
 cases hv
 refine ag ?_;exact al aG ao ⟨hle,v,ys,rfl,hr⟩
def ah6:aw E 186 #[.map (some m)] U λe R=>∃bm,e=.returned (.func (.func 222) #[] #[pV bm])/\U.f bm=none/\R=U.set bm (.cells #[.map (some m)] 273 (0,0)):=by refine aX func186 ntmps186 results186 λQ aB al az=>?_;refine ag ?_;refineλbm dK=>?_;refine ag ?_;exact al aG ao ⟨bm,rfl,dK,rfl⟩
def UD(hm:U.f m=some (aU aW l c))(hold:∀e∈l,e.2.2<c)(hn:(l.map (·.2.2)).Nodup)(fR:l.length<=1000):
 aw E 141 #[.map (some m)] U λe R=>U.le R/\∃v ys,e=.returned v/\ys.Perm (l.map (·.1))/\(l.length<=12->dP jV ys)/\Sl 3 R (ys.map aW) v/\∀a n c,v=.slice (some a) n c->U.f a.block=none:=by
 refine aX func141 ntmps141 results141 λQ aB al az=>?_;refine ag ?_;refine aJ ah6 ?_;rintro w R ⟨bm,hw,dK,rfl⟩
 cases hw
 refine ag ?_;refine aJ (Mv aqR acO dK hm hold hn fR) ?_;rintro v R ⟨hle,v',ys,hv,hr⟩
 cases hv
 refine ag ?_;exact al aG ao ⟨hle,v,ys,rfl,hr⟩
def zG{α:Type}{lt:α->α->Bool}(L:yj lt)(Wh:∀{a b},lt a b=false->lt b a=false->a=b):∀{l m:List α},l.Perm m->dP lt l->dP lt m->l=m:=by
 intro l
 induction l with
 |nil=>intro m p _ _;exact(List.nil_perm.1 p).symm
 |cons a l ih=>
  intro m p h1 h2
  cases m with
  |nil=>exact absurd p.symm ak
  |cons b m=>
   have dq:a=b:=by
    by_cases e:a=b
    ·exact e
    ·have ha:a∈m:=by
      have:=p.mem_iff.1 (List.mem_cons_self (a:=a) (l:=l));rcases List.mem_cons.1 this with h|h
      ·exact absurd h e
      ·exact h
     have hb:b∈l:=by
      have:=p.mem_iff.2 (List.mem_cons_self (a:=b) (l:=m));rcases List.mem_cons.1 this with h|h
      ·exact absurd h.symm e
      ·exact h
     exact Wh ((List.pairwise_cons.1 h2).1 a ha) ((List.pairwise_cons.1 h1).1 b hb)
   subst dq;rw[ih ((List.perm_cons a).1 p) (List.pairwise_cons.1 h1).2 (List.pairwise_cons.1 h2).2]
def Fh{a b:Int}(h:jV a b=false)(k:jV b a=false):a=b:=by simp[jV]at h k;omega
def Iu{a b:List UInt8}(h:cN a b=false)(k:cN b a=false):a=b:=by
 induction a generalizing b with
 |nil=>cases b with
  |nil=>rfl
  |cons y b=>simp[cN,Op.bytesLess]at h
 |cons x a ih=>cases b with
  |nil=>simp[cN,Op.bytesLess]at k
  |cons y b=>
   simp only[cN,Op.bytesLess,Bool.or_eq_false_iff,decide_eq_false_iff_not,Bool.and_eq_false_iff,beq_eq_false_iff_ne,ne_eq]at h k
   have hxy:x=y:=by have h1:=h.1;have k1:=k.1;exact UInt8.le_antisymm (UInt8.not_lt.1 k1) (UInt8.not_lt.1 h1)
   subst hxy;rw[ih (by rcases h.2 with h|h;exact absurd rfl h;exact h) (by rcases k.2 with h|h;exact absurd rfl h;exact h)]
section
variable {E:Env prog}{U:Hp}{R:Hp}{d:List Int}{pad:List Value}{cap:Nat}{a:Nat}{b:Nat}{c:Nat}{n:Nat}{H:Hid}{X:Ext}{no:Nat}{h:HN}
variable {A:Lay}{n:N}{id:Int}
def aq.NA (a:aq A H n X U)(l:U.le R){b:Nat}{o:Obj}(hb:U.f b=none)(ho:R.f b=some o):aq A H n ((b,o)::X) R:=
 (a.iE hb o).le (λx p hx=>by
  by_cases e:x=b
  ·subst e;rw[Hp.bD]at hx;cases hx;exact ho
  ·rw[Hp.ay e]at hx;exact l _ _ hx)
def aq.zZ {ety:TypeId}{ys:List Value}{v:Value}(a:aq A H n X U)(l:U.le R)(hs:Sl ety R ys v)(hf:∀a n c,v=.slice (some a) n c->U.f a.block=none):
 ∃X',aq A H n X' R/\∀{A' H' n' ae},aq A' H' n' X' ae->aq A' H' n' X ae/\Sl ety ae ys v:=by
 rcases hs.form with⟨h1,h2⟩|⟨b,pad,h1,h2⟩
 ·exact⟨X,a.le l,λa'=>⟨a',by rw[h2];exact .nil h1⟩⟩
 ·refine⟨(b,.cells (ys++pad).toArray ety (0,0))::X,a.NA l (hf _ _ _ h1) h2,λa'=>⟨a'.oL,by rw[h1];exact .at b pad a'.ei⟩⟩
def N.jK (n:N)(l:List (List UInt8×Int)):N:=l.foldl (λn e=>n.cancel e.2) n
def N.kM (n:N)(id:Int)(no:Nat)(l:List (Nat×(List UInt8×aQ))):N:=l.foldl (λn e=>n.settle id no e.1 true) n
def E1 (n:N)(k:Int):Prop:=∃x q,n.x? k=some x/\n.q? x.q=some q/\q.cons.length<=1000000/\∀j∈q.cons,(n.x? j).isSome
def H6 (n:N)(id:Int)(no:Nat)(e:Nat×(List UInt8×aQ)):Prop:=∃h q,n.h? id no=some h/\bw h.un e.1=some e.2/\n.q? e.2.1=some q/\(1<=q.held/\q.held<=1000000)/\q.ready.length<=1000000/\q.ready.Pairwise λa b=>a.seq<b.seq
structure yg (n:N) (id:Int) (no:Nat) (h:HN):Prop where
 co:dP cN (h.co.map (·.1))
 un:(h.un.map (·.1)).Nodup
 sep:tA h.un
 s6:h.co.length<=12
 D3:h.un.length<=1000
 cancel:∀j (hj:j<h.co.length),E1 (n.jK (h.co.take j)) h.co[j].2
 back:∀l e,e∈h.un->(∀x∈l,¬x.1=e.1)->H6 (((n.jK h.co).bA id no λh=>{h with co:=[]}).kM id no l) id no e
@[simp] def OS {k:Int}:(n.cancel k).ar id=n.ar id:=by unfold N.cancel;split<;>rfl
@[simp] def Qo {k:Int}:(n.cancel k).h? id no=n.h? id no:=by unfold N.cancel;split<;>rfl
@[simp] def FM {l:List (List UInt8×Int)}:(n.jK l).h? id no=n.h? id no:=by
 unfold N.jK
 induction l generalizing n with
 |nil=>rfl
 |cons e l ih=>rw[List.foldl_cons,ih,Qo]
@[simp] def OT {l:List (List UInt8×Int)}:(n.jK l).ar id=n.ar id:=by
 unfold N.jK
 induction l generalizing n with
 |nil=>rfl
 |cons e l ih=>rw[List.foldl_cons,ih,OS]
def Zv {l:List (List UInt8×Int)}{j:Nat}(hj:j<l.length):n.jK (l.take (j+1))=(n.jK (l.take j)).cancel l[j].2:=by unfold N.jK;rw[List.take_succ_eq_append_getElem hj,List.foldl_append];rfl
def an3 {l:List (Nat×(List UInt8×aQ))}{j:Nat}(hj:j<l.length):n.kM id no (l.take (j+1))=(n.kM id no (l.take j)).settle id no l[j].1 true:=by unfold N.kM;rw[List.take_succ_eq_append_getElem hj,List.foldl_append];rfl
def an2 {l m:List (Nat×(List UInt8×aQ))}(hp:l.Perm m)(D:∀h,n.h? id no=some h->tA h.un):n.kM id no l=n.kM id no m:=Ut (p:=λ_=>true) (b:=true) hp D
def Me (a:aq A H n X U){c:CN}(hc:n.ar id=some c)(hh:n.h? id no=some h)(atA:yg n id no h):
 aw E 88 #[pV (A.chan id no)] U λe R=>e=.returned (.tuple #[])/\At A (n.release id no) X R:=by
 refine aX func88 ntmps88 results88 λQ aB al az=>?_;obtain⟨lc,kc,cG,dU,kT⟩:=a.co hh;have AR:lc.length=h.co.length:=by have:=kT.length_eq;simpa using this
 refine aH (a.bV hh) ?_;refine aJ (aou cG dU.old dU.nd (by rw[AR];exact atA.s6)) ?_;rintro v R ⟨hle,v',ys,hv,p1,p2,p3,p4⟩
 cases hv
 obtain rfl:ys=h.co.map (·.1):=by refine zG vW Iu (p1.trans ?_) p2 atA.co;have:=kT.map (·.1);simpa[List.map_map,Function.comp_def]using this
 obtain⟨X',a1,qU⟩:=a.zZ hle p3 p4;obtain⟨base,cap,rfl,_⟩:=p3.read;have hl:(h.co.map (·.1)).length=h.co.length:=ak;refine aH hl ?_;refine cZ (λm I ds ae=>ds=[]/\I 0=pV (A.chan id no)/\I 10=.slice base h.co.length cap/\I 11=iV h.co.length/\∃(j:Nat) (H':Hid),j+m=h.co.length/\I 12=iV j/\aq A H' (n.jK (h.co.take j)) X' ae) h.co.length ?_ ?_
 ·refine⟨rfl,?_,?_,?_,0,H,ak,?_,a1⟩<;>exact aP hl
 rintro m I ds dg Y ⟨rfl,h0,bE,bO,j,H1,xm,oO,aj⟩ hY;have yT:(n.jK (h.co.take j)).h? id no=some h:=by simp[hh]
 have iO:(n.jK (h.co.take j)).ar id=some c:=by simp[hc]
 cases m with
 |succ m=>
  have hj:j<h.co.length:=aa;have c0:(j:Int)<h.co.length:=aa;obtain⟨_,sj⟩:=qU aj;obtain⟨b2,yA,e2,r2⟩:=sj.read;simp only[Value.slice.injEq]at e2;obtain⟨rfl,_,_⟩:=e2;obtain⟨ba,L,rfl,gT,hL⟩:=r2 j (aV hj);simp only[List.getElem_map,bP]at hL;have w1:IntKind.i64.wrap ((j:Int)+1)=((j+1:Nat):Int):=by have:=atA.s6;rw[wrap64 aa aa];rfl
  simp only[go_sem,seval,bE,bO,oO,c0,decide_true];refine⟨aa,?_⟩;refine bq gT hL ?_;refine bJ 17 ?_;refine fA h0 (aj.bV yT) (aj.eC iO) aj.jM ?_;obtain⟨lj,kj,mS,qG,xk⟩:=aj.co yT;obtain⟨x,q,hx,hq,Du,oY⟩:=atA.cancel j hj;obtain⟨st,bt⟩:=rP qG xk (List.mem_map_of_mem (f:=λe:List UInt8×Int=>(e.1,pV (A.cons e.2))) (List.getElem_mem hj));refine jU (b:=A.co id no) (k:=h.co[j].1) (l:=lj) (c:=kj) zl (z:=.pointer none) ah ?_ mS ?_ ?_
  ·exact au
  ·exact au
  have dr:((dt lj h.co[j].1).map (·.2.1)).getD (.pointer none)=pV (A.cons h.co[j].2):=by rw[bt];rfl
  rw[if_neg Bool.false_ne_true,dr];refine⟨by(repeat(first|exact jA|(apply jz;(focus decide+kernel))|(refine lf rfl (nH (aj.bV yT) (aj.eC iO) aj.jM) ?_))),?_⟩;refine ag ?_;refine aJ (OF aj oY hx hq Du) ?_;rintro v2 cU ⟨lP,H2,a2⟩
  cases lP
  have fi:((n.jK (h.co.take j)).cancel h.co[j].2).h? id no=some h:=by simp[hh]
  have QI:((n.jK (h.co.take j)).cancel h.co[j].2).ar id=some c:=by simp[hc]
  have a2c:=a2.bV fi;have a2d:∃z,cU.f (A.conn id)=some (.cells (([pV A.gw]:List Value)++z).toArray 90 (0,0)):=⟨_,a2.eC QI⟩;refine⟨by(repeat(first|exact jA|(apply jz;(focus decide+kernel))|(refine lf rfl (nH (a2.bV fi) (a2.eC QI) a2.jM) ?_))),?_⟩;refine bq oO w1 ?_;refine hY m _ _ _ _ aa ⟨rfl,?_,?_,?_,j+1,H2,aa,?_,by rw[Zv hj];exact a2⟩ ao
  ·exact aP h0
  ·exact aP bE
  ·exact aP bO
  ·exact au
 |zero=>
  have c0:¬(j:Int)<h.co.length:=aa;have vD:j=h.co.length:=aa;rw[vD,List.take_length]at aj yT iO;obtain⟨lj,kj,mS,qG,xk⟩:=aj.co yT;simp only[go_sem,seval,h0,bO,oO,c0,decide_false,aj.bV yT];refine Z6 (b:=A.co id no) (f:=bP) (l:=lj) (c:=kj) (d:=.map 9 186) ah ?_ mS ?_
  ·exact au
  have a3:=(qU aj).1.Mj yT (λh=>{h with co:=[]}) rfl rfl (o:=aU bP [] kj) ⟨[],kj,rfl,ajg,ak⟩;have yR:((n.jK h.co).bA id no λh=>{h with co:=[]}).h? id no=some {h with co:=[]}:=by simp[hh]
  obtain⟨lu,ku,xv,ze,xw⟩:=a3.un yR;have yW:lu.length=h.un.length:=by have:=xw.length_eq;simpa using this
  refine bq h0 (a3.bV yR) ?_;refine aJ (UD xv ze.old ze.nd (by rw[yW];exact atA.D3)) ?_;rintro v gH ⟨n7,v',ys,hv,p1,_,p3,p4⟩
  cases hv
  obtain⟨ts,vK,rfl⟩:=zt (p1.trans (by have:=xw.map (·.1);simpa[List.map_map,Function.comp_def]using this)) (xs:=h.un) (f:=λe=>((e.1:Nat):Int)) rfl;have hl:=vK.length_eq;obtain⟨X2,a4,zA⟩:=a3.zZ n7 p3 p4;obtain⟨B3,rm,rfl,_⟩:=p3.read;have gX:(ts.map λe=>((e.1:Nat):Int)).length=ts.length:=ak;refine aH gX ?_;refine cZ (λm I ds ae=>ds=[]/\I 0=pV (A.chan id no)/\I 42=.slice B3 ts.length rm/\I 43=iV ts.length/\∃(j:Nat) (H':Hid),j+m=ts.length/\I 44=iV j/\aq A H' (((n.jK h.co).bA id no λh=>{h with co:=[]}).kM id no (ts.take j)) X2 ae) ts.length ?_ ?_
  ·refine⟨rfl,?_,?_,?_,0,H1,ak,?_,a4⟩<;>exact wL h0 gX
  clear hY h0 bE bO oO;rintro m I ds dz Y ⟨rfl,h0,Qb,vt,j,H5,xm,tK,aj⟩ hY;have w1:IntKind.i64.wrap ((j:Int)+1)=((j+1:Nat):Int):=by have:=atA.D3;rw[wrap64 aa aa];rfl
  cases m with
  |succ m=>
   have hj:j<ts.length:=aa;have c0:(j:Int)<ts.length:=aa;obtain⟨_,sj⟩:=zA aj;obtain⟨b2,yA,e2,r2⟩:=sj.read;simp only[Value.slice.injEq]at e2;obtain⟨rfl,_,_⟩:=e2;obtain⟨ba,L,rfl,gT,hL⟩:=r2 j (aV hj);simp only[List.getElem_map,aW]at hL;obtain⟨h',q,dW,ir,hq,b1,Ae,hs⟩:=atA.back (ts.take j) ts[j] (vK.mem_iff.1 (List.getElem_mem hj)) (G2 ((vK.map (·.1)).nodup_iff.2 atA.un) hj);simp only[go_sem,seval,Qb,vt,tK,c0,decide_true];refine⟨aa,?_⟩;refine bR gT hL h0 ?_;refine aJ (Uu (nm:=ts[j].2.1) (m:=ts[j].2.2) aj dW ir hq b1 Ae hs) ?_;rintro v2 cU ⟨lP,H2,a2⟩
   cases lP
   refine bq tK w1 ?_;refine hY m _ _ _ _ aa ⟨rfl,?_,?_,?_,j+1,H2,aa,?_,by rw[an3 hj];exact a2⟩ ao
   ·exact aP h0
   ·exact aP Qb
   ·exact aP vt
   ·exact au
  |zero=>
   have c0:¬(j:Int)<ts.length:=aa;have vD:j=ts.length:=aa;rw[vD,List.take_length]at aj;simp only[go_sem,seval,vt,tK,c0,decide_false];refine aB dB ao ⟨rfl,H5,?_⟩;have e:n.release id no=((n.jK h.co).bA id no λh=>{h with co:=[]}).kM id no h.un:=by unfold N.release;rw[hh];rfl
   rw[e,<-an2 vK λg hg=>by cases yR.symm.trans hg;exact atA.sep];exact(zA aj).1
end
end Go.Qw
