/- Part 36. -/
import Derived.Test.YtpiabknabfbfhaaGreatDoorFairly35
set_option linter.all false
set_option maxRecDepth 100000
set_option maxHeartbeats 8000000
namespace Go.Qw
open Go Go.Conc Go.Proofs Go.Proofs.Tryz
def va:jA:=⟨4,200,50,50,1000⟩
def nD:List UInt8:=dt 0 10 30 (aw 2 4++aw 4 200++aw 2 50)++dt 0 10 41 (aw 1 0)++dt 1 20 11 (aw 4 0)
def apS:nD.length=49:=ir
section
variable {H:Hid}{n:N}{X:Ext}{σ:Hp}{T:Int}{W:World}{φ:Hp}
variable {A:Lay}{id:Int}{g:Nat}
def QV {h:Nat}:(pH h).length<=200:=by unfold pH;simp only[List.length_append,tq,bV,List.length_cons,List.length_nil];have:pA.length=8:=rfl;omega
def ahv {h:Nat}(hh:h<=1000)(hg:Gw g n X σ)(I:Inv T n)(hl:n.aF.length<=3)(ma:n.last<=1000000000)(hT:T<=100000000000){ot:List UInt8}
 (fN:(n.connect.feed (n.last+1) (pH h)).outs=[(n.last+1,ot)]) (h1:ot.length=nD.length+22) (h2:ot.take nD.length=nD):
 ay (uK W φ) 23 #[pV g,iV h] σ λe τ=>e=.returned (iV (n.last+1))/\Gw g (n.connect.then (n.last+1) (pH h)) X τ:=by
 refine aW func23 ntmps23 results23 λQ aC an aA=>?_;refine ag ?_;refine aL (ZZ hg I hl ma) ?_;rintro v τ ⟨hv,g1⟩
 cases hv
 have I1:=I.connect hl;refine ag ?_;refine aR (aef hh) ?_;refine ag ?_;have hlen:=QV (h:=h);have l8:=Ak (id:=n.last+1) I.ok;rw[if_pos rfl]at l8;have yA:=Pv (W:=W) (φ:=φ) (id:=n.last+1) (s:=pH h) g1 I1 aa aa;rw[l8]at yA;have afI:n.connect.then (n.last+1) (pH h)=(n.connect.feed (n.last+1) (pH h)).clean:=by unfold N.then;rw[l8]
 rw[afI]at an;refine aL yA ?_;rintro v cM ⟨v',Xp,hv,hp,A,hA,H,a⟩
 cases hv
 rw[fN]at hp;obtain⟨b,cap,rfl,Kr⟩:=hp.read a;obtain⟨ab,L,rfl,di,FE,qp⟩:=Kr 0 al;simp only[List.getElem_cons_zero,Nat.zero_mul,Nat.zero_add]at FE qp;refine ag ?_;refine aR (iA (n:=4) (w:=2) ai ai) ?_;refine ag ?_;refine aR (iA (n:=200) (w:=4) ai ai) ?_;refine ag ?_;refine aR (iA (n:=50) (w:=2) ai ai) ?_;have l1:(aw 2 4).length+(aw 4 200).length<=9223372036854775807:=ai;have l2:(aw 2 4++aw 4 200).length+(aw 2 50).length<=9223372036854775807:=ai;refine bt l1 l2 ?_;refine aR (mV (ch:=0) (cl:=10) (me:=30) (p:=aw 2 4++aw 4 200++aw 2 50) ai ai ai ai) ?_;refine ag ?_;refine aR (n7 (s:=[]) ai) ?_;refine ag ?_;refine aR (mV (ch:=0) (cl:=10) (me:=41) (p:=aw 1 0) ai ai ai ai) ?_;have m1:(dt 0 10 30 (aw 2 4++aw 4 200++aw 2 50)).length+(dt 0 10 41 (aw 1 0)).length<=9223372036854775807:=ai;have m2:(dt 0 10 30 (aw 2 4++aw 4 200++aw 2 50)++dt 0 10 41 (aw 1 0)).length+(dt 1 20 11 (aw 4 0)).length<=9223372036854775807:=ai;refine aG m1 ?_;refine aR (iA (n:=0) (w:=4) ai ai) ?_;refine ag ?_;refine aR (mV (ch:=1) (cl:=20) (me:=11) (p:=aw 4 0) ai ai ai ai) ?_;have eW:dt 0 10 30 (aw 2 4++aw 4 200++aw 2 50)++dt 0 10 41 (aw 1 0)++dt 1 20 11 (aw 4 0)=nD:=rfl;have c1:(([(n.last+1,ot)]:List (Int×List UInt8)).length:Int)=1:=rfl;have nt:(decide ¬True)=false:=ai;have lw:(ot.length:Int)=(nD.length:Int)+22:=aa
 have ww:IntKind.i64.wrap ((nD.length:Int)+22)=(nD.length:Int)+22:=by have:=apS;rw[wrap64 aa aa]
 refine BC m2 eW di qp lw ww ?_;refine⟨aa,?_⟩;have tw0:ot.take (nD.length-0)=nD:=h2;simp only[go_sem,seval,lw,tw0,Int.toNat_natCast];exact an aI ao ⟨by simp[up],A,hA,H,a.mC⟩
def Iy:EY va:=⟨⟨ai,ai,ai⟩,ai,ai,ai,ai,ai⟩
def Xe {h:Nat}{L1:List Value}(hh:h<=1000)(hb:Base σ L1){ot:List UInt8}
 (fN:((N.new va).connect.feed 1 (pH h)).outs=[(1,ot)]) (h1:ot.length=nD.length+22) (h2:ot.take nD.length=nD):
 ay (uK W φ) 13 #[iV h] σ λe τ=>∃g,e=.returned (.tuple #[pV g,iV 1])/\Gw g ((N.new va).connect.then 1 (pH h)) [] τ:=by
 refine aW func13 ntmps13 results13 λQ aC an aA=>?_;refine ag ?_;refine aL (ajq (cfg:=va) hb Iy ai ai ai ai) ?_;rintro v τ ⟨g,hv,hg⟩
 cases hv
 refine ag ?_;refine aL (ahv (n:=N.new va) hh hg (Inv.new Iy) ai ai ai fN h1 h2) ?_;rintro w τ ⟨hw,hB⟩;obtain rfl:w=iV 1:=by injection hw
 simp only[go_sem,seval];exact an (iT) ao ⟨g,by simp[up],hB⟩
end
def LU:List UInt8:=nD++ck 1 50 11 [.text [113],.long 0,.long 0]
def akZ:LU.length=nD.length+22:=ir
def ak0:LU.take nD.length=nD:=ir
def pa:N:=⟨va,0,1,0,0,[(1,⟨⟨3,[],true,4,64,0,0,0,[]⟩,[(1,⟨gu,[],[]⟩)]⟩)],[([113],⟨[],0,0,[]⟩)],[]⟩
def Xf:((N.new va).connect.feed 1 (pH 0)).outs=[(1,LU)]:=ir
def Oc:(N.new va).connect.then 1 (pH 0)=pa:=ah
def LY(ch:Nat)(key body:List UInt8):List UInt8:=dt ch 60 40 (aw 1 key.length++key)
def JU(ch:Nat)(body:List UInt8):List UInt8:=kt 2 ch (aw 2 60++aw 2 0++aw 8 body.length)
def mX(ch:Nat)(key body:List UInt8):List UInt8:=LY ch key body++JU ch body++iR ch 50 body.length body
variable {ch m f:Nat}{b:List UInt8}
def ali(h:b≠[]):iR ch m (f+1) b=kt 3 ch (b.take m)++iR ch m f (b.drop m):=by rw[iR,if_neg h]
def alh:iR ch m f []=[]:=by cases f<;>simp[iR]
def alf(hm:1<=m)(hf:b.length<=f):iR ch m f b=iR ch m b.length b:=Ty ch m hm f b.length b hf (Nat.le_refl _)
variable {σ:Hp}{E:Env prog}
def ai2{key body:List UInt8}(dK:ch<100000)(hk:key.length<=1000)(hb:body.length<=10000):ay E 16 #[iV ch,sV key,sV body] σ λe τ=>e=.returned (sV (mX ch key body))/\τ=σ:=by
 refine fI func16 ntmps16 results16 rfl al λQ aC an aA=>?_;refine ag ?_;refine aR (n7 (s:=key) aa) ?_;refine ag ?_;refine aR (mV (ch:=ch) (cl:=60) (me:=40) (p:=aw 1 key.length++key) dK ai ai (by simp[bV];omega)) ?_;refine ag ?_;refine aR (iA (n:=60) (w:=2) ai ai) ?_;refine ag ?_;refine aR (iA (n:=0) (w:=2) ai ai) ?_;have l1:(aw 2 60).length+(aw 2 0).length<=9223372036854775807:=by simp[bV]
 refine aG l1 ?_;refine aR (iA (n:=body.length) (w:=8) ai aa) ?_;have l2:(aw 2 60++aw 2 0).length+(aw 8 body.length).length<=9223372036854775807:=by simp[bV]
 refine aG l2 ?_;refine aR (GQ (kind:=2) (ch:=ch) (p:=aw 2 60++aw 2 0++aw 8 body.length) ai dK (by simp[bV])) ?_;have l3:(dt ch 60 40 (aw 1 key.length++key)).length+(kt 2 ch (aw 2 60++aw 2 0++aw 8 body.length)).length<=9223372036854775807:=by simp[tq,nL,bV];omega
 refine aG l3 ?_;refine dh (λm ρ ds ae=>ds=[]/\ρ 0=iV ch/\ae=σ/\∃(s b:List UInt8),m=b.length/\ρ 2=sV b/\ρ 7=sV s/\b.length<=body.length/\s.length+9*b.length<=100+key.length+9*body.length/\s++iR ch 50 b.length b=mX ch key body) body.length ?_ ?_
 ·refine⟨rfl,?_,rfl,LY ch key body++JU ch body,body,rfl,?_,?_,Nat.le_refl _,?_,rfl⟩
  ·exact au
  ·exact au
  ·exact au
  ·simp[LY,JU,tq,nL,bV];omega
 rintro m ρ ds fy Y ⟨rfl,h0,fE,s,b,rfl,h2,h7,AG,jq,eN⟩ hY;rw[fE];clear fE fy;by_cases lY:b=[]
 ·subst lY;have c0:¬(0:Int)<(([]:List UInt8).length:Int):=al;refine bt h2 h7 ?_;rw[List.length_nil,alh,List.append_nil]at eN;exact an aI ao ⟨by simp[up,eN],rfl⟩
 ·have mP:0<b.length:=List.length_pos_iff.2 lY;have c0:(0:Int)<b.length:=aa
  have ahK:∀k:Nat,(k=50\/k=b.length/\b.length<=50)->1<=k->k<=b.length->s++kt 3 ch (b.take k)++iR ch 50 (b.drop k).length (b.drop k)=mX ch key body:=by
   intro k hk iO Q9
   have e1:b.take 50=b.take k/\b.drop 50=b.drop k:=by
    rcases hk with rfl|⟨rfl,vn⟩
    ·exact⟨rfl,rfl⟩
    ·exact⟨by rw[List.take_of_length_le vn,List.take_of_length_le (Nat.le_refl _)],by rw[List.drop_eq_nil_of_le vn,List.drop_eq_nil_of_le (Nat.le_refl _)]⟩
   rw[<-eN];obtain⟨f,hf⟩:∃f,b.length=f+1:=⟨b.length-1,aa⟩
   conv=>rhs;rw[hf,ali lY,e1.1,e1.2]
   rw[alf ai (f:=f) (by rw[List.length_drop];omega),List.append_assoc]
  have fin:∀(aD:av) (k:Nat),(k=50\/k=b.length/\b.length<=50)->1<=k->k<=b.length->aD 0=iV ch->aD 2=sV (b.drop k)->aD 7=sV (s++kt 3 ch (b.take k))->Y aD [] σ:=by intro aD k hk iO Q9 k0 k2 k7;refine hY (b.drop k).length _ _ _ _ (by rw[List.length_drop];omega) ⟨rfl,k0,rfl,_,_,rfl,k2,k7,by rw[List.length_drop];omega,?_,ahK k hk iO Q9⟩ ao;rw[List.length_append,nL,List.length_take,List.length_drop];omega
  by_cases vn:b.length>50
  ·have c1:(50:Int)<b.length:=aa;have c2:(0:Int)<=50/\(50:Int)<=b.length:=aa;refine BC h0 h2 h7 c0 c1 c2 ?_;refine aR (GQ (kind:=3) (ch:=ch) (p:=b.take 50) ai dK (by rw[List.length_take];omega)) ?_;have l4:s.length+(kt 3 ch (b.take 50)).length<=9223372036854775807:=by rw[nL,List.length_take];omega
   have c3:(0:Int)<=50/\(50:Int)<=b.length/\(b.length:Int)<=b.length:=aa;refine fB h2 l4 c2 c3 ?_;refine fin _ 50 (.inl rfl) ai aa ?_ ?_ ?_
   ·exact aK h0
   ·refine ag ?_;rw[List.take_of_length_le (by rw[List.length_drop];exact Nat.le_refl _)]
   ·simp only[go_sem,seval]
    try rfl
  ·have c1:¬(50:Int)<b.length:=aa;have c2:(0:Int)<=b.length/\(b.length:Int)<=b.length:=aa;have et:b.take (b.length-0)=b.take b.length:=rfl;refine BC h0 h2 h7 c0 c1 c2 ?_;rw[et];refine aR (GQ (kind:=3) (ch:=ch) (p:=b.take b.length) ai dK (by rw[List.length_take];omega)) ?_;have l4:s.length+(kt 3 ch (b.take b.length)).length<=9223372036854775807:=by rw[nL,List.length_take];omega
   refine bO h2 l4 c2 ?_;refine fin _ b.length (.inr ⟨rfl,aa⟩) mP (Nat.le_refl _) ?_ ?_ ?_
   ·exact aK h0
   ·refine ag ?_;rw[List.take_of_length_le (by rw[List.length_drop];exact Nat.le_refl _)]
   ·simp only[go_sem,seval]
    try rfl
def xO(p:Nat):List UInt8:=dt 2 20 10 (aw 1 0)++dt 1 60 10 (aw 2 p)++dt 2 60 10 (aw 2 p)
def zC:List UInt8:=dt 1 60 20 (aw 1 1++[113]++(aw 1 1++[97])++aw 1 0)++dt 2 60 20 (aw 1 1++[113]++(aw 1 1++[98])++aw 1 0)
def s8(i:Nat):List UInt8:=dt (1+i % 2) 60 60 (aw 1 1++[if i % 2=1 then 98 else 97]++aw 8 (i/2+1)++aw 1 0++(aw 1 1++[113]))
def pre(w o:List UInt8):Bool:=decide (w.length<=o.length)&&decide (o.take w.length=w)
def Bz(p i:Nat):QS:=⟨[113],i-min i (2*p),(min i (2*p):Nat),2⟩
def L0(a:List QS)(b:QS):Bool:=match a with
 |[x]=>decide (x.name=b.name)&&decide (x.ready=b.ready)&&decide (x.held=b.held)&&decide (x.cons=b.cons)
 |_=>false
def uT(t:Nat):List UInt8:=dt 1 60 80 (aw 8 t++aw 1 0)
def OF(p i:Nat)(n:N):Bool:=
 (if 2*p<=i then decide (n.kV 1 (mX 1 [113] [109])=[])else pre (s8 i) (n.kV 1 (mX 1 [113] [109])))&&L0 n.og (Bz p i)&&
 (if 2*p<i then(let o:=n.kV 1 (uT 1);let w:=dt 1 60 60 (aw 1 1++[97]++aw 8 (p+1)++aw 1 0++(aw 1 1++[113]));decide (w.length<o.length)&&decide (o.take w.length=w))else true)
def mF(k:Nat):aX:=⟨k,[113],[109],false⟩
def iX(p i:Nat):N:=
 let s:=min i (2*p);let t1:=(s+1)/2;let t2:=s/2
 ⟨va,0,1,i,2,[(1,⟨⟨3,[],true,4,64,0,0,0,[]⟩,
  [(1,⟨if i=0 then⟨false,p,0,0,[],[],0⟩else⟨false,p,t1,1,[113],[109],1⟩,(List.range t1).map λk=>(k+1,([113],mF (2*k+1))),[([97],1)]⟩),
   (2,⟨⟨false,p,t2,0,[],[],0⟩,(List.range t2).map λk=>(k+1,([113],mF (2*k+2))),[([98],2)]⟩)]⟩)],
  [([113],⟨(List.range (i-s)).map λk=>mF (s+k+1),s,if s=0 then 0 else if s % 2=1 then 1 else 2,[1,2]⟩)],
  [(1,⟨1,1,[97],[113],false⟩),(2,⟨1,2,[98],[113],false⟩)]⟩
deriving instance DecidableEq for HR,CR,aX,QN,HN,CN,XN,jA,N
def Uz:∀p<5,(pa.then 1 (xO (p+1))).then 1 zC=iX (p+1) 0:=ir
def UA:∀p<5,∀i<30,(iX (p+1) i).then 1 (mX 1 [113] [109])=iX (p+1) (i+1):=ir
def Zp:∀p<5,∀i<30,OF (p+1) i (iX (p+1) i)=true:=ir
def TB{c:Int}{n:Nat}(hn:0<n):∃k:Nat,xK c n=k/\k<n:=by have:=alu (c:=c) (n:=n) aa;exact⟨(xK c n).toNat,aa,aa⟩
def KM:Inv 2000000 pa:=by have h:=((Inv.new Iy).connect ai).then (id:=1) (s:=pH 0);rw[Oc]at h;have:=QV (h:=0);exact h.mono aa
variable {c:CN}{X:Ext}{n:N}
def SX.one{f:QS->List Value}{z e:Nat}{x:QS}{v:Value}{Xp:Ext}{A:Lay}{H:Hid}(h:SX f z e [x] v Xp)(a:aq A H n (Xp++X) σ):∃(b c:Nat) (L:List Value),v=.slice (some ⟨b,0,Option.none⟩) 1 c/\σ.f b=some (.cells (f x++L).toArray e (0,0)):=by
 cases h with
 |none h=>cases h
 |«at»b c pad _ _=>exact⟨b,c,pad,rfl,by have:=aq.eC (X:=X) a;simpa using this⟩
def Gw.Oa{g:Nat}(h:Gw g n X σ):σ.f 0=some (.cells #[rT 45] 143 (0,0))/\σ.f 1=some (.cells Ef.toArray 396 (0,0)):=by obtain⟨A,_,H,a⟩:=h;refine⟨a.b0,?_⟩;rw[<-A.qp];exact a.b1
def Base.same{τ:Hp}{L1:List Value}{g:Nat}(hb:Base σ L1)(h:Gw g n X τ):τ.f 0=σ.f 0/\τ.f 1=σ.f 1:=by rw[hb.b0,hb.b1,h.Oa.1,h.Oa.2,hb.l1];exact⟨rfl,rfl⟩
def SL:(mX 1 [113] [109]).length<=100:=ir
def T8{p:Nat}:(xO p).length<=100:=by unfold xO;simp only[List.length_append,tq,bV];omega
def agx{p:Nat}(hp:p<5):∀i:Nat,i<=30->Inv (10000000+2000000*(i:Int)) (iX (p+1) i):=by
 intro i
 induction i with
 |zero=>
  intro _;have h:=(KM.then (id:=1) (s:=xO (p+1))).then (id:=1) (s:=zC);rw[Uz p hp]at h;have h1:=T8 (p:=p+1);have h2:zC.length<=100:=ir;exact h.mono aa
 |succ i ih=>
  intro hi;have h:=(ih aa).then (id:=1) (s:=mX 1 [113] [109]);rw[UA p hp i aa]at h;have h2:=SL;exact h.mono aa
def ami{a:List QS}{b:QS}(h:L0 a b=true):a=[b]:=by
 unfold L0 at h;split at h
 ·rename_i x;simp only[Bool.and_eq_true,decide_eq_true_eq]at h;obtain⟨⟨⟨h1,h2⟩,h3⟩,h4⟩:=h
  cases x;cases b;simp_all
 ·cases h
def Zo{p i:Nat}(hp:p<5)(hi:i<30):
 (2*(p+1)<=i->(iX (p+1) i).kV 1 (mX 1 [113] [109])=[])/\
 (¬2*(p+1)<=i->(s8 i).length<=((iX (p+1) i).kV 1 (mX 1 [113] [109])).length/\((iX (p+1) i).kV 1 (mX 1 [113] [109])).take (s8 i).length=s8 i)/\
 (iX (p+1) i).og=[Bz (p+1) i]/\
 (2*(p+1)<i->(dt 1 60 60 (aw 1 1++[97]++aw 8 (p+2)++aw 1 0++(aw 1 1++[113]))).length<((iX (p+1) i).kV 1 (uT 1)).length/\
  ((iX (p+1) i).kV 1 (uT 1)).take (dt 1 60 60 (aw 1 1++[97]++aw 8 (p+2)++aw 1 0++(aw 1 1++[113]))).length=dt 1 60 60 (aw 1 1++[97]++aw 8 (p+2)++aw 1 0++(aw 1 1++[113]))):=by
 have h:=Zp p hp i hi;unfold OF at h;simp only[Bool.and_eq_true]at h;obtain⟨⟨h1,h2⟩,h3⟩:=h;refine⟨λc=>?_,λc=>?_,ami h2,λc=>?_⟩
 ·rw[if_pos c]at h1;simpa using h1
 ·rw[if_neg c]at h1;unfold pre at h1;simpa only[Bool.and_eq_true,decide_eq_true_eq]using h1
 ·rw[if_pos c]at h3;simpa only[Bool.and_eq_true,decide_eq_true_eq]using h3
def EK(P:Nat):List UInt8:=dt 1 60 60 (aw 1 1++[97]++aw 8 (P+1)++aw 1 0++(aw 1 1++[113]))
variable {P:Nat}
def agw(h1:1<=P)(h5:P<=5):∀i:Nat,i<=30->Inv (10000000+2000000*(i:Int)) (iX P i):=by obtain⟨p,rfl⟩:∃p,P=p+1:=⟨P-1,aa⟩;exact agx aa
def OG{i:Nat}(h1:1<=P)(h5:P<=5)(hi:i<30):
 (2*P<=i->(iX P i).kV 1 (mX 1 [113] [109])=[])/\
 (¬2*P<=i->(s8 i).length<=((iX P i).kV 1 (mX 1 [113] [109])).length/\((iX P i).kV 1 (mX 1 [113] [109])).take (s8 i).length=s8 i)/\
 (iX P i).og=[Bz P i]/\
 (2*P<i->(EK P).length<((iX P i).kV 1 (uT 1)).length/\((iX P i).kV 1 (uT 1)).take (EK P).length=EK P):=by
 obtain⟨p,rfl⟩:∃p,P=p+1:=⟨P-1,aa⟩;exact Zo aa hi
def aol{i:Nat}(h1:1<=P)(h5:P<=5)(hi:i<30):(iX P i).then 1 (mX 1 [113] [109])=iX P (i+1):=by obtain⟨p,rfl⟩:∃p,P=p+1:=⟨P-1,aa⟩;exact UA p aa i hi
def aom(h1:1<=P)(h5:P<=5):(pa.then 1 (xO P)).then 1 zC=iX P 0:=by obtain⟨p,rfl⟩:∃p,P=p+1:=⟨P-1,aa⟩;exact Uz p aa
section
variable {H:Hid}{n:N}{σ:Hp}{c:CN}{W:World}{φ:Hp}{P:Program}{ρ:av}{ds:List Deferred}{g:Option (Nat×Bool)}
variable {A:Lay}
def aa9 {nn mm:Int}{L1:List Value}(b1: -9223372036854775808<=nn/\nn<=9223372036854775807)(b2: -9223372036854775808<=mm/\mm<=9223372036854775807)(hb:Base σ L1):
 ay (uK W φ) 4 #[iV nn,iV mm] σ λe τ=>e=.returned (.bool true)/\τ.f 0=σ.f 0/\τ.f 1=σ.f 1:=by
 refine aW func4 ntmps4 results4 λQ aC an aA=>?_;obtain⟨p,hp,lp⟩:=TB (c:=mm) (n:=5) ai;obtain⟨m,hm,lm⟩:=TB (c:=nn) (n:=30) ai;refine ag ?_;refine aL (Xe (h:=0) ai hb Xf akZ ak0) ?_;rintro v τ ⟨g,hv,hg⟩
 cases hv
 rw[Oc]at hg;refine ag ?_;refine aR (TA (n:=((5:Nat):Int)) b2 ai) ?_;rw[hp];obtain⟨P,hP,h1,h5⟩:∃P,P=p+1/\1<=P/\P<=5:=⟨_,rfl,aa,aa⟩;have w1:IntKind.i64.wrap (1+(p:Int))=(P:Int):=cI;refine aG w1 ?_;refine aR (TA (n:=((30:Nat):Int)) b1 ai) ?_;rw[hm];refine ag ?_;refine aR (n7 (s:=[]) ai) ?_;refine ag ?_;refine aR (mV (ch:=2) (cl:=20) (me:=10) (p:=aw 1 0) ai ai ai ai) ?_;refine ag ?_;refine aR (iA (n:=P) (w:=2) ai aa) ?_;refine ag ?_;refine aR (mV (ch:=1) (cl:=60) (me:=10) (p:=aw 2 P) ai ai ai (by simp[bV])) ?_;have l1:(dt 2 20 10 (aw 1 0)).length+(dt 1 60 10 (aw 2 P)).length<=9223372036854775807:=by simp[tq,bV]
 refine aG l1 ?_;refine aR (iA (n:=P) (w:=2) ai aa) ?_;refine ag ?_;refine aR (mV (ch:=2) (cl:=60) (me:=10) (p:=aw 2 P) ai ai ai (by simp[bV])) ?_;have l2:(dt 2 20 10 (aw 1 0)++dt 1 60 10 (aw 2 P)).length+(dt 2 60 10 (aw 2 P)).length<=9223372036854775807:=by simp[tq,bV]
 refine aG l2 ?_;have eA:dt 2 20 10 (aw 1 0)++dt 1 60 10 (aw 2 P)++dt 2 60 10 (aw 2 P)=xO P:=rfl;rw[eA];have hlA:=T8 (p:=P);have IA:=KM.then (id:=1) (s:=xO P);refine aL (Hg (id:=1) (s:=xO P) hg KM aa aa) ?_;rintro v fy ⟨hv,Q1⟩
 cases hv
 have k1:(aw 1 1++[113]).length+(aw 1 1++[97]).length<=9223372036854775807:=ai;have k2:(aw 1 1++[113]++(aw 1 1++[97])).length+(aw 1 0).length<=9223372036854775807:=ai;have k3:(aw 1 1++[113]).length+(aw 1 1++[98]).length<=9223372036854775807:=ai;have k4:(aw 1 1++[113]++(aw 1 1++[98])).length+(aw 1 0).length<=9223372036854775807:=ai;have k5:(dt 1 60 20 (aw 1 1++[113]++(aw 1 1++[97])++aw 1 0)).length+(dt 2 60 20 (aw 1 1++[113]++(aw 1 1++[98])++aw 1 0)).length<=9223372036854775807:=ai;refine ag ?_;refine aR (n7 (s:=[113]) ai) ?_;refine ag ?_;refine aR (n7 (s:=[97]) ai) ?_;refine aG k1 ?_;refine aR (iA (n:=0) (w:=1) ai ai) ?_;refine aG k2 ?_;refine aR (mV (ch:=1) (cl:=60) (me:=20) (p:=aw 1 1++[113]++(aw 1 1++[97])++aw 1 0) ai ai ai ai) ?_;refine ag ?_;refine aR (n7 (s:=[113]) ai) ?_;refine ag ?_;refine aR (n7 (s:=[98]) ai) ?_;refine aG k3 ?_;refine aR (iA (n:=0) (w:=1) ai ai) ?_;refine aG k4 ?_;refine aR (mV (ch:=2) (cl:=60) (me:=20) (p:=aw 1 1++[113]++(aw 1 1++[98])++aw 1 0) ai ai ai ai) ?_;refine aG k5 ?_;have eB:dt 1 60 20 (aw 1 1++[113]++(aw 1 1++[97])++aw 1 0)++dt 2 60 20 (aw 1 1++[113]++(aw 1 1++[98])++aw 1 0)=zC:=rfl;rw[eB];have hlB:zC.length<=100:=ir;refine aL (Hg (id:=1) (s:=zC) Q1 IA aa aa) ?_;rintro v cM ⟨hv,Q2⟩
 cases hv
 rw[aom h1 h5]at Q2;clear k1 k2 k3 k4 k5 eA eB hlA hlB IA hg Q1 l1 l2 w1;refine ag ?_;have w2:IntKind.i64.wrap (2*(P:Int))=((2*P:Nat):Int):=cI;have hml:=SL;refine dh (λk ρ ds cC=>ds=[]/\ρ 5=pV g/\ρ 6=iV 1/\ρ 7=iV P/\ρ 8=iV m/\∃i:Nat,k=m-i/\i<=m/\ρ 11=iV i/\ρ 9=iV ((min i (2*P)+1)/2:Nat)/\ρ 10=iV (min i (2*P)/2:Nat)/\Gw g (iX P i) [] cC) m ?_ ?_
 ·refine⟨rfl,?_,?_,?_,?_,0,rfl,Nat.zero_le _,?_,?_,?_,Q2⟩<;>simp only[go_sem,seval]<;>first|rfl|(simp)
 rintro k ρ ds dv Y ⟨rfl,Bv,En,wy,zA,i,rfl,yQ,zy,zB,Bu,Q3⟩ hY;have I:=agw h1 h5 i aa;by_cases hi:i<m
 ·have c0:(i:Int)<m:=aa;obtain⟨f1,f2,f3,f4⟩:=OG h1 h5 (i:=i) aa;have st:=aol h1 h5 (i:=i) aa;have w3:=fF i;refine lO Bv En zA zy c0 ?_;refine aR (ai2 (ch:=1) (key:=[113]) (body:=[109]) ai ai ai) ?_;refine ag ?_;refine aL (Hg (id:=1) (s:=mX 1 [113] [109]) Q3 I aa aa) ?_;rintro v fH ⟨hv,xd⟩;rw[st]at xd;obtain⟨o,ho⟩:∃o,o=(iX P i).kV 1 (mX 1 [113] [109]):=⟨_,rfl⟩;rw[<-ho]at hv f1 f2
  cases hv
  obtain⟨e,he⟩:∃e,e=i % 2:=⟨_,rfl⟩;have w4:(i:Int).tmod 2=(e:Int):=by rw[he];rfl
  have w5:IntKind.i64.wrap (1+(e:Int))=((1+e:Nat):Int):=cI;by_cases sA:2*P<=i
  ·have c1:((2*P:Nat):Int)<=i:=aa;have AS:=f1 sA;subst AS;have m1:min i (2*P)=min (i+1) (2*P):=aa;rw[m1]at zB Bu;refine Es wy zy w4 w5 w2 c1 w3 ?_;refine hY (m-(i+1)) _ _ _ _ aa ⟨rfl,?_,?_,?_,?_,i+1,rfl,aa,?_,?_,?_,xd⟩ ao
   ·exact aK Bv
   ·exact aK En
   ·exact aK wy
   ·exact aK zA
   ·exact au
   ·exact aK zB
   ·exact aK Bu
  ·have c1:¬((2*P:Nat):Int)<=i:=aa;obtain⟨Ps,Fu⟩:=f2 sA;obtain⟨q,hq⟩:∃q,q=i/2:=⟨_,rfl⟩;have w6:=fF q;by_cases AK:e=1
   ·have Kq:(min i (2*P)+1)/2=q+1:=aa;have Ko:min i (2*P)/2=q:=aa;have hw:s8 i=dt 2 60 60 (aw 1 1++[98]++aw 8 (q+1)++aw 1 0++(aw 1 1++[113])):=by unfold s8;rw[<-he,<-hq,AK];rfl
    rw[Kq]at zB;rw[Ko]at Bu;rw[hw]at Ps Fu;have w4:(i:Int).tmod 2=1:=by rw[w4,AK];rfl
    have w5:IntKind.i64.wrap 2=2:=wrap64 ai ai;have k1:(aw 1 1++[98]).length+(aw 8 (q+1)).length<=9223372036854775807:=by simp[bV]
    have k2:(aw 1 1++[98]++aw 8 (q+1)).length+(aw 1 0).length<=9223372036854775807:=by simp[bV]
    have k3:(aw 1 1++[98]++aw 8 (q+1)++aw 1 0).length+(aw 1 1++[113]).length<=9223372036854775807:=by simp[bV]
    have k4:(aw 1 1++[98]++aw 8 (q+1)++aw 1 0++(aw 1 1++[113])).length<100000:=by simp[bV]
    simp only[go_sem,seval,wy,zB,Bu,zy,w4,w5,w2,c1,w6];refine aR (n7 (s:=[98]) ai) ?_;refine ag ?_;refine aR (iA (n:=q+1) (w:=8) ai aa) ?_;refine aG k1 ?_;refine aR (iA (n:=0) (w:=1) ai ai) ?_;refine aG k2 ?_;refine aR (n7 (s:=[113]) ai) ?_;refine aG k3 ?_;refine aR (mV (ch:=2) (cl:=60) (me:=60) (p:=aw 1 1++[98]++aw 8 (q+1)++aw 1 0++(aw 1 1++[113])) ai ai ai aa) ?_;generalize dt 2 60 60 (aw 1 1++[98]++aw 8 (q+1)++aw 1 0++(aw 1 1++[113]))=w at*;have c2:¬(o.length:Int)<w.length:=aa;have c3:(0:Int)<=w.length/\(w.length:Int)<=o.length:=aa;have tw:o.take (w.length-0)=w:=Fu;simp only[go_sem,seval,zy,c2,c3,tw,w3,Int.toNat_natCast];have Ke:(min (i+1) (2*P)+1)/2=q+1:=aa;have Kc:min (i+1) (2*P)/2=q+1:=aa;refine hY (m-(i+1)) _ _ _ _ aa ⟨rfl,?_,?_,?_,?_,i+1,rfl,aa,?_,?_,?_,xd⟩ ao
    ·exact aK Bv
    ·exact aK En
    ·exact aK wy
    ·exact aK zA
    ·exact au
    ·rw[Ke];simp only[go_sem,seval,zB]
    ·rw[Kc];simp only[go_sem,seval]
   ·have QR:e=0:=aa;have Kq:(min i (2*P)+1)/2=q:=aa;have Ko:min i (2*P)/2=q:=aa;have hw:s8 i=dt 1 60 60 (aw 1 1++[97]++aw 8 (q+1)++aw 1 0++(aw 1 1++[113])):=by unfold s8;rw[<-he,<-hq,QR];rfl
    rw[Kq]at zB;rw[Ko]at Bu;rw[hw]at Ps Fu;have w4:(i:Int).tmod 2=0:=by rw[w4,QR];rfl
    have w5:IntKind.i64.wrap 1=1:=wrap64 ai ai;have k1:(aw 1 1++[97]).length+(aw 8 (q+1)).length<=9223372036854775807:=by simp[bV]
    have k2:(aw 1 1++[97]++aw 8 (q+1)).length+(aw 1 0).length<=9223372036854775807:=by simp[bV]
    have k3:(aw 1 1++[97]++aw 8 (q+1)++aw 1 0).length+(aw 1 1++[113]).length<=9223372036854775807:=by simp[bV]
    have k4:(aw 1 1++[97]++aw 8 (q+1)++aw 1 0++(aw 1 1++[113])).length<100000:=by simp[bV]
    refine pT wy zB zy w4 w5 w2 c1 w6 ?_;refine aR (n7 (s:=[97]) ai) ?_;refine ag ?_;refine aR (iA (n:=q+1) (w:=8) ai aa) ?_;refine aG k1 ?_;refine aR (iA (n:=0) (w:=1) ai ai) ?_;refine aG k2 ?_;refine aR (n7 (s:=[113]) ai) ?_;refine aG k3 ?_;refine aR (mV (ch:=1) (cl:=60) (me:=60) (p:=aw 1 1++[97]++aw 8 (q+1)++aw 1 0++(aw 1 1++[113])) ai ai ai aa) ?_;generalize dt 1 60 60 (aw 1 1++[97]++aw 8 (q+1)++aw 1 0++(aw 1 1++[113]))=w at*;have c2:¬(o.length:Int)<w.length:=aa;have c3:(0:Int)<=w.length/\(w.length:Int)<=o.length:=aa;have tw:o.take (w.length-0)=w:=Fu;simp only[go_sem,seval,zy,c2,c3,tw,w3,Int.toNat_natCast];have Ke:(min (i+1) (2*P)+1)/2=q+1:=aa;have Kc:min (i+1) (2*P)/2=q:=aa;refine hY (m-(i+1)) _ _ _ _ aa ⟨rfl,?_,?_,?_,?_,i+1,rfl,aa,?_,?_,?_,xd⟩ ao
    ·exact aK Bv
    ·exact aK En
    ·exact aK wy
    ·exact aK zA
    ·exact au
    ·rw[Ke];simp only[go_sem,seval]
    ·rw[Kc];simp only[go_sem,seval,Bu]
 ·have c0:¬(i:Int)<m:=aa;refine fB Bv zA zy c0 ?_;obtain rfl:i=m:=aa;clear hY;refine aL (anB Q3 I.ok) ?_;rintro v fH ⟨qv,cv,Xq,Y2,hv,wX,xd,kO⟩;obtain⟨cb,cc,rfl,_⟩:=kO.read;injection hv with hv;subst hv;obtain⟨f1,f2,f3,f4⟩:=OG h1 h5 (i:=i) aa;rw[f3]at wX;obtain⟨A,hA,H,a⟩:=xd;obtain⟨qb,qc,L,rfl,vB⟩:=wX.one a;have xd:Gw g (iX P i) (Xq++(Y2++[])) fH:=⟨A,hA,H,a⟩;have xe:Gw g (iX P i) [] fH:=xd.drop.drop;refine ag ?_;refineλb2 eQ=>?_;have JM:∀o,(fH.set b2 o).f qb=some (.cells ((Bz P i).vals++L).toArray 39 (0,0)):=λo=>by rw[Hp.az (bp eQ vB)];exact vB
  have hle:∀o,fH.le (fH.set b2 o):=λo x q hx=>by rw[Hp.az (bp eQ hx)];exact hx
  obtain⟨s,hs⟩:∃s,s=min i (2*P):=⟨_,rfl⟩;obtain⟨u,hu⟩:∃u,u=i-s:=⟨_,rfl⟩
  have hv:(Bz P i).vals=[sV [113],iV u,iV s,iV 2]:=by have e1:(i:Int)-(s:Int)=u:=aa;simp only[Bz,QS.vals,<-hs,e1]
  rw[hv]at JM;have nt:(decide ¬True)=false:=ai;by_cases hgt:2*P<i
  ·have c1:((2*P:Nat):Int)<i:=aa;have e3:((2*P:Nat):Int)=s:=aa;have w7:IntKind.i64.wrap ((i:Int)-(s:Int))=(u:Int):=cI;rw[e3]at w2 c1;refine pT Bv En wy zA w2 c1 JM w7 ?_;refine aR (iA (n:=1) (w:=8) ai ai) ?_;refine ag ?_;refine aR (iA (n:=0) (w:=1) ai ai) ?_;have k1:(aw 8 1).length+(aw 1 0).length<=9223372036854775807:=ai;refine aG k1 ?_;refine aR (mV (ch:=1) (cl:=60) (me:=80) (p:=aw 8 1++aw 1 0) ai ai ai ai) ?_;obtain⟨k2,k3⟩:=f4 hgt;have Rc:(uT 1).length<=100:=ir;have eK:dt 1 60 80 (aw 8 1++aw 1 0)=uT 1:=rfl;rw[eK];refine ag ?_;refine aL ((Hg (id:=1) (s:=uT 1) xe I aa aa).ik (by rw[Hp.set_set];exact hle _)) ?_;rintro v wH ⟨hv,sz⟩;obtain⟨o,ho⟩:∃o,o=(iX P i).kV 1 (uT 1):=⟨_,rfl⟩;rw[<-ho]at hv k2 k3
   cases hv
   have w8:=fF P;have j1:(aw 1 1++[97]).length+(aw 8 (P+1)).length<=9223372036854775807:=by simp[bV]
   have j2:(aw 1 1++[97]++aw 8 (P+1)).length+(aw 1 0).length<=9223372036854775807:=by simp[bV]
   have j3:(aw 1 1++[97]++aw 8 (P+1)++aw 1 0).length+(aw 1 1++[113]).length<=9223372036854775807:=by simp[bV]
   have j4:(aw 1 1++[97]++aw 8 (P+1)++aw 1 0++(aw 1 1++[113])).length<100000:=by simp[bV]
   refine ag ?_;refine aR (n7 (s:=[97]) ai) ?_;refine bt wy w8 ?_;refine aR (iA (n:=P+1) (w:=8) ai aa) ?_;refine aG j1 ?_;refine aR (iA (n:=0) (w:=1) ai ai) ?_;refine aG j2 ?_;refine aR (n7 (s:=[113]) ai) ?_;refine aG j3 ?_;refine aR (mV (ch:=1) (cl:=60) (me:=60) (p:=aw 1 1++[97]++aw 8 (P+1)++aw 1 0++(aw 1 1++[113])) ai ai ai aa) ?_;have eW:dt 1 60 60 (aw 1 1++[97]++aw 8 (P+1)++aw 1 0++(aw 1 1++[113]))=EK P:=rfl;rw[eW];generalize EK P=w at*;have c2:(w.length:Int)<o.length:=aa;have c3:(0:Int)<=w.length/\(w.length:Int)<=o.length:=aa;have tw:o.take (w.length-0)=w:=k3;simp only[go_sem,seval,c2,c3,tw,Int.toNat_natCast];exact an aI ao ⟨by simp[up],hb.same sz⟩
  ·have c1:¬((2*P:Nat):Int)<i:=aa;obtain rfl:s=i:=aa;have w7:IntKind.i64.wrap ((s:Int)-(s:Int))=(u:Int):=cI;refine BC wy zA w2 c1 JM w7 ?_;exact an aI (hle _) ⟨by simp[up],hb.same xe⟩
end
end Go.Qw
