/- 33 -/
import Derived.Test.YtpiabknabfbfhaaGreatDoorFramed32
set_option linter.all false
set_option maxRecDepth 100000
set_option maxHeartbeats 8000000
namespace Go.Qw
def alB(ch m:Nat)(hm:1<=m):∀(f:Nat) (b:List UInt8),(mw ch m f b).length<=9*b.length:=by
 intro f
 induction f with
 |zero=>intro b;simp[mw]
 |succ f ih=>
  intro b;unfold mw;split
  ·simp
  ·rename_i hb;have h1:=ih (b.drop m);have h2:0<b.length:=List.length_pos_iff.2 hb;rw[List.length_append,qy,List.length_take];rw[List.length_drop]at h1;omega
def mG(ch cl me:Nat)(xs:List Arg):(cg ch cl me xs).length=(bZ xs).length+12:=by unfold cg;rw[qy];simp only[List.length_append,cB];omega
def aas{ch size:Nat}{b:List UInt8}(hs:9<=size):(lI ch b size).length<=20+9*b.length:=by unfold lI;have:=alB ch (size-8) aa b.length b;simp only[List.length_append,qy,cB];omega
section
variable {n:N}{n':N}{T:Int}{K:Nat}{ex:List Int}{aI:Int}{no:Nat}{c:CN}{h:HN}{nm:List UInt8}{q:QN}{k:Int}{x:XN}{m:aQ}{l:List Int}
variable {id:Int}
def Ok.PO (o:Ok T K ex n)(hc:n.ar id=some c):∃fr:Nat,c.r.frame=(fr:Int)/\64<=fr/\fr<=4096:=⟨c.r.frame.toNat,by have:=(o.c _ _ hc).r.frame;omega,by have:=(o.c _ _ hc).r.frame;omega,by have:=(o.c _ _ hc).r.frame;omega⟩
def Ok.LH (o:Ok T K ex n)(hh:n.h? id no=some h):1<=no/\no<=8:=by obtain⟨c,hc⟩:=xd hh;exact(o.c _ _ hc).no _ (gI (CI hh hc))
def Ok.UQ (o:Ok T K ex n)(hh:n.h? id no=some h):∀e∈h.un,(e.1:Int)≠h.r.tag+1:=λe he hx=>by have:=(o.h _ _ _ hh).ut e he;omega
def Ok.alT (o:Ok T K ex n)(hT:T<=1000000000000):ym n:=⟨⟨o.gE.1,Int.le_trans o.gE.2 hT⟩,λnm q hq=>by have:=o.held hq;omega⟩
def Ok.acv (o:Ok T K ex n)(hT:T<=1000000000000)(hh:n.h? id no=some h):Ia n h:=
 ⟨⟨(o.h _ _ _ hh).tag.1,Int.le_trans (o.h _ _ _ hh).tag.2 hT⟩,o.UQ hh,λnm q hq=>⟨by have:=o.held hq;omega,by have:=o.held hq;omega,λm hm=>by have:=(o.q _ _ hq).msg m hm;exact⟨by have:=this.body;omega,by have:=this.key;omega⟩⟩⟩
def Ok.ajm (o:Ok T K ex n)(hT:T<=1000000000000)(hK:K<=100000000000000)(hc:n.ar id=some c)(hh:n.h? id no=some h):Ie n id no c h:=by
 refine⟨o.w,by have:=o.LH hh;omega,Nat.le_trans (o.c _ _ hc).r.out hK,(o.h _ _ _ hh).s6,o.Vq,⟨o.aY.1,Int.le_trans o.aY.2 hT⟩,λnm q hq=>by have:=o.held hq;have:=o.GP hq;omega,λtg k hk=>?_,?_,o.acv hT hh,λtag many b=>o.OD hh _ b,?_⟩
 ·obtain⟨x,hx,_⟩:=o.w.co _ _ _ hh _ (gI hk);exact o.Zt hx
 ·obtain⟨fr,h1,h2,h3⟩:=o.PO hc;exact⟨fr,h1,aa,aa⟩
 ·exact(o.send (id:=id) (s:=cg no 20 41 [])).Fs (by rw[pO];exact hh)
def Ok.abZ (o:Ok T K ex n)(hT:T<=1000000000000)(hK:K<=100000000000000)(hc:n.ar id=some c)(hh:n.h? id no=some h):E4 n id no c h:=
 ⟨o.ajm hT hK hc hh,o.alT hT,(o.h _ _ _ hh).want,by have:=(o.h _ _ _ hh).body;omega,o.Fs hh⟩
def Ok.ad4 (o:Ok T K ex n)(hT:T<=1000000000000)(hK:K<=100000000000000)(hc:n.ar id=some c):Np n id c:=
 ⟨o.w,Nat.le_trans (o.c _ _ hc).r.out hK,o.Fq hc,λno h hh=>o.abZ hT hK hc hh⟩
def UZ (h:n.uS q=some k):k∈q.cons:=by
 unfold N.uS at h;rw[Option.or_eq_some_iff]at h;rcases h with h|⟨_,h⟩
 ·exact(List.mem_filter.1 (List.mem_of_find?_eq_some h)).1
 ·exact(List.mem_filter.1 (List.mem_of_mem_head? h)).1
def Ok.Hj (o:Ok T K ex n)(hT:T<=1000000000000)(hK:K<=100000000000000):Ig n:=by
 have can:∀nm q,n.q? nm=some q->H8 n nm q:=λnm q hq=>⟨by have:=o.GP hq;omega,λk hk=>by
  obtain⟨x,hx,hn⟩:=o.w.qc _ _ hq k hk
  obtain⟨h,hh,_⟩:=o.w.xh _ _ hx
  exact⟨x,h,hx,hn,hh⟩⟩
 refine⟨o.sq,by have:=o.lq;omega,λnm q hq=>⟨can nm q hq,by have:=o.held hq;omega⟩,λnm q m ms k hq hr ht=>?_⟩;obtain⟨x,h,hx,hn,hh⟩:=(can nm q hq).2 k (UZ ht);obtain⟨c,hc⟩:=xd hh;obtain⟨fr,h1,h2,h3⟩:=o.PO hc;have hm:=(o.q _ _ hq).msg m (by rw[hr];simp);refine⟨x,c,h,{q with ready:=q.ready.tail,last:=k},fr,hx,hc,hh,by rw[uH,if_pos hn,hn,hq];rfl,⟨(o.h _ _ _ hh).tag.1,Int.le_trans (o.h _ _ _ hh).tag.2 hT⟩,by have:=o.held hq;simp only;omega,o.UQ hh,h1,aa,by have:=o.LH hh;omega,Nat.le_trans (o.c _ _ hc).r.out hK,by have:=hm.body;omega,by have:=hm.key;omega,by have:=(o.x _ _ hx).2;omega⟩
def ab0 (hc:n.ar id=some c):n.frame id=c.r.frame.toNat:=by unfold N.frame;rw[hc];rfl
def Ok.give (o:Ok T K ex n)(hm:BR m){s:List UInt8}(hs:s.length<=900)(hi:(n.ar id).isSome):Ok T (K+100000) ex (n.give id no m s):=by
 unfold N.give;obtain⟨c,hc⟩:=Option.isSome_iff_exists.1 hi;have h1:9<=n.frame id:=by rw[ab0 hc];have:=(o.c _ _ hc).r.frame;omega
 have h2:=aas (ch:=no) (b:=m.body) h1;have h3:=hm.body;refine((o.send (id:=id) (s:=s)).send).mono (Int.le_refl _) ?_;omega
def Sc {na:Bool}(hc:(n.ar aI).isSome):((n.hand id no nm m na).ar aI).isSome:=by
 unfold N.hand;split
 ·rw[IL];split
  ·simpa using hc
  ·exact hc
 ·rw[yz,vl];split
  ·simpa using hc
  ·exact hc
def rj (a:Arg)(l:List Arg):(bZ (a::l)).length=(dC a).length+(bZ l).length:=by unfold bZ;rw[List.flatMap_cons,List.length_append]
def mD:(bZ []).length=0:=rfl
def Iw (k:Nat):(dC (.short k)).length=2:=cB _ _
def Ab (k:Nat):(dC (.long k)).length=4:=cB _ _
def NP (k:Nat):(dC (.ng k)).length=8:=cB _ _
def NO (b:Bool):(dC (.flag b)).length=1:=cB _ _
def vc (s:List UInt8):(dC (.text s)).length=1+s.length:=by show(bp 1 s.length++s).length=_;rw[List.length_append,cB]
def Ok.gN (o:Ok T K ex n)(hs:n.gN nm=some n'):Ok (T+1) (K+100000) ex n':=by
 unfold N.gN at hs;split at hs
 ·cases hs
 ·rename_i q hq;split at hs
  ·cases hs
  ·rename_i m ms hr;split at hs
   ·cases hs
   ·rename_i k ht
    cases hs
    obtain⟨x,hx,hn⟩:=o.w.qc _ _ hq k (UZ ht);obtain⟨h,hh,_⟩:=o.w.xh _ _ hx;obtain⟨c,hc⟩:=xd hh;have hm:=(o.q _ _ hq).msg m (by rw[hr];simp);unfold N.take;rw[aqJ,hx];simp only[];rw[hn];have o1:=o.hand (na:=x.fp) (g:=λq=>{q with ready:=q.ready.tail,last:=k}) hh hq hr ⟨by simp only[hr,List.tail_cons],rfl,rfl⟩;refine o1.give hm ?_ (Sc (by rw[yz,hc];rfl));rw[mG];simp only[rj,mD,vc,NP,NO];have h1:=(o.x _ _ hx).2;have h2:=hm.key;omega
def N.qT (n:N):Nat:=(n.aL.map λe=>e.2.ready.length).sum
def Ok.qT (o:Ok T K ex n):n.qT<=400:=by have h1:n.qT<=n.aL.length*50:=Hu λe he=>(o.held (ni o.nq he)).2.2;have:=o.lq;omega
def anf (o:Ok T K ex n)(hs:n.gN nm=some n'):n'.qT+1=n.qT:=by
 unfold N.gN at hs;split at hs
 ·cases hs
 ·rename_i q hq;split at hs
  ·cases hs
  ·rename_i m ms hr;split at hs
   ·cases hs
   ·rename_i k ht
    cases hs
    have h1:=Ht o.nq hq (λq=>{q with ready:=q.ready.tail,last:=k}) λq=>q.ready.length;have e1:(n.bF nm λq=>{q with ready:=q.ready.tail,last:=k}).qT+q.ready.length=n.qT+q.ready.tail.length:=h1;rw[hr,List.length_cons,List.tail_cons]at e1
    have h2:∀(n:N) id no nm m na,(n.aL.map (·.1)).Nodup->(n.hand id no nm m na).qT=n.qT:=λn id no nm m na hq=>by
     unfold N.hand;split
     ·rfl
     ·exact MC (l:=n.aL) (k:=nm) (λq:QN=>{q with held:=q.held+1}) (λq:QN=>q.ready.length) (λ_ _=>rfl) hq
    have h3:(N.take (n.bF nm λq=>{q with ready:=q.ready.tail,last:=k}) k m).qT=(n.bF nm λq=>{q with ready:=q.ready.tail,last:=k}).qT:=by
     unfold N.take;split
     ·rfl
     ·exact h2 _ _ _ _ _ _ (by rw[Bq];exact o.nq)
    rw[h3];omega
def nO (T:Int)(K:Nat)(ex:List Int)(atA:Nat)(n:N):Prop:=∃j:Nat,Ok (T+j) (K+100000*j) ex n/\j+n.qT<=atA
def nO.step {atA:Nat}(o:nO T K ex atA n)(hs:n.gN nm=some n'):nO T K ex atA n':=by obtain⟨j,h1,h2⟩:=o;refine⟨j+1,?_,by have:=anf h1 hs;omega⟩;exact(h1.gN hs).mono aa aa
def nO.iX {atA:Nat}(o:nO T K ex atA n){f:Nat}:nO T K ex atA (n.iX f nm):=by
 induction f generalizing n with
 |zero=>exact o
 |succ f ih=>
  unfold N.iX
  cases h:n.gN nm with
  |none=>exact o
  |some n'=>exact ih (o.step h)
def nO.serve {atA:Nat}(o:nO T K ex atA n):nO T K ex atA n.serve:=by
 unfold N.serve;generalize n.aL.map (·.1)=l
 induction l generalizing n with
 |nil=>exact o
 |cons a l ih=>rw[List.foldl_cons];exact ih o.iX
def Ok.Mi (o:Ok T K ex n):nO T K ex 400 n:=⟨0,o.mono aa aa,by have:=o.qT;omega⟩
def nO.ok (o:nO T K ex 400 n):Ok (T+400) (K+40000000) ex n:=by obtain⟨j,h1,h2⟩:=o;exact h1.mono aa aa
def nO.Hj (o:nO T K ex 400 n)(hT:T+400<=1000000000000)(hK:K+40000000<=100000000000000):Ig n:=o.ok.Hj hT hK
def Ok.serve (o:Ok T K ex n):Ok (T+400) (K+40000000) ex n.serve:=o.Mi.serve.ok
end
variable {s r:List UInt8}
def akt{k:Nat}(h:eP 1 s=some (k,r)):k<=255:=by
 unfold eP at h;split at h
 ·rename_i hl;injection h with h;injection h with h1 h2
  cases s with
  |nil=>simp at hl
  |cons a s=>subst h1;simp[num];have:=a.toNat_lt;omega
 ·cases h
def L4{a:List UInt8}(h:jm s=some (a,r)):a.length<=255:=by
 unfold jm at h;obtain⟨⟨k,t⟩,h1,h2⟩:=Option.bind_eq_some_iff.1 h;have:=akt h1;unfold xN at h2;split at h2
 ·injection h2 with h2;injection h2 with h3 h4;subst h3;rw[List.length_take];omega
 ·cases h2
section
variable {n:N}{n':N}{T:Int}{T':Int}{K:Nat}{K':Nat}{ex:List Int}{fD:List Int}{aI:Int}{no:Nat}{c:CN}{h:HN}{nm:List UInt8}{q:QN}{k:Int}{x:XN}{m:aQ}{l:List Int}
variable {id:Int}
def jG (T:Int)(K:Nat)(id:Int):HO->Prop
 | .bad _ _=>True
 | .ok n er=>Ok T K [id] n/\(n.ar id).isSome/\(Ok T K [] n\/∃e cl me,er=.cA e cl me/\n.ph id≠4)
def jG.of {er:Er}(o:Ok T K [] n)(hi:(n.ar id).isSome):jG T K id (.ok n er):=⟨o.Px ak,hi,.inl o⟩
def jG.same {er:Er}(o:Ok T K [] n)(hi:(n.ar id).isSome)(hT:T<=T')(hK:K<=K'):jG T' K' id (.ok n er):=.of (o.mono hT hK) hi
def og {s:List UInt8}(h:(n.ar aI).isSome):((n.send id s).ar aI).isSome:=by rw[sw];split<;>simpa using h
def zj {f:CR->CR}(h:(n.ar aI).isSome):((n.bC id f).ar aI).isSome:=by rw[qm];split<;>simpa using h
def DK {f:HR->HR}(h:(n.ar aI).isSome):((n.cf id no f).ar aI).isSome:=by rw[IL];split<;>simpa using h
def GN {f:CN->CN}(h:(n.ar aI).isSome):((n.dn id f).ar aI).isSome:=by rw[ql];split<;>simpa using h
def DJ (h:(n.ar aI).isSome)(e:n'.rC aI=n.rC aI):(n'.ar aI).isSome:=by
 unfold N.rC at e
 cases h1:n'.ar aI with
 |some _=>rfl
 |none=>rw[h1]at e;obtain⟨c,hc⟩:=Option.isSome_iff_exists.1 h;rw[hc]at e;cases e
def KY (h:(n.ar aI).isSome):((n.lJ id no).ar aI).isSome:=GN (DJ h Bs)
def Sd (h:(n.ar aI).isSome):((n.leave id).ar aI).isSome:=by
 unfold N.leave;split
 ·exact h
 ·exact GN (DJ h Es)
def TT {p:Nat->Bool}{b:Bool}{l:List (Nat×(List UInt8×aQ))}:(n.jD id no p b l).rC aI=n.rC aI:=by
 unfold N.jD
 induction l generalizing n with
 |nil=>rfl
 |cons e l ih=>
  rw[List.foldl_cons,ih];split
  ·exact TS
  ·rfl
def ahy {p:Nat->Bool}{b:Bool}{l:List (Nat×(List UInt8×aQ))}(h:(n.ar aI).isSome):((n.jD id no p b l).ar aI).isSome:=DJ h TT
def ahu {s:List UInt8}(h:(n.ar aI).isSome):((n.give id no m s).ar aI).isSome:=og (og h)
def ahx {key body:List UInt8}(h:(n.ar aI).isSome):((n.iS key body).1.ar aI).isSome:=by
 unfold N.iS;split
 ·exact h
 ·split
  ·exact h
  ·exact h
def Ok.send' (o:Ok T K ex n){s:List UInt8}(hs:s.length<=1000):Ok T (K+1000) ex (n.send id s):=o.send.mono (Int.le_refl _) aa
def akQ (o:Ok T K [] n)(hi:(n.ar id).isSome){s:List UInt8}{cl me:Nat}:jG (T+1) (K+101000) id (n.declare id no s cl me):=by
 unfold N.declare;split
 ·rename_i nm hp;have hl:=L4 hp;split
  ·refine .same (o.send' ?_) (og hi) aa aa;rw[mG];simp only[rj,mD,vc,Ab];omega
  ·rename_i hq;split
   ·exact .same o hi aa aa
   ·split
    ·exact .same o hi aa aa
    ·rename_i h8;have o1:=o.ta hq (by have:=o.lq;omega) o.cfg.amC;refine .same (o1.send' (id:=id) (s:=cg no 50 11 [.text nm,.long 0,.long 0]) ?_) (og (n:={n with aL:=cJ cN n.aL nm ⟨[],0,0,[]⟩}) hi) aa aa;rw[mG];simp only[rj,mD,vc,Ab];omega
 ·trivial
def akZ (o:Ok T K [] n)(hi:(n.ar id).isSome){s:List UInt8}{cl me:Nat}:jG (T+1) (K+101000) id (n.lU id no s cl me):=by
 unfold N.lU;split
 ·rename_i nm hp;split
  ·rename_i q hq;have o1:Ok T K [] (n.bF nm λq=>{q with ready:=[]}):=o.bF λq _=>⟨List.nil_sublist _,rfl,rfl⟩;refine .same (o1.send' ?_) (og (by rw[yz];exact hi)) aa aa;rw[mG];simp only[rj,mD,Ab];omega
  ·exact .same o hi aa aa
 ·trivial
def ak0 (o:Ok T K [] n)(hh:n.h? id no=some h){s:List UInt8}{cl me:Nat}:jG (T+1) (K+101000) id (n.ow id no s cl me):=by
 have hi:=adX hh;unfold N.ow;split
 ·rename_i k hp;have oh:=o.h _ _ _ hh;have o1:Ok T K [] (n.cf id no λr=>{r with nz:=k}):=o.cf hh {oh with} (Int.le_refl _) (λh1 h2=>o.part _ _ h hh h1 h2) (λ_ h=>h);refine .same (o1.send' ?_) (og (DK hi)) aa aa;rw[mG];simp only[mD];omega
 ·trivial
where adX {n:N} {id:Int} {no:Nat} {h:HN} (hh:n.h? id no=some h):(n.ar id).isSome:=by obtain⟨c,hc⟩:=xd hh;rw[hc];rfl
def uo (hh:n.h? id no=some h):(n.ar id).isSome:=by obtain⟨c,hc⟩:=xd hh;rw[hc];rfl
def akO (o:Ok T K [] n)(hh:n.h? id no=some h){s:List UInt8}{cl me:Nat}:jG (T+1) (K+101000) id (n.consume id no h s cl me):=by
 have hi:=uo hh;unfold N.consume;split
 ·rename_i nm s1 _;split
  ·rename_i tg s2 _;split
   ·rename_i na _;split
    ·exact .same o hi aa aa
    ·rename_i AX;split
     ·exact .same o hi aa aa
     ·rename_i q hq;split
      ·exact .same o hi aa aa
      ·rename_i tV;split
       ·exact .same o hi aa aa
       ·rename_i h4
        have ht:bw h.co tg=none:=by cases h:bw h.co tg with
         |none=>rfl
         |some _=>rw[h]at tV;simp at tV
        have o1:=o.jr (na:=na) hh hq ht (by have:=(o.h _ _ _ hh).s6;omega) aa;refine .same (o1.send' (id:=id) (s:=cg no 60 21 [.text tg]) ?_) (og ?_) aa aa
        ·rw[mG];simp only[rj,mD,vc];omega
        ·exact GN (show(N.ar (N.bF {n with aY:=n.aY+1,xs:=n.xs++[(n.aY+1,⟨id,no,tg,nm,na⟩)]} nm λq=>{q with cons:=q.cons++[n.aY+1]}) id).isSome from hi)
   ·trivial
  ·trivial
 ·trivial
def akM (o:Ok T K [] n)(hh:n.h? id no=some h){s:List UInt8}{cl me:Nat}:jG (T+1) (K+101000) id (n.mH id no h s cl me):=by
 have hi:=uo hh;unfold N.mH;split
 ·rename_i tg hp;have hl:=L4 hp
  have o1:Ok T K [] (n.nJ id no h tg)/\((n.nJ id no h tg).ar id).isSome:=by
   unfold N.nJ
   cases hk:bw h.co tg with
   |none=>exact⟨o,hi⟩
   |some k=>
    simp only[];rw[OE o.qx];refine⟨o.nJ hh [k] (f:=λh=>{h with co:=cH h.co tg}) (λ_=>⟨rfl,rfl⟩) ?_ ?_,?_⟩
    ·show cH h.co tg=_;unfold cH;apply List.filter_congr;intro e he;obtain⟨x,hx,_,_,ht⟩:=o.w.co _ _ _ hh e he;obtain⟨y,hy,_,_,Gy⟩:=o.w.co _ _ _ hh _ (gI hk);rw[decide_eq_decide];simp only[ne_eq,List.mem_singleton];constructor
     ·intro h1 h2;rw[h2]at hx;simp only at hy;rw[hx]at hy;cases hy;exact h1 (by rw[<-ht,Gy])
     ·intro h1 h2;have:=ni (o.h _ _ _ hh).cn he;rw[h2,hk]at this
      cases this;exact h1 rfl
    ·intro j hj;simp only[List.mem_singleton]at hj;subst hj;exact List.mem_map_of_mem (f:=(·.2)) (gI hk)
    ·rw[vl];split
     ·simpa using hi
     ·exact hi
  refine .same (o1.1.send' ?_) (og o1.2) aa aa;rw[mG];simp only[rj,mD,vc];omega
 ·trivial
def akY (o:Ok T K [] n)(hh:n.h? id no=some h){s:List UInt8}{cl me:Nat}:jG (T+1) (K+101000) id (n.ov id no s cl me):=by
 have hi:=uo hh;unfold N.ov;split
 ·rename_i key hp;have oh:=o.h _ _ _ hh;exact .same (o.cf (T':=T) (fD:=[]) hh {oh with want:=⟨ak,ak⟩,key:=L4 hp} (Int.le_refl _) (λ_ h2=>by simp at h2) (λ_ h=>h)) (DK hi) aa aa
 ·trivial
def akS (o:Ok T K [] n)(hh:n.h? id no=some h){s:List UInt8}{cl me:Nat}:jG (T+1) (K+101000) id (n.get id no s cl me):=by
 have hi:=uo hh;unfold N.get;split
 ·rename_i nm s1 _;split
  ·rename_i na _;split
   ·exact .same o hi aa aa
   ·rename_i q hq;split
    ·refine .same (o.send' ?_) (og hi) aa aa;rw[mG];simp only[mD];omega
    ·rename_i m ms hr;have hm:=(o.q _ _ hq).msg m (by rw[hr];simp);have o1:=o.hand (na:=na) (g:=λq=>{q with ready:=q.ready.tail}) hh hq hr ⟨by simp only[hr,List.tail_cons],rfl,rfl⟩;have mh:(N.ar (N.hand (n.bF nm λq=>{q with ready:=q.ready.tail}) id no nm m na) id).isSome:=Sc (by rw[yz];exact hi);refine .same (o1.give hm ?_ mh) (ahu mh) aa aa;rw[mG];simp only[rj,mD,NP,NO,vc,Ab];have:=hm.key;omega
  ·trivial
 ·trivial
def ak1 (o:Ok T K [] n)(hh:n.h? id no=some h){s:List UInt8}{cl me:Nat}:jG (T+1) (K+101000) id (n.settled id no h s cl me):=by
 have hi:=uo hh;unfold N.settled;split
 ·split
  ·split
   ·split
    ·exact .same o.jD (ahy hi) aa aa
    ·exact .same o hi aa aa
   ·trivial
  ·trivial
 ·trivial
def akN (o:Ok T K [] n)(hi:(n.ar id).isSome){s:List UInt8}{cl me:Nat}:jG (T+1) (K+101000) id (n.close id no s cl me):=by
 unfold N.close;split
 ·refine .same (o.send' ?_).lJ (KY (og hi)) aa aa;rw[mG];simp only[mD];omega
 ·trivial
def akV (o:Ok T K [] n)(hh:n.h? id no=some h){s:List UInt8}{cl me:Nat}:jG (T+1) (K+101000) id (n.method id no h s cl me):=by
 have hi:=uo hh;unfold N.method;split
 ·exact .same o hi aa aa
 split
 ·exact akN o hi
 split
 ·exact akQ o hi
 split
 ·exact akZ o hi
 split
 ·exact ak0 o hh
 split
 ·exact akO o hh
 split
 ·exact akM o hh
 split
 ·exact akY o hh
 split
 ·exact akS o hh
 split
 ·exact ak1 o hh
 split
 ·exact .same o hi aa aa
 ·exact .same o hi aa aa
def Tw (o:Ok T K [] n)(hh:n.h? id no=some h){r:HR}(hr:r.nz=h.r.nz/\r.tag=h.r.tag/\r.key=h.r.key)(hw:r.want=3)(hb:(r.body.length:Int)<=r.size)(hs:r.size<=10000):jG (T+1) (K+101000) id (n.whole id no r):=by
 have hi:=uo hh;have oh:=o.h _ _ _ hh;obtain⟨r1,r2,r3⟩:=hr;unfold N.whole;split
 ·exact .same (o.cf (T':=T) (fD:=[]) hh ⟨oh.un,by simp only[r2];exact oh.ut,by simp only[r2];exact oh.tag,oh.co,oh.cn,oh.s6,by simp only[hw];omega,by simp only;omega,hs,by simp only[r3];exact oh.key,oh.msg⟩ (Int.le_refl _) (λ_ _=>hb) (λ_ h=>h)) (DK hi) aa aa
 ·have o1:Ok T K [] (n.cf id no λ_=>{r with want:=1}):=o.cf (T':=T) (fD:=[]) hh ⟨oh.un,by simp only[r2];exact oh.ut,by simp only[r2];exact oh.tag,oh.co,oh.cn,oh.s6,ak,by simp only;omega,hs,by simp only[r3];exact oh.key,oh.msg⟩ (Int.le_refl _) (λ_ h2=>by simp at h2) (λ_ h=>h);exact .same (o1.iS (key:=r.key) (body:=r.body) (by rw[r3];exact oh.key) aa) (ahx (DK hi)) aa aa
def akU (o:Ok T K [] n)(hh:n.h? id no=some h){s:List UInt8}:jG (T+1) (K+101000) id (n.header id no h.r s):=by
 have hi:=uo hh;unfold N.header;split
 ·split
  ·split
   ·split
    ·rename_i low _;split
     ·exact .same o hi aa aa
     ·split
      ·exact .same o hi aa aa
      ·rename_i hn;have:=o.cfg.body;exact Tw o hh ⟨rfl,rfl,rfl⟩ rfl ak (by simp only;omega)
    ·trivial
   ·trivial
  ·trivial
 ·trivial
def alI {f:HR->HR}:(n.cf id no f).ph aI=n.ph aI:=by
 unfold N.ph;rw[IL];split
 ·cases n.ar aI<;>rfl
 ·rfl
def akX (o:Ok T K [] n)(hh:n.h? id no=some h){s:List UInt8}(hw:h.r.want=3)(hs:s.length<=5000)(hp:n.ph id≠4):jG (T+1) (K+101000) id (n.part id no h.r s):=by
 have hi:=uo hh;have oh:=o.h _ _ _ hh;have hb:=o.part _ _ _ hh ak hw;have h2:=oh.size;unfold N.part;split
 ·refine⟨?_,DK hi,.inr ⟨502,60,40,rfl,by rw[alI];exact hp⟩⟩;exact(o.cf (T':=T) (fD:=[id]) hh {oh with body:=by simp only[List.length_append];omega} (Int.le_refl _) (λh=>absurd ak h) (λ_ h=>by cases h)).mono aa aa
 ·exact Tw o hh ⟨rfl,rfl,rfl⟩ hw (by simp only;omega) h2
def akR (o:Ok T K [] n)(hh:n.h? id no=some h){kind:Int}{s:List UInt8}{cl me:Nat}(hs:s.length<=5000)(hp:n.ph id≠4):jG (T+1) (K+101000) id (n.iK id no h kind s cl me):=by
 have hi:=uo hh;unfold N.iK;split
 ·split
  ·refine .same (o.send' ?_).lJ (KY (og hi)) aa aa;rw[mG];simp only[mD];omega
  ·split
   ·exact .same o.lJ (KY hi) aa aa
   ·exact .same o hi aa aa
 ·split
  ·exact .same o hi aa aa
  ·rename_i hk;split
   ·exact akU o hh
   ·split
    ·exact akX o hh aa hs hp
    ·exact akV o hh
def akW (o:Ok T K [] n)(hc:n.ar id=some c){kind:Int}{s:List UInt8}{cl me:Nat}(hs:s.length<=5000)(hp:n.ph id≠4)(h1:1<=no):jG (T+1) (K+101000) id (n.jW id c no kind s cl me):=by
 have hi:(n.ar id).isSome:=by rw[hc];rfl
 unfold N.jW;split
 ·exact .same o hi aa aa
 ·rename_i hm;split
  ·rename_i h eF;have hh:n.h? id no=some h:=by unfold N.h?;rw[hc];exact eF
   exact akR o hh hs hp
  ·rename_i hn;split
   ·split
    ·have:=(o.c _ _ hc).r.dm;have o1:=o.ajJ hc hn ⟨h1,aa⟩;refine .same (o1.send' ?_) (og (GN hi)) aa aa;rw[mG];simp only[rj,mD,Ab];omega
    ·trivial
   ·exact .same o hi aa aa
def akP (o:Ok T K [] n)(hi:(n.ar id).isSome){kind:Int}{s:List UInt8}{cl me:Nat}:jG (T+1) (K+101000) id (n.control id kind s cl me):=by
 unfold N.control;split
 ·split
  ·have o1:=(o.leave (id:=id) (fD:=[]) (λ_ h=>by cases h) hi).send' (id:=id) (s:=cg 0 10 51 []) (by rw[mG];simp only[mD];omega);exact .same (o1.bC (id:=id) (K':=K+1000) (Nat.le_refl _) λc hc=>⟨(o1.c _ _ hc).r.out,(o1.c _ _ hc).r.frame,(o1.c _ _ hc).r.dm⟩) (zj (og (Sd hi))) aa aa
  ·trivial
 ·exact .same o hi aa aa
def akL (o:Ok T K [] n)(hc:n.ar id=some c){ch kind:Int}{s:List UInt8}{cl me:Nat}:jG (T+1) (K+101000) id (n.begin id c ch kind s cl me):=by
 have hi:(n.ar id).isSome:=by rw[hc];rfl
 have g:=o.cfg;unfold N.begin;by_cases hA:¬(kind=1/\cl=10/\me=(if c.r.ph=1 then 31 else 40))\/ch≠0
 ·rw[if_pos hA];exact .same o hi aa aa
 ·rw[if_neg hA];split
  ·split
   ·have o1:Ok T K [] (n.bC id λr=>{r with ph:=3}):=o.bC (Nat.le_refl _) λc hc=>⟨(o.c _ _ hc).r.out,(o.c _ _ hc).r.frame,(o.c _ _ hc).r.dm⟩;refine .same (o1.send' ?_) (og (zj hi)) aa aa;rw[mG];simp only[rj,mD,vc,List.length_nil];omega
   ·trivial
  ·split
   ·split
    ·split
     ·split
      ·exact .same o hi aa aa
      ·rename_i hn;have g1:=g.jc;have g2:=g.frame;exact .same (o.bC (K':=K) (Nat.le_refl _) λc hc=>⟨(o.c _ _ hc).r.out,by simp only;omega,by simp only;omega⟩) (zj hi) aa aa
     ·trivial
    ·trivial
   ·trivial
def Tu (o:Ok T K [] n)(hc:n.ar id=some c){ch kind:Int}{s:List UInt8}{cl me:Nat}(hs:s.length<=5000)(eF:0<=ch):jG (T+1) (K+101000) id (n.gR id c ch kind s cl me):=by
 have hi:(n.ar id).isSome:=by rw[hc];rfl
 have pU:n.ph id=c.r.ph:=by unfold N.ph;rw[hc];rfl
 unfold N.gR;split
 ·exact akL o hc
 ·split
  ·rename_i h3;split
   ·exact akP o hi
   ·exact akW o hc hs (by rw[pU];omega) aa
  ·split
   ·exact .same (o.bC (K':=K) (Nat.le_refl _) λc hc=>⟨(o.c _ _ hc).r.out,(o.c _ _ hc).r.frame,(o.c _ _ hc).r.dm⟩) (zj hi) aa aa
   ·exact .same o hi aa aa
def TC {w k:Nat}{s r:List UInt8}(h:eP w s=some (k,r)):r.length<=s.length:=by
 unfold eP at h;split at h
 ·injection h with h;injection h with h1 h2;subst h2;rw[List.length_drop];omega
 ·cases h
def Tv (o:Ok T K [] n)(hc:n.ar id=some c){u:Un}(hs:u.gL.length<=5000)(eF:0<=u.channel):jG (T+1) (K+101000) id (n.eS id c u):=by
 have hi:(n.ar id).isSome:=by rw[hc];rfl
 unfold N.eS;split
 ·split
  ·rename_i h1;split
   ·rename_i h2;exact Tu o hc (by have:=TC h1;have:=TC h2;omega) eF
   ·exact .same o hi aa aa
  ·exact .same o hi aa aa
 ·exact Tu o hc hs eF
def yt {α β:Type}[DecidableEq α]{l:List (α×β)}{k:α}{f:β->β}(h:∀e∈l,e.1=k->f e.2=e.2):dw l k f=l:=by
 unfold dw
 have:(l.map λe=>if e.1=k then(e.1,f e.2)else e)=l.map λe=>e:=List.map_congr_left λa ha=>by
  split
  ·rename_i e;rw[h a ha e]
  ·rfl
 rw[this,List.map_id']
def ap0 (o:Ok T K ex n)(hn:n.h? id no=none){f:HR->HR}:n.cf id no f=n:=by
 unfold N.cf N.bA N.dn
 have:dw n.aD id (λc=>{c with ch:=dw c.ch no λh=>{h with r:=f h.r}})=n.aD:=yt λe he hx=>by
  have hc:n.ar id=some e.2:=by rw[<-hx];exact ni o.nc he
  unfold N.h? at hn;rw[hc]at hn;have:dw e.2.ch no (λh=>{h with r:=f h.r})=e.2.ch:=yt λa ha hy=>absurd hy (iF hn a ha);rw[this]
 rw[this]
def Ok.soft (o:Ok T K ex n){e cl me:Nat}:Ok T (K+1000) ex (n.soft id no e cl me):=by
 unfold N.soft
 have o1:Ok T K ex ((n.release id no).cf id no λr=>{r with closing:=true}):=by
  have o1:=o.release (id:=id) (no:=no)
  cases hh:(n.release id no).h? id no with
  |none=>rw[ap0 o1 hh];exact o1
  |some h=>exact o1.cf hh {o1.h _ _ _ hh with} (Int.le_refl _) (λh1 h2=>o1.part _ _ h hh h1 h2) (λ_ h=>h)
 refine o1.send' ?_;rw[mG];simp only[oN,rj,mD,vc,Iw,List.length_nil];omega
def Ok.cA (o:Ok T K ex n){e cl me:Nat}(hx:∀i∈ex,i∈fD\/i=id)(hi:(n.ar id).isSome):Ok T (K+1000) fD (n.cA id e cl me):=by unfold N.cA;have o1:=o.leave hx hi;have o2:Ok T K fD ((n.leave id).bC id λr=>{r with ph:=4}):=o1.bC (Nat.le_refl _) λc hc=>⟨(o1.c _ _ hc).r.out,(o1.c _ _ hc).r.frame,(o1.c _ _ hc).r.dm⟩;refine o2.send' ?_;rw[mG];simp only[oN,rj,mD,vc,Iw,List.length_nil];omega
def Ok.ju (o:Ok T K [] n){u:Un}(hs:u.gL.length<=5000)(eF:0<=u.channel):Ok (T+1) (K+102000) [] (n.ju id u):=by
 unfold N.ju
 cases hc:n.ar id with
 |none=>exact o.mono aa aa
 |some c=>
  simp only[];have h1:=Tv o hc hs eF;have hi:(n.ar id).isSome:=by rw[hc];rfl
  cases hr:n.eS id c u with
  |bad cl me=>
   show Ok _ _ _ (n.fault id u.channel (.cA 502 cl me));unfold N.fault;simp only[];split
   ·exact o.mono aa aa
   ·exact(o.cA (fD:=[]) (λ_ h=>by cases h) hi).mono aa aa
  |ok n' er=>
   rw[hr]at h1;obtain⟨h2,h3,h4⟩:=h1;show Ok _ _ _ (n'.fault id u.channel er);rcases h4 with h4|⟨e,cl,me,rfl,h5⟩
   ·unfold N.fault;split
    ·exact h4.mono aa aa
    ·split
     ·exact h4.mono aa aa
     ·exact h4.soft.mono aa aa
    ·split
     ·exact h4.mono aa aa
     ·exact(h4.cA (fD:=[]) (λ_ h=>by cases h) h3).mono aa aa
   ·unfold N.fault;simp only[];rw[if_neg h5];exact(h2.cA (fD:=[]) (λi hi=>.inr (aV hi)) h3).mono aa aa
def Ok.unit (o:Ok T K [] n){u:Un}(hs:u.gL.length<=5000)(eF:0<=u.channel)(hi:(n.ar id).isSome):Ok (T+1) (K+102000) [] (n.unit id u):=by
 have up:∀{n:N} {K:Nat} {v:Int},Ok T K [] n->Ok T K [] (n.bC id λr=>{r with ph:=v}):=λo=>o.bC (Nat.le_refl _) λc hc=>⟨(o.c _ _ hc).r.out,(o.c _ _ hc).r.frame,(o.c _ _ hc).r.dm⟩;unfold N.unit;split
 ·split
  ·exact(up (o.send' (by simp[pK]))).mono aa aa
  ·refine((up o).send' ?_).mono aa aa;rw[mG];simp only[rj,mD,Iw,Ab];omega
 ·split
  ·split
   ·exact(up o).mono aa aa
   ·exact(up (o.cA (fD:=[]) (λ_ h=>by cases h) hi)).mono aa aa
  ·split
   ·exact o.mono aa aa
   ·exact o.ju hs eF
end
section
variable {n:N}{n':N}{no:Nat}{c:CN}{h:HN}{nm:List UInt8}{k:Int}{m:aQ}{l:List Int}{β:Type}{F:CR->β}{SQ:N}
def Kp (F:CR->β)(n n':N):Prop:=∀i,(n'.rC i).map F=(n.rC i).map F
variable {id:Int}
def Kp.refl (n:N):Kp F n n:=λ_=>rfl
def Kp.trans (a:Kp F n n')(b:Kp F n' SQ):Kp F n SQ:=λi=>(b i).trans (a i)
def Kp.rC (h:∀i,n'.rC i=n.rC i):Kp F n n':=λi=>by rw[h]
def Kp.bC {f:CR->CR}(hf:∀r,F (f r)=F r):Kp F n (n.bC id f):=λi=>by
 unfold N.rC;rw[qm];split
 ·cases n.ar i with
  |none=>rfl
  |some c=>simp only[Option.map_some,hf]
 ·rfl
def Kp.send (hF:∀(r:CR) o s,F {r with out:=o,ib:=s}=F r){s:List UInt8}:Kp F n (n.send id s):=Kp.bC λr=>hF r _ _
def Hd {f:QN->QN}{i:Int}:(n.bF nm f).rC i=n.rC i:=rfl
def Mb {f:CN->CN}(hf:∀c,(f c).r=c.r){i:Int}:(n.dn id f).rC i=n.rC i:=by
 unfold N.rC;rw[ql];split
 ·cases n.ar i with
  |none=>rfl
  |some c=>simp only[Option.map_some,hf]
 ·rfl
def TR {na:Bool}{i:Int}:(n.hand id no nm m na).rC i=n.rC i:=by
 unfold N.hand;split
 ·exact qS
 ·exact Hd.trans qS
def Kp.give (hF:∀(r:CR) o s,F {r with out:=o,ib:=s}=F r){s:List UInt8}:Kp F n (n.give id no m s):=(Kp.send hF).trans (Kp.send hF)
def Kp.take (hF:∀(r:CR) o s,F {r with out:=o,ib:=s}=F r):Kp F n (n.take k m):=by
 unfold N.take;split
 ·exact .refl _
 ·exact(Kp.rC λ_=>TR).trans (Kp.give hF)
def Kp.gN (hF:∀(r:CR) o s,F {r with out:=o,ib:=s}=F r)(hs:n.gN nm=some n'):Kp F n n':=by
 unfold N.gN at hs;split at hs
 ·cases hs
 ·split at hs
  ·cases hs
  ·split at hs
   ·cases hs
   ·cases hs;exact(Kp.rC λ_=>Hd).trans (Kp.take hF)
def Kp.iX (hF:∀(r:CR) o s,F {r with out:=o,ib:=s}=F r){f:Nat}:Kp F n (n.iX f nm):=by
 induction f generalizing n with
 |zero=>exact .refl _
 |succ f ih=>
  unfold N.iX
  cases h:n.gN nm with
  |none=>exact .refl _
  |some n'=>exact(Kp.gN hF h).trans ih
def Kp.serve (hF:∀(r:CR) o s,F {r with out:=o,ib:=s}=F r):Kp F n n.serve:=by
 unfold N.serve;generalize n.aL.map (·.1)=l
 induction l generalizing n with
 |nil=>exact .refl _
 |cons a l ih=>rw[List.foldl_cons];exact(Kp.iX hF).trans ih
def Hc {i:Int}:(n.leave id).rC i=n.rC i:=by
 unfold N.leave;split
 ·rfl
 ·rename_i c _;exact(Mb (n:=n.gM id c.ch) (f:=λc=>{c with ch:=[]}) λ_=>rfl).trans Es
def Ma {i:Int}:(n.lJ id no).rC i=n.rC i:=(Mb (n:=n.release id no) (f:=λc=>{c with ch:=cH c.ch no}) λ_=>rfl).trans Bs
def Kp.soft (hF:∀(r:CR) o s,F {r with out:=o,ib:=s}=F r){e cl me:Nat}:Kp F n (n.soft id no e cl me):=
 ((Kp.rC λ_=>(qS).trans Bs).trans (Kp.send hF):Kp F n (((n.release id no).bA id no _).send id _))
structure uY (F:CR->β):Prop where
 out:∀(r:CR) o s,F {r with out:=o,ib:=s}=F r
 ph:∀(r:CR) p,F {r with ph:=p}=F r
 apE:∀(r:CR) a b c p,F {r with dm:=a,frame:=b,gh:=c,ph:=p}=F r
def Kp.cA (hF:uY F){e cl me:Nat}:Kp F n (n.cA id e cl me):=((Kp.rC λ_=>Hc).trans (Kp.bC λr=>hF.ph r _)).trans (Kp.send hF.out)
def yi (F:CR->β)(n:N):HO->Prop
 | .bad _ _=>True
 | .ok n' _=>Kp F n n'
def yi.same {er:Er}:yi F n (.ok n er):=Kp.refl n
def amH {key body:List UInt8}{i:Int}:(n.iS key body).1.rC i=n.rC i:=by
 unfold N.iS;split
 ·rfl
 ·split
  ·rfl
  ·rfl
def amJ {tg:List UInt8}{i:Int}:(n.nJ id no h tg).rC i=n.rC i:=by
 unfold N.nJ;split
 ·exact qS.trans amG
 ·rfl
def Sk {r:HR}:yi F n (n.whole id no r):=by
 unfold N.whole;split
 ·exact Kp.rC λ_=>qS
 ·exact Kp.rC λ_=>amH.trans qS
def aij (hF:uY F){s:List UInt8}{cl me:Nat}:yi F n (n.method id no h s cl me):=by
 unfold N.method;split
 ·exact .same
 split
 ·unfold N.close;split
  ·exact(Kp.send hF.out).trans (Kp.rC λ_=>Ma)
  ·trivial
 split
 ·unfold N.declare;split
  ·rename_i nm _;split
   ·exact Kp.send hF.out
   ·split
    ·exact .same
    ·split
     ·exact .same
     ·exact(Kp.rC (n':={n with aL:=cJ cN n.aL nm ⟨[],0,0,[]⟩}) λ_=>rfl).trans (Kp.send hF.out)
  ·trivial
 split
 ·unfold N.lU;split
  ·split
   ·exact(Kp.rC λ_=>Hd).trans (Kp.send hF.out)
   ·exact .same
  ·trivial
 split
 ·unfold N.ow;split
  ·exact(Kp.rC λ_=>qS).trans (Kp.send hF.out)
  ·trivial
 split
 ·unfold N.consume;split
  ·split
   ·split
    ·split
     ·exact .same
     ·split
      ·exact .same
      ·split
       ·exact .same
       ·split
        ·exact .same
        ·refine Kp.trans (Kp.rC λi=>?_) (Kp.send hF.out);unfold N.jr;exact qS
    ·trivial
   ·trivial
  ·trivial
 split
 ·unfold N.mH;split
  ·exact(Kp.rC λ_=>amJ).trans (Kp.send hF.out)
  ·trivial
 split
 ·unfold N.ov;split
  ·exact Kp.rC λ_=>qS
  ·trivial
 split
 ·unfold N.get;split
  ·split
   ·split
    ·exact .same
    ·split
     ·exact Kp.send hF.out
     ·exact(Kp.rC λ_=>TR.trans Hd).trans (Kp.give hF.out)
   ·trivial
  ·trivial
 split
 ·unfold N.settled;split
  ·split
   ·split
    ·split
     ·exact Kp.rC λ_=>TT
     ·exact .same
    ·trivial
   ·trivial
  ·trivial
 split
 ·exact .same
 ·exact .same
def aih (hF:uY F){kind:Int}{s:List UInt8}{cl me:Nat}:yi F n (n.iK id no h kind s cl me):=by
 unfold N.iK;split
 ·split
  ·exact(Kp.send hF.out).trans (Kp.rC λ_=>Ma)
  ·split
   ·exact Kp.rC λ_=>Ma
   ·exact .same
 ·split
  ·exact .same
  ·split
   ·unfold N.header;split
    ·split
     ·split
      ·split
       ·split
        ·exact .same
        ·split
         ·exact .same
         ·exact Sk
       ·trivial
      ·trivial
     ·trivial
    ·trivial
   ·split
    ·unfold N.part;split
     ·exact Kp.rC λ_=>qS
     ·exact Sk
    ·exact aij hF
def Sj (hF:uY F){ch kind:Int}{s:List UInt8}{cl me:Nat}:yi F n (n.gR id c ch kind s cl me):=by
 unfold N.gR;split
 ·unfold N.begin;by_cases hA:¬(kind=1/\cl=10/\me=(if c.r.ph=1 then 31 else 40))\/ch≠0
  ·rw[if_pos hA];exact .same
  ·rw[if_neg hA];split
   ·split
    ·exact(Kp.bC λr=>hF.ph r _).trans (Kp.send hF.out)
    ·trivial
   ·split
    ·split
     ·split
      ·split
       ·exact .same
       ·exact Kp.bC λr=>hF.apE r _ _ _ _
      ·trivial
     ·trivial
    ·trivial
 ·split
  ·split
   ·unfold N.control;split
    ·split
     ·exact((Kp.rC λ_=>Hc).trans (Kp.send hF.out)).trans (Kp.bC λr=>hF.ph r _)
     ·trivial
    ·exact .same
   ·unfold N.jW;split
    ·exact .same
    ·split
     ·exact aih hF
     ·split
      ·split
       ·exact(Kp.rC λ_=>Mb (f:=λc=>{c with ch:=cJ kK c.ch ch.toNat ⟨fV,[],[]⟩}) λ_=>rfl).trans (Kp.send hF.out)
       ·trivial
      ·exact .same
  ·split
   ·exact Kp.bC λr=>hF.ph r _
   ·exact .same
def aii (hF:uY F){u:Un}:yi F n (n.eS id c u):=by
 unfold N.eS;split
 ·split
  ·split
   ·exact Sj hF
   ·exact .same
  ·exact .same
 ·exact Sj hF
def Kp.fault (hF:uY F){no:Int}{er:Er}:Kp F n (n.fault id no er):=by
 unfold N.fault;split
 ·exact .refl _
 ·split
  ·exact .refl _
  ·exact Kp.soft hF.out
 ·split
  ·exact .refl _
  ·exact Kp.cA hF
def Kp.ju (hF:uY F){u:Un}:Kp F n (n.ju id u):=by
 unfold N.ju
 cases hc:n.ar id with
 |none=>exact .refl _
 |some c=>
  simp only[];have h1:=aii (n:=n) (id:=id) (c:=c) (u:=u) hF
  cases hr:n.eS id c u with
  |bad cl me=>exact Kp.fault hF
  |ok n' er=>rw[hr]at h1;exact Kp.trans h1 (Kp.fault hF)
def Kp.unit (hF:uY F){u:Un}:Kp F n (n.unit id u):=by
 unfold N.unit;split
 ·split
  ·exact(Kp.send hF.out).trans (Kp.bC λr=>hF.ph r _)
  ·exact(Kp.bC λr=>hF.ph r _).trans (Kp.send hF.out)
 ·split
  ·split
   ·exact Kp.bC λr=>hF.ph r _
   ·exact(Kp.cA hF).trans (Kp.bC λr=>hF.ph r _)
  ·split
   ·exact .refl _
   ·exact Kp.ju hF
def Kp.is (a:Kp F n n')(h:(n.ar id).isSome):(n'.ar id).isSome:=by
 have:=a id;unfold N.rC at this
 cases h1:n'.ar id with
 |some _=>rfl
 |none=>rw[h1]at this;obtain⟨c,hc⟩:=Option.isSome_iff_exists.1 h;rw[hc]at this;cases this
def Kp.get (a:Kp F n n'):(n'.ar id).map (λc=>F c.r)=(n.ar id).map λc=>F c.r:=by have:=a id;unfold N.rC at this;simpa[Option.map_map,Function.comp_def]using this
end
def A5:uY CR.rest:=⟨λ_ _ _=>rfl,λ_ _=>rfl,λ_ _ _ _ _=>rfl⟩
def wB{n n':N}{id:Int}(a:Kp CR.rest n n'):n'.rest id=n.rest id:=by unfold N.rest;rw[a.get]
def wx{n n':N}{id:Int}(a:Kp CR.ph n n'):n'.ph id=n.ph id:=by unfold N.ph;rw[a.get]
end Go.Qw
