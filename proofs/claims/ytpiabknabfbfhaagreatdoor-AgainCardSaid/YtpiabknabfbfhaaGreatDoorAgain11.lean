/- 11 -/
import Derived.Test.YtpiabknabfbfhaaGreatDoorAgain10
set_option linter.all false
set_option maxRecDepth 100000
set_option maxHeartbeats 8000000
namespace Go.Qw
open Go.Proofs.Tryz
variable {s r:List UInt8}
def alY{k:Nat}(h:fu 1 s=some (k,r)):k<=255:=by
 unfold fu at h;split at h
 ·rename_i hl;injection h with h;injection h with h1 h2
  cases s with
  |nil=>simp at hl
  |cons a s=>subst h1;simp[num];have:=a.toNat_lt;omega
 ·cases h
def MU{a:List UInt8}(h:jB s=some (a,r)):a.length<=255:=by
 unfold jB at h;obtain⟨⟨k,t⟩,h1,h2⟩:=Option.bind_eq_some_iff.1 h;have:=alY h1;unfold yv at h2;split at h2
 ·injection h2 with h2;injection h2 with h3 h4;subst h3;rw[List.length_take];omega
 ·cases h2
section
variable {n:N}{n':N}{T:Int}{T':Int}{K:Nat}{K':Nat}{ex:List Int}{fT:List Int}{aL:Int}{no:Nat}{c:CN}{h:HN}{nm:List UInt8}{q:QN}{k:Int}{x:XN}{m:aM}{l:List Int}
variable {id:Int}
def jU (T:Int)(K:Nat)(id:Int):HO->Prop
 | .bad _ _=>True
 | .ok n er=>Ok T K [id] n/\(n.ar id).isSome/\(Ok T K [] n\/∃e cl me,er=.cL e cl me/\n.ph id≠4)
def jU.of {er:Er}(o:Ok T K [] n)(hi:(n.ar id).isSome):jU T K id (.ok n er):=⟨o.QI al,hi,.inl o⟩
def jU.same {er:Er}(o:Ok T K [] n)(hi:(n.ar id).isSome)(hT:T<=T')(hK:K<=K'):jU T' K' id (.ok n er):=.of (o.mono hT hK) hi
def oC {s:List UInt8}(h:(n.ar aL).isSome):((n.send id s).ar aL).isSome:=by rw[sZ];split<;>simpa using h
def zS {f:CR->CR}(h:(n.ar aL).isSome):((n.bA id f).ar aL).isSome:=by rw[qG];split<;>simpa using h
def Em {f:HR->HR}(h:(n.ar aL).isSome):((n.cN id no f).ar aL).isSome:=by rw[JJ];split<;>simpa using h
def Hx {f:CN->CN}(h:(n.ar aL).isSome):((n.dN id f).ar aL).isSome:=by rw[qF];split<;>simpa using h
def El (h:(n.ar aL).isSome)(e:n'.rC aL=n.rC aL):(n'.ar aL).isSome:=by
 unfold N.rC at e
 cases h1:n'.ar aL with
 |some _=>rfl
 |none=>rw[h1]at e;obtain⟨c,hc⟩:=Option.isSome_iff_exists.1 h;rw[hc]at e;cases e
def LY (h:(n.ar aL).isSome):((n.oY id no).ar aL).isSome:=Hx (El h B6)
def Ts (h:(n.ar aL).isSome):((n.leave id).ar aL).isSome:=by
 unfold N.leave;split
 ·exact h
 ·exact Hx (El h E4)
def U7 {p:Nat->Bool}{b:Bool}{l:List (Nat×(List UInt8×aM))}:(n.jP id no p b l).rC aL=n.rC aL:=by
 unfold N.jP
 induction l generalizing n with
 |nil=>rfl
 |cons e l ih=>
  rw[List.foldl_cons,ih];split
  ·exact U6
  ·rfl
def aiZ {p:Nat->Bool}{b:Bool}{l:List (Nat×(List UInt8×aM))}(h:(n.ar aL).isSome):((n.jP id no p b l).ar aL).isSome:=El h U7
def aiV {s:List UInt8}(h:(n.ar aL).isSome):((n.give id no m s).ar aL).isSome:=oC (oC h)
def aiY {key body:List UInt8}(h:(n.ar aL).isSome):((n.jN key body).1.ar aL).isSome:=by
 unfold N.jN;split
 ·exact h
 ·split
  ·exact h
  ·exact h
def Ok.send' (o:Ok T K ex n){s:List UInt8}(hs:s.length<=1000):Ok T (K+1000) ex (n.send id s):=o.send.mono (Int.le_refl _) aa
def aml (o:Ok T K [] n)(hi:(n.ar id).isSome){s:List UInt8}{cl me:Nat}:jU (T+1) (K+101000) id (n.declare id no s cl me):=by
 unfold N.declare;split
 ·rename_i nm hp;have hl:=MU hp;split
  ·refine .same (o.send' ?_) (oC hi) aa aa;rw[ni];simp only[rK,mY,vJ,AM];omega
  ·rename_i hq;split
   ·exact .same o hi aa aa
   ·split
    ·exact .same o hi aa aa
    ·rename_i h8;have o1:=o.tK hq (by have:=o.lq;omega) o.cfg.an8;refine .same (o1.send' (id:=id) (s:=bK no 50 11 [.text nm,.long 0,.long 0]) ?_) (oC (n:={n with aN:=da cP n.aN nm ⟨[],0,0,[]⟩}) hi) aa aa;rw[ni];simp only[rK,mY,vJ,AM];omega
 ·trivial
def amu (o:Ok T K [] n)(hi:(n.ar id).isSome){s:List UInt8}{cl me:Nat}:jU (T+1) (K+101000) id (n.pE id no s cl me):=by
 unfold N.pE;split
 ·rename_i nm hp;split
  ·rename_i q hq;have o1:Ok T K [] (n.bH nm λq=>{q with ready:=[]}):=o.bH λq _=>⟨List.nil_sublist _,rfl,rfl⟩;refine .same (o1.send' ?_) (oC (by rw[y9];exact hi)) aa aa;rw[ni];simp only[rK,mY,AM];omega
  ·exact .same o hi aa aa
 ·trivial
def amv (o:Ok T K [] n)(hh:n.h? id no=some h){s:List UInt8}{cl me:Nat}:jU (T+1) (K+101000) id (n.sF id no s cl me):=by
 have hi:=afd hh;unfold N.sF;split
 ·rename_i k hp;have oh:=o.h _ _ _ hh;have o1:Ok T K [] (n.cN id no λr=>{r with mj:=k}):=o.cN hh {oh with} (Int.le_refl _) (λh1 h2=>o.part _ _ h hh h1 h2) (λ_ h=>h);refine .same (o1.send' ?_) (oC (Em hi)) aa aa;rw[ni];simp only[mY];omega
 ·trivial
where afd {n:N} {id:Int} {no:Nat} {h:HN} (hh:n.h? id no=some h):(n.ar id).isSome:=by obtain⟨c,hc⟩:=xL hh;rw[hc];rfl
def uX (hh:n.h? id no=some h):(n.ar id).isSome:=by obtain⟨c,hc⟩:=xL hh;rw[hc];rfl
def amj (o:Ok T K [] n)(hh:n.h? id no=some h){s:List UInt8}{cl me:Nat}:jU (T+1) (K+101000) id (n.consume id no h s cl me):=by
 have hi:=uX hh;unfold N.consume;split
 ·rename_i nm s1 _;split
  ·rename_i tg s2 _;split
   ·rename_i na _;split
    ·exact .same o hi aa aa
    ·rename_i Bz;split
     ·exact .same o hi aa aa
     ·rename_i q hq;split
      ·exact .same o hi aa aa
      ·rename_i uI;split
       ·exact .same o hi aa aa
       ·rename_i h4
        have ht:bq h.co tg=none:=by cases h:bq h.co tg with
         |none=>rfl
         |some _=>rw[h]at uI;simp at uI
        have o1:=o.kM (na:=na) hh hq ht (by have:=(o.h _ _ _ hh).tG;omega) aa;refine .same (o1.send' (id:=id) (s:=bK no 60 21 [.text tg]) ?_) (oC ?_) aa aa
        ·rw[ni];simp only[rK,mY,vJ];omega
        ·exact Hx (show(N.ar (N.bH {n with bh:=n.bh+1,xs:=n.xs++[(n.bh+1,⟨id,no,tg,nm,na⟩)]} nm λq=>{q with cons:=q.cons++[n.bh+1]}) id).isSome from hi)
   ·trivial
  ·trivial
 ·trivial
def amh (o:Ok T K [] n)(hh:n.h? id no=some h){s:List UInt8}{cl me:Nat}:jU (T+1) (K+101000) id (n.qE id no h s cl me):=by
 have hi:=uX hh;unfold N.qE;split
 ·rename_i tg hp;have hl:=MU hp
  have o1:Ok T K [] (n.rF id no h tg)/\((n.rF id no h tg).ar id).isSome:=by
   unfold N.rF
   cases hk:bq h.co tg with
   |none=>exact⟨o,hi⟩
   |some k=>
    simp only[];rw[PK o.qx];refine⟨o.rF hh [k] (f:=λh=>{h with co:=cC h.co tg}) (λ_=>⟨rfl,rfl⟩) ?_ ?_,?_⟩
    ·show cC h.co tg=_;unfold cC;apply List.filter_congr;intro e he;obtain⟨x,hx,_,_,ht⟩:=o.w.co _ _ _ hh e he;obtain⟨y,hy,_,_,Hi⟩:=o.w.co _ _ _ hh _ (iZ hk);rw[decide_eq_decide];simp only[ne_eq,List.mem_singleton];constructor
     ·intro h1 h2;rw[h2]at hx;simp only at hy;rw[hx]at hy;cases hy;exact h1 (by rw[<-ht,Hi])
     ·intro h1 h2;have:=oF (o.h _ _ _ hh).cn he;rw[h2,hk]at this
      cases this;exact h1 rfl
    ·intro j hj;simp only[List.mem_singleton]at hj;subst hj;exact List.mem_map_of_mem (f:=(·.2)) (iZ hk)
    ·rw[vP];split
     ·simpa using hi
     ·exact hi
  refine .same (o1.1.send' ?_) (oC o1.2) aa aa;rw[ni];simp only[rK,mY,vJ];omega
 ·trivial
def amt (o:Ok T K [] n)(hh:n.h? id no=some h){s:List UInt8}{cl me:Nat}:jU (T+1) (K+101000) id (n.sE id no s cl me):=by
 have hi:=uX hh;unfold N.sE;split
 ·rename_i key hp;have oh:=o.h _ _ _ hh;exact .same (o.cN (T':=T) (fT:=[]) hh {oh with want:=⟨al,al⟩,key:=MU hp} (Int.le_refl _) (λ_ h2=>by simp at h2) (λ_ h=>h)) (Em hi) aa aa
 ·trivial
def amn (o:Ok T K [] n)(hh:n.h? id no=some h){s:List UInt8}{cl me:Nat}:jU (T+1) (K+101000) id (n.get id no s cl me):=by
 have hi:=uX hh;unfold N.get;split
 ·rename_i nm s1 _;split
  ·rename_i na _;split
   ·exact .same o hi aa aa
   ·rename_i q hq;split
    ·refine .same (o.send' ?_) (oC hi) aa aa;rw[ni];simp only[mY];omega
    ·rename_i m ms hr;have hm:=(o.q _ _ hq).msg m (by rw[hr];simp);have o1:=o.hand (na:=na) (g:=λq=>{q with ready:=q.ready.tail}) hh hq hr ⟨by simp only[hr,List.tail_cons],rfl,rfl⟩;have mH:(N.ar (N.hand (n.bH nm λq=>{q with ready:=q.ready.tail}) id no nm m na) id).isSome:=Tr (by rw[y9];exact hi);refine .same (o1.give hm ?_ mH) (aiV mH) aa aa;rw[ni];simp only[rK,mY,OZ,OY,vJ,AM];have:=hm.key;omega
  ·trivial
 ·trivial
def amw (o:Ok T K [] n)(hh:n.h? id no=some h){s:List UInt8}{cl me:Nat}:jU (T+1) (K+101000) id (n.settled id no h s cl me):=by
 have hi:=uX hh;unfold N.settled;split
 ·split
  ·split
   ·split
    ·exact .same o.jP (aiZ hi) aa aa
    ·exact .same o hi aa aa
   ·trivial
  ·trivial
 ·trivial
def ami (o:Ok T K [] n)(hi:(n.ar id).isSome){s:List UInt8}{cl me:Nat}:jU (T+1) (K+101000) id (n.close id no s cl me):=by
 unfold N.close;split
 ·refine .same (o.send' ?_).oY (LY (oC hi)) aa aa;rw[ni];simp only[mY];omega
 ·trivial
def amq (o:Ok T K [] n)(hh:n.h? id no=some h){s:List UInt8}{cl me:Nat}:jU (T+1) (K+101000) id (n.method id no h s cl me):=by
 have hi:=uX hh;unfold N.method;split
 ·exact .same o hi aa aa
 split
 ·exact ami o hi
 split
 ·exact aml o hi
 split
 ·exact amu o hi
 split
 ·exact amv o hh
 split
 ·exact amj o hh
 split
 ·exact amh o hh
 split
 ·exact amt o hh
 split
 ·exact amn o hh
 split
 ·exact amw o hh
 split
 ·exact .same o hi aa aa
 ·exact .same o hi aa aa
def UK (o:Ok T K [] n)(hh:n.h? id no=some h){r:HR}(hr:r.mj=h.r.mj/\r.tag=h.r.tag/\r.key=h.r.key)(hw:r.want=3)(hb:(r.body.length:Int)<=r.size)(hs:r.size<=10000):jU (T+1) (K+101000) id (n.whole id no r):=by
 have hi:=uX hh;have oh:=o.h _ _ _ hh;obtain⟨r1,r2,r3⟩:=hr;unfold N.whole;split
 ·exact .same (o.cN (T':=T) (fT:=[]) hh ⟨oh.un,by simp only[r2];exact oh.ut,by simp only[r2];exact oh.tag,oh.co,oh.cn,oh.tG,by simp only[hw];omega,by simp only;omega,hs,by simp only[r3];exact oh.key,oh.msg⟩ (Int.le_refl _) (λ_ _=>hb) (λ_ h=>h)) (Em hi) aa aa
 ·have o1:Ok T K [] (n.cN id no λ_=>{r with want:=1}):=o.cN (T':=T) (fT:=[]) hh ⟨oh.un,by simp only[r2];exact oh.ut,by simp only[r2];exact oh.tag,oh.co,oh.cn,oh.tG,al,by simp only;omega,hs,by simp only[r3];exact oh.key,oh.msg⟩ (Int.le_refl _) (λ_ h2=>by simp at h2) (λ_ h=>h);exact .same (o1.jN (key:=r.key) (body:=r.body) (by rw[r3];exact oh.key) aa) (aiY (Em hi)) aa aa
def amp (o:Ok T K [] n)(hh:n.h? id no=some h){s:List UInt8}:jU (T+1) (K+101000) id (n.header id no h.r s):=by
 have hi:=uX hh;unfold N.header;split
 ·split
  ·split
   ·split
    ·rename_i low _;split
     ·exact .same o hi aa aa
     ·split
      ·exact .same o hi aa aa
      ·rename_i hn;have:=o.cfg.body;exact UK o hh ⟨rfl,rfl,rfl⟩ rfl al (by simp only;omega)
    ·trivial
   ·trivial
  ·trivial
 ·trivial
def am9 {f:HR->HR}:(n.cN id no f).ph aL=n.ph aL:=by
 unfold N.ph;rw[JJ];split
 ·cases n.ar aL<;>rfl
 ·rfl
def ams (o:Ok T K [] n)(hh:n.h? id no=some h){s:List UInt8}(hw:h.r.want=3)(hs:s.length<=5000)(hp:n.ph id≠4):jU (T+1) (K+101000) id (n.part id no h.r s):=by
 have hi:=uX hh;have oh:=o.h _ _ _ hh;have hb:=o.part _ _ _ hh al hw;have h2:=oh.size;unfold N.part;split
 ·refine⟨?_,Em hi,.inr ⟨502,60,40,rfl,by rw[am9];exact hp⟩⟩;exact(o.cN (T':=T) (fT:=[id]) hh {oh with body:=by simp only[List.length_append];omega} (Int.le_refl _) (λh=>absurd al h) (λ_ h=>by cases h)).mono aa aa
 ·exact UK o hh ⟨rfl,rfl,rfl⟩ hw (by simp only;omega) h2
def amm (o:Ok T K [] n)(hh:n.h? id no=some h){kind:Int}{s:List UInt8}{cl me:Nat}(hs:s.length<=5000)(hp:n.ph id≠4):jU (T+1) (K+101000) id (n.js id no h kind s cl me):=by
 have hi:=uX hh;unfold N.js;split
 ·split
  ·refine .same (o.send' ?_).oY (LY (oC hi)) aa aa;rw[ni];simp only[mY];omega
  ·split
   ·exact .same o.oY (LY hi) aa aa
   ·exact .same o hi aa aa
 ·split
  ·exact .same o hi aa aa
  ·rename_i hk;split
   ·exact amp o hh
   ·split
    ·exact ams o hh aa hs hp
    ·exact amq o hh
def amr (o:Ok T K [] n)(hc:n.ar id=some c){kind:Int}{s:List UInt8}{cl me:Nat}(hs:s.length<=5000)(hp:n.ph id≠4)(h1:1<=no):jU (T+1) (K+101000) id (n.kW id c no kind s cl me):=by
 have hi:(n.ar id).isSome:=by rw[hc];rfl
 unfold N.kW;split
 ·exact .same o hi aa aa
 ·rename_i hm;split
  ·rename_i h dR;have hh:n.h? id no=some h:=by unfold N.h?;rw[hc];exact dR
   exact amm o hh hs hp
  ·rename_i hn;split
   ·split
    ·have:=(o.c _ _ hc).r.cZ;have o1:=o.ald hc hn ⟨h1,aa⟩;refine .same (o1.send' ?_) (oC (Hx hi)) aa aa;rw[ni];simp only[rK,mY,AM];omega
    ·trivial
   ·exact .same o hi aa aa
def amk (o:Ok T K [] n)(hi:(n.ar id).isSome){kind:Int}{s:List UInt8}{cl me:Nat}:jU (T+1) (K+101000) id (n.control id kind s cl me):=by
 unfold N.control;split
 ·split
  ·have o1:=(o.leave (id:=id) (fT:=[]) (λ_ h=>by cases h) hi).send' (id:=id) (s:=bK 0 10 51 []) (by rw[ni];simp only[mY];omega);exact .same (o1.bA (id:=id) (K':=K+1000) (Nat.le_refl _) λc hc=>⟨(o1.c _ _ hc).r.out,(o1.c _ _ hc).r.frame,(o1.c _ _ hc).r.cZ⟩) (zS (oC (Ts hi))) aa aa
  ·trivial
 ·exact .same o hi aa aa
def amg (o:Ok T K [] n)(hc:n.ar id=some c){ch kind:Int}{s:List UInt8}{cl me:Nat}:jU (T+1) (K+101000) id (n.begin id c ch kind s cl me):=by
 have hi:(n.ar id).isSome:=by rw[hc];rfl
 have g:=o.cfg;unfold N.begin;by_cases hA:¬(kind=1/\cl=10/\me=(if c.r.ph=1 then 31 else 40))\/ch≠0
 ·rw[if_pos hA];exact .same o hi aa aa
 ·rw[if_neg hA];split
  ·split
   ·have o1:Ok T K [] (n.bA id λr=>{r with ph:=3}):=o.bA (Nat.le_refl _) λc hc=>⟨(o.c _ _ hc).r.out,(o.c _ _ hc).r.frame,(o.c _ _ hc).r.cZ⟩;refine .same (o1.send' ?_) (oC (zS hi)) aa aa;rw[ni];simp only[rK,mY,vJ,List.length_nil];omega
   ·trivial
  ·split
   ·split
    ·split
     ·split
      ·exact .same o hi aa aa
      ·rename_i hn;have g1:=g.jq;have g2:=g.frame;exact .same (o.bA (K':=K) (Nat.le_refl _) λc hc=>⟨(o.c _ _ hc).r.out,by simp only;omega,by simp only;omega⟩) (zS hi) aa aa
     ·trivial
    ·trivial
   ·trivial
def UI (o:Ok T K [] n)(hc:n.ar id=some c){ch kind:Int}{s:List UInt8}{cl me:Nat}(hs:s.length<=5000)(dR:0<=ch):jU (T+1) (K+101000) id (n.iS id c ch kind s cl me):=by
 have hi:(n.ar id).isSome:=by rw[hc];rfl
 have qi:n.ph id=c.r.ph:=by unfold N.ph;rw[hc];rfl
 unfold N.iS;split
 ·exact amg o hc
 ·split
  ·rename_i h3;split
   ·exact amk o hi
   ·exact amr o hc hs (by rw[qi];omega) aa
  ·split
   ·exact .same (o.bA (K':=K) (Nat.le_refl _) λc hc=>⟨(o.c _ _ hc).r.out,(o.c _ _ hc).r.frame,(o.c _ _ hc).r.cZ⟩) (zS hi) aa aa
   ·exact .same o hi aa aa
def UP {w k:Nat}{s r:List UInt8}(h:fu w s=some (k,r)):r.length<=s.length:=by
 unfold fu at h;split at h
 ·injection h with h;injection h with h1 h2;subst h2;rw[List.length_drop];omega
 ·cases h
def UJ (o:Ok T K [] n)(hc:n.ar id=some c){u:Un}(hs:u.ji.length<=5000)(dR:0<=u.channel):jU (T+1) (K+101000) id (n.fB id c u):=by
 have hi:(n.ar id).isSome:=by rw[hc];rfl
 unfold N.fB;split
 ·split
  ·rename_i h1;split
   ·rename_i h2;exact UI o hc (by have:=UP h1;have:=UP h2;omega) dR
   ·exact .same o hi aa aa
  ·exact .same o hi aa aa
 ·exact UI o hc hs dR
def AL {α β:Type}[DecidableEq α]{l:List (α×β)}{k:α}{f:β->β}(h:∀e∈l,e.1=k->f e.2=e.2):dE l k f=l:=by
 unfold dE
 have:(l.map λe=>if e.1=k then(e.1,f e.2)else e)=l.map λe=>e:=List.map_congr_left λa ha=>by
  split
  ·rename_i e;rw[h a ha e]
  ·rfl
 rw[this,List.map_id']
def arq (o:Ok T K ex n)(hn:n.h? id no=none){f:HR->HR}:n.cN id no f=n:=by
 unfold N.cN N.bB N.dN
 have:dE n.aF id (λc=>{c with ch:=dE c.ch no λh=>{h with r:=f h.r}})=n.aF:=AL λe he hx=>by
  have hc:n.ar id=some e.2:=by rw[<-hx];exact oF o.nc he
  unfold N.h? at hn;rw[hc]at hn;have:dE e.2.ch no (λh=>{h with r:=f h.r})=e.2.ch:=AL λa ha hy=>absurd hy (ja hn a ha);rw[this]
 rw[this]
def Ok.soft (o:Ok T K ex n){e cl me:Nat}:Ok T (K+1000) ex (n.soft id no e cl me):=by
 unfold N.soft
 have o1:Ok T K ex ((n.release id no).cN id no λr=>{r with closing:=true}):=by
  have o1:=o.release (id:=id) (no:=no)
  cases hh:(n.release id no).h? id no with
  |none=>rw[arq o1 hh];exact o1
  |some h=>exact o1.cN hh {o1.h _ _ _ hh with} (Int.le_refl _) (λh1 h2=>o1.part _ _ h hh h1 h2) (λ_ h=>h)
 refine o1.send' ?_;rw[ni];simp only[oZ,rK,mY,vJ,Js,List.length_nil];omega
def Ok.cL (o:Ok T K ex n){e cl me:Nat}(hx:∀i∈ex,i∈fT\/i=id)(hi:(n.ar id).isSome):Ok T (K+1000) fT (n.cL id e cl me):=by unfold N.cL;have o1:=o.leave hx hi;have o2:Ok T K fT ((n.leave id).bA id λr=>{r with ph:=4}):=o1.bA (Nat.le_refl _) λc hc=>⟨(o1.c _ _ hc).r.out,(o1.c _ _ hc).r.frame,(o1.c _ _ hc).r.cZ⟩;refine o2.send' ?_;rw[ni];simp only[oZ,rK,mY,vJ,Js,List.length_nil];omega
def Ok.kQ (o:Ok T K [] n){u:Un}(hs:u.ji.length<=5000)(dR:0<=u.channel):Ok (T+1) (K+102000) [] (n.kQ id u):=by
 unfold N.kQ
 cases hc:n.ar id with
 |none=>exact o.mono aa aa
 |some c=>
  simp only[];have h1:=UJ o hc hs dR;have hi:(n.ar id).isSome:=by rw[hc];rfl
  cases hr:n.fB id c u with
  |bad cl me=>
   show Ok _ _ _ (n.fault id u.channel (.cL 502 cl me));unfold N.fault;simp only[];split
   ·exact o.mono aa aa
   ·exact(o.cL (fT:=[]) (λ_ h=>by cases h) hi).mono aa aa
  |ok n' er=>
   rw[hr]at h1;obtain⟨h2,h3,h4⟩:=h1;show Ok _ _ _ (n'.fault id u.channel er);rcases h4 with h4|⟨e,cl,me,rfl,h5⟩
   ·unfold N.fault;split
    ·exact h4.mono aa aa
    ·split
     ·exact h4.mono aa aa
     ·exact h4.soft.mono aa aa
    ·split
     ·exact h4.mono aa aa
     ·exact(h4.cL (fT:=[]) (λ_ h=>by cases h) h3).mono aa aa
   ·unfold N.fault;simp only[];rw[if_neg h5];exact(h2.cL (fT:=[]) (λi hi=>.inr (aW hi)) h3).mono aa aa
def Ok.unit (o:Ok T K [] n){u:Un}(hs:u.ji.length<=5000)(dR:0<=u.channel)(hi:(n.ar id).isSome):Ok (T+1) (K+102000) [] (n.unit id u):=by
 have up:∀{n:N} {K:Nat} {v:Int},Ok T K [] n->Ok T K [] (n.bA id λr=>{r with ph:=v}):=λo=>o.bA (Nat.le_refl _) λc hc=>⟨(o.c _ _ hc).r.out,(o.c _ _ hc).r.frame,(o.c _ _ hc).r.cZ⟩;unfold N.unit;split
 ·split
  ·exact(up (o.send' (by simp[pW]))).mono aa aa
  ·refine((up o).send' ?_).mono aa aa;rw[ni];simp only[rK,mY,Js,AM];omega
 ·split
  ·split
   ·exact(up o).mono aa aa
   ·exact(up (o.cL (fT:=[]) (λ_ h=>by cases h) hi)).mono aa aa
  ·split
   ·exact o.mono aa aa
   ·exact o.kQ hs dR
end
section
variable {n:N}{n':N}{no:Nat}{c:CN}{h:HN}{nm:List UInt8}{k:Int}{m:aM}{l:List Int}{β:Type}{F:CR->β}{T8:N}
def Kp (F:CR->β)(n n':N):Prop:=∀i,(n'.rC i).map F=(n.rC i).map F
variable {id:Int}
def Kp.refl (n:N):Kp F n n:=λ_=>rfl
def Kp.trans (a:Kp F n n')(b:Kp F n' T8):Kp F n T8:=λi=>(b i).trans (a i)
def Kp.rC (h:∀i,n'.rC i=n.rC i):Kp F n n':=λi=>by rw[h]
def Kp.bA {f:CR->CR}(hf:∀r,F (f r)=F r):Kp F n (n.bA id f):=λi=>by
 unfold N.rC;rw[qG];split
 ·cases n.ar i with
  |none=>rfl
  |some c=>simp only[Option.map_some,hf]
 ·rfl
def Kp.send (hF:∀(r:CR) o s,F {r with out:=o,iq:=s}=F r){s:List UInt8}:Kp F n (n.send id s):=Kp.bA λr=>hF r _ _
def H8 {f:QN->QN}{i:Int}:(n.bH nm f).rC i=n.rC i:=rfl
def M4 {f:CN->CN}(hf:∀c,(f c).r=c.r){i:Int}:(n.dN id f).rC i=n.rC i:=by
 unfold N.rC;rw[qF];split
 ·cases n.ar i with
  |none=>rfl
  |some c=>simp only[Option.map_some,hf]
 ·rfl
def U5 {na:Bool}{i:Int}:(n.hand id no nm m na).rC i=n.rC i:=by
 unfold N.hand;split
 ·exact rp
 ·exact H8.trans rp
def Kp.give (hF:∀(r:CR) o s,F {r with out:=o,iq:=s}=F r){s:List UInt8}:Kp F n (n.give id no m s):=(Kp.send hF).trans (Kp.send hF)
def Kp.take (hF:∀(r:CR) o s,F {r with out:=o,iq:=s}=F r):Kp F n (n.take k m):=by
 unfold N.take;split
 ·exact .refl _
 ·exact(Kp.rC λ_=>U5).trans (Kp.give hF)
def Kp.iY (hF:∀(r:CR) o s,F {r with out:=o,iq:=s}=F r)(hs:n.iY nm=some n'):Kp F n n':=by
 unfold N.iY at hs;split at hs
 ·cases hs
 ·split at hs
  ·cases hs
  ·split at hs
   ·cases hs
   ·cases hs;exact(Kp.rC λ_=>H8).trans (Kp.take hF)
def Kp.kI (hF:∀(r:CR) o s,F {r with out:=o,iq:=s}=F r){f:Nat}:Kp F n (n.kI f nm):=by
 induction f generalizing n with
 |zero=>exact .refl _
 |succ f ih=>
  unfold N.kI
  cases h:n.iY nm with
  |none=>exact .refl _
  |some n'=>exact(Kp.iY hF h).trans ih
def Kp.serve (hF:∀(r:CR) o s,F {r with out:=o,iq:=s}=F r):Kp F n n.serve:=by
 unfold N.serve;generalize n.aN.map (·.1)=l
 induction l generalizing n with
 |nil=>exact .refl _
 |cons a l ih=>rw[List.foldl_cons];exact(Kp.kI hF).trans ih
def H7 {i:Int}:(n.leave id).rC i=n.rC i:=by
 unfold N.leave;split
 ·rfl
 ·rename_i c _;exact(M4 (n:=n.gV id c.ch) (f:=λc=>{c with ch:=[]}) λ_=>rfl).trans E4
def M3 {i:Int}:(n.oY id no).rC i=n.rC i:=(M4 (n:=n.release id no) (f:=λc=>{c with ch:=cC c.ch no}) λ_=>rfl).trans B6
def Kp.soft (hF:∀(r:CR) o s,F {r with out:=o,iq:=s}=F r){e cl me:Nat}:Kp F n (n.soft id no e cl me):=
 ((Kp.rC λ_=>(rp).trans B6).trans (Kp.send hF):Kp F n (((n.release id no).bB id no _).send id _))
structure vF (F:CR->β):Prop where
 out:∀(r:CR) o s,F {r with out:=o,iq:=s}=F r
 ph:∀(r:CR) p,F {r with ph:=p}=F r
 aq4:∀(r:CR) a b c p,F {r with cZ:=a,frame:=b,gD:=c,ph:=p}=F r
def Kp.cL (hF:vF F){e cl me:Nat}:Kp F n (n.cL id e cl me):=((Kp.rC λ_=>H7).trans (Kp.bA λr=>hF.ph r _)).trans (Kp.send hF.out)
def yN (F:CR->β)(n:N):HO->Prop
 | .bad _ _=>True
 | .ok n' _=>Kp F n n'
def yN.same {er:Er}:yN F n (.ok n er):=Kp.refl n
def aod {key body:List UInt8}{i:Int}:(n.jN key body).1.rC i=n.rC i:=by
 unfold N.jN;split
 ·rfl
 ·split
  ·rfl
  ·rfl
def aof {tg:List UInt8}{i:Int}:(n.rF id no h tg).rC i=n.rC i:=by
 unfold N.rF;split
 ·exact rp.trans aoc
 ·rfl
def TB {r:HR}:yN F n (n.whole id no r):=by
 unfold N.whole;split
 ·exact Kp.rC λ_=>rp
 ·exact Kp.rC λ_=>aod.trans rp
def ajK (hF:vF F){s:List UInt8}{cl me:Nat}:yN F n (n.method id no h s cl me):=by
 unfold N.method;split
 ·exact .same
 split
 ·unfold N.close;split
  ·exact(Kp.send hF.out).trans (Kp.rC λ_=>M3)
  ·trivial
 split
 ·unfold N.declare;split
  ·rename_i nm _;split
   ·exact Kp.send hF.out
   ·split
    ·exact .same
    ·split
     ·exact .same
     ·exact(Kp.rC (n':={n with aN:=da cP n.aN nm ⟨[],0,0,[]⟩}) λ_=>rfl).trans (Kp.send hF.out)
  ·trivial
 split
 ·unfold N.pE;split
  ·split
   ·exact(Kp.rC λ_=>H8).trans (Kp.send hF.out)
   ·exact .same
  ·trivial
 split
 ·unfold N.sF;split
  ·exact(Kp.rC λ_=>rp).trans (Kp.send hF.out)
  ·trivial
 split
 ·unfold N.consume;split
  ·split
   ·split
    ·split
     ·exact .same
     ·split
      ·exact .same
      ·split
       ·exact .same
       ·split
        ·exact .same
        ·refine Kp.trans (Kp.rC λi=>?_) (Kp.send hF.out);unfold N.kM;exact rp
    ·trivial
   ·trivial
  ·trivial
 split
 ·unfold N.qE;split
  ·exact(Kp.rC λ_=>aof).trans (Kp.send hF.out)
  ·trivial
 split
 ·unfold N.sE;split
  ·exact Kp.rC λ_=>rp
  ·trivial
 split
 ·unfold N.get;split
  ·split
   ·split
    ·exact .same
    ·split
     ·exact Kp.send hF.out
     ·exact(Kp.rC λ_=>U5.trans H8).trans (Kp.give hF.out)
   ·trivial
  ·trivial
 split
 ·unfold N.settled;split
  ·split
   ·split
    ·split
     ·exact Kp.rC λ_=>U7
     ·exact .same
    ·trivial
   ·trivial
  ·trivial
 split
 ·exact .same
 ·exact .same
def ajI (hF:vF F){kind:Int}{s:List UInt8}{cl me:Nat}:yN F n (n.js id no h kind s cl me):=by
 unfold N.js;split
 ·split
  ·exact(Kp.send hF.out).trans (Kp.rC λ_=>M3)
  ·split
   ·exact Kp.rC λ_=>M3
   ·exact .same
 ·split
  ·exact .same
  ·split
   ·unfold N.header;split
    ·split
     ·split
      ·split
       ·split
        ·exact .same
        ·split
         ·exact .same
         ·exact TB
       ·trivial
      ·trivial
     ·trivial
    ·trivial
   ·split
    ·unfold N.part;split
     ·exact Kp.rC λ_=>rp
     ·exact TB
    ·exact ajK hF
def TA (hF:vF F){ch kind:Int}{s:List UInt8}{cl me:Nat}:yN F n (n.iS id c ch kind s cl me):=by
 unfold N.iS;split
 ·unfold N.begin;by_cases hA:¬(kind=1/\cl=10/\me=(if c.r.ph=1 then 31 else 40))\/ch≠0
  ·rw[if_pos hA];exact .same
  ·rw[if_neg hA];split
   ·split
    ·exact(Kp.bA λr=>hF.ph r _).trans (Kp.send hF.out)
    ·trivial
   ·split
    ·split
     ·split
      ·split
       ·exact .same
       ·exact Kp.bA λr=>hF.aq4 r _ _ _ _
      ·trivial
     ·trivial
    ·trivial
 ·split
  ·split
   ·unfold N.control;split
    ·split
     ·exact((Kp.rC λ_=>H7).trans (Kp.send hF.out)).trans (Kp.bA λr=>hF.ph r _)
     ·trivial
    ·exact .same
   ·unfold N.kW;split
    ·exact .same
    ·split
     ·exact ajI hF
     ·split
      ·split
       ·exact(Kp.rC λ_=>M4 (f:=λc=>{c with ch:=da lG c.ch ch.toNat ⟨gu,[],[]⟩}) λ_=>rfl).trans (Kp.send hF.out)
       ·trivial
      ·exact .same
  ·split
   ·exact Kp.bA λr=>hF.ph r _
   ·exact .same
def ajJ (hF:vF F){u:Un}:yN F n (n.fB id c u):=by
 unfold N.fB;split
 ·split
  ·split
   ·exact TA hF
   ·exact .same
  ·exact .same
 ·exact TA hF
def Kp.fault (hF:vF F){no:Int}{er:Er}:Kp F n (n.fault id no er):=by
 unfold N.fault;split
 ·exact .refl _
 ·split
  ·exact .refl _
  ·exact Kp.soft hF.out
 ·split
  ·exact .refl _
  ·exact Kp.cL hF
def Kp.kQ (hF:vF F){u:Un}:Kp F n (n.kQ id u):=by
 unfold N.kQ
 cases hc:n.ar id with
 |none=>exact .refl _
 |some c=>
  simp only[];have h1:=ajJ (n:=n) (id:=id) (c:=c) (u:=u) hF
  cases hr:n.fB id c u with
  |bad cl me=>exact Kp.fault hF
  |ok n' er=>rw[hr]at h1;exact Kp.trans h1 (Kp.fault hF)
def Kp.unit (hF:vF F){u:Un}:Kp F n (n.unit id u):=by
 unfold N.unit;split
 ·split
  ·exact(Kp.send hF.out).trans (Kp.bA λr=>hF.ph r _)
  ·exact(Kp.bA λr=>hF.ph r _).trans (Kp.send hF.out)
 ·split
  ·split
   ·exact Kp.bA λr=>hF.ph r _
   ·exact(Kp.cL hF).trans (Kp.bA λr=>hF.ph r _)
  ·split
   ·exact .refl _
   ·exact Kp.kQ hF
def Kp.is (a:Kp F n n')(h:(n.ar id).isSome):(n'.ar id).isSome:=by
 have:=a id;unfold N.rC at this
 cases h1:n'.ar id with
 |some _=>rfl
 |none=>rw[h1]at this;obtain⟨c,hc⟩:=Option.isSome_iff_exists.1 h;rw[hc]at this;cases this
def Kp.get (a:Kp F n n'):(n'.ar id).map (λc=>F c.r)=(n.ar id).map λc=>F c.r:=by have:=a id;unfold N.rC at this;simpa[Option.map_map,Function.comp_def]using this
end
def BG:vF CR.rest:=⟨λ_ _ _=>rfl,λ_ _=>rfl,λ_ _ _ _ _=>rfl⟩
variable {n n':N}
def xg{id:Int}(a:Kp CR.rest n n'):n'.rest id=n.rest id:=by unfold N.rest;rw[a.get]
def xd{id:Int}(a:Kp CR.ph n n'):n'.ph id=n.ph id:=by unfold N.ph;rw[a.get]
def alW(l:List UInt8):∀a,l.foldl (λn b=>n*256+b.toNat) a<(a+1)*256^l.length:=by
 induction l with
 |nil=>intro a;simp
 |cons b l ih=>
  intro a;have h1:=ih (a*256+b.toNat);have h2:=b.toNat_lt;rw[List.foldl_cons,List.length_cons,Nat.pow_succ];refine Nat.lt_of_lt_of_le h1 ?_;rw[Nat.mul_comm (256^l.length) 256,<-Nat.mul_assoc];exact Nat.mul_le_mul_right _ aa
def Uv{l:List UInt8}{w:Nat}(h:l.length<=w):num l<256^w:=by have:=alW l 0;rw[Nat.zero_add,Nat.one_mul]at this;exact Nat.lt_of_lt_of_le this (Nat.pow_le_pow_right aa h)
structure Og (s:List UInt8) (v:Un×Bool×List UInt8):Prop where
 pay:v.1.ji.length<=5000
 ch:0<=v.1.channel/\v.1.channel<1000000
 le:v.2.2.length<=s.length
 lt:v.1.idle=false->v.1.gm=false->v.2.2.length<s.length
 idle:v.1.idle=true->v.2.2.length<=4104
def alo(gr:Bool)(s:List UInt8)(size:Int)(hs:size<=4096):Og s (dz gr s size):=by
 unfold dz;split
 ·simp only[];split
  ·exact⟨al,al,al,by simp[Un.idle],by simp[Un.idle]⟩
  ·split
   ·rename_i h8;exact⟨al,al,al,by simp[Un.idle];omega,by simp[Un.idle]⟩
   ·rename_i h8;exact⟨al,al,al,by simp[Un.idle],by simp[Un.idle];omega⟩
 ·split
  ·rename_i h7;exact⟨al,al,al,by simp[Un.idle],by simp[Un.idle];omega⟩
  ·rename_i h7;have dR:num ((s.drop 1).take 2)<256^2:=Uv (by simp;omega);simp only[];generalize hk:num (s.take 1)=kind;generalize hn:num ((s.drop 3).take 4)=n;generalize hw:(if kind=1\/kind=2\/kind=3 then decide ((n:Int)>size-8)else if kind=8 then decide (n>0\/num ((s.drop 1).take 2)≠0)else true:Bool)=gm;have hd:(s.drop 7).length=s.length-7:=List.length_drop
   have hle:gm=false->n<=4088:=by
    intro e;rw[e]at hw;split at hw
    ·simp only[decide_eq_false_iff_not]at hw;omega
    ·split at hw
     ·simp only[decide_eq_false_iff_not]at hw;omega
     ·cases hw
   have agE:gm=false->kind≠0:=by intro e hx;rw[e,hx]at hw;simp at hw
   split
   ·rename_i h1;exact⟨al,al,al,by simp[Un.idle],by simp[Un.idle];have:=hle h1.1;omega⟩
   ·rename_i h1;split
    ·rename_i h2;exact⟨al,by simp only;omega,al,al,by simp[Un.idle]⟩
    ·rename_i h2;have lr:gm=false:=aW h2;have h3:=hle lr;have h4:=agE lr;refine⟨by simp;omega,by simp only;omega,al,by simp;omega,λhi=>?_⟩;simp[Un.idle]at hi;omega
section
variable {n:N}{n':N}{T:Int}{K:Nat}{ex:List Int}{aL:Int}{no:Nat}{c:CN}{h:HN}{nm:List UInt8}{k:Int}{m:aM}{l:List Int}{β:Type}{F:CR->β}
variable {id:Int}
def kle {K a b B:Nat}(h:a<=b)(h2:K+40200000*b+80400000<=B):K+40200000*a+80400000<=B:=aa
def klt {K a b B:Nat}(h:a<b)(h2:K+40200000*b+80400000<=B):K+102000+40000000+40200000*a+80400000<=B:=aa
def N.mu (n:N)(id:Int):Nat:=(n.rest id).length+(if n.ph id=5 then 0 else 1)
structure pM (id:Int) (n:N):Prop where
 ex:∃T K,Ok T K [] n/\T+402*n.mu id+804<=1000000000000/\K+40200000*n.mu id+80400000<=100000000000000
 is:(n.ar id).isSome
 rest:(n.rest id).length<=1000000
def CS (hc:n.ar id=some c):n.cut id=((dz c.r.iy c.r.rest c.r.frame).1,n.bA id λr=>{r with iy:=(dz c.r.iy c.r.rest c.r.frame).2.1,rest:=(dz c.r.iy c.r.rest c.r.frame).2.2}):=by unfold N.cut;rw[hc]
def Ok.cut (o:Ok T K ex n)(hc:n.ar id=some c):Ok T K ex (n.cut id).2:=by rw[CS hc];exact o.bA (f:=λr=>{r with iy:=(dz c.r.iy c.r.rest c.r.frame).2.1,rest:=(dz c.r.iy c.r.rest c.r.frame).2.2}) (Nat.le_refl _) λc hc=>⟨(o.c _ _ hc).r.out,(o.c _ _ hc).r.frame,(o.c _ _ hc).r.cZ⟩
def Ak (hc:n.ar id=some c):n.rest id=c.r.rest:=by unfold N.rest;rw[hc];rfl
def vl (hc:n.ar id=some c):n.ph id=c.r.ph:=by unfold N.ph;rw[hc];rfl
def zb (hc:n.ar id=some c):(n.cut id).2.ar id=some {c with r:={c.r with iy:=(dz c.r.iy c.r.rest c.r.frame).2.1,rest:=(dz c.r.iy c.r.rest c.r.frame).2.2}}:=by rw[CS hc];simp only;rw[qG,if_pos rfl,hc];rfl
def CU (o:Ok T K ex n)(hc:n.ar id=some c):Og (n.rest id) ((n.cut id).1,c.r.iy,(n.cut id).2.rest id):=by have:=alo c.r.iy c.r.rest c.r.frame (o.c _ _ hc).r.frame.2;rw[Ak (zb hc),Ak hc,CS hc];exact⟨this.pay,this.ch,this.le,this.lt,this.idle⟩
def abS (hc:n.ar id=some c):(n.cut id).2.ph id=n.ph id:=by rw[vl (zb hc),vl hc]
def pM.abR (F:pM id n)(hi:(n.cut id).1.idle=true):pM id (n.cut id).2/\((n.cut id).2.rest id).length<=4104:=by
 obtain⟨⟨T,K,o,h1,h2⟩,is,hr⟩:=F;obtain⟨c,hc⟩:=Option.isSome_iff_exists.1 is;have k:=CU o hc;have hle:=k.le;simp only at hle;have hm:(n.cut id).2.mu id<=n.mu id:=by unfold N.mu;rw[abS hc];omega
 refine⟨⟨⟨T,K,o.cut hc,?_,?_⟩,?_,?_⟩,k.idle hi⟩
 ·omega
 ·exact kle hm h2
 ·rw[zb hc];rfl
 ·omega
def Wb {u:Un}(hw:u.gm=true)(hi:(n.ar id).isSome):(n.unit id u).ph id=5:=by
 have key:∀n:N,(n.ar id).isSome->(n.bA id λr=>{r with ph:=5}).ph id=5:=λn h=>by obtain⟨c,hc⟩:=Option.isSome_iff_exists.1 h;rw[vl (c:={c with r:={c.r with ph:=5}}) (by rw[qG,if_pos rfl,hc];rfl)]
 unfold N.unit;rw[if_pos hw];split
 ·exact key _ (oC hi)
 ·split
  ·exact key _ hi
  ·exact key _ (by unfold N.cL;exact oC (zS (Ts hi)))
def pM.step (F:pM id n)(hp:n.ph id≠5)(hi:(n.cut id).1.idle=false):
 pM id ((n.cut id).2.unit id (n.cut id).1).serve/\(((n.cut id).2.unit id (n.cut id).1).serve).mu id<n.mu id:=by
 obtain⟨⟨T,K,o,h1,h2⟩,is,hr⟩:=F;obtain⟨c,hc⟩:=Option.isSome_iff_exists.1 is;have k:=CU o hc;have hle:=k.le;simp only at hle;have o1:=o.cut hc;have uT:((n.cut id).2.ar id).isSome:=by rw[zb hc];rfl
 have o2:=(o1.unit (id:=id) (u:=(n.cut id).1) k.pay k.ch.1 uT).serve;have r1:((n.cut id).2.unit id (n.cut id).1).serve.rest id=(n.cut id).2.rest id:=(xg (Kp.serve λ_ _ _=>rfl)).trans (xg (Kp.unit BG));have p1:((n.cut id).2.unit id (n.cut id).1).serve.ph id=((n.cut id).2.unit id (n.cut id).1).ph id:=xd (Kp.serve λ_ _ _=>rfl);have LV:(((n.cut id).2.unit id (n.cut id).1).serve.ar id).isSome:=(Kp.serve (F:=CR.rest) λ_ _ _=>rfl).is ((Kp.unit BG).is uT)
 have hm:(((n.cut id).2.unit id (n.cut id).1).serve).mu id<n.mu id:=by
  unfold N.mu;rw[r1,p1,if_neg hp]
  cases hw:(n.cut id).1.gm with
  |true=>rw[Wb hw uT];simp only[if_true];omega
  |false=>have:=k.lt hi hw;simp only at this;split<;>omega
 refine⟨⟨⟨_,_,o2,?_,?_⟩,LV,?_⟩,hm⟩
 ·omega
 ·exact klt hm h2
 ·rw[r1];omega
structure Om (id:Int) (T:Int) (K:Nat) (n:N):Prop where
 ok:Ok T K [] n
 is:(n.ar id).isSome
 rest:n.ph id=5\/(n.rest id).length<=4104
def Ok.fJ (o:Ok T K [] n)(is:(n.ar id).isSome){f:Nat}(hf:n.mu id<f):Om id (T+402*n.mu id) (K+40200000*n.mu id) (n.fJ f id):=by
 induction f generalizing n T K with
 |zero=>omega
 |succ f ih=>
  unfold N.fJ;obtain⟨c,hc⟩:=Option.isSome_iff_exists.1 is;have k:=CU o hc;have hle:=k.le;simp only at hle;have o1:=o.cut hc;have uT:((n.cut id).2.ar id).isSome:=by rw[zb hc];rfl
  split
  ·rename_i h5;exact⟨o.mono aa aa,is,.inl h5⟩
  ·rename_i hp;split
   ·rename_i hi;exact⟨o1.mono aa aa,uT,.inr (k.idle hi)⟩
   ·rename_i hi;have hi:(n.cut id).1.idle=false:=aW hi;have o2:=(o1.unit (id:=id) (u:=(n.cut id).1) k.pay k.ch.1 uT).serve;have r1:((n.cut id).2.unit id (n.cut id).1).serve.rest id=(n.cut id).2.rest id:=(xg (Kp.serve λ_ _ _=>rfl)).trans (xg (Kp.unit BG));have p1:((n.cut id).2.unit id (n.cut id).1).serve.ph id=((n.cut id).2.unit id (n.cut id).1).ph id:=xd (Kp.serve λ_ _ _=>rfl);have LV:(((n.cut id).2.unit id (n.cut id).1).serve.ar id).isSome:=(Kp.serve (F:=CR.rest) λ_ _ _=>rfl).is ((Kp.unit BG).is uT)
    have hm:(((n.cut id).2.unit id (n.cut id).1).serve).mu id<n.mu id:=by
     unfold N.mu;rw[r1,p1,if_neg hp]
     cases hw:(n.cut id).1.gm with
     |true=>rw[Wb hw uT];simp only[if_true];omega
     |false=>have:=k.lt hi hw;simp only at this;split<;>omega
    have h3:=ih o2 LV aa;exact⟨h3.ok.mono aa aa,h3.is,h3.rest⟩
def Ok.aj0 (o:Ok T K [] n):Ok T K [] (n.leave id):=by
 cases hc:n.ar id with
 |none=>unfold N.leave;rw[hc];exact o
 |some c=>exact o.leave (λ_ h=>by cases h) (by rw[hc];rfl)
def N.leaves (n:N)(l:List Int):N:=l.foldl (λn id=>if n.ph id=5 then n.leave id else n) n
def Ok.leaves (o:Ok T K [] n){l:List Int}:Ok T K [] (n.leaves l):=by
 unfold N.leaves
 induction l generalizing n with
 |nil=>exact o
 |cons a l ih=>
  rw[List.foldl_cons];split
  ·exact ih o.aj0
  ·exact ih o
def E3 {l:List Int}{i:Int}:(n.leaves l).rC i=n.rC i:=by
 unfold N.leaves
 induction l generalizing n with
 |nil=>rfl
 |cons a l ih=>
  rw[List.foldl_cons,ih];split
  ·exact H7
  ·rfl
def abc (hc:(n.leave id).ar id=some c):c.ch=[]:=by
 cases h:n.ar id with
 |none=>unfold N.leave at hc;rw[h]at hc;simp only at hc;rw[h]at hc;cases hc
 |some c0=>
  rw[Md h,qF,if_pos rfl]at hc;obtain⟨c1,_,rfl⟩:=Option.map_eq_some_iff.1 hc;rfl
def aa6 {c c':CN}(h:c'.ch.map (·.1)=c.ch.map (·.1))(hc:c.ch=[]):c'.ch=[]:=by rw[hc]at h;simpa using h
def abb (aE:aL≠id):((n.leave id).ar aL).map (λc=>c.ch.map (·.1))=(n.ar aL).map λc=>c.ch.map (·.1):=by
 cases h:n.ar id with
 |none=>unfold N.leave;rw[h]
 |some c0=>
  rw[Md h,qF,if_neg aE];exact JG
def FK (n:N):Prop:=∀id c,n.ar id=some c->c.r.ph=5->c.ch=[]
def Tx (hk:((n'.ar id).map λc=>c.ch.map (·.1))=(n.ar id).map λc=>c.ch.map (·.1))(h0:∀c,n.ar id=some c->c.ch=[]):∀c,n'.ar id=some c->c.ch=[]:=λc hc=>by rw[hc,Option.map_some]at hk;obtain⟨c0,h1,h2⟩:=Option.map_eq_some_iff.1 hk.symm;exact aa6 h2.symm (h0 c0 h1)
def aj3 {l:List Int}(hm:id∈l\/∀c,n.ar id=some c->c.ch=[])(h5:n.ph id=5):∀c,(n.leaves l).ar id=some c->c.ch=[]:=by
 induction l generalizing n with
 |nil=>exact hm.elim (λh=>by cases h) λh=>h
 |cons a l ih=>
  have e:n.leaves (a::l)=(if n.ph a=5 then n.leave a else n).leaves l:=rfl;rw[e]
  have qi:(if n.ph a=5 then n.leave a else n).ph id=5:=by
   split
   ·rw[xd (Kp.rC λ_=>H7)];exact h5
   ·exact h5
  refine ih ?_ qi;by_cases ha:id=a
  ·subst ha;rw[if_pos h5];exact .inr λc hc=>abc hc
  ·rcases hm with hm|hm
   ·exact .inl ((List.mem_cons.1 hm).resolve_left ha)
   ·right;split
    ·exact Tx (abb ha) hm
    ·exact hm
def PV {s:List UInt8}:((n.send id s).ar aL).map (λc=>c.ch.map (·.1))=(n.ar aL).map λc=>c.ch.map (·.1):=by
 rw[sZ];split
 ·cases n.ar aL<;>rfl
 ·rfl
def aba {na:Bool}:((n.hand id no nm m na).ar aL).map (λc=>c.ch.map (·.1))=(n.ar aL).map λc=>c.ch.map (·.1):=by
 unfold N.hand;split
 ·exact Gg
 ·rw[y9];exact Gg
def abh:((n.take k m).ar aL).map (λc=>c.ch.map (·.1))=(n.ar aL).map λc=>c.ch.map (·.1):=by
 unfold N.take;split
 ·rfl
 ·unfold N.give;exact PV.trans (PV.trans aba)
def abe {f:Nat}:((n.kI f nm).ar aL).map (λc=>c.ch.map (·.1))=(n.ar aL).map λc=>c.ch.map (·.1):=by
 induction f generalizing n with
 |zero=>rfl
 |succ f ih=>
  unfold N.kI
  cases h:n.iY nm with
  |none=>rfl
  |some n'=>
   simp only[];rw[ih];unfold N.iY at h;split at h
   ·cases h
   ·split at h
    ·cases h
    ·split at h
     ·cases h
     ·cases h;rw[abh,y9]
def PW:(n.serve.ar aL).map (λc=>c.ch.map (·.1))=(n.ar aL).map λc=>c.ch.map (·.1):=by
 unfold N.serve;generalize n.aN.map (·.1)=l
 induction l generalizing n with
 |nil=>rfl
 |cons a l ih=>rw[List.foldl_cons,ih,abe]
def Fh:n.gW=(n.leaves (n.aF.map (·.1))).serve:=rfl
def Ok.gW (o:Ok T K [] n):Ok (T+400) (K+40000000) [] n.gW:=by rw[Fh];exact o.leaves.serve
def aeA:FK n.gW:=λid c hc h5=>by
 rw[Fh]at hc;have qi:(n.leaves (n.aF.map (·.1))).serve.ph id=5:=by rw[vl hc];exact h5
 rw[xd (Kp.serve λ_ _ _=>rfl)]at qi;rw[xd (Kp.rC λ_=>E3)]at qi
 have h0:((n.ar id)).isSome:=by
  have h1:((n.leaves (n.aF.map (·.1))).ar id).isSome:=by
   have:=PW (n:=n.leaves (n.aF.map (·.1))) (aL:=id);rw[hc]at this
   cases h:(n.leaves (n.aF.map (·.1))).ar id with
   |some _=>rfl
   |none=>rw[h]at this;cases this
  exact El h1 E3.symm
 exact Tx PW (aj3 (.inl (mf.1 h0)) qi) c hc
end
section
variable {n:N}{T:Int}{T':Int}{K:Nat}{ex:List Int}{aL:Int}{no:Nat}{c:CN}{h:HN}{nm:List UInt8}{q:QN}{k:Int}{x:XN}{l:List Int}{β:Type}{F:CR->β}
variable {id:Int}
def XE {α β:Type}[DecidableEq α]{l:List (α×β)}{k:α}(nd:(l.map (·.1)).Nodup)(p:β->Bool):bq (l.filter λe=>p e.2) k=(bq l k).filter p:=by
 induction l with
 |nil=>rfl
 |cons e l ih=>
  rw[List.map_cons,List.nodup_cons]at nd;have ih:=ih nd.2;unfold bq at ih|-;rw[List.filter_cons,List.find?_cons];by_cases he:e.1=k
  ·simp only[he,decide_true,Option.map_some];by_cases hp:p e.2
   ·rw[if_pos hp,List.find?_cons];simp[he,Option.filter,hp]
   ·rw[if_neg hp];have:∀x∈l,¬x.1=k:=λx hx hy=>nd.1 (by rw[he,<-hy];exact List.mem_map_of_mem (f:=(·.1)) hx)
    have h2:((l.filter λe=>p e.2).find? λe=>decide (e.1=k))=none:=List.find?_eq_none.2 λx hx=>by have:=this x (List.mem_filter.1 hx).1;simpa using this
    rw[h2];have:p e.2=false:=aW hp;simp[Option.filter,this]
  ·simp only[he,decide_false];by_cases hp:p e.2
   ·rw[if_pos hp,List.find?_cons];simp only[he,decide_false];exact ih
   ·rw[if_neg hp];exact ih
def Gh (o:Ok T K ex n):n.clean.ar id=((n.ar id).filter λc=>decide (c.r.ph≠5)).map λc=>{c with r:={c.r with out:=[]}}:=by unfold N.ar N.clean;simp only[];exact(OQ (γ:=CN) (n.aF.filter λe=>decide (e.2.r.ph≠5)) id λc:CN=>{c with r:={c.r with out:=[]}}).trans (congrArg _ (XE o.nc λc=>decide (c.r.ph≠5)))
def afb (o:Ok T K ex n)(g:FK n):n.clean.h? id no=n.h? id no:=by
 unfold N.h?;rw[Gh o]
 cases hc:n.ar id with
 |none=>rfl
 |some c=>
  by_cases h5:c.r.ph=5
  ·have:=g id c hc h5;simp[Option.filter,h5,this,bq]
  ·simp[Option.filter,h5]
def ND (g:FK n)(nc:(n.aF.map (·.1)).Nodup){w:HN->Nat}:n.clean.eO w=n.eO w:=by
 unfold N.eO N.clean;simp only[List.map_map,Function.comp_def]
 exact VT n.aF (λe=>decide (e.2.r.ph≠5)) (λe=>(e.2.ch.map λg=>w g.2).sum) λe he hp=>by have h5:e.2.r.ph=5:=aW hp;rw[g e.1 e.2 (oF nc he) h5];rfl
def Ok.clean (o:Ok T K [] n)(g:FK n):Ok T 0 [] n.clean:=by
 have j9:(n.clean.aF.map (·.1)).Sublist (n.aF.map (·.1)):=by
  have e:n.clean.aF.map (·.1)=(n.aF.filter λe=>decide (e.2.r.ph≠5)).map (·.1):=by unfold N.clean;simp only[List.map_map];rfl
  rw[e];exact List.Sublist.map _ List.filter_sublist
 have hl:n.clean.aF.length<=n.aF.length:=by have:=j9.length_le;simpa using this
 have hh:∀i j,n.clean.h? i j=n.h? i j:=λi j=>afb o g
 exact{
  cfg:=o.cfg
  sc:=o.sc.sublist j9
  lc:=Nat.le_trans hl o.lc
  ids:=λi hi=>o.ids i (mf.2 (j9.subset (mf.1 hi)))
  sq:=o.sq
  nq:=o.nq
  lq:=o.lq
  w:=⟨λi j h' hx=>o.w.un i j h' (by rw[<-hh];exact hx),o.w.xq,λk x hx=>by obtain⟨h',h1,h2⟩:=o.w.xh k x hx;exact⟨h',by rw[hh];exact h1,h2⟩,λi j h' hx=>o.w.co i j h' (by rw[<-hh];exact hx),o.w.qc⟩
  c:=λi c' cF=>by
   rw[Gh o]at cF
   obtain⟨c,h1,rfl⟩:=Option.map_eq_some_iff.1 cF
   obtain⟨h1,_⟩:=Option.filter_eq_some_iff.1 h1
   have oc:=o.c _ _ h1
   exact⟨⟨al,oc.r.frame,oc.r.cZ⟩,oc.jF,oc.no⟩
  h:=λi j h' hx=>o.h i j h' (by rw[<-hh];exact hx)
  part:=λi j h' hx=>o.part i j h' (by rw[<-hh];exact hx)
  q:=o.q
  cnt:=λnm q hq=>(o.cnt nm q hq).same (ND g o.nc) (λs=>ND g o.nc) rfl
  x:=o.x
  xn:=o.xn
  xl:=by rw[ND g o.nc];exact o.xl
  gR:=o.gR
  bh:=o.bh
  last:=o.last}
structure Inv (T:Int) (n:N):Prop where
 ok:Ok T 0 [] n
 ph:∀id c,n.ar id=some c->c.r.ph≠5
 rest:∀id,(n.rest id).length<=4104
def Inv.mono (o:Inv T n)(h:T<=T'):Inv T' n:=⟨o.ok.mono h (Nat.le_refl _),o.ph,o.rest⟩
def aoR (o:Ok T K ex n):n.clean.rest id=(((n.ar id).filter λc=>decide (c.r.ph≠5)).map λc=>c.r.rest).getD []:=by unfold N.rest;rw[Gh o,Option.map_map];rfl
def Inv.HQ (o:Ok T K [] n)(hr:∀id,n.ph id=5\/(n.rest id).length<=4104):Inv (T+400) n.gW.clean:=by
 have o1:=o.gW;refine⟨o1.clean aeA,λid c hc=>?_,λid=>?_⟩
 ·rw[Gh o1]at hc;obtain⟨c0,h1,rfl⟩:=Option.map_eq_some_iff.1 hc;obtain⟨_,h2⟩:=Option.filter_eq_some_iff.1 h1;simpa using h2
 ·rw[aoR o1]
  cases hc:n.gW.ar id with
  |none=>simp
  |some c=>
   have e1:n.gW.rest id=n.rest id:=by rw[Fh];exact(xg (Kp.serve λ_ _ _=>rfl)).trans (xg (Kp.rC λ_=>E3))
   have e2:n.gW.ph id=n.ph id:=by rw[Fh];exact(xd (Kp.serve λ_ _ _=>rfl)).trans (xd (Kp.rC λ_=>E3))
   rw[Ak hc]at e1;rw[vl hc]at e2;by_cases h5:c.r.ph=5
   ·simp[Option.filter,h5]
   ·simp only[Option.filter,h5,ne_eq,not_false_eq_true,decide_true,if_true,Option.map_some,Option.getD_some];rw[e1];exact(hr id).resolve_left (by rw[<-e2];exact h5)
def Vj {f:CR->CR}(hf:∀r,(f r).rest=r.rest):(n.bA id f).rest aL=n.rest aL:=xg (Kp.bA (F:=CR.rest) hf)
def HG:n.mu id<=(n.rest id).length+1:=by unfold N.mu;split<;>omega
def N.recv (n:N)(id:Int)(s:List UInt8):N:=n.bA id λr=>{r with recv:=n.clock,rest:=r.rest++s}
def Gq {s:List UInt8}:n.s7 id s=(n.recv id s).fJ (((n.recv id s).rest id).length+2) id:=rfl
def Vg {s:List UInt8}(hc:n.ar id=some c):(n.recv id s).rest id=n.rest id++s:=by rw[Ak hc,Ak (c:={c with r:={c.r with recv:=n.clock,rest:=c.r.rest++s}})];unfold N.recv;rw[qG,if_pos rfl,hc];rfl
def aoO {s:List UInt8}(aE:aL≠id):(n.recv id s).rest aL=n.rest aL:=by unfold N.rest N.recv;rw[qG,if_neg aE]
def Ok.recv (o:Ok T K ex n){s:List UInt8}:Ok T K ex (n.recv id s):=o.bA (f:=λr=>{r with recv:=n.clock,rest:=r.rest++s}) (Nat.le_refl _) λc hc=>⟨(o.c _ _ hc).r.out,(o.c _ _ hc).r.frame,(o.c _ _ hc).r.cZ⟩
def Tt {s:List UInt8}(hi:(n.ar aL).isSome):((n.recv id s).ar aL).isSome:=zS hi
def Ok.s7 (o:Ok T K [] n){s:List UInt8}(hc:n.ar id=some c):Om id (T+402*((n.rest id).length+s.length+1:Nat)) (K+40200000*((n.rest id).length+s.length+1)) (n.s7 id s):=by
 rw[Gq];have h1:=Vg (s:=s) hc;have hm:=HG (n:=n.recv id s) (id:=id);rw[h1,List.length_append]at hm;have:=(o.recv (id:=id) (s:=s)).fJ (f:=((n.recv id s).rest id).length+2) (Tt (by rw[hc];rfl)) (by have:=HG (n:=n.recv id s) (id:=id);omega);refine⟨this.ok.mono ?_ ?_,this.is,this.rest⟩
 ·omega
 ·exact Nat.add_le_add_left (Nat.mul_le_mul_left _ hm) _
def ajH {f:Nat}(aE:aL≠id):(n.fJ f id).rest aL=n.rest aL:=by
 induction f generalizing n with
 |zero=>rfl
 |succ f ih=>
  have Bj:(n.cut id).2.rest aL=n.rest aL:=by
   unfold N.cut;split
   ·rfl
   ·unfold N.rest;simp only;rw[qG,if_neg aE]
  unfold N.fJ;split
  ·rfl
  ·split
   ·exact Bj
   ·rw[ih,xg (Kp.serve λ_ _ _=>rfl),xg (Kp.unit BG),Bj]
def Inv.feed (o:Inv T n){s:List UInt8}:Inv (T+402*(s.length+4107:Nat)) (n.feed id s).clean:=by
 unfold N.feed;split
 ·have:=Inv.HQ o.ok (λid=>.inr (o.rest id));exact this.mono aa
 ·cases hc:n.ar id with
  |none=>
   have e:n.s7 id s=n:=by
    have e1:n.recv id s=n:=by unfold N.recv N.bA N.dN;have:dE n.aF id (λc=>{c with r:={c.r with recv:=n.clock,rest:=c.r.rest++s}})=n.aF:=AL λe he hx=>absurd hx (ja hc e he);rw[this]
    rw[Gq,e1];unfold N.fJ;have:n.ph id=5:=by unfold N.ph;rw[hc];rfl
    rw[if_pos this]
   rw[e];exact(Inv.HQ o.ok (λid=>.inr (o.rest id))).mono aa
  |some c=>
   have f1:=o.ok.s7 (s:=s) hc;have h2:=o.rest id;refine(Inv.HQ f1.ok λi=>?_).mono aa;by_cases e:i=id
   ·subst e;exact f1.rest
   ·right;rw[Gq,ajH e,aoO e];exact o.rest i
def Inv.drop (o:Inv T n):Inv (T+400) (n.drop id).clean:=by unfold N.drop;have o1:Ok T 0 [] (n.bA id λr=>{r with ph:=5}):=o.ok.bA (Nat.le_refl _) λc hc=>⟨(o.ok.c _ _ hc).r.out,(o.ok.c _ _ hc).r.frame,(o.ok.c _ _ hc).r.cZ⟩;refine Inv.HQ o1 λi=>.inr ?_;rw[Vj (f:=λr=>{r with ph:=5}) λ_=>rfl];exact o.rest i
def N.connect (n:N):N:={n with last:=n.last+1,aF:=n.aF++[(n.last+1,⟨⟨0,[],false,0,n.cfg.frame,0,n.clock,n.clock,[]⟩,[]⟩)]}
def XH {α β:Type}[DecidableEq α]{l:List (α×β)}{k k':α}{v:β}(h:bq l k=none):bq (l++[(k,v)]) k'=if k'=k then some v else bq l k':=by
 unfold bq at h|-;rw[List.find?_append];by_cases e:k'=k
 ·subst e;rw[if_pos rfl];have:(l.find? λe=>decide (e.1=k'))=none:=aW h;rw[this];simp
 ·rw[if_neg e];have:¬k=k':=λx=>e x.symm;simp[this]
def Ok.MB (o:Ok T K ex n):n.ar (n.last+1)=none:=by
 cases h:n.ar (n.last+1)with
 |none=>rfl
 |some c=>have:=o.ids (n.last+1) (by rw[h];rfl);omega
def AV (o:Ok T K ex n):n.connect.ar id=if id=n.last+1 then some ⟨⟨0,[],false,0,n.cfg.frame,0,n.clock,n.clock,[]⟩,[]⟩else n.ar id:=XH o.MB
def Dl (o:Ok T K ex n):n.connect.h? id no=n.h? id no:=by
 unfold N.h?;rw[AV o];split
 ·rename_i e;rw[e,o.MB];rfl
 ·rfl
def Inv.connect (o:Inv T n)(hl:n.aF.length<=3):Inv T n.connect:=by
 have ok:=o.ok
 have ht:∀w:HN->Nat,n.connect.eO w=n.eO w:=λw=>by unfold N.eO N.connect;simp
 have mI:=ok.last
 refine⟨{
  cfg:=ok.cfg
  sc:=?_
  lc:=by show(n.aF++[_]).length<=4;rw[List.length_append,List.length_singleton];omega
  ids:=λi hi=>by
   rw[AV ok]at hi
   show 1<=i/\i<=n.last+1
   split at hi
   ·omega
   ·have:=ok.ids i hi;omega
  sq:=ok.sq
  nq:=ok.nq
  lq:=ok.lq
  w:=⟨λi j h' hx=>ok.w.un i j h' (by rw[<-Dl ok];exact hx),ok.w.xq,λk x hx=>by obtain⟨h',h1,h2⟩:=ok.w.xh k x hx;exact⟨h',by rw[Dl ok];exact h1,h2⟩,λi j h' hx=>ok.w.co i j h' (by rw[<-Dl ok];exact hx),ok.w.qc⟩
  c:=λi c' cF=>by
   rw[AV ok]at cF
   split at cF
   ·cases cF;exact⟨⟨al,ok.cfg.frame,al⟩,List.Pairwise.nil,λ_ h=>by cases h⟩
   ·exact ok.c _ _ cF
  h:=λi j h' hx=>ok.h i j h' (by rw[<-Dl ok];exact hx)
  part:=λi j h' hx=>ok.part i j h' (by rw[<-Dl ok];exact hx)
  q:=ok.q
  cnt:=λnm q hq=>(ok.cnt nm q hq).same (ht _) (λs=>ht _) rfl
  x:=ok.x
  xn:=ok.xn
  xl:=by rw[ht];exact ok.xl
  gR:=ok.gR
  bh:=ok.bh
  last:=by show 0<=n.last+1;omega},λi c' cF=>?_,λi=>?_⟩
 ·show((n.aF++[(n.last+1,(⟨⟨0,[],false,0,n.cfg.frame,0,n.clock,n.clock,[]⟩,[]⟩:CN))]).map (·.1)).Pairwise (·<·);rw[List.map_append,List.pairwise_append];refine⟨ok.sc,al,λa ha b hb=>?_⟩;simp only[List.map_cons,List.map_nil,List.mem_singleton]at hb;have:=ok.ids a (mf.2 ha);omega
 ·rw[AV ok]at cF;split at cF
  ·cases cF;simp
  ·exact o.ph _ _ cF
 ·unfold N.rest;rw[AV ok];split
  ·simp
  ·exact o.rest i
def N.new (g:kt):N:=⟨g,0,0,0,0,[],[],[]⟩
def Inv.new {g:kt}(hg:FJ g):Inv 0 (N.new g):=by
 have e1:∀i,(N.new g).ar i=none:=λ_=>rfl;have e2:∀i j,(N.new g).h? i j=none:=λ_ _=>rfl;have e3:∀i,(N.new g).q? i=none:=λ_=>rfl;have e4:∀i,(N.new g).x? i=none:=λ_=>rfl
 exact⟨{
  cfg:=hg
  sc:=List.Pairwise.nil
  lc:=by simp[N.new]
  ids:=λi hi=>by rw[e1]at hi;cases hi
  sq:=List.Pairwise.nil
  nq:=List.Pairwise.nil
  lq:=by simp[N.new]
  w:=⟨λi j h hx=>by rw[e2]at hx;(cases hx),λk x hx=>by rw[e4]at hx;(cases hx),λk x hx=>by rw[e4]at hx;(cases hx),λi j h hx=>by rw[e2]at hx;(cases hx),λk x hx=>by rw[e3]at hx;(cases hx)⟩
  c:=λi c hx=>by rw[e1]at hx;cases hx
  h:=λi j h hx=>by rw[e2]at hx;cases hx
  part:=λi j h hx=>by rw[e2]at hx;cases hx
  q:=λk x hx=>by rw[e3]at hx;cases hx
  cnt:=λk x hx=>by rw[e3]at hx;cases hx
  x:=λk x hx=>by rw[e4]at hx;cases hx
  xn:=List.Pairwise.nil
  xl:=by simp[N.new]
  gR:=by simp[N.new]
  bh:=by simp[N.new]
  last:=by simp[N.new]},λi c hx=>by rw[e1]at hx;(cases hx),λi=>by simp[N.rest,e1]⟩
end
section
variable {n:N}{c:CN}{h:HN}{k:Int}{l:List Int}{β:Type}
variable {id:Int}
def AU (e:Int×CN):Int×CN:=(e.1,{e.2 with r:={e.2.r with out:=[]}})
def N.cl (n:N)(j:Nat):N:={n with aF:=((n.aF.take j).filter λe=>decide (e.2.r.ph≠5)).map AU++n.aF.drop j}
def N.os (n:N)(j:Nat):List (Int×List UInt8):=((n.aF.take j).map λe=>(e.1,e.2.r.out)).filter λe=>decide (e.2≠[])
def abn:n.cl 0=n:=by unfold N.cl;simp
def abj:n.cl n.aF.length=n.clean:=by unfold N.cl N.clean;simp[List.take_length,List.drop_length,AU]
def amK:n.os n.aF.length=n.outs:=by unfold N.os N.outs;rw[List.take_length]
def amM {j:Nat}(hj:j<n.aF.length):n.os (j+1)=n.os j++(if n.aF[j].2.r.out=[]then []else [(n.aF[j].1,n.aF[j].2.r.out)]):=by unfold N.os;rw[List.take_succ_eq_append_getElem hj,List.map_append,List.filter_append];congr 1;by_cases h:n.aF[j].2.r.out=[]<;>simp[h]
def amL {j:Nat}:(n.os j).length<=n.aF.length:=by unfold N.os;refine Nat.le_trans (List.length_filter_le _ _) ?_;rw[List.length_map,List.length_take];omega
def CL {j:Nat}(nd:(n.aF.map (·.1)).Nodup)(hj:j<n.aF.length):(∀e∈((n.aF.take j).filter λe=>decide (e.2.r.ph≠5)).map AU,¬e.1=n.aF[j].1)/\∀e∈n.aF.drop (j+1),¬e.1=n.aF[j].1:=by
 constructor
 ·intro e he;obtain⟨e0,h0,rfl⟩:=List.mem_map.1 he;exact HM nd hj e0 (List.mem_filter.1 h0).1
 ·intro e he hx;obtain⟨i,hi,rfl⟩:=List.getElem_of_mem he;rw[List.length_drop]at hi;rw[List.getElem_drop]at hx;have h1:(n.aF.map (·.1))[j]'(by simp;omega)=(n.aF.map (·.1))[j+1+i]'(by simp;omega):=by simpa using hx.symm
  exact(List.pairwise_iff_getElem.1 nd) j (j+1+i) (by simp;omega) (by simp;omega) aa h1
def OR {α β:Type}[DecidableEq α]{P R:List (α×β)}{k:α}{v:β}(hP:∀e∈P,¬e.1=k):bq (P++(k,v)::R) k=some v:=by
 unfold bq;rw[List.find?_append];have:(P.find? λe=>decide (e.1=k))=none:=List.find?_eq_none.2 λe he=>by simpa using hP e he
 rw[this];simp
def XP {α β:Type}[DecidableEq α]{P R:List (α×β)}{k:α}{v:β}{f:β->β}(hP:∀e∈P,¬e.1=k)(hR:∀e∈R,¬e.1=k):dE (P++(k,v)::R) k f=P++(k,f v)::R:=by have h1:dE P k f=P:=AL λe he hx=>absurd hx (hP e he);have h2:dE R k f=R:=AL λe he hx=>absurd hx (hR e he);unfold dE at h1 h2|-;rw[List.map_append,List.map_cons,h1,h2,if_pos rfl]
def Xt {α β:Type}[DecidableEq α]{P R:List (α×β)}{k:α}{v:β}(hP:∀e∈P,¬e.1=k)(hR:∀e∈R,¬e.1=k):cC (P++(k,v)::R) k=P++R:=by unfold cC;rw[List.filter_append,List.filter_cons_of_neg al];rw[List.filter_eq_self.2 λe he=>by simpa using hP e he,List.filter_eq_self.2 λe he=>by simpa using hR e he]
def PY {j:Nat}(hj:j<n.aF.length):(n.cl j).aF=((n.aF.take j).filter λe=>decide (e.2.r.ph≠5)).map AU++(n.aF[j].1,n.aF[j].2)::n.aF.drop (j+1):=by unfold N.cl;simp only[];rw[List.drop_eq_getElem_cons hj]
def abk {j:Nat}(nd:(n.aF.map (·.1)).Nodup)(hj:j<n.aF.length):(n.cl j).ar n.aF[j].1=some n.aF[j].2:=by unfold N.ar;rw[PY hj];exact OR (CL nd hj).1
def JH {j:Nat}(nd:(n.aF.map (·.1)).Nodup)(hj:j<n.aF.length):
 ((n.cl j).bA n.aF[j].1 λr=>{r with out:=[]}).aF=((n.aF.take j).filter λe=>decide (e.2.r.ph≠5)).map AU++(n.aF[j].1,{n.aF[j].2 with r:={n.aF[j].2.r with out:=[]}})::n.aF.drop (j+1):=by
 have h:=XP (v:=n.aF[j].2) (f:=λc:CN=>{c with r:={c.r with out:=[]}}) (CL nd hj).1 (CL nd hj).2;rw[<-PY hj]at h;exact h
def abm {j:Nat}(nd:(n.aF.map (·.1)).Nodup)(hj:j<n.aF.length)(hp:n.aF[j].2.r.ph≠5):(n.cl j).bA n.aF[j].1 (λr=>{r with out:=[]})=n.cl (j+1):=by
 have h1:=JH nd hj
 have h2:(n.cl (j+1)).aF=((n.cl j).bA n.aF[j].1 λr=>{r with out:=[]}).aF:=by rw[h1];unfold N.cl;simp only[];rw[List.take_succ_eq_append_getElem hj,List.filter_append,List.map_append,List.append_assoc];simp[hp,AU]
 show({n.cl j with aF:=((n.cl j).bA n.aF[j].1 λr=>{r with out:=[]}).aF}:N)=_;rw[<-h2];rfl
def abl {j:Nat}(nd:(n.aF.map (·.1)).Nodup)(hj:j<n.aF.length)(hp:n.aF[j].2.r.ph=5):
 ({(n.cl j).bA n.aF[j].1 (λr=>{r with out:=[]})with aF:=cC ((n.cl j).bA n.aF[j].1 λr=>{r with out:=[]}).aF n.aF[j].1}:N)=n.cl (j+1):=by
 have h1:=JH nd hj
 have h2:(n.cl (j+1)).aF=cC ((n.cl j).bA n.aF[j].1 λr=>{r with out:=[]}).aF n.aF[j].1:=by rw[h1,Xt (CL nd hj).1 (CL nd hj).2];unfold N.cl;simp only[];rw[List.take_succ_eq_append_getElem hj,List.filter_append,List.map_append,List.append_assoc];simp[hp]
 rw[<-h2];rfl
def aj4 {l:List Int}{j:Nat}(hj:j<l.length):n.leaves (l.take (j+1))=if(n.leaves (l.take j)).ph l[j]=5 then(n.leaves (l.take j)).leave l[j]else n.leaves (l.take j):=by unfold N.leaves;rw[List.take_succ_eq_append_getElem hj,List.foldl_append];rfl
end
def IY(id:Int)(no:Nat)(n:N):Er->Prop
 | .nil=>True
 | .cL e cl me=>e<1000000/\cl<1000000/\me<1000000
 | .soft e cl me=>(e<1000000/\cl<1000000/\me<1000000)/\(n.h? id no).isSome
def Cu(id:Int)(no:Nat):HO->Prop
 | .bad cl me=>cl<1000000/\me<1000000
 | .ok n er=>IY id no n er
section
variable {n:N}{n':N}{T:Int}{K:Nat}{no:Nat}{c:CN}{h:HN}{k:Int}{x:XN}
variable {id:Int}
def aiW {f:HR->HR}(hi:(n.h? id no).isSome):((n.cN id no f).h? id no).isSome:=by rw[KD,if_pos ⟨rfl,rfl⟩];simpa using hi
def aiX {key body:List UInt8}(hi:(n.h? id no).isSome):((n.jN key body).1.h? id no).isSome:=by
 unfold N.jN;split
 ·exact hi
 ·split<;>exact hi
def ag2 (hi:(n.h? id no).isSome){s:List UInt8}{cl me:Nat}(aH:cl<1000000)(aP:me<1000000):Cu id no (n.method id no h s cl me):=by
 have e:∀x,x<1000000->x<1000000/\cl<1000000/\me<1000000:=λx hx=>⟨hx,aH,aP⟩;unfold N.method;split
 ·exact e _ ai
 split
 ·unfold N.close;split
  ·trivial
  ·exact⟨aH,aP⟩
 split
 ·unfold N.declare;split
  ·split
   ·trivial
   ·split
    ·exact e _ ai
    ·split
     ·exact⟨e _ ai,hi⟩
     ·trivial
  ·exact⟨aH,aP⟩
 split
 ·unfold N.pE;split
  ·split
   ·trivial
   ·exact⟨e _ ai,hi⟩
  ·exact⟨aH,aP⟩
 split
 ·unfold N.sF;split
  ·trivial
  ·exact⟨aH,aP⟩
 split
 ·unfold N.consume;split
  ·split
   ·split
    ·split
     ·exact e _ ai
     ·split
      ·exact⟨e _ ai,hi⟩
      ·split
       ·exact e _ ai
       ·split
        ·exact⟨e _ ai,hi⟩
        ·trivial
    ·exact⟨aH,aP⟩
   ·exact⟨aH,aP⟩
  ·exact⟨aH,aP⟩
 split
 ·unfold N.qE;split
  ·trivial
  ·exact⟨aH,aP⟩
 split
 ·unfold N.sE;split
  ·trivial
  ·exact⟨aH,aP⟩
 split
 ·unfold N.get;split
  ·split
   ·split
    ·exact⟨e _ ai,hi⟩
    ·split
     ·trivial
     ·trivial
   ·exact⟨aH,aP⟩
  ·exact⟨aH,aP⟩
 split
 ·unfold N.settled;split
  ·split
   ·split
    ·split
     ·trivial
     ·exact⟨e _ ai,hi⟩
    ·exact⟨aH,aP⟩
   ·exact⟨aH,aP⟩
  ·exact⟨aH,aP⟩
 split
 ·exact e _ ai
 ·exact e _ ai
def SH (hi:(n.h? id no).isSome){r:HR}:Cu id no (n.whole id no r):=by
 unfold N.whole;split
 ·trivial
 ·show IY _ _ _ (if _ then _ else _);split
  ·trivial
  ·exact⟨ai,aiX (aiW hi)⟩
def agZ (hi:(n.h? id no).isSome){kind:Int}{s:List UInt8}{cl me:Nat}(aH:cl<1000000)(aP:me<1000000):Cu id no (n.js id no h kind s cl me):=by
 unfold N.js;split
 ·split
  ·trivial
  ·split
   ·trivial
   ·trivial
 ·split
  ·exact⟨ai,aH,aP⟩
  ·split
   ·unfold N.header;split
    ·split
     ·split
      ·split
       ·split
        ·exact(by decide:502<1000000/\60<1000000/\40<1000000)
        ·split
         ·exact⟨ai,hi⟩
         ·exact SH hi
       ·exact(by decide:60<1000000/\40<1000000)
      ·exact(by decide:60<1000000/\40<1000000)
     ·exact(by decide:60<1000000/\40<1000000)
    ·exact(by decide:60<1000000/\40<1000000)
   ·split
    ·unfold N.part;split
     ·exact(by decide:502<1000000/\60<1000000/\40<1000000)
     ·exact SH hi
    ·exact ag2 hi aH aP
def SG (hc:n.ar id=some c){ch kind:Int}{s:List UInt8}{cl me:Nat}(aH:cl<1000000)(aP:me<1000000):Cu id ch.toNat (n.iS id c ch kind s cl me):=by
 unfold N.iS;split
 ·unfold N.begin;by_cases hA:¬(kind=1/\cl=10/\me=(if c.r.ph=1 then 31 else 40))\/ch≠0
  ·rw[if_pos hA];exact⟨ai,aH,aP⟩
  ·rw[if_neg hA];split
   ·split
    ·trivial
    ·exact⟨aH,aP⟩
   ·split
    ·split
     ·split
      ·split
       ·exact⟨ai,aH,aP⟩
       ·trivial
      ·exact⟨aH,aP⟩
     ·exact⟨aH,aP⟩
    ·exact⟨aH,aP⟩
 ·split
  ·split
   ·unfold N.control;split
    ·split
     ·trivial
     ·exact⟨aH,aP⟩
    ·exact⟨ai,aH,aP⟩
   ·unfold N.kW;split
    ·exact⟨ai,aH,aP⟩
    ·split
     ·rename_i h dR;exact agZ (by unfold N.h?;rw[hc];simp[dR]) aH aP
     ·split
      ·split
       ·trivial
       ·exact⟨aH,aP⟩
      ·exact⟨ai,aH,aP⟩
  ·split
   ·trivial
   ·trivial
def UQ {w k:Nat}{s r:List UInt8}(h:fu w s=some (k,r)):k<256^w:=by
 unfold fu at h;split at h
 ·injection h with h;injection h with h1 h2;subst h1;exact Uv (by simp;omega)
 ·cases h
def ag1 (hc:n.ar id=some c){u:Un}:Cu id u.channel.toNat (n.fB id c u):=by
 unfold N.fB;split
 ·split
  ·rename_i h1;split
   ·rename_i h2;have:=UQ h1;have:=UQ h2;exact SG hc aa aa
   ·exact(by decide:502<1000000/\0<1000000/\0<1000000)
  ·exact(by decide:502<1000000/\0<1000000/\0<1000000)
 ·exact SG hc aa aa
def ag0 (hc:n.ar id=some c){u:Un}:IY id u.channel.toNat ((n.fB id c u).get n).1 ((n.fB id c u).get n).2:=by
 have:=ag1 (n:=n) (id:=id) (c:=c) (u:=u) hc
 cases hr:n.fB id c u with
 |bad cl me=>rw[hr]at this;exact⟨ai,this⟩
 |ok n' er=>rw[hr]at this;exact this
def amo (T:Int)(K:Nat)(hc:n.ar id=some c){u:Un}(o:Ok T K [] n)(hs:u.ji.length<=5000)(dR:0<=u.channel):
 Ok (T+1) (K+101000) [id] ((n.fB id c u).get n).1/\(((n.fB id c u).get n).1.ar id).isSome:=by
 have:=UJ o hc hs dR
 cases hr:n.fB id c u with
 |bad cl me=>exact⟨(o.QI al).mono aa aa,by rw[show((HO.bad cl me).get n).1=n from rfl,hc];rfl⟩
 |ok n' er=>rw[hr]at this;exact⟨this.1,this.2.1⟩
def ady (hc:n.ar id=some c){u:Un}:n.kQ id u=((n.fB id c u).get n).1.fault id u.channel ((n.fB id c u).get n).2:=by unfold N.kQ;rw[hc]
end
section
open Go Go.Conc Go.Proofs
section
variable {n:N}{n':N}{T:Int}{K:Nat}{no:Nat}{c:CN}{h:HN}{nm:List UInt8}{q:QN}{k:Int}{x:XN}{l:List Int}
variable {E:Env prog}{A:Lay}{H:Hid}{n:N}{X:Ext}{U:Hp}{id:Int}{no:Nat}{c:CN}{h:HN}{nm:List UInt8}{q:QN}{bf:Nat}{f:FR}{r:HR}
def aq.np {Y:Ext}(a:aq A H n (Y++X) U):aq A H n X U:=by
 induction Y with
 |nil=>exact a
 |cons y Y ih=>exact ih a.oW
def adx {u:Un}(a:aq A H n X U)(hc:n.ar id=some c){T:Int}{K:Nat}(O:Ok T K [] n)(hT:T+1<=1000000000000)(hK:K+101000<=100000000000000)(hs:u.ji.length<=5000)(dR:0<=u.channel/\u.channel<1000000):
 ay E 107 #[pV (A.conn id),uV u] U λe J=>e=.returned (.tuple #[])/\∃A',qA A A'/\At A' (n.kQ id u) X J:=by
 rw[ady hc];obtain⟨O1,uT⟩:=amo T K hc O hs dR.1;have EB:=ag0 hc (u:=u);refine aX func107 ntmps107 results107 λQ aD an aA=>?_;simp only[go_sem,seval,uV];refineλb3 hU=>?_;refine ag ?_;have ec:(Value.agg #[Value.int IntKind.i64 u.kind,Value.int IntKind.i64 u.channel,Value.string (B u.ji),Value.bool u.kz,Value.bool u.gm]).cells=[iV u.kind,iV u.channel,sV u.ji,.bool u.kz,.bool u.gm].toArray:=by first|rfl|simp[Value.cells]
 rw[ec];have a3:=a.iR hU (.cells [iV u.kind,iV u.channel,sV u.ji,.bool u.kz,.bool u.gm].toArray 135 (0,0));generalize hZ3:Hp.set U b3 _=Cp;replace a3:=dP a3 hZ3;refineλbf hbf=>?_;refine ag ?_;have of:=a3.iR hbf (bP ⟨u,u.ji,0,0⟩);generalize hZf:Hp.set Cp bf _=WC;replace of:=dP of hZf;refine dH adW (afm (f:=⟨u,u.ji,0,0⟩) of hc (O.afl aa aa hc) rfl rfl rfl dR (by simp only;omega)) ?_ (λch ae h=>?_)
 rotate_left
 ·obtain⟨_,_,_,_,h,_⟩:=h;cases h
 rintro v J ⟨A1,H1,b,f1,hv,kp,a5⟩
 cases hv
 generalize uH:((n.fB id c u).get n).1=n1 at*;generalize her:((n.fB id c u).get n).2=er at*;obtain⟨c1,cG⟩:=Option.isSome_iff_exists.1 uT;refine ag ?_;refineλb6 qa=>?_;have o6:=a5.iR qa;refine ag ?_;generalize zj:Hp.set J b6 _=sK;have a6:=dP (o6 _) zj;refineλb7 Dt=>?_;have o7:=a6.iR Dt;refine ag ?_;generalize hZ7:Hp.set sK b7 _=Ax;have a7:=dP (o7 _) hZ7
 have fin:∀{A':Lay} {H':Hid} {n':N} {x y:Nat×Obj} {Y:Ext} {z w:Nat×Obj} {cf:Hp},aq A' H' n' (x::y::(Y++z::w::X)) cf->aq A' H' n' X cf:=λh=>by have h1:=aq.np (Y:=_::_::_) h;exact h1.oW.oW
 have ek:A1.conn id=A.conn id:=by rw[kp.conn]
 have Hc:n1.ph id=c1.r.ph:=vl cG;have gc:=a7.eJ cG;rw[ek]at gc
 cases er with
 |nil=>
  simp only[go_sem,seval,Er.v];exact aD dA ao ⟨rfl,A1,kp,H1,fin a7⟩
 |soft e cl me=>
  obtain⟨he,hh⟩:=EB;by_cases h4:c1.r.ph=4
  ·simp only[go_sem,seval,Er.v,gc,h4];refine aD dA ao ⟨rfl,A1,kp,H1,?_⟩;have e1:n1.fault id u.channel (.soft e cl me)=n1:=by show(if n1.ph id=4 then n1 else _)=n1;rw[Hc,if_pos h4]
   rw[e1];exact fin a7
  ·have e1:n1.fault id u.channel (.soft e cl me)=n1.soft id u.channel.toNat e cl me:=by show(if n1.ph id=4 then n1 else _)=_;rw[Hc,if_neg h4]
   obtain⟨h,hh⟩:=Option.isSome_iff_exists.1 hh;have f6:Ax.f b6=_:=aq.ext1 a7;simp only at f6;simp only[go_sem,seval,Er.v,gc,h4];refine aK (X5 (i:=b) (t:=b6) a7.b0 f6) ?_;rintro v2 cQ ⟨l8,rfl⟩
   cases l8
   have a8:=a7.Ao (i:=1) rfl (.cells [pV b].toArray 296 (0,0));generalize KB:Hp.set Ax b6 _=FD;replace a8:=dP a8 KB;simp only[List.set_cons_succ,List.set_cons_zero]at a8;have Kb:=a8.eJ cG;rw[ek]at Kb;have g6:FD.f b6=some (.cells #[pV b] 296 (0,0)):=aq.ext1 a8
   have g3:FD.f b3=some (.cells #[iV u.kind,iV u.channel,sV u.ji,.bool u.kz,.bool u.gm] 135 (0,0)):=by have:=a8.ext (i:=4) rfl;exact this
   obtain⟨lj,kj,nJ,qW,xS⟩:=a8.chm cG;have qf:((u.channel.toNat:Int),pV (A1.chan id u.channel.toNat))∈c1.ch.map λe=>((e.1:Int),pV (A1.chan id e.1)):=List.mem_map.2 ⟨(u.channel.toNat,h),iZ (Dm hh cG),rfl⟩;obtain⟨st,bw⟩:=sw qW xS qf;have ech:((u.channel.toNat:Nat):Int)=u.channel:=aa;rw[ech]at bw;refine ag ?_;refine AW [0,1,2,3,4,5,7,8,6,9] ?_;simp only[go_sem,seval,Kb,g3,g6];refine jy (b:=H1.chm id) (k:=u.channel) (l:=lj) (c:=kj) uZ (z:=.pointer none) ah ?_ nJ ?_ ?_
   ·exact au
   ·exact au
   have de:((dq lj u.channel).map (·.2.1)).getD (.pointer none)=pV (A1.chan id u.channel.toNat):=by rw[bw];rfl
   rw[if_neg Bool.false_ne_true,de];refine⟨dL g6,?_⟩;refine ag ?_;refine aK (apR a8 (by simp[Er.ext]) cG hh (O1.Ge hh) (by have:=O1.MC hh;omega) he (by have:=(O1.c _ _ cG).r.out;omega)) ?_;rintro v3 dB ⟨Eh,H3,a9⟩
   cases Eh
   refine kp3 Kb g3 g6 ?_;refine aD dA ao ⟨rfl,A1,kp,H3,?_⟩;rw[e1];exact fin a9
 |cL e cl me=>
  by_cases h4:c1.r.ph=4
  ·simp only[go_sem,seval,Er.v,gc,h4];refine aD dA ao ⟨rfl,A1,kp,H1,?_⟩;have e1:n1.fault id u.channel (.cL e cl me)=n1:=by show(if n1.ph id=4 then n1 else _)=n1;rw[Hc,if_pos h4]
   rw[e1];exact fin a7
  ·have e1:n1.fault id u.channel (.cL e cl me)=n1.cL id e cl me:=by show(if n1.ph id=4 then n1 else _)=_;rw[Hc,if_neg h4]
   have f6:Ax.f b6=_:=aq.ext1 a7;have f7:Ax.f b7=_:=aq.eK a7;simp only at f6 f7;have fb:Ax.f b=some (.cells [iV e,iV cl,iV me].toArray 217 (0,0)):=a7.ext (i:=2) rfl;simp only[go_sem,seval,Er.v,gc,h4];refine aT (X4 (i:=b) (t:=b6) fb a7.b0 f6) ?_;refine ag ?_;refine aK (X3 (i:=b) (t:=b7) a7.b0 f7) ?_;rintro v2 cQ ⟨l8,rfl⟩
   cases l8
   have a8:=a7.Ao (i:=0) rfl (.cells [pV b].toArray 214 (0,0));generalize KB:Hp.set Ax b7 _=FD;replace a8:=dP a8 KB;simp only[List.set_cons_zero]at a8;have g7:FD.f b7=some (.cells #[pV b] 214 (0,0)):=aq.eK a8;refine aJ g7 ?_;have hg:=RV (E:=E) (e:=e) (cl:=cl) (me:=me) (b:=b) a8 (by simp[Er.ext]) cG (O1.Gd cG) EB (by have:=(O1.c _ _ cG).r.out;omega);rw[ek]at hg;refine aK hg ?_;rintro v3 dB ⟨Eh,H3,a9⟩
   cases Eh
   refine ag ?_;refine aD dA ao ⟨rfl,A1,kp,H3,?_⟩;rw[e1];exact fin a9
end
def gz(l:List (Int×List UInt8)):List Value:=l.flatMap λe=>[iV e.1,sV e.2]
def HW(l:List (Int×List UInt8)):(gz l).length=2*l.length:=by
 induction l with
 |nil=>rfl
 |cons e l ih=>simp only[gz,List.flatMap_cons,List.length_append,List.length_cons,List.length_nil]at ih|-;rw[ih];omega
def ang(l m:List (Int×List UInt8)):gz (l++m)=gz l++gz m:=by simp[gz]
variable {c:CN}{l:List Int}
inductive PX (l:List (Int×List UInt8)):Value->Ext->Prop
 |none:l=[]->PX l (.slice Option.none 0 0) []
 |at(a c:Nat) (pad:List Value):l.length<=c->2*(c-l.length)<=pad.length->PX l (.slice (some ⟨a,0,Option.none⟩) l.length c) [(a,.cells (gz l++pad).toArray 55 (0,0))]
def WA(k:Nat):(Builtin.zeroCells oX.zero k).toList.length=k*2:=by rw[Array.length_toList];simp[Builtin.zeroCells,oX]
section
variable {n:N}{no:Nat}{c:CN}{h:HN}{x:XN}{l:List Int}
variable {E:Env prog}{A:Lay}{H:Hid}{n:N}{X:Ext}{U:Hp}{id:Int}{no:Nat}{c:CN}
variable {I:av}{ds:List Deferred}{dst:Option Tmp}{ty:TypeId}{pos:String}{af:Array Edge}{g:Option (Nat×Bool)}{nx:av->List Deferred->Hp->Prop}{pn:List PanicEntry->Hp->Prop}
def XV {x y:Operand}{l:List (Int×List UInt8)}{v0:Value}{Xp:Ext}{id:Int}{s:List UInt8}{bn:Nat}(hv:PX l v0 Xp)(a:aq A H n (Xp++X) U)(hx:ak I x=v0)(hy:ak I y=.slice (some ⟨bn,0,none⟩) 1 1)(cE:U.f bn=some (.cells #[iV id,sV s] 55 (0,0)))(fZ:l.length<=1000000)
 (h:∀v' CB J,PX (l++[(id,s)]) v' CB->aq A H n (CB++X) J->nx (aB I dst v') ds J):
 aU E ⟨dst,.call ⟨.builtin .append,#[x,y],#[43,43]⟩,ty,pos,af,g⟩ I ds U nx pn:=by
 have hn:tH (ak I y)=some 1:=by rw[hy];rfl
 have iX:jc U oX.z 1 (ak I y)=some #[iV id,sV s]:=by rw[hy];show jc U 2 1 _=_;simp[jc,cellsOf,cE]
 have ig:∀n,n<=1000000->(2*(n+1)+192)*oX.bytes<=2^48:=by intro n hn;show(2*(n+1)+192)*24<=2^48;omega
 cases hv with
 |none h0=>
  subst h0;refine sU oX (base:=none) (l:=0) (c:=0) (n:=1) (old:=#[]) (new:=_) ah hx hn rfl iX (ig 0 aa) aa (λhc=>aa) ?_;intro hc b cap eQ j0;have a1:=aq.iR (X:=X) a eQ (.cells (#[]++ #[iV id,sV s]++Builtin.zeroCells oX.zero (cap-(0+1))) 55);refine h _ [_] _ (.at b cap (Builtin.zeroCells oX.zero (cap-1)).toList (aW j0) (by rw[WA];simp;omega)) ?_
  have e:(gz ([]++[(id,s)])++(Builtin.zeroCells oX.zero (cap-1)).toList).toArray= #[]++ #[iV id,sV s]++Builtin.zeroCells oX.zero (cap-(0+1)):=by apply Array.ext';simp[gz]
  rw[e];exact a1
 |«at»b c pad h1 h2=>
  have h3:U.f b=some (.cells (gz l++pad).toArray 55 (0,0)):=aq.eK (X:=X) a
  have hold:jc U oX.z l.length (.slice (some ⟨b,0,none⟩) l.length c)=some (gz l).toArray:=by
   show(cellsOf U ⟨b,0,none⟩ (l.length*2))=_;have e2:l.length*2=(gz l).length:=by rw[HW];omega
   have e:0+l.length*2<=(gz l).length+pad.length:=aa;simp only[cellsOf,h3,List.size_toArray,List.length_append,true_and,if_pos e];congr 1;apply Array.ext';simp[e2]
  refine sU oX (base:=some ⟨b,0,none⟩) (l:=l.length) (c:=c) (n:=1) (old:=(gz l).toArray) (new:=_) ah hx hn hold iX (ig _ fZ) aa ?_ ?_
  ·intro hc;have qZ:2<=pad.length:=aa;have e2:l.length*2=(gz l).length:=by rw[HW];omega
   have e3:((gz l++pad).toArray.extract 0 (0+l.length*2)++ #[iV id,sV s]++(gz l++pad).toArray.extract (0+l.length*2+2) (gz l++pad).toArray.size)=(gz (l++[(id,s)])++pad.drop 2).toArray:=by
    have e5:gz (l++[(id,s)])=gz l++[iV id,sV s]:=by rw[ang];rfl
    rw[e5,Nat.zero_add,e2];generalize gz l=L;have d1:(L++pad).take L.length=L:=List.take_left' rfl;have d2:(L++pad).drop (L.length+2)=pad.drop 2:=List.drop_length_add_append ..;apply Array.ext';simp only[Array.toList_append,Array.toList_extract,List.extract_eq_take_drop,List.drop_zero,Nat.sub_zero,List.size_toArray,d1,d2];rw[List.take_of_length_le (by simp only[List.length_append,List.length_drop];omega)]
   refine⟨_,⟨_,_,h3,rfl,?_,by simp[dp],rfl⟩,?_⟩
   ·show 0+l.length*2+2<=_;simp[HW];omega
   ·show nx _ _ (U.set b (.cells ((gz l++pad).toArray.extract 0 (0+l.length*2)++ #[iV id,sV s]++(gz l++pad).toArray.extract (0+l.length*2+2) (gz l++pad).toArray.size) 55 (0,0)));rw[e3];have e4:l.length+1=(l++[(id,s)]).length:=al;rw[e4];refine h _ [(b,_)] _ (.at b c (pad.drop 2) (by simp;omega) (by simp;omega)) (aq.vq (X:=X) a _)
  ·intro hc b' cap eQ j0;have a1:=aq.iR a eQ (.cells ((gz l).toArray++ #[iV id,sV s]++Builtin.zeroCells oX.zero (cap-(l.length+1))) 55)
   have e:(gz (l++[(id,s)])++(Builtin.zeroCells oX.zero (cap-(l.length+1))).toList).toArray=(gz l).toArray++ #[iV id,sV s]++Builtin.zeroCells oX.zero (cap-(l.length+1)):=by apply Array.ext';simp[gz]
   have e4:l.length+1=(l++[(id,s)]).length:=al;rw[<-e]at a1|-;rw[e4]at a1|-;refine h _ [(b',_)] _ (.at b' cap (Builtin.zeroCells oX.zero (cap-(l++[(id,s)]).length)).toList (aW j0) (by rw[WA];omega)) ?_
   exact a1.Ah (λi=>if i=0 then 0 else i+1) (λi hi=>by
    cases i with
    |zero=>rfl
    |succ i=>rfl) (λi j _ _ e=>by split at e<;>split at e<;>omega)
end
section
variable {n:N}{n':N}{T:Int}{K:Nat}{no:Nat}{c:CN}{h:HN}{nm:List UInt8}{k:Int}{m:aM}{l:List Int}
variable {E:Env prog}{A:Lay}{H:Hid}{n:N}{X:Ext}{U:Hp}{id:Int}{no:Nat}{c:CN}
def aq.BP (a:aq A H n X U)(hc:n.ar id=some c):∃l k st,U.f A.mc=some (aV aY l k)/\pN l k/\(l.map λe=>(e.1,e.2.1)).Perm (n.aF.map λe=>(e.1,pV (A.conn e.1)))/\dq l id=some (id,pV (A.conn id),st):=by obtain⟨l,k,h1,h2,h3⟩:=a.mc;obtain⟨st,bw⟩:=sw (k:=id) (v:=pV (A.conn id)) h2 h3 (List.mem_map.2 ⟨(id,c),iZ hc,rfl⟩);exact⟨l,k,st,h1,h2,h3,bw⟩
def aq.Ji {ety:TypeId}{ys:List Value}{v:Value}{J:Hp}(a:aq A H n X U)(l:U.le J)(hs:Sl ety J ys v)(hf:∀a n c,v=.slice (some a) n c->U.f a.block=none):
 ∃Y,aq A H n (Y++X) J/\∀{A':Lay} {H':Hid} {n':N} {ae:Hp} {X':Ext},aq A' H' n' (Y++X') ae->Sl ety ae ys v:=by
 rcases hs.form with⟨h1,h2⟩|⟨b,pad,h1,h2⟩
 ·exact⟨[],a.le l,λa'=>by rw[h2];exact .nil h1⟩
 ·refine⟨[(b,.cells (ys++pad).toArray ety (0,0))],a.OO l (hf _ _ _ h1) h2,λa'=>by rw[h1];exact .at b pad a'.eK⟩
def aq.Gj {Z Y:Ext}(a:aq A H n (Z++(Y++X)) U):aq A H n (Z++X) U:=by
 refine a.Ah (λi=>if i<Z.length then i else i+Y.length) (λi hi=>?_) (λi j _ _ e=>by split at e<;>split at e<;>omega);split
 ·rename_i h;rw[List.getElem?_append_left h,List.getElem?_append_left h]
 ·rename_i h;rw[List.getElem?_append_right aa,List.getElem?_append_right aa,List.getElem?_append_right aa];congr 1;omega
def UR (a:aq A H n X U){T:Int}{K:Nat}(O:Ok T K [] n)(hT:T+400<=1000000000000)(hK:K+40000000<=100000000000000):
 ay E 39 #[pV A.gw] U λe J=>∃v Xp H',e=.returned v/\PX n.gW.outs v Xp/\aq A H' n.gW.clean (Xp++X) J:=by
 refine aX func39 ntmps39 results39 λQ aD an aA=>?_;obtain⟨lc,kc,cG,dX,lv⟩:=a.mc;have Bt:lc.length=n.aF.length:=by have:=lv.length_eq;simpa using this
 have nK:=O.lc;refine aJ a.jG ?_;refine aK (Nn cG dX.old dX.nd aa) ?_;rintro v J ⟨hle,v',ys,hv,p1,p2,p3,p4⟩
 cases hv
 obtain rfl:ys=n.aF.map (·.1):=by
  refine Aq BM FZ (p1.trans ?_) (p2 aa) ?_
  ·have:=lv.map (·.1);simpa[List.map_map,Function.comp_def]using this
  ·have:=O.sc;exact this.imp λh=>by simp[kg];omega
 obtain⟨X1,a1,ru⟩:=a.AJ hle p3 p4;obtain⟨base,cap,rfl,_⟩:=p3.read;have hl:(n.aF.map (·.1)).length=n.aF.length:=al;refine aJ hl ?_;refine di (λm I ds ae=>ds=[]/\I 0=pV A.gw/\I 14=.slice base n.aF.length cap/\I 15=iV n.aF.length/\∃(j:Nat) (H':Hid),j+m=n.aF.length/\I 16=iV j/\aq A H' (n.leaves ((n.aF.map (·.1)).take j)) X1 ae) n.aF.length ?_ ?_
 ·refine⟨rfl,?_,?_,?_,0,H,al,?_,a1⟩<;>exact aQ hl
 rintro m I ds cX Y ⟨rfl,h0,mA,kR,j,H1,xT,xG,aj⟩ hY
 cases m with
 |succ m=>
  have hj:j<n.aF.length:=aa;have uD:j<(n.aF.map (·.1)).length:=aa;have c0:(j:Int)<n.aF.length:=aa;obtain⟨_,sj⟩:=ru aj;obtain⟨b2,za,e2,r2⟩:=sj.read;simp only[Value.slice.injEq]at e2;obtain⟨rfl,_,_⟩:=e2;obtain⟨ba,L,rfl,ib,hL⟩:=r2 j (aW hj);simp only[List.getElem_map,aY]at hL;have w1:=fQ j;have hs:=aj4 (n:=n) uD;simp only[List.getElem_map]at hs;generalize fP:n.aF[j].1=id at*;have qU:(n.ar id).isSome:=mf.2 (by rw[<-fP];exact List.mem_map_of_mem (f:=(·.1)) (List.getElem_mem hj));obtain⟨cj,je⟩:=Option.isSome_iff_exists.1 (El qU (E3 (n:=n) (l:=(n.aF.map (·.1)).take j)));obtain⟨lm,km,st,pg,uF,zD,Lj⟩:=aj.BP je;have de:((dq lm id).map (·.2.1)).getD (.pointer none)=pV (A.conn id):=by rw[Lj];rfl
  have qi:=vl je;simp only[go_sem,seval,mA,kR,xG,c0,decide_true];refine⟨aa,?_⟩;refine fV ib hL h0 aj.jG ?_;refine jy (b:=A.mc) (k:=id) (l:=lm) (c:=km) su (z:=.pointer none) ah ?_ pg ?_ ?_
  ·exact au
  ·exact au
  rw[if_neg Bool.false_ne_true,de];by_cases h5:cj.r.ph=5
  ·rw[if_pos (by rw[qi];exact h5)]at hs;refine bu (aj.eJ je) h5 ?_;refine aK (Me aj je ((O.leaves).Gd je)) ?_;rintro v2 cQ ⟨l8,H2,a2⟩
   cases l8
   refine bu xG w1 ?_;refine hY m _ _ _ _ aa ⟨rfl,?_,?_,?_,j+1,H2,aa,?_,by rw[hs];exact a2⟩ ao
   ·exact aQ h0
   ·exact aQ mA
   ·exact aQ kR
   ·exact au
  ·rw[if_neg (by rw[qi];exact h5)]at hs;refine fV (aj.eJ je) h5 xG w1 ?_;refine hY m _ _ _ _ aa ⟨rfl,?_,?_,?_,j+1,H1,aa,?_,by rw[hs];exact aj⟩ ao
   ·exact aQ h0
   ·exact aQ mA
   ·exact aQ kR
   ·exact au
 |zero=>
  have c0:¬(j:Int)<n.aF.length:=aa;obtain rfl:j=n.aF.length:=aa;rw[show(n.aF.map (·.1)).take n.aF.length=n.aF.map (·.1)from List.take_of_length_le al]at aj;obtain⟨aj,_⟩:=ru aj;have hOl:=O.leaves (l:=n.aF.map (·.1));simp only[go_sem,seval,h0,kR,xG,c0,decide_false,aj.jG];have ahv:=Vu (E:=E) (au2:=ob T K [] 400) (λn j=>j.Ig hT hK) (λn nm n' j h=>j.step h) aj hOl.Nb;refine aK ahv ?_;rintro v3 dB ⟨Eh,⟨H3,a3⟩,J3⟩
  cases Eh
  rw[<-Fh]at a3 J3;have Os:=J3.ok;have nd:=Os.nc;have atA:=Os.lc;obtain⟨ls,ks,j8,iH,Ee⟩:=a3.mc;have hls:ls.length=n.gW.aF.length:=by have:=Ee.length_eq;simpa using this
  generalize hsn:n.gW=s at*;refine bu h0 a3.jG ?_;refine aK (Nn j8 iH.old iH.nd aa) ?_;rintro v iu ⟨ow,v',ys,hv,q1,q2,q3,q4⟩
  cases hv
  obtain rfl:ys=s.aF.map (·.1):=by
   refine Aq BM FZ (q1.trans ?_) (q2 aa) ?_
   ·have:=Ee.map (·.1);simpa[List.map_map,Function.comp_def]using this
   ·have:=Os.sc;exact this.imp λh=>by simp[kg];omega
  obtain⟨Y2,a4,Ai⟩:=a3.Ji ow q3 q4;obtain⟨CI,rL,rfl,_⟩:=q3.read;have ig:(s.aF.map (·.1)).length=s.aF.length:=al;refine aJ ig ?_;refine di (λm I ds ae=>ds=[]/\I 0=pV A.gw/\I 43=.slice CI s.aF.length rL/\I 44=iV s.aF.length/\∃(j:Nat) (H':Hid) (v:Value) (Xp:Ext),j+m=s.aF.length/\I 45=iV j/\I 6=v/\PX (s.os j) v Xp/\aq A H' (s.cl j) (Xp++(Y2++X)) ae) s.aF.length ?_ ?_
  ·refine⟨rfl,?_,?_,?_,0,H3,_,[],al,?_,rfl,?_,by rw[abn];exact a4⟩<;>simp only[go_sem,seval,ig]
   ·exact h0
   ·exact .none rfl
  clear h0 mA kR xG;rintro m I ds cX Y ⟨rfl,h0,vX,uq,j,H1,v0,Xp,xT,A8,h6,Dk,aj⟩ hY
  cases m with
  |succ m=>
   have hj:j<s.aF.length:=aa;have c0:(j:Int)<s.aF.length:=aa;have sj:=Ai (aq.np aj);obtain⟨b2,za,e2,r2⟩:=sj.read;simp only[Value.slice.injEq]at e2;obtain⟨rfl,_,_⟩:=e2;obtain⟨ba,L,rfl,ib,hL⟩:=r2 j (aW hj);simp only[List.getElem_map,aY]at hL;have w1:=fQ j;have je:=abk nd hj;have kk:= @abm s j nd hj;have kd:= @abl s j nd hj;have ko:=amM hj;have cku:=JH nd hj;generalize fP:s.aF[j].1=id at*;generalize cT:s.aF[j].2=cj at*;obtain⟨lm,km,st,pg,uF,zD,Lj⟩:=aj.BP je;have de:((dq lm id).map (·.2.1)).getD (.pointer none)=pV (A.conn id):=by rw[Lj];rfl
   simp only[go_sem,seval,vX,uq,A8,c0,decide_true];refine⟨aa,?_⟩;refine fV ib hL h0 aj.jG ?_;refine jy (b:=A.mc) (k:=id) (l:=lm) (c:=km) su (z:=.pointer none) ah ?_ pg ?_ ?_
   ·exact au
   ·exact au
   rw[if_neg Bool.false_ne_true,de];by_cases ho:cj.r.out=[]
   ·simp only[go_sem,seval,aj.eJ je,ho,decide_true];have a5:=aq.mQ aj je λr=>{r with out:=[]};refine ag ?_;generalize KA:Hp.set cX (A.conn id) _=dx;replace a5:=dP a5 KA;have lz:((s.cl j).bA id λr=>{r with out:=[]}).ar id=some {cj with r:={cj.r with out:=[]}}:=by rw[qG,if_pos rfl,je];rfl
    by_cases h5:cj.r.ph=5
    ·refine bR h5 a5.jG h0 ?_;obtain⟨l5,k5,Ar,Mk,EH,Ml,m54⟩:=a5.BP lz;refine CY (b:=A.mc) (k:=id) (l:=l5) (c:=k5) su EH.uniq ?_ Mk ?_ ?_
     ·exact au
     ·exact au
     obtain⟨d1,d2⟩:=EI EH Ml id
     have em:((((s.cl j).bA id λr=>{r with out:=[]}).aF.map λe=>(e.1,pV (A.conn e.1))).filter λe=>decide (e.1≠id))=(cC ((s.cl j).bA id λr=>{r with out:=[]}).aF id).map λe=>(e.1,pV (A.conn e.1)):=by unfold cC;rw[List.filter_map];rfl
     rw[em]at d2;have a6:=a5.Qf id ⟨_,_,rfl,d1,d2⟩;rw[kd h5]at a6;refine bu A8 w1 ?_;refine hY m _ _ _ _ aa ⟨rfl,?_,?_,?_,j+1,H1,v0,Xp,aa,?_,?_,(by rw[ko,if_pos ho,List.append_nil];exact Dk),a6⟩ ao
     ·exact aQ h0
     ·exact aQ vX
     ·exact aQ uq
     ·exact au
     ·exact aQ h6
    ·refine bR h5 A8 w1 ?_;rw[kk h5]at a5;refine hY m _ _ _ _ aa ⟨rfl,?_,?_,?_,j+1,H1,v0,Xp,aa,?_,?_,(by rw[ko,if_pos ho,List.append_nil];exact Dk),a5⟩ ao
     ·exact aQ h0
     ·exact aQ vX
     ·exact aQ uq
     ·exact au
     ·exact aQ h6
   ·refine bu (aj.eJ je) ho ?_;refineλbn cE=>?_;have fr:=λo=>aj.fresh cE o;refine ag ?_;generalize zj:Hp.set cX bn _=sK;have a6:=dP (fr _) zj;have KN:sK.f bn=some (.cells #[iV id,sV cj.r.out] 55 (0,0)):=by rw[<-zj];exact Hp.bD _ _
    refine XV Dk a6 (id:=id) (s:=cj.r.out) ?_ ?_ KN (by have:=amL (n:=s) (j:=j);omega) ?_
    ·exact aQ h6
    ·exact au
    intro v7 OK lP RD a7;have a5:=aq.mQ a7 je λr=>{r with out:=[]};refine aJ (a7.eJ je) ?_;generalize KA:Hp.set lP (A.conn id) _=dx;replace a5:=dP a5 KA;have lz:((s.cl j).bA id λr=>{r with out:=[]}).ar id=some {cj with r:={cj.r with out:=[]}}:=by rw[qG,if_pos rfl,je];rfl
    by_cases h5:cj.r.ph=5
    ·refine bR h5 a5.jG h0 ?_;obtain⟨l5,k5,Ar,Mk,EH,Ml,m54⟩:=a5.BP lz;refine CY (b:=A.mc) (k:=id) (l:=l5) (c:=k5) su EH.uniq ?_ Mk ?_ ?_
     ·exact au
     ·exact au
     obtain⟨d1,d2⟩:=EI EH Ml id
     have em:((((s.cl j).bA id λr=>{r with out:=[]}).aF.map λe=>(e.1,pV (A.conn e.1))).filter λe=>decide (e.1≠id))=(cC ((s.cl j).bA id λr=>{r with out:=[]}).aF id).map λe=>(e.1,pV (A.conn e.1)):=by unfold cC;rw[List.filter_map];rfl
     rw[em]at d2;have a6:=a5.Qf id ⟨_,_,rfl,d1,d2⟩;rw[kd h5]at a6;refine bu A8 w1 ?_;refine hY m _ _ _ _ aa ⟨rfl,?_,?_,?_,j+1,H1,v7,OK,aa,?_,?_,(by rw[ko,if_neg ho];exact RD),a6⟩ ao
     ·exact aQ h0
     ·exact aQ vX
     ·exact aQ uq
     ·exact au
     ·exact aQ h6
    ·refine bR h5 A8 w1 ?_;rw[kk h5]at a5;refine hY m _ _ _ _ aa ⟨rfl,?_,?_,?_,j+1,H1,v7,OK,aa,?_,?_,(by rw[ko,if_neg ho];exact RD),a5⟩ ao
     ·exact aQ h0
     ·exact aQ vX
     ·exact aQ uq
     ·exact au
     ·exact aQ h6
  |zero=>
   have c0:¬(j:Int)<s.aF.length:=aa;obtain rfl:j=s.aF.length:=aa;rw[abj]at aj;rw[amK]at Dk;simp only[go_sem,seval,uq,A8,h6,c0,decide_false];refine an aI ao ⟨v0,Xp,H1,by simp[up],Dk,aj.Gj⟩
end
def yJ(A:Lay)(n:N)(X:Ext)(U:Hp):Prop:=∃A',qA A A'/\At A' n X U
def N.more(n:N)(id:Int)(s:List UInt8):N:=n.bA id λr=>{r with rest:=r.rest++s}
def N.fr(n:N)(id:Int):Int:=((n.ar id).map λ(c:CN)=>c.r.frame).getD 0
section
variable {n:N}{n':N}{T:Int}{K:Nat}{ex:List Int}{no:Nat}{c:CN}{h:HN}{nm:List UInt8}{k:Int}{m:aM}{l:List Int}{β:Type}{F:CR->β}
variable {E:Env prog}{A:Lay}{H:Hid}{n:N}{X:Ext}{U:Hp}{id:Int}{no:Nat}{c:CN}
def qA.trans {A B C:Lay}(a:qA A B)(b:qA B C):qA A C:=⟨b.gw.trans a.gw,b.br.trans a.br,b.conn.trans a.conn⟩
def J7 (hc:n.ar id=some c):n.fr id=c.r.frame:=by unfold N.fr;rw[hc];rfl
def CP (a:yJ A n X U)(hc:n.ar id=some c):∃m,U.f (A.conn id)=some (.cells (c.r.vals A.gw id m).toArray 90 (0,0)):=by obtain⟨A',k,H,a⟩:=a;have:=a.conn hc;rw[k.conn,k.gw]at this;exact⟨_,this⟩
def Ke (A:Lay)(id:Int)(X:Ext):FS where
 γ:=N
 au1:=λn U=>pM id n/\yJ A n X U
 au2:=λn U=>yJ A n X U
 K:=λn U=>(n.ar id).isSome/\yJ A n X U
 oH:=λn s=>pM id (n.more id s)
 bc:=A.conn id
 bg:=A.gw
 bb:=A.br
 ph:=λn=>n.ph id
 fr:=λn=>n.fr id
 rest:=λn=>n.rest id
 nx:=λa u b=>pM id a/\u=(a.cut id).1/\b=(a.cut id).2
 un:=λb u c=>(∃a,pM id a/\a.ph id≠5/\u.idle=false/\u=(a.cut id).1/\b=(a.cut id).2)/\c=b.unit id u
 sv:=λc d=>d=c.serve
 add:=λn s=>n.more id s
 μ:=λn=>n.mu id
 conn:=by rintro a U ⟨F,h⟩;obtain⟨c,hc⟩:=Option.isSome_iff_exists.1 F.is;obtain⟨m,hm⟩:=CP h hc;exact⟨_,hm,⟨rfl,rfl,by rw[vl hc];rfl,by rw[J7 hc];rfl⟩,by rw[Ak hc];rfl⟩
 CP:=by rintro a U ⟨is,h⟩;obtain⟨c,hc⟩:=Option.isSome_iff_exists.1 is;obtain⟨m,hm⟩:=CP h hc;exact⟨_,hm,⟨rfl,rfl,by rw[vl hc];rfl,by rw[J7 hc];rfl⟩⟩
 gate:=by rintro a U ⟨is,A',k,H,h⟩;have:=h.gw;rw[k.gw,k.br]at this;exact⟨_,this,rfl,rfl⟩
 grow:=by
  rintro a U l s gq ⟨F,A',k,H,h⟩ hl;refine⟨gq,A',k,H,?_⟩;obtain⟨c,hc⟩:=Option.isSome_iff_exists.1 F.is;have h1:=h.conn hc;have h2:=h.mQ hc λr=>{r with rest:=r.rest++s};rw[k.conn,k.gw]at h1 h2
  have e:l=c.r.vals A.gw id (H.chm id):=by rw[h1]at hl;simp only[Option.some.injEq,fI,Obj.cells.injEq,and_true]at hl;exact(List.toArray_inj hl).symm
  subst e;rw[Ak hc];exact h2
 small:=by rintro a U ⟨F,_⟩;exact F.rest
 UT:=λa s=>xd (Kp.bA λ_=>rfl)
 Q1:=λa s=>by unfold N.fr N.more;rw[qG,if_pos rfl,Option.map_map];rfl
 next:=by rintro E a U ⟨F,A',k,H,h⟩;obtain⟨c,hc⟩:=Option.isSome_iff_exists.1 F.is;obtain⟨T,K,O,_,_⟩:=F.ex;have gJ:=(O.c _ _ hc).r.frame;have h1:=h.conn hc;rw[k.conn,k.gw]at h1;have h2:=h.mQ hc λr=>{r with iy:=(dz c.r.iy c.r.rest c.r.frame).2.1,rest:=(dz c.r.iy c.r.rest c.r.frame).2.2};rw[k.conn,k.gw]at h2;have hn:=alp (E:=E) (l:=c.r.vals A.gw id (H.chm id)) (s:=c.r.rest) (size:=c.r.frame) (gr:=c.r.iy) h1 rfl rfl ⟨aa,aa⟩;rw[J7 hc];refine hn.mono λe J ⟨e1,e2⟩=>⟨(a.cut id).1,(a.cut id).2,⟨F,rfl,rfl⟩,⟨A',k,H,?_⟩,by rw[CS hc];exact e1⟩;rw[CS hc];exact h2.le e2
 unit:=by rintro E a u b U hp ⟨F,rfl,rfl⟩ hi ⟨A',k,H,h⟩;obtain⟨c,hc⟩:=Option.isSome_iff_exists.1 F.is;obtain⟨T,K,O,hT,hK⟩:=F.ex;have kc:=CU O hc;have O1:=O.cut hc;have cG:=zb hc;have Rp:=arl (E:=E) (u:=(a.cut id).1) h cG O1.cfg.ok (by have:=(O1.c _ _ cG).r.out;omega) (O1.Gd cG) (λ_ _ _=>adx h cG O1 aa aa kc.pay kc.ch);rw[k.conn]at Rp;refine Rp.mono ?_;rintro e J ⟨rfl,A2,k2,h2⟩;exact⟨_,⟨⟨a,F,hp,hi,rfl,rfl⟩,rfl⟩,⟨(Kp.unit BG).is (by rw[cG];rfl),A2,k.trans k2,h2⟩,rfl⟩
 serve:=by rintro E b u c U ⟨⟨a,F,hp,hi,rfl,rfl⟩,rfl⟩ ⟨is,A',k,H,h⟩;obtain⟨c0,hc⟩:=Option.isSome_iff_exists.1 F.is;obtain⟨T,K,O,hT,hK⟩:=F.ex;have kc:=CU O hc;have O1:=O.cut hc;have O2:=O1.unit (id:=id) (u:=(a.cut id).1) kc.pay kc.ch.1 (by rw[zb hc];rfl);have hs:=Vu (E:=E) (au2:=ob (T+1) (K+102000) [] 400) (λn j=>j.Ig aa aa) (λn nm n' j h=>j.step h) h O2.Nb;rw[k.br]at hs;refine hs.mono ?_;rintro e J ⟨rfl,h2,_⟩;exact⟨_,rfl,⟨(F.step hp hi).1,A',k,h2⟩,rfl⟩
 idle:=by rintro a u b U ⟨F,rfl,rfl⟩ hi h;exact⟨(F.abR hi).1,h⟩
 dec:=by rintro a u b c d hp ⟨F,rfl,rfl⟩ hi ⟨_,rfl⟩ rfl;exact(F.step hp hi).2
def QQ {f:Nat}(h:n.ph id=5):n.fJ (f+1) id=n:=by unfold N.fJ;exact if_pos h
def ac8 {f:Nat}(h:n.ph id≠5)(hi:(n.cut id).1.idle=true):n.fJ (f+1) id=(n.cut id).2:=by unfold N.fJ;rw[if_neg h,if_pos hi]
def ac9 {f:Nat}(h:n.ph id≠5)(hi:(n.cut id).1.idle=false):n.fJ (f+1) id=(((n.cut id).2.unit id (n.cut id).1).serve).fJ f id:=by rw[N.fJ,if_neg h,if_neg (by rw[hi];simp)]
def aeD {A:Lay}{id:Int}{X:Ext}{a b:(Ke A id X).γ}(h:(Ke A id X).Loop a b):∀f,N.mu a id<f->N.fJ f a id=b:=by
 induction h with
 |gone hp=>
  intro f hf
  cases f with
  |zero=>omega
  |succ f=>exact QQ hp
 |idle hp hn hi=>
  obtain⟨F,rfl,rfl⟩:=hn;intro f hf
  cases f with
  |zero=>omega
  |succ f=>exact ac8 hp hi
 |step hp hn hi hu hs _ ih=>
  obtain⟨F,rfl,rfl⟩:=hn;obtain⟨_,rfl⟩:=hu;obtain rfl:=hs;intro f hf
  cases f with
  |zero=>omega
  |succ f=>
   have:=(F.step hp hi).2;exact(ac9 hp hi).trans (ih f aa)
def ac7 {W:World}{φ:Hp}{s:List UInt8}(F:pM id n)(F2:pM id (n.more id s))(h:yJ A n X U)(hp:n.ph id≠5)(hs:s.length<=4611686018427387904){f:Nat}(hf:(n.more id s).mu id<f):
 ay (tT W φ) 40 #[pV (A.conn id),sV s] U λe J=>e=.returned (.tuple #[])/\yJ A ((n.more id s).fJ f id) X J:=by
 refine(ade (Ke A id X) (W:=W) (φ:=φ) (a:=n) (ch:=s) F2 ⟨F,h⟩ hp hs).mono ?_;rintro e J ⟨rfl,b,hl,hI⟩;refine⟨rfl,?_⟩;have:=aeD hl f hf;have h2:yJ A b X J:=hI.2;rw[<-this]at h2;exact h2
end
def Gw(g:Nat)(n:N)(X:Ext)(U:Hp):Prop:=∃A,A.gw=g/\At A n X U
section
variable {n:N}{T:Int}{K:Nat}{no:Nat}{c:CN}{h:HN}{k:Int}{x:XN}{m:aM}{l:List Int}
variable {E:Env prog}{A:Lay}{H:Hid}{n:N}{X:Ext}{U:Hp}{id:Int}{no:Nat}{c:CN}{g:Nat}{T:Int}
def aq.TV (a:aq A H n X U)(hc:n.ar id=none):∃l k,U.f A.mc=some (aV aY l k)/\dq l id=none:=by obtain⟨l,k,h1,h2,h3⟩:=a.mc;refine⟨l,k,h1,map_none h3 λe he hx=>?_⟩;obtain⟨e0,h0,rfl⟩:=List.mem_map.1 he;exact ja hc e0 h0 hx
def I0 (g:Nat)(m:N)(X:Ext)(ev:Value->Fin)(e:Fin)(J:Hp):Prop:=∃v Xp,e=ev v/\PX m.outs v Xp/\Gw g m.clean (Xp++X) J
def QL {W:World}{φ:Hp}{s:List UInt8}(h:Gw g n X U)(au1:Inv T n)(hs:s.length<=900000)(hT:T+402*(s.length+4107:Nat)+2000<=1000000000000):
 ay (tT W φ) 25 #[pV g,iV id,sV s] U λe J=>match n.ar id with
  |none=>e=.returned (.tuple #[.slice none 0 0,.iface 51 (iV 3)])/\J=U
  |some _=>I0 g (n.feed id s) X (λv=>.returned (.tuple #[v,.nilIface])) e J:=by
 obtain⟨A,rfl,H,a⟩:=h
 cases hc:n.ar id with
 |none=>
  obtain⟨l,k,h1,h2⟩:=a.TV hc;exact ac6 a.gw h1 h2
 |some c=>
  simp only[];obtain⟨l,k,st,h1,h2,h3,h4⟩:=a.BP hc
  have fin:∀{m:N} {A':Lay} {cf:Hp},qA A A'->At A' m X cf->(O:∃T K,Ok T K [] m/\T+400<=1000000000000/\K+40000000<=100000000000000)->m.gW=n.feed id s->
   ay (tT W φ) 39 #[pV A.gw] cf λe' cf=>∃v,e'=.returned v/\I0 A.gw (n.feed id s) X (λv=>.returned (.tuple #[v,.nilIface])) (.returned (.tuple #[v,.nilIface])) cf:=by
   rintro m A' cf k ⟨H',a'⟩ ⟨T,K,O,o1,o2⟩ he;have:=UR (E:=tT W φ) a' O o1 o2;rw[k.gw]at this;refine this.mono ?_;rintro e J ⟨v,Xp,H2,rfl,hp,h2⟩;rw[he]at hp h2;exact⟨v,rfl,v,Xp,rfl,hp,A',k.gw,H2,h2⟩
  by_cases fU:s=[]
  ·subst fU;refine ac5 a.gw h1 h4 (fin (.refl A) ⟨H,a⟩ ⟨T,0,au1.ok,aa,aa⟩ ?_);unfold N.feed;rw[if_pos rfl]
  ·refine ac4 a.gw h1 h4 (a.conn hc) fU ?_;have a1:=a.mQ hc λr=>{r with recv:=n.clock}
   have hm:(n.bA id λr=>{r with recv:=n.clock}).more id s=n.recv id s:=by unfold N.more N.recv N.bA;rw[NK]
   have hr:=Vg (s:=s) hc;have By:=au1.rest id;have O1:Ok T 0 [] (n.bA id λr=>{r with recv:=n.clock}):=au1.ok.bA (Nat.le_refl _) λc hc=>⟨(au1.ok.c _ _ hc).r.out,(au1.ok.c _ _ hc).r.frame,(au1.ok.c _ _ hc).r.cZ⟩;have r1:(n.bA id λr=>{r with recv:=n.clock}).rest id=n.rest id:=Vj (f:=λr=>{r with recv:=n.clock}) λ_=>rfl;have m1:=HG (n:=n.bA id λr=>{r with recv:=n.clock}) (id:=id);have m2:=HG (n:=n.recv id s) (id:=id);rw[r1]at m1;rw[hr,List.length_append]at m2
   have F1:pM id (n.bA id λr=>{r with recv:=n.clock}):=by
    refine⟨⟨T,0,O1,?_,?_⟩,zS (by rw[hc];rfl),by rw[r1];omega⟩
    ·omega
    ·omega
   have F2:pM id ((n.bA id λr=>{r with recv:=n.clock}).more id s):=by
    rw[hm];refine⟨⟨T,0,au1.ok.recv,?_,?_⟩,Tt (by rw[hc];rfl),by rw[hr,List.length_append];omega⟩
    ·omega
    ·omega
   have qi:(n.bA id λr=>{r with recv:=n.clock}).ph id≠5:=by have:(n.bA id λr=>{r with recv:=n.clock}).ph id=n.ph id:=xd (Kp.bA λ_=>rfl);rw[this,vl hc];exact au1.ph _ _ hc
   have Db:=ac7 (W:=W) (φ:=φ) (s:=s) (f:=((n.recv id s).rest id).length+2) F1 F2 ⟨A,.refl A,H,a1⟩ qi aa (by rw[hm,hr,List.length_append];omega);rw[hm]at Db;refine Db.mono ?_;rintro e J ⟨rfl,A',k,h5⟩;refine⟨rfl,fin k h5 ?_ ?_⟩
   ·have f1:=au1.ok.s7 (s:=s) hc;exact⟨_,_,f1.ok,aa,aa⟩
   ·unfold N.feed;rw[if_neg fU];rfl
def abI (h:Gw g n X U)(au1:Inv T n)(hl:n.aF.length<=3)(mI:n.last<=1000000000):
 ay E 37 #[pV g] U λe J=>e=.returned (.tuple #[iV (n.last+1),.nilIface])/\Gw g n.connect X J:=by
 obtain⟨A,rfl,H,a⟩:=h;obtain⟨l,k,h1,h2,h3⟩:=a.mc;have h0:=au1.ok.last;have G0:l.length=n.aF.length:=by have:=h3.length_eq;simpa using this
 refine(abH a.gw h1 aa h2.uniq aa aa).mono ?_;rintro e J ⟨b,m,rfl,hb,hm,aE,rfl⟩;refine⟨rfl,?_⟩;have eH:=au1.ok.MB;have a1:=a.aps n.clock (n.last+1);have GR:∀{x:Nat},U.f x=none->¬x=A.gw:=λhx e=>by rw[e,a.gw]at hx;cases hx
 have G2:=EJ h2 h3 (k:=n.last+1) (λe he hx=>by
  obtain⟨e0,h0,rfl⟩:=List.mem_map.1 he
  exact ja eH e0 h0 hx) (pV b)
 have a2:=a1.alf (id:=n.last+1) (m:=m) (b:=b) ⟨au1.ok.w.un,au1.ok.w.xq,au1.ok.w.xh,au1.ok.w.co,au1.ok.w.qc⟩ eH ((Hp.az (GR hm)).trans hm) ((Hp.az (GR hb)).trans hb) aE ⟨0,[],false,0,n.cfg.frame,0,n.clock,n.clock,[]⟩ (o:=aV aY (jz l (n.last+1) (pV b) k) (jM l (n.last+1) k)) ⟨_,_,rfl,G2.1,?_⟩
 ·exact⟨A.rB (n.last+1) b,rfl,_,a2⟩
 ·refine G2.2.trans ?_;rw[List.map_append]
  have e1:(n.aF.map λe=>(e.1,pV ((A.rB (n.last+1) b).conn e.1)))=n.aF.map λe=>(e.1,pV (A.conn e.1)):=List.map_congr_left λe he=>by have:¬e.1=n.last+1:=ja eH e he;simp[Lay.rB,this]
  rw[e1];have e2:([(n.last+1,(⟨⟨0,[],false,0,n.cfg.frame,0,n.clock,n.clock,[]⟩,[]⟩:CN))].map λe=>(e.1,pV ((A.rB (n.last+1) b).conn e.1)))=[(n.last+1,pV b)]:=by simp[Lay.rB]
  rw[e2];exact(List.perm_append_singleton _ _).symm
structure Base (U:Hp) (L1:List Value):Prop where
 b0:U.f 0=some (.cells #[rT 45] 143 (0,0))
 b1:U.f 1=some (.cells L1.toArray 396 (0,0))
 l1:L1=EY
def alc {cfg:kt}{L1:List Value}(hb:Base U L1)(G:FJ cfg)(hq:1<=cfg.queue)(hc:1<=cfg.jq)(Dw:cfg.gD<=50)(mD:0<=cfg.body):
 ay E 32 #[.agg cfg.vals.toArray] U λe J=>∃g,e=.returned (.tuple #[pV g,.nilIface])/\Gw g (N.new cfg) [] J:=by
 have g1:=G.jq;have g2:=G.frame;have g3:=G.queue;have g4:=G.body;have g5:=G.ok.gD;refine(alb aa aa aa aa aa aa aa aa aa aa).mono ?_;rintro e J ⟨g,br,mq,mc,rfl,k1,k2,k3,k4,n1,n2,n3,n4,n5,n6,rfl⟩;have h0:=hb.b0;have h1:=hb.b1;have z0:∀{x:Nat},U.f x=none->¬0=x:=λhx e=>by subst e;rw[h0]at hx;cases hx
 have z1:∀{x:Nat},U.f x=none->¬1=x:=λhx e=>by subst e;rw[h1]at hx;cases hx
 refine⟨g,rfl,⟨g,br,mq,mc,λ_=>0,λ_ _=>0,λ_ _=>0,λ_ _=>0,λ_=>0,λ_=>0,L1,hb.l1⟩,rfl,⟨λ_=>0,λ_=>.nilIface,λ_=>.nilIface⟩,⟨λr v hv=>?_,λr r' hr eX he=>?_⟩⟩
 ·cases r with
  |b0=>cases hv;exact⟨_,by show Hp.f _ 0=_;rw[Hp.az (z0 k1),Hp.az (z0 k4),Hp.az (z0 k2),Hp.az (z0 k3)];exact h0,rfl⟩
  |b1=>cases hv;exact⟨_,by show Hp.f _ 1=_;rw[Hp.az (z1 k1),Hp.az (z1 k4),Hp.az (z1 k2),Hp.az (z1 k3)];exact h1,rfl⟩
  |gw=>cases hv;exact⟨_,aZ,rfl⟩
  |br=>cases hv;exact⟨_,by show Hp.f _ br=_;rw[Hp.az (λe=>n5 e.symm),Hp.az (λe=>n3 e.symm)];exact Hp.bD _ _,rfl⟩
  |mq=>cases hv;exact⟨_,by show Hp.f _ mq=_;rw[Hp.az (λe=>n4 e.symm),Hp.az (λe=>n2 e.symm),Hp.az (λe=>n1 e.symm)];exact Hp.bD _ _,[],0,rfl,⟨by simp[jW],al,al⟩,by simp[N.new]⟩
  |mc=>cases hv;exact⟨_,by show Hp.f _ mc=_;rw[Hp.az (λe=>n6 e.symm)];exact Hp.bD _ _,[],0,rfl,⟨by simp[jW],al,al⟩,by simp[N.new]⟩
  |_=>cases hv
 ·have q1:=z0 k1;have q2:=z0 k2;have q3:=z0 k3;have q4:=z0 k4;have p1:=z1 k1;have p2:=z1 k2;have p3:=z1 k3;have p4:=z1 k4
  cases r<;>cases r'<;>first|rfl|(cases hr;done)|(cases eX;done)|(exfalso;simp only[cI]at he;omega)
def acf (h:Gw g n X U)(au1:Inv T n)(hT:T+2000<=1000000000000):
 ay E 24 #[pV g,iV id] U λe J=>match n.ar id with
  |none=>e=.returned (.tuple #[.slice none 0 0,.iface 51 (iV 3)])/\J=U
  |some _=>I0 g (n.drop id) X (λv=>.returned (.tuple #[v,.nilIface])) e J:=by
 obtain⟨A,rfl,H,a⟩:=h;refine aX func24 ntmps24 results24 λQ aD an aA=>?_;refine aJ a.jG ?_
 cases hc:n.ar id with
 |none=>
  rw[hc]at an;obtain⟨l,k,h1,h2⟩:=a.TV hc;refine jy (b:=A.mc) (k:=id) (l:=l) (c:=k) su (z:=.pointer none) ah ?_ h1 ?_ ?_
  ·exact au
  ·exact au
  have de:((dq l id).map (·.2.1)).getD (.pointer none)=.pointer none:=by rw[h2];rfl
  rw[if_neg Bool.false_ne_true,de];refine ag ?_;exact an iO ao ⟨by simp[up],rfl⟩
 |some c=>
  rw[hc]at an;obtain⟨l,k,st,h1,h2,h3,h4⟩:=a.BP hc;refine jy (b:=A.mc) (k:=id) (l:=l) (c:=k) su (z:=.pointer none) ah ?_ h1 ?_ ?_
  ·exact au
  ·exact au
  have de:((dq l id).map (·.2.1)).getD (.pointer none)=pV (A.conn id):=by rw[h4];rfl
  rw[if_neg Bool.false_ne_true,de];refine aJ (a.eJ hc) ?_;have a1:=a.mQ hc λr=>{r with ph:=5};generalize hZ:Hp.set U (A.conn id) _=cX;replace a1:=dP a1 hZ;have O1:Ok T 0 [] (n.bA id λr=>{r with ph:=5}):=au1.ok.bA (Nat.le_refl _) λc hc=>⟨(au1.ok.c _ _ hc).r.out,(au1.ok.c _ _ hc).r.frame,(au1.ok.c _ _ hc).r.cZ⟩;refine aK (UR a1 O1 aa aa) ?_;rintro v J ⟨v',Xp,H2,hv,hp,h2⟩
  cases hv
  refine ag ?_;exact an iO ao ⟨v,Xp,by simp[up],hp,A,rfl,H2,h2⟩
end
inductive SX {α:Type} (f:α->List Value) (z:Nat) (e:TypeId) (l:List α):Value->Ext->Prop
 |none:l=[]->SX f z e l (.slice Option.none 0 0) []
 |at(a c:Nat) (pad:List Value):l.length<=c->z*(c-l.length)<=pad.length->SX f z e l (.slice (some ⟨a,0,Option.none⟩) l.length c) [(a,.cells (l.flatMap f++pad).toArray e (0,0))]
def adn{α:Type}{f:α->List Value}{z:Nat}(hf:∀a,(f a).length=z)(l:List α):(l.flatMap f).length=z*l.length:=by
 induction l with
 |nil=>rfl
 |cons e l ih=>rw[List.flatMap_cons,List.length_append,ih,hf,List.length_cons,Nat.mul_succ];omega
section
variable {n:N}{no:Nat}{c:CN}{h:HN}{k:Int}{x:XN}{m:aM}{l:List Int}
variable {E:Env prog}{A:Lay}{H:Hid}{n:N}{X:Ext}{U:Hp}{id:Int}{no:Nat}{c:CN}
variable {I:av}{ds:List Deferred}{dst:Option Tmp}{ty:TypeId}{pos:String}{af:Array Edge}{g:Option (Nat×Bool)}{nx:av->List Deferred->Hp->Prop}{pn:List PanicEntry->Hp->Prop}
def WB {t:TypeId}(el:oN prog t)(hz:el.zero.size=el.z)(k:Nat):(Builtin.zeroCells el.zero k).toList.length=k*el.z:=by rw[Array.length_toList];simp[Builtin.zeroCells,hz]
def XW {α:Type}{f:α->List Value}{t u:TypeId}(el:oN prog t)(hu:BX prog u=true)(hf:∀a,(f a).length=el.z)(hz:el.zero.size=el.z)(hby:el.bytes<=100)(Tb:1<=el.z)(kT:∀a,(f a).toArray.all dp=true)
 {x y:Operand} {l:List α} {v0:Value} {Xp:Ext} {m:α} {bn:Nat} (hv:SX f el.z el.e l v0 Xp) (a:aq A H n (Xp++X) U) (hx:ak I x=v0) (hy:ak I y=.slice (some ⟨bn,0,none⟩) 1 1) (cE:U.f bn=some (.cells (f m).toArray el.e (0,0))) (fZ:l.length<=1000000)
 (h:∀v' CB J,SX f el.z el.e (l++[m]) v' CB->aq A H n (CB++X) J->nx (aB I dst v') ds J):
 aU E ⟨dst,.call ⟨.builtin .append,#[x,y],#[t,u]⟩,ty,pos,af,g⟩ I ds U nx pn:=by
 have hn:tH (ak I y)=some 1:=by rw[hy];rfl
 have uG:(f m).toArray.size=el.z:=by simp[hf]
 have iX:jc U el.z 1 (ak I y)=some (f m).toArray:=by
  rw[hy];show cellsOf U ⟨bn,0,none⟩ (1*el.z)=_;have e:0+1*el.z<=(f m).length:=by rw[hf];omega
  simp only[cellsOf,cE,List.size_toArray,true_and,if_pos e];congr 1;apply Array.ext';have e5:(f m).take el.z=f m:=List.take_of_length_le (by rw[hf];exact Nat.le_refl _);simp[e5]
 have ig:∀n,n<=1000000->(2*(n+1)+192)*el.bytes<=2^48:=by intro n hn;have:=Nat.mul_le_mul_left (2*(n+1)+192) hby;omega
 have hfm:(l++[m]).flatMap f=l.flatMap f++f m:=al;have G0:=adn hf l
 cases hv with
 |none h0=>
  subst h0;refine sU el (base:=none) (l:=0) (c:=0) (n:=1) (old:=#[]) (new:=_) hu hx hn rfl iX (ig 0 aa) aa (λhc=>aa) ?_;intro hc b cap eQ j0;have a1:=aq.iR (X:=X) a eQ (.cells (#[]++(f m).toArray++Builtin.zeroCells el.zero (cap-(0+1))) el.e);refine h _ [_] _ (.at b cap (Builtin.zeroCells el.zero (cap-1)).toList (aW j0) (by rw[WB el hz,Nat.mul_comm];simp)) ?_
  have e:(([]++[m]).flatMap f++(Builtin.zeroCells el.zero (cap-1)).toList).toArray= #[]++(f m).toArray++Builtin.zeroCells el.zero (cap-(0+1)):=by apply Array.ext';simp
  rw[e];exact a1
 |«at»b c pad h1 h2=>
  have h3:U.f b=some (.cells (l.flatMap f++pad).toArray el.e (0,0)):=aq.eK (X:=X) a;have e2:l.length*el.z=(l.flatMap f).length:=by rw[G0,Nat.mul_comm]
  have hold:jc U el.z l.length (.slice (some ⟨b,0,none⟩) l.length c)=some (l.flatMap f).toArray:=by show(cellsOf U ⟨b,0,none⟩ (l.length*el.z))=_;have e:0+l.length*el.z<=(l.flatMap f).length+pad.length:=aa;simp only[cellsOf,h3,List.size_toArray,List.length_append,true_and,if_pos e];congr 1;apply Array.ext';simp[e2]
  refine sU el (base:=some ⟨b,0,none⟩) (l:=l.length) (c:=c) (n:=1) (old:=(l.flatMap f).toArray) (new:=_) hu hx hn hold iX (ig _ fZ) aa ?_ ?_
  ·intro hc
   have qZ:el.z<=pad.length:=by refine Nat.le_trans ?_ h2;have:el.z*1<=el.z*(c-l.length):=Nat.mul_le_mul_left _ aa;omega
   have e3:((l.flatMap f++pad).toArray.extract 0 (0+l.length*el.z)++(f m).toArray++(l.flatMap f++pad).toArray.extract (0+l.length*el.z+(f m).toArray.size) (l.flatMap f++pad).toArray.size)=((l++[m]).flatMap f++pad.drop el.z).toArray:=by rw[hfm,Nat.zero_add,e2,uG];generalize l.flatMap f=L;have d1:(L++pad).take L.length=L:=List.take_left' rfl;have d2:(L++pad).drop (L.length+el.z)=pad.drop el.z:=List.drop_length_add_append ..;apply Array.ext';simp only[Array.toList_append,Array.toList_extract,List.extract_eq_take_drop,List.drop_zero,Nat.sub_zero,List.size_toArray,d1,d2];rw[List.take_of_length_le (by simp only[List.length_append,List.length_drop];omega)]
   refine⟨_,⟨_,_,h3,rfl,?_,kT m,rfl⟩,?_⟩
   ·show 0+l.length*el.z+(f m).toArray.size<=_;rw[uG];simp only[List.size_toArray,List.length_append];omega
   ·show nx _ _ (U.set b (.cells ((l.flatMap f++pad).toArray.extract 0 (0+l.length*el.z)++(f m).toArray++(l.flatMap f++pad).toArray.extract (0+l.length*el.z+(f m).toArray.size) (l.flatMap f++pad).toArray.size) el.e (0,0)));rw[e3];have e4:l.length+1=(l++[m]).length:=al;rw[e4];refine h _ [(b,_)] _ (.at b c (pad.drop el.z) (by simp;omega) ?_) (aq.vq (X:=X) a _);rw[List.length_drop,List.length_append,List.length_singleton]
    have e5:el.z*(c-l.length)=el.z*(c-(l.length+1))+el.z:=by rw[<-Nat.mul_succ];congr 1;omega
    omega
  ·intro hc b' cap eQ j0;have a1:=aq.iR a eQ (.cells ((l.flatMap f).toArray++(f m).toArray++Builtin.zeroCells el.zero (cap-(l.length+1))) el.e)
   have e:((l++[m]).flatMap f++(Builtin.zeroCells el.zero (cap-(l.length+1))).toList).toArray=(l.flatMap f).toArray++(f m).toArray++Builtin.zeroCells el.zero (cap-(l.length+1)):=by apply Array.ext';simp
   have e4:l.length+1=(l++[m]).length:=al;rw[<-e]at a1|-;rw[e4]at a1|-;refine h _ [(b',_)] _ (.at b' cap (Builtin.zeroCells el.zero (cap-(l++[m]).length)).toList (aW j0) (by rw[WB el hz,Nat.mul_comm];omega)) ?_
   exact a1.Ah (λi=>if i=0 then 0 else i+1) (λi hi=>by
    cases i with
    |zero=>rfl
    |succ i=>rfl) (λi j _ _ e=>by split at e<;>split at e<;>omega)
end
structure QS where
 name:List UInt8
 ready:Int
 held:Int
 cons:Int
def QS.vals(q:QS):List Value:=[sV q.name,iV q.ready,iV q.held,iV q.cons]
def N.pF(n:N):List QS:=n.aN.map λe=>⟨e.1,e.2.ready.length,e.2.held,e.2.cons.length⟩
def acz:oN prog 34 where
 e:=39
 z:=4
 zero:=#[.string (B []),.int .i64 0,.int .i64 0,.int .i64 0]
 bytes:=40
 hu:=ah
 hi:=⟨t39,.agg #[.string (B []),.int .i64 0,.int .i64 0,.int .i64 0],ah,ah,ah,rfl,ah⟩
section
variable {n:N}{n':N}{no:Nat}{c:CN}{q:QN}
variable {E:Env prog}{A:Lay}{H:Hid}{n:N}{X:Ext}{U:Hp}{id:Int}{no:Nat}{c:CN}
def ap0 (a:aq A H n X U)(ahu:dV cP (n.aN.map (·.1)))(hlen:n.aN.length<=12):
 ay E 34 #[pV A.br] U λe J=>∃v Y,e=.returned v/\aq A H n (Y++X) J/\Sl 77 J ((n.aN.map λe=>A.queue e.1).map ep) v/\∀{A':Lay} {H':Hid} {n':N} {ae:Hp} {X':Ext},aq A' H' n' (Y++X') ae->Sl 77 ae ((n.aN.map λe=>A.queue e.1).map ep) v:=by
 obtain⟨lq,kq,jv,gP,lX⟩:=a.mq;have Sy:lq.length=n.aN.length:=by have:=lX.length_eq;simpa using this
 obtain⟨nf,zG⟩:∃nf:Nat->List UInt8,∀e∈n.aN,nf (A.queue e.1)=e.1:=by
  refine⟨λb=>((n.aN.find? λe=>decide (A.queue e.1=b)).map (·.1)).getD [],λe he=>?_⟩
  cases hf:n.aN.find? λe'=>decide (A.queue e'.1=A.queue e.1)with
  |none=>have:=List.find?_eq_none.1 hf e he;simp at this
  |some e'=>
   have h1:=List.find?_some hf;simp only[decide_eq_true_eq]at h1;have:=a.inj (.queue e'.1) (.queue e.1) (by have:=yg (List.mem_of_find?_eq_some hf);simpa[view]using this) (by have:=yg he;simpa[view]using this) (by simpa[cI]using h1);injection this with e1;simp only[hf];simpa using e1
 have qZ:=lX.map (·.2);simp only[List.map_map]at qZ;obtain⟨qs,zJ,nN⟩:=Ab qZ (xs:=n.aN.map λe=>A.queue e.1) (f:=ep) (by simp[List.map_map,Function.comp_def,ep])
 have Lp:qB U nf qs:=by intro b hb;obtain⟨e,he,rfl⟩:=List.mem_map.1 (zJ.mem_iff.1 hb);obtain⟨q,hq⟩:=Option.isSome_iff_exists.1 (yg he);exact⟨_,a.tN hq,by simp[zG e he]⟩
 refine(VK a.uf rfl jv gP.old gP.nd aa (by simpa[Function.comp_def]using nN) Lp).mono ?_;rintro e J ⟨hle,v,ys,rfl,p1,p2,p3,p4⟩
 have wL:ys=n.aN.map λe=>A.queue e.1:=by
  have e1:ys.map nf=n.aN.map (·.1):=by
   refine Aq wW Jq (((p1.trans zJ).map nf).trans ?_) ?_ ahu
   ·rw[List.map_map];have:(n.aN.map (nf∘λe=>A.queue e.1))=n.aN.map (·.1):=List.map_congr_left λe he=>zG e he;rw[this]
   ·rw[dV,List.pairwise_map];exact p2
  have e2:ys.map (λb=>A.queue (nf b))=ys:=by
   conv=>rhs;rw[<-List.map_id ys]
   apply List.map_congr_left;intro b hb;obtain⟨e,he,rfl⟩:=List.mem_map.1 ((p1.trans zJ).mem_iff.1 hb);simp[zG e he]
  rw[<-e2];have:=congrArg (List.map A.queue) e1;simpa[List.map_map,Function.comp_def]using this
 subst wL;obtain⟨Y,a1,ru⟩:=a.Ji hle p3 p4;exact⟨v,Y,rfl,a1,p3,ru⟩
end
section
variable {n:N}{T:Int}{K:Nat}{ex:List Int}{no:Nat}{c:CN}{h:HN}{nm:List UInt8}{q:QN}{m:aM}
variable {E:Env prog}{A:Lay}{H:Hid}{n:N}{X:Ext}{U:Hp}{id:Int}{no:Nat}{c:CN}{g:Nat}{T:Int}
def W6 (g:Nat)(n:N)(X:Ext)(e:Fin)(J:Hp):Prop:=∃qv cv Xq Y,e=.returned (.agg #[qv,cv])/\SX QS.vals 4 39 n.pF qv Xq/\Gw g n (Xq++(Y++X)) J/\Sl 3 J ((n.aF.map (·.1)).map aY) cv
def aqx:cD prog 36=2:=ah
def ai9:dt prog 36=true:=ah
def ajW {J:Hp}{b:Nat}{a1 a2:Value}{e:Nat}(h:J.f b=some (.cells #[a1,a2] e (0,0))):jh prog 36 ⟨b,0,none⟩ J=some (.agg #[a1,a2]):=by unfold jh;rw[if_pos Xv,aqx];simp[cellsOf,h]
def aq.Vy {Z:Ext}{b:Nat}{o:Obj}(a:aq A H n (Z++(b,o)::X) U)(o':Obj):aq A H n (Z++(b,o')::X) (U.set b o'):=by have:=a.Ao (i:=Z.length) (p:=(b,o)) al o';simpa[List.set_append]using this
def Vp {K:Nat}{ex:List Int}(h:Gw g n X U)(O:Ok T K ex n):ay E 22 #[pV g] U (W6 g n X):=by
 obtain⟨A,rfl,H,a⟩:=h;refine aX func22 ntmps22 results22 λQ aD an aA=>?_;obtain⟨lc,kc,cG,dX,lv⟩:=a.mc;have Bt:lc.length=n.aF.length:=by have:=lv.length_eq;simpa using this
 have nK:=O.lc;have hl8:=O.lq;refine ag ?_;refineλb2 fO=>?_;have g2:=λo=>(a.iR fO o).jG;have a2:=a.iR fO (.cells [.slice none 0 0,.slice none 0 0].toArray 36 (0,0));simp only[go_sem,seval,g2];generalize v8:Hp.set U b2 _=jm;replace a2:=dP a2 v8;obtain⟨lc,kc,cG,dX,lv⟩:=a2.mc;have Bt:lc.length=n.aF.length:=by have:=lv.length_eq;simpa using this
 refine aK (Nn cG dX.old dX.nd aa) ?_;rintro cv J ⟨hle,v',ys,hv,p1,p2,p3,p4⟩
 cases hv
 obtain rfl:ys=n.aF.map (·.1):=by
  refine Aq BM FZ (p1.trans ?_) (p2 aa) ?_
  ·have:=lv.map (·.1);simpa[List.map_map,Function.comp_def]using this
  ·have:=O.sc;exact this.imp λh=>by simp[kg];omega
 obtain⟨Yc,a3,aoM⟩:=a2.Ji hle p3 p4;obtain⟨AR,AS,rfl,_⟩:=p3.read;refine ag ?_;refineλb3 hU=>?_;have g3:=λo=>(a3.iR hU o).uf;have h3:=λo=>(a3.iR hU o).jG;have a4:=a3.iR hU (.cells [.slice none 0 0,.slice AR (n.aF.map (·.1)).length AS].toArray 36 (0,0));refine aJ h3 ?_;rw[Hp.set_set];generalize hZ4:Hp.set J b3 _=WC;replace a4:=dP a4 hZ4;refine aK (ap0 a4 O.sq aa) ?_;rintro v gB ⟨v',Yq,hv,a5,q3,aoN⟩
 cases hv
 obtain⟨base,cap,rfl,_⟩:=q3.read;have hl:(n.aN.map λe=>A.queue e.1).length=n.aN.length:=al;refine aJ hl ?_;refine di (λm I ds ae=>ds=[]/\I 2=pV b2/\I 3=pV b3/\I 16=.slice base n.aN.length cap/\I 17=iV n.aN.length/\∃(j:Nat) (v:Value) (Xq:Ext),j+m=n.aN.length/\I 18=iV j/\SX QS.vals 4 39 (n.pF.take j) v Xq/\aq A H n (Xq++(Yq++((b3,.cells [v,.slice AR (n.aF.map (·.1)).length AS].toArray 36 (0,0))::(Yc++((b2,.cells [.slice none 0 0,.slice none 0 0].toArray 36 (0,0))::X))))) ae) n.aN.length ?_ ?_
 ·refine⟨rfl,?_,?_,?_,?_,0,.slice none 0 0,[],al,?_,.none rfl,a5⟩<;>exact aQ hl
 rintro m I ds cX Y ⟨rfl,h2,h3,xG,Kg,j,v,Xq,xT,vW,rS,aj⟩ hY;have f3:cX.f b3=some (.cells #[v,.slice AR (n.aF.map (·.1)).length AS] 36 (0,0)):=(aq.np (aq.np aj)).eK;have f2:cX.f b2=some (.cells #[.slice none 0 0,.slice none 0 0] 36 (0,0)):=(aq.np (aq.np (aq.np aj)).oW).eK
 cases m with
 |succ m=>
  have hj:j<n.aN.length:=aa;have c0:(j:Int)<n.aN.length:=aa;have sj:=aoN (aq.np aj);obtain⟨bb2,za,e2,r2⟩:=sj.read;simp only[Value.slice.injEq]at e2;obtain⟨rfl,_,_⟩:=e2;obtain⟨ba,L,rfl,ib,hL⟩:=r2 j (aW hj);simp only[List.getElem_map,ep]at hL;have w1:=fQ j;obtain⟨nm,jI⟩:∃nm,nm=n.aN[j].1:=⟨_,rfl⟩;rw[<-jI]at hL;have hq:n.q? nm=some n.aN[j].2:=by rw[jI];exact oF O.nq (List.getElem_mem hj)
  generalize ra:n.aN[j].2=q at*;have fq:=aj.tN hq;simp only[go_sem,seval,xG,Kg,vW,c0,decide_true];refine⟨aa,?_⟩;refine bu ib hL ?_;refine AW [0,1,2,3,4,5,8,9,10,11,6,12,7,13,14,15,16,17,18] ?_;obtain⟨rb,rc,ik⟩:=(aj.fw hq).shape
  obtain⟨sb,sc,j7⟩:∃b c,H.cv nm=.slice b q.cons.length c:=by
   rcases(aj.ix hq).form with⟨h1,h2⟩|⟨b,pad,h1,_⟩
   ·have:q.cons=[]:=aW h1;exact⟨_,_,by rw[h2,this];rfl⟩
   ·exact⟨_,_,by rw[h1];simp only[List.length_map];rfl⟩
  have J5:=aj.queue hq;rw[ik,j7]at fq J5;refine bR h3 f3 fq ?_;refine aT (M6 J5) ?_;refine⟨jg f3 fq,?_⟩;refine ag ?_;refine aT (P7 J5) ?_;refine⟨jg f3 fq,?_⟩;refine ag ?_;refine⟨dL f3,?_⟩;refine ag ?_;refineλbn cE=>?_;have fr:=λo=>aj.fresh cE o;have Q0:=λo=>(aq.np (aq.np (fr o))).eK;simp only at Q0;have frq:=λo=>(fr o).tN hq;rw[ik,j7]at frq;refine⟨dL Q0,?_⟩;refine ag ?_;generalize zj:Hp.set cX bn _=sK;have a6:=dP (fr _) zj;have KN:sK.f bn=some (.cells (QS.vals ⟨nm,q.ready.length,q.held,q.cons.length⟩).toArray 39 (0,0)):=by rw[<-zj];exact Hp.bD _ _
  refine XW acz (f:=QS.vals) ah (λ_=>rfl) rfl ai ai (λ_=>by simp[QS.vals,dp]) rS a6 ?_ ?_ KN (by simp;omega) ?_
  ·exact au
  ·exact au
  intro v7 Xl lP RE a7;have f37:lP.f b3=some (.cells #[v,.slice AR (n.aF.map (·.1)).length AS] 36 (0,0)):=(aq.np (aq.np a7)).eK;have J6:=a7.tN hq;rw[ik,j7]at J6;refine⟨jg f37 J6,?_⟩;refine bu h3 f37 ?_;rw[<-List.append_assoc]at a7;have a8:=a7.Vy (.cells [v7,.slice AR (n.aF.map (·.1)).length AS].toArray 36 (0,0))
  have wK:∃b c,v7=.slice b (n.pF.take j++[(⟨nm,q.ready.length,q.held,q.cons.length⟩:QS)]).length c:=by cases RE with
   |none h=>simp at h
   |«at»b c pad _ _=>exact⟨_,_,rfl⟩
  obtain⟨Vm,Vn,wK⟩:=wK;rw[wK]at a8;refine aJ wK ?_;refine⟨jg f37 J6,?_⟩;refine bu vW w1 ?_
  have hsj:n.pF.take (j+1)=n.pF.take j++[⟨nm,q.ready.length,q.held,q.cons.length⟩]:=by
   have uD:j<n.pF.length:=by simpa[N.pF]using hj
   rw[List.take_succ_eq_append_getElem uD];congr 2;simp only[N.pF,List.getElem_map,jI,ra]
  refine hY m _ _ _ _ aa ⟨rfl,?_,?_,?_,?_,j+1,v7,Xl,aa,?_,by rw[hsj];exact RE,?_⟩ ao
  ·exact aQ h2
  ·exact aQ h3
  ·exact aQ xG
  ·exact aQ Kg
  ·exact au
  ·rw[wK,<-List.append_assoc];exact dP a8 rfl
 |zero=>
  have c0:¬(j:Int)<n.aN.length:=aa;obtain rfl:j=n.aN.length:=aa;rw[List.take_of_length_le (by simp[N.pF])]at rS
  have wK:∃b c,v=.slice b n.pF.length c:=by cases rS with
   |none h=>exact⟨_,_,by rw[h];rfl⟩
   |«at»b c pad _ _=>exact⟨_,_,rfl⟩
  obtain⟨Vm,Vn,wK⟩:=wK;rw[wK]at f3 rS;simp only[go_sem,seval,h2,h3,Kg,vW,c0,decide_false,f3,f2];have k0:=aq.Gj (Z:=Xq) (Y:=Yq) aj;have k1:aq A H n (Xq++(Yc++(b2,.cells [.slice none 0 0,.slice none 0 0].toArray 36 (0,0))::X)) cX:=aq.Gj (Z:=Xq) (Y:=[(b3,_)]) k0;rw[<-List.append_assoc]at k1;have k2:=(k1.Vy (.cells [.slice Vm n.pF.length Vn,.slice AR (n.aF.map (·.1)).length AS].toArray 36 (0,0)));have k3:aq A H n ((Xq++Yc)++X) _:=aq.Gj (Z:=Xq++Yc) (Y:=[(b2,_)]) k2;rw[List.append_assoc]at k3;refine an (nS (b:=b2) ?_ ai9 (ajW aZ)) ao ⟨_,_,Xq,Yc,rfl,rS,⟨A,rfl,H,dP k3 rfl⟩,aoM (aq.np (dP k3 rfl))⟩;exact aQ h2
end
def N.rA(n:N)(id:Int)(s:List UInt8):List UInt8:=match n.ar id with
 |none=>[63]
 |some _=>(bq (n.feed id s).outs id).getD []
def N.then(n:N)(id:Int)(s:List UInt8):N:=match n.ar id with
 |none=>n
 |some _=>(n.feed id s).clean
def Inv.then {n:N}{T:Int}{id:Int}{s:List UInt8}(au1:Inv T n):Inv (T+402*(s.length+4107:Nat)) (n.then id s):=by
 unfold N.then;split
 ·exact au1.mono aa
 ·exact au1.feed
variable {l:List (Int×List UInt8)}{pad:List Value}
def anh{i:Nat}(h:i<l.length):(gz l++pad)[i*2]? =some (iV l[i].1)/\(gz l++pad)[i*2+1]? =some (sV l[i].2):=by
 have hl:=HW l;rw[List.getElem?_append_left aa,List.getElem?_append_left aa];clear hl
 induction l generalizing i with
 |nil=>simp at h
 |cons e l ih=>
  have e1:gz (e::l)=iV e.1::sV e.2::gz l:=by simp[gz]
  rw[e1]
  cases i with
  |zero=>exact⟨rfl,rfl⟩
  |succ i=>
   have h':i<l.length:=aW h;have:=ih h';have a1:(i+1)*2=i*2+1+1:=aa;have a2:(i+1)*2+1=i*2+1+1+1:=aa;rw[a2,a1];simpa using this
variable {v:Value}{Xp:Ext}
def PX.shape(h:PX l v Xp):∃b c,v=.slice b l.length c:=by
 cases h with
 |none h=>exact⟨_,_,by rw[h];rfl⟩
 |«at»a c pad _ _=>exact⟨_,_,rfl⟩
variable {X:Ext}{H:Hid}{U:Hp}
def PX.read{A:Lay}(h:PX l v Xp)(a:aq A H n (Xp++X) U):∃b c,v=.slice b l.length c/\∀i (hi:i<l.length),∃(a:Nat) (L:List Value),b=some ⟨a,0,Option.none⟩/\U.f a=some (.cells L.toArray 55 (0,0))/\L[i*2]? =some (iV l[i].1)/\L[i*2+1]? =some (sV l[i].2):=by
 cases h with
 |none h=>exact⟨_,_,by rw[h];rfl,λi hi=>by rw[h]at hi;simp at hi⟩
 |«at»b c pad _ _=>exact⟨_,_,rfl,λi hi=>⟨b,_,rfl,aq.eK (X:=X) a,anh hi⟩⟩
def Gw.drop{g:Nat}{Y:Ext}(h:Gw g n (Y++X) U):Gw g n X U:=by obtain⟨A,e,H,a⟩:=h;exact⟨A,e,H,a.np⟩
variable {β:Type}{l:List (Int×β)}
def XF{j:Nat}(hj:j<l.length)(h:∀e∈l.take j,¬e.1=l[j].1):bq l l[j].1=some l[j].2:=by
 have e:l=l.take j++(l[j].1,l[j].2)::l.drop (j+1):=by conv=>lhs;rw[<-List.take_append_drop j l,List.drop_eq_getElem_cons hj]
 generalize hk:l[j].1=k at*;generalize hv:l[j].2=v at*;rw[e];exact OR h
def XG{k:Int}(h:∀e∈l,¬e.1=k):bq l k=none:=by
 unfold bq;have:(l.find? λe=>decide (e.1=k))=none:=List.find?_eq_none.2 λe he=>by simpa using h e he
 rw[this];rfl
section
variable {n:N}{T:Int}{c:CN}{h:HN}{m:aM}{l:List Int}
variable {A:Lay}{H:Hid}{n:N}{X:Ext}{U:Hp}{id:Int}{c:CN}{g:Nat}{T:Int}{W:World}{φ:Hp}
def amN {s:List UInt8}(au1:Inv T n):(n.feed id s).outs.length<=4:=by
 have h1:(n.feed id s).outs.length<=(n.feed id s).aF.length:=by unfold N.outs;refine Nat.le_trans (List.length_filter_le _ _) ?_;simp
 have h2:(n.feed id s).aF.length<=4:=by
  unfold N.feed;split
  ·exact au1.ok.gW.lc
  ·cases hc:n.ar id with
   |none=>
    have e:n.s7 id s=n:=by
     have e1:n.recv id s=n:=by unfold N.recv N.bA N.dN;have:dE n.aF id (λc=>{c with r:={c.r with recv:=n.clock,rest:=c.r.rest++s}})=n.aF:=AL λe he hx=>absurd hx (ja hc e he);rw[this]
     rw[Gq,e1];exact QQ (by unfold N.ph;rw[hc];rfl)
    rw[e];exact au1.ok.gW.lc
   |some c=>exact(au1.ok.s7 hc).ok.gW.lc
 omega
def Al {s:List UInt8}(h:Gw g n X U)(au1:Inv T n)(hs:s.length<=900000)(hT:T+402*(s.length+4107:Nat)+2000<=1000000000000):
 ay (tT W φ) 15 #[pV g,iV id,sV s] U λe J=>e=.returned (sV (n.rA id s))/\Gw g (n.then id s) X J:=by
 have zf:=QL (W:=W) (φ:=φ) (id:=id) h au1 hs hT;refine aX func15 ntmps15 results15 λQ aD an aA=>?_;refine ag ?_
 cases hc:n.ar id with
 |none=>
  rw[hc]at zf;have e1:n.rA id s=[63]:=by unfold N.rA;rw[hc]
  have e2:n.then id s=n:=by unfold N.then;rw[hc]
  rw[e1,e2]at an;refine aT zf ?_;refine ag ?_;exact an aI ao ⟨by simp[up],h⟩
 |some c=>
  rw[hc]at zf;have e1:n.rA id s=(bq (n.feed id s).outs id).getD []:=by unfold N.rA;rw[hc]
  have e2:n.then id s=(n.feed id s).clean:=by unfold N.then;rw[hc]
  rw[e1,e2]at an;have hol:=amN (id:=id) (s:=s) au1;refine aK zf ?_;rintro v J ⟨v',Xp,hv,hp,A,hA,H,a⟩
  cases hv
  obtain⟨b,cap,rfl,Lx⟩:=hp.read a;generalize atI:(n.feed id s).outs=l at*;refine ag ?_;refine di (λm I ds ae=>ds=[]/\I 1=iV id/\I 7=.slice b l.length cap/\ae=J/\∃j:Nat,m=l.length-j/\j<=l.length/\I 9=iV j/\∀e∈l.take j,¬e.1=id) l.length ?_ ?_
  ·refine⟨rfl,?_,?_,rfl,0,rfl,Nat.zero_le _,?_,al⟩<;>exact au
  rintro m I ds cX Y ⟨rfl,h1,h7,rfl,j,rfl,hjl,h9,eH⟩ hY;by_cases hj:j<l.length
  ·have c0:(j:Int)<l.length:=aa;obtain⟨ab,L,rfl,dr,Gv,qP⟩:=Lx j hj;have cj:(0:Int)<=j/\(j:Int)<l.length:=aa;have w1:=fQ j;by_cases fP:l[j].1=id
   ·have atu:(l[j].1:Int)=id:=fP;simp only[go_sem,seval,h1,h7,h9,c0,cj,dr,Gv,qP,fP];have:=XF hj (by rw[fP];exact eH);rw[fP]at this;rw[this]at an;exact an aI ao ⟨by simp[up],A,hA,H,a.np⟩
   ·simp only[go_sem,seval,h1,h7,h9,c0,cj,dr,Gv,fP,w1];refine hY (l.length-(j+1)) _ _ _ _ aa ⟨rfl,?_,?_,rfl,j+1,rfl,aa,?_,?_⟩ ao
    ·exact aQ h1
    ·exact aQ h7
    ·exact au
    ·intro e he;rw[List.take_succ_eq_append_getElem hj]at he;rcases List.mem_append.1 he with he|he
     ·exact eH e he
     ·simp only[List.mem_singleton]at he;rw[he];exact fP
  ·have c0:¬(j:Int)<l.length:=aa;refine bR h7 h9 c0 ?_;have:bq l id=none:=XG (by rw[List.take_of_length_le aa]at eH;exact eH);rw[this]at an;exact an aI ao ⟨by simp[up],A,hA,H,a.np⟩
end
def uh:kt:=⟨4,200,50,50,1000⟩
def nY:List UInt8:=fy 0 10 30 (aw 2 4++aw 4 200++aw 2 50)++fy 0 10 41 (aw 1 0)++fy 1 20 11 (aw 4 0)
def arD:nY.length=49:=jb
section
variable {n:N}{T:Int}{c:CN}{h:HN}
variable {A:Lay}{H:Hid}{n:N}{X:Ext}{U:Hp}{id:Int}{c:CN}{g:Nat}{T:Int}{W:World}{φ:Hp}
def KV {h:Nat}:(mG h).length<=200:=by unfold mG;simp only[List.length_append,vO,bJ,List.length_cons,List.length_nil];have:pW.length=8:=rfl;omega
def Tv {h:Nat}(hh:h<=1000)(hg:Gw g n X U)(au1:Inv T n)(hl:n.aF.length<=3)(mI:n.last<=1000000000)(hT:T<=100000000000){ot:List UInt8}
 (eS:(n.connect.feed (n.last+1) (mG h)).outs=[(n.last+1,ot)]) (h1:ot.length=nY.length+22) (h2:ot.take nY.length=nY):
 ay (tT W φ) 23 #[pV g,iV h] U λe J=>e=.returned (iV (n.last+1))/\Gw g (n.connect.then (n.last+1) (mG h)) X J:=by
 refine aX func23 ntmps23 results23 λQ aD an aA=>?_;refine ag ?_;refine aK (abI hg au1 hl mI) ?_;rintro v J ⟨hv,g1⟩
 cases hv
 have I1:=au1.connect hl;refine ag ?_;refine aT (af4 hh) ?_;refine ag ?_;have hlen:=KV (h:=h);have mF:=AV (id:=n.last+1) au1.ok;rw[if_pos rfl]at mF;have zf:=QL (W:=W) (φ:=φ) (id:=n.last+1) (s:=mG h) g1 I1 aa aa;rw[mF]at zf;have ahz:n.connect.then (n.last+1) (mG h)=(n.connect.feed (n.last+1) (mG h)).clean:=by unfold N.then;rw[mF]
 rw[ahz]at an;refine aK zf ?_;rintro v cQ ⟨v',Xp,hv,hp,A,hA,H,a⟩
 cases hv
 rw[eS]at hp;obtain⟨b,cap,rfl,Lx⟩:=hp.read a;obtain⟨ab,L,rfl,dr,Gv,qP⟩:=Lx 0 al;simp only[List.getElem_cons_zero,Nat.zero_mul,Nat.zero_add]at Gv qP;refine ag ?_;refine aT (iM (n:=4) (w:=2) ai ai) ?_;refine ag ?_;refine aT (iM (n:=200) (w:=4) ai ai) ?_;refine ag ?_;refine aT (iM (n:=50) (w:=2) ai ai) ?_;have l1:(aw 2 4).length+(aw 4 200).length<=9223372036854775807:=ai;have l2:(aw 2 4++aw 4 200).length+(aw 2 50).length<=9223372036854775807:=ai;refine bu l1 l2 ?_;refine aT (qm (ch:=0) (cl:=10) (me:=30) (p:=aw 2 4++aw 4 200++aw 2 50) ai ai ai ai) ?_;refine ag ?_;refine aT (tI (s:=[]) ai) ?_;refine ag ?_;refine aT (qm (ch:=0) (cl:=10) (me:=41) (p:=aw 1 0) ai ai ai ai) ?_;have m1:(fy 0 10 30 (aw 2 4++aw 4 200++aw 2 50)).length+(fy 0 10 41 (aw 1 0)).length<=9223372036854775807:=ai;have m2:(fy 0 10 30 (aw 2 4++aw 4 200++aw 2 50)++fy 0 10 41 (aw 1 0)).length+(fy 1 20 11 (aw 4 0)).length<=9223372036854775807:=ai;refine aJ m1 ?_;refine aT (iM (n:=0) (w:=4) ai ai) ?_;refine ag ?_;refine aT (qm (ch:=1) (cl:=20) (me:=11) (p:=aw 4 0) ai ai ai ai) ?_;have eW:fy 0 10 30 (aw 2 4++aw 4 200++aw 2 50)++fy 0 10 41 (aw 1 0)++fy 1 20 11 (aw 4 0)=nY:=rfl;have c1:(([(n.last+1,ot)]:List (Int×List UInt8)).length:Int)=1:=rfl;have nt:(decide ¬True)=false:=ai;have lw:(ot.length:Int)=(nY.length:Int)+22:=aa
 have ww:IntKind.i64.wrap ((nY.length:Int)+22)=(nY.length:Int)+22:=by have:=arD;rw[wrap64 aa aa]
 refine jQ m2 eW dr qP lw ww ?_;refine⟨aa,?_⟩;have tw0:ot.take (nY.length-0)=nY:=h2;simp only[go_sem,seval,lw,tw0,Int.toNat_natCast];exact an aI ao ⟨by simp[up],A,hA,H,a.np⟩
def JD:FJ uh:=⟨⟨ai,ai,ai⟩,ai,ai,ai,ai,ai⟩
def Y1 {h:Nat}{L1:List Value}(hh:h<=1000)(hb:Base U L1){ot:List UInt8}
 (eS:((N.new uh).connect.feed 1 (mG h)).outs=[(1,ot)]) (h1:ot.length=nY.length+22) (h2:ot.take nY.length=nY):
 ay (tT W φ) 13 #[iV h] U λe J=>∃g,e=.returned (.tuple #[pV g,iV 1])/\Gw g ((N.new uh).connect.then 1 (mG h)) [] J:=by
 refine aX func13 ntmps13 results13 λQ aD an aA=>?_;refine ag ?_;refine aK (alc (cfg:=uh) hb JD ai ai ai ai) ?_;rintro v J ⟨g,hv,hg⟩
 cases hv
 refine ag ?_;refine aK (Tv (n:=N.new uh) hh hg (Inv.new JD) ai ai ai eS h1 h2) ?_;rintro w J ⟨hw,hB⟩;obtain rfl:w=iV 1:=by injection hw
 simp only[go_sem,seval];exact an (iO) ao ⟨g,by simp[up],hB⟩
end
def EW:List UInt8:=nY++bK 1 50 11 [.text [113],.long 0,.long 0]
def UM:EW.length=nY.length+22:=jb
def UN:EW.take nY.length=nY:=jb
def mR:N:=⟨uh,0,1,0,0,[(1,⟨⟨3,[],true,4,64,0,0,0,[]⟩,[(1,⟨gu,[],[]⟩)]⟩)],[([113],⟨[],0,0,[]⟩)],[]⟩
def Y3:((N.new uh).connect.feed 1 (mG 0)).outs=[(1,EW)]:=jb
def Pr:(N.new uh).connect.then 1 (mG 0)=mR:=ah
def Ad(ch:Nat)(key body:List UInt8):List UInt8:=fy ch 60 40 (aw 1 key.length++key)
def Bn(ch:Nat)(body:List UInt8):List UInt8:=fK 2 ch (aw 2 60++aw 2 0++aw 8 body.length)
def mh(ch:Nat)(key body:List UInt8):List UInt8:=Ad ch key body++Bn ch body++eU ch 50 body.length body
def qC:List UInt8:=[48,49,50,51,52,53,54,55,56,57,97,98,99,100,101,102,103,104,105,106,107,108,109,110,111,112,113,114,115,116,117,118,119,120,121,122]
def od(i:Nat):List UInt8:=[(97+i % 26).toUInt8,(97+i/26 % 26).toUInt8]++(List.replicate (i % 5) qC).flatten
variable {ch m f:Nat}{b:List UInt8}
def am3(h:b≠[]):eU ch m (f+1) b=fK 3 ch (b.take m)++eU ch m f (b.drop m):=by rw[eU,if_neg h]
def am2:eU ch m f []=[]:=by cases f<;>simp[eU]
def am0(hm:1<=m)(hf:b.length<=f):eU ch m f b=eU ch m b.length b:=MV ch m hm f b.length b hf (Nat.le_refl _)
variable {P:Program}{E:Env P}{I:av}{ds:List Deferred}{dst:Option Tmp}{ty:TypeId}{pos:String}{af:Array Edge}{g:Option (Nat×Bool)}{nx:av->List Deferred->Hp->Prop}{pn:List PanicEntry->Hp->Prop}
def aag{s d e:TypeId}{x:Operand}{b cap:Nat}{k l:Nat}{et:TypeId}(hs:P.underlying s=some (.slice e))(hd:P.underlying d=some .string)(he:P.underlying e=some (.int .u8))(hx:ak I x=.slice (some ⟨b,0,none⟩) 2 cap)(hb:U.f b=some (.cells (.int .u8 k:: .int .u8 l::pad).toArray et (0,0)))(h:nx (aB I dst (.string (B [UInt8.ofNat k,UInt8.ofNat l]))) ds U):wpOp E ⟨dst,.convert s d x,ty,pos,af,g⟩ I ds U nx pn:=by
 unfold wpOp;simp only[execOp,convert,aG,eu,hs,hd,hx,he,Conv.bytesToString,loadCells];refine IJ (a:=⟨b,0,none⟩) hb rfl 2 0 #[] _ al ?_
 have e1:(#[]++(.int .u8 (k:Int):: .int .u8 (l:Int)::pad).toArray.extract ((⟨b,0,none⟩:Addr).off+0) ((⟨b,0,none⟩:Addr).off+0+2):Array Value)= #[.int .u8 (k:Int),.int .u8 (l:Int)]:=by apply Array.ext';simp
 rw[e1];exact h
variable {E:Env prog}{key:List UInt8}
def akL{body:List UInt8}(dR:ch<100000)(hk:key.length<=1000)(hb:body.length<=10000):ay E 16 #[iV ch,sV key,sV body] U λe J=>e=.returned (sV (mh ch key body))/\J=U:=by
 refine fR func16 ntmps16 results16 rfl al λQ aD an aA=>?_;refine ag ?_;refine aT (tI (s:=key) aa) ?_;refine ag ?_;refine aT (qm (ch:=ch) (cl:=60) (me:=40) (p:=aw 1 key.length++key) dR ai ai (by simp[bJ];omega)) ?_;refine ag ?_;refine aT (iM (n:=60) (w:=2) ai ai) ?_;refine ag ?_;refine aT (iM (n:=0) (w:=2) ai ai) ?_;have l1:(aw 2 60).length+(aw 2 0).length<=9223372036854775807:=by simp[bJ]
 refine aJ l1 ?_;refine aT (iM (n:=body.length) (w:=8) ai aa) ?_;have l2:(aw 2 60++aw 2 0).length+(aw 8 body.length).length<=9223372036854775807:=by simp[bJ]
 refine aJ l2 ?_;refine aT (HD (kind:=2) (ch:=ch) (p:=aw 2 60++aw 2 0++aw 8 body.length) ai dR (by simp[bJ])) ?_;have l3:(fy ch 60 40 (aw 1 key.length++key)).length+(fK 2 ch (aw 2 60++aw 2 0++aw 8 body.length)).length<=9223372036854775807:=by simp[vO,kP,bJ];omega
 refine aJ l3 ?_;refine di (λm I ds ae=>ds=[]/\I 0=iV ch/\ae=U/\∃(s b:List UInt8),m=b.length/\I 2=sV b/\I 7=sV s/\b.length<=body.length/\s.length+9*b.length<=100+key.length+9*body.length/\s++eU ch 50 b.length b=mh ch key body) body.length ?_ ?_
 ·refine⟨rfl,?_,rfl,Ad ch key body++Bn ch body,body,rfl,?_,?_,Nat.le_refl _,?_,rfl⟩
  ·exact au
  ·exact au
  ·exact au
  ·simp[Ad,Bn,vO,kP,bJ];omega
 rintro m I ds fA Y ⟨rfl,h0,fF,s,b,rfl,h2,h7,uA,jJ,fp⟩ hY;rw[fF];clear fF fA;by_cases mC:b=[]
 ·subst mC;have c0:¬(0:Int)<(([]:List UInt8).length:Int):=al;refine bu h2 h7 ?_;rw[List.length_nil,am2,List.append_nil]at fp;exact an aI ao ⟨by simp[up,fp],rfl⟩
 ·have nM:0<b.length:=List.length_pos_iff.2 mC;have c0:(0:Int)<b.length:=aa
  have ajv:∀k:Nat,(k=50\/k=b.length/\b.length<=50)->1<=k->k<=b.length->s++fK 3 ch (b.take k)++eU ch 50 (b.drop k).length (b.drop k)=mh ch key body:=by
   intro k hk jf Sq
   have e1:b.take 50=b.take k/\b.drop 50=b.drop k:=by
    rcases hk with rfl|⟨rfl,rQ⟩
    ·exact⟨rfl,rfl⟩
    ·exact⟨by rw[List.take_of_length_le rQ,List.take_of_length_le (Nat.le_refl _)],by rw[List.drop_eq_nil_of_le rQ,List.drop_eq_nil_of_le (Nat.le_refl _)]⟩
   rw[<-fp];obtain⟨f,hf⟩:∃f,b.length=f+1:=⟨b.length-1,aa⟩
   conv=>rhs;rw[hf,am3 mC,e1.1,e1.2]
   rw[am0 ai (f:=f) (by rw[List.length_drop];omega),List.append_assoc]
  have fin:∀(aC:av) (k:Nat),(k=50\/k=b.length/\b.length<=50)->1<=k->k<=b.length->aC 0=iV ch->aC 2=sV (b.drop k)->aC 7=sV (s++fK 3 ch (b.take k))->Y aC [] U:=by intro aC k hk jf Sq k0 k2 k7;refine hY (b.drop k).length _ _ _ _ (by rw[List.length_drop];omega) ⟨rfl,k0,rfl,_,_,rfl,k2,k7,by rw[List.length_drop];omega,?_,ajv k hk jf Sq⟩ ao;rw[List.length_append,kP,List.length_take,List.length_drop];omega
  by_cases rQ:b.length>50
  ·have c1:(50:Int)<b.length:=aa;have c2:(0:Int)<=50/\(50:Int)<=b.length:=aa;refine jQ h0 h2 h7 c0 c1 c2 ?_;refine aT (HD (kind:=3) (ch:=ch) (p:=b.take 50) ai dR (by rw[List.length_take];omega)) ?_;have l4:s.length+(fK 3 ch (b.take 50)).length<=9223372036854775807:=by rw[kP,List.length_take];omega
   have c3:(0:Int)<=50/\(50:Int)<=b.length/\(b.length:Int)<=b.length:=aa;refine fV h2 l4 c2 c3 ?_;refine fin _ 50 (.inl rfl) ai aa ?_ ?_ ?_
   ·exact aQ h0
   ·refine ag ?_;rw[List.take_of_length_le (by rw[List.length_drop];exact Nat.le_refl _)]
   ·simp only[go_sem,seval]
    try rfl
  ·have c1:¬(50:Int)<b.length:=aa;have c2:(0:Int)<=b.length/\(b.length:Int)<=b.length:=aa;have et:b.take (b.length-0)=b.take b.length:=rfl;refine jQ h0 h2 h7 c0 c1 c2 ?_;rw[et];refine aT (HD (kind:=3) (ch:=ch) (p:=b.take b.length) ai dR (by rw[List.length_take];omega)) ?_;have l4:s.length+(fK 3 ch (b.take b.length)).length<=9223372036854775807:=by rw[kP,List.length_take];omega
   refine bR h2 l4 c2 ?_;refine fin _ b.length (.inr ⟨rfl,aa⟩) nM (Nat.le_refl _) ?_ ?_ ?_
   ·exact aQ h0
   ·refine ag ?_;rw[List.take_of_length_le (by rw[List.length_drop];exact Nat.le_refl _)]
   ·simp only[go_sem,seval]
    try rfl
def ZI{i:Nat}(hi:i<=1000000):ay E 17 #[iV i] U λe J=>e=.returned (sV (od i))/\J=U:=by
 refine fR func17 ntmps17 results17 rfl al λQ aD an aA=>?_;obtain⟨p,hp⟩:∃p,p=i % 26:=⟨_,rfl⟩;obtain⟨q,hq⟩:∃q,q=i/26:=⟨_,rfl⟩;obtain⟨r,hr⟩:∃r,r=q % 26:=⟨_,rfl⟩;obtain⟨t,ht⟩:∃t,t=i % 5:=⟨_,rfl⟩;have m1:(i:Int).tmod 26=(p:Int):=by rw[hp];rfl
 have m2:(i:Int).tdiv 26=(q:Int):=by rw[hq];rfl
 have m3:(q:Int).tmod 26=(r:Int):=by rw[hr];rfl
 have m4:(i:Int).tmod 5=(t:Int):=by rw[ht];rfl
 have w0:IntKind.i64.wrap (q:Int)=q:=wrap64 aa aa;have w1:IntKind.i64.wrap (97+(p:Int))=((97+p:Nat):Int):=cH;have w2:IntKind.i64.wrap (97+(r:Int))=((97+r:Nat):Int):=cH;have u1:IntKind.wrap .u8 ((97+p:Nat):Int)=((97+p:Nat):Int):=by rw[IntKind.wrap_u8];omega
 have u2:IntKind.wrap .u8 ((97+r:Nat):Int)=((97+r:Nat):Int):=by rw[IntKind.wrap_u8];omega
 refine jE m1 m2 w0 m3 w1 w2 u1 u2 ?_;refineλb hb=>?_;refine ag ?_;refine aag (e:=5) (b:=b) (cap:=2) (k:=97+p) (l:=97+r) (pad:=[]) (et:=5) ah ah ah ?_ aZ ?_
 ·exact au
 refine ag ?_;have gJ:∀o,U.le (U.set b o):=λo x p hx=>by rw[Hp.az (bj hb hx)];exact hx
 generalize hZ:Hp.set U b _=cX;have hle:U.le cX:=by rw[<-hZ];exact gJ _
 clear hZ hb gJ;refine di (λm I ds ae=>ds=[]/\I 0=iV i/\ae=cX/\∃j:Nat,m=t-j/\j<=t/\I 4=iV j/\I 3=sV ([(97+p).toUInt8,(97+r).toUInt8]++(List.replicate j qC).flatten)) t ?_ ?_
 ·refine⟨rfl,?_,rfl,0,rfl,Nat.zero_le _,?_,?_⟩<;>exact au
 rintro m I ds fA Y ⟨rfl,h0,fF,j,rfl,So,h4,h3⟩ hY;rw[fF];clear fF fA;by_cases hj:j<t
 ·have c0:(j:Int)<t:=aa;have w5:=fQ j
  have hal:(List.replicate j qC).flatten.length<=36*j:=by rw[List.length_flatten,List.map_replicate,List.sum_replicate_nat];have:qC.length=36:=rfl;rw[this];omega
  have l5:([(97+p).toUInt8,(97+r).toUInt8]++(List.replicate j qC).flatten).length+qC.length<=9223372036854775807:=by have:qC.length=36:=rfl;simp only[List.length_append,List.length_cons,List.length_nil];omega
  have bw:([(97+p).toUInt8,(97+r).toUInt8]++(List.replicate j qC).flatten)++qC=[(97+p).toUInt8,(97+r).toUInt8]++(List.replicate (j+1) qC).flatten:=by rw[List.append_assoc,List.replicate_succ'];simp
  generalize hss:([(97+p).toUInt8,(97+r).toUInt8]++(List.replicate j qC).flatten)=ss at*;have l6:ss.length+36<=9223372036854775807:=l5;refine jR h0 h4 h3 m4 c0 l6 w5 ?_;refine hY (t-(j+1)) _ _ _ _ aa ⟨rfl,?_,rfl,j+1,rfl,aa,?_,?_⟩ ao
  ·exact aQ h0
  ·exact au
  ·refine ag ?_;exact congrArg (λl=>Value.string (B l)) bw
 ·have c0:¬(j:Int)<t:=aa;refine lI h0 h4 h3 m4 c0 ?_;refine an (J:=U) aI hle ⟨?_,rfl⟩;have e1:j=i % 5:=aa;have:od i=[(97+p).toUInt8,(97+r).toUInt8]++(List.replicate j qC).flatten:=by unfold od;rw[hp,hr,hq,e1]
  simp[up,this]
variable {k:Int}
def MY{c:Int}{n:Nat}(hn:0<n):∃k:Nat,yw c n=k/\k<n:=by have:=anf (c:=c) (n:=n) aa;exact⟨(yw c n).toNat,aa,aa⟩
def Tn:Inv 2000000 mR:=by have h:=((Inv.new JD).connect ai).then (id:=1) (s:=mG 0);rw[Pr]at h;have:=KV (h:=0);exact h.mono aa
def SX.one{f:QS->List Value}{z e:Nat}{x:QS}{A:Lay}(h:SX f z e [x] v Xp)(a:aq A H n (Xp++X) U):∃(b c:Nat) (L:List Value),v=.slice (some ⟨b,0,Option.none⟩) 1 c/\U.f b=some (.cells (f x++L).toArray e (0,0)):=by
 cases h with
 |none h=>cases h
 |«at»b c pad _ _=>exact⟨b,c,pad,rfl,by have:=aq.eK (X:=X) a;simpa using this⟩
def Gw.Jv{g:Nat}(h:Gw g n X U):U.f 0=some (.cells #[rT 45] 143 (0,0))/\U.f 1=some (.cells EY.toArray 396 (0,0)):=by obtain⟨A,_,H,a⟩:=h;refine⟨a.b0,?_⟩;rw[<-A.qP];exact a.b1
def Base.same{J:Hp}{L1:List Value}{g:Nat}(hb:Base U L1)(h:Gw g n X J):J.f 0=U.f 0/\J.f 1=U.f 1:=by rw[hb.b0,hb.b1,h.Jv.1,h.Jv.2,hb.l1];exact⟨rfl,rfl⟩
inductive Zn
 |one
 |fst (ch:List (Nat×HN))
 |snd (ch:List (Nat×HN))
 |alone
def Zn.i:Zn->Int
 |one|fst _=>1
 |snd _|alone=>2
def Zn.last:Zn->Int
 |one=>1
 |_=>2
def sY(rest out:List UInt8)(ch:List (Nat×HN)):CN:=⟨⟨3,rest,true,4,64,0,0,0,out⟩,ch⟩
def Zn.aF(a:CN):Zn->List (Int×CN)
 |one=>[(1,a)]
 |fst c=>[(1,a),(2,sY [] [] c)]
 |snd c=>[(1,sY [] [] c),(2,a)]
 |alone=>[(2,a)]
def W(z:Zn)(rest out:List UInt8)(hr:HR)(un:List (Nat×(List UInt8×aM)))(R:List aM)(h k:Int):N:=⟨uh,0,z.last,k,0,z.aF (sY rest out [(1,⟨hr,un,[]⟩)]),[([113],⟨R,h,0,[]⟩)],[]⟩
variable {z:Zn}{rest out:List UInt8}{hr:HR}{un:List (Nat×(List UInt8×aM))}{R:List aM}{h:Int}
def OI:(W z rest out hr un R h k).serve=W z rest out hr un R h k:=by cases R<;>rfl
def yV:(W z rest out hr un R h k).ar z.i=some (sY rest out [(1,⟨hr,un,[]⟩)]):=by cases z<;>rfl
def OH:(W z rest out hr un R h k).ph z.i=3:=by cases z<;>rfl
variable {oJ:List UInt8}{u:Un}
def OD(hn:dz true rest 64=(u,true,oJ)):(W z rest out hr un R h k).cut z.i=(u,W z oJ out hr un R h k):=by
 have e:(W z rest out hr un R h k).cut z.i=((dz true rest 64).1,(W z rest out hr un R h k).bA z.i λr=>{r with iy:=(dz true rest 64).2.1,rest:=(dz true rest 64).2.2}):=by cases z<;>rfl
 rw[e,hn]
 cases z<;>rfl
variable {HV:List UInt8}{eX:HR}{sJ:List (Nat×(List UInt8×aM))}{R':List aM}{h' k':Int}
def Cz(hn:dz true rest 64=(u,true,oJ))(hi:u.idle=false)(hu:(W z oJ out hr un R h k).unit z.i u=W z oJ HV eX sJ R' h' k'):(W z rest out hr un R h k).fJ (f+1) z.i=(W z oJ HV eX sJ R' h' k').fJ f z.i:=by rw[N.fJ,OD hn,OH,if_neg ai];simp only[hi,hu,OI];rfl
def OG(hn:dz true rest 64=(u,true,rest))(hi:u.idle=true):(W z rest out hr un R h k).fJ (f+1) z.i=W z rest out hr un R h k:=by rw[N.fJ,OD hn,OH,if_neg ai];simp only[hi];rfl
def OE:(W z [] out hr un R h k).fJ (f+1) z.i=W z [] out hr un R h k:=OG (aln _) rfl
variable {hn:HN}{me:Nat}{p:List UInt8}{er:Er}
def Mr{id:Int}{cl:Nat}(hc:n.ar id=some c)(h3:c.r.ph=3)(hm:1<=c.r.cZ)(hh:bq c.ch 1=some hn)(aH:hn.r.closing=false)(hw:hn.r.want<=1)(l1:cl<65536)(l2:me<65536)(hM:n.method id 1 hn p cl me=.ok n' er):n.unit id ⟨1,1,aw 2 cl++aw 2 me++p,false,false⟩=n'.fault id 1 er:=by
 have e1:n.fB id c ⟨1,1,aw 2 cl++aw 2 me++p,false,false⟩=n.method id 1 hn p cl me:=by unfold N.fB;simp only[List.append_assoc,Aa (w:=2) (n:=cl) l1,Aa (w:=2) (n:=me) l2];unfold N.iS;simp only[h3];unfold N.kW;have:max hn.r.want 1=1:=aa;have uF:¬((1:Int).toNat:Int)>c.r.cZ:=aa;unfold N.js;simp only[hh,aH,this,Int.toNat_one];simp;intro hx;omega
 unfold N.unit N.kQ;simp only[hc,e1,hM];rfl
def YW{n:Nat}(h:n<4294967296):aw 8 n=aw 4 0++aw 4 n:=by
 unfold aw
 have e:∀i<4,(n/256^(8-1-i)).toUInt8=0:=λi hi=>by have:n/256^(8-1-i)=0:=Nat.div_eq_of_lt (Nat.lt_of_lt_of_le h (Nat.pow_le_pow_right (n:=256) (i:=4) ai aa));rw[this];rfl
 simp only[List.range_succ,List.range_zero,List.map_cons,List.map_nil,List.nil_append,List.cons_append];rw[e 0 ai,e 1 ai,e 2 ai,e 3 ai];rfl
def Xc(hs:s≠[]):(W z [] [] hr un R h k).feed z.i s=((W z s [] hr un R h k).fJ (s.length+2) z.i).gW:=by
 unfold N.feed;rw[if_neg hs];have e1:(W z [] [] hr un R h k).s7 z.i s=(W z s [] hr un R h k).fJ (s.length+2) z.i:=by cases z<;>rfl
 rw[e1]
def OJ(hs:s≠[])(hL:(W z s [] hr un R h k).fJ (s.length+2) z.i=W z [] out eX sJ R' h' k'):(W z [] [] hr un R h k).then z.i s=W z [] [] eX sJ R' h' k'/\(W z [] [] hr un R h k).rA z.i s=out:=by
 have e:(W z [] [] hr un R h k).feed z.i s=W z [] out eX sJ R' h' k':=by
  rw[Xc hs,hL];have:(W z [] out eX sJ R' h' k').gW=(W z [] out eX sJ R' h' k').serve:=by cases z<;>rfl
  rw[this,OI]
 unfold N.then N.rA;simp only[yV,e];refine⟨by cases z<;>rfl,?_⟩
 cases z<;>cases out<;>rfl
def Xi(aH:hr.closing=false)(hw:hr.want<=1):(W z rest out hr un R h k).unit z.i ⟨1,1,aw 2 60++aw 2 40++(aw 1 1++[113]),false,false⟩=W z rest out {hr with key:=[113],want:=2} un R h k:=
 Mr (n:=W z rest out hr un R h k) (c:=sY rest out [(1,⟨hr,un,[]⟩)]) (hn:=⟨hr,un,[]⟩) (cl:=60) (me:=40) (er:=.nil) yV rfl (by show(1:Int)<=4;decide) rfl aH hw ai ai (by cases z<;>rfl)
variable {kd:Nat}
def L2{id:Int}(hk:kd=2\/kd=3)(hc:n.ar id=some c)(h3:c.r.ph=3)(hm:1<=c.r.cZ)(hh:bq c.ch 1=some hn)(aH:hn.r.closing=false)(hw:hn.r.want=kd)(hM:(if kd=2 then n.header id 1 hn.r p else n.part id 1 hn.r p)=.ok n' er):n.unit id ⟨kd,1,p,false,false⟩=n'.fault id 1 er:=by
 have e1:n.fB id c ⟨kd,1,p,false,false⟩=if kd=2 then n.header id 1 hn.r p else n.part id 1 hn.r p:=by unfold N.fB;rw[if_neg (by show¬(kd:Int)=1;omega)];unfold N.iS;rw[if_neg aa,if_pos h3,if_neg (by show¬(1:Int)=0;decide)];unfold N.kW;have uF:¬((1:Int).toNat:Int)>c.r.cZ:=aa;rw[if_neg uF];simp only[Int.toNat_one,hh];unfold N.js;rw[if_neg (by rw[aH];decide),if_neg (by rw[hw];simp only[Decidable.not_not];omega)];rcases hk with rfl|rfl<;>rfl
 unfold N.unit N.kQ;have h8:¬(kd:Int)=8:=aa;simp only[hc,e1,hM,h8];rfl
def Xd{len:Nat}(aH:hr.closing=false)(hw:hr.want=2)(h0:0<len)(h1:len<=1000):(W z rest out hr un R h k).unit z.i ⟨2,1,aw 2 60++aw 2 0++aw 8 len,false,false⟩=W z rest out {hr with want:=3,size:=len,body:=[]} un R h k:=by
 refine L2 (n:=W z rest out hr un R h k) (c:=sY rest out [(1,⟨hr,un,[]⟩)]) (hn:=⟨hr,un,[]⟩) (kd:=2) (er:=.nil) (.inl rfl) yV rfl (by show(1:Int)<=4;decide) rfl aH hw ?_;rw[if_pos rfl];unfold N.header
 have e4:fu 4 (aw 4 len)=some (len,[]):=by have:=Aa (w:=4) (n:=len) (s:=[]) aa;rwa[List.append_nil]at this
 rw[YW aa,List.append_assoc];simp only[Aa (w:=2) (n:=60) ai,Aa (w:=2) (n:=0) ai,Aa (w:=4) (n:=0) ai,e4];rw[if_neg ai,if_neg (by show¬((0:Nat)>0\/(len:Int)>1000);omega)];unfold N.whole;rw[if_pos (by simp;omega)]
 cases z<;>rfl
def Xg(aH:hr.closing=false)(hw:hr.want=3)(hl:((hr.body++p).length:Int)<hr.size):(W z rest out hr un R h k).unit z.i ⟨3,1,p,false,false⟩=W z rest out {hr with body:=hr.body++p} un R h k:=by
 refine L2 (n:=W z rest out hr un R h k) (c:=sY rest out [(1,⟨hr,un,[]⟩)]) (hn:=⟨hr,un,[]⟩) (kd:=3) (er:=.nil) (.inr rfl) yV rfl (by show(1:Int)<=4;decide) rfl aH hw ?_;rw[if_neg ai];unfold N.part;rw[if_neg (by show¬_;simp only[];omega)];unfold N.whole;rw[if_pos hl]
 cases z<;>rfl
def ano{q:QN}(hq:n.q? key=some q)(hn:(q.ready.length:Int)+q.held<n.cfg.queue):n.jN key b=(({n with messages:=n.messages+1}:N).bH key λq=>{q with ready:=q.ready++[⟨n.messages+1,key,b,false⟩]},true):=by unfold N.jN;simp only[hq];rw[if_neg aa]
def arI{id:Int}{no:Nat}{r:HR}{q:QN}(h1:¬(r.body.length:Int)<r.size)(hq:n.q? r.key=some q)(hn:(q.ready.length:Int)+q.held<n.cfg.queue):
 n.whole id no r=.ok (({(n.cN id no λ_=>{r with want:=1})with messages:=n.messages+1}:N).bH r.key λq=>{q with ready:=q.ready++[⟨n.messages+1,r.key,r.body,false⟩]}) .nil:=by
 have:=ano (n:=n.cN id no λ_=>{r with want:=1}) (key:=r.key) (b:=r.body) (q:=q) hq hn;unfold N.whole;rw[if_neg h1];simp only[this];rfl
def Xe(aH:hr.closing=false)(hw:hr.want=3)(hl:((hr.body++p).length:Int)=hr.size)(hk:hr.key=[113])(hn:(R.length:Int)+h<50):(W z rest out hr un R h k).unit z.i ⟨3,1,p,false,false⟩=W z rest out {hr with body:=hr.body++p,want:=1} un (R++[⟨k+1,[113],hr.body++p,false⟩]) h (k+1):=by refine L2 (n:=W z rest out hr un R h k) (c:=sY rest out [(1,⟨hr,un,[]⟩)]) (hn:=⟨hr,un,[]⟩) (kd:=3) (er:=.nil) (.inr rfl) yV rfl (by show(1:Int)<=4;decide) rfl aH hw ?_;rw[if_neg ai];unfold N.part;rw[if_neg (by simp only[];omega)];have e:=arI (n:=W z rest out hr un R h k) (id:=z.i) (no:=1) (r:={hr with body:=hr.body++p}) (q:=⟨R,h,0,[]⟩) (by simp only[];omega) (by show N.q? _ hr.key=_;rw[hk];rfl) hn;simp only[hk]at e;rw[show({hr with body:=hr.body++p}:HR)=⟨hr.closing,hr.mj,hr.tag,hr.want,[113],hr.body++p,hr.size⟩by rw[<-hk]];exact e.trans (by rw[show({hr with body:=hr.body++p,want:=1}:HR)=⟨hr.closing,hr.mj,hr.tag,1,[113],hr.body++p,hr.size⟩by rw[<-hk]];cases z<;>rfl)
def BU(zy:kd=1\/kd=2\/kd=3)(hp:p.length<=56):dz true (fK kd 1 p++rest) 64=(⟨kd,1,p,false,false⟩,true,rest):=
 Um (k:=kd) (ch:=1) aa ai aa (by rw[if_pos zy];simp;omega)
def BE(zy:kd=1\/kd=2\/kd=3):(⟨kd,1,p,false,false⟩:Un).idle=false:=by rcases zy with rfl|rfl|rfl<;>rfl
variable {m:aM}
def Xh(aH:hr.closing=false)(hw:hr.want=3)(hk:hr.key=[113])(hn:(R.length:Int)+h<50):∀(m:Nat) (b d:List UInt8) (f:Nat),b.length<=m->b≠[]->b.length+2<=f->hr.size=(d++b).length->
 (W z (eU 1 50 b.length b) out {hr with body:=d} un R h k).fJ f z.i=W z [] out {hr with body:=d++b,want:=1} un (R++[⟨k+1,[113],d++b,false⟩]) h (k+1):=by
 intro m
 induction m with
 |zero=>intro b d f hm hb;exact absurd (List.length_eq_zero_iff.1 aa) hb
 |succ m ih=>
  intro b d f hm hb hf hz;obtain⟨l,hl⟩:∃l,b.length=l+1:=⟨b.length-1,by have:=List.length_pos_iff.2 hb;omega⟩;obtain⟨g,rfl⟩:∃g,f=g+1:=⟨f-1,aa⟩;rw[hl,eU,if_neg hb];have hp:(b.take 50).length<=56:=by rw[List.length_take];omega
  by_cases rQ:b.length<=50
  ·have e1:b.take 50=b:=List.take_of_length_le rQ;have e2:b.drop 50=[]:=List.drop_eq_nil_of_le rQ;have e3:eU 1 50 l []=[]:=by cases l<;>simp[eU]
   rw[Cz (BU (.inr (.inr rfl)) hp) (BE (.inr (.inr rfl))) (Xe (hr:={hr with body:=d}) aH hw (by rw[e1];exact hz.symm) hk hn),e1,e2,e3];obtain⟨g',rfl⟩:∃g',g=g'+1:=⟨g-1,aa⟩;exact OE
  ·have e3:eU 1 50 l (b.drop 50)=eU 1 50 (b.drop 50).length (b.drop 50):=MV 1 50 ai _ _ _ (by rw[List.length_drop];omega) (Nat.le_refl _);have Ht:hr.size=(d.length+b.length:Nat):=by rw[hz,List.length_append]
   rw[Cz (BU (.inr (.inr rfl)) hp) (BE (.inr (.inr rfl))) (Xg (hr:={hr with body:=d}) aH hw (by show((d++b.take 50).length:Int)<hr.size;rw[Ht,List.length_append,List.length_take];omega)),e3];have e4:d++b.take 50++b.drop 50=d++b:=by rw[List.append_assoc,List.take_append_drop]
   have:=ih (b.drop 50) (d++b.take 50) g (by rw[List.length_drop];omega) (λe=>by have:=List.length_drop (i:=50) (l:=b);rw[e]at this;simp at this;omega) (by rw[List.length_drop];omega) (by rw[e4];exact hz);rw[e4]at this;exact this
def Xj(hb:b≠[])(uA:b.length<=1000)(aH:hr.closing=false)(hw:hr.want<=1)(hn:(R.length:Int)+h<50):
 (W z [] [] hr un R h k).then z.i (mh 1 [113] b)=W z [] [] {hr with key:=[113],want:=1,size:=b.length,body:=b} un (R++[⟨k+1,[113],b,false⟩]) h (k+1)/\(W z [] [] hr un R h k).rA z.i (mh 1 [113] b)=[]:=by
 refine OJ (by simp[mh,Ad,fy,fK,aw]) ?_;have e:(mh 1 [113] b).length+2=((eU 1 50 b.length b).length+b.length+2+(mh 1 [113] b).length-(eU 1 50 b.length b).length-b.length-2)+2:=aa
 have se:b.length<=(eU 1 50 b.length b).length:=by
  have:∀(f:Nat) (b:List UInt8),b.length<=f->b.length<=(eU 1 50 f b).length:=by
   intro f
   induction f with
   |zero=>intro b h;simp[eU];exact List.length_eq_zero_iff.1 aa
   |succ f ih=>
    intro b hf;rw[eU];split
    ·simp_all
    ·have:=ih (b.drop 50) (by rw[List.length_drop];omega);rw[List.length_append,kP,List.length_take];rw[List.length_drop]at this;omega
  exact this _ _ (Nat.le_refl _)
 have SC:(mh 1 [113] b).length=14+20+(eU 1 50 b.length b).length:=by simp[mh,Ad,Bn,fy,kP,bJ];omega
 have hf:(mh 1 [113] b).length+2=((mh 1 [113] b).length)+1+1:=rfl;rw[hf];unfold mh Ad Bn fy;rw[List.append_assoc];have l1:(aw 2 60++aw 2 40++(aw 1 1++[113])).length<=56:=by simp[bJ]
 have l2:(aw 2 60++aw 2 0++aw 8 b.length).length<=56:=by simp[bJ]
 have k1:(aw 1 ([113]:List UInt8).length++[113]:List UInt8)=aw 1 1++[113]:=rfl;rw[k1,Cz (BU (.inl rfl) l1) (BE (.inl rfl)) (Xi aH hw),Cz (BU (.inr (.inl rfl)) l2) (BE (.inr (.inl rfl))) (Xd (hr:={hr with key:=[113],want:=2}) aH rfl (List.length_pos_iff.2 hb) uA)];refine(Xh (hr:={hr with key:=[113],want:=3,size:=b.length,body:=[]}) aH rfl rfl hn _ b [] _ (Nat.le_refl _) hb ?_ rfl).trans rfl;simp only[List.length_append,kP,bJ];omega
def qL:List UInt8:=fy 1 60 70 (aw 1 1++[113]++aw 1 0)
def xE(t:Nat)(again:Bool)(left:Nat):List UInt8:=fy 1 60 71 (aw 8 t++aw 1 (if again then 1 else 0)++(aw 1 1++[113])++aw 4 left)
def ZK(b:List UInt8):List UInt8:=fK 2 1 (aw 2 60++aw 2 0++aw 8 b.length)++eU 1 56 b.length b
def aqZ:jB (aw 1 1++[113]++s)=some ([113],s):=by unfold jB;rw[List.append_assoc,Aa ai];simp[yv]
def adm:yu (aw 1 0)=some (false,[]):=jb
def Xf{cl:Nat}(hs:s=fy 1 cl me p)(hp:p.length<=52)(aH:hr.closing=false)(hw:hr.want<=1)(l1:cl<65536)(l2:me<65536)(hM:(W z [] [] hr un R h k).method z.i 1 ⟨hr,un,[]⟩ p cl me=.ok (W z [] out eX sJ R' h' k') .nil):
 (W z [] [] hr un R h k).then z.i s=W z [] [] eX sJ R' h' k'/\(W z [] [] hr un R h k).rA z.i s=out:=by
 subst hs;refine OJ (by simp[fy,fK,aw]) ?_;have hl:(aw 2 cl++aw 2 me++p).length<=56:=by simp[bJ];omega
 have hu:(W z [] [] hr un R h k).unit z.i ⟨1,1,aw 2 cl++aw 2 me++p,false,false⟩=W z [] out eX sJ R' h' k':=
  Mr (n:=W z [] [] hr un R h k) (c:=sY [] [] [(1,⟨hr,un,[]⟩)]) (hn:=⟨hr,un,[]⟩) (er:=.nil) yV rfl (by show(1:Int)<=4;decide) rfl aH hw l1 l2 hM
 have e:=BU (rest:=[]) (kd:=1) (.inl rfl) hl;rw[List.append_nil]at e;rw[fy,Cz (f:=(fK 1 1 (aw 2 cl++aw 2 me++p)).length+1) e (BE (.inl rfl)) hu];exact OE
def akQ{id:Int}{no:Nat}{g:HN}:n.method id no g s 60 70=n.get id no s 60 70:=by simp[N.method]
def OF{ms:List aM}{t:Nat}(aH:hr.closing=false)(hw:hr.want<=1)(ht:hr.tag=t)(hk:m.key=[113]):
 (W z [] [] hr un (m::ms) h k).then z.i qL=W z [] [] {hr with tag:=t+1} (un++[(t+1,([113],m))]) ms (h+1) k/\(W z [] [] hr un (m::ms) h k).rA z.i qL=xE (t+1) m.again ms.length++ZK m.body:=by
 refine Xf (hs:=rfl) ai aH hw ai ai ?_;rw[akQ];unfold N.get;rw[aqZ];simp only[adm];have hq:(W z [] [] hr un (m::ms) h k).q? [113]=some ⟨m::ms,h,0,[]⟩:=rfl
 have hg:(W z [] [] hr un (m::ms) h k).tag z.i 1=t:=by
  have:(W z [] [] hr un (m::ms) h k).tag z.i 1=hr.tag.toNat:=by cases z<;>rfl
  rw[this,ht];rfl
 have e2:(hr.tag+1).toNat=t+1:=by rw[ht];rfl
 have e3:hr.tag+1=(t+1:Int):=by rw[ht]
 simp only[hq,hg]
 have eo:bK 1 60 71 [.mM (t+1),.flag m.again,.text m.key,.long ms.length]=xE (t+1) m.again ms.length:=by rw[hk];unfold bK xE fy;simp[dg,eI]
 rw[eo,<-e3,<-e2]
 cases z<;>rfl
end
end Go.Qw
