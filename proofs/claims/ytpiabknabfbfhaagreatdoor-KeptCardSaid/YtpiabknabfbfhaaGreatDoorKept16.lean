/- 16 -/
import Derived.Test.YtpiabknabfbfhaaGreatDoorKept15
set_option linter.all false
set_option maxRecDepth 100000
set_option maxHeartbeats 8000000
namespace Go.Qw
open Go.Proofs.Tryz
variable {s r:List UInt8}
def alg{k:Nat}(h:fp 1 s=some (k,r)):k<=255:=by
 unfold fp at h;split at h
 ·rename_i hl;injection h with h;injection h with h1 h2
  cases s with
  |nil=>simp at hl
  |cons a s=>subst h1;simp[num];have:=a.toNat_lt;omega
 ·cases h
def MA{a:List UInt8}(h:jE s=some (a,r)):a.length<=255:=by
 unfold jE at h;obtain⟨⟨k,t⟩,h1,h2⟩:=Option.bind_eq_some_iff.1 h;have:=alg h1;unfold yn at h2;split at h2
 ·injection h2 with h2;injection h2 with h3 h4;subst h3;rw[List.length_take];omega
 ·cases h2
section
variable {n:N}{n':N}{T:Int}{T':Int}{K:Nat}{K':Nat}{ex:List Int}{gf:List Int}{aK:Int}{no:Nat}{c:CN}{h:HN}{nm:List UInt8}{q:QN}{k:Int}{x:XN}{m:aR}{l:List Int}
variable {id:Int}
def jR (T:Int)(K:Nat)(id:Int):HO->Prop
 | .bad _ _=>True
 | .ok n er=>Ok T K [id] n/\(n.ar id).isSome/\(Ok T K [] n\/∃e cl me,er=.cL e cl me/\n.ph id≠4)
def jR.of {er:Er}(o:Ok T K [] n)(hi:(n.ar id).isSome):jR T K id (.ok n er):=⟨o.Qj al,hi,.inl o⟩
def jR.same {er:Er}(o:Ok T K [] n)(hi:(n.ar id).isSome)(hT:T<=T')(hK:K<=K'):jR T' K' id (.ok n er):=.of (o.mono hT hK) hi
def oC {s:List UInt8}(h:(n.ar aK).isSome):((n.send id s).ar aK).isSome:=by rw[sO];split<;>simpa using h
def zI {f:CR->CR}(h:(n.ar aK).isSome):((n.bE id f).ar aK).isSome:=by rw[qH];split<;>simpa using h
def Ed {f:HR->HR}(h:(n.ar aK).isSome):((n.cN id no f).ar aK).isSome:=by rw[Jl];split<;>simpa using h
def Hm {f:CN->CN}(h:(n.ar aK).isSome):((n.dM id f).ar aK).isSome:=by rw[qG];split<;>simpa using h
def Ec (h:(n.ar aK).isSome)(e:n'.rC aK=n.rC aK):(n'.ar aK).isSome:=by
 unfold N.rC at e
 cases h1:n'.ar aK with
 |some _=>rfl
 |none=>rw[h1]at e;obtain⟨c,hc⟩:=Option.isSome_iff_exists.1 h;rw[hc]at e;cases e
def Lz (h:(n.ar aK).isSome):((n.pS id no).ar aK).isSome:=Hm (Ec h BX)
def SU (h:(n.ar aK).isSome):((n.leave id).ar aK).isSome:=by
 unfold N.leave;split
 ·exact h
 ·exact Hm (Ec h EV)
def UC {p:Nat->Bool}{b:Bool}{l:List (Nat×(List UInt8×aR))}:(n.iO id no p b l).rC aK=n.rC aK:=by
 unfold N.iO
 induction l generalizing n with
 |nil=>rfl
 |cons e l ih=>
  rw[List.foldl_cons,ih];split
  ·exact UB
  ·rfl
def aie {p:Nat->Bool}{b:Bool}{l:List (Nat×(List UInt8×aR))}(h:(n.ar aK).isSome):((n.iO id no p b l).ar aK).isSome:=Ec h UC
def aia {s:List UInt8}(h:(n.ar aK).isSome):((n.give id no m s).ar aK).isSome:=oC (oC h)
def aid {key body:List UInt8}(h:(n.ar aK).isSome):((n.jO key body).1.ar aK).isSome:=by
 unfold N.jO;split
 ·exact h
 ·split
  ·exact h
  ·exact h
def Ok.send' (o:Ok T K ex n){s:List UInt8}(hs:s.length<=1000):Ok T (K+1000) ex (n.send id s):=o.send.mono (Int.le_refl _) aa
def alF (o:Ok T K [] n)(hi:(n.ar id).isSome){s:List UInt8}{cl me:Nat}:jR (T+1) (K+101000) id (n.declare id no s cl me):=by
 unfold N.declare;split
 ·rename_i nm hp;have hl:=MA hp;split
  ·refine .same (o.send' ?_) (oC hi) aa aa;rw[ng];simp only[rE,mX,vC,AF];omega
  ·rename_i hq;split
   ·exact .same o hi aa aa
   ·split
    ·exact .same o hi aa aa
    ·rename_i h8;have o1:=o.tD hq (by have:=o.lq;omega) o.cfg.ans;refine .same (o1.send' (id:=id) (s:=ck no 50 11 [.text nm,.long 0,.long 0]) ?_) (oC (n:={n with aN:=cZ cP n.aN nm ⟨[],0,0,[]⟩}) hi) aa aa;rw[ng];simp only[rE,mX,vC,AF];omega
 ·trivial
def alO (o:Ok T K [] n)(hi:(n.ar id).isSome){s:List UInt8}{cl me:Nat}:jR (T+1) (K+101000) id (n.pD id no s cl me):=by
 unfold N.pD;split
 ·rename_i nm hp;split
  ·rename_i q hq;have o1:Ok T K [] (n.bK nm λq=>{q with ready:=[]}):=o.bK λq _=>⟨List.nil_sublist _,rfl,rfl⟩;refine .same (o1.send' ?_) (oC (by rw[yW];exact hi)) aa aa;rw[ng];simp only[rE,mX,AF];omega
  ·exact .same o hi aa aa
 ·trivial
def alP (o:Ok T K [] n)(hh:n.h? id no=some h){s:List UInt8}{cl me:Nat}:jR (T+1) (K+101000) id (n.sB id no s cl me):=by
 have hi:=aew hh;unfold N.sB;split
 ·rename_i k hp;have oh:=o.h _ _ _ hh;have o1:Ok T K [] (n.cN id no λr=>{r with mo:=k}):=o.cN hh {oh with} (Int.le_refl _) (λh1 h2=>o.part _ _ h hh h1 h2) (λ_ h=>h);refine .same (o1.send' ?_) (oC (Ed hi)) aa aa;rw[ng];simp only[mX];omega
 ·trivial
where aew {n:N} {id:Int} {no:Nat} {h:HN} (hh:n.h? id no=some h):(n.ar id).isSome:=by obtain⟨c,hc⟩:=xD hh;rw[hc];rfl
def uM (hh:n.h? id no=some h):(n.ar id).isSome:=by obtain⟨c,hc⟩:=xD hh;rw[hc];rfl
def alD (o:Ok T K [] n)(hh:n.h? id no=some h){s:List UInt8}{cl me:Nat}:jR (T+1) (K+101000) id (n.consume id no h s cl me):=by
 have hi:=uM hh;unfold N.consume;split
 ·rename_i nm s1 _;split
  ·rename_i tg s2 _;split
   ·rename_i na _;split
    ·exact .same o hi aa aa
    ·rename_i Bs;split
     ·exact .same o hi aa aa
     ·rename_i q hq;split
      ·exact .same o hi aa aa
      ·rename_i uv;split
       ·exact .same o hi aa aa
       ·rename_i h4
        have ht:bq h.co tg=none:=by cases h:bq h.co tg with
         |none=>rfl
         |some _=>rw[h]at uv;simp at uv
        have o1:=o.kP (na:=na) hh hq ht (by have:=(o.h _ _ _ hh).tA;omega) aa;refine .same (o1.send' (id:=id) (s:=ck no 60 21 [.text tg]) ?_) (oC ?_) aa aa
        ·rw[ng];simp only[rE,mX,vC];omega
        ·exact Hm (show(N.ar (N.bK {n with bj:=n.bj+1,xs:=n.xs++[(n.bj+1,⟨id,no,tg,nm,na⟩)]} nm λq=>{q with cons:=q.cons++[n.bj+1]}) id).isSome from hi)
   ·trivial
  ·trivial
 ·trivial
def alB (o:Ok T K [] n)(hh:n.h? id no=some h){s:List UInt8}{cl me:Nat}:jR (T+1) (K+101000) id (n.qF id no h s cl me):=by
 have hi:=uM hh;unfold N.qF;split
 ·rename_i tg hp;have hl:=MA hp
  have o1:Ok T K [] (n.rz id no h tg)/\((n.rz id no h tg).ar id).isSome:=by
   unfold N.rz
   cases hk:bq h.co tg with
   |none=>exact⟨o,hi⟩
   |some k=>
    simp only[];rw[Pl o.qx];refine⟨o.rz hh [k] (f:=λh=>{h with co:=cB h.co tg}) (λ_=>⟨rfl,rfl⟩) ?_ ?_,?_⟩
    ·show cB h.co tg=_;unfold cB;apply List.filter_congr;intro e he;obtain⟨x,hx,_,_,ht⟩:=o.w.co _ _ _ hh e he;obtain⟨y,hy,_,_,G7⟩:=o.w.co _ _ _ hh _ (jb hk);rw[decide_eq_decide];simp only[ne_eq,List.mem_singleton];constructor
     ·intro h1 h2;rw[h2]at hx;simp only at hy;rw[hx]at hy;cases hy;exact h1 (by rw[<-ht,G7])
     ·intro h1 h2;have:=oF (o.h _ _ _ hh).cn he;rw[h2,hk]at this
      cases this;exact h1 rfl
    ·intro j hj;simp only[List.mem_singleton]at hj;subst hj;exact List.mem_map_of_mem (f:=(·.2)) (jb hk)
    ·rw[vJ];split
     ·simpa using hi
     ·exact hi
  refine .same (o1.1.send' ?_) (oC o1.2) aa aa;rw[ng];simp only[rE,mX,vC];omega
 ·trivial
def alN (o:Ok T K [] n)(hh:n.h? id no=some h){s:List UInt8}{cl me:Nat}:jR (T+1) (K+101000) id (n.sA id no s cl me):=by
 have hi:=uM hh;unfold N.sA;split
 ·rename_i key hp;have oh:=o.h _ _ _ hh;exact .same (o.cN (T':=T) (gf:=[]) hh {oh with want:=⟨al,al⟩,key:=MA hp} (Int.le_refl _) (λ_ h2=>by simp at h2) (λ_ h=>h)) (Ed hi) aa aa
 ·trivial
def alH (o:Ok T K [] n)(hh:n.h? id no=some h){s:List UInt8}{cl me:Nat}:jR (T+1) (K+101000) id (n.get id no s cl me):=by
 have hi:=uM hh;unfold N.get;split
 ·rename_i nm s1 _;split
  ·rename_i na _;split
   ·exact .same o hi aa aa
   ·rename_i q hq;split
    ·refine .same (o.send' ?_) (oC hi) aa aa;rw[ng];simp only[mX];omega
    ·rename_i m ms hr;have hm:=(o.q _ _ hq).msg m (by rw[hr];simp);have o1:=o.hand (na:=na) (g:=λq=>{q with ready:=q.ready.tail}) hh hq hr ⟨by simp only[hr,List.tail_cons],rfl,rfl⟩;have mG:(N.ar (N.hand (n.bK nm λq=>{q with ready:=q.ready.tail}) id no nm m na) id).isSome:=SR (by rw[yW];exact hi);refine .same (o1.give hm ?_ mG) (aia mG) aa aa;rw[ng];simp only[rE,mX,Oz,Oy,vC,AF];have:=hm.key;omega
  ·trivial
 ·trivial
def alQ (o:Ok T K [] n)(hh:n.h? id no=some h){s:List UInt8}{cl me:Nat}:jR (T+1) (K+101000) id (n.settled id no h s cl me):=by
 have hi:=uM hh;unfold N.settled;split
 ·split
  ·split
   ·split
    ·exact .same o.iO (aie hi) aa aa
    ·exact .same o hi aa aa
   ·trivial
  ·trivial
 ·trivial
def alC (o:Ok T K [] n)(hi:(n.ar id).isSome){s:List UInt8}{cl me:Nat}:jR (T+1) (K+101000) id (n.close id no s cl me):=by
 unfold N.close;split
 ·refine .same (o.send' ?_).pS (Lz (oC hi)) aa aa;rw[ng];simp only[mX];omega
 ·trivial
def alK (o:Ok T K [] n)(hh:n.h? id no=some h){s:List UInt8}{cl me:Nat}:jR (T+1) (K+101000) id (n.method id no h s cl me):=by
 have hi:=uM hh;unfold N.method;split
 ·exact .same o hi aa aa
 split
 ·exact alC o hi
 split
 ·exact alF o hi
 split
 ·exact alO o hi
 split
 ·exact alP o hh
 split
 ·exact alD o hh
 split
 ·exact alB o hh
 split
 ·exact alN o hh
 split
 ·exact alH o hh
 split
 ·exact alQ o hh
 split
 ·exact .same o hi aa aa
 ·exact .same o hi aa aa
def Ud (o:Ok T K [] n)(hh:n.h? id no=some h){r:HR}(hr:r.mo=h.r.mo/\r.tag=h.r.tag/\r.key=h.r.key)(hw:r.want=3)(hb:(r.body.length:Int)<=r.size)(hs:r.size<=10000):jR (T+1) (K+101000) id (n.whole id no r):=by
 have hi:=uM hh;have oh:=o.h _ _ _ hh;obtain⟨r1,r2,r3⟩:=hr;unfold N.whole;split
 ·exact .same (o.cN (T':=T) (gf:=[]) hh ⟨oh.un,by simp only[r2];exact oh.ut,by simp only[r2];exact oh.tag,oh.co,oh.cn,oh.tA,by simp only[hw];omega,by simp only;omega,hs,by simp only[r3];exact oh.key,oh.msg⟩ (Int.le_refl _) (λ_ _=>hb) (λ_ h=>h)) (Ed hi) aa aa
 ·have o1:Ok T K [] (n.cN id no λ_=>{r with want:=1}):=o.cN (T':=T) (gf:=[]) hh ⟨oh.un,by simp only[r2];exact oh.ut,by simp only[r2];exact oh.tag,oh.co,oh.cn,oh.tA,al,by simp only;omega,hs,by simp only[r3];exact oh.key,oh.msg⟩ (Int.le_refl _) (λ_ h2=>by simp at h2) (λ_ h=>h);exact .same (o1.jO (key:=r.key) (body:=r.body) (by rw[r3];exact oh.key) aa) (aid (Ed hi)) aa aa
def alJ (o:Ok T K [] n)(hh:n.h? id no=some h){s:List UInt8}:jR (T+1) (K+101000) id (n.header id no h.r s):=by
 have hi:=uM hh;unfold N.header;split
 ·split
  ·split
   ·split
    ·rename_i low _;split
     ·exact .same o hi aa aa
     ·split
      ·exact .same o hi aa aa
      ·rename_i hn;have:=o.cfg.body;exact Ud o hh ⟨rfl,rfl,rfl⟩ rfl al (by simp only;omega)
    ·trivial
   ·trivial
  ·trivial
 ·trivial
def ams {f:HR->HR}:(n.cN id no f).ph aK=n.ph aK:=by
 unfold N.ph;rw[Jl];split
 ·cases n.ar aK<;>rfl
 ·rfl
def alM (o:Ok T K [] n)(hh:n.h? id no=some h){s:List UInt8}(hw:h.r.want=3)(hs:s.length<=5000)(hp:n.ph id≠4):jR (T+1) (K+101000) id (n.part id no h.r s):=by
 have hi:=uM hh;have oh:=o.h _ _ _ hh;have hb:=o.part _ _ _ hh al hw;have h2:=oh.size;unfold N.part;split
 ·refine⟨?_,Ed hi,.inr ⟨502,60,40,rfl,by rw[ams];exact hp⟩⟩;exact(o.cN (T':=T) (gf:=[id]) hh {oh with body:=by simp only[List.length_append];omega} (Int.le_refl _) (λh=>absurd al h) (λ_ h=>by cases h)).mono aa aa
 ·exact Ud o hh ⟨rfl,rfl,rfl⟩ hw (by simp only;omega) h2
def alG (o:Ok T K [] n)(hh:n.h? id no=some h){kind:Int}{s:List UInt8}{cl me:Nat}(hs:s.length<=5000)(hp:n.ph id≠4):jR (T+1) (K+101000) id (n.jv id no h kind s cl me):=by
 have hi:=uM hh;unfold N.jv;split
 ·split
  ·refine .same (o.send' ?_).pS (Lz (oC hi)) aa aa;rw[ng];simp only[mX];omega
  ·split
   ·exact .same o.pS (Lz hi) aa aa
   ·exact .same o hi aa aa
 ·split
  ·exact .same o hi aa aa
  ·rename_i hk;split
   ·exact alJ o hh
   ·split
    ·exact alM o hh aa hs hp
    ·exact alK o hh
def alL (o:Ok T K [] n)(hc:n.ar id=some c){kind:Int}{s:List UInt8}{cl me:Nat}(hs:s.length<=5000)(hp:n.ph id≠4)(h1:1<=no):jR (T+1) (K+101000) id (n.kY id c no kind s cl me):=by
 have hi:(n.ar id).isSome:=by rw[hc];rfl
 unfold N.kY;split
 ·exact .same o hi aa aa
 ·rename_i hm;split
  ·rename_i h dO;have hh:n.h? id no=some h:=by unfold N.h?;rw[hc];exact dO
   exact alG o hh hs hp
  ·rename_i hn;split
   ·split
    ·have:=(o.c _ _ hc).r.de;have o1:=o.akw hc hn ⟨h1,aa⟩;refine .same (o1.send' ?_) (oC (Hm hi)) aa aa;rw[ng];simp only[rE,mX,AF];omega
    ·trivial
   ·exact .same o hi aa aa
def alE (o:Ok T K [] n)(hi:(n.ar id).isSome){kind:Int}{s:List UInt8}{cl me:Nat}:jR (T+1) (K+101000) id (n.control id kind s cl me):=by
 unfold N.control;split
 ·split
  ·have o1:=(o.leave (id:=id) (gf:=[]) (λ_ h=>by cases h) hi).send' (id:=id) (s:=ck 0 10 51 []) (by rw[ng];simp only[mX];omega);exact .same (o1.bE (id:=id) (K':=K+1000) (Nat.le_refl _) λc hc=>⟨(o1.c _ _ hc).r.out,(o1.c _ _ hc).r.frame,(o1.c _ _ hc).r.de⟩) (zI (oC (SU hi))) aa aa
  ·trivial
 ·exact .same o hi aa aa
def alA (o:Ok T K [] n)(hc:n.ar id=some c){ch kind:Int}{s:List UInt8}{cl me:Nat}:jR (T+1) (K+101000) id (n.begin id c ch kind s cl me):=by
 have hi:(n.ar id).isSome:=by rw[hc];rfl
 have g:=o.cfg;unfold N.begin;by_cases hA:¬(kind=1/\cl=10/\me=(if c.r.ph=1 then 31 else 40))\/ch≠0
 ·rw[if_pos hA];exact .same o hi aa aa
 ·rw[if_neg hA];split
  ·split
   ·have o1:Ok T K [] (n.bE id λr=>{r with ph:=3}):=o.bE (Nat.le_refl _) λc hc=>⟨(o.c _ _ hc).r.out,(o.c _ _ hc).r.frame,(o.c _ _ hc).r.de⟩;refine .same (o1.send' ?_) (oC (zI hi)) aa aa;rw[ng];simp only[rE,mX,vC,List.length_nil];omega
   ·trivial
  ·split
   ·split
    ·split
     ·split
      ·exact .same o hi aa aa
      ·rename_i hn;have g1:=g.jr;have g2:=g.frame;exact .same (o.bE (K':=K) (Nat.le_refl _) λc hc=>⟨(o.c _ _ hc).r.out,by simp only;omega,by simp only;omega⟩) (zI hi) aa aa
     ·trivial
    ·trivial
   ·trivial
def Ub (o:Ok T K [] n)(hc:n.ar id=some c){ch kind:Int}{s:List UInt8}{cl me:Nat}(hs:s.length<=5000)(dO:0<=ch):jR (T+1) (K+101000) id (n.iT id c ch kind s cl me):=by
 have hi:(n.ar id).isSome:=by rw[hc];rfl
 have qh:n.ph id=c.r.ph:=by unfold N.ph;rw[hc];rfl
 unfold N.iT;split
 ·exact alA o hc
 ·split
  ·rename_i h3;split
   ·exact alE o hi
   ·exact alL o hc hs (by rw[qh];omega) aa
  ·split
   ·exact .same (o.bE (K':=K) (Nat.le_refl _) λc hc=>⟨(o.c _ _ hc).r.out,(o.c _ _ hc).r.frame,(o.c _ _ hc).r.de⟩) (zI hi) aa aa
   ·exact .same o hi aa aa
def Ui {w k:Nat}{s r:List UInt8}(h:fp w s=some (k,r)):r.length<=s.length:=by
 unfold fp at h;split at h
 ·injection h with h;injection h with h1 h2;subst h2;rw[List.length_drop];omega
 ·cases h
def Uc (o:Ok T K [] n)(hc:n.ar id=some c){u:Un}(hs:u.jh.length<=5000)(dO:0<=u.channel):jR (T+1) (K+101000) id (n.fF id c u):=by
 have hi:(n.ar id).isSome:=by rw[hc];rfl
 unfold N.fF;split
 ·split
  ·rename_i h1;split
   ·rename_i h2;exact Ub o hc (by have:=Ui h1;have:=Ui h2;omega) dO
   ·exact .same o hi aa aa
  ·exact .same o hi aa aa
 ·exact Ub o hc hs dO
def AE {α β:Type}[DecidableEq α]{l:List (α×β)}{k:α}{f:β->β}(h:∀e∈l,e.1=k->f e.2=e.2):dD l k f=l:=by
 unfold dD
 have:(l.map λe=>if e.1=k then(e.1,f e.2)else e)=l.map λe=>e:=List.map_congr_left λa ha=>by
  split
  ·rename_i e;rw[h a ha e]
  ·rfl
 rw[this,List.map_id']
def aqM (o:Ok T K ex n)(hn:n.h? id no=none){f:HR->HR}:n.cN id no f=n:=by
 unfold N.cN N.bC N.dM
 have:dD n.aF id (λc=>{c with ch:=dD c.ch no λh=>{h with r:=f h.r}})=n.aF:=AE λe he hx=>by
  have hc:n.ar id=some e.2:=by rw[<-hx];exact oF o.nc he
  unfold N.h? at hn;rw[hc]at hn;have:dD e.2.ch no (λh=>{h with r:=f h.r})=e.2.ch:=AE λa ha hy=>absurd hy (jc hn a ha);rw[this]
 rw[this]
def Ok.soft (o:Ok T K ex n){e cl me:Nat}:Ok T (K+1000) ex (n.soft id no e cl me):=by
 unfold N.soft
 have o1:Ok T K ex ((n.release id no).cN id no λr=>{r with closing:=true}):=by
  have o1:=o.release (id:=id) (no:=no)
  cases hh:(n.release id no).h? id no with
  |none=>rw[aqM o1 hh];exact o1
  |some h=>exact o1.cN hh {o1.h _ _ _ hh with} (Int.le_refl _) (λh1 h2=>o1.part _ _ h hh h1 h2) (λ_ h=>h)
 refine o1.send' ?_;rw[ng];simp only[qL,rE,mX,vC,I7,List.length_nil];omega
def Ok.cL (o:Ok T K ex n){e cl me:Nat}(hx:∀i∈ex,i∈gf\/i=id)(hi:(n.ar id).isSome):Ok T (K+1000) gf (n.cL id e cl me):=by unfold N.cL;have o1:=o.leave hx hi;have o2:Ok T K gf ((n.leave id).bE id λr=>{r with ph:=4}):=o1.bE (Nat.le_refl _) λc hc=>⟨(o1.c _ _ hc).r.out,(o1.c _ _ hc).r.frame,(o1.c _ _ hc).r.de⟩;refine o2.send' ?_;rw[ng];simp only[qL,rE,mX,vC,I7,List.length_nil];omega
def Ok.kz (o:Ok T K [] n){u:Un}(hs:u.jh.length<=5000)(dO:0<=u.channel):Ok (T+1) (K+102000) [] (n.kz id u):=by
 unfold N.kz
 cases hc:n.ar id with
 |none=>exact o.mono aa aa
 |some c=>
  simp only[];have h1:=Uc o hc hs dO;have hi:(n.ar id).isSome:=by rw[hc];rfl
  cases hr:n.fF id c u with
  |bad cl me=>
   show Ok _ _ _ (n.fault id u.channel (.cL 502 cl me));unfold N.fault;simp only[];split
   ·exact o.mono aa aa
   ·exact(o.cL (gf:=[]) (λ_ h=>by cases h) hi).mono aa aa
  |ok n' er=>
   rw[hr]at h1;obtain⟨h2,h3,h4⟩:=h1;show Ok _ _ _ (n'.fault id u.channel er);rcases h4 with h4|⟨e,cl,me,rfl,h5⟩
   ·unfold N.fault;split
    ·exact h4.mono aa aa
    ·split
     ·exact h4.mono aa aa
     ·exact h4.soft.mono aa aa
    ·split
     ·exact h4.mono aa aa
     ·exact(h4.cL (gf:=[]) (λ_ h=>by cases h) h3).mono aa aa
   ·unfold N.fault;simp only[];rw[if_neg h5];exact(h2.cL (gf:=[]) (λi hi=>.inr (aY hi)) h3).mono aa aa
def Ok.unit (o:Ok T K [] n){u:Un}(hs:u.jh.length<=5000)(dO:0<=u.channel)(hi:(n.ar id).isSome):Ok (T+1) (K+102000) [] (n.unit id u):=by
 have up:∀{n:N} {K:Nat} {v:Int},Ok T K [] n->Ok T K [] (n.bE id λr=>{r with ph:=v}):=λo=>o.bE (Nat.le_refl _) λc hc=>⟨(o.c _ _ hc).r.out,(o.c _ _ hc).r.frame,(o.c _ _ hc).r.de⟩;unfold N.unit;split
 ·split
  ·exact(up (o.send' (by simp[pT]))).mono aa aa
  ·refine((up o).send' ?_).mono aa aa;rw[ng];simp only[rE,mX,I7,AF];omega
 ·split
  ·split
   ·exact(up o).mono aa aa
   ·exact(up (o.cL (gf:=[]) (λ_ h=>by cases h) hi)).mono aa aa
  ·split
   ·exact o.mono aa aa
   ·exact o.kz hs dO
end
section
variable {n:N}{n':N}{no:Nat}{c:CN}{h:HN}{nm:List UInt8}{k:Int}{m:aR}{l:List Int}{β:Type}{F:CR->β}{Ty:N}
def Kp (F:CR->β)(n n':N):Prop:=∀i,(n'.rC i).map F=(n.rC i).map F
variable {id:Int}
def Kp.refl (n:N):Kp F n n:=λ_=>rfl
def Kp.trans (a:Kp F n n')(b:Kp F n' Ty):Kp F n Ty:=λi=>(b i).trans (a i)
def Kp.rC (h:∀i,n'.rC i=n.rC i):Kp F n n':=λi=>by rw[h]
def Kp.bE {f:CR->CR}(hf:∀r,F (f r)=F r):Kp F n (n.bE id f):=λi=>by
 unfold N.rC;rw[qH];split
 ·cases n.ar i with
  |none=>rfl
  |some c=>simp only[Option.map_some,hf]
 ·rfl
def Kp.send (hF:∀(r:CR) o s,F {r with out:=o,iu:=s}=F r){s:List UInt8}:Kp F n (n.send id s):=Kp.bE λr=>hF r _ _
def HQ {f:QN->QN}{i:Int}:(n.bK nm f).rC i=n.rC i:=rfl
def MH {f:CN->CN}(hf:∀c,(f c).r=c.r){i:Int}:(n.dM id f).rC i=n.rC i:=by
 unfold N.rC;rw[qG];split
 ·cases n.ar i with
  |none=>rfl
  |some c=>simp only[Option.map_some,hf]
 ·rfl
def UA {na:Bool}{i:Int}:(n.hand id no nm m na).rC i=n.rC i:=by
 unfold N.hand;split
 ·exact rj
 ·exact HQ.trans rj
def Kp.give (hF:∀(r:CR) o s,F {r with out:=o,iu:=s}=F r){s:List UInt8}:Kp F n (n.give id no m s):=(Kp.send hF).trans (Kp.send hF)
def Kp.take (hF:∀(r:CR) o s,F {r with out:=o,iu:=s}=F r):Kp F n (n.take k m):=by
 unfold N.take;split
 ·exact .refl _
 ·exact(Kp.rC λ_=>UA).trans (Kp.give hF)
def Kp.ja (hF:∀(r:CR) o s,F {r with out:=o,iu:=s}=F r)(hs:n.ja nm=some n'):Kp F n n':=by
 unfold N.ja at hs;split at hs
 ·cases hs
 ·split at hs
  ·cases hs
  ·split at hs
   ·cases hs
   ·cases hs;exact(Kp.rC λ_=>HQ).trans (Kp.take hF)
def Kp.kM (hF:∀(r:CR) o s,F {r with out:=o,iu:=s}=F r){f:Nat}:Kp F n (n.kM f nm):=by
 induction f generalizing n with
 |zero=>exact .refl _
 |succ f ih=>
  unfold N.kM
  cases h:n.ja nm with
  |none=>exact .refl _
  |some n'=>exact(Kp.ja hF h).trans ih
def Kp.serve (hF:∀(r:CR) o s,F {r with out:=o,iu:=s}=F r):Kp F n n.serve:=by
 unfold N.serve;generalize n.aN.map (·.1)=l
 induction l generalizing n with
 |nil=>exact .refl _
 |cons a l ih=>rw[List.foldl_cons];exact(Kp.kM hF).trans ih
def HP {i:Int}:(n.leave id).rC i=n.rC i:=by
 unfold N.leave;split
 ·rfl
 ·rename_i c _;exact(MH (n:=n.gZ id c.ch) (f:=λc=>{c with ch:=[]}) λ_=>rfl).trans EV
def MG {i:Int}:(n.pS id no).rC i=n.rC i:=(MH (n:=n.release id no) (f:=λc=>{c with ch:=cB c.ch no}) λ_=>rfl).trans BX
def Kp.soft (hF:∀(r:CR) o s,F {r with out:=o,iu:=s}=F r){e cl me:Nat}:Kp F n (n.soft id no e cl me):=
 ((Kp.rC λ_=>(rj).trans BX).trans (Kp.send hF):Kp F n (((n.release id no).bC id no _).send id _))
structure vw (F:CR->β):Prop where
 out:∀(r:CR) o s,F {r with out:=o,iu:=s}=F r
 ph:∀(r:CR) p,F {r with ph:=p}=F r
 aqq:∀(r:CR) a b c p,F {r with de:=a,frame:=b,gG:=c,ph:=p}=F r
def Kp.cL (hF:vw F){e cl me:Nat}:Kp F n (n.cL id e cl me):=((Kp.rC λ_=>HP).trans (Kp.bE λr=>hF.ph r _)).trans (Kp.send hF.out)
def yH (F:CR->β)(n:N):HO->Prop
 | .bad _ _=>True
 | .ok n' _=>Kp F n n'
def yH.same {er:Er}:yH F n (.ok n er):=Kp.refl n
def anx {key body:List UInt8}{i:Int}:(n.jO key body).1.rC i=n.rC i:=by
 unfold N.jO;split
 ·rfl
 ·split
  ·rfl
  ·rfl
def anA {tg:List UInt8}{i:Int}:(n.rz id no h tg).rC i=n.rC i:=by
 unfold N.rz;split
 ·exact rj.trans anw
 ·rfl
def S4 {r:HR}:yH F n (n.whole id no r):=by
 unfold N.whole;split
 ·exact Kp.rC λ_=>rj
 ·exact Kp.rC λ_=>anx.trans rj
def ai3 (hF:vw F){s:List UInt8}{cl me:Nat}:yH F n (n.method id no h s cl me):=by
 unfold N.method;split
 ·exact .same
 split
 ·unfold N.close;split
  ·exact(Kp.send hF.out).trans (Kp.rC λ_=>MG)
  ·trivial
 split
 ·unfold N.declare;split
  ·rename_i nm _;split
   ·exact Kp.send hF.out
   ·split
    ·exact .same
    ·split
     ·exact .same
     ·exact(Kp.rC (n':={n with aN:=cZ cP n.aN nm ⟨[],0,0,[]⟩}) λ_=>rfl).trans (Kp.send hF.out)
  ·trivial
 split
 ·unfold N.pD;split
  ·split
   ·exact(Kp.rC λ_=>HQ).trans (Kp.send hF.out)
   ·exact .same
  ·trivial
 split
 ·unfold N.sB;split
  ·exact(Kp.rC λ_=>rj).trans (Kp.send hF.out)
  ·trivial
 split
 ·unfold N.consume;split
  ·split
   ·split
    ·split
     ·exact .same
     ·split
      ·exact .same
      ·split
       ·exact .same
       ·split
        ·exact .same
        ·refine Kp.trans (Kp.rC λi=>?_) (Kp.send hF.out);unfold N.kP;exact rj
    ·trivial
   ·trivial
  ·trivial
 split
 ·unfold N.qF;split
  ·exact(Kp.rC λ_=>anA).trans (Kp.send hF.out)
  ·trivial
 split
 ·unfold N.sA;split
  ·exact Kp.rC λ_=>rj
  ·trivial
 split
 ·unfold N.get;split
  ·split
   ·split
    ·exact .same
    ·split
     ·exact Kp.send hF.out
     ·exact(Kp.rC λ_=>UA.trans HQ).trans (Kp.give hF.out)
   ·trivial
  ·trivial
 split
 ·unfold N.settled;split
  ·split
   ·split
    ·split
     ·exact Kp.rC λ_=>UC
     ·exact .same
    ·trivial
   ·trivial
  ·trivial
 split
 ·exact .same
 ·exact .same
def ai1 (hF:vw F){kind:Int}{s:List UInt8}{cl me:Nat}:yH F n (n.jv id no h kind s cl me):=by
 unfold N.jv;split
 ·split
  ·exact(Kp.send hF.out).trans (Kp.rC λ_=>MG)
  ·split
   ·exact Kp.rC λ_=>MG
   ·exact .same
 ·split
  ·exact .same
  ·split
   ·unfold N.header;split
    ·split
     ·split
      ·split
       ·split
        ·exact .same
        ·split
         ·exact .same
         ·exact S4
       ·trivial
      ·trivial
     ·trivial
    ·trivial
   ·split
    ·unfold N.part;split
     ·exact Kp.rC λ_=>rj
     ·exact S4
    ·exact ai3 hF
def S3 (hF:vw F){ch kind:Int}{s:List UInt8}{cl me:Nat}:yH F n (n.iT id c ch kind s cl me):=by
 unfold N.iT;split
 ·unfold N.begin;by_cases hA:¬(kind=1/\cl=10/\me=(if c.r.ph=1 then 31 else 40))\/ch≠0
  ·rw[if_pos hA];exact .same
  ·rw[if_neg hA];split
   ·split
    ·exact(Kp.bE λr=>hF.ph r _).trans (Kp.send hF.out)
    ·trivial
   ·split
    ·split
     ·split
      ·split
       ·exact .same
       ·exact Kp.bE λr=>hF.aqq r _ _ _ _
      ·trivial
     ·trivial
    ·trivial
 ·split
  ·split
   ·unfold N.control;split
    ·split
     ·exact((Kp.rC λ_=>HP).trans (Kp.send hF.out)).trans (Kp.bE λr=>hF.ph r _)
     ·trivial
    ·exact .same
   ·unfold N.kY;split
    ·exact .same
    ·split
     ·exact ai1 hF
     ·split
      ·split
       ·exact(Kp.rC λ_=>MH (f:=λc=>{c with ch:=cZ lM c.ch ch.toNat ⟨gN,[],[]⟩}) λ_=>rfl).trans (Kp.send hF.out)
       ·trivial
      ·exact .same
  ·split
   ·exact Kp.bE λr=>hF.ph r _
   ·exact .same
def ai2 (hF:vw F){u:Un}:yH F n (n.fF id c u):=by
 unfold N.fF;split
 ·split
  ·split
   ·exact S3 hF
   ·exact .same
  ·exact .same
 ·exact S3 hF
def Kp.fault (hF:vw F){no:Int}{er:Er}:Kp F n (n.fault id no er):=by
 unfold N.fault;split
 ·exact .refl _
 ·split
  ·exact .refl _
  ·exact Kp.soft hF.out
 ·split
  ·exact .refl _
  ·exact Kp.cL hF
def Kp.kz (hF:vw F){u:Un}:Kp F n (n.kz id u):=by
 unfold N.kz
 cases hc:n.ar id with
 |none=>exact .refl _
 |some c=>
  simp only[];have h1:=ai2 (n:=n) (id:=id) (c:=c) (u:=u) hF
  cases hr:n.fF id c u with
  |bad cl me=>exact Kp.fault hF
  |ok n' er=>rw[hr]at h1;exact Kp.trans h1 (Kp.fault hF)
def Kp.unit (hF:vw F){u:Un}:Kp F n (n.unit id u):=by
 unfold N.unit;split
 ·split
  ·exact(Kp.send hF.out).trans (Kp.bE λr=>hF.ph r _)
  ·exact(Kp.bE λr=>hF.ph r _).trans (Kp.send hF.out)
 ·split
  ·split
   ·exact Kp.bE λr=>hF.ph r _
   ·exact(Kp.cL hF).trans (Kp.bE λr=>hF.ph r _)
  ·split
   ·exact .refl _
   ·exact Kp.kz hF
def Kp.is (a:Kp F n n')(h:(n.ar id).isSome):(n'.ar id).isSome:=by
 have:=a id;unfold N.rC at this
 cases h1:n'.ar id with
 |some _=>rfl
 |none=>rw[h1]at this;obtain⟨c,hc⟩:=Option.isSome_iff_exists.1 h;rw[hc]at this;cases this
def Kp.get (a:Kp F n n'):(n'.ar id).map (λc=>F c.r)=(n.ar id).map λc=>F c.r:=by have:=a id;unfold N.rC at this;simpa[Option.map_map,Function.comp_def]using this
end
def BA:vw CR.rest:=⟨λ_ _ _=>rfl,λ_ _=>rfl,λ_ _ _ _ _=>rfl⟩
variable {n n':N}
def wY{id:Int}(a:Kp CR.rest n n'):n'.rest id=n.rest id:=by unfold N.rest;rw[a.get]
def wV{id:Int}(a:Kp CR.ph n n'):n'.ph id=n.ph id:=by unfold N.ph;rw[a.get]
def ale(l:List UInt8):∀a,l.foldl (λn b=>n*256+b.toNat) a<(a+1)*256^l.length:=by
 induction l with
 |nil=>intro a;simp
 |cons b l ih=>
  intro a;have h1:=ih (a*256+b.toNat);have h2:=b.toNat_lt;rw[List.foldl_cons,List.length_cons,Nat.pow_succ];refine Nat.lt_of_lt_of_le h1 ?_;rw[Nat.mul_comm (256^l.length) 256,<-Nat.mul_assoc];exact Nat.mul_le_mul_right _ aa
def TT{l:List UInt8}{w:Nat}(h:l.length<=w):num l<256^w:=by have:=ale l 0;rw[Nat.zero_add,Nat.one_mul]at this;exact Nat.lt_of_lt_of_le this (Nat.pow_le_pow_right aa h)
structure NQ (s:List UInt8) (v:Un×Bool×List UInt8):Prop where
 pay:v.1.jh.length<=5000
 ch:0<=v.1.channel/\v.1.channel<1000000
 le:v.2.2.length<=s.length
 lt:v.1.idle=false->v.1.gv=false->v.2.2.length<s.length
 idle:v.1.idle=true->v.2.2.length<=4104
def akH(gr:Bool)(s:List UInt8)(size:Int)(hs:size<=4096):NQ s (dK gr s size):=by
 unfold dK;split
 ·simp only[];split
  ·exact⟨al,al,al,by simp[Un.idle],by simp[Un.idle]⟩
  ·split
   ·rename_i h8;exact⟨al,al,al,by simp[Un.idle];omega,by simp[Un.idle]⟩
   ·rename_i h8;exact⟨al,al,al,by simp[Un.idle],by simp[Un.idle];omega⟩
 ·split
  ·rename_i h7;exact⟨al,al,al,by simp[Un.idle],by simp[Un.idle];omega⟩
  ·rename_i h7;have dO:num ((s.drop 1).take 2)<256^2:=TT (by simp;omega);simp only[];generalize hk:num (s.take 1)=kind;generalize hn:num ((s.drop 3).take 4)=n;generalize hw:(if kind=1\/kind=2\/kind=3 then decide ((n:Int)>size-8)else if kind=8 then decide (n>0\/num ((s.drop 1).take 2)≠0)else true:Bool)=gv;have hd:(s.drop 7).length=s.length-7:=List.length_drop
   have hle:gv=false->n<=4088:=by
    intro e;rw[e]at hw;split at hw
    ·simp only[decide_eq_false_iff_not]at hw;omega
    ·split at hw
     ·simp only[decide_eq_false_iff_not]at hw;omega
     ·cases hw
   have afN:gv=false->kind≠0:=by intro e hx;rw[e,hx]at hw;simp at hw
   split
   ·rename_i h1;exact⟨al,al,al,by simp[Un.idle],by simp[Un.idle];have:=hle h1.1;omega⟩
   ·rename_i h1;split
    ·rename_i h2;exact⟨al,by simp only;omega,al,al,by simp[Un.idle]⟩
    ·rename_i h2;have lB:gv=false:=aY h2;have h3:=hle lB;have h4:=afN lB;refine⟨by simp;omega,by simp only;omega,al,by simp;omega,λhi=>?_⟩;simp[Un.idle]at hi;omega
section
variable {n:N}{n':N}{T:Int}{K:Nat}{ex:List Int}{aK:Int}{no:Nat}{c:CN}{h:HN}{nm:List UInt8}{k:Int}{m:aR}{l:List Int}{β:Type}{F:CR->β}
variable {id:Int}
def kle {K a b B:Nat}(h:a<=b)(h2:K+40200000*b+80400000<=B):K+40200000*a+80400000<=B:=aa
def klt {K a b B:Nat}(h:a<b)(h2:K+40200000*b+80400000<=B):K+102000+40000000+40200000*a+80400000<=B:=aa
def N.mu (n:N)(id:Int):Nat:=(n.rest id).length+(if n.ph id=5 then 0 else 1)
structure pK (id:Int) (n:N):Prop where
 ex:∃T K,Ok T K [] n/\T+402*n.mu id+804<=1000000000000/\K+40200000*n.mu id+80400000<=100000000000000
 is:(n.ar id).isSome
 rest:(n.rest id).length<=1000000
def CG (hc:n.ar id=some c):n.cut id=((dK c.r.kA c.r.rest c.r.frame).1,n.bE id λr=>{r with kA:=(dK c.r.kA c.r.rest c.r.frame).2.1,rest:=(dK c.r.kA c.r.rest c.r.frame).2.2}):=by unfold N.cut;rw[hc]
def Ok.cut (o:Ok T K ex n)(hc:n.ar id=some c):Ok T K ex (n.cut id).2:=by rw[CG hc];exact o.bE (f:=λr=>{r with kA:=(dK c.r.kA c.r.rest c.r.frame).2.1,rest:=(dK c.r.kA c.r.rest c.r.frame).2.2}) (Nat.le_refl _) λc hc=>⟨(o.c _ _ hc).r.out,(o.c _ _ hc).r.frame,(o.c _ _ hc).r.de⟩
def Ad (hc:n.ar id=some c):n.rest id=c.r.rest:=by unfold N.rest;rw[hc];rfl
def u9 (hc:n.ar id=some c):n.ph id=c.r.ph:=by unfold N.ph;rw[hc];rfl
def yY (hc:n.ar id=some c):(n.cut id).2.ar id=some {c with r:={c.r with kA:=(dK c.r.kA c.r.rest c.r.frame).2.1,rest:=(dK c.r.kA c.r.rest c.r.frame).2.2}}:=by rw[CG hc];simp only;rw[qH,if_pos rfl,hc];rfl
def CH (o:Ok T K ex n)(hc:n.ar id=some c):NQ (n.rest id) ((n.cut id).1,c.r.kA,(n.cut id).2.rest id):=by have:=akH c.r.kA c.r.rest c.r.frame (o.c _ _ hc).r.frame.2;rw[Ad (yY hc),Ad hc,CG hc];exact⟨this.pay,this.ch,this.le,this.lt,this.idle⟩
def abc (hc:n.ar id=some c):(n.cut id).2.ph id=n.ph id:=by rw[u9 (yY hc),u9 hc]
def pK.abb (F:pK id n)(hi:(n.cut id).1.idle=true):pK id (n.cut id).2/\((n.cut id).2.rest id).length<=4104:=by
 obtain⟨⟨T,K,o,h1,h2⟩,is,hr⟩:=F;obtain⟨c,hc⟩:=Option.isSome_iff_exists.1 is;have k:=CH o hc;have hle:=k.le;simp only at hle;have hm:(n.cut id).2.mu id<=n.mu id:=by unfold N.mu;rw[abc hc];omega
 refine⟨⟨⟨T,K,o.cut hc,?_,?_⟩,?_,?_⟩,k.idle hi⟩
 ·omega
 ·exact kle hm h2
 ·rw[yY hc];rfl
 ·omega
def VH {u:Un}(hw:u.gv=true)(hi:(n.ar id).isSome):(n.unit id u).ph id=5:=by
 have key:∀n:N,(n.ar id).isSome->(n.bE id λr=>{r with ph:=5}).ph id=5:=λn h=>by obtain⟨c,hc⟩:=Option.isSome_iff_exists.1 h;rw[u9 (c:={c with r:={c.r with ph:=5}}) (by rw[qH,if_pos rfl,hc];rfl)]
 unfold N.unit;rw[if_pos hw];split
 ·exact key _ (oC hi)
 ·split
  ·exact key _ hi
  ·exact key _ (by unfold N.cL;exact oC (zI (SU hi)))
def pK.step (F:pK id n)(hp:n.ph id≠5)(hi:(n.cut id).1.idle=false):
 pK id ((n.cut id).2.unit id (n.cut id).1).serve/\(((n.cut id).2.unit id (n.cut id).1).serve).mu id<n.mu id:=by
 obtain⟨⟨T,K,o,h1,h2⟩,is,hr⟩:=F;obtain⟨c,hc⟩:=Option.isSome_iff_exists.1 is;have k:=CH o hc;have hle:=k.le;simp only at hle;have o1:=o.cut hc;have uJ:((n.cut id).2.ar id).isSome:=by rw[yY hc];rfl
 have o2:=(o1.unit (id:=id) (u:=(n.cut id).1) k.pay k.ch.1 uJ).serve;have r1:((n.cut id).2.unit id (n.cut id).1).serve.rest id=(n.cut id).2.rest id:=(wY (Kp.serve λ_ _ _=>rfl)).trans (wY (Kp.unit BA));have p1:((n.cut id).2.unit id (n.cut id).1).serve.ph id=((n.cut id).2.unit id (n.cut id).1).ph id:=wV (Kp.serve λ_ _ _=>rfl);have Lw:(((n.cut id).2.unit id (n.cut id).1).serve.ar id).isSome:=(Kp.serve (F:=CR.rest) λ_ _ _=>rfl).is ((Kp.unit BA).is uJ)
 have hm:(((n.cut id).2.unit id (n.cut id).1).serve).mu id<n.mu id:=by
  unfold N.mu;rw[r1,p1,if_neg hp]
  cases hw:(n.cut id).1.gv with
  |true=>rw[VH hw uJ];simp only[if_true];omega
  |false=>have:=k.lt hi hw;simp only at this;split<;>omega
 refine⟨⟨⟨_,_,o2,?_,?_⟩,Lw,?_⟩,hm⟩
 ·omega
 ·exact klt hm h2
 ·rw[r1];omega
structure NV (id:Int) (T:Int) (K:Nat) (n:N):Prop where
 ok:Ok T K [] n
 is:(n.ar id).isSome
 rest:n.ph id=5\/(n.rest id).length<=4104
def Ok.iz (o:Ok T K [] n)(is:(n.ar id).isSome){f:Nat}(hf:n.mu id<f):NV id (T+402*n.mu id) (K+40200000*n.mu id) (n.iz f id):=by
 induction f generalizing n T K with
 |zero=>omega
 |succ f ih=>
  unfold N.iz;obtain⟨c,hc⟩:=Option.isSome_iff_exists.1 is;have k:=CH o hc;have hle:=k.le;simp only at hle;have o1:=o.cut hc;have uJ:((n.cut id).2.ar id).isSome:=by rw[yY hc];rfl
  split
  ·rename_i h5;exact⟨o.mono aa aa,is,.inl h5⟩
  ·rename_i hp;split
   ·rename_i hi;exact⟨o1.mono aa aa,uJ,.inr (k.idle hi)⟩
   ·rename_i hi;have hi:(n.cut id).1.idle=false:=aY hi;have o2:=(o1.unit (id:=id) (u:=(n.cut id).1) k.pay k.ch.1 uJ).serve;have r1:((n.cut id).2.unit id (n.cut id).1).serve.rest id=(n.cut id).2.rest id:=(wY (Kp.serve λ_ _ _=>rfl)).trans (wY (Kp.unit BA));have p1:((n.cut id).2.unit id (n.cut id).1).serve.ph id=((n.cut id).2.unit id (n.cut id).1).ph id:=wV (Kp.serve λ_ _ _=>rfl);have Lw:(((n.cut id).2.unit id (n.cut id).1).serve.ar id).isSome:=(Kp.serve (F:=CR.rest) λ_ _ _=>rfl).is ((Kp.unit BA).is uJ)
    have hm:(((n.cut id).2.unit id (n.cut id).1).serve).mu id<n.mu id:=by
     unfold N.mu;rw[r1,p1,if_neg hp]
     cases hw:(n.cut id).1.gv with
     |true=>rw[VH hw uJ];simp only[if_true];omega
     |false=>have:=k.lt hi hw;simp only at this;split<;>omega
    have h3:=ih o2 Lw aa;exact⟨h3.ok.mono aa aa,h3.is,h3.rest⟩
def Ok.ajj (o:Ok T K [] n):Ok T K [] (n.leave id):=by
 cases hc:n.ar id with
 |none=>unfold N.leave;rw[hc];exact o
 |some c=>exact o.leave (λ_ h=>by cases h) (by rw[hc];rfl)
def N.leaves (n:N)(l:List Int):N:=l.foldl (λn id=>if n.ph id=5 then n.leave id else n) n
def Ok.leaves (o:Ok T K [] n){l:List Int}:Ok T K [] (n.leaves l):=by
 unfold N.leaves
 induction l generalizing n with
 |nil=>exact o
 |cons a l ih=>
  rw[List.foldl_cons];split
  ·exact ih o.ajj
  ·exact ih o
def EU {l:List Int}{i:Int}:(n.leaves l).rC i=n.rC i:=by
 unfold N.leaves
 induction l generalizing n with
 |nil=>rfl
 |cons a l ih=>
  rw[List.foldl_cons,ih];split
  ·exact HP
  ·rfl
def aav (hc:(n.leave id).ar id=some c):c.ch=[]:=by
 cases h:n.ar id with
 |none=>unfold N.leave at hc;rw[h]at hc;simp only at hc;rw[h]at hc;cases hc
 |some c0=>
  rw[LQ h,qG,if_pos rfl]at hc;obtain⟨c1,_,rfl⟩:=Option.map_eq_some_iff.1 hc;rfl
def aap {c c':CN}(h:c'.ch.map (·.1)=c.ch.map (·.1))(hc:c.ch=[]):c'.ch=[]:=by rw[hc]at h;simpa using h
def aau (aE:aK≠id):((n.leave id).ar aK).map (λc=>c.ch.map (·.1))=(n.ar aK).map λc=>c.ch.map (·.1):=by
 cases h:n.ar id with
 |none=>unfold N.leave;rw[h]
 |some c0=>
  rw[LQ h,qG,if_neg aE];exact Ji
def FB (n:N):Prop:=∀id c,n.ar id=some c->c.r.ph=5->c.ch=[]
def SY (hk:((n'.ar id).map λc=>c.ch.map (·.1))=(n.ar id).map λc=>c.ch.map (·.1))(h0:∀c,n.ar id=some c->c.ch=[]):∀c,n'.ar id=some c->c.ch=[]:=λc hc=>by rw[hc,Option.map_some]at hk;obtain⟨c0,h1,h2⟩:=Option.map_eq_some_iff.1 hk.symm;exact aap h2.symm (h0 c0 h1)
def ajm {l:List Int}(hm:id∈l\/∀c,n.ar id=some c->c.ch=[])(h5:n.ph id=5):∀c,(n.leaves l).ar id=some c->c.ch=[]:=by
 induction l generalizing n with
 |nil=>exact hm.elim (λh=>by cases h) λh=>h
 |cons a l ih=>
  have e:n.leaves (a::l)=(if n.ph a=5 then n.leave a else n).leaves l:=rfl;rw[e]
  have qh:(if n.ph a=5 then n.leave a else n).ph id=5:=by
   split
   ·rw[wV (Kp.rC λ_=>HP)];exact h5
   ·exact h5
  refine ih ?_ qh;by_cases ha:id=a
  ·subst ha;rw[if_pos h5];exact .inr λc hc=>aav hc
  ·rcases hm with hm|hm
   ·exact .inl ((List.mem_cons.1 hm).resolve_left ha)
   ·right;split
    ·exact SY (aau ha) hm
    ·exact hm
def Pv {s:List UInt8}:((n.send id s).ar aK).map (λc=>c.ch.map (·.1))=(n.ar aK).map λc=>c.ch.map (·.1):=by
 rw[sO];split
 ·cases n.ar aK<;>rfl
 ·rfl
def aat {na:Bool}:((n.hand id no nm m na).ar aK).map (λc=>c.ch.map (·.1))=(n.ar aK).map λc=>c.ch.map (·.1):=by
 unfold N.hand;split
 ·exact FZ
 ·rw[yW];exact FZ
def aaA:((n.take k m).ar aK).map (λc=>c.ch.map (·.1))=(n.ar aK).map λc=>c.ch.map (·.1):=by
 unfold N.take;split
 ·rfl
 ·unfold N.give;exact Pv.trans (Pv.trans aat)
def aax {f:Nat}:((n.kM f nm).ar aK).map (λc=>c.ch.map (·.1))=(n.ar aK).map λc=>c.ch.map (·.1):=by
 induction f generalizing n with
 |zero=>rfl
 |succ f ih=>
  unfold N.kM
  cases h:n.ja nm with
  |none=>rfl
  |some n'=>
   simp only[];rw[ih];unfold N.ja at h;split at h
   ·cases h
   ·split at h
    ·cases h
    ·split at h
     ·cases h
     ·cases h;rw[aaA,yW]
def Pw:(n.serve.ar aK).map (λc=>c.ch.map (·.1))=(n.ar aK).map λc=>c.ch.map (·.1):=by
 unfold N.serve;generalize n.aN.map (·.1)=l
 induction l generalizing n with
 |nil=>rfl
 |cons a l ih=>rw[List.foldl_cons,ih,aax]
def E9:n.lf=(n.leaves (n.aF.map (·.1))).serve:=rfl
def Ok.lf (o:Ok T K [] n):Ok (T+400) (K+40000000) [] n.lf:=by rw[E9];exact o.leaves.serve
def adQ:FB n.lf:=λid c hc h5=>by
 rw[E9]at hc;have qh:(n.leaves (n.aF.map (·.1))).serve.ph id=5:=by rw[u9 hc];exact h5
 rw[wV (Kp.serve λ_ _ _=>rfl)]at qh;rw[wV (Kp.rC λ_=>EU)]at qh
 have h0:((n.ar id)).isSome:=by
  have h1:((n.leaves (n.aF.map (·.1))).ar id).isSome:=by
   have:=Pw (n:=n.leaves (n.aF.map (·.1))) (aK:=id);rw[hc]at this
   cases h:(n.leaves (n.aF.map (·.1))).ar id with
   |some _=>rfl
   |none=>rw[h]at this;cases this
  exact Ec h1 EU.symm
 exact SY Pw (ajm (.inl (mi.1 h0)) qh) c hc
end
section
variable {n:N}{T:Int}{T':Int}{K:Nat}{ex:List Int}{aK:Int}{no:Nat}{c:CN}{h:HN}{nm:List UInt8}{q:QN}{k:Int}{x:XN}{l:List Int}{β:Type}{F:CR->β}
variable {id:Int}
def W1 {α β:Type}[DecidableEq α]{l:List (α×β)}{k:α}(nd:(l.map (·.1)).Nodup)(p:β->Bool):bq (l.filter λe=>p e.2) k=(bq l k).filter p:=by
 induction l with
 |nil=>rfl
 |cons e l ih=>
  rw[List.map_cons,List.nodup_cons]at nd;have ih:=ih nd.2;unfold bq at ih|-;rw[List.filter_cons,List.find?_cons];by_cases he:e.1=k
  ·simp only[he,decide_true,Option.map_some];by_cases hp:p e.2
   ·rw[if_pos hp,List.find?_cons];simp[he,Option.filter,hp]
   ·rw[if_neg hp];have:∀x∈l,¬x.1=k:=λx hx hy=>nd.1 (by rw[he,<-hy];exact List.mem_map_of_mem (f:=(·.1)) hx)
    have h2:((l.filter λe=>p e.2).find? λe=>decide (e.1=k))=none:=List.find?_eq_none.2 λx hx=>by have:=this x (List.mem_filter.1 hx).1;simpa using this
    rw[h2];have:p e.2=false:=aY hp;simp[Option.filter,this]
  ·simp only[he,decide_false];by_cases hp:p e.2
   ·rw[if_pos hp,List.find?_cons];simp only[he,decide_false];exact ih
   ·rw[if_neg hp];exact ih
def F8 (o:Ok T K ex n):n.clean.ar id=((n.ar id).filter λc=>decide (c.r.ph≠5)).map λc=>{c with r:={c.r with out:=[]}}:=by unfold N.ar N.clean;simp only[];exact(On (γ:=CN) (n.aF.filter λe=>decide (e.2.r.ph≠5)) id λc:CN=>{c with r:={c.r with out:=[]}}).trans (congrArg _ (W1 o.nc λc=>decide (c.r.ph≠5)))
def aeu (o:Ok T K ex n)(g:FB n):n.clean.h? id no=n.h? id no:=by
 unfold N.h?;rw[F8 o]
 cases hc:n.ar id with
 |none=>rfl
 |some c=>
  by_cases h5:c.r.ph=5
  ·have:=g id c hc h5;simp[Option.filter,h5,this,bq]
  ·simp[Option.filter,h5]
def Nj (g:FB n)(nc:(n.aF.map (·.1)).Nodup){w:HN->Nat}:n.clean.eP w=n.eP w:=by
 unfold N.eP N.clean;simp only[List.map_map,Function.comp_def]
 exact Vo n.aF (λe=>decide (e.2.r.ph≠5)) (λe=>(e.2.ch.map λg=>w g.2).sum) λe he hp=>by have h5:e.2.r.ph=5:=aY hp;rw[g e.1 e.2 (oF nc he) h5];rfl
def Ok.clean (o:Ok T K [] n)(g:FB n):Ok T 0 [] n.clean:=by
 have j8:(n.clean.aF.map (·.1)).Sublist (n.aF.map (·.1)):=by
  have e:n.clean.aF.map (·.1)=(n.aF.filter λe=>decide (e.2.r.ph≠5)).map (·.1):=by unfold N.clean;simp only[List.map_map];rfl
  rw[e];exact List.Sublist.map _ List.filter_sublist
 have hl:n.clean.aF.length<=n.aF.length:=by have:=j8.length_le;simpa using this
 have hh:∀i j,n.clean.h? i j=n.h? i j:=λi j=>aeu o g
 exact{
  cfg:=o.cfg
  sc:=o.sc.sublist j8
  lc:=Nat.le_trans hl o.lc
  ids:=λi hi=>o.ids i (mi.2 (j8.subset (mi.1 hi)))
  sq:=o.sq
  nq:=o.nq
  lq:=o.lq
  w:=⟨λi j h' hx=>o.w.un i j h' (by rw[<-hh];exact hx),o.w.xq,λk x hx=>by obtain⟨h',h1,h2⟩:=o.w.xh k x hx;exact⟨h',by rw[hh];exact h1,h2⟩,λi j h' hx=>o.w.co i j h' (by rw[<-hh];exact hx),o.w.qc⟩
  c:=λi c' cE=>by
   rw[F8 o]at cE
   obtain⟨c,h1,rfl⟩:=Option.map_eq_some_iff.1 cE
   obtain⟨h1,_⟩:=Option.filter_eq_some_iff.1 h1
   have oc:=o.c _ _ h1
   exact⟨⟨al,oc.r.frame,oc.r.de⟩,oc.jG,oc.no⟩
  h:=λi j h' hx=>o.h i j h' (by rw[<-hh];exact hx)
  part:=λi j h' hx=>o.part i j h' (by rw[<-hh];exact hx)
  q:=o.q
  cnt:=λnm q hq=>(o.cnt nm q hq).same (Nj g o.nc) (λs=>Nj g o.nc) rfl
  x:=o.x
  xn:=o.xn
  xl:=by rw[Nj g o.nc];exact o.xl
  gV:=o.gV
  bj:=o.bj
  last:=o.last}
structure Inv (T:Int) (n:N):Prop where
 ok:Ok T 0 [] n
 ph:∀id c,n.ar id=some c->c.r.ph≠5
 rest:∀id,(n.rest id).length<=4104
def Inv.mono (o:Inv T n)(h:T<=T'):Inv T' n:=⟨o.ok.mono h (Nat.le_refl _),o.ph,o.rest⟩
def aoc (o:Ok T K ex n):n.clean.rest id=(((n.ar id).filter λc=>decide (c.r.ph≠5)).map λc=>c.r.rest).getD []:=by unfold N.rest;rw[F8 o,Option.map_map];rfl
def Inv.HC (o:Ok T K [] n)(hr:∀id,n.ph id=5\/(n.rest id).length<=4104):Inv (T+400) n.lf.clean:=by
 have o1:=o.lf;refine⟨o1.clean adQ,λid c hc=>?_,λid=>?_⟩
 ·rw[F8 o1]at hc;obtain⟨c0,h1,rfl⟩:=Option.map_eq_some_iff.1 hc;obtain⟨_,h2⟩:=Option.filter_eq_some_iff.1 h1;simpa using h2
 ·rw[aoc o1]
  cases hc:n.lf.ar id with
  |none=>simp
  |some c=>
   have e1:n.lf.rest id=n.rest id:=by rw[E9];exact(wY (Kp.serve λ_ _ _=>rfl)).trans (wY (Kp.rC λ_=>EU))
   have e2:n.lf.ph id=n.ph id:=by rw[E9];exact(wV (Kp.serve λ_ _ _=>rfl)).trans (wV (Kp.rC λ_=>EU))
   rw[Ad hc]at e1;rw[u9 hc]at e2;by_cases h5:c.r.ph=5
   ·simp[Option.filter,h5]
   ·simp only[Option.filter,h5,ne_eq,not_false_eq_true,decide_true,if_true,Option.map_some,Option.getD_some];rw[e1];exact(hr id).resolve_left (by rw[<-e2];exact h5)
def UO {f:CR->CR}(hf:∀r,(f r).rest=r.rest):(n.bE id f).rest aK=n.rest aK:=wY (Kp.bE (F:=CR.rest) hf)
def Hv:n.mu id<=(n.rest id).length+1:=by unfold N.mu;split<;>omega
def N.recv (n:N)(id:Int)(s:List UInt8):N:=n.bE id λr=>{r with recv:=n.clock,rest:=r.rest++s}
def Gg {s:List UInt8}:n.tW id s=(n.recv id s).iz (((n.recv id s).rest id).length+2) id:=rfl
def UL {s:List UInt8}(hc:n.ar id=some c):(n.recv id s).rest id=n.rest id++s:=by rw[Ad hc,Ad (c:={c with r:={c.r with recv:=n.clock,rest:=c.r.rest++s}})];unfold N.recv;rw[qH,if_pos rfl,hc];rfl
def an9 {s:List UInt8}(aE:aK≠id):(n.recv id s).rest aK=n.rest aK:=by unfold N.rest N.recv;rw[qH,if_neg aE]
def Ok.recv (o:Ok T K ex n){s:List UInt8}:Ok T K ex (n.recv id s):=o.bE (f:=λr=>{r with recv:=n.clock,rest:=r.rest++s}) (Nat.le_refl _) λc hc=>⟨(o.c _ _ hc).r.out,(o.c _ _ hc).r.frame,(o.c _ _ hc).r.de⟩
def SV {s:List UInt8}(hi:(n.ar aK).isSome):((n.recv id s).ar aK).isSome:=zI hi
def Ok.tW (o:Ok T K [] n){s:List UInt8}(hc:n.ar id=some c):NV id (T+402*((n.rest id).length+s.length+1:Nat)) (K+40200000*((n.rest id).length+s.length+1)) (n.tW id s):=by
 rw[Gg];have h1:=UL (s:=s) hc;have hm:=Hv (n:=n.recv id s) (id:=id);rw[h1,List.length_append]at hm;have:=(o.recv (id:=id) (s:=s)).iz (f:=((n.recv id s).rest id).length+2) (SV (by rw[hc];rfl)) (by have:=Hv (n:=n.recv id s) (id:=id);omega);refine⟨this.ok.mono ?_ ?_,this.is,this.rest⟩
 ·omega
 ·exact Nat.add_le_add_left (Nat.mul_le_mul_left _ hm) _
def ai0 {f:Nat}(aE:aK≠id):(n.iz f id).rest aK=n.rest aK:=by
 induction f generalizing n with
 |zero=>rfl
 |succ f ih=>
  have Bb:(n.cut id).2.rest aK=n.rest aK:=by
   unfold N.cut;split
   ·rfl
   ·unfold N.rest;simp only;rw[qH,if_neg aE]
  unfold N.iz;split
  ·rfl
  ·split
   ·exact Bb
   ·rw[ih,wY (Kp.serve λ_ _ _=>rfl),wY (Kp.unit BA),Bb]
def Inv.feed (o:Inv T n){s:List UInt8}:Inv (T+402*(s.length+4107:Nat)) (n.feed id s).clean:=by
 unfold N.feed;split
 ·have:=Inv.HC o.ok (λid=>.inr (o.rest id));exact this.mono aa
 ·cases hc:n.ar id with
  |none=>
   have e:n.tW id s=n:=by
    have e1:n.recv id s=n:=by unfold N.recv N.bE N.dM;have:dD n.aF id (λc=>{c with r:={c.r with recv:=n.clock,rest:=c.r.rest++s}})=n.aF:=AE λe he hx=>absurd hx (jc hc e he);rw[this]
    rw[Gg,e1];unfold N.iz;have:n.ph id=5:=by unfold N.ph;rw[hc];rfl
    rw[if_pos this]
   rw[e];exact(Inv.HC o.ok (λid=>.inr (o.rest id))).mono aa
  |some c=>
   have f1:=o.ok.tW (s:=s) hc;have h2:=o.rest id;refine(Inv.HC f1.ok λi=>?_).mono aa;by_cases e:i=id
   ·subst e;exact f1.rest
   ·right;rw[Gg,ai0 e,an9 e];exact o.rest i
def Inv.drop (o:Inv T n):Inv (T+400) (n.drop id).clean:=by unfold N.drop;have o1:Ok T 0 [] (n.bE id λr=>{r with ph:=5}):=o.ok.bE (Nat.le_refl _) λc hc=>⟨(o.ok.c _ _ hc).r.out,(o.ok.c _ _ hc).r.frame,(o.ok.c _ _ hc).r.de⟩;refine Inv.HC o1 λi=>.inr ?_;rw[UO (f:=λr=>{r with ph:=5}) λ_=>rfl];exact o.rest i
def N.connect (n:N):N:={n with last:=n.last+1,aF:=n.aF++[(n.last+1,⟨⟨0,[],false,0,n.cfg.frame,0,n.clock,n.clock,[]⟩,[]⟩)]}
def W4 {α β:Type}[DecidableEq α]{l:List (α×β)}{k k':α}{v:β}(h:bq l k=none):bq (l++[(k,v)]) k'=if k'=k then some v else bq l k':=by
 unfold bq at h|-;rw[List.find?_append];by_cases e:k'=k
 ·subst e;rw[if_pos rfl];have:(l.find? λe=>decide (e.1=k'))=none:=aY h;rw[this];simp
 ·rw[if_neg e];have:¬k=k':=λx=>e x.symm;simp[this]
def Ok.Mf (o:Ok T K ex n):n.ar (n.last+1)=none:=by
 cases h:n.ar (n.last+1)with
 |none=>rfl
 |some c=>have:=o.ids (n.last+1) (by rw[h];rfl);omega
def AO (o:Ok T K ex n):n.connect.ar id=if id=n.last+1 then some ⟨⟨0,[],false,0,n.cfg.frame,0,n.clock,n.clock,[]⟩,[]⟩else n.ar id:=W4 o.Mf
def Da (o:Ok T K ex n):n.connect.h? id no=n.h? id no:=by
 unfold N.h?;rw[AO o];split
 ·rename_i e;rw[e,o.Mf];rfl
 ·rfl
def Inv.connect (o:Inv T n)(hl:n.aF.length<=3):Inv T n.connect:=by
 have ok:=o.ok
 have ht:∀w:HN->Nat,n.connect.eP w=n.eP w:=λw=>by unfold N.eP N.connect;simp
 have mH:=ok.last
 refine⟨{
  cfg:=ok.cfg
  sc:=?_
  lc:=by show(n.aF++[_]).length<=4;rw[List.length_append,List.length_singleton];omega
  ids:=λi hi=>by
   rw[AO ok]at hi
   show 1<=i/\i<=n.last+1
   split at hi
   ·omega
   ·have:=ok.ids i hi;omega
  sq:=ok.sq
  nq:=ok.nq
  lq:=ok.lq
  w:=⟨λi j h' hx=>ok.w.un i j h' (by rw[<-Da ok];exact hx),ok.w.xq,λk x hx=>by obtain⟨h',h1,h2⟩:=ok.w.xh k x hx;exact⟨h',by rw[Da ok];exact h1,h2⟩,λi j h' hx=>ok.w.co i j h' (by rw[<-Da ok];exact hx),ok.w.qc⟩
  c:=λi c' cE=>by
   rw[AO ok]at cE
   split at cE
   ·cases cE;exact⟨⟨al,ok.cfg.frame,al⟩,List.Pairwise.nil,λ_ h=>by cases h⟩
   ·exact ok.c _ _ cE
  h:=λi j h' hx=>ok.h i j h' (by rw[<-Da ok];exact hx)
  part:=λi j h' hx=>ok.part i j h' (by rw[<-Da ok];exact hx)
  q:=ok.q
  cnt:=λnm q hq=>(ok.cnt nm q hq).same (ht _) (λs=>ht _) rfl
  x:=ok.x
  xn:=ok.xn
  xl:=by rw[ht];exact ok.xl
  gV:=ok.gV
  bj:=ok.bj
  last:=by show 0<=n.last+1;omega},λi c' cE=>?_,λi=>?_⟩
 ·show((n.aF++[(n.last+1,(⟨⟨0,[],false,0,n.cfg.frame,0,n.clock,n.clock,[]⟩,[]⟩:CN))]).map (·.1)).Pairwise (·<·);rw[List.map_append,List.pairwise_append];refine⟨ok.sc,al,λa ha b hb=>?_⟩;simp only[List.map_cons,List.map_nil,List.mem_singleton]at hb;have:=ok.ids a (mi.2 ha);omega
 ·rw[AO ok]at cE;split at cE
  ·cases cE;simp
  ·exact o.ph _ _ cE
 ·unfold N.rest;rw[AO ok];split
  ·simp
  ·exact o.rest i
def N.new (g:kt):N:=⟨g,0,0,0,0,[],[],[]⟩
def Inv.new {g:kt}(hg:FA g):Inv 0 (N.new g):=by
 have e1:∀i,(N.new g).ar i=none:=λ_=>rfl;have e2:∀i j,(N.new g).h? i j=none:=λ_ _=>rfl;have e3:∀i,(N.new g).q? i=none:=λ_=>rfl;have e4:∀i,(N.new g).x? i=none:=λ_=>rfl
 exact⟨{
  cfg:=hg
  sc:=List.Pairwise.nil
  lc:=by simp[N.new]
  ids:=λi hi=>by rw[e1]at hi;cases hi
  sq:=List.Pairwise.nil
  nq:=List.Pairwise.nil
  lq:=by simp[N.new]
  w:=⟨λi j h hx=>by rw[e2]at hx;(cases hx),λk x hx=>by rw[e4]at hx;(cases hx),λk x hx=>by rw[e4]at hx;(cases hx),λi j h hx=>by rw[e2]at hx;(cases hx),λk x hx=>by rw[e3]at hx;(cases hx)⟩
  c:=λi c hx=>by rw[e1]at hx;cases hx
  h:=λi j h hx=>by rw[e2]at hx;cases hx
  part:=λi j h hx=>by rw[e2]at hx;cases hx
  q:=λk x hx=>by rw[e3]at hx;cases hx
  cnt:=λk x hx=>by rw[e3]at hx;cases hx
  x:=λk x hx=>by rw[e4]at hx;cases hx
  xn:=List.Pairwise.nil
  xl:=by simp[N.new]
  gV:=by simp[N.new]
  bj:=by simp[N.new]
  last:=by simp[N.new]},λi c hx=>by rw[e1]at hx;(cases hx),λi=>by simp[N.rest,e1]⟩
end
section
variable {n:N}{c:CN}{h:HN}{k:Int}{l:List Int}{β:Type}
variable {id:Int}
def AN (e:Int×CN):Int×CN:=(e.1,{e.2 with r:={e.2.r with out:=[]}})
def N.cl (n:N)(j:Nat):N:={n with aF:=((n.aF.take j).filter λe=>decide (e.2.r.ph≠5)).map AN++n.aF.drop j}
def N.os (n:N)(j:Nat):List (Int×List UInt8):=((n.aF.take j).map λe=>(e.1,e.2.r.out)).filter λe=>decide (e.2≠[])
def aaG:n.cl 0=n:=by unfold N.cl;simp
def aaC:n.cl n.aF.length=n.clean:=by unfold N.cl N.clean;simp[List.take_length,List.drop_length,AN]
def al5:n.os n.aF.length=n.outs:=by unfold N.os N.outs;rw[List.take_length]
def al7 {j:Nat}(hj:j<n.aF.length):n.os (j+1)=n.os j++(if n.aF[j].2.r.out=[]then []else [(n.aF[j].1,n.aF[j].2.r.out)]):=by unfold N.os;rw[List.take_succ_eq_append_getElem hj,List.map_append,List.filter_append];congr 1;by_cases h:n.aF[j].2.r.out=[]<;>simp[h]
def al6 {j:Nat}:(n.os j).length<=n.aF.length:=by unfold N.os;refine Nat.le_trans (List.length_filter_le _ _) ?_;rw[List.length_map,List.length_take];omega
def Cz {j:Nat}(nd:(n.aF.map (·.1)).Nodup)(hj:j<n.aF.length):(∀e∈((n.aF.take j).filter λe=>decide (e.2.r.ph≠5)).map AN,¬e.1=n.aF[j].1)/\∀e∈n.aF.drop (j+1),¬e.1=n.aF[j].1:=by
 constructor
 ·intro e he;obtain⟨e0,h0,rfl⟩:=List.mem_map.1 he;exact HA nd hj e0 (List.mem_filter.1 h0).1
 ·intro e he hx;obtain⟨i,hi,rfl⟩:=List.getElem_of_mem he;rw[List.length_drop]at hi;rw[List.getElem_drop]at hx;have h1:(n.aF.map (·.1))[j]'(by simp;omega)=(n.aF.map (·.1))[j+1+i]'(by simp;omega):=by simpa using hx.symm
  exact(List.pairwise_iff_getElem.1 nd) j (j+1+i) (by simp;omega) (by simp;omega) aa h1
def Oo {α β:Type}[DecidableEq α]{P R:List (α×β)}{k:α}{v:β}(hP:∀e∈P,¬e.1=k):bq (P++(k,v)::R) k=some v:=by
 unfold bq;rw[List.find?_append];have:(P.find? λe=>decide (e.1=k))=none:=List.find?_eq_none.2 λe he=>by simpa using hP e he
 rw[this];simp
def Xa {α β:Type}[DecidableEq α]{P R:List (α×β)}{k:α}{v:β}{f:β->β}(hP:∀e∈P,¬e.1=k)(hR:∀e∈R,¬e.1=k):dD (P++(k,v)::R) k f=P++(k,f v)::R:=by have h1:dD P k f=P:=AE λe he hx=>absurd hx (hP e he);have h2:dD R k f=R:=AE λe he hx=>absurd hx (hR e he);unfold dD at h1 h2|-;rw[List.map_append,List.map_cons,h1,h2,if_pos rfl]
def WU {α β:Type}[DecidableEq α]{P R:List (α×β)}{k:α}{v:β}(hP:∀e∈P,¬e.1=k)(hR:∀e∈R,¬e.1=k):cB (P++(k,v)::R) k=P++R:=by unfold cB;rw[List.filter_append,List.filter_cons_of_neg al];rw[List.filter_eq_self.2 λe he=>by simpa using hP e he,List.filter_eq_self.2 λe he=>by simpa using hR e he]
def Px {j:Nat}(hj:j<n.aF.length):(n.cl j).aF=((n.aF.take j).filter λe=>decide (e.2.r.ph≠5)).map AN++(n.aF[j].1,n.aF[j].2)::n.aF.drop (j+1):=by unfold N.cl;simp only[];rw[List.drop_eq_getElem_cons hj]
def aaD {j:Nat}(nd:(n.aF.map (·.1)).Nodup)(hj:j<n.aF.length):(n.cl j).ar n.aF[j].1=some n.aF[j].2:=by unfold N.ar;rw[Px hj];exact Oo (Cz nd hj).1
def Jj {j:Nat}(nd:(n.aF.map (·.1)).Nodup)(hj:j<n.aF.length):
 ((n.cl j).bE n.aF[j].1 λr=>{r with out:=[]}).aF=((n.aF.take j).filter λe=>decide (e.2.r.ph≠5)).map AN++(n.aF[j].1,{n.aF[j].2 with r:={n.aF[j].2.r with out:=[]}})::n.aF.drop (j+1):=by
 have h:=Xa (v:=n.aF[j].2) (f:=λc:CN=>{c with r:={c.r with out:=[]}}) (Cz nd hj).1 (Cz nd hj).2;rw[<-Px hj]at h;exact h
def aaF {j:Nat}(nd:(n.aF.map (·.1)).Nodup)(hj:j<n.aF.length)(hp:n.aF[j].2.r.ph≠5):(n.cl j).bE n.aF[j].1 (λr=>{r with out:=[]})=n.cl (j+1):=by
 have h1:=Jj nd hj
 have h2:(n.cl (j+1)).aF=((n.cl j).bE n.aF[j].1 λr=>{r with out:=[]}).aF:=by rw[h1];unfold N.cl;simp only[];rw[List.take_succ_eq_append_getElem hj,List.filter_append,List.map_append,List.append_assoc];simp[hp,AN]
 show({n.cl j with aF:=((n.cl j).bE n.aF[j].1 λr=>{r with out:=[]}).aF}:N)=_;rw[<-h2];rfl
def aaE {j:Nat}(nd:(n.aF.map (·.1)).Nodup)(hj:j<n.aF.length)(hp:n.aF[j].2.r.ph=5):
 ({(n.cl j).bE n.aF[j].1 (λr=>{r with out:=[]})with aF:=cB ((n.cl j).bE n.aF[j].1 λr=>{r with out:=[]}).aF n.aF[j].1}:N)=n.cl (j+1):=by
 have h1:=Jj nd hj
 have h2:(n.cl (j+1)).aF=cB ((n.cl j).bE n.aF[j].1 λr=>{r with out:=[]}).aF n.aF[j].1:=by rw[h1,WU (Cz nd hj).1 (Cz nd hj).2];unfold N.cl;simp only[];rw[List.take_succ_eq_append_getElem hj,List.filter_append,List.map_append,List.append_assoc];simp[hp]
 rw[<-h2];rfl
def ajn {l:List Int}{j:Nat}(hj:j<l.length):n.leaves (l.take (j+1))=if(n.leaves (l.take j)).ph l[j]=5 then(n.leaves (l.take j)).leave l[j]else n.leaves (l.take j):=by unfold N.leaves;rw[List.take_succ_eq_append_getElem hj,List.foldl_append];rfl
end
def IH(id:Int)(no:Nat)(n:N):Er->Prop
 | .nil=>True
 | .cL e cl me=>e<1000000/\cl<1000000/\me<1000000
 | .soft e cl me=>(e<1000000/\cl<1000000/\me<1000000)/\(n.h? id no).isSome
def Ck(id:Int)(no:Nat):HO->Prop
 | .bad cl me=>cl<1000000/\me<1000000
 | .ok n er=>IH id no n er
section
variable {n:N}{n':N}{T:Int}{K:Nat}{no:Nat}{c:CN}{h:HN}{k:Int}{x:XN}
variable {id:Int}
def aib {f:HR->HR}(hi:(n.h? id no).isSome):((n.cN id no f).h? id no).isSome:=by rw[Kg,if_pos ⟨rfl,rfl⟩];simpa using hi
def aic {key body:List UInt8}(hi:(n.h? id no).isSome):((n.jO key body).1.h? id no).isSome:=by
 unfold N.jO;split
 ·exact hi
 ·split<;>exact hi
def agf (hi:(n.h? id no).isSome){s:List UInt8}{cl me:Nat}(aH:cl<1000000)(aO:me<1000000):Ck id no (n.method id no h s cl me):=by
 have e:∀x,x<1000000->x<1000000/\cl<1000000/\me<1000000:=λx hx=>⟨hx,aH,aO⟩;unfold N.method;split
 ·exact e _ ai
 split
 ·unfold N.close;split
  ·trivial
  ·exact⟨aH,aO⟩
 split
 ·unfold N.declare;split
  ·split
   ·trivial
   ·split
    ·exact e _ ai
    ·split
     ·exact⟨e _ ai,hi⟩
     ·trivial
  ·exact⟨aH,aO⟩
 split
 ·unfold N.pD;split
  ·split
   ·trivial
   ·exact⟨e _ ai,hi⟩
  ·exact⟨aH,aO⟩
 split
 ·unfold N.sB;split
  ·trivial
  ·exact⟨aH,aO⟩
 split
 ·unfold N.consume;split
  ·split
   ·split
    ·split
     ·exact e _ ai
     ·split
      ·exact⟨e _ ai,hi⟩
      ·split
       ·exact e _ ai
       ·split
        ·exact⟨e _ ai,hi⟩
        ·trivial
    ·exact⟨aH,aO⟩
   ·exact⟨aH,aO⟩
  ·exact⟨aH,aO⟩
 split
 ·unfold N.qF;split
  ·trivial
  ·exact⟨aH,aO⟩
 split
 ·unfold N.sA;split
  ·trivial
  ·exact⟨aH,aO⟩
 split
 ·unfold N.get;split
  ·split
   ·split
    ·exact⟨e _ ai,hi⟩
    ·split
     ·trivial
     ·trivial
   ·exact⟨aH,aO⟩
  ·exact⟨aH,aO⟩
 split
 ·unfold N.settled;split
  ·split
   ·split
    ·split
     ·trivial
     ·exact⟨e _ ai,hi⟩
    ·exact⟨aH,aO⟩
   ·exact⟨aH,aO⟩
  ·exact⟨aH,aO⟩
 split
 ·exact e _ ai
 ·exact e _ ai
def Sd (hi:(n.h? id no).isSome){r:HR}:Ck id no (n.whole id no r):=by
 unfold N.whole;split
 ·trivial
 ·show IH _ _ _ (if _ then _ else _);split
  ·trivial
  ·exact⟨ai,aic (aib hi)⟩
def agc (hi:(n.h? id no).isSome){kind:Int}{s:List UInt8}{cl me:Nat}(aH:cl<1000000)(aO:me<1000000):Ck id no (n.jv id no h kind s cl me):=by
 unfold N.jv;split
 ·split
  ·trivial
  ·split
   ·trivial
   ·trivial
 ·split
  ·exact⟨ai,aH,aO⟩
  ·split
   ·unfold N.header;split
    ·split
     ·split
      ·split
       ·split
        ·exact(by decide:502<1000000/\60<1000000/\40<1000000)
        ·split
         ·exact⟨ai,hi⟩
         ·exact Sd hi
       ·exact(by decide:60<1000000/\40<1000000)
      ·exact(by decide:60<1000000/\40<1000000)
     ·exact(by decide:60<1000000/\40<1000000)
    ·exact(by decide:60<1000000/\40<1000000)
   ·split
    ·unfold N.part;split
     ·exact(by decide:502<1000000/\60<1000000/\40<1000000)
     ·exact Sd hi
    ·exact agf hi aH aO
def Sc (hc:n.ar id=some c){ch kind:Int}{s:List UInt8}{cl me:Nat}(aH:cl<1000000)(aO:me<1000000):Ck id ch.toNat (n.iT id c ch kind s cl me):=by
 unfold N.iT;split
 ·unfold N.begin;by_cases hA:¬(kind=1/\cl=10/\me=(if c.r.ph=1 then 31 else 40))\/ch≠0
  ·rw[if_pos hA];exact⟨ai,aH,aO⟩
  ·rw[if_neg hA];split
   ·split
    ·trivial
    ·exact⟨aH,aO⟩
   ·split
    ·split
     ·split
      ·split
       ·exact⟨ai,aH,aO⟩
       ·trivial
      ·exact⟨aH,aO⟩
     ·exact⟨aH,aO⟩
    ·exact⟨aH,aO⟩
 ·split
  ·split
   ·unfold N.control;split
    ·split
     ·trivial
     ·exact⟨aH,aO⟩
    ·exact⟨ai,aH,aO⟩
   ·unfold N.kY;split
    ·exact⟨ai,aH,aO⟩
    ·split
     ·rename_i h dO;exact agc (by unfold N.h?;rw[hc];simp[dO]) aH aO
     ·split
      ·split
       ·trivial
       ·exact⟨aH,aO⟩
      ·exact⟨ai,aH,aO⟩
  ·split
   ·trivial
   ·trivial
def Uj {w k:Nat}{s r:List UInt8}(h:fp w s=some (k,r)):k<256^w:=by
 unfold fp at h;split at h
 ·injection h with h;injection h with h1 h2;subst h1;exact TT (by simp;omega)
 ·cases h
def age (hc:n.ar id=some c){u:Un}:Ck id u.channel.toNat (n.fF id c u):=by
 unfold N.fF;split
 ·split
  ·rename_i h1;split
   ·rename_i h2;have:=Uj h1;have:=Uj h2;exact Sc hc aa aa
   ·exact(by decide:502<1000000/\0<1000000/\0<1000000)
  ·exact(by decide:502<1000000/\0<1000000/\0<1000000)
 ·exact Sc hc aa aa
def agd (hc:n.ar id=some c){u:Un}:IH id u.channel.toNat ((n.fF id c u).get n).1 ((n.fF id c u).get n).2:=by
 have:=age (n:=n) (id:=id) (c:=c) (u:=u) hc
 cases hr:n.fF id c u with
 |bad cl me=>rw[hr]at this;exact⟨ai,this⟩
 |ok n' er=>rw[hr]at this;exact this
def alI (T:Int)(K:Nat)(hc:n.ar id=some c){u:Un}(o:Ok T K [] n)(hs:u.jh.length<=5000)(dO:0<=u.channel):
 Ok (T+1) (K+101000) [id] ((n.fF id c u).get n).1/\(((n.fF id c u).get n).1.ar id).isSome:=by
 have:=Uc o hc hs dO
 cases hr:n.fF id c u with
 |bad cl me=>exact⟨(o.Qj al).mono aa aa,by rw[show((HO.bad cl me).get n).1=n from rfl,hc];rfl⟩
 |ok n' er=>rw[hr]at this;exact⟨this.1,this.2.1⟩
def acK (hc:n.ar id=some c){u:Un}:n.kz id u=((n.fF id c u).get n).1.fault id u.channel ((n.fF id c u).get n).2:=by unfold N.kz;rw[hc]
end
section
open Go Go.Conc Go.Proofs
section
variable {n:N}{n':N}{T:Int}{K:Nat}{no:Nat}{c:CN}{h:HN}{nm:List UInt8}{q:QN}{k:Int}{x:XN}{l:List Int}
variable {E:Env prog}{A:Lay}{H:Hid}{n:N}{X:Ext}{U:Hp}{id:Int}{no:Nat}{c:CN}{h:HN}{nm:List UInt8}{q:QN}{bf:Nat}{f:FR}{r:HR}
def aq.ni {Y:Ext}(a:aq A H n (Y++X) U):aq A H n X U:=by
 induction Y with
 |nil=>exact a
 |cons y Y ih=>exact ih a.oW
def acJ {u:Un}(a:aq A H n X U)(hc:n.ar id=some c){T:Int}{K:Nat}(O:Ok T K [] n)(hT:T+1<=1000000000000)(hK:K+101000<=100000000000000)(hs:u.jh.length<=5000)(dO:0<=u.channel/\u.channel<1000000):
 aw E 107 #[pV (A.conn id),uV u] U λe J=>e=.returned (.tuple #[])/\∃A',qB A A'/\At A' (n.kz id u) X J:=by
 rw[acK hc];obtain⟨O1,uJ⟩:=alI T K hc O hs dO.1;have EB:=agd hc (u:=u);refine aV func107 ntmps107 results107 λQ aD an aB=>?_;simp only[go_sem,seval,uV];refineλb3 ig=>?_;refine ag ?_;have ec:(Value.agg #[Value.int IntKind.i64 u.kind,Value.int IntKind.i64 u.channel,Value.string (B u.jh),Value.bool u.kC,Value.bool u.gv]).cells=[iV u.kind,iV u.channel,sV u.jh,.bool u.kC,.bool u.gv].toArray:=by first|rfl|simp[Value.cells]
 rw[ec];have a3:=a.iS ig (.cells [iV u.kind,iV u.channel,sV u.jh,.bool u.kC,.bool u.gv].toArray 135 (0,0));generalize hZ3:Hp.set U b3 _=Cg;replace a3:=dU a3 hZ3;refineλbf hbf=>?_;refine ag ?_;have of:=a3.iS hbf (bP ⟨u,u.jh,0,0⟩);generalize hZf:Hp.set Cg bf _=V7;replace of:=dU of hZf;refine dG ac9 (aeF (f:=⟨u,u.jh,0,0⟩) of hc (O.aeE aa aa hc) rfl rfl rfl dO (by simp only;omega)) ?_ (λch ae h=>?_)
 rotate_left
 ·obtain⟨_,_,_,_,h,_⟩:=h;cases h
 rintro v J ⟨A1,H1,b,f1,hv,kp,a5⟩
 cases hv
 generalize xN:((n.fF id c u).get n).1=n1 at*;generalize her:((n.fF id c u).get n).2=er at*;obtain⟨c1,cF⟩:=Option.isSome_iff_exists.1 uJ;refine ag ?_;refineλb6 pZ=>?_;have o6:=a5.iS pZ;refine ag ?_;generalize zc:Hp.set J b6 _=sF;have a6:=dU (o6 _) zc;refineλb7 Dh=>?_;have o7:=a6.iS Dh;refine ag ?_;generalize hZ7:Hp.set sF b7 _=Ao;have a7:=dU (o7 _) hZ7
 have fin:∀{A':Lay} {H':Hid} {n':N} {x y:Nat×Obj} {Y:Ext} {z w:Nat×Obj} {bW:Hp},aq A' H' n' (x::y::(Y++z::w::X)) bW->aq A' H' n' X bW:=λh=>by have h1:=aq.ni (Y:=_::_::_) h;exact h1.oW.oW
 have ek:A1.conn id=A.conn id:=by rw[kp.conn]
 have G2:n1.ph id=c1.r.ph:=u9 cF;have gc:=a7.eQ cF;rw[ek]at gc
 cases er with
 |nil=>
  simp only[go_sem,seval,Er.v];exact aD dz ao ⟨rfl,A1,kp,H1,fin a7⟩
 |soft e cl me=>
  obtain⟨he,hh⟩:=EB;by_cases h4:c1.r.ph=4
  ·simp only[go_sem,seval,Er.v,gc,h4];refine aD dz ao ⟨rfl,A1,kp,H1,?_⟩;have e1:n1.fault id u.channel (.soft e cl me)=n1:=by show(if n1.ph id=4 then n1 else _)=n1;rw[G2,if_pos h4]
   rw[e1];exact fin a7
  ·have e1:n1.fault id u.channel (.soft e cl me)=n1.soft id u.channel.toNat e cl me:=by show(if n1.ph id=4 then n1 else _)=_;rw[G2,if_neg h4]
   obtain⟨h,hh⟩:=Option.isSome_iff_exists.1 hh;have f6:Ao.f b6=_:=aq.ext1 a7;simp only at f6;simp only[go_sem,seval,Er.v,gc,h4];refine aL (Xn (i:=b) (t:=b6) a7.b0 f6) ?_;rintro v2 cV ⟨mf,rfl⟩
   cases mf
   have a8:=a7.Af (i:=1) rfl (.cells [pV b].toArray 296 (0,0));generalize Ke:Hp.set Ao b6 _=Ft;replace a8:=dU a8 Ke;simp only[List.set_cons_succ,List.set_cons_zero]at a8;have JO:=a8.eQ cF;rw[ek]at JO;have g6:Ft.f b6=some (.cells #[pV b] 296 (0,0)):=aq.ext1 a8
   have g3:Ft.f b3=some (.cells #[iV u.kind,iV u.channel,sV u.jh,.bool u.kC,.bool u.gv] 135 (0,0)):=by have:=a8.ext (i:=4) rfl;exact this
   obtain⟨lj,kj,nG,qV,xK⟩:=a8.chm cF;have qf:((u.channel.toNat:Int),pV (A1.chan id u.channel.toNat))∈c1.ch.map λe=>((e.1:Int),pV (A1.chan id e.1)):=List.mem_map.2 ⟨(u.channel.toNat,h),jb (Db hh cF),rfl⟩;obtain⟨st,bw⟩:=so qV xK qf;have ech:((u.channel.toNat:Nat):Int)=u.channel:=aa;rw[ech]at bw;refine ag ?_;refine AP [0,1,2,3,4,5,7,8,6,9] ?_;simp only[go_sem,seval,JO,g3,g6];refine j9 (b:=H1.chm id) (k:=u.channel) (l:=lj) (c:=kj) uP (z:=.pointer none) ah ?_ nG ?_ ?_
   ·exact au
   ·exact au
   have dt:((du lj u.channel).map (·.2.1)).getD (.pointer none)=pV (A1.chan id u.channel.toNat):=by rw[bw];rfl
   rw[if_neg Bool.false_ne_true,dt];refine⟨dJ g6,?_⟩;refine ag ?_;refine aL (apb a8 (by simp[Er.ext]) cF hh (O1.FX hh) (by have:=O1.Mg hh;omega) he (by have:=(O1.c _ _ cF).r.out;omega)) ?_;rintro v3 dp ⟨D7,H3,a9⟩
   cases D7
   refine kp3 JO g3 g6 ?_;refine aD dz ao ⟨rfl,A1,kp,H3,?_⟩;rw[e1];exact fin a9
 |cL e cl me=>
  by_cases h4:c1.r.ph=4
  ·simp only[go_sem,seval,Er.v,gc,h4];refine aD dz ao ⟨rfl,A1,kp,H1,?_⟩;have e1:n1.fault id u.channel (.cL e cl me)=n1:=by show(if n1.ph id=4 then n1 else _)=n1;rw[G2,if_pos h4]
   rw[e1];exact fin a7
  ·have e1:n1.fault id u.channel (.cL e cl me)=n1.cL id e cl me:=by show(if n1.ph id=4 then n1 else _)=_;rw[G2,if_neg h4]
   have f6:Ao.f b6=_:=aq.ext1 a7;have f7:Ao.f b7=_:=aq.eK a7;simp only at f6 f7;have fb:Ao.f b=some (.cells [iV e,iV cl,iV me].toArray 217 (0,0)):=a7.ext (i:=2) rfl;simp only[go_sem,seval,Er.v,gc,h4];refine aZ (Xm (i:=b) (t:=b6) fb a7.b0 f6) ?_;refine ag ?_;refine aL (Xl (i:=b) (t:=b7) a7.b0 f7) ?_;rintro v2 cV ⟨mf,rfl⟩
   cases mf
   have a8:=a7.Af (i:=0) rfl (.cells [pV b].toArray 214 (0,0));generalize Ke:Hp.set Ao b7 _=Ft;replace a8:=dU a8 Ke;simp only[List.set_cons_zero]at a8;have g7:Ft.f b7=some (.cells #[pV b] 214 (0,0)):=aq.eK a8;refine aJ g7 ?_;have hg:=Rr (E:=E) (e:=e) (cl:=cl) (me:=me) (b:=b) a8 (by simp[Er.ext]) cF (O1.FW cF) EB (by have:=(O1.c _ _ cF).r.out;omega);rw[ek]at hg;refine aL hg ?_;rintro v3 dp ⟨D7,H3,a9⟩
   cases D7
   refine ag ?_;refine aD dz ao ⟨rfl,A1,kp,H3,?_⟩;rw[e1];exact fin a9
end
def gD(l:List (Int×List UInt8)):List Value:=l.flatMap λe=>[iV e.1,sV e.2]
def HG(l:List (Int×List UInt8)):(gD l).length=2*l.length:=by
 induction l with
 |nil=>rfl
 |cons e l ih=>simp only[gD,List.flatMap_cons,List.length_append,List.length_cons,List.length_nil]at ih|-;rw[ih];omega
def amz(l m:List (Int×List UInt8)):gD (l++m)=gD l++gD m:=by simp[gD]
variable {c:CN}{l:List Int}
inductive PX (l:List (Int×List UInt8)):Value->Ext->Prop
 |none:l=[]->PX l (.slice Option.none 0 0) []
 |at(a c:Nat) (pad:List Value):l.length<=c->2*(c-l.length)<=pad.length->PX l (.slice (some ⟨a,0,Option.none⟩) l.length c) [(a,.cells (gD l++pad).toArray 55 (0,0))]
def V4(k:Nat):(Builtin.zeroCells oX.zero k).toList.length=k*2:=by rw[Array.length_toList];simp[Builtin.zeroCells,oX]
section
variable {n:N}{no:Nat}{c:CN}{h:HN}{x:XN}{l:List Int}
variable {E:Env prog}{A:Lay}{H:Hid}{n:N}{X:Ext}{U:Hp}{id:Int}{no:Nat}{c:CN}
variable {I:av}{ds:List Deferred}{dst:Option Tmp}{ty:TypeId}{pos:String}{af:Array Edge}{g:Option (Nat×Bool)}{nx:av->List Deferred->Hp->Prop}{pn:List PanicEntry->Hp->Prop}
def Xg {x y:Operand}{l:List (Int×List UInt8)}{v0:Value}{Xp:Ext}{id:Int}{s:List UInt8}{bn:Nat}(hv:PX l v0 Xp)(a:aq A H n (Xp++X) U)(hx:ak I x=v0)(hy:ak I y=.slice (some ⟨bn,0,none⟩) 1 1)(cD:U.f bn=some (.cells #[iV id,sV s] 55 (0,0)))(gn:l.length<=1000000)
 (h:∀v' Cr J,PX (l++[(id,s)]) v' Cr->aq A H n (Cr++X) J->nx (aC I dst v') ds J):
 aT E ⟨dst,.call ⟨.builtin .append,#[x,y],#[43,43]⟩,ty,pos,af,g⟩ I ds U nx pn:=by
 have hn:tB (ak I y)=some 1:=by rw[hy];rfl
 have iZ:jd U oX.z 1 (ak I y)=some #[iV id,sV s]:=by rw[hy];show jd U 2 1 _=_;simp[jd,cellsOf,cD]
 have il:∀n,n<=1000000->(2*(n+1)+192)*oX.bytes<=2^48:=by intro n hn;show(2*(n+1)+192)*24<=2^48;omega
 cases hv with
 |none h0=>
  subst h0;refine sM oX (base:=none) (l:=0) (c:=0) (n:=1) (old:=#[]) (new:=_) ah hx hn rfl iZ (il 0 aa) aa (λhc=>aa) ?_;intro hc b cap fC jZ;have a1:=aq.iS (X:=X) a fC (.cells (#[]++ #[iV id,sV s]++Builtin.zeroCells oX.zero (cap-(0+1))) 55);refine h _ [_] _ (.at b cap (Builtin.zeroCells oX.zero (cap-1)).toList (aY jZ) (by rw[V4];simp;omega)) ?_
  have e:(gD ([]++[(id,s)])++(Builtin.zeroCells oX.zero (cap-1)).toList).toArray= #[]++ #[iV id,sV s]++Builtin.zeroCells oX.zero (cap-(0+1)):=by apply Array.ext';simp[gD]
  rw[e];exact a1
 |«at»b c pad h1 h2=>
  have h3:U.f b=some (.cells (gD l++pad).toArray 55 (0,0)):=aq.eK (X:=X) a
  have hold:jd U oX.z l.length (.slice (some ⟨b,0,none⟩) l.length c)=some (gD l).toArray:=by
   show(cellsOf U ⟨b,0,none⟩ (l.length*2))=_;have e2:l.length*2=(gD l).length:=by rw[HG];omega
   have e:0+l.length*2<=(gD l).length+pad.length:=aa;simp only[cellsOf,h3,List.size_toArray,List.length_append,true_and,if_pos e];congr 1;apply Array.ext';simp[e2]
  refine sM oX (base:=some ⟨b,0,none⟩) (l:=l.length) (c:=c) (n:=1) (old:=(gD l).toArray) (new:=_) ah hx hn hold iZ (il _ gn) aa ?_ ?_
  ·intro hc;have th:2<=pad.length:=aa;have e2:l.length*2=(gD l).length:=by rw[HG];omega
   have e3:((gD l++pad).toArray.extract 0 (0+l.length*2)++ #[iV id,sV s]++(gD l++pad).toArray.extract (0+l.length*2+2) (gD l++pad).toArray.size)=(gD (l++[(id,s)])++pad.drop 2).toArray:=by
    have e5:gD (l++[(id,s)])=gD l++[iV id,sV s]:=by rw[amz];rfl
    rw[e5,Nat.zero_add,e2];generalize gD l=L;have d1:(L++pad).take L.length=L:=List.take_left' rfl;have d2:(L++pad).drop (L.length+2)=pad.drop 2:=List.drop_length_add_append ..;apply Array.ext';simp only[Array.toList_append,Array.toList_extract,List.extract_eq_take_drop,List.drop_zero,Nat.sub_zero,List.size_toArray,d1,d2];rw[List.take_of_length_le (by simp only[List.length_append,List.length_drop];omega)]
   refine⟨_,⟨_,_,h3,rfl,?_,by simp[dn],rfl⟩,?_⟩
   ·show 0+l.length*2+2<=_;simp[HG];omega
   ·show nx _ _ (U.set b (.cells ((gD l++pad).toArray.extract 0 (0+l.length*2)++ #[iV id,sV s]++(gD l++pad).toArray.extract (0+l.length*2+2) (gD l++pad).toArray.size) 55 (0,0)));rw[e3];have e4:l.length+1=(l++[(id,s)]).length:=al;rw[e4];refine h _ [(b,_)] _ (.at b c (pad.drop 2) (by simp;omega) (by simp;omega)) (aq.vg (X:=X) a _)
  ·intro hc b' cap fC jZ;have a1:=aq.iS a fC (.cells ((gD l).toArray++ #[iV id,sV s]++Builtin.zeroCells oX.zero (cap-(l.length+1))) 55)
   have e:(gD (l++[(id,s)])++(Builtin.zeroCells oX.zero (cap-(l.length+1))).toList).toArray=(gD l).toArray++ #[iV id,sV s]++Builtin.zeroCells oX.zero (cap-(l.length+1)):=by apply Array.ext';simp[gD]
   have e4:l.length+1=(l++[(id,s)]).length:=al;rw[<-e]at a1|-;rw[e4]at a1|-;refine h _ [(b',_)] _ (.at b' cap (Builtin.zeroCells oX.zero (cap-(l++[(id,s)]).length)).toList (aY jZ) (by rw[V4];omega)) ?_
   exact a1.Aa (λi=>if i=0 then 0 else i+1) (λi hi=>by
    cases i with
    |zero=>rfl
    |succ i=>rfl) (λi j _ _ e=>by split at e<;>split at e<;>omega)
end
section
variable {n:N}{n':N}{T:Int}{K:Nat}{no:Nat}{c:CN}{h:HN}{nm:List UInt8}{k:Int}{m:aR}{l:List Int}
variable {E:Env prog}{A:Lay}{H:Hid}{n:N}{X:Ext}{U:Hp}{id:Int}{no:Nat}{c:CN}
def aq.EA (a:aq A H n X U)(hc:n.ar id=some c):∃l k st,U.f A.mc=some (aU aW l k)/\pL l k/\(l.map λe=>(e.1,e.2.1)).Perm (n.aF.map λe=>(e.1,pV (A.conn e.1)))/\du l id=some (id,pV (A.conn id),st):=by obtain⟨l,k,h1,h2,h3⟩:=a.mc;obtain⟨st,bw⟩:=so (k:=id) (v:=pV (A.conn id)) h2 h3 (List.mem_map.2 ⟨(id,c),jb hc,rfl⟩);exact⟨l,k,st,h1,h2,h3,bw⟩
def aq.IW {ety:TypeId}{ys:List Value}{v:Value}{J:Hp}(a:aq A H n X U)(l:U.le J)(hs:Sl ety J ys v)(hf:∀a n c,v=.slice (some a) n c->U.f a.block=none):
 ∃Y,aq A H n (Y++X) J/\∀{A':Lay} {H':Hid} {n':N} {ae:Hp} {X':Ext},aq A' H' n' (Y++X') ae->Sl ety ae ys v:=by
 rcases hs.form with⟨h1,h2⟩|⟨b,pad,h1,h2⟩
 ·exact⟨[],a.le l,λa'=>by rw[h2];exact .nil h1⟩
 ·refine⟨[(b,.cells (ys++pad).toArray ety (0,0))],a.Ol l (hf _ _ _ h1) h2,λa'=>by rw[h1];exact .at b pad a'.eK⟩
def aq.Ga {Z Y:Ext}(a:aq A H n (Z++(Y++X)) U):aq A H n (Z++X) U:=by
 refine a.Aa (λi=>if i<Z.length then i else i+Y.length) (λi hi=>?_) (λi j _ _ e=>by split at e<;>split at e<;>omega);split
 ·rename_i h;rw[List.getElem?_append_left h,List.getElem?_append_left h]
 ·rename_i h;rw[List.getElem?_append_right aa,List.getElem?_append_right aa,List.getElem?_append_right aa];congr 1;omega
def amg (a:aq A H n X U){T:Int}{K:Nat}(O:Ok T K [] n)(hT:T+400<=1000000000000)(hK:K+40000000<=100000000000000):
 aw E 39 #[pV A.gw] U λe J=>∃v Xp H',e=.returned v/\PX n.lf.outs v Xp/\aq A H' n.lf.clean (Xp++X) J:=by
 refine aV func39 ntmps39 results39 λQ aD an aB=>?_;obtain⟨lc,kc,cF,dV,lD⟩:=a.mc;have Bn:lc.length=n.aF.length:=by have:=lD.length_eq;simpa using this
 have nH:=O.lc;refine aJ a.jX ?_;refine aL (M1 cF dV.old dV.nd aa) ?_;rintro v J ⟨hle,v',ys,hv,p1,p2,p3,p4⟩
 cases hv
 obtain rfl:ys=n.aF.map (·.1):=by
  refine Ah BF FM (p1.trans ?_) (p2 aa) ?_
  ·have:=lD.map (·.1);simpa[List.map_map,Function.comp_def]using this
  ·have:=O.sc;exact this.imp λh=>by simp[kg];omega
 obtain⟨X1,a1,rn⟩:=a.AB hle p3 p4;obtain⟨base,cap,rfl,_⟩:=p3.read;have hl:(n.aF.map (·.1)).length=n.aF.length:=al;refine aJ hl ?_;refine dh (λm I ds ae=>ds=[]/\I 0=pV A.gw/\I 14=.slice base n.aF.length cap/\I 15=iV n.aF.length/\∃(j:Nat) (H':Hid),j+m=n.aF.length/\I 16=iV j/\aq A H' (n.leaves ((n.aF.map (·.1)).take j)) X1 ae) n.aF.length ?_ ?_
 ·refine⟨rfl,?_,?_,?_,0,H,al,?_,a1⟩<;>exact aQ hl
 rintro m I ds cY Y ⟨rfl,h0,mD,kS,j,H1,xL,xx,aj⟩ hY
 cases m with
 |succ m=>
  have hj:j<n.aF.length:=aa;have uo:j<(n.aF.map (·.1)).length:=aa;have c0:(j:Int)<n.aF.length:=aa;obtain⟨_,sj⟩:=rn aj;obtain⟨b2,yX,e2,r2⟩:=sj.read;simp only[Value.slice.injEq]at e2;obtain⟨rfl,_,_⟩:=e2;obtain⟨ba,L,rfl,ij,hL⟩:=r2 j (aY hj);simp only[List.getElem_map,aW]at hL;have w1:=fT j;have hs:=ajn (n:=n) uo;simp only[List.getElem_map]at hs;generalize fX:n.aF[j].1=id at*;have qT:(n.ar id).isSome:=mi.2 (by rw[<-fX];exact List.mem_map_of_mem (f:=(·.1)) (List.getElem_mem hj));obtain⟨cj,je⟩:=Option.isSome_iff_exists.1 (Ec qT (EU (n:=n) (l:=(n.aF.map (·.1)).take j)));obtain⟨lm,km,st,pf,ur,zu,KL⟩:=aj.EA je;have dt:((du lm id).map (·.2.1)).getD (.pointer none)=pV (A.conn id):=by rw[KL];rfl
  have qh:=u9 je;simp only[go_sem,seval,mD,kS,xx,c0,decide_true];refine⟨aa,?_⟩;refine fR ij hL h0 aj.jX ?_;refine j9 (b:=A.mc) (k:=id) (l:=lm) (c:=km) uO (z:=.pointer none) ah ?_ pf ?_ ?_
  ·exact au
  ·exact au
  rw[if_neg Bool.false_ne_true,dt];by_cases h5:cj.r.ph=5
  ·rw[if_pos (by rw[qh];exact h5)]at hs;refine bu (aj.eQ je) h5 ?_;refine aL (LR aj je ((O.leaves).FW je)) ?_;rintro v2 cV ⟨mf,H2,a2⟩
   cases mf
   refine bu xx w1 ?_;refine hY m _ _ _ _ aa ⟨rfl,?_,?_,?_,j+1,H2,aa,?_,by rw[hs];exact a2⟩ ao
   ·exact aQ h0
   ·exact aQ mD
   ·exact aQ kS
   ·exact au
  ·rw[if_neg (by rw[qh];exact h5)]at hs;refine fR (aj.eQ je) h5 xx w1 ?_;refine hY m _ _ _ _ aa ⟨rfl,?_,?_,?_,j+1,H1,aa,?_,by rw[hs];exact aj⟩ ao
   ·exact aQ h0
   ·exact aQ mD
   ·exact aQ kS
   ·exact au
 |zero=>
  have c0:¬(j:Int)<n.aF.length:=aa;obtain rfl:j=n.aF.length:=aa;rw[show(n.aF.map (·.1)).take n.aF.length=n.aF.map (·.1)from List.take_of_length_le al]at aj;obtain⟨aj,_⟩:=rn aj;have hOl:=O.leaves (l:=n.aF.map (·.1));simp only[go_sem,seval,h0,kS,xx,c0,decide_false,aj.jX];have agL:=U0 (E:=E) (auu:=ob T K [] 400) (λn j=>j.HX hT hK) (λn nm n' j h=>j.step h) aj hOl.MR;refine aL agL ?_;rintro v3 dp ⟨D7,⟨H3,a3⟩,J3⟩
  cases D7
  rw[<-E9]at a3 J3;have Os:=J3.ok;have nd:=Os.nc;have as4:=Os.lc;obtain⟨ls,ks,j0,iK,D4⟩:=a3.mc;have hls:ls.length=n.lf.aF.length:=by have:=D4.length_eq;simpa using this
  generalize hsn:n.lf=s at*;refine bu h0 a3.jX ?_;refine aL (M1 j0 iK.old iK.nd aa) ?_;rintro v fU ⟨ow,v',ys,hv,q1,q2,q3,q4⟩
  cases hv
  obtain rfl:ys=s.aF.map (·.1):=by
   refine Ah BF FM (q1.trans ?_) (q2 aa) ?_
   ·have:=D4.map (·.1);simpa[List.map_map,Function.comp_def]using this
   ·have:=Os.sc;exact this.imp λh=>by simp[kg];omega
  obtain⟨Y2,a4,Ab⟩:=a3.IW ow q3 q4;obtain⟨Cw,rF,rfl,_⟩:=q3.read;have il:(s.aF.map (·.1)).length=s.aF.length:=al;refine aJ il ?_;refine dh (λm I ds ae=>ds=[]/\I 0=pV A.gw/\I 43=.slice Cw s.aF.length rF/\I 44=iV s.aF.length/\∃(j:Nat) (H':Hid) (v:Value) (Xp:Ext),j+m=s.aF.length/\I 45=iV j/\I 6=v/\PX (s.os j) v Xp/\aq A H' (s.cl j) (Xp++(Y2++X)) ae) s.aF.length ?_ ?_
  ·refine⟨rfl,?_,?_,?_,0,H3,_,[],al,?_,rfl,?_,by rw[aaG];exact a4⟩<;>simp only[go_sem,seval,il]
   ·exact h0
   ·exact .none rfl
  clear h0 mD kS xx;rintro m I ds cY Y ⟨rfl,h0,vQ,ud,j,H1,v0,Xp,xL,AZ,h6,C9,aj⟩ hY
  cases m with
  |succ m=>
   have hj:j<s.aF.length:=aa;have c0:(j:Int)<s.aF.length:=aa;have sj:=Ab (aq.ni aj);obtain⟨b2,yX,e2,r2⟩:=sj.read;simp only[Value.slice.injEq]at e2;obtain⟨rfl,_,_⟩:=e2;obtain⟨ba,L,rfl,ij,hL⟩:=r2 j (aY hj);simp only[List.getElem_map,aW]at hL;have w1:=fT j;have je:=aaD nd hj;have kk:= @aaF s j nd hj;have kd:= @aaE s j nd hj;have ko:=al7 hj;have cku:=Jj nd hj;generalize fX:s.aF[j].1=id at*;generalize cS:s.aF[j].2=cj at*;obtain⟨lm,km,st,pf,ur,zu,KL⟩:=aj.EA je;have dt:((du lm id).map (·.2.1)).getD (.pointer none)=pV (A.conn id):=by rw[KL];rfl
   simp only[go_sem,seval,vQ,ud,AZ,c0,decide_true];refine⟨aa,?_⟩;refine fR ij hL h0 aj.jX ?_;refine j9 (b:=A.mc) (k:=id) (l:=lm) (c:=km) uO (z:=.pointer none) ah ?_ pf ?_ ?_
   ·exact au
   ·exact au
   rw[if_neg Bool.false_ne_true,dt];by_cases ho:cj.r.out=[]
   ·simp only[go_sem,seval,aj.eQ je,ho,decide_true];have a5:=aq.nS aj je λr=>{r with out:=[]};refine ag ?_;generalize Kd:Hp.set cY (A.conn id) _=dx;replace a5:=dU a5 Kd;have lE:((s.cl j).bE id λr=>{r with out:=[]}).ar id=some {cj with r:={cj.r with out:=[]}}:=by rw[qH,if_pos rfl,je];rfl
    by_cases h5:cj.r.ph=5
    ·refine bN h5 a5.jX h0 ?_;obtain⟨l5,k5,Aj,LZ,Ew,L0,m54⟩:=a5.EA lE;refine CK (b:=A.mc) (k:=id) (l:=l5) (c:=k5) uO Ew.uniq ?_ LZ ?_ ?_
     ·exact au
     ·exact au
     obtain⟨d1,d2⟩:=Ey Ew L0 id
     have em:((((s.cl j).bE id λr=>{r with out:=[]}).aF.map λe=>(e.1,pV (A.conn e.1))).filter λe=>decide (e.1≠id))=(cB ((s.cl j).bE id λr=>{r with out:=[]}).aF id).map λe=>(e.1,pV (A.conn e.1)):=by unfold cB;rw[List.filter_map];rfl
     rw[em]at d2;have a6:=a5.PQ id ⟨_,_,rfl,d1,d2⟩;rw[kd h5]at a6;refine bu AZ w1 ?_;refine hY m _ _ _ _ aa ⟨rfl,?_,?_,?_,j+1,H1,v0,Xp,aa,?_,?_,(by rw[ko,if_pos ho,List.append_nil];exact C9),a6⟩ ao
     ·exact aQ h0
     ·exact aQ vQ
     ·exact aQ ud
     ·exact au
     ·exact aQ h6
    ·refine bN h5 AZ w1 ?_;rw[kk h5]at a5;refine hY m _ _ _ _ aa ⟨rfl,?_,?_,?_,j+1,H1,v0,Xp,aa,?_,?_,(by rw[ko,if_pos ho,List.append_nil];exact C9),a5⟩ ao
     ·exact aQ h0
     ·exact aQ vQ
     ·exact aQ ud
     ·exact au
     ·exact aQ h6
   ·refine bu (aj.eQ je) ho ?_;refineλbn cD=>?_;have fr:=λo=>aj.fresh cD o;refine ag ?_;generalize zc:Hp.set cY bn _=sF;have a6:=dU (fr _) zc;have Ks:sF.f bn=some (.cells #[iV id,sV cj.r.out] 55 (0,0)):=by rw[<-zc];exact Hp.bD _ _
    refine Xg C9 a6 (id:=id) (s:=cj.r.out) ?_ ?_ Ks (by have:=al6 (n:=s) (j:=j);omega) ?_
    ·exact aQ h6
    ·exact au
    intro v7 Og pH Q7 a7;have a5:=aq.nS a7 je λr=>{r with out:=[]};refine aJ (a7.eQ je) ?_;generalize Kd:Hp.set pH (A.conn id) _=dx;replace a5:=dU a5 Kd;have lE:((s.cl j).bE id λr=>{r with out:=[]}).ar id=some {cj with r:={cj.r with out:=[]}}:=by rw[qH,if_pos rfl,je];rfl
    by_cases h5:cj.r.ph=5
    ·refine bN h5 a5.jX h0 ?_;obtain⟨l5,k5,Aj,LZ,Ew,L0,m54⟩:=a5.EA lE;refine CK (b:=A.mc) (k:=id) (l:=l5) (c:=k5) uO Ew.uniq ?_ LZ ?_ ?_
     ·exact au
     ·exact au
     obtain⟨d1,d2⟩:=Ey Ew L0 id
     have em:((((s.cl j).bE id λr=>{r with out:=[]}).aF.map λe=>(e.1,pV (A.conn e.1))).filter λe=>decide (e.1≠id))=(cB ((s.cl j).bE id λr=>{r with out:=[]}).aF id).map λe=>(e.1,pV (A.conn e.1)):=by unfold cB;rw[List.filter_map];rfl
     rw[em]at d2;have a6:=a5.PQ id ⟨_,_,rfl,d1,d2⟩;rw[kd h5]at a6;refine bu AZ w1 ?_;refine hY m _ _ _ _ aa ⟨rfl,?_,?_,?_,j+1,H1,v7,Og,aa,?_,?_,(by rw[ko,if_neg ho];exact Q7),a6⟩ ao
     ·exact aQ h0
     ·exact aQ vQ
     ·exact aQ ud
     ·exact au
     ·exact aQ h6
    ·refine bN h5 AZ w1 ?_;rw[kk h5]at a5;refine hY m _ _ _ _ aa ⟨rfl,?_,?_,?_,j+1,H1,v7,Og,aa,?_,?_,(by rw[ko,if_neg ho];exact Q7),a5⟩ ao
     ·exact aQ h0
     ·exact aQ vQ
     ·exact aQ ud
     ·exact au
     ·exact aQ h6
  |zero=>
   have c0:¬(j:Int)<s.aF.length:=aa;obtain rfl:j=s.aF.length:=aa;rw[aaC]at aj;rw[al5]at C9;simp only[go_sem,seval,ud,AZ,h6,c0,decide_false];refine an aI ao ⟨v0,Xp,H1,by simp[up],C9,aj.Ga⟩
end
def yD(A:Lay)(n:N)(X:Ext)(U:Hp):Prop:=∃A',qB A A'/\At A' n X U
def N.more(n:N)(id:Int)(s:List UInt8):N:=n.bE id λr=>{r with rest:=r.rest++s}
def N.fr(n:N)(id:Int):Int:=((n.ar id).map λ(c:CN)=>c.r.frame).getD 0
section
variable {n:N}{n':N}{T:Int}{K:Nat}{ex:List Int}{no:Nat}{c:CN}{h:HN}{nm:List UInt8}{k:Int}{m:aR}{l:List Int}{β:Type}{F:CR->β}
variable {E:Env prog}{A:Lay}{H:Hid}{n:N}{X:Ext}{U:Hp}{id:Int}{no:Nat}{c:CN}
def qB.trans {A B C:Lay}(a:qB A B)(b:qB B C):qB A C:=⟨b.gw.trans a.gw,b.br.trans a.br,b.conn.trans a.conn⟩
def JK (hc:n.ar id=some c):n.fr id=c.r.frame:=by unfold N.fr;rw[hc];rfl
def CE (a:yD A n X U)(hc:n.ar id=some c):∃m,U.f (A.conn id)=some (.cells (c.r.vals A.gw id m).toArray 90 (0,0)):=by obtain⟨A',k,H,a⟩:=a;have:=a.conn hc;rw[k.conn,k.gw]at this;exact⟨_,this⟩
def JR (A:Lay)(id:Int)(X:Ext):FS where
 γ:=N
 aut:=λn U=>pK id n/\yD A n X U
 auu:=λn U=>yD A n X U
 K:=λn U=>(n.ar id).isSome/\yD A n X U
 oH:=λn s=>pK id (n.more id s)
 bc:=A.conn id
 bg:=A.gw
 bb:=A.br
 ph:=λn=>n.ph id
 fr:=λn=>n.fr id
 rest:=λn=>n.rest id
 nx:=λa u b=>pK id a/\u=(a.cut id).1/\b=(a.cut id).2
 un:=λb u c=>(∃a,pK id a/\a.ph id≠5/\u.idle=false/\u=(a.cut id).1/\b=(a.cut id).2)/\c=b.unit id u
 sv:=λc d=>d=c.serve
 add:=λn s=>n.more id s
 μ:=λn=>n.mu id
 conn:=by rintro a U ⟨F,h⟩;obtain⟨c,hc⟩:=Option.isSome_iff_exists.1 F.is;obtain⟨m,hm⟩:=CE h hc;exact⟨_,hm,⟨rfl,rfl,by rw[u9 hc];rfl,by rw[JK hc];rfl⟩,by rw[Ad hc];rfl⟩
 CE:=by rintro a U ⟨is,h⟩;obtain⟨c,hc⟩:=Option.isSome_iff_exists.1 is;obtain⟨m,hm⟩:=CE h hc;exact⟨_,hm,⟨rfl,rfl,by rw[u9 hc];rfl,by rw[JK hc];rfl⟩⟩
 gate:=by rintro a U ⟨is,A',k,H,h⟩;have:=h.gw;rw[k.gw,k.br]at this;exact⟨_,this,rfl,rfl⟩
 grow:=by
  rintro a U l s gB ⟨F,A',k,H,h⟩ hl;refine⟨gB,A',k,H,?_⟩;obtain⟨c,hc⟩:=Option.isSome_iff_exists.1 F.is;have h1:=h.conn hc;have h2:=h.nS hc λr=>{r with rest:=r.rest++s};rw[k.conn,k.gw]at h1 h2
  have e:l=c.r.vals A.gw id (H.chm id):=by rw[h1]at hl;simp only[Option.some.injEq,fN,Obj.cells.injEq,and_true]at hl;exact(List.toArray_inj hl).symm
  subst e;rw[Ad hc];exact h2
 small:=by rintro a U ⟨F,_⟩;exact F.rest
 Up:=λa s=>wV (Kp.bE λ_=>rfl)
 Qx:=λa s=>by unfold N.fr N.more;rw[qH,if_pos rfl,Option.map_map];rfl
 next:=by rintro E a U ⟨F,A',k,H,h⟩;obtain⟨c,hc⟩:=Option.isSome_iff_exists.1 F.is;obtain⟨T,K,O,_,_⟩:=F.ex;have gM:=(O.c _ _ hc).r.frame;have h1:=h.conn hc;rw[k.conn,k.gw]at h1;have h2:=h.nS hc λr=>{r with kA:=(dK c.r.kA c.r.rest c.r.frame).2.1,rest:=(dK c.r.kA c.r.rest c.r.frame).2.2};rw[k.conn,k.gw]at h2;have hn:=akI (E:=E) (l:=c.r.vals A.gw id (H.chm id)) (s:=c.r.rest) (size:=c.r.frame) (gr:=c.r.kA) h1 rfl rfl ⟨aa,aa⟩;rw[JK hc];refine hn.mono λe J ⟨e1,e2⟩=>⟨(a.cut id).1,(a.cut id).2,⟨F,rfl,rfl⟩,⟨A',k,H,?_⟩,by rw[CG hc];exact e1⟩;rw[CG hc];exact h2.le e2
 unit:=by rintro E a u b U hp ⟨F,rfl,rfl⟩ hi ⟨A',k,H,h⟩;obtain⟨c,hc⟩:=Option.isSome_iff_exists.1 F.is;obtain⟨T,K,O,hT,hK⟩:=F.ex;have kc:=CH O hc;have O1:=O.cut hc;have cF:=yY hc;have QZ:=aqI (E:=E) (u:=(a.cut id).1) h cF O1.cfg.ok (by have:=(O1.c _ _ cF).r.out;omega) (O1.FW cF) (λ_ _ _=>acJ h cF O1 aa aa kc.pay kc.ch);rw[k.conn]at QZ;refine QZ.mono ?_;rintro e J ⟨rfl,A2,k2,h2⟩;exact⟨_,⟨⟨a,F,hp,hi,rfl,rfl⟩,rfl⟩,⟨(Kp.unit BA).is (by rw[cF];rfl),A2,k.trans k2,h2⟩,rfl⟩
 serve:=by rintro E b u c U ⟨⟨a,F,hp,hi,rfl,rfl⟩,rfl⟩ ⟨is,A',k,H,h⟩;obtain⟨c0,hc⟩:=Option.isSome_iff_exists.1 F.is;obtain⟨T,K,O,hT,hK⟩:=F.ex;have kc:=CH O hc;have O1:=O.cut hc;have O2:=O1.unit (id:=id) (u:=(a.cut id).1) kc.pay kc.ch.1 (by rw[yY hc];rfl);have hs:=U0 (E:=E) (auu:=ob (T+1) (K+102000) [] 400) (λn j=>j.HX aa aa) (λn nm n' j h=>j.step h) h O2.MR;rw[k.br]at hs;refine hs.mono ?_;rintro e J ⟨rfl,h2,_⟩;exact⟨_,rfl,⟨(F.step hp hi).1,A',k,h2⟩,rfl⟩
 idle:=by rintro a u b U ⟨F,rfl,rfl⟩ hi h;exact⟨(F.abb hi).1,h⟩
 dec:=by rintro a u b c d hp ⟨F,rfl,rfl⟩ hi ⟨_,rfl⟩ rfl;exact(F.step hp hi).2
def Qn {f:Nat}(h:n.ph id=5):n.iz (f+1) id=n:=by unfold N.iz;exact if_pos h
def acm {f:Nat}(h:n.ph id≠5)(hi:(n.cut id).1.idle=true):n.iz (f+1) id=(n.cut id).2:=by unfold N.iz;rw[if_neg h,if_pos hi]
def acn {f:Nat}(h:n.ph id≠5)(hi:(n.cut id).1.idle=false):n.iz (f+1) id=(((n.cut id).2.unit id (n.cut id).1).serve).iz f id:=by rw[N.iz,if_neg h,if_neg (by rw[hi];simp)]
def adT {A:Lay}{id:Int}{X:Ext}{a b:(JR A id X).γ}(h:(JR A id X).Loop a b):∀f,N.mu a id<f->N.iz f a id=b:=by
 induction h with
 |gone hp=>
  intro f hf
  cases f with
  |zero=>omega
  |succ f=>exact Qn hp
 |idle hp hn hi=>
  obtain⟨F,rfl,rfl⟩:=hn;intro f hf
  cases f with
  |zero=>omega
  |succ f=>exact acm hp hi
 |step hp hn hi hu hs _ ih=>
  obtain⟨F,rfl,rfl⟩:=hn;obtain⟨_,rfl⟩:=hu;obtain rfl:=hs;intro f hf
  cases f with
  |zero=>omega
  |succ f=>
   have:=(F.step hp hi).2;exact(acn hp hi).trans (ih f aa)
def acj {W:World}{φ:Hp}{s:List UInt8}(F:pK id n)(F2:pK id (n.more id s))(h:yD A n X U)(hp:n.ph id≠5)(hs:s.length<=4611686018427387904){f:Nat}(hf:(n.more id s).mu id<f):
 aw (nU W φ) 40 #[pV (A.conn id),sV s] U λe J=>e=.returned (.tuple #[])/\yD A ((n.more id s).iz f id) X J:=by
 refine(acr (JR A id X) (W:=W) (φ:=φ) (a:=n) (ch:=s) F2 ⟨F,h⟩ hp hs).mono ?_;rintro e J ⟨rfl,b,hl,hI⟩;refine⟨rfl,?_⟩;have:=adT hl f hf;have h2:yD A b X J:=hI.2;rw[<-this]at h2;exact h2
end
def Gw(g:Nat)(n:N)(X:Ext)(U:Hp):Prop:=∃A,A.gw=g/\At A n X U
section
variable {n:N}{T:Int}{K:Nat}{no:Nat}{c:CN}{h:HN}{k:Int}{x:XN}{m:aR}{l:List Int}
variable {E:Env prog}{A:Lay}{H:Hid}{n:N}{X:Ext}{U:Hp}{id:Int}{no:Nat}{c:CN}{g:Nat}{T:Int}
def aq.aj4 (a:aq A H n X U)(hc:n.ar id=none):∃l k,U.f A.mc=some (aU aW l k)/\du l id=none:=by obtain⟨l,k,h1,h2,h3⟩:=a.mc;refine⟨l,k,h1,map_none h3 λe he hx=>?_⟩;obtain⟨e0,h0,rfl⟩:=List.mem_map.1 he;exact jc hc e0 h0 hx
def NW (g:Nat)(m:N)(X:Ext)(ev:Value->Fin)(e:Fin)(J:Hp):Prop:=∃v Xp,e=ev v/\PX m.outs v Xp/\Gw g m.clean (Xp++X) J
def Qm {W:World}{φ:Hp}{s:List UInt8}(h:Gw g n X U)(aut:Inv T n)(hs:s.length<=900000)(hT:T+402*(s.length+4107:Nat)+2000<=1000000000000):
 aw (nU W φ) 25 #[pV g,iV id,sV s] U λe J=>match n.ar id with
  |none=>e=.returned (.tuple #[.slice none 0 0,.iface 51 (iV 3)])/\J=U
  |some _=>NW g (n.feed id s) X (λv=>.returned (.tuple #[v,.nilIface])) e J:=by
 obtain⟨A,rfl,H,a⟩:=h
 cases hc:n.ar id with
 |none=>
  obtain⟨l,k,h1,h2⟩:=a.aj4 hc;exact aci a.gw h1 h2
 |some c=>
  simp only[];obtain⟨l,k,st,h1,h2,h3,h4⟩:=a.EA hc
  have fin:∀{m:N} {A':Lay} {bW:Hp},qB A A'->At A' m X bW->(O:∃T K,Ok T K [] m/\T+400<=1000000000000/\K+40000000<=100000000000000)->m.lf=n.feed id s->
   aw (nU W φ) 39 #[pV A.gw] bW λe' bW=>∃v,e'=.returned v/\NW A.gw (n.feed id s) X (λv=>.returned (.tuple #[v,.nilIface])) (.returned (.tuple #[v,.nilIface])) bW:=by
   rintro m A' bW k ⟨H',a'⟩ ⟨T,K,O,o1,o2⟩ he;have:=amg (E:=nU W φ) a' O o1 o2;rw[k.gw]at this;refine this.mono ?_;rintro e J ⟨v,Xp,H2,rfl,hp,h2⟩;rw[he]at hp h2;exact⟨v,rfl,v,Xp,rfl,hp,A',k.gw,H2,h2⟩
  by_cases gh:s=[]
  ·subst gh;refine ach a.gw h1 h4 (fin (.refl A) ⟨H,a⟩ ⟨T,0,aut.ok,aa,aa⟩ ?_);unfold N.feed;rw[if_pos rfl]
  ·refine acg a.gw h1 h4 (a.conn hc) gh ?_;have a1:=a.nS hc λr=>{r with recv:=n.clock}
   have hm:(n.bE id λr=>{r with recv:=n.clock}).more id s=n.recv id s:=by unfold N.more N.recv N.bE;rw[Nq]
   have hr:=UL (s:=s) hc;have Br:=aut.rest id;have O1:Ok T 0 [] (n.bE id λr=>{r with recv:=n.clock}):=aut.ok.bE (Nat.le_refl _) λc hc=>⟨(aut.ok.c _ _ hc).r.out,(aut.ok.c _ _ hc).r.frame,(aut.ok.c _ _ hc).r.de⟩;have r1:(n.bE id λr=>{r with recv:=n.clock}).rest id=n.rest id:=UO (f:=λr=>{r with recv:=n.clock}) λ_=>rfl;have m1:=Hv (n:=n.bE id λr=>{r with recv:=n.clock}) (id:=id);have m2:=Hv (n:=n.recv id s) (id:=id);rw[r1]at m1;rw[hr,List.length_append]at m2
   have F1:pK id (n.bE id λr=>{r with recv:=n.clock}):=by
    refine⟨⟨T,0,O1,?_,?_⟩,zI (by rw[hc];rfl),by rw[r1];omega⟩
    ·omega
    ·omega
   have F2:pK id ((n.bE id λr=>{r with recv:=n.clock}).more id s):=by
    rw[hm];refine⟨⟨T,0,aut.ok.recv,?_,?_⟩,SV (by rw[hc];rfl),by rw[hr,List.length_append];omega⟩
    ·omega
    ·omega
   have qh:(n.bE id λr=>{r with recv:=n.clock}).ph id≠5:=by have:(n.bE id λr=>{r with recv:=n.clock}).ph id=n.ph id:=wV (Kp.bE λ_=>rfl);rw[this,u9 hc];exact aut.ph _ _ hc
   have C1:=acj (W:=W) (φ:=φ) (s:=s) (f:=((n.recv id s).rest id).length+2) F1 F2 ⟨A,.refl A,H,a1⟩ qh aa (by rw[hm,hr,List.length_append];omega);rw[hm]at C1;refine C1.mono ?_;rintro e J ⟨rfl,A',k,h5⟩;refine⟨rfl,fin k h5 ?_ ?_⟩
   ·have f1:=aut.ok.tW (s:=s) hc;exact⟨_,_,f1.ok,aa,aa⟩
   ·unfold N.feed;rw[if_neg gh];rfl
def aa0 (h:Gw g n X U)(aut:Inv T n)(hl:n.aF.length<=3)(mH:n.last<=1000000000):
 aw E 37 #[pV g] U λe J=>e=.returned (.tuple #[iV (n.last+1),.nilIface])/\Gw g n.connect X J:=by
 obtain⟨A,rfl,H,a⟩:=h;obtain⟨l,k,h1,h2,h3⟩:=a.mc;have h0:=aut.ok.last;have DK:l.length=n.aF.length:=by have:=h3.length_eq;simpa using this
 refine(aaZ a.gw h1 aa h2.uniq aa aa).mono ?_;rintro e J ⟨b,m,rfl,hb,hm,aE,rfl⟩;refine⟨rfl,?_⟩;have eC:=aut.ok.Mf;have a1:=a.aoM n.clock (n.last+1);have GI:∀{x:Nat},U.f x=none->¬x=A.gw:=λhx e=>by rw[e,a.gw]at hx;cases hx
 have GQ:=Ez h2 h3 (k:=n.last+1) (λe he hx=>by
  obtain⟨e0,h0,rfl⟩:=List.mem_map.1 he
  exact jc eC e0 h0 hx) (pV b)
 have a2:=a1.aky (id:=n.last+1) (m:=m) (b:=b) ⟨aut.ok.w.un,aut.ok.w.xq,aut.ok.w.xh,aut.ok.w.co,aut.ok.w.qc⟩ eC ((Hp.ay (GI hm)).trans hm) ((Hp.ay (GI hb)).trans hb) aE ⟨0,[],false,0,n.cfg.frame,0,n.clock,n.clock,[]⟩ (o:=aU aW (jB l (n.last+1) (pV b) k) (jN l (n.last+1) k)) ⟨_,_,rfl,GQ.1,?_⟩
 ·exact⟨A.rq (n.last+1) b,rfl,_,a2⟩
 ·refine GQ.2.trans ?_;rw[List.map_append]
  have e1:(n.aF.map λe=>(e.1,pV ((A.rq (n.last+1) b).conn e.1)))=n.aF.map λe=>(e.1,pV (A.conn e.1)):=List.map_congr_left λe he=>by have:¬e.1=n.last+1:=jc eC e he;simp[Lay.rq,this]
  rw[e1];have e2:([(n.last+1,(⟨⟨0,[],false,0,n.cfg.frame,0,n.clock,n.clock,[]⟩,[]⟩:CN))].map λe=>(e.1,pV ((A.rq (n.last+1) b).conn e.1)))=[(n.last+1,pV b)]:=by simp[Lay.rq]
  rw[e2];exact(List.perm_append_singleton _ _).symm
structure Base (U:Hp) (L1:List Value):Prop where
 b0:U.f 0=some (.cells #[rT 45] 143 (0,0))
 b1:U.f 1=some (.cells L1.toArray 396 (0,0))
 l1:L1=BR
def akv {cfg:kt}{L1:List Value}(hb:Base U L1)(G:FA cfg)(hq:1<=cfg.queue)(hc:1<=cfg.jr)(Dk:cfg.gG<=50)(lC:0<=cfg.body):
 aw E 32 #[.agg cfg.vals.toArray] U λe J=>∃g,e=.returned (.tuple #[pV g,.nilIface])/\Gw g (N.new cfg) [] J:=by
 have g1:=G.jr;have g2:=G.frame;have g3:=G.queue;have g4:=G.body;have g5:=G.ok.gG;refine(aku aa aa aa aa aa aa aa aa aa aa).mono ?_;rintro e J ⟨g,br,mq,mc,rfl,k1,k2,k3,k4,n1,n2,n3,n4,n5,n6,rfl⟩;have h0:=hb.b0;have h1:=hb.b1;have z0:∀{x:Nat},U.f x=none->¬0=x:=λhx e=>by subst e;rw[h0]at hx;cases hx
 have z1:∀{x:Nat},U.f x=none->¬1=x:=λhx e=>by subst e;rw[h1]at hx;cases hx
 refine⟨g,rfl,⟨g,br,mq,mc,λ_=>0,λ_ _=>0,λ_ _=>0,λ_ _=>0,λ_=>0,λ_=>0,L1,hb.l1⟩,rfl,⟨λ_=>0,λ_=>.nilIface,λ_=>.nilIface⟩,⟨λr v hv=>?_,λr r' hr eV he=>?_⟩⟩
 ·cases r with
  |b0=>cases hv;exact⟨_,by show Hp.f _ 0=_;rw[Hp.ay (z0 k1),Hp.ay (z0 k4),Hp.ay (z0 k2),Hp.ay (z0 k3)];exact h0,rfl⟩
  |b1=>cases hv;exact⟨_,by show Hp.f _ 1=_;rw[Hp.ay (z1 k1),Hp.ay (z1 k4),Hp.ay (z1 k2),Hp.ay (z1 k3)];exact h1,rfl⟩
  |gw=>cases hv;exact⟨_,aX,rfl⟩
  |br=>cases hv;exact⟨_,by show Hp.f _ br=_;rw[Hp.ay (λe=>n5 e.symm),Hp.ay (λe=>n3 e.symm)];exact Hp.bD _ _,rfl⟩
  |mq=>cases hv;exact⟨_,by show Hp.f _ mq=_;rw[Hp.ay (λe=>n4 e.symm),Hp.ay (λe=>n2 e.symm),Hp.ay (λe=>n1 e.symm)];exact Hp.bD _ _,[],0,rfl,⟨by simp[jT],al,al⟩,by simp[N.new]⟩
  |mc=>cases hv;exact⟨_,by show Hp.f _ mc=_;rw[Hp.ay (λe=>n6 e.symm)];exact Hp.bD _ _,[],0,rfl,⟨by simp[jT],al,al⟩,by simp[N.new]⟩
  |_=>cases hv
 ·have q1:=z0 k1;have q2:=z0 k2;have q3:=z0 k3;have q4:=z0 k4;have p1:=z1 k1;have p2:=z1 k2;have p3:=z1 k3;have p4:=z1 k4
  cases r<;>cases r'<;>first|rfl|(cases hr;done)|(cases eV;done)|(exfalso;simp only[cG]at he;omega)
end
end
end Go.Qw
