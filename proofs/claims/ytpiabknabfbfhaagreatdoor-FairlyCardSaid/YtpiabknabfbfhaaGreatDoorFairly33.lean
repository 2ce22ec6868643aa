/- Part 33. -/
import Derived.Test.YtpiabknabfbfhaaGreatDoorFairly32
set_option linter.all false
set_option maxRecDepth 100000
set_option maxHeartbeats 8000000
namespace Go.Qw
def alg(ch m:Nat)(hm:1<=m):∀(f:Nat) (b:List UInt8),(iR ch m f b).length<=9*b.length:=by
 intro f
 induction f with
 |zero=>intro b;simp[iR]
 |succ f ih=>
  intro b;unfold iR;split
  ·simp
  ·rename_i hb;have h1:=ih (b.drop m);have h2:0<b.length:=List.length_pos_iff.2 hb;rw[List.length_append,nL,List.length_take];rw[List.length_drop]at h1;omega
def mB(ch cl me:Nat)(xs:List Arg):(ck ch cl me xs).length=(cW xs).length+12:=by unfold ck;rw[nL];simp only[List.length_append,bV];omega
def Z4{ch size:Nat}{b:List UInt8}(hs:9<=size):(lT ch b size).length<=20+9*b.length:=by unfold lT;have:=alg ch (size-8) aa b.length b;simp only[List.length_append,nL,bV];omega
section
variable {n:N}{n':N}{T:Int}{K:Nat}{ex:List Int}{aJ:Int}{no:Nat}{c:CN}{h:HN}{nm:List UInt8}{q:QN}{k:Int}{x:XN}{m:aX}{l:List Int}
variable {id:Int}
def Ok.PI (o:Ok T K ex n)(hc:n.ar id=some c):∃fr:Nat,c.r.frame=(fr:Int)/\64<=fr/\fr<=4096:=⟨c.r.frame.toNat,by have:=(o.c _ _ hc).r.frame;omega,by have:=(o.c _ _ hc).r.frame;omega,by have:=(o.c _ _ hc).r.frame;omega⟩
def Ok.Lz (o:Ok T K ex n)(hh:n.h? id no=some h):1<=no/\no<=8:=by obtain⟨c,hc⟩:=wZ hh;exact(o.c _ _ hc).no _ (iJ (CG hh hc))
def Ok.UL (o:Ok T K ex n)(hh:n.h? id no=some h):∀e∈h.un,(e.1:Int)≠h.r.tag+1:=λe he hx=>by have:=(o.h _ _ _ hh).ut e he;omega
def Ok.alC (o:Ok T K ex n)(hT:T<=1000000000000):yi n:=⟨⟨o.gF.1,Int.le_trans o.gF.2 hT⟩,λnm q hq=>by have:=o.held hq;omega⟩
def Ok.abY (o:Ok T K ex n)(hT:T<=1000000000000)(hh:n.h? id no=some h):H0 n h:=
 ⟨⟨(o.h _ _ _ hh).tag.1,Int.le_trans (o.h _ _ _ hh).tag.2 hT⟩,o.UL hh,λnm q hq=>⟨by have:=o.held hq;omega,by have:=o.held hq;omega,λm hm=>by have:=(o.q _ _ hq).msg m hm;exact⟨by have:=this.body;omega,by have:=this.key;omega⟩⟩⟩
def Ok.ai4 (o:Ok T K ex n)(hT:T<=1000000000000)(hK:K<=100000000000000)(hc:n.ar id=some c)(hh:n.h? id no=some h):H8 n id no c h:=by
 refine⟨o.w,by have:=o.Lz hh;omega,Nat.le_trans (o.c _ _ hc).r.out hK,(o.h _ _ _ hh).sM,o.Vl,⟨o.bh.1,Int.le_trans o.bh.2 hT⟩,λnm q hq=>by have:=o.held hq;have:=o.GM hq;omega,λtg k hk=>?_,?_,o.abY hT hh,λtag many b=>o.Ow hh _ b,?_⟩
 ·obtain⟨x,hx,_⟩:=o.w.co _ _ _ hh _ (iJ hk);exact o.Y3 hx
 ·obtain⟨fr,h1,h2,h3⟩:=o.PI hc;exact⟨fr,h1,aa,aa⟩
 ·exact(o.send (id:=id) (s:=ck no 20 41 [])).Fi (by rw[pE];exact hh)
def Ok.abC (o:Ok T K ex n)(hT:T<=1000000000000)(hK:K<=100000000000000)(hc:n.ar id=some c)(hh:n.h? id no=some h):EX n id no c h:=
 ⟨o.ai4 hT hK hc hh,o.alC hT,(o.h _ _ _ hh).want,by have:=(o.h _ _ _ hh).body;omega,o.Fi hh⟩
def Ok.adA (o:Ok T K ex n)(hT:T<=1000000000000)(hK:K<=100000000000000)(hc:n.ar id=some c):Nk n id c:=
 ⟨o.w,Nat.le_trans (o.c _ _ hc).r.out hK,o.Fh hc,λno h hh=>o.abC hT hK hc hh⟩
def UT (h:n.uM q=some k):k∈q.cons:=by
 unfold N.uM at h;rw[Option.or_eq_some_iff]at h;rcases h with h|⟨_,h⟩
 ·exact(List.mem_filter.1 (List.mem_of_find?_eq_some h)).1
 ·exact(List.mem_filter.1 (List.mem_of_mem_head? h)).1
def Ok.Hi (o:Ok T K ex n)(hT:T<=1000000000000)(hK:K<=100000000000000):H9 n:=by
 have can:∀nm q,n.q? nm=some q->HY n nm q:=λnm q hq=>⟨by have:=o.GM hq;omega,λk hk=>by
  obtain⟨x,hx,hn⟩:=o.w.qc _ _ hq k hk
  obtain⟨h,hh,_⟩:=o.w.xh _ _ hx
  exact⟨x,h,hx,hn,hh⟩⟩
 refine⟨o.sq,by have:=o.lq;omega,λnm q hq=>⟨can nm q hq,by have:=o.held hq;omega⟩,λnm q m ms k hq hr ht=>?_⟩;obtain⟨x,h,hx,hn,hh⟩:=(can nm q hq).2 k (UT ht);obtain⟨c,hc⟩:=wZ hh;obtain⟨fr,h1,h2,h3⟩:=o.PI hc;have hm:=(o.q _ _ hq).msg m (by rw[hr];simp);refine⟨x,c,h,{q with ready:=q.ready.tail,last:=k},fr,hx,hc,hh,by rw[uA,if_pos hn,hn,hq];rfl,⟨(o.h _ _ _ hh).tag.1,Int.le_trans (o.h _ _ _ hh).tag.2 hT⟩,by have:=o.held hq;simp only;omega,o.UL hh,h1,aa,by have:=o.Lz hh;omega,Nat.le_trans (o.c _ _ hc).r.out hK,by have:=hm.body;omega,by have:=hm.key;omega,by have:=(o.x _ _ hx).2;omega⟩
def abD (hc:n.ar id=some c):n.frame id=c.r.frame.toNat:=by unfold N.frame;rw[hc];rfl
def Ok.give (o:Ok T K ex n)(hm:BU m){s:List UInt8}(hs:s.length<=900)(hi:(n.ar id).isSome):Ok T (K+100000) ex (n.give id no m s):=by
 unfold N.give;obtain⟨c,hc⟩:=Option.isSome_iff_exists.1 hi;have h1:9<=n.frame id:=by rw[abD hc];have:=(o.c _ _ hc).r.frame;omega
 have h2:=Z4 (ch:=no) (b:=m.body) h1;have h3:=hm.body;refine((o.send (id:=id) (s:=s)).send).mono (Int.le_refl _) ?_;omega
def Sa {na:Bool}(hc:(n.ar aJ).isSome):((n.hand id no nm m na).ar aJ).isSome:=by
 unfold N.hand;split
 ·rw[IE];split
  ·simpa using hc
  ·exact hc
 ·rw[yu,vc];split
  ·simpa using hc
  ·exact hc
def qX (a:Arg)(l:List Arg):(cW (a::l)).length=(ep a).length+(cW l).length:=by unfold cW;rw[List.flatMap_cons,List.length_append]
def my:(cW []).length=0:=rfl
def Iq (k:Nat):(ep (.short k)).length=2:=bV _ _
def Ab (k:Nat):(ep (.long k)).length=4:=bV _ _
def NI (k:Nat):(ep (.mW k)).length=8:=bV _ _
def NH (b:Bool):(ep (.flag b)).length=1:=bV _ _
def uX (s:List UInt8):(ep (.text s)).length=1+s.length:=by show(aw 1 s.length++s).length=_;rw[List.length_append,bV]
def Ok.iG (o:Ok T K ex n)(hs:n.iG nm=some n'):Ok (T+1) (K+100000) ex n':=by
 unfold N.iG at hs;split at hs
 ·cases hs
 ·rename_i q hq;split at hs
  ·cases hs
  ·rename_i m ms hr;split at hs
   ·cases hs
   ·rename_i k ht
    cases hs
    obtain⟨x,hx,hn⟩:=o.w.qc _ _ hq k (UT ht);obtain⟨h,hh,_⟩:=o.w.xh _ _ hx;obtain⟨c,hc⟩:=wZ hh;have hm:=(o.q _ _ hq).msg m (by rw[hr];simp);unfold N.take;rw[aqn,hx];simp only[];rw[hn];have o1:=o.hand (na:=x.fe) (g:=λq=>{q with ready:=q.ready.tail,last:=k}) hh hq hr ⟨by simp only[hr,List.tail_cons],rfl,rfl⟩;refine o1.give hm ?_ (Sa (by rw[yu,hc];rfl));rw[mB];simp only[qX,my,uX,NI,NH];have h1:=(o.x _ _ hx).2;have h2:=hm.key;omega
def N.qN (n:N):Nat:=(n.aN.map λe=>e.2.ready.length).sum
def Ok.qN (o:Ok T K ex n):n.qN<=400:=by have h1:n.qN<=n.aN.length*50:=Hs λe he=>(o.held (oa o.nq he)).2.2;have:=o.lq;omega
def amW (o:Ok T K ex n)(hs:n.iG nm=some n'):n'.qN+1=n.qN:=by
 unfold N.iG at hs;split at hs
 ·cases hs
 ·rename_i q hq;split at hs
  ·cases hs
  ·rename_i m ms hr;split at hs
   ·cases hs
   ·rename_i k ht
    cases hs
    have h1:=Hr o.nq hq (λq=>{q with ready:=q.ready.tail,last:=k}) λq=>q.ready.length;have e1:(n.bL nm λq=>{q with ready:=q.ready.tail,last:=k}).qN+q.ready.length=n.qN+q.ready.tail.length:=h1;rw[hr,List.length_cons,List.tail_cons]at e1
    have h2:∀(n:N) id no nm m na,(n.aN.map (·.1)).Nodup->(n.hand id no nm m na).qN=n.qN:=λn id no nm m na hq=>by
     unfold N.hand;split
     ·rfl
     ·exact Mv (l:=n.aN) (k:=nm) (λq:QN=>{q with held:=q.held+1}) (λq:QN=>q.ready.length) (λ_ _=>rfl) hq
    have h3:(N.take (n.bL nm λq=>{q with ready:=q.ready.tail,last:=k}) k m).qN=(n.bL nm λq=>{q with ready:=q.ready.tail,last:=k}).qN:=by
     unfold N.take;split
     ·rfl
     ·exact h2 _ _ _ _ _ _ (by rw[Bn];exact o.nq)
    rw[h3];omega
def nH (T:Int)(K:Nat)(ex:List Int)(R:Nat)(n:N):Prop:=∃j:Nat,Ok (T+j) (K+100000*j) ex n/\j+n.qN<=R
def nH.step {R:Nat}(o:nH T K ex R n)(hs:n.iG nm=some n'):nH T K ex R n':=by obtain⟨j,h1,h2⟩:=o;refine⟨j+1,?_,by have:=amW h1 hs;omega⟩;exact(h1.iG hs).mono aa aa
def nH.j8 {R:Nat}(o:nH T K ex R n){f:Nat}:nH T K ex R (n.j8 f nm):=by
 induction f generalizing n with
 |zero=>exact o
 |succ f ih=>
  unfold N.j8
  cases h:n.iG nm with
  |none=>exact o
  |some n'=>exact ih (o.step h)
def nH.serve {R:Nat}(o:nH T K ex R n):nH T K ex R n.serve:=by
 unfold N.serve;generalize n.aN.map (·.1)=l
 induction l generalizing n with
 |nil=>exact o
 |cons a l ih=>rw[List.foldl_cons];exact ih o.j8
def Ok.Mc (o:Ok T K ex n):nH T K ex 400 n:=⟨0,o.mono aa aa,by have:=o.qN;omega⟩
def nH.ok (o:nH T K ex 400 n):Ok (T+400) (K+40000000) ex n:=by obtain⟨j,h1,h2⟩:=o;exact h1.mono aa aa
def nH.Hi (o:nH T K ex 400 n)(hT:T+400<=1000000000000)(hK:K+40000000<=100000000000000):H9 n:=o.ok.Hi hT hK
def Ok.serve (o:Ok T K ex n):Ok (T+400) (K+40000000) ex n.serve:=o.Mc.serve.ok
end
variable {s r:List UInt8}
def aj9{k:Nat}(h:fu 1 s=some (k,r)):k<=255:=by
 unfold fu at h;split at h
 ·rename_i hl;injection h with h;injection h with h1 h2
  cases s with
  |nil=>simp at hl
  |cons a s=>subst h1;simp[num];have:=a.toNat_lt;omega
 ·cases h
def LV{a:List UInt8}(h:jP s=some (a,r)):a.length<=255:=by
 unfold jP at h;obtain⟨⟨k,t⟩,h1,h2⟩:=Option.bind_eq_some_iff.1 h;have:=aj9 h1;unfold zm at h2;split at h2
 ·injection h2 with h2;injection h2 with h3 h4;subst h3;rw[List.length_take];omega
 ·cases h2
section
variable {n:N}{n':N}{T:Int}{T':Int}{K:Nat}{K':Nat}{ex:List Int}{fC:List Int}{aJ:Int}{no:Nat}{c:CN}{h:HN}{nm:List UInt8}{q:QN}{k:Int}{x:XN}{m:aX}{l:List Int}
variable {id:Int}
def jB (T:Int)(K:Nat)(id:Int):HO->Prop
 | .bad _ _=>True
 | .ok n er=>Ok T K [id] n/\(n.ar id).isSome/\(Ok T K [] n\/∃e cl me,er=.cH e cl me/\n.ph id≠4)
def jB.of {er:Er}(o:Ok T K [] n)(hi:(n.ar id).isSome):jB T K id (.ok n er):=⟨o.Pr al,hi,.inl o⟩
def jB.same {er:Er}(o:Ok T K [] n)(hi:(n.ar id).isSome)(hT:T<=T')(hK:K<=K'):jB T' K' id (.ok n er):=.of (o.mono hT hK) hi
def nW {s:List UInt8}(h:(n.ar aJ).isSome):((n.send id s).ar aJ).isSome:=by rw[rY];split<;>simpa using h
def ze {f:CR->CR}(h:(n.ar aJ).isSome):((n.bC id f).ar aJ).isSome:=by rw[qh];split<;>simpa using h
def DC {f:HR->HR}(h:(n.ar aJ).isSome):((n.cS id no f).ar aJ).isSome:=by rw[IE];split<;>simpa using h
def GK {f:CN->CN}(h:(n.ar aJ).isSome):((n.dI id f).ar aJ).isSome:=by rw[qg];split<;>simpa using h
def Dz (h:(n.ar aJ).isSome)(e:n'.rC aJ=n.rC aJ):(n'.ar aJ).isSome:=by
 unfold N.rC at e
 cases h1:n'.ar aJ with
 |some _=>rfl
 |none=>rw[h1]at e;obtain⟨c,hc⟩:=Option.isSome_iff_exists.1 h;rw[hc]at e;cases e
def KQ (h:(n.ar aJ).isSome):((n.pz id no).ar aJ).isSome:=GK (Dz h Bp)
def Sb (h:(n.ar aJ).isSome):((n.leave id).ar aJ).isSome:=by
 unfold N.leave;split
 ·exact h
 ·exact GK (Dz h Ek)
def TO {p:Nat->Bool}{b:Bool}{l:List (Nat×(List UInt8×aX))}:(n.jx id no p b l).rC aJ=n.rC aJ:=by
 unfold N.jx
 induction l generalizing n with
 |nil=>rfl
 |cons e l ih=>
  rw[List.foldl_cons,ih];split
  ·exact TN
  ·rfl
def ahe {p:Nat->Bool}{b:Bool}{l:List (Nat×(List UInt8×aX))}(h:(n.ar aJ).isSome):((n.jx id no p b l).ar aJ).isSome:=Dz h TO
def aha {s:List UInt8}(h:(n.ar aJ).isSome):((n.give id no m s).ar aJ).isSome:=nW (nW h)
def ahd {key body:List UInt8}(h:(n.ar aJ).isSome):((n.j7 key body).1.ar aJ).isSome:=by
 unfold N.j7;split
 ·exact h
 ·split
  ·exact h
  ·exact h
def Ok.send' (o:Ok T K ex n){s:List UInt8}(hs:s.length<=1000):Ok T (K+1000) ex (n.send id s):=o.send.mono (Int.le_refl _) aa
def akx (o:Ok T K [] n)(hi:(n.ar id).isSome){s:List UInt8}{cl me:Nat}:jB (T+1) (K+101000) id (n.declare id no s cl me):=by
 unfold N.declare;split
 ·rename_i nm hp;have hl:=LV hp;split
  ·refine .same (o.send' ?_) (nW hi) aa aa;rw[mB];simp only[qX,my,uX,Ab];omega
  ·rename_i hq;split
   ·exact .same o hi aa aa
   ·split
    ·exact .same o hi aa aa
    ·rename_i h8;have o1:=o.sP hq (by have:=o.lq;omega) o.cfg.amm;refine .same (o1.send' (id:=id) (s:=ck no 50 11 [.text nm,.long 0,.long 0]) ?_) (nW (n:={n with aN:=cV cL n.aN nm ⟨[],0,0,[]⟩}) hi) aa aa;rw[mB];simp only[qX,my,uX,Ab];omega
 ·trivial
def akG (o:Ok T K [] n)(hi:(n.ar id).isSome){s:List UInt8}{cl me:Nat}:jB (T+1) (K+101000) id (n.oY id no s cl me):=by
 unfold N.oY;split
 ·rename_i nm hp;split
  ·rename_i q hq;have o1:Ok T K [] (n.bL nm λq=>{q with ready:=[]}):=o.bL λq _=>⟨List.nil_sublist _,rfl,rfl⟩;refine .same (o1.send' ?_) (nW (by rw[yu];exact hi)) aa aa;rw[mB];simp only[qX,my,Ab];omega
  ·exact .same o hi aa aa
 ·trivial
def akH (o:Ok T K [] n)(hh:n.h? id no=some h){s:List UInt8}{cl me:Nat}:jB (T+1) (K+101000) id (n.rM id no s cl me):=by
 have hi:=adt hh;unfold N.rM;split
 ·rename_i k hp;have oh:=o.h _ _ _ hh;have o1:Ok T K [] (n.cS id no λr=>{r with ng:=k}):=o.cS hh {oh with} (Int.le_refl _) (λh1 h2=>o.part _ _ h hh h1 h2) (λ_ h=>h);refine .same (o1.send' ?_) (nW (DC hi)) aa aa;rw[mB];simp only[my];omega
 ·trivial
where adt {n:N} {id:Int} {no:Nat} {h:HN} (hh:n.h? id no=some h):(n.ar id).isSome:=by obtain⟨c,hc⟩:=wZ hh;rw[hc];rfl
def tZ (hh:n.h? id no=some h):(n.ar id).isSome:=by obtain⟨c,hc⟩:=wZ hh;rw[hc];rfl
def akv (o:Ok T K [] n)(hh:n.h? id no=some h){s:List UInt8}{cl me:Nat}:jB (T+1) (K+101000) id (n.consume id no h s cl me):=by
 have hi:=tZ hh;unfold N.consume;split
 ·rename_i nm s1 _;split
  ·rename_i tg s2 _;split
   ·rename_i na _;split
    ·exact .same o hi aa aa
    ·rename_i AV;split
     ·exact .same o hi aa aa
     ·rename_i q hq;split
      ·exact .same o hi aa aa
      ·rename_i tL;split
       ·exact .same o hi aa aa
       ·rename_i h4
        have ht:bu h.co tg=none:=by cases h:bu h.co tg with
         |none=>rfl
         |some _=>rw[h]at tL;simp at tL
        have o1:=o.ki (na:=na) hh hq ht (by have:=(o.h _ _ _ hh).sM;omega) aa;refine .same (o1.send' (id:=id) (s:=ck no 60 21 [.text tg]) ?_) (nW ?_) aa aa
        ·rw[mB];simp only[qX,my,uX];omega
        ·exact GK (show(N.ar (N.bL {n with bh:=n.bh+1,xs:=n.xs++[(n.bh+1,⟨id,no,tg,nm,na⟩)]} nm λq=>{q with cons:=q.cons++[n.bh+1]}) id).isSome from hi)
   ·trivial
  ·trivial
 ·trivial
def akt (o:Ok T K [] n)(hh:n.h? id no=some h){s:List UInt8}{cl me:Nat}:jB (T+1) (K+101000) id (n.qf id no h s cl me):=by
 have hi:=tZ hh;unfold N.qf;split
 ·rename_i tg hp;have hl:=LV hp
  have o1:Ok T K [] (n.qT id no h tg)/\((n.qT id no h tg).ar id).isSome:=by
   unfold N.qT
   cases hk:bu h.co tg with
   |none=>exact⟨o,hi⟩
   |some k=>
    simp only[];rw[Ox o.qx];refine⟨o.qT hh [k] (f:=λh=>{h with co:=cF h.co tg}) (λ_=>⟨rfl,rfl⟩) ?_ ?_,?_⟩
    ·show cF h.co tg=_;unfold cF;apply List.filter_congr;intro e he;obtain⟨x,hx,_,_,ht⟩:=o.w.co _ _ _ hh e he;obtain⟨y,hy,_,_,Gu⟩:=o.w.co _ _ _ hh _ (iJ hk);rw[decide_eq_decide];simp only[ne_eq,List.mem_singleton];constructor
     ·intro h1 h2;rw[h2]at hx;simp only at hy;rw[hx]at hy;cases hy;exact h1 (by rw[<-ht,Gu])
     ·intro h1 h2;have:=oa (o.h _ _ _ hh).cn he;rw[h2,hk]at this
      cases this;exact h1 rfl
    ·intro j hj;simp only[List.mem_singleton]at hj;subst hj;exact List.mem_map_of_mem (f:=(·.2)) (iJ hk)
    ·rw[vc];split
     ·simpa using hi
     ·exact hi
  refine .same (o1.1.send' ?_) (nW o1.2) aa aa;rw[mB];simp only[qX,my,uX];omega
 ·trivial
def akF (o:Ok T K [] n)(hh:n.h? id no=some h){s:List UInt8}{cl me:Nat}:jB (T+1) (K+101000) id (n.rL id no s cl me):=by
 have hi:=tZ hh;unfold N.rL;split
 ·rename_i key hp;have oh:=o.h _ _ _ hh;exact .same (o.cS (T':=T) (fC:=[]) hh {oh with want:=⟨al,al⟩,key:=LV hp} (Int.le_refl _) (λ_ h2=>by simp at h2) (λ_ h=>h)) (DC hi) aa aa
 ·trivial
def akz (o:Ok T K [] n)(hh:n.h? id no=some h){s:List UInt8}{cl me:Nat}:jB (T+1) (K+101000) id (n.get id no s cl me):=by
 have hi:=tZ hh;unfold N.get;split
 ·rename_i nm s1 _;split
  ·rename_i na _;split
   ·exact .same o hi aa aa
   ·rename_i q hq;split
    ·refine .same (o.send' ?_) (nW hi) aa aa;rw[mB];simp only[my];omega
    ·rename_i m ms hr;have hm:=(o.q _ _ hq).msg m (by rw[hr];simp);have o1:=o.hand (na:=na) (g:=λq=>{q with ready:=q.ready.tail}) hh hq hr ⟨by simp only[hr,List.tail_cons],rfl,rfl⟩;have l9:(N.ar (N.hand (n.bL nm λq=>{q with ready:=q.ready.tail}) id no nm m na) id).isSome:=Sa (by rw[yu];exact hi);refine .same (o1.give hm ?_ l9) (aha l9) aa aa;rw[mB];simp only[qX,my,NI,NH,uX,Ab];have:=hm.key;omega
  ·trivial
 ·trivial
def akI (o:Ok T K [] n)(hh:n.h? id no=some h){s:List UInt8}{cl me:Nat}:jB (T+1) (K+101000) id (n.settled id no h s cl me):=by
 have hi:=tZ hh;unfold N.settled;split
 ·split
  ·split
   ·split
    ·exact .same o.jx (ahe hi) aa aa
    ·exact .same o hi aa aa
   ·trivial
  ·trivial
 ·trivial
def aku (o:Ok T K [] n)(hi:(n.ar id).isSome){s:List UInt8}{cl me:Nat}:jB (T+1) (K+101000) id (n.close id no s cl me):=by
 unfold N.close;split
 ·refine .same (o.send' ?_).pz (KQ (nW hi)) aa aa;rw[mB];simp only[my];omega
 ·trivial
def akC (o:Ok T K [] n)(hh:n.h? id no=some h){s:List UInt8}{cl me:Nat}:jB (T+1) (K+101000) id (n.method id no h s cl me):=by
 have hi:=tZ hh;unfold N.method;split
 ·exact .same o hi aa aa
 split
 ·exact aku o hi
 split
 ·exact akx o hi
 split
 ·exact akG o hi
 split
 ·exact akH o hh
 split
 ·exact akv o hh
 split
 ·exact akt o hh
 split
 ·exact akF o hh
 split
 ·exact akz o hh
 split
 ·exact akI o hh
 split
 ·exact .same o hi aa aa
 ·exact .same o hi aa aa
def Ts (o:Ok T K [] n)(hh:n.h? id no=some h){r:HR}(hr:r.ng=h.r.ng/\r.tag=h.r.tag/\r.key=h.r.key)(hw:r.want=3)(hb:(r.body.length:Int)<=r.size)(hs:r.size<=10000):jB (T+1) (K+101000) id (n.whole id no r):=by
 have hi:=tZ hh;have oh:=o.h _ _ _ hh;obtain⟨r1,r2,r3⟩:=hr;unfold N.whole;split
 ·exact .same (o.cS (T':=T) (fC:=[]) hh ⟨oh.un,by simp only[r2];exact oh.ut,by simp only[r2];exact oh.tag,oh.co,oh.cn,oh.sM,by simp only[hw];omega,by simp only;omega,hs,by simp only[r3];exact oh.key,oh.msg⟩ (Int.le_refl _) (λ_ _=>hb) (λ_ h=>h)) (DC hi) aa aa
 ·have o1:Ok T K [] (n.cS id no λ_=>{r with want:=1}):=o.cS (T':=T) (fC:=[]) hh ⟨oh.un,by simp only[r2];exact oh.ut,by simp only[r2];exact oh.tag,oh.co,oh.cn,oh.sM,al,by simp only;omega,hs,by simp only[r3];exact oh.key,oh.msg⟩ (Int.le_refl _) (λ_ h2=>by simp at h2) (λ_ h=>h);exact .same (o1.j7 (key:=r.key) (body:=r.body) (by rw[r3];exact oh.key) aa) (ahd (DC hi)) aa aa
def akB (o:Ok T K [] n)(hh:n.h? id no=some h){s:List UInt8}:jB (T+1) (K+101000) id (n.header id no h.r s):=by
 have hi:=tZ hh;unfold N.header;split
 ·split
  ·split
   ·split
    ·rename_i low _;split
     ·exact .same o hi aa aa
     ·split
      ·exact .same o hi aa aa
      ·rename_i hn;have:=o.cfg.body;exact Ts o hh ⟨rfl,rfl,rfl⟩ rfl al (by simp only;omega)
    ·trivial
   ·trivial
  ·trivial
 ·trivial
def alp {f:HR->HR}:(n.cS id no f).ph aJ=n.ph aJ:=by
 unfold N.ph;rw[IE];split
 ·cases n.ar aJ<;>rfl
 ·rfl
def akE (o:Ok T K [] n)(hh:n.h? id no=some h){s:List UInt8}(hw:h.r.want=3)(hs:s.length<=5000)(hp:n.ph id≠4):jB (T+1) (K+101000) id (n.part id no h.r s):=by
 have hi:=tZ hh;have oh:=o.h _ _ _ hh;have hb:=o.part _ _ _ hh al hw;have h2:=oh.size;unfold N.part;split
 ·refine⟨?_,DC hi,.inr ⟨502,60,40,rfl,by rw[alp];exact hp⟩⟩;exact(o.cS (T':=T) (fC:=[id]) hh {oh with body:=by simp only[List.length_append];omega} (Int.le_refl _) (λh=>absurd al h) (λ_ h=>by cases h)).mono aa aa
 ·exact Ts o hh ⟨rfl,rfl,rfl⟩ hw (by simp only;omega) h2
def aky (o:Ok T K [] n)(hh:n.h? id no=some h){kind:Int}{s:List UInt8}{cl me:Nat}(hs:s.length<=5000)(hp:n.ph id≠4):jB (T+1) (K+101000) id (n.jG id no h kind s cl me):=by
 have hi:=tZ hh;unfold N.jG;split
 ·split
  ·refine .same (o.send' ?_).pz (KQ (nW hi)) aa aa;rw[mB];simp only[my];omega
  ·split
   ·exact .same o.pz (KQ hi) aa aa
   ·exact .same o hi aa aa
 ·split
  ·exact .same o hi aa aa
  ·rename_i hk;split
   ·exact akB o hh
   ·split
    ·exact akE o hh aa hs hp
    ·exact akC o hh
def akD (o:Ok T K [] n)(hc:n.ar id=some c){kind:Int}{s:List UInt8}{cl me:Nat}(hs:s.length<=5000)(hp:n.ph id≠4)(h1:1<=no):jB (T+1) (K+101000) id (n.lN id c no kind s cl me):=by
 have hi:(n.ar id).isSome:=by rw[hc];rfl
 unfold N.lN;split
 ·exact .same o hi aa aa
 ·rename_i hm;split
  ·rename_i h dK;have hh:n.h? id no=some h:=by unfold N.h?;rw[hc];exact dK
   exact aky o hh hs hp
  ·rename_i hn;split
   ·split
    ·have:=(o.c _ _ hc).r.dg;have o1:=o.ajr hc hn ⟨h1,aa⟩;refine .same (o1.send' ?_) (nW (GK hi)) aa aa;rw[mB];simp only[qX,my,Ab];omega
    ·trivial
   ·exact .same o hi aa aa
def akw (o:Ok T K [] n)(hi:(n.ar id).isSome){kind:Int}{s:List UInt8}{cl me:Nat}:jB (T+1) (K+101000) id (n.control id kind s cl me):=by
 unfold N.control;split
 ·split
  ·have o1:=(o.leave (id:=id) (fC:=[]) (λ_ h=>by cases h) hi).send' (id:=id) (s:=ck 0 10 51 []) (by rw[mB];simp only[my];omega);exact .same (o1.bC (id:=id) (K':=K+1000) (Nat.le_refl _) λc hc=>⟨(o1.c _ _ hc).r.out,(o1.c _ _ hc).r.frame,(o1.c _ _ hc).r.dg⟩) (ze (nW (Sb hi))) aa aa
  ·trivial
 ·exact .same o hi aa aa
def aks (o:Ok T K [] n)(hc:n.ar id=some c){ch kind:Int}{s:List UInt8}{cl me:Nat}:jB (T+1) (K+101000) id (n.begin id c ch kind s cl me):=by
 have hi:(n.ar id).isSome:=by rw[hc];rfl
 have g:=o.cfg;unfold N.begin;by_cases hA:¬(kind=1/\cl=10/\me=(if c.r.ph=1 then 31 else 40))\/ch≠0
 ·rw[if_pos hA];exact .same o hi aa aa
 ·rw[if_neg hA];split
  ·split
   ·have o1:Ok T K [] (n.bC id λr=>{r with ph:=3}):=o.bC (Nat.le_refl _) λc hc=>⟨(o.c _ _ hc).r.out,(o.c _ _ hc).r.frame,(o.c _ _ hc).r.dg⟩;refine .same (o1.send' ?_) (nW (ze hi)) aa aa;rw[mB];simp only[qX,my,uX,List.length_nil];omega
   ·trivial
  ·split
   ·split
    ·split
     ·split
      ·exact .same o hi aa aa
      ·rename_i hn;have g1:=g.jc;have g2:=g.frame;exact .same (o.bC (K':=K) (Nat.le_refl _) λc hc=>⟨(o.c _ _ hc).r.out,by simp only;omega,by simp only;omega⟩) (ze hi) aa aa
     ·trivial
    ·trivial
   ·trivial
def Tq (o:Ok T K [] n)(hc:n.ar id=some c){ch kind:Int}{s:List UInt8}{cl me:Nat}(hs:s.length<=5000)(dK:0<=ch):jB (T+1) (K+101000) id (n.jb id c ch kind s cl me):=by
 have hi:(n.ar id).isSome:=by rw[hc];rfl
 have pM:n.ph id=c.r.ph:=by unfold N.ph;rw[hc];rfl
 unfold N.jb;split
 ·exact aks o hc
 ·split
  ·rename_i h3;split
   ·exact akw o hi
   ·exact akD o hc hs (by rw[pM];omega) aa
  ·split
   ·exact .same (o.bC (K':=K) (Nat.le_refl _) λc hc=>⟨(o.c _ _ hc).r.out,(o.c _ _ hc).r.frame,(o.c _ _ hc).r.dg⟩) (ze hi) aa aa
   ·exact .same o hi aa aa
def Tv {w k:Nat}{s r:List UInt8}(h:fu w s=some (k,r)):r.length<=s.length:=by
 unfold fu at h;split at h
 ·injection h with h;injection h with h1 h2;subst h2;rw[List.length_drop];omega
 ·cases h
def Tr (o:Ok T K [] n)(hc:n.ar id=some c){u:Un}(hs:u.iS.length<=5000)(dK:0<=u.channel):jB (T+1) (K+101000) id (n.fJ id c u):=by
 have hi:(n.ar id).isSome:=by rw[hc];rfl
 unfold N.fJ;split
 ·split
  ·rename_i h1;split
   ·rename_i h2;exact Tq o hc (by have:=Tv h1;have:=Tv h2;omega) dK
   ·exact .same o hi aa aa
  ·exact .same o hi aa aa
 ·exact Tq o hc hs dK
def Aa {α O:Type}[DecidableEq α]{l:List (α×O)}{k:α}{f:O->O}(h:∀e∈l,e.1=k->f e.2=e.2):dz l k f=l:=by
 unfold dz
 have:(l.map λe=>if e.1=k then(e.1,f e.2)else e)=l.map λe=>e:=List.map_congr_left λa ha=>by
  split
  ·rename_i e;rw[h a ha e]
  ·rfl
 rw[this,List.map_id']
def apG (o:Ok T K ex n)(hn:n.h? id no=none){f:HR->HR}:n.cS id no f=n:=by
 unfold N.cS N.bB N.dI
 have:dz n.aF id (λc=>{c with ch:=dz c.ch no λh=>{h with r:=f h.r}})=n.aF:=Aa λe he hx=>by
  have hc:n.ar id=some e.2:=by rw[<-hx];exact oa o.nc he
  unfold N.h? at hn;rw[hc]at hn;have:dz e.2.ch no (λh=>{h with r:=f h.r})=e.2.ch:=Aa λa ha hy=>absurd hy (iK hn a ha);rw[this]
 rw[this]
def Ok.soft (o:Ok T K ex n){e cl me:Nat}:Ok T (K+1000) ex (n.soft id no e cl me):=by
 unfold N.soft
 have o1:Ok T K ex ((n.release id no).cS id no λr=>{r with closing:=true}):=by
  have o1:=o.release (id:=id) (no:=no)
  cases hh:(n.release id no).h? id no with
  |none=>rw[apG o1 hh];exact o1
  |some h=>exact o1.cS hh {o1.h _ _ _ hh with} (Int.le_refl _) (λh1 h2=>o1.part _ _ h hh h1 h2) (λ_ h=>h)
 refine o1.send' ?_;rw[mB];simp only[ql,qX,my,uX,Iq,List.length_nil];omega
def Ok.cH (o:Ok T K ex n){e cl me:Nat}(hx:∀i∈ex,i∈fC\/i=id)(hi:(n.ar id).isSome):Ok T (K+1000) fC (n.cH id e cl me):=by unfold N.cH;have o1:=o.leave hx hi;have o2:Ok T K fC ((n.leave id).bC id λr=>{r with ph:=4}):=o1.bC (Nat.le_refl _) λc hc=>⟨(o1.c _ _ hc).r.out,(o1.c _ _ hc).r.frame,(o1.c _ _ hc).r.dg⟩;refine o2.send' ?_;rw[mB];simp only[ql,qX,my,uX,Iq,List.length_nil];omega
def Ok.lz (o:Ok T K [] n){u:Un}(hs:u.iS.length<=5000)(dK:0<=u.channel):Ok (T+1) (K+102000) [] (n.lz id u):=by
 unfold N.lz
 cases hc:n.ar id with
 |none=>exact o.mono aa aa
 |some c=>
  simp only[];have h1:=Tr o hc hs dK;have hi:(n.ar id).isSome:=by rw[hc];rfl
  cases hr:n.fJ id c u with
  |bad cl me=>
   show Ok _ _ _ (n.fault id u.channel (.cH 502 cl me));unfold N.fault;simp only[];split
   ·exact o.mono aa aa
   ·exact(o.cH (fC:=[]) (λ_ h=>by cases h) hi).mono aa aa
  |ok n' er=>
   rw[hr]at h1;obtain⟨h2,h3,h4⟩:=h1;show Ok _ _ _ (n'.fault id u.channel er);rcases h4 with h4|⟨e,cl,me,rfl,h5⟩
   ·unfold N.fault;split
    ·exact h4.mono aa aa
    ·split
     ·exact h4.mono aa aa
     ·exact h4.soft.mono aa aa
    ·split
     ·exact h4.mono aa aa
     ·exact(h4.cH (fC:=[]) (λ_ h=>by cases h) h3).mono aa aa
   ·unfold N.fault;simp only[];rw[if_neg h5];exact(h2.cH (fC:=[]) (λi hi=>.inr (aZ hi)) h3).mono aa aa
def Ok.unit (o:Ok T K [] n){u:Un}(hs:u.iS.length<=5000)(dK:0<=u.channel)(hi:(n.ar id).isSome):Ok (T+1) (K+102000) [] (n.unit id u):=by
 have up:∀{n:N} {K:Nat} {v:Int},Ok T K [] n->Ok T K [] (n.bC id λr=>{r with ph:=v}):=λo=>o.bC (Nat.le_refl _) λc hc=>⟨(o.c _ _ hc).r.out,(o.c _ _ hc).r.frame,(o.c _ _ hc).r.dg⟩;unfold N.unit;split
 ·split
  ·exact(up (o.send' (by simp[pA]))).mono aa aa
  ·refine((up o).send' ?_).mono aa aa;rw[mB];simp only[qX,my,Iq,Ab];omega
 ·split
  ·split
   ·exact(up o).mono aa aa
   ·exact(up (o.cH (fC:=[]) (λ_ h=>by cases h) hi)).mono aa aa
  ·split
   ·exact o.mono aa aa
   ·exact o.lz hs dK
end
section
variable {n:N}{n':N}{no:Nat}{c:CN}{h:HN}{nm:List UInt8}{k:Int}{m:aX}{l:List Int}{O:Type}{F:CR->O}{SN:N}
def Kp (F:CR->O)(n n':N):Prop:=∀i,(n'.rC i).map F=(n.rC i).map F
variable {id:Int}
def Kp.refl (n:N):Kp F n n:=λ_=>rfl
def Kp.trans (a:Kp F n n')(b:Kp F n' SN):Kp F n SN:=λi=>(b i).trans (a i)
def Kp.rC (h:∀i,n'.rC i=n.rC i):Kp F n n':=λi=>by rw[h]
def Kp.bC {f:CR->CR}(hf:∀r,F (f r)=F r):Kp F n (n.bC id f):=λi=>by
 unfold N.rC;rw[qh];split
 ·cases n.ar i with
  |none=>rfl
  |some c=>simp only[Option.map_some,hf]
 ·rfl
def Kp.send (hF:∀(r:CR) o s,F {r with out:=o,gV:=s}=F r){s:List UInt8}:Kp F n (n.send id s):=Kp.bC λr=>hF r _ _
def Hb {f:QN->QN}{i:Int}:(n.bL nm f).rC i=n.rC i:=rfl
def L4 {f:CN->CN}(hf:∀c,(f c).r=c.r){i:Int}:(n.dI id f).rC i=n.rC i:=by
 unfold N.rC;rw[qg];split
 ·cases n.ar i with
  |none=>rfl
  |some c=>simp only[Option.map_some,hf]
 ·rfl
def TM {na:Bool}{i:Int}:(n.hand id no nm m na).rC i=n.rC i:=by
 unfold N.hand;split
 ·exact qM
 ·exact Hb.trans qM
def Kp.give (hF:∀(r:CR) o s,F {r with out:=o,gV:=s}=F r){s:List UInt8}:Kp F n (n.give id no m s):=(Kp.send hF).trans (Kp.send hF)
def Kp.take (hF:∀(r:CR) o s,F {r with out:=o,gV:=s}=F r):Kp F n (n.take k m):=by
 unfold N.take;split
 ·exact .refl _
 ·exact(Kp.rC λ_=>TM).trans (Kp.give hF)
def Kp.iG (hF:∀(r:CR) o s,F {r with out:=o,gV:=s}=F r)(hs:n.iG nm=some n'):Kp F n n':=by
 unfold N.iG at hs;split at hs
 ·cases hs
 ·split at hs
  ·cases hs
  ·split at hs
   ·cases hs
   ·cases hs;exact(Kp.rC λ_=>Hb).trans (Kp.take hF)
def Kp.j8 (hF:∀(r:CR) o s,F {r with out:=o,gV:=s}=F r){f:Nat}:Kp F n (n.j8 f nm):=by
 induction f generalizing n with
 |zero=>exact .refl _
 |succ f ih=>
  unfold N.j8
  cases h:n.iG nm with
  |none=>exact .refl _
  |some n'=>exact(Kp.iG hF h).trans ih
def Kp.serve (hF:∀(r:CR) o s,F {r with out:=o,gV:=s}=F r):Kp F n n.serve:=by
 unfold N.serve;generalize n.aN.map (·.1)=l
 induction l generalizing n with
 |nil=>exact .refl _
 |cons a l ih=>rw[List.foldl_cons];exact(Kp.j8 hF).trans ih
def Ha {i:Int}:(n.leave id).rC i=n.rC i:=by
 unfold N.leave;split
 ·rfl
 ·rename_i c _;exact(L4 (n:=n.gJ id c.ch) (f:=λc=>{c with ch:=[]}) λ_=>rfl).trans Ek
def L3 {i:Int}:(n.pz id no).rC i=n.rC i:=(L4 (n:=n.release id no) (f:=λc=>{c with ch:=cF c.ch no}) λ_=>rfl).trans Bp
def Kp.soft (hF:∀(r:CR) o s,F {r with out:=o,gV:=s}=F r){e cl me:Nat}:Kp F n (n.soft id no e cl me):=
 ((Kp.rC λ_=>(qM).trans Bp).trans (Kp.send hF):Kp F n (((n.release id no).bB id no _).send id _))
structure uR (F:CR->O):Prop where
 out:∀(r:CR) o s,F {r with out:=o,gV:=s}=F r
 ph:∀(r:CR) p,F {r with ph:=p}=F r
 apl:∀(r:CR) a b c p,F {r with dg:=a,frame:=b,gh:=c,ph:=p}=F r
def Kp.cH (hF:uR F){e cl me:Nat}:Kp F n (n.cH id e cl me):=((Kp.rC λ_=>Ha).trans (Kp.bC λr=>hF.ph r _)).trans (Kp.send hF.out)
def ye (F:CR->O)(n:N):HO->Prop
 | .bad _ _=>True
 | .ok n' _=>Kp F n n'
def ye.same {er:Er}:ye F n (.ok n er):=Kp.refl n
def amr {key body:List UInt8}{i:Int}:(n.j7 key body).1.rC i=n.rC i:=by
 unfold N.j7;split
 ·rfl
 ·split
  ·rfl
  ·rfl
def amt {tg:List UInt8}{i:Int}:(n.qT id no h tg).rC i=n.rC i:=by
 unfold N.qT;split
 ·exact qM.trans amq
 ·rfl
def Si {r:HR}:ye F n (n.whole id no r):=by
 unfold N.whole;split
 ·exact Kp.rC λ_=>qM
 ·exact Kp.rC λ_=>amr.trans qM
def ahZ (hF:uR F){s:List UInt8}{cl me:Nat}:ye F n (n.method id no h s cl me):=by
 unfold N.method;split
 ·exact .same
 split
 ·unfold N.close;split
  ·exact(Kp.send hF.out).trans (Kp.rC λ_=>L3)
  ·trivial
 split
 ·unfold N.declare;split
  ·rename_i nm _;split
   ·exact Kp.send hF.out
   ·split
    ·exact .same
    ·split
     ·exact .same
     ·exact(Kp.rC (n':={n with aN:=cV cL n.aN nm ⟨[],0,0,[]⟩}) λ_=>rfl).trans (Kp.send hF.out)
  ·trivial
 split
 ·unfold N.oY;split
  ·split
   ·exact(Kp.rC λ_=>Hb).trans (Kp.send hF.out)
   ·exact .same
  ·trivial
 split
 ·unfold N.rM;split
  ·exact(Kp.rC λ_=>qM).trans (Kp.send hF.out)
  ·trivial
 split
 ·unfold N.consume;split
  ·split
   ·split
    ·split
     ·exact .same
     ·split
      ·exact .same
      ·split
       ·exact .same
       ·split
        ·exact .same
        ·refine Kp.trans (Kp.rC λi=>?_) (Kp.send hF.out);unfold N.ki;exact qM
    ·trivial
   ·trivial
  ·trivial
 split
 ·unfold N.qf;split
  ·exact(Kp.rC λ_=>amt).trans (Kp.send hF.out)
  ·trivial
 split
 ·unfold N.rL;split
  ·exact Kp.rC λ_=>qM
  ·trivial
 split
 ·unfold N.get;split
  ·split
   ·split
    ·exact .same
    ·split
     ·exact Kp.send hF.out
     ·exact(Kp.rC λ_=>TM.trans Hb).trans (Kp.give hF.out)
   ·trivial
  ·trivial
 split
 ·unfold N.settled;split
  ·split
   ·split
    ·split
     ·exact Kp.rC λ_=>TO
     ·exact .same
    ·trivial
   ·trivial
  ·trivial
 split
 ·exact .same
 ·exact .same
def ahX (hF:uR F){kind:Int}{s:List UInt8}{cl me:Nat}:ye F n (n.jG id no h kind s cl me):=by
 unfold N.jG;split
 ·split
  ·exact(Kp.send hF.out).trans (Kp.rC λ_=>L3)
  ·split
   ·exact Kp.rC λ_=>L3
   ·exact .same
 ·split
  ·exact .same
  ·split
   ·unfold N.header;split
    ·split
     ·split
      ·split
       ·split
        ·exact .same
        ·split
         ·exact .same
         ·exact Si
       ·trivial
      ·trivial
     ·trivial
    ·trivial
   ·split
    ·unfold N.part;split
     ·exact Kp.rC λ_=>qM
     ·exact Si
    ·exact ahZ hF
def Sh (hF:uR F){ch kind:Int}{s:List UInt8}{cl me:Nat}:ye F n (n.jb id c ch kind s cl me):=by
 unfold N.jb;split
 ·unfold N.begin;by_cases hA:¬(kind=1/\cl=10/\me=(if c.r.ph=1 then 31 else 40))\/ch≠0
  ·rw[if_pos hA];exact .same
  ·rw[if_neg hA];split
   ·split
    ·exact(Kp.bC λr=>hF.ph r _).trans (Kp.send hF.out)
    ·trivial
   ·split
    ·split
     ·split
      ·split
       ·exact .same
       ·exact Kp.bC λr=>hF.apl r _ _ _ _
      ·trivial
     ·trivial
    ·trivial
 ·split
  ·split
   ·unfold N.control;split
    ·split
     ·exact((Kp.rC λ_=>Ha).trans (Kp.send hF.out)).trans (Kp.bC λr=>hF.ph r _)
     ·trivial
    ·exact .same
   ·unfold N.lN;split
    ·exact .same
    ·split
     ·exact ahX hF
     ·split
      ·split
       ·exact(Kp.rC λ_=>L4 (f:=λc=>{c with ch:=cV kT c.ch ch.toNat ⟨gu,[],[]⟩}) λ_=>rfl).trans (Kp.send hF.out)
       ·trivial
      ·exact .same
  ·split
   ·exact Kp.bC λr=>hF.ph r _
   ·exact .same
def ahY (hF:uR F){u:Un}:ye F n (n.fJ id c u):=by
 unfold N.fJ;split
 ·split
  ·split
   ·exact Sh hF
   ·exact .same
  ·exact .same
 ·exact Sh hF
def Kp.fault (hF:uR F){no:Int}{er:Er}:Kp F n (n.fault id no er):=by
 unfold N.fault;split
 ·exact .refl _
 ·split
  ·exact .refl _
  ·exact Kp.soft hF.out
 ·split
  ·exact .refl _
  ·exact Kp.cH hF
def Kp.lz (hF:uR F){u:Un}:Kp F n (n.lz id u):=by
 unfold N.lz
 cases hc:n.ar id with
 |none=>exact .refl _
 |some c=>
  simp only[];have h1:=ahY (n:=n) (id:=id) (c:=c) (u:=u) hF
  cases hr:n.fJ id c u with
  |bad cl me=>exact Kp.fault hF
  |ok n' er=>rw[hr]at h1;exact Kp.trans h1 (Kp.fault hF)
def Kp.unit (hF:uR F){u:Un}:Kp F n (n.unit id u):=by
 unfold N.unit;split
 ·split
  ·exact(Kp.send hF.out).trans (Kp.bC λr=>hF.ph r _)
  ·exact(Kp.bC λr=>hF.ph r _).trans (Kp.send hF.out)
 ·split
  ·split
   ·exact Kp.bC λr=>hF.ph r _
   ·exact(Kp.cH hF).trans (Kp.bC λr=>hF.ph r _)
  ·split
   ·exact .refl _
   ·exact Kp.lz hF
def Kp.is (a:Kp F n n')(h:(n.ar id).isSome):(n'.ar id).isSome:=by
 have:=a id;unfold N.rC at this
 cases h1:n'.ar id with
 |some _=>rfl
 |none=>rw[h1]at this;obtain⟨c,hc⟩:=Option.isSome_iff_exists.1 h;rw[hc]at this;cases this
def Kp.get (a:Kp F n n'):(n'.ar id).map (λc=>F c.r)=(n.ar id).map λc=>F c.r:=by have:=a id;unfold N.rC at this;simpa[Option.map_map,Function.comp_def]using this
end
def A3:uR CR.rest:=⟨λ_ _ _=>rfl,λ_ _=>rfl,λ_ _ _ _ _=>rfl⟩
def we{n n':N}{id:Int}(a:Kp CR.rest n n'):n'.rest id=n.rest id:=by unfold N.rest;rw[a.get]
def vZ{n n':N}{id:Int}(a:Kp CR.ph n n'):n'.ph id=n.ph id:=by unfold N.ph;rw[a.get]
end Go.Qw
