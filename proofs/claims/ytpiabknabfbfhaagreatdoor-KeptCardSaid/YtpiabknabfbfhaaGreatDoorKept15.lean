/- 15 -/
import Derived.Test.YtpiabknabfbfhaaGreatDoorKept14
set_option linter.all false
set_option maxRecDepth 100000
set_option maxHeartbeats 8000000
namespace Go.Qw
section
variable {β:Type}
variable {α:Type}[DecidableEq α]
def oF {l:List (α×β)}{k:α}{v:β}(nd:(l.map (·.1)).Nodup)(h:(k,v)∈l):bq l k=some v:=by
 induction l with
 |nil=>cases h
 |cons e l ih=>
  rw[List.map_cons,List.nodup_cons]at nd;unfold bq;rw[List.find?_cons];rcases List.mem_cons.1 h with rfl|h'
  ·simp
  ·have aE:¬e.1=k:=λx=>nd.1 (by rw[x];exact List.mem_map_of_mem (f:=(·.1)) h');simp only[aE,decide_false];exact ih nd.2 h'
def H9 {l:List (α×β)}{k:α}{v:β}(nd:(l.map (·.1)).Nodup)(h:bq l k=some v)(f:β->β)(g:β->Nat):
 ((dD l k f).map λe=>g e.2).sum+g v=(l.map λe=>g e.2).sum+g (f v):=by
 induction l with
 |nil=>cases h
 |cons e l ih=>
  rw[List.map_cons,List.nodup_cons]at nd;unfold bq at h;rw[List.find?_cons]at h;unfold dD at ih|-;rw[List.map_cons];by_cases he:e.1=k
  ·simp only[he,decide_true,Option.map_some]at h
   cases h
   have e2:(l.map λe=>if e.1=k then(e.1,f e.2)else e)=l:=by
    have:(l.map λe=>if e.1=k then(e.1,f e.2)else e)=l.map λe=>e:=List.map_congr_left λa ha=>by rw[if_neg];intro x;exact nd.1 (by rw[he,<-x];exact List.mem_map_of_mem (f:=(·.1)) ha)
    rw[this,List.map_id']
   have e3:(List.map (λe=>g e.2) (e::l)).sum=g e.2+(l.map λe=>g e.2).sum:=by rw[List.map_cons,List.sum_cons]
   rw[if_pos he,e2,e3,List.map_cons,List.sum_cons];dsimp only;omega
  ·simp only[he,decide_false]at h;simp only[if_neg he,List.map_cons,List.sum_cons];have:=ih nd.2 h;omega
def Na {l:List (α×β)}{k:α}(f:β->β)(g:β->Nat)(hg:∀v,bq l k=some v->g (f v)=g v)(nd:(l.map (·.1)).Nodup):
 ((dD l k f).map λe=>g e.2).sum=(l.map λe=>g e.2).sum:=by
 cases h:bq l k with
 |some v=>have:=H9 nd h f g;have:=hg v h;omega
 |none=>
  have:dD l k f=l:=by
   unfold dD
   have:(l.map λe=>if e.1=k then(e.1,f e.2)else e)=l.map λe=>e:=List.map_congr_left λa ha=>by rw[if_neg (jc h a ha)]
   rw[this,List.map_id']
  rw[this]
def apQ {lt:α->α->Bool}(l:List (α×β))(k:α)(v:β)(g:β->Nat):((cZ lt l k v).map λe=>g e.2).sum=(l.map λe=>g e.2).sum+g v:=by have:=((vA (lt:=lt) l k v).map λe=>g e.2).sum_nat;rw[this];simp only[List.map_cons,List.sum_cons];omega
def apP {l:List (α×β)}{k:α}{v:β}(nd:(l.map (·.1)).Nodup)(h:bq l k=some v)(g:β->Nat):
 ((cB l k).map λe=>g e.2).sum+g v=(l.map λe=>g e.2).sum:=by
 induction l with
 |nil=>cases h
 |cons e l ih=>
  rw[List.map_cons,List.nodup_cons]at nd;unfold bq at h;rw[List.find?_cons]at h;unfold cB at ih|-;rw[List.filter_cons];by_cases he:e.1=k
  ·simp only[he,decide_true,Option.map_some]at h
   cases h
   have e2:(l.filter λe=>decide (e.1≠k))=l:=List.filter_eq_self.2 λa ha=>by simp only[ne_eq,decide_not,Bool.not_eq_eq_eq_not,Bool.not_true,decide_eq_false_iff_not];intro x;exact nd.1 (by rw[he,<-x];exact List.mem_map_of_mem (f:=(·.1)) ha)
   rw[if_neg (by simp[he]),e2];simp only[List.map_cons,List.sum_cons];omega
  ·simp only[he,decide_false]at h;have:=ih nd.2 h;rw[if_pos (by simp[he])];simp only[List.map_cons,List.sum_cons]at this|-;omega
omit [DecidableEq α]in
def FL {lt:α->α->Bool}{l:List (α×β)}{k:α}{v:β}{e:α×β}:e∈cZ lt l k v↔e=(k,v)\/e∈l:=by rw[(vA l k v).mem_iff,List.mem_cons]
def Oq {lt:α->α->Bool}{l:List (α×β)}{k:α}{v:β}(nd:(l.map (·.1)).Nodup)(h:bq l k=none):((cZ lt l k v).map (·.1)).Nodup:=by rw[((vA (lt:=lt) l k v).map (·.1)).nodup_iff,List.map_cons,List.nodup_cons];refine⟨λhm=>?_,nd⟩;obtain⟨e,he,hk⟩:=List.mem_map.1 hm;exact jc h e he hk
def Ot {lt:α->α->Bool}(L:yI lt){l:List (α×β)}{k:α}{v:β}(s:dR lt (l.map (·.1))):dR lt ((cZ lt l k v).map (·.1)):=by
 unfold dR at s|-
 induction l with
 |nil=>simp[cZ]
 |cons e l ih=>
  rw[List.map_cons,List.pairwise_cons]at s;simp only[cZ];split
  ·rename_i bd;rw[List.map_cons,List.map_cons,List.pairwise_cons,List.pairwise_cons];refine⟨λb hb=>?_,s⟩;rcases List.mem_cons.1 hb with rfl|hb
   ·exact L.asym bd
   ·exact L.trans (L.asym bd) (s.1 b hb)
  ·rename_i bd;rw[List.map_cons,List.pairwise_cons];refine⟨λb hb=>?_,ih s.2⟩;obtain⟨x,hx,rfl⟩:=List.mem_map.1 hb;rcases FL.1 hx with rfl|hx
   ·simpa using bd
   ·exact s.1 _ (List.mem_map_of_mem hx)
def W6 {l:List (Nat×β)}{k:Nat}{v:β}(s:(l.map (·.1)).Pairwise (·<·))(h:bq l k=none):((cZ lM l k v).map (·.1)).Pairwise (·<·):=by
 induction l with
 |nil=>simp[cZ]
 |cons e l ih=>
  have GB:¬e.1=k:=jc h e al
  have eu:bq l k=none:=by unfold bq at h|-;simp only[List.find?_cons,GB,decide_false]at h;exact h
  rw[List.map_cons,List.pairwise_cons]at s;simp only[cZ];split
  ·rename_i bd;have zr:k<e.1:=by simpa[lM]using bd
   rw[List.map_cons,List.map_cons,List.pairwise_cons,List.pairwise_cons];refine⟨λb hb=>?_,s⟩;rcases List.mem_cons.1 hb with rfl|hb
   ·exact zr
   ·exact Nat.lt_trans zr (s.1 b hb)
  ·rename_i bd
   have zr:e.1<k:=by have:¬k<e.1:=by simpa[lM]using bd
                     omega
   rw[List.map_cons,List.pairwise_cons];refine⟨λb hb=>?_,ih s.2 eu⟩;obtain⟨x,hx,rfl⟩:=List.mem_map.1 hb;rcases FL.1 hx with rfl|hx
   ·exact zr
   ·exact s.1 _ (List.mem_map_of_mem hx)
omit [DecidableEq α]in
def Mi [BEq α][LawfulBEq α]{l m:List α}(nd:l.Nodup)(h:∀a∈l,a∈m):l.length<=m.length:=by
 induction l generalizing m with
 |nil=>simp
 |cons a l ih=>
  rw[List.nodup_cons]at nd;have h1:a∈m:=h a al;have:=ih (m:=m.erase a) nd.2 λb hb=>(List.mem_erase_of_ne (λe=>nd.1 (by rw[<-e];exact hb))).2 (h b (by simp[hb]));rw[List.length_erase_of_mem h1]at this;have:0<m.length:=List.length_pos_of_mem h1;simp only[List.length_cons];omega
end
def BG{l:List Nat}(s:l.Pairwise (·<·)):l.Nodup:=s.imp λh=>Nat.ne_of_lt h
def ajQ{l:List Int}(s:l.Pairwise (·<·)):l.Nodup:=s.imp λh=>Int.ne_of_lt h
variable {α:Type}{l:List α}{f:α->Nat}
def Ia{B:Nat}(h:∀a∈l,f a<=B):(l.map f).sum<=l.length*B:=by
 induction l with
 |nil=>simp
 |cons a l ih=>
  have h1:=h a al;have h2:=ih λb hb=>h b (by simp[hb]);simp only[List.map_cons,List.sum_cons,List.length_cons,Nat.succ_mul];omega
def LO{a:α}(h:a∈l):f a<=(l.map f).sum:=by
 induction l with
 |nil=>cases h
 |cons b l ih=>
  simp only[List.map_cons,List.sum_cons];rcases List.mem_cons.1 h with rfl|h
  ·omega
  ·have:=ih h;omega
def N.eP(n:N)(w:HN->Nat):Nat:=(n.aF.map λe=>(e.2.ch.map λg=>w g.2).sum).sum
def N.im(n:N)(nm:List UInt8):Nat:=n.eP λh=>h.un.countP λe=>decide (e.2.1=nm)
def N.cnt(n:N)(nm:List UInt8)(s:Int):Nat:=n.eP λh=>h.un.countP λe=>decide (e.2.1=nm)&&decide (e.2.2.seq=s)
section
variable {n:N}{no:Nat}{c:CN}{h:HN}{w:HN->Nat}{nm:List UInt8}
variable {id:Int}
@[simp] def aua {f:QN->QN}:(n.bK nm f).eP w=n.eP w:=rfl
def Nk (hs:(n.aF.map (·.1)).Nodup)(hc:n.ar id=some c)(f:CN->CN):
 (n.dM id f).eP w+(c.ch.map λg=>w g.2).sum=n.eP w+((f c).ch.map λg=>w g.2).sum:=
 H9 hs hc f λc=>(c.ch.map λg:Nat×HN=>w g.2).sum
def Nl (hs:(n.aF.map (·.1)).Nodup){f:CR->CR}:(n.bE id f).eP w=n.eP w:=
 Na (f:=λc:CN=>{c with r:=f c.r}) (g:=λc:CN=>(c.ch.map λg:Nat×HN=>w g.2).sum) (λ_ _=>rfl) hs
def aqp (hs:(n.aF.map (·.1)).Nodup)(hc:n.ar id=some c)(kT:(c.ch.map (·.1)).Nodup)(hh:n.h? id no=some h)(f:HN->HN):
 (n.bC id no f).eP w+w h=n.eP w+w (f h):=by
 have h1:=Nk (w:=w) hs hc λc=>{c with ch:=dD c.ch no f};have h2:=H9 kT (Db hh hc) f w;simp only at h1;have e:(n.bC id no f)=n.dM id λc=>{c with ch:=dD c.ch no f}:=rfl;rw[e];omega
def LP (hh:n.h? id no=some h):w h<=n.eP w:=by obtain⟨c,hc⟩:=xD hh;have h1:w h<=(c.ch.map λg=>w g.2).sum:=LO (f:=λg:Nat×HN=>w g.2) (jb (Db hh hc));have h2:(c.ch.map λg=>w g.2).sum<=n.eP w:=LO (f:=λe:Int×CN=>(e.2.ch.map λg=>w g.2).sum) (jb hc);omega
end
variable {m:aR}
structure Cl (m:aR):Prop where
 body:m.body.length<=10000
 key:m.key.length<=255
variable {h:HN}
structure Ay (T:Int) (h:HN):Prop where
 un:(h.un.map (·.1)).Pairwise (·<·)
 ut:∀e∈h.un,(e.1:Int)<=h.r.tag
 tag:0<=h.r.tag/\h.r.tag<=T
 co:dR cP (h.co.map (·.1))
 cn:(h.co.map (·.1)).Nodup
 tA:h.co.length<=4
 want:0<=h.r.want/\h.r.want<=3
 body:h.r.body.length<=20000
 size:h.r.size<=10000
 key:h.r.key.length<=255
 msg:∀e∈h.un,Cl e.2.2
structure Co (K:Nat) (r:CR):Prop where
 out:r.out.length<=K
 frame:64<=r.frame/\r.frame<=4096
 de:r.de<=8
variable {no:Nat}{c:CN}
structure Av (K:Nat) (c:CN):Prop where
 r:Co K c.r
 jG:(c.ch.map (·.1)).Pairwise (·<·)
 no:∀e∈c.ch,1<=e.1/\e.1<=8
variable {q:QN}
structure N9 (lim:Int) (q:QN):Prop where
 lim:(q.ready.length:Int)+q.held<=lim
 jG:q.ready.Pairwise λa b=>a.seq<b.seq
 msg:∀m∈q.ready,Cl m
 cons:q.cons.Nodup
structure FA (g:kt):Prop where
 ok:NP g
 queue:g.queue<=50
 ans:0<=g.queue
 body:g.body<=10000
 frame:64<=g.frame/\g.frame<=4096
 jr:g.jr<=8
variable {n:N}{nm:List UInt8}
structure xk (n:N) (nm:List UInt8) (q:QN):Prop where
 held:q.held=(n.im nm:Int)
 one:∀s,(q.ready.countP λm=>decide (m.seq=s))+n.cnt nm s<=1
 no:∀s,n.messages<s->(q.ready.countP λm=>decide (m.seq=s))+n.cnt nm s=0
variable {w:HN->Nat}{k:Int}{x:XN}
structure Ok (T:Int) (K:Nat) (ex:List Int) (n:N):Prop where
 cfg:FA n.cfg
 sc:(n.aF.map (·.1)).Pairwise (·<·)
 lc:n.aF.length<=4
 ids:∀id,(n.ar id).isSome->1<=id/\id<=n.last
 sq:dR cP (n.aN.map (·.1))
 nq:(n.aN.map (·.1)).Nodup
 lq:n.aN.length<=8
 w:Wf n
 c:∀id c,n.ar id=some c->Av K c
 h:∀id no h,n.h? id no=some h->Ay T h
 part:∀id no h,n.h? id no=some h->id∉ex->h.r.want=3->(h.r.body.length:Int)<=h.r.size
 q:∀nm q,n.q? nm=some q->N9 n.cfg.queue q
 cnt:∀nm q,n.q? nm=some q->xk n nm q
 x:∀k x,n.x? k=some x->(1<=k/\k<=n.bj)/\x.tag.length<=8
 xn:(n.xs.map (·.1)).Nodup
 xl:n.xs.length<=n.eP λh=>h.co.length
 gV:0<=n.messages/\n.messages<=T
 bj:0<=n.bj/\n.bj<=T
 last:0<=n.last
section
variable {β:Type}{n:N}{no:Nat}{c:CN}{h:HN}{w:HN->Nat}{nm:List UInt8}{q:QN}{k:Int}{x:XN}{m:aR}{n':N}{T:Int}{T':Int}{K:Nat}{K':Nat}{ex:List Int}{gf:List Int}
variable {id:Int}
def Ok.nc (o:Ok T K ex n):(n.aF.map (·.1)).Nodup:=ajQ o.sc
def Ay.mono (o:Ay T h)(ht:T<=T'):Ay T' h:={o with tag:=⟨o.tag.1,Int.le_trans o.tag.2 ht⟩}
def Co.mono {r:CR}(o:Co K r)(hk:K<=K'):Co K' r:={o with out:=Nat.le_trans o.out hk}
def Av.mono (o:Av K c)(hk:K<=K'):Av K' c:={o with r:=o.r.mono hk}
def Ok.mono (o:Ok T K ex n)(ht:T<=T')(hk:K<=K'):Ok T' K' ex n:={o with
 c:=λid c hc=>(o.c id c hc).mono hk
 h:=λid no h hh=>(o.h id no h hh).mono ht
 gV:=⟨o.gV.1,Int.le_trans o.gV.2 ht⟩
 bj:=⟨o.bj.1,Int.le_trans o.bj.2 ht⟩}
def Ok.Qj (o:Ok T K ex n)(hx:∀i∈ex,i∈gf):Ok T K gf n:={o with part:=λid no h hh hi=>o.part id no h hh λhm=>hi (hx _ hm)}
def mi {α β:Type}[DecidableEq α]{l:List (α×β)}{k:α}:(bq l k).isSome↔k∈l.map (·.1):=by
 constructor
 ·intro h;obtain⟨v,hv⟩:=Option.isSome_iff_exists.1 h;exact List.mem_map_of_mem (f:=(·.1)) (jb hv)
 ·intro h;obtain⟨e,he,rfl⟩:=List.mem_map.1 h
  cases hv:bq l e.1 with
  |none=>exact absurd rfl (jc hv e he)
  |some _=>rfl
def Wf.of (w:Wf n)(hx:∀k,n'.x? k=n.x? k)(hq:∀nm q',n'.q? nm=some q'->∃q,n.q? nm=some q/\q'.cons=q.cons)(gT:∀nm,(n.q? nm).isSome->(n'.q? nm).isSome)
 (hh:∀id no h',n'.h? id no=some h'->∃h,n.h? id no=some h/\h'.co=h.co/\∀e∈h'.un,e∈h.un\/(n.q? e.2.1).isSome) (fI:∀id no h,n.h? id no=some h->∃h',n'.h? id no=some h'/\h'.co=h.co):Wf n' where
 un:=λid no h' dX e he=>by obtain⟨h,h1,_,h3⟩:=hh _ _ _ dX;exact gT _ ((h3 e he).elim (λh4=>w.un _ _ _ h1 e h4) _root_.id)
 xq:=λk x hk=>gT _ (w.xq k x (by rw[<-hx];exact hk))
 xh:=λk x hk=>by obtain⟨h,h1,h2⟩:=w.xh k x (by rw[<-hx];exact hk);obtain⟨h',h3,h4⟩:=fI _ _ _ h1;exact⟨h',h3,by rw[h4];exact h2⟩
 co:=λid no h' dX e he=>by obtain⟨h,h1,h2,_⟩:=hh _ _ _ dX;obtain⟨x,h5⟩:=w.co _ _ _ h1 e (by rw[<-h2];exact he);exact⟨x,by rw[hx];exact h5⟩
 qc:=λnm q' bz k hk=>by obtain⟨q,h1,h2⟩:=hq _ _ bz;obtain⟨x,h5⟩:=w.qc _ _ h1 k (by rw[<-h2];exact hk);exact⟨x,by rw[hx];exact h5⟩
def Ok.of (o:Ok T K ex n)(Rz:n'.cfg=n.cfg)(s8:n'.aF.map (·.1)=n.aF.map (·.1))(rY:n'.aN.map (·.1)=n.aN.map (·.1))(Lq:n'.xs=n.xs)(Sb:n'.bj=n.bj)(mH:n'.last=n.last)
 (hm:0<=n'.messages/\n'.messages<=T') (ht:T<=T')
 (hc:∀id c',n'.ar id=some c'->Av K' c')
 (hh:∀id no h',n'.h? id no=some h'->Ay T' h'/\(id∉gf->h'.r.want=3->(h'.r.body.length:Int)<=h'.r.size)/\∃h,n.h? id no=some h/\h'.co=h.co/\∀e∈h'.un,e∈h.un\/(n.q? e.2.1).isSome)
 (fI:∀id no h,n.h? id no=some h->∃h',n'.h? id no=some h'/\h'.co=h.co)
 (hq:∀nm q',n'.q? nm=some q'->N9 n.cfg.queue q'/\xk n' nm q'/\∃q,n.q? nm=some q/\q'.cons=q.cons)
 (agS:(n'.eP λh=>h.co.length)=n.eP λh=>h.co.length):Ok T' K' gf n':=by
 have hx:∀k,n'.x? k=n.x? k:=λk=>by unfold N.x?;rw[Lq]
 have lk:n'.aF.length=n.aF.length:=by have:=congrArg List.length s8;simpa using this
 have Es:n'.aN.length=n.aN.length:=by have:=congrArg List.length rY;simpa using this
 exact{
  cfg:=by rw[Rz];exact o.cfg
  sc:=by rw[s8];exact o.sc
  lc:=by rw[lk];exact o.lc
  ids:=λid hi=>by rw[mH];exact o.ids id (mi.2 (by rw[<-s8];exact mi.1 hi))
  sq:=by rw[rY];exact o.sq
  nq:=by rw[rY];exact o.nq
  lq:=by rw[Es];exact o.lq
  w:=o.w.of hx (λnm q' h1=>(hq nm q' h1).2.2) (λnm hi=>mi.2 (by rw[rY];exact mi.1 hi)) (λid no h' h1=>(hh id no h' h1).2.2) fI
  c:=hc
  h:=λid no h' h1=>(hh id no h' h1).1
  part:=λid no h' h1=>(hh id no h' h1).2.1
  q:=λnm q' h1=>by rw[Rz];exact(hq nm q' h1).1
  cnt:=λnm q' h1=>(hq nm q' h1).2.1
  x:=λk x hk=>by rw[Sb];exact o.x k x (by rw[<-hx];exact hk)
  xn:=by rw[Lq];exact o.xn
  xl:=by rw[Lq,agS];exact o.xl
  gV:=hm
  bj:=by rw[Sb];exact⟨o.bj.1,Int.le_trans o.bj.2 ht⟩
  last:=by rw[mH];exact o.last}
def rG {f:CN->CN}:(n.dM id f).aF.map (·.1)=n.aF.map (·.1):=oQ _ _ _ λx=>x
def BV {f:QN->QN}:(n.bK nm f).aN.map (·.1)=n.aN.map (·.1):=oQ _ _ _ λx=>x
def xk.same (o:xk n nm q)(h1:n'.im nm=n.im nm)(h2:∀s,n'.cnt nm s=n.cnt nm s)(h3:n'.messages=n.messages):xk n' nm q:=
 ⟨by rw[h1];exact o.held,λs=>by rw[h2];exact o.one s,λs hs=>by rw[h2];exact o.no s (by rw[<-h3];exact hs)⟩
def Ok.bE (o:Ok T K ex n){f:CR->CR}(hk:K<=K')(hf:∀c,n.ar id=some c->Co K' (f c.r)):Ok T K' ex (n.bE id f):=by
 refine o.of rfl rG rfl rfl rfl rfl o.gV (Int.le_refl _) (λi c' cE=>?_) (λi no h' dX=>?_) (λi no h hh=>⟨h,by rw[Kh];exact hh,rfl⟩) (λnm q' bz=>⟨o.q nm q' bz,(o.cnt nm q' bz).same (Nl o.nc) (λs=>Nl o.nc) rfl,q',bz,rfl⟩) (Nl o.nc)
 ·rw[qH]at cE;by_cases e:i=id
  ·subst e;rw[if_pos rfl]at cE;obtain⟨c,hc,rfl⟩:=Option.map_eq_some_iff.1 cE;exact⟨hf c hc,(o.c i c hc).jG,(o.c i c hc).no⟩
  ·rw[if_neg e]at cE;exact(o.c i c' cE).mono hk
 ·rw[Kh]at dX;exact⟨o.h _ _ _ dX,o.part _ _ _ dX,h',dX,rfl,λe he=>.inl he⟩
def Ok.send (o:Ok T K ex n){s:List UInt8}:Ok T (K+s.length) ex (n.send id s):=
 o.bE aa λc hc=>⟨by have:=(o.c id c hc).r.out;simp only[List.length_append];omega,(o.c id c hc).r.frame,(o.c id c hc).r.de⟩
def yU (hc:n.ar id=some c)(o:Ok T K ex n):(c.ch.map (·.1)).Nodup:=BG (o.c id c hc).jG
def Fe (o:Ok T K ex n)(hh:n.h? id no=some h)(f:HN->HN)(w:HN->Nat):(n.bC id no f).eP w+w h=n.eP w+w (f h):=by obtain⟨c,hc⟩:=xD hh;exact aqp o.nc hc (yU hc o) hh f
def CC (o:Ok T K ex n){f:HN->HN}:∀i c',(n.bC id no f).ar i=some c'->Av K c':=λi c' cE=>by
 rw[vJ]at cE;by_cases e:i=id
 ·subst e;rw[if_pos rfl]at cE;obtain⟨c,hc,rfl⟩:=Option.map_eq_some_iff.1 cE;have hk:(dD c.ch no f).map (·.1)=c.ch.map (·.1):=oQ _ _ _ λx=>x;refine⟨(o.c i c hc).r,by simp only;rw[hk];exact(o.c i c hc).jG,λe he=>?_⟩;have:e.1∈c.ch.map (·.1):=by rw[<-hk];exact List.mem_map_of_mem (f:=(·.1)) he
  obtain⟨e',gA,h2⟩:=List.mem_map.1 this;rw[<-h2];exact(o.c i c hc).no e' gA
 ·rw[if_neg e]at cE;exact o.c i c' cE
def Ok.cN (o:Ok T K ex n){f:HR->HR}(hh:n.h? id no=some h)(hf:Ay T' {h with r:=f h.r})(ht:T<=T')(hp:id∉gf->(f h.r).want=3->((f h.r).body.length:Int)<=(f h.r).size)(hx:∀i∈ex,i∈gf):Ok T' K gf (n.cN id no f):=by
 have key:∀w:HN->Nat,(∀h,w {h with r:=f h.r}=w h)->(n.cN id no f).eP w=n.eP w:=λw hw=>by have:=Fe o hh (λh=>{h with r:=f h.r}) w;rw[hw h]at this;have e:n.cN id no f=n.bC id no λh=>{h with r:=f h.r}:=rfl;rw[e];omega
 refine o.of rfl rG rfl rfl rfl rfl ⟨o.gV.1,Int.le_trans o.gV.2 ht⟩ ht (CC o) (λi j h' dX=>?_) (λi j g hg=>?_) (λnm q' bz=>⟨o.q nm q' bz,(o.cnt nm q' bz).same (key _ λ_=>rfl) (λs=>key _ λ_=>rfl) rfl,q',bz,rfl⟩) (key _ λ_=>rfl)
 ·rw[Kg]at dX;by_cases e:i=id/\j=no
  ·obtain⟨rfl,rfl⟩:=e;rw[if_pos ⟨rfl,rfl⟩,hh]at dX
   cases dX
   exact⟨hf,hp,h,hh,rfl,λe he=>.inl he⟩
  ·rw[if_neg e]at dX;exact⟨(o.h _ _ _ dX).mono ht,λhi=>o.part _ _ _ dX λhm=>hi (hx _ hm),h',dX,rfl,λe he=>.inl he⟩
 ·rw[Kg];by_cases e:i=id/\j=no
  ·rw[if_pos e,hg];exact⟨_,rfl,rfl⟩
  ·rw[if_neg e];exact⟨g,hg,rfl⟩
def Ok.bK (o:Ok T K ex n){f:QN->QN}(hf:∀q,n.q? nm=some q->(f q).ready.Sublist q.ready/\(f q).held=q.held/\(f q).cons=q.cons):Ok T K ex (n.bK nm f):=by
 refine o.of rfl rfl BV rfl rfl rfl o.gV (Int.le_refl _) o.c (λi j h' dX=>⟨o.h _ _ _ dX,o.part _ _ _ dX,h',dX,rfl,λe he=>.inl he⟩) (λi j h hh=>⟨h,hh,rfl⟩) (λdi q' bz=>?_) rfl;rw[vc]at bz;by_cases e:di=nm
 ·rw[if_pos e]at bz;obtain⟨q,hq,rfl⟩:=Option.map_eq_some_iff.1 bz;obtain⟨f1,f2,f3⟩:=hf q (by rw[<-e];exact hq);have oq:=o.q _ _ hq;have oc:=o.cnt _ _ hq;refine⟨⟨?_,oq.jG.sublist f1,λm hm=>oq.msg m (f1.subset hm),by rw[f3];exact oq.cons⟩,⟨by rw[f2];exact oc.held,λs=>?_,λs hs=>?_⟩,q,hq,f3⟩
  ·have:=f1.length_le;have:=oq.lim;rw[f2];omega
  ·have:=f1.countP_le (p:=λm=>decide (m.seq=s));have h2:=oc.one s;exact Nat.le_trans (Nat.add_le_add_right this _) h2
  ·have:=f1.countP_le (p:=λm=>decide (m.seq=s));have h2:=oc.no s hs;exact Nat.le_zero.1 (Nat.le_trans (Nat.add_le_add_right this _) (Nat.le_of_eq h2))
 ·rw[if_neg e]at bz;exact⟨o.q _ _ bz,(o.cnt _ _ bz).same rfl (λ_=>rfl) rfl,q',bz,rfl⟩
end
section
variable {β:Type}{n:N}{no:Nat}{c:CN}{h:HN}{w:HN->Nat}{nm:List UInt8}{q:QN}{k:Int}{x:XN}{m:aR}{T:Int}{T':Int}{K:Nat}{ex:List Int}
variable {id:Int}
def PL {β:Type}{l:List (Nat×β)}{k:Nat}{v:β}(s:(l.map (·.1)).Nodup)(h:bq l k=some v)(p:Nat×β->Bool)(hp:∀a b v,p (a,v)=p (b,v)):
 (cB l k).countP p+(if p (k,v)then 1 else 0)=l.countP p:=by
 have key:∀l:List (Nat×β),l.countP p=(l.map λe=>(λv=>if p (0,v)then 1 else 0) e.2).sum:=λl=>by
  induction l with
  |nil=>rfl
  |cons e l ih=>
   rw[List.countP_cons,ih,List.map_cons,List.sum_cons];have:p (0,e.2)=p e:=hp 0 e.1 e.2
   dsimp only
   rw[this];omega
 have:=apP s h λv=>if p (0,v)then 1 else 0;rw[key,key,hp k 0 v];exact this
def Ok.hand (o:Ok T K ex n){ms:List aR}{g:QN->QN}{na:Bool}(hh:n.h? id no=some h)(hq:n.q? nm=some q)(hr:q.ready=m::ms)(hg:(g q).ready=ms/\(g q).held=q.held/\(g q).cons=q.cons):
 Ok (T+1) K ex ((n.bK nm g).hand id no nm m na):=by
 have oq:=o.q _ _ hq;have oc:=o.cnt _ _ hq;have oh:=o.h _ _ _ hh;have hm:Cl m:=oq.msg m (by rw[hr];simp);have j8:ms.Sublist q.ready:=by rw[hr];exact List.sublist_cons_self _ _
 obtain⟨g1,g2,g3⟩:=hg
 cases na with
 |true=>
  have o1:Ok T K ex (n.bK nm g):=by
   exact o.bK λq' bz=>by
    rw[hq]at bz;cases bz
    exact⟨by rw[g1];exact j8,g2,g3⟩
  have nF:(n.bK nm g).h? id no=some h:=hh;unfold N.hand;rw[if_pos rfl];exact o1.cN nF (T':=T+1) {oh with ut:=λe he=>by have:=oh.ut e he;simp only;omega,tag:=⟨by have:=oh.tag.1;simp only;omega,by have:=oh.tag.2;simp only;omega⟩} aa (λhi=>o.part _ _ _ hh hi) λ_ hi=>hi
 |false=>
  let f:HN->HN:=λh=>{h with r:={h.r with tag:=h.r.tag+1},un:=h.un++[((h.r.tag+1).toNat,(nm,m))]}
  have e1:(n.bK nm g).hand id no nm m false=(n.bC id no f).bK nm λq=>{g q with held:=(g q).held+1}:=by unfold N.hand;rw[if_neg al];have:(n.bK nm g).bC id no f=(n.bC id no f).bK nm g:=rfl;rw[this,Ff]
  rw[e1];have tt:=λw:HN->Nat=>Fe o hh f w;have iD:(f h).un=h.un++[((h.r.tag+1).toNat,(nm,m))]:=rfl
  have Dy:∀di,(n.bC id no f).im di=n.im di+(if nm=di then 1 else 0):=λdi=>by have:=tt λh=>h.un.countP λe=>decide (e.2.1=di);rw[iD,List.countP_append,List.countP_singleton]at this;unfold N.im;simp only[decide_eq_true_eq]at this;omega
  have xF:∀di s,(n.bC id no f).cnt di s=n.cnt di s+(if nm=di/\m.seq=s then 1 else 0):=λdi s=>by have:=tt λh=>h.un.countP λe=>decide (e.2.1=di)&&decide (e.2.2.seq=s);rw[iD,List.countP_append,List.countP_singleton]at this;unfold N.cnt;simp only[Bool.and_eq_true,decide_eq_true_eq]at this;omega
  have Li:((n.bC id no f).eP λh=>h.co.length)=n.eP λh=>h.co.length:=by have:=tt λh=>h.co.length;have e:(f h).co=h.co:=rfl;rw[e]at this;omega
  refine o.of rfl (show(n.bC id no f).aF.map (·.1)=_ from rG (f:=λc=>{c with ch:=dD c.ch no f})) (BV (n:=n.bC id no f)) rfl rfl rfl ⟨o.gV.1,by have:=o.gV.2;show n.messages<=T+1;omega⟩ aa (CC o) (λi j h' dX=>?_) (λi j g hg=>?_) (λdi q' bz=>?_) Li
  ·rw[A6,jY]at dX;by_cases e:i=id/\j=no
   ·obtain⟨rfl,rfl⟩:=e;rw[if_pos ⟨rfl,rfl⟩,hh]at dX
    cases dX
    have h0:=oh.tag.1;refine⟨{oh with un:=?_,ut:=?_,tag:=⟨?_,?_⟩,msg:=?_},λhi hw=>o.part _ _ h hh hi hw,h,hh,rfl,λe he=>?_⟩
    ·rw[iD,List.map_append,List.pairwise_append];refine⟨oh.un,al,λa ha b hb=>?_⟩;obtain⟨e,he,rfl⟩:=List.mem_map.1 ha;have h2:=oh.ut e he;simp only[List.map_cons,List.map_nil,List.mem_singleton]at hb;subst hb;omega
    ·intro e he;rw[iD]at he;rcases List.mem_append.1 he with he|he
     ·have:=oh.ut e he;show(e.1:Int)<=h.r.tag+1;omega
     ·simp only[List.mem_singleton]at he;subst he;show(((h.r.tag+1).toNat:Nat):Int)<=h.r.tag+1;omega
    ·show 0<=h.r.tag+1;omega
    ·show h.r.tag+1<=T+1;have:=oh.tag.2;omega
    ·intro e he;rw[iD]at he;rcases List.mem_append.1 he with he|he
     ·exact oh.msg e he
     ·simp only[List.mem_singleton]at he;subst he;exact hm
    ·rw[iD]at he;rcases List.mem_append.1 he with he|he
     ·exact .inl he
     ·simp only[List.mem_singleton]at he;subst he;exact .inr (by rw[hq];rfl)
   ·rw[if_neg e]at dX;exact⟨(o.h _ _ _ dX).mono aa,o.part _ _ _ dX,h',dX,rfl,λe he=>.inl he⟩
  ·rw[A6,jY];by_cases e:i=id/\j=no
   ·rw[if_pos e,hg];exact⟨_,rfl,rfl⟩
   ·rw[if_neg e];exact⟨g,hg,rfl⟩
  ·rw[vc,HL]at bz;by_cases e:di=nm
   ·subst e;rw[if_pos rfl,hq]at bz
    cases bz
    refine⟨⟨?_,?_,?_,?_⟩,⟨?_,λs=>?_,λs hs=>?_⟩,q,hq,g3⟩
    ·have:=oq.lim;rw[hr]at this;simp only[g1,g2,List.length_cons]at this|-;omega
    ·simp only[g1];exact oq.jG.sublist j8
    ·simp only[g1];exactλm hm=>oq.msg m (j8.subset hm)
    ·simp only[g3];exact oq.cons
    ·show(g q).held+1=(((n.bC id no f).im di:Nat):Int);rw[Dy,g2,oc.held,if_pos rfl];omega
    ·have:=oc.one s;show(((g q).ready.countP λm=>decide (m.seq=s))+(n.bC id no f).cnt di s)<=1;rw[hr,List.countP_cons]at this;rw[xF,g1];simp only[decide_eq_true_eq,true_and]at this|-;omega
    ·have:=oc.no s hs;show(((g q).ready.countP λm=>decide (m.seq=s))+(n.bC id no f).cnt di s)=0;rw[hr,List.countP_cons]at this;rw[xF,g1];simp only[decide_eq_true_eq,true_and]at this|-;omega
   ·rw[if_neg e]at bz;refine⟨o.q _ _ bz,(o.cnt _ _ bz).same ?_ (λs=>?_) rfl,q',bz,rfl⟩
    ·show(n.bC id no f).im di=_;rw[Dy,if_neg λx=>e x.symm];omega
    ·show(n.bC id no f).cnt di s=_;rw[xF,if_neg λx=>e x.1.symm];omega
end
def L3(ms:List aR)(m:aR):(jA ms m).Perm ({m with again:=true}::ms):=by unfold jA;refine List.perm_middle.trans (List.Perm.cons _ ?_);rw[List.takeWhile_append_dropWhile]
def aj3{ms:List aR}(s:ms.Pairwise λa b=>a.seq<b.seq)(hm:∀x∈ms,x.seq≠m.seq):(jA ms m).Pairwise λa b=>a.seq<b.seq:=by
 unfold jA
 induction ms with
 |nil=>simp
 |cons a ms ih=>
  rw[List.pairwise_cons]at s;have ih:=ih s.2 λx hx=>hm x (by simp[hx]);by_cases h:a.seq<m.seq
  ·rw[List.takeWhile_cons_of_pos (aY h),List.dropWhile_cons_of_pos (aY h),List.cons_append,List.pairwise_cons];refine⟨λb hb=>?_,ih⟩;rcases List.mem_append.1 hb with hb|hb
   ·exact s.1 b ((List.takeWhile_sublist _).subset hb)
   ·rcases List.mem_cons.1 hb with rfl|hb
    ·exact h
    ·exact s.1 b ((List.dropWhile_sublist _).subset hb)
  ·rw[List.takeWhile_cons_of_neg (aY h),List.dropWhile_cons_of_neg (aY h),List.nil_append,List.pairwise_cons,List.pairwise_cons];have h1:m.seq<a.seq:=by have:=hm a al;omega
   refine⟨λb hb=>?_,s⟩;rcases List.mem_cons.1 hb with rfl|hb
   ·exact h1
   ·have:=s.1 b hb;show m.seq<b.seq;omega
section
variable {n:N}{no:Nat}{c:CN}{h:HN}{w:HN->Nat}{nm:List UInt8}{q:QN}{x:XN}{m:aR}{T:Int}{K:Nat}{ex:List Int}
variable {id:Int}
def Ok.settle (o:Ok T K ex n){tag:Nat}{b:Bool}:Ok T K ex (n.settle id no tag b):=by
 unfold N.settle
 cases hh:n.h? id no with
 |none=>exact o
 |some h=>
  cases hu:bq h.un tag with
  |none=>simp only[Option.bind_some,hu];exact o
  |some e=>
   obtain⟨nm,m⟩:=e;simp only[Option.bind_some,hu];have oh:=o.h _ _ _ hh;have qf:=jb hu;obtain⟨q,hq⟩:=Option.isSome_iff_exists.1 (o.w.un _ _ _ hh _ qf);simp only at hq;have oq:=o.q _ _ hq;have oc:=o.cnt _ _ hq;have hm:Cl m:=oh.msg _ qf
   let f:HN->HN:=λh=>{h with un:=cB h.un tag}
   have tt:=λw:HN->Nat=>Fe o hh f w;have iD:(f h).un=cB h.un tag:=rfl
   have Dy:∀di,(n.bC id no f).im di+(if nm=di then 1 else 0)=n.im di:=λdi=>by have h1:=tt λh=>h.un.countP λe=>decide (e.2.1=di);have h2:=PL (BG oh.un) hu (λe=>decide (e.2.1=di)) λ_ _ _=>rfl;simp only[iD]at h1;simp only[decide_eq_true_eq]at h2;unfold N.im;omega
   have xF:∀di s,(n.bC id no f).cnt di s+(if nm=di/\m.seq=s then 1 else 0)=n.cnt di s:=λdi s=>by have h1:=tt λh=>h.un.countP λe=>decide (e.2.1=di)&&decide (e.2.2.seq=s);have h2:=PL (BG oh.un) hu (λe=>decide (e.2.1=di)&&decide (e.2.2.seq=s)) λ_ _ _=>rfl;simp only[iD]at h1;simp only[Bool.and_eq_true,decide_eq_true_eq]at h2;unfold N.cnt;omega
   have Li:((n.bC id no f).eP λh=>h.co.length)=n.eP λh=>h.co.length:=by have:=tt λh=>h.co.length;have e:(f h).co=h.co:=rfl;rw[e]at this;omega
   refine o.of rfl (show(n.bC id no f).aF.map (·.1)=_ from rG (f:=λc=>{c with ch:=dD c.ch no f})) (BV (n:=n.bC id no f)) rfl rfl rfl o.gV (Int.le_refl _) (CC o) (λi j h' dX=>?_) (λi j g hg=>?_) (λdi q' bz=>?_) Li
   ·rw[A6,jY]at dX;by_cases e:i=id/\j=no
    ·obtain⟨rfl,rfl⟩:=e;rw[if_pos ⟨rfl,rfl⟩,hh]at dX
     cases dX
     have j8:(cB h.un tag).Sublist h.un:=List.filter_sublist;exact⟨{oh with un:=oh.un.sublist (j8.map _),ut:=λe he=>oh.ut e (j8.subset he),msg:=λe he=>oh.msg e (j8.subset he)},λhi hw=>o.part _ _ h hh hi hw,h,hh,rfl,λe he=>.inl (j8.subset he)⟩
    ·rw[if_neg e]at dX;exact⟨o.h _ _ _ dX,o.part _ _ _ dX,h',dX,rfl,λe he=>.inl he⟩
   ·rw[A6,jY];by_cases e:i=id/\j=no
    ·rw[if_pos e,hg];exact⟨_,rfl,rfl⟩
    ·rw[if_neg e];exact⟨g,hg,rfl⟩
   ·rw[vc,HL]at bz;by_cases e:di=nm
    ·subst e;rw[if_pos rfl,hq]at bz
     cases bz
     have cF:∀s,((if b=true then jA q.ready m else q.ready).countP λm=>decide (m.seq=s))+(n.bC id no f).cnt di s<=(q.ready.countP λm=>decide (m.seq=s))+n.cnt di s:=λs=>by
      have h3:=xF di s;simp only[true_and]at h3
      cases b with
      |false=>simp only[Bool.false_eq_true,if_false];omega
      |true=>
       simp only[if_true];rw[(L3 q.ready m).countP_eq,List.countP_cons];simp only[decide_eq_true_eq];omega
     refine⟨⟨?_,?_,?_,oq.cons⟩,⟨?_,λs=>Nat.le_trans (cF s) (oc.one s),λs hs=>Nat.le_zero.1 (Nat.le_trans (cF s) (Nat.le_of_eq (oc.no s hs)))⟩,q,hq,rfl⟩
     ·have:=oq.lim
      cases b with
      |false=>simp only[Bool.false_eq_true,if_false];omega
      |true=>simp only[if_true];rw[(L3 q.ready m).length_eq,List.length_cons];omega
     ·cases b with
      |false=>simp only[Bool.false_eq_true,if_false];exact oq.jG
      |true=>
       simp only[if_true];refine aj3 oq.jG λy hy e=>?_;have h1:=oc.one m.seq;have h2:0<q.ready.countP λx=>decide (x.seq=m.seq):=List.countP_pos_iff.2 ⟨y,hy,by simpa using e⟩;have h3:=xF di m.seq;simp only[true_and,if_true]at h3;omega
     ·cases b with
      |false=>simp only[Bool.false_eq_true,if_false];exact oq.msg
      |true=>
       simp only[if_true];intro y hy;rcases List.mem_cons.1 ((L3 q.ready m).mem_iff.1 hy)with rfl|hy
       ·exact⟨hm.body,hm.key⟩
       ·exact oq.msg y hy
     ·show q.held-1=(((n.bC id no f).im di:Nat):Int);have:=Dy di;rw[if_pos rfl]at this;rw[oc.held];omega
    ·rw[if_neg e]at bz;refine⟨o.q _ _ bz,(o.cnt _ _ bz).same ?_ (λs=>?_) rfl,q',bz,rfl⟩
     ·show(n.bC id no f).im di=_;have:=Dy di;rw[if_neg λx=>e x.symm]at this;omega
     ·show(n.bC id no f).cnt di s=_;have:=xF di s;rw[if_neg λx=>e x.1.symm]at this;omega
def Ok.kZ (o:Ok T K ex n){l:List (Nat×(List UInt8×aR))}:Ok T K ex (n.kZ id no l):=by
 unfold N.kZ
 induction l generalizing n with
 |nil=>exact o
 |cons e l ih=>exact ih o.settle
def Ok.iO (o:Ok T K ex n){p:Nat->Bool}{b:Bool}{l:List (Nat×(List UInt8×aR))}:Ok T K ex (n.iO id no p b l):=by
 unfold N.iO
 induction l generalizing n with
 |nil=>exact o
 |cons e l ih=>
  rw[List.foldl_cons];split
  ·exact ih o.settle
  ·exact ih o
def Ok.jO (o:Ok T K ex n){key body:List UInt8}(hk:key.length<=255)(hb:body.length<=10000):Ok (T+1) K ex (n.jO key body).1:=by
 unfold N.jO
 cases hq:n.q? key with
 |none=>exact o.mono aa (Nat.le_refl _)
 |some q=>
  simp only[];split
  ·exact o.mono aa (Nat.le_refl _)
  ·rename_i gn;have oq:=o.q _ _ hq;have oc:=o.cnt _ _ hq;have GP:=o.gV.1;refine o.of rfl rfl (BV (n:={n with messages:=n.messages+1})) rfl rfl rfl ⟨by show 0<=n.messages+1;omega,by have:=o.gV.2;show n.messages+1<=T+1;omega⟩ aa o.c (λi j h' dX=>⟨(o.h _ _ _ dX).mono aa,o.part _ _ _ dX,h',dX,rfl,λe he=>.inl he⟩) (λi j g hg=>⟨g,hg,rfl⟩) (λdi q' bz=>?_) rfl;rw[vc]at bz;have KZ:∀i,N.q? {n with messages:=n.messages+1} i=n.q? i:=λ_=>rfl;rw[KZ]at bz;by_cases e:di=key
   ·subst e;rw[if_pos rfl,hq]at bz
    cases bz
    have hold:∀y∈q.ready,y.seq<=n.messages:=λy hy=>by
     by_cases SD:n.messages<y.seq
     ·have h1:=oc.no _ SD;have h2:0<q.ready.countP λx=>decide (x.seq=y.seq):=List.countP_pos_iff.2 ⟨y,hy,al⟩;omega
     ·omega
    refine⟨⟨?_,?_,λy hy=>?_,oq.cons⟩,⟨oc.held,λs=>?_,λs hs=>?_⟩,q,hq,rfl⟩
    ·simp only[List.length_append,List.length_cons,List.length_nil];omega
    ·simp only[];rw[List.pairwise_append];refine⟨oq.jG,al,λa ha b hb=>?_⟩;simp only[List.mem_singleton]at hb;subst hb;have:=hold a ha;show a.seq<n.messages+1;omega
    ·rcases List.mem_append.1 hy with hy|hy
     ·exact oq.msg y hy
     ·simp only[List.mem_singleton]at hy;subst hy;exact⟨hb,hk⟩
    ·show((q.ready++[(⟨n.messages+1,di,body,false⟩:aR)]).countP λm=>decide (m.seq=s))+n.cnt di s<=1;rw[List.countP_append,List.countP_singleton];simp only[decide_eq_true_eq];have h1:=oc.one s;by_cases e:n.messages+1=s
     ·have:=oc.no s aa;rw[if_pos e];omega
     ·rw[if_neg e];omega
    ·show((q.ready++[(⟨n.messages+1,di,body,false⟩:aR)]).countP λm=>decide (m.seq=s))+n.cnt di s=0;have cT:n.messages+1<s:=hs;rw[List.countP_append,List.countP_singleton];simp only[decide_eq_true_eq];rw[if_neg aa];have:=oc.no s aa;omega
   ·rw[if_neg e]at bz;exact⟨o.q _ _ bz,⟨(o.cnt _ _ bz).held,(o.cnt _ _ bz).one,λs hs=>(o.cnt _ _ bz).no s (by have cT:n.messages+1<s:=hs;omega)⟩,q',bz,rfl⟩
end
def N.without(n:N)(l:List Int):N:={n with aN:=n.aN.map λe=>(e.1,{e.2 with cons:=e.2.cons.filter λk=>decide (k∉l)}),xs:=n.xs.filter λe=>decide (e.1∉l)}
section
variable {β:Type}{n:N}{aK:Int}{no:Nat}{dB:Nat}{c:CN}{h:HN}{w:HN->Nat}{nm:List UInt8}{q:QN}{k:Int}{x:XN}{m:aR}{T:Int}{K:Nat}{ex:List Int}{l:List Int}
variable {id:Int}
@[simp] def Ki:(n.without l).h? id no=n.h? id no:=rfl
@[simp] def ar6:(n.without l).ar id=n.ar id:=rfl
def On {β γ:Type}{α:Type}[DecidableEq α](l:List (α×β))(k:α)(f:β->γ):bq (l.map λe=>(e.1,f e.2)) k=(bq l k).map f:=by unfold bq;rw[List.find?_map,Option.map_map,Option.map_map];rfl
def HM:(n.without l).q? nm=(n.q? nm).map λq=>{q with cons:=q.cons.filter λk=>decide (k∉l)}:=by unfold N.q? N.without;exact On (γ:=QN) n.aN nm λq:QN=>{q with cons:=q.cons.filter λk=>decide (k∉l)}
def Om {β:Type}{α:Type}[DecidableEq α](l:List (α×β))(k:α)(p:α->Bool):bq (l.filter λe=>p e.1) k=if p k then bq l k else none:=by
 induction l with
 |nil=>simp[bq]
 |cons e l ih=>
  unfold bq at ih|-;rw[List.filter_cons];by_cases he:e.1=k
  ·subst he;by_cases hp:p e.1
   ·simp[hp]
   ·rw[if_neg hp,ih,if_neg hp,if_neg hp]
  ·by_cases hp:p e.1
   ·rw[if_pos hp,List.find?_cons,List.find?_cons];simp only[he,decide_false];exact ih
   ·rw[if_neg hp,List.find?_cons];simp only[he,decide_false];exact ih
def Fo:(n.without l).x? k=if k∈l then none else n.x? k:=by unfold N.x? N.without;rw[Om n.xs k λa=>decide (a∉l)];by_cases h:k∈l<;>simp[h]
structure QX (n:N):Prop where
 nq:(n.aN.map (·.1)).Nodup
 qc:∀nm q,n.q? nm=some q->∀k∈q.cons,∃x,n.x? k=some x/\x.q=nm
 xq:∀k x,n.x? k=some x->(n.q? x.q).isSome
def Ok.qx (o:Ok T K ex n):QX n:=⟨o.nq,o.w.qc,o.w.xq⟩
def QX.without (o:QX n):QX (n.without l):=by
 refine⟨?_,λnm q hq k hk=>?_,λk x hx=>?_⟩
 ·have:((n.without l).aN.map (·.1))=n.aN.map (·.1):=by unfold N.without;rw[List.map_map];rfl
  rw[this];exact o.nq
 ·rw[HM]at hq;obtain⟨q0,h0,rfl⟩:=Option.map_eq_some_iff.1 hq;obtain⟨h1,h2⟩:=List.mem_filter.1 hk;obtain⟨x,hx,hn⟩:=o.qc nm q0 h0 k h1;exact⟨x,by rw[Fo,if_neg (aY h2)];exact hx,hn⟩
 ·rw[Fo]at hx;split at hx
  ·cases hx
  ·have:=o.xq k x hx;rw[HM];simpa using this
def Pl (o:QX n):n.cancel k=n.without [k]:=by
 have hf:∀nm q,n.q? nm=some q->(∀x,n.x? k=some x->¬x.q=nm)->(q.cons.filter λj=>decide (j∉[k]))=q.cons:=λnm q hq hx=>List.filter_eq_self.2 λj hj=>by simp only[List.mem_singleton,decide_not,Bool.not_eq_eq_eq_not,Bool.not_true,decide_eq_false_iff_not];rintro rfl;obtain⟨x,h1,h2⟩:=o.qc nm q hq j hj;exact hx x h1 h2
 unfold N.cancel N.without
 cases hx:n.x? k with
 |none=>
  simp only[]
  have e1:(n.aN.map λe=>(e.1,{e.2 with cons:=e.2.cons.filter λj=>decide (j∉[k])}))=n.aN:=by
   have:(n.aN.map λe=>(e.1,{e.2 with cons:=e.2.cons.filter λj=>decide (j∉[k])}))=n.aN.map λe=>e:=List.map_congr_left λe he=>by rw[hf e.1 e.2 (oF o.nq he) λx h1=>by rw[hx]at h1;cases h1]
   rw[this,List.map_id']
  have e2:(n.xs.filter λe=>decide (e.1∉[k]))=n.xs:=List.filter_eq_self.2 λe he=>by have:=jc hx e he;simpa using this
  rw[e1,e2]
 |some x=>
  simp only[]
  have e1:(n.bK x.q λq=>{q with cons:=q.cons.filter λj=>decide (j≠k)}).aN=n.aN.map λe=>(e.1,{e.2 with cons:=e.2.cons.filter λj=>decide (j∉[k])}):=by
   unfold N.bK dD;apply List.map_congr_left;intro e he;by_cases hn:e.1=x.q
   ·rw[if_pos hn]
    have:(e.2.cons.filter λj=>decide (j≠k))=e.2.cons.filter λj=>decide (j∉[k]):=by apply List.filter_congr;intro j _;simp
    simp only[this]
   ·rw[if_neg hn,hf e.1 e.2 (oF o.nq he) λy hy=>by rw[hx]at hy;cases hy;exactλz=>hn z.symm]
  have e2:cB n.xs k=n.xs.filter λe=>decide (e.1∉[k]):=by unfold cB;apply List.filter_congr;intro e _;simp
  rw[<-e1,e2];rfl
def aq5 {l':List Int}:(n.without l).without l'=n.without (l++l'):=by
 unfold N.without;simp only[List.map_map,List.filter_filter];congr 1
 ·apply List.map_congr_left;intro e _;simp only[Function.comp]
  have:((e.2.cons.filter λk=>decide (k∉l)).filter λk=>decide (k∉l'))=e.2.cons.filter λk=>decide (k∉l++l'):=by rw[List.filter_filter];apply List.filter_congr;intro k _;rw[Bool.eq_iff_iff];simp only[Bool.and_eq_true,decide_eq_true_eq,List.mem_append,not_or];exact And.comm
  rw[this]
 ·apply List.filter_congr;intro e _;rw[Bool.eq_iff_iff];simp only[Bool.and_eq_true,decide_eq_true_eq,List.mem_append,not_or];exact And.comm
def filter_all {α:Type}(l:List α):(l.filter λ_=>true)=l:=List.filter_eq_self.2 λ_ _=>rfl
def aq4:n.without []=n:=by unfold N.without;simp only[List.not_mem_nil,not_false_eq_true,decide_true,filter_all,List.map_id']
def Po (o:QX n){l:List (List UInt8×Int)}:n.jV l=n.without (l.map (·.2)):=by
 unfold N.jV
 induction l generalizing n with
 |nil=>rw[List.foldl_nil,List.map_nil,aq4]
 |cons e l ih=>
  rw[List.foldl_cons,Pl o,ih o.without,aq5];rfl
def aey {tag:Nat}{b:Bool}(hh:n.h? id no=some h):(n.settle id no tag b).h? id no=some {h with un:=cB h.un tag}:=by
 unfold N.settle;rw[hh]
 cases hu:bq h.un tag with
 |none=>
  simp only[Option.bind_some,hu,hh];have:cB h.un tag=h.un:=List.filter_eq_self.2 λe he=>by have:=jc hu e he;simpa using this
  rw[this]
 |some e=>
  simp only[Option.bind_some,hu];rw[A6,jY,if_pos ⟨rfl,rfl⟩,hh];rfl
def aeA {tag:Nat}{b:Bool}(aE:¬(aK=id/\dB=no)):(n.settle id no tag b).h? aK dB=n.h? aK dB:=by
 unfold N.settle;split
 ·rfl
 ·rw[A6,jY,if_neg aE]
def Rl {p:Nat->Bool}{b:Bool}{l:List (Nat×(List UInt8×aR))}(hh:n.h? id no=some h):
 (n.iO id no p b l).h? id no=some {h with un:=h.un.filter λe=> !(l.any λt=>decide (t.1=e.1)&&p t.1)}:=by
 unfold N.iO
 induction l generalizing n h with
 |nil=>rw[List.foldl_nil,hh];simp only[List.any_nil,Bool.not_false,filter_all]
 |cons t l ih=>
  rw[List.foldl_cons];by_cases hp:p t.1
  ·rw[if_pos hp,ih (aey hh)]
   have:((cB h.un t.1).filter λe=> !(l.any λt=>decide (t.1=e.1)&&p t.1))=h.un.filter λe=> !((t::l).any λt=>decide (t.1=e.1)&&p t.1):=by
    unfold cB;rw[List.filter_filter];apply List.filter_congr;intro e _;simp only[List.any_cons,hp,Bool.and_true,Bool.not_or];rw[Bool.and_comm];congr 1;by_cases h1:e.1=t.1
    ·simp[h1]
    ·have h2:¬t.1=e.1:=λx=>h1 x.symm;simp[h1,h2]
   simp only[this]
  ·rw[if_neg hp,ih hh]
   have:(h.un.filter λe=> !(l.any λt=>decide (t.1=e.1)&&p t.1))=h.un.filter λe=> !((t::l).any λt=>decide (t.1=e.1)&&p t.1):=by apply List.filter_congr;intro e _;simp[hp]
   rw[this]
def aez {p:Nat->Bool}{b:Bool}{l:List (Nat×(List UInt8×aR))}(aE:¬(aK=id/\dB=no)):(n.iO id no p b l).h? aK dB=n.h? aK dB:=by
 unfold N.iO
 induction l generalizing n with
 |nil=>rfl
 |cons t l ih=>
  rw[List.foldl_cons,ih];split
  ·exact aeA aE
  ·rfl
def MV {l:List (Nat×(List UInt8×aR))}:n.kZ id no l=n.iO id no (λ_=>true) true l:=by unfold N.kZ N.iO;rfl
def Ri (hh:n.h? id no=some h):(n.release id no).h? id no=some {h with un:=[],co:=[]}:=by
 rw[BZ hh,MV];have h1:((n.jV h.co).bC id no λh=>{h with co:=[]}).h? id no=some {h with co:=[]}:=by rw[jY,if_pos ⟨rfl,rfl⟩,Gs,hh];rfl
 rw[Rl h1]
 have:(h.un.filter λe=> !(h.un.any λt=>decide (t.1=e.1)&&true))=[]:=List.filter_eq_nil_iff.2 λe he=>by simp only[Bool.and_true,Bool.not_eq_eq_eq_not,Bool.not_true,Bool.not_eq_false,List.any_eq_true,decide_eq_true_eq];exact⟨e,he,rfl⟩
 simp only[this]
def Rj (aE:¬(aK=id/\dB=no)):(n.release id no).h? aK dB=n.h? aK dB:=by
 cases hh:n.h? id no with
 |none=>unfold N.release;rw[hh]
 |some h=>rw[BZ hh,MV,aez aE,jY,if_neg aE,Gs]
def Qq {α:Type}(l:List α)(p:α->Prop)[DecidablePred p]:(l.filter λa=>decide (p a)).length+(l.filter λa=>decide (¬p a)).length=l.length:=by
 induction l with
 |nil=>rfl
 |cons a l ih=>by_cases h:p a<;>simp[h]at ih|-<;>omega
def PF (o:Ok T K ex n)(hh:n.h? id no=some h):(h.co.map (·.2)).Nodup:=by
 have oh:=o.h _ _ _ hh
 have key:∀l:List (List UInt8×Int),(∀e∈l,e∈h.co)->(l.map (·.1)).Nodup->(l.map (·.2)).Nodup:=λl=>by
  induction l with
  |nil=>intro _ _;simp
  |cons e l ih=>
   intro h1 h2;rw[List.map_cons,List.nodup_cons]at h2|-;refine⟨λhm=>?_,ih (λe he=>h1 e (by simp[he])) h2.2⟩;obtain⟨e',gA,hv⟩:=List.mem_map.1 hm;obtain⟨x,hx,_,_,ht⟩:=o.w.co _ _ _ hh e (h1 e al);obtain⟨x',cX,_,_,G7⟩:=o.w.co _ _ _ hh e' (h1 e' (by simp[gA]));rw[hv,hx]at cX
   cases cX
   exact h2.1 (by rw[<-ht,G7];exact List.mem_map_of_mem (f:=(·.1)) gA)
 exact key h.co (λ_ h=>h) oh.cn
def Ok.rz (o:Ok T K ex n)(hh:n.h? id no=some h)(L:List Int){f:HN->HN}(hf:∀h,(f h).r=h.r/\(f h).un=h.un)(qS:(f h).co=h.co.filter λe=>decide (e.2∉L))(hL:∀k∈L,k∈h.co.map (·.2)):Ok T K ex ((n.without L).bC id no f):=by
 have oh:=o.h _ _ _ hh;have j8:(f h).co.Sublist h.co:=by rw[qS];exact List.filter_sublist
 have tt:=λw:HN->Nat=>Fe o hh f w;have yw:∀w:HN->Nat,((n.without L).bC id no f).eP w=(n.bC id no f).eP w:=λ_=>rfl
 have same:∀w:HN->Nat,(∀g:HN,w (f g)=w g)->((n.without L).bC id no f).eP w=n.eP w:=λw hw=>by have:=tt w;rw[hw]at this;rw[yw];omega
 have rY:((n.without L).bC id no f).aN.map (·.1)=n.aN.map (·.1):=by have:((n.without L).bC id no f).aN=(n.without L).aN:=rfl;rw[this];unfold N.without;rw[List.map_map];rfl
 have s8:((n.without L).bC id no f).aF.map (·.1)=n.aF.map (·.1):=rG (n:=n) (f:=λc=>{c with ch:=dD c.ch no f});have lk:((n.without L).bC id no f).aF.length=n.aF.length:=by have:=congrArg List.length s8;simpa using this
 have Es:((n.without L).bC id no f).aN.length=n.aN.length:=by have:=congrArg List.length rY;simpa using this
 have qY:∀i,((n.without L).bC id no f).q? i=(n.q? i).map λq=>{q with cons:=q.cons.filter λk=>decide (k∉L)}:=λi=>by rw[HL,HM]
 have tn:∀i,((n.without L).bC id no f).x? i=if i∈L then none else n.x? i:=λi=>by rw[arw,Fo]
 have rS:∀i j g',((n.without L).bC id no f).h? i j=some g'->(i=id/\j=no/\g'=f h)\/(¬(i=id/\j=no)/\n.h? i j=some g'):=λi j g' hg=>by
  rw[jY,Ki]at hg;by_cases e:i=id/\j=no
  ·obtain⟨rfl,rfl⟩:=e;rw[if_pos ⟨rfl,rfl⟩,hh]at hg
   cases hg;exact .inl ⟨rfl,rfl,rfl⟩
  ·rw[if_neg e]at hg;exact .inr ⟨e,hg⟩
 have hLx:∀k∈L,∃x,n.x? k=some x/\x.id=id/\x.no=no/\bq h.co x.tag=some k:=λk hk=>by obtain⟨e,he,rfl⟩:=List.mem_map.1 (hL k hk);obtain⟨x,h1,h2,h3,h4⟩:=o.w.co _ _ _ hh e he;exact⟨x,h1,h2,h3,by rw[h4];exact oF oh.cn he⟩
 exact{
  cfg:=o.cfg
  sc:=by rw[s8];exact o.sc
  lc:=by rw[lk];exact o.lc
  ids:=λi hi=>o.ids i (mi.2 (by rw[<-s8];exact mi.1 hi))
  sq:=by rw[rY];exact o.sq
  nq:=by rw[rY];exact o.nq
  lq:=by rw[Es];exact o.lq
  w:={
   un:=λi j g' hg e he=>by
    rw[qY]
    rcases rS i j g' hg with⟨rfl,rfl,rfl⟩|⟨_,h1⟩
    ·have:=o.w.un _ _ _ hh e (by rw[(hf h).2]at he;exact he);simpa using this
    ·have:=o.w.un _ _ _ h1 e he;simpa using this
   xq:=λk x hx=>by
    rw[tn]at hx
    split at hx
    ·cases hx
    ·rw[qY];have:=o.w.xq k x hx;simpa using this
   xh:=λk x hx=>by
    rw[tn]at hx
    split at hx
    ·cases hx
    ·rename_i hk
     obtain⟨g,h1,h2⟩:=o.w.xh k x hx
     by_cases e:x.id=id/\x.no=no
     ·obtain⟨e1,e2⟩:=e
      rw[e1,e2]at h1|-
      rw[hh]at h1
      cases h1
      refine⟨f h,by rw[jY,Ki,if_pos ⟨rfl,rfl⟩,hh];rfl,?_⟩
      rw[qS]
      exact oF (by rw[<-qS];exact oh.cn.sublist (j8.map _)) (List.mem_filter.2 ⟨jb h2,aY hk⟩)
     ·exact⟨g,by rw[jY,Ki,if_neg e];exact h1,h2⟩
   co:=λi j g' hg e he=>by
    rw[tn]
    rcases rS i j g' hg with⟨rfl,rfl,rfl⟩|⟨aE,h1⟩
    ·rw[qS]at he
     obtain⟨Ky,Kz⟩:=List.mem_filter.1 he
     rw[if_neg (aY Kz)]
     exact o.w.co _ _ _ hh e Ky
    ·obtain⟨x,h2,h3,h4,h5⟩:=o.w.co _ _ _ h1 e he
     rw[if_neg]
     ·exact⟨x,h2,h3,h4,h5⟩
     ·intro hm
      obtain⟨y,k1,k2,k3,_⟩:=hLx _ hm
      rw[h2]at k1
      cases k1
      exact aE ⟨by rw[<-h3,k2],by rw[<-h4,k3]⟩
   qc:=λnm q' bz k hk=>by
    rw[qY]at bz
    obtain⟨q,h1,rfl⟩:=Option.map_eq_some_iff.1 bz
    obtain⟨k1,k2⟩:=List.mem_filter.1 hk
    rw[tn,if_neg (by simpa using k2)]
    exact o.w.qc nm q h1 k k1}
  c:=λi c' cE=>CC o i c' cE
  h:=λi j g' hg=>by
   rcases rS i j g' hg with⟨rfl,rfl,rfl⟩|⟨_,h1⟩
   ·obtain⟨f1,f2⟩:=hf h
    exact⟨by rw[f2];exact oh.un,by rw[f1,f2];exact oh.ut,by rw[f1];exact oh.tag,oh.co.sublist (j8.map _),oh.cn.sublist (j8.map _),Nat.le_trans j8.length_le oh.tA,by rw[f1];exact oh.want,by rw[f1];exact oh.body,by rw[f1];exact oh.size,by rw[f1];exact oh.key,by rw[f2];exact oh.msg⟩
   ·exact o.h _ _ _ h1
  part:=λi j g' hg=>by
   rcases rS i j g' hg with⟨rfl,rfl,rfl⟩|⟨_,h1⟩
   ·rw[(hf h).1];exact o.part _ _ _ hh
   ·exact o.part _ _ _ h1
  q:=λnm q' bz=>by
   rw[qY]at bz
   obtain⟨q,h1,rfl⟩:=Option.map_eq_some_iff.1 bz
   exact⟨(o.q _ _ h1).lim,(o.q _ _ h1).jG,(o.q _ _ h1).msg,(o.q _ _ h1).cons.sublist List.filter_sublist⟩
  cnt:=λnm q' bz=>by
   rw[qY]at bz
   obtain⟨q,h1,rfl⟩:=Option.map_eq_some_iff.1 bz
   exact xk.same (q:={q with cons:=_}) ⟨(o.cnt _ _ h1).held,(o.cnt _ _ h1).one,(o.cnt _ _ h1).no⟩ (same _ λg=>by rw[(hf g).2]) (λs=>same _ λg=>by rw[(hf g).2]) rfl
  x:=λk x hx=>by
   rw[tn]at hx
   split at hx
   ·cases hx
   ·exact o.x k x hx
  xn:=o.xn.sublist (List.Sublist.map _ List.filter_sublist)
  xl:=by
   have h1:=tt λh=>h.co.length
   rw[yw]
   have h2:(f h).co.length+(h.co.filter λe=>decide (e.2∈L)).length=h.co.length:=by
    rw[qS]
    have:=Qq h.co λe=>e.2∈L
    omega
   have h3:(h.co.filter λe=>decide (e.2∈L)).length<=(n.xs.filter λe=>decide (e.1∈L)).length:=by
    have hn:((h.co.filter λe=>decide (e.2∈L)).map (·.2)).Nodup:=(PF o hh).sublist (List.Sublist.map _ List.filter_sublist)
    have:=Mi (m:=(n.xs.filter λe=>decide (e.1∈L)).map (·.1)) hn λk hk=>by
     obtain⟨e,he,rfl⟩:=List.mem_map.1 hk
     obtain⟨h4,h5⟩:=List.mem_filter.1 he
     obtain⟨x,h6,_⟩:=o.w.co _ _ _ hh e h4
     exact List.mem_map.2 ⟨(e.2,x),List.mem_filter.2 ⟨jb h6,h5⟩,rfl⟩
    simpa using this
   have h4:(n.xs.filter λe=>decide (e.1∈L)).length+(n.xs.filter λe=>decide (e.1∉L)).length=n.xs.length:=Qq n.xs λe=>e.1∈L
   have h5:=o.xl
   show(n.xs.filter λe=>decide (e.1∉L)).length<=_
   omega
  gV:=o.gV
  bj:=o.bj
  last:=o.last}
end
theorem sum_add(l:List α)(f g:α->Nat):(l.map λa=>f a+g a).sum=(l.map f).sum+(l.map g).sum:=by
 induction l with
 |nil=>rfl
 |cons a l ih=>simp only[List.map_cons,List.sum_cons,ih];omega
def ajy{un:List (Nat×(List UInt8×aR))}{ks:List (List UInt8)}(h:∀e∈un,e.2.1∈ks):un.length<=(ks.map λk=>un.countP λe=>decide (e.2.1=k)).sum:=by
 induction un with
 |nil=>simp
 |cons e un ih=>
  have h1:=ih λe he=>h e (by simp[he])
  have h2:(ks.map λk=>(e::un).countP λe=>decide (e.2.1=k))=ks.map λk=>(un.countP λe=>decide (e.2.1=k))+(if e.2.1=k then 1 else 0):=by apply List.map_congr_left;intro k _;rw[List.countP_cons];simp only[decide_eq_true_eq]
  rw[h2,sum_add ks (λk=>un.countP λe=>decide (e.2.1=k)) λk=>if e.2.1=k then 1 else 0];have h3:(if e.2.1=e.2.1 then 1 else 0)<=(ks.map λk=>if e.2.1=k then 1 else 0).sum:=LO (f:=λk=>if e.2.1=k then 1 else 0) (h e al);rw[if_pos rfl]at h3;simp only[List.length_cons];omega
def ajS{l:List Nat}(s:l.Pairwise (·<·))(B:Nat)(h:∀a∈l,1<=a/\a<=B):l.length<=B:=by
 have:=Mi (BG s) (m:=(List.range B).map (·+1)) λa ha=>by have:=h a ha;exact List.mem_map.2 ⟨a-1,List.mem_range.2 aa,aa⟩
 simpa using this
section
variable {n:N}{aK:Int}{no:Nat}{dB:Nat}{c:CN}{h:HN}{w:HN->Nat}{nm:List UInt8}{q:QN}{k:Int}{x:XN}{m:aR}{T:Int}{K:Nat}{ex:List Int}{l:List Int}
variable {id:Int}
def Ok.held (o:Ok T K ex n)(hq:n.q? nm=some q):0<=q.held/\q.held<=50/\q.ready.length<=50:=by have h1:=(o.cnt _ _ hq).held;have h2:=(o.q _ _ hq).lim;have h3:=o.cfg.queue;omega
def Ok.S8 (o:Ok T K ex n)(hc:n.ar id=some c):c.ch.length<=8:=by
 have:=ajS (o.c _ _ hc).jG 8 λa ha=>by obtain⟨e,he,rfl⟩:=List.mem_map.1 ha;exact(o.c _ _ hc).no e he
 simpa using this
def Ok.Eu (o:Ok T K ex n)(hh:n.h? id no=some h):h.un.length<=400:=by
 have h1:=ajy (un:=h.un) (ks:=n.aN.map (·.1)) λe he=>mi.1 (o.w.un _ _ _ hh e he);rw[List.map_map]at h1
 have h2:((n.aN.map ((λk=>h.un.countP λe=>decide (e.2.1=k))∘(·.1))).sum)<=n.aN.length*50:=Ia λe he=>by have hq:n.q? e.1=some e.2:=oF o.nq he;have h3:=(o.cnt _ _ hq).held;have h4:=o.held hq;have h5:(h.un.countP λt=>decide (t.2.1=e.1))<=n.im e.1:=LP (w:=λh:HN=>h.un.countP λt=>decide (t.2.1=e.1)) hh;simp only[Function.comp];omega
 have h6:=o.lq;omega
def Ok.Vx (o:Ok T K ex n){w:HN->Nat}{B:Nat}(hw:∀id no h,n.h? id no=some h->w h<=B):n.eP w<=32*B:=by
 have h1:n.eP w<=n.aF.length*(8*B):=Ia λe he=>by
  have hc:n.ar e.1=some e.2:=oF o.nc he
  have h2:(e.2.ch.map λg=>w g.2).sum<=e.2.ch.length*B:=Ia λg hg=>by
   have:n.h? e.1 g.1=some g.2:=by unfold N.h?;rw[hc];exact oF (yU hc o) hg
   exact hw _ _ _ this
  have h3:=o.S8 hc;exact Nat.le_trans h2 (Nat.mul_le_mul_right B h3)
 have h2:=o.lc;have h3:n.aF.length*(8*B)<=4*(8*B):=Nat.mul_le_mul_right _ h2;omega
def Ok.lxs (o:Ok T K ex n):n.xs.length<=128:=by have h1:=o.Vx (w:=λh=>h.co.length) (B:=4) λid no h hh=>(o.h _ _ _ hh).tA;have h2:=o.xl;omega
def Ok.Ho (o:Ok T K ex n)(hq:n.q? nm=some q):q.cons.length<=128:=by
 have h1:=Mi (o.q _ _ hq).cons (m:=n.xs.map (·.1)) λk hk=>by obtain⟨x,hx,_⟩:=o.w.qc _ _ hq k hk;exact List.mem_map_of_mem (f:=(·.1)) (jb hx)
 have h2:=o.lxs;rw[List.length_map]at h1;omega
def Ok.Z6 (o:Ok T K ex n)(hx:n.x? k=some x):Fu n k:=by obtain⟨q,hq⟩:=Option.isSome_iff_exists.1 (o.w.xq k x hx);exact⟨x,q,hx,hq,by have:=o.Ho hq;omega,λj hj=>by obtain⟨y,hy,_⟩:=o.w.qc _ _ hq j hj;rw[hy];rfl⟩
def Ok.Z5 (o:Ok T K ex n){e:Nat×(List UInt8×aR)}(hh:n.h? id no=some h)(hu:bq h.un e.1=some e.2):IE n id no e:=by obtain⟨q,hq⟩:=Option.isSome_iff_exists.1 (o.w.un _ _ _ hh _ (jb hu));simp only at hq;have h1:=o.held hq;have h2:=(o.cnt _ _ hq).held;have h3:(h.un.countP λt=>decide (t.2.1=e.2.1))<=n.im e.2.1:=LP (w:=λh:HN=>h.un.countP λt=>decide (t.2.1=e.2.1)) hh;have h4:0<h.un.countP λt=>decide (t.2.1=e.2.1):=List.countP_pos_iff.2 ⟨_,jb hu,al⟩;exact⟨h,q,hh,hu,hq,aa,aa,(o.q _ _ hq).jG⟩
def VD {α:Type}{p:α->Bool}{e f:α}(aE:e≠f)(he:p e=true)(hf:p f=true):∀{l:List α},e∈l->f∈l->2<=l.countP p
 |x::l,h1,h2=>by
  have c:∀{z},z∈l->p z=true->0<l.countP p:=λh k=>List.countP_pos_iff.2 ⟨_,h,k⟩;rcases List.mem_cons.1 h1 with rfl|k1<;>rcases List.mem_cons.1 h2 with rfl|k2
  ·exact absurd rfl aE
  ·have:=c k2 hf;rw[List.countP_cons_of_pos he];omega
  ·have:=c k1 he;rw[List.countP_cons_of_pos hf];omega
  ·have:=VD aE he hf k1 k2;rw[List.countP_cons];omega
def Ok.UZ (o:Ok T K ex n)(hh:n.h? id no=some h):tP h.un:=by intro e he f hf h1 h2 h3;obtain⟨q,hq⟩:=Option.isSome_iff_exists.1 (o.w.un _ _ _ hh _ he);have h4:=(o.cnt _ _ hq).one e.2.2.seq;have h5:(h.un.countP λt=>decide (t.2.1=e.2.1)&&decide (t.2.2.seq=e.2.2.seq))<=n.cnt e.2.1 e.2.2.seq:=LP (w:=λh:HN=>h.un.countP λt=>decide (t.2.1=e.2.1)&&decide (t.2.2.seq=e.2.2.seq)) hh;have h6:=VD (p:=λt:Nat×(List UInt8×aR)=>decide (t.2.1=e.2.1)&&decide (t.2.2.seq=e.2.2.seq)) (λx=>h1 (by rw[x])) al (by simp[h2,h3]) he hf;omega
def Ok.Pk (o:Ok T K ex n)(hh:n.h? id no=some h)(p:Nat->Bool)(b:Bool):IF n id no h p b:=by have iD:=BG (o.h _ _ _ hh).un;refine⟨iD,o.UZ hh,by have:=o.Eu hh;omega,λl e he hn _=>?_⟩;refine(o.iO (id:=id) (no:=no) (p:=p) (b:=b) (l:=l)).Z5 (Rl hh) ?_;refine oF (iD.sublist (List.Sublist.map _ List.filter_sublist)) (List.mem_filter.2 ⟨he,?_⟩);simp only[Bool.not_eq_eq_eq_not,Bool.not_true,List.any_eq_false,Bool.and_eq_true,decide_eq_true_eq,not_and];intro x hx k;exact absurd k (hn x hx)
def Ok.su (o:Ok T K ex n)(hh:n.h? id no=some h):Ok T K ex ((n.jV h.co).bC id no λh=>{h with co:=[]}):=by
 rw[Po o.qx];refine o.rz hh _ (λ_=>⟨rfl,rfl⟩) ?_ λk hk=>hk
 symm
 refine List.filter_eq_nil_iff.2 λe he=>?_;simp only[decide_not,Bool.not_eq_eq_eq_not,Bool.not_true,decide_eq_false_iff_not,Decidable.not_not];exact List.mem_map_of_mem (f:=(·.2)) he
def Ok.FX (o:Ok T K ex n)(hh:n.h? id no=some h):yF n id no h:=by
 have oh:=o.h _ _ _ hh;refine⟨oh.co,BG oh.un,o.UZ hh,by have:=oh.tA;omega,by have:=o.Eu hh;omega,λj hj=>?_,λl e he hn=>?_⟩
 ·obtain⟨x,hx,_,_,_⟩:=o.w.co _ _ _ hh _ (List.getElem_mem hj);rw[Po o.qx];have hq:=o.w.xq _ _ hx;obtain⟨q,hq⟩:=Option.isSome_iff_exists.1 hq
  have oy:h.co[j].2∉(h.co.take j).map (·.2):=by intro hm;obtain⟨e,he,hv⟩:=List.mem_map.1 hm;obtain⟨i,hi,rfl⟩:=List.getElem_of_mem he;rw[List.length_take]at hi;rw[List.getElem_take]at hv;have h1:(h.co.map (·.2))[i]'(by simp;omega)=(h.co.map (·.2))[j]'(aY hj):=aY hv;exact(List.pairwise_iff_getElem.1 (PF o hh)) i j (by simp;omega) (aY hj) aa h1
  refine⟨x,_,by rw[Fo,if_neg oy];exact hx,by rw[HM,hq];rfl,?_,λi hi=>?_⟩
  ·have h1:=o.Ho hq;have h2:(q.cons.filter λk=>decide (k∉(h.co.take j).map (·.2))).length<=q.cons.length:=List.length_filter_le _ _;simp only;omega
  ·obtain⟨h1,h2⟩:=List.mem_filter.1 hi;obtain⟨y,hy,_⟩:=o.w.qc _ _ hq i h1;rw[Fo,if_neg (aY h2),hy];rfl
 ·have h1:((n.jV h.co).bC id no λh=>{h with co:=[]}).h? id no=some {h with co:=[]}:=by rw[jY,if_pos ⟨rfl,rfl⟩,Gs,hh];rfl
  rw[MV];exact((o.su hh).Pk h1 (λ_=>true) true).step l e he hn rfl
def Ok.release (o:Ok T K ex n):Ok T K ex (n.release id no):=by
 cases hh:n.h? id no with
 |none=>unfold N.release;rw[hh];exact o
 |some h=>rw[BZ hh];exact(o.su hh).kZ
def Ok.gZ (o:Ok T K ex n){l:List (Nat×HN)}:Ok T K ex (n.gZ id l):=by
 unfold N.gZ
 induction l generalizing n with
 |nil=>exact o
 |cons e l ih=>rw[List.foldl_cons];exact ih o.release
def Rk {l:List (Nat×HN)}(aE:∀e∈l,¬(aK=id/\dB=e.1)):(n.gZ id l).h? aK dB=n.h? aK dB:=by
 unfold N.gZ
 induction l generalizing n with
 |nil=>rfl
 |cons e l ih=>rw[List.foldl_cons,ih λe he=>aE e (by simp[he])];exact Rj (aE e al)
def FZ {f:HN->HN}:((n.bC id no f).ar aK).map (λc=>c.ch.map (·.1))=(n.ar aK).map λc=>c.ch.map (·.1):=by
 rw[vJ];split
 ·cases n.ar aK with
  |none=>rfl
  |some c=>simp only[Option.map_some];congr 1;exact oQ _ _ _ λx=>x
 ·rfl
def aay {tag:Nat}{b:Bool}:((n.settle id no tag b).ar aK).map (λc=>c.ch.map (·.1))=(n.ar aK).map λc=>c.ch.map (·.1):=by
 unfold N.settle;split
 ·rfl
 ·rw[yW];exact FZ
def aaz {l:List (Nat×(List UInt8×aR))}:((n.kZ id no l).ar aK).map (λc=>c.ch.map (·.1))=(n.ar aK).map λc=>c.ch.map (·.1):=by
 unfold N.kZ
 induction l generalizing n with
 |nil=>rfl
 |cons e l ih=>rw[List.foldl_cons,ih];exact aay
def aaw:((n.release id no).ar aK).map (λc=>c.ch.map (·.1))=(n.ar aK).map λc=>c.ch.map (·.1):=by
 cases hh:n.h? id no with
 |none=>unfold N.release;rw[hh]
 |some h=>rw[BZ hh,aaz,FZ,PD]
def Ji {l:List (Nat×HN)}:((n.gZ id l).ar aK).map (λc=>c.ch.map (·.1))=(n.ar aK).map λc=>c.ch.map (·.1):=by
 unfold N.gZ
 induction l generalizing n with
 |nil=>rfl
 |cons e l ih=>rw[List.foldl_cons,ih];exact aaw
def Ok.FW (o:Ok T K ex n)(hc:n.ar id=some c):Aw n id c:=by
 refine⟨(o.c _ _ hc).jG,by have:=o.S8 hc;omega,λj=>?_,λj hj=>?_⟩
 ·have:=Ji (n:=n) (id:=id) (aK:=id) (l:=c.ch.take j);rw[hc,Option.map_some]at this;obtain⟨cj,h1,h2⟩:=Option.map_eq_some_iff.1 this;exact⟨cj,h1,h2⟩
 ·have h1:n.h? id c.ch[j].1=some c.ch[j].2:=by unfold N.h?;rw[hc];exact oF (yU hc o) (List.getElem_mem hj)
  have h2:(n.gZ id (c.ch.take j)).h? id c.ch[j].1=some c.ch[j].2:=by rw[Rk λe he hx=>HA (yU hc o) hj e he hx.2.symm];exact h1
  exact⟨_,h2,(o.gZ (id:=id) (l:=c.ch.take j)).FX h2⟩
end
section
variable {n:N}{aK:Int}{no:Nat}{dB:Nat}{c:CN}{h:HN}{w:HN->Nat}{nm:List UInt8}{q:QN}{k:Int}{x:XN}{T:Int}{K:Nat}{ex:List Int}{gf:List Int}{l:List Int}
variable {id:Int}
def Vo {α:Type}(l:List α)(p:α->Bool)(f:α->Nat)(h:∀a∈l,p a=false->f a=0):((l.filter p).map f).sum=(l.map f).sum:=by
 induction l with
 |nil=>rfl
 |cons a l ih=>
  have ih:=ih λb hb=>h b (by simp[hb])
  cases hp:p a with
  |true=>rw[List.filter_cons_of_pos hp];simp only[List.map_cons,List.sum_cons,ih]
  |false=>rw[List.filter_cons_of_neg (by simp[hp])];simp only[List.map_cons,List.sum_cons,ih,h a al hp];omega
def Rg {p:Nat->Bool}:(n.dM id λc=>{c with ch:=c.ch.filter λe=>p e.1}).h? aK dB=if aK=id/\p dB=false then none else n.h? aK dB:=by
 unfold N.h?;rw[qG];by_cases e:aK=id
 ·subst e;rw[if_pos rfl]
  cases n.ar aK with
  |none=>simp
  |some c=>
   simp only[Option.map_some,Option.bind_some,true_and];rw[Om c.ch dB p]
   cases p dB<;>simp
 ·rw[if_neg e,if_neg λx=>e x.1]
def Ok.SW (o:Ok T K ex n)(p:Nat->Bool)(he:∀no h,n.h? id no=some h->p no=false->h.un=[]/\h.co=[])(hx:∀i∈ex,i∈gf\/(i=id/\∀no,p no=false)):
 Ok T K gf (n.dM id λc=>{c with ch:=c.ch.filter λe=>p e.1}):=by
 have same:∀w:HN->Nat,(∀h:HN,h.un=[]->h.co=[]->w h=0)->(n.dM id λc=>{c with ch:=c.ch.filter λe=>p e.1}).eP w=n.eP w:=λw hw=>by
  cases hc:n.ar id with
  |none=>
   exact Na (f:=λc:CN=>{c with ch:=c.ch.filter λe=>p e.1}) (g:=λc:CN=>(c.ch.map λg:Nat×HN=>w g.2).sum) (λv hv=>by rw[N.ar]at hc;rw[hc]at hv;cases hv) o.nc
  |some c=>
   have h1:=Nk (w:=w) o.nc hc λc=>{c with ch:=c.ch.filter λe=>p e.1}
   have h2:=Vo c.ch (λe=>p e.1) (λg=>w g.2) λg hg hp=>by
    have:n.h? id g.1=some g.2:=by unfold N.h?;rw[hc];exact oF (yU hc o) hg
    obtain⟨h3,h4⟩:=he _ _ this hp;exact hw _ h3 h4
   simp only at h1;rw[h2]at h1;omega
 have sub:∀i j g,(n.dM id λc=>{c with ch:=c.ch.filter λe=>p e.1}).h? i j=some g->n.h? i j=some g/\¬(i=id/\p j=false):=λi j g hg=>by
  rw[Rg]at hg;split at hg
  ·cases hg
  ·rename_i aE;exact⟨hg,aE⟩
 have lk:(n.dM id λc=>{c with ch:=c.ch.filter λe=>p e.1}).aF.length=n.aF.length:=by have:=congrArg List.length (rG (n:=n) (id:=id) (f:=λc=>{c with ch:=c.ch.filter λe=>p e.1}));simpa using this
 exact{
  cfg:=o.cfg
  sc:=by rw[rG];exact o.sc
  lc:=by rw[lk];exact o.lc
  ids:=λi hi=>o.ids i (mi.2 (by rw[<-rG];exact mi.1 hi))
  sq:=o.sq
  nq:=o.nq
  lq:=o.lq
  w:={
   un:=λi j g hg=>o.w.un _ _ _ (sub _ _ _ hg).1
   xq:=o.w.xq
   xh:=λk x hx=>by
    obtain⟨g,h1,h2⟩:=o.w.xh k x hx
    refine⟨g,?_,h2⟩
    rw[Rg,if_neg]
    ·exact h1
    ·rintro⟨e1,e2⟩
     obtain⟨_,h4⟩:=he _ _ (by rw[<-e1];exact h1) e2
     rw[h4]at h2;cases h2
   co:=λi j g hg=>o.w.co _ _ _ (sub _ _ _ hg).1
   qc:=o.w.qc}
  c:=λi c' cE=>by
   rw[qG]at cE
   by_cases e:i=id
   ·subst e
    rw[if_pos rfl]at cE
    obtain⟨c,hc,rfl⟩:=Option.map_eq_some_iff.1 cE
    have oc:=o.c _ _ hc
    exact⟨oc.r,oc.jG.sublist (List.Sublist.map _ List.filter_sublist),λe he=>oc.no e (List.filter_sublist.subset he)⟩
   ·rw[if_neg e]at cE;exact o.c _ _ cE
  h:=λi j g hg=>o.h _ _ _ (sub _ _ _ hg).1
  part:=λi j g hg hi=>o.part _ _ _ (sub _ _ _ hg).1 λhm=>by
   rcases hx i hm with h1|⟨h1,h2⟩
   ·exact hi h1
   ·exact(sub _ _ _ hg).2 ⟨h1,h2 j⟩
  q:=o.q
  cnt:=λnm q hq=>(o.cnt nm q hq).same (same _ λh h1 _=>by rw[h1];rfl) (λs=>same _ λh h1 _=>by rw[h1];rfl) rfl
  x:=o.x
  xn:=o.xn
  xl:=by rw[same _ λh _ h2=>by rw[h2];rfl];exact o.xl
  gV:=o.gV
  bj:=o.bj
  last:=o.last}
def Ok.pS (o:Ok T K ex n):Ok T K ex (n.pS id no):=by
 have:=(o.release (id:=id) (no:=no)).SW (id:=id) (gf:=ex) (λa=>decide (a≠no)) (λj g hg hp=>by
  have:j=no:=aY hp
  subst this
  cases hh:n.h? id j with
  |none=>unfold N.release at hg;rw[hh]at hg;simp only at hg;rw[hh]at hg;cases hg
  |some h=>rw[Ri hh]at hg;cases hg;exact⟨rfl,rfl⟩) λi hi=>.inl hi
 exact this
def aex {l:List (Nat×HN)}(nd:(l.map (·.1)).Nodup){e:Nat×HN}(hm:e∈l)(hh:n.h? id e.1=some h):(n.gZ id l).h? id e.1=some {h with un:=[],co:=[]}:=by
 unfold N.gZ
 induction l generalizing n with
 |nil=>cases hm
 |cons a l ih=>
  rw[List.map_cons,List.nodup_cons]at nd;rw[List.foldl_cons];rcases List.mem_cons.1 hm with rfl|hm
  ·have:=Rk (n:=n.release id e.1) (id:=id) (aK:=id) (dB:=e.1) (l:=l) λb hb hx=>nd.1 (by rw[hx.2];exact List.mem_map_of_mem (f:=(·.1)) hb);unfold N.gZ at this;rw[this,Ri hh]
  ·refine ih nd.2 hm ?_;rw[Rj λhx=>nd.1 (by rw[<-hx.2];exact List.mem_map_of_mem (f:=(·.1)) hm)];exact hh
def LQ (hc:n.ar id=some c):n.leave id=(n.gZ id c.ch).dM id λc=>{c with ch:=[]}:=by unfold N.leave;rw[hc];rfl
def Ok.leave (o:Ok T K ex n)(hx:∀i∈ex,i∈gf\/i=id)(hi:(n.ar id).isSome):Ok T K gf (n.leave id):=by
 obtain⟨c,hc⟩:=Option.isSome_iff_exists.1 hi;rw[LQ hc];have hd:=Ji (n:=n) (id:=id) (aK:=id) (l:=c.ch);rw[hc,Option.map_some]at hd;obtain⟨c1,cF,ek⟩:=Option.map_eq_some_iff.1 hd
 have:=(o.gZ (id:=id) (l:=c.ch)).SW (id:=id) (gf:=gf) (λ_=>false) (λj g hg _=>by
  have h1:j∈c1.ch.map (·.1):=by
   have:=Db hg cF
   exact List.mem_map_of_mem (f:=(·.1)) (jb this)
  rw[ek]at h1
  obtain⟨e,he,rfl⟩:=List.mem_map.1 h1
  have h2:n.h? id e.1=some e.2:=by unfold N.h?;rw[hc];exact oF (yU hc o) he
  rw[aex (yU hc o) he h2]at hg
  cases hg;exact⟨rfl,rfl⟩) λi hi=>(hx i hi).imp (λh=>h) λh=>⟨h,λ_=>rfl⟩
 have e:(λc:CN=>{c with ch:=c.ch.filter λe=>(λ_:Nat=>false) e.1})=λc=>{c with ch:=[]}:=by
  funext c
  have:(c.ch.filter λe=>(λ_:Nat=>false) e.1)=[]:=List.filter_eq_nil_iff.2 λ_ _=>al;rw[this]
 rw[e]at this;exact this
def Ok.yw (o:Ok T K ex n){w:HN->Nat}(hw:∀id no h,n.h? id no=some h->w h=0):n.eP w=0:=by have:=o.Vx (w:=w) (B:=0) λi j h hh=>Nat.le_of_eq (hw i j h hh);omega
def Ok.akw (o:Ok T K ex n)(hc:n.ar id=some c)(hn:bq c.ch no=none)(eC:1<=no/\no<=8):Ok T K ex (n.dM id λc=>{c with ch:=cZ lM c.ch no ⟨gN,[],[]⟩}):=by
 have uv:n.h? id no=none:=by unfold N.h?;rw[hc];exact hn
 have hT:0<=T:=Int.le_trans o.gV.1 o.gV.2
 have rS:∀i j,(n.dM id λc=>{c with ch:=cZ lM c.ch no ⟨gN,[],[]⟩}).h? i j=if i=id/\j=no then some ⟨gN,[],[]⟩else n.h? i j:=λi j=>by
  unfold N.h?;rw[qG];by_cases e:i=id
  ·subst e;rw[if_pos rfl,hc];simp only[Option.map_some,Option.bind_some,true_and];exact yQ _ _ _ _ hn
  ·rw[if_neg e,if_neg λx=>e x.1]
 have same:∀w:HN->Nat,w ⟨gN,[],[]⟩=0->(n.dM id λc=>{c with ch:=cZ lM c.ch no ⟨gN,[],[]⟩}).eP w=n.eP w:=λw hw=>by have h1:=Nk (w:=w) o.nc hc λc=>{c with ch:=cZ lM c.ch no ⟨gN,[],[]⟩};simp only at h1;rw[apQ (lt:=lM) c.ch no (⟨gN,[],[]⟩:HN) w,hw]at h1;omega
 have xo:∀i j g,(n.dM id λc=>{c with ch:=cZ lM c.ch no ⟨gN,[],[]⟩}).h? i j=some g->g=⟨gN,[],[]⟩\/n.h? i j=some g:=λi j g hg=>by
  rw[rS]at hg;split at hg
  ·cases hg;exact .inl rfl
  ·exact .inr hg
 have lk:(n.dM id λc=>{c with ch:=cZ lM c.ch no ⟨gN,[],[]⟩}).aF.length=n.aF.length:=by have:=congrArg List.length (rG (n:=n) (id:=id) (f:=λc=>{c with ch:=cZ lM c.ch no ⟨gN,[],[]⟩}));simpa using this
 exact{
  cfg:=o.cfg
  sc:=by rw[rG];exact o.sc
  lc:=by rw[lk];exact o.lc
  ids:=λi hi=>o.ids i (mi.2 (by rw[<-rG];exact mi.1 hi))
  sq:=o.sq
  nq:=o.nq
  lq:=o.lq
  w:={
   un:=λi j g hg e he=>by
    rcases xo _ _ _ hg with rfl|hg
    ·cases he
    ·exact o.w.un _ _ _ hg e he
   xq:=o.w.xq
   xh:=λk x hx=>by
    obtain⟨g,h1,h2⟩:=o.w.xh k x hx
    refine⟨g,?_,h2⟩
    rw[rS,if_neg]
    ·exact h1
    ·rintro⟨e1,e2⟩;rw[e1,e2,uv]at h1;cases h1
   co:=λi j g hg e he=>by
    rcases xo _ _ _ hg with rfl|hg
    ·cases he
    ·exact o.w.co _ _ _ hg e he
   qc:=o.w.qc}
  c:=λi c' cE=>by
   rw[qG]at cE
   by_cases e:i=id
   ·subst e
    rw[if_pos rfl,hc]at cE
    cases cE
    have oc:=o.c _ _ hc
    refine⟨oc.r,W6 oc.jG hn,λe he=>?_⟩
    rcases FL.1 he with rfl|he
    ·exact eC
    ·exact oc.no e he
   ·rw[if_neg e]at cE;exact o.c _ _ cE
  h:=λi j g hg=>by
   rcases xo _ _ _ hg with rfl|hg
   ·exact⟨List.Pairwise.nil,(λ_ h=>by cases h),⟨by simp[gN],by simpa[gN]using hT⟩,List.Pairwise.nil,List.Pairwise.nil,al,by simp[gN],by simp[gN],by simp[gN],by simp[gN],(λ_ h=>by cases h)⟩
   ·exact o.h _ _ _ hg
  part:=λi j g hg hi hw=>by
   rcases xo _ _ _ hg with rfl|hg
   ·simp[gN]at hw
   ·exact o.part _ _ _ hg hi hw
  q:=o.q
  cnt:=λnm q hq=>(o.cnt nm q hq).same (same _ rfl) (λs=>same _ rfl) rfl
  x:=o.x
  xn:=o.xn
  xl:=by rw[same _ rfl];exact o.xl
  gV:=o.gV
  bj:=o.bj
  last:=o.last}
def Ok.tD (o:Ok T K ex n)(hq:n.q? nm=none)(hl:n.aN.length<=7)(hg:0<=n.cfg.queue):Ok T K ex {n with aN:=cZ cP n.aN nm ⟨[],0,0,[]⟩}:=by
 have qY:∀i,N.q? {n with aN:=cZ cP n.aN nm ⟨[],0,0,[]⟩} i=if i=nm then some ⟨[],0,0,[]⟩else n.q? i:=λi=>yQ _ _ _ _ hq
 have xo:∀i q,N.q? {n with aN:=cZ cP n.aN nm ⟨[],0,0,[]⟩} i=some q->(i=nm/\q=⟨[],0,0,[]⟩)\/n.q? i=some q:=λi q h=>by
  rw[qY]at h;split at h
  ·rename_i e;cases h;exact .inl ⟨e,rfl⟩
  ·exact .inr h
 have up:∀i,(n.q? i).isSome->(N.q? {n with aN:=cZ cP n.aN nm ⟨[],0,0,[]⟩} i).isSome:=λi hi=>by rw[qY];split<;>simp_all
 have eC:∀i j h,n.h? i j=some h->∀e∈h.un,¬e.2.1=nm:=λi j h hh e he hx=>by have:=o.w.un _ _ _ hh e he;rw[hx,hq]at this;cases this
 have lk:=(vA (lt:=cP) n.aN nm (⟨[],0,0,[]⟩:QN)).length_eq
 exact{
  cfg:=o.cfg
  sc:=o.sc
  lc:=o.lc
  ids:=o.ids
  sq:=Ot wK o.sq
  nq:=Oq o.nq hq
  lq:=by show(cZ cP n.aN nm _).length<=8;rw[lk,List.length_cons];omega
  w:={
   un:=λi j g hg e he=>up _ (o.w.un _ _ _ hg e he)
   xq:=λk x hx=>up _ (o.w.xq k x hx)
   xh:=o.w.xh
   co:=o.w.co
   qc:=λi q bz k hk=>by
    rcases xo _ _ bz with⟨_,rfl⟩|h
    ·cases hk
    ·exact o.w.qc _ _ h k hk}
  c:=o.c
  h:=o.h
  part:=o.part
  q:=λi q bz=>by
   rcases xo _ _ bz with⟨_,rfl⟩|h
   ·exact⟨aY hg,List.Pairwise.nil,(λ_ h=>by cases h),List.Pairwise.nil⟩
   ·exact o.q _ _ h
  cnt:=λi q bz=>by
   rcases xo _ _ bz with⟨rfl,rfl⟩|h
   ·have h1:N.im {n with aN:=cZ cP n.aN i ⟨[],0,0,[]⟩} i=0:=o.yw (w:=λh=>h.un.countP λe:Nat×(List UInt8×aR)=>decide (e.2.1=i)) λi' j h hh=>List.countP_eq_zero.2 λe he=>by simpa using eC _ _ _ hh e he
    have h2:∀s,N.cnt {n with aN:=cZ cP n.aN i ⟨[],0,0,[]⟩} i s=0:=λs=>o.yw (w:=λh=>h.un.countP λe:Nat×(List UInt8×aR)=>decide (e.2.1=i)&&decide (e.2.2.seq=s)) λi' j h hh=>List.countP_eq_zero.2 λe he=>by
     have:=eC _ _ _ hh e he
     simp[this]
    exact⟨by rw[h1];rfl,λs=>by rw[h2];simp,λs _=>by rw[h2];simp⟩
   ·exact⟨(o.cnt _ _ h).held,(o.cnt _ _ h).one,(o.cnt _ _ h).no⟩
  x:=o.x
  xn:=o.xn
  xl:=o.xl
  gV:=o.gV
  bj:=o.bj
  last:=o.last}
end
section
variable {n:N}{no:Nat}{c:CN}{h:HN}{w:HN->Nat}{nm:List UInt8}{q:QN}{k:Int}{x:XN}{T:Int}{T':Int}{K:Nat}{ex:List Int}
variable {id:Int}
def Ok.V3 (o:Ok T K ex n):n.x? (n.bj+1)=none:=by
 cases hx:n.x? (n.bj+1)with
 |none=>rfl
 |some x=>have:=(o.x _ _ hx).1.2;omega
def Ok.kP (o:Ok T K ex n)(hh:n.h? id no=some h)(hq:n.q? nm=some q){tg:List UInt8}{na:Bool}(ht:bq h.co tg=none)(hl:h.co.length<=3)(Bs:tg.length<=8):Ok (T+1) K ex (n.kP id no nm tg na):=by
 have oh:=o.h _ _ _ hh
 let k:=n.bj+1
 let f:HN->HN:=λh=>{h with co:=cZ cP h.co tg k}
 have hT:=o.gV;have hN:=o.bj;have tt:=λw:HN->Nat=>Fe o hh f w;have yw:∀w:HN->Nat,(n.kP id no nm tg na).eP w=(n.bC id no f).eP w:=λ_=>rfl
 have same:∀w:HN->Nat,(∀g:HN,w (f g)=w g)->(n.kP id no nm tg na).eP w=n.eP w:=λw hw=>by have:=tt w;rw[hw]at this;rw[yw];omega
 have rY:(n.kP id no nm tg na).aN.map (·.1)=n.aN.map (·.1):=BV (n:=n) (f:=λq=>{q with cons:=q.cons++[k]});have s8:(n.kP id no nm tg na).aF.map (·.1)=n.aF.map (·.1):=rG (n:=n) (f:=λc=>{c with ch:=dD c.ch no f});have lk:(n.kP id no nm tg na).aF.length=n.aF.length:=by have:=congrArg List.length s8;simpa using this
 have Es:(n.kP id no nm tg na).aN.length=n.aN.length:=by have:=congrArg List.length rY;simpa using this
 have qY:∀i,(n.kP id no nm tg na).q? i=if i=nm then(n.q? i).map (λq=>{q with cons:=q.cons++[k]})else n.q? i:=λi=>vc (n:=n) (nm:=nm) (fq:=λq=>{q with cons:=q.cons++[k]})
 have tn:∀i,(n.kP id no nm tg na).x? i=if i=k then some ⟨id,no,tg,nm,na⟩else n.x? i:=λi=>by
  show bq (n.xs++[(k,⟨id,no,tg,nm,na⟩)]) i=_;have hk:=o.V3;unfold N.x? at hk|-;unfold bq at hk|-;rw[List.find?_append];by_cases e:i=k
  ·subst e;rw[if_pos rfl];have:(n.xs.find? λe=>decide (e.1=k))=none:=aY hk;rw[this];simp
  ·rw[if_neg e];have:¬k=i:=λx=>e x.symm;simp[this]
 have Ha:∀i j,(n.kP id no nm tg na).h? i j=(n.bC id no f).h? i j:=λ_ _=>rfl
 have rS:∀i j g',(n.kP id no nm tg na).h? i j=some g'->(i=id/\j=no/\g'=f h)\/(¬(i=id/\j=no)/\n.h? i j=some g'):=λi j g' hg=>by
  rw[Ha,jY]at hg;by_cases e:i=id/\j=no
  ·obtain⟨rfl,rfl⟩:=e;rw[if_pos ⟨rfl,rfl⟩,hh]at hg
   cases hg;exact .inl ⟨rfl,rfl,rfl⟩
  ·rw[if_neg e]at hg;exact .inr ⟨e,hg⟩
 have nL:∀i,(n.q? i).isSome->((n.kP id no nm tg na).q? i).isSome:=λi hi=>by
  rw[qY];split
  ·simpa using hi
  ·exact hi
 have hold:∀i y,n.x? i=some y->¬i=k:=λi y hy e=>by have:=(o.x _ _ hy).1.2;omega
 have afj:∀e,e∈(f h).co↔e=(tg,k)\/e∈h.co:=λe=>FL
 exact{
  cfg:=o.cfg
  sc:=by rw[s8];exact o.sc
  lc:=by rw[lk];exact o.lc
  ids:=λi hi=>o.ids i (mi.2 (by rw[<-s8];exact mi.1 hi))
  sq:=by rw[rY];exact o.sq
  nq:=by rw[rY];exact o.nq
  lq:=by rw[Es];exact o.lq
  w:={
   un:=λi j g' hg e he=>by
    rcases rS i j g' hg with⟨rfl,rfl,rfl⟩|⟨_,h1⟩
    ·exact nL _ (o.w.un _ _ _ hh e he)
    ·exact nL _ (o.w.un _ _ _ h1 e he)
   xq:=λi y hy=>by
    rw[tn]at hy
    split at hy
    ·cases hy;exact nL _ (by rw[hq];rfl)
    ·exact nL _ (o.w.xq _ _ hy)
   xh:=λi y hy=>by
    rw[tn]at hy
    split at hy
    ·rename_i e
     cases hy
     refine⟨f h,by rw[Ha,jY,if_pos ⟨rfl,rfl⟩,hh];rfl,?_⟩
     show bq (cZ cP h.co tg k) tg=_
     rw[yQ _ _ _ _ ht,if_pos rfl,e]
    ·obtain⟨g,h1,h2⟩:=o.w.xh _ _ hy
     by_cases e:y.id=id/\y.no=no
     ·obtain⟨e1,e2⟩:=e
      rw[e1,e2]at h1|-
      rw[hh]at h1
      cases h1
      refine⟨f h,by rw[Ha,jY,if_pos ⟨rfl,rfl⟩,hh];rfl,?_⟩
      show bq (cZ cP h.co tg k) y.tag=_
      rw[yQ _ _ _ _ ht,if_neg]
      ·exact h2
      ·intro x;rw[x,ht]at h2;cases h2
     ·exact⟨g,by rw[Ha,jY,if_neg e];exact h1,h2⟩
   co:=λi j g' hg e he=>by
    rw[tn]
    rcases rS i j g' hg with⟨rfl,rfl,rfl⟩|⟨aE,h1⟩
    ·rcases(afj e).1 he with rfl|he
     ·rw[if_pos rfl];exact⟨_,rfl,rfl,rfl,rfl⟩
     ·obtain⟨y,h2,h3⟩:=o.w.co _ _ _ hh e he
      rw[if_neg (hold _ _ h2)];exact⟨y,h2,h3⟩
    ·obtain⟨y,h2,h3⟩:=o.w.co _ _ _ h1 e he
     rw[if_neg (hold _ _ h2)];exact⟨y,h2,h3⟩
   qc:=λi q' bz j hj=>by
    rw[qY]at bz
    rw[tn]
    by_cases e:i=nm
    ·subst e
     rw[if_pos rfl,hq]at bz
     cases bz
     rcases List.mem_append.1 hj with hj|hj
     ·obtain⟨y,h1,h2⟩:=o.w.qc _ _ hq j hj
      rw[if_neg (hold _ _ h1)];exact⟨y,h1,h2⟩
     ·rw[if_pos (aY hj)];exact⟨_,rfl,rfl⟩
    ·rw[if_neg e]at bz
     obtain⟨y,h1,h2⟩:=o.w.qc _ _ bz j hj
     rw[if_neg (hold _ _ h1)];exact⟨y,h1,h2⟩}
  c:=λi c' cE=>CC o i c' cE
  h:=λi j g' hg=>by
   rcases rS i j g' hg with⟨rfl,rfl,rfl⟩|⟨_,h1⟩
   ·have:=oh.mono (T':=T+1) aa
    exact{this with
     co:=Ot wK oh.co
     cn:=Oq oh.cn ht
     tA:=by show(cZ cP h.co tg k).length<=4;rw[(vA (lt:=cP) h.co tg k).length_eq,List.length_cons];omega}
   ·exact(o.h _ _ _ h1).mono aa
  part:=λi j g' hg=>by
   rcases rS i j g' hg with⟨rfl,rfl,rfl⟩|⟨_,h1⟩
   ·exactλhi hw=>o.part _ _ h hh hi hw
   ·exact o.part _ _ _ h1
  q:=λi q' bz=>by
   rw[qY]at bz
   by_cases e:i=nm
   ·subst e
    rw[if_pos rfl,hq]at bz
    cases bz
    have oq:=o.q _ _ hq
    refine⟨oq.lim,oq.jG,oq.msg,?_⟩
    show(q.cons++[k]).Nodup
    rw[List.nodup_append]
    refine⟨oq.cons,al,λa ha b hb=>?_⟩
    simp only[List.mem_singleton]at hb
    obtain⟨y,h1,_⟩:=o.w.qc _ _ hq a ha
    rw[hb];exact hold _ _ h1
   ·rw[if_neg e]at bz;exact o.q _ _ bz
  cnt:=λi q' bz=>by
   rw[qY]at bz
   have key:∀q0,n.q? i=some q0->q'.ready=q0.ready->q'.held=q0.held->xk (n.kP id no nm tg na) i q':=λq0 h0 h1 h2=>by
    have oc:=o.cnt _ _ h0
    refine xk.same (n:=n) ⟨by rw[h2];exact oc.held,by rw[h1];exact oc.one,by rw[h1];exact oc.no⟩ (same _ λg=>rfl) (λs=>same _ λg=>rfl) rfl
   by_cases e:i=nm
   ·rw[if_pos e]at bz
    obtain⟨q0,h0,rfl⟩:=Option.map_eq_some_iff.1 bz
    exact key q0 h0 rfl rfl
   ·rw[if_neg e]at bz;exact key q' bz rfl rfl
  x:=λi y hy=>by
   rw[tn]at hy
   show(1<=i/\i<=n.bj+1)/\_
   split at hy
   ·rename_i e;cases hy;exact⟨⟨aa,aa⟩,Bs⟩
   ·have:=o.x _ _ hy;exact⟨⟨this.1.1,aa⟩,this.2⟩
  xn:=by
   show((n.xs++[(k,(⟨id,no,tg,nm,na⟩:XN))]).map (·.1)).Nodup
   rw[List.map_append,List.nodup_append]
   refine⟨o.xn,al,λa ha b hb=>?_⟩
   simp only[List.map_cons,List.map_nil,List.mem_singleton]at hb
   obtain⟨y,hy⟩:=Option.isSome_iff_exists.1 (mi.2 ha)
   rw[hb];exact hold a y hy
  xl:=by
   have h1:=tt λh=>h.co.length
   have h2:(f h).co.length=h.co.length+1:=by
    show(cZ cP h.co tg k).length=_
    rw[(vA (lt:=cP) h.co tg k).length_eq,List.length_cons]
   have h3:=o.xl
   show(n.xs++[(k,(⟨id,no,tg,nm,na⟩:XN))]).length<=_
   rw[yw,List.length_append]
   simp only[List.length_cons,List.length_nil]
   omega
  gV:=⟨hT.1,by show n.messages<=T+1;omega⟩
  bj:=⟨by show 0<=n.bj+1;omega,by show n.bj+1<=T+1;omega⟩
  last:=o.last}
end
def amm(ch m:Nat)(hm:1<=m):∀(f:Nat) (b:List UInt8),(dZ ch m f b).length<=9*b.length:=by
 intro f
 induction f with
 |zero=>intro b;simp[dZ]
 |succ f ih=>
  intro b;unfold dZ;split
  ·simp
  ·rename_i hb;have h1:=ih (b.drop m);have h2:0<b.length:=List.length_pos_iff.2 hb;rw[List.length_append,ju,List.length_take];rw[List.length_drop]at h1;omega
def ng(ch cl me:Nat)(xs:List Arg):(ck ch cl me xs).length=(dg xs).length+12:=by unfold ck;rw[ju];simp only[List.length_append,bH];omega
def aa5{ch size:Nat}{b:List UInt8}(hs:9<=size):(mz ch b size).length<=20+9*b.length:=by unfold mz;have:=amm ch (size-8) aa b.length b;simp only[List.length_append,ju,bH];omega
section
variable {n:N}{aK:Int}{no:Nat}{c:CN}{h:HN}{w:HN->Nat}{nm:List UInt8}{q:QN}{k:Int}{x:XN}{m:aR}{n':N}{T:Int}{K:Nat}{ex:List Int}{l:List Int}
variable {id:Int}
def Ok.Qy (o:Ok T K ex n)(hc:n.ar id=some c):∃fr:Nat,c.r.frame=(fr:Int)/\64<=fr/\fr<=4096:=⟨c.r.frame.toNat,by have:=(o.c _ _ hc).r.frame;omega,by have:=(o.c _ _ hc).r.frame;omega,by have:=(o.c _ _ hc).r.frame;omega⟩
def Ok.Mg (o:Ok T K ex n)(hh:n.h? id no=some h):1<=no/\no<=8:=by obtain⟨c,hc⟩:=xD hh;exact(o.c _ _ hc).no _ (jb (Db hh hc))
def Ok.Vs (o:Ok T K ex n)(hh:n.h? id no=some h):∀e∈h.un,(e.1:Int)≠h.r.tag+1:=λe he hx=>by have:=(o.h _ _ _ hh).ut e he;omega
def Ok.amG (o:Ok T K ex n)(hT:T<=1000000000000):yL n:=⟨⟨o.gV.1,Int.le_trans o.gV.2 hT⟩,λnm q hq=>by have:=o.held hq;omega⟩
def Ok.ac4 (o:Ok T K ex n)(hT:T<=1000000000000)(hh:n.h? id no=some h):II n h:=
 ⟨⟨(o.h _ _ _ hh).tag.1,Int.le_trans (o.h _ _ _ hh).tag.2 hT⟩,o.Vs hh,λnm q hq=>⟨by have:=o.held hq;omega,by have:=o.held hq;omega,λm hm=>by have:=(o.q _ _ hq).msg m hm;exact⟨by have:=this.body;omega,by have:=this.key;omega⟩⟩⟩
def Ok.aj8 (o:Ok T K ex n)(hT:T<=1000000000000)(hK:K<=100000000000000)(hc:n.ar id=some c)(hh:n.h? id no=some h):IL n id no c h:=by
 refine⟨o.w,by have:=o.Mg hh;omega,Nat.le_trans (o.c _ _ hc).r.out hK,(o.h _ _ _ hh).tA,o.V3,⟨o.bj.1,Int.le_trans o.bj.2 hT⟩,λnm q hq=>by have:=o.held hq;have:=o.Ho hq;omega,λtg k hk=>?_,?_,o.ac4 hT hh,λtag many b=>o.Pk hh _ b,?_⟩
 ·obtain⟨x,hx,_⟩:=o.w.co _ _ _ hh _ (jb hk);exact o.Z6 hx
 ·obtain⟨fr,h1,h2,h3⟩:=o.Qy hc;exact⟨fr,h1,aa,aa⟩
 ·exact(o.send (id:=id) (s:=ck no 20 41 [])).FX (by rw[pY];exact hh)
def Ok.acH (o:Ok T K ex n)(hT:T<=1000000000000)(hK:K<=100000000000000)(hc:n.ar id=some c)(hh:n.h? id no=some h):Fz n id no c h:=
 ⟨o.aj8 hT hK hc hh,o.amG hT,(o.h _ _ _ hh).want,by have:=(o.h _ _ _ hh).body;omega,o.FX hh⟩
def Ok.aeE (o:Ok T K ex n)(hT:T<=1000000000000)(hK:K<=100000000000000)(hc:n.ar id=some c):NX n id c:=
 ⟨o.w,Nat.le_trans (o.c _ _ hc).r.out hK,o.FW hc,λno h hh=>o.acH hT hK hc hh⟩
def VB (h:n.vq q=some k):k∈q.cons:=by
 unfold N.vq at h;rw[Option.or_eq_some_iff]at h;rcases h with h|⟨_,h⟩
 ·exact(List.mem_filter.1 (List.mem_of_find?_eq_some h)).1
 ·exact(List.mem_filter.1 (List.mem_of_mem_head? h)).1
def Ok.HX (o:Ok T K ex n)(hT:T<=1000000000000)(hK:K<=100000000000000):IM n:=by
 have can:∀nm q,n.q? nm=some q->IG n nm q:=λnm q hq=>⟨by have:=o.Ho hq;omega,λk hk=>by
  obtain⟨x,hx,hn⟩:=o.w.qc _ _ hq k hk
  obtain⟨h,hh,_⟩:=o.w.xh _ _ hx
  exact⟨x,h,hx,hn,hh⟩⟩
 refine⟨o.sq,by have:=o.lq;omega,λnm q hq=>⟨can nm q hq,by have:=o.held hq;omega⟩,λnm q m ms k hq hr ht=>?_⟩;obtain⟨x,h,hx,hn,hh⟩:=(can nm q hq).2 k (VB ht);obtain⟨c,hc⟩:=xD hh;obtain⟨fr,h1,h2,h3⟩:=o.Qy hc;have hm:=(o.q _ _ hq).msg m (by rw[hr];simp);refine⟨x,c,h,{q with ready:=q.ready.tail,last:=k},fr,hx,hc,hh,by rw[vc,if_pos hn,hn,hq];rfl,⟨(o.h _ _ _ hh).tag.1,Int.le_trans (o.h _ _ _ hh).tag.2 hT⟩,by have:=o.held hq;simp only;omega,o.Vs hh,h1,aa,by have:=o.Mg hh;omega,Nat.le_trans (o.c _ _ hc).r.out hK,by have:=hm.body;omega,by have:=hm.key;omega,by have:=(o.x _ _ hx).2;omega⟩
def acI (hc:n.ar id=some c):n.frame id=c.r.frame.toNat:=by unfold N.frame;rw[hc];rfl
def Ok.give (o:Ok T K ex n)(hm:Cl m){s:List UInt8}(hs:s.length<=900)(hi:(n.ar id).isSome):Ok T (K+100000) ex (n.give id no m s):=by
 unfold N.give;obtain⟨c,hc⟩:=Option.isSome_iff_exists.1 hi;have h1:9<=n.frame id:=by rw[acI hc];have:=(o.c _ _ hc).r.frame;omega
 have h2:=aa5 (ch:=no) (b:=m.body) h1;have h3:=hm.body;refine((o.send (id:=id) (s:=s)).send).mono (Int.le_refl _) ?_;omega
def SR {na:Bool}(hc:(n.ar aK).isSome):((n.hand id no nm m na).ar aK).isSome:=by
 unfold N.hand;split
 ·rw[Jl];split
  ·simpa using hc
  ·exact hc
 ·rw[yW,vJ];split
  ·simpa using hc
  ·exact hc
def rE (a:Arg)(l:List Arg):(dg (a::l)).length=(eJ a).length+(dg l).length:=by unfold dg;rw[List.flatMap_cons,List.length_append]
def mX:(dg []).length=0:=rfl
def I7 (k:Nat):(eJ (.short k)).length=2:=bH _ _
def AF (k:Nat):(eJ (.long k)).length=4:=bH _ _
def Oz (k:Nat):(eJ (.mM k)).length=8:=bH _ _
def Oy (b:Bool):(eJ (.flag b)).length=1:=bH _ _
def vC (s:List UInt8):(eJ (.text s)).length=1+s.length:=by show(aA 1 s.length++s).length=_;rw[List.length_append,bH]
def Ok.ja (o:Ok T K ex n)(hs:n.ja nm=some n'):Ok (T+1) (K+100000) ex n':=by
 unfold N.ja at hs;split at hs
 ·cases hs
 ·rename_i q hq;split at hs
  ·cases hs
  ·rename_i m ms hr;split at hs
   ·cases hs
   ·rename_i k ht
    cases hs
    obtain⟨x,hx,hn⟩:=o.w.qc _ _ hq k (VB ht);obtain⟨h,hh,_⟩:=o.w.xh _ _ hx;obtain⟨c,hc⟩:=xD hh;have hm:=(o.q _ _ hq).msg m (by rw[hr];simp);unfold N.take;rw[arx,hx];simp only[];rw[hn];have o1:=o.hand (na:=x.fJ) (g:=λq=>{q with ready:=q.ready.tail,last:=k}) hh hq hr ⟨by simp only[hr,List.tail_cons],rfl,rfl⟩;refine o1.give hm ?_ (SR (by rw[yW,hc];rfl));rw[ng];simp only[rE,mX,vC,Oz,Oy];have h1:=(o.x _ _ hx).2;have h2:=hm.key;omega
def N.rm (n:N):Nat:=(n.aN.map λe=>e.2.ready.length).sum
def Ok.rm (o:Ok T K ex n):n.rm<=400:=by have h1:n.rm<=n.aN.length*50:=Ia λe he=>(o.held (oF o.nq he)).2.2;have:=o.lq;omega
def an4 (o:Ok T K ex n)(hs:n.ja nm=some n'):n'.rm+1=n.rm:=by
 unfold N.ja at hs;split at hs
 ·cases hs
 ·rename_i q hq;split at hs
  ·cases hs
  ·rename_i m ms hr;split at hs
   ·cases hs
   ·rename_i k ht
    cases hs
    have h1:=H9 o.nq hq (λq=>{q with ready:=q.ready.tail,last:=k}) λq=>q.ready.length;have e1:(n.bK nm λq=>{q with ready:=q.ready.tail,last:=k}).rm+q.ready.length=n.rm+q.ready.tail.length:=h1;rw[hr,List.length_cons,List.tail_cons]at e1
    have h2:∀(n:N) id no nm m na,(n.aN.map (·.1)).Nodup->(n.hand id no nm m na).rm=n.rm:=λn id no nm m na hq=>by
     unfold N.hand;split
     ·rfl
     ·exact Na (l:=n.aN) (k:=nm) (λq:QN=>{q with held:=q.held+1}) (λq:QN=>q.ready.length) (λ_ _=>rfl) hq
    have h3:(N.take (n.bK nm λq=>{q with ready:=q.ready.tail,last:=k}) k m).rm=(n.bK nm λq=>{q with ready:=q.ready.tail,last:=k}).rm:=by
     unfold N.take;split
     ·rfl
     ·exact h2 _ _ _ _ _ _ (by rw[BV];exact o.nq)
    rw[h3];omega
def ob (T:Int)(K:Nat)(ex:List Int)(R:Nat)(n:N):Prop:=∃j:Nat,Ok (T+j) (K+100000*j) ex n/\j+n.rm<=R
def ob.step {R:Nat}(o:ob T K ex R n)(hs:n.ja nm=some n'):ob T K ex R n':=by obtain⟨j,h1,h2⟩:=o;refine⟨j+1,?_,by have:=an4 h1 hs;omega⟩;exact(h1.ja hs).mono aa aa
def ob.kM {R:Nat}(o:ob T K ex R n){f:Nat}:ob T K ex R (n.kM f nm):=by
 induction f generalizing n with
 |zero=>exact o
 |succ f ih=>
  unfold N.kM
  cases h:n.ja nm with
  |none=>exact o
  |some n'=>exact ih (o.step h)
def ob.serve {R:Nat}(o:ob T K ex R n):ob T K ex R n.serve:=by
 unfold N.serve;generalize n.aN.map (·.1)=l
 induction l generalizing n with
 |nil=>exact o
 |cons a l ih=>rw[List.foldl_cons];exact ih o.kM
def Ok.MR (o:Ok T K ex n):ob T K ex 400 n:=⟨0,o.mono aa aa,by have:=o.rm;omega⟩
def ob.ok (o:ob T K ex 400 n):Ok (T+400) (K+40000000) ex n:=by obtain⟨j,h1,h2⟩:=o;exact h1.mono aa aa
def ob.HX (o:ob T K ex 400 n)(hT:T+400<=1000000000000)(hK:K+40000000<=100000000000000):IM n:=o.ok.HX hT hK
def Ok.serve (o:Ok T K ex n):Ok (T+400) (K+40000000) ex n.serve:=o.MR.serve.ok
end
end Go.Qw
