/- Part 31. -/
import Derived.Test.YtpiabknabfbfhaaGreatDoorFairly30
set_option linter.all false
set_option maxRecDepth 100000
set_option maxHeartbeats 8000000
namespace Go.Qw
section
variable {O:Type}
variable {α:Type}[DecidableEq α]
def oa {l:List (α×O)}{k:α}{v:O}(nd:(l.map (·.1)).Nodup)(h:(k,v)∈l):bu l k=some v:=by
 induction l with
 |nil=>cases h
 |cons e l ih=>
  rw[List.map_cons,List.nodup_cons]at nd;unfold bu;rw[List.find?_cons];rcases List.mem_cons.1 h with rfl|h'
  ·simp
  ·have aE:¬e.1=k:=λx=>nd.1 (by rw[x];exact List.mem_map_of_mem (f:=(·.1)) h');simp only[aE,decide_false];exact ih nd.2 h'
def Hr {l:List (α×O)}{k:α}{v:O}(nd:(l.map (·.1)).Nodup)(h:bu l k=some v)(f:O->O)(g:O->Nat):
 ((dz l k f).map λe=>g e.2).sum+g v=(l.map λe=>g e.2).sum+g (f v):=by
 induction l with
 |nil=>cases h
 |cons e l ih=>
  rw[List.map_cons,List.nodup_cons]at nd;unfold bu at h;rw[List.find?_cons]at h;unfold dz at ih|-;rw[List.map_cons];by_cases he:e.1=k
  ·simp only[he,decide_true,Option.map_some]at h
   cases h
   have e2:(l.map λe=>if e.1=k then(e.1,f e.2)else e)=l:=by
    have:(l.map λe=>if e.1=k then(e.1,f e.2)else e)=l.map λe=>e:=List.map_congr_left λa ha=>by rw[if_neg];intro x;exact nd.1 (by rw[he,<-x];exact List.mem_map_of_mem (f:=(·.1)) ha)
    rw[this,List.map_id']
   have e3:(List.map (λe=>g e.2) (e::l)).sum=g e.2+(l.map λe=>g e.2).sum:=by rw[List.map_cons,List.sum_cons]
   rw[if_pos he,e2,e3,List.map_cons,List.sum_cons];dsimp only;omega
  ·simp only[he,decide_false]at h;simp only[if_neg he,List.map_cons,List.sum_cons];have:=ih nd.2 h;omega
def Mv {l:List (α×O)}{k:α}(f:O->O)(g:O->Nat)(hg:∀v,bu l k=some v->g (f v)=g v)(nd:(l.map (·.1)).Nodup):
 ((dz l k f).map λe=>g e.2).sum=(l.map λe=>g e.2).sum:=by
 cases h:bu l k with
 |some v=>have:=Hr nd h f g;have:=hg v h;omega
 |none=>
  have:dz l k f=l:=by
   unfold dz
   have:(l.map λe=>if e.1=k then(e.1,f e.2)else e)=l.map λe=>e:=List.map_congr_left λa ha=>by rw[if_neg (iK h a ha)]
   rw[this,List.map_id']
  rw[this]
def aoL {lt:α->α->Bool}(l:List (α×O))(k:α)(v:O)(g:O->Nat):((cV lt l k v).map λe=>g e.2).sum=(l.map λe=>g e.2).sum+g v:=by have:=((uU (lt:=lt) l k v).map λe=>g e.2).sum_nat;rw[this];simp only[List.map_cons,List.sum_cons];omega
def aoK {l:List (α×O)}{k:α}{v:O}(nd:(l.map (·.1)).Nodup)(h:bu l k=some v)(g:O->Nat):
 ((cF l k).map λe=>g e.2).sum+g v=(l.map λe=>g e.2).sum:=by
 induction l with
 |nil=>cases h
 |cons e l ih=>
  rw[List.map_cons,List.nodup_cons]at nd;unfold bu at h;rw[List.find?_cons]at h;unfold cF at ih|-;rw[List.filter_cons];by_cases he:e.1=k
  ·simp only[he,decide_true,Option.map_some]at h
   cases h
   have e2:(l.filter λe=>decide (e.1≠k))=l:=List.filter_eq_self.2 λa ha=>by simp only[ne_eq,decide_not,Bool.not_eq_eq_eq_not,Bool.not_true,decide_eq_false_iff_not];intro x;exact nd.1 (by rw[he,<-x];exact List.mem_map_of_mem (f:=(·.1)) ha)
   rw[if_neg (by simp[he]),e2];simp only[List.map_cons,List.sum_cons];omega
  ·simp only[he,decide_false]at h;have:=ih nd.2 h;rw[if_pos (by simp[he])];simp only[List.map_cons,List.sum_cons]at this|-;omega
omit [DecidableEq α]in
def E9 {lt:α->α->Bool}{l:List (α×O)}{k:α}{v:O}{e:α×O}:e∈cV lt l k v↔e=(k,v)\/e∈l:=by rw[(uU l k v).mem_iff,List.mem_cons]
def NA {lt:α->α->Bool}{l:List (α×O)}{k:α}{v:O}(nd:(l.map (·.1)).Nodup)(h:bu l k=none):((cV lt l k v).map (·.1)).Nodup:=by rw[((uU (lt:=lt) l k v).map (·.1)).nodup_iff,List.map_cons,List.nodup_cons];refine⟨λhm=>?_,nd⟩;obtain⟨e,he,hk⟩:=List.mem_map.1 hm;exact iK h e he hk
def NB {lt:α->α->Bool}(L:yf lt){l:List (α×O)}{k:α}{v:O}(s:dM lt (l.map (·.1))):dM lt ((cV lt l k v).map (·.1)):=by
 unfold dM at s|-
 induction l with
 |nil=>simp[cV]
 |cons e l ih=>
  rw[List.map_cons,List.pairwise_cons]at s;simp only[cV];split
  ·rename_i bj;rw[List.map_cons,List.map_cons,List.pairwise_cons,List.pairwise_cons];refine⟨λb hb=>?_,s⟩;rcases List.mem_cons.1 hb with rfl|hb
   ·exact L.asym bj
   ·exact L.trans (L.asym bj) (s.1 b hb)
  ·rename_i bj;rw[List.map_cons,List.pairwise_cons];refine⟨λb hb=>?_,ih s.2⟩;obtain⟨x,hx,rfl⟩:=List.mem_map.1 hb;rcases E9.1 hx with rfl|hx
   ·simpa using bj
   ·exact s.1 _ (List.mem_map_of_mem hx)
def V0 {l:List (Nat×O)}{k:Nat}{v:O}(s:(l.map (·.1)).Pairwise (·<·))(h:bu l k=none):((cV kT l k v).map (·.1)).Pairwise (·<·):=by
 induction l with
 |nil=>simp[cV]
 |cons e l ih=>
  have FU:¬e.1=k:=iK h e al
  have dX:bu l k=none:=by unfold bu at h|-;simp only[List.find?_cons,FU,decide_false]at h;exact h
  rw[List.map_cons,List.pairwise_cons]at s;simp only[cV];split
  ·rename_i bj;have yS:k<e.1:=by simpa[kT]using bj
   rw[List.map_cons,List.map_cons,List.pairwise_cons,List.pairwise_cons];refine⟨λb hb=>?_,s⟩;rcases List.mem_cons.1 hb with rfl|hb
   ·exact yS
   ·exact Nat.lt_trans yS (s.1 b hb)
  ·rename_i bj
   have yS:e.1<k:=by have:¬k<e.1:=by simpa[kT]using bj
                     omega
   rw[List.map_cons,List.pairwise_cons];refine⟨λb hb=>?_,ih s.2 dX⟩;obtain⟨x,hx,rfl⟩:=List.mem_map.1 hb;rcases E9.1 hx with rfl|hx
   ·exact yS
   ·exact s.1 _ (List.mem_map_of_mem hx)
omit [DecidableEq α]in
def LB [BEq α][LawfulBEq α]{l m:List α}(nd:l.Nodup)(h:∀a∈l,a∈m):l.length<=m.length:=by
 induction l generalizing m with
 |nil=>simp
 |cons a l ih=>
  rw[List.nodup_cons]at nd;have h1:a∈m:=h a al;have:=ih (m:=m.erase a) nd.2 λb hb=>(List.mem_erase_of_ne (λe=>nd.1 (by rw[<-e];exact hb))).2 (h b (by simp[hb]));rw[List.length_erase_of_mem h1]at this;have:0<m.length:=List.length_pos_of_mem h1;simp only[List.length_cons];omega
end
def A9{l:List Nat}(s:l.Pairwise (·<·)):l.Nodup:=s.imp λh=>Nat.ne_of_lt h
def aiN{l:List Int}(s:l.Pairwise (·<·)):l.Nodup:=s.imp λh=>Int.ne_of_lt h
variable {α:Type}{l:List α}{f:α->Nat}
def Hs{B:Nat}(h:∀a∈l,f a<=B):(l.map f).sum<=l.length*B:=by
 induction l with
 |nil=>simp
 |cons a l ih=>
  have h1:=h a al;have h2:=ih λb hb=>h b (by simp[hb]);simp only[List.map_cons,List.sum_cons,List.length_cons,Nat.succ_mul];omega
def La{a:α}(h:a∈l):f a<=(l.map f).sum:=by
 induction l with
 |nil=>cases h
 |cons b l ih=>
  simp only[List.map_cons,List.sum_cons];rcases List.mem_cons.1 h with rfl|h
  ·omega
  ·have:=ih h;omega
def N.ei(n:N)(w:HN->Nat):Nat:=(n.aF.map λe=>(e.2.ch.map λg=>w g.2).sum).sum
def N.gS(n:N)(nm:List UInt8):Nat:=n.ei λh=>h.un.countP λe=>decide (e.2.1=nm)
def N.cnt(n:N)(nm:List UInt8)(s:Int):Nat:=n.ei λh=>h.un.countP λe=>decide (e.2.1=nm)&&decide (e.2.2.seq=s)
section
variable {n:N}{no:Nat}{c:CN}{h:HN}{w:HN->Nat}{nm:List UInt8}
variable {id:Int}
@[simp] theorem asR {f:QN->QN}:(n.bL nm f).ei w=n.ei w:=rfl
theorem MF (hs:(n.aF.map (·.1)).Nodup)(hc:n.ar id=some c)(f:CN->CN):
 (n.dI id f).ei w+(c.ch.map λg=>w g.2).sum=n.ei w+((f c).ch.map λg=>w g.2).sum:=
 Hr hs hc f λc=>(c.ch.map λg:Nat×HN=>w g.2).sum
theorem MG (hs:(n.aF.map (·.1)).Nodup){f:CR->CR}:(n.bC id f).ei w=n.ei w:=
 Mv (f:=λc:CN=>{c with r:=f c.r}) (g:=λc:CN=>(c.ch.map λg:Nat×HN=>w g.2).sum) (λ_ _=>rfl) hs
theorem apk (hs:(n.aF.map (·.1)).Nodup)(hc:n.ar id=some c)(qz:(c.ch.map (·.1)).Nodup)(hh:n.h? id no=some h)(f:HN->HN):
 (n.bB id no f).ei w+w h=n.ei w+w (f h):=by
 have h1:=MF (w:=w) hs hc λc=>{c with ch:=dz c.ch no f};have h2:=Hr qz (CG hh hc) f w;simp only at h1;have e:(n.bB id no f)=n.dI id λc=>{c with ch:=dz c.ch no f}:=rfl;rw[e];omega
theorem Lb (hh:n.h? id no=some h):w h<=n.ei w:=by obtain⟨c,hc⟩:=wZ hh;have h1:w h<=(c.ch.map λg=>w g.2).sum:=La (f:=λg:Nat×HN=>w g.2) (iJ (CG hh hc));have h2:(c.ch.map λg=>w g.2).sum<=n.ei w:=La (f:=λe:Int×CN=>(e.2.ch.map λg=>w g.2).sum) (iJ hc);omega
end
variable {m:aX}
structure BU (m:aX):Prop where
 body:m.body.length<=10000
 key:m.key.length<=255
variable {h:HN}
structure zW (T:Int) (h:HN):Prop where
 un:(h.un.map (·.1)).Pairwise (·<·)
 ut:∀e∈h.un,(e.1:Int)<=h.r.tag
 tag:0<=h.r.tag/\h.r.tag<=T
 co:dM cL (h.co.map (·.1))
 cn:(h.co.map (·.1)).Nodup
 sM:h.co.length<=4
 want:0<=h.r.want/\h.r.want<=3
 body:h.r.body.length<=20000
 size:h.r.size<=10000
 key:h.r.key.length<=255
 msg:∀e∈h.un,BU e.2.2
structure BW (K:Nat) (r:CR):Prop where
 out:r.out.length<=K
 frame:64<=r.frame/\r.frame<=4096
 dg:r.dg<=8
variable {no:Nat}{c:CN}
structure zS (K:Nat) (c:CN):Prop where
 r:BW K c.r
 jl:(c.ch.map (·.1)).Pairwise (·<·)
 no:∀e∈c.ch,1<=e.1/\e.1<=8
variable {q:QN}
structure Nr (lim:Int) (q:QN):Prop where
 lim:(q.ready.length:Int)+q.held<=lim
 jl:q.ready.Pairwise λa b=>a.seq<b.seq
 msg:∀m∈q.ready,BU m
 cons:q.cons.Nodup
structure EY (g:jA):Prop where
 ok:Nb g
 queue:g.queue<=50
 amm:0<=g.queue
 body:g.body<=10000
 frame:64<=g.frame/\g.frame<=4096
 jc:g.jc<=8
variable {n:N}{nm:List UInt8}
structure wJ (n:N) (nm:List UInt8) (q:QN):Prop where
 held:q.held=(n.gS nm:Int)
 one:∀s,(q.ready.countP λm=>decide (m.seq=s))+n.cnt nm s<=1
 no:∀s,n.messages<s->(q.ready.countP λm=>decide (m.seq=s))+n.cnt nm s=0
variable {w:HN->Nat}{k:Int}{x:XN}
structure Ok (T:Int) (K:Nat) (ex:List Int) (n:N):Prop where
 cfg:EY n.cfg
 sc:(n.aF.map (·.1)).Pairwise (·<·)
 lc:n.aF.length<=4
 ids:∀id,(n.ar id).isSome->1<=id/\id<=n.last
 sq:dM cL (n.aN.map (·.1))
 nq:(n.aN.map (·.1)).Nodup
 lq:n.aN.length<=8
 w:Wf n
 c:∀id c,n.ar id=some c->zS K c
 h:∀id no h,n.h? id no=some h->zW T h
 part:∀id no h,n.h? id no=some h->id∉ex->h.r.want=3->(h.r.body.length:Int)<=h.r.size
 q:∀nm q,n.q? nm=some q->Nr n.cfg.queue q
 cnt:∀nm q,n.q? nm=some q->wJ n nm q
 x:∀k x,n.x? k=some x->(1<=k/\k<=n.bh)/\x.tag.length<=8
 xn:(n.xs.map (·.1)).Nodup
 xl:n.xs.length<=n.ei λh=>h.co.length
 gF:0<=n.messages/\n.messages<=T
 bh:0<=n.bh/\n.bh<=T
 last:0<=n.last
section
variable {O:Type}{n:N}{no:Nat}{c:CN}{h:HN}{w:HN->Nat}{nm:List UInt8}{q:QN}{k:Int}{x:XN}{m:aX}{n':N}{T:Int}{T':Int}{K:Nat}{K':Nat}{ex:List Int}{fC:List Int}
variable {id:Int}
theorem Ok.nc (o:Ok T K ex n):(n.aF.map (·.1)).Nodup:=aiN o.sc
theorem zW.mono (o:zW T h)(ht:T<=T'):zW T' h:={o with tag:=⟨o.tag.1,Int.le_trans o.tag.2 ht⟩}
theorem BW.mono {r:CR}(o:BW K r)(hk:K<=K'):BW K' r:={o with out:=Nat.le_trans o.out hk}
theorem zS.mono (o:zS K c)(hk:K<=K'):zS K' c:={o with r:=o.r.mono hk}
theorem Ok.mono (o:Ok T K ex n)(ht:T<=T')(hk:K<=K'):Ok T' K' ex n:={o with
 c:=λid c hc=>(o.c id c hc).mono hk
 h:=λid no h hh=>(o.h id no h hh).mono ht
 gF:=⟨o.gF.1,Int.le_trans o.gF.2 ht⟩
 bh:=⟨o.bh.1,Int.le_trans o.bh.2 ht⟩}
theorem Ok.Pr (o:Ok T K ex n)(hx:∀i∈ex,i∈fC):Ok T K fC n:={o with part:=λid no h hh hi=>o.part id no h hh λhm=>hi (hx _ hm)}
theorem lK {α O:Type}[DecidableEq α]{l:List (α×O)}{k:α}:(bu l k).isSome↔k∈l.map (·.1):=by
 constructor
 ·intro h;obtain⟨v,hv⟩:=Option.isSome_iff_exists.1 h;exact List.mem_map_of_mem (f:=(·.1)) (iJ hv)
 ·intro h;obtain⟨e,he,rfl⟩:=List.mem_map.1 h
  cases hv:bu l e.1 with
  |none=>exact absurd rfl (iK hv e he)
  |some _=>rfl
theorem Wf.of (w:Wf n)(hx:∀k,n'.x? k=n.x? k)(hq:∀nm q',n'.q? nm=some q'->∃q,n.q? nm=some q/\q'.cons=q.cons)(gD:∀nm,(n.q? nm).isSome->(n'.q? nm).isSome)
 (hh:∀id no h',n'.h? id no=some h'->∃h,n.h? id no=some h/\h'.co=h.co/\∀e∈h'.un,e∈h.un\/(n.q? e.2.1).isSome) (eY:∀id no h,n.h? id no=some h->∃h',n'.h? id no=some h'/\h'.co=h.co):Wf n' where
 un:=λid no h' dT e he=>by obtain⟨h,h1,_,h3⟩:=hh _ _ _ dT;exact gD _ ((h3 e he).elim (λh4=>w.un _ _ _ h1 e h4) _root_.id)
 xq:=λk x hk=>gD _ (w.xq k x (by rw[<-hx];exact hk))
 xh:=λk x hk=>by obtain⟨h,h1,h2⟩:=w.xh k x (by rw[<-hx];exact hk);obtain⟨h',h3,h4⟩:=eY _ _ _ h1;exact⟨h',h3,by rw[h4];exact h2⟩
 co:=λid no h' dT e he=>by obtain⟨h,h1,h2,_⟩:=hh _ _ _ dT;obtain⟨x,h5⟩:=w.co _ _ _ h1 e (by rw[<-h2];exact he);exact⟨x,by rw[hx];exact h5⟩
 qc:=λnm q' bz k hk=>by obtain⟨q,h1,h2⟩:=hq _ _ bz;obtain⟨x,h5⟩:=w.qc _ _ h1 k (by rw[<-h2];exact hk);exact⟨x,by rw[hx];exact h5⟩
theorem Ok.of (o:Ok T K ex n)(QC:n'.cfg=n.cfg)(sw:n'.aF.map (·.1)=n.aF.map (·.1))(ry:n'.aN.map (·.1)=n.aN.map (·.1))(KF:n'.xs=n.xs)(Rp:n'.bh=n.bh)(ma:n'.last=n.last)
 (hm:0<=n'.messages/\n'.messages<=T') (ht:T<=T')
 (hc:∀id c',n'.ar id=some c'->zS K' c')
 (hh:∀id no h',n'.h? id no=some h'->zW T' h'/\(id∉fC->h'.r.want=3->(h'.r.body.length:Int)<=h'.r.size)/\∃h,n.h? id no=some h/\h'.co=h.co/\∀e∈h'.un,e∈h.un\/(n.q? e.2.1).isSome)
 (eY:∀id no h,n.h? id no=some h->∃h',n'.h? id no=some h'/\h'.co=h.co)
 (hq:∀nm q',n'.q? nm=some q'->Nr n.cfg.queue q'/\wJ n' nm q'/\∃q,n.q? nm=some q/\q'.cons=q.cons)
 (afL:(n'.ei λh=>h.co.length)=n.ei λh=>h.co.length):Ok T' K' fC n':=by
 have hx:∀k,n'.x? k=n.x? k:=λk=>by unfold N.x?;rw[KF]
 have lk:n'.aF.length=n.aF.length:=by have:=congrArg List.length sw;simpa using this
 have DU:n'.aN.length=n.aN.length:=by have:=congrArg List.length ry;simpa using this
 exact{
  cfg:=by rw[QC];exact o.cfg
  sc:=by rw[sw];exact o.sc
  lc:=by rw[lk];exact o.lc
  ids:=λid hi=>by rw[ma];exact o.ids id (lK.2 (by rw[<-sw];exact lK.1 hi))
  sq:=by rw[ry];exact o.sq
  nq:=by rw[ry];exact o.nq
  lq:=by rw[DU];exact o.lq
  w:=o.w.of hx (λnm q' h1=>(hq nm q' h1).2.2) (λnm hi=>lK.2 (by rw[ry];exact lK.1 hi)) (λid no h' h1=>(hh id no h' h1).2.2) eY
  c:=hc
  h:=λid no h' h1=>(hh id no h' h1).1
  part:=λid no h' h1=>(hh id no h' h1).2.1
  q:=λnm q' h1=>by rw[QC];exact(hq nm q' h1).1
  cnt:=λnm q' h1=>(hq nm q' h1).2.1
  x:=λk x hk=>by rw[Rp];exact o.x k x (by rw[<-hx];exact hk)
  xn:=by rw[KF];exact o.xn
  xl:=by rw[KF,afL];exact o.xl
  gF:=hm
  bh:=by rw[Rp];exact⟨o.bh.1,Int.le_trans o.bh.2 ht⟩
  last:=by rw[ma];exact o.last}
theorem qZ {f:CN->CN}:(n.dI id f).aF.map (·.1)=n.aF.map (·.1):=ow _ _ _ λx=>x
theorem Bn {f:QN->QN}:(n.bL nm f).aN.map (·.1)=n.aN.map (·.1):=ow _ _ _ λx=>x
theorem wJ.same (o:wJ n nm q)(h1:n'.gS nm=n.gS nm)(h2:∀s,n'.cnt nm s=n.cnt nm s)(h3:n'.messages=n.messages):wJ n' nm q:=
 ⟨by rw[h1];exact o.held,λs=>by rw[h2];exact o.one s,λs hs=>by rw[h2];exact o.no s (by rw[<-h3];exact hs)⟩
theorem Ok.bC (o:Ok T K ex n){f:CR->CR}(hk:K<=K')(hf:∀c,n.ar id=some c->BW K' (f c.r)):Ok T K' ex (n.bC id f):=by
 refine o.of rfl qZ rfl rfl rfl rfl o.gF (Int.le_refl _) (λi c' cA=>?_) (λi no h' dT=>?_) (λi no h hh=>⟨h,by rw[JD];exact hh,rfl⟩) (λnm q' bz=>⟨o.q nm q' bz,(o.cnt nm q' bz).same (MG o.nc) (λs=>MG o.nc) rfl,q',bz,rfl⟩) (MG o.nc)
 ·rw[qh]at cA;by_cases e:i=id
  ·subst e;rw[if_pos rfl]at cA;obtain⟨c,hc,rfl⟩:=Option.map_eq_some_iff.1 cA;exact⟨hf c hc,(o.c i c hc).jl,(o.c i c hc).no⟩
  ·rw[if_neg e]at cA;exact(o.c i c' cA).mono hk
 ·rw[JD]at dT;exact⟨o.h _ _ _ dT,o.part _ _ _ dT,h',dT,rfl,λe he=>.inl he⟩
theorem Ok.send (o:Ok T K ex n){s:List UInt8}:Ok T (K+s.length) ex (n.send id s):=
 o.bC aa λc hc=>⟨by have:=(o.c id c hc).r.out;simp only[List.length_append];omega,(o.c id c hc).r.frame,(o.c id c hc).r.dg⟩
theorem yr (hc:n.ar id=some c)(o:Ok T K ex n):(c.ch.map (·.1)).Nodup:=A9 (o.c id c hc).jl
theorem EG (o:Ok T K ex n)(hh:n.h? id no=some h)(f:HN->HN)(w:HN->Nat):(n.bB id no f).ei w+w h=n.ei w+w (f h):=by obtain⟨c,hc⟩:=wZ hh;exact apk o.nc hc (yr hc o) hh f
theorem Ca (o:Ok T K ex n){f:HN->HN}:∀i c',(n.bB id no f).ar i=some c'->zS K c':=λi c' cA=>by
 rw[vc]at cA;by_cases e:i=id
 ·subst e;rw[if_pos rfl]at cA;obtain⟨c,hc,rfl⟩:=Option.map_eq_some_iff.1 cA;have hk:(dz c.ch no f).map (·.1)=c.ch.map (·.1):=ow _ _ _ λx=>x;refine⟨(o.c i c hc).r,by simp only;rw[hk];exact(o.c i c hc).jl,λe he=>?_⟩;have:e.1∈c.ch.map (·.1):=by rw[<-hk];exact List.mem_map_of_mem (f:=(·.1)) he
  obtain⟨e',fU,h2⟩:=List.mem_map.1 this;rw[<-h2];exact(o.c i c hc).no e' fU
 ·rw[if_neg e]at cA;exact o.c i c' cA
theorem Ok.cS (o:Ok T K ex n){f:HR->HR}(hh:n.h? id no=some h)(hf:zW T' {h with r:=f h.r})(ht:T<=T')(hp:id∉fC->(f h.r).want=3->((f h.r).body.length:Int)<=(f h.r).size)(hx:∀i∈ex,i∈fC):Ok T' K fC (n.cS id no f):=by
 have key:∀w:HN->Nat,(∀h,w {h with r:=f h.r}=w h)->(n.cS id no f).ei w=n.ei w:=λw hw=>by have:=EG o hh (λh=>{h with r:=f h.r}) w;rw[hw h]at this;have e:n.cS id no f=n.bB id no λh=>{h with r:=f h.r}:=rfl;rw[e];omega
 refine o.of rfl qZ rfl rfl rfl rfl ⟨o.gF.1,Int.le_trans o.gF.2 ht⟩ ht (Ca o) (λi j h' dT=>?_) (λi j g hg=>?_) (λnm q' bz=>⟨o.q nm q' bz,(o.cnt nm q' bz).same (key _ λ_=>rfl) (λs=>key _ λ_=>rfl) rfl,q',bz,rfl⟩) (key _ λ_=>rfl)
 ·rw[JC]at dT;by_cases e:i=id/\j=no
  ·obtain⟨rfl,rfl⟩:=e;rw[if_pos ⟨rfl,rfl⟩,hh]at dT
   cases dT
   exact⟨hf,hp,h,hh,rfl,λe he=>.inl he⟩
  ·rw[if_neg e]at dT;exact⟨(o.h _ _ _ dT).mono ht,λhi=>o.part _ _ _ dT λhm=>hi (hx _ hm),h',dT,rfl,λe he=>.inl he⟩
 ·rw[JC];by_cases e:i=id/\j=no
  ·rw[if_pos e,hg];exact⟨_,rfl,rfl⟩
  ·rw[if_neg e];exact⟨g,hg,rfl⟩
theorem Ok.bL (o:Ok T K ex n){f:QN->QN}(hf:∀q,n.q? nm=some q->(f q).ready.Sublist q.ready/\(f q).held=q.held/\(f q).cons=q.cons):Ok T K ex (n.bL nm f):=by
 refine o.of rfl rfl Bn rfl rfl rfl o.gF (Int.le_refl _) o.c (λi j h' dT=>⟨o.h _ _ _ dT,o.part _ _ _ dT,h',dT,rfl,λe he=>.inl he⟩) (λi j h hh=>⟨h,hh,rfl⟩) (λcY q' bz=>?_) rfl;rw[uA]at bz;by_cases e:cY=nm
 ·rw[if_pos e]at bz;obtain⟨q,hq,rfl⟩:=Option.map_eq_some_iff.1 bz;obtain⟨f1,f2,f3⟩:=hf q (by rw[<-e];exact hq);have oq:=o.q _ _ hq;have oc:=o.cnt _ _ hq;refine⟨⟨?_,oq.jl.sublist f1,λm hm=>oq.msg m (f1.subset hm),by rw[f3];exact oq.cons⟩,⟨by rw[f2];exact oc.held,λs=>?_,λs hs=>?_⟩,q,hq,f3⟩
  ·have:=f1.length_le;have:=oq.lim;rw[f2];omega
  ·have:=f1.countP_le (p:=λm=>decide (m.seq=s));have h2:=oc.one s;exact Nat.le_trans (Nat.add_le_add_right this _) h2
  ·have:=f1.countP_le (p:=λm=>decide (m.seq=s));have h2:=oc.no s hs;exact Nat.le_zero.1 (Nat.le_trans (Nat.add_le_add_right this _) (Nat.le_of_eq h2))
 ·rw[if_neg e]at bz;exact⟨o.q _ _ bz,(o.cnt _ _ bz).same rfl (λ_=>rfl) rfl,q',bz,rfl⟩
end
section
variable {O:Type}{n:N}{no:Nat}{c:CN}{h:HN}{w:HN->Nat}{nm:List UInt8}{q:QN}{k:Int}{x:XN}{m:aX}{T:Int}{T':Int}{K:Nat}{ex:List Int}
variable {id:Int}
theorem OU {O:Type}{l:List (Nat×O)}{k:Nat}{v:O}(s:(l.map (·.1)).Nodup)(h:bu l k=some v)(p:Nat×O->Bool)(hp:∀a b v,p (a,v)=p (b,v)):
 (cF l k).countP p+(if p (k,v)then 1 else 0)=l.countP p:=by
 have key:∀l:List (Nat×O),l.countP p=(l.map λe=>(λv=>if p (0,v)then 1 else 0) e.2).sum:=λl=>by
  induction l with
  |nil=>rfl
  |cons e l ih=>
   rw[List.countP_cons,ih,List.map_cons,List.sum_cons];have:p (0,e.2)=p e:=hp 0 e.1 e.2
   dsimp only
   rw[this];omega
 have:=aoK s h λv=>if p (0,v)then 1 else 0;rw[key,key,hp k 0 v];exact this
theorem Ok.hand (o:Ok T K ex n){ms:List aX}{g:QN->QN}{na:Bool}(hh:n.h? id no=some h)(hq:n.q? nm=some q)(hr:q.ready=m::ms)(hg:(g q).ready=ms/\(g q).held=q.held/\(g q).cons=q.cons):
 Ok (T+1) K ex ((n.bL nm g).hand id no nm m na):=by
 have oq:=o.q _ _ hq;have oc:=o.cnt _ _ hq;have oh:=o.h _ _ _ hh;have hm:BU m:=oq.msg m (by rw[hr];simp);have jL:ms.Sublist q.ready:=by rw[hr];exact List.sublist_cons_self _ _
 obtain⟨g1,g2,g3⟩:=hg
 cases na with
 |true=>
  have o1:Ok T K ex (n.bL nm g):=by
   exact o.bL λq' bz=>by
    rw[hq]at bz;cases bz
    exact⟨by rw[g1];exact jL,g2,g3⟩
  have mL:(n.bL nm g).h? id no=some h:=hh;unfold N.hand;rw[if_pos rfl];exact o1.cS mL (T':=T+1) {oh with ut:=λe he=>by have:=oh.ut e he;simp only;omega,tag:=⟨by have:=oh.tag.1;simp only;omega,by have:=oh.tag.2;simp only;omega⟩} aa (λhi=>o.part _ _ _ hh hi) λ_ hi=>hi
 |false=>
  let f:HN->HN:=λh=>{h with r:={h.r with tag:=h.r.tag+1},un:=h.un++[((h.r.tag+1).toNat,(nm,m))]}
  have e1:(n.bL nm g).hand id no nm m false=(n.bB id no f).bL nm λq=>{g q with held:=(g q).held+1}:=by unfold N.hand;rw[if_neg al];have:(n.bL nm g).bB id no f=(n.bB id no f).bL nm g:=rfl;rw[this,EH]
  rw[e1];have tt:=λw:HN->Nat=>EG o hh f w;have ij:(f h).un=h.un++[((h.r.tag+1).toNat,(nm,m))]:=rfl
  have C5:∀cY,(n.bB id no f).gS cY=n.gS cY+(if nm=cY then 1 else 0):=λcY=>by have:=tt λh=>h.un.countP λe=>decide (e.2.1=cY);rw[ij,List.countP_append,List.countP_singleton]at this;unfold N.gS;simp only[decide_eq_true_eq]at this;omega
  have xb:∀cY s,(n.bB id no f).cnt cY s=n.cnt cY s+(if nm=cY/\m.seq=s then 1 else 0):=λcY s=>by have:=tt λh=>h.un.countP λe=>decide (e.2.1=cY)&&decide (e.2.2.seq=s);rw[ij,List.countP_append,List.countP_singleton]at this;unfold N.cnt;simp only[Bool.and_eq_true,decide_eq_true_eq]at this;omega
  have Kz:((n.bB id no f).ei λh=>h.co.length)=n.ei λh=>h.co.length:=by have:=tt λh=>h.co.length;have e:(f h).co=h.co:=rfl;rw[e]at this;omega
  refine o.of rfl (show(n.bB id no f).aF.map (·.1)=_ from qZ (f:=λc=>{c with ch:=dz c.ch no f})) (Bn (n:=n.bB id no f)) rfl rfl rfl ⟨o.gF.1,by have:=o.gF.2;show n.messages<=T+1;omega⟩ aa (Ca o) (λi j h' dT=>?_) (λi j g hg=>?_) (λcY q' bz=>?_) Kz
  ·rw[AB,jI]at dT;by_cases e:i=id/\j=no
   ·obtain⟨rfl,rfl⟩:=e;rw[if_pos ⟨rfl,rfl⟩,hh]at dT
    cases dT
    have h0:=oh.tag.1;refine⟨{oh with un:=?_,ut:=?_,tag:=⟨?_,?_⟩,msg:=?_},λhi hw=>o.part _ _ h hh hi hw,h,hh,rfl,λe he=>?_⟩
    ·rw[ij,List.map_append,List.pairwise_append];refine⟨oh.un,al,λa ha b hb=>?_⟩;obtain⟨e,he,rfl⟩:=List.mem_map.1 ha;have h2:=oh.ut e he;simp only[List.map_cons,List.map_nil,List.mem_singleton]at hb;subst hb;omega
    ·intro e he;rw[ij]at he;rcases List.mem_append.1 he with he|he
     ·have:=oh.ut e he;show(e.1:Int)<=h.r.tag+1;omega
     ·simp only[List.mem_singleton]at he;subst he;show(((h.r.tag+1).toNat:Nat):Int)<=h.r.tag+1;omega
    ·show 0<=h.r.tag+1;omega
    ·show h.r.tag+1<=T+1;have:=oh.tag.2;omega
    ·intro e he;rw[ij]at he;rcases List.mem_append.1 he with he|he
     ·exact oh.msg e he
     ·simp only[List.mem_singleton]at he;subst he;exact hm
    ·rw[ij]at he;rcases List.mem_append.1 he with he|he
     ·exact .inl he
     ·simp only[List.mem_singleton]at he;subst he;exact .inr (by rw[hq];rfl)
   ·rw[if_neg e]at dT;exact⟨(o.h _ _ _ dT).mono aa,o.part _ _ _ dT,h',dT,rfl,λe he=>.inl he⟩
  ·rw[AB,jI];by_cases e:i=id/\j=no
   ·rw[if_pos e,hg];exact⟨_,rfl,rfl⟩
   ·rw[if_neg e];exact⟨g,hg,rfl⟩
  ·rw[uA,G8]at bz;by_cases e:cY=nm
   ·subst e;rw[if_pos rfl,hq]at bz
    cases bz
    refine⟨⟨?_,?_,?_,?_⟩,⟨?_,λs=>?_,λs hs=>?_⟩,q,hq,g3⟩
    ·have:=oq.lim;rw[hr]at this;simp only[g1,g2,List.length_cons]at this|-;omega
    ·simp only[g1];exact oq.jl.sublist jL
    ·simp only[g1];exactλm hm=>oq.msg m (jL.subset hm)
    ·simp only[g3];exact oq.cons
    ·show(g q).held+1=(((n.bB id no f).gS cY:Nat):Int);rw[C5,g2,oc.held,if_pos rfl];omega
    ·have:=oc.one s;show(((g q).ready.countP λm=>decide (m.seq=s))+(n.bB id no f).cnt cY s)<=1;rw[hr,List.countP_cons]at this;rw[xb,g1];simp only[decide_eq_true_eq,true_and]at this|-;omega
    ·have:=oc.no s hs;show(((g q).ready.countP λm=>decide (m.seq=s))+(n.bB id no f).cnt cY s)=0;rw[hr,List.countP_cons]at this;rw[xb,g1];simp only[decide_eq_true_eq,true_and]at this|-;omega
   ·rw[if_neg e]at bz;refine⟨o.q _ _ bz,(o.cnt _ _ bz).same ?_ (λs=>?_) rfl,q',bz,rfl⟩
    ·show(n.bB id no f).gS cY=_;rw[C5,if_neg λx=>e x.symm];omega
    ·show(n.bB id no f).cnt cY s=_;rw[xb,if_neg λx=>e x.1.symm];omega
end
theorem Ln(ms:List aX)(m:aX):(jh ms m).Perm ({m with again:=true}::ms):=by unfold jh;refine List.perm_middle.trans (List.Perm.cons _ ?_);rw[List.takeWhile_append_dropWhile]
theorem ai0{ms:List aX}(s:ms.Pairwise λa b=>a.seq<b.seq)(hm:∀x∈ms,x.seq≠m.seq):(jh ms m).Pairwise λa b=>a.seq<b.seq:=by
 unfold jh
 induction ms with
 |nil=>simp
 |cons a ms ih=>
  rw[List.pairwise_cons]at s;have ih:=ih s.2 λx hx=>hm x (by simp[hx]);by_cases h:a.seq<m.seq
  ·rw[List.takeWhile_cons_of_pos (aZ h),List.dropWhile_cons_of_pos (aZ h),List.cons_append,List.pairwise_cons];refine⟨λb hb=>?_,ih⟩;rcases List.mem_append.1 hb with hb|hb
   ·exact s.1 b ((List.takeWhile_sublist _).subset hb)
   ·rcases List.mem_cons.1 hb with rfl|hb
    ·exact h
    ·exact s.1 b ((List.dropWhile_sublist _).subset hb)
  ·rw[List.takeWhile_cons_of_neg (aZ h),List.dropWhile_cons_of_neg (aZ h),List.nil_append,List.pairwise_cons,List.pairwise_cons];have h1:m.seq<a.seq:=by have:=hm a al;omega
   refine⟨λb hb=>?_,s⟩;rcases List.mem_cons.1 hb with rfl|hb
   ·exact h1
   ·have:=s.1 b hb;show m.seq<b.seq;omega
section
variable {n:N}{no:Nat}{c:CN}{h:HN}{w:HN->Nat}{nm:List UInt8}{q:QN}{x:XN}{m:aX}{T:Int}{K:Nat}{ex:List Int}
variable {id:Int}
theorem Ok.settle (o:Ok T K ex n){tag:Nat}{b:Bool}:Ok T K ex (n.settle id no tag b):=by
 unfold N.settle
 cases hh:n.h? id no with
 |none=>exact o
 |some h=>
  cases hu:bu h.un tag with
  |none=>simp only[Option.bind_some,hu];exact o
  |some e=>
   obtain⟨nm,m⟩:=e;simp only[Option.bind_some,hu];have oh:=o.h _ _ _ hh;have pJ:=iJ hu;obtain⟨q,hq⟩:=Option.isSome_iff_exists.1 (o.w.un _ _ _ hh _ pJ);simp only at hq;have oq:=o.q _ _ hq;have oc:=o.cnt _ _ hq;have hm:BU m:=oh.msg _ pJ
   let f:HN->HN:=λh=>{h with un:=cF h.un tag}
   have tt:=λw:HN->Nat=>EG o hh f w;have ij:(f h).un=cF h.un tag:=rfl
   have C5:∀cY,(n.bB id no f).gS cY+(if nm=cY then 1 else 0)=n.gS cY:=λcY=>by have h1:=tt λh=>h.un.countP λe=>decide (e.2.1=cY);have h2:=OU (A9 oh.un) hu (λe=>decide (e.2.1=cY)) λ_ _ _=>rfl;simp only[ij]at h1;simp only[decide_eq_true_eq]at h2;unfold N.gS;omega
   have xb:∀cY s,(n.bB id no f).cnt cY s+(if nm=cY/\m.seq=s then 1 else 0)=n.cnt cY s:=λcY s=>by have h1:=tt λh=>h.un.countP λe=>decide (e.2.1=cY)&&decide (e.2.2.seq=s);have h2:=OU (A9 oh.un) hu (λe=>decide (e.2.1=cY)&&decide (e.2.2.seq=s)) λ_ _ _=>rfl;simp only[ij]at h1;simp only[Bool.and_eq_true,decide_eq_true_eq]at h2;unfold N.cnt;omega
   have Kz:((n.bB id no f).ei λh=>h.co.length)=n.ei λh=>h.co.length:=by have:=tt λh=>h.co.length;have e:(f h).co=h.co:=rfl;rw[e]at this;omega
   refine o.of rfl (show(n.bB id no f).aF.map (·.1)=_ from qZ (f:=λc=>{c with ch:=dz c.ch no f})) (Bn (n:=n.bB id no f)) rfl rfl rfl o.gF (Int.le_refl _) (Ca o) (λi j h' dT=>?_) (λi j g hg=>?_) (λcY q' bz=>?_) Kz
   ·rw[AB,jI]at dT;by_cases e:i=id/\j=no
    ·obtain⟨rfl,rfl⟩:=e;rw[if_pos ⟨rfl,rfl⟩,hh]at dT
     cases dT
     have jL:(cF h.un tag).Sublist h.un:=List.filter_sublist;exact⟨{oh with un:=oh.un.sublist (jL.map _),ut:=λe he=>oh.ut e (jL.subset he),msg:=λe he=>oh.msg e (jL.subset he)},λhi hw=>o.part _ _ h hh hi hw,h,hh,rfl,λe he=>.inl (jL.subset he)⟩
    ·rw[if_neg e]at dT;exact⟨o.h _ _ _ dT,o.part _ _ _ dT,h',dT,rfl,λe he=>.inl he⟩
   ·rw[AB,jI];by_cases e:i=id/\j=no
    ·rw[if_pos e,hg];exact⟨_,rfl,rfl⟩
    ·rw[if_neg e];exact⟨g,hg,rfl⟩
   ·rw[uA,G8]at bz;by_cases e:cY=nm
    ·subst e;rw[if_pos rfl,hq]at bz
     cases bz
     have cB:∀s,((if b=true then jh q.ready m else q.ready).countP λm=>decide (m.seq=s))+(n.bB id no f).cnt cY s<=(q.ready.countP λm=>decide (m.seq=s))+n.cnt cY s:=λs=>by
      have h3:=xb cY s;simp only[true_and]at h3
      cases b with
      |false=>simp only[Bool.false_eq_true,if_false];omega
      |true=>
       simp only[if_true];rw[(Ln q.ready m).countP_eq,List.countP_cons];simp only[decide_eq_true_eq];omega
     refine⟨⟨?_,?_,?_,oq.cons⟩,⟨?_,λs=>Nat.le_trans (cB s) (oc.one s),λs hs=>Nat.le_zero.1 (Nat.le_trans (cB s) (Nat.le_of_eq (oc.no s hs)))⟩,q,hq,rfl⟩
     ·have:=oq.lim
      cases b with
      |false=>simp only[Bool.false_eq_true,if_false];omega
      |true=>simp only[if_true];rw[(Ln q.ready m).length_eq,List.length_cons];omega
     ·cases b with
      |false=>simp only[Bool.false_eq_true,if_false];exact oq.jl
      |true=>
       simp only[if_true];refine ai0 oq.jl λy hy e=>?_;have h1:=oc.one m.seq;have h2:0<q.ready.countP λx=>decide (x.seq=m.seq):=List.countP_pos_iff.2 ⟨y,hy,by simpa using e⟩;have h3:=xb cY m.seq;simp only[true_and,if_true]at h3;omega
     ·cases b with
      |false=>simp only[Bool.false_eq_true,if_false];exact oq.msg
      |true=>
       simp only[if_true];intro y hy;rcases List.mem_cons.1 ((Ln q.ready m).mem_iff.1 hy)with rfl|hy
       ·exact⟨hm.body,hm.key⟩
       ·exact oq.msg y hy
     ·show q.held-1=(((n.bB id no f).gS cY:Nat):Int);have:=C5 cY;rw[if_pos rfl]at this;rw[oc.held];omega
    ·rw[if_neg e]at bz;refine⟨o.q _ _ bz,(o.cnt _ _ bz).same ?_ (λs=>?_) rfl,q',bz,rfl⟩
     ·show(n.bB id no f).gS cY=_;have:=C5 cY;rw[if_neg λx=>e x.symm]at this;omega
     ·show(n.bB id no f).cnt cY s=_;have:=xb cY s;rw[if_neg λx=>e x.1.symm]at this;omega
theorem Ok.kE (o:Ok T K ex n){l:List (Nat×(List UInt8×aX))}:Ok T K ex (n.kE id no l):=by
 unfold N.kE
 induction l generalizing n with
 |nil=>exact o
 |cons e l ih=>exact ih o.settle
theorem Ok.jx (o:Ok T K ex n){p:Nat->Bool}{b:Bool}{l:List (Nat×(List UInt8×aX))}:Ok T K ex (n.jx id no p b l):=by
 unfold N.jx
 induction l generalizing n with
 |nil=>exact o
 |cons e l ih=>
  rw[List.foldl_cons];split
  ·exact ih o.settle
  ·exact ih o
theorem Ok.j7 (o:Ok T K ex n){key body:List UInt8}(hk:key.length<=255)(hb:body.length<=10000):Ok (T+1) K ex (n.j7 key body).1:=by
 unfold N.j7
 cases hq:n.q? key with
 |none=>exact o.mono aa (Nat.le_refl _)
 |some q=>
  simp only[];split
  ·exact o.mono aa (Nat.le_refl _)
  ·rename_i fM;have oq:=o.q _ _ hq;have oc:=o.cnt _ _ hq;have Ge:=o.gF.1;refine o.of rfl rfl (Bn (n:={n with messages:=n.messages+1})) rfl rfl rfl ⟨by show 0<=n.messages+1;omega,by have:=o.gF.2;show n.messages+1<=T+1;omega⟩ aa o.c (λi j h' dT=>⟨(o.h _ _ _ dT).mono aa,o.part _ _ _ dT,h',dT,rfl,λe he=>.inl he⟩) (λi j g hg=>⟨g,hg,rfl⟩) (λcY q' bz=>?_) rfl;rw[uA]at bz;have Km:∀i,N.q? {n with messages:=n.messages+1} i=n.q? i:=λ_=>rfl;rw[Km]at bz;by_cases e:cY=key
   ·subst e;rw[if_pos rfl,hq]at bz
    cases bz
    have hold:∀y∈q.ready,y.seq<=n.messages:=λy hy=>by
     by_cases RU:n.messages<y.seq
     ·have h1:=oc.no _ RU;have h2:0<q.ready.countP λx=>decide (x.seq=y.seq):=List.countP_pos_iff.2 ⟨y,hy,al⟩;omega
     ·omega
    refine⟨⟨?_,?_,λy hy=>?_,oq.cons⟩,⟨oc.held,λs=>?_,λs hs=>?_⟩,q,hq,rfl⟩
    ·simp only[List.length_append,List.length_cons,List.length_nil];omega
    ·simp only[];rw[List.pairwise_append];refine⟨oq.jl,al,λa ha b hb=>?_⟩;simp only[List.mem_singleton]at hb;subst hb;have:=hold a ha;show a.seq<n.messages+1;omega
    ·rcases List.mem_append.1 hy with hy|hy
     ·exact oq.msg y hy
     ·simp only[List.mem_singleton]at hy;subst hy;exact⟨hb,hk⟩
    ·show((q.ready++[(⟨n.messages+1,cY,body,false⟩:aX)]).countP λm=>decide (m.seq=s))+n.cnt cY s<=1;rw[List.countP_append,List.countP_singleton];simp only[decide_eq_true_eq];have h1:=oc.one s;by_cases e:n.messages+1=s
     ·have:=oc.no s aa;rw[if_pos e];omega
     ·rw[if_neg e];omega
    ·show((q.ready++[(⟨n.messages+1,cY,body,false⟩:aX)]).countP λm=>decide (m.seq=s))+n.cnt cY s=0;have cQ:n.messages+1<s:=hs;rw[List.countP_append,List.countP_singleton];simp only[decide_eq_true_eq];rw[if_neg aa];have:=oc.no s aa;omega
   ·rw[if_neg e]at bz;exact⟨o.q _ _ bz,⟨(o.cnt _ _ bz).held,(o.cnt _ _ bz).one,λs hs=>(o.cnt _ _ bz).no s (by have cQ:n.messages+1<s:=hs;omega)⟩,q',bz,rfl⟩
end
end Go.Qw
