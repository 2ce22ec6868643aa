/- 31 -/
import Derived.Test.YtpiabknabfbfhaaGreatDoorFramed30
set_option linter.all false
set_option maxRecDepth 100000
set_option maxHeartbeats 8000000
namespace Go.Qw
section
variable {β:Type}
variable {α:Type}[DecidableEq α]
def ni {l:List (α×β)}{k:α}{v:β}(nd:(l.map (·.1)).Nodup)(h:(k,v)∈l):bw l k=some v:=by
 induction l with
 |nil=>cases h
 |cons e l ih=>
  rw[List.map_cons,List.nodup_cons]at nd;unfold bw;rw[List.find?_cons];rcases List.mem_cons.1 h with rfl|h'
  ·simp
  ·have aE:¬e.1=k:=λx=>nd.1 (by rw[x];exact List.mem_map_of_mem (f:=(·.1)) h');simp only[aE,decide_false];exact ih nd.2 h'
def Ht {l:List (α×β)}{k:α}{v:β}(nd:(l.map (·.1)).Nodup)(h:bw l k=some v)(f:β->β)(g:β->Nat):
 ((dw l k f).map λe=>g e.2).sum+g v=(l.map λe=>g e.2).sum+g (f v):=by
 induction l with
 |nil=>cases h
 |cons e l ih=>
  rw[List.map_cons,List.nodup_cons]at nd;unfold bw at h;rw[List.find?_cons]at h;unfold dw at ih|-;rw[List.map_cons];by_cases he:e.1=k
  ·simp only[he,decide_true,Option.map_some]at h
   cases h
   have e2:(l.map λe=>if e.1=k then(e.1,f e.2)else e)=l:=by
    have:(l.map λe=>if e.1=k then(e.1,f e.2)else e)=l.map λe=>e:=List.map_congr_left λa ha=>by rw[if_neg];intro x;exact nd.1 (by rw[he,<-x];exact List.mem_map_of_mem (f:=(·.1)) ha)
    rw[this,List.map_id']
   have e3:(List.map (λe=>g e.2) (e::l)).sum=g e.2+(l.map λe=>g e.2).sum:=by rw[List.map_cons,List.sum_cons]
   rw[if_pos he,e2,e3,List.map_cons,List.sum_cons];dsimp only;omega
  ·simp only[he,decide_false]at h;simp only[if_neg he,List.map_cons,List.sum_cons];have:=ih nd.2 h;omega
def MC {l:List (α×β)}{k:α}(f:β->β)(g:β->Nat)(hg:∀v,bw l k=some v->g (f v)=g v)(nd:(l.map (·.1)).Nodup):
 ((dw l k f).map λe=>g e.2).sum=(l.map λe=>g e.2).sum:=by
 cases h:bw l k with
 |some v=>have:=Ht nd h f g;have:=hg v h;omega
 |none=>
  have:dw l k f=l:=by
   unfold dw
   have:(l.map λe=>if e.1=k then(e.1,f e.2)else e)=l.map λe=>e:=List.map_congr_left λa ha=>by rw[if_neg (iF h a ha)]
   rw[this,List.map_id']
  rw[this]
def ao1 {lt:α->α->Bool}(l:List (α×β))(k:α)(v:β)(g:β->Nat):((cJ lt l k v).map λe=>g e.2).sum=(l.map λe=>g e.2).sum+g v:=by have:=((u0 (lt:=lt) l k v).map λe=>g e.2).sum_nat;rw[this];simp only[List.map_cons,List.sum_cons];omega
def ao0 {l:List (α×β)}{k:α}{v:β}(nd:(l.map (·.1)).Nodup)(h:bw l k=some v)(g:β->Nat):
 ((cH l k).map λe=>g e.2).sum+g v=(l.map λe=>g e.2).sum:=by
 induction l with
 |nil=>cases h
 |cons e l ih=>
  rw[List.map_cons,List.nodup_cons]at nd;unfold bw at h;rw[List.find?_cons]at h;unfold cH at ih|-;rw[List.filter_cons];by_cases he:e.1=k
  ·simp only[he,decide_true,Option.map_some]at h
   cases h
   have e2:(l.filter λe=>decide (e.1≠k))=l:=List.filter_eq_self.2 λa ha=>by simp only[ne_eq,decide_not,Bool.not_eq_eq_eq_not,Bool.not_true,decide_eq_false_iff_not];intro x;exact nd.1 (by rw[he,<-x];exact List.mem_map_of_mem (f:=(·.1)) ha)
   rw[if_neg (by simp[he]),e2];simp only[List.map_cons,List.sum_cons];omega
  ·simp only[he,decide_false]at h;have:=ih nd.2 h;rw[if_pos (by simp[he])];simp only[List.map_cons,List.sum_cons]at this|-;omega
omit [DecidableEq α]in
def Fg {lt:α->α->Bool}{l:List (α×β)}{k:α}{v:β}{e:α×β}:e∈cJ lt l k v↔e=(k,v)\/e∈l:=by rw[(u0 l k v).mem_iff,List.mem_cons]
def ND {lt:α->α->Bool}{l:List (α×β)}{k:α}{v:β}(nd:(l.map (·.1)).Nodup)(h:bw l k=none):((cJ lt l k v).map (·.1)).Nodup:=by rw[((u0 (lt:=lt) l k v).map (·.1)).nodup_iff,List.map_cons,List.nodup_cons];refine⟨λhm=>?_,nd⟩;obtain⟨e,he,hk⟩:=List.mem_map.1 hm;exact iF h e he hk
def NF {lt:α->α->Bool}(L:yj lt){l:List (α×β)}{k:α}{v:β}(s:dP lt (l.map (·.1))):dP lt ((cJ lt l k v).map (·.1)):=by
 unfold dP at s|-
 induction l with
 |nil=>simp[cJ]
 |cons e l ih=>
  rw[List.map_cons,List.pairwise_cons]at s;simp only[cJ];split
  ·rename_i aZ;rw[List.map_cons,List.map_cons,List.pairwise_cons,List.pairwise_cons];refine⟨λb hb=>?_,s⟩;rcases List.mem_cons.1 hb with rfl|hb
   ·exact L.asym aZ
   ·exact L.trans (L.asym aZ) (s.1 b hb)
  ·rename_i aZ;rw[List.map_cons,List.pairwise_cons];refine⟨λb hb=>?_,ih s.2⟩;obtain⟨x,hx,rfl⟩:=List.mem_map.1 hb;rcases Fg.1 hx with rfl|hx
   ·simpa using aZ
   ·exact s.1 _ (List.mem_map_of_mem hx)
def V5 {l:List (Nat×β)}{k:Nat}{v:β}(s:(l.map (·.1)).Pairwise (·<·))(h:bw l k=none):((cJ kK l k v).map (·.1)).Pairwise (·<·):=by
 induction l with
 |nil=>simp[cJ]
 |cons e l ih=>
  have FW:¬e.1=k:=iF h e ak
  have dZ:bw l k=none:=by unfold bw at h|-;simp only[List.find?_cons,FW,decide_false]at h;exact h
  rw[List.map_cons,List.pairwise_cons]at s;simp only[cJ];split
  ·rename_i aZ;have yV:k<e.1:=by simpa[kK]using aZ
   rw[List.map_cons,List.map_cons,List.pairwise_cons,List.pairwise_cons];refine⟨λb hb=>?_,s⟩;rcases List.mem_cons.1 hb with rfl|hb
   ·exact yV
   ·exact Nat.lt_trans yV (s.1 b hb)
  ·rename_i aZ
   have yV:e.1<k:=by have:¬k<e.1:=by simpa[kK]using aZ
                     omega
   rw[List.map_cons,List.pairwise_cons];refine⟨λb hb=>?_,ih s.2 dZ⟩;obtain⟨x,hx,rfl⟩:=List.mem_map.1 hb;rcases Fg.1 hx with rfl|hx
   ·exact yV
   ·exact s.1 _ (List.mem_map_of_mem hx)
omit [DecidableEq α]in
def LK [BEq α][LawfulBEq α]{l m:List α}(nd:l.Nodup)(h:∀a∈l,a∈m):l.length<=m.length:=by
 induction l generalizing m with
 |nil=>simp
 |cons a l ih=>
  rw[List.nodup_cons]at nd;have h1:a∈m:=h a ak;have:=ih (m:=m.erase a) nd.2 λb hb=>(List.mem_erase_of_ne (λe=>nd.1 (by rw[<-e];exact hb))).2 (h b (by simp[hb]));rw[List.length_erase_of_mem h1]at this;have:0<m.length:=List.length_pos_of_mem h1;simp only[List.length_cons];omega
end
def Bb{l:List Nat}(s:l.Pairwise (·<·)):l.Nodup:=s.imp λh=>Nat.ne_of_lt h
def ai6{l:List Int}(s:l.Pairwise (·<·)):l.Nodup:=s.imp λh=>Int.ne_of_lt h
variable {α:Type}{l:List α}{f:α->Nat}
def Hu{B:Nat}(h:∀a∈l,f a<=B):(l.map f).sum<=l.length*B:=by
 induction l with
 |nil=>simp
 |cons a l ih=>
  have h1:=h a ak;have h2:=ih λb hb=>h b (by simp[hb]);simp only[List.map_cons,List.sum_cons,List.length_cons,Nat.succ_mul];omega
def Lh{a:α}(h:a∈l):f a<=(l.map f).sum:=by
 induction l with
 |nil=>cases h
 |cons b l ih=>
  simp only[List.map_cons,List.sum_cons];rcases List.mem_cons.1 h with rfl|h
  ·omega
  ·have:=ih h;omega
def N.eu(n:N)(w:HN->Nat):Nat:=(n.aD.map λe=>(e.2.ch.map λg=>w g.2).sum).sum
def N.gY(n:N)(nm:List UInt8):Nat:=n.eu λh=>h.un.countP λe=>decide (e.2.1=nm)
def N.cnt(n:N)(nm:List UInt8)(s:Int):Nat:=n.eu λh=>h.un.countP λe=>decide (e.2.1=nm)&&decide (e.2.2.seq=s)
section
variable {n:N}{no:Nat}{c:CN}{h:HN}{w:HN->Nat}{nm:List UInt8}
variable {id:Int}
@[simp] def atf {f:QN->QN}:(n.bF nm f).eu w=n.eu w:=rfl
def MM (hs:(n.aD.map (·.1)).Nodup)(hc:n.ar id=some c)(f:CN->CN):
 (n.dn id f).eu w+(c.ch.map λg=>w g.2).sum=n.eu w+((f c).ch.map λg=>w g.2).sum:=
 Ht hs hc f λc=>(c.ch.map λg:Nat×HN=>w g.2).sum
def MN (hs:(n.aD.map (·.1)).Nodup){f:CR->CR}:(n.bC id f).eu w=n.eu w:=
 MC (f:=λc:CN=>{c with r:=f c.r}) (g:=λc:CN=>(c.ch.map λg:Nat×HN=>w g.2).sum) (λ_ _=>rfl) hs
def apD (hs:(n.aD.map (·.1)).Nodup)(hc:n.ar id=some c)(jQ:(c.ch.map (·.1)).Nodup)(hh:n.h? id no=some h)(f:HN->HN):
 (n.bA id no f).eu w+w h=n.eu w+w (f h):=by
 have h1:=MM (w:=w) hs hc λc=>{c with ch:=dw c.ch no f};have h2:=Ht jQ (CI hh hc) f w;simp only at h1;have e:(n.bA id no f)=n.dn id λc=>{c with ch:=dw c.ch no f}:=rfl;rw[e];omega
def Li (hh:n.h? id no=some h):w h<=n.eu w:=by obtain⟨c,hc⟩:=xd hh;have h1:w h<=(c.ch.map λg=>w g.2).sum:=Lh (f:=λg:Nat×HN=>w g.2) (gI (CI hh hc));have h2:(c.ch.map λg=>w g.2).sum<=n.eu w:=Lh (f:=λe:Int×CN=>(e.2.ch.map λg=>w g.2).sum) (gI hc);omega
end
variable {m:aQ}
structure BR (m:aQ):Prop where
 body:m.body.length<=10000
 key:m.key.length<=255
variable {h:HN}
structure zX (T:Int) (h:HN):Prop where
 un:(h.un.map (·.1)).Pairwise (·<·)
 ut:∀e∈h.un,(e.1:Int)<=h.r.tag
 tag:0<=h.r.tag/\h.r.tag<=T
 co:dP cN (h.co.map (·.1))
 cn:(h.co.map (·.1)).Nodup
 s6:h.co.length<=4
 want:0<=h.r.want/\h.r.want<=3
 body:h.r.body.length<=20000
 size:h.r.size<=10000
 key:h.r.key.length<=255
 msg:∀e∈h.un,BR e.2.2
structure BU (K:Nat) (r:CR):Prop where
 out:r.out.length<=K
 frame:64<=r.frame/\r.frame<=4096
 dm:r.dm<=8
variable {no:Nat}{c:CN}
structure zT (K:Nat) (c:CN):Prop where
 r:BU K c.r
 jq:(c.ch.map (·.1)).Pairwise (·<·)
 no:∀e∈c.ch,1<=e.1/\e.1<=8
variable {q:QN}
structure Nv (lim:Int) (q:QN):Prop where
 lim:(q.ready.length:Int)+q.held<=lim
 jq:q.ready.Pairwise λa b=>a.seq<b.seq
 msg:∀m∈q.ready,BR m
 cons:q.cons.Nodup
structure E5 (g:jZ):Prop where
 ok:Ng g
 queue:g.queue<=50
 amC:0<=g.queue
 body:g.body<=10000
 frame:64<=g.frame/\g.frame<=4096
 jc:g.jc<=8
variable {n:N}{nm:List UInt8}
structure wN (n:N) (nm:List UInt8) (q:QN):Prop where
 held:q.held=(n.gY nm:Int)
 one:∀s,(q.ready.countP λm=>decide (m.seq=s))+n.cnt nm s<=1
 no:∀s,n.messages<s->(q.ready.countP λm=>decide (m.seq=s))+n.cnt nm s=0
variable {w:HN->Nat}{k:Int}{x:XN}
structure Ok (T:Int) (K:Nat) (ex:List Int) (n:N):Prop where
 cfg:E5 n.cfg
 sc:(n.aD.map (·.1)).Pairwise (·<·)
 lc:n.aD.length<=4
 ids:∀id,(n.ar id).isSome->1<=id/\id<=n.last
 sq:dP cN (n.aL.map (·.1))
 nq:(n.aL.map (·.1)).Nodup
 lq:n.aL.length<=8
 w:Wf n
 c:∀id c,n.ar id=some c->zT K c
 h:∀id no h,n.h? id no=some h->zX T h
 part:∀id no h,n.h? id no=some h->id∉ex->h.r.want=3->(h.r.body.length:Int)<=h.r.size
 q:∀nm q,n.q? nm=some q->Nv n.cfg.queue q
 cnt:∀nm q,n.q? nm=some q->wN n nm q
 x:∀k x,n.x? k=some x->(1<=k/\k<=n.aY)/\x.tag.length<=8
 xn:(n.xs.map (·.1)).Nodup
 xl:n.xs.length<=n.eu λh=>h.co.length
 gE:0<=n.messages/\n.messages<=T
 aY:0<=n.aY/\n.aY<=T
 last:0<=n.last
section
variable {β:Type}{n:N}{no:Nat}{c:CN}{h:HN}{w:HN->Nat}{nm:List UInt8}{q:QN}{k:Int}{x:XN}{m:aQ}{n':N}{T:Int}{T':Int}{K:Nat}{K':Nat}{ex:List Int}{fD:List Int}
variable {id:Int}
def Ok.nc (o:Ok T K ex n):(n.aD.map (·.1)).Nodup:=ai6 o.sc
def zX.mono (o:zX T h)(ht:T<=T'):zX T' h:={o with tag:=⟨o.tag.1,Int.le_trans o.tag.2 ht⟩}
def BU.mono {r:CR}(o:BU K r)(hk:K<=K'):BU K' r:={o with out:=Nat.le_trans o.out hk}
def zT.mono (o:zT K c)(hk:K<=K'):zT K' c:={o with r:=o.r.mono hk}
def Ok.mono (o:Ok T K ex n)(ht:T<=T')(hk:K<=K'):Ok T' K' ex n:={o with
 c:=λid c hc=>(o.c id c hc).mono hk
 h:=λid no h hh=>(o.h id no h hh).mono ht
 gE:=⟨o.gE.1,Int.le_trans o.gE.2 ht⟩
 aY:=⟨o.aY.1,Int.le_trans o.aY.2 ht⟩}
def Ok.Px (o:Ok T K ex n)(hx:∀i∈ex,i∈fD):Ok T K fD n:={o with part:=λid no h hh hi=>o.part id no h hh λhm=>hi (hx _ hm)}
def lR {α β:Type}[DecidableEq α]{l:List (α×β)}{k:α}:(bw l k).isSome↔k∈l.map (·.1):=by
 constructor
 ·intro h;obtain⟨v,hv⟩:=Option.isSome_iff_exists.1 h;exact List.mem_map_of_mem (f:=(·.1)) (gI hv)
 ·intro h;obtain⟨e,he,rfl⟩:=List.mem_map.1 h
  cases hv:bw l e.1 with
  |none=>exact absurd rfl (iF hv e he)
  |some _=>rfl
def Wf.of (w:Wf n)(hx:∀k,n'.x? k=n.x? k)(hq:∀nm q',n'.q? nm=some q'->∃q,n.q? nm=some q/\q'.cons=q.cons)(gB:∀nm,(n.q? nm).isSome->(n'.q? nm).isSome)
 (hh:∀id no h',n'.h? id no=some h'->∃h,n.h? id no=some h/\h'.co=h.co/\∀e∈h'.un,e∈h.un\/(n.q? e.2.1).isSome) (fi:∀id no h,n.h? id no=some h->∃h',n'.h? id no=some h'/\h'.co=h.co):Wf n' where
 un:=λid no h' dW e he=>by obtain⟨h,h1,_,h3⟩:=hh _ _ _ dW;exact gB _ ((h3 e he).elim (λh4=>w.un _ _ _ h1 e h4) _root_.id)
 xq:=λk x hk=>gB _ (w.xq k x (by rw[<-hx];exact hk))
 xh:=λk x hk=>by obtain⟨h,h1,h2⟩:=w.xh k x (by rw[<-hx];exact hk);obtain⟨h',h3,h4⟩:=fi _ _ _ h1;exact⟨h',h3,by rw[h4];exact h2⟩
 co:=λid no h' dW e he=>by obtain⟨h,h1,h2,_⟩:=hh _ _ _ dW;obtain⟨x,h5⟩:=w.co _ _ _ h1 e (by rw[<-h2];exact he);exact⟨x,by rw[hx];exact h5⟩
 qc:=λnm q' bu k hk=>by obtain⟨q,h1,h2⟩:=hq _ _ bu;obtain⟨x,h5⟩:=w.qc _ _ h1 k (by rw[<-h2];exact hk);exact⟨x,by rw[hx];exact h5⟩
def Ok.of (o:Ok T K ex n)(QO:n'.cfg=n.cfg)(sH:n'.aD.map (·.1)=n.aD.map (·.1))(rJ:n'.aL.map (·.1)=n.aL.map (·.1))(KO:n'.xs=n.xs)(Rq:n'.aY=n.aY)(mi:n'.last=n.last)
 (hm:0<=n'.messages/\n'.messages<=T') (ht:T<=T')
 (hc:∀id c',n'.ar id=some c'->zT K' c')
 (hh:∀id no h',n'.h? id no=some h'->zX T' h'/\(id∉fD->h'.r.want=3->(h'.r.body.length:Int)<=h'.r.size)/\∃h,n.h? id no=some h/\h'.co=h.co/\∀e∈h'.un,e∈h.un\/(n.q? e.2.1).isSome)
 (fi:∀id no h,n.h? id no=some h->∃h',n'.h? id no=some h'/\h'.co=h.co)
 (hq:∀nm q',n'.q? nm=some q'->Nv n.cfg.queue q'/\wN n' nm q'/\∃q,n.q? nm=some q/\q'.cons=q.cons)
 (agc:(n'.eu λh=>h.co.length)=n.eu λh=>h.co.length):Ok T' K' fD n':=by
 have hx:∀k,n'.x? k=n.x? k:=λk=>by unfold N.x?;rw[KO]
 have lk:n'.aD.length=n.aD.length:=by have:=congrArg List.length sH;simpa using this
 have D1:n'.aL.length=n.aL.length:=by have:=congrArg List.length rJ;simpa using this
 exact{
  cfg:=by rw[QO];exact o.cfg
  sc:=by rw[sH];exact o.sc
  lc:=by rw[lk];exact o.lc
  ids:=λid hi=>by rw[mi];exact o.ids id (lR.2 (by rw[<-sH];exact lR.1 hi))
  sq:=by rw[rJ];exact o.sq
  nq:=by rw[rJ];exact o.nq
  lq:=by rw[D1];exact o.lq
  w:=o.w.of hx (λnm q' h1=>(hq nm q' h1).2.2) (λnm hi=>lR.2 (by rw[rJ];exact lR.1 hi)) (λid no h' h1=>(hh id no h' h1).2.2) fi
  c:=hc
  h:=λid no h' h1=>(hh id no h' h1).1
  part:=λid no h' h1=>(hh id no h' h1).2.1
  q:=λnm q' h1=>by rw[QO];exact(hq nm q' h1).1
  cnt:=λnm q' h1=>(hq nm q' h1).2.1
  x:=λk x hk=>by rw[Rq];exact o.x k x (by rw[<-hx];exact hk)
  xn:=by rw[KO];exact o.xn
  xl:=by rw[KO,agc];exact o.xl
  gE:=hm
  aY:=by rw[Rq];exact⟨o.aY.1,Int.le_trans o.aY.2 ht⟩
  last:=by rw[mi];exact o.last}
def rn {f:CN->CN}:(n.dn id f).aD.map (·.1)=n.aD.map (·.1):=oE _ _ _ λx=>x
def Bq {f:QN->QN}:(n.bF nm f).aL.map (·.1)=n.aL.map (·.1):=oE _ _ _ λx=>x
def wN.same (o:wN n nm q)(h1:n'.gY nm=n.gY nm)(h2:∀s,n'.cnt nm s=n.cnt nm s)(h3:n'.messages=n.messages):wN n' nm q:=
 ⟨by rw[h1];exact o.held,λs=>by rw[h2];exact o.one s,λs hs=>by rw[h2];exact o.no s (by rw[<-h3];exact hs)⟩
def Ok.bC (o:Ok T K ex n){f:CR->CR}(hk:K<=K')(hf:∀c,n.ar id=some c->BU K' (f c.r)):Ok T K' ex (n.bC id f):=by
 refine o.of rfl rn rfl rfl rfl rfl o.gE (Int.le_refl _) (λi c' cF=>?_) (λi no h' dW=>?_) (λi no h hh=>⟨h,by rw[JM];exact hh,rfl⟩) (λnm q' bu=>⟨o.q nm q' bu,(o.cnt nm q' bu).same (MN o.nc) (λs=>MN o.nc) rfl,q',bu,rfl⟩) (MN o.nc)
 ·rw[qm]at cF;by_cases e:i=id
  ·subst e;rw[if_pos rfl]at cF;obtain⟨c,hc,rfl⟩:=Option.map_eq_some_iff.1 cF;exact⟨hf c hc,(o.c i c hc).jq,(o.c i c hc).no⟩
  ·rw[if_neg e]at cF;exact(o.c i c' cF).mono hk
 ·rw[JM]at dW;exact⟨o.h _ _ _ dW,o.part _ _ _ dW,h',dW,rfl,λe he=>.inl he⟩
def Ok.send (o:Ok T K ex n){s:List UInt8}:Ok T (K+s.length) ex (n.send id s):=
 o.bC aa λc hc=>⟨by have:=(o.c id c hc).r.out;simp only[List.length_append];omega,(o.c id c hc).r.frame,(o.c id c hc).r.dm⟩
def yx (hc:n.ar id=some c)(o:Ok T K ex n):(c.ch.map (·.1)).Nodup:=Bb (o.c id c hc).jq
def EL (o:Ok T K ex n)(hh:n.h? id no=some h)(f:HN->HN)(w:HN->Nat):(n.bA id no f).eu w+w h=n.eu w+w (f h):=by obtain⟨c,hc⟩:=xd hh;exact apD o.nc hc (yx hc o) hh f
def B9 (o:Ok T K ex n){f:HN->HN}:∀i c',(n.bA id no f).ar i=some c'->zT K c':=λi c' cF=>by
 rw[vl]at cF;by_cases e:i=id
 ·subst e;rw[if_pos rfl]at cF;obtain⟨c,hc,rfl⟩:=Option.map_eq_some_iff.1 cF;have hk:(dw c.ch no f).map (·.1)=c.ch.map (·.1):=oE _ _ _ λx=>x;refine⟨(o.c i c hc).r,by simp only;rw[hk];exact(o.c i c hc).jq,λe he=>?_⟩;have:e.1∈c.ch.map (·.1):=by rw[<-hk];exact List.mem_map_of_mem (f:=(·.1)) he
  obtain⟨e',fT,h2⟩:=List.mem_map.1 this;rw[<-h2];exact(o.c i c hc).no e' fT
 ·rw[if_neg e]at cF;exact o.c i c' cF
def Ok.cf (o:Ok T K ex n){f:HR->HR}(hh:n.h? id no=some h)(hf:zX T' {h with r:=f h.r})(ht:T<=T')(hp:id∉fD->(f h.r).want=3->((f h.r).body.length:Int)<=(f h.r).size)(hx:∀i∈ex,i∈fD):Ok T' K fD (n.cf id no f):=by
 have key:∀w:HN->Nat,(∀h,w {h with r:=f h.r}=w h)->(n.cf id no f).eu w=n.eu w:=λw hw=>by have:=EL o hh (λh=>{h with r:=f h.r}) w;rw[hw h]at this;have e:n.cf id no f=n.bA id no λh=>{h with r:=f h.r}:=rfl;rw[e];omega
 refine o.of rfl rn rfl rfl rfl rfl ⟨o.gE.1,Int.le_trans o.gE.2 ht⟩ ht (B9 o) (λi j h' dW=>?_) (λi j g hg=>?_) (λnm q' bu=>⟨o.q nm q' bu,(o.cnt nm q' bu).same (key _ λ_=>rfl) (λs=>key _ λ_=>rfl) rfl,q',bu,rfl⟩) (key _ λ_=>rfl)
 ·rw[JL]at dW;by_cases e:i=id/\j=no
  ·obtain⟨rfl,rfl⟩:=e;rw[if_pos ⟨rfl,rfl⟩,hh]at dW
   cases dW
   exact⟨hf,hp,h,hh,rfl,λe he=>.inl he⟩
  ·rw[if_neg e]at dW;exact⟨(o.h _ _ _ dW).mono ht,λhi=>o.part _ _ _ dW λhm=>hi (hx _ hm),h',dW,rfl,λe he=>.inl he⟩
 ·rw[JL];by_cases e:i=id/\j=no
  ·rw[if_pos e,hg];exact⟨_,rfl,rfl⟩
  ·rw[if_neg e];exact⟨g,hg,rfl⟩
def Ok.bF (o:Ok T K ex n){f:QN->QN}(hf:∀q,n.q? nm=some q->(f q).ready.Sublist q.ready/\(f q).held=q.held/\(f q).cons=q.cons):Ok T K ex (n.bF nm f):=by
 refine o.of rfl rfl Bq rfl rfl rfl o.gE (Int.le_refl _) o.c (λi j h' dW=>⟨o.h _ _ _ dW,o.part _ _ _ dW,h',dW,rfl,λe he=>.inl he⟩) (λi j h hh=>⟨h,hh,rfl⟩) (λda q' bu=>?_) rfl;rw[uH]at bu;by_cases e:da=nm
 ·rw[if_pos e]at bu;obtain⟨q,hq,rfl⟩:=Option.map_eq_some_iff.1 bu;obtain⟨f1,f2,f3⟩:=hf q (by rw[<-e];exact hq);have oq:=o.q _ _ hq;have oc:=o.cnt _ _ hq;refine⟨⟨?_,oq.jq.sublist f1,λm hm=>oq.msg m (f1.subset hm),by rw[f3];exact oq.cons⟩,⟨by rw[f2];exact oc.held,λs=>?_,λs hs=>?_⟩,q,hq,f3⟩
  ·have:=f1.length_le;have:=oq.lim;rw[f2];omega
  ·have:=f1.countP_le (p:=λm=>decide (m.seq=s));have h2:=oc.one s;exact Nat.le_trans (Nat.add_le_add_right this _) h2
  ·have:=f1.countP_le (p:=λm=>decide (m.seq=s));have h2:=oc.no s hs;exact Nat.le_zero.1 (Nat.le_trans (Nat.add_le_add_right this _) (Nat.le_of_eq h2))
 ·rw[if_neg e]at bu;exact⟨o.q _ _ bu,(o.cnt _ _ bu).same rfl (λ_=>rfl) rfl,q',bu,rfl⟩
end
section
variable {β:Type}{n:N}{no:Nat}{c:CN}{h:HN}{w:HN->Nat}{nm:List UInt8}{q:QN}{k:Int}{x:XN}{m:aQ}{T:Int}{T':Int}{K:Nat}{ex:List Int}
variable {id:Int}
def O0 {β:Type}{l:List (Nat×β)}{k:Nat}{v:β}(s:(l.map (·.1)).Nodup)(h:bw l k=some v)(p:Nat×β->Bool)(hp:∀a b v,p (a,v)=p (b,v)):
 (cH l k).countP p+(if p (k,v)then 1 else 0)=l.countP p:=by
 have key:∀l:List (Nat×β),l.countP p=(l.map λe=>(λv=>if p (0,v)then 1 else 0) e.2).sum:=λl=>by
  induction l with
  |nil=>rfl
  |cons e l ih=>
   rw[List.countP_cons,ih,List.map_cons,List.sum_cons];have:p (0,e.2)=p e:=hp 0 e.1 e.2
   dsimp only
   rw[this];omega
 have:=ao0 s h λv=>if p (0,v)then 1 else 0;rw[key,key,hp k 0 v];exact this
def Ok.hand (o:Ok T K ex n){ms:List aQ}{g:QN->QN}{na:Bool}(hh:n.h? id no=some h)(hq:n.q? nm=some q)(hr:q.ready=m::ms)(hg:(g q).ready=ms/\(g q).held=q.held/\(g q).cons=q.cons):
 Ok (T+1) K ex ((n.bF nm g).hand id no nm m na):=by
 have oq:=o.q _ _ hq;have oc:=o.cnt _ _ hq;have oh:=o.h _ _ _ hh;have hm:BR m:=oq.msg m (by rw[hr];simp);have jT:ms.Sublist q.ready:=by rw[hr];exact List.sublist_cons_self _ _
 obtain⟨g1,g2,g3⟩:=hg
 cases na with
 |true=>
  have o1:Ok T K ex (n.bF nm g):=by
   exact o.bF λq' bu=>by
    rw[hq]at bu;cases bu
    exact⟨by rw[g1];exact jT,g2,g3⟩
  have mR:(n.bF nm g).h? id no=some h:=hh;unfold N.hand;rw[if_pos rfl];exact o1.cf mR (T':=T+1) {oh with ut:=λe he=>by have:=oh.ut e he;simp only;omega,tag:=⟨by have:=oh.tag.1;simp only;omega,by have:=oh.tag.2;simp only;omega⟩} aa (λhi=>o.part _ _ _ hh hi) λ_ hi=>hi
 |false=>
  let f:HN->HN:=λh=>{h with r:={h.r with tag:=h.r.tag+1},un:=h.un++[((h.r.tag+1).toNat,(nm,m))]}
  have e1:(n.bF nm g).hand id no nm m false=(n.bA id no f).bF nm λq=>{g q with held:=(g q).held+1}:=by unfold N.hand;rw[if_neg ak];have:(n.bF nm g).bA id no f=(n.bA id no f).bF nm g:=rfl;rw[this,EM]
  rw[e1];have tt:=λw:HN->Nat=>EL o hh f w;have ir:(f h).un=h.un++[((h.r.tag+1).toNat,(nm,m))]:=rfl
  have C9:∀da,(n.bA id no f).gY da=n.gY da+(if nm=da then 1 else 0):=λda=>by have:=tt λh=>h.un.countP λe=>decide (e.2.1=da);rw[ir,List.countP_append,List.countP_singleton]at this;unfold N.gY;simp only[decide_eq_true_eq]at this;omega
  have xf:∀da s,(n.bA id no f).cnt da s=n.cnt da s+(if nm=da/\m.seq=s then 1 else 0):=λda s=>by have:=tt λh=>h.un.countP λe=>decide (e.2.1=da)&&decide (e.2.2.seq=s);rw[ir,List.countP_append,List.countP_singleton]at this;unfold N.cnt;simp only[Bool.and_eq_true,decide_eq_true_eq]at this;omega
  have KH:((n.bA id no f).eu λh=>h.co.length)=n.eu λh=>h.co.length:=by have:=tt λh=>h.co.length;have e:(f h).co=h.co:=rfl;rw[e]at this;omega
  refine o.of rfl (show(n.bA id no f).aD.map (·.1)=_ from rn (f:=λc=>{c with ch:=dw c.ch no f})) (Bq (n:=n.bA id no f)) rfl rfl rfl ⟨o.gE.1,by have:=o.gE.2;show n.messages<=T+1;omega⟩ aa (B9 o) (λi j h' dW=>?_) (λi j g hg=>?_) (λda q' bu=>?_) KH
  ·rw[AB,jN]at dW;by_cases e:i=id/\j=no
   ·obtain⟨rfl,rfl⟩:=e;rw[if_pos ⟨rfl,rfl⟩,hh]at dW
    cases dW
    have h0:=oh.tag.1;refine⟨{oh with un:=?_,ut:=?_,tag:=⟨?_,?_⟩,msg:=?_},λhi hw=>o.part _ _ h hh hi hw,h,hh,rfl,λe he=>?_⟩
    ·rw[ir,List.map_append,List.pairwise_append];refine⟨oh.un,ak,λa ha b hb=>?_⟩;obtain⟨e,he,rfl⟩:=List.mem_map.1 ha;have h2:=oh.ut e he;simp only[List.map_cons,List.map_nil,List.mem_singleton]at hb;subst hb;omega
    ·intro e he;rw[ir]at he;rcases List.mem_append.1 he with he|he
     ·have:=oh.ut e he;show(e.1:Int)<=h.r.tag+1;omega
     ·simp only[List.mem_singleton]at he;subst he;show(((h.r.tag+1).toNat:Nat):Int)<=h.r.tag+1;omega
    ·show 0<=h.r.tag+1;omega
    ·show h.r.tag+1<=T+1;have:=oh.tag.2;omega
    ·intro e he;rw[ir]at he;rcases List.mem_append.1 he with he|he
     ·exact oh.msg e he
     ·simp only[List.mem_singleton]at he;subst he;exact hm
    ·rw[ir]at he;rcases List.mem_append.1 he with he|he
     ·exact .inl he
     ·simp only[List.mem_singleton]at he;subst he;exact .inr (by rw[hq];rfl)
   ·rw[if_neg e]at dW;exact⟨(o.h _ _ _ dW).mono aa,o.part _ _ _ dW,h',dW,rfl,λe he=>.inl he⟩
  ·rw[AB,jN];by_cases e:i=id/\j=no
   ·rw[if_pos e,hg];exact⟨_,rfl,rfl⟩
   ·rw[if_neg e];exact⟨g,hg,rfl⟩
  ·rw[uH,Ha]at bu;by_cases e:da=nm
   ·subst e;rw[if_pos rfl,hq]at bu
    cases bu
    refine⟨⟨?_,?_,?_,?_⟩,⟨?_,λs=>?_,λs hs=>?_⟩,q,hq,g3⟩
    ·have:=oq.lim;rw[hr]at this;simp only[g1,g2,List.length_cons]at this|-;omega
    ·simp only[g1];exact oq.jq.sublist jT
    ·simp only[g1];exactλm hm=>oq.msg m (jT.subset hm)
    ·simp only[g3];exact oq.cons
    ·show(g q).held+1=(((n.bA id no f).gY da:Nat):Int);rw[C9,g2,oc.held,if_pos rfl];omega
    ·have:=oc.one s;show(((g q).ready.countP λm=>decide (m.seq=s))+(n.bA id no f).cnt da s)<=1;rw[hr,List.countP_cons]at this;rw[xf,g1];simp only[decide_eq_true_eq,true_and]at this|-;omega
    ·have:=oc.no s hs;show(((g q).ready.countP λm=>decide (m.seq=s))+(n.bA id no f).cnt da s)=0;rw[hr,List.countP_cons]at this;rw[xf,g1];simp only[decide_eq_true_eq,true_and]at this|-;omega
   ·rw[if_neg e]at bu;refine⟨o.q _ _ bu,(o.cnt _ _ bu).same ?_ (λs=>?_) rfl,q',bu,rfl⟩
    ·show(n.bA id no f).gY da=_;rw[C9,if_neg λx=>e x.symm];omega
    ·show(n.bA id no f).cnt da s=_;rw[xf,if_neg λx=>e x.1.symm];omega
end
def Lu(ms:List aQ)(m:aQ):(iR ms m).Perm ({m with again:=true}::ms):=by unfold iR;refine List.perm_middle.trans (List.Perm.cons _ ?_);rw[List.takeWhile_append_dropWhile]
def ajj{ms:List aQ}(s:ms.Pairwise λa b=>a.seq<b.seq)(hm:∀x∈ms,x.seq≠m.seq):(iR ms m).Pairwise λa b=>a.seq<b.seq:=by
 unfold iR
 induction ms with
 |nil=>simp
 |cons a ms ih=>
  rw[List.pairwise_cons]at s;have ih:=ih s.2 λx hx=>hm x (by simp[hx]);by_cases h:a.seq<m.seq
  ·rw[List.takeWhile_cons_of_pos (aV h),List.dropWhile_cons_of_pos (aV h),List.cons_append,List.pairwise_cons];refine⟨λb hb=>?_,ih⟩;rcases List.mem_append.1 hb with hb|hb
   ·exact s.1 b ((List.takeWhile_sublist _).subset hb)
   ·rcases List.mem_cons.1 hb with rfl|hb
    ·exact h
    ·exact s.1 b ((List.dropWhile_sublist _).subset hb)
  ·rw[List.takeWhile_cons_of_neg (aV h),List.dropWhile_cons_of_neg (aV h),List.nil_append,List.pairwise_cons,List.pairwise_cons];have h1:m.seq<a.seq:=by have:=hm a ak;omega
   refine⟨λb hb=>?_,s⟩;rcases List.mem_cons.1 hb with rfl|hb
   ·exact h1
   ·have:=s.1 b hb;show m.seq<b.seq;omega
section
variable {n:N}{no:Nat}{c:CN}{h:HN}{w:HN->Nat}{nm:List UInt8}{q:QN}{x:XN}{m:aQ}{T:Int}{K:Nat}{ex:List Int}
variable {id:Int}
def Ok.settle (o:Ok T K ex n){tag:Nat}{b:Bool}:Ok T K ex (n.settle id no tag b):=by
 unfold N.settle
 cases hh:n.h? id no with
 |none=>exact o
 |some h=>
  cases hu:bw h.un tag with
  |none=>simp only[Option.bind_some,hu];exact o
  |some e=>
   obtain⟨nm,m⟩:=e;simp only[Option.bind_some,hu];have oh:=o.h _ _ _ hh;have pS:=gI hu;obtain⟨q,hq⟩:=Option.isSome_iff_exists.1 (o.w.un _ _ _ hh _ pS);simp only at hq;have oq:=o.q _ _ hq;have oc:=o.cnt _ _ hq;have hm:BR m:=oh.msg _ pS
   let f:HN->HN:=λh=>{h with un:=cH h.un tag}
   have tt:=λw:HN->Nat=>EL o hh f w;have ir:(f h).un=cH h.un tag:=rfl
   have C9:∀da,(n.bA id no f).gY da+(if nm=da then 1 else 0)=n.gY da:=λda=>by have h1:=tt λh=>h.un.countP λe=>decide (e.2.1=da);have h2:=O0 (Bb oh.un) hu (λe=>decide (e.2.1=da)) λ_ _ _=>rfl;simp only[ir]at h1;simp only[decide_eq_true_eq]at h2;unfold N.gY;omega
   have xf:∀da s,(n.bA id no f).cnt da s+(if nm=da/\m.seq=s then 1 else 0)=n.cnt da s:=λda s=>by have h1:=tt λh=>h.un.countP λe=>decide (e.2.1=da)&&decide (e.2.2.seq=s);have h2:=O0 (Bb oh.un) hu (λe=>decide (e.2.1=da)&&decide (e.2.2.seq=s)) λ_ _ _=>rfl;simp only[ir]at h1;simp only[Bool.and_eq_true,decide_eq_true_eq]at h2;unfold N.cnt;omega
   have KH:((n.bA id no f).eu λh=>h.co.length)=n.eu λh=>h.co.length:=by have:=tt λh=>h.co.length;have e:(f h).co=h.co:=rfl;rw[e]at this;omega
   refine o.of rfl (show(n.bA id no f).aD.map (·.1)=_ from rn (f:=λc=>{c with ch:=dw c.ch no f})) (Bq (n:=n.bA id no f)) rfl rfl rfl o.gE (Int.le_refl _) (B9 o) (λi j h' dW=>?_) (λi j g hg=>?_) (λda q' bu=>?_) KH
   ·rw[AB,jN]at dW;by_cases e:i=id/\j=no
    ·obtain⟨rfl,rfl⟩:=e;rw[if_pos ⟨rfl,rfl⟩,hh]at dW
     cases dW
     have jT:(cH h.un tag).Sublist h.un:=List.filter_sublist;exact⟨{oh with un:=oh.un.sublist (jT.map _),ut:=λe he=>oh.ut e (jT.subset he),msg:=λe he=>oh.msg e (jT.subset he)},λhi hw=>o.part _ _ h hh hi hw,h,hh,rfl,λe he=>.inl (jT.subset he)⟩
    ·rw[if_neg e]at dW;exact⟨o.h _ _ _ dW,o.part _ _ _ dW,h',dW,rfl,λe he=>.inl he⟩
   ·rw[AB,jN];by_cases e:i=id/\j=no
    ·rw[if_pos e,hg];exact⟨_,rfl,rfl⟩
    ·rw[if_neg e];exact⟨g,hg,rfl⟩
   ·rw[uH,Ha]at bu;by_cases e:da=nm
    ·subst e;rw[if_pos rfl,hq]at bu
     cases bu
     have cG:∀s,((if b=true then iR q.ready m else q.ready).countP λm=>decide (m.seq=s))+(n.bA id no f).cnt da s<=(q.ready.countP λm=>decide (m.seq=s))+n.cnt da s:=λs=>by
      have h3:=xf da s;simp only[true_and]at h3
      cases b with
      |false=>simp only[Bool.false_eq_true,if_false];omega
      |true=>
       simp only[if_true];rw[(Lu q.ready m).countP_eq,List.countP_cons];simp only[decide_eq_true_eq];omega
     refine⟨⟨?_,?_,?_,oq.cons⟩,⟨?_,λs=>Nat.le_trans (cG s) (oc.one s),λs hs=>Nat.le_zero.1 (Nat.le_trans (cG s) (Nat.le_of_eq (oc.no s hs)))⟩,q,hq,rfl⟩
     ·have:=oq.lim
      cases b with
      |false=>simp only[Bool.false_eq_true,if_false];omega
      |true=>simp only[if_true];rw[(Lu q.ready m).length_eq,List.length_cons];omega
     ·cases b with
      |false=>simp only[Bool.false_eq_true,if_false];exact oq.jq
      |true=>
       simp only[if_true];refine ajj oq.jq λy hy e=>?_;have h1:=oc.one m.seq;have h2:0<q.ready.countP λx=>decide (x.seq=m.seq):=List.countP_pos_iff.2 ⟨y,hy,by simpa using e⟩;have h3:=xf da m.seq;simp only[true_and,if_true]at h3;omega
     ·cases b with
      |false=>simp only[Bool.false_eq_true,if_false];exact oq.msg
      |true=>
       simp only[if_true];intro y hy;rcases List.mem_cons.1 ((Lu q.ready m).mem_iff.1 hy)with rfl|hy
       ·exact⟨hm.body,hm.key⟩
       ·exact oq.msg y hy
     ·show q.held-1=(((n.bA id no f).gY da:Nat):Int);have:=C9 da;rw[if_pos rfl]at this;rw[oc.held];omega
    ·rw[if_neg e]at bu;refine⟨o.q _ _ bu,(o.cnt _ _ bu).same ?_ (λs=>?_) rfl,q',bu,rfl⟩
     ·show(n.bA id no f).gY da=_;have:=C9 da;rw[if_neg λx=>e x.symm]at this;omega
     ·show(n.bA id no f).cnt da s=_;have:=xf da s;rw[if_neg λx=>e x.1.symm]at this;omega
def Ok.kM (o:Ok T K ex n){l:List (Nat×(List UInt8×aQ))}:Ok T K ex (n.kM id no l):=by
 unfold N.kM
 induction l generalizing n with
 |nil=>exact o
 |cons e l ih=>exact ih o.settle
def Ok.jD (o:Ok T K ex n){p:Nat->Bool}{b:Bool}{l:List (Nat×(List UInt8×aQ))}:Ok T K ex (n.jD id no p b l):=by
 unfold N.jD
 induction l generalizing n with
 |nil=>exact o
 |cons e l ih=>
  rw[List.foldl_cons];split
  ·exact ih o.settle
  ·exact ih o
def Ok.iS (o:Ok T K ex n){key body:List UInt8}(hk:key.length<=255)(hb:body.length<=10000):Ok (T+1) K ex (n.iS key body).1:=by
 unfold N.iS
 cases hq:n.q? key with
 |none=>exact o.mono aa (Nat.le_refl _)
 |some q=>
  simp only[];split
  ·exact o.mono aa (Nat.le_refl _)
  ·rename_i fJ;have oq:=o.q _ _ hq;have oc:=o.cnt _ _ hq;have Gg:=o.gE.1;refine o.of rfl rfl (Bq (n:={n with messages:=n.messages+1})) rfl rfl rfl ⟨by show 0<=n.messages+1;omega,by have:=o.gE.2;show n.messages+1<=T+1;omega⟩ aa o.c (λi j h' dW=>⟨(o.h _ _ _ dW).mono aa,o.part _ _ _ dW,h',dW,rfl,λe he=>.inl he⟩) (λi j g hg=>⟨g,hg,rfl⟩) (λda q' bu=>?_) rfl;rw[uH]at bu;have Ky:∀i,N.q? {n with messages:=n.messages+1} i=n.q? i:=λ_=>rfl;rw[Ky]at bu;by_cases e:da=key
   ·subst e;rw[if_pos rfl,hq]at bu
    cases bu
    have hold:∀y∈q.ready,y.seq<=n.messages:=λy hy=>by
     by_cases RX:n.messages<y.seq
     ·have h1:=oc.no _ RX;have h2:0<q.ready.countP λx=>decide (x.seq=y.seq):=List.countP_pos_iff.2 ⟨y,hy,ak⟩;omega
     ·omega
    refine⟨⟨?_,?_,λy hy=>?_,oq.cons⟩,⟨oc.held,λs=>?_,λs hs=>?_⟩,q,hq,rfl⟩
    ·simp only[List.length_append,List.length_cons,List.length_nil];omega
    ·simp only[];rw[List.pairwise_append];refine⟨oq.jq,ak,λa ha b hb=>?_⟩;simp only[List.mem_singleton]at hb;subst hb;have:=hold a ha;show a.seq<n.messages+1;omega
    ·rcases List.mem_append.1 hy with hy|hy
     ·exact oq.msg y hy
     ·simp only[List.mem_singleton]at hy;subst hy;exact⟨hb,hk⟩
    ·show((q.ready++[(⟨n.messages+1,da,body,false⟩:aQ)]).countP λm=>decide (m.seq=s))+n.cnt da s<=1;rw[List.countP_append,List.countP_singleton];simp only[decide_eq_true_eq];have h1:=oc.one s;by_cases e:n.messages+1=s
     ·have:=oc.no s aa;rw[if_pos e];omega
     ·rw[if_neg e];omega
    ·show((q.ready++[(⟨n.messages+1,da,body,false⟩:aQ)]).countP λm=>decide (m.seq=s))+n.cnt da s=0;have cS:n.messages+1<s:=hs;rw[List.countP_append,List.countP_singleton];simp only[decide_eq_true_eq];rw[if_neg aa];have:=oc.no s aa;omega
   ·rw[if_neg e]at bu;exact⟨o.q _ _ bu,⟨(o.cnt _ _ bu).held,(o.cnt _ _ bu).one,λs hs=>(o.cnt _ _ bu).no s (by have cS:n.messages+1<s:=hs;omega)⟩,q',bu,rfl⟩
end
end Go.Qw
