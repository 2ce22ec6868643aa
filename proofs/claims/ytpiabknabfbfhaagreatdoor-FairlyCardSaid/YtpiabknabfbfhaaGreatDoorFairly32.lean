/- Part 32. -/
import Derived.Test.YtpiabknabfbfhaaGreatDoorFairly31
set_option linter.all false
set_option maxRecDepth 100000
set_option maxHeartbeats 8000000
namespace Go.Qw
def N.without(n:N)(l:List Int):N:={n with aN:=n.aN.map λe=>(e.1,{e.2 with cons:=e.2.cons.filter λk=>decide (k∉l)}),xs:=n.xs.filter λe=>decide (e.1∉l)}
section
variable {n:N}{T:Int}{K:Nat}{ex:List Int}{aJ:Int}{no:Nat}{dw:Nat}{c:CN}{h:HN}{nm:List UInt8}{q:QN}{k:Int}{x:XN}{m:aX}{l:List Int}
variable {id:Int}
@[simp] def JE:(n.without l).h? id no=n.h? id no:=rfl
@[simp] def aqW:(n.without l).ar id=n.ar id:=rfl
def Ny {O γ:Type}{α:Type}[DecidableEq α](l:List (α×O))(k:α)(f:O->γ):bu (l.map λe=>(e.1,f e.2)) k=(bu l k).map f:=by unfold bu;rw[List.find?_map,Option.map_map,Option.map_map];rfl
def G9:(n.without l).q? nm=(n.q? nm).map λq=>{q with cons:=q.cons.filter λk=>decide (k∉l)}:=by unfold N.q? N.without;exact Ny (γ:=QN) n.aN nm λq:QN=>{q with cons:=q.cons.filter λk=>decide (k∉l)}
def Nx {O:Type}{α:Type}[DecidableEq α](l:List (α×O))(k:α)(p:α->Bool):bu (l.filter λe=>p e.1) k=if p k then bu l k else none:=by
 induction l with
 |nil=>simp[bu]
 |cons e l ih=>
  unfold bu at ih|-;rw[List.filter_cons];by_cases he:e.1=k
  ·subst he;by_cases hp:p e.1
   ·simp[hp]
   ·rw[if_neg hp,ih,if_neg hp,if_neg hp]
  ·by_cases hp:p e.1
   ·rw[if_pos hp,List.find?_cons,List.find?_cons];simp only[he,decide_false];exact ih
   ·rw[if_neg hp,List.find?_cons];simp only[he,decide_false];exact ih
def EO:(n.without l).x? k=if k∈l then none else n.x? k:=by unfold N.x? N.without;rw[Nx n.xs k λa=>decide (a∉l)];by_cases h:k∈l<;>simp[h]
structure QX (n:N):Prop where
 nq:(n.aN.map (·.1)).Nodup
 qc:∀nm q,n.q? nm=some q->∀k∈q.cons,∃x,n.x? k=some x/\x.q=nm
 xq:∀k x,n.x? k=some x->(n.q? x.q).isSome
def Ok.qx (o:Ok T K ex n):QX n:=⟨o.nq,o.w.qc,o.w.xq⟩
def QX.without (o:QX n):QX (n.without l):=by
 refine⟨?_,λnm q hq k hk=>?_,λk x hx=>?_⟩
 ·have:((n.without l).aN.map (·.1))=n.aN.map (·.1):=by unfold N.without;rw[List.map_map];rfl
  rw[this];exact o.nq
 ·rw[G9]at hq;obtain⟨q0,h0,rfl⟩:=Option.map_eq_some_iff.1 hq;obtain⟨h1,h2⟩:=List.mem_filter.1 hk;obtain⟨x,hx,hn⟩:=o.qc nm q0 h0 k h1;exact⟨x,by rw[EO,if_neg (aZ h2)];exact hx,hn⟩
 ·rw[EO]at hx;split at hx
  ·cases hx
  ·have:=o.xq k x hx;rw[G9];simpa using this
def Ox (o:QX n):n.cancel k=n.without [k]:=by
 have hf:∀nm q,n.q? nm=some q->(∀x,n.x? k=some x->¬x.q=nm)->(q.cons.filter λj=>decide (j∉[k]))=q.cons:=λnm q hq hx=>List.filter_eq_self.2 λj hj=>by simp only[List.mem_singleton,decide_not,Bool.not_eq_eq_eq_not,Bool.not_true,decide_eq_false_iff_not];rintro rfl;obtain⟨x,h1,h2⟩:=o.qc nm q hq j hj;exact hx x h1 h2
 unfold N.cancel N.without
 cases hx:n.x? k with
 |none=>
  simp only[]
  have e1:(n.aN.map λe=>(e.1,{e.2 with cons:=e.2.cons.filter λj=>decide (j∉[k])}))=n.aN:=by
   have:(n.aN.map λe=>(e.1,{e.2 with cons:=e.2.cons.filter λj=>decide (j∉[k])}))=n.aN.map λe=>e:=List.map_congr_left λe he=>by rw[hf e.1 e.2 (oa o.nq he) λx h1=>by rw[hx]at h1;cases h1]
   rw[this,List.map_id']
  have e2:(n.xs.filter λe=>decide (e.1∉[k]))=n.xs:=List.filter_eq_self.2 λe he=>by have:=iK hx e he;simpa using this
  rw[e1,e2]
 |some x=>
  simp only[]
  have e1:(n.bL x.q λq=>{q with cons:=q.cons.filter λj=>decide (j≠k)}).aN=n.aN.map λe=>(e.1,{e.2 with cons:=e.2.cons.filter λj=>decide (j∉[k])}):=by
   unfold N.bL dz;apply List.map_congr_left;intro e he;by_cases hn:e.1=x.q
   ·rw[if_pos hn]
    have:(e.2.cons.filter λj=>decide (j≠k))=e.2.cons.filter λj=>decide (j∉[k]):=by apply List.filter_congr;intro j _;simp
    simp only[this]
   ·rw[if_neg hn,hf e.1 e.2 (oa o.nq he) λy hy=>by rw[hx]at hy;cases hy;exactλz=>hn z.symm]
  have e2:cF n.xs k=n.xs.filter λe=>decide (e.1∉[k]):=by unfold cF;apply List.filter_congr;intro e _;simp
  rw[<-e1,e2];rfl
def apY {l':List Int}:(n.without l).without l'=n.without (l++l'):=by
 unfold N.without;simp only[List.map_map,List.filter_filter];congr 1
 ·apply List.map_congr_left;intro e _;simp only[Function.comp]
  have:((e.2.cons.filter λk=>decide (k∉l)).filter λk=>decide (k∉l'))=e.2.cons.filter λk=>decide (k∉l++l'):=by rw[List.filter_filter];apply List.filter_congr;intro k _;rw[Bool.eq_iff_iff];simp only[Bool.and_eq_true,decide_eq_true_eq,List.mem_append,not_or];exact And.comm
  rw[this]
 ·apply List.filter_congr;intro e _;rw[Bool.eq_iff_iff];simp only[Bool.and_eq_true,decide_eq_true_eq,List.mem_append,not_or];exact And.comm
def filter_all {α:Type}(l:List α):(l.filter λ_=>true)=l:=List.filter_eq_self.2 λ_ _=>rfl
def apX:n.without []=n:=by unfold N.without;simp only[List.not_mem_nil,not_false_eq_true,decide_true,filter_all,List.map_id']
def Oz (o:QX n){l:List (List UInt8×Int)}:n.jE l=n.without (l.map (·.2)):=by
 unfold N.jE
 induction l generalizing n with
 |nil=>rw[List.foldl_nil,List.map_nil,apX]
 |cons e l ih=>
  rw[List.foldl_cons,Ox o,ih o.without,apY];rfl
def adv {tag:Nat}{b:Bool}(hh:n.h? id no=some h):(n.settle id no tag b).h? id no=some {h with un:=cF h.un tag}:=by
 unfold N.settle;rw[hh]
 cases hu:bu h.un tag with
 |none=>
  simp only[Option.bind_some,hu,hh];have:cF h.un tag=h.un:=List.filter_eq_self.2 λe he=>by have:=iK hu e he;simpa using this
  rw[this]
 |some e=>
  simp only[Option.bind_some,hu];rw[AB,jI,if_pos ⟨rfl,rfl⟩,hh];rfl
def adx {tag:Nat}{b:Bool}(aE:¬(aJ=id/\dw=no)):(n.settle id no tag b).h? aJ dw=n.h? aJ dw:=by
 unfold N.settle;split
 ·rfl
 ·rw[AB,jI,if_neg aE]
def Qo {p:Nat->Bool}{b:Bool}{l:List (Nat×(List UInt8×aX))}(hh:n.h? id no=some h):
 (n.jx id no p b l).h? id no=some {h with un:=h.un.filter λe=> !(l.any λt=>decide (t.1=e.1)&&p t.1)}:=by
 unfold N.jx
 induction l generalizing n h with
 |nil=>rw[List.foldl_nil,hh];simp only[List.any_nil,Bool.not_false,filter_all]
 |cons t l ih=>
  rw[List.foldl_cons];by_cases hp:p t.1
  ·rw[if_pos hp,ih (adv hh)]
   have:((cF h.un t.1).filter λe=> !(l.any λt=>decide (t.1=e.1)&&p t.1))=h.un.filter λe=> !((t::l).any λt=>decide (t.1=e.1)&&p t.1):=by
    unfold cF;rw[List.filter_filter];apply List.filter_congr;intro e _;simp only[List.any_cons,hp,Bool.and_true,Bool.not_or];rw[Bool.and_comm];congr 1;by_cases h1:e.1=t.1
    ·simp[h1]
    ·have h2:¬t.1=e.1:=λx=>h1 x.symm;simp[h1,h2]
   simp only[this]
  ·rw[if_neg hp,ih hh]
   have:(h.un.filter λe=> !(l.any λt=>decide (t.1=e.1)&&p t.1))=h.un.filter λe=> !((t::l).any λt=>decide (t.1=e.1)&&p t.1):=by apply List.filter_congr;intro e _;simp[hp]
   rw[this]
def adw {p:Nat->Bool}{b:Bool}{l:List (Nat×(List UInt8×aX))}(aE:¬(aJ=id/\dw=no)):(n.jx id no p b l).h? aJ dw=n.h? aJ dw:=by
 unfold N.jx
 induction l generalizing n with
 |nil=>rfl
 |cons t l ih=>
  rw[List.foldl_cons,ih];split
  ·exact adx aE
  ·rfl
def Mg {l:List (Nat×(List UInt8×aX))}:n.kE id no l=n.jx id no (λ_=>true) true l:=by unfold N.kE N.jx;rfl
def Ql (hh:n.h? id no=some h):(n.release id no).h? id no=some {h with un:=[],co:=[]}:=by
 rw[Br hh,Mg];have h1:((n.jE h.co).bB id no λh=>{h with co:=[]}).h? id no=some {h with co:=[]}:=by rw[jI,if_pos ⟨rfl,rfl⟩,FJ,hh];rfl
 rw[Qo h1]
 have:(h.un.filter λe=> !(h.un.any λt=>decide (t.1=e.1)&&true))=[]:=List.filter_eq_nil_iff.2 λe he=>by simp only[Bool.and_true,Bool.not_eq_eq_eq_not,Bool.not_true,Bool.not_eq_false,List.any_eq_true,decide_eq_true_eq];exact⟨e,he,rfl⟩
 simp only[this]
def Qm (aE:¬(aJ=id/\dw=no)):(n.release id no).h? aJ dw=n.h? aJ dw:=by
 cases hh:n.h? id no with
 |none=>unfold N.release;rw[hh]
 |some h=>rw[Br hh,Mg,adw aE,jI,if_neg aE,FJ]
def Pz {α:Type}(l:List α)(p:α->Prop)[DecidablePred p]:(l.filter λa=>decide (p a)).length+(l.filter λa=>decide (¬p a)).length=l.length:=by
 induction l with
 |nil=>rfl
 |cons a l ih=>by_cases h:p a<;>simp[h]at ih|-<;>omega
def OP (o:Ok T K ex n)(hh:n.h? id no=some h):(h.co.map (·.2)).Nodup:=by
 have oh:=o.h _ _ _ hh
 have key:∀l:List (List UInt8×Int),(∀e∈l,e∈h.co)->(l.map (·.1)).Nodup->(l.map (·.2)).Nodup:=λl=>by
  induction l with
  |nil=>intro _ _;simp
  |cons e l ih=>
   intro h1 h2;rw[List.map_cons,List.nodup_cons]at h2|-;refine⟨λhm=>?_,ih (λe he=>h1 e (by simp[he])) h2.2⟩;obtain⟨e',fU,hv⟩:=List.mem_map.1 hm;obtain⟨x,hx,_,_,ht⟩:=o.w.co _ _ _ hh e (h1 e al);obtain⟨x',cU,_,_,Gu⟩:=o.w.co _ _ _ hh e' (h1 e' (by simp[fU]));rw[hv,hx]at cU
   cases cU
   exact h2.1 (by rw[<-ht,Gu];exact List.mem_map_of_mem (f:=(·.1)) fU)
 exact key h.co (λ_ h=>h) oh.cn
def Ok.qT (o:Ok T K ex n)(hh:n.h? id no=some h)(L:List Int){f:HN->HN}(hf:∀h,(f h).r=h.r/\(f h).un=h.un)(qy:(f h).co=h.co.filter λe=>decide (e.2∉L))(hL:∀k∈L,k∈h.co.map (·.2)):Ok T K ex ((n.without L).bB id no f):=by
 have oh:=o.h _ _ _ hh;have jL:(f h).co.Sublist h.co:=by rw[qy];exact List.filter_sublist
 have tt:=λw:HN->Nat=>EG o hh f w;have xS:∀w:HN->Nat,((n.without L).bB id no f).ei w=(n.bB id no f).ei w:=λ_=>rfl
 have same:∀w:HN->Nat,(∀g:HN,w (f g)=w g)->((n.without L).bB id no f).ei w=n.ei w:=λw hw=>by have:=tt w;rw[hw]at this;rw[xS];omega
 have ry:((n.without L).bB id no f).aN.map (·.1)=n.aN.map (·.1):=by have:((n.without L).bB id no f).aN=(n.without L).aN:=rfl;rw[this];unfold N.without;rw[List.map_map];rfl
 have sw:((n.without L).bB id no f).aF.map (·.1)=n.aF.map (·.1):=qZ (n:=n) (f:=λc=>{c with ch:=dz c.ch no f});have lk:((n.without L).bB id no f).aF.length=n.aF.length:=by have:=congrArg List.length sw;simpa using this
 have DU:((n.without L).bB id no f).aN.length=n.aN.length:=by have:=congrArg List.length ry;simpa using this
 have qF:∀i,((n.without L).bB id no f).q? i=(n.q? i).map λq=>{q with cons:=q.cons.filter λk=>decide (k∉L)}:=λi=>by rw[G8,G9]
 have sG:∀i,((n.without L).bB id no f).x? i=if i∈L then none else n.x? i:=λi=>by rw[aqm,EO]
 have rn:∀i j g',((n.without L).bB id no f).h? i j=some g'->(i=id/\j=no/\g'=f h)\/(¬(i=id/\j=no)/\n.h? i j=some g'):=λi j g' hg=>by
  rw[jI,JE]at hg;by_cases e:i=id/\j=no
  ·obtain⟨rfl,rfl⟩:=e;rw[if_pos ⟨rfl,rfl⟩,hh]at hg
   cases hg;exact .inl ⟨rfl,rfl,rfl⟩
  ·rw[if_neg e]at hg;exact .inr ⟨e,hg⟩
 have hLx:∀k∈L,∃x,n.x? k=some x/\x.id=id/\x.no=no/\bu h.co x.tag=some k:=λk hk=>by obtain⟨e,he,rfl⟩:=List.mem_map.1 (hL k hk);obtain⟨x,h1,h2,h3,h4⟩:=o.w.co _ _ _ hh e he;exact⟨x,h1,h2,h3,by rw[h4];exact oa oh.cn he⟩
 exact{
  cfg:=o.cfg
  sc:=by rw[sw];exact o.sc
  lc:=by rw[lk];exact o.lc
  ids:=λi hi=>o.ids i (lK.2 (by rw[<-sw];exact lK.1 hi))
  sq:=by rw[ry];exact o.sq
  nq:=by rw[ry];exact o.nq
  lq:=by rw[DU];exact o.lq
  w:={
   un:=λi j g' hg e he=>by
    rw[qF]
    rcases rn i j g' hg with⟨rfl,rfl,rfl⟩|⟨_,h1⟩
    ·have:=o.w.un _ _ _ hh e (by rw[(hf h).2]at he;exact he);simpa using this
    ·have:=o.w.un _ _ _ h1 e he;simpa using this
   xq:=λk x hx=>by
    rw[sG]at hx
    split at hx
    ·cases hx
    ·rw[qF];have:=o.w.xq k x hx;simpa using this
   xh:=λk x hx=>by
    rw[sG]at hx
    split at hx
    ·cases hx
    ·rename_i hk
     obtain⟨g,h1,h2⟩:=o.w.xh k x hx
     by_cases e:x.id=id/\x.no=no
     ·obtain⟨e1,e2⟩:=e
      rw[e1,e2]at h1|-
      rw[hh]at h1
      cases h1
      refine⟨f h,by rw[jI,JE,if_pos ⟨rfl,rfl⟩,hh];rfl,?_⟩
      rw[qy]
      exact oa (by rw[<-qy];exact oh.cn.sublist (jL.map _)) (List.mem_filter.2 ⟨iJ h2,aZ hk⟩)
     ·exact⟨g,by rw[jI,JE,if_neg e];exact h1,h2⟩
   co:=λi j g' hg e he=>by
    rw[sG]
    rcases rn i j g' hg with⟨rfl,rfl,rfl⟩|⟨aE,h1⟩
    ·rw[qy]at he
     obtain⟨AK,JS⟩:=List.mem_filter.1 he
     rw[if_neg (aZ JS)]
     exact o.w.co _ _ _ hh e AK
    ·obtain⟨x,h2,h3,h4,h5⟩:=o.w.co _ _ _ h1 e he
     rw[if_neg]
     ·exact⟨x,h2,h3,h4,h5⟩
     ·intro hm
      obtain⟨y,k1,k2,k3,_⟩:=hLx _ hm
      rw[h2]at k1
      cases k1
      exact aE ⟨by rw[<-h3,k2],by rw[<-h4,k3]⟩
   qc:=λnm q' bz k hk=>by
    rw[qF]at bz
    obtain⟨q,h1,rfl⟩:=Option.map_eq_some_iff.1 bz
    obtain⟨k1,k2⟩:=List.mem_filter.1 hk
    rw[sG,if_neg (by simpa using k2)]
    exact o.w.qc nm q h1 k k1}
  c:=λi c' cA=>Ca o i c' cA
  h:=λi j g' hg=>by
   rcases rn i j g' hg with⟨rfl,rfl,rfl⟩|⟨_,h1⟩
   ·obtain⟨f1,f2⟩:=hf h
    exact⟨by rw[f2];exact oh.un,by rw[f1,f2];exact oh.ut,by rw[f1];exact oh.tag,oh.co.sublist (jL.map _),oh.cn.sublist (jL.map _),Nat.le_trans jL.length_le oh.sM,by rw[f1];exact oh.want,by rw[f1];exact oh.body,by rw[f1];exact oh.size,by rw[f1];exact oh.key,by rw[f2];exact oh.msg⟩
   ·exact o.h _ _ _ h1
  part:=λi j g' hg=>by
   rcases rn i j g' hg with⟨rfl,rfl,rfl⟩|⟨_,h1⟩
   ·rw[(hf h).1];exact o.part _ _ _ hh
   ·exact o.part _ _ _ h1
  q:=λnm q' bz=>by
   rw[qF]at bz
   obtain⟨q,h1,rfl⟩:=Option.map_eq_some_iff.1 bz
   exact⟨(o.q _ _ h1).lim,(o.q _ _ h1).jl,(o.q _ _ h1).msg,(o.q _ _ h1).cons.sublist List.filter_sublist⟩
  cnt:=λnm q' bz=>by
   rw[qF]at bz
   obtain⟨q,h1,rfl⟩:=Option.map_eq_some_iff.1 bz
   exact wJ.same (q:={q with cons:=_}) ⟨(o.cnt _ _ h1).held,(o.cnt _ _ h1).one,(o.cnt _ _ h1).no⟩ (same _ λg=>by rw[(hf g).2]) (λs=>same _ λg=>by rw[(hf g).2]) rfl
  x:=λk x hx=>by
   rw[sG]at hx
   split at hx
   ·cases hx
   ·exact o.x k x hx
  xn:=o.xn.sublist (List.Sublist.map _ List.filter_sublist)
  xl:=by
   have h1:=tt λh=>h.co.length
   rw[xS]
   have h2:(f h).co.length+(h.co.filter λe=>decide (e.2∈L)).length=h.co.length:=by
    rw[qy]
    have:=Pz h.co λe=>e.2∈L
    omega
   have h3:(h.co.filter λe=>decide (e.2∈L)).length<=(n.xs.filter λe=>decide (e.1∈L)).length:=by
    have hn:((h.co.filter λe=>decide (e.2∈L)).map (·.2)).Nodup:=(OP o hh).sublist (List.Sublist.map _ List.filter_sublist)
    have:=LB (m:=(n.xs.filter λe=>decide (e.1∈L)).map (·.1)) hn λk hk=>by
     obtain⟨e,he,rfl⟩:=List.mem_map.1 hk
     obtain⟨h4,h5⟩:=List.mem_filter.1 he
     obtain⟨x,h6,_⟩:=o.w.co _ _ _ hh e h4
     exact List.mem_map.2 ⟨(e.2,x),List.mem_filter.2 ⟨iJ h6,h5⟩,rfl⟩
    simpa using this
   have h4:(n.xs.filter λe=>decide (e.1∈L)).length+(n.xs.filter λe=>decide (e.1∉L)).length=n.xs.length:=Pz n.xs λe=>e.1∈L
   have h5:=o.xl
   show(n.xs.filter λe=>decide (e.1∉L)).length<=_
   omega
  gF:=o.gF
  bh:=o.bh
  last:=o.last}
end
def sum_add{α:Type}(l:List α)(f g:α->Nat):(l.map λa=>f a+g a).sum=(l.map f).sum+(l.map g).sum:=by
 induction l with
 |nil=>rfl
 |cons a l ih=>simp only[List.map_cons,List.sum_cons,ih];omega
variable {k:Int}
def aiv{un:List (Nat×(List UInt8×aX))}{ks:List (List UInt8)}(h:∀e∈un,e.2.1∈ks):un.length<=(ks.map λk=>un.countP λe=>decide (e.2.1=k)).sum:=by
 induction un with
 |nil=>simp
 |cons e un ih=>
  have h1:=ih λe he=>h e (by simp[he])
  have h2:(ks.map λk=>(e::un).countP λe=>decide (e.2.1=k))=ks.map λk=>(un.countP λe=>decide (e.2.1=k))+(if e.2.1=k then 1 else 0):=by apply List.map_congr_left;intro k _;rw[List.countP_cons];simp only[decide_eq_true_eq]
  rw[h2,sum_add ks (λk=>un.countP λe=>decide (e.2.1=k)) λk=>if e.2.1=k then 1 else 0];have h3:(if e.2.1=e.2.1 then 1 else 0)<=(ks.map λk=>if e.2.1=k then 1 else 0).sum:=La (f:=λk=>if e.2.1=k then 1 else 0) (h e al);rw[if_pos rfl]at h3;simp only[List.length_cons];omega
def aiP{l:List Nat}(s:l.Pairwise (·<·))(B:Nat)(h:∀a∈l,1<=a/\a<=B):l.length<=B:=by
 have:=LB (A9 s) (m:=(List.range B).map (·+1)) λa ha=>by have:=h a ha;exact List.mem_map.2 ⟨a-1,List.mem_range.2 aa,aa⟩
 simpa using this
section
variable {n:N}{T:Int}{K:Nat}{ex:List Int}{aJ:Int}{no:Nat}{dw:Nat}{c:CN}{h:HN}{nm:List UInt8}{q:QN}{k:Int}{x:XN}{m:aX}{l:List Int}
variable {id:Int}
def Ok.held (o:Ok T K ex n)(hq:n.q? nm=some q):0<=q.held/\q.held<=50/\q.ready.length<=50:=by have h1:=(o.cnt _ _ hq).held;have h2:=(o.q _ _ hq).lim;have h3:=o.cfg.queue;omega
def Ok.Sn (o:Ok T K ex n)(hc:n.ar id=some c):c.ch.length<=8:=by
 have:=aiP (o.c _ _ hc).jl 8 λa ha=>by obtain⟨e,he,rfl⟩:=List.mem_map.1 ha;exact(o.c _ _ hc).no e he
 simpa using this
def Ok.DW (o:Ok T K ex n)(hh:n.h? id no=some h):h.un.length<=400:=by
 have h1:=aiv (un:=h.un) (ks:=n.aN.map (·.1)) λe he=>lK.1 (o.w.un _ _ _ hh e he);rw[List.map_map]at h1
 have h2:((n.aN.map ((λk=>h.un.countP λe=>decide (e.2.1=k))∘(·.1))).sum)<=n.aN.length*50:=Hs λe he=>by have hq:n.q? e.1=some e.2:=oa o.nq he;have h3:=(o.cnt _ _ hq).held;have h4:=o.held hq;have h5:(h.un.countP λt=>decide (t.2.1=e.1))<=n.gS e.1:=Lb (w:=λh:HN=>h.un.countP λt=>decide (t.2.1=e.1)) hh;simp only[Function.comp];omega
 have h6:=o.lq;omega
def Ok.UP (o:Ok T K ex n){w:HN->Nat}{B:Nat}(hw:∀id no h,n.h? id no=some h->w h<=B):n.ei w<=32*B:=by
 have h1:n.ei w<=n.aF.length*(8*B):=Hs λe he=>by
  have hc:n.ar e.1=some e.2:=oa o.nc he
  have h2:(e.2.ch.map λg=>w g.2).sum<=e.2.ch.length*B:=Hs λg hg=>by
   have:n.h? e.1 g.1=some g.2:=by unfold N.h?;rw[hc];exact oa (yr hc o) hg
   exact hw _ _ _ this
  have h3:=o.Sn hc;exact Nat.le_trans h2 (Nat.mul_le_mul_right B h3)
 have h2:=o.lc;have h3:n.aF.length*(8*B)<=4*(8*B):=Nat.mul_le_mul_right _ h2;omega
def Ok.lxs (o:Ok T K ex n):n.xs.length<=128:=by have h1:=o.UP (w:=λh=>h.co.length) (B:=4) λid no h hh=>(o.h _ _ _ hh).sM;have h2:=o.xl;omega
def Ok.GM (o:Ok T K ex n)(hq:n.q? nm=some q):q.cons.length<=128:=by
 have h1:=LB (o.q _ _ hq).cons (m:=n.xs.map (·.1)) λk hk=>by obtain⟨x,hx,_⟩:=o.w.qc _ _ hq k hk;exact List.mem_map_of_mem (f:=(·.1)) (iJ hx)
 have h2:=o.lxs;rw[List.length_map]at h1;omega
def Ok.Y3 (o:Ok T K ex n)(hx:n.x? k=some x):EU n k:=by obtain⟨q,hq⟩:=Option.isSome_iff_exists.1 (o.w.xq k x hx);exact⟨x,q,hx,hq,by have:=o.GM hq;omega,λj hj=>by obtain⟨y,hy,_⟩:=o.w.qc _ _ hq j hj;rw[hy];rfl⟩
def Ok.Y1 (o:Ok T K ex n){e:Nat×(List UInt8×aX)}(hh:n.h? id no=some h)(hu:bu h.un e.1=some e.2):HW n id no e:=by obtain⟨q,hq⟩:=Option.isSome_iff_exists.1 (o.w.un _ _ _ hh _ (iJ hu));simp only at hq;have h1:=o.held hq;have h2:=(o.cnt _ _ hq).held;have h3:(h.un.countP λt=>decide (t.2.1=e.2.1))<=n.gS e.2.1:=Lb (w:=λh:HN=>h.un.countP λt=>decide (t.2.1=e.2.1)) hh;have h4:0<h.un.countP λt=>decide (t.2.1=e.2.1):=List.countP_pos_iff.2 ⟨_,iJ hu,al⟩;exact⟨h,q,hh,hu,hq,aa,aa,(o.q _ _ hq).jl⟩
def UW {α:Type}{p:α->Bool}{e f:α}(aE:e≠f)(he:p e=true)(hf:p f=true):∀{l:List α},e∈l->f∈l->2<=l.countP p
 |x::l,h1,h2=>by
  have c:∀{z},z∈l->p z=true->0<l.countP p:=λh k=>List.countP_pos_iff.2 ⟨_,h,k⟩;rcases List.mem_cons.1 h1 with rfl|k1<;>rcases List.mem_cons.1 h2 with rfl|k2
  ·exact absurd rfl aE
  ·have:=c k2 hf;rw[List.countP_cons_of_pos he];omega
  ·have:=c k1 he;rw[List.countP_cons_of_pos hf];omega
  ·have:=UW aE he hf k1 k2;rw[List.countP_cons];omega
def Ok.Uf (o:Ok T K ex n)(hh:n.h? id no=some h):tf h.un:=by intro e he f hf h1 h2 h3;obtain⟨q,hq⟩:=Option.isSome_iff_exists.1 (o.w.un _ _ _ hh _ he);have h4:=(o.cnt _ _ hq).one e.2.2.seq;have h5:(h.un.countP λt=>decide (t.2.1=e.2.1)&&decide (t.2.2.seq=e.2.2.seq))<=n.cnt e.2.1 e.2.2.seq:=Lb (w:=λh:HN=>h.un.countP λt=>decide (t.2.1=e.2.1)&&decide (t.2.2.seq=e.2.2.seq)) hh;have h6:=UW (p:=λt:Nat×(List UInt8×aX)=>decide (t.2.1=e.2.1)&&decide (t.2.2.seq=e.2.2.seq)) (λx=>h1 (by rw[x])) al (by simp[h2,h3]) he hf;omega
def Ok.Ow (o:Ok T K ex n)(hh:n.h? id no=some h)(p:Nat->Bool)(b:Bool):HX n id no h p b:=by have ij:=A9 (o.h _ _ _ hh).un;refine⟨ij,o.Uf hh,by have:=o.DW hh;omega,λl e he hn _=>?_⟩;refine(o.jx (id:=id) (no:=no) (p:=p) (b:=b) (l:=l)).Y1 (Qo hh) ?_;refine oa (ij.sublist (List.Sublist.map _ List.filter_sublist)) (List.mem_filter.2 ⟨he,?_⟩);simp only[Bool.not_eq_eq_eq_not,Bool.not_true,List.any_eq_false,Bool.and_eq_true,decide_eq_true_eq,not_and];intro x hx k;exact absurd k (hn x hx)
def Ok.rG (o:Ok T K ex n)(hh:n.h? id no=some h):Ok T K ex ((n.jE h.co).bB id no λh=>{h with co:=[]}):=by
 rw[Oz o.qx];refine o.qT hh _ (λ_=>⟨rfl,rfl⟩) ?_ λk hk=>hk
 symm
 refine List.filter_eq_nil_iff.2 λe he=>?_;simp only[decide_not,Bool.not_eq_eq_eq_not,Bool.not_true,decide_eq_false_iff_not,Decidable.not_not];exact List.mem_map_of_mem (f:=(·.2)) he
def Ok.Fi (o:Ok T K ex n)(hh:n.h? id no=some h):yc n id no h:=by
 have oh:=o.h _ _ _ hh;refine⟨oh.co,A9 oh.un,o.Uf hh,by have:=oh.sM;omega,by have:=o.DW hh;omega,λj hj=>?_,λl e he hn=>?_⟩
 ·obtain⟨x,hx,_,_,_⟩:=o.w.co _ _ _ hh _ (List.getElem_mem hj);rw[Oz o.qx];have hq:=o.w.xq _ _ hx;obtain⟨q,hq⟩:=Option.isSome_iff_exists.1 hq
  have nS:h.co[j].2∉(h.co.take j).map (·.2):=by intro hm;obtain⟨e,he,hv⟩:=List.mem_map.1 hm;obtain⟨i,hi,rfl⟩:=List.getElem_of_mem he;rw[List.length_take]at hi;rw[List.getElem_take]at hv;have h1:(h.co.map (·.2))[i]'(by simp;omega)=(h.co.map (·.2))[j]'(aZ hj):=aZ hv;exact(List.pairwise_iff_getElem.1 (OP o hh)) i j (by simp;omega) (aZ hj) aa h1
  refine⟨x,_,by rw[EO,if_neg nS];exact hx,by rw[G9,hq];rfl,?_,λi hi=>?_⟩
  ·have h1:=o.GM hq;have h2:(q.cons.filter λk=>decide (k∉(h.co.take j).map (·.2))).length<=q.cons.length:=List.length_filter_le _ _;simp only;omega
  ·obtain⟨h1,h2⟩:=List.mem_filter.1 hi;obtain⟨y,hy,_⟩:=o.w.qc _ _ hq i h1;rw[EO,if_neg (aZ h2),hy];rfl
 ·have h1:((n.jE h.co).bB id no λh=>{h with co:=[]}).h? id no=some {h with co:=[]}:=by rw[jI,if_pos ⟨rfl,rfl⟩,FJ,hh];rfl
  rw[Mg];exact((o.rG hh).Ow h1 (λ_=>true) true).step l e he hn rfl
def Ok.release (o:Ok T K ex n):Ok T K ex (n.release id no):=by
 cases hh:n.h? id no with
 |none=>unfold N.release;rw[hh];exact o
 |some h=>rw[Br hh];exact(o.rG hh).kE
def Ok.gJ (o:Ok T K ex n){l:List (Nat×HN)}:Ok T K ex (n.gJ id l):=by
 unfold N.gJ
 induction l generalizing n with
 |nil=>exact o
 |cons e l ih=>rw[List.foldl_cons];exact ih o.release
def Qn {l:List (Nat×HN)}(aE:∀e∈l,¬(aJ=id/\dw=e.1)):(n.gJ id l).h? aJ dw=n.h? aJ dw:=by
 unfold N.gJ
 induction l generalizing n with
 |nil=>rfl
 |cons e l ih=>rw[List.foldl_cons,ih λe he=>aE e (by simp[he])];exact Qm (aE e al)
def Fl {f:HN->HN}:((n.bB id no f).ar aJ).map (λc=>c.ch.map (·.1))=(n.ar aJ).map λc=>c.ch.map (·.1):=by
 rw[vc];split
 ·cases n.ar aJ with
  |none=>rfl
  |some c=>simp only[Option.map_some];congr 1;exact ow _ _ _ λx=>x
 ·rfl
def Zx {tag:Nat}{b:Bool}:((n.settle id no tag b).ar aJ).map (λc=>c.ch.map (·.1))=(n.ar aJ).map λc=>c.ch.map (·.1):=by
 unfold N.settle;split
 ·rfl
 ·rw[yu];exact Fl
def Zy {l:List (Nat×(List UInt8×aX))}:((n.kE id no l).ar aJ).map (λc=>c.ch.map (·.1))=(n.ar aJ).map λc=>c.ch.map (·.1):=by
 unfold N.kE
 induction l generalizing n with
 |nil=>rfl
 |cons e l ih=>rw[List.foldl_cons,ih];exact Zx
def Zv:((n.release id no).ar aJ).map (λc=>c.ch.map (·.1))=(n.ar aJ).map λc=>c.ch.map (·.1):=by
 cases hh:n.h? id no with
 |none=>unfold N.release;rw[hh]
 |some h=>rw[Br hh,Zy,Fl,ON]
def IB {l:List (Nat×HN)}:((n.gJ id l).ar aJ).map (λc=>c.ch.map (·.1))=(n.ar aJ).map λc=>c.ch.map (·.1):=by
 unfold N.gJ
 induction l generalizing n with
 |nil=>rfl
 |cons e l ih=>rw[List.foldl_cons,ih];exact Zv
def Ok.Fh (o:Ok T K ex n)(hc:n.ar id=some c):zT n id c:=by
 refine⟨(o.c _ _ hc).jl,by have:=o.Sn hc;omega,λj=>?_,λj hj=>?_⟩
 ·have:=IB (n:=n) (id:=id) (aJ:=id) (l:=c.ch.take j);rw[hc,Option.map_some]at this;obtain⟨cj,h1,h2⟩:=Option.map_eq_some_iff.1 this;exact⟨cj,h1,h2⟩
 ·have h1:n.h? id c.ch[j].1=some c.ch[j].2:=by unfold N.h?;rw[hc];exact oa (yr hc o) (List.getElem_mem hj)
  have h2:(n.gJ id (c.ch.take j)).h? id c.ch[j].1=some c.ch[j].2:=by rw[Qn λe he hx=>GZ (yr hc o) hj e he hx.2.symm];exact h1
  exact⟨_,h2,(o.gJ (id:=id) (l:=c.ch.take j)).Fi h2⟩
end
section
variable {n:N}{T:Int}{K:Nat}{ex:List Int}{fC:List Int}{aJ:Int}{no:Nat}{dw:Nat}{c:CN}{h:HN}{nm:List UInt8}{q:QN}{k:Int}{x:XN}{l:List Int}
variable {id:Int}
def UH {α:Type}(l:List α)(p:α->Bool)(f:α->Nat)(h:∀a∈l,p a=false->f a=0):((l.filter p).map f).sum=(l.map f).sum:=by
 induction l with
 |nil=>rfl
 |cons a l ih=>
  have ih:=ih λb hb=>h b (by simp[hb])
  cases hp:p a with
  |true=>rw[List.filter_cons_of_pos hp];simp only[List.map_cons,List.sum_cons,ih]
  |false=>rw[List.filter_cons_of_neg (by simp[hp])];simp only[List.map_cons,List.sum_cons,ih,h a al hp];omega
def Qk {p:Nat->Bool}:(n.dI id λc=>{c with ch:=c.ch.filter λe=>p e.1}).h? aJ dw=if aJ=id/\p dw=false then none else n.h? aJ dw:=by
 unfold N.h?;rw[qg];by_cases e:aJ=id
 ·subst e;rw[if_pos rfl]
  cases n.ar aJ with
  |none=>simp
  |some c=>
   simp only[Option.map_some,Option.bind_some,true_and];rw[Nx c.ch dw p]
   cases p dw<;>simp
 ·rw[if_neg e,if_neg λx=>e x.1]
def Ok.Sd (o:Ok T K ex n)(p:Nat->Bool)(he:∀no h,n.h? id no=some h->p no=false->h.un=[]/\h.co=[])(hx:∀i∈ex,i∈fC\/(i=id/\∀no,p no=false)):
 Ok T K fC (n.dI id λc=>{c with ch:=c.ch.filter λe=>p e.1}):=by
 have same:∀w:HN->Nat,(∀h:HN,h.un=[]->h.co=[]->w h=0)->(n.dI id λc=>{c with ch:=c.ch.filter λe=>p e.1}).ei w=n.ei w:=λw hw=>by
  cases hc:n.ar id with
  |none=>
   exact Mv (f:=λc:CN=>{c with ch:=c.ch.filter λe=>p e.1}) (g:=λc:CN=>(c.ch.map λg:Nat×HN=>w g.2).sum) (λv hv=>by rw[N.ar]at hc;rw[hc]at hv;cases hv) o.nc
  |some c=>
   have h1:=MF (w:=w) o.nc hc λc=>{c with ch:=c.ch.filter λe=>p e.1}
   have h2:=UH c.ch (λe=>p e.1) (λg=>w g.2) λg hg hp=>by
    have:n.h? id g.1=some g.2:=by unfold N.h?;rw[hc];exact oa (yr hc o) hg
    obtain⟨h3,h4⟩:=he _ _ this hp;exact hw _ h3 h4
   simp only at h1;rw[h2]at h1;omega
 have sub:∀i j g,(n.dI id λc=>{c with ch:=c.ch.filter λe=>p e.1}).h? i j=some g->n.h? i j=some g/\¬(i=id/\p j=false):=λi j g hg=>by
  rw[Qk]at hg;split at hg
  ·cases hg
  ·rename_i aE;exact⟨hg,aE⟩
 have lk:(n.dI id λc=>{c with ch:=c.ch.filter λe=>p e.1}).aF.length=n.aF.length:=by have:=congrArg List.length (qZ (n:=n) (id:=id) (f:=λc=>{c with ch:=c.ch.filter λe=>p e.1}));simpa using this
 exact{
  cfg:=o.cfg
  sc:=by rw[qZ];exact o.sc
  lc:=by rw[lk];exact o.lc
  ids:=λi hi=>o.ids i (lK.2 (by rw[<-qZ];exact lK.1 hi))
  sq:=o.sq
  nq:=o.nq
  lq:=o.lq
  w:={
   un:=λi j g hg=>o.w.un _ _ _ (sub _ _ _ hg).1
   xq:=o.w.xq
   xh:=λk x hx=>by
    obtain⟨g,h1,h2⟩:=o.w.xh k x hx
    refine⟨g,?_,h2⟩
    rw[Qk,if_neg]
    ·exact h1
    ·rintro⟨e1,e2⟩
     obtain⟨_,h4⟩:=he _ _ (by rw[<-e1];exact h1) e2
     rw[h4]at h2;cases h2
   co:=λi j g hg=>o.w.co _ _ _ (sub _ _ _ hg).1
   qc:=o.w.qc}
  c:=λi c' cA=>by
   rw[qg]at cA
   by_cases e:i=id
   ·subst e
    rw[if_pos rfl]at cA
    obtain⟨c,hc,rfl⟩:=Option.map_eq_some_iff.1 cA
    have oc:=o.c _ _ hc
    exact⟨oc.r,oc.jl.sublist (List.Sublist.map _ List.filter_sublist),λe he=>oc.no e (List.filter_sublist.subset he)⟩
   ·rw[if_neg e]at cA;exact o.c _ _ cA
  h:=λi j g hg=>o.h _ _ _ (sub _ _ _ hg).1
  part:=λi j g hg hi=>o.part _ _ _ (sub _ _ _ hg).1 λhm=>by
   rcases hx i hm with h1|⟨h1,h2⟩
   ·exact hi h1
   ·exact(sub _ _ _ hg).2 ⟨h1,h2 j⟩
  q:=o.q
  cnt:=λnm q hq=>(o.cnt nm q hq).same (same _ λh h1 _=>by rw[h1];rfl) (λs=>same _ λh h1 _=>by rw[h1];rfl) rfl
  x:=o.x
  xn:=o.xn
  xl:=by rw[same _ λh _ h2=>by rw[h2];rfl];exact o.xl
  gF:=o.gF
  bh:=o.bh
  last:=o.last}
def Ok.pz (o:Ok T K ex n):Ok T K ex (n.pz id no):=by
 have:=(o.release (id:=id) (no:=no)).Sd (id:=id) (fC:=ex) (λa=>decide (a≠no)) (λj g hg hp=>by
  have:j=no:=aZ hp
  subst this
  cases hh:n.h? id j with
  |none=>unfold N.release at hg;rw[hh]at hg;simp only at hg;rw[hh]at hg;cases hg
  |some h=>rw[Ql hh]at hg;cases hg;exact⟨rfl,rfl⟩) λi hi=>.inl hi
 exact this
def adu {l:List (Nat×HN)}(nd:(l.map (·.1)).Nodup){e:Nat×HN}(hm:e∈l)(hh:n.h? id e.1=some h):(n.gJ id l).h? id e.1=some {h with un:=[],co:=[]}:=by
 unfold N.gJ
 induction l generalizing n with
 |nil=>cases hm
 |cons a l ih=>
  rw[List.map_cons,List.nodup_cons]at nd;rw[List.foldl_cons];rcases List.mem_cons.1 hm with rfl|hm
  ·have:=Qn (n:=n.release id e.1) (id:=id) (aJ:=id) (dw:=e.1) (l:=l) λb hb hx=>nd.1 (by rw[hx.2];exact List.mem_map_of_mem (f:=(·.1)) hb);unfold N.gJ at this;rw[this,Ql hh]
  ·refine ih nd.2 hm ?_;rw[Qm λhx=>nd.1 (by rw[<-hx.2];exact List.mem_map_of_mem (f:=(·.1)) hm)];exact hh
def Lc (hc:n.ar id=some c):n.leave id=(n.gJ id c.ch).dI id λc=>{c with ch:=[]}:=by unfold N.leave;rw[hc];rfl
def Ok.leave (o:Ok T K ex n)(hx:∀i∈ex,i∈fC\/i=id)(hi:(n.ar id).isSome):Ok T K fC (n.leave id):=by
 obtain⟨c,hc⟩:=Option.isSome_iff_exists.1 hi;rw[Lc hc];have hd:=IB (n:=n) (id:=id) (aJ:=id) (l:=c.ch);rw[hc,Option.map_some]at hd;obtain⟨c1,cB,ek⟩:=Option.map_eq_some_iff.1 hd
 have:=(o.gJ (id:=id) (l:=c.ch)).Sd (id:=id) (fC:=fC) (λ_=>false) (λj g hg _=>by
  have h1:j∈c1.ch.map (·.1):=by
   have:=CG hg cB
   exact List.mem_map_of_mem (f:=(·.1)) (iJ this)
  rw[ek]at h1
  obtain⟨e,he,rfl⟩:=List.mem_map.1 h1
  have h2:n.h? id e.1=some e.2:=by unfold N.h?;rw[hc];exact oa (yr hc o) he
  rw[adu (yr hc o) he h2]at hg
  cases hg;exact⟨rfl,rfl⟩) λi hi=>(hx i hi).imp (λh=>h) λh=>⟨h,λ_=>rfl⟩
 have e:(λc:CN=>{c with ch:=c.ch.filter λe=>(λ_:Nat=>false) e.1})=λc=>{c with ch:=[]}:=by
  funext c
  have:(c.ch.filter λe=>(λ_:Nat=>false) e.1)=[]:=List.filter_eq_nil_iff.2 λ_ _=>al;rw[this]
 rw[e]at this;exact this
def Ok.xS (o:Ok T K ex n){w:HN->Nat}(hw:∀id no h,n.h? id no=some h->w h=0):n.ei w=0:=by have:=o.UP (w:=w) (B:=0) λi j h hh=>Nat.le_of_eq (hw i j h hh);omega
def Ok.ajr (o:Ok T K ex n)(hc:n.ar id=some c)(hn:bu c.ch no=none)(dY:1<=no/\no<=8):Ok T K ex (n.dI id λc=>{c with ch:=cV kT c.ch no ⟨gu,[],[]⟩}):=by
 have tL:n.h? id no=none:=by unfold N.h?;rw[hc];exact hn
 have hT:0<=T:=Int.le_trans o.gF.1 o.gF.2
 have rn:∀i j,(n.dI id λc=>{c with ch:=cV kT c.ch no ⟨gu,[],[]⟩}).h? i j=if i=id/\j=no then some ⟨gu,[],[]⟩else n.h? i j:=λi j=>by
  unfold N.h?;rw[qg];by_cases e:i=id
  ·subst e;rw[if_pos rfl,hc];simp only[Option.map_some,Option.bind_some,true_and];exact yn _ _ _ _ hn
  ·rw[if_neg e,if_neg λx=>e x.1]
 have same:∀w:HN->Nat,w ⟨gu,[],[]⟩=0->(n.dI id λc=>{c with ch:=cV kT c.ch no ⟨gu,[],[]⟩}).ei w=n.ei w:=λw hw=>by have h1:=MF (w:=w) o.nc hc λc=>{c with ch:=cV kT c.ch no ⟨gu,[],[]⟩};simp only at h1;rw[aoL (lt:=kT) c.ch no (⟨gu,[],[]⟩:HN) w,hw]at h1;omega
 have wL:∀i j g,(n.dI id λc=>{c with ch:=cV kT c.ch no ⟨gu,[],[]⟩}).h? i j=some g->g=⟨gu,[],[]⟩\/n.h? i j=some g:=λi j g hg=>by
  rw[rn]at hg;split at hg
  ·cases hg;exact .inl rfl
  ·exact .inr hg
 have lk:(n.dI id λc=>{c with ch:=cV kT c.ch no ⟨gu,[],[]⟩}).aF.length=n.aF.length:=by have:=congrArg List.length (qZ (n:=n) (id:=id) (f:=λc=>{c with ch:=cV kT c.ch no ⟨gu,[],[]⟩}));simpa using this
 exact{
  cfg:=o.cfg
  sc:=by rw[qZ];exact o.sc
  lc:=by rw[lk];exact o.lc
  ids:=λi hi=>o.ids i (lK.2 (by rw[<-qZ];exact lK.1 hi))
  sq:=o.sq
  nq:=o.nq
  lq:=o.lq
  w:={
   un:=λi j g hg e he=>by
    rcases wL _ _ _ hg with rfl|hg
    ·cases he
    ·exact o.w.un _ _ _ hg e he
   xq:=o.w.xq
   xh:=λk x hx=>by
    obtain⟨g,h1,h2⟩:=o.w.xh k x hx
    refine⟨g,?_,h2⟩
    rw[rn,if_neg]
    ·exact h1
    ·rintro⟨e1,e2⟩;rw[e1,e2,tL]at h1;cases h1
   co:=λi j g hg e he=>by
    rcases wL _ _ _ hg with rfl|hg
    ·cases he
    ·exact o.w.co _ _ _ hg e he
   qc:=o.w.qc}
  c:=λi c' cA=>by
   rw[qg]at cA
   by_cases e:i=id
   ·subst e
    rw[if_pos rfl,hc]at cA
    cases cA
    have oc:=o.c _ _ hc
    refine⟨oc.r,V0 oc.jl hn,λe he=>?_⟩
    rcases E9.1 he with rfl|he
    ·exact dY
    ·exact oc.no e he
   ·rw[if_neg e]at cA;exact o.c _ _ cA
  h:=λi j g hg=>by
   rcases wL _ _ _ hg with rfl|hg
   ·exact⟨List.Pairwise.nil,(λ_ h=>by cases h),⟨by simp[gu],by simpa[gu]using hT⟩,List.Pairwise.nil,List.Pairwise.nil,al,by simp[gu],by simp[gu],by simp[gu],by simp[gu],(λ_ h=>by cases h)⟩
   ·exact o.h _ _ _ hg
  part:=λi j g hg hi hw=>by
   rcases wL _ _ _ hg with rfl|hg
   ·simp[gu]at hw
   ·exact o.part _ _ _ hg hi hw
  q:=o.q
  cnt:=λnm q hq=>(o.cnt nm q hq).same (same _ rfl) (λs=>same _ rfl) rfl
  x:=o.x
  xn:=o.xn
  xl:=by rw[same _ rfl];exact o.xl
  gF:=o.gF
  bh:=o.bh
  last:=o.last}
def Ok.sP (o:Ok T K ex n)(hq:n.q? nm=none)(hl:n.aN.length<=7)(hg:0<=n.cfg.queue):Ok T K ex {n with aN:=cV cL n.aN nm ⟨[],0,0,[]⟩}:=by
 have qF:∀i,N.q? {n with aN:=cV cL n.aN nm ⟨[],0,0,[]⟩} i=if i=nm then some ⟨[],0,0,[]⟩else n.q? i:=λi=>yn _ _ _ _ hq
 have wL:∀i q,N.q? {n with aN:=cV cL n.aN nm ⟨[],0,0,[]⟩} i=some q->(i=nm/\q=⟨[],0,0,[]⟩)\/n.q? i=some q:=λi q h=>by
  rw[qF]at h;split at h
  ·rename_i e;cases h;exact .inl ⟨e,rfl⟩
  ·exact .inr h
 have up:∀i,(n.q? i).isSome->(N.q? {n with aN:=cV cL n.aN nm ⟨[],0,0,[]⟩} i).isSome:=λi hi=>by rw[qF];split<;>simp_all
 have dY:∀i j h,n.h? i j=some h->∀e∈h.un,¬e.2.1=nm:=λi j h hh e he hx=>by have:=o.w.un _ _ _ hh e he;rw[hx,hq]at this;cases this
 have lk:=(uU (lt:=cL) n.aN nm (⟨[],0,0,[]⟩:QN)).length_eq
 exact{
  cfg:=o.cfg
  sc:=o.sc
  lc:=o.lc
  ids:=o.ids
  sq:=NB vR o.sq
  nq:=NA o.nq hq
  lq:=by show(cV cL n.aN nm _).length<=8;rw[lk,List.length_cons];omega
  w:={
   un:=λi j g hg e he=>up _ (o.w.un _ _ _ hg e he)
   xq:=λk x hx=>up _ (o.w.xq k x hx)
   xh:=o.w.xh
   co:=o.w.co
   qc:=λi q bz k hk=>by
    rcases wL _ _ bz with⟨_,rfl⟩|h
    ·cases hk
    ·exact o.w.qc _ _ h k hk}
  c:=o.c
  h:=o.h
  part:=o.part
  q:=λi q bz=>by
   rcases wL _ _ bz with⟨_,rfl⟩|h
   ·exact⟨aZ hg,List.Pairwise.nil,(λ_ h=>by cases h),List.Pairwise.nil⟩
   ·exact o.q _ _ h
  cnt:=λi q bz=>by
   rcases wL _ _ bz with⟨rfl,rfl⟩|h
   ·have h1:N.gS {n with aN:=cV cL n.aN i ⟨[],0,0,[]⟩} i=0:=o.xS (w:=λh=>h.un.countP λe:Nat×(List UInt8×aX)=>decide (e.2.1=i)) λi' j h hh=>List.countP_eq_zero.2 λe he=>by simpa using dY _ _ _ hh e he
    have h2:∀s,N.cnt {n with aN:=cV cL n.aN i ⟨[],0,0,[]⟩} i s=0:=λs=>o.xS (w:=λh=>h.un.countP λe:Nat×(List UInt8×aX)=>decide (e.2.1=i)&&decide (e.2.2.seq=s)) λi' j h hh=>List.countP_eq_zero.2 λe he=>by
     have:=dY _ _ _ hh e he
     simp[this]
    exact⟨by rw[h1];rfl,λs=>by rw[h2];simp,λs _=>by rw[h2];simp⟩
   ·exact⟨(o.cnt _ _ h).held,(o.cnt _ _ h).one,(o.cnt _ _ h).no⟩
  x:=o.x
  xn:=o.xn
  xl:=o.xl
  gF:=o.gF
  bh:=o.bh
  last:=o.last}
end
section
variable {n:N}{T:Int}{T':Int}{K:Nat}{ex:List Int}{no:Nat}{c:CN}{h:HN}{nm:List UInt8}{q:QN}{k:Int}{x:XN}
variable {id:Int}
def Ok.Vl (o:Ok T K ex n):n.x? (n.bh+1)=none:=by
 cases hx:n.x? (n.bh+1)with
 |none=>rfl
 |some x=>have:=(o.x _ _ hx).1.2;omega
def Ok.ki (o:Ok T K ex n)(hh:n.h? id no=some h)(hq:n.q? nm=some q){tg:List UInt8}{na:Bool}(ht:bu h.co tg=none)(hl:h.co.length<=3)(AV:tg.length<=8):Ok (T+1) K ex (n.ki id no nm tg na):=by
 have oh:=o.h _ _ _ hh
 let k:=n.bh+1
 let f:HN->HN:=λh=>{h with co:=cV cL h.co tg k}
 have hT:=o.gF;have hN:=o.bh;have tt:=λw:HN->Nat=>EG o hh f w;have xS:∀w:HN->Nat,(n.ki id no nm tg na).ei w=(n.bB id no f).ei w:=λ_=>rfl
 have same:∀w:HN->Nat,(∀g:HN,w (f g)=w g)->(n.ki id no nm tg na).ei w=n.ei w:=λw hw=>by have:=tt w;rw[hw]at this;rw[xS];omega
 have ry:(n.ki id no nm tg na).aN.map (·.1)=n.aN.map (·.1):=Bn (n:=n) (f:=λq=>{q with cons:=q.cons++[k]});have sw:(n.ki id no nm tg na).aF.map (·.1)=n.aF.map (·.1):=qZ (n:=n) (f:=λc=>{c with ch:=dz c.ch no f});have lk:(n.ki id no nm tg na).aF.length=n.aF.length:=by have:=congrArg List.length sw;simpa using this
 have DU:(n.ki id no nm tg na).aN.length=n.aN.length:=by have:=congrArg List.length ry;simpa using this
 have qF:∀i,(n.ki id no nm tg na).q? i=if i=nm then(n.q? i).map (λq=>{q with cons:=q.cons++[k]})else n.q? i:=λi=>uA (n:=n) (nm:=nm) (fq:=λq=>{q with cons:=q.cons++[k]})
 have sG:∀i,(n.ki id no nm tg na).x? i=if i=k then some ⟨id,no,tg,nm,na⟩else n.x? i:=λi=>by
  show bu (n.xs++[(k,⟨id,no,tg,nm,na⟩)]) i=_;have hk:=o.Vl;unfold N.x? at hk|-;unfold bu at hk|-;rw[List.find?_append];by_cases e:i=k
  ·subst e;rw[if_pos rfl];have:(n.xs.find? λe=>decide (e.1=k))=none:=aZ hk;rw[this];simp
  ·rw[if_neg e];have:¬k=i:=λx=>e x.symm;simp[this]
 have Gy:∀i j,(n.ki id no nm tg na).h? i j=(n.bB id no f).h? i j:=λ_ _=>rfl
 have rn:∀i j g',(n.ki id no nm tg na).h? i j=some g'->(i=id/\j=no/\g'=f h)\/(¬(i=id/\j=no)/\n.h? i j=some g'):=λi j g' hg=>by
  rw[Gy,jI]at hg;by_cases e:i=id/\j=no
  ·obtain⟨rfl,rfl⟩:=e;rw[if_pos ⟨rfl,rfl⟩,hh]at hg
   cases hg;exact .inl ⟨rfl,rfl,rfl⟩
  ·rw[if_neg e]at hg;exact .inr ⟨e,hg⟩
 have mR:∀i,(n.q? i).isSome->((n.ki id no nm tg na).q? i).isSome:=λi hi=>by
  rw[qF];split
  ·simpa using hi
  ·exact hi
 have hold:∀i y,n.x? i=some y->¬i=k:=λi y hy e=>by have:=(o.x _ _ hy).1.2;omega
 have aeh:∀e,e∈(f h).co↔e=(tg,k)\/e∈h.co:=λe=>E9
 exact{
  cfg:=o.cfg
  sc:=by rw[sw];exact o.sc
  lc:=by rw[lk];exact o.lc
  ids:=λi hi=>o.ids i (lK.2 (by rw[<-sw];exact lK.1 hi))
  sq:=by rw[ry];exact o.sq
  nq:=by rw[ry];exact o.nq
  lq:=by rw[DU];exact o.lq
  w:={
   un:=λi j g' hg e he=>by
    rcases rn i j g' hg with⟨rfl,rfl,rfl⟩|⟨_,h1⟩
    ·exact mR _ (o.w.un _ _ _ hh e he)
    ·exact mR _ (o.w.un _ _ _ h1 e he)
   xq:=λi y hy=>by
    rw[sG]at hy
    split at hy
    ·cases hy;exact mR _ (by rw[hq];rfl)
    ·exact mR _ (o.w.xq _ _ hy)
   xh:=λi y hy=>by
    rw[sG]at hy
    split at hy
    ·rename_i e
     cases hy
     refine⟨f h,by rw[Gy,jI,if_pos ⟨rfl,rfl⟩,hh];rfl,?_⟩
     show bu (cV cL h.co tg k) tg=_
     rw[yn _ _ _ _ ht,if_pos rfl,e]
    ·obtain⟨g,h1,h2⟩:=o.w.xh _ _ hy
     by_cases e:y.id=id/\y.no=no
     ·obtain⟨e1,e2⟩:=e
      rw[e1,e2]at h1|-
      rw[hh]at h1
      cases h1
      refine⟨f h,by rw[Gy,jI,if_pos ⟨rfl,rfl⟩,hh];rfl,?_⟩
      show bu (cV cL h.co tg k) y.tag=_
      rw[yn _ _ _ _ ht,if_neg]
      ·exact h2
      ·intro x;rw[x,ht]at h2;cases h2
     ·exact⟨g,by rw[Gy,jI,if_neg e];exact h1,h2⟩
   co:=λi j g' hg e he=>by
    rw[sG]
    rcases rn i j g' hg with⟨rfl,rfl,rfl⟩|⟨aE,h1⟩
    ·rcases(aeh e).1 he with rfl|he
     ·rw[if_pos rfl];exact⟨_,rfl,rfl,rfl,rfl⟩
     ·obtain⟨y,h2,h3⟩:=o.w.co _ _ _ hh e he
      rw[if_neg (hold _ _ h2)];exact⟨y,h2,h3⟩
    ·obtain⟨y,h2,h3⟩:=o.w.co _ _ _ h1 e he
     rw[if_neg (hold _ _ h2)];exact⟨y,h2,h3⟩
   qc:=λi q' bz j hj=>by
    rw[qF]at bz
    rw[sG]
    by_cases e:i=nm
    ·subst e
     rw[if_pos rfl,hq]at bz
     cases bz
     rcases List.mem_append.1 hj with hj|hj
     ·obtain⟨y,h1,h2⟩:=o.w.qc _ _ hq j hj
      rw[if_neg (hold _ _ h1)];exact⟨y,h1,h2⟩
     ·rw[if_pos (aZ hj)];exact⟨_,rfl,rfl⟩
    ·rw[if_neg e]at bz
     obtain⟨y,h1,h2⟩:=o.w.qc _ _ bz j hj
     rw[if_neg (hold _ _ h1)];exact⟨y,h1,h2⟩}
  c:=λi c' cA=>Ca o i c' cA
  h:=λi j g' hg=>by
   rcases rn i j g' hg with⟨rfl,rfl,rfl⟩|⟨_,h1⟩
   ·have:=oh.mono (T':=T+1) aa
    exact{this with
     co:=NB vR oh.co
     cn:=NA oh.cn ht
     sM:=by show(cV cL h.co tg k).length<=4;rw[(uU (lt:=cL) h.co tg k).length_eq,List.length_cons];omega}
   ·exact(o.h _ _ _ h1).mono aa
  part:=λi j g' hg=>by
   rcases rn i j g' hg with⟨rfl,rfl,rfl⟩|⟨_,h1⟩
   ·exactλhi hw=>o.part _ _ h hh hi hw
   ·exact o.part _ _ _ h1
  q:=λi q' bz=>by
   rw[qF]at bz
   by_cases e:i=nm
   ·subst e
    rw[if_pos rfl,hq]at bz
    cases bz
    have oq:=o.q _ _ hq
    refine⟨oq.lim,oq.jl,oq.msg,?_⟩
    show(q.cons++[k]).Nodup
    rw[List.nodup_append]
    refine⟨oq.cons,al,λa ha b hb=>?_⟩
    simp only[List.mem_singleton]at hb
    obtain⟨y,h1,_⟩:=o.w.qc _ _ hq a ha
    rw[hb];exact hold _ _ h1
   ·rw[if_neg e]at bz;exact o.q _ _ bz
  cnt:=λi q' bz=>by
   rw[qF]at bz
   have key:∀q0,n.q? i=some q0->q'.ready=q0.ready->q'.held=q0.held->wJ (n.ki id no nm tg na) i q':=λq0 h0 h1 h2=>by
    have oc:=o.cnt _ _ h0
    refine wJ.same (n:=n) ⟨by rw[h2];exact oc.held,by rw[h1];exact oc.one,by rw[h1];exact oc.no⟩ (same _ λg=>rfl) (λs=>same _ λg=>rfl) rfl
   by_cases e:i=nm
   ·rw[if_pos e]at bz
    obtain⟨q0,h0,rfl⟩:=Option.map_eq_some_iff.1 bz
    exact key q0 h0 rfl rfl
   ·rw[if_neg e]at bz;exact key q' bz rfl rfl
  x:=λi y hy=>by
   rw[sG]at hy
   show(1<=i/\i<=n.bh+1)/\_
   split at hy
   ·rename_i e;cases hy;exact⟨⟨aa,aa⟩,AV⟩
   ·have:=o.x _ _ hy;exact⟨⟨this.1.1,aa⟩,this.2⟩
  xn:=by
   show((n.xs++[(k,(⟨id,no,tg,nm,na⟩:XN))]).map (·.1)).Nodup
   rw[List.map_append,List.nodup_append]
   refine⟨o.xn,al,λa ha b hb=>?_⟩
   simp only[List.map_cons,List.map_nil,List.mem_singleton]at hb
   obtain⟨y,hy⟩:=Option.isSome_iff_exists.1 (lK.2 ha)
   rw[hb];exact hold a y hy
  xl:=by
   have h1:=tt λh=>h.co.length
   have h2:(f h).co.length=h.co.length+1:=by
    show(cV cL h.co tg k).length=_
    rw[(uU (lt:=cL) h.co tg k).length_eq,List.length_cons]
   have h3:=o.xl
   show(n.xs++[(k,(⟨id,no,tg,nm,na⟩:XN))]).length<=_
   rw[xS,List.length_append]
   simp only[List.length_cons,List.length_nil]
   omega
  gF:=⟨hT.1,by show n.messages<=T+1;omega⟩
  bh:=⟨by show 0<=n.bh+1;omega,by show n.bh+1<=T+1;omega⟩
  last:=o.last}
end
end Go.Qw
