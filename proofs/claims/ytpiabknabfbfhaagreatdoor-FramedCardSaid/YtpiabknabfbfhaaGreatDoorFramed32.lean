/- 32 -/
import Derived.Test.YtpiabknabfbfhaaGreatDoorFramed31
set_option linter.all false
set_option maxRecDepth 100000
set_option maxHeartbeats 8000000
namespace Go.Qw
def N.without(n:N)(l:List Int):N:={n with aL:=n.aL.map λe=>(e.1,{e.2 with cons:=e.2.cons.filter λk=>decide (k∉l)}),xs:=n.xs.filter λe=>decide (e.1∉l)}
section
variable {n:N}{T:Int}{K:Nat}{ex:List Int}{aI:Int}{no:Nat}{dE:Nat}{c:CN}{h:HN}{nm:List UInt8}{q:QN}{k:Int}{x:XN}{m:aQ}{l:List Int}
variable {id:Int}
@[simp] def JN:(n.without l).h? id no=n.h? id no:=rfl
@[simp] def arj:(n.without l).ar id=n.ar id:=rfl
def NC {β γ:Type}{α:Type}[DecidableEq α](l:List (α×β))(k:α)(f:β->γ):bw (l.map λe=>(e.1,f e.2)) k=(bw l k).map f:=by unfold bw;rw[List.find?_map,Option.map_map,Option.map_map];rfl
def Hb:(n.without l).q? nm=(n.q? nm).map λq=>{q with cons:=q.cons.filter λk=>decide (k∉l)}:=by unfold N.q? N.without;exact NC (γ:=QN) n.aL nm λq:QN=>{q with cons:=q.cons.filter λk=>decide (k∉l)}
def NB {β:Type}{α:Type}[DecidableEq α](l:List (α×β))(k:α)(p:α->Bool):bw (l.filter λe=>p e.1) k=if p k then bw l k else none:=by
 induction l with
 |nil=>simp[bw]
 |cons e l ih=>
  unfold bw at ih|-;rw[List.filter_cons];by_cases he:e.1=k
  ·subst he;by_cases hp:p e.1
   ·simp[hp]
   ·rw[if_neg hp,ih,if_neg hp,if_neg hp]
  ·by_cases hp:p e.1
   ·rw[if_pos hp,List.find?_cons,List.find?_cons];simp only[he,decide_false];exact ih
   ·rw[if_neg hp,List.find?_cons];simp only[he,decide_false];exact ih
def EU:(n.without l).x? k=if k∈l then none else n.x? k:=by unfold N.x? N.without;rw[NB n.xs k λa=>decide (a∉l)];by_cases h:k∈l<;>simp[h]
structure QX (n:N):Prop where
 nq:(n.aL.map (·.1)).Nodup
 qc:∀nm q,n.q? nm=some q->∀k∈q.cons,∃x,n.x? k=some x/\x.q=nm
 xq:∀k x,n.x? k=some x->(n.q? x.q).isSome
def Ok.qx (o:Ok T K ex n):QX n:=⟨o.nq,o.w.qc,o.w.xq⟩
def QX.without (o:QX n):QX (n.without l):=by
 refine⟨?_,λnm q hq k hk=>?_,λk x hx=>?_⟩
 ·have:((n.without l).aL.map (·.1))=n.aL.map (·.1):=by unfold N.without;rw[List.map_map];rfl
  rw[this];exact o.nq
 ·rw[Hb]at hq;obtain⟨q0,h0,rfl⟩:=Option.map_eq_some_iff.1 hq;obtain⟨h1,h2⟩:=List.mem_filter.1 hk;obtain⟨x,hx,hn⟩:=o.qc nm q0 h0 k h1;exact⟨x,by rw[EU,if_neg (aV h2)];exact hx,hn⟩
 ·rw[EU]at hx;split at hx
  ·cases hx
  ·have:=o.xq k x hx;rw[Hb];simpa using this
def OE (o:QX n):n.cancel k=n.without [k]:=by
 have hf:∀nm q,n.q? nm=some q->(∀x,n.x? k=some x->¬x.q=nm)->(q.cons.filter λj=>decide (j∉[k]))=q.cons:=λnm q hq hx=>List.filter_eq_self.2 λj hj=>by simp only[List.mem_singleton,decide_not,Bool.not_eq_eq_eq_not,Bool.not_true,decide_eq_false_iff_not];rintro rfl;obtain⟨x,h1,h2⟩:=o.qc nm q hq j hj;exact hx x h1 h2
 unfold N.cancel N.without
 cases hx:n.x? k with
 |none=>
  simp only[]
  have e1:(n.aL.map λe=>(e.1,{e.2 with cons:=e.2.cons.filter λj=>decide (j∉[k])}))=n.aL:=by
   have:(n.aL.map λe=>(e.1,{e.2 with cons:=e.2.cons.filter λj=>decide (j∉[k])}))=n.aL.map λe=>e:=List.map_congr_left λe he=>by rw[hf e.1 e.2 (ni o.nq he) λx h1=>by rw[hx]at h1;cases h1]
   rw[this,List.map_id']
  have e2:(n.xs.filter λe=>decide (e.1∉[k]))=n.xs:=List.filter_eq_self.2 λe he=>by have:=iF hx e he;simpa using this
  rw[e1,e2]
 |some x=>
  simp only[]
  have e1:(n.bF x.q λq=>{q with cons:=q.cons.filter λj=>decide (j≠k)}).aL=n.aL.map λe=>(e.1,{e.2 with cons:=e.2.cons.filter λj=>decide (j∉[k])}):=by
   unfold N.bF dw;apply List.map_congr_left;intro e he;by_cases hn:e.1=x.q
   ·rw[if_pos hn]
    have:(e.2.cons.filter λj=>decide (j≠k))=e.2.cons.filter λj=>decide (j∉[k]):=by apply List.filter_congr;intro j _;simp
    simp only[this]
   ·rw[if_neg hn,hf e.1 e.2 (ni o.nq he) λy hy=>by rw[hx]at hy;cases hy;exactλz=>hn z.symm]
  have e2:cH n.xs k=n.xs.filter λe=>decide (e.1∉[k]):=by unfold cH;apply List.filter_congr;intro e _;simp
  rw[<-e1,e2];rfl
def aqk {l':List Int}:(n.without l).without l'=n.without (l++l'):=by
 unfold N.without;simp only[List.map_map,List.filter_filter];congr 1
 ·apply List.map_congr_left;intro e _;simp only[Function.comp]
  have:((e.2.cons.filter λk=>decide (k∉l)).filter λk=>decide (k∉l'))=e.2.cons.filter λk=>decide (k∉l++l'):=by rw[List.filter_filter];apply List.filter_congr;intro k _;rw[Bool.eq_iff_iff];simp only[Bool.and_eq_true,decide_eq_true_eq,List.mem_append,not_or];exact And.comm
  rw[this]
 ·apply List.filter_congr;intro e _;rw[Bool.eq_iff_iff];simp only[Bool.and_eq_true,decide_eq_true_eq,List.mem_append,not_or];exact And.comm
def filter_all {α:Type}(l:List α):(l.filter λ_=>true)=l:=List.filter_eq_self.2 λ_ _=>rfl
def aqj:n.without []=n:=by unfold N.without;simp only[List.not_mem_nil,not_false_eq_true,decide_true,filter_all,List.map_id']
def OG (o:QX n){l:List (List UInt8×Int)}:n.jK l=n.without (l.map (·.2)):=by
 unfold N.jK
 induction l generalizing n with
 |nil=>rw[List.foldl_nil,List.map_nil,aqj]
 |cons e l ih=>
  rw[List.foldl_cons,OE o,ih o.without,aqk];rfl
def adZ {tag:Nat}{b:Bool}(hh:n.h? id no=some h):(n.settle id no tag b).h? id no=some {h with un:=cH h.un tag}:=by
 unfold N.settle;rw[hh]
 cases hu:bw h.un tag with
 |none=>
  simp only[Option.bind_some,hu,hh];have:cH h.un tag=h.un:=List.filter_eq_self.2 λe he=>by have:=iF hu e he;simpa using this
  rw[this]
 |some e=>
  simp only[Option.bind_some,hu];rw[AB,jN,if_pos ⟨rfl,rfl⟩,hh];rfl
def ad1 {tag:Nat}{b:Bool}(aE:¬(aI=id/\dE=no)):(n.settle id no tag b).h? aI dE=n.h? aI dE:=by
 unfold N.settle;split
 ·rfl
 ·rw[AB,jN,if_neg aE]
def Qu {p:Nat->Bool}{b:Bool}{l:List (Nat×(List UInt8×aQ))}(hh:n.h? id no=some h):
 (n.jD id no p b l).h? id no=some {h with un:=h.un.filter λe=> !(l.any λt=>decide (t.1=e.1)&&p t.1)}:=by
 unfold N.jD
 induction l generalizing n h with
 |nil=>rw[List.foldl_nil,hh];simp only[List.any_nil,Bool.not_false,filter_all]
 |cons t l ih=>
  rw[List.foldl_cons];by_cases hp:p t.1
  ·rw[if_pos hp,ih (adZ hh)]
   have:((cH h.un t.1).filter λe=> !(l.any λt=>decide (t.1=e.1)&&p t.1))=h.un.filter λe=> !((t::l).any λt=>decide (t.1=e.1)&&p t.1):=by
    unfold cH;rw[List.filter_filter];apply List.filter_congr;intro e _;simp only[List.any_cons,hp,Bool.and_true,Bool.not_or];rw[Bool.and_comm];congr 1;by_cases h1:e.1=t.1
    ·simp[h1]
    ·have h2:¬t.1=e.1:=λx=>h1 x.symm;simp[h1,h2]
   simp only[this]
  ·rw[if_neg hp,ih hh]
   have:(h.un.filter λe=> !(l.any λt=>decide (t.1=e.1)&&p t.1))=h.un.filter λe=> !((t::l).any λt=>decide (t.1=e.1)&&p t.1):=by apply List.filter_congr;intro e _;simp[hp]
   rw[this]
def ad0 {p:Nat->Bool}{b:Bool}{l:List (Nat×(List UInt8×aQ))}(aE:¬(aI=id/\dE=no)):(n.jD id no p b l).h? aI dE=n.h? aI dE:=by
 unfold N.jD
 induction l generalizing n with
 |nil=>rfl
 |cons t l ih=>
  rw[List.foldl_cons,ih];split
  ·exact ad1 aE
  ·rfl
def Mm {l:List (Nat×(List UInt8×aQ))}:n.kM id no l=n.jD id no (λ_=>true) true l:=by unfold N.kM N.jD;rfl
def Qr (hh:n.h? id no=some h):(n.release id no).h? id no=some {h with un:=[],co:=[]}:=by
 rw[Bu hh,Mm];have h1:((n.jK h.co).bA id no λh=>{h with co:=[]}).h? id no=some {h with co:=[]}:=by rw[jN,if_pos ⟨rfl,rfl⟩,FM,hh];rfl
 rw[Qu h1]
 have:(h.un.filter λe=> !(h.un.any λt=>decide (t.1=e.1)&&true))=[]:=List.filter_eq_nil_iff.2 λe he=>by simp only[Bool.and_true,Bool.not_eq_eq_eq_not,Bool.not_true,Bool.not_eq_false,List.any_eq_true,decide_eq_true_eq];exact⟨e,he,rfl⟩
 simp only[this]
def Qs (aE:¬(aI=id/\dE=no)):(n.release id no).h? aI dE=n.h? aI dE:=by
 cases hh:n.h? id no with
 |none=>unfold N.release;rw[hh]
 |some h=>rw[Bu hh,Mm,ad0 aE,jN,if_neg aE,FM]
def PF {α:Type}(l:List α)(p:α->Prop)[DecidablePred p]:(l.filter λa=>decide (p a)).length+(l.filter λa=>decide (¬p a)).length=l.length:=by
 induction l with
 |nil=>rfl
 |cons a l ih=>by_cases h:p a<;>simp[h]at ih|-<;>omega
def OV (o:Ok T K ex n)(hh:n.h? id no=some h):(h.co.map (·.2)).Nodup:=by
 have oh:=o.h _ _ _ hh
 have key:∀l:List (List UInt8×Int),(∀e∈l,e∈h.co)->(l.map (·.1)).Nodup->(l.map (·.2)).Nodup:=λl=>by
  induction l with
  |nil=>intro _ _;simp
  |cons e l ih=>
   intro h1 h2;rw[List.map_cons,List.nodup_cons]at h2|-;refine⟨λhm=>?_,ih (λe he=>h1 e (by simp[he])) h2.2⟩;obtain⟨e',fT,hv⟩:=List.mem_map.1 hm;obtain⟨x,hx,_,_,ht⟩:=o.w.co _ _ _ hh e (h1 e ak);obtain⟨x',cY,_,_,Gy⟩:=o.w.co _ _ _ hh e' (h1 e' (by simp[fT]));rw[hv,hx]at cY
   cases cY
   exact h2.1 (by rw[<-ht,Gy];exact List.mem_map_of_mem (f:=(·.1)) fT)
 exact key h.co (λ_ h=>h) oh.cn
def Ok.nJ (o:Ok T K ex n)(hh:n.h? id no=some h)(L:List Int){f:HN->HN}(hf:∀h,(f h).r=h.r/\(f h).un=h.un)(qD:(f h).co=h.co.filter λe=>decide (e.2∉L))(hL:∀k∈L,k∈h.co.map (·.2)):Ok T K ex ((n.without L).bA id no f):=by
 have oh:=o.h _ _ _ hh;have jT:(f h).co.Sublist h.co:=by rw[qD];exact List.filter_sublist
 have tt:=λw:HN->Nat=>EL o hh f w;have xU:∀w:HN->Nat,((n.without L).bA id no f).eu w=(n.bA id no f).eu w:=λ_=>rfl
 have same:∀w:HN->Nat,(∀g:HN,w (f g)=w g)->((n.without L).bA id no f).eu w=n.eu w:=λw hw=>by have:=tt w;rw[hw]at this;rw[xU];omega
 have rJ:((n.without L).bA id no f).aL.map (·.1)=n.aL.map (·.1):=by have:((n.without L).bA id no f).aL=(n.without L).aL:=rfl;rw[this];unfold N.without;rw[List.map_map];rfl
 have sH:((n.without L).bA id no f).aD.map (·.1)=n.aD.map (·.1):=rn (n:=n) (f:=λc=>{c with ch:=dw c.ch no f});have lk:((n.without L).bA id no f).aD.length=n.aD.length:=by have:=congrArg List.length sH;simpa using this
 have D1:((n.without L).bA id no f).aL.length=n.aL.length:=by have:=congrArg List.length rJ;simpa using this
 have qJ:∀i,((n.without L).bA id no f).q? i=(n.q? i).map λq=>{q with cons:=q.cons.filter λk=>decide (k∉L)}:=λi=>by rw[Ha,Hb]
 have sP:∀i,((n.without L).bA id no f).x? i=if i∈L then none else n.x? i:=λi=>by rw[aqI,EU]
 have rE:∀i j g',((n.without L).bA id no f).h? i j=some g'->(i=id/\j=no/\g'=f h)\/(¬(i=id/\j=no)/\n.h? i j=some g'):=λi j g' hg=>by
  rw[jN,JN]at hg;by_cases e:i=id/\j=no
  ·obtain⟨rfl,rfl⟩:=e;rw[if_pos ⟨rfl,rfl⟩,hh]at hg
   cases hg;exact .inl ⟨rfl,rfl,rfl⟩
  ·rw[if_neg e]at hg;exact .inr ⟨e,hg⟩
 have hLx:∀k∈L,∃x,n.x? k=some x/\x.id=id/\x.no=no/\bw h.co x.tag=some k:=λk hk=>by obtain⟨e,he,rfl⟩:=List.mem_map.1 (hL k hk);obtain⟨x,h1,h2,h3,h4⟩:=o.w.co _ _ _ hh e he;exact⟨x,h1,h2,h3,by rw[h4];exact ni oh.cn he⟩
 exact{
  cfg:=o.cfg
  sc:=by rw[sH];exact o.sc
  lc:=by rw[lk];exact o.lc
  ids:=λi hi=>o.ids i (lR.2 (by rw[<-sH];exact lR.1 hi))
  sq:=by rw[rJ];exact o.sq
  nq:=by rw[rJ];exact o.nq
  lq:=by rw[D1];exact o.lq
  w:={
   un:=λi j g' hg e he=>by
    rw[qJ]
    rcases rE i j g' hg with⟨rfl,rfl,rfl⟩|⟨_,h1⟩
    ·have:=o.w.un _ _ _ hh e (by rw[(hf h).2]at he;exact he);simpa using this
    ·have:=o.w.un _ _ _ h1 e he;simpa using this
   xq:=λk x hx=>by
    rw[sP]at hx
    split at hx
    ·cases hx
    ·rw[qJ];have:=o.w.xq k x hx;simpa using this
   xh:=λk x hx=>by
    rw[sP]at hx
    split at hx
    ·cases hx
    ·rename_i hk
     obtain⟨g,h1,h2⟩:=o.w.xh k x hx
     by_cases e:x.id=id/\x.no=no
     ·obtain⟨e1,e2⟩:=e
      rw[e1,e2]at h1|-
      rw[hh]at h1
      cases h1
      refine⟨f h,by rw[jN,JN,if_pos ⟨rfl,rfl⟩,hh];rfl,?_⟩
      rw[qD]
      exact ni (by rw[<-qD];exact oh.cn.sublist (jT.map _)) (List.mem_filter.2 ⟨gI h2,aV hk⟩)
     ·exact⟨g,by rw[jN,JN,if_neg e];exact h1,h2⟩
   co:=λi j g' hg e he=>by
    rw[sP]
    rcases rE i j g' hg with⟨rfl,rfl,rfl⟩|⟨aE,h1⟩
    ·rw[qD]at he
     obtain⟨J5,J6⟩:=List.mem_filter.1 he
     rw[if_neg (aV J6)]
     exact o.w.co _ _ _ hh e J5
    ·obtain⟨x,h2,h3,h4,h5⟩:=o.w.co _ _ _ h1 e he
     rw[if_neg]
     ·exact⟨x,h2,h3,h4,h5⟩
     ·intro hm
      obtain⟨y,k1,k2,k3,_⟩:=hLx _ hm
      rw[h2]at k1
      cases k1
      exact aE ⟨by rw[<-h3,k2],by rw[<-h4,k3]⟩
   qc:=λnm q' bu k hk=>by
    rw[qJ]at bu
    obtain⟨q,h1,rfl⟩:=Option.map_eq_some_iff.1 bu
    obtain⟨k1,k2⟩:=List.mem_filter.1 hk
    rw[sP,if_neg (by simpa using k2)]
    exact o.w.qc nm q h1 k k1}
  c:=λi c' cF=>B9 o i c' cF
  h:=λi j g' hg=>by
   rcases rE i j g' hg with⟨rfl,rfl,rfl⟩|⟨_,h1⟩
   ·obtain⟨f1,f2⟩:=hf h
    exact⟨by rw[f2];exact oh.un,by rw[f1,f2];exact oh.ut,by rw[f1];exact oh.tag,oh.co.sublist (jT.map _),oh.cn.sublist (jT.map _),Nat.le_trans jT.length_le oh.s6,by rw[f1];exact oh.want,by rw[f1];exact oh.body,by rw[f1];exact oh.size,by rw[f1];exact oh.key,by rw[f2];exact oh.msg⟩
   ·exact o.h _ _ _ h1
  part:=λi j g' hg=>by
   rcases rE i j g' hg with⟨rfl,rfl,rfl⟩|⟨_,h1⟩
   ·rw[(hf h).1];exact o.part _ _ _ hh
   ·exact o.part _ _ _ h1
  q:=λnm q' bu=>by
   rw[qJ]at bu
   obtain⟨q,h1,rfl⟩:=Option.map_eq_some_iff.1 bu
   exact⟨(o.q _ _ h1).lim,(o.q _ _ h1).jq,(o.q _ _ h1).msg,(o.q _ _ h1).cons.sublist List.filter_sublist⟩
  cnt:=λnm q' bu=>by
   rw[qJ]at bu
   obtain⟨q,h1,rfl⟩:=Option.map_eq_some_iff.1 bu
   exact wN.same (q:={q with cons:=_}) ⟨(o.cnt _ _ h1).held,(o.cnt _ _ h1).one,(o.cnt _ _ h1).no⟩ (same _ λg=>by rw[(hf g).2]) (λs=>same _ λg=>by rw[(hf g).2]) rfl
  x:=λk x hx=>by
   rw[sP]at hx
   split at hx
   ·cases hx
   ·exact o.x k x hx
  xn:=o.xn.sublist (List.Sublist.map _ List.filter_sublist)
  xl:=by
   have h1:=tt λh=>h.co.length
   rw[xU]
   have h2:(f h).co.length+(h.co.filter λe=>decide (e.2∈L)).length=h.co.length:=by
    rw[qD]
    have:=PF h.co λe=>e.2∈L
    omega
   have h3:(h.co.filter λe=>decide (e.2∈L)).length<=(n.xs.filter λe=>decide (e.1∈L)).length:=by
    have hn:((h.co.filter λe=>decide (e.2∈L)).map (·.2)).Nodup:=(OV o hh).sublist (List.Sublist.map _ List.filter_sublist)
    have:=LK (m:=(n.xs.filter λe=>decide (e.1∈L)).map (·.1)) hn λk hk=>by
     obtain⟨e,he,rfl⟩:=List.mem_map.1 hk
     obtain⟨h4,h5⟩:=List.mem_filter.1 he
     obtain⟨x,h6,_⟩:=o.w.co _ _ _ hh e h4
     exact List.mem_map.2 ⟨(e.2,x),List.mem_filter.2 ⟨gI h6,h5⟩,rfl⟩
    simpa using this
   have h4:(n.xs.filter λe=>decide (e.1∈L)).length+(n.xs.filter λe=>decide (e.1∉L)).length=n.xs.length:=PF n.xs λe=>e.1∈L
   have h5:=o.xl
   show(n.xs.filter λe=>decide (e.1∉L)).length<=_
   omega
  gE:=o.gE
  aY:=o.aY
  last:=o.last}
end
def sum_add{α:Type}(l:List α)(f g:α->Nat):(l.map λa=>f a+g a).sum=(l.map f).sum+(l.map g).sum:=by
 induction l with
 |nil=>rfl
 |cons a l ih=>simp only[List.map_cons,List.sum_cons,ih];omega
variable {k:Int}
def aiN{un:List (Nat×(List UInt8×aQ))}{ks:List (List UInt8)}(h:∀e∈un,e.2.1∈ks):un.length<=(ks.map λk=>un.countP λe=>decide (e.2.1=k)).sum:=by
 induction un with
 |nil=>simp
 |cons e un ih=>
  have h1:=ih λe he=>h e (by simp[he])
  have h2:(ks.map λk=>(e::un).countP λe=>decide (e.2.1=k))=ks.map λk=>(un.countP λe=>decide (e.2.1=k))+(if e.2.1=k then 1 else 0):=by apply List.map_congr_left;intro k _;rw[List.countP_cons];simp only[decide_eq_true_eq]
  rw[h2,sum_add ks (λk=>un.countP λe=>decide (e.2.1=k)) λk=>if e.2.1=k then 1 else 0];have h3:(if e.2.1=e.2.1 then 1 else 0)<=(ks.map λk=>if e.2.1=k then 1 else 0).sum:=Lh (f:=λk=>if e.2.1=k then 1 else 0) (h e ak);rw[if_pos rfl]at h3;simp only[List.length_cons];omega
def ai8{l:List Nat}(s:l.Pairwise (·<·))(B:Nat)(h:∀a∈l,1<=a/\a<=B):l.length<=B:=by
 have:=LK (Bb s) (m:=(List.range B).map (·+1)) λa ha=>by have:=h a ha;exact List.mem_map.2 ⟨a-1,List.mem_range.2 aa,aa⟩
 simpa using this
section
variable {n:N}{T:Int}{K:Nat}{ex:List Int}{aI:Int}{no:Nat}{dE:Nat}{c:CN}{h:HN}{nm:List UInt8}{q:QN}{k:Int}{x:XN}{m:aQ}{l:List Int}
variable {id:Int}
def Ok.held (o:Ok T K ex n)(hq:n.q? nm=some q):0<=q.held/\q.held<=50/\q.ready.length<=50:=by have h1:=(o.cnt _ _ hq).held;have h2:=(o.q _ _ hq).lim;have h3:=o.cfg.queue;omega
def Ok.Sq (o:Ok T K ex n)(hc:n.ar id=some c):c.ch.length<=8:=by
 have:=ai8 (o.c _ _ hc).jq 8 λa ha=>by obtain⟨e,he,rfl⟩:=List.mem_map.1 ha;exact(o.c _ _ hc).no e he
 simpa using this
def Ok.D3 (o:Ok T K ex n)(hh:n.h? id no=some h):h.un.length<=400:=by
 have h1:=aiN (un:=h.un) (ks:=n.aL.map (·.1)) λe he=>lR.1 (o.w.un _ _ _ hh e he);rw[List.map_map]at h1
 have h2:((n.aL.map ((λk=>h.un.countP λe=>decide (e.2.1=k))∘(·.1))).sum)<=n.aL.length*50:=Hu λe he=>by have hq:n.q? e.1=some e.2:=ni o.nq he;have h3:=(o.cnt _ _ hq).held;have h4:=o.held hq;have h5:(h.un.countP λt=>decide (t.2.1=e.1))<=n.gY e.1:=Li (w:=λh:HN=>h.un.countP λt=>decide (t.2.1=e.1)) hh;simp only[Function.comp];omega
 have h6:=o.lq;omega
def Ok.UU (o:Ok T K ex n){w:HN->Nat}{B:Nat}(hw:∀id no h,n.h? id no=some h->w h<=B):n.eu w<=32*B:=by
 have h1:n.eu w<=n.aD.length*(8*B):=Hu λe he=>by
  have hc:n.ar e.1=some e.2:=ni o.nc he
  have h2:(e.2.ch.map λg=>w g.2).sum<=e.2.ch.length*B:=Hu λg hg=>by
   have:n.h? e.1 g.1=some g.2:=by unfold N.h?;rw[hc];exact ni (yx hc o) hg
   exact hw _ _ _ this
  have h3:=o.Sq hc;exact Nat.le_trans h2 (Nat.mul_le_mul_right B h3)
 have h2:=o.lc;have h3:n.aD.length*(8*B)<=4*(8*B):=Nat.mul_le_mul_right _ h2;omega
def Ok.lxs (o:Ok T K ex n):n.xs.length<=128:=by have h1:=o.UU (w:=λh=>h.co.length) (B:=4) λid no h hh=>(o.h _ _ _ hh).s6;have h2:=o.xl;omega
def Ok.GP (o:Ok T K ex n)(hq:n.q? nm=some q):q.cons.length<=128:=by
 have h1:=LK (o.q _ _ hq).cons (m:=n.xs.map (·.1)) λk hk=>by obtain⟨x,hx,_⟩:=o.w.qc _ _ hq k hk;exact List.mem_map_of_mem (f:=(·.1)) (gI hx)
 have h2:=o.lxs;rw[List.length_map]at h1;omega
def Ok.Zt (o:Ok T K ex n)(hx:n.x? k=some x):E1 n k:=by obtain⟨q,hq⟩:=Option.isSome_iff_exists.1 (o.w.xq k x hx);exact⟨x,q,hx,hq,by have:=o.GP hq;omega,λj hj=>by obtain⟨y,hy,_⟩:=o.w.qc _ _ hq j hj;rw[hy];rfl⟩
def Ok.Zs (o:Ok T K ex n){e:Nat×(List UInt8×aQ)}(hh:n.h? id no=some h)(hu:bw h.un e.1=some e.2):H6 n id no e:=by obtain⟨q,hq⟩:=Option.isSome_iff_exists.1 (o.w.un _ _ _ hh _ (gI hu));simp only at hq;have h1:=o.held hq;have h2:=(o.cnt _ _ hq).held;have h3:(h.un.countP λt=>decide (t.2.1=e.2.1))<=n.gY e.2.1:=Li (w:=λh:HN=>h.un.countP λt=>decide (t.2.1=e.2.1)) hh;have h4:0<h.un.countP λt=>decide (t.2.1=e.2.1):=List.countP_pos_iff.2 ⟨_,gI hu,ak⟩;exact⟨h,q,hh,hu,hq,aa,aa,(o.q _ _ hq).jq⟩
def U1 {α:Type}{p:α->Bool}{e f:α}(aE:e≠f)(he:p e=true)(hf:p f=true):∀{l:List α},e∈l->f∈l->2<=l.countP p
 |x::l,h1,h2=>by
  have c:∀{z},z∈l->p z=true->0<l.countP p:=λh k=>List.countP_pos_iff.2 ⟨_,h,k⟩;rcases List.mem_cons.1 h1 with rfl|k1<;>rcases List.mem_cons.1 h2 with rfl|k2
  ·exact absurd rfl aE
  ·have:=c k2 hf;rw[List.countP_cons_of_pos he];omega
  ·have:=c k1 he;rw[List.countP_cons_of_pos hf];omega
  ·have:=U1 aE he hf k1 k2;rw[List.countP_cons];omega
def Ok.Ul (o:Ok T K ex n)(hh:n.h? id no=some h):tA h.un:=by intro e he f hf h1 h2 h3;obtain⟨q,hq⟩:=Option.isSome_iff_exists.1 (o.w.un _ _ _ hh _ he);have h4:=(o.cnt _ _ hq).one e.2.2.seq;have h5:(h.un.countP λt=>decide (t.2.1=e.2.1)&&decide (t.2.2.seq=e.2.2.seq))<=n.cnt e.2.1 e.2.2.seq:=Li (w:=λh:HN=>h.un.countP λt=>decide (t.2.1=e.2.1)&&decide (t.2.2.seq=e.2.2.seq)) hh;have h6:=U1 (p:=λt:Nat×(List UInt8×aQ)=>decide (t.2.1=e.2.1)&&decide (t.2.2.seq=e.2.2.seq)) (λx=>h1 (by rw[x])) ak (by simp[h2,h3]) he hf;omega
def Ok.OD (o:Ok T K ex n)(hh:n.h? id no=some h)(p:Nat->Bool)(b:Bool):H7 n id no h p b:=by have ir:=Bb (o.h _ _ _ hh).un;refine⟨ir,o.Ul hh,by have:=o.D3 hh;omega,λl e he hn _=>?_⟩;refine(o.jD (id:=id) (no:=no) (p:=p) (b:=b) (l:=l)).Zs (Qu hh) ?_;refine ni (ir.sublist (List.Sublist.map _ List.filter_sublist)) (List.mem_filter.2 ⟨he,?_⟩);simp only[Bool.not_eq_eq_eq_not,Bool.not_true,List.any_eq_false,Bool.and_eq_true,decide_eq_true_eq,not_and];intro x hx k;exact absurd k (hn x hx)
def Ok.rR (o:Ok T K ex n)(hh:n.h? id no=some h):Ok T K ex ((n.jK h.co).bA id no λh=>{h with co:=[]}):=by
 rw[OG o.qx];refine o.nJ hh _ (λ_=>⟨rfl,rfl⟩) ?_ λk hk=>hk
 symm
 refine List.filter_eq_nil_iff.2 λe he=>?_;simp only[decide_not,Bool.not_eq_eq_eq_not,Bool.not_true,decide_eq_false_iff_not,Decidable.not_not];exact List.mem_map_of_mem (f:=(·.2)) he
def Ok.Fs (o:Ok T K ex n)(hh:n.h? id no=some h):yg n id no h:=by
 have oh:=o.h _ _ _ hh;refine⟨oh.co,Bb oh.un,o.Ul hh,by have:=oh.s6;omega,by have:=o.D3 hh;omega,λj hj=>?_,λl e he hn=>?_⟩
 ·obtain⟨x,hx,_,_,_⟩:=o.w.co _ _ _ hh _ (List.getElem_mem hj);rw[OG o.qx];have hq:=o.w.xq _ _ hx;obtain⟨q,hq⟩:=Option.isSome_iff_exists.1 hq
  have oa:h.co[j].2∉(h.co.take j).map (·.2):=by intro hm;obtain⟨e,he,hv⟩:=List.mem_map.1 hm;obtain⟨i,hi,rfl⟩:=List.getElem_of_mem he;rw[List.length_take]at hi;rw[List.getElem_take]at hv;have h1:(h.co.map (·.2))[i]'(by simp;omega)=(h.co.map (·.2))[j]'(aV hj):=aV hv;exact(List.pairwise_iff_getElem.1 (OV o hh)) i j (by simp;omega) (aV hj) aa h1
  refine⟨x,_,by rw[EU,if_neg oa];exact hx,by rw[Hb,hq];rfl,?_,λi hi=>?_⟩
  ·have h1:=o.GP hq;have h2:(q.cons.filter λk=>decide (k∉(h.co.take j).map (·.2))).length<=q.cons.length:=List.length_filter_le _ _;simp only;omega
  ·obtain⟨h1,h2⟩:=List.mem_filter.1 hi;obtain⟨y,hy,_⟩:=o.w.qc _ _ hq i h1;rw[EU,if_neg (aV h2),hy];rfl
 ·have h1:((n.jK h.co).bA id no λh=>{h with co:=[]}).h? id no=some {h with co:=[]}:=by rw[jN,if_pos ⟨rfl,rfl⟩,FM,hh];rfl
  rw[Mm];exact((o.rR hh).OD h1 (λ_=>true) true).step l e he hn rfl
def Ok.release (o:Ok T K ex n):Ok T K ex (n.release id no):=by
 cases hh:n.h? id no with
 |none=>unfold N.release;rw[hh];exact o
 |some h=>rw[Bu hh];exact(o.rR hh).kM
def Ok.gM (o:Ok T K ex n){l:List (Nat×HN)}:Ok T K ex (n.gM id l):=by
 unfold N.gM
 induction l generalizing n with
 |nil=>exact o
 |cons e l ih=>rw[List.foldl_cons];exact ih o.release
def Qt {l:List (Nat×HN)}(aE:∀e∈l,¬(aI=id/\dE=e.1)):(n.gM id l).h? aI dE=n.h? aI dE:=by
 unfold N.gM
 induction l generalizing n with
 |nil=>rfl
 |cons e l ih=>rw[List.foldl_cons,ih λe he=>aE e (by simp[he])];exact Qs (aE e ak)
def Fu {f:HN->HN}:((n.bA id no f).ar aI).map (λc=>c.ch.map (·.1))=(n.ar aI).map λc=>c.ch.map (·.1):=by
 rw[vl];split
 ·cases n.ar aI with
  |none=>rfl
  |some c=>simp only[Option.map_some];congr 1;exact oE _ _ _ λx=>x
 ·rfl
def ZV {tag:Nat}{b:Bool}:((n.settle id no tag b).ar aI).map (λc=>c.ch.map (·.1))=(n.ar aI).map λc=>c.ch.map (·.1):=by
 unfold N.settle;split
 ·rfl
 ·rw[yz];exact Fu
def ZW {l:List (Nat×(List UInt8×aQ))}:((n.kM id no l).ar aI).map (λc=>c.ch.map (·.1))=(n.ar aI).map λc=>c.ch.map (·.1):=by
 unfold N.kM
 induction l generalizing n with
 |nil=>rfl
 |cons e l ih=>rw[List.foldl_cons,ih];exact ZV
def ZT:((n.release id no).ar aI).map (λc=>c.ch.map (·.1))=(n.ar aI).map λc=>c.ch.map (·.1):=by
 cases hh:n.h? id no with
 |none=>unfold N.release;rw[hh]
 |some h=>rw[Bu hh,ZW,Fu,OT]
def IH {l:List (Nat×HN)}:((n.gM id l).ar aI).map (λc=>c.ch.map (·.1))=(n.ar aI).map λc=>c.ch.map (·.1):=by
 unfold N.gM
 induction l generalizing n with
 |nil=>rfl
 |cons e l ih=>rw[List.foldl_cons,ih];exact ZT
def Ok.Fq (o:Ok T K ex n)(hc:n.ar id=some c):zV n id c:=by
 refine⟨(o.c _ _ hc).jq,by have:=o.Sq hc;omega,λj=>?_,λj hj=>?_⟩
 ·have:=IH (n:=n) (id:=id) (aI:=id) (l:=c.ch.take j);rw[hc,Option.map_some]at this;obtain⟨cj,h1,h2⟩:=Option.map_eq_some_iff.1 this;exact⟨cj,h1,h2⟩
 ·have h1:n.h? id c.ch[j].1=some c.ch[j].2:=by unfold N.h?;rw[hc];exact ni (yx hc o) (List.getElem_mem hj)
  have h2:(n.gM id (c.ch.take j)).h? id c.ch[j].1=some c.ch[j].2:=by rw[Qt λe he hx=>G2 (yx hc o) hj e he hx.2.symm];exact h1
  exact⟨_,h2,(o.gM (id:=id) (l:=c.ch.take j)).Fs h2⟩
end
section
variable {n:N}{T:Int}{K:Nat}{ex:List Int}{fD:List Int}{aI:Int}{no:Nat}{dE:Nat}{c:CN}{h:HN}{nm:List UInt8}{q:QN}{k:Int}{x:XN}{l:List Int}
variable {id:Int}
def UM {α:Type}(l:List α)(p:α->Bool)(f:α->Nat)(h:∀a∈l,p a=false->f a=0):((l.filter p).map f).sum=(l.map f).sum:=by
 induction l with
 |nil=>rfl
 |cons a l ih=>
  have ih:=ih λb hb=>h b (by simp[hb])
  cases hp:p a with
  |true=>rw[List.filter_cons_of_pos hp];simp only[List.map_cons,List.sum_cons,ih]
  |false=>rw[List.filter_cons_of_neg (by simp[hp])];simp only[List.map_cons,List.sum_cons,ih,h a ak hp];omega
def Qq {p:Nat->Bool}:(n.dn id λc=>{c with ch:=c.ch.filter λe=>p e.1}).h? aI dE=if aI=id/\p dE=false then none else n.h? aI dE:=by
 unfold N.h?;rw[ql];by_cases e:aI=id
 ·subst e;rw[if_pos rfl]
  cases n.ar aI with
  |none=>simp
  |some c=>
   simp only[Option.map_some,Option.bind_some,true_and];rw[NB c.ch dE p]
   cases p dE<;>simp
 ·rw[if_neg e,if_neg λx=>e x.1]
def Ok.Sf (o:Ok T K ex n)(p:Nat->Bool)(he:∀no h,n.h? id no=some h->p no=false->h.un=[]/\h.co=[])(hx:∀i∈ex,i∈fD\/(i=id/\∀no,p no=false)):
 Ok T K fD (n.dn id λc=>{c with ch:=c.ch.filter λe=>p e.1}):=by
 have same:∀w:HN->Nat,(∀h:HN,h.un=[]->h.co=[]->w h=0)->(n.dn id λc=>{c with ch:=c.ch.filter λe=>p e.1}).eu w=n.eu w:=λw hw=>by
  cases hc:n.ar id with
  |none=>
   exact MC (f:=λc:CN=>{c with ch:=c.ch.filter λe=>p e.1}) (g:=λc:CN=>(c.ch.map λg:Nat×HN=>w g.2).sum) (λv hv=>by rw[N.ar]at hc;rw[hc]at hv;cases hv) o.nc
  |some c=>
   have h1:=MM (w:=w) o.nc hc λc=>{c with ch:=c.ch.filter λe=>p e.1}
   have h2:=UM c.ch (λe=>p e.1) (λg=>w g.2) λg hg hp=>by
    have:n.h? id g.1=some g.2:=by unfold N.h?;rw[hc];exact ni (yx hc o) hg
    obtain⟨h3,h4⟩:=he _ _ this hp;exact hw _ h3 h4
   simp only at h1;rw[h2]at h1;omega
 have sub:∀i j g,(n.dn id λc=>{c with ch:=c.ch.filter λe=>p e.1}).h? i j=some g->n.h? i j=some g/\¬(i=id/\p j=false):=λi j g hg=>by
  rw[Qq]at hg;split at hg
  ·cases hg
  ·rename_i aE;exact⟨hg,aE⟩
 have lk:(n.dn id λc=>{c with ch:=c.ch.filter λe=>p e.1}).aD.length=n.aD.length:=by have:=congrArg List.length (rn (n:=n) (id:=id) (f:=λc=>{c with ch:=c.ch.filter λe=>p e.1}));simpa using this
 exact{
  cfg:=o.cfg
  sc:=by rw[rn];exact o.sc
  lc:=by rw[lk];exact o.lc
  ids:=λi hi=>o.ids i (lR.2 (by rw[<-rn];exact lR.1 hi))
  sq:=o.sq
  nq:=o.nq
  lq:=o.lq
  w:={
   un:=λi j g hg=>o.w.un _ _ _ (sub _ _ _ hg).1
   xq:=o.w.xq
   xh:=λk x hx=>by
    obtain⟨g,h1,h2⟩:=o.w.xh k x hx
    refine⟨g,?_,h2⟩
    rw[Qq,if_neg]
    ·exact h1
    ·rintro⟨e1,e2⟩
     obtain⟨_,h4⟩:=he _ _ (by rw[<-e1];exact h1) e2
     rw[h4]at h2;cases h2
   co:=λi j g hg=>o.w.co _ _ _ (sub _ _ _ hg).1
   qc:=o.w.qc}
  c:=λi c' cF=>by
   rw[ql]at cF
   by_cases e:i=id
   ·subst e
    rw[if_pos rfl]at cF
    obtain⟨c,hc,rfl⟩:=Option.map_eq_some_iff.1 cF
    have oc:=o.c _ _ hc
    exact⟨oc.r,oc.jq.sublist (List.Sublist.map _ List.filter_sublist),λe he=>oc.no e (List.filter_sublist.subset he)⟩
   ·rw[if_neg e]at cF;exact o.c _ _ cF
  h:=λi j g hg=>o.h _ _ _ (sub _ _ _ hg).1
  part:=λi j g hg hi=>o.part _ _ _ (sub _ _ _ hg).1 λhm=>by
   rcases hx i hm with h1|⟨h1,h2⟩
   ·exact hi h1
   ·exact(sub _ _ _ hg).2 ⟨h1,h2 j⟩
  q:=o.q
  cnt:=λnm q hq=>(o.cnt nm q hq).same (same _ λh h1 _=>by rw[h1];rfl) (λs=>same _ λh h1 _=>by rw[h1];rfl) rfl
  x:=o.x
  xn:=o.xn
  xl:=by rw[same _ λh _ h2=>by rw[h2];rfl];exact o.xl
  gE:=o.gE
  aY:=o.aY
  last:=o.last}
def Ok.lJ (o:Ok T K ex n):Ok T K ex (n.lJ id no):=by
 have:=(o.release (id:=id) (no:=no)).Sf (id:=id) (fD:=ex) (λa=>decide (a≠no)) (λj g hg hp=>by
  have:j=no:=aV hp
  subst this
  cases hh:n.h? id j with
  |none=>unfold N.release at hg;rw[hh]at hg;simp only at hg;rw[hh]at hg;cases hg
  |some h=>rw[Qr hh]at hg;cases hg;exact⟨rfl,rfl⟩) λi hi=>.inl hi
 exact this
def adY {l:List (Nat×HN)}(nd:(l.map (·.1)).Nodup){e:Nat×HN}(hm:e∈l)(hh:n.h? id e.1=some h):(n.gM id l).h? id e.1=some {h with un:=[],co:=[]}:=by
 unfold N.gM
 induction l generalizing n with
 |nil=>cases hm
 |cons a l ih=>
  rw[List.map_cons,List.nodup_cons]at nd;rw[List.foldl_cons];rcases List.mem_cons.1 hm with rfl|hm
  ·have:=Qt (n:=n.release id e.1) (id:=id) (aI:=id) (dE:=e.1) (l:=l) λb hb hx=>nd.1 (by rw[hx.2];exact List.mem_map_of_mem (f:=(·.1)) hb);unfold N.gM at this;rw[this,Qr hh]
  ·refine ih nd.2 hm ?_;rw[Qs λhx=>nd.1 (by rw[<-hx.2];exact List.mem_map_of_mem (f:=(·.1)) hm)];exact hh
def Lj (hc:n.ar id=some c):n.leave id=(n.gM id c.ch).dn id λc=>{c with ch:=[]}:=by unfold N.leave;rw[hc];rfl
def Ok.leave (o:Ok T K ex n)(hx:∀i∈ex,i∈fD\/i=id)(hi:(n.ar id).isSome):Ok T K fD (n.leave id):=by
 obtain⟨c,hc⟩:=Option.isSome_iff_exists.1 hi;rw[Lj hc];have hd:=IH (n:=n) (id:=id) (aI:=id) (l:=c.ch);rw[hc,Option.map_some]at hd;obtain⟨c1,cG,ek⟩:=Option.map_eq_some_iff.1 hd
 have:=(o.gM (id:=id) (l:=c.ch)).Sf (id:=id) (fD:=fD) (λ_=>false) (λj g hg _=>by
  have h1:j∈c1.ch.map (·.1):=by
   have:=CI hg cG
   exact List.mem_map_of_mem (f:=(·.1)) (gI this)
  rw[ek]at h1
  obtain⟨e,he,rfl⟩:=List.mem_map.1 h1
  have h2:n.h? id e.1=some e.2:=by unfold N.h?;rw[hc];exact ni (yx hc o) he
  rw[adY (yx hc o) he h2]at hg
  cases hg;exact⟨rfl,rfl⟩) λi hi=>(hx i hi).imp (λh=>h) λh=>⟨h,λ_=>rfl⟩
 have e:(λc:CN=>{c with ch:=c.ch.filter λe=>(λ_:Nat=>false) e.1})=λc=>{c with ch:=[]}:=by
  funext c
  have:(c.ch.filter λe=>(λ_:Nat=>false) e.1)=[]:=List.filter_eq_nil_iff.2 λ_ _=>ak;rw[this]
 rw[e]at this;exact this
def Ok.xU (o:Ok T K ex n){w:HN->Nat}(hw:∀id no h,n.h? id no=some h->w h=0):n.eu w=0:=by have:=o.UU (w:=w) (B:=0) λi j h hh=>Nat.le_of_eq (hw i j h hh);omega
def Ok.ajJ (o:Ok T K ex n)(hc:n.ar id=some c)(hn:bw c.ch no=none)(eV:1<=no/\no<=8):Ok T K ex (n.dn id λc=>{c with ch:=cJ kK c.ch no ⟨fV,[],[]⟩}):=by
 have tV:n.h? id no=none:=by unfold N.h?;rw[hc];exact hn
 have hT:0<=T:=Int.le_trans o.gE.1 o.gE.2
 have rE:∀i j,(n.dn id λc=>{c with ch:=cJ kK c.ch no ⟨fV,[],[]⟩}).h? i j=if i=id/\j=no then some ⟨fV,[],[]⟩else n.h? i j:=λi j=>by
  unfold N.h?;rw[ql];by_cases e:i=id
  ·subst e;rw[if_pos rfl,hc];simp only[Option.map_some,Option.bind_some,true_and];exact yr _ _ _ _ hn
  ·rw[if_neg e,if_neg λx=>e x.1]
 have same:∀w:HN->Nat,w ⟨fV,[],[]⟩=0->(n.dn id λc=>{c with ch:=cJ kK c.ch no ⟨fV,[],[]⟩}).eu w=n.eu w:=λw hw=>by have h1:=MM (w:=w) o.nc hc λc=>{c with ch:=cJ kK c.ch no ⟨fV,[],[]⟩};simp only at h1;rw[ao1 (lt:=kK) c.ch no (⟨fV,[],[]⟩:HN) w,hw]at h1;omega
 have wR:∀i j g,(n.dn id λc=>{c with ch:=cJ kK c.ch no ⟨fV,[],[]⟩}).h? i j=some g->g=⟨fV,[],[]⟩\/n.h? i j=some g:=λi j g hg=>by
  rw[rE]at hg;split at hg
  ·cases hg;exact .inl rfl
  ·exact .inr hg
 have lk:(n.dn id λc=>{c with ch:=cJ kK c.ch no ⟨fV,[],[]⟩}).aD.length=n.aD.length:=by have:=congrArg List.length (rn (n:=n) (id:=id) (f:=λc=>{c with ch:=cJ kK c.ch no ⟨fV,[],[]⟩}));simpa using this
 exact{
  cfg:=o.cfg
  sc:=by rw[rn];exact o.sc
  lc:=by rw[lk];exact o.lc
  ids:=λi hi=>o.ids i (lR.2 (by rw[<-rn];exact lR.1 hi))
  sq:=o.sq
  nq:=o.nq
  lq:=o.lq
  w:={
   un:=λi j g hg e he=>by
    rcases wR _ _ _ hg with rfl|hg
    ·cases he
    ·exact o.w.un _ _ _ hg e he
   xq:=o.w.xq
   xh:=λk x hx=>by
    obtain⟨g,h1,h2⟩:=o.w.xh k x hx
    refine⟨g,?_,h2⟩
    rw[rE,if_neg]
    ·exact h1
    ·rintro⟨e1,e2⟩;rw[e1,e2,tV]at h1;cases h1
   co:=λi j g hg e he=>by
    rcases wR _ _ _ hg with rfl|hg
    ·cases he
    ·exact o.w.co _ _ _ hg e he
   qc:=o.w.qc}
  c:=λi c' cF=>by
   rw[ql]at cF
   by_cases e:i=id
   ·subst e
    rw[if_pos rfl,hc]at cF
    cases cF
    have oc:=o.c _ _ hc
    refine⟨oc.r,V5 oc.jq hn,λe he=>?_⟩
    rcases Fg.1 he with rfl|he
    ·exact eV
    ·exact oc.no e he
   ·rw[if_neg e]at cF;exact o.c _ _ cF
  h:=λi j g hg=>by
   rcases wR _ _ _ hg with rfl|hg
   ·exact⟨List.Pairwise.nil,(λ_ h=>by cases h),⟨by simp[fV],by simpa[fV]using hT⟩,List.Pairwise.nil,List.Pairwise.nil,ak,by simp[fV],by simp[fV],by simp[fV],by simp[fV],(λ_ h=>by cases h)⟩
   ·exact o.h _ _ _ hg
  part:=λi j g hg hi hw=>by
   rcases wR _ _ _ hg with rfl|hg
   ·simp[fV]at hw
   ·exact o.part _ _ _ hg hi hw
  q:=o.q
  cnt:=λnm q hq=>(o.cnt nm q hq).same (same _ rfl) (λs=>same _ rfl) rfl
  x:=o.x
  xn:=o.xn
  xl:=by rw[same _ rfl];exact o.xl
  gE:=o.gE
  aY:=o.aY
  last:=o.last}
def Ok.ta (o:Ok T K ex n)(hq:n.q? nm=none)(hl:n.aL.length<=7)(hg:0<=n.cfg.queue):Ok T K ex {n with aL:=cJ cN n.aL nm ⟨[],0,0,[]⟩}:=by
 have qJ:∀i,N.q? {n with aL:=cJ cN n.aL nm ⟨[],0,0,[]⟩} i=if i=nm then some ⟨[],0,0,[]⟩else n.q? i:=λi=>yr _ _ _ _ hq
 have wR:∀i q,N.q? {n with aL:=cJ cN n.aL nm ⟨[],0,0,[]⟩} i=some q->(i=nm/\q=⟨[],0,0,[]⟩)\/n.q? i=some q:=λi q h=>by
  rw[qJ]at h;split at h
  ·rename_i e;cases h;exact .inl ⟨e,rfl⟩
  ·exact .inr h
 have up:∀i,(n.q? i).isSome->(N.q? {n with aL:=cJ cN n.aL nm ⟨[],0,0,[]⟩} i).isSome:=λi hi=>by rw[qJ];split<;>simp_all
 have eV:∀i j h,n.h? i j=some h->∀e∈h.un,¬e.2.1=nm:=λi j h hh e he hx=>by have:=o.w.un _ _ _ hh e he;rw[hx,hq]at this;cases this
 have lk:=(u0 (lt:=cN) n.aL nm (⟨[],0,0,[]⟩:QN)).length_eq
 exact{
  cfg:=o.cfg
  sc:=o.sc
  lc:=o.lc
  ids:=o.ids
  sq:=NF vW o.sq
  nq:=ND o.nq hq
  lq:=by show(cJ cN n.aL nm _).length<=8;rw[lk,List.length_cons];omega
  w:={
   un:=λi j g hg e he=>up _ (o.w.un _ _ _ hg e he)
   xq:=λk x hx=>up _ (o.w.xq k x hx)
   xh:=o.w.xh
   co:=o.w.co
   qc:=λi q bu k hk=>by
    rcases wR _ _ bu with⟨_,rfl⟩|h
    ·cases hk
    ·exact o.w.qc _ _ h k hk}
  c:=o.c
  h:=o.h
  part:=o.part
  q:=λi q bu=>by
   rcases wR _ _ bu with⟨_,rfl⟩|h
   ·exact⟨aV hg,List.Pairwise.nil,(λ_ h=>by cases h),List.Pairwise.nil⟩
   ·exact o.q _ _ h
  cnt:=λi q bu=>by
   rcases wR _ _ bu with⟨rfl,rfl⟩|h
   ·have h1:N.gY {n with aL:=cJ cN n.aL i ⟨[],0,0,[]⟩} i=0:=o.xU (w:=λh=>h.un.countP λe:Nat×(List UInt8×aQ)=>decide (e.2.1=i)) λi' j h hh=>List.countP_eq_zero.2 λe he=>by simpa using eV _ _ _ hh e he
    have h2:∀s,N.cnt {n with aL:=cJ cN n.aL i ⟨[],0,0,[]⟩} i s=0:=λs=>o.xU (w:=λh=>h.un.countP λe:Nat×(List UInt8×aQ)=>decide (e.2.1=i)&&decide (e.2.2.seq=s)) λi' j h hh=>List.countP_eq_zero.2 λe he=>by
     have:=eV _ _ _ hh e he
     simp[this]
    exact⟨by rw[h1];rfl,λs=>by rw[h2];simp,λs _=>by rw[h2];simp⟩
   ·exact⟨(o.cnt _ _ h).held,(o.cnt _ _ h).one,(o.cnt _ _ h).no⟩
  x:=o.x
  xn:=o.xn
  xl:=o.xl
  gE:=o.gE
  aY:=o.aY
  last:=o.last}
end
section
variable {n:N}{T:Int}{T':Int}{K:Nat}{ex:List Int}{no:Nat}{c:CN}{h:HN}{nm:List UInt8}{q:QN}{k:Int}{x:XN}
variable {id:Int}
def Ok.Vq (o:Ok T K ex n):n.x? (n.aY+1)=none:=by
 cases hx:n.x? (n.aY+1)with
 |none=>rfl
 |some x=>have:=(o.x _ _ hx).1.2;omega
def Ok.jr (o:Ok T K ex n)(hh:n.h? id no=some h)(hq:n.q? nm=some q){tg:List UInt8}{na:Bool}(ht:bw h.co tg=none)(hl:h.co.length<=3)(AX:tg.length<=8):Ok (T+1) K ex (n.jr id no nm tg na):=by
 have oh:=o.h _ _ _ hh
 let k:=n.aY+1
 let f:HN->HN:=λh=>{h with co:=cJ cN h.co tg k}
 have hT:=o.gE;have hN:=o.aY;have tt:=λw:HN->Nat=>EL o hh f w;have xU:∀w:HN->Nat,(n.jr id no nm tg na).eu w=(n.bA id no f).eu w:=λ_=>rfl
 have same:∀w:HN->Nat,(∀g:HN,w (f g)=w g)->(n.jr id no nm tg na).eu w=n.eu w:=λw hw=>by have:=tt w;rw[hw]at this;rw[xU];omega
 have rJ:(n.jr id no nm tg na).aL.map (·.1)=n.aL.map (·.1):=Bq (n:=n) (f:=λq=>{q with cons:=q.cons++[k]});have sH:(n.jr id no nm tg na).aD.map (·.1)=n.aD.map (·.1):=rn (n:=n) (f:=λc=>{c with ch:=dw c.ch no f});have lk:(n.jr id no nm tg na).aD.length=n.aD.length:=by have:=congrArg List.length sH;simpa using this
 have D1:(n.jr id no nm tg na).aL.length=n.aL.length:=by have:=congrArg List.length rJ;simpa using this
 have qJ:∀i,(n.jr id no nm tg na).q? i=if i=nm then(n.q? i).map (λq=>{q with cons:=q.cons++[k]})else n.q? i:=λi=>uH (n:=n) (nm:=nm) (fq:=λq=>{q with cons:=q.cons++[k]})
 have sP:∀i,(n.jr id no nm tg na).x? i=if i=k then some ⟨id,no,tg,nm,na⟩else n.x? i:=λi=>by
  show bw (n.xs++[(k,⟨id,no,tg,nm,na⟩)]) i=_;have hk:=o.Vq;unfold N.x? at hk|-;unfold bw at hk|-;rw[List.find?_append];by_cases e:i=k
  ·subst e;rw[if_pos rfl];have:(n.xs.find? λe=>decide (e.1=k))=none:=aV hk;rw[this];simp
  ·rw[if_neg e];have:¬k=i:=λx=>e x.symm;simp[this]
 have GB:∀i j,(n.jr id no nm tg na).h? i j=(n.bA id no f).h? i j:=λ_ _=>rfl
 have rE:∀i j g',(n.jr id no nm tg na).h? i j=some g'->(i=id/\j=no/\g'=f h)\/(¬(i=id/\j=no)/\n.h? i j=some g'):=λi j g' hg=>by
  rw[GB,jN]at hg;by_cases e:i=id/\j=no
  ·obtain⟨rfl,rfl⟩:=e;rw[if_pos ⟨rfl,rfl⟩,hh]at hg
   cases hg;exact .inl ⟨rfl,rfl,rfl⟩
  ·rw[if_neg e]at hg;exact .inr ⟨e,hg⟩
 have mX:∀i,(n.q? i).isSome->((n.jr id no nm tg na).q? i).isSome:=λi hi=>by
  rw[qJ];split
  ·simpa using hi
  ·exact hi
 have hold:∀i y,n.x? i=some y->¬i=k:=λi y hy e=>by have:=(o.x _ _ hy).1.2;omega
 have aeH:∀e,e∈(f h).co↔e=(tg,k)\/e∈h.co:=λe=>Fg
 exact{
  cfg:=o.cfg
  sc:=by rw[sH];exact o.sc
  lc:=by rw[lk];exact o.lc
  ids:=λi hi=>o.ids i (lR.2 (by rw[<-sH];exact lR.1 hi))
  sq:=by rw[rJ];exact o.sq
  nq:=by rw[rJ];exact o.nq
  lq:=by rw[D1];exact o.lq
  w:={
   un:=λi j g' hg e he=>by
    rcases rE i j g' hg with⟨rfl,rfl,rfl⟩|⟨_,h1⟩
    ·exact mX _ (o.w.un _ _ _ hh e he)
    ·exact mX _ (o.w.un _ _ _ h1 e he)
   xq:=λi y hy=>by
    rw[sP]at hy
    split at hy
    ·cases hy;exact mX _ (by rw[hq];rfl)
    ·exact mX _ (o.w.xq _ _ hy)
   xh:=λi y hy=>by
    rw[sP]at hy
    split at hy
    ·rename_i e
     cases hy
     refine⟨f h,by rw[GB,jN,if_pos ⟨rfl,rfl⟩,hh];rfl,?_⟩
     show bw (cJ cN h.co tg k) tg=_
     rw[yr _ _ _ _ ht,if_pos rfl,e]
    ·obtain⟨g,h1,h2⟩:=o.w.xh _ _ hy
     by_cases e:y.id=id/\y.no=no
     ·obtain⟨e1,e2⟩:=e
      rw[e1,e2]at h1|-
      rw[hh]at h1
      cases h1
      refine⟨f h,by rw[GB,jN,if_pos ⟨rfl,rfl⟩,hh];rfl,?_⟩
      show bw (cJ cN h.co tg k) y.tag=_
      rw[yr _ _ _ _ ht,if_neg]
      ·exact h2
      ·intro x;rw[x,ht]at h2;cases h2
     ·exact⟨g,by rw[GB,jN,if_neg e];exact h1,h2⟩
   co:=λi j g' hg e he=>by
    rw[sP]
    rcases rE i j g' hg with⟨rfl,rfl,rfl⟩|⟨aE,h1⟩
    ·rcases(aeH e).1 he with rfl|he
     ·rw[if_pos rfl];exact⟨_,rfl,rfl,rfl,rfl⟩
     ·obtain⟨y,h2,h3⟩:=o.w.co _ _ _ hh e he
      rw[if_neg (hold _ _ h2)];exact⟨y,h2,h3⟩
    ·obtain⟨y,h2,h3⟩:=o.w.co _ _ _ h1 e he
     rw[if_neg (hold _ _ h2)];exact⟨y,h2,h3⟩
   qc:=λi q' bu j hj=>by
    rw[qJ]at bu
    rw[sP]
    by_cases e:i=nm
    ·subst e
     rw[if_pos rfl,hq]at bu
     cases bu
     rcases List.mem_append.1 hj with hj|hj
     ·obtain⟨y,h1,h2⟩:=o.w.qc _ _ hq j hj
      rw[if_neg (hold _ _ h1)];exact⟨y,h1,h2⟩
     ·rw[if_pos (aV hj)];exact⟨_,rfl,rfl⟩
    ·rw[if_neg e]at bu
     obtain⟨y,h1,h2⟩:=o.w.qc _ _ bu j hj
     rw[if_neg (hold _ _ h1)];exact⟨y,h1,h2⟩}
  c:=λi c' cF=>B9 o i c' cF
  h:=λi j g' hg=>by
   rcases rE i j g' hg with⟨rfl,rfl,rfl⟩|⟨_,h1⟩
   ·have:=oh.mono (T':=T+1) aa
    exact{this with
     co:=NF vW oh.co
     cn:=ND oh.cn ht
     s6:=by show(cJ cN h.co tg k).length<=4;rw[(u0 (lt:=cN) h.co tg k).length_eq,List.length_cons];omega}
   ·exact(o.h _ _ _ h1).mono aa
  part:=λi j g' hg=>by
   rcases rE i j g' hg with⟨rfl,rfl,rfl⟩|⟨_,h1⟩
   ·exactλhi hw=>o.part _ _ h hh hi hw
   ·exact o.part _ _ _ h1
  q:=λi q' bu=>by
   rw[qJ]at bu
   by_cases e:i=nm
   ·subst e
    rw[if_pos rfl,hq]at bu
    cases bu
    have oq:=o.q _ _ hq
    refine⟨oq.lim,oq.jq,oq.msg,?_⟩
    show(q.cons++[k]).Nodup
    rw[List.nodup_append]
    refine⟨oq.cons,ak,λa ha b hb=>?_⟩
    simp only[List.mem_singleton]at hb
    obtain⟨y,h1,_⟩:=o.w.qc _ _ hq a ha
    rw[hb];exact hold _ _ h1
   ·rw[if_neg e]at bu;exact o.q _ _ bu
  cnt:=λi q' bu=>by
   rw[qJ]at bu
   have key:∀q0,n.q? i=some q0->q'.ready=q0.ready->q'.held=q0.held->wN (n.jr id no nm tg na) i q':=λq0 h0 h1 h2=>by
    have oc:=o.cnt _ _ h0
    refine wN.same (n:=n) ⟨by rw[h2];exact oc.held,by rw[h1];exact oc.one,by rw[h1];exact oc.no⟩ (same _ λg=>rfl) (λs=>same _ λg=>rfl) rfl
   by_cases e:i=nm
   ·rw[if_pos e]at bu
    obtain⟨q0,h0,rfl⟩:=Option.map_eq_some_iff.1 bu
    exact key q0 h0 rfl rfl
   ·rw[if_neg e]at bu;exact key q' bu rfl rfl
  x:=λi y hy=>by
   rw[sP]at hy
   show(1<=i/\i<=n.aY+1)/\_
   split at hy
   ·rename_i e;cases hy;exact⟨⟨aa,aa⟩,AX⟩
   ·have:=o.x _ _ hy;exact⟨⟨this.1.1,aa⟩,this.2⟩
  xn:=by
   show((n.xs++[(k,(⟨id,no,tg,nm,na⟩:XN))]).map (·.1)).Nodup
   rw[List.map_append,List.nodup_append]
   refine⟨o.xn,ak,λa ha b hb=>?_⟩
   simp only[List.map_cons,List.map_nil,List.mem_singleton]at hb
   obtain⟨y,hy⟩:=Option.isSome_iff_exists.1 (lR.2 ha)
   rw[hb];exact hold a y hy
  xl:=by
   have h1:=tt λh=>h.co.length
   have h2:(f h).co.length=h.co.length+1:=by
    show(cJ cN h.co tg k).length=_
    rw[(u0 (lt:=cN) h.co tg k).length_eq,List.length_cons]
   have h3:=o.xl
   show(n.xs++[(k,(⟨id,no,tg,nm,na⟩:XN))]).length<=_
   rw[xU,List.length_append]
   simp only[List.length_cons,List.length_nil]
   omega
  gE:=⟨hT.1,by show n.messages<=T+1;omega⟩
  aY:=⟨by show 0<=n.aY+1;omega,by show n.aY+1<=T+1;omega⟩
  last:=o.last}
end
end Go.Qw
