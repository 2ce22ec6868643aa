/- 36 -/
import Derived.Test.YtpiabknabfbfhaaGreatDoorFramed35
set_option linter.all false
set_option maxRecDepth 100000
set_option maxHeartbeats 8000000
namespace Go.Qw
open Go Go.Conc Go.Proofs Go.Proofs.Tryz
inductive Zn
 |one
 |fst (ch:List (Nat×HN))
 |snd (ch:List (Nat×HN))
 |alone
def Zn.i:Zn->Int
 |one|fst _=>1
 |snd _|alone=>2
def Zn.last:Zn->Int
 |one=>1
 |_=>2
def IK(rest out:List UInt8)(ch:List (Nat×HN)):CN:=⟨⟨3,rest,true,4,64,0,0,0,out⟩,ch⟩
def Zn.aD(a:CN):Zn->List (Int×CN)
 |one=>[(1,a)]
 |fst c=>[(1,a),(2,IK [] [] c)]
 |snd c=>[(1,IK [] [] c),(2,a)]
 |alone=>[(2,a)]
def W(z:Zn)(rest out:List UInt8)(hr:HR)(un:List (Nat×(List UInt8×aQ)))(atA:List aQ)(h k:Int):N:=⟨vk,0,z.last,k,0,z.aD (IK rest out [(1,⟨hr,un,[]⟩)]),[([113],⟨atA,h,0,[]⟩)],[]⟩
def mK(k:Nat):aQ:=⟨(k:Int)+1,[113],IA k,false⟩
def hK:Nat->Nat->HR
 |0,g=>⟨false,0,g,0,[],[],0⟩
 |p+1,g=>⟨false,0,g,1,[113],IA p,(IA p).length⟩
variable {k:Int}
def unK(s c:Nat):List (Nat×(List UInt8×aQ)):=(List.range' s c).map λk=>(k+1,([113],mK k))
def rdK(g c:Nat):List aQ:=(List.range' g c).map mK
def stZ(z:Zn)(p g s:Nat):N:=W z [] [] (hK p g) (unK s (g-s)) (rdK g (p-g)) ((g-s:Nat):Int) p
abbrev stK:=stZ .one
variable {h:Int}
inductive Whole:List UInt8->Prop
 |nil:Whole []
 |cons {k ch:Nat} {p s:List UInt8} (hp:p.length<=56) (h:Whole s):Whole (lZ k ch p++s)
def Whole.app{s t:List UInt8}(a:Whole s)(b:Whole t):Whole (s++t):=by
 induction a with
 |nil=>exact b
 |cons hp _ ih=>rw[List.append_assoc];exact .cons hp ih
variable {ch:Nat}
def Whole.one{k:Nat}{p:List UInt8}(hp:p.length<=56):Whole (lZ k ch p):=by have:=Whole.cons (k:=k) (ch:=ch) hp .nil;rwa[List.append_nil]at this
def Whole.call{cl me:Nat}{xs:List Arg}(h:(bZ xs).length<=52):Whole (cg ch cl me xs):=Whole.one (by simp[cB];omega)
variable {f:Nat}
def Whole.parts{m:Nat}(hm:m<=56):∀(f:Nat) (b:List UInt8),Whole (mw ch m f b)
 |0,_=>.nil
 |f+1,b=>by
  rw[mw];split
  ·exact .nil
  ·exact .cons (by rw[List.length_take];omega) (Whole.parts hm f _)
def Whole.content{z:Nat}{b:List UInt8}(hz:z<=64):Whole (lI ch b z):=.cons (by simp[cB]) (Whole.parts aa _ _)
section
variable {h:Int}{h':Int}{k:Int}{f:Nat}{β:Type}
variable {α:Type}[DecidableEq α]
def Is {l:List (α×β)}{k:α}{f:β->β}{P:α×β->Prop}(h:∀e∈l,P e)(hf:∀e∈l,e.1=k->P (e.1,f e.2)):∀e∈dw l k f,P e:=λe he=>by
 obtain⟨e',h',rfl⟩:=List.mem_map.1 he;split
 ·exact hf e' h' ‹_›
 ·exact h e' h'
def NG {l:List (α×β)}{k:α}{P:α×β->Prop}(h:∀e∈l,P e):∀e∈cH l k,P e:=λe he=>h e (List.mem_filter.1 he).1
def NH {lt:α->α->Bool}{l:List (α×β)}{k:α}{v:β}{P:α×β->Prop}(h:∀e∈l,P e)(hv:P (k,v)):∀e∈cJ lt l k v,P e:=by
 induction l with
 |nil=>intro e he;simp[cJ]at he;subst he;exact hv
 |cons x l ih=>
  intro e he;rw[cJ]at he;split at he
  ·rcases List.mem_cons.1 he with rfl|he
   ·exact hv
   ·exact h e he
  ·rcases List.mem_cons.1 he with rfl|he
   ·exact h _ (List.mem_cons_self ..)
   ·exact ih (λe he=>h e (List.mem_cons_of_mem _ he)) e he
def NK {l:List (α×β)}{k:α}{f:β->β}:(dw l k f).length=l.length:=List.length_map ..
def V4 {lt:α->α->Bool}{l:List (α×β)}{k:α}{v:β}:(cJ lt l k v).length=l.length+1:=by
 induction l with
 |nil=>rfl
 |cons x l ih=>rw[cJ];split<;>simp[ih]
end
variable {un:List (Nat×(List UInt8×aQ))}
def HJ(h:HN):Prop:=∀x∈h.un,x.2.2.key.length<=16
variable {out:List UInt8}
def CJ(c:CN):Prop:=Whole c.r.out/\c.r.frame=64/\c.r.je=true/\3<=c.r.ph/\∀g∈c.ch,HJ g.2
def QJ(q:QN):Prop:=∀m∈q.ready,m.key.length<=16
structure NJ (n:N):Prop where
 lc:n.aD.length<=1
 lq:1<=n.aL.length
 c:∀e∈n.aD,e.1=1/\CJ e.2
 q:∀e∈n.aL,e.1.length<=16/\QJ e.2
 x:∀e∈n.xs,e.2.tag.length<=8
section
variable {out:List UInt8}{hr:HR}{h:Int}{k:Int}{f:Nat}{n:N}{n':N}{no:Nat}{nm:List UInt8}{m:aQ}{c:CN}{q:QN}{x:XN}
variable {id:Int}{h:HN}
def NJ.cn (j:NJ n)(hc:n.ar id=some c):CJ c:=(j.c _ (gI hc)).2
def NJ.hn (j:NJ n)(hh:n.h? id no=some h):HJ h:=by unfold N.h? at hh;obtain⟨c,hc,hg⟩:=Option.bind_eq_some_iff.1 hh;exact(j.cn hc).2.2.2.2 _ (gI hg)
def NJ.qn (j:NJ n)(hq:n.q? nm=some q):nm.length<=16/\QJ q:=j.q _ (gI hq)
def NJ.xn (j:NJ n)(hx:n.x? k=some x):x.tag.length<=8:=j.x _ (gI hx)
def NJ.dn (j:NJ n){f:CN->CN}(hf:∀c,CJ c->CJ (f c)):NJ (n.dn id f):=
 {j with lc:=by show(dw _ _ _).length<=1;rw[NK];exact j.lc,c:=Is j.c λe he _=>⟨(j.c e he).1,hf _ (j.c e he).2⟩}
def NJ.bC (j:NJ n){f:CR->CR}(hf:∀r:CR,Whole r.out->r.frame=64->r.je=true->3<=r.ph->Whole (f r).out/\(f r).frame=64/\(f r).je=true/\3<=(f r).ph):NJ (n.bC id f):=
 j.dn λc h=>have:=hf c.r h.1 h.2.1 h.2.2.1 h.2.2.2.1;⟨this.1,this.2.1,this.2.2.1,this.2.2.2,h.2.2.2.2⟩
def NJ.send (j:NJ n){s:List UInt8}(hs:Whole s):NJ (n.send id s):=j.bC λ_ h1 h2 h3 h4=>⟨h1.app hs,h2,h3,h4⟩
def NJ.bA (j:NJ n){f:HN->HN}(hf:∀h,HJ h->HJ (f h)):NJ (n.bA id no f):=
 j.dn λc h=>⟨h.1,h.2.1,h.2.2.1,h.2.2.2.1,Is h.2.2.2.2 λe he _=>hf _ (h.2.2.2.2 e he)⟩
def NJ.cf (j:NJ n){f:HR->HR}:NJ (n.cf id no f):=j.bA λ_ h=>h
def NJ.bF (j:NJ n){f:QN->QN}(hf:∀q,QJ q->QJ (f q)):NJ (n.bF nm f):=
 {j with lq:=by show 1<=(dw _ _ _).length;rw[NK];exact j.lq,q:=Is j.q λe he _=>⟨(j.q e he).1,hf _ (j.q e he).2⟩}
def NJ.settle (j:NJ n){tag:Nat}{b:Bool}:NJ (n.settle id no tag b):=by
 unfold N.settle;split
 ·exact j
 ·rename_i nm m he;obtain⟨h,hh,hg⟩:=Option.bind_eq_some_iff.1 he;have hm:m.key.length<=16:=j.hn hh _ (gI hg);refine(j.bA λh hj=>?_).bF λq hq=>?_
  ·exactλx hx=>hj x (List.mem_filter.1 hx).1
  ·intro y hy;simp only at hy;split at hy
   ·unfold iR at hy;rcases List.mem_append.1 hy with hy|hy
    ·exact hq y ((List.takeWhile_sublist _).subset hy)
    ·rcases List.mem_cons.1 hy with rfl|hy
     ·exact hm
     ·exact hq y ((List.dropWhile_sublist _).subset hy)
   ·exact hq y hy
def NJ.cancel (j:NJ n):NJ (n.cancel k):=by
 unfold N.cancel;split
 ·exact j
 ·have:=j.bF (nm:=‹XN›.q) (f:=λq=>{q with cons:=q.cons.filter λj=>decide (j≠k)}) λq h=>h;exact{this with x:=NG j.x}
def NJ.fold {α:Type}{l:List α}{f:N->α->N}(hf:∀n a,NJ n->NJ (f n a)):∀{n},NJ n->NJ (l.foldl f n):=by
 induction l with
 |nil=>exactλj=>j
 |cons a l ih=>exactλj=>ih (hf _ a j)
def NJ.release (j:NJ n):NJ (n.release id no):=by
 unfold N.release;split
 ·exact j
 ·exact NJ.fold (λn a j=>j.settle) ((NJ.fold (λn a j=>j.cancel) j).bA λh hj=>hj)
def NJ.leave (j:NJ n):NJ (n.leave id):=by
 unfold N.leave;split
 ·exact j
 ·exact(NJ.fold (λn a j=>j.release) j).dn λc h=>⟨h.1,h.2.1,h.2.2.1,h.2.2.2.1,λg hg=>by cases hg⟩
def NJ.lJ (j:NJ n):NJ (n.lJ id no):=j.release.dn λc h=>⟨h.1,h.2.1,h.2.2.1,h.2.2.2.1,NG h.2.2.2.2⟩
def PI {e cl me:Nat}:(bZ (oN e cl me)).length<=52:=by simp[oN,bZ,dC,cB]
def NJ.soft (j:NJ n){e cl me:Nat}:NJ (n.soft id no e cl me):=(j.release.cf).send (.call PI)
def NJ.cA (j:NJ n){e cl me:Nat}:NJ (n.cA id e cl me):=(j.leave.bC (f:=λr=>{r with ph:=4}) λ_ h1 h2 h3 _=>⟨h1,h2,h3,by show(3:Int)<=4;decide⟩).send (.call PI)
def NJ.hand (j:NJ n)(hm:m.key.length<=16){na:Bool}:NJ (n.hand id no nm m na):=by
 unfold N.hand;split
 ·exact j.cf
 ·refine(j.bA λh hj=>?_).bF λq hq=>hq;intro x hx;rcases List.mem_append.1 hx with hx|hx
  ·exact hj x hx
  ·rw[List.mem_singleton.1 hx];exact hm
def NJ.frame (j:NJ n):n.frame id<=64:=by
 unfold N.frame
 cases hc:n.ar id with
 |none=>simp
 |some c=>have:=(j.cn hc).2.1;simp[this]
def NJ.give (j:NJ n){s:List UInt8}(hs:Whole s):NJ (n.give id no m s):=(j.send hs).send (.content j.frame)
def NJ.take (j:NJ n)(hm:m.key.length<=16):NJ (n.take k m):=by
 unfold N.take;split
 ·exact j
 ·rename_i x hx;refine(j.hand hm).give (.call ?_);have:=j.xn hx;simp[bZ,dC,cB];omega
def NJ.gN (j:NJ n)(hs:n.gN nm=some n'):NJ n':=by
 unfold N.gN at hs;split at hs
 ·cases hs
 ·rename_i q hq;split at hs
  ·cases hs
  ·rename_i m ms hr;split at hs
   ·cases hs
   ·injection hs with hs;subst hs;refine(j.bF λq hj y hy=>hj y (List.mem_of_mem_tail hy)).take ?_;exact(j.qn hq).2 m (by rw[hr];exact List.mem_cons_self ..)
def NJ.iX {f:Nat}:∀{n:N},NJ n->NJ (n.iX f nm):=by
 induction f with
 |zero=>exactλj=>j
 |succ f ih=>
  intro n j;rw[N.iX];split
  ·exact j
  ·exact ih (j.gN ‹_›)
def NJ.serve (j:NJ n):NJ n.serve:=NJ.fold (λn a j=>j.iX) j
end
variable {n:N}
def jF:HO->Prop
 | .ok n _=>NJ n
 | .bad _ _=>True
section
variable {hr:HR}{h:Int}{f:Nat}{u:Un}{n:N}{n':N}{no:Nat}{nm:List UInt8}{m:aQ}{c:CN}{q:QN}{x:XN}{s:List UInt8}{cl:Nat}{me:Nat}{r:HR}
variable {id:Int}{h:HN}
def alu {s a b:List UInt8}(h:jm s=some (a,b)):a.length+b.length+1=s.length:=by
 unfold jm at h;obtain⟨⟨w,t⟩,h1,h2⟩:=Option.bind_eq_some_iff.1 h;unfold eP at h1;split at h1
 ·injection h1 with h1;injection h1 with h3 h4;unfold xN at h2;simp only at h2;split at h2
  ·injection h2 with h2;injection h2 with h5 h6;subst h5;subst h6;subst h4;simp only[List.length_take,List.length_drop]at*;omega
  ·cases h2
 ·cases h1
def NJ.declare (j:NJ n):jF (n.declare id no s cl me):=by
 unfold N.declare;split
 ·rename_i nm hp;split
  ·rename_i q hq;have:=(j.qn hq).1;exact j.send (.call (by simp[bZ,dC,cB];omega))
  ·split
   ·exact j
   ·rename_i hn;split
    ·exact j
    ·have hl:nm.length<=16:=by unfold named at hn;simp only[Bool.not_eq_false,Bool.and_eq_true,decide_eq_true_eq]at hn;exact hn.1.2
     refine NJ.send ?_ (.call (by simp[bZ,dC,cB];omega))
     exact{j with lq:=by simp[V4],q:=NH j.q ⟨hl,λm hm=>by cases hm⟩}
 ·trivial
def NJ.lU (j:NJ n):jF (n.lU id no s cl me):=by
 unfold N.lU;split
 ·split
  ·exact(j.bF λq _ m hm=>by cases hm).send (.call (by simp[bZ,dC,cB]))
  ·exact j
 ·trivial
def NJ.ow (j:NJ n):jF (n.ow id no s cl me):=by
 unfold N.ow;split
 ·exact j.cf.send (.call (by simp[bZ]))
 ·trivial
def NJ.jr (j:NJ n){tg:List UInt8}{na:Bool}(ht:tg.length<=8):NJ (n.jr id no nm tg na):=by
 have j1:NJ {n with aY:=n.aY+1,xs:=n.xs++[(n.aY+1,⟨id,no,tg,nm,na⟩)]}:={j with
  x:=λe he=>by
   rcases List.mem_append.1 he with he|he
   ·exact j.x e he
   ·rw[List.mem_singleton.1 he];exact ht}
 exact(j1.bF (f:=λq=>{q with cons:=q.cons++[n.aY+1]}) λq h=>h).bA (f:=λh=>{h with co:=cJ cN h.co tg (n.aY+1)}) λh hj=>hj
def jF.ite {p:Prop}[Decidable p]{x y:HO}(a:jF x)(b:jF y):jF (if p then x else y):=by split<;>assumption
def NJ.consume (j:NJ n):jF (n.consume id no h s cl me):=by
 unfold N.consume;split
 ·split
  ·split
   ·split
    ·exact j
    ·rename_i ht;split
     ·exact j
     ·split
      ·exact j
      ·split
       ·exact j
       ·refine NJ.send ?_ (.call (by simp[bZ,dC,cB];omega));exact j.jr aa
   ·trivial
  ·trivial
 ·trivial
def NJ.nJ (j:NJ n){tg:List UInt8}:NJ (n.nJ id no h tg):=by
 unfold N.nJ;split
 ·exact j.cancel.bA λh hj=>hj
 ·exact j
def NJ.mH (j:NJ n)(hs:s.length<=52):jF (n.mH id no h s cl me):=by
 unfold N.mH;split
 ·rename_i tg hp;have:=alu hp;exact j.nJ.send (.call (by simp[bZ,dC,cB]at*;omega))
 ·trivial
def NJ.ov (j:NJ n):jF (n.ov id no s cl me):=by
 unfold N.ov;split
 ·exact j.cf
 ·trivial
def NJ.get (j:NJ n):jF (n.get id no s cl me):=by
 unfold N.get;split
 ·split
  ·split
   ·exact j
   ·rename_i q hq;split
    ·exact j.send (.call (by simp[bZ]))
    ·rename_i m ms hr;have hm:=(j.qn hq).2 m (by rw[hr];exact List.mem_cons_self ..);refine((j.bF λq hj y hy=>hj y (List.mem_of_mem_tail hy)).hand hm).give (.call ?_);simp[bZ,dC,cB];omega
  ·trivial
 ·trivial
def NJ.settled (j:NJ n):jF (n.settled id no h s cl me):=by
 unfold N.settled;split
 ·split
  ·split
   ·split
    ·refine NJ.fold (λn a j=>?_) j;simp only;split
     ·exact j.settle
     ·exact j
    ·exact j
   ·trivial
  ·trivial
 ·trivial
def NJ.close (j:NJ n):jF (n.close id no s cl me):=by
 unfold N.close;split
 ·exact(j.send (.call (by simp[bZ]))).lJ
 ·trivial
def NJ.method (j:NJ n)(hs:s.length<=52):jF (n.method id no h s cl me):=by unfold N.method;have j0:∀er,jF (.ok n er):=λ_=>j;exact(j0 _).ite (j.close.ite (j.declare.ite (j.lU.ite (j.ow.ite (j.consume.ite ((j.mH hs).ite (j.ov.ite (j.get.ite (j.settled.ite ((j0 _).ite (j0 _)))))))))))
def NJ.iS (j:NJ n){key body:List UInt8}:NJ (n.iS key body).1:=by
 unfold N.iS;split
 ·exact j
 ·rename_i q hq;split
  ·exact j
  ·have hk:=(j.qn hq).1;have j':NJ {n with messages:=n.messages+1}:={j with};refine j'.bF λq hj m hm=>?_;rcases List.mem_append.1 hm with hm|hm
   ·exact hj m hm
   ·rw[List.mem_singleton.1 hm];exact hk
def NJ.whole (j:NJ n):jF (n.whole id no r):=by
 unfold N.whole;split
 ·exact j.cf
 ·exact j.cf.iS
def NJ.header (j:NJ n):jF (n.header id no r s):=by
 unfold N.header
 repeat' split
 all_goals first|exact j|exact j.whole|trivial
def NJ.part (j:NJ n):jF (n.part id no r s):=by
 unfold N.part;split
 ·exact j.cf
 ·exact j.whole
def NJ.iK (j:NJ n){kind:Int}(hk:kind=1\/kind=2\/kind=3)(hs:kind=1->s.length<=52):jF (n.iK id no h kind s cl me):=by
 unfold N.iK;split
 ·split
  ·exact(j.send (.call (by simp[bZ]))).lJ
  ·split
   ·exact j.lJ
   ·exact j
 ·split
  ·exact j
  ·split
   ·exact j.header
   ·split
    ·exact j.part
    ·rename_i h1 h2 h3;exact j.method (hs aa)
def NJ.jW (j:NJ n){kind:Int}(hk:kind=1\/kind=2\/kind=3)(hs:kind=1->s.length<=52):jF (n.jW id c no kind s cl me):=by
 unfold N.jW;split
 ·exact j
 ·split
  ·exact j.iK hk hs
  ·split
   ·split
    ·exact(j.dn (f:=λc=>{c with ch:=cJ kK c.ch no ⟨fV,[],[]⟩}) λc h=>⟨h.1,h.2.1,h.2.2.1,h.2.2.2.1,NH h.2.2.2.2 λx hx=>by cases hx⟩).send (.call (by simp[bZ,dC,cB]))
    ·trivial
   ·exact j
def NJ.control (j:NJ n){kind:Int}:jF (n.control id kind s cl me):=by
 unfold N.control;split
 ·split
  ·exact(j.leave.send (.call (by simp[bZ]))).bC λ_ h1 h2 h3 _=>⟨h1,h2,h3,by show(3:Int)<=5;decide⟩
  ·trivial
 ·exact j
def NJ.gR (j:NJ n)(hc:n.ar id=some c){ch kind:Int}(hk:kind=1\/kind=2\/kind=3)(hs:kind=1->s.length<=52):jF (n.gR id c ch kind s cl me):=by
 have h3:=(j.cn hc).2.2.2.1;unfold N.gR;split
 ·omega
 ·split
  ·split
   ·exact j.control
   ·exact j.jW hk hs
  ·split
   ·exact j.bC λ_ h1 h2 h3 _=>⟨h1,h2,h3,by show(3:Int)<=5;decide⟩
   ·exact j
def TD {w v:Nat}{s b:List UInt8}(h:eP w s=some (v,b)):b.length+w=s.length:=by
 unfold eP at h;split at h
 ·injection h with h;injection h with h1 h2;subst h2;simp;omega
 ·cases h
def NJ.eS (j:NJ n)(hc:n.ar id=some c){u:Un}(hu:u.kind=1\/u.kind=2\/u.kind=3)(hs:u.gL.length<=56):jF (n.eS id c u):=by
 unfold N.eS;split
 ·split
  ·rename_i cl s1 h1;split
   ·rename_i me s2 h2;have a1:=TD h1;have a2:=TD h2;exact j.gR hc aa λ_=>aa
   ·exact j
  ·exact j
 ·rename_i hk;exact j.gR hc aa λh=>absurd h hk
def NJ.fault (j:NJ n){ch:Int}{er:Er}:NJ (n.fault id ch er):=by
 unfold N.fault;split
 ·exact j
 ·split
  ·exact j
  ·exact j.soft
 ·split
  ·exact j
  ·exact j.cA
def NJ.ju (j:NJ n){u:Un}(hu:u.kind=1\/u.kind=2\/u.kind=3)(hs:u.gL.length<=56):NJ (n.ju id u):=by
 unfold N.ju;split
 ·exact j
 ·rename_i c hc;have:=j.eS hc hu hs
  cases hO:n.eS id c u with
  |ok n' er=>rw[hO]at this;exact NJ.fault (n:=n') this
  |bad cl me=>exact NJ.fault (n:=n) j
def NJ.unit (j:NJ n){u:Un}(hg:u.jf=false)(hu:u.fB=false->u.kind=8\/u.kind=1\/u.kind=2\/u.kind=3)(hs:u.gL.length<=56):NJ (n.unit id u):=by
 unfold N.unit;rw[if_neg (by rw[hg];decide)];split
 ·refine NJ.bC ?_ λ_ h1 h2 h3 _=>⟨h1,h2,h3,by show(3:Int)<=5;decide⟩;split
  ·exact j
  ·exact j.cA
 ·split
  ·exact j
  ·rename_i h1 h2;exact j.ju ((hu (aV h1)).resolve_left h2) hs
end
def ajS(s:List UInt8):let v:=eI true s 64;v.2.1=true/\v.1.jf=false/\v.1.gL.length<=56/\(v.1.idle=false->v.1.fB=false->v.1.kind=8\/v.1.kind=1\/v.1.kind=2\/v.1.kind=3):=by
 unfold eI;rw[if_neg an];split
 ·exact⟨rfl,rfl,ak,λh=>by cases h⟩
 ·simp only;generalize num (s.take 1)=k;generalize num ((s.drop 1).take 2)=ch;generalize num ((s.drop 3).take 4)=z;generalize s.drop 7=r;generalize hw:(if k=1\/k=2\/k=3 then decide ((z:Int)>64-8)else if k=8 then decide (z>0\/ch≠0)else true)=w;split
  ·exact⟨rfl,rfl,ak,λh=>by cases h⟩
  ·split
   ·exact⟨rfl,rfl,ak,λ_ h=>by cases h⟩
   ·rename_i h1 h2 h3;simp only[Bool.not_eq_true]at h3;rw[h3]at hw;clear h3;have h3:=hw;by_cases hk:k=1\/k=2\/k=3
    ·rw[if_pos hk]at h3;simp at h3;refine⟨rfl,rfl,?_,λ_ _=>.inr ?_⟩
     ·show(r.take z).length<=56;rw[List.length_take];omega
     ·show(k:Int)=1\/(k:Int)=2\/(k:Int)=3;omega
    ·rw[if_neg hk]at h3;split at h3
     ·simp at h3;refine⟨rfl,rfl,?_,λ_ _=>.inl ?_⟩
      ·show(r.take z).length<=56;rw[h3.1];simp
      ·show(k:Int)=8;omega
     ·cases h3
section
variable {rest:List UInt8}{h:Int}{h':Int}{f:Nat}{n:N}{c:CN}{q:QN}{x:XN}{s:List UInt8}{r:HR}
variable {id:Int}
def NJ.cut (j:NJ n):NJ (n.cut id).2/\(n.cut id).1.jf=false/\(n.cut id).1.gL.length<=56/\((n.cut id).1.idle=false->(n.cut id).1.fB=false->(n.cut id).1.kind=8\/(n.cut id).1.kind=1\/(n.cut id).1.kind=2\/(n.cut id).1.kind=3):=by
 unfold N.cut
 cases hc:n.ar id with
 |none=>exact⟨j,rfl,ak,λh=>by cases h⟩
 |some c=>
  obtain⟨_,h2,h3,_,_⟩:=j.cn hc;have:=ajS c.r.rest;simp only[h2,h3]at*;refine⟨?_,this.2.1,this.2.2.1,this.2.2.2⟩;exact j.bC (f:=λr=>{r with je:=(eI true c.r.rest 64).2.1,rest:=(eI true c.r.rest 64).2.2}) λr h1 h2 h3 h4=>⟨h1,h2,this.1,h4⟩
def NJ.js {f:Nat}:∀{n:N},NJ n->NJ (n.js f id):=by
 induction f with
 |zero=>exactλj=>j
 |succ f ih=>
  intro n j;obtain⟨j1,h1,h2,h3⟩:=j.cut (id:=id);rw[N.js];split
  ·exact j
  ·split
   ·exact j1
   ·rename_i hi;exact ih (j1.unit h1 (h3 (aV hi)) h2).serve
def NJ.iY (j:NJ n):NJ n.iY:=by
 refine NJ.serve (NJ.fold (λn a j=>?_) j);split
 ·exact j.leave
 ·exact j
def NJ.feed (j:NJ n):NJ (n.feed id s):=by
 unfold N.feed;split
 ·exact j.iY
 ·exact(NJ.js (j.bC (f:=λr=>{r with recv:=n.clock,rest:=r.rest++s}) λr h1 h2 h3 h4=>⟨h1,h2,h3,h4⟩)).iY
def NJ.clean (j:NJ n):NJ n.clean:=
 {j with
  lc:=by
   show(List.map _ (List.filter _ _)).length<=1
   rw[List.length_map]
   exact Nat.le_trans (List.length_filter_le _ _) j.lc
  c:=λe he=>by
   obtain⟨e',h',rfl⟩:=List.mem_map.1 he
   have:=j.c e' (List.mem_filter.1 h').1
   exact⟨this.1,.nil,this.2.2.1,this.2.2.2.1,this.2.2.2.2.1,this.2.2.2.2.2⟩}
def NJ.outs (j:NJ n):∀e∈n.outs,e.1=1/\Whole e.2/\e.2≠[]:=λe he=>by unfold N.outs at he;obtain⟨h1,h2⟩:=List.mem_filter.1 he;obtain⟨x,hx,rfl⟩:=List.mem_map.1 h1;exact⟨(j.c x hx).1,(j.c x hx).2.1,aV h2⟩
def NJ.lr:NJ lr where
 lc:=an
 lq:=an
 c:=λe he=>by obtain rfl:=List.mem_singleton.1 he;refine⟨rfl,.nil,rfl,rfl,an,λg hg=>?_⟩;obtain rfl:=List.mem_singleton.1 hg;exactλx hx=>(by cases hx)
 q:=λe he=>by obtain rfl:=List.mem_singleton.1 he;exact⟨an,λm hm=>(by cases hm)⟩
 x:=λe he=>by cases he
def NJ.then (j:NJ n):NJ (n.then id s):=by
 unfold N.then;split
 ·exact j
 ·exact j.feed.clean
end
def Env.same{P:Program}{E E':Env P}(hm:E.main=E'.main)(hs:E.st=E'.st):E=E':=by obtain⟨m,s,w,o⟩:=E;obtain⟨m',s',w',o'⟩:=E';simp only at hm hs;subst hm;subst hs;rfl
def Hp.apR(U ψ φ:Hp):(U.bB ψ).bB φ=U.bB (ψ.bB φ):=Hp.ext' λb=>by
 simp only[Hp.bB]
 cases U.f b<;>rfl
def Hp.aaU{U ψ φ:Hp}(d:ψ.dp φ):(U.dp ψ/\(U.bB ψ).dp φ)↔U.dp (ψ.bB φ):=by
 constructor
 ·rintro⟨d1,d2⟩ b;rcases d1 b with e|e
  ·exact .inl e
  ·rcases d2 b with e2|e2
   ·left
    cases h:U.f b with
    |none=>rfl
    |some o=>rw[Hp.iC h]at e2;cases e2
   ·right;rw[Hp.lC e];exact e2
 ·intro d1;refine⟨λb=>?_,λb=>?_⟩
  ·rcases d1 b with e|e
   ·exact .inl e
   ·right
    cases h:ψ.f b with
    |none=>rfl
    |some o=>rw[Hp.iC h]at e;cases e
  ·rcases d1 b with e|e
   ·rw[Hp.lC e];exact d b
   ·right
    cases h:ψ.f b with
    |none=>rw[Hp.lC h]at e;exact e
    |some o=>rw[Hp.iC h]at e;cases e
section
variable {hr:HR}{atA:List aQ}{h:Int}{f:Nat}{m:aQ}{x:XN}{s:List UInt8}{φ:Hp}{ψ:Hp}{U:Hp}{args:Array Value}
variable {W:World}{f:FuncId}{atA:Fin->Hp->Prop}
def aon (h:∀φ,aw (nF W φ) f args U atA)(d:U.dp ψ):aw (nF W φ) f args (U.bB ψ) λe R=>∃ae,ae.dp ψ/\R=ae.bB ψ/\atA e ae:=by
 by_cases dd:ψ.dp φ
 ·have e:(nF W φ).frame ψ=nF W (ψ.bB φ):=by
   refine Env.same rfl ?_
   funext g U m T
   have h1:=Hp.aaU (U:=U) dd;show(U.dp ψ/\(U.bB ψ).dp φ/\(solo prog W).st g ((U.bB ψ).bB φ) m T)=(U.dp (ψ.bB φ)/\(solo prog W).st g (U.bB (ψ.bB φ)) m T);rw[Hp.apR,<-and_assoc];exact propext (and_congr_left' h1)
  have h2:=h (ψ.bB φ);rw[<-e]at h2;exact h2.ju d
 ·rintro cs m T ⟨d2,_⟩;exfalso;apply dd;intro b;rcases d2 b with e|e
  ·left
   cases h:ψ.f b with
   |none=>rfl
   |some o=>
    rcases d b with e1|e1
    ·rw[Hp.lC e1,h]at e;cases e
    ·rw[h]at e1;cases e1
  ·exact .inr e
def aom {b:Nat}{o:Obj}(h:∀φ,aw (nF W φ) f args U atA)(hb:U.f b=none):aw (nF W φ) f args (U.set b o) λe R=>∃ae,ae.f b=none/\R=ae.set b o/\atA e ae:=by
 let s:Hp:=⟨λx=>if x=b then some o else none⟩
 have sb:s.f b=some o:=if_pos rfl;have sn:∀x,x≠b->s.f x=none:=λx hx=>if_neg hx
 have key:∀R:Hp,R.f b=none->R.bB s=R.set b o:=λR h=>Hp.ext' λx=>by
  by_cases e:x=b
  ·subst e;rw[Hp.lC h,sb,Hp.bD]
  ·rw[Hp.aM _ e]
   cases hx:R.f x with
   |none=>rw[Hp.lC hx,sn x e]
   |some p=>rw[Hp.iC hx]
 have d:U.dp s:=λx=>by
  by_cases e:x=b
  ·subst e;exact .inl hb
  ·exact .inr (sn x e)
 have:=aon (φ:=φ) h d;rw[key U hb]at this;refine this.mono ?_;rintro e R ⟨ae,d',rfl,hr⟩;have cD:ae.f b=none:=(d' b).resolve_right (by rw[sb];simp);exact⟨ae,cD,key _ cD,hr⟩
end
variable {g:Nat}{X:Ext}{U:Hp}{b:Nat}
def Gw.add(h:Gw g n X U)(hb:U.f b=none)(o:Obj):Gw g n ((b,o)::X) (U.set b o):=by obtain⟨A,hA,H,a⟩:=h;exact⟨A,hA,H,a.iE hb o⟩
def Gw.at{o:Obj}(h:Gw g n ((b,o)::X) U):U.f b=some o:=by obtain⟨A,hA,H,a⟩:=h;exact a.ei
section
variable {W:World}
end
end Go.Qw
