/- 34 -/
import Derived.Test.YtpiabknabfbfhaaGreatDoorFramed33
set_option linter.all false
set_option maxRecDepth 100000
set_option maxHeartbeats 8000000
namespace Go.Qw
open Go.Proofs.Tryz
def akr(l:List UInt8):∀a,l.foldl (λn b=>n*256+b.toNat) a<(a+1)*256^l.length:=by
 induction l with
 |nil=>intro a;simp
 |cons b l ih=>
  intro a;have h1:=ih (a*256+b.toNat);have h2:=b.toNat_lt;rw[List.foldl_cons,List.length_cons,Nat.pow_succ];refine Nat.lt_of_lt_of_le h1 ?_;rw[Nat.mul_comm (256^l.length) 256,<-Nat.mul_assoc];exact Nat.mul_le_mul_right _ aa
def Tg{l:List UInt8}{w:Nat}(h:l.length<=w):num l<256^w:=by have:=akr l 0;rw[Nat.zero_add,Nat.one_mul]at this;exact Nat.lt_of_lt_of_le this (Nat.pow_le_pow_right aa h)
structure Nh (s:List UInt8) (v:Un×Bool×List UInt8):Prop where
 pay:v.1.gL.length<=5000
 ch:0<=v.1.channel/\v.1.channel<1000000
 le:v.2.2.length<=s.length
 lt:v.1.idle=false->v.1.fB=false->v.2.2.length<s.length
 idle:v.1.idle=true->v.2.2.length<=4104
def ajT(gr:Bool)(s:List UInt8)(size:Int)(hs:size<=4096):Nh s (eI gr s size):=by
 unfold eI;split
 ·simp only[];split
  ·exact⟨ak,ak,ak,by simp[Un.idle],by simp[Un.idle]⟩
  ·split
   ·rename_i h8;exact⟨ak,ak,ak,by simp[Un.idle];omega,by simp[Un.idle]⟩
   ·rename_i h8;exact⟨ak,ak,ak,by simp[Un.idle],by simp[Un.idle];omega⟩
 ·split
  ·rename_i h7;exact⟨ak,ak,ak,by simp[Un.idle],by simp[Un.idle];omega⟩
  ·rename_i h7;have eF:num ((s.drop 1).take 2)<256^2:=Tg (by simp;omega);simp only[];generalize hk:num (s.take 1)=kind;generalize hn:num ((s.drop 3).take 4)=n;generalize hw:(if kind=1\/kind=2\/kind=3 then decide ((n:Int)>size-8)else if kind=8 then decide (n>0\/num ((s.drop 1).take 2)≠0)else true:Bool)=fB;have hd:(s.drop 7).length=s.length-7:=List.length_drop
   have hle:fB=false->n<=4088:=by
    intro e;rw[e]at hw;split at hw
    ·simp only[decide_eq_false_iff_not]at hw;omega
    ·split at hw
     ·simp only[decide_eq_false_iff_not]at hw;omega
     ·cases hw
   have afc:fB=false->kind≠0:=by intro e hx;rw[e,hx]at hw;simp at hw
   split
   ·rename_i h1;exact⟨ak,ak,ak,by simp[Un.idle],by simp[Un.idle];have:=hle h1.1;omega⟩
   ·rename_i h1;split
    ·rename_i h2;exact⟨ak,by simp only;omega,ak,ak,by simp[Un.idle]⟩
    ·rename_i h2;have kS:fB=false:=aV h2;have h3:=hle kS;have h4:=afc kS;refine⟨by simp;omega,by simp only;omega,ak,by simp;omega,λhi=>?_⟩;simp[Un.idle]at hi;omega
section
variable {n:N}{n':N}{T:Int}{K:Nat}{ex:List Int}{aI:Int}{no:Nat}{c:CN}{h:HN}{nm:List UInt8}{k:Int}{m:aQ}
variable {id:Int}
def kle {K a b B:Nat}(h:a<=b)(h2:K+40200000*b+80400000<=B):K+40200000*a+80400000<=B:=aa
def klt {K a b B:Nat}(h:a<b)(h2:K+40200000*b+80400000<=B):K+102000+40000000+40200000*a+80400000<=B:=aa
def N.mu (n:N)(id:Int):Nat:=(n.rest id).length+(if n.ph id=5 then 0 else 1)
structure pD (id:Int) (n:N):Prop where
 ex:∃T K,Ok T K [] n/\T+402*n.mu id+804<=1000000000000/\K+40200000*n.mu id+80400000<=100000000000000
 is:(n.ar id).isSome
 rest:(n.rest id).length<=1000000
def Cc (hc:n.ar id=some c):n.cut id=((eI c.r.je c.r.rest c.r.frame).1,n.bC id λr=>{r with je:=(eI c.r.je c.r.rest c.r.frame).2.1,rest:=(eI c.r.je c.r.rest c.r.frame).2.2}):=by unfold N.cut;rw[hc]
def Ok.cut (o:Ok T K ex n)(hc:n.ar id=some c):Ok T K ex (n.cut id).2:=by rw[Cc hc];exact o.bC (f:=λr=>{r with je:=(eI c.r.je c.r.rest c.r.frame).2.1,rest:=(eI c.r.je c.r.rest c.r.frame).2.2}) (Nat.le_refl _) λc hc=>⟨(o.c _ _ hc).r.out,(o.c _ _ hc).r.frame,(o.c _ _ hc).r.dm⟩
def zC (hc:n.ar id=some c):n.rest id=c.r.rest:=by unfold N.rest;rw[hc];rfl
def uF (hc:n.ar id=some c):n.ph id=c.r.ph:=by unfold N.ph;rw[hc];rfl
def yB (hc:n.ar id=some c):(n.cut id).2.ar id=some {c with r:={c.r with je:=(eI c.r.je c.r.rest c.r.frame).2.1,rest:=(eI c.r.je c.r.rest c.r.frame).2.2}}:=by rw[Cc hc];simp only;rw[qm,if_pos rfl,hc];rfl
def Cd (o:Ok T K ex n)(hc:n.ar id=some c):Nh (n.rest id) ((n.cut id).1,c.r.je,(n.cut id).2.rest id):=by have:=ajT c.r.je c.r.rest c.r.frame (o.c _ _ hc).r.frame.2;rw[zC (yB hc),zC hc,Cc hc];exact⟨this.pay,this.ch,this.le,this.lt,this.idle⟩
def aay (hc:n.ar id=some c):(n.cut id).2.ph id=n.ph id:=by rw[uF (yB hc),uF hc]
def pD.aax (F:pD id n)(hi:(n.cut id).1.idle=true):pD id (n.cut id).2/\((n.cut id).2.rest id).length<=4104:=by
 obtain⟨⟨T,K,o,h1,h2⟩,is,hr⟩:=F;obtain⟨c,hc⟩:=Option.isSome_iff_exists.1 is;have k:=Cd o hc;have hle:=k.le;simp only at hle;have hm:(n.cut id).2.mu id<=n.mu id:=by unfold N.mu;rw[aay hc];omega
 refine⟨⟨⟨T,K,o.cut hc,?_,?_⟩,?_,?_⟩,k.idle hi⟩
 ·omega
 ·exact kle hm h2
 ·rw[yB hc];rfl
 ·omega
def U6 {u:Un}(hw:u.fB=true)(hi:(n.ar id).isSome):(n.unit id u).ph id=5:=by
 have key:∀n:N,(n.ar id).isSome->(n.bC id λr=>{r with ph:=5}).ph id=5:=λn h=>by obtain⟨c,hc⟩:=Option.isSome_iff_exists.1 h;rw[uF (c:={c with r:={c.r with ph:=5}}) (by rw[qm,if_pos rfl,hc];rfl)]
 unfold N.unit;rw[if_pos hw];split
 ·exact key _ (og hi)
 ·split
  ·exact key _ hi
  ·exact key _ (by unfold N.cA;exact og (zj (Sd hi)))
def pD.step (F:pD id n)(hp:n.ph id≠5)(hi:(n.cut id).1.idle=false):
 pD id ((n.cut id).2.unit id (n.cut id).1).serve/\(((n.cut id).2.unit id (n.cut id).1).serve).mu id<n.mu id:=by
 obtain⟨⟨T,K,o,h1,h2⟩,is,hr⟩:=F;obtain⟨c,hc⟩:=Option.isSome_iff_exists.1 is;have k:=Cd o hc;have hle:=k.le;simp only at hle;have o1:=o.cut hc;have ui:((n.cut id).2.ar id).isSome:=by rw[yB hc];rfl
 have o2:=(o1.unit (id:=id) (u:=(n.cut id).1) k.pay k.ch.1 ui).serve;have r1:((n.cut id).2.unit id (n.cut id).1).serve.rest id=(n.cut id).2.rest id:=(wB (Kp.serve λ_ _ _=>rfl)).trans (wB (Kp.unit A5));have p1:((n.cut id).2.unit id (n.cut id).1).serve.ph id=((n.cut id).2.unit id (n.cut id).1).ph id:=wx (Kp.serve λ_ _ _=>rfl);have KU:(((n.cut id).2.unit id (n.cut id).1).serve.ar id).isSome:=(Kp.serve (F:=CR.rest) λ_ _ _=>rfl).is ((Kp.unit A5).is ui)
 have hm:(((n.cut id).2.unit id (n.cut id).1).serve).mu id<n.mu id:=by
  unfold N.mu;rw[r1,p1,if_neg hp]
  cases hw:(n.cut id).1.fB with
  |true=>rw[U6 hw ui];simp only[if_true];omega
  |false=>have:=k.lt hi hw;simp only at this;split<;>omega
 refine⟨⟨⟨_,_,o2,?_,?_⟩,KU,?_⟩,hm⟩
 ·omega
 ·exact klt hm h2
 ·rw[r1];omega
structure Nn (id:Int) (T:Int) (K:Nat) (n:N):Prop where
 ok:Ok T K [] n
 is:(n.ar id).isSome
 rest:n.ph id=5\/(n.rest id).length<=4104
def Ok.js (o:Ok T K [] n)(is:(n.ar id).isSome){f:Nat}(hf:n.mu id<f):Nn id (T+402*n.mu id) (K+40200000*n.mu id) (n.js f id):=by
 induction f generalizing n T K with
 |zero=>omega
 |succ f ih=>
  unfold N.js;obtain⟨c,hc⟩:=Option.isSome_iff_exists.1 is;have k:=Cd o hc;have hle:=k.le;simp only at hle;have o1:=o.cut hc;have ui:((n.cut id).2.ar id).isSome:=by rw[yB hc];rfl
  split
  ·rename_i h5;exact⟨o.mono aa aa,is,.inl h5⟩
  ·rename_i hp;split
   ·rename_i hi;exact⟨o1.mono aa aa,ui,.inr (k.idle hi)⟩
   ·rename_i hi;have hi:(n.cut id).1.idle=false:=aV hi;have o2:=(o1.unit (id:=id) (u:=(n.cut id).1) k.pay k.ch.1 ui).serve;have r1:((n.cut id).2.unit id (n.cut id).1).serve.rest id=(n.cut id).2.rest id:=(wB (Kp.serve λ_ _ _=>rfl)).trans (wB (Kp.unit A5));have p1:((n.cut id).2.unit id (n.cut id).1).serve.ph id=((n.cut id).2.unit id (n.cut id).1).ph id:=wx (Kp.serve λ_ _ _=>rfl);have KU:(((n.cut id).2.unit id (n.cut id).1).serve.ar id).isSome:=(Kp.serve (F:=CR.rest) λ_ _ _=>rfl).is ((Kp.unit A5).is ui)
    have hm:(((n.cut id).2.unit id (n.cut id).1).serve).mu id<n.mu id:=by
     unfold N.mu;rw[r1,p1,if_neg hp]
     cases hw:(n.cut id).1.fB with
     |true=>rw[U6 hw ui];simp only[if_true];omega
     |false=>have:=k.lt hi hw;simp only at this;split<;>omega
    have h3:=ih o2 KU aa;exact⟨h3.ok.mono aa aa,h3.is,h3.rest⟩
def Ok.aiy (o:Ok T K [] n):Ok T K [] (n.leave id):=by
 cases hc:n.ar id with
 |none=>unfold N.leave;rw[hc];exact o
 |some c=>exact o.leave (λ_ h=>by cases h) (by rw[hc];rfl)
def N.leaves (n:N)(l:List Int):N:=l.foldl (λn id=>if n.ph id=5 then n.leave id else n) n
def Ok.leaves (o:Ok T K [] n){l:List Int}:Ok T K [] (n.leaves l):=by
 unfold N.leaves
 induction l generalizing n with
 |nil=>exact o
 |cons a l ih=>
  rw[List.foldl_cons];split
  ·exact ih o.aiy
  ·exact ih o
def Ep {l:List Int}{i:Int}:(n.leaves l).rC i=n.rC i:=by
 unfold N.leaves
 induction l generalizing n with
 |nil=>rfl
 |cons a l ih=>
  rw[List.foldl_cons,ih];split
  ·exact Hc
  ·rfl
def ZS (hc:(n.leave id).ar id=some c):c.ch=[]:=by
 cases h:n.ar id with
 |none=>unfold N.leave at hc;rw[h]at hc;simp only at hc;rw[h]at hc;cases hc
 |some c0=>
  rw[Lj h,ql,if_pos rfl]at hc;obtain⟨c1,_,rfl⟩:=Option.map_eq_some_iff.1 hc;rfl
def ZM {c c':CN}(h:c'.ch.map (·.1)=c.ch.map (·.1))(hc:c.ch=[]):c'.ch=[]:=by rw[hc]at h;simpa using h
def ZR (aE:aI≠id):((n.leave id).ar aI).map (λc=>c.ch.map (·.1))=(n.ar aI).map λc=>c.ch.map (·.1):=by
 cases h:n.ar id with
 |none=>unfold N.leave;rw[h]
 |some c0=>
  rw[Lj h,ql,if_neg aE];exact IH
def E6 (n:N):Prop:=∀id c,n.ar id=some c->c.r.ph=5->c.ch=[]
def Sg (hk:((n'.ar id).map λc=>c.ch.map (·.1))=(n.ar id).map λc=>c.ch.map (·.1))(h0:∀c,n.ar id=some c->c.ch=[]):∀c,n'.ar id=some c->c.ch=[]:=λc hc=>by rw[hc,Option.map_some]at hk;obtain⟨c0,h1,h2⟩:=Option.map_eq_some_iff.1 hk.symm;exact ZM h2.symm (h0 c0 h1)
def aiB {l:List Int}(hm:id∈l\/∀c,n.ar id=some c->c.ch=[])(h5:n.ph id=5):∀c,(n.leaves l).ar id=some c->c.ch=[]:=by
 induction l generalizing n with
 |nil=>exact hm.elim (λh=>by cases h) λh=>h
 |cons a l ih=>
  have e:n.leaves (a::l)=(if n.ph a=5 then n.leave a else n).leaves l:=rfl;rw[e]
  have pU:(if n.ph a=5 then n.leave a else n).ph id=5:=by
   split
   ·rw[wx (Kp.rC λ_=>Hc)];exact h5
   ·exact h5
  refine ih ?_ pU;by_cases ha:id=a
  ·subst ha;rw[if_pos h5];exact .inr λc hc=>ZS hc
  ·rcases hm with hm|hm
   ·exact .inl ((List.mem_cons.1 hm).resolve_left ha)
   ·right;split
    ·exact Sg (ZR ha) hm
    ·exact hm
def ON {s:List UInt8}:((n.send id s).ar aI).map (λc=>c.ch.map (·.1))=(n.ar aI).map λc=>c.ch.map (·.1):=by
 rw[sw];split
 ·cases n.ar aI<;>rfl
 ·rfl
def ZQ {na:Bool}:((n.hand id no nm m na).ar aI).map (λc=>c.ch.map (·.1))=(n.ar aI).map λc=>c.ch.map (·.1):=by
 unfold N.hand;split
 ·exact Fu
 ·rw[yz];exact Fu
def ZX:((n.take k m).ar aI).map (λc=>c.ch.map (·.1))=(n.ar aI).map λc=>c.ch.map (·.1):=by
 unfold N.take;split
 ·rfl
 ·unfold N.give;exact ON.trans (ON.trans ZQ)
def ZU {f:Nat}:((n.iX f nm).ar aI).map (λc=>c.ch.map (·.1))=(n.ar aI).map λc=>c.ch.map (·.1):=by
 induction f generalizing n with
 |zero=>rfl
 |succ f ih=>
  unfold N.iX
  cases h:n.gN nm with
  |none=>rfl
  |some n'=>
   simp only[];rw[ih];unfold N.gN at h;split at h
   ·cases h
   ·split at h
    ·cases h
    ·split at h
     ·cases h
     ·cases h;rw[ZX,yz]
def OO:(n.serve.ar aI).map (λc=>c.ch.map (·.1))=(n.ar aI).map λc=>c.ch.map (·.1):=by
 unfold N.serve;generalize n.aL.map (·.1)=l
 induction l generalizing n with
 |nil=>rfl
 |cons a l ih=>rw[List.foldl_cons,ih,ZU]
def EH:n.iY=(n.leaves (n.aD.map (·.1))).serve:=rfl
def Ok.iY (o:Ok T K [] n):Ok (T+400) (K+40000000) [] n.iY:=by rw[EH];exact o.leaves.serve
def adh:E6 n.iY:=λid c hc h5=>by
 rw[EH]at hc;have pU:(n.leaves (n.aD.map (·.1))).serve.ph id=5:=by rw[uF hc];exact h5
 rw[wx (Kp.serve λ_ _ _=>rfl)]at pU;rw[wx (Kp.rC λ_=>Ep)]at pU
 have h0:((n.ar id)).isSome:=by
  have h1:((n.leaves (n.aD.map (·.1))).ar id).isSome:=by
   have:=OO (n:=n.leaves (n.aD.map (·.1))) (aI:=id);rw[hc]at this
   cases h:(n.leaves (n.aD.map (·.1))).ar id with
   |some _=>rfl
   |none=>rw[h]at this;cases this
  exact DJ h1 Ep.symm
 exact Sg OO (aiB (.inl (lR.1 h0)) pU) c hc
end
section
variable {n:N}{T:Int}{T':Int}{K:Nat}{ex:List Int}{aI:Int}{no:Nat}{c:CN}{h:HN}{nm:List UInt8}{q:QN}{k:Int}{x:XN}
variable {id:Int}
def V0 {α β:Type}[DecidableEq α]{l:List (α×β)}{k:α}(nd:(l.map (·.1)).Nodup)(p:β->Bool):bw (l.filter λe=>p e.2) k=(bw l k).filter p:=by
 induction l with
 |nil=>rfl
 |cons e l ih=>
  rw[List.map_cons,List.nodup_cons]at nd;have ih:=ih nd.2;unfold bw at ih|-;rw[List.filter_cons,List.find?_cons];by_cases he:e.1=k
  ·simp only[he,decide_true,Option.map_some];by_cases hp:p e.2
   ·rw[if_pos hp,List.find?_cons];simp[he,Option.filter,hp]
   ·rw[if_neg hp];have:∀x∈l,¬x.1=k:=λx hx hy=>nd.1 (by rw[he,<-hy];exact List.mem_map_of_mem (f:=(·.1)) hx)
    have h2:((l.filter λe=>p e.2).find? λe=>decide (e.1=k))=none:=List.find?_eq_none.2 λx hx=>by have:=this x (List.mem_filter.1 hx).1;simpa using this
    rw[h2];have:p e.2=false:=aV hp;simp[Option.filter,this]
  ·simp only[he,decide_false];by_cases hp:p e.2
   ·rw[if_pos hp,List.find?_cons];simp only[he,decide_false];exact ih
   ·rw[if_neg hp];exact ih
def Fv (o:Ok T K ex n):n.clean.ar id=((n.ar id).filter λc=>decide (c.r.ph≠5)).map λc=>{c with r:={c.r with out:=[]}}:=by unfold N.ar N.clean;simp only[];exact(NC (γ:=CN) (n.aD.filter λe=>decide (e.2.r.ph≠5)) id λc:CN=>{c with r:={c.r with out:=[]}}).trans (congrArg _ (V0 o.nc λc=>decide (c.r.ph≠5)))
def adV (o:Ok T K ex n)(g:E6 n):n.clean.h? id no=n.h? id no:=by
 unfold N.h?;rw[Fv o]
 cases hc:n.ar id with
 |none=>rfl
 |some c=>
  by_cases h5:c.r.ph=5
  ·have:=g id c hc h5;simp[Option.filter,h5,this,bw]
  ·simp[Option.filter,h5]
def ML (g:E6 n)(nc:(n.aD.map (·.1)).Nodup){w:HN->Nat}:n.clean.eu w=n.eu w:=by
 unfold N.eu N.clean;simp only[List.map_map,Function.comp_def]
 exact UM n.aD (λe=>decide (e.2.r.ph≠5)) (λe=>(e.2.ch.map λg=>w g.2).sum) λe he hp=>by have h5:e.2.r.ph=5:=aV hp;rw[g e.1 e.2 (ni nc he) h5];rfl
def Ok.clean (o:Ok T K [] n)(g:E6 n):Ok T 0 [] n.clean:=by
 have jT:(n.clean.aD.map (·.1)).Sublist (n.aD.map (·.1)):=by
  have e:n.clean.aD.map (·.1)=(n.aD.filter λe=>decide (e.2.r.ph≠5)).map (·.1):=by unfold N.clean;simp only[List.map_map];rfl
  rw[e];exact List.Sublist.map _ List.filter_sublist
 have hl:n.clean.aD.length<=n.aD.length:=by have:=jT.length_le;simpa using this
 have hh:∀i j,n.clean.h? i j=n.h? i j:=λi j=>adV o g
 exact{
  cfg:=o.cfg
  sc:=o.sc.sublist jT
  lc:=Nat.le_trans hl o.lc
  ids:=λi hi=>o.ids i (lR.2 (jT.subset (lR.1 hi)))
  sq:=o.sq
  nq:=o.nq
  lq:=o.lq
  w:=⟨λi j h' hx=>o.w.un i j h' (by rw[<-hh];exact hx),o.w.xq,λk x hx=>by obtain⟨h',h1,h2⟩:=o.w.xh k x hx;exact⟨h',by rw[hh];exact h1,h2⟩,λi j h' hx=>o.w.co i j h' (by rw[<-hh];exact hx),o.w.qc⟩
  c:=λi c' cF=>by
   rw[Fv o]at cF
   obtain⟨c,h1,rfl⟩:=Option.map_eq_some_iff.1 cF
   obtain⟨h1,_⟩:=Option.filter_eq_some_iff.1 h1
   have oc:=o.c _ _ h1
   exact⟨⟨ak,oc.r.frame,oc.r.dm⟩,oc.jq,oc.no⟩
  h:=λi j h' hx=>o.h i j h' (by rw[<-hh];exact hx)
  part:=λi j h' hx=>o.part i j h' (by rw[<-hh];exact hx)
  q:=o.q
  cnt:=λnm q hq=>(o.cnt nm q hq).same (ML g o.nc) (λs=>ML g o.nc) rfl
  x:=o.x
  xn:=o.xn
  xl:=by rw[ML g o.nc];exact o.xl
  gE:=o.gE
  aY:=o.aY
  last:=o.last}
structure Inv (T:Int) (n:N):Prop where
 ok:Ok T 0 [] n
 ph:∀id c,n.ar id=some c->c.r.ph≠5
 rest:∀id,(n.rest id).length<=4104
def Inv.mono (o:Inv T n)(h:T<=T'):Inv T' n:=⟨o.ok.mono h (Nat.le_refl _),o.ph,o.rest⟩
def ann (o:Ok T K ex n):n.clean.rest id=(((n.ar id).filter λc=>decide (c.r.ph≠5)).map λc=>c.r.rest).getD []:=by unfold N.rest;rw[Fv o,Option.map_map];rfl
def Inv.G3 (o:Ok T K [] n)(hr:∀id,n.ph id=5\/(n.rest id).length<=4104):Inv (T+400) n.iY.clean:=by
 have o1:=o.iY;refine⟨o1.clean adh,λid c hc=>?_,λid=>?_⟩
 ·rw[Fv o1]at hc;obtain⟨c0,h1,rfl⟩:=Option.map_eq_some_iff.1 hc;obtain⟨_,h2⟩:=Option.filter_eq_some_iff.1 h1;simpa using h2
 ·rw[ann o1]
  cases hc:n.iY.ar id with
  |none=>simp
  |some c=>
   have e1:n.iY.rest id=n.rest id:=by rw[EH];exact(wB (Kp.serve λ_ _ _=>rfl)).trans (wB (Kp.rC λ_=>Ep))
   have e2:n.iY.ph id=n.ph id:=by rw[EH];exact(wx (Kp.serve λ_ _ _=>rfl)).trans (wx (Kp.rC λ_=>Ep))
   rw[zC hc]at e1;rw[uF hc]at e2;by_cases h5:c.r.ph=5
   ·simp[Option.filter,h5]
   ·simp only[Option.filter,h5,ne_eq,not_false_eq_true,decide_true,if_true,Option.map_some,Option.getD_some];rw[e1];exact(hr id).resolve_left (by rw[<-e2];exact h5)
def Ua {f:CR->CR}(hf:∀r,(f r).rest=r.rest):(n.bC id f).rest aI=n.rest aI:=wB (Kp.bC (F:=CR.rest) hf)
def GX:n.mu id<=(n.rest id).length+1:=by unfold N.mu;split<;>omega
def N.recv (n:N)(id:Int)(s:List UInt8):N:=n.bC id λr=>{r with recv:=n.clock,rest:=r.rest++s}
def Cm {s:List UInt8}:n.tF id s=(n.recv id s).js (((n.recv id s).rest id).length+2) id:=rfl
def T7 {s:List UInt8}(hc:n.ar id=some c):(n.recv id s).rest id=n.rest id++s:=by rw[zC hc,zC (c:={c with r:={c.r with recv:=n.clock,rest:=c.r.rest++s}})];unfold N.recv;rw[qm,if_pos rfl,hc];rfl
def ank {s:List UInt8}(aE:aI≠id):(n.recv id s).rest aI=n.rest aI:=by unfold N.rest N.recv;rw[qm,if_neg aE]
def Ok.recv (o:Ok T K ex n){s:List UInt8}:Ok T K ex (n.recv id s):=o.bC (f:=λr=>{r with recv:=n.clock,rest:=r.rest++s}) (Nat.le_refl _) λc hc=>⟨(o.c _ _ hc).r.out,(o.c _ _ hc).r.frame,(o.c _ _ hc).r.dm⟩
def Se {s:List UInt8}(hi:(n.ar aI).isSome):((n.recv id s).ar aI).isSome:=zj hi
def Ok.tF (o:Ok T K [] n){s:List UInt8}(hc:n.ar id=some c):Nn id (T+402*((n.rest id).length+s.length+1:Nat)) (K+40200000*((n.rest id).length+s.length+1)) (n.tF id s):=by
 rw[Cm];have h1:=T7 (s:=s) hc;have hm:=GX (n:=n.recv id s) (id:=id);rw[h1,List.length_append]at hm;have:=(o.recv (id:=id) (s:=s)).js (f:=((n.recv id s).rest id).length+2) (Se (by rw[hc];rfl)) (by have:=GX (n:=n.recv id s) (id:=id);omega);refine⟨this.ok.mono ?_ ?_,this.is,this.rest⟩
 ·omega
 ·exact Nat.add_le_add_left (Nat.mul_le_mul_left _ hm) _
def aif {f:Nat}(aE:aI≠id):(n.js f id).rest aI=n.rest aI:=by
 induction f generalizing n with
 |zero=>rfl
 |succ f ih=>
  have AH:(n.cut id).2.rest aI=n.rest aI:=by
   unfold N.cut;split
   ·rfl
   ·unfold N.rest;simp only;rw[qm,if_neg aE]
  unfold N.js;split
  ·rfl
  ·split
   ·exact AH
   ·rw[ih,wB (Kp.serve λ_ _ _=>rfl),wB (Kp.unit A5),AH]
def Inv.feed (o:Inv T n){s:List UInt8}:Inv (T+402*(s.length+4107:Nat)) (n.feed id s).clean:=by
 unfold N.feed;split
 ·have:=Inv.G3 o.ok (λid=>.inr (o.rest id));exact this.mono aa
 ·cases hc:n.ar id with
  |none=>
   have e:n.tF id s=n:=by
    have e1:n.recv id s=n:=by unfold N.recv N.bC N.dn;have:dw n.aD id (λc=>{c with r:={c.r with recv:=n.clock,rest:=c.r.rest++s}})=n.aD:=yt λe he hx=>absurd hx (iF hc e he);rw[this]
    rw[Cm,e1];unfold N.js;have:n.ph id=5:=by unfold N.ph;rw[hc];rfl
    rw[if_pos this]
   rw[e];exact(Inv.G3 o.ok (λid=>.inr (o.rest id))).mono aa
  |some c=>
   have f1:=o.ok.tF (s:=s) hc;have h2:=o.rest id;refine(Inv.G3 f1.ok λi=>?_).mono aa;by_cases e:i=id
   ·subst e;exact f1.rest
   ·right;rw[Cm,aif e,ank e];exact o.rest i
def Inv.drop (o:Inv T n):Inv (T+400) (n.drop id).clean:=by unfold N.drop;have o1:Ok T 0 [] (n.bC id λr=>{r with ph:=5}):=o.ok.bC (Nat.le_refl _) λc hc=>⟨(o.ok.c _ _ hc).r.out,(o.ok.c _ _ hc).r.frame,(o.ok.c _ _ hc).r.dm⟩;refine Inv.G3 o1 λi=>.inr ?_;rw[Ua (f:=λr=>{r with ph:=5}) λ_=>rfl];exact o.rest i
def N.connect (n:N):N:={n with last:=n.last+1,aD:=n.aD++[(n.last+1,⟨⟨0,[],false,0,n.cfg.frame,0,n.clock,n.clock,[]⟩,[]⟩)]}
def V2 {α β:Type}[DecidableEq α]{l:List (α×β)}{k k':α}{v:β}(h:bw l k=none):bw (l++[(k,v)]) k'=if k'=k then some v else bw l k':=by
 unfold bw at h|-;rw[List.find?_append];by_cases e:k'=k
 ·subst e;rw[if_pos rfl];have:(l.find? λe=>decide (e.1=k'))=none:=aV h;rw[this];simp
 ·rw[if_neg e];have:¬k=k':=λx=>e x.symm;simp[this]
def Ok.LG (o:Ok T K ex n):n.ar (n.last+1)=none:=by
 cases h:n.ar (n.last+1)with
 |none=>rfl
 |some c=>have:=o.ids (n.last+1) (by rw[h];rfl);omega
def Ak (o:Ok T K ex n):n.connect.ar id=if id=n.last+1 then some ⟨⟨0,[],false,0,n.cfg.frame,0,n.clock,n.clock,[]⟩,[]⟩else n.ar id:=V2 o.LG
def CH (o:Ok T K ex n):n.connect.h? id no=n.h? id no:=by
 unfold N.h?;rw[Ak o];split
 ·rename_i e;rw[e,o.LG];rfl
 ·rfl
def Inv.connect (o:Inv T n)(hl:n.aD.length<=3):Inv T n.connect:=by
 have ok:=o.ok
 have ht:∀w:HN->Nat,n.connect.eu w=n.eu w:=λw=>by unfold N.eu N.connect;simp
 have mi:=ok.last
 refine⟨{
  cfg:=ok.cfg
  sc:=?_
  lc:=by show(n.aD++[_]).length<=4;rw[List.length_append,List.length_singleton];omega
  ids:=λi hi=>by
   rw[Ak ok]at hi
   show 1<=i/\i<=n.last+1
   split at hi
   ·omega
   ·have:=ok.ids i hi;omega
  sq:=ok.sq
  nq:=ok.nq
  lq:=ok.lq
  w:=⟨λi j h' hx=>ok.w.un i j h' (by rw[<-CH ok];exact hx),ok.w.xq,λk x hx=>by obtain⟨h',h1,h2⟩:=ok.w.xh k x hx;exact⟨h',by rw[CH ok];exact h1,h2⟩,λi j h' hx=>ok.w.co i j h' (by rw[<-CH ok];exact hx),ok.w.qc⟩
  c:=λi c' cF=>by
   rw[Ak ok]at cF
   split at cF
   ·cases cF;exact⟨⟨ak,ok.cfg.frame,ak⟩,List.Pairwise.nil,λ_ h=>by cases h⟩
   ·exact ok.c _ _ cF
  h:=λi j h' hx=>ok.h i j h' (by rw[<-CH ok];exact hx)
  part:=λi j h' hx=>ok.part i j h' (by rw[<-CH ok];exact hx)
  q:=ok.q
  cnt:=λnm q hq=>(ok.cnt nm q hq).same (ht _) (λs=>ht _) rfl
  x:=ok.x
  xn:=ok.xn
  xl:=by rw[ht];exact ok.xl
  gE:=ok.gE
  aY:=ok.aY
  last:=by show 0<=n.last+1;omega},λi c' cF=>?_,λi=>?_⟩
 ·show((n.aD++[(n.last+1,(⟨⟨0,[],false,0,n.cfg.frame,0,n.clock,n.clock,[]⟩,[]⟩:CN))]).map (·.1)).Pairwise (·<·);rw[List.map_append,List.pairwise_append];refine⟨ok.sc,ak,λa ha b hb=>?_⟩;simp only[List.map_cons,List.map_nil,List.mem_singleton]at hb;have:=ok.ids a (lR.2 ha);omega
 ·rw[Ak ok]at cF;split at cF
  ·cases cF;simp
  ·exact o.ph _ _ cF
 ·unfold N.rest;rw[Ak ok];split
  ·simp
  ·exact o.rest i
def N.new (g:jZ):N:=⟨g,0,0,0,0,[],[],[]⟩
def Inv.new {g:jZ}(hg:E5 g):Inv 0 (N.new g):=by
 have e1:∀i,(N.new g).ar i=none:=λ_=>rfl;have e2:∀i j,(N.new g).h? i j=none:=λ_ _=>rfl;have e3:∀i,(N.new g).q? i=none:=λ_=>rfl;have e4:∀i,(N.new g).x? i=none:=λ_=>rfl
 exact⟨{
  cfg:=hg
  sc:=List.Pairwise.nil
  lc:=by simp[N.new]
  ids:=λi hi=>by rw[e1]at hi;cases hi
  sq:=List.Pairwise.nil
  nq:=List.Pairwise.nil
  lq:=by simp[N.new]
  w:=⟨λi j h hx=>by rw[e2]at hx;(cases hx),λk x hx=>by rw[e4]at hx;(cases hx),λk x hx=>by rw[e4]at hx;(cases hx),λi j h hx=>by rw[e2]at hx;(cases hx),λk x hx=>by rw[e3]at hx;(cases hx)⟩
  c:=λi c hx=>by rw[e1]at hx;cases hx
  h:=λi j h hx=>by rw[e2]at hx;cases hx
  part:=λi j h hx=>by rw[e2]at hx;cases hx
  q:=λk x hx=>by rw[e3]at hx;cases hx
  cnt:=λk x hx=>by rw[e3]at hx;cases hx
  x:=λk x hx=>by rw[e4]at hx;cases hx
  xn:=List.Pairwise.nil
  xl:=by simp[N.new]
  gE:=by simp[N.new]
  aY:=by simp[N.new]
  last:=by simp[N.new]},λi c hx=>by rw[e1]at hx;(cases hx),λi=>by simp[N.rest,e1]⟩
end
section
variable {n:N}{c:CN}{h:HN}{k:Int}
variable {id:Int}
def Aj (e:Int×CN):Int×CN:=(e.1,{e.2 with r:={e.2.r with out:=[]}})
def N.cl (n:N)(j:Nat):N:={n with aD:=((n.aD.take j).filter λe=>decide (e.2.r.ph≠5)).map Aj++n.aD.drop j}
def N.os (n:N)(j:Nat):List (Int×List UInt8):=((n.aD.take j).map λe=>(e.1,e.2.r.out)).filter λe=>decide (e.2≠[])
def Z3:n.cl 0=n:=by unfold N.cl;simp
def ZZ:n.cl n.aD.length=n.clean:=by unfold N.cl N.clean;simp[List.take_length,List.drop_length,Aj]
def alg:n.os n.aD.length=n.outs:=by unfold N.os N.outs;rw[List.take_length]
def ali {j:Nat}(hj:j<n.aD.length):n.os (j+1)=n.os j++(if n.aD[j].2.r.out=[]then []else [(n.aD[j].1,n.aD[j].2.r.out)]):=by unfold N.os;rw[List.take_succ_eq_append_getElem hj,List.map_append,List.filter_append];congr 1;by_cases h:n.aD[j].2.r.out=[]<;>simp[h]
def alh {j:Nat}:(n.os j).length<=n.aD.length:=by unfold N.os;refine Nat.le_trans (List.length_filter_le _ _) ?_;rw[List.length_map,List.length_take];omega
def B7 {j:Nat}(nd:(n.aD.map (·.1)).Nodup)(hj:j<n.aD.length):(∀e∈((n.aD.take j).filter λe=>decide (e.2.r.ph≠5)).map Aj,¬e.1=n.aD[j].1)/\∀e∈n.aD.drop (j+1),¬e.1=n.aD[j].1:=by
 constructor
 ·intro e he;obtain⟨e0,h0,rfl⟩:=List.mem_map.1 he;exact G2 nd hj e0 (List.mem_filter.1 h0).1
 ·intro e he hx;obtain⟨i,hi,rfl⟩:=List.getElem_of_mem he;rw[List.length_drop]at hi;rw[List.getElem_drop]at hx;have h1:(n.aD.map (·.1))[j]'(by simp;omega)=(n.aD.map (·.1))[j+1+i]'(by simp;omega):=by simpa using hx.symm
  exact(List.pairwise_iff_getElem.1 nd) j (j+1+i) (by simp;omega) (by simp;omega) aa h1
def V1 {α β:Type}[DecidableEq α]{P atA:List (α×β)}{k:α}{v:β}(hP:∀e∈P,¬e.1=k):bw (P++(k,v)::atA) k=some v:=by
 unfold bw;rw[List.find?_append];have:(P.find? λe=>decide (e.1=k))=none:=List.find?_eq_none.2 λe he=>by simpa using hP e he
 rw[this];simp
def Wa {α β:Type}[DecidableEq α]{P atA:List (α×β)}{k:α}{v:β}{f:β->β}(hP:∀e∈P,¬e.1=k)(hR:∀e∈atA,¬e.1=k):dw (P++(k,v)::atA) k f=P++(k,f v)::atA:=by have h1:dw P k f=P:=yt λe he hx=>absurd hx (hP e he);have h2:dw atA k f=atA:=yt λe he hx=>absurd hx (hR e he);unfold dw at h1 h2|-;rw[List.map_append,List.map_cons,h1,h2,if_pos rfl]
def VV {α β:Type}[DecidableEq α]{P atA:List (α×β)}{k:α}{v:β}(hP:∀e∈P,¬e.1=k)(hR:∀e∈atA,¬e.1=k):cH (P++(k,v)::atA) k=P++atA:=by unfold cH;rw[List.filter_append,List.filter_cons_of_neg ak];rw[List.filter_eq_self.2 λe he=>by simpa using hP e he,List.filter_eq_self.2 λe he=>by simpa using hR e he]
def OP {j:Nat}(hj:j<n.aD.length):(n.cl j).aD=((n.aD.take j).filter λe=>decide (e.2.r.ph≠5)).map Aj++(n.aD[j].1,n.aD[j].2)::n.aD.drop (j+1):=by unfold N.cl;simp only[];rw[List.drop_eq_getElem_cons hj]
def Z0 {j:Nat}(nd:(n.aD.map (·.1)).Nodup)(hj:j<n.aD.length):(n.cl j).ar n.aD[j].1=some n.aD[j].2:=by unfold N.ar;rw[OP hj];exact V1 (B7 nd hj).1
def II {j:Nat}(nd:(n.aD.map (·.1)).Nodup)(hj:j<n.aD.length):
 ((n.cl j).bC n.aD[j].1 λr=>{r with out:=[]}).aD=((n.aD.take j).filter λe=>decide (e.2.r.ph≠5)).map Aj++(n.aD[j].1,{n.aD[j].2 with r:={n.aD[j].2.r with out:=[]}})::n.aD.drop (j+1):=by
 have h:=Wa (v:=n.aD[j].2) (f:=λc:CN=>{c with r:={c.r with out:=[]}}) (B7 nd hj).1 (B7 nd hj).2;rw[<-OP hj]at h;exact h
def Z2 {j:Nat}(nd:(n.aD.map (·.1)).Nodup)(hj:j<n.aD.length)(hp:n.aD[j].2.r.ph≠5):(n.cl j).bC n.aD[j].1 (λr=>{r with out:=[]})=n.cl (j+1):=by
 have h1:=II nd hj
 have h2:(n.cl (j+1)).aD=((n.cl j).bC n.aD[j].1 λr=>{r with out:=[]}).aD:=by rw[h1];unfold N.cl;simp only[];rw[List.take_succ_eq_append_getElem hj,List.filter_append,List.map_append,List.append_assoc];simp[hp,Aj]
 show({n.cl j with aD:=((n.cl j).bC n.aD[j].1 λr=>{r with out:=[]}).aD}:N)=_;rw[<-h2];rfl
def Z1 {j:Nat}(nd:(n.aD.map (·.1)).Nodup)(hj:j<n.aD.length)(hp:n.aD[j].2.r.ph=5):
 ({(n.cl j).bC n.aD[j].1 (λr=>{r with out:=[]})with aD:=cH ((n.cl j).bC n.aD[j].1 λr=>{r with out:=[]}).aD n.aD[j].1}:N)=n.cl (j+1):=by
 have h1:=II nd hj
 have h2:(n.cl (j+1)).aD=cH ((n.cl j).bC n.aD[j].1 λr=>{r with out:=[]}).aD n.aD[j].1:=by rw[h1,VV (B7 nd hj).1 (B7 nd hj).2];unfold N.cl;simp only[];rw[List.take_succ_eq_append_getElem hj,List.filter_append,List.map_append,List.append_assoc];simp[hp]
 rw[<-h2];rfl
def aiC {l:List Int}{j:Nat}(hj:j<l.length):n.leaves (l.take (j+1))=if(n.leaves (l.take j)).ph l[j]=5 then(n.leaves (l.take j)).leave l[j]else n.leaves (l.take j):=by unfold N.leaves;rw[List.take_succ_eq_append_getElem hj,List.foldl_append];rfl
end
def H9(id:Int)(no:Nat)(n:N):Er->Prop
 | .nil=>True
 | .cA e cl me=>e<1000000/\cl<1000000/\me<1000000
 | .soft e cl me=>(e<1000000/\cl<1000000/\me<1000000)/\(n.h? id no).isSome
variable {n:N}
def BQ(id:Int)(no:Nat):HO->Prop
 | .bad cl me=>cl<1000000/\me<1000000
 | .ok n er=>H9 id no n er
section
variable {n:N}{n':N}{T:Int}{K:Nat}{no:Nat}{c:CN}{h:HN}{k:Int}{x:XN}
variable {id:Int}
def ahv {f:HR->HR}(hi:(n.h? id no).isSome):((n.cf id no f).h? id no).isSome:=by rw[JL,if_pos ⟨rfl,rfl⟩];simpa using hi
def ahw {key body:List UInt8}(hi:(n.h? id no).isSome):((n.iS key body).1.h? id no).isSome:=by
 unfold N.iS;split
 ·exact hi
 ·split<;>exact hi
def afA (hi:(n.h? id no).isSome){s:List UInt8}{cl me:Nat}(aK:cl<1000000)(aN:me<1000000):BQ id no (n.method id no h s cl me):=by
 have e:∀x,x<1000000->x<1000000/\cl<1000000/\me<1000000:=λx hx=>⟨hx,aK,aN⟩;unfold N.method;split
 ·exact e _ an
 split
 ·unfold N.close;split
  ·trivial
  ·exact⟨aK,aN⟩
 split
 ·unfold N.declare;split
  ·split
   ·trivial
   ·split
    ·exact e _ an
    ·split
     ·exact⟨e _ an,hi⟩
     ·trivial
  ·exact⟨aK,aN⟩
 split
 ·unfold N.lU;split
  ·split
   ·trivial
   ·exact⟨e _ an,hi⟩
  ·exact⟨aK,aN⟩
 split
 ·unfold N.ow;split
  ·trivial
  ·exact⟨aK,aN⟩
 split
 ·unfold N.consume;split
  ·split
   ·split
    ·split
     ·exact e _ an
     ·split
      ·exact⟨e _ an,hi⟩
      ·split
       ·exact e _ an
       ·split
        ·exact⟨e _ an,hi⟩
        ·trivial
    ·exact⟨aK,aN⟩
   ·exact⟨aK,aN⟩
  ·exact⟨aK,aN⟩
 split
 ·unfold N.mH;split
  ·trivial
  ·exact⟨aK,aN⟩
 split
 ·unfold N.ov;split
  ·trivial
  ·exact⟨aK,aN⟩
 split
 ·unfold N.get;split
  ·split
   ·split
    ·exact⟨e _ an,hi⟩
    ·split
     ·trivial
     ·trivial
   ·exact⟨aK,aN⟩
  ·exact⟨aK,aN⟩
 split
 ·unfold N.settled;split
  ·split
   ·split
    ·split
     ·trivial
     ·exact⟨e _ an,hi⟩
    ·exact⟨aK,aN⟩
   ·exact⟨aK,aN⟩
  ·exact⟨aK,aN⟩
 split
 ·exact e _ an
 ·exact e _ an
def Rs (hi:(n.h? id no).isSome){r:HR}:BQ id no (n.whole id no r):=by
 unfold N.whole;split
 ·trivial
 ·show H9 _ _ _ (if _ then _ else _);split
  ·trivial
  ·exact⟨an,ahw (ahv hi)⟩
def afx (hi:(n.h? id no).isSome){kind:Int}{s:List UInt8}{cl me:Nat}(aK:cl<1000000)(aN:me<1000000):BQ id no (n.iK id no h kind s cl me):=by
 unfold N.iK;split
 ·split
  ·trivial
  ·split
   ·trivial
   ·trivial
 ·split
  ·exact⟨an,aK,aN⟩
  ·split
   ·unfold N.header;split
    ·split
     ·split
      ·split
       ·split
        ·exact(by decide:502<1000000/\60<1000000/\40<1000000)
        ·split
         ·exact⟨an,hi⟩
         ·exact Rs hi
       ·exact(by decide:60<1000000/\40<1000000)
      ·exact(by decide:60<1000000/\40<1000000)
     ·exact(by decide:60<1000000/\40<1000000)
    ·exact(by decide:60<1000000/\40<1000000)
   ·split
    ·unfold N.part;split
     ·exact(by decide:502<1000000/\60<1000000/\40<1000000)
     ·exact Rs hi
    ·exact afA hi aK aN
def Rr (hc:n.ar id=some c){ch kind:Int}{s:List UInt8}{cl me:Nat}(aK:cl<1000000)(aN:me<1000000):BQ id ch.toNat (n.gR id c ch kind s cl me):=by
 unfold N.gR;split
 ·unfold N.begin;by_cases hA:¬(kind=1/\cl=10/\me=(if c.r.ph=1 then 31 else 40))\/ch≠0
  ·rw[if_pos hA];exact⟨an,aK,aN⟩
  ·rw[if_neg hA];split
   ·split
    ·trivial
    ·exact⟨aK,aN⟩
   ·split
    ·split
     ·split
      ·split
       ·exact⟨an,aK,aN⟩
       ·trivial
      ·exact⟨aK,aN⟩
     ·exact⟨aK,aN⟩
    ·exact⟨aK,aN⟩
 ·split
  ·split
   ·unfold N.control;split
    ·split
     ·trivial
     ·exact⟨aK,aN⟩
    ·exact⟨an,aK,aN⟩
   ·unfold N.jW;split
    ·exact⟨an,aK,aN⟩
    ·split
     ·rename_i h eF;exact afx (by unfold N.h?;rw[hc];simp[eF]) aK aN
     ·split
      ·split
       ·trivial
       ·exact⟨aK,aN⟩
      ·exact⟨an,aK,aN⟩
  ·split
   ·trivial
   ·trivial
def TE {w k:Nat}{s r:List UInt8}(h:eP w s=some (k,r)):k<256^w:=by
 unfold eP at h;split at h
 ·injection h with h;injection h with h1 h2;subst h1;exact Tg (by simp;omega)
 ·cases h
def afz (hc:n.ar id=some c){u:Un}:BQ id u.channel.toNat (n.eS id c u):=by
 unfold N.eS;split
 ·split
  ·rename_i h1;split
   ·rename_i h2;have:=TE h1;have:=TE h2;exact Rr hc aa aa
   ·exact(by decide:502<1000000/\0<1000000/\0<1000000)
  ·exact(by decide:502<1000000/\0<1000000/\0<1000000)
 ·exact Rr hc aa aa
def afy (hc:n.ar id=some c){u:Un}:H9 id u.channel.toNat ((n.eS id c u).get n).1 ((n.eS id c u).get n).2:=by
 have:=afz (n:=n) (id:=id) (c:=c) (u:=u) hc
 cases hr:n.eS id c u with
 |bad cl me=>rw[hr]at this;exact⟨an,this⟩
 |ok n' er=>rw[hr]at this;exact this
def akT (T:Int)(K:Nat)(hc:n.ar id=some c){u:Un}(o:Ok T K [] n)(hs:u.gL.length<=5000)(eF:0<=u.channel):
 Ok (T+1) (K+101000) [id] ((n.eS id c u).get n).1/\(((n.eS id c u).get n).1.ar id).isSome:=by
 have:=Tv o hc hs eF
 cases hr:n.eS id c u with
 |bad cl me=>exact⟨(o.Px ak).mono aa aa,by rw[show((HO.bad cl me).get n).1=n from rfl,hc];rfl⟩
 |ok n' er=>rw[hr]at this;exact⟨this.1,this.2.1⟩
def ab4 (hc:n.ar id=some c){u:Un}:n.ju id u=((n.eS id c u).get n).1.fault id u.channel ((n.eS id c u).get n).2:=by unfold N.ju;rw[hc]
end
section
open Go Go.Conc Go.Proofs
section
variable {n:N}{n':N}{T:Int}{K:Nat}{no:Nat}{c:CN}{h:HN}{nm:List UInt8}{q:QN}{k:Int}{x:XN}
variable {E:Env prog}{A:Lay}{H:Hid}{n:N}{X:Ext}{U:Hp}{id:Int}{no:Nat}{c:CN}{h:HN}{nm:List UInt8}{q:QN}{bf:Nat}{f:FR}{r:HR}
def aq.oK {Y:Ext}(a:aq A H n (Y++X) U):aq A H n X U:=by
 induction Y with
 |nil=>exact a
 |cons y Y ih=>exact ih a.oL
def ab1 {u:Un}(a:aq A H n X U)(hc:n.ar id=some c){T:Int}{K:Nat}(O:Ok T K [] n)(hT:T+1<=1000000000000)(hK:K+101000<=100000000000000)(hs:u.gL.length<=5000)(eF:0<=u.channel/\u.channel<1000000):
 aw E 107 #[pV (A.conn id),uV u] U λe R=>e=.returned (.tuple #[])/\∃A',qi A A'/\At A' (n.ju id u) X R:=by
 rw[ab4 hc];obtain⟨O1,ui⟩:=akT T K hc O hs eF.1;have EB:=afy hc (u:=u);refine aX func107 ntmps107 results107 λQ aB al az=>?_;simp only[go_sem,seval,uV];refineλb3 gS=>?_;refine ag ?_;have ec:(Value.agg #[Value.int IntKind.i64 u.kind,Value.int IntKind.i64 u.channel,Value.string (B u.gL),Value.bool u.jf,Value.bool u.fB]).cells=[iV u.kind,iV u.channel,sV u.gL,.bool u.jf,.bool u.fB].toArray:=by first|rfl|simp[Value.cells]
 rw[ec];have a3:=a.iE gS (.cells [iV u.kind,iV u.channel,sV u.gL,.bool u.jf,.bool u.fB].toArray 135 (0,0));generalize hZ3:Hp.set U b3 _=BM;replace a3:=dT a3 hZ3;refineλbf hbf=>?_;refine ag ?_;have of:=a3.iE hbf (bN ⟨u,u.gL,0,0⟩);generalize hZf:Hp.set BM bf _=Vt;replace of:=dT of hZf;refine dI acA (ad5 (f:=⟨u,u.gL,0,0⟩) of hc (O.ad4 aa aa hc) rfl rfl rfl eF (by simp only;omega)) ?_ (λch ae h=>?_)
 rotate_left
 ·obtain⟨_,_,_,_,h,_⟩:=h;cases h
 rintro v R ⟨A1,H1,b,f1,hv,kp,a5⟩
 cases hv
 generalize xp:((n.eS id c u).get n).1=n1 at*;generalize her:((n.eS id c u).get n).2=er at*;obtain⟨c1,cG⟩:=Option.isSome_iff_exists.1 ui;refine ag ?_;refineλb6 nV=>?_;have o6:=a5.iE nV;refine ag ?_;generalize yJ:Hp.set R b6 _=rZ;have a6:=dT (o6 _) yJ;refineλb7 CQ=>?_;have o7:=a6.iE CQ;refine ag ?_;generalize hZ7:Hp.set rZ b7 _=zN;have a7:=dT (o7 _) hZ7
 have fin:∀{A':Lay} {H':Hid} {n':N} {x y:Nat×Obj} {Y:Ext} {z w:Nat×Obj} {bY:Hp},aq A' H' n' (x::y::(Y++z::w::X)) bY->aq A' H' n' X bY:=λh=>by have h1:=aq.oK (Y:=_::_::_) h;exact h1.oL.oL
 have ek:A1.conn id=A.conn id:=by rw[kp.conn]
 have Gs:n1.ph id=c1.r.ph:=uF cG;have gc:=a7.eC cG;rw[ek]at gc
 cases er with
 |nil=>
  simp only[go_sem,seval,Er.v];exact aB dB ao ⟨rfl,A1,kp,H1,fin a7⟩
 |soft e cl me=>
  obtain⟨he,hh⟩:=EB;by_cases h4:c1.r.ph=4
  ·simp only[go_sem,seval,Er.v,gc,h4];refine aB dB ao ⟨rfl,A1,kp,H1,?_⟩;have e1:n1.fault id u.channel (.soft e cl me)=n1:=by show(if n1.ph id=4 then n1 else _)=n1;rw[Gs,if_pos h4]
   rw[e1];exact fin a7
  ·have e1:n1.fault id u.channel (.soft e cl me)=n1.soft id u.channel.toNat e cl me:=by show(if n1.ph id=4 then n1 else _)=_;rw[Gs,if_neg h4]
   obtain⟨h,hh⟩:=Option.isSome_iff_exists.1 hh;have f6:zN.f b6=_:=aq.ext1 a7;simp only at f6;simp only[go_sem,seval,Er.v,gc,h4];refine aJ (Wq (i:=b) (t:=b6) a7.b0 f6) ?_;rintro v2 cU ⟨lP,rfl⟩
   cases lP
   have a8:=a7.zE (i:=1) rfl (.cells [pV b].toArray 296 (0,0));generalize JJ:Hp.set zN b6 _=EY;replace a8:=dT a8 JJ;simp only[List.set_cons_succ,List.set_cons_zero]at a8;have Ji:=a8.eC cG;rw[ek]at Ji;have g6:EY.f b6=some (.cells #[pV b] 296 (0,0)):=aq.ext1 a8
   have g3:EY.f b3=some (.cells #[iV u.kind,iV u.channel,sV u.gL,.bool u.jf,.bool u.fB] 135 (0,0)):=by have:=a8.ext (i:=4) rfl;exact this
   obtain⟨lj,kj,mS,qG,xk⟩:=a8.chm cG;have pS:((u.channel.toNat:Int),pV (A1.chan id u.channel.toNat))∈c1.ch.map λe=>((e.1:Int),pV (A1.chan id e.1)):=List.mem_map.2 ⟨(u.channel.toNat,h),gI (CI hh cG),rfl⟩;obtain⟨st,bt⟩:=rP qG xk pS;have ech:((u.channel.toNat:Nat):Int)=u.channel:=aa;rw[ech]at bt;refine ag ?_;refine Al [0,1,2,3,4,5,7,8,6,9] ?_;simp only[go_sem,seval,Ji,g3,g6];refine jU (b:=H1.chm id) (k:=u.channel) (l:=lj) (c:=kj) uu (z:=.pointer none) ah ?_ mS ?_ ?_
   ·exact au
   ·exact au
   have dr:((dt lj u.channel).map (·.2.1)).getD (.pointer none)=pV (A1.chan id u.channel.toNat):=by rw[bt];rfl
   rw[if_neg Bool.false_ne_true,dr];refine⟨dL g6,?_⟩;refine ag ?_;refine aJ (aol a8 (by simp[Er.ext]) cG hh (O1.Fs hh) (by have:=O1.LH hh;omega) he (by have:=(O1.c _ _ cG).r.out;omega)) ?_;rintro v3 dv ⟨DC,H3,a9⟩
   cases DC
   refine kp3 Ji g3 g6 ?_;refine aB dB ao ⟨rfl,A1,kp,H3,?_⟩;rw[e1];exact fin a9
 |cA e cl me=>
  by_cases h4:c1.r.ph=4
  ·simp only[go_sem,seval,Er.v,gc,h4];refine aB dB ao ⟨rfl,A1,kp,H1,?_⟩;have e1:n1.fault id u.channel (.cA e cl me)=n1:=by show(if n1.ph id=4 then n1 else _)=n1;rw[Gs,if_pos h4]
   rw[e1];exact fin a7
  ·have e1:n1.fault id u.channel (.cA e cl me)=n1.cA id e cl me:=by show(if n1.ph id=4 then n1 else _)=_;rw[Gs,if_neg h4]
   have f6:zN.f b6=_:=aq.ext1 a7;have f7:zN.f b7=_:=aq.ei a7;simp only at f6 f7;have fb:zN.f b=some (.cells [iV e,iV cl,iV me].toArray 217 (0,0)):=a7.ext (i:=2) rfl;simp only[go_sem,seval,Er.v,gc,h4];refine bz (Wp (i:=b) (t:=b6) fb a7.b0 f6) ?_;refine ag ?_;refine aJ (Wo (i:=b) (t:=b7) a7.b0 f7) ?_;rintro v2 cU ⟨lP,rfl⟩
   cases lP
   have a8:=a7.zE (i:=0) rfl (.cells [pV b].toArray 214 (0,0));generalize JJ:Hp.set zN b7 _=EY;replace a8:=dT a8 JJ;simp only[List.set_cons_zero]at a8;have g7:EY.f b7=some (.cells #[pV b] 214 (0,0)):=aq.ei a8;refine aH g7 ?_;have hg:=QC (E:=E) (e:=e) (cl:=cl) (me:=me) (b:=b) a8 (by simp[Er.ext]) cG (O1.Fq cG) EB (by have:=(O1.c _ _ cG).r.out;omega);rw[ek]at hg;refine aJ hg ?_;rintro v3 dv ⟨DC,H3,a9⟩
   cases DC
   refine ag ?_;refine aB dB ao ⟨rfl,A1,kp,H3,?_⟩;rw[e1];exact fin a9
end
def fY(l:List (Int×List UInt8)):List Value:=l.flatMap λe=>[iV e.1,sV e.2]
def G6(l:List (Int×List UInt8)):(fY l).length=2*l.length:=by
 induction l with
 |nil=>rfl
 |cons e l ih=>simp only[fY,List.flatMap_cons,List.length_append,List.length_cons,List.length_nil]at ih|-;rw[ih];omega
def alM(l m:List (Int×List UInt8)):fY (l++m)=fY l++fY m:=by simp[fY]
variable {c:CN}
inductive PX (l:List (Int×List UInt8)):Value->Ext->Prop
 |none:l=[]->PX l (.slice Option.none 0 0) []
 |at(a c:Nat) (pad:List Value):l.length<=c->2*(c-l.length)<=pad.length->PX l (.slice (some ⟨a,0,Option.none⟩) l.length c) [(a,.cells (fY l++pad).toArray 55 (0,0))]
def Vr(k:Nat):(Builtin.zeroCells oM.zero k).toList.length=k*2:=by rw[Array.length_toList];simp[Builtin.zeroCells,oM]
section
variable {n:N}{no:Nat}{c:CN}{h:HN}{x:XN}
variable {E:Env prog}{A:Lay}{H:Hid}{n:N}{X:Ext}{U:Hp}{id:Int}{no:Nat}{c:CN}
variable {I:av}{ds:List Deferred}{dst:Option Tmp}{ty:TypeId}{pos:String}{af:Array Edge}{g:Option (Nat×Bool)}{nx:av->List Deferred->Hp->Prop}{pn:List PanicEntry->Hp->Prop}
def Wi {x y:Operand}{l:List (Int×List UInt8)}{v0:Value}{Xp:Ext}{id:Int}{s:List UInt8}{bn:Nat}(hv:PX l v0 Xp)(a:aq A H n (Xp++X) U)(hx:ai I x=v0)(hy:ai I y=.slice (some ⟨bn,0,none⟩) 1 1)(cE:U.f bn=some (.cells #[iV id,sV s] 55 (0,0)))(fJ:l.length<=1000000)
 (h:∀v' BW R,PX (l++[(id,s)]) v' BW->aq A H n (BW++X) R->nx (aA I dst v') ds R):
 aS E ⟨dst,.call ⟨.builtin .append,#[x,y],#[43,43]⟩,ty,pos,af,g⟩ I ds U nx pn:=by
 have hn:s7 (ai I y)=some 1:=by rw[hy];rfl
 have iL:iM U oM.z 1 (ai I y)=some #[iV id,sV s]:=by rw[hy];show iM U 2 1 _=_;simp[iM,cellsOf,cE]
 have gX:∀n,n<=1000000->(2*(n+1)+192)*oM.bytes<=2^48:=by intro n hn;show(2*(n+1)+192)*24<=2^48;omega
 cases hv with
 |none h0=>
  subst h0;refine ss oM (base:=none) (l:=0) (c:=0) (n:=1) (old:=#[]) (new:=_) ah hx hn rfl iL (gX 0 aa) aa (λhc=>aa) ?_;intro hc b cap eU jP;have a1:=aq.iE (X:=X) a eU (.cells (#[]++ #[iV id,sV s]++Builtin.zeroCells oM.zero (cap-(0+1))) 55);refine h _ [_] _ (.at b cap (Builtin.zeroCells oM.zero (cap-1)).toList (aV jP) (by rw[Vr];simp;omega)) ?_
  have e:(fY ([]++[(id,s)])++(Builtin.zeroCells oM.zero (cap-1)).toList).toArray= #[]++ #[iV id,sV s]++Builtin.zeroCells oM.zero (cap-(0+1)):=by apply Array.ext';simp[fY]
  rw[e];exact a1
 |«at»b c pad h1 h2=>
  have h3:U.f b=some (.cells (fY l++pad).toArray 55 (0,0)):=aq.ei (X:=X) a
  have hold:iM U oM.z l.length (.slice (some ⟨b,0,none⟩) l.length c)=some (fY l).toArray:=by
   show(cellsOf U ⟨b,0,none⟩ (l.length*2))=_;have e2:l.length*2=(fY l).length:=by rw[G6];omega
   have e:0+l.length*2<=(fY l).length+pad.length:=aa;simp only[cellsOf,h3,List.size_toArray,List.length_append,true_and,if_pos e];congr 1;apply Array.ext';simp[e2]
  refine ss oM (base:=some ⟨b,0,none⟩) (l:=l.length) (c:=c) (n:=1) (old:=(fY l).toArray) (new:=_) ah hx hn hold iL (gX _ fJ) aa ?_ ?_
  ·intro hc;have sM:2<=pad.length:=aa;have e2:l.length*2=(fY l).length:=by rw[G6];omega
   have e3:((fY l++pad).toArray.extract 0 (0+l.length*2)++ #[iV id,sV s]++(fY l++pad).toArray.extract (0+l.length*2+2) (fY l++pad).toArray.size)=(fY (l++[(id,s)])++pad.drop 2).toArray:=by
    have e5:fY (l++[(id,s)])=fY l++[iV id,sV s]:=by rw[alM];rfl
    rw[e5,Nat.zero_add,e2];generalize fY l=L;have d1:(L++pad).take L.length=L:=List.take_left' rfl;have d2:(L++pad).drop (L.length+2)=pad.drop 2:=List.drop_length_add_append ..;apply Array.ext';simp only[Array.toList_append,Array.toList_extract,List.extract_eq_take_drop,List.drop_zero,Nat.sub_zero,List.size_toArray,d1,d2];rw[List.take_of_length_le (by simp only[List.length_append,List.length_drop];omega)]
   refine⟨_,⟨_,_,h3,rfl,?_,by simp[di],rfl⟩,?_⟩
   ·show 0+l.length*2+2<=_;simp[G6];omega
   ·show nx _ _ (U.set b (.cells ((fY l++pad).toArray.extract 0 (0+l.length*2)++ #[iV id,sV s]++(fY l++pad).toArray.extract (0+l.length*2+2) (fY l++pad).toArray.size) 55 (0,0)));rw[e3];have e4:l.length+1=(l++[(id,s)]).length:=ak;rw[e4];refine h _ [(b,_)] _ (.at b c (pad.drop 2) (by simp;omega) (by simp;omega)) (aq.uL (X:=X) a _)
  ·intro hc b' cap eU jP;have a1:=aq.iE a eU (.cells ((fY l).toArray++ #[iV id,sV s]++Builtin.zeroCells oM.zero (cap-(l.length+1))) 55)
   have e:(fY (l++[(id,s)])++(Builtin.zeroCells oM.zero (cap-(l.length+1))).toList).toArray=(fY l).toArray++ #[iV id,sV s]++Builtin.zeroCells oM.zero (cap-(l.length+1)):=by apply Array.ext';simp[fY]
   have e4:l.length+1=(l++[(id,s)]).length:=ak;rw[<-e]at a1|-;rw[e4]at a1|-;refine h _ [(b',_)] _ (.at b' cap (Builtin.zeroCells oM.zero (cap-(l++[(id,s)]).length)).toList (aV jP) (by rw[Vr];omega)) ?_
   exact a1.zy (λi=>if i=0 then 0 else i+1) (λi hi=>by
    cases i with
    |zero=>rfl
    |succ i=>rfl) (λi j _ _ e=>by split at e<;>split at e<;>omega)
end
end
end Go.Qw
