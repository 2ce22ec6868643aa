/- Part 34. -/
import Derived.Test.YtpiabknabfbfhaaGreatDoorFairly33
set_option linter.all false
set_option maxRecDepth 100000
set_option maxHeartbeats 8000000
namespace Go.Qw
open Go.Proofs.Tryz
def aj7(l:List UInt8):∀a,l.foldl (λn b=>n*256+b.toNat) a<(a+1)*256^l.length:=by
 induction l with
 |nil=>intro a;simp
 |cons b l ih=>
  intro a;have h1:=ih (a*256+b.toNat);have h2:=b.toNat_lt;rw[List.foldl_cons,List.length_cons,Nat.pow_succ];refine Nat.lt_of_lt_of_le h1 ?_;rw[Nat.mul_comm (256^l.length) 256,<-Nat.mul_assoc];exact Nat.mul_le_mul_right _ aa
def Td{l:List UInt8}{w:Nat}(h:l.length<=w):num l<256^w:=by have:=aj7 l 0;rw[Nat.zero_add,Nat.one_mul]at this;exact Nat.lt_of_lt_of_le this (Nat.pow_le_pow_right aa h)
structure Nc (s:List UInt8) (v:Un×Bool×List UInt8):Prop where
 pay:v.1.iS.length<=5000
 ch:0<=v.1.channel/\v.1.channel<1000000
 le:v.2.2.length<=s.length
 lt:v.1.idle=false->v.1.fR=false->v.2.2.length<s.length
 idle:v.1.idle=true->v.2.2.length<=4104
def ajA(gr:Bool)(s:List UInt8)(size:Int)(hs:size<=4096):Nc s (ft gr s size):=by
 unfold ft;split
 ·simp only[];split
  ·exact⟨al,al,al,by simp[Un.idle],by simp[Un.idle]⟩
  ·split
   ·rename_i h8;exact⟨al,al,al,by simp[Un.idle];omega,by simp[Un.idle]⟩
   ·rename_i h8;exact⟨al,al,al,by simp[Un.idle],by simp[Un.idle];omega⟩
 ·split
  ·rename_i h7;exact⟨al,al,al,by simp[Un.idle],by simp[Un.idle];omega⟩
  ·rename_i h7;have dK:num ((s.drop 1).take 2)<256^2:=Td (by simp;omega);simp only[];generalize hk:num (s.take 1)=kind;generalize hn:num ((s.drop 3).take 4)=n;generalize hw:(if kind=1\/kind=2\/kind=3 then decide ((n:Int)>size-8)else if kind=8 then decide (n>0\/num ((s.drop 1).take 2)≠0)else true:Bool)=fR;have hd:(s.drop 7).length=s.length-7:=List.length_drop
   have hle:fR=false->n<=4088:=by
    intro e;rw[e]at hw;split at hw
    ·simp only[decide_eq_false_iff_not]at hw;omega
    ·split at hw
     ·simp only[decide_eq_false_iff_not]at hw;omega
     ·cases hw
   have aeN:fR=false->kind≠0:=by intro e hx;rw[e,hx]at hw;simp at hw
   split
   ·rename_i h1;exact⟨al,al,al,by simp[Un.idle],by simp[Un.idle];have:=hle h1.1;omega⟩
   ·rename_i h1;split
    ·rename_i h2;exact⟨al,by simp only;omega,al,al,by simp[Un.idle]⟩
    ·rename_i h2;have kK:fR=false:=aZ h2;have h3:=hle kK;have h4:=aeN kK;refine⟨by simp;omega,by simp only;omega,al,by simp;omega,λhi=>?_⟩;simp[Un.idle]at hi;omega
section
variable {n:N}{n':N}{T:Int}{K:Nat}{ex:List Int}{aJ:Int}{no:Nat}{c:CN}{h:HN}{nm:List UInt8}{k:Int}{m:aX}
variable {id:Int}
def kle {K a b B:Nat}(h:a<=b)(h2:K+40200000*b+80400000<=B):K+40200000*a+80400000<=B:=aa
def klt {K a b B:Nat}(h:a<b)(h2:K+40200000*b+80400000<=B):K+102000+40000000+40200000*a+80400000<=B:=aa
def N.mu (n:N)(id:Int):Nat:=(n.rest id).length+(if n.ph id=5 then 0 else 1)
structure pf (id:Int) (n:N):Prop where
 ex:∃T K,Ok T K [] n/\T+402*n.mu id+804<=1000000000000/\K+40200000*n.mu id+80400000<=100000000000000
 is:(n.ar id).isSome
 rest:(n.rest id).length<=1000000
def Cd (hc:n.ar id=some c):n.cut id=((ft c.r.kx c.r.rest c.r.frame).1,n.bC id λr=>{r with kx:=(ft c.r.kx c.r.rest c.r.frame).2.1,rest:=(ft c.r.kx c.r.rest c.r.frame).2.2}):=by unfold N.cut;rw[hc]
def Ok.cut (o:Ok T K ex n)(hc:n.ar id=some c):Ok T K ex (n.cut id).2:=by rw[Cd hc];exact o.bC (f:=λr=>{r with kx:=(ft c.r.kx c.r.rest c.r.frame).2.1,rest:=(ft c.r.kx c.r.rest c.r.frame).2.2}) (Nat.le_refl _) λc hc=>⟨(o.c _ _ hc).r.out,(o.c _ _ hc).r.frame,(o.c _ _ hc).r.dg⟩
def zx (hc:n.ar id=some c):n.rest id=c.r.rest:=by unfold N.rest;rw[hc];rfl
def uy (hc:n.ar id=some c):n.ph id=c.r.ph:=by unfold N.ph;rw[hc];rfl
def yw (hc:n.ar id=some c):(n.cut id).2.ar id=some {c with r:={c.r with kx:=(ft c.r.kx c.r.rest c.r.frame).2.1,rest:=(ft c.r.kx c.r.rest c.r.frame).2.2}}:=by rw[Cd hc];simp only;rw[qh,if_pos rfl,hc];rfl
def Ce (o:Ok T K ex n)(hc:n.ar id=some c):Nc (n.rest id) ((n.cut id).1,c.r.kx,(n.cut id).2.rest id):=by have:=ajA c.r.kx c.r.rest c.r.frame (o.c _ _ hc).r.frame.2;rw[zx (yw hc),zx hc,Cd hc];exact⟨this.pay,this.ch,this.le,this.lt,this.idle⟩
def Z9 (hc:n.ar id=some c):(n.cut id).2.ph id=n.ph id:=by rw[uy (yw hc),uy hc]
def pf.Z8 (F:pf id n)(hi:(n.cut id).1.idle=true):pf id (n.cut id).2/\((n.cut id).2.rest id).length<=4104:=by
 obtain⟨⟨T,K,o,h1,h2⟩,is,hr⟩:=F;obtain⟨c,hc⟩:=Option.isSome_iff_exists.1 is;have k:=Ce o hc;have hle:=k.le;simp only at hle;have hm:(n.cut id).2.mu id<=n.mu id:=by unfold N.mu;rw[Z9 hc];omega
 refine⟨⟨⟨T,K,o.cut hc,?_,?_⟩,?_,?_⟩,k.idle hi⟩
 ·omega
 ·exact kle hm h2
 ·rw[yw hc];rfl
 ·omega
def UZ {u:Un}(hw:u.fR=true)(hi:(n.ar id).isSome):(n.unit id u).ph id=5:=by
 have key:∀n:N,(n.ar id).isSome->(n.bC id λr=>{r with ph:=5}).ph id=5:=λn h=>by obtain⟨c,hc⟩:=Option.isSome_iff_exists.1 h;rw[uy (c:={c with r:={c.r with ph:=5}}) (by rw[qh,if_pos rfl,hc];rfl)]
 unfold N.unit;rw[if_pos hw];split
 ·exact key _ (nW hi)
 ·split
  ·exact key _ hi
  ·exact key _ (by unfold N.cH;exact nW (ze (Sb hi)))
def pf.step (F:pf id n)(hp:n.ph id≠5)(hi:(n.cut id).1.idle=false):
 pf id ((n.cut id).2.unit id (n.cut id).1).serve/\(((n.cut id).2.unit id (n.cut id).1).serve).mu id<n.mu id:=by
 obtain⟨⟨T,K,o,h1,h2⟩,is,hr⟩:=F;obtain⟨c,hc⟩:=Option.isSome_iff_exists.1 is;have k:=Ce o hc;have hle:=k.le;simp only at hle;have o1:=o.cut hc;have tW:((n.cut id).2.ar id).isSome:=by rw[yw hc];rfl
 have o2:=(o1.unit (id:=id) (u:=(n.cut id).1) k.pay k.ch.1 tW).serve;have r1:((n.cut id).2.unit id (n.cut id).1).serve.rest id=(n.cut id).2.rest id:=(we (Kp.serve λ_ _ _=>rfl)).trans (we (Kp.unit A3));have p1:((n.cut id).2.unit id (n.cut id).1).serve.ph id=((n.cut id).2.unit id (n.cut id).1).ph id:=vZ (Kp.serve λ_ _ _=>rfl);have KN:(((n.cut id).2.unit id (n.cut id).1).serve.ar id).isSome:=(Kp.serve (F:=CR.rest) λ_ _ _=>rfl).is ((Kp.unit A3).is tW)
 have hm:(((n.cut id).2.unit id (n.cut id).1).serve).mu id<n.mu id:=by
  unfold N.mu;rw[r1,p1,if_neg hp]
  cases hw:(n.cut id).1.fR with
  |true=>rw[UZ hw tW];simp only[if_true];omega
  |false=>have:=k.lt hi hw;simp only at this;split<;>omega
 refine⟨⟨⟨_,_,o2,?_,?_⟩,KN,?_⟩,hm⟩
 ·omega
 ·exact klt hm h2
 ·rw[r1];omega
structure Ni (id:Int) (T:Int) (K:Nat) (n:N):Prop where
 ok:Ok T K [] n
 is:(n.ar id).isSome
 rest:n.ph id=5\/(n.rest id).length<=4104
def Ok.lv (o:Ok T K [] n)(is:(n.ar id).isSome){f:Nat}(hf:n.mu id<f):Ni id (T+402*n.mu id) (K+40200000*n.mu id) (n.lv f id):=by
 induction f generalizing n T K with
 |zero=>omega
 |succ f ih=>
  unfold N.lv;obtain⟨c,hc⟩:=Option.isSome_iff_exists.1 is;have k:=Ce o hc;have hle:=k.le;simp only at hle;have o1:=o.cut hc;have tW:((n.cut id).2.ar id).isSome:=by rw[yw hc];rfl
  split
  ·rename_i h5;exact⟨o.mono aa aa,is,.inl h5⟩
  ·rename_i hp;split
   ·rename_i hi;exact⟨o1.mono aa aa,tW,.inr (k.idle hi)⟩
   ·rename_i hi;have hi:(n.cut id).1.idle=false:=aZ hi;have o2:=(o1.unit (id:=id) (u:=(n.cut id).1) k.pay k.ch.1 tW).serve;have r1:((n.cut id).2.unit id (n.cut id).1).serve.rest id=(n.cut id).2.rest id:=(we (Kp.serve λ_ _ _=>rfl)).trans (we (Kp.unit A3));have p1:((n.cut id).2.unit id (n.cut id).1).serve.ph id=((n.cut id).2.unit id (n.cut id).1).ph id:=vZ (Kp.serve λ_ _ _=>rfl);have KN:(((n.cut id).2.unit id (n.cut id).1).serve.ar id).isSome:=(Kp.serve (F:=CR.rest) λ_ _ _=>rfl).is ((Kp.unit A3).is tW)
    have hm:(((n.cut id).2.unit id (n.cut id).1).serve).mu id<n.mu id:=by
     unfold N.mu;rw[r1,p1,if_neg hp]
     cases hw:(n.cut id).1.fR with
     |true=>rw[UZ hw tW];simp only[if_true];omega
     |false=>have:=k.lt hi hw;simp only at this;split<;>omega
    have h3:=ih o2 KN aa;exact⟨h3.ok.mono aa aa,h3.is,h3.rest⟩
def Ok.aif (o:Ok T K [] n):Ok T K [] (n.leave id):=by
 cases hc:n.ar id with
 |none=>unfold N.leave;rw[hc];exact o
 |some c=>exact o.leave (λ_ h=>by cases h) (by rw[hc];rfl)
def N.leaves (n:N)(l:List Int):N:=l.foldl (λn id=>if n.ph id=5 then n.leave id else n) n
def Ok.leaves (o:Ok T K [] n){l:List Int}:Ok T K [] (n.leaves l):=by
 unfold N.leaves
 induction l generalizing n with
 |nil=>exact o
 |cons a l ih=>
  rw[List.foldl_cons];split
  ·exact ih o.aif
  ·exact ih o
def Ej {l:List Int}{i:Int}:(n.leaves l).rC i=n.rC i:=by
 unfold N.leaves
 induction l generalizing n with
 |nil=>rfl
 |cons a l ih=>
  rw[List.foldl_cons,ih];split
  ·exact Ha
  ·rfl
def Zu (hc:(n.leave id).ar id=some c):c.ch=[]:=by
 cases h:n.ar id with
 |none=>unfold N.leave at hc;rw[h]at hc;simp only at hc;rw[h]at hc;cases hc
 |some c0=>
  rw[Lc h,qg,if_pos rfl]at hc;obtain⟨c1,_,rfl⟩:=Option.map_eq_some_iff.1 hc;rfl
def Zm {c c':CN}(h:c'.ch.map (·.1)=c.ch.map (·.1))(hc:c.ch=[]):c'.ch=[]:=by rw[hc]at h;simpa using h
def Zt (aE:aJ≠id):((n.leave id).ar aJ).map (λc=>c.ch.map (·.1))=(n.ar aJ).map λc=>c.ch.map (·.1):=by
 cases h:n.ar id with
 |none=>unfold N.leave;rw[h]
 |some c0=>
  rw[Lc h,qg,if_neg aE];exact IB
def EZ (n:N):Prop:=∀id c,n.ar id=some c->c.r.ph=5->c.ch=[]
def Se (hk:((n'.ar id).map λc=>c.ch.map (·.1))=(n.ar id).map λc=>c.ch.map (·.1))(h0:∀c,n.ar id=some c->c.ch=[]):∀c,n'.ar id=some c->c.ch=[]:=λc hc=>by rw[hc,Option.map_some]at hk;obtain⟨c0,h1,h2⟩:=Option.map_eq_some_iff.1 hk.symm;exact Zm h2.symm (h0 c0 h1)
def aij {l:List Int}(hm:id∈l\/∀c,n.ar id=some c->c.ch=[])(h5:n.ph id=5):∀c,(n.leaves l).ar id=some c->c.ch=[]:=by
 induction l generalizing n with
 |nil=>exact hm.elim (λh=>by cases h) λh=>h
 |cons a l ih=>
  have e:n.leaves (a::l)=(if n.ph a=5 then n.leave a else n).leaves l:=rfl;rw[e]
  have pM:(if n.ph a=5 then n.leave a else n).ph id=5:=by
   split
   ·rw[vZ (Kp.rC λ_=>Ha)];exact h5
   ·exact h5
  refine ih ?_ pM;by_cases ha:id=a
  ·subst ha;rw[if_pos h5];exact .inr λc hc=>Zu hc
  ·rcases hm with hm|hm
   ·exact .inl ((List.mem_cons.1 hm).resolve_left ha)
   ·right;split
    ·exact Se (Zt ha) hm
    ·exact hm
def OH {s:List UInt8}:((n.send id s).ar aJ).map (λc=>c.ch.map (·.1))=(n.ar aJ).map λc=>c.ch.map (·.1):=by
 rw[rY];split
 ·cases n.ar aJ<;>rfl
 ·rfl
def Zs {na:Bool}:((n.hand id no nm m na).ar aJ).map (λc=>c.ch.map (·.1))=(n.ar aJ).map λc=>c.ch.map (·.1):=by
 unfold N.hand;split
 ·exact Fl
 ·rw[yu];exact Fl
def Zz:((n.take k m).ar aJ).map (λc=>c.ch.map (·.1))=(n.ar aJ).map λc=>c.ch.map (·.1):=by
 unfold N.take;split
 ·rfl
 ·unfold N.give;exact OH.trans (OH.trans Zs)
def Zw {f:Nat}:((n.j8 f nm).ar aJ).map (λc=>c.ch.map (·.1))=(n.ar aJ).map λc=>c.ch.map (·.1):=by
 induction f generalizing n with
 |zero=>rfl
 |succ f ih=>
  unfold N.j8
  cases h:n.iG nm with
  |none=>rfl
  |some n'=>
   simp only[];rw[ih];unfold N.iG at h;split at h
   ·cases h
   ·split at h
    ·cases h
    ·split at h
     ·cases h
     ·cases h;rw[Zz,yu]
def OI:(n.serve.ar aJ).map (λc=>c.ch.map (·.1))=(n.ar aJ).map λc=>c.ch.map (·.1):=by
 unfold N.serve;generalize n.aN.map (·.1)=l
 induction l generalizing n with
 |nil=>rfl
 |cons a l ih=>rw[List.foldl_cons,ih,Zw]
def EC:n.lQ=(n.leaves (n.aF.map (·.1))).serve:=rfl
def Ok.lQ (o:Ok T K [] n):Ok (T+400) (K+40000000) [] n.lQ:=by rw[EC];exact o.leaves.serve
def acM:EZ n.lQ:=λid c hc h5=>by
 rw[EC]at hc;have pM:(n.leaves (n.aF.map (·.1))).serve.ph id=5:=by rw[uy hc];exact h5
 rw[vZ (Kp.serve λ_ _ _=>rfl)]at pM;rw[vZ (Kp.rC λ_=>Ej)]at pM
 have h0:((n.ar id)).isSome:=by
  have h1:((n.leaves (n.aF.map (·.1))).ar id).isSome:=by
   have:=OI (n:=n.leaves (n.aF.map (·.1))) (aJ:=id);rw[hc]at this
   cases h:(n.leaves (n.aF.map (·.1))).ar id with
   |some _=>rfl
   |none=>rw[h]at this;cases this
  exact Dz h1 Ej.symm
 exact Se OI (aij (.inl (lK.1 h0)) pM) c hc
end
section
variable {n:N}{T:Int}{T':Int}{K:Nat}{ex:List Int}{aJ:Int}{no:Nat}{c:CN}{h:HN}{nm:List UInt8}{q:QN}{k:Int}{x:XN}
variable {id:Int}
def VV {α O:Type}[DecidableEq α]{l:List (α×O)}{k:α}(nd:(l.map (·.1)).Nodup)(p:O->Bool):bu (l.filter λe=>p e.2) k=(bu l k).filter p:=by
 induction l with
 |nil=>rfl
 |cons e l ih=>
  rw[List.map_cons,List.nodup_cons]at nd;have ih:=ih nd.2;unfold bu at ih|-;rw[List.filter_cons,List.find?_cons];by_cases he:e.1=k
  ·simp only[he,decide_true,Option.map_some];by_cases hp:p e.2
   ·rw[if_pos hp,List.find?_cons];simp[he,Option.filter,hp]
   ·rw[if_neg hp];have:∀x∈l,¬x.1=k:=λx hx hy=>nd.1 (by rw[he,<-hy];exact List.mem_map_of_mem (f:=(·.1)) hx)
    have h2:((l.filter λe=>p e.2).find? λe=>decide (e.1=k))=none:=List.find?_eq_none.2 λx hx=>by have:=this x (List.mem_filter.1 hx).1;simpa using this
    rw[h2];have:p e.2=false:=aZ hp;simp[Option.filter,this]
  ·simp only[he,decide_false];by_cases hp:p e.2
   ·rw[if_pos hp,List.find?_cons];simp only[he,decide_false];exact ih
   ·rw[if_neg hp];exact ih
def Fo (o:Ok T K ex n):n.clean.ar id=((n.ar id).filter λc=>decide (c.r.ph≠5)).map λc=>{c with r:={c.r with out:=[]}}:=by unfold N.ar N.clean;simp only[];exact(Ny (γ:=CN) (n.aF.filter λe=>decide (e.2.r.ph≠5)) id λc:CN=>{c with r:={c.r with out:=[]}}).trans (congrArg _ (VV o.nc λc=>decide (c.r.ph≠5)))
def adq (o:Ok T K ex n)(g:EZ n):n.clean.h? id no=n.h? id no:=by
 unfold N.h?;rw[Fo o]
 cases hc:n.ar id with
 |none=>rfl
 |some c=>
  by_cases h5:c.r.ph=5
  ·have:=g id c hc h5;simp[Option.filter,h5,this,bu]
  ·simp[Option.filter,h5]
def ME (g:EZ n)(nc:(n.aF.map (·.1)).Nodup){w:HN->Nat}:n.clean.ei w=n.ei w:=by
 unfold N.ei N.clean;simp only[List.map_map,Function.comp_def]
 exact UH n.aF (λe=>decide (e.2.r.ph≠5)) (λe=>(e.2.ch.map λg=>w g.2).sum) λe he hp=>by have h5:e.2.r.ph=5:=aZ hp;rw[g e.1 e.2 (oa nc he) h5];rfl
def Ok.clean (o:Ok T K [] n)(g:EZ n):Ok T 0 [] n.clean:=by
 have jL:(n.clean.aF.map (·.1)).Sublist (n.aF.map (·.1)):=by
  have e:n.clean.aF.map (·.1)=(n.aF.filter λe=>decide (e.2.r.ph≠5)).map (·.1):=by unfold N.clean;simp only[List.map_map];rfl
  rw[e];exact List.Sublist.map _ List.filter_sublist
 have hl:n.clean.aF.length<=n.aF.length:=by have:=jL.length_le;simpa using this
 have hh:∀i j,n.clean.h? i j=n.h? i j:=λi j=>adq o g
 exact{
  cfg:=o.cfg
  sc:=o.sc.sublist jL
  lc:=Nat.le_trans hl o.lc
  ids:=λi hi=>o.ids i (lK.2 (jL.subset (lK.1 hi)))
  sq:=o.sq
  nq:=o.nq
  lq:=o.lq
  w:=⟨λi j h' hx=>o.w.un i j h' (by rw[<-hh];exact hx),o.w.xq,λk x hx=>by obtain⟨h',h1,h2⟩:=o.w.xh k x hx;exact⟨h',by rw[hh];exact h1,h2⟩,λi j h' hx=>o.w.co i j h' (by rw[<-hh];exact hx),o.w.qc⟩
  c:=λi c' cA=>by
   rw[Fo o]at cA
   obtain⟨c,h1,rfl⟩:=Option.map_eq_some_iff.1 cA
   obtain⟨h1,_⟩:=Option.filter_eq_some_iff.1 h1
   have oc:=o.c _ _ h1
   exact⟨⟨al,oc.r.frame,oc.r.dg⟩,oc.jl,oc.no⟩
  h:=λi j h' hx=>o.h i j h' (by rw[<-hh];exact hx)
  part:=λi j h' hx=>o.part i j h' (by rw[<-hh];exact hx)
  q:=o.q
  cnt:=λnm q hq=>(o.cnt nm q hq).same (ME g o.nc) (λs=>ME g o.nc) rfl
  x:=o.x
  xn:=o.xn
  xl:=by rw[ME g o.nc];exact o.xl
  gF:=o.gF
  bh:=o.bh
  last:=o.last}
structure Inv (T:Int) (n:N):Prop where
 ok:Ok T 0 [] n
 ph:∀id c,n.ar id=some c->c.r.ph≠5
 rest:∀id,(n.rest id).length<=4104
def Inv.mono (o:Inv T n)(h:T<=T'):Inv T' n:=⟨o.ok.mono h (Nat.le_refl _),o.ph,o.rest⟩
def am4 (o:Ok T K ex n):n.clean.rest id=(((n.ar id).filter λc=>decide (c.r.ph≠5)).map λc=>c.r.rest).getD []:=by unfold N.rest;rw[Fo o,Option.map_map];rfl
def Inv.G0 (o:Ok T K [] n)(hr:∀id,n.ph id=5\/(n.rest id).length<=4104):Inv (T+400) n.lQ.clean:=by
 have o1:=o.lQ;refine⟨o1.clean acM,λid c hc=>?_,λid=>?_⟩
 ·rw[Fo o1]at hc;obtain⟨c0,h1,rfl⟩:=Option.map_eq_some_iff.1 hc;obtain⟨_,h2⟩:=Option.filter_eq_some_iff.1 h1;simpa using h2
 ·rw[am4 o1]
  cases hc:n.lQ.ar id with
  |none=>simp
  |some c=>
   have e1:n.lQ.rest id=n.rest id:=by rw[EC];exact(we (Kp.serve λ_ _ _=>rfl)).trans (we (Kp.rC λ_=>Ej))
   have e2:n.lQ.ph id=n.ph id:=by rw[EC];exact(vZ (Kp.serve λ_ _ _=>rfl)).trans (vZ (Kp.rC λ_=>Ej))
   rw[zx hc]at e1;rw[uy hc]at e2;by_cases h5:c.r.ph=5
   ·simp[Option.filter,h5]
   ·simp only[Option.filter,h5,ne_eq,not_false_eq_true,decide_true,if_true,Option.map_some,Option.getD_some];rw[e1];exact(hr id).resolve_left (by rw[<-e2];exact h5)
def T0 {f:CR->CR}(hf:∀r,(f r).rest=r.rest):(n.bC id f).rest aJ=n.rest aJ:=we (Kp.bC (F:=CR.rest) hf)
def GU:n.mu id<=(n.rest id).length+1:=by unfold N.mu;split<;>omega
def N.recv (n:N)(id:Int)(s:List UInt8):N:=n.bC id λr=>{r with recv:=n.clock,rest:=r.rest++s}
def Fz {s:List UInt8}:n.vk id s=(n.recv id s).lv (((n.recv id s).rest id).length+2) id:=rfl
def TX {s:List UInt8}(hc:n.ar id=some c):(n.recv id s).rest id=n.rest id++s:=by rw[zx hc,zx (c:={c with r:={c.r with recv:=n.clock,rest:=c.r.rest++s}})];unfold N.recv;rw[qh,if_pos rfl,hc];rfl
def am1 {s:List UInt8}(aE:aJ≠id):(n.recv id s).rest aJ=n.rest aJ:=by unfold N.rest N.recv;rw[qh,if_neg aE]
def Ok.recv (o:Ok T K ex n){s:List UInt8}:Ok T K ex (n.recv id s):=o.bC (f:=λr=>{r with recv:=n.clock,rest:=r.rest++s}) (Nat.le_refl _) λc hc=>⟨(o.c _ _ hc).r.out,(o.c _ _ hc).r.frame,(o.c _ _ hc).r.dg⟩
def Sc {s:List UInt8}(hi:(n.ar aJ).isSome):((n.recv id s).ar aJ).isSome:=ze hi
def Ok.vk (o:Ok T K [] n){s:List UInt8}(hc:n.ar id=some c):Ni id (T+402*((n.rest id).length+s.length+1:Nat)) (K+40200000*((n.rest id).length+s.length+1)) (n.vk id s):=by
 rw[Fz];have h1:=TX (s:=s) hc;have hm:=GU (n:=n.recv id s) (id:=id);rw[h1,List.length_append]at hm;have:=(o.recv (id:=id) (s:=s)).lv (f:=((n.recv id s).rest id).length+2) (Sc (by rw[hc];rfl)) (by have:=GU (n:=n.recv id s) (id:=id);omega);refine⟨this.ok.mono ?_ ?_,this.is,this.rest⟩
 ·omega
 ·exact Nat.add_le_add_left (Nat.mul_le_mul_left _ hm) _
def ahW {f:Nat}(aE:aJ≠id):(n.lv f id).rest aJ=n.rest aJ:=by
 induction f generalizing n with
 |zero=>rfl
 |succ f ih=>
  have AH:(n.cut id).2.rest aJ=n.rest aJ:=by
   unfold N.cut;split
   ·rfl
   ·unfold N.rest;simp only;rw[qh,if_neg aE]
  unfold N.lv;split
  ·rfl
  ·split
   ·exact AH
   ·rw[ih,we (Kp.serve λ_ _ _=>rfl),we (Kp.unit A3),AH]
def Inv.feed (o:Inv T n){s:List UInt8}:Inv (T+402*(s.length+4107:Nat)) (n.feed id s).clean:=by
 unfold N.feed;split
 ·have:=Inv.G0 o.ok (λid=>.inr (o.rest id));exact this.mono aa
 ·cases hc:n.ar id with
  |none=>
   have e:n.vk id s=n:=by
    have e1:n.recv id s=n:=by unfold N.recv N.bC N.dI;have:dz n.aF id (λc=>{c with r:={c.r with recv:=n.clock,rest:=c.r.rest++s}})=n.aF:=Aa λe he hx=>absurd hx (iK hc e he);rw[this]
    rw[Fz,e1];unfold N.lv;have:n.ph id=5:=by unfold N.ph;rw[hc];rfl
    rw[if_pos this]
   rw[e];exact(Inv.G0 o.ok (λid=>.inr (o.rest id))).mono aa
  |some c=>
   have f1:=o.ok.vk (s:=s) hc;have h2:=o.rest id;refine(Inv.G0 f1.ok λi=>?_).mono aa;by_cases e:i=id
   ·subst e;exact f1.rest
   ·right;rw[Fz,ahW e,am1 e];exact o.rest i
def Inv.drop (o:Inv T n):Inv (T+400) (n.drop id).clean:=by unfold N.drop;have o1:Ok T 0 [] (n.bC id λr=>{r with ph:=5}):=o.ok.bC (Nat.le_refl _) λc hc=>⟨(o.ok.c _ _ hc).r.out,(o.ok.c _ _ hc).r.frame,(o.ok.c _ _ hc).r.dg⟩;refine Inv.G0 o1 λi=>.inr ?_;rw[T0 (f:=λr=>{r with ph:=5}) λ_=>rfl];exact o.rest i
def N.connect (n:N):N:={n with last:=n.last+1,aF:=n.aF++[(n.last+1,⟨⟨0,[],false,0,n.cfg.frame,0,n.clock,n.clock,[]⟩,[]⟩)]}
def VY {α O:Type}[DecidableEq α]{l:List (α×O)}{k k':α}{v:O}(h:bu l k=none):bu (l++[(k,v)]) k'=if k'=k then some v else bu l k':=by
 unfold bu at h|-;rw[List.find?_append];by_cases e:k'=k
 ·subst e;rw[if_pos rfl];have:(l.find? λe=>decide (e.1=k'))=none:=aZ h;rw[this];simp
 ·rw[if_neg e];have:¬k=k':=λx=>e x.symm;simp[this]
def Ok.Ly (o:Ok T K ex n):n.ar (n.last+1)=none:=by
 cases h:n.ar (n.last+1)with
 |none=>rfl
 |some c=>have:=o.ids (n.last+1) (by rw[h];rfl);omega
def Ak (o:Ok T K ex n):n.connect.ar id=if id=n.last+1 then some ⟨⟨0,[],false,0,n.cfg.frame,0,n.clock,n.clock,[]⟩,[]⟩else n.ar id:=VY o.Ly
def CF (o:Ok T K ex n):n.connect.h? id no=n.h? id no:=by
 unfold N.h?;rw[Ak o];split
 ·rename_i e;rw[e,o.Ly];rfl
 ·rfl
def Inv.connect (o:Inv T n)(hl:n.aF.length<=3):Inv T n.connect:=by
 have ok:=o.ok
 have ht:∀w:HN->Nat,n.connect.ei w=n.ei w:=λw=>by unfold N.ei N.connect;simp
 have ma:=ok.last
 refine⟨{
  cfg:=ok.cfg
  sc:=?_
  lc:=by show(n.aF++[_]).length<=4;rw[List.length_append,List.length_singleton];omega
  ids:=λi hi=>by
   rw[Ak ok]at hi
   show 1<=i/\i<=n.last+1
   split at hi
   ·omega
   ·have:=ok.ids i hi;omega
  sq:=ok.sq
  nq:=ok.nq
  lq:=ok.lq
  w:=⟨λi j h' hx=>ok.w.un i j h' (by rw[<-CF ok];exact hx),ok.w.xq,λk x hx=>by obtain⟨h',h1,h2⟩:=ok.w.xh k x hx;exact⟨h',by rw[CF ok];exact h1,h2⟩,λi j h' hx=>ok.w.co i j h' (by rw[<-CF ok];exact hx),ok.w.qc⟩
  c:=λi c' cA=>by
   rw[Ak ok]at cA
   split at cA
   ·cases cA;exact⟨⟨al,ok.cfg.frame,al⟩,List.Pairwise.nil,λ_ h=>by cases h⟩
   ·exact ok.c _ _ cA
  h:=λi j h' hx=>ok.h i j h' (by rw[<-CF ok];exact hx)
  part:=λi j h' hx=>ok.part i j h' (by rw[<-CF ok];exact hx)
  q:=ok.q
  cnt:=λnm q hq=>(ok.cnt nm q hq).same (ht _) (λs=>ht _) rfl
  x:=ok.x
  xn:=ok.xn
  xl:=by rw[ht];exact ok.xl
  gF:=ok.gF
  bh:=ok.bh
  last:=by show 0<=n.last+1;omega},λi c' cA=>?_,λi=>?_⟩
 ·show((n.aF++[(n.last+1,(⟨⟨0,[],false,0,n.cfg.frame,0,n.clock,n.clock,[]⟩,[]⟩:CN))]).map (·.1)).Pairwise (·<·);rw[List.map_append,List.pairwise_append];refine⟨ok.sc,al,λa ha b hb=>?_⟩;simp only[List.map_cons,List.map_nil,List.mem_singleton]at hb;have:=ok.ids a (lK.2 ha);omega
 ·rw[Ak ok]at cA;split at cA
  ·cases cA;simp
  ·exact o.ph _ _ cA
 ·unfold N.rest;rw[Ak ok];split
  ·simp
  ·exact o.rest i
def N.new (g:jA):N:=⟨g,0,0,0,0,[],[],[]⟩
def Inv.new {g:jA}(hg:EY g):Inv 0 (N.new g):=by
 have e1:∀i,(N.new g).ar i=none:=λ_=>rfl;have e2:∀i j,(N.new g).h? i j=none:=λ_ _=>rfl;have e3:∀i,(N.new g).q? i=none:=λ_=>rfl;have e4:∀i,(N.new g).x? i=none:=λ_=>rfl
 exact⟨{
  cfg:=hg
  sc:=List.Pairwise.nil
  lc:=by simp[N.new]
  ids:=λi hi=>by rw[e1]at hi;cases hi
  sq:=List.Pairwise.nil
  nq:=List.Pairwise.nil
  lq:=by simp[N.new]
  w:=⟨λi j h hx=>by rw[e2]at hx;(cases hx),λk x hx=>by rw[e4]at hx;(cases hx),λk x hx=>by rw[e4]at hx;(cases hx),λi j h hx=>by rw[e2]at hx;(cases hx),λk x hx=>by rw[e3]at hx;(cases hx)⟩
  c:=λi c hx=>by rw[e1]at hx;cases hx
  h:=λi j h hx=>by rw[e2]at hx;cases hx
  part:=λi j h hx=>by rw[e2]at hx;cases hx
  q:=λk x hx=>by rw[e3]at hx;cases hx
  cnt:=λk x hx=>by rw[e3]at hx;cases hx
  x:=λk x hx=>by rw[e4]at hx;cases hx
  xn:=List.Pairwise.nil
  xl:=by simp[N.new]
  gF:=by simp[N.new]
  bh:=by simp[N.new]
  last:=by simp[N.new]},λi c hx=>by rw[e1]at hx;(cases hx),λi=>by simp[N.rest,e1]⟩
end
section
variable {n:N}{c:CN}{h:HN}{k:Int}
variable {id:Int}
def Aj (e:Int×CN):Int×CN:=(e.1,{e.2 with r:={e.2.r with out:=[]}})
def N.cl (n:N)(j:Nat):N:={n with aF:=((n.aF.take j).filter λe=>decide (e.2.r.ph≠5)).map Aj++n.aF.drop j}
def N.os (n:N)(j:Nat):List (Int×List UInt8):=((n.aF.take j).map λe=>(e.1,e.2.r.out)).filter λe=>decide (e.2≠[])
def ZF:n.cl 0=n:=by unfold N.cl;simp
def ZB:n.cl n.aF.length=n.clean:=by unfold N.cl N.clean;simp[List.take_length,List.drop_length,Aj]
def akW:n.os n.aF.length=n.outs:=by unfold N.os N.outs;rw[List.take_length]
def akY {j:Nat}(hj:j<n.aF.length):n.os (j+1)=n.os j++(if n.aF[j].2.r.out=[]then []else [(n.aF[j].1,n.aF[j].2.r.out)]):=by unfold N.os;rw[List.take_succ_eq_append_getElem hj,List.map_append,List.filter_append];congr 1;by_cases h:n.aF[j].2.r.out=[]<;>simp[h]
def akX {j:Nat}:(n.os j).length<=n.aF.length:=by unfold N.os;refine Nat.le_trans (List.length_filter_le _ _) ?_;rw[List.length_map,List.length_take];omega
def B8 {j:Nat}(nd:(n.aF.map (·.1)).Nodup)(hj:j<n.aF.length):(∀e∈((n.aF.take j).filter λe=>decide (e.2.r.ph≠5)).map Aj,¬e.1=n.aF[j].1)/\∀e∈n.aF.drop (j+1),¬e.1=n.aF[j].1:=by
 constructor
 ·intro e he;obtain⟨e0,h0,rfl⟩:=List.mem_map.1 he;exact GZ nd hj e0 (List.mem_filter.1 h0).1
 ·intro e he hx;obtain⟨i,hi,rfl⟩:=List.getElem_of_mem he;rw[List.length_drop]at hi;rw[List.getElem_drop]at hx;have h1:(n.aF.map (·.1))[j]'(by simp;omega)=(n.aF.map (·.1))[j+1+i]'(by simp;omega):=by simpa using hx.symm
  exact(List.pairwise_iff_getElem.1 nd) j (j+1+i) (by simp;omega) (by simp;omega) aa h1
def Nz {α O:Type}[DecidableEq α]{P R:List (α×O)}{k:α}{v:O}(hP:∀e∈P,¬e.1=k):bu (P++(k,v)::R) k=some v:=by
 unfold bu;rw[List.find?_append];have:(P.find? λe=>decide (e.1=k))=none:=List.find?_eq_none.2 λe he=>by simpa using hP e he
 rw[this];simp
def V4 {α O:Type}[DecidableEq α]{P R:List (α×O)}{k:α}{v:O}{f:O->O}(hP:∀e∈P,¬e.1=k)(hR:∀e∈R,¬e.1=k):dz (P++(k,v)::R) k f=P++(k,f v)::R:=by have h1:dz P k f=P:=Aa λe he hx=>absurd hx (hP e he);have h2:dz R k f=R:=Aa λe he hx=>absurd hx (hR e he);unfold dz at h1 h2|-;rw[List.map_append,List.map_cons,h1,h2,if_pos rfl]
def VQ {α O:Type}[DecidableEq α]{P R:List (α×O)}{k:α}{v:O}(hP:∀e∈P,¬e.1=k)(hR:∀e∈R,¬e.1=k):cF (P++(k,v)::R) k=P++R:=by unfold cF;rw[List.filter_append,List.filter_cons_of_neg al];rw[List.filter_eq_self.2 λe he=>by simpa using hP e he,List.filter_eq_self.2 λe he=>by simpa using hR e he]
def OJ {j:Nat}(hj:j<n.aF.length):(n.cl j).aF=((n.aF.take j).filter λe=>decide (e.2.r.ph≠5)).map Aj++(n.aF[j].1,n.aF[j].2)::n.aF.drop (j+1):=by unfold N.cl;simp only[];rw[List.drop_eq_getElem_cons hj]
def ZC {j:Nat}(nd:(n.aF.map (·.1)).Nodup)(hj:j<n.aF.length):(n.cl j).ar n.aF[j].1=some n.aF[j].2:=by unfold N.ar;rw[OJ hj];exact Nz (B8 nd hj).1
def IC {j:Nat}(nd:(n.aF.map (·.1)).Nodup)(hj:j<n.aF.length):
 ((n.cl j).bC n.aF[j].1 λr=>{r with out:=[]}).aF=((n.aF.take j).filter λe=>decide (e.2.r.ph≠5)).map Aj++(n.aF[j].1,{n.aF[j].2 with r:={n.aF[j].2.r with out:=[]}})::n.aF.drop (j+1):=by
 have h:=V4 (v:=n.aF[j].2) (f:=λc:CN=>{c with r:={c.r with out:=[]}}) (B8 nd hj).1 (B8 nd hj).2;rw[<-OJ hj]at h;exact h
def ZE {j:Nat}(nd:(n.aF.map (·.1)).Nodup)(hj:j<n.aF.length)(hp:n.aF[j].2.r.ph≠5):(n.cl j).bC n.aF[j].1 (λr=>{r with out:=[]})=n.cl (j+1):=by
 have h1:=IC nd hj
 have h2:(n.cl (j+1)).aF=((n.cl j).bC n.aF[j].1 λr=>{r with out:=[]}).aF:=by rw[h1];unfold N.cl;simp only[];rw[List.take_succ_eq_append_getElem hj,List.filter_append,List.map_append,List.append_assoc];simp[hp,Aj]
 show({n.cl j with aF:=((n.cl j).bC n.aF[j].1 λr=>{r with out:=[]}).aF}:N)=_;rw[<-h2];rfl
def ZD {j:Nat}(nd:(n.aF.map (·.1)).Nodup)(hj:j<n.aF.length)(hp:n.aF[j].2.r.ph=5):
 ({(n.cl j).bC n.aF[j].1 (λr=>{r with out:=[]})with aF:=cF ((n.cl j).bC n.aF[j].1 λr=>{r with out:=[]}).aF n.aF[j].1}:N)=n.cl (j+1):=by
 have h1:=IC nd hj
 have h2:(n.cl (j+1)).aF=cF ((n.cl j).bC n.aF[j].1 λr=>{r with out:=[]}).aF n.aF[j].1:=by rw[h1,VQ (B8 nd hj).1 (B8 nd hj).2];unfold N.cl;simp only[];rw[List.take_succ_eq_append_getElem hj,List.filter_append,List.map_append,List.append_assoc];simp[hp]
 rw[<-h2];rfl
def aik {l:List Int}{j:Nat}(hj:j<l.length):n.leaves (l.take (j+1))=if(n.leaves (l.take j)).ph l[j]=5 then(n.leaves (l.take j)).leave l[j]else n.leaves (l.take j):=by unfold N.leaves;rw[List.take_succ_eq_append_getElem hj,List.foldl_append];rfl
end
def HZ(id:Int)(no:Nat)(n:N):Er->Prop
 | .nil=>True
 | .cH e cl me=>e<1000000/\cl<1000000/\me<1000000
 | .soft e cl me=>(e<1000000/\cl<1000000/\me<1000000)/\(n.h? id no).isSome
variable {n:N}
def BT(id:Int)(no:Nat):HO->Prop
 | .bad cl me=>cl<1000000/\me<1000000
 | .ok n er=>HZ id no n er
section
variable {n:N}{n':N}{T:Int}{K:Nat}{no:Nat}{c:CN}{h:HN}{k:Int}{x:XN}
variable {id:Int}
def ahb {f:HR->HR}(hi:(n.h? id no).isSome):((n.cS id no f).h? id no).isSome:=by rw[JC,if_pos ⟨rfl,rfl⟩];simpa using hi
def ahc {key body:List UInt8}(hi:(n.h? id no).isSome):((n.j7 key body).1.h? id no).isSome:=by
 unfold N.j7;split
 ·exact hi
 ·split<;>exact hi
def afb (hi:(n.h? id no).isSome){s:List UInt8}{cl me:Nat}(aM:cl<1000000)(aP:me<1000000):BT id no (n.method id no h s cl me):=by
 have e:∀x,x<1000000->x<1000000/\cl<1000000/\me<1000000:=λx hx=>⟨hx,aM,aP⟩;unfold N.method;split
 ·exact e _ ai
 split
 ·unfold N.close;split
  ·trivial
  ·exact⟨aM,aP⟩
 split
 ·unfold N.declare;split
  ·split
   ·trivial
   ·split
    ·exact e _ ai
    ·split
     ·exact⟨e _ ai,hi⟩
     ·trivial
  ·exact⟨aM,aP⟩
 split
 ·unfold N.oY;split
  ·split
   ·trivial
   ·exact⟨e _ ai,hi⟩
  ·exact⟨aM,aP⟩
 split
 ·unfold N.rM;split
  ·trivial
  ·exact⟨aM,aP⟩
 split
 ·unfold N.consume;split
  ·split
   ·split
    ·split
     ·exact e _ ai
     ·split
      ·exact⟨e _ ai,hi⟩
      ·split
       ·exact e _ ai
       ·split
        ·exact⟨e _ ai,hi⟩
        ·trivial
    ·exact⟨aM,aP⟩
   ·exact⟨aM,aP⟩
  ·exact⟨aM,aP⟩
 split
 ·unfold N.qf;split
  ·trivial
  ·exact⟨aM,aP⟩
 split
 ·unfold N.rL;split
  ·trivial
  ·exact⟨aM,aP⟩
 split
 ·unfold N.get;split
  ·split
   ·split
    ·exact⟨e _ ai,hi⟩
    ·split
     ·trivial
     ·trivial
   ·exact⟨aM,aP⟩
  ·exact⟨aM,aP⟩
 split
 ·unfold N.settled;split
  ·split
   ·split
    ·split
     ·trivial
     ·exact⟨e _ ai,hi⟩
    ·exact⟨aM,aP⟩
   ·exact⟨aM,aP⟩
  ·exact⟨aM,aP⟩
 split
 ·exact e _ ai
 ·exact e _ ai
def Rs (hi:(n.h? id no).isSome){r:HR}:BT id no (n.whole id no r):=by
 unfold N.whole;split
 ·trivial
 ·show HZ _ _ _ (if _ then _ else _);split
  ·trivial
  ·exact⟨ai,ahc (ahb hi)⟩
def ae8 (hi:(n.h? id no).isSome){kind:Int}{s:List UInt8}{cl me:Nat}(aM:cl<1000000)(aP:me<1000000):BT id no (n.jG id no h kind s cl me):=by
 unfold N.jG;split
 ·split
  ·trivial
  ·split
   ·trivial
   ·trivial
 ·split
  ·exact⟨ai,aM,aP⟩
  ·split
   ·unfold N.header;split
    ·split
     ·split
      ·split
       ·split
        ·exact(by decide:502<1000000/\60<1000000/\40<1000000)
        ·split
         ·exact⟨ai,hi⟩
         ·exact Rs hi
       ·exact(by decide:60<1000000/\40<1000000)
      ·exact(by decide:60<1000000/\40<1000000)
     ·exact(by decide:60<1000000/\40<1000000)
    ·exact(by decide:60<1000000/\40<1000000)
   ·split
    ·unfold N.part;split
     ·exact(by decide:502<1000000/\60<1000000/\40<1000000)
     ·exact Rs hi
    ·exact afb hi aM aP
def Rr (hc:n.ar id=some c){ch kind:Int}{s:List UInt8}{cl me:Nat}(aM:cl<1000000)(aP:me<1000000):BT id ch.toNat (n.jb id c ch kind s cl me):=by
 unfold N.jb;split
 ·unfold N.begin;by_cases hA:¬(kind=1/\cl=10/\me=(if c.r.ph=1 then 31 else 40))\/ch≠0
  ·rw[if_pos hA];exact⟨ai,aM,aP⟩
  ·rw[if_neg hA];split
   ·split
    ·trivial
    ·exact⟨aM,aP⟩
   ·split
    ·split
     ·split
      ·split
       ·exact⟨ai,aM,aP⟩
       ·trivial
      ·exact⟨aM,aP⟩
     ·exact⟨aM,aP⟩
    ·exact⟨aM,aP⟩
 ·split
  ·split
   ·unfold N.control;split
    ·split
     ·trivial
     ·exact⟨aM,aP⟩
    ·exact⟨ai,aM,aP⟩
   ·unfold N.lN;split
    ·exact⟨ai,aM,aP⟩
    ·split
     ·rename_i h dK;exact ae8 (by unfold N.h?;rw[hc];simp[dK]) aM aP
     ·split
      ·split
       ·trivial
       ·exact⟨aM,aP⟩
      ·exact⟨ai,aM,aP⟩
  ·split
   ·trivial
   ·trivial
def Tw {w k:Nat}{s r:List UInt8}(h:fu w s=some (k,r)):k<256^w:=by
 unfold fu at h;split at h
 ·injection h with h;injection h with h1 h2;subst h1;exact Td (by simp;omega)
 ·cases h
def afa (hc:n.ar id=some c){u:Un}:BT id u.channel.toNat (n.fJ id c u):=by
 unfold N.fJ;split
 ·split
  ·rename_i h1;split
   ·rename_i h2;have:=Tw h1;have:=Tw h2;exact Rr hc aa aa
   ·exact(by decide:502<1000000/\0<1000000/\0<1000000)
  ·exact(by decide:502<1000000/\0<1000000/\0<1000000)
 ·exact Rr hc aa aa
def ae9 (hc:n.ar id=some c){u:Un}:HZ id u.channel.toNat ((n.fJ id c u).get n).1 ((n.fJ id c u).get n).2:=by
 have:=afa (n:=n) (id:=id) (c:=c) (u:=u) hc
 cases hr:n.fJ id c u with
 |bad cl me=>rw[hr]at this;exact⟨ai,this⟩
 |ok n' er=>rw[hr]at this;exact this
def akA (T:Int)(K:Nat)(hc:n.ar id=some c){u:Un}(o:Ok T K [] n)(hs:u.iS.length<=5000)(dK:0<=u.channel):
 Ok (T+1) (K+101000) [id] ((n.fJ id c u).get n).1/\(((n.fJ id c u).get n).1.ar id).isSome:=by
 have:=Tr o hc hs dK
 cases hr:n.fJ id c u with
 |bad cl me=>exact⟨(o.Pr al).mono aa aa,by rw[show((HO.bad cl me).get n).1=n from rfl,hc];rfl⟩
 |ok n' er=>rw[hr]at this;exact⟨this.1,this.2.1⟩
def abF (hc:n.ar id=some c){u:Un}:n.lz id u=((n.fJ id c u).get n).1.fault id u.channel ((n.fJ id c u).get n).2:=by unfold N.lz;rw[hc]
end
section
open Go Go.Conc Go.Proofs
section
variable {n:N}{n':N}{T:Int}{K:Nat}{no:Nat}{c:CN}{h:HN}{nm:List UInt8}{q:QN}{k:Int}{x:XN}
variable {E:Env prog}{A:Lay}{H:Hid}{n:N}{X:Ext}{σ:Hp}{id:Int}{no:Nat}{c:CN}{h:HN}{nm:List UInt8}{q:QN}{bf:Nat}{f:FR}{r:HR}
def aq.mC {Y:Ext}(a:aq A H n (Y++X) σ):aq A H n X σ:=by
 induction Y with
 |nil=>exact a
 |cons y Y ih=>exact ih a.oD
def abE {u:Un}(a:aq A H n X σ)(hc:n.ar id=some c){T:Int}{K:Nat}(ata:Ok T K [] n)(hT:T+1<=1000000000000)(hK:K+101000<=100000000000000)(hs:u.iS.length<=5000)(dK:0<=u.channel/\u.channel<1000000):
 ay E 107 #[pV (A.conn id),uV u] σ λe τ=>e=.returned (.tuple #[])/\∃A',qa A A'/\At A' (n.lz id u) X τ:=by
 rw[abF hc];obtain⟨O1,tW⟩:=akA T K hc ata hs dK.1;have EB:=ae9 hc (u:=u);refine aW func107 ntmps107 results107 λQ aC an aA=>?_;simp only[go_sem,seval,uV];refineλb3 gN=>?_;refine ag ?_;have ec:(Value.agg #[Value.int IntKind.i64 u.kind,Value.int IntKind.i64 u.channel,Value.string (B u.iS),Value.bool u.jT,Value.bool u.fR]).cells=[iV u.kind,iV u.channel,sV u.iS,.bool u.jT,.bool u.fR].toArray:=by first|rfl|simp[Value.cells]
 rw[ec];have a3:=a.iH gN (.cells [iV u.kind,iV u.channel,sV u.iS,.bool u.jT,.bool u.fR].toArray 135 (0,0));generalize hZ3:Hp.set σ b3 _=BO;replace a3:=dO a3 hZ3;refineλbf hbf=>?_;refine ag ?_;have of:=a3.iH hbf (bN ⟨u,u.iS,0,0⟩);generalize hZf:Hp.set BO bf _=Vo;replace of:=dO of hZf;refine dC ab3 (adB (f:=⟨u,u.iS,0,0⟩) of hc (ata.adA aa aa hc) rfl rfl rfl dK (by simp only;omega)) ?_ (λch ae h=>?_)
 rotate_left
 ·obtain⟨_,_,_,_,h,_⟩:=h;cases h
 rintro v τ ⟨A1,H1,b,f1,hv,kp,a5⟩
 cases hv
 generalize xk:((n.fJ id c u).get n).1=n1 at*;generalize her:((n.fJ id c u).get n).2=er at*;obtain⟨c1,cB⟩:=Option.isSome_iff_exists.1 tW;refine ag ?_;refineλb6 pF=>?_;have o6:=a5.iH pF;refine ag ?_;generalize yE:Hp.set τ b6 _=rO;have a6:=dO (o6 _) yE;refineλb7 CM=>?_;have o7:=a6.iH CM;refine ag ?_;generalize hZ7:Hp.set rO b7 _=zM;have a7:=dO (o7 _) hZ7
 have fin:∀{A':Lay} {H':Hid} {n':N} {x y:Nat×Obj} {Y:Ext} {z w:Nat×Obj} {cC:Hp},aq A' H' n' (x::y::(Y++z::w::X)) cC->aq A' H' n' X cC:=λh=>by have h1:=aq.mC (Y:=_::_::_) h;exact h1.oD.oD
 have ek:A1.conn id=A.conn id:=by rw[kp.conn]
 have Gp:n1.ph id=c1.r.ph:=uy cB;have gc:=a7.eu cB;rw[ek]at gc
 cases er with
 |nil=>
  simp only[go_sem,seval,Er.v];exact aC du ao ⟨rfl,A1,kp,H1,fin a7⟩
 |soft e cl me=>
  obtain⟨he,hh⟩:=EB;by_cases h4:c1.r.ph=4
  ·simp only[go_sem,seval,Er.v,gc,h4];refine aC du ao ⟨rfl,A1,kp,H1,?_⟩;have e1:n1.fault id u.channel (.soft e cl me)=n1:=by show(if n1.ph id=4 then n1 else _)=n1;rw[Gp,if_pos h4]
   rw[e1];exact fin a7
  ·have e1:n1.fault id u.channel (.soft e cl me)=n1.soft id u.channel.toNat e cl me:=by show(if n1.ph id=4 then n1 else _)=_;rw[Gp,if_neg h4]
   obtain⟨h,hh⟩:=Option.isSome_iff_exists.1 hh;have f6:zM.f b6=_:=aq.ext1 a7;simp only at f6;simp only[go_sem,seval,Er.v,gc,h4];refine aL (Wj (i:=b) (t:=b6) a7.b0 f6) ?_;rintro v2 cM ⟨lH,rfl⟩
   cases lH
   have a8:=a7.zE (i:=1) rfl (.cells [pV b].toArray 296 (0,0));generalize Jz:Hp.set zM b6 _=ET;replace a8:=dO a8 Jz;simp only[List.set_cons_succ,List.set_cons_zero]at a8;have I8:=a8.eu cB;rw[ek]at I8;have g6:ET.f b6=some (.cells #[pV b] 296 (0,0)):=aq.ext1 a8
   have g3:ET.f b3=some (.cells #[iV u.kind,iV u.channel,sV u.iS,.bool u.jT,.bool u.fR] 135 (0,0)):=by have:=a8.ext (i:=4) rfl;exact this
   obtain⟨lj,kj,mM,qC,xg⟩:=a8.chm cB;have pJ:((u.channel.toNat:Int),pV (A1.chan id u.channel.toNat))∈c1.ch.map λe=>((e.1:Int),pV (A1.chan id e.1)):=List.mem_map.2 ⟨(u.channel.toNat,h),iJ (CG hh cB),rfl⟩;obtain⟨st,bw⟩:=rE qC xg pJ;have ech:((u.channel.toNat:Nat):Int)=u.channel:=aa;rw[ech]at bw;refine ag ?_;refine Al [0,1,2,3,4,5,7,8,6,9] ?_;simp only[go_sem,seval,I8,g3,g6];refine jM (b:=H1.chm id) (k:=u.channel) (l:=lj) (c:=kj) ue (z:=.pointer none) ah ?_ mM ?_ ?_
   ·exact au
   ·exact au
   have dk:((dn lj u.channel).map (·.2.1)).getD (.pointer none)=pV (A1.chan id u.channel.toNat):=by rw[bw];rfl
   rw[if_neg Bool.false_ne_true,dk];refine⟨dG g6,?_⟩;refine ag ?_;refine aL (an7 a8 (by simp[Er.ext]) cB hh (O1.Fi hh) (by have:=O1.Lz hh;omega) he (by have:=(O1.c _ _ cB).r.out;omega)) ?_;rintro v3 dv ⟨Dv,H3,a9⟩
   cases Dv
   refine kp3 I8 g3 g6 ?_;refine aC du ao ⟨rfl,A1,kp,H3,?_⟩;rw[e1];exact fin a9
 |cH e cl me=>
  by_cases h4:c1.r.ph=4
  ·simp only[go_sem,seval,Er.v,gc,h4];refine aC du ao ⟨rfl,A1,kp,H1,?_⟩;have e1:n1.fault id u.channel (.cH e cl me)=n1:=by show(if n1.ph id=4 then n1 else _)=n1;rw[Gp,if_pos h4]
   rw[e1];exact fin a7
  ·have e1:n1.fault id u.channel (.cH e cl me)=n1.cH id e cl me:=by show(if n1.ph id=4 then n1 else _)=_;rw[Gp,if_neg h4]
   have f6:zM.f b6=_:=aq.ext1 a7;have f7:zM.f b7=_:=aq.eC a7;simp only at f6 f7;have fb:zM.f b=some (.cells [iV e,iV cl,iV me].toArray 217 (0,0)):=a7.ext (i:=2) rfl;simp only[go_sem,seval,Er.v,gc,h4];refine aR (Wi (i:=b) (t:=b6) fb a7.b0 f6) ?_;refine ag ?_;refine aL (Wh (i:=b) (t:=b7) a7.b0 f7) ?_;rintro v2 cM ⟨lH,rfl⟩
   cases lH
   have a8:=a7.zE (i:=0) rfl (.cells [pV b].toArray 214 (0,0));generalize Jz:Hp.set zM b7 _=ET;replace a8:=dO a8 Jz;simp only[List.set_cons_zero]at a8;have g7:ET.f b7=some (.cells #[pV b] 214 (0,0)):=aq.eC a8;refine aG g7 ?_;have hg:=Qu (E:=E) (e:=e) (cl:=cl) (me:=me) (b:=b) a8 (by simp[Er.ext]) cB (O1.Fh cB) EB (by have:=(O1.c _ _ cB).r.out;omega);rw[ek]at hg;refine aL hg ?_;rintro v3 dv ⟨Dv,H3,a9⟩
   cases Dv
   refine ag ?_;refine aC du ao ⟨rfl,A1,kp,H3,?_⟩;rw[e1];exact fin a9
end
def fY(l:List (Int×List UInt8)):List Value:=l.flatMap λe=>[iV e.1,sV e.2]
def G4(l:List (Int×List UInt8)):(fY l).length=2*l.length:=by
 induction l with
 |nil=>rfl
 |cons e l ih=>simp only[fY,List.flatMap_cons,List.length_append,List.length_cons,List.length_nil]at ih|-;rw[ih];omega
def alv(l m:List (Int×List UInt8)):fY (l++m)=fY l++fY m:=by simp[fY]
variable {c:CN}
inductive PX (l:List (Int×List UInt8)):Value->Ext->Prop
 |none:l=[]->PX l (.slice Option.none 0 0) []
 |at(a c:Nat) (pad:List Value):l.length<=c->2*(c-l.length)<=pad.length->PX l (.slice (some ⟨a,0,Option.none⟩) l.length c) [(a,.cells (fY l++pad).toArray 55 (0,0))]
def Vm(k:Nat):(Builtin.zeroCells oE.zero k).toList.length=k*2:=by rw[Array.length_toList];simp[Builtin.zeroCells,oE]
section
variable {n:N}{no:Nat}{c:CN}{h:HN}{x:XN}
variable {E:Env prog}{A:Lay}{H:Hid}{n:N}{X:Ext}{σ:Hp}{id:Int}{no:Nat}{c:CN}
variable {ρ:av}{ds:List Deferred}{dst:Option Tmp}{ty:TypeId}{pos:String}{af:Array Edge}{g:Option (Nat×Bool)}{nx:av->List Deferred->Hp->Prop}{pn:List PanicEntry->Hp->Prop}
def Wa {x y:Operand}{l:List (Int×List UInt8)}{v0:Value}{Xp:Ext}{id:Int}{s:List UInt8}{bn:Nat}(hv:PX l v0 Xp)(a:aq A H n (Xp++X) σ)(hx:ak ρ x=v0)(hy:ak ρ y=.slice (some ⟨bn,0,none⟩) 1 1)(cz:σ.f bn=some (.cells #[iV id,sV s] 55 (0,0)))(fM:l.length<=1000000)
 (h:∀v' BY τ,PX (l++[(id,s)]) v' BY->aq A H n (BY++X) τ->nx (aB ρ dst v') ds τ):
 aT E ⟨dst,.call ⟨.builtin .append,#[x,y],#[43,43]⟩,ty,pos,af,g⟩ ρ ds σ nx pn:=by
 have hn:sN (ak ρ y)=some 1:=by rw[hy];rfl
 have iF:iL σ oE.z 1 (ak ρ y)=some #[iV id,sV s]:=by rw[hy];show iL σ 2 1 _=_;simp[iL,cellsOf,cz]
 have gR:∀n,n<=1000000->(2*(n+1)+192)*oE.bytes<=2^48:=by intro n hn;show(2*(n+1)+192)*24<=2^48;omega
 cases hv with
 |none h0=>
  subst h0;refine rW oE (base:=none) (l:=0) (c:=0) (n:=1) (old:=#[]) (new:=_) ah hx hn rfl iF (gR 0 aa) aa (λhc=>aa) ?_;intro hc b cap eS jJ;have a1:=aq.iH (X:=X) a eS (.cells (#[]++ #[iV id,sV s]++Builtin.zeroCells oE.zero (cap-(0+1))) 55);refine h _ [_] _ (.at b cap (Builtin.zeroCells oE.zero (cap-1)).toList (aZ jJ) (by rw[Vm];simp;omega)) ?_
  have e:(fY ([]++[(id,s)])++(Builtin.zeroCells oE.zero (cap-1)).toList).toArray= #[]++ #[iV id,sV s]++Builtin.zeroCells oE.zero (cap-(0+1)):=by apply Array.ext';simp[fY]
  rw[e];exact a1
 |«at»b c pad h1 h2=>
  have h3:σ.f b=some (.cells (fY l++pad).toArray 55 (0,0)):=aq.eC (X:=X) a
  have hold:iL σ oE.z l.length (.slice (some ⟨b,0,none⟩) l.length c)=some (fY l).toArray:=by
   show(cellsOf σ ⟨b,0,none⟩ (l.length*2))=_;have e2:l.length*2=(fY l).length:=by rw[G4];omega
   have e:0+l.length*2<=(fY l).length+pad.length:=aa;simp only[cellsOf,h3,List.size_toArray,List.length_append,true_and,if_pos e];congr 1;apply Array.ext';simp[e2]
  refine rW oE (base:=some ⟨b,0,none⟩) (l:=l.length) (c:=c) (n:=1) (old:=(fY l).toArray) (new:=_) ah hx hn hold iF (gR _ fM) aa ?_ ?_
  ·intro hc;have sD:2<=pad.length:=aa;have e2:l.length*2=(fY l).length:=by rw[G4];omega
   have e3:((fY l++pad).toArray.extract 0 (0+l.length*2)++ #[iV id,sV s]++(fY l++pad).toArray.extract (0+l.length*2+2) (fY l++pad).toArray.size)=(fY (l++[(id,s)])++pad.drop 2).toArray:=by
    have e5:fY (l++[(id,s)])=fY l++[iV id,sV s]:=by rw[alv];rfl
    rw[e5,Nat.zero_add,e2];generalize fY l=L;have d1:(L++pad).take L.length=L:=List.take_left' rfl;have d2:(L++pad).drop (L.length+2)=pad.drop 2:=List.drop_length_add_append ..;apply Array.ext';simp only[Array.toList_append,Array.toList_extract,List.extract_eq_take_drop,List.drop_zero,Nat.sub_zero,List.size_toArray,d1,d2];rw[List.take_of_length_le (by simp only[List.length_append,List.length_drop];omega)]
   refine⟨_,⟨_,_,h3,rfl,?_,by simp[de],rfl⟩,?_⟩
   ·show 0+l.length*2+2<=_;simp[G4];omega
   ·show nx _ _ (σ.set b (.cells ((fY l++pad).toArray.extract 0 (0+l.length*2)++ #[iV id,sV s]++(fY l++pad).toArray.extract (0+l.length*2+2) (fY l++pad).toArray.size) 55 (0,0)));rw[e3];have e4:l.length+1=(l++[(id,s)]).length:=al;rw[e4];refine h _ [(b,_)] _ (.at b c (pad.drop 2) (by simp;omega) (by simp;omega)) (aq.uD (X:=X) a _)
  ·intro hc b' cap eS jJ;have a1:=aq.iH a eS (.cells ((fY l).toArray++ #[iV id,sV s]++Builtin.zeroCells oE.zero (cap-(l.length+1))) 55)
   have e:(fY (l++[(id,s)])++(Builtin.zeroCells oE.zero (cap-(l.length+1))).toList).toArray=(fY l).toArray++ #[iV id,sV s]++Builtin.zeroCells oE.zero (cap-(l.length+1)):=by apply Array.ext';simp[fY]
   have e4:l.length+1=(l++[(id,s)]).length:=al;rw[<-e]at a1|-;rw[e4]at a1|-;refine h _ [(b',_)] _ (.at b' cap (Builtin.zeroCells oE.zero (cap-(l++[(id,s)]).length)).toList (aZ jJ) (by rw[Vm];omega)) ?_
   exact a1.zr (λi=>if i=0 then 0 else i+1) (λi hi=>by
    cases i with
    |zero=>rfl
    |succ i=>rfl) (λi j _ _ e=>by split at e<;>split at e<;>omega)
end
end
end Go.Qw
