/- Part 21. -/
import Derived.Lib.Props
import Derived.Test.YtpiabknabfbfhaaGreatDoorFairly20
set_option linter.all false
set_option maxRecDepth 100000
set_option maxHeartbeats 8000000
namespace Go.Qw
open Go Go.Conc Go.Proofs Go.Proofs.Tryz
variable {σ:Hp}
def aiS{h:Nat}{Q:FuncId×Value->Hp->Prop}{H:Halt->Hp->Prop}:wpS prog (method (prog.types.size+Made.depth) 185 (pV h) "Free") Q H σ=Q (327,pV h) σ:=ah
def US{ys:List gL}{last:Int}(h:∀x∈ys,x.may=true->¬x.no>last){zs:List gL}:BG (ys++zs) last=((zs.filter gL.may).find? λx=>decide (x.no>last)).or ((ys++zs).filter gL.may).head?:=by
 unfold BG;rw[List.filter_append,List.find?_append]
 have:(ys.filter gL.may).find? (λx=>decide (x.no>last))=none:=by rw[List.find?_eq_none];intro x hx;obtain⟨h1,h2⟩:=List.mem_filter.1 hx;simpa using h x h1 h2
 rw[this,Option.none_or]
variable {E:Env prog}
def apn{q:Nat}{xs:List gL}{name:List UInt8}{rv cv:Value}{held last:Int}(hq:σ.f q=some (fw name rv held last cv))(hv:Sl 186 σ (xs.map λx=>pV x.cb) cv)(hx:∀x∈xs,Vy σ q x)(hn:xs.length<=1000):
 ay E 89 #[pV q] σ λe τ=>e=.returned (qK (BG xs last))/\τ=σ:=by
 refine fI func89 ntmps89 results89 rfl al λQ aC an aA=>?_;obtain⟨base,cap,rfl,aen⟩:=hv.read;have bz:=hq;simp only[fw]at bz;refine aG bz ?_
 refine dh (λmm ρ ds ae=>ds=[]/\ae=σ/\ρ 0=pV q/\ρ 9=.slice base xs.length cap/\ρ 10=iV xs.length/\
  ∃i:Nat,i+mm=xs.length/\ρ 11=iV i/\ρ 3=qK ((xs.take i).filter gL.may).head?/\∀x∈xs.take i,x.may=true->¬x.no>last) xs.length ?_ ?_
 ·refine⟨rfl,rfl,?_,?_,?_,0,aa,?_,?_,al⟩<;>exact au
  all_goals rfl
 ·rintro mm ρ ds ae X ⟨rfl,rfl,r0,r9,zo,i,yQ,zp,r3,dY⟩ hX
  cases mm with
  |zero=>
   have c0:¬(i:Int)<xs.length:=aa;refine fB zo zp c0 r3 ?_;have ht:xs.take i=xs:=List.take_of_length_le aa;rw[ht]at dY;have e:=US dY (zs:=[]);simp only[List.append_nil,List.filter_nil,List.find?_nil,Option.none_or]at e;refine an aI ao ⟨?_,rfl⟩;rw[e,ht];simp[up]
  |succ mm=>
   have c0:(i:Int)<xs.length:=aa;have hi:i<xs.length:=aa;obtain⟨a,L,CO,ha,hL⟩:=aen i hi;subst CO;obtain⟨QK,c,un,co,k,no,hr,l,Q5,vF,JX⟩:=hx xs[i] (List.getElem_mem hi);obtain⟨x,xu⟩:∃x,x=xs[i]:=⟨_,rfl⟩;rw[<-xu]at QK Q5 JX;have vt:=QK;simp only[kJ]at vt;have FF:L[i]? =some (pV x.cb):=by rw[xu];simpa using hL
   have wi:=fF i;have vD:xs.take (i+1)=xs.take i++[x]:=by rw[List.take_succ_eq_append_getElem hi,xu]
   refine fB zo zp c0 r9 ?_;refine⟨aa,?_⟩
   have Pk:x.may=true->x.no>last->BG xs last=some x:=λh1 h2=>by
    have e1:xs=xs.take i++(x::xs.drop (i+1)):=by rw[xu,<-List.drop_eq_getElem_cons hi,List.take_append_drop]
    have e2:=US dY (zs:=x::xs.drop (i+1));rw[<-e1]at e2;rw[e2,List.filter_cons_of_pos h1,List.find?_cons_of_pos (aZ h2),Option.some_or]
   cases yX:x.fe with
   |true=>
    have xj:x.may=true:=by simp[gL.may,yX]
    simp only[go_sem,seval,ha,FF,Nat.mul_one,Nat.zero_add,Int.toNat_natCast,vt,yX,Bool.not_true];refine bG 9 ?_;by_cases ma:x.no>last
    ·simp only[go_sem,seval,r0,bz,vt,ma];refine an aI ao ⟨?_,rfl⟩;rw[Pk xj ma];simp[up,qK]
    ·have yZ:∀z∈xs.take (i+1),z.may=true->¬z.no>last:=λz hz hm=>by
      rw[vD,List.mem_append,List.mem_singleton]at hz;rcases hz with hz|rfl
      ·exact dY z hz hm
      ·exact ma
     have kP:((xs.take (i+1)).filter gL.may).head?=((xs.take i).filter gL.may).head?.or (some x):=by rw[vD,List.filter_append,List.head?_append];simp[xj]
     cases C3:((xs.take i).filter gL.may).head? with
     |none=>
      rw[C3]at r3 kP;simp only[qK]at r3;simp only[go_sem,seval,r0,bz,vt,ma,r3,zp,wi];refine hX mm _ _ _ _ aa ⟨rfl,rfl,?_,?_,?_,i+1,aa,?_,?_,yZ⟩ ao
      all_goals simp only[go_sem,seval,r0,r9,zo,kP,qK,Option.none_or]
     |some y=>
      rw[C3]at r3 kP;simp only[qK]at r3;simp only[go_sem,seval,r0,bz,vt,ma,r3,zp,wi];refine hX mm _ _ _ _ aa ⟨rfl,rfl,?_,?_,?_,i+1,aa,?_,?_,yZ⟩ ao
      all_goals simp only[go_sem,seval,r0,r9,zo,r3,kP,qK,Option.some_or]
   |false=>
    simp only[go_sem,seval,ha,FF,Nat.mul_one,Nat.zero_add,Int.toNat_natCast,vt,yX,Bool.not_false];refine lJ (t:=185) (v:=pV x.h) (recv:=pV x.h) (f:=327) (name:= "Free") ?_ (λQ H h=>by rw[aiS];exact h) ?_
    ·exact au
    refine ag ?_;refine aR (abH Q5 vF) ?_
    cases gP:x.free with
    |false=>
     have AM:hr.free l.length=false:=by rw[<-JX,gP]
     have xj:x.may=false:=by simp[gL.may,yX,gP]
     simp only[go_sem,seval,AM,Bool.not_false,zp,wi]
     have yZ:∀z∈xs.take (i+1),z.may=true->¬z.no>last:=λz hz hm=>by
      rw[vD,List.mem_append,List.mem_singleton]at hz;rcases hz with hz|rfl
      ·exact dY z hz hm
      ·rw[xj]at hm;cases hm
     have kP:((xs.take (i+1)).filter gL.may).head?=((xs.take i).filter gL.may).head?:=by rw[vD,List.filter_append];simp[xj]
     refine hX mm _ _ _ _ aa ⟨rfl,rfl,?_,?_,?_,i+1,aa,?_,?_,yZ⟩ ao
     all_goals simp only[go_sem,seval,r0,r9,zo,r3,kP]
    |true=>
     have AM:hr.free l.length=true:=by rw[<-JX,gP]
     have xj:x.may=true:=by simp[gL.may,yX,gP]
     simp only[go_sem,seval,AM,Bool.not_true];refine bG 9 ?_;by_cases ma:x.no>last
     ·simp only[go_sem,seval,r0,bz,vt,ma];refine an aI ao ⟨?_,rfl⟩;rw[Pk xj ma];simp[up,qK]
     ·have yZ:∀z∈xs.take (i+1),z.may=true->¬z.no>last:=λz hz hm=>by
       rw[vD,List.mem_append,List.mem_singleton]at hz;rcases hz with hz|rfl
       ·exact dY z hz hm
       ·exact ma
      have kP:((xs.take (i+1)).filter gL.may).head?=((xs.take i).filter gL.may).head?.or (some x):=by rw[vD,List.filter_append,List.head?_append];simp[xj]
      cases C3:((xs.take i).filter gL.may).head? with
      |none=>
       rw[C3]at r3 kP;simp only[qK]at r3;simp only[go_sem,seval,r0,bz,vt,ma,r3,zp,wi];refine hX mm _ _ _ _ aa ⟨rfl,rfl,?_,?_,?_,i+1,aa,?_,?_,yZ⟩ ao
       all_goals simp only[go_sem,seval,r0,r9,zo,kP,qK,Option.none_or]
      |some y=>
       rw[C3]at r3 kP;simp only[qK]at r3;simp only[go_sem,seval,r0,bz,vt,ma,r3,zp,wi];refine hX mm _ _ _ _ aa ⟨rfl,rfl,?_,?_,?_,i+1,aa,?_,?_,yZ⟩ ao
       all_goals simp only[go_sem,seval,r0,r9,zo,r3,kP,qK,Option.some_or]
section
variable {O:Type}
variable {α:Type}[DecidableEq α]
def bu (l:List (α×O))(k:α):Option O:=(l.find? λe=>decide (e.1=k)).map (·.2)
def dz (l:List (α×O))(k:α)(f:O->O):List (α×O):=l.map λe=>if e.1=k then(e.1,f e.2)else e
def cF (l:List (α×O))(k:α):List (α×O):=l.filter λe=>decide (e.1≠k)
def cV (lt:α->α->Bool):List (α×O)->α->O->List (α×O)
 |[],k,v=>[(k,v)]
 |e::l,k,v=>if lt k e.1 then(k,v)::e::l else e::cV lt l k v
end
structure QN where
 ready:List aX
 held:Int
 last:Int
 cons:List Int
structure HN where
 r:HR
 un:List (Nat×(List UInt8×aX))
 co:List (List UInt8×Int)
structure CN where
 r:CR
 ch:List (Nat×HN)
structure XN where
 id:Int
 no:Nat
 tag:List UInt8
 q:List UInt8
 fe:Bool
structure N where
 cfg:jA
 clock:Int
 last:Int
 messages:Int
 bh:Int
 aF:List (Int×CN)
 aN:List (List UInt8×QN)
 xs:List (Int×XN)
def N.ar(n:N)(id:Int):Option CN:=bu n.aF id
def N.h?(n:N)(id:Int)(no:Nat):Option HN:=(n.ar id).bind λc=>bu c.ch no
def N.q?(n:N)(nm:List UInt8):Option QN:=bu n.aN nm
def N.x?(n:N)(k:Int):Option XN:=bu n.xs k
def N.dI(n:N)(id:Int)(f:CN->CN):N:={n with aF:=dz n.aF id f}
def N.bC(n:N)(id:Int)(f:CR->CR):N:=n.dI id λc=>{c with r:=f c.r}
def N.bB(n:N)(id:Int)(no:Nat)(f:HN->HN):N:=n.dI id λc=>{c with ch:=dz c.ch no f}
def N.cS(n:N)(id:Int)(no:Nat)(f:HR->HR):N:=n.bB id no λh=>{h with r:=f h.r}
def N.bL(n:N)(nm:List UInt8)(f:QN->QN):N:={n with aN:=dz n.aN nm f}
def N.ph (n:N)(id:Int):Int:=((n.ar id).map (·.r.ph)).getD 5
def N.send(n:N)(id:Int)(s:List UInt8):N:=n.bC id λr=>{r with out:=r.out++s,gV:=n.clock}
def N.may(n:N)(k:Int):Bool:=match n.x? k with
 |some x=>x.fe||(match n.h? x.id x.no with|some h=>h.r.free h.un.length|none=>false)
 |none=>false
def N.uM(n:N)(q:QN):Option Int:=((q.cons.filter n.may).find? λk=>decide (k>q.last)).or (q.cons.filter n.may).head?
def N.hand(n:N)(id:Int)(no:Nat)(nm:List UInt8)(m:aX)(fe:Bool):N:=
 if fe then n.cS id no λr=>{r with tag:=r.tag+1}
 else(n.bB id no λh=>{h with r:={h.r with tag:=h.r.tag+1},un:=h.un++[((h.r.tag+1).toNat,(nm,m))]}).bL nm λq=>{q with held:=q.held+1}
def N.tag (n:N)(id:Int)(no:Nat):Nat:=(((n.h? id no).map λ(h:HN)=>h.r.tag).getD 0).toNat
def N.frame (n:N)(id:Int):Nat:=(((n.ar id).map λ(c:CN)=>c.r.frame).getD 0).toNat
def N.give(n:N)(id:Int)(no:Nat)(m:aX)(s:List UInt8):N:=(n.send id s).send id (lT no m.body (n.frame id))
def N.take(n:N)(k:Int)(m:aX):N:=match n.x? k with
 |none=>n
 |some x=>(n.hand x.id x.no x.q m x.fe).give x.id x.no m (ck x.no 60 60 [.text x.tag,.mW (n.tag x.id x.no+1),.flag m.again,.text m.key])
def N.iG(n:N)(nm:List UInt8):Option N:=match n.q? nm with
 |none=>none
 |some q=>match q.ready with
  |[]=>none
  |m::_=>match n.uM q with
   |none=>none
   |some k=>some ((n.bL nm λq=>{q with ready:=q.ready.tail,last:=k}).take k m)
def N.j8:Nat->N->List UInt8->N
 |0,n,_=>n
 |f+1,n,nm=>match n.iG nm with
  |none=>n
  |some n'=>j8 f n' nm
def N.ready (n:N)(nm:List UInt8):Nat:=((n.q? nm).map (·.ready.length)).getD 0
def N.serve(n:N):N:=(n.aN.map (·.1)).foldl (λn nm=>n.j8 (n.ready nm) nm) n
def jh(ms:List aX)(m:aX):List aX:=ms.takeWhile (λx=>decide (x.seq<m.seq))++{m with again:=true}::ms.dropWhile (λx=>decide (x.seq<m.seq))
def N.settle(n:N)(id:Int)(no:Nat)(tag:Nat)(back:Bool):N:=match(n.h? id no).bind λh=>bu h.un tag with
 |none=>n
 |some (nm,m)=>(n.bB id no λh=>{h with un:=cF h.un tag}).bL nm λq=>{q with held:=q.held-1,ready:=if back then jh q.ready m else q.ready}
def N.cancel(n:N)(k:Int):N:=match n.x? k with
 |none=>n
 |some x=>{n.bL x.q λq=>{q with cons:=q.cons.filter λj=>decide (j≠k)}with xs:=cF n.xs k}
def N.release(n:N)(id:Int)(no:Nat):N:=match n.h? id no with
 |none=>n
 |some h=>h.un.foldl (λn e=>n.settle id no e.1 true) ((h.co.foldl (λn e=>n.cancel e.2) n).bB id no λh=>{h with co:=[]})
def N.leave(n:N)(id:Int):N:=match n.ar id with
 |none=>n
 |some c=>(c.ch.foldl (λn e=>n.release id e.1) n).dI id λc=>{c with ch:=[]}
def N.pz(n:N)(id:Int)(no:Nat):N:=(n.release id no).dI id λc=>{c with ch:=cF c.ch no}
def ql(e cl me:Nat):List Arg:=[.short e,.text [],.short cl,.short me]
def N.soft(n:N)(id:Int)(no:Nat)(e cl me:Nat):N:=((n.release id no).cS id no λr=>{r with closing:=true}).send id (ck no 20 40 (ql e cl me))
def N.cH(n:N)(id:Int)(e cl me:Nat):N:=((n.leave id).bC id λr=>{r with ph:=4}).send id (ck 0 10 50 (ql e cl me))
inductive Er where
 |nil
 |soft (e cl me:Nat)
 |cH (e cl me:Nat)
inductive HO where
 |ok (n:N) (er:Er)
 |bad (cl me:Nat)
def okB(b:UInt8):Bool:=let n:=b.toNat
 (decide (97<=n)&&decide (n<=122))||(decide (65<=n)&&decide (n<=90))||(decide (48<=n)&&decide (n<=57))||decide (n=46)||decide (n=95)||decide (n=45)
def named(s:List UInt8):Bool:=decide (s≠[])&&decide (s.length<=16)&&s.all okB
def N.declare(n:N)(id:Int)(no:Nat)(s:List UInt8)(cl me:Nat):HO:=match jP s with
 |some (nm,[])=>match n.q? nm with
  |some q=>.ok (n.send id (ck no 50 11 [.text nm,.long q.ready.length,.long q.cons.length])) .nil
  |none=>if named nm=false then .ok n (.cH 502 cl me)else if n.aN.length=8 then .ok n (.soft 506 cl me)
   else .ok (({n with aN:=cV cL n.aN nm ⟨[],0,0,[]⟩}:N).send id (ck no 50 11 [.text nm,.long 0,.long 0])) .nil
 |_=>.bad cl me
def N.oY(n:N)(id:Int)(no:Nat)(s:List UInt8)(cl me:Nat):HO:=match jP s with
 |some (nm,[])=>match n.q? nm with
  |some q=>.ok ((n.bL nm λq=>{q with ready:=[]}).send id (ck no 50 31 [.long q.ready.length])) .nil
  |none=>.ok n (.soft 404 cl me)
 |_=>.bad cl me
def N.rM(n:N)(id:Int)(no:Nat)(s:List UInt8)(cl me:Nat):HO:=match fu 2 s with
 |some (k,[])=>.ok ((n.cS id no λr=>{r with ng:=k}).send id (ck no 60 11 [])) .nil
 |_=>.bad cl me
def N.ki(n:N)(id:Int)(no:Nat)(nm tg:List UInt8)(na:Bool):N:=
 (({n with bh:=n.bh+1,xs:=n.xs++[(n.bh+1,⟨id,no,tg,nm,na⟩)]}:N).bL nm λq=>{q with cons:=q.cons++[n.bh+1]}).bB id no λh=>{h with co:=cV cL h.co tg (n.bh+1)}
def N.consume(n:N)(id:Int)(no:Nat)(h:HN)(s:List UInt8)(cl me:Nat):HO:=match jP s with
 |some (nm,s1)=>match jP s1 with
  |some (tg,s2)=>match zl s2 with
   |some (na,[])=>if tg.length<1\/tg.length>8 then .ok n (.cH 502 cl me)else match n.q? nm with
    |none=>.ok n (.soft 404 cl me)
    |some _=>if(bu h.co tg).isSome then .ok n (.cH 530 cl me)else if h.co.length=4 then .ok n (.soft 506 cl me)
     else .ok ((n.ki id no nm tg na).send id (ck no 60 21 [.text tg])) .nil
   |_=>.bad cl me
  |_=>.bad cl me
 |_=>.bad cl me
def N.qT(n:N)(id:Int)(no:Nat)(h:HN)(tg:List UInt8):N:=match bu h.co tg with
 |some k=>(n.cancel k).bB id no λh=>{h with co:=cF h.co tg}
 |none=>n
def N.qf(n:N)(id:Int)(no:Nat)(h:HN)(s:List UInt8)(cl me:Nat):HO:=match jP s with
 |some (tg,[])=>.ok ((n.qT id no h tg).send id (ck no 60 31 [.text tg])) .nil
 |_=>.bad cl me
def N.rL(n:N)(id:Int)(no:Nat)(s:List UInt8)(cl me:Nat):HO:=match jP s with
 |some (key,[])=>.ok (n.cS id no λr=>{r with key:=key,want:=2}) .nil
 |_=>.bad cl me
def N.get(n:N)(id:Int)(no:Nat)(s:List UInt8)(cl me:Nat):HO:=match jP s with
 |some (nm,s1)=>match zl s1 with
  |some (na,[])=>match n.q? nm with
   |none=>.ok n (.soft 404 cl me)
   |some q=>match q.ready with
    |[]=>.ok (n.send id (ck no 60 72 [])) .nil
    |m::ms=>.ok (((n.bL nm λq=>{q with ready:=q.ready.tail}).hand id no nm m na).give id no m (ck no 60 71 [.mW (n.tag id no+1),.flag m.again,.text m.key,.long ms.length])) .nil
  |_=>.bad cl me
 |_=>.bad cl me
def N.jx(n:N)(id:Int)(no:Nat)(p:Nat->Bool)(back:Bool)(l:List (Nat×(List UInt8×aX))):N:=l.foldl (λn e=>if p e.1 then n.settle id no e.1 back else n) n
def N.settled(n:N)(id:Int)(no:Nat)(h:HN)(s:List UInt8)(cl me:Nat):HO:=match fu 4 s with
 |some (high,s1)=>match fu 4 s1 with
  |some (tag,s2)=>match zl s2 with
   |some (flag,[])=>
    if(decide (high=0)&&(bu h.un tag).isSome)||(decide (me=80)&&flag&&decide (high=0)&&decide (tag=0))then
     .ok (n.jx id no (λt=>decide (t=tag)||(decide (me=80)&&flag&&(decide (t<tag)||decide (tag=0)))) (decide (me≠80)&&flag) h.un) .nil
    else .ok n (.soft 406 cl me)
   |_=>.bad cl me
  |_=>.bad cl me
 |_=>.bad cl me
def sU(s:List UInt8):Option (List UInt8):=match fu 2 s with
 |some (_,s1)=>match jP s1 with
  |some (_,s2)=>match fu 4 s2 with
   |some (_,s3)=>some s3
   |none=>none
  |none=>none
 |none=>none
def N.close(n:N)(id:Int)(no:Nat)(s:List UInt8)(cl me:Nat):HO:=match sU s with
 |some []=>.ok ((n.send id (ck no 20 41 [])).pz id no) .nil
 |_=>.bad cl me
def N.method(n:N)(id:Int)(no:Nat)(h:HN)(s:List UInt8)(cl me:Nat):HO:=
 if cl=20/\me=10 then .ok n (.cH 504 cl me)
 else if cl=20/\me=40 then n.close id no s cl me
 else if cl=50/\me=10 then n.declare id no s cl me
 else if cl=50/\me=30 then n.oY id no s cl me
 else if cl=60/\me=10 then n.rM id no s cl me
 else if cl=60/\me=20 then n.consume id no h s cl me
 else if cl=60/\me=30 then n.qf id no h s cl me
 else if cl=60/\me=40 then n.rL id no s cl me
 else if cl=60/\me=70 then n.get id no s cl me
 else if cl=60/\(me=80\/me=90)then n.settled id no h s cl me
 else if cl=10 then .ok n (.cH 503 cl me)
 else .ok n (.cH 540 cl me)
def N.j7(n:N)(key body:List UInt8):N×Bool:=match n.q? key with
 |none=>(n,true)
 |some q=>if(q.ready.length:Int)+q.held>=n.cfg.queue then(n,false)
  else(({n with messages:=n.messages+1}:N).bL key λq=>{q with ready:=q.ready++[⟨n.messages+1,key,body,false⟩]},true)
def N.whole(n:N)(id:Int)(no:Nat)(r:HR):HO:=
 if(r.body.length:Int)<r.size then .ok (n.cS id no λ_=>r) .nil else
  let p:=(n.cS id no λ_=>{r with want:=1}).j7 r.key r.body
  .ok p.1 (if p.2 then .nil else .soft 506 60 40)
def N.header(n:N)(id:Int)(no:Nat)(r:HR)(s:List UInt8):HO:=match fu 2 s with
 |some (ZG,s1)=>match fu 2 s1 with
  |some (weight,s2)=>match fu 4 s2 with
   |some (high,s3)=>match fu 4 s3 with
    |some (low,[])=>if ZG≠60\/weight≠0 then .ok n (.cH 502 60 40)else if high>0\/(low:Int)>n.cfg.body then .ok n (.soft 311 60 40)
     else n.whole id no {r with want:=3,size:=low,body:=[]}
    |_=>.bad 60 40
   |_=>.bad 60 40
  |_=>.bad 60 40
 |_=>.bad 60 40
def N.part(n:N)(id:Int)(no:Nat)(r:HR)(s:List UInt8):HO:=
 if((r.body++s).length:Int)>r.size then .ok (n.cS id no λr=>{r with body:=r.body++s}) (.cH 502 60 40)
 else n.whole id no {r with body:=r.body++s}
def N.jG(n:N)(id:Int)(no:Nat)(h:HN)(kind:Int)(s:List UInt8)(cl me:Nat):HO:=
 if h.r.closing then
  if kind=1/\cl=20/\me=40 then .ok ((n.send id (ck no 20 41 [])).pz id no) .nil
  else if kind=1/\cl=20/\me=41 then .ok (n.pz id no) .nil
  else .ok n .nil
 else if kind≠max h.r.want 1 then .ok n (.cH 505 cl me)
 else if kind=2 then n.header id no h.r s
 else if kind=3 then n.part id no h.r s
 else n.method id no h s cl me
def kT(a b:Nat):Bool:=decide (a<b)
def gu:HR:=⟨false,0,0,0,[],[],0⟩
def N.lN(n:N)(id:Int)(c:CN)(no:Nat)(kind:Int)(s:List UInt8)(cl me:Nat):HO:=
 if(no:Int)>c.r.dg then .ok n (.cH 504 cl me)else match bu c.ch no with
 |some h=>n.jG id no h kind s cl me
 |none=>if kind=1/\cl=20/\me=10 then(match jP s with
  |some (_,[])=>.ok ((n.dI id λc=>{c with ch:=cV kT c.ch no ⟨gu,[],[]⟩}).send id (ck no 20 11 [.long 0])) .nil
  |_=>.bad cl me)
  else .ok n (.cH 504 cl me)
def N.control(n:N)(id:Int)(kind:Int)(s:List UInt8)(cl me:Nat):HO:=
 if kind=1/\cl=10/\me=50 then(match sU s with
  |some []=>.ok (((n.leave id).send id (ck 0 10 51 [])).bC id λr=>{r with ph:=5}) .nil
  |_=>.bad cl me)
 else .ok n (.cH 503 cl me)
def N.begin(n:N)(id:Int)(c:CN)(ch:Int)(kind:Int)(s:List UInt8)(cl me:Nat):HO:=
 if¬(kind=1/\cl=10/\me=(if c.r.ph=1 then 31 else 40))\/ch≠0 then .ok n (.cH 503 cl me)
 else if c.r.ph=2 then(match jP s with
  |some (_,[])=>.ok ((n.bC id λr=>{r with ph:=3}).send id (ck 0 10 41 [.text []])) .nil
  |_=>.bad cl me)
 else match fu 2 s with
  |some (dg,s1)=>match fu 4 s1 with
   |some (size,s2)=>match fu 2 s2 with
    |some (gh,[])=>if dg<1\/(dg:Int)>n.cfg.jc\/size<64\/(size:Int)>n.cfg.frame\/(gh:Int)>n.cfg.gh then .ok n (.cH 530 cl me)
     else .ok (n.bC id λr=>{r with dg:=dg,frame:=size,gh:=gh,ph:=2}) .nil
    |_=>.bad cl me
   |_=>.bad cl me
  |_=>.bad cl me
def N.jb(n:N)(id:Int)(c:CN)(ch:Int)(kind:Int)(s:List UInt8)(cl me:Nat):HO:=
 if c.r.ph=1\/c.r.ph=2 then n.begin id c ch kind s cl me
 else if c.r.ph=3 then(if ch=0 then n.control id kind s cl me else n.lN id c ch.toNat kind s cl me)
 else if c.r.ph=4/\kind=1/\cl=10/\me=51/\ch=0 then .ok (n.bC id λr=>{r with ph:=5}) .nil
 else .ok n .nil
def N.fJ(n:N)(id:Int)(c:CN)(u:Un):HO:=
 if u.kind=1 then(match fu 2 u.iS with
  |some (cl,s1)=>match fu 2 s1 with
   |some (me,s2)=>n.jb id c u.channel 1 s2 cl me
   |none=>.ok n (.cH 502 0 0)
  |none=>.ok n (.cH 502 0 0))
 else n.jb id c u.channel u.kind u.iS 0 0
def HO.get(n:N):HO->N×Er
 | .ok n' er=>(n',er)
 | .bad cl me=>(n,.cH 502 cl me)
def N.fault(n:N)(id:Int)(no:Int):Er->N
 | .nil=>n
 | .soft e cl me=>if n.ph id=4 then n else n.soft id no.toNat e cl me
 | .cH e cl me=>if n.ph id=4 then n else n.cH id e cl me
def N.lz(n:N)(id:Int)(u:Un):N:=match n.ar id with
 |none=>n
 |some c=>let p:=(n.fJ id c u).get n
  p.1.fault id u.channel p.2
def N.unit(n:N)(id:Int)(u:Un):N:=
 if u.jT then
  if u.fR then(n.send id pA).bC id λr=>{r with ph:=5}
  else(n.bC id λr=>{r with ph:=1}).send id (ck 0 10 30 [.short n.cfg.jc.toNat,.long n.cfg.frame.toNat,.short n.cfg.gh.toNat])
 else if u.fR then(if n.ph id=4 then n else n.cH id 501 0 0).bC id λr=>{r with ph:=5}
 else if u.kind=8 then n else n.lz id u
def N.cut(n:N)(id:Int):Un×N:=match n.ar id with
 |none=>(⟨0,0,[],false,false⟩,n)
 |some c=>let v:=ft c.r.kx c.r.rest c.r.frame
  (v.1,n.bC id λr=>{r with kx:=v.2.1,rest:=v.2.2})
def N.lv:Nat->N->Int->N
 |0,n,_=>n
 |f+1,n,id=>if n.ph id=5 then n else if(n.cut id).1.idle then(n.cut id).2 else lv f (((n.cut id).2.unit id (n.cut id).1).serve) id
def N.rest (n:N)(id:Int):List UInt8:=((n.ar id).map (·.r.rest)).getD []
def N.vk(n:N)(id:Int)(s:List UInt8):N:=
 let n1:=n.bC id λr=>{r with recv:=n.clock,rest:=r.rest++s}
 n1.lv ((n1.rest id).length+2) id
def N.lQ(n:N):N:=((n.aF.map (·.1)).foldl (λn id=>if n.ph id=5 then n.leave id else n) n).serve
def N.outs(n:N):List (Int×List UInt8):=(n.aF.map λe=>(e.1,e.2.r.out)).filter λe=>decide (e.2≠[])
def N.clean(n:N):N:={n with aF:=(n.aF.filter λe=>decide (e.2.r.ph≠5)).map λe=>(e.1,{e.2 with r:={e.2.r with out:=[]}})}
def N.feed(n:N)(id:Int)(s:List UInt8):N:=(if s=[]then n else n.vk id s).lQ
def N.drop(n:N)(id:Int):N:=(n.bC id λr=>{r with ph:=5}).lQ
inductive Ref where
 |b0|b1|gw|br|mq|mc
 |conn (id:Int)|chm (id:Int)
 |chan (id:Int) (no:Nat)|un (id:Int) (no:Nat)|co (id:Int) (no:Nat)
 |queue (nm:List UInt8)|eP (nm:List UInt8)|hU (nm:List UInt8)
 |cons (k:Int)
 |ext (i:Nat)
 deriving DecidableEq
inductive V where
 |obj (o:Obj)
 |oU (l:List (Int×Value))
 |xC (l:List (List UInt8×Value))
 |eP (v:Value) (ms:List aX)
 |hU (v:Value) (ps:List Value)
structure pg {α:Type} (l:List (α×Value×Nat)) (c:Nat):Prop where
 uniq:jD l
 old:∀e∈l,e.2.2<c
 nd:(l.map (·.2.2)).Nodup
def oo:V->Obj->Prop
 | .obj o,o'=>o'=o
 | .oU kv,o'=>∃l c,o'=aU aV l c/\pg l c/\(l.map λe=>(e.1,e.2.1)).Perm kv
 | .xC kv,o'=>∃l c,o'=aU bR l c/\pg l c/\(l.map λe=>(e.1,e.2.1)).Perm kv
 | .eP v ms,o'=>∃a pre pad c,v=.slice (some ⟨a,List.length (α:=Value) pre,none⟩) ms.length c/\ms.length<=c/\4*(c-ms.length)<=List.length (α:=Value) pad/\o'=.cells (pre++bd ms++pad).toArray 193 (0,0)
 | .hU v ps,o'=>∃a pad,v=.slice (some ⟨a,0,none⟩) ps.length (ps.length+List.length (α:=Value) pad)/\o'=.cells (ps++pad).toArray 186 (0,0)
def Ef:List Value:=Go.Lib.propertiesTab.map λz=>Value.int .u8 z
structure Lay where
 gw:Nat
 br:Nat
 mq:Nat
 mc:Nat
 conn:Int->Nat
 chan:Int->Nat->Nat
 un:Int->Nat->Nat
 co:Int->Nat->Nat
 queue:List UInt8->Nat
 cons:Int->Nat
 L1:List Value
 qp:L1=Ef
def Lay.tab(A:Lay):∀i<128,A.L1[i]? =some (.int .u8 (Go.Lib.propertiesTab.getD i 0)):=λi hi=>by
 have h:i<Go.Lib.propertiesTab.length:=by rw[Go.Lib.propertiesTab_length];omega
 rw[A.qp,Ef,List.getElem?_map,List.getElem?_eq_getElem h,List.getD_eq_getElem?_getD,List.getElem?_eq_getElem h];rfl
structure Hid where
 chm:Int->Nat
 rv:List UInt8->Value
 cv:List UInt8->Value
def po:Value->Nat
 | .slice (some a) _ _=>a.block
 |_=>0
def kC:Value->Bool
 | .slice none 0 0=>true
 |_=>false
abbrev Ext:=List (Nat×Obj)
def cD(A:Lay)(H:Hid)(X:Ext):Ref->Nat
 | .b0=>0| .b1=>1| .gw=>A.gw| .br=>A.br| .mq=>A.mq| .mc=>A.mc
 | .conn id=>A.conn id| .chm id=>H.chm id
 | .chan id no=>A.chan id no| .un id no=>A.un id no| .co id no=>A.co id no
 | .queue nm=>A.queue nm| .eP nm=>po (H.rv nm)| .hU nm=>po (H.cv nm)
 | .cons k=>A.cons k
 | .ext i=>(X[i]?.map (·.1)).getD 0
def zq(v:Value)(ms:List aX):Option V:=if kC v=true/\ms=[]then none else some (.eP v ms)
def Cc(v:Value)(ps:List Value):Option V:=if kC v=true/\ps=[]then none else some (.hU v ps)
def view(n:N)(A:Lay)(H:Hid)(X:Ext):Ref->Option V
 | .b0=>some (.obj (.cells #[rT 45] 143 (0,0)))
 | .b1=>some (.obj (.cells A.L1.toArray 396 (0,0)))
 | .gw=>some (.obj (eE n.cfg A.br A.mc n.clock n.last))
 | .br=>some (.obj (gZ A.mq n.cfg.queue n.messages n.bh))
 | .mq=>some (.xC (n.aN.map λe=>(e.1,pV (A.queue e.1))))
 | .mc=>some (.oU (n.aF.map λe=>(e.1,pV (A.conn e.1))))
 | .conn id=>(n.ar id).map λc=>.obj (fi A.gw id (H.chm id) c.r)
 | .chm id=>(n.ar id).map λc=>.oU (c.ch.map λe=>((e.1:Int),pV (A.chan id e.1)))
 | .chan id no=>(n.h? id no).map λh=>.obj (iu (A.conn id) no (A.un id no) (A.co id no) h.r)
 | .un id no=>(n.h? id no).map λh=>.oU (h.un.map λe=>((e.1:Int),tG (A.queue e.2.1) e.2.2))
 | .co id no=>(n.h? id no).map λh=>.xC (h.co.map λe=>(e.1,pV (A.cons e.2)))
 | .queue nm=>(n.q? nm).map λq=>.obj (fw nm (H.rv nm) q.held q.last (H.cv nm))
 | .eP nm=>(n.q? nm).bind λq=>zq (H.rv nm) q.ready
 | .hU nm=>(n.q? nm).bind λq=>Cc (H.cv nm) (q.cons.map λk=>pV (A.cons k))
 | .cons k=>(n.x? k).map λx=>.obj (kJ (A.chan x.id x.no) k x.tag (A.queue x.q) x.fe)
 | .ext i=>(X[i]?).map λp=>.obj p.2
structure Hl (w:Ref->Option V) (ad:Ref->Nat) (σ:Hp):Prop where
 has:∀r v,w r=some v->∃o,σ.f (ad r)=some o/\oo v o
 inj:∀r r',(w r).isSome->(w r').isSome->ad r=ad r'->r=r'
def upd{O:Type}(f:Ref->O)(r:Ref)(v:O):Ref->O:=λx=>if x=r then v else f x
variable {w:Ref->Option V}{ad:Ref->Nat}{τ:Hp}
def Hl.le(h:Hl w ad σ)(k:σ.le τ):Hl w ad τ:=⟨λr v hv=>by obtain⟨o,h1,h2⟩:=h.has r v hv;exact⟨o,k _ _ h1,h2⟩,h.inj⟩
variable {w':Ref->Option V}{Nv:Ref->Nat}{r:Ref}
def Hl.congr(h:Hl w ad σ)(hw:∀r,w' r=w r)(ha:∀r,(w' r).isSome->Nv r=ad r):Hl w' Nv σ:=by
 refine⟨λr v hv=>?_,λr r' h1 h2 e=>?_⟩
 ·rw[ha r (by rw[hv];rfl)];exact h.has r v (by rw[<-hw];exact hv)
 ·rw[ha r h1,ha r' h2]at e;exact h.inj r r' (by rw[<-hw];exact h1) (by rw[<-hw];exact h2) e
def Hl.sub(h:Hl w ad σ)(hw:∀r,w' r=none\/w' r=w r):Hl w' ad σ:=by have key:∀r,(w' r).isSome->w' r=w r:=λr hr=>(hw r).elim (λe=>by rw[e]at hr;cases hr) _root_.id;exact⟨λr v hv=>h.has r v (by rw[<-key r (by rw[hv];rfl)];exact hv),λr r' h1 h2 e=>h.inj r r' (by rw[<-key r h1];exact h1) (by rw[<-key r' h2];exact h2) e⟩
variable {b:Nat}{o:Obj}{v:V}
def Hl.put(h:Hl w ad σ)(hb:∀r',r'≠r->(w r').isSome->ad r'≠b)(ho:oo v o):Hl (upd w r (some v)) (upd ad r b) (σ.set b o):=by
 refine⟨λx u hu=>?_,λx y hx hy e=>?_⟩
 ·by_cases e:x=r
  ·subst e;simp only[upd,if_true]at hu|-
   cases hu
   exact⟨o,aY,ho⟩
  ·simp only[upd,if_neg e]at hu|-;obtain⟨o',h1,h2⟩:=h.has x u hu;exact⟨o',by rw[Hp.az (hb x e (by rw[hu];rfl))];exact h1,h2⟩
 ·by_cases e1:x=r<;>by_cases e2:y=r
  ·rw[e1,e2]
  ·simp only[upd,if_pos e1,if_neg e2]at e hy;exact absurd e.symm (hb y e2 hy)
  ·simp only[upd,if_neg e1,if_pos e2]at e hx;exact absurd e (hb x e1 hx)
  ·simp only[upd,if_neg e1,if_neg e2]at e hx hy;exact h.inj x y hx hy e
def Hl.set(h:Hl w ad σ)(hr:(w r).isSome)(ho:oo v o):Hl (upd w r (some v)) ad (σ.set (ad r) o):=by
 have:=h.put (r:=r) (b:=ad r) (λr' aE hs e=>aE (h.inj r' r hs hr e)) ho;have e:upd ad r (ad r)=ad:=by funext x;simp only[upd];split<;>simp_all
 rwa[e]at this
def Hl.uE(h:Hl w ad σ)(hr:(w r).isSome)(o:Obj):Hl (upd w r (some (.obj o))) ad (σ.set (ad r) o):=h.set hr (v:=.obj o) (_root_.id rfl)
def Hl.new(h:Hl w ad σ)(hb:σ.f b=none)(ho:oo v o):Hl (upd w r (some v)) (upd ad r b) (σ.set b o):=
 h.put (λr' _ hs e=>by
  obtain⟨u,hu⟩:=Option.isSome_iff_exists.1 hs
  obtain⟨o',h1,_⟩:=h.has r' u hu
  rw[e,hb]at h1;cases h1) ho
def Hl.obj(h:Hl w ad σ)(hr:w r=some (.obj o)):σ.f (ad r)=some o:=by obtain⟨o',h1,h2⟩:=h.has _ _ hr;cases h2;exact h1
def aq(A:Lay)(H:Hid)(n:N)(X:Ext)(σ:Hp):Prop:=Hl (view n A H X) (cD A H X) σ
def At(A:Lay)(n:N)(X:Ext)(σ:Hp):Prop:=∃H,aq A H n X σ
section
variable {O:Type}{v:V}
variable {α:Type}[DecidableEq α]
def Ik (l:List (α×O))(k k':α)(f:O->O):bu (dz l k f) k'=if k'=k then(bu l k').map f else bu l k':=by
 unfold bu dz
 induction l with
 |nil=>simp
 |cons e l ih=>
  simp only[List.map_cons,List.find?_cons];by_cases h1:e.1=k
  ·by_cases h2:e.1=k'
   ·simp[h1,<-h2]
   ·have:¬k'=k:=λx=>h2 (by rw[x,h1]);simp only[h1,if_true,this,if_false]at ih|-;have h3:¬k=k':=λx=>this x.symm;simp only[h3,decide_false];exact ih
  ·by_cases h2:e.1=k'
   ·have:¬k'=k:=λx=>h1 (by rw[h2,x]);simp[h2,this]
   ·simp only[h1,if_false,h2,decide_false];exact ih
def ow {γ:Type}(l:List (α×O))(k:α)(f:O->O)(F:α->γ):((dz l k f).map λe=>F e.1)=l.map λe=>F e.1:=by unfold dz;rw[List.map_map];apply List.map_congr_left;intro e _;simp only[Function.comp];split<;>rfl
def iJ {l:List (α×O)}{k:α}{v:O}(h:bu l k=some v):(k,v)∈l:=by unfold bu at h;obtain⟨e,h1,h2⟩:=Option.map_eq_some_iff.1 h;have:=List.find?_some h1;simp only[decide_eq_true_eq]at this;subst this;subst h2;exact List.mem_of_find?_eq_some h1
def iK {l:List (α×O)}{k:α}(h:bu l k=none):∀e∈l,e.1≠k:=by unfold bu at h;simpa using h
def BZ (l:List (α×O))(k k':α):bu (cF l k) k'=if k'=k then none else bu l k':=by
 unfold bu cF
 induction l with
 |nil=>simp
 |cons e l ih=>
  simp only[List.filter_cons,List.find?_cons];by_cases h1:e.1=k
  ·by_cases h2:e.1=k'
   ·have:k'=k:=by rw[<-h2,h1]
    simp only[this,if_true]at ih|-;simp only[h1,ne_eq,not_true_eq_false,decide_false,Bool.false_eq_true,if_false];exact ih
   ·simp only[h1,ne_eq,not_true_eq_false,decide_false,Bool.false_eq_true,if_false];have:¬k=k':=λx=>h2 (by rw[h1,x]);simp only[this,decide_false];exact ih
  ·simp only[h1,ne_eq,not_false_eq_true,decide_true,if_true,List.find?_cons];by_cases h2:e.1=k'
   ·have:¬k'=k:=λx=>h1 (by rw[h2,x]);simp[h2,this]
   ·simp only[h2,decide_false];exact ih
def yn {lt:α->α->Bool}(l:List (α×O))(k k':α)(v:O)(hk:bu l k=none):bu (cV lt l k v) k'=if k'=k then some v else bu l k':=by
 induction l with
 |nil=>simp only[cV,bu,List.find?_cons,List.find?_nil];by_cases h:k=k'<;>simp[h,eq_comm]
 |cons e l ih=>
  have FU:¬e.1=k:=iK hk e al
  have dX:bu l k=none:=by unfold bu at hk|-;simp only[List.find?_cons,FU,decide_false]at hk;exact hk
  simp only[cV];split
  ·unfold bu;simp only[List.find?_cons];by_cases h:k=k'
   ·simp[h]
   ·have h2:¬k'=k:=λx=>h x.symm;simp[h,h2]
  ·have:=ih dX;unfold bu at this|-;simp only[List.find?_cons];by_cases h:e.1=k'
   ·have h2:¬k'=k:=λx=>FU (by rw[h,x]);simp[h,h2]
   ·simp only[h,decide_false];exact this
omit [DecidableEq α]in
def uU {lt:α->α->Bool}(l:List (α×O))(k:α)(v:O):(cV lt l k v).Perm ((k,v)::l):=by
 induction l with
 |nil=>exact .refl _
 |cons e l ih=>
  simp only[cV];split
  ·exact .refl _
  ·exact(ih.cons e).trans (.swap _ _ _)
end
section
variable {σ:Hp}{τ:Hp}{r:Ref}{b:Nat}{o:Obj}{v:V}{H:Hid}{n:N}{X:Ext}{no:Nat}{nm:List UInt8}{c:CN}{h:HN}{q:QN}{k:Int}{x:XN}
variable {A:Lay}{id:Int}
def aq.le (a:aq A H n X σ)(l:σ.le τ):aq A H n X τ:=Hl.le a l
def aq.b0 (a:aq A H n X σ):σ.f 0=some (.cells #[rT 45] 143 (0,0)):=Hl.obj a (r:=.b0) rfl
def aq.b1 (a:aq A H n X σ):σ.f 1=some (.cells A.L1.toArray 396 (0,0)):=Hl.obj a (r:=.b1) rfl
def aq.gw (a:aq A H n X σ):σ.f A.gw=some (eE n.cfg A.br A.mc n.clock n.last):=Hl.obj a (r:=.gw) rfl
def aq.br (a:aq A H n X σ):σ.f A.br=some (gZ A.mq n.cfg.queue n.messages n.bh):=Hl.obj a (r:=.br) rfl
def aq.mq (a:aq A H n X σ):∃l c,σ.f A.mq=some (aU bR l c)/\pg l c/\(l.map λe=>(e.1,e.2.1)).Perm (n.aN.map λe=>(e.1,pV (A.queue e.1))):=by obtain⟨o,h1,l,c,rfl,h2⟩:=a.has .mq _ rfl;exact⟨l,c,h1,h2⟩
def aq.mc (a:aq A H n X σ):∃l c,σ.f A.mc=some (aU aV l c)/\pg l c/\(l.map λe=>(e.1,e.2.1)).Perm (n.aF.map λe=>(e.1,pV (A.conn e.1))):=by obtain⟨o,h1,l,c,rfl,h2⟩:=a.has .mc _ rfl;exact⟨l,c,h1,h2⟩
def aq.conn (a:aq A H n X σ)(hc:n.ar id=some c):σ.f (A.conn id)=some (fi A.gw id (H.chm id) c.r):=Hl.obj a (r:=.conn id) (by simp[view,hc])
def aq.chm (a:aq A H n X σ)(hc:n.ar id=some c):∃l k,σ.f (H.chm id)=some (aU aV l k)/\pg l k/\(l.map λe=>(e.1,e.2.1)).Perm (c.ch.map λe=>((e.1:Int),pV (A.chan id e.1))):=by obtain⟨o,h1,l,k,rfl,h2⟩:=a.has (.chm id) (.oU (c.ch.map λe=>((e.1:Int),pV (A.chan id e.1)))) (by simp[view,hc]);exact⟨l,k,h1,h2⟩
def aq.chan (a:aq A H n X σ)(hh:n.h? id no=some h):σ.f (A.chan id no)=some (iu (A.conn id) no (A.un id no) (A.co id no) h.r):=Hl.obj a (r:=.chan id no) (by simp[view,hh])
def aq.un (a:aq A H n X σ)(hh:n.h? id no=some h):∃l k,σ.f (A.un id no)=some (aU aV l k)/\pg l k/\(l.map λe=>(e.1,e.2.1)).Perm (h.un.map λe=>((e.1:Int),tG (A.queue e.2.1) e.2.2)):=by obtain⟨o,h1,l,k,rfl,h2⟩:=a.has (.un id no) (.oU (h.un.map λe=>((e.1:Int),tG (A.queue e.2.1) e.2.2))) (by simp[view,hh]);exact⟨l,k,h1,h2⟩
def aq.co (a:aq A H n X σ)(hh:n.h? id no=some h):∃l k,σ.f (A.co id no)=some (aU bR l k)/\pg l k/\(l.map λe=>(e.1,e.2.1)).Perm (h.co.map λe=>(e.1,pV (A.cons e.2))):=by obtain⟨o,h1,l,k,rfl,h2⟩:=a.has (.co id no) (.xC (h.co.map λe=>(e.1,pV (A.cons e.2)))) (by simp[view,hh]);exact⟨l,k,h1,h2⟩
def aq.queue (a:aq A H n X σ)(hq:n.q? nm=some q):σ.f (A.queue nm)=some (fw nm (H.rv nm) q.held q.last (H.cv nm)):=Hl.obj a (r:=.queue nm) (by simp[view,hq])
def aq.cons (a:aq A H n X σ)(hx:n.x? k=some x):σ.f (A.cons k)=some (kJ (A.chan x.id x.no) k x.tag (A.queue x.q) x.fe):=Hl.obj a (r:=.cons k) (by simp[view,hx])
def GJ {v:Value}(h:kC v=true):v=.slice none 0 0:=by
 unfold kC at h;split at h
 ·rfl
 ·cases h
def aq.eP (a:aq A H n X σ)(hq:n.q? nm=some q):gB σ q.ready (H.rv nm):=by
 by_cases h:kC (H.rv nm)=true/\q.ready=[]
 ·rw[GJ h.1];exact .none h.2
 ·obtain⟨o,h1,b,pre,pad,cc,e1,h2,h3,rfl⟩:=a.has (.eP nm) (.eP (H.rv nm) q.ready) (by simp only[view,hq,Option.bind_some,zq,if_neg h]);have e:cD A H X (.eP nm)=b:=by simp[cD,e1,po]
  rw[e]at h1;rw[e1];exact .at b pre pad cc h2 h3 h1
def aq.hU (a:aq A H n X σ)(hq:n.q? nm=some q):Sl 186 σ (q.cons.map λk=>pV (A.cons k)) (H.cv nm):=by
 by_cases h:kC (H.cv nm)=true/\(q.cons.map λk=>pV (A.cons k))=[]
 ·rw[GJ h.1];exact .nil h.2
 ·obtain⟨o,h1,b,pad,e1,rfl⟩:=a.has (.hU nm) (.hU (H.cv nm) (q.cons.map λk=>pV (A.cons k))) (by simp only[view,hq,Option.bind_some,Cc,if_neg h]);have e:cD A H X (.hU nm)=b:=by simp[cD,e1,po]
  rw[e]at h1;rw[e1];exact .at b pad h1
def aq.ext (a:aq A H n X σ){i:Nat}{p:Nat×Obj}(hi:X[i]? =some p):σ.f p.1=some p.2:=by have:=Hl.obj a (r:=.ext i) (o:=p.2) (by simp[view,hi]);simpa[cD,hi]using this
def aq.ne (a:aq A H n X σ){r r':Ref}(h:r≠r')(h1:(view n A H X r).isSome)(h2:(view n A H X r').isSome):cD A H X r≠cD A H X r':=λe=>h (a.inj r r' h1 h2 e)
end
section
variable {r:Ref}{n:N}{no:Nat}{nm:List UInt8}{c:CN}{h:HN}{k:Int}{aJ:Int}{dw:Nat}{cY:List UInt8}{f:CN->CN}{g:HN->HN}{fr:CR->CR}{fh:HR->HR}{fq:QN->QN}
variable {id:Int}
@[simp] def qg:(n.dI id f).ar aJ=if aJ=id then(n.ar aJ).map f else n.ar aJ:=Ik _ _ _ _
@[simp] def asG:(n.dI id f).q? nm=n.q? nm:=rfl
@[simp] def as1:(n.dI id f).x? k=n.x? k:=rfl
@[simp] def yu:(n.bL nm fq).ar id=n.ar id:=rfl
@[simp] def AB:(n.bL nm fq).h? id no=n.h? id no:=rfl
@[simp] def aqn:(n.bL nm fq).x? k=n.x? k:=rfl
@[simp] def uA:(n.bL nm fq).q? cY=if cY=nm then(n.q? cY).map fq else n.q? cY:=Ik _ _ _ _
@[simp] def asI:(n.bC id fr).q? nm=n.q? nm:=rfl
@[simp] def as3:(n.bC id fr).x? k=n.x? k:=rfl
@[simp] def G8:(n.bB id no g).q? nm=n.q? nm:=rfl
@[simp] def aqm:(n.bB id no g).x? k=n.x? k:=rfl
@[simp] def qh:(n.bC id fr).ar aJ=if aJ=id then(n.ar aJ).map (λc=>{c with r:=fr c.r})else n.ar aJ:=qg
@[simp] def JD:(n.bC id fr).h? aJ no=n.h? aJ no:=by
 unfold N.h?;rw[qh];split
 ·cases n.ar aJ<;>rfl
 ·rfl
@[simp] def vc:(n.bB id no g).ar aJ=if aJ=id then(n.ar aJ).map (λc=>{c with ch:=dz c.ch no g})else n.ar aJ:=qg
@[simp] def jI:(n.bB id no g).h? aJ dw=if aJ=id/\dw=no then(n.h? aJ dw).map g else n.h? aJ dw:=by
 unfold N.h?;rw[vc];by_cases h:aJ=id
 ·simp only[h,if_true,true_and]
  cases n.ar id with
  |none=>simp
  |some c=>simp only[Option.map_some,Option.bind_some,Ik]
 ·simp only[h,if_false,false_and]
@[simp] def IE:(n.cS id no fh).ar aJ=if aJ=id then(n.ar aJ).map (λc=>{c with ch:=dz c.ch no λh=>{h with r:=fh h.r}})else n.ar aJ:=vc
@[simp] def JC:(n.cS id no fh).h? aJ dw=if aJ=id/\dw=no then(n.h? aJ dw).map (λh=>{h with r:=fh h.r})else n.h? aJ dw:=jI
@[simp] def asH:(n.cS id no fh).q? nm=n.q? nm:=rfl
@[simp] def as2:(n.cS id no fh).x? k=n.x? k:=rfl
@[simp] def asF {s:List UInt8}:(n.send id s).q? nm=n.q? nm:=rfl
@[simp] def Vk {s:List UInt8}:(n.send id s).x? k=n.x? k:=rfl
@[simp] def pE {s:List UInt8}:(n.send id s).h? aJ no=n.h? aJ no:=JD
@[simp] def rY {s:List UInt8}:(n.send id s).ar aJ=if aJ=id then(n.ar aJ).map (λc=>{c with r:={c.r with out:=c.r.out++s,gV:=n.clock}})else n.ar aJ:=qh
def CG {c:CN}{h:HN}(hh:n.h? id no=some h)(hc:n.ar id=some c):bu c.ch no=some h:=by simpa[N.h?,hc]using hh
def wZ {h:HN}(hh:n.h? id no=some h):∃c,n.ar id=some c:=by
 cases hc:n.ar id with
 |none=>simp[N.h?,hc]at hh
 |some c=>exact⟨c,rfl⟩
end
section
variable {σ:Hp}{O:Type}{r:Ref}{b:Nat}{o:Obj}{v:V}{H:Hid}{n:N}{X:Ext}{no:Nat}{nm:List UInt8}{c:CN}{h:HN}{q:QN}{k:Int}{x:XN}{f:CN->CN}{g:HN->HN}
variable {A:Lay}{id:Int}
def aq.fresh (a:aq A H n X σ){b:Nat}(hb:σ.f b=none)(o:Obj):aq A H n X (σ.set b o):=a.le (λx y hx=>by rw[Hp.az (bp hb hx)];exact hx)
def aq.anI (a:aq A H n X σ)(cl la:Int):aq A H {n with clock:=cl,last:=la} X (σ.set A.gw (eE n.cfg A.br A.mc cl la)):=
 (Hl.uE a (r:=.gw) rfl _).congr (λr=>by cases r<;>simp[view,upd,N.ar,N.h?,N.q?,N.x?]) (λ_ _=>rfl)
def aq.Ui (a:aq A H n X σ)(me bh:Int):aq A H {n with messages:=me,bh:=bh} X (σ.set A.br (gZ A.mq n.cfg.queue me bh)):=
 (Hl.uE a (r:=.br) rfl _).congr (λr=>by cases r<;>simp[view,upd,N.ar,N.h?,N.q?,N.x?]) (λ_ _=>rfl)
def aq.nv (a:aq A H n X σ)(hc:n.ar id=some c)(f:CR->CR):aq A H (n.bC id f) X (σ.set (A.conn id) (fi A.gw id (H.chm id) (f c.r))):=
 (Hl.uE a (r:=.conn id) (by simp[view,hc]) _).congr (λr=>by
  cases r
  case conn i=>by_cases e:i=id<;>simp[view,upd,e,hc]
  case chm i=>by_cases e:i=id<;>simp[view,upd,e,hc]
  case mc=>simp only[view,upd,N.bC,N.dI,reduceCtorEq,if_false];rw[ow _ _ _ λi=>(i,pV (A.conn i))]
  all_goals simp[view,upd]<;>rfl) (λ_ _=>rfl)
def Lm {α γ δ:Type}{F:α->γ}(g:γ->δ){x y:Option α}(h:x.map F=y.map F):(x.map λa=>g (F a))=y.map λa=>g (F a):=by
 have e:∀z:Option α,(z.map λa=>g (F a))=(z.map F).map g:=λz=>by cases z<;>rfl
 rw[e,e,h]
def MN {γ:Type}{f:HN->HN}(F:HN->γ)(h:∀x,n.h? id no=some x->F (f x)=F x)(i:Int)(j:Nat):((n.bB id no f).h? i j).map F=(n.h? i j).map F:=by
 rw[jI];split
 ·rename_i e;obtain⟨rfl,rfl⟩:=e
  cases hx:n.h? i j with
  |none=>rfl
  |some x=>simp[h x hx]
 ·rfl
def MM {γ:Type}{f:HN->HN}(F:HN->γ){i:Int}{j:Nat}(h:¬(i=id/\j=no)):((n.bB id no f).h? i j).map F=(n.h? i j).map F:=by rw[jI,if_neg h]
def MP {f:HN->HN}{v:V}{r0:Ref}(h1:(∀x,n.h? id no=some x->(f x).r=x.r)\/r0=.chan id no)(h2:(∀x,n.h? id no=some x->(f x).un=x.un)\/r0=.un id no)(h3:(∀x,n.h? id no=some x->(f x).co=x.co)\/r0=.co id no)
 (hv:view (n.bB id no f) A H X r0=some v):∀r,view (n.bB id no f) A H X r=upd (view n A H X) r0 (some v) r:=by
 intro r;by_cases e:r=r0
 ·subst e;simp[upd,hv]
 simp only[upd,if_neg e]
 cases r with
 |chan i j=>
  refine Lm (F:=λh:HN=>h.r) (λr=>V.obj (iu (A.conn i) j (A.un i j) (A.co i j) r)) ?_;rcases h1 with h|rfl
  ·exact MN _ h i j
  ·exact MM _ λx=>e (by rw[x.1,x.2])
 |un i j=>
  refine Lm (F:=λh:HN=>h.un) (λl=>V.oU (l.map λe=>((e.1:Int),tG (A.queue e.2.1) e.2.2))) ?_;rcases h2 with h|rfl
  ·exact MN _ h i j
  ·exact MM _ λx=>e (by rw[x.1,x.2])
 |co i j=>
  refine Lm (F:=λh:HN=>h.co) (λl=>V.xC (l.map λe=>(e.1,pV (A.cons e.2)))) ?_;rcases h3 with h|rfl
  ·exact MN _ h i j
  ·exact MM _ λx=>e (by rw[x.1,x.2])
 |mc=>simp only[view,N.bB,N.dI];rw[ow _ _ _ λi=>(i,pV (A.conn i))]
 |conn i=>
  simp only[view,vc];split
  ·cases n.ar i<;>rfl
  ·rfl
 |chm i=>
  simp only[view,vc];split
  ·cases n.ar i with
   |none=>rfl
   |some c=>simp only[Option.map_some];rw[ow _ _ _ λj:Nat=>((j:Int),pV (A.chan i j))]
  ·rfl
 |_=>rfl
def aq.setH (a:aq A H n X σ)(hh:n.h? id no=some h)(f:HN->HN)(h1:(f h).un=h.un)(h2:(f h).co=h.co):aq A H (n.bB id no f) X (σ.set (A.chan id no) (iu (A.conn id) no (A.un id no) (A.co id no) (f h).r)):=by have k:=Hl.uE a (r:=.chan id no) (by simp[view,hh]) (iu (A.conn id) no (A.un id no) (A.co id no) (f h).r);exact Hl.congr k (MP (f:=f) (.inr rfl) (.inl λx hx=>by rw[hh]at hx;cases hx;exact h1) (.inl λx hx=>by rw[hh]at hx;cases hx;exact h2) (by simp[view,hh])) (λ_ _=>rfl)
def aq.xP (a:aq A H n X σ)(hh:n.h? id no=some h)(f:HR->HR):aq A H (n.cS id no f) X (σ.set (A.chan id no) (iu (A.conn id) no (A.un id no) (A.co id no) (f h.r))):=a.setH hh (λh=>{h with r:=f h.r}) rfl rfl
def aq.Ul (a:aq A H n X σ)(hh:n.h? id no=some h)(f:HN->HN)(h1:(f h).r=h.r)(h2:(f h).co=h.co)(ho:oo (.oU ((f h).un.map λe=>((e.1:Int),tG (A.queue e.2.1) e.2.2))) o):
 aq A H (n.bB id no f) X (σ.set (A.un id no) o):=by
 have k:=Hl.set a (r:=.un id no) (by simp[view,hh]) ho;exact Hl.congr k (MP (f:=f) (.inl λx hx=>by rw[hh]at hx;cases hx;exact h1) (.inr rfl) (.inl λx hx=>by rw[hh]at hx;cases hx;exact h2) (by simp[view,hh])) (λ_ _=>rfl)
def aq.Md (a:aq A H n X σ)(hh:n.h? id no=some h)(f:HN->HN)(h1:(f h).r=h.r)(h2:(f h).un=h.un)(ho:oo (.xC ((f h).co.map λe=>(e.1,pV (A.cons e.2)))) o):
 aq A H (n.bB id no f) X (σ.set (A.co id no) o):=by
 have k:=Hl.set a (r:=.co id no) (by simp[view,hh]) ho;exact Hl.congr k (MP (f:=f) (.inl λx hx=>by rw[hh]at hx;cases hx;exact h1) (.inl λx hx=>by rw[hh]at hx;cases hx;exact h2) (.inr rfl) (by simp[view,hh])) (λ_ _=>rfl)
def aq.Hj (a:aq A H n X σ)(hq:n.q? nm=some q)(f:QN->QN)(h1:(f q).ready=q.ready)(h2:(f q).cons=q.cons):aq A H (n.bL nm f) X (σ.set (A.queue nm) (fw nm (H.rv nm) (f q).held (f q).last (H.cv nm))):=
 (Hl.uE a (r:=.queue nm) (by simp[view,hq]) _).congr (λr=>by
  cases r
  case queue i=>by_cases e:i=nm<;>simp[view,upd,e,hq]
  case eP i=>by_cases e:i=nm<;>simp[view,upd,e,hq,h1]
  case hU i=>by_cases e:i=nm<;>simp[view,upd,e,hq,h2]
  case mq=>simp only[view,upd,N.bL,reduceCtorEq,if_false];rw[ow _ _ _ λi=>(i,pV (A.queue i))]
  all_goals simp[view,upd]<;>rfl) (λ_ _=>rfl)
def aq.jH (a:aq A H n X σ):σ.f A.gw=some (.cells [iV n.cfg.jc,iV n.cfg.frame,iV n.cfg.gh,iV n.cfg.queue,iV n.cfg.body,pV A.br,iV n.clock,iV n.last,.map (some A.mc)].toArray 74 (0,0)):=a.gw
def aq.tp (a:aq A H n X σ):σ.f A.br=some (.cells [.map (some A.mq),iV n.cfg.queue,iV n.messages,iV n.bh].toArray 116 (0,0)):=a.br
def aq.eu (a:aq A H n X σ)(hc:n.ar id=some c):σ.f (A.conn id)=some (.cells [pV A.gw,iV id,iV c.r.ph,sV c.r.rest,.bool c.r.kx,.map (some (H.chm id)),iV c.r.dg,iV c.r.frame,iV c.r.gh,iV c.r.gV,iV c.r.recv,sV c.r.out].toArray 90 (0,0)):=a.conn hc
def aq.bW (a:aq A H n X σ)(hh:n.h? id no=some h):σ.f (A.chan id no)=some (.cells [pV (A.conn id),iV no,.bool h.r.closing,iV h.r.ng,iV h.r.tag,.map (some (A.un id no)),.map (some (A.co id no)),iV h.r.want,sV h.r.key,sV h.r.body,iV h.r.size].toArray 276 (0,0)):=a.chan hh
def aq.sY (a:aq A H n X σ)(hq:n.q? nm=some q):σ.f (A.queue nm)=some (.cells [sV nm,H.rv nm,iV q.held,iV q.last,H.cv nm].toArray 81 (0,0)):=a.queue hq
def aq.ve (a:aq A H n X σ)(hx:n.x? k=some x):σ.f (A.cons k)=some (.cells [.iface 185 (pV (A.chan x.id x.no)),iV k,sV x.tag,pV (A.queue x.q),.bool x.fe].toArray 191 (0,0)):=a.cons hx
def aq.eC {p:Nat×Obj}(a:aq A H n (p::X) σ):σ.f p.1=some p.2:=a.ext (i:=0) rfl
def aq.ext1 {p q:Nat×Obj}(a:aq A H n (q::p::X) σ):σ.f p.1=some p.2:=a.ext (i:=1) rfl
def Im {α O:Type}[DecidableEq α](l:List (α×O))(k:α)(f g:O->O):dz (dz l k f) k g=dz l k λx=>g (f x):=by unfold dz;rw[List.map_map];apply List.map_congr_left;intro e _;simp only[Function.comp];by_cases h:e.1=k<;>simp[h]
def EH (f g:QN->QN):(n.bL nm f).bL nm g=n.bL nm λq=>g (f q):=by simp only[N.bL,Im]
def apH:n.bL nm (λq=>q)=n:=by
 have:dz n.aN nm (λq=>q)=n.aN:=by unfold dz;conv=>rhs;rw[<-List.map_id n.aN]
                                  exact List.map_congr_left λe _=>al
 simp only[N.bL,this]
def ML (f g:CN->CN):(n.dI id f).dI id g=n.dI id λc=>g (f c):=by simp only[N.dI,Im]
def MO (f g:HN->HN):(n.bB id no f).bB id no g=n.bB id no λh=>g (f h):=by simp only[N.bB,ML,Im]
end
end Go.Qw
