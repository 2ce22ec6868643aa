/- 21 -/
import Derived.Lib.Props
import Derived.Test.YtpiabknabfbfhaaGreatDoorFramed20
set_option linter.all false
set_option maxRecDepth 100000
set_option maxHeartbeats 8000000
namespace Go.Qw
open Go Go.Conc Go.Proofs Go.Proofs.Tryz
def kR(h:Nat)(no:Int)(tag:List UInt8)(q:Nat)(fp:Bool):Obj:=.cells [.iface 185 (pV h),iV no,sV tag,pV q,.bool fp].toArray 191 (0,0)
def Ph:oC prog 79 where
 e:=186
 z:=1
 zero:=#[.pointer none]
 bytes:=8
 hu:=ah
 hi:=⟨t186,.pointer none,ah,ah,ah,rfl,ah⟩
variable {E:Env prog}{U:Hp}{h q:Nat}{held last:Int}{name:List UInt8}{rv cv:Value}
def aap{bb mq cb:Nat}{dm messages aY Td:Int}{tag:List UInt8}{fp:Bool}{cs:List Nat}(hb:U.f bb=some (ij mq dm messages aY))(hc:U.f cb=some (kR h Td tag q fp))(hq:U.f q=some (fy name rv held last cv))(hv:Sl 186 U (cs.map pV) cv)(hn:cs.length<=1000)(b1:0<=aY/\aY<=1000000000000):
 aw E 290 #[pV bb,pV cb] U λe R=>e=.returned (.tuple #[])/\∃a pad,(U.f a=none\/∃c,cv=.slice (some ⟨a,0,none⟩) cs.length c)/\
  ((((U.set bb (ij mq dm messages (aY+1))).set cb (kR h (aY+1) tag q fp)).set a (.cells (cs.map pV++[pV cb]++pad).toArray 186 (0,0))).set q (fy name rv held last (.slice (some ⟨a,0,none⟩) (cs.length+1) (cs.length+1+pad.length)))).le R:=by
 refine aX func290 ntmps290 results290 λQ aB al az=>?_;have D9:¬cb=bb:=bh hc hb (by simp[ij,kR]);have LA:¬q=bb:=bh hq hb (by simp[ij,fy]);have Eb:¬q=cb:=bh hq hc (by simp[kR,fy]);have cD:=hb;have cF:=hc;have bu:=hq;simp only[ij]at cD;simp only[kR]at cF;simp only[fy]at bu;have w1:IntKind.i64.wrap (aY+1)=aY+1:=wrap64 aa aa;have bc:∀o,(U.set bb o).f cb=_:=λo=>(Hp.ay D9).trans cF;have OI:∀o p,((U.set bb o).set cb p).f q=_:=λo p=>(Hp.ay Eb).trans ((Hp.ay LA).trans bu);refine bR cD w1 bc ?_;refine bJ 17 ?_;refine aH OI ?_;have eb:(Obj.cells (([.map (some mq),iV dm,iV messages,iV aY]:List Value).set 3 (.int .i64 (aY+1))).toArray 116)=ij mq dm messages (aY+1):=rfl;have ec:(Obj.cells (([.iface 185 (pV h),iV Td,sV tag,pV q,.bool fp]:List Value).set 1 (.int .i64 (aY+1))).toArray 191)=kR h (aY+1) tag q fp:=rfl;rw[eb,ec];obtain⟨ja,sU⟩:∃ja,ja=(U.set bb (ij mq dm messages (aY+1))).set cb (kR h (aY+1) tag q fp):=⟨_,rfl⟩;have gB:ja.f q=some (.cells [sV name,rv,iV held,iV last,cv].toArray 81 (0,0)):=by rw[sU];exact OI _ _
 have dU:ja.f cb=some (.cells [.iface 185 (pV h),iV (aY+1),sV tag,pV q,.bool fp].toArray 191 (0,0)):=by rw[sU];exact Hp.bD _ _
 have lP:Sl 186 ja (cs.map pV) cv:=by
  cases hv with
  |nil h=>exact .nil h
  |«at»a pad ha=>
   refine .at a pad ?_;have n1:¬a=bb:=bh ha hb (by simp[ij]);have n2:¬a=cb:=bh ha hc (by simp[kR]);rw[sU,Hp.ay n2,Hp.ay n1];exact ha
 rw[<-sU];refineλbn cE=>?_;have LQ:¬q=bn:=bh cE gB;have Dv:∀x,(ja.set bn x).f q=some (.cells [sV name,rv,iV held,iV last,cv].toArray 81 (0,0)):=λx=>(Hp.ay LQ).trans gB;have kr:∀x,ja.le (ja.set bn x):=λx y p h=>by rw[Hp.ay (bh cE h)];exact h
 have mg:=λx=>kr x _ _ dU;refine⟨iP Dv mg,?_⟩;refine ag ?_
 have hvn:∀x,Sl 186 (ja.set bn x) (cs.map pV) cv:=λx=>by
  cases lP with
  |nil h=>exact .nil h
  |«at»a pad ha=>exact .at a pad (kr x _ _ ha)
 refine app1 Ph rfl an (z0:=.pointer none) rfl ah (xs:=cs.map pV) (v0:=cv) (w:=pV cb) (bn:=bn) (hvn _) ?_ ?_ aT rfl (by simpa using(by omega:cs.length<=1000000)) ?_
 ·exact au
 ·exact au
 intro a pad ha
 have gp:¬a=bn/\(ja.f a=none\/∃c,cv=.slice (some ⟨a,0,none⟩) cs.length c/\∃z,ja.f a=some (.cells z 186 (0,0))):=by
  rcases ha with ha|⟨c,e1⟩
  ·have n1:¬a=bn:=bh ha aT;exact⟨n1,.inl ((Hp.ay n1).symm.trans ha)⟩
  ·have h1:∃z,ja.f a=some (.cells z 186 (0,0)):=by
    rw[e1]at lP
    cases lP with
    |«at»_ pad h3=>exact⟨_,h3⟩
   obtain⟨z,hz⟩:=h1;exact⟨(bh cE hz),.inr ⟨c,by simpa using e1,z,hz⟩⟩
 have LO:¬q=a:=λe=>by
  subst e;rcases gp.2 with h|⟨_,_,_,h⟩
  ·rw[gB]at h;cases h
  ·rw[gB]at h;simp at h
 have Dt:∀x y,((ja.set bn x).set a y).f q=some (.cells [sV name,rv,iV held,iV last,cv].toArray 81 (0,0)):=λx y=>(Hp.ay LO).trans (Dv x)
 have G0:¬cb=a:=λe=>by
  subst e;rcases gp.2 with h|⟨_,_,_,h⟩
  ·rw[dU]at h;cases h
  ·rw[dU]at h;simp at h
 have QK:∀x y,((ja.set bn x).set a y).f cb=some (.cells [.iface 185 (pV h),iV (aY+1),sV tag,pV q,.bool fp].toArray 191 (0,0)):=λx y=>(Hp.ay G0).trans (mg x);refine⟨dL QK,?_⟩;refine aH Dt ?_;have hcq:∀x y z,(((ja.set bn x).set a y).set q z).f cb=some (.cells [.iface 185 (pV h),iV (aY+1),sV tag,pV q,.bool fp].toArray 191 (0,0)):=λx y z=>(Hp.ay (λe=>Eb e.symm)).trans (QK x y);refine⟨dL hcq,?_⟩
 have fe:U.f a=none\/∃c,cv=.slice (some ⟨a,0,none⟩) cs.length c:=by
  rcases gp.2 with h|⟨c,e1,_⟩
  ·left;have n1:¬a=cb:=λe=>G0 e.symm;have n2:¬a=bb:=λe=>by subst e;rw[sU,Hp.ay n1,Hp.bD]at h;cases h
   rw[sU,Hp.ay n1,Hp.ay n2]at h;exact h
  ·exact .inr ⟨c,e1⟩
 refine aB dB ao ⟨rfl,a,pad,fe,?_⟩;rw[List.length_map,<-sU];exact gG (gG (kr _) _ _) _ _
def Sl.block{ety:TypeId}{xs:List Value}{a n c:Nat}(h:Sl ety U xs (.slice (some ⟨a,0,none⟩) n c)):∃z,U.f a=some (.cells z ety (0,0)):=by
 generalize hv:Value.slice (some ⟨a,0,none⟩) n c=v at h
 cases h with
 |nil h=>cases hv
 |«at»b pad hb=>
  simp only[Value.slice.injEq,Option.some.injEq,Addr.mk.injEq]at hv;obtain⟨⟨rfl,_,_⟩,_,_⟩:=hv;exact⟨_,hb⟩
def HR.free(hr:HR)(n:Nat):Bool:=decide (hr.nz=0)||decide ((n:Int)<hr.nz)
structure gP where
 cb:Nat
 h:Nat
 no:Int
 tag:List UInt8
 fp:Bool
 free:Bool
def VD(U:Hp)(q:Nat)(x:gP):Prop:=U.f x.cb=some (kR x.h x.no x.tag q x.fp)/\∃c un co k no hr l,U.f x.h=some (ix c no un co hr)/\U.f un=some (aU aW l k)/\x.free=hr.free l.length
def gP.may(x:gP):Bool:=x.fp||x.free
def BF(xs:List gP)(last:Int):Option gP:=((xs.filter gP.may).find? λx=>decide (x.no>last)).or (xs.filter gP.may).head?
def qQ:Option gP->Value
 |some x=>pV x.cb
 |none=>.pointer none
def aiI{P:Program}{p:Prop}{k:Value->Prop}{t:TypeId}{m:Option Nat}:om P p k t (.map m)=p:=by
 unfold om
 cases xC P t (.map m)<;>rfl
def ab9{c un co k:Nat}{no:Int}{hr:HR}{l:List (Int×Value×Nat)}(hh:U.f h=some (ix c no un co hr))(hu:U.f un=some (aU aW l k)):
 aw E 327 #[pV h] U λe R=>e=.returned (.bool (hr.free l.length))/\R=U:=by
 refine eY func327 ntmps327 results327 rfl ak λQ aB al az=>?_;simp only[ix,HR.vals]at hh;refine ag ?_;refine Al [0,1,2,3,4,5,6,7,8,9,11,12,13,14,10,15,16,17] ?_;by_cases h0:hr.nz=0
 ·refine bq hh h0 ?_;exact al aG ao ⟨by simp[up,HR.free,h0],rfl⟩
 ·refine bq hh h0 ?_;rw[aiI];refine GW A8 ?_ hu ?_
  ·exact au
  refine⟨dL hh,?_⟩;refine ag ?_;refine al aG ao ⟨?_,rfl⟩;simp[up,HR.free,h0]
def ajb{Q:FuncId×Value->Hp->Prop}{H:Halt->Hp->Prop}:wpS prog (method (prog.types.size+Made.depth) 185 (pV h) "Free") Q H U=Q (327,pV h) U:=ah
def UY{ys:List gP}(h:∀x∈ys,x.may=true->¬x.no>last){zs:List gP}:BF (ys++zs) last=((zs.filter gP.may).find? λx=>decide (x.no>last)).or ((ys++zs).filter gP.may).head?:=by
 unfold BF;rw[List.filter_append,List.find?_append]
 have:(ys.filter gP.may).find? (λx=>decide (x.no>last))=none:=by rw[List.find?_eq_none];intro x hx;obtain⟨h1,h2⟩:=List.mem_filter.1 hx;simpa using h x h1 h2
 rw[this,Option.none_or]
def apG{xs:List gP}(hq:U.f q=some (fy name rv held last cv))(hv:Sl 186 U (xs.map λx=>pV x.cb) cv)(hx:∀x∈xs,VD U q x)(hn:xs.length<=1000):
 aw E 89 #[pV q] U λe R=>e=.returned (qQ (BF xs last))/\R=U:=by
 refine eY func89 ntmps89 results89 rfl ak λQ aB al az=>?_;obtain⟨base,cap,rfl,aeN⟩:=hv.read;have bu:=hq;simp only[fy]at bu;refine aH bu ?_
 refine cZ (λmm I ds ae=>ds=[]/\ae=U/\I 0=pV q/\I 9=.slice base xs.length cap/\I 10=iV xs.length/\
  ∃i:Nat,i+mm=xs.length/\I 11=iV i/\I 3=qQ ((xs.take i).filter gP.may).head?/\∀x∈xs.take i,x.may=true->¬x.no>last) xs.length ?_ ?_
 ·refine⟨rfl,rfl,?_,?_,?_,0,aa,?_,?_,ak⟩<;>exact au
  all_goals rfl
 ·rintro mm I ds ae X ⟨rfl,rfl,r0,r9,zu,i,AP,zw,r3,eV⟩ hX
  cases mm with
  |zero=>
   have c0:¬(i:Int)<xs.length:=aa;refine fA zu zw c0 r3 ?_;have ht:xs.take i=xs:=List.take_of_length_le aa;rw[ht]at eV;have e:=UY eV (zs:=[]);simp only[List.append_nil,List.filter_nil,List.find?_nil,Option.none_or]at e;refine al aG ao ⟨?_,rfl⟩;rw[e,ht];simp[up]
  |succ mm=>
   have c0:(i:Int)<xs.length:=aa;have hi:i<xs.length:=aa;obtain⟨a,L,CS,ha,hL⟩:=aeN i hi;subst CS;obtain⟨QW,c,un,co,k,no,hr,l,Q8,vL,J9⟩:=hx xs[i] (List.getElem_mem hi);obtain⟨x,xx⟩:∃x,x=xs[i]:=⟨_,rfl⟩;rw[<-xx]at QW Q8 J9;have vA:=QW;simp only[kR]at vA;have FJ:L[i]? =some (pV x.cb):=by rw[xx];simpa using hL
   have wi:=fM i;have vJ:xs.take (i+1)=xs.take i++[x]:=by rw[List.take_succ_eq_append_getElem hi,xx]
   refine fA zu zw c0 r9 ?_;refine⟨aa,?_⟩
   have Pr:x.may=true->x.no>last->BF xs last=some x:=λh1 h2=>by
    have e1:xs=xs.take i++(x::xs.drop (i+1)):=by rw[xx,<-List.drop_eq_getElem_cons hi,List.take_append_drop]
    have e2:=UY eV (zs:=x::xs.drop (i+1));rw[<-e1]at e2;rw[e2,List.filter_cons_of_pos h1,List.find?_cons_of_pos (aV h2),Option.some_or]
   cases y0:x.fp with
   |true=>
    have xo:x.may=true:=by simp[gP.may,y0]
    simp only[go_sem,seval,ha,FJ,Nat.mul_one,Nat.zero_add,Int.toNat_natCast,vA,y0,Bool.not_true];refine bJ 9 ?_;by_cases mi:x.no>last
    ·simp only[go_sem,seval,r0,bu,vA,mi];refine al aG ao ⟨?_,rfl⟩;rw[Pr xo mi];simp[up,qQ]
    ·have y8:∀z∈xs.take (i+1),z.may=true->¬z.no>last:=λz hz hm=>by
      rw[vJ,List.mem_append,List.mem_singleton]at hz;rcases hz with hz|rfl
      ·exact eV z hz hm
      ·exact mi
     have kW:((xs.take (i+1)).filter gP.may).head?=((xs.take i).filter gP.may).head?.or (some x):=by rw[vJ,List.filter_append,List.head?_append];simp[xo]
     cases C7:((xs.take i).filter gP.may).head? with
     |none=>
      rw[C7]at r3 kW;simp only[qQ]at r3;simp only[go_sem,seval,r0,bu,vA,mi,r3,zw,wi];refine hX mm _ _ _ _ aa ⟨rfl,rfl,?_,?_,?_,i+1,aa,?_,?_,y8⟩ ao
      all_goals simp only[go_sem,seval,r0,r9,zu,kW,qQ,Option.none_or]
     |some y=>
      rw[C7]at r3 kW;simp only[qQ]at r3;simp only[go_sem,seval,r0,bu,vA,mi,r3,zw,wi];refine hX mm _ _ _ _ aa ⟨rfl,rfl,?_,?_,?_,i+1,aa,?_,?_,y8⟩ ao
      all_goals simp only[go_sem,seval,r0,r9,zu,r3,kW,qQ,Option.some_or]
   |false=>
    simp only[go_sem,seval,ha,FJ,Nat.mul_one,Nat.zero_add,Int.toNat_natCast,vA,y0,Bool.not_false];refine jy (t:=185) (v:=pV x.h) (recv:=pV x.h) (f:=327) (name:= "Free") ?_ (λQ H h=>by rw[ajb];exact h) ?_
    ·exact au
    refine ag ?_;refine bz (ab9 Q8 vL) ?_
    cases gU:x.free with
    |false=>
     have AL:hr.free l.length=false:=by rw[<-J9,gU]
     have xo:x.may=false:=by simp[gP.may,y0,gU]
     simp only[go_sem,seval,AL,Bool.not_false,zw,wi]
     have y8:∀z∈xs.take (i+1),z.may=true->¬z.no>last:=λz hz hm=>by
      rw[vJ,List.mem_append,List.mem_singleton]at hz;rcases hz with hz|rfl
      ·exact eV z hz hm
      ·rw[xo]at hm;cases hm
     have kW:((xs.take (i+1)).filter gP.may).head?=((xs.take i).filter gP.may).head?:=by rw[vJ,List.filter_append];simp[xo]
     refine hX mm _ _ _ _ aa ⟨rfl,rfl,?_,?_,?_,i+1,aa,?_,?_,y8⟩ ao
     all_goals simp only[go_sem,seval,r0,r9,zu,r3,kW]
    |true=>
     have AL:hr.free l.length=true:=by rw[<-J9,gU]
     have xo:x.may=true:=by simp[gP.may,y0,gU]
     simp only[go_sem,seval,AL,Bool.not_true];refine bJ 9 ?_;by_cases mi:x.no>last
     ·simp only[go_sem,seval,r0,bu,vA,mi];refine al aG ao ⟨?_,rfl⟩;rw[Pr xo mi];simp[up,qQ]
     ·have y8:∀z∈xs.take (i+1),z.may=true->¬z.no>last:=λz hz hm=>by
       rw[vJ,List.mem_append,List.mem_singleton]at hz;rcases hz with hz|rfl
       ·exact eV z hz hm
       ·exact mi
      have kW:((xs.take (i+1)).filter gP.may).head?=((xs.take i).filter gP.may).head?.or (some x):=by rw[vJ,List.filter_append,List.head?_append];simp[xo]
      cases C7:((xs.take i).filter gP.may).head? with
      |none=>
       rw[C7]at r3 kW;simp only[qQ]at r3;simp only[go_sem,seval,r0,bu,vA,mi,r3,zw,wi];refine hX mm _ _ _ _ aa ⟨rfl,rfl,?_,?_,?_,i+1,aa,?_,?_,y8⟩ ao
       all_goals simp only[go_sem,seval,r0,r9,zu,kW,qQ,Option.none_or]
      |some y=>
       rw[C7]at r3 kW;simp only[qQ]at r3;simp only[go_sem,seval,r0,bu,vA,mi,r3,zw,wi];refine hX mm _ _ _ _ aa ⟨rfl,rfl,?_,?_,?_,i+1,aa,?_,?_,y8⟩ ao
       all_goals simp only[go_sem,seval,r0,r9,zu,r3,kW,qQ,Option.some_or]
section
variable {β:Type}
variable {α:Type}[DecidableEq α]
def bw (l:List (α×β))(k:α):Option β:=(l.find? λe=>decide (e.1=k)).map (·.2)
def dw (l:List (α×β))(k:α)(f:β->β):List (α×β):=l.map λe=>if e.1=k then(e.1,f e.2)else e
def cH (l:List (α×β))(k:α):List (α×β):=l.filter λe=>decide (e.1≠k)
def cJ (lt:α->α->Bool):List (α×β)->α->β->List (α×β)
 |[],k,v=>[(k,v)]
 |e::l,k,v=>if lt k e.1 then(k,v)::e::l else e::cJ lt l k v
end
structure QN where
 ready:List aQ
 held:Int
 last:Int
 cons:List Int
structure HN where
 r:HR
 un:List (Nat×(List UInt8×aQ))
 co:List (List UInt8×Int)
structure CN where
 r:CR
 ch:List (Nat×HN)
structure XN where
 id:Int
 no:Nat
 tag:List UInt8
 q:List UInt8
 fp:Bool
structure N where
 cfg:jZ
 clock:Int
 last:Int
 messages:Int
 aY:Int
 aD:List (Int×CN)
 aL:List (List UInt8×QN)
 xs:List (Int×XN)
def N.ar(n:N)(id:Int):Option CN:=bw n.aD id
def N.h?(n:N)(id:Int)(no:Nat):Option HN:=(n.ar id).bind λc=>bw c.ch no
def N.q?(n:N)(nm:List UInt8):Option QN:=bw n.aL nm
def N.x?(n:N)(k:Int):Option XN:=bw n.xs k
def N.dn(n:N)(id:Int)(f:CN->CN):N:={n with aD:=dw n.aD id f}
def N.bC(n:N)(id:Int)(f:CR->CR):N:=n.dn id λc=>{c with r:=f c.r}
def N.bA(n:N)(id:Int)(no:Nat)(f:HN->HN):N:=n.dn id λc=>{c with ch:=dw c.ch no f}
def N.cf(n:N)(id:Int)(no:Nat)(f:HR->HR):N:=n.bA id no λh=>{h with r:=f h.r}
def N.bF(n:N)(nm:List UInt8)(f:QN->QN):N:={n with aL:=dw n.aL nm f}
def N.ph (n:N)(id:Int):Int:=((n.ar id).map (·.r.ph)).getD 5
def N.send(n:N)(id:Int)(s:List UInt8):N:=n.bC id λr=>{r with out:=r.out++s,ib:=n.clock}
def N.may(n:N)(k:Int):Bool:=match n.x? k with
 |some x=>x.fp||(match n.h? x.id x.no with|some h=>h.r.free h.un.length|none=>false)
 |none=>false
def N.uS(n:N)(q:QN):Option Int:=((q.cons.filter n.may).find? λk=>decide (k>q.last)).or (q.cons.filter n.may).head?
def N.hand(n:N)(id:Int)(no:Nat)(nm:List UInt8)(m:aQ)(fp:Bool):N:=
 if fp then n.cf id no λr=>{r with tag:=r.tag+1}
 else(n.bA id no λh=>{h with r:={h.r with tag:=h.r.tag+1},un:=h.un++[((h.r.tag+1).toNat,(nm,m))]}).bF nm λq=>{q with held:=q.held+1}
def N.tag (n:N)(id:Int)(no:Nat):Nat:=(((n.h? id no).map λ(h:HN)=>h.r.tag).getD 0).toNat
def N.frame (n:N)(id:Int):Nat:=(((n.ar id).map λ(c:CN)=>c.r.frame).getD 0).toNat
def N.give(n:N)(id:Int)(no:Nat)(m:aQ)(s:List UInt8):N:=(n.send id s).send id (lI no m.body (n.frame id))
def N.take(n:N)(k:Int)(m:aQ):N:=match n.x? k with
 |none=>n
 |some x=>(n.hand x.id x.no x.q m x.fp).give x.id x.no m (cg x.no 60 60 [.text x.tag,.ng (n.tag x.id x.no+1),.flag m.again,.text m.key])
def N.gN(n:N)(nm:List UInt8):Option N:=match n.q? nm with
 |none=>none
 |some q=>match q.ready with
  |[]=>none
  |m::_=>match n.uS q with
   |none=>none
   |some k=>some ((n.bF nm λq=>{q with ready:=q.ready.tail,last:=k}).take k m)
def N.iX:Nat->N->List UInt8->N
 |0,n,_=>n
 |f+1,n,nm=>match n.gN nm with
  |none=>n
  |some n'=>iX f n' nm
def N.ready (n:N)(nm:List UInt8):Nat:=((n.q? nm).map (·.ready.length)).getD 0
def N.serve(n:N):N:=(n.aL.map (·.1)).foldl (λn nm=>n.iX (n.ready nm) nm) n
def iR(ms:List aQ)(m:aQ):List aQ:=ms.takeWhile (λx=>decide (x.seq<m.seq))++{m with again:=true}::ms.dropWhile (λx=>decide (x.seq<m.seq))
def N.settle(n:N)(id:Int)(no:Nat)(tag:Nat)(back:Bool):N:=match(n.h? id no).bind λh=>bw h.un tag with
 |none=>n
 |some (nm,m)=>(n.bA id no λh=>{h with un:=cH h.un tag}).bF nm λq=>{q with held:=q.held-1,ready:=if back then iR q.ready m else q.ready}
def N.cancel(n:N)(k:Int):N:=match n.x? k with
 |none=>n
 |some x=>{n.bF x.q λq=>{q with cons:=q.cons.filter λj=>decide (j≠k)}with xs:=cH n.xs k}
def N.release(n:N)(id:Int)(no:Nat):N:=match n.h? id no with
 |none=>n
 |some h=>h.un.foldl (λn e=>n.settle id no e.1 true) ((h.co.foldl (λn e=>n.cancel e.2) n).bA id no λh=>{h with co:=[]})
def N.leave(n:N)(id:Int):N:=match n.ar id with
 |none=>n
 |some c=>(c.ch.foldl (λn e=>n.release id e.1) n).dn id λc=>{c with ch:=[]}
def N.lJ(n:N)(id:Int)(no:Nat):N:=(n.release id no).dn id λc=>{c with ch:=cH c.ch no}
def oN(e cl me:Nat):List Arg:=[.short e,.text [],.short cl,.short me]
def N.soft(n:N)(id:Int)(no:Nat)(e cl me:Nat):N:=((n.release id no).cf id no λr=>{r with closing:=true}).send id (cg no 20 40 (oN e cl me))
def N.cA(n:N)(id:Int)(e cl me:Nat):N:=((n.leave id).bC id λr=>{r with ph:=4}).send id (cg 0 10 50 (oN e cl me))
inductive Er where
 |nil
 |soft (e cl me:Nat)
 |cA (e cl me:Nat)
inductive HO where
 |ok (n:N) (er:Er)
 |bad (cl me:Nat)
def okB(b:UInt8):Bool:=let n:=b.toNat
 (decide (97<=n)&&decide (n<=122))||(decide (65<=n)&&decide (n<=90))||(decide (48<=n)&&decide (n<=57))||decide (n=46)||decide (n=95)||decide (n=45)
def named(s:List UInt8):Bool:=decide (s≠[])&&decide (s.length<=16)&&s.all okB
def N.declare(n:N)(id:Int)(no:Nat)(s:List UInt8)(cl me:Nat):HO:=match jm s with
 |some (nm,[])=>match n.q? nm with
  |some q=>.ok (n.send id (cg no 50 11 [.text nm,.long q.ready.length,.long q.cons.length])) .nil
  |none=>if named nm=false then .ok n (.cA 502 cl me)else if n.aL.length=8 then .ok n (.soft 506 cl me)
   else .ok (({n with aL:=cJ cN n.aL nm ⟨[],0,0,[]⟩}:N).send id (cg no 50 11 [.text nm,.long 0,.long 0])) .nil
 |_=>.bad cl me
def N.lU(n:N)(id:Int)(no:Nat)(s:List UInt8)(cl me:Nat):HO:=match jm s with
 |some (nm,[])=>match n.q? nm with
  |some q=>.ok ((n.bF nm λq=>{q with ready:=[]}).send id (cg no 50 31 [.long q.ready.length])) .nil
  |none=>.ok n (.soft 404 cl me)
 |_=>.bad cl me
def N.ow(n:N)(id:Int)(no:Nat)(s:List UInt8)(cl me:Nat):HO:=match eP 2 s with
 |some (k,[])=>.ok ((n.cf id no λr=>{r with nz:=k}).send id (cg no 60 11 [])) .nil
 |_=>.bad cl me
def N.jr(n:N)(id:Int)(no:Nat)(nm tg:List UInt8)(na:Bool):N:=
 (({n with aY:=n.aY+1,xs:=n.xs++[(n.aY+1,⟨id,no,tg,nm,na⟩)]}:N).bF nm λq=>{q with cons:=q.cons++[n.aY+1]}).bA id no λh=>{h with co:=cJ cN h.co tg (n.aY+1)}
def N.consume(n:N)(id:Int)(no:Nat)(h:HN)(s:List UInt8)(cl me:Nat):HO:=match jm s with
 |some (nm,s1)=>match jm s1 with
  |some (tg,s2)=>match zr s2 with
   |some (na,[])=>if tg.length<1\/tg.length>8 then .ok n (.cA 502 cl me)else match n.q? nm with
    |none=>.ok n (.soft 404 cl me)
    |some _=>if(bw h.co tg).isSome then .ok n (.cA 530 cl me)else if h.co.length=4 then .ok n (.soft 506 cl me)
     else .ok ((n.jr id no nm tg na).send id (cg no 60 21 [.text tg])) .nil
   |_=>.bad cl me
  |_=>.bad cl me
 |_=>.bad cl me
def N.nJ(n:N)(id:Int)(no:Nat)(h:HN)(tg:List UInt8):N:=match bw h.co tg with
 |some k=>(n.cancel k).bA id no λh=>{h with co:=cH h.co tg}
 |none=>n
def N.mH(n:N)(id:Int)(no:Nat)(h:HN)(s:List UInt8)(cl me:Nat):HO:=match jm s with
 |some (tg,[])=>.ok ((n.nJ id no h tg).send id (cg no 60 31 [.text tg])) .nil
 |_=>.bad cl me
def N.ov(n:N)(id:Int)(no:Nat)(s:List UInt8)(cl me:Nat):HO:=match jm s with
 |some (key,[])=>.ok (n.cf id no λr=>{r with key:=key,want:=2}) .nil
 |_=>.bad cl me
def N.get(n:N)(id:Int)(no:Nat)(s:List UInt8)(cl me:Nat):HO:=match jm s with
 |some (nm,s1)=>match zr s1 with
  |some (na,[])=>match n.q? nm with
   |none=>.ok n (.soft 404 cl me)
   |some q=>match q.ready with
    |[]=>.ok (n.send id (cg no 60 72 [])) .nil
    |m::ms=>.ok (((n.bF nm λq=>{q with ready:=q.ready.tail}).hand id no nm m na).give id no m (cg no 60 71 [.ng (n.tag id no+1),.flag m.again,.text m.key,.long ms.length])) .nil
  |_=>.bad cl me
 |_=>.bad cl me
def N.jD(n:N)(id:Int)(no:Nat)(p:Nat->Bool)(back:Bool)(l:List (Nat×(List UInt8×aQ))):N:=l.foldl (λn e=>if p e.1 then n.settle id no e.1 back else n) n
def N.settled(n:N)(id:Int)(no:Nat)(h:HN)(s:List UInt8)(cl me:Nat):HO:=match eP 4 s with
 |some (high,s1)=>match eP 4 s1 with
  |some (tag,s2)=>match zr s2 with
   |some (flag,[])=>
    if(decide (high=0)&&(bw h.un tag).isSome)||(decide (me=80)&&flag&&decide (high=0)&&decide (tag=0))then
     .ok (n.jD id no (λt=>decide (t=tag)||(decide (me=80)&&flag&&(decide (t<tag)||decide (tag=0)))) (decide (me≠80)&&flag) h.un) .nil
    else .ok n (.soft 406 cl me)
   |_=>.bad cl me
  |_=>.bad cl me
 |_=>.bad cl me
def te(s:List UInt8):Option (List UInt8):=match eP 2 s with
 |some (_,s1)=>match jm s1 with
  |some (_,s2)=>match eP 4 s2 with
   |some (_,s3)=>some s3
   |none=>none
  |none=>none
 |none=>none
def N.close(n:N)(id:Int)(no:Nat)(s:List UInt8)(cl me:Nat):HO:=match te s with
 |some []=>.ok ((n.send id (cg no 20 41 [])).lJ id no) .nil
 |_=>.bad cl me
def N.method(n:N)(id:Int)(no:Nat)(h:HN)(s:List UInt8)(cl me:Nat):HO:=
 if cl=20/\me=10 then .ok n (.cA 504 cl me)
 else if cl=20/\me=40 then n.close id no s cl me
 else if cl=50/\me=10 then n.declare id no s cl me
 else if cl=50/\me=30 then n.lU id no s cl me
 else if cl=60/\me=10 then n.ow id no s cl me
 else if cl=60/\me=20 then n.consume id no h s cl me
 else if cl=60/\me=30 then n.mH id no h s cl me
 else if cl=60/\me=40 then n.ov id no s cl me
 else if cl=60/\me=70 then n.get id no s cl me
 else if cl=60/\(me=80\/me=90)then n.settled id no h s cl me
 else if cl=10 then .ok n (.cA 503 cl me)
 else .ok n (.cA 540 cl me)
def N.iS(n:N)(key body:List UInt8):N×Bool:=match n.q? key with
 |none=>(n,true)
 |some q=>if(q.ready.length:Int)+q.held>=n.cfg.queue then(n,false)
  else(({n with messages:=n.messages+1}:N).bF key λq=>{q with ready:=q.ready++[⟨n.messages+1,key,body,false⟩]},true)
def N.whole(n:N)(id:Int)(no:Nat)(r:HR):HO:=
 if(r.body.length:Int)<r.size then .ok (n.cf id no λ_=>r) .nil else
  let p:=(n.cf id no λ_=>{r with want:=1}).iS r.key r.body
  .ok p.1 (if p.2 then .nil else .soft 506 60 40)
def N.header(n:N)(id:Int)(no:Nat)(r:HR)(s:List UInt8):HO:=match eP 2 s with
 |some (Z4,s1)=>match eP 2 s1 with
  |some (weight,s2)=>match eP 4 s2 with
   |some (high,s3)=>match eP 4 s3 with
    |some (low,[])=>if Z4≠60\/weight≠0 then .ok n (.cA 502 60 40)else if high>0\/(low:Int)>n.cfg.body then .ok n (.soft 311 60 40)
     else n.whole id no {r with want:=3,size:=low,body:=[]}
    |_=>.bad 60 40
   |_=>.bad 60 40
  |_=>.bad 60 40
 |_=>.bad 60 40
def N.part(n:N)(id:Int)(no:Nat)(r:HR)(s:List UInt8):HO:=
 if((r.body++s).length:Int)>r.size then .ok (n.cf id no λr=>{r with body:=r.body++s}) (.cA 502 60 40)
 else n.whole id no {r with body:=r.body++s}
def N.iK(n:N)(id:Int)(no:Nat)(h:HN)(kind:Int)(s:List UInt8)(cl me:Nat):HO:=
 if h.r.closing then
  if kind=1/\cl=20/\me=40 then .ok ((n.send id (cg no 20 41 [])).lJ id no) .nil
  else if kind=1/\cl=20/\me=41 then .ok (n.lJ id no) .nil
  else .ok n .nil
 else if kind≠max h.r.want 1 then .ok n (.cA 505 cl me)
 else if kind=2 then n.header id no h.r s
 else if kind=3 then n.part id no h.r s
 else n.method id no h s cl me
def kK(a b:Nat):Bool:=decide (a<b)
def fV:HR:=⟨false,0,0,0,[],[],0⟩
def N.jW(n:N)(id:Int)(c:CN)(no:Nat)(kind:Int)(s:List UInt8)(cl me:Nat):HO:=
 if(no:Int)>c.r.dm then .ok n (.cA 504 cl me)else match bw c.ch no with
 |some h=>n.iK id no h kind s cl me
 |none=>if kind=1/\cl=20/\me=10 then(match jm s with
  |some (_,[])=>.ok ((n.dn id λc=>{c with ch:=cJ kK c.ch no ⟨fV,[],[]⟩}).send id (cg no 20 11 [.long 0])) .nil
  |_=>.bad cl me)
  else .ok n (.cA 504 cl me)
def N.control(n:N)(id:Int)(kind:Int)(s:List UInt8)(cl me:Nat):HO:=
 if kind=1/\cl=10/\me=50 then(match te s with
  |some []=>.ok (((n.leave id).send id (cg 0 10 51 [])).bC id λr=>{r with ph:=5}) .nil
  |_=>.bad cl me)
 else .ok n (.cA 503 cl me)
def N.begin(n:N)(id:Int)(c:CN)(ch:Int)(kind:Int)(s:List UInt8)(cl me:Nat):HO:=
 if¬(kind=1/\cl=10/\me=(if c.r.ph=1 then 31 else 40))\/ch≠0 then .ok n (.cA 503 cl me)
 else if c.r.ph=2 then(match jm s with
  |some (_,[])=>.ok ((n.bC id λr=>{r with ph:=3}).send id (cg 0 10 41 [.text []])) .nil
  |_=>.bad cl me)
 else match eP 2 s with
  |some (dm,s1)=>match eP 4 s1 with
   |some (size,s2)=>match eP 2 s2 with
    |some (gh,[])=>if dm<1\/(dm:Int)>n.cfg.jc\/size<64\/(size:Int)>n.cfg.frame\/(gh:Int)>n.cfg.gh then .ok n (.cA 530 cl me)
     else .ok (n.bC id λr=>{r with dm:=dm,frame:=size,gh:=gh,ph:=2}) .nil
    |_=>.bad cl me
   |_=>.bad cl me
  |_=>.bad cl me
def N.gR(n:N)(id:Int)(c:CN)(ch:Int)(kind:Int)(s:List UInt8)(cl me:Nat):HO:=
 if c.r.ph=1\/c.r.ph=2 then n.begin id c ch kind s cl me
 else if c.r.ph=3 then(if ch=0 then n.control id kind s cl me else n.jW id c ch.toNat kind s cl me)
 else if c.r.ph=4/\kind=1/\cl=10/\me=51/\ch=0 then .ok (n.bC id λr=>{r with ph:=5}) .nil
 else .ok n .nil
def N.eS(n:N)(id:Int)(c:CN)(u:Un):HO:=
 if u.kind=1 then(match eP 2 u.gL with
  |some (cl,s1)=>match eP 2 s1 with
   |some (me,s2)=>n.gR id c u.channel 1 s2 cl me
   |none=>.ok n (.cA 502 0 0)
  |none=>.ok n (.cA 502 0 0))
 else n.gR id c u.channel u.kind u.gL 0 0
def HO.get(n:N):HO->N×Er
 | .ok n' er=>(n',er)
 | .bad cl me=>(n,.cA 502 cl me)
def N.fault(n:N)(id:Int)(no:Int):Er->N
 | .nil=>n
 | .soft e cl me=>if n.ph id=4 then n else n.soft id no.toNat e cl me
 | .cA e cl me=>if n.ph id=4 then n else n.cA id e cl me
def N.ju(n:N)(id:Int)(u:Un):N:=match n.ar id with
 |none=>n
 |some c=>let p:=(n.eS id c u).get n
  p.1.fault id u.channel p.2
def N.unit(n:N)(id:Int)(u:Un):N:=
 if u.jf then
  if u.fB then(n.send id pK).bC id λr=>{r with ph:=5}
  else(n.bC id λr=>{r with ph:=1}).send id (cg 0 10 30 [.short n.cfg.jc.toNat,.long n.cfg.frame.toNat,.short n.cfg.gh.toNat])
 else if u.fB then(if n.ph id=4 then n else n.cA id 501 0 0).bC id λr=>{r with ph:=5}
 else if u.kind=8 then n else n.ju id u
def N.cut(n:N)(id:Int):Un×N:=match n.ar id with
 |none=>(⟨0,0,[],false,false⟩,n)
 |some c=>let v:=eI c.r.je c.r.rest c.r.frame
  (v.1,n.bC id λr=>{r with je:=v.2.1,rest:=v.2.2})
def N.js:Nat->N->Int->N
 |0,n,_=>n
 |f+1,n,id=>if n.ph id=5 then n else if(n.cut id).1.idle then(n.cut id).2 else js f (((n.cut id).2.unit id (n.cut id).1).serve) id
def N.rest (n:N)(id:Int):List UInt8:=((n.ar id).map (·.r.rest)).getD []
def N.tF(n:N)(id:Int)(s:List UInt8):N:=
 let n1:=n.bC id λr=>{r with recv:=n.clock,rest:=r.rest++s}
 n1.js ((n1.rest id).length+2) id
def N.iY(n:N):N:=((n.aD.map (·.1)).foldl (λn id=>if n.ph id=5 then n.leave id else n) n).serve
def N.outs(n:N):List (Int×List UInt8):=(n.aD.map λe=>(e.1,e.2.r.out)).filter λe=>decide (e.2≠[])
def N.clean(n:N):N:={n with aD:=(n.aD.filter λe=>decide (e.2.r.ph≠5)).map λe=>(e.1,{e.2 with r:={e.2.r with out:=[]}})}
def N.feed(n:N)(id:Int)(s:List UInt8):N:=(if s=[]then n else n.tF id s).iY
def N.drop(n:N)(id:Int):N:=(n.bC id λr=>{r with ph:=5}).iY
inductive Ref where
 |b0|b1|gw|br|mq|mc
 |conn (id:Int)|chm (id:Int)
 |chan (id:Int) (no:Nat)|un (id:Int) (no:Nat)|co (id:Int) (no:Nat)
 |queue (nm:List UInt8)|eQ (nm:List UInt8)|il (nm:List UInt8)
 |cons (k:Int)
 |ext (i:Nat)
 deriving DecidableEq
inductive V where
 |obj (o:Obj)
 |pk (l:List (Int×Value))
 |xG (l:List (List UInt8×Value))
 |eQ (v:Value) (ms:List aQ)
 |il (v:Value) (ps:List Value)
structure pE {α:Type} (l:List (α×Value×Nat)) (c:Nat):Prop where
 uniq:jI l
 old:∀e∈l,e.2.2<c
 nd:(l.map (·.2.2)).Nodup
def oB:V->Obj->Prop
 | .obj o,o'=>o'=o
 | .pk kv,o'=>∃l c,o'=aU aW l c/\pE l c/\(l.map λe=>(e.1,e.2.1)).Perm kv
 | .xG kv,o'=>∃l c,o'=aU bP l c/\pE l c/\(l.map λe=>(e.1,e.2.1)).Perm kv
 | .eQ v ms,o'=>∃a pre pad c,v=.slice (some ⟨a,List.length (α:=Value) pre,none⟩) ms.length c/\ms.length<=c/\4*(c-ms.length)<=List.length (α:=Value) pad/\o'=.cells (pre++bd ms++pad).toArray 193 (0,0)
 | .il v ps,o'=>∃a pad,v=.slice (some ⟨a,0,none⟩) ps.length (ps.length+List.length (α:=Value) pad)/\o'=.cells (ps++pad).toArray 186 (0,0)
def Bn:List Value:=Go.Lib.propertiesTab.map λz=>Value.int .u8 z
structure Lay where
 gw:Nat
 br:Nat
 mq:Nat
 mc:Nat
 conn:Int->Nat
 chan:Int->Nat->Nat
 un:Int->Nat->Nat
 co:Int->Nat->Nat
 queue:List UInt8->Nat
 cons:Int->Nat
 L1:List Value
 oR:L1=Bn
def Lay.tab(A:Lay):∀i<128,A.L1[i]? =some (.int .u8 (Go.Lib.propertiesTab.getD i 0)):=λi hi=>by
 have h:i<Go.Lib.propertiesTab.length:=by rw[Go.Lib.propertiesTab_length];omega
 rw[A.oR,Bn,List.getElem?_map,List.getElem?_eq_getElem h,List.getD_eq_getElem?_getD,List.getElem?_eq_getElem h];rfl
structure Hid where
 chm:Int->Nat
 rv:List UInt8->Value
 cv:List UInt8->Value
def pG:Value->Nat
 | .slice (some a) _ _=>a.block
 |_=>0
def kJ:Value->Bool
 | .slice none 0 0=>true
 |_=>false
abbrev Ext:=List (Nat×Obj)
def cI(A:Lay)(H:Hid)(X:Ext):Ref->Nat
 | .b0=>0| .b1=>1| .gw=>A.gw| .br=>A.br| .mq=>A.mq| .mc=>A.mc
 | .conn id=>A.conn id| .chm id=>H.chm id
 | .chan id no=>A.chan id no| .un id no=>A.un id no| .co id no=>A.co id no
 | .queue nm=>A.queue nm| .eQ nm=>pG (H.rv nm)| .il nm=>pG (H.cv nm)
 | .cons k=>A.cons k
 | .ext i=>(X[i]?.map (·.1)).getD 0
def zx(v:Value)(ms:List aQ):Option V:=if kJ v=true/\ms=[]then none else some (.eQ v ms)
def Cb(v:Value)(ps:List Value):Option V:=if kJ v=true/\ps=[]then none else some (.il v ps)
def view(n:N)(A:Lay)(H:Hid)(X:Ext):Ref->Option V
 | .b0=>some (.obj (.cells #[rT 45] 143 (0,0)))
 | .b1=>some (.obj (.cells A.L1.toArray 396 (0,0)))
 | .gw=>some (.obj (eE n.cfg A.br A.mc n.clock n.last))
 | .br=>some (.obj (ij A.mq n.cfg.queue n.messages n.aY))
 | .mq=>some (.xG (n.aL.map λe=>(e.1,pV (A.queue e.1))))
 | .mc=>some (.pk (n.aD.map λe=>(e.1,pV (A.conn e.1))))
 | .conn id=>(n.ar id).map λc=>.obj (fu A.gw id (H.chm id) c.r)
 | .chm id=>(n.ar id).map λc=>.pk (c.ch.map λe=>((e.1:Int),pV (A.chan id e.1)))
 | .chan id no=>(n.h? id no).map λh=>.obj (ix (A.conn id) no (A.un id no) (A.co id no) h.r)
 | .un id no=>(n.h? id no).map λh=>.pk (h.un.map λe=>((e.1:Int),tQ (A.queue e.2.1) e.2.2))
 | .co id no=>(n.h? id no).map λh=>.xG (h.co.map λe=>(e.1,pV (A.cons e.2)))
 | .queue nm=>(n.q? nm).map λq=>.obj (fy nm (H.rv nm) q.held q.last (H.cv nm))
 | .eQ nm=>(n.q? nm).bind λq=>zx (H.rv nm) q.ready
 | .il nm=>(n.q? nm).bind λq=>Cb (H.cv nm) (q.cons.map λk=>pV (A.cons k))
 | .cons k=>(n.x? k).map λx=>.obj (kR (A.chan x.id x.no) k x.tag (A.queue x.q) x.fp)
 | .ext i=>(X[i]?).map λp=>.obj p.2
structure Hl (w:Ref->Option V) (ad:Ref->Nat) (U:Hp):Prop where
 has:∀r v,w r=some v->∃o,U.f (ad r)=some o/\oB v o
 inj:∀r r',(w r).isSome->(w r').isSome->ad r=ad r'->r=r'
def upd{β:Type}(f:Ref->β)(r:Ref)(v:β):Ref->β:=λx=>if x=r then v else f x
variable {w:Ref->Option V}{ad:Ref->Nat}{R:Hp}
def Hl.le(h:Hl w ad U)(k:U.le R):Hl w ad R:=⟨λr v hv=>by obtain⟨o,h1,h2⟩:=h.has r v hv;exact⟨o,k _ _ h1,h2⟩,h.inj⟩
variable {w':Ref->Option V}{Nz:Ref->Nat}{r:Ref}
def Hl.congr(h:Hl w ad U)(hw:∀r,w' r=w r)(ha:∀r,(w' r).isSome->Nz r=ad r):Hl w' Nz U:=by
 refine⟨λr v hv=>?_,λr r' h1 h2 e=>?_⟩
 ·rw[ha r (by rw[hv];rfl)];exact h.has r v (by rw[<-hw];exact hv)
 ·rw[ha r h1,ha r' h2]at e;exact h.inj r r' (by rw[<-hw];exact h1) (by rw[<-hw];exact h2) e
def Hl.sub(h:Hl w ad U)(hw:∀r,w' r=none\/w' r=w r):Hl w' ad U:=by have key:∀r,(w' r).isSome->w' r=w r:=λr hr=>(hw r).elim (λe=>by rw[e]at hr;cases hr) _root_.id;exact⟨λr v hv=>h.has r v (by rw[<-key r (by rw[hv];rfl)];exact hv),λr r' h1 h2 e=>h.inj r r' (by rw[<-key r h1];exact h1) (by rw[<-key r' h2];exact h2) e⟩
variable {b:Nat}{o:Obj}{v:V}
def Hl.put(h:Hl w ad U)(hb:∀r',r'≠r->(w r').isSome->ad r'≠b)(ho:oB v o):Hl (upd w r (some v)) (upd ad r b) (U.set b o):=by
 refine⟨λx u hu=>?_,λx y hx hy e=>?_⟩
 ·by_cases e:x=r
  ·subst e;simp only[upd,if_true]at hu|-
   cases hu
   exact⟨o,aT,ho⟩
  ·simp only[upd,if_neg e]at hu|-;obtain⟨o',h1,h2⟩:=h.has x u hu;exact⟨o',by rw[Hp.ay (hb x e (by rw[hu];rfl))];exact h1,h2⟩
 ·by_cases e1:x=r<;>by_cases e2:y=r
  ·rw[e1,e2]
  ·simp only[upd,if_pos e1,if_neg e2]at e hy;exact absurd e.symm (hb y e2 hy)
  ·simp only[upd,if_neg e1,if_pos e2]at e hx;exact absurd e (hb x e1 hx)
  ·simp only[upd,if_neg e1,if_neg e2]at e hx hy;exact h.inj x y hx hy e
def Hl.set(h:Hl w ad U)(hr:(w r).isSome)(ho:oB v o):Hl (upd w r (some v)) ad (U.set (ad r) o):=by
 have:=h.put (r:=r) (b:=ad r) (λr' aE hs e=>aE (h.inj r' r hs hr e)) ho;have e:upd ad r (ad r)=ad:=by funext x;simp only[upd];split<;>simp_all
 rwa[e]at this
def Hl.uM(h:Hl w ad U)(hr:(w r).isSome)(o:Obj):Hl (upd w r (some (.obj o))) ad (U.set (ad r) o):=h.set hr (v:=.obj o) (_root_.id rfl)
def Hl.new(h:Hl w ad U)(hb:U.f b=none)(ho:oB v o):Hl (upd w r (some v)) (upd ad r b) (U.set b o):=
 h.put (λr' _ hs e=>by
  obtain⟨u,hu⟩:=Option.isSome_iff_exists.1 hs
  obtain⟨o',h1,_⟩:=h.has r' u hu
  rw[e,hb]at h1;cases h1) ho
def Hl.obj(h:Hl w ad U)(hr:w r=some (.obj o)):U.f (ad r)=some o:=by obtain⟨o',h1,h2⟩:=h.has _ _ hr;cases h2;exact h1
def aq(A:Lay)(H:Hid)(n:N)(X:Ext)(U:Hp):Prop:=Hl (view n A H X) (cI A H X) U
def At(A:Lay)(n:N)(X:Ext)(U:Hp):Prop:=∃H,aq A H n X U
section
variable {β:Type}{v:V}
variable {α:Type}[DecidableEq α]
def Iq (l:List (α×β))(k k':α)(f:β->β):bw (dw l k f) k'=if k'=k then(bw l k').map f else bw l k':=by
 unfold bw dw
 induction l with
 |nil=>simp
 |cons e l ih=>
  simp only[List.map_cons,List.find?_cons];by_cases h1:e.1=k
  ·by_cases h2:e.1=k'
   ·simp[h1,<-h2]
   ·have:¬k'=k:=λx=>h2 (by rw[x,h1]);simp only[h1,if_true,this,if_false]at ih|-;have h3:¬k=k':=λx=>this x.symm;simp only[h3,decide_false];exact ih
  ·by_cases h2:e.1=k'
   ·have:¬k'=k:=λx=>h1 (by rw[h2,x]);simp[h2,this]
   ·simp only[h1,if_false,h2,decide_false];exact ih
def oE {γ:Type}(l:List (α×β))(k:α)(f:β->β)(F:α->γ):((dw l k f).map λe=>F e.1)=l.map λe=>F e.1:=by unfold dw;rw[List.map_map];apply List.map_congr_left;intro e _;simp only[Function.comp];split<;>rfl
def gI {l:List (α×β)}{k:α}{v:β}(h:bw l k=some v):(k,v)∈l:=by unfold bw at h;obtain⟨e,h1,h2⟩:=Option.map_eq_some_iff.1 h;have:=List.find?_some h1;simp only[decide_eq_true_eq]at this;subst this;subst h2;exact List.mem_of_find?_eq_some h1
def iF {l:List (α×β)}{k:α}(h:bw l k=none):∀e∈l,e.1≠k:=by unfold bw at h;simpa using h
def BX (l:List (α×β))(k k':α):bw (cH l k) k'=if k'=k then none else bw l k':=by
 unfold bw cH
 induction l with
 |nil=>simp
 |cons e l ih=>
  simp only[List.filter_cons,List.find?_cons];by_cases h1:e.1=k
  ·by_cases h2:e.1=k'
   ·have:k'=k:=by rw[<-h2,h1]
    simp only[this,if_true]at ih|-;simp only[h1,ne_eq,not_true_eq_false,decide_false,Bool.false_eq_true,if_false];exact ih
   ·simp only[h1,ne_eq,not_true_eq_false,decide_false,Bool.false_eq_true,if_false];have:¬k=k':=λx=>h2 (by rw[h1,x]);simp only[this,decide_false];exact ih
  ·simp only[h1,ne_eq,not_false_eq_true,decide_true,if_true,List.find?_cons];by_cases h2:e.1=k'
   ·have:¬k'=k:=λx=>h1 (by rw[h2,x]);simp[h2,this]
   ·simp only[h2,decide_false];exact ih
def yr {lt:α->α->Bool}(l:List (α×β))(k k':α)(v:β)(hk:bw l k=none):bw (cJ lt l k v) k'=if k'=k then some v else bw l k':=by
 induction l with
 |nil=>simp only[cJ,bw,List.find?_cons,List.find?_nil];by_cases h:k=k'<;>simp[h,eq_comm]
 |cons e l ih=>
  have FW:¬e.1=k:=iF hk e ak
  have dZ:bw l k=none:=by unfold bw at hk|-;simp only[List.find?_cons,FW,decide_false]at hk;exact hk
  simp only[cJ];split
  ·unfold bw;simp only[List.find?_cons];by_cases h:k=k'
   ·simp[h]
   ·have h2:¬k'=k:=λx=>h x.symm;simp[h,h2]
  ·have:=ih dZ;unfold bw at this|-;simp only[List.find?_cons];by_cases h:e.1=k'
   ·have h2:¬k'=k:=λx=>FW (by rw[h,x]);simp[h,h2]
   ·simp only[h,decide_false];exact this
omit [DecidableEq α]in
def u0 {lt:α->α->Bool}(l:List (α×β))(k:α)(v:β):(cJ lt l k v).Perm ((k,v)::l):=by
 induction l with
 |nil=>exact .refl _
 |cons e l ih=>
  simp only[cJ];split
  ·exact .refl _
  ·exact(ih.cons e).trans (.swap _ _ _)
end
section
variable {U:Hp}{R:Hp}{r:Ref}{b:Nat}{o:Obj}{v:V}{H:Hid}{n:N}{X:Ext}{no:Nat}{nm:List UInt8}{c:CN}{h:HN}{q:QN}{k:Int}{x:XN}
variable {A:Lay}{id:Int}
def aq.le (a:aq A H n X U)(l:U.le R):aq A H n X R:=Hl.le a l
def aq.b0 (a:aq A H n X U):U.f 0=some (.cells #[rT 45] 143 (0,0)):=Hl.obj a (r:=.b0) rfl
def aq.b1 (a:aq A H n X U):U.f 1=some (.cells A.L1.toArray 396 (0,0)):=Hl.obj a (r:=.b1) rfl
def aq.gw (a:aq A H n X U):U.f A.gw=some (eE n.cfg A.br A.mc n.clock n.last):=Hl.obj a (r:=.gw) rfl
def aq.br (a:aq A H n X U):U.f A.br=some (ij A.mq n.cfg.queue n.messages n.aY):=Hl.obj a (r:=.br) rfl
def aq.mq (a:aq A H n X U):∃l c,U.f A.mq=some (aU bP l c)/\pE l c/\(l.map λe=>(e.1,e.2.1)).Perm (n.aL.map λe=>(e.1,pV (A.queue e.1))):=by obtain⟨o,h1,l,c,rfl,h2⟩:=a.has .mq _ rfl;exact⟨l,c,h1,h2⟩
def aq.mc (a:aq A H n X U):∃l c,U.f A.mc=some (aU aW l c)/\pE l c/\(l.map λe=>(e.1,e.2.1)).Perm (n.aD.map λe=>(e.1,pV (A.conn e.1))):=by obtain⟨o,h1,l,c,rfl,h2⟩:=a.has .mc _ rfl;exact⟨l,c,h1,h2⟩
def aq.conn (a:aq A H n X U)(hc:n.ar id=some c):U.f (A.conn id)=some (fu A.gw id (H.chm id) c.r):=Hl.obj a (r:=.conn id) (by simp[view,hc])
def aq.chm (a:aq A H n X U)(hc:n.ar id=some c):∃l k,U.f (H.chm id)=some (aU aW l k)/\pE l k/\(l.map λe=>(e.1,e.2.1)).Perm (c.ch.map λe=>((e.1:Int),pV (A.chan id e.1))):=by obtain⟨o,h1,l,k,rfl,h2⟩:=a.has (.chm id) (.pk (c.ch.map λe=>((e.1:Int),pV (A.chan id e.1)))) (by simp[view,hc]);exact⟨l,k,h1,h2⟩
def aq.chan (a:aq A H n X U)(hh:n.h? id no=some h):U.f (A.chan id no)=some (ix (A.conn id) no (A.un id no) (A.co id no) h.r):=Hl.obj a (r:=.chan id no) (by simp[view,hh])
def aq.un (a:aq A H n X U)(hh:n.h? id no=some h):∃l k,U.f (A.un id no)=some (aU aW l k)/\pE l k/\(l.map λe=>(e.1,e.2.1)).Perm (h.un.map λe=>((e.1:Int),tQ (A.queue e.2.1) e.2.2)):=by obtain⟨o,h1,l,k,rfl,h2⟩:=a.has (.un id no) (.pk (h.un.map λe=>((e.1:Int),tQ (A.queue e.2.1) e.2.2))) (by simp[view,hh]);exact⟨l,k,h1,h2⟩
def aq.co (a:aq A H n X U)(hh:n.h? id no=some h):∃l k,U.f (A.co id no)=some (aU bP l k)/\pE l k/\(l.map λe=>(e.1,e.2.1)).Perm (h.co.map λe=>(e.1,pV (A.cons e.2))):=by obtain⟨o,h1,l,k,rfl,h2⟩:=a.has (.co id no) (.xG (h.co.map λe=>(e.1,pV (A.cons e.2)))) (by simp[view,hh]);exact⟨l,k,h1,h2⟩
def aq.queue (a:aq A H n X U)(hq:n.q? nm=some q):U.f (A.queue nm)=some (fy nm (H.rv nm) q.held q.last (H.cv nm)):=Hl.obj a (r:=.queue nm) (by simp[view,hq])
def aq.cons (a:aq A H n X U)(hx:n.x? k=some x):U.f (A.cons k)=some (kR (A.chan x.id x.no) k x.tag (A.queue x.q) x.fp):=Hl.obj a (r:=.cons k) (by simp[view,hx])
def GM {v:Value}(h:kJ v=true):v=.slice none 0 0:=by
 unfold kJ at h;split at h
 ·rfl
 ·cases h
def aq.eQ (a:aq A H n X U)(hq:n.q? nm=some q):gz U q.ready (H.rv nm):=by
 by_cases h:kJ (H.rv nm)=true/\q.ready=[]
 ·rw[GM h.1];exact .none h.2
 ·obtain⟨o,h1,b,pre,pad,cc,e1,h2,h3,rfl⟩:=a.has (.eQ nm) (.eQ (H.rv nm) q.ready) (by simp only[view,hq,Option.bind_some,zx,if_neg h]);have e:cI A H X (.eQ nm)=b:=by simp[cI,e1,pG]
  rw[e]at h1;rw[e1];exact .at b pre pad cc h2 h3 h1
def aq.il (a:aq A H n X U)(hq:n.q? nm=some q):Sl 186 U (q.cons.map λk=>pV (A.cons k)) (H.cv nm):=by
 by_cases h:kJ (H.cv nm)=true/\(q.cons.map λk=>pV (A.cons k))=[]
 ·rw[GM h.1];exact .nil h.2
 ·obtain⟨o,h1,b,pad,e1,rfl⟩:=a.has (.il nm) (.il (H.cv nm) (q.cons.map λk=>pV (A.cons k))) (by simp only[view,hq,Option.bind_some,Cb,if_neg h]);have e:cI A H X (.il nm)=b:=by simp[cI,e1,pG]
  rw[e]at h1;rw[e1];exact .at b pad h1
def aq.ext (a:aq A H n X U){i:Nat}{p:Nat×Obj}(hi:X[i]? =some p):U.f p.1=some p.2:=by have:=Hl.obj a (r:=.ext i) (o:=p.2) (by simp[view,hi]);simpa[cI,hi]using this
def aq.ne (a:aq A H n X U){r r':Ref}(h:r≠r')(h1:(view n A H X r).isSome)(h2:(view n A H X r').isSome):cI A H X r≠cI A H X r':=λe=>h (a.inj r r' h1 h2 e)
end
end Go.Qw
