/- Part 24. -/
import Derived.Test.YtpiabknabfbfhaaGreatDoorFairly23
set_option linter.all false
set_option maxRecDepth 100000
set_option maxHeartbeats 8000000
namespace Go.Qw
open Go Go.Conc Go.Proofs Go.Proofs.Tryz
variable {P:Program}{ρ:av}{ds:List Deferred}{σ:Hp}{dst:Option Tmp}{ty:TypeId}{pos:String}{af:Array Edge}{g:Option (Nat×Bool)}{nx:av->List Deferred->Hp->Prop}{pn:List PanicEntry->Hp->Prop}{E:Env P}{a b:Nat}{c c':Array Value}{e1 e2:TypeId}
def aaR{t u e:TypeId}{x y:Operand}{i:TypeInfo}(hu:P.underlying t=some (.pointer e))(hi:P.info? e=some i)(gE:i.size≠0)(hx:ak ρ x=pV a)(hy:ak ρ y=pV b)(ha:σ.f a=some (.cells c e1 (0,0)))(hb:σ.f b=some (.cells c' e2 (0,0)))(h:nx (aB ρ dst (.bool (decide (a=b)))) ds σ):wpOp E ⟨dst,.binOp .eql t x y u,ty,pos,af,g⟩ ρ ds σ nx pn:=by
 have hz:∀n,(decide (0<=n)&&decide (n<0))=false:=al;unfold wpOp;simp only[execOp,hx,hy,aH];refine yy ?_ ⟨al,al⟩;unfold binOp;simp only[aH,bq];refine Cl λk=>?_;unfold Op.equalIn;simp only[aH,dZ,hu,samePointer,sameAddr,sizeOf,fQ,hi,bq];rw[if_pos gE];by_cases di:a=b
 ·subst di;simp only[beq_self_eq_true,if_true,bq];rw[decide_eq_true rfl]at h;exact h
 ·have FK:(a==b)=false:=aZ di;simp only[FK,Bool.false_eq_true,if_false,aH,HI,Hp.frozen?,ha,hb,hz];refine⟨rfl,rfl,?_⟩;simp only[Bool.false_and,Bool.false_eq_true,if_false,aH];refine GY ha (GY hb (SC ha hb ?_));simp only[Bool.false_eq_true,if_false,bq];rw[decide_eq_false di]at h;exact h
def E3(σ:Hp)(cs:List Nat):Prop:=∀x∈cs,∃c:Array Value,σ.f x=some (.cells c 191 (0,0))
variable {v:Value}
def Sl.form{ety:TypeId}{xs:List Value}(h:Sl ety σ xs v):(xs=[]/\v=.slice none 0 0)\/∃(a:Nat) (pad:List Value),v=.slice (some ⟨a,0,none⟩) xs.length (xs.length+pad.length)/\σ.f a=some (.cells (xs++pad).toArray ety (0,0)):=by
 cases h with
 |nil h0=>exact .inl ⟨h0,rfl⟩
 |«at»a pad ha=>exact .inr ⟨a,pad,rfl,ha⟩
variable {E:Env prog}{cb bx:Nat}
def R8{x:Nat}(mI:σ.f bx=some (.cells #[pV cb] 186 (0,0)))(ha:σ.f x=some (.cells c e1 (0,0)))(hb:σ.f cb=some (.cells c' e2 (0,0))):
 ay E 185 #[pV x,pV bx] σ λe τ=>e=.returned (.bool (decide (x=cb)))/\τ=σ:=by
 refine fI func185 ntmps185 results185 rfl al λQ aC an aA=>?_;refine aG mI ?_;obtain⟨i,hi,gE⟩:∃i,prog.info? 191=some i/\i.size≠0:=⟨t191,ah,by rw[show t191.size=5 by kernel_rfl];decide⟩;refine aaR (e:=191) (a:=x) (b:=cb) ah hi gE ?_ ?_ ha hb ?_
 ·exact au
 ·exact au
 refine ag ?_;exact an aI ao ⟨by simp[up],rfl⟩
variable {cs:List Nat}
def agn(hv:Sl 186 σ (cs.map pV) v)(hn:cs.length<=1000000)(hl:E3 σ cs)(hc:E3 σ [cb])(mI:σ.f bx=some (.cells #[pV cb] 186 (0,0))):
 ay E 221 #[v,.func (.func 185) #[] #[pV bx]] σ λe τ=>(e=.returned (iV (-1))/\cb∉cs\/∃i:Nat,e=.returned (iV i)/\∃h:i<cs.length,cs[i]=cb/\cb∉cs.take i)/\τ=σ:=by
 refine aW func221 ntmps221 results221 λQ aC an aA=>?_;obtain⟨base,cap,rfl,hr⟩:=hv.read;refine ag ?_;refine dh (λm ρ ds ae=>ds=[]/\ρ 0=.slice base cs.length cap/\ρ 1=.func (.func 185) #[] #[pV bx]/\ρ 7=iV cs.length/\ae=σ/\∃i:Nat,i+m=cs.length/\ρ 8=iV i/\cb∉cs.take i) cs.length ?_ ?_
 ·refine⟨rfl,?_,?_,?_,rfl,0,al,?_,al⟩<;>exact au
 ·rintro m ρ ds ae X ⟨rfl,h0,h1,h7,rfl,i,yQ,h8,nS⟩ hX
  cases m with
  |zero=>
   have c0:¬(i:Int)<cs.length:=aa;simp only[go_sem,seval,h7,h8,c0,decide_false];rw[List.take_of_length_le aa]at nS;exact an aI ao ⟨.inl ⟨by simp[up],nS⟩,rfl⟩
  |succ m=>
   have hi:i<cs.length:=aa;have c0:(i:Int)<cs.length:=aa;obtain⟨a,L,rfl,ha,hL⟩:=hr i hi;obtain⟨c1,vH⟩:=hl cs[i] (List.getElem_mem hi);obtain⟨c2,sF⟩:=hc cb al;have w1:=fF i;have b1:(0:Int)<=i/\(i:Int)<cs.length:=aa;simp only[go_sem,seval,h0,h1,h7,h8,c0,decide_true];refine⟨aa,?_⟩;refine bt ha hL ?_;rw[Eg (f:=185) (l:=#[]) (cap:=#[pV bx]) au];refine ag ?_;refine aR (R8 mI vH sF) ?_;by_cases hx:cs[i]=cb
   ·simp only[go_sem,seval,hx,decide_true];exact an aI ao ⟨.inr ⟨i,by simp[up],hi,hx,nS⟩,rfl⟩
   ·simp only[go_sem,seval,hx,decide_false,h8,w1];refine hX m _ _ _ _ aa ⟨rfl,?_,?_,?_,rfl,i+1,aa,?_,?_⟩ ao
    ·exact aK h0
    ·exact aK h1
    ·exact aK h7
    ·exact au
    ·intro hm;rw[List.take_succ_eq_append_getElem hi,List.mem_append]at hm;rcases hm with h|h
     ·exact nS h
     ·exact hx (List.mem_singleton.1 h).symm
def aat(hv:Sl 186 σ (cs.map pV) v)(hn:cs.length<=1000000)(hl:E3 σ cs)(hc:E3 σ [cb])(mI:σ.f bx=some (.cells #[pV cb] 186 (0,0)))(cz:∀off n c,v≠.slice (some ⟨bx,off,none⟩) n c):
 ay E 184 #[v,.func (.func 185) #[] #[pV bx]] σ λe τ=>(e=.returned v/\cb∉cs/\τ=σ)\/∃(a:Nat) (pad:List Value),(∃n c,v=.slice (some ⟨a,0,none⟩) n c)/\
  e=.returned (.slice (some ⟨a,0,none⟩) (cs.filter λx=>decide (x≠cb)).length ((cs.filter λx=>decide (x≠cb)).length+pad.length))/\τ=σ.set a (.cells ((cs.filter λx=>decide (x≠cb)).map pV++pad).toArray 186 (0,0)):=by
 refine aW func184 ntmps184 results184 λQ aC an aA=>?_;obtain⟨base,cap,rfl,hr⟩:=hv.read;refine ag ?_;refine dC ach (agn hv hn hl hc mI) ?_ (λch ae ⟨h,_⟩=>by rcases h with⟨h,_⟩|⟨_,h,_⟩<;>cases h);rintro w τ ⟨hw,rfl⟩;rcases hw with⟨hw,nS⟩|⟨i,hw,hi,hxi,nS⟩
 ·cases hw
  refine ag ?_;exact an aI ao (.inl ⟨by simp[up],nS,rfl⟩)
 cases hw
 obtain⟨a,pad,rfl,ha,jJ⟩:∃(a:Nat) (pad:List Value),base=some ⟨a,0,none⟩/\τ.f a=some (.cells (cs.map pV++pad).toArray 186 (0,0))/\cap=cs.length+pad.length:=by
  rcases hv.form with⟨h0,_⟩|⟨a,pad,h1,h2⟩
  ·simp at h0;subst h0;simp at hi
  ·simp only[Value.slice.injEq]at h1;exact⟨a,pad,h1.1,h2,aZ h1.2.2⟩
 subst jJ;have cm:¬(i:Int)= -1:=aa;have w1:=fF i;have Tg:∀{x c},τ.f x=some (.cells c 191 (0,0))->¬x=a:=λh e=>by subst e;rw[ha]at h;simp at h
 have nbx:¬bx=a:=λe=>cz 0 cs.length (cs.length+pad.length) (by rw[e]);simp only[go_sem,seval,cm,decide_false,w1]
 refine dh (λm ρ ds ae=>ds=[]/\ρ 0=.slice (some ⟨a,0,none⟩) cs.length (cs.length+pad.length)/\ρ 1=.func (.func 185) #[] #[pV bx]/\∃(i j:Nat) (L:List Value),j+m=cs.length/\ρ 5=iV i/\ρ 6=iV j/\i<j/\
  L.take i=((cs.take j).filter λx=>decide (x≠cb)).map pV/\L.drop j=(cs.drop j).map pV++pad/\L.length=cs.length+pad.length/\ae=τ.set a (.cells L.toArray 186 (0,0))) (cs.length-(i+1)) ?_ ?_
 ·refine⟨rfl,?_,?_,i,i+1,cs.map pV++pad,aa,?_,?_,aa,?_,?_,al,(Gn ha).symm⟩
  ·exact au
  ·exact au
  ·exact au
  ·exact au
  ·have e1:(cs.take (i+1)).filter (λx=>decide (x≠cb))=cs.take i:=by
    rw[List.take_succ_eq_append_getElem hi,List.filter_append]
    have e2:(cs.take i).filter (λx=>decide (x≠cb))=cs.take i:=by rw[List.filter_eq_self];intro x hx;simpa usingλe:x=cb=>nS (e▸hx)
    rw[e2];simp[hxi]
   rw[e1,List.take_append_of_le_length (by simp;omega),List.map_take]
  ·rw[List.drop_append_of_le_length (by simp;omega),List.map_drop]
 ·rintro m ρ ds ae X ⟨rfl,h0,h1,i,j,L,xi,h5,h6,qB,qp,AA,Qe,rfl⟩ hX
  have tH:((cs.take j).filter λx=>decide (x≠cb)).length=i:=by have:=congrArg List.length qp;simp only[List.length_map,List.length_take]at this;omega
  have Jq:(τ.set a (.cells L.toArray 186 (0,0))).f a=some (.cells L.toArray 186 (0,0)):=aY
  cases m with
  |zero=>
   have vv:j=cs.length:=aa;have c0:¬(j:Int)<cs.length:=aa;simp only[go_sem,seval,h0,h5,h6,c0,decide_false];refine⟨aa,?_⟩;have k1:¬cs.length+pad.length-i=0:=aa;have k2:¬cs.length+pad.length=i:=aa;have ef:(cs.take j).filter (λx=>decide (x≠cb))=cs.filter λx=>decide (x≠cb):=by rw[List.take_of_length_le aa]
   rw[ef]at qp tH;rw[vv,List.drop_length]at AA;refine ag ?_;refine ZH Pb (z0:=.pointer none) rfl rfl (b:=a) (off:=0+i*1) (n:=cs.length-i) (c:=cs.length+pad.length-i) ?_ Jq aa ?_
   ·exact aK k2
   have eL:L.take (0+i*1)++List.replicate (cs.length-i) (.pointer none)++L.drop (0+i*1+(cs.length-i))=(cs.filter λx=>decide (x≠cb)).map pV++(List.replicate (cs.length-i) (.pointer none)++pad):=by rw[show 0+i*1=i by omega,show i+(cs.length-i)=cs.length by omega,qp,AA];simp
   rw[eL,Hp.set_set];refine bt h0 h5 ?_;refine⟨aa,?_⟩;refine ag ?_;refine an aI ao (.inr ⟨a,_,⟨_,_,rfl⟩,?_,rfl⟩);have e1:i+(List.replicate (cs.length-i) (Value.pointer none)++pad).length=cs.length+pad.length:=by rw[List.length_append,List.length_replicate];omega
   rw[tH,e1];simp[up]
  |succ m=>
   have hj:j<cs.length:=aa;have c0:(j:Int)<cs.length:=aa;rw[<-List.getElem_cons_drop hj]at AA;obtain⟨c1,vH⟩:=hl cs[j] (List.getElem_mem hj);obtain⟨c2,sF⟩:=hc cb al
   have hLj:L[j]? =some (pV cs[j]):=by have e0:L[j]? =(L.drop j)[0]? :=al;rw[e0,AA];rfl
   have w3:=fF j;have w4:=fF i;simp only[go_sem,seval,h0,h6,c0,decide_true];refine⟨aa,?_⟩;refine bO Jq hLj h1 ?_;rw[Eg (f:=185) (l:=#[]) (cap:=#[pV bx]) au];refine ag ?_;refine aR (R8 ((Hp.az nbx).trans mI) ((Hp.az (Tg vH)).trans vH) ((Hp.az (Tg sF)).trans sF)) ?_;by_cases hx:cs[j]=cb
   ·simp only[go_sem,seval,hx,decide_true,h6,w3];refine hX m _ _ _ _ aa ⟨rfl,?_,?_,i,j+1,L,aa,?_,?_,aa,?_,?_,Qe,rfl⟩ ao
    ·exact aK h0
    ·exact aK h1
    ·exact aK h5
    ·exact au
    ·rw[qp,List.take_succ_eq_append_getElem hj,List.filter_append];simp[hx]
    ·rw[<-List.tail_drop,AA];rfl
   ·simp only[go_sem,seval,hx,decide_false,h0,h5];refine⟨aa,?_⟩;have FF:∃y,L[i]? =some y:=⟨L[i]'aa,by rw[List.getElem?_eq_getElem]⟩;obtain⟨y,hy⟩:=FF;refine aG Jq ?_;refine⟨aa,?_⟩;rw[Hp.set_set];refine fB h5 h6 w3 w4 ?_;have bj:i<L.length:=aa;refine hX m _ _ _ _ aa ⟨rfl,?_,?_,i+1,j+1,L.set i (pV cs[j]),aa,?_,?_,aa,?_,?_,aZ Qe,rfl⟩ ao
    ·exact aK h0
    ·exact aK h1
    ·exact au
    ·exact au
    ·rw[List.take_succ_eq_append_getElem (aZ bj),List.getElem_set_self,List.take_set_of_le (Nat.le_refl _),qp,List.take_succ_eq_append_getElem hj,List.filter_append];simp[hx]
    ·rw[List.drop_set_of_lt aa,<-List.tail_drop,AA];rfl
section
variable {σ:Hp}{E:Env prog}{cs:List Nat}{v:Value}{cb:Nat}{bx:Nat}{H:Hid}{X:Ext}{h:HN}{nm:List UInt8}{q:QN}{k:Int}{x:XN}
variable {A:Lay}{n:N}{id:Int}
def Sl.le {ety:TypeId}{σ τ:Hp}{xs:List Value}{v:Value}(h:Sl ety σ xs v)(k:σ.le τ):Sl ety τ xs v:=by
 cases h with
 |nil h0=>exact .nil h0
 |«at»a pad ha=>exact .at a pad (k _ _ ha)
def Z0 (a:aq A H n X σ){j k:Int}(hj:(n.x? j).isSome)(hk:(n.x? k).isSome)(e:A.cons j=A.cons k):j=k:=by
 have:=a.inj (.cons j) (.cons k) (by simpa[view]using hj) (by simpa[view]using hk) (by simpa[cD]using e)
 cases this;rfl
def Oy (a:aq A H n X σ)(w:∀j∈q.cons,(n.x? j).isSome)(hx:n.x? k=some x)(hq:n.q? x.q=some q)(hn:q.cons.length<=1000000):
 ay E 140 #[pV A.br,pV (A.cons k)] σ λe τ=>e=.returned (.tuple #[])/\At A (n.cancel k) X τ:=by
 refine aW func140 ntmps140 results140 λQ aC an aA=>?_;have hs:=a.hU hq;have emap:(q.cons.map λk=>pV (A.cons k))=(q.cons.map A.cons).map pV:=by rw[List.map_map];rfl
 rw[emap]at hs;obtain⟨base,cap,kO,_⟩:=hs.read;have mf:=a.sY hq;rw[kO]at mf;simp only[List.length_map]at mf;refine ag ?_;refineλbx mI=>?_;have a1:=λo=>a.iH mI o;have iM:=λo=>(a1 o).eC;simp only at iM;have cB:=λo=>(a1 o).ve hx;have jf:=λo=>jZ (o:=o) mI _ _ mf;refine ag ?_;refine bG 16 ?_;refine bO iM cB jf ?_
 have Rk:∀j,(n.x? j).isSome->∀o,∃c:Array Value,(σ.set bx o).f (A.cons j)=some (.cells c 191 (0,0)):=λj hj o=>by obtain⟨y,hy⟩:=Option.isSome_iff_exists.1 hj;exact⟨_,(a1 o).cons hy⟩
 have cz:∀off n c,H.cv x.q≠.slice (some ⟨bx,off,none⟩) n c:=λoff n' c e=>by
  rcases hs.form with⟨_,h2⟩|⟨a',pad,h1,h2⟩
  ·rw[h2]at e;cases e
  ·rw[h1]at e;simp only[Value.slice.injEq,Option.some.injEq,Addr.mk.injEq]at e;rw[e.1.1]at h2;rw[h2]at mI;cases mI
 refine dC aca (aat (cs:=q.cons.map A.cons) (v:=.slice base q.cons.length cap) (cb:=A.cons k) (bx:=bx) ?_ (aZ hn) ?_ ?_ (iM _) (by rw[kO]at cz;simpa using cz)) ?_ (λch ae h=>by rcases h with⟨h,_⟩|⟨_,_,_,h,_⟩<;>cases h)
 ·have:=λo=>hs.le (jZ (o:=o) mI);rw[kO]at this;simpa using this _
 ·intro y hy;obtain⟨j,hj,rfl⟩:=List.mem_map.1 hy;exact Rk j (w j hj) _
 ·intro y hy;simp only[List.mem_singleton]at hy;subst hy;exact Rk k (by rw[hx];rfl) _
 have aeB:(q.cons.map A.cons).filter (λy=>decide (y≠A.cons k))=(q.cons.filter λj=>decide (j≠k)).map A.cons:=by rw[List.filter_map];congr 1;apply List.filter_congr;intro j hj;simp only[Function.comp,decide_eq_decide,ne_eq];exact not_congr ⟨λe=>Z0 a (w j hj) (by rw[hx];rfl) e,λe=>by rw[e]⟩
 have es:n.cancel k={n.bL x.q (λq=>{q with cons:=q.cons.filter λj=>decide (j≠k)})with xs:=cF n.xs k}:=by unfold N.cancel;rw[hx]
 rintro v τ (⟨hv,nS,rfl⟩|⟨b,pad,⟨n',c',hv0⟩,hv,rfl⟩)
 ·cases hv
  have hk:q.cons.filter (λj=>decide (j≠k))=q.cons:=by rw[List.filter_eq_self];intro j hj;simpa usingλe:j=k=>nS (by subst e;exact List.mem_map_of_mem hj)
  refine⟨iP iM cB,?_⟩;refine aG jf ?_;refine⟨dA iM cB jf,?_⟩;refine aC du ao ⟨rfl,H,?_⟩;have a2:=(a1 (.cells (Value.cells (pV (A.cons k))) 186)).Hj (nm:=x.q) hq (λq=>{q with cons:=q.cons.filter λj=>decide (j≠k)}) rfl hk;rw[kO]at a2;simp only[List.length_map]at a2;rw[es];exact a2.oD.OZ k
 ·rw[aeB]at hv|-;have hb:base=some ⟨b,0,none⟩:=by injection hv0
  obtain⟨z,JN⟩:∃z,σ.f b=some (.cells z 186 (0,0)):=by
   rcases hs.form with⟨_,h2⟩|⟨a',ala,h1,h2⟩
   ·rw[kO,hb]at h2;cases h2
   ·rw[kO,hb]at h1;simp only[Value.slice.injEq,Option.some.injEq,Addr.mk.injEq]at h1;rw[h1.1.1];exact⟨_,h2⟩
  have n1:¬bx=b:=bp mI JN;have n2:¬A.cons k=b:=λe=>by have:=a.cons hx;rw[e,JN]at this;simp[kJ]at this
  have n3:¬A.queue x.q=b:=λe=>by rw[e,JN]at mf;simp at mf
  have eQ:=λo o'=>(Hp.az (o:=o') n1).trans (iM o);have dP:=λo o'=>(Hp.az (o:=o') n2).trans (cB o);have gD:=λo o'=>(Hp.az (o:=o') n3).trans (jf o)
  cases hv
  refine⟨iP eQ dP,?_⟩;refine aG gD ?_;refine⟨dA eQ dP gD,?_⟩;refine aC du ao ⟨rfl,H.oZ x.q (.slice (some ⟨b,0,none⟩) ((q.cons.filter λj=>decide (j≠k)).map A.cons).length (((q.cons.filter λj=>decide (j≠k)).map A.cons).length+pad.length)),?_⟩;have Dg:kC (H.cv x.q)=false:=by rw[kO,hb];rfl
  have eb:po (H.cv x.q)=b:=by rw[kO,hb];rfl
  have ec:((q.cons.filter λj=>decide (j≠k)).map λj=>pV (A.cons j))=((q.cons.filter λj=>decide (j≠k)).map A.cons).map pV:=by rw[List.map_map];rfl
  have a2:=(a1 (.cells (Value.cells (pV (A.cons k))) 186)).Uj (nm:=x.q) hq (b:=b) (λq=>{q with cons:=q.cons.filter λj=>decide (j≠k)}) rfl
   (by have:=Hl.apart (a1 (.cells (Value.cells (pV (A.cons k))) 186)) (.hU x.q) (by rw[OV hq Dg];rfl);rw[<-eb];exact this)
   (cv:=.slice (some ⟨b,0,none⟩) ((q.cons.filter λj=>decide (j≠k)).map A.cons).length (((q.cons.filter λj=>decide (j≠k)).map A.cons).length+pad.length)) (o:=.cells (((q.cons.filter λj=>decide (j≠k)).map A.cons).map pV++pad).toArray 186 (0,0))
   ⟨b,pad,al,by simp only;rw[ec]⟩ rfl
  rw[es];exact a2.oD.OZ k
end
abbrev dS(blk:Nat)(n cap:Nat):Value:=.slice (some ⟨blk,0,none⟩) n cap
def Mx(σ:Hp)(blk:Nat)(d:List Int)(pad:List Value)(τ:Hp):Prop:=∃xs:List Int,xs.Perm d/\τ=σ.set blk (.cells (xs.map aV++pad).toArray 3 (0,0))
variable {x:XN}
def rU(σ:Hp)(blk n:Nat):Prop:=∃L:List Value,σ.f blk=some (.cells L.toArray 3 (0,0))/\∀i<n,∃x:Int,L[i]? =some (iV x)
def A4{E:Env P}{N:Nat}{c:Code}{Q:Post}(e:Ex)(F:av->Hp->Prop)(h2:∀aD ae,F aD ae->Q e aD [] ae)(h1:∀Q':Post,(∀aD ae,F aD ae->Q' e aD [] ae)->cK E N c Q' ρ [] σ):cK E N c Q ρ [] σ:=h1 Q h2
variable {blk n i j:Nat}
def rU.two(h:rU σ blk n)(hi:i<n)(hj:j<n):∃(L:List Value) (x y:Int),σ.f blk=some (.cells L.toArray 3 (0,0))/\((0:Int)<=i/\(i:Int)<n)/\((0:Int)<=j/\(j:Int)<n)/\L[i]? =some (iV x)/\L[j]? =some (iV y):=by obtain⟨L,h1,h2⟩:=h;obtain⟨x,hx⟩:=h2 i hi;obtain⟨y,hy⟩:=h2 j hj;exact⟨L,x,y,h1,aa,aa,hx,hy⟩
variable {sb:Nat}
def rU.set(h:rU σ blk n)(aE:blk≠sb)(o:Obj):rU (σ.set sb o) blk n:=by obtain⟨L,h1,h2⟩:=h;exact⟨L,(Hp.az aE).trans h1,h2⟩
variable {τ:Hp}{d:List Int}{pad:List Value}
def Mx.two(h:Mx σ blk d pad τ)(hi:i<d.length)(hj:j<d.length):∃(L:List Value) (x y:Int),τ.f blk=some (.cells L.toArray 3 (0,0))/\((0:Int)<=i/\(i:Int)<d.length)/\((0:Int)<=j/\(j:Int)<d.length)/\L[i]? =some (iV x)/\L[j]? =some (iV y)/\i<L.length/\j<L.length/\Mx σ blk d pad (τ.set blk (.cells ((L.set i (iV y)).set j (iV x)).toArray 3 (0,0))):=by
 obtain⟨xs,p,rfl⟩:=h;have hl:=p.length_eq;rw[<-hl]at hi hj;refine⟨_,xs[i],xs[j],aY,aa,aa,?_,?_,by simp;omega,by simp;omega,(xs.set i xs[j]).set j xs[i],(List.set_set_perm hi hj).trans p,?_⟩
 ·rw[List.getElem?_append_left (aZ hi)];simp[hi,aV]
 ·rw[List.getElem?_append_left (aZ hj)];simp[hj,aV]
 ·rw[Hp.set_set,List.set_append_left _ _ (aZ hi),List.set_append_left _ _ (aZ hj),List.map_set,List.map_set];rfl
def Mx.rd(h:Mx σ blk d pad τ):rU τ blk d.length:=by have k:=h;obtain⟨xs,p,rfl⟩:=k;exact⟨_,aY,λi hi=>by obtain⟨L,x,_,h1,_,_,h2,_⟩:=h.two hi hi;rw[Hp.bD]at h1;cases h1;exact⟨x,h2⟩⟩
variable {cap et:Nat}{s:Int}{lo hi:Nat}
def LR(hd:rU σ blk n)(hs:σ.f sb=some (.cells [iV s].toArray et (0,0)))(ha:lo<=a/\a<hi)(hb:lo<=b/\b<hi)(hn:hi<=n):
 ay E 237 #[dS blk n cap,iV a,iV b,pV sb] σ λe τ=>(∃x y:Nat,(lo<=x/\x<hi)/\(lo<=y/\y<hi)/\e=.returned (.tuple #[iV x,iV y]))/\∃s:Int,τ=σ.set sb (.cells [iV s].toArray et (0,0)):=by
 refine aW func237 ntmps237 results237 λQ aC an aA=>?_;obtain⟨L,x,y,fa,c1,c2,ga,gb⟩:=hd.two (i:=a) (j:=b) aa aa;simp only[go_sem,seval,dS];refine bG 9 ?_;refine lO c1 c2 fa ga gb ?_;refine aR oS ?_;refine⟨dA fa ga gb,?_⟩
 cases decide (y<x)with
 |false=>
  refine ag ?_;exact an (τ:=σ) iT ao ⟨⟨a,b,ha,hb,by simp[up]⟩,s,by rw[Hp.Hk hs]⟩
 |true=>
  refine aG hs ?_;exact an iT ao ⟨⟨b,a,hb,ha,by simp[up]⟩,_,rfl⟩
variable {c:Nat}
def Lp(hd:rU σ blk n)(hs:σ.f sb=some (.cells [iV s].toArray et (0,0)))(aE:blk≠sb)(ha:lo<=a/\a<hi)(hb:lo<=b/\b<hi)(hc:lo<=c/\c<hi)(hn:hi<=n):
 ay E 213 #[dS blk n cap,iV a,iV b,iV c,pV sb] σ λe τ=>(∃x:Nat,(lo<=x/\x<hi)/\e=.returned (iV x))/\∃s:Int,τ=σ.set sb (.cells [iV s].toArray et (0,0)):=by
 refine aW func213 ntmps213 results213 λQ aC an aA=>?_;have pN:∀o,(σ.set sb o).f sb=some o:=λ_=>aY;refine ag ?_;refine dC I9 (LR (cap:=cap) hd hs ha hb hn) ?_ (λch ae ⟨⟨_,_,_,_,h⟩,_⟩=>by cases h);rintro v τ ⟨⟨x1,y1,vH,hy1,hv⟩,s1,rfl⟩
 cases hv
 refine ag ?_;refine dC I9 (LR (cap:=cap) (hd.set aE _) (pN _) hy1 hc hn) ?_ (λch ae ⟨⟨_,_,_,_,h⟩,_⟩=>by cases h);rintro v τ ⟨⟨x2,y2,sF,RU,hv⟩,s2,rfl⟩
 cases hv
 rw[Hp.set_set];refine ag ?_;refine dC I9 (LR (cap:=cap) (hd.set aE _) (pN _) vH sF hn) ?_ (λch ae ⟨⟨_,_,_,_,h⟩,_⟩=>by cases h);rintro v τ ⟨⟨x3,y3,RN,hy3,hv⟩,s3,rfl⟩
 cases hv
 rw[Hp.set_set];refine ag ?_;exact an aI ao ⟨⟨y3,hy3,by simp[up]⟩,s3,rfl⟩
def Lo(hd:rU σ blk n)(hs:σ.f sb=some (.cells [iV s].toArray et (0,0)))(aE:blk≠sb)(ha:lo+1<=a/\a+1<hi)(hn:hi<=n)(hh:hi<=1000000):
 ay E 212 #[dS blk n cap,iV a,pV sb] σ λe τ=>(∃x:Nat,(lo<=x/\x<hi)/\e=.returned (iV x))/\∃s:Int,τ=σ.set sb (.cells [iV s].toArray et (0,0)):=by
 refine aW func212 ntmps212 results212 λQ aC an aA=>?_;have w1:IntKind.i64.wrap ((a:Int)-1)=((a-1:Nat):Int):=cI;have w2:=fF a;refine bt w1 w2 ?_;refine aL (Lp (cap:=cap) (lo:=lo) (hi:=hi) hd hs aE aa aa aa hn) ?_;rintro v τ ⟨⟨x,hx,hv⟩,s2,rfl⟩
 cases hv
 refine ag ?_;exact an aI ao ⟨⟨x,hx,by simp[up]⟩,s2,rfl⟩
def am6(M:Mx σ blk d pad τ)(hb:b<=d.length)(iM:1<=b)(hn:d.length<=1000000)(ha:a<=b):
 ay E 166 #[dS blk d.length cap,iV a,iV b] τ λe τ=>e=.returned (.tuple #[])/\Mx σ blk d pad τ:=by
 refine aW func166 ntmps166 results166 λQ aC an aA=>?_;have w1:IntKind.i64.wrap ((b:Int)-1)=((b-1:Nat):Int):=cI;have sk:∀x,de (iV x)=true:=λ_=>rfl;refine aG w1 ?_;refine dh (λm ρ ds ae=>ds=[]/\ρ 0=dS blk d.length cap/\∃(i j:Nat),m=j-i/\ρ 6=iV i/\ρ 7=iV j/\j<b/\Mx σ blk d pad ae) (b-1-a) ?_ ?_
 ·refine⟨rfl,?_,a,b-1,rfl,?_,?_,aa,M⟩<;>exact au
 rintro m ρ ds cZ Y ⟨rfl,h0,i,j,rfl,h6,h7,hj,M⟩ hY;by_cases qB:i<j
 ·have k:(i:Int)<j:=aa;have w2:=fF i;have w3:IntKind.i64.wrap ((j:Int)-1)=((j-1:Nat):Int):=cI;refine bO h6 h7 k ?_;obtain⟨L,x,y,fa,cx,cy,gx,gy,l1,l2,M2⟩:=M.two (i:=i) (j:=j) aa aa;refine bG 16 ?_;simp only[go_sem,seval,h0,h6,h7,cx,cy,fa,gx,gy,sk,l1];refine⟨dA fa gx gy,?_⟩;refine ag ?_;refine⟨l2,?_⟩;refine⟨dA fa gx gy,?_⟩;refine fB h6 h7 w2 w3 ?_
  try rw[Hp.set_set]
  refine hY (j-1-(i+1)) _ _ _ _ aa ⟨rfl,?_,i+1,j-1,rfl,?_,?_,aa,M2⟩ ao<;>exact aK h0
 ·have k:¬(i:Int)<j:=aa;refine bO h6 h7 k ?_;exact aC du ao ⟨rfl,M⟩
def agv(M:Mx σ blk d pad τ)(di:a<=b)(hb:b<=d.length)(hn:d.length<=1000000):
 ay E 162 #[dS blk d.length cap,iV a,iV b] τ λe τ=>e=.returned (.tuple #[])/\Mx σ blk d pad τ:=by
 refine aW func162 ntmps162 results162 λQ aC an aA=>?_;have w1:=fF a;have sk:∀x,de (iV x)=true:=λ_=>rfl;refine aG w1 ?_;refine dh (λm ρ ds ae=>ds=[]/\ρ 0=dS blk d.length cap/\ρ 1=iV a/\ρ 2=iV b/\∃i:Nat,m=b-i/\ρ 6=iV i/\a<i/\i<=b+1/\Mx σ blk d pad ae) (b-(a+1)) ?_ ?_
 ·refine⟨rfl,?_,?_,?_,a+1,rfl,?_,aa,aa,M⟩<;>exact au
 rintro m ρ ds cZ Y ⟨rfl,h0,h1,h2,i,rfl,h6,CK,C6,M⟩ hY;by_cases qB:i<b
 ·have k:(i:Int)<b:=aa;have w2:=fF i;refine bO h2 h6 k ?_;refine dh (λ(j:Nat) ρ ds ae=>ds=[]/\ρ 0=dS blk d.length cap/\ρ 1=iV a/\ρ 2=iV b/\ρ 6=iV i/\ρ 7=iV j/\a<=j/\j<=i/\Mx σ blk d pad ae) i ?_ ?_
  ·refine⟨rfl,?_,?_,?_,?_,?_,aa,aa,M⟩<;>exact iB h0 h1 h2 h6
  clear M h0 h1 h2 h6;rintro j ρ ds cZ Y2 ⟨rfl,h0,h1,h2,h6,h7,haj,AO,M⟩ Jx;refine ag ?_;refine bG 15 ?_;by_cases hj:a<j
  ·obtain⟨p,hp⟩:∃p,p=j-1:=⟨_,rfl⟩;have kj:(j:Int)>a:=aa;have w3:IntKind.i64.wrap ((j:Int)-1)=(p:Int):=cI;obtain⟨L,x,y,fa,c1,c2,gi,gj⟩:=M.rd.two (i:=j) (j:=p) aa aa;simp only[go_sem,seval,h0,h1,h7,kj,c1,c2,w3,fa,gi,gj];refine aR oS ?_;refine⟨dA fa gi gj,?_⟩
   cases decide (x<y)with
   |false=>
    refine bt h6 w2 ?_;refine hY (b-(i+1)) _ _ _ _ aa ⟨rfl,?_,?_,?_,i+1,rfl,?_,aa,aa,M⟩ ao<;>exact nC h0 h1 h2
   |true=>
    refine ag ?_;obtain⟨L,x,y,fa,cx,cy,gx,gy,l1,l2,M2⟩:=M.two (i:=j) (j:=p) aa aa;refine bG 18 ?_;simp only[go_sem,seval,h0,h7,w3,cx,cy,fa,gx,gy,sk,l1];refine⟨dA fa gx gy,?_⟩;refine ag ?_;refine⟨l2,?_⟩;refine⟨dA fa gx gy,?_⟩;refine bt h7 w3 ?_
    try rw[Hp.set_set]
    refine Jx p _ _ _ _ aa ⟨rfl,?_,?_,?_,?_,?_,aa,aa,M2⟩ ao<;>exact iB h0 h1 h2 h6
  ·have kj:¬(j:Int)>a:=aa;refine lO h1 h6 h7 kj w2 ?_;refine hY (b-(i+1)) _ _ _ _ aa ⟨rfl,?_,?_,?_,i+1,rfl,?_,aa,aa,M⟩ ao<;>exact nC h0 h1 h2
 ·have k:¬(i:Int)<b:=aa;refine bO h2 h6 k ?_;exact aC du ao ⟨rfl,M⟩
variable {h:HN}
def ZA(hd:rU σ blk n)(di:a+12<b)(hb:b<=n)(hn:n<=1000000):
 ay E 165 #[dS blk n cap,iV a,iV b] σ λe τ=>(∃(x:Nat) (h:Int),(a<=x/\x<b)/\e=.returned (.tuple #[iV x,iV h]))/\τ=σ:=by
 refine aW func165 ntmps165 results165 λQ aC an aA=>?_;obtain⟨l,hl⟩:∃l,l=b-a:=⟨_,rfl⟩;obtain⟨q,hq⟩:∃q,q=l/4:=⟨_,rfl⟩;have w1:IntKind.i64.wrap ((b:Int)-(a:Int))=(l:Int):=cI
 have w4:IntKind.i64.wrap ((l:Int).tdiv 4)=(q:Int):=by
  have:(l:Int).tdiv 4=(q:Int):=by rw[hq];rfl
  rw[this,wrap64 aa aa]
 obtain⟨j2,qC⟩:∃j,j=q*2:=⟨_,rfl⟩;obtain⟨k3,Q8⟩:∃j,j=q*3:=⟨_,rfl⟩;obtain⟨i,hi⟩:∃i,i=a+q:=⟨_,rfl⟩;obtain⟨j,hj⟩:∃j,j=a+j2:=⟨_,rfl⟩;obtain⟨k,hk⟩:∃k,k=a+k3:=⟨_,rfl⟩;have m2:IntKind.i64.wrap ((q:Int)*2)=(j2:Int):=cI;have m3:IntKind.i64.wrap ((q:Int)*3)=(k3:Int):=cI;have m0:IntKind.i64.wrap ((q:Int)*1)=(q:Int):=cI;have t1:IntKind.i64.wrap ((a:Int)+(q:Int))=(i:Int):=cI;have t2:IntKind.i64.wrap ((a:Int)+(j2:Int))=(j:Int):=cI;have t3:IntKind.i64.wrap ((a:Int)+(k3:Int))=(k:Int):=cI;have k8:(8:Int)<=l:=aa;refine aG w1 ?_;refineλb9 oJ=>?_;have aE:blk≠b9:=λe=>by obtain⟨_,h,_⟩:=hd;rw[e,oJ]at h;cases h
 have gP:∀o,σ.le (σ.set b9 o):=λo x p hx=>by rw[Hp.az (bp oJ hx)];exact hx
 have ec:(Value.int IntKind.i64 0).cells=[iV 0].toArray:=by first|rfl|simp[Value.cells]
 have fp:∀o,rU (σ.set b9 o) blk n:=λo=>hd.set aE o;have pN:∀o,(σ.set b9 o).f b9=some o:=λ_=>aY;refine pT w4 m0 m2 m3 t1 t2 t3 k8 ?_;rw[ec];by_cases vn:l>=50
 ·have KS:(50:Int)<=l:=aa;refine aG KS ?_;refine aL (Lo (cap:=cap) (a:=i) (lo:=a) (hi:=b) (s:=0) (et:=3) (fp _) (pN _) aE aa hb aa) ?_;rintro v τ ⟨⟨x1,vH,hv⟩,s1,rfl⟩
  cases hv
  rw[Hp.set_set];refine ag ?_;refine aL (Lo (cap:=cap) (a:=j) (lo:=a) (hi:=b) (s:=s1) (et:=3) (fp _) (pN _) aE aa hb aa) ?_;rintro v τ ⟨⟨x2,sF,hv⟩,s2,rfl⟩
  cases hv
  rw[Hp.set_set];refine ag ?_;refine aL (Lo (cap:=cap) (a:=k) (lo:=a) (hi:=b) (s:=s2) (et:=3) (fp _) (pN _) aE aa hb aa) ?_;rintro v τ ⟨⟨x3,RN,hv⟩,s3,rfl⟩
  cases hv
  rw[Hp.set_set];refine ag ?_;refine aL (Lp (cap:=cap) (lo:=a) (hi:=b) (s:=s3) (et:=3) (fp _) (pN _) aE vH sF RN hb) ?_;rintro v τ ⟨⟨x,hx,hv⟩,s,rfl⟩
  cases hv
  rw[Hp.set_set];by_cases z0:s=0
  ·refine bt pN z0 ?_;exact an iT (gP _) ⟨⟨x,_,hx,by simp[up];rfl⟩,rfl⟩
  by_cases z1:s=12
  ·refine bt pN z1 ?_;exact an iT (gP _) ⟨⟨x,_,hx,by simp[up];rfl⟩,rfl⟩
  ·refine bO pN z0 z1 ?_;exact an iT (gP _) ⟨⟨x,_,hx,by simp[up];rfl⟩,rfl⟩
 ·have KS:¬(50:Int)<=l:=aa;refine aG KS ?_;refine aL (Lp (cap:=cap) (lo:=a) (hi:=b) (s:=0) (et:=3) (fp _) (pN _) aE (b:=j) (a:=i) (c:=k) aa aa aa hb) ?_;rintro v τ ⟨⟨x,hx,hv⟩,s,rfl⟩
  cases hv
  rw[Hp.set_set];by_cases z0:s=0
  ·refine bt pN z0 ?_;exact an iT (gP _) ⟨⟨x,_,hx,by simp[up];rfl⟩,rfl⟩
  by_cases z1:s=12
  ·refine bt pN z1 ?_;exact an iT (gP _) ⟨⟨x,_,hx,by simp[up];rfl⟩,rfl⟩
  ·refine bO pN z0 z1 ?_;exact an iT (gP _) ⟨⟨x,_,hx,by simp[up];rfl⟩,rfl⟩
def Uq{first:Nat}(M:Mx σ blk d pad τ)(hb:first+hi<=d.length)(AQ:lo<=d.length)(hn:d.length<=1000000):
 ay E 209 #[dS blk d.length cap,iV lo,iV hi,iV first] τ λe τ=>e=.returned (.tuple #[])/\Mx σ blk d pad τ:=by
 refine aW func209 ntmps209 results209 λQ aC an aA=>?_;have sk:∀x,de (iV x)=true:=λ_=>rfl;refine ag ?_;refine dh (λm ρ ds ae=>ds=[]/\ρ 0=dS blk d.length cap/\ρ 2=iV hi/\ρ 3=iV first/\∃root:Nat,m=hi-root/\ρ 8=iV root/\root<=d.length/\Mx σ blk d pad ae) (hi-lo) ?_ ?_
 ·refine⟨rfl,?_,?_,?_,lo,rfl,?_,AQ,M⟩<;>exact au
 clear M;rintro m ρ ds τ Y ⟨rfl,h0,h2,h3,root,rfl,h8,AU,M⟩ hY;obtain⟨r2,bY⟩:∃r2,r2=2*root:=⟨_,rfl⟩;obtain⟨ch,dK⟩:∃ch,ch=2*root+1:=⟨_,rfl⟩;have m1:IntKind.i64.wrap (2*(root:Int))=(r2:Int):=cI;have m2:IntKind.i64.wrap ((r2:Int)+1)=(ch:Int):=cI;have m3:=fF ch;by_cases sA:hi<=ch
 ·have k1:(hi:Int)<=ch:=aa;refine lO h2 h8 m1 m2 k1 ?_;exact aC du ao ⟨rfl,M⟩
 have k1:¬(hi:Int)<=ch:=aa;refine BK (fG λK1 oH=>?_);refine bO h8 m1 m2 ?_;refine oH _ _ _ (fG λK2 pD=>?_);refine bt h2 k1 ?_;refine pD _ _ _ (fG λK3 ri=>?_);clear oH pD
 have tail:∀(ρ:av) (c:Nat),ρ 0=dS blk d.length cap->ρ 2=iV hi->ρ 3=iV first->ρ 8=iV root->ρ 9=iV c->root<c->c<hi->K3 ρ [] τ:=by
  clear h0 h2 h3 h8 ρ;intro ρ c h0 h2 h3 h8 h9 hrc hc;refine ri _ _ _ ?_;clear ri;obtain⟨p,hp⟩:∃p,p=first+root:=⟨_,rfl⟩
  obtain⟨q,hq⟩:∃q,q=first+c:=⟨_,rfl⟩
  have wp:IntKind.i64.wrap ((first:Int)+(root:Int))=(p:Int):=cI;have wq:IntKind.i64.wrap ((first:Int)+(c:Int))=(q:Int):=cI;obtain⟨L,x,y,fa,cx,cy,gx,gy,l1,l2,M2⟩:=M.two (i:=p) (j:=q) aa aa;refine ag ?_;refine bG 14 ?_;simp only[go_sem,seval,h0,h3,h8,h9,wp,wq,cx,cy,fa,gx,gy];refine aR oS ?_;refine⟨dA fa gx gy,?_⟩
  cases decide (x<y)with
  |false=>
   refine ag ?_;exact an du ao ⟨rfl,M⟩
  |true=>
   refine ag ?_;refine bG 24 ?_;simp only[go_sem,seval,h0,h3,h8,h9,wp,wq,cx,cy,fa,gx,gy,sk,l1];refine⟨dA fa gx gy,?_⟩;refine ag ?_;refine⟨l2,?_⟩;refine⟨dA fa gx gy,?_⟩;refine aG h9 ?_
   try rw[Hp.set_set]
   refine hY (hi-c) _ _ _ _ aa ⟨rfl,?_,?_,?_,c,rfl,?_,aa,M2⟩ ao<;>exact nC h0 h2 h3
 refine ag ?_;refine bG 20 ?_;by_cases fL:ch+1<hi
 ·have k2:((ch+1:Nat):Int)<hi:=aa;obtain⟨p,hp⟩:∃p,p=first+ch:=⟨_,rfl⟩
  have wp:IntKind.i64.wrap ((first:Int)+(ch:Int))=(p:Int):=cI;have wq:=fF p;obtain⟨L,x,y,fa,cx,cy,gx,gy⟩:=M.rd.two (i:=p) (j:=p+1) aa aa;simp only[go_sem,seval,h0,h2,h3,m3,k2,wp,wq,cx,cy,fa,gx,gy];refine aR oS ?_;refine⟨dA fa gx gy,?_⟩
  cases decide (x<y)with
  |true=>
   refine aG m3 ?_;refine tail _ (ch+1) ?_ ?_ ?_ ?_ ?_ aa aa<;>exact iB h0 h2 h3 h8
  |false=>
   refine ag ?_;refine tail _ ch ?_ ?_ ?_ ?_ ?_ aa aa<;>exact iB h0 h2 h3 h8
 ·have k2:¬((ch+1:Nat):Int)<hi:=aa;refine bO h2 m3 k2 ?_;refine tail _ ch ?_ ?_ ?_ ?_ ?_ aa aa<;>exact iB h0 h2 h3 h8
def aee(M:Mx σ blk d pad τ)(di:a+12<b)(hb:b<=d.length)(hn:d.length<=1000000):
 ay E 163 #[dS blk d.length cap,iV a,iV b] τ λe τ=>e=.returned (.tuple #[])/\Mx σ blk d pad τ:=by
 refine aW func163 ntmps163 results163 λQ aC an aA=>?_;have sk:∀x,de (iV x)=true:=λ_=>rfl;obtain⟨hi,C4⟩:∃hi,hi=b-a:=⟨_,rfl⟩;obtain⟨l9,arH⟩:∃l9,l9=hi-1:=⟨_,rfl⟩;obtain⟨g,hg⟩:∃g,g=l9/2:=⟨_,rfl⟩;have w1:IntKind.i64.wrap ((b:Int)-(a:Int))=(hi:Int):=cI;have w2:IntKind.i64.wrap ((hi:Int)-1)=(l9:Int):=cI
 have w3:IntKind.i64.wrap ((l9:Int).tdiv 2)=(g:Int):=by
  have:(l9:Int).tdiv 2=(g:Int):=by rw[hg];rfl
  rw[this,wrap64 aa aa]
 refine bO w1 w2 w3 ?_;refine dh (λk ρ ds ae=>ds=[]/\ρ 0=dS blk d.length cap/\ρ 6=iV a/\ρ 7=iV 0/\ρ 8=iV hi/\∃z:Int,z=(k:Int)-1/\ρ 9=iV z/\k<=g+1/\Mx σ blk d pad ae) (g+1) ?_ ?_
 ·refine⟨rfl,?_,?_,?_,?_,g,aa,?_,Nat.le_refl _,M⟩<;>exact au
 clear M;rintro k ρ ds τ Y ⟨rfl,h0,h6,h7,h8,z,hz,h9,hk,M⟩ hY;have w4:IntKind.i64.wrap (z-1)=z-1:=cI
 cases k with
 |succ k=>
  have c0:(0:Int)<=z:=aa;obtain rfl:z=(k:Int):=aa;refine lO h0 h6 h8 h9 c0 ?_;refine aL (Uq M aa aa aa) ?_;rintro v τ ⟨hv,M⟩
  cases hv
  refine bt h9 w4 ?_;refine hY k _ _ _ _ aa ⟨rfl,?_,?_,?_,?_,_,rfl,?_,aa,M⟩ ao<;>exact iB h0 h6 h7 h8
 |zero=>
  have c0:¬(0:Int)<=z:=aa;refine fB h8 h9 c0 w2 ?_;clear hY hz;refine dh (λk ρ ds ae=>ds=[]/\ρ 0=dS blk d.length cap/\ρ 6=iV a/\ρ 7=iV 0/\∃z:Int,z=(k:Int)-1/\ρ 10=iV z/\k<=hi/\Mx σ blk d pad ae) hi ?_ ?_
  ·refine⟨rfl,?_,?_,?_,l9,aa,?_,Nat.le_refl _,M⟩<;>exact nC h0 h6 h7
  clear M h0 h6 h7 h8 h9 ρ w4 c0 z;rintro k ρ ds τ Y ⟨rfl,h0,h6,h7,z,hz,bA,hk,M⟩ hY;have w4:IntKind.i64.wrap (z-1)=z-1:=cI
  cases k with
  |succ k=>
   have c1:(0:Int)<=z:=aa;obtain rfl:z=(k:Int):=aa;obtain⟨y',tU⟩:∃y,y=a+k:=⟨_,rfl⟩;have w6:IntKind.i64.wrap ((a:Int)+(k:Int))=(y':Int):=cI;refine bt bA c1 ?_;obtain⟨L,x,y,fa,cx,cy,gx,gy,l1,l2,M2⟩:=M.two (i:=a) (j:=y') aa aa;refine bG 20 ?_;simp only[go_sem,seval,h0,h6,bA,w6,cx,cy,fa,gx,gy,sk,l1];refine⟨dA fa gx gy,?_⟩;refine ag ?_;refine⟨l2,?_⟩;refine⟨dA fa gx gy,?_⟩;refine fB h0 h6 h7 bA ?_
   try rw[Hp.set_set]
   have hsd:=Uq (E:=E) (cap:=cap) (lo:=0) (hi:=k) (first:=a) M2 aa aa aa;refine aL hsd ?_;rintro v τ ⟨hv,M⟩
   cases hv
   refine bt bA w4 ?_;refine hY k _ _ _ _ aa ⟨rfl,?_,?_,?_,_,rfl,?_,aa,M⟩ ao<;>exact nC h0 h6 h7
  |zero=>
   have c1:¬(0:Int)<=z:=aa;refine bt bA c1 ?_;exact aC du ao ⟨rfl,M⟩
def ale{pv:Nat}(M:Mx σ blk d pad τ)(di:a+12<b)(hb:b<=d.length)(hn:d.length<=1000000)(Gm:a<=pv)(sD:pv<b):
 ay E 170 #[dS blk d.length cap,iV a,iV b,iV pv] τ λe τ=>(∃(m:Nat) (r:Bool),a<=m/\m<b/\e=.returned (.tuple #[iV m,.bool r]))/\Mx σ blk d pad τ:=by
 refine aW func170 ntmps170 results170 λQ aC an aA=>?_;obtain⟨a1,da⟩:∃a1,a1=a+1:=⟨_,rfl⟩;obtain⟨b1,iM⟩:∃b1,b1=b-1:=⟨_,rfl⟩;have wa:IntKind.i64.wrap ((a:Int)+1)=(a1:Int):=cI;have wb:IntKind.i64.wrap ((b:Int)-1)=(b1:Int):=cI;have sk:∀x,de (iV x)=true:=λ_=>rfl;refine ag ?_;obtain⟨L,x,y,fa,cx,cy,gx,gy,l1,l2,M2⟩:=M.two (i:=a) (j:=pv) aa aa;refine bG 16 ?_;refine Es cx cy fa gx gy sk l1 ?_;refine⟨dA fa gx gy,?_⟩;refine ag ?_;refine⟨l2,?_⟩;refine⟨dA fa gx gy,?_⟩;refine bt wa wb ?_
 try rw[Hp.set_set]
 clear M;generalize τ.set blk _=τ at*;have M:=M2;clear M2;refine A4 (.exit 0) (λρ ae=>(ρ 0=dS blk d.length cap/\ρ 1=iV a/\ρ 11=iV b1)/\ae=τ/\∃k:Nat,ρ 10=iV k/\a1<=k/\(k<=b1+1\/k=a1)) ?_ λQ hQ=>?_
 rotate_left
 ·refine dh (λm ρ ds ae=>ds=[]/\(ρ 0=dS blk d.length cap/\ρ 1=iV a/\ρ 11=iV b1)/\ae=τ/\∃k:Nat,ρ 10=iV k/\m=b1+1-k/\a1<=k/\(k<=b1+1\/k=a1)) (b1+1-a1) ?_ ?_
  ·refine⟨rfl,⟨?_,?_,?_⟩,rfl,a1,?_,rfl,aa,aa⟩<;>exact au
  rintro m ρ ds _ X ⟨rfl,⟨g0,g1,gj⟩,rfl,k,gk,rfl,iO,gQ⟩ hX;refine ag ?_;refine bG 14 ?_;by_cases hle:k<=b1
  ·have c0:(k:Int)<=b1:=aa;obtain⟨L,x,y,fa,cx,ca,gx,ga⟩:=M.rd.two (i:=k) (j:=a) aa aa;have wk:=fF k;simp only[go_sem,seval,g0,g1,gj,gk,c0,cx,ca,fa,gx,ga];refine aR oS ?_;refine⟨dA fa gx ga,?_⟩
   cases decide (x<y)with
   |true=>
    refine bt gk wk ?_;refine hX _ _ _ _ _ aa ⟨rfl,⟨?_,?_,?_⟩,rfl,k+1,?_,rfl,aa,aa⟩ ao<;>exact nC g0 g1 gj
   |false=>
    refine ag ?_;refine hQ _ _ ⟨⟨?_,?_,?_⟩,rfl,k,?_,iO,gQ⟩<;>exact iB g0 g1 gj gk
  ·have c0:¬(k:Int)<=b1:=aa;refine bO gj gk c0 ?_;refine hQ _ _ ⟨⟨?_,?_,?_⟩,rfl,k,?_,iO,gQ⟩<;>exact iB g0 g1 gj gk
 rintro ρ τ ⟨⟨h0,h1,bP⟩,rfl,i2,bA,NY,Ae⟩;refine ag ?_;refine A4 (.exit 2) (λρ ae=>(ρ 0=dS blk d.length cap/\ρ 1=iV a/\ρ 10=iV i2)/\ae=τ/\∃k:Nat,ρ 11=iV k/\k<=b1/\(i2<=k+1\/k=b1)) ?_ λQ hQ=>?_
 rotate_left
 ·refine dh (λk ρ ds ae=>ds=[]/\(ρ 0=dS blk d.length cap/\ρ 1=iV a/\ρ 10=iV i2)/\ae=τ/\ρ 11=iV k/\k<=b1/\(i2<=k+1\/k=b1)) (b1) ?_ ?_
  ·refine⟨rfl,⟨?_,?_,?_⟩,rfl,?_,aa,aa⟩<;>exact iB h0 h1 bA bP
  rintro k ρ ds _ X ⟨rfl,⟨g0,g1,gj⟩,rfl,gk,iO,gQ⟩ hX;refine ag ?_;refine bG 15 ?_;by_cases hle:i2<=k
  ·have c0:(i2:Int)<=k:=aa;obtain⟨L,x,y,fa,cx,ca,gx,ga⟩:=M.rd.two (i:=k) (j:=a) aa aa;obtain⟨p,hp⟩:∃p,p=k-1:=⟨_,rfl⟩;have wk:IntKind.i64.wrap ((k:Int)-1)=(p:Int):=cI;simp only[go_sem,seval,g0,g1,gj,gk,c0,cx,ca,fa,gx,ga];refine aR oS ?_;refine⟨dA fa gx ga,?_⟩
   cases decide (x<y)with
   |false=>
    refine bt gk wk ?_;refine hX p _ _ _ _ aa ⟨rfl,⟨?_,?_,?_⟩,rfl,?_,aa,aa⟩ ao<;>exact nC g0 g1 gj
   |true=>
    refine ag ?_;refine hQ _ _ ⟨⟨?_,?_,?_⟩,rfl,k,?_,iO,gQ⟩<;>exact iB g0 g1 gj gk
  ·have c0:¬(i2:Int)<=k:=aa;refine bO gj gk c0 ?_;refine hQ _ _ ⟨⟨?_,?_,?_⟩,rfl,k,?_,iO,gQ⟩<;>exact iB g0 g1 gj gk
 rintro ρ τ ⟨⟨h0,h1,bA⟩,rfl,j2,bP,NZ,N0⟩;by_cases qB:j2<i2
 ·have k0:(j2:Int)<i2:=aa;refine bO bA bP k0 ?_;obtain⟨L,x,y,fa,cx,cy,gx,gy,l1,l2,M2⟩:=M.two (i:=j2) (j:=a) aa aa;refine bG 16 ?_;simp only[go_sem,seval,h0,h1,bP,cx,cy,fa,gx,gy,sk,l1];refine⟨dA fa gx gy,?_⟩;refine ag ?_;refine⟨l2,?_⟩;refine⟨dA fa gx gy,?_⟩;refine aG bP ?_
  try rw[Hp.set_set]
  exact an iT ao ⟨⟨j2,_,aa,aa,by simp[up];rfl⟩,M2⟩
 have k0:¬(j2:Int)<i2:=aa;have wi:=fF i2;have wj:IntKind.i64.wrap ((j2:Int)-1)=((j2-1:Nat):Int):=cI;refine bO bA bP k0 ?_;obtain⟨L,x,y,fa,cx,cy,gx,gy,l1,l2,M2⟩:=M.two (i:=i2) (j:=j2) aa aa;refine bG 16 ?_;simp only[go_sem,seval,h0,bA,bP,cx,cy,fa,gx,gy,sk,l1];refine⟨dA fa gx gy,?_⟩;refine ag ?_;refine⟨l2,?_⟩;refine⟨dA fa gx gy,?_⟩;refine fB bA bP wi wj ?_
 try rw[Hp.set_set]
 refine dh (λm ρ ds ae=>ds=[]/\ρ 0=dS blk d.length cap/\ρ 1=iV a/\∃(i j:Nat),m=j+1-i/\ρ 10=iV i/\ρ 11=iV j/\a+2<=i/\i<=b/\i<=j+2/\j<b/\Mx σ blk d pad ae) _ ⟨rfl,?_,?_,i2+1,j2-1,rfl,?_,?_,aa,aa,aa,aa,M2⟩ ?_
 iterate 4 simp only[go_sem,seval,h0,h1]
 clear h0 h1 bA bP M M2 ρ;rintro m ρ ds τ Y ⟨rfl,h0,h1,i,j,rfl,bA,bP,CK,C6,aeA,hjb,M⟩ hY;refine ag ?_;refine A4 (.exit 6) (λρ ae=>(ρ 0=dS blk d.length cap/\ρ 1=iV a/\ρ 11=iV j)/\ae=τ/\∃k:Nat,ρ 10=iV k/\i<=k/\(k<=j+1\/k=i)) ?_ λQ hQ=>?_
 rotate_left
 ·refine dh (λm ρ ds ae=>ds=[]/\(ρ 0=dS blk d.length cap/\ρ 1=iV a/\ρ 11=iV j)/\ae=τ/\∃k:Nat,ρ 10=iV k/\m=j+1-k/\i<=k/\(k<=j+1\/k=i)) (j+1-i) ?_ ?_
  ·refine⟨rfl,⟨?_,?_,?_⟩,rfl,i,?_,rfl,aa,aa⟩<;>exact iB h0 h1 bA bP
  rintro m ρ ds _ X ⟨rfl,⟨g0,g1,gj⟩,rfl,k,gk,rfl,iO,gQ⟩ hX;refine ag ?_;refine bG 14 ?_;by_cases hle:k<=j
  ·have c0:(k:Int)<=j:=aa;obtain⟨L,x,y,fa,cx,ca,gx,ga⟩:=M.rd.two (i:=k) (j:=a) aa aa;have wk:=fF k;simp only[go_sem,seval,g0,g1,gj,gk,c0,cx,ca,fa,gx,ga];refine aR oS ?_;refine⟨dA fa gx ga,?_⟩
   cases decide (x<y)with
   |true=>
    refine bt gk wk ?_;refine hX _ _ _ _ _ aa ⟨rfl,⟨?_,?_,?_⟩,rfl,k+1,?_,rfl,aa,aa⟩ ao<;>exact nC g0 g1 gj
   |false=>
    refine ag ?_;refine hQ _ _ ⟨⟨?_,?_,?_⟩,rfl,k,?_,iO,gQ⟩<;>exact iB g0 g1 gj gk
  ·have c0:¬(k:Int)<=j:=aa;refine bO gj gk c0 ?_;refine hQ _ _ ⟨⟨?_,?_,?_⟩,rfl,k,?_,iO,gQ⟩<;>exact iB g0 g1 gj gk
 rintro ρ τ ⟨⟨h0,h1,bP⟩,rfl,i2,bA,NY,Ae⟩;refine ag ?_;refine A4 (.exit 8) (λρ ae=>(ρ 0=dS blk d.length cap/\ρ 1=iV a/\ρ 10=iV i2)/\ae=τ/\∃k:Nat,ρ 11=iV k/\k<=j/\(i2<=k+1\/k=j)) ?_ λQ hQ=>?_
 rotate_left
 ·refine dh (λk ρ ds ae=>ds=[]/\(ρ 0=dS blk d.length cap/\ρ 1=iV a/\ρ 10=iV i2)/\ae=τ/\ρ 11=iV k/\k<=j/\(i2<=k+1\/k=j)) (j) ?_ ?_
  ·refine⟨rfl,⟨?_,?_,?_⟩,rfl,?_,aa,aa⟩<;>exact iB h0 h1 bA bP
  rintro k ρ ds _ X ⟨rfl,⟨g0,g1,gj⟩,rfl,gk,iO,gQ⟩ hX;refine ag ?_;refine bG 15 ?_;by_cases hle:i2<=k
  ·have c0:(i2:Int)<=k:=aa;obtain⟨L,x,y,fa,cx,ca,gx,ga⟩:=M.rd.two (i:=k) (j:=a) aa aa;obtain⟨p,hp⟩:∃p,p=k-1:=⟨_,rfl⟩;have wk:IntKind.i64.wrap ((k:Int)-1)=(p:Int):=cI;simp only[go_sem,seval,g0,g1,gj,gk,c0,cx,ca,fa,gx,ga];refine aR oS ?_;refine⟨dA fa gx ga,?_⟩
   cases decide (x<y)with
   |false=>
    refine bt gk wk ?_;refine hX p _ _ _ _ aa ⟨rfl,⟨?_,?_,?_⟩,rfl,?_,aa,aa⟩ ao<;>exact nC g0 g1 gj
   |true=>
    refine ag ?_;refine hQ _ _ ⟨⟨?_,?_,?_⟩,rfl,k,?_,iO,gQ⟩<;>exact iB g0 g1 gj gk
  ·have c0:¬(i2:Int)<=k:=aa;refine bO gj gk c0 ?_;refine hQ _ _ ⟨⟨?_,?_,?_⟩,rfl,k,?_,iO,gQ⟩<;>exact iB g0 g1 gj gk
 rintro ρ τ ⟨⟨h0,h1,bA⟩,rfl,j2,bP,NZ,N0⟩;by_cases qB:j2<i2
 ·have k0:(j2:Int)<i2:=aa;refine bO bA bP k0 ?_;obtain⟨L,x,y,fa,cx,cy,gx,gy,l1,l2,M2⟩:=M.two (i:=j2) (j:=a) aa aa;refine bG 16 ?_;simp only[go_sem,seval,h0,h1,bP,cx,cy,fa,gx,gy,sk,l1];refine⟨dA fa gx gy,?_⟩;refine ag ?_;refine⟨l2,?_⟩;refine⟨dA fa gx gy,?_⟩;refine aG bP ?_
  try rw[Hp.set_set]
  exact an iT ao ⟨⟨j2,_,aa,aa,by simp[up];rfl⟩,M2⟩
 have k0:¬(j2:Int)<i2:=aa;have wi:=fF i2;have wj:IntKind.i64.wrap ((j2:Int)-1)=((j2-1:Nat):Int):=cI;refine bO bA bP k0 ?_;obtain⟨L,x,y,fa,cx,cy,gx,gy,l1,l2,M2⟩:=M.two (i:=i2) (j:=j2) aa aa;refine bG 16 ?_;simp only[go_sem,seval,h0,bA,bP,cx,cy,fa,gx,gy,sk,l1];refine⟨dA fa gx gy,?_⟩;refine ag ?_;refine⟨l2,?_⟩;refine⟨dA fa gx gy,?_⟩;refine fB bA bP wi wj ?_
 try rw[Hp.set_set]
 refine hY _ _ _ _ _ aa ⟨rfl,?_,?_,i2+1,j2-1,rfl,?_,?_,aa,aa,aa,aa,M2⟩ ao<;>exact wG h0 h1
def ald{pv:Nat}(M:Mx σ blk d pad τ)(di:a+12<b)(hb:b<=d.length)(hn:d.length<=1000000)(Gm:a<=pv)(sD:pv<b):
 ay E 169 #[dS blk d.length cap,iV a,iV b,iV pv] τ λe τ=>(∃m:Nat,a<m/\m<=b/\e=.returned (iV m))/\Mx σ blk d pad τ:=by
 refine aW func169 ntmps169 results169 λQ aC an aA=>?_;obtain⟨a1,da⟩:∃a1,a1=a+1:=⟨_,rfl⟩;obtain⟨b1,iM⟩:∃b1,b1=b-1:=⟨_,rfl⟩;have wa:IntKind.i64.wrap ((a:Int)+1)=(a1:Int):=cI;have wb:IntKind.i64.wrap ((b:Int)-1)=(b1:Int):=cI;have sk:∀x,de (iV x)=true:=λ_=>rfl;refine ag ?_;obtain⟨L,x,y,fa,cx,cy,gx,gy,l1,l2,M2⟩:=M.two (i:=a) (j:=pv) aa aa;refine bG 16 ?_;refine Es cx cy fa gx gy sk l1 ?_;refine⟨dA fa gx gy,?_⟩;refine ag ?_;refine⟨l2,?_⟩;refine⟨dA fa gx gy,?_⟩;refine bt wa wb ?_
 try rw[Hp.set_set]
 refine dh (λm ρ ds ae=>ds=[]/\ρ 0=dS blk d.length cap/\ρ 1=iV a/\∃(i j:Nat),m=j+1-i/\ρ 9=iV i/\ρ 10=iV j/\a<i/\i<=b/\i<=j+2/\j<b/\Mx σ blk d pad ae) _ ⟨rfl,?_,?_,a1,b1,rfl,?_,?_,aa,aa,aa,aa,M2⟩ ?_
 iterate 4 simp only[go_sem,seval]
 clear M M2;rintro m ρ ds τ Y ⟨rfl,h0,h1,i,j,rfl,h9,bA,CK,C6,aeA,hjb,M⟩ hY;refine ag ?_;refine A4 (.exit 2) (λρ ae=>(ρ 0=dS blk d.length cap/\ρ 1=iV a/\ρ 10=iV j)/\ae=τ/\∃k:Nat,ρ 9=iV k/\i<=k/\(k<=j+1\/k=i)) ?_ λQ hQ=>?_
 rotate_left
 ·refine dh (λm ρ ds ae=>ds=[]/\(ρ 0=dS blk d.length cap/\ρ 1=iV a/\ρ 10=iV j)/\ae=τ/\∃k:Nat,ρ 9=iV k/\m=j+1-k/\i<=k/\(k<=j+1\/k=i)) (j+1-i) ?_ ?_
  ·refine⟨rfl,⟨?_,?_,?_⟩,rfl,i,?_,rfl,aa,aa⟩<;>exact iB h0 h1 h9 bA
  rintro m ρ ds _ X ⟨rfl,⟨g0,g1,gj⟩,rfl,k,gk,rfl,iO,gQ⟩ hX;refine ag ?_;refine bG 15 ?_;by_cases hle:k<=j
  ·have c0:(k:Int)<=j:=aa;obtain⟨L,x,y,fa,cx,ca,gx,ga⟩:=M.rd.two (i:=a) (j:=k) aa aa;have wk:=fF k;simp only[go_sem,seval,g0,g1,gj,gk,c0,cx,ca,fa,gx,ga];refine aR oS ?_;refine⟨dA fa gx ga,?_⟩
   cases decide (x<y)with
   |false=>
    refine bt gk wk ?_;refine hX _ _ _ _ _ aa ⟨rfl,⟨?_,?_,?_⟩,rfl,k+1,?_,rfl,aa,aa⟩ ao<;>exact nC g0 g1 gj
   |true=>
    refine ag ?_;refine hQ _ _ ⟨⟨?_,?_,?_⟩,rfl,k,?_,iO,gQ⟩<;>exact iB g0 g1 gj gk
  ·have c0:¬(k:Int)<=j:=aa;refine bO gj gk c0 ?_;refine hQ _ _ ⟨⟨?_,?_,?_⟩,rfl,k,?_,iO,gQ⟩<;>exact iB g0 g1 gj gk
 rintro ρ τ ⟨⟨h0,h1,bA⟩,rfl,i2,h9,NY,Ae⟩;refine ag ?_;refine A4 (.exit 4) (λρ ae=>(ρ 0=dS blk d.length cap/\ρ 1=iV a/\ρ 9=iV i2)/\ae=τ/\∃k:Nat,ρ 10=iV k/\k<=j/\(i2<=k+1\/k=j)) ?_ λQ hQ=>?_
 rotate_left
 ·refine dh (λk ρ ds ae=>ds=[]/\(ρ 0=dS blk d.length cap/\ρ 1=iV a/\ρ 9=iV i2)/\ae=τ/\ρ 10=iV k/\k<=j/\(i2<=k+1\/k=j)) (j) ?_ ?_
  ·refine⟨rfl,⟨?_,?_,?_⟩,rfl,?_,aa,aa⟩<;>exact iB h0 h1 h9 bA
  rintro k ρ ds _ X ⟨rfl,⟨g0,g1,gj⟩,rfl,gk,iO,gQ⟩ hX;refine ag ?_;refine bG 14 ?_;by_cases hle:i2<=k
  ·have c0:(i2:Int)<=k:=aa;obtain⟨L,x,y,fa,cx,ca,gx,ga⟩:=M.rd.two (i:=a) (j:=k) aa aa;obtain⟨p,hp⟩:∃p,p=k-1:=⟨_,rfl⟩;have wk:IntKind.i64.wrap ((k:Int)-1)=(p:Int):=cI;simp only[go_sem,seval,g0,g1,gj,gk,c0,cx,ca,fa,gx,ga];refine aR oS ?_;refine⟨dA fa gx ga,?_⟩
   cases decide (x<y)with
   |true=>
    refine bt gk wk ?_;refine hX p _ _ _ _ aa ⟨rfl,⟨?_,?_,?_⟩,rfl,?_,aa,aa⟩ ao<;>exact nC g0 g1 gj
   |false=>
    refine ag ?_;refine hQ _ _ ⟨⟨?_,?_,?_⟩,rfl,k,?_,iO,gQ⟩<;>exact iB g0 g1 gj gk
  ·have c0:¬(i2:Int)<=k:=aa;refine bO gj gk c0 ?_;refine hQ _ _ ⟨⟨?_,?_,?_⟩,rfl,k,?_,iO,gQ⟩<;>exact iB g0 g1 gj gk
 rintro ρ τ ⟨⟨h0,h1,h9⟩,rfl,j2,bA,NZ,N0⟩;by_cases qB:j2<i2
 ·have k0:(j2:Int)<i2:=aa;refine bO h9 bA k0 ?_;exact an aI ao ⟨⟨i2,aa,aa,by simp[up]⟩,M⟩
 have k0:¬(j2:Int)<i2:=aa;have wi:=fF i2;have wj:IntKind.i64.wrap ((j2:Int)-1)=((j2-1:Nat):Int):=cI;refine bO h9 bA k0 ?_;obtain⟨L,x,y,fa,cx,cy,gx,gy,l1,l2,M2⟩:=M.two (i:=i2) (j:=j2) aa aa;refine bG 16 ?_;simp only[go_sem,seval,h0,h9,bA,cx,cy,fa,gx,gy,sk,l1];refine⟨dA fa gx gy,?_⟩;refine ag ?_;refine⟨l2,?_⟩;refine⟨dA fa gx gy,?_⟩;refine fB h9 bA wi wj ?_
 try rw[Hp.set_set]
 refine hY _ _ _ _ _ aa ⟨rfl,?_,?_,i2+1,j2-1,rfl,?_,?_,aa,aa,aa,aa,M2⟩ ao<;>exact wG h0 h1
end Go.Qw
