/- 24 -/
import Derived.Test.YtpiabknabfbfhaaGreatDoorFramed23
set_option linter.all false
set_option maxRecDepth 100000
set_option maxHeartbeats 8000000
namespace Go.Qw
open Go Go.Conc Go.Proofs Go.Proofs.Tryz
variable {P:Program}{I:av}{ds:List Deferred}{U:Hp}{dst:Option Tmp}{ty:TypeId}{pos:String}{af:Array Edge}{g:Option (Nat×Bool)}{nx:av->List Deferred->Hp->Prop}{pn:List PanicEntry->Hp->Prop}{E:Env P}{a b:Nat}{c c':Array Value}{e1 e2:TypeId}
def abi{t u e:TypeId}{x y:Operand}{i:TypeInfo}(hu:P.underlying t=some (.pointer e))(hi:P.info? e=some i)(gD:i.size≠0)(hx:ai I x=pV a)(hy:ai I y=pV b)(ha:U.f a=some (.cells c e1 (0,0)))(hb:U.f b=some (.cells c' e2 (0,0)))(h:nx (aA I dst (.bool (decide (a=b)))) ds U):wpOp E ⟨dst,.binOp .eql t x y u,ty,pos,af,g⟩ I ds U nx pn:=by
 have hz:∀n,(decide (0<=n)&&decide (n<0))=false:=ak;unfold wpOp;simp only[execOp,hx,hy,aF];refine yD ?_ ⟨ak,ak⟩;unfold binOp;simp only[aF,bl];refine Ck λk=>?_;unfold Op.equalIn;simp only[aF,eg,hu,samePointer,sameAddr,sizeOf,fO,hi,bl];rw[if_pos gD];by_cases dq:a=b
 ·subst dq;simp only[beq_self_eq_true,if_true,bl];rw[decide_eq_true rfl]at h;exact h
 ·have AD:(a==b)=false:=aV dq;simp only[AD,Bool.false_eq_true,if_false,aF,HM,Hp.frozen?,ha,hb,hz];refine⟨rfl,rfl,?_⟩;simp only[Bool.false_and,Bool.false_eq_true,if_false,aF];refine G1 ha (G1 hb (SG ha hb ?_));simp only[Bool.false_eq_true,if_false,bl];rw[decide_eq_false dq]at h;exact h
def E9(U:Hp)(cs:List Nat):Prop:=∀x∈cs,∃c:Array Value,U.f x=some (.cells c 191 (0,0))
variable {v:Value}
def Sl.form{ety:TypeId}{xs:List Value}(h:Sl ety U xs v):(xs=[]/\v=.slice none 0 0)\/∃(a:Nat) (pad:List Value),v=.slice (some ⟨a,0,none⟩) xs.length (xs.length+pad.length)/\U.f a=some (.cells (xs++pad).toArray ety (0,0)):=by
 cases h with
 |nil h0=>exact .inl ⟨h0,rfl⟩
 |«at»a pad ha=>exact .inr ⟨a,pad,rfl,ha⟩
variable {E:Env prog}{cb bx:Nat}
def Sa{x:Nat}(mO:U.f bx=some (.cells #[pV cb] 186 (0,0)))(ha:U.f x=some (.cells c e1 (0,0)))(hb:U.f cb=some (.cells c' e2 (0,0))):
 aw E 185 #[pV x,pV bx] U λe R=>e=.returned (.bool (decide (x=cb)))/\R=U:=by
 refine eY func185 ntmps185 results185 rfl ak λQ aB al az=>?_;refine aH mO ?_;obtain⟨i,hi,gD⟩:∃i,prog.info? 191=some i/\i.size≠0:=⟨t191,ah,by rw[show t191.size=5 by kernel_rfl];decide⟩;refine abi (e:=191) (a:=x) (b:=cb) ah hi gD ?_ ?_ ha hb ?_
 ·exact au
 ·exact au
 refine ag ?_;exact al aG ao ⟨by simp[up],rfl⟩
variable {cs:List Nat}
def agK(hv:Sl 186 U (cs.map pV) v)(hn:cs.length<=1000000)(hl:E9 U cs)(hc:E9 U [cb])(mO:U.f bx=some (.cells #[pV cb] 186 (0,0))):
 aw E 221 #[v,.func (.func 185) #[] #[pV bx]] U λe R=>(e=.returned (iV (-1))/\cb∉cs\/∃i:Nat,e=.returned (iV i)/\∃h:i<cs.length,cs[i]=cb/\cb∉cs.take i)/\R=U:=by
 refine aX func221 ntmps221 results221 λQ aB al az=>?_;obtain⟨base,cap,rfl,hr⟩:=hv.read;refine ag ?_;refine cZ (λm I ds ae=>ds=[]/\I 0=.slice base cs.length cap/\I 1=.func (.func 185) #[] #[pV bx]/\I 7=iV cs.length/\ae=U/\∃i:Nat,i+m=cs.length/\I 8=iV i/\cb∉cs.take i) cs.length ?_ ?_
 ·refine⟨rfl,?_,?_,?_,rfl,0,ak,?_,ak⟩<;>exact au
 ·rintro m I ds ae X ⟨rfl,h0,h1,h7,rfl,i,AP,h8,oa⟩ hX
  cases m with
  |zero=>
   have c0:¬(i:Int)<cs.length:=aa;simp only[go_sem,seval,h7,h8,c0,decide_false];rw[List.take_of_length_le aa]at oa;exact al aG ao ⟨.inl ⟨by simp[up],oa⟩,rfl⟩
  |succ m=>
   have hi:i<cs.length:=aa;have c0:(i:Int)<cs.length:=aa;obtain⟨a,L,rfl,ha,hL⟩:=hr i hi;obtain⟨c1,vN⟩:=hl cs[i] (List.getElem_mem hi);obtain⟨c2,sO⟩:=hc cb ak;have w1:=fM i;have b1:(0:Int)<=i/\(i:Int)<cs.length:=aa;simp only[go_sem,seval,h0,h1,h7,h8,c0,decide_true];refine⟨aa,?_⟩;refine bq ha hL ?_;rw[Em (f:=185) (l:=#[]) (cap:=#[pV bx]) au];refine ag ?_;refine bz (Sa mO vN sO) ?_;by_cases hx:cs[i]=cb
   ·simp only[go_sem,seval,hx,decide_true];exact al aG ao ⟨.inr ⟨i,by simp[up],hi,hx,oa⟩,rfl⟩
   ·simp only[go_sem,seval,hx,decide_false,h8,w1];refine hX m _ _ _ _ aa ⟨rfl,?_,?_,?_,rfl,i+1,aa,?_,?_⟩ ao
    ·exact aP h0
    ·exact aP h1
    ·exact aP h7
    ·exact au
    ·intro hm;rw[List.take_succ_eq_append_getElem hi,List.mem_append]at hm;rcases hm with h|h
     ·exact oa h
     ·exact hx (List.mem_singleton.1 h).symm
def aaS(hv:Sl 186 U (cs.map pV) v)(hn:cs.length<=1000000)(hl:E9 U cs)(hc:E9 U [cb])(mO:U.f bx=some (.cells #[pV cb] 186 (0,0)))(cE:∀off n c,v≠.slice (some ⟨bx,off,none⟩) n c):
 aw E 184 #[v,.func (.func 185) #[] #[pV bx]] U λe R=>(e=.returned v/\cb∉cs/\R=U)\/∃(a:Nat) (pad:List Value),(∃n c,v=.slice (some ⟨a,0,none⟩) n c)/\
  e=.returned (.slice (some ⟨a,0,none⟩) (cs.filter λx=>decide (x≠cb)).length ((cs.filter λx=>decide (x≠cb)).length+pad.length))/\R=U.set a (.cells ((cs.filter λx=>decide (x≠cb)).map pV++pad).toArray 186 (0,0)):=by
 refine aX func184 ntmps184 results184 λQ aB al az=>?_;obtain⟨base,cap,rfl,hr⟩:=hv.read;refine ag ?_;refine dI acN (agK hv hn hl hc mO) ?_ (λch ae ⟨h,_⟩=>by rcases h with⟨h,_⟩|⟨_,h,_⟩<;>cases h);rintro w R ⟨hw,rfl⟩;rcases hw with⟨hw,oa⟩|⟨i,hw,hi,hxi,oa⟩
 ·cases hw
  refine ag ?_;exact al aG ao (.inl ⟨by simp[up],oa,rfl⟩)
 cases hw
 obtain⟨a,pad,rfl,ha,jP⟩:∃(a:Nat) (pad:List Value),base=some ⟨a,0,none⟩/\R.f a=some (.cells (cs.map pV++pad).toArray 186 (0,0))/\cap=cs.length+pad.length:=by
  rcases hv.form with⟨h0,_⟩|⟨a,pad,h1,h2⟩
  ·simp at h0;subst h0;simp at hi
  ·simp only[Value.slice.injEq]at h1;exact⟨a,pad,h1.1,h2,aV h1.2.2⟩
 subst jP;have cm:¬(i:Int)= -1:=aa;have w1:=fM i;have Tl:∀{x c},R.f x=some (.cells c 191 (0,0))->¬x=a:=λh e=>by subst e;rw[ha]at h;simp at h
 have nbx:¬bx=a:=λe=>cE 0 cs.length (cs.length+pad.length) (by rw[e]);simp only[go_sem,seval,cm,decide_false,w1]
 refine cZ (λm I ds ae=>ds=[]/\I 0=.slice (some ⟨a,0,none⟩) cs.length (cs.length+pad.length)/\I 1=.func (.func 185) #[] #[pV bx]/\∃(i j:Nat) (L:List Value),j+m=cs.length/\I 5=iV i/\I 6=iV j/\i<j/\
  L.take i=((cs.take j).filter λx=>decide (x≠cb)).map pV/\L.drop j=(cs.drop j).map pV++pad/\L.length=cs.length+pad.length/\ae=R.set a (.cells L.toArray 186 (0,0))) (cs.length-(i+1)) ?_ ?_
 ·refine⟨rfl,?_,?_,i,i+1,cs.map pV++pad,aa,?_,?_,aa,?_,?_,ak,(Gr ha).symm⟩
  ·exact au
  ·exact au
  ·exact au
  ·exact au
  ·have e1:(cs.take (i+1)).filter (λx=>decide (x≠cb))=cs.take i:=by
    rw[List.take_succ_eq_append_getElem hi,List.filter_append]
    have e2:(cs.take i).filter (λx=>decide (x≠cb))=cs.take i:=by rw[List.filter_eq_self];intro x hx;simpa usingλe:x=cb=>oa (e▸hx)
    rw[e2];simp[hxi]
   rw[e1,List.take_append_of_le_length (by simp;omega),List.map_take]
  ·rw[List.drop_append_of_le_length (by simp;omega),List.map_drop]
 ·rintro m I ds ae X ⟨rfl,h0,h1,i,j,L,xm,h5,h6,qF,oR,AA,Qj,rfl⟩ hX
  have sJ:((cs.take j).filter λx=>decide (x≠cb)).length=i:=by have:=congrArg List.length oR;simp only[List.length_map,List.length_take]at this;omega
  have Jz:(R.set a (.cells L.toArray 186 (0,0))).f a=some (.cells L.toArray 186 (0,0)):=aT
  cases m with
  |zero=>
   have vD:j=cs.length:=aa;have c0:¬(j:Int)<cs.length:=aa;simp only[go_sem,seval,h0,h5,h6,c0,decide_false];refine⟨aa,?_⟩;have k1:¬cs.length+pad.length-i=0:=aa;have k2:¬cs.length+pad.length=i:=aa;have ef:(cs.take j).filter (λx=>decide (x≠cb))=cs.filter λx=>decide (x≠cb):=by rw[List.take_of_length_le aa]
   rw[ef]at oR sJ;rw[vD,List.drop_length]at AA;refine ag ?_;refine Z5 Ph (z0:=.pointer none) rfl rfl (b:=a) (off:=0+i*1) (n:=cs.length-i) (c:=cs.length+pad.length-i) ?_ Jz aa ?_
   ·exact aP k2
   have eL:L.take (0+i*1)++List.replicate (cs.length-i) (.pointer none)++L.drop (0+i*1+(cs.length-i))=(cs.filter λx=>decide (x≠cb)).map pV++(List.replicate (cs.length-i) (.pointer none)++pad):=by rw[show 0+i*1=i by omega,show i+(cs.length-i)=cs.length by omega,oR,AA];simp
   rw[eL,Hp.set_set];refine bq h0 h5 ?_;refine⟨aa,?_⟩;refine ag ?_;refine al aG ao (.inr ⟨a,_,⟨_,_,rfl⟩,?_,rfl⟩);have e1:i+(List.replicate (cs.length-i) (Value.pointer none)++pad).length=cs.length+pad.length:=by rw[List.length_append,List.length_replicate];omega
   rw[sJ,e1];simp[up]
  |succ m=>
   have hj:j<cs.length:=aa;have c0:(j:Int)<cs.length:=aa;rw[<-List.getElem_cons_drop hj]at AA;obtain⟨c1,vN⟩:=hl cs[j] (List.getElem_mem hj);obtain⟨c2,sO⟩:=hc cb ak
   have hLj:L[j]? =some (pV cs[j]):=by have e0:L[j]? =(L.drop j)[0]? :=ak;rw[e0,AA];rfl
   have w3:=fM j;have w4:=fM i;simp only[go_sem,seval,h0,h6,c0,decide_true];refine⟨aa,?_⟩;refine bR Jz hLj h1 ?_;rw[Em (f:=185) (l:=#[]) (cap:=#[pV bx]) au];refine ag ?_;refine bz (Sa ((Hp.ay nbx).trans mO) ((Hp.ay (Tl vN)).trans vN) ((Hp.ay (Tl sO)).trans sO)) ?_;by_cases hx:cs[j]=cb
   ·simp only[go_sem,seval,hx,decide_true,h6,w3];refine hX m _ _ _ _ aa ⟨rfl,?_,?_,i,j+1,L,aa,?_,?_,aa,?_,?_,Qj,rfl⟩ ao
    ·exact aP h0
    ·exact aP h1
    ·exact aP h5
    ·exact au
    ·rw[oR,List.take_succ_eq_append_getElem hj,List.filter_append];simp[hx]
    ·rw[<-List.tail_drop,AA];rfl
   ·simp only[go_sem,seval,hx,decide_false,h0,h5];refine⟨aa,?_⟩;have FJ:∃y,L[i]? =some y:=⟨L[i]'aa,by rw[List.getElem?_eq_getElem]⟩;obtain⟨y,hy⟩:=FJ;refine aH Jz ?_;refine⟨aa,?_⟩;rw[Hp.set_set];refine fA h5 h6 w3 w4 ?_;have aZ:i<L.length:=aa;refine hX m _ _ _ _ aa ⟨rfl,?_,?_,i+1,j+1,L.set i (pV cs[j]),aa,?_,?_,aa,?_,?_,aV Qj,rfl⟩ ao
    ·exact aP h0
    ·exact aP h1
    ·exact au
    ·exact au
    ·rw[List.take_succ_eq_append_getElem (aV aZ),List.getElem_set_self,List.take_set_of_le (Nat.le_refl _),oR,List.take_succ_eq_append_getElem hj,List.filter_append];simp[hx]
    ·rw[List.drop_set_of_lt aa,<-List.tail_drop,AA];rfl
section
variable {U:Hp}{E:Env prog}{cs:List Nat}{v:Value}{cb:Nat}{bx:Nat}{H:Hid}{X:Ext}{h:HN}{nm:List UInt8}{q:QN}{k:Int}{x:XN}
variable {A:Lay}{n:N}{id:Int}
def Sl.le {ety:TypeId}{U R:Hp}{xs:List Value}{v:Value}(h:Sl ety U xs v)(k:U.le R):Sl ety R xs v:=by
 cases h with
 |nil h0=>exact .nil h0
 |«at»a pad ha=>exact .at a pad (k _ _ ha)
def aao (a:aq A H n X U){j k:Int}(hj:(n.x? j).isSome)(hk:(n.x? k).isSome)(e:A.cons j=A.cons k):j=k:=by
 have:=a.inj (.cons j) (.cons k) (by simpa[view]using hj) (by simpa[view]using hk) (by simpa[cI]using e)
 cases this;rfl
def OF (a:aq A H n X U)(w:∀j∈q.cons,(n.x? j).isSome)(hx:n.x? k=some x)(hq:n.q? x.q=some q)(hn:q.cons.length<=1000000):
 aw E 140 #[pV A.br,pV (A.cons k)] U λe R=>e=.returned (.tuple #[])/\At A (n.cancel k) X R:=by
 refine aX func140 ntmps140 results140 λQ aB al az=>?_;have hs:=a.il hq;have emap:(q.cons.map λk=>pV (A.cons k))=(q.cons.map A.cons).map pV:=by rw[List.map_map];rfl
 rw[emap]at hs;obtain⟨base,cap,kg,_⟩:=hs.read;have mj:=a.th hq;rw[kg]at mj;simp only[List.length_map]at mj;refine ag ?_;refineλbx mO=>?_;have a1:=λo=>a.iE mO o;have iN:=λo=>(a1 o).ei;simp only at iN;have cG:=λo=>(a1 o).vm hx;have jh:=λo=>kz (o:=o) mO _ _ mj;refine ag ?_;refine bJ 16 ?_;refine bR iN cG jh ?_
 have Rl:∀j,(n.x? j).isSome->∀o,∃c:Array Value,(U.set bx o).f (A.cons j)=some (.cells c 191 (0,0)):=λj hj o=>by obtain⟨y,hy⟩:=Option.isSome_iff_exists.1 hj;exact⟨_,(a1 o).cons hy⟩
 have cE:∀off n c,H.cv x.q≠.slice (some ⟨bx,off,none⟩) n c:=λoff n' c e=>by
  rcases hs.form with⟨_,h2⟩|⟨a',pad,h1,h2⟩
  ·rw[h2]at e;cases e
  ·rw[h1]at e;simp only[Value.slice.injEq,Option.some.injEq,Addr.mk.injEq]at e;rw[e.1.1]at h2;rw[h2]at mO;cases mO
 refine dI acH (aaS (cs:=q.cons.map A.cons) (v:=.slice base q.cons.length cap) (cb:=A.cons k) (bx:=bx) ?_ (aV hn) ?_ ?_ (iN _) (by rw[kg]at cE;simpa using cE)) ?_ (λch ae h=>by rcases h with⟨h,_⟩|⟨_,_,_,h,_⟩<;>cases h)
 ·have:=λo=>hs.le (kz (o:=o) mO);rw[kg]at this;simpa using this _
 ·intro y hy;obtain⟨j,hj,rfl⟩:=List.mem_map.1 hy;exact Rl j (w j hj) _
 ·intro y hy;simp only[List.mem_singleton]at hy;subst hy;exact Rl k (by rw[hx];rfl) _
 have ae0:(q.cons.map A.cons).filter (λy=>decide (y≠A.cons k))=(q.cons.filter λj=>decide (j≠k)).map A.cons:=by rw[List.filter_map];congr 1;apply List.filter_congr;intro j hj;simp only[Function.comp,decide_eq_decide,ne_eq];exact not_congr ⟨λe=>aao a (w j hj) (by rw[hx];rfl) e,λe=>by rw[e]⟩
 have es:n.cancel k={n.bF x.q (λq=>{q with cons:=q.cons.filter λj=>decide (j≠k)})with xs:=cH n.xs k}:=by unfold N.cancel;rw[hx]
 rintro v R (⟨hv,oa,rfl⟩|⟨b,pad,⟨n',c',hv0⟩,hv,rfl⟩)
 ·cases hv
  have hk:q.cons.filter (λj=>decide (j≠k))=q.cons:=by rw[List.filter_eq_self];intro j hj;simpa usingλe:j=k=>oa (by subst e;exact List.mem_map_of_mem hj)
  refine⟨iP iN cG,?_⟩;refine aH jh ?_;refine⟨dF iN cG jh,?_⟩;refine aB dB ao ⟨rfl,H,?_⟩;have a2:=(a1 (.cells (Value.cells (pV (A.cons k))) 186)).Hk (nm:=x.q) hq (λq=>{q with cons:=q.cons.filter λj=>decide (j≠k)}) rfl hk;rw[kg]at a2;simp only[List.length_map]at a2;rw[es];exact a2.oL.O7 k
 ·rw[ae0]at hv|-;have hb:base=some ⟨b,0,none⟩:=by injection hv0
  obtain⟨z,JY⟩:∃z,U.f b=some (.cells z 186 (0,0)):=by
   rcases hs.form with⟨_,h2⟩|⟨a',alw,h1,h2⟩
   ·rw[kg,hb]at h2;cases h2
   ·rw[kg,hb]at h1;simp only[Value.slice.injEq,Option.some.injEq,Addr.mk.injEq]at h1;rw[h1.1.1];exact⟨_,h2⟩
  have n1:¬bx=b:=bh mO JY;have n2:¬A.cons k=b:=λe=>by have:=a.cons hx;rw[e,JY]at this;simp[kR]at this
  have n3:¬A.queue x.q=b:=λe=>by rw[e,JY]at mj;simp at mj
  have dh:=λo o'=>(Hp.ay (o:=o') n1).trans (iN o);have dU:=λo o'=>(Hp.ay (o:=o') n2).trans (cG o);have gB:=λo o'=>(Hp.ay (o:=o') n3).trans (jh o)
  cases hv
  refine⟨iP dh dU,?_⟩;refine aH gB ?_;refine⟨dF dh dU gB,?_⟩;refine aB dB ao ⟨rfl,H.px x.q (.slice (some ⟨b,0,none⟩) ((q.cons.filter λj=>decide (j≠k)).map A.cons).length (((q.cons.filter λj=>decide (j≠k)).map A.cons).length+pad.length)),?_⟩;have Dm:kJ (H.cv x.q)=false:=by rw[kg,hb];rfl
  have eb:pG (H.cv x.q)=b:=by rw[kg,hb];rfl
  have ec:((q.cons.filter λj=>decide (j≠k)).map λj=>pV (A.cons j))=((q.cons.filter λj=>decide (j≠k)).map A.cons).map pV:=by rw[List.map_map];rfl
  have a2:=(a1 (.cells (Value.cells (pV (A.cons k))) 186)).Uq (nm:=x.q) hq (b:=b) (λq=>{q with cons:=q.cons.filter λj=>decide (j≠k)}) rfl
   (by have:=Hl.apart (a1 (.cells (Value.cells (pV (A.cons k))) 186)) (.il x.q) (by rw[O3 hq Dm];rfl);rw[<-eb];exact this)
   (cv:=.slice (some ⟨b,0,none⟩) ((q.cons.filter λj=>decide (j≠k)).map A.cons).length (((q.cons.filter λj=>decide (j≠k)).map A.cons).length+pad.length)) (o:=.cells (((q.cons.filter λj=>decide (j≠k)).map A.cons).map pV++pad).toArray 186 (0,0))
   ⟨b,pad,ak,by simp only;rw[ec]⟩ rfl
  rw[es];exact a2.oL.O7 k
end
abbrev dS(blk:Nat)(n cap:Nat):Value:=.slice (some ⟨blk,0,none⟩) n cap
def Mx(U:Hp)(blk:Nat)(d:List Int)(pad:List Value)(R:Hp):Prop:=∃xs:List Int,xs.Perm d/\R=U.set blk (.cells (xs.map aW++pad).toArray 3 (0,0))
variable {x:XN}
def so(U:Hp)(blk n:Nat):Prop:=∃L:List Value,U.f blk=some (.cells L.toArray 3 (0,0))/\∀i<n,∃x:Int,L[i]? =some (iV x)
def A6{E:Env P}{N:Nat}{c:Code}{Q:Post}(e:Ex)(F:av->Hp->Prop)(h2:∀aC ae,F aC ae->Q e aC [] ae)(h1:∀Q':Post,(∀aC ae,F aC ae->Q' e aC [] ae)->cO E N c Q' I [] U):cO E N c Q I [] U:=h1 Q h2
variable {blk n i j:Nat}
def so.two(h:so U blk n)(hi:i<n)(hj:j<n):∃(L:List Value) (x y:Int),U.f blk=some (.cells L.toArray 3 (0,0))/\((0:Int)<=i/\(i:Int)<n)/\((0:Int)<=j/\(j:Int)<n)/\L[i]? =some (iV x)/\L[j]? =some (iV y):=by obtain⟨L,h1,h2⟩:=h;obtain⟨x,hx⟩:=h2 i hi;obtain⟨y,hy⟩:=h2 j hj;exact⟨L,x,y,h1,aa,aa,hx,hy⟩
variable {sb:Nat}
def so.set(h:so U blk n)(aE:blk≠sb)(o:Obj):so (U.set sb o) blk n:=by obtain⟨L,h1,h2⟩:=h;exact⟨L,(Hp.ay aE).trans h1,h2⟩
variable {R:Hp}{d:List Int}{pad:List Value}
def Mx.two(h:Mx U blk d pad R)(hi:i<d.length)(hj:j<d.length):∃(L:List Value) (x y:Int),R.f blk=some (.cells L.toArray 3 (0,0))/\((0:Int)<=i/\(i:Int)<d.length)/\((0:Int)<=j/\(j:Int)<d.length)/\L[i]? =some (iV x)/\L[j]? =some (iV y)/\i<L.length/\j<L.length/\Mx U blk d pad (R.set blk (.cells ((L.set i (iV y)).set j (iV x)).toArray 3 (0,0))):=by
 obtain⟨xs,p,rfl⟩:=h;have hl:=p.length_eq;rw[<-hl]at hi hj;refine⟨_,xs[i],xs[j],aT,aa,aa,?_,?_,by simp;omega,by simp;omega,(xs.set i xs[j]).set j xs[i],(List.set_set_perm hi hj).trans p,?_⟩
 ·rw[List.getElem?_append_left (aV hi)];simp[hi,aW]
 ·rw[List.getElem?_append_left (aV hj)];simp[hj,aW]
 ·rw[Hp.set_set,List.set_append_left _ _ (aV hi),List.set_append_left _ _ (aV hj),List.map_set,List.map_set];rfl
def Mx.rd(h:Mx U blk d pad R):so R blk d.length:=by have k:=h;obtain⟨xs,p,rfl⟩:=k;exact⟨_,aT,λi hi=>by obtain⟨L,x,_,h1,_,_,h2,_⟩:=h.two hi hi;rw[Hp.bD]at h1;cases h1;exact⟨x,h2⟩⟩
variable {cap et:Nat}{s:Int}{lo hi:Nat}
def L2(hd:so U blk n)(hs:U.f sb=some (.cells [iV s].toArray et (0,0)))(ha:lo<=a/\a<hi)(hb:lo<=b/\b<hi)(hn:hi<=n):
 aw E 237 #[dS blk n cap,iV a,iV b,pV sb] U λe R=>(∃x y:Nat,(lo<=x/\x<hi)/\(lo<=y/\y<hi)/\e=.returned (.tuple #[iV x,iV y]))/\∃s:Int,R=U.set sb (.cells [iV s].toArray et (0,0)):=by
 refine aX func237 ntmps237 results237 λQ aB al az=>?_;obtain⟨L,x,y,fa,c1,c2,ga,gb⟩:=hd.two (i:=a) (j:=b) aa aa;simp only[go_sem,seval,dS];refine bJ 9 ?_;refine ln c1 c2 fa ga gb ?_;refine bz pf ?_;refine⟨dF fa ga gb,?_⟩
 cases decide (y<x)with
 |false=>
  refine ag ?_;exact al (R:=U) iT ao ⟨⟨a,b,ha,hb,by simp[up]⟩,s,by rw[Hp.Hm hs]⟩
 |true=>
  refine aH hs ?_;exact al iT ao ⟨⟨b,a,hb,ha,by simp[up]⟩,_,rfl⟩
variable {c:Nat}
def Lw(hd:so U blk n)(hs:U.f sb=some (.cells [iV s].toArray et (0,0)))(aE:blk≠sb)(ha:lo<=a/\a<hi)(hb:lo<=b/\b<hi)(hc:lo<=c/\c<hi)(hn:hi<=n):
 aw E 213 #[dS blk n cap,iV a,iV b,iV c,pV sb] U λe R=>(∃x:Nat,(lo<=x/\x<hi)/\e=.returned (iV x))/\∃s:Int,R=U.set sb (.cells [iV s].toArray et (0,0)):=by
 refine aX func213 ntmps213 results213 λQ aB al az=>?_;have pW:∀o,(U.set sb o).f sb=some o:=λ_=>aT;refine ag ?_;refine dI Jj (L2 (cap:=cap) hd hs ha hb hn) ?_ (λch ae ⟨⟨_,_,_,_,h⟩,_⟩=>by cases h);rintro v R ⟨⟨x1,y1,vN,hy1,hv⟩,s1,rfl⟩
 cases hv
 refine ag ?_;refine dI Jj (L2 (cap:=cap) (hd.set aE _) (pW _) hy1 hc hn) ?_ (λch ae ⟨⟨_,_,_,_,h⟩,_⟩=>by cases h);rintro v R ⟨⟨x2,y2,sO,RX,hv⟩,s2,rfl⟩
 cases hv
 rw[Hp.set_set];refine ag ?_;refine dI Jj (L2 (cap:=cap) (hd.set aE _) (pW _) vN sO hn) ?_ (λch ae ⟨⟨_,_,_,_,h⟩,_⟩=>by cases h);rintro v R ⟨⟨x3,y3,RQ,hy3,hv⟩,s3,rfl⟩
 cases hv
 rw[Hp.set_set];refine ag ?_;exact al aG ao ⟨⟨y3,hy3,by simp[up]⟩,s3,rfl⟩
def Lv(hd:so U blk n)(hs:U.f sb=some (.cells [iV s].toArray et (0,0)))(aE:blk≠sb)(ha:lo+1<=a/\a+1<hi)(hn:hi<=n)(hh:hi<=1000000):
 aw E 212 #[dS blk n cap,iV a,pV sb] U λe R=>(∃x:Nat,(lo<=x/\x<hi)/\e=.returned (iV x))/\∃s:Int,R=U.set sb (.cells [iV s].toArray et (0,0)):=by
 refine aX func212 ntmps212 results212 λQ aB al az=>?_;have w1:IntKind.i64.wrap ((a:Int)-1)=((a-1:Nat):Int):=cX;have w2:=fM a;refine bq w1 w2 ?_;refine aJ (Lw (cap:=cap) (lo:=lo) (hi:=hi) hd hs aE aa aa aa hn) ?_;rintro v R ⟨⟨x,hx,hv⟩,s2,rfl⟩
 cases hv
 refine ag ?_;exact al aG ao ⟨⟨x,hx,by simp[up]⟩,s2,rfl⟩
def anp(M:Mx U blk d pad R)(hb:b<=d.length)(iN:1<=b)(hn:d.length<=1000000)(ha:a<=b):
 aw E 166 #[dS blk d.length cap,iV a,iV b] R λe R=>e=.returned (.tuple #[])/\Mx U blk d pad R:=by
 refine aX func166 ntmps166 results166 λQ aB al az=>?_;have w1:IntKind.i64.wrap ((b:Int)-1)=((b-1:Nat):Int):=cX;have sk:∀x,di (iV x)=true:=λ_=>rfl;refine aH w1 ?_;refine cZ (λm I ds ae=>ds=[]/\I 0=dS blk d.length cap/\∃(i j:Nat),m=j-i/\I 6=iV i/\I 7=iV j/\j<b/\Mx U blk d pad ae) (b-1-a) ?_ ?_
 ·refine⟨rfl,?_,a,b-1,rfl,?_,?_,aa,M⟩<;>exact au
 rintro m I ds dg Y ⟨rfl,h0,i,j,rfl,h6,h7,hj,M⟩ hY;by_cases qF:i<j
 ·have k:(i:Int)<j:=aa;have w2:=fM i;have w3:IntKind.i64.wrap ((j:Int)-1)=((j-1:Nat):Int):=cX;refine bR h6 h7 k ?_;obtain⟨L,x,y,fa,cx,cy,gx,gy,l1,l2,M2⟩:=M.two (i:=i) (j:=j) aa aa;refine bJ 16 ?_;simp only[go_sem,seval,h0,h6,h7,cx,cy,fa,gx,gy,sk,l1];refine⟨dF fa gx gy,?_⟩;refine ag ?_;refine⟨l2,?_⟩;refine⟨dF fa gx gy,?_⟩;refine fA h6 h7 w2 w3 ?_
  try rw[Hp.set_set]
  refine hY (j-1-(i+1)) _ _ _ _ aa ⟨rfl,?_,i+1,j-1,rfl,?_,?_,aa,M2⟩ ao<;>exact aP h0
 ·have k:¬(i:Int)<j:=aa;refine bR h6 h7 k ?_;exact aB dB ao ⟨rfl,M⟩
def agR(M:Mx U blk d pad R)(dq:a<=b)(hb:b<=d.length)(hn:d.length<=1000000):
 aw E 162 #[dS blk d.length cap,iV a,iV b] R λe R=>e=.returned (.tuple #[])/\Mx U blk d pad R:=by
 refine aX func162 ntmps162 results162 λQ aB al az=>?_;have w1:=fM a;have sk:∀x,di (iV x)=true:=λ_=>rfl;refine aH w1 ?_;refine cZ (λm I ds ae=>ds=[]/\I 0=dS blk d.length cap/\I 1=iV a/\I 2=iV b/\∃i:Nat,m=b-i/\I 6=iV i/\a<i/\i<=b+1/\Mx U blk d pad ae) (b-(a+1)) ?_ ?_
 ·refine⟨rfl,?_,?_,?_,a+1,rfl,?_,aa,aa,M⟩<;>exact au
 rintro m I ds dg Y ⟨rfl,h0,h1,h2,i,rfl,h6,CO,Da,M⟩ hY;by_cases qF:i<b
 ·have k:(i:Int)<b:=aa;have w2:=fM i;refine bR h2 h6 k ?_;refine cZ (λ(j:Nat) I ds ae=>ds=[]/\I 0=dS blk d.length cap/\I 1=iV a/\I 2=iV b/\I 6=iV i/\I 7=iV j/\a<=j/\j<=i/\Mx U blk d pad ae) i ?_ ?_
  ·refine⟨rfl,?_,?_,?_,?_,?_,aa,aa,M⟩<;>exact ic h0 h1 h2 h6
  clear M h0 h1 h2 h6;rintro j I ds dg Y2 ⟨rfl,h0,h1,h2,h6,h7,haj,AQ,M⟩ JH;refine ag ?_;refine bJ 15 ?_;by_cases hj:a<j
  ·obtain⟨p,hp⟩:∃p,p=j-1:=⟨_,rfl⟩;have kj:(j:Int)>a:=aa;have w3:IntKind.i64.wrap ((j:Int)-1)=(p:Int):=cX;obtain⟨L,x,y,fa,c1,c2,gi,gj⟩:=M.rd.two (i:=j) (j:=p) aa aa;simp only[go_sem,seval,h0,h1,h7,kj,c1,c2,w3,fa,gi,gj];refine bz pf ?_;refine⟨dF fa gi gj,?_⟩
   cases decide (x<y)with
   |false=>
    refine bq h6 w2 ?_;refine hY (b-(i+1)) _ _ _ _ aa ⟨rfl,?_,?_,?_,i+1,rfl,?_,aa,aa,M⟩ ao<;>exact nH h0 h1 h2
   |true=>
    refine ag ?_;obtain⟨L,x,y,fa,cx,cy,gx,gy,l1,l2,M2⟩:=M.two (i:=j) (j:=p) aa aa;refine bJ 18 ?_;simp only[go_sem,seval,h0,h7,w3,cx,cy,fa,gx,gy,sk,l1];refine⟨dF fa gx gy,?_⟩;refine ag ?_;refine⟨l2,?_⟩;refine⟨dF fa gx gy,?_⟩;refine bq h7 w3 ?_
    try rw[Hp.set_set]
    refine JH p _ _ _ _ aa ⟨rfl,?_,?_,?_,?_,?_,aa,aa,M2⟩ ao<;>exact ic h0 h1 h2 h6
  ·have kj:¬(j:Int)>a:=aa;refine ln h1 h6 h7 kj w2 ?_;refine hY (b-(i+1)) _ _ _ _ aa ⟨rfl,?_,?_,?_,i+1,rfl,?_,aa,aa,M⟩ ao<;>exact nH h0 h1 h2
 ·have k:¬(i:Int)<b:=aa;refine bR h2 h6 k ?_;exact aB dB ao ⟨rfl,M⟩
variable {h:HN}
def ZY(hd:so U blk n)(dq:a+12<b)(hb:b<=n)(hn:n<=1000000):
 aw E 165 #[dS blk n cap,iV a,iV b] U λe R=>(∃(x:Nat) (h:Int),(a<=x/\x<b)/\e=.returned (.tuple #[iV x,iV h]))/\R=U:=by
 refine aX func165 ntmps165 results165 λQ aB al az=>?_;obtain⟨l,hl⟩:∃l,l=b-a:=⟨_,rfl⟩;obtain⟨q,hq⟩:∃q,q=l/4:=⟨_,rfl⟩;have w1:IntKind.i64.wrap ((b:Int)-(a:Int))=(l:Int):=cX
 have w4:IntKind.i64.wrap ((l:Int).tdiv 4)=(q:Int):=by
  have:(l:Int).tdiv 4=(q:Int):=by rw[hq];rfl
  rw[this,wrap64 aa aa]
 obtain⟨j2,qG⟩:∃j,j=q*2:=⟨_,rfl⟩;obtain⟨k3,Re⟩:∃j,j=q*3:=⟨_,rfl⟩;obtain⟨i,hi⟩:∃i,i=a+q:=⟨_,rfl⟩;obtain⟨j,hj⟩:∃j,j=a+j2:=⟨_,rfl⟩;obtain⟨k,hk⟩:∃k,k=a+k3:=⟨_,rfl⟩;have m2:IntKind.i64.wrap ((q:Int)*2)=(j2:Int):=cX;have m3:IntKind.i64.wrap ((q:Int)*3)=(k3:Int):=cX;have m0:IntKind.i64.wrap ((q:Int)*1)=(q:Int):=cX;have t1:IntKind.i64.wrap ((a:Int)+(q:Int))=(i:Int):=cX;have t2:IntKind.i64.wrap ((a:Int)+(j2:Int))=(j:Int):=cX;have t3:IntKind.i64.wrap ((a:Int)+(k3:Int))=(k:Int):=cX;have k8:(8:Int)<=l:=aa;refine aH w1 ?_;refineλb9 mN=>?_;have aE:blk≠b9:=λe=>by obtain⟨_,h,_⟩:=hd;rw[e,mN]at h;cases h
 have gU:∀o,U.le (U.set b9 o):=λo x p hx=>by rw[Hp.ay (bh mN hx)];exact hx
 have ec:(Value.int IntKind.i64 0).cells=[iV 0].toArray:=by first|rfl|simp[Value.cells]
 have fw:∀o,so (U.set b9 o) blk n:=λo=>hd.set aE o;have pW:∀o,(U.set b9 o).f b9=some o:=λ_=>aT;refine rY w4 m0 m2 m3 t1 t2 t3 k8 ?_;rw[ec];by_cases Cw:l>=50
 ·have K9:(50:Int)<=l:=aa;refine aH K9 ?_;refine aJ (Lv (cap:=cap) (a:=i) (lo:=a) (hi:=b) (s:=0) (et:=3) (fw _) (pW _) aE aa hb aa) ?_;rintro v R ⟨⟨x1,vN,hv⟩,s1,rfl⟩
  cases hv
  rw[Hp.set_set];refine ag ?_;refine aJ (Lv (cap:=cap) (a:=j) (lo:=a) (hi:=b) (s:=s1) (et:=3) (fw _) (pW _) aE aa hb aa) ?_;rintro v R ⟨⟨x2,sO,hv⟩,s2,rfl⟩
  cases hv
  rw[Hp.set_set];refine ag ?_;refine aJ (Lv (cap:=cap) (a:=k) (lo:=a) (hi:=b) (s:=s2) (et:=3) (fw _) (pW _) aE aa hb aa) ?_;rintro v R ⟨⟨x3,RQ,hv⟩,s3,rfl⟩
  cases hv
  rw[Hp.set_set];refine ag ?_;refine aJ (Lw (cap:=cap) (lo:=a) (hi:=b) (s:=s3) (et:=3) (fw _) (pW _) aE vN sO RQ hb) ?_;rintro v R ⟨⟨x,hx,hv⟩,s,rfl⟩
  cases hv
  rw[Hp.set_set];by_cases z0:s=0
  ·refine bq pW z0 ?_;exact al iT (gU _) ⟨⟨x,_,hx,by simp[up];rfl⟩,rfl⟩
  by_cases z1:s=12
  ·refine bq pW z1 ?_;exact al iT (gU _) ⟨⟨x,_,hx,by simp[up];rfl⟩,rfl⟩
  ·refine bR pW z0 z1 ?_;exact al iT (gU _) ⟨⟨x,_,hx,by simp[up];rfl⟩,rfl⟩
 ·have K9:¬(50:Int)<=l:=aa;refine aH K9 ?_;refine aJ (Lw (cap:=cap) (lo:=a) (hi:=b) (s:=0) (et:=3) (fw _) (pW _) aE (b:=j) (a:=i) (c:=k) aa aa aa hb) ?_;rintro v R ⟨⟨x,hx,hv⟩,s,rfl⟩
  cases hv
  rw[Hp.set_set];by_cases z0:s=0
  ·refine bq pW z0 ?_;exact al iT (gU _) ⟨⟨x,_,hx,by simp[up];rfl⟩,rfl⟩
  by_cases z1:s=12
  ·refine bq pW z1 ?_;exact al iT (gU _) ⟨⟨x,_,hx,by simp[up];rfl⟩,rfl⟩
  ·refine bR pW z0 z1 ?_;exact al iT (gU _) ⟨⟨x,_,hx,by simp[up];rfl⟩,rfl⟩
def Ux{first:Nat}(M:Mx U blk d pad R)(hb:first+hi<=d.length)(AS:lo<=d.length)(hn:d.length<=1000000):
 aw E 209 #[dS blk d.length cap,iV lo,iV hi,iV first] R λe R=>e=.returned (.tuple #[])/\Mx U blk d pad R:=by
 refine aX func209 ntmps209 results209 λQ aB al az=>?_;have sk:∀x,di (iV x)=true:=λ_=>rfl;refine ag ?_;refine cZ (λm I ds ae=>ds=[]/\I 0=dS blk d.length cap/\I 2=iV hi/\I 3=iV first/\∃root:Nat,m=hi-root/\I 8=iV root/\root<=d.length/\Mx U blk d pad ae) (hi-lo) ?_ ?_
 ·refine⟨rfl,?_,?_,?_,lo,rfl,?_,AS,M⟩<;>exact au
 clear M;rintro m I ds R Y ⟨rfl,h0,h2,h3,root,rfl,h8,AW,M⟩ hY;obtain⟨r2,bX⟩:∃r2,r2=2*root:=⟨_,rfl⟩;obtain⟨ch,eF⟩:∃ch,ch=2*root+1:=⟨_,rfl⟩;have m1:IntKind.i64.wrap (2*(root:Int))=(r2:Int):=cX;have m2:IntKind.i64.wrap ((r2:Int)+1)=(ch:Int):=cX;have m3:=fM ch;by_cases xi:hi<=ch
 ·have k1:(hi:Int)<=ch:=aa;refine ln h2 h8 m1 m2 k1 ?_;exact aB dB ao ⟨rfl,M⟩
 have k1:¬(hi:Int)<=ch:=aa;refine BJ (fG λK1 oQ=>?_);refine bR h8 m1 m2 ?_;refine oQ _ _ _ (fG λK2 pN=>?_);refine bq h2 k1 ?_;refine pN _ _ _ (fG λK3 rz=>?_);clear oQ pN
 have tail:∀(I:av) (c:Nat),I 0=dS blk d.length cap->I 2=iV hi->I 3=iV first->I 8=iV root->I 9=iV c->root<c->c<hi->K3 I [] R:=by
  clear h0 h2 h3 h8 I;intro I c h0 h2 h3 h8 h9 hrc hc;refine rz _ _ _ ?_;clear rz;obtain⟨p,hp⟩:∃p,p=first+root:=⟨_,rfl⟩
  obtain⟨q,hq⟩:∃q,q=first+c:=⟨_,rfl⟩
  have wp:IntKind.i64.wrap ((first:Int)+(root:Int))=(p:Int):=cX;have wq:IntKind.i64.wrap ((first:Int)+(c:Int))=(q:Int):=cX;obtain⟨L,x,y,fa,cx,cy,gx,gy,l1,l2,M2⟩:=M.two (i:=p) (j:=q) aa aa;refine ag ?_;refine bJ 14 ?_;simp only[go_sem,seval,h0,h3,h8,h9,wp,wq,cx,cy,fa,gx,gy];refine bz pf ?_;refine⟨dF fa gx gy,?_⟩
  cases decide (x<y)with
  |false=>
   refine ag ?_;exact al dB ao ⟨rfl,M⟩
  |true=>
   refine ag ?_;refine bJ 24 ?_;simp only[go_sem,seval,h0,h3,h8,h9,wp,wq,cx,cy,fa,gx,gy,sk,l1];refine⟨dF fa gx gy,?_⟩;refine ag ?_;refine⟨l2,?_⟩;refine⟨dF fa gx gy,?_⟩;refine aH h9 ?_
   try rw[Hp.set_set]
   refine hY (hi-c) _ _ _ _ aa ⟨rfl,?_,?_,?_,c,rfl,?_,aa,M2⟩ ao<;>exact nH h0 h2 h3
 refine ag ?_;refine bJ 20 ?_;by_cases fI:ch+1<hi
 ·have k2:((ch+1:Nat):Int)<hi:=aa;obtain⟨p,hp⟩:∃p,p=first+ch:=⟨_,rfl⟩
  have wp:IntKind.i64.wrap ((first:Int)+(ch:Int))=(p:Int):=cX;have wq:=fM p;obtain⟨L,x,y,fa,cx,cy,gx,gy⟩:=M.rd.two (i:=p) (j:=p+1) aa aa;simp only[go_sem,seval,h0,h2,h3,m3,k2,wp,wq,cx,cy,fa,gx,gy];refine bz pf ?_;refine⟨dF fa gx gy,?_⟩
  cases decide (x<y)with
  |true=>
   refine aH m3 ?_;refine tail _ (ch+1) ?_ ?_ ?_ ?_ ?_ aa aa<;>exact ic h0 h2 h3 h8
  |false=>
   refine ag ?_;refine tail _ ch ?_ ?_ ?_ ?_ ?_ aa aa<;>exact ic h0 h2 h3 h8
 ·have k2:¬((ch+1:Nat):Int)<hi:=aa;refine bR h2 m3 k2 ?_;refine tail _ ch ?_ ?_ ?_ ?_ ?_ aa aa<;>exact ic h0 h2 h3 h8
def aeE(M:Mx U blk d pad R)(dq:a+12<b)(hb:b<=d.length)(hn:d.length<=1000000):
 aw E 163 #[dS blk d.length cap,iV a,iV b] R λe R=>e=.returned (.tuple #[])/\Mx U blk d pad R:=by
 refine aX func163 ntmps163 results163 λQ aB al az=>?_;have sk:∀x,di (iV x)=true:=λ_=>rfl;obtain⟨hi,C8⟩:∃hi,hi=b-a:=⟨_,rfl⟩;obtain⟨mh,ar3⟩:∃mh,mh=hi-1:=⟨_,rfl⟩;obtain⟨g,hg⟩:∃g,g=mh/2:=⟨_,rfl⟩;have w1:IntKind.i64.wrap ((b:Int)-(a:Int))=(hi:Int):=cX;have w2:IntKind.i64.wrap ((hi:Int)-1)=(mh:Int):=cX
 have w3:IntKind.i64.wrap ((mh:Int).tdiv 2)=(g:Int):=by
  have:(mh:Int).tdiv 2=(g:Int):=by rw[hg];rfl
  rw[this,wrap64 aa aa]
 refine bR w1 w2 w3 ?_;refine cZ (λk I ds ae=>ds=[]/\I 0=dS blk d.length cap/\I 6=iV a/\I 7=iV 0/\I 8=iV hi/\∃z:Int,z=(k:Int)-1/\I 9=iV z/\k<=g+1/\Mx U blk d pad ae) (g+1) ?_ ?_
 ·refine⟨rfl,?_,?_,?_,?_,g,aa,?_,Nat.le_refl _,M⟩<;>exact au
 clear M;rintro k I ds R Y ⟨rfl,h0,h6,h7,h8,z,hz,h9,hk,M⟩ hY;have w4:IntKind.i64.wrap (z-1)=z-1:=cX
 cases k with
 |succ k=>
  have c0:(0:Int)<=z:=aa;obtain rfl:z=(k:Int):=aa;refine ln h0 h6 h8 h9 c0 ?_;refine aJ (Ux M aa aa aa) ?_;rintro v R ⟨hv,M⟩
  cases hv
  refine bq h9 w4 ?_;refine hY k _ _ _ _ aa ⟨rfl,?_,?_,?_,?_,_,rfl,?_,aa,M⟩ ao<;>exact ic h0 h6 h7 h8
 |zero=>
  have c0:¬(0:Int)<=z:=aa;refine fA h8 h9 c0 w2 ?_;clear hY hz;refine cZ (λk I ds ae=>ds=[]/\I 0=dS blk d.length cap/\I 6=iV a/\I 7=iV 0/\∃z:Int,z=(k:Int)-1/\I 10=iV z/\k<=hi/\Mx U blk d pad ae) hi ?_ ?_
  ·refine⟨rfl,?_,?_,?_,mh,aa,?_,Nat.le_refl _,M⟩<;>exact nH h0 h6 h7
  clear M h0 h6 h7 h8 h9 I w4 c0 z;rintro k I ds R Y ⟨rfl,h0,h6,h7,z,hz,bE,hk,M⟩ hY;have w4:IntKind.i64.wrap (z-1)=z-1:=cX
  cases k with
  |succ k=>
   have c1:(0:Int)<=z:=aa;obtain rfl:z=(k:Int):=aa;obtain⟨y',uf⟩:∃y,y=a+k:=⟨_,rfl⟩;have w6:IntKind.i64.wrap ((a:Int)+(k:Int))=(y':Int):=cX;refine bq bE c1 ?_;obtain⟨L,x,y,fa,cx,cy,gx,gy,l1,l2,M2⟩:=M.two (i:=a) (j:=y') aa aa;refine bJ 20 ?_;simp only[go_sem,seval,h0,h6,bE,w6,cx,cy,fa,gx,gy,sk,l1];refine⟨dF fa gx gy,?_⟩;refine ag ?_;refine⟨l2,?_⟩;refine⟨dF fa gx gy,?_⟩;refine fA h0 h6 h7 bE ?_
   try rw[Hp.set_set]
   have hsd:=Ux (E:=E) (cap:=cap) (lo:=0) (hi:=k) (first:=a) M2 aa aa aa;refine aJ hsd ?_;rintro v R ⟨hv,M⟩
   cases hv
   refine bq bE w4 ?_;refine hY k _ _ _ _ aa ⟨rfl,?_,?_,?_,_,rfl,?_,aa,M⟩ ao<;>exact nH h0 h6 h7
  |zero=>
   have c1:¬(0:Int)<=z:=aa;refine bq bE c1 ?_;exact aB dB ao ⟨rfl,M⟩
def alA{pv:Nat}(M:Mx U blk d pad R)(dq:a+12<b)(hb:b<=d.length)(hn:d.length<=1000000)(Gq:a<=pv)(sM:pv<b):
 aw E 170 #[dS blk d.length cap,iV a,iV b,iV pv] R λe R=>(∃(m:Nat) (r:Bool),a<=m/\m<b/\e=.returned (.tuple #[iV m,.bool r]))/\Mx U blk d pad R:=by
 refine aX func170 ntmps170 results170 λQ aB al az=>?_;obtain⟨a1,de⟩:∃a1,a1=a+1:=⟨_,rfl⟩;obtain⟨b1,iN⟩:∃b1,b1=b-1:=⟨_,rfl⟩;have wa:IntKind.i64.wrap ((a:Int)+1)=(a1:Int):=cX;have wb:IntKind.i64.wrap ((b:Int)-1)=(b1:Int):=cX;have sk:∀x,di (iV x)=true:=λ_=>rfl;refine ag ?_;obtain⟨L,x,y,fa,cx,cy,gx,gy,l1,l2,M2⟩:=M.two (i:=a) (j:=pv) aa aa;refine bJ 16 ?_;refine Ey cx cy fa gx gy sk l1 ?_;refine⟨dF fa gx gy,?_⟩;refine ag ?_;refine⟨l2,?_⟩;refine⟨dF fa gx gy,?_⟩;refine bq wa wb ?_
 try rw[Hp.set_set]
 clear M;generalize R.set blk _=R at*;have M:=M2;clear M2;refine A6 (.exit 0) (λI ae=>(I 0=dS blk d.length cap/\I 1=iV a/\I 11=iV b1)/\ae=R/\∃k:Nat,I 10=iV k/\a1<=k/\(k<=b1+1\/k=a1)) ?_ λQ hQ=>?_
 rotate_left
 ·refine cZ (λm I ds ae=>ds=[]/\(I 0=dS blk d.length cap/\I 1=iV a/\I 11=iV b1)/\ae=R/\∃k:Nat,I 10=iV k/\m=b1+1-k/\a1<=k/\(k<=b1+1\/k=a1)) (b1+1-a1) ?_ ?_
  ·refine⟨rfl,⟨?_,?_,?_⟩,rfl,a1,?_,rfl,aa,aa⟩<;>exact au
  rintro m I ds _ X ⟨rfl,⟨g0,g1,gj⟩,rfl,k,gk,rfl,jR,gW⟩ hX;refine ag ?_;refine bJ 14 ?_;by_cases hle:k<=b1
  ·have c0:(k:Int)<=b1:=aa;obtain⟨L,x,y,fa,cx,ca,gx,ga⟩:=M.rd.two (i:=k) (j:=a) aa aa;have wk:=fM k;simp only[go_sem,seval,g0,g1,gj,gk,c0,cx,ca,fa,gx,ga];refine bz pf ?_;refine⟨dF fa gx ga,?_⟩
   cases decide (x<y)with
   |true=>
    refine bq gk wk ?_;refine hX _ _ _ _ _ aa ⟨rfl,⟨?_,?_,?_⟩,rfl,k+1,?_,rfl,aa,aa⟩ ao<;>exact nH g0 g1 gj
   |false=>
    refine ag ?_;refine hQ _ _ ⟨⟨?_,?_,?_⟩,rfl,k,?_,jR,gW⟩<;>exact ic g0 g1 gj gk
  ·have c0:¬(k:Int)<=b1:=aa;refine bR gj gk c0 ?_;refine hQ _ _ ⟨⟨?_,?_,?_⟩,rfl,k,?_,jR,gW⟩<;>exact ic g0 g1 gj gk
 rintro I R ⟨⟨h0,h1,bO⟩,rfl,i2,bE,Oa,Ae⟩;refine ag ?_;refine A6 (.exit 2) (λI ae=>(I 0=dS blk d.length cap/\I 1=iV a/\I 10=iV i2)/\ae=R/\∃k:Nat,I 11=iV k/\k<=b1/\(i2<=k+1\/k=b1)) ?_ λQ hQ=>?_
 rotate_left
 ·refine cZ (λk I ds ae=>ds=[]/\(I 0=dS blk d.length cap/\I 1=iV a/\I 10=iV i2)/\ae=R/\I 11=iV k/\k<=b1/\(i2<=k+1\/k=b1)) (b1) ?_ ?_
  ·refine⟨rfl,⟨?_,?_,?_⟩,rfl,?_,aa,aa⟩<;>exact ic h0 h1 bE bO
  rintro k I ds _ X ⟨rfl,⟨g0,g1,gj⟩,rfl,gk,jR,gW⟩ hX;refine ag ?_;refine bJ 15 ?_;by_cases hle:i2<=k
  ·have c0:(i2:Int)<=k:=aa;obtain⟨L,x,y,fa,cx,ca,gx,ga⟩:=M.rd.two (i:=k) (j:=a) aa aa;obtain⟨p,hp⟩:∃p,p=k-1:=⟨_,rfl⟩;have wk:IntKind.i64.wrap ((k:Int)-1)=(p:Int):=cX;simp only[go_sem,seval,g0,g1,gj,gk,c0,cx,ca,fa,gx,ga];refine bz pf ?_;refine⟨dF fa gx ga,?_⟩
   cases decide (x<y)with
   |false=>
    refine bq gk wk ?_;refine hX p _ _ _ _ aa ⟨rfl,⟨?_,?_,?_⟩,rfl,?_,aa,aa⟩ ao<;>exact nH g0 g1 gj
   |true=>
    refine ag ?_;refine hQ _ _ ⟨⟨?_,?_,?_⟩,rfl,k,?_,jR,gW⟩<;>exact ic g0 g1 gj gk
  ·have c0:¬(i2:Int)<=k:=aa;refine bR gj gk c0 ?_;refine hQ _ _ ⟨⟨?_,?_,?_⟩,rfl,k,?_,jR,gW⟩<;>exact ic g0 g1 gj gk
 rintro I R ⟨⟨h0,h1,bE⟩,rfl,j2,bO,Ob,Oc⟩;by_cases qF:j2<i2
 ·have k0:(j2:Int)<i2:=aa;refine bR bE bO k0 ?_;obtain⟨L,x,y,fa,cx,cy,gx,gy,l1,l2,M2⟩:=M.two (i:=j2) (j:=a) aa aa;refine bJ 16 ?_;simp only[go_sem,seval,h0,h1,bO,cx,cy,fa,gx,gy,sk,l1];refine⟨dF fa gx gy,?_⟩;refine ag ?_;refine⟨l2,?_⟩;refine⟨dF fa gx gy,?_⟩;refine aH bO ?_
  try rw[Hp.set_set]
  exact al iT ao ⟨⟨j2,_,aa,aa,by simp[up];rfl⟩,M2⟩
 have k0:¬(j2:Int)<i2:=aa;have wi:=fM i2;have wj:IntKind.i64.wrap ((j2:Int)-1)=((j2-1:Nat):Int):=cX;refine bR bE bO k0 ?_;obtain⟨L,x,y,fa,cx,cy,gx,gy,l1,l2,M2⟩:=M.two (i:=i2) (j:=j2) aa aa;refine bJ 16 ?_;simp only[go_sem,seval,h0,bE,bO,cx,cy,fa,gx,gy,sk,l1];refine⟨dF fa gx gy,?_⟩;refine ag ?_;refine⟨l2,?_⟩;refine⟨dF fa gx gy,?_⟩;refine fA bE bO wi wj ?_
 try rw[Hp.set_set]
 refine cZ (λm I ds ae=>ds=[]/\I 0=dS blk d.length cap/\I 1=iV a/\∃(i j:Nat),m=j+1-i/\I 10=iV i/\I 11=iV j/\a+2<=i/\i<=b/\i<=j+2/\j<b/\Mx U blk d pad ae) _ ⟨rfl,?_,?_,i2+1,j2-1,rfl,?_,?_,aa,aa,aa,aa,M2⟩ ?_
 iterate 4 simp only[go_sem,seval,h0,h1]
 clear h0 h1 bE bO M M2 I;rintro m I ds R Y ⟨rfl,h0,h1,i,j,rfl,bE,bO,CO,Da,aeZ,hjb,M⟩ hY;refine ag ?_;refine A6 (.exit 6) (λI ae=>(I 0=dS blk d.length cap/\I 1=iV a/\I 11=iV j)/\ae=R/\∃k:Nat,I 10=iV k/\i<=k/\(k<=j+1\/k=i)) ?_ λQ hQ=>?_
 rotate_left
 ·refine cZ (λm I ds ae=>ds=[]/\(I 0=dS blk d.length cap/\I 1=iV a/\I 11=iV j)/\ae=R/\∃k:Nat,I 10=iV k/\m=j+1-k/\i<=k/\(k<=j+1\/k=i)) (j+1-i) ?_ ?_
  ·refine⟨rfl,⟨?_,?_,?_⟩,rfl,i,?_,rfl,aa,aa⟩<;>exact ic h0 h1 bE bO
  rintro m I ds _ X ⟨rfl,⟨g0,g1,gj⟩,rfl,k,gk,rfl,jR,gW⟩ hX;refine ag ?_;refine bJ 14 ?_;by_cases hle:k<=j
  ·have c0:(k:Int)<=j:=aa;obtain⟨L,x,y,fa,cx,ca,gx,ga⟩:=M.rd.two (i:=k) (j:=a) aa aa;have wk:=fM k;simp only[go_sem,seval,g0,g1,gj,gk,c0,cx,ca,fa,gx,ga];refine bz pf ?_;refine⟨dF fa gx ga,?_⟩
   cases decide (x<y)with
   |true=>
    refine bq gk wk ?_;refine hX _ _ _ _ _ aa ⟨rfl,⟨?_,?_,?_⟩,rfl,k+1,?_,rfl,aa,aa⟩ ao<;>exact nH g0 g1 gj
   |false=>
    refine ag ?_;refine hQ _ _ ⟨⟨?_,?_,?_⟩,rfl,k,?_,jR,gW⟩<;>exact ic g0 g1 gj gk
  ·have c0:¬(k:Int)<=j:=aa;refine bR gj gk c0 ?_;refine hQ _ _ ⟨⟨?_,?_,?_⟩,rfl,k,?_,jR,gW⟩<;>exact ic g0 g1 gj gk
 rintro I R ⟨⟨h0,h1,bO⟩,rfl,i2,bE,Oa,Ae⟩;refine ag ?_;refine A6 (.exit 8) (λI ae=>(I 0=dS blk d.length cap/\I 1=iV a/\I 10=iV i2)/\ae=R/\∃k:Nat,I 11=iV k/\k<=j/\(i2<=k+1\/k=j)) ?_ λQ hQ=>?_
 rotate_left
 ·refine cZ (λk I ds ae=>ds=[]/\(I 0=dS blk d.length cap/\I 1=iV a/\I 10=iV i2)/\ae=R/\I 11=iV k/\k<=j/\(i2<=k+1\/k=j)) (j) ?_ ?_
  ·refine⟨rfl,⟨?_,?_,?_⟩,rfl,?_,aa,aa⟩<;>exact ic h0 h1 bE bO
  rintro k I ds _ X ⟨rfl,⟨g0,g1,gj⟩,rfl,gk,jR,gW⟩ hX;refine ag ?_;refine bJ 15 ?_;by_cases hle:i2<=k
  ·have c0:(i2:Int)<=k:=aa;obtain⟨L,x,y,fa,cx,ca,gx,ga⟩:=M.rd.two (i:=k) (j:=a) aa aa;obtain⟨p,hp⟩:∃p,p=k-1:=⟨_,rfl⟩;have wk:IntKind.i64.wrap ((k:Int)-1)=(p:Int):=cX;simp only[go_sem,seval,g0,g1,gj,gk,c0,cx,ca,fa,gx,ga];refine bz pf ?_;refine⟨dF fa gx ga,?_⟩
   cases decide (x<y)with
   |false=>
    refine bq gk wk ?_;refine hX p _ _ _ _ aa ⟨rfl,⟨?_,?_,?_⟩,rfl,?_,aa,aa⟩ ao<;>exact nH g0 g1 gj
   |true=>
    refine ag ?_;refine hQ _ _ ⟨⟨?_,?_,?_⟩,rfl,k,?_,jR,gW⟩<;>exact ic g0 g1 gj gk
  ·have c0:¬(i2:Int)<=k:=aa;refine bR gj gk c0 ?_;refine hQ _ _ ⟨⟨?_,?_,?_⟩,rfl,k,?_,jR,gW⟩<;>exact ic g0 g1 gj gk
 rintro I R ⟨⟨h0,h1,bE⟩,rfl,j2,bO,Ob,Oc⟩;by_cases qF:j2<i2
 ·have k0:(j2:Int)<i2:=aa;refine bR bE bO k0 ?_;obtain⟨L,x,y,fa,cx,cy,gx,gy,l1,l2,M2⟩:=M.two (i:=j2) (j:=a) aa aa;refine bJ 16 ?_;simp only[go_sem,seval,h0,h1,bO,cx,cy,fa,gx,gy,sk,l1];refine⟨dF fa gx gy,?_⟩;refine ag ?_;refine⟨l2,?_⟩;refine⟨dF fa gx gy,?_⟩;refine aH bO ?_
  try rw[Hp.set_set]
  exact al iT ao ⟨⟨j2,_,aa,aa,by simp[up];rfl⟩,M2⟩
 have k0:¬(j2:Int)<i2:=aa;have wi:=fM i2;have wj:IntKind.i64.wrap ((j2:Int)-1)=((j2-1:Nat):Int):=cX;refine bR bE bO k0 ?_;obtain⟨L,x,y,fa,cx,cy,gx,gy,l1,l2,M2⟩:=M.two (i:=i2) (j:=j2) aa aa;refine bJ 16 ?_;simp only[go_sem,seval,h0,bE,bO,cx,cy,fa,gx,gy,sk,l1];refine⟨dF fa gx gy,?_⟩;refine ag ?_;refine⟨l2,?_⟩;refine⟨dF fa gx gy,?_⟩;refine fA bE bO wi wj ?_
 try rw[Hp.set_set]
 refine hY _ _ _ _ _ aa ⟨rfl,?_,?_,i2+1,j2-1,rfl,?_,?_,aa,aa,aa,aa,M2⟩ ao<;>exact wL h0 h1
def alz{pv:Nat}(M:Mx U blk d pad R)(dq:a+12<b)(hb:b<=d.length)(hn:d.length<=1000000)(Gq:a<=pv)(sM:pv<b):
 aw E 169 #[dS blk d.length cap,iV a,iV b,iV pv] R λe R=>(∃m:Nat,a<m/\m<=b/\e=.returned (iV m))/\Mx U blk d pad R:=by
 refine aX func169 ntmps169 results169 λQ aB al az=>?_;obtain⟨a1,de⟩:∃a1,a1=a+1:=⟨_,rfl⟩;obtain⟨b1,iN⟩:∃b1,b1=b-1:=⟨_,rfl⟩;have wa:IntKind.i64.wrap ((a:Int)+1)=(a1:Int):=cX;have wb:IntKind.i64.wrap ((b:Int)-1)=(b1:Int):=cX;have sk:∀x,di (iV x)=true:=λ_=>rfl;refine ag ?_;obtain⟨L,x,y,fa,cx,cy,gx,gy,l1,l2,M2⟩:=M.two (i:=a) (j:=pv) aa aa;refine bJ 16 ?_;refine Ey cx cy fa gx gy sk l1 ?_;refine⟨dF fa gx gy,?_⟩;refine ag ?_;refine⟨l2,?_⟩;refine⟨dF fa gx gy,?_⟩;refine bq wa wb ?_
 try rw[Hp.set_set]
 refine cZ (λm I ds ae=>ds=[]/\I 0=dS blk d.length cap/\I 1=iV a/\∃(i j:Nat),m=j+1-i/\I 9=iV i/\I 10=iV j/\a<i/\i<=b/\i<=j+2/\j<b/\Mx U blk d pad ae) _ ⟨rfl,?_,?_,a1,b1,rfl,?_,?_,aa,aa,aa,aa,M2⟩ ?_
 iterate 4 simp only[go_sem,seval]
 clear M M2;rintro m I ds R Y ⟨rfl,h0,h1,i,j,rfl,h9,bE,CO,Da,aeZ,hjb,M⟩ hY;refine ag ?_;refine A6 (.exit 2) (λI ae=>(I 0=dS blk d.length cap/\I 1=iV a/\I 10=iV j)/\ae=R/\∃k:Nat,I 9=iV k/\i<=k/\(k<=j+1\/k=i)) ?_ λQ hQ=>?_
 rotate_left
 ·refine cZ (λm I ds ae=>ds=[]/\(I 0=dS blk d.length cap/\I 1=iV a/\I 10=iV j)/\ae=R/\∃k:Nat,I 9=iV k/\m=j+1-k/\i<=k/\(k<=j+1\/k=i)) (j+1-i) ?_ ?_
  ·refine⟨rfl,⟨?_,?_,?_⟩,rfl,i,?_,rfl,aa,aa⟩<;>exact ic h0 h1 h9 bE
  rintro m I ds _ X ⟨rfl,⟨g0,g1,gj⟩,rfl,k,gk,rfl,jR,gW⟩ hX;refine ag ?_;refine bJ 15 ?_;by_cases hle:k<=j
  ·have c0:(k:Int)<=j:=aa;obtain⟨L,x,y,fa,cx,ca,gx,ga⟩:=M.rd.two (i:=a) (j:=k) aa aa;have wk:=fM k;simp only[go_sem,seval,g0,g1,gj,gk,c0,cx,ca,fa,gx,ga];refine bz pf ?_;refine⟨dF fa gx ga,?_⟩
   cases decide (x<y)with
   |false=>
    refine bq gk wk ?_;refine hX _ _ _ _ _ aa ⟨rfl,⟨?_,?_,?_⟩,rfl,k+1,?_,rfl,aa,aa⟩ ao<;>exact nH g0 g1 gj
   |true=>
    refine ag ?_;refine hQ _ _ ⟨⟨?_,?_,?_⟩,rfl,k,?_,jR,gW⟩<;>exact ic g0 g1 gj gk
  ·have c0:¬(k:Int)<=j:=aa;refine bR gj gk c0 ?_;refine hQ _ _ ⟨⟨?_,?_,?_⟩,rfl,k,?_,jR,gW⟩<;>exact ic g0 g1 gj gk
 rintro I R ⟨⟨h0,h1,bE⟩,rfl,i2,h9,Oa,Ae⟩;refine ag ?_;refine A6 (.exit 4) (λI ae=>(I 0=dS blk d.length cap/\I 1=iV a/\I 9=iV i2)/\ae=R/\∃k:Nat,I 10=iV k/\k<=j/\(i2<=k+1\/k=j)) ?_ λQ hQ=>?_
 rotate_left
 ·refine cZ (λk I ds ae=>ds=[]/\(I 0=dS blk d.length cap/\I 1=iV a/\I 9=iV i2)/\ae=R/\I 10=iV k/\k<=j/\(i2<=k+1\/k=j)) (j) ?_ ?_
  ·refine⟨rfl,⟨?_,?_,?_⟩,rfl,?_,aa,aa⟩<;>exact ic h0 h1 h9 bE
  rintro k I ds _ X ⟨rfl,⟨g0,g1,gj⟩,rfl,gk,jR,gW⟩ hX;refine ag ?_;refine bJ 14 ?_;by_cases hle:i2<=k
  ·have c0:(i2:Int)<=k:=aa;obtain⟨L,x,y,fa,cx,ca,gx,ga⟩:=M.rd.two (i:=a) (j:=k) aa aa;obtain⟨p,hp⟩:∃p,p=k-1:=⟨_,rfl⟩;have wk:IntKind.i64.wrap ((k:Int)-1)=(p:Int):=cX;simp only[go_sem,seval,g0,g1,gj,gk,c0,cx,ca,fa,gx,ga];refine bz pf ?_;refine⟨dF fa gx ga,?_⟩
   cases decide (x<y)with
   |true=>
    refine bq gk wk ?_;refine hX p _ _ _ _ aa ⟨rfl,⟨?_,?_,?_⟩,rfl,?_,aa,aa⟩ ao<;>exact nH g0 g1 gj
   |false=>
    refine ag ?_;refine hQ _ _ ⟨⟨?_,?_,?_⟩,rfl,k,?_,jR,gW⟩<;>exact ic g0 g1 gj gk
  ·have c0:¬(i2:Int)<=k:=aa;refine bR gj gk c0 ?_;refine hQ _ _ ⟨⟨?_,?_,?_⟩,rfl,k,?_,jR,gW⟩<;>exact ic g0 g1 gj gk
 rintro I R ⟨⟨h0,h1,h9⟩,rfl,j2,bE,Ob,Oc⟩;by_cases qF:j2<i2
 ·have k0:(j2:Int)<i2:=aa;refine bR h9 bE k0 ?_;exact al aG ao ⟨⟨i2,aa,aa,by simp[up]⟩,M⟩
 have k0:¬(j2:Int)<i2:=aa;have wi:=fM i2;have wj:IntKind.i64.wrap ((j2:Int)-1)=((j2-1:Nat):Int):=cX;refine bR h9 bE k0 ?_;obtain⟨L,x,y,fa,cx,cy,gx,gy,l1,l2,M2⟩:=M.two (i:=i2) (j:=j2) aa aa;refine bJ 16 ?_;simp only[go_sem,seval,h0,h9,bE,cx,cy,fa,gx,gy,sk,l1];refine⟨dF fa gx gy,?_⟩;refine ag ?_;refine⟨l2,?_⟩;refine⟨dF fa gx gy,?_⟩;refine fA h9 bE wi wj ?_
 try rw[Hp.set_set]
 refine hY _ _ _ _ _ aa ⟨rfl,?_,?_,i2+1,j2-1,rfl,?_,?_,aa,aa,aa,aa,M2⟩ ao<;>exact wL h0 h1
end Go.Qw
