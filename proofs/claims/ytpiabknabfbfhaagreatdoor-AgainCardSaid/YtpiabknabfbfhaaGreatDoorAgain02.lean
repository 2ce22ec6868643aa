/- 2 -/
import Derived.Orders
import Derived.KernelRfl
import Derived.Attr
import Derived.Test.YtpiabknabfbfhaaGreatDoorAgain01
set_option linter.all false
set_option maxRecDepth 100000
set_option maxHeartbeats 8000000
namespace Go.Qw
open Go Go.Conc
def jh(P:Program)(t:TypeId)(a:Addr)(U:Hp):Option Value:=
 if dD P t then(cellsOf U a (cD P t)).map .agg else U.cell? a
def cV(P:Program)(op:Op)(I:av)(U:Hp):Option Value:=
 match op with
 | .move x| .assign x=>some (ak I x)
 | .pick c a b=>match ak I c with
   | .bool true=>some (ak I a)
   | .bool false=>some (ak I b)
   |_=>none
 | .load t x=>match ak I x with
   | .pointer (some a)=>if dt P t then jh P t a U else none
   |_=>none
 | .nilCheck x=>match ak I x with
   | .pointer (some a)=>some (.pointer (some a))
   | .func (.func f) l c=>some (.func (.func f) l c)
   |_=>none
 | .fieldAddr s x f=>match ak I x,bM P s f with
   | .pointer (some a),some off=>some (.pointer (some (a.add off)))
   |_,_=>none
 | .binOp op t x y _=>match cK op (ak I x) (ak I y)with
   |some v=>some v
   |none=>match ft P op t (ak I x) (ak I y)with
    |some v=>some v
    |none=>nQ P op t x y (ak I x) (ak I y)
 | .unOp op _ x=>vB op (ak I x)
 | .convert src dst x=>mw P src dst (ak I x)
 | .makeInterface t x=>match P.underlying t with
   |some (.interface _)=>none
   |some _=>some (.iface t (ak I x))
   |none=>none
 | .makeFunc fn l c=>some (.func fn (l.map (ak I)) (c.map (ak I)))
 | .extract x i=>match ak I x with
   | .tuple vs=>vs[i]?
   |_=>none
 | .indexAddr t x i=>match tR P t,ak I x,ak I i with
   |some e,.slice (some a) n _,.int _ k=>if 0<=k/\k<n/\(P.info? e).isSome=true then some (.pointer (some (a.add (k.toNat*cD P e))))else none
   |_,_,_=>none
 | .index t x i=>match P.underlying t,ak I x,ak I i with
   |some .string,.string s,.int _ k=>if h:0<=k/\k.toNat<s.size then some (.int .u8 (s[k.toNat]'h.2).toNat)else none
   |_,_,_=>none
 | .slice t x lo hi none=>match P.underlying t,ak I x with
   |some .string,.string s=>match nU (lo.map (ak I)),jS s.size (hi.map (ak I))with
    |some l,some h=>if 0<=l/\l<=h/\h<=s.size then some (.string (s.extract l.toNat h.toNat))else none
    |_,_=>none
   |some (.slice e),.slice a n c=>match nU (lo.map (ak I)),jS n (hi.map (ak I))with
    |some l,some h=>if 0<=l/\l<=h/\h<=c/\(P.info? e).isSome=true then
     some (.slice (if c=l.toNat then a else a.map (·.add (l.toNat*cD P e))) (h.toNat-l.toNat) (c-l.toNat))else none
    |_,_=>none
   |_,_=>none
 | .call ⟨.builtin .len,as,cB⟩=>match cB[0]?,(as.map (ak I))[0]? with
   |some t,some x=>if yh P t x then yi x else none
   |_,_=>none
 |_=>none
variable {P:Program}{U:Hp}{v:Value}
def va{t:TypeId}{a:Addr}{k:Value->Prop}(h:jh P t a U=some v)(hk:k v):oD P t a U k:=by
 unfold jh at h;unfold oD;split
 ·rename_i hc;rw[if_pos hc]at h;obtain⟨cs,h1,rfl⟩:=Option.map_eq_some_iff.1 h;rw[h1];exact hk
 ·rename_i hc;rw[if_neg hc]at h;rw[h];exact hk
variable {I:av}{ds:List Deferred}{nx:av->List Deferred->Hp->Prop}{pn:List PanicEntry->Hp->Prop}{E:Env P}{o:Oper}
def M5(h:cV P o.op I U=some v)(k:nx (aB I o.dst v) ds U):aU E o I ds U nx pn:=by
 obtain⟨dst,op,type,pos,after,guard⟩:=o;unfold cV at h;simp only at h k;split at h
 case h_1=>obtain rfl:=Option.some.inj h;exact k
 case h_2=>obtain rfl:=Option.some.inj h;exact k
 case h_3=>
  simp only[aU];split at h<;>first|(cases h;done)|(rename_i hc;obtain rfl:=Option.some.inj h;rw[hc];exact k)
 case h_4=>
  simp only[aU];split at h
  ·rename_i a hx;split at h
   ·rename_i ht;rw[hx];exact⟨ht,va h k⟩
   ·cases h
  ·cases h
 case h_5=>
  simp only[aU];split at h<;>first|(cases h;done)|(rename_i hc;obtain rfl:=Option.some.inj h;rw[hc];exact k)
 case h_6=>
  simp only[aU];split at h
  ·rename_i a off hx hf;obtain rfl:=Option.some.inj h;rw[hx,hf];exact k
  ·cases h
 case h_7 op t x y u=>
  simp only[aU];split at h
  ·rename_i v' hb;obtain rfl:=Option.some.inj h;rw[hb];exact k
  ·rename_i hb;rw[hb];split at h
   ·rename_i v' hv;obtain rfl:=Option.some.inj h;rw[hv];exact k
   ·rename_i hv;rw[hv,h];exact k
 case h_8=>simp only[aU];rw[h];exact k
 case h_9=>simp only[aU];rw[h];exact k
 case h_10 t x=>
  simp only[aU]
  cases hu:P.underlying t with
  |none=>rw[hu]at h;cases h
  |some d=>
   rw[hu]at h
   cases d<;>first|(cases h;done)|(obtain rfl:=Option.some.inj h;exact k)
 case h_11=>obtain rfl:=Option.some.inj h;exact k
 case h_12=>
  simp only[aU];split at h
  ·rename_i vs hx;rw[hx];simp only;rw[h];exact k
  ·cases h
 case h_13=>
  simp only[aU];split at h
  ·rename_i e a n c kk i hs hx hi;split at h
   ·rename_i hc;obtain rfl:=Option.some.inj h;rw[hs,hx,hi];exact⟨hc,k⟩
   ·cases h
  ·cases h
 case h_14=>
  simp only[aU];split at h
  ·rename_i s kk i hu hx hi;split at h
   ·rename_i hc;obtain rfl:=Option.some.inj h;rw[hu,hx,hi];exact⟨hc,k⟩
   ·cases h
  ·cases h
 case h_15=>
  simp only[aU];split at h
  ·rename_i s hu hx;rw[hu,hx];simp only;split at h
   ·rename_i l hh h1 h2;split at h
    ·rename_i hc;obtain rfl:=Option.some.inj h;rw[h1,h2];exact⟨hc,k⟩
    ·cases h
   ·cases h
  ·rename_i e a n c hu hx;rw[hu,hx];simp only;split at h
   ·rename_i l hh h1 h2;split at h
    ·rename_i hc;obtain rfl:=Option.some.inj h;rw[h1,h2];exact⟨hc,k⟩
    ·cases h
   ·cases h
  ·cases h
 case h_16=>
  simp only[aU];split at h
  ·rename_i t x ht hx;split at h
   ·rename_i hl;rw[ht,hx];simp only;rw[hl,h];exact k
   ·cases h
  ·cases h
 case h_17=>cases h
def cW:Op->Bool
 | .move _| .assign _| .pick .. | .load .. | .nilCheck _| .fieldAddr .. | .binOp .. | .unOp .. | .convert .. | .makeInterface .. | .makeFunc .. | .extract .. | .indexAddr .. | .index .. =>true
 | .slice _ _ _ _ none=>true
 | .call ⟨.builtin .len,_,cB⟩=>cB != #[273]
 |_=>false
def DC:Op->Bool
 | .load .. =>true
 |_=>false
def MH:Op->Bool
 | .select .. =>false
 |_=>true
def vI(ops:Array Oper):Nat->Nat->Nat->Bool
 |0,_,_=>false
 |f+1,i,j=>match ops[i]? with
  |some o=>o.after.toList.any λe=>Region.binds .any e&&(e.on==j||vI ops f e.on j)
  |none=>false
def ff(ops:Array Oper)(i j:Nat):Bool:=vI ops ops.size i j
def gn(ops:Array Oper)(i:Nat):Option Tmp:=(ops[i]?).bind (·.dst)
def tmpsOf(xs:List Operand):List Tmp:=xs.filterMap λ| .tmp t=>some t|_=>none
def slotsOf(ops:Array Oper)(o:Oper):List Tmp:=tmpsOf o.op.operands.toList++(match o.guard with|some (j,_)=>(gn ops j).toList|none=>[])
def oI(ops:Array Oper)(i:Nat):Bool:=match ops[i]? with|some o=>cW o.op|none=>true
def HZ(ops:Array Oper):List Nat->Bool
 |[]=>true
 |i::r=>r.all (λj=> !(i==j)&& !ff ops i j&&(oI ops i||ff ops j i))&&HZ ops r
def MS(ops:Array Oper)(i:Nat):Bool:=match ops[i]? with
 |some o=>(cW o.op||MH o.op)&&o.after.toList.all (λe=>decide (e.on<ops.size))&&
  (List.range ops.size).all λj=>i==j||((match o.dst with|some d=> !(gn ops j==some d)|none=>true)&&
   (match gn ops j with|some d=> !(slotsOf ops o).contains d||ff ops i j||ff ops j i|none=>true))
 |none=>false
def sX(ops:Array Oper)(l:List Nat):Bool:=(List.range ops.size).all (λi=>l.contains i)&&l.all (λi=>decide (i<ops.size))&&HZ ops l&&(List.range ops.size).all (MS ops)&&(List.range ops.size).all λi=> !ff ops i i
section
variable {I:av}{ds:List Deferred}{U:Hp}{pn:List PanicEntry->Hp->Prop}
variable {P:Program}(E:Env P)
def px (ops:Array Oper)(i:Nat)(U:Hp):List (Nat×av×Value)->Prop
 |[]=>True
 |(j,I,v)::r=>(match ops[j]? with
  |some o=>if DC o.op&& !ff ops i j then cV P o.op I U=some v else True
  |none=>True)/\px ops i U r
def gh (N:Nat)(ops:Array Oper)(Q:Post)(pn:List PanicEntry->List Deferred->Hp->Prop):List Nat->List (Nat×av×Value)->av->List Deferred->Hp->Prop
 |[],_,I,ds,U=>Q .normal I ds U
 |i::rest,cJ,I,ds,U=>match ops[i]? with
  |none=>False
  |some o=>pD N o.dst=true/\
   if cW o.op then
    if Region.wanted o (gX N ops I)then match cV P o.op I U with
     |some v=>gh N ops Q pn rest ((i,I,v)::cJ) (aB I o.dst v) ds U
     |none=>False
    else gh N ops Q pn rest cJ (aB I o.dst undef) ds U
   else if Region.wanted o (gX N ops I)then aU E o I ds U (λaC dk ae=>px (P:=P) ops i ae cJ/\gh N ops Q pn rest cJ aC dk ae) (λch ae=>pn ch ds ae)
   else gh N ops Q pn rest cJ (aB I o.dst undef) ds U
def ml (N:Nat)(ops:Array Oper)(Q:Post)(i:Nat)(K:av->List Deferred->Hp->Prop)(I:av)(ds:List Deferred)(U:Hp):Prop:=
 match ops[i]? with
 |none=>False
 |some o=>pD N o.dst=true/\
  if Region.wanted o (gX N ops I)then(if cW o.op then∃v,cV P o.op I U=some v/\K (aB I o.dst v) ds U else wpOp E o I ds U K (λch ae=>Q (.panic ch) I ds ae))else K (aB I o.dst undef) ds U
def mS (N:Nat)(ops:Array Oper)(Q:Post):List Nat->av->List Deferred->Hp->Prop
 |[],I,ds,U=>Q .normal I ds U
 |i::rest,I,ds,U=>ml E N ops Q i (mS N ops Q rest) I ds U
def tV (N:Nat)(ops:Array Oper)(Q:Post):Nat->Array Bool->av->List Deferred->Hp->Prop
 |0,listed,I,ds,U=>Region.ready .any ops listed=[]/\Q .normal I ds U
 |fuel+1,listed,I,ds,U=>(Region.ready .any ops listed=[]->Q .normal I ds U)/\
  ∀i∈Region.ready .any ops listed,ml E N ops Q i (tV N ops Q fuel (listed.setIfInBounds i true)) I ds U
end
def pK.mono{V V':Value->Hp->Prop}{D D':Deferred->Hp->Prop}{C C':FuncId->Array Value->Hp->Prop}(hv:∀v U,V v U->V' v U)(hd:∀v U,D v U->D' v U)(hc:∀f a U,C f a U->C' f a U):
 ∀n U,pK V D C n U->pK V' D' C' n U:=by
 intro n U h
 cases n<;>first|exact hv _ _ h|exact hd _ _ h|exact hc _ _ _ h|exact h.elim
variable {aC:av}
def Wn{Uy:av->List Deferred->Hp->Prop}{p p':List PanicEntry->Hp->Prop}(he:execOp (ak I) o=execOp (ak aC) o)(hn:∀v ds U,nx (aB I o.dst v) ds U->Uy (aB aC o.dst v) ds U)(hp:∀ch U,p ch U->p' ch U)(h:wpOp E o I ds U nx p):wpOp E o aC ds U Uy p':=by
 unfold wpOp at h|-;rw[<-he];refine NU (pK.mono (λv U h=>hn _ _ _ h) (λd U h=>hn _ _ _ h) (λf a U h=>h.mono λe ae hh=>?_)) (λx U hh=>?_) _ _ h
 ·cases x<;>first|exact hp _ _ hh|exact hh
 ·cases e with
  |returned v=>exact hn _ _ _ hh
  |panicked ch=>exact hp _ _ hh
variable {N:Nat}{ops:Array Oper}{Q:Post}{i:Nat}
def Fe{K K':av->List Deferred->Hp->Prop}(hk:∀I ds U,K I ds U->K' I ds U)(h:ml E N ops Q i K I ds U):ml E N ops Q i K' I ds U:=by
 unfold ml at h|-
 cases ho:ops[i]? with
 |none=>rw[ho]at h;exact h.elim
 |some o=>
  rw[ho]at h;refine⟨h.1,?_⟩;have h2:=h.2;split
  ·rename_i hw;rw[if_pos hw]at h2;split
   ·rename_i hr;rw[if_pos hr]at h2;obtain⟨v,h3,h4⟩:=h2;exact⟨v,h3,hk _ _ _ h4⟩
   ·rename_i hr;rw[if_neg hr]at h2;exact Wn rfl (λv ds U x=>hk _ _ _ x) (λ_ _ x=>x) h2
  ·rename_i hw;rw[if_neg hw]at h2;exact hk _ _ _ h2
def Wl:∀(fuel t:Nat) (listed:Array Bool) (I:av) (ds:List Deferred) (U:Hp),tV E N ops Q fuel listed I ds U->mS E N ops Q (Region.linearise.go .any ops fuel t listed []) I ds U:=by
 intro fuel
 induction fuel with
 |zero=>intro t listed I ds U h;simpa[Region.linearise.go,mS]using h.2
 |succ fuel ih=>
  intro t listed I ds U h;obtain⟨ahX,LQ⟩:=h;simp only[Region.linearise.go]
  change mS E N ops Q (match(Region.ready .any ops listed)[t %(Region.ready .any ops listed).length]? with
   |some i=>Region.linearise.go .any ops fuel (t/(Region.ready .any ops listed).length) (listed.setIfInBounds i true) [i]
   |none=>[].reverse) I ds U
  cases hi:(Region.ready .any ops listed)[t %(Region.ready .any ops listed).length]? with
  |none=>
   have qg:Region.ready .any ops listed=[]:=by
    cases hr:Region.ready .any ops listed with
    |nil=>rfl
    |cons x xs=>
     rw[hr]at hi;have bl:t %(x::xs).length<(x::xs).length:=Nat.mod_lt _ al;simp at hi;simp at bl;omega
   simpa[mS]using ahX qg
  |some i=>
   simp only[];rw[linearise_go_acc,List.reverse_singleton,List.singleton_append];exact Fe (λI ds U=>ih _ _ I ds U) (LQ i (List.mem_of_getElem? hi))
variable {op:Op}
def aoK(h:∀x∈op.operands,ak I x=ak aC x):cV P op I U=cV P op aC U:=by
 cases op<;>first|rfl|skip
 case move x=>simp only[cV];rw[h x (by simp[Op.operands])]
 case assign x=>simp only[cV];rw[h x (by simp[Op.operands])]
 case pick c a b=>simp only[cV];rw[h c (by simp[Op.operands]),h a (by simp[Op.operands]),h b (by simp[Op.operands])]
 case load t x=>simp only[cV];rw[h x (by simp[Op.operands])]
 case nilCheck x=>simp only[cV];rw[h x (by simp[Op.operands])]
 case binOp o t x y u=>simp only[cV];rw[h x (by simp[Op.operands]),h y (by simp[Op.operands])]
 case unOp o t x=>simp only[cV];rw[h x (by simp[Op.operands])]
 case convert s d x=>simp only[cV];rw[h x (by simp[Op.operands])]
 case makeInterface t x=>simp only[cV];rw[h x (by simp[Op.operands])]
 case fieldAddr t x f=>simp only[cV];rw[h x (by simp[Op.operands])]
 case extract x i=>simp only[cV];rw[h x (by simp[Op.operands])]
 case indexAddr t x i=>simp only[cV];rw[h x (by simp[Op.operands]),h i (by simp[Op.operands])]
 case index t x i=>simp only[cV];rw[h x (by simp[Op.operands]),h i (by simp[Op.operands])]
 case makeFunc fn l c=>
  have e:∀(zs:Array Operand),(∀x∈zs,x∈(Op.makeFunc fn l c).operands)->zs.map (ak I)=zs.map (ak aC):=λzs hz=>
   Array.map_congr_left λx hx=>h x (hz x hx)
  simp only[cV];rw[e l (by simp[Op.operands];exactλx hx=>.inl hx),e c (by simp[Op.operands];exactλx hx=>.inr hx)]
 case slice t x lo hi mx=>
  cases mx with
  |some m=>rfl
  |none=>
   have e:∀(z:Option Operand),(∀u∈z,u∈(Op.slice t x lo hi none).operands)->z.map (ak I)=z.map (ak aC):=λz hz=>by
    cases z with
    |none=>rfl
    |some y=>simp only[Option.map_some];rw[h y (hz y rfl)]
   simp only[cV];rw[h x (by simp[Op.operands]),e lo (by intro y hy;cases hy;simp[Op.operands]),e hi (by intro y hy;cases hy;simp[Op.operands])]
 case call c=>
  obtain⟨callee,args,cB⟩:=c
  cases callee with
  |value f=>rfl
  |invoke r m=>rfl
  |builtin b=>
   cases b<;>first|rfl|skip
   have e:args.map (ak I)=args.map (ak aC):=Array.map_congr_left λx hx=>h x (by simp[Op.operands,Call.operands];exact hx);simp only[cV];rw[e]
def aoL{ae:Hp}(h:DC op=false):cV P op I U=cV P op I ae:=by
 cases op<;>first|rfl|(cases h;done)|skip
 case slice t x lo hi mx=>cases mx<;>rfl
 case call c=>
  obtain⟨callee,args,cB⟩:=c
  cases callee with
  |value f=>rfl
  |invoke r m=>rfl
  |builtin b=>cases b<;>rfl
open Classical in
noncomputable def sl(ops:Array Oper)(fe:av)(vals:Nat->Option Value)(t:Nat):Value:=
 if h:∃v i,gn ops i=some t/\vals i=some v then h.choose else fe t
structure Good (ops:Array Oper) (l:List Nat):Prop where
 all:∀i,i<ops.size->i∈l
 lt:∀i∈l,i<ops.size
 pw:l.Pairwise λi j=>i≠j/\ff ops i j=false/\(oI ops i=true\/ff ops j i=true)
 op:∀i,i<ops.size->MS ops i=true
 zR:∀i,i<ops.size->ff ops i i=false
def UW:∀{l:List Nat},HZ ops l=true->l.Pairwise λi j=>i≠j/\ff ops i j=false/\(oI ops i=true\/ff ops j i=true)
 |[],_=>.nil
 |i::r,h=>by simp only[HZ,Bool.and_eq_true,List.all_eq_true,Bool.not_eq_true',Bool.or_eq_true,beq_eq_false_iff_ne]at h;exact .cons (λj hj=>⟨(h.1 j hj).1.1,(h.1 j hj).1.2,(h.1 j hj).2⟩) (UW h.2)
variable {l:List Nat}
def Rj(h:sX ops l=true):Good ops l:=by simp only[sX,Bool.and_eq_true,List.all_eq_true,List.contains_eq_mem,List.mem_range,Bool.not_eq_true',decide_eq_true_eq]at h;obtain⟨⟨⟨⟨h1,h2⟩,h3⟩,h4⟩,h5⟩:=h;exact⟨h1,h2,UW h3,h4,h5⟩
structure W1 (ops:Array Oper) (i:Nat) (o:Oper):Prop where
 wr:cW o.op=true\/MH o.op=true
 on:∀e∈o.after,e.on<ops.size
 dst:∀j d,j<ops.size->j≠i->o.dst=some d->gn ops j≠some d
 apQ:∀j d,j<ops.size->j≠i->gn ops j=some d->d∈slotsOf ops o->ff ops i j=true\/ff ops j i=true
def Good.EV(h:Good ops l)(ho:ops[i]? =some o):W1 ops i o:=by
 have hi:i<ops.size:=(Array.getElem?_eq_some_iff.1 ho).1;have hc:=h.op i hi;simp only[MS,ho,Bool.and_eq_true,Bool.or_eq_true,List.all_eq_true,List.mem_range,beq_iff_eq,decide_eq_true_eq]at hc;obtain⟨⟨h1,h2⟩,h3⟩:=hc;refine⟨h1,λe he=>h2 e (aW he),λj d hj aE hd=>?_,λj d hj aE hd hs=>?_⟩
 ·rcases h3 j hj with e|⟨h4,_⟩
  ·exact absurd e.symm aE
  ·rw[hd]at h4;simpa using h4
 ·rcases h3 j hj with e|⟨_,h5⟩
  ·exact absurd e.symm aE
  ·rw[hd]at h5;simp only[Bool.or_eq_true,Bool.not_eq_true',List.contains_eq_mem,decide_eq_false_iff_not]at h5;rcases h5 with(h5|h5)|h5
   ·exact absurd hs h5
   ·exact .inl h5
   ·exact .inr h5
def Qn{d:Tmp}(h:gn ops i=some d):i<ops.size:=by unfold gn at h;obtain⟨o,ho,_⟩:=Option.bind_eq_some_iff.1 h;exact(Array.getElem?_eq_some_iff.1 ho).1
variable {j:Nat}
def Good.uniq(h:Good ops l){d:Tmp}(hi:gn ops i=some d)(hj:gn ops j=some d):i=j:=by obtain⟨o,ho,hd⟩:=Option.bind_eq_some_iff.1 hi;exact Classical.byContradiction λaE=>(h.EV ho).dst j d (Qn hj) (λe=>aE e.symm) hd hj
variable {fe:av}{vals:Nat->Option Value}{gM:List Nat}{t:Nat}
def Fb(G:Good ops gM)(hd:gn ops i=some t)(hv:vals i=some v):sl ops fe vals t=v:=by unfold sl;have h:∃v i,gn ops i=some t/\vals i=some v:=⟨v,i,hd,hv⟩;rw[dif_pos h];obtain⟨j,hj,hjv⟩:=h.choose_spec;obtain rfl:=G.uniq hd hj;exact Option.some.inj (hjv.symm.trans hv)
def vy(h:∀i,gn ops i=some t->vals i=none):sl ops fe vals t=fe t:=by unfold sl;rw[dif_neg];rintro⟨v,i,hd,hv⟩;rw[h i hd]at hv;cases hv
def kZ(vals:Nat->Option Value)(i:Nat)(v:Value):Nat->Option Value:=λj=>if j=i then some v else vals j
def Nk(G:Good ops gM)(ho:ops[i]? =some o)(v:Value):aB (sl ops fe vals) o.dst v=sl ops fe (kZ vals i v):=by
 have R9:gn ops i=o.dst:=by simp[gn,ho]
 funext t
 by_cases hi:gn ops i=some t
 ·rw[Fb G hi (show kZ vals i v i=some v by simp[kZ])];rw[R9]at hi;rw[hi];simp[aB,up]
 ·have hl:aB (sl ops fe vals) o.dst v t=sl ops fe vals t:=by
   cases hd:o.dst with
   |none=>rfl
   |some d=>
    have:t≠d:=λe=>hi (by rw[R9,hd,e]);simp[aB,up,this]
  rw[hl];by_cases hx:∃w j,gn ops j=some t/\vals j=some w
  ·obtain⟨w,j,hj,hw⟩:=hx;have aE:j≠i:=λe=>hi (e▸hj);rw[Fb G hj hw,Fb G hj (show kZ vals i v j=some w by simp[kZ,aE,hw])]
  ·rw[vy (λj hj=>by cases hw:vals j with|none=>rfl|some w=>exact absurd ⟨w,j,hj,hw⟩ hx)]
   rw[vy (λj hj=>by
    have aE:j≠i:=λe=>hi (e▸hj)
    simp only[kZ,aE,if_false]
    cases hw:vals j with
    |none=>rfl
    |some w=>exact absurd ⟨w,j,hj,hw⟩ hx)]
def Fa(G:Good ops gM)(ho:ops[i]? =some o){lM:Nat->Option Value}(oA:vals i=lM i)(ha:∀j,ff ops i j=true->vals j=lM j)(hb:∀j,ff ops j i=true->vals j=lM j):
 ∀t∈slotsOf ops o,sl ops fe vals t=sl ops fe lM t:=by
 intro t ht;by_cases hx:∃j,gn ops j=some t
 ·obtain⟨j,hj⟩:=hx
  have e:vals j=lM j:=by
   by_cases Bs:j=i
   ·subst Bs;exact oA
   ·rcases(G.EV ho).apQ j t (Qn hj) Bs hj ht with h|h
    ·exact ha j h
    ·exact hb j h
  cases hv:vals j with
  |some v=>rw[Fb G hj hv,Fb G hj (e▸hv)]
  |none=>
   rw[vy (λk hk=>by rw[G.uniq hk hj];exact hv),vy (λk hk=>by rw[G.uniq hk hj,<-e];exact hv)]
 ·rw[vy (λj hj=>absurd ⟨j,hj⟩ hx),vy (λj hj=>absurd ⟨j,hj⟩ hx)]
def QF(h:∀t∈slotsOf ops o,I t=aC t):∀x∈o.op.operands,ak I x=ak aC x:=by
 intro x hx
 cases x<;>first|rfl|skip
 rename_i t;exact h t (List.mem_append.2 (.inl (List.mem_filterMap.2 ⟨.tmp t,aW hx,rfl⟩)))
def NQ(h:∀t∈slotsOf ops o,I t=aC t):Region.wanted o (gX N ops I)=Region.wanted o (gX N ops aC):=by
 unfold Region.wanted
 cases hg:o.guard with
 |none=>rfl
 |some p=>
  obtain⟨j,b⟩:=p;simp only
  have:gX N ops I j=gX N ops aC j:=by
   unfold gX
   cases hd:(ops[j]?).bind (·.dst)with
   |none=>rfl
   |some d=>
    simp only;rw[h d (List.mem_append.2 (.inr (by rw[hg];simp[gn,hd])))]
  rw[this]
def acX(hs:MH o.op=true)(h:∀t∈slotsOf ops o,I t=aC t):execOp (ak I) o=execOp (ak aC) o:=
 execOp_congr o (λcs b e=>by rw[e]at hs;cases hs) (QF h)
def Xk(P:Program)(N:Nat)(ops:Array Oper)(fe:av)(vals:Nat->Option Value)(cJ:List (Nat×av×Value))(U:Hp)(r:Nat):Prop:=
 ∃o qz,ops[r]? =some o/\pD N o.dst=true/\cW o.op=true/\
  (∀t∈slotsOf ops o,qz t=sl ops fe (λj=>if ff ops r j=true then vals j else none) t)/\
  ((Region.wanted o (gX N ops qz)=true/\∃v,vals r=some v/\(r,qz,v)∈cJ/\cV P o.op qz U=some v)\/(Region.wanted o (gX N ops qz)=false/\vals r=some undef))
variable {pn:List PanicEntry->List Deferred->Hp->Prop}
structure vG (E:Env P) (N:Nat) (ops:Array Oper) (Q:Post) (pn:List PanicEntry->List Deferred->Hp->Prop) (fe:av) (gM:List Nat) (listed:Array Bool) (pre rest:List Nat) (cJ:List (Nat×av×Value)) (vals:Nat->Option Value)
 (ds:List Deferred) (U:Hp):Prop where
 size:listed.size=ops.size
 split:gM=pre++rest
 sub:∀i,listed.getD i false=true->i∈pre
 wr:∀i∈pre,oI ops i=false->listed.getD i false=true
 xC:∀i,i∉pre->vals i=none
 has:∀i∈pre,∃v,vals i=some v
 down:∀i j,listed.getD i false=true->ff ops i j=true->listed.getD j false=true
 waits:∀r∈pre,listed.getD r false=false->Xk P N ops fe vals cJ U r
 wp:gh E N ops Q pn rest cJ (sl ops fe vals) ds U
variable {pre rest:List Nat}
def vm(G:Good ops gM)(hs:gM=pre++rest)(hi:i∈pre)(hj:j∈rest):i≠j/\ff ops i j=false/\(oI ops i=true\/ff ops j i=true):=by have:=G.pw;rw[hs,List.pairwise_append]at this;exact this.2.2 i hi j hj
def XR{f:Nat}:vI ops f i j=true->vI ops (f+1) i j=true:=by
 induction f generalizing i j with
 |zero=>intro h;cases h
 |succ f ih=>
  intro h;unfold vI at h|-
  cases ho:ops[i]? with
  |none=>rw[ho]at h;cases h
  |some o=>
   rw[ho]at h;simp only[List.any_eq_true,Bool.and_eq_true,Bool.or_eq_true,beq_iff_eq]at h|-;obtain⟨e,he,hb,h⟩:=h;exact⟨e,he,hb,h.imp id ih⟩
def XS(ho:ops[i]? =some o){e:Edge}(he:e∈o.after)(hb:Region.binds .any e=true):ff ops i e.on=true:=by have hi:i<ops.size:=(Array.getElem?_eq_some_iff.1 ho).1;unfold ff;obtain⟨n,hn⟩:∃n,ops.size=n+1:=⟨ops.size-1,aa⟩;rw[hn];unfold vI;rw[ho];simp only[List.any_eq_true,Bool.and_eq_true,Bool.or_eq_true,beq_iff_eq];exact⟨e,aW he,hb,.inl rfl⟩
variable {listed:Array Bool}
def Vf(afR:∀i j,listed.getD i false=true->ff ops i j=true->listed.getD j false=true)(ho:ops[i]? =some o)(hr:∀e∈o.after,Region.binds .any e=true->listed.getD e.on false=true)(h:ff ops i j=true):listed.getD j false=true:=by
 unfold ff at h
 cases hn:ops.size with
 |zero=>rw[hn]at h;cases h
 |succ n=>
  rw[hn]at h;unfold vI at h;rw[ho]at h;simp only[List.any_eq_true,Bool.and_eq_true,Bool.or_eq_true,beq_iff_eq]at h;obtain⟨e,he,hb,h⟩:=h;have hl:=hr e (aW he) hb;rcases h with rfl|h
  ·exact hl
  ·exact afR e.on j hl (by unfold ff;rw[hn];exact XR h)
def Fq(G:Good ops gM)(hs:gM=pre++rest){r:Nat}(hr:r∈pre)(h:ff ops r j=true)(hj:j<ops.size):j∈pre:=by
 have:j∈gM:=G.all j hj;rw[hs,List.mem_append]at this;rcases this with h'|h'
 ·exact h'
 ·have:=(vm G hs hr h').2.1;rw[h]at this;cases this
def XQ(G:Good ops gM){f:Nat}:vI ops f i j=true->j<ops.size:=by
 induction f generalizing i with
 |zero=>intro h;cases h
 |succ f ih=>
  intro h;unfold vI at h
  cases ho:ops[i]? with
  |none=>rw[ho]at h;cases h
  |some o=>
   rw[ho]at h;simp only[List.any_eq_true,Bool.and_eq_true,Bool.or_eq_true,beq_iff_eq]at h;obtain⟨e,he,_,h⟩:=h;rcases h with rfl|h
   ·exact(G.EV ho).on e (aW he)
   ·exact ih h
def CF(G:Good ops gM)(h:ff ops i j=true):j<ops.size:=XQ G h
def advance(G:Good ops gM):∀(rest pre:List Nat) (cJ:List (Nat×av×Value)) (vals:Nat->Option Value),vG E N ops Q pn fe gM listed pre rest cJ vals ds U->
 ∃HX oJ vk lM,vG E N ops Q pn fe gM listed HX oJ vk lM ds U/\(∀i,listed.getD i false=true->lM i=vals i)/\(oJ=[]\/∃w r',oJ=w::r'/\oI ops w=false):=by
 intro rest
 induction rest with
 |nil=>exactλpre cJ vals au1=>⟨pre,[],cJ,vals,au1,λ_ _=>rfl,.inl rfl⟩
 |cons r rest ih=>
  intro pre cJ vals au1;by_cases gK:oI ops r=false
  ·exact⟨pre,r::rest,cJ,vals,au1,λ_ _=>rfl,.inr ⟨r,rest,rfl,gK⟩⟩
  have hr:r<ops.size:=G.lt r (by rw[au1.split];simp);have ho:ops[r]? =some ops[r]:=Array.getElem?_eq_getElem hr;have hw:=au1.wp;simp only[gh,ho]at hw;obtain⟨hd,hw⟩:=hw
  have zK:cW (ops[r]).op=true:=by unfold oI at gK;rw[ho]at gK;simpa using gK
  rw[if_pos zK]at hw;have cU:gM=(pre++[r])++rest:=by rw[au1.split];simp
  have uJ:r∉pre:=λh=>(vm G au1.split h (List.mem_cons_self ..)).1 rfl;have Lr:∀i,listed.getD i false=true->i≠r:=λi hi e=>uJ (e▸au1.sub i hi)
  have one:∀(v:Value) (vk:List (Nat×av×Value)),(∀x∈cJ,x∈vk)->
   ((Region.wanted ops[r] (gX N ops (sl ops fe vals))=true/\(r,sl ops fe vals,v)∈vk/\cV P (ops[r]).op (sl ops fe vals) U=some v)\/(Region.wanted ops[r] (gX N ops (sl ops fe vals))=false/\v=undef))->
   gh E N ops Q pn rest vk (aB (sl ops fe vals) (ops[r]).dst v) ds U->vG E N ops Q pn fe gM listed (pre++[r]) rest vk (kZ vals r v) ds U:=by
   intro v vk j9 hv BB;have Ho:kZ vals r v r=some v:=by simp[kZ]
   have po:∀j,j≠r->kZ vals r v j=vals j:=λj hj=>by simp[kZ,hj]
   refine⟨au1.size,cU,λi hi=>List.mem_append.2 (.inl (au1.sub i hi)),λi hi S0=>?_,λi hi=>?_,λi hi=>?_,au1.down,λx hx hxl=>?_,by rw[Nk G ho]at BB;exact BB⟩
   ·rcases List.mem_append.1 hi with h|h
    ·exact au1.wr i h S0
    ·simp at h;subst h;exact absurd S0 gK
   ·have:i≠r:=λe=>hi (by rw[e];simp);rw[po i this];exact au1.xC i (λh=>hi (List.mem_append.2 (.inl h)))
   ·rcases List.mem_append.1 hi with h|h
    ·by_cases e:i=r
     ·subst e;exact⟨v,Ho⟩
     ·obtain⟨u,hu⟩:=au1.has i h;exact⟨u,by rw[po i e];exact hu⟩
    ·simp at h;subst h;exact⟨v,Ho⟩
   ·rcases List.mem_append.1 hx with h|h
    ·obtain⟨o,qz,uK,jH,GS,ha,hc⟩:=au1.waits x h hxl;have S7:x≠r:=λe=>uJ (e▸h);refine⟨o,qz,uK,jH,GS,λt ht=>?_,?_⟩
     ·rw[ha t ht];refine Fa G uK ?_ ?_ ?_ t ht
      ·have:=G.zR x (G.lt x (by rw[au1.split];exact List.mem_append.2 (.inl h)));simp[this]
      ·intro j hj;rw[if_pos hj,if_pos hj];have:j∈pre:=Fq G au1.split h hj (CF G hj);exact(po j (λe=>uJ (e▸this))).symm
      ·intro j hj;by_cases l9:ff ops x j=true
       ·rw[if_pos l9,if_pos l9];have:j∈pre:=Fq G au1.split h l9 (CF G l9);exact(po j (λe=>uJ (e▸this))).symm
       ·rw[if_neg l9,if_neg l9]
     ·rcases hc with⟨zO,u,hu,hm,zL⟩|⟨zO,hu⟩
      ·exact .inl ⟨zO,u,by rw[po x S7];exact hu,j9 _ hm,zL⟩
      ·exact .inr ⟨zO,by rw[po x S7];exact hu⟩
    ·simp at h;subst h;refine⟨ops[x],sl ops fe vals,ho,hd,zK,λt ht=>?_,?_⟩
     ·refine Fa G ho ?_ ?_ ?_ t ht
      ·rw[G.zR x hr];simp only[Bool.false_eq_true,if_false];exact au1.xC x uJ
      ·intro j hj;rw[if_pos hj];by_cases e:j=x
       ·subst e;rw[G.zR j hr]at hj;cases hj
       ·exact(po j e).symm
      ·intro j hj
       have GX:j∉pre:=λh=>by have:=(vm G au1.split h (List.mem_cons_self ..)).2.1;rw[hj]at this;cases this
       rw[au1.xC j GX];by_cases l9:ff ops x j=true
       ·have:j∈pre++[x]:=Fq G cU al l9 (CF G l9);rcases List.mem_append.1 this with h|h
        ·exact absurd h GX
        ·simp at h;subst h;rw[G.zR j hr]at l9;cases l9
       ·rw[if_neg l9]
     ·rcases hv with⟨h1,h2,h3⟩|⟨h1,rfl⟩
      ·exact .inl ⟨h1,v,Ho,h2,h3⟩
      ·exact .inr ⟨h1,Ho⟩
  by_cases Hs:Region.wanted ops[r] (gX N ops (sl ops fe vals))=true
  ·rw[if_pos Hs]at hw
   cases ik:cV P (ops[r]).op (sl ops fe vals) U with
   |none=>rw[ik]at hw;exact hw.elim
   |some v=>
    rw[ik]at hw;obtain⟨p',r',MW,v',I',e',h'⟩:=ih _ _ _ (one v _ (λx hx=>List.mem_cons_of_mem _ hx) (.inl ⟨Hs,List.mem_cons_self ..,ik⟩) hw);exact⟨p',r',MW,v',I',λi hi=>by rw[e' i hi];simp[kZ,Lr i hi],h'⟩
  ·rw[if_neg Hs]at hw;obtain⟨p',r',MW,v',I',e',h'⟩:=ih _ _ _ (one undef cJ (λx hx=>hx) (.inr ⟨aW Hs,rfl⟩) hw);exact⟨p',r',MW,v',I',λi hi=>by rw[e' i hi];simp[kZ,Lr i hi],h'⟩
def Ci(ops:Array Oper)(listed:Array Bool):Nat:=(List.range ops.size).countP λi=> !listed.getD i true
def ajt{cJ:List (Nat×av×Value)}(h:px (P:=P) ops i U cJ){r:Nat}{qz:av}(hm:(r,qz,v)∈cJ)(ho:ops[r]? =some o)(hh:DC o.op=true)(ha:ff ops i r=false):
 cV P o.op qz U=some v:=by
 induction cJ with
 |nil=>cases hm
 |cons x cJ ih=>
  obtain⟨j,ρj,u⟩:=x;simp only[px]at h;rcases List.mem_cons.1 hm with e|hm
  ·cases e
   have:=h.1;rw[ho]at this;simpa[hh,ha]using this
  ·exact ih h.2 hm
def Q6(h:i<listed.size)(d:Bool):(listed.setIfInBounds i true).getD i d=true:=by rw[Array.getD_eq_getD_getElem?,Array.getElem?_setIfInBounds_self_of_lt h];rfl
def Q5(h:i<listed.size)(d d':Bool):listed.getD i d=listed.getD i d':=by rw[Array.getD_eq_getD_getElem?,Array.getD_eq_getD_getElem?,Array.getElem?_eq_getElem h];rfl
def Wc(hs:listed.size=ops.size)(hi:i<ops.size)(hf:listed.getD i true=false):Ci ops (listed.setIfInBounds i true)+1=Ci ops listed:=by
 unfold Ci
 have key:∀(l:List Nat),l.Nodup->i∈l->(l.countP λj=> !(listed.setIfInBounds i true).getD j true)+1=l.countP λj=> !listed.getD j true:=by
  intro l
  induction l with
  |nil=>intro _ h;cases h
  |cons x l ih=>
   intro hn hm;rw[List.nodup_cons]at hn;rw[List.countP_cons,List.countP_cons];by_cases e:x=i
   ·subst e;have h1:(!(listed.setIfInBounds x true).getD x true)=false:=by rw[Q6 aa];rfl
    have h2:(l.countP λj=> !(listed.setIfInBounds x true).getD j true)=l.countP λj=> !listed.getD j true:=by refine List.countP_congr λj hj=>?_;have:x≠j:=λe=>hn.1 (e▸hj);rw[getD_set_ne true this]
    rw[h1,h2,hf];simp
   ·have rX:i∈l:=by rcases List.mem_cons.1 hm with h|h;exact absurd h.symm e;exact h
    have:=ih hn.2 rX;rw[getD_set_ne true (λz=>e z.symm)];omega
 exact key _ List.nodup_range (List.mem_range.2 hi)
variable {α:Type}
def aoS{p:List α->Prop}(h0:p [])(hs:∀l x,p l->p (l++[x])):∀l,p l:=by
 intro l;rw[<-l.reverse_reverse];generalize l.reverse=r
 induction r with
 |nil=>exact h0
 |cons x r ih=>rw[List.reverse_cons];exact hs _ _ ih
def OW(G:Good ops gM)(uL:∀ch I ds U,pn ch ds U->Q (.panic ch) I ds U):∀(fuel:Nat) (listed:Array Bool) (pre rest:List Nat) (cJ:List (Nat×av×Value)) (vals:Nat->Option Value) (ds:List Deferred) (U:Hp),
 Ci ops listed<=fuel->vG E N ops Q pn fe gM listed pre rest cJ vals ds U->(rest=[]\/∃w r',rest=w::r'/\oI ops w=false)->
 tV E N ops Q fuel listed (sl ops fe (λi=>if listed.getD i false=true then vals i else none)) ds U:=by
 have fin:∀(listed:Array Bool) (pre rest:List Nat) (cJ:List (Nat×av×Value)) (vals:Nat->Option Value) (ds:List Deferred) (U:Hp),vG E N ops Q pn fe gM listed pre rest cJ vals ds U->(rest=[]\/∃w r',rest=w::r'/\oI ops w=false)->
  Region.ready .any ops listed=[]->Q .normal (sl ops fe (λi=>if listed.getD i false=true then vals i else none)) ds U:=by
  intro listed pre rest cJ vals ds U au1 lC qg
  have all:∀(a b:List Nat),gM=a++b->∀i∈a,listed.getD i false=true:=by
   refine aoS ?_ ?_
   ·intro b _ i hi;cases hi
   ·intro a x ih b hb i hi;have dJ:gM=a++(x::b):=by rw[hb];simp
    have ha:=ih (x::b) dJ;rcases List.mem_append.1 hi with h|h
    ·exact ha i h
    ·simp at h;subst h;refine Classical.byContradiction λaE=>?_;have bl:i<ops.size:=G.lt i (by rw[hb];simp);have ho:ops[i]? =some ops[i]:=Array.getElem?_eq_getElem bl
     have:i∈Region.ready .any ops listed:=by
      refine mem_ready.2 ⟨?_,ops[i],ho,λe he mD=>?_⟩
      ·rw[Q5 (by rw[au1.size];exact bl) true false];simpa using aE
      ·have KI:=XS ho he mD;have hon:=(G.EV ho).on e he;have qf:e.on∈gM:=G.all e.on hon;rw[dJ,List.mem_append]at qf;rcases qf with h|h
       ·exact ha _ h
       ·rcases List.mem_cons.1 h with h|h
        ·rw[h,G.zR i bl]at KI;cases KI
        ·have:=(vm G (by rw[hb]) (show i∈a++[i]by simp) h).2.1;rw[KI]at this;cases this
     rw[qg]at this;cases this
  have Ec:rest=[]:=by
   rcases lC with h|⟨w,r',rfl,hw⟩
   ·exact h
   ·exfalso;have h1:=all (pre++[w]) r' (by rw[au1.split];simp) w al;have h2:=au1.sub w h1;exact(vm G au1.split h2 (List.mem_cons_self ..)).1 rfl
  subst Ec;have hq:Q .normal (sl ops fe vals) ds U:=au1.wp
  have:(λi=>if listed.getD i false=true then vals i else none)=vals:=by
   funext i
   by_cases hi:i∈pre
   ·rw[if_pos (all pre [] au1.split i hi)]
   ·rw[au1.xC i hi];split<;>rfl
  rw[this];exact hq
 intro fuel
 induction fuel with
 |zero=>
  intro listed pre rest cJ vals ds U hf au1 lC
  have qg:Region.ready .any ops listed=[]:=by
   cases hr:Region.ready .any ops listed with
   |nil=>rfl
   |cons i t=>
    exfalso;have hm:i∈Region.ready .any ops listed:=by rw[hr];simp
    obtain⟨h0,o,ho,_⟩:=mem_ready.1 hm;have hi:i<ops.size:=(Array.getElem?_eq_some_iff.1 ho).1;have:=Wc (ops:=ops) au1.size hi h0;omega
  exact⟨qg,fin _ _ _ _ _ _ _ au1 lC qg⟩
 |succ fuel ih=>
  intro listed pre rest cJ vals ds U hf au1 lC;refine⟨fin _ _ _ _ _ _ _ au1 lC,λi hi=>?_⟩;obtain⟨h0,o,ho,KR⟩:=mem_ready.1 hi;have Br:i<ops.size:=(Array.getElem?_eq_some_iff.1 ho).1;have uo:listed.getD i false=false:=by rw[Q5 (by rw[au1.size];exact Br) false true];exact h0
  have uz:∀j,ff ops i j=true->listed.getD j false=true:=λj hj=>Vf au1.down ho KR hj;have xN:=Wc (ops:=ops) au1.size Br h0;have SR:(listed.setIfInBounds i true).size=ops.size:=by simpa using au1.size
  have oA:(listed.setIfInBounds i true).getD i false=true:=Q6 (by rw[au1.size];exact Br) _;have oz:∀j,j≠i->(listed.setIfInBounds i true).getD j false=listed.getD j false:=λj hj=>getD_set_ne false (λe=>hj e.symm)
  have Sb:∀a b,(listed.setIfInBounds i true).getD a false=true->ff ops a b=true->(listed.setIfInBounds i true).getD b false=true:=by
   intro a b ha dr;by_cases e:a=i
   ·subst e;by_cases e':b=a
    ·subst e';exact oA
    ·rw[oz b e'];exact uz b dr
   ·rw[oz a e]at ha;by_cases e':b=i
    ·subst e';exact oA
    ·rw[oz b e'];exact au1.down a b ha dr
  have Sr:∀j,ff ops j i=true->listed.getD j false=false:=by
   intro j hj
   cases hl:listed.getD j false with
   |false=>rfl
   |true=>rw[au1.down j i hl hj]at uo;cases uo
  have SZ:∀(u:Nat->Option Value) (v:Value),u i=some v->(∀j,listed.getD j false=true->u j=vals j)->
   kZ (λj=>if listed.getD j false=true then vals j else none) i v=λj=>if(listed.setIfInBounds i true).getD j false=true then u j else none:=by
   intro u v hu Hg
   funext j
   by_cases e:j=i
   ·subst e;rw[if_pos oA,hu];simp[kZ]
   ·rw[oz j e];simp only[kZ,e,if_false];by_cases hl:listed.getD j false=true
    ·rw[if_pos hl,if_pos hl,Hg j hl]
    ·rw[if_neg hl,if_neg hl]
  unfold ml;rw[ho];by_cases gK:oI ops i=true
  ·
   have Sm:i∈pre:=by
    have hm:i∈gM:=G.all i Br;rw[au1.split,List.mem_append]at hm;rcases hm with h|h
    ·exact h
    ·exfalso;rcases lC with e|⟨w,r',rfl,hw⟩
     ·rw[e]at h;cases h
     ·rcases List.mem_cons.1 h with e|h
      ·subst e;rw[gK]at hw;cases hw
      ·have cU:gM=(pre++[w])++r':=by rw[au1.split];simp
       have h3:=(vm G cU (show w∈pre++[w]by simp) h).2.2;rw[hw]at h3;have h4:=uz w (h3.resolve_left al);exact(vm G au1.split (au1.sub w h4) (List.mem_cons_self ..)).1 rfl
   obtain⟨o',qz,uK,hd,GU,hag,hc⟩:=au1.waits i Sm uo;obtain rfl:o'=o:=Option.some.inj (uK.symm.trans ho);refine⟨hd,?_⟩
   have Bg:∀t∈slotsOf ops o',sl ops fe (λj=>if listed.getD j false=true then vals j else none) t=qz t:=by
    intro t ht;rw[hag t ht];refine Fa G ho ?_ ?_ ?_ t ht
    ·simp only[uo,G.zR i Br,Bool.false_eq_true,if_false]
    ·intro j hj;rw[if_pos (uz j hj),if_pos hj]
    ·intro j hj;have hl:=Sr j hj;simp only[hl,Bool.false_eq_true,if_false];by_cases qV:ff ops i j=true
     ·rw[uz j qV]at hl;cases hl
     ·rw[if_neg qV]
   have I':vG E N ops Q pn fe gM (listed.setIfInBounds i true) pre rest cJ vals ds U:=by
    refine⟨SR,au1.split,λj hj=>?_,λj hj hw=>?_,au1.xC,au1.has,Sb,λr hr hl=>?_,au1.wp⟩
    ·by_cases e:j=i
     ·subst e;exact Sm
     ·rw[oz j e]at hj;exact au1.sub j hj
    ·by_cases e:j=i
     ·subst e;exact oA
     ·rw[oz j e];exact au1.wr j hj hw
    ·have e:r≠i:=λe=>by subst e;rw[oA]at hl;cases hl
     rw[oz r e]at hl;exact au1.waits r hr hl
   have next:∀v,vals i=some v->tV E N ops Q fuel (listed.setIfInBounds i true) (aB (sl ops fe (λj=>if listed.getD j false=true then vals j else none)) o'.dst v) ds U:=by intro v hv;rw[Nk G ho,SZ vals v hv (λ_ _=>rfl)];exact ih _ _ _ _ _ _ _ aa I' lC
   rcases hc with⟨hw,v,hv,hm,zL⟩|⟨hw,hv⟩
   ·rw[NQ (N:=N) Bg,if_pos hw];rw[<-aoK (QF Bg)]at zL;rw[if_pos (by assumption)];exact⟨v,zL,next v hv⟩
   ·rw[NQ (N:=N) Bg,hw,if_neg al];exact next undef hv
  ·
   have zK:oI ops i=false:=aW gK;have uJ:i∉pre:=λh=>by rw[au1.wr i h zK]at uo;cases uo
   have hm:i∈rest:=by have hm:i∈gM:=G.all i Br;rw[au1.split,List.mem_append]at hm;exact hm.resolve_left uJ
   rcases lC with e|⟨w,r',rfl,hw⟩
   ·rw[e]at hm;cases hm
   have hiw:i=w:=by
    rcases List.mem_cons.1 hm with e|h
    ·exact e
    ·exfalso;have cU:gM=(pre++[w])++r':=by rw[au1.split];simp
     have h3:=(vm G cU (show w∈pre++[w]by simp) h).2.2;rw[hw]at h3;have h4:=uz w (h3.resolve_left al);exact(vm G au1.split (au1.sub w h4) (List.mem_cons_self ..)).1 rfl
   subst hiw;have BB:=au1.wp;simp only[gh,ho]at BB;have GU:cW o.op=false:=by unfold oI at zK;rw[ho]at zK;exact zK
   rw[if_neg (by rw[GU];simp)]at BB;obtain⟨hd,aS⟩:=BB;have ahp:=(G.EV ho).wr.resolve_left (by rw[GU];simp);refine⟨hd,?_⟩
   have Bg:∀t∈slotsOf ops o,sl ops fe vals t=sl ops fe (λj=>if listed.getD j false=true then vals j else none) t:=by
    refine Fa G ho ?_ ?_ ?_
    ·simp only[uo,Bool.false_eq_true,if_false];exact au1.xC i uJ
    ·intro j hj;rw[if_pos (uz j hj)]
    ·intro j hj;have hl:=Sr j hj;simp only[hl,Bool.false_eq_true,if_false];refine au1.xC j λGX=>?_;have:=(vm G au1.split GX (List.mem_cons_self ..)).2.1;rw[hj]at this;cases this
   rw[<-NQ (N:=N) Bg]
   suffices key:∀(v:Value) (dk:List Deferred) (ae:Hp),(px (P:=P) ops i ae cJ\/ae=U)->gh E N ops Q pn r' cJ (aB (sl ops fe vals) o.dst v) dk ae->
    tV E N ops Q fuel (listed.setIfInBounds i true) (aB (sl ops fe (λj=>if listed.getD j false=true then vals j else none)) o.dst v) dk ae by
    by_cases S3:Region.wanted o (gX N ops (sl ops fe vals))=true
    ·rw[if_pos S3]at aS|-;rw[if_neg (by rw[GU];simp)];refine Wn (acX ahp Bg) ?_ (λch ae h=>uL ch _ ds ae h) (sC aS);rintro v dk ae ⟨hk,Hr⟩;exact key v dk ae (.inl hk) Hr
    ·rw[if_neg S3]at aS|-;exact key undef ds U (.inr rfl) aS
   rintro v dk ae hk Hr;have cU:gM=(pre++[i])++r':=by rw[au1.split];simp
   rw[Nk G ho]at Hr|-;have LL:kZ vals i v i=some v:=by simp[kZ]
   have po:∀j,j≠i->kZ vals i v j=vals j:=λj hj=>by simp[kZ,hj]
   have I':vG E N ops Q pn fe gM (listed.setIfInBounds i true) (pre++[i]) r' cJ (kZ vals i v) dk ae:=by
    refine⟨SR,cU,λj hj=>?_,λj hj hw=>?_,λj hj=>?_,λj hj=>?_,Sb,λr hr hl=>?_,Hr⟩
    ·by_cases e:j=i
     ·subst e;simp
     ·rw[oz j e]at hj;exact List.mem_append.2 (.inl (au1.sub j hj))
    ·rcases List.mem_append.1 hj with h|h
     ·by_cases e:j=i
      ·subst e;exact oA
      ·rw[oz j e];exact au1.wr j h hw
     ·simp at h;subst h;exact oA
    ·have e:j≠i:=λe=>hj (by rw[e];simp);rw[po j e];exact au1.xC j (λh=>hj (List.mem_append.2 (.inl h)))
    ·rcases List.mem_append.1 hj with h|h
     ·by_cases e:j=i
      ·subst e;exact⟨v,LL⟩
      ·obtain⟨u,hu⟩:=au1.has j h;exact⟨u,by rw[po j e];exact hu⟩
     ·simp at h;subst h;exact⟨v,LL⟩
    ·have e:r≠i:=λe=>by subst e;rw[oA]at hl;cases hl
     have Hf:r∈pre:=by
      rcases List.mem_append.1 hr with h|h
      ·exact h
      ·simp at h;exact absurd h e
     rw[oz r e]at hl;obtain⟨UO,qz,Ls,afU,agw,we,afN⟩:=au1.waits r Hf hl;refine⟨UO,qz,Ls,afU,agw,λt ht=>?_,?_⟩
     ·rw[we t ht];refine Fa G Ls ?_ ?_ ?_ t ht
      ·have:=G.zR r (G.lt r (by rw[au1.split];exact List.mem_append.2 (.inl Hf)));simp[this]
      ·intro j hj;rw[if_pos hj,if_pos hj];have:j∈pre:=Fq G au1.split Hf hj (CF G hj);exact(po j (λe=>uJ (e▸this))).symm
      ·intro j hj;by_cases l9:ff ops r j=true
       ·rw[if_pos l9,if_pos l9];have:j∈pre:=Fq G au1.split Hf l9 (CF G l9);exact(po j (λe=>uJ (e▸this))).symm
       ·rw[if_neg l9,if_neg l9]
     ·rcases afN with⟨zO,u,hu,hm,zL⟩|⟨zO,hu⟩
      ·refine .inl ⟨zO,u,by rw[po r e];exact hu,hm,?_⟩
       cases hh:DC UO.op with
       |false=>rw[aoL hh (ae:=U)];exact zL
       |true=>
        rcases hk with hk|rfl
        ·refine ajt hk hm Ls hh ?_
         cases hx:ff ops i r with
         |false=>rfl
         |true=>rw[uz r hx]at hl;cases hl
        ·exact zL
      ·exact .inr ⟨zO,by rw[po r e];exact hu⟩
   obtain⟨HX,oJ,vk,lM,WU,Hg,agh⟩:=advance G _ _ _ _ I';have:=ih _ _ _ _ _ _ _ aa WU agh
   rw[SZ lM v (by rw[Hg i oA];exact LL) (λj hj=>by
    have e:j≠i:=λe=>by subst e;rw[uo]at hj;cases hj
    rw[Hg j (by rw[oz j e];exact hj),po j e])]
   exact this
def Qm(hc:sX ops l=true)(hm:P.follows .mixedOrders=true)(uL:∀ch I ds U,pn ch ds U->Q (.panic ch) I ds U)(h:gh E N ops Q pn l [] I ds U)(t:Nat):
 mS E N ops Q (Region.schedule (P.follows .mixedOrders) ops t) I ds U:=by
 have G:=Rj hc;have e0:sl ops I (λ_=>none)=I:=by funext t;exact vy (λ_ _=>rfl)
 have lW:∀i,(Array.replicate ops.size false).getD i false=false:=λi=>by rw[Array.getD_eq_getD_getElem?,Array.getElem?_replicate];split<;>rfl
 have au1:vG E N ops Q pn I l (Array.replicate ops.size false) [] l [] (λ_=>none) ds U:=by refine⟨al,rfl,λi hi=>(by rw[lW]at hi;cases hi),λi hi=>(by cases hi),λ_ _=>rfl,λi hi=>(by cases hi),λi j hi=>(by rw[lW]at hi;cases hi),λr hr=>(by cases hr),(by rw[e0];exact h)⟩
 obtain⟨HX,oJ,vk,lM,I',_,hh⟩:=advance G _ _ _ _ au1;have:=OW G uL ops.size _ _ _ _ _ _ _ (by unfold Ci;exact Nat.le_trans List.countP_le_length al) I' hh
 have e1:sl ops I (λi=>if(Array.replicate ops.size false).getD i false=true then lM i else none)=I:=by funext t;exact vy (λi _=>by rw[lW];rfl)
 rw[e1]at this;simp only[Region.schedule,hm,Bool.true_or,if_true];exact Wl _ t _ _ _ _ this
section
variable {I:av}{ds:List Deferred}{U:Hp}{nx:av->List Deferred->Hp->Prop}{N:Nat}{ops:Array Oper}{Q:Post}
variable {P:Program}(E:Env P)
def jl (N:Nat)(ops:Array Oper)(Q:Post):List Oper->av->List Deferred->Hp->Prop
 |[],I,ds,U=>Q .normal I ds U
 |o::rest,I,ds,U=>pD N o.dst=true/\
  if Region.wanted o (gX N ops I)then aU E o I ds U (jl N ops Q rest) (λch ae=>Q (.panic ch) I ds ae)
  else jl N ops Q rest (aB I o.dst undef) ds U
def lK (nx:av->List Deferred->Hp->Prop)(Q:Post):Post
 | .normal,I,ds,U=>nx I ds U
 |e,I,ds,U=>Q e I ds U
def pQ (id:Nat)(Q:Post):Post
 | .exit aL,I,ds,U=>if aL=id then Q .normal I ds U else Q (.exit aL) I ds U
 |e,I,ds,U=>Q e I ds U
def bH (X:av->List Deferred->Hp->Prop)(I:av)(ds:List Deferred)(U:Hp):Prop:=∃J:Hp,J.le U/\X I ds J
def cO (N:Nat):Code->Post->av->List Deferred->Hp->Prop
 | .skip,Q,I,ds,U| .label _,Q,I,ds,U=>Q .normal I ds U
 | .region _ ops false,Q,I,ds,U=>jl E N ops Q ops.toList I ds U
 | .region _ ops true,Q,I,ds,U=>∀t,mS E N ops Q (Region.schedule (P.follows .mixedOrders) ops t) I ds U
 | .seq x y,Q,I,ds,U=>cO N x (lK (cO N y Q) Q) I ds U
 | .cond c x y,Q,I,ds,U=>match ak I c with
   | .bool true=>cO N x Q I ds U
   | .bool false=>cO N y Q I ds U
   |_=>False
 | .block id c,Q,I,ds,U=>cO N c (pQ id Q) I ds U
 | .loop c,Q,I,ds,U=>∀X:av->List Deferred->Hp->Prop,(∀aC dk ae,cO N c (lK (bH X) Q) aC dk ae->X aC dk ae)->X I ds U
 | .exit id,Q,I,ds,U=>Q (.exit id) I ds U
 | .ret,Q,I,ds,U=>Q .ret I ds U
 |_,_,_,_,_=>False
end
def WK(b:Frame)(k:List Item)(cs:List Frame)(a:Act):Ex->Goroutine->Prop
 | .normal,g=>g=G (b.at a k) cs
 | .exit id,g=>∃k',g=G (b.at a (.code (.exit id)::k')) cs/\exitTo id k'=exitTo id k
 | .ret,g=>∃todo,g=G {b.at a todo with mode:=.returning} cs
 | .panic chain,g=>∃todo,g=G {b.at a todo with mode:=.panicking chain} cs
def Comes(N:Nat)(Q:Post)(b:Frame)(k:List Item)(cs:List Frame)(g:Goroutine)(U:Hp):Prop:=
 ∃e I ds a,cM N a I ds/\Q e I ds U/\WK b k cs a e g
def akl(l:List α):(List.range l.length).filterMap (l[·]?)=l:=by
 have:∀(n:Nat),n<=l.length->(List.range n).filterMap (l[·]?)=l.take n:=by
  intro n
  induction n with
  |zero=>intro _;rfl
  |succ n ih=>
   intro hn;rw[List.range_succ,List.filterMap_append,ih aa,List.take_succ_eq_append_getElem aa];simp[List.getElem?_eq_getElem (show n<l.length by omega)]
 rw[this _ (Nat.le_refl _),List.take_length]
def arS(b:Frame)(hb:b.kind≠.early)(k:List Item)(cs:List Frame)(l:List Nat):
 ∀(I:av) (ds:List Deferred) (U:Hp) (a:Act),jl E N ops Q (l.filterMap (ops[·]?)) I ds U->cM N a I ds->ax E (G (b.at a (.inRegion ops l::k)) cs) U (Comes N Q b k cs):=by
 induction l with
 |nil=>
  intro I ds U a h ha;exact ax.ctl (λw=>stepG_region_end) rfl rfl (ax.here ⟨.normal,I,ds,a,ha,h,rfl⟩)
 |cons i rest ih=>
  intro I ds U a h ha
  cases ho:ops[i]? with
  |none=>
   rw[List.filterMap_cons_none ho]at h;have jx:((ops[i]?).map (Region.wanted · (yielded ops a.tmps))).getD false=false:=by rw[ho];rfl
   have fC:(b.at a (.inRegion ops (i::rest)::k)).finish undef=b.at a (.inRegion ops rest::k):=by rw[Frame.finish_at,ho];rfl
   refine ax.ctl (g':=G (b.at a (.inRegion ops rest::k)) cs) (λw=>?_) rfl rfl (ih _ _ _ _ h ha);rw[<-fC];simp only[Frame.at]at*;simp[G,stepG,stepG.exec,jx]
  |some o=>
   rw[List.filterMap_cons_some ho]at h;simp only[jl]at h;obtain⟨hd,h⟩:=h;by_cases hw:Region.wanted o (gX N ops I)=true
   ·rw[if_pos hw]at h;have jx:Region.wanted o (yielded ops a.tmps)=true:=by rw[ha.yI];exact hw
    have h:=sC h;unfold wpOp at h;rw[<-ha.eval]at h;refine ax.step rfl (Nr (P:=P) (main:=E.main) (b:=b) (k:=k) (cs:=cs) (rest:=rest) ho jx hb h) ?_;rintro g ae (⟨v,hv,rfl⟩|⟨d,tp,rfl⟩|⟨f,args,hc,rfl⟩|⟨v,hp,rfl⟩)
    ·exact ih _ _ _ _ hv (ha.put hd v)
    ·exact ih _ _ _ _ tp ((ha.defer d).put hd undef)
    ·refine ay.run hc ?_ ?_
     ·intro v gA hv;have fC:(b.at a (.inRegion ops (i::rest)::k)).finish v=b.at (a.put o.dst v) (.inRegion ops rest::k):=by rw[Frame.finish_at,ho];rfl
      rw[fC];exact ih _ _ _ _ hv (ha.put hd v)
     ·intro ch gA hp;refine ax.here ⟨.panic ch,I,ds,a,ha,hp,.inRegion ops (i::rest)::k,?_⟩;rw[Frame.raise_at]
    ·refine ax.here ⟨.panic _,I,ds,a,ha,hp,.inRegion ops (i::rest)::k,?_⟩;rw[Frame.raise_at]
   ·rw[if_neg hw]at h;have jx:((ops[i]?).map (Region.wanted · (yielded ops a.tmps))).getD false=false:=by rw[ho,ha.yI];simpa using hw
    have fC:(b.at a (.inRegion ops (i::rest)::k)).finish undef=b.at (a.put o.dst undef) (.inRegion ops rest::k):=by rw[Frame.finish_at,ho];rfl
    refine ax.ctl (g':=G (b.at (a.put o.dst undef) (.inRegion ops rest::k)) cs) (λw=>?_) rfl rfl (ih _ _ _ _ h (ha.put hd undef));rw[<-fC];simp only[Frame.at]at*;simp[G,stepG,stepG.exec,jx]
def arU(b:Frame)(hb:b.kind≠.early)(k:List Item)(cs:List Frame)(l:List Nat):
 ∀(I:av) (ds:List Deferred) (U:Hp) (a:Act),mS E N ops Q l I ds U->cM N a I ds->ax E (G (b.at a (.inRegion ops l::k)) cs) U (Comes N Q b k cs):=by
 induction l with
 |nil=>
  intro I ds U a h ha;exact ax.ctl (λw=>stepG_region_end) rfl rfl (ax.here ⟨.normal,I,ds,a,ha,h,rfl⟩)
 |cons i rest ih=>
  intro I ds U a h ha;simp only[mS,ml]at h
  cases ho:ops[i]? with
  |none=>rw[ho]at h;exact h.elim
  |some o=>
   rw[ho]at h;obtain⟨hd,h⟩:=h;by_cases hw:Region.wanted o (gX N ops I)=true
   ·rw[if_pos hw]at h
    replace h:wpOp E o I ds U (mS E N ops Q rest) (λch ae=>Q (.panic ch) I ds ae):=by
     by_cases hr:cW o.op=true
     ·rw[if_pos hr]at h;obtain⟨v,h3,h4⟩:=h;exact sC (M5 h3 h4)
     ·rw[if_neg hr]at h;exact h
    have jx:Region.wanted o (yielded ops a.tmps)=true:=by rw[ha.yI];exact hw
    unfold wpOp at h;rw[<-ha.eval]at h;refine ax.step rfl (Nr (P:=P) (main:=E.main) (b:=b) (k:=k) (cs:=cs) (rest:=rest) ho jx hb h) ?_;rintro g ae (⟨v,hv,rfl⟩|⟨d,tp,rfl⟩|⟨f,args,hc,rfl⟩|⟨v,hp,rfl⟩)
    ·exact ih _ _ _ _ hv (ha.put hd v)
    ·exact ih _ _ _ _ tp ((ha.defer d).put hd undef)
    ·refine ay.run hc ?_ ?_
     ·intro v gA hv;have fC:(b.at a (.inRegion ops (i::rest)::k)).finish v=b.at (a.put o.dst v) (.inRegion ops rest::k):=by rw[Frame.finish_at,ho];rfl
      rw[fC];exact ih _ _ _ _ hv (ha.put hd v)
     ·intro ch gA hp;refine ax.here ⟨.panic ch,I,ds,a,ha,hp,.inRegion ops (i::rest)::k,?_⟩;rw[Frame.raise_at]
    ·refine ax.here ⟨.panic _,I,ds,a,ha,hp,.inRegion ops (i::rest)::k,?_⟩;rw[Frame.raise_at]
   ·rw[if_neg hw]at h;have jx:((ops[i]?).map (Region.wanted · (yielded ops a.tmps))).getD false=false:=by rw[ho,ha.yI];simpa using hw
    have fC:(b.at a (.inRegion ops (i::rest)::k)).finish undef=b.at (a.put o.dst undef) (.inRegion ops rest::k):=by rw[Frame.finish_at,ho];rfl
    refine ax.ctl (g':=G (b.at (a.put o.dst undef) (.inRegion ops rest::k)) cs) (λw=>?_) rfl rfl (ih _ _ _ _ h (ha.put hd undef));rw[<-fC];simp only[Frame.at]at*;simp[G,stepG,stepG.exec,jx]
def Comes.mono{b:Frame}{k:List Item}{cs:List Frame}{S:Goroutine->Hp->Prop}(hn:∀I ds U a,cM N a I ds->Q .normal I ds U->ax E (G (b.at a k) cs) U S)(he:∀id I ds U a ri,cM N a I ds->Q (.exit id) I ds U->exitTo id ri=exitTo id k->ax E (G (b.at a (.code (.exit id)::ri)) cs) U S)(hr:∀I ds U a todo,cM N a I ds->Q .ret I ds U->ax E (G {b.at a todo with mode:=.returning} cs) U S)(hp:∀ch I ds U a todo,cM N a I ds->Q (.panic ch) I ds U->ax E (G {b.at a todo with mode:=.panicking ch} cs) U S):
 ∀g U,Comes N Q b k cs g U->ax E g U S:=by
 rintro g U ⟨e,I,ds,a,ha,hq,Bh⟩
 cases e with
 |normal=>obtain rfl:=Bh;exact hn _ _ _ _ ha hq
 |exit id=>obtain⟨ri,rfl,hx⟩:=Bh;exact he _ _ _ _ _ _ ha hq hx
 |ret=>obtain⟨todo,rfl⟩:=Bh;exact hr _ _ _ _ _ ha hq
 |panic ch=>obtain⟨todo,rfl⟩:=Bh;exact hp _ _ _ _ _ _ ha hq
def IF(c:Code):∀(Q:Post) (I:av) (ds:List Deferred) (U:Hp),cO E N c Q I ds U->
 ∀(b:Frame) (k:List Item) (cs:List Frame) (a:Act),b.kind≠.early->cM N a I ds->ax E (G (b.at a (.code c::k)) cs) U (Comes N Q b k cs):=by
 induction c with
 |skip=>exactλQ I ds U h b k cs a hb ha=>ax.ctl (λw=>stepG_skip) rfl rfl (ax.here ⟨.normal,I,ds,a,ha,h,rfl⟩)
 |label l=>exactλQ I ds U h b k cs a hb ha=>ax.ctl (λw=>stepG_label) rfl rfl (ax.here ⟨.normal,I,ds,a,ha,h,rfl⟩)
 |region id ops draw=>
  intro Q I ds U h b k cs a hb ha
  cases draw with
  |false=>
   have e:ops.toList=(List.range ops.size).filterMap (ops[·]?):=by apply List.ext_getElem?;intro i;rw[show(λx=>ops[x]?)=λx=>(ops.toList)[x]? by funext x;simp];rw[<-Array.length_toList,akl]
   refine ax.ctl (λw=>stepG_region) rfl rfl (arS b hb k cs _ I ds U a ?_ ha);rw[<-e];exact h
  |true=>
   refine ax.step (X:=λs9 rI=>rI=U/\∃t,s9=G (b.at a (.inRegion ops (Region.schedule (P.follows .mixedOrders) ops t)::k)) cs) rfl ?_ ?_
   ·intro au2 w hs
    have:stepG P E.main (G (b.at a (.code (.region id ops true)::k)) cs) w=.go (G (b.at a (.inRegion ops (Region.schedule (P.follows .mixedOrders) ops (w.tape w.drawn (.order b.fn id)))::k)) cs) {w with drawn:=w.drawn+1}:=by simp[G,stepG,stepG.exec,Frame.at,choose,Sem.run,Question.forced,Question.cut]
    rw[this];exact⟨U,hs.drew _,⟨λ_ _=>rfl,rfl,rfl,rfl,Nat.le_refl _⟩,al,rfl,rfl,_,rfl⟩
   ·rintro s9 rI ⟨rfl,t,rfl⟩;exact arU b hb k cs _ I ds rI a (h t) ha
 |seq x y ihx ihy=>
  intro Q I ds U h b k cs a hb ha;refine ax.ctl (λw=>stepG_seq) rfl rfl ((ihx _ _ _ _ h b (.code y::k) cs a hb ha).bind (Comes.mono ?_ ?_ ?_ ?_))
  ·exactλaC dk ae a' dI hq=>ihy _ _ _ _ hq b k cs a' hb dI
  ·exactλid aC dk ae a' ri dI hq hx=>ax.here ⟨.exit id,aC,dk,a',dI,hq,ri,rfl,hx⟩
  ·exactλaC dk ae a' todo dI hq=>ax.here ⟨.ret,aC,dk,a',dI,hq,todo,rfl⟩
  ·exactλch aC dk ae a' todo dI hq=>ax.here ⟨.panic ch,aC,dk,a',dI,hq,todo,rfl⟩
 |cond x c₁ c₂ ah6 ah7=>
  intro Q I ds U h b k cs a hb ha;unfold cO at h;split at h
  ·rename_i hv;exact ax.ctl (λw=>stepG_cond (t:=true) (by rw[ha.eval];exact hv)) rfl rfl (ah6 _ _ _ _ h b k cs a hb ha)
  ·rename_i hv;exact ax.ctl (λw=>stepG_cond (t:=false) (by rw[ha.eval];exact hv)) rfl rfl (ah7 _ _ _ _ h b k cs a hb ha)
  ·exact h.elim
 |block id c ih=>
  intro Q I ds U h b k cs a hb ha;refine ax.ctl (λw=>stepG_block) rfl rfl ((ih _ _ _ _ h b (.inBlock id::k) cs a hb ha).bind (Comes.mono ?_ ?_ ?_ ?_))
  ·exactλaC dk ae a' dI hq=>ax.ctl (λw=>stepG_inBlock) rfl rfl (ax.here ⟨.normal,aC,dk,a',dI,hq,rfl⟩)
  ·intro aL aC dk ae a' ri dI hq hx;by_cases e:aL=id
   ·subst e;simp only[pQ,if_true]at hq;have cY:exitTo aL ri=some k:=by rw[hx];simp[exitTo]
    exact ax.ctl (λw=>stepG_exit cY) rfl rfl (ax.here ⟨.normal,aC,dk,a',dI,hq,rfl⟩)
   ·simp only[pQ,e,if_false]at hq;refine ax.here ⟨.exit aL,aC,dk,a',dI,hq,ri,rfl,?_⟩;rw[hx];have:(id==aL)=false:=by simp;exactλz=>e z.symm
    simp[exitTo,this]
  ·exactλaC dk ae a' todo dI hq=>ax.here ⟨.ret,aC,dk,a',dI,hq,todo,rfl⟩
  ·exactλch aC dk ae a' todo dI hq=>ax.here ⟨.panic ch,aC,dk,a',dI,hq,todo,rfl⟩
 |loop c ih=>
  intro Q I ds U h b k cs a hb ha;refine ax.ctl (λw=>stepG_loop) rfl rfl ?_;refine h (λI ds U=>∀a,cM N a I ds->ax E (G (b.at a (.code c:: .inLoop c::k)) cs) U (Comes N Q b k cs)) ?_ a ha;intro aC dk ae RY a' dI;refine(ih _ _ _ _ RY b (.inLoop c::k) cs a' hb dI).bind (Comes.mono ?_ ?_ ?_ ?_)
  ·exactλCo AX IS yZ we ⟨J,hle,hq⟩=>ax.ctl (λw=>stepG_inLoop) rfl rfl ((hq yZ we).iQ hle)
  ·exactλid Co AX IS yZ ri we hq hx=>ax.here ⟨.exit id,Co,AX,yZ,we,hq,ri,rfl,by rw[hx];simp[exitTo]⟩
  ·exactλCo AX IS yZ todo we hq=>ax.here ⟨.ret,Co,AX,yZ,we,hq,todo,rfl⟩
  ·exactλch Co AX IS yZ todo we hq=>ax.here ⟨.panic ch,Co,AX,yZ,we,hq,todo,rfl⟩
 |exit id=>exactλQ I ds U h b k cs a hb ha=>ax.here ⟨.exit id,I,ds,a,ha,h,k,rfl,rfl⟩
 |ret=>
  intro Q I ds U h b k cs a hb ha;refine ax.ctl (g':=G {b.at a (.code .ret::k)with mode:=.returning} cs) (λw=>?_) rfl rfl (ax.here ⟨.ret,I,ds,a,ha,h,_,rfl⟩);simp[G,stepG,stepG.exec,Frame.at]
 |rangeFunc f ps x y=>exactλQ I ds U h=>h.elim
 |scope c=>exactλQ I ds U h=>h.elim
 |goto l=>exactλQ I ds U h=>h.elim
 |refuse w=>exactλQ I ds U h=>h.elim
variable {fn:Func}
def xi{a:Act}(h:cM N a I ds):results fn a.tmps=Ca fn I:=by have hg:∀t,a.tmps.getD t undef=I t:=h.tmps;simp only[results,Ca,hg];rfl
def nV(args:Array Value)(_:Nat)(t:Nat):Value:=args.getD t undef
def sQ(args:Array Value)(n:Nat)(h:args.size<=n):cM n {tmps:=args++Array.replicate (n-args.size) undef,defers:=[]} (nV args n) []:=by
 refine⟨by simp;omega,rfl,λt=>?_⟩;simp only[nV,Array.getD_eq_getD_getElem?];rcases Nat.lt_or_ge t args.size with bl|xP
 ·rw[Array.getElem?_append_left bl]
 ·rw[Array.getElem?_append_right xP,Array.getElem?_eq_none xP];rw[Array.getElem?_replicate];split<;>rfl
def FQ(P:Program)(fn:Func)(I:av)(U:Hp)(v:Value):Prop:=wpS P (Ca fn I) (λv' ae=>v'=v/\ae=U) (λ_ _=>False) U
def Vk(P:Program)(fn:Func)(R:Fin->Hp->Prop):Post
 | .normal,I,ds,U| .ret,I,ds,U=>ds=[]/\∃v J,J.le U/\FQ P fn I J v/\R (.returned v) J
 | .panic ch,_,ds,U=>ds=[]/\∃J,J.le U/\R (.panicked ch) J
 | .exit _,_,_,_=>False
variable {f:FuncId}{c:Code}{args:Array Value}{R:Fin->Hp->Prop}
def aaL(hf:P.funcs[f]? =some fn)(hb:fn.body=some c)(hn:args.size<=fn.ntmps)(h:cO E fn.ntmps c (Vk P fn R) (nV args fn.ntmps) [] U):ay E f args U R:=by
 intro cs
 let b:Frame:={(default:Frame)with fn:=f,kind:=.normal}
 have pe:Frame.enter P f args .normal=b.at {tmps:=args++Array.replicate (fn.ntmps-args.size) undef,defers:=[]} [.code c]:=by simp[Frame.enter,Frame.at,hf,hb,b]
 rw[pe];refine(IF c _ _ _ _ h b [] cs _ (by simp[b]) (sQ args fn.ntmps hn)).bind (Comes.mono ?_ ?_ ?_ ?_)
 ·rintro I ds ae a ha ⟨nF,v,J,hle,hv,hR⟩;refine ax.iQ (J:=J) (ax.ctl (λw=>stepG_end) rfl rfl (ax.here ⟨.returned v,_,rfl,rfl,⟨rfl,?_,rfl,fn,hf,?_⟩,hR⟩)) hle
  ·have:=ha.defers;subst nF;exact this
  ·have:=xi (fn:=fn) ha;simp only[Frame.at];rw[this];exact hv
 ·exactλid I ds ae a ri _ hq=>hq.elim
 ·rintro I ds ae a todo ha ⟨nF,v,J,hle,hv,hR⟩;refine ax.iQ (J:=J) (ax.here ⟨.returned v,_,rfl,rfl,⟨rfl,?_,rfl,fn,hf,?_⟩,hR⟩) hle
  ·have:=ha.defers;subst nF;exact this
  ·have:=xi (fn:=fn) ha;simp only[Frame.at];rw[this];exact hv
 ·rintro ch I ds ae a todo ha ⟨nF,J,hle,hR⟩;refine ax.iQ (J:=J) (ax.here ⟨.panicked ch,_,rfl,rfl,⟨rfl,?_,fn,hf⟩,hR⟩) hle;have:=ha.defers;subst nF;exact this
def dU{x y:Code}(h:∀K:av->List Deferred->Hp->Prop,(∀I ds U,cO E N y Q I ds U->K I ds U)->cO E N x (lK K Q) I ds U):cO E N (.seq x y) Q I ds U:=h _ λ_ _ _ x=>x
def Ck{id:Nat}(h:cO E N c (pQ id Q) I ds U):cO E N (.block id c) Q I ds U:=h
def lR(P:Program)(rs:Array ResultVar)(I:av)(U:Hp)(v:Value):Prop:=
 wpS P (do
  let vs<-rs.mapM λ
   | .tmp t=>pure (I t)
   | .cell a t=>do loadVar t (<-asAddr (I a))
  pure (if h:vs.size=1 then vs[0]else .tuple vs)) (λv' ae=>v'=v/\ae=U) (λ_ _=>False) U
def dA:lR P #[] I U (.tuple #[]):=by simp[lR,bt]
def aI{t:Tmp}:lR P #[.tmp t] I U (I t):=by simp[lR,bt]
def iO{t u:Tmp}:lR P #[.tmp t,.tmp u] I U (.tuple #[I t,I u]):=by simp[lR,bt]
variable {n:Nat}{rs:Array ResultVar}
def fR(hf:P.funcs[f]? =some fn)(hn:fn.ntmps=n)(hr:fn.results=rs)(hb:fn.body=some c)(hs:args.size<=n)(h:∀Q:Post,(∀{I U J v},lR P rs I J v->J.le U->R (.returned v) J->Q .normal I [] U)->(∀{I U J v},lR P rs I J v->J.le U->R (.returned v) J->Q .ret I [] U)->(∀ch I U J,J.le U->R (.panicked ch) J->Q (.panic ch) I [] U)->
  cO E n c Q (nV args n) [] U):ay E f args U R:=by
 subst hn;subst hr;refine aaL hf hb hs (h _ ?_ ?_ ?_)
 ·exactλ{I U J v} h1 hl h2=>⟨rfl,v,J,hl,h1,h2⟩
 ·exactλ{I U J v} h1 hl h2=>⟨rfl,v,J,hl,h1,h2⟩
 ·exactλch I U J hl h=>⟨rfl,J,hl,h⟩
def aX(hf:P.funcs[f]? =some fn)(hn:fn.ntmps=n)(hr:fn.results=rs)(h:∀Q:Post,(∀{I U J v},lR P rs I J v->J.le U->R (.returned v) J->Q .normal I [] U)->(∀{I U J v},lR P rs I J v->J.le U->R (.returned v) J->Q .ret I [] U)->(∀ch I U J,J.le U->R (.panicked ch) J->Q (.panic ch) I [] U)->
  cO E n c Q (nV args n) [] U)(hb:fn.body=some c:=by rfl)(hs:args.size<=n:=by simp):ay E f args U R:=fR hf hn hr hb hs h
def di(au1:Nat->av->List Deferred->Hp->Prop)(n:Nat)(h0:au1 n I ds U)(hI:∀n I ds U (X:av->List Deferred->Hp->Prop),au1 n I ds U->(∀m aC dk ae J,m<n->au1 m aC dk J->J.le ae->X aC dk ae)->cO E N c (lK X Q) I ds U):cO E N (.loop c) Q I ds U:=by
 unfold cO;intro X hX
 induction n using Nat.strongRecOn generalizing I ds U with
 |_ n ih=>
  refine hX _ _ _ (hI n I ds U (bH X) h0 ?_);exactλm aC dk ae J hm hi hle=>⟨J,hle,ih m hm hi⟩
def yF{id:Nat}(l:List Nat)(pn:List PanicEntry->List Deferred->Hp->Prop)(hm:P.follows .mixedOrders=true)(hc:sX ops l=true)(uL:∀ch I ds U,pn ch ds U->Q (.panic ch) I ds U)(h:gh E N ops Q pn l [] I ds U):cO E N (.region id ops true) Q I ds U:=
 λt=>Qm hc hm uL h t
def bG{id:Nat}(k:Nat)(h:gh E N ops Q (λ_ _ _=>False) l [] I ds U)(hl:List.range k=l:=by simp only[List.range,List.range.loop];rfl)(hm:P.follows .mixedOrders=true:=by kernel_rfl)(hc:sX ops l=true:=by decide+kernel):cO E N (.region id ops true) Q I ds U:=yF l (λ_ _ _=>False) hm hc (λ_ _ _ _ h=>h.elim) h
def AW{id:Nat}(l:List Nat)(h:gh E N ops Q (λ_ _ _=>False) l [] I ds U)(hm:P.follows .mixedOrders=true:=by kernel_rfl)(hc:sX ops l=true:=by decide+kernel):cO E N (.region id ops true) Q I ds U:=yF l _ hm hc (λ_ _ _ _ h=>h.elim) h
def tick(a:α):α:=a
def V0{a:α}:tick a=a:=id (Eq.refl a)
def ky(b:Bool)(p:Prop):Prop:=b=true/\p
variable {b:Bool}{p:Prop}
@[congr] theorem asG{b':Bool}(h:tick b=b'):ky b p=ky b' p:=by subst h;rfl
def aa9:ky true p=p:=by simp[ky]
def mP(k:α->Prop):Option α->Prop
 |some v=>k v
 |none=>False
@[congr] theorem aul{k:α->Prop}{a a':Option α}(h:tick a=a'):mP k a=mP k a':=by subst h;rfl
def amG{k:α->Prop}{v:α}:mP k (some v)=k v:=bp
def tM(p q:Prop):Value->Prop
 | .bool true=>p
 | .bool false=>q
 |_=>False
variable {q:Prop}{v':Value}
@[congr] theorem aun(h:tick v=v'):tM p q v=tM p q v':=by subst h;rfl
def ane:tM p q (.bool true)=p:=bp
def ana:tM p q (.bool false)=q:=bp
def rn(k:Addr->Prop):Value->Prop
 | .pointer (some a)=>k a
 |_=>False
@[congr] theorem aus{k:Addr->Prop}(h:tick v=v'):rn k v=rn k v':=by subst h;rfl
def anm{k:Addr->Prop}{a:Addr}:rn k (.pointer (some a))=k a:=bp
def yp(k:Value->Prop):Value->Prop
 | .pointer (some a)=>k (.pointer (some a))
 | .func (.func f) l c=>k (.func (.func f) l c)
 |_=>False
variable {k:Value->Prop}
@[congr] theorem auf(h:tick v=v'):yp k v=yp k v':=by subst h;rfl
def aly{a:Addr}:yp k (.pointer (some a))=k (.pointer (some a)):=bp
def alx{l c:Array Value}:yp k (.func (.func f) l c)=k (.func (.func f) l c):=bp
def kK(k:Value->Prop)(v:Value):Prop:=k v
@[congr] theorem auM(h:tick v=v'):kK k v=kK k v':=by subst h;rfl
def Au(k:Value->Prop)(i:Nat):Value->Prop
 | .tuple vs=>mP k vs[i]?
 |_=>False
@[congr] theorem auJ(h:tick v=v'):Au k i v=Au k i v':=by subst h;rfl
def aq5{vs:Array Value}:Au k i (.tuple vs)=mP k vs[i]? :=bp
def tK(U:Hp)(k:Nat->Prop):Prop:=∀b,U.f b=none->k b
variable {jA:Nat}
@[congr] theorem aue{k:Nat->Prop}(_:tick 0=jA):tK U k=tK U k:=rfl
def lH(p:Prop)(k:Value->Prop):Option Value->Prop
 |some v=>k v
 |none=>p
@[congr] theorem aum{a a':Option Value}(h:tick a=a'):lH p k a=lH p k a':=by subst h;rfl
def amJ:lH p k (some v)=k v:=bp
def amI:lH p k none=p:=bp
variable {dst:Option Tmp}{pn:List PanicEntry->Hp->Prop}
@[congr] theorem asC{O0:Array Value}(h:tick args=O0):kx E f args U dst I ds nx pn=kx E f O0 U dst I ds nx pn:=by subst h;rfl
@[congr] theorem auP{l:List Oper}(_:tick 0=jA):jl E N ops Q l I ds U=jl E N ops Q l I ds U:=rfl
@[congr] theorem auN(_:tick 0=jA):cO E N c Q I ds U=cO E N c Q I ds U:=rfl
@[congr] theorem auQ(_:tick 0=jA):wpOp E o I ds U nx pn=wpOp E o I ds U nx pn:=rfl
@[congr] theorem auk(_:tick 0=jA):aU E o I ds U nx pn=aU E o I ds U nx pn:=rfl
variable {rest:List Oper}{ty:TypeId}{pos:String}{af:Array Edge}
def arN:jl E N ops Q (⟨dst,op,ty,pos,af,none⟩::rest) I ds U=ky (pD N dst) (aU E ⟨dst,op,ty,pos,af,none⟩ I ds U (jl E N ops Q rest) (λch ae=>Q (.panic ch) I ds ae)):=by simp[jl,Region.wanted,ky]
def my(p q:Prop)(b:Bool)(a:Option Bool):Prop:=if a=some b then p else q
@[congr] theorem ath{a a':Option Bool}(h:tick a=a'):my p q b a=my p q b a':=by subst h;rfl
def adQ:my p q true (some true)=p:=by simp[my]
def adN:my p q false (some false)=p:=by simp[my]
def adP:my p q true (some false)=q:=by simp[my]
def adO:my p q false (some true)=q:=by simp[my]
def arL:jl E N ops Q (⟨dst,op,ty,pos,af,some (j,b)⟩::rest) I ds U=
 ky (pD N dst) (my (aU E ⟨dst,op,ty,pos,af,some (j,b)⟩ I ds U (jl E N ops Q rest) (λch ae=>Q (.panic ch) I ds ae)) (jl E N ops Q rest (aB I dst undef) ds U) b (gX N ops I j)):=by
 simp only[jl,Region.wanted,ky,my,beq_iff_eq]
def arM:jl E N ops Q [] I ds U=Q .normal I ds U:=bp
variable {g:Option (Nat×Bool)}{x:Operand}
def anT:aU E ⟨dst,.move x,ty,pos,af,g⟩ I ds U nx pn=kK (λv=>nx (aB I dst v) ds U) (ak I x):=bp
def anD:aU E ⟨dst,.assign x,ty,pos,af,g⟩ I ds U nx pn=kK (λv=>nx (aB I dst v) ds U) (ak I x):=bp
def anW{c a b:Operand}:aU E ⟨dst,.pick c a b,ty,pos,af,g⟩ I ds U nx pn=tM (kK (λv=>nx (aB I dst v) ds U) (ak I a)) (kK (λv=>nx (aB I dst v) ds U) (ak I b)) (ak I c):=by
 simp only[aU,tM]
 cases ak I c<;>first|rfl|(rename_i t;cases t<;>rfl)
variable {t:TypeId}
def anC:aU E ⟨dst,.alloc t,ty,pos,af,g⟩ I ds U nx pn=mP (λz=>tK U λb=>nx (aB I dst (pV b)) ds (U.set b (.cells z.cells t))) (dv P t):=by
 simp only[aU,mP,tK]
 cases dv P t<;>rfl
def anF:aU E ⟨dst,.box t x,ty,pos,af,g⟩ I ds U nx pn=kK (λv=>tK U λb=>nx (aB I dst (pV b)) ds (U.set b (.cells v.cells t))) (ak I x):=bp
def anP:aU E ⟨dst,.load t x,ty,pos,af,g⟩ I ds U nx pn=ky (dt P t) (rn (λa=>oD P t a U (λv=>nx (aB I dst v) ds U)) (ak I x)):=by
 simp only[aU,rn,ky]
 cases ak I x<;>first|(simp only[and_false];done)|(rename_i t;cases t<;>simp)
def anZ{v:Operand}:aU E ⟨dst,.store t x v,ty,pos,af,g⟩ I ds U nx pn=ky (dt P t) (rn (λa=>kK (λv=>vz P t a v U λae=>nx (aB I dst undef) ds ae) (ak I v)) (ak I x)):=by
 simp only[aU,rn,ky,kK]
 cases ak I x<;>first|(simp only[and_false];done)|(rename_i t;cases t<;>simp)
def anU:aU E ⟨dst,.nilCheck x,ty,pos,af,g⟩ I ds U nx pn=yp (λv=>nx (aB I dst v) ds U) (ak I x):=by
 simp only[aU];unfold yp;generalize ak I x=y
 cases y<;>first|rfl|(rename_i a;cases a<;>rfl)|(rename_i a b c;cases a<;>rfl)
def anL{s:TypeId}{f:Nat}:aU E ⟨dst,.fieldAddr s x f,ty,pos,af,g⟩ I ds U nx pn=rn (λa=>mP (λn=>kK (λv=>nx (aB I dst v) ds U) (.pointer (some (a.add n)))) (bM P s f)) (ak I x):=by
 simp only[aU,rn]
 cases ak I x<;>first|rfl|(rename_i t;cases t<;>cases bM P s f<;>rfl)
variable {u:TypeId}
def anE{op:BinOp}{y:Operand}:aU E ⟨dst,.binOp op t x y u,ty,pos,af,g⟩ I ds U nx pn=
 lH (lH (lH (wpOp E ⟨dst,.binOp op t x y u,ty,pos,af,g⟩ I ds U nx pn) (λv=>nx (aB I dst v) ds U) (nQ P op t x y (ak I x) (ak I y))) (λv=>nx (aB I dst v) ds U) (ft P op t (ak I x) (ak I y)))
  (λv=>nx (aB I dst v) ds U) (cK op (ak I x) (ak I y)):=by
 simp only[aU,lH]
 cases cK op (ak I x) (ak I y)<;>cases ft P op t (ak I x) (ak I y)<;>cases nQ P op t x y (ak I x) (ak I y)<;>rfl
def an3{op:UnOp}:aU E ⟨dst,.unOp op t x,ty,pos,af,g⟩ I ds U nx pn=mP (λv=>nx (aB I dst v) ds U) (vB op (ak I x)):=by
 simp only[aU,mP]
 cases vB op (ak I x)<;>rfl
def anJ{s d:TypeId}(hn:lL P s d=none):aU E ⟨dst,.convert s d x,ty,pos,af,g⟩ I ds U nx pn=lH (wpOp E ⟨dst,.convert s d x,ty,pos,af,g⟩ I ds U nx pn) (λv=>nx (aB I dst v) ds U) (mw P s d (ak I x)):=by
 simp only[aU,lH,hn]
 cases mw P s d (ak I x)<;>rfl
def iG(P:Program)(t:TypeId):Bool:=match P.underlying t with|some (.interface _)=>false|some _=>true|none=>false
def anR:aU E ⟨dst,.makeInterface t x,ty,pos,af,g⟩ I ds U nx pn=ky (iG P t) (kK (λv=>nx (aB I dst (.iface t v)) ds U) (ak I x)):=by
 simp only[aU,ky,iG,kK]
 cases P.underlying t with
 |none=>simp
 |some d=>cases d<;>simp
def anQ{f:Fn}{l c:Array Operand}:aU E ⟨dst,.makeFunc f l c,ty,pos,af,g⟩ I ds U nx pn=kK (λv=>nx (aB I dst v) ds U) (.func f (l.map (ak I)) (c.map (ak I))):=bp
def anS:aU E ⟨dst,.makeMap t none,ty,pos,af,g⟩ I ds U nx pn=tK U λb=>nx (aB I dst (.map (some b))) ds (U.set b (.map #[] 0)):=bp
def anK:aU E ⟨dst,.extract x i,ty,pos,af,g⟩ I ds U nx pn=Au (λv=>nx (aB I dst v) ds U) i (ak I x):=by
 simp only[aU,Au]
 cases ak I x<;>first|rfl|(rename_i vs;simp only[mP];cases vs[i]? <;>rfl)
variable {as:Array Operand}{cB:Array TypeId}
def anI:aU E ⟨dst,.call ⟨.value (.func f),as,cB⟩,ty,pos,af,g⟩ I ds U nx pn=kx E f (as.map (ak I)) U dst I ds nx pn:=bp
def EZ{x:Tmp}{l cap:Array Value}(h:I x=.func (.func f) l cap):aU E ⟨dst,.call ⟨.value (.tmp x),as,cB⟩,ty,pos,af,g⟩ I ds U nx pn=kx E f (l++as.map (ak I)++cap) U dst I ds nx pn:=by simp only[aU,h]
def oE(P:Program)(p:Prop)(k:Value->Prop)(t:TypeId)(x:Value):Prop:=
 match yh P t x,yi x with
 |true,some v=>k v
 |_,_=>p
@[congr] theorem atY(h:tick v=v'):oE P p k t v=oE P p k t v':=by subst h;rfl
def akc{s:ByteArray}(h:P.underlying t=some .string):oE P p k t (.string s)=k (.int .i64 s.size):=by simp[oE,yh,yi,h]
def akb{a:Option Addr}{c:Nat}(h:(tR P t).isSome=true):oE P p k t (.slice a n c)=k (.int .i64 n):=by obtain⟨e,he⟩:=Option.isSome_iff_exists.1 h;simp[oE,yh,yi,Im he]
def anO(h:cB[0]? =some t):aU E ⟨dst,.call ⟨.builtin .len,#[x],cB⟩,ty,pos,af,g⟩ I ds U nx pn=
 oE P (wpOp E ⟨dst,.call ⟨.builtin .len,#[x],cB⟩,ty,pos,af,g⟩ I ds U nx pn) (λv=>nx (aB I dst v) ds U) t (ak I x):=by
 have e:(#[x].map (ak I))[0]? =some (ak I x):=al;simp only[aU,h,e,oE];rfl
def aru(d:Nat)(v:Value):up I d v d=v:=by simp[up]
def art{d t:Nat}(v:Value)(h:(t==d)=false):up I d v t=I t:=by simp at h;simp[up,h]
def acV(t:Tmp):ak I (.tmp t)=I t:=bp
def acS(v:Value):ak I (.const v)=v:=bp
def acT(f:FuncId):ak I (.func f)=.func (.func f) #[] #[]:=bp
def acU(f:Nat):ak I (.global f)=pV f:=bp
def anw(d:Tmp)(v:Value):aB I (some d) v=up I d v:=bp
def anv(v:Value):aB I none v=I:=bp
def amf{d:Tmp}:pD N (some d)=decide (d<N):=bp
def ame:pD N none=true:=bp
@[congr] theorem atX{a:Addr}(_:tick 0=jA):oD P t a U k=oD P t a U k:=rfl
@[congr] theorem auE{a:Addr}{k:Hp->Prop}(_:tick 0=jA):vz P t a v U k=vz P t a v U k:=rfl
def tL(k:Obj->Prop):Option Obj->Prop
 |some o=>k o
 |none=>False
@[congr] theorem auj{k:Obj->Prop}{a a':Option Obj}(h:tick a=a'):tL k a=tL k a':=by subst h;rfl
variable {o:Obj}
def UE{k:Obj->Prop}:tL k (some o)=k o:=bp
def oe(off:Nat)(k:Value->Prop):Obj->Prop
 | .cells c _ _=>mP k c[off]?
 |_=>False
variable {off:Nat}{o':Obj}
@[congr] theorem asD(h:tick o=o'):oe off k o=oe off k o':=by subst h;rfl
def cellsIn(off n:Nat)(k:Value->Prop):Obj->Prop
 | .cells c _ _=>off+n<=c.size/\k (.agg (c.extract off (off+n)))
 |_=>False
@[congr] theorem asE{n':Nat}(h:tick o=o')(hn:tick n=n'):cellsIn off n k o=cellsIn off n' k o':=by subst h;subst hn;rfl
variable {e:TypeId}
def aaT{c:Array Value}{z:Nat×Nat}:cellsIn off n k (.cells c e z)=(off+n<=c.size/\k (.agg (c.extract off (off+n)))):=bp
variable {b:Nat}
def ajU(h:dD P t=false):oD P t ⟨b,off,none⟩ U k=tL (oe off k) (U.f b):=by
 simp only[oD,h,Bool.false_eq_true,if_false,tL,Hp.cell?]
 cases U.f b with
 |none=>rfl
 |some o=>
  cases o<;>first|rfl|skip
  rename_i c e z;simp only[oe,mP,Option.isSome_none,Bool.false_eq_true,if_false]
  cases c[off]? <;>rfl
def ajT(h:dD P t=true)(hn:cD P t=n):oD P t ⟨b,off,none⟩ U k=tL (cellsIn off n k) (U.f b):=by
 subst hn;simp only[oD,h,if_true,tL,cellsOf]
 cases U.f b with
 |none=>rfl
 |some o=>
  cases o<;>first|rfl|skip
  rename_i c e z;simp only[cellsIn,true_and];by_cases hc:off+cD P t<=c.size<;>simp[hc]
def Jj:(⟨b,off,none⟩:Addr).add n=⟨b,off+n,none⟩:=Addr.FX rfl n
def yx(P:Program)(t:TypeId)(off:Nat)(v:Value)(k:Obj->Prop):Obj->Prop
 | .cells c e z=>
   if dp v then off<c.size/\z=(0,0)/\cD P t=1/\k (.cells (c.setIfInBounds off v) e z)
   else off+v.cells.size<=c.size/\z=(0,0)/\cD P t=v.cells.size/\v.cells.all dp=true/\k (.cells (c.extract 0 off++v.cells++c.extract (off+v.cells.size) c.size) e z)
 |_=>False
@[congr] theorem aut{k:Obj->Prop}(h:tick o=o')(hv:tick v=v'):yx P t off v k o=yx P t off v' k o':=by subst h;subst hv;rfl
def ap5{k:Hp->Prop}:vz P t ⟨b,off,none⟩ v U k=tL (yx P t off v (λo=>k (U.set b o))) (U.f b):=by
 unfold vz tL
 cases U.f b with
 |none=>rfl
 |some o=>cases o<;>first|rfl|(simp only[yx,true_and])
def B(l:List UInt8):ByteArray:=⟨l.toArray⟩
def akT(l:List UInt8):(⟨l.toArray⟩:ByteArray)=B l:=bp
def akU:(⟨#[]⟩:ByteArray)=B []:=bp
def Oc(l:List UInt8):(B l).data=l.toArray:=bp
def xm(l:List UInt8):(B l).size=l.length:=by show l.toArray.size=_;simp
def aq1(b:ByteArray):∀(n i:Nat) (r:List UInt8),b.size-i=n->ByteArray.toList.loop b i r=r.reverse++b.data.toList.drop i:=by
 intro n
 induction n with
 |zero=>
  intro i r h;unfold ByteArray.toList.loop;have:¬i<b.size:=aa;rw[if_neg this]
  have:b.data.toList.length<=i:=by have h2:b.data.toList.length=b.size:=rfl;omega
  simp[List.drop_eq_nil_of_le this]
 |succ n ih=>
  intro i r h;unfold ByteArray.toList.loop;have bl:i<b.size:=aa;rw[if_pos bl,ih (i+1) _ aa];have hl:i<b.data.toList.length:=bl;rw[List.drop_eq_getElem_cons hl]
  have:b.get! i=b.data.toList[i]:=by have h2:i<b.data.size:=aW hl;show b.data[i]! =_;rw[getElem!_pos b.data i h2];simp
  simp[this]
def Iw(l:List UInt8):(B l).toList=l:=by unfold ByteArray.toList;rw[aq1 (B l) _ 0 [] rfl];simp[B]
def WS(a b:List UInt8):B a++B b=B (a++b):=by apply ByteArray.ext;simp[B]
def Od(l:List UInt8)(i j:Nat):(B l).extract i j=B ((l.drop i).take (j-i)):=by apply ByteArray.ext;simp[B,List.extract_eq_take_drop]
def jr(p q:Prop):Prop:=p/\q
@[congr] theorem asF{p':Prop}(h:tick p=p'):jr p q=jr p' q:=by subst h;rfl
def aa8:jr True q=q:=by simp[jr]
def yf(c p q:Prop):Prop:=(c->p)/\(¬c->q)
@[congr] theorem atS{c c':Prop}(h:tick c=c'):yf c p q=yf c' p q:=by subst h;rfl
def ajb:yf True p q=p:=by simp[yf]
def aja:yf False p q=q:=by simp[yf]
def anb{b:Bool}(h:b=true->p)(k:b=false->q):tM p q (.bool b):=by
 cases b
 ·exact k rfl
 ·exact h rfl
noncomputable def qH(c:Prop)(v:Value):Option Value:=open Classical in if c then some v else none
def amH{c:Prop}:lH p k (qH c v)=yf c (k v) p:=by unfold qH yf;by_cases h:c<;>simp[h,lH]
def Jw(s t:List UInt8):(s==t)=decide (s=t):=by by_cases h:s=t<;>simp[h]
def Ce(k:IntKind)(a b:Int):Int:=k.wrap (a*2^(min b.toNat k.bits))
def yB(k:IntKind)(a b:Int):Int:=a.fdiv (2^(min b.toNat k.bits))
def HU(k:IntKind)(a b:Int):Int:=k.wrap ((BitVec.ofInt k.bits a|||BitVec.ofInt k.bits b).toNat)
def CG(k:IntKind)(a b:Int):Int:=k.wrap ((BitVec.ofInt k.bits a&&&BitVec.ofInt k.bits b).toNat)
def IM(k:IntKind)(a b:Int):Int:=k.wrap ((BitVec.ofInt k.bits a^^^BitVec.ofInt k.bits b).toNat)
variable {a b:Int}{k:IntKind}
def bv_add:cK .add (.int k a) (.int k b)=some (.int k (k.wrap (a+b))):=by simp[cK]
def aad:cK .sub (.int k a) (.int k b)=some (.int k (k.wrap (a-b))):=by simp[cK]
def ZZ:cK .mul (.int k a) (.int k b)=some (.int k (k.wrap (a*b))):=by simp[cK]
def Z5:cK .quo (.int k a) (.int k b)=qH (b≠0) (.int k (k.wrap (a.tdiv b))):=by simp[cK,qH]
def Z6:cK .rem (.int k a) (.int k b)=qH (b≠0) (.int k (a.tmod b)):=by simp[cK,qH]
def ZS:cK .eql (.int k a) (.int k b)=some (.bool (decide (a=b))):=by simp[cK];rfl
def Z0:cK .neq (.int k a) (.int k b)=some (.bool (decide (a≠b))):=by simp[cK,bne];rfl
def ZY:cK .lss (.int k a) (.int k b)=some (.bool (decide (a<b))):=by simp[cK]
def ZX:cK .leq (.int k a) (.int k b)=some (.bool (decide (a<=b))):=by simp[cK]
def ZU:cK .gtr (.int k a) (.int k b)=some (.bool (decide (b<a))):=by simp[cK]
def ZT:cK .geq (.int k a) (.int k b)=some (.bool (decide (b<=a))):=by simp[cK]
variable {j:IntKind}
def Z9:cK .shl (.int k a) (.int j b)=qH (0<=b) (.int k (Ce k a b)):=by simp[cK,qH,Ce]
def aaa:cK .shr (.int k a) (.int j b)=qH (0<=b) (.int k (yB k a b)):=by simp[cK,qH,yB]
def Z3:cK .or (.int k a) (.int k b)=some (.int k (HU k a b)):=by simp[cK,HU]
def bv_and:cK .and (.int k a) (.int k b)=some (.int k (CG k a b)):=by simp[cK,CG]
def aae:cK .xor (.int k a) (.int k b)=some (.int k (IM k a b)):=by simp[cK,IM]
variable {s t:List UInt8}
def Px:cK .add (.string (B s)) (.string (B t))=qH (s.length+t.length<=9223372036854775807) (.string (B (s++t))):=by
 simp only[cK,xm,qH,WS];by_cases h:s.length+t.length<=9223372036854775807
 ·rw[if_pos aa,if_pos h]
 ·rw[if_neg aa,if_neg h]
def Z7:cK .eql (.string (B s)) (.string (B t))=some (.bool (decide (s=t))):=by simp[cK,Iw,Jw]
def aac:cK .neq (.string (B s)) (.string (B t))=some (.bool (decide (s≠t))):=by simp[cK,Iw,Jw]
def aab:cK .lss (.string (B s)) (.string (B t))=some (.bool (Op.bytesLess s t)):=by simp[cK,Iw]
def Z8:cK .gtr (.string (B s)) (.string (B t))=some (.bool !(Op.bytesLess s t||decide (s=t))):=by simp[cK,Iw,Jw]
variable {op:BinOp}
def Z4{x y:Option Addr}:cK op (.pointer x) (.pointer y)=none:=by cases op<;>rfl
def ZR{x y:Bool}:cK op (.bool x) (.bool y)=none:=by cases op<;>rfl
def Z2:cK op .nilIface .nilIface=none:=by cases op<;>rfl
def Z1:cK op .nilIface (.iface u v)=none:=by cases op<;>rfl
def ZW:cK op (.iface u v) .nilIface=none:=by cases op<;>rfl
def ZV{u':TypeId}:cK op (.iface u v) (.iface u' v')=none:=by cases op<;>rfl
def qo(P:Program)(t:TypeId):Bool:=match P.underlying t with|some (.pointer _)=>true|_=>false
def uS(P:Program)(t:TypeId):Bool:=match P.underlying t with|some (.interface _)=>true|_=>false
def Gb(P:Program)(t:TypeId):Bool:=match P.underlying t with|some .bool=>true|_=>false
def B2(h:qo P ty=true):∃e,P.underlying ty=some (.pointer e):=by unfold qo at h;split at h<;>first|exact⟨_,by assumption⟩|cases h
def BF(h:uS P ty=true):∃e,P.underlying ty=some (.interface e):=by unfold uS at h;split at h<;>first|exact⟨_,by assumption⟩|cases h
def Pw(h:Gb P ty=true):P.underlying ty=some .bool:=by unfold Gb at h;split at h<;>first|assumption|cases h
variable {a:Addr}
def al8(h:qo P ty=true):ft P .eql ty (.pointer (some a)) (.pointer none)=some (.bool false):=by obtain⟨e,he⟩:=B2 h;simp[ft,he]
def al7(h:qo P ty=true):ft P .eql ty (.pointer none) (.pointer (some a))=some (.bool false):=by obtain⟨e,he⟩:=B2 h;simp[ft,he]
def al6(h:qo P ty=true):ft P .eql ty (.pointer none) (.pointer none)=some (.bool true):=by obtain⟨e,he⟩:=B2 h;simp[ft,he]
def alK(h:qo P ty=true):ft P .neq ty (.pointer (some a)) (.pointer none)=some (.bool true):=by obtain⟨e,he⟩:=B2 h;simp[ft,he]
def alJ(h:qo P ty=true):ft P .neq ty (.pointer none) (.pointer (some a))=some (.bool true):=by obtain⟨e,he⟩:=B2 h;simp[ft,he]
def alI(h:qo P ty=true):ft P .neq ty (.pointer none) (.pointer none)=some (.bool false):=by obtain⟨e,he⟩:=B2 h;simp[ft,he]
variable {a b:Bool}
def al2(h:Gb P ty=true):ft P .eql ty (.bool a) (.bool b)=some (.bool (decide (a=b))):=by simp[ft,Pw h];cases a<;>cases b<;>rfl
def alF(h:Gb P ty=true):ft P .neq ty (.bool a) (.bool b)=some (.bool (decide (a≠b))):=by simp[ft,Pw h];cases a<;>cases b<;>rfl
def al4(h:uS P ty=true):ft P .eql ty (.iface u v) .nilIface=some (.bool false):=by obtain⟨e,he⟩:=BF h;simp[ft,he]
def al5(h:uS P ty=true):ft P .eql ty .nilIface (.iface u v)=some (.bool false):=by obtain⟨e,he⟩:=BF h;simp[ft,he]
def alG(h:uS P ty=true):ft P .neq ty (.iface u v) .nilIface=some (.bool true):=by obtain⟨e,he⟩:=BF h;simp[ft,he]
def alH(h:uS P ty=true):ft P .neq ty .nilIface (.iface u v)=some (.bool true):=by obtain⟨e,he⟩:=BF h;simp[ft,he]
def al3:ft P op ty .nilIface .nilIface=none:=by unfold ft;cases op<;>cases P.underlying ty<;>first|rfl|(rename_i d;cases d<;>rfl)
variable {y:Operand}
def alC(h:uS P ty=true)(hc:(Region.isConst x||Region.isConst y)=true):nQ P .eql ty x y .nilIface .nilIface=some (.bool true):=by obtain⟨e,he⟩:=BF h;simp only[nQ,he,hc,if_true]
def alD(h:uS P ty=true)(hc:(Region.isConst x||Region.isConst y)=true):nQ P .neq ty x y .nilIface .nilIface=some (.bool false):=by obtain⟨e,he⟩:=BF h;simp only[nQ,he,hc,if_true]
def arw:vB .not (.bool b)=some (.bool !b):=bp
variable {a:Int}
def arv:vB .neg (.int k a)=some (.int k (k.wrap (0-a))):=bp
def LU(P:Program)(t:TypeId):Option IntKind:=match P.underlying t with|some (.int k)=>some k|_=>none
def qu(P:Program)(t:TypeId):Bool:=match P.underlying t with|some .string=>true|_=>false
def Ek(P:Program)(t:TypeId):Bool:=(P.underlying t).isSome
variable {s d:TypeId}
def abT(hs:Ek P s=true)(hd:LU P d=some k):mw P s d (.int j a)=some (.int k (k.wrap a)):=by
 unfold Ek at hs;obtain⟨u,hu⟩:=Option.isSome_iff_exists.1 hs;have:P.underlying d=some (.int k):=by unfold LU at hd;split at hd<;>first|(cases hd;assumption)|cases hd
 simp[mw,hu,this]
def Ff(h:qu P ty=true):P.underlying ty=some .string:=by unfold qu at h;split at h<;>first|assumption|cases h
def abV(hs:Ek P s=true)(hd:qu P d=true):mw P s d (.string (B t))=some (.string (B t)):=by unfold Ek at hs;obtain⟨u,hu⟩:=Option.isSome_iff_exists.1 hs;simp[mw,hu,Ff hd]
def tF(P:Program)(s d:TypeId):Option IntKind:=if Ek P s then LU P d else none
def aaF{x y:Code}:cO E N (.seq x y) Q I ds U=cO E N x (lK (cO E N y Q) Q) I ds U:=bp
def aaD{id:Nat}{l:List Oper}:cO E N (.region id l.toArray false) Q I ds U=jl E N l.toArray Q l I ds U:=bp
def aaG:cO E N .skip Q I ds U=Q .normal I ds U:=bp
def aaC{l:Nat}:cO E N (.label l) Q I ds U=Q .normal I ds U:=bp
def aaE:cO E N .ret Q I ds U=Q .ret I ds U:=bp
def aaB{id:Nat}:cO E N (.exit id) Q I ds U=Q (.exit id) I ds U:=bp
def aaz{id:Nat}:cO E N (.block id c) Q I ds U=cO E N c (pQ id Q) I ds U:=bp
def aaA{a b:Code}:cO E N (.cond x a b) Q I ds U=tM (cO E N a Q I ds U) (cO E N b Q I ds U) (ak I x):=by
 simp only[cO];unfold tM;generalize ak I x=v
 cases v<;>first|rfl|(rename_i t;cases t<;>rfl)
def aqA:lK nx Q .normal aC ds U=nx aC ds U:=bp
def aqz{id:Nat}:lK nx Q (.exit id) I ds U=Q (.exit id) I ds U:=bp
def aqC:lK nx Q .ret I ds U=Q .ret I ds U:=bp
def aqB{ch:List PanicEntry}:lK nx Q (.panic ch) I ds U=Q (.panic ch) I ds U:=bp
def YR{id:Nat}:pQ id Q .normal I ds U=Q .normal I ds U:=bp
def YT{id:Nat}:pQ id Q .ret I ds U=Q .ret I ds U:=bp
def YS{id:Nat}{ch:List PanicEntry}:pQ id Q (.panic ch) I ds U=Q (.panic ch) I ds U:=bp
def YP{id:Nat}:pQ id Q (.exit id) I ds U=Q .normal I ds U:=by simp[pQ]
def YQ{id:Nat}(h:(i==id)=false):pQ id Q (.exit i) I ds U=Q (.exit i) I ds U:=by have:¬i=id:=aW h;simp[pQ,this]
@[congr] theorem auG{e:Ex}(_:tick 0=jA):lK nx Q e I ds U=lK nx Q e I ds U:=rfl
@[congr] theorem asy{e:Ex}{id:Nat}(_:tick 0=jA):pQ id Q e I ds U=pQ id Q e I ds U:=rfl
def iW(P:Program)(t:TypeId):Option Nat:=match tR P t with
 |some e=>(P.info? e).map (·.size)
 |none=>none
variable {t:TypeId}{z:Nat}
def C1(h:iW P t=some z):∃e,tR P t=some e/\(P.info? e).isSome=true/\cD P e=z:=by
 unfold iW at h;split at h
 ·rename_i e he;obtain⟨i,hi,rfl⟩:=Option.map_eq_some_iff.1 h;exact⟨e,he,by simp[hi],by simp[cD,hi]⟩
 ·cases h
def uY(p:Prop)(z:Nat)(k:Value->Prop)(i:Value)(x:Value):Prop:=
 match x,i with
 | .slice (some a) n _,.int _ j=>jr (0<=j/\j<n) (k (.pointer (some (a.add (j.toNat*z)))))
 |_,_=>p
variable {k:Value->Prop}{i' x':Value}
@[congr] theorem atU{i x:Value}(hi:tick i=i')(hx:tick x=x'):uY p z k i x=uY p z k i' x':=by subst hi;subst hx;rfl
variable {kk:IntKind}{j:Int}{c:Nat}
def ajc{b:Nat}:uY p z k (.int kk j) (.slice (some ⟨b,off,none⟩) n c)=jr (0<=j/\j<n) (k (.pointer (some ⟨b,off+j.toNat*z,none⟩))):=by simp only[uY,Jj]
def anN{i:Operand}(h:iW P t=some z):aU E ⟨dst,.indexAddr t x i,ty,pos,af,g⟩ I ds U nx pn=
 uY (wpOp E ⟨dst,.indexAddr t x i,ty,pos,af,g⟩ I ds U nx pn) z (λv=>nx (aB I dst v) ds U) (ak I i) (ak I x):=by
 obtain⟨e,he,hs,hz⟩:=C1 h;subst hz;simp only[aU];unfold uY;generalize ak I x=vx;generalize ak I i=vi;rw[he]
 cases vx with
 |slice a n c=>
  cases a with
  |none=>cases vi<;>rfl
  |some a=>
   cases vi with
   |int kk j=>simp only[hs,and_true,jr]
   |_=>rfl
 |_=>cases vi<;>rfl
def pR(l:List UInt8)(i:Nat):Int:=((l.getD i 0).toNat:Int)
variable {s:List UInt8}
def AQ(p:Prop)(k:Value->Prop)(i:Value)(x:Value):Prop:=
 match x,i with
 | .string s,.int _ j=>∃h:0<=j/\j.toNat<s.size,k (.int .u8 (s[j.toNat]'h.2).toNat)
 |_,_=>p
@[congr] theorem asB{i x:Value}(hi:tick i=i')(hx:tick x=x'):AQ p k i x=AQ p k i' x':=by subst hi;subst hx;rfl
def aaf{l:List UInt8}:AQ p k (.int kk j) (.string (B l))=jr (0<=j/\j<l.length) (k (.int .u8 (pR l j.toNat))):=by
 simp only[AQ,jr,eq_iff_iff]
 have e:∀h:j.toNat<(B l).size,(B l)[j.toNat]'h=l.getD j.toNat 0:=by
  intro h;have hk:j.toNat<l.length:=by rw[xm]at h;exact h
  have:(B l)[j.toNat]'h=l[j.toNat]'hk:=by show(B l).data[j.toNat]=_;simp[B]
  rw[this,List.getD_eq_getElem?_getD,List.getElem?_eq_getElem hk,Option.getD_some]
 constructor
 ·rintro⟨h,k1⟩;rw[e]at k1;have:=h.2;rw[xm]at this;exact⟨⟨h.1,aa⟩,k1⟩
 ·rintro⟨h,k1⟩;have h2:j.toNat<(B l).size:=by rw[xm];omega
  exact⟨⟨h.1,h2⟩,by rw[e];exact k1⟩
def anM{i:Operand}(h:qu P t=true):aU E ⟨dst,.index t x i,ty,pos,af,g⟩ I ds U nx pn=
 AQ (wpOp E ⟨dst,.index t x i,ty,pos,af,g⟩ I ds U nx pn) (λv=>nx (aB I dst v) ds U) (ak I i) (ak I x):=by
 simp only[aU,Ff h];unfold AQ;generalize ak I x=vx;generalize ak I i=vi
 cases vx<;>cases vi<;>rfl
def mL(k:Int->Prop):Option Value->Prop
 |none=>k 0
 |some (.int _ i)=>k i
 |_=>False
variable {k:Int->Prop}{a a':Option Value}
@[congr] theorem at0(h:tick a=a'):mL k a=mL k a':=by subst h;rfl
def akm:mL k none=k 0:=bp
def akn{i:Int}:mL k (some (.int kk i))=k i:=bp
def ju(n:Nat)(k:Int->Prop):Option Value->Prop
 |none=>k n
 |some (.int _ i)=>k i
 |_=>False
@[congr] theorem atr(h:tick a=a'):ju n k a=ju n k a':=by subst h;rfl
def agk:ju n k none=k n:=bp
def agl{i:Int}:ju n k (some (.int kk i))=k i:=bp
def yC(p:Prop)(k:Value->Prop)(lo hi:Option Value):Value->Prop
 | .string s=>mL (λl=>ju s.size (λh=>jr (0<=l/\l<=h/\h<=s.size) (k (.string (s.extract l.toNat h.toNat)))) hi) lo
 |_=>p
variable {k:Value->Prop}{lo hi:Option Value}
@[congr] theorem auC{x:Value}(h:tick x=x'):yC p k lo hi x=yC p k lo hi x':=by subst h;rfl
def ap4:yC p k lo hi (.string (B s))=
 mL (λl=>ju s.length (λh=>jr (0<=l/\l<=h/\h<=s.length) (k (.string (B ((s.drop l.toNat).take (h.toNat-l.toNat)))))) hi) lo:=by
 show mL (λl=>ju (B s).size (λh=>jr (0<=l/\l<=h/\h<=(B s).size) (k (.string ((B s).extract l.toNat h.toNat)))) hi) lo=_;rw[xm];congr 1;funext l;congr 1;funext h;rw[Od]
def anY{lo hi:Option Operand}(h:qu P t=true):aU E ⟨dst,.slice t x lo hi none,ty,pos,af,g⟩ I ds U nx pn=
 yC (wpOp E ⟨dst,.slice t x lo hi none,ty,pos,af,g⟩ I ds U nx pn) (λv=>nx (aB I dst v) ds U) (lo.map (ak I)) (hi.map (ak I)) (ak I x):=by
 simp only[aU,Ff h];generalize ak I x=vx
 cases vx with
 |string s=>
  simp only[yC,jr]
  cases lo with
  |none=>
   simp only[Option.map_none,nU,mL]
   cases hi with
   |none=>simp[jS,ju]
   |some hh=>simp only[Option.map_some,jS,ju];cases ak I hh<;>rfl
  |some ll=>
   simp only[Option.map_some]
   cases ak I ll with
   |int kk n=>
    simp only[nU,mL]
    cases hi with
    |none=>simp[jS,ju]
    |some hh=>simp only[Option.map_some,jS,ju];cases ak I hh<;>rfl
   |_=>rfl
 |_=>rfl
variable {a:Int}
def xt(p:Prop)(z:Nat)(k:Value->Prop)(lo hi:Option Value):Value->Prop
 | .slice a n c=>mL (λl=>ju n (λh=>jr (0<=l/\l<=h/\h<=c) (k (.slice (if c=l.toNat then a else a.map (·.add (l.toNat*z))) (h.toNat-l.toNat) (c-l.toNat)))) hi) lo
 |_=>p
@[congr] theorem auF{x:Value}(h:tick x=x'):xt p z k lo hi x=xt p z k lo hi x':=by subst h;rfl
def aqu{a:Option Addr}:xt p z k lo hi (.slice a n c)=
 mL (λl=>ju n (λh=>jr (0<=l/\l<=h/\h<=c) (k (.slice (if c=l.toNat then a else a.map (·.add (l.toNat*z))) (h.toNat-l.toNat) (c-l.toNat)))) hi) lo:=rfl
variable {lo hi:Option Operand}
def anX(h:iW P t=some z):aU E ⟨dst,.slice t x lo hi none,ty,pos,af,g⟩ I ds U nx pn=
 xt (wpOp E ⟨dst,.slice t x lo hi none,ty,pos,af,g⟩ I ds U nx pn) z (λv=>nx (aB I dst v) ds U) (lo.map (ak I)) (hi.map (ak I)) (ak I x):=by
 obtain⟨e,he,hs,hz⟩:=C1 h;subst hz;simp only[aU,Im he];generalize ak I x=vx
 cases vx with
 |slice a n c=>
  simp only[xt,jr,hs,and_true]
  cases lo with
  |none=>
   simp only[Option.map_none,nU,mL]
   cases hi with
   |none=>simp[jS,ju]
   |some hh=>simp only[Option.map_some,jS,ju];cases ak I hh<;>rfl
  |some ll=>
   simp only[Option.map_some]
   cases ak I ll with
   |int kk n=>
    simp only[nU,mL]
    cases hi with
    |none=>simp[jS,ju]
    |some hh=>simp only[Option.map_some,jS,ju];cases ak I hh<;>rfl
   |_=>rfl
 |_=>rfl
def wX(k:List Value->Prop):Option (List Value)->Prop
 |some r=>k r
 |none=>False
@[congr] theorem at4{k:List Value->Prop}{a a':Option (List Value)}(h:tick a=a'):wX k a=wX k a':=by subst h;rfl
def akw{k:List Value->Prop}{r:List Value}:wX k (some r)=k r:=bp
variable {parts:List (Nat×Operand)}{z:Value}{pl:List (Nat×Nat)}
def anG(hz:dv P t=some z)(hp:jC P t=some pl):
 aU E ⟨dst,.build t parts.toArray,ty,pos,af,g⟩ I ds U nx pn=wX (λr=>nx (aB I dst (.agg r.toArray)) ds U) (qJ pl z.cells.toList (parts.map λp=>(p.1,ak I p.2))):=by
 simp only[aU,hz,hp,wX];rfl
variable {b:Int}
def anH{zs:List Value}(hb:kN P t n=some (e,pl,zs)):
 aU E ⟨dst,.buildSlice t n parts.toArray,ty,pos,af,g⟩ I ds U nx pn=wX (λr=>tK U λb=>nx (aB I dst (.slice (some ⟨b,0,none⟩) n n)) ds (U.set b (.cells r.toArray e))) (qJ pl zs (parts.map λp=>(p.1,ak I p.2))):=by
 simp only[aU,hb,wX];rfl
variable {a:TypeId}
def an2:aU E ⟨dst,.typeAssert x t a true,ty,pos,af,g⟩ I ds U nx pn=
 lH (wpOp E ⟨dst,.typeAssert x t a true,ty,pos,af,g⟩ I ds U nx pn) (λv=>nx (aB I dst v) ds U) (lJ P a (ak I x)):=by
 simp only[aU,lH]
 cases lJ P a (ak I x)<;>rfl
def aqO(h:iG P a=true):lJ P a (.iface a v)=some (.tuple #[v,.bool true]):=by
 unfold iG at h;simp only[lJ]
 cases hu:P.underlying a with
 |none=>rw[hu]at h;cases h
 |some d=>rw[hu]at h;cases d<;>first|(simp at h;done)|simp
def aqM(h:iG P a=true)(hz:dv P a=some z)(aE:(u==a)=false):lJ P a (.iface u v)=some (.tuple #[z,.bool false]):=by
 unfold iG at h;have aE:¬u=a:=aW aE;simp only[lJ]
 cases hu:P.underlying a with
 |none=>rw[hu]at h;cases h
 |some d=>rw[hu]at h;cases d<;>first|(simp at h;done)|simp[aE,hz]
def aqK(h:iG P a=true)(hz:dv P a=some z):lJ P a .nilIface=some (.tuple #[z,.bool false]):=by
 unfold iG at h;simp only[lJ]
 cases hu:P.underlying a with
 |none=>rw[hu]at h;cases h
 |some d=>rw[hu]at h;cases d<;>first|(simp at h;done)|simp[hz]
def EX(k:Value->Prop):Value->Prop
 | .iface t v=>k (.iface t v)
 |_=>False
@[congr] theorem auo(h:tick v=v'):EX k v=EX k v':=by subst h;rfl
def ani:EX k (.iface t v)=k (.iface t v):=bp
def anV:aU E ⟨dst,.panic x,ty,pos,af,g⟩ I ds U nx pn=EX (λv=>pn [{v:=v,recovered:=false}] U) (ak I x):=by
 simp only[aU];unfold EX
 cases ak I x<;>simp
def Cb(p:Prop)(k:ByteArray->Prop):Value->Prop
 | .string s=>k s
 |_=>p
@[congr] theorem auB{k:ByteArray->Prop}(h:tick v=v'):Cb p k v=Cb p k v':=by subst h;rfl
def ao8{k:ByteArray->Prop}{s:ByteArray}:Cb p k (.string s)=k s:=bp
def dG(l:List UInt8):List Value:=l.map λb=>.int .u8 b.toNat
def PC(l:List UInt8):vL (B l)=(dG l).toArray:=by simp[vL,B,dG]
def A5(U:Hp)(e:TypeId)(s:ByteArray)(k:Nat->Nat->Hp->Prop):Prop:=∀b pad z,U.f b=none->k b pad (U.set b (.cells (vL s++Array.replicate pad (.int .u8 0)) e z))
@[congr] theorem atg{s:ByteArray}{k:Nat->Nat->Hp->Prop}(_:tick 0=jA):A5 U e s k=A5 U e s k:=rfl
def an0{src:TypeId}(he:lL P src d=some e):aU E ⟨dst,.convert src d x,ty,pos,af,g⟩ I ds U nx pn=
 Cb (aU E ⟨dst,.convert src d x,ty,pos,af,g⟩ I ds U nx pn) (λs=>A5 U e s λb pad ae=>nx (aB I dst (.slice (some ⟨b,0,none⟩) s.size (s.size+pad))) ds ae) (ak I x):=by
 unfold Cb;split
 ·rename_i s hx;simp only[aU,hx]
  have:mw P src d (.string s)=none:=by
   unfold lL at he;split at he
   ·rename_i e' hs hd;simp[mw,hs,hd]
   ·cases he
  rw[this,he];rfl
 ·rfl
def aaZ{k:IntKind}{n:Int}:(Value.int k n).cells= #[.int k n]:=bp
def aaW{b:Bool}:(Value.bool b).cells= #[.bool b]:=bp
def aa5{b:ByteArray}:(Value.string b).cells= #[.string b]:=bp
def aa3{b:Option Addr}:(Value.pointer b).cells= #[.pointer b]:=bp
def aa4{b:Option Addr}:(Value.slice b n c).cells= #[.slice b n c]:=bp
def aa0{b:Option Nat}:(Value.map b).cells= #[.map b]:=bp
def aaY:(Value.iface t v).cells= #[.iface t v]:=bp
def aa2:Value.nilIface.cells= #[.nilIface]:=bp
def aaX{f:Fn}{x y:Array Value}:(Value.func f x y).cells= #[.func f x y]:=bp
def aa1:Value.nilFunc.cells= #[.nilFunc]:=bp
def JC{c:Array Value}:(Value.agg c).cells=c:=bp
def QH(l:List Value)(i j:Nat):l.toArray.extract i j=((l.drop i).take (j-i)).toArray:=by simp[List.extract_eq_take_drop]
def ant{vs c:List Value}{k:Obj->Prop}:yx P t off (.agg vs.toArray) k (.cells c.toArray e (0,0))=
 jr (off+vs.length<=c.length/\cD P t=vs.length/\vs.all dp=true) (k (.cells (xe c off vs).toArray e (0,0))):=by
 have hs:dp (.agg vs.toArray)=false:=rfl
 have e1:c.toArray.extract 0 off++(Value.agg vs.toArray).cells++c.toArray.extract (off+(Value.agg vs.toArray).cells.size) c.toArray.size=(xe c off vs).toArray:=by simp only[JC,xe,QH,List.drop_zero,Nat.sub_zero,List.append_toArray,List.size_toArray];congr 2;rw[List.take_of_length_le];simp
 simp only[yx,hs,Bool.false_eq_true,if_false,e1,jr];have e3:vs.toArray.all dp=vs.all dp:=al;simp only[JC,e3];simp only[List.size_toArray,true_and,and_assoc]
def aeB(tJ:Nat):∀r c,c<=tJ->Builtin.growBy tJ r c<=tJ+(tJ+768)/4:=by
 intro r
 induction r with
 |zero=>intro c h;simp[Builtin.growBy];omega
 |succ r ih=>
  intro c h;unfold Builtin.growBy;by_cases hc:c>=tJ
  ·rw[if_pos hc];omega
  ·rw[if_neg hc];by_cases h2:c+(c+768)/4<=tJ
   ·exact ih _ h2
   ·cases r with
    |zero=>simp only[Builtin.growBy];omega
    |succ r=>unfold Builtin.growBy;rw[if_pos aa];omega
def nextslicecap_le{tJ old:Nat}(h:old<tJ):Builtin.nextslicecap tJ old<=2*tJ+192:=by
 unfold Builtin.nextslicecap;split
 ·omega
 ·split
  ·omega
  ·have:=aeB tJ 4 old aa;omega
variable {a:Int}
def jc(U:Hp)(z n:Nat):Value->Option (Array Value)
 | .slice (some a) _ _=>cellsOf U a (n*z)
 | .slice none _ _=>some #[]
 | .string s=>some (vL (s.extract 0 n))
 |_=>none
def tH:Value->Option Nat
 | .slice _ n _=>some n
 | .string s=>some s.size
 |_=>none
def aaV{a:Addr}{r:Array Value}(h:cellsOf U a n=some r):∃c e z,U.f a.block=some (.cells c e z)/\a.spot=none/\a.off+n<=c.size/\r=c.extract a.off (a.off+n):=by
 unfold cellsOf at h;split at h
 ·rename_i c e z hb;split at h
  ·rename_i hc;exact⟨c,e,z,hb,hc.1,hc.2,(Option.some.inj h).symm⟩
  ·cases h
 ·cases h
def C4{z:Nat}{r:Array Value}{Q:Array Value->Hp->Prop}{H:Halt->Hp->Prop}(h:jc U z n v=some r)(k:Q r U):wpS P (Builtin.firstCells z n v) Q H U:=by
 unfold jc at h;split at h
 ·rename_i a _ _;obtain⟨c,e,zz,hb,hs,hl,rfl⟩:=aaV h;simp only[Builtin.firstCells,loadCells];refine IJ hb hs _ 0 #[] Q aa ?_;simpa using k
 ·simp only[Builtin.firstCells,bt];cases h;exact k
 ·simp only[Builtin.firstCells,bt];cases h;exact k
 ·cases h
structure oN (P:Program) (t:TypeId) where
 e:TypeId
 z:Nat
 zero:Array Value
 bytes:Nat
 hu:P.underlying t=some (.slice e)
 hi:∃i zv,P.info? e=some i/\i.size=z/\i.zero=some zv/\zv.cells=zero/\i.bytes=bytes
def BX(P:Program)(t:TypeId):Bool:=match P.underlying t with|some (.int _)=>false|some _=>true|none=>false
def sU(el:oN P t){base:Option Addr}{l:Nat}{old new:Array Value}(hu:BX P u=true)(hx:ak I x=.slice base l c)(hn:tH (ak I y)=some n)(hold:jc U el.z l (.slice base l c)=some old)(iX:jc U el.z n (ak I y)=some new)(fZ:(2*(l+n)+192)*el.bytes<=2^48)(agT:l+n<=9223372036854775807)(xR:l+n<=c->∃ae,(match base with
  |some a=>∃cs e,U.f a.block=some (.cells cs e (0,0))/\a.spot=none/\a.off+l*el.z+new.size<=cs.size/\new.all dp=true/\
   ae=U.set a.block (.cells (cs.extract 0 (a.off+l*el.z)++new++cs.extract (a.off+l*el.z+new.size) cs.size) e (0,0))
  |none=>ae=U)/\nx (aB I dst (.slice base (l+n) c)) ds ae)(eS:c<l+n->∀b cap,U.f b=none->l+n<=cap->nx (aB I dst (.slice (some ⟨b,0,none⟩) (l+n) cap)) ds (U.set b (.cells (old++new++Builtin.zeroCells el.zero (cap-(l+n))) el.e))):
 aU E ⟨dst,.call ⟨.builtin .append,#[x,y],#[t,u]⟩,ty,pos,af,g⟩ I ds U nx pn:=by
 have jJ:=el.hu;obtain⟨i,zv,hi,hz,hzero,BC,hb⟩:=el.hi;show wpOp E _ I ds U nx pn
 have agL:∀(Q:Nat->Hp->Prop) (H:Halt->Hp->Prop),Q n U->wpS P (Builtin.lenOf (ak I y)) Q H U:=by
  intro Q H q
  cases hv:ak I y<;>rw[hv]at hn<;>first|(simp only[tH,Option.some.injEq]at hn;subst hn;exact q)|cases hn
 have hzs:∃d,P.underlying u=some d/\∀k,d≠.int k:=by
  unfold BX at hu;split at hu
  ·cases hu
  ·rename_i d hd aE;exact⟨d,aE,λk hk=>hd k hk⟩
  ·cases hu
 obtain⟨d,hd,GK⟩:=hzs;unfold wpOp;simp only[execOp,resolve,aG,bt,invoke];show wpS P (do pure (Next.value (<-Builtin.append_ #[t,u] ty (#[x,y].map (ak I)))):Sem Next) _ _ _;rw[lN];have e1: #[x,y].map (ak I)= #[.slice base l c,ak I y]:=by simp[hx]
 rw[e1];simp only[Builtin.append_,List.getElem?_toArray,List.getElem?_cons_zero,List.getElem?_cons_succ,aG,eu,jJ,sizeOf,gl,hi,bt,hd];simp only[Bool.false_eq_true,if_false,Bool.not_false,if_true,aG];refine agL _ _ ?_;by_cases hc:l+n<=c
 ·rw[if_pos hc];simp only[aG,hz];refine C4 iX ?_;obtain⟨ae,kE,hk⟩:=xR hc
  cases base with
  |none=>simp only at kE;subst kE;exact hk
  |some a=>
   obtain⟨cs,e',dJ,cU,hle,lU,rfl⟩:=kE;simp only[aG];have hsp:(a.add (l*el.z))=⟨a.block,a.off+l*el.z,none⟩:=Addr.FX cU _;rw[hsp];refine Fu (e:=e') (a:=⟨a.block,a.off+l*el.z,none⟩) rfl new.toList 0 cs U _ dJ (aW hle) (aW lU) ?_;show nx (aB I dst (Value.slice (some a) (l+n) c)) ds _;simpa using hk
 ·rw[if_neg hc];simp only[aG,gl,hi,hz,hb]
  rw[if_neg (by intro⟨h1,_⟩;have:IntKind.i64.max=9223372036854775807:=ai
                omega)]
  have G5:=nextslicecap_le (show c<l+n by omega);simp only[aG,gl,hi,hb];rw[if_neg (by have:=Nat.mul_le_mul_right el.bytes G5;omega)];simp only[aG,IH];rw[if_neg (by simp[Question.forced])];intro tt;have Bj:l+n<=(Question.appendCap (l+n) c el.e).cut tt:=by simp only[Question.cut];omega
  simp only[gl,hi,askRoom]
  have fin:wpS P (do
   let old<-Builtin.firstCells el.z l (Value.slice base l c)
   let new<-Builtin.firstCells el.z n (ak I y)
   let r<-zeroValue el.e
   let q<-newRow el.e (old++new++Builtin.zeroCells r.cells ((Question.appendCap (l+n) c el.e).cut tt-(l+n)))
   pure (Value.slice (some q) (l+n) ((Question.appendCap (l+n) c el.e).cut tt)))
   (λv U=>pK (λv ae=>nx (aB I dst v) ds ae) (λd ae=>nx (aB I dst undef) (d::ds) ae)
    (λf args ae=>ay E f args ae (yr (λv ae=>nx (aB I dst v) ds ae) pn)) (Next.value v) U)
   (sL λv ae=>pn [{v:=v,recovered:=false}] ae) U:=by
   simp only[aG];refine C4 hold (C4 iX ?_);simp only[zeroValue,aG,gl,hi,hzero,bt,newRow,yH,BC];intro b cE;exact eS aa b _ cE Bj
  simp only[aG]at fin;split
  ·simp only[NT];exact⟨rfl,fin⟩
  ·simp only[bt];exact fin
def aV(f:α->Value)(l:List (α×Value×Nat))(c:Nat):Obj:=.map (l.map λe=>⟨f e.1,e.2.1,e.2.2⟩).toArray c
structure mV (P:Program) (t:TypeId) {α:Type} [DecidableEq α] (f:α->Value) where
 key:TypeId
 elem:TypeId
 kind:TypeDesc
 hu:P.underlying t=some (.map key elem)
 hk:P.underlying key=some kind
 hs:(∃k,kind=.int k)\/kind=.string
 same:∀a b:α,Instr.sameNow kind (f a) (f b)=some (decide (a=b))
 refl:∀a:α,Instr.sameBits 10000 (f a) (f a)=true
def dq [DecidableEq α](l:List (α×Value×Nat))(k:α):Option (α×Value×Nat):=l.find? λe=>decide (e.1=k)
def jz [DecidableEq α](l:List (α×Value×Nat))(k:α)(v:Value)(c:Nat):List (α×Value×Nat):=
 if(dq l k).isSome then l.map λe=>if e.1=k then(k,v,e.2.2)else e else l++[(k,v,c)]
def jM [DecidableEq α](l:List (α×Value×Nat))(k:α)(c:Nat):Nat:=if(dq l k).isSome then c else c+1
def sx [DecidableEq α](l:List (α×Value×Nat))(k:α):List (α×Value×Nat):=l.filter λe=>decide (e.1≠k)
def jW(l:List (α×Value×Nat)):Prop:=(l.map (·.1)).Nodup
section
variable {I:av}{ds:List Deferred}{U:Hp}{nx:av->List Deferred->Hp->Prop}{pn:List PanicEntry->Hp->Prop}{Q:Post}{dst:Option Tmp}{ty:TypeId}{pos:String}{af:Array Edge}{g:Option (Nat×Bool)}{a:Int}{b:Int}{e:TypeId}{x:Operand}{t:TypeId}{c:Nat}
variable {P:Program}{E:Env P}
variable {α:Type}[DecidableEq α]{f:α->Value}{l:List (α×Value×Nat)}{k:α}
def adk (ko:mV P t f)(k:α):∀(l:List (α×Value×Nat)) (i:Nat),Instr.findNow ko.kind (f k) (l.map λe=>⟨f e.1,e.2.1,e.2.2⟩) i=
 some ((l.findIdx? λe=>decide (e.1=k)).bind λj=>(l[j]?).map λe=>(i+j,e.2.1)):=by
 intro l
 induction l with
 |nil=>intro i;rfl
 |cons e l ih=>
  intro i;simp only[List.map_cons,Instr.findNow,ko.same];by_cases h:k=e.1
  ·subst h;simp[List.findIdx?_cons]
  ·have h':¬e.1=k:=λx=>h x.symm;simp only[h,decide_false,List.findIdx?_cons,h',Bool.false_eq_true,if_false];rw[ih];congr 1
   cases hx:(List.findIdx? (λe=>decide (e.1=k)) l)with
   |none=>rfl
   |some j=>
    simp only[Option.map_some,Option.bind_some,List.getElem?_cons_succ];congr 1;funext e;congr 1;omega
def J0 (ko:mV P t f){Q:Option (Nat×Value)->Hp->Prop}{H:Halt->Hp->Prop}
 (h:Q ((l.findIdx? λe=>decide (e.1=k)).bind λj=>(l[j]?).map λe=>(j,e.2.1)) U):
 wpS P (Instr.findKey ko.key (f k) (l.map λe=>⟨f e.1,e.2.1,e.2.2⟩)) Q H U:=by
 simp only[Instr.findKey,aG,eu,ko.hk,adk ko,bt];simpa using h
def JF (ko:mV P t f){b:Bool}{v:Value}{n:Nat}{Q:Unit->Hp->Prop}{H:Halt->Hp->Prop}(h:Q () U):wpS P (Instr.checkKey b (n+1) ko.key v) Q H U:=by unfold Instr.checkKey;simp only[aG,eu,ko.hk];rcases ko.hs with⟨kk,hk⟩|hk<;>rw[hk]<;>exact h
def adj (l:List (α×Value×Nat))(k:α):((l.findIdx? λe=>decide (e.1=k)).bind λj=>(l[j]?).map λe=>(j,e.2.1)).map (·.2)=(dq l k).map (·.2.1):=by
 unfold dq
 induction l with
 |nil=>rfl
 |cons e l ih=>
  by_cases h:e.1=k
  ·simp[h,List.findIdx?_cons]
  ·simp only[List.findIdx?_cons,h,decide_false,Bool.false_eq_true,if_false,List.find?_cons];rw[<-ih]
   cases hx:(List.findIdx? (λe=>decide (e.1=k)) l)with
   |none=>rfl
   |some j=>
    simp only[Option.map_some,Option.bind_some,List.getElem?_cons_succ]
    cases l[j]? <;>rfl
def jy {x i:Operand}{ok:Bool}(ko:mV P t f){z:Value}{b:Nat}(hz:dv P ko.elem=some z)(hx:ak I x=.map (some b))(hb:U.f b=some (aV f l c))(hi:ak I i=f k)
 (h:nx (aB I dst (if ok then .tuple #[((dq l k).map (·.2.1)).getD z,.bool (dq l k).isSome]else((dq l k).map (·.2.1)).getD z)) ds U):
 aU E ⟨dst,.lookup t x i ok,ty,pos,af,g⟩ I ds U nx pn:=by
 show wpOp E _ I ds U nx pn;unfold wpOp;simp only[execOp,Instr.lookup,aG,eu,ko.hu,hx,hi,oK,bt];refine⟨_,hb,rfl,?_⟩;simp only[aV,aG,bt];refine JF ko ?_;refine J0 ko ?_;have hm:=adj l k;generalize((l.findIdx? λe=>decide (e.1=k)).bind λj=>(l[j]?).map λe=>(j,e.2.1))=r at hm|-
 cases r with
 |none=>
  simp only[Option.map_none]at hm
  have hn:dq l k=none:=by
   cases rZ:dq l k with
   |none=>rfl
   |some e=>rw[rZ]at hm;cases hm
  rw[hn]at h;simp only[zeroValue,aG,gl];unfold dv at hz
  cases wA:P.info? ko.elem with
  |none=>rw[wA]at hz;cases hz
  |some ie=>
   rw[wA]at hz;simp only at hz;simp only[hz,bt];exact h
 |some p=>
  obtain⟨j,v⟩:=p;simp only[Option.map_some]at hm
  cases rZ:dq l k with
  |none=>rw[rZ]at hm;cases hm
  |some e=>
   rw[rZ]at hm h;simp only[Option.map_some,Option.some.injEq]at hm;subst hm;exact h
def JZ (l:List (α×Value×Nat))(k:α):(l.findIdx? λe=>decide (e.1=k))=none↔dq l k=none:=by unfold dq;simp[List.findIdx?_eq_none_iff,List.find?_eq_none]
def akV (l:List (α×Value×Nat))(k:α)(v:Value)(hu:jW l){j:Nat}(hj:(l.findIdx? λe=>decide (e.1=k))=some j):
 l.modify j (λe=>(k,v,e.2.2))=l.map λe=>if e.1=k then(k,v,e.2.2)else e:=by
 induction l generalizing j with
 |nil=>cases hj
 |cons e l ih=>
  simp only[jW,List.map_cons,List.nodup_cons]at hu;by_cases h:e.1=k
  ·have:j=0:=by simp[List.findIdx?_cons,h]at hj;exact hj.symm
   subst this;simp only[List.modify_zero_cons,List.map_cons,h,if_true];congr 1;rw[<-List.map_id l];rw[List.map_map];apply List.map_congr_left;intro a ha
   have:a.1≠k:=by intro e2;apply hu.1;rw[h,<-e2];exact List.mem_map_of_mem ha
   simp[this]
  ·simp only[List.findIdx?_cons,h,decide_false,Bool.false_eq_true,if_false]at hj;obtain⟨i,hi,rfl⟩:=Option.map_eq_some_iff.1 hj;simp only[List.modify_succ_cons,List.map_cons,h,if_false];rw[ih hu.2 hi]
def UU (ko:mV P t f){b:Nat}{v:Value}(hu:jW l)(hb:U.f b=some (aV f l c)){Q:Unit->Hp->Prop}{H:Halt->Hp->Prop}
 (h:Q () (U.set b (aV f (jz l k v c) (jM l k c)))):wpS P (Instr.mapUpdate t (.map (some b)) (f k) v) Q H U:=by
 simp only[Instr.mapUpdate,aG,eu,ko.hu,oK];refine⟨_,hb,rfl,?_⟩;simp only[aV,aG];refine JF ko (J0 ko ?_)
 cases hx:(l.findIdx? λe=>decide (e.1=k))with
 |none=>
  have hm:=(JZ l k).1 hx;simp only[Option.bind_none,tW];refine⟨_,hb,rfl,?_⟩;simp only[jz,jM,hm,Option.isSome_none,Bool.false_eq_true,if_false]at h;simpa[aV]using h
 |some j=>
  have hm:(dq l k).isSome=true:=by
   cases hq:dq l k with
   |none=>rw[(JZ l k).2 hq]at hx;cases hx
   |some _=>rfl
  have hj:j<l.length:=(List.findIdx?_eq_some_iff_findIdx_eq.1 hx).1
  have hk:(l[j]).1=k:=by have:=List.findIdx?_eq_some_iff_getElem.1 hx;obtain⟨_,h2,_⟩:=this;simpa using h2
  simp only[Option.bind_some,List.getElem?_eq_getElem hj,Option.map_some,aG,Instr.keyThatStays]
  have e1:((l.map λe=>(⟨f e.1,e.2.1,e.2.2⟩:MapEntry)).toArray[j]?.map (·.key)).getD (f k)=f k:=by simp[hj,hk]
  rw[e1];simp only[ko.refl,if_true,bt,tW];refine⟨_,hb,rfl,?_⟩;simp only[jz,jM,hm,if_true]at h
  have e2:((l.map λe=>(⟨f e.1,e.2.1,e.2.2⟩:MapEntry)).toArray.modify j λe=>{e with key:=f k,val:=v})=
   ((l.map λe=>if e.1=k then(k,v,e.2.2)else e).map λe=>(⟨f e.1,e.2.1,e.2.2⟩:MapEntry)).toArray:=by
   rw[<-akV l k v hu hx];apply Array.ext';simp only[Array.toList_modify];apply List.ext_getElem?;intro i;simp only[List.getElem?_modify,List.getElem?_map];by_cases Bs:j=i
   ·subst Bs;cases l[j]? <;>simp
   ·cases l[i]? <;>simp[Bs]
  rw[e2];exact h
def BO {m i v:Operand}(ko:mV P t f){b:Nat}(hu:jW l)(hm:ak I m=.map (some b))(hb:U.f b=some (aV f l c))(hi:ak I i=f k)
 (h:nx (aB I dst undef) ds (U.set b (aV f (jz l k (ak I v) c) (jM l k c)))):aU E ⟨dst,.mapUpdate t m i v,ty,pos,af,g⟩ I ds U nx pn:=by
 show wpOp E _ I ds U nx pn;unfold wpOp;simp only[execOp,Wq,hm,hi];exact UU ko hu hb h
def aif {m i v:Operand}(ko:mV P t f){b:Nat}(hu:jW l)(hm:ak I m=.map (some b))(hb:U.f b=some (aV f l c))(hi:ak I i=f k)
 (h:nx (aB I dst undef) ds (U.set b (aV f (jz l k (ak I v) c) (jM l k c)))):aU E ⟨dst,.insert t m i v,ty,pos,af,g⟩ I ds U nx pn:=by
 show wpOp E _ I ds U nx pn;unfold wpOp;simp only[execOp,Wq,hm,hi];exact UU ko hu hb h
def acL (l:List (α×Value×Nat))(k:α)(hu:jW l){j:Nat}(hj:(l.findIdx? λe=>decide (e.1=k))=some j):l.eraseIdx j=sx l k:=by
 unfold sx
 induction l generalizing j with
 |nil=>cases hj
 |cons e l ih=>
  simp only[jW,List.map_cons,List.nodup_cons]at hu;by_cases h:e.1=k
  ·have:j=0:=by simp[List.findIdx?_cons,h]at hj;exact hj.symm
   subst this;simp only[List.eraseIdx_cons_zero,List.filter_cons,h,ne_eq,not_true_eq_false,decide_false,Bool.false_eq_true,if_false]
   symm
   rw[List.filter_eq_self];intro a ha
   have:a.1≠k:=by intro e2;apply hu.1;rw[h,<-e2];exact List.mem_map_of_mem ha
   simp[this]
  ·simp only[List.findIdx?_cons,h,decide_false,Bool.false_eq_true,if_false]at hj;obtain⟨i,hi,rfl⟩:=Option.map_eq_some_iff.1 hj;simp only[List.eraseIdx_cons_succ,List.filter_cons,h,ne_eq,not_false_eq_true,decide_true,if_true];rw[ih hu.2 hi]
def acb (l:List (α×Value×Nat))(k:α)(h:dq l k=none):sx l k=l:=by unfold sx dq at*;rw[List.filter_eq_self];intro a ha;have:=List.find?_eq_none.1 h a ha;simpa using this
def CY {m i:Operand}{u:TypeId}(ko:mV P t f){b:Nat}(hu:jW l)(hm:ak I m=.map (some b))(hb:U.f b=some (aV f l c))(hi:ak I i=f k)
 (h:nx (aB I dst (.tuple #[])) ds (U.set b (aV f (sx l k) c))):aU E ⟨dst,.call ⟨.builtin .delete,#[m,i],#[t,u]⟩,ty,pos,af,g⟩ I ds U nx pn:=by
 show wpOp E _ I ds U nx pn;unfold wpOp;simp only[execOp,resolve,aG,bt,invoke];show wpS P (do pure (Next.value (<-Builtin.delete_ #[t,u] ty (#[m,i].map (ak I)))):Sem Next) _ _ _;rw[lN];have e1: #[m,i].map (ak I)= #[.map (some b),f k]:=by simp[hm,hi]
 rw[e1];simp only[Builtin.delete_,List.getElem?_toArray,List.getElem?_cons_zero,List.getElem?_cons_succ,aG,eu,ko.hu,oK];refine⟨_,hb,rfl,?_⟩;simp only[aV,aG];refine JF ko (J0 ko ?_)
 cases hx:(l.findIdx? λe=>decide (e.1=k))with
 |none=>
  simp only[Option.bind_none,aG,tW];refine⟨_,hb,rfl,?_⟩;rw[acb l k ((JZ l k).1 hx)]at h;exact h
 |some j=>
  have hj:j<l.length:=(List.findIdx?_eq_some_iff_findIdx_eq.1 hx).1;simp only[Option.bind_some,List.getElem?_eq_getElem hj,Option.map_some,aG,tW];refine⟨_,hb,rfl,?_⟩
  have e2:((l.map λe=>(⟨f e.1,e.2.1,e.2.2⟩:MapEntry)).toArray.eraseIdxIfInBounds j)=((sx l k).map λe=>(⟨f e.1,e.2.1,e.2.2⟩:MapEntry)).toArray:=by rw[<-acL l k hu hx];apply Array.ext';simp[List.eraseIdx_eq_take_drop_succ]
  rw[e2];exact h
def abq {m:Operand}{b:Nat}{d:TypeDesc}(ht:P.underlying t=some d)(hm:ak I m=.map (some b))(hb:U.f b=some (aV f l c))
 (h:nx (aB I dst (.tuple #[])) ds (U.set b (aV f [] c))):aU E ⟨dst,.call ⟨.builtin .clear,#[m],#[t]⟩,ty,pos,af,g⟩ I ds U nx pn:=by
 show wpOp E _ I ds U nx pn;unfold wpOp;simp only[execOp,resolve,aG,bt,invoke];show wpS P (do pure (Next.value (<-Builtin.clear_ #[t] ty (#[m].map (ak I)))):Sem Next) _ _ _;rw[lN];have e1: #[m].map (ak I)= #[.map (some b)]:=by simp[hm]
 rw[e1];simp only[Builtin.clear_,List.getElem?_toArray,List.getElem?_cons_zero,aG,eu,ht]
 cases d<;>(simp only[oK];refine⟨_,hb,rfl,?_⟩;simp only[aV,aG,tW];exact⟨_,hb,rfl,h⟩)
def HF {m:Operand}{b:Nat}(ko:mV P t f)(hm:ak I m=.map (some b))(hb:U.f b=some (aV f l c))
 (h:nx (aB I dst (.int .i64 l.length)) ds U):wpOp E ⟨dst,.call ⟨.builtin .len,#[m],#[t]⟩,ty,pos,af,g⟩ I ds U nx pn:=by
 unfold wpOp;simp only[execOp,resolve,aG,bt,invoke];show wpS P (do pure (Next.value (<-Builtin.len_ #[t] ty (#[m].map (ak I)))):Sem Next) _ _ _;rw[lN];have e1: #[m].map (ak I)= #[.map (some b)]:=by simp[hm]
 rw[e1];simp only[Builtin.len_,List.getElem?_toArray,List.getElem?_cons_zero,aG,eu,ko.hu,oK];refine⟨_,hb,rfl,?_⟩;simp only[aV,bt];show nx (aB I dst (goInt _)) ds U;simpa[goInt]using h
def Vc {m:Operand}{b:Nat}(ko:mV P t f)(hm:ak I m=.map (some b))(hb:U.f b=some (aV f l c))
 (h:∀it,U.f it=none->nx (aB I dst (pV it)) ds (U.set it (.mapIter (some b) c #[] c))):aU E ⟨dst,.range t m,ty,pos,af,g⟩ I ds U nx pn:=by
 show wpOp E _ I ds U nx pn;unfold wpOp;simp only[execOp,Instr.range,aG,eu,ko.hu,hm,oK];refine⟨_,hb,rfl,?_⟩;simp only[aV,bt,aG,yH];exact h
def Up {x:Operand}{it b:Nat}{seen:Array Nat}(hx:ak I x=pV it)(hi:U.f it=some (.mapIter (some b) c seen c))(hb:U.f b=some (aV f l c))(hold:∀e∈l,e.2.2<c)
 (h1:∀e∈l,e.2.2∉seen->nx (aB I dst (.tuple #[.bool true,f e.1,e.2.1])) ds (U.set it (.mapIter (some b) c (seen.push e.2.2) c)))
 (h2:(∀e∈l,e.2.2∈seen)->nx (aB I dst (.tuple #[.bool false])) ds U):aU E ⟨dst,.next x false,ty,pos,af,g⟩ I ds U nx pn:=by
 show wpOp E _ I ds U nx pn;unfold wpOp;simp only[execOp,Instr.next,aG,hx,oK];refine⟨_,hi,rfl,?_⟩;simp only[aG,oK];refine⟨_,hb,rfl,?_⟩;simp only[aV]
 have eH:(!seen.isEmpty&& !(l.map λe=>(⟨f e.1,e.2.1,e.2.2⟩:MapEntry)).toArray.isEmpty&&(l.map λe=>(⟨f e.1,e.2.1,e.2.2⟩:MapEntry)).toArray.all (λx=>decide (x.born>=c)))=false:=by
  cases l with
  |nil=>simp
  |cons e l=>
   have:=hold e al;simp;omega
 rw[eH];simp only[Bool.false_eq_true,if_false,aG,IH]
 have iX:((l.map λe=>(⟨f e.1,e.2.1,e.2.2⟩:MapEntry)).toArray.filter (λe=> !seen.contains e.born)).filter (λe=>decide (e.born>=c))= #[]:=by rw[Array.filter_eq_empty_iff];intro a ha;simp only[List.filter_toArray,List.mem_toArray,List.mem_filter,List.mem_map]at ha;obtain⟨⟨e,he,rfl⟩,_⟩:=ha;have:=hold e he;simp;omega
 have ag4:((l.map λe=>(⟨f e.1,e.2.1,e.2.2⟩:MapEntry)).toArray.filter (λe=> !seen.contains e.born)).filter (λe=>decide (e.born<c))=
  (((l.filter λe=> !seen.contains e.2.2)).map λe=>(⟨f e.1,e.2.1,e.2.2⟩:MapEntry)).toArray:=by
  apply Array.ext';simp only[List.filter_toArray,List.filter_map,List.filter_filter];simp only[Function.comp_def];congr 1;apply List.filter_congr;intro e he;have:=hold e he;simp[this]
 rw[iX,ag4];generalize Sv:l.filter (λe=> !seen.contains e.2.2)=left
 have qf:∀e∈left,e∈l/\e.2.2∉seen:=by intro e he;rw[<-Sv]at he;have:=List.mem_filter.1 he;exact⟨this.1,by simpa using this.2⟩
 cases left with
 |nil=>
  rw[if_pos (by simp[Question.forced])]
  have fE:nx (aB I dst (Value.tuple #[.bool false])) ds U:=h2 λe he=>by have:=List.filter_eq_nil_iff.1 Sv e he;simpa using this
  have e0:((if((([]:List (α×Value×Nat)).map λ(e:α×Value×Nat)=>(⟨f e.1,e.2.1,e.2.2⟩:MapEntry)).toArray.isEmpty=true)then(#[none]:Array (Option MapEntry))else#[])++
   ((([]:List (α×Value×Nat)).map λ(e:α×Value×Nat)=>(⟨f e.1,e.2.1,e.2.2⟩:MapEntry)).toArray++ #[]).map some)[0]? =some none:=al
  rw[e0];exact fE
 |cons e0 left=>
  have afF:(if((e0::left).map λ(e:α×Value×Nat)=>(⟨f e.1,e.2.1,e.2.2⟩:MapEntry)).toArray.isEmpty=true then(#[none]:Array (Option MapEntry))else#[])++
   (((e0::left).map λ(e:α×Value×Nat)=>(⟨f e.1,e.2.1,e.2.2⟩:MapEntry)).toArray++ #[]).map some=((e0::left).map λ(e:α×Value×Nat)=>some (⟨f e.1,e.2.1,e.2.2⟩:MapEntry)).toArray:=by
   simp
  rw[afF]
  have hgo:∀i,i<(e0::left).length->wpS P (match(((e0::left).map λ(e:α×Value×Nat)=>some (⟨f e.1,e.2.1,e.2.2⟩:MapEntry)).toArray)[i]? with
   |some (some e)=>do
    setObj it (.mapIter (some b) c (seen.push e.born) c)
    pure (Value.tuple #[.bool true,e.key,e.val])
   |some none=>pure (Value.tuple #[.bool false])
   |none=>stuck "Next: no such candidate")
   (λa U=>wpS P (pure (Next.value a))
    (pK (λv ae=>nx (aB I dst v) ds ae) (λd ae=>nx (aB I dst undef) (d::ds) ae) λf args ae=>
     ay E f args ae (yr (λv ae=>nx (aB I dst v) ds ae) pn))
    (sL λv ae=>pn [{v:=v,recovered:=false}] ae) U)
   (sL λv ae=>pn [{v:=v,recovered:=false}] ae) U:=by
   intro i bl
   have hc:(((e0::left).map λ(e:α×Value×Nat)=>some (⟨f e.1,e.2.1,e.2.2⟩:MapEntry)).toArray)[i]? =some (some ⟨f ((e0::left)[i]).1,((e0::left)[i]).2.1,((e0::left)[i]).2.2⟩):=by rw[List.getElem?_toArray,List.getElem?_map,List.getElem?_eq_getElem bl];rfl
   rw[hc];simp only[aG,tW];have hm:=qf _ (List.getElem_mem bl);exact⟨_,hi,rfl,h1 _ hm.1 hm.2⟩
  split
  ·exact hgo 0 al
  ·intro tt;refine hgo _ ?_;simp only[Question.cut,List.size_toArray,List.length_map];exact Nat.mod_lt _ al
end
def qI(p:Prop)(k:α->Prop):Option α->Prop
 |some a=>k a
 |none=>p
@[congr] theorem asO{k:α->Prop}{a a':Option α}(h:tick a=a'):qI p k a=qI p k a':=by subst h;rfl
def arx:kK k v=k v:=bp
def vU{k:α->Prop}{a:α}:qI p k (some a)=k a:=bp
def aom{i:Operand}:aU E ⟨dst,.indexAddr t x i,ty,pos,af,g⟩ I ds U nx pn=
 qI (aU E ⟨dst,.indexAddr t x i,ty,pos,af,g⟩ I ds U nx pn) (λz=>uY (wpOp E ⟨dst,.indexAddr t x i,ty,pos,af,g⟩ I ds U nx pn) z (λv=>nx (aB I dst v) ds U) (ak I i) (ak I x)) (iW P t):=by
 cases h:iW P t with
 |none=>rfl
 |some z=>rw[vU];exact anN h
def aoo(hs:qu P t=false):aU E ⟨dst,.slice t x lo hi none,ty,pos,af,g⟩ I ds U nx pn=
 qI (aU E ⟨dst,.slice t x lo hi none,ty,pos,af,g⟩ I ds U nx pn) (λz=>xt (wpOp E ⟨dst,.slice t x lo hi none,ty,pos,af,g⟩ I ds U nx pn) z (λv=>nx (aB I dst v) ds U) (lo.map (ak I)) (hi.map (ak I)) (ak I x)) (iW P t):=by
 cases h:iW P t with
 |none=>rfl
 |some z=>rw[vU];exact anX h
def aoj:aU E ⟨dst,.build t parts.toArray,ty,pos,af,g⟩ I ds U nx pn=
 qI (aU E ⟨dst,.build t parts.toArray,ty,pos,af,g⟩ I ds U nx pn) (λz=>qI (aU E ⟨dst,.build t parts.toArray,ty,pos,af,g⟩ I ds U nx pn) (λpl=>wX (λr=>nx (aB I dst (.agg r.toArray)) ds U) (qJ pl z.cells.toList (parts.map λp=>(p.1,ak I p.2)))) (jC P t)) (dv P t):=by
 cases hz:dv P t with
 |none=>rfl
 |some z=>
  rw[vU]
  cases hp:jC P t with
  |none=>rfl
  |some pl=>rw[vU];exact anG hz hp
def aok:aU E ⟨dst,.buildSlice t n parts.toArray,ty,pos,af,g⟩ I ds U nx pn=
 qI (aU E ⟨dst,.buildSlice t n parts.toArray,ty,pos,af,g⟩ I ds U nx pn) (λq=>wX (λr=>tK U λb=>nx (aB I dst (.slice (some ⟨b,0,none⟩) n n)) ds (U.set b (.cells r.toArray q.1))) (qJ q.2.1 q.2.2 (parts.map λp=>(p.1,ak I p.2)))) (kN P t n):=by
 cases h:kN P t n with
 |none=>rfl
 |some q=>obtain⟨e,pl,zs⟩:=q;rw[vU];exact anH h
def aoi:aU E ⟨dst,.alloc t,ty,pos,af,g⟩ I ds U nx pn=mP (λz=>tK U λb=>nx (aB I dst (pV b)) ds (U.set b (.cells z.cells t))) (dv P t):=anC
def aol{s:TypeId}:aU E ⟨dst,.convert s d x,ty,pos,af,g⟩ I ds U nx pn=
 qI (lH (wpOp E ⟨dst,.convert s d x,ty,pos,af,g⟩ I ds U nx pn) (λv=>nx (aB I dst v) ds U) (mw P s d (ak I x)))
  (λe=>Cb (aU E ⟨dst,.convert s d x,ty,pos,af,g⟩ I ds U nx pn) (λs=>A5 U e s λb pad ae=>nx (aB I dst (.slice (some ⟨b,0,none⟩) s.size (s.size+pad))) ds ae) (ak I x)) (lL P s d):=by
 cases h:lL P s d with
 |none=>exact anJ h
 |some e=>rw[vU];exact an0 h
def Gn{k:α->Prop}:qI p k none=p:=bp
def abU{s:TypeId}{j:IntKind}(h:(tF P s d).isSome=true):mw P s d (.int j a)=(tF P s d).map λk=>.int k (k.wrap a):=by
 obtain⟨k,hk⟩:=Option.isSome_iff_exists.1 h;rw[hk];unfold tF at hk;split at hk
 ·rename_i hs;exact abT hs hk
 ·cases hk
def akI{β:Type}{f:α->β}{a:α}:(some a).map f=some (f a):=bp
def aqN{a:TypeId}(h:iG P a=true)(aE:(u==a)=false):lJ P a (.iface u v)=(dv P a).map λz=>.tuple #[z,.bool false]:=by
 cases hz:dv P a with
 |none=>
  unfold iG at h;have aE:¬u=a:=aW aE;simp only[lJ]
  cases hu:P.underlying a with
  |none=>rw[hu]at h;cases h
  |some d=>rw[hu]at h;cases d<;>first|(simp at h;done)|simp[aE,hz]
 |some z=>exact aqM h hz aE
def aqL{a:TypeId}(h:iG P a=true):lJ P a .nilIface=(dv P a).map λz=>.tuple #[z,.bool false]:=by
 cases hz:dv P a with
 |none=>
  unfold iG at h;simp only[lJ]
  cases hu:P.underlying a with
  |none=>rw[hu]at h;cases h
  |some d=>rw[hu]at h;cases d<;>first|(simp at h;done)|simp[hz]
 |some z=>exact aqK h hz
def ajX{b:Nat}(h:dD P t=true):oD P t ⟨b,off,none⟩ U k=tL (cellsIn off (cD P t) k) (U.f b):=ajT h rfl
def aaU{c:List Value}{z:Nat×Nat}:cellsIn off n k (.cells c.toArray e z)=jr (off+n<=c.length) (k (.agg ((c.drop off).take n).toArray)):=by simp only[cellsIn,QH,jr,List.size_toArray];rw[show off+n-off=n by omega]
def akh(h:qu P t=true):oE P p k t (.string (B s))=k (.int .i64 s.length):=by rw[akc (Ff h),xm]
def akg{a:Option Addr}(h:(iW P t).isSome=true):oE P p k t (.slice a n c)=k (.int .i64 n):=by refine akb ?_;obtain⟨z,hz⟩:=Option.isSome_iff_exists.1 h;obtain⟨e,he,_⟩:=C1 hz;simp[he]
def aon:aU E ⟨dst,.call ⟨.builtin .len,#[x],#[t]⟩,ty,pos,af,g⟩ I ds U nx pn=
 oE P (wpOp E ⟨dst,.call ⟨.builtin .len,#[x],#[t]⟩,ty,pos,af,g⟩ I ds U nx pn) (λv=>nx (aB I dst v) ds U) t (ak I x):=anO rfl
def al9{a b:Addr}:ft P op t (.pointer (some a)) (.pointer (some b))=none:=by unfold ft;cases op<;>cases P.underlying t<;>first|rfl|(rename_i d;cases d<;>rfl)
def alE{a b:Option Addr}:nQ P op t x y (.pointer a) (.pointer b)=none:=by unfold nQ;cases op<;>cases P.underlying t<;>first|rfl|(rename_i d;cases d<;>rfl)
def aaS{c:List Value}{z:Nat×Nat}:oe off k (.cells c.toArray e z)=mP k c[off]? :=by simp[oe,V0]
def anu{c:List Value}{k:Obj->Prop}(h:dp v=true):
 yx P t off v k (.cells c.toArray e (0,0))=jr (off<c.length/\cD P t=1) (k (.cells (c.set off v).toArray e (0,0))):=by
 simp only[yx,h,if_true,jr,List.size_toArray,List.setIfInBounds_toArray];simp only[true_and,and_assoc]
def apd{k:IntKind}{n:Int}:dp (.int k n)=true:=bp
def ao9{b:Bool}:dp (.bool b)=true:=bp
def apj{b:ByteArray}:dp (.string b)=true:=bp
def aph{b:Option Addr}:dp (.pointer b)=true:=bp
def api{b:Option Addr}:dp (.slice b n c)=true:=bp
def ape{b:Option Nat}:dp (.map b)=true:=bp
def apa{b:Option Nat}:dp (.chan b)=true:=bp
def apc:dp (.iface t v)=true:=bp
def apg:dp .nilIface=true:=bp
def apb{f:Fn}{x y:Array Value}:dp (.func f x y)=true:=bp
def apf:dp .nilFunc=true:=bp
def ahY:Region.isConst (.const v)=true:=bp
def ahZ{t:Tmp}:Region.isConst (.tmp t)=false:=bp
def Gp(U:Hp)(e:TypeId)(l:List UInt8)(k:Nat->Nat->Hp->Prop):Prop:=∀b pad z,U.f b=none->k b pad (U.set b (.cells (dG l++List.replicate pad (Value.int .u8 0)).toArray e z))
variable {l:List UInt8}{k:Nat->Nat->Hp->Prop}
@[congr] theorem atf(_:tick 0=jA):Gp U e l k=Gp U e l k:=rfl
def adC:A5 U e (B l) k=Gp U e l k:=by
 have:∀pad:Nat,vL (B l)++Array.replicate pad (Value.int .u8 0)=(dG l++List.replicate pad (Value.int .u8 0)).toArray:=by intro pad;rw[PC];apply Array.ext';simp
 simp only[A5,Gp,this]
def aal{r:List Value}(h:i<l.length):(dG l++r)[i]? =some (.int .u8 (pR l i)):=by rw[List.getElem?_append_left (by simpa[dG]using h)];simp only[dG,List.getElem?_map,List.getElem?_eq_getElem h,Option.map_some,pR,List.getD_eq_getElem?_getD,Option.getD_some]
def ac0{b x:Nat}(hb:U.f b=none)(hx:(U.f x).isSome=true):(U.set b o).f x=U.f x:=by refine Hp.aO o ?_;intro e;subst e;rw[hb]at hx;cases hx
def ap6{args:List Value}{t:Nat}:nV args.toArray n t=(args[t]?).getD undef:=by simp[nV]
def PH{J:Hp}(hg:ck P f=true)(h:ay E f args U λe ae=>e=.returned v/\ae=J)(k:nx (aB I dst v) ds J):kx E f args U dst I ds nx pn:=
 Gc hg (h.mono λe ae ⟨h1,h2⟩=>by subst h1;subst h2;exact k)
def dH(hg:ck P f=true)(h:ay E f args U R)(k:∀v ae,R (.returned v) ae->nx (aB I dst v) ds ae)(kp:∀ch ae,R (.panicked ch) ae->pn ch ae):kx E f args U dst I ds nx pn:=
 Gc hg (h.mono λe ae h=>match e,h with
  | .returned v,h=>k v ae h
  | .panicked ch,h=>kp ch ae h)
def aT{J:Hp}(h:ay E f args U λe ae=>e=.returned v/\ae=J)(k:nx (aB I dst v) ds J)(hg:ck P f=true:=by kernel_rfl):kx E f args U dst I ds nx pn:=PH hg h k
def aK(h:ay E f args U R)(k:∀v ae,R (.returned v) ae->nx (aB I dst v) ds ae)(hg:ck P f=true:=by kernel_rfl)(kp:∀ch ae,R (.panicked ch) ae->pn ch ae:=by rintro ch ae h;first|(obtain⟨h,_⟩:=h;cases h;done)|(obtain⟨_,h,_⟩:=h;cases h;done)|(obtain⟨_,_,h,_⟩:=h;cases h;done)|(obtain⟨_,_,_,h,_⟩:=h;cases h;done)|(obtain⟨_,_,_,_,h,_⟩:=h;cases h;done)|(obtain⟨⟨_,_,h⟩,_⟩:=h;cases h;done)|(obtain⟨_,h⟩:=h;cases h;done)|(cases h;done)|(obtain⟨_,_,h⟩:=h;cases h;done)):kx E f args U dst I ds nx pn:=dH hg h k kp
attribute [go_sem] V0 arN arL arM anT anD anW anF anP anZ anU anL anE an3 anR anQ anS anK anI anV an2 anM anY
 aom aoo aoj aok aoi aol aon
attribute [go_sem] aa9 amG ane ana anm aly alx arx aq5 amJ amI adQ adN adP adO aa8 ajb aja amH vU Gn akw ao8 ani adC
 ajc aaf ap4 aqu akm akn agk agl akh akg
attribute [go_sem] bv_add aad ZZ Z5 Z6 ZS Z0 ZY ZX ZU ZT Z9 aaa Z3 bv_and aae Px Z7 aac aab Z8 Z4 ZR Z2 Z1 ZW ZV
 al8 al7 al6 alK alJ alI al2 alF al4 al5 alG alH al9 alE al3 alC alD arw arv abU abV akI aqO aqN aqL
attribute [go_sem] aaF aaD aaG aaC aaE aaB aaz aaA aqA aqz aqC aqB YR YT YS YP YQ
attribute [go_sem] aru art acV acS acT acU anw anv amf ame ap6 UE aaS aaU ajU ajX Jj ap5 anu ant
 apd ao9 apj aph api ape apa apc apg apb apf Hp.bD ac0 Hp.set_set
 aaZ aaW aa5 aa3 aa4 aa0 aaY aa2 aaX aa1 JC qJ xe akT akU xm
attribute [go_sem] List.getElem?_cons_zero List.getElem?_cons_succ List.length_cons List.length_nil List.set_cons_zero List.set_cons_succ List.length_set List.map_cons List.map_nil List.map_toArray Array.getElem?_toList List.getElem?_toArray List.drop_zero List.drop_succ_cons List.take_zero List.take_succ_cons List.drop_nil List.take_nil
 List.nil_append List.cons_append List.append_nil List.size_toArray List.append_toArray
 if_true if_false decide_true decide_false Option.map_none Option.map_some Option.getD_some Option.getD_none Option.isSome_some Int.toNat_zero Nat.mul_one Nat.one_mul Nat.add_zero Nat.zero_add Int.le_refl true_and and_true and_self not_true_eq_false not_false_eq_true Int.toNat_natCast List.all_cons List.all_nil Bool.and_true Bool.and_self eq_self ne_eq Bool.not_true Bool.not_false ahY ahZ Bool.or_true Bool.true_or Bool.or_false Bool.false_or
def IN(N:Nat)(I:av):Option Oper->Option Bool
 |some o=>match o.dst with
  |some d=>if d<N then CJ (I d)else none
  |none=>none
 |none=>none
def ase{j:Nat}:gX N ops I j=IN N I (ops[j]?):=by
 unfold gX IN
 cases ops[j]? <;>rfl
def asc{d:Tmp}{op:Op}:IN N I (some ⟨some d,op,ty,pos,af,g⟩)=cond (decide (d<N)) (CJ (I d)) none:=by simp[IN]
def ZL{b:Bool}:CJ (.bool b)=some b:=bp
def abG{a b:Option Bool}:cond true a b=a:=bp
attribute [go_sem] ase asc ZL abG
end Go.Qw
