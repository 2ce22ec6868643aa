/- 2 -/
import Derived.Orders
import Derived.KernelRfl
import Derived.Attr
import Derived.Test.YtpiabknabfbfhaaGreatDoorKept01
set_option linter.all false
set_option maxRecDepth 100000
set_option maxHeartbeats 8000000
namespace Go.Qw
open Go Go.Conc
def jg(P:Program)(t:TypeId)(a:Addr)(U:Hp):Option Value:=
 if dC P t then(cellsOf U a (cC P t)).map .agg else U.cell? a
def cU(P:Program)(op:Op)(I:av)(U:Hp):Option Value:=
 match op with
 | .move x| .assign x=>some (ak I x)
 | .pick c a b=>match ak I c with
   | .bool true=>some (ak I a)
   | .bool false=>some (ak I b)
   |_=>none
 | .load t x=>match ak I x with
   | .pointer (some a)=>if dq P t then jg P t a U else none
   |_=>none
 | .nilCheck x=>match ak I x with
   | .pointer (some a)=>some (.pointer (some a))
   | .func (.func f) l c=>some (.func (.func f) l c)
   |_=>none
 | .fieldAddr s x f=>match ak I x,bL P s f with
   | .pointer (some a),some off=>some (.pointer (some (a.add off)))
   |_,_=>none
 | .binOp op t x y _=>match cK op (ak I x) (ak I y)with
   |some v=>some v
   |none=>match fi P op t (ak I x) (ak I y)with
    |some v=>some v
    |none=>nO P op t x y (ak I x) (ak I y)
 | .unOp op _ x=>vr op (ak I x)
 | .convert src dst x=>mA P src dst (ak I x)
 | .makeInterface t x=>match P.underlying t with
   |some (.interface _)=>none
   |some _=>some (.iface t (ak I x))
   |none=>none
 | .makeFunc fn l c=>some (.func fn (l.map (ak I)) (c.map (ak I)))
 | .extract x i=>match ak I x with
   | .tuple vs=>vs[i]?
   |_=>none
 | .indexAddr t x i=>match tJ P t,ak I x,ak I i with
   |some e,.slice (some a) n _,.int _ k=>if 0<=k/\k<n/\(P.info? e).isSome=true then some (.pointer (some (a.add (k.toNat*cC P e))))else none
   |_,_,_=>none
 | .index t x i=>match P.underlying t,ak I x,ak I i with
   |some .string,.string s,.int _ k=>if h:0<=k/\k.toNat<s.size then some (.int .u8 (s[k.toNat]'h.2).toNat)else none
   |_,_,_=>none
 | .slice t x lo hi none=>match P.underlying t,ak I x with
   |some .string,.string s=>match nT (lo.map (ak I)),jQ s.size (hi.map (ak I))with
    |some l,some h=>if 0<=l/\l<=h/\h<=s.size then some (.string (s.extract l.toNat h.toNat))else none
    |_,_=>none
   |some (.slice e),.slice a n c=>match nT (lo.map (ak I)),jQ n (hi.map (ak I))with
    |some l,some h=>if 0<=l/\l<=h/\h<=c/\(P.info? e).isSome=true then
     some (.slice (if c=l.toNat then a else a.map (·.add (l.toNat*cC P e))) (h.toNat-l.toNat) (c-l.toNat))else none
    |_,_=>none
   |_,_=>none
 | .call ⟨.builtin .len,as,cA⟩=>match cA[0]?,(as.map (ak I))[0]? with
   |some t,some x=>if xY P t x then xZ x else none
   |_,_=>none
 |_=>none
variable {P:Program}{U:Hp}{v:Value}
def uS{t:TypeId}{a:Addr}{k:Value->Prop}(h:jg P t a U=some v)(hk:k v):oD P t a U k:=by
 unfold jg at h;unfold oD;split
 ·rename_i hc;rw[if_pos hc]at h;obtain⟨cs,h1,rfl⟩:=Option.map_eq_some_iff.1 h;rw[h1];exact hk
 ·rename_i hc;rw[if_neg hc]at h;rw[h];exact hk
variable {I:av}{ds:List Deferred}{nx:av->List Deferred->Hp->Prop}{pn:List PanicEntry->Hp->Prop}{E:Env P}{o:Oper}
def MI(h:cU P o.op I U=some v)(k:nx (aC I o.dst v) ds U):aT E o I ds U nx pn:=by
 obtain⟨dst,op,type,pos,after,guard⟩:=o;unfold cU at h;simp only at h k;split at h
 case h_1=>obtain rfl:=Option.some.inj h;exact k
 case h_2=>obtain rfl:=Option.some.inj h;exact k
 case h_3=>
  simp only[aT];split at h<;>first|(cases h;done)|(rename_i hc;obtain rfl:=Option.some.inj h;rw[hc];exact k)
 case h_4=>
  simp only[aT];split at h
  ·rename_i a hx;split at h
   ·rename_i ht;rw[hx];exact⟨ht,uS h k⟩
   ·cases h
  ·cases h
 case h_5=>
  simp only[aT];split at h<;>first|(cases h;done)|(rename_i hc;obtain rfl:=Option.some.inj h;rw[hc];exact k)
 case h_6=>
  simp only[aT];split at h
  ·rename_i a off hx hf;obtain rfl:=Option.some.inj h;rw[hx,hf];exact k
  ·cases h
 case h_7 op t x y u=>
  simp only[aT];split at h
  ·rename_i v' hb;obtain rfl:=Option.some.inj h;rw[hb];exact k
  ·rename_i hb;rw[hb];split at h
   ·rename_i v' hv;obtain rfl:=Option.some.inj h;rw[hv];exact k
   ·rename_i hv;rw[hv,h];exact k
 case h_8=>simp only[aT];rw[h];exact k
 case h_9=>simp only[aT];rw[h];exact k
 case h_10 t x=>
  simp only[aT]
  cases hu:P.underlying t with
  |none=>rw[hu]at h;cases h
  |some d=>
   rw[hu]at h
   cases d<;>first|(cases h;done)|(obtain rfl:=Option.some.inj h;exact k)
 case h_11=>obtain rfl:=Option.some.inj h;exact k
 case h_12=>
  simp only[aT];split at h
  ·rename_i vs hx;rw[hx];simp only;rw[h];exact k
  ·cases h
 case h_13=>
  simp only[aT];split at h
  ·rename_i e a n c kk i hs hx hi;split at h
   ·rename_i hc;obtain rfl:=Option.some.inj h;rw[hs,hx,hi];exact⟨hc,k⟩
   ·cases h
  ·cases h
 case h_14=>
  simp only[aT];split at h
  ·rename_i s kk i hu hx hi;split at h
   ·rename_i hc;obtain rfl:=Option.some.inj h;rw[hu,hx,hi];exact⟨hc,k⟩
   ·cases h
  ·cases h
 case h_15=>
  simp only[aT];split at h
  ·rename_i s hu hx;rw[hu,hx];simp only;split at h
   ·rename_i l hh h1 h2;split at h
    ·rename_i hc;obtain rfl:=Option.some.inj h;rw[h1,h2];exact⟨hc,k⟩
    ·cases h
   ·cases h
  ·rename_i e a n c hu hx;rw[hu,hx];simp only;split at h
   ·rename_i l hh h1 h2;split at h
    ·rename_i hc;obtain rfl:=Option.some.inj h;rw[h1,h2];exact⟨hc,k⟩
    ·cases h
   ·cases h
  ·cases h
 case h_16=>
  simp only[aT];split at h
  ·rename_i t x ht hx;split at h
   ·rename_i hl;rw[ht,hx];simp only;rw[hl,h];exact k
   ·cases h
  ·cases h
 case h_17=>cases h
def cW:Op->Bool
 | .move _| .assign _| .pick .. | .load .. | .nilCheck _| .fieldAddr .. | .binOp .. | .unOp .. | .convert .. | .makeInterface .. | .makeFunc .. | .extract .. | .indexAddr .. | .index .. =>true
 | .slice _ _ _ _ none=>true
 | .call ⟨.builtin .len,_,cA⟩=>cA != #[273]
 |_=>false
def Dp:Op->Bool
 | .load .. =>true
 |_=>false
def Ml:Op->Bool
 | .select .. =>false
 |_=>true
def vB(ops:Array Oper):Nat->Nat->Nat->Bool
 |0,_,_=>false
 |f+1,i,j=>match ops[i]? with
  |some o=>o.after.toList.any λe=>Region.binds .any e&&(e.on==j||vB ops f e.on j)
  |none=>false
def fe(ops:Array Oper)(i j:Nat):Bool:=vB ops ops.size i j
def gz(ops:Array Oper)(i:Nat):Option Tmp:=(ops[i]?).bind (·.dst)
def tmpsOf(xs:List Operand):List Tmp:=xs.filterMap λ| .tmp t=>some t|_=>none
def slotsOf(ops:Array Oper)(o:Oper):List Tmp:=tmpsOf o.op.operands.toList++(match o.guard with|some (j,_)=>(gz ops j).toList|none=>[])
def oI(ops:Array Oper)(i:Nat):Bool:=match ops[i]? with|some o=>cW o.op|none=>true
def HJ(ops:Array Oper):List Nat->Bool
 |[]=>true
 |i::r=>r.all (λj=> !(i==j)&& !fe ops i j&&(oI ops i||fe ops j i))&&HJ ops r
def Mw(ops:Array Oper)(i:Nat):Bool:=match ops[i]? with
 |some o=>(cW o.op||Ml o.op)&&o.after.toList.all (λe=>decide (e.on<ops.size))&&
  (List.range ops.size).all λj=>i==j||((match o.dst with|some d=> !(gz ops j==some d)|none=>true)&&
   (match gz ops j with|some d=> !(slotsOf ops o).contains d||fe ops i j||fe ops j i|none=>true))
 |none=>false
def sN(ops:Array Oper)(l:List Nat):Bool:=(List.range ops.size).all (λi=>l.contains i)&&l.all (λi=>decide (i<ops.size))&&HJ ops l&&(List.range ops.size).all (Mw ops)&&(List.range ops.size).all λi=> !fe ops i i
section
variable {I:av}{ds:List Deferred}{U:Hp}{pn:List PanicEntry->Hp->Prop}
variable {P:Program}(E:Env P)
def pr (ops:Array Oper)(i:Nat)(U:Hp):List (Nat×av×Value)->Prop
 |[]=>True
 |(j,I,v)::r=>(match ops[j]? with
  |some o=>if Dp o.op&& !fe ops i j then cU P o.op I U=some v else True
  |none=>True)/\pr ops i U r
def gq (N:Nat)(ops:Array Oper)(Q:Post)(pn:List PanicEntry->List Deferred->Hp->Prop):List Nat->List (Nat×av×Value)->av->List Deferred->Hp->Prop
 |[],_,I,ds,U=>Q .normal I ds U
 |i::rest,cI,I,ds,U=>match ops[i]? with
  |none=>False
  |some o=>pC N o.dst=true/\
   if cW o.op then
    if Region.wanted o (hU N ops I)then match cU P o.op I U with
     |some v=>gq N ops Q pn rest ((i,I,v)::cI) (aC I o.dst v) ds U
     |none=>False
    else gq N ops Q pn rest cI (aC I o.dst undef) ds U
   else if Region.wanted o (hU N ops I)then aT E o I ds U (λaz da ae=>pr (P:=P) ops i ae cI/\gq N ops Q pn rest cI az da ae) (λch ae=>pn ch ds ae)
   else gq N ops Q pn rest cI (aC I o.dst undef) ds U
def mv (N:Nat)(ops:Array Oper)(Q:Post)(i:Nat)(K:av->List Deferred->Hp->Prop)(I:av)(ds:List Deferred)(U:Hp):Prop:=
 match ops[i]? with
 |none=>False
 |some o=>pC N o.dst=true/\
  if Region.wanted o (hU N ops I)then(if cW o.op then∃v,cU P o.op I U=some v/\K (aC I o.dst v) ds U else wpOp E o I ds U K (λch ae=>Q (.panic ch) I ds ae))else K (aC I o.dst undef) ds U
def mR (N:Nat)(ops:Array Oper)(Q:Post):List Nat->av->List Deferred->Hp->Prop
 |[],I,ds,U=>Q .normal I ds U
 |i::rest,I,ds,U=>mv E N ops Q i (mR N ops Q rest) I ds U
def tL (N:Nat)(ops:Array Oper)(Q:Post):Nat->Array Bool->av->List Deferred->Hp->Prop
 |0,listed,I,ds,U=>Region.ready .any ops listed=[]/\Q .normal I ds U
 |fuel+1,listed,I,ds,U=>(Region.ready .any ops listed=[]->Q .normal I ds U)/\
  ∀i∈Region.ready .any ops listed,mv E N ops Q i (tL N ops Q fuel (listed.setIfInBounds i true)) I ds U
end
def pI.mono{V V':Value->Hp->Prop}{D D':Deferred->Hp->Prop}{C C':FuncId->Array Value->Hp->Prop}(hv:∀v U,V v U->V' v U)(hd:∀v U,D v U->D' v U)(hc:∀f a U,C f a U->C' f a U):
 ∀n U,pI V D C n U->pI V' D' C' n U:=by
 intro n U h
 cases n<;>first|exact hv _ _ h|exact hd _ _ h|exact hc _ _ _ h|exact h.elim
variable {az:av}
def VR{TW:av->List Deferred->Hp->Prop}{p p':List PanicEntry->Hp->Prop}(he:execOp (ak I) o=execOp (ak az) o)(hn:∀v ds U,nx (aC I o.dst v) ds U->TW (aC az o.dst v) ds U)(hp:∀ch U,p ch U->p' ch U)(h:wpOp E o I ds U nx p):wpOp E o az ds U TW p':=by
 unfold wpOp at h|-;rw[<-he];refine NA (pI.mono (λv U h=>hn _ _ _ h) (λd U h=>hn _ _ _ h) (λf a U h=>h.mono λe ae hh=>?_)) (λx U hh=>?_) _ _ h
 ·cases x<;>first|exact hp _ _ hh|exact hh
 ·cases e with
  |returned v=>exact hn _ _ _ hh
  |panicked ch=>exact hp _ _ hh
variable {N:Nat}{ops:Array Oper}{Q:Post}{i:Nat}
def E6{K K':av->List Deferred->Hp->Prop}(hk:∀I ds U,K I ds U->K' I ds U)(h:mv E N ops Q i K I ds U):mv E N ops Q i K' I ds U:=by
 unfold mv at h|-
 cases ho:ops[i]? with
 |none=>rw[ho]at h;exact h.elim
 |some o=>
  rw[ho]at h;refine⟨h.1,?_⟩;have h2:=h.2;split
  ·rename_i hw;rw[if_pos hw]at h2;split
   ·rename_i hr;rw[if_pos hr]at h2;obtain⟨v,h3,h4⟩:=h2;exact⟨v,h3,hk _ _ _ h4⟩
   ·rename_i hr;rw[if_neg hr]at h2;exact VR rfl (λv ds U x=>hk _ _ _ x) (λ_ _ x=>x) h2
  ·rename_i hw;rw[if_neg hw]at h2;exact hk _ _ _ h2
def VP:∀(fuel t:Nat) (listed:Array Bool) (I:av) (ds:List Deferred) (U:Hp),tL E N ops Q fuel listed I ds U->mR E N ops Q (Region.linearise.go .any ops fuel t listed []) I ds U:=by
 intro fuel
 induction fuel with
 |zero=>intro t listed I ds U h;simpa[Region.linearise.go,mR]using h.2
 |succ fuel ih=>
  intro t listed I ds U h;obtain⟨ahd,Lt⟩:=h;simp only[Region.linearise.go]
  change mR E N ops Q (match(Region.ready .any ops listed)[t %(Region.ready .any ops listed).length]? with
   |some i=>Region.linearise.go .any ops fuel (t/(Region.ready .any ops listed).length) (listed.setIfInBounds i true) [i]
   |none=>[].reverse) I ds U
  cases hi:(Region.ready .any ops listed)[t %(Region.ready .any ops listed).length]? with
  |none=>
   have mI:Region.ready .any ops listed=[]:=by
    cases hr:Region.ready .any ops listed with
    |nil=>rfl
    |cons x xs=>
     rw[hr]at hi;have bd:t %(x::xs).length<(x::xs).length:=Nat.mod_lt _ al;simp at hi;simp at bd;omega
   simpa[mR]using ahd mI
  |some i=>
   simp only[];rw[linearise_go_acc,List.reverse_singleton,List.singleton_append];exact E6 (λI ds U=>ih _ _ I ds U) (Lt i (List.mem_of_getElem? hi))
variable {op:Op}
def an5(h:∀x∈op.operands,ak I x=ak az x):cU P op I U=cU P op az U:=by
 cases op<;>first|rfl|skip
 case move x=>simp only[cU];rw[h x (by simp[Op.operands])]
 case assign x=>simp only[cU];rw[h x (by simp[Op.operands])]
 case pick c a b=>simp only[cU];rw[h c (by simp[Op.operands]),h a (by simp[Op.operands]),h b (by simp[Op.operands])]
 case load t x=>simp only[cU];rw[h x (by simp[Op.operands])]
 case nilCheck x=>simp only[cU];rw[h x (by simp[Op.operands])]
 case binOp o t x y u=>simp only[cU];rw[h x (by simp[Op.operands]),h y (by simp[Op.operands])]
 case unOp o t x=>simp only[cU];rw[h x (by simp[Op.operands])]
 case convert s d x=>simp only[cU];rw[h x (by simp[Op.operands])]
 case makeInterface t x=>simp only[cU];rw[h x (by simp[Op.operands])]
 case fieldAddr t x f=>simp only[cU];rw[h x (by simp[Op.operands])]
 case extract x i=>simp only[cU];rw[h x (by simp[Op.operands])]
 case indexAddr t x i=>simp only[cU];rw[h x (by simp[Op.operands]),h i (by simp[Op.operands])]
 case index t x i=>simp only[cU];rw[h x (by simp[Op.operands]),h i (by simp[Op.operands])]
 case makeFunc fn l c=>
  have e:∀(zs:Array Operand),(∀x∈zs,x∈(Op.makeFunc fn l c).operands)->zs.map (ak I)=zs.map (ak az):=λzs hz=>
   Array.map_congr_left λx hx=>h x (hz x hx)
  simp only[cU];rw[e l (by simp[Op.operands];exactλx hx=>.inl hx),e c (by simp[Op.operands];exactλx hx=>.inr hx)]
 case slice t x lo hi mx=>
  cases mx with
  |some m=>rfl
  |none=>
   have e:∀(z:Option Operand),(∀u∈z,u∈(Op.slice t x lo hi none).operands)->z.map (ak I)=z.map (ak az):=λz hz=>by
    cases z with
    |none=>rfl
    |some y=>simp only[Option.map_some];rw[h y (hz y rfl)]
   simp only[cU];rw[h x (by simp[Op.operands]),e lo (by intro y hy;cases hy;simp[Op.operands]),e hi (by intro y hy;cases hy;simp[Op.operands])]
 case call c=>
  obtain⟨callee,args,cA⟩:=c
  cases callee with
  |value f=>rfl
  |invoke r m=>rfl
  |builtin b=>
   cases b<;>first|rfl|skip
   have e:args.map (ak I)=args.map (ak az):=Array.map_congr_left λx hx=>h x (by simp[Op.operands,Call.operands];exact hx);simp only[cU];rw[e]
def an6{ae:Hp}(h:Dp op=false):cU P op I U=cU P op I ae:=by
 cases op<;>first|rfl|(cases h;done)|skip
 case slice t x lo hi mx=>cases mx<;>rfl
 case call c=>
  obtain⟨callee,args,cA⟩:=c
  cases callee with
  |value f=>rfl
  |invoke r m=>rfl
  |builtin b=>cases b<;>rfl
open Classical in
noncomputable def sl(ops:Array Oper)(eY:av)(vals:Nat->Option Value)(t:Nat):Value:=
 if h:∃v i,gz ops i=some t/\vals i=some v then h.choose else eY t
structure Good (ops:Array Oper) (l:List Nat):Prop where
 all:∀i,i<ops.size->i∈l
 lt:∀i∈l,i<ops.size
 pw:l.Pairwise λi j=>i≠j/\fe ops i j=false/\(oI ops i=true\/fe ops j i=true)
 op:∀i,i<ops.size->Mw ops i=true
 zH:∀i,i<ops.size->fe ops i i=false
def Ur:∀{l:List Nat},HJ ops l=true->l.Pairwise λi j=>i≠j/\fe ops i j=false/\(oI ops i=true\/fe ops j i=true)
 |[],_=>.nil
 |i::r,h=>by simp only[HJ,Bool.and_eq_true,List.all_eq_true,Bool.not_eq_true',Bool.or_eq_true,beq_eq_false_iff_ne]at h;exact .cons (λj hj=>⟨(h.1 j hj).1.1,(h.1 j hj).1.2,(h.1 j hj).2⟩) (Ur h.2)
variable {l:List Nat}
def QR(h:sN ops l=true):Good ops l:=by simp only[sN,Bool.and_eq_true,List.all_eq_true,List.contains_eq_mem,List.mem_range,Bool.not_eq_true',decide_eq_true_eq]at h;obtain⟨⟨⟨⟨h1,h2⟩,h3⟩,h4⟩,h5⟩:=h;exact⟨h1,h2,Ur h3,h4,h5⟩
structure Ws (ops:Array Oper) (i:Nat) (o:Oper):Prop where
 wr:cW o.op=true\/Ml o.op=true
 on:∀e∈o.after,e.on<ops.size
 dst:∀j d,j<ops.size->j≠i->o.dst=some d->gz ops j≠some d
 apa:∀j d,j<ops.size->j≠i->gz ops j=some d->d∈slotsOf ops o->fe ops i j=true\/fe ops j i=true
def Good.EO(h:Good ops l)(ho:ops[i]? =some o):Ws ops i o:=by
 have hi:i<ops.size:=(Array.getElem?_eq_some_iff.1 ho).1;have hc:=h.op i hi;simp only[Mw,ho,Bool.and_eq_true,Bool.or_eq_true,List.all_eq_true,List.mem_range,beq_iff_eq,decide_eq_true_eq]at hc;obtain⟨⟨h1,h2⟩,h3⟩:=hc;refine⟨h1,λe he=>h2 e (aY he),λj d hj aE hd=>?_,λj d hj aE hd hs=>?_⟩
 ·rcases h3 j hj with e|⟨h4,_⟩
  ·exact absurd e.symm aE
  ·rw[hd]at h4;simpa using h4
 ·rcases h3 j hj with e|⟨_,h5⟩
  ·exact absurd e.symm aE
  ·rw[hd]at h5;simp only[Bool.or_eq_true,Bool.not_eq_true',List.contains_eq_mem,decide_eq_false_iff_not]at h5;rcases h5 with(h5|h5)|h5
   ·exact absurd hs h5
   ·exact .inl h5
   ·exact .inr h5
def P1{d:Tmp}(h:gz ops i=some d):i<ops.size:=by unfold gz at h;obtain⟨o,ho,_⟩:=Option.bind_eq_some_iff.1 h;exact(Array.getElem?_eq_some_iff.1 ho).1
variable {j:Nat}
def Good.uniq(h:Good ops l){d:Tmp}(hi:gz ops i=some d)(hj:gz ops j=some d):i=j:=by obtain⟨o,ho,hd⟩:=Option.bind_eq_some_iff.1 hi;exact Classical.byContradiction λaE=>(h.EO ho).dst j d (P1 hj) (λe=>aE e.symm) hd hj
variable {eY:av}{vals:Nat->Option Value}{gQ:List Nat}{t:Nat}
def E4(G:Good ops gQ)(hd:gz ops i=some t)(hv:vals i=some v):sl ops eY vals t=v:=by unfold sl;have h:∃v i,gz ops i=some t/\vals i=some v:=⟨v,i,hd,hv⟩;rw[dif_pos h];obtain⟨j,hj,hjv⟩:=h.choose_spec;obtain rfl:=G.uniq hd hj;exact Option.some.inj (hjv.symm.trans hv)
def vn(h:∀i,gz ops i=some t->vals i=none):sl ops eY vals t=eY t:=by unfold sl;rw[dif_neg];rintro⟨v,i,hd,hv⟩;rw[h i hd]at hv;cases hv
def lh(vals:Nat->Option Value)(i:Nat)(v:Value):Nat->Option Value:=λj=>if j=i then some v else vals j
def MZ(G:Good ops gQ)(ho:ops[i]? =some o)(v:Value):aC (sl ops eY vals) o.dst v=sl ops eY (lh vals i v):=by
 have RH:gz ops i=o.dst:=by simp[gz,ho]
 funext t
 by_cases hi:gz ops i=some t
 ·rw[E4 G hi (show lh vals i v i=some v by simp[lh])];rw[RH]at hi;rw[hi];simp[aC,up]
 ·have hl:aC (sl ops eY vals) o.dst v t=sl ops eY vals t:=by
   cases hd:o.dst with
   |none=>rfl
   |some d=>
    have:t≠d:=λe=>hi (by rw[RH,hd,e]);simp[aC,up,this]
  rw[hl];by_cases hx:∃w j,gz ops j=some t/\vals j=some w
  ·obtain⟨w,j,hj,hw⟩:=hx;have aE:j≠i:=λe=>hi (e▸hj);rw[E4 G hj hw,E4 G hj (show lh vals i v j=some w by simp[lh,aE,hw])]
  ·rw[vn (λj hj=>by cases hw:vals j with|none=>rfl|some w=>exact absurd ⟨w,j,hj,hw⟩ hx)]
   rw[vn (λj hj=>by
    have aE:j≠i:=λe=>hi (e▸hj)
    simp only[lh,aE,if_false]
    cases hw:vals j with
    |none=>rfl
    |some w=>exact absurd ⟨w,j,hj,hw⟩ hx)]
def E3(G:Good ops gQ)(ho:ops[i]? =some o){lT:Nat->Option Value}(oA:vals i=lT i)(ha:∀j,fe ops i j=true->vals j=lT j)(hb:∀j,fe ops j i=true->vals j=lT j):
 ∀t∈slotsOf ops o,sl ops eY vals t=sl ops eY lT t:=by
 intro t ht;by_cases hx:∃j,gz ops j=some t
 ·obtain⟨j,hj⟩:=hx
  have e:vals j=lT j:=by
   by_cases Bm:j=i
   ·subst Bm;exact oA
   ·rcases(G.EO ho).apa j t (P1 hj) Bm hj ht with h|h
    ·exact ha j h
    ·exact hb j h
  cases hv:vals j with
  |some v=>rw[E4 G hj hv,E4 G hj (e▸hv)]
  |none=>
   rw[vn (λk hk=>by rw[G.uniq hk hj];exact hv),vn (λk hk=>by rw[G.uniq hk hj,<-e];exact hv)]
 ·rw[vn (λj hj=>absurd ⟨j,hj⟩ hx),vn (λj hj=>absurd ⟨j,hj⟩ hx)]
def Qg(h:∀t∈slotsOf ops o,I t=az t):∀x∈o.op.operands,ak I x=ak az x:=by
 intro x hx
 cases x<;>first|rfl|skip
 rename_i t;exact h t (List.mem_append.2 (.inl (List.mem_filterMap.2 ⟨.tmp t,aY hx,rfl⟩)))
def Nw(h:∀t∈slotsOf ops o,I t=az t):Region.wanted o (hU N ops I)=Region.wanted o (hU N ops az):=by
 unfold Region.wanted
 cases hg:o.guard with
 |none=>rfl
 |some p=>
  obtain⟨j,b⟩:=p;simp only
  have:hU N ops I j=hU N ops az j:=by
   unfold hU
   cases hd:(ops[j]?).bind (·.dst)with
   |none=>rfl
   |some d=>
    simp only;rw[h d (List.mem_append.2 (.inr (by rw[hg];simp[gz,hd])))]
  rw[this]
def aca(hs:Ml o.op=true)(h:∀t∈slotsOf ops o,I t=az t):execOp (ak I) o=execOp (ak az) o:=
 execOp_congr o (λcs b e=>by rw[e]at hs;cases hs) (Qg h)
def WM(P:Program)(N:Nat)(ops:Array Oper)(eY:av)(vals:Nat->Option Value)(cI:List (Nat×av×Value))(U:Hp)(r:Nat):Prop:=
 ∃o qA,ops[r]? =some o/\pC N o.dst=true/\cW o.op=true/\
  (∀t∈slotsOf ops o,qA t=sl ops eY (λj=>if fe ops r j=true then vals j else none) t)/\
  ((Region.wanted o (hU N ops qA)=true/\∃v,vals r=some v/\(r,qA,v)∈cI/\cU P o.op qA U=some v)\/(Region.wanted o (hU N ops qA)=false/\vals r=some undef))
variable {pn:List PanicEntry->List Deferred->Hp->Prop}
structure vy (E:Env P) (N:Nat) (ops:Array Oper) (Q:Post) (pn:List PanicEntry->List Deferred->Hp->Prop) (eY:av) (gQ:List Nat) (listed:Array Bool) (pre rest:List Nat) (cI:List (Nat×av×Value)) (vals:Nat->Option Value)
 (ds:List Deferred) (U:Hp):Prop where
 size:listed.size=ops.size
 split:gQ=pre++rest
 sub:∀i,listed.getD i false=true->i∈pre
 wr:∀i∈pre,oI ops i=false->listed.getD i false=true
 xt:∀i,i∉pre->vals i=none
 has:∀i∈pre,∃v,vals i=some v
 down:∀i j,listed.getD i false=true->fe ops i j=true->listed.getD j false=true
 waits:∀r∈pre,listed.getD r false=false->WM P N ops eY vals cI U r
 wp:gq E N ops Q pn rest cI (sl ops eY vals) ds U
variable {pre rest:List Nat}
def va(G:Good ops gQ)(hs:gQ=pre++rest)(hi:i∈pre)(hj:j∈rest):i≠j/\fe ops i j=false/\(oI ops i=true\/fe ops j i=true):=by have:=G.pw;rw[hs,List.pairwise_append]at this;exact this.2.2 i hi j hj
def Xc{f:Nat}:vB ops f i j=true->vB ops (f+1) i j=true:=by
 induction f generalizing i j with
 |zero=>intro h;cases h
 |succ f ih=>
  intro h;unfold vB at h|-
  cases ho:ops[i]? with
  |none=>rw[ho]at h;cases h
  |some o=>
   rw[ho]at h;simp only[List.any_eq_true,Bool.and_eq_true,Bool.or_eq_true,beq_iff_eq]at h|-;obtain⟨e,he,hb,h⟩:=h;exact⟨e,he,hb,h.imp id ih⟩
def Xd(ho:ops[i]? =some o){e:Edge}(he:e∈o.after)(hb:Region.binds .any e=true):fe ops i e.on=true:=by have hi:i<ops.size:=(Array.getElem?_eq_some_iff.1 ho).1;unfold fe;obtain⟨n,hn⟩:∃n,ops.size=n+1:=⟨ops.size-1,aa⟩;rw[hn];unfold vB;rw[ho];simp only[List.any_eq_true,Bool.and_eq_true,Bool.or_eq_true,beq_iff_eq];exact⟨e,aY he,hb,.inl rfl⟩
variable {listed:Array Bool}
def UK(ae8:∀i j,listed.getD i false=true->fe ops i j=true->listed.getD j false=true)(ho:ops[i]? =some o)(hr:∀e∈o.after,Region.binds .any e=true->listed.getD e.on false=true)(h:fe ops i j=true):listed.getD j false=true:=by
 unfold fe at h
 cases hn:ops.size with
 |zero=>rw[hn]at h;cases h
 |succ n=>
  rw[hn]at h;unfold vB at h;rw[ho]at h;simp only[List.any_eq_true,Bool.and_eq_true,Bool.or_eq_true,beq_iff_eq]at h;obtain⟨e,he,hb,h⟩:=h;have hl:=hr e (aY he) hb;rcases h with rfl|h
  ·exact hl
  ·exact ae8 e.on j hl (by unfold fe;rw[hn];exact Xc h)
def Fg(G:Good ops gQ)(hs:gQ=pre++rest){r:Nat}(hr:r∈pre)(h:fe ops r j=true)(hj:j<ops.size):j∈pre:=by
 have:j∈gQ:=G.all j hj;rw[hs,List.mem_append]at this;rcases this with h'|h'
 ·exact h'
 ·have:=(va G hs hr h').2.1;rw[h]at this;cases this
def Xb(G:Good ops gQ){f:Nat}:vB ops f i j=true->j<ops.size:=by
 induction f generalizing i with
 |zero=>intro h;cases h
 |succ f ih=>
  intro h;unfold vB at h
  cases ho:ops[i]? with
  |none=>rw[ho]at h;cases h
  |some o=>
   rw[ho]at h;simp only[List.any_eq_true,Bool.and_eq_true,Bool.or_eq_true,beq_iff_eq]at h;obtain⟨e,he,_,h⟩:=h;rcases h with rfl|h
   ·exact(G.EO ho).on e (aY he)
   ·exact ih h
def Ct(G:Good ops gQ)(h:fe ops i j=true):j<ops.size:=Xb G h
def advance(G:Good ops gQ):∀(rest pre:List Nat) (cI:List (Nat×av×Value)) (vals:Nat->Option Value),vy E N ops Q pn eY gQ listed pre rest cI vals ds U->
 ∃HH oJ u0 lT,vy E N ops Q pn eY gQ listed HH oJ u0 lT ds U/\(∀i,listed.getD i false=true->lT i=vals i)/\(oJ=[]\/∃w r',oJ=w::r'/\oI ops w=false):=by
 intro rest
 induction rest with
 |nil=>exactλpre cI vals aut=>⟨pre,[],cI,vals,aut,λ_ _=>rfl,.inl rfl⟩
 |cons r rest ih=>
  intro pre cI vals aut;by_cases gO:oI ops r=false
  ·exact⟨pre,r::rest,cI,vals,aut,λ_ _=>rfl,.inr ⟨r,rest,rfl,gO⟩⟩
  have hr:r<ops.size:=G.lt r (by rw[aut.split];simp);have ho:ops[r]? =some ops[r]:=Array.getElem?_eq_getElem hr;have hw:=aut.wp;simp only[gq,ho]at hw;obtain⟨hd,hw⟩:=hw
  have zD:cW (ops[r]).op=true:=by unfold oI at gO;rw[ho]at gO;simpa using gO
  rw[if_pos zD]at hw;have cT:gQ=(pre++[r])++rest:=by rw[aut.split];simp
  have uy:r∉pre:=λh=>(va G aut.split h (List.mem_cons_self ..)).1 rfl;have KT:∀i,listed.getD i false=true->i≠r:=λi hi e=>uy (e▸aut.sub i hi)
  have one:∀(v:Value) (u0:List (Nat×av×Value)),(∀x∈cI,x∈u0)->
   ((Region.wanted ops[r] (hU N ops (sl ops eY vals))=true/\(r,sl ops eY vals,v)∈u0/\cU P (ops[r]).op (sl ops eY vals) U=some v)\/(Region.wanted ops[r] (hU N ops (sl ops eY vals))=false/\v=undef))->
   gq E N ops Q pn rest u0 (aC (sl ops eY vals) (ops[r]).dst v) ds U->vy E N ops Q pn eY gQ listed (pre++[r]) rest u0 (lh vals r v) ds U:=by
   intro v u0 j8 hv Bu;have Hc:lh vals r v r=some v:=by simp[lh]
   have pk:∀j,j≠r->lh vals r v j=vals j:=λj hj=>by simp[lh,hj]
   refine⟨aut.size,cT,λi hi=>List.mem_append.2 (.inl (aut.sub i hi)),λi hi Su=>?_,λi hi=>?_,λi hi=>?_,aut.down,λx hx hxl=>?_,by rw[MZ G ho]at Bu;exact Bu⟩
   ·rcases List.mem_append.1 hi with h|h
    ·exact aut.wr i h Su
    ·simp at h;subst h;exact absurd Su gO
   ·have:i≠r:=λe=>hi (by rw[e];simp);rw[pk i this];exact aut.xt i (λh=>hi (List.mem_append.2 (.inl h)))
   ·rcases List.mem_append.1 hi with h|h
    ·by_cases e:i=r
     ·subst e;exact⟨v,Hc⟩
     ·obtain⟨u,hu⟩:=aut.has i h;exact⟨u,by rw[pk i e];exact hu⟩
    ·simp at h;subst h;exact⟨v,Hc⟩
   ·rcases List.mem_append.1 hx with h|h
    ·obtain⟨o,qA,uz,jI,Bi,ha,hc⟩:=aut.waits x h hxl;have Sz:x≠r:=λe=>uy (e▸h);refine⟨o,qA,uz,jI,Bi,λt ht=>?_,?_⟩
     ·rw[ha t ht];refine E3 G uz ?_ ?_ ?_ t ht
      ·have:=G.zH x (G.lt x (by rw[aut.split];exact List.mem_append.2 (.inl h)));simp[this]
      ·intro j hj;rw[if_pos hj,if_pos hj];have:j∈pre:=Fg G aut.split h hj (Ct G hj);exact(pk j (λe=>uy (e▸this))).symm
      ·intro j hj;by_cases mg:fe ops x j=true
       ·rw[if_pos mg,if_pos mg];have:j∈pre:=Fg G aut.split h mg (Ct G mg);exact(pk j (λe=>uy (e▸this))).symm
       ·rw[if_neg mg,if_neg mg]
     ·rcases hc with⟨xT,u,hu,hm,zE⟩|⟨xT,hu⟩
      ·exact .inl ⟨xT,u,by rw[pk x Sz];exact hu,j8 _ hm,zE⟩
      ·exact .inr ⟨xT,by rw[pk x Sz];exact hu⟩
    ·simp at h;subst h;refine⟨ops[x],sl ops eY vals,ho,hd,zD,λt ht=>?_,?_⟩
     ·refine E3 G ho ?_ ?_ ?_ t ht
      ·rw[G.zH x hr];simp only[Bool.false_eq_true,if_false];exact aut.xt x uy
      ·intro j hj;rw[if_pos hj];by_cases e:j=x
       ·subst e;rw[G.zH j hr]at hj;cases hj
       ·exact(pk j e).symm
      ·intro j hj
       have GM:j∉pre:=λh=>by have:=(va G aut.split h (List.mem_cons_self ..)).2.1;rw[hj]at this;cases this
       rw[aut.xt j GM];by_cases mg:fe ops x j=true
       ·have:j∈pre++[x]:=Fg G cT al mg (Ct G mg);rcases List.mem_append.1 this with h|h
        ·exact absurd h GM
        ·simp at h;subst h;rw[G.zH j hr]at mg;cases mg
       ·rw[if_neg mg]
     ·rcases hv with⟨h1,h2,h3⟩|⟨h1,rfl⟩
      ·exact .inl ⟨h1,v,Hc,h2,h3⟩
      ·exact .inr ⟨h1,Hc⟩
  by_cases Hf:Region.wanted ops[r] (hU N ops (sl ops eY vals))=true
  ·rw[if_pos Hf]at hw
   cases iq:cU P (ops[r]).op (sl ops eY vals) U with
   |none=>rw[iq]at hw;exact hw.elim
   |some v=>
    rw[iq]at hw;obtain⟨p',r',MC,v',I',e',h'⟩:=ih _ _ _ (one v _ (λx hx=>List.mem_cons_of_mem _ hx) (.inl ⟨Hf,List.mem_cons_self ..,iq⟩) hw);exact⟨p',r',MC,v',I',λi hi=>by rw[e' i hi];simp[lh,KT i hi],h'⟩
  ·rw[if_neg Hf]at hw;obtain⟨p',r',MC,v',I',e',h'⟩:=ih _ _ _ (one undef cI (λx hx=>hx) (.inr ⟨aY Hf,rfl⟩) hw);exact⟨p',r',MC,v',I',λi hi=>by rw[e' i hi];simp[lh,KT i hi],h'⟩
def Cb(ops:Array Oper)(listed:Array Bool):Nat:=(List.range ops.size).countP λi=> !listed.getD i true
def aiI{cI:List (Nat×av×Value)}(h:pr (P:=P) ops i U cI){r:Nat}{qA:av}(hm:(r,qA,v)∈cI)(ho:ops[r]? =some o)(hh:Dp o.op=true)(ha:fe ops i r=false):
 cU P o.op qA U=some v:=by
 induction cI with
 |nil=>cases hm
 |cons x cI ih=>
  obtain⟨j,ρj,u⟩:=x;simp only[pr]at h;rcases List.mem_cons.1 hm with e|hm
  ·cases e
   have:=h.1;rw[ho]at this;simpa[hh,ha]using this
  ·exact ih h.2 hm
def QF(h:i<listed.size)(d:Bool):(listed.setIfInBounds i true).getD i d=true:=by rw[Array.getD_eq_getD_getElem?,Array.getElem?_setIfInBounds_self_of_lt h];rfl
def QC(h:i<listed.size)(d d':Bool):listed.getD i d=listed.getD i d':=by rw[Array.getD_eq_getD_getElem?,Array.getD_eq_getD_getElem?,Array.getElem?_eq_getElem h];rfl
def VI(hs:listed.size=ops.size)(hi:i<ops.size)(hf:listed.getD i true=false):Cb ops (listed.setIfInBounds i true)+1=Cb ops listed:=by
 unfold Cb
 have key:∀(l:List Nat),l.Nodup->i∈l->(l.countP λj=> !(listed.setIfInBounds i true).getD j true)+1=l.countP λj=> !listed.getD j true:=by
  intro l
  induction l with
  |nil=>intro _ h;cases h
  |cons x l ih=>
   intro hn hm;rw[List.nodup_cons]at hn;rw[List.countP_cons,List.countP_cons];by_cases e:x=i
   ·subst e;have h1:(!(listed.setIfInBounds x true).getD x true)=false:=by rw[QF aa];rfl
    have h2:(l.countP λj=> !(listed.setIfInBounds x true).getD j true)=l.countP λj=> !listed.getD j true:=by refine List.countP_congr λj hj=>?_;have:x≠j:=λe=>hn.1 (e▸hj);rw[getD_set_ne true this]
    rw[h1,h2,hf];simp
   ·have rU:i∈l:=by rcases List.mem_cons.1 hm with h|h;exact absurd h.symm e;exact h
    have:=ih hn.2 rU;rw[getD_set_ne true (λz=>e z.symm)];omega
 exact key _ List.nodup_range (List.mem_range.2 hi)
variable {α:Type}
def aod{p:List α->Prop}(h0:p [])(hs:∀l x,p l->p (l++[x])):∀l,p l:=by
 intro l;rw[<-l.reverse_reverse];generalize l.reverse=r
 induction r with
 |nil=>exact h0
 |cons x r ih=>rw[List.reverse_cons];exact hs _ _ ih
def Ow(G:Good ops gQ)(uA:∀ch I ds U,pn ch ds U->Q (.panic ch) I ds U):∀(fuel:Nat) (listed:Array Bool) (pre rest:List Nat) (cI:List (Nat×av×Value)) (vals:Nat->Option Value) (ds:List Deferred) (U:Hp),
 Cb ops listed<=fuel->vy E N ops Q pn eY gQ listed pre rest cI vals ds U->(rest=[]\/∃w r',rest=w::r'/\oI ops w=false)->
 tL E N ops Q fuel listed (sl ops eY (λi=>if listed.getD i false=true then vals i else none)) ds U:=by
 have fin:∀(listed:Array Bool) (pre rest:List Nat) (cI:List (Nat×av×Value)) (vals:Nat->Option Value) (ds:List Deferred) (U:Hp),vy E N ops Q pn eY gQ listed pre rest cI vals ds U->(rest=[]\/∃w r',rest=w::r'/\oI ops w=false)->
  Region.ready .any ops listed=[]->Q .normal (sl ops eY (λi=>if listed.getD i false=true then vals i else none)) ds U:=by
  intro listed pre rest cI vals ds U aut lG mI
  have all:∀(a b:List Nat),gQ=a++b->∀i∈a,listed.getD i false=true:=by
   refine aod ?_ ?_
   ·intro b _ i hi;cases hi
   ·intro a x ih b hb i hi;have cH:gQ=a++(x::b):=by rw[hb];simp
    have ha:=ih (x::b) cH;rcases List.mem_append.1 hi with h|h
    ·exact ha i h
    ·simp at h;subst h;refine Classical.byContradiction λaE=>?_;have bd:i<ops.size:=G.lt i (by rw[hb];simp);have ho:ops[i]? =some ops[i]:=Array.getElem?_eq_getElem bd
     have:i∈Region.ready .any ops listed:=by
      refine mem_ready.2 ⟨?_,ops[i],ho,λe he lC=>?_⟩
      ·rw[QC (by rw[aut.size];exact bd) true false];simpa using aE
      ·have Kl:=Xd ho he lC;have hon:=(G.EO ho).on e he;have qf:e.on∈gQ:=G.all e.on hon;rw[cH,List.mem_append]at qf;rcases qf with h|h
       ·exact ha _ h
       ·rcases List.mem_cons.1 h with h|h
        ·rw[h,G.zH i bd]at Kl;cases Kl
        ·have:=(va G (by rw[hb]) (show i∈a++[i]by simp) h).2.1;rw[Kl]at this;cases this
     rw[mI]at this;cases this
  have D2:rest=[]:=by
   rcases lG with h|⟨w,r',rfl,hw⟩
   ·exact h
   ·exfalso;have h1:=all (pre++[w]) r' (by rw[aut.split];simp) w al;have h2:=aut.sub w h1;exact(va G aut.split h2 (List.mem_cons_self ..)).1 rfl
  subst D2;have hq:Q .normal (sl ops eY vals) ds U:=aut.wp
  have:(λi=>if listed.getD i false=true then vals i else none)=vals:=by
   funext i
   by_cases hi:i∈pre
   ·rw[if_pos (all pre [] aut.split i hi)]
   ·rw[aut.xt i hi];split<;>rfl
  rw[this];exact hq
 intro fuel
 induction fuel with
 |zero=>
  intro listed pre rest cI vals ds U hf aut lG
  have mI:Region.ready .any ops listed=[]:=by
   cases hr:Region.ready .any ops listed with
   |nil=>rfl
   |cons i t=>
    exfalso;have hm:i∈Region.ready .any ops listed:=by rw[hr];simp
    obtain⟨h0,o,ho,_⟩:=mem_ready.1 hm;have hi:i<ops.size:=(Array.getElem?_eq_some_iff.1 ho).1;have:=VI (ops:=ops) aut.size hi h0;omega
  exact⟨mI,fin _ _ _ _ _ _ _ aut lG mI⟩
 |succ fuel ih=>
  intro listed pre rest cI vals ds U hf aut lG;refine⟨fin _ _ _ _ _ _ _ aut lG,λi hi=>?_⟩;obtain⟨h0,o,ho,Kw⟩:=mem_ready.1 hi;have Bj:i<ops.size:=(Array.getElem?_eq_some_iff.1 ho).1;have ua:listed.getD i false=false:=by rw[QC (by rw[aut.size];exact Bj) false true];exact h0
  have uj:∀j,fe ops i j=true->listed.getD j false=true:=λj hj=>UK aut.down ho Kw hj;have xF:=VI (ops:=ops) aut.size Bj h0;have Sn:(listed.setIfInBounds i true).size=ops.size:=by simpa using aut.size
  have oA:(listed.setIfInBounds i true).getD i false=true:=QF (by rw[aut.size];exact Bj) _;have oz:∀j,j≠i->(listed.setIfInBounds i true).getD j false=listed.getD j false:=λj hj=>getD_set_ne false (λe=>hj e.symm)
  have RJ:∀a b,(listed.setIfInBounds i true).getD a false=true->fe ops a b=true->(listed.setIfInBounds i true).getD b false=true:=by
   intro a b ha dm;by_cases e:a=i
   ·subst e;by_cases e':b=a
    ·subst e';exact oA
    ·rw[oz b e'];exact uj b dm
   ·rw[oz a e]at ha;by_cases e':b=i
    ·subst e';exact oA
    ·rw[oz b e'];exact aut.down a b ha dm
  have R0:∀j,fe ops j i=true->listed.getD j false=false:=by
   intro j hj
   cases hl:listed.getD j false with
   |false=>rfl
   |true=>rw[aut.down j i hl hj]at ua;cases ua
  have Ss:∀(u:Nat->Option Value) (v:Value),u i=some v->(∀j,listed.getD j false=true->u j=vals j)->
   lh (λj=>if listed.getD j false=true then vals j else none) i v=λj=>if(listed.setIfInBounds i true).getD j false=true then u j else none:=by
   intro u v hu G5
   funext j
   by_cases e:j=i
   ·subst e;rw[if_pos oA,hu];simp[lh]
   ·rw[oz j e];simp only[lh,e,if_false];by_cases hl:listed.getD j false=true
    ·rw[if_pos hl,if_pos hl,G5 j hl]
    ·rw[if_neg hl,if_neg hl]
  unfold mv;rw[ho];by_cases gO:oI ops i=true
  ·
   have RX:i∈pre:=by
    have hm:i∈gQ:=G.all i Bj;rw[aut.split,List.mem_append]at hm;rcases hm with h|h
    ·exact h
    ·exfalso;rcases lG with e|⟨w,r',rfl,hw⟩
     ·rw[e]at h;cases h
     ·rcases List.mem_cons.1 h with e|h
      ·subst e;rw[gO]at hw;cases hw
      ·have cT:gQ=(pre++[w])++r':=by rw[aut.split];simp
       have h3:=(va G cT (show w∈pre++[w]by simp) h).2.2;rw[hw]at h3;have h4:=uj w (h3.resolve_left al);exact(va G aut.split (aut.sub w h4) (List.mem_cons_self ..)).1 rfl
   obtain⟨o',qA,uz,hd,GJ,hag,hc⟩:=aut.waits i RX ua;obtain rfl:o'=o:=Option.some.inj (uz.symm.trans ho);refine⟨hd,?_⟩
   have A8:∀t∈slotsOf ops o',sl ops eY (λj=>if listed.getD j false=true then vals j else none) t=qA t:=by
    intro t ht;rw[hag t ht];refine E3 G ho ?_ ?_ ?_ t ht
    ·simp only[ua,G.zH i Bj,Bool.false_eq_true,if_false]
    ·intro j hj;rw[if_pos (uj j hj),if_pos hj]
    ·intro j hj;have hl:=R0 j hj;simp only[hl,Bool.false_eq_true,if_false];by_cases qU:fe ops i j=true
     ·rw[uj j qU]at hl;cases hl
     ·rw[if_neg qU]
   have I':vy E N ops Q pn eY gQ (listed.setIfInBounds i true) pre rest cI vals ds U:=by
    refine⟨Sn,aut.split,λj hj=>?_,λj hj hw=>?_,aut.xt,aut.has,RJ,λr hr hl=>?_,aut.wp⟩
    ·by_cases e:j=i
     ·subst e;exact RX
     ·rw[oz j e]at hj;exact aut.sub j hj
    ·by_cases e:j=i
     ·subst e;exact oA
     ·rw[oz j e];exact aut.wr j hj hw
    ·have e:r≠i:=λe=>by subst e;rw[oA]at hl;cases hl
     rw[oz r e]at hl;exact aut.waits r hr hl
   have next:∀v,vals i=some v->tL E N ops Q fuel (listed.setIfInBounds i true) (aC (sl ops eY (λj=>if listed.getD j false=true then vals j else none)) o'.dst v) ds U:=by intro v hv;rw[MZ G ho,Ss vals v hv (λ_ _=>rfl)];exact ih _ _ _ _ _ _ _ aa I' lG
   rcases hc with⟨hw,v,hv,hm,zE⟩|⟨hw,hv⟩
   ·rw[Nw (N:=N) A8,if_pos hw];rw[<-an5 (Qg A8)]at zE;rw[if_pos (by assumption)];exact⟨v,zE,next v hv⟩
   ·rw[Nw (N:=N) A8,hw,if_neg al];exact next undef hv
  ·
   have zD:oI ops i=false:=aY gO;have uy:i∉pre:=λh=>by rw[aut.wr i h zD]at ua;cases ua
   have hm:i∈rest:=by have hm:i∈gQ:=G.all i Bj;rw[aut.split,List.mem_append]at hm;exact hm.resolve_left uy
   rcases lG with e|⟨w,r',rfl,hw⟩
   ·rw[e]at hm;cases hm
   have hiw:i=w:=by
    rcases List.mem_cons.1 hm with e|h
    ·exact e
    ·exfalso;have cT:gQ=(pre++[w])++r':=by rw[aut.split];simp
     have h3:=(va G cT (show w∈pre++[w]by simp) h).2.2;rw[hw]at h3;have h4:=uj w (h3.resolve_left al);exact(va G aut.split (aut.sub w h4) (List.mem_cons_self ..)).1 rfl
   subst hiw;have Bu:=aut.wp;simp only[gq,ho]at Bu;have GJ:cW o.op=false:=by unfold oI at zD;rw[ho]at zD;exact zD
   rw[if_neg (by rw[GJ];simp)]at Bu;obtain⟨hd,aS⟩:=Bu;have agE:=(G.EO ho).wr.resolve_left (by rw[GJ];simp);refine⟨hd,?_⟩
   have A8:∀t∈slotsOf ops o,sl ops eY vals t=sl ops eY (λj=>if listed.getD j false=true then vals j else none) t:=by
    refine E3 G ho ?_ ?_ ?_
    ·simp only[ua,Bool.false_eq_true,if_false];exact aut.xt i uy
    ·intro j hj;rw[if_pos (uj j hj)]
    ·intro j hj;have hl:=R0 j hj;simp only[hl,Bool.false_eq_true,if_false];refine aut.xt j λGM=>?_;have:=(va G aut.split GM (List.mem_cons_self ..)).2.1;rw[hj]at this;cases this
   rw[<-Nw (N:=N) A8]
   suffices key:∀(v:Value) (da:List Deferred) (ae:Hp),(pr (P:=P) ops i ae cI\/ae=U)->gq E N ops Q pn r' cI (aC (sl ops eY vals) o.dst v) da ae->
    tL E N ops Q fuel (listed.setIfInBounds i true) (aC (sl ops eY (λj=>if listed.getD j false=true then vals j else none)) o.dst v) da ae by
    by_cases Sv:Region.wanted o (hU N ops (sl ops eY vals))=true
    ·rw[if_pos Sv]at aS|-;rw[if_neg (by rw[GJ];simp)];refine VR (aca agE A8) ?_ (λch ae h=>uA ch _ ds ae h) (sz aS);rintro v da ae ⟨hk,He⟩;exact key v da ae (.inl hk) He
    ·rw[if_neg Sv]at aS|-;exact key undef ds U (.inr rfl) aS
   rintro v da ae hk He;have cT:gQ=(pre++[i])++r':=by rw[aut.split];simp
   rw[MZ G ho]at He|-;have Lo:lh vals i v i=some v:=by simp[lh]
   have pk:∀j,j≠i->lh vals i v j=vals j:=λj hj=>by simp[lh,hj]
   have I':vy E N ops Q pn eY gQ (listed.setIfInBounds i true) (pre++[i]) r' cI (lh vals i v) da ae:=by
    refine⟨Sn,cT,λj hj=>?_,λj hj hw=>?_,λj hj=>?_,λj hj=>?_,RJ,λr hr hl=>?_,He⟩
    ·by_cases e:j=i
     ·subst e;simp
     ·rw[oz j e]at hj;exact List.mem_append.2 (.inl (aut.sub j hj))
    ·rcases List.mem_append.1 hj with h|h
     ·by_cases e:j=i
      ·subst e;exact oA
      ·rw[oz j e];exact aut.wr j h hw
     ·simp at h;subst h;exact oA
    ·have e:j≠i:=λe=>hj (by rw[e];simp);rw[pk j e];exact aut.xt j (λh=>hj (List.mem_append.2 (.inl h)))
    ·rcases List.mem_append.1 hj with h|h
     ·by_cases e:j=i
      ·subst e;exact⟨v,Lo⟩
      ·obtain⟨u,hu⟩:=aut.has j h;exact⟨u,by rw[pk j e];exact hu⟩
     ·simp at h;subst h;exact⟨v,Lo⟩
    ·have e:r≠i:=λe=>by subst e;rw[oA]at hl;cases hl
     have G4:r∈pre:=by
      rcases List.mem_append.1 hr with h|h
      ·exact h
      ·simp at h;exact absurd h e
     rw[oz r e]at hl;obtain⟨Uh,qA,KU,afb,afG,vT,ae4⟩:=aut.waits r G4 hl;refine⟨Uh,qA,KU,afb,afG,λt ht=>?_,?_⟩
     ·rw[vT t ht];refine E3 G KU ?_ ?_ ?_ t ht
      ·have:=G.zH r (G.lt r (by rw[aut.split];exact List.mem_append.2 (.inl G4)));simp[this]
      ·intro j hj;rw[if_pos hj,if_pos hj];have:j∈pre:=Fg G aut.split G4 hj (Ct G hj);exact(pk j (λe=>uy (e▸this))).symm
      ·intro j hj;by_cases mg:fe ops r j=true
       ·rw[if_pos mg,if_pos mg];have:j∈pre:=Fg G aut.split G4 mg (Ct G mg);exact(pk j (λe=>uy (e▸this))).symm
       ·rw[if_neg mg,if_neg mg]
     ·rcases ae4 with⟨xT,u,hu,hm,zE⟩|⟨xT,hu⟩
      ·refine .inl ⟨xT,u,by rw[pk r e];exact hu,hm,?_⟩
       cases hh:Dp Uh.op with
       |false=>rw[an6 hh (ae:=U)];exact zE
       |true=>
        rcases hk with hk|rfl
        ·refine aiI hk hm KU hh ?_
         cases hx:fe ops i r with
         |false=>rfl
         |true=>rw[uj r hx]at hl;cases hl
        ·exact zE
      ·exact .inr ⟨xT,by rw[pk r e];exact hu⟩
   obtain⟨HH,oJ,u0,lT,Wk,G5,afs⟩:=advance G _ _ _ _ I';have:=ih _ _ _ _ _ _ _ aa Wk afs
   rw[Ss lT v (by rw[G5 i oA];exact Lo) (λj hj=>by
    have e:j≠i:=λe=>by subst e;rw[ua]at hj;cases hj
    rw[G5 j (by rw[oz j e];exact hj),pk j e])]
   exact this
def P0(hc:sN ops l=true)(hm:P.follows .mixedOrders=true)(uA:∀ch I ds U,pn ch ds U->Q (.panic ch) I ds U)(h:gq E N ops Q pn l [] I ds U)(t:Nat):
 mR E N ops Q (Region.schedule (P.follows .mixedOrders) ops t) I ds U:=by
 have G:=QR hc;have e0:sl ops I (λ_=>none)=I:=by funext t;exact vn (λ_ _=>rfl)
 have lH:∀i,(Array.replicate ops.size false).getD i false=false:=λi=>by rw[Array.getD_eq_getD_getElem?,Array.getElem?_replicate];split<;>rfl
 have aut:vy E N ops Q pn I l (Array.replicate ops.size false) [] l [] (λ_=>none) ds U:=by refine⟨al,rfl,λi hi=>(by rw[lH]at hi;cases hi),λi hi=>(by cases hi),λ_ _=>rfl,λi hi=>(by cases hi),λi j hi=>(by rw[lH]at hi;cases hi),λr hr=>(by cases hr),(by rw[e0];exact h)⟩
 obtain⟨HH,oJ,u0,lT,I',_,hh⟩:=advance G _ _ _ _ aut;have:=Ow G uA ops.size _ _ _ _ _ _ _ (by unfold Cb;exact Nat.le_trans List.countP_le_length al) I' hh
 have e1:sl ops I (λi=>if(Array.replicate ops.size false).getD i false=true then lT i else none)=I:=by funext t;exact vn (λi _=>by rw[lH];rfl)
 rw[e1]at this;simp only[Region.schedule,hm,Bool.true_or,if_true];exact VP _ t _ _ _ _ this
section
variable {I:av}{ds:List Deferred}{U:Hp}{nx:av->List Deferred->Hp->Prop}{N:Nat}{ops:Array Oper}{Q:Post}
variable {P:Program}(E:Env P)
def jm (N:Nat)(ops:Array Oper)(Q:Post):List Oper->av->List Deferred->Hp->Prop
 |[],I,ds,U=>Q .normal I ds U
 |o::rest,I,ds,U=>pC N o.dst=true/\
  if Region.wanted o (hU N ops I)then aT E o I ds U (jm N ops Q rest) (λch ae=>Q (.panic ch) I ds ae)
  else jm N ops Q rest (aC I o.dst undef) ds U
def lQ (nx:av->List Deferred->Hp->Prop)(Q:Post):Post
 | .normal,I,ds,U=>nx I ds U
 |e,I,ds,U=>Q e I ds U
def pO (id:Nat)(Q:Post):Post
 | .exit aK,I,ds,U=>if aK=id then Q .normal I ds U else Q (.exit aK) I ds U
 |e,I,ds,U=>Q e I ds U
def bK (X:av->List Deferred->Hp->Prop)(I:av)(ds:List Deferred)(U:Hp):Prop:=∃J:Hp,J.le U/\X I ds J
def cO (N:Nat):Code->Post->av->List Deferred->Hp->Prop
 | .skip,Q,I,ds,U| .label _,Q,I,ds,U=>Q .normal I ds U
 | .region _ ops false,Q,I,ds,U=>jm E N ops Q ops.toList I ds U
 | .region _ ops true,Q,I,ds,U=>∀t,mR E N ops Q (Region.schedule (P.follows .mixedOrders) ops t) I ds U
 | .seq x y,Q,I,ds,U=>cO N x (lQ (cO N y Q) Q) I ds U
 | .cond c x y,Q,I,ds,U=>match ak I c with
   | .bool true=>cO N x Q I ds U
   | .bool false=>cO N y Q I ds U
   |_=>False
 | .block id c,Q,I,ds,U=>cO N c (pO id Q) I ds U
 | .loop c,Q,I,ds,U=>∀X:av->List Deferred->Hp->Prop,(∀az da ae,cO N c (lQ (bK X) Q) az da ae->X az da ae)->X I ds U
 | .exit id,Q,I,ds,U=>Q (.exit id) I ds U
 | .ret,Q,I,ds,U=>Q .ret I ds U
 |_,_,_,_,_=>False
end
def V9(b:Frame)(k:List Item)(cs:List Frame)(a:Act):Ex->Goroutine->Prop
 | .normal,g=>g=G (b.at a k) cs
 | .exit id,g=>∃k',g=G (b.at a (.code (.exit id)::k')) cs/\exitTo id k'=exitTo id k
 | .ret,g=>∃todo,g=G {b.at a todo with mode:=.returning} cs
 | .panic chain,g=>∃todo,g=G {b.at a todo with mode:=.panicking chain} cs
def Comes(N:Nat)(Q:Post)(b:Frame)(k:List Item)(cs:List Frame)(g:Goroutine)(U:Hp):Prop:=
 ∃e I ds a,cM N a I ds/\Q e I ds U/\V9 b k cs a e g
def ajE(l:List α):(List.range l.length).filterMap (l[·]?)=l:=by
 have:∀(n:Nat),n<=l.length->(List.range n).filterMap (l[·]?)=l.take n:=by
  intro n
  induction n with
  |zero=>intro _;rfl
  |succ n ih=>
   intro hn;rw[List.range_succ,List.filterMap_append,ih aa,List.take_succ_eq_append_getElem aa];simp[List.getElem?_eq_getElem (show n<l.length by omega)]
 rw[this _ (Nat.le_refl _),List.take_length]
def ard(b:Frame)(hb:b.kind≠.early)(k:List Item)(cs:List Frame)(l:List Nat):
 ∀(I:av) (ds:List Deferred) (U:Hp) (a:Act),jm E N ops Q (l.filterMap (ops[·]?)) I ds U->cM N a I ds->ax E (G (b.at a (.inRegion ops l::k)) cs) U (Comes N Q b k cs):=by
 induction l with
 |nil=>
  intro I ds U a h ha;exact ax.ctl (λw=>stepG_region_end) rfl rfl (ax.here ⟨.normal,I,ds,a,ha,h,rfl⟩)
 |cons i rest ih=>
  intro I ds U a h ha
  cases ho:ops[i]? with
  |none=>
   rw[List.filterMap_cons_none ho]at h;have jz:((ops[i]?).map (Region.wanted · (yielded ops a.tmps))).getD false=false:=by rw[ho];rfl
   have fG:(b.at a (.inRegion ops (i::rest)::k)).finish undef=b.at a (.inRegion ops rest::k):=by rw[Frame.finish_at,ho];rfl
   refine ax.ctl (g':=G (b.at a (.inRegion ops rest::k)) cs) (λw=>?_) rfl rfl (ih _ _ _ _ h ha);rw[<-fG];simp only[Frame.at]at*;simp[G,stepG,stepG.exec,jz]
  |some o=>
   rw[List.filterMap_cons_some ho]at h;simp only[jm]at h;obtain⟨hd,h⟩:=h;by_cases hw:Region.wanted o (hU N ops I)=true
   ·rw[if_pos hw]at h;have jz:Region.wanted o (yielded ops a.tmps)=true:=by rw[ha.yB];exact hw
    have h:=sz h;unfold wpOp at h;rw[<-ha.eval]at h;refine ax.step rfl (M6 (P:=P) (main:=E.main) (b:=b) (k:=k) (cs:=cs) (rest:=rest) ho jz hb h) ?_;rintro g ae (⟨v,hv,rfl⟩|⟨d,s9,rfl⟩|⟨f,args,hc,rfl⟩|⟨v,hp,rfl⟩)
    ·exact ih _ _ _ _ hv (ha.put hd v)
    ·exact ih _ _ _ _ s9 ((ha.defer d).put hd undef)
    ·refine aw.run hc ?_ ?_
     ·intro v gE hv;have fG:(b.at a (.inRegion ops (i::rest)::k)).finish v=b.at (a.put o.dst v) (.inRegion ops rest::k):=by rw[Frame.finish_at,ho];rfl
      rw[fG];exact ih _ _ _ _ hv (ha.put hd v)
     ·intro ch gE hp;refine ax.here ⟨.panic ch,I,ds,a,ha,hp,.inRegion ops (i::rest)::k,?_⟩;rw[Frame.raise_at]
    ·refine ax.here ⟨.panic _,I,ds,a,ha,hp,.inRegion ops (i::rest)::k,?_⟩;rw[Frame.raise_at]
   ·rw[if_neg hw]at h;have jz:((ops[i]?).map (Region.wanted · (yielded ops a.tmps))).getD false=false:=by rw[ho,ha.yB];simpa using hw
    have fG:(b.at a (.inRegion ops (i::rest)::k)).finish undef=b.at (a.put o.dst undef) (.inRegion ops rest::k):=by rw[Frame.finish_at,ho];rfl
    refine ax.ctl (g':=G (b.at (a.put o.dst undef) (.inRegion ops rest::k)) cs) (λw=>?_) rfl rfl (ih _ _ _ _ h (ha.put hd undef));rw[<-fG];simp only[Frame.at]at*;simp[G,stepG,stepG.exec,jz]
def arf(b:Frame)(hb:b.kind≠.early)(k:List Item)(cs:List Frame)(l:List Nat):
 ∀(I:av) (ds:List Deferred) (U:Hp) (a:Act),mR E N ops Q l I ds U->cM N a I ds->ax E (G (b.at a (.inRegion ops l::k)) cs) U (Comes N Q b k cs):=by
 induction l with
 |nil=>
  intro I ds U a h ha;exact ax.ctl (λw=>stepG_region_end) rfl rfl (ax.here ⟨.normal,I,ds,a,ha,h,rfl⟩)
 |cons i rest ih=>
  intro I ds U a h ha;simp only[mR,mv]at h
  cases ho:ops[i]? with
  |none=>rw[ho]at h;exact h.elim
  |some o=>
   rw[ho]at h;obtain⟨hd,h⟩:=h;by_cases hw:Region.wanted o (hU N ops I)=true
   ·rw[if_pos hw]at h
    replace h:wpOp E o I ds U (mR E N ops Q rest) (λch ae=>Q (.panic ch) I ds ae):=by
     by_cases hr:cW o.op=true
     ·rw[if_pos hr]at h;obtain⟨v,h3,h4⟩:=h;exact sz (MI h3 h4)
     ·rw[if_neg hr]at h;exact h
    have jz:Region.wanted o (yielded ops a.tmps)=true:=by rw[ha.yB];exact hw
    unfold wpOp at h;rw[<-ha.eval]at h;refine ax.step rfl (M6 (P:=P) (main:=E.main) (b:=b) (k:=k) (cs:=cs) (rest:=rest) ho jz hb h) ?_;rintro g ae (⟨v,hv,rfl⟩|⟨d,s9,rfl⟩|⟨f,args,hc,rfl⟩|⟨v,hp,rfl⟩)
    ·exact ih _ _ _ _ hv (ha.put hd v)
    ·exact ih _ _ _ _ s9 ((ha.defer d).put hd undef)
    ·refine aw.run hc ?_ ?_
     ·intro v gE hv;have fG:(b.at a (.inRegion ops (i::rest)::k)).finish v=b.at (a.put o.dst v) (.inRegion ops rest::k):=by rw[Frame.finish_at,ho];rfl
      rw[fG];exact ih _ _ _ _ hv (ha.put hd v)
     ·intro ch gE hp;refine ax.here ⟨.panic ch,I,ds,a,ha,hp,.inRegion ops (i::rest)::k,?_⟩;rw[Frame.raise_at]
    ·refine ax.here ⟨.panic _,I,ds,a,ha,hp,.inRegion ops (i::rest)::k,?_⟩;rw[Frame.raise_at]
   ·rw[if_neg hw]at h;have jz:((ops[i]?).map (Region.wanted · (yielded ops a.tmps))).getD false=false:=by rw[ho,ha.yB];simpa using hw
    have fG:(b.at a (.inRegion ops (i::rest)::k)).finish undef=b.at (a.put o.dst undef) (.inRegion ops rest::k):=by rw[Frame.finish_at,ho];rfl
    refine ax.ctl (g':=G (b.at (a.put o.dst undef) (.inRegion ops rest::k)) cs) (λw=>?_) rfl rfl (ih _ _ _ _ h (ha.put hd undef));rw[<-fG];simp only[Frame.at]at*;simp[G,stepG,stepG.exec,jz]
def Comes.mono{b:Frame}{k:List Item}{cs:List Frame}{S:Goroutine->Hp->Prop}(hn:∀I ds U a,cM N a I ds->Q .normal I ds U->ax E (G (b.at a k) cs) U S)(he:∀id I ds U a ra,cM N a I ds->Q (.exit id) I ds U->exitTo id ra=exitTo id k->ax E (G (b.at a (.code (.exit id)::ra)) cs) U S)(hr:∀I ds U a todo,cM N a I ds->Q .ret I ds U->ax E (G {b.at a todo with mode:=.returning} cs) U S)(hp:∀ch I ds U a todo,cM N a I ds->Q (.panic ch) I ds U->ax E (G {b.at a todo with mode:=.panicking ch} cs) U S):
 ∀g U,Comes N Q b k cs g U->ax E g U S:=by
 rintro g U ⟨e,I,ds,a,ha,hq,A9⟩
 cases e with
 |normal=>obtain rfl:=A9;exact hn _ _ _ _ ha hq
 |exit id=>obtain⟨ra,rfl,hx⟩:=A9;exact he _ _ _ _ _ _ ha hq hx
 |ret=>obtain⟨todo,rfl⟩:=A9;exact hr _ _ _ _ _ ha hq
 |panic ch=>obtain⟨todo,rfl⟩:=A9;exact hp _ _ _ _ _ _ ha hq
def Iq(c:Code):∀(Q:Post) (I:av) (ds:List Deferred) (U:Hp),cO E N c Q I ds U->
 ∀(b:Frame) (k:List Item) (cs:List Frame) (a:Act),b.kind≠.early->cM N a I ds->ax E (G (b.at a (.code c::k)) cs) U (Comes N Q b k cs):=by
 induction c with
 |skip=>exactλQ I ds U h b k cs a hb ha=>ax.ctl (λw=>stepG_skip) rfl rfl (ax.here ⟨.normal,I,ds,a,ha,h,rfl⟩)
 |label l=>exactλQ I ds U h b k cs a hb ha=>ax.ctl (λw=>stepG_label) rfl rfl (ax.here ⟨.normal,I,ds,a,ha,h,rfl⟩)
 |region id ops draw=>
  intro Q I ds U h b k cs a hb ha
  cases draw with
  |false=>
   have e:ops.toList=(List.range ops.size).filterMap (ops[·]?):=by apply List.ext_getElem?;intro i;rw[show(λx=>ops[x]?)=λx=>(ops.toList)[x]? by funext x;simp];rw[<-Array.length_toList,ajE]
   refine ax.ctl (λw=>stepG_region) rfl rfl (ard b hb k cs _ I ds U a ?_ ha);rw[<-e];exact h
  |true=>
   refine ax.step (X:=λsX rB=>rB=U/\∃t,sX=G (b.at a (.inRegion ops (Region.schedule (P.follows .mixedOrders) ops t)::k)) cs) rfl ?_ ?_
   ·intro auu w hs
    have:stepG P E.main (G (b.at a (.code (.region id ops true)::k)) cs) w=.go (G (b.at a (.inRegion ops (Region.schedule (P.follows .mixedOrders) ops (w.tape w.drawn (.order b.fn id)))::k)) cs) {w with drawn:=w.drawn+1}:=by simp[G,stepG,stepG.exec,Frame.at,choose,Sem.run,Question.forced,Question.cut]
    rw[this];exact⟨U,hs.drew _,⟨λ_ _=>rfl,rfl,rfl,rfl,Nat.le_refl _⟩,al,rfl,rfl,_,rfl⟩
   ·rintro sX rB ⟨rfl,t,rfl⟩;exact arf b hb k cs _ I ds rB a (h t) ha
 |seq x y ihx ihy=>
  intro Q I ds U h b k cs a hb ha;refine ax.ctl (λw=>stepG_seq) rfl rfl ((ihx _ _ _ _ h b (.code y::k) cs a hb ha).bind (Comes.mono ?_ ?_ ?_ ?_))
  ·exactλaz da ae a' dH hq=>ihy _ _ _ _ hq b k cs a' hb dH
  ·exactλid az da ae a' ra dH hq hx=>ax.here ⟨.exit id,az,da,a',dH,hq,ra,rfl,hx⟩
  ·exactλaz da ae a' todo dH hq=>ax.here ⟨.ret,az,da,a',dH,hq,todo,rfl⟩
  ·exactλch az da ae a' todo dH hq=>ax.here ⟨.panic ch,az,da,a',dH,hq,todo,rfl⟩
 |cond x c₁ c₂ ahm ahn=>
  intro Q I ds U h b k cs a hb ha;unfold cO at h;split at h
  ·rename_i hv;exact ax.ctl (λw=>stepG_cond (t:=true) (by rw[ha.eval];exact hv)) rfl rfl (ahm _ _ _ _ h b k cs a hb ha)
  ·rename_i hv;exact ax.ctl (λw=>stepG_cond (t:=false) (by rw[ha.eval];exact hv)) rfl rfl (ahn _ _ _ _ h b k cs a hb ha)
  ·exact h.elim
 |block id c ih=>
  intro Q I ds U h b k cs a hb ha;refine ax.ctl (λw=>stepG_block) rfl rfl ((ih _ _ _ _ h b (.inBlock id::k) cs a hb ha).bind (Comes.mono ?_ ?_ ?_ ?_))
  ·exactλaz da ae a' dH hq=>ax.ctl (λw=>stepG_inBlock) rfl rfl (ax.here ⟨.normal,az,da,a',dH,hq,rfl⟩)
  ·intro aK az da ae a' ra dH hq hx;by_cases e:aK=id
   ·subst e;simp only[pO,if_true]at hq;have cX:exitTo aK ra=some k:=by rw[hx];simp[exitTo]
    exact ax.ctl (λw=>stepG_exit cX) rfl rfl (ax.here ⟨.normal,az,da,a',dH,hq,rfl⟩)
   ·simp only[pO,e,if_false]at hq;refine ax.here ⟨.exit aK,az,da,a',dH,hq,ra,rfl,?_⟩;rw[hx];have:(id==aK)=false:=by simp;exactλz=>e z.symm
    simp[exitTo,this]
  ·exactλaz da ae a' todo dH hq=>ax.here ⟨.ret,az,da,a',dH,hq,todo,rfl⟩
  ·exactλch az da ae a' todo dH hq=>ax.here ⟨.panic ch,az,da,a',dH,hq,todo,rfl⟩
 |loop c ih=>
  intro Q I ds U h b k cs a hb ha;refine ax.ctl (λw=>stepG_loop) rfl rfl ?_;refine h (λI ds U=>∀a,cM N a I ds->ax E (G (b.at a (.code c:: .inLoop c::k)) cs) U (Comes N Q b k cs)) ?_ a ha;intro az da ae Ru a' dH;refine(ih _ _ _ _ Ru b (.inLoop c::k) cs a' hb dH).bind (Comes.mono ?_ ?_ ?_ ?_)
  ·exactλCf AQ IC yS vT ⟨J,hle,hq⟩=>ax.ctl (λw=>stepG_inLoop) rfl rfl ((hq yS vT).iR hle)
  ·exactλid Cf AQ IC yS ra vT hq hx=>ax.here ⟨.exit id,Cf,AQ,yS,vT,hq,ra,rfl,by rw[hx];simp[exitTo]⟩
  ·exactλCf AQ IC yS todo vT hq=>ax.here ⟨.ret,Cf,AQ,yS,vT,hq,todo,rfl⟩
  ·exactλch Cf AQ IC yS todo vT hq=>ax.here ⟨.panic ch,Cf,AQ,yS,vT,hq,todo,rfl⟩
 |exit id=>exactλQ I ds U h b k cs a hb ha=>ax.here ⟨.exit id,I,ds,a,ha,h,k,rfl,rfl⟩
 |ret=>
  intro Q I ds U h b k cs a hb ha;refine ax.ctl (g':=G {b.at a (.code .ret::k)with mode:=.returning} cs) (λw=>?_) rfl rfl (ax.here ⟨.ret,I,ds,a,ha,h,_,rfl⟩);simp[G,stepG,stepG.exec,Frame.at]
 |rangeFunc f ps x y=>exactλQ I ds U h=>h.elim
 |scope c=>exactλQ I ds U h=>h.elim
 |goto l=>exactλQ I ds U h=>h.elim
 |refuse w=>exactλQ I ds U h=>h.elim
variable {fn:Func}
def wZ{a:Act}(h:cM N a I ds):results fn a.tmps=B3 fn I:=by have hg:∀t,a.tmps.getD t undef=I t:=h.tmps;simp only[results,B3,hg];rfl
def nV(args:Array Value)(_:Nat)(t:Nat):Value:=args.getD t undef
def sL(args:Array Value)(n:Nat)(h:args.size<=n):cM n {tmps:=args++Array.replicate (n-args.size) undef,defers:=[]} (nV args n) []:=by
 refine⟨by simp;omega,rfl,λt=>?_⟩;simp only[nV,Array.getD_eq_getD_getElem?];rcases Nat.lt_or_ge t args.size with bd|xI
 ·rw[Array.getElem?_append_left bd]
 ·rw[Array.getElem?_append_right xI,Array.getElem?_eq_none xI];rw[Array.getElem?_replicate];split<;>rfl
def FH(P:Program)(fn:Func)(I:av)(U:Hp)(v:Value):Prop:=wpS P (B3 fn I) (λv' ae=>v'=v/\ae=U) (λ_ _=>False) U
def UP(P:Program)(fn:Func)(R:Fin->Hp->Prop):Post
 | .normal,I,ds,U| .ret,I,ds,U=>ds=[]/\∃v J,J.le U/\FH P fn I J v/\R (.returned v) J
 | .panic ch,_,ds,U=>ds=[]/\∃J,J.le U/\R (.panicked ch) J
 | .exit _,_,_,_=>False
variable {f:FuncId}{c:Code}{args:Array Value}{R:Fin->Hp->Prop}
def Z4(hf:P.funcs[f]? =some fn)(hb:fn.body=some c)(hn:args.size<=fn.ntmps)(h:cO E fn.ntmps c (UP P fn R) (nV args fn.ntmps) [] U):aw E f args U R:=by
 intro cs
 let b:Frame:={(default:Frame)with fn:=f,kind:=.normal}
 have pd:Frame.enter P f args .normal=b.at {tmps:=args++Array.replicate (fn.ntmps-args.size) undef,defers:=[]} [.code c]:=by simp[Frame.enter,Frame.at,hf,hb,b]
 rw[pd];refine(Iq c _ _ _ _ h b [] cs _ (by simp[b]) (sL args fn.ntmps hn)).bind (Comes.mono ?_ ?_ ?_ ?_)
 ·rintro I ds ae a ha ⟨nD,v,J,hle,hv,hR⟩;refine ax.iR (J:=J) (ax.ctl (λw=>stepG_end) rfl rfl (ax.here ⟨.returned v,_,rfl,rfl,⟨rfl,?_,rfl,fn,hf,?_⟩,hR⟩)) hle
  ·have:=ha.defers;subst nD;exact this
  ·have:=wZ (fn:=fn) ha;simp only[Frame.at];rw[this];exact hv
 ·exactλid I ds ae a ra _ hq=>hq.elim
 ·rintro I ds ae a todo ha ⟨nD,v,J,hle,hv,hR⟩;refine ax.iR (J:=J) (ax.here ⟨.returned v,_,rfl,rfl,⟨rfl,?_,rfl,fn,hf,?_⟩,hR⟩) hle
  ·have:=ha.defers;subst nD;exact this
  ·have:=wZ (fn:=fn) ha;simp only[Frame.at];rw[this];exact hv
 ·rintro ch I ds ae a todo ha ⟨nD,J,hle,hR⟩;refine ax.iR (J:=J) (ax.here ⟨.panicked ch,_,rfl,rfl,⟨rfl,?_,fn,hf⟩,hR⟩) hle;have:=ha.defers;subst nD;exact this
def fL{x y:Code}(h:∀K:av->List Deferred->Hp->Prop,(∀I ds U,cO E N y Q I ds U->K I ds U)->cO E N x (lQ K Q) I ds U):cO E N (.seq x y) Q I ds U:=h _ λ_ _ _ x=>x
def Al{id:Nat}(h:cO E N c (pO id Q) I ds U):cO E N (.block id c) Q I ds U:=h
def lW(P:Program)(rs:Array ResultVar)(I:av)(U:Hp)(v:Value):Prop:=
 wpS P (do
  let vs<-rs.mapM λ
   | .tmp t=>pure (I t)
   | .cell a t=>do loadVar t (<-asAddr (I a))
  pure (if h:vs.size=1 then vs[0]else .tuple vs)) (λv' ae=>v'=v/\ae=U) (λ_ _=>False) U
def dz:lW P #[] I U (.tuple #[]):=by simp[lW,bt]
def aI{t:Tmp}:lW P #[.tmp t] I U (I t):=by simp[lW,bt]
def ji{t u:Tmp}:lW P #[.tmp t,.tmp u] I U (.tuple #[I t,I u]):=by simp[lW,bt]
variable {n:Nat}{rs:Array ResultVar}
def fZ(hf:P.funcs[f]? =some fn)(hn:fn.ntmps=n)(hr:fn.results=rs)(hb:fn.body=some c)(hs:args.size<=n)(h:∀Q:Post,(∀{I U J v},lW P rs I J v->J.le U->R (.returned v) J->Q .normal I [] U)->(∀{I U J v},lW P rs I J v->J.le U->R (.returned v) J->Q .ret I [] U)->(∀ch I U J,J.le U->R (.panicked ch) J->Q (.panic ch) I [] U)->
  cO E n c Q (nV args n) [] U):aw E f args U R:=by
 subst hn;subst hr;refine Z4 hf hb hs (h _ ?_ ?_ ?_)
 ·exactλ{I U J v} h1 hl h2=>⟨rfl,v,J,hl,h1,h2⟩
 ·exactλ{I U J v} h1 hl h2=>⟨rfl,v,J,hl,h1,h2⟩
 ·exactλch I U J hl h=>⟨rfl,J,hl,h⟩
def aV(hf:P.funcs[f]? =some fn)(hn:fn.ntmps=n)(hr:fn.results=rs)(h:∀Q:Post,(∀{I U J v},lW P rs I J v->J.le U->R (.returned v) J->Q .normal I [] U)->(∀{I U J v},lW P rs I J v->J.le U->R (.returned v) J->Q .ret I [] U)->(∀ch I U J,J.le U->R (.panicked ch) J->Q (.panic ch) I [] U)->
  cO E n c Q (nV args n) [] U)(hb:fn.body=some c:=by rfl)(hs:args.size<=n:=by simp):aw E f args U R:=fZ hf hn hr hb hs h
def dh(aut:Nat->av->List Deferred->Hp->Prop)(n:Nat)(h0:aut n I ds U)(hI:∀n I ds U (X:av->List Deferred->Hp->Prop),aut n I ds U->(∀m az da ae J,m<n->aut m az da J->J.le ae->X az da ae)->cO E N c (lQ X Q) I ds U):cO E N (.loop c) Q I ds U:=by
 unfold cO;intro X hX
 induction n using Nat.strongRecOn generalizing I ds U with
 |_ n ih=>
  refine hX _ _ _ (hI n I ds U (bK X) h0 ?_);exactλm az da ae J hm hi hle=>⟨J,hle,ih m hm hi⟩
def yy{id:Nat}(l:List Nat)(pn:List PanicEntry->List Deferred->Hp->Prop)(hm:P.follows .mixedOrders=true)(hc:sN ops l=true)(uA:∀ch I ds U,pn ch ds U->Q (.panic ch) I ds U)(h:gq E N ops Q pn l [] I ds U):cO E N (.region id ops true) Q I ds U:=
 λt=>P0 hc hm uA h t
def bJ{id:Nat}(k:Nat)(h:gq E N ops Q (λ_ _ _=>False) l [] I ds U)(hl:List.range k=l:=by simp only[List.range,List.range.loop];rfl)(hm:P.follows .mixedOrders=true:=by kernel_rfl)(hc:sN ops l=true:=by decide+kernel):cO E N (.region id ops true) Q I ds U:=yy l (λ_ _ _=>False) hm hc (λ_ _ _ _ h=>h.elim) h
def AP{id:Nat}(l:List Nat)(h:gq E N ops Q (λ_ _ _=>False) l [] I ds U)(hm:P.follows .mixedOrders=true:=by kernel_rfl)(hc:sN ops l=true:=by decide+kernel):cO E N (.region id ops true) Q I ds U:=yy l _ hm hc (λ_ _ _ _ h=>h.elim) h
def tick(a:α):α:=a
def Vw{a:α}:tick a=a:=id (Eq.refl a)
def ky(b:Bool)(p:Prop):Prop:=b=true/\p
variable {b:Bool}{p:Prop}
@[congr] theorem ar4{b':Bool}(h:tick b=b'):ky b p=ky b' p:=by subst h;rfl
def aas:ky true p=p:=by simp[ky]
def mP(k:α->Prop):Option α->Prop
 |some v=>k v
 |none=>False
@[congr] theorem atL{k:α->Prop}{a a':Option α}(h:tick a=a'):mP k a=mP k a':=by subst h;rfl
def al1{k:α->Prop}{v:α}:mP k (some v)=k v:=bp
def tG(p q:Prop):Value->Prop
 | .bool true=>p
 | .bool false=>q
 |_=>False
variable {q:Prop}{v':Value}
@[congr] theorem atN(h:tick v=v'):tG p q v=tG p q v':=by subst h;rfl
def amw:tG p q (.bool true)=p:=bp
def amu:tG p q (.bool false)=q:=bp
def ri(k:Addr->Prop):Value->Prop
 | .pointer (some a)=>k a
 |_=>False
@[congr] theorem atU{k:Addr->Prop}(h:tick v=v'):ri k v=ri k v':=by subst h;rfl
def amF{k:Addr->Prop}{a:Addr}:ri k (.pointer (some a))=k a:=bp
def yi(k:Value->Prop):Value->Prop
 | .pointer (some a)=>k (.pointer (some a))
 | .func (.func f) l c=>k (.func (.func f) l c)
 |_=>False
variable {k:Value->Prop}
@[congr] theorem atF(h:tick v=v'):yi k v=yi k v':=by subst h;rfl
def akQ{a:Addr}:yi k (.pointer (some a))=k (.pointer (some a)):=bp
def akP{l c:Array Value}:yi k (.func (.func f) l c)=k (.func (.func f) l c):=bp
def kN(k:Value->Prop)(v:Value):Prop:=k v
@[congr] theorem aue(h:tick v=v'):kN k v=kN k v':=by subst h;rfl
def Ak(k:Value->Prop)(i:Nat):Value->Prop
 | .tuple vs=>mP k vs[i]?
 |_=>False
@[congr] theorem aub(h:tick v=v'):Ak k i v=Ak k i v':=by subst h;rfl
def aqr{vs:Array Value}:Ak k i (.tuple vs)=mP k vs[i]? :=bp
def tD(U:Hp)(k:Nat->Prop):Prop:=∀b,U.f b=none->k b
variable {jC:Nat}
@[congr] theorem atE{k:Nat->Prop}(_:tick 0=jC):tD U k=tD U k:=rfl
def lN(p:Prop)(k:Value->Prop):Option Value->Prop
 |some v=>k v
 |none=>p
@[congr] theorem atM{a a':Option Value}(h:tick a=a'):lN p k a=lN p k a':=by subst h;rfl
def al4:lN p k (some v)=k v:=bp
def al3:lN p k none=p:=bp
variable {dst:Option Tmp}{pn:List PanicEntry->Hp->Prop}
@[congr] theorem arZ{OA:Array Value}(h:tick args=OA):kx E f args U dst I ds nx pn=kx E f OA U dst I ds nx pn:=by subst h;rfl
@[congr] theorem auh{l:List Oper}(_:tick 0=jC):jm E N ops Q l I ds U=jm E N ops Q l I ds U:=rfl
@[congr] theorem auf(_:tick 0=jC):cO E N c Q I ds U=cO E N c Q I ds U:=rfl
@[congr] theorem aui(_:tick 0=jC):wpOp E o I ds U nx pn=wpOp E o I ds U nx pn:=rfl
@[congr] theorem atK(_:tick 0=jC):aT E o I ds U nx pn=aT E o I ds U nx pn:=rfl
variable {rest:List Oper}{ty:TypeId}{pos:String}{af:Array Edge}
def aq8:jm E N ops Q (⟨dst,op,ty,pos,af,none⟩::rest) I ds U=ky (pC N dst) (aT E ⟨dst,op,ty,pos,af,none⟩ I ds U (jm E N ops Q rest) (λch ae=>Q (.panic ch) I ds ae)):=by simp[jm,Region.wanted,ky]
def mB(p q:Prop)(b:Bool)(a:Option Bool):Prop:=if a=some b then p else q
@[congr] theorem asG{a a':Option Bool}(h:tick a=a'):mB p q b a=mB p q b a':=by subst h;rfl
def ac3:mB p q true (some true)=p:=by simp[mB]
def acZ:mB p q false (some false)=p:=by simp[mB]
def ac2:mB p q true (some false)=q:=by simp[mB]
def ac0:mB p q false (some true)=q:=by simp[mB]
def aq6:jm E N ops Q (⟨dst,op,ty,pos,af,some (j,b)⟩::rest) I ds U=
 ky (pC N dst) (mB (aT E ⟨dst,op,ty,pos,af,some (j,b)⟩ I ds U (jm E N ops Q rest) (λch ae=>Q (.panic ch) I ds ae)) (jm E N ops Q rest (aC I dst undef) ds U) b (hU N ops I j)):=by
 simp only[jm,Region.wanted,ky,mB,beq_iff_eq]
def aq7:jm E N ops Q [] I ds U=Q .normal I ds U:=bp
variable {g:Option (Nat×Bool)}{x:Operand}
def anb:aT E ⟨dst,.move x,ty,pos,af,g⟩ I ds U nx pn=kN (λv=>nx (aC I dst v) ds U) (ak I x):=bp
def amV:aT E ⟨dst,.assign x,ty,pos,af,g⟩ I ds U nx pn=kN (λv=>nx (aC I dst v) ds U) (ak I x):=bp
def ang{c a b:Operand}:aT E ⟨dst,.pick c a b,ty,pos,af,g⟩ I ds U nx pn=tG (kN (λv=>nx (aC I dst v) ds U) (ak I a)) (kN (λv=>nx (aC I dst v) ds U) (ak I b)) (ak I c):=by
 simp only[aT,tG]
 cases ak I c<;>first|rfl|(rename_i t;cases t<;>rfl)
variable {t:TypeId}
def amU:aT E ⟨dst,.alloc t,ty,pos,af,g⟩ I ds U nx pn=mP (λz=>tD U λb=>nx (aC I dst (pV b)) ds (U.set b (.cells z.cells t))) (dw P t):=by
 simp only[aT,mP,tD]
 cases dw P t<;>rfl
def amX:aT E ⟨dst,.box t x,ty,pos,af,g⟩ I ds U nx pn=kN (λv=>tD U λb=>nx (aC I dst (pV b)) ds (U.set b (.cells v.cells t))) (ak I x):=bp
def am7:aT E ⟨dst,.load t x,ty,pos,af,g⟩ I ds U nx pn=ky (dq P t) (ri (λa=>oD P t a U (λv=>nx (aC I dst v) ds U)) (ak I x)):=by
 simp only[aT,ri,ky]
 cases ak I x<;>first|(simp only[and_false];done)|(rename_i t;cases t<;>simp)
def anj{v:Operand}:aT E ⟨dst,.store t x v,ty,pos,af,g⟩ I ds U nx pn=ky (dq P t) (ri (λa=>kN (λv=>vo P t a v U λae=>nx (aC I dst undef) ds ae) (ak I v)) (ak I x)):=by
 simp only[aT,ri,ky,kN]
 cases ak I x<;>first|(simp only[and_false];done)|(rename_i t;cases t<;>simp)
def ane:aT E ⟨dst,.nilCheck x,ty,pos,af,g⟩ I ds U nx pn=yi (λv=>nx (aC I dst v) ds U) (ak I x):=by
 simp only[aT];unfold yi;generalize ak I x=y
 cases y<;>first|rfl|(rename_i a;cases a<;>rfl)|(rename_i a b c;cases a<;>rfl)
def am3{s:TypeId}{f:Nat}:aT E ⟨dst,.fieldAddr s x f,ty,pos,af,g⟩ I ds U nx pn=ri (λa=>mP (λn=>kN (λv=>nx (aC I dst v) ds U) (.pointer (some (a.add n)))) (bL P s f)) (ak I x):=by
 simp only[aT,ri]
 cases ak I x<;>first|rfl|(rename_i t;cases t<;>cases bL P s f<;>rfl)
variable {u:TypeId}
def amW{op:BinOp}{y:Operand}:aT E ⟨dst,.binOp op t x y u,ty,pos,af,g⟩ I ds U nx pn=
 lN (lN (lN (wpOp E ⟨dst,.binOp op t x y u,ty,pos,af,g⟩ I ds U nx pn) (λv=>nx (aC I dst v) ds U) (nO P op t x y (ak I x) (ak I y))) (λv=>nx (aC I dst v) ds U) (fi P op t (ak I x) (ak I y)))
  (λv=>nx (aC I dst v) ds U) (cK op (ak I x) (ak I y)):=by
 simp only[aT,lN]
 cases cK op (ak I x) (ak I y)<;>cases fi P op t (ak I x) (ak I y)<;>cases nO P op t x y (ak I x) (ak I y)<;>rfl
def ann{op:UnOp}:aT E ⟨dst,.unOp op t x,ty,pos,af,g⟩ I ds U nx pn=mP (λv=>nx (aC I dst v) ds U) (vr op (ak I x)):=by
 simp only[aT,mP]
 cases vr op (ak I x)<;>rfl
def am1{s d:TypeId}(hn:lR P s d=none):aT E ⟨dst,.convert s d x,ty,pos,af,g⟩ I ds U nx pn=lN (wpOp E ⟨dst,.convert s d x,ty,pos,af,g⟩ I ds U nx pn) (λv=>nx (aC I dst v) ds U) (mA P s d (ak I x)):=by
 simp only[aT,lN,hn]
 cases mA P s d (ak I x)<;>rfl
def iJ(P:Program)(t:TypeId):Bool:=match P.underlying t with|some (.interface _)=>false|some _=>true|none=>false
def am9:aT E ⟨dst,.makeInterface t x,ty,pos,af,g⟩ I ds U nx pn=ky (iJ P t) (kN (λv=>nx (aC I dst (.iface t v)) ds U) (ak I x)):=by
 simp only[aT,ky,iJ,kN]
 cases P.underlying t with
 |none=>simp
 |some d=>cases d<;>simp
def am8{f:Fn}{l c:Array Operand}:aT E ⟨dst,.makeFunc f l c,ty,pos,af,g⟩ I ds U nx pn=kN (λv=>nx (aC I dst v) ds U) (.func f (l.map (ak I)) (c.map (ak I))):=bp
def ana:aT E ⟨dst,.makeMap t none,ty,pos,af,g⟩ I ds U nx pn=tD U λb=>nx (aC I dst (.map (some b))) ds (U.set b (.map #[] 0)):=bp
def am2:aT E ⟨dst,.extract x i,ty,pos,af,g⟩ I ds U nx pn=Ak (λv=>nx (aC I dst v) ds U) i (ak I x):=by
 simp only[aT,Ak]
 cases ak I x<;>first|rfl|(rename_i vs;simp only[mP];cases vs[i]? <;>rfl)
variable {as:Array Operand}{cA:Array TypeId}
def am0:aT E ⟨dst,.call ⟨.value (.func f),as,cA⟩,ty,pos,af,g⟩ I ds U nx pn=kx E f (as.map (ak I)) U dst I ds nx pn:=bp
def ER{x:Tmp}{l cap:Array Value}(h:I x=.func (.func f) l cap):aT E ⟨dst,.call ⟨.value (.tmp x),as,cA⟩,ty,pos,af,g⟩ I ds U nx pn=kx E f (l++as.map (ak I)++cap) U dst I ds nx pn:=by simp only[aT,h]
def oE(P:Program)(p:Prop)(k:Value->Prop)(t:TypeId)(x:Value):Prop:=
 match xY P t x,xZ x with
 |true,some v=>k v
 |_,_=>p
@[congr] theorem att(h:tick v=v'):oE P p k t v=oE P p k t v':=by subst h;rfl
def ajv{s:ByteArray}(h:P.underlying t=some .string):oE P p k t (.string s)=k (.int .i64 s.size):=by simp[oE,xY,xZ,h]
def aju{a:Option Addr}{c:Nat}(h:(tJ P t).isSome=true):oE P p k t (.slice a n c)=k (.int .i64 n):=by obtain⟨e,he⟩:=Option.isSome_iff_exists.1 h;simp[oE,xY,xZ,H8 he]
def am6(h:cA[0]? =some t):aT E ⟨dst,.call ⟨.builtin .len,#[x],cA⟩,ty,pos,af,g⟩ I ds U nx pn=
 oE P (wpOp E ⟨dst,.call ⟨.builtin .len,#[x],cA⟩,ty,pos,af,g⟩ I ds U nx pn) (λv=>nx (aC I dst v) ds U) t (ak I x):=by
 have e:(#[x].map (ak I))[0]? =some (ak I x):=al;simp only[aT,h,e,oE];rfl
def aqP(d:Nat)(v:Value):up I d v d=v:=by simp[up]
def aqO{d t:Nat}(v:Value)(h:(t==d)=false):up I d v t=I t:=by simp at h;simp[up,h]
def ab8(t:Tmp):ak I (.tmp t)=I t:=bp
def ab5(v:Value):ak I (.const v)=v:=bp
def ab6(f:FuncId):ak I (.func f)=.func (.func f) #[] #[]:=bp
def ab7(f:Nat):ak I (.global f)=pV f:=bp
def amP(d:Tmp)(v:Value):aC I (some d) v=up I d v:=bp
def amO(v:Value):aC I none v=I:=bp
def alz{d:Tmp}:pC N (some d)=decide (d<N):=bp
def aly:pC N none=true:=bp
@[congr] theorem atq{a:Addr}(_:tick 0=jC):oD P t a U k=oD P t a U k:=rfl
@[congr] theorem at4{a:Addr}{k:Hp->Prop}(_:tick 0=jC):vo P t a v U k=vo P t a v U k:=rfl
def tE(k:Obj->Prop):Option Obj->Prop
 |some o=>k o
 |none=>False
@[congr] theorem atJ{k:Obj->Prop}{a a':Option Obj}(h:tick a=a'):tE k a=tE k a':=by subst h;rfl
variable {o:Obj}
def T7{k:Obj->Prop}:tE k (some o)=k o:=bp
def od(off:Nat)(k:Value->Prop):Obj->Prop
 | .cells c _ _=>mP k c[off]?
 |_=>False
variable {off:Nat}{o':Obj}
@[congr] theorem ar1(h:tick o=o'):od off k o=od off k o':=by subst h;rfl
def cellsIn(off n:Nat)(k:Value->Prop):Obj->Prop
 | .cells c _ _=>off+n<=c.size/\k (.agg (c.extract off (off+n)))
 |_=>False
@[congr] theorem ar2{n':Nat}(h:tick o=o')(hn:tick n=n'):cellsIn off n k o=cellsIn off n' k o':=by subst h;subst hn;rfl
variable {e:TypeId}
def aac{c:Array Value}{z:Nat×Nat}:cellsIn off n k (.cells c e z)=(off+n<=c.size/\k (.agg (c.extract off (off+n)))):=bp
variable {b:Nat}
def ajd(h:dC P t=false):oD P t ⟨b,off,none⟩ U k=tE (od off k) (U.f b):=by
 simp only[oD,h,Bool.false_eq_true,if_false,tE,Hp.cell?]
 cases U.f b with
 |none=>rfl
 |some o=>
  cases o<;>first|rfl|skip
  rename_i c e z;simp only[od,mP,Option.isSome_none,Bool.false_eq_true,if_false]
  cases c[off]? <;>rfl
def ajc(h:dC P t=true)(hn:cC P t=n):oD P t ⟨b,off,none⟩ U k=tE (cellsIn off n k) (U.f b):=by
 subst hn;simp only[oD,h,if_true,tE,cellsOf]
 cases U.f b with
 |none=>rfl
 |some o=>
  cases o<;>first|rfl|skip
  rename_i c e z;simp only[cellsIn,true_and];by_cases hc:off+cC P t<=c.size<;>simp[hc]
def IX:(⟨b,off,none⟩:Addr).add n=⟨b,off+n,none⟩:=Addr.FK rfl n
def yp(P:Program)(t:TypeId)(off:Nat)(v:Value)(k:Obj->Prop):Obj->Prop
 | .cells c e z=>
   if dn v then off<c.size/\z=(0,0)/\cC P t=1/\k (.cells (c.setIfInBounds off v) e z)
   else off+v.cells.size<=c.size/\z=(0,0)/\cC P t=v.cells.size/\v.cells.all dn=true/\k (.cells (c.extract 0 off++v.cells++c.extract (off+v.cells.size) c.size) e z)
 |_=>False
@[congr] theorem atV{k:Obj->Prop}(h:tick o=o')(hv:tick v=v'):yp P t off v k o=yp P t off v' k o':=by subst h;subst hv;rfl
def aps{k:Hp->Prop}:vo P t ⟨b,off,none⟩ v U k=tE (yp P t off v (λo=>k (U.set b o))) (U.f b):=by
 unfold vo tE
 cases U.f b with
 |none=>rfl
 |some o=>cases o<;>first|rfl|(simp only[yp,true_and])
def B(l:List UInt8):ByteArray:=⟨l.toArray⟩
def akc(l:List UInt8):(⟨l.toArray⟩:ByteArray)=B l:=bp
def akd:(⟨#[]⟩:ByteArray)=B []:=bp
def NN(l:List UInt8):(B l).data=l.toArray:=bp
def xb(l:List UInt8):(B l).size=l.length:=by show l.toArray.size=_;simp
def aqn(b:ByteArray):∀(n i:Nat) (r:List UInt8),b.size-i=n->ByteArray.toList.loop b i r=r.reverse++b.data.toList.drop i:=by
 intro n
 induction n with
 |zero=>
  intro i r h;unfold ByteArray.toList.loop;have:¬i<b.size:=aa;rw[if_neg this]
  have:b.data.toList.length<=i:=by have h2:b.data.toList.length=b.size:=rfl;omega
  simp[List.drop_eq_nil_of_le this]
 |succ n ih=>
  intro i r h;unfold ByteArray.toList.loop;have bd:i<b.size:=aa;rw[if_pos bd,ih (i+1) _ aa];have hl:i<b.data.toList.length:=bd;rw[List.drop_eq_getElem_cons hl]
  have:b.get! i=b.data.toList[i]:=by have h2:i<b.data.size:=aY hl;show b.data[i]! =_;rw[getElem!_pos b.data i h2];simp
  simp[this]
def Ii(l:List UInt8):(B l).toList=l:=by unfold ByteArray.toList;rw[aqn (B l) _ 0 [] rfl];simp[B]
def Wi(a b:List UInt8):B a++B b=B (a++b):=by apply ByteArray.ext;simp[B]
def NO(l:List UInt8)(i j:Nat):(B l).extract i j=B ((l.drop i).take (j-i)):=by apply ByteArray.ext;simp[B,List.extract_eq_take_drop]
def js(p q:Prop):Prop:=p/\q
@[congr] theorem ar3{p':Prop}(h:tick p=p'):js p q=js p' q:=by subst h;rfl
def aar:js True q=q:=by simp[js]
def xW(c p q:Prop):Prop:=(c->p)/\(¬c->q)
@[congr] theorem atm{c c':Prop}(h:tick c=c'):xW c p q=xW c' p q:=by subst h;rfl
def air:xW True p q=p:=by simp[xW]
def aiq:xW False p q=q:=by simp[xW]
def amv{b:Bool}(h:b=true->p)(k:b=false->q):tG p q (.bool b):=by
 cases b
 ·exact k rfl
 ·exact h rfl
noncomputable def qI(c:Prop)(v:Value):Option Value:=open Classical in if c then some v else none
def al2{c:Prop}:lN p k (qI c v)=xW c (k v) p:=by unfold qI xW;by_cases h:c<;>simp[h,lN]
def Ja(s t:List UInt8):(s==t)=decide (s=t):=by by_cases h:s=t<;>simp[h]
def B7(k:IntKind)(a b:Int):Int:=k.wrap (a*2^(min b.toNat k.bits))
def yu(k:IntKind)(a b:Int):Int:=a.fdiv (2^(min b.toNat k.bits))
def HE(k:IntKind)(a b:Int):Int:=k.wrap ((BitVec.ofInt k.bits a|||BitVec.ofInt k.bits b).toNat)
def Cu(k:IntKind)(a b:Int):Int:=k.wrap ((BitVec.ofInt k.bits a&&&BitVec.ofInt k.bits b).toNat)
def Ix(k:IntKind)(a b:Int):Int:=k.wrap ((BitVec.ofInt k.bits a^^^BitVec.ofInt k.bits b).toNat)
variable {k:IntKind}{a b:Int}
def bv_add:cK .add (.int k a) (.int k b)=some (.int k (k.wrap (a+b))):=by simp[cK]
def Zw:cK .sub (.int k a) (.int k b)=some (.int k (k.wrap (a-b))):=by simp[cK]
def Zh:cK .mul (.int k a) (.int k b)=some (.int k (k.wrap (a*b))):=by simp[cK]
def Zo:cK .quo (.int k a) (.int k b)=qI (b≠0) (.int k (k.wrap (a.tdiv b))):=by simp[cK,qI]
def Zp:cK .rem (.int k a) (.int k b)=qI (b≠0) (.int k (a.tmod b)):=by simp[cK,qI]
def Za:cK .eql (.int k a) (.int k b)=some (.bool (decide (a=b))):=by simp[cK];rfl
def Zi:cK .neq (.int k a) (.int k b)=some (.bool (decide (a≠b))):=by simp[cK,bne];rfl
def Zg:cK .lss (.int k a) (.int k b)=some (.bool (decide (a<b))):=by simp[cK]
def Zf:cK .leq (.int k a) (.int k b)=some (.bool (decide (a<=b))):=by simp[cK]
def Zc:cK .gtr (.int k a) (.int k b)=some (.bool (decide (b<a))):=by simp[cK]
def Zb:cK .geq (.int k a) (.int k b)=some (.bool (decide (b<=a))):=by simp[cK]
variable {j:IntKind}
def Zs:cK .shl (.int k a) (.int j b)=qI (0<=b) (.int k (B7 k a b)):=by simp[cK,qI,B7]
def Zt:cK .shr (.int k a) (.int j b)=qI (0<=b) (.int k (yu k a b)):=by simp[cK,qI,yu]
def Zl:cK .or (.int k a) (.int k b)=some (.int k (HE k a b)):=by simp[cK,HE]
def bv_and:cK .and (.int k a) (.int k b)=some (.int k (Cu k a b)):=by simp[cK,Cu]
def Zx:cK .xor (.int k a) (.int k b)=some (.int k (Ix k a b)):=by simp[cK,Ix]
variable {s t:List UInt8}
def Pa:cK .add (.string (B s)) (.string (B t))=qI (s.length+t.length<=9223372036854775807) (.string (B (s++t))):=by
 simp only[cK,xb,qI,Wi];by_cases h:s.length+t.length<=9223372036854775807
 ·rw[if_pos aa,if_pos h]
 ·rw[if_neg aa,if_neg h]
def Zq:cK .eql (.string (B s)) (.string (B t))=some (.bool (decide (s=t))):=by simp[cK,Ii,Ja]
def Zv:cK .neq (.string (B s)) (.string (B t))=some (.bool (decide (s≠t))):=by simp[cK,Ii,Ja]
def Zu:cK .lss (.string (B s)) (.string (B t))=some (.bool (Op.bytesLess s t)):=by simp[cK,Ii]
def Zr:cK .gtr (.string (B s)) (.string (B t))=some (.bool !(Op.bytesLess s t||decide (s=t))):=by simp[cK,Ii,Ja]
variable {op:BinOp}
def Zm{x y:Option Addr}:cK op (.pointer x) (.pointer y)=none:=by cases op<;>rfl
def Y9{x y:Bool}:cK op (.bool x) (.bool y)=none:=by cases op<;>rfl
def Zk:cK op .nilIface .nilIface=none:=by cases op<;>rfl
def Zj:cK op .nilIface (.iface u v)=none:=by cases op<;>rfl
def Ze:cK op (.iface u v) .nilIface=none:=by cases op<;>rfl
def Zd{u':TypeId}:cK op (.iface u v) (.iface u' v')=none:=by cases op<;>rfl
def qm(P:Program)(t:TypeId):Bool:=match P.underlying t with|some (.pointer _)=>true|_=>false
def uI(P:Program)(t:TypeId):Bool:=match P.underlying t with|some (.interface _)=>true|_=>false
def FU(P:Program)(t:TypeId):Bool:=match P.underlying t with|some .bool=>true|_=>false
def BT(h:qm P ty=true):∃e,P.underlying ty=some (.pointer e):=by unfold qm at h;split at h<;>first|exact⟨_,by assumption⟩|cases h
def Bz(h:uI P ty=true):∃e,P.underlying ty=some (.interface e):=by unfold uI at h;split at h<;>first|exact⟨_,by assumption⟩|cases h
def O9(h:FU P ty=true):P.underlying ty=some .bool:=by unfold FU at h;split at h<;>first|assumption|cases h
variable {a:Addr}
def alr(h:qm P ty=true):fi P .eql ty (.pointer (some a)) (.pointer none)=some (.bool false):=by obtain⟨e,he⟩:=BT h;simp[fi,he]
def alq(h:qm P ty=true):fi P .eql ty (.pointer none) (.pointer (some a))=some (.bool false):=by obtain⟨e,he⟩:=BT h;simp[fi,he]
def alp(h:qm P ty=true):fi P .eql ty (.pointer none) (.pointer none)=some (.bool true):=by obtain⟨e,he⟩:=BT h;simp[fi,he]
def ak2(h:qm P ty=true):fi P .neq ty (.pointer (some a)) (.pointer none)=some (.bool true):=by obtain⟨e,he⟩:=BT h;simp[fi,he]
def ak1(h:qm P ty=true):fi P .neq ty (.pointer none) (.pointer (some a))=some (.bool true):=by obtain⟨e,he⟩:=BT h;simp[fi,he]
def ak0(h:qm P ty=true):fi P .neq ty (.pointer none) (.pointer none)=some (.bool false):=by obtain⟨e,he⟩:=BT h;simp[fi,he]
variable {a b:Bool}
def alk(h:FU P ty=true):fi P .eql ty (.bool a) (.bool b)=some (.bool (decide (a=b))):=by simp[fi,O9 h];cases a<;>cases b<;>rfl
def akX(h:FU P ty=true):fi P .neq ty (.bool a) (.bool b)=some (.bool (decide (a≠b))):=by simp[fi,O9 h];cases a<;>cases b<;>rfl
def aln(h:uI P ty=true):fi P .eql ty (.iface u v) .nilIface=some (.bool false):=by obtain⟨e,he⟩:=Bz h;simp[fi,he]
def alo(h:uI P ty=true):fi P .eql ty .nilIface (.iface u v)=some (.bool false):=by obtain⟨e,he⟩:=Bz h;simp[fi,he]
def akY(h:uI P ty=true):fi P .neq ty (.iface u v) .nilIface=some (.bool true):=by obtain⟨e,he⟩:=Bz h;simp[fi,he]
def akZ(h:uI P ty=true):fi P .neq ty .nilIface (.iface u v)=some (.bool true):=by obtain⟨e,he⟩:=Bz h;simp[fi,he]
def alm:fi P op ty .nilIface .nilIface=none:=by unfold fi;cases op<;>cases P.underlying ty<;>first|rfl|(rename_i d;cases d<;>rfl)
variable {y:Operand}
def akU(h:uI P ty=true)(hc:(Region.isConst x||Region.isConst y)=true):nO P .eql ty x y .nilIface .nilIface=some (.bool true):=by obtain⟨e,he⟩:=Bz h;simp only[nO,he,hc,if_true]
def akV(h:uI P ty=true)(hc:(Region.isConst x||Region.isConst y)=true):nO P .neq ty x y .nilIface .nilIface=some (.bool false):=by obtain⟨e,he⟩:=Bz h;simp only[nO,he,hc,if_true]
def aqR:vr .not (.bool b)=some (.bool !b):=bp
variable {a:Int}
def aqQ:vr .neg (.int k a)=some (.int k (k.wrap (0-a))):=bp
def Lv(P:Program)(t:TypeId):Option IntKind:=match P.underlying t with|some (.int k)=>some k|_=>none
def qw(P:Program)(t:TypeId):Bool:=match P.underlying t with|some .string=>true|_=>false
def Eb(P:Program)(t:TypeId):Bool:=(P.underlying t).isSome
variable {s d:TypeId}
def abd(hs:Eb P s=true)(hd:Lv P d=some k):mA P s d (.int j a)=some (.int k (k.wrap a)):=by
 unfold Eb at hs;obtain⟨u,hu⟩:=Option.isSome_iff_exists.1 hs;have:P.underlying d=some (.int k):=by unfold Lv at hd;split at hd<;>first|(cases hd;assumption)|cases hd
 simp[mA,hu,this]
def E7(h:qw P ty=true):P.underlying ty=some .string:=by unfold qw at h;split at h<;>first|assumption|cases h
def abf(hs:Eb P s=true)(hd:qw P d=true):mA P s d (.string (B t))=some (.string (B t)):=by unfold Eb at hs;obtain⟨u,hu⟩:=Option.isSome_iff_exists.1 hs;simp[mA,hu,E7 hd]
def tz(P:Program)(s d:TypeId):Option IntKind:=if Eb P s then Lv P d else none
def ZY{x y:Code}:cO E N (.seq x y) Q I ds U=cO E N x (lQ (cO E N y Q) Q) I ds U:=bp
def ZW{id:Nat}{l:List Oper}:cO E N (.region id l.toArray false) Q I ds U=jm E N l.toArray Q l I ds U:=bp
def ZZ:cO E N .skip Q I ds U=Q .normal I ds U:=bp
def ZV{l:Nat}:cO E N (.label l) Q I ds U=Q .normal I ds U:=bp
def ZX:cO E N .ret Q I ds U=Q .ret I ds U:=bp
def ZU{id:Nat}:cO E N (.exit id) Q I ds U=Q (.exit id) I ds U:=bp
def ZS{id:Nat}:cO E N (.block id c) Q I ds U=cO E N c (pO id Q) I ds U:=bp
def ZT{a b:Code}:cO E N (.cond x a b) Q I ds U=tG (cO E N a Q I ds U) (cO E N b Q I ds U) (ak I x):=by
 simp only[cO];unfold tG;generalize ak I x=v
 cases v<;>first|rfl|(rename_i t;cases t<;>rfl)
def apX:lQ nx Q .normal az ds U=nx az ds U:=bp
def apW{id:Nat}:lQ nx Q (.exit id) I ds U=Q (.exit id) I ds U:=bp
def apZ:lQ nx Q .ret I ds U=Q .ret I ds U:=bp
def apY{ch:List PanicEntry}:lQ nx Q (.panic ch) I ds U=Q (.panic ch) I ds U:=bp
def Ye{id:Nat}:pO id Q .normal I ds U=Q .normal I ds U:=bp
def Yg{id:Nat}:pO id Q .ret I ds U=Q .ret I ds U:=bp
def Yf{id:Nat}{ch:List PanicEntry}:pO id Q (.panic ch) I ds U=Q (.panic ch) I ds U:=bp
def Yb{id:Nat}:pO id Q (.exit id) I ds U=Q .normal I ds U:=by simp[pO]
def Yd{id:Nat}(h:(i==id)=false):pO id Q (.exit i) I ds U=Q (.exit i) I ds U:=by have:¬i=id:=aY h;simp[pO,this]
@[congr] theorem at6{e:Ex}(_:tick 0=jC):lQ nx Q e I ds U=lQ nx Q e I ds U:=rfl
@[congr] theorem arV{e:Ex}{id:Nat}(_:tick 0=jC):pO id Q e I ds U=pO id Q e I ds U:=rfl
def iX(P:Program)(t:TypeId):Option Nat:=match tJ P t with
 |some e=>(P.info? e).map (·.size)
 |none=>none
variable {t:TypeId}{z:Nat}
def CO(h:iX P t=some z):∃e,tJ P t=some e/\(P.info? e).isSome=true/\cC P e=z:=by
 unfold iX at h;split at h
 ·rename_i e he;obtain⟨i,hi,rfl⟩:=Option.map_eq_some_iff.1 h;exact⟨e,he,by simp[hi],by simp[cC,hi]⟩
 ·cases h
def uN(p:Prop)(z:Nat)(k:Value->Prop)(i:Value)(x:Value):Prop:=
 match x,i with
 | .slice (some a) n _,.int _ j=>js (0<=j/\j<n) (k (.pointer (some (a.add (j.toNat*z)))))
 |_,_=>p
variable {k:Value->Prop}{i' x':Value}
@[congr] theorem atn{i x:Value}(hi:tick i=i')(hx:tick x=x'):uN p z k i x=uN p z k i' x':=by subst hi;subst hx;rfl
variable {kk:IntKind}{j:Int}{c:Nat}
def ais{b:Nat}:uN p z k (.int kk j) (.slice (some ⟨b,off,none⟩) n c)=js (0<=j/\j<n) (k (.pointer (some ⟨b,off+j.toNat*z,none⟩))):=by simp only[uN,IX]
def am5{i:Operand}(h:iX P t=some z):aT E ⟨dst,.indexAddr t x i,ty,pos,af,g⟩ I ds U nx pn=
 uN (wpOp E ⟨dst,.indexAddr t x i,ty,pos,af,g⟩ I ds U nx pn) z (λv=>nx (aC I dst v) ds U) (ak I i) (ak I x):=by
 obtain⟨e,he,hs,hz⟩:=CO h;subst hz;simp only[aT];unfold uN;generalize ak I x=vx;generalize ak I i=vi;rw[he]
 cases vx with
 |slice a n c=>
  cases a with
  |none=>cases vi<;>rfl
  |some a=>
   cases vi with
   |int kk j=>simp only[hs,and_true,js]
   |_=>rfl
 |_=>cases vi<;>rfl
def pP(l:List UInt8)(i:Nat):Int:=((l.getD i 0).toNat:Int)
variable {s:List UInt8}
def AJ(p:Prop)(k:Value->Prop)(i:Value)(x:Value):Prop:=
 match x,i with
 | .string s,.int _ j=>∃h:0<=j/\j.toNat<s.size,k (.int .u8 (s[j.toNat]'h.2).toNat)
 |_,_=>p
@[congr] theorem arY{i x:Value}(hi:tick i=i')(hx:tick x=x'):AJ p k i x=AJ p k i' x':=by subst hi;subst hx;rfl
def Zy{l:List UInt8}:AJ p k (.int kk j) (.string (B l))=js (0<=j/\j<l.length) (k (.int .u8 (pP l j.toNat))):=by
 simp only[AJ,js,eq_iff_iff]
 have e:∀h:j.toNat<(B l).size,(B l)[j.toNat]'h=l.getD j.toNat 0:=by
  intro h;have hk:j.toNat<l.length:=by rw[xb]at h;exact h
  have:(B l)[j.toNat]'h=l[j.toNat]'hk:=by show(B l).data[j.toNat]=_;simp[B]
  rw[this,List.getD_eq_getElem?_getD,List.getElem?_eq_getElem hk,Option.getD_some]
 constructor
 ·rintro⟨h,k1⟩;rw[e]at k1;have:=h.2;rw[xb]at this;exact⟨⟨h.1,aa⟩,k1⟩
 ·rintro⟨h,k1⟩;have h2:j.toNat<(B l).size:=by rw[xb];omega
  exact⟨⟨h.1,h2⟩,by rw[e];exact k1⟩
def am4{i:Operand}(h:qw P t=true):aT E ⟨dst,.index t x i,ty,pos,af,g⟩ I ds U nx pn=
 AJ (wpOp E ⟨dst,.index t x i,ty,pos,af,g⟩ I ds U nx pn) (λv=>nx (aC I dst v) ds U) (ak I i) (ak I x):=by
 simp only[aT,E7 h];unfold AJ;generalize ak I x=vx;generalize ak I i=vi
 cases vx<;>cases vi<;>rfl
def mL(k:Int->Prop):Option Value->Prop
 |none=>k 0
 |some (.int _ i)=>k i
 |_=>False
variable {k:Int->Prop}{a a':Option Value}
@[congr] theorem atu(h:tick a=a'):mL k a=mL k a':=by subst h;rfl
def ajF:mL k none=k 0:=bp
def ajG{i:Int}:mL k (some (.int kk i))=k i:=bp
def jx(n:Nat)(k:Int->Prop):Option Value->Prop
 |none=>k n
 |some (.int _ i)=>k i
 |_=>False
@[congr] theorem asV(h:tick a=a'):jx n k a=jx n k a':=by subst h;rfl
def afv:jx n k none=k n:=bp
def afw{i:Int}:jx n k (some (.int kk i))=k i:=bp
def yv(p:Prop)(k:Value->Prop)(lo hi:Option Value):Value->Prop
 | .string s=>mL (λl=>jx s.size (λh=>js (0<=l/\l<=h/\h<=s.size) (k (.string (s.extract l.toNat h.toNat)))) hi) lo
 |_=>p
variable {k:Value->Prop}{lo hi:Option Value}
@[congr] theorem at3{x:Value}(h:tick x=x'):yv p k lo hi x=yv p k lo hi x':=by subst h;rfl
def apr:yv p k lo hi (.string (B s))=
 mL (λl=>jx s.length (λh=>js (0<=l/\l<=h/\h<=s.length) (k (.string (B ((s.drop l.toNat).take (h.toNat-l.toNat)))))) hi) lo:=by
 show mL (λl=>jx (B s).size (λh=>js (0<=l/\l<=h/\h<=(B s).size) (k (.string ((B s).extract l.toNat h.toNat)))) hi) lo=_;rw[xb];congr 1;funext l;congr 1;funext h;rw[NO]
def ani{lo hi:Option Operand}(h:qw P t=true):aT E ⟨dst,.slice t x lo hi none,ty,pos,af,g⟩ I ds U nx pn=
 yv (wpOp E ⟨dst,.slice t x lo hi none,ty,pos,af,g⟩ I ds U nx pn) (λv=>nx (aC I dst v) ds U) (lo.map (ak I)) (hi.map (ak I)) (ak I x):=by
 simp only[aT,E7 h];generalize ak I x=vx
 cases vx with
 |string s=>
  simp only[yv,js]
  cases lo with
  |none=>
   simp only[Option.map_none,nT,mL]
   cases hi with
   |none=>simp[jQ,jx]
   |some hh=>simp only[Option.map_some,jQ,jx];cases ak I hh<;>rfl
  |some ll=>
   simp only[Option.map_some]
   cases ak I ll with
   |int kk n=>
    simp only[nT,mL]
    cases hi with
    |none=>simp[jQ,jx]
    |some hh=>simp only[Option.map_some,jQ,jx];cases ak I hh<;>rfl
   |_=>rfl
 |_=>rfl
variable {a:Int}
def xf(p:Prop)(z:Nat)(k:Value->Prop)(lo hi:Option Value):Value->Prop
 | .slice a n c=>mL (λl=>jx n (λh=>js (0<=l/\l<=h/\h<=c) (k (.slice (if c=l.toNat then a else a.map (·.add (l.toNat*z))) (h.toNat-l.toNat) (c-l.toNat)))) hi) lo
 |_=>p
@[congr] theorem at5{x:Value}(h:tick x=x'):xf p z k lo hi x=xf p z k lo hi x':=by subst h;rfl
def apR{a:Option Addr}:xf p z k lo hi (.slice a n c)=
 mL (λl=>jx n (λh=>js (0<=l/\l<=h/\h<=c) (k (.slice (if c=l.toNat then a else a.map (·.add (l.toNat*z))) (h.toNat-l.toNat) (c-l.toNat)))) hi) lo:=rfl
def anh{lo hi:Option Operand}(h:iX P t=some z):aT E ⟨dst,.slice t x lo hi none,ty,pos,af,g⟩ I ds U nx pn=
 xf (wpOp E ⟨dst,.slice t x lo hi none,ty,pos,af,g⟩ I ds U nx pn) z (λv=>nx (aC I dst v) ds U) (lo.map (ak I)) (hi.map (ak I)) (ak I x):=by
 obtain⟨e,he,hs,hz⟩:=CO h;subst hz;simp only[aT,H8 he];generalize ak I x=vx
 cases vx with
 |slice a n c=>
  simp only[xf,js,hs,and_true]
  cases lo with
  |none=>
   simp only[Option.map_none,nT,mL]
   cases hi with
   |none=>simp[jQ,jx]
   |some hh=>simp only[Option.map_some,jQ,jx];cases ak I hh<;>rfl
  |some ll=>
   simp only[Option.map_some]
   cases ak I ll with
   |int kk n=>
    simp only[nT,mL]
    cases hi with
    |none=>simp[jQ,jx]
    |some hh=>simp only[Option.map_some,jQ,jx];cases ak I hh<;>rfl
   |_=>rfl
 |_=>rfl
end Go.Qw
