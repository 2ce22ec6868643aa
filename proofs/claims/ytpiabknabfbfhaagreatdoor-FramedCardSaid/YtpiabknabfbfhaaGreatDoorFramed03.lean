/- 3 -/
import Derived.Orders
import Derived.Test.YtpiabknabfbfhaaGreatDoorFramed02
set_option linter.all false
set_option maxRecDepth 100000
set_option maxHeartbeats 8000000
namespace Go.Qw
open Go Go.Conc
def iQ(P:Program)(t:TypeId)(a:Addr)(U:Hp):Option Value:=
 if dD P t then(cellsOf U a (cC P t)).map .agg else U.cell? a
def cT(P:Program)(op:Op)(I:av)(U:Hp):Option Value:=
 match op with
 | .move x| .assign x=>some (ai I x)
 | .pick c a b=>match ai I c with
   | .bool true=>some (ai I a)
   | .bool false=>some (ai I b)
   |_=>none
 | .load t x=>match ai I x with
   | .pointer (some a)=>if dk P t then iQ P t a U else none
   |_=>none
 | .nilCheck x=>match ai I x with
   | .pointer (some a)=>some (.pointer (some a))
   | .func (.func f) l c=>some (.func (.func f) l c)
   |_=>none
 | .fieldAddr s x f=>match ai I x,bL P s f with
   | .pointer (some a),some off=>some (.pointer (some (a.add off)))
   |_,_=>none
 | .binOp op t x y _=>match cL op (ai I x) (ai I y)with
   |some v=>some v
   |none=>match eO P op t (ai I x) (ai I y)with
    |some v=>some v
    |none=>np P op t x y (ai I x) (ai I y)
 | .unOp op _ x=>uT op (ai I x)
 | .convert src dst x=>lY P src dst (ai I x)
 | .makeInterface t x=>match P.underlying t with
   |some (.interface _)=>none
   |some _=>some (.iface t (ai I x))
   |none=>none
 | .makeFunc fn l c=>some (.func fn (l.map (ai I)) (c.map (ai I)))
 | .extract x i=>match ai I x with
   | .tuple vs=>vs[i]?
   |_=>none
 | .indexAddr t x i=>match tn P t,ai I x,ai I i with
   |some e,.slice (some a) n _,.int _ k=>if 0<=k/\k<n/\(P.info? e).isSome=true then some (.pointer (some (a.add (k.toNat*cC P e))))else none
   |_,_,_=>none
 | .index t x i=>match P.underlying t,ai I x,ai I i with
   |some .string,.string s,.int _ k=>if h:0<=k/\k.toNat<s.size then some (.int .u8 (s[k.toNat]'h.2).toNat)else none
   |_,_,_=>none
 | .slice t x lo hi none=>match P.underlying t,ai I x with
   |some .string,.string s=>match nE (lo.map (ai I)),jE s.size (hi.map (ai I))with
    |some l,some h=>if 0<=l/\l<=h/\h<=s.size then some (.string (s.extract l.toNat h.toNat))else none
    |_,_=>none
   |some (.slice e),.slice a n c=>match nE (lo.map (ai I)),jE n (hi.map (ai I))with
    |some l,some h=>if 0<=l/\l<=h/\h<=c/\(P.info? e).isSome=true then
     some (.slice (if c=l.toNat then a else a.map (·.add (l.toNat*cC P e))) (h.toNat-l.toNat) (c-l.toNat))else none
    |_,_=>none
   |_,_=>none
 | .call ⟨.builtin .len,as,cz⟩=>match cz[0]?,(as.map (ai I))[0]? with
   |some t,some x=>if xC P t x then xD x else none
   |_,_=>none
 |_=>none
variable {P:Program}{U:Hp}{v:Value}
def qN{t:TypeId}{a:Addr}{k:Value->Prop}(h:iQ P t a U=some v)(hk:k v):oj P t a U k:=by
 unfold iQ at h;unfold oj;split
 ·rename_i hc;rw[if_pos hc]at h;obtain⟨cs,h1,rfl⟩:=Option.map_eq_some_iff.1 h;rw[h1];exact hk
 ·rename_i hc;rw[if_neg hc]at h;rw[h];exact hk
variable {I:av}{ds:List Deferred}{nx:av->List Deferred->Hp->Prop}{E:Env P}{pn:List PanicEntry->Hp->Prop}{o:Oper}
def Mc(h:cT P o.op I U=some v)(k:nx (aA I o.dst v) ds U):aS E o I ds U nx pn:=by
 obtain⟨dst,op,type,pos,after,guard⟩:=o;unfold cT at h;simp only at h k;split at h
 case h_1=>obtain rfl:=Option.some.inj h;exact k
 case h_2=>obtain rfl:=Option.some.inj h;exact k
 case h_3=>
  simp only[aS];split at h<;>first|(cases h;done)|(rename_i hc;obtain rfl:=Option.some.inj h;rw[hc];exact k)
 case h_4=>
  simp only[aS];split at h
  ·rename_i a hx;split at h
   ·rename_i ht;rw[hx];exact⟨ht,qN h k⟩
   ·cases h
  ·cases h
 case h_5=>
  simp only[aS];split at h<;>first|(cases h;done)|(rename_i hc;obtain rfl:=Option.some.inj h;rw[hc];exact k)
 case h_6=>
  simp only[aS];split at h
  ·rename_i a off hx hf;obtain rfl:=Option.some.inj h;rw[hx,hf];exact k
  ·cases h
 case h_7 op t x y u=>
  simp only[aS];split at h
  ·rename_i v' hb;obtain rfl:=Option.some.inj h;rw[hb];exact k
  ·rename_i hb;rw[hb];split at h
   ·rename_i v' hv;obtain rfl:=Option.some.inj h;rw[hv];exact k
   ·rename_i hv;rw[hv,h];exact k
 case h_8=>simp only[aS];rw[h];exact k
 case h_9=>simp only[aS];rw[h];exact k
 case h_10 t x=>
  simp only[aS]
  cases hu:P.underlying t with
  |none=>rw[hu]at h;cases h
  |some d=>
   rw[hu]at h
   cases d<;>first|(cases h;done)|(obtain rfl:=Option.some.inj h;exact k)
 case h_11=>obtain rfl:=Option.some.inj h;exact k
 case h_12=>
  simp only[aS];split at h
  ·rename_i vs hx;rw[hx];simp only;rw[h];exact k
  ·cases h
 case h_13=>
  simp only[aS];split at h
  ·rename_i e a n c kk i hs hx hi;split at h
   ·rename_i hc;obtain rfl:=Option.some.inj h;rw[hs,hx,hi];exact⟨hc,k⟩
   ·cases h
  ·cases h
 case h_14=>
  simp only[aS];split at h
  ·rename_i s kk i hu hx hi;split at h
   ·rename_i hc;obtain rfl:=Option.some.inj h;rw[hu,hx,hi];exact⟨hc,k⟩
   ·cases h
  ·cases h
 case h_15=>
  simp only[aS];split at h
  ·rename_i s hu hx;rw[hu,hx];simp only;split at h
   ·rename_i l hh h1 h2;split at h
    ·rename_i hc;obtain rfl:=Option.some.inj h;rw[h1,h2];exact⟨hc,k⟩
    ·cases h
   ·cases h
  ·rename_i e a n c hu hx;rw[hu,hx];simp only;split at h
   ·rename_i l hh h1 h2;split at h
    ·rename_i hc;obtain rfl:=Option.some.inj h;rw[h1,h2];exact⟨hc,k⟩
    ·cases h
   ·cases h
  ·cases h
 case h_16=>
  simp only[aS];split at h
  ·rename_i t x ht hx;split at h
   ·rename_i hl;rw[ht,hx];simp only;rw[hl,h];exact k
   ·cases h
  ·cases h
 case h_17=>cases h
def cW:Op->Bool
 | .move _| .assign _| .pick .. | .load .. | .nilCheck _| .fieldAddr .. | .binOp .. | .unOp .. | .convert .. | .makeInterface .. | .makeFunc .. | .extract .. | .indexAddr .. | .index .. =>true
 | .slice _ _ _ _ none=>true
 | .call ⟨.builtin .len,_,cz⟩=>cz != #[273]
 |_=>false
def C0:Op->Bool
 | .load .. =>true
 |_=>false
def LN:Op->Bool
 | .select .. =>false
 |_=>true
def va(ops:Array Oper):Nat->Nat->Nat->Bool
 |0,_,_=>false
 |f+1,i,j=>match ops[i]? with
  |some o=>o.after.toList.any λe=>Region.binds .any e&&(e.on==j||va ops f e.on j)
  |none=>false
def eK(ops:Array Oper)(i j:Nat):Bool:=va ops ops.size i j
def fQ(ops:Array Oper)(i:Nat):Option Tmp:=(ops[i]?).bind (·.dst)
def tmpsOf(xs:List Operand):List Tmp:=xs.filterMap λ| .tmp t=>some t|_=>none
def slotsOf(ops:Array Oper)(o:Oper):List Tmp:=tmpsOf o.op.operands.toList++(match o.guard with|some (j,_)=>(fQ ops j).toList|none=>[])
def oy(ops:Array Oper)(i:Nat):Bool:=match ops[i]? with|some o=>cW o.op|none=>true
def G9(ops:Array Oper):List Nat->Bool
 |[]=>true
 |i::r=>r.all (λj=> !(i==j)&& !eK ops i j&&(oy ops i||eK ops j i))&&G9 ops r
def L0(ops:Array Oper)(i:Nat):Bool:=match ops[i]? with
 |some o=>(cW o.op||LN o.op)&&o.after.toList.all (λe=>decide (e.on<ops.size))&&
  (List.range ops.size).all λj=>i==j||((match o.dst with|some d=> !(fQ ops j==some d)|none=>true)&&
   (match fQ ops j with|some d=> !(slotsOf ops o).contains d||eK ops i j||eK ops j i|none=>true))
 |none=>false
def su(ops:Array Oper)(l:List Nat):Bool:=(List.range ops.size).all (λi=>l.contains i)&&l.all (λi=>decide (i<ops.size))&&G9 ops l&&(List.range ops.size).all (L0 ops)&&(List.range ops.size).all λi=> !eK ops i i
section
variable {I:av}{ds:List Deferred}{U:Hp}
variable {P:Program}(E:Env P)
def pe (ops:Array Oper)(i:Nat)(U:Hp):List (Nat×av×Value)->Prop
 |[]=>True
 |(j,I,v)::r=>(match ops[j]? with
  |some o=>if C0 o.op&& !eK ops i j then cT P o.op I U=some v else True
  |none=>True)/\pe ops i U r
def fN (N:Nat)(ops:Array Oper)(Q:Post)(pn:List PanicEntry->List Deferred->Hp->Prop):List Nat->List (Nat×av×Value)->av->List Deferred->Hp->Prop
 |[],_,I,ds,U=>Q .normal I ds U
 |i::rest,cK,I,ds,U=>match ops[i]? with
  |none=>False
  |some o=>pr N o.dst=true/\
   if cW o.op then
    if Region.wanted o (gO N ops I)then match cT P o.op I U with
     |some v=>fN N ops Q pn rest ((i,I,v)::cK) (aA I o.dst v) ds U
     |none=>False
    else fN N ops Q pn rest cK (aA I o.dst undef) ds U
   else if Region.wanted o (gO N ops I)then aS E o I ds U (λaC cV ae=>pe (P:=P) ops i ae cK/\fN N ops Q pn rest cK aC cV ae) (λch ae=>pn ch ds ae)
   else fN N ops Q pn rest cK (aA I o.dst undef) ds U
def lV (N:Nat)(ops:Array Oper)(Q:Post)(i:Nat)(K:av->List Deferred->Hp->Prop)(I:av)(ds:List Deferred)(U:Hp):Prop:=
 match ops[i]? with
 |none=>False
 |some o=>pr N o.dst=true/\
  if Region.wanted o (gO N ops I)then(if cW o.op then∃v,cT P o.op I U=some v/\K (aA I o.dst v) ds U else wpOp E o I ds U K (λch ae=>Q (.panic ch) I ds ae))else K (aA I o.dst undef) ds U
def my (N:Nat)(ops:Array Oper)(Q:Post):List Nat->av->List Deferred->Hp->Prop
 |[],I,ds,U=>Q .normal I ds U
 |i::rest,I,ds,U=>lV E N ops Q i (my N ops Q rest) I ds U
def tu (N:Nat)(ops:Array Oper)(Q:Post):Nat->Array Bool->av->List Deferred->Hp->Prop
 |0,listed,I,ds,U=>Region.ready .any ops listed=[]/\Q .normal I ds U
 |fuel+1,listed,I,ds,U=>(Region.ready .any ops listed=[]->Q .normal I ds U)/\
  ∀i∈Region.ready .any ops listed,lV E N ops Q i (tu N ops Q fuel (listed.setIfInBounds i true)) I ds U
end
def pB.mono{V V':Value->Hp->Prop}{D D':Deferred->Hp->Prop}{C C':FuncId->Array Value->Hp->Prop}(hv:∀v U,V v U->V' v U)(hd:∀v U,D v U->D' v U)(hc:∀f a U,C f a U->C' f a U):
 ∀n U,pB V D C n U->pB V' D' C' n U:=by
 intro n U h
 cases n<;>first|exact hv _ _ h|exact hd _ _ h|exact hc _ _ _ h|exact h.elim
variable {aC:av}
def Vg{Tj:av->List Deferred->Hp->Prop}{p p':List PanicEntry->Hp->Prop}(he:execOp (ai I) o=execOp (ai aC) o)(hn:∀v ds U,nx (aA I o.dst v) ds U->Tj (aA aC o.dst v) ds U)(hp:∀ch U,p ch U->p' ch U)(h:wpOp E o I ds U nx p):wpOp E o aC ds U Tj p':=by
 unfold wpOp at h|-;rw[<-he];refine M3 (pB.mono (λv U h=>hn _ _ _ h) (λd U h=>hn _ _ _ h) (λf a U h=>h.mono λe ae hh=>?_)) (λx U hh=>?_) _ _ h
 ·cases x<;>first|exact hp _ _ hh|exact hh
 ·cases e with
  |returned v=>exact hn _ _ _ hh
  |panicked ch=>exact hp _ _ hh
variable {N:Nat}{ops:Array Oper}{Q:Post}{i:Nat}
def EE{K K':av->List Deferred->Hp->Prop}(hk:∀I ds U,K I ds U->K' I ds U)(h:lV E N ops Q i K I ds U):lV E N ops Q i K' I ds U:=by
 unfold lV at h|-
 cases ho:ops[i]? with
 |none=>rw[ho]at h;exact h.elim
 |some o=>
  rw[ho]at h;refine⟨h.1,?_⟩;have h2:=h.2;split
  ·rename_i hw;rw[if_pos hw]at h2;split
   ·rename_i hr;rw[if_pos hr]at h2;obtain⟨v,h3,h4⟩:=h2;exact⟨v,h3,hk _ _ _ h4⟩
   ·rename_i hr;rw[if_neg hr]at h2;exact Vg rfl (λv ds U x=>hk _ _ _ x) (λ_ _ x=>x) h2
  ·rename_i hw;rw[if_neg hw]at h2;exact hk _ _ _ h2
def Ve:∀(fuel t:Nat) (listed:Array Bool) (I:av) (ds:List Deferred) (U:Hp),tu E N ops Q fuel listed I ds U->my E N ops Q (Region.linearise.go .any ops fuel t listed []) I ds U:=by
 intro fuel
 induction fuel with
 |zero=>intro t listed I ds U h;simpa[Region.linearise.go,my]using h.2
 |succ fuel ih=>
  intro t listed I ds U h;obtain⟨agy,KR⟩:=h;simp only[Region.linearise.go]
  change my E N ops Q (match(Region.ready .any ops listed)[t %(Region.ready .any ops listed).length]? with
   |some i=>Region.linearise.go .any ops fuel (t/(Region.ready .any ops listed).length) (listed.setIfInBounds i true) [i]
   |none=>[].reverse) I ds U
  cases hi:(Region.ready .any ops listed)[t %(Region.ready .any ops listed).length]? with
  |none=>
   have kX:Region.ready .any ops listed=[]:=by
    cases hr:Region.ready .any ops listed with
    |nil=>rfl
    |cons x xs=>
     rw[hr]at hi;have aZ:t %(x::xs).length<(x::xs).length:=Nat.mod_lt _ ak;simp at hi;simp at aZ;omega
   simpa[my]using agy kX
  |some i=>
   simp only[];rw[linearise_go_acc,List.reverse_singleton,List.singleton_append];exact EE (λI ds U=>ih _ _ I ds U) (KR i (List.mem_of_getElem? hi))
def ang{op:Op}(h:∀x∈op.operands,ai I x=ai aC x):cT P op I U=cT P op aC U:=by
 cases op<;>first|rfl|skip
 case move x=>simp only[cT];rw[h x (by simp[Op.operands])]
 case assign x=>simp only[cT];rw[h x (by simp[Op.operands])]
 case pick c a b=>simp only[cT];rw[h c (by simp[Op.operands]),h a (by simp[Op.operands]),h b (by simp[Op.operands])]
 case load t x=>simp only[cT];rw[h x (by simp[Op.operands])]
 case nilCheck x=>simp only[cT];rw[h x (by simp[Op.operands])]
 case binOp o t x y u=>simp only[cT];rw[h x (by simp[Op.operands]),h y (by simp[Op.operands])]
 case unOp o t x=>simp only[cT];rw[h x (by simp[Op.operands])]
 case convert s d x=>simp only[cT];rw[h x (by simp[Op.operands])]
 case makeInterface t x=>simp only[cT];rw[h x (by simp[Op.operands])]
 case fieldAddr t x f=>simp only[cT];rw[h x (by simp[Op.operands])]
 case extract x i=>simp only[cT];rw[h x (by simp[Op.operands])]
 case indexAddr t x i=>simp only[cT];rw[h x (by simp[Op.operands]),h i (by simp[Op.operands])]
 case index t x i=>simp only[cT];rw[h x (by simp[Op.operands]),h i (by simp[Op.operands])]
 case makeFunc fn l c=>
  have e:∀(zs:Array Operand),(∀x∈zs,x∈(Op.makeFunc fn l c).operands)->zs.map (ai I)=zs.map (ai aC):=λzs hz=>
   Array.map_congr_left λx hx=>h x (hz x hx)
  simp only[cT];rw[e l (by simp[Op.operands];exactλx hx=>.inl hx),e c (by simp[Op.operands];exactλx hx=>.inr hx)]
 case slice t x lo hi mx=>
  cases mx with
  |some m=>rfl
  |none=>
   have e:∀(z:Option Operand),(∀u∈z,u∈(Op.slice t x lo hi none).operands)->z.map (ai I)=z.map (ai aC):=λz hz=>by
    cases z with
    |none=>rfl
    |some y=>simp only[Option.map_some];rw[h y (hz y rfl)]
   simp only[cT];rw[h x (by simp[Op.operands]),e lo (by intro y hy;cases hy;simp[Op.operands]),e hi (by intro y hy;cases hy;simp[Op.operands])]
 case call c=>
  obtain⟨callee,args,cz⟩:=c
  cases callee with
  |value f=>rfl
  |invoke r m=>rfl
  |builtin b=>
   cases b<;>first|rfl|skip
   have e:args.map (ai I)=args.map (ai aC):=Array.map_congr_left λx hx=>h x (by simp[Op.operands,Call.operands];exact hx);simp only[cT];rw[e]
def anh{op:Op}{ae:Hp}(h:C0 op=false):cT P op I U=cT P op I ae:=by
 cases op<;>first|rfl|(cases h;done)|skip
 case slice t x lo hi mx=>cases mx<;>rfl
 case call c=>
  obtain⟨callee,args,cz⟩:=c
  cases callee with
  |value f=>rfl
  |invoke r m=>rfl
  |builtin b=>cases b<;>rfl
open Classical in
noncomputable def sl(ops:Array Oper)(eJ:av)(vals:Nat->Option Value)(t:Nat):Value:=
 if h:∃v i,fQ ops i=some t/\vals i=some v then h.choose else eJ t
structure Good (ops:Array Oper) (l:List Nat):Prop where
 all:∀i,i<ops.size->i∈l
 lt:∀i∈l,i<ops.size
 pw:l.Pairwise λi j=>i≠j/\eK ops i j=false/\(oy ops i=true\/eK ops j i=true)
 op:∀i,i<ops.size->L0 ops i=true
 zi:∀i,i<ops.size->eK ops i i=false
def TI:∀{l:List Nat},G9 ops l=true->l.Pairwise λi j=>i≠j/\eK ops i j=false/\(oy ops i=true\/eK ops j i=true)
 |[],_=>.nil
 |i::r,h=>by simp only[G9,Bool.and_eq_true,List.all_eq_true,Bool.not_eq_true',Bool.or_eq_true,beq_eq_false_iff_ne]at h;exact .cons (λj hj=>⟨(h.1 j hj).1.1,(h.1 j hj).1.2,(h.1 j hj).2⟩) (TI h.2)
variable {l:List Nat}
def P6(h:su ops l=true):Good ops l:=by simp only[su,Bool.and_eq_true,List.all_eq_true,List.contains_eq_mem,List.mem_range,Bool.not_eq_true',decide_eq_true_eq]at h;obtain⟨⟨⟨⟨h1,h2⟩,h3⟩,h4⟩,h5⟩:=h;exact⟨h1,h2,TI h3,h4,h5⟩
structure VH (ops:Array Oper) (i:Nat) (o:Oper):Prop where
 wr:cW o.op=true\/LN o.op=true
 on:∀e∈o.after,e.on<ops.size
 dst:∀j d,j<ops.size->j≠i->o.dst=some d->fQ ops j≠some d
 aok:∀j d,j<ops.size->j≠i->fQ ops j=some d->d∈slotsOf ops o->eK ops i j=true\/eK ops j i=true
def Good.Ek(h:Good ops l)(ho:ops[i]? =some o):VH ops i o:=by
 have hi:i<ops.size:=(Array.getElem?_eq_some_iff.1 ho).1;have hc:=h.op i hi;simp only[L0,ho,Bool.and_eq_true,Bool.or_eq_true,List.all_eq_true,List.mem_range,beq_iff_eq,decide_eq_true_eq]at hc;obtain⟨⟨h1,h2⟩,h3⟩:=hc;refine⟨h1,λe he=>h2 e (aV he),λj d hj aE hd=>?_,λj d hj aE hd hs=>?_⟩
 ·rcases h3 j hj with e|⟨h4,_⟩
  ·exact absurd e.symm aE
  ·rw[hd]at h4;simpa using h4
 ·rcases h3 j hj with e|⟨_,h5⟩
  ·exact absurd e.symm aE
  ·rw[hd]at h5;simp only[Bool.or_eq_true,Bool.not_eq_true',List.contains_eq_mem,decide_eq_false_iff_not]at h5;rcases h5 with(h5|h5)|h5
   ·exact absurd hs h5
   ·exact .inl h5
   ·exact .inr h5
def Pe{d:Tmp}(h:fQ ops i=some d):i<ops.size:=by unfold fQ at h;obtain⟨o,ho,_⟩:=Option.bind_eq_some_iff.1 h;exact(Array.getElem?_eq_some_iff.1 ho).1
variable {j:Nat}
def Good.uniq(h:Good ops l){d:Tmp}(hi:fQ ops i=some d)(hj:fQ ops j=some d):i=j:=by obtain⟨o,ho,hd⟩:=Option.bind_eq_some_iff.1 hi;exact Classical.byContradiction λaE=>(h.Ek ho).dst j d (Pe hj) (λe=>aE e.symm) hd hj
variable {eJ:av}{vals:Nat->Option Value}{gv:List Nat}{t:Nat}
def EC(G:Good ops gv)(hd:fQ ops i=some t)(hv:vals i=some v):sl ops eJ vals t=v:=by unfold sl;have h:∃v i,fQ ops i=some t/\vals i=some v:=⟨v,i,hd,hv⟩;rw[dif_pos h];obtain⟨j,hj,hjv⟩:=h.choose_spec;obtain rfl:=G.uniq hd hj;exact Option.some.inj (hjv.symm.trans hv)
def uR(h:∀i,fQ ops i=some t->vals i=none):sl ops eJ vals t=eJ t:=by unfold sl;rw[dif_neg];rintro⟨v,i,hd,hv⟩;rw[h i hd]at hv;cases hv
def kN(vals:Nat->Option Value)(i:Nat)(v:Value):Nat->Option Value:=λj=>if j=i then some v else vals j
def Mr(G:Good ops gv)(ho:ops[i]? =some o)(v:Value):aA (sl ops eJ vals) o.dst v=sl ops eJ (kN vals i v):=by
 have QY:fQ ops i=o.dst:=by simp[fQ,ho]
 funext t
 by_cases hi:fQ ops i=some t
 ·rw[EC G hi (show kN vals i v i=some v by simp[kN])];rw[QY]at hi;rw[hi];simp[aA,up]
 ·have hl:aA (sl ops eJ vals) o.dst v t=sl ops eJ vals t:=by
   cases hd:o.dst with
   |none=>rfl
   |some d=>
    have:t≠d:=λe=>hi (by rw[QY,hd,e]);simp[aA,up,this]
  rw[hl];by_cases hx:∃w j,fQ ops j=some t/\vals j=some w
  ·obtain⟨w,j,hj,hw⟩:=hx;have aE:j≠i:=λe=>hi (e▸hj);rw[EC G hj hw,EC G hj (show kN vals i v j=some w by simp[kN,aE,hw])]
  ·rw[uR (λj hj=>by cases hw:vals j with|none=>rfl|some w=>exact absurd ⟨w,j,hj,hw⟩ hx)]
   rw[uR (λj hj=>by
    have aE:j≠i:=λe=>hi (e▸hj)
    simp only[kN,aE,if_false]
    cases hw:vals j with
    |none=>rfl
    |some w=>exact absurd ⟨w,j,hj,hw⟩ hx)]
def EA(G:Good ops gv)(ho:ops[i]? =some o){lD:Nat->Option Value}(od:vals i=lD i)(ha:∀j,eK ops i j=true->vals j=lD j)(hb:∀j,eK ops j i=true->vals j=lD j):
 ∀t∈slotsOf ops o,sl ops eJ vals t=sl ops eJ lD t:=by
 intro t ht;by_cases hx:∃j,fQ ops j=some t
 ·obtain⟨j,hj⟩:=hx
  have e:vals j=lD j:=by
   by_cases AQ:j=i
   ·subst AQ;exact od
   ·rcases(G.Ek ho).aok j t (Pe hj) AQ hj ht with h|h
    ·exact ha j h
    ·exact hb j h
  cases hv:vals j with
  |some v=>rw[EC G hj hv,EC G hj (e▸hv)]
  |none=>
   rw[uR (λk hk=>by rw[G.uniq hk hj];exact hv),uR (λk hk=>by rw[G.uniq hk hj,<-e];exact hv)]
 ·rw[uR (λj hj=>absurd ⟨j,hj⟩ hx),uR (λj hj=>absurd ⟨j,hj⟩ hx)]
def Pu(h:∀t∈slotsOf ops o,I t=aC t):∀x∈o.op.operands,ai I x=ai aC x:=by
 intro x hx
 cases x<;>first|rfl|skip
 rename_i t;exact h t (List.mem_append.2 (.inl (List.mem_filterMap.2 ⟨.tmp t,aV hx,rfl⟩)))
def MX(h:∀t∈slotsOf ops o,I t=aC t):Region.wanted o (gO N ops I)=Region.wanted o (gO N ops aC):=by
 unfold Region.wanted
 cases hg:o.guard with
 |none=>rfl
 |some p=>
  obtain⟨j,b⟩:=p;simp only
  have:gO N ops I j=gO N ops aC j:=by
   unfold gO
   cases hd:(ops[j]?).bind (·.dst)with
   |none=>rfl
   |some d=>
    simp only;rw[h d (List.mem_append.2 (.inr (by rw[hg];simp[fQ,hd])))]
  rw[this]
def abx(hs:LN o.op=true)(h:∀t∈slotsOf ops o,I t=aC t):execOp (ai I) o=execOp (ai aC) o:=
 execOp_congr o (λcs b e=>by rw[e]at hs;cases hs) (Pu h)
def VO(P:Program)(N:Nat)(ops:Array Oper)(eJ:av)(vals:Nat->Option Value)(cK:List (Nat×av×Value))(U:Hp)(r:Nat):Prop:=
 ∃o qh,ops[r]? =some o/\pr N o.dst=true/\cW o.op=true/\
  (∀t∈slotsOf ops o,qh t=sl ops eJ (λj=>if eK ops r j=true then vals j else none) t)/\
  ((Region.wanted o (gO N ops qh)=true/\∃v,vals r=some v/\(r,qh,v)∈cK/\cT P o.op qh U=some v)\/(Region.wanted o (gO N ops qh)=false/\vals r=some undef))
variable {pn:List PanicEntry->List Deferred->Hp->Prop}
structure uZ (E:Env P) (N:Nat) (ops:Array Oper) (Q:Post) (pn:List PanicEntry->List Deferred->Hp->Prop) (eJ:av) (gv:List Nat) (listed:Array Bool) (pre rest:List Nat) (cK:List (Nat×av×Value)) (vals:Nat->Option Value)
 (ds:List Deferred) (U:Hp):Prop where
 size:listed.size=ops.size
 split:gv=pre++rest
 sub:∀i,listed.getD i false=true->i∈pre
 wr:∀i∈pre,oy ops i=false->listed.getD i false=true
 wW:∀i,i∉pre->vals i=none
 has:∀i∈pre,∃v,vals i=some v
 down:∀i j,listed.getD i false=true->eK ops i j=true->listed.getD j false=true
 waits:∀r∈pre,listed.getD r false=false->VO P N ops eJ vals cK U r
 wp:fN E N ops Q pn rest cK (sl ops eJ vals) ds U
variable {pre rest:List Nat}
def uG(G:Good ops gv)(hs:gv=pre++rest)(hi:i∈pre)(hj:j∈rest):i≠j/\eK ops i j=false/\(oy ops i=true\/eK ops j i=true):=by have:=G.pw;rw[hs,List.pairwise_append]at this;exact this.2.2 i hi j hj
def Wc{f:Nat}:va ops f i j=true->va ops (f+1) i j=true:=by
 induction f generalizing i j with
 |zero=>intro h;cases h
 |succ f ih=>
  intro h;unfold va at h|-
  cases ho:ops[i]? with
  |none=>rw[ho]at h;cases h
  |some o=>
   rw[ho]at h;simp only[List.any_eq_true,Bool.and_eq_true,Bool.or_eq_true,beq_iff_eq]at h|-;obtain⟨e,he,hb,h⟩:=h;exact⟨e,he,hb,h.imp id ih⟩
def Wd(ho:ops[i]? =some o){e:Edge}(he:e∈o.after)(hb:Region.binds .any e=true):eK ops i e.on=true:=by have hi:i<ops.size:=(Array.getElem?_eq_some_iff.1 ho).1;unfold eK;obtain⟨n,hn⟩:∃n,ops.size=n+1:=⟨ops.size-1,aa⟩;rw[hn];unfold va;rw[ho];simp only[List.any_eq_true,Bool.and_eq_true,Bool.or_eq_true,beq_iff_eq];exact⟨e,aV he,hb,.inl rfl⟩
variable {listed:Array Bool}
def T6(aew:∀i j,listed.getD i false=true->eK ops i j=true->listed.getD j false=true)(ho:ops[i]? =some o)(hr:∀e∈o.after,Region.binds .any e=true->listed.getD e.on false=true)(h:eK ops i j=true):listed.getD j false=true:=by
 unfold eK at h
 cases hn:ops.size with
 |zero=>rw[hn]at h;cases h
 |succ n=>
  rw[hn]at h;unfold va at h;rw[ho]at h;simp only[List.any_eq_true,Bool.and_eq_true,Bool.or_eq_true,beq_iff_eq]at h;obtain⟨e,he,hb,h⟩:=h;have hl:=hr e (aV he) hb;rcases h with rfl|h
  ·exact hl
  ·exact aew e.on j hl (by unfold eK;rw[hn];exact Wc h)
def EN(G:Good ops gv)(hs:gv=pre++rest){r:Nat}(hr:r∈pre)(h:eK ops r j=true)(hj:j<ops.size):j∈pre:=by
 have:j∈gv:=G.all j hj;rw[hs,List.mem_append]at this;rcases this with h'|h'
 ·exact h'
 ·have:=(uG G hs hr h').2.1;rw[h]at this;cases this
def Wb(G:Good ops gv){f:Nat}:va ops f i j=true->j<ops.size:=by
 induction f generalizing i with
 |zero=>intro h;cases h
 |succ f ih=>
  intro h;unfold va at h
  cases ho:ops[i]? with
  |none=>rw[ho]at h;cases h
  |some o=>
   rw[ho]at h;simp only[List.any_eq_true,Bool.and_eq_true,Bool.or_eq_true,beq_iff_eq]at h;obtain⟨e,he,_,h⟩:=h;rcases h with rfl|h
   ·exact(G.Ek ho).on e (aV he)
   ·exact ih h
def BY(G:Good ops gv)(h:eK ops i j=true):j<ops.size:=Wb G h
def advance(G:Good ops gv):∀(rest pre:List Nat) (cK:List (Nat×av×Value)) (vals:Nat->Option Value),uZ E N ops Q pn eJ gv listed pre rest cK vals ds U->
 ∃G7 uI uE lD,uZ E N ops Q pn eJ gv listed G7 uI uE lD ds U/\(∀i,listed.getD i false=true->lD i=vals i)/\(uI=[]\/∃w r',uI=w::r'/\oy ops w=false):=by
 intro rest
 induction rest with
 |nil=>exactλpre cK vals atz=>⟨pre,[],cK,vals,atz,λ_ _=>rfl,.inl rfl⟩
 |cons r rest ih=>
  intro pre cK vals atz;by_cases gq:oy ops r=false
  ·exact⟨pre,r::rest,cK,vals,atz,λ_ _=>rfl,.inr ⟨r,rest,rfl,gq⟩⟩
  have hr:r<ops.size:=G.lt r (by rw[atz.split];simp);have ho:ops[r]? =some ops[r]:=Array.getElem?_eq_getElem hr;have hw:=atz.wp;simp only[fN,ho]at hw;obtain⟨hd,hw⟩:=hw
  have zb:cW (ops[r]).op=true:=by unfold oy at gq;rw[ho]at gq;simpa using gq
  rw[if_pos zb]at hw;have cS:gv=(pre++[r])++rest:=by rw[atz.split];simp
  have tW:r∉pre:=λh=>(uG G atz.split h (List.mem_cons_self ..)).1 rfl;have Ks:∀i,listed.getD i false=true->i≠r:=λi hi e=>tW (e▸atz.sub i hi)
  have one:∀(v:Value) (uE:List (Nat×av×Value)),(∀x∈cK,x∈uE)->
   ((Region.wanted ops[r] (gO N ops (sl ops eJ vals))=true/\(r,sl ops eJ vals,v)∈uE/\cT P (ops[r]).op (sl ops eJ vals) U=some v)\/(Region.wanted ops[r] (gO N ops (sl ops eJ vals))=false/\v=undef))->
   fN E N ops Q pn rest uE (aA (sl ops eJ vals) (ops[r]).dst v) ds U->uZ E N ops Q pn eJ gv listed (pre++[r]) rest uE (kN vals r v) ds U:=by
   intro v uE jT hv AZ;have GD:kN vals r v r=some v:=by simp[kN]
   have oZ:∀j,j≠r->kN vals r v j=vals j:=λj hj=>by simp[kN,hj]
   refine⟨atz.size,cS,λi hi=>List.mem_append.2 (.inl (atz.sub i hi)),λi hi RM=>?_,λi hi=>?_,λi hi=>?_,atz.down,λx hx hxl=>?_,by rw[Mr G ho]at AZ;exact AZ⟩
   ·rcases List.mem_append.1 hi with h|h
    ·exact atz.wr i h RM
    ·simp at h;subst h;exact absurd RM gq
   ·have:i≠r:=λe=>hi (by rw[e];simp);rw[oZ i this];exact atz.wW i (λh=>hi (List.mem_append.2 (.inl h)))
   ·rcases List.mem_append.1 hi with h|h
    ·by_cases e:i=r
     ·subst e;exact⟨v,GD⟩
     ·obtain⟨u,hu⟩:=atz.has i h;exact⟨u,by rw[oZ i e];exact hu⟩
    ·simp at h;subst h;exact⟨v,GD⟩
   ·rcases List.mem_append.1 hx with h|h
    ·obtain⟨o,qh,tX,jv,AN,ha,hc⟩:=atz.waits x h hxl;have RS:x≠r:=λe=>tW (e▸h);refine⟨o,qh,tX,jv,AN,λt ht=>?_,?_⟩
     ·rw[ha t ht];refine EA G tX ?_ ?_ ?_ t ht
      ·have:=G.zi x (G.lt x (by rw[atz.split];exact List.mem_append.2 (.inl h)));simp[this]
      ·intro j hj;rw[if_pos hj,if_pos hj];have:j∈pre:=EN G atz.split h hj (BY G hj);exact(oZ j (λe=>tW (e▸this))).symm
      ·intro j hj;by_cases lQ:eK ops x j=true
       ·rw[if_pos lQ,if_pos lQ];have:j∈pre:=EN G atz.split h lQ (BY G lQ);exact(oZ j (λe=>tW (e▸this))).symm
       ·rw[if_neg lQ,if_neg lQ]
     ·rcases hc with⟨zg,u,hu,hm,zc⟩|⟨zg,hu⟩
      ·exact .inl ⟨zg,u,by rw[oZ x RS];exact hu,jT _ hm,zc⟩
      ·exact .inr ⟨zg,by rw[oZ x RS];exact hu⟩
    ·simp at h;subst h;refine⟨ops[x],sl ops eJ vals,ho,hd,zb,λt ht=>?_,?_⟩
     ·refine EA G ho ?_ ?_ ?_ t ht
      ·rw[G.zi x hr];simp only[Bool.false_eq_true,if_false];exact atz.wW x tW
      ·intro j hj;rw[if_pos hj];by_cases e:j=x
       ·subst e;rw[G.zi j hr]at hj;cases hj
       ·exact(oZ j e).symm
      ·intro j hj
       have Gd:j∉pre:=λh=>by have:=(uG G atz.split h (List.mem_cons_self ..)).2.1;rw[hj]at this;cases this
       rw[atz.wW j Gd];by_cases lQ:eK ops x j=true
       ·have:j∈pre++[x]:=EN G cS ak lQ (BY G lQ);rcases List.mem_append.1 this with h|h
        ·exact absurd h Gd
        ·simp at h;subst h;rw[G.zi j hr]at lQ;cases lQ
       ·rw[if_neg lQ]
     ·rcases hv with⟨h1,h2,h3⟩|⟨h1,rfl⟩
      ·exact .inl ⟨h1,v,GD,h2,h3⟩
      ·exact .inr ⟨h1,GD⟩
  by_cases GH:Region.wanted ops[r] (gO N ops (sl ops eJ vals))=true
  ·rw[if_pos GH]at hw
   cases gZ:cT P (ops[r]).op (sl ops eJ vals) U with
   |none=>rw[gZ]at hw;exact hw.elim
   |some v=>
    rw[gZ]at hw;obtain⟨p',r',L5,v',I',e',h'⟩:=ih _ _ _ (one v _ (λx hx=>List.mem_cons_of_mem _ hx) (.inl ⟨GH,List.mem_cons_self ..,gZ⟩) hw);exact⟨p',r',L5,v',I',λi hi=>by rw[e' i hi];simp[kN,Ks i hi],h'⟩
  ·rw[if_neg GH]at hw;obtain⟨p',r',L5,v',I',e',h'⟩:=ih _ _ _ (one undef cK (λx hx=>hx) (.inr ⟨aV GH,rfl⟩) hw);exact⟨p',r',L5,v',I',λi hi=>by rw[e' i hi];simp[kN,Ks i hi],h'⟩
def BG(ops:Array Oper)(listed:Array Bool):Nat:=(List.range ops.size).countP λi=> !listed.getD i true
def ah2{cK:List (Nat×av×Value)}(h:pe (P:=P) ops i U cK){r:Nat}{qh:av}(hm:(r,qh,v)∈cK)(ho:ops[r]? =some o)(hh:C0 o.op=true)(ha:eK ops i r=false):
 cT P o.op qh U=some v:=by
 induction cK with
 |nil=>cases hm
 |cons x cK ih=>
  obtain⟨j,ρj,u⟩:=x;simp only[pe]at h;rcases List.mem_cons.1 hm with e|hm
  ·cases e
   have:=h.1;rw[ho]at this;simpa[hh,ha]using this
  ·exact ih h.2 hm
def PV(h:i<listed.size)(d:Bool):(listed.setIfInBounds i true).getD i d=true:=by rw[Array.getD_eq_getD_getElem?,Array.getElem?_setIfInBounds_self_of_lt h];rfl
def PU(h:i<listed.size)(d d':Bool):listed.getD i d=listed.getD i d':=by rw[Array.getD_eq_getD_getElem?,Array.getD_eq_getD_getElem?,Array.getElem?_eq_getElem h];rfl
def U7(hs:listed.size=ops.size)(hi:i<ops.size)(hf:listed.getD i true=false):BG ops (listed.setIfInBounds i true)+1=BG ops listed:=by
 unfold BG
 have key:∀(l:List Nat),l.Nodup->i∈l->(l.countP λj=> !(listed.setIfInBounds i true).getD j true)+1=l.countP λj=> !listed.getD j true:=by
  intro l
  induction l with
  |nil=>intro _ h;cases h
  |cons x l ih=>
   intro hn hm;rw[List.nodup_cons]at hn;rw[List.countP_cons,List.countP_cons];by_cases e:x=i
   ·subst e;have h1:(!(listed.setIfInBounds x true).getD x true)=false:=by rw[PV aa];rfl
    have h2:(l.countP λj=> !(listed.setIfInBounds x true).getD j true)=l.countP λj=> !listed.getD j true:=by refine List.countP_congr λj hj=>?_;have:x≠j:=λe=>hn.1 (e▸hj);rw[getD_set_ne true this]
    rw[h1,h2,hf];simp
   ·have rF:i∈l:=by rcases List.mem_cons.1 hm with h|h;exact absurd h.symm e;exact h
    have:=ih hn.2 rF;rw[getD_set_ne true (λz=>e z.symm)];omega
 exact key _ List.nodup_range (List.mem_range.2 hi)
def ano{α:Type}{p:List α->Prop}(h0:p [])(hs:∀l x,p l->p (l++[x])):∀l,p l:=by
 intro l;rw[<-l.reverse_reverse];generalize l.reverse=r
 induction r with
 |nil=>exact h0
 |cons x r ih=>rw[List.reverse_cons];exact hs _ _ ih
def NM(G:Good ops gv)(tY:∀ch I ds U,pn ch ds U->Q (.panic ch) I ds U):∀(fuel:Nat) (listed:Array Bool) (pre rest:List Nat) (cK:List (Nat×av×Value)) (vals:Nat->Option Value) (ds:List Deferred) (U:Hp),
 BG ops listed<=fuel->uZ E N ops Q pn eJ gv listed pre rest cK vals ds U->(rest=[]\/∃w r',rest=w::r'/\oy ops w=false)->
 tu E N ops Q fuel listed (sl ops eJ (λi=>if listed.getD i false=true then vals i else none)) ds U:=by
 have fin:∀(listed:Array Bool) (pre rest:List Nat) (cK:List (Nat×av×Value)) (vals:Nat->Option Value) (ds:List Deferred) (U:Hp),uZ E N ops Q pn eJ gv listed pre rest cK vals ds U->(rest=[]\/∃w r',rest=w::r'/\oy ops w=false)->
  Region.ready .any ops listed=[]->Q .normal (sl ops eJ (λi=>if listed.getD i false=true then vals i else none)) ds U:=by
  intro listed pre rest cK vals ds U atz kW kX
  have all:∀(a b:List Nat),gv=a++b->∀i∈a,listed.getD i false=true:=by
   refine ano ?_ ?_
   ·intro b _ i hi;cases hi
   ·intro a x ih b hb i hi;have cD:gv=a++(x::b):=by rw[hb];simp
    have ha:=ih (x::b) cD;rcases List.mem_append.1 hi with h|h
    ·exact ha i h
    ·simp at h;subst h;refine Classical.byContradiction λaE=>?_;have aZ:i<ops.size:=G.lt i (by rw[hb];simp);have ho:ops[i]? =some ops[i]:=Array.getElem?_eq_getElem aZ
     have:i∈Region.ready .any ops listed:=by
      refine mem_ready.2 ⟨?_,ops[i],ho,λe he ma=>?_⟩
      ·rw[PU (by rw[atz.size];exact aZ) true false];simpa using aE
      ·have JQ:=Wd ho he ma;have hon:=(G.Ek ho).on e he;have pS:e.on∈gv:=G.all e.on hon;rw[cD,List.mem_append]at pS;rcases pS with h|h
       ·exact ha _ h
       ·rcases List.mem_cons.1 h with h|h
        ·rw[h,G.zi i aZ]at JQ;cases JQ
        ·have:=(uG G (by rw[hb]) (show i∈a++[i]by simp) h).2.1;rw[JQ]at this;cases this
     rw[kX]at this;cases this
  have Dw:rest=[]:=by
   rcases kW with h|⟨w,r',rfl,hw⟩
   ·exact h
   ·exfalso;have h1:=all (pre++[w]) r' (by rw[atz.split];simp) w ak;have h2:=atz.sub w h1;exact(uG G atz.split h2 (List.mem_cons_self ..)).1 rfl
  subst Dw;have hq:Q .normal (sl ops eJ vals) ds U:=atz.wp
  have:(λi=>if listed.getD i false=true then vals i else none)=vals:=by
   funext i
   by_cases hi:i∈pre
   ·rw[if_pos (all pre [] atz.split i hi)]
   ·rw[atz.wW i hi];split<;>rfl
  rw[this];exact hq
 intro fuel
 induction fuel with
 |zero=>
  intro listed pre rest cK vals ds U hf atz kW
  have kX:Region.ready .any ops listed=[]:=by
   cases hr:Region.ready .any ops listed with
   |nil=>rfl
   |cons i t=>
    exfalso;have hm:i∈Region.ready .any ops listed:=by rw[hr];simp
    obtain⟨h0,o,ho,_⟩:=mem_ready.1 hm;have hi:i<ops.size:=(Array.getElem?_eq_some_iff.1 ho).1;have:=U7 (ops:=ops) atz.size hi h0;omega
  exact⟨kX,fin _ _ _ _ _ _ _ atz kW kX⟩
 |succ fuel ih=>
  intro listed pre rest cK vals ds U hf atz kW;refine⟨fin _ _ _ _ _ _ _ atz kW,λi hi=>?_⟩;obtain⟨h0,o,ho,J1⟩:=mem_ready.1 hi;have AO:i<ops.size:=(Array.getElem?_eq_some_iff.1 ho).1;have tJ:listed.getD i false=false:=by rw[PU (by rw[atz.size];exact AO) false true];exact h0
  have tP:∀j,eK ops i j=true->listed.getD j false=true:=λj hj=>T6 atz.down ho J1 hj;have xf:=U7 (ops:=ops) atz.size AO h0;have RE:(listed.setIfInBounds i true).size=ops.size:=by simpa using atz.size
  have od:(listed.setIfInBounds i true).getD i false=true:=PV (by rw[atz.size];exact AO) _;have ob:∀j,j≠i->(listed.setIfInBounds i true).getD j false=listed.getD j false:=λj hj=>getD_set_ne false (λe=>hj e.symm)
  have Q0:∀a b,(listed.setIfInBounds i true).getD a false=true->eK ops a b=true->(listed.setIfInBounds i true).getD b false=true:=by
   intro a b ha dq;by_cases e:a=i
   ·subst e;by_cases e':b=a
    ·subst e';exact od
    ·rw[ob b e'];exact tP b dq
   ·rw[ob a e]at ha;by_cases e':b=i
    ·subst e';exact od
    ·rw[ob b e'];exact atz.down a b ha dq
  have Rf:∀j,eK ops j i=true->listed.getD j false=false:=by
   intro j hj
   cases hl:listed.getD j false with
   |false=>rfl
   |true=>rw[atz.down j i hl hj]at tJ;cases tJ
  have RL:∀(u:Nat->Option Value) (v:Value),u i=some v->(∀j,listed.getD j false=true->u j=vals j)->
   kN (λj=>if listed.getD j false=true then vals j else none) i v=λj=>if(listed.setIfInBounds i true).getD j false=true then u j else none:=by
   intro u v hu Gv
   funext j
   by_cases e:j=i
   ·subst e;rw[if_pos od,hu];simp[kN]
   ·rw[ob j e];simp only[kN,e,if_false];by_cases hl:listed.getD j false=true
    ·rw[if_pos hl,if_pos hl,Gv j hl]
    ·rw[if_neg hl,if_neg hl]
  unfold lV;rw[ho];by_cases gq:oy ops i=true
  ·
   have Q9:i∈pre:=by
    have hm:i∈gv:=G.all i AO;rw[atz.split,List.mem_append]at hm;rcases hm with h|h
    ·exact h
    ·exfalso;rcases kW with e|⟨w,r',rfl,hw⟩
     ·rw[e]at h;cases h
     ·rcases List.mem_cons.1 h with e|h
      ·subst e;rw[gq]at hw;cases hw
      ·have cS:gv=(pre++[w])++r':=by rw[atz.split];simp
       have h3:=(uG G cS (show w∈pre++[w]by simp) h).2.2;rw[hw]at h3;have h4:=tP w (h3.resolve_left ak);exact(uG G atz.split (atz.sub w h4) (List.mem_cons_self ..)).1 rfl
   obtain⟨o',qh,tX,hd,Ga,hag,hc⟩:=atz.waits i Q9 tJ;obtain rfl:o'=o:=Option.some.inj (tX.symm.trans ho);refine⟨hd,?_⟩
   have AE:∀t∈slotsOf ops o',sl ops eJ (λj=>if listed.getD j false=true then vals j else none) t=qh t:=by
    intro t ht;rw[hag t ht];refine EA G ho ?_ ?_ ?_ t ht
    ·simp only[tJ,G.zi i AO,Bool.false_eq_true,if_false]
    ·intro j hj;rw[if_pos (tP j hj),if_pos hj]
    ·intro j hj;have hl:=Rf j hj;simp only[hl,Bool.false_eq_true,if_false];by_cases qF:eK ops i j=true
     ·rw[tP j qF]at hl;cases hl
     ·rw[if_neg qF]
   have I':uZ E N ops Q pn eJ gv (listed.setIfInBounds i true) pre rest cK vals ds U:=by
    refine⟨RE,atz.split,λj hj=>?_,λj hj hw=>?_,atz.wW,atz.has,Q0,λr hr hl=>?_,atz.wp⟩
    ·by_cases e:j=i
     ·subst e;exact Q9
     ·rw[ob j e]at hj;exact atz.sub j hj
    ·by_cases e:j=i
     ·subst e;exact od
     ·rw[ob j e];exact atz.wr j hj hw
    ·have e:r≠i:=λe=>by subst e;rw[od]at hl;cases hl
     rw[ob r e]at hl;exact atz.waits r hr hl
   have next:∀v,vals i=some v->tu E N ops Q fuel (listed.setIfInBounds i true) (aA (sl ops eJ (λj=>if listed.getD j false=true then vals j else none)) o'.dst v) ds U:=by intro v hv;rw[Mr G ho,RL vals v hv (λ_ _=>rfl)];exact ih _ _ _ _ _ _ _ aa I' kW
   rcases hc with⟨hw,v,hv,hm,zc⟩|⟨hw,hv⟩
   ·rw[MX (N:=N) AE,if_pos hw];rw[<-ang (Pu AE)]at zc;rw[if_pos (by assumption)];exact⟨v,zc,next v hv⟩
   ·rw[MX (N:=N) AE,hw,if_neg ak];exact next undef hv
  ·
   have zb:oy ops i=false:=aV gq;have tW:i∉pre:=λh=>by rw[atz.wr i h zb]at tJ;cases tJ
   have hm:i∈rest:=by have hm:i∈gv:=G.all i AO;rw[atz.split,List.mem_append]at hm;exact hm.resolve_left tW
   rcases kW with e|⟨w,r',rfl,hw⟩
   ·rw[e]at hm;cases hm
   have hiw:i=w:=by
    rcases List.mem_cons.1 hm with e|h
    ·exact e
    ·exfalso;have cS:gv=(pre++[w])++r':=by rw[atz.split];simp
     have h3:=(uG G cS (show w∈pre++[w]by simp) h).2.2;rw[hw]at h3;have h4:=tP w (h3.resolve_left ak);exact(uG G atz.split (atz.sub w h4) (List.mem_cons_self ..)).1 rfl
   subst hiw;have AZ:=atz.wp;simp only[fN,ho]at AZ;have Ga:cW o.op=false:=by unfold oy at zb;rw[ho]at zb;exact zb
   rw[if_neg (by rw[Ga];simp)]at AZ;obtain⟨hd,aR⟩:=AZ;have afW:=(G.Ek ho).wr.resolve_left (by rw[Ga];simp);refine⟨hd,?_⟩
   have AE:∀t∈slotsOf ops o,sl ops eJ vals t=sl ops eJ (λj=>if listed.getD j false=true then vals j else none) t:=by
    refine EA G ho ?_ ?_ ?_
    ·simp only[tJ,Bool.false_eq_true,if_false];exact atz.wW i tW
    ·intro j hj;rw[if_pos (tP j hj)]
    ·intro j hj;have hl:=Rf j hj;simp only[hl,Bool.false_eq_true,if_false];refine atz.wW j λGd=>?_;have:=(uG G atz.split Gd (List.mem_cons_self ..)).2.1;rw[hj]at this;cases this
   rw[<-MX (N:=N) AE]
   suffices key:∀(v:Value) (cV:List Deferred) (ae:Hp),(pe (P:=P) ops i ae cK\/ae=U)->fN E N ops Q pn r' cK (aA (sl ops eJ vals) o.dst v) cV ae->
    tu E N ops Q fuel (listed.setIfInBounds i true) (aA (sl ops eJ (λj=>if listed.getD j false=true then vals j else none)) o.dst v) cV ae by
    by_cases RN:Region.wanted o (gO N ops (sl ops eJ vals))=true
    ·rw[if_pos RN]at aR|-;rw[if_neg (by rw[Ga];simp)];refine Vg (abx afW AE) ?_ (λch ae h=>tY ch _ ds ae h) (rV aR);rintro v cV ae ⟨hk,GG⟩;exact key v cV ae (.inl hk) GG
    ·rw[if_neg RN]at aR|-;exact key undef ds U (.inr rfl) aR
   rintro v cV ae hk GG;have cS:gv=(pre++[i])++r':=by rw[atz.split];simp
   rw[Mr G ho]at GG|-;have KM:kN vals i v i=some v:=by simp[kN]
   have oZ:∀j,j≠i->kN vals i v j=vals j:=λj hj=>by simp[kN,hj]
   have I':uZ E N ops Q pn eJ gv (listed.setIfInBounds i true) (pre++[i]) r' cK (kN vals i v) cV ae:=by
    refine⟨RE,cS,λj hj=>?_,λj hj hw=>?_,λj hj=>?_,λj hj=>?_,Q0,λr hr hl=>?_,GG⟩
    ·by_cases e:j=i
     ·subst e;simp
     ·rw[ob j e]at hj;exact List.mem_append.2 (.inl (atz.sub j hj))
    ·rcases List.mem_append.1 hj with h|h
     ·by_cases e:j=i
      ·subst e;exact od
      ·rw[ob j e];exact atz.wr j h hw
     ·simp at h;subst h;exact od
    ·have e:j≠i:=λe=>hj (by rw[e];simp);rw[oZ j e];exact atz.wW j (λh=>hj (List.mem_append.2 (.inl h)))
    ·rcases List.mem_append.1 hj with h|h
     ·by_cases e:j=i
      ·subst e;exact⟨v,KM⟩
      ·obtain⟨u,hu⟩:=atz.has j h;exact⟨u,by rw[oZ j e];exact hu⟩
     ·simp at h;subst h;exact⟨v,KM⟩
    ·have e:r≠i:=λe=>by subst e;rw[od]at hl;cases hl
     have Gu:r∈pre:=by
      rcases List.mem_append.1 hr with h|h
      ·exact h
      ·simp at h;exact absurd h e
     rw[ob r e]at hl;obtain⟨TB,qh,Ku,aez,ae5,vy,aes⟩:=atz.waits r Gu hl;refine⟨TB,qh,Ku,aez,ae5,λt ht=>?_,?_⟩
     ·rw[vy t ht];refine EA G Ku ?_ ?_ ?_ t ht
      ·have:=G.zi r (G.lt r (by rw[atz.split];exact List.mem_append.2 (.inl Gu)));simp[this]
      ·intro j hj;rw[if_pos hj,if_pos hj];have:j∈pre:=EN G atz.split Gu hj (BY G hj);exact(oZ j (λe=>tW (e▸this))).symm
      ·intro j hj;by_cases lQ:eK ops r j=true
       ·rw[if_pos lQ,if_pos lQ];have:j∈pre:=EN G atz.split Gu lQ (BY G lQ);exact(oZ j (λe=>tW (e▸this))).symm
       ·rw[if_neg lQ,if_neg lQ]
     ·rcases aes with⟨zg,u,hu,hm,zc⟩|⟨zg,hu⟩
      ·refine .inl ⟨zg,u,by rw[oZ r e];exact hu,hm,?_⟩
       cases hh:C0 TB.op with
       |false=>rw[anh hh (ae:=U)];exact zc
       |true=>
        rcases hk with hk|rfl
        ·refine ah2 hk hm Ku hh ?_
         cases hx:eK ops i r with
         |false=>rfl
         |true=>rw[tP r hx]at hl;cases hl
        ·exact zc
      ·exact .inr ⟨zg,by rw[oZ r e];exact hu⟩
   obtain⟨G7,uI,uE,lD,VE,Gv,aeR⟩:=advance G _ _ _ _ I';have:=ih _ _ _ _ _ _ _ aa VE aeR
   rw[RL lD v (by rw[Gv i od];exact KM) (λj hj=>by
    have e:j≠i:=λe=>by subst e;rw[tJ]at hj;cases hj
    rw[Gv j (by rw[ob j e];exact hj),oZ j e])]
   exact this
def Pd(hc:su ops l=true)(hm:P.follows .mixedOrders=true)(tY:∀ch I ds U,pn ch ds U->Q (.panic ch) I ds U)(h:fN E N ops Q pn l [] I ds U)(t:Nat):
 my E N ops Q (Region.schedule (P.follows .mixedOrders) ops t) I ds U:=by
 have G:=P6 hc;have e0:sl ops I (λ_=>none)=I:=by funext t;exact uR (λ_ _=>rfl)
 have lL:∀i,(Array.replicate ops.size false).getD i false=false:=λi=>by rw[Array.getD_eq_getD_getElem?,Array.getElem?_replicate];split<;>rfl
 have atz:uZ E N ops Q pn I l (Array.replicate ops.size false) [] l [] (λ_=>none) ds U:=by refine⟨ak,rfl,λi hi=>(by rw[lL]at hi;cases hi),λi hi=>(by cases hi),λ_ _=>rfl,λi hi=>(by cases hi),λi j hi=>(by rw[lL]at hi;cases hi),λr hr=>(by cases hr),(by rw[e0];exact h)⟩
 obtain⟨G7,uI,uE,lD,I',_,hh⟩:=advance G _ _ _ _ atz;have:=NM G tY ops.size _ _ _ _ _ _ _ (by unfold BG;exact Nat.le_trans List.countP_le_length ak) I' hh
 have e1:sl ops I (λi=>if(Array.replicate ops.size false).getD i false=true then lD i else none)=I:=by funext t;exact uR (λi _=>by rw[lL];rfl)
 rw[e1]at this;simp only[Region.schedule,hm,Bool.true_or,if_true];exact Ve _ t _ _ _ _ this
end Go.Qw
