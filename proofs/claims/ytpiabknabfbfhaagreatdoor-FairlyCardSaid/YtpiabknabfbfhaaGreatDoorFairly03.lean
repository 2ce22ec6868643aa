/- Part 3. -/
import Derived.Orders
import Derived.Test.YtpiabknabfbfhaaGreatDoorFairly02
set_option linter.all false
set_option maxRecDepth 100000
set_option maxHeartbeats 8000000
namespace Go.Qw
open Go Go.Conc
def iQ(P:Program)(t:TypeId)(a:Addr)(σ:Hp):Option Value:=
 if dx P t then(cellsOf σ a (cq P t)).map .agg else σ.cell? a
def cR(P:Program)(op:Op)(ρ:av)(σ:Hp):Option Value:=
 match op with
 | .move x| .assign x=>some (ak ρ x)
 | .pick c a b=>match ak ρ c with
   | .bool true=>some (ak ρ a)
   | .bool false=>some (ak ρ b)
   |_=>none
 | .load t x=>match ak ρ x with
   | .pointer (some a)=>if dm P t then iQ P t a σ else none
   |_=>none
 | .nilCheck x=>match ak ρ x with
   | .pointer (some a)=>some (.pointer (some a))
   | .func (.func f) l c=>some (.func (.func f) l c)
   |_=>none
 | .fieldAddr s x f=>match ak ρ x,bH P s f with
   | .pointer (some a),some off=>some (.pointer (some (a.add off)))
   |_,_=>none
 | .binOp op t x y _=>match cG op (ak ρ x) (ak ρ y)with
   |some v=>some v
   |none=>match eO P op t (ak ρ x) (ak ρ y)with
    |some v=>some v
    |none=>mY P op t x y (ak ρ x) (ak ρ y)
 | .unOp op _ x=>uN op (ak ρ x)
 | .convert src dst x=>lU P src dst (ak ρ x)
 | .makeInterface t x=>match P.underlying t with
   |some (.interface _)=>none
   |some _=>some (.iface t (ak ρ x))
   |none=>none
 | .makeFunc fn l c=>some (.func fn (l.map (ak ρ)) (c.map (ak ρ)))
 | .extract x i=>match ak ρ x with
   | .tuple vs=>vs[i]?
   |_=>none
 | .indexAddr t x i=>match s5 P t,ak ρ x,ak ρ i with
   |some e,.slice (some a) n _,.int _ k=>if 0<=k/\k<n/\(P.info? e).isSome=true then some (.pointer (some (a.add (k.toNat*cq P e))))else none
   |_,_,_=>none
 | .index t x i=>match P.underlying t,ak ρ x,ak ρ i with
   |some .string,.string s,.int _ k=>if h:0<=k/\k.toNat<s.size then some (.int .u8 (s[k.toNat]'h.2).toNat)else none
   |_,_,_=>none
 | .slice t x lo hi none=>match P.underlying t,ak ρ x with
   |some .string,.string s=>match nA (lo.map (ak ρ)),jy s.size (hi.map (ak ρ))with
    |some l,some h=>if 0<=l/\l<=h/\h<=s.size then some (.string (s.extract l.toNat h.toNat))else none
    |_,_=>none
   |some (.slice e),.slice a n c=>match nA (lo.map (ak ρ)),jy n (hi.map (ak ρ))with
    |some l,some h=>if 0<=l/\l<=h/\h<=c/\(P.info? e).isSome=true then
     some (.slice (if c=l.toNat then a else a.map (·.add (l.toNat*cq P e))) (h.toNat-l.toNat) (c-l.toNat))else none
    |_,_=>none
   |_,_=>none
 | .call ⟨.builtin .len,as,cg⟩=>match cg[0]?,(as.map (ak ρ))[0]? with
   |some t,some x=>if xy P t x then xz x else none
   |_,_=>none
 |_=>none
variable {P:Program}{σ:Hp}{v:Value}
def ui{t:TypeId}{a:Addr}{k:Value->Prop}(h:iQ P t a σ=some v)(hk:k v):nY P t a σ k:=by
 unfold iQ at h;unfold nY;split
 ·rename_i hc;rw[if_pos hc]at h;obtain⟨cs,h1,rfl⟩:=Option.map_eq_some_iff.1 h;rw[h1];exact hk
 ·rename_i hc;rw[if_neg hc]at h;rw[h];exact hk
variable {ρ:av}{ds:List Deferred}{nx:av->List Deferred->Hp->Prop}{E:Env P}{pn:List PanicEntry->Hp->Prop}{o:Oper}
def L5(h:cR P o.op ρ σ=some v)(k:nx (aB ρ o.dst v) ds σ):aT E o ρ ds σ nx pn:=by
 obtain⟨dst,op,type,pos,after,guard⟩:=o;unfold cR at h;simp only at h k;split at h
 case h_1=>obtain rfl:=Option.some.inj h;exact k
 case h_2=>obtain rfl:=Option.some.inj h;exact k
 case h_3=>
  simp only[aT];split at h<;>first|(cases h;done)|(rename_i hc;obtain rfl:=Option.some.inj h;rw[hc];exact k)
 case h_4=>
  simp only[aT];split at h
  ·rename_i a hx;split at h
   ·rename_i ht;rw[hx];exact⟨ht,ui h k⟩
   ·cases h
  ·cases h
 case h_5=>
  simp only[aT];split at h<;>first|(cases h;done)|(rename_i hc;obtain rfl:=Option.some.inj h;rw[hc];exact k)
 case h_6=>
  simp only[aT];split at h
  ·rename_i a off hx hf;obtain rfl:=Option.some.inj h;rw[hx,hf];exact k
  ·cases h
 case h_7 op t x y u=>
  simp only[aT];split at h
  ·rename_i v' hb;obtain rfl:=Option.some.inj h;rw[hb];exact k
  ·rename_i hb;rw[hb];split at h
   ·rename_i v' hv;obtain rfl:=Option.some.inj h;rw[hv];exact k
   ·rename_i hv;rw[hv,h];exact k
 case h_8=>simp only[aT];rw[h];exact k
 case h_9=>simp only[aT];rw[h];exact k
 case h_10 t x=>
  simp only[aT]
  cases hu:P.underlying t with
  |none=>rw[hu]at h;cases h
  |some d=>
   rw[hu]at h
   cases d<;>first|(cases h;done)|(obtain rfl:=Option.some.inj h;exact k)
 case h_11=>obtain rfl:=Option.some.inj h;exact k
 case h_12=>
  simp only[aT];split at h
  ·rename_i vs hx;rw[hx];simp only;rw[h];exact k
  ·cases h
 case h_13=>
  simp only[aT];split at h
  ·rename_i e a n c kk i hs hx hi;split at h
   ·rename_i hc;obtain rfl:=Option.some.inj h;rw[hs,hx,hi];exact⟨hc,k⟩
   ·cases h
  ·cases h
 case h_14=>
  simp only[aT];split at h
  ·rename_i s kk i hu hx hi;split at h
   ·rename_i hc;obtain rfl:=Option.some.inj h;rw[hu,hx,hi];exact⟨hc,k⟩
   ·cases h
  ·cases h
 case h_15=>
  simp only[aT];split at h
  ·rename_i s hu hx;rw[hu,hx];simp only;split at h
   ·rename_i l hh h1 h2;split at h
    ·rename_i hc;obtain rfl:=Option.some.inj h;rw[h1,h2];exact⟨hc,k⟩
    ·cases h
   ·cases h
  ·rename_i e a n c hu hx;rw[hu,hx];simp only;split at h
   ·rename_i l hh h1 h2;split at h
    ·rename_i hc;obtain rfl:=Option.some.inj h;rw[h1,h2];exact⟨hc,k⟩
    ·cases h
   ·cases h
  ·cases h
 case h_16=>
  simp only[aT];split at h
  ·rename_i t x ht hx;split at h
   ·rename_i hl;rw[ht,hx];simp only;rw[hl,h];exact k
   ·cases h
  ·cases h
 case h_17=>cases h
def cT:Op->Bool
 | .move _| .assign _| .pick .. | .load .. | .nilCheck _| .fieldAddr .. | .binOp .. | .unOp .. | .convert .. | .makeInterface .. | .makeFunc .. | .extract .. | .indexAddr .. | .index .. =>true
 | .slice _ _ _ _ none=>true
 | .call ⟨.builtin .len,_,cg⟩=>cg != #[273]
 |_=>false
def CV:Op->Bool
 | .load .. =>true
 |_=>false
def LF:Op->Bool
 | .select .. =>false
 |_=>true
def uW(ops:Array Oper):Nat->Nat->Nat->Bool
 |0,_,_=>false
 |f+1,i,j=>match ops[i]? with
  |some o=>o.after.toList.any λe=>Region.binds .any e&&(e.on==j||uW ops f e.on j)
  |none=>false
def eI(ops:Array Oper)(i j:Nat):Bool:=uW ops ops.size i j
def fT(ops:Array Oper)(i:Nat):Option Tmp:=(ops[i]?).bind (·.dst)
def tmpsOf(xs:List Operand):List Tmp:=xs.filterMap λ| .tmp t=>some t|_=>none
def slotsOf(ops:Array Oper)(o:Oper):List Tmp:=tmpsOf o.op.operands.toList++(match o.guard with|some (j,_)=>(fT ops j).toList|none=>[])
def oe(ops:Array Oper)(i:Nat):Bool:=match ops[i]? with|some o=>cT o.op|none=>true
def G7(ops:Array Oper):List Nat->Bool
 |[]=>true
 |i::r=>r.all (λj=> !(i==j)&& !eI ops i j&&(oe ops i||eI ops j i))&&G7 ops r
def LQ(ops:Array Oper)(i:Nat):Bool:=match ops[i]? with
 |some o=>(cT o.op||LF o.op)&&o.after.toList.all (λe=>decide (e.on<ops.size))&&
  (List.range ops.size).all λj=>i==j||((match o.dst with|some d=> !(fT ops j==some d)|none=>true)&&
   (match fT ops j with|some d=> !(slotsOf ops o).contains d||eI ops i j||eI ops j i|none=>true))
 |none=>false
def rX(ops:Array Oper)(l:List Nat):Bool:=(List.range ops.size).all (λi=>l.contains i)&&l.all (λi=>decide (i<ops.size))&&G7 ops l&&(List.range ops.size).all (LQ ops)&&(List.range ops.size).all λi=> !eI ops i i
section
variable {ρ:av}{ds:List Deferred}{σ:Hp}
variable {P:Program}(E:Env P)
def oR (ops:Array Oper)(i:Nat)(σ:Hp):List (Nat×av×Value)->Prop
 |[]=>True
 |(j,ρ,v)::r=>(match ops[j]? with
  |some o=>if CV o.op&& !eI ops i j then cR P o.op ρ σ=some v else True
  |none=>True)/\oR ops i σ r
def fP (N:Nat)(ops:Array Oper)(Q:Post)(pn:List PanicEntry->List Deferred->Hp->Prop):List Nat->List (Nat×av×Value)->av->List Deferred->Hp->Prop
 |[],_,ρ,ds,σ=>Q .normal ρ ds σ
 |i::rest,cE,ρ,ds,σ=>match ops[i]? with
  |none=>False
  |some o=>oX N o.dst=true/\
   if cT o.op then
    if Region.wanted o (gK N ops ρ)then match cR P o.op ρ σ with
     |some v=>fP N ops Q pn rest ((i,ρ,v)::cE) (aB ρ o.dst v) ds σ
     |none=>False
    else fP N ops Q pn rest cE (aB ρ o.dst undef) ds σ
   else if Region.wanted o (gK N ops ρ)then aT E o ρ ds σ (λaD cX ae=>oR (P:=P) ops i ae cE/\fP N ops Q pn rest cE aD cX ae) (λch ae=>pn ch ds ae)
   else fP N ops Q pn rest cE (aB ρ o.dst undef) ds σ
def lP (N:Nat)(ops:Array Oper)(Q:Post)(i:Nat)(K:av->List Deferred->Hp->Prop)(ρ:av)(ds:List Deferred)(σ:Hp):Prop:=
 match ops[i]? with
 |none=>False
 |some o=>oX N o.dst=true/\
  if Region.wanted o (gK N ops ρ)then(if cT o.op then∃v,cR P o.op ρ σ=some v/\K (aB ρ o.dst v) ds σ else wpOp E o ρ ds σ K (λch ae=>Q (.panic ch) ρ ds ae))else K (aB ρ o.dst undef) ds σ
def ml (N:Nat)(ops:Array Oper)(Q:Post):List Nat->av->List Deferred->Hp->Prop
 |[],ρ,ds,σ=>Q .normal ρ ds σ
 |i::rest,ρ,ds,σ=>lP E N ops Q i (ml N ops Q rest) ρ ds σ
def s9 (N:Nat)(ops:Array Oper)(Q:Post):Nat->Array Bool->av->List Deferred->Hp->Prop
 |0,listed,ρ,ds,σ=>Region.ready .any ops listed=[]/\Q .normal ρ ds σ
 |fuel+1,listed,ρ,ds,σ=>(Region.ready .any ops listed=[]->Q .normal ρ ds σ)/\
  ∀i∈Region.ready .any ops listed,lP E N ops Q i (s9 N ops Q fuel (listed.setIfInBounds i true)) ρ ds σ
end
def pd.mono{V V':Value->Hp->Prop}{D D':Deferred->Hp->Prop}{C C':FuncId->Array Value->Hp->Prop}(hv:∀v σ,V v σ->V' v σ)(hd:∀v σ,D v σ->D' v σ)(hc:∀f a σ,C f a σ->C' f a σ):
 ∀n σ,pd V D C n σ->pd V' D' C' n σ:=by
 intro n σ h
 cases n<;>first|exact hv _ _ h|exact hd _ _ h|exact hc _ _ _ h|exact h.elim
variable {aD:av}
def U9{Tf:av->List Deferred->Hp->Prop}{p p':List PanicEntry->Hp->Prop}(he:execOp (ak ρ) o=execOp (ak aD) o)(hn:∀v ds σ,nx (aB ρ o.dst v) ds σ->Tf (aB aD o.dst v) ds σ)(hp:∀ch σ,p ch σ->p' ch σ)(h:wpOp E o ρ ds σ nx p):wpOp E o aD ds σ Tf p':=by
 unfold wpOp at h|-;rw[<-he];refine MW (pd.mono (λv σ h=>hn _ _ _ h) (λd σ h=>hn _ _ _ h) (λf a σ h=>h.mono λe ae hh=>?_)) (λx σ hh=>?_) _ _ h
 ·cases x<;>first|exact hp _ _ hh|exact hh
 ·cases e with
  |returned v=>exact hn _ _ _ hh
  |panicked ch=>exact hp _ _ hh
variable {N:Nat}{ops:Array Oper}{Q:Post}{i:Nat}
def Ey{K K':av->List Deferred->Hp->Prop}(hk:∀ρ ds σ,K ρ ds σ->K' ρ ds σ)(h:lP E N ops Q i K ρ ds σ):lP E N ops Q i K' ρ ds σ:=by
 unfold lP at h|-
 cases ho:ops[i]? with
 |none=>rw[ho]at h;exact h.elim
 |some o=>
  rw[ho]at h;refine⟨h.1,?_⟩;have h2:=h.2;split
  ·rename_i hw;rw[if_pos hw]at h2;split
   ·rename_i hr;rw[if_pos hr]at h2;obtain⟨v,h3,h4⟩:=h2;exact⟨v,h3,hk _ _ _ h4⟩
   ·rename_i hr;rw[if_neg hr]at h2;exact U9 rfl (λv ds σ x=>hk _ _ _ x) (λ_ _ x=>x) h2
  ·rename_i hw;rw[if_neg hw]at h2;exact hk _ _ _ h2
def U7:∀(fuel t:Nat) (listed:Array Bool) (ρ:av) (ds:List Deferred) (σ:Hp),s9 E N ops Q fuel listed ρ ds σ->ml E N ops Q (Region.linearise.go .any ops fuel t listed []) ρ ds σ:=by
 intro fuel
 induction fuel with
 |zero=>intro t listed ρ ds σ h;simpa[Region.linearise.go,ml]using h.2
 |succ fuel ih=>
  intro t listed ρ ds σ h;obtain⟨aga,KI⟩:=h;simp only[Region.linearise.go]
  change ml E N ops Q (match(Region.ready .any ops listed)[t %(Region.ready .any ops listed).length]? with
   |some i=>Region.linearise.go .any ops fuel (t/(Region.ready .any ops listed).length) (listed.setIfInBounds i true) [i]
   |none=>[].reverse) ρ ds σ
  cases hi:(Region.ready .any ops listed)[t %(Region.ready .any ops listed).length]? with
  |none=>
   have pK:Region.ready .any ops listed=[]:=by
    cases hr:Region.ready .any ops listed with
    |nil=>rfl
    |cons x xs=>
     rw[hr]at hi;have bj:t %(x::xs).length<(x::xs).length:=Nat.mod_lt _ al;simp at hi;simp at bj;omega
   simpa[ml]using aga pK
  |some i=>
   simp only[];rw[linearise_go_acc,List.reverse_singleton,List.singleton_append];exact Ey (λρ ds σ=>ih _ _ ρ ds σ) (KI i (List.mem_of_getElem? hi))
def amX{op:Op}(h:∀x∈op.operands,ak ρ x=ak aD x):cR P op ρ σ=cR P op aD σ:=by
 cases op<;>first|rfl|skip
 case move x=>simp only[cR];rw[h x (by simp[Op.operands])]
 case assign x=>simp only[cR];rw[h x (by simp[Op.operands])]
 case pick c a b=>simp only[cR];rw[h c (by simp[Op.operands]),h a (by simp[Op.operands]),h b (by simp[Op.operands])]
 case load t x=>simp only[cR];rw[h x (by simp[Op.operands])]
 case nilCheck x=>simp only[cR];rw[h x (by simp[Op.operands])]
 case binOp o t x y u=>simp only[cR];rw[h x (by simp[Op.operands]),h y (by simp[Op.operands])]
 case unOp o t x=>simp only[cR];rw[h x (by simp[Op.operands])]
 case convert s d x=>simp only[cR];rw[h x (by simp[Op.operands])]
 case makeInterface t x=>simp only[cR];rw[h x (by simp[Op.operands])]
 case fieldAddr t x f=>simp only[cR];rw[h x (by simp[Op.operands])]
 case extract x i=>simp only[cR];rw[h x (by simp[Op.operands])]
 case indexAddr t x i=>simp only[cR];rw[h x (by simp[Op.operands]),h i (by simp[Op.operands])]
 case index t x i=>simp only[cR];rw[h x (by simp[Op.operands]),h i (by simp[Op.operands])]
 case makeFunc fn l c=>
  have e:∀(zs:Array Operand),(∀x∈zs,x∈(Op.makeFunc fn l c).operands)->zs.map (ak ρ)=zs.map (ak aD):=λzs hz=>
   Array.map_congr_left λx hx=>h x (hz x hx)
  simp only[cR];rw[e l (by simp[Op.operands];exactλx hx=>.inl hx),e c (by simp[Op.operands];exactλx hx=>.inr hx)]
 case slice t x lo hi mx=>
  cases mx with
  |some m=>rfl
  |none=>
   have e:∀(z:Option Operand),(∀u∈z,u∈(Op.slice t x lo hi none).operands)->z.map (ak ρ)=z.map (ak aD):=λz hz=>by
    cases z with
    |none=>rfl
    |some y=>simp only[Option.map_some];rw[h y (hz y rfl)]
   simp only[cR];rw[h x (by simp[Op.operands]),e lo (by intro y hy;cases hy;simp[Op.operands]),e hi (by intro y hy;cases hy;simp[Op.operands])]
 case call c=>
  obtain⟨callee,args,cg⟩:=c
  cases callee with
  |value f=>rfl
  |invoke r m=>rfl
  |builtin b=>
   cases b<;>first|rfl|skip
   have e:args.map (ak ρ)=args.map (ak aD):=Array.map_congr_left λx hx=>h x (by simp[Op.operands,Call.operands];exact hx);simp only[cR];rw[e]
def amY{op:Op}{ae:Hp}(h:CV op=false):cR P op ρ σ=cR P op ρ ae:=by
 cases op<;>first|rfl|(cases h;done)|skip
 case slice t x lo hi mx=>cases mx<;>rfl
 case call c=>
  obtain⟨callee,args,cg⟩:=c
  cases callee with
  |value f=>rfl
  |invoke r m=>rfl
  |builtin b=>cases b<;>rfl
open Classical in
noncomputable def sl(ops:Array Oper)(eH:av)(vals:Nat->Option Value)(t:Nat):Value:=
 if h:∃v i,fT ops i=some t/\vals i=some v then h.choose else eH t
structure Good (ops:Array Oper) (l:List Nat):Prop where
 all:∀i,i<ops.size->i∈l
 lt:∀i∈l,i<ops.size
 pw:l.Pairwise λi j=>i≠j/\eI ops i j=false/\(oe ops i=true\/eI ops j i=true)
 op:∀i,i<ops.size->LQ ops i=true
 zd:∀i,i<ops.size->eI ops i i=false
def TD:∀{l:List Nat},G7 ops l=true->l.Pairwise λi j=>i≠j/\eI ops i j=false/\(oe ops i=true\/eI ops j i=true)
 |[],_=>.nil
 |i::r,h=>by simp only[G7,Bool.and_eq_true,List.all_eq_true,Bool.not_eq_true',Bool.or_eq_true,beq_eq_false_iff_ne]at h;exact .cons (λj hj=>⟨(h.1 j hj).1.1,(h.1 j hj).1.2,(h.1 j hj).2⟩) (TD h.2)
variable {l:List Nat}
def P0(h:rX ops l=true):Good ops l:=by simp only[rX,Bool.and_eq_true,List.all_eq_true,List.contains_eq_mem,List.mem_range,Bool.not_eq_true',decide_eq_true_eq]at h;obtain⟨⟨⟨⟨h1,h2⟩,h3⟩,h4⟩,h5⟩:=h;exact⟨h1,h2,TD h3,h4,h5⟩
structure VC (ops:Array Oper) (i:Nat) (o:Oper):Prop where
 wr:cT o.op=true\/LF o.op=true
 on:∀e∈o.after,e.on<ops.size
 dst:∀j d,j<ops.size->j≠i->o.dst=some d->fT ops j≠some d
 an6:∀j d,j<ops.size->j≠i->fT ops j=some d->d∈slotsOf ops o->eI ops i j=true\/eI ops j i=true
def Good.Ed(h:Good ops l)(ho:ops[i]? =some o):VC ops i o:=by
 have hi:i<ops.size:=(Array.getElem?_eq_some_iff.1 ho).1;have hc:=h.op i hi;simp only[LQ,ho,Bool.and_eq_true,Bool.or_eq_true,List.all_eq_true,List.mem_range,beq_iff_eq,decide_eq_true_eq]at hc;obtain⟨⟨h1,h2⟩,h3⟩:=hc;refine⟨h1,λe he=>h2 e (aZ he),λj d hj aE hd=>?_,λj d hj aE hd hs=>?_⟩
 ·rcases h3 j hj with e|⟨h4,_⟩
  ·exact absurd e.symm aE
  ·rw[hd]at h4;simpa using h4
 ·rcases h3 j hj with e|⟨_,h5⟩
  ·exact absurd e.symm aE
  ·rw[hd]at h5;simp only[Bool.or_eq_true,Bool.not_eq_true',List.contains_eq_mem,decide_eq_false_iff_not]at h5;rcases h5 with(h5|h5)|h5
   ·exact absurd hs h5
   ·exact .inl h5
   ·exact .inr h5
def O8{d:Tmp}(h:fT ops i=some d):i<ops.size:=by unfold fT at h;obtain⟨o,ho,_⟩:=Option.bind_eq_some_iff.1 h;exact(Array.getElem?_eq_some_iff.1 ho).1
variable {j:Nat}
def Good.uniq(h:Good ops l){d:Tmp}(hi:fT ops i=some d)(hj:fT ops j=some d):i=j:=by obtain⟨o,ho,hd⟩:=Option.bind_eq_some_iff.1 hi;exact Classical.byContradiction λaE=>(h.Ed ho).dst j d (O8 hj) (λe=>aE e.symm) hd hj
variable {eH:av}{vals:Nat->Option Value}{gA:List Nat}{t:Nat}
def Ev(G:Good ops gA)(hd:fT ops i=some t)(hv:vals i=some v):sl ops eH vals t=v:=by unfold sl;have h:∃v i,fT ops i=some t/\vals i=some v:=⟨v,i,hd,hv⟩;rw[dif_pos h];obtain⟨j,hj,hjv⟩:=h.choose_spec;obtain rfl:=G.uniq hd hj;exact Option.some.inj (hjv.symm.trans hv)
def uJ(h:∀i,fT ops i=some t->vals i=none):sl ops eH vals t=eH t:=by unfold sl;rw[dif_neg];rintro⟨v,i,hd,hv⟩;rw[h i hd]at hv;cases hv
def kF(vals:Nat->Option Value)(i:Nat)(v:Value):Nat->Option Value:=λj=>if j=i then some v else vals j
def Mk(G:Good ops gA)(ho:ops[i]? =some o)(v:Value):aB (sl ops eH vals) o.dst v=sl ops eH (kF vals i v):=by
 have QL:fT ops i=o.dst:=by simp[fT,ho]
 funext t
 by_cases hi:fT ops i=some t
 ·rw[Ev G hi (show kF vals i v i=some v by simp[kF])];rw[QL]at hi;rw[hi];simp[aB,up]
 ·have hl:aB (sl ops eH vals) o.dst v t=sl ops eH vals t:=by
   cases hd:o.dst with
   |none=>rfl
   |some d=>
    have:t≠d:=λe=>hi (by rw[QL,hd,e]);simp[aB,up,this]
  rw[hl];by_cases hx:∃w j,fT ops j=some t/\vals j=some w
  ·obtain⟨w,j,hj,hw⟩:=hx;have aE:j≠i:=λe=>hi (e▸hj);rw[Ev G hj hw,Ev G hj (show kF vals i v j=some w by simp[kF,aE,hw])]
  ·rw[uJ (λj hj=>by cases hw:vals j with|none=>rfl|some w=>exact absurd ⟨w,j,hj,hw⟩ hx)]
   rw[uJ (λj hj=>by
    have aE:j≠i:=λe=>hi (e▸hj)
    simp only[kF,aE,if_false]
    cases hw:vals j with
    |none=>rfl
    |some w=>exact absurd ⟨w,j,hj,hw⟩ hx)]
def Eu(G:Good ops gA)(ho:ops[i]? =some o){kZ:Nat->Option Value}(nU:vals i=kZ i)(ha:∀j,eI ops i j=true->vals j=kZ j)(hb:∀j,eI ops j i=true->vals j=kZ j):
 ∀t∈slotsOf ops o,sl ops eH vals t=sl ops eH kZ t:=by
 intro t ht;by_cases hx:∃j,fT ops j=some t
 ·obtain⟨j,hj⟩:=hx
  have e:vals j=kZ j:=by
   by_cases AO:j=i
   ·subst AO;exact nU
   ·rcases(G.Ed ho).an6 j t (O8 hj) AO hj ht with h|h
    ·exact ha j h
    ·exact hb j h
  cases hv:vals j with
  |some v=>rw[Ev G hj hv,Ev G hj (e▸hv)]
  |none=>
   rw[uJ (λk hk=>by rw[G.uniq hk hj];exact hv),uJ (λk hk=>by rw[G.uniq hk hj,<-e];exact hv)]
 ·rw[uJ (λj hj=>absurd ⟨j,hj⟩ hx),uJ (λj hj=>absurd ⟨j,hj⟩ hx)]
def Po(h:∀t∈slotsOf ops o,ρ t=aD t):∀x∈o.op.operands,ak ρ x=ak aD x:=by
 intro x hx
 cases x<;>first|rfl|skip
 rename_i t;exact h t (List.mem_append.2 (.inl (List.mem_filterMap.2 ⟨.tmp t,aZ hx,rfl⟩)))
def MR(h:∀t∈slotsOf ops o,ρ t=aD t):Region.wanted o (gK N ops ρ)=Region.wanted o (gK N ops aD):=by
 unfold Region.wanted
 cases hg:o.guard with
 |none=>rfl
 |some p=>
  obtain⟨j,b⟩:=p;simp only
  have:gK N ops ρ j=gK N ops aD j:=by
   unfold gK
   cases hd:(ops[j]?).bind (·.dst)with
   |none=>rfl
   |some d=>
    simp only;rw[h d (List.mem_append.2 (.inr (by rw[hg];simp[fT,hd])))]
  rw[this]
def aa5(hs:LF o.op=true)(h:∀t∈slotsOf ops o,ρ t=aD t):execOp (ak ρ) o=execOp (ak aD) o:=
 execOp_congr o (λcs b e=>by rw[e]at hs;cases hs) (Po h)
def VJ(P:Program)(N:Nat)(ops:Array Oper)(eH:av)(vals:Nat->Option Value)(cE:List (Nat×av×Value))(σ:Hp)(r:Nat):Prop:=
 ∃o pZ,ops[r]? =some o/\oX N o.dst=true/\cT o.op=true/\
  (∀t∈slotsOf ops o,pZ t=sl ops eH (λj=>if eI ops r j=true then vals j else none) t)/\
  ((Region.wanted o (gK N ops pZ)=true/\∃v,vals r=some v/\(r,pZ,v)∈cE/\cR P o.op pZ σ=some v)\/(Region.wanted o (gK N ops pZ)=false/\vals r=some undef))
variable {pn:List PanicEntry->List Deferred->Hp->Prop}
structure uS (E:Env P) (N:Nat) (ops:Array Oper) (Q:Post) (pn:List PanicEntry->List Deferred->Hp->Prop) (eH:av) (gA:List Nat) (listed:Array Bool) (pre rest:List Nat) (cE:List (Nat×av×Value)) (vals:Nat->Option Value)
 (ds:List Deferred) (σ:Hp):Prop where
 size:listed.size=ops.size
 split:gA=pre++rest
 sub:∀i,listed.getD i false=true->i∈pre
 wr:∀i∈pre,oe ops i=false->listed.getD i false=true
 wO:∀i,i∉pre->vals i=none
 has:∀i∈pre,∃v,vals i=some v
 down:∀i j,listed.getD i false=true->eI ops i j=true->listed.getD j false=true
 waits:∀r∈pre,listed.getD r false=false->VJ P N ops eH vals cE σ r
 wp:fP E N ops Q pn rest cE (sl ops eH vals) ds σ
variable {pre rest:List Nat}
def uz(G:Good ops gA)(hs:gA=pre++rest)(hi:i∈pre)(hj:j∈rest):i≠j/\eI ops i j=false/\(oe ops i=true\/eI ops j i=true):=by have:=G.pw;rw[hs,List.pairwise_append]at this;exact this.2.2 i hi j hj
def V6{f:Nat}:uW ops f i j=true->uW ops (f+1) i j=true:=by
 induction f generalizing i j with
 |zero=>intro h;cases h
 |succ f ih=>
  intro h;unfold uW at h|-
  cases ho:ops[i]? with
  |none=>rw[ho]at h;cases h
  |some o=>
   rw[ho]at h;simp only[List.any_eq_true,Bool.and_eq_true,Bool.or_eq_true,beq_iff_eq]at h|-;obtain⟨e,he,hb,h⟩:=h;exact⟨e,he,hb,h.imp id ih⟩
def V7(ho:ops[i]? =some o){e:Edge}(he:e∈o.after)(hb:Region.binds .any e=true):eI ops i e.on=true:=by have hi:i<ops.size:=(Array.getElem?_eq_some_iff.1 ho).1;unfold eI;obtain⟨n,hn⟩:∃n,ops.size=n+1:=⟨ops.size-1,aa⟩;rw[hn];unfold uW;rw[ho];simp only[List.any_eq_true,Bool.and_eq_true,Bool.or_eq_true,beq_iff_eq];exact⟨e,aZ he,hb,.inl rfl⟩
variable {listed:Array Bool}
def TW(ad6:∀i j,listed.getD i false=true->eI ops i j=true->listed.getD j false=true)(ho:ops[i]? =some o)(hr:∀e∈o.after,Region.binds .any e=true->listed.getD e.on false=true)(h:eI ops i j=true):listed.getD j false=true:=by
 unfold eI at h
 cases hn:ops.size with
 |zero=>rw[hn]at h;cases h
 |succ n=>
  rw[hn]at h;unfold uW at h;rw[ho]at h;simp only[List.any_eq_true,Bool.and_eq_true,Bool.or_eq_true,beq_iff_eq]at h;obtain⟨e,he,hb,h⟩:=h;have hl:=hr e (aZ he) hb;rcases h with rfl|h
  ·exact hl
  ·exact ad6 e.on j hl (by unfold eI;rw[hn];exact V6 h)
def EI(G:Good ops gA)(hs:gA=pre++rest){r:Nat}(hr:r∈pre)(h:eI ops r j=true)(hj:j<ops.size):j∈pre:=by
 have:j∈gA:=G.all j hj;rw[hs,List.mem_append]at this;rcases this with h'|h'
 ·exact h'
 ·have:=(uz G hs hr h').2.1;rw[h]at this;cases this
def V5(G:Good ops gA){f:Nat}:uW ops f i j=true->j<ops.size:=by
 induction f generalizing i with
 |zero=>intro h;cases h
 |succ f ih=>
  intro h;unfold uW at h
  cases ho:ops[i]? with
  |none=>rw[ho]at h;cases h
  |some o=>
   rw[ho]at h;simp only[List.any_eq_true,Bool.and_eq_true,Bool.or_eq_true,beq_iff_eq]at h;obtain⟨e,he,_,h⟩:=h;rcases h with rfl|h
   ·exact(G.Ed ho).on e (aZ he)
   ·exact ih h
def B2(G:Good ops gA)(h:eI ops i j=true):j<ops.size:=V5 G h
def advance(G:Good ops gA):∀(rest pre:List Nat) (cE:List (Nat×av×Value)) (vals:Nat->Option Value),uS E N ops Q pn eH gA listed pre rest cE vals ds σ->
 ∃G5 zw uv kZ,uS E N ops Q pn eH gA listed G5 zw uv kZ ds σ/\(∀i,listed.getD i false=true->kZ i=vals i)/\(zw=[]\/∃w r',zw=w::r'/\oe ops w=false):=by
 intro rest
 induction rest with
 |nil=>exactλpre cE vals I=>⟨pre,[],cE,vals,I,λ_ _=>rfl,.inl rfl⟩
 |cons r rest ih=>
  intro pre cE vals I;by_cases gv:oe ops r=false
  ·exact⟨pre,r::rest,cE,vals,I,λ_ _=>rfl,.inr ⟨r,rest,rfl,gv⟩⟩
  have hr:r<ops.size:=G.lt r (by rw[I.split];simp);have ho:ops[r]? =some ops[r]:=Array.getElem?_eq_getElem hr;have hw:=I.wp;simp only[fP,ho]at hw;obtain⟨hd,hw⟩:=hw
  have y8:cT (ops[r]).op=true:=by unfold oe at gv;rw[ho]at gv;simpa using gv
  rw[if_pos y8]at hw;have cQ:gA=(pre++[r])++rest:=by rw[I.split];simp
  have tM:r∉pre:=λh=>(uz G I.split h (List.mem_cons_self ..)).1 rfl;have Kh:∀i,listed.getD i false=true->i≠r:=λi hi e=>tM (e▸I.sub i hi)
  have one:∀(v:Value) (uv:List (Nat×av×Value)),(∀x∈cE,x∈uv)->
   ((Region.wanted ops[r] (gK N ops (sl ops eH vals))=true/\(r,sl ops eH vals,v)∈uv/\cR P (ops[r]).op (sl ops eH vals) σ=some v)\/(Region.wanted ops[r] (gK N ops (sl ops eH vals))=false/\v=undef))->
   fP E N ops Q pn rest uv (aB (sl ops eH vals) (ops[r]).dst v) ds σ->uS E N ops Q pn eH gA listed (pre++[r]) rest uv (kF vals r v) ds σ:=by
   intro v uv jL hv AX;have GA:kF vals r v r=some v:=by simp[kF]
   have oO:∀j,j≠r->kF vals r v j=vals j:=λj hj=>by simp[kF,hj]
   refine⟨I.size,cQ,λi hi=>List.mem_append.2 (.inl (I.sub i hi)),λi hi RJ=>?_,λi hi=>?_,λi hi=>?_,I.down,λx hx hxl=>?_,by rw[Mk G ho]at AX;exact AX⟩
   ·rcases List.mem_append.1 hi with h|h
    ·exact I.wr i h RJ
    ·simp at h;subst h;exact absurd RJ gv
   ·have:i≠r:=λe=>hi (by rw[e];simp);rw[oO i this];exact I.wO i (λh=>hi (List.mem_append.2 (.inl h)))
   ·rcases List.mem_append.1 hi with h|h
    ·by_cases e:i=r
     ·subst e;exact⟨v,GA⟩
     ·obtain⟨u,hu⟩:=I.has i h;exact⟨u,by rw[oO i e];exact hu⟩
    ·simp at h;subst h;exact⟨v,GA⟩
   ·rcases List.mem_append.1 hx with h|h
    ·obtain⟨o,pZ,tN,jm,FY,ha,hc⟩:=I.waits x h hxl;have RQ:x≠r:=λe=>tM (e▸h);refine⟨o,pZ,tN,jm,FY,λt ht=>?_,?_⟩
     ·rw[ha t ht];refine Eu G tN ?_ ?_ ?_ t ht
      ·have:=G.zd x (G.lt x (by rw[I.split];exact List.mem_append.2 (.inl h)));simp[this]
      ·intro j hj;rw[if_pos hj,if_pos hj];have:j∈pre:=EI G I.split h hj (B2 G hj);exact(oO j (λe=>tM (e▸this))).symm
      ·intro j hj;by_cases lI:eI ops x j=true
       ·rw[if_pos lI,if_pos lI];have:j∈pre:=EI G I.split h lI (B2 G lI);exact(oO j (λe=>tM (e▸this))).symm
       ·rw[if_neg lI,if_neg lI]
     ·rcases hc with⟨zb,u,hu,hm,y9⟩|⟨zb,hu⟩
      ·exact .inl ⟨zb,u,by rw[oO x RQ];exact hu,jL _ hm,y9⟩
      ·exact .inr ⟨zb,by rw[oO x RQ];exact hu⟩
    ·simp at h;subst h;refine⟨ops[x],sl ops eH vals,ho,hd,y8,λt ht=>?_,?_⟩
     ·refine Eu G ho ?_ ?_ ?_ t ht
      ·rw[G.zd x hr];simp only[Bool.false_eq_true,if_false];exact I.wO x tM
      ·intro j hj;rw[if_pos hj];by_cases e:j=x
       ·subst e;rw[G.zd j hr]at hj;cases hj
       ·exact(oO j e).symm
      ·intro j hj
       have Ga:j∉pre:=λh=>by have:=(uz G I.split h (List.mem_cons_self ..)).2.1;rw[hj]at this;cases this
       rw[I.wO j Ga];by_cases lI:eI ops x j=true
       ·have:j∈pre++[x]:=EI G cQ al lI (B2 G lI);rcases List.mem_append.1 this with h|h
        ·exact absurd h Ga
        ·simp at h;subst h;rw[G.zd j hr]at lI;cases lI
       ·rw[if_neg lI]
     ·rcases hv with⟨h1,h2,h3⟩|⟨h1,rfl⟩
      ·exact .inl ⟨h1,v,GA,h2,h3⟩
      ·exact .inr ⟨h1,GA⟩
  by_cases GD:Region.wanted ops[r] (gK N ops (sl ops eH vals))=true
  ·rw[if_pos GD]at hw
   cases gT:cR P (ops[r]).op (sl ops eH vals) σ with
   |none=>rw[gT]at hw;exact hw.elim
   |some v=>
    rw[gT]at hw;obtain⟨p',r',LW,v',I',e',h'⟩:=ih _ _ _ (one v _ (λx hx=>List.mem_cons_of_mem _ hx) (.inl ⟨GD,List.mem_cons_self ..,gT⟩) hw);exact⟨p',r',LW,v',I',λi hi=>by rw[e' i hi];simp[kF,Kh i hi],h'⟩
  ·rw[if_neg GD]at hw;obtain⟨p',r',LW,v',I',e',h'⟩:=ih _ _ _ (one undef cE (λx hx=>hx) (.inr ⟨aZ GD,rfl⟩) hw);exact⟨p',r',LW,v',I',λi hi=>by rw[e' i hi];simp[kF,Kh i hi],h'⟩
def BH(ops:Array Oper)(listed:Array Bool):Nat:=(List.range ops.size).countP λi=> !listed.getD i true
def ahI{cE:List (Nat×av×Value)}(h:oR (P:=P) ops i σ cE){r:Nat}{pZ:av}(hm:(r,pZ,v)∈cE)(ho:ops[r]? =some o)(hh:CV o.op=true)(ha:eI ops i r=false):
 cR P o.op pZ σ=some v:=by
 induction cE with
 |nil=>cases hm
 |cons x cE ih=>
  obtain⟨j,ρj,u⟩:=x;simp only[oR]at h;rcases List.mem_cons.1 hm with e|hm
  ·cases e
   have:=h.1;rw[ho]at this;simpa[hh,ha]using this
  ·exact ih h.2 hm
def PN(h:i<listed.size)(d:Bool):(listed.setIfInBounds i true).getD i d=true:=by rw[Array.getD_eq_getD_getElem?,Array.getElem?_setIfInBounds_self_of_lt h];rfl
def PM(h:i<listed.size)(d d':Bool):listed.getD i d=listed.getD i d':=by rw[Array.getD_eq_getD_getElem?,Array.getD_eq_getD_getElem?,Array.getElem?_eq_getElem h];rfl
def U0(hs:listed.size=ops.size)(hi:i<ops.size)(hf:listed.getD i true=false):BH ops (listed.setIfInBounds i true)+1=BH ops listed:=by
 unfold BH
 have key:∀(l:List Nat),l.Nodup->i∈l->(l.countP λj=> !(listed.setIfInBounds i true).getD j true)+1=l.countP λj=> !listed.getD j true:=by
  intro l
  induction l with
  |nil=>intro _ h;cases h
  |cons x l ih=>
   intro hn hm;rw[List.nodup_cons]at hn;rw[List.countP_cons,List.countP_cons];by_cases e:x=i
   ·subst e;have h1:(!(listed.setIfInBounds x true).getD x true)=false:=by rw[PN aa];rfl
    have h2:(l.countP λj=> !(listed.setIfInBounds x true).getD j true)=l.countP λj=> !listed.getD j true:=by refine List.countP_congr λj hj=>?_;have:x≠j:=λe=>hn.1 (e▸hj);rw[getD_set_ne true this]
    rw[h1,h2,hf];simp
   ·have rp:i∈l:=by rcases List.mem_cons.1 hm with h|h;exact absurd h.symm e;exact h
    have:=ih hn.2 rp;rw[getD_set_ne true (λz=>e z.symm)];omega
 exact key _ List.nodup_range (List.mem_range.2 hi)
def am5{α:Type}{p:List α->Prop}(h0:p [])(hs:∀l x,p l->p (l++[x])):∀l,p l:=by
 intro l;rw[<-l.reverse_reverse];generalize l.reverse=r
 induction r with
 |nil=>exact h0
 |cons x r ih=>rw[List.reverse_cons];exact hs _ _ ih
def NF(G:Good ops gA)(tO:∀ch ρ ds σ,pn ch ds σ->Q (.panic ch) ρ ds σ):∀(fuel:Nat) (listed:Array Bool) (pre rest:List Nat) (cE:List (Nat×av×Value)) (vals:Nat->Option Value) (ds:List Deferred) (σ:Hp),
 BH ops listed<=fuel->uS E N ops Q pn eH gA listed pre rest cE vals ds σ->(rest=[]\/∃w r',rest=w::r'/\oe ops w=false)->
 s9 E N ops Q fuel listed (sl ops eH (λi=>if listed.getD i false=true then vals i else none)) ds σ:=by
 have fin:∀(listed:Array Bool) (pre rest:List Nat) (cE:List (Nat×av×Value)) (vals:Nat->Option Value) (ds:List Deferred) (σ:Hp),uS E N ops Q pn eH gA listed pre rest cE vals ds σ->(rest=[]\/∃w r',rest=w::r'/\oe ops w=false)->
  Region.ready .any ops listed=[]->Q .normal (sl ops eH (λi=>if listed.getD i false=true then vals i else none)) ds σ:=by
  intro listed pre rest cE vals ds σ I kP pK
  have all:∀(a b:List Nat),gA=a++b->∀i∈a,listed.getD i false=true:=by
   refine am5 ?_ ?_
   ·intro b _ i hi;cases hi
   ·intro a x ih b hb i hi;have dE:gA=a++(x::b):=by rw[hb];simp
    have ha:=ih (x::b) dE;rcases List.mem_append.1 hi with h|h
    ·exact ha i h
    ·simp at h;subst h;refine Classical.byContradiction λaE=>?_;have bj:i<ops.size:=G.lt i (by rw[hb];simp);have ho:ops[i]? =some ops[i]:=Array.getElem?_eq_getElem bj
     have:i∈Region.ready .any ops listed:=by
      refine mem_ready.2 ⟨?_,ops[i],ho,λe he lZ=>?_⟩
      ·rw[PM (by rw[I.size];exact bj) true false];simpa using aE
      ·have JH:=V7 ho he lZ;have hon:=(G.Ed ho).on e he;have pJ:e.on∈gA:=G.all e.on hon;rw[dE,List.mem_append]at pJ;rcases pJ with h|h
       ·exact ha _ h
       ·rcases List.mem_cons.1 h with h|h
        ·rw[h,G.zd i bj]at JH;cases JH
        ·have:=(uz G (by rw[hb]) (show i∈a++[i]by simp) h).2.1;rw[JH]at this;cases this
     rw[pK]at this;cases this
  have Dq:rest=[]:=by
   rcases kP with h|⟨w,r',rfl,hw⟩
   ·exact h
   ·exfalso;have h1:=all (pre++[w]) r' (by rw[I.split];simp) w al;have h2:=I.sub w h1;exact(uz G I.split h2 (List.mem_cons_self ..)).1 rfl
  subst Dq;have hq:Q .normal (sl ops eH vals) ds σ:=I.wp
  have:(λi=>if listed.getD i false=true then vals i else none)=vals:=by
   funext i
   by_cases hi:i∈pre
   ·rw[if_pos (all pre [] I.split i hi)]
   ·rw[I.wO i hi];split<;>rfl
  rw[this];exact hq
 intro fuel
 induction fuel with
 |zero=>
  intro listed pre rest cE vals ds σ hf I kP
  have pK:Region.ready .any ops listed=[]:=by
   cases hr:Region.ready .any ops listed with
   |nil=>rfl
   |cons i t=>
    exfalso;have hm:i∈Region.ready .any ops listed:=by rw[hr];simp
    obtain⟨h0,o,ho,_⟩:=mem_ready.1 hm;have hi:i<ops.size:=(Array.getElem?_eq_some_iff.1 ho).1;have:=U0 (ops:=ops) I.size hi h0;omega
  exact⟨pK,fin _ _ _ _ _ _ _ I kP pK⟩
 |succ fuel ih=>
  intro listed pre rest cE vals ds σ hf I kP;refine⟨fin _ _ _ _ _ _ _ I kP,λi hi=>?_⟩;obtain⟨h0,o,ho,JQ⟩:=mem_ready.1 hi;have AN:i<ops.size:=(Array.getElem?_eq_some_iff.1 ho).1;have tz:listed.getD i false=false:=by rw[PM (by rw[I.size];exact AN) false true];exact h0
  have tF:∀j,eI ops i j=true->listed.getD j false=true:=λj hj=>TW I.down ho JQ hj;have xb:=U0 (ops:=ops) I.size AN h0;have RD:(listed.setIfInBounds i true).size=ops.size:=by simpa using I.size
  have nU:(listed.setIfInBounds i true).getD i false=true:=PN (by rw[I.size];exact AN) _;have nT:∀j,j≠i->(listed.setIfInBounds i true).getD j false=listed.getD j false:=λj hj=>getD_set_ne false (λe=>hj e.symm)
  have QQ:∀a b,(listed.setIfInBounds i true).getD a false=true->eI ops a b=true->(listed.setIfInBounds i true).getD b false=true:=by
   intro a b ha di;by_cases e:a=i
   ·subst e;by_cases e':b=a
    ·subst e';exact nU
    ·rw[nT b e'];exact tF b di
   ·rw[nT a e]at ha;by_cases e':b=i
    ·subst e';exact nU
    ·rw[nT b e'];exact I.down a b ha di
  have Re:∀j,eI ops j i=true->listed.getD j false=false:=by
   intro j hj
   cases hl:listed.getD j false with
   |false=>rfl
   |true=>rw[I.down j i hl hj]at tz;cases tz
  have RI:∀(u:Nat->Option Value) (v:Value),u i=some v->(∀j,listed.getD j false=true->u j=vals j)->
   kF (λj=>if listed.getD j false=true then vals j else none) i v=λj=>if(listed.setIfInBounds i true).getD j false=true then u j else none:=by
   intro u v hu Gs
   funext j
   by_cases e:j=i
   ·subst e;rw[if_pos nU,hu];simp[kF]
   ·rw[nT j e];simp only[kF,e,if_false];by_cases hl:listed.getD j false=true
    ·rw[if_pos hl,if_pos hl,Gs j hl]
    ·rw[if_neg hl,if_neg hl]
  unfold lP;rw[ho];by_cases gv:oe ops i=true
  ·
   have Q6:i∈pre:=by
    have hm:i∈gA:=G.all i AN;rw[I.split,List.mem_append]at hm;rcases hm with h|h
    ·exact h
    ·exfalso;rcases kP with e|⟨w,r',rfl,hw⟩
     ·rw[e]at h;cases h
     ·rcases List.mem_cons.1 h with e|h
      ·subst e;rw[gv]at hw;cases hw
      ·have cQ:gA=(pre++[w])++r':=by rw[I.split];simp
       have h3:=(uz G cQ (show w∈pre++[w]by simp) h).2.2;rw[hw]at h3;have h4:=tF w (h3.resolve_left al);exact(uz G I.split (I.sub w h4) (List.mem_cons_self ..)).1 rfl
   obtain⟨o',pZ,tN,hd,FZ,hag,hc⟩:=I.waits i Q6 tz;obtain rfl:o'=o:=Option.some.inj (tN.symm.trans ho);refine⟨hd,?_⟩
   have AD:∀t∈slotsOf ops o',sl ops eH (λj=>if listed.getD j false=true then vals j else none) t=pZ t:=by
    intro t ht;rw[hag t ht];refine Eu G ho ?_ ?_ ?_ t ht
    ·simp only[tz,G.zd i AN,Bool.false_eq_true,if_false]
    ·intro j hj;rw[if_pos (tF j hj),if_pos hj]
    ·intro j hj;have hl:=Re j hj;simp only[hl,Bool.false_eq_true,if_false];by_cases qB:eI ops i j=true
     ·rw[tF j qB]at hl;cases hl
     ·rw[if_neg qB]
   have I':uS E N ops Q pn eH gA (listed.setIfInBounds i true) pre rest cE vals ds σ:=by
    refine⟨RD,I.split,λj hj=>?_,λj hj hw=>?_,I.wO,I.has,QQ,λr hr hl=>?_,I.wp⟩
    ·by_cases e:j=i
     ·subst e;exact Q6
     ·rw[nT j e]at hj;exact I.sub j hj
    ·by_cases e:j=i
     ·subst e;exact nU
     ·rw[nT j e];exact I.wr j hj hw
    ·have e:r≠i:=λe=>by subst e;rw[nU]at hl;cases hl
     rw[nT r e]at hl;exact I.waits r hr hl
   have next:∀v,vals i=some v->s9 E N ops Q fuel (listed.setIfInBounds i true) (aB (sl ops eH (λj=>if listed.getD j false=true then vals j else none)) o'.dst v) ds σ:=by intro v hv;rw[Mk G ho,RI vals v hv (λ_ _=>rfl)];exact ih _ _ _ _ _ _ _ aa I' kP
   rcases hc with⟨hw,v,hv,hm,y9⟩|⟨hw,hv⟩
   ·rw[MR (N:=N) AD,if_pos hw];rw[<-amX (Po AD)]at y9;rw[if_pos (by assumption)];exact⟨v,y9,next v hv⟩
   ·rw[MR (N:=N) AD,hw,if_neg al];exact next undef hv
  ·
   have y8:oe ops i=false:=aZ gv;have tM:i∉pre:=λh=>by rw[I.wr i h y8]at tz;cases tz
   have hm:i∈rest:=by have hm:i∈gA:=G.all i AN;rw[I.split,List.mem_append]at hm;exact hm.resolve_left tM
   rcases kP with e|⟨w,r',rfl,hw⟩
   ·rw[e]at hm;cases hm
   have hiw:i=w:=by
    rcases List.mem_cons.1 hm with e|h
    ·exact e
    ·exfalso;have cQ:gA=(pre++[w])++r':=by rw[I.split];simp
     have h3:=(uz G cQ (show w∈pre++[w]by simp) h).2.2;rw[hw]at h3;have h4:=tF w (h3.resolve_left al);exact(uz G I.split (I.sub w h4) (List.mem_cons_self ..)).1 rfl
   subst hiw;have AX:=I.wp;simp only[fP,ho]at AX;have FZ:cT o.op=false:=by unfold oe at y8;rw[ho]at y8;exact y8
   rw[if_neg (by rw[FZ];simp)]at AX;obtain⟨hd,aS⟩:=AX;have afy:=(G.Ed ho).wr.resolve_left (by rw[FZ];simp);refine⟨hd,?_⟩
   have AD:∀t∈slotsOf ops o,sl ops eH vals t=sl ops eH (λj=>if listed.getD j false=true then vals j else none) t:=by
    refine Eu G ho ?_ ?_ ?_
    ·simp only[tz,Bool.false_eq_true,if_false];exact I.wO i tM
    ·intro j hj;rw[if_pos (tF j hj)]
    ·intro j hj;have hl:=Re j hj;simp only[hl,Bool.false_eq_true,if_false];refine I.wO j λGa=>?_;have:=(uz G I.split Ga (List.mem_cons_self ..)).2.1;rw[hj]at this;cases this
   rw[<-MR (N:=N) AD]
   suffices key:∀(v:Value) (cX:List Deferred) (ae:Hp),(oR (P:=P) ops i ae cE\/ae=σ)->fP E N ops Q pn r' cE (aB (sl ops eH vals) o.dst v) cX ae->
    s9 E N ops Q fuel (listed.setIfInBounds i true) (aB (sl ops eH (λj=>if listed.getD j false=true then vals j else none)) o.dst v) cX ae by
    by_cases RL:Region.wanted o (gK N ops (sl ops eH vals))=true
    ·rw[if_pos RL]at aS|-;rw[if_neg (by rw[FZ];simp)];refine U9 (aa5 afy AD) ?_ (λch ae h=>tO ch _ ds ae h) (rK aS);rintro v cX ae ⟨hk,GC⟩;exact key v cX ae (.inl hk) GC
    ·rw[if_neg RL]at aS|-;exact key undef ds σ (.inr rfl) aS
   rintro v cX ae hk GC;have cQ:gA=(pre++[i])++r':=by rw[I.split];simp
   rw[Mk G ho]at GC|-;have KD:kF vals i v i=some v:=by simp[kF]
   have oO:∀j,j≠i->kF vals i v j=vals j:=λj hj=>by simp[kF,hj]
   have I':uS E N ops Q pn eH gA (listed.setIfInBounds i true) (pre++[i]) r' cE (kF vals i v) cX ae:=by
    refine⟨RD,cQ,λj hj=>?_,λj hj hw=>?_,λj hj=>?_,λj hj=>?_,QQ,λr hr hl=>?_,GC⟩
    ·by_cases e:j=i
     ·subst e;simp
     ·rw[nT j e]at hj;exact List.mem_append.2 (.inl (I.sub j hj))
    ·rcases List.mem_append.1 hj with h|h
     ·by_cases e:j=i
      ·subst e;exact nU
      ·rw[nT j e];exact I.wr j h hw
     ·simp at h;subst h;exact nU
    ·have e:j≠i:=λe=>hj (by rw[e];simp);rw[oO j e];exact I.wO j (λh=>hj (List.mem_append.2 (.inl h)))
    ·rcases List.mem_append.1 hj with h|h
     ·by_cases e:j=i
      ·subst e;exact⟨v,KD⟩
      ·obtain⟨u,hu⟩:=I.has j h;exact⟨u,by rw[oO j e];exact hu⟩
     ·simp at h;subst h;exact⟨v,KD⟩
    ·have e:r≠i:=λe=>by subst e;rw[nU]at hl;cases hl
     have Gr:r∈pre:=by
      rcases List.mem_append.1 hr with h|h
      ·exact h
      ·simp at h;exact absurd h e
     rw[nT r e]at hl;obtain⟨Tu,pZ,Ki,ad9,aeG,vq,ad2⟩:=I.waits r Gr hl;refine⟨Tu,pZ,Ki,ad9,aeG,λt ht=>?_,?_⟩
     ·rw[vq t ht];refine Eu G Ki ?_ ?_ ?_ t ht
      ·have:=G.zd r (G.lt r (by rw[I.split];exact List.mem_append.2 (.inl Gr)));simp[this]
      ·intro j hj;rw[if_pos hj,if_pos hj];have:j∈pre:=EI G I.split Gr hj (B2 G hj);exact(oO j (λe=>tM (e▸this))).symm
      ·intro j hj;by_cases lI:eI ops r j=true
       ·rw[if_pos lI,if_pos lI];have:j∈pre:=EI G I.split Gr lI (B2 G lI);exact(oO j (λe=>tM (e▸this))).symm
       ·rw[if_neg lI,if_neg lI]
     ·rcases ad2 with⟨zb,u,hu,hm,y9⟩|⟨zb,hu⟩
      ·refine .inl ⟨zb,u,by rw[oO r e];exact hu,hm,?_⟩
       cases hh:CV Tu.op with
       |false=>rw[amY hh (ae:=σ)];exact y9
       |true=>
        rcases hk with hk|rfl
        ·refine ahI hk hm Ki hh ?_
         cases hx:eI ops i r with
         |false=>rfl
         |true=>rw[tF r hx]at hl;cases hl
        ·exact y9
      ·exact .inr ⟨zb,by rw[oO r e];exact hu⟩
   obtain⟨G5,zw,uv,kZ,Vz,Gs,aes⟩:=advance G _ _ _ _ I';have:=ih _ _ _ _ _ _ _ aa Vz aes
   rw[RI kZ v (by rw[Gs i nU];exact KD) (λj hj=>by
    have e:j≠i:=λe=>by subst e;rw[tz]at hj;cases hj
    rw[Gs j (by rw[nT j e];exact hj),oO j e])]
   exact this
def O7(hc:rX ops l=true)(hm:P.follows .mixedOrders=true)(tO:∀ch ρ ds σ,pn ch ds σ->Q (.panic ch) ρ ds σ)(h:fP E N ops Q pn l [] ρ ds σ)(t:Nat):
 ml E N ops Q (Region.schedule (P.follows .mixedOrders) ops t) ρ ds σ:=by
 have G:=P0 hc;have e0:sl ops ρ (λ_=>none)=ρ:=by funext t;exact uJ (λ_ _=>rfl)
 have lD:∀i,(Array.replicate ops.size false).getD i false=false:=λi=>by rw[Array.getD_eq_getD_getElem?,Array.getElem?_replicate];split<;>rfl
 have I:uS E N ops Q pn ρ l (Array.replicate ops.size false) [] l [] (λ_=>none) ds σ:=by refine⟨al,rfl,λi hi=>(by rw[lD]at hi;cases hi),λi hi=>(by cases hi),λ_ _=>rfl,λi hi=>(by cases hi),λi j hi=>(by rw[lD]at hi;cases hi),λr hr=>(by cases hr),(by rw[e0];exact h)⟩
 obtain⟨G5,zw,uv,kZ,I',_,hh⟩:=advance G _ _ _ _ I;have:=NF G tO ops.size _ _ _ _ _ _ _ (by unfold BH;exact Nat.le_trans List.countP_le_length al) I' hh
 have e1:sl ops ρ (λi=>if(Array.replicate ops.size false).getD i false=true then kZ i else none)=ρ:=by funext t;exact uJ (λi _=>by rw[lD];rfl)
 rw[e1]at this;simp only[Region.schedule,hm,Bool.true_or,if_true];exact U7 _ t _ _ _ _ this
end Go.Qw
