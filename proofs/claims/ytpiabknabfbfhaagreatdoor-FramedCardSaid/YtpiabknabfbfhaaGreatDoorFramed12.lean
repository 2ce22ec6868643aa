/- 12 -/
import Derived.Test.YtpiabknabfbfhaaGreatDoorProg
import Derived.Conc.FxGenWait
import Derived.Conc.FxGenDone
import Derived.Conc.FxGenLone
import Derived.KernelRfl
import Derived.AtR
import Derived.Test.YtpiabknabfbfhaaGreatDoorFramed11
set_option linter.all false
set_option maxRecDepth 100000
set_option maxHeartbeats 8000000
namespace Go.Qw
open Go Go.Proofs.Tryz
section
open Go.Conc
def Aa(ops:Array Oper):Nat->Array Bool->List (List Nat)
 |0,_=>[[]]
 |fuel+1,listed=>match Region.ready .any ops listed with
  |[]=>[[]]
  |rs=>rs.flatMap λi=>(Aa ops fuel (listed.setIfInBounds i true)).map (i::·)
def P5(ops:Array Oper):∀(fuel t:Nat) (listed:Array Bool),Region.linearise.go .any ops fuel t listed []∈Aa ops fuel listed:=by
 intro fuel
 induction fuel with
 |zero=>intro t listed;simp[Region.linearise.go,Aa]
 |succ fuel ih=>
  intro t listed;simp only[Region.linearise.go,Aa]
  change (match(Region.ready .any ops listed)[t %(Region.ready .any ops listed).length]? with
   |some i=>Region.linearise.go .any ops fuel (t/(Region.ready .any ops listed).length) (listed.setIfInBounds i true) [i]
   |none=>[].reverse)∈_
  cases hr:Region.ready .any ops listed with
  |nil=>simp
  |cons x xs=>
   have aZ:t %(x::xs).length<(x::xs).length:=Nat.mod_lt _ ak;rw[List.getElem?_eq_getElem aZ];simp only[];rw[linearise_go_acc,List.reverse_singleton,List.singleton_append];exact List.mem_flatMap.2 ⟨_,List.getElem_mem aZ,List.mem_map.2 ⟨_,ih _ _,rfl⟩⟩
def endsIn(ops:Array Oper)(m:Nat):Bool:=(Aa ops ops.size (Array.replicate ops.size false)).all λl=>l.getLast?==some m&&l.dropLast.all (·!=m)
variable {P:Program}{ops:Array Oper}{m:Nat}
def anQ(hm:P.follows .mixedOrders=true)(h:endsIn ops m=true)(t:Nat):∃p,Region.schedule (P.follows .mixedOrders) ops t=p++[m]/\∀i∈p,i≠m:=by
 have:=P5 ops ops.size t (Array.replicate ops.size false);simp only[Region.schedule,hm,Bool.true_or,if_true,Region.linearise];generalize Region.linearise.go .any ops ops.size t (Array.replicate ops.size false) []=l at this;unfold endsIn at h;rw[List.all_eq_true]at h;have h:=h l this;simp only[Bool.and_eq_true,beq_iff_eq,List.all_eq_true,bne_iff_ne,ne_eq]at h;refine⟨l.dropLast,?_,h.2⟩;have aE:l≠[]:=by intro e;subst e;simp at h
 rw[List.getLast?_eq_some_getLast aE,Option.some.injEq]at h;rw[<-h.1];exact(List.dropLast_concat_getLast aE).symm
def gF(ops:Array Oper)(m:Nat):Array Oper:=ops.modify m λo=>{o with op:=.move (.const undef)}
def SP(ops:Array Oper)(m:Nat):(gF ops m).size=ops.size:=by simp[gF]
variable {i:Nat}
def GY(h:i≠m):(gF ops m)[i]? =ops[i]? :=by simp[gF,Array.getElem?_modify,Ne.symm h]
def ajt(ops:Array Oper)(m i:Nat):((gF ops m)[i]?).map (·.after)=(ops[i]?).map (·.after):=by
 by_cases h:i=m
 ·subst h;simp[gF,Array.getElem?_modify];cases ops[i]? <;>rfl
 ·rw[GY h]
def aju(ops:Array Oper)(m i:Nat):fQ (gF ops m) i=fQ ops i:=by
 unfold fQ;by_cases h:i=m
 ·subst h;simp[gF,Array.getElem?_modify];cases ops[i]? <;>rfl
 ·rw[GY h]
def ajw(ops:Array Oper)(m:Nat)(listed:Array Bool):Region.ready .any (gF ops m) listed=Region.ready .any ops listed:=by
 unfold Region.ready;rw[SP];congr 1
 funext i
 have:=ajt ops m i
 cases h1:(gF ops m)[i]? <;>cases h2:ops[i]? <;>rw[h1,h2]at this<;>first|cases this|simp_all
def ajv(ops:Array Oper)(m:Nat):∀(fuel t:Nat) (listed:Array Bool) (acc:List Nat),Region.linearise.go .any (gF ops m) fuel t listed acc=Region.linearise.go .any ops fuel t listed acc:=by
 intro fuel
 induction fuel with
 |zero=>intro t listed acc;rfl
 |succ fuel ih=>
  intro t listed acc;simp only[Region.linearise.go]
  change (match(Region.ready .any (gF ops m) listed)[t %(Region.ready .any (gF ops m) listed).length]? with
   |some i=>Region.linearise.go .any (gF ops m) fuel (t/(Region.ready .any (gF ops m) listed).length) (listed.setIfInBounds i true) (i::acc)
   |none=>acc.reverse)=(match(Region.ready .any ops listed)[t %(Region.ready .any ops listed).length]? with
   |some i=>Region.linearise.go .any ops fuel (t/(Region.ready .any ops listed).length) (listed.setIfInBounds i true) (i::acc)
   |none=>acc.reverse)
  rw[ajw];split
  ·exact ih _ _ _
  ·rfl
def ajx(hm:P.follows .mixedOrders=true)(ops:Array Oper)(m t:Nat):Region.schedule (P.follows .mixedOrders) (gF ops m) t=Region.schedule (P.follows .mixedOrders) ops t:=by simp only[Region.schedule,hm,Bool.true_or,if_true,Region.linearise,SP];exact ajv ops m _ _ _ _
def wF(P:Program)(N:Nat)(ops:Array Oper)(κ:Hp)(Q:av->Prop):List Nat->av->Prop
 |[],I=>Q I
 |i::rest,I=>match ops[i]? with
  |some o=>pr N o.dst=true/\o.guard=none/\BD P o.op I/\∃v,cT P o.op I κ=some v/\wF P N ops κ Q rest (aA I o.dst v)
  |none=>False
variable {N:Nat}{κ:Hp}{E:Env P}{ds:List Deferred}
def aoe{Q:Post}:∀(p:List Nat),(∀i∈p,i≠m)->(∀i o,i≠m->ops[i]? =some o->A7 o.op=true/\D2 P o.op=true/\o.guard=none)->∀(I:av),my E N (gF ops m) Q (p++[m]) I ds κ->
 wF P N ops κ (λI=>Q .normal (aA I (fQ ops m) undef) ds κ) p I:=by
 intro p
 induction p with
 |nil=>
  intro _ _ I h;simp only[List.nil_append,my,lV]at h;simp only[wF]
  cases ho:(gF ops m)[m]? with
  |none=>rw[ho]at h;exact h.elim
  |some o=>
   rw[ho]at h
   have hd:o.dst=fQ ops m:=by have:=aju ops m m;unfold fQ at this|-;rw[ho]at this;exact this
   obtain⟨o',tX,rfl⟩:∃o',ops[m]? =some o'/\o={o' with op:=.move (.const undef)}:=by simp only[gF,Array.getElem?_modify]at ho;obtain⟨o',h1,h2⟩:=Option.map_eq_some_iff.1 ho;exact⟨o',h1,h2.symm⟩
   obtain⟨_,h⟩:=h;rw[<-hd];split at h
   ·simp only[cW,if_true,cT,ai]at h;obtain⟨v,hv,h⟩:=h
    cases hv;exact h
   ·exact h
 |cons i p ih=>
  intro hp hk I h;have AP:=hp i ak;rw[List.cons_append]at h;simp only[my,lV]at h;rw[GY AP]at h;simp only[wF]
  cases ho:ops[i]? with
  |none=>rw[ho]at h;exact h.elim
  |some o=>
   rw[ho]at h;obtain⟨Kh,De,hg⟩:=hk i o AP ho;obtain⟨hd,h⟩:=h;rw[if_pos (by simp[Region.wanted,hg]),if_pos (by cases aR:o.op<;>rw[aR]at Kh<;>first|rfl|(simp[A7]at Kh;done))]at h;obtain⟨v,hv,h⟩:=h;exact⟨hd,hg,aoa Kh De hv,v,hv,ih (λj hj=>hp j (List.mem_cons_of_mem _ hj)) hk _ h⟩
variable {main:Bool}{b:Frame}{k:List Item}{cs:List Frame}{rest:List Nat}{a:Act}{I:av}{v:Value}
def Mo{o:Oper}(ho:ops[i]? =some o)(hg:o.guard=none)(hs:BD P o.op I)(hv:cT P o.op I κ=some v)(hk:b.kind≠.early)(ha:cM N a I ds)(w:World)(hw:∀b o,κ.f b=some o->w.heap[b]? =some o):
 ∃es,stepG P main (G (b.at a (.inRegion ops (i::rest)::k)) cs) w=.go (G (b.at (a.put o.dst v) (.inRegion ops rest::k)) cs) w es/\∀e∈es,∃x:Addr,e=⟨.cell x,false,false⟩/\Et o.op I x/\(κ.f x.block).isSome=true:=by
 obtain⟨es,h1,h2⟩:=aog hs hv w hw;rw[<-ha.eval]at h1;have fe:(b.at a (.inRegion ops (i::rest)::k)).finish v=b.at (a.put o.dst v) (.inRegion ops rest::k):=by rw[Frame.finish_at,ho];rfl
 have nY:(b.kind==CallKind.early)=false:=aV hk;refine⟨seen P b.fn es,?_,λe he=>h2 e (mem_seen he)⟩;rw[stepG_oper ho (by simp[Region.wanted,hg])];rw[<-fe];simp[stepG.apply,-Sem.runT_eq,h1,G,Frame.at,nY,GStep.after]
def dM(P:Program)(N:Nat)(ops:Array Oper)(Fam:Hp->Prop)(Ok:Addr->Prop)(Q:av->Prop):List Nat->av->Prop
 |[],I=>Q I
 |i::rest,I=>match ops[i]? with
  |some o=>pr N o.dst=true/\o.guard=none/\BD P o.op I/\(∀y,Et o.op I y->Ok y)/\∃v,(∀κ,Fam κ->cT P o.op I κ=some v)/\dM P N ops Fam Ok Q rest (aA I o.dst v)
  |none=>False
variable {K:World->Prop}{Still:Loc->Prop}{s:Seat}{Fam:Hp->Prop}{Ok:Addr->Prop}{Q:av->Prop}{n:Nat}
def EP{B:Nat}(hK:∀w,K w->∃κ,Fam κ/\∀b o,κ.f b=some o->w.heap[b]? =some o)(hS:∀a,Ok a->Still (.cell a)/\a.block<B)(hk:b.kind≠.early)(hn:∀I a,cM N a I ds->Q I->Way P main K Still B s n (G (b.at a (.inRegion ops rest::k)) cs)):
 ∀(p:List Nat) (I:av) (a:Act),dM P N ops Fam Ok Q p I->cM N a I ds->Way P main K Still B s (n+p.length) (G (b.at a (.inRegion ops (p++rest)::k)) cs):=by
 intro p
 induction p with
 |nil=>exactλI a h ha=>hn I a ha h
 |cons i p ih=>
  intro I a h ha;simp only[dM]at h
  cases ho:ops[i]? with
  |none=>rw[ho]at h;exact h.elim
  |some o=>
   rw[ho]at h;obtain⟨hd,hg,hs,fU,v,hv,h⟩:=h;rw[List.length_cons,<-Nat.add_assoc];refine .inr ⟨rfl,λw hw=>?_⟩;obtain⟨κ,hF,xz⟩:=hK w hw;obtain⟨es,h1,h2⟩:=Mo (main:=main) (k:=k) (cs:=cs) (rest:=p++rest) ho hg hs (hv κ hF) hk ha w xz;rw[List.cons_append,h1];refine⟨atRel_refl w,λe he=>?_,ih _ _ h (ha.put hd v)⟩;obtain⟨x,rfl,hx,_⟩:=h2 e he;exact⟨x,rfl,hS x (fU x hx)⟩
def Way.ctl{B:Nat}{g g':Goroutine}(h:∀w,stepG P main g w=.go g' w)(hr:g.status=.running)(k:Way P main K Still B s n g'):Way P main K Still B s (n+1) g:=
 .inr ⟨hr,λw _=>by rw[h w];exact⟨atRel_refl w,ak,k⟩⟩
def Way.region{B:Nat}{id:Nat}(h:Way P main K Still B s n (G (b.at a (.inRegion ops (List.range ops.size)::k)) cs)):
 Way P main K Still B s (n+1) (G (b.at a (.code (.region id ops false)::k)) cs):=Way.ctl (λw=>stepG_region) rfl h
def Way.IU{B:Nat}{id:Nat}(h:∀t,Way P main K Still B s n (G (b.at a (.inRegion ops (Region.schedule (P.follows .mixedOrders) ops t)::k)) cs)):Way P main K Still B s (n+1) (G (b.at a (.code (.region id ops true)::k)) cs):=by
 refine .inr ⟨rfl,λw _=>?_⟩
 have:stepG P main (G (b.at a (.code (.region id ops true)::k)) cs) w=.go (G (b.at a (.inRegion ops (Region.schedule (P.follows .mixedOrders) ops (w.tape w.drawn (.order b.fn id)))::k)) cs) {w with drawn:=w.drawn+1}:=by simp[G,stepG,stepG.exec,Frame.at,choose,Sem.run,Question.forced,Question.cut]
 rw[this];exact⟨⟨w.drawn+1,rfl⟩,ak,h _⟩
variable {d ty:Nat}{ps:String}{af:Array Edge}{t:TypeId}{x:Operand}{a:Addr}
def py(ho:ops[i]? =some {dst:=some d,op:=.load t x,type:=ty,pos:=ps,after:=af,guard:=none})(hd:d<N)(hx:ai I x=.pointer (some a))(ht:dD P t=false)(hi:dk P t=true)(fU:Ok a)(hv:∀κ,Fam κ->κ.cell? a=some v)(k:dM P N ops Fam Ok Q rest (up I d v)):dM P N ops Fam Ok Q (i::rest) I:=by
 simp only[dM,ho];refine⟨decide_eq_true hd,trivial,⟨⟨a,hx⟩,ht⟩,λy hy=>?_,v,λκ xz=>?_,k⟩
 ·simp only[Et]at hy;rw[hx]at hy;cases hy;exact fU
 ·simp only[cT,hx,hi,if_true,iQ,ht,Bool.false_eq_true,if_false];exact hv κ xz
def uP(ho:ops[i]? =some {dst:=some d,op:=.nilCheck x,type:=ty,pos:=ps,after:=af,guard:=none})(hd:d<N)(hx:ai I x=.pointer (some a))(k:dM P N ops Fam Ok Q rest (up I d (.pointer (some a)))):dM P N ops Fam Ok Q (i::rest) I:=by
 simp only[dM,ho];exact⟨decide_eq_true hd,trivial,.inl ⟨a,hx⟩,λy hy=>hy.elim,_,λκ xz=>by simp only[cT,hx],k⟩
def uO{s f:Nat}{off:Nat}(ho:ops[i]? =some {dst:=some d,op:=.fieldAddr s x f,type:=ty,pos:=ps,after:=af,guard:=none})(hd:d<N)(hx:ai I x=.pointer (some a))(hf:bL P s f=some off)(k:dM P N ops Fam Ok Q rest (up I d (.pointer (some (a.add off))))):dM P N ops Fam Ok Q (i::rest) I:=by
 simp only[dM,ho];exact⟨decide_eq_true hd,trivial,⟨⟨a,hx⟩,by rw[hf];rfl⟩,λy hy=>hy.elim,_,λκ xz=>by simp only[cT,hx,hf],k⟩
def Ez{bo:BinOp}{y:Operand}{t2:TypeId}(ho:ops[i]? =some {dst:=some d,op:=.binOp bo t x y t2,type:=ty,pos:=ps,after:=af,guard:=none})(hd:d<N)(hv:cL bo (ai I x) (ai I y)=some v)(k:dM P N ops Fam Ok Q rest (up I d v)):dM P N ops Fam Ok Q (i::rest) I:=by
 simp only[dM,ho];exact⟨decide_eq_true hd,trivial,⟨v,hv⟩,λy hy=>hy.elim,v,λκ xz=>by simp only[cT,hv],k⟩
def Ho(ho:ops[i]? =some {dst:=some d,op:=.move x,type:=ty,pos:=ps,after:=af,guard:=none})(hd:d<N)(k:dM P N ops Fam Ok Q rest (up I d (ai I x))):dM P N ops Fam Ok Q (i::rest) I:=by
 simp only[dM,ho];exact⟨decide_eq_true hd,trivial,trivial,λy hy=>hy.elim,_,λκ xz=>by simp only[cT],k⟩
def aob{j:Nat}{vs:Array Value}(ho:ops[i]? =some {dst:=some d,op:=.extract x j,type:=ty,pos:=ps,after:=af,guard:=none})(hd:d<N)(hx:ai I x=.tuple vs)(hv:vs[j]? =some v)(k:dM P N ops Fam Ok Q rest (up I d v)):dM P N ops Fam Ok Q (i::rest) I:=by
 simp only[dM,ho];exact⟨decide_eq_true hd,trivial,trivial,λy hy=>hy.elim,_,λκ xz=>by simp only[cT,hx,hv],k⟩
def left(ops:Array Oper)(listed:Array Bool):List Nat:=(List.range ops.size).filter λi=> !listed.getD i true
def aiE{listed:Array Bool}(hs:listed.size=ops.size)(hi:i∈left ops listed):(left ops (listed.setIfInBounds i true)).length<(left ops listed).length:=by
 have e:left ops (listed.setIfInBounds i true)=(left ops listed).filter λj=>j !=i:=by
  simp only[left,List.filter_filter];apply List.filter_congr;intro j hj;simp only[List.mem_range]at hj;by_cases h:j=i
  ·subst h;simp[Array.getD_eq_getD_getElem?,Array.getElem?_setIfInBounds_self_of_lt (by omega:j<listed.size)]
  ·simp[Array.getD_eq_getD_getElem?,Array.getElem?_setIfInBounds_ne (Ne.symm h),h]
 rw[e,List.length_filter_lt_length_iff_exists];exact⟨i,hi,ak⟩
variable {Q:Post}
def aqt{atz:(Nat->Bool)->av->List Deferred->Hp->Prop}{U:Hp}(hm:P.follows .mixedOrders=true)(Dg:∀(i:Nat) (o:Oper),ops[i]? =some o->∀e∈o.after,e.on<i)(gu:∀(L:Nat->Bool) (i:Nat) (o:Oper) (I:av) (ds:List Deferred) (U:Hp) (K:av->List Deferred->Hp->Prop),ops[i]? =some o->L i=false->(∀e∈o.after,Region.binds .any e=true->L e.on=true)->atz L I ds U->
  (∀aC cV ae,atz (λj=>L j||j==i) aC cV ae->K aC cV ae)->lV E N ops Q i K I ds U)(vB:∀(L:Nat->Bool) I ds U,(∀i,i<ops.size->L i=true)->atz L I ds U->Q .normal I ds U)(h0:atz (λ_=>false) I ds U)(t:Nat):my E N ops Q (Region.schedule (P.follows .mixedOrders) ops t) I ds U:=by
 simp only[Region.schedule,hm,Bool.true_or,if_true,Region.linearise]
 have key:∀(fuel t:Nat) (listed:Array Bool) (I:av) (ds:List Deferred) (U:Hp),listed.size=ops.size->(left ops listed).length<=fuel->atz (λj=>listed.getD j false) I ds U->my E N ops Q (Region.linearise.go .any ops fuel t listed []) I ds U:=by
  intro fuel
  induction fuel with
  |zero=>
   intro t listed I ds U hs hl hI;simp only[Region.linearise.go,List.reverse_nil,my];refine vB _ _ _ _ (λi hi=>?_) hI;have:left ops listed=[]:=aV hl;have hn:i∉left ops listed:=by rw[this];simp
   simp only[left,List.mem_filter,List.mem_range,not_and,Bool.not_eq_true',Bool.not_eq_false]at hn;have:=hn hi;simpa[Array.getD_eq_getD_getElem?,Array.getElem?_eq_getElem (by omega:i<listed.size)]using this
  |succ fuel ih=>
   intro t listed I ds U hs hl hI;simp only[Region.linearise.go]
   change my E N ops Q (match(Region.ready .any ops listed)[t %(Region.ready .any ops listed).length]? with
    |some i=>Region.linearise.go .any ops fuel (t/(Region.ready .any ops listed).length) (listed.setIfInBounds i true) [i]
    |none=>[].reverse) I ds U
   have pS:∀i,i∈Region.ready .any ops listed↔i<ops.size/\listed.getD i true=false/\∃o,ops[i]? =some o/\∀e∈o.after,Region.binds .any e=true->listed.getD e.on false=true:=by
    intro i;simp only[Region.ready,List.mem_filter,List.mem_range,Bool.and_eq_true,Bool.not_eq_true'];constructor
    ·rintro⟨h1,h2,h3⟩;refine⟨h1,h2,ops[i],Array.getElem?_eq_getElem h1,λe he hb=>?_⟩;rw[Array.getElem?_eq_getElem h1]at h3;simp only[Option.map_some,Option.getD_some,Array.all_eq_true_iff_forall_mem,Bool.or_eq_true,Bool.not_eq_true']at h3;rcases h3 e he with h|h
     ·rw[hb]at h;cases h
     ·exact h
    ·rintro⟨h1,h2,o,ho,h3⟩;refine⟨h1,h2,?_⟩;rw[ho];simp only[Option.map_some,Option.getD_some,Array.all_eq_true_iff_forall_mem,Bool.or_eq_true,Bool.not_eq_true'];intro e he
     cases hb:Region.binds .any e with
     |false=>exact .inl rfl
     |true=>exact .inr (h3 e he hb)
   cases hr:Region.ready .any ops listed with
   |nil=>
    simp only[List.length_nil,List.getElem?_nil,List.reverse_nil,my];refine vB _ _ _ _ (λi=>?_) hI
    induction i using Nat.strongRecOn with
    |_ i ihi=>
     intro hi
     cases hgi:listed.getD i false with
     |true=>rfl
     |false=>
      have:i∈Region.ready .any ops listed:=by
       refine(pS i).2 ⟨hi,?_,ops[i],Array.getElem?_eq_getElem hi,λe he hb=>?_⟩
       ·simpa[Array.getD_eq_getD_getElem?,Array.getElem?_eq_getElem (by omega:i<listed.size)]using hgi
       ·have:=Dg i _ (Array.getElem?_eq_getElem hi) e he;exact ihi e.on this aa
      rw[hr]at this;cases this
   |cons x xs=>
    have aZ:t %(x::xs).length<(x::xs).length:=Nat.mod_lt _ ak;rw[List.getElem?_eq_getElem aZ];simp only[];rw[linearise_go_acc,List.reverse_singleton,List.singleton_append];have xj:(x::xs)[t %(x::xs).length]∈Region.ready .any ops listed:=by rw[hr];exact List.getElem_mem aZ
    generalize(x::xs)[t %(x::xs).length]=i at xj|-;obtain⟨h1,h2,o,ho,h3⟩:=(pS i).1 xj;have sJ:i∈left ops listed:=by simp only[left,List.mem_filter,List.mem_range,Bool.not_eq_true'];exact⟨h1,h2⟩
    have hf:listed.getD i false=false:=by simpa[Array.getD_eq_getD_getElem?,Array.getElem?_eq_getElem (by omega:i<listed.size)]using h2
    refine gu (λj=>listed.getD j false) i o I ds U _ ho hf h3 hI λaC cV ae Cy=>ih _ _ _ _ _ (aV hs) (by have:=aiE hs sJ;omega) ?_
    have e:(λj=>(listed.setIfInBounds i true).getD j false)=λj=>listed.getD j false||j==i:=by
     funext j
     by_cases h:j=i
     ·subst h;simp[Array.getD_eq_getD_getElem?,Array.getElem?_setIfInBounds_self_of_lt (by omega:j<listed.size)]
     ·simp[Array.getD_eq_getD_getElem?,Array.getElem?_setIfInBounds_ne (Ne.symm h),h]
    rw[e];exact Cy
 refine key _ _ _ _ _ _ ak (by exact Nat.le_trans (List.length_filter_le _ _) ak) ?_
 have e:(λj=>(Array.replicate ops.size false).getD j false)=λ_=>false:=by
  funext j
  rw[Array.getD_eq_getD_getElem?,Array.getElem?_replicate];split<;>rfl
 rw[e];exact h0
end
section
open Go.Proofs
abbrev pz:Go.Conc.Lib.WgLink:={add:=55,done:=57,wait:=60,relMerge:=91,disable:=92,enable:=93,inBubble:=94,associate:=95,fatal:=96,uOr:=97,uAdd:=98,raceRead:=99,uLoad:=100,uStore:=101,disassociate:=102,semrelease:=103,acquire:=108,isAssociated:=109,uCas:=110,raceWrite:=111,semacquire:=112,orU64:=143,addU64:=144,loadU64:=145,storeU64:=146,casU64:=152,tWgP:=197,tUP:=137,tAssoc:=199,tWg:=131,tAU:=128,tU64:=126,tUint:=68,tU32:=129,tPU32:=202,tPAU:=282,tPU64:=284,tNoCopy:=123,tANoCopy:=124,tAlign64:=125}
def HF:Go.Conc.Lib.WgLib prog pz:=
 ⟨func55,func57,func60,func91,func92,func93,func94,func95,func96,func97,func98,func99,func100,func101,func102,func103,func108,func109,func110,func111,func112,func143,func144,func145,func146,func152,underlying197,runUnderlying197,sizeOf197,isAgg197,zeroValue197,underlying137,runUnderlying137,sizeOf137,isAgg137,zeroValue137,underlying199,runUnderlying199,sizeOf199,isAgg199,zeroValue199,underlying131,runUnderlying131,sizeOf131,isAgg131,zeroValue131,underlying128,runUnderlying128,sizeOf128,isAgg128,zeroValue128,underlying126,runUnderlying126,sizeOf126,isAgg126,zeroValue126,underlying68,runUnderlying68,sizeOf68,isAgg68,zeroValue68,underlying129,runUnderlying129,sizeOf129,isAgg129,zeroValue129,underlying202,runUnderlying202,sizeOf202,isAgg202,zeroValue202,underlying282,runUnderlying282,sizeOf282,isAgg282,zeroValue282,underlying284,runUnderlying284,sizeOf284,isAgg284,zeroValue284,underlying0,runUnderlying0,sizeOf0,isAgg0,zeroValue0,underlying3,runUnderlying3,sizeOf3,isAgg3,zeroValue3,underlying4,runUnderlying4,sizeOf4,isAgg4,zeroValue4,underlying9,runUnderlying9,sizeOf9,isAgg9,zeroValue9,underlying20,runUnderlying20,sizeOf20,isAgg20,zeroValue20,underlying21,runUnderlying21,sizeOf21,isAgg21,zeroValue21,ah,ah⟩
end
section
open Go.Conc
variable {P:Program}{E:Env P}{N:Nat}{ops:Array Oper}
def xX{Q:Post}(b:Frame)(hb:b.kind≠.early)(k:List Item)(cs:List Frame)(tl:List Nat)(hQ:∀ch I ds U,¬Q (.panic ch) I ds U)(l:List Nat):
 ∀(I:av) (ds:List Deferred) (U:Hp) (a:Act),iZ E N ops Q (l.filterMap (ops[·]?)) I ds U->cM N a I ds->ax E (G (b.at a (.inRegion ops (l++tl)::k)) cs) U (λg ae=>∃aC cV a',cM N a' aC cV/\Q .normal aC cV ae/\g=G (b.at a' (.inRegion ops tl::k)) cs):=by
 induction l with
 |nil=>
  intro I ds U a h ha;exact ax.here ⟨I,ds,a,ha,h,rfl⟩
 |cons i rest ih=>
  intro I ds U a h ha
  cases ho:ops[i]? with
  |none=>
   rw[List.filterMap_cons_none ho]at h;have jj:((ops[i]?).map (Region.wanted · (yielded ops a.tmps))).getD false=false:=by rw[ho];rfl
   have fe:(b.at a (.inRegion ops (i::(rest++tl))::k)).finish undef=b.at a (.inRegion ops (rest++tl)::k):=by rw[Frame.finish_at,ho];rfl
   refine ax.ctl (g':=G (b.at a (.inRegion ops (rest++tl)::k)) cs) (λw=>?_) rfl rfl (ih _ _ _ _ h ha);rw[<-fe];simp only[Frame.at]at*;simp[G,stepG,stepG.exec,jj]
  |some o=>
   rw[List.filterMap_cons_some ho]at h;simp only[iZ]at h;obtain⟨hd,h⟩:=h;by_cases hw:Region.wanted o (gO N ops I)=true
   ·rw[if_pos hw]at h;have jj:Region.wanted o (yielded ops a.tmps)=true:=by rw[ha.yc];exact hw
    have h:=rV h;unfold wpOp at h;rw[<-ha.eval]at h;refine ax.step rfl (My (P:=P) (main:=E.main) (b:=b) (k:=k) (cs:=cs) (rest:=rest++tl) ho jj hb h) ?_;rintro g ae (⟨v,hv,rfl⟩|⟨d,sI,rfl⟩|⟨f,args,hc,rfl⟩|⟨v,hp,rfl⟩)
    ·exact ih _ _ _ _ hv (ha.put hd v)
    ·exact ih _ _ _ _ sI ((ha.defer d).put hd undef)
    ·refine aw.run hc ?_ ?_
     ·intro v fZ hv;have fe:(b.at a (.inRegion ops (i::(rest++tl))::k)).finish v=b.at (a.put o.dst v) (.inRegion ops (rest++tl)::k):=by rw[Frame.finish_at,ho];rfl
      rw[fe];exact ih _ _ _ _ hv (ha.put hd v)
     ·intro ch fZ hp;exact absurd hp (hQ _ _ _ _)
    ·exact absurd hp (hQ _ _ _ _)
   ·rw[if_neg hw]at h;have jj:((ops[i]?).map (Region.wanted · (yielded ops a.tmps))).getD false=false:=by rw[ho,ha.yc];simpa using hw
    have fe:(b.at a (.inRegion ops (i::(rest++tl))::k)).finish undef=b.at (a.put o.dst undef) (.inRegion ops (rest++tl)::k):=by rw[Frame.finish_at,ho];rfl
    refine ax.ctl (g':=G (b.at (a.put o.dst undef) (.inRegion ops (rest++tl)::k)) cs) (λw=>?_) rfl rfl (ih _ _ _ _ h (ha.put hd undef));rw[<-fe];simp only[Frame.at]at*;simp[G,stepG,stepG.exec,jj]
def jX(X:av->List Deferred->Hp->Prop):Post
 | .normal,I,ds,U=>X I ds U
 |_,_,_,_=>False
variable {X:av->List Deferred->Hp->Prop}
def xM:∀ch I ds U,¬jX X (.panic ch) I ds U:=λ_ _ _ _ h=>h
variable {c:Code}{U:Hp}{b:Frame}{k:List Item}{cs:List Frame}{a:Act}
def nB{I:av}{ds:List Deferred}(h:cO E N c (jX X) I ds U)(hb:b.kind≠.early)(ha:cM N a I ds):
 ax E (G (b.at a (.code c::k)) cs) U λg ae=>∃aC cV a',cM N a' aC cV/\X aC cV ae/\g=G (b.at a' k) cs:=by
 refine(HH c _ _ _ _ h b k cs a hb ha).mono ?_;rintro g ae ⟨e,aC,cV,a',dJ,hq,AF⟩
 cases e<;>first|exact hq.elim|skip
 obtain rfl:=AF;exact⟨aC,cV,a',dJ,hq,rfl⟩
def GL:Op->Bool
 | .defer _=>true
 |_=>false
variable {main:Bool}{w:World}
def aoF{id:Nat}:stepG P main (G (b.atR a (.inBlock id::k)) cs) w=.go (G (b.atR a k) cs) w:=by simp[G,stepG,stepG.exec,Frame.atR]
def aoE{id:Nat}:stepG P main (G (b.atR a (.code (.block id c)::k)) cs) w=.go (G (b.atR a (.code c:: .inBlock id::k)) cs) w:=by simp[G,stepG,stepG.exec,Frame.atR]
def UI{id:Nat}:stepG P main (G (b.atR a (.code (.region id ops false)::k)) cs) w=.go (G (b.atR a (.inRegion ops (List.range ops.size)::k)) cs) w:=by simp[G,stepG,stepG.exec,Frame.atR]
def aoH:stepG P main (G (b.atR a (.inRegion ops []::k)) cs) w=.go (G (b.atR a k) cs) w:=by simp[G,stepG,stepG.exec,Frame.atR]
variable {i:Nat}{rest:List Nat}{o:Oper}
def aoG(ho:ops[i]? =some o)(hw:Region.wanted o (yielded ops a.tmps)=true)(hd:GL o.op=false):
 stepG P main (G (b.atR a (.inRegion ops (i::rest)::k)) cs) w=stepG.apply P true (b.atR a (.inRegion ops (i::rest)::k)) cs none (execOp a.eval o) w:=by
 have he:=Frame.eval_atR b a (.inRegion ops (i::rest)::k);simp only[Frame.atR]at he
 cases hr:b.roundOf with
 |none=>simp[G,stepG,stepG.exec,stepG.oper,Frame.oper?,Frame.atR,ho,hw,hr];rw[hr]at he;rw[he]
 |some l=>
  rw[hr]at he;simp only[G,stepG,stepG.exec,stepG.oper,Frame.oper?,Frame.atR,ho,hw,hr,Option.map_some,Option.getD_some,if_true,he]
  cases aR:o.op<;>first|rfl|(rw[aR]at hd;cases hd)
def aoQ(ho:ops[i]? =some o)(hw:Region.wanted o (yielded ops a.tmps)=true)(hd:GL o.op=false)(hk:b.kind≠.early){V:Value->Hp->Prop}{D:Deferred->Hp->Prop}{C:FuncId->Array Value->Hp->Prop}(h:wpS P (execOp a.eval o) (pB V D C) (se λ_ _=>False) U):
 gQ P main (G (b.atR a (.inRegion ops (i::rest)::k)) cs) U λg ae=>
  (∃v,V v ae/\g=G (b.atR (a.put o.dst v) (.inRegion ops rest::k)) cs)\/
  (∃d,D d ae/\g=G (b.atR ({a with defers:=d::a.defers}.put o.dst undef) (.inRegion ops rest::k)) cs)\/
  (∃f args,C f args ae/\g=G (Frame.enter P f args .normal) (b.atR a (.inRegion ops (i::rest)::k)::cs)):=by
 intro J w hs
 have fe:∀v,(b.atR a (.inRegion ops (i::rest)::k)).finish v=b.atR (a.put o.dst v) (.inRegion ops rest::k):=by intro v;rw[Frame.finish_atR,ho];rfl
 have nY:(b.kind==CallKind.early)=false:=aV hk;obtain⟨w',ae,bW,e1,cS,dZ,fT,hr⟩:=oA (execOp a.eval o) w U #[] h hs;have gm:((execOp a.eval o).runT P w #[]).2=bW:=by simpa using e1
 rw[aoG ho hw hd];have iz:∀e∈seen P b.fn bW,iv J w'.heap.size e:=λe he=>fT e (mem_seen he);rcases hr with⟨nx,hn,hq⟩|⟨hh,hn,hq⟩
 ·have e2:(execOp a.eval o).runT P w #[]=(.ok nx w',bW):=Prod.ext hn gm
  cases nx<;>first|exact hq.elim|skip
  ·rename_i v
   have:stepG.apply P true (b.atR a (.inRegion ops (i::rest)::k)) cs none (execOp a.eval o) w=.go (G (b.atR (a.put o.dst v) (.inRegion ops rest::k)) cs) w' (seen P b.fn bW):=by rw[<-fe];simp[stepG.apply,-Sem.runT_eq,e2,G,Frame.atR,nY,GStep.after]
   rw[this];exact⟨ae,cS,dZ,iz,rfl,.inl ⟨v,hq,rfl⟩⟩
  ·have:stepG.apply P true (b.atR a (.inRegion ops (i::rest)::k)) cs none (execOp a.eval o) w=.go (G (b.atR (a.put o.dst undef) (.inRegion ops rest::k)) cs) w' (seen P b.fn bW):=by rw[<-fe];simp[stepG.apply,-Sem.runT_eq,e2,G,Frame.atR,nY,GStep.after]
   rw[this];exact⟨ae,cS,dZ,iz,rfl,.inl ⟨undef,hq,rfl⟩⟩
  ·rename_i f args
   have:stepG.apply P true (b.atR a (.inRegion ops (i::rest)::k)) cs none (execOp a.eval o) w=.go (G (Frame.enter P f args .normal) (b.atR a (.inRegion ops (i::rest)::k)::cs)) w' (seen P b.fn bW):=by simp[stepG.apply,-Sem.runT_eq,e2,G,Frame.atR,nY,GStep.after]
   rw[this];exact⟨ae,cS,dZ,iz,rfl,.inr (.inr ⟨f,args,hq,rfl⟩)⟩
  ·rename_i d
   have C2:({b.atR a (.inRegion ops (i::rest)::k)with defers:=d::a.defers}:Frame).finish undef=b.atR ({a with defers:=d::a.defers}.put o.dst undef) (.inRegion ops rest::k):=by have:=Frame.finish_atR b {a with defers:=d::a.defers} ops i rest k undef;rw[ho]at this;exact this
   have:stepG.apply P true (b.atR a (.inRegion ops (i::rest)::k)) cs none (execOp a.eval o) w=.go (G (b.atR ({a with defers:=d::a.defers}.put o.dst undef) (.inRegion ops rest::k)) cs) w' (seen P b.fn bW):=by rw[<-C2];simp[stepG.apply,-Sem.runT_eq,e2,G,Frame.atR,nY,GStep.after]
   rw[this];exact⟨ae,cS,dZ,iz,rfl,.inr (.inl ⟨d,hq,rfl⟩)⟩
 ·cases hh<;>exact hq.elim
def Vf(hb:b.kind≠.early)(Gl:(ops.toList.all λo=> !GL o.op)=true)(l:List Nat):
 ∀(I:av) (ds:List Deferred) (U:Hp) (a:Act),iZ E N ops (jX X) (l.filterMap (ops[·]?)) I ds U->cM N a I ds->
  ax E (G (b.atR a (.inRegion ops l::k)) cs) U (λg ae=>∃aC cV a',cM N a' aC cV/\X aC cV ae/\g=G (b.atR a' k) cs):=by
 induction l with
 |nil=>
  intro I ds U a h ha;exact ax.ctl (λw=>aoH) rfl rfl (ax.here ⟨I,ds,a,ha,h,rfl⟩)
 |cons i rest ih=>
  intro I ds U a h ha
  cases ho:ops[i]? with
  |none=>
   rw[List.filterMap_cons_none ho]at h;have jj:((ops[i]?).map (Region.wanted · (yielded ops a.tmps))).getD false=false:=by rw[ho];rfl
   have fe:(b.atR a (.inRegion ops (i::rest)::k)).finish undef=b.atR a (.inRegion ops rest::k):=by rw[Frame.finish_atR,ho];rfl
   refine ax.ctl (g':=G (b.atR a (.inRegion ops rest::k)) cs) (λw=>?_) rfl rfl (ih _ _ _ _ h ha);rw[<-fe];simp only[Frame.atR]at*;simp[G,stepG,stepG.exec,jj]
  |some o=>
   rw[List.filterMap_cons_some ho]at h;simp only[iZ]at h;obtain⟨hd,h⟩:=h;by_cases hw:Region.wanted o (gO N ops I)=true
   ·rw[if_pos hw]at h;have jj:Region.wanted o (yielded ops a.tmps)=true:=by rw[ha.yc];exact hw
    have h:=rV h;unfold wpOp at h;rw[<-ha.eval]at h
    have hod:GL o.op=false:=by have:=List.all_eq_true.1 Gl o (by rw[Array.getElem?_eq_some_iff]at ho;obtain⟨h1,rfl⟩:=ho;simp);simpa using this
    have h:wpS P (execOp a.eval o) (pB (λv ae=>iZ E N ops (jX X) (rest.filterMap (ops[·]?)) (aA I o.dst v) ds ae) (λd ae=>iZ E N ops (jX X) (rest.filterMap (ops[·]?)) (aA I o.dst undef) (d::ds) ae)
     (λf args ae=>aw E f args ae (xL (λv fZ=>iZ E N ops (jX X) (rest.filterMap (ops[·]?)) (aA I o.dst v) ds fZ) λ_ _=>False))) (se λ_ _=>False) U:=h
    refine ax.step rfl (aoQ (P:=P) (main:=E.main) (b:=b) (k:=k) (cs:=cs) (rest:=rest) ho jj hod hb h) ?_;rintro g ae (⟨v,hv,rfl⟩|⟨d,sI,rfl⟩|⟨f,args,hc,rfl⟩)
    ·exact ih _ _ _ _ hv (ha.put hd v)
    ·exact ih _ _ _ _ sI ((ha.defer d).put hd undef)
    ·refine aw.run hc ?_ ?_
     ·intro v fZ hv;have fe:(b.atR a (.inRegion ops (i::rest)::k)).finish v=b.atR (a.put o.dst v) (.inRegion ops rest::k):=by rw[Frame.finish_atR,ho];rfl
      rw[fe];exact ih _ _ _ _ hv (ha.put hd v)
     ·intro ch fZ hp;exact hp.elim
   ·rw[if_neg hw]at h;have jj:((ops[i]?).map (Region.wanted · (yielded ops a.tmps))).getD false=false:=by rw[ho,ha.yc];simpa using hw
    have fe:(b.atR a (.inRegion ops (i::rest)::k)).finish undef=b.atR (a.put o.dst undef) (.inRegion ops rest::k):=by rw[Frame.finish_atR,ho];rfl
    refine ax.ctl (g':=G (b.atR (a.put o.dst undef) (.inRegion ops rest::k)) cs) (λw=>?_) rfl rfl (ih _ _ _ _ h (ha.put hd undef));rw[<-fe];simp only[Frame.atR]at*;simp[G,stepG,stepG.exec,jj]
variable {l:Nat}{r:Loop}
def UJ{dst:Option Tmp}{t x:Operand}{cz:Array TypeId}{ty:TypeId}{pos:String}{af:Array Edge}{gd:Option (Nat×Bool)}{p:Tmp}(ho:ops[i]? =some ⟨dst,.call ⟨.value t,#[x],cz⟩,ty,pos,af,gd⟩)(hw:Region.wanted ⟨dst,.call ⟨.value t,#[x],cz⟩,ty,pos,af,gd⟩ (yielded ops a.tmps)=true)(ht:a.eval t=.func (.yield l) #[] #[])(hl:U.f l=some (.loop r))(hp:r.params= #[p]):
 gQ P main (G (b.at a (.inRegion ops (i::rest)::k)) cs) U λg ae=>ae=U/\
  g=G (Frame.round l r.fn (r.tmps.setIfInBounds p (a.eval x)) r.assign r.body .normal) (b.at a (.inRegion ops (i::rest)::k)::cs):=by
 intro J w hs
 have h:wpS P (execOp a.eval ⟨dst,.call ⟨.value t,#[x],cz⟩,ty,pos,af,gd⟩) (λn ae=>n=.round l r.fn (r.tmps.setIfInBounds p (a.eval x)) r.assign r.body/\ae=U) (λ_ _=>False) U:=by simp only[execOp,resolve,Deferred.ofValue,ht,aF,bl,invoke,Instr.yield,Instr.getLoop,oz];refine⟨_,hl,rfl,?_⟩;simp only[bl,hp];simp[bl]
 obtain⟨w',ae,bW,e1,cS,dZ,fT,hr⟩:=oA _ w U #[] h hs;have gm:((execOp a.eval ⟨dst,.call ⟨.value t,#[x],cz⟩,ty,pos,af,gd⟩).runT P w #[]).2=bW:=by simpa using e1
 rw[stepG_oper ho hw];have iz:∀fn,∀e∈seen P fn bW,iv J w'.heap.size e:=λfn e he=>fT e (mem_seen he);rcases hr with⟨nx,hn,hq,rfl⟩|⟨hh,hn,hq⟩
 ·subst hq;have e2:(execOp a.eval ⟨dst,.call ⟨.value t,#[x],cz⟩,ty,pos,af,gd⟩).runT P w #[]=(_,bW):=Prod.ext hn gm;generalize execOp a.eval _=s at e2|-;unfold stepG.apply;simp only[if_true,e2,G,GStep.after];refine⟨_,cS,dZ,λe he=>?_,rfl,rfl,rfl⟩;split at he
  ·simp[seen]at he
  ·simp only[Array.append_empty]at he;exact iz _ e he
 ·exact hq.elim
def wD(l:Nat)(fn:FuncId):Frame:={(default:Frame)with fn,kind:=.normal,roundOf:=some l}
variable {fn:FuncId}{x y:Code}
def anA{tmps:Array Value}:Frame.round l fn tmps x y .normal=(wD l fn).atR ⟨tmps,[]⟩ [.code x,.beginRound,.code y]:=by simp[Frame.round,wD,Frame.atR]
def aoK(hl:U.f l=some (.loop r))(hs:r.state=.ready):
 gQ P main (G ((wD l fn).atR a (.beginRound::k)) cs) U λg ae=>ae=U.set l (.loop {r with state:=.busy})/\g=G ((wD l fn).atR a k) cs:=by
 intro J w cS
 have h:wpS P (do (some l).elim (stuck "beginRound: no round") Instr.beginRound;pure Next.skip) (λn ae=>n=.skip/\ae=U.set l (.loop {r with state:=.busy})) (λ_ _=>False) U:=by simp only[Option.elim,Instr.beginRound,Instr.getLoop,aF,oz];refine⟨_,hl,rfl,?_⟩;simp only[bl,tv];refine⟨_,hl,rfl,?_⟩;rw[hs];simp[bl]
 obtain⟨w',ae,bW,e1,iy,dZ,fT,hr⟩:=oA _ w U #[] h cS;rcases hr with⟨nx,hn,rfl,rfl⟩|⟨hh,hn,hq⟩
 ·have gm:((do (some l).elim (stuck "beginRound: no round") Instr.beginRound;pure Next.skip:Sem Next).runT P w #[]).2=bW:=by simpa using e1
  have e2:(do (some l).elim (stuck "beginRound: no round") Instr.beginRound;pure Next.skip:Sem Next).runT P w #[]=(_,bW):=Prod.ext hn gm;have iz:∀fn,∀e∈seen P fn bW,iv J w'.heap.size e:=λfn e he=>fT e (mem_seen he);simp only[G,Frame.atR,wD,stepG,stepG.exec];generalize Dy:(do (some l).elim (stuck "beginRound: no round") Instr.beginRound;pure Next.skip:Sem Next)=s at e2|-;unfold stepG.apply;simp only[if_true,e2,GStep.after,Frame.finish];refine⟨_,iy,dZ,λe he=>?_,rfl,rfl,rfl⟩;split at he
  ·simp[seen]at he
  ·simp only[Array.append_empty]at he;exact iz _ e he
 ·exact hq.elim
def aoM{c:Frame}(hl:U.f l=some (.loop r)):
 gQ P main (G ((wD l fn).atR a []) (c::cs)) U λg ae=>ae=U.set l (.loop {r with state:=.ready,pending:=none})/\g=G (c.finish (.bool true)) cs:=by
 intro J w cS
 have h:wpS P (Instr.endRound l none) (λn ae=>n=.bool true/\ae=U.set l (.loop {r with state:=.ready,pending:=none})) (λ_ _=>False) U:=by simp only[Instr.endRound,Instr.getLoop,aF,oz];refine⟨_,hl,rfl,?_⟩;simp only[bl,tv];refine⟨_,hl,rfl,?_⟩;simp
 obtain⟨w',ae,bW,e1,iy,dZ,fT,hr⟩:=oA _ w U #[] h cS;rcases hr with⟨nx,hn,rfl,rfl⟩|⟨hh,hn,hq⟩
 ·have gm:((Instr.endRound l none).runT P w #[]).2=bW:=by simpa using e1
  have e2:(Instr.endRound l none).runT P w #[]=(_,bW):=Prod.ext hn gm;have iz:∀fn,∀e∈seen P fn bW,iv J w'.heap.size e:=λfn e he=>fT e (mem_seen he);simp only[G,Frame.atR,wD,stepG,stepG.exec];generalize Instr.endRound l none=s at e2|-;simp only[e2,GStep.after,doReturn];exact⟨_,iy,dZ,λe he=>iz _ e (aV he),rfl,rfl,rfl⟩
 ·exact hq.elim
def aoR{f:Operand}{ps:Array Tmp}{fid:FuncId}{cap:Array Value}(hf:a.eval f=.func (.func fid) #[] cap)(hg:cq P fid=true)(hk:b.kind=.normal):
 gQ P main (G (b.at a (.code (.rangeFunc f ps x y)::k)) cs) U λg ae=>∃d l,U.f d=none/\l≠d/\U.f l=none/\
  ae=(U.set d (.deferred (some []))).set l (.loop {state:=.ready,pending:=none,fn:=b.fn,tmps:=a.tmps,params:=ps,assign:=x,body:=y,defers:=d})/\
  g=G (Frame.enter P fid (#[.func (.yield l) #[] #[]]++cap) .normal) (b.at {a with defers:={target:=.collected d,args:=#[]}::a.defers} (.inRangeFunc l::k)::cs):=by
 intro J w cS
 have h:wpS P (Instr.enterLoop b.fn a.tmps ps x y none) (λn ae=>∃d,n=(n.1,[{target:=.collected d,args:=#[]}])/\U.f d=none/\n.1≠d/\U.f n.1=none/\
  ae=(U.set d (.deferred (some []))).set n.1 (.loop {state:=.ready,pending:=none,fn:=b.fn,tmps:=a.tmps,params:=ps,assign:=x,body:=y,defers:=d})) (λ_ _=>False) U:=by
  simp only[Instr.enterLoop,aF,xY,bl];intro d hd l hl
  have aE:l≠d:=by intro e;subst e;simp[Hp.set]at hl
  refine⟨d,rfl,hd,aE,?_,rfl⟩;simpa[Hp.set,aE]using hl
 obtain⟨w1,dg,Pq,e1,jS,jR,J5,hr⟩:=oA _ w U #[] h cS;rcases hr with⟨⟨l,mk⟩,hn,d,hm,hd,aE,Rk,kx⟩|⟨hh,hn,hq⟩
 ·simp only[Prod.mk.injEq,true_and]at hm aE Rk kx;subst hm;have gm:((Instr.enterLoop b.fn a.tmps ps x y none).runT P w #[]).2=Pq:=by simpa using e1
  have e2:(Instr.enterLoop b.fn a.tmps ps x y none).runT P w #[]=(_,Pq):=Prod.ext hn gm
  have h3:∀ev:Operand->Value,ev f=a.eval f->(∀v,ev (.const v)=v)->wpS P (do let d<-resolve ev {callee:=.value f,args:=#[.const (.func (.yield l) #[] #[])],argTypes:=#[]} 0;invoke d.target d.args)
   (λn ae=>n=.enter fid (#[.func (.yield l) #[] #[]]++cap)/\ae=dg) (λ_ _=>False) dg:=by
   intro ev h1 h2;simp only[resolve,Deferred.ofValue,h1,hf,aF,bl,invoke];refine HI hg ?_;simp[h2]
  have ki:∀td ds,({fn:=b.fn,tmps:=a.tmps,todo:=td,defers:=ds,mode:=.run,kind:=b.kind}:Frame).eval=a.eval:=by intro td ds;funext o;cases o<;>rfl
  simp only[G,Frame.at,stepG,stepG.exec];generalize Instr.enterLoop b.fn a.tmps ps x y none=s at e2|-;simp only[e2];have h4:=h3 a.eval rfl (λ_=>rfl);obtain⟨w2,ja,IZ,e3,iy,gW,J6,bX⟩:=oA _ w1 dg #[] h4 jS;rcases bX with⟨nx,xr,rfl,sU⟩|⟨_,_,hq⟩
  ·subst sU;have e3':((do let d<-resolve a.eval {callee:=.value f,args:=#[.const (.func (.yield l) #[] #[])],argTypes:=#[]} 0;invoke d.target d.args:Sem Next).runT P w1 #[]).2=IZ:=by simpa using e3
   have e4:(do let d<-resolve a.eval {callee:=.value f,args:=#[.const (.func (.yield l) #[] #[])],argTypes:=#[]} 0;invoke d.target d.args:Sem Next).runT P w1 #[]=(_,IZ):=Prod.ext xr e3';simp only[ki];generalize(do let d<-resolve a.eval {callee:=.value f,args:=#[.const (.func (.yield l) #[] #[])],argTypes:=#[]} 0;invoke d.target d.args:Sem Next)=s2 at e4|-;unfold stepG.apply;simp only[if_true,e4,GStep.after,hk];refine⟨_,iy,jR.trans gW,λe he=>?_,rfl,d,l,hd,aE,Rk,kx,rfl⟩;rcases Array.mem_append.1 he with he|he
   ·exact(J5 e (mem_seen he)).mono gW.tI
   ·simp only[Array.append_empty]at he;exact J6 e (mem_seen he)
  ·exact hq.elim
 ·exact hq.elim
def aoL(hl:U.f l=some (.loop r))(hs:r.state=.ready)(hp:r.pending=none):
 gQ P main (G (b.at a (.endRangeFunc l::k)) cs) U λg ae=>ae=U.set l (.loop {r with state:=.exhausted})/\g=G (b.at a k) cs:=by
 intro J w cS
 have h:wpS P (Instr.endLoop l) (λn ae=>n=none/\ae=U.set l (.loop {r with state:=.exhausted})) (λ_ _=>False) U:=by simp only[Instr.endLoop,Instr.getLoop,aF,oz];refine⟨_,hl,rfl,?_⟩;simp only[bl,hs];rw[if_neg an,aF,tv];exact⟨_,hl,rfl,hp,rfl⟩
 obtain⟨w',ae,bW,e1,iy,dZ,fT,hr⟩:=oA _ w U #[] h cS;rcases hr with⟨nx,hn,rfl,rfl⟩|⟨hh,hn,hq⟩
 ·have gm:((Instr.endLoop l).runT P w #[]).2=bW:=by simpa using e1
  have e2:(Instr.endLoop l).runT P w #[]=(_,bW):=Prod.ext hn gm;have iz:∀fn,∀e∈seen P fn bW,iv J w'.heap.size e:=λfn e he=>fT e (mem_seen he);simp only[G,Frame.at,stepG,stepG.exec];generalize Instr.endLoop l=s at e2|-;simp only[e2,GStep.after];exact⟨_,iy,dZ,λe he=>iz _ e (aV he),rfl,rfl,rfl⟩
 ·exact hq.elim
def aoP{d:Nat}{fr:Frame}(hd:U.f d=some (.deferred (some [])))(hm:fr.mode=.returning)(mP:fr.defers=[{target:=.collected d,args:=#[]}]):
 gQ P main (G fr cs) U λg ae=>ae=U.set d (.deferred none)/\g=G {fr with defers:=[]} cs:=by
 intro J w cS
 have h:wpS P (Instr.takeDeferred d) (λn ae=>n=[]/\ae=U.set d (.deferred none)) (λ_ _=>False) U:=by simp only[Instr.takeDeferred,aF,oz];refine⟨_,hd,rfl,?_⟩;simp only[bl,aF,tv];exact⟨_,hd,rfl,trivial,trivial⟩
 obtain⟨w',ae,bW,e1,iy,dZ,fT,hr⟩:=oA _ w U #[] h cS;rcases hr with⟨nx,hn,rfl,rfl⟩|⟨hh,hn,hq⟩
 ·have gm:((Instr.takeDeferred d).runT P w #[]).2=bW:=by simpa using e1
  have e2:(Instr.takeDeferred d).runT P w #[]=(_,bW):=Prod.ext hn gm;have iz:∀fn,∀e∈seen P fn bW,iv J w'.heap.size e:=λfn e he=>fT e (mem_seen he);simp only[G,stepG,hm,unwind,mP];generalize Instr.takeDeferred d=s at e2|-;simp only[e2,GStep.after];exact⟨_,iy,dZ,λe he=>iz _ e (aV he),rfl,rfl,rfl⟩
 ·exact hq.elim
end
end Go.Qw
