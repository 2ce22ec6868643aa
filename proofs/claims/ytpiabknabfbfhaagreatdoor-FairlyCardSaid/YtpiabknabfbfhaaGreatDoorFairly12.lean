/- Part 12. -/
import Derived.Test.YtpiabknabfbfhaaGreatDoorProg
import Derived.Conc.FxGenWait
import Derived.Conc.FxGenDone
import Derived.Conc.FxGenLone
import Derived.KernelRfl
import Derived.AtR
import Derived.Test.YtpiabknabfbfhaaGreatDoorFairly11
set_option linter.all false
set_option maxRecDepth 100000
set_option maxHeartbeats 8000000
namespace Go.Qw
open Go Go.Proofs.Tryz
section
open Go.Conc
def zZ(ops:Array Oper):Nat->Array Bool->List (List Nat)
 |0,_=>[[]]
 |fuel+1,listed=>match Region.ready .any ops listed with
  |[]=>[[]]
  |rs=>rs.flatMap λi=>(zZ ops fuel (listed.setIfInBounds i true)).map (i::·)
def PZ(ops:Array Oper):∀(fuel t:Nat) (listed:Array Bool),Region.linearise.go .any ops fuel t listed []∈zZ ops fuel listed:=by
 intro fuel
 induction fuel with
 |zero=>intro t listed;simp[Region.linearise.go,zZ]
 |succ fuel ih=>
  intro t listed;simp only[Region.linearise.go,zZ]
  change (match(Region.ready .any ops listed)[t %(Region.ready .any ops listed).length]? with
   |some i=>Region.linearise.go .any ops fuel (t/(Region.ready .any ops listed).length) (listed.setIfInBounds i true) [i]
   |none=>[].reverse)∈_
  cases hr:Region.ready .any ops listed with
  |nil=>simp
  |cons x xs=>
   have bj:t %(x::xs).length<(x::xs).length:=Nat.mod_lt _ al;rw[List.getElem?_eq_getElem bj];simp only[];rw[linearise_go_acc,List.reverse_singleton,List.singleton_append];exact List.mem_flatMap.2 ⟨_,List.getElem_mem bj,List.mem_map.2 ⟨_,ih _ _,rfl⟩⟩
def endsIn(ops:Array Oper)(m:Nat):Bool:=(zZ ops ops.size (Array.replicate ops.size false)).all λl=>l.getLast?==some m&&l.dropLast.all (·!=m)
variable {P:Program}{ops:Array Oper}{m:Nat}
def anA(hm:P.follows .mixedOrders=true)(h:endsIn ops m=true)(t:Nat):∃p,Region.schedule (P.follows .mixedOrders) ops t=p++[m]/\∀i∈p,i≠m:=by
 have:=PZ ops ops.size t (Array.replicate ops.size false);simp only[Region.schedule,hm,Bool.true_or,if_true,Region.linearise];generalize Region.linearise.go .any ops ops.size t (Array.replicate ops.size false) []=l at this;unfold endsIn at h;rw[List.all_eq_true]at h;have h:=h l this;simp only[Bool.and_eq_true,beq_iff_eq,List.all_eq_true,bne_iff_ne,ne_eq]at h;refine⟨l.dropLast,?_,h.2⟩;have aE:l≠[]:=by intro e;subst e;simp at h
 rw[List.getLast?_eq_some_getLast aE,Option.some.injEq]at h;rw[<-h.1];exact(List.dropLast_concat_getLast aE).symm
def gG(ops:Array Oper)(m:Nat):Array Oper:=ops.modify m λo=>{o with op:=.move (.const undef)}
def SM(ops:Array Oper)(m:Nat):(gG ops m).size=ops.size:=by simp[gG]
variable {i:Nat}
def GV(h:i≠m):(gG ops m)[i]? =ops[i]? :=by simp[gG,Array.getElem?_modify,Ne.symm h]
def ajb(ops:Array Oper)(m i:Nat):((gG ops m)[i]?).map (·.after)=(ops[i]?).map (·.after):=by
 by_cases h:i=m
 ·subst h;simp[gG,Array.getElem?_modify];cases ops[i]? <;>rfl
 ·rw[GV h]
def ajc(ops:Array Oper)(m i:Nat):fT (gG ops m) i=fT ops i:=by
 unfold fT;by_cases h:i=m
 ·subst h;simp[gG,Array.getElem?_modify];cases ops[i]? <;>rfl
 ·rw[GV h]
def aje(ops:Array Oper)(m:Nat)(listed:Array Bool):Region.ready .any (gG ops m) listed=Region.ready .any ops listed:=by
 unfold Region.ready;rw[SM];congr 1
 funext i
 have:=ajb ops m i
 cases h1:(gG ops m)[i]? <;>cases h2:ops[i]? <;>rw[h1,h2]at this<;>first|cases this|simp_all
def ajd(ops:Array Oper)(m:Nat):∀(fuel t:Nat) (listed:Array Bool) (acc:List Nat),Region.linearise.go .any (gG ops m) fuel t listed acc=Region.linearise.go .any ops fuel t listed acc:=by
 intro fuel
 induction fuel with
 |zero=>intro t listed acc;rfl
 |succ fuel ih=>
  intro t listed acc;simp only[Region.linearise.go]
  change (match(Region.ready .any (gG ops m) listed)[t %(Region.ready .any (gG ops m) listed).length]? with
   |some i=>Region.linearise.go .any (gG ops m) fuel (t/(Region.ready .any (gG ops m) listed).length) (listed.setIfInBounds i true) (i::acc)
   |none=>acc.reverse)=(match(Region.ready .any ops listed)[t %(Region.ready .any ops listed).length]? with
   |some i=>Region.linearise.go .any ops fuel (t/(Region.ready .any ops listed).length) (listed.setIfInBounds i true) (i::acc)
   |none=>acc.reverse)
  rw[aje];split
  ·exact ih _ _ _
  ·rfl
def ajf(hm:P.follows .mixedOrders=true)(ops:Array Oper)(m t:Nat):Region.schedule (P.follows .mixedOrders) (gG ops m) t=Region.schedule (P.follows .mixedOrders) ops t:=by simp only[Region.schedule,hm,Bool.true_or,if_true,Region.linearise,SM];exact ajd ops m _ _ _ _
def wA(P:Program)(N:Nat)(ops:Array Oper)(κ:Hp)(Q:av->Prop):List Nat->av->Prop
 |[],ρ=>Q ρ
 |i::rest,ρ=>match ops[i]? with
  |some o=>oX N o.dst=true/\o.guard=none/\BE P o.op ρ/\∃v,cR P o.op ρ κ=some v/\wA P N ops κ Q rest (aB ρ o.dst v)
  |none=>False
variable {N:Nat}{κ:Hp}{E:Env P}{ds:List Deferred}
def an0{Q:Post}:∀(p:List Nat),(∀i∈p,i≠m)->(∀i o,i≠m->ops[i]? =some o->A5 o.op=true/\DV P o.op=true/\o.guard=none)->∀(ρ:av),ml E N (gG ops m) Q (p++[m]) ρ ds κ->
 wA P N ops κ (λρ=>Q .normal (aB ρ (fT ops m) undef) ds κ) p ρ:=by
 intro p
 induction p with
 |nil=>
  intro _ _ ρ h;simp only[List.nil_append,ml,lP]at h;simp only[wA]
  cases ho:(gG ops m)[m]? with
  |none=>rw[ho]at h;exact h.elim
  |some o=>
   rw[ho]at h
   have hd:o.dst=fT ops m:=by have:=ajc ops m m;unfold fT at this|-;rw[ho]at this;exact this
   obtain⟨o',tN,rfl⟩:∃o',ops[m]? =some o'/\o={o' with op:=.move (.const undef)}:=by simp only[gG,Array.getElem?_modify]at ho;obtain⟨o',h1,h2⟩:=Option.map_eq_some_iff.1 ho;exact⟨o',h1,h2.symm⟩
   obtain⟨_,h⟩:=h;rw[<-hd];split at h
   ·simp only[cT,if_true,cR,ak]at h;obtain⟨v,hv,h⟩:=h
    cases hv;exact h
   ·exact h
 |cons i p ih=>
  intro hp hk ρ h;have yQ:=hp i al;rw[List.cons_append]at h;simp only[ml,lP]at h;rw[GV yQ]at h;simp only[wA]
  cases ho:ops[i]? with
  |none=>rw[ho]at h;exact h.elim
  |some o=>
   rw[ho]at h;obtain⟨J6,Da,hg⟩:=hk i o yQ ho;obtain⟨hd,h⟩:=h;rw[if_pos (by simp[Region.wanted,hg]),if_pos (by cases aS:o.op<;>rw[aS]at J6<;>first|rfl|(simp[A5]at J6;done))]at h;obtain⟨v,hv,h⟩:=h;exact⟨hd,hg,anW J6 Da hv,v,hv,ih (λj hj=>hp j (List.mem_cons_of_mem _ hj)) hk _ h⟩
variable {main:Bool}{b:Frame}{k:List Item}{cs:List Frame}{rest:List Nat}{a:Act}{ρ:av}{v:Value}
def Mh{o:Oper}(ho:ops[i]? =some o)(hg:o.guard=none)(hs:BE P o.op ρ)(hv:cR P o.op ρ κ=some v)(hk:b.kind≠.early)(ha:cJ N a ρ ds)(w:World)(hw:∀b o,κ.f b=some o->w.heap[b]? =some o):
 ∃es,stepG P main (G (b.at a (.inRegion ops (i::rest)::k)) cs) w=.go (G (b.at (a.put o.dst v) (.inRegion ops rest::k)) cs) w es/\∀e∈es,∃x:Addr,e=⟨.cell x,false,false⟩/\El o.op ρ x/\(κ.f x.block).isSome=true:=by
 obtain⟨es,h1,h2⟩:=an2 hs hv w hw;rw[<-ha.eval]at h1;have eV:(b.at a (.inRegion ops (i::rest)::k)).finish v=b.at (a.put o.dst v) (.inRegion ops rest::k):=by rw[Frame.finish_at,ho];rfl
 have nP:(b.kind==CallKind.early)=false:=aZ hk;refine⟨seen P b.fn es,?_,λe he=>h2 e (mem_seen he)⟩;rw[stepG_oper ho (by simp[Region.wanted,hg])];rw[<-eV];simp[stepG.apply,-Sem.runT_eq,h1,G,Frame.at,nP,GStep.after]
def dH(P:Program)(N:Nat)(ops:Array Oper)(Fam:Hp->Prop)(Ok:Addr->Prop)(Q:av->Prop):List Nat->av->Prop
 |[],ρ=>Q ρ
 |i::rest,ρ=>match ops[i]? with
  |some o=>oX N o.dst=true/\o.guard=none/\BE P o.op ρ/\(∀y,El o.op ρ y->Ok y)/\∃v,(∀κ,Fam κ->cR P o.op ρ κ=some v)/\dH P N ops Fam Ok Q rest (aB ρ o.dst v)
  |none=>False
variable {K:World->Prop}{Still:Loc->Prop}{s:Seat}{Fam:Hp->Prop}{Ok:Addr->Prop}{Q:av->Prop}{n:Nat}
def EL{B:Nat}(hK:∀w,K w->∃κ,Fam κ/\∀b o,κ.f b=some o->w.heap[b]? =some o)(hS:∀a,Ok a->Still (.cell a)/\a.block<B)(hk:b.kind≠.early)(hn:∀ρ a,cJ N a ρ ds->Q ρ->Way P main K Still B s n (G (b.at a (.inRegion ops rest::k)) cs)):
 ∀(p:List Nat) (ρ:av) (a:Act),dH P N ops Fam Ok Q p ρ->cJ N a ρ ds->Way P main K Still B s (n+p.length) (G (b.at a (.inRegion ops (p++rest)::k)) cs):=by
 intro p
 induction p with
 |nil=>exactλρ a h ha=>hn ρ a ha h
 |cons i p ih=>
  intro ρ a h ha;simp only[dH]at h
  cases ho:ops[i]? with
  |none=>rw[ho]at h;exact h.elim
  |some o=>
   rw[ho]at h;obtain⟨hd,hg,hs,fV,v,hv,h⟩:=h;rw[List.length_cons,<-Nat.add_assoc];refine .inr ⟨rfl,λw hw=>?_⟩;obtain⟨κ,hF,xv⟩:=hK w hw;obtain⟨es,h1,h2⟩:=Mh (main:=main) (k:=k) (cs:=cs) (rest:=p++rest) ho hg hs (hv κ hF) hk ha w xv;rw[List.cons_append,h1];refine⟨atRel_refl w,λe he=>?_,ih _ _ h (ha.put hd v)⟩;obtain⟨x,rfl,hx,_⟩:=h2 e he;exact⟨x,rfl,hS x (fV x hx)⟩
def Way.ctl{B:Nat}{g g':Goroutine}(h:∀w,stepG P main g w=.go g' w)(hr:g.status=.running)(k:Way P main K Still B s n g'):Way P main K Still B s (n+1) g:=
 .inr ⟨hr,λw _=>by rw[h w];exact⟨atRel_refl w,al,k⟩⟩
def Way.region{B:Nat}{id:Nat}(h:Way P main K Still B s n (G (b.at a (.inRegion ops (List.range ops.size)::k)) cs)):
 Way P main K Still B s (n+1) (G (b.at a (.code (.region id ops false)::k)) cs):=Way.ctl (λw=>stepG_region) rfl h
def Way.IK{B:Nat}{id:Nat}(h:∀t,Way P main K Still B s n (G (b.at a (.inRegion ops (Region.schedule (P.follows .mixedOrders) ops t)::k)) cs)):Way P main K Still B s (n+1) (G (b.at a (.code (.region id ops true)::k)) cs):=by
 refine .inr ⟨rfl,λw _=>?_⟩
 have:stepG P main (G (b.at a (.code (.region id ops true)::k)) cs) w=.go (G (b.at a (.inRegion ops (Region.schedule (P.follows .mixedOrders) ops (w.tape w.drawn (.order b.fn id)))::k)) cs) {w with drawn:=w.drawn+1}:=by simp[G,stepG,stepG.exec,Frame.at,choose,Sem.run,Question.forced,Question.cut]
 rw[this];exact⟨⟨w.drawn+1,rfl⟩,al,h _⟩
variable {d ty:Nat}{ps:String}{af:Array Edge}{t:TypeId}{x:Operand}{a:Addr}
def o0(ho:ops[i]? =some {dst:=some d,op:=.load t x,type:=ty,pos:=ps,after:=af,guard:=none})(hd:d<N)(hx:ak ρ x=.pointer (some a))(ht:dx P t=false)(hi:dm P t=true)(fV:Ok a)(hv:∀κ,Fam κ->κ.cell? a=some v)(k:dH P N ops Fam Ok Q rest (up ρ d v)):dH P N ops Fam Ok Q (i::rest) ρ:=by
 simp only[dH,ho];refine⟨decide_eq_true hd,trivial,⟨⟨a,hx⟩,ht⟩,λy hy=>?_,v,λκ xv=>?_,k⟩
 ·simp only[El]at hy;rw[hx]at hy;cases hy;exact fV
 ·simp only[cR,hx,hi,if_true,iQ,ht,Bool.false_eq_true,if_false];exact hv κ xv
def uH(ho:ops[i]? =some {dst:=some d,op:=.nilCheck x,type:=ty,pos:=ps,after:=af,guard:=none})(hd:d<N)(hx:ak ρ x=.pointer (some a))(k:dH P N ops Fam Ok Q rest (up ρ d (.pointer (some a)))):dH P N ops Fam Ok Q (i::rest) ρ:=by
 simp only[dH,ho];exact⟨decide_eq_true hd,trivial,.inl ⟨a,hx⟩,λy hy=>hy.elim,_,λκ xv=>by simp only[cR,hx],k⟩
def uG{s f:Nat}{off:Nat}(ho:ops[i]? =some {dst:=some d,op:=.fieldAddr s x f,type:=ty,pos:=ps,after:=af,guard:=none})(hd:d<N)(hx:ak ρ x=.pointer (some a))(hf:bH P s f=some off)(k:dH P N ops Fam Ok Q rest (up ρ d (.pointer (some (a.add off))))):dH P N ops Fam Ok Q (i::rest) ρ:=by
 simp only[dH,ho];exact⟨decide_eq_true hd,trivial,⟨⟨a,hx⟩,by rw[hf];rfl⟩,λy hy=>hy.elim,_,λκ xv=>by simp only[cR,hx,hf],k⟩
def Et{bo:BinOp}{y:Operand}{t2:TypeId}(ho:ops[i]? =some {dst:=some d,op:=.binOp bo t x y t2,type:=ty,pos:=ps,after:=af,guard:=none})(hd:d<N)(hv:cG bo (ak ρ x) (ak ρ y)=some v)(k:dH P N ops Fam Ok Q rest (up ρ d v)):dH P N ops Fam Ok Q (i::rest) ρ:=by
 simp only[dH,ho];exact⟨decide_eq_true hd,trivial,⟨v,hv⟩,λy hy=>hy.elim,v,λκ xv=>by simp only[cR,hv],k⟩
def Hn(ho:ops[i]? =some {dst:=some d,op:=.move x,type:=ty,pos:=ps,after:=af,guard:=none})(hd:d<N)(k:dH P N ops Fam Ok Q rest (up ρ d (ak ρ x))):dH P N ops Fam Ok Q (i::rest) ρ:=by
 simp only[dH,ho];exact⟨decide_eq_true hd,trivial,trivial,λy hy=>hy.elim,_,λκ xv=>by simp only[cR],k⟩
def anX{j:Nat}{vs:Array Value}(ho:ops[i]? =some {dst:=some d,op:=.extract x j,type:=ty,pos:=ps,after:=af,guard:=none})(hd:d<N)(hx:ak ρ x=.tuple vs)(hv:vs[j]? =some v)(k:dH P N ops Fam Ok Q rest (up ρ d v)):dH P N ops Fam Ok Q (i::rest) ρ:=by
 simp only[dH,ho];exact⟨decide_eq_true hd,trivial,trivial,λy hy=>hy.elim,_,λκ xv=>by simp only[cR,hx,hv],k⟩
def left(ops:Array Oper)(listed:Array Bool):List Nat:=(List.range ops.size).filter λi=> !listed.getD i true
def aim{listed:Array Bool}(hs:listed.size=ops.size)(hi:i∈left ops listed):(left ops (listed.setIfInBounds i true)).length<(left ops listed).length:=by
 have e:left ops (listed.setIfInBounds i true)=(left ops listed).filter λj=>j !=i:=by
  simp only[left,List.filter_filter];apply List.filter_congr;intro j hj;simp only[List.mem_range]at hj;by_cases h:j=i
  ·subst h;simp[Array.getD_eq_getD_getElem?,Array.getElem?_setIfInBounds_self_of_lt (by omega:j<listed.size)]
  ·simp[Array.getD_eq_getD_getElem?,Array.getElem?_setIfInBounds_ne (Ne.symm h),h]
 rw[e,List.length_filter_lt_length_iff_exists];exact⟨i,hi,al⟩
variable {Q:Post}
def ap7{I:(Nat->Bool)->av->List Deferred->Hp->Prop}{σ:Hp}(hm:P.follows .mixedOrders=true)(Db:∀(i:Nat) (o:Oper),ops[i]? =some o->∀e∈o.after,e.on<i)(gz:∀(L:Nat->Bool) (i:Nat) (o:Oper) (ρ:av) (ds:List Deferred) (σ:Hp) (K:av->List Deferred->Hp->Prop),ops[i]? =some o->L i=false->(∀e∈o.after,Region.binds .any e=true->L e.on=true)->I L ρ ds σ->
  (∀aD cX ae,I (λj=>L j||j==i) aD cX ae->K aD cX ae)->lP E N ops Q i K ρ ds σ)(yM:∀(L:Nat->Bool) ρ ds σ,(∀i,i<ops.size->L i=true)->I L ρ ds σ->Q .normal ρ ds σ)(h0:I (λ_=>false) ρ ds σ)(t:Nat):ml E N ops Q (Region.schedule (P.follows .mixedOrders) ops t) ρ ds σ:=by
 simp only[Region.schedule,hm,Bool.true_or,if_true,Region.linearise]
 have key:∀(fuel t:Nat) (listed:Array Bool) (ρ:av) (ds:List Deferred) (σ:Hp),listed.size=ops.size->(left ops listed).length<=fuel->I (λj=>listed.getD j false) ρ ds σ->ml E N ops Q (Region.linearise.go .any ops fuel t listed []) ρ ds σ:=by
  intro fuel
  induction fuel with
  |zero=>
   intro t listed ρ ds σ hs hl hI;simp only[Region.linearise.go,List.reverse_nil,ml];refine yM _ _ _ _ (λi hi=>?_) hI;have:left ops listed=[]:=aZ hl;have hn:i∉left ops listed:=by rw[this];simp
   simp only[left,List.mem_filter,List.mem_range,not_and,Bool.not_eq_true',Bool.not_eq_false]at hn;have:=hn hi;simpa[Array.getD_eq_getD_getElem?,Array.getElem?_eq_getElem (by omega:i<listed.size)]using this
  |succ fuel ih=>
   intro t listed ρ ds σ hs hl hI;simp only[Region.linearise.go]
   change ml E N ops Q (match(Region.ready .any ops listed)[t %(Region.ready .any ops listed).length]? with
    |some i=>Region.linearise.go .any ops fuel (t/(Region.ready .any ops listed).length) (listed.setIfInBounds i true) [i]
    |none=>[].reverse) ρ ds σ
   have pJ:∀i,i∈Region.ready .any ops listed↔i<ops.size/\listed.getD i true=false/\∃o,ops[i]? =some o/\∀e∈o.after,Region.binds .any e=true->listed.getD e.on false=true:=by
    intro i;simp only[Region.ready,List.mem_filter,List.mem_range,Bool.and_eq_true,Bool.not_eq_true'];constructor
    ·rintro⟨h1,h2,h3⟩;refine⟨h1,h2,ops[i],Array.getElem?_eq_getElem h1,λe he hb=>?_⟩;rw[Array.getElem?_eq_getElem h1]at h3;simp only[Option.map_some,Option.getD_some,Array.all_eq_true_iff_forall_mem,Bool.or_eq_true,Bool.not_eq_true']at h3;rcases h3 e he with h|h
     ·rw[hb]at h;cases h
     ·exact h
    ·rintro⟨h1,h2,o,ho,h3⟩;refine⟨h1,h2,?_⟩;rw[ho];simp only[Option.map_some,Option.getD_some,Array.all_eq_true_iff_forall_mem,Bool.or_eq_true,Bool.not_eq_true'];intro e he
     cases hb:Region.binds .any e with
     |false=>exact .inl rfl
     |true=>exact .inr (h3 e he hb)
   cases hr:Region.ready .any ops listed with
   |nil=>
    simp only[List.length_nil,List.getElem?_nil,List.reverse_nil,ml];refine yM _ _ _ _ (λi=>?_) hI
    induction i using Nat.strongRecOn with
    |_ i ihi=>
     intro hi
     cases hgi:listed.getD i false with
     |true=>rfl
     |false=>
      have:i∈Region.ready .any ops listed:=by
       refine(pJ i).2 ⟨hi,?_,ops[i],Array.getElem?_eq_getElem hi,λe he hb=>?_⟩
       ·simpa[Array.getD_eq_getD_getElem?,Array.getElem?_eq_getElem (by omega:i<listed.size)]using hgi
       ·have:=Db i _ (Array.getElem?_eq_getElem hi) e he;exact ihi e.on this aa
      rw[hr]at this;cases this
   |cons x xs=>
    have bj:t %(x::xs).length<(x::xs).length:=Nat.mod_lt _ al;rw[List.getElem?_eq_getElem bj];simp only[];rw[linearise_go_acc,List.reverse_singleton,List.singleton_append];have xf:(x::xs)[t %(x::xs).length]∈Region.ready .any ops listed:=by rw[hr];exact List.getElem_mem bj
    generalize(x::xs)[t %(x::xs).length]=i at xf|-;obtain⟨h1,h2,o,ho,h3⟩:=(pJ i).1 xf;have tH:i∈left ops listed:=by simp only[left,List.mem_filter,List.mem_range,Bool.not_eq_true'];exact⟨h1,h2⟩
    have hf:listed.getD i false=false:=by simpa[Array.getD_eq_getD_getElem?,Array.getElem?_eq_getElem (by omega:i<listed.size)]using h2
    refine gz (λj=>listed.getD j false) i o ρ ds σ _ ho hf h3 hI λaD cX ae Cx=>ih _ _ _ _ _ (aZ hs) (by have:=aim hs tH;omega) ?_
    have e:(λj=>(listed.setIfInBounds i true).getD j false)=λj=>listed.getD j false||j==i:=by
     funext j
     by_cases h:j=i
     ·subst h;simp[Array.getD_eq_getD_getElem?,Array.getElem?_setIfInBounds_self_of_lt (by omega:j<listed.size)]
     ·simp[Array.getD_eq_getD_getElem?,Array.getElem?_setIfInBounds_ne (Ne.symm h),h]
    rw[e];exact Cx
 refine key _ _ _ _ _ _ al (by exact Nat.le_trans (List.length_filter_le _ _) al) ?_
 have e:(λj=>(Array.replicate ops.size false).getD j false)=λ_=>false:=by
  funext j
  rw[Array.getD_eq_getD_getElem?,Array.getElem?_replicate];split<;>rfl
 rw[e];exact h0
end
section
open Go.Proofs
abbrev pb:Go.Conc.Lib.WgLink:={add:=55,done:=57,wait:=60,relMerge:=91,disable:=92,enable:=93,inBubble:=94,associate:=95,fatal:=96,uOr:=97,uAdd:=98,raceRead:=99,uLoad:=100,uStore:=101,disassociate:=102,semrelease:=103,acquire:=108,isAssociated:=109,uCas:=110,raceWrite:=111,semacquire:=112,orU64:=143,addU64:=144,loadU64:=145,storeU64:=146,casU64:=152,tWgP:=197,tUP:=137,tAssoc:=199,tWg:=131,tAU:=128,tU64:=126,tUint:=68,tU32:=129,tPU32:=202,tPAU:=282,tPU64:=284,tNoCopy:=123,tANoCopy:=124,tAlign64:=125}
def HD:Go.Conc.Lib.WgLib prog pb:=
 ⟨func55,func57,func60,func91,func92,func93,func94,func95,func96,func97,func98,func99,func100,func101,func102,func103,func108,func109,func110,func111,func112,func143,func144,func145,func146,func152,underlying197,runUnderlying197,sizeOf197,isAgg197,zeroValue197,underlying137,runUnderlying137,sizeOf137,isAgg137,zeroValue137,underlying199,runUnderlying199,sizeOf199,isAgg199,zeroValue199,underlying131,runUnderlying131,sizeOf131,isAgg131,zeroValue131,underlying128,runUnderlying128,sizeOf128,isAgg128,zeroValue128,underlying126,runUnderlying126,sizeOf126,isAgg126,zeroValue126,underlying68,runUnderlying68,sizeOf68,isAgg68,zeroValue68,underlying129,runUnderlying129,sizeOf129,isAgg129,zeroValue129,underlying202,runUnderlying202,sizeOf202,isAgg202,zeroValue202,underlying282,runUnderlying282,sizeOf282,isAgg282,zeroValue282,underlying284,runUnderlying284,sizeOf284,isAgg284,zeroValue284,underlying0,runUnderlying0,sizeOf0,isAgg0,zeroValue0,underlying3,runUnderlying3,sizeOf3,isAgg3,zeroValue3,underlying4,runUnderlying4,sizeOf4,isAgg4,zeroValue4,underlying9,runUnderlying9,sizeOf9,isAgg9,zeroValue9,underlying20,runUnderlying20,sizeOf20,isAgg20,zeroValue20,underlying21,runUnderlying21,sizeOf21,isAgg21,zeroValue21,ah,ah⟩
end
section
open Go.Conc
variable {P:Program}{E:Env P}{N:Nat}{ops:Array Oper}
def xV{Q:Post}(b:Frame)(hb:b.kind≠.early)(k:List Item)(cs:List Frame)(tl:List Nat)(hQ:∀ch ρ ds σ,¬Q (.panic ch) ρ ds σ)(l:List Nat):
 ∀(ρ:av) (ds:List Deferred) (σ:Hp) (a:Act),iY E N ops Q (l.filterMap (ops[·]?)) ρ ds σ->cJ N a ρ ds->ax E (G (b.at a (.inRegion ops (l++tl)::k)) cs) σ (λg ae=>∃aD cX a',cJ N a' aD cX/\Q .normal aD cX ae/\g=G (b.at a' (.inRegion ops tl::k)) cs):=by
 induction l with
 |nil=>
  intro ρ ds σ a h ha;exact ax.here ⟨ρ,ds,a,ha,h,rfl⟩
 |cons i rest ih=>
  intro ρ ds σ a h ha
  cases ho:ops[i]? with
  |none=>
   rw[List.filterMap_cons_none ho]at h;have jg:((ops[i]?).map (Region.wanted · (yielded ops a.tmps))).getD false=false:=by rw[ho];rfl
   have eV:(b.at a (.inRegion ops (i::(rest++tl))::k)).finish undef=b.at a (.inRegion ops (rest++tl)::k):=by rw[Frame.finish_at,ho];rfl
   refine ax.ctl (g':=G (b.at a (.inRegion ops (rest++tl)::k)) cs) (λw=>?_) rfl rfl (ih _ _ _ _ h ha);rw[<-eV];simp only[Frame.at]at*;simp[G,stepG,stepG.exec,jg]
  |some o=>
   rw[List.filterMap_cons_some ho]at h;simp only[iY]at h;obtain⟨hd,h⟩:=h;by_cases hw:Region.wanted o (gK N ops ρ)=true
   ·rw[if_pos hw]at h;have jg:Region.wanted o (yielded ops a.tmps)=true:=by rw[ha.xX];exact hw
    have h:=rK h;unfold wpOp at h;rw[<-ha.eval]at h;refine ax.step rfl (Mq (P:=P) (main:=E.main) (b:=b) (k:=k) (cs:=cs) (rest:=rest++tl) ho jg hb h) ?_;rintro g ae (⟨v,hv,rfl⟩|⟨d,sx,rfl⟩|⟨f,args,hc,rfl⟩|⟨v,hp,rfl⟩)
    ·exact ih _ _ _ _ hv (ha.put hd v)
    ·exact ih _ _ _ _ sx ((ha.defer d).put hd undef)
    ·refine ay.run hc ?_ ?_
     ·intro v fZ hv;have eV:(b.at a (.inRegion ops (i::(rest++tl))::k)).finish v=b.at (a.put o.dst v) (.inRegion ops (rest++tl)::k):=by rw[Frame.finish_at,ho];rfl
      rw[eV];exact ih _ _ _ _ hv (ha.put hd v)
     ·intro ch fZ hp;exact absurd hp (hQ _ _ _ _)
    ·exact absurd hp (hQ _ _ _ _)
   ·rw[if_neg hw]at h;have jg:((ops[i]?).map (Region.wanted · (yielded ops a.tmps))).getD false=false:=by rw[ho,ha.xX];simpa using hw
    have eV:(b.at a (.inRegion ops (i::(rest++tl))::k)).finish undef=b.at (a.put o.dst undef) (.inRegion ops (rest++tl)::k):=by rw[Frame.finish_at,ho];rfl
    refine ax.ctl (g':=G (b.at (a.put o.dst undef) (.inRegion ops (rest++tl)::k)) cs) (λw=>?_) rfl rfl (ih _ _ _ _ h (ha.put hd undef));rw[<-eV];simp only[Frame.at]at*;simp[G,stepG,stepG.exec,jg]
def jO(X:av->List Deferred->Hp->Prop):Post
 | .normal,ρ,ds,σ=>X ρ ds σ
 |_,_,_,_=>False
variable {X:av->List Deferred->Hp->Prop}
def xJ:∀ch ρ ds σ,¬jO X (.panic ch) ρ ds σ:=λ_ _ _ _ h=>h
variable {c:Code}{σ:Hp}{b:Frame}{k:List Item}{cs:List Frame}{a:Act}
def np{ρ:av}{ds:List Deferred}(h:cK E N c (jO X) ρ ds σ)(hb:b.kind≠.early)(ha:cJ N a ρ ds):
 ax E (G (b.at a (.code c::k)) cs) σ λg ae=>∃aD cX a',cJ N a' aD cX/\X aD cX ae/\g=G (b.at a' k) cs:=by
 refine(HF c _ _ _ _ h b k cs a hb ha).mono ?_;rintro g ae ⟨e,aD,cX,a',dD,hq,AE⟩
 cases e<;>first|exact hq.elim|skip
 obtain rfl:=AE;exact⟨aD,cX,a',dD,hq,rfl⟩
def GI:Op->Bool
 | .defer _=>true
 |_=>false
variable {main:Bool}{w:World}
def aoq{id:Nat}:stepG P main (G (b.atR a (.inBlock id::k)) cs) w=.go (G (b.atR a k) cs) w:=by simp[G,stepG,stepG.exec,Frame.atR]
def aop{id:Nat}:stepG P main (G (b.atR a (.code (.block id c)::k)) cs) w=.go (G (b.atR a (.code c:: .inBlock id::k)) cs) w:=by simp[G,stepG,stepG.exec,Frame.atR]
def UD{id:Nat}:stepG P main (G (b.atR a (.code (.region id ops false)::k)) cs) w=.go (G (b.atR a (.inRegion ops (List.range ops.size)::k)) cs) w:=by simp[G,stepG,stepG.exec,Frame.atR]
def aos:stepG P main (G (b.atR a (.inRegion ops []::k)) cs) w=.go (G (b.atR a k) cs) w:=by simp[G,stepG,stepG.exec,Frame.atR]
variable {i:Nat}{rest:List Nat}{o:Oper}
def aor(ho:ops[i]? =some o)(hw:Region.wanted o (yielded ops a.tmps)=true)(hd:GI o.op=false):
 stepG P main (G (b.atR a (.inRegion ops (i::rest)::k)) cs) w=stepG.apply P true (b.atR a (.inRegion ops (i::rest)::k)) cs none (execOp a.eval o) w:=by
 have he:=Frame.eval_atR b a (.inRegion ops (i::rest)::k);simp only[Frame.atR]at he
 cases hr:b.roundOf with
 |none=>simp[G,stepG,stepG.exec,stepG.oper,Frame.oper?,Frame.atR,ho,hw,hr];rw[hr]at he;rw[he]
 |some l=>
  rw[hr]at he;simp only[G,stepG,stepG.exec,stepG.oper,Frame.oper?,Frame.atR,ho,hw,hr,Option.map_some,Option.getD_some,if_true,he]
  cases aS:o.op<;>first|rfl|(rw[aS]at hd;cases hd)
def aoB(ho:ops[i]? =some o)(hw:Region.wanted o (yielded ops a.tmps)=true)(hd:GI o.op=false)(hk:b.kind≠.early){V:Value->Hp->Prop}{D:Deferred->Hp->Prop}{C:FuncId->Array Value->Hp->Prop}(h:wpS P (execOp a.eval o) (pd V D C) (rP λ_ _=>False) σ):
 gM P main (G (b.atR a (.inRegion ops (i::rest)::k)) cs) σ λg ae=>
  (∃v,V v ae/\g=G (b.atR (a.put o.dst v) (.inRegion ops rest::k)) cs)\/
  (∃d,D d ae/\g=G (b.atR ({a with defers:=d::a.defers}.put o.dst undef) (.inRegion ops rest::k)) cs)\/
  (∃f args,C f args ae/\g=G (Frame.enter P f args .normal) (b.atR a (.inRegion ops (i::rest)::k)::cs)):=by
 intro J w hs
 have eV:∀v,(b.atR a (.inRegion ops (i::rest)::k)).finish v=b.atR (a.put o.dst v) (.inRegion ops rest::k):=by intro v;rw[Frame.finish_atR,ho];rfl
 have nP:(b.kind==CallKind.early)=false:=aZ hk;obtain⟨w',ae,bX,e1,cQ,dX,fU,hr⟩:=om (execOp a.eval o) w σ #[] h hs;have gm:((execOp a.eval o).runT P w #[]).2=bX:=by simpa using e1
 rw[aor ho hw hd];have ix:∀e∈seen P b.fn bX,im J w'.heap.size e:=λe he=>fU e (mem_seen he);rcases hr with⟨nx,hn,hq⟩|⟨hh,hn,hq⟩
 ·have e2:(execOp a.eval o).runT P w #[]=(.ok nx w',bX):=Prod.ext hn gm
  cases nx<;>first|exact hq.elim|skip
  ·rename_i v
   have:stepG.apply P true (b.atR a (.inRegion ops (i::rest)::k)) cs none (execOp a.eval o) w=.go (G (b.atR (a.put o.dst v) (.inRegion ops rest::k)) cs) w' (seen P b.fn bX):=by rw[<-eV];simp[stepG.apply,-Sem.runT_eq,e2,G,Frame.atR,nP,GStep.after]
   rw[this];exact⟨ae,cQ,dX,ix,rfl,.inl ⟨v,hq,rfl⟩⟩
  ·have:stepG.apply P true (b.atR a (.inRegion ops (i::rest)::k)) cs none (execOp a.eval o) w=.go (G (b.atR (a.put o.dst undef) (.inRegion ops rest::k)) cs) w' (seen P b.fn bX):=by rw[<-eV];simp[stepG.apply,-Sem.runT_eq,e2,G,Frame.atR,nP,GStep.after]
   rw[this];exact⟨ae,cQ,dX,ix,rfl,.inl ⟨undef,hq,rfl⟩⟩
  ·rename_i f args
   have:stepG.apply P true (b.atR a (.inRegion ops (i::rest)::k)) cs none (execOp a.eval o) w=.go (G (Frame.enter P f args .normal) (b.atR a (.inRegion ops (i::rest)::k)::cs)) w' (seen P b.fn bX):=by simp[stepG.apply,-Sem.runT_eq,e2,G,Frame.atR,nP,GStep.after]
   rw[this];exact⟨ae,cQ,dX,ix,rfl,.inr (.inr ⟨f,args,hq,rfl⟩)⟩
  ·rename_i d
   have CY:({b.atR a (.inRegion ops (i::rest)::k)with defers:=d::a.defers}:Frame).finish undef=b.atR ({a with defers:=d::a.defers}.put o.dst undef) (.inRegion ops rest::k):=by have:=Frame.finish_atR b {a with defers:=d::a.defers} ops i rest k undef;rw[ho]at this;exact this
   have:stepG.apply P true (b.atR a (.inRegion ops (i::rest)::k)) cs none (execOp a.eval o) w=.go (G (b.atR ({a with defers:=d::a.defers}.put o.dst undef) (.inRegion ops rest::k)) cs) w' (seen P b.fn bX):=by rw[<-CY];simp[stepG.apply,-Sem.runT_eq,e2,G,Frame.atR,nP,GStep.after]
   rw[this];exact⟨ae,cQ,dX,ix,rfl,.inr (.inl ⟨d,hq,rfl⟩)⟩
 ·cases hh<;>exact hq.elim
def U8(hb:b.kind≠.early)(Gj:(ops.toList.all λo=> !GI o.op)=true)(l:List Nat):
 ∀(ρ:av) (ds:List Deferred) (σ:Hp) (a:Act),iY E N ops (jO X) (l.filterMap (ops[·]?)) ρ ds σ->cJ N a ρ ds->
  ax E (G (b.atR a (.inRegion ops l::k)) cs) σ (λg ae=>∃aD cX a',cJ N a' aD cX/\X aD cX ae/\g=G (b.atR a' k) cs):=by
 induction l with
 |nil=>
  intro ρ ds σ a h ha;exact ax.ctl (λw=>aos) rfl rfl (ax.here ⟨ρ,ds,a,ha,h,rfl⟩)
 |cons i rest ih=>
  intro ρ ds σ a h ha
  cases ho:ops[i]? with
  |none=>
   rw[List.filterMap_cons_none ho]at h;have jg:((ops[i]?).map (Region.wanted · (yielded ops a.tmps))).getD false=false:=by rw[ho];rfl
   have eV:(b.atR a (.inRegion ops (i::rest)::k)).finish undef=b.atR a (.inRegion ops rest::k):=by rw[Frame.finish_atR,ho];rfl
   refine ax.ctl (g':=G (b.atR a (.inRegion ops rest::k)) cs) (λw=>?_) rfl rfl (ih _ _ _ _ h ha);rw[<-eV];simp only[Frame.atR]at*;simp[G,stepG,stepG.exec,jg]
  |some o=>
   rw[List.filterMap_cons_some ho]at h;simp only[iY]at h;obtain⟨hd,h⟩:=h;by_cases hw:Region.wanted o (gK N ops ρ)=true
   ·rw[if_pos hw]at h;have jg:Region.wanted o (yielded ops a.tmps)=true:=by rw[ha.xX];exact hw
    have h:=rK h;unfold wpOp at h;rw[<-ha.eval]at h
    have hod:GI o.op=false:=by have:=List.all_eq_true.1 Gj o (by rw[Array.getElem?_eq_some_iff]at ho;obtain⟨h1,rfl⟩:=ho;simp);simpa using this
    have h:wpS P (execOp a.eval o) (pd (λv ae=>iY E N ops (jO X) (rest.filterMap (ops[·]?)) (aB ρ o.dst v) ds ae) (λd ae=>iY E N ops (jO X) (rest.filterMap (ops[·]?)) (aB ρ o.dst undef) (d::ds) ae)
     (λf args ae=>ay E f args ae (xI (λv fZ=>iY E N ops (jO X) (rest.filterMap (ops[·]?)) (aB ρ o.dst v) ds fZ) λ_ _=>False))) (rP λ_ _=>False) σ:=h
    refine ax.step rfl (aoB (P:=P) (main:=E.main) (b:=b) (k:=k) (cs:=cs) (rest:=rest) ho jg hod hb h) ?_;rintro g ae (⟨v,hv,rfl⟩|⟨d,sx,rfl⟩|⟨f,args,hc,rfl⟩)
    ·exact ih _ _ _ _ hv (ha.put hd v)
    ·exact ih _ _ _ _ sx ((ha.defer d).put hd undef)
    ·refine ay.run hc ?_ ?_
     ·intro v fZ hv;have eV:(b.atR a (.inRegion ops (i::rest)::k)).finish v=b.atR (a.put o.dst v) (.inRegion ops rest::k):=by rw[Frame.finish_atR,ho];rfl
      rw[eV];exact ih _ _ _ _ hv (ha.put hd v)
     ·intro ch fZ hp;exact hp.elim
   ·rw[if_neg hw]at h;have jg:((ops[i]?).map (Region.wanted · (yielded ops a.tmps))).getD false=false:=by rw[ho,ha.xX];simpa using hw
    have eV:(b.atR a (.inRegion ops (i::rest)::k)).finish undef=b.atR (a.put o.dst undef) (.inRegion ops rest::k):=by rw[Frame.finish_atR,ho];rfl
    refine ax.ctl (g':=G (b.atR (a.put o.dst undef) (.inRegion ops rest::k)) cs) (λw=>?_) rfl rfl (ih _ _ _ _ h (ha.put hd undef));rw[<-eV];simp only[Frame.atR]at*;simp[G,stepG,stepG.exec,jg]
variable {l:Nat}{r:Loop}
def UE{dst:Option Tmp}{t x:Operand}{cg:Array TypeId}{ty:TypeId}{pos:String}{af:Array Edge}{gd:Option (Nat×Bool)}{p:Tmp}(ho:ops[i]? =some ⟨dst,.call ⟨.value t,#[x],cg⟩,ty,pos,af,gd⟩)(hw:Region.wanted ⟨dst,.call ⟨.value t,#[x],cg⟩,ty,pos,af,gd⟩ (yielded ops a.tmps)=true)(ht:a.eval t=.func (.yield l) #[] #[])(hl:σ.f l=some (.loop r))(hp:r.params= #[p]):
 gM P main (G (b.at a (.inRegion ops (i::rest)::k)) cs) σ λg ae=>ae=σ/\
  g=G (Frame.round l r.fn (r.tmps.setIfInBounds p (a.eval x)) r.assign r.body .normal) (b.at a (.inRegion ops (i::rest)::k)::cs):=by
 intro J w hs
 have h:wpS P (execOp a.eval ⟨dst,.call ⟨.value t,#[x],cg⟩,ty,pos,af,gd⟩) (λn ae=>n=.round l r.fn (r.tmps.setIfInBounds p (a.eval x)) r.assign r.body/\ae=σ) (λ_ _=>False) σ:=by simp only[execOp,resolve,Deferred.ofValue,ht,aH,bq,invoke,Instr.yield,Instr.getLoop,oj];refine⟨_,hl,rfl,?_⟩;simp only[bq,hp];simp[bq]
 obtain⟨w',ae,bX,e1,cQ,dX,fU,hr⟩:=om _ w σ #[] h hs;have gm:((execOp a.eval ⟨dst,.call ⟨.value t,#[x],cg⟩,ty,pos,af,gd⟩).runT P w #[]).2=bX:=by simpa using e1
 rw[stepG_oper ho hw];have ix:∀fn,∀e∈seen P fn bX,im J w'.heap.size e:=λfn e he=>fU e (mem_seen he);rcases hr with⟨nx,hn,hq,rfl⟩|⟨hh,hn,hq⟩
 ·subst hq;have e2:(execOp a.eval ⟨dst,.call ⟨.value t,#[x],cg⟩,ty,pos,af,gd⟩).runT P w #[]=(_,bX):=Prod.ext hn gm;generalize execOp a.eval _=s at e2|-;unfold stepG.apply;simp only[if_true,e2,G,GStep.after];refine⟨_,cQ,dX,λe he=>?_,rfl,rfl,rfl⟩;split at he
  ·simp[seen]at he
  ·simp only[Array.append_empty]at he;exact ix _ e he
 ·exact hq.elim
def wx(l:Nat)(fn:FuncId):Frame:={(default:Frame)with fn,kind:=.normal,roundOf:=some l}
variable {fn:FuncId}{x y:Code}
def ani{tmps:Array Value}:Frame.round l fn tmps x y .normal=(wx l fn).atR ⟨tmps,[]⟩ [.code x,.beginRound,.code y]:=by simp[Frame.round,wx,Frame.atR]
def aov(hl:σ.f l=some (.loop r))(hs:r.state=.ready):
 gM P main (G ((wx l fn).atR a (.beginRound::k)) cs) σ λg ae=>ae=σ.set l (.loop {r with state:=.busy})/\g=G ((wx l fn).atR a k) cs:=by
 intro J w cQ
 have h:wpS P (do (some l).elim (stuck "beginRound: no round") Instr.beginRound;pure Next.skip) (λn ae=>n=.skip/\ae=σ.set l (.loop {r with state:=.busy})) (λ_ _=>False) σ:=by simp only[Option.elim,Instr.beginRound,Instr.getLoop,aH,oj];refine⟨_,hl,rfl,?_⟩;simp only[bq,ta];refine⟨_,hl,rfl,?_⟩;rw[hs];simp[bq]
 obtain⟨w',ae,bX,e1,iw,dX,fU,hr⟩:=om _ w σ #[] h cQ;rcases hr with⟨nx,hn,rfl,rfl⟩|⟨hh,hn,hq⟩
 ·have gm:((do (some l).elim (stuck "beginRound: no round") Instr.beginRound;pure Next.skip:Sem Next).runT P w #[]).2=bX:=by simpa using e1
  have e2:(do (some l).elim (stuck "beginRound: no round") Instr.beginRound;pure Next.skip:Sem Next).runT P w #[]=(_,bX):=Prod.ext hn gm;have ix:∀fn,∀e∈seen P fn bX,im J w'.heap.size e:=λfn e he=>fU e (mem_seen he);simp only[G,Frame.atR,wx,stepG,stepG.exec];generalize Ds:(do (some l).elim (stuck "beginRound: no round") Instr.beginRound;pure Next.skip:Sem Next)=s at e2|-;unfold stepG.apply;simp only[if_true,e2,GStep.after,Frame.finish];refine⟨_,iw,dX,λe he=>?_,rfl,rfl,rfl⟩;split at he
  ·simp[seen]at he
  ·simp only[Array.append_empty]at he;exact ix _ e he
 ·exact hq.elim
def aox{c:Frame}(hl:σ.f l=some (.loop r)):
 gM P main (G ((wx l fn).atR a []) (c::cs)) σ λg ae=>ae=σ.set l (.loop {r with state:=.ready,pending:=none})/\g=G (c.finish (.bool true)) cs:=by
 intro J w cQ
 have h:wpS P (Instr.endRound l none) (λn ae=>n=.bool true/\ae=σ.set l (.loop {r with state:=.ready,pending:=none})) (λ_ _=>False) σ:=by simp only[Instr.endRound,Instr.getLoop,aH,oj];refine⟨_,hl,rfl,?_⟩;simp only[bq,ta];refine⟨_,hl,rfl,?_⟩;simp
 obtain⟨w',ae,bX,e1,iw,dX,fU,hr⟩:=om _ w σ #[] h cQ;rcases hr with⟨nx,hn,rfl,rfl⟩|⟨hh,hn,hq⟩
 ·have gm:((Instr.endRound l none).runT P w #[]).2=bX:=by simpa using e1
  have e2:(Instr.endRound l none).runT P w #[]=(_,bX):=Prod.ext hn gm;have ix:∀fn,∀e∈seen P fn bX,im J w'.heap.size e:=λfn e he=>fU e (mem_seen he);simp only[G,Frame.atR,wx,stepG,stepG.exec];generalize Instr.endRound l none=s at e2|-;simp only[e2,GStep.after,doReturn];exact⟨_,iw,dX,λe he=>ix _ e (aZ he),rfl,rfl,rfl⟩
 ·exact hq.elim
def aoC{f:Operand}{ps:Array Tmp}{fid:FuncId}{cap:Array Value}(hf:a.eval f=.func (.func fid) #[] cap)(hg:cf P fid=true)(hk:b.kind=.normal):
 gM P main (G (b.at a (.code (.rangeFunc f ps x y)::k)) cs) σ λg ae=>∃d l,σ.f d=none/\l≠d/\σ.f l=none/\
  ae=(σ.set d (.deferred (some []))).set l (.loop {state:=.ready,pending:=none,fn:=b.fn,tmps:=a.tmps,params:=ps,assign:=x,body:=y,defers:=d})/\
  g=G (Frame.enter P fid (#[.func (.yield l) #[] #[]]++cap) .normal) (b.at {a with defers:={target:=.collected d,args:=#[]}::a.defers} (.inRangeFunc l::k)::cs):=by
 intro J w cQ
 have h:wpS P (Instr.enterLoop b.fn a.tmps ps x y none) (λn ae=>∃d,n=(n.1,[{target:=.collected d,args:=#[]}])/\σ.f d=none/\n.1≠d/\σ.f n.1=none/\
  ae=(σ.set d (.deferred (some []))).set n.1 (.loop {state:=.ready,pending:=none,fn:=b.fn,tmps:=a.tmps,params:=ps,assign:=x,body:=y,defers:=d})) (λ_ _=>False) σ:=by
  simp only[Instr.enterLoop,aH,xW,bq];intro d hd l hl
  have aE:l≠d:=by intro e;subst e;simp[Hp.set]at hl
  refine⟨d,rfl,hd,aE,?_,rfl⟩;simpa[Hp.set,aE]using hl
 obtain⟨w1,cZ,Pj,e1,jK,iO,AK,hr⟩:=om _ w σ #[] h cQ;rcases hr with⟨⟨l,mk⟩,hn,d,hm,hd,aE,Rj,jX⟩|⟨hh,hn,hq⟩
 ·simp only[Prod.mk.injEq,true_and]at hm aE Rj jX;subst hm;have gm:((Instr.enterLoop b.fn a.tmps ps x y none).runT P w #[]).2=Pj:=by simpa using e1
  have e2:(Instr.enterLoop b.fn a.tmps ps x y none).runT P w #[]=(_,Pj):=Prod.ext hn gm
  have h3:∀ev:Operand->Value,ev f=a.eval f->(∀v,ev (.const v)=v)->wpS P (do let d<-resolve ev {callee:=.value f,args:=#[.const (.func (.yield l) #[] #[])],argTypes:=#[]} 0;invoke d.target d.args)
   (λn ae=>n=.enter fid (#[.func (.yield l) #[] #[]]++cap)/\ae=cZ) (λ_ _=>False) cZ:=by
   intro ev h1 h2;simp only[resolve,Deferred.ofValue,h1,hf,aH,bq,invoke];refine HG hg ?_;simp[h2]
  have jU:∀td ds,({fn:=b.fn,tmps:=a.tmps,todo:=td,defers:=ds,mode:=.run,kind:=b.kind}:Frame).eval=a.eval:=by intro td ds;funext o;cases o<;>rfl
  simp only[G,Frame.at,stepG,stepG.exec];generalize Instr.enterLoop b.fn a.tmps ps x y none=s at e2|-;simp only[e2];have h4:=h3 a.eval rfl (λ_=>rfl);obtain⟨w2,iZ,IQ,e3,iw,gQ,JS,bY⟩:=om _ w1 cZ #[] h4 jK;rcases bY with⟨nx,xm,rfl,sI⟩|⟨_,_,hq⟩
  ·subst sI;have e3':((do let d<-resolve a.eval {callee:=.value f,args:=#[.const (.func (.yield l) #[] #[])],argTypes:=#[]} 0;invoke d.target d.args:Sem Next).runT P w1 #[]).2=IQ:=by simpa using e3
   have e4:(do let d<-resolve a.eval {callee:=.value f,args:=#[.const (.func (.yield l) #[] #[])],argTypes:=#[]} 0;invoke d.target d.args:Sem Next).runT P w1 #[]=(_,IQ):=Prod.ext xm e3';simp only[jU];generalize(do let d<-resolve a.eval {callee:=.value f,args:=#[.const (.func (.yield l) #[] #[])],argTypes:=#[]} 0;invoke d.target d.args:Sem Next)=s2 at e4|-;unfold stepG.apply;simp only[if_true,e4,GStep.after,hk];refine⟨_,iw,iO.trans gQ,λe he=>?_,rfl,d,l,hd,aE,Rj,jX,rfl⟩;rcases Array.mem_append.1 he with he|he
   ·exact(AK e (mem_seen he)).mono gQ.tv
   ·simp only[Array.append_empty]at he;exact JS e (mem_seen he)
  ·exact hq.elim
 ·exact hq.elim
def aow(hl:σ.f l=some (.loop r))(hs:r.state=.ready)(hp:r.pending=none):
 gM P main (G (b.at a (.endRangeFunc l::k)) cs) σ λg ae=>ae=σ.set l (.loop {r with state:=.exhausted})/\g=G (b.at a k) cs:=by
 intro J w cQ
 have h:wpS P (Instr.endLoop l) (λn ae=>n=none/\ae=σ.set l (.loop {r with state:=.exhausted})) (λ_ _=>False) σ:=by simp only[Instr.endLoop,Instr.getLoop,aH,oj];refine⟨_,hl,rfl,?_⟩;simp only[bq,hs];rw[if_neg ai,aH,ta];exact⟨_,hl,rfl,hp,rfl⟩
 obtain⟨w',ae,bX,e1,iw,dX,fU,hr⟩:=om _ w σ #[] h cQ;rcases hr with⟨nx,hn,rfl,rfl⟩|⟨hh,hn,hq⟩
 ·have gm:((Instr.endLoop l).runT P w #[]).2=bX:=by simpa using e1
  have e2:(Instr.endLoop l).runT P w #[]=(_,bX):=Prod.ext hn gm;have ix:∀fn,∀e∈seen P fn bX,im J w'.heap.size e:=λfn e he=>fU e (mem_seen he);simp only[G,Frame.at,stepG,stepG.exec];generalize Instr.endLoop l=s at e2|-;simp only[e2,GStep.after];exact⟨_,iw,dX,λe he=>ix _ e (aZ he),rfl,rfl,rfl⟩
 ·exact hq.elim
def aoA{d:Nat}{fr:Frame}(hd:σ.f d=some (.deferred (some [])))(hm:fr.mode=.returning)(mJ:fr.defers=[{target:=.collected d,args:=#[]}]):
 gM P main (G fr cs) σ λg ae=>ae=σ.set d (.deferred none)/\g=G {fr with defers:=[]} cs:=by
 intro J w cQ
 have h:wpS P (Instr.takeDeferred d) (λn ae=>n=[]/\ae=σ.set d (.deferred none)) (λ_ _=>False) σ:=by simp only[Instr.takeDeferred,aH,oj];refine⟨_,hd,rfl,?_⟩;simp only[bq,aH,ta];exact⟨_,hd,rfl,trivial,trivial⟩
 obtain⟨w',ae,bX,e1,iw,dX,fU,hr⟩:=om _ w σ #[] h cQ;rcases hr with⟨nx,hn,rfl,rfl⟩|⟨hh,hn,hq⟩
 ·have gm:((Instr.takeDeferred d).runT P w #[]).2=bX:=by simpa using e1
  have e2:(Instr.takeDeferred d).runT P w #[]=(_,bX):=Prod.ext hn gm;have ix:∀fn,∀e∈seen P fn bX,im J w'.heap.size e:=λfn e he=>fU e (mem_seen he);simp only[G,stepG,hm,unwind,mJ];generalize Instr.takeDeferred d=s at e2|-;simp only[e2,GStep.after];exact⟨_,iw,dX,λe he=>ix _ e (aZ he),rfl,rfl,rfl⟩
 ·exact hq.elim
end
end Go.Qw
