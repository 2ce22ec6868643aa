/- 6 -/
import Derived.Test.YtpiabknabfbfhaaGreatDoorProg
import Derived.Conc.FxGenWait
import Derived.Conc.FxGenDone
import Derived.Conc.FxGenLone
import Derived.KernelRfl
import Derived.AtR
import Derived.Test.YtpiabknabfbfhaaGreatDoorKept05
set_option linter.all false
set_option maxRecDepth 100000
set_option maxHeartbeats 8000000
namespace Go.Qw
open Go Go.Proofs.Tryz
section
open Go.Conc
variable {α:Type}
def RO(P:Program)(A:Addr->Prop):Sem α->Prop
 | .pure _=>True
 | .load m a k=>m=.plain/\A a/\∀v,RO P A (k v)
 | .shape _ k=>∀x,RO P A (k x)
 | .frozen _ k=>∀x,RO P A (k x)
 | .program k=>RO P A (k P)
 | .halt _=>True
 |_=>False
variable {P:Program}{A:Addr->Prop}{β:Type}
def Wu(f:α->Sem β)(hf:∀a,RO P A (f a)):∀(s:Sem α),RO P A s->RO P A (s.bind f):=by
 intro s
 induction s with
 |pure a=>exactλ_=>hf a
 |load m a k ih=>exactλh=>⟨h.1,h.2.1,λv=>ih v (h.2.2 v)⟩
 |shape r k ih=>exactλh x=>ih x (h x)
 |frozen a k ih=>exactλh x=>ih x (h x)
 |program k ih=>exactλh=>ih P h
 |halt h=>exactλ_=>trivial
 |store|new|freeze|getObj|setObj|choose|sys|mark=>exactλh=>h.elim
def yM{s:Sem α}{f:α->Sem β}(h:RO P A s)(hf:∀a,RO P A (f a)):RO P A (s>>=f):=Wu f hf s h
def Cm(a:α):RO P A (pure a:Sem α):=trivial
def Wv{c:Prop} [Decidable c]{s t:Sem α}(h:RO P A s)(k:RO P A t):RO P A (if c then s else t):=by split;exact h;exact k
variable {H:Halt->Hp->Prop}{U:Hp}
def aol{Q:α->Hp->Prop}:∀(s:Sem α),RO P A s->wpS P s Q H U->∀(w:World) (es:Array Event),(∀b o,U.f b=some o->w.heap[b]? =some o)->
 ∃bY r,s.runT P w es=(r,es++bY)/\(∀e∈bY,∃a:Addr,e=⟨.cell a,false,false⟩/\A a/\(U.f a.block).isSome=true)/\((∃a,r=.ok a w/\Q a U)\/(∃h,r=.halt h w/\H h U)):=by
 intro s
 induction s with
 |pure a=>exactλ_ h w es hs=>⟨#[],.ok a w,by simp[Sem.runT],al,.inl ⟨a,rfl,h⟩⟩
 |load m a k ih=>
  rintro⟨rfl,hA,hr⟩ ⟨v,hv,h⟩ w es hs;have hS:cQ (λ_=>False) w U:=⟨λ{b o} hb=>hs b o hb,λ_ x=>x.elim,λ_ x=>x.elim⟩;have hw:=hS.cell hv;obtain⟨c,e,z,hb,_,_⟩:=AM hv;obtain⟨bY,r,h1,h2,h3⟩:=ih v (hr v) h w (es.push ⟨.cell a,false,false⟩) hs;refine⟨#[⟨.cell a,false,false⟩]++bY,r,?_,λx hx=>?_,h3⟩
  ·unfold Sem.runT;simp only[hw];rw[show(Mode.plain==Mode.atomic)=false from rfl,h1,push_eq_append,Array.append_assoc]
  ·rcases Array.mem_append.1 hx with hx|hx
   ·simp at hx;subst hx;exact⟨a,rfl,hA,by rw[hb];rfl⟩
   ·exact h2 x hx
 |shape r k ih=>
  rintro hr ⟨hv,h⟩ w es hs;have hS:cQ (λ_=>False) w U:=⟨λ{b o} hb=>hs b o hb,λ_ x=>x.elim,λ_ x=>x.elim⟩;obtain⟨o,ho⟩:=Option.isSome_iff_exists.1 hv;unfold Sem.runT;rw[hS.U8 ho];exact ih _ (hr _) h w es hs
 |frozen a k ih=>
  rintro hr ⟨hv,h⟩ w es hs;have hS:cQ (λ_=>False) w U:=⟨λ{b o} hb=>hs b o hb,λ_ x=>x.elim,λ_ x=>x.elim⟩;obtain⟨o,ho⟩:=Option.isSome_iff_exists.1 hv;unfold Sem.runT;rw[hS.JM ho];exact ih _ (hr _) h w es hs
 |program k ih=>exactλhr h w es hs=>ih _ hr h w es hs
 |halt h=>exactλ_ x w es hs=>⟨#[],.halt h w,by simp[Sem.runT],al,.inr ⟨h,rfl,x⟩⟩
 |store|new|freeze|getObj|setObj|choose|sys|mark=>exactλh=>h.elim
def aoj{a:Addr}(h:A a):RO P A (load a):=⟨rfl,h,λ_=>trivial⟩
variable {t:TypeId}
def aok(ht:dC P t=false){a:Addr}(h:A a):RO P A (loadVar t a):=by
 unfold loadVar isAgg;show RO P A (Sem.bind (Sem.bind (match P.underlying t with|some d=>pure d|none=>stuck "no such type") λd=>match d with| .struct _| .array _ _=>pure true|_=>pure false) _);unfold dC at ht;split
 ·rename_i d hd;rw[hd]at ht
  cases d<;>first|(simp at ht;done)|exact aoj h
 ·trivial
def B8(P:Program)(op:Op)(I:av):Prop:=
 match op with
 | .move _| .assign _=>True
 | .load t x=>(∃a,ak I x=.pointer (some a))/\dC P t=false
 | .nilCheck x=>(∃a,ak I x=.pointer (some a))\/∃f l c,ak I x=.func (.func f) l c
 | .fieldAddr s x f=>(∃a,ak I x=.pointer (some a))/\(bL P s f).isSome=true
 | .extract _ _=>True
 | .binOp op _ x y _=>∃v,cK op (ak I x) (ak I y)=some v
 |_=>False
variable {op:BinOp}{v:Value}
def aog{x y:Value}(h:cK op x y=some v):RO P A (binOp op t x y):=by
 unfold cK at h
 split at h<;>first
  |(simp[binOp,Op.stringOp,Op.intArith,Op.intCmp,Op.intBits];done)
  |(split at h
    ·rename_i hc
     first
     |(subst hc;simp[binOp,Op.intArith,Op.intCmp,Op.intBits];exact Cm _)
     |(obtain⟨rfl,hb⟩:=hc;simp[binOp,Op.intDiv,hb];exact Cm _)
     |(simp[binOp,Op.shift,Int.not_lt.2 hc];exact Cm _)
     |(have cE:¬(IntKind.i64.max<((_:Nat):Int)):=Int.not_lt.2 hc
       simp only[binOp,Op.stringOp,gt_iff_lt,if_neg cE];exact Cm _)
    ·cases h)
  |(simp[binOp,Op.stringOp];exact Cm _)
  |cases h
def aoh{x y:Operand}{a b:Value}(h:(∀c,a≠.agg c)/\(a=.nilIface->b=.nilIface->(Region.isConst x||Region.isConst y)=true)):RO P A (eqGuard op t x y a b):=by
 unfold eqGuard;refine Wv trivial ?_;obtain⟨h1,h2⟩:=h
 cases a<;>cases b<;>first
  |exact trivial
  |exact absurd rfl (h1 _)
  |(have h3:=h2 rfl rfl
    rw[if_pos]
    ·exact trivial
    ·cases x<;>cases y<;>first|rfl|(simp[Region.isConst]at h3))
def aon{d:TypeDesc}{f:TypeDesc->Sem α}(h:P.underlying t=some d)(k:RO P A (f d)):RO P A (underlying t>>=f):=by show RO P A (Sem.bind (match P.underlying t with|some d=>pure d|none=>stuck "no such type") f);rw[h];exact k
def aom{i:TypeInfo}{f:Nat->Sem α}(h:P.info? t=some i)(k:RO P A (f i.size)):RO P A (sizeOf t>>=f):=by show RO P A (Sem.bind (Sem.bind (match P.info? t with|some i=>pure i|none=>stuck "no such type") λi=>pure i.size) f);rw[h];exact k
def EW(op:Op)(I:av)(y:Addr):Prop:=match op with
 | .load _ x=>ak I x=.pointer (some y)
 |_=>False
variable {o:Oper}{I:av}
def aoi(h:B8 P o.op I):RO P (EW o.op I) (execOp (ak I) o):=by
 unfold execOp
 cases ho:o.op<;>rw[ho]at h<;>first|exact h.elim|skip
 case move x=>trivial
 case assign x=>trivial
 case load t x=>
  obtain⟨⟨a,ha⟩,ht⟩:=h;refine yM ?_ λ_=>trivial;unfold Instr.loadAt;rw[ha];exact aok ht ha
 case fieldAddr s x f=>
  obtain⟨⟨a,ha⟩,hf⟩:=h;refine yM ?_ λ_=>trivial;unfold Instr.fieldAt;unfold bL at hf;split at hf
  ·rename_i fs hu;split at hf
   ·rename_i fd Dr;split at hf
    ·rename_i hs;simp only[Bool.and_eq_true,bne_iff_ne,ne_eq]at hs;obtain⟨i,hi⟩:=Option.isSome_iff_exists.1 hs.1;have hz:i.size≠0:=by simpa[cC,hi]using hs.2
     rw[ha];refine aon hu ?_;simp only[Dr];refine yM trivial λ_=>?_;refine yM ?_ λ_=>trivial;unfold fieldPlace;refine aom hi ?_;rw[if_neg hz];trivial
    ·cases hf
   ·cases hf
  ·cases hf
 case nilCheck x=>
  rcases h with⟨a,ha⟩|⟨f,l,c,ha⟩<;>simp only[ha]<;>trivial
 case extract x i=>
  refine yM ?_ λ_=>trivial;unfold Instr.extract;split
  ·split<;>trivial
  ·trivial
 case binOp op t x y t2=>
  obtain⟨v,hv⟩:=h;refine yM ?_ λ_=>trivial;have hn:=O5 hv;exact yM (aoh ⟨hn.1,λe=>absurd e hn.2⟩) λ_=>aog hv
def oa:Sem Next->Prop
 | .pure n=>∃v,n=.value v
 | .load _ _ k=>∀v,oa (k v)
 | .store _ _ _ k=>oa k
 | .new _ k=>∀b,oa (k b)
 | .shape _ k=>∀x,oa (k x)
 | .freeze _ _ k=>oa k
 | .frozen _ k=>∀x,oa (k x)
 | .getObj _ k=>∀x,oa (k x)
 | .setObj _ _ k=>oa k
 | .choose _ k=>∀x,oa (k x)
 | .sys _ k=>∀x,oa (k x)
 | .program k=>∀x,oa (k x)
 | .mark _ k=>oa k
 | .halt _=>True
def Wr(s:Sem Value):oa (s.bind λv=>.pure (.value v)):=by induction s<;>first|exact⟨_,rfl⟩|trivial|(rename_i ih;exactλx=>ih x)|(rename_i ih;exact ih)
def alW{V:Value->Hp->Prop}{D:Deferred->Hp->Prop}{C:FuncId->Array Value->Hp->Prop}:∀(s:Sem Next) (U:Hp),oa s->wpS P s (pI V D C) H U->wpS P s (λn U=>∃v,n=.value v/\V v U) H U:=by
 intro s
 induction s with
 |pure a=>rintro U ⟨v,rfl⟩ h;exact⟨v,rfl,h⟩
 |load m a k ih=>exactλU o ⟨v,hv,h⟩=>⟨v,hv,ih v U (o v) h⟩
 |store m a v k ih=>
  intro U o h
  cases v<;>first|exact h.elim|exact⟨h.1,h.2.1,ih _ o h.2.2⟩
 |new x k ih=>exactλU o h b hb=>ih _ _ (o b) (h b hb)
 |shape r k ih=>exactλU o h=>⟨h.1,ih _ _ (o _) h.2⟩
 |freeze a n k ih=>exactλU o h=>⟨h.1,ih _ o h.2⟩
 |frozen a k ih=>exactλU o h=>⟨h.1,ih _ _ (o _) h.2⟩
 |getObj r k ih=>exactλU o ⟨x,ho,hc,h⟩=>⟨x,ho,hc,ih _ _ (o x) h⟩
 |setObj r x k ih=>exactλU o ⟨x',ho,hc,h⟩=>⟨x',ho,hc,ih _ o h⟩
 |choose q k ih=>
  intro U o h;unfold wpS at h|-;split
  ·rename_i hf;rw[if_pos hf]at h;exact ih _ _ (o _) h
  ·rename_i hf;rw[if_neg hf]at h;exactλt=>ih _ _ (o _) (h t)
 |sys c k ih=>exactλU o h=>h.elim
 |program k ih=>exactλU o h=>ih _ _ (o _) h
 |mark m k ih=>exactλU o h=>⟨h.1,ih _ o h.2⟩
 |halt h=>exactλU _ x=>x
def VJ:Op->Bool
 | .move _| .assign _| .load .. | .fieldAddr .. | .extract .. | .binOp .. =>true
 |_=>false
def alV(h:VJ o.op=true\/(∃x,o.op=.nilCheck x/\((∃a,ak I x=.pointer (some a))\/∃f l c,ak I x=.func (.func f) l c))):oa (execOp (ak I) o):=by
 unfold execOp;rcases h with h|⟨x,hx,ha⟩
 ·cases ho:o.op<;>rw[ho]at h<;>first|exact⟨_,rfl⟩|exact Wr _|(simp[VJ]at h;done)
 ·rw[hx];rcases ha with⟨a,ha⟩|⟨f,l,c,ha⟩<;>simp only[ha]<;>exact⟨_,rfl⟩
def BC:Op->Bool
 | .move _| .assign _| .load .. | .fieldAddr .. | .extract .. | .nilCheck _=>true
 |_=>false
def Et(P:Program):Op->Bool
 | .load t _=> !dC P t
 |_=>true
def ao0{op:Op}(hk:BC op=true)(hl:Et P op=true)(h:cU P op I U=some v):B8 P op I:=by
 cases op<;>first|(simp[BC]at hk;done)|exact trivial|skip
 case load t x=>
  simp only[cU]at h;split at h
  ·rename_i a ha;exact⟨⟨a,ha⟩,by simpa[Et]using hl⟩
  ·cases h
 case nilCheck x=>
  simp only[cU]at h;split at h
  ·rename_i a ha;exact .inl ⟨a,ha⟩
  ·rename_i f l c ha;exact .inr ⟨f,l,c,ha⟩
  ·cases h
 case fieldAddr s x f=>
  simp only[cU]at h;split at h
  ·rename_i a off ha hf;exact⟨⟨a,ha⟩,by rw[hf];rfl⟩
  ·cases h
def ao6(hs:B8 P o.op I)(hv:cU P o.op I U=some v)(w:World)(hw:∀b o,U.f b=some o->w.heap[b]? =some o):
 ∃es,(execOp (ak I) o).runT P w #[]=(.ok (.value v) w,es)/\∀e∈es,∃a:Addr,e=⟨.cell a,false,false⟩/\EW o.op I a/\(U.f a.block).isSome=true:=by
 have hV:oa (execOp (ak I) o):=by
  refine alV ?_
  cases ho:o.op<;>rw[ho]at hs<;>first|exact hs.elim|exact .inl rfl|skip
  exact .inr ⟨_,rfl,hs⟩
 let E0:Env P:={main:=true,st:=λ_ _ _ _=>False,iR:=λh _=>h,own:=λ_ _ _ _ _ h=>h.elim}
 have h1:aT E0 {o with dst:=some 0} I [] U (λaz da ae=>az 0=v/\ae=U) (λ_ _=>False):=MI (o:={o with dst:=some 0}) hv ⟨by simp[aC,up],rfl⟩;have h2:=sz h1;unfold wpOp at h2;have h3:=alW _ U (by exact hV) h2;obtain⟨bY,r,e1,e2,e3⟩:=aol _ (aoi hs) h3 w #[] hw;refine⟨bY,?_,e2⟩;rcases e3 with⟨nx,rfl,v',rfl,hn⟩|⟨h,rfl,hh⟩
 ·obtain⟨h4,_⟩:(aC I (some 0) v') 0=v/\U=U:=hn;simp[aC,up]at h4;subst h4;simpa using e1
 ·cases h<;>exact hh.elim
def AD(ops:Array Oper):Nat->Array Bool->List (List Nat)
 |0,_=>[[]]
 |fuel+1,listed=>match Region.ready .any ops listed with
  |[]=>[[]]
  |rs=>rs.flatMap λi=>(AD ops fuel (listed.setIfInBounds i true)).map (i::·)
def QQ(ops:Array Oper):∀(fuel t:Nat) (listed:Array Bool),Region.linearise.go .any ops fuel t listed []∈AD ops fuel listed:=by
 intro fuel
 induction fuel with
 |zero=>intro t listed;simp[Region.linearise.go,AD]
 |succ fuel ih=>
  intro t listed;simp only[Region.linearise.go,AD]
  change (match(Region.ready .any ops listed)[t %(Region.ready .any ops listed).length]? with
   |some i=>Region.linearise.go .any ops fuel (t/(Region.ready .any ops listed).length) (listed.setIfInBounds i true) [i]
   |none=>[].reverse)∈_
  cases hr:Region.ready .any ops listed with
  |nil=>simp
  |cons x xs=>
   have bd:t %(x::xs).length<(x::xs).length:=Nat.mod_lt _ al;rw[List.getElem?_eq_getElem bd];simp only[];rw[linearise_go_acc,List.reverse_singleton,List.singleton_append];exact List.mem_flatMap.2 ⟨_,List.getElem_mem bd,List.mem_map.2 ⟨_,ih _ _,rfl⟩⟩
def endsIn(ops:Array Oper)(m:Nat):Bool:=(AD ops ops.size (Array.replicate ops.size false)).all λl=>l.getLast?==some m&&l.dropLast.all (·!=m)
variable {ops:Array Oper}{m:Nat}
def aoE(hm:P.follows .mixedOrders=true)(h:endsIn ops m=true)(t:Nat):∃p,Region.schedule (P.follows .mixedOrders) ops t=p++[m]/\∀i∈p,i≠m:=by
 have:=QQ ops ops.size t (Array.replicate ops.size false);simp only[Region.schedule,hm,Bool.true_or,if_true,Region.linearise];generalize Region.linearise.go .any ops ops.size t (Array.replicate ops.size false) []=l at this;unfold endsIn at h;rw[List.all_eq_true]at h;have h:=h l this;simp only[Bool.and_eq_true,beq_iff_eq,List.all_eq_true,bne_iff_ne,ne_eq]at h;refine⟨l.dropLast,?_,h.2⟩;have aE:l≠[]:=by intro e;subst e;simp at h
 rw[List.getLast?_eq_some_getLast aE,Option.some.injEq]at h;rw[<-h.1];exact(List.dropLast_concat_getLast aE).symm
def gW(ops:Array Oper)(m:Nat):Array Oper:=ops.modify m λo=>{o with op:=.move (.const undef)}
def Tx(ops:Array Oper)(m:Nat):(gW ops m).size=ops.size:=by simp[gW]
def Hw{i:Nat}(h:i≠m):(gW ops m)[i]? =ops[i]? :=by simp[gW,Array.getElem?_modify,Ne.symm h]
def akg(ops:Array Oper)(m i:Nat):((gW ops m)[i]?).map (·.after)=(ops[i]?).map (·.after):=by
 by_cases h:i=m
 ·subst h;simp[gW,Array.getElem?_modify];cases ops[i]? <;>rfl
 ·rw[Hw h]
def akh(ops:Array Oper)(m i:Nat):gz (gW ops m) i=gz ops i:=by
 unfold gz;by_cases h:i=m
 ·subst h;simp[gW,Array.getElem?_modify];cases ops[i]? <;>rfl
 ·rw[Hw h]
def akj(ops:Array Oper)(m:Nat)(listed:Array Bool):Region.ready .any (gW ops m) listed=Region.ready .any ops listed:=by
 unfold Region.ready;rw[Tx];congr 1
 funext i
 have:=akg ops m i
 cases h1:(gW ops m)[i]? <;>cases h2:ops[i]? <;>rw[h1,h2]at this<;>first|cases this|simp_all
def aki(ops:Array Oper)(m:Nat):∀(fuel t:Nat) (listed:Array Bool) (acc:List Nat),Region.linearise.go .any (gW ops m) fuel t listed acc=Region.linearise.go .any ops fuel t listed acc:=by
 intro fuel
 induction fuel with
 |zero=>intro t listed acc;rfl
 |succ fuel ih=>
  intro t listed acc;simp only[Region.linearise.go]
  change (match(Region.ready .any (gW ops m) listed)[t %(Region.ready .any (gW ops m) listed).length]? with
   |some i=>Region.linearise.go .any (gW ops m) fuel (t/(Region.ready .any (gW ops m) listed).length) (listed.setIfInBounds i true) (i::acc)
   |none=>acc.reverse)=(match(Region.ready .any ops listed)[t %(Region.ready .any ops listed).length]? with
   |some i=>Region.linearise.go .any ops fuel (t/(Region.ready .any ops listed).length) (listed.setIfInBounds i true) (i::acc)
   |none=>acc.reverse)
  rw[akj];split
  ·exact ih _ _ _
  ·rfl
def akk(hm:P.follows .mixedOrders=true)(ops:Array Oper)(m t:Nat):Region.schedule (P.follows .mixedOrders) (gW ops m) t=Region.schedule (P.follows .mixedOrders) ops t:=by simp only[Region.schedule,hm,Bool.true_or,if_true,Region.linearise,Tx];exact aki ops m _ _ _ _
section
variable {P:Program}{N:Nat}{ops:Array Oper}{κ:Hp}
def xa (P:Program)(N:Nat)(ops:Array Oper)(κ:Hp)(Q:av->Prop):List Nat->av->Prop
 |[],I=>Q I
 |i::rest,I=>match ops[i]? with
  |some o=>pC N o.dst=true/\o.guard=none/\B8 P o.op I/\∃v,cU P o.op I κ=some v/\xa P N ops κ Q rest (aC I o.dst v)
  |none=>False
def ao4 {E:Env P}{m:Nat}{Q:Post}{ds:List Deferred}:∀(p:List Nat),(∀i∈p,i≠m)->(∀i o,i≠m->ops[i]? =some o->BC o.op=true/\Et P o.op=true/\o.guard=none)->∀(I:av),mR E N (gW ops m) Q (p++[m]) I ds κ->
 xa P N ops κ (λI=>Q .normal (aC I (gz ops m) undef) ds κ) p I:=by
 intro p
 induction p with
 |nil=>
  intro _ _ I h;simp only[List.nil_append,mR,mv]at h;simp only[xa]
  cases ho:(gW ops m)[m]? with
  |none=>rw[ho]at h;exact h.elim
  |some o=>
   rw[ho]at h
   have hd:o.dst=gz ops m:=by have:=akh ops m m;unfold gz at this|-;rw[ho]at this;exact this
   obtain⟨o',uz,rfl⟩:∃o',ops[m]? =some o'/\o={o' with op:=.move (.const undef)}:=by simp only[gW,Array.getElem?_modify]at ho;obtain⟨o',h1,h2⟩:=Option.map_eq_some_iff.1 ho;exact⟨o',h1,h2.symm⟩
   obtain⟨_,h⟩:=h;rw[<-hd];split at h
   ·simp only[cW,if_true,cU,ak]at h;obtain⟨v,hv,h⟩:=h
    cases hv;exact h
   ·exact h
 |cons i p ih=>
  intro hp hk I h;have Bl:=hp i al;rw[List.cons_append]at h;simp only[mR,mv]at h;rw[Hw Bl]at h;simp only[xa]
  cases ho:ops[i]? with
  |none=>rw[ho]at h;exact h.elim
  |some o=>
   rw[ho]at h;obtain⟨zp,DJ,hg⟩:=hk i o Bl ho;obtain⟨hd,h⟩:=h;rw[if_pos (by simp[Region.wanted,hg]),if_pos (by cases aS:o.op<;>rw[aS]at zp<;>first|rfl|(simp[BC]at zp;done))]at h;obtain⟨v,hv,h⟩:=h;exact⟨hd,hg,ao0 zp DJ hv,v,hv,ih (λj hj=>hp j (List.mem_cons_of_mem _ hj)) hk _ h⟩
def MW {main:Bool}{b:Frame}{k:List Item}{cs:List Frame}{i:Nat}{rest:List Nat}{o:Oper}{a:Act}{I:av}{ds:List Deferred}{v:Value}(ho:ops[i]? =some o)(hg:o.guard=none)(hs:B8 P o.op I)(hv:cU P o.op I κ=some v)(hk:b.kind≠.early)
 (ha:cM N a I ds) (w:World) (hw:∀b o,κ.f b=some o->w.heap[b]? =some o):
 ∃es,stepG P main (G (b.at a (.inRegion ops (i::rest)::k)) cs) w=.go (G (b.at (a.put o.dst v) (.inRegion ops rest::k)) cs) w es/\∀e∈es,∃x:Addr,e=⟨.cell x,false,false⟩/\EW o.op I x/\(κ.f x.block).isSome=true:=by
 obtain⟨es,h1,h2⟩:=ao6 hs hv w hw;rw[<-ha.eval]at h1;have fG:(b.at a (.inRegion ops (i::rest)::k)).finish v=b.at (a.put o.dst v) (.inRegion ops rest::k):=by rw[Frame.finish_at,ho];rfl
 have ou:(b.kind==CallKind.early)=false:=aY hk;refine⟨seen P b.fn es,?_,λe he=>h2 e (mem_seen he)⟩;rw[stepG_oper ho (by simp[Region.wanted,hg])];rw[<-fG];simp[stepG.apply,-Sem.runT_eq,h1,G,Frame.at,ou,GStep.after]
def dL (P:Program)(N:Nat)(ops:Array Oper)(Fam:Hp->Prop)(Ok:Addr->Prop)(Q:av->Prop):List Nat->av->Prop
 |[],I=>Q I
 |i::rest,I=>match ops[i]? with
  |some o=>pC N o.dst=true/\o.guard=none/\B8 P o.op I/\(∀y,EW o.op I y->Ok y)/\∃v,(∀κ,Fam κ->cU P o.op I κ=some v)/\dL P N ops Fam Ok Q rest (aC I o.dst v)
  |none=>False
def Fi {main:Bool}{K:World->Prop}{Still:Loc->Prop}{B:Nat}{s:Seat}{Fam:Hp->Prop}{Ok:Addr->Prop}(hK:∀w,K w->∃κ,Fam κ/\∀b o,κ.f b=some o->w.heap[b]? =some o)(hS:∀a,Ok a->Still (.cell a)/\a.block<B)
 {b:Frame} {k:List Item} {cs:List Frame} (hk:b.kind≠.early) {Q:av->Prop} {rest:List Nat} {n:Nat} {ds:List Deferred} (hn:∀I a,cM N a I ds->Q I->Way P main K Still B s n (G (b.at a (.inRegion ops rest::k)) cs)):
 ∀(p:List Nat) (I:av) (a:Act),dL P N ops Fam Ok Q p I->cM N a I ds->Way P main K Still B s (n+p.length) (G (b.at a (.inRegion ops (p++rest)::k)) cs):=by
 intro p
 induction p with
 |nil=>exactλI a h ha=>hn I a ha h
 |cons i p ih=>
  intro I a h ha;simp only[dL]at h
  cases ho:ops[i]? with
  |none=>rw[ho]at h;exact h.elim
  |some o=>
   rw[ho]at h;obtain⟨hd,hg,hs,gB,v,hv,h⟩:=h;rw[List.length_cons,<-Nat.add_assoc];refine .inr ⟨rfl,λw hw=>?_⟩;obtain⟨κ,hF,xV⟩:=hK w hw;obtain⟨es,h1,h2⟩:=MW (main:=main) (k:=k) (cs:=cs) (rest:=p++rest) ho hg hs (hv κ hF) hk ha w xV;rw[List.cons_append,h1];refine⟨atRel_refl w,λe he=>?_,ih _ _ h (ha.put hd v)⟩;obtain⟨x,rfl,hx,_⟩:=h2 e he;exact⟨x,rfl,hS x (gB x hx)⟩
def Way.ctl {main:Bool}{K:World->Prop}{Still:Loc->Prop}{B:Nat}{s:Seat}{n:Nat}{g g':Goroutine}(h:∀w,stepG P main g w=.go g' w)(hr:g.status=.running)(k:Way P main K Still B s n g'):Way P main K Still B s (n+1) g:=
 .inr ⟨hr,λw _=>by rw[h w];exact⟨atRel_refl w,al,k⟩⟩
def Way.region {main:Bool}{K:World->Prop}{Still:Loc->Prop}{B:Nat}{s:Seat}{n:Nat}{b:Frame}{a:Act}{k:List Item}{cs:List Frame}{id:Nat}(h:Way P main K Still B s n (G (b.at a (.inRegion ops (List.range ops.size)::k)) cs)):
 Way P main K Still B s (n+1) (G (b.at a (.code (.region id ops false)::k)) cs):=Way.ctl (λw=>stepG_region) rfl h
def Way.Js {main:Bool}{K:World->Prop}{Still:Loc->Prop}{B:Nat}{s:Seat}{n:Nat}{b:Frame}{a:Act}{k:List Item}{cs:List Frame}{id:Nat}
 (h:∀t,Way P main K Still B s n (G (b.at a (.inRegion ops (Region.schedule (P.follows .mixedOrders) ops t)::k)) cs)):Way P main K Still B s (n+1) (G (b.at a (.code (.region id ops true)::k)) cs):=by
 refine .inr ⟨rfl,λw _=>?_⟩
 have:stepG P main (G (b.at a (.code (.region id ops true)::k)) cs) w=.go (G (b.at a (.inRegion ops (Region.schedule (P.follows .mixedOrders) ops (w.tape w.drawn (.order b.fn id)))::k)) cs) {w with drawn:=w.drawn+1}:=by simp[G,stepG,stepG.exec,Frame.at,choose,Sem.run,Question.forced,Question.cut]
 rw[this];exact⟨⟨w.drawn+1,rfl⟩,al,h _⟩
variable {Fam:Hp->Prop}{Ok:Addr->Prop}{Q:av->Prop}{i:Nat}{rest:List Nat}{I:av}{d ty:Nat}{ps:String}{af:Array Edge}
def pF {t:TypeId}{x:Operand}{a:Addr}{v:Value}(ho:ops[i]? =some {dst:=some d,op:=.load t x,type:=ty,pos:=ps,after:=af,guard:=none})(hd:d<N)(hx:ak I x=.pointer (some a))(ht:dC P t=false)(hi:dq P t=true)(gB:Ok a)
 (hv:∀κ,Fam κ->κ.cell? a=some v) (k:dL P N ops Fam Ok Q rest (up I d v)):dL P N ops Fam Ok Q (i::rest) I:=by
 simp only[dL,ho];refine⟨decide_eq_true hd,trivial,⟨⟨a,hx⟩,ht⟩,λy hy=>?_,v,λκ xV=>?_,k⟩
 ·simp only[EW]at hy;rw[hx]at hy;cases hy;exact gB
 ·simp only[cU,hx,hi,if_true,jg,ht,Bool.false_eq_true,if_false];exact hv κ xV
def vl {x:Operand}{a:Addr}(ho:ops[i]? =some {dst:=some d,op:=.nilCheck x,type:=ty,pos:=ps,after:=af,guard:=none})(hd:d<N)(hx:ak I x=.pointer (some a))
 (k:dL P N ops Fam Ok Q rest (up I d (.pointer (some a)))):dL P N ops Fam Ok Q (i::rest) I:=by
 simp only[dL,ho];exact⟨decide_eq_true hd,trivial,.inl ⟨a,hx⟩,λy hy=>hy.elim,_,λκ xV=>by simp only[cU,hx],k⟩
def vk {s f:Nat}{x:Operand}{a:Addr}{off:Nat}(ho:ops[i]? =some {dst:=some d,op:=.fieldAddr s x f,type:=ty,pos:=ps,after:=af,guard:=none})(hd:d<N)(hx:ak I x=.pointer (some a))(hf:bL P s f=some off)
 (k:dL P N ops Fam Ok Q rest (up I d (.pointer (some (a.add off))))):dL P N ops Fam Ok Q (i::rest) I:=by
 simp only[dL,ho];exact⟨decide_eq_true hd,trivial,⟨⟨a,hx⟩,by rw[hf];rfl⟩,λy hy=>hy.elim,_,λκ xV=>by simp only[cU,hx,hf],k⟩
def E2 {bo:BinOp}{t:TypeId}{x y:Operand}{t2:TypeId}{v:Value}(ho:ops[i]? =some {dst:=some d,op:=.binOp bo t x y t2,type:=ty,pos:=ps,after:=af,guard:=none})(hd:d<N)(hv:cK bo (ak I x) (ak I y)=some v)
 (k:dL P N ops Fam Ok Q rest (up I d v)):dL P N ops Fam Ok Q (i::rest) I:=by
 simp only[dL,ho];exact⟨decide_eq_true hd,trivial,⟨v,hv⟩,λy hy=>hy.elim,v,λκ xV=>by simp only[cU,hv],k⟩
def H6 {x:Operand}(ho:ops[i]? =some {dst:=some d,op:=.move x,type:=ty,pos:=ps,after:=af,guard:=none})(hd:d<N)
 (k:dL P N ops Fam Ok Q rest (up I d (ak I x))):dL P N ops Fam Ok Q (i::rest) I:=by
 simp only[dL,ho];exact⟨decide_eq_true hd,trivial,trivial,λy hy=>hy.elim,_,λκ xV=>by simp only[cU],k⟩
def ao1 {x:Operand}{j:Nat}{vs:Array Value}{v:Value}(ho:ops[i]? =some {dst:=some d,op:=.extract x j,type:=ty,pos:=ps,after:=af,guard:=none})(hd:d<N)(hx:ak I x=.tuple vs)(hv:vs[j]? =some v)
 (k:dL P N ops Fam Ok Q rest (up I d v)):dL P N ops Fam Ok Q (i::rest) I:=by
 simp only[dL,ho];exact⟨decide_eq_true hd,trivial,trivial,λy hy=>hy.elim,_,λκ xV=>by simp only[cU,hx,hv],k⟩
end
def left(ops:Array Oper)(listed:Array Bool):List Nat:=(List.range ops.size).filter λi=> !listed.getD i true
def ajp{listed:Array Bool}(hs:listed.size=ops.size){i:Nat}(hi:i∈left ops listed):(left ops (listed.setIfInBounds i true)).length<(left ops listed).length:=by
 have e:left ops (listed.setIfInBounds i true)=(left ops listed).filter λj=>j !=i:=by
  simp only[left,List.filter_filter];apply List.filter_congr;intro j hj;simp only[List.mem_range]at hj;by_cases h:j=i
  ·subst h;simp[Array.getD_eq_getD_getElem?,Array.getElem?_setIfInBounds_self_of_lt (by omega:j<listed.size)]
  ·simp[Array.getD_eq_getD_getElem?,Array.getElem?_setIfInBounds_ne (Ne.symm h),h]
 rw[e,List.length_filter_lt_length_iff_exists];exact⟨i,hi,al⟩
variable {E:Env P}{N:Nat}{Q:Post}
def are{aut:(Nat->Bool)->av->List Deferred->Hp->Prop}{ds:List Deferred}(hm:P.follows .mixedOrders=true)(DL:∀(i:Nat) (o:Oper),ops[i]? =some o->∀e∈o.after,e.on<i)(gP:∀(L:Nat->Bool) (i:Nat) (o:Oper) (I:av) (ds:List Deferred) (U:Hp) (K:av->List Deferred->Hp->Prop),ops[i]? =some o->L i=false->(∀e∈o.after,Region.binds .any e=true->L e.on=true)->aut L I ds U->
  (∀az da ae,aut (λj=>L j||j==i) az da ae->K az da ae)->mv E N ops Q i K I ds U)(zk:∀(L:Nat->Bool) I ds U,(∀i,i<ops.size->L i=true)->aut L I ds U->Q .normal I ds U)(h0:aut (λ_=>false) I ds U)(t:Nat):mR E N ops Q (Region.schedule (P.follows .mixedOrders) ops t) I ds U:=by
 simp only[Region.schedule,hm,Bool.true_or,if_true,Region.linearise]
 have key:∀(fuel t:Nat) (listed:Array Bool) (I:av) (ds:List Deferred) (U:Hp),listed.size=ops.size->(left ops listed).length<=fuel->aut (λj=>listed.getD j false) I ds U->mR E N ops Q (Region.linearise.go .any ops fuel t listed []) I ds U:=by
  intro fuel
  induction fuel with
  |zero=>
   intro t listed I ds U hs hl hI;simp only[Region.linearise.go,List.reverse_nil,mR];refine zk _ _ _ _ (λi hi=>?_) hI;have:left ops listed=[]:=aY hl;have hn:i∉left ops listed:=by rw[this];simp
   simp only[left,List.mem_filter,List.mem_range,not_and,Bool.not_eq_true',Bool.not_eq_false]at hn;have:=hn hi;simpa[Array.getD_eq_getD_getElem?,Array.getElem?_eq_getElem (by omega:i<listed.size)]using this
  |succ fuel ih=>
   intro t listed I ds U hs hl hI;simp only[Region.linearise.go]
   change mR E N ops Q (match(Region.ready .any ops listed)[t %(Region.ready .any ops listed).length]? with
    |some i=>Region.linearise.go .any ops fuel (t/(Region.ready .any ops listed).length) (listed.setIfInBounds i true) [i]
    |none=>[].reverse) I ds U
   have qf:∀i,i∈Region.ready .any ops listed↔i<ops.size/\listed.getD i true=false/\∃o,ops[i]? =some o/\∀e∈o.after,Region.binds .any e=true->listed.getD e.on false=true:=by
    intro i;simp only[Region.ready,List.mem_filter,List.mem_range,Bool.and_eq_true,Bool.not_eq_true'];constructor
    ·rintro⟨h1,h2,h3⟩;refine⟨h1,h2,ops[i],Array.getElem?_eq_getElem h1,λe he hb=>?_⟩;rw[Array.getElem?_eq_getElem h1]at h3;simp only[Option.map_some,Option.getD_some,Array.all_eq_true_iff_forall_mem,Bool.or_eq_true,Bool.not_eq_true']at h3;rcases h3 e he with h|h
     ·rw[hb]at h;cases h
     ·exact h
    ·rintro⟨h1,h2,o,ho,h3⟩;refine⟨h1,h2,?_⟩;rw[ho];simp only[Option.map_some,Option.getD_some,Array.all_eq_true_iff_forall_mem,Bool.or_eq_true,Bool.not_eq_true'];intro e he
     cases hb:Region.binds .any e with
     |false=>exact .inl rfl
     |true=>exact .inr (h3 e he hb)
   cases hr:Region.ready .any ops listed with
   |nil=>
    simp only[List.length_nil,List.getElem?_nil,List.reverse_nil,mR];refine zk _ _ _ _ (λi=>?_) hI
    induction i using Nat.strongRecOn with
    |_ i ihi=>
     intro hi
     cases hgi:listed.getD i false with
     |true=>rfl
     |false=>
      have:i∈Region.ready .any ops listed:=by
       refine(qf i).2 ⟨hi,?_,ops[i],Array.getElem?_eq_getElem hi,λe he hb=>?_⟩
       ·simpa[Array.getD_eq_getD_getElem?,Array.getElem?_eq_getElem (by omega:i<listed.size)]using hgi
       ·have:=DL i _ (Array.getElem?_eq_getElem hi) e he;exact ihi e.on this aa
      rw[hr]at this;cases this
   |cons x xs=>
    have bd:t %(x::xs).length<(x::xs).length:=Nat.mod_lt _ al;rw[List.getElem?_eq_getElem bd];simp only[];rw[linearise_go_acc,List.reverse_singleton,List.singleton_append];have xJ:(x::xs)[t %(x::xs).length]∈Region.ready .any ops listed:=by rw[hr];exact List.getElem_mem bd
    generalize(x::xs)[t %(x::xs).length]=i at xJ|-;obtain⟨h1,h2,o,ho,h3⟩:=(qf i).1 xJ;have tb:i∈left ops listed:=by simp only[left,List.mem_filter,List.mem_range,Bool.not_eq_true'];exact⟨h1,h2⟩
    have hf:listed.getD i false=false:=by simpa[Array.getD_eq_getD_getElem?,Array.getElem?_eq_getElem (by omega:i<listed.size)]using h2
    refine gP (λj=>listed.getD j false) i o I ds U _ ho hf h3 hI λaz da ae C3=>ih _ _ _ _ _ (aY hs) (by have:=ajp hs tb;omega) ?_
    have e:(λj=>(listed.setIfInBounds i true).getD j false)=λj=>listed.getD j false||j==i:=by
     funext j
     by_cases h:j=i
     ·subst h;simp[Array.getD_eq_getD_getElem?,Array.getElem?_setIfInBounds_self_of_lt (by omega:j<listed.size)]
     ·simp[Array.getD_eq_getD_getElem?,Array.getElem?_setIfInBounds_ne (Ne.symm h),h]
    rw[e];exact C3
 refine key _ _ _ _ _ _ al (by exact Nat.le_trans (List.length_filter_le _ _) al) ?_
 have e:(λj=>(Array.replicate ops.size false).getD j false)=λ_=>false:=by
  funext j
  rw[Array.getD_eq_getD_getElem?,Array.getElem?_replicate];split<;>rfl
 rw[e];exact h0
end
section
open Go.Proofs
abbrev pG:Go.Conc.Lib.WgLink:={add:=55,done:=57,wait:=60,relMerge:=91,disable:=92,enable:=93,inBubble:=94,associate:=95,fatal:=96,uOr:=97,uAdd:=98,raceRead:=99,uLoad:=100,uStore:=101,disassociate:=102,semrelease:=103,acquire:=108,isAssociated:=109,uCas:=110,raceWrite:=111,semacquire:=112,orU64:=143,addU64:=144,loadU64:=145,storeU64:=146,casU64:=152,tWgP:=197,tUP:=137,tAssoc:=199,tWg:=131,tAU:=128,tU64:=126,tUint:=68,tU32:=129,tPU32:=202,tPAU:=282,tPU64:=284,tNoCopy:=123,tANoCopy:=124,tAlign64:=125}
def Io:Go.Conc.Lib.WgLib prog pG:=
 ⟨func55,func57,func60,func91,func92,func93,func94,func95,func96,func97,func98,func99,func100,func101,func102,func103,func108,func109,func110,func111,func112,func143,func144,func145,func146,func152,underlying197,runUnderlying197,sizeOf197,isAgg197,zeroValue197,underlying137,runUnderlying137,sizeOf137,isAgg137,zeroValue137,underlying199,runUnderlying199,sizeOf199,isAgg199,zeroValue199,underlying131,runUnderlying131,sizeOf131,isAgg131,zeroValue131,underlying128,runUnderlying128,sizeOf128,isAgg128,zeroValue128,underlying126,runUnderlying126,sizeOf126,isAgg126,zeroValue126,underlying68,runUnderlying68,sizeOf68,isAgg68,zeroValue68,underlying129,runUnderlying129,sizeOf129,isAgg129,zeroValue129,underlying202,runUnderlying202,sizeOf202,isAgg202,zeroValue202,underlying282,runUnderlying282,sizeOf282,isAgg282,zeroValue282,underlying284,runUnderlying284,sizeOf284,isAgg284,zeroValue284,underlying0,runUnderlying0,sizeOf0,isAgg0,zeroValue0,underlying3,runUnderlying3,sizeOf3,isAgg3,zeroValue3,underlying4,runUnderlying4,sizeOf4,isAgg4,zeroValue4,underlying9,runUnderlying9,sizeOf9,isAgg9,zeroValue9,underlying20,runUnderlying20,sizeOf20,isAgg20,zeroValue20,underlying21,runUnderlying21,sizeOf21,isAgg21,zeroValue21,ah,ah⟩
end
section
open Go.Conc
variable {P:Program}{E:Env P}{N:Nat}{ops:Array Oper}
def yz{Q:Post}(b:Frame)(hb:b.kind≠.early)(k:List Item)(cs:List Frame)(tl:List Nat)(hQ:∀ch I ds U,¬Q (.panic ch) I ds U)(l:List Nat):
 ∀(I:av) (ds:List Deferred) (U:Hp) (a:Act),jm E N ops Q (l.filterMap (ops[·]?)) I ds U->cM N a I ds->ax E (G (b.at a (.inRegion ops (l++tl)::k)) cs) U (λg ae=>∃az da a',cM N a' az da/\Q .normal az da ae/\g=G (b.at a' (.inRegion ops tl::k)) cs):=by
 induction l with
 |nil=>
  intro I ds U a h ha;exact ax.here ⟨I,ds,a,ha,h,rfl⟩
 |cons i rest ih=>
  intro I ds U a h ha
  cases ho:ops[i]? with
  |none=>
   rw[List.filterMap_cons_none ho]at h;have jz:((ops[i]?).map (Region.wanted · (yielded ops a.tmps))).getD false=false:=by rw[ho];rfl
   have fG:(b.at a (.inRegion ops (i::(rest++tl))::k)).finish undef=b.at a (.inRegion ops (rest++tl)::k):=by rw[Frame.finish_at,ho];rfl
   refine ax.ctl (g':=G (b.at a (.inRegion ops (rest++tl)::k)) cs) (λw=>?_) rfl rfl (ih _ _ _ _ h ha);rw[<-fG];simp only[Frame.at]at*;simp[G,stepG,stepG.exec,jz]
  |some o=>
   rw[List.filterMap_cons_some ho]at h;simp only[jm]at h;obtain⟨hd,h⟩:=h;by_cases hw:Region.wanted o (hU N ops I)=true
   ·rw[if_pos hw]at h;have jz:Region.wanted o (yielded ops a.tmps)=true:=by rw[ha.yB];exact hw
    have h:=sz h;unfold wpOp at h;rw[<-ha.eval]at h;refine ax.step rfl (M6 (P:=P) (main:=E.main) (b:=b) (k:=k) (cs:=cs) (rest:=rest++tl) ho jz hb h) ?_;rintro g ae (⟨v,hv,rfl⟩|⟨d,s9,rfl⟩|⟨f,args,hc,rfl⟩|⟨v,hp,rfl⟩)
    ·exact ih _ _ _ _ hv (ha.put hd v)
    ·exact ih _ _ _ _ s9 ((ha.defer d).put hd undef)
    ·refine aw.run hc ?_ ?_
     ·intro v gE hv;have fG:(b.at a (.inRegion ops (i::(rest++tl))::k)).finish v=b.at (a.put o.dst v) (.inRegion ops (rest++tl)::k):=by rw[Frame.finish_at,ho];rfl
      rw[fG];exact ih _ _ _ _ hv (ha.put hd v)
     ·intro ch gE hp;exact absurd hp (hQ _ _ _ _)
    ·exact absurd hp (hQ _ _ _ _)
   ·rw[if_neg hw]at h;have jz:((ops[i]?).map (Region.wanted · (yielded ops a.tmps))).getD false=false:=by rw[ho,ha.yB];simpa using hw
    have fG:(b.at a (.inRegion ops (i::(rest++tl))::k)).finish undef=b.at (a.put o.dst undef) (.inRegion ops (rest++tl)::k):=by rw[Frame.finish_at,ho];rfl
    refine ax.ctl (g':=G (b.at (a.put o.dst undef) (.inRegion ops (rest++tl)::k)) cs) (λw=>?_) rfl rfl (ih _ _ _ _ h (ha.put hd undef));rw[<-fG];simp only[Frame.at]at*;simp[G,stepG,stepG.exec,jz]
def ki(X:av->List Deferred->Hp->Prop):Post
 | .normal,I,ds,U=>X I ds U
 |_,_,_,_=>False
variable {X:av->List Deferred->Hp->Prop}
def yl:∀ch I ds U,¬ki X (.panic ch) I ds U:=λ_ _ _ _ h=>h
variable {c:Code}{U:Hp}{b:Frame}{k:List Item}{cs:List Frame}{a:Act}
def nR{I:av}{ds:List Deferred}(h:cO E N c (ki X) I ds U)(hb:b.kind≠.early)(ha:cM N a I ds):
 ax E (G (b.at a (.code c::k)) cs) U λg ae=>∃az da a',cM N a' az da/\X az da ae/\g=G (b.at a' k) cs:=by
 refine(Iq c _ _ _ _ h b k cs a hb ha).mono ?_;rintro g ae ⟨e,az,da,a',dH,hq,A9⟩
 cases e<;>first|exact hq.elim|skip
 obtain rfl:=A9;exact⟨az,da,a',dH,hq,rfl⟩
def Hj:Op->Bool
 | .defer _=>true
 |_=>false
variable {main:Bool}{w:World}
def apv{id:Nat}:stepG P main (G (b.atR a (.inBlock id::k)) cs) w=.go (G (b.atR a k) cs) w:=by simp[G,stepG,stepG.exec,Frame.atR]
def apu{id:Nat}:stepG P main (G (b.atR a (.code (.block id c)::k)) cs) w=.go (G (b.atR a (.code c:: .inBlock id::k)) cs) w:=by simp[G,stepG,stepG.exec,Frame.atR]
def Vk{id:Nat}:stepG P main (G (b.atR a (.code (.region id ops false)::k)) cs) w=.go (G (b.atR a (.inRegion ops (List.range ops.size)::k)) cs) w:=by simp[G,stepG,stepG.exec,Frame.atR]
def apx:stepG P main (G (b.atR a (.inRegion ops []::k)) cs) w=.go (G (b.atR a k) cs) w:=by simp[G,stepG,stepG.exec,Frame.atR]
variable {i:Nat}{rest:List Nat}{o:Oper}
def apw(ho:ops[i]? =some o)(hw:Region.wanted o (yielded ops a.tmps)=true)(hd:Hj o.op=false):
 stepG P main (G (b.atR a (.inRegion ops (i::rest)::k)) cs) w=stepG.apply P true (b.atR a (.inRegion ops (i::rest)::k)) cs none (execOp a.eval o) w:=by
 have he:=Frame.eval_atR b a (.inRegion ops (i::rest)::k);simp only[Frame.atR]at he
 cases hr:b.roundOf with
 |none=>simp[G,stepG,stepG.exec,stepG.oper,Frame.oper?,Frame.atR,ho,hw,hr];rw[hr]at he;rw[he]
 |some l=>
  rw[hr]at he;simp only[G,stepG,stepG.exec,stepG.oper,Frame.oper?,Frame.atR,ho,hw,hr,Option.map_some,Option.getD_some,if_true,he]
  cases aS:o.op<;>first|rfl|(rw[aS]at hd;cases hd)
def apG(ho:ops[i]? =some o)(hw:Region.wanted o (yielded ops a.tmps)=true)(hd:Hj o.op=false)(hk:b.kind≠.early){V:Value->Hp->Prop}{D:Deferred->Hp->Prop}{C:FuncId->Array Value->Hp->Prop}(h:wpS P (execOp a.eval o) (pI V D C) (sG λ_ _=>False) U):
 ic P main (G (b.atR a (.inRegion ops (i::rest)::k)) cs) U λg ae=>
  (∃v,V v ae/\g=G (b.atR (a.put o.dst v) (.inRegion ops rest::k)) cs)\/
  (∃d,D d ae/\g=G (b.atR ({a with defers:=d::a.defers}.put o.dst undef) (.inRegion ops rest::k)) cs)\/
  (∃f args,C f args ae/\g=G (Frame.enter P f args .normal) (b.atR a (.inRegion ops (i::rest)::k)::cs)):=by
 intro auu w hs
 have fG:∀v,(b.atR a (.inRegion ops (i::rest)::k)).finish v=b.atR (a.put o.dst v) (.inRegion ops rest::k):=by intro v;rw[Frame.finish_atR,ho];rfl
 have ou:(b.kind==CallKind.early)=false:=aY hk;obtain⟨w',ae,bY,e1,cT,eu,gA,hr⟩:=oM (execOp a.eval o) w U #[] h hs;have gI:((execOp a.eval o).runT P w #[]).2=bY:=by simpa using e1
 rw[apw ho hw hd];have iL:∀e∈seen P b.fn bY,iF auu w'.heap.size e:=λe he=>gA e (mem_seen he);rcases hr with⟨nx,hn,hq⟩|⟨hh,hn,hq⟩
 ·have e2:(execOp a.eval o).runT P w #[]=(.ok nx w',bY):=Prod.ext hn gI
  cases nx<;>first|exact hq.elim|skip
  ·rename_i v
   have:stepG.apply P true (b.atR a (.inRegion ops (i::rest)::k)) cs none (execOp a.eval o) w=.go (G (b.atR (a.put o.dst v) (.inRegion ops rest::k)) cs) w' (seen P b.fn bY):=by rw[<-fG];simp[stepG.apply,-Sem.runT_eq,e2,G,Frame.atR,ou,GStep.after]
   rw[this];exact⟨ae,cT,eu,iL,rfl,.inl ⟨v,hq,rfl⟩⟩
  ·have:stepG.apply P true (b.atR a (.inRegion ops (i::rest)::k)) cs none (execOp a.eval o) w=.go (G (b.atR (a.put o.dst undef) (.inRegion ops rest::k)) cs) w' (seen P b.fn bY):=by rw[<-fG];simp[stepG.apply,-Sem.runT_eq,e2,G,Frame.atR,ou,GStep.after]
   rw[this];exact⟨ae,cT,eu,iL,rfl,.inl ⟨undef,hq,rfl⟩⟩
  ·rename_i f args
   have:stepG.apply P true (b.atR a (.inRegion ops (i::rest)::k)) cs none (execOp a.eval o) w=.go (G (Frame.enter P f args .normal) (b.atR a (.inRegion ops (i::rest)::k)::cs)) w' (seen P b.fn bY):=by simp[stepG.apply,-Sem.runT_eq,e2,G,Frame.atR,ou,GStep.after]
   rw[this];exact⟨ae,cT,eu,iL,rfl,.inr (.inr ⟨f,args,hq,rfl⟩)⟩
  ·rename_i d
   have Dr:({b.atR a (.inRegion ops (i::rest)::k)with defers:=d::a.defers}:Frame).finish undef=b.atR ({a with defers:=d::a.defers}.put o.dst undef) (.inRegion ops rest::k):=by have:=Frame.finish_atR b {a with defers:=d::a.defers} ops i rest k undef;rw[ho]at this;exact this
   have:stepG.apply P true (b.atR a (.inRegion ops (i::rest)::k)) cs none (execOp a.eval o) w=.go (G (b.atR ({a with defers:=d::a.defers}.put o.dst undef) (.inRegion ops rest::k)) cs) w' (seen P b.fn bY):=by rw[<-Dr];simp[stepG.apply,-Sem.runT_eq,e2,G,Frame.atR,ou,GStep.after]
   rw[this];exact⟨ae,cT,eu,iL,rfl,.inr (.inl ⟨d,hq,rfl⟩)⟩
 ·cases hh<;>exact hq.elim
def VQ(hb:b.kind≠.early)(GV:(ops.toList.all λo=> !Hj o.op)=true)(l:List Nat):
 ∀(I:av) (ds:List Deferred) (U:Hp) (a:Act),jm E N ops (ki X) (l.filterMap (ops[·]?)) I ds U->cM N a I ds->
  ax E (G (b.atR a (.inRegion ops l::k)) cs) U (λg ae=>∃az da a',cM N a' az da/\X az da ae/\g=G (b.atR a' k) cs):=by
 induction l with
 |nil=>
  intro I ds U a h ha;exact ax.ctl (λw=>apx) rfl rfl (ax.here ⟨I,ds,a,ha,h,rfl⟩)
 |cons i rest ih=>
  intro I ds U a h ha
  cases ho:ops[i]? with
  |none=>
   rw[List.filterMap_cons_none ho]at h;have jz:((ops[i]?).map (Region.wanted · (yielded ops a.tmps))).getD false=false:=by rw[ho];rfl
   have fG:(b.atR a (.inRegion ops (i::rest)::k)).finish undef=b.atR a (.inRegion ops rest::k):=by rw[Frame.finish_atR,ho];rfl
   refine ax.ctl (g':=G (b.atR a (.inRegion ops rest::k)) cs) (λw=>?_) rfl rfl (ih _ _ _ _ h ha);rw[<-fG];simp only[Frame.atR]at*;simp[G,stepG,stepG.exec,jz]
  |some o=>
   rw[List.filterMap_cons_some ho]at h;simp only[jm]at h;obtain⟨hd,h⟩:=h;by_cases hw:Region.wanted o (hU N ops I)=true
   ·rw[if_pos hw]at h;have jz:Region.wanted o (yielded ops a.tmps)=true:=by rw[ha.yB];exact hw
    have h:=sz h;unfold wpOp at h;rw[<-ha.eval]at h
    have hod:Hj o.op=false:=by have:=List.all_eq_true.1 GV o (by rw[Array.getElem?_eq_some_iff]at ho;obtain⟨h1,rfl⟩:=ho;simp);simpa using this
    have h:wpS P (execOp a.eval o) (pI (λv ae=>jm E N ops (ki X) (rest.filterMap (ops[·]?)) (aC I o.dst v) ds ae) (λd ae=>jm E N ops (ki X) (rest.filterMap (ops[·]?)) (aC I o.dst undef) (d::ds) ae)
     (λf args ae=>aw E f args ae (yk (λv gE=>jm E N ops (ki X) (rest.filterMap (ops[·]?)) (aC I o.dst v) ds gE) λ_ _=>False))) (sG λ_ _=>False) U:=h
    refine ax.step rfl (apG (P:=P) (main:=E.main) (b:=b) (k:=k) (cs:=cs) (rest:=rest) ho jz hod hb h) ?_;rintro g ae (⟨v,hv,rfl⟩|⟨d,s9,rfl⟩|⟨f,args,hc,rfl⟩)
    ·exact ih _ _ _ _ hv (ha.put hd v)
    ·exact ih _ _ _ _ s9 ((ha.defer d).put hd undef)
    ·refine aw.run hc ?_ ?_
     ·intro v gE hv;have fG:(b.atR a (.inRegion ops (i::rest)::k)).finish v=b.atR (a.put o.dst v) (.inRegion ops rest::k):=by rw[Frame.finish_atR,ho];rfl
      rw[fG];exact ih _ _ _ _ hv (ha.put hd v)
     ·intro ch gE hp;exact hp.elim
   ·rw[if_neg hw]at h;have jz:((ops[i]?).map (Region.wanted · (yielded ops a.tmps))).getD false=false:=by rw[ho,ha.yB];simpa using hw
    have fG:(b.atR a (.inRegion ops (i::rest)::k)).finish undef=b.atR (a.put o.dst undef) (.inRegion ops rest::k):=by rw[Frame.finish_atR,ho];rfl
    refine ax.ctl (g':=G (b.atR (a.put o.dst undef) (.inRegion ops rest::k)) cs) (λw=>?_) rfl rfl (ih _ _ _ _ h (ha.put hd undef));rw[<-fG];simp only[Frame.atR]at*;simp[G,stepG,stepG.exec,jz]
variable {l:Nat}{r:Loop}
def Vl{dst:Option Tmp}{t x:Operand}{cA:Array TypeId}{ty:TypeId}{pos:String}{af:Array Edge}{gd:Option (Nat×Bool)}{p:Tmp}(ho:ops[i]? =some ⟨dst,.call ⟨.value t,#[x],cA⟩,ty,pos,af,gd⟩)(hw:Region.wanted ⟨dst,.call ⟨.value t,#[x],cA⟩,ty,pos,af,gd⟩ (yielded ops a.tmps)=true)(ht:a.eval t=.func (.yield l) #[] #[])(hl:U.f l=some (.loop r))(hp:r.params= #[p]):
 ic P main (G (b.at a (.inRegion ops (i::rest)::k)) cs) U λg ae=>ae=U/\
  g=G (Frame.round l r.fn (r.tmps.setIfInBounds p (a.eval x)) r.assign r.body .normal) (b.at a (.inRegion ops (i::rest)::k)::cs):=by
 intro auu w hs
 have h:wpS P (execOp a.eval ⟨dst,.call ⟨.value t,#[x],cA⟩,ty,pos,af,gd⟩) (λn ae=>n=.round l r.fn (r.tmps.setIfInBounds p (a.eval x)) r.assign r.body/\ae=U) (λ_ _=>False) U:=by simp only[execOp,resolve,Deferred.ofValue,ht,aG,bt,invoke,Instr.yield,Instr.getLoop,oL];refine⟨_,hl,rfl,?_⟩;simp only[bt,hp];simp[bt]
 obtain⟨w',ae,bY,e1,cT,eu,gA,hr⟩:=oM _ w U #[] h hs;have gI:((execOp a.eval ⟨dst,.call ⟨.value t,#[x],cA⟩,ty,pos,af,gd⟩).runT P w #[]).2=bY:=by simpa using e1
 rw[stepG_oper ho hw];have iL:∀fn,∀e∈seen P fn bY,iF auu w'.heap.size e:=λfn e he=>gA e (mem_seen he);rcases hr with⟨nx,hn,hq,rfl⟩|⟨hh,hn,hq⟩
 ·subst hq;have e2:(execOp a.eval ⟨dst,.call ⟨.value t,#[x],cA⟩,ty,pos,af,gd⟩).runT P w #[]=(_,bY):=Prod.ext hn gI;generalize execOp a.eval _=s at e2|-;unfold stepG.apply;simp only[if_true,e2,G,GStep.after];refine⟨_,cT,eu,λe he=>?_,rfl,rfl,rfl⟩;split at he
  ·simp[seen]at he
  ·simp only[Array.append_empty]at he;exact iL _ e he
 ·exact hq.elim
def w7(l:Nat)(fn:FuncId):Frame:={(default:Frame)with fn,kind:=.normal,roundOf:=some l}
variable {fn:FuncId}{x y:Code}
def aoo{tmps:Array Value}:Frame.round l fn tmps x y .normal=(w7 l fn).atR ⟨tmps,[]⟩ [.code x,.beginRound,.code y]:=by simp[Frame.round,w7,Frame.atR]
def apA(hl:U.f l=some (.loop r))(hs:r.state=.ready):
 ic P main (G ((w7 l fn).atR a (.beginRound::k)) cs) U λg ae=>ae=U.set l (.loop {r with state:=.busy})/\g=G ((w7 l fn).atR a k) cs:=by
 intro auu w cT
 have h:wpS P (do (some l).elim (stuck "beginRound: no round") Instr.beginRound;pure Next.skip) (λn ae=>n=.skip/\ae=U.set l (.loop {r with state:=.busy})) (λ_ _=>False) U:=by simp only[Option.elim,Instr.beginRound,Instr.getLoop,aG,oL];refine⟨_,hl,rfl,?_⟩;simp only[bt,tM];refine⟨_,hl,rfl,?_⟩;rw[hs];simp[bt]
 obtain⟨w',ae,bY,e1,iK,eu,gA,hr⟩:=oM _ w U #[] h cT;rcases hr with⟨nx,hn,rfl,rfl⟩|⟨hh,hn,hq⟩
 ·have gI:((do (some l).elim (stuck "beginRound: no round") Instr.beginRound;pure Next.skip:Sem Next).runT P w #[]).2=bY:=by simpa using e1
  have e2:(do (some l).elim (stuck "beginRound: no round") Instr.beginRound;pure Next.skip:Sem Next).runT P w #[]=(_,bY):=Prod.ext hn gI;have iL:∀fn,∀e∈seen P fn bY,iF auu w'.heap.size e:=λfn e he=>gA e (mem_seen he);simp only[G,Frame.atR,w7,stepG,stepG.exec];generalize D4:(do (some l).elim (stuck "beginRound: no round") Instr.beginRound;pure Next.skip:Sem Next)=s at e2|-;unfold stepG.apply;simp only[if_true,e2,GStep.after,Frame.finish];refine⟨_,iK,eu,λe he=>?_,rfl,rfl,rfl⟩;split at he
  ·simp[seen]at he
  ·simp only[Array.append_empty]at he;exact iL _ e he
 ·exact hq.elim
def apC{c:Frame}(hl:U.f l=some (.loop r)):
 ic P main (G ((w7 l fn).atR a []) (c::cs)) U λg ae=>ae=U.set l (.loop {r with state:=.ready,pending:=none})/\g=G (c.finish (.bool true)) cs:=by
 intro auu w cT
 have h:wpS P (Instr.endRound l none) (λn ae=>n=.bool true/\ae=U.set l (.loop {r with state:=.ready,pending:=none})) (λ_ _=>False) U:=by simp only[Instr.endRound,Instr.getLoop,aG,oL];refine⟨_,hl,rfl,?_⟩;simp only[bt,tM];refine⟨_,hl,rfl,?_⟩;simp
 obtain⟨w',ae,bY,e1,iK,eu,gA,hr⟩:=oM _ w U #[] h cT;rcases hr with⟨nx,hn,rfl,rfl⟩|⟨hh,hn,hq⟩
 ·have gI:((Instr.endRound l none).runT P w #[]).2=bY:=by simpa using e1
  have e2:(Instr.endRound l none).runT P w #[]=(_,bY):=Prod.ext hn gI;have iL:∀fn,∀e∈seen P fn bY,iF auu w'.heap.size e:=λfn e he=>gA e (mem_seen he);simp only[G,Frame.atR,w7,stepG,stepG.exec];generalize Instr.endRound l none=s at e2|-;simp only[e2,GStep.after,doReturn];exact⟨_,iK,eu,λe he=>iL _ e (aY he),rfl,rfl,rfl⟩
 ·exact hq.elim
def apH{f:Operand}{ps:Array Tmp}{fid:FuncId}{cap:Array Value}(hf:a.eval f=.func (.func fid) #[] cap)(hg:cz P fid=true)(hk:b.kind=.normal):
 ic P main (G (b.at a (.code (.rangeFunc f ps x y)::k)) cs) U λg ae=>∃d l,U.f d=none/\l≠d/\U.f l=none/\
  ae=(U.set d (.deferred (some []))).set l (.loop {state:=.ready,pending:=none,fn:=b.fn,tmps:=a.tmps,params:=ps,assign:=x,body:=y,defers:=d})/\
  g=G (Frame.enter P fid (#[.func (.yield l) #[] #[]]++cap) .normal) (b.at {a with defers:={target:=.collected d,args:=#[]}::a.defers} (.inRangeFunc l::k)::cs):=by
 intro auu w cT
 have h:wpS P (Instr.enterLoop b.fn a.tmps ps x y none) (λn ae=>∃d,n=(n.1,[{target:=.collected d,args:=#[]}])/\U.f d=none/\n.1≠d/\U.f n.1=none/\
  ae=(U.set d (.deferred (some []))).set n.1 (.loop {state:=.ready,pending:=none,fn:=b.fn,tmps:=a.tmps,params:=ps,assign:=x,body:=y,defers:=d})) (λ_ _=>False) U:=by
  simp only[Instr.enterLoop,aG,yA,bt];intro d hd l hl
  have aE:l≠d:=by intro e;subst e;simp[Hp.set]at hl
  refine⟨d,rfl,hd,aE,?_,rfl⟩;simpa[Hp.set,aE]using hl
 obtain⟨w1,cY,Qc,e1,j0,iB,Ky,hr⟩:=oM _ w U #[] h cT;rcases hr with⟨⟨l,mk⟩,hn,d,hm,hd,aE,R4,kI⟩|⟨hh,hn,hq⟩
 ·simp only[Prod.mk.injEq,true_and]at hm aE R4 kI;subst hm;have gI:((Instr.enterLoop b.fn a.tmps ps x y none).runT P w #[]).2=Qc:=by simpa using e1
  have e2:(Instr.enterLoop b.fn a.tmps ps x y none).runT P w #[]=(_,Qc):=Prod.ext hn gI
  have h3:∀ev:Operand->Value,ev f=a.eval f->(∀v,ev (.const v)=v)->wpS P (do let d<-resolve ev {callee:=.value f,args:=#[.const (.func (.yield l) #[] #[])],argTypes:=#[]} 0;invoke d.target d.args)
   (λn ae=>n=.enter fid (#[.func (.yield l) #[] #[]]++cap)/\ae=cY) (λ_ _=>False) cY:=by
   intro ev h1 h2;simp only[resolve,Deferred.ofValue,h1,hf,aG,bt,invoke];refine Ir hg ?_;simp[h2]
  have kF:∀td ds,({fn:=b.fn,tmps:=a.tmps,todo:=td,defers:=ds,mode:=.run,kind:=b.kind}:Frame).eval=a.eval:=by intro td ds;funext o;cases o<;>rfl
  simp only[G,Frame.at,stepG,stepG.exec];generalize Instr.enterLoop b.fn a.tmps ps x y none=s at e2|-;simp only[e2];have h4:=h3 a.eval rfl (λ_=>rfl);obtain⟨w2,jo,Jx,e3,iK,ik,Kz,bZ⟩:=oM _ w1 cY #[] h4 j0;rcases bZ with⟨nx,xO,rfl,tq⟩|⟨_,_,hq⟩
  ·subst tq;have e3':((do let d<-resolve a.eval {callee:=.value f,args:=#[.const (.func (.yield l) #[] #[])],argTypes:=#[]} 0;invoke d.target d.args:Sem Next).runT P w1 #[]).2=Jx:=by simpa using e3
   have e4:(do let d<-resolve a.eval {callee:=.value f,args:=#[.const (.func (.yield l) #[] #[])],argTypes:=#[]} 0;invoke d.target d.args:Sem Next).runT P w1 #[]=(_,Jx):=Prod.ext xO e3';simp only[kF];generalize(do let d<-resolve a.eval {callee:=.value f,args:=#[.const (.func (.yield l) #[] #[])],argTypes:=#[]} 0;invoke d.target d.args:Sem Next)=s2 at e4|-;unfold stepG.apply;simp only[if_true,e4,GStep.after,hk];refine⟨_,iK,iB.trans ik,λe he=>?_,rfl,d,l,hd,aE,R4,kI,rfl⟩;rcases Array.mem_append.1 he with he|he
   ·exact(Ky e (mem_seen he)).mono ik.tZ
   ·simp only[Array.append_empty]at he;exact Kz e (mem_seen he)
  ·exact hq.elim
 ·exact hq.elim
def apB(hl:U.f l=some (.loop r))(hs:r.state=.ready)(hp:r.pending=none):
 ic P main (G (b.at a (.endRangeFunc l::k)) cs) U λg ae=>ae=U.set l (.loop {r with state:=.exhausted})/\g=G (b.at a k) cs:=by
 intro auu w cT
 have h:wpS P (Instr.endLoop l) (λn ae=>n=none/\ae=U.set l (.loop {r with state:=.exhausted})) (λ_ _=>False) U:=by simp only[Instr.endLoop,Instr.getLoop,aG,oL];refine⟨_,hl,rfl,?_⟩;simp only[bt,hs];rw[if_neg ai,aG,tM];exact⟨_,hl,rfl,hp,rfl⟩
 obtain⟨w',ae,bY,e1,iK,eu,gA,hr⟩:=oM _ w U #[] h cT;rcases hr with⟨nx,hn,rfl,rfl⟩|⟨hh,hn,hq⟩
 ·have gI:((Instr.endLoop l).runT P w #[]).2=bY:=by simpa using e1
  have e2:(Instr.endLoop l).runT P w #[]=(_,bY):=Prod.ext hn gI;have iL:∀fn,∀e∈seen P fn bY,iF auu w'.heap.size e:=λfn e he=>gA e (mem_seen he);simp only[G,Frame.at,stepG,stepG.exec];generalize Instr.endLoop l=s at e2|-;simp only[e2,GStep.after];exact⟨_,iK,eu,λe he=>iL _ e (aY he),rfl,rfl,rfl⟩
 ·exact hq.elim
def apF{d:Nat}{fr:Frame}(hd:U.f d=some (.deferred (some [])))(hm:fr.mode=.returning)(nD:fr.defers=[{target:=.collected d,args:=#[]}]):
 ic P main (G fr cs) U λg ae=>ae=U.set d (.deferred none)/\g=G {fr with defers:=[]} cs:=by
 intro auu w cT
 have h:wpS P (Instr.takeDeferred d) (λn ae=>n=[]/\ae=U.set d (.deferred none)) (λ_ _=>False) U:=by simp only[Instr.takeDeferred,aG,oL];refine⟨_,hd,rfl,?_⟩;simp only[bt,aG,tM];exact⟨_,hd,rfl,trivial,trivial⟩
 obtain⟨w',ae,bY,e1,iK,eu,gA,hr⟩:=oM _ w U #[] h cT;rcases hr with⟨nx,hn,rfl,rfl⟩|⟨hh,hn,hq⟩
 ·have gI:((Instr.takeDeferred d).runT P w #[]).2=bY:=by simpa using e1
  have e2:(Instr.takeDeferred d).runT P w #[]=(_,bY):=Prod.ext hn gI;have iL:∀fn,∀e∈seen P fn bY,iF auu w'.heap.size e:=λfn e he=>gA e (mem_seen he);simp only[G,stepG,hm,unwind,nD];generalize Instr.takeDeferred d=s at e2|-;simp only[e2,GStep.after];exact⟨_,iK,eu,λe he=>iL _ e (aY he),rfl,rfl,rfl⟩
 ·exact hq.elim
end
section
open Go.Conc Go.Proofs
def bO:Code->Code| .seq x _=>x|c=>c
def aP:Code->Code| .seq _ y=>y|c=>c
def dP:Code->Code| .block _ c=>c| .loop c=>c|c=>c
def Fp:Code->Code| .cond _ x _=>x|c=>c
def bM:Code->Array Oper| .region _ o _=>o|_=>#[]
noncomputable def jq:Code:=f40.body.getD .skip
noncomputable def iM:Code:=aP (aP (aP (aP (aP jq))))
noncomputable def mj:Code:=dP (dP (bO iM))
noncomputable def ry:Code:=aP iM
noncomputable def kJ:Code:=dP (aP mj)
noncomputable def o5:Array Oper:=bM (bO (bO mj))
noncomputable def o6:Array Oper:=bM (bO kJ)
noncomputable def qk:List Item:=[.inBlock 1,.inLoop mj,.inBlock 0,.code ry]
def bU:Frame:={(default:Frame)with fn:=40,kind:=.normal}
def ajX:iM=.seq (.block 0 (.loop mj)) ry:=ah
def Ht:mj=.seq (.seq (.region 5 o5 false) (.cond (.tmp 18) .skip (.exit 0))) (.block 1 kJ):=ah
def SK:kJ=.seq (.region 6 o6 true) (aP kJ):=ah
structure Fx (cb sb ub db wg:Nat) (I:av):Prop where
 c:I 2=pV cb
 s:I 4=pV sb
 u:I 5=pV ub
 d:I 6=pV db
 w:I 7=pV wg
def W7:AD o6 o6.size (Array.replicate o6.size false)=[[0,1,2,3,4,5],[1,0,2,3,4,5],[1,2,0,3,4,5],[1,2,3,0,4,5],[1,2,3,4,0,5]]:=ah
structure Cn (bg:Nat) (ph fr:Int) (c:List Value):Prop where
 len:c.length=12
 g:c[0]? =some (pV bg)
 ph:c[2]? =some (.int .i64 ph)
 fr:c[7]? =some (.int .i64 fr)
structure Fam (cb sb bc c1 bg:Nat) (ph fr:Int) (κ:Hp):Prop where
 c:κ.f cb=some (.cells #[pV bc] 70 (0,0))
 s:κ.f sb=some (.cells #[.chan (some c1)] 119 (0,0))
 b:∃l z,κ.f bc=some (.cells l.toArray 90 z)/\Cn bg ph fr l
def Rd(cb sb bc:Nat)(a:Addr):Prop:=a=⟨cb,0,none⟩\/a=⟨sb,0,none⟩\/a=⟨bc,2,none⟩\/a=⟨bc,7,none⟩
def oT{κ:Hp}{b:Nat}{c:Array Value}{e:TypeId}{z:Nat×Nat}{o:Nat}{v:Value}(h:κ.f b=some (.cells c e z))(hv:c[o]? =some v):κ.cell? ⟨b,o,none⟩=some v:=by simp[Hp.cell?,h,hv]
variable {cb sb ub db wg:Nat}{I:av}
def Fx.up (h:Fx cb sb ub db wg I){d:Nat}(hd:8<=d)(v:Value):Fx cb sb ub db wg (up I d v):=by obtain⟨h1,h2,h3,h4,h5⟩:=h;constructor<;>(simp only[Qw.up];rw[if_neg aa];assumption)
variable {bc c1 bg:Nat}{ph fr:Int}{Q:av->Prop}
def aoW(hp:ph≠5)(hF:Fx cb sb ub db wg I)(hQ:∀az,Fx cb sb ub db wg az->az 18=.bool true->Q az):dL prog 52 o5 (Fam cb sb bc c1 bg ph fr) (Rd cb sb bc) Q [0,1,2,3,4] I:=by simp only[o5,mj,iM,jq,f40,Option.getD_some,aP,bO,dP,bM];refine pF (a:=⟨cb,0,none⟩) (v:=pV bc) rfl ai hF.c ah ah (.inl rfl) (λκ h=>oT h.c rfl) ?_;refine vl (a:=⟨bc,0,none⟩) rfl ai (by simp[ak,up]) ?_;refine vk (a:=⟨bc,0,none⟩) (off:=2) rfl ai (by simp[ak,up]) ah ?_;refine pF (a:=⟨bc,2,none⟩) (v:=.int .i64 ph) rfl ai (by simp[ak,up,Addr.add]) ah ah (.inr (.inr (.inl rfl))) (λκ h=>by obtain⟨l,z,h1,h2⟩:=h.b;exact oT h1 (by simpa using h2.ph)) ?_;refine E2 (v:=.bool true) rfl ai (by simp[ak,up,cK,hp]) ?_;refine hQ _ ?_ (by simp[up]);exact((((hF.up ai _).up ai _).up ai _).up ai _).up ai _
def aoZ(hF:Fx cb sb ub db wg I)(hQ:∀az,Fx cb sb ub db wg az->az 18=.bool (ph !=5)->Q az):dL prog 52 o5 (Fam cb sb bc c1 bg ph fr) (Rd cb sb bc) Q [0,1,2,3,4] I:=by simp only[o5,mj,iM,jq,f40,Option.getD_some,aP,bO,dP,bM];refine pF (a:=⟨cb,0,none⟩) (v:=pV bc) rfl ai hF.c ah ah (.inl rfl) (λκ h=>oT h.c rfl) ?_;refine vl (a:=⟨bc,0,none⟩) rfl ai (by simp[ak,up]) ?_;refine vk (a:=⟨bc,0,none⟩) (off:=2) rfl ai (by simp[ak,up]) ah ?_;refine pF (a:=⟨bc,2,none⟩) (v:=.int .i64 ph) rfl ai (by simp[ak,up,Addr.add]) ah ah (.inr (.inr (.inl rfl))) (λκ h=>by obtain⟨l,z,h1,h2⟩:=h.b;exact oT h1 (by simpa using h2.ph)) ?_;refine E2 (v:=.bool (ph !=5)) rfl ai (by simp[ak,up,cK]) ?_;refine hQ _ ?_ (by simp[up]);exact((((hF.up ai _).up ai _).up ai _).up ai _).up ai _
def AtSend(cb sb ub db wg c1:Nat)(fr:Int)(I:av):Prop:=Fx cb sb ub db wg I/\I 19=.chan (some c1)/\I 23=.int .i64 fr
def Vb(hF:Fx cb sb ub db wg I){p:List Nat}(hp:p∈[[0,1,2,3,4],[1,0,2,3,4],[1,2,0,3,4],[1,2,3,0,4],[1,2,3,4,0]]):dL prog 52 o6 (Fam cb sb bc c1 bg ph fr) (Rd cb sb bc) (AtSend cb sb ub db wg c1 fr) p I:=by
 simp only[o6,kJ,mj,iM,jq,f40,Option.getD_some,aP,bO,dP,bM]
 have Ei:∀{rest:List Nat} {I:av},Fx cb sb ub db wg I->∀{ops:Array Oper} {ps:String} {af:Array Edge} {ty:Nat} {Q:av->Prop},ops[0]? =some {dst:=some 19,op:=.load 119 (.tmp 4),type:=ty,pos:=ps,after:=af,guard:=none}->
  dL prog 52 ops (Fam cb sb bc c1 bg ph fr) (Rd cb sb bc) Q rest (up I 19 (.chan (some c1)))->dL prog 52 ops (Fam cb sb bc c1 bg ph fr) (Rd cb sb bc) Q (0::rest) I:=by
  intro rest I hF ops ps af ty Q ho k;exact pF (a:=⟨sb,0,none⟩) (v:=.chan (some c1)) ho ai hF.s ah ah (.inr (.inl rfl)) (λκ h=>oT h.s rfl) k
 have Ej:∀{rest:List Nat} {I:av},Fx cb sb ub db wg I->∀{ops:Array Oper} {ps:String} {af:Array Edge} {ty:Nat} {Q:av->Prop},ops[1]? =some {dst:=some 20,op:=.load 70 (.tmp 2),type:=ty,pos:=ps,after:=af,guard:=none}->
  dL prog 52 ops (Fam cb sb bc c1 bg ph fr) (Rd cb sb bc) Q rest (up I 20 (pV bc))->dL prog 52 ops (Fam cb sb bc c1 bg ph fr) (Rd cb sb bc) Q (1::rest) I:=by
  intro rest I hF ops ps af ty Q ho k;exact pF (a:=⟨cb,0,none⟩) (v:=pV bc) ho ai hF.c ah ah (.inl rfl) (λκ h=>oT h.c rfl) k
 have Ek:∀{rest:List Nat} {I:av},I 22=.pointer (some ⟨bc,7,none⟩)->∀{ops:Array Oper} {ps:String} {af:Array Edge} {ty:Nat} {Q:av->Prop},ops[4]? =some {dst:=some 23,op:=.load 3 (.tmp 22),type:=ty,pos:=ps,after:=af,guard:=none}->
  dL prog 52 ops (Fam cb sb bc c1 bg ph fr) (Rd cb sb bc) Q rest (up I 23 (.int .i64 fr))->dL prog 52 ops (Fam cb sb bc c1 bg ph fr) (Rd cb sb bc) Q (4::rest) I:=by
  intro rest I hF ops ps af ty Q ho k;exact pF (a:=⟨bc,7,none⟩) (v:=.int .i64 fr) ho ai hF ah ah (.inr (.inr (.inr rfl))) (λκ h=>by obtain⟨l,z,h1,h2⟩:=h.b;exact oT h1 (by simpa using h2.fr)) k
 have fin:∀{I:av},Fx cb sb ub db wg I->I 19=.chan (some c1)->I 23=.int .i64 fr->AtSend cb sb ub db wg c1 fr I:=λh1 h2 h3=>⟨h1,h2,h3⟩;simp only[List.mem_cons,List.not_mem_nil,or_false]at hp;rcases hp with rfl|rfl|rfl|rfl|rfl
 ·refine Ei hF rfl (Ej (hF.up ai _) rfl ?_);refine vl (a:=⟨bc,0,none⟩) rfl ai (by simp[ak,up]) ?_;refine vk (a:=⟨bc,0,none⟩) (off:=7) rfl ai (by simp[ak,up]) ah ?_;refine Ek (by simp[up,Addr.add]) rfl ?_;exact fin ((((((hF.up ai _).up ai _).up ai _).up ai _).up ai _)) (by simp[up]) (by simp[up])
 ·refine Ej hF rfl (Ei (hF.up ai _) rfl ?_);refine vl (a:=⟨bc,0,none⟩) rfl ai (by simp[ak,up]) ?_;refine vk (a:=⟨bc,0,none⟩) (off:=7) rfl ai (by simp[ak,up]) ah ?_;refine Ek (by simp[up,Addr.add]) rfl ?_;exact fin ((((((hF.up ai _).up ai _).up ai _).up ai _).up ai _)) (by simp[up]) (by simp[up])
 ·refine Ej hF rfl ?_;refine vl (a:=⟨bc,0,none⟩) rfl ai (by simp[ak,up]) ?_;refine Ei ((hF.up ai _).up ai _) rfl ?_;refine vk (a:=⟨bc,0,none⟩) (off:=7) rfl ai (by simp[ak,up]) ah ?_;refine Ek (by simp[up,Addr.add]) rfl ?_;exact fin ((((((hF.up ai _).up ai _).up ai _).up ai _).up ai _)) (by simp[up]) (by simp[up])
 ·refine Ej hF rfl ?_;refine vl (a:=⟨bc,0,none⟩) rfl ai (by simp[ak,up]) ?_;refine vk (a:=⟨bc,0,none⟩) (off:=7) rfl ai (by simp[ak,up]) ah ?_;refine Ei (((hF.up ai _).up ai _).up ai _) rfl ?_;refine Ek (by simp[up,Addr.add]) rfl ?_;exact fin ((((((hF.up ai _).up ai _).up ai _).up ai _).up ai _)) (by simp[up]) (by simp[up])
 ·refine Ej hF rfl ?_;refine vl (a:=⟨bc,0,none⟩) rfl ai (by simp[ak,up]) ?_;refine vk (a:=⟨bc,0,none⟩) (off:=7) rfl ai (by simp[ak,up]) ah ?_;refine Ek (by simp[up,Addr.add]) rfl ?_;refine Ei ((((hF.up ai _).up ai _).up ai _).up ai _) rfl ?_;exact fin ((((((hF.up ai _).up ai _).up ai _).up ai _).up ai _)) (by simp[up]) (by simp[up])
def UU(t:Nat):∃p,Region.schedule (prog.follows .mixedOrders) o6 t=p++[5]/\p∈[[0,1,2,3,4],[1,0,2,3,4],[1,2,0,3,4],[1,2,3,0,4],[1,2,3,4,0]]:=by
 have hm:prog.follows .mixedOrders=true:=ah;have:=QQ o6 o6.size t (Array.replicate o6.size false);rw[W7]at this;simp only[Region.schedule,hm,Bool.true_or,if_true,Region.linearise];simp only[List.mem_cons,List.not_mem_nil,or_false]at this;rcases this with h|h|h|h|h
 ·exact⟨[0,1,2,3,4],h,ai⟩
 ·exact⟨[1,0,2,3,4],h,ai⟩
 ·exact⟨[1,2,0,3,4],h,ai⟩
 ·exact⟨[1,2,3,0,4],h,ai⟩
 ·exact⟨[1,2,3,4,0],h,ai⟩
noncomputable def o7:Array Oper:=bM (bO (aP kJ))
noncomputable def r8:Code:=aP (aP kJ)
def aof:aP kJ=.seq (.region 7 o7 false) r8:=ah
def zU:Value:=.agg #[.int .i64 0,.int .i64 0,.string {data:=#[]},.bool false,.bool false]
def IJ(cb sb ub db wg:Nat)(cs:List Frame)(g:Goroutine):Prop:=
 ∃I a,cM 52 a I []/\Fx cb sb ub db wg I/\g=G (bU.at a (.inRegion o6 [5]:: .code (aP kJ)::qk)) cs
def EY(cb sb ub db wg c1:Nat)(fr:Int)(cs:List Frame):Seat:={cases:=#[scase c1 (.int .i64 fr) (.tuple #[])],shape:=.send,home:=IJ cb sb ub db wg cs}
def T0:∃ps af,o6[5]? =some {dst:=none,op:=.send (.tmp 19) (.tmp 23),type:=0,pos:=ps,after:=af,guard:=none}:=⟨_,_,by simp only[o6,kJ,mj,iM,jq,f40,Option.getD_some,aP,bO,dP,bM];rfl⟩
variable {cs:List Frame}{K:World->Prop}{Still:Loc->Prop}{Bd:Nat}{main:Bool}{a:Act}
def ON(ha:cM 52 a I [])(h:AtSend cb sb ub db wg c1 fr I):
 AtIn prog main K Still Bd (EY cb sb ub db wg c1 fr cs) (G (bU.at a (.inRegion o6 [5]:: .code (aP kJ)::qk)) cs) (G (bU.at a (.inRegion o6 [5]:: .code (aP kJ)::qk)) cs):=by
 obtain⟨ps,af,ho⟩:=T0;obtain⟨h1,h2,h3⟩:=h;refine atIn_of ho rfl (by simp[bU]) (λw=>?_) (λw=>?_) ⟨I,a,ha,h1,rfl⟩
 ·simp[execOp,ha.eval,ak,h2,h3,EY,scase]
 ·simp[execOp]
variable {cb sb ub db wg bc c1 bg:Nat}{ph fr:Int}{cs:List Frame}{K:World->Prop}{Still:Loc->Prop}{Bd:Nat}
theorem aq1 (hp:ph≠5)(hK:∀w,K w->∃κ,Fam cb sb bc c1 bg ph fr κ/\∀b o,κ.f b=some o->w.heap[b]? =some o)(hS:∀a,Rd cb sb bc a->Still (.cell a)/\a.block<Bd){I:av}{a:Act}(ha:cM 52 a I [])(hF:Fx cb sb ub db wg I):
 Way prog true K Still Bd (EY cb sb ub db wg c1 fr cs) 22 (G (bU.at a (.code mj:: .inLoop mj:: .inBlock 0:: .code ry::[])) cs):=by
 rw[Ht];refine Way.ctl (λw=>stepG_seq) rfl ?_;refine Way.ctl (λw=>stepG_seq) rfl ?_;refine Way.region ?_;rw[<-Ht];have hr:List.range o5.size=[0,1,2,3,4]++[]:=ah;rw[hr];refine Way.mono (n:=13+5) ai ?_;refine Fi hK hS (by simp[bU]) (Q:=λI=>Fx cb sb ub db wg I/\I 18=.bool true) (λI a ha ⟨hF,vP⟩=>?_) [0,1,2,3,4] I a (aoW hp hF λaz h1 h2=>⟨h1,h2⟩) ha;refine Way.ctl (λw=>stepG_region_end) rfl ?_;refine Way.ctl (λw=>stepG_cond (t:=true) (by rw[ha.eval];exact vP)) rfl ?_;refine Way.ctl (λw=>stepG_skip) rfl ?_;refine Way.ctl (λw=>stepG_block) rfl ?_;rw[SK];refine Way.ctl (λw=>stepG_seq) rfl ?_;refine Way.Js λt=>?_;obtain⟨p,KY,Bq⟩:=UU t;rw[KY];refine Way.mono (n:=0+p.length) ?_ (Fi hK hS (by simp[bU]) (n:=0) (λI a ha h=>⟨_,ON ha h⟩) p I a (Vb hF Bq) ha);simp only[List.mem_cons,List.not_mem_nil,or_false]at Bq;rcases Bq with rfl|rfl|rfl|rfl|rfl<;>decide
def NY(cb sb ub db wg:Nat)(cs:List Frame)(g:Goroutine):Prop:=
 ∃I a,cM 52 a I []/\Fx cb sb ub db wg I/\g=G (bU.at a (.inRegion o7 [1,2,3]:: .code r8::qk)) cs
def Ae(cb sb ub db wg c2:Nat)(cs:List Frame):Seat:={cases:=#[rcase c2 zU],shape:=.recv false,home:=NY cb sb ub db wg cs}
def alw:∃ps af,o7[0]? =some {dst:=some 24,op:=.load 120 (.tmp 5),type:=120,pos:=ps,after:=af,guard:=none}:=⟨_,_,by simp only[o7,kJ,mj,iM,jq,f40,Option.getD_some,aP,bO,dP,bM];rfl⟩
def T6:∃ps af,o7[1]? =some {dst:=some 25,op:=.recv 120 (.tmp 24) false,type:=135,pos:=ps,after:=af,guard:=none}:=⟨_,_,by simp only[o7,kJ,mj,iM,jq,f40,Option.getD_some,aP,bO,dP,bM];rfl⟩
def NU(ub c2:Nat)(κ:Hp):Prop:=κ.f ub=some (.cells #[.chan (some c2)] 120 (0,0))
variable {c2:Nat}
def X3(ha:cM 52 a I [])(h1:Fx cb sb ub db wg I)(h2:I 24=.chan (some c2)):
 AtIn prog main K Still Bd (Ae cb sb ub db wg c2 cs) (G (bU.at a (.inRegion o7 [1,2,3]:: .code r8::qk)) cs) (G (bU.at a (.inRegion o7 [1,2,3]:: .code r8::qk)) cs):=by
 obtain⟨ps,af,ho⟩:=T6;refine atIn_of ho rfl (by simp[bU]) (λw=>?_) (λw=>?_) ⟨I,a,ha,h1,rfl⟩
 ·rw[ha.eval];simp[execOp,ak,h2,Ae,rcase,zU,runUnderlying120,zeroValue135,go_sem]
 ·simp[execOp,go_sem]
def aqZ(hK:∀w,K w->∃κ,NU ub c2 κ/\∀b o,κ.f b=some o->w.heap[b]? =some o)(hS:Still (.cell ⟨ub,0,none⟩)/\ub<Bd){g:Goroutine}(h:IJ cb sb ub db wg cs g):
 Way prog true K Still Bd (Ae cb sb ub db wg c2 cs) 4 (Go.Conc.served g undef):=by
 obtain⟨I,a,ha,hF,rfl⟩:=h;obtain⟨ps,af,ho⟩:=T0
 have e:Go.Conc.served (G (bU.at a (.inRegion o6 [5]:: .code (aP kJ)::qk)) cs) undef=G (bU.at a (.inRegion o6 []:: .code (aP kJ)::qk)) cs:=by have:=Frame.finish_at bU a o6 5 [] (.code (aP kJ)::qk) undef;rw[ho]at this;simp only[Go.Conc.served,G,this];rfl
 rw[e,aof];refine Way.ctl (λw=>stepG_region_end) rfl ?_;refine Way.ctl (λw=>stepG_seq) rfl ?_;refine Way.region ?_;have hr:List.range o7.size=[0]++[1,2,3]:=ah;rw[hr];obtain⟨ps0,af0,ho0⟩:=alw;refine Fi (Ok:=λa=>a=⟨ub,0,none⟩) hK (λa ha=>by rw[ha];exact hS) (by simp[bU]) (n:=0) (Q:=λI=>Fx cb sb ub db wg I/\I 24=.chan (some c2)) (λI a ha ⟨h1,h2⟩=>⟨_,X3 ha h1 h2⟩) [0] I a ?_ ha;exact pF (a:=⟨ub,0,none⟩) (v:=.chan (some c2)) ho0 ai hF.u ah ah rfl (λκ h=>oT h rfl) ⟨hF.up ai _,by simp[up]⟩
noncomputable def pJ:Code:=f58.body.getD .skip
noncomputable def p0:Array Oper:=bM (bO pJ)
noncomputable def ln:Code:=dP (dP (aP pJ))
noncomputable def pq:Code:=dP ln
noncomputable def q1:Array Oper:=bM (bO (bO pq))
noncomputable def q2:Array Oper:=bM (aP (bO pq))
noncomputable def q3:Array Oper:=bM (bO (aP pq))
noncomputable def my:Code:=dP (aP (aP pq))
noncomputable def q4:Array Oper:=bM (bO (Fp my))
noncomputable def q5:Array Oper:=bM (aP (Fp my))
noncomputable def kw:List Item:=[.inBlock 1,.inLoop ln,.inBlock 0]
def gS:Frame:={(default:Frame)with fn:=58,kind:=.normal}
def Wc:pJ=.seq (.region 0 p0 false) (.block 0 (.loop ln)):=ah
def Wq:ln=.block 1 pq:=ah
def aho:pq=.seq (.seq (.region 1 q1 false) (.region 2 q2 false)) (.seq (.region 3 q3 false) (.block 2 my)):=ah
def Pf:my=.cond (.tmp 23) (.seq (.region 4 q4 false) (.region 5 q5 false)) (.cond (.tmp 24) .ret .skip):=ah
structure Fw (bc c1 c2 c3:Nat) (I:av):Prop where
 c:I 0=.pointer (some ⟨bc,3,none⟩)
 s:I 2=.chan (some c1)
 u:I 3=.chan (some c2)
 d:I 4=.chan (some c3)
variable {c3:Nat}
def Fw.up (h:Fw bc c1 c2 c3 I){d:Nat}(hd:5<=d)(v:Value):Fw bc c1 c2 c3 (up I d v):=by obtain⟨h1,h2,h3,h4⟩:=h;constructor<;>(simp only[Qw.up];rw[if_neg aa];assumption)
def FC(bc c1 c2 c3:Nat)(cw:List Frame)(g:Goroutine):Prop:=
 ∃I a,cM 30 a I []/\Fw bc c1 c2 c3 I/\g=G (gS.at a (.inRegion q3 [0,1,2,3]:: .code (.block 2 my)::kw)) cw
def jk(bc c1 c2 c3:Nat)(cw:List Frame):Seat:={cases:=#[rcase c1 (.int .i64 0),rcase c3 (.agg #[])],shape:=.select,home:=FC bc c1 c2 c3 cw}
def amR:∃ps af,q1[0]? =some {dst:=some 19,op:=.move (.tmp 2),type:=208,pos:=ps,after:=af,guard:=none}:=⟨_,_,by simp only[q1,pq,ln,pJ,f58,Option.getD_some,aP,bO,dP,bM];rfl⟩
def amS:∃ps af,q2[0]? =some {dst:=some 20,op:=.move (.tmp 4),type:=210,pos:=ps,after:=af,guard:=none}:=⟨_,_,by simp only[q2,pq,ln,pJ,f58,Option.getD_some,aP,bO,dP,bM];rfl⟩
def ME:∃ps af,q3[0]? =some {dst:=some 21,op:=.select #[{chan:=.tmp 19,send:=none,elem:=3},{chan:=.tmp 20,send:=none,elem:=122}] true,type:=0,pos:=ps,after:=af,guard:=none}:=⟨_,_,by simp only[q3,pq,ln,pJ,f58,Option.getD_some,aP,bO,dP,bM];rfl⟩
variable {cw:List Frame}
def X4(ha:cM 30 a I [])(h:Fw bc c1 c2 c3 I)(h1:I 19=.chan (some c1))(h2:I 20=.chan (some c3)):
 AtIn prog main K Still Bd (jk bc c1 c2 c3 cw) (G (gS.at a (.inRegion q3 [0,1,2,3]:: .code (.block 2 my)::kw)) cw) (G (gS.at a (.inRegion q3 [0,1,2,3]:: .code (.block 2 my)::kw)) cw):=by
 obtain⟨ps,af,ho⟩:=ME;refine atIn_of ho rfl (by simp[gS]) (λw=>?_) (λw=>?_) ⟨I,a,ha,h,rfl⟩
 ·rw[ha.eval];simp[execOp,ak,h1,h2,jk,rcase,zeroValue3,zeroValue122,go_sem]
 ·simp[execOp,go_sem]
def VK(ha:cM 30 a I [])(h:Fw bc c1 c2 c3 I):Way prog main K Still Bd (jk bc c1 c2 c3 cw) 12 (G (gS.at a (.code ln:: .inLoop ln:: .inBlock 0::[])) cw):=by
 obtain⟨ps1,af1,GW⟩:=amR;obtain⟨MD,IY,zB⟩:=amS;have hK:∀w,K w->∃κ:Hp,True/\∀b o,κ.f b=some o->w.heap[b]? =some o:=λw _=>⟨⟨λ_=>none⟩,trivial,λb o hb=>by cases hb⟩;have e:(.code ln:: .inLoop ln:: .inBlock 0::[]:List Item)=.code (.block 1 pq):: .inLoop ln:: .inBlock 0::[]:=by rw[<-Wq]
 rw[e,aho];refine Way.ctl (λw=>stepG_block) rfl ?_;refine Way.ctl (λw=>stepG_seq) rfl ?_;refine Way.ctl (λw=>stepG_seq) rfl ?_;refine Way.region ?_;have fD:List.range q1.size=[0]++[]:=ah;have bZ:List.range q2.size=[0]++[]:=ah;have eN:List.range q3.size=[0,1,2,3]:=ah;rw[fD];refine Fi (n:=7) (Fam:=λ_=>True) (Ok:=λ_=>False) hK (λ_ h=>h.elim) (by simp[gS]) (Q:=λI=>Fw bc c1 c2 c3 I/\I 19=.chan (some c1)) (λI a ha ⟨h,h1⟩=>?_) [0] I a (H6 GW ai ⟨h.up ai _,by simp[up,ak,h.s]⟩) ha;refine Way.ctl (λw=>stepG_region_end) rfl ?_;refine Way.region ?_;rw[bZ]
 refine Fi (n:=4) (Fam:=λ_=>True) (Ok:=λ_=>False) hK (λ_ h=>h.elim) (by simp[gS]) (Q:=λI=>Fw bc c1 c2 c3 I/\I 19=.chan (some c1)/\I 20=.chan (some c3)) (λI a ha ⟨h,h1,h2⟩=>?_) [0] I a
  (H6 zB ai ⟨h.up ai _,by simp[up,h1],by simp[up,ak,h.d]⟩) ha
 refine Way.ctl (λw=>stepG_region_end) rfl ?_;refine Way.ctl (λw=>stepG_seq) rfl ?_;refine Way.region ?_;rw[eN];exact .inl ⟨_,X4 ha h h1 h2⟩
def IK(bc c1 c2 c3:Nat)(cw:List Frame)(g:Goroutine):Prop:=
 ∃I a,cM 30 a I []/\Fw bc c1 c2 c3 I/\g=G (gS.at a (.inRegion q5 [4]:: .inBlock 2::kw)) cw
def Us:∃ps af,q5[4]? =some {dst:=none,op:=.send (.tmp 26) (.tmp 29),type:=0,pos:=ps,after:=af,guard:=none}:=⟨_,_,by simp only[q5,my,pq,ln,pJ,f58,Option.getD_some,aP,dP,bM,Fp];rfl⟩
def aq0{g:Goroutine}(h:IK bc c1 c2 c3 cw g):Way prog main K Still Bd (jk bc c1 c2 c3 cw) 16 (Go.Conc.served g undef):=by
 obtain⟨I,a,ha,hF,rfl⟩:=h;obtain⟨ps,af,ho⟩:=Us
 have e:Go.Conc.served (G (gS.at a (.inRegion q5 [4]:: .inBlock 2::kw)) cw) undef=G (gS.at a (.inRegion q5 []:: .inBlock 2::kw)) cw:=by have:=Frame.finish_at gS a q5 4 [] (.inBlock 2::kw) undef;rw[ho]at this;simp only[Go.Conc.served,G,this];rfl
 rw[e];refine Way.ctl (λw=>stepG_region_end) rfl ?_;refine Way.ctl (λw=>stepG_inBlock) rfl ?_;refine Way.ctl (λw=>stepG_inBlock) rfl ?_;refine Way.ctl (λw=>stepG_inLoop) rfl ?_;exact VK ha hF
structure Un where
 kind:Int
 channel:Int
 jh:List UInt8
 kC:Bool
 gv:Bool
def Un.idle(u:Un):Bool:=u.kind==0&& !u.kC&& !u.gv
def uV(u:Un):Value:=.agg #[.int .i64 u.kind,.int .i64 u.channel,.string (B u.jh),.bool u.kC,.bool u.gv]
structure FS where
 γ:Type
 aut:γ->Hp->Prop
 auu:γ->Hp->Prop
 K:γ->Hp->Prop
 oH:γ->List UInt8->Prop
 bc:Nat
 bg:Nat
 bb:Nat
 ph:γ->Int
 fr:γ->Int
 rest:γ->List UInt8
 nx:γ->Un->γ->Prop
 un:γ->Un->γ->Prop
 sv:γ->γ->Prop
 add:γ->List UInt8->γ
 μ:γ->Nat
 conn:∀{a U},aut a U->∃l,U.f bc=some (.cells l.toArray 90 (0,0))/\Cn bg (ph a) (fr a) l/\l[3]? =some (.string (B (rest a)))
 CE:∀{a U},K a U->∃l,U.f bc=some (.cells l.toArray 90 (0,0))/\Cn bg (ph a) (fr a) l
 gate:∀{a U},K a U->∃l:List Value,U.f bg=some (.cells l.toArray 74 (0,0))/\l.length=9/\l[5]? =some (pV bb)
 grow:∀{a U} {l:List Value} (c:List UInt8),oH a c->aut a U->U.f bc=some (.cells l.toArray 90 (0,0))->aut (add a c) (U.set bc (.cells (l.set 3 (.string (B (rest a++c)))).toArray 90 (0,0)))
 small:∀{a U},aut a U->(rest a).length<=1000000
 Up:∀a c,ph (add a c)=ph a
 Qx:∀a c,fr (add a c)=fr a
 next:∀{E:Env prog} {a U},aut a U->aw E 104 #[.pointer (some ⟨bc,3,none⟩),.int .i64 (fr a)] U λe J=>∃u b,nx a u b/\auu b J/\e=.returned (uV u)
 unit:∀{E:Env prog} {a u b U},ph a≠5->nx a u b->u.idle=false->auu b U->aw E 59 #[pV bc,uV u] U λe J=>∃c,un b u c/\K c J/\e=.returned (.tuple #[])
 serve:∀{E:Env prog} {b u c U},un b u c->K c U->aw E 54 #[pV bb] U λe J=>∃d,sv c d/\aut d J/\e=.returned (.tuple #[])
 idle:∀{a u b U},nx a u b->u.idle=true->auu b U->aut b U
 dec:∀{a u b c d},ph a≠5->nx a u b->u.idle=false->un b u c->sv c d->μ d<μ a
inductive FS.Loop (F:FS):F.γ->F.γ->Prop
 |gone {a:_}:F.ph a=5->F.Loop a a
 |idle {a u b:_}:F.ph a≠5->F.nx a u b->u.idle=true->F.Loop a b
 |step {a u b c d e:_}:F.ph a≠5->F.nx a u b->u.idle=false->F.un b u c->F.sv c d->F.Loop d e->F.Loop a e
section
variable (F:FS){E:Env prog}{c1 c2 c3:Nat}{cw:List Frame}{φ:Hp}
def aq9 {a:F.γ}{U:Hp}(hI:F.aut a U)(hd:U.dr φ){g:Goroutine}(hg:FC F.bc c1 c2 c3 cw g):
 ax E (Go.Conc.served g (.tuple #[.int .i64 0,.bool true,.int .i64 (F.fr a),.agg #[]])) (U.bA φ) λg' J=>∃u b ae,F.nx a u b/\F.auu b ae/\ae.dr φ/\J=ae.bA φ/\
  ∃I ac,cM 30 ac I []/\Fw F.bc c1 c2 c3 I/\I 26=.chan (some c2)/\I 29=uV u/\g'=G (gS.at ac (.inRegion q5 [4]:: .inBlock 2::kw)) cw:=by
 obtain⟨I,ac,ha,hF,rfl⟩:=hg;obtain⟨ps,af,ho⟩:=ME
 have e:Go.Conc.served (G (gS.at ac (.inRegion q3 [0,1,2,3]:: .code (.block 2 my)::kw)) cw) (.tuple #[.int .i64 0,.bool true,.int .i64 (F.fr a),.agg #[]])=
  G (gS.at (ac.put (some 21) (.tuple #[.int .i64 0,.bool true,.int .i64 (F.fr a),.agg #[]])) (.inRegion q3 [1,2,3]:: .code (.block 2 my)::kw)) cw:=by
  have:=Frame.finish_at gS ac q3 0 [1,2,3] (.code (.block 2 my)::kw) (.tuple #[.int .i64 0,.bool true,.int .i64 (F.fr a),.agg #[]]);rw[ho]at this;simp only[Go.Conc.served,G,this];rfl
 rw[e];have dk:cM 30 _ _ []:=ha.put (dst:=some 21) ai (.tuple #[.int .i64 0,.bool true,.int .i64 (F.fr a),.agg #[]])
 have h1:=yz (E:=E) (N:=30) (ops:=q3) (Q:=ki λI ds ae=>Fw F.bc c1 c2 c3 I/\I 21=.tuple #[.int .i64 0,.bool true,.int .i64 (F.fr a),.agg #[]]/\I 23=.bool true/\ds=[]/\ae=U.bA φ) gS (by simp[gS]) (.code (.block 2 my)::kw) cw [] yl [1,2,3] _ [] (U.bA φ) _
  (by
   simp only[q3,pq,ln,pJ,f58,Option.getD_some,aP,bO,dP,bM]
   simp only[List.filterMap_cons,List.filterMap_nil,List.getElem?_toArray,List.getElem?_cons_succ,List.getElem?_cons_zero]
   simp only[go_sem,seval,aC,up]
   exact⟨(((hF.up ai _).up ai _).up ai _).up ai _,by simp[up],by simp[up],rfl,rfl⟩) dk
 refine h1.bind ?_;rintro g' J ⟨qz,ds1,a1,dk,⟨om,h21,JV,rfl,rfl⟩,rfl⟩;refine ax.ctl (λw=>stepG_region_end) rfl rfl ?_;refine ax.ctl (λw=>stepG_block) rfl rfl ?_;rw[Pf];refine ax.ctl (λw=>stepG_cond (t:=true) (by rw[dk.eval];exact JV)) rfl rfl ?_;refine ax.ctl (λw=>stepG_seq) rfl rfl ?_;refine(nR (E:=E) (N:=30) (X:=λI ds ae=>Fw F.bc c1 c2 c3 I/\I 10=.int .i64 (F.fr a)/\ds=[]/\ae=U.bA φ) ?_ (by simp[gS]) dk).bind ?_
 ·simp only[q4,my,pq,ln,pJ,f58,Option.getD_some,aP,bO,dP,bM,Fp];simp only[go_sem,seval,aC,up,h21];exact⟨(om.up ai _).up ai _,by simp[up],rfl,rfl⟩
 rintro g' J ⟨mw,ds2,a2,gK,⟨nv,bB,rfl,rfl⟩,rfl⟩;refine ax.ctl (λw=>stepG_region) rfl rfl ?_;have hr:List.range q5.size=[0,1,2,3]++[4]:=ah;rw[hr];refine(yz (E:=E) (N:=30) (ops:=q5) (Q:=ki λI ds J=>ds=[]/\∃u b ae,F.nx a u b/\F.auu b ae/\ae.dr φ/\J=ae.bA φ/\Fw F.bc c1 c2 c3 I/\I 26=.chan (some c2)/\I 29=uV u) gS (by simp[gS]) (.inBlock 2::kw) cw [4] yl [0,1,2,3] _ [] (U.bA φ) _ ?_ gK).bind ?_
 ·simp only[q5,my,pq,ln,pJ,f58,Option.getD_some,aP,dP,bM,Fp];simp only[List.filterMap_cons,List.filterMap_nil,List.getElem?_toArray,List.getElem?_cons_succ,List.getElem?_cons_zero];simp only[go_sem,seval,aC,up,nv.u,nv.c,bB];refine dG ac8 ((F.next hI).kz hd) ?_ ?_
  ·rintro v J ⟨ae,jI,rfl,u,b,hn,hb,hv⟩
   cases hv
   simp only[go_sem,seval,aC];exact⟨rfl,u,b,ae,hn,hb,jI,rfl,(((nv.up ai _).up ai _).up ai _).up ai _,by simp[up],by simp[up]⟩
  ·rintro ch J ⟨ae,jI,rfl,u,b,hn,hb,hv⟩
   cases hv
 ·rintro g' J ⟨IA,ds3,a3,s6,⟨rfl,u,b,ae,hn,hb,jI,rfl,uf,CZ,C0⟩,rfl⟩;exact ax.here ⟨u,b,ae,hn,hb,jI,rfl,IA,a3,s6,uf,CZ,C0,rfl⟩
end
variable {P:Program}{E:Env P}{N:Nat}{ops:Array Oper}{U:Hp}{F:Hp->Prop}{Ok:Addr->Prop}{ds:List Deferred}
def arc(kI:F U):∀(p:List Nat) (I:av),dL P N ops F Ok Q p I->jm E N ops (ki λI da J=>Q I/\da=ds/\J=U) (p.filterMap (ops[·]?)) I ds U:=by
 intro p
 induction p with
 |nil=>exactλI h=>⟨h,rfl,rfl⟩
 |cons i p ih=>
  intro I hs;simp only[dL]at hs
  cases ho:ops[i]? with
  |none=>rw[ho]at hs;exact hs.elim
  |some o=>
   rw[ho]at hs;obtain⟨h1,h2,h3,h4,v,h5,h6⟩:=hs;rw[List.filterMap_cons_some ho];simp only[jm];refine⟨h1,?_⟩;rw[if_pos (by simp[Region.wanted,h2])];exact MI (h5 U kI) (ih _ h6)
variable {b:Frame}{k:List Item}
def MN(kI:F U)(hb:b.kind≠.early)(tl p:List Nat)(h:dL P N ops F Ok Q p I)(ha:cM N a I ds):
 ax E (G (b.at a (.inRegion ops (p++tl)::k)) cs) U λg J=>J=U/\∃az a',cM N a' az ds/\Q az/\g=G (b.at a' (.inRegion ops tl::k)) cs:=by
 refine(yz b hb k cs tl yl p I ds U a (arc (E:=E) kI p I h) ha).mono ?_;rintro g J ⟨az,da,a',dH,⟨hq,rfl,rfl⟩,rfl⟩;exact⟨rfl,az,a',dH,hq,rfl⟩
def aoq{id:Nat}{S:Goroutine->Hp->Prop}(h:∀t,ax E (G (b.at a (.inRegion ops (Region.schedule (P.follows .mixedOrders) ops t)::k)) cs) U S):ax E (G (b.at a (.code (.region id ops true)::k)) cs) U S:=by
 refine ax.step (X:=λsX rB=>rB=U/\∃t,sX=G (b.at a (.inRegion ops (Region.schedule (P.follows .mixedOrders) ops t)::k)) cs) rfl ?_ ?_
 ·intro auu w hs
  have:stepG P E.main (G (b.at a (.code (.region id ops true)::k)) cs) w=.go (G (b.at a (.inRegion ops (Region.schedule (P.follows .mixedOrders) ops (w.tape w.drawn (.order b.fn id)))::k)) cs) {w with drawn:=w.drawn+1}:=by simp[G,stepG,stepG.exec,Frame.at,choose,Sem.run,Question.forced,Question.cut]
  rw[this];exact⟨U,hs.drew _,⟨λ_ _=>rfl,rfl,rfl,rfl,Nat.le_refl _⟩,al,rfl,rfl,_,rfl⟩
 ·rintro sX rB ⟨rfl,t,rfl⟩;exact h t
noncomputable def o8:Array Oper:=bM (bO (bO r8))
noncomputable def o9:Array Oper:=bM (bO (aP r8))
noncomputable def TY:Array Oper:=bM (aP (aP r8))
def anu:r8=.seq (.seq (.region 8 o8 false) (.cond (.tmp 38) (.exit 0) .skip)) (.seq (.region 9 o9 false) (.region 10 TY false)):=ah
def anv{E:Env prog}{ux:Nat}{u:Un}(hF:Fx cb sb ub db wg I)(h8:I 8=pV ux)(hx:U.f ux=some (.cells #[.int .i64 u.kind,.int .i64 u.channel,.string (B u.jh),.bool u.kC,.bool u.gv] 135 (0,0))):
 cO E 52 (.region 8 o8 false) (ki λI ds ae=>Fx cb sb ub db wg I/\I 8=pV ux/\I 38=.bool u.idle/\ds=[]/\ae=U) I [] U:=by
 obtain⟨uk,uc,upl,ug,uw⟩:=u;simp only at hx;simp only[o8,r8,kJ,mj,iM,jq,f40,Option.getD_some,aP,bO,dP,bM]
 cases hk:decide (uk=0)<;>cases ug<;>cases uw<;>simp only[go_sem,seval,aC,up,h8,hx,hk,ki]<;>refine⟨?_,?_⟩<;>first|exact(show Fx cb sb ub db wg _ from⟨by simp[up,hF.c],by simp[up,hF.s],by simp[up,hF.u],by simp[up,hF.d],by simp[up,hF.w]⟩)|(simp only[decide_eq_true_eq,decide_eq_false_iff_not]at hk;simp[Un.idle,hk])
section
variable (F:FS){E:Env prog}{cb sb ub db wg c1 c2:Nat}{cs:List Frame}{φ:Hp}
structure Bx (F:FS) (cb sb db c1 c3:Nat) (φ:Hp):Prop where
 c:φ.f cb=some (.cells #[pV F.bc] 70 (0,0))
 s:φ.f sb=some (.cells #[.chan (some c1)] 119 (0,0))
 d:φ.f db=some (.cells #[.chan (some c3)] 121 (0,0))
def Qk {a:F.γ}{U:Hp}{c3:Nat}(hI:F.aut a U)(hd:U.dr φ)(hb:Bx F cb sb db c1 c3 φ):Fam cb sb F.bc c1 F.bg (F.ph a) (F.fr a) (U.bA φ):=by obtain⟨l,h1,h2,_⟩:=F.conn hI;exact⟨Hp.uT hd _ _ hb.c,Hp.uT hd _ _ hb.s,l,_,Hp.iQ h1,h2⟩
def yE (cb sb ub db wg:Nat)(cs:List Frame)(g:Goroutine):Prop:=∃I a,cM 52 a I []/\Fx cb sb ub db wg I/\g=G (bU.at a [.code ry]) cs
def NL (cb sb ub db wg c1:Nat)(fr:Int)(cs:List Frame)(g:Goroutine):Prop:=∃I a,cM 52 a I []/\AtSend cb sb ub db wg c1 fr I/\g=G (bU.at a (.inRegion o6 [5]:: .code (aP kJ)::qk)) cs
def ajY {a:F.γ}{U:Hp}{c3:Nat}(hI:F.aut a U)(hd:U.dr φ)(hb:Bx F cb sb db c1 c3 φ){I:av}{ac:Act}(ha:cM 52 ac I [])(hF:Fx cb sb ub db wg I):
 ax E (G (bU.at ac (.code mj:: .inLoop mj:: .inBlock 0:: .code ry::[])) cs) (U.bA φ) λg J=>J=U.bA φ/\((F.ph a=5/\yE cb sb ub db wg cs g)\/(F.ph a≠5/\NL cb sb ub db wg c1 (F.fr a) cs g)):=by
 rw[Ht];refine ax.ctl (λw=>stepG_seq) rfl rfl ?_;refine ax.ctl (λw=>stepG_seq) rfl rfl ?_;refine ax.ctl (λw=>stepG_region) rfl rfl ?_;rw[<-Ht];have hr:List.range o5.size=[0,1,2,3,4]++[]:=ah;rw[hr];refine(MN (E:=E) (ops:=o5) (F:=Fam cb sb F.bc c1 F.bg (F.ph a) (F.fr a)) (Ok:=Rd cb sb F.bc) (Q:=λI=>Fx cb sb ub db wg I/\I 18=.bool (F.ph a !=5)) (Qk F hI hd hb) (by simp[bU]) [] [0,1,2,3,4] (aoZ hF λaz h1 h2=>⟨h1,h2⟩) ha).bind ?_;rintro g J ⟨rfl,qz,a1,dk,⟨om,vP⟩,rfl⟩;refine ax.ctl (λw=>stepG_region_end) rfl rfl ?_;by_cases hp:F.ph a=5
 ·rw[hp]at vP;refine ax.ctl (λw=>stepG_cond (t:=false) (by rw[dk.eval];simpa[ak]using vP)) rfl rfl ?_;refine ax.ctl (λw=>stepG_exit (k':=[.code ry]) rfl) rfl rfl ?_;exact ax.here ⟨rfl,.inl ⟨hp,qz,a1,dk,om,rfl⟩⟩
 ·refine ax.ctl (λw=>stepG_cond (t:=true) (by rw[dk.eval];simp[ak,vP,hp])) rfl rfl ?_;refine ax.ctl (λw=>stepG_skip) rfl rfl ?_;refine ax.ctl (λw=>stepG_block) rfl rfl ?_;rw[SK];refine ax.ctl (λw=>stepG_seq) rfl rfl ?_;refine aoq λt=>?_;obtain⟨p,KY,Bq⟩:=UU t;rw[KY];refine(MN (E:=E) (F:=Fam cb sb F.bc c1 F.bg (F.ph a) (F.fr a)) (Qk F hI hd hb) (by simp[bU]) [5] p (Vb om Bq) dk).bind ?_;rintro g J ⟨rfl,mw,a2,gK,hS,rfl⟩;refine ax.here ⟨rfl,.inr ⟨hp,mw,a2,gK,hS,rfl⟩⟩
def ajZ {a b:F.γ}{u:Un}{U:Hp}{c3:Nat}(hp:F.ph a≠5)(hn:F.nx a u b)(hI:F.auu b U)(hd:U.dr φ)(hb:Bx F cb sb db c1 c3 φ){g:Goroutine}(hg:NY cb sb ub db wg cs g):
 ax E (Go.Conc.served g (uV u)) (U.bA φ) λg' J=>∃ae,ae.dr φ/\(ae.bA φ).le J/\
  ((u.idle=true/\F.aut b ae/\yE cb sb ub db wg cs g')\/(u.idle=false/\∃c d,F.un b u c/\F.sv c d/\F.aut d ae/\((F.ph d=5/\yE cb sb ub db wg cs g')\/(F.ph d≠5/\NL cb sb ub db wg c1 (F.fr d) cs g')))):=by
 obtain⟨I,ac,ha,hF,rfl⟩:=hg;obtain⟨ps,af,ho⟩:=T6
 have e:Go.Conc.served (G (bU.at ac (.inRegion o7 [1,2,3]:: .code r8::qk)) cs) (uV u)=G (bU.at (ac.put (some 25) (uV u)) (.inRegion o7 ([2,3]++[]):: .code r8::qk)) cs:=by have:=Frame.finish_at bU ac o7 1 [2,3] (.code r8::qk) (uV u);rw[ho]at this;simp only[Go.Conc.served,G,this];rfl
 rw[e];have dk:cM 52 _ _ []:=ha.put (dst:=some 25) ai (uV u)
 refine(yz (E:=E) (N:=52) (ops:=o7) (Q:=ki λI ds J=>Fx cb sb ub db wg I/\ds=[]/\∃ux,(U.bA φ).f ux=none/\I 8=pV ux/\J=(U.bA φ).set ux (.cells #[.int .i64 u.kind,.int .i64 u.channel,.string (B u.jh),.bool u.kC,.bool u.gv] 135 (0,0)))
  bU (by simp[bU]) (.code r8::qk) cs [] yl [2,3] _ [] (U.bA φ) _ ?_ dk).bind ?_
 ·simp only[o7,kJ,mj,iM,jq,f40,Option.getD_some,aP,bO,dP,bM];simp only[List.filterMap_cons,List.filterMap_nil,List.getElem?_toArray,List.getElem?_cons_succ,List.getElem?_cons_zero];refine ag ?_;refineλux wA=>?_;simp only[go_sem,seval,aC,up,uV];exact⟨(hF.up ai _).up ai _,rfl,ux,wA,by simp[up],rfl⟩
 rintro g J ⟨qz,_,a1,dk,⟨om,rfl,ux,wA,h8,rfl⟩,rfl⟩
 have hs:U.f ux=none:=by
  cases e:U.f ux with
  |none=>rfl
  |some o=>rw[Hp.iQ e]at wA;cases wA
 have hp0:φ.f ux=none:=by rw[Hp.lS hs]at wA;exact wA
 obtain⟨n7,Hi⟩:∃n7,n7=φ.set ux (.cells #[.int .i64 u.kind,.int .i64 u.channel,.string (B u.jh),.bool u.kC,.bool u.gv] 135 (0,0)):=⟨_,rfl⟩
 have hle:φ.le n7:=by
  rw[Hi];intro b o hb;have:b≠ux:=λe=>by rw[e,hp0]at hb;cases hb
  simpa[Hp.set,this]using hb
 have hx:n7.f ux=some (.cells #[.int .i64 u.kind,.int .i64 u.channel,.string (B u.jh),.bool u.kC,.bool u.gv] 135 (0,0)):=by rw[Hi];simp[Hp.set]
 have jI:U.dr n7:=by
  rw[Hi];intro b;by_cases e:b=ux
  ·subst e;exact .inl hs
  ·simpa[Hp.set,e]using hd b
 have hu:(U.bA φ).set ux (.cells #[.int .i64 u.kind,.int .i64 u.channel,.string (B u.jh),.bool u.kC,.bool u.gv] 135 (0,0))=U.bA n7:=by
  rw[Hi];show Hp.mk _=Hp.mk _;congr 1
  funext b
  by_cases e:b=ux
  ·subst e;simp[Hp.set,hs]
  ·simp[Hp.set,Hp.bA,e]
 have cH:Bx F cb sb db c1 c3 n7:=⟨hle _ _ hb.c,hle _ _ hb.s,hle _ _ hb.d⟩;rw[hu]
 have fin:∀{ae:Hp},ae.dr n7->ae.dr φ/\(ae.bA φ).le (ae.bA n7):=by
  intro ae h;refine⟨λb=>?_,λb o hb=>?_⟩
  ·rcases h b with e|e
   ·exact .inl e
   ·right
    cases e2:φ.f b with
    |none=>rfl
    |some o=>rw[hle _ _ e2]at e;cases e
  ·rcases Hp.Im hb with h1|⟨h1,h2⟩
   ·exact Hp.iQ h1
   ·rw[Hp.lS h1];exact hle _ _ h2
 clear hu wA;refine ax.ctl (λw=>stepG_region_end) rfl rfl ?_;rw[anu];refine ax.ctl (λw=>stepG_seq) rfl rfl ?_;refine ax.ctl (λw=>stepG_seq) rfl rfl ?_;have dv:(U.bA n7).f ux=some (.cells #[.int .i64 u.kind,.int .i64 u.channel,.string (B u.jh),.bool u.kC,.bool u.gv] 135 (0,0)):=Hp.uT jI _ _ hx;refine(nR (E:=E) (N:=52) (X:=λI ds ae=>Fx cb sb ub db wg I/\I 8=pV ux/\I 38=.bool u.idle/\ds=[]/\ae=U.bA n7) ?_ (by simp[bU]) dk).bind ?_
 ·exact anv om h8 dv
 rintro g J ⟨mw,_,a2,gK,⟨nv,h82,Gh,rfl,rfl⟩,rfl⟩
 cases hi:u.idle with
 |true=>
  rw[hi]at Gh;refine ax.ctl (λw=>stepG_cond (t:=true) (by rw[gK.eval];exact Gh)) rfl rfl ?_;refine ax.ctl (λw=>stepG_exit (k':=[.code ry]) rfl) rfl rfl ?_;obtain⟨k1,k2⟩:=fin jI;exact ax.here ⟨U,k1,k2,.inl ⟨rfl,F.idle hn hi hI,mw,a2,gK,nv,rfl⟩⟩
 |false=>
  rw[hi]at Gh;refine ax.ctl (λw=>stepG_cond (t:=false) (by rw[gK.eval];exact Gh)) rfl rfl ?_;refine ax.ctl (λw=>stepG_skip) rfl rfl ?_;refine ax.ctl (λw=>stepG_seq) rfl rfl ?_;refine(nR (E:=E) (N:=52) (X:=λI ds J=>Fx cb sb ub db wg I/\ds=[]/\∃c ae,F.un b u c/\F.K c ae/\ae.dr n7/\J=ae.bA n7) ?_ (by simp[bU]) gK).bind ?_
  ·have Gu:=Hp.uT jI _ _ cH.c;have mE:=nv.c;simp only[o9,r8,kJ,mj,iM,jq,f40,Option.getD_some,aP,bO,dP,bM];simp only[go_sem,seval,aC,up,h82,dv,Gu,mE];refine dG adI ((F.unit hp hn hi hI).kz jI) ?_ ?_
   ·rintro v J ⟨ae,d',rfl,c,hc,A3,hv⟩;simp only[go_sem,seval,aC];exact⟨((nv.up ai _).up ai _).up ai _,rfl,c,ae,hc,A3,d',rfl⟩
   ·rintro ch J ⟨ae,d',rfl,c,hc,A3,hv⟩
    cases hv
  rintro g J ⟨IA,_,a3,s6,⟨uf,rfl,c,ae,hc,A3,d',rfl⟩,rfl⟩;refine(nR (E:=E) (N:=52) (X:=λI ds J=>Fx cb sb ub db wg I/\ds=[]/\∃d ae,F.sv c d/\F.aut d ae/\ae.dr n7/\J=ae.bA n7) ?_ (by simp[bU]) s6).bind ?_
  ·have Gu:=Hp.uT d' _ _ cH.c;have mE:=uf.c;obtain⟨l,hl,mF⟩:=F.CE A3;obtain⟨lg,hg,GH,zl⟩:=F.gate A3;have hl':=Hp.iQ (φ:=n7) hl;have fH:=Hp.iQ (φ:=n7) hg;have lH:=mF.g;simp only[TY,r8,kJ,mj,iM,jq,f40,Option.getD_some,aP,bO,dP,bM];simp only[go_sem,seval,aC,up,Gu,mE,hl',fH,lH,zl];refine dG adG ((F.serve hc A3).kz d') ?_ ?_
   ·rintro v J ⟨gE,CI,rfl,d,Be,C4,hv⟩;simp only[go_sem,seval,aC];exact⟨(((((((uf.up ai _).up ai _).up ai _).up ai _).up ai _).up ai _).up ai _).up ai _,rfl,d,gE,Be,C4,CI,rfl⟩
   ·rintro ch J ⟨gE,CI,rfl,d,Be,C4,hv⟩
    cases hv
  rintro g J ⟨V6,_,a4,zd,⟨hF4,rfl,d,gE,Be,C4,CI,rfl⟩,rfl⟩;refine ax.ctl (λw=>stepG_inBlock) rfl rfl ?_;refine ax.ctl (λw=>stepG_inLoop) rfl rfl ?_;refine(ajY F C4 CI cH zd hF4).bind ?_;rintro g J ⟨rfl,h⟩;obtain⟨k1,k2⟩:=fin CI;exact ax.here ⟨gE,k1,k2,.inr ⟨rfl,c,d,hc,Be,C4,h⟩⟩
end
end
end Go.Qw
