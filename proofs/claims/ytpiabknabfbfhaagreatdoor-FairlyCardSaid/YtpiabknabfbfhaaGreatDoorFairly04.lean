/- Part 4. -/
import Derived.KernelRfl
import Derived.Attr
import Derived.Test.YtpiabknabfbfhaaGreatDoorFairly03
set_option linter.all false
set_option maxRecDepth 100000
set_option maxHeartbeats 8000000
namespace Go.Qw
open Go Go.Conc
section
variable {P:Program}(E:Env P)
def iY (N:Nat)(ops:Array Oper)(Q:Post):List Oper->av->List Deferred->Hp->Prop
 |[],ρ,ds,σ=>Q .normal ρ ds σ
 |o::rest,ρ,ds,σ=>oX N o.dst=true/\
  if Region.wanted o (gK N ops ρ)then aT E o ρ ds σ (iY N ops Q rest) (λch ae=>Q (.panic ch) ρ ds ae)
  else iY N ops Q rest (aB ρ o.dst undef) ds σ
def kX (nx:av->List Deferred->Hp->Prop)(Q:Post):Post
 | .normal,ρ,ds,σ=>nx ρ ds σ
 |e,ρ,ds,σ=>Q e ρ ds σ
def pq (id:Nat)(Q:Post):Post
 | .exit aJ,ρ,ds,σ=>if aJ=id then Q .normal ρ ds σ else Q (.exit aJ) ρ ds σ
 |e,ρ,ds,σ=>Q e ρ ds σ
def bL (X:av->List Deferred->Hp->Prop)(ρ:av)(ds:List Deferred)(σ:Hp):Prop:=∃τ:Hp,τ.le σ/\X ρ ds τ
def cK (N:Nat):Code->Post->av->List Deferred->Hp->Prop
 | .skip,Q,ρ,ds,σ| .label _,Q,ρ,ds,σ=>Q .normal ρ ds σ
 | .region _ ops false,Q,ρ,ds,σ=>iY E N ops Q ops.toList ρ ds σ
 | .region _ ops true,Q,ρ,ds,σ=>∀t,ml E N ops Q (Region.schedule (P.follows .mixedOrders) ops t) ρ ds σ
 | .seq x y,Q,ρ,ds,σ=>cK N x (kX (cK N y Q) Q) ρ ds σ
 | .cond c x y,Q,ρ,ds,σ=>match ak ρ c with
   | .bool true=>cK N x Q ρ ds σ
   | .bool false=>cK N y Q ρ ds σ
   |_=>False
 | .block id c,Q,ρ,ds,σ=>cK N c (pq id Q) ρ ds σ
 | .loop c,Q,ρ,ds,σ=>∀X:av->List Deferred->Hp->Prop,(∀aD cX ae,cK N c (kX (bL X) Q) aD cX ae->X aD cX ae)->X ρ ds σ
 | .exit id,Q,ρ,ds,σ=>Q (.exit id) ρ ds σ
 | .ret,Q,ρ,ds,σ=>Q .ret ρ ds σ
 |_,_,_,_,_=>False
end
def Vq(b:Frame)(k:List Item)(cs:List Frame)(a:Act):Ex->Goroutine->Prop
 | .normal,g=>g=G (b.at a k) cs
 | .exit id,g=>∃k',g=G (b.at a (.code (.exit id)::k')) cs/\exitTo id k'=exitTo id k
 | .ret,g=>∃todo,g=G {b.at a todo with mode:=.returning} cs
 | .panic chain,g=>∃todo,g=G {b.at a todo with mode:=.panicking chain} cs
def Comes(N:Nat)(Q:Post)(b:Frame)(k:List Item)(cs:List Frame)(g:Goroutine)(σ:Hp):Prop:=
 ∃e ρ ds a,cJ N a ρ ds/\Q e ρ ds σ/\Vq b k cs a e g
variable {α:Type}
def aiB(l:List α):(List.range l.length).filterMap (l[·]?)=l:=by
 have:∀(n:Nat),n<=l.length->(List.range n).filterMap (l[·]?)=l.take n:=by
  intro n
  induction n with
  |zero=>intro _;rfl
  |succ n ih=>
   intro hn;rw[List.range_succ,List.filterMap_append,ih aa,List.take_succ_eq_append_getElem aa];simp[List.getElem?_eq_getElem (show n<l.length by omega)]
 rw[this _ (Nat.le_refl _),List.take_length]
variable {P:Program}{E:Env P}{N:Nat}{ops:Array Oper}{Q:Post}
def ap6(b:Frame)(hb:b.kind≠.early)(k:List Item)(cs:List Frame)(l:List Nat):
 ∀(ρ:av) (ds:List Deferred) (σ:Hp) (a:Act),iY E N ops Q (l.filterMap (ops[·]?)) ρ ds σ->cJ N a ρ ds->ax E (G (b.at a (.inRegion ops l::k)) cs) σ (Comes N Q b k cs):=by
 induction l with
 |nil=>
  intro ρ ds σ a h ha;exact ax.ctl (λw=>stepG_region_end) rfl rfl (ax.here ⟨.normal,ρ,ds,a,ha,h,rfl⟩)
 |cons i rest ih=>
  intro ρ ds σ a h ha
  cases ho:ops[i]? with
  |none=>
   rw[List.filterMap_cons_none ho]at h;have jg:((ops[i]?).map (Region.wanted · (yielded ops a.tmps))).getD false=false:=by rw[ho];rfl
   have eV:(b.at a (.inRegion ops (i::rest)::k)).finish undef=b.at a (.inRegion ops rest::k):=by rw[Frame.finish_at,ho];rfl
   refine ax.ctl (g':=G (b.at a (.inRegion ops rest::k)) cs) (λw=>?_) rfl rfl (ih _ _ _ _ h ha);rw[<-eV];simp only[Frame.at]at*;simp[G,stepG,stepG.exec,jg]
  |some o=>
   rw[List.filterMap_cons_some ho]at h;simp only[iY]at h;obtain⟨hd,h⟩:=h;by_cases hw:Region.wanted o (gK N ops ρ)=true
   ·rw[if_pos hw]at h;have jg:Region.wanted o (yielded ops a.tmps)=true:=by rw[ha.xX];exact hw
    have h:=rK h;unfold wpOp at h;rw[<-ha.eval]at h;refine ax.step rfl (Mq (P:=P) (main:=E.main) (b:=b) (k:=k) (cs:=cs) (rest:=rest) ho jg hb h) ?_;rintro g ae (⟨v,hv,rfl⟩|⟨d,sx,rfl⟩|⟨f,args,hc,rfl⟩|⟨v,hp,rfl⟩)
    ·exact ih _ _ _ _ hv (ha.put hd v)
    ·exact ih _ _ _ _ sx ((ha.defer d).put hd undef)
    ·refine ay.run hc ?_ ?_
     ·intro v fZ hv;have eV:(b.at a (.inRegion ops (i::rest)::k)).finish v=b.at (a.put o.dst v) (.inRegion ops rest::k):=by rw[Frame.finish_at,ho];rfl
      rw[eV];exact ih _ _ _ _ hv (ha.put hd v)
     ·intro ch fZ hp;refine ax.here ⟨.panic ch,ρ,ds,a,ha,hp,.inRegion ops (i::rest)::k,?_⟩;rw[Frame.raise_at]
    ·refine ax.here ⟨.panic _,ρ,ds,a,ha,hp,.inRegion ops (i::rest)::k,?_⟩;rw[Frame.raise_at]
   ·rw[if_neg hw]at h;have jg:((ops[i]?).map (Region.wanted · (yielded ops a.tmps))).getD false=false:=by rw[ho,ha.xX];simpa using hw
    have eV:(b.at a (.inRegion ops (i::rest)::k)).finish undef=b.at (a.put o.dst undef) (.inRegion ops rest::k):=by rw[Frame.finish_at,ho];rfl
    refine ax.ctl (g':=G (b.at (a.put o.dst undef) (.inRegion ops rest::k)) cs) (λw=>?_) rfl rfl (ih _ _ _ _ h (ha.put hd undef));rw[<-eV];simp only[Frame.at]at*;simp[G,stepG,stepG.exec,jg]
def ap8(b:Frame)(hb:b.kind≠.early)(k:List Item)(cs:List Frame)(l:List Nat):
 ∀(ρ:av) (ds:List Deferred) (σ:Hp) (a:Act),ml E N ops Q l ρ ds σ->cJ N a ρ ds->ax E (G (b.at a (.inRegion ops l::k)) cs) σ (Comes N Q b k cs):=by
 induction l with
 |nil=>
  intro ρ ds σ a h ha;exact ax.ctl (λw=>stepG_region_end) rfl rfl (ax.here ⟨.normal,ρ,ds,a,ha,h,rfl⟩)
 |cons i rest ih=>
  intro ρ ds σ a h ha;simp only[ml,lP]at h
  cases ho:ops[i]? with
  |none=>rw[ho]at h;exact h.elim
  |some o=>
   rw[ho]at h;obtain⟨hd,h⟩:=h;by_cases hw:Region.wanted o (gK N ops ρ)=true
   ·rw[if_pos hw]at h
    replace h:wpOp E o ρ ds σ (ml E N ops Q rest) (λch ae=>Q (.panic ch) ρ ds ae):=by
     by_cases hr:cT o.op=true
     ·rw[if_pos hr]at h;obtain⟨v,h3,h4⟩:=h;exact rK (L5 h3 h4)
     ·rw[if_neg hr]at h;exact h
    have jg:Region.wanted o (yielded ops a.tmps)=true:=by rw[ha.xX];exact hw
    unfold wpOp at h;rw[<-ha.eval]at h;refine ax.step rfl (Mq (P:=P) (main:=E.main) (b:=b) (k:=k) (cs:=cs) (rest:=rest) ho jg hb h) ?_;rintro g ae (⟨v,hv,rfl⟩|⟨d,sx,rfl⟩|⟨f,args,hc,rfl⟩|⟨v,hp,rfl⟩)
    ·exact ih _ _ _ _ hv (ha.put hd v)
    ·exact ih _ _ _ _ sx ((ha.defer d).put hd undef)
    ·refine ay.run hc ?_ ?_
     ·intro v fZ hv;have eV:(b.at a (.inRegion ops (i::rest)::k)).finish v=b.at (a.put o.dst v) (.inRegion ops rest::k):=by rw[Frame.finish_at,ho];rfl
      rw[eV];exact ih _ _ _ _ hv (ha.put hd v)
     ·intro ch fZ hp;refine ax.here ⟨.panic ch,ρ,ds,a,ha,hp,.inRegion ops (i::rest)::k,?_⟩;rw[Frame.raise_at]
    ·refine ax.here ⟨.panic _,ρ,ds,a,ha,hp,.inRegion ops (i::rest)::k,?_⟩;rw[Frame.raise_at]
   ·rw[if_neg hw]at h;have jg:((ops[i]?).map (Region.wanted · (yielded ops a.tmps))).getD false=false:=by rw[ho,ha.xX];simpa using hw
    have eV:(b.at a (.inRegion ops (i::rest)::k)).finish undef=b.at (a.put o.dst undef) (.inRegion ops rest::k):=by rw[Frame.finish_at,ho];rfl
    refine ax.ctl (g':=G (b.at (a.put o.dst undef) (.inRegion ops rest::k)) cs) (λw=>?_) rfl rfl (ih _ _ _ _ h (ha.put hd undef));rw[<-eV];simp only[Frame.at]at*;simp[G,stepG,stepG.exec,jg]
def Comes.mono{b:Frame}{k:List Item}{cs:List Frame}{S:Goroutine->Hp->Prop}(hn:∀ρ ds σ a,cJ N a ρ ds->Q .normal ρ ds σ->ax E (G (b.at a k) cs) σ S)(he:∀id ρ ds σ a qI,cJ N a ρ ds->Q (.exit id) ρ ds σ->exitTo id qI=exitTo id k->ax E (G (b.at a (.code (.exit id)::qI)) cs) σ S)(hr:∀ρ ds σ a todo,cJ N a ρ ds->Q .ret ρ ds σ->ax E (G {b.at a todo with mode:=.returning} cs) σ S)(hp:∀ch ρ ds σ a todo,cJ N a ρ ds->Q (.panic ch) ρ ds σ->ax E (G {b.at a todo with mode:=.panicking ch} cs) σ S):
 ∀g σ,Comes N Q b k cs g σ->ax E g σ S:=by
 rintro g σ ⟨e,ρ,ds,a,ha,hq,AE⟩
 cases e with
 |normal=>obtain rfl:=AE;exact hn _ _ _ _ ha hq
 |exit id=>obtain⟨qI,rfl,hx⟩:=AE;exact he _ _ _ _ _ _ ha hq hx
 |ret=>obtain⟨todo,rfl⟩:=AE;exact hr _ _ _ _ _ ha hq
 |panic ch=>obtain⟨todo,rfl⟩:=AE;exact hp _ _ _ _ _ _ ha hq
def HF(c:Code):∀(Q:Post) (ρ:av) (ds:List Deferred) (σ:Hp),cK E N c Q ρ ds σ->
 ∀(b:Frame) (k:List Item) (cs:List Frame) (a:Act),b.kind≠.early->cJ N a ρ ds->ax E (G (b.at a (.code c::k)) cs) σ (Comes N Q b k cs):=by
 induction c with
 |skip=>exactλQ ρ ds σ h b k cs a hb ha=>ax.ctl (λw=>stepG_skip) rfl rfl (ax.here ⟨.normal,ρ,ds,a,ha,h,rfl⟩)
 |label l=>exactλQ ρ ds σ h b k cs a hb ha=>ax.ctl (λw=>stepG_label) rfl rfl (ax.here ⟨.normal,ρ,ds,a,ha,h,rfl⟩)
 |region id ops draw=>
  intro Q ρ ds σ h b k cs a hb ha
  cases draw with
  |false=>
   have e:ops.toList=(List.range ops.size).filterMap (ops[·]?):=by apply List.ext_getElem?;intro i;rw[show(λx=>ops[x]?)=λx=>(ops.toList)[x]? by funext x;simp];rw[<-Array.length_toList,aiB]
   refine ax.ctl (λw=>stepG_region) rfl rfl (ap6 b hb k cs _ ρ ds σ a ?_ ha);rw[<-e];exact h
  |true=>
   refine ax.step (X:=λsi qV=>qV=σ/\∃t,si=G (b.at a (.inRegion ops (Region.schedule (P.follows .mixedOrders) ops t)::k)) cs) rfl ?_ ?_
   ·intro J w hs
    have:stepG P E.main (G (b.at a (.code (.region id ops true)::k)) cs) w=.go (G (b.at a (.inRegion ops (Region.schedule (P.follows .mixedOrders) ops (w.tape w.drawn (.order b.fn id)))::k)) cs) {w with drawn:=w.drawn+1}:=by simp[G,stepG,stepG.exec,Frame.at,choose,Sem.run,Question.forced,Question.cut]
    rw[this];exact⟨σ,hs.drew _,⟨λ_ _=>rfl,rfl,rfl,rfl,Nat.le_refl _⟩,al,rfl,rfl,_,rfl⟩
   ·rintro si qV ⟨rfl,t,rfl⟩;exact ap8 b hb k cs _ ρ ds qV a (h t) ha
 |seq x y ihx ihy=>
  intro Q ρ ds σ h b k cs a hb ha;refine ax.ctl (λw=>stepG_seq) rfl rfl ((ihx _ _ _ _ h b (.code y::k) cs a hb ha).bind (Comes.mono ?_ ?_ ?_ ?_))
  ·exactλaD cX ae a' dD hq=>ihy _ _ _ _ hq b k cs a' hb dD
  ·exactλid aD cX ae a' qI dD hq hx=>ax.here ⟨.exit id,aD,cX,a',dD,hq,qI,rfl,hx⟩
  ·exactλaD cX ae a' todo dD hq=>ax.here ⟨.ret,aD,cX,a',dD,hq,todo,rfl⟩
  ·exactλch aD cX ae a' todo dD hq=>ax.here ⟨.panic ch,aD,cX,a',dD,hq,todo,rfl⟩
 |cond x c₁ c₂ agk agl=>
  intro Q ρ ds σ h b k cs a hb ha;unfold cK at h;split at h
  ·rename_i hv;exact ax.ctl (λw=>stepG_cond (t:=true) (by rw[ha.eval];exact hv)) rfl rfl (agk _ _ _ _ h b k cs a hb ha)
  ·rename_i hv;exact ax.ctl (λw=>stepG_cond (t:=false) (by rw[ha.eval];exact hv)) rfl rfl (agl _ _ _ _ h b k cs a hb ha)
  ·exact h.elim
 |block id c ih=>
  intro Q ρ ds σ h b k cs a hb ha;refine ax.ctl (λw=>stepG_block) rfl rfl ((ih _ _ _ _ h b (.inBlock id::k) cs a hb ha).bind (Comes.mono ?_ ?_ ?_ ?_))
  ·exactλaD cX ae a' dD hq=>ax.ctl (λw=>stepG_inBlock) rfl rfl (ax.here ⟨.normal,aD,cX,a',dD,hq,rfl⟩)
  ·intro aJ aD cX ae a' qI dD hq hx;by_cases e:aJ=id
   ·subst e;simp only[pq,if_true]at hq;have cU:exitTo aJ qI=some k:=by rw[hx];simp[exitTo]
    exact ax.ctl (λw=>stepG_exit cU) rfl rfl (ax.here ⟨.normal,aD,cX,a',dD,hq,rfl⟩)
   ·simp only[pq,e,if_false]at hq;refine ax.here ⟨.exit aJ,aD,cX,a',dD,hq,qI,rfl,?_⟩;rw[hx];have:(id==aJ)=false:=by simp;exactλz=>e z.symm
    simp[exitTo,this]
  ·exactλaD cX ae a' todo dD hq=>ax.here ⟨.ret,aD,cX,a',dD,hq,todo,rfl⟩
  ·exactλch aD cX ae a' todo dD hq=>ax.here ⟨.panic ch,aD,cX,a',dD,hq,todo,rfl⟩
 |loop c ih=>
  intro Q ρ ds σ h b k cs a hb ha;refine ax.ctl (λw=>stepG_loop) rfl rfl ?_;refine h (λρ ds σ=>∀a,cJ N a ρ ds->ax E (G (b.at a (.code c:: .inLoop c::k)) cs) σ (Comes N Q b k cs)) ?_ a ha;intro aD cX ae Qx a' dD;refine(ih _ _ _ _ Qx b (.inLoop c::k) cs a' hb dD).bind (Comes.mono ?_ ?_ ?_ ?_)
  ·exactλBN Am HU yp vq ⟨τ,hle,hq⟩=>ax.ctl (λw=>stepG_inLoop) rfl rfl ((hq yp vq).ik hle)
  ·exactλid BN Am HU yp qI vq hq hx=>ax.here ⟨.exit id,BN,Am,yp,vq,hq,qI,rfl,by rw[hx];simp[exitTo]⟩
  ·exactλBN Am HU yp todo vq hq=>ax.here ⟨.ret,BN,Am,yp,vq,hq,todo,rfl⟩
  ·exactλch BN Am HU yp todo vq hq=>ax.here ⟨.panic ch,BN,Am,yp,vq,hq,todo,rfl⟩
 |exit id=>exactλQ ρ ds σ h b k cs a hb ha=>ax.here ⟨.exit id,ρ,ds,a,ha,h,k,rfl,rfl⟩
 |ret=>
  intro Q ρ ds σ h b k cs a hb ha;refine ax.ctl (g':=G {b.at a (.code .ret::k)with mode:=.returning} cs) (λw=>?_) rfl rfl (ax.here ⟨.ret,ρ,ds,a,ha,h,_,rfl⟩);simp[G,stepG,stepG.exec,Frame.at]
 |rangeFunc f ps x y=>exactλQ ρ ds σ h=>h.elim
 |scope c=>exactλQ ρ ds σ h=>h.elim
 |goto l=>exactλQ ρ ds σ h=>h.elim
 |refuse w=>exactλQ ρ ds σ h=>h.elim
variable {fn:Func}{ρ:av}{ds:List Deferred}
def wv{a:Act}(h:cJ N a ρ ds):results fn a.tmps=Bt fn ρ:=by have hg:∀t,a.tmps.getD t undef=ρ t:=h.tmps;simp only[results,Bt,hg];rfl
def nB(args:Array Value)(_:Nat)(t:Nat):Value:=args.getD t undef
def rV(args:Array Value)(n:Nat)(h:args.size<=n):cJ n {tmps:=args++Array.replicate (n-args.size) undef,defers:=[]} (nB args n) []:=by
 refine⟨by simp;omega,rfl,λt=>?_⟩;simp only[nB,Array.getD_eq_getD_getElem?];rcases Nat.lt_or_ge t args.size with bj|sA
 ·rw[Array.getElem?_append_left bj]
 ·rw[Array.getElem?_append_right sA,Array.getElem?_eq_none sA];rw[Array.getElem?_replicate];split<;>rfl
def E6(P:Program)(fn:Func)(ρ:av)(σ:Hp)(v:Value):Prop:=wpS P (Bt fn ρ) (λv' ae=>v'=v/\ae=σ) (λ_ _=>False) σ
def T6(P:Program)(fn:Func)(R:Fin->Hp->Prop):Post
 | .normal,ρ,ds,σ| .ret,ρ,ds,σ=>ds=[]/\∃v τ,τ.le σ/\E6 P fn ρ τ v/\R (.returned v) τ
 | .panic ch,_,ds,σ=>ds=[]/\∃τ,τ.le σ/\R (.panicked ch) τ
 | .exit _,_,_,_=>False
variable {f:FuncId}{c:Code}{args:Array Value}{σ:Hp}{R:Fin->Hp->Prop}
def Y0(hf:P.funcs[f]? =some fn)(hb:fn.body=some c)(hn:args.size<=fn.ntmps)(h:cK E fn.ntmps c (T6 P fn R) (nB args fn.ntmps) [] σ):ay E f args σ R:=by
 intro cs
 let b:Frame:={(default:Frame)with fn:=f,kind:=.normal}
 have oK:Frame.enter P f args .normal=b.at {tmps:=args++Array.replicate (fn.ntmps-args.size) undef,defers:=[]} [.code c]:=by simp[Frame.enter,Frame.at,hf,hb,b]
 rw[oK];refine(HF c _ _ _ _ h b [] cs _ (by simp[b]) (rV args fn.ntmps hn)).bind (Comes.mono ?_ ?_ ?_ ?_)
 ·rintro ρ ds ae a ha ⟨mJ,v,τ,hle,hv,hR⟩;refine ax.ik (τ:=τ) (ax.ctl (λw=>stepG_end) rfl rfl (ax.here ⟨.returned v,_,rfl,rfl,⟨rfl,?_,rfl,fn,hf,?_⟩,hR⟩)) hle
  ·have:=ha.defers;subst mJ;exact this
  ·have:=wv (fn:=fn) ha;simp only[Frame.at];rw[this];exact hv
 ·exactλid ρ ds ae a qI _ hq=>hq.elim
 ·rintro ρ ds ae a todo ha ⟨mJ,v,τ,hle,hv,hR⟩;refine ax.ik (τ:=τ) (ax.here ⟨.returned v,_,rfl,rfl,⟨rfl,?_,rfl,fn,hf,?_⟩,hR⟩) hle
  ·have:=ha.defers;subst mJ;exact this
  ·have:=wv (fn:=fn) ha;simp only[Frame.at];rw[this];exact hv
 ·rintro ch ρ ds ae a todo ha ⟨mJ,τ,hle,hR⟩;refine ax.ik (τ:=τ) (ax.here ⟨.panicked ch,_,rfl,rfl,⟨rfl,?_,fn,hf⟩,hR⟩) hle;have:=ha.defers;subst mJ;exact this
def fG{x y:Code}(h:∀K:av->List Deferred->Hp->Prop,(∀ρ ds σ,cK E N y Q ρ ds σ->K ρ ds σ)->cK E N x (kX K Q) ρ ds σ):cK E N (.seq x y) Q ρ ds σ:=h _ λ_ _ _ x=>x
def BK{id:Nat}(h:cK E N c (pq id Q) ρ ds σ):cK E N (.block id c) Q ρ ds σ:=h
def ln(P:Program)(rs:Array ResultVar)(ρ:av)(σ:Hp)(v:Value):Prop:=
 wpS P (do
  let vs<-rs.mapM λ
   | .tmp t=>pure (ρ t)
   | .cell a t=>do loadVar t (<-asAddr (ρ a))
  pure (if h:vs.size=1 then vs[0]else .tuple vs)) (λv' ae=>v'=v/\ae=σ) (λ_ _=>False) σ
def du:ln P #[] ρ σ (.tuple #[]):=by simp[ln,bq]
def aI{t:Tmp}:ln P #[.tmp t] ρ σ (ρ t):=by simp[ln,bq]
def iT{t u:Tmp}:ln P #[.tmp t,.tmp u] ρ σ (.tuple #[ρ t,ρ u]):=by simp[ln,bq]
variable {n:Nat}{rs:Array ResultVar}
def fI(hf:P.funcs[f]? =some fn)(hn:fn.ntmps=n)(hr:fn.results=rs)(hb:fn.body=some c)(hs:args.size<=n)(h:∀Q:Post,(∀{ρ σ τ v},ln P rs ρ τ v->τ.le σ->R (.returned v) τ->Q .normal ρ [] σ)->(∀{ρ σ τ v},ln P rs ρ τ v->τ.le σ->R (.returned v) τ->Q .ret ρ [] σ)->(∀ch ρ σ τ,τ.le σ->R (.panicked ch) τ->Q (.panic ch) ρ [] σ)->
  cK E n c Q (nB args n) [] σ):ay E f args σ R:=by
 subst hn;subst hr;refine Y0 hf hb hs (h _ ?_ ?_ ?_)
 ·exactλ{ρ σ τ v} h1 hl h2=>⟨rfl,v,τ,hl,h1,h2⟩
 ·exactλ{ρ σ τ v} h1 hl h2=>⟨rfl,v,τ,hl,h1,h2⟩
 ·exactλch ρ σ τ hl h=>⟨rfl,τ,hl,h⟩
def aW(hf:P.funcs[f]? =some fn)(hn:fn.ntmps=n)(hr:fn.results=rs)(h:∀Q:Post,(∀{ρ σ τ v},ln P rs ρ τ v->τ.le σ->R (.returned v) τ->Q .normal ρ [] σ)->(∀{ρ σ τ v},ln P rs ρ τ v->τ.le σ->R (.returned v) τ->Q .ret ρ [] σ)->(∀ch ρ σ τ,τ.le σ->R (.panicked ch) τ->Q (.panic ch) ρ [] σ)->
  cK E n c Q (nB args n) [] σ)(hb:fn.body=some c:=by rfl)(hs:args.size<=n:=by simp):ay E f args σ R:=fI hf hn hr hb hs h
def dh(I:Nat->av->List Deferred->Hp->Prop)(n:Nat)(h0:I n ρ ds σ)(hI:∀n ρ ds σ (X:av->List Deferred->Hp->Prop),I n ρ ds σ->(∀m aD cX ae τ,m<n->I m aD cX τ->τ.le ae->X aD cX ae)->cK E N c (kX X Q) ρ ds σ):cK E N (.loop c) Q ρ ds σ:=by
 unfold cK;intro X hX
 induction n using Nat.strongRecOn generalizing ρ ds σ with
 |_ n ih=>
  refine hX _ _ _ (hI n ρ ds σ (bL X) h0 ?_);exactλm aD cX ae τ hm hi hle=>⟨τ,hle,ih m hm hi⟩
def xU{id:Nat}(l:List Nat)(pn:List PanicEntry->List Deferred->Hp->Prop)(hm:P.follows .mixedOrders=true)(hc:rX ops l=true)(tO:∀ch ρ ds σ,pn ch ds σ->Q (.panic ch) ρ ds σ)(h:fP E N ops Q pn l [] ρ ds σ):cK E N (.region id ops true) Q ρ ds σ:=
 λt=>O7 hc hm tO h t
def bG{id:Nat}(k:Nat){l:List Nat}(h:fP E N ops Q (λ_ _ _=>False) l [] ρ ds σ)(hl:List.range k=l:=by simp only[List.range,List.range.loop];rfl)(hm:P.follows .mixedOrders=true:=by kernel_rfl)(hc:rX ops l=true:=by decide+kernel):cK E N (.region id ops true) Q ρ ds σ:=xU l (λ_ _ _=>False) hm hc (λ_ _ _ _ h=>h.elim) h
def Al{id:Nat}(l:List Nat)(h:fP E N ops Q (λ_ _ _=>False) l [] ρ ds σ)(hm:P.follows .mixedOrders=true:=by kernel_rfl)(hc:rX ops l=true:=by decide+kernel):cK E N (.region id ops true) Q ρ ds σ:=xU l _ hm hc (λ_ _ _ _ h=>h.elim) h
def tick(a:α):α:=a
def UO{a:α}:tick a=a:=id (Eq.refl a)
def jS(b:Bool)(p:Prop):Prop:=b=true/\p
variable {b:Bool}{p:Prop}
@[congr] theorem aqU{b':Bool}(h:tick b=b'):jS b p=jS b' p:=by subst h;rfl
def Zr:jS true p=p:=by simp[jS]
def mj(k:α->Prop):Option α->Prop
 |some v=>k v
 |none=>False
@[congr] theorem asw{k:α->Prop}{a a':Option α}(h:tick a=a'):mj k a=mj k a':=by subst h;rfl
def akS{k:α->Prop}{v:α}:mj k (some v)=k v:=bl
def sX(p q:Prop):Value->Prop
 | .bool true=>p
 | .bool false=>q
 |_=>False
variable {q:Prop}{v v':Value}
@[congr] theorem asy(h:tick v=v'):sX p q v=sX p q v':=by subst h;rfl
def als:sX p q (.bool true)=p:=bl
def alq:sX p q (.bool false)=q:=bl
def qL(k:Addr->Prop):Value->Prop
 | .pointer (some a)=>k a
 |_=>False
@[congr] theorem asD{k:Addr->Prop}(h:tick v=v'):qL k v=qL k v':=by subst h;rfl
def alB{k:Addr->Prop}{a:Addr}:qL k (.pointer (some a))=k a:=bl
def xG(k:Value->Prop):Value->Prop
 | .pointer (some a)=>k (.pointer (some a))
 | .func (.func f) l c=>k (.func (.func f) l c)
 |_=>False
variable {k:Value->Prop}
@[congr] theorem asq(h:tick v=v'):xG k v=xG k v':=by subst h;rfl
def ajJ{a:Addr}:xG k (.pointer (some a))=k (.pointer (some a)):=bl
def ajI{l c:Array Value}:xG k (.func (.func f) l c)=k (.func (.func f) l c):=bl
def j9(k:Value->Prop)(v:Value):Prop:=k v
@[congr] theorem asW(h:tick v=v'):j9 k v=j9 k v':=by subst h;rfl
def zJ(k:Value->Prop)(i:Nat):Value->Prop
 | .tuple vs=>mj k vs[i]?
 |_=>False
@[congr] theorem asT{i:Nat}(h:tick v=v'):zJ k i v=zJ k i v':=by subst h;rfl
def apm{i:Nat}{vs:Array Value}:zJ k i (.tuple vs)=mj k vs[i]? :=bl
def sP(σ:Hp)(k:Nat->Prop):Prop:=∀b,σ.f b=none->k b
variable {jj:Nat}
@[congr] theorem asp{k:Nat->Prop}(_:tick 0=jj):sP σ k=sP σ k:=rfl
def kU(p:Prop)(k:Value->Prop):Option Value->Prop
 |some v=>k v
 |none=>p
@[congr] theorem asx{a a':Option Value}(h:tick a=a'):kU p k a=kU p k a':=by subst h;rfl
def akV:kU p k (some v)=k v:=bl
def akU:kU p k none=p:=bl
variable {dst:Option Tmp}{nx:av->List Deferred->Hp->Prop}{pn:List PanicEntry->Hp->Prop}
@[congr] theorem aqQ{NJ:Array Value}(h:tick args=NJ):jR E f args σ dst ρ ds nx pn=jR E f NJ σ dst ρ ds nx pn:=by subst h;rfl
@[congr] theorem asZ{l:List Oper}(_:tick 0=jj):iY E N ops Q l ρ ds σ=iY E N ops Q l ρ ds σ:=rfl
@[congr] theorem asX(_:tick 0=jj):cK E N c Q ρ ds σ=cK E N c Q ρ ds σ:=rfl
@[congr] theorem as0{o:Oper}(_:tick 0=jj):wpOp E o ρ ds σ nx pn=wpOp E o ρ ds σ nx pn:=rfl
@[congr] theorem asv{o:Oper}(_:tick 0=jj):aT E o ρ ds σ nx pn=aT E o ρ ds σ nx pn:=rfl
variable {rest:List Oper}{ty:TypeId}{pos:String}{af:Array Edge}{op:Op}
def ap1:iY E N ops Q (⟨dst,op,ty,pos,af,none⟩::rest) ρ ds σ=jS (oX N dst) (aT E ⟨dst,op,ty,pos,af,none⟩ ρ ds σ (iY E N ops Q rest) (λch ae=>Q (.panic ch) ρ ds ae)):=by simp[iY,Region.wanted,jS]
def lV(p q:Prop)(b:Bool)(a:Option Bool):Prop:=if a=some b then p else q
@[congr] theorem arx{a a':Option Bool}(h:tick a=a'):lV p q b a=lV p q b a':=by subst h;rfl
def abX:lV p q true (some true)=p:=by simp[lV]
def abU:lV p q false (some false)=p:=by simp[lV]
def abW:lV p q true (some false)=q:=by simp[lV]
def abV:lV p q false (some true)=q:=by simp[lV]
def apZ{j:Nat}:iY E N ops Q (⟨dst,op,ty,pos,af,some (j,b)⟩::rest) ρ ds σ=
 jS (oX N dst) (lV (aT E ⟨dst,op,ty,pos,af,some (j,b)⟩ ρ ds σ (iY E N ops Q rest) (λch ae=>Q (.panic ch) ρ ds ae)) (iY E N ops Q rest (aB ρ dst undef) ds σ) b (gK N ops ρ j)):=by
 simp only[iY,Region.wanted,jS,lV,beq_iff_eq]
def ap0:iY E N ops Q [] ρ ds σ=Q .normal ρ ds σ:=bl
variable {g:Option (Nat×Bool)}{x:Operand}
def al6:aT E ⟨dst,.move x,ty,pos,af,g⟩ ρ ds σ nx pn=j9 (λv=>nx (aB ρ dst v) ds σ) (ak ρ x):=bl
def alQ:aT E ⟨dst,.assign x,ty,pos,af,g⟩ ρ ds σ nx pn=j9 (λv=>nx (aB ρ dst v) ds σ) (ak ρ x):=bl
def al9{c a b:Operand}:aT E ⟨dst,.pick c a b,ty,pos,af,g⟩ ρ ds σ nx pn=sX (j9 (λv=>nx (aB ρ dst v) ds σ) (ak ρ a)) (j9 (λv=>nx (aB ρ dst v) ds σ) (ak ρ b)) (ak ρ c):=by
 simp only[aT,sX]
 cases ak ρ c<;>first|rfl|(rename_i t;cases t<;>rfl)
variable {t:TypeId}
def alP:aT E ⟨dst,.alloc t,ty,pos,af,g⟩ ρ ds σ nx pn=mj (λz=>sP σ λb=>nx (aB ρ dst (pV b)) ds (σ.set b (.cells z.cells t))) (dq P t):=by
 simp only[aT,mj,sP]
 cases dq P t<;>rfl
def alS:aT E ⟨dst,.box t x,ty,pos,af,g⟩ ρ ds σ nx pn=j9 (λv=>sP σ λb=>nx (aB ρ dst (pV b)) ds (σ.set b (.cells v.cells t))) (ak ρ x):=bl
def al2:aT E ⟨dst,.load t x,ty,pos,af,g⟩ ρ ds σ nx pn=jS (dm P t) (qL (λa=>nY P t a σ (λv=>nx (aB ρ dst v) ds σ)) (ak ρ x)):=by
 simp only[aT,qL,jS]
 cases ak ρ x<;>first|(simp only[and_false];done)|(rename_i t;cases t<;>simp)
def amc{v:Operand}:aT E ⟨dst,.store t x v,ty,pos,af,g⟩ ρ ds σ nx pn=jS (dm P t) (qL (λa=>j9 (λv=>uL P t a v σ λae=>nx (aB ρ dst undef) ds ae) (ak ρ v)) (ak ρ x)):=by
 simp only[aT,qL,jS,j9]
 cases ak ρ x<;>first|(simp only[and_false];done)|(rename_i t;cases t<;>simp)
def al7:aT E ⟨dst,.nilCheck x,ty,pos,af,g⟩ ρ ds σ nx pn=xG (λv=>nx (aB ρ dst v) ds σ) (ak ρ x):=by
 simp only[aT];unfold xG;generalize ak ρ x=y
 cases y<;>first|rfl|(rename_i a;cases a<;>rfl)|(rename_i a b c;cases a<;>rfl)
def alY{s:TypeId}{f:Nat}:aT E ⟨dst,.fieldAddr s x f,ty,pos,af,g⟩ ρ ds σ nx pn=qL (λa=>mj (λn=>j9 (λv=>nx (aB ρ dst v) ds σ) (.pointer (some (a.add n)))) (bH P s f)) (ak ρ x):=by
 simp only[aT,qL]
 cases ak ρ x<;>first|rfl|(rename_i t;cases t<;>cases bH P s f<;>rfl)
variable {u:TypeId}
def alR{op:BinOp}{y:Operand}:aT E ⟨dst,.binOp op t x y u,ty,pos,af,g⟩ ρ ds σ nx pn=
 kU (kU (kU (wpOp E ⟨dst,.binOp op t x y u,ty,pos,af,g⟩ ρ ds σ nx pn) (λv=>nx (aB ρ dst v) ds σ) (mY P op t x y (ak ρ x) (ak ρ y))) (λv=>nx (aB ρ dst v) ds σ) (eO P op t (ak ρ x) (ak ρ y)))
  (λv=>nx (aB ρ dst v) ds σ) (cG op (ak ρ x) (ak ρ y)):=by
 simp only[aT,kU]
 cases cG op (ak ρ x) (ak ρ y)<;>cases eO P op t (ak ρ x) (ak ρ y)<;>cases mY P op t x y (ak ρ x) (ak ρ y)<;>rfl
def amg{op:UnOp}:aT E ⟨dst,.unOp op t x,ty,pos,af,g⟩ ρ ds σ nx pn=mj (λv=>nx (aB ρ dst v) ds σ) (uN op (ak ρ x)):=by
 simp only[aT,mj]
 cases uN op (ak ρ x)<;>rfl
def alW{s d:TypeId}(hn:kY P s d=none):aT E ⟨dst,.convert s d x,ty,pos,af,g⟩ ρ ds σ nx pn=kU (wpOp E ⟨dst,.convert s d x,ty,pos,af,g⟩ ρ ds σ nx pn) (λv=>nx (aB ρ dst v) ds σ) (lU P s d (ak ρ x)):=by
 simp only[aT,kU,hn]
 cases lU P s d (ak ρ x)<;>rfl
def iv(P:Program)(t:TypeId):Bool:=match P.underlying t with|some (.interface _)=>false|some _=>true|none=>false
def al4:aT E ⟨dst,.makeInterface t x,ty,pos,af,g⟩ ρ ds σ nx pn=jS (iv P t) (j9 (λv=>nx (aB ρ dst (.iface t v)) ds σ) (ak ρ x)):=by
 simp only[aT,jS,iv,j9]
 cases P.underlying t with
 |none=>simp
 |some d=>cases d<;>simp
def al3{f:Fn}{l c:Array Operand}:aT E ⟨dst,.makeFunc f l c,ty,pos,af,g⟩ ρ ds σ nx pn=j9 (λv=>nx (aB ρ dst v) ds σ) (.func f (l.map (ak ρ)) (c.map (ak ρ))):=bl
def al5:aT E ⟨dst,.makeMap t none,ty,pos,af,g⟩ ρ ds σ nx pn=sP σ λb=>nx (aB ρ dst (.map (some b))) ds (σ.set b (.map #[] 0)):=bl
def alX{i:Nat}:aT E ⟨dst,.extract x i,ty,pos,af,g⟩ ρ ds σ nx pn=zJ (λv=>nx (aB ρ dst v) ds σ) i (ak ρ x):=by
 simp only[aT,zJ]
 cases ak ρ x<;>first|rfl|(rename_i vs;simp only[mj];cases vs[i]? <;>rfl)
variable {as:Array Operand}{cg:Array TypeId}
def alV:aT E ⟨dst,.call ⟨.value (.func f),as,cg⟩,ty,pos,af,g⟩ ρ ds σ nx pn=jR E f (as.map (ak ρ)) σ dst ρ ds nx pn:=bl
def Eg{x:Tmp}{l cap:Array Value}(h:ρ x=.func (.func f) l cap):aT E ⟨dst,.call ⟨.value (.tmp x),as,cg⟩,ty,pos,af,g⟩ ρ ds σ nx pn=jR E f (l++as.map (ak ρ)++cap) σ dst ρ ds nx pn:=by simp only[aT,h]
def nZ(P:Program)(p:Prop)(k:Value->Prop)(t:TypeId)(x:Value):Prop:=
 match xy P t x,xz x with
 |true,some v=>k v
 |_,_=>p
@[congr] theorem asd(h:tick v=v'):nZ P p k t v=nZ P p k t v':=by subst h;rfl
def ais{s:ByteArray}(h:P.underlying t=some .string):nZ P p k t (.string s)=k (.int .i64 s.size):=by simp[nZ,xy,xz,h]
def air{a:Option Addr}{c:Nat}(h:(s5 P t).isSome=true):nZ P p k t (.slice a n c)=k (.int .i64 n):=by obtain⟨e,he⟩:=Option.isSome_iff_exists.1 h;simp[nZ,xy,xz,Hq he]
def al1(h:cg[0]? =some t):aT E ⟨dst,.call ⟨.builtin .len,#[x],cg⟩,ty,pos,af,g⟩ ρ ds σ nx pn=
 nZ P (wpOp E ⟨dst,.call ⟨.builtin .len,#[x],cg⟩,ty,pos,af,g⟩ ρ ds σ nx pn) (λv=>nx (aB ρ dst v) ds σ) t (ak ρ x):=by
 have e:(#[x].map (ak ρ))[0]? =some (ak ρ x):=al;simp only[aT,h,e,nZ];rfl
def apJ(d:Nat)(v:Value):up ρ d v d=v:=by simp[up]
def apI{d t:Nat}(v:Value)(h:(t==d)=false):up ρ d v t=ρ t:=by simp at h;simp[up,h]
def aa3(t:Tmp):ak ρ (.tmp t)=ρ t:=bl
def aa0(v:Value):ak ρ (.const v)=v:=bl
def aa1(f:FuncId):ak ρ (.func f)=.func (.func f) #[] #[]:=bl
def aa2(f:Nat):ak ρ (.global f)=pV f:=bl
def alK(d:Tmp)(v:Value):aB ρ (some d) v=up ρ d v:=bl
def alJ(v:Value):aB ρ none v=ρ:=bl
def akr{d:Tmp}:oX N (some d)=decide (d<N):=bl
def akq:oX N none=true:=bl
@[congr] theorem asc{a:Addr}(_:tick 0=jj):nY P t a σ k=nY P t a σ k:=rfl
@[congr] theorem asN{a:Addr}{k:Hp->Prop}(_:tick 0=jj):uL P t a v σ k=uL P t a v σ k:=rfl
def sQ(k:Obj->Prop):Option Obj->Prop
 |some o=>k o
 |none=>False
@[congr] theorem asu{k:Obj->Prop}{a a':Option Obj}(h:tick a=a'):sQ k a=sQ k a':=by subst h;rfl
variable {o:Obj}
def Tm{k:Obj->Prop}:sQ k (some o)=k o:=bl
def nJ(off:Nat)(k:Value->Prop):Obj->Prop
 | .cells c _ _=>mj k c[off]?
 |_=>False
variable {off:Nat}{o':Obj}
@[congr] theorem aqR(h:tick o=o'):nJ off k o=nJ off k o':=by subst h;rfl
def cellsIn(off n:Nat)(k:Value->Prop):Obj->Prop
 | .cells c _ _=>off+n<=c.size/\k (.agg (c.extract off (off+n)))
 |_=>False
@[congr] theorem aqS{n':Nat}(h:tick o=o')(hn:tick n=n'):cellsIn off n k o=cellsIn off n' k o':=by subst h;subst hn;rfl
variable {e:TypeId}
def Y9{c:Array Value}{z:Nat×Nat}:cellsIn off n k (.cells c e z)=(off+n<=c.size/\k (.agg (c.extract off (off+n)))):=bl
variable {b:Nat}
def ah9(h:dx P t=false):nY P t ⟨b,off,none⟩ σ k=sQ (nJ off k) (σ.f b):=by
 simp only[nY,h,Bool.false_eq_true,if_false,sQ,Hp.cell?]
 cases σ.f b with
 |none=>rfl
 |some o=>
  cases o<;>first|rfl|skip
  rename_i c e z;simp only[nJ,mj,Option.isSome_none,Bool.false_eq_true,if_false]
  cases c[off]? <;>rfl
def ah8(h:dx P t=true)(hn:cq P t=n):nY P t ⟨b,off,none⟩ σ k=sQ (cellsIn off n k) (σ.f b):=by
 subst hn;simp only[nY,h,if_true,sQ,cellsOf]
 cases σ.f b with
 |none=>rfl
 |some o=>
  cases o<;>first|rfl|skip
  rename_i c e z;simp only[cellsIn,true_and];by_cases hc:off+cq P t<=c.size<;>simp[hc]
def Ii:(⟨b,off,none⟩:Addr).add n=⟨b,off+n,none⟩:=Addr.E8 rfl n
def xL(P:Program)(t:TypeId)(off:Nat)(v:Value)(k:Obj->Prop):Obj->Prop
 | .cells c e z=>
   if de v then off<c.size/\z=(0,0)/\cq P t=1/\k (.cells (c.setIfInBounds off v) e z)
   else off+v.cells.size<=c.size/\z=(0,0)/\cq P t=v.cells.size/\v.cells.all de=true/\k (.cells (c.extract 0 off++v.cells++c.extract (off+v.cells.size) c.size) e z)
 |_=>False
@[congr] theorem asE{k:Obj->Prop}(h:tick o=o')(hv:tick v=v'):xL P t off v k o=xL P t off v' k o':=by subst h;subst hv;rfl
def aon{k:Hp->Prop}:uL P t ⟨b,off,none⟩ v σ k=sQ (xL P t off v (λo=>k (σ.set b o))) (σ.f b):=by
 unfold uL sQ
 cases σ.f b with
 |none=>rfl
 |some o=>cases o<;>first|rfl|(simp only[xL,true_and])
def B(l:List UInt8):ByteArray:=⟨l.toArray⟩
def ai7(l:List UInt8):(⟨l.toArray⟩:ByteArray)=B l:=bl
def ai8:(⟨#[]⟩:ByteArray)=B []:=bl
def M9(l:List UInt8):(B l).data=l.toArray:=bl
def wB(l:List UInt8):(B l).size=l.length:=by show l.toArray.size=_;simp
def api(b:ByteArray):∀(n i:Nat) (r:List UInt8),b.size-i=n->ByteArray.toList.loop b i r=r.reverse++b.data.toList.drop i:=by
 intro n
 induction n with
 |zero=>
  intro i r h;unfold ByteArray.toList.loop;have:¬i<b.size:=aa;rw[if_neg this]
  have:b.data.toList.length<=i:=by have h2:b.data.toList.length=b.size:=rfl;omega
  simp[List.drop_eq_nil_of_le this]
 |succ n ih=>
  intro i r h;unfold ByteArray.toList.loop;have bj:i<b.size:=aa;rw[if_pos bj,ih (i+1) _ aa];have hl:i<b.data.toList.length:=bj;rw[List.drop_eq_getElem_cons hl]
  have:b.get! i=b.data.toList[i]:=by have h2:i<b.data.size:=aZ hl;show b.data[i]! =_;rw[getElem!_pos b.data i h2];simp
  simp[this]
def Hy(l:List UInt8):(B l).toList=l:=by unfold ByteArray.toList;rw[api (B l) _ 0 [] rfl];simp[B]
def Vx(a b:List UInt8):B a++B b=B (a++b):=by apply ByteArray.ext;simp[B]
def Na(l:List UInt8)(i j:Nat):(B l).extract i j=B ((l.drop i).take (j-i)):=by apply ByteArray.ext;simp[B,List.extract_eq_take_drop]
def jd(p q:Prop):Prop:=p/\q
@[congr] theorem aqT{p':Prop}(h:tick p=p'):jd p q=jd p' q:=by subst h;rfl
def Zq:jd True q=q:=by simp[jd]
def xw(c p q:Prop):Prop:=(c->p)/\(¬c->q)
@[congr] theorem ar8{c c':Prop}(h:tick c=c'):xw c p q=xw c' p q:=by subst h;rfl
def ahq:xw True p q=p:=by simp[xw]
def ahp:xw False p q=q:=by simp[xw]
def alr{b:Bool}(h:b=true->p)(k:b=false->q):sX p q (.bool b):=by
 cases b
 ·exact k rfl
 ·exact h rfl
noncomputable def qi(c:Prop)(v:Value):Option Value:=open Classical in if c then some v else none
def akT{c:Prop}:kU p k (qi c v)=xw c (k v) p:=by unfold qi xw;by_cases h:c<;>simp[h,kU]
def It(s t:List UInt8):(s==t)=decide (s=t):=by by_cases h:s=t<;>simp[h]
def BD(k:IntKind)(a b:Int):Int:=k.wrap (a*2^(min b.toNat k.bits))
def xQ(k:IntKind)(a b:Int):Int:=a.fdiv (2^(min b.toNat k.bits))
def G3(k:IntKind)(a b:Int):Int:=k.wrap ((BitVec.ofInt k.bits a|||BitVec.ofInt k.bits b).toNat)
def B3(k:IntKind)(a b:Int):Int:=k.wrap ((BitVec.ofInt k.bits a&&&BitVec.ofInt k.bits b).toNat)
def HM(k:IntKind)(a b:Int):Int:=k.wrap ((BitVec.ofInt k.bits a^^^BitVec.ofInt k.bits b).toNat)
variable {k:IntKind}{a b:Int}
def bv_add:cG .add (.int k a) (.int k b)=some (.int k (k.wrap (a+b))):=by simp[cG]
def Yt:cG .sub (.int k a) (.int k b)=some (.int k (k.wrap (a-b))):=by simp[cG]
def Ye:cG .mul (.int k a) (.int k b)=some (.int k (k.wrap (a*b))):=by simp[cG]
def Yk:cG .quo (.int k a) (.int k b)=qi (b≠0) (.int k (k.wrap (a.tdiv b))):=by simp[cG,qi]
def Yl:cG .rem (.int k a) (.int k b)=qi (b≠0) (.int k (a.tmod b)):=by simp[cG,qi]
def X6:cG .eql (.int k a) (.int k b)=some (.bool (decide (a=b))):=by simp[cG];rfl
def Yf:cG .neq (.int k a) (.int k b)=some (.bool (decide (a≠b))):=by simp[cG,bne];rfl
def Yd:cG .lss (.int k a) (.int k b)=some (.bool (decide (a<b))):=by simp[cG]
def Yb:cG .leq (.int k a) (.int k b)=some (.bool (decide (a<=b))):=by simp[cG]
def X8:cG .gtr (.int k a) (.int k b)=some (.bool (decide (b<a))):=by simp[cG]
def X7:cG .geq (.int k a) (.int k b)=some (.bool (decide (b<=a))):=by simp[cG]
variable {j:IntKind}
def Yo:cG .shl (.int k a) (.int j b)=qi (0<=b) (.int k (BD k a b)):=by simp[cG,qi,BD]
def Yp:cG .shr (.int k a) (.int j b)=qi (0<=b) (.int k (xQ k a b)):=by simp[cG,qi,xQ]
def Yi:cG .or (.int k a) (.int k b)=some (.int k (G3 k a b)):=by simp[cG,G3]
def bv_and:cG .and (.int k a) (.int k b)=some (.int k (B3 k a b)):=by simp[cG,B3]
def Yu:cG .xor (.int k a) (.int k b)=some (.int k (HM k a b)):=by simp[cG,HM]
variable {s t:List UInt8}
def Oj:cG .add (.string (B s)) (.string (B t))=qi (s.length+t.length<=9223372036854775807) (.string (B (s++t))):=by
 simp only[cG,wB,qi,Vx];by_cases h:s.length+t.length<=9223372036854775807
 ·rw[if_pos aa,if_pos h]
 ·rw[if_neg aa,if_neg h]
def Ym:cG .eql (.string (B s)) (.string (B t))=some (.bool (decide (s=t))):=by simp[cG,Hy,It]
def Ys:cG .neq (.string (B s)) (.string (B t))=some (.bool (decide (s≠t))):=by simp[cG,Hy,It]
def Yr:cG .lss (.string (B s)) (.string (B t))=some (.bool (Op.bytesLess s t)):=by simp[cG,Hy]
def Yn:cG .gtr (.string (B s)) (.string (B t))=some (.bool !(Op.bytesLess s t||decide (s=t))):=by simp[cG,Hy,It]
variable {op:BinOp}
def Yj{x y:Option Addr}:cG op (.pointer x) (.pointer y)=none:=by cases op<;>rfl
def X5{x y:Bool}:cG op (.bool x) (.bool y)=none:=by cases op<;>rfl
def Yh:cG op .nilIface .nilIface=none:=by cases op<;>rfl
def Yg:cG op .nilIface (.iface u v)=none:=by cases op<;>rfl
def Ya:cG op (.iface u v) .nilIface=none:=by cases op<;>rfl
def X9{u':TypeId}:cG op (.iface u v) (.iface u' v')=none:=by cases op<;>rfl
def pR(P:Program)(t:TypeId):Bool:=match P.underlying t with|some (.pointer _)=>true|_=>false
def tV(P:Program)(t:TypeId):Bool:=match P.underlying t with|some (.interface _)=>true|_=>false
def Ff(P:Program)(t:TypeId):Bool:=match P.underlying t with|some .bool=>true|_=>false
def Bl(h:pR P ty=true):∃e,P.underlying ty=some (.pointer e):=by unfold pR at h;split at h<;>first|exact⟨_,by assumption⟩|cases h
def A0(h:tV P ty=true):∃e,P.underlying ty=some (.interface e):=by unfold tV at h;split at h<;>first|exact⟨_,by assumption⟩|cases h
def Oi(h:Ff P ty=true):P.underlying ty=some .bool:=by unfold Ff at h;split at h<;>first|assumption|cases h
variable {a:Addr}
def akk(h:pR P ty=true):eO P .eql ty (.pointer (some a)) (.pointer none)=some (.bool false):=by obtain⟨e,he⟩:=Bl h;simp[eO,he]
def akj(h:pR P ty=true):eO P .eql ty (.pointer none) (.pointer (some a))=some (.bool false):=by obtain⟨e,he⟩:=Bl h;simp[eO,he]
def aki(h:pR P ty=true):eO P .eql ty (.pointer none) (.pointer none)=some (.bool true):=by obtain⟨e,he⟩:=Bl h;simp[eO,he]
def ajV(h:pR P ty=true):eO P .neq ty (.pointer (some a)) (.pointer none)=some (.bool true):=by obtain⟨e,he⟩:=Bl h;simp[eO,he]
def ajU(h:pR P ty=true):eO P .neq ty (.pointer none) (.pointer (some a))=some (.bool true):=by obtain⟨e,he⟩:=Bl h;simp[eO,he]
def ajT(h:pR P ty=true):eO P .neq ty (.pointer none) (.pointer none)=some (.bool false):=by obtain⟨e,he⟩:=Bl h;simp[eO,he]
variable {a b:Bool}
def ake(h:Ff P ty=true):eO P .eql ty (.bool a) (.bool b)=some (.bool (decide (a=b))):=by simp[eO,Oi h];cases a<;>cases b<;>rfl
def ajQ(h:Ff P ty=true):eO P .neq ty (.bool a) (.bool b)=some (.bool (decide (a≠b))):=by simp[eO,Oi h];cases a<;>cases b<;>rfl
def akg(h:tV P ty=true):eO P .eql ty (.iface u v) .nilIface=some (.bool false):=by obtain⟨e,he⟩:=A0 h;simp[eO,he]
def akh(h:tV P ty=true):eO P .eql ty .nilIface (.iface u v)=some (.bool false):=by obtain⟨e,he⟩:=A0 h;simp[eO,he]
def ajR(h:tV P ty=true):eO P .neq ty (.iface u v) .nilIface=some (.bool true):=by obtain⟨e,he⟩:=A0 h;simp[eO,he]
def ajS(h:tV P ty=true):eO P .neq ty .nilIface (.iface u v)=some (.bool true):=by obtain⟨e,he⟩:=A0 h;simp[eO,he]
def akf:eO P op ty .nilIface .nilIface=none:=by unfold eO;cases op<;>cases P.underlying ty<;>first|rfl|(rename_i d;cases d<;>rfl)
variable {y:Operand}
def ajN(h:tV P ty=true)(hc:(Region.isConst x||Region.isConst y)=true):mY P .eql ty x y .nilIface .nilIface=some (.bool true):=by obtain⟨e,he⟩:=A0 h;simp only[mY,he,hc,if_true]
def ajO(h:tV P ty=true)(hc:(Region.isConst x||Region.isConst y)=true):mY P .neq ty x y .nilIface .nilIface=some (.bool false):=by obtain⟨e,he⟩:=A0 h;simp only[mY,he,hc,if_true]
def apL:uN .not (.bool b)=some (.bool !b):=bl
variable {a:Int}
def apK:uN .neg (.int k a)=some (.int k (k.wrap (0-a))):=bl
def KL(P:Program)(t:TypeId):Option IntKind:=match P.underlying t with|some (.int k)=>some k|_=>none
def pU(P:Program)(t:TypeId):Bool:=match P.underlying t with|some .string=>true|_=>false
def Dy(P:Program)(t:TypeId):Bool:=(P.underlying t).isSome
variable {s d:TypeId}
def aaa(hs:Dy P s=true)(hd:KL P d=some k):lU P s d (.int j a)=some (.int k (k.wrap a)):=by
 unfold Dy at hs;obtain⟨u,hu⟩:=Option.isSome_iff_exists.1 hs;have:P.underlying d=some (.int k):=by unfold KL at hd;split at hd<;>first|(cases hd;assumption)|cases hd
 simp[lU,hu,this]
def Ez(h:pU P ty=true):P.underlying ty=some .string:=by unfold pU at h;split at h<;>first|assumption|cases h
def aac(hs:Dy P s=true)(hd:pU P d=true):lU P s d (.string (B t))=some (.string (B t)):=by unfold Dy at hs;obtain⟨u,hu⟩:=Option.isSome_iff_exists.1 hs;simp[lU,hu,Ez hd]
end Go.Qw
