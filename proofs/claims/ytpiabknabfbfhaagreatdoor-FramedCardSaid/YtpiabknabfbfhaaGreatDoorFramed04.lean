/- 4 -/
import Derived.KernelRfl
import Derived.Attr
import Derived.Test.YtpiabknabfbfhaaGreatDoorFramed03
set_option linter.all false
set_option maxRecDepth 100000
set_option maxHeartbeats 8000000
namespace Go.Qw
open Go Go.Conc
section
variable {P:Program}(E:Env P)
def iZ (N:Nat)(ops:Array Oper)(Q:Post):List Oper->av->List Deferred->Hp->Prop
 |[],I,ds,U=>Q .normal I ds U
 |o::rest,I,ds,U=>pr N o.dst=true/\
  if Region.wanted o (gO N ops I)then aS E o I ds U (iZ N ops Q rest) (λch ae=>Q (.panic ch) I ds ae)
  else iZ N ops Q rest (aA I o.dst undef) ds U
def lz (nx:av->List Deferred->Hp->Prop)(Q:Post):Post
 | .normal,I,ds,U=>nx I ds U
 |e,I,ds,U=>Q e I ds U
def pH (id:Nat)(Q:Post):Post
 | .exit aI,I,ds,U=>if aI=id then Q .normal I ds U else Q (.exit aI) I ds U
 |e,I,ds,U=>Q e I ds U
def bF (X:av->List Deferred->Hp->Prop)(I:av)(ds:List Deferred)(U:Hp):Prop:=∃R:Hp,R.le U/\X I ds R
def cO (N:Nat):Code->Post->av->List Deferred->Hp->Prop
 | .skip,Q,I,ds,U| .label _,Q,I,ds,U=>Q .normal I ds U
 | .region _ ops false,Q,I,ds,U=>iZ E N ops Q ops.toList I ds U
 | .region _ ops true,Q,I,ds,U=>∀t,my E N ops Q (Region.schedule (P.follows .mixedOrders) ops t) I ds U
 | .seq x y,Q,I,ds,U=>cO N x (lz (cO N y Q) Q) I ds U
 | .cond c x y,Q,I,ds,U=>match ai I c with
   | .bool true=>cO N x Q I ds U
   | .bool false=>cO N y Q I ds U
   |_=>False
 | .block id c,Q,I,ds,U=>cO N c (pH id Q) I ds U
 | .loop c,Q,I,ds,U=>∀X:av->List Deferred->Hp->Prop,(∀aC cV ae,cO N c (lz (bF X) Q) aC cV ae->X aC cV ae)->X I ds U
 | .exit id,Q,I,ds,U=>Q (.exit id) I ds U
 | .ret,Q,I,ds,U=>Q .ret I ds U
 |_,_,_,_,_=>False
end
def Vv(b:Frame)(k:List Item)(cs:List Frame)(a:Act):Ex->Goroutine->Prop
 | .normal,g=>g=G (b.at a k) cs
 | .exit id,g=>∃k',g=G (b.at a (.code (.exit id)::k')) cs/\exitTo id k'=exitTo id k
 | .ret,g=>∃todo,g=G {b.at a todo with mode:=.returning} cs
 | .panic chain,g=>∃todo,g=G {b.at a todo with mode:=.panicking chain} cs
def Comes(N:Nat)(Q:Post)(b:Frame)(k:List Item)(cs:List Frame)(g:Goroutine)(U:Hp):Prop:=
 ∃e I ds a,cM N a I ds/\Q e I ds U/\Vv b k cs a e g
variable {α:Type}
def aiU(l:List α):(List.range l.length).filterMap (l[·]?)=l:=by
 have:∀(n:Nat),n<=l.length->(List.range n).filterMap (l[·]?)=l.take n:=by
  intro n
  induction n with
  |zero=>intro _;rfl
  |succ n ih=>
   intro hn;rw[List.range_succ,List.filterMap_append,ih aa,List.take_succ_eq_append_getElem aa];simp[List.getElem?_eq_getElem (show n<l.length by omega)]
 rw[this _ (Nat.le_refl _),List.take_length]
variable {P:Program}{E:Env P}{N:Nat}{ops:Array Oper}{Q:Post}
def aqs(b:Frame)(hb:b.kind≠.early)(k:List Item)(cs:List Frame)(l:List Nat):
 ∀(I:av) (ds:List Deferred) (U:Hp) (a:Act),iZ E N ops Q (l.filterMap (ops[·]?)) I ds U->cM N a I ds->ax E (G (b.at a (.inRegion ops l::k)) cs) U (Comes N Q b k cs):=by
 induction l with
 |nil=>
  intro I ds U a h ha;exact ax.ctl (λw=>stepG_region_end) rfl rfl (ax.here ⟨.normal,I,ds,a,ha,h,rfl⟩)
 |cons i rest ih=>
  intro I ds U a h ha
  cases ho:ops[i]? with
  |none=>
   rw[List.filterMap_cons_none ho]at h;have jj:((ops[i]?).map (Region.wanted · (yielded ops a.tmps))).getD false=false:=by rw[ho];rfl
   have fe:(b.at a (.inRegion ops (i::rest)::k)).finish undef=b.at a (.inRegion ops rest::k):=by rw[Frame.finish_at,ho];rfl
   refine ax.ctl (g':=G (b.at a (.inRegion ops rest::k)) cs) (λw=>?_) rfl rfl (ih _ _ _ _ h ha);rw[<-fe];simp only[Frame.at]at*;simp[G,stepG,stepG.exec,jj]
  |some o=>
   rw[List.filterMap_cons_some ho]at h;simp only[iZ]at h;obtain⟨hd,h⟩:=h;by_cases hw:Region.wanted o (gO N ops I)=true
   ·rw[if_pos hw]at h;have jj:Region.wanted o (yielded ops a.tmps)=true:=by rw[ha.yc];exact hw
    have h:=rV h;unfold wpOp at h;rw[<-ha.eval]at h;refine ax.step rfl (My (P:=P) (main:=E.main) (b:=b) (k:=k) (cs:=cs) (rest:=rest) ho jj hb h) ?_;rintro g ae (⟨v,hv,rfl⟩|⟨d,sI,rfl⟩|⟨f,args,hc,rfl⟩|⟨v,hp,rfl⟩)
    ·exact ih _ _ _ _ hv (ha.put hd v)
    ·exact ih _ _ _ _ sI ((ha.defer d).put hd undef)
    ·refine aw.run hc ?_ ?_
     ·intro v fZ hv;have fe:(b.at a (.inRegion ops (i::rest)::k)).finish v=b.at (a.put o.dst v) (.inRegion ops rest::k):=by rw[Frame.finish_at,ho];rfl
      rw[fe];exact ih _ _ _ _ hv (ha.put hd v)
     ·intro ch fZ hp;refine ax.here ⟨.panic ch,I,ds,a,ha,hp,.inRegion ops (i::rest)::k,?_⟩;rw[Frame.raise_at]
    ·refine ax.here ⟨.panic _,I,ds,a,ha,hp,.inRegion ops (i::rest)::k,?_⟩;rw[Frame.raise_at]
   ·rw[if_neg hw]at h;have jj:((ops[i]?).map (Region.wanted · (yielded ops a.tmps))).getD false=false:=by rw[ho,ha.yc];simpa using hw
    have fe:(b.at a (.inRegion ops (i::rest)::k)).finish undef=b.at (a.put o.dst undef) (.inRegion ops rest::k):=by rw[Frame.finish_at,ho];rfl
    refine ax.ctl (g':=G (b.at (a.put o.dst undef) (.inRegion ops rest::k)) cs) (λw=>?_) rfl rfl (ih _ _ _ _ h (ha.put hd undef));rw[<-fe];simp only[Frame.at]at*;simp[G,stepG,stepG.exec,jj]
def aqu(b:Frame)(hb:b.kind≠.early)(k:List Item)(cs:List Frame)(l:List Nat):
 ∀(I:av) (ds:List Deferred) (U:Hp) (a:Act),my E N ops Q l I ds U->cM N a I ds->ax E (G (b.at a (.inRegion ops l::k)) cs) U (Comes N Q b k cs):=by
 induction l with
 |nil=>
  intro I ds U a h ha;exact ax.ctl (λw=>stepG_region_end) rfl rfl (ax.here ⟨.normal,I,ds,a,ha,h,rfl⟩)
 |cons i rest ih=>
  intro I ds U a h ha;simp only[my,lV]at h
  cases ho:ops[i]? with
  |none=>rw[ho]at h;exact h.elim
  |some o=>
   rw[ho]at h;obtain⟨hd,h⟩:=h;by_cases hw:Region.wanted o (gO N ops I)=true
   ·rw[if_pos hw]at h
    replace h:wpOp E o I ds U (my E N ops Q rest) (λch ae=>Q (.panic ch) I ds ae):=by
     by_cases hr:cW o.op=true
     ·rw[if_pos hr]at h;obtain⟨v,h3,h4⟩:=h;exact rV (Mc h3 h4)
     ·rw[if_neg hr]at h;exact h
    have jj:Region.wanted o (yielded ops a.tmps)=true:=by rw[ha.yc];exact hw
    unfold wpOp at h;rw[<-ha.eval]at h;refine ax.step rfl (My (P:=P) (main:=E.main) (b:=b) (k:=k) (cs:=cs) (rest:=rest) ho jj hb h) ?_;rintro g ae (⟨v,hv,rfl⟩|⟨d,sI,rfl⟩|⟨f,args,hc,rfl⟩|⟨v,hp,rfl⟩)
    ·exact ih _ _ _ _ hv (ha.put hd v)
    ·exact ih _ _ _ _ sI ((ha.defer d).put hd undef)
    ·refine aw.run hc ?_ ?_
     ·intro v fZ hv;have fe:(b.at a (.inRegion ops (i::rest)::k)).finish v=b.at (a.put o.dst v) (.inRegion ops rest::k):=by rw[Frame.finish_at,ho];rfl
      rw[fe];exact ih _ _ _ _ hv (ha.put hd v)
     ·intro ch fZ hp;refine ax.here ⟨.panic ch,I,ds,a,ha,hp,.inRegion ops (i::rest)::k,?_⟩;rw[Frame.raise_at]
    ·refine ax.here ⟨.panic _,I,ds,a,ha,hp,.inRegion ops (i::rest)::k,?_⟩;rw[Frame.raise_at]
   ·rw[if_neg hw]at h;have jj:((ops[i]?).map (Region.wanted · (yielded ops a.tmps))).getD false=false:=by rw[ho,ha.yc];simpa using hw
    have fe:(b.at a (.inRegion ops (i::rest)::k)).finish undef=b.at (a.put o.dst undef) (.inRegion ops rest::k):=by rw[Frame.finish_at,ho];rfl
    refine ax.ctl (g':=G (b.at (a.put o.dst undef) (.inRegion ops rest::k)) cs) (λw=>?_) rfl rfl (ih _ _ _ _ h (ha.put hd undef));rw[<-fe];simp only[Frame.at]at*;simp[G,stepG,stepG.exec,jj]
def Comes.mono{b:Frame}{k:List Item}{cs:List Frame}{S:Goroutine->Hp->Prop}(hn:∀I ds U a,cM N a I ds->Q .normal I ds U->ax E (G (b.at a k) cs) U S)(he:∀id I ds U a qM,cM N a I ds->Q (.exit id) I ds U->exitTo id qM=exitTo id k->ax E (G (b.at a (.code (.exit id)::qM)) cs) U S)(hr:∀I ds U a todo,cM N a I ds->Q .ret I ds U->ax E (G {b.at a todo with mode:=.returning} cs) U S)(hp:∀ch I ds U a todo,cM N a I ds->Q (.panic ch) I ds U->ax E (G {b.at a todo with mode:=.panicking ch} cs) U S):
 ∀g U,Comes N Q b k cs g U->ax E g U S:=by
 rintro g U ⟨e,I,ds,a,ha,hq,AF⟩
 cases e with
 |normal=>obtain rfl:=AF;exact hn _ _ _ _ ha hq
 |exit id=>obtain⟨qM,rfl,hx⟩:=AF;exact he _ _ _ _ _ _ ha hq hx
 |ret=>obtain⟨todo,rfl⟩:=AF;exact hr _ _ _ _ _ ha hq
 |panic ch=>obtain⟨todo,rfl⟩:=AF;exact hp _ _ _ _ _ _ ha hq
def HH(c:Code):∀(Q:Post) (I:av) (ds:List Deferred) (U:Hp),cO E N c Q I ds U->
 ∀(b:Frame) (k:List Item) (cs:List Frame) (a:Act),b.kind≠.early->cM N a I ds->ax E (G (b.at a (.code c::k)) cs) U (Comes N Q b k cs):=by
 induction c with
 |skip=>exactλQ I ds U h b k cs a hb ha=>ax.ctl (λw=>stepG_skip) rfl rfl (ax.here ⟨.normal,I,ds,a,ha,h,rfl⟩)
 |label l=>exactλQ I ds U h b k cs a hb ha=>ax.ctl (λw=>stepG_label) rfl rfl (ax.here ⟨.normal,I,ds,a,ha,h,rfl⟩)
 |region id ops draw=>
  intro Q I ds U h b k cs a hb ha
  cases draw with
  |false=>
   have e:ops.toList=(List.range ops.size).filterMap (ops[·]?):=by apply List.ext_getElem?;intro i;rw[show(λx=>ops[x]?)=λx=>(ops.toList)[x]? by funext x;simp];rw[<-Array.length_toList,aiU]
   refine ax.ctl (λw=>stepG_region) rfl rfl (aqs b hb k cs _ I ds U a ?_ ha);rw[<-e];exact h
  |true=>
   refine ax.step (X:=λsB rh=>rh=U/\∃t,sB=G (b.at a (.inRegion ops (Region.schedule (P.follows .mixedOrders) ops t)::k)) cs) rfl ?_ ?_
   ·intro J w hs
    have:stepG P E.main (G (b.at a (.code (.region id ops true)::k)) cs) w=.go (G (b.at a (.inRegion ops (Region.schedule (P.follows .mixedOrders) ops (w.tape w.drawn (.order b.fn id)))::k)) cs) {w with drawn:=w.drawn+1}:=by simp[G,stepG,stepG.exec,Frame.at,choose,Sem.run,Question.forced,Question.cut]
    rw[this];exact⟨U,hs.drew _,⟨λ_ _=>rfl,rfl,rfl,rfl,Nat.le_refl _⟩,ak,rfl,rfl,_,rfl⟩
   ·rintro sB rh ⟨rfl,t,rfl⟩;exact aqu b hb k cs _ I ds rh a (h t) ha
 |seq x y ihx ihy=>
  intro Q I ds U h b k cs a hb ha;refine ax.ctl (λw=>stepG_seq) rfl rfl ((ihx _ _ _ _ h b (.code y::k) cs a hb ha).bind (Comes.mono ?_ ?_ ?_ ?_))
  ·exactλaC cV ae a' dJ hq=>ihy _ _ _ _ hq b k cs a' hb dJ
  ·exactλid aC cV ae a' qM dJ hq hx=>ax.here ⟨.exit id,aC,cV,a',dJ,hq,qM,rfl,hx⟩
  ·exactλaC cV ae a' todo dJ hq=>ax.here ⟨.ret,aC,cV,a',dJ,hq,todo,rfl⟩
  ·exactλch aC cV ae a' todo dJ hq=>ax.here ⟨.panic ch,aC,cV,a',dJ,hq,todo,rfl⟩
 |cond x c₁ c₂ agH agI=>
  intro Q I ds U h b k cs a hb ha;unfold cO at h;split at h
  ·rename_i hv;exact ax.ctl (λw=>stepG_cond (t:=true) (by rw[ha.eval];exact hv)) rfl rfl (agH _ _ _ _ h b k cs a hb ha)
  ·rename_i hv;exact ax.ctl (λw=>stepG_cond (t:=false) (by rw[ha.eval];exact hv)) rfl rfl (agI _ _ _ _ h b k cs a hb ha)
  ·exact h.elim
 |block id c ih=>
  intro Q I ds U h b k cs a hb ha;refine ax.ctl (λw=>stepG_block) rfl rfl ((ih _ _ _ _ h b (.inBlock id::k) cs a hb ha).bind (Comes.mono ?_ ?_ ?_ ?_))
  ·exactλaC cV ae a' dJ hq=>ax.ctl (λw=>stepG_inBlock) rfl rfl (ax.here ⟨.normal,aC,cV,a',dJ,hq,rfl⟩)
  ·intro aI aC cV ae a' qM dJ hq hx;by_cases e:aI=id
   ·subst e;simp only[pH,if_true]at hq;have cY:exitTo aI qM=some k:=by rw[hx];simp[exitTo]
    exact ax.ctl (λw=>stepG_exit cY) rfl rfl (ax.here ⟨.normal,aC,cV,a',dJ,hq,rfl⟩)
   ·simp only[pH,e,if_false]at hq;refine ax.here ⟨.exit aI,aC,cV,a',dJ,hq,qM,rfl,?_⟩;rw[hx];have:(id==aI)=false:=by simp;exactλz=>e z.symm
    simp[exitTo,this]
  ·exactλaC cV ae a' todo dJ hq=>ax.here ⟨.ret,aC,cV,a',dJ,hq,todo,rfl⟩
  ·exactλch aC cV ae a' todo dJ hq=>ax.here ⟨.panic ch,aC,cV,a',dJ,hq,todo,rfl⟩
 |loop c ih=>
  intro Q I ds U h b k cs a hb ha;refine ax.ctl (λw=>stepG_loop) rfl rfl ?_;refine h (λI ds U=>∀a,cM N a I ds->ax E (G (b.at a (.code c:: .inLoop c::k)) cs) U (Comes N Q b k cs)) ?_ a ha;intro aC cV ae QH a' dJ;refine(ih _ _ _ _ QH b (.inLoop c::k) cs a' hb dJ).bind (Comes.mono ?_ ?_ ?_ ?_)
  ·exactλBL Am HZ yv vy ⟨R,hle,hq⟩=>ax.ctl (λw=>stepG_inLoop) rfl rfl ((hq yv vy).iD hle)
  ·exactλid BL Am HZ yv qM vy hq hx=>ax.here ⟨.exit id,BL,Am,yv,vy,hq,qM,rfl,by rw[hx];simp[exitTo]⟩
  ·exactλBL Am HZ yv todo vy hq=>ax.here ⟨.ret,BL,Am,yv,vy,hq,todo,rfl⟩
  ·exactλch BL Am HZ yv todo vy hq=>ax.here ⟨.panic ch,BL,Am,yv,vy,hq,todo,rfl⟩
 |exit id=>exactλQ I ds U h b k cs a hb ha=>ax.here ⟨.exit id,I,ds,a,ha,h,k,rfl,rfl⟩
 |ret=>
  intro Q I ds U h b k cs a hb ha;refine ax.ctl (g':=G {b.at a (.code .ret::k)with mode:=.returning} cs) (λw=>?_) rfl rfl (ax.here ⟨.ret,I,ds,a,ha,h,_,rfl⟩);simp[G,stepG,stepG.exec,Frame.at]
 |rangeFunc f ps x y=>exactλQ I ds U h=>h.elim
 |scope c=>exactλQ I ds U h=>h.elim
 |goto l=>exactλQ I ds U h=>h.elim
 |refuse w=>exactλQ I ds U h=>h.elim
variable {fn:Func}{I:av}{ds:List Deferred}
def wC{a:Act}(h:cM N a I ds):results fn a.tmps=By fn I:=by have hg:∀t,a.tmps.getD t undef=I t:=h.tmps;simp only[results,By,hg];rfl
def nG(args:Array Value)(_:Nat)(t:Nat):Value:=args.getD t undef
def sr(args:Array Value)(n:Nat)(h:args.size<=n):cM n {tmps:=args++Array.replicate (n-args.size) undef,defers:=[]} (nG args n) []:=by
 refine⟨by simp;omega,rfl,λt=>?_⟩;simp only[nG,Array.getD_eq_getD_getElem?];rcases Nat.lt_or_ge t args.size with aZ|xi
 ·rw[Array.getElem?_append_left aZ]
 ·rw[Array.getElem?_append_right xi,Array.getElem?_eq_none xi];rw[Array.getElem?_replicate];split<;>rfl
def Fc(P:Program)(fn:Func)(I:av)(U:Hp)(v:Value):Prop:=wpS P (By fn I) (λv' ae=>v'=v/\ae=U) (λ_ _=>False) U
def Ub(P:Program)(fn:Func)(atA:Fin->Hp->Prop):Post
 | .normal,I,ds,U| .ret,I,ds,U=>ds=[]/\∃v R,R.le U/\Fc P fn I R v/\atA (.returned v) R
 | .panic ch,_,ds,U=>ds=[]/\∃R,R.le U/\atA (.panicked ch) R
 | .exit _,_,_,_=>False
variable {f:FuncId}{c:Code}{args:Array Value}{U:Hp}{atA:Fin->Hp->Prop}
def Zr(hf:P.funcs[f]? =some fn)(hb:fn.body=some c)(hn:args.size<=fn.ntmps)(h:cO E fn.ntmps c (Ub P fn atA) (nG args fn.ntmps) [] U):aw E f args U atA:=by
 intro cs
 let b:Frame:={(default:Frame)with fn:=f,kind:=.normal}
 have oT:Frame.enter P f args .normal=b.at {tmps:=args++Array.replicate (fn.ntmps-args.size) undef,defers:=[]} [.code c]:=by simp[Frame.enter,Frame.at,hf,hb,b]
 rw[oT];refine(HH c _ _ _ _ h b [] cs _ (by simp[b]) (sr args fn.ntmps hn)).bind (Comes.mono ?_ ?_ ?_ ?_)
 ·rintro I ds ae a ha ⟨mP,v,R,hle,hv,hR⟩;refine ax.iD (R:=R) (ax.ctl (λw=>stepG_end) rfl rfl (ax.here ⟨.returned v,_,rfl,rfl,⟨rfl,?_,rfl,fn,hf,?_⟩,hR⟩)) hle
  ·have:=ha.defers;subst mP;exact this
  ·have:=wC (fn:=fn) ha;simp only[Frame.at];rw[this];exact hv
 ·exactλid I ds ae a qM _ hq=>hq.elim
 ·rintro I ds ae a todo ha ⟨mP,v,R,hle,hv,hR⟩;refine ax.iD (R:=R) (ax.here ⟨.returned v,_,rfl,rfl,⟨rfl,?_,rfl,fn,hf,?_⟩,hR⟩) hle
  ·have:=ha.defers;subst mP;exact this
  ·have:=wC (fn:=fn) ha;simp only[Frame.at];rw[this];exact hv
 ·rintro ch I ds ae a todo ha ⟨mP,R,hle,hR⟩;refine ax.iD (R:=R) (ax.here ⟨.panicked ch,_,rfl,rfl,⟨rfl,?_,fn,hf⟩,hR⟩) hle;have:=ha.defers;subst mP;exact this
def fG{x y:Code}(h:∀K:av->List Deferred->Hp->Prop,(∀I ds U,cO E N y Q I ds U->K I ds U)->cO E N x (lz K Q) I ds U):cO E N (.seq x y) Q I ds U:=h _ λ_ _ _ x=>x
def BJ{id:Nat}(h:cO E N c (pH id Q) I ds U):cO E N (.block id c) Q I ds U:=h
def lG(P:Program)(rs:Array ResultVar)(I:av)(U:Hp)(v:Value):Prop:=
 wpS P (do
  let vs<-rs.mapM λ
   | .tmp t=>pure (I t)
   | .cell a t=>do loadVar t (<-asAddr (I a))
  pure (if h:vs.size=1 then vs[0]else .tuple vs)) (λv' ae=>v'=v/\ae=U) (λ_ _=>False) U
def dB:lG P #[] I U (.tuple #[]):=by simp[lG,bl]
def aG{t:Tmp}:lG P #[.tmp t] I U (I t):=by simp[lG,bl]
def iT{t u:Tmp}:lG P #[.tmp t,.tmp u] I U (.tuple #[I t,I u]):=by simp[lG,bl]
variable {n:Nat}{rs:Array ResultVar}
def eY(hf:P.funcs[f]? =some fn)(hn:fn.ntmps=n)(hr:fn.results=rs)(hb:fn.body=some c)(hs:args.size<=n)(h:∀Q:Post,(∀{I U R v},lG P rs I R v->R.le U->atA (.returned v) R->Q .normal I [] U)->(∀{I U R v},lG P rs I R v->R.le U->atA (.returned v) R->Q .ret I [] U)->(∀ch I U R,R.le U->atA (.panicked ch) R->Q (.panic ch) I [] U)->
  cO E n c Q (nG args n) [] U):aw E f args U atA:=by
 subst hn;subst hr;refine Zr hf hb hs (h _ ?_ ?_ ?_)
 ·exactλ{I U R v} h1 hl h2=>⟨rfl,v,R,hl,h1,h2⟩
 ·exactλ{I U R v} h1 hl h2=>⟨rfl,v,R,hl,h1,h2⟩
 ·exactλch I U R hl h=>⟨rfl,R,hl,h⟩
def aX(hf:P.funcs[f]? =some fn)(hn:fn.ntmps=n)(hr:fn.results=rs)(h:∀Q:Post,(∀{I U R v},lG P rs I R v->R.le U->atA (.returned v) R->Q .normal I [] U)->(∀{I U R v},lG P rs I R v->R.le U->atA (.returned v) R->Q .ret I [] U)->(∀ch I U R,R.le U->atA (.panicked ch) R->Q (.panic ch) I [] U)->
  cO E n c Q (nG args n) [] U)(hb:fn.body=some c:=by rfl)(hs:args.size<=n:=by simp):aw E f args U atA:=eY hf hn hr hb hs h
def cZ(atz:Nat->av->List Deferred->Hp->Prop)(n:Nat)(h0:atz n I ds U)(hI:∀n I ds U (X:av->List Deferred->Hp->Prop),atz n I ds U->(∀m aC cV ae R,m<n->atz m aC cV R->R.le ae->X aC cV ae)->cO E N c (lz X Q) I ds U):cO E N (.loop c) Q I ds U:=by
 unfold cO;intro X hX
 induction n using Nat.strongRecOn generalizing I ds U with
 |_ n ih=>
  refine hX _ _ _ (hI n I ds U (bF X) h0 ?_);exactλm aC cV ae R hm hi hle=>⟨R,hle,ih m hm hi⟩
def xW{id:Nat}(l:List Nat)(pn:List PanicEntry->List Deferred->Hp->Prop)(hm:P.follows .mixedOrders=true)(hc:su ops l=true)(tY:∀ch I ds U,pn ch ds U->Q (.panic ch) I ds U)(h:fN E N ops Q pn l [] I ds U):cO E N (.region id ops true) Q I ds U:=
 λt=>Pd hc hm tY h t
def bJ{id:Nat}(k:Nat){l:List Nat}(h:fN E N ops Q (λ_ _ _=>False) l [] I ds U)(hl:List.range k=l:=by simp only[List.range,List.range.loop];rfl)(hm:P.follows .mixedOrders=true:=by kernel_rfl)(hc:su ops l=true:=by decide+kernel):cO E N (.region id ops true) Q I ds U:=xW l (λ_ _ _=>False) hm hc (λ_ _ _ _ h=>h.elim) h
def Al{id:Nat}(l:List Nat)(h:fN E N ops Q (λ_ _ _=>False) l [] I ds U)(hm:P.follows .mixedOrders=true:=by kernel_rfl)(hc:su ops l=true:=by decide+kernel):cO E N (.region id ops true) Q I ds U:=xW l _ hm hc (λ_ _ _ _ h=>h.elim) h
def tick(a:α):α:=a
def UT{a:α}:tick a=a:=id (Eq.refl a)
def j8(b:Bool)(p:Prop):Prop:=b=true/\p
variable {b:Bool}{p:Prop}
@[congr] theorem arh{b':Bool}(h:tick b=b'):j8 b p=j8 b' p:=by subst h;rfl
def ZP:j8 true p=p:=by simp[j8]
def mv(k:α->Prop):Option α->Prop
 |some v=>k v
 |none=>False
@[congr] theorem asT{k:α->Prop}{a a':Option α}(h:tick a=a'):mv k a=mv k a':=by subst h;rfl
def alc{k:α->Prop}{v:α}:mv k (some v)=k v:=bj
def tf(p q:Prop):Value->Prop
 | .bool true=>p
 | .bool false=>q
 |_=>False
variable {q:Prop}{v v':Value}
@[congr] theorem asV(h:tick v=v'):tf p q v=tf p q v':=by subst h;rfl
def alL:tf p q (.bool true)=p:=bj
def alJ:tf p q (.bool false)=q:=bj
def qR(k:Addr->Prop):Value->Prop
 | .pointer (some a)=>k a
 |_=>False
@[congr] theorem as0{k:Addr->Prop}(h:tick v=v'):qR k v=qR k v':=by subst h;rfl
def alS{k:Addr->Prop}{a:Addr}:qR k (.pointer (some a))=k a:=bj
def xJ(k:Value->Prop):Value->Prop
 | .pointer (some a)=>k (.pointer (some a))
 | .func (.func f) l c=>k (.func (.func f) l c)
 |_=>False
variable {k:Value->Prop}
@[congr] theorem asM(h:tick v=v'):xJ k v=xJ k v':=by subst h;rfl
def aj2{a:Addr}:xJ k (.pointer (some a))=k (.pointer (some a)):=bj
def aj1{l c:Array Value}:xJ k (.func (.func f) l c)=k (.func (.func f) l c):=bj
def kC(k:Value->Prop)(v:Value):Prop:=k v
@[congr] theorem atj(h:tick v=v'):kC k v=kC k v':=by subst h;rfl
def zJ(k:Value->Prop)(i:Nat):Value->Prop
 | .tuple vs=>mv k vs[i]?
 |_=>False
@[congr] theorem atg{i:Nat}(h:tick v=v'):zJ k i v=zJ k i v':=by subst h;rfl
def apF{i:Nat}{vs:Array Value}:zJ k i (.tuple vs)=mv k vs[i]? :=bj
def ta(U:Hp)(k:Nat->Prop):Prop:=∀b,U.f b=none->k b
variable {jl:Nat}
@[congr] theorem asL{k:Nat->Prop}(_:tick 0=jl):ta U k=ta U k:=rfl
def lh(p:Prop)(k:Value->Prop):Option Value->Prop
 |some v=>k v
 |none=>p
@[congr] theorem asU{a a':Option Value}(h:tick a=a'):lh p k a=lh p k a':=by subst h;rfl
def alf:lh p k (some v)=k v:=bj
def ale:lh p k none=p:=bj
variable {dst:Option Tmp}{nx:av->List Deferred->Hp->Prop}{pn:List PanicEntry->Hp->Prop}
@[congr] theorem arb{NQ:Array Value}(h:tick args=NQ):jJ E f args U dst I ds nx pn=jJ E f NQ U dst I ds nx pn:=by subst h;rfl
@[congr] theorem atm{l:List Oper}(_:tick 0=jl):iZ E N ops Q l I ds U=iZ E N ops Q l I ds U:=rfl
@[congr] theorem atk(_:tick 0=jl):cO E N c Q I ds U=cO E N c Q I ds U:=rfl
@[congr] theorem atn{o:Oper}(_:tick 0=jl):wpOp E o I ds U nx pn=wpOp E o I ds U nx pn:=rfl
@[congr] theorem asR{o:Oper}(_:tick 0=jl):aS E o I ds U nx pn=aS E o I ds U nx pn:=rfl
variable {rest:List Oper}{ty:TypeId}{pos:String}{af:Array Edge}{op:Op}
def aqn:iZ E N ops Q (⟨dst,op,ty,pos,af,none⟩::rest) I ds U=j8 (pr N dst) (aS E ⟨dst,op,ty,pos,af,none⟩ I ds U (iZ E N ops Q rest) (λch ae=>Q (.panic ch) I ds ae)):=by simp[iZ,Region.wanted,j8]
def l7(p q:Prop)(b:Bool)(a:Option Bool):Prop:=if a=some b then p else q
@[congr] theorem arT{a a':Option Bool}(h:tick a=a'):l7 p q b a=l7 p q b a':=by subst h;rfl
def acu:l7 p q true (some true)=p:=by simp[l7]
def acp:l7 p q false (some false)=p:=by simp[l7]
def acs:l7 p q true (some false)=q:=by simp[l7]
def acr:l7 p q false (some true)=q:=by simp[l7]
def aql{j:Nat}:iZ E N ops Q (⟨dst,op,ty,pos,af,some (j,b)⟩::rest) I ds U=
 j8 (pr N dst) (l7 (aS E ⟨dst,op,ty,pos,af,some (j,b)⟩ I ds U (iZ E N ops Q rest) (λch ae=>Q (.panic ch) I ds ae)) (iZ E N ops Q rest (aA I dst undef) ds U) b (gO N ops I j)):=by
 simp only[iZ,Region.wanted,j8,l7,beq_iff_eq]
def aqm:iZ E N ops Q [] I ds U=Q .normal I ds U:=bj
variable {g:Option (Nat×Bool)}{x:Operand}
def amn:aS E ⟨dst,.move x,ty,pos,af,g⟩ I ds U nx pn=kC (λv=>nx (aA I dst v) ds U) (ai I x):=bj
def al7:aS E ⟨dst,.assign x,ty,pos,af,g⟩ I ds U nx pn=kC (λv=>nx (aA I dst v) ds U) (ai I x):=bj
def amq{c a b:Operand}:aS E ⟨dst,.pick c a b,ty,pos,af,g⟩ I ds U nx pn=tf (kC (λv=>nx (aA I dst v) ds U) (ai I a)) (kC (λv=>nx (aA I dst v) ds U) (ai I b)) (ai I c):=by
 simp only[aS,tf]
 cases ai I c<;>first|rfl|(rename_i t;cases t<;>rfl)
variable {t:TypeId}
def al6:aS E ⟨dst,.alloc t,ty,pos,af,g⟩ I ds U nx pn=mv (λz=>ta U λb=>nx (aA I dst (pV b)) ds (U.set b (.cells z.cells t))) (du P t):=by
 simp only[aS,mv,ta]
 cases du P t<;>rfl
def al9:aS E ⟨dst,.box t x,ty,pos,af,g⟩ I ds U nx pn=kC (λv=>ta U λb=>nx (aA I dst (pV b)) ds (U.set b (.cells v.cells t))) (ai I x):=bj
def amj:aS E ⟨dst,.load t x,ty,pos,af,g⟩ I ds U nx pn=j8 (dk P t) (qR (λa=>oj P t a U (λv=>nx (aA I dst v) ds U)) (ai I x)):=by
 simp only[aS,qR,j8]
 cases ai I x<;>first|(simp only[and_false];done)|(rename_i t;cases t<;>simp)
def amt{v:Operand}:aS E ⟨dst,.store t x v,ty,pos,af,g⟩ I ds U nx pn=j8 (dk P t) (qR (λa=>kC (λv=>tp P t a v U λae=>nx (aA I dst undef) ds ae) (ai I v)) (ai I x)):=by
 simp only[aS,qR,j8,kC]
 cases ai I x<;>first|(simp only[and_false];done)|(rename_i t;cases t<;>simp)
def amo:aS E ⟨dst,.nilCheck x,ty,pos,af,g⟩ I ds U nx pn=xJ (λv=>nx (aA I dst v) ds U) (ai I x):=by
 simp only[aS];unfold xJ;generalize ai I x=y
 cases y<;>first|rfl|(rename_i a;cases a<;>rfl)|(rename_i a b c;cases a<;>rfl)
def amf{s:TypeId}{f:Nat}:aS E ⟨dst,.fieldAddr s x f,ty,pos,af,g⟩ I ds U nx pn=qR (λa=>mv (λn=>kC (λv=>nx (aA I dst v) ds U) (.pointer (some (a.add n)))) (bL P s f)) (ai I x):=by
 simp only[aS,qR]
 cases ai I x<;>first|rfl|(rename_i t;cases t<;>cases bL P s f<;>rfl)
variable {u:TypeId}
def al8{op:BinOp}{y:Operand}:aS E ⟨dst,.binOp op t x y u,ty,pos,af,g⟩ I ds U nx pn=
 lh (lh (lh (wpOp E ⟨dst,.binOp op t x y u,ty,pos,af,g⟩ I ds U nx pn) (λv=>nx (aA I dst v) ds U) (np P op t x y (ai I x) (ai I y))) (λv=>nx (aA I dst v) ds U) (eO P op t (ai I x) (ai I y)))
  (λv=>nx (aA I dst v) ds U) (cL op (ai I x) (ai I y)):=by
 simp only[aS,lh]
 cases cL op (ai I x) (ai I y)<;>cases eO P op t (ai I x) (ai I y)<;>cases np P op t x y (ai I x) (ai I y)<;>rfl
def amx{op:UnOp}:aS E ⟨dst,.unOp op t x,ty,pos,af,g⟩ I ds U nx pn=mv (λv=>nx (aA I dst v) ds U) (uT op (ai I x)):=by
 simp only[aS,mv]
 cases uT op (ai I x)<;>rfl
def amd{s d:TypeId}(hn:lB P s d=none):aS E ⟨dst,.convert s d x,ty,pos,af,g⟩ I ds U nx pn=lh (wpOp E ⟨dst,.convert s d x,ty,pos,af,g⟩ I ds U nx pn) (λv=>nx (aA I dst v) ds U) (lY P s d (ai I x)):=by
 simp only[aS,lh,hn]
 cases lY P s d (ai I x)<;>rfl
def ik(P:Program)(t:TypeId):Bool:=match P.underlying t with|some (.interface _)=>false|some _=>true|none=>false
def aml:aS E ⟨dst,.makeInterface t x,ty,pos,af,g⟩ I ds U nx pn=j8 (ik P t) (kC (λv=>nx (aA I dst (.iface t v)) ds U) (ai I x)):=by
 simp only[aS,j8,ik,kC]
 cases P.underlying t with
 |none=>simp
 |some d=>cases d<;>simp
def amk{f:Fn}{l c:Array Operand}:aS E ⟨dst,.makeFunc f l c,ty,pos,af,g⟩ I ds U nx pn=kC (λv=>nx (aA I dst v) ds U) (.func f (l.map (ai I)) (c.map (ai I))):=bj
def amm:aS E ⟨dst,.makeMap t none,ty,pos,af,g⟩ I ds U nx pn=ta U λb=>nx (aA I dst (.map (some b))) ds (U.set b (.map #[] 0)):=bj
def ame{i:Nat}:aS E ⟨dst,.extract x i,ty,pos,af,g⟩ I ds U nx pn=zJ (λv=>nx (aA I dst v) ds U) i (ai I x):=by
 simp only[aS,zJ]
 cases ai I x<;>first|rfl|(rename_i vs;simp only[mv];cases vs[i]? <;>rfl)
variable {as:Array Operand}{cz:Array TypeId}
def amc:aS E ⟨dst,.call ⟨.value (.func f),as,cz⟩,ty,pos,af,g⟩ I ds U nx pn=jJ E f (as.map (ai I)) U dst I ds nx pn:=bj
def Em{x:Tmp}{l cap:Array Value}(h:I x=.func (.func f) l cap):aS E ⟨dst,.call ⟨.value (.tmp x),as,cz⟩,ty,pos,af,g⟩ I ds U nx pn=jJ E f (l++as.map (ai I)++cap) U dst I ds nx pn:=by simp only[aS,h]
def om(P:Program)(p:Prop)(k:Value->Prop)(t:TypeId)(x:Value):Prop:=
 match xC P t x,xD x with
 |true,some v=>k v
 |_,_=>p
@[congr] theorem asA(h:tick v=v'):om P p k t v=om P p k t v':=by subst h;rfl
def aiK{s:ByteArray}(h:P.underlying t=some .string):om P p k t (.string s)=k (.int .i64 s.size):=by simp[om,xC,xD,h]
def aiJ{a:Option Addr}{c:Nat}(h:(tn P t).isSome=true):om P p k t (.slice a n c)=k (.int .i64 n):=by obtain⟨e,he⟩:=Option.isSome_iff_exists.1 h;simp[om,xC,xD,Hr he]
def ami(h:cz[0]? =some t):aS E ⟨dst,.call ⟨.builtin .len,#[x],cz⟩,ty,pos,af,g⟩ I ds U nx pn=
 om P (wpOp E ⟨dst,.call ⟨.builtin .len,#[x],cz⟩,ty,pos,af,g⟩ I ds U nx pn) (λv=>nx (aA I dst v) ds U) t (ai I x):=by
 have e:(#[x].map (ai I))[0]? =some (ai I x):=ak;simp only[aS,h,e,om];rfl
def ap3(d:Nat)(v:Value):up I d v d=v:=by simp[up]
def ap2{d t:Nat}(v:Value)(h:(t==d)=false):up I d v t=I t:=by simp at h;simp[up,h]
def abv(t:Tmp):ai I (.tmp t)=I t:=bj
def abr(v:Value):ai I (.const v)=v:=bj
def abt(f:FuncId):ai I (.func f)=.func (.func f) #[] #[]:=bj
def abu(f:Nat):ai I (.global f)=pV f:=bj
def al1(d:Tmp)(v:Value):aA I (some d) v=up I d v:=bj
def al0(v:Value):aA I none v=I:=bj
def akK{d:Tmp}:pr N (some d)=decide (d<N):=bj
def akJ:pr N none=true:=bj
@[congr] theorem asy{a:Addr}(_:tick 0=jl):oj P t a U k=oj P t a U k:=rfl
@[congr] theorem atb{a:Addr}{k:Hp->Prop}(_:tick 0=jl):tp P t a v U k=tp P t a v U k:=rfl
def tb(k:Obj->Prop):Option Obj->Prop
 |some o=>k o
 |none=>False
@[congr] theorem asQ{k:Obj->Prop}{a a':Option Obj}(h:tick a=a'):tb k a=tb k a':=by subst h;rfl
variable {o:Obj}
def Tq{k:Obj->Prop}:tb k (some o)=k o:=bj
def nQ(off:Nat)(k:Value->Prop):Obj->Prop
 | .cells c _ _=>mv k c[off]?
 |_=>False
variable {off:Nat}{o':Obj}
@[congr] theorem ard(h:tick o=o'):nQ off k o=nQ off k o':=by subst h;rfl
def cellsIn(off n:Nat)(k:Value->Prop):Obj->Prop
 | .cells c _ _=>off+n<=c.size/\k (.agg (c.extract off (off+n)))
 |_=>False
@[congr] theorem are{n':Nat}(h:tick o=o')(hn:tick n=n'):cellsIn off n k o=cellsIn off n' k o':=by subst h;subst hn;rfl
variable {e:TypeId}
def Zz{c:Array Value}{z:Nat×Nat}:cellsIn off n k (.cells c e z)=(off+n<=c.size/\k (.agg (c.extract off (off+n)))):=bj
variable {b:Nat}
def ais(h:dD P t=false):oj P t ⟨b,off,none⟩ U k=tb (nQ off k) (U.f b):=by
 simp only[oj,h,Bool.false_eq_true,if_false,tb,Hp.cell?]
 cases U.f b with
 |none=>rfl
 |some o=>
  cases o<;>first|rfl|skip
  rename_i c e z;simp only[nQ,mv,Option.isSome_none,Bool.false_eq_true,if_false]
  cases c[off]? <;>rfl
def air(h:dD P t=true)(hn:cC P t=n):oj P t ⟨b,off,none⟩ U k=tb (cellsIn off n k) (U.f b):=by
 subst hn;simp only[oj,h,if_true,tb,cellsOf]
 cases U.f b with
 |none=>rfl
 |some o=>
  cases o<;>first|rfl|skip
  rename_i c e z;simp only[cellsIn,true_and];by_cases hc:off+cC P t<=c.size<;>simp[hc]
def Io:(⟨b,off,none⟩:Addr).add n=⟨b,off+n,none⟩:=Addr.Ff rfl n
def xO(P:Program)(t:TypeId)(off:Nat)(v:Value)(k:Obj->Prop):Obj->Prop
 | .cells c e z=>
   if di v then off<c.size/\z=(0,0)/\cC P t=1/\k (.cells (c.setIfInBounds off v) e z)
   else off+v.cells.size<=c.size/\z=(0,0)/\cC P t=v.cells.size/\v.cells.all di=true/\k (.cells (c.extract 0 off++v.cells++c.extract (off+v.cells.size) c.size) e z)
 |_=>False
@[congr] theorem as1{k:Obj->Prop}(h:tick o=o')(hv:tick v=v'):xO P t off v k o=xO P t off v' k o':=by subst h;subst hv;rfl
def aoB{k:Hp->Prop}:tp P t ⟨b,off,none⟩ v U k=tb (xO P t off v (λo=>k (U.set b o))) (U.f b):=by
 unfold tp tb
 cases U.f b with
 |none=>rfl
 |some o=>cases o<;>first|rfl|(simp only[xO,true_and])
def B(l:List UInt8):ByteArray:=⟨l.toArray⟩
def ajp(l:List UInt8):(⟨l.toArray⟩:ByteArray)=B l:=bj
def ajq:(⟨#[]⟩:ByteArray)=B []:=bj
def EZ(l:List UInt8):(B l).data=l.toArray:=bj
def wG(l:List UInt8):(B l).size=l.length:=by show l.toArray.size=_;simp
def apz(b:ByteArray):∀(n i:Nat) (r:List UInt8),b.size-i=n->ByteArray.toList.loop b i r=r.reverse++b.data.toList.drop i:=by
 intro n
 induction n with
 |zero=>
  intro i r h;unfold ByteArray.toList.loop;have:¬i<b.size:=aa;rw[if_neg this]
  have:b.data.toList.length<=i:=by have h2:b.data.toList.length=b.size:=rfl;omega
  simp[List.drop_eq_nil_of_le this]
 |succ n ih=>
  intro i r h;unfold ByteArray.toList.loop;have aZ:i<b.size:=aa;rw[if_pos aZ,ih (i+1) _ aa];have hl:i<b.data.toList.length:=aZ;rw[List.drop_eq_getElem_cons hl]
  have:b.get! i=b.data.toList[i]:=by have h2:i<b.data.size:=aV hl;show b.data[i]! =_;rw[getElem!_pos b.data i h2];simp
  simp[this]
def HA(l:List UInt8):(B l).toList=l:=by unfold ByteArray.toList;rw[apz (B l) _ 0 [] rfl];simp[B]
def VC(a b:List UInt8):B a++B b=B (a++b):=by apply ByteArray.ext;simp[B]
def Nf(l:List UInt8)(i j:Nat):(B l).extract i j=B ((l.drop i).take (j-i)):=by apply ByteArray.ext;simp[B,List.extract_eq_take_drop]
def jd(p q:Prop):Prop:=p/\q
@[congr] theorem arf{p':Prop}(h:tick p=p'):jd p q=jd p' q:=by subst h;rfl
def ZO:jd True q=q:=by simp[jd]
def xA(c p q:Prop):Prop:=(c->p)/\(¬c->q)
@[congr] theorem asu{c c':Prop}(h:tick c=c'):xA c p q=xA c' p q:=by subst h;rfl
def ahK:xA True p q=p:=by simp[xA]
def ahJ:xA False p q=q:=by simp[xA]
def alK{b:Bool}(h:b=true->p)(k:b=false->q):tf p q (.bool b):=by
 cases b
 ·exact k rfl
 ·exact h rfl
noncomputable def qo(c:Prop)(v:Value):Option Value:=open Classical in if c then some v else none
def ald{c:Prop}:lh p k (qo c v)=xA c (k v) p:=by unfold qo xA;by_cases h:c<;>simp[h,lh]
def Iz(s t:List UInt8):(s==t)=decide (s=t):=by by_cases h:s=t<;>simp[h]
def BC(k:IntKind)(a b:Int):Int:=k.wrap (a*2^(min b.toNat k.bits))
def xS(k:IntKind)(a b:Int):Int:=a.fdiv (2^(min b.toNat k.bits))
def G5(k:IntKind)(a b:Int):Int:=k.wrap ((BitVec.ofInt k.bits a|||BitVec.ofInt k.bits b).toNat)
def BZ(k:IntKind)(a b:Int):Int:=k.wrap ((BitVec.ofInt k.bits a&&&BitVec.ofInt k.bits b).toNat)
def HU(k:IntKind)(a b:Int):Int:=k.wrap ((BitVec.ofInt k.bits a^^^BitVec.ofInt k.bits b).toNat)
variable {k:IntKind}{a b:Int}
def bv_add:cL .add (.int k a) (.int k b)=some (.int k (k.wrap (a+b))):=by simp[cL]
def YR:cL .sub (.int k a) (.int k b)=some (.int k (k.wrap (a-b))):=by simp[cL]
def YD:cL .mul (.int k a) (.int k b)=some (.int k (k.wrap (a*b))):=by simp[cL]
def YJ:cL .quo (.int k a) (.int k b)=qo (b≠0) (.int k (k.wrap (a.tdiv b))):=by simp[cL,qo]
def YK:cL .rem (.int k a) (.int k b)=qo (b≠0) (.int k (a.tmod b)):=by simp[cL,qo]
def Yw:cL .eql (.int k a) (.int k b)=some (.bool (decide (a=b))):=by simp[cL];rfl
def YE:cL .neq (.int k a) (.int k b)=some (.bool (decide (a≠b))):=by simp[cL,bne];rfl
def YC:cL .lss (.int k a) (.int k b)=some (.bool (decide (a<b))):=by simp[cL]
def YB:cL .leq (.int k a) (.int k b)=some (.bool (decide (a<=b))):=by simp[cL]
def Yy:cL .gtr (.int k a) (.int k b)=some (.bool (decide (b<a))):=by simp[cL]
def Yx:cL .geq (.int k a) (.int k b)=some (.bool (decide (b<=a))):=by simp[cL]
variable {j:IntKind}
def YN:cL .shl (.int k a) (.int j b)=qo (0<=b) (.int k (BC k a b)):=by simp[cL,qo,BC]
def YO:cL .shr (.int k a) (.int j b)=qo (0<=b) (.int k (xS k a b)):=by simp[cL,qo,xS]
def YH:cL .or (.int k a) (.int k b)=some (.int k (G5 k a b)):=by simp[cL,G5]
def bv_and:cL .and (.int k a) (.int k b)=some (.int k (BZ k a b)):=by simp[cL,BZ]
def YS:cL .xor (.int k a) (.int k b)=some (.int k (HU k a b)):=by simp[cL,HU]
variable {s t:List UInt8}
def Ou:cL .add (.string (B s)) (.string (B t))=qo (s.length+t.length<=9223372036854775807) (.string (B (s++t))):=by
 simp only[cL,wG,qo,VC];by_cases h:s.length+t.length<=9223372036854775807
 ·rw[if_pos aa,if_pos h]
 ·rw[if_neg aa,if_neg h]
def YL:cL .eql (.string (B s)) (.string (B t))=some (.bool (decide (s=t))):=by simp[cL,HA,Iz]
def YQ:cL .neq (.string (B s)) (.string (B t))=some (.bool (decide (s≠t))):=by simp[cL,HA,Iz]
def YP:cL .lss (.string (B s)) (.string (B t))=some (.bool (Op.bytesLess s t)):=by simp[cL,HA]
def YM:cL .gtr (.string (B s)) (.string (B t))=some (.bool !(Op.bytesLess s t||decide (s=t))):=by simp[cL,HA,Iz]
variable {op:BinOp}
def YI{x y:Option Addr}:cL op (.pointer x) (.pointer y)=none:=by cases op<;>rfl
def Yv{x y:Bool}:cL op (.bool x) (.bool y)=none:=by cases op<;>rfl
def YG:cL op .nilIface .nilIface=none:=by cases op<;>rfl
def YF:cL op .nilIface (.iface u v)=none:=by cases op<;>rfl
def YA:cL op (.iface u v) .nilIface=none:=by cases op<;>rfl
def Yz{u':TypeId}:cL op (.iface u v) (.iface u' v')=none:=by cases op<;>rfl
def qa(P:Program)(t:TypeId):Bool:=match P.underlying t with|some (.pointer _)=>true|_=>false
def uh(P:Program)(t:TypeId):Bool:=match P.underlying t with|some (.interface _)=>true|_=>false
def Fo(P:Program)(t:TypeId):Bool:=match P.underlying t with|some .bool=>true|_=>false
def Bo(h:qa P ty=true):∃e,P.underlying ty=some (.pointer e):=by unfold qa at h;split at h<;>first|exact⟨_,by assumption⟩|cases h
def A4(h:uh P ty=true):∃e,P.underlying ty=some (.interface e):=by unfold uh at h;split at h<;>first|exact⟨_,by assumption⟩|cases h
def Ot(h:Fo P ty=true):P.underlying ty=some .bool:=by unfold Fo at h;split at h<;>first|assumption|cases h
variable {a:Addr}
def akD(h:qa P ty=true):eO P .eql ty (.pointer (some a)) (.pointer none)=some (.bool false):=by obtain⟨e,he⟩:=Bo h;simp[eO,he]
def akC(h:qa P ty=true):eO P .eql ty (.pointer none) (.pointer (some a))=some (.bool false):=by obtain⟨e,he⟩:=Bo h;simp[eO,he]
def akB(h:qa P ty=true):eO P .eql ty (.pointer none) (.pointer none)=some (.bool true):=by obtain⟨e,he⟩:=Bo h;simp[eO,he]
def ake(h:qa P ty=true):eO P .neq ty (.pointer (some a)) (.pointer none)=some (.bool true):=by obtain⟨e,he⟩:=Bo h;simp[eO,he]
def akd(h:qa P ty=true):eO P .neq ty (.pointer none) (.pointer (some a))=some (.bool true):=by obtain⟨e,he⟩:=Bo h;simp[eO,he]
def akc(h:qa P ty=true):eO P .neq ty (.pointer none) (.pointer none)=some (.bool false):=by obtain⟨e,he⟩:=Bo h;simp[eO,he]
variable {a b:Bool}
def akx(h:Fo P ty=true):eO P .eql ty (.bool a) (.bool b)=some (.bool (decide (a=b))):=by simp[eO,Ot h];cases a<;>cases b<;>rfl
def aj9(h:Fo P ty=true):eO P .neq ty (.bool a) (.bool b)=some (.bool (decide (a≠b))):=by simp[eO,Ot h];cases a<;>cases b<;>rfl
def akz(h:uh P ty=true):eO P .eql ty (.iface u v) .nilIface=some (.bool false):=by obtain⟨e,he⟩:=A4 h;simp[eO,he]
def akA(h:uh P ty=true):eO P .eql ty .nilIface (.iface u v)=some (.bool false):=by obtain⟨e,he⟩:=A4 h;simp[eO,he]
def aka(h:uh P ty=true):eO P .neq ty (.iface u v) .nilIface=some (.bool true):=by obtain⟨e,he⟩:=A4 h;simp[eO,he]
def akb(h:uh P ty=true):eO P .neq ty .nilIface (.iface u v)=some (.bool true):=by obtain⟨e,he⟩:=A4 h;simp[eO,he]
def aky:eO P op ty .nilIface .nilIface=none:=by unfold eO;cases op<;>cases P.underlying ty<;>first|rfl|(rename_i d;cases d<;>rfl)
variable {y:Operand}
def aj6(h:uh P ty=true)(hc:(Region.isConst x||Region.isConst y)=true):np P .eql ty x y .nilIface .nilIface=some (.bool true):=by obtain⟨e,he⟩:=A4 h;simp only[np,he,hc,if_true]
def aj7(h:uh P ty=true)(hc:(Region.isConst x||Region.isConst y)=true):np P .neq ty x y .nilIface .nilIface=some (.bool false):=by obtain⟨e,he⟩:=A4 h;simp only[np,he,hc,if_true]
def ap5:uT .not (.bool b)=some (.bool !b):=bj
variable {a:Int}
def ap4:uT .neg (.int k a)=some (.int k (k.wrap (0-a))):=bj
def KT(P:Program)(t:TypeId):Option IntKind:=match P.underlying t with|some (.int k)=>some k|_=>none
def qe(P:Program)(t:TypeId):Bool:=match P.underlying t with|some .string=>true|_=>false
def DI(P:Program)(t:TypeId):Bool:=(P.underlying t).isSome
variable {s d:TypeId}
def aaz(hs:DI P s=true)(hd:KT P d=some k):lY P s d (.int j a)=some (.int k (k.wrap a)):=by
 unfold DI at hs;obtain⟨u,hu⟩:=Option.isSome_iff_exists.1 hs;have:P.underlying d=some (.int k):=by unfold KT at hd;split at hd<;>first|(cases hd;assumption)|cases hd
 simp[lY,hu,this]
def EF(h:qe P ty=true):P.underlying ty=some .string:=by unfold qe at h;split at h<;>first|assumption|cases h
def aaB(hs:DI P s=true)(hd:qe P d=true):lY P s d (.string (B t))=some (.string (B t)):=by unfold DI at hs;obtain⟨u,hu⟩:=Option.isSome_iff_exists.1 hs;simp[lY,hu,EF hd]
end Go.Qw
