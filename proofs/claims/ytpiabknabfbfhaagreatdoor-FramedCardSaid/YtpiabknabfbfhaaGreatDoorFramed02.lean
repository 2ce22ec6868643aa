/- 2 -/
import Derived.Test.YtpiabknabfbfhaaGreatDoorFramed01
set_option linter.all false
set_option maxRecDepth 100000
set_option maxHeartbeats 8000000
namespace Go.Qw
open Go Go.Conc
def wy(cs:List Value)(off:Nat)(vs:List Value):List Value:=cs.take off++vs++cs.drop (off+vs.length)
def qu(pl:List (Nat×Nat))(cs:List Value):List (Nat×Value)->Option (List Value)
 |[]=>some cs
 |(i,v)::rest=>match pl[i]? with
  |some (off,size)=>if v.cells.size=size/\off+size<=cs.length then qu pl (wy cs off v.cells.toList) rest else none
  |none=>none
def abY(vs:List Value):∀(cs:Array Value) (off j:Nat),off+j+vs.length<=cs.size->
 (vs.zipIdx j).foldl (λcs (x:Value×Nat)=>cs.setIfInBounds (off+x.2) x.1) cs=(wy cs.toList (off+j) vs).toArray:=by
 induction vs with
 |nil=>intro cs off j h;simp[wy]
 |cons v vs ih=>
  intro cs off j h;simp only[List.length_cons]at h;simp only[List.zipIdx_cons,List.foldl_cons];rw[ih _ _ _ (by simp;omega)];congr 1;simp only[wy,Array.toList_setIfInBounds,List.length_cons];have aZ:off+j<cs.toList.length:=by simp;omega
  rw[show off+(j+1)=off+j+1 by omega];rw[List.take_set,List.drop_set_of_lt aa]
  have:(cs.toList.take (off+j+1)).set (off+j) v=cs.toList.take (off+j)++[v]:=by rw[List.take_succ_eq_append_getElem aZ,List.set_append_right _ _ (by simp;omega)];simp[Nat.min_eq_left (show off+j<=cs.size by omega)]
  rw[this];simp[Nat.add_assoc,Nat.add_comm,Nat.add_left_comm]
def I5(pl:List (Nat×Nat)){place:Nat->Option (Nat×Nat)}(sN:∀(i:Nat) (x:Nat×Nat),pl[i]? =some x->place i=some x)(parts:List (Nat×Value)):∀(cs r:List Value),qu pl cs parts=some r->Instr.fill place cs.toArray parts=some r.toArray:=by
 induction parts with
 |nil=>intro cs r h;simp[qu]at h;subst h;rfl
 |cons p parts ih=>
  obtain⟨i,v⟩:=p;intro cs r h;simp only[qu]at h
  cases hp:pl[i]? with
  |none=>rw[hp]at h;cases h
  |some q=>
   obtain⟨off,size⟩:=q;rw[hp]at h;simp only at h;split at h
   ·rename_i hc;simp only[Instr.fill,sN _ _ hp];have h1:(v.cells.size≠size||off+v.cells.size>cs.toArray.size)=false:=by simp[hc.1];omega
    rw[if_neg (by simp[hc.1];omega)]
    have h2:v.cells.zipIdx.foldl (λcs (x:Value×Nat)=>cs.setIfInBounds (off+x.2) x.1) cs.toArray=(wy cs off v.cells.toList).toArray:=by rw[<-Array.foldl_toList];have:=abY v.cells.toList cs.toArray off 0 (by simp;omega);simpa using this
    have:=ih _ _ h;rw[<-h2]at this;exact this
   ·cases h
def jo(P:Program)(t:TypeId):Option (List (Nat×Nat)):=match P.underlying t with
 |some (.struct fields)=>fields.toList.mapM λf=>(P.info? f.type).map λi=>(f.offset,i.size)
 |_=>none
variable {P:Program}{α:Type}
def aqz{β:Type}{f:α->Sem β}{h:α->Option β}(hf:∀a b (Q:β->Hp->Prop) (H:Halt->Hp->Prop) (U:Hp),h a=some b->Q b U->wpS P (f a) Q H U):
 ∀(l:List α) (r:List β) (Q:List β->Hp->Prop) (H:Halt->Hp->Prop) (U:Hp),l.mapM h=some r->Q r U->wpS P (l.mapM f) Q H U:=by
 intro l
 induction l with
 |nil=>intro r Q H U hr hq;simp at hr;subst hr;simp only[List.mapM_nil,bl];exact hq
 |cons a l ih=>
  intro r Q H U hr hq;simp only[List.mapM_cons,Option.bind_eq_bind,Option.bind_eq_some_iff,Option.pure_def,Option.some.injEq]at hr;obtain⟨b,hb,bs,JX,rfl⟩:=hr;simp only[List.mapM_cons,aF];refine hf a b _ _ _ hb ?_;refine ih bs _ _ _ JX ?_;exact hq
def kQ(P:Program)(t:TypeId)(n:Nat):Option (TypeId×List (Nat×Nat)×List Value):=match P.underlying t with
 |some (.slice e)=>match P.info? e with
  |some i=>if n*i.size>2^24 then none else if n*i.size=0 then some (e,(List.range n).map λk=>(k*i.size,i.size),[])else match i.zero with
   |some z=>some (e,(List.range n).map λk=>(k*i.size,i.size),(List.range (n*i.size)).map λk=>z.cells[k % z.cells.size]!)
   |none=>none
  |none=>none
 |_=>none
def vg(s:ByteArray):Array Value:=s.data.map λb=>.int .u8 b.toNat
def lB(P:Program)(s d:TypeId):Option TypeId:=match P.underlying s,P.underlying d with
 |some .string,some (.slice e)=>match P.underlying e with
  |some (.int .u8)=>some e
  |_=>none
 |_,_=>none
def lv(P:Program)(a:TypeId):Value->Option Value
 | .iface u v=>match P.underlying a with
   |some (.interface _)=>none
   |some _=>if u=a then some (.tuple #[v,.bool true])else(du P a).map λz=>.tuple #[z,.bool false]
   |none=>none
 | .nilIface=>match P.underlying a with
   |some (.interface _)=>none
   |some _=>(du P a).map λz=>.tuple #[z,.bool false]
   |none=>none
 |_=>none
def cq(P:Program)(f:FuncId):Bool:=match P.funcs[f]? with
 |some fn=> !(fn.name== "runtime.NumGoroutine")&& !fn.body.isNone
 |none=>false
def cL(op:BinOp)(x y:Value):Option Value:=
 match op,x,y with
 | .add,.int k a,.int k' b=>if k=k' then some (.int k (k.wrap (a+b)))else none
 | .sub,.int k a,.int k' b=>if k=k' then some (.int k (k.wrap (a-b)))else none
 | .mul,.int k a,.int k' b=>if k=k' then some (.int k (k.wrap (a*b)))else none
 | .quo,.int k a,.int k' b=>if k=k'/\b≠0 then some (.int k (k.wrap (a.tdiv b)))else none
 | .rem,.int k a,.int k' b=>if k=k'/\b≠0 then some (.int k (a.tmod b))else none
 | .eql,.int k a,.int k' b=>if k=k' then some (.bool (a==b))else none
 | .neq,.int k a,.int k' b=>if k=k' then some (.bool (a !=b))else none
 | .lss,.int k a,.int k' b=>if k=k' then some (.bool (decide (a<b)))else none
 | .leq,.int k a,.int k' b=>if k=k' then some (.bool (decide (a<=b)))else none
 | .gtr,.int k a,.int k' b=>if k=k' then some (.bool (decide (a>b)))else none
 | .geq,.int k a,.int k' b=>if k=k' then some (.bool (decide (a>=b)))else none
 | .shl,.int k a,.int _ b=>if 0<=b then some (.int k (k.wrap (a*2^(min b.toNat k.bits))))else none
 | .shr,.int k a,.int _ b=>if 0<=b then some (.int k (a.fdiv (2^(min b.toNat k.bits))))else none
 | .or,.int k a,.int k' b=>if k=k' then some (.int k (k.wrap ((BitVec.ofInt k.bits a|||BitVec.ofInt k.bits b).toNat)))else none
 | .and,.int k a,.int k' b=>if k=k' then some (.int k (k.wrap ((BitVec.ofInt k.bits a&&&BitVec.ofInt k.bits b).toNat)))else none
 | .xor,.int k a,.int k' b=>if k=k' then some (.int k (k.wrap ((BitVec.ofInt k.bits a^^^BitVec.ofInt k.bits b).toNat)))else none
 | .add,.string a,.string b=>if((a.size+b.size:Nat):Int)<=9223372036854775807 then some (.string (a++b))else none
 | .eql,.string a,.string b=>some (.bool (a.toList==b.toList))
 | .neq,.string a,.string b=>some (.bool (!(a.toList==b.toList)))
 | .lss,.string a,.string b=>some (.bool (Op.bytesLess a.toList b.toList))
 | .gtr,.string a,.string b=>some (.bool !(Op.bytesLess a.toList b.toList||a.toList==b.toList))
 |_,_,_=>none
def eO(P:Program)(op:BinOp)(t:TypeId)(x y:Value):Option Value:=
 match op,P.underlying t,x,y with
 | .eql,some (.pointer _),.pointer none,.pointer b=>some (.bool b.isNone)
 | .eql,some (.pointer _),.pointer _,.pointer none=>some (.bool false)
 | .neq,some (.pointer _),.pointer none,.pointer b=>some (.bool !b.isNone)
 | .neq,some (.pointer _),.pointer _,.pointer none=>some (.bool true)
 | .eql,some (.bool),.bool a,.bool b=>some (.bool (a==b))
 | .neq,some (.bool),.bool a,.bool b=>some (.bool !(a==b))
 | .eql,some (.interface _),.nilIface,.iface _ _| .eql,some (.interface _),.iface _ _,.nilIface=>some (.bool false)
 | .neq,some (.interface _),.nilIface,.iface _ _| .neq,some (.interface _),.iface _ _,.nilIface=>some (.bool true)
 |_,_,_,_=>none
def np(P:Program)(op:BinOp)(t:TypeId)(x y:Operand)(a b:Value):Option Value:=
 match op,P.underlying t,a,b with
 | .eql,some (.interface _),.nilIface,.nilIface=>if(Region.isConst x||Region.isConst y)then some (.bool true)else none
 | .neq,some (.interface _),.nilIface,.nilIface=>if(Region.isConst x||Region.isConst y)then some (.bool false)else none
 |_,_,_,_=>none
def uT(op:UnOp)(x:Value):Option Value:=
 match op,x with
 | .neg,.int k n=>some (.int k (k.wrap (0-n)))
 | .not,.bool b=>some (.bool !b)
 |_,_=>none
def lY(P:Program)(src dst:TypeId)(x:Value):Option Value:=
 match P.underlying src,P.underlying dst,x with
 |some _,some (.int k),.int _ n=>some (.int k (k.wrap n))
 |some _,some .string,.string s=>some (.string s)
 |_,_,_=>none
def nE(lo:Option Value):Option Int:=match lo with|none=>some 0|some (.int _ i)=>some i|_=>none
def jE(n:Nat)(hi:Option Value):Option Int:=match hi with|none=>some n|some (.int _ i)=>some i|_=>none
section
variable {P:Program}(E:Env P)
def jJ (f:FuncId)(args:Array Value)(U:Hp)(dst:Option Tmp)(I:av)(ds:List Deferred)(nx:av->List Deferred->Hp->Prop)(pn:List PanicEntry->Hp->Prop):Prop:=
 wpS P (callFunc f args) (pB (λv ae=>nx (aA I dst v) ds ae) (λd ae=>nx (aA I dst undef) (d::ds) ae)
  (λf args ae=>aw E f args ae (xL (λv fZ=>nx (aA I dst v) ds fZ) pn))) (se λv ae=>pn [{v,recovered:=false}] ae) U
def xD (x:Value):Option Value:=
 match x with
 | .string s=>some (.int .i64 s.size)
 | .slice _ n _=>some (.int .i64 n)
 |_=>none
def xC (P:Program)(t:TypeId)(x:Value):Bool:=
 match P.underlying t,x with
 |some .string,.string _|some (.slice _),.slice _ _ _=>true
 |_,_=>false
def aS (o:Oper)(I:av)(ds:List Deferred)(U:Hp)(nx:av->List Deferred->Hp->Prop)(pn:List PanicEntry->Hp->Prop):Prop:=
 let done (v:Value):Prop:=nx (aA I o.dst v) ds U
 match o.op with
 | .move x| .assign x=>done (ai I x)
 | .pick c a b=>match ai I c with
   | .bool true=>done (ai I a)
   | .bool false=>done (ai I b)
   |_=>False
 | .alloc t=>match du P t with
   |some z=>∀b,U.f b=none->nx (aA I o.dst (pV b)) ds (U.set b (.cells z.cells t))
   |none=>False
 | .box t x=>∀b,U.f b=none->nx (aA I o.dst (pV b)) ds (U.set b (.cells (ai I x).cells t))
 | .load t x=>match ai I x with
   | .pointer (some a)=>dk P t=true/\oj P t a U done
   |_=>False
 | .store t x v=>match ai I x with
   | .pointer (some a)=>dk P t=true/\tp P t a (ai I v) U λae=>nx (aA I o.dst undef) ds ae
   |_=>False
 | .nilCheck x=>match ai I x with
   | .pointer (some a)=>done (.pointer (some a))
   | .func (.func f) l c=>done (.func (.func f) l c)
   |_=>False
 | .fieldAddr s x f=>match ai I x,bL P s f with
   | .pointer (some a),some off=>done (.pointer (some (a.add off)))
   |_,_=>False
 | .binOp op t x y _=>match cL op (ai I x) (ai I y)with
   |some v=>done v
   |none=>match eO P op t (ai I x) (ai I y)with
    |some v=>done v
    |none=>match np P op t x y (ai I x) (ai I y)with
     |some v=>done v
     |none=>wpOp E o I ds U nx pn
 | .unOp op _ x=>match uT op (ai I x)with
   |some v=>done v
   |none=>False
 | .convert src dst x=>match lY P src dst (ai I x)with
   |some v=>done v
   |none=>match lB P src dst,ai I x with
    |some e,.string s=>∀b pad z,U.f b=none->nx (aA I o.dst (.slice (some ⟨b,0,none⟩) s.size (s.size+pad))) ds (U.set b (.cells (vg s++Array.replicate pad (.int .u8 0)) e z))
    |_,_=>wpOp E o I ds U nx pn
 | .build t parts=>match du P t,jo P t with
   |some z,some pl=>match qu pl z.cells.toList (parts.toList.map λ(i,x)=>(i,ai I x))with
    |some r=>done (.agg r.toArray)
    |none=>False
   |_,_=>wpOp E o I ds U nx pn
 | .buildSlice t n parts=>match kQ P t n with
   |some (e,pl,zs)=>match qu pl zs (parts.toList.map λ(i,x)=>(i,ai I x))with
    |some r=>∀b,U.f b=none->nx (aA I o.dst (.slice (some ⟨b,0,none⟩) n n)) ds (U.set b (.cells r.toArray e))
    |none=>False
   |none=>wpOp E o I ds U nx pn
 | .typeAssert x _ a true=>match lv P a (ai I x)with
   |some v=>done v
   |none=>wpOp E o I ds U nx pn
 | .makeInterface t x=>match P.underlying t with
   |some (.interface _)=>False
   |some _=>done (.iface t (ai I x))
   |none=>False
 | .makeFunc fn l c=>done (.func fn (l.map (ai I)) (c.map (ai I)))
 | .extract x i=>match ai I x with
   | .tuple vs=>match vs[i]? with
     |some v=>done v
     |none=>False
   |_=>False
 | .indexAddr t x i=>match tn P t,ai I x,ai I i with
   |some e,.slice (some a) n _,.int _ k=>(0<=k/\k<n/\(P.info? e).isSome=true)/\done (.pointer (some (a.add (k.toNat*cC P e))))
   |_,_,_=>wpOp E o I ds U nx pn
 | .index t x i=>match P.underlying t,ai I x,ai I i with
   |some .string,.string s,.int _ k=>∃h:0<=k/\k.toNat<s.size,done (.int .u8 (s[k.toNat]'h.2).toNat)
   |_,_,_=>wpOp E o I ds U nx pn
 | .slice t x lo hi mx=>match P.underlying t,ai I x,mx with
   |some .string,.string s,none=>match nE (lo.map (ai I)),jE s.size (hi.map (ai I))with
    |some l,some h=>(0<=l/\l<=h/\h<=s.size)/\done (.string (s.extract l.toNat h.toNat))
    |_,_=>False
   |some (.slice e),.slice a n c,none=>match nE (lo.map (ai I)),jE n (hi.map (ai I))with
    |some l,some h=>(0<=l/\l<=h/\h<=c/\(P.info? e).isSome=true)/\
     done (.slice (if c=l.toNat then a else a.map (·.add (l.toNat*cC P e))) (h.toNat-l.toNat) (c-l.toNat))
    |_,_=>False
   |_,_,_=>wpOp E o I ds U nx pn
 | .makeMap _ none=>∀b,U.f b=none->nx (aA I o.dst (.map (some b))) ds (U.set b (.map #[] 0))
 | .call c=>match c.callee with
   | .value (.func f)=>jJ E f (c.args.map (ai I)) U o.dst I ds nx pn
   | .value (.tmp x)=>match I x with
     | .func (.func f) l cap=>jJ E f (l++c.args.map (ai I)++cap) U o.dst I ds nx pn
     |_=>wpOp E o I ds U nx pn
   | .builtin .len=>match c.argTypes[0]?,(c.args.map (ai I))[0]? with
     |some t,some x=>match xC P t x,xD x with
      |true,some v=>done v
      |_,_=>wpOp E o I ds U nx pn
     |_,_=>wpOp E o I ds U nx pn
   |_=>wpOp E o I ds U nx pn
 | .panic x=>pn [{v:=ai I x,recovered:=false}] U/\(match ai I x with| .iface _ _=>True|_=>False)
 |_=>wpOp E o I ds U nx pn
end
variable {U:Hp}{A:Next->Hp->Prop}{H:Halt->Hp->Prop}
def lE(s:Sem Value):wpS P (do pure (Next.value (<-s)):Sem Next) A H U=wpS P s (λv U=>A (.value v) U) H U:=by rw[aF];rfl
def Vj(s:Sem Unit):wpS P (do s;pure Next.skip:Sem Next) A H U=wpS P s (λ_ U=>A .skip U) H U:=by rw[aF];rfl
variable {f:FuncId}
def ahq(h:cq P f=true):∃fn,P.funcs[f]? =some fn/\(fn.name== "runtime.NumGoroutine")=false/\fn.body.isNone=false:=by
 unfold cq at h;split at h
 ·rename_i fn hf;simp only[Bool.and_eq_true,Bool.not_eq_true']at h;exact⟨fn,hf,h.1,h.2⟩
 ·cases h
variable {args:Array Value}
def HI(h:cq P f=true)(k:A (.enter f args) U):wpS P (callFunc f args) A H U:=by obtain⟨fn,hf,h1,h2⟩:=ahq h;unfold callFunc;rw[aF,zK,hf];simp only[h1,h2];exact k
variable {I:av}{ds:List Deferred}{nx:av->List Deferred->Hp->Prop}{pn:List PanicEntry->Hp->Prop}{E:Env P}{dst:Option Tmp}
def OA(h:jJ E f args U dst I ds nx pn):
 wpS P (callFunc f args) (pB (λv ae=>nx (aA I dst v) ds ae) (λd ae=>nx (aA I dst undef) (d::ds) ae)
  (λf args ae=>aw E f args ae (xL (λv fZ=>nx (aA I dst v) ds fZ) pn))) (se λv ae=>pn [{v,recovered:=false}] ae) U:=
 h
def Fp(hg:cq P f=true)(h:aw E f args U (xL (λv fZ=>nx (aA I dst v) ds fZ) pn)):jJ E f args U dst I ds nx pn:=
 HI hg h
variable {op:BinOp}{v:Value}
def XK{A:Value->Hp->Prop}{t:TypeId}{x y:Value}(h:cL op x y=some v)(k:A v U):wpS P (binOp op t x y) A H U:=by
 unfold cL at h
 split at h<;>first
  |(obtain rfl:=Option.some.inj h;simpa[binOp,Op.stringOp,bl]using k)
  |(split at h
    ·rename_i hc
     first
     |(subst hc;obtain rfl:=Option.some.inj h;simpa[binOp,Op.intArith,Op.intCmp,Op.intBits,bl]using k)
     |(obtain⟨rfl,hb⟩:=hc;obtain rfl:=Option.some.inj h;simpa[binOp,Op.intDiv,hb,bl]using k)
     |(obtain rfl:=Option.some.inj h;simpa[binOp,Op.shift,Int.not_lt.2 hc,bl]using k)
     |(obtain rfl:=Option.some.inj h
       have cF:¬(IntKind.i64.max<((_:Nat):Int)):=Int.not_lt.2 hc
       simp only[binOp,Op.stringOp,gt_iff_lt,if_neg cF,bl];exact k)
    ·cases h)
  |cases h
variable {A:α->Hp->Prop}{c:Prop}{s t:Sem α}
def aqy [Decidable c](h:wpS P s A H U)(k:wpS P t A H U):wpS P (if c then s else t) A H U:=by
 split
 ·exact h
 ·exact k
def aqx [Decidable c](hc:c)(h:wpS P s A H U):wpS P (if c then s else t) A H U:=by rw[if_pos hc];exact h
variable {t:TypeId}{a b:Value}
def yD{A:Unit->Hp->Prop}{x y:Operand}(k:A () U)(h:(∀c,a≠.agg c)/\(a=.nilIface->b=.nilIface->(Region.isConst x||Region.isConst y)=true)):wpS P (eqGuard op t x y a b) A H U:=by
 unfold eqGuard;refine aqy k ?_;obtain⟨h1,h2⟩:=h
 cases a<;>cases b<;>first
  |exact k
  |exact absurd rfl (h1 _)
  |(have h3:=h2 rfl rfl
    refine aqx ?_ k
    cases x<;>cases y<;>first|rfl|(simp[Region.isConst]at h3))
variable {x y:Value}
def Ck{A:Bool->Hp->Prop}(h:∀n,wpS P (Op.equalIn (n+1) t x y) A H U):wpS P (Op.equal t x y) A H U:=by
 unfold Op.equal;exact h 9999
variable {A:Value->Hp->Prop}
def aj5(h:eO P op t x y=some v)(k:A v U):wpS P (binOp op t x y) A H U:=by
 unfold eO at h
 split at h<;>first
  |(obtain rfl:=Option.some.inj h
    rename_i hu
    unfold binOp
    simp only[aF,bl]
    refine Ck λn=>?_
    unfold Op.equalIn
    simp only[aF,eg,hu]
    first|exact k|(rename_i b;cases b<;>exact k))
  |cases h
def aj3{x y:Operand}(h:np P op t x y a b=some v)(k:A v U):
 wpS P (do eqGuard op t x y a b;binOp op t a b) A H U:=by
 unfold np at h
 split at h<;>first
  |(split at h
    ·rename_i hu hc
     obtain rfl:=Option.some.inj h
     rw[aF]
     refine yD ?_ ⟨ak,λ_ _=>hc⟩
     unfold binOp
     simp only[aF,bl]
     refine Ck λn=>?_
     unfold Op.equalIn
     simp only[aF,eg,hu]
     exact k
    ·cases h)
  |cases h
def apO{op:UnOp}(h:uT op x=some v)(k:A v U):wpS P (Op.unary op x) A H U:=by
 unfold uT at h
 split at h<;>first
  |(obtain rfl:=Option.some.inj h;exact k)
  |cases h
variable {s d:TypeId}
def aau(h:lY P s d x=some v)(k:A v U):wpS P (convert s d x) A H U:=by
 unfold lY at h
 split at h<;>first
  |(obtain rfl:=Option.some.inj h
    rename_i h1 h2
    unfold convert
    simp only[aF,eg,h1,h2]
    exact k)
  |cases h
def On(h:cL op x y=some v):(∀c,x≠.agg c)/\x≠.nilIface:=by unfold cL at h;split at h<;>first|(cases h;done)|exact⟨ak,ak⟩
def aj4(h:eO P op t x y=some v):(∀c,x≠.agg c)/\(x=.nilIface->y≠.nilIface):=by unfold eO at h;split at h<;>first|(cases h;done)|exact⟨ak,ak⟩
variable {e:TypeId}
def Hr(h:tn P t=some e):P.underlying t=some (.slice e):=by
 unfold tn at h;split at h
 ·obtain rfl:=Option.some.inj h;assumption
 ·cases h
def abN{f off:Nat}(h:bL P s f=some off):∃fs x i,P.underlying s=some (.struct fs)/\fs[f]? =some x/\P.info? x.type=some i/\i.size≠0/\x.offset=off:=by
 unfold bL at h;split at h
 ·rename_i fs hu;split at h
  ·rename_i x hx;split at h
   ·rename_i hc;simp only[Bool.and_eq_true,Option.isSome_iff_exists,bne_iff_ne,ne_eq]at hc;obtain⟨⟨i,hi⟩,hz⟩:=hc;refine⟨fs,x,i,hu,hx,hi,?_,Option.some.inj h⟩;simpa[cC,hi]using hz
   ·cases h
  ·cases h
 ·cases h
def Hq{B:Nat->Hp->Prop}(kk:IntKind)(i:Int)(y:Nat)(code:BoundsCode)(h0:0<=i)(h1:i<=y)(hb:B i.toNat U):wpS P (Instr.sliceBound (.int kk i) y code) B H U:=by unfold Instr.sliceBound;simp only[aF,asIntOf,bl];rw[if_pos ⟨h0,h1⟩];exact hb
variable {n c:Nat}
def UA{A:Nat×Nat×Nat->Hp->Prop}{isS:Bool}{lo hi:Option Value}{l h:Int}(hl:nE lo=some l)(hh:jE n hi=some h)(h0:0<=l)(h1:l<=h)(h2:h<=c)(k:A (l.toNat,h.toNat,c) U):wpS P (Instr.sliceBounds isS n c lo hi none) A H U:=by
 have AS:(lo=none/\l=0)\/∃kk,lo=some (.int kk l):=by
  unfold nE at hl;split at hl
  ·exact .inl ⟨rfl,(Option.some.inj hl).symm⟩
  ·rename_i kk i;exact .inr ⟨kk,by rw[Option.some.inj hl]⟩
  ·cases hl
 have C8:(hi=none/\h=n)\/∃kk,hi=some (.int kk h):=by
  unfold jE at hh;split at hh
  ·exact .inl ⟨rfl,(Option.some.inj hh).symm⟩
  ·rename_i kk i;exact .inr ⟨kk,by rw[Option.some.inj hh]⟩
  ·cases hh
 clear hl hh;unfold Instr.sliceBounds;rcases C8 with⟨rfl,rfl⟩|⟨kh,rfl⟩<;>rcases AS with⟨rfl,rfl⟩|⟨kl,rfl⟩<;>simp only[aF,bl]
 ·simpa using k
 ·exact Hq kl l n _ h0 h1 (by simpa using k)
 ·exact Hq kh h c _ aa h2 (by simpa using k)
 ·exact Hq kh h c _ aa h2 (Hq kl l _ _ h0 aa k)
def R9{A:Next->Hp->Prop}{cap:Array Value}(k:wpS P (callFunc f (args++cap)) A H U):wpS P (invoke (.fn (.func f) cap) args) A H U:=k
variable {kk:IntKind}{i:Int}
def agN{a:Addr}(hu:P.underlying t=some (.slice e))(h0:0<=i)(h1:i<n)(hi:(P.info? e).isSome=true)(k:A (.pointer (some (a.add (i.toNat*cC P e)))) U):wpS P (Instr.indexAt t (.slice (some a) n c) (.int kk i)) A H U:=by
 obtain⟨ti,RF⟩:=Option.isSome_iff_exists.1 hi;unfold Instr.indexAt;simp only[aF,asIntOf,bl,eg,hu];rw[if_pos ⟨h0,h1⟩];simp only[aF,sizeOf,fO,RF,bl];simpa[cC,RF]using k
def agO{s:ByteArray}(hu:P.underlying t=some .string)(h:0<=i/\i.toNat<s.size)(k:A (.int .u8 (s[i.toNat]'h.2).toNat) U):wpS P (Instr.index t (.string s) (.int kk i)) A H U:=by
 unfold Instr.index;simp only[aF,asIntOf,bl,eg,hu];rw[if_pos h.1];have:s[i.toNat]? =some (s[i.toNat]'h.2):=getElem?_pos s i.toNat h.2;rw[this];exact k
variable {ty:TypeId}{pos:String}{af:Array Edge}{g:Option (Nat×Bool)}{parts:Array (Nat×Operand)}{pl:List (Nat×Nat)}{r:List Value}
def Yu{z:Value}(hz:du P t=some z)(hp:jo P t=some pl)(hr:qu pl z.cells.toList (parts.toList.map λ(i,x)=>(i,ai I x))=some r)(h:nx (aA I dst (.agg r.toArray)) ds U):wpOp E ⟨dst,.build t parts,ty,pos,af,g⟩ I ds U nx pn:=by
 unfold wpOp;simp only[execOp,Instr.build,zeroValue,aF,fO];unfold du at hz
 cases hi:P.info? t with
 |none=>rw[hi]at hz;cases hz
 |some i=>
  rw[hi]at hz;simp only at hz;simp only[hz,bl];unfold jo at hp;split at hp
  ·rename_i fields hu;simp only[eg,hu,aF];rw[Array.mapM_eq_mapM_toList,aqA];refine aqz (h:=λf=>(P.info? f.type).map λi=>(f.offset,i.size)) ?_ _ pl _ _ _ hp ?_
   ·intro a b Q H U hb hq;obtain⟨j,hj,rfl⟩:=Option.map_eq_some_iff.1 hb;simp only[aF,sizeOf,fO,hj,bl];exact hq
   ·have e2:(parts.map λ(i,x)=>(i,ai I x)).toList=parts.toList.map λ(i,x)=>(i,ai I x):=ak;have:=I5 pl (place:=λi=>(pl.toArray)[i]?) (λi x hx=>by simpa using hx) _ _ _ hr;rw[Array.toArray_toList]at this;simp only[e2,this,bl];exact h
  ·cases hp
def Yt{zs:List Value}(hb:kQ P t n=some (e,pl,zs))(hr:qu pl zs (parts.toList.map λ(i,x)=>(i,ai I x))=some r)(h:∀b,U.f b=none->nx (aA I dst (.slice (some ⟨b,0,none⟩) n n)) ds (U.set b (.cells r.toArray e))):wpOp E ⟨dst,.buildSlice t n parts,ty,pos,af,g⟩ I ds U nx pn:=by
 unfold wpOp;simp only[execOp,Instr.buildSlice,aF,eg];unfold kQ at hb;split at hb
 ·rename_i e' hu;simp only[hu]
  cases hi:P.info? e' with
  |none=>rw[hi]at hb;cases hb
  |some i=>
   rw[hi]at hb;simp only at hb;have e2:(parts.map λ(i,x)=>(i,ai I x)).toList=parts.toList.map λ(i,x)=>(i,ai I x):=ak
   have sN:∀(k:Nat) (x:Nat×Nat),((List.range n).map λk=>(k*i.size,i.size))[k]? =some x->(λk=>some (k*i.size,i.size)) k=some x:=by intro k x hx;obtain⟨m,hm,rfl⟩:=Option.map_eq_some_iff.1 (by simpa using hx:((List.range n)[k]?).map (λk=>(k*i.size,i.size))=some x);have:=List.getElem?_eq_some_iff.1 hm;obtain⟨_,h2⟩:=this;simp at h2;subst h2;rfl
   split at hb
   ·cases hb
   ·rename_i gD;split at hb
    ·rename_i h0
     cases hb
     simp only[sizeOf,aF,fO,hi,bl];rw[if_neg gD];simp only[aF,bl,h0,if_true];have:=I5 _ sN _ _ _ hr;simp only[e2]
     have e3:((Array.range 0).map λx=>(#[]:Array Value)[x %(#[]:Array Value).size]!)=([]:List Value).toArray:=by apply Array.ext';simp
     rw[e3,this];simp only[bl,newRow,aF,xY];exact h
    ·rename_i h0;split at hb
     ·rename_i z hz
      cases hb
      simp only[sizeOf,aF,fO,hi,bl];rw[if_neg gD];simp only[zeroValue];rw[if_neg h0];simp only[aF,fO,hi,hz,bl];have:=I5 _ sN _ _ _ hr;simp only[e2]
      have e3:((Array.range (n*i.size)).map λx=>z.cells[x % z.cells.size]!)=((List.range (n*i.size)).map λk=>z.cells[k % z.cells.size]!).toArray:=by apply Array.ext';simp
      rw[e3,this];simp only[bl,newRow,aF,xY];exact h
     ·cases hb
 ·cases hb
def apb{a:TypeId}{x:Operand}(hv:lv P a (ai I x)=some v)(h:nx (aA I dst v) ds U):wpOp E ⟨dst,.typeAssert x t a true,ty,pos,af,g⟩ I ds U nx pn:=by
 unfold wpOp;simp only[execOp,Instr.typeAssert,aF,eg]
 have RZ:∀z,du P a=some z->∀(Q:Value->Hp->Prop) (H:Halt->Hp->Prop),Q z U->wpS P (zeroValue a) Q H U:=by
  intro z hz Q H hq;simp only[zeroValue,aF,fO];unfold du at hz
  cases hi:P.info? a with
  |none=>rw[hi]at hz;cases hz
  |some i=>rw[hi]at hz;simp only at hz;simp only[hz];exact hq
 unfold lv at hv;split at hv
 ·rename_i u w hx;rw[hx]
  cases hu:P.underlying a with
  |none=>rw[hu]at hv;cases hv
  |some d=>
   rw[hu]at hv
   cases d with
   |interface m=>cases hv
   |_=>
    simp only at hv|-;split at hv
    ·rename_i hc
     cases hv
     rw[if_pos hc];exact h
    ·rename_i hc;obtain⟨z,hz,rfl⟩:=Option.map_eq_some_iff.1 hv;rw[if_neg hc];simp only[if_true,aF];exact RZ z hz _ _ h
 ·rename_i hx;rw[hx]
  cases hu:P.underlying a with
  |none=>rw[hu]at hv;cases hv
  |some d=>
   rw[hu]at hv
   cases d with
   |interface m=>cases hv
   |_=>
    simp only at hv|-;obtain⟨z,hz,rfl⟩:=Option.map_eq_some_iff.1 hv;simp only[if_true,aF];exact RZ z hz _ _ h
 ·cases hv
def aoX{src:TypeId}{x:Operand}{s:ByteArray}(he:lB P src d=some e)(hx:ai I x=.string s)(h:∀b pad z,U.f b=none->nx (aA I dst (.slice (some ⟨b,0,none⟩) s.size (s.size+pad))) ds (U.set b (.cells (vg s++Array.replicate pad (.int .u8 0)) e z))):wpOp E ⟨dst,.convert src d x,ty,pos,af,g⟩ I ds U nx pn:=by
 unfold wpOp;simp only[execOp,convert,aF,eg];unfold lB at he;split at he
 ·rename_i e' hs hd;split at he
  ·rename_i hu
   cases he
   simp only[hs,hd,hx,aF,eg,hu,Conv.stringToBytes,HL];rw[if_neg (by simp[Question.forced])];intro t b hb;simp only[markStringish,aF,bl,zL];show(_/\_);refine⟨by simp[Hp.set],?_⟩
   have e1:(U.set b (Obj.cells (s.data.map (λb=>Value.int IntKind.u8 b.toNat)++Array.replicate ((Question.appendCap s.size 0 e).cut t-s.size) (Value.int IntKind.u8 0)) e)).shape? b=
    some (e,(s.data.map (λb=>Value.int IntKind.u8 b.toNat)++Array.replicate ((Question.appendCap s.size 0 e).cut t-s.size) (Value.int IntKind.u8 0)).size):=by
    simp[Hp.shape?,Hp.set]
   rw[e1];simp only[Vh];refine⟨by simp[Hp.set],?_⟩
   have jP:(Question.appendCap s.size 0 e).cut t=s.size+((Question.appendCap s.size 0 e).cut t-s.size):=by simp only[Question.cut];omega
   have hz:=h b ((Question.appendCap s.size 0 e).cut t-s.size);rw[<-jP]at hz
   have e2:∀n,∃z,((U.set b (Obj.cells (s.data.map (λb=>Value.int IntKind.u8 b.toNat)++Array.replicate ((Question.appendCap s.size 0 e).cut t-s.size) (Value.int IntKind.u8 0)) e)).freeze {block:=b,off:=n} 1)=
    U.set b (Obj.cells (vg s++Array.replicate ((Question.appendCap s.size 0 e).cut t-s.size) (Value.int IntKind.u8 0)) e z):=by
    intro n;refine⟨(n,n+1),Hp.ext' λx=>?_⟩;simp only[Hp.freeze,Hp.modify,Hp.set,vg];by_cases DD:x=b<;>simp[DD,Ft]
   obtain⟨z,DF⟩:=e2 _;rw[DF];exact hz z hb
  ·cases he
 ·cases he
def rV{o:Oper}(h:aS E o I ds U nx pn):wpOp E o I ds U nx pn:=by
 obtain⟨dst,op,type,pos,after,guard⟩:=o
 cases op with
 |move x=>exact h
 |assign x=>exact h
 |pick c a b=>
  simp only[aS]at h;unfold wpOp;simp only[execOp,aF];split at h
  ·rename_i hc;rw[hc];exact h
  ·rename_i hc;rw[hc];exact h
  ·exact h.elim
 |alloc t=>
  simp only[aS]at h;unfold wpOp;simp only[execOp,Instr.alloc,zeroValue,aF,fO];unfold du at h
  cases hi:P.info? t with
  |none=>rw[hi]at h;exact h.elim
  |some i=>
   rw[hi]at h
   cases hz:i.zero with
   |none=>simp only[hz]at h
   |some z=>
    simp only[hz]at h|-;exact h
 |box t x=>exact h
 |build t parts=>
  simp only[aS]at h;split at h
  ·rename_i z pl hz hp;split at h
   ·rename_i r hr;exact Yu hz hp hr h
   ·exact h.elim
  ·exact h
 |buildSlice t n parts=>
  simp only[aS]at h;split at h
  ·rename_i e pl zs hb;split at h
   ·rename_i r hr;exact Yt hb hr h
   ·exact h.elim
  ·exact h
 |insert t m k v=>exact h
 |load t x=>
  simp only[aS]at h;unfold wpOp;simp only[execOp,Instr.loadAt,aF];split at h
  ·rename_i a hx;rw[hx];exact rO h.1 h.2
  ·exact h.elim
 |store t x v=>
  simp only[aS]at h;unfold wpOp;simp only[execOp,Instr.storeAt,aF];split at h
  ·rename_i a hx;rw[hx];exact Hs h.1 h.2
  ·exact h.elim
 |ready g=>exact h
 |waits g=>exact h
 |nilCheck x=>
  simp only[aS]at h;unfold wpOp;simp only[execOp];split at h
  ·rename_i a hx;rw[hx];exact h
  ·rename_i f l c hx;rw[hx];exact h
  ·exact h.elim
 |binOp op t x y t2=>
  simp only[aS]at h
  cases hb:cL op (ai I x) (ai I y)with
  |some v=>
   rw[hb]at h;unfold wpOp;simp only[execOp,aF];have hn:=On hb;exact yD (XK hb h) ⟨hn.1,λe=>absurd e hn.2⟩
  |none=>
   rw[hb]at h
   cases hv:eO P op t (ai I x) (ai I y)with
   |some v=>
    rw[hv]at h;unfold wpOp;simp only[execOp,aF];have hn:=aj4 hv;exact yD (aj5 hv h) ⟨hn.1,λe e'=>absurd e' (hn.2 e)⟩
   |none=>
    rw[hv]at h
    cases hw:np P op t x y (ai I x) (ai I y)with
    |some v=>
     rw[hw]at h;unfold wpOp;simp only[execOp,lE];exact aj3 hw h
    |none=>rw[hw]at h;exact h
 |unOp op t x=>
  simp only[aS]at h;unfold wpOp;simp only[execOp,lE];split at h
  ·rename_i v hv;exact apO hv h
  ·exact h.elim
 |convert s d x=>
  simp only[aS]at h;split at h
  ·rename_i v hv;unfold wpOp;simp only[execOp,lE];exact aau hv h
  ·split at h
   ·rename_i e b he hb;exact aoX he hb h
   ·exact h
 |sliceToArrayPointer d x=>exact h
 |makeInterface t x=>
  simp only[aS]at h;unfold wpOp;simp only[execOp,Instr.makeInterface,aF,eg];split at h
  ·exact h.elim
  ·rename_i d hn hd;rw[hd]
   cases d<;>first|exact absurd rfl (hn _)|exact h
  ·exact h.elim
 |makeFunc fn l c=>exact h
 |makeMap t r=>
  cases r with
  |none=>exact h
  |some r=>exact h
 |makeChan t s=>exact h
 |makeSlice t l c=>exact h
 |slice t x lo hi mx=>
  simp only[aS]at h;split at h
  ·rename_i s hu hx;unfold wpOp;simp only[execOp,Instr.sliceAt,Instr.slice,aF,eg,hu,hx];split at h
   ·rename_i l hh hl Kd;obtain⟨⟨h0,h1,h2⟩,hk⟩:=h;simp only[Option.map_none,Option.isSome_none,Bool.false_eq_true,if_false];simp only[aF,bl];exact UA hl Kd h0 h1 h2 hk
   ·exact h.elim
  ·rename_i e a n c hu hx;unfold wpOp;simp only[execOp,Instr.sliceAt,Instr.slice,aF,eg,hu,hx];split at h
   ·rename_i l hh hl Kd;obtain⟨⟨h0,h1,h2,h3⟩,hk⟩:=h;obtain⟨i,hi⟩:=Option.isSome_iff_exists.1 h3;refine UA hl Kd h0 h1 h2 ?_;simp only[sizeOf,aF,fO,hi,bl];have:cC P e=i.size:=by simp[cC,hi]
    rw[this]at hk;exact hk
   ·exact h.elim
  ·exact h
 |fieldAddr s x f=>
  simp only[aS]at h;unfold wpOp;simp only[execOp,Instr.fieldAt,aF,eg];split at h
  ·rename_i a off hx hf;obtain⟨fs,fx,i,hu,hg,hi,hz,rfl⟩:=abN hf;rw[hu];simp only;rw[hg];simp only[hx,fieldPlace,sizeOf,aF,fO,hi,Instr.sureAddr,bl];rw[if_neg hz];exact h
  ·exact h.elim
 |field t x f=>exact h
 |indexAddr t x i=>
  simp only[aS]at h;split at h
  ·rename_i e a n c kk k hs hx hi;unfold wpOp;simp only[execOp,lE,hx,hi];obtain⟨⟨h0,h1,h2⟩,hk⟩:=h;exact agN (Hr hs) h0 h1 h2 hk
  ·exact h
 |index t x i=>
  simp only[aS]at h;split at h
  ·rename_i s kk k hu hx hi;obtain⟨hh,hk⟩:=h;unfold wpOp;simp only[execOp,lE,hx,hi];exact agO hu hh hk
  ·exact h
 |lookup t x i ok=>exact h
 |mapUpdate t m k v=>exact h
 |mapEntry t m k=>exact h
 |entryStore t m k v=>exact h
 |range t x=>exact h
 |next i s=>exact h
 |entry i=>exact h
 |typeAssert x t a ok=>
  cases ok with
  |false=>exact h
  |true=>
   simp only[aS]at h;split at h
   ·rename_i v hv;exact apb hv h
   ·exact h
 |extract x i=>
  simp only[aS]at h;unfold wpOp;simp only[execOp,lE,Instr.extract];split at h
  ·rename_i vs hx;rw[hx];simp only;split at h
   ·rename_i v hv;rw[hv];exact h
   ·exact h.elim
  ·exact h.elim
 |call c=>
  simp only[aS]at h;split at h
  ·rename_i f hc;unfold wpOp;simp only[execOp,resolve,hc,ai,Deferred.ofValue,aF,bl];refine R9 ?_;simpa using OA h
  ·rename_i x hc;split at h
   ·rename_i f l cap hx;unfold wpOp;simp only[execOp,resolve,hc,ai,hx,Deferred.ofValue,aF,bl];exact R9 (OA h)
   ·exact h
  ·rename_i hc;split at h
   ·rename_i t x ht hx;split at h
    ·rename_i v h1 h2;unfold wpOp;simp only[execOp,resolve,hc,aF,bl,invoke,builtin,Builtin.len_,ht,hx];unfold xC at h1;split at h1
     ·rename_i s hu;rw[eg,hu];simp only[xD,Option.some.injEq]at h2;subst h2;exact h
     ·rename_i e a n c hu;rw[eg,hu];simp only[xD,Option.some.injEq]at h2;subst h2;exact h
     ·cases h1
    ·exact h
   ·exact h
  ·exact h
 |go c=>exact h
 |defer c=>exact h
 |panic x=>
  simp only[aS]at h;unfold wpOp;simp only[execOp,lE,Instr.panic];obtain⟨h1,h2⟩:=h;split at h2
  ·rename_i t v hx;rw[hx]at h1|-;exact h1
  ·exact h2.elim
 |send c x=>exact h
 |recv t c ok=>exact h
 |select cs b=>exact h
end Go.Qw
