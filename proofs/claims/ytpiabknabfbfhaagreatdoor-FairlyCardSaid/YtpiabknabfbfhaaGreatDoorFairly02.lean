/- Part 2. -/
import Derived.Test.YtpiabknabfbfhaaGreatDoorFairly01
set_option linter.all false
set_option maxRecDepth 100000
set_option maxHeartbeats 8000000
namespace Go.Qw
open Go Go.Conc
def v8(cs:List Value)(off:Nat)(vs:List Value):List Value:=cs.take off++vs++cs.drop (off+vs.length)
def qk(pl:List (Nat×Nat))(cs:List Value):List (Nat×Value)->Option (List Value)
 |[]=>some cs
 |(i,v)::rest=>match pl[i]? with
  |some (off,size)=>if v.cells.size=size/\off+size<=cs.length then qk pl (v8 cs off v.cells.toList) rest else none
  |none=>none
def abB(vs:List Value):∀(cs:Array Value) (off j:Nat),off+j+vs.length<=cs.size->
 (vs.zipIdx j).foldl (λcs (x:Value×Nat)=>cs.setIfInBounds (off+x.2) x.1) cs=(v8 cs.toList (off+j) vs).toArray:=by
 induction vs with
 |nil=>intro cs off j h;simp[v8]
 |cons v vs ih=>
  intro cs off j h;simp only[List.length_cons]at h;simp only[List.zipIdx_cons,List.foldl_cons];rw[ih _ _ _ (by simp;omega)];congr 1;simp only[v8,Array.toList_setIfInBounds,List.length_cons];have bj:off+j<cs.toList.length:=by simp;omega
  rw[show off+(j+1)=off+j+1 by omega];rw[List.take_set,List.drop_set_of_lt aa]
  have:(cs.toList.take (off+j+1)).set (off+j) v=cs.toList.take (off+j)++[v]:=by rw[List.take_succ_eq_append_getElem bj,List.set_append_right _ _ (by simp;omega)];simp[Nat.min_eq_left (show off+j<=cs.size by omega)]
  rw[this];simp[Nat.add_assoc,Nat.add_comm,Nat.add_left_comm]
def IV(pl:List (Nat×Nat)){place:Nat->Option (Nat×Nat)}(sE:∀(i:Nat) (x:Nat×Nat),pl[i]? =some x->place i=some x)(parts:List (Nat×Value)):∀(cs r:List Value),qk pl cs parts=some r->Instr.fill place cs.toArray parts=some r.toArray:=by
 induction parts with
 |nil=>intro cs r h;simp[qk]at h;subst h;rfl
 |cons p parts ih=>
  obtain⟨i,v⟩:=p;intro cs r h;simp only[qk]at h
  cases hp:pl[i]? with
  |none=>rw[hp]at h;cases h
  |some q=>
   obtain⟨off,size⟩:=q;rw[hp]at h;simp only at h;split at h
   ·rename_i hc;simp only[Instr.fill,sE _ _ hp];have h1:(v.cells.size≠size||off+v.cells.size>cs.toArray.size)=false:=by simp[hc.1];omega
    rw[if_neg (by simp[hc.1];omega)]
    have h2:v.cells.zipIdx.foldl (λcs (x:Value×Nat)=>cs.setIfInBounds (off+x.2) x.1) cs.toArray=(v8 cs off v.cells.toList).toArray:=by rw[<-Array.foldl_toList];have:=abB v.cells.toList cs.toArray off 0 (by simp;omega);simpa using this
    have:=ih _ _ h;rw[<-h2]at this;exact this
   ·cases h
def jk(P:Program)(t:TypeId):Option (List (Nat×Nat)):=match P.underlying t with
 |some (.struct fields)=>fields.toList.mapM λf=>(P.info? f.type).map λi=>(f.offset,i.size)
 |_=>none
variable {P:Program}{α:Type}
def aqd{O:Type}{f:α->Sem O}{h:α->Option O}(hf:∀a b (Q:O->Hp->Prop) (H:Halt->Hp->Prop) (σ:Hp),h a=some b->Q b σ->wpS P (f a) Q H σ):
 ∀(l:List α) (r:List O) (Q:List O->Hp->Prop) (H:Halt->Hp->Prop) (σ:Hp),l.mapM h=some r->Q r σ->wpS P (l.mapM f) Q H σ:=by
 intro l
 induction l with
 |nil=>intro r Q H σ hr hq;simp at hr;subst hr;simp only[List.mapM_nil,bq];exact hq
 |cons a l ih=>
  intro r Q H σ hr hq;simp only[List.mapM_cons,Option.bind_eq_bind,Option.bind_eq_some_iff,Option.pure_def,Option.some.injEq]at hr;obtain⟨b,hb,bs,hbs,rfl⟩:=hr;simp only[List.mapM_cons,aH];refine hf a b _ _ _ hb ?_;refine ih bs _ _ _ hbs ?_;exact hq
def kI(P:Program)(t:TypeId)(n:Nat):Option (TypeId×List (Nat×Nat)×List Value):=match P.underlying t with
 |some (.slice e)=>match P.info? e with
  |some i=>if n*i.size>2^24 then none else if n*i.size=0 then some (e,(List.range n).map λk=>(k*i.size,i.size),[])else match i.zero with
   |some z=>some (e,(List.range n).map λk=>(k*i.size,i.size),(List.range (n*i.size)).map λk=>z.cells[k % z.cells.size]!)
   |none=>none
  |none=>none
 |_=>none
def uZ(s:ByteArray):Array Value:=s.data.map λb=>.int .u8 b.toNat
def kY(P:Program)(s d:TypeId):Option TypeId:=match P.underlying s,P.underlying d with
 |some .string,some (.slice e)=>match P.underlying e with
  |some (.int .u8)=>some e
  |_=>none
 |_,_=>none
def kW(P:Program)(a:TypeId):Value->Option Value
 | .iface u v=>match P.underlying a with
   |some (.interface _)=>none
   |some _=>if u=a then some (.tuple #[v,.bool true])else(dq P a).map λz=>.tuple #[z,.bool false]
   |none=>none
 | .nilIface=>match P.underlying a with
   |some (.interface _)=>none
   |some _=>(dq P a).map λz=>.tuple #[z,.bool false]
   |none=>none
 |_=>none
def cf(P:Program)(f:FuncId):Bool:=match P.funcs[f]? with
 |some fn=> !(fn.name== "runtime.NumGoroutine")&& !fn.body.isNone
 |none=>false
def cG(op:BinOp)(x y:Value):Option Value:=
 match op,x,y with
 | .add,.int k a,.int k' b=>if k=k' then some (.int k (k.wrap (a+b)))else none
 | .sub,.int k a,.int k' b=>if k=k' then some (.int k (k.wrap (a-b)))else none
 | .mul,.int k a,.int k' b=>if k=k' then some (.int k (k.wrap (a*b)))else none
 | .quo,.int k a,.int k' b=>if k=k'/\b≠0 then some (.int k (k.wrap (a.tdiv b)))else none
 | .rem,.int k a,.int k' b=>if k=k'/\b≠0 then some (.int k (a.tmod b))else none
 | .eql,.int k a,.int k' b=>if k=k' then some (.bool (a==b))else none
 | .neq,.int k a,.int k' b=>if k=k' then some (.bool (a !=b))else none
 | .lss,.int k a,.int k' b=>if k=k' then some (.bool (decide (a<b)))else none
 | .leq,.int k a,.int k' b=>if k=k' then some (.bool (decide (a<=b)))else none
 | .gtr,.int k a,.int k' b=>if k=k' then some (.bool (decide (a>b)))else none
 | .geq,.int k a,.int k' b=>if k=k' then some (.bool (decide (a>=b)))else none
 | .shl,.int k a,.int _ b=>if 0<=b then some (.int k (k.wrap (a*2^(min b.toNat k.bits))))else none
 | .shr,.int k a,.int _ b=>if 0<=b then some (.int k (a.fdiv (2^(min b.toNat k.bits))))else none
 | .or,.int k a,.int k' b=>if k=k' then some (.int k (k.wrap ((BitVec.ofInt k.bits a|||BitVec.ofInt k.bits b).toNat)))else none
 | .and,.int k a,.int k' b=>if k=k' then some (.int k (k.wrap ((BitVec.ofInt k.bits a&&&BitVec.ofInt k.bits b).toNat)))else none
 | .xor,.int k a,.int k' b=>if k=k' then some (.int k (k.wrap ((BitVec.ofInt k.bits a^^^BitVec.ofInt k.bits b).toNat)))else none
 | .add,.string a,.string b=>if((a.size+b.size:Nat):Int)<=9223372036854775807 then some (.string (a++b))else none
 | .eql,.string a,.string b=>some (.bool (a.toList==b.toList))
 | .neq,.string a,.string b=>some (.bool (!(a.toList==b.toList)))
 | .lss,.string a,.string b=>some (.bool (Op.bytesLess a.toList b.toList))
 | .gtr,.string a,.string b=>some (.bool !(Op.bytesLess a.toList b.toList||a.toList==b.toList))
 |_,_,_=>none
def eO(P:Program)(op:BinOp)(t:TypeId)(x y:Value):Option Value:=
 match op,P.underlying t,x,y with
 | .eql,some (.pointer _),.pointer none,.pointer b=>some (.bool b.isNone)
 | .eql,some (.pointer _),.pointer _,.pointer none=>some (.bool false)
 | .neq,some (.pointer _),.pointer none,.pointer b=>some (.bool !b.isNone)
 | .neq,some (.pointer _),.pointer _,.pointer none=>some (.bool true)
 | .eql,some (.bool),.bool a,.bool b=>some (.bool (a==b))
 | .neq,some (.bool),.bool a,.bool b=>some (.bool !(a==b))
 | .eql,some (.interface _),.nilIface,.iface _ _| .eql,some (.interface _),.iface _ _,.nilIface=>some (.bool false)
 | .neq,some (.interface _),.nilIface,.iface _ _| .neq,some (.interface _),.iface _ _,.nilIface=>some (.bool true)
 |_,_,_,_=>none
def mY(P:Program)(op:BinOp)(t:TypeId)(x y:Operand)(a b:Value):Option Value:=
 match op,P.underlying t,a,b with
 | .eql,some (.interface _),.nilIface,.nilIface=>if(Region.isConst x||Region.isConst y)then some (.bool true)else none
 | .neq,some (.interface _),.nilIface,.nilIface=>if(Region.isConst x||Region.isConst y)then some (.bool false)else none
 |_,_,_,_=>none
def uN(op:UnOp)(x:Value):Option Value:=
 match op,x with
 | .neg,.int k n=>some (.int k (k.wrap (0-n)))
 | .not,.bool b=>some (.bool !b)
 |_,_=>none
def lU(P:Program)(src dst:TypeId)(x:Value):Option Value:=
 match P.underlying src,P.underlying dst,x with
 |some _,some (.int k),.int _ n=>some (.int k (k.wrap n))
 |some _,some .string,.string s=>some (.string s)
 |_,_,_=>none
def nA(lo:Option Value):Option Int:=match lo with|none=>some 0|some (.int _ i)=>some i|_=>none
def jy(n:Nat)(hi:Option Value):Option Int:=match hi with|none=>some n|some (.int _ i)=>some i|_=>none
section
variable {P:Program}(E:Env P)
def jR (f:FuncId)(args:Array Value)(σ:Hp)(dst:Option Tmp)(ρ:av)(ds:List Deferred)(nx:av->List Deferred->Hp->Prop)(pn:List PanicEntry->Hp->Prop):Prop:=
 wpS P (callFunc f args) (pd (λv ae=>nx (aB ρ dst v) ds ae) (λd ae=>nx (aB ρ dst undef) (d::ds) ae)
  (λf args ae=>ay E f args ae (xI (λv fZ=>nx (aB ρ dst v) ds fZ) pn))) (rP λv ae=>pn [{v,recovered:=false}] ae) σ
def xz (x:Value):Option Value:=
 match x with
 | .string s=>some (.int .i64 s.size)
 | .slice _ n _=>some (.int .i64 n)
 |_=>none
def xy (P:Program)(t:TypeId)(x:Value):Bool:=
 match P.underlying t,x with
 |some .string,.string _|some (.slice _),.slice _ _ _=>true
 |_,_=>false
def aT (o:Oper)(ρ:av)(ds:List Deferred)(σ:Hp)(nx:av->List Deferred->Hp->Prop)(pn:List PanicEntry->Hp->Prop):Prop:=
 let done (v:Value):Prop:=nx (aB ρ o.dst v) ds σ
 match o.op with
 | .move x| .assign x=>done (ak ρ x)
 | .pick c a b=>match ak ρ c with
   | .bool true=>done (ak ρ a)
   | .bool false=>done (ak ρ b)
   |_=>False
 | .alloc t=>match dq P t with
   |some z=>∀b,σ.f b=none->nx (aB ρ o.dst (pV b)) ds (σ.set b (.cells z.cells t))
   |none=>False
 | .box t x=>∀b,σ.f b=none->nx (aB ρ o.dst (pV b)) ds (σ.set b (.cells (ak ρ x).cells t))
 | .load t x=>match ak ρ x with
   | .pointer (some a)=>dm P t=true/\nY P t a σ done
   |_=>False
 | .store t x v=>match ak ρ x with
   | .pointer (some a)=>dm P t=true/\uL P t a (ak ρ v) σ λae=>nx (aB ρ o.dst undef) ds ae
   |_=>False
 | .nilCheck x=>match ak ρ x with
   | .pointer (some a)=>done (.pointer (some a))
   | .func (.func f) l c=>done (.func (.func f) l c)
   |_=>False
 | .fieldAddr s x f=>match ak ρ x,bH P s f with
   | .pointer (some a),some off=>done (.pointer (some (a.add off)))
   |_,_=>False
 | .binOp op t x y _=>match cG op (ak ρ x) (ak ρ y)with
   |some v=>done v
   |none=>match eO P op t (ak ρ x) (ak ρ y)with
    |some v=>done v
    |none=>match mY P op t x y (ak ρ x) (ak ρ y)with
     |some v=>done v
     |none=>wpOp E o ρ ds σ nx pn
 | .unOp op _ x=>match uN op (ak ρ x)with
   |some v=>done v
   |none=>False
 | .convert src dst x=>match lU P src dst (ak ρ x)with
   |some v=>done v
   |none=>match kY P src dst,ak ρ x with
    |some e,.string s=>∀b pad z,σ.f b=none->nx (aB ρ o.dst (.slice (some ⟨b,0,none⟩) s.size (s.size+pad))) ds (σ.set b (.cells (uZ s++Array.replicate pad (.int .u8 0)) e z))
    |_,_=>wpOp E o ρ ds σ nx pn
 | .build t parts=>match dq P t,jk P t with
   |some z,some pl=>match qk pl z.cells.toList (parts.toList.map λ(i,x)=>(i,ak ρ x))with
    |some r=>done (.agg r.toArray)
    |none=>False
   |_,_=>wpOp E o ρ ds σ nx pn
 | .buildSlice t n parts=>match kI P t n with
   |some (e,pl,zs)=>match qk pl zs (parts.toList.map λ(i,x)=>(i,ak ρ x))with
    |some r=>∀b,σ.f b=none->nx (aB ρ o.dst (.slice (some ⟨b,0,none⟩) n n)) ds (σ.set b (.cells r.toArray e))
    |none=>False
   |none=>wpOp E o ρ ds σ nx pn
 | .typeAssert x _ a true=>match kW P a (ak ρ x)with
   |some v=>done v
   |none=>wpOp E o ρ ds σ nx pn
 | .makeInterface t x=>match P.underlying t with
   |some (.interface _)=>False
   |some _=>done (.iface t (ak ρ x))
   |none=>False
 | .makeFunc fn l c=>done (.func fn (l.map (ak ρ)) (c.map (ak ρ)))
 | .extract x i=>match ak ρ x with
   | .tuple vs=>match vs[i]? with
     |some v=>done v
     |none=>False
   |_=>False
 | .indexAddr t x i=>match s5 P t,ak ρ x,ak ρ i with
   |some e,.slice (some a) n _,.int _ k=>(0<=k/\k<n/\(P.info? e).isSome=true)/\done (.pointer (some (a.add (k.toNat*cq P e))))
   |_,_,_=>wpOp E o ρ ds σ nx pn
 | .index t x i=>match P.underlying t,ak ρ x,ak ρ i with
   |some .string,.string s,.int _ k=>∃h:0<=k/\k.toNat<s.size,done (.int .u8 (s[k.toNat]'h.2).toNat)
   |_,_,_=>wpOp E o ρ ds σ nx pn
 | .slice t x lo hi mx=>match P.underlying t,ak ρ x,mx with
   |some .string,.string s,none=>match nA (lo.map (ak ρ)),jy s.size (hi.map (ak ρ))with
    |some l,some h=>(0<=l/\l<=h/\h<=s.size)/\done (.string (s.extract l.toNat h.toNat))
    |_,_=>False
   |some (.slice e),.slice a n c,none=>match nA (lo.map (ak ρ)),jy n (hi.map (ak ρ))with
    |some l,some h=>(0<=l/\l<=h/\h<=c/\(P.info? e).isSome=true)/\
     done (.slice (if c=l.toNat then a else a.map (·.add (l.toNat*cq P e))) (h.toNat-l.toNat) (c-l.toNat))
    |_,_=>False
   |_,_,_=>wpOp E o ρ ds σ nx pn
 | .makeMap _ none=>∀b,σ.f b=none->nx (aB ρ o.dst (.map (some b))) ds (σ.set b (.map #[] 0))
 | .call c=>match c.callee with
   | .value (.func f)=>jR E f (c.args.map (ak ρ)) σ o.dst ρ ds nx pn
   | .value (.tmp x)=>match ρ x with
     | .func (.func f) l cap=>jR E f (l++c.args.map (ak ρ)++cap) σ o.dst ρ ds nx pn
     |_=>wpOp E o ρ ds σ nx pn
   | .builtin .len=>match c.argTypes[0]?,(c.args.map (ak ρ))[0]? with
     |some t,some x=>match xy P t x,xz x with
      |true,some v=>done v
      |_,_=>wpOp E o ρ ds σ nx pn
     |_,_=>wpOp E o ρ ds σ nx pn
   |_=>wpOp E o ρ ds σ nx pn
 | .panic x=>pn [{v:=ak ρ x,recovered:=false}] σ/\(match ak ρ x with| .iface _ _=>True|_=>False)
 |_=>wpOp E o ρ ds σ nx pn
end
variable {σ:Hp}{A:Next->Hp->Prop}{H:Halt->Hp->Prop}
def lf(s:Sem Value):wpS P (do pure (Next.value (<-s)):Sem Next) A H σ=wpS P s (λv σ=>A (.value v) σ) H σ:=by rw[aH];rfl
def Vc(s:Sem Unit):wpS P (do s;pure Next.skip:Sem Next) A H σ=wpS P s (λ_ σ=>A .skip σ) H σ:=by rw[aH];rfl
variable {f:FuncId}
def ag6(h:cf P f=true):∃fn,P.funcs[f]? =some fn/\(fn.name== "runtime.NumGoroutine")=false/\fn.body.isNone=false:=by
 unfold cf at h;split at h
 ·rename_i fn hf;simp only[Bool.and_eq_true,Bool.not_eq_true']at h;exact⟨fn,hf,h.1,h.2⟩
 ·cases h
variable {args:Array Value}
def HG(h:cf P f=true)(k:A (.enter f args) σ):wpS P (callFunc f args) A H σ:=by obtain⟨fn,hf,h1,h2⟩:=ag6 h;unfold callFunc;rw[aH,zK,hf];simp only[h1,h2];exact k
variable {ρ:av}{ds:List Deferred}{nx:av->List Deferred->Hp->Prop}{pn:List PanicEntry->Hp->Prop}{E:Env P}{dst:Option Tmp}
def Ot(h:jR E f args σ dst ρ ds nx pn):
 wpS P (callFunc f args) (pd (λv ae=>nx (aB ρ dst v) ds ae) (λd ae=>nx (aB ρ dst undef) (d::ds) ae)
  (λf args ae=>ay E f args ae (xI (λv fZ=>nx (aB ρ dst v) ds fZ) pn))) (rP λv ae=>pn [{v,recovered:=false}] ae) σ:=
 h
def Fg(hg:cf P f=true)(h:ay E f args σ (xI (λv fZ=>nx (aB ρ dst v) ds fZ) pn)):jR E f args σ dst ρ ds nx pn:=
 HG hg h
variable {op:BinOp}{v:Value}
def Xk{A:Value->Hp->Prop}{t:TypeId}{x y:Value}(h:cG op x y=some v)(k:A v σ):wpS P (binOp op t x y) A H σ:=by
 unfold cG at h
 split at h<;>first
  |(obtain rfl:=Option.some.inj h;simpa[binOp,Op.stringOp,bq]using k)
  |(split at h
    ·rename_i hc
     first
     |(subst hc;obtain rfl:=Option.some.inj h;simpa[binOp,Op.intArith,Op.intCmp,Op.intBits,bq]using k)
     |(obtain⟨rfl,hb⟩:=hc;obtain rfl:=Option.some.inj h;simpa[binOp,Op.intDiv,hb,bq]using k)
     |(obtain rfl:=Option.some.inj h;simpa[binOp,Op.shift,Int.not_lt.2 hc,bq]using k)
     |(obtain rfl:=Option.some.inj h
       have cA:¬(IntKind.i64.max<((_:Nat):Int)):=Int.not_lt.2 hc
       simp only[binOp,Op.stringOp,gt_iff_lt,if_neg cA,bq];exact k)
    ·cases h)
  |cases h
variable {A:α->Hp->Prop}{c:Prop}{s t:Sem α}
def aqc [Decidable c](h:wpS P s A H σ)(k:wpS P t A H σ):wpS P (if c then s else t) A H σ:=by
 split
 ·exact h
 ·exact k
def aqb [Decidable c](hc:c)(h:wpS P s A H σ):wpS P (if c then s else t) A H σ:=by rw[if_pos hc];exact h
variable {t:TypeId}{a b:Value}
theorem yy{A:Unit->Hp->Prop}{x y:Operand}(k:A () σ)(h:(∀c,a≠.agg c)/\(a=.nilIface->b=.nilIface->(Region.isConst x||Region.isConst y)=true)):wpS P (eqGuard op t x y a b) A H σ:=by
 unfold eqGuard;refine aqc k ?_;obtain⟨h1,h2⟩:=h
 cases a<;>cases b<;>first
  |exact k
  |exact absurd rfl (h1 _)
  |(have h3:=h2 rfl rfl
    refine aqb ?_ k
    cases x<;>cases y<;>first|rfl|(simp[Region.isConst]at h3))
variable {x y:Value}
theorem Cl{A:Bool->Hp->Prop}(h:∀n,wpS P (Op.equalIn (n+1) t x y) A H σ):wpS P (Op.equal t x y) A H σ:=by
 unfold Op.equal;exact h 9999
variable {A:Value->Hp->Prop}
theorem ajM(h:eO P op t x y=some v)(k:A v σ):wpS P (binOp op t x y) A H σ:=by
 unfold eO at h
 split at h<;>first
  |(obtain rfl:=Option.some.inj h
    rename_i hu
    unfold binOp
    simp only[aH,bq]
    refine Cl λn=>?_
    unfold Op.equalIn
    simp only[aH,dZ,hu]
    first|exact k|(rename_i b;cases b<;>exact k))
  |cases h
theorem ajK{x y:Operand}(h:mY P op t x y a b=some v)(k:A v σ):
 wpS P (do eqGuard op t x y a b;binOp op t a b) A H σ:=by
 unfold mY at h
 split at h<;>first
  |(split at h
    ·rename_i hu hc
     obtain rfl:=Option.some.inj h
     rw[aH]
     refine yy ?_ ⟨al,λ_ _=>hc⟩
     unfold binOp
     simp only[aH,bq]
     refine Cl λn=>?_
     unfold Op.equalIn
     simp only[aH,dZ,hu]
     exact k
    ·cases h)
  |cases h
theorem apv{op:UnOp}(h:uN op x=some v)(k:A v σ):wpS P (Op.unary op x) A H σ:=by
 unfold uN at h
 split at h<;>first
  |(obtain rfl:=Option.some.inj h;exact k)
  |cases h
variable {s d:TypeId}
def Z6(h:lU P s d x=some v)(k:A v σ):wpS P (convert s d x) A H σ:=by
 unfold lU at h
 split at h<;>first
  |(obtain rfl:=Option.some.inj h
    rename_i h1 h2
    unfold convert
    simp only[aH,dZ,h1,h2]
    exact k)
  |cases h
def Oe(h:cG op x y=some v):(∀c,x≠.agg c)/\x≠.nilIface:=by unfold cG at h;split at h<;>first|(cases h;done)|exact⟨al,al⟩
def ajL(h:eO P op t x y=some v):(∀c,x≠.agg c)/\(x=.nilIface->y≠.nilIface):=by unfold eO at h;split at h<;>first|(cases h;done)|exact⟨al,al⟩
variable {e:TypeId}
def Hq(h:s5 P t=some e):P.underlying t=some (.slice e):=by
 unfold s5 at h;split at h
 ·obtain rfl:=Option.some.inj h;assumption
 ·cases h
def abp{f off:Nat}(h:bH P s f=some off):∃fs x i,P.underlying s=some (.struct fs)/\fs[f]? =some x/\P.info? x.type=some i/\i.size≠0/\x.offset=off:=by
 unfold bH at h;split at h
 ·rename_i fs hu;split at h
  ·rename_i x hx;split at h
   ·rename_i hc;simp only[Bool.and_eq_true,Option.isSome_iff_exists,bne_iff_ne,ne_eq]at hc;obtain⟨⟨i,hi⟩,hz⟩:=hc;refine⟨fs,x,i,hu,hx,hi,?_,Option.some.inj h⟩;simpa[cq,hi]using hz
   ·cases h
  ·cases h
 ·cases h
def Ho{B:Nat->Hp->Prop}(kk:IntKind)(i:Int)(y:Nat)(code:BoundsCode)(h0:0<=i)(h1:i<=y)(hb:B i.toNat σ):wpS P (Instr.sliceBound (.int kk i) y code) B H σ:=by unfold Instr.sliceBound;simp only[aH,asIntOf,bq];rw[if_pos ⟨h0,h1⟩];exact hb
variable {n c:Nat}
def Ut{A:Nat×Nat×Nat->Hp->Prop}{isS:Bool}{lo hi:Option Value}{l h:Int}(hl:nA lo=some l)(hh:jy n hi=some h)(h0:0<=l)(h1:l<=h)(h2:h<=c)(k:A (l.toNat,h.toNat,c) σ):wpS P (Instr.sliceBounds isS n c lo hi none) A H σ:=by
 have AQ:(lo=none/\l=0)\/∃kk,lo=some (.int kk l):=by
  unfold nA at hl;split at hl
  ·exact .inl ⟨rfl,(Option.some.inj hl).symm⟩
  ·rename_i kk i;exact .inr ⟨kk,by rw[Option.some.inj hl]⟩
  ·cases hl
 have C4:(hi=none/\h=n)\/∃kk,hi=some (.int kk h):=by
  unfold jy at hh;split at hh
  ·exact .inl ⟨rfl,(Option.some.inj hh).symm⟩
  ·rename_i kk i;exact .inr ⟨kk,by rw[Option.some.inj hh]⟩
  ·cases hh
 clear hl hh;unfold Instr.sliceBounds;rcases C4 with⟨rfl,rfl⟩|⟨kh,rfl⟩<;>rcases AQ with⟨rfl,rfl⟩|⟨kl,rfl⟩<;>simp only[aH,bq]
 ·simpa using k
 ·exact Ho kl l n _ h0 h1 (by simpa using k)
 ·exact Ho kh h c _ aa h2 (by simpa using k)
 ·exact Ho kh h c _ aa h2 (Ho kl l _ _ h0 aa k)
def R7{A:Next->Hp->Prop}{cap:Array Value}(k:wpS P (callFunc f (args++cap)) A H σ):wpS P (invoke (.fn (.func f) cap) args) A H σ:=k
variable {kk:IntKind}{i:Int}
def agq{a:Addr}(hu:P.underlying t=some (.slice e))(h0:0<=i)(h1:i<n)(hi:(P.info? e).isSome=true)(k:A (.pointer (some (a.add (i.toNat*cq P e)))) σ):wpS P (Instr.indexAt t (.slice (some a) n c) (.int kk i)) A H σ:=by
 obtain⟨ti,RE⟩:=Option.isSome_iff_exists.1 hi;unfold Instr.indexAt;simp only[aH,asIntOf,bq,dZ,hu];rw[if_pos ⟨h0,h1⟩];simp only[aH,sizeOf,fQ,RE,bq];simpa[cq,RE]using k
def ags{s:ByteArray}(hu:P.underlying t=some .string)(h:0<=i/\i.toNat<s.size)(k:A (.int .u8 (s[i.toNat]'h.2).toNat) σ):wpS P (Instr.index t (.string s) (.int kk i)) A H σ:=by
 unfold Instr.index;simp only[aH,asIntOf,bq,dZ,hu];rw[if_pos h.1];have:s[i.toNat]? =some (s[i.toNat]'h.2):=getElem?_pos s i.toNat h.2;rw[this];exact k
variable {ty:TypeId}{pos:String}{af:Array Edge}{g:Option (Nat×Bool)}{parts:Array (Nat×Operand)}{pl:List (Nat×Nat)}{r:List Value}
def X4{z:Value}(hz:dq P t=some z)(hp:jk P t=some pl)(hr:qk pl z.cells.toList (parts.toList.map λ(i,x)=>(i,ak ρ x))=some r)(h:nx (aB ρ dst (.agg r.toArray)) ds σ):wpOp E ⟨dst,.build t parts,ty,pos,af,g⟩ ρ ds σ nx pn:=by
 unfold wpOp;simp only[execOp,Instr.build,zeroValue,aH,fQ];unfold dq at hz
 cases hi:P.info? t with
 |none=>rw[hi]at hz;cases hz
 |some i=>
  rw[hi]at hz;simp only at hz;simp only[hz,bq];unfold jk at hp;split at hp
  ·rename_i fields hu;simp only[dZ,hu,aH];rw[Array.mapM_eq_mapM_toList,aqe];refine aqd (h:=λf=>(P.info? f.type).map λi=>(f.offset,i.size)) ?_ _ pl _ _ _ hp ?_
   ·intro a b Q H σ hb hq;obtain⟨j,hj,rfl⟩:=Option.map_eq_some_iff.1 hb;simp only[aH,sizeOf,fQ,hj,bq];exact hq
   ·have e2:(parts.map λ(i,x)=>(i,ak ρ x)).toList=parts.toList.map λ(i,x)=>(i,ak ρ x):=al;have:=IV pl (place:=λi=>(pl.toArray)[i]?) (λi x hx=>by simpa using hx) _ _ _ hr;rw[Array.toArray_toList]at this;simp only[e2,this,bq];exact h
  ·cases hp
def X3{zs:List Value}(hb:kI P t n=some (e,pl,zs))(hr:qk pl zs (parts.toList.map λ(i,x)=>(i,ak ρ x))=some r)(h:∀b,σ.f b=none->nx (aB ρ dst (.slice (some ⟨b,0,none⟩) n n)) ds (σ.set b (.cells r.toArray e))):wpOp E ⟨dst,.buildSlice t n parts,ty,pos,af,g⟩ ρ ds σ nx pn:=by
 unfold wpOp;simp only[execOp,Instr.buildSlice,aH,dZ];unfold kI at hb;split at hb
 ·rename_i e' hu;simp only[hu]
  cases hi:P.info? e' with
  |none=>rw[hi]at hb;cases hb
  |some i=>
   rw[hi]at hb;simp only at hb;have e2:(parts.map λ(i,x)=>(i,ak ρ x)).toList=parts.toList.map λ(i,x)=>(i,ak ρ x):=al
   have sE:∀(k:Nat) (x:Nat×Nat),((List.range n).map λk=>(k*i.size,i.size))[k]? =some x->(λk=>some (k*i.size,i.size)) k=some x:=by intro k x hx;obtain⟨m,hm,rfl⟩:=Option.map_eq_some_iff.1 (by simpa using hx:((List.range n)[k]?).map (λk=>(k*i.size,i.size))=some x);have:=List.getElem?_eq_some_iff.1 hm;obtain⟨_,h2⟩:=this;simp at h2;subst h2;rfl
   split at hb
   ·cases hb
   ·rename_i gE;split at hb
    ·rename_i h0
     cases hb
     simp only[sizeOf,aH,fQ,hi,bq];rw[if_neg gE];simp only[aH,bq,h0,if_true];have:=IV _ sE _ _ _ hr;simp only[e2]
     have e3:((Array.range 0).map λx=>(#[]:Array Value)[x %(#[]:Array Value).size]!)=([]:List Value).toArray:=by apply Array.ext';simp
     rw[e3,this];simp only[bq,newRow,aH,xW];exact h
    ·rename_i h0;split at hb
     ·rename_i z hz
      cases hb
      simp only[sizeOf,aH,fQ,hi,bq];rw[if_neg gE];simp only[zeroValue];rw[if_neg h0];simp only[aH,fQ,hi,hz,bq];have:=IV _ sE _ _ _ hr;simp only[e2]
      have e3:((Array.range (n*i.size)).map λx=>z.cells[x % z.cells.size]!)=((List.range (n*i.size)).map λk=>z.cells[k % z.cells.size]!).toArray:=by apply Array.ext';simp
      rw[e3,this];simp only[bq,newRow,aH,xW];exact h
     ·cases hb
 ·cases hb
def aoV{a:TypeId}{x:Operand}(hv:kW P a (ak ρ x)=some v)(h:nx (aB ρ dst v) ds σ):wpOp E ⟨dst,.typeAssert x t a true,ty,pos,af,g⟩ ρ ds σ nx pn:=by
 unfold wpOp;simp only[execOp,Instr.typeAssert,aH,dZ]
 have RY:∀z,dq P a=some z->∀(Q:Value->Hp->Prop) (H:Halt->Hp->Prop),Q z σ->wpS P (zeroValue a) Q H σ:=by
  intro z hz Q H hq;simp only[zeroValue,aH,fQ];unfold dq at hz
  cases hi:P.info? a with
  |none=>rw[hi]at hz;cases hz
  |some i=>rw[hi]at hz;simp only at hz;simp only[hz];exact hq
 unfold kW at hv;split at hv
 ·rename_i u w hx;rw[hx]
  cases hu:P.underlying a with
  |none=>rw[hu]at hv;cases hv
  |some d=>
   rw[hu]at hv
   cases d with
   |interface m=>cases hv
   |_=>
    simp only at hv|-;split at hv
    ·rename_i hc
     cases hv
     rw[if_pos hc];exact h
    ·rename_i hc;obtain⟨z,hz,rfl⟩:=Option.map_eq_some_iff.1 hv;rw[if_neg hc];simp only[if_true,aH];exact RY z hz _ _ h
 ·rename_i hx;rw[hx]
  cases hu:P.underlying a with
  |none=>rw[hu]at hv;cases hv
  |some d=>
   rw[hu]at hv
   cases d with
   |interface m=>cases hv
   |_=>
    simp only at hv|-;obtain⟨z,hz,rfl⟩:=Option.map_eq_some_iff.1 hv;simp only[if_true,aH];exact RY z hz _ _ h
 ·cases hv
def aoI{src:TypeId}{x:Operand}{s:ByteArray}(he:kY P src d=some e)(hx:ak ρ x=.string s)(h:∀b pad z,σ.f b=none->nx (aB ρ dst (.slice (some ⟨b,0,none⟩) s.size (s.size+pad))) ds (σ.set b (.cells (uZ s++Array.replicate pad (.int .u8 0)) e z))):wpOp E ⟨dst,.convert src d x,ty,pos,af,g⟩ ρ ds σ nx pn:=by
 unfold wpOp;simp only[execOp,convert,aH,dZ];unfold kY at he;split at he
 ·rename_i e' hs hd;split at he
  ·rename_i hu
   cases he
   simp only[hs,hd,hx,aH,dZ,hu,Conv.stringToBytes,HH];rw[if_neg (by simp[Question.forced])];intro t b hb;simp only[markStringish,aH,bq,zL];show(_/\_);refine⟨by simp[Hp.set],?_⟩
   have e1:(σ.set b (Obj.cells (s.data.map (λb=>Value.int IntKind.u8 b.toNat)++Array.replicate ((Question.appendCap s.size 0 e).cut t-s.size) (Value.int IntKind.u8 0)) e)).shape? b=
    some (e,(s.data.map (λb=>Value.int IntKind.u8 b.toNat)++Array.replicate ((Question.appendCap s.size 0 e).cut t-s.size) (Value.int IntKind.u8 0)).size):=by
    simp[Hp.shape?,Hp.set]
   rw[e1];simp only[Va];refine⟨by simp[Hp.set],?_⟩
   have jJ:(Question.appendCap s.size 0 e).cut t=s.size+((Question.appendCap s.size 0 e).cut t-s.size):=by simp only[Question.cut];omega
   have hz:=h b ((Question.appendCap s.size 0 e).cut t-s.size);rw[<-jJ]at hz
   have e2:∀n,∃z,((σ.set b (Obj.cells (s.data.map (λb=>Value.int IntKind.u8 b.toNat)++Array.replicate ((Question.appendCap s.size 0 e).cut t-s.size) (Value.int IntKind.u8 0)) e)).freeze {block:=b,off:=n} 1)=
    σ.set b (Obj.cells (uZ s++Array.replicate ((Question.appendCap s.size 0 e).cut t-s.size) (Value.int IntKind.u8 0)) e z):=by
    intro n;refine⟨(n,n+1),Hp.ext' λx=>?_⟩;simp only[Hp.freeze,Hp.modify,Hp.set,uZ];by_cases Dw:x=b<;>simp[Dw,Fj]
   obtain⟨z,hz2⟩:=e2 _;rw[hz2];exact hz z hb
  ·cases he
 ·cases he
def rK{o:Oper}(h:aT E o ρ ds σ nx pn):wpOp E o ρ ds σ nx pn:=by
 obtain⟨dst,op,type,pos,after,guard⟩:=o
 cases op with
 |move x=>exact h
 |assign x=>exact h
 |pick c a b=>
  simp only[aT]at h;unfold wpOp;simp only[execOp,aH];split at h
  ·rename_i hc;rw[hc];exact h
  ·rename_i hc;rw[hc];exact h
  ·exact h.elim
 |alloc t=>
  simp only[aT]at h;unfold wpOp;simp only[execOp,Instr.alloc,zeroValue,aH,fQ];unfold dq at h
  cases hi:P.info? t with
  |none=>rw[hi]at h;exact h.elim
  |some i=>
   rw[hi]at h
   cases hz:i.zero with
   |none=>simp only[hz]at h
   |some z=>
    simp only[hz]at h|-;exact h
 |box t x=>exact h
 |build t parts=>
  simp only[aT]at h;split at h
  ·rename_i z pl hz hp;split at h
   ·rename_i r hr;exact X4 hz hp hr h
   ·exact h.elim
  ·exact h
 |buildSlice t n parts=>
  simp only[aT]at h;split at h
  ·rename_i e pl zs hb;split at h
   ·rename_i r hr;exact X3 hb hr h
   ·exact h.elim
  ·exact h
 |insert t m k v=>exact h
 |load t x=>
  simp only[aT]at h;unfold wpOp;simp only[execOp,Instr.loadAt,aH];split at h
  ·rename_i a hx;rw[hx];exact vP h.1 h.2
  ·exact h.elim
 |store t x v=>
  simp only[aT]at h;unfold wpOp;simp only[execOp,Instr.storeAt,aH];split at h
  ·rename_i a hx;rw[hx];exact Mp h.1 h.2
  ·exact h.elim
 |ready g=>exact h
 |waits g=>exact h
 |nilCheck x=>
  simp only[aT]at h;unfold wpOp;simp only[execOp];split at h
  ·rename_i a hx;rw[hx];exact h
  ·rename_i f l c hx;rw[hx];exact h
  ·exact h.elim
 |binOp op t x y t2=>
  simp only[aT]at h
  cases hb:cG op (ak ρ x) (ak ρ y)with
  |some v=>
   rw[hb]at h;unfold wpOp;simp only[execOp,aH];have hn:=Oe hb;exact yy (Xk hb h) ⟨hn.1,λe=>absurd e hn.2⟩
  |none=>
   rw[hb]at h
   cases hv:eO P op t (ak ρ x) (ak ρ y)with
   |some v=>
    rw[hv]at h;unfold wpOp;simp only[execOp,aH];have hn:=ajL hv;exact yy (ajM hv h) ⟨hn.1,λe e'=>absurd e' (hn.2 e)⟩
   |none=>
    rw[hv]at h
    cases hw:mY P op t x y (ak ρ x) (ak ρ y)with
    |some v=>
     rw[hw]at h;unfold wpOp;simp only[execOp,lf];exact ajK hw h
    |none=>rw[hw]at h;exact h
 |unOp op t x=>
  simp only[aT]at h;unfold wpOp;simp only[execOp,lf];split at h
  ·rename_i v hv;exact apv hv h
  ·exact h.elim
 |convert s d x=>
  simp only[aT]at h;split at h
  ·rename_i v hv;unfold wpOp;simp only[execOp,lf];exact Z6 hv h
  ·split at h
   ·rename_i e b he hb;exact aoI he hb h
   ·exact h
 |sliceToArrayPointer d x=>exact h
 |makeInterface t x=>
  simp only[aT]at h;unfold wpOp;simp only[execOp,Instr.makeInterface,aH,dZ];split at h
  ·exact h.elim
  ·rename_i d hn hd;rw[hd]
   cases d<;>first|exact absurd rfl (hn _)|exact h
  ·exact h.elim
 |makeFunc fn l c=>exact h
 |makeMap t r=>
  cases r with
  |none=>exact h
  |some r=>exact h
 |makeChan t s=>exact h
 |makeSlice t l c=>exact h
 |slice t x lo hi mx=>
  simp only[aT]at h;split at h
  ·rename_i s hu hx;unfold wpOp;simp only[execOp,Instr.sliceAt,Instr.slice,aH,dZ,hu,hx];split at h
   ·rename_i l hh hl J1;obtain⟨⟨h0,h1,h2⟩,hk⟩:=h;simp only[Option.map_none,Option.isSome_none,Bool.false_eq_true,if_false];simp only[aH,bq];exact Ut hl J1 h0 h1 h2 hk
   ·exact h.elim
  ·rename_i e a n c hu hx;unfold wpOp;simp only[execOp,Instr.sliceAt,Instr.slice,aH,dZ,hu,hx];split at h
   ·rename_i l hh hl J1;obtain⟨⟨h0,h1,h2,h3⟩,hk⟩:=h;obtain⟨i,hi⟩:=Option.isSome_iff_exists.1 h3;refine Ut hl J1 h0 h1 h2 ?_;simp only[sizeOf,aH,fQ,hi,bq];have:cq P e=i.size:=by simp[cq,hi]
    rw[this]at hk;exact hk
   ·exact h.elim
  ·exact h
 |fieldAddr s x f=>
  simp only[aT]at h;unfold wpOp;simp only[execOp,Instr.fieldAt,aH,dZ];split at h
  ·rename_i a off hx hf;obtain⟨fs,fx,i,hu,hg,hi,hz,rfl⟩:=abp hf;rw[hu];simp only;rw[hg];simp only[hx,fieldPlace,sizeOf,aH,fQ,hi,Instr.sureAddr,bq];rw[if_neg hz];exact h
  ·exact h.elim
 |field t x f=>exact h
 |indexAddr t x i=>
  simp only[aT]at h;split at h
  ·rename_i e a n c kk k hs hx hi;unfold wpOp;simp only[execOp,lf,hx,hi];obtain⟨⟨h0,h1,h2⟩,hk⟩:=h;exact agq (Hq hs) h0 h1 h2 hk
  ·exact h
 |index t x i=>
  simp only[aT]at h;split at h
  ·rename_i s kk k hu hx hi;obtain⟨hh,hk⟩:=h;unfold wpOp;simp only[execOp,lf,hx,hi];exact ags hu hh hk
  ·exact h
 |lookup t x i ok=>exact h
 |mapUpdate t m k v=>exact h
 |mapEntry t m k=>exact h
 |entryStore t m k v=>exact h
 |range t x=>exact h
 |next i s=>exact h
 |entry i=>exact h
 |typeAssert x t a ok=>
  cases ok with
  |false=>exact h
  |true=>
   simp only[aT]at h;split at h
   ·rename_i v hv;exact aoV hv h
   ·exact h
 |extract x i=>
  simp only[aT]at h;unfold wpOp;simp only[execOp,lf,Instr.extract];split at h
  ·rename_i vs hx;rw[hx];simp only;split at h
   ·rename_i v hv;rw[hv];exact h
   ·exact h.elim
  ·exact h.elim
 |call c=>
  simp only[aT]at h;split at h
  ·rename_i f hc;unfold wpOp;simp only[execOp,resolve,hc,ak,Deferred.ofValue,aH,bq];refine R7 ?_;simpa using Ot h
  ·rename_i x hc;split at h
   ·rename_i f l cap hx;unfold wpOp;simp only[execOp,resolve,hc,ak,hx,Deferred.ofValue,aH,bq];exact R7 (Ot h)
   ·exact h
  ·rename_i hc;split at h
   ·rename_i t x ht hx;split at h
    ·rename_i v h1 h2;unfold wpOp;simp only[execOp,resolve,hc,aH,bq,invoke,builtin,Builtin.len_,ht,hx];unfold xy at h1;split at h1
     ·rename_i s hu;rw[dZ,hu];simp only[xz,Option.some.injEq]at h2;subst h2;exact h
     ·rename_i e a n c hu;rw[dZ,hu];simp only[xz,Option.some.injEq]at h2;subst h2;exact h
     ·cases h1
    ·exact h
   ·exact h
  ·exact h
 |go c=>exact h
 |defer c=>exact h
 |panic x=>
  simp only[aT]at h;unfold wpOp;simp only[execOp,lf,Instr.panic];obtain⟨h1,h2⟩:=h;split at h2
  ·rename_i t v hx;rw[hx]at h1|-;exact h1
  ·exact h2.elim
 |send c x=>exact h
 |recv t c ok=>exact h
 |select cs b=>exact h
end Go.Qw
