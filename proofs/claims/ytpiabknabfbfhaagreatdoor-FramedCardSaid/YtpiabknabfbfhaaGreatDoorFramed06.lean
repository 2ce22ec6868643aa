/- 6 -/
import Derived.KernelRfl
import Derived.Test.YtpiabknabfbfhaaGreatDoorFramed05
set_option linter.all false
set_option maxRecDepth 100000
set_option maxHeartbeats 8000000
namespace Go.Qw
open Go Go.Conc
variable {α:Type}
def qp(p:Prop)(k:α->Prop):Option α->Prop
 |some a=>k a
 |none=>p
variable {p:Prop}
@[congr] theorem arq{k:α->Prop}{a a':Option α}(h:tick a=a'):qp p k a=qp p k a':=by subst h;rfl
variable {v:Value}
def ap6{k:Value->Prop}:kC k v=k v:=bj
def vq{k:α->Prop}{a:α}:qp p k (some a)=k a:=bj
variable {P:Program}{E:Env P}{I:av}{ds:List Deferred}{U:Hp}{dst:Option Tmp}{ty:TypeId}{pos:String}{af:Array Edge}{g:Option (Nat×Bool)}{nx:av->List Deferred->Hp->Prop}{pn:List PanicEntry->Hp->Prop}{t:TypeId}{x:Operand}
def amQ{i:Operand}:aS E ⟨dst,.indexAddr t x i,ty,pos,af,g⟩ I ds U nx pn=
 qp (aS E ⟨dst,.indexAddr t x i,ty,pos,af,g⟩ I ds U nx pn) (λz=>uq (wpOp E ⟨dst,.indexAddr t x i,ty,pos,af,g⟩ I ds U nx pn) z (λv=>nx (aA I dst v) ds U) (ai I i) (ai I x)) (iJ P t):=by
 cases h:iJ P t with
 |none=>rfl
 |some z=>rw[vq];exact amh h
variable {lo hi:Option Operand}
def amS(hs:qe P t=false):aS E ⟨dst,.slice t x lo hi none,ty,pos,af,g⟩ I ds U nx pn=
 qp (aS E ⟨dst,.slice t x lo hi none,ty,pos,af,g⟩ I ds U nx pn) (λz=>wK (wpOp E ⟨dst,.slice t x lo hi none,ty,pos,af,g⟩ I ds U nx pn) z (λv=>nx (aA I dst v) ds U) (lo.map (ai I)) (hi.map (ai I)) (ai I x)) (iJ P t):=by
 cases h:iJ P t with
 |none=>rfl
 |some z=>rw[vq];exact amr h
variable {parts:List (Nat×Operand)}
def amN:aS E ⟨dst,.build t parts.toArray,ty,pos,af,g⟩ I ds U nx pn=
 qp (aS E ⟨dst,.build t parts.toArray,ty,pos,af,g⟩ I ds U nx pn) (λz=>qp (aS E ⟨dst,.build t parts.toArray,ty,pos,af,g⟩ I ds U nx pn) (λpl=>vX (λr=>nx (aA I dst (.agg r.toArray)) ds U) (qu pl z.cells.toList (parts.map λp=>(p.1,ai I p.2)))) (jo P t)) (du P t):=by
 cases hz:du P t with
 |none=>rfl
 |some z=>
  rw[vq]
  cases hp:jo P t with
  |none=>rfl
  |some pl=>rw[vq];exact ama hz hp
def amO{n:Nat}:aS E ⟨dst,.buildSlice t n parts.toArray,ty,pos,af,g⟩ I ds U nx pn=
 qp (aS E ⟨dst,.buildSlice t n parts.toArray,ty,pos,af,g⟩ I ds U nx pn) (λq=>vX (λr=>ta U λb=>nx (aA I dst (.slice (some ⟨b,0,none⟩) n n)) ds (U.set b (.cells r.toArray q.1))) (qu q.2.1 q.2.2 (parts.map λp=>(p.1,ai I p.2)))) (kQ P t n):=by
 cases h:kQ P t n with
 |none=>rfl
 |some q=>obtain⟨e,pl,zs⟩:=q;rw[vq];exact amb h
def amM:aS E ⟨dst,.alloc t,ty,pos,af,g⟩ I ds U nx pn=mv (λz=>ta U λb=>nx (aA I dst (pV b)) ds (U.set b (.cells z.cells t))) (du P t):=al6
variable {s d:TypeId}
def amP:aS E ⟨dst,.convert s d x,ty,pos,af,g⟩ I ds U nx pn=
 qp (lh (wpOp E ⟨dst,.convert s d x,ty,pos,af,g⟩ I ds U nx pn) (λv=>nx (aA I dst v) ds U) (lY P s d (ai I x)))
  (λe=>Bz (aS E ⟨dst,.convert s d x,ty,pos,af,g⟩ I ds U nx pn) (λs=>As U e s λb pad ae=>nx (aA I dst (.slice (some ⟨b,0,none⟩) s.size (s.size+pad))) ds ae) (ai I x)) (lB P s d):=by
 cases h:lB P s d with
 |none=>exact amd h
 |some e=>rw[vq];exact amu h
def FC{k:α->Prop}:qp p k none=p:=bj
def aaA{j:IntKind}{a:Int}(h:(sZ P s d).isSome=true):lY P s d (.int j a)=(sZ P s d).map λk=>.int k (k.wrap a):=by
 obtain⟨k,hk⟩:=Option.isSome_iff_exists.1 h;rw[hk];unfold sZ at hk;split at hk
 ·rename_i hs;exact aaz hs hk
 ·cases hk
def ajh{β:Type}{f:α->β}{a:α}:(some a).map f=some (f a):=bj
variable {a u:TypeId}
def apl(h:ik P a=true)(aE:(u==a)=false):lv P a (.iface u v)=(du P a).map λz=>.tuple #[z,.bool false]:=by
 cases hz:du P a with
 |none=>
  unfold ik at h;have aE:¬u=a:=aV aE;simp only[lv]
  cases hu:P.underlying a with
  |none=>rw[hu]at h;cases h
  |some d=>rw[hu]at h;cases d<;>first|(simp at h;done)|simp[aE,hz]
 |some z=>exact apk h hz aE
def apj(h:ik P a=true):lv P a .nilIface=(du P a).map λz=>.tuple #[z,.bool false]:=by
 cases hz:du P a with
 |none=>
  unfold ik at h;simp only[lv]
  cases hu:P.underlying a with
  |none=>rw[hu]at h;cases h
  |some d=>rw[hu]at h;cases d<;>first|(simp at h;done)|simp[hz]
 |some z=>exact api h hz
variable {off:Nat}{k:Value->Prop}
def aiv{b:Nat}(h:dD P t=true):oj P t ⟨b,off,none⟩ U k=tb (cellsIn off (cC P t) k) (U.f b):=air h rfl
variable {n:Nat}{e:TypeId}{z:Nat×Nat}
def ZA{c:List Value}:cellsIn off n k (.cells c.toArray e z)=jd (off+n<=c.length) (k (.agg ((c.drop off).take n).toArray)):=by simp only[cellsIn,Pw,jd,List.size_toArray];rw[show off+n-off=n by omega]
def aiP{s:List UInt8}(h:qe P t=true):om P p k t (.string (B s))=k (.int .i64 s.length):=by rw[aiK (EF h),wG]
def aiO{a:Option Addr}{c:Nat}(h:(iJ P t).isSome=true):om P p k t (.slice a n c)=k (.int .i64 n):=by refine aiJ ?_;obtain⟨z,hz⟩:=Option.isSome_iff_exists.1 h;obtain⟨e,he,_⟩:=Cj hz;simp[he]
def amR:aS E ⟨dst,.call ⟨.builtin .len,#[x],#[t]⟩,ty,pos,af,g⟩ I ds U nx pn=
 om P (wpOp E ⟨dst,.call ⟨.builtin .len,#[x],#[t]⟩,ty,pos,af,g⟩ I ds U nx pn) (λv=>nx (aA I dst v) ds U) t (ai I x):=ami rfl
def akE{op:BinOp}{a b:Addr}:eO P op t (.pointer (some a)) (.pointer (some b))=none:=by unfold eO;cases op<;>cases P.underlying t<;>first|rfl|(rename_i d;cases d<;>rfl)
def aj8{op:BinOp}{y:Operand}{a b:Option Addr}:np P op t x y (.pointer a) (.pointer b)=none:=by unfold np;cases op<;>cases P.underlying t<;>first|rfl|(rename_i d;cases d<;>rfl)
def Zy{c:List Value}:nQ off k (.cells c.toArray e z)=mv k c[off]? :=by simp[nQ,UT]
def alZ{c:List Value}{k:Obj->Prop}(h:di v=true):
 xO P t off v k (.cells c.toArray e (0,0))=jd (off<c.length/\cC P t=1) (k (.cells (c.set off v).toArray e (0,0))):=by
 simp only[xO,h,if_true,jd,List.size_toArray,List.setIfInBounds_toArray];simp only[true_and,and_assoc]
def anJ{k:IntKind}{n:Int}:di (.int k n)=true:=bj
def anF{b:Bool}:di (.bool b)=true:=bj
def anP{b:ByteArray}:di (.string b)=true:=bj
def anN{b:Option Addr}:di (.pointer b)=true:=bj
def anO{b:Option Addr}{c:Nat}:di (.slice b n c)=true:=bj
def anK{b:Option Nat}:di (.map b)=true:=bj
def anG{b:Option Nat}:di (.chan b)=true:=bj
def anI:di (.iface t v)=true:=bj
def anM:di .nilIface=true:=bj
def anH{f:Fn}{x y:Array Value}:di (.func f x y)=true:=bj
def anL:di .nilFunc=true:=bj
def agz:Region.isConst (.const v)=true:=bj
def agA{t:Tmp}:Region.isConst (.tmp t)=false:=bj
def FD(U:Hp)(e:TypeId)(l:List UInt8)(k:Nat->Nat->Hp->Prop):Prop:=∀b pad z,U.f b=none->k b pad (U.set b (.cells (dG l++List.replicate pad (Value.int .u8 0)).toArray e z))
variable {l:List UInt8}{k:Nat->Nat->Hp->Prop}{jl:Nat}
@[congr] theorem arR(_:tick 0=jl):FD U e l k=FD U e l k:=rfl
def acb:As U e (B l) k=FD U e l k:=by
 have:∀pad:Nat,vg (B l)++Array.replicate pad (Value.int .u8 0)=(dG l++List.replicate pad (Value.int .u8 0)).toArray:=by intro pad;rw[Ox];apply Array.ext';simp
 simp only[As,FD,this]
def YY{r:List Value}{i:Nat}(h:i<l.length):(dG l++r)[i]? =some (.int .u8 (nP l i)):=by rw[List.getElem?_append_left (by simpa[dG]using h)];simp only[dG,List.getElem?_map,List.getElem?_eq_getElem h,Option.map_some,nP,List.getD_eq_getElem?_getD,Option.getD_some]
def abA{b x:Nat}{o:Obj}(hb:U.f b=none)(hx:(U.f x).isSome=true):(U.set b o).f x=U.f x:=by refine Hp.aM o ?_;intro e;subst e;rw[hb]at hx;cases hx
def aoD{args:List Value}{t:Nat}:nG args.toArray n t=(args[t]?).getD undef:=by simp[nG]
variable {f:FuncId}{args:Array Value}{R:Hp}
def OC(hg:cq P f=true)(h:aw E f args U λe ae=>e=.returned v/\ae=R)(k:nx (aA I dst v) ds R):jJ E f args U dst I ds nx pn:=
 Fp hg (h.mono λe ae ⟨h1,h2⟩=>by subst h1;subst h2;exact k)
def dI{atA:Fin->Hp->Prop}(hg:cq P f=true)(h:aw E f args U atA)(k:∀v ae,atA (.returned v) ae->nx (aA I dst v) ds ae)(kp:∀ch ae,atA (.panicked ch) ae->pn ch ae):jJ E f args U dst I ds nx pn:=
 Fp hg (h.mono λe ae h=>match e,h with
  | .returned v,h=>k v ae h
  | .panicked ch,h=>kp ch ae h)
def bz(h:aw E f args U λe ae=>e=.returned v/\ae=R)(k:nx (aA I dst v) ds R)(hg:cq P f=true:=by kernel_rfl):jJ E f args U dst I ds nx pn:=OC hg h k
def aJ{atA:Fin->Hp->Prop}(h:aw E f args U atA)(k:∀v ae,atA (.returned v) ae->nx (aA I dst v) ds ae)(hg:cq P f=true:=by kernel_rfl)(kp:∀ch ae,atA (.panicked ch) ae->pn ch ae:=by rintro ch ae h;first|(obtain⟨h,_⟩:=h;cases h;done)|(obtain⟨_,h,_⟩:=h;cases h;done)|(obtain⟨_,_,h,_⟩:=h;cases h;done)|(obtain⟨_,_,_,h,_⟩:=h;cases h;done)|(obtain⟨_,_,_,_,h,_⟩:=h;cases h;done)|(obtain⟨⟨_,_,h⟩,_⟩:=h;cases h;done)|(obtain⟨_,h⟩:=h;cases h;done)|(cases h;done)|(obtain⟨_,_,h⟩:=h;cases h;done)):jJ E f args U dst I ds nx pn:=dI hg h k kp
attribute [go_sem] UT aqn aql aqm amn al7 amq al9 amj amt amo amf al8 amx aml amk amm ame amc amp amw amg ams
 amQ amS amN amO amM amP amR
attribute [go_sem] ZP alc alL alJ alS aj2 aj1 ap6 apF alf ale acu acp acs acr ZO ahK ahJ ald vq FC ai5 anE alO acb
 ahL YT aoA ao2 aiV aiW aeU aeV aiP aiO
attribute [go_sem] bv_add YR YD YJ YK Yw YE YC YB Yy Yx YN YO YH bv_and YS Ou YL YQ YP YM YI Yv YG YF YA Yz
 akD akC akB ake akd akc akx aj9 akz akA aka akb akE aj8 aky aj6 aj7 ap5 ap4 aaA aaB ajh apm apl apj
attribute [go_sem] Zk Zi Zl Zh Zj Zg Ze Zf ao8 ao7 apa ao9 Xy XA Xz Xw Xx
attribute [go_sem] ap3 ap2 abv abr abt abu al1 al0 akK akJ aoD Tq Zy ZA ais aiv Io aoB alZ alY
 anJ anF anP anN anO anK anG anI anM anH anL Hp.bD abA Hp.set_set
 ZF ZC ZL ZJ ZK ZG ZE ZI ZD ZH IE qu wy ajp ajq wG
attribute [go_sem] List.getElem?_cons_zero List.getElem?_cons_succ List.length_cons List.length_nil List.set_cons_zero List.set_cons_succ List.length_set List.map_cons List.map_nil List.map_toArray Array.getElem?_toList List.getElem?_toArray List.drop_zero List.drop_succ_cons List.take_zero List.take_succ_cons List.drop_nil List.take_nil
 List.nil_append List.cons_append List.append_nil List.size_toArray List.append_toArray
 if_true if_false decide_true decide_false Option.map_none Option.map_some Option.getD_some Option.getD_none Option.isSome_some Int.toNat_zero Nat.mul_one Nat.one_mul Nat.add_zero Nat.zero_add Int.le_refl true_and and_true and_self not_true_eq_false not_false_eq_true Int.toNat_natCast List.all_cons List.all_nil Bool.and_true Bool.and_self eq_self ne_eq Bool.not_true Bool.not_false agz agA Bool.or_true Bool.true_or Bool.or_false Bool.false_or
def HV(N:Nat)(I:av):Option Oper->Option Bool
 |some o=>match o.dst with
  |some d=>if d<N then B4 (I d)else none
  |none=>none
 |none=>none
variable {N:Nat}{ops:Array Oper}{j:Nat}
def aqO:gO N ops I j=HV N I (ops[j]?):=by
 unfold gO HV
 cases ops[j]? <;>rfl
def aqM{d:Tmp}{op:Op}:HV N I (some ⟨some d,op,ty,pos,af,g⟩)=cond (decide (d<N)) (B4 (I d)) none:=by simp[HV]
def Yo{b:Bool}:B4 (.bool b)=some b:=bj
def aal{a b:Option Bool}:cond true a b=a:=bj
attribute [go_sem] aqO aqM Yo aal
def ft(P:Program)(op:Op)(I:av)(U:Hp)(K:Value->Prop):Prop:=∃v,cT P op I U=some v/\K v
variable {K:Value->Prop}
@[congr] theorem as6{op:Op}(_:tick 0=jl):ft P op I U K=ft P op I U K:=rfl
def nR{w:Value}:(∃v,some w=some v/\K v)=K w:=propext ⟨λ⟨v,h,k⟩=>by cases h;exact k,λk=>⟨w,rfl,k⟩⟩
def gn:(∃v,(none:Option Value)=some v/\K v)=False:=propext ⟨λ⟨v,h,k⟩=>(by cases h),λk=>k.elim⟩
def am7:ft P (.move x) I U K=kC K (ai I x):=nR
def amW:ft P (.assign x) I U K=kC K (ai I x):=nR
def am9{c a b:Operand}:ft P (.pick c a b) I U K=tf (kC K (ai I a)) (kC K (ai I b)) (ai I c):=by
 unfold ft tf cT
 dsimp only
 generalize ai I c=y
 cases y with
 |bool t=>cases t<;>exact nR
 |_=>exact gn
def ait{a:Addr}:(∃v,iQ P t a U=some v/\K v)=oj P t a U K:=by
 apply propext;constructor
 ·rintro⟨v,h,k⟩;exact qN h k
 ·intro h;unfold oj at h;unfold iQ;split at h
  ·rename_i hc;rw[if_pos hc];split at h
   ·rename_i cs jQ;exact⟨_,by rw[jQ];rfl,h⟩
   ·exact h.elim
  ·rename_i hc;rw[if_neg hc];split at h
   ·rename_i v hv;exact⟨v,hv,h⟩
   ·exact h.elim
def am5:ft P (.load t x) I U K=j8 (dk P t) (qR (λa=>oj P t a U K) (ai I x)):=by
 unfold ft j8 cT qR
 dsimp only
 simp only[<-ait];generalize ai I x=y
 cases y with
 |pointer a=>
  cases a with
  |none=>exact gn.trans ak
  |some a=>cases ht:dk P t<;>simp
 |_=>exact gn.trans ak
def am8:ft P (.nilCheck x) I U K=xJ K (ai I x):=by
 unfold ft xJ cT
 dsimp only
 generalize ai I x=y
 cases y with
 |pointer a=>cases a<;>first|exact gn|exact nR
 |func f l c=>cases f<;>first|exact gn|exact nR
 |_=>exact gn
def am0{f:Nat}:ft P (.fieldAddr s x f) I U K=qR (λa=>mv (λn=>kC K (.pointer (some (a.add n)))) (bL P s f)) (ai I x):=by
 unfold ft qR cT
 dsimp only
 generalize ai I x=y
 cases y with
 |pointer a=>
  cases a with
  |none=>exact gn
  |some a=>generalize bL P s f=z;cases z<;>first|exact gn|exact nR
 |_=>exact gn
variable {y:Operand}
def amX{op:BinOp}:ft P (.binOp op t x y u) I U K=lh (lh (lh False K (np P op t x y (ai I x) (ai I y))) K (eO P op t (ai I x) (ai I y))) K (cL op (ai I x) (ai I y)):=by
 unfold ft cT
 dsimp only
 generalize cL op (ai I x) (ai I y)=a;generalize eO P op t (ai I x) (ai I y)=b;generalize np P op t x y (ai I x) (ai I y)=c
 cases a with
 |some a=>exact nR
 |none=>cases b with
  |some b=>exact nR
  |none=>cases c with
   |some c=>exact nR
   |none=>exact gn
def ane{op:UnOp}:ft P (.unOp op t x) I U K=mv K (uT op (ai I x)):=by
 unfold ft cT
 dsimp only
 generalize uT op (ai I x)=y
 cases y<;>first|exact gn|exact nR
def amY:ft P (.convert s d x) I U K=lh False K (lY P s d (ai I x)):=by
 unfold ft cT
 dsimp only
 generalize lY P s d (ai I x)=y
 cases y<;>first|exact gn|exact nR
def am6:ft P (.makeInterface t x) I U K=j8 (ik P t) (kC (λv=>K (.iface t v)) (ai I x)):=by
 unfold ft cT j8 ik kC
 dsimp only
 cases P.underlying t with
 |none=>simp
 |some d=>cases d<;>simp
def am1{f:Fn}{l c:Array Operand}:ft P (.makeFunc f l c) I U K=kC K (.func f (l.map (ai I)) (c.map (ai I))):=nR
def amZ{i:Nat}:ft P (.extract x i) I U K=zJ K i (ai I x):=by
 unfold ft cT zJ
 dsimp only
 generalize ai I x=y
 cases y with
 |tuple vs=>show(∃v,vs[i]? =some v/\K v)=mv K vs[i]?;generalize vs[i]? =z;cases z<;>first|exact gn|exact nR
 |_=>exact gn
def am3{cz:Array TypeId}(h:cz[0]? =some t):ft P (.call ⟨.builtin .len,#[x],cz⟩) I U K=om P False K t (ai I x):=by
 have e:(#[x].map (ai I))[0]? =some (ai I x):=ak;unfold ft cT om
 dsimp only
 simp only[h,e]
 cases xC P t (ai I x)<;>cases xD (ai I x)<;>simp
def vp{c:Prop} [Decidable c]{w:Value}:(∃v,(if c then some w else none)=some v/\K v)=jd c (K w):=by
 unfold jd;by_cases h:c
 ·simp only[h,if_true,true_and];exact nR
 ·simp only[h,if_false,false_and];exact gn
def anb(h:qe P t=true):ft P (.slice t x lo hi none) I U K=xT False K (lo.map (ai I)) (hi.map (ai I)) (ai I x):=by
 unfold ft cT;simp only[EF h];generalize ai I x=vx;generalize lo.map (ai I)=l;generalize hi.map (ai I)=u
 cases vx with
 |string s=>
  simp only[xT]
  cases l with
  |none=>
   simp only[nE,ml]
   cases u with
   |none=>simp only[jE,jg];exact vp
   |some u=>simp only[jE,jg];cases u<;>first|exact vp|exact gn
  |some l=>
   cases l with
   |int k n=>
    simp only[nE,ml]
    cases u with
    |none=>simp only[jE,jg];exact vp
    |some u=>simp only[jE,jg];cases u<;>first|exact vp|exact gn
   |_=>simp only[nE,ml];exact gn
 |_=>simp only[xT];exact gn
def am2{i:Operand}:ft P (.indexAddr t x i) I U K=qp False (λz=>uq False z K (ai I i) (ai I x)) (iJ P t):=by
 have e0:cT P (.indexAddr t x i) I U=match tn P t,ai I x,ai I i with
  |some e,.slice (some a) n _,.int _ k=>if 0<=k/\k<n/\(P.info? e).isSome=true then some (.pointer (some (a.add (k.toNat*cC P e))))else none
  |_,_,_=>none:=rfl
 unfold ft;rw[e0]
 cases h:iJ P t with
 |none=>
  rw[FC];unfold iJ at h;split at h
  ·rename_i e he
   have hi:(P.info? e).isSome=false:=by
    cases hh:P.info? e with
    |none=>rfl
    |some i=>rw[hh]at h;cases h
   rw[he]
   cases ai I x<;>try exact gn
   rename_i a n c
   cases a<;>try exact gn
   cases ai I i<;>try exact gn
   simp[hi]
  ·rename_i he;rw[he];exact gn
 |some z=>
  obtain⟨e,he,hs,hz⟩:=Cj h;subst hz;rw[vq];unfold uq;rw[he]
  cases ai I x<;>try exact gn
  rename_i a n c
  cases a<;>try exact gn
  cases ai I i<;>try exact gn
  simp only[hs,and_true];exact vp
def am4:ft P (.call ⟨.builtin .len,#[x],#[t]⟩) I U K=om P False K t (ai I x):=am3 rfl
variable {Q:Post}{pn:List PanicEntry->List Deferred->Hp->Prop}{cK:List (Nat×av×Value)}{l:List Nat}
@[congr] theorem atl(_:tick 0=jl):fN E N ops Q pn l cK I ds U=fN E N ops Q pn l cK I ds U:=rfl
def dQ(E:Env P)(N:Nat)(ops:Array Oper)(Q:Post)(pn:List PanicEntry->List Deferred->Hp->Prop)(i:Nat)(rest:List Nat)(cK:List (Nat×av×Value))(I:av)(ds:List Deferred)(U:Hp):Option Oper->Prop
 |none=>False
 |some o=>pr N o.dst=true/\
  if cW o.op then
   if Region.wanted o (gO N ops I)then match cT P o.op I U with
    |some v=>fN E N ops Q pn rest ((i,I,v)::cK) (aA I o.dst v) ds U
    |none=>False
   else fN E N ops Q pn rest cK (aA I o.dst undef) ds U
  else if Region.wanted o (gO N ops I)then aS E o I ds U (λaC cV ae=>pe (P:=P) ops i ae cK/\fN E N ops Q pn rest cK aC cV ae) (λch ae=>pn ch ds ae)
  else fN E N ops Q pn rest cK (aA I o.dst undef) ds U
variable {rest:List Nat}{i:Nat}
@[congr] theorem ark{o o':Option Oper}(h:tick o=o'):dQ E N ops Q pn i rest cK I ds U o=dQ E N ops Q pn i rest cK I ds U o':=by subst h;rfl
def aaF:fN E N ops Q pn [] cK I ds U=Q .normal I ds U:=bj
def aaD:fN E N ops Q pn (i::rest) cK I ds U=dQ E N ops Q pn i rest cK I ds U (ops[i]?):=by
 simp only[fN,dQ]
 cases ops[i]? <;>rfl
def bQ(p q:Prop):Bool->Prop
 |true=>p
 |false=>q
variable {q:Prop}{b:Bool}
@[congr] theorem aq6{b':Bool}(h:tick b=b'):bQ p q b=bQ p q b':=by subst h;rfl
def Xv:bQ p q true=p:=bj
def Xu:bQ p q false=q:=bj
def aaG{op:Op}:dQ E N ops Q pn i rest cK I ds U (some ⟨dst,op,ty,pos,af,none⟩)=
 j8 (pr N dst) (bQ (ft P op I U λv=>fN E N ops Q pn rest ((i,I,v)::cK) (aA I dst v) ds U)
  (aS E ⟨dst,op,ty,pos,af,none⟩ I ds U (λaC cV ae=>pe (P:=P) ops i ae cK/\fN E N ops Q pn rest cK aC cV ae) (λch ae=>pn ch ds ae)) (cW op)):=by
 simp only[dQ,j8,Region.wanted,if_true]
 cases h:cW op
 ·rfl
 ·simp only[if_true,bQ,ft];congr 1
  cases cT P op I U with
  |none=>exact gn.symm
  |some v=>exact(nR (K:=λv=>fN E N ops Q pn rest ((i,I,v)::cK) (aA I dst v) ds U)).symm
def aaE{op:Op}:dQ E N ops Q pn i rest cK I ds U (some ⟨dst,op,ty,pos,af,some (j,b)⟩)=
 j8 (pr N dst) (bQ (l7 (ft P op I U λv=>fN E N ops Q pn rest ((i,I,v)::cK) (aA I dst v) ds U) (fN E N ops Q pn rest cK (aA I dst undef) ds U) b (gO N ops I j))
  (l7 (aS E ⟨dst,op,ty,pos,af,some (j,b)⟩ I ds U (λaC cV ae=>pe (P:=P) ops i ae cK/\fN E N ops Q pn rest cK aC cV ae) (λch ae=>pn ch ds ae)) (fN E N ops Q pn rest cK (aA I dst undef) ds U) b (gO N ops I j)) (cW op)):=by
 simp only[dQ,j8,Region.wanted]
 cases h:cW op
 ·simp only[Bool.false_eq_true,if_false,bQ,l7,beq_iff_eq]
 ·simp only[if_true,bQ,ft,l7,beq_iff_eq];congr 1;split
  ·cases cT P op I U with
   |none=>exact gn.symm
   |some v=>exact(nR (K:=λv=>fN E N ops Q pn rest ((i,I,v)::cK) (aA I dst v) ds U)).symm
  ·rfl
def ahi:cW (.move x)=true:=bj
def agU:cW (.assign x)=true:=bj
def ahk{z:Operand}:cW (.pick x y z)=true:=bj
def ahb:cW (.load t x)=true:=bj
def ahj:cW (.nilCheck x)=true:=bj
def ag4{f:Nat}:cW (.fieldAddr t x f)=true:=bj
def agV{o:BinOp}:cW (.binOp o t x y u)=true:=bj
def ahn{o:UnOp}:cW (.unOp o t x)=true:=bj
def ag1:cW (.convert t u x)=true:=bj
def ahh:cW (.makeInterface t x)=true:=bj
def ag5{f:Fn}{x y:Array Operand}:cW (.makeFunc f x y)=true:=bj
def ag3{k:Nat}:cW (.extract x k)=true:=bj
def ag7:cW (.indexAddr t x y)=true:=bj
def ag6:cW (.index t x y)=true:=bj
def ahl:cW (.slice t x lo hi none)=true:=bj
def GS(t:Nat):Bool:=#[t] != #[273]
def aha{x:Array Operand}:cW (.call ⟨.builtin .len,x,#[t]⟩)=GS t:=bj
def aiM{t:Nat}(h:(t==273)=false):GS t=true:=by have:t≠273:=aV h;simp[GS,bne,this]
def aiL:GS 273=false:=an
def agZ{a:Array Operand}{b:Array TypeId}:cW (.call ⟨.value x,a,b⟩)=false:=bj
def agT{x:Array Operand}{a:Array TypeId}:cW (.call ⟨.builtin .append,x,a⟩)=false:=bj
def ahm:cW (.store t x y)=false:=bj
def agS:cW (.alloc t)=false:=bj
def agW:cW (.box t x)=false:=bj
variable {p:Array (Nat×Operand)}
def agX:cW (.buildSlice t n p)=false:=bj
def agY:cW (.build t p)=false:=bj
def Tt(ops:Array Oper)(i j:Nat):Bool:=match ops[j]? with
 |some o=> !(C0 o.op&& !eK ops i j)
 |none=>true
def jA:pe (P:=P) ops i U []:=trivial
def jz(h:Tt ops i j=true)(k:pe (P:=P) ops i U cK):pe (P:=P) ops i U ((j,I,v)::cK):=by
 refine⟨?_,k⟩;unfold Tt at h;split
 ·rename_i o ho;rw[ho]at h;simp only[Bool.not_eq_true']at h;rw[h];simp
 ·trivial
def ah3{o:Oper}(ho:ops[j]? =some o)(h:cT P o.op I U=some v)(k:pe (P:=P) ops i U cK):pe (P:=P) ops i U ((j,I,v)::cK):=by
 refine⟨?_,k⟩;rw[ho];simp only[];split
 ·exact h
 ·trivial
def lf{op:Op}(ho:ops[j]? =some ⟨dst,op,ty,pos,af,g⟩)(h:ft P op I U λw=>w=v)(k:pe (P:=P) ops i U cK):pe (P:=P) ops i U ((j,I,v)::cK):=by obtain⟨w,h1,rfl⟩:=h;exact ah3 ho h1 k
variable {p F0:Prop}
def dL(a:F0)(e:F0->p:=by intro a;repeat(first|exact jA|(apply jz;(focus decide+kernel))|(refine lf rfl (aP a) ?_))):p:=e a
variable {F1:Prop}
def iP(a:F0)(b:F1)(e:F0->F1->p:=by intro a b;repeat(first|exact jA|(apply jz;(focus decide+kernel))|(refine lf rfl (wL a b) ?_))):p:=e a b
variable {F2:Prop}
def dF(a:F0)(b:F1)(c:F2)(e:F0->F1->F2->p:=by intro a b c;repeat(first|exact jA|(apply jz;(focus decide+kernel))|(refine lf rfl (nH a b c) ?_))):p:=e a b c
def kg4{F3:Prop}(a:F0)(b:F1)(c:F2)(d:F3)(e:F0->F1->F2->F3->p:=by intro a b c d;repeat(first|exact jA|(apply jz;(focus decide+kernel))|(refine lf rfl (ic a b c d) ?_))):p:=e a b c d
attribute [go_sem] aaF aaD am2 aaG aaE Xv Xu am7 amW am9 am5 am8 am0 amX ane amY am6 am1 amZ am4 anb ahl
 ahi agU ahk ahb ahj ag4 agV ahn ag1 ahh ag5 ag3 ag7 ag6 aha aiM aiL agZ agT ahm agS agW agX agY
variable {A:Prop}
def fL{B:Prop}(b:B)(a:A:=by(repeat(first|exact jA|(apply jz;(focus decide+kernel))))):A/\B:=⟨a,b⟩
def Lb{B:Prop}(f:F0)(b:B)(a:F0->A:=by intro f;(repeat(first|exact jA|(apply jz;(focus decide+kernel))|(refine lf rfl (by simp only[go_sem,seval,f]) ?_)))):A/\B:=⟨a f,b⟩
def Si{B:Prop}(f:F0)(g:F1)(b:B)(a:F0->F1->A:=by intro f g;(repeat(first|exact jA|(apply jz;(focus decide+kernel))|(refine lf rfl (by simp only[go_sem,seval,f,g]) ?_)))):A/\B:=⟨a f g,b⟩
def kp3{B:Prop}(f:F0)(g:F1)(h:F2)(b:B)(a:F0->F1->F2->A:=by intro f g h;(repeat(first|exact jA|(apply jz;(focus decide+kernel))|(refine lf rfl (by simp only[go_sem,seval,f,g,h]) ?_)))):A/\B:=⟨a f g h,b⟩
def ahd{r:Option Operand}:cW (.makeMap t r)=false:=bj
attribute [go_sem] ahd
def ig(ops:Array Oper)(v u:Nat):Array Oper:=ops.modify v λo=>{o with after:=o.after.push {on:=u,ground:=.data}}
variable {u v:Nat}
def VT:(ig ops v u).size=ops.size:=by simp[ig]
def Il:(ig ops v u)[i]? =(ops[i]?).map λo=>if i=v then{o with after:=o.after.push {on:=u,ground:=.data}}else o:=by
 unfold ig;rw[Array.getElem?_modify];by_cases h:v=i
 ·subst h;cases ops[v]? <;>simp
 ·have:¬i=v:=λe=>h e.symm
  cases ops[i]? <;>simp[h,this]
def wA{listed:Array Bool}:i∈Region.ready .any (ig ops v u) listed↔i∈Region.ready .any ops listed/\(i=v->listed.getD u false=true):=by
 rw[mem_ready,mem_ready,Il];constructor
 ·rintro⟨h0,o,ho,hd⟩;obtain⟨o',tX,rfl⟩:=Option.map_eq_some_iff.1 ho;by_cases e:i=v
  ·simp only[if_pos e]at hd;refine⟨⟨h0,o',tX,λx hx hb=>hd x (by simp[hx]) hb⟩,λ_=>hd ⟨u,.data⟩ ak rfl⟩
  ·simp only[if_neg e]at hd;exact⟨⟨h0,o',tX,hd⟩,λh=>absurd h e⟩
 ·rintro⟨⟨h0,o,ho,hd⟩,hv⟩;refine⟨h0,_,by rw[ho];rfl,λx hx hb=>?_⟩;by_cases e:i=v
  ·simp only[if_pos e,Array.mem_push]at hx;rcases hx with hx|rfl
   ·exact hd x hx hb
   ·exact hv e
  ·simp only[if_neg e]at hx;exact hd x hx hb
def aqN:gO N (ig ops v u) I=gO N ops I:=by
 funext j
 unfold gO;rw[Il]
 cases ops[j]? with
 |none=>rfl
 |some o=>by_cases h:j=v<;>simp[h]
variable {K:av->List Deferred->Hp->Prop}
def ED:lV E N (ig ops v u) Q i K I ds U↔lV E N ops Q i K I ds U:=by
 unfold lV;rw[Il,aqN]
 cases ops[i]? with
 |none=>exact Iff.rfl
 |some o=>
  by_cases h:i=v
  ·simp only[Option.map_some,if_pos h];exact Iff.rfl
  ·simp only[Option.map_some,if_neg h]
def aoW{o:Oper}(ho:ops[i]? =some o)(hr:cW o.op=true){K':av->List Deferred->Hp->Prop}(h:lV E N ops Q i K I ds U)(h':lV E N ops Q i K' I ds U):
 lV E N ops Q i (λI ds U=>K I ds U/\K' I ds U) I ds U:=by
 unfold lV at*;rw[ho]at*;refine⟨h.1,?_⟩;have h2:=h.2;have kS:=h'.2;split
 ·rename_i hw;rw[if_pos hw,if_pos hr]at h2 kS;obtain⟨v,e,k⟩:=h2;obtain⟨v',e',k'⟩:=kS;rw[e]at e';obtain rfl:=Option.some.inj e';exact⟨v,e,k,k'⟩
 ·rename_i hw;rw[if_neg hw]at h2 kS;exact⟨h2,kS⟩
def NL:∀(fuel:Nat) (listed:Array Bool) (I:av) (ds:List Deferred) (U:Hp),listed.getD u false=true->tu E N (ig ops v u) Q fuel listed I ds U->tu E N ops Q fuel listed I ds U:=by
 have hr:∀(listed:Array Bool),listed.getD u false=true->∀i,i∈Region.ready .any ops listed->i∈Region.ready .any (ig ops v u) listed:=λlisted hv i hi=>wA.2 ⟨hi,λ_=>hv⟩
 have fV:∀(listed:Array Bool),Region.ready .any ops listed=[]->Region.ready .any (ig ops v u) listed=[]:=by
  intro listed h
  cases e:Region.ready .any (ig ops v u) listed with
  |nil=>rfl
  |cons i t=>
   have:i∈Region.ready .any (ig ops v u) listed:=by rw[e];simp
   have:=(wA.1 this).1;rw[h]at this;cases this
 have RD:∀(listed:Array Bool) (i:Nat),listed.getD u false=true->(listed.setIfInBounds i true).getD u false=true:=by
  intro listed i h;simp only[Array.getD_eq_getD_getElem?]at*;rw[Array.getElem?_setIfInBounds];by_cases e:i=u
  ·subst e;by_cases hb:i<listed.size
   ·simp[hb]
   ·rw[Array.getElem?_eq_none aa]at h;cases h
  ·simp only[if_neg e];exact h
 intro fuel
 induction fuel with
 |zero=>
  intro listed I ds U hv h;refine⟨?_,h.2⟩
  cases e:Region.ready .any ops listed with
  |nil=>rfl
  |cons i t=>
   have:i∈Region.ready .any ops listed:=by rw[e];simp
   have:=hr listed hv i this;rw[h.1]at this;cases this
 |succ fuel ih=>
  intro listed I ds U hv h;refine⟨λh0=>h.1 (fV listed h0),λi hi=>?_⟩;exact EE (λI ds U=>ih _ I ds U (RD listed i hv)) (ED.1 (h.2 i (hr listed hv i hi)))
def apK(KL:u≠v)(hu:u<ops.size)(hv:v<ops.size)(aeo:∀i,i<ops.size->oy ops i=true\/i=u\/i=v\/eK ops i u=true):
 ∀(fuel:Nat) (listed:Array Bool) (I:av) (ds:List Deferred) (U:Hp),listed.size=ops.size->(∀a b,listed.getD a false=true->eK ops a b=true->listed.getD b false=true)->listed.getD u true=false->listed.getD v true=false->
  tu E N (ig ops v u) Q fuel listed I ds U->tu E N (ig ops u v) Q fuel listed I ds U->tu E N ops Q fuel listed I ds U:=by
 have hgd:∀(listed:Array Bool) (i:Nat),i<listed.size->listed.getD i true=listed.getD i false:=by intro listed i h;simp[Array.getD_eq_getD_getElem?,Array.getElem?_eq_getElem h]
 intro fuel
 induction fuel with
 |zero=>
  intro listed I ds U gD FU yW Rn h1 h2;refine⟨?_,h1.2⟩
  cases e:Region.ready .any ops listed with
  |nil=>rfl
  |cons i t=>
   exfalso;have hm:i∈Region.ready .any ops listed:=by rw[e];simp
   by_cases hi:i=v
   ·have:i∈Region.ready .any (ig ops u v) listed:=wA.2 ⟨hm,λe=>absurd (e.symm.trans hi) KL⟩;rw[h2.1]at this;cases this
   ·have:i∈Region.ready .any (ig ops v u) listed:=wA.2 ⟨hm,λe=>absurd e hi⟩;rw[h1.1]at this;cases this
 |succ fuel ih=>
  intro listed I ds U gD FU yW Rn h1 h2;refine⟨λh0=>h1.1 ?_,λi hi=>?_⟩
  ·cases e:Region.ready .any (ig ops v u) listed with
   |nil=>rfl
   |cons i t=>
    have:i∈Region.ready .any (ig ops v u) listed:=by rw[e];simp
    have:=(wA.1 this).1;rw[h0]at this;cases this
  ·have RD:∀k,k<listed.size->(listed.setIfInBounds k true).getD k true=true:=by intro k hk;simp[Array.getD_eq_getD_getElem?,hk]
   by_cases Gc:i=v
   ·subst Gc;have hm:i∈Region.ready .any (ig ops u i) listed:=wA.2 ⟨hi,λe=>absurd e.symm KL⟩;have:=ED.1 (h2.2 i hm);refine EE (λI ds U hk=>?_) this;refine NL _ _ _ _ _ ?_ hk;simp[Array.getD_eq_getD_getElem?,gD,hv]
   ·by_cases Gb:i=u
    ·subst Gb;have hm:i∈Region.ready .any (ig ops v i) listed:=wA.2 ⟨hi,λe=>absurd e KL⟩;have:=ED.1 (h1.2 i hm);refine EE (λI ds U hk=>?_) this;refine NL _ _ _ _ _ ?_ hk;simp[Array.getD_eq_getD_getElem?,gD,hu]
    ·have m1:i∈Region.ready .any (ig ops v u) listed:=wA.2 ⟨hi,λe=>absurd e Gc⟩;have m2:i∈Region.ready .any (ig ops u v) listed:=wA.2 ⟨hi,λe=>absurd e Gb⟩;have s1:=ED.1 (h1.2 i m1);have s2:=ED.1 (h2.2 i m2);obtain⟨lL,o,ho,J1⟩:=mem_ready.1 hi;have sJ:i<ops.size:=(Array.getElem?_eq_some_iff.1 ho).1;have tP:∀j,eK ops i j=true->listed.getD j false=true:=λj hj=>T6 FU ho J1 hj
     have gq:cW o.op=true:=by
      rcases aeo i sJ with h|h|h|h
      ·unfold oy at h;rw[ho]at h;exact h
      ·exact absurd h Gb
      ·exact absurd h Gc
      ·have:=tP u h;rw[<-hgd listed u aa,yW]at this;cases this
     have ob:∀(d:Bool) k,k≠i->(listed.setIfInBounds i true).getD k d=listed.getD k d:=by intro d k hk;simp[Array.getD_eq_getD_getElem?,Array.getElem?_setIfInBounds_ne (Ne.symm hk)]
     have od:(listed.setIfInBounds i true).getD i false=true:=by simp[Array.getD_eq_getD_getElem?,gD,sJ]
     refine EE (λI ds U hk=>ih _ _ _ _ (aV gD) ?_ ?_ ?_ hk.1 hk.2) (aoW ho gq s1 s2)
     ·intro a b ha dq;by_cases e:b=i
      ·subst e;exact od
      ·rw[ob false b e];by_cases e':a=i
       ·subst e';exact tP b dq
       ·rw[ob false a e']at ha;exact FU a b ha dq
     ·rw[ob true u (Ne.symm Gb)];exact yW
     ·rw[ob true v (Ne.symm Gc)];exact Rn
def Pc(hc:su ops l=true)(tY:∀ch I ds U,pn ch ds U->Q (.panic ch) I ds U)(h:fN E N ops Q pn l [] I ds U):
 tu E N ops Q ops.size (Array.replicate ops.size false) I ds U:=by
 have G:=P6 hc;have e0:sl ops I (λ_=>none)=I:=by funext t;exact uR (λ_ _=>rfl)
 have lL:∀i,(Array.replicate ops.size false).getD i false=false:=λi=>by rw[Array.getD_eq_getD_getElem?,Array.getElem?_replicate];split<;>rfl
 have atz:uZ E N ops Q pn I l (Array.replicate ops.size false) [] l [] (λ_=>none) ds U:=by refine⟨ak,rfl,λi hi=>(by rw[lL]at hi;cases hi),λi hi=>(by cases hi),λ_ _=>rfl,λi hi=>(by cases hi),λi j hi=>(by rw[lL]at hi;cases hi),λr hr=>(by cases hr),(by rw[e0];exact h)⟩
 obtain⟨G7,uI,uE,lD,I',_,hh⟩:=advance G _ _ _ _ atz;have:=NM G tY ops.size _ _ _ _ _ _ _ (by unfold BG;exact Nat.le_trans List.countP_le_length ak) I' hh
 have e1:sl ops I (λi=>if(Array.replicate ops.size false).getD i false=true then lD i else none)=I:=by funext t;exact uR (λi _=>by rw[lL];rfl)
 rw[e1]at this;exact this
def MZ{id:Nat}(u v:Nat)(l1 l2:List Nat)(pn:List PanicEntry->List Deferred->Hp->Prop)(hm:P.follows .mixedOrders=true)(hc:(su (ig ops v u) l1&&su (ig ops u v) l2&&(u !=v)&&decide (u<ops.size)&&decide (v<ops.size)&&(List.range ops.size).all λi=>oy ops i||i==u||i==v||eK ops i u)=true)(tY:∀ch I ds U,pn ch ds U->Q (.panic ch) I ds U)(h1:fN E N (ig ops v u) Q pn l1 [] I ds U)(h2:fN E N (ig ops u v) Q pn l2 [] I ds U):cO E N (.region id ops true) Q I ds U:=by
 intro t;simp only[Bool.and_eq_true,List.all_eq_true,List.mem_range,Bool.or_eq_true,bne_iff_ne,ne_eq,decide_eq_true_eq,beq_iff_eq]at hc;obtain⟨⟨⟨⟨⟨c1,c2⟩,c3⟩,c4⟩,c5⟩,c6⟩:=hc
 have lL:∀(n i:Nat),(Array.replicate n false).getD i false=false:=λn i=>by rw[Array.getD_eq_getD_getElem?,Array.getElem?_replicate];split<;>rfl
 have a1:=Pc (E:=E) (N:=N) c1 tY h1;have a2:=Pc (E:=E) (N:=N) c2 tY h2;rw[VT]at a1 a2;have:=apK c3 c4 c5 (λi hi=>by rcases c6 i hi with((h|h)|h)|h<;>simp[h]) ops.size (Array.replicate ops.size false) I ds U ak (λa b ha=>by rw[lL]at ha;cases ha) (by simp[Array.getD_eq_getD_getElem?,c4]) (by simp[Array.getD_eq_getD_getElem?,c5]) a1 a2;simp only[Region.schedule,hm,Bool.true_or,if_true];exact Ve _ t _ _ _ _ this
end Go.Qw
