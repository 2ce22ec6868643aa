/- Part 6. -/
import Derived.KernelRfl
import Derived.Test.YtpiabknabfbfhaaGreatDoorFairly05
set_option linter.all false
set_option maxRecDepth 100000
set_option maxHeartbeats 8000000
namespace Go.Qw
open Go Go.Conc
variable {α:Type}
def qj(p:Prop)(k:α->Prop):Option α->Prop
 |some a=>k a
 |none=>p
variable {p:Prop}
@[congr] theorem aq2{k:α->Prop}{a a':Option α}(h:tick a=a'):qj p k a=qj p k a':=by subst h;rfl
variable {v:Value}
def apM{k:Value->Prop}:j9 k v=k v:=bl
def vj{k:α->Prop}{a:α}:qj p k (some a)=k a:=bl
variable {P:Program}{E:Env P}{ρ:av}{ds:List Deferred}{σ:Hp}{dst:Option Tmp}{ty:TypeId}{pos:String}{af:Array Edge}{g:Option (Nat×Bool)}{nx:av->List Deferred->Hp->Prop}{pn:List PanicEntry->Hp->Prop}{t:TypeId}{x:Operand}
def amA{i:Operand}:aT E ⟨dst,.indexAddr t x i,ty,pos,af,g⟩ ρ ds σ nx pn=
 qj (aT E ⟨dst,.indexAddr t x i,ty,pos,af,g⟩ ρ ds σ nx pn) (λz=>ua (wpOp E ⟨dst,.indexAddr t x i,ty,pos,af,g⟩ ρ ds σ nx pn) z (λv=>nx (aB ρ dst v) ds σ) (ak ρ i) (ak ρ x)) (iE P t):=by
 cases h:iE P t with
 |none=>rfl
 |some z=>rw[vj];exact al0 h
variable {lo hi:Option Operand}
def amC(hs:pU P t=false):aT E ⟨dst,.slice t x lo hi none,ty,pos,af,g⟩ ρ ds σ nx pn=
 qj (aT E ⟨dst,.slice t x lo hi none,ty,pos,af,g⟩ ρ ds σ nx pn) (λz=>wF (wpOp E ⟨dst,.slice t x lo hi none,ty,pos,af,g⟩ ρ ds σ nx pn) z (λv=>nx (aB ρ dst v) ds σ) (lo.map (ak ρ)) (hi.map (ak ρ)) (ak ρ x)) (iE P t):=by
 cases h:iE P t with
 |none=>rfl
 |some z=>rw[vj];exact ama h
variable {parts:List (Nat×Operand)}
def amx:aT E ⟨dst,.build t parts.toArray,ty,pos,af,g⟩ ρ ds σ nx pn=
 qj (aT E ⟨dst,.build t parts.toArray,ty,pos,af,g⟩ ρ ds σ nx pn) (λz=>qj (aT E ⟨dst,.build t parts.toArray,ty,pos,af,g⟩ ρ ds σ nx pn) (λpl=>vS (λr=>nx (aB ρ dst (.agg r.toArray)) ds σ) (qk pl z.cells.toList (parts.map λp=>(p.1,ak ρ p.2)))) (jk P t)) (dq P t):=by
 cases hz:dq P t with
 |none=>rfl
 |some z=>
  rw[vj]
  cases hp:jk P t with
  |none=>rfl
  |some pl=>rw[vj];exact alT hz hp
def amy{n:Nat}:aT E ⟨dst,.buildSlice t n parts.toArray,ty,pos,af,g⟩ ρ ds σ nx pn=
 qj (aT E ⟨dst,.buildSlice t n parts.toArray,ty,pos,af,g⟩ ρ ds σ nx pn) (λq=>vS (λr=>sP σ λb=>nx (aB ρ dst (.slice (some ⟨b,0,none⟩) n n)) ds (σ.set b (.cells r.toArray q.1))) (qk q.2.1 q.2.2 (parts.map λp=>(p.1,ak ρ p.2)))) (kI P t n):=by
 cases h:kI P t n with
 |none=>rfl
 |some q=>obtain⟨e,pl,zs⟩:=q;rw[vj];exact alU h
def amw:aT E ⟨dst,.alloc t,ty,pos,af,g⟩ ρ ds σ nx pn=mj (λz=>sP σ λb=>nx (aB ρ dst (pV b)) ds (σ.set b (.cells z.cells t))) (dq P t):=alP
variable {s d:TypeId}
def amz:aT E ⟨dst,.convert s d x,ty,pos,af,g⟩ ρ ds σ nx pn=
 qj (kU (wpOp E ⟨dst,.convert s d x,ty,pos,af,g⟩ ρ ds σ nx pn) (λv=>nx (aB ρ dst v) ds σ) (lU P s d (ak ρ x)))
  (λe=>By (aT E ⟨dst,.convert s d x,ty,pos,af,g⟩ ρ ds σ nx pn) (λs=>As σ e s λb pad ae=>nx (aB ρ dst (.slice (some ⟨b,0,none⟩) s.size (s.size+pad))) ds ae) (ak ρ x)) (kY P s d):=by
 cases h:kY P s d with
 |none=>exact alW h
 |some e=>rw[vj];exact amd h
def Fv{k:α->Prop}:qj p k none=p:=bl
def aab{j:IntKind}{a:Int}(h:(sL P s d).isSome=true):lU P s d (.int j a)=(sL P s d).map λk=>.int k (k.wrap a):=by
 obtain⟨k,hk⟩:=Option.isSome_iff_exists.1 h;rw[hk];unfold sL at hk;split at hk
 ·rename_i hs;exact aaa hs hk
 ·cases hk
def aiY{O:Type}{f:α->O}{a:α}:(some a).map f=some (f a):=bl
variable {a u:TypeId}
def ao5(h:iv P a=true)(aE:(u==a)=false):kW P a (.iface u v)=(dq P a).map λz=>.tuple #[z,.bool false]:=by
 cases hz:dq P a with
 |none=>
  unfold iv at h;have aE:¬u=a:=aZ aE;simp only[kW]
  cases hu:P.underlying a with
  |none=>rw[hu]at h;cases h
  |some d=>rw[hu]at h;cases d<;>first|(simp at h;done)|simp[aE,hz]
 |some z=>exact ao4 h hz aE
def ao3(h:iv P a=true):kW P a .nilIface=(dq P a).map λz=>.tuple #[z,.bool false]:=by
 cases hz:dq P a with
 |none=>
  unfold iv at h;simp only[kW]
  cases hu:P.underlying a with
  |none=>rw[hu]at h;cases h
  |some d=>rw[hu]at h;cases d<;>first|(simp at h;done)|simp[hz]
 |some z=>exact ao2 h hz
variable {off:Nat}{k:Value->Prop}
def aic{b:Nat}(h:dx P t=true):nY P t ⟨b,off,none⟩ σ k=sQ (cellsIn off (cq P t) k) (σ.f b):=ah8 h rfl
variable {n:Nat}{e:TypeId}{z:Nat×Nat}
def Za{c:List Value}:cellsIn off n k (.cells c.toArray e z)=jd (off+n<=c.length) (k (.agg ((c.drop off).take n).toArray)):=by simp only[cellsIn,Pq,jd,List.size_toArray];rw[show off+n-off=n by omega]
def aix{s:List UInt8}(h:pU P t=true):nZ P p k t (.string (B s))=k (.int .i64 s.length):=by rw[ais (Ez h),wB]
def aiw{a:Option Addr}{c:Nat}(h:(iE P t).isSome=true):nZ P p k t (.slice a n c)=k (.int .i64 n):=by refine air ?_;obtain⟨z,hz⟩:=Option.isSome_iff_exists.1 h;obtain⟨e,he,_⟩:=Ck hz;simp[he]
def amB:aT E ⟨dst,.call ⟨.builtin .len,#[x],#[t]⟩,ty,pos,af,g⟩ ρ ds σ nx pn=
 nZ P (wpOp E ⟨dst,.call ⟨.builtin .len,#[x],#[t]⟩,ty,pos,af,g⟩ ρ ds σ nx pn) (λv=>nx (aB ρ dst v) ds σ) t (ak ρ x):=al1 rfl
def akl{op:BinOp}{a b:Addr}:eO P op t (.pointer (some a)) (.pointer (some b))=none:=by unfold eO;cases op<;>cases P.underlying t<;>first|rfl|(rename_i d;cases d<;>rfl)
def ajP{op:BinOp}{y:Operand}{a b:Option Addr}:mY P op t x y (.pointer a) (.pointer b)=none:=by unfold mY;cases op<;>cases P.underlying t<;>first|rfl|(rename_i d;cases d<;>rfl)
def Y8{c:List Value}:nJ off k (.cells c.toArray e z)=mj k c[off]? :=by simp[nJ,UO]
def alI{c:List Value}{k:Obj->Prop}(h:de v=true):
 xL P t off v k (.cells c.toArray e (0,0))=jd (off<c.length/\cq P t=1) (k (.cells (c.set off v).toArray e (0,0))):=by
 simp only[xL,h,if_true,jd,List.size_toArray,List.setIfInBounds_toArray];simp only[true_and,and_assoc]
def ans{k:IntKind}{n:Int}:de (.int k n)=true:=bl
def ano{b:Bool}:de (.bool b)=true:=bl
def anz{b:ByteArray}:de (.string b)=true:=bl
def anw{b:Option Addr}:de (.pointer b)=true:=bl
def anx{b:Option Addr}{c:Nat}:de (.slice b n c)=true:=bl
def ant{b:Option Nat}:de (.map b)=true:=bl
def anp{b:Option Nat}:de (.chan b)=true:=bl
def anr:de (.iface t v)=true:=bl
def anv:de .nilIface=true:=bl
def anq{f:Fn}{x y:Array Value}:de (.func f x y)=true:=bl
def anu:de .nilFunc=true:=bl
def agb:Region.isConst (.const v)=true:=bl
def agc{t:Tmp}:Region.isConst (.tmp t)=false:=bl
def Fy(σ:Hp)(e:TypeId)(l:List UInt8)(k:Nat->Nat->Hp->Prop):Prop:=∀b pad z,σ.f b=none->k b pad (σ.set b (.cells (dB l++List.replicate pad (Value.int .u8 0)).toArray e z))
variable {l:List UInt8}{k:Nat->Nat->Hp->Prop}{jj:Nat}
@[congr] theorem arv(_:tick 0=jj):Fy σ e l k=Fy σ e l k:=rfl
def abJ:As σ e (B l) k=Fy σ e l k:=by
 have:∀pad:Nat,uZ (B l)++Array.replicate pad (Value.int .u8 0)=(dB l++List.replicate pad (Value.int .u8 0)).toArray:=by intro pad;rw[On];apply Array.ext';simp
 simp only[As,Fy,this]
def YA{r:List Value}{i:Nat}(h:i<l.length):(dB l++r)[i]? =some (.int .u8 (pr l i)):=by rw[List.getElem?_append_left (by simpa[dB]using h)];simp only[dB,List.getElem?_map,List.getElem?_eq_getElem h,Option.map_some,pr,List.getD_eq_getElem?_getD,Option.getD_some]
def aa8{b x:Nat}{o:Obj}(hb:σ.f b=none)(hx:(σ.f x).isSome=true):(σ.set b o).f x=σ.f x:=by refine Hp.aO o ?_;intro e;subst e;rw[hb]at hx;cases hx
def aoo{args:List Value}{t:Nat}:nB args.toArray n t=(args[t]?).getD undef:=by simp[nB]
variable {f:FuncId}{args:Array Value}{τ:Hp}
def Ov(hg:cf P f=true)(h:ay E f args σ λe ae=>e=.returned v/\ae=τ)(k:nx (aB ρ dst v) ds τ):jR E f args σ dst ρ ds nx pn:=
 Fg hg (h.mono λe ae ⟨h1,h2⟩=>by subst h1;subst h2;exact k)
def dC{R:Fin->Hp->Prop}(hg:cf P f=true)(h:ay E f args σ R)(k:∀v ae,R (.returned v) ae->nx (aB ρ dst v) ds ae)(kp:∀ch ae,R (.panicked ch) ae->pn ch ae):jR E f args σ dst ρ ds nx pn:=
 Fg hg (h.mono λe ae h=>match e,h with
  | .returned v,h=>k v ae h
  | .panicked ch,h=>kp ch ae h)
def aR(h:ay E f args σ λe ae=>e=.returned v/\ae=τ)(k:nx (aB ρ dst v) ds τ)(hg:cf P f=true:=by kernel_rfl):jR E f args σ dst ρ ds nx pn:=Ov hg h k
def aL{R:Fin->Hp->Prop}(h:ay E f args σ R)(k:∀v ae,R (.returned v) ae->nx (aB ρ dst v) ds ae)(hg:cf P f=true:=by kernel_rfl)(kp:∀ch ae,R (.panicked ch) ae->pn ch ae:=by rintro ch ae h;first|(obtain⟨h,_⟩:=h;cases h;done)|(obtain⟨_,h,_⟩:=h;cases h;done)|(obtain⟨_,_,h,_⟩:=h;cases h;done)|(obtain⟨_,_,_,h,_⟩:=h;cases h;done)|(obtain⟨_,_,_,_,h,_⟩:=h;cases h;done)|(obtain⟨⟨_,_,h⟩,_⟩:=h;cases h;done)|(obtain⟨_,h⟩:=h;cases h;done)|(cases h;done)|(obtain⟨_,_,h⟩:=h;cases h;done)):jR E f args σ dst ρ ds nx pn:=dC hg h k kp
attribute [go_sem] UO ap1 apZ ap0 al6 alQ al9 alS al2 amc al7 alY alR amg al4 al3 al5 alX alV al8 amf alZ amb
 amA amC amx amy amw amz amB
attribute [go_sem] Zr akS als alq alB ajJ ajI apM apm akV akU abX abU abW abV Zq ahq ahp akT vj Fv aiM ann alx abJ
 ahr Yv aok aoM aiC aiD aev aew aix aiw
attribute [go_sem] bv_add Yt Ye Yk Yl X6 Yf Yd Yb X8 X7 Yo Yp Yi bv_and Yu Oj Ym Ys Yr Yn Yj X5 Yh Yg Ya X9
 akk akj aki ajV ajU ajT ake ajQ akg akh ajR ajS akl ajP akf ajN ajO apL apK aab aac aiY ao6 ao5 ao3
attribute [go_sem] YU YS YV YR YT YQ YO YP aoS aoR aoU aoT W7 W9 W8 W5 W6
attribute [go_sem] apJ apI aa3 aa0 aa1 aa2 alK alJ akr akq aoo Tm Y8 Za ah9 aic Ii aon alI alH
 ans ano anz anw anx ant anp anr anv anq anu Hp.bD aa8 Hp.set_set
 Zf Zc Zl Zj Zk Zg Ze Zi Zd Zh Ix qk v8 ai7 ai8 wB
attribute [go_sem] List.getElem?_cons_zero List.getElem?_cons_succ List.length_cons List.length_nil List.set_cons_zero List.set_cons_succ List.length_set List.map_cons List.map_nil List.map_toArray Array.getElem?_toList List.getElem?_toArray List.drop_zero List.drop_succ_cons List.take_zero List.take_succ_cons List.drop_nil List.take_nil
 List.nil_append List.cons_append List.append_nil List.size_toArray List.append_toArray
 if_true if_false decide_true decide_false Option.map_none Option.map_some Option.getD_some Option.getD_none Option.isSome_some Int.toNat_zero Nat.mul_one Nat.one_mul Nat.add_zero Nat.zero_add Int.le_refl true_and and_true and_self not_true_eq_false not_false_eq_true Int.toNat_natCast List.all_cons List.all_nil Bool.and_true Bool.and_self eq_self ne_eq Bool.not_true Bool.not_false agb agc Bool.or_true Bool.true_or Bool.or_false Bool.false_or
def HP(N:Nat)(ρ:av):Option Oper->Option Bool
 |some o=>match o.dst with
  |some d=>if d<N then B6 (ρ d)else none
  |none=>none
 |none=>none
variable {N:Nat}{ops:Array Oper}{j:Nat}
def aqs:gK N ops ρ j=HP N ρ (ops[j]?):=by
 unfold gK HP
 cases ops[j]? <;>rfl
def aqq{d:Tmp}{op:Op}:HP N ρ (some ⟨some d,op,ty,pos,af,g⟩)=cond (decide (d<N)) (B6 (ρ d)) none:=by simp[HP]
def XW{b:Bool}:B6 (.bool b)=some b:=bl
def ZX{a b:Option Bool}:cond true a b=a:=bl
attribute [go_sem] aqs aqq XW ZX
def ff(P:Program)(op:Op)(ρ:av)(σ:Hp)(K:Value->Prop):Prop:=∃v,cR P op ρ σ=some v/\K v
variable {K:Value->Prop}
@[congr] theorem asJ{op:Op}(_:tick 0=jj):ff P op ρ σ K=ff P op ρ σ K:=rfl
def nK{w:Value}:(∃v,some w=some v/\K v)=K w:=propext ⟨λ⟨v,h,k⟩=>by cases h;exact k,λk=>⟨w,rfl,k⟩⟩
def gn:(∃v,(none:Option Value)=some v/\K v)=False:=propext ⟨λ⟨v,h,k⟩=>(by cases h),λk=>k.elim⟩
def amQ:ff P (.move x) ρ σ K=j9 K (ak ρ x):=nK
def amF:ff P (.assign x) ρ σ K=j9 K (ak ρ x):=nK
def amS{c a b:Operand}:ff P (.pick c a b) ρ σ K=sX (j9 K (ak ρ a)) (j9 K (ak ρ b)) (ak ρ c):=by
 unfold ff sX cR
 dsimp only
 generalize ak ρ c=y
 cases y with
 |bool t=>cases t<;>exact nK
 |_=>exact gn
def aia{a:Addr}:(∃v,iQ P t a σ=some v/\K v)=nY P t a σ K:=by
 apply propext;constructor
 ·rintro⟨v,h,k⟩;exact ui h k
 ·intro h;unfold nY at h;unfold iQ;split at h
  ·rename_i hc;rw[if_pos hc];split at h
   ·rename_i cs qz;exact⟨_,by rw[qz];rfl,h⟩
   ·exact h.elim
  ·rename_i hc;rw[if_neg hc];split at h
   ·rename_i v hv;exact⟨v,hv,h⟩
   ·exact h.elim
def amO:ff P (.load t x) ρ σ K=jS (dm P t) (qL (λa=>nY P t a σ K) (ak ρ x)):=by
 unfold ff jS cR qL
 dsimp only
 simp only[<-aia];generalize ak ρ x=y
 cases y with
 |pointer a=>
  cases a with
  |none=>exact gn.trans al
  |some a=>cases ht:dm P t<;>simp
 |_=>exact gn.trans al
def amR:ff P (.nilCheck x) ρ σ K=xG K (ak ρ x):=by
 unfold ff xG cR
 dsimp only
 generalize ak ρ x=y
 cases y with
 |pointer a=>cases a<;>first|exact gn|exact nK
 |func f l c=>cases f<;>first|exact gn|exact nK
 |_=>exact gn
def amJ{f:Nat}:ff P (.fieldAddr s x f) ρ σ K=qL (λa=>mj (λn=>j9 K (.pointer (some (a.add n)))) (bH P s f)) (ak ρ x):=by
 unfold ff qL cR
 dsimp only
 generalize ak ρ x=y
 cases y with
 |pointer a=>
  cases a with
  |none=>exact gn
  |some a=>generalize bH P s f=z;cases z<;>first|exact gn|exact nK
 |_=>exact gn
variable {y:Operand}
def amG{op:BinOp}:ff P (.binOp op t x y u) ρ σ K=kU (kU (kU False K (mY P op t x y (ak ρ x) (ak ρ y))) K (eO P op t (ak ρ x) (ak ρ y))) K (cG op (ak ρ x) (ak ρ y)):=by
 unfold ff cR
 dsimp only
 generalize cG op (ak ρ x) (ak ρ y)=a;generalize eO P op t (ak ρ x) (ak ρ y)=b;generalize mY P op t x y (ak ρ x) (ak ρ y)=c
 cases a with
 |some a=>exact nK
 |none=>cases b with
  |some b=>exact nK
  |none=>cases c with
   |some c=>exact nK
   |none=>exact gn
def amV{op:UnOp}:ff P (.unOp op t x) ρ σ K=mj K (uN op (ak ρ x)):=by
 unfold ff cR
 dsimp only
 generalize uN op (ak ρ x)=y
 cases y<;>first|exact gn|exact nK
def amH:ff P (.convert s d x) ρ σ K=kU False K (lU P s d (ak ρ x)):=by
 unfold ff cR
 dsimp only
 generalize lU P s d (ak ρ x)=y
 cases y<;>first|exact gn|exact nK
def amP:ff P (.makeInterface t x) ρ σ K=jS (iv P t) (j9 (λv=>K (.iface t v)) (ak ρ x)):=by
 unfold ff cR jS iv j9
 dsimp only
 cases P.underlying t with
 |none=>simp
 |some d=>cases d<;>simp
def amK{f:Fn}{l c:Array Operand}:ff P (.makeFunc f l c) ρ σ K=j9 K (.func f (l.map (ak ρ)) (c.map (ak ρ))):=nK
def amI{i:Nat}:ff P (.extract x i) ρ σ K=zJ K i (ak ρ x):=by
 unfold ff cR zJ
 dsimp only
 generalize ak ρ x=y
 cases y with
 |tuple vs=>show(∃v,vs[i]? =some v/\K v)=mj K vs[i]?;generalize vs[i]? =z;cases z<;>first|exact gn|exact nK
 |_=>exact gn
def amM{cg:Array TypeId}(h:cg[0]? =some t):ff P (.call ⟨.builtin .len,#[x],cg⟩) ρ σ K=nZ P False K t (ak ρ x):=by
 have e:(#[x].map (ak ρ))[0]? =some (ak ρ x):=al;unfold ff cR nZ
 dsimp only
 simp only[h,e]
 cases xy P t (ak ρ x)<;>cases xz (ak ρ x)<;>simp
def vh{c:Prop} [Decidable c]{w:Value}:(∃v,(if c then some w else none)=some v/\K v)=jd c (K w):=by
 unfold jd;by_cases h:c
 ·simp only[h,if_true,true_and];exact nK
 ·simp only[h,if_false,false_and];exact gn
def amU(h:pU P t=true):ff P (.slice t x lo hi none) ρ σ K=xR False K (lo.map (ak ρ)) (hi.map (ak ρ)) (ak ρ x):=by
 unfold ff cR;simp only[Ez h];generalize ak ρ x=vx;generalize lo.map (ak ρ)=l;generalize hi.map (ak ρ)=u
 cases vx with
 |string s=>
  simp only[xR]
  cases l with
  |none=>
   simp only[nA,mg]
   cases u with
   |none=>simp only[jy,je];exact vh
   |some u=>simp only[jy,je];cases u<;>first|exact vh|exact gn
  |some l=>
   cases l with
   |int k n=>
    simp only[nA,mg]
    cases u with
    |none=>simp only[jy,je];exact vh
    |some u=>simp only[jy,je];cases u<;>first|exact vh|exact gn
   |_=>simp only[nA,mg];exact gn
 |_=>simp only[xR];exact gn
def amL{i:Operand}:ff P (.indexAddr t x i) ρ σ K=qj False (λz=>ua False z K (ak ρ i) (ak ρ x)) (iE P t):=by
 have e0:cR P (.indexAddr t x i) ρ σ=match s5 P t,ak ρ x,ak ρ i with
  |some e,.slice (some a) n _,.int _ k=>if 0<=k/\k<n/\(P.info? e).isSome=true then some (.pointer (some (a.add (k.toNat*cq P e))))else none
  |_,_,_=>none:=rfl
 unfold ff;rw[e0]
 cases h:iE P t with
 |none=>
  rw[Fv];unfold iE at h;split at h
  ·rename_i e he
   have hi:(P.info? e).isSome=false:=by
    cases hh:P.info? e with
    |none=>rfl
    |some i=>rw[hh]at h;cases h
   rw[he]
   cases ak ρ x<;>try exact gn
   rename_i a n c
   cases a<;>try exact gn
   cases ak ρ i<;>try exact gn
   simp[hi]
  ·rename_i he;rw[he];exact gn
 |some z=>
  obtain⟨e,he,hs,hz⟩:=Ck h;subst hz;rw[vj];unfold ua;rw[he]
  cases ak ρ x<;>try exact gn
  rename_i a n c
  cases a<;>try exact gn
  cases ak ρ i<;>try exact gn
  simp only[hs,and_true];exact vh
def amN:ff P (.call ⟨.builtin .len,#[x],#[t]⟩) ρ σ K=nZ P False K t (ak ρ x):=amM rfl
variable {Q:Post}{pn:List PanicEntry->List Deferred->Hp->Prop}{cE:List (Nat×av×Value)}{l:List Nat}
@[congr] theorem asY(_:tick 0=jj):fP E N ops Q pn l cE ρ ds σ=fP E N ops Q pn l cE ρ ds σ:=rfl
def dQ(E:Env P)(N:Nat)(ops:Array Oper)(Q:Post)(pn:List PanicEntry->List Deferred->Hp->Prop)(i:Nat)(rest:List Nat)(cE:List (Nat×av×Value))(ρ:av)(ds:List Deferred)(σ:Hp):Option Oper->Prop
 |none=>False
 |some o=>oX N o.dst=true/\
  if cT o.op then
   if Region.wanted o (gK N ops ρ)then match cR P o.op ρ σ with
    |some v=>fP E N ops Q pn rest ((i,ρ,v)::cE) (aB ρ o.dst v) ds σ
    |none=>False
   else fP E N ops Q pn rest cE (aB ρ o.dst undef) ds σ
  else if Region.wanted o (gK N ops ρ)then aT E o ρ ds σ (λaD cX ae=>oR (P:=P) ops i ae cE/\fP E N ops Q pn rest cE aD cX ae) (λch ae=>pn ch ds ae)
  else fP E N ops Q pn rest cE (aB ρ o.dst undef) ds σ
variable {rest:List Nat}{i:Nat}
@[congr] theorem aqX{o o':Option Oper}(h:tick o=o'):dQ E N ops Q pn i rest cE ρ ds σ o=dQ E N ops Q pn i rest cE ρ ds σ o':=by subst h;rfl
def aag:fP E N ops Q pn [] cE ρ ds σ=Q .normal ρ ds σ:=bl
def aae:fP E N ops Q pn (i::rest) cE ρ ds σ=dQ E N ops Q pn i rest cE ρ ds σ (ops[i]?):=by
 simp only[fP,dQ]
 cases ops[i]? <;>rfl
def bQ(p q:Prop):Bool->Prop
 |true=>p
 |false=>q
variable {q:Prop}{b:Bool}
@[congr] theorem aqL{b':Bool}(h:tick b=b'):bQ p q b=bQ p q b':=by subst h;rfl
def W4:bQ p q true=p:=bl
def W3:bQ p q false=q:=bl
def aah{op:Op}:dQ E N ops Q pn i rest cE ρ ds σ (some ⟨dst,op,ty,pos,af,none⟩)=
 jS (oX N dst) (bQ (ff P op ρ σ λv=>fP E N ops Q pn rest ((i,ρ,v)::cE) (aB ρ dst v) ds σ)
  (aT E ⟨dst,op,ty,pos,af,none⟩ ρ ds σ (λaD cX ae=>oR (P:=P) ops i ae cE/\fP E N ops Q pn rest cE aD cX ae) (λch ae=>pn ch ds ae)) (cT op)):=by
 simp only[dQ,jS,Region.wanted,if_true]
 cases h:cT op
 ·rfl
 ·simp only[if_true,bQ,ff];congr 1
  cases cR P op ρ σ with
  |none=>exact gn.symm
  |some v=>exact(nK (K:=λv=>fP E N ops Q pn rest ((i,ρ,v)::cE) (aB ρ dst v) ds σ)).symm
def aaf{op:Op}:dQ E N ops Q pn i rest cE ρ ds σ (some ⟨dst,op,ty,pos,af,some (j,b)⟩)=
 jS (oX N dst) (bQ (lV (ff P op ρ σ λv=>fP E N ops Q pn rest ((i,ρ,v)::cE) (aB ρ dst v) ds σ) (fP E N ops Q pn rest cE (aB ρ dst undef) ds σ) b (gK N ops ρ j))
  (lV (aT E ⟨dst,op,ty,pos,af,some (j,b)⟩ ρ ds σ (λaD cX ae=>oR (P:=P) ops i ae cE/\fP E N ops Q pn rest cE aD cX ae) (λch ae=>pn ch ds ae)) (fP E N ops Q pn rest cE (aB ρ dst undef) ds σ) b (gK N ops ρ j)) (cT op)):=by
 simp only[dQ,jS,Region.wanted]
 cases h:cT op
 ·simp only[Bool.false_eq_true,if_false,bQ,lV,beq_iff_eq]
 ·simp only[if_true,bQ,ff,lV,beq_iff_eq];congr 1;split
  ·cases cR P op ρ σ with
   |none=>exact gn.symm
   |some v=>exact(nK (K:=λv=>fP E N ops Q pn rest ((i,ρ,v)::cE) (aB ρ dst v) ds σ)).symm
  ·rfl
def agY:cT (.move x)=true:=bl
def agA:cT (.assign x)=true:=bl
def ag0{z:Operand}:cT (.pick x y z)=true:=bl
def agR:cT (.load t x)=true:=bl
def agZ:cT (.nilCheck x)=true:=bl
def agK{f:Nat}:cT (.fieldAddr t x f)=true:=bl
def agB{o:BinOp}:cT (.binOp o t x y u)=true:=bl
def ag3{o:UnOp}:cT (.unOp o t x)=true:=bl
def agH:cT (.convert t u x)=true:=bl
def agX:cT (.makeInterface t x)=true:=bl
def agL{f:Fn}{x y:Array Operand}:cT (.makeFunc f x y)=true:=bl
def agJ{k:Nat}:cT (.extract x k)=true:=bl
def agN:cT (.indexAddr t x y)=true:=bl
def agM:cT (.index t x y)=true:=bl
def ag1:cT (.slice t x lo hi none)=true:=bl
def GP(t:Nat):Bool:=#[t] != #[273]
def agQ{x:Array Operand}:cT (.call ⟨.builtin .len,x,#[t]⟩)=GP t:=bl
def aiu{t:Nat}(h:(t==273)=false):GP t=true:=by have:t≠273:=aZ h;simp[GP,bne,this]
def ait:GP 273=false:=ai
def agF{a:Array Operand}{b:Array TypeId}:cT (.call ⟨.value x,a,b⟩)=false:=bl
def agz{x:Array Operand}{a:Array TypeId}:cT (.call ⟨.builtin .append,x,a⟩)=false:=bl
def ag2:cT (.store t x y)=false:=bl
def agy:cT (.alloc t)=false:=bl
def agC:cT (.box t x)=false:=bl
variable {p:Array (Nat×Operand)}
def agD:cT (.buildSlice t n p)=false:=bl
def agE:cT (.build t p)=false:=bl
def Tp(ops:Array Oper)(i j:Nat):Bool:=match ops[j]? with
 |some o=> !(CV o.op&& !eI ops i j)
 |none=>true
def js:oR (P:=P) ops i σ []:=trivial
def jr(h:Tp ops i j=true)(k:oR (P:=P) ops i σ cE):oR (P:=P) ops i σ ((j,ρ,v)::cE):=by
 refine⟨?_,k⟩;unfold Tp at h;split
 ·rename_i o ho;rw[ho]at h;simp only[Bool.not_eq_true']at h;rw[h];simp
 ·trivial
def ahJ{o:Oper}(ho:ops[j]? =some o)(h:cR P o.op ρ σ=some v)(k:oR (P:=P) ops i σ cE):oR (P:=P) ops i σ ((j,ρ,v)::cE):=by
 refine⟨?_,k⟩;rw[ho];simp only[];split
 ·exact h
 ·trivial
def kS{op:Op}(ho:ops[j]? =some ⟨dst,op,ty,pos,af,g⟩)(h:ff P op ρ σ λw=>w=v)(k:oR (P:=P) ops i σ cE):oR (P:=P) ops i σ ((j,ρ,v)::cE):=by obtain⟨w,h1,rfl⟩:=h;exact ahJ ho h1 k
variable {p F0:Prop}
def dG(a:F0)(e:F0->p:=by intro a;repeat(first|exact js|(apply jr;(focus decide+kernel))|(refine kS rfl (aK a) ?_))):p:=e a
variable {F1:Prop}
def iP(a:F0)(b:F1)(e:F0->F1->p:=by intro a b;repeat(first|exact js|(apply jr;(focus decide+kernel))|(refine kS rfl (wG a b) ?_))):p:=e a b
variable {F2:Prop}
def dA(a:F0)(b:F1)(c:F2)(e:F0->F1->F2->p:=by intro a b c;repeat(first|exact js|(apply jr;(focus decide+kernel))|(refine kS rfl (nC a b c) ?_))):p:=e a b c
def kg4{F3:Prop}(a:F0)(b:F1)(c:F2)(d:F3)(e:F0->F1->F2->F3->p:=by intro a b c d;repeat(first|exact js|(apply jr;(focus decide+kernel))|(refine kS rfl (iB a b c d) ?_))):p:=e a b c d
attribute [go_sem] aag aae amL aah aaf W4 W3 amQ amF amS amO amR amJ amG amV amH amP amK amI amN amU ag1
 agY agA ag0 agR agZ agK agB ag3 agH agX agL agJ agN agM agQ aiu ait agF agz ag2 agy agC agD agE
variable {A:Prop}
def fO{B:Prop}(b:B)(a:A:=by(repeat(first|exact js|(apply jr;(focus decide+kernel))))):A/\B:=⟨a,b⟩
def KU{B:Prop}(f:F0)(b:B)(a:F0->A:=by intro f;(repeat(first|exact js|(apply jr;(focus decide+kernel))|(refine kS rfl (by simp only[go_sem,seval,f]) ?_)))):A/\B:=⟨a f,b⟩
def Sg{B:Prop}(f:F0)(g:F1)(b:B)(a:F0->F1->A:=by intro f g;(repeat(first|exact js|(apply jr;(focus decide+kernel))|(refine kS rfl (by simp only[go_sem,seval,f,g]) ?_)))):A/\B:=⟨a f g,b⟩
def kp3{B:Prop}(f:F0)(g:F1)(h:F2)(b:B)(a:F0->F1->F2->A:=by intro f g h;(repeat(first|exact js|(apply jr;(focus decide+kernel))|(refine kS rfl (by simp only[go_sem,seval,f,g,h]) ?_)))):A/\B:=⟨a f g h,b⟩
def agT{r:Option Operand}:cT (.makeMap t r)=false:=bl
attribute [go_sem] agT
def gY(ops:Array Oper)(v u:Nat):Array Oper:=ops.modify v λo=>{o with after:=o.after.push {on:=u,ground:=.data}}
variable {u v:Nat}
def VO:(gY ops v u).size=ops.size:=by simp[gY]
def Ig:(gY ops v u)[i]? =(ops[i]?).map λo=>if i=v then{o with after:=o.after.push {on:=u,ground:=.data}}else o:=by
 unfold gY;rw[Array.getElem?_modify];by_cases h:v=i
 ·subst h;cases ops[v]? <;>simp
 ·have:¬i=v:=λe=>h e.symm
  cases ops[i]? <;>simp[h,this]
def wc{listed:Array Bool}:i∈Region.ready .any (gY ops v u) listed↔i∈Region.ready .any ops listed/\(i=v->listed.getD u false=true):=by
 rw[mem_ready,mem_ready,Ig];constructor
 ·rintro⟨h0,o,ho,hd⟩;obtain⟨o',tN,rfl⟩:=Option.map_eq_some_iff.1 ho;by_cases e:i=v
  ·simp only[if_pos e]at hd;refine⟨⟨h0,o',tN,λx hx hb=>hd x (by simp[hx]) hb⟩,λ_=>hd ⟨u,.data⟩ al rfl⟩
  ·simp only[if_neg e]at hd;exact⟨⟨h0,o',tN,hd⟩,λh=>absurd h e⟩
 ·rintro⟨⟨h0,o,ho,hd⟩,hv⟩;refine⟨h0,_,by rw[ho];rfl,λx hx hb=>?_⟩;by_cases e:i=v
  ·simp only[if_pos e,Array.mem_push]at hx;rcases hx with hx|rfl
   ·exact hd x hx hb
   ·exact hv e
  ·simp only[if_neg e]at hx;exact hd x hx hb
def aqr:gK N (gY ops v u) ρ=gK N ops ρ:=by
 funext j
 unfold gK;rw[Ig]
 cases ops[j]? with
 |none=>rfl
 |some o=>by_cases h:j=v<;>simp[h]
variable {K:av->List Deferred->Hp->Prop}
def Ew:lP E N (gY ops v u) Q i K ρ ds σ↔lP E N ops Q i K ρ ds σ:=by
 unfold lP;rw[Ig,aqr]
 cases ops[i]? with
 |none=>exact Iff.rfl
 |some o=>
  by_cases h:i=v
  ·simp only[Option.map_some,if_pos h];exact Iff.rfl
  ·simp only[Option.map_some,if_neg h]
def aoH{o:Oper}(ho:ops[i]? =some o)(hr:cT o.op=true){K':av->List Deferred->Hp->Prop}(h:lP E N ops Q i K ρ ds σ)(h':lP E N ops Q i K' ρ ds σ):
 lP E N ops Q i (λρ ds σ=>K ρ ds σ/\K' ρ ds σ) ρ ds σ:=by
 unfold lP at*;rw[ho]at*;refine⟨h.1,?_⟩;have h2:=h.2;have kK:=h'.2;split
 ·rename_i hw;rw[if_pos hw,if_pos hr]at h2 kK;obtain⟨v,e,k⟩:=h2;obtain⟨v',e',k'⟩:=kK;rw[e]at e';obtain rfl:=Option.some.inj e';exact⟨v,e,k,k'⟩
 ·rename_i hw;rw[if_neg hw]at h2 kK;exact⟨h2,kK⟩
def ND:∀(fuel:Nat) (listed:Array Bool) (ρ:av) (ds:List Deferred) (σ:Hp),listed.getD u false=true->s9 E N (gY ops v u) Q fuel listed ρ ds σ->s9 E N ops Q fuel listed ρ ds σ:=by
 have hr:∀(listed:Array Bool),listed.getD u false=true->∀i,i∈Region.ready .any ops listed->i∈Region.ready .any (gY ops v u) listed:=λlisted hv i hi=>wc.2 ⟨hi,λ_=>hv⟩
 have gu:∀(listed:Array Bool),Region.ready .any ops listed=[]->Region.ready .any (gY ops v u) listed=[]:=by
  intro listed h
  cases e:Region.ready .any (gY ops v u) listed with
  |nil=>rfl
  |cons i t=>
   have:i∈Region.ready .any (gY ops v u) listed:=by rw[e];simp
   have:=(wc.1 this).1;rw[h]at this;cases this
 have RB:∀(listed:Array Bool) (i:Nat),listed.getD u false=true->(listed.setIfInBounds i true).getD u false=true:=by
  intro listed i h;simp only[Array.getD_eq_getD_getElem?]at*;rw[Array.getElem?_setIfInBounds];by_cases e:i=u
  ·subst e;by_cases hb:i<listed.size
   ·simp[hb]
   ·rw[Array.getElem?_eq_none aa]at h;cases h
  ·simp only[if_neg e];exact h
 intro fuel
 induction fuel with
 |zero=>
  intro listed ρ ds σ hv h;refine⟨?_,h.2⟩
  cases e:Region.ready .any ops listed with
  |nil=>rfl
  |cons i t=>
   have:i∈Region.ready .any ops listed:=by rw[e];simp
   have:=hr listed hv i this;rw[h.1]at this;cases this
 |succ fuel ih=>
  intro listed ρ ds σ hv h;refine⟨λh0=>h.1 (gu listed h0),λi hi=>?_⟩;exact Ey (λρ ds σ=>ih _ ρ ds σ (RB listed i hv)) (Ew.1 (h.2 i (hr listed hv i hi)))
def aps(KC:u≠v)(hu:u<ops.size)(hv:v<ops.size)(adY:∀i,i<ops.size->oe ops i=true\/i=u\/i=v\/eI ops i u=true):
 ∀(fuel:Nat) (listed:Array Bool) (ρ:av) (ds:List Deferred) (σ:Hp),listed.size=ops.size->(∀a b,listed.getD a false=true->eI ops a b=true->listed.getD b false=true)->listed.getD u true=false->listed.getD v true=false->
  s9 E N (gY ops v u) Q fuel listed ρ ds σ->s9 E N (gY ops u v) Q fuel listed ρ ds σ->s9 E N ops Q fuel listed ρ ds σ:=by
 have hgd:∀(listed:Array Bool) (i:Nat),i<listed.size->listed.getD i true=listed.getD i false:=by intro listed i h;simp[Array.getD_eq_getD_getElem?,Array.getElem?_eq_getElem h]
 intro fuel
 induction fuel with
 |zero=>
  intro listed ρ ds σ gE FQ yT Rm h1 h2;refine⟨?_,h1.2⟩
  cases e:Region.ready .any ops listed with
  |nil=>rfl
  |cons i t=>
   exfalso;have hm:i∈Region.ready .any ops listed:=by rw[e];simp
   by_cases hi:i=v
   ·have:i∈Region.ready .any (gY ops u v) listed:=wc.2 ⟨hm,λe=>absurd (e.symm.trans hi) KC⟩;rw[h2.1]at this;cases this
   ·have:i∈Region.ready .any (gY ops v u) listed:=wc.2 ⟨hm,λe=>absurd e hi⟩;rw[h1.1]at this;cases this
 |succ fuel ih=>
  intro listed ρ ds σ gE FQ yT Rm h1 h2;refine⟨λh0=>h1.1 ?_,λi hi=>?_⟩
  ·cases e:Region.ready .any (gY ops v u) listed with
   |nil=>rfl
   |cons i t=>
    have:i∈Region.ready .any (gY ops v u) listed:=by rw[e];simp
    have:=(wc.1 this).1;rw[h0]at this;cases this
  ·have RB:∀k,k<listed.size->(listed.setIfInBounds k true).getD k true=true:=by intro k hk;simp[Array.getD_eq_getD_getElem?,hk]
   by_cases F9:i=v
   ·subst F9;have hm:i∈Region.ready .any (gY ops u i) listed:=wc.2 ⟨hi,λe=>absurd e.symm KC⟩;have:=Ew.1 (h2.2 i hm);refine Ey (λρ ds σ hk=>?_) this;refine ND _ _ _ _ _ ?_ hk;simp[Array.getD_eq_getD_getElem?,gE,hv]
   ·by_cases F8:i=u
    ·subst F8;have hm:i∈Region.ready .any (gY ops v i) listed:=wc.2 ⟨hi,λe=>absurd e KC⟩;have:=Ew.1 (h1.2 i hm);refine Ey (λρ ds σ hk=>?_) this;refine ND _ _ _ _ _ ?_ hk;simp[Array.getD_eq_getD_getElem?,gE,hu]
    ·have m1:i∈Region.ready .any (gY ops v u) listed:=wc.2 ⟨hi,λe=>absurd e F9⟩;have m2:i∈Region.ready .any (gY ops u v) listed:=wc.2 ⟨hi,λe=>absurd e F8⟩;have s1:=Ew.1 (h1.2 i m1);have s2:=Ew.1 (h2.2 i m2);obtain⟨lD,o,ho,JQ⟩:=mem_ready.1 hi;have tH:i<ops.size:=(Array.getElem?_eq_some_iff.1 ho).1;have tF:∀j,eI ops i j=true->listed.getD j false=true:=λj hj=>TW FQ ho JQ hj
     have gv:cT o.op=true:=by
      rcases adY i tH with h|h|h|h
      ·unfold oe at h;rw[ho]at h;exact h
      ·exact absurd h F8
      ·exact absurd h F9
      ·have:=tF u h;rw[<-hgd listed u aa,yT]at this;cases this
     have nT:∀(d:Bool) k,k≠i->(listed.setIfInBounds i true).getD k d=listed.getD k d:=by intro d k hk;simp[Array.getD_eq_getD_getElem?,Array.getElem?_setIfInBounds_ne (Ne.symm hk)]
     have nU:(listed.setIfInBounds i true).getD i false=true:=by simp[Array.getD_eq_getD_getElem?,gE,tH]
     refine Ey (λρ ds σ hk=>ih _ _ _ _ (aZ gE) ?_ ?_ ?_ hk.1 hk.2) (aoH ho gv s1 s2)
     ·intro a b ha di;by_cases e:b=i
      ·subst e;exact nU
      ·rw[nT false b e];by_cases e':a=i
       ·subst e';exact tF b di
       ·rw[nT false a e']at ha;exact FQ a b ha di
     ·rw[nT true u (Ne.symm F8)];exact yT
     ·rw[nT true v (Ne.symm F9)];exact Rm
def O6(hc:rX ops l=true)(tO:∀ch ρ ds σ,pn ch ds σ->Q (.panic ch) ρ ds σ)(h:fP E N ops Q pn l [] ρ ds σ):
 s9 E N ops Q ops.size (Array.replicate ops.size false) ρ ds σ:=by
 have G:=P0 hc;have e0:sl ops ρ (λ_=>none)=ρ:=by funext t;exact uJ (λ_ _=>rfl)
 have lD:∀i,(Array.replicate ops.size false).getD i false=false:=λi=>by rw[Array.getD_eq_getD_getElem?,Array.getElem?_replicate];split<;>rfl
 have I:uS E N ops Q pn ρ l (Array.replicate ops.size false) [] l [] (λ_=>none) ds σ:=by refine⟨al,rfl,λi hi=>(by rw[lD]at hi;cases hi),λi hi=>(by cases hi),λ_ _=>rfl,λi hi=>(by cases hi),λi j hi=>(by rw[lD]at hi;cases hi),λr hr=>(by cases hr),(by rw[e0];exact h)⟩
 obtain⟨G5,zw,uv,kZ,I',_,hh⟩:=advance G _ _ _ _ I;have:=NF G tO ops.size _ _ _ _ _ _ _ (by unfold BH;exact Nat.le_trans List.countP_le_length al) I' hh
 have e1:sl ops ρ (λi=>if(Array.replicate ops.size false).getD i false=true then kZ i else none)=ρ:=by funext t;exact uJ (λi _=>by rw[lD];rfl)
 rw[e1]at this;exact this
def MT{id:Nat}(u v:Nat)(l1 l2:List Nat)(pn:List PanicEntry->List Deferred->Hp->Prop)(hm:P.follows .mixedOrders=true)(hc:(rX (gY ops v u) l1&&rX (gY ops u v) l2&&(u !=v)&&decide (u<ops.size)&&decide (v<ops.size)&&(List.range ops.size).all λi=>oe ops i||i==u||i==v||eI ops i u)=true)(tO:∀ch ρ ds σ,pn ch ds σ->Q (.panic ch) ρ ds σ)(h1:fP E N (gY ops v u) Q pn l1 [] ρ ds σ)(h2:fP E N (gY ops u v) Q pn l2 [] ρ ds σ):cK E N (.region id ops true) Q ρ ds σ:=by
 intro t;simp only[Bool.and_eq_true,List.all_eq_true,List.mem_range,Bool.or_eq_true,bne_iff_ne,ne_eq,decide_eq_true_eq,beq_iff_eq]at hc;obtain⟨⟨⟨⟨⟨c1,c2⟩,c3⟩,c4⟩,c5⟩,c6⟩:=hc
 have lD:∀(n i:Nat),(Array.replicate n false).getD i false=false:=λn i=>by rw[Array.getD_eq_getD_getElem?,Array.getElem?_replicate];split<;>rfl
 have a1:=O6 (E:=E) (N:=N) c1 tO h1;have a2:=O6 (E:=E) (N:=N) c2 tO h2;rw[VO]at a1 a2;have:=aps c3 c4 c5 (λi hi=>by rcases c6 i hi with((h|h)|h)|h<;>simp[h]) ops.size (Array.replicate ops.size false) ρ ds σ al (λa b ha=>by rw[lD]at ha;cases ha) (by simp[Array.getD_eq_getD_getElem?,c4]) (by simp[Array.getD_eq_getD_getElem?,c5]) a1 a2;simp only[Region.schedule,hm,Bool.true_or,if_true];exact U7 _ t _ _ _ _ this
end Go.Qw
