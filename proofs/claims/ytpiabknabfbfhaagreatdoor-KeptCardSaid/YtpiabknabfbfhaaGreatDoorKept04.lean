/- 4 -/
import Derived.Lib.UnsafeStr
import Derived.Conc.TokenFlight
import Derived.Conc.TokenWalk
import Derived.Test.YtpiabknabfbfhaaGreatDoorKept03
set_option linter.all false
set_option maxRecDepth 100000
set_option maxHeartbeats 8000000
namespace Go.Qw
open Go Go.Proofs.Tryz
section
open Go.Proofs
def fp(w:Nat)(s:List UInt8):Option (Nat×List UInt8):=if w<=s.length then some (num (s.take w),s.drop w)else none
def yn(n:Nat)(s:List UInt8):Option (List UInt8×List UInt8):=if n<=s.length then some (s.take n,s.drop n)else none
def jE(s:List UInt8):Option (List UInt8×List UInt8):=(fp 1 s).bind λr=>yn r.1 r.2
def ym(s:List UInt8):Option (Bool×List UInt8):=(fp 1 s).bind λr=>if r.1<=1 then some (decide (r.1=1),r.2)else none
def rD{α:Type}(U:Hp)(b off:Nat)(c:List Value)(e:TypeId)(f:α->Value)(r:Option (α×List UInt8))(e':Fin)(ae:Hp):Prop:=
 match r with
 |some (v,rest)=>e'=.returned (f v)/\ae=U.set b (.cells (c.set off (.string (B rest))).toArray e)
 |none=>e'=.panicked lX/\∃l,ae=U.set b (.cells (c.set off (.string (B l))).toArray e)
variable {P:Program}{E:Env P}{I:av}{ds:List Deferred}{U:Hp}{dst:Option Tmp}{nx:av->List Deferred->Hp->Prop}{pn:List PanicEntry->Hp->Prop}{f:FuncId}{args:Array Value}{J:Hp}
def Ph{ch:List PanicEntry}(hg:cz P f=true)(h:aw E f args U λe ae=>e=.panicked ch/\ae=J)(k:pn ch J):kx E f args U dst I ds nx pn:=
 FV hg (h.mono λe ae ⟨h1,h2⟩=>by subst h1;subst h2;exact k)
variable {b off:Nat}{c:List Value}{e:TypeId}
def Cy{α:Type}{fv:α->Value}{r:Option (α×List UInt8)}(hg:cz P f=true)(h:aw E f args U (rD U b off c e fv r))(k:∀v rest,r=some (v,rest)->nx (aC I dst (fv v)) ds (U.set b (.cells (c.set off (.string (B rest))).toArray e)))(kp:r=none->∀l,pn lX (U.set b (.cells (c.set off (.string (B l))).toArray e))):kx E f args U dst I ds nx pn:=by
 refine FV hg (h.mono λe' ae hr=>?_)
 cases r with
 |none=>obtain⟨rfl,l,rfl⟩:=hr;exact kp rfl l
 |some p=>obtain⟨v,rest⟩:=p;obtain⟨rfl,rfl⟩:=hr;exact k v rest rfl
variable {v:Value}
def Pu(hb:U.f b=some (.cells c.toArray e (0,0)))(ho:c[off]? =some v):U.set b (.cells (c.set off v).toArray e)=U:=by
 have:c.set off v=c:=by
  apply List.ext_getElem?;intro i;by_cases h:off=i
  ·subst h;rw[List.getElem?_set_self (List.getElem?_eq_some_iff.1 ho).1,ho]
  ·rw[List.getElem?_set_ne h]
 rw[this];exact Hp.HZ hb
variable {E:Env prog}{s:List UInt8}{w:Nat}
def ali(hb:U.f b=some (.cells c.toArray e (0,0)))(ho:c[off]? =some (.string (B s)))(hn:s.length<w):
 aw E 147 #[.pointer (some ⟨b,off,none⟩),.int .i64 w] U λe' ae=>e'=.panicked lX/\ae=U:=by
 refine aV func147 ntmps147 results147 λQ aD an aB=>?_;refine ag ?_;refine Ph QJ (Vu hb ho aa) ?_;exact aB _ _ _ _ ao ⟨rfl,rfl⟩
def oG(hb:U.f b=some (.cells c.toArray e (0,0)))(ho:c[off]? =some (.string (B s)))(hw:w<=7):
 aw E 147 #[.pointer (some ⟨b,off,none⟩),.int .i64 w] U (rD U b off c e (λn:Nat=>.int .i64 n) (fp w s)):=by
 by_cases h:w<=s.length
 ·simp only[fp,h,if_true];exact EM hb ho hw h
 ·simp only[fp,h,if_false];exact(ali hb ho aa).mono λe' ae ⟨h1,h2⟩=>⟨h1,s,by rw[h2,Pu hb ho]⟩
variable {n:Nat}
def aqi(hb:U.f b=some (.cells c.toArray e (0,0)))(ho:c[off]? =some (.string (B s))):
 aw E 148 #[.pointer (some ⟨b,off,none⟩),.int .i64 n] U (rD U b off c e (λl=>.string (B l)) (yn n s)):=by
 by_cases h:n<=s.length
 ·simp only[yn,h,if_true];refine(Ng (n:=n) hb ho aa aa).mono λe' ae ⟨h1,h2⟩=>?_;simp only[Int.toNat_natCast]at h1 h2;exact⟨h1,h2⟩
 ·simp only[yn,h,if_false];exact(Vu hb ho aa).mono λe' ae ⟨h1,h2⟩=>⟨h1,s,by rw[h2,Pu hb ho]⟩
def tK(hb:U.f b=some (.cells c.toArray e (0,0)))(ho:c[off]? =some (.string (B s))):
 aw E 228 #[.pointer (some ⟨b,off,none⟩)] U (rD U b off c e (λl=>.string (B l)) (jE s)):=by
 have bd:off<c.length:=(List.getElem?_eq_some_iff.1 ho).1;refine aV func228 ntmps228 results228 λQ aD an aB=>?_;refine ag ?_;refine Cy og (oG hb ho (w:=1) aa) (λn rest hr=>?_) (λhr l=>?_)
 ·refine ag ?_;refine Cy QJ (aqi (n:=n) (s:=rest) (e:=e) (off:=off) (c:=c.set off (.string (B rest))) aX (List.getElem?_set_self bd)) (λv oJ eV=>?_) (λeV l=>?_)
  ·refine ag ?_;refine an aI ao ?_;simp only[rD,jE,hr,Option.bind_some,eV,go_sem,seval,List.set_set]
  ·refine aB _ _ _ _ ao ?_;simp only[rD,jE,hr,Option.bind_some,eV];exact⟨trivial,l,by simp only[Hp.set_set,List.set_set]⟩
 ·refine aB _ _ _ _ ao ?_;simp only[rD,jE,hr,Option.bind_none];exact⟨trivial,l,rfl⟩
def JH(hb:U.f b=some (.cells c.toArray e (0,0)))(ho:c[off]? =some (.string (B s))):
 aw E 289 #[.pointer (some ⟨b,off,none⟩)] U (rD U b off c e (λl=>.bool l) (ym s)):=by
 refine aV func289 ntmps289 results289 λQ aD an aB=>?_;refine ag ?_;refine Cy og (oG hb ho (w:=1) aa) (λn rest hr=>?_) (λhr l=>?_)
 ·rcases Nat.lt_or_ge 1 n with h|h
  ·have h1:(1:Int)<n:=aa;have h2:¬n<=1:=aa;refine aJ h1 ?_;refine aB _ _ _ _ ao ?_;simp only[rD,ym,hr,Option.bind_some,h2,if_false];exact⟨rfl,rest,rfl⟩
  ·have h1:¬(1:Int)<n:=aa;refine aJ h1 ?_;refine an aI ao ?_;simp only[rD,ym,hr,Option.bind_some,h,go_sem,seval];have:((n:Int)=1)=(n=1):=by apply propext;omega
   simp only[this]
 ·refine aB _ _ _ _ ao ?_;simp only[rD,ym,hr,Option.bind_none];exact⟨trivial,l,rfl⟩
variable {z:Nat×Nat}
def P6(hb:U.f b=some (.cells c.toArray e z))(ho:c[off]? =some (.string (B []))):
 aw E 229 #[.pointer (some ⟨b,off,none⟩)] U λe' ae=>e'=.returned (.tuple #[])/\ae=U:=by
 refine aV func229 ntmps229 results229 λQ aD an aB=>?_;refine bu hb ho ?_;exact aD dz ao ⟨rfl,rfl⟩
def abS(hb:U.f b=some (.cells c.toArray e z))(ho:c[off]? =some (.string (B s)))(hs:s≠[]):
 aw E 229 #[.pointer (some ⟨b,off,none⟩)] U λe' ae=>e'=.panicked lX/\ae=U:=by
 refine aV func229 ntmps229 results229 λQ aD an aB=>?_;refine bN hb ho hs ?_;exact aB _ _ _ _ ao ⟨rfl,rfl⟩
variable {c:Array Value}{H:Halt->Hp->Prop}
def UW(hb:U.f b=some (.cells c e z)){Q:Addr->Hp->Prop}(h:Q ⟨b,off,none⟩ U):wpS P (Conv.seenAt ⟨b,off,none⟩) Q H U:=by
 simp only[Conv.seenAt,viewAt,aG,An];refine⟨by simp[hb],?_⟩;have:U.shape? b=some (e,c.size):=by simp[Hp.shape?,hb]
 rw[this];exact h
variable {E:Env P}{ty:TypeId}{pos:String}{af:Array Edge}{g:Option (Nat×Bool)}{s d t:TypeId}{x:Operand}
def aqo(hs:P.underlying s=some (.pointer t))(hd:P.underlying d=some .unsafePointer)(hx:ak I x=.pointer (some ⟨b,off,none⟩))(hb:U.f b=some (.cells c e z))(ho:off<c.size)(hz:0<cC P t)(h:nx (aC I dst (.pointer (some ⟨b,off,none⟩))) ds U):wpOp E ⟨dst,.convert s d x,ty,pos,af,g⟩ I ds U nx pn:=by
 have hi:∃i,P.info? t=some i/\i.size≠0:=by
  unfold cC at hz;split at hz
  ·rename_i i hi;exact⟨i,hi,aa⟩
  ·cases hz
 obtain⟨i,hi,aE⟩:=hi;unfold wpOp;simp only[execOp,convert,aG,eg,hs,hd,hx,Conv.unsafePointer];refine UW hb ?_;simp only[cellsIn];refine⟨by simp[hb],?_⟩;have:U.shape? b=some (e,c.size):=by simp[Hp.shape?,hb]
 rw[this];simp only[bt,sizeOf,aG,gu,hi];have key:(decide (i.size=0)||(decide (off>=c.size)&&true))=false:=by simp[aE];omega
 show wpS P (if(decide (i.size=0)||(decide (off>=c.size)&&true))=true then _ else _) _ _ _;rw[key];exact h
def acP(hs:P.underlying s=some .unsafePointer)(hd:P.underlying d=some (.pointer t))(hx:ak I x=.pointer (some ⟨b,off,none⟩))(hb:U.f b=some (.cells c e z))(hl:liesAt P P.depth e (c.size/P.cellsOf e) off t 1=true)(hz:0<cC P t)(h:nx (aC I dst (.pointer (some ⟨b,off,none⟩))) ds U):wpOp E ⟨dst,.convert s d x,ty,pos,af,g⟩ I ds U nx pn:=by
 have hi:∃i,P.info? t=some i/\i.size≠0:=by
  unfold cC at hz;split at hz
  ·rename_i i hi;exact⟨i,hi,aa⟩
  ·cases hz
 obtain⟨i,hi,aE⟩:=hi;unfold wpOp;simp only[execOp,convert,aG,eg,hs,hd,hx,Conv.unsafePointer];refine UW hb ?_;simp only[sizeOf,aG,gu,hi,bt];simp only[variablesAt,aG,Am,An];have:U.shape? b=some (e,c.size):=by simp[Hp.shape?,hb]
 have hf:(U.f b).isSome=true:=by simp[hb]
 refine⟨hf,?_⟩;rw[this];have qg:(decide (i.size=0)||true)=true:=al;show wpS P (if(decide (i.size=0)||liesAt P P.depth e (c.size/P.cellsOf e) off t 1)=true then _ else _) _ _ _;rw[hl,qg];exact h
variable {u el:TypeId}
def amE{y:Operand}{a:Addr}(ht:P.underlying t=some (.pointer el))(hz:0<cC P el)(hx:ak I x=.pointer (some a))(hy:ak I y=.pointer (some a))(h:nx (aC I dst (.bool false)) ds U):wpOp E ⟨dst,.binOp .neq t x y u,ty,pos,af,g⟩ I ds U nx pn:=by
 have hi:∃i,P.info? el=some i/\i.size≠0:=by
  unfold cC at hz;split at hz
  ·rename_i i hi;exact⟨i,hi,aa⟩
  ·cases hz
 obtain⟨i,hi,aE⟩:=hi;unfold wpOp;simp only[execOp,aG,hx,hy];refine y0 ?_ ⟨al,al⟩;unfold binOp;simp only[aG,bt];refine CP λn=>?_;unfold Op.equalIn;simp only[aG,eg,ht,sizeOf,gu,hi,bt];simp only[aE,ne_eq,not_false_eq_true,if_true,sameAddr,beq_self_eq_true];exact h
def fV{fn:Func}{ex:Array Value->Sem Value}(hf:P.funcs[f]? =some fn)(hb:fn.body.isNone=true)(hn:(fn.name== "runtime.NumGoroutine")=false)(h1:Extern.findNext fn=none)(h2:Extern.find fn=some ex)(h:wpS P (ex args) (λv ae=>nx (aC I dst v) ds ae) (sG λv ae=>pn [{v,recovered:=false}] ae) U):kx E f args U dst I ds nx pn:=by
 unfold kx callFunc;simp only[aG,Am,hf,hn,hb,if_true,Bool.false_eq_true,if_false,Nz,h1,h2];exact⟨rfl,h⟩
def PN{a:Option Addr}:mA P s d (.pointer a)=none:=by unfold mA;cases P.underlying s<;>cases P.underlying d<;>first|rfl|(rename_i x;cases x<;>rfl)|(rename_i x y;cases y<;>rfl)
def ak6:Extern.findNext f153=none:=ah
def ak4:Extern.find f153=some Extern.AbiNoEscape.same:=ah
def ak5:(f153.name== "runtime.NumGoroutine")=false:=ah
def ajD:liesAt prog prog.depth 155 (2/prog.cellsOf 155) 0 153 1=true:=ah
def VG:prog.underlying 137=some .unsafePointer:=ah
def Np:prog.underlying 151=some (.pointer 153):=ah
def Nb:0<cC prog 153:=by have:cC prog 153=2:=ah;omega
variable {E:Env prog}
def aa8(hb:U.f b=some (.cells #[.pointer none,v] 155 (0,0))):
 aw E 117 #[pV b] U λe' ae=>e'=.returned (.tuple #[])/\ae=U.set b (.cells #[pV b,v] 155 (0,0)):=by
 refine aV func117 ntmps117 results117 λQ aD an aB=>?_;simp only[go_sem,seval,hb,PN];refine aqo (off:=0) Np VG au hb al Nb ?_;refine ag ?_;refine fV func153 rfl ak5 ak6 ak4 ?_;show jm E 20 _ _ _ (aC _ (some 10) (pV b)) [] U;simp only[go_sem,seval,PN];refine acP (off:=0) VG Np au hb ajD Nb ?_;refine aJ hb ?_;exact aD dz ao ⟨rfl,rfl⟩
def PK(hb:U.f b=some (.cells #[pV b,v] 155 (0,0))):
 aw E 117 #[pV b] U λe' ae=>e'=.returned (.tuple #[])/\ae=U:=by
 refine aV func117 ntmps117 results117 λQ aD an aB=>?_;refine aJ hb ?_;refine amE (a:=⟨b,0,none⟩) Np Nb au au ?_;refine ag ?_;exact aD dz ao ⟨rfl,rfl⟩
def vM:oO prog 67 where
 e:=5
 z:=1
 zero:=#[.int .u8 0]
 bytes:=1
 hu:=underlying67
 hi:=⟨t5,.int .u8 0,ah,ah,ah,rfl,ah⟩
inductive iE (J:Hp) (b:Nat) (l:List UInt8) (U:Hp):Prop
 |new (h:l=[]) (hs:U=J.set b (.cells #[.pointer none,.slice none 0 0] 155 (0,0)))
 |old (h:l=[]) (hs:U=J.set b (.cells #[pV b,.slice none 0 0] 155 (0,0)))
 |buf (bb cap:Nat) (rest:List Value) (hn:J.f bb=none) (aE:bb≠b) (hc:l.length<=cap) (hr:cap<=l.length+rest.length)
  (hs:U=(J.set b (.cells #[pV b,.slice (some ⟨bb,0,none⟩) l.length cap] 155 (0,0))).set bb (.cells (dF l++rest).toArray 5 (0,0)))
def Pc(a b:List UInt8):dF (a++b)=dF a++dF b:=by simp[dF]
def vD(a:List UInt8):(dF a).length=a.length:=by simp[dF]
def ZD(a:List UInt8):(dF a).all dn=true:=by simp[dF,dn]
def Hp.set_comm{a:Nat}{x y:Obj}(h:a≠b):(U.set a x).set b y=(U.set b y).set a x:=
 Hp.ext' λz=>by
  simp only[Hp.set];by_cases h1:z=b
  ·subst h1;simp[Ne.symm h]
  ·simp[h1]
def Fs(z:Value)(n:Nat):Builtin.zeroCells #[z] n=(List.replicate n z).toArray:=by
 apply Array.ext';simp only[Builtin.zeroCells,Array.toList_map,Array.toList_range];apply List.ext_getElem?;intro i;simp only[List.getElem?_map,List.getElem?_replicate];by_cases h:i<n
 ·rw[List.getElem?_eq_getElem (aY h)];simp[h,Nat.mod_one]
 ·rw[List.getElem?_eq_none (aY h)];simp[h]
variable {l s:List UInt8}
def O6{y:Operand}{sl:Value}(hb:J.f b=none)(hu:BO prog u=true)(hB:iE J b l U)(hs:U.f b=some (.cells #[pV b,sl] 155 (0,0)))(hx:ak I x=sl)(hn:tB (ak I y)=some s.length)(hf:jd U 1 s.length (ak I y)=some (dF s).toArray)(gn:l.length+s.length<=1000000000000)(h:∀v' ae IB,dn v'=true->ae.f b=some (.cells #[pV b,sl] 155 (0,0))->IB.le (ae.set b (.cells #[pV b,v'] 155 (0,0)))->iE J b (l++s) IB->nx (aC I dst v') ds ae):
 aT E ⟨dst,.call ⟨.builtin .append,#[x,y],#[67,u]⟩,ty,pos,af,g⟩ I ds U nx pn:=by
 have kR:vM.z=1:=rfl;have CL:vM.bytes=1:=rfl
 cases hB with
 |new hl kI=>
  subst kI;rw[Hp.bD]at hs;simp at hs
 |old hl kI=>
  subst hl;subst kI;rw[Hp.bD]at hs;simp at hs;subst hs;refine sM vM (base:=none) (l:=0) (c:=0) (n:=s.length) (old:=#[]) (new:=(dF s).toArray) hu hx hn rfl (by rw[kR];exact hf) (by rw[CL];simp at gn;omega) (by simp at gn;omega) ?_ ?_
  ·intro hc;have:s=[]:=List.eq_nil_of_length_eq_zero aa;subst this;refine⟨_,rfl,?_⟩;refine h _ _ _ rfl aX ao (.old rfl ?_);simp only[Hp.set_set,List.length_nil,Nat.zero_add]
  ·intro hc bb cap fC jZ;have aE:bb≠b:=by intro e;subst e;rw[Hp.bD]at fC;cases fC
   have Dk:J.f bb=none:=by rw[Hp.aM _ aE]at fC;exact fC
   refine h _ _ _ rfl ?_ ao (.buf bb cap (List.replicate (cap-s.length) (.int .u8 0)) Dk aE (aY jZ) (by simp;omega) ?_)
   ·rw[Hp.aM _ (λe=>aE e.symm),Hp.bD]
   ·have ez:vM.zero= #[.int .u8 0]:=rfl;rw[ez,Fs,Hp.set_comm aE,Hp.set_set]
    have e1: #[]++(dF s).toArray++(List.replicate (cap-(0+s.length)) (Value.int .u8 0)).toArray=(dF s++List.replicate (cap-s.length) (Value.int .u8 0)).toArray:=by apply Array.ext';simp
    rw[e1];simp only[Nat.zero_add,List.nil_append];rfl
 |buf bb cap rest Dk aE hc hr kI=>
  subst kI;rw[Hp.aM _ (λe=>aE e.symm),Hp.bD]at hs;simp at hs;subst hs;have kE:((J.set b (.cells #[pV b,.slice (some ⟨bb,0,none⟩) l.length cap] 155 (0,0))).set bb (.cells (dF l++rest).toArray 5 (0,0))).f bb=some (.cells (dF l++rest).toArray 5 (0,0)):=aX
  have hold:jd ((J.set b (.cells #[pV b,.slice (some ⟨bb,0,none⟩) l.length cap] 155 (0,0))).set bb (.cells (dF l++rest).toArray 5 (0,0))) vM.z l.length (.slice (some ⟨bb,0,none⟩) l.length cap)=some (dF l).toArray:=by rw[kR];simp only[jd,cellsOf,kE];rw[if_pos ⟨trivial,by simp[vD]⟩];congr 1;apply Array.ext';simp[List.extract_eq_take_drop,vD]
  refine sM vM (base:=some ⟨bb,0,none⟩) (l:=l.length) (c:=cap) (n:=s.length) (old:=(dF l).toArray) (new:=(dF s).toArray) hu hx hn hold (by rw[kR];exact hf) (by rw[CL];omega) aa ?_ ?_
  ·intro xJ;refine⟨_,⟨_,_,kE,rfl,?_,?_,rfl⟩,?_⟩
   ·rw[kR];simp[vD];omega
   ·have:=ZD s;simpa using this
   ·refine h _ _ _ rfl ?_ ao (.buf bb cap (rest.drop s.length) Dk aE (aY xJ) (by simp;omega) ?_)
    ·rw[Hp.aM _ (λe=>aE e.symm),Hp.aM _ (λe=>aE e.symm),Hp.bD]
    ·rw[Hp.set_set,Hp.set_comm aE,Hp.set_set]
     have e1:(dF l++rest).toArray.extract 0 (0+l.length*vM.z)++(dF s).toArray++(dF l++rest).toArray.extract (0+l.length*vM.z+(dF s).toArray.size) (dF l++rest).toArray.size=(dF (l++s)++rest.drop s.length).toArray:=by rw[kR];apply Array.ext';simp only[Array.toList_append,Array.toList_extract,List.extract_eq_take_drop,List.size_toArray,Nat.zero_add,Nat.mul_one,Nat.sub_zero,List.drop_zero,Pc,vD,List.append_assoc];rw[List.take_append_of_le_length (by rw[vD];omega),List.take_of_length_le (by rw[vD];omega)];congr 2;rw[List.drop_append,vD,List.drop_eq_nil_of_le (by rw[vD];omega)];simp[vD];rw[List.take_of_length_le (by simp;omega)]
     rw[e1];simp only[List.length_append]
  ·intro fP b2 rF dA aeX;have xO:b2≠bb:=by intro e;subst e;rw[Hp.bD]at dA;cases dA
   have GS:b2≠b:=by intro e;subst e;rw[Hp.aM _ (λe=>aE e.symm),Hp.bD]at dA;cases dA
   have ht2:J.f b2=none:=by rw[Hp.aM _ xO,Hp.aM _ GS]at dA;exact dA
   refine h _ _ ((J.set b (.cells #[pV b,.slice (some ⟨b2,0,none⟩) (l++s).length rF] 155 (0,0))).set b2 (.cells (dF (l++s)++List.replicate (rF-(l.length+s.length)) (Value.int .u8 0)).toArray 5 (0,0))) rfl ?_ ?_
    (.buf b2 rF _ ht2 GS (aY aeX) (by simp;omega) rfl)
   ·rw[Hp.aM _ (λe=>GS e.symm),Hp.aM _ (λe=>aE e.symm),Hp.bD]
   ·have ez:vM.zero= #[.int .u8 0]:=rfl
    have e1:(dF l).toArray++(dF s).toArray++(List.replicate (rF-(l.length+s.length)) (Value.int .u8 0)).toArray=(dF (l++s)++List.replicate (rF-(l.length+s.length)) (Value.int .u8 0)).toArray:=by apply Array.ext';simp[Pc]
    rw[ez,Fs,e1,Hp.set_comm GS,Hp.set_comm aE,Hp.set_set,List.length_append];rw[Hp.set_comm (λe=>xO e.symm)];exact Hr (by rw[Hp.aM _ (λe=>xO e.symm),Hp.aM _ aE];exact Dk)
def PI(hB:iE J b l U):
 aw E 117 #[pV b] U λe' ae=>e'=.returned (.tuple #[])/\iE J b l ae/\∃sl,ae.f b=some (.cells #[pV b,sl] 155 (0,0)):=by
 cases hB with
 |new hl hs=>
  subst hs;refine(aa8 aX).mono λe' ae ⟨h1,h2⟩=>⟨h1,?_,?_⟩
  ·rw[h2,Hp.set_set];exact .old hl rfl
  ·rw[h2];exact⟨_,aX⟩
 |old hl hs=>
  subst hs;refine(PK aX).mono λe' ae ⟨h1,h2⟩=>⟨h1,?_,?_⟩
  ·rw[h2];exact .old hl rfl
  ·rw[h2];exact⟨_,aX⟩
 |buf bb cap rest hn aE hc hr hs=>
  subst hs
  have hf:((J.set b (.cells #[pV b,.slice (some ⟨bb,0,none⟩) l.length cap] 155 (0,0))).set bb (.cells (dF l++rest).toArray 5 (0,0))).f b=some (.cells #[pV b,.slice (some ⟨bb,0,none⟩) l.length cap] 155 (0,0)):=by rw[Hp.aM _ (λe=>aE e.symm),Hp.bD]
  refine(PK hf).mono λe' ae ⟨h1,h2⟩=>⟨h1,?_,?_⟩
  ·rw[h2];exact .buf bb cap rest hn aE hc hr rfl
  ·rw[h2];exact⟨_,hf⟩
def VW(hb:J.f b=none)(hB:iE J b l U)(gn:l.length+s.length<=1000000000000):
 aw E 66 #[pV b,.string (B s)] U λe' ae=>e'=.returned (.tuple #[.int .i64 s.length,.nilIface])/\iE J b (l++s) ae:=by
 refine aV func66 ntmps66 results66 λQ aD an aB=>?_;refine ag ?_;refine dG QH (PI hB) (λv rB ⟨h1,qO,sl,hs⟩=>?_) (λch ae ⟨h,_⟩=>by cases h);refine aJ hs ?_;refine O6 hb akO qO hs au (s:=s) (by simp only[go_sem,seval,tB]) ?_ gn (λv' ae IB h0 h1 h2 h3=>?_)
 ·simp only[go_sem,seval,jd];rw[NO,Pd];simp
 ·refine bu h1 h0 ?_;refine an ji h2 ⟨?_,h3⟩;exact au
variable {o:Obj}
def iE.frame(h:iE J b l U)(hn:U.f n=none):iE (J.set n o) b l (U.set n o):=by
 cases h with
 |new hl hs=>
  subst hs;have aE:b≠n:=bl hn aX;exact .new hl (Hp.set_comm aE)
 |old hl hs=>
  subst hs;have aE:b≠n:=bl hn aX;exact .old hl (Hp.set_comm aE)
 |buf bb cap rest h1 h2 h3 h4 hs=>
  subst hs;have n2:bb≠n:=bl hn aX;have n1:b≠n:=λe=>by subst e;rw[Hp.aM _ (λe=>h2 e.symm),Hp.bD]at hn;cases hn
  refine .buf bb cap rest (by rw[Hp.aM _ n2];exact h1) h2 h3 h4 ?_;rw[Hp.set_comm n2,Hp.set_comm n1]
def El{bW:Hp}(h:J.le bW)(b:Nat)(o:Obj):(J.set b o).le (bW.set b o):=λx p hx=>by
 by_cases e:x=b
 ·subst e;rw[Hp.bD]at hx|-;exact hx
 ·rw[Hp.aM _ e]at hx|-;exact h x p hx
def kK(hn:J.f n=none):J.le (J.set n o):=λx p hx=>by have:x≠n:=bl hx hn;rw[Hp.aM _ this];exact hx
def iE.forget(h:iE (J.set n o) b l U)(hn:J.f n=none):∃ae,ae.le U/\iE J b l ae:=by
 have hle:=kK (o:=o) hn
 cases h with
 |new hl hs=>subst hs;exact⟨_,El hle _ _,.new hl rfl⟩
 |old hl hs=>subst hs;exact⟨_,El hle _ _,.old hl rfl⟩
 |buf bb cap rest h1 h2 h3 h4 hs=>
  subst hs;have n2:bb≠n:=bl h1 aX;exact⟨_,El (El hle _ _) _ _,.buf bb cap rest (by rw[Hp.aM _ n2]at h1;exact h1) h2 h3 h4 rfl⟩
def iE.none(h:iE J b l U)(hn:U.f n=none):J.f n=none/\n≠b:=by
 cases h with
 |new hl hs=>
  subst hs;have aE:n≠b:=bl hn aX;rw[Hp.aM _ aE]at hn;exact⟨hn,aE⟩
 |old hl hs=>
  subst hs;have aE:n≠b:=bl hn aX;rw[Hp.aM _ aE]at hn;exact⟨hn,aE⟩
 |buf bb cap rest h1 h2 h3 h4 hs=>
  subst hs;have n2:n≠bb:=bl hn aX;rw[Hp.aM _ n2]at hn;have aE:n≠b:=bl hn aX;rw[Hp.aM _ aE]at hn;exact⟨hn,aE⟩
def VV{y:UInt8}(hb:J.f b=none)(hB:iE J b l U)(gn:l.length+1<=1000000000000):
 aw E 67 #[pV b,.int .u8 y.toNat] U λe' ae=>e'=.returned .nilIface/\iE J b (l++[y]) ae:=by
 refine aV func67 ntmps67 results67 λQ aD an aB=>?_;refine ag ?_;refine dG QH (PI hB) (λv rB ⟨h1,qO,sl,hs⟩=>?_) (λch ae ⟨h,_⟩=>by cases h);refine aJ hs ?_;refineλnb v8=>?_;obtain⟨DU,Sa⟩:=qO.none v8;have za:=qO.frame (o:=.cells #[.int .u8 y.toNat] 5 (0,0)) v8;have iK:(rB.set nb (.cells #[.int .u8 y.toNat] 5 (0,0))).f b=some (.cells #[pV b,sl] 155 (0,0)):=by rw[Hp.aM _ (λe=>Sa e.symm)];exact hs
 refine ag ?_
 dsimp only
 refine O6 (J:=J.set nb (.cells #[.int .u8 y.toNat] 5 (0,0))) (l:=l) (s:=[y]) (by rw[Hp.aM _ (λe=>Sa e.symm)];exact hb) ah za iK au au ?_ (aY gn) (λv' ae IB h0 h1 h2 h3=>?_)
 ·refine ag ?_;simp[jd,cellsOf,Hp.set,dF]
 ·obtain⟨IC,g1,g2⟩:=h3.forget DU;refine bu h1 h0 ?_;exact an aI (Hp.le_trans g1 h2) ⟨rfl,g2⟩
variable {x:Array Operand}{a:Array TypeId}
def ah5:cW (.call ⟨.builtin .unsafeSliceData,x,a⟩)=false:=bp
def ah4:cW (.call ⟨.builtin .unsafeString,x,a⟩)=false:=bp
attribute [go_sem] ah5 ah4
variable {E:Env P}{x:Operand}
def ao9{cA:Array TypeId}{a:Addr}{c:Nat}(hx:ak I x=.slice (some a) n c)(hc:c≠0)(h:nx (aC I dst (.pointer (some a))) ds U):aT E ⟨dst,.call ⟨.builtin .unsafeSliceData,#[x],cA⟩,ty,pos,af,g⟩ I ds U nx pn:=by
 show wpOp E _ I ds U nx pn;unfold wpOp;simp only[execOp,resolve,aG,bt,invoke];show wpS P (do pure (Next.value (<-Builtin.unsafeSliceData_ cA ty (#[x].map (ak I)))):Sem Next) _ _ _;rw[lU];have e1: #[x].map (ak I)= #[.slice (some a) n c]:=by simp[hx]
 rw[e1];obtain⟨k,rfl⟩:∃k,c=k+1:=⟨c-1,aa⟩;exact h
def ajH{Q:ByteArray->Hp->Prop}:∀(l:List UInt8) (off:Nat) (acc:ByteArray),(∀j x,l[j]? =some x->U.cell? ⟨b,off+j,none⟩=some (.int .u8 x.toNat))->Q ⟨acc.data++l.toArray⟩ U->wpS P (loadBytes ⟨b,off,none⟩ acc l.length) Q H U:=by
 intro l
 induction l with
 |nil=>
  intro off acc _ h;have:(⟨acc.data++([]:List UInt8).toArray⟩:ByteArray)=acc:=al;rw[this]at h;exact h
 |cons x l ih=>
  intro off acc hl h;have h0:=hl 0 x rfl;simp only[List.length_cons,loadBytes,aG];refine⟨_,h0,?_⟩;have ha:(⟨b,off,none⟩:Addr).add 1=⟨b,off+1,none⟩:=by unfold Addr.add;simp
  simp only[ha];refine ih (off+1) _ (λj y hy=>?_) ?_
  ·have:=hl (j+1) y (aY hy);rw[show off+1+j=off+(j+1)by omega];exact this
  ·have e:(acc.push ((x.toNat:Int).toNat).toUInt8).data++l.toArray=acc.data++(x::l).toArray:=by have hx:((x.toNat:Int).toNat).toUInt8=x:=al;rw[hx];simp[ByteArray.push]
   rw[e];exact h
def apO{y:Operand}{pt it:TypeId}{bb:Nat}{rest:List Value}(hpt:P.underlying pt=some (.pointer el))(GC:P.cellsOf el=1)(hx:ak I x=pV bb)(hy:ak I y=.int .i64 l.length)(hl:l≠[])(gn:l.length<=1000000000000)(hb:U.f bb=some (.cells (dF l++rest).toArray el (0,0)))(h:∀ae,(∀b,b≠bb->ae.f b=U.f b)->nx (aC I dst (.string (B l))) ds ae):aT E ⟨dst,.call ⟨.builtin .unsafeString,#[x,y],#[pt,it]⟩,ty,pos,af,g⟩ I ds U nx pn:=by
 show wpOp E _ I ds U nx pn;unfold wpOp
 have Bp:(l.length:Int)≠0:=by have:l.length≠0:=λe=>hl (List.eq_nil_of_length_eq_zero e);omega
 simp only[execOp,resolve,aG,bt,invoke];show wpS P (do pure (Next.value (<-Builtin.unsafeString_ #[pt,it] ty (#[x,y].map (ak I)))):Sem Next) _ _ _;rw[lU];have e1: #[x,y].map (ak I)= #[pV bb,.int .i64 l.length]:=by simp[hx,hy]
 rw[e1]
 show wpS P (do
  if(l.length:Int)<0 then runtimePanic (.error "unsafe.String: len out of range")
  if(l.length:Int)>IntKind.i64.max then unsupported (.unsafePointer "String: a length above the largest int")
  if(l.length:Int)=0 then pure (.string .empty)
  else if<-variablesAt ⟨bb,0,none⟩ (<-elemOf pt) (l.length:Int).toNat then do
   let s<-loadBytes ⟨bb,0,none⟩ .empty (l.length:Int).toNat
   freeze ⟨bb,0,none⟩ (l.length:Int).toNat
   pure (.string s)
  else unsupported (.unsafePointer "String: not so many bytes at ptr"):Sem Value) _ _ _
 rw[if_neg aa,if_neg (by rw[show IntKind.i64.max=9223372036854775807 from rfl];omega),if_neg Bp];simp only[aG,bt,elemOf,eg,hpt,variablesAt,Am,An];have xP:U.shape? bb=some (el,(dF l++rest).length):=by simp[Hp.shape?,hb]
 rw[xP];have hlen:(dF l++rest).length=l.length+rest.length:=by simp[dF]
 refine⟨by rw[hb];rfl,?_⟩;show wpS P (if liesAt P P.depth el ((dF l++rest).length/P.cellsOf el) 0 el (l.length:Int).toNat=true then _ else _) _ _ _
 have hla:liesAt P P.depth el ((dF l++rest).length/P.cellsOf el) 0 el (l.length:Int).toNat=true:=by rw[GC,Nat.div_one];exact Go.Lib.liesAt_bytes GC _ _ (by rw[hlen];simp)
 rw[if_pos hla];rw[aG];have Lj:(l.length:Int).toNat=l.length:=al;rw[Lj];refine ajH l 0 .empty (λj x hj=>?_) ?_
 ·have uo:j<l.length:=(List.getElem?_eq_some_iff.1 hj).1
  have h1:(dF l++rest)[j]? =some (.int .u8 x.toNat):=by rw[List.getElem?_append_left (by simpa[dF]using uo)];simp[dF,hj]
  simp[Hp.cell?,hb,h1]
 ·have hB:(⟨ByteArray.empty.data++l.toArray⟩:ByteArray)=B l:=by simp[B]
  rw[hB,aG,VS];refine⟨by simp[hb],h _ λb aE=>?_⟩;unfold Hp.freeze;split
  ·rfl
  ·simp[Hp.modify,aE]
def aqC:∃el,prog.underlying 240=some (.pointer el)/\el=5/\prog.cellsOf el=1:=⟨5,underlying240,rfl,ah⟩
variable {E:Env prog}
def M7(hb:J.f b=none)(hB:iE J b l U)(hl:l≠[])(gn:l.length<=1000000000000):
 aw E 68 #[pV b] U λe' ae=>e'=.returned (.string (B l))/\ae=J:=by
 cases hB with
 |new h _=>exact absurd h hl
 |old h _=>exact absurd h hl
 |buf bb cap rest h1 h2 h3 h4 hs=>
  have hc:cap≠0:=λe=>hl (List.eq_nil_of_length_eq_zero aa);have hf:U.f b=some (.cells #[pV b,.slice (some ⟨bb,0,none⟩) l.length cap] 155 (0,0)):=by rw[hs,Hp.aM _ (λe=>h2 e.symm),Hp.bD]
  have fC:U.f bb=some (.cells (dF l++rest).toArray 5 (0,0)):=by rw[hs,Hp.bD]
  have hle:∀ae:Hp,(∀x,x≠bb->ae.f x=U.f x)->J.le ae:=λae hh x o hx=>by have n1:x≠bb:=bl hx h1;have n2:x≠b:=bl hx hb;rw[hh x n1,hs,Hp.aM _ n1,Hp.aM _ n2];exact hx
  clear hs;refine aV func68 ntmps68 results68 λQ aD an aB=>?_;refine ag ?_;refine yy [0,1,2,3,5,6,7,8,9,4,10,11] (λ_ _ _=>False) ah ah (λ_ _ _ _ h=>h.elim) ?_;refine aJ hf ?_;refine ao9 (a:=⟨bb,0,none⟩) (n:=l.length) (c:=cap) au hc ⟨?_,?_⟩
  ·(repeat(first|exact jM|(apply jL;(focus decide+kernel))))
   refine lK rfl (aQ hf) ?_
   (repeat(first|exact jM|(apply jL;(focus decide+kernel))))
  refine ag ?_;obtain⟨el,u1,rfl,u2⟩:=aqC;refine apO (bb:=bb) (l:=l) (rest:=rest) u1 u2 au au hl gn fC λae hh=>⟨by(repeat(first|exact jM|(apply jL;(focus decide+kernel)))),?_⟩;refine ag ?_;exact an aI (hle ae hh) ⟨au,rfl⟩
def aA(w n:Nat):List UInt8:=(List.range w).map λi=>(n/256^(w-1-i)).toUInt8
def bH(w n:Nat):(aA w n).length=w:=by simp[aA]
def Yj{i:Nat}(h:i<w):(aA w n)[i]? =some (n/256^(w-1-i)).toUInt8:=by simp[aA,h]
def ZC{k:Nat}(hk:k<=7)(hn:n<9223372036854775808):IntKind.wrap .u8 (yu .i64 (n:Int) ((8*k:Nat):Int))=(((n/256^k).toUInt8).toNat:Int):=by
 have e0:IntKind.i64.bits=64:=rfl;unfold yu;rw[e0,Int.toNat_natCast,Nat.min_eq_left aa]
 have e1:(2:Int)^(8*k)=((256^k:Nat):Int):=by rw[show(256:Nat)=2^8 by rfl,<-Nat.pow_mul];simp
 rw[e1,Int.fdiv_eq_ediv_of_nonneg _ (Int.natCast_nonneg _),<-Int.natCast_ediv,IntKind.wrap_u8];have:(n/256^k).toUInt8.toNat=(n/256^k) % 256:=al;rw[this];omega
def BU(hb:J.f b=none)(hB:iE J b l U)(hw:w<=8)(hn:n<9223372036854775808)(gn:l.length+8<=1000000000):
 aw E 116 #[pV b,.int .i64 w,.int .i64 n] U λe' ae=>e'=.returned (pV b)/\iE J b (l++aA w n) ae:=by
 refine aV func116 ntmps116 results116 λQ aD an aB=>?_;refine ag ?_;refine dh (λm I ds U=>ds=[]/\I 0=pV b/\I 2=.int .i64 n/\I 7=.int .i64 ((m:Int)-1)/\∃i,i+m=w/\iE J b (l++(aA w n).take i) U) w ?_ ?_
 ·have c1:IntKind.wrap .i64 ((w:Int)-1)=(w:Int)-1:=wrap64 aa aa;refine aJ c1 ?_;exact⟨0,aa,aY hB⟩
 ·rintro m I ds U X ⟨rfl,h0,h2,h7,i,hi,hB⟩ hX
  cases m with
  |zero=>
   have c1:¬((0:Int)<=((0:Nat):Int)-1):=aa;refine bu h0 h7 ?_;refine an aI ao ⟨au,?_⟩;rw[List.take_of_length_le (by rw[bH];omega)]at hB;exact hB
  |succ k=>
   have c1:(0:Int)<=((k+1:Nat):Int)-1:=aa;have c2:IntKind.wrap .i64 (8*(((k+1:Nat):Int)-1))=((8*k:Nat):Int):=cJ;have c3:(0:Int)<=((8*k:Nat):Int):=aa;have c4:=ZC (n:=n) (k:=k) aa hn;refine bu h7 c1 ?_;refine bJ 9 ?_;refine E1 h0 h2 h7 c2 c3 c4 ?_;refine dG adL (VV hb hB ?_) ?_ ?_
   ·simp[bH];omega
   ·rintro v ae ⟨h,o0⟩;refine gp ?_;have c5:IntKind.wrap .i64 (((k+1:Nat):Int)-1-1)=(k:Int)-1:=cJ;refine bu h7 c5 ?_;refine hX k _ _ _ _ aa ⟨rfl,?_,?_,?_,i+1,aa,?_⟩ ao
    ·exact aQ h0
    ·exact aQ h2
    ·exact au
    ·have e:(aA w n).take (i+1)=(aA w n).take i++[(n/256^k).toUInt8]:=by rw[List.take_add_one,Yj aa,show w-1-i=k by omega];rfl
     rw[e,<-List.append_assoc];exact o0
   ·rintro ch ae ⟨h,_⟩;cases h
inductive Arg
 |BP (n:Nat)
 |short (n:Nat)
 |long (n:Nat)
 |mM (n:Nat)
 |text (s:List UInt8)
 |flag (b:Bool)
def oR:Arg->Value
 | .BP n=>.iface 157 (.int .i64 n)
 | .short n=>.iface 158 (.int .i64 n)
 | .long n=>.iface 159 (.int .i64 n)
 | .mM n=>.iface 237 (.int .i64 n)
 | .text s=>.iface 238 (.string (B s))
 | .flag b=>.iface 239 (.bool b)
def eJ:Arg->List UInt8
 | .BP n=>aA 1 n
 | .short n=>aA 2 n
 | .long n=>aA 4 n
 | .mM n=>aA 8 n
 | .text s=>aA 1 s.length++s
 | .flag b=>aA 1 (if b then 1 else 0)
def lr:Arg->Prop
 | .BP n| .short n| .long n| .mM n=>n<9223372036854775808
 |_=>True
def dg(l:List Arg):List UInt8:=l.flatMap eJ
def YZ{x:Nat}(h:iE J b l U)(hb:J.f b=none)(hx:J.f x=some o):U.f x=some o:=by
 have aE:x≠b:=bl hx hb
 cases h with
 |new _ hs=>rw[hs,Hp.aM _ aE];exact hx
 |old _ hs=>rw[hs,Hp.aM _ aE];exact hx
 |buf bb _ _ h1 _ _ _ hs=>
  have h2:x≠bb:=bl hx h1;rw[hs,Hp.aM _ h2,Hp.aM _ aE];exact hx
def Ap(J:Hp)(xs:List Arg)(v:Value):Prop:=
 (xs=[]/\v=.slice none 0 0)\/∃sb,v=.slice (some ⟨sb,0,none⟩) xs.length xs.length/\J.f sb=some (.cells (xs.map oR).toArray 20 (0,0))
def HI{xs:List Arg}(hb:J.f b=none)(hB:iE J b l U)(hv:Ap J xs v)(gB:∀a∈xs,lr a)(hn:xs.length<=1000)(gn:l.length+(dg xs).length<=900000000):
 aw E 65 #[pV b,v] U λe' ae=>e'=.returned (.tuple #[])/\iE J b (l++dg xs) ae:=by
 refine aV func65 ntmps65 results65 λQ aD an aB=>?_
 have hlen:∃bs c,v=.slice bs xs.length c:=by
  rcases hv with⟨rfl,rfl⟩|⟨sb,rfl,_⟩
  ·exact⟨_,_,rfl⟩
  ·exact⟨_,_,rfl⟩
 obtain⟨bs,c,Sq⟩:=hlen;refine aJ Sq ?_;refine dh (λm I ds U=>ds=[]/\∃i,i+m=xs.length/\I 0=pV b/\I 13=v/\I 14=.int .i64 xs.length/\I 15=.int .i64 i/\iE J b (l++dg (xs.take i)) U) xs.length ?_ ?_
 ·refine⟨rfl,0,aa,?_,?_,?_,?_,?_⟩
  ·exact au
  ·exact aQ Sq
  ·exact au
  ·exact au
  ·simpa[dg]using hB
 ·rintro m I ds U X ⟨rfl,i,hi,h0,mC,mD,kS,hB⟩ hX;rcases Nat.lt_or_ge i xs.length with bd|xI
  ·have c1:(i:Int)<xs.length:=aa;rcases hv with⟨rfl,rfl⟩|⟨sb,rfl,nN⟩
   ·simp at bd
   have uD:=YZ hB hb nN;have c2:(0:Int)<=i:=aa;obtain⟨a,ha⟩:∃a,xs[i]? =some a:=⟨_,List.getElem?_eq_getElem bd⟩;have kE:(xs.map oR)[i]? =some (oR a):=by simp[ha]
   have wx:dg (xs.take (i+1))=dg (xs.take i)++eJ a:=by rw[List.take_add_one,ha];simp[dg]
   have hlen:(dg (xs.take i)).length+(eJ a).length<=(dg xs).length:=by
    have:dg xs=dg (xs.take (i+1))++dg (xs.drop (i+1)):=by simp only[dg];rw[<-List.flatMap_append,List.take_append_drop]
    rw[this,wx];simp
   have c5:IntKind.wrap .i64 ((i:Int)+1)=((i+1:Nat):Int):=cJ;have GY:=gB a (List.mem_of_getElem? ha)
   have fin:∀az ae,az 0=pV b->az 13=.slice (some ⟨sb,0,none⟩) xs.length xs.length->az 14=.int .i64 xs.length->az 15=.int .i64 ((i+1:Nat):Int)->iE J b (l++dg (xs.take i)++eJ a) ae->X az [] ae:=by intro az ae k0 k13 k14 k15 kB;refine hX (m-1) _ _ _ _ aa ⟨rfl,i+1,aa,k0,k13,k14,k15,?_⟩ ao;rw[wx,<-List.append_assoc];exact kB
   cases a with
   |BP n=>
    simp only[oR]at kE;refine jl h0 mC mD kS c1 c2 uD kE ?_;refine dG AY (BU (w:=1) hb hB aa GY (by simp at hlen|-;omega)) ?_ ?_
    ·rintro v ae ⟨h,o0⟩;refine bu kS c5 ?_;exact fin _ _ (aQ h0) (aQ mC) (aQ mD) au o0
    ·rintro ch ae ⟨h,_⟩;cases h
   |short n=>
    simp only[oR]at kE;refine jl h0 mC mD kS c1 c2 uD kE ?_;refine dG AY (BU (w:=2) hb hB aa GY (by simp at hlen|-;omega)) ?_ ?_
    ·rintro v ae ⟨h,o0⟩;refine bu kS c5 ?_;exact fin _ _ (aQ h0) (aQ mC) (aQ mD) au o0
    ·rintro ch ae ⟨h,_⟩;cases h
   |long n=>
    simp only[oR]at kE;refine jl h0 mC mD kS c1 c2 uD kE ?_;refine dG AY (BU (w:=4) hb hB aa GY (by simp at hlen|-;omega)) ?_ ?_
    ·rintro v ae ⟨h,o0⟩;refine bu kS c5 ?_;exact fin _ _ (aQ h0) (aQ mC) (aQ mD) au o0
    ·rintro ch ae ⟨h,_⟩;cases h
   |mM n=>
    simp only[oR]at kE;refine jl h0 mC mD kS c1 c2 uD kE ?_;refine dG AY (BU (w:=8) hb hB aa GY (by simp at hlen|-;omega)) ?_ ?_
    ·rintro v ae ⟨h,o0⟩;refine bu kS c5 ?_;exact fin _ _ (aQ h0) (aQ mC) (aQ mD) au o0
    ·rintro ch ae ⟨h,_⟩;cases h
   |text t=>
    simp only[oR]at kE
    have ht:t.length<=900000000:=by
     have:(eJ (.text t)).length=1+t.length:=by simp[eJ,bH]
     omega
    have il:(aA 1 t.length).length=1:=bH _ _;have iC:(eJ (.text t)).length=1+t.length:=by simp[eJ,bH]
    refine jl h0 mC mD kS c1 c2 uD kE ?_;refine dG AY (BU (w:=1) hb hB aa aa (by simp at hlen|-;omega)) ?_ ?_
    ·rintro v ae ⟨h,o0⟩
     cases h
     refine ag ?_;refine dG adK (VW hb o0 (by simp at hlen|-;omega)) ?_ ?_
     ·rintro v gE ⟨h,ad1⟩;refine bu kS c5 ?_;refine fin _ _ (aQ h0) (aQ mC) (aQ mD) au ?_;simp only[eJ];rw[<-List.append_assoc];exact ad1
     ·rintro ch ae ⟨h,_⟩;cases h
    ·rintro ch ae ⟨h,_⟩;cases h
   |flag f=>
    simp only[oR]at kE
    cases f
    all_goals
     refine jl h0 mC mD kS c1 c2 uD kE ?_;refine dG AY (BU (w:=1) hb hB aa ai (by simp at hlen|-;omega)) ?_ ?_
     ·rintro v ae ⟨h,o0⟩;refine bu kS c5 ?_;exact fin _ _ (aQ h0) (aQ mC) (aQ mD) au o0
     ·rintro ch ae ⟨h,_⟩;cases h
  ·have c1:¬(i:Int)<xs.length:=aa;refine bN mD kS c1 ?_;refine aD dz ao ⟨rfl,?_⟩;rw[List.take_of_length_le aa]at hB;exact hB
def ep(kind ch:Nat)(p:List UInt8):List UInt8:=aA 1 kind++aA 2 ch++aA 4 p.length++p++[206]
def ju(kind ch:Nat)(p:List UInt8):(ep kind ch p).length=p.length+8:=by simp[ep,bH];omega
def JL{kind ch:Nat}{p:List UInt8}(hk:kind<9223372036854775808)(hc:ch<9223372036854775808)(hp:p.length<=100000000):
 aw E 44 #[.int .i64 kind,.int .i64 ch,.string (B p)] U λe' ae=>e'=.returned (.string (B (ep kind ch p)))/\ae=U:=by
 refine aV func44 ntmps44 results44 λQ aD an aB=>?_;refine ag ?_;refineλb hb=>?_;refine ag ?_;refineλsb nN=>?_;have vR:iE U b [] (U.set b (.cells #[.pointer none,.slice none 0 0] 155 (0,0))):=.new rfl rfl;have aE:b≠sb:=bl nN aX;have D5:U.f sb=none:=by rw[Hp.aM _ (λe=>aE e.symm)]at nN;exact nN
 have qO:=vR.frame (o:=.cells ([Arg.BP kind,.short ch,.long p.length].map oR).toArray 20 (0,0)) nN;obtain⟨J,eO⟩:∃J,J=U.set sb (.cells ([Arg.BP kind,.short ch,.long p.length].map oR).toArray 20 (0,0)):=⟨_,rfl⟩;rw[<-eO]at qO;have s7:J.f b=none:=by rw[eO,Hp.aM _ aE];exact hb
 refine ag ?_;refine dG adJ (HI s7 qO (.inr ⟨sb,rfl,by rw[eO,Hp.bD]⟩) (by simp[lr,hk,hc];omega) al (by simp[dg,eJ,bH])) ?_ ?_
 ·rintro v ae ⟨h,za⟩;refine ag ?_;refine aL (VW s7 za (by simp[dg,eJ,bH];omega)) ?_;rintro v ae ⟨h,JY⟩;refine ag ?_;refine aL (VV (y:=206) s7 JY (by simp[dg,eJ,bH];omega)) ?_;rintro v ae ⟨h,hB4⟩;refine ag ?_;refine aZ (M7 s7 hB4 al (by simp[dg,eJ,bH];omega)) ?_;refine ag ?_;refine an (J:=U) aI (by rw[eO];exact kK D5) ⟨?_,rfl⟩;refine ag ?_;simp[ep,dg,eJ]
 ·rintro ch ae ⟨h,_⟩;cases h
def ck(ch cl me:Nat)(xs:List Arg):List UInt8:=ep 1 ch (aA 2 cl++aA 2 me++dg xs)
def aq2{ch cl me:Nat}{xs:List Arg}(hv:Ap U xs v)(gB:∀a∈xs,lr a)(hn:xs.length<=1000)(hc:ch<9223372036854775808)(aH:cl<9223372036854775808)(aO:me<9223372036854775808)(gn:(dg xs).length<=10000000):
 aw E 149 #[.int .i64 ch,.int .i64 cl,.int .i64 me,v] U λe' ae=>e'=.returned (.string (B (ck ch cl me xs)))/\ae=U:=by
 refine aV func149 ntmps149 results149 λQ aD an aB=>?_;refine ag ?_;refineλb hb=>?_;refine ag ?_;refineλsb nN=>?_;have vR:iE U b [] (U.set b (.cells #[.pointer none,.slice none 0 0] 155 (0,0))):=.new rfl rfl;have aE:b≠sb:=bl nN aX;have D5:U.f sb=none:=by rw[Hp.aM _ (λe=>aE e.symm)]at nN;exact nN
 have qO:=vR.frame (o:=.cells ([Arg.short cl,.short me].map oR).toArray 20 (0,0)) nN;obtain⟨J,eO⟩:∃J,J=U.set sb (.cells ([Arg.short cl,.short me].map oR).toArray 20 (0,0)):=⟨_,rfl⟩;rw[<-eO]at qO;have hle:U.le J:=by rw[eO];exact kK D5
 have s7:J.f b=none:=by rw[eO,Hp.aM _ aE];exact hb
 have Hb:Ap J xs v:=hv.imp id λ⟨x,h1,h2⟩=>⟨x,h1,hle _ _ h2⟩;refine ag ?_;refine aL (HI (xs:=[.short cl,.short me]) s7 qO (.inr ⟨sb,rfl,by rw[eO,Hp.bD]⟩) (by simp[lr,aH,aO]) al (by simp[dg,eJ,bH])) ?_;rintro v1 ae ⟨h,za⟩;refine ag ?_;refine aL (HI s7 za Hb gB hn (by simp[dg,eJ,bH]at gn|-;omega)) ?_;rintro v2 ae ⟨h,JY⟩;refine ag ?_;refine aZ (M7 s7 JY ?_ ?_) ?_
 ·simp[dg,eJ,aA]
 ·simp[dg,eJ,bH]at gn|-;omega
 refine ag ?_;refine aZ (JL (kind:=1) aa hc ?_) ?_
 ·simp[dg,eJ,bH]at gn|-;omega
 refine ag ?_;refine an (J:=U) aI hle ⟨?_,rfl⟩;refine ag ?_;simp[ck,dg,eJ]
end
section
open Go.Conc
variable {x:Array Operand}{a:Array TypeId}
def ahW:cW (.call ⟨.builtin .min,x,a⟩)=false:=bp
def ahV:cW (.call ⟨.builtin .max,x,a⟩)=false:=bp
attribute [go_sem] ahW ahV
variable {P:Program}{E:Env P}{I:av}{ds:List Deferred}{U:Hp}{dst:Option Tmp}{ty:TypeId}{pos:String}{af:Array Edge}{g:Option (Nat×Bool)}{nx:av->List Deferred->Hp->Prop}{pn:List PanicEntry->Hp->Prop}{x y:Operand}{cA:Array TypeId}{a b:Int}
def Tt(hx:ak I x=.int .i64 a)(hy:ak I y=.int .i64 b)(h:nx (aC I dst (.int .i64 (min a b))) ds U):aT E ⟨dst,.call ⟨.builtin .min,#[x,y],cA⟩,ty,pos,af,g⟩ I ds U nx pn:=by
 show wpOp E _ I ds U nx pn;unfold wpOp;simp only[execOp,resolve,aG,bt,invoke];show wpS P (do pure (Next.value (<-Builtin.min_ cA ty (#[x,y].map (ak I)))):Sem Next) _ _ _;rw[lU];have e1: #[x,y].map (ak I)= #[.int .i64 a,.int .i64 b]:=by simp[hx,hy]
 rw[e1];simp only[Builtin.min_,List.foldlM,Builtin.min2];have e2:(if b<a then b else a)=min a b:=aa;rw[e2];exact h
def aj2(hx:ak I x=.int .i64 a)(hy:ak I y=.int .i64 b)(h:nx (aC I dst (.int .i64 (max a b))) ds U):aT E ⟨dst,.call ⟨.builtin .max,#[x,y],cA⟩,ty,pos,af,g⟩ I ds U nx pn:=by
 show wpOp E _ I ds U nx pn;unfold wpOp;simp only[execOp,resolve,aG,bt,invoke];show wpS P (do pure (Next.value (<-Builtin.max_ cA ty (#[x,y].map (ak I)))):Sem Next) _ _ _;rw[lU];have e1: #[x,y].map (ak I)= #[.int .i64 a,.int .i64 b]:=by simp[hx,hy]
 rw[e1];simp only[Builtin.max_,List.foldlM,Builtin.max2];have e2:(if b>a then b else a)=max a b:=aa;rw[e2];exact h
end
section
open Go.Proofs
def dZ(ch m:Nat):Nat->List UInt8->List UInt8
 |0,_=>[]
 |f+1,b=>if b=[]then []else ep 3 ch (b.take m)++dZ ch m f (b.drop m)
def mz(ch:Nat)(body:List UInt8)(size:Nat):List UInt8:=ep 2 ch (aA 2 60++aA 2 0++aA 8 body.length)++dZ ch (size-8) body.length body
def MB(ch m:Nat)(hm:1<=m):∀(f g:Nat) (b:List UInt8),b.length<=f->b.length<=g->dZ ch m f b=dZ ch m g b:=by
 intro f
 induction f with
 |zero=>
  intro g b hf _;have:b=[]:=List.eq_nil_of_length_eq_zero aa;subst this
  cases g<;>simp[dZ]
 |succ f ih=>
  intro g b hf hg
  cases g with
  |zero=>
   have:b=[]:=List.eq_nil_of_length_eq_zero aa;subst this;simp[dZ]
  |succ g=>
   simp only[dZ];split
   ·rfl
   ·rename_i hb;have:b.length≠0:=λe=>hb (List.eq_nil_of_length_eq_zero e);rw[ih g (b.drop m) (by simp;omega) (by simp;omega)]
def Ul(ch m:Nat)(hm:1<=m):∀(f:Nat) (b:List UInt8),b.length<=f->(dZ ch m f b).length<=9*b.length:=by
 intro f
 induction f with
 |zero=>intro b h;simp[dZ]
 |succ f ih=>
  intro b h;simp only[dZ];split
  ·simp
  ·rename_i hb;have h0:b.length≠0:=λe=>hb (List.eq_nil_of_length_eq_zero e);have:=ih (b.drop m) (by simp;omega);simp only[List.length_append,ju,List.length_take,List.length_drop]at this|-;rcases Nat.le_total m b.length with h1|h1
   ·rw[Nat.min_eq_left h1];omega
   ·rw[Nat.min_eq_right h1];omega
def PH{E:Env prog}{U:Hp}{ch size:Nat}{body:List UInt8}(hc:ch<9223372036854775808)(hs:9<=size)(iK:size<=1000000)(hb:body.length<=1000000):
 aw E 292 #[.int .i64 ch,.string (B body),.int .i64 size] U λe' ae=>e'=.returned (.string (B (mz ch body size)))/\ae=U:=by
 refine aV func292 ntmps292 results292 λQ aD an aB=>?_;refine ag ?_;refineλb fC=>?_;refine ag ?_;refineλsb nN=>?_;have vR:iE U b [] (U.set b (.cells #[.pointer none,.slice none 0 0] 155 (0,0))):=.new rfl rfl;have aE:b≠sb:=bl nN aX;have D5:U.f sb=none:=by rw[Hp.aM _ (λe=>aE e.symm)]at nN;exact nN
 have qO:=vR.frame (o:=.cells ([Arg.short 60,.short 0,.mM body.length].map oR).toArray 20 (0,0)) nN;obtain⟨J,eO⟩:∃J,J=U.set sb (.cells ([Arg.short 60,.short 0,.mM body.length].map oR).toArray 20 (0,0)):=⟨_,rfl⟩;rw[<-eO]at qO;have hle:U.le J:=by rw[eO];exact kK D5
 have s7:J.f b=none:=by rw[eO,Hp.aM _ aE];exact fC
 refine ag ?_;refine aL (HI (xs:=[.short 60,.short 0,.mM body.length]) s7 qO (.inr ⟨sb,rfl,by rw[eO,Hp.bD]⟩) (by simp[lr];omega) al (by simp[dg,eJ,bH])) ?_;rintro v1 ae ⟨h,za⟩;refine ag ?_;refine aZ (M7 s7 za (by simp[dg,eJ,aA]) (by simp[dg,eJ,bH])) ?_;refine ag ?_;refine aZ (JL (kind:=2) aa hc (by simp[dg,eJ,bH])) ?_;have c1:IntKind.wrap .i64 ((size:Int)-8)=((size-8:Nat):Int):=cJ;refine aJ c1 ?_;refine dh (λm I ds ae=>ds=[]/\ae=J/\∃r acc,m=r.length/\r.length<=body.length/\I 0=.int .i64 ch/\I 1=.string (B r)/\I 8=.string (B acc)/\I 9=.int .i64 ((size-8:Nat):Int)/\acc.length+9*r.length<=100000000/\acc++dZ ch (size-8) r.length r=mz ch body size) body.length ?_ ?_
 ·refine⟨rfl,rfl,body,ep 2 ch (dg [.short 60,.short 0,.mM body.length]),rfl,Nat.le_refl _,?_,?_,?_,?_,?_,?_⟩
  ·exact au
  ·exact au
  ·exact au
  ·exact au
  ·simp[ju,dg,eJ,bH];omega
  ·simp[mz,dg,eJ]
 ·rintro m I ds ae X ⟨rfl,rfl,r,acc,rfl,Br,h0,h1,h8,h9,hal,Rn⟩ hX
  cases hr:decide (r=[])with
  |true=>
   obtain rfl:r=[]:=aY hr;have c2:¬(((0:Nat):Int)>0):=al;refine bu h1 h8 ?_;refine an (J:=U) aI hle ⟨?_,rfl⟩;simp only[go_sem,seval,<-Rn];simp[dZ]
  |false=>
   have eV:r≠[]:=aY hr;have hl:0<r.length:=Nat.pos_of_ne_zero λe=>eV (List.eq_nil_of_length_eq_zero e);have c2:(r.length:Int)>0:=aa;refine bN h1 h9 c2 ?_;have KM:min ((size-8:Nat):Int) (r.length:Int)=((min (size-8) r.length:Nat):Int):=aa;refine Tt (a:=((size-8:Nat):Int)) (b:=(r.length:Int)) au au ?_;obtain⟨k,hk⟩:∃k,k=min (size-8) r.length:=⟨_,rfl⟩;rw[KM,<-hk];have d0:(0:Int)<=k:=aa;have d1:(k:Int)<=r.length:=aa;have d2:(0:Int)<=r.length:=aa;refine mr h0 h1 h8 d0 d1 ?_;rw[Nat.sub_zero];refine aZ (JL (kind:=3) aa hc (by simp;omega)) ?_;have c3:acc.length+(ep 3 ch (r.take k)).length<=9223372036854775807:=by rw[ju];simp;omega
   refine fR h1 d0 d1 c3 ?_;have ae9:List.take (r.length-k) (r.drop k)=r.drop k:=List.take_of_length_le al;refine hX (r.drop k).length _ _ _ _ (by simp;omega) ⟨rfl,rfl,r.drop k,acc++ep 3 ch (r.take k),rfl,by simp;omega,?_,?_,?_,?_,?_,?_⟩ ao
   ·exact aQ h0
   ·refine ag ?_;rw[ae9]
   ·exact au
   ·exact aQ h9
   ·rw[List.length_append,ju];simp;omega
   ·rw[<-Rn,List.append_assoc];congr 1;obtain⟨f,hf⟩:∃f,r.length=f+1:=⟨r.length-1,aa⟩;rw[hf];simp only[dZ,if_neg eV]
    have e1:r.take (size-8)=r.take k:=by
     rw[hk];rcases Nat.le_total (size-8) r.length with h|h
     ·rw[Nat.min_eq_left h]
     ·rw[Nat.min_eq_right h,List.take_of_length_le h,List.take_length]
    have e2:r.drop (size-8)=r.drop k:=by
     rw[hk];rcases Nat.le_total (size-8) r.length with h|h
     ·rw[Nat.min_eq_left h]
     ·rw[Nat.min_eq_right h,List.drop_eq_nil_of_le h,List.drop_length]
    rw[e1,e2];congr 1;exact MB ch (size-8) aa _ _ _ (Nat.le_refl _) (by simp;omega)
end
section
open Go.Conc
def Hp.dr(U φ:Hp):Prop:=∀b,U.f b=none\/φ.f b=none
def Hp.bA(U φ:Hp):Hp:=⟨λb=>match U.f b with|some o=>some o|none=>φ.f b⟩
variable {U φ:Hp}{b:Nat}{o:Obj}
def Hp.iQ(h:U.f b=some o):(U.bA φ).f b=some o:=by simp[Hp.bA,h]
def Hp.lS(h:U.f b=none):(U.bA φ).f b=φ.f b:=by simp[Hp.bA,h]
def Hp.aji(U φ:Hp):U.le (U.bA φ):=λ_ _ h=>Hp.iQ h
def Hp.uT(d:U.dr φ):φ.le (U.bA φ):=λb o h=>by
 rcases d b with e|e
 ·rw[Hp.lS e];exact h
 ·rw[e]at h;cases h
def Hp.Im(h:(U.bA φ).f b=some o):U.f b=some o\/(U.f b=none/\φ.f b=some o):=by
 cases e:U.f b with
 |some x=>rw[Hp.iQ e]at h;exact .inl h
 |none=>rw[Hp.lS e]at h;exact .inr ⟨rfl,h⟩
def Hp.aqE{J:Hp}(h:J.le U)(d:U.dr φ):(J.bA φ).le (U.bA φ):=by
 intro b o hb;rcases Hp.Im hb with h1|⟨_,h1⟩
 ·exact Hp.iQ (h b o h1)
 ·rcases d b with e|e
  ·rw[Hp.lS e];exact h1
  ·rw[e]at h1;cases h1
def Hp.dr.iR{J:Hp}(d:U.dr φ)(h:J.le U):J.dr φ:=by
 intro b;rcases d b with e|e
 ·left
  cases hb:J.f b with
  |none=>rfl
  |some o=>have:=h b o hb;rw[e]at this;cases this
 ·exact .inr e
variable {auu:Nat->Prop}{w:World}
def cQ.split(h:cQ auu w (U.bA φ))(d:U.dr φ):cQ (λb=>auu b\/(φ.f b).isSome=true) w U:=by
 refine⟨λhb=>h.heap (Hp.iQ hb),λb hj=>?_,λb hj=>?_⟩
 ·rcases hj with hj|hj
  ·cases hb:U.f b with
   |none=>rfl
   |some o=>have:=h.fX b hj;rw[Hp.iQ hb]at this;cases this
  ·rcases d b with e|e
   ·exact e
   ·rw[e]at hj;cases hj
 ·rcases hj with hj|hj
  ·exact h.low b hj
  ·obtain⟨o,ho⟩:=Option.isSome_iff_exists.1 hj;exact h.lt (Hp.uT d b o ho)
def cQ.aqJ(h:cQ (λb=>auu b\/(φ.f b).isSome=true) w U)(hJ:∀b,auu b->φ.f b=none)(By:∀b o,φ.f b=some o->w.heap[b]? =some o):cQ auu w (U.bA φ)/\U.dr φ:=by
 refine⟨⟨λ{b o} hb=>?_,λb hj=>?_,λb hj=>h.low b (.inl hj)⟩,λb=>?_⟩
 ·rcases Hp.Im hb with h1|⟨_,h1⟩
  ·exact h.heap h1
  ·exact By b o h1
 ·rw[Hp.lS (h.fX b (.inl hj))];exact hJ b hj
 ·cases e:φ.f b with
  |none=>exact .inr rfl
  |some o=>exact .inl (h.fX b (.inr (by rw[e];rfl)))
def iF.fewer{J':Nat->Prop}{n:Nat}{e:Event}(hJ:∀b,auu b->J' b)(h:iF J' n e):iF auu n e:=by
 unfold iF at h|-
 cases hl:e.loc<;>rw[hl]at h<;>first|exact h|exact⟨λx=>h.1 (hJ _ x),h.2⟩
variable {P:Program}
def ic.frame{main:Bool}{g:Goroutine}{X:Goroutine->Hp->Prop}(h:ic P main g U X)(d:U.dr φ):
 ic P main g (U.bA φ) λg' J=>∃ae,ae.dr φ/\J=ae.bA φ/\X g' ae:=by
 intro auu w hs;have:=h _ w (hs.split d)
 cases hg:stepG P main g w<;>rw[hg]at this<;>first|exact this.elim|skip
 obtain⟨ae,h1,h2,h3,h4,h5⟩:=this
 have hJ:∀b,auu b->φ.f b=none:=λb hj=>by
  have:=hs.fX b hj
  cases e:U.f b with
  |none=>rw[Hp.lS e]at this;exact this
  |some o=>rw[Hp.iQ e]at this;cases this
 obtain⟨k1,k2⟩:=h1.aqJ hJ (λb o hb=>by rw[h2.hidden b (.inr (by rw[hb];rfl))];exact hs.heap (Hp.uT d b o hb));exact⟨_,k1,⟨λb hj=>h2.hidden b (.inl hj),h2.os,h2.tape,h2.output,h2.tZ⟩,λe he=>(h3 e he).fewer λb=>.inl,h4,ae,k2,rfl,h5⟩
def Env.frame {P:Program}(E:Env P)(φ:Hp):Env P where
 main:=E.main
 st g U m T:=U.dr φ/\E.st g (U.bA φ) m T
 iR:=λ⟨d,h⟩ k=>⟨d.iR k,E.iR h (Hp.aqE k d)⟩
 own:=by rintro g U m T X ⟨d,h⟩ hr hX;obtain⟨N,m',T',g',J,h1,h2,h3,ae,d',rfl,hx⟩:=E.own g _ m T _ h hr (hX.frame d);exact⟨N,m',T',g',ae,h1,⟨d',h2⟩,h3,hx⟩
variable {a:Addr}
def Ps{v:Value}(h:U.cell? a=some v):(U.bA φ).cell? a=some v:=by obtain⟨c,e,z,hb,hs,hv⟩:=AM h;simp[Hp.cell?,Hp.iQ hb,hs,hv]
def Qz(hb:U.f a.block=some o):(U.bA φ).frozen? a=U.frozen? a:=by simp only[Hp.frozen?,Hp.iQ hb,hb]
def aoT{r:Nat}(hb:U.f r=some o):(U.bA φ).shape? r=U.shape? r:=by simp only[Hp.shape?,Hp.iQ hb,hb]
def Tu(hb:U.f b=some o)(g:Obj->Obj):(U.bA φ).modify b g=(U.modify b g).bA φ:=by
 simp only[Hp.modify,Hp.bA,Hp.mk.injEq]
 funext x
 by_cases e:x=b
 ·subst e;simp[hb]
 ·simp[e]
def H0(b:Nat)(o:Obj):(U.bA φ).set b o=(U.set b o).bA φ:=by
 simp only[Hp.set,Hp.bA,Hp.mk.injEq]
 funext x
 by_cases e:x=b
 ·subst e;simp
 ·simp[e]
def aoL(hb:U.f a.block=some o)(v:Value):(U.bA φ).setCell a v=(U.setCell a v).bA φ:=Tu hb _
def acN(hb:U.f a.block=some o)(n:Nat):(U.bA φ).freeze a n=(U.freeze a n).bA φ:=by
 unfold Hp.freeze;split
 ·rfl
 ·exact Tu hb _
def Jp(d:U.dr φ)(hb:φ.f b=none):(U.set b o).dr φ:=by
 intro x;by_cases e:x=b
 ·subst e;exact .inr hb
 ·simpa[Hp.set,e]using d x
def PW(d:U.dr φ)(hb:U.f b=some o):φ.f b=none:=by
 rcases d b with e|e
 ·rw[e]at hb;cases hb
 ·exact e
def PV(g:Obj->Obj)(d:U.dr φ):(U.modify b g).dr φ:=by
 intro x;by_cases e:x=b
 ·subst e;rcases d x with e|e
  ·exact .inl (by simp[Hp.modify,e])
  ·exact .inr e
 ·simpa[Hp.modify,e]using d x
def ari{α:Type}{Q:α->Hp->Prop}{H:Halt->Hp->Prop}:
 ∀(s:Sem α) (U:Hp),U.dr φ->wpS P s Q H U->wpS P s (λa J=>∃ae,ae.dr φ/\J=ae.bA φ/\Q a ae) (λh J=>∃ae,ae.dr φ/\J=ae.bA φ/\H h ae) (U.bA φ):=by
 intro s
 induction s with
 |pure a=>exactλU d h=>⟨U,d,rfl,h⟩
 |load m a k ih=>exactλU d ⟨v,hv,h⟩=>⟨v,Ps hv,ih v U d h⟩
 |store m a v k ih=>
  intro U d h
  have key:(∃u,U.cell? a=some u)/\U.frozen? a=false/\wpS P k Q H (U.setCell a v)->(∃u,(U.bA φ).cell? a=some u)/\(U.bA φ).frozen? a=false/\wpS P k (λa J=>∃ae,ae.dr φ/\J=ae.bA φ/\Q a ae) (λh J=>∃ae,ae.dr φ/\J=ae.bA φ/\H h ae) ((U.bA φ).setCell a v):=by rintro⟨⟨u,hu⟩,hz,h⟩;obtain⟨c,e,z,hb,_,_⟩:=AM hu;refine⟨⟨u,Ps hu⟩,by rw[Qz hb];exact hz,?_⟩;rw[aoL hb];exact ih _ (PV _ d) h
  cases v<;>first|exact h.elim|exact key h
 |new o k ih=>
  intro U d h b hb;rw[H0]
  have hs:U.f b=none:=by
   cases e:U.f b with
   |none=>rfl
   |some x=>rw[Hp.iQ e]at hb;cases hb
  exact ih b _ (Jp d (by rw[Hp.lS hs]at hb;exact hb)) (h b hs)
 |shape r k ih=>
  rintro U d ⟨h1,h⟩;obtain⟨o,ho⟩:=Option.isSome_iff_exists.1 h1;refine⟨by rw[Hp.iQ ho];rfl,?_⟩;rw[aoT ho];exact ih _ _ d h
 |freeze a n k ih=>
  rintro U d ⟨h1,h⟩;obtain⟨o,ho⟩:=Option.isSome_iff_exists.1 h1;refine⟨by rw[Hp.iQ ho];rfl,?_⟩;rw[acN ho];refine ih _ ?_ h;unfold Hp.freeze;split
  ·exact d
  ·exact PV _ d
 |frozen a k ih=>
  rintro U d ⟨h1,h⟩;obtain⟨o,ho⟩:=Option.isSome_iff_exists.1 h1;refine⟨by rw[Hp.iQ ho];rfl,?_⟩;rw[Qz ho];exact ih _ _ d h
 |getObj r k ih=>exactλU d ⟨o,ho,hc,h⟩=>⟨o,Hp.iQ ho,hc,ih _ _ d h⟩
 |setObj r o k ih=>
  rintro U d ⟨o',ho,hc,h⟩;refine⟨o',Hp.iQ ho,hc,?_⟩;rw[H0];exact ih _ (Jp d (PW d ho)) h
 |choose q k ih=>
  intro U d h;unfold wpS at h|-;split
  ·rename_i hf;rw[if_pos hf]at h;exact ih _ _ d h
  ·rename_i hf;rw[if_neg hf]at h;exactλt=>ih _ _ d (h t)
 |sys c k ih=>exactλU d h=>h.elim
 |program k ih=>exactλU d h=>ih _ _ d h
 |mark m k ih=>exactλU d h=>⟨h.1,ih _ d h.2⟩
 |halt h=>exactλU d x=>⟨U,d,rfl,x⟩
def aw.kz{E:Env P}{f:FuncId}{args:Array Value}{R:Fin->Hp->Prop}(h:aw (E.frame φ) f args U R)(d:U.dr φ):
 aw E f args (U.bA φ) λe J=>∃ae,ae.dr φ/\J=ae.bA φ/\R e ae:=by
 intro cs m T hm;obtain⟨N,m',T',g',ae,h1,⟨d',h2⟩,e,fr,rfl,hf,hl,hR⟩:=h cs m T ⟨d,hm⟩;refine⟨N,m',T',_,_,h1,h2,e,fr,rfl,hf,?_,ae,d',rfl,hR⟩
 cases e with
 |returned v=>
  obtain⟨a1,a2,a3,fn,a4,a5⟩:=hl;exact⟨a1,a2,a3,fn,a4,NA (λv' J ⟨gE,_,e1,e2,e3⟩=>⟨e2,by rw[e1,e3]⟩) (λ_ _ ⟨_,_,_,x⟩=>x) _ _ (ari _ _ d' a5)⟩
 |panicked ch=>exact hl
noncomputable def Hp.only(U:Hp)(D:Nat->Prop):Hp:=⟨λb=>open Classical in if D b then U.f b else none⟩
def Hp.alY(U:Hp)(D:Nat->Prop):(U.only D).le U:=λb o h=>by
 simp only[Hp.only]at h;split at h
 ·exact h
 ·cases h
def Hp.EN{D:Nat->Prop}(h:U.f b=some o)(hb:D b):(U.only D).f b=some o:=by simp[Hp.only,hb,h]
def Hp.alX(U:Hp)(D:Nat->Prop):(U.only D).dr (U.only λb=>¬D b):=λb=>by
 by_cases h:D b
 ·right;simp[Hp.only,h]
 ·left;simp[Hp.only,h]
def Hp.al0(U:Hp)(D:Nat->Prop):(U.only D).bA (U.only λb=>¬D b)=U:=by
 show Hp.mk _=Hp.mk _;congr 1
 funext b
 by_cases h:D b
 ·simp only[Hp.only,h,if_true,not_true,if_false]
  cases U.f b<;>rfl
 ·simp[Hp.only,h]
structure dN (S Still Q:Loc->Prop) (jw o B:Nat) (K:Nat->Prop) (t:Trace):Prop where
 clean:∀said,¬Race said t
 known:∀i a,touchAt t i=some a->a.loc.isMemory=true->K i\/(S a.loc/\a.kind=.atomic/\¬t.counts i)\/(t.g? i=some o/\a.write=false/\Still a.loc)
 wrote:∀i a,touchAt t i=some a->a.write=true->Still a.loc->Knows t o i
 pure:∀i a,touchAt t i=some a->Q a.loc->a.kind≠.plain\/Knows t jw i
 seen:∀op∈t,op.act.low B
section
variable {S Still Cp Q:Loc->Prop}{jw o B h:Nat}{K K':Nat->Prop}{t u:Trace}
def dN.mono {B':Nat}(H:dN S Still Q jw o B K t)(hB:B<=B'):dN S Still Q jw o B' K t:=⟨H.clean,H.known,H.wrote,H.pure,λop aS=>MemAct.low_mono hB (H.seen op aS)⟩
def dN.aoV {S':Loc->Prop}(H:dN S Still Q jw o B K t)(hS:∀l,S l->S' l):dN S' Still Q jw o B K t:=
 ⟨H.clean,λi a ha hm=>(H.known i a ha hm).imp id (λx=>x.imp (λy=>⟨hS _ y.1,y.2⟩) id),H.wrote,H.pure,H.seen⟩
def dN.old_known (H:dN S Still Q jw o B K t)(hK:∀i,K i->K' i){i:Nat}{a:Touch}{x:MemOp}(cX:t[i]? =some x)(bG:x.act.touch?=some a)(hm:a.loc.isMemory=true):
 K' i\/(S a.loc/\a.kind=.atomic/\¬(t++u).counts i)\/((t++u).g? i=some o/\a.write=false/\Still a.loc):=by
 have hi:=lt_size_of_getElem? cX;rcases H.known i a (by rw[touchAt_of cX];exact bG) hm with x|⟨x,y,z⟩|⟨x,y,z⟩
 ·exact .inl (hK i x)
 ·exact .inr (.inl ⟨x,y,λc=>z ((counts_old hi).1 c)⟩)
 ·exact .inr (.inr ⟨by rw[g?_old hi];exact x,y,z⟩)
def dN.appMute (H:dN S Still Q jw o B K t)(hK:∀i,K i->K' i)(hn:∀op∈u,op.act.touch?=none)(hl:∀op∈u,op.act.low B):dN S Still Q jw o B K' (t++u):=by
 refine⟨λsaid=>noRace_appendMute (H.clean said) hn,λi a ha hm=>?_,λi a ha hw hS=>?_,λi a ha hq=>?_,seen_app H.seen hl⟩
 ·obtain⟨x,hx,bG⟩:=touch_of ha;rcases getElem?_append_cases hx with⟨_,cX⟩|⟨_,dv⟩
  ·exact H.old_known hK cX bG hm
  ·rw[hn x dv]at bG;cases bG
 ·obtain⟨x,hx,bG⟩:=touch_of ha;rcases getElem?_append_cases hx with⟨_,cX⟩|⟨_,dv⟩
  ·exact(H.wrote i a (by rw[touchAt_of cX];exact bG) hw hS).app u
  ·rw[hn x dv]at bG;cases bG
 ·obtain⟨x,hx,bG⟩:=touch_of ha;rcases getElem?_append_cases hx with⟨_,cX⟩|⟨_,dv⟩
  ·exact(H.pure i a (by rw[touchAt_of cX];exact bG) hq).imp id (·.app u)
  ·rw[hn x dv]at bG;cases bG
def dN.appRead (H:dN S Still Q jw o B K t)(hK:∀i,K i->K' i)(Ka:∀l,Still l->¬Q l)(hu:∀op∈u,op.g=o)(hr:∀op∈u,∀b,op.act.touch?=some b->b.write=false/\Still b.loc)(hl:∀op∈u,op.act.low B):
 dN S Still Q jw o B K' (t++u):=by
 refine⟨λsaid=>noRace_append (H.clean said) hu λi a ha op aS b hb hc=>?_,λi a ha hm=>?_,λi a ha hw hS=>?_,λi a ha hq=>?_,seen_app H.seen hl⟩
 ·obtain⟨kD,Ba⟩:=hr op aS b hb;rcases hc.2.2.1 with x|x
  ·exact H.wrote i a ha x (hc.1▸Ba)
  ·rw[kD]at x;cases x
 ·obtain⟨x,hx,bG⟩:=touch_of ha;rcases getElem?_append_cases hx with⟨_,cX⟩|⟨_,dv⟩
  ·exact H.old_known hK cX bG hm
  ·exact .inr (.inr ⟨by rw[g?_of hx,hu x dv],hr x dv a bG⟩)
 ·obtain⟨x,hx,bG⟩:=touch_of ha;rcases getElem?_append_cases hx with⟨_,cX⟩|⟨_,dv⟩
  ·exact(H.wrote i a (by rw[touchAt_of cX];exact bG) hw hS).app u
  ·rw[(hr x dv a bG).1]at hw;cases hw
 ·obtain⟨x,hx,bG⟩:=touch_of ha;rcases getElem?_append_cases hx with⟨_,cX⟩|⟨_,dv⟩
  ·exact(H.pure i a (by rw[touchAt_of cX];exact bG) hq).imp id (·.app u)
  ·exact absurd hq (Ka _ (hr x dv a bG).2)
def dN.appH (H:dN S Still Q jw o B (Knows t h) t)(hu:∀op∈u,op.g=h)(hs:∀op∈u,∀b,op.act.touch?=some b->(S b.loc->b.kind≠.plain)/\(Still b.loc->b.write=false)/\(Q b.loc->b.kind≠.plain))
 (hl:∀op∈u,op.act.low B):dN S Still Q jw o B (Knows (t++u) h) (t++u):=by
 refine⟨λsaid=>noRace_append (H.clean said) hu λi a ha op aS b hb hc=>?_,λi a ha hm=>?_,λi a ha hw hS=>?_,λi a ha hq=>?_,seen_app H.seen hl⟩
 ·obtain⟨Ba,hbT,_⟩:=hs op aS b hb;rcases H.known i a ha hc.2.1 with hk|⟨x,y,_⟩|⟨_,x,y⟩
  ·exact hk
  ·obtain⟨_,_,_,xE⟩:=hc;rw[y]at xE;rcases xE with z|z|⟨_,z,_⟩
   ·cases z
   ·exact absurd z (Ba (by rw[<-‹a.loc=b.loc›];exact x))
   ·cases z
  ·have kD:=hbT (hc.1▸y);rcases hc.2.2.1 with z|z
   ·rw[x]at z;cases z
   ·rw[kD]at z;cases z
 ·obtain⟨x,hx,bG⟩:=touch_of ha;rcases getElem?_append_cases hx with⟨_,cX⟩|⟨_,dv⟩
  ·exact H.old_known (λ_ x=>x.app u) cX bG hm
  ·have:=knows_own hx;rw[hu x dv]at this;exact .inl this
 ·obtain⟨x,hx,bG⟩:=touch_of ha;rcases getElem?_append_cases hx with⟨_,cX⟩|⟨_,dv⟩
  ·exact(H.wrote i a (by rw[touchAt_of cX];exact bG) hw hS).app u
  ·rw[(hs x dv a bG).2.1 hS]at hw;cases hw
 ·obtain⟨x,hx,bG⟩:=touch_of ha;rcases getElem?_append_cases hx with⟨_,cX⟩|⟨_,dv⟩
  ·exact(H.pure i a (by rw[touchAt_of cX];exact bG) hq).imp id (·.app u)
  ·exact .inl ((hs x dv a bG).2.2 hq)
def dN.pass {s r:Nat}(H:dN S Still Q jw r B (Knows t s) t)(xA:∀l,Cp l->l.isMemory=true/\¬S l)(hn:∀op∈u,op.act.touch?=none)(hl:∀op∈u,op.act.low B)
 (he:∀i,Knows t s i->Knows (t++u) r i):dN S Cp Q jw s B (Knows (t++u) r) (t++u):=by
 refine⟨λsaid=>noRace_appendMute (H.clean said) hn,λi a ha hm=>?_,λi a ha hw hS=>?_,λi a ha hq=>?_,seen_app H.seen hl⟩
 ·obtain⟨x,hx,bG⟩:=touch_of ha;rcases getElem?_append_cases hx with⟨hi,cX⟩|⟨_,dv⟩
  ·rcases H.known i a (by rw[touchAt_of cX];exact bG) hm with y|⟨y,z,v⟩|⟨y,z,v⟩
   ·exact .inl (he i y)
   ·exact .inr (.inl ⟨y,z,λc=>v ((counts_old hi).1 c)⟩)
   ·have:=knows_own hx;rw[show x.g=r from by have:=g?_of cX;rw[y]at this;exact(Option.some.inj this).symm]at this;exact .inl this
  ·rw[hn x dv]at bG;cases bG
 ·obtain⟨x,hx,bG⟩:=touch_of ha;rcases getElem?_append_cases hx with⟨hi,cX⟩|⟨_,dv⟩
  ·rcases H.known i a (by rw[touchAt_of cX];exact bG) (xA _ hS).1 with y|⟨y,_⟩|⟨_,z,_⟩
   ·exact y.app u
   ·exact absurd y (xA _ hS).2
   ·rw[hw]at z;cases z
  ·rw[hn x dv]at bG;cases bG
 ·obtain⟨x,hx,bG⟩:=touch_of ha;rcases getElem?_append_cases hx with⟨_,cX⟩|⟨_,dv⟩
  ·exact(H.pure i a (by rw[touchAt_of cX];exact bG) hq).imp id (·.app u)
  ·rw[hn x dv]at bG;cases bG
end
section
variable {S Q:Loc->Prop}{jw o B:Nat}{t u:Trace}
def dN.ofPast (h:Past S B t)(hQ:∀l,¬Q l):dN S (λ_=>False) Q jw o B (Knows t 0) t:=by
 refine⟨h.clean,λi a ha hm=>?_,λ_ _ _ _ x=>x.elim,λi a ha x=>absurd x (hQ _),h.seen⟩;by_cases hk:Knows t 0 i
 ·exact .inl hk
 ·rcases h.known i a ha hm with x|⟨x,y⟩
  ·exact absurd x hk
  ·refine .inr (.inl ⟨x,y,λhc=>hk ?_⟩);obtain⟨op,aS,_⟩:=touch_of ha;by_cases e:op.g=0
   ·rw[<-e];exact knows_own aS
   ·obtain⟨j,hj,hb⟩:=h.over i op.g (g?_of aS) e hc;unfold Trace.g? at hj;obtain⟨z,hz,Lr⟩:=Option.map_eq_some_iff.1 hj;exact⟨j,z,hz,Lr,.inr hb⟩
def dN.toPast (H:dN S (λ_=>False) Q jw o B (Knows t 0) t)(hd:Deaf t 0=0):Past S B t:=by
 refine⟨H.clean,λi a ha hm=>?_,λi g hg aE hc=>?_,hd,H.seen⟩
 ·rcases H.known i a ha hm with x|⟨x,y,_⟩|⟨_,_,x⟩
  ·exact .inl x
  ·exact .inr ⟨x,y⟩
  ·exact x.elim
 ·obtain⟨x,hx,hm,_⟩:=id hc;rcases H.known i x hx hm with⟨q,z,hq,hz,hb⟩|⟨_,_,y⟩|⟨_,_,y⟩
  ·refine⟨q,by rw[g?_of hq,hz],?_⟩;rcases hb with rfl|hb
   ·rw[g?_of hq,hz]at hg;exact absurd (Option.some.inj hg).symm aE
   ·exact hb
  ·exact absurd hc y
  ·exact y.elim
def SZ {s r:Nat}(hs:Deaf t s=0)(hr:Deaf t r=0)(fh:FuncId)(ph:String)(fj:FuncId)(pj:String)(c k cap:Nat){i:Nat}(h:Knows t s i):Knows (t++met s r fh ph fj pj c k cap) r i:=by
 have hq:∀g,∀op∈met s r fh ph fj pj c k cap,∀d,deafStep g d op=d:=λg=>met_quiet s r fh ph fj pj c k cap g;have e0:(t++met s r fh ph fj pj c k cap)[t.size]? =some {g:=s,fn:=fh,pos:=ph,act:=.send c k}:=by simp[met]
 have e3:(t++met s r fh ph fj pj c k cap)[t.size+3]? =some {g:=r,fn:=fj,pos:=pj,act:=.recvDone c k}:=by simp[met]
 have AT:HappensBefore (t++met s r fh ph fj pj c k cap) t.size (t.size+3):=
  Relation.TransGen.single (.inr ⟨.handOver (act?_of e0) (act?_of e3),⟨s,g?_of e0,by rw[deaf_old (Nat.le_refl _)];exact hs⟩,⟨r,g?_of e3,by rw[deaf_quiet (hq r) 3 (by simp[met])];exact hr⟩⟩)
 exact⟨t.size+3,_,e3,rfl,.inr ((h.hb_new (Nat.le_refl _) e0 rfl).trans AT)⟩
def NR {s r:Nat}(fh:FuncId)(ph:String)(fj:FuncId)(pj:String)(c k cap g:Nat):Deaf (t++met s r fh ph fj pj c k cap) g=Deaf t g:=Deaf_quiet (met_quiet s r fh ph fj pj c k cap g)
def kU (h c:Nat)(fh:FuncId)(ph:String)(fc:FuncId):Trace:=#[{g:=h,fn:=fh,pos:=ph,act:=.go c},{g:=c,fn:=fc,pos:=ph,act:=.start}]
def afD (h c:Nat)(fh:FuncId)(ph:String)(fc:FuncId):∀op∈kU h c fh ph fc,op.act.touch?=none:=by intro op aS;simp only[kU,List.mem_toArray,List.mem_cons,List.not_mem_nil,or_false]at aS;rcases aS with rfl|rfl<;>rfl
def RY (h c:Nat)(fh:FuncId)(ph:String)(fc:FuncId)(g:Nat):∀op∈kU h c fh ph fc,∀d,deafStep g d op=d:=by intro op aS d;simp only[kU,List.mem_toArray,List.mem_cons,List.not_mem_nil,or_false]at aS;rcases aS with rfl|rfl<;>rfl
def afC (h c:Nat)(fh:FuncId)(ph:String)(fc:FuncId)(B:Nat):∀op∈kU h c fh ph fc,op.act.low B:=by intro op aS;simp only[kU,List.mem_toArray,List.mem_cons,List.not_mem_nil,or_false]at aS;rcases aS with rfl|rfl<;>trivial
def aiY {h c:Nat}(hh:Deaf t h=0)(hc:Deaf t c=0)(fh:FuncId)(ph:String)(fc:FuncId){i:Nat}(k:Knows t h i):Knows (t++kU h c fh ph fc) c i:=by
 have e0:(t++kU h c fh ph fc)[t.size]? =some {g:=h,fn:=fh,pos:=ph,act:=.go c}:=by simp[kU]
 have e1:(t++kU h c fh ph fc)[t.size+1]? =some {g:=c,fn:=fc,pos:=ph,act:=.start}:=by simp[kU]
 have AT:HappensBefore (t++kU h c fh ph fc) t.size (t.size+1):=
  Relation.TransGen.single (.inr ⟨.spawn (act?_of e0) (act?_of e1) (g?_of e1),⟨h,g?_of e0,by rw[deaf_old (Nat.le_refl _)];exact hh⟩,⟨c,g?_of e1,by rw[deaf_quiet (RY h c fh ph fc c) 1 (by simp[kU])];exact hc⟩⟩)
 exact⟨t.size+1,_,e1,rfl,.inr ((k.hb_new (Nat.le_refl _) e0 rfl).trans AT)⟩
def dN.hire {S Still Q Wt:Loc->Prop}{ama aix B c:Nat}{t:Trace}(H:dN S (λ_=>False) Wt aix ama B (Knows t 0) t)(hS:∀l,Still l->l.isMemory=true/\¬S l)(hQ:∀l,Q l->l.isMemory=true)(hh:Deaf t 0=0)(hc:Deaf t c=0)(fh:FuncId)(ph:String)(fc:FuncId):
 dN S Still Q c 0 B (Knows (t++kU 0 c fh ph fc) c) (t++kU 0 c fh ph fc):=by
 have hn:=afD 0 c fh ph fc;have kn:∀{i},Knows t 0 i->Knows (t++kU 0 c fh ph fc) c i:=λk=>aiY hh hc fh ph fc k;refine⟨λsaid=>noRace_appendMute (H.clean said) hn,λi a ha hm=>?_,λi a ha hw bw=>?_,λi a ha hq=>?_,seen_app H.seen (afC _ _ _ _ _ B)⟩
 ·obtain⟨x,hx,bG⟩:=touch_of ha;rcases getElem?_append_cases hx with⟨hi,cX⟩|⟨_,dv⟩
  ·rcases H.known i a (by rw[touchAt_of cX];exact bG) hm with y|⟨y,z,v⟩|⟨_,_,v⟩
   ·exact .inl (kn y)
   ·exact .inr (.inl ⟨y,z,λc=>v ((counts_old hi).1 c)⟩)
   ·exact v.elim
  ·rw[hn x dv]at bG;cases bG
 ·obtain⟨x,hx,bG⟩:=touch_of ha;rcases getElem?_append_cases hx with⟨hi,cX⟩|⟨_,dv⟩
  ·rcases H.known i a (by rw[touchAt_of cX];exact bG) (hS _ bw).1 with y|⟨y,_⟩|⟨_,_,v⟩
   ·exact y.app _
   ·exact absurd y (hS _ bw).2
   ·exact v.elim
  ·rw[hn x dv]at bG;cases bG
 ·obtain⟨x,hx,bG⟩:=touch_of ha;rcases getElem?_append_cases hx with⟨hi,cX⟩|⟨_,dv⟩
  ·rcases H.known i a (by rw[touchAt_of cX];exact bG) (hQ _ hq)with y|⟨_,y,_⟩|⟨_,_,v⟩
   ·exact .inr (kn y)
   ·exact .inl (by rw[y];exactλe=>by cases e)
   ·exact v.elim
  ·rw[hn x dv]at bG;cases bG
end
section
variable (P:Program)(main:Bool)(K:World->Prop)(Still:Loc->Prop)(B:Nat)(s:Seat)
def Way:Nat->Goroutine->Prop
 |0,g=>∃cR,AtIn P main K Still B s g cR
 |n+1,g=>(∃cR,AtIn P main K Still B s g cR)\/(g.status=.running/\∀w,K w->(stepG P main g w).goes λg' w' es=>AtRel w w'/\(∀e∈es,EvC Still B e)/\Way n g')
def ei (n:Nat)(g:Goroutine):Prop:=
 (∃k,n=k+1/\Way P main K Still B s k g)\/(n=0/\∃pU cR,g=parked cR s.cases s.shape/\AtIn P main K Still B s pU cR)
end
section
variable {P:Program}{main:Bool}{K:World->Prop}{Still:Loc->Prop}{B:Nat}{s:Seat}
def Way.running:∀{n:Nat} {g:Goroutine},Way P main K Still B s n g->g.status=.running
 |0,_,⟨_,h⟩=>h.1
 |_+1,_,h=>h.elim (λ⟨_,x⟩=>x.1) (λx=>x.1)
def Way.mono:∀{n m:Nat} {g:Goroutine},n<=m->Way P main K Still B s n g->Way P main K Still B s m g
 |0,0,_,_,h=>h
 |0,_+1,_,_,h=>.inl h
 |_+1,0,_,hn,_=>absurd hn aa
 |n+1,m+1,g,hn,h=>by
  refine h.imp id λ⟨hr,x⟩=>⟨hr,λw hw=>?_⟩;have:=x w hw
  cases hg:stepG P main g w<;>rw[hg]at this<;>first|exact this.elim|skip
  exact⟨this.1,this.2.1,Way.mono aa this.2.2⟩
def ei.status {n:Nat}{g:Goroutine}(h:ei P main K Still B s n g):(g.status=.running/\0<n)\/(g.status=.blocked/\n=0):=by
 rcases h with⟨k,rfl,hg⟩|⟨rfl,_,cR,rfl,_⟩
 ·exact .inl ⟨hg.running,aa⟩
 ·exact .inr ⟨rfl,rfl⟩
def ei.pick {n:Nat}{y:Goroutine}{w:World}(h:ei P main K Still B s n y)(hr:y.status=.running)(hK:K w):
 (∃cR es k,n=k+1/\AtIn P main K Still B s y cR/\(∀e∈es,EvC Still B e)/\stepG P main y w=.comm cR s.cases true s.shape w es)\/
  ∃n' y' d es,n'<n/\0<n'/\(∀e∈es,EvC Still B e)/\stepG P main y w=.go y' (w.at d) es/\ei P main K Still B s n' y':=by
 rcases h with⟨k,rfl,hg⟩|⟨rfl,_,cR,rfl,_⟩
 ·have stop:(∃cR,AtIn P main K Still B s y cR)->∃cR es k',k+1=k'+1/\AtIn P main K Still B s y cR/\(∀e∈es,EvC Still B e)/\stepG P main y w=.comm cR s.cases true s.shape w es:=by rintro⟨cR,ha⟩;obtain⟨_,_,_,_,_,es,eU,bw⟩:=id ha;exact⟨cR,es,k,rfl,ha,eU,bw w hK⟩
  cases k with
  |zero=>exact .inl (stop hg)
  |succ k=>
   rcases hg with x|⟨_,gP⟩
   ·exact .inl (stop x)
   ·right;have:=gP w hK
    cases hgo:stepG P main y w<;>rw[hgo]at this<;>first|exact this.elim|skip
    rename_i y' w' es;obtain⟨⟨d,rfl⟩,eU,fH⟩:=this;exact⟨k+1,y',d,es,aa,aa,eU,rfl,.inl ⟨k,rfl,fH⟩⟩
 ·cases hr
end
end
section
open Go.Conc
open Go.ConcN (sumTo upd sumTo_upd upd_ne upd_same)
structure Duo (P:Program) where
 W:World
 j:Nat
 chans:Nat->Prop
 K:World->Prop
 KW:World->Prop
 HK:Nat->Prop
 S:Loc->Prop
 Still:Loc->Prop
 Q:Loc->Prop
 B:Nat
 hj:0<j
 C6:∀w,K w->KW w
 C7:∀w d,K w->K (w.at d)
 J4:∀w c k,chans c->K w->K (w.setChan c 0 #[] false k k false)
 cell:∀l,S l\/Still l\/Q l->∃a:Addr,l=.cell a
 apart:∀l,Still l->¬S l/\¬Q l
section
variable {P:Program}(D:Duo P)
def Duo.Hid (b:Nat):Prop:=D.HK b\/D.chans b\/∃a:Addr,a.block=b/\(D.S (.cell a)\/D.Q (.cell a))
structure Duo.Deep:Prop where
 k:∀w w',(∀b,D.HK b->w'.heap[b]? =w.heap[b]?)->D.K w->D.K w'
 still:∀a:Addr,D.Still (.cell a)->D.HK a.block
def Open (c:Nat)(w:World):Prop:=∃k,w.heap[c]? =some (.chan 0 #[] false k k false)
def Calm (e:Event):Prop:=(e.loc≠.mark .disable/\e.loc≠.mark .enable)/\∀a,e.loc≠.mark (.release a)
structure Duo.Base (gs:Array Goroutine) (w:World) (T:Trace) (q:Nat->Nat):Prop where
 lJ:D.j<gs.size
 gY:∀i g,0<i->i≠D.j->gs[i]? =some g->QuitsD P (q i) (Deaf T i) g
 above:∀i,gs.size<=i->Deaf T i=0
 d0:Deaf T 0=0
 dj:Deaf T D.j=0
 k:D.K w
 chans:∀c,D.chans c->Open c w
 mZ:D.B<=w.heap.size
 rI:lV D.W w
 nr:pM D.Q T
def Duo.Of (p:Nat):Prop:=p=0\/p=D.j
def Duo.gF (h x:Nat):Prop:=(h=0/\x=D.j)\/(h=D.j/\x=0)
end
variable {P:Program}{D:Duo P}{h x:Nat}
def Duo.gF.symm(t:D.gF h x):D.gF x h:=t.elim (λ⟨a,b⟩=>.inr ⟨b,a⟩) (λ⟨a,b⟩=>.inl ⟨b,a⟩)
def Duo.gF.ne(t:D.gF h x):h≠x:=by have:=D.hj;rcases t with⟨rfl,rfl⟩|⟨rfl,rfl⟩<;>omega
def Duo.gF.left(t:D.gF h x):D.Of h:=t.elim (λa=>.inl a.1) (λa=>.inr a.1)
def Duo.gF.right(t:D.gF h x):D.Of x:=t.symm.left
variable {i:Nat}
def Duo.gF.AU(t:D.gF h x)(h1:i≠h)(h2:i≠x):0<i/\i≠D.j:=by
 rcases t with⟨rfl,rfl⟩|⟨rfl,rfl⟩
 ·exact⟨aa,h2⟩
 ·exact⟨aa,h1⟩
variable {gs:Array Goroutine}{w:World}{T:Trace}{q:Nat->Nat}
def Duo.Base.at (b:D.Base gs w T q)(d:Nat):D.Base gs (w.at d) T q:=
 ⟨b.lJ,b.gY,b.above,b.d0,b.dj,D.C7 w d b.k,b.chans,b.mZ,b.rI.at d,b.nr⟩
variable {p:Nat}
def Duo.Base.deaf(b:D.Base gs w T q)(hp:D.Of p):Deaf T p=0:=hp.elim (λe=>e▸b.d0) (λe=>e▸b.dj)
def Duo.Base.lt(b:D.Base gs w T q)(hp:D.Of p):p<gs.size:=by have:=b.lJ;rcases hp with rfl|rfl<;>omega
abbrev mN(P:Program)(gs:Array Goroutine)(i:Nat)(g g':Goroutine)(w':World):Array Goroutine:=(gs.map (woken P g g' w')).setIfInBounds i g'
variable {w':World}
def iN(i:Nat)(g g':Goroutine):(mN P gs i g g' w').size=gs.size:=al
def sw(h:i<gs.size)(g g':Goroutine):(mN P gs i g g' w')[i]? =some g':=Array.getElem?_setIfInBounds_self_of_lt (aY h)
variable {k:Nat}{y:Goroutine}
def rf(h:k≠i)(hy:gs[k]? =some y)(ha:y.again w'=y)(g g':Goroutine):(mN P gs i g g' w')[k]? =some y:=by rw[Array.getElem?_setIfInBounds_ne (λe=>h e.symm),Array.getElem?_map,hy];simp[woken_of_again ha]
variable {g g':Goroutine}
def wM(h:k≠i){x:Goroutine}(hx:(mN P gs i g g' w')[k]? =some x):∃z,gs[k]? =some z/\x=woken P g g' w' z:=by rw[Array.getElem?_setIfInBounds_ne (λe=>h e.symm),Array.getElem?_map]at hx;obtain⟨z,hz,rfl⟩:=Option.map_eq_some_iff.1 hx;exact⟨z,hz,rfl⟩
variable {fn:FuncId}{pos:String}{es:Array Event}
def Duo.Base.step(b:D.Base gs w T q)(hp:D.Of p)(hk:D.K w')(hc:∀c,D.chans c->Open c w')(hs:w.heap.size<=w'.heap.size)(hf:lV D.W w')(he:∀e∈es,Calm e):
 D.Base (mN P gs p g g' w') w' (T++MemOp.ofEvents p fn pos es) q:=by
 have hd:∀i,Deaf (T++MemOp.ofEvents p fn pos es) i=Deaf T i:=by
  intro i;by_cases e:i=p
  ·subst e;rw[Deaf_own];exact deafBehind_still (λe h=>(he e h).1) _
  ·exact Deaf_other T (λx=>e x.symm) _ (λop aS=>by obtain⟨e,_,rfl⟩:=Conc.mem_ofEvents aS;rfl)
 refine⟨by rw[iN];exact b.lJ,λi x h1 h2 hx=>?_,λi hi=>?_,(hd 0).trans b.d0,(hd _).trans b.dj,hk,hc,Nat.le_trans b.mZ hs,hf,b.nr.events λe h=>BM (he e h).2⟩
 ·have aE:i≠p:=by rcases hp with rfl|rfl<;>omega
  obtain⟨z,hz,rfl⟩:=wM aE hx;have hq:=b.gY i z h1 h2 hz;rw[woken_quitsD hq,hd];exact hq
 ·rw[iN]at hi;rw[hd];exact b.above i hi
def Duo.Base.leave(b:D.Base gs w T q)(h1:0<i)(h2:i≠D.j)(hg:gs[i]? =some g)(hr:g.status=.running)(d:Nat)(bF:Option (Nat×Nat)):
 ∃g' es q',runT P (crowd gs (w.at d) bF) i=(.next (crowd (mN P gs i g g' (w.at d)) (w.at d) bF),MemOp.ofEvents i g.frame.fn g.frame.place es)/\(∀e∈es,e.mute=true)/\
  sumTo gs.size q'<sumTo gs.size q/\D.Base (mN P gs i g g' (w.at d)) (w.at d) (T++MemOp.ofEvents i g.frame.fn g.frame.place es) q':=by
 have hq:=b.gY i g h1 h2 hg;have qT:(i==0)=false:=by simp;omega
 have bd:i<gs.size:=(Array.getElem?_eq_some_iff.1 hg).1
 cases nK:q i with
 |zero=>rw[nK]at hq;rw[hq.1]at hr;cases hr
 |succ k=>
  rw[nK]at hq;rcases hq with⟨hf,_⟩|⟨_,g',es,hm,ma,bz⟩
  ·rw[hf]at hr;cases hr
  have eX:=runT_crowd_go (P:=P) (sl:=bF) (i:=i) hg (by rw[qT];exact ma (w.at d))
  have Lg:sumTo gs.size (upd q i k)+(k+1)=sumTo gs.size q+k:=by have:=sumTo_upd q k id bd;simpa[nK]using this
  have fO:∀k,k≠i->Deaf (T++MemOp.ofEvents i g.frame.fn g.frame.place es) k=Deaf T k:=λk e=>
   Deaf_other T (λx=>e x.symm) _ (λop aS=>by obtain⟨e,_,rfl⟩:=Conc.mem_ofEvents aS;rfl)
  refine⟨g',es,upd q i k,eX,hm,aa,by rw[iN];exact b.lJ,λc x c1 c2 hx=>?_,λc hc=>?_,(fO 0 aa).trans b.d0,(fO _ (λe=>h2 e.symm)).trans b.dj,(b.at d).k,b.chans,b.mZ,b.rI.at d,b.nr.events λe he=>Mk (hm e he)⟩
  ·by_cases e:c=i
   ·subst e;rw[sw bd]at hx;obtain rfl:=Option.some.inj hx;rw[upd_same,Deaf_own];exact bz
   ·obtain⟨z,hz,rfl⟩:=wM e hx;have pg:=b.gY c z c1 c2 hz;rw[woken_quitsD pg,upd_ne q k e,fO c e];exact pg
  ·rw[iN]at hc;rw[fO c aa];exact b.above c hc
def Duo.Base.awake(b:D.Base gs w T q)(t:D.gF h x)(hg:gs[h]? =some g)(hy:gs[x]? =some y)(hgs:g.status=.running\/g.status=.blocked\/g.status=.finished)(wD:y.status=.running\/y.status=.blocked\/y.status=.finished):∀z∈gs,awake z:=by
 intro z hz;obtain⟨i,hi,rfl⟩:=Array.mem_iff_getElem.1 hz;by_cases e:i=h
 ·subst e;have:gs[i]=g:=by simpa[Array.getElem?_eq_getElem hi]using hg
  rw[this];exact awake_of hgs
 ·by_cases e':i=x
  ·subst e';have:gs[i]=y:=by simpa[Array.getElem?_eq_getElem hi]using hy
   rw[this];exact awake_of wD
  ·obtain⟨h1,h2⟩:=t.AU e e';exact awake_of ((b.gY i _ h1 h2 (Array.getElem?_eq_getElem hi)).status.elim .inl λx=>.inr (.inr x))
def Duo.Fits(D:Duo P)(s:Seat):Prop:=∀cc∈s.cases,∃c,D.chans c/\cc.chan=.chan (some c)
def WZ{cs:Array CommCase}{sh:CommShape}(h:∀cc∈cs,∃c,cc.chan=.chan (some c)/\Open c w):(parked g cs sh).again w=parked g cs sh:=by simp[Goroutine.again,parked];intro x hx;obtain⟨c,hc,k,hk⟩:=h cs[x] (Array.getElem_mem hx);rw[hc];simp[hk]
variable {main:Bool}{s:Seat}{n:Nat}
def ei.stays(hc:∀c,D.chans c->Open c w)(hs:D.Fits s)(h:ei P main D.KW D.Still D.B s n g):g.again w=g:=by
 rcases h with⟨k,rfl,hg⟩|⟨rfl,_,cR,rfl,_⟩
 ·exact again_of_running (.inl hg.running) w
 ·exact WZ λcc cS=>by obtain⟨c,h1,h2⟩:=hs cc cS;exact⟨c,h2,hc c h1⟩
def Duo.St(D:Duo P)(h x:Nat)(s:Seat)(g:Goroutine)(U:Hp)(m:Machine)(T:Trace):Prop:=
 ∃gs w sl q auu n y,m=crowd gs w sl/\gs[h]? =some g/\gs[x]? =some y/\ei P (x==0) D.KW D.Still D.B s n y/\D.Base gs w T q/\dN D.S D.Still D.Q D.j x w.heap.size (Knows T h) T/\cQ auu w U/\(∀b,D.Hid b->auu b)
def Duo.NT(D:Duo P)(n:Nat)(e:Event):Prop:=
 (∀b,(MemAct.ofEvent e).touch?=some b->(D.S b.loc->b.kind≠.plain)/\(D.Still b.loc->b.write=false)/\(D.Q b.loc->b.kind≠.plain))/\Calm e/\(MemAct.ofEvent e).low n
def ab2(hD:D.Deep){auu:Nat->Prop}{e:Event}(hJ:∀b,D.Hid b->auu b)(h:iF auu n e):D.NT n e:=by
 have key:∀{l:Loc},(∀a:Addr,l=.cell a->¬auu a.block)->¬(D.S l\/D.Still l\/D.Q l):=by
  intro l hl hs;obtain⟨a,rfl⟩:=D.cell l hs;refine hl a rfl (hJ _ ?_);rcases hs with hs|hs|hs
  ·exact .inr (.inr ⟨a,rfl,.inl hs⟩)
  ·exact .inl (hD.still a hs)
  ·exact .inr (.inr ⟨a,rfl,.inr hs⟩)
 have Vz:∀{l:Loc} {b:Touch},b.loc=l->(∀a:Addr,l=.cell a->¬auu a.block)->(D.S b.loc->b.kind≠.plain)/\(D.Still b.loc->b.write=false)/\(D.Q b.loc->b.kind≠.plain):=by intro l b hb hl;have:=key hl;rw[<-hb]at this;exact⟨λx=>absurd (.inl x) this,λx=>absurd (.inr (.inl x)) this,λx=>absurd (.inr (.inr x)) this⟩
 obtain⟨loc,wr,sy⟩:=e;unfold iF at h
 cases loc with
 |cell a=>
  obtain⟨h1,h2⟩:¬auu a.block/\a.block<n:=h;refine⟨λb hb=>Vz (l:=.cell a) ?_ (λa' e=>by cases e;exact h1),⟨⟨al,al⟩,al⟩,by cases sy<;>cases wr<;>exact h2⟩
  cases sy<;>cases wr<;>simp[MemAct.ofEvent,MemAct.touch?]at hb<;>subst hb<;>rfl
 |obj r=>
  obtain⟨h1,h2⟩:¬auu r/\r<n:=h;refine⟨λb hb=>Vz (l:=.obj r) ?_ (λa' e=>by cases e),⟨⟨al,al⟩,al⟩,by cases sy<;>cases wr<;>exact h2⟩
  cases sy<;>cases wr<;>simp[MemAct.ofEvent,MemAct.touch?]at hb<;>subst hb<;>rfl
 |output=>exact h.elim
 |goroutines=>exact h.elim
 |mark m=>
  have h:BQ m=true:=h
  cases m<;>first|cases h|skip
  ·exact⟨λx hx=>by simp[MemAct.ofEvent,MemAct.touch?]at hx,⟨⟨al,al⟩,al⟩,trivial⟩
  ·exact⟨λx hx=>by simp[MemAct.ofEvent,MemAct.touch?]at hx,⟨⟨al,al⟩,al⟩,trivial⟩
def Duo.xm(D:Duo P)(main:Bool)(g:Goroutine)(U:Hp)(X:Goroutine->Hp->Prop):Prop:=
 ∀auu w,cQ auu w U->(∀b,D.Hid b->auu b)->D.K w->(∀c,D.chans c->Open c w)->lV D.W w->(stepG P main g w).goes λg' w' es=>
  ∃ae J',cQ J' w' ae/\(∀b,D.Hid b->J' b)/\D.K w'/\(∀c,D.chans c->Open c w')/\lV D.W w'/\w.heap.size<=w'.heap.size/\(∀e∈es,D.NT w'.heap.size e)/\g'.status=.running/\X g' ae
variable {U:Hp}{X:Goroutine->Hp->Prop}
def ic.ac7(hD:D.Deep)(h:ic P main g U X):D.xm main g U X:=by
 intro auu w hs hJ hK hc hf;have:=h auu w hs
 cases hg:stepG P main g w<;>rw[hg]at this<;>first|exact this.elim|skip
 obtain⟨ae,h1,h2,h3,h4,h5⟩:=this;exact⟨ae,auu,h1,hJ,hD.k w _ (λb hb=>h2.hidden b (hJ b (.inl hb))) hK,λc cS=>by obtain⟨k,hk⟩:=hc c cS;exact⟨k,by rw[h2.hidden c (hJ c (.inr (.inl cS)))];exact hk⟩,hf.kept h2,h2.tZ,λe he=>ab2 hD hJ (h3 e he),h4,h5⟩
variable {c:Nat}{b:Bool}
def EL(hb:D.Base gs w T q)(t:D.gF h x)(hg:gs[h]? =some g)(ho:offersAt g c b=[]):partners (gs.setIfInBounds x ph) c b=[]:=by
 refine partners_nil λj z hz=>?_;rcases getElem?_stand gs x j z hz with⟨_,rfl⟩|⟨h1,h2⟩
 ·exact offersAt_ph c b
 ·by_cases e:j=h
  ·subst e;rw[hg]at h2;rw[<-Option.some.inj h2];exact ho
  ·obtain⟨i1,i2⟩:=t.AU e h1;refine offersAt_of_not_blocked (λrP=>?_) c b;have:=(hb.gY j z i1 i2 h2).status;rcases this with y|y<;>rw[rP]at y<;>cases y
def Ve(hb:D.Base gs w T q)(t:D.gF h x)(hg:gs[h]? =some g):partners (gs.setIfInBounds x ph) c b=(offersAt g c b).map λk=>(h,k):=by
 refine partners_one (stand_get t.ne hg) λj z hj hz=>?_;rcases getElem?_stand gs x j z hz with⟨_,rfl⟩|⟨h1,h2⟩
 ·exact offersAt_ph c b
 ·obtain⟨i1,i2⟩:=t.AU hj h1;refine offersAt_of_not_blocked (λrP=>?_) c b;have:=(hb.gY j z i1 i2 h2).status;rcases this with y|y<;>rw[rP]at y<;>cases y
def Mh{cc:CommCase}(dO:cc.chan=.chan (some c))(ho:Open c w)(hp:partners gs c (cc.send.isNone)=[]):NoWays w gs cc:=by
 obtain⟨ch,sd,z⟩:=cc;obtain⟨k,hk⟩:=ho
 cases dO
 cases sd with
 |none=>exact ways_recv_none (z:=z) hk hp
 |some v=>exact ways_send_none (z:=z) hk al hp
variable {Still:Loc->Prop}
def y7{B:Nat}(h:∀e∈es,EvC Still B e):∀e∈es,Calm e:=λe he=>by obtain⟨a,rfl,_,_⟩:=h e he;exact⟨⟨al,al⟩,al⟩
def Qe{B:Nat}(h:∀e∈es,EvC Still B e):∀e∈es,e.loc≠.mark .disable/\e.loc≠.mark .enable:=λe he=>(y7 h e he).1
def Duo.Base.set(b:D.Base gs w T q)(hp:D.Of p)(y:Goroutine)(he:∀e∈es,Calm e):D.Base (gs.setIfInBounds p y) w (T++MemOp.ofEvents p fn pos es) q:=by
 have hd:∀i,Deaf (T++MemOp.ofEvents p fn pos es) i=Deaf T i:=by
  intro i;by_cases e:i=p
  ·subst e;rw[Deaf_own];exact deafBehind_still (λe h=>(he e h).1) _
  ·exact Deaf_other T (λx=>e x.symm) _ (λop aS=>by obtain⟨e,_,rfl⟩:=Conc.mem_ofEvents aS;rfl)
 refine⟨by simpa using b.lJ,λi x h1 h2 hx=>?_,λi hi=>?_,(hd 0).trans b.d0,(hd _).trans b.dj,b.k,b.chans,b.mZ,b.rI,b.nr.events λe h=>BM (he e h).2⟩
 ·have aE:i≠p:=by rcases hp with rfl|rfl<;>omega
  rw[Array.getElem?_setIfInBounds_ne (λe=>aE e.symm)]at hx;rw[hd];exact b.gY i x h1 h2 hx
 ·rw[hd];exact b.above i (aY hi)
def Duo.other(D:Duo P)(t:D.gF h x)(hs:D.Fits s){sl:Option (Nat×Nat)}(hb:D.Base gs w T q)(hg:gs[h]? =some g)(hga:∀d,g.again (w.at d)=g)(hgo:∀c b,offersAt g c b=[])(hy:gs[x]? =some y)(hr:y.status=.running)(l9:ei P (x==0) D.KW D.Still D.B s n y):
 ∃cq y' n' d es,runT P (crowd gs w sl) x=(.next (crowd cq (w.at d) sl),MemOp.ofEvents x y.frame.fn y.frame.place es)/\n'<n/\cq.size=gs.size/\cq[h]? =some g/\cq[x]? =some y'/\ei P (x==0) D.KW D.Still D.B s n' y'/\
  D.Base cq (w.at d) (T++MemOp.ofEvents x y.frame.fn y.frame.place es) q/\∀e∈es,EvC D.Still D.B e:=by
 rcases ei.pick l9 hr (D.C6 _ hb.k)with⟨cR,es,k,rfl,qQ,eU,bw⟩|⟨n',y',d,es,bd,_,eU,bw,q9⟩
 ·have hw:∀cc∈s.cases,NoWays w (gs.setIfInBounds x ph) cc:=λcc cS=>by obtain⟨c,h1,h2⟩:=hs cc cS;exact Mh h2 (hb.chans c h1) (EL hb t hg (hgo _ _))
  exact⟨_,parked cR s.cases s.shape,0,w.drawn,es,crowd_waits hy bw hw,aa,al,by rw[Array.getElem?_setIfInBounds_ne t.ne.symm];exact hg,
   Array.getElem?_setIfInBounds_self_of_lt (hb.lt t.right),.inr ⟨rfl,y,cR,rfl,qQ⟩,hb.set t.right _ (y7 eU),eU⟩
 ·exact⟨_,y',n',d,es,runT_crowd_go hy bw,bd,al,rf t.ne hg (hga d) _ _,sw (hb.lt t.right) _ _,q9,(hb.at d).step t.right (hb.at d).k hb.chans (Nat.le_refl _) (hb.rI.at d) (y7 eU),eU⟩
def dN.other{S Q:Loc->Prop}{jw B:Nat}{K:Nat->Prop}{K':Nat->Prop}(H:dN S Still Q jw x n K T)(hK:∀i,K i->K' i)(Ka:∀l,Still l->¬Q l)(hB:B<=n)(eU:∀e∈es,EvC Still B e):dN S Still Q jw x n K' (T++MemOp.ofEvents x fn pos es):=by obtain⟨h1,h2,h3,_⟩:=evC_ops (i:=x) (fn:=fn) (pos:=pos) eU;exact H.appRead hK Ka h1 h2 (λop aS=>MemAct.low_mono hB (h3 op aS))
def Duo.run(D:Duo P)(t:D.gF h x)(hs:D.Fits s){m:Machine}(nA:D.St h x s g U m T)(hr:g.status=.running)(hX:D.xm (h==0) g U X):
 ∃N m' T' g' ae,runNT P N m T=(.next m',T')/\D.St h x s g' ae m' T'/\g'.status=.running/\X g' ae:=by
 let Inv:Nat->Machine->Trace->Prop:=λμ m T=>(∃gs w sl q auu n y,m=crowd gs w sl/\gs[h]? =some g/\gs[x]? =some y/\ei P (x==0) D.KW D.Still D.B s n y/\D.Base gs w T q/\dN D.S D.Still D.Q D.j x w.heap.size (Knows T h) T/\cQ auu w U/\(∀b,D.Hid b->auu b)/\μ=n+sumTo gs.size q+1)\/
  ∃g' ae,D.St h x s g' ae m T/\g'.status=.running/\X g' ae
 suffices step:∀μ m T,Inv μ m T->(∃g' ae,D.St h x s g' ae m T/\g'.status=.running/\X g' ae)\/∃m' ops vt,stepT P m=(.next m',ops)/\vt<μ/\Inv vt m' (T++ops)by
  obtain⟨gs,w,sl,q,auu,n,y,rfl,e1,e2,e3,e4,e5,e6,e7⟩:=nA;obtain⟨N,m',T',kH,g',ae,h1,h2,h3⟩:=runs_until step _ _ _ (.inl ⟨gs,w,sl,q,auu,n,y,rfl,e1,e2,e3,e4,e5,e6,e7,rfl⟩);exact⟨N,m',T',g',ae,kH,h1,h2,h3⟩
 rintro μ m T (⟨gs,w,sl,q,auu,n,y,rfl,hg,hy,l9,hb,hp,gh,hJ,rfl⟩|Kx)
 ·right;have wD:=ei.status l9;obtain⟨i,z,d,bF,hi,hz,bw⟩:=crowd_pick (P:=P) (w:=w) (sl:=sl) (hb.awake t hg hy (.inl hr) (wD.elim (λa=>.inl a.1) (λa=>.inr (.inl a.1)))) ⟨h,g,hg,hr⟩;by_cases eh:i=h
  ·
   subst eh;obtain rfl:z=g:=by rw[hg]at hi;exact(Option.some.inj hi).symm
   have hgo:=hX auu (w.at d) (gh.at d) hJ (hb.at d).k hb.chans (hb.rI.at d)
   cases ma:stepG P (i==0) z (w.at d)<;>rw[ma]at hgo<;>first|exact hgo.elim|skip
   rename_i g' w' es;obtain⟨ae,J',agC,hJ',hK',cE,Bg,gU,kF,eV,hx⟩:=hgo;have eX:=runT_crowd_go (P:=P) (sl:=bF) hi ma;refine⟨_,_,0,bw.trans eX,aa,.inr ⟨g',ae,⟨_,w',bF,q,J',n,y,rfl,sw (hb.lt t.left) _ _,?_,l9,(hb.at d).step t.left hK' cE gU Bg (λe he=>(kF e he).2.1),?_,agC,hJ'⟩,eV,hx⟩⟩
   ·exact rf t.ne.symm hy (ei.stays cE hs l9) _ _
   ·refine(hp.mono gU).appH (λop aS=>by obtain⟨e,_,rfl⟩:=Conc.mem_ofEvents aS;rfl) (λop aS b hb=>?_) (λop aS=>?_)
    ·obtain⟨e,he,rfl⟩:=Conc.mem_ofEvents aS;exact(kF e he).1 b hb
    ·obtain⟨e,he,rfl⟩:=Conc.mem_ofEvents aS;exact(kF e he).2.2
  ·by_cases ex:i=x
   ·
    subst ex;obtain rfl:z=y:=by rw[hy]at hi;exact(Option.some.inj hi).symm
    obtain⟨cq,y',n',d',es,eX,bd,gU,fH,uG,q9,cH,eU⟩:=D.other t hs (sl:=bF) (hb.at d) hg (λd=>again_of_running (.inl hr) _) (λc b=>offersAt_of_not_blocked (by rw[hr];simp) c b) hy hz l9;refine⟨_,_,n'+sumTo gs.size q+1,bw.trans eX,aa,.inl ⟨cq,w.at d',bF,q,auu,n',y',rfl,fH,uG,q9,cH,?_,gh.at d',hJ,by rw[gU]⟩⟩;exact hp.other (λ_ x=>x.app _) (λl hl=>(D.apart l hl).2) hb.mZ eU
   ·obtain⟨i1,i2⟩:=t.AU eh ex;obtain⟨g',es,q',eX,hm,bd,cH⟩:=hb.leave i1 i2 hi hz d bF;refine⟨_,_,n+sumTo gs.size q'+1,bw.trans eX,aa,.inl ⟨_,w.at d,bF,q',auu,n,y,rfl,rf (λe=>eh e.symm) hg (again_of_running (.inl hr) _) _ _,rf (λe=>ex e.symm) hy (ei.stays hb.chans hs l9) _ _,l9,cH,?_,gh.at d,hJ,by rw[iN]⟩⟩;exact hp.appMute (λ_ x=>x.app _) (λop aS=>by obtain⟨e,he,rfl⟩:=Conc.mem_ofEvents aS;exact touch_mute (hm e he)) (λop aS=>by obtain⟨e,he,rfl⟩:=Conc.mem_ofEvents aS;exact low_mute (hm e he) _)
 ·exact .inl Kx
end
end Go.Qw
