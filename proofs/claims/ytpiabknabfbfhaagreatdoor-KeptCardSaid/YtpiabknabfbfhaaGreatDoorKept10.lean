/- 10 -/
import Derived.Test.YtpiabknabfbfhaaGreatDoorRows
import Derived.Conc.LeavingOf
import Derived.LaidLaws
import Derived.LaidHandle
import Derived.Lay
import Derived.Lib.LaidTab
import Derived.Lib.LaidU8
import Derived.Lib.Props
import Derived.Test.YtpiabknabfbfhaaGreatDoorKept09
set_option linter.all false
set_option maxRecDepth 100000
set_option maxHeartbeats 8000000
namespace Go.Qw
open Go Go.Conc Go.Proofs Go.Proofs.Tryz
def Yk(w n:Nat):aA (w+1) n=aA w (n/256)++[n.toUInt8]:=by
 unfold aA;rw[List.range_succ,List.map_append];congr 1
 ·apply List.map_congr_left;intro j hj;have hj:j<w:=aY hj;have e:w+1-1-j=(w-1-j)+1:=aa;rw[e,Nat.pow_succ,Nat.mul_comm,<-Nat.div_div_eq_div_mul]
 ·simp
def HB(w:Nat):∀n,n<256^w->num (aA w n)=n:=by
 induction w with
 |zero=>intro n h;simp at h;subst h;rfl
 |succ w ih=>
  intro n h;rw[Yk,TV,ih (n/256) (by rw[Nat.pow_succ]at h;omega)];simp;omega
variable {l m:List UInt8}{n:Nat}
def Ig(h:l.length=n):(l++m).take n=l:=by subst h;simp
def Gb(h:l.length=n):(l++m).drop n=m:=by subst h;simp
def wT{w:Nat}{s:List UInt8}(h:n<256^w):fp w (aA w n++s)=some (n,s):=by unfold fp;rw[if_pos (by simp[bH]),Ig (bH w n),Gb (bH w n),HB w n h]
def akF{k ch:Nat}{p rest:List UInt8}{size:Int}(hk:k<256)(hc:ch<65536)(hp:p.length<4294967296)(hw:(if k=1\/k=2\/k=3 then decide ((p.length:Int)>size-8)else if k=8 then decide (p.length>0\/ch≠0)else true)=false):
 dK true (ep k ch p++rest) size=(⟨k,ch,p,false,false⟩,true,rest):=by
 have e1:ep k ch p++rest=aA 1 k++(aA 2 ch++(aA 4 p.length++(p++(206::rest)))):=by simp[ep]
 have t1:(ep k ch p++rest).take 1=aA 1 k:=by rw[e1];exact Ig (bH 1 k)
 have d1:(ep k ch p++rest).drop 1=aA 2 ch++(aA 4 p.length++(p++(206::rest))):=by rw[e1];exact Gb (bH 1 k)
 have d3:(ep k ch p++rest).drop 3=aA 4 p.length++(p++(206::rest)):=by
  have:(ep k ch p++rest).drop 3=((ep k ch p++rest).drop 1).drop 2:=by rw[List.drop_drop]
  rw[this,d1];exact Gb (bH 2 ch)
 have d7:(ep k ch p++rest).drop 7=p++(206::rest):=by
  have:(ep k ch p++rest).drop 7=((ep k ch p++rest).drop 3).drop 4:=by rw[List.drop_drop]
  rw[this,d3];exact Gb (bH 4 _)
 have hl:¬(ep k ch p++rest).length<7:=by rw[e1];simp[bH];omega
 have n1:num (aA 1 k)=k:=HB 1 k hk;have n2:num (aA 2 ch)=ch:=HB 2 ch hc;have n4:num (aA 4 p.length)=p.length:=HB 4 _ hp;unfold dK;rw[if_neg ai,if_neg hl];simp only[t1,d1,d3,d7,Ig (bH 2 ch),Ig (bH 4 p.length),n1,n2,n4,hw];rw[if_neg al,if_neg al]
 have z:(p++206::rest).drop (p.length+1)=rest:=by rw[<-List.drop_drop];simp
 have y:(p++206::rest).drop p.length=206::rest:=al;simp only[z,y,List.take_left];simp[num]
def akG(size:Int):dK true [] size=(⟨0,0,[],false,false⟩,true,[]):=by simp[dK]
abbrev nU(W:World)(φ:Hp):Env prog:=(solo prog W).frame φ
variable {U:Hp}
def acr(F:FS){W:World}{φ:Hp}{a:F.γ}{ch:List UInt8}(gB:F.oH a ch)(hI:F.aut a U)(hp:F.ph a≠5)(hn:ch.length<=4611686018427387904):
 aw (nU W φ) 40 #[pV F.bc,.string (B ch)] U λe J=>e=.returned (.tuple #[])/\∃a',F.Loop (F.add a ch) a'/\F.aut a' J:=by
 rintro cs m T ⟨d,hm⟩;obtain⟨N,m',T',g',J,h1,h2,e,fr,rfl,hf,hl,rfl,a',ae,k1,k2,k3,rfl⟩:=acp F (W:=W) (φ0:=φ) gB hI d hp hn cs m T hm;refine⟨N,m',T',_,ae,h1,⟨k3,h2⟩,_,fr,rfl,hf,?_,rfl,a',k1,k2⟩;obtain⟨a1,a2,a3,fn,a4,a5⟩:=hl;refine⟨a1,a2,a3,fn,a4,?_⟩;rw[hf,func40]at a4;obtain rfl:=Option.some.inj a4;simp[results,bt]at a5|-
section
open Go.ChangeShapes Go.WideShapes Go.ChangeAt Go.RowKit Go.Lib
open Go.Proofs.YtpiabknabfbfhaaGreatDoor
def uR:List (String×DataW Unit):=[("errors.errorType",Rows.laid_errors_errorType),("unicode.properties",Rows.laid_unicode_properties),("unicode.Digit",Rows.laid_unicode_Digit),("unicode.Letter",Rows.laid_unicode_Letter)]
def uQ:List (String×DataW Unit):=[("unicode.properties",Rows.laid_unicode_properties),("unicode.Digit",Rows.laid_unicode_Digit),("unicode.Letter",Rows.laid_unicode_Letter)]
def S6:(uR.filter λx=>x.2.handleName?.isNone)=uQ:=ah
def LL:(uR.filter λx=>x.2.handleName?.isSome)=[("errors.errorType",Rows.laid_errors_errorType)]:=ah
def own:ownKnob prog.godebug=none:=ah
def ac6:prog.globalNamed "errors.errorType" =some 0:=ah
def QG:prog.globalNamed "unicode.properties" =some 1:=ah
def aop:(prog.cutTypes.find? (·.1== "internal/reflectlite.rtype")).map (·.2)=some 222:=ah
def aqx:prog.types.size=437:=ah
def alU:((List.range 437).filter λt=>prog.rowNamed t [101,114,114,111,114])=[45]:=ah
def aeD:typeHandle prog 45=hT 45:=ah
def amD:Rows.laid_unicode_properties (H:=Unit)=tabData .u8 propertiesTab:=ah
variable {W:World}
def ai8(h:laidMetH prog uR W):W.var? prog "errors.errorType" =some #[rT 45]:=by unfold laidMetH at h;rw[LL]at h;obtain⟨name,u,ty,e1,e2,e3,e4,e5⟩:=h.2 _ (List.mem_singleton.2 rfl);have en:name=[101,114,114,111,114]:=(Option.some.inj e1).symm;subst en;obtain rfl:=Option.some.inj (aop.symm.trans e2);have hm:ty∈(List.range 437).filter λt=>prog.rowNamed t [101,114,114,111,114]:=List.mem_filter.2 ⟨List.mem_range.2 (by rw[<-aqx];exact e3),e4⟩;rw[alU]at hm;obtain rfl:=List.mem_singleton.1 hm;rw[aeD]at e5;exact e5
def aja(h:laidMetH prog uR W):TabIs prog W "unicode.properties" .u8 propertiesTab:=by unfold laidMetH at h;rw[LL,S6]at h;have h1:=h.1;unfold uQ at h1;rw[amD]at h1;exact tabIs_of_head (t:=396) (e:=5) (n:=256) QG ah ah ah ah ah h1
def arJ:((begin prog (λ_ _=>0) default).world.heap[0]?).bind Obj.row?=some (#[.nilIface],143):=ah
def arK:∃z,((begin prog (λ_ _=>0) default).world.heap[1]?).bind Obj.row?=some (z,396):=⟨(((begin prog (λ_ _=>0) default).world.heap[1]?).bind Obj.row?).elim #[] (·.1),ah⟩
def ai9(hs:W.ShapedOpen prog)(h:laidMetH prog uR W):
 W.heap[0]? =some (.cells #[rT 45] 143 (0,0))/\W.heap[1]? =some (.cells (propertiesTab.map λz=>Value.int .u8 z).toArray 396 (0,0)):=by
 constructor
 ·obtain⟨cs,h1,_,_⟩:=hs.1 0 _ _ (of_decide_eq_true ah) arJ;have h2:=ai8 h;unfold World.var? at h2;rw[ac6]at h2;simp only[Option.bind_some,h1]at h2;rw[h1,Option.some.inj h2]
 ·obtain⟨z,hz⟩:=arK;obtain⟨cs,h1,_,_⟩:=hs.1 1 _ _ (of_decide_eq_true ah) hz;have h2:=aja h;unfold TabIs World.var? at h2;rw[QG]at h2;simp only[Option.bind_some,h1]at h2;rw[h1,Option.some.inj h2]
noncomputable def Rp(os:Os):World:=
 let w0:=World.holding prog os ⟨#[],#[],[]⟩
 {w0 with heap:=w0.heap.modify 0 λ
  | .cells _ t frozen=>.cells #[rT 45] t frozen
  |o=>o}
noncomputable def Ee(os:Os):World:=(Rp os).layVars prog uQ
def ai6(os:Os):(Ee os).os=os:=World.layVars_os _ _ _
def LK:(uQ.filter λx=>(uQ.map (·.1)).contains x.1)=uQ:=ah
def ai4:(uQ.filter λx=> !(uQ.map (·.1)).contains x.1)=[]:=ah
def ai5(os:Os)(args:Array Value):laidMetH prog uR ((Ee os).forCall (λ_ _=>0) ⟨#[],args,[]⟩).memory:=by
 refine laidMetH_of_parts ?_ ?_
 ·rw[S6];have h:laidMet prog uQ (Ee os):=laidMet_layVars (w0:=Rp os) (uQ.map (·.1)) [] (by rw[LK];rfl) (by rw[LK];kernel_rfl) (by rw[LK];kernel_rfl) (by rw[ai4];exact LaidIn.none);exact h.of_heap (by simp[World.memory,World.forCall,Input.heap])
 ·rw[LL]
  kernel_rfl
def ai7(os:Os)(args:Array Value):((Ee os).forCall (λ_ _=>0) ⟨#[],args,[]⟩).Shaped prog:=World.shaped_of_ZipB ah ah
variable {f:FuncId}{fn:Func}
def UQ{Ik:Tmp}{args:Array Value}{v0:Value}(D:Nat->Prop)(hi:prog.inits.idxOf? f=none)(rQ:prog.funcs[f]? =some fn)(eE:fn.results= #[.tmp Ik])(h:∀φ,aw (nU W φ) f args ((⟨λb=>W.heap[b]?⟩:Hp).only D) λe J=>e=.returned v0/\∀b,D b->J.f b=W.heap[b]?):
 ∃N last o w' t',runNT prog (N+1) (Conc.solo (G (Frame.enter prog f args .normal) []) W) #[]=(.ended o w',t')/\runN prog N (Conc.solo (G (Frame.enter prog f args .normal) []) W)=.next last/\step prog last=.ended o w'/\
  Conc.Good prog (λv w'=>v=v0/\Below W.heap.size W w') last o w' t':=by
 have hd:=Hp.alX (⟨λb=>W.heap[b]?⟩:Hp) D;have h1:=(h _).kz hd;rw[Hp.al0]at h1;refine apf (R:=λv ae=>v=v0/\(⟨λb=>W.heap[b]?⟩:Hp).le ae) hi rQ eE (h1.mono ?_) ?_
 ·rintro e J ⟨ae,jI,rfl,rfl,hk⟩;refine⟨v0,rfl,rfl,λb o hb=>?_⟩;by_cases hD:D b
  ·exact Hp.iQ ((hk b hD).trans hb)
  ·refine Hp.uT jI b o (Hp.EN (D:=λb=>¬D b) hb hD)
 ·rintro v ae auu w' ⟨rfl,hle⟩ hs hf
  have hb:∀k,k<W.heap.size->w'.heap[k]? =W.heap[k]? :=by intro k hk;obtain⟨o,ho⟩:∃o,W.heap[k]? =some o:=⟨_,Array.getElem?_eq_getElem hk⟩;rw[ho];exact hs.heap (hle k o ho)
  refine⟨rfl,hf.os,hf.tape,hf.output,?_,hb⟩;by_cases h0:W.heap.size=0
  ·omega
  ·have:=hb (W.heap.size-1) aa;have bd:W.heap.size-1<W.heap.size:=aa;rw[Array.getElem?_eq_getElem bd]at this;have:=(Array.getElem?_eq_some_iff.1 this).1;omega
def ajo{H:Type}{enc:TypeId×Value->H}{a:Assume}{C:Checked}{os:Os}{s:ChangeSpec}{conds:List PathCond}{apart fresh handsOn again:Bool}{X:World->Array Value->Prop}(hX:∀(w w':World) (args:Array Value),w.heap=w'.heap->X w args->X w' args)(own:ownKnob C.prog.godebug=none)(started:os.Started)(rQ:C.prog.funcs[f]? =some fn)(witness:∃(w:World) (tape:Tape) (i:Input),w.os=os/\(w.forCall tape i).Shaped C.prog/\i.vars=[]/\Input.okWide C.prog (w.forCall tape i) .any w.heap.size f i/\
  ((s.pre enc C.prog fn conds apart (w.forCall tape i).memory i.args/\X (w.forCall tape i).memory i.args)/\sizedMet enc C.prog fn (OpenSpec.ofChange s) apart (w.forCall tape i).memory i.args)/\a.holds C.prog (lone (Frame.enter C.prog f i.args .normal) [] (w.forCall tape i)))(runs:∀(W:World) (base:Nat) (args:Array Value) (ds gs:List (DataW H)) (before:List MemPlace),W.ShapedOpen C.prog->
  (∀(j:Nat) t v,fn.params[j]? =some t->args[j]? =some v->Value.okWide C.prog W .any base t v)->
  DataW.Whole enc C.prog fn.params.toList s.vars apart W args.toList ds gs before->
  (DataW.weightsEach C.prog (fn.params.toList++s.plain.varTypes C.prog) (ds++gs)).all (·<=reachBytes)=true->X W args->
  ∃M last o w' t',runNT C.prog (M+1) (Conc.solo (G (Frame.enter C.prog f args .normal) []) W) #[]=(.ended o w',t')/\runN C.prog M (Conc.solo (G (Frame.enter C.prog f args .normal) []) W)=.next last/\
   step C.prog last=.ended o w'/\Conc.Good C.prog (λv W'=>s.post enc C.prog fn apart fresh handsOn again W args v W') last o w' t'):
 ReturnsInLeavingWide a C os f .any (λw args=>(s.pre enc C.prog fn conds apart w args/\X w args)/\sizedMet enc C.prog fn (OpenSpec.ofChange s) apart w args) (s.post enc C.prog fn apart fresh handsOn again):=by
 refine returnsInLeavingWide_of_good own started witness ?_;intro w tape i _ xP _ gB agq _;obtain⟨_,_,_,CV,Ds,_,_,_,_,dt⟩:=gB;obtain rfl:CV=fn:=Option.some.inj (Ds.symm.trans rQ);obtain⟨⟨⟨ds,gs,before,hw,_⟩,hx⟩,hz⟩:=agq;have jz:=DataW.Whole.of_heap (w':=w.forCall tape i) (by rfl) hw;obtain⟨M,last,o,w',t',h1,h2,h3,h4⟩:=runs (w.forCall tape i) w.heap.size i.args ds gs before xP dt jz (hz.weights hw) (hX _ _ _ (by rfl) hx);exact⟨M,last,o,w',t',h1,h2,h3,h4.mono λv hp=>ChangeSpec.post_blind hp⟩
end
structure aR where
 seq:Int
 key:List UInt8
 body:List UInt8
 again:Bool
def aR.vals(m:aR):List Value:=[iV m.seq,sV m.key,sV m.body,.bool m.again]
def aR.v(m:aR):Value:=.agg #[iV m.seq,sV m.key,sV m.body,.bool m.again]
def bh(ms:List aR):List Value:=ms.flatMap aR.vals
def pB(ms:List aR):(bh ms).length=4*ms.length:=by
 induction ms with
 |nil=>rfl
 |cons m ms ih=>simp only[bh,List.flatMap_cons,List.length_append,List.length_cons]at ih|-;rw[ih];simp[aR.vals];omega
inductive gR (U:Hp) (ms:List aR):Value->Prop
 |none:ms=[]->gR U ms (.slice Option.none 0 0)
 |at(a:Nat) (pre pad:List Value) (c:Nat):ms.length<=c->4*(c-ms.length)<=pad.length->U.f a=some (.cells (pre++bh ms++pad).toArray 193 (0,0))->gR U ms (.slice (some ⟨a,pre.length,Option.none⟩) ms.length c)
variable {J:Hp}{ms:List aR}
def gR.le{v:Value}(h:gR U ms v)(k:U.le J):gR J ms v:=by
 cases h with
 |none h=>exact .none h
 |«at»a pre pad c h1 h2 h3=>exact .at a pre pad c h1 h2 (k _ _ h3)
variable {P:Program}{t:TypeId}{I:av}{b:Nat}
def UN{a u:Tmp}{v:Value}(ha:I a=pV b)(ht:dq P t=true)(h:jg P t ⟨b,0,none⟩ J=some v):lW P #[.cell a t,.tmp u] I J (.tuple #[v,I u]):=by unfold lW;have h2:=wI (Q:=λv' ae=>v'=v/\ae=J) (H:=λ_ _=>False) ht (uS h ⟨rfl,rfl⟩);simp only[aG,bt,asAddr];simp[ha];have e:((λx=>#[x,I u])<$>loadVar t ⟨b,0,none⟩:Sem (Array Value))=(loadVar t ⟨b,0,none⟩>>=λx=>pure #[x,I u]):=rfl;rw[e,aG];refine NA ?_ (λ_ _ h=>h) _ _ h2;rintro v' ae ⟨rfl,rfl⟩;simp[bt]
def apT:cC prog 193=4:=ah
def W5:dC prog 193=true:=ah
variable {pre pad:List Value}{m:aR}{e:Nat}
def Hq(h:J.f b=some (.cells (pre++m.vals++pad).toArray e (0,0))):jg prog 193 ⟨b,pre.length,none⟩ J=some m.v:=by unfold jg;rw[if_pos W5,apT];simp[cellsOf,h,aR.vals,aR.v]
def Ms{x:Option Obj}{o:Nat}{k:Value->Prop}(hx:x=some (.cells (pre++m.vals++pad).toArray e (0,0)))(ho:o=pre.length)(hk:k m.v):tE (cellsIn o 4 k) x:=by
 subst hx ho;rw[T7,aac];refine⟨by simp[aR.vals],?_⟩;have:((pre++m.vals++pad).toArray.extract pre.length (pre.length+4))= #[iV m.seq,sV m.key,sV m.body,.bool m.again]:=by simp[aR.vals]
 rw[this];exact hk
variable {E:Env prog}{q c:Nat}{name:List UInt8}{held last:Int}
def akB{b:Option Addr}{cons:Value}(hq:U.f q=some (fQ name (.slice b 0 c) held last cons)):
 aw E 90 #[pV q] U λe J=>e=.returned (.tuple #[(⟨0,[],[],false⟩:aR).v,.bool false])/\U.le J:=by
 refine aV func90 ntmps90 results90 λQ aD an aB=>?_;simp only[fQ]at hq;refine ag ?_;refineλb2 dA=>?_;have nq:¬q=b2:=bl dA hq;have gT:∀o,(U.set b2 o).f q=some (.cells [sV name,.slice b 0 c,iV held,iV last,cons].toArray 81 (0,0)):=λo=>(Hp.ay nq).trans hq;have z0:((0:Nat):Int)=0:=rfl;refine bu gT z0 ?_;have hle:∀o,U.le (U.set b2 o):=λo x p h=>by rw[Hp.ay (bl dA h)];exact h
 refine an (UN (b:=b2) (v:=(⟨0,[],[],false⟩:aR).v) (by simp[up]) SQ (Hq (pre:=[]) (pad:=[]) aX)) ao ⟨by simp[up],hle _⟩
variable {rv:Value}
def akA{cons:Value}(hq:U.f q=some (fQ name rv held last cons))(hm:gR U (m::ms) rv)(hn:ms.length<=1000):
 aw E 90 #[pV q] U λe J=>e=.returned (.tuple #[m.v,.bool true])/\∃jj,gR U ms jj/\(U.set q (fQ name jj held last cons)).le J/\∃(a off T8 n n' c c':Nat),rv=.slice (some ⟨a,off,none⟩) n c/\jj=.slice (some ⟨a,T8,none⟩) n' c':=by
 refine aV func90 ntmps90 results90 λQ aD an aB=>?_;simp only[fQ]at hq
 cases hm with
 |none h=>cases h
 |«at»a pre pad c h1 h2 h3=>
 obtain⟨n,xN⟩:∃n,n=(m::ms).length:=⟨_,rfl⟩;obtain⟨o,ho⟩:∃o,o=pre.length:=⟨_,rfl⟩;rw[<-xN,<-ho]at hq;have xO:n=ms.length+1:=by rw[xN];rfl
 refine ag ?_;refineλb2 dA=>?_;have nq:¬q=b2:=bl dA hq;have na:¬a=b2:=bl dA h3;have naq:¬a=q:=λe=>by subst e;rw[hq]at h3;simp at h3
 have gT:∀x,(U.set b2 x).f q=some (.cells [sV name,.slice (some ⟨a,o,none⟩) n c,iV held,iV last,cons].toArray 81 (0,0)):=λx=>(Hp.ay nq).trans hq;have z0:¬((n:Nat):Int)=0:=aa
 have lH:jg prog 193 ⟨a,o,none⟩ U=some m.v:=by rw[ho];exact Hq (e:=193) (pad:=bh ms++pad) (by rw[h3];simp[bh])
 have gm:∀x,jg prog 193 ⟨a,o,none⟩ (U.set b2 x)=some m.v:=λx=>by rw[ho];exact Hq (e:=193) (pad:=bh ms++pad) (by rw[Hp.ay na,h3];simp[bh])
 have qT:(0:Int)<=0/\(0:Int)<n:=aa;refine bu gT z0 ?_;refine⟨qT.2,?_⟩;refine ag ?_;refine Ms (pre:=pre) (pad:=bh ms++pad) (m:=m) (e:=193) (by rw[Hp.ay na,h3];simp[bh]) ho ?_;refineλb3 ig=>?_;have TS:¬q=b3:=λe=>by subst e;rw[gT]at ig;cases ig
 have nb:¬b3=b2:=bl ig aX;have l8:∀x y,((U.set b2 x).set b3 y).f q=some (.cells [sV name,.slice (some ⟨a,o,none⟩) n c,iV held,iV last,cons].toArray 81 (0,0)):=λx y=>(Hp.ay TS).trans (gT _);have aeJ:∀x y,((U.set b2 x).set b3 y).f b2=some x:=λx y=>(Hp.ay (λe=>nb e.symm)).trans aX;have GU:n<=c:=by rw[xN];exact h1
 simp only[go_sem,seval,l8,aR.v];refine⟨aa,?_⟩;have iK:∀x y z,(((U.set b2 x).set b3 y).set q z).f b2=some x:=λx y z=>(Hp.ay (λe=>nq e.symm)).trans (aeJ _ _);have D4:∀x y z,(((U.set b2 x).set b3 y).set q z).f b3=some y:=λx y z=>(Hp.ay (λe=>TS e.symm)).trans aX;refine bN l8 iK D4 ?_
 obtain⟨jj,iq,uu⟩:∃jj,jj=Value.slice (if c=1 then some ⟨a,o,none⟩else some ⟨a,o+4,none⟩) (n-1) (c-1)/\gR U ms jj:=by
  refine⟨_,rfl,?_⟩;have e1:n-1=ms.length:=aa;rw[e1];by_cases cF:c=1
  ·rw[if_pos cF,ho];have:ms.length=0:=aa;have GP:ms=[]:=List.length_eq_zero_iff.1 this;subst GP;exact .at a pre (m.vals++pad) (c-1) al (by simp;omega) (by rw[h3];simp[bh])
  ·rw[if_neg cF];have e2:o+4=(pre++m.vals).length:=by rw[ho];simp[aR.vals]
   rw[e2];have lB:4*(c-n)<=pad.length:=by rw[xN];exact h2
   exact .at a (pre++m.vals) pad (c-1) aa aa (by rw[h3];simp[bh])
 rw[<-iq];refine an (UN (b:=b2) (v:=m.v) (by simp[up]) SQ (Hq (pre:=[]) (pad:=[]) (m:=m) (e:=193) aX)) ao ⟨by simp[up],jj,uu,?_,?_⟩
 rotate_left
 ·by_cases cF:c=1
  ·exact⟨a,pre.length,o,_,_,c,_,rfl,by rw[iq,if_pos cF]⟩
  ·exact⟨a,pre.length,o+4,_,_,c,_,rfl,by rw[iq,if_neg cF]⟩
 intro x p hx;by_cases zG:x=q
 ·subst zG;rw[Hp.bD]at hx;rw[Hp.ay nq,Hp.bD,<-hx];rfl
 ·rw[Hp.ay zG]at hx;have n2:¬x=b2:=bl hx dA;have n3:¬x=b3:=λe=>by subst e;rw[Hp.ay nb,hx]at ig;cases ig
  rw[Hp.ay n2,Hp.ay zG,Hp.ay n3,Hp.ay n2];exact hx
def iW:oO prog 78 where
 e:=193
 z:=4
 zero:=#[.int .i64 0,.string (B []),.string (B []),.bool false]
 bytes:=48
 hu:=ah
 hi:=⟨t193,.agg #[.int .i64 0,.string (B []),.string (B []),.bool false],ah,ah,ah,rfl,ah⟩
def gR.shape{v:Value}(h:gR U ms v):∃b c,v=.slice b ms.length c:=by
 cases h with
 |none h=>subst h;exact⟨_,_,rfl⟩
 |«at»a pre pad c h1 h2 h3=>exact⟨_,_,rfl⟩
def gR.set{v:Value}(h:gR U ms v){x:Nat}{o:Obj}(hx:∀z,U.f x≠some (.cells z 193 (0,0))):gR (U.set x o) ms v:=by
 cases h with
 |none h=>exact .none h
 |«at»a pre pad c h1 h2 h3=>exact .at a pre pad c h1 h2 ((Hp.ay (λe=>by subst e;exact hx _ h3)).trans h3)
def arI(k:Nat):(Builtin.zeroCells iW.zero k).size=k*4:=by simp[Builtin.zeroCells,iW]
def Fq(k:Nat):(Builtin.zeroCells iW.zero k).toList.length=k*4:=by rw[<-arI,Array.length_toList]
def Tv(ms:List aR)(m:aR):bh (ms++[m])=bh ms++m.vals:=by simp[bh]
variable {ds:List Deferred}{dst:Option Tmp}{ty:TypeId}{pos:String}{af:Array Edge}{g:Option (Nat×Bool)}{nx:av->List Deferred->Hp->Prop}{pn:List PanicEntry->Hp->Prop}
def Ox{x y:Operand}{v0:Value}{bn:Nat}(hv:gR U ms v0)(hx:ak I x=v0)(hy:ak I y=.slice (some ⟨bn,0,none⟩) 1 1)(cD:U.f bn=some (.cells #[iV m.seq,sV m.key,sV m.body,.bool m.again] 193 (0,0)))(gn:ms.length<=1000000)(h:∀rv a o,(U.f a=none\/∃off n c z,v0=.slice (some ⟨a,off,none⟩) n c/\U.f a=some (.cells z 193 (0,0)))->(∀J:Hp,J.f a=some o->gR J (ms++[m]) rv)->(∃z,o=.cells z 193 (0,0))->nx (aC I dst rv) ds (U.set a o)):
 aT E ⟨dst,.call ⟨.builtin .append,#[x,y],#[78,78]⟩,ty,pos,af,g⟩ I ds U nx pn:=by
 have hn:tB (ak I y)=some 1:=by rw[hy];rfl
 have iZ:jd U iW.z 1 (ak I y)=some #[iV m.seq,sV m.key,sV m.body,.bool m.again]:=by rw[hy];show jd U 4 1 _=_;simp[jd,cellsOf,cD]
 have il:∀n,n<=1000000->(2*(n+1)+192)*iW.bytes<=2^48:=by intro n hn;show(2*(n+1)+192)*48<=2^48;omega
 cases hv with
 |none h0=>
  subst h0;refine sM iW (base:=none) (l:=0) (c:=0) (n:=1) (old:=#[]) (new:=_) ah hx hn rfl iZ (il 0 aa) aa (λhc=>aa) ?_;intro hc b cap fC jZ;refine h _ b _ (.inl fC) (λJ ht=>?_) ⟨_,rfl⟩;refine .at b [] (Builtin.zeroCells iW.zero (cap-1)).toList cap (aY jZ) ?_ ?_
  ·rw[Fq];simp;omega
  ·rw[ht];simp[bh,aR.vals,iW]
 |«at»a pre pad c h1 h2 h3=>
  have hold:jd U iW.z ms.length (.slice (some ⟨a,pre.length,none⟩) ms.length c)=some (bh ms).toArray:=by
   show(cellsOf U ⟨a,pre.length,none⟩ (ms.length*4))=_;have e:pre.length+ms.length*4<=pre.length+(bh ms).length+pad.length:=by rw[pB];omega
   have e2:ms.length*4=(bh ms).length:=by rw[pB];omega
   simp only[cellsOf,h3,List.size_toArray,List.length_append,true_and,if_pos e];congr 1;apply Array.ext';simp[e2]
  refine sM iW (base:=some ⟨a,pre.length,none⟩) (l:=ms.length) (c:=c) (n:=1) (old:=(bh ms).toArray) (new:=_) ah hx hn hold iZ (il _ gn) aa ?_ ?_
  ·intro hc;have hp4:4<=pad.length:=aa;have e2:ms.length*4=(bh ms).length:=by rw[pB];omega
   have e3:((pre++bh ms++pad).toArray.extract 0 (pre.length+ms.length*4)++ #[iV m.seq,sV m.key,sV m.body,.bool m.again]++(pre++bh ms++pad).toArray.extract (pre.length+ms.length*4+4) (pre++bh ms++pad).toArray.size)=(pre++bh (ms++[m])++pad.drop 4).toArray:=by
    apply Array.ext';rw[Tv,e2];simp[aR.vals,List.drop_append]
    have d1:(pre++(bh ms++pad)).take (pre.length+(bh ms).length)=pre++bh ms:=by rw[<-List.append_assoc,List.take_left' al]
    have k1:pre.length+(bh ms).length+4-pre.length-(bh ms).length=4:=aa;rw[List.drop_eq_nil_of_le (by omega:pre.length<=_),List.drop_eq_nil_of_le (by omega:(bh ms).length<=_),d1,k1,List.nil_append,List.nil_append,List.take_of_length_le (by simp;omega)];simp
   refine⟨_,⟨_,_,h3,rfl,?_,by simp[dn],rfl⟩,?_⟩
   ·show pre.length+ms.length*4+4<=_;simp[pB];omega
   ·show nx _ _ (U.set a (.cells ((pre++bh ms++pad).toArray.extract 0 (pre.length+ms.length*4)++ #[iV m.seq,sV m.key,sV m.body,.bool m.again]++(pre++bh ms++pad).toArray.extract (pre.length+ms.length*4+4) (pre++bh ms++pad).toArray.size) 193 (0,0)));rw[e3];have:=h (.slice (some ⟨a,pre.length,none⟩) (ms++[m]).length c) a _ (.inr ⟨_,_,_,_,rfl,h3⟩) (λJ ht=>.at a pre (pad.drop 4) c (by simp;omega) (by simp;omega) ht) ⟨_,rfl⟩;simp only[List.length_append,List.length_singleton]at this;exact this
  ·intro hc b cap fC jZ;have e2:ms.length*4=(bh ms).length:=by rw[pB];omega
   have:=h (.slice (some ⟨b,([]:List Value).length,none⟩) (ms++[m]).length cap) b (.cells ((bh ms).toArray++ #[iV m.seq,sV m.key,sV m.body,.bool m.again]++Builtin.zeroCells iW.zero (cap-(ms.length+1))) 193) (.inl fC) (λJ ht=>.at b [] (Builtin.zeroCells iW.zero (cap-(ms.length+1))).toList cap (aY jZ) (by rw[Fq];simp;omega) (by rw[ht,Tv];simp[aR.vals])) ⟨_,rfl⟩;simp only[List.length_append,List.length_singleton,List.length_nil]at this;exact this
variable {bb k st:Nat}{de messages bj:Int}{l:List (List UInt8×Value×Nat)}{key:List UInt8}
def amI{mq:Nat}{body:List UInt8}{cons:Value}(hb:U.f bb=some (ix mq de messages bj))(hm:U.f mq=some (aU bT l k))(hl:du l key=some (key,pV q,st))(hq:U.f q=some (fQ name rv held last cons))(hr:gR U ms rv)(hn:ms.length<=1000)(hh:0<=held/\held<=1000000)(afZ:(ms.length:Int)+held<de)(rW:0<=messages/\messages<=1000000000000):
 aw E 285 #[pV bb,sV key,sV body] U λe J=>e=.returned .nilIface/\∃jj a o,(U.f a=none\/∃off n c z,rv=.slice (some ⟨a,off,none⟩) n c/\U.f a=some (.cells z 193 (0,0)))/\(∃z,o=.cells z 193 (0,0))/\(∀bW:Hp,bW.f a=some o->gR bW (ms++[⟨messages+1,key,body,false⟩]) jj)/\
  (((U.set bb (ix mq de (messages+1) bj)).set a o).set q (fQ name jj held last cons)).le J:=by
 refine aV func285 ntmps285 results285 λQ aD an aB=>?_;obtain⟨b0,c0,iq⟩:=hr.shape;have cH:=hb;have bz:=hq;rw[iq]at bz;simp only[ix]at cH;simp only[fQ]at bz;have Ma:¬q=bb:=bl hb hq (by simp[fQ,ix]);refine aJ cH ?_;refine j9 (b:=mq) (k:=key) (l:=l) (c:=k) wG (z:=.pointer none) ah ?_ hm ?_ ?_
 ·exact au
 ·exact au
 have dt:((du l key).map (·.2.1)).getD (.pointer none)=pV q:=by rw[hl];rfl
 simp only[go_sem,seval,dt,Bool.false_eq_true];refine bJ 15 ?_;have wl:IntKind.i64.wrap ((ms.length:Int)+held)=(ms.length:Int)+held:=wrap64 aa aa;have wm:IntKind.i64.wrap (messages+1)=messages+1:=wrap64 aa aa;have c1:¬(ms.length:Int)+held>=de:=aa;have we:∀o,(U.set bb o).f q=some (.cells [sV name,.slice b0 ms.length c0,iV held,iV last,cons].toArray 81 (0,0)):=λo=>(Hp.ay Ma).trans bz;refine mr bz cH wl c1 wm ?_;refine bJ 17 ?_;refine aJ we ?_;refine⟨dJ we,?_⟩;refine ag ?_;have eb:(Obj.cells (([.map (some mq),iV de,iV messages,iV bj]:List Value).set 2 (.int .i64 (messages+1))).toArray 116)=ix mq de (messages+1) bj:=rfl;rw[eb];obtain⟨cY,sf⟩:∃cY,cY=U.set bb (ix mq de (messages+1) bj):=⟨_,rfl⟩;have jy:cY.f q=some (.cells [sV name,.slice b0 ms.length c0,iV held,iV last,cons].toArray 81 (0,0)):=by rw[sf];exact we _
 have fD:gR cY ms rv:=by rw[sf];exact hr.set (by rw[hb];intro z h;simp[ix]at h)
 rw[<-sf];refineλbn cD=>?_;have Mo:¬q=bn:=bl cD jy;have D1:∀x,(cY.set bn x).f q=some (.cells [sV name,.slice b0 ms.length c0,iV held,iV last,cons].toArray 81 (0,0)):=λx=>(Hp.ay Mo).trans jy;have kG:∀x,cY.le (cY.set bn x):=λx y p h=>by rw[Hp.ay (bl cD h)];exact h
 refine⟨dJ D1,?_⟩;refine ag ?_;refine Ox (ms:=ms) (m:=⟨messages+1,key,body,false⟩) (v0:=rv) (bn:=bn) (fD.le (kG _)) ?_ ?_ aX aa ?_
 ·simp only[go_sem,seval];exact iq.symm
 ·exact au
 intro jj a o ha rU ho
 have dk:¬a=bn/\(cY.f a=none\/∃off n c z,rv=.slice (some ⟨a,off,none⟩) n c/\cY.f a=some (.cells z 193 (0,0))):=by
  rcases ha with ha|⟨off,n,c,z,e1,e2⟩
  ·have n1:¬a=bn:=bl ha aX;exact⟨n1,.inl ((Hp.ay n1).symm.trans ha)⟩
  ·have h1:∃z,cY.f a=some (.cells z 193 (0,0)):=by
    rw[e1]at fD
    cases fD with
    |«at»_ pre pad _ _ _ h3=>exact⟨_,h3⟩
   obtain⟨z',uH⟩:=h1;exact⟨(bl cD uH),.inr ⟨off,n,c,z',e1,uH⟩⟩
 have Mm:¬q=a:=λe=>by
  subst e;rcases dk.2 with h|⟨_,_,_,_,_,h⟩
  ·rw[jy]at h;cases h
  ·rw[jy]at h;simp at h
 have DY:∀x y,((cY.set bn x).set a y).f q=some (.cells [sV name,.slice b0 ms.length c0,iV held,iV last,cons].toArray 81 (0,0)):=λx y=>(Hp.ay Mm).trans (D1 x);refine⟨dJ DY,?_⟩;obtain⟨b1,vG,agz⟩:=(rU _ (Hp.bD (U:=U) a o)).shape;subst agz;refine aJ DY ?_;refine⟨dJ DY,?_⟩
 have dm:¬a=bb/\(U.f a=none\/∃off n c z,rv=.slice (some ⟨a,off,none⟩) n c/\U.f a=some (.cells z 193 (0,0))):=by
  have n1:¬a=bb:=λe=>by subst e;rcases dk.2 with h|⟨_,_,_,_,_,h⟩<;>(rw[sf,Hp.bD]at h;simp[ix]at h)
  refine⟨n1,?_⟩;rcases dk.2 with h|⟨off,n,c,z,e1,h⟩
  ·left;rw[sf,Hp.ay n1]at h;exact h
  ·right;rw[sf,Hp.ay n1]at h;exact⟨off,n,c,z,e1,h⟩
 refine an aI ao ⟨by simp[up],_,a,o,dm.2,ho,rU,?_⟩;rw[<-sf];exact iv (iv (kG _) _ _) _ _
def um(q:Nat)(m:aR):Value:=.agg #[pV q,iV m.seq,sV m.key,sV m.body,.bool m.again]
def acw{mq:Nat}(hb:U.f bb=some (ix mq de messages bj))(hm:U.f mq=some (aU bT l k))(hl:du l key=some (key,pV q,st)):
 aw E 287 #[pV bb,sV key] U λe J=>e=.returned (.tuple #[pV q,.nilIface])/\J=U:=by
 refine fZ func287 ntmps287 results287 rfl al λQ aD an aB=>?_;simp only[ix]at hb;refine aJ hb ?_;refine j9 (b:=mq) (k:=key) (l:=l) (c:=k) wG (z:=.pointer none) ah ?_ hm ?_ ?_
 ·exact au
 ·exact au
 have dt:((du l key).map (·.2.1)).getD (.pointer none)=pV q:=by rw[hl];rfl
 simp only[go_sem,seval,dt,Bool.false_eq_true];exact an ji ao ⟨by simp[up],rfl⟩
@[go_sem] def asH{p q:Prop}{b:Bool}:mB p q b none=q:=by simp[mB]
@[go_sem] def arW:Cx undef=none:=bp
def lz(h:Nat)(no:Int)(tag:List UInt8)(q:Nat)(fJ:Bool):Obj:=.cells [.iface 185 (pV h),iV no,sV tag,pV q,.bool fJ].toArray 191 (0,0)
def P5:oO prog 79 where
 e:=186
 z:=1
 zero:=#[.pointer none]
 bytes:=8
 hu:=ah
 hi:=⟨t186,.pointer none,ah,ah,ah,rfl,ah⟩
variable {h:Nat}{cv:Value}
def aa2{mq cb:Nat}{TQ:Int}{tag:List UInt8}{fJ:Bool}{cs:List Nat}(hb:U.f bb=some (ix mq de messages bj))(hc:U.f cb=some (lz h TQ tag q fJ))(hq:U.f q=some (fQ name rv held last cv))(hv:Sl 186 U (cs.map pV) cv)(hn:cs.length<=1000)(b1:0<=bj/\bj<=1000000000000):
 aw E 290 #[pV bb,pV cb] U λe J=>e=.returned (.tuple #[])/\∃a pad,(U.f a=none\/∃c,cv=.slice (some ⟨a,0,none⟩) cs.length c)/\
  ((((U.set bb (ix mq de messages (bj+1))).set cb (lz h (bj+1) tag q fJ)).set a (.cells (cs.map pV++[pV cb]++pad).toArray 186 (0,0))).set q (fQ name rv held last (.slice (some ⟨a,0,none⟩) (cs.length+1) (cs.length+1+pad.length)))).le J:=by
 refine aV func290 ntmps290 results290 λQ aD an aB=>?_;have EC:¬cb=bb:=bl hc hb (by simp[ix,lz]);have Ma:¬q=bb:=bl hq hb (by simp[ix,fQ]);have EE:¬q=cb:=bl hq hc (by simp[lz,fQ]);have cH:=hb;have cE:=hc;have bz:=hq;simp only[ix]at cH;simp only[lz]at cE;simp only[fQ]at bz;have w1:IntKind.i64.wrap (bj+1)=bj+1:=wrap64 aa aa;have bc:∀o,(U.set bb o).f cb=_:=λo=>(Hp.ay EC).trans cE;have Pq:∀o p,((U.set bb o).set cb p).f q=_:=λo p=>(Hp.ay EE).trans ((Hp.ay Ma).trans bz);refine bN cH w1 bc ?_;refine bJ 17 ?_;refine aJ Pq ?_;have eb:(Obj.cells (([.map (some mq),iV de,iV messages,iV bj]:List Value).set 3 (.int .i64 (bj+1))).toArray 116)=ix mq de messages (bj+1):=rfl;have ec:(Obj.cells (([.iface 185 (pV h),iV TQ,sV tag,pV q,.bool fJ]:List Value).set 1 (.int .i64 (bj+1))).toArray 191)=lz h (bj+1) tag q fJ:=rfl;rw[eb,ec];obtain⟨jo,tq⟩:∃jo,jo=(U.set bb (ix mq de messages (bj+1))).set cb (lz h (bj+1) tag q fJ):=⟨_,rfl⟩;have gT:jo.f q=some (.cells [sV name,rv,iV held,iV last,cv].toArray 81 (0,0)):=by rw[tq];exact Pq _ _
 have dV:jo.f cb=some (.cells [.iface 185 (pV h),iV (bj+1),sV tag,pV q,.bool fJ].toArray 191 (0,0)):=by rw[tq];exact Hp.bD _ _
 have mf:Sl 186 jo (cs.map pV) cv:=by
  cases hv with
  |nil h=>exact .nil h
  |«at»a pad ha=>
   refine .at a pad ?_;have n1:¬a=bb:=bl ha hb (by simp[ix]);have n2:¬a=cb:=bl ha hc (by simp[lz]);rw[tq,Hp.ay n2,Hp.ay n1];exact ha
 rw[<-tq];refineλbn cD=>?_;have Mo:¬q=bn:=bl cD gT;have D1:∀x,(jo.set bn x).f q=some (.cells [sV name,rv,iV held,iV last,cv].toArray 81 (0,0)):=λx=>(Hp.ay Mo).trans gT;have kG:∀x,jo.le (jo.set bn x):=λx y p h=>by rw[Hp.ay (bl cD h)];exact h
 have mF:=λx=>kG x _ _ dV;refine⟨jf D1 mF,?_⟩;refine ag ?_
 have hvn:∀x,Sl 186 (jo.set bn x) (cs.map pV) cv:=λx=>by
  cases mf with
  |nil h=>exact .nil h
  |«at»a pad ha=>exact .at a pad (kG x _ _ ha)
 refine app1 P5 rfl ai (z0:=.pointer none) rfl ah (xs:=cs.map pV) (v0:=cv) (w:=pV cb) (bn:=bn) (hvn _) ?_ ?_ aX rfl (by simpa using(by omega:cs.length<=1000000)) ?_
 ·exact au
 ·exact au
 intro a pad ha
 have gK:¬a=bn/\(jo.f a=none\/∃c,cv=.slice (some ⟨a,0,none⟩) cs.length c/\∃z,jo.f a=some (.cells z 186 (0,0))):=by
  rcases ha with ha|⟨c,e1⟩
  ·have n1:¬a=bn:=bl ha aX;exact⟨n1,.inl ((Hp.ay n1).symm.trans ha)⟩
  ·have h1:∃z,jo.f a=some (.cells z 186 (0,0)):=by
    rw[e1]at mf
    cases mf with
    |«at»_ pad h3=>exact⟨_,h3⟩
   obtain⟨z,hz⟩:=h1;exact⟨(bl cD hz),.inr ⟨c,by simpa using e1,z,hz⟩⟩
 have Mm:¬q=a:=λe=>by
  subst e;rcases gK.2 with h|⟨_,_,_,h⟩
  ·rw[gT]at h;cases h
  ·rw[gT]at h;simp at h
 have DY:∀x y,((jo.set bn x).set a y).f q=some (.cells [sV name,rv,iV held,iV last,cv].toArray 81 (0,0)):=λx y=>(Hp.ay Mm).trans (D1 x)
 have Hy:¬cb=a:=λe=>by
  subst e;rcases gK.2 with h|⟨_,_,_,h⟩
  ·rw[dV]at h;cases h
  ·rw[dV]at h;simp at h
 have Rx:∀x y,((jo.set bn x).set a y).f cb=some (.cells [.iface 185 (pV h),iV (bj+1),sV tag,pV q,.bool fJ].toArray 191 (0,0)):=λx y=>(Hp.ay Hy).trans (mF x);refine⟨dJ Rx,?_⟩;refine aJ DY ?_;have hcq:∀x y z,(((jo.set bn x).set a y).set q z).f cb=some (.cells [.iface 185 (pV h),iV (bj+1),sV tag,pV q,.bool fJ].toArray 191 (0,0)):=λx y z=>(Hp.ay (λe=>EE e.symm)).trans (Rx x y);refine⟨dJ hcq,?_⟩
 have fG:U.f a=none\/∃c,cv=.slice (some ⟨a,0,none⟩) cs.length c:=by
  rcases gK.2 with h|⟨c,e1,_⟩
  ·left;have n1:¬a=cb:=λe=>Hy e.symm;have n2:¬a=bb:=λe=>by subst e;rw[tq,Hp.ay n1,Hp.bD]at h;cases h
   rw[tq,Hp.ay n1,Hp.ay n2]at h;exact h
  ·exact .inr ⟨c,e1⟩
 refine aD dz ao ⟨rfl,a,pad,fG,?_⟩;rw[List.length_map,<-tq];exact iv (iv (kG _) _ _) _ _
def Sl.block{ety:TypeId}{xs:List Value}{a:Nat}(h:Sl ety U xs (.slice (some ⟨a,0,none⟩) n c)):∃z,U.f a=some (.cells z ety (0,0)):=by
 generalize hv:Value.slice (some ⟨a,0,none⟩) n c=v at h
 cases h with
 |nil h=>cases hv
 |«at»b pad hb=>
  simp only[Value.slice.injEq,Option.some.injEq,Addr.mk.injEq]at hv;obtain⟨⟨rfl,_,_⟩,_,_⟩:=hv;exact⟨_,hb⟩
def HR.free(hr:HR)(n:Nat):Bool:=decide (hr.mo=0)||decide ((n:Int)<hr.mo)
structure ib where
 cb:Nat
 h:Nat
 no:Int
 tag:List UInt8
 fJ:Bool
 free:Bool
def Wj(U:Hp)(q:Nat)(x:ib):Prop:=U.f x.cb=some (lz x.h x.no x.tag q x.fJ)/\∃c un co k no hr l,U.f x.h=some (iH c no un co hr)/\U.f un=some (aU aW l k)/\x.free=hr.free l.length
def ib.may(x:ib):Bool:=x.fJ||x.free
def Ca(xs:List ib)(last:Int):Option ib:=((xs.filter ib.may).find? λx=>decide (x.no>last)).or (xs.filter ib.may).head?
def rh:Option ib->Value
 |some x=>pV x.cb
 |none=>.pointer none
def ajt{p:Prop}{k:Value->Prop}{m:Option Nat}:oE P p k t (.map m)=p:=by
 unfold oE
 cases xY P t (.map m)<;>rfl
def acM{un co:Nat}{no:Int}{hr:HR}{l:List (Int×Value×Nat)}(hh:U.f h=some (iH c no un co hr))(hu:U.f un=some (aU aW l k)):
 aw E 327 #[pV h] U λe J=>e=.returned (.bool (hr.free l.length))/\J=U:=by
 refine fZ func327 ntmps327 results327 rfl al λQ aD an aB=>?_;simp only[iH,HR.vals]at hh;refine ag ?_;refine AP [0,1,2,3,4,5,6,7,8,9,11,12,13,14,10,15,16,17] ?_;by_cases h0:hr.mo=0
 ·refine bu hh h0 ?_;exact an aI ao ⟨by simp[up,HR.free,h0],rfl⟩
 ·refine bu hh h0 ?_;rw[ajt];refine Hu BD ?_ hu ?_
  ·exact au
  refine⟨dJ hh,?_⟩;refine ag ?_;refine an aI ao ⟨?_,rfl⟩;simp[up,HR.free,h0]
def ajV{Q:FuncId×Value->Hp->Prop}{H:Halt->Hp->Prop}:wpS prog (method (prog.types.size+Made.depth) 185 (pV h) "Free") Q H U=Q (327,pV h) U:=ah
def VA{ys:List ib}(h:∀x∈ys,x.may=true->¬x.no>last){zs:List ib}:Ca (ys++zs) last=((zs.filter ib.may).find? λx=>decide (x.no>last)).or ((ys++zs).filter ib.may).head?:=by
 unfold Ca;rw[List.filter_append,List.find?_append]
 have:(ys.filter ib.may).find? (λx=>decide (x.no>last))=none:=by rw[List.find?_eq_none];intro x hx;obtain⟨h1,h2⟩:=List.mem_filter.1 hx;simpa using h x h1 h2
 rw[this,Option.none_or]
def aqs{xs:List ib}(hq:U.f q=some (fQ name rv held last cv))(hv:Sl 186 U (xs.map λx=>pV x.cb) cv)(hx:∀x∈xs,Wj U q x)(hn:xs.length<=1000):
 aw E 89 #[pV q] U λe J=>e=.returned (rh (Ca xs last))/\J=U:=by
 refine fZ func89 ntmps89 results89 rfl al λQ aD an aB=>?_;obtain⟨base,cap,rfl,afn⟩:=hv.read;have bz:=hq;simp only[fQ]at bz;refine aJ bz ?_
 refine dh (λmm I ds ae=>ds=[]/\ae=U/\I 0=pV q/\I 9=.slice base xs.length cap/\I 10=iV xs.length/\
  ∃i:Nat,i+mm=xs.length/\I 11=iV i/\I 3=rh ((xs.take i).filter ib.may).head?/\∀x∈xs.take i,x.may=true->¬x.no>last) xs.length ?_ ?_
 ·refine⟨rfl,rfl,?_,?_,?_,0,aa,?_,?_,al⟩<;>exact au
  all_goals rfl
 ·rintro mm I ds ae X ⟨rfl,rfl,r0,r9,zX,i,Bl,zY,r3,eC⟩ hX
  cases mm with
  |zero=>
   have c0:¬(i:Int)<xs.length:=aa;refine fR zX zY c0 r3 ?_;have ht:xs.take i=xs:=List.take_of_length_le aa;rw[ht]at eC;have e:=VA eC (zs:=[]);simp only[List.append_nil,List.filter_nil,List.find?_nil,Option.none_or]at e;refine an aI ao ⟨?_,rfl⟩;rw[e,ht];simp[up]
  |succ mm=>
   have c0:(i:Int)<xs.length:=aa;have hi:i<xs.length:=aa;obtain⟨a,L,Dj,ha,hL⟩:=afn i hi;subst Dj;obtain⟨RG,c,un,co,k,no,hr,l,RV,wA,KC⟩:=hx xs[i] (List.getElem_mem hi);obtain⟨x,uF⟩:∃x,x=xs[i]:=⟨_,rfl⟩;rw[<-uF]at RG RV KC;have vV:=RG;simp only[lz]at vV;have Gp:L[i]? =some (pV x.cb):=by rw[uF];simpa using hL
   have wi:=fT i;have wx:xs.take (i+1)=xs.take i++[x]:=by rw[List.take_succ_eq_append_getElem hi,uF]
   refine fR zX zY c0 r9 ?_;refine⟨aa,?_⟩
   have Qd:x.may=true->x.no>last->Ca xs last=some x:=λh1 h2=>by
    have e1:xs=xs.take i++(x::xs.drop (i+1)):=by rw[uF,<-List.drop_eq_getElem_cons hi,List.take_append_drop]
    have e2:=VA eC (zs:=x::xs.drop (i+1));rw[<-e1]at e2;rw[e2,List.filter_cons_of_pos h1,List.find?_cons_of_pos (aY h2),Option.some_or]
   cases zx:x.fJ with
   |true=>
    have xM:x.may=true:=by simp[ib.may,zx]
    simp only[go_sem,seval,ha,Gp,Nat.mul_one,Nat.zero_add,Int.toNat_natCast,vV,zx,Bool.not_true];refine bJ 9 ?_;by_cases mH:x.no>last
    ·simp only[go_sem,seval,r0,bz,vV,mH];refine an aI ao ⟨?_,rfl⟩;rw[Qd xM mH];simp[up,rh]
    ·have zA:∀z∈xs.take (i+1),z.may=true->¬z.no>last:=λz hz hm=>by
      rw[wx,List.mem_append,List.mem_singleton]at hz;rcases hz with hz|rfl
      ·exact eC z hz hm
      ·exact mH
     have lG:((xs.take (i+1)).filter ib.may).head?=((xs.take i).filter ib.may).head?.or (some x):=by rw[wx,List.filter_append,List.head?_append];simp[xM]
     cases Dw:((xs.take i).filter ib.may).head? with
     |none=>
      rw[Dw]at r3 lG;simp only[rh]at r3;simp only[go_sem,seval,r0,bz,vV,mH,r3,zY,wi];refine hX mm _ _ _ _ aa ⟨rfl,rfl,?_,?_,?_,i+1,aa,?_,?_,zA⟩ ao
      all_goals simp only[go_sem,seval,r0,r9,zX,lG,rh,Option.none_or]
     |some y=>
      rw[Dw]at r3 lG;simp only[rh]at r3;simp only[go_sem,seval,r0,bz,vV,mH,r3,zY,wi];refine hX mm _ _ _ _ aa ⟨rfl,rfl,?_,?_,?_,i+1,aa,?_,?_,zA⟩ ao
      all_goals simp only[go_sem,seval,r0,r9,zX,r3,lG,rh,Option.some_or]
   |false=>
    simp only[go_sem,seval,ha,Gp,Nat.mul_one,Nat.zero_add,Int.toNat_natCast,vV,zx,Bool.not_false];refine mh (t:=185) (v:=pV x.h) (recv:=pV x.h) (f:=327) (name:= "Free") ?_ (λQ H h=>by rw[ajV];exact h) ?_
    ·exact au
    refine ag ?_;refine aZ (acM RV wA) ?_
    cases gM:x.free with
    |false=>
     have Bh:hr.free l.length=false:=by rw[<-KC,gM]
     have xM:x.may=false:=by simp[ib.may,zx,gM]
     simp only[go_sem,seval,Bh,Bool.not_false,zY,wi]
     have zA:∀z∈xs.take (i+1),z.may=true->¬z.no>last:=λz hz hm=>by
      rw[wx,List.mem_append,List.mem_singleton]at hz;rcases hz with hz|rfl
      ·exact eC z hz hm
      ·rw[xM]at hm;cases hm
     have lG:((xs.take (i+1)).filter ib.may).head?=((xs.take i).filter ib.may).head?:=by rw[wx,List.filter_append];simp[xM]
     refine hX mm _ _ _ _ aa ⟨rfl,rfl,?_,?_,?_,i+1,aa,?_,?_,zA⟩ ao
     all_goals simp only[go_sem,seval,r0,r9,zX,r3,lG]
    |true=>
     have Bh:hr.free l.length=true:=by rw[<-KC,gM]
     have xM:x.may=true:=by simp[ib.may,zx,gM]
     simp only[go_sem,seval,Bh,Bool.not_true];refine bJ 9 ?_;by_cases mH:x.no>last
     ·simp only[go_sem,seval,r0,bz,vV,mH];refine an aI ao ⟨?_,rfl⟩;rw[Qd xM mH];simp[up,rh]
     ·have zA:∀z∈xs.take (i+1),z.may=true->¬z.no>last:=λz hz hm=>by
       rw[wx,List.mem_append,List.mem_singleton]at hz;rcases hz with hz|rfl
       ·exact eC z hz hm
       ·exact mH
      have lG:((xs.take (i+1)).filter ib.may).head?=((xs.take i).filter ib.may).head?.or (some x):=by rw[wx,List.filter_append,List.head?_append];simp[xM]
      cases Dw:((xs.take i).filter ib.may).head? with
      |none=>
       rw[Dw]at r3 lG;simp only[rh]at r3;simp only[go_sem,seval,r0,bz,vV,mH,r3,zY,wi];refine hX mm _ _ _ _ aa ⟨rfl,rfl,?_,?_,?_,i+1,aa,?_,?_,zA⟩ ao
       all_goals simp only[go_sem,seval,r0,r9,zX,lG,rh,Option.none_or]
      |some y=>
       rw[Dw]at r3 lG;simp only[rh]at r3;simp only[go_sem,seval,r0,bz,vV,mH,r3,zY,wi];refine hX mm _ _ _ _ aa ⟨rfl,rfl,?_,?_,?_,i+1,aa,?_,?_,zA⟩ ao
       all_goals simp only[go_sem,seval,r0,r9,zX,r3,lG,rh,Option.some_or]
section
variable {β:Type}
variable {α:Type}[DecidableEq α]
def bq (l:List (α×β))(k:α):Option β:=(l.find? λe=>decide (e.1=k)).map (·.2)
def dD (l:List (α×β))(k:α)(f:β->β):List (α×β):=l.map λe=>if e.1=k then(e.1,f e.2)else e
def cB (l:List (α×β))(k:α):List (α×β):=l.filter λe=>decide (e.1≠k)
def cZ (lt:α->α->Bool):List (α×β)->α->β->List (α×β)
 |[],k,v=>[(k,v)]
 |e::l,k,v=>if lt k e.1 then(k,v)::e::l else e::cZ lt l k v
end
structure QN where
 ready:List aR
 held:Int
 last:Int
 cons:List Int
structure HN where
 r:HR
 un:List (Nat×(List UInt8×aR))
 co:List (List UInt8×Int)
structure CN where
 r:CR
 ch:List (Nat×HN)
structure XN where
 id:Int
 no:Nat
 tag:List UInt8
 q:List UInt8
 fJ:Bool
structure N where
 cfg:kt
 clock:Int
 last:Int
 messages:Int
 bj:Int
 aF:List (Int×CN)
 aN:List (List UInt8×QN)
 xs:List (Int×XN)
def N.ar(n:N)(id:Int):Option CN:=bq n.aF id
def N.h?(n:N)(id:Int)(no:Nat):Option HN:=(n.ar id).bind λc=>bq c.ch no
def N.q?(n:N)(nm:List UInt8):Option QN:=bq n.aN nm
def N.x?(n:N)(k:Int):Option XN:=bq n.xs k
def N.dM(n:N)(id:Int)(f:CN->CN):N:={n with aF:=dD n.aF id f}
def N.bE(n:N)(id:Int)(f:CR->CR):N:=n.dM id λc=>{c with r:=f c.r}
def N.bC(n:N)(id:Int)(no:Nat)(f:HN->HN):N:=n.dM id λc=>{c with ch:=dD c.ch no f}
def N.cN(n:N)(id:Int)(no:Nat)(f:HR->HR):N:=n.bC id no λh=>{h with r:=f h.r}
def N.bK(n:N)(nm:List UInt8)(f:QN->QN):N:={n with aN:=dD n.aN nm f}
def N.ph (n:N)(id:Int):Int:=((n.ar id).map (·.r.ph)).getD 5
def N.send(n:N)(id:Int)(s:List UInt8):N:=n.bE id λr=>{r with out:=r.out++s,iu:=n.clock}
def N.may(n:N)(k:Int):Bool:=match n.x? k with
 |some x=>x.fJ||(match n.h? x.id x.no with|some h=>h.r.free h.un.length|none=>false)
 |none=>false
def N.vq(n:N)(q:QN):Option Int:=((q.cons.filter n.may).find? λk=>decide (k>q.last)).or (q.cons.filter n.may).head?
def N.hand(n:N)(id:Int)(no:Nat)(nm:List UInt8)(m:aR)(fJ:Bool):N:=
 if fJ then n.cN id no λr=>{r with tag:=r.tag+1}
 else(n.bC id no λh=>{h with r:={h.r with tag:=h.r.tag+1},un:=h.un++[((h.r.tag+1).toNat,(nm,m))]}).bK nm λq=>{q with held:=q.held+1}
def N.tag (n:N)(id:Int)(no:Nat):Nat:=(((n.h? id no).map λ(h:HN)=>h.r.tag).getD 0).toNat
def N.frame (n:N)(id:Int):Nat:=(((n.ar id).map λ(c:CN)=>c.r.frame).getD 0).toNat
def N.give(n:N)(id:Int)(no:Nat)(m:aR)(s:List UInt8):N:=(n.send id s).send id (mz no m.body (n.frame id))
def N.take(n:N)(k:Int)(m:aR):N:=match n.x? k with
 |none=>n
 |some x=>(n.hand x.id x.no x.q m x.fJ).give x.id x.no m (ck x.no 60 60 [.text x.tag,.mM (n.tag x.id x.no+1),.flag m.again,.text m.key])
def N.ja(n:N)(nm:List UInt8):Option N:=match n.q? nm with
 |none=>none
 |some q=>match q.ready with
  |[]=>none
  |m::_=>match n.vq q with
   |none=>none
   |some k=>some ((n.bK nm λq=>{q with ready:=q.ready.tail,last:=k}).take k m)
def N.kM:Nat->N->List UInt8->N
 |0,n,_=>n
 |f+1,n,nm=>match n.ja nm with
  |none=>n
  |some n'=>kM f n' nm
def N.ready (n:N)(nm:List UInt8):Nat:=((n.q? nm).map (·.ready.length)).getD 0
def N.serve(n:N):N:=(n.aN.map (·.1)).foldl (λn nm=>n.kM (n.ready nm) nm) n
def jA(ms:List aR)(m:aR):List aR:=ms.takeWhile (λx=>decide (x.seq<m.seq))++{m with again:=true}::ms.dropWhile (λx=>decide (x.seq<m.seq))
def N.settle(n:N)(id:Int)(no:Nat)(tag:Nat)(back:Bool):N:=match(n.h? id no).bind λh=>bq h.un tag with
 |none=>n
 |some (nm,m)=>(n.bC id no λh=>{h with un:=cB h.un tag}).bK nm λq=>{q with held:=q.held-1,ready:=if back then jA q.ready m else q.ready}
def N.cancel(n:N)(k:Int):N:=match n.x? k with
 |none=>n
 |some x=>{n.bK x.q λq=>{q with cons:=q.cons.filter λj=>decide (j≠k)}with xs:=cB n.xs k}
def N.release(n:N)(id:Int)(no:Nat):N:=match n.h? id no with
 |none=>n
 |some h=>h.un.foldl (λn e=>n.settle id no e.1 true) ((h.co.foldl (λn e=>n.cancel e.2) n).bC id no λh=>{h with co:=[]})
def N.leave(n:N)(id:Int):N:=match n.ar id with
 |none=>n
 |some c=>(c.ch.foldl (λn e=>n.release id e.1) n).dM id λc=>{c with ch:=[]}
def N.pS(n:N)(id:Int)(no:Nat):N:=(n.release id no).dM id λc=>{c with ch:=cB c.ch no}
def qL(e cl me:Nat):List Arg:=[.short e,.text [],.short cl,.short me]
def N.soft(n:N)(id:Int)(no:Nat)(e cl me:Nat):N:=((n.release id no).cN id no λr=>{r with closing:=true}).send id (ck no 20 40 (qL e cl me))
def N.cL(n:N)(id:Int)(e cl me:Nat):N:=((n.leave id).bE id λr=>{r with ph:=4}).send id (ck 0 10 50 (qL e cl me))
inductive Er where
 |nil
 |soft (e cl me:Nat)
 |cL (e cl me:Nat)
inductive HO where
 |ok (n:N) (er:Er)
 |bad (cl me:Nat)
def okB(b:UInt8):Bool:=let n:=b.toNat
 (decide (97<=n)&&decide (n<=122))||(decide (65<=n)&&decide (n<=90))||(decide (48<=n)&&decide (n<=57))||decide (n=46)||decide (n=95)||decide (n=45)
def named(s:List UInt8):Bool:=decide (s≠[])&&decide (s.length<=16)&&s.all okB
def N.declare(n:N)(id:Int)(no:Nat)(s:List UInt8)(cl me:Nat):HO:=match jE s with
 |some (nm,[])=>match n.q? nm with
  |some q=>.ok (n.send id (ck no 50 11 [.text nm,.long q.ready.length,.long q.cons.length])) .nil
  |none=>if named nm=false then .ok n (.cL 502 cl me)else if n.aN.length=8 then .ok n (.soft 506 cl me)
   else .ok (({n with aN:=cZ cP n.aN nm ⟨[],0,0,[]⟩}:N).send id (ck no 50 11 [.text nm,.long 0,.long 0])) .nil
 |_=>.bad cl me
def N.pD(n:N)(id:Int)(no:Nat)(s:List UInt8)(cl me:Nat):HO:=match jE s with
 |some (nm,[])=>match n.q? nm with
  |some q=>.ok ((n.bK nm λq=>{q with ready:=[]}).send id (ck no 50 31 [.long q.ready.length])) .nil
  |none=>.ok n (.soft 404 cl me)
 |_=>.bad cl me
def N.sB(n:N)(id:Int)(no:Nat)(s:List UInt8)(cl me:Nat):HO:=match fp 2 s with
 |some (k,[])=>.ok ((n.cN id no λr=>{r with mo:=k}).send id (ck no 60 11 [])) .nil
 |_=>.bad cl me
def N.kP(n:N)(id:Int)(no:Nat)(nm tg:List UInt8)(na:Bool):N:=
 (({n with bj:=n.bj+1,xs:=n.xs++[(n.bj+1,⟨id,no,tg,nm,na⟩)]}:N).bK nm λq=>{q with cons:=q.cons++[n.bj+1]}).bC id no λh=>{h with co:=cZ cP h.co tg (n.bj+1)}
def N.consume(n:N)(id:Int)(no:Nat)(h:HN)(s:List UInt8)(cl me:Nat):HO:=match jE s with
 |some (nm,s1)=>match jE s1 with
  |some (tg,s2)=>match ym s2 with
   |some (na,[])=>if tg.length<1\/tg.length>8 then .ok n (.cL 502 cl me)else match n.q? nm with
    |none=>.ok n (.soft 404 cl me)
    |some _=>if(bq h.co tg).isSome then .ok n (.cL 530 cl me)else if h.co.length=4 then .ok n (.soft 506 cl me)
     else .ok ((n.kP id no nm tg na).send id (ck no 60 21 [.text tg])) .nil
   |_=>.bad cl me
  |_=>.bad cl me
 |_=>.bad cl me
def N.rz(n:N)(id:Int)(no:Nat)(h:HN)(tg:List UInt8):N:=match bq h.co tg with
 |some k=>(n.cancel k).bC id no λh=>{h with co:=cB h.co tg}
 |none=>n
def N.qF(n:N)(id:Int)(no:Nat)(h:HN)(s:List UInt8)(cl me:Nat):HO:=match jE s with
 |some (tg,[])=>.ok ((n.rz id no h tg).send id (ck no 60 31 [.text tg])) .nil
 |_=>.bad cl me
def N.sA(n:N)(id:Int)(no:Nat)(s:List UInt8)(cl me:Nat):HO:=match jE s with
 |some (key,[])=>.ok (n.cN id no λr=>{r with key:=key,want:=2}) .nil
 |_=>.bad cl me
def N.get(n:N)(id:Int)(no:Nat)(s:List UInt8)(cl me:Nat):HO:=match jE s with
 |some (nm,s1)=>match ym s1 with
  |some (na,[])=>match n.q? nm with
   |none=>.ok n (.soft 404 cl me)
   |some q=>match q.ready with
    |[]=>.ok (n.send id (ck no 60 72 [])) .nil
    |m::ms=>.ok (((n.bK nm λq=>{q with ready:=q.ready.tail}).hand id no nm m na).give id no m (ck no 60 71 [.mM (n.tag id no+1),.flag m.again,.text m.key,.long ms.length])) .nil
  |_=>.bad cl me
 |_=>.bad cl me
def N.iO(n:N)(id:Int)(no:Nat)(p:Nat->Bool)(back:Bool)(l:List (Nat×(List UInt8×aR))):N:=l.foldl (λn e=>if p e.1 then n.settle id no e.1 back else n) n
def N.settled(n:N)(id:Int)(no:Nat)(h:HN)(s:List UInt8)(cl me:Nat):HO:=match fp 4 s with
 |some (high,s1)=>match fp 4 s1 with
  |some (tag,s2)=>match ym s2 with
   |some (flag,[])=>
    if(decide (high=0)&&(bq h.un tag).isSome)||(decide (me=80)&&flag&&decide (high=0)&&decide (tag=0))then
     .ok (n.iO id no (λt=>decide (t=tag)||(decide (me=80)&&flag&&(decide (t<tag)||decide (tag=0)))) (decide (me≠80)&&flag) h.un) .nil
    else .ok n (.soft 406 cl me)
   |_=>.bad cl me
  |_=>.bad cl me
 |_=>.bad cl me
def tF(s:List UInt8):Option (List UInt8):=match fp 2 s with
 |some (_,s1)=>match jE s1 with
  |some (_,s2)=>match fp 4 s2 with
   |some (_,s3)=>some s3
   |none=>none
  |none=>none
 |none=>none
def N.close(n:N)(id:Int)(no:Nat)(s:List UInt8)(cl me:Nat):HO:=match tF s with
 |some []=>.ok ((n.send id (ck no 20 41 [])).pS id no) .nil
 |_=>.bad cl me
def N.method(n:N)(id:Int)(no:Nat)(h:HN)(s:List UInt8)(cl me:Nat):HO:=
 if cl=20/\me=10 then .ok n (.cL 504 cl me)
 else if cl=20/\me=40 then n.close id no s cl me
 else if cl=50/\me=10 then n.declare id no s cl me
 else if cl=50/\me=30 then n.pD id no s cl me
 else if cl=60/\me=10 then n.sB id no s cl me
 else if cl=60/\me=20 then n.consume id no h s cl me
 else if cl=60/\me=30 then n.qF id no h s cl me
 else if cl=60/\me=40 then n.sA id no s cl me
 else if cl=60/\me=70 then n.get id no s cl me
 else if cl=60/\(me=80\/me=90)then n.settled id no h s cl me
 else if cl=10 then .ok n (.cL 503 cl me)
 else .ok n (.cL 540 cl me)
def N.jO(n:N)(key body:List UInt8):N×Bool:=match n.q? key with
 |none=>(n,true)
 |some q=>if(q.ready.length:Int)+q.held>=n.cfg.queue then(n,false)
  else(({n with messages:=n.messages+1}:N).bK key λq=>{q with ready:=q.ready++[⟨n.messages+1,key,body,false⟩]},true)
def N.whole(n:N)(id:Int)(no:Nat)(r:HR):HO:=
 if(r.body.length:Int)<r.size then .ok (n.cN id no λ_=>r) .nil else
  let p:=(n.cN id no λ_=>{r with want:=1}).jO r.key r.body
  .ok p.1 (if p.2 then .nil else .soft 506 60 40)
def N.header(n:N)(id:Int)(no:Nat)(r:HR)(s:List UInt8):HO:=match fp 2 s with
 |some (aaH,s1)=>match fp 2 s1 with
  |some (weight,s2)=>match fp 4 s2 with
   |some (high,s3)=>match fp 4 s3 with
    |some (low,[])=>if aaH≠60\/weight≠0 then .ok n (.cL 502 60 40)else if high>0\/(low:Int)>n.cfg.body then .ok n (.soft 311 60 40)
     else n.whole id no {r with want:=3,size:=low,body:=[]}
    |_=>.bad 60 40
   |_=>.bad 60 40
  |_=>.bad 60 40
 |_=>.bad 60 40
def N.part(n:N)(id:Int)(no:Nat)(r:HR)(s:List UInt8):HO:=
 if((r.body++s).length:Int)>r.size then .ok (n.cN id no λr=>{r with body:=r.body++s}) (.cL 502 60 40)
 else n.whole id no {r with body:=r.body++s}
def N.jv(n:N)(id:Int)(no:Nat)(h:HN)(kind:Int)(s:List UInt8)(cl me:Nat):HO:=
 if h.r.closing then
  if kind=1/\cl=20/\me=40 then .ok ((n.send id (ck no 20 41 [])).pS id no) .nil
  else if kind=1/\cl=20/\me=41 then .ok (n.pS id no) .nil
  else .ok n .nil
 else if kind≠max h.r.want 1 then .ok n (.cL 505 cl me)
 else if kind=2 then n.header id no h.r s
 else if kind=3 then n.part id no h.r s
 else n.method id no h s cl me
def lM(a b:Nat):Bool:=decide (a<b)
def gN:HR:=⟨false,0,0,0,[],[],0⟩
def N.kY(n:N)(id:Int)(c:CN)(no:Nat)(kind:Int)(s:List UInt8)(cl me:Nat):HO:=
 if(no:Int)>c.r.de then .ok n (.cL 504 cl me)else match bq c.ch no with
 |some h=>n.jv id no h kind s cl me
 |none=>if kind=1/\cl=20/\me=10 then(match jE s with
  |some (_,[])=>.ok ((n.dM id λc=>{c with ch:=cZ lM c.ch no ⟨gN,[],[]⟩}).send id (ck no 20 11 [.long 0])) .nil
  |_=>.bad cl me)
  else .ok n (.cL 504 cl me)
def N.control(n:N)(id:Int)(kind:Int)(s:List UInt8)(cl me:Nat):HO:=
 if kind=1/\cl=10/\me=50 then(match tF s with
  |some []=>.ok (((n.leave id).send id (ck 0 10 51 [])).bE id λr=>{r with ph:=5}) .nil
  |_=>.bad cl me)
 else .ok n (.cL 503 cl me)
def N.begin(n:N)(id:Int)(c:CN)(ch:Int)(kind:Int)(s:List UInt8)(cl me:Nat):HO:=
 if¬(kind=1/\cl=10/\me=(if c.r.ph=1 then 31 else 40))\/ch≠0 then .ok n (.cL 503 cl me)
 else if c.r.ph=2 then(match jE s with
  |some (_,[])=>.ok ((n.bE id λr=>{r with ph:=3}).send id (ck 0 10 41 [.text []])) .nil
  |_=>.bad cl me)
 else match fp 2 s with
  |some (de,s1)=>match fp 4 s1 with
   |some (size,s2)=>match fp 2 s2 with
    |some (gG,[])=>if de<1\/(de:Int)>n.cfg.jr\/size<64\/(size:Int)>n.cfg.frame\/(gG:Int)>n.cfg.gG then .ok n (.cL 530 cl me)
     else .ok (n.bE id λr=>{r with de:=de,frame:=size,gG:=gG,ph:=2}) .nil
    |_=>.bad cl me
   |_=>.bad cl me
  |_=>.bad cl me
def N.iT(n:N)(id:Int)(c:CN)(ch:Int)(kind:Int)(s:List UInt8)(cl me:Nat):HO:=
 if c.r.ph=1\/c.r.ph=2 then n.begin id c ch kind s cl me
 else if c.r.ph=3 then(if ch=0 then n.control id kind s cl me else n.kY id c ch.toNat kind s cl me)
 else if c.r.ph=4/\kind=1/\cl=10/\me=51/\ch=0 then .ok (n.bE id λr=>{r with ph:=5}) .nil
 else .ok n .nil
def N.fF(n:N)(id:Int)(c:CN)(u:Un):HO:=
 if u.kind=1 then(match fp 2 u.jh with
  |some (cl,s1)=>match fp 2 s1 with
   |some (me,s2)=>n.iT id c u.channel 1 s2 cl me
   |none=>.ok n (.cL 502 0 0)
  |none=>.ok n (.cL 502 0 0))
 else n.iT id c u.channel u.kind u.jh 0 0
def HO.get(n:N):HO->N×Er
 | .ok n' er=>(n',er)
 | .bad cl me=>(n,.cL 502 cl me)
def N.fault(n:N)(id:Int)(no:Int):Er->N
 | .nil=>n
 | .soft e cl me=>if n.ph id=4 then n else n.soft id no.toNat e cl me
 | .cL e cl me=>if n.ph id=4 then n else n.cL id e cl me
def N.kz(n:N)(id:Int)(u:Un):N:=match n.ar id with
 |none=>n
 |some c=>let p:=(n.fF id c u).get n
  p.1.fault id u.channel p.2
def N.unit(n:N)(id:Int)(u:Un):N:=
 if u.kC then
  if u.gv then(n.send id pT).bE id λr=>{r with ph:=5}
  else(n.bE id λr=>{r with ph:=1}).send id (ck 0 10 30 [.short n.cfg.jr.toNat,.long n.cfg.frame.toNat,.short n.cfg.gG.toNat])
 else if u.gv then(if n.ph id=4 then n else n.cL id 501 0 0).bE id λr=>{r with ph:=5}
 else if u.kind=8 then n else n.kz id u
def N.cut(n:N)(id:Int):Un×N:=match n.ar id with
 |none=>(⟨0,0,[],false,false⟩,n)
 |some c=>let v:=dK c.r.kA c.r.rest c.r.frame
  (v.1,n.bE id λr=>{r with kA:=v.2.1,rest:=v.2.2})
def N.iz:Nat->N->Int->N
 |0,n,_=>n
 |f+1,n,id=>if n.ph id=5 then n else if(n.cut id).1.idle then(n.cut id).2 else iz f (((n.cut id).2.unit id (n.cut id).1).serve) id
def N.rest (n:N)(id:Int):List UInt8:=((n.ar id).map (·.r.rest)).getD []
def N.tW(n:N)(id:Int)(s:List UInt8):N:=
 let n1:=n.bE id λr=>{r with recv:=n.clock,rest:=r.rest++s}
 n1.iz ((n1.rest id).length+2) id
def N.lf(n:N):N:=((n.aF.map (·.1)).foldl (λn id=>if n.ph id=5 then n.leave id else n) n).serve
def N.outs(n:N):List (Int×List UInt8):=(n.aF.map λe=>(e.1,e.2.r.out)).filter λe=>decide (e.2≠[])
def N.clean(n:N):N:={n with aF:=(n.aF.filter λe=>decide (e.2.r.ph≠5)).map λe=>(e.1,{e.2 with r:={e.2.r with out:=[]}})}
def N.feed(n:N)(id:Int)(s:List UInt8):N:=(if s=[]then n else n.tW id s).lf
def N.drop(n:N)(id:Int):N:=(n.bE id λr=>{r with ph:=5}).lf
inductive Ref where
 |b0|b1|gw|br|mq|mc
 |conn (id:Int)|chm (id:Int)
 |chan (id:Int) (no:Nat)|un (id:Int) (no:Nat)|co (id:Int) (no:Nat)
 |queue (nm:List UInt8)|ft (nm:List UInt8)|iy (nm:List UInt8)
 |cons (k:Int)
 |ext (i:Nat)
 deriving DecidableEq
inductive V where
 |obj (o:Obj)
 |pz (l:List (Int×Value))
 |ye (l:List (List UInt8×Value))
 |ft (v:Value) (ms:List aR)
 |iy (v:Value) (ps:List Value)
structure pL {α:Type} (l:List (α×Value×Nat)) (c:Nat):Prop where
 uniq:jT l
 old:∀e∈l,e.2.2<c
 nd:(l.map (·.2.2)).Nodup
def oN:V->Obj->Prop
 | .obj o,o'=>o'=o
 | .pz kv,o'=>∃l c,o'=aU aW l c/\pL l c/\(l.map λe=>(e.1,e.2.1)).Perm kv
 | .ye kv,o'=>∃l c,o'=aU bT l c/\pL l c/\(l.map λe=>(e.1,e.2.1)).Perm kv
 | .ft v ms,o'=>∃a pre pad c,v=.slice (some ⟨a,List.length (α:=Value) pre,none⟩) ms.length c/\ms.length<=c/\4*(c-ms.length)<=List.length (α:=Value) pad/\o'=.cells (pre++bh ms++pad).toArray 193 (0,0)
 | .iy v ps,o'=>∃a pad,v=.slice (some ⟨a,0,none⟩) ps.length (ps.length+List.length (α:=Value) pad)/\o'=.cells (ps++pad).toArray 186 (0,0)
def BR:List Value:=Go.Lib.propertiesTab.map λz=>Value.int .u8 z
structure Lay where
 gw:Nat
 br:Nat
 mq:Nat
 mc:Nat
 conn:Int->Nat
 chan:Int->Nat->Nat
 un:Int->Nat->Nat
 co:Int->Nat->Nat
 queue:List UInt8->Nat
 cons:Int->Nat
 L1:List Value
 qP:L1=BR
def Lay.tab(A:Lay):∀i<128,A.L1[i]? =some (.int .u8 (Go.Lib.propertiesTab.getD i 0)):=λi hi=>by
 have h:i<Go.Lib.propertiesTab.length:=by rw[Go.Lib.propertiesTab_length];omega
 rw[A.qP,BR,List.getElem?_map,List.getElem?_eq_getElem h,List.getD_eq_getElem?_getD,List.getElem?_eq_getElem h];rfl
structure Hid where
 chm:Int->Nat
 rv:List UInt8->Value
 cv:List UInt8->Value
def pN:Value->Nat
 | .slice (some a) _ _=>a.block
 |_=>0
def kW:Value->Bool
 | .slice none 0 0=>true
 |_=>false
abbrev Ext:=List (Nat×Obj)
def cG(A:Lay)(H:Hid)(X:Ext):Ref->Nat
 | .b0=>0| .b1=>1| .gw=>A.gw| .br=>A.br| .mq=>A.mq| .mc=>A.mc
 | .conn id=>A.conn id| .chm id=>H.chm id
 | .chan id no=>A.chan id no| .un id no=>A.un id no| .co id no=>A.co id no
 | .queue nm=>A.queue nm| .ft nm=>pN (H.rv nm)| .iy nm=>pN (H.cv nm)
 | .cons k=>A.cons k
 | .ext i=>(X[i]?.map (·.1)).getD 0
def zZ(v:Value)(ms:List aR):Option V:=if kW v=true/\ms=[]then none else some (.ft v ms)
def CF(v:Value)(ps:List Value):Option V:=if kW v=true/\ps=[]then none else some (.iy v ps)
def view(n:N)(A:Lay)(H:Hid)(X:Ext):Ref->Option V
 | .b0=>some (.obj (.cells #[rT 45] 143 (0,0)))
 | .b1=>some (.obj (.cells A.L1.toArray 396 (0,0)))
 | .gw=>some (.obj (eS n.cfg A.br A.mc n.clock n.last))
 | .br=>some (.obj (ix A.mq n.cfg.queue n.messages n.bj))
 | .mq=>some (.ye (n.aN.map λe=>(e.1,pV (A.queue e.1))))
 | .mc=>some (.pz (n.aF.map λe=>(e.1,pV (A.conn e.1))))
 | .conn id=>(n.ar id).map λc=>.obj (fN A.gw id (H.chm id) c.r)
 | .chm id=>(n.ar id).map λc=>.pz (c.ch.map λe=>((e.1:Int),pV (A.chan id e.1)))
 | .chan id no=>(n.h? id no).map λh=>.obj (iH (A.conn id) no (A.un id no) (A.co id no) h.r)
 | .un id no=>(n.h? id no).map λh=>.pz (h.un.map λe=>((e.1:Int),um (A.queue e.2.1) e.2.2))
 | .co id no=>(n.h? id no).map λh=>.ye (h.co.map λe=>(e.1,pV (A.cons e.2)))
 | .queue nm=>(n.q? nm).map λq=>.obj (fQ nm (H.rv nm) q.held q.last (H.cv nm))
 | .ft nm=>(n.q? nm).bind λq=>zZ (H.rv nm) q.ready
 | .iy nm=>(n.q? nm).bind λq=>CF (H.cv nm) (q.cons.map λk=>pV (A.cons k))
 | .cons k=>(n.x? k).map λx=>.obj (lz (A.chan x.id x.no) k x.tag (A.queue x.q) x.fJ)
 | .ext i=>(X[i]?).map λp=>.obj p.2
structure Hl (w:Ref->Option V) (ad:Ref->Nat) (U:Hp):Prop where
 has:∀r v,w r=some v->∃o,U.f (ad r)=some o/\oN v o
 inj:∀r r',(w r).isSome->(w r').isSome->ad r=ad r'->r=r'
def upd{β:Type}(f:Ref->β)(r:Ref)(v:β):Ref->β:=λx=>if x=r then v else f x
section
variable {U:Hp}{w:Ref->Option V}{w':Ref->Option V}{ad:Ref->Nat}{Oj:Ref->Nat}{J:Hp}{r:Ref}{b:Nat}{o:Obj}
variable {v:V}
def Hl.le (h:Hl w ad U)(k:U.le J):Hl w ad J:=⟨λr v hv=>by obtain⟨o,h1,h2⟩:=h.has r v hv;exact⟨o,k _ _ h1,h2⟩,h.inj⟩
def Hl.congr (h:Hl w ad U)(hw:∀r,w' r=w r)(ha:∀r,(w' r).isSome->Oj r=ad r):Hl w' Oj U:=by
 refine⟨λr v hv=>?_,λr r' h1 h2 e=>?_⟩
 ·rw[ha r (by rw[hv];rfl)];exact h.has r v (by rw[<-hw];exact hv)
 ·rw[ha r h1,ha r' h2]at e;exact h.inj r r' (by rw[<-hw];exact h1) (by rw[<-hw];exact h2) e
def Hl.sub (h:Hl w ad U)(hw:∀r,w' r=none\/w' r=w r):Hl w' ad U:=by have key:∀r,(w' r).isSome->w' r=w r:=λr hr=>(hw r).elim (λe=>by rw[e]at hr;cases hr) _root_.id;exact⟨λr v hv=>h.has r v (by rw[<-key r (by rw[hv];rfl)];exact hv),λr r' h1 h2 e=>h.inj r r' (by rw[<-key r h1];exact h1) (by rw[<-key r' h2];exact h2) e⟩
def Hl.put (h:Hl w ad U)(hb:∀r',r'≠r->(w r').isSome->ad r'≠b)(ho:oN v o):Hl (upd w r (some v)) (upd ad r b) (U.set b o):=by
 refine⟨λx u hu=>?_,λx y hx hy e=>?_⟩
 ·by_cases e:x=r
  ·subst e;simp only[upd,if_true]at hu|-
   cases hu
   exact⟨o,aX,ho⟩
  ·simp only[upd,if_neg e]at hu|-;obtain⟨o',h1,h2⟩:=h.has x u hu;exact⟨o',by rw[Hp.ay (hb x e (by rw[hu];rfl))];exact h1,h2⟩
 ·by_cases e1:x=r<;>by_cases e2:y=r
  ·rw[e1,e2]
  ·simp only[upd,if_pos e1,if_neg e2]at e hy;exact absurd e.symm (hb y e2 hy)
  ·simp only[upd,if_neg e1,if_pos e2]at e hx;exact absurd e (hb x e1 hx)
  ·simp only[upd,if_neg e1,if_neg e2]at e hx hy;exact h.inj x y hx hy e
def Hl.set (h:Hl w ad U)(hr:(w r).isSome)(ho:oN v o):Hl (upd w r (some v)) ad (U.set (ad r) o):=by
 have:=h.put (r:=r) (b:=ad r) (λr' aE hs e=>aE (h.inj r' r hs hr e)) ho;have e:upd ad r (ad r)=ad:=by funext x;simp only[upd];split<;>simp_all
 rwa[e]at this
def Hl.vh (h:Hl w ad U)(hr:(w r).isSome)(o:Obj):Hl (upd w r (some (.obj o))) ad (U.set (ad r) o):=h.set hr (v:=.obj o) (_root_.id rfl)
def Hl.new (h:Hl w ad U)(hb:U.f b=none)(ho:oN v o):Hl (upd w r (some v)) (upd ad r b) (U.set b o):=
 h.put (λr' _ hs e=>by
  obtain⟨u,hu⟩:=Option.isSome_iff_exists.1 hs
  obtain⟨o',h1,_⟩:=h.has r' u hu
  rw[e,hb]at h1;cases h1) ho
def Hl.obj (h:Hl w ad U)(hr:w r=some (.obj o)):U.f (ad r)=some o:=by obtain⟨o',h1,h2⟩:=h.has _ _ hr;cases h2;exact h1
end
def aq(A:Lay)(H:Hid)(n:N)(X:Ext)(U:Hp):Prop:=Hl (view n A H X) (cG A H X) U
def At(A:Lay)(n:N)(X:Ext)(U:Hp):Prop:=∃H,aq A H n X U
section
variable {β:Type}
variable {α:Type}[DecidableEq α]
def IZ (l:List (α×β))(k k':α)(f:β->β):bq (dD l k f) k'=if k'=k then(bq l k').map f else bq l k':=by
 unfold bq dD
 induction l with
 |nil=>simp
 |cons e l ih=>
  simp only[List.map_cons,List.find?_cons];by_cases h1:e.1=k
  ·by_cases h2:e.1=k'
   ·simp[h1,<-h2]
   ·have:¬k'=k:=λx=>h2 (by rw[x,h1]);simp only[h1,if_true,this,if_false]at ih|-;have h3:¬k=k':=λx=>this x.symm;simp only[h3,decide_false];exact ih
  ·by_cases h2:e.1=k'
   ·have:¬k'=k:=λx=>h1 (by rw[h2,x]);simp[h2,this]
   ·simp only[h1,if_false,h2,decide_false];exact ih
def oQ {γ:Type}(l:List (α×β))(k:α)(f:β->β)(F:α->γ):((dD l k f).map λe=>F e.1)=l.map λe=>F e.1:=by unfold dD;rw[List.map_map];apply List.map_congr_left;intro e _;simp only[Function.comp];split<;>rfl
def jb {l:List (α×β)}{k:α}{v:β}(h:bq l k=some v):(k,v)∈l:=by unfold bq at h;obtain⟨e,h1,h2⟩:=Option.map_eq_some_iff.1 h;have:=List.find?_some h1;simp only[decide_eq_true_eq]at this;subst this;subst h2;exact List.mem_of_find?_eq_some h1
def jc {l:List (α×β)}{k:α}(h:bq l k=none):∀e∈l,e.1≠k:=by unfold bq at h;simpa using h
def Cs (l:List (α×β))(k k':α):bq (cB l k) k'=if k'=k then none else bq l k':=by
 unfold bq cB
 induction l with
 |nil=>simp
 |cons e l ih=>
  simp only[List.filter_cons,List.find?_cons];by_cases h1:e.1=k
  ·by_cases h2:e.1=k'
   ·have:k'=k:=by rw[<-h2,h1]
    simp only[this,if_true]at ih|-;simp only[h1,ne_eq,not_true_eq_false,decide_false,Bool.false_eq_true,if_false];exact ih
   ·simp only[h1,ne_eq,not_true_eq_false,decide_false,Bool.false_eq_true,if_false];have:¬k=k':=λx=>h2 (by rw[h1,x]);simp only[this,decide_false];exact ih
  ·simp only[h1,ne_eq,not_false_eq_true,decide_true,if_true,List.find?_cons];by_cases h2:e.1=k'
   ·have:¬k'=k:=λx=>h1 (by rw[h2,x]);simp[h2,this]
   ·simp only[h2,decide_false];exact ih
def yQ {lt:α->α->Bool}(l:List (α×β))(k k':α)(v:β)(hk:bq l k=none):bq (cZ lt l k v) k'=if k'=k then some v else bq l k':=by
 induction l with
 |nil=>simp only[cZ,bq,List.find?_cons,List.find?_nil];by_cases h:k=k'<;>simp[h,eq_comm]
 |cons e l ih=>
  have GB:¬e.1=k:=jc hk e al
  have eu:bq l k=none:=by unfold bq at hk|-;simp only[List.find?_cons,GB,decide_false]at hk;exact hk
  simp only[cZ];split
  ·unfold bq;simp only[List.find?_cons];by_cases h:k=k'
   ·simp[h]
   ·have h2:¬k'=k:=λx=>h x.symm;simp[h,h2]
  ·have:=ih eu;unfold bq at this|-;simp only[List.find?_cons];by_cases h:e.1=k'
   ·have h2:¬k'=k:=λx=>GB (by rw[h,x]);simp[h,h2]
   ·simp only[h,decide_false];exact this
omit [DecidableEq α]in
def vA {lt:α->α->Bool}(l:List (α×β))(k:α)(v:β):(cZ lt l k v).Perm ((k,v)::l):=by
 induction l with
 |nil=>exact .refl _
 |cons e l ih=>
  simp only[cZ];split
  ·exact .refl _
  ·exact(ih.cons e).trans (.swap _ _ _)
end
section
variable {U:Hp}{J:Hp}{r:Ref}{b:Nat}{o:Obj}{H:Hid}{n:N}{X:Ext}{no:Nat}{nm:List UInt8}{c:CN}{k:Int}
variable {A:Lay}{id:Int}{h:HN}{q:QN}{x:XN}
def aq.le (a:aq A H n X U)(l:U.le J):aq A H n X J:=Hl.le a l
def aq.b0 (a:aq A H n X U):U.f 0=some (.cells #[rT 45] 143 (0,0)):=Hl.obj a (r:=.b0) rfl
def aq.b1 (a:aq A H n X U):U.f 1=some (.cells A.L1.toArray 396 (0,0)):=Hl.obj a (r:=.b1) rfl
def aq.gw (a:aq A H n X U):U.f A.gw=some (eS n.cfg A.br A.mc n.clock n.last):=Hl.obj a (r:=.gw) rfl
def aq.br (a:aq A H n X U):U.f A.br=some (ix A.mq n.cfg.queue n.messages n.bj):=Hl.obj a (r:=.br) rfl
def aq.mq (a:aq A H n X U):∃l c,U.f A.mq=some (aU bT l c)/\pL l c/\(l.map λe=>(e.1,e.2.1)).Perm (n.aN.map λe=>(e.1,pV (A.queue e.1))):=by obtain⟨o,h1,l,c,rfl,h2⟩:=a.has .mq _ rfl;exact⟨l,c,h1,h2⟩
def aq.mc (a:aq A H n X U):∃l c,U.f A.mc=some (aU aW l c)/\pL l c/\(l.map λe=>(e.1,e.2.1)).Perm (n.aF.map λe=>(e.1,pV (A.conn e.1))):=by obtain⟨o,h1,l,c,rfl,h2⟩:=a.has .mc _ rfl;exact⟨l,c,h1,h2⟩
def aq.conn (a:aq A H n X U)(hc:n.ar id=some c):U.f (A.conn id)=some (fN A.gw id (H.chm id) c.r):=Hl.obj a (r:=.conn id) (by simp[view,hc])
def aq.chm (a:aq A H n X U)(hc:n.ar id=some c):∃l k,U.f (H.chm id)=some (aU aW l k)/\pL l k/\(l.map λe=>(e.1,e.2.1)).Perm (c.ch.map λe=>((e.1:Int),pV (A.chan id e.1))):=by obtain⟨o,h1,l,k,rfl,h2⟩:=a.has (.chm id) (.pz (c.ch.map λe=>((e.1:Int),pV (A.chan id e.1)))) (by simp[view,hc]);exact⟨l,k,h1,h2⟩
def aq.chan (a:aq A H n X U)(hh:n.h? id no=some h):U.f (A.chan id no)=some (iH (A.conn id) no (A.un id no) (A.co id no) h.r):=Hl.obj a (r:=.chan id no) (by simp[view,hh])
def aq.un (a:aq A H n X U)(hh:n.h? id no=some h):∃l k,U.f (A.un id no)=some (aU aW l k)/\pL l k/\(l.map λe=>(e.1,e.2.1)).Perm (h.un.map λe=>((e.1:Int),um (A.queue e.2.1) e.2.2)):=by obtain⟨o,h1,l,k,rfl,h2⟩:=a.has (.un id no) (.pz (h.un.map λe=>((e.1:Int),um (A.queue e.2.1) e.2.2))) (by simp[view,hh]);exact⟨l,k,h1,h2⟩
def aq.co (a:aq A H n X U)(hh:n.h? id no=some h):∃l k,U.f (A.co id no)=some (aU bT l k)/\pL l k/\(l.map λe=>(e.1,e.2.1)).Perm (h.co.map λe=>(e.1,pV (A.cons e.2))):=by obtain⟨o,h1,l,k,rfl,h2⟩:=a.has (.co id no) (.ye (h.co.map λe=>(e.1,pV (A.cons e.2)))) (by simp[view,hh]);exact⟨l,k,h1,h2⟩
def aq.queue (a:aq A H n X U)(hq:n.q? nm=some q):U.f (A.queue nm)=some (fQ nm (H.rv nm) q.held q.last (H.cv nm)):=Hl.obj a (r:=.queue nm) (by simp[view,hq])
def aq.cons (a:aq A H n X U)(hx:n.x? k=some x):U.f (A.cons k)=some (lz (A.chan x.id x.no) k x.tag (A.queue x.q) x.fJ):=Hl.obj a (r:=.cons k) (by simp[view,hx])
def Hk {v:Value}(h:kW v=true):v=.slice none 0 0:=by
 unfold kW at h;split at h
 ·rfl
 ·cases h
def aq.ft (a:aq A H n X U)(hq:n.q? nm=some q):gR U q.ready (H.rv nm):=by
 by_cases h:kW (H.rv nm)=true/\q.ready=[]
 ·rw[Hk h.1];exact .none h.2
 ·obtain⟨o,h1,b,pre,pad,cc,e1,h2,h3,rfl⟩:=a.has (.ft nm) (.ft (H.rv nm) q.ready) (by simp only[view,hq,Option.bind_some,zZ,if_neg h]);have e:cG A H X (.ft nm)=b:=by simp[cG,e1,pN]
  rw[e]at h1;rw[e1];exact .at b pre pad cc h2 h3 h1
def aq.iy (a:aq A H n X U)(hq:n.q? nm=some q):Sl 186 U (q.cons.map λk=>pV (A.cons k)) (H.cv nm):=by
 by_cases h:kW (H.cv nm)=true/\(q.cons.map λk=>pV (A.cons k))=[]
 ·rw[Hk h.1];exact .nil h.2
 ·obtain⟨o,h1,b,pad,e1,rfl⟩:=a.has (.iy nm) (.iy (H.cv nm) (q.cons.map λk=>pV (A.cons k))) (by simp only[view,hq,Option.bind_some,CF,if_neg h]);have e:cG A H X (.iy nm)=b:=by simp[cG,e1,pN]
  rw[e]at h1;rw[e1];exact .at b pad h1
def aq.ext (a:aq A H n X U){i:Nat}{p:Nat×Obj}(hi:X[i]? =some p):U.f p.1=some p.2:=by have:=Hl.obj a (r:=.ext i) (o:=p.2) (by simp[view,hi]);simpa[cG,hi]using this
def aq.ne (a:aq A H n X U){r r':Ref}(h:r≠r')(h1:(view n A H X r).isSome)(h2:(view n A H X r').isSome):cG A H X r≠cG A H X r':=λe=>h (a.inj r r' h1 h2 e)
end
section
variable {g:Option (Nat×Bool)}{r:Ref}{n:N}{no:Nat}{nm:List UInt8}{c:CN}{k:Int}{aK:Int}{dB:Nat}{di:List UInt8}{f:CN->CN}{fr:CR->CR}{fh:HR->HR}{fq:QN->QN}
variable {id:Int}{g:HN->HN}
@[simp] def qG:(n.dM id f).ar aK=if aK=id then(n.ar aK).map f else n.ar aK:=IZ _ _ _ _
@[simp] def atX:(n.dM id f).q? nm=n.q? nm:=rfl
@[simp] def auj:(n.dM id f).x? k=n.x? k:=rfl
@[simp] def yW:(n.bK nm fq).ar id=n.ar id:=rfl
@[simp] def A6:(n.bK nm fq).h? id no=n.h? id no:=rfl
@[simp] def arx:(n.bK nm fq).x? k=n.x? k:=rfl
@[simp] def vc:(n.bK nm fq).q? di=if di=nm then(n.q? di).map fq else n.q? di:=IZ _ _ _ _
@[simp] def atZ:(n.bE id fr).q? nm=n.q? nm:=rfl
@[simp] def aul:(n.bE id fr).x? k=n.x? k:=rfl
@[simp] def HL:(n.bC id no g).q? nm=n.q? nm:=rfl
@[simp] def arw:(n.bC id no g).x? k=n.x? k:=rfl
@[simp] def qH:(n.bE id fr).ar aK=if aK=id then(n.ar aK).map (λc=>{c with r:=fr c.r})else n.ar aK:=qG
@[simp] def Kh:(n.bE id fr).h? aK no=n.h? aK no:=by
 unfold N.h?;rw[qH];split
 ·cases n.ar aK<;>rfl
 ·rfl
@[simp] def vJ:(n.bC id no g).ar aK=if aK=id then(n.ar aK).map (λc=>{c with ch:=dD c.ch no g})else n.ar aK:=qG
@[simp] def jY:(n.bC id no g).h? aK dB=if aK=id/\dB=no then(n.h? aK dB).map g else n.h? aK dB:=by
 unfold N.h?;rw[vJ];by_cases h:aK=id
 ·simp only[h,if_true,true_and]
  cases n.ar id with
  |none=>simp
  |some c=>simp only[Option.map_some,Option.bind_some,IZ]
 ·simp only[h,if_false,false_and]
@[simp] def Jl:(n.cN id no fh).ar aK=if aK=id then(n.ar aK).map (λc=>{c with ch:=dD c.ch no λh=>{h with r:=fh h.r}})else n.ar aK:=vJ
@[simp] def Kg:(n.cN id no fh).h? aK dB=if aK=id/\dB=no then(n.h? aK dB).map (λh=>{h with r:=fh h.r})else n.h? aK dB:=jY
@[simp] def atY:(n.cN id no fh).q? nm=n.q? nm:=rfl
@[simp] def auk:(n.cN id no fh).x? k=n.x? k:=rfl
@[simp] def atW {s:List UInt8}:(n.send id s).q? nm=n.q? nm:=rfl
@[simp] def V2 {s:List UInt8}:(n.send id s).x? k=n.x? k:=rfl
@[simp] def pY {s:List UInt8}:(n.send id s).h? aK no=n.h? aK no:=Kh
@[simp] def sO {s:List UInt8}:(n.send id s).ar aK=if aK=id then(n.ar aK).map (λc=>{c with r:={c.r with out:=c.r.out++s,iu:=n.clock}})else n.ar aK:=qH
def Db {c:CN}{h:HN}(hh:n.h? id no=some h)(hc:n.ar id=some c):bq c.ch no=some h:=by simpa[N.h?,hc]using hh
def xD {h:HN}(hh:n.h? id no=some h):∃c,n.ar id=some c:=by
 cases hc:n.ar id with
 |none=>simp[N.h?,hc]at hh
 |some c=>exact⟨c,rfl⟩
end
section
variable {U:Hp}{g:Option (Nat×Bool)}{β:Type}{r:Ref}{b:Nat}{o:Obj}{H:Hid}{n:N}{X:Ext}{no:Nat}{nm:List UInt8}{c:CN}{k:Int}{f:CN->CN}
variable {A:Lay}{id:Int}{h:HN}{q:QN}{x:XN}
def aq.fresh (a:aq A H n X U){b:Nat}(hb:U.f b=none)(o:Obj):aq A H n X (U.set b o):=a.le (λx y hx=>by rw[Hp.ay (bl hb hx)];exact hx)
def aq.aoM (a:aq A H n X U)(cl la:Int):aq A H {n with clock:=cl,last:=la} X (U.set A.gw (eS n.cfg A.br A.mc cl la)):=
 (Hl.vh a (r:=.gw) rfl _).congr (λr=>by cases r<;>simp[view,upd,N.ar,N.h?,N.q?,N.x?]) (λ_ _=>rfl)
def aq.U2 (a:aq A H n X U)(me bj:Int):aq A H {n with messages:=me,bj:=bj} X (U.set A.br (ix A.mq n.cfg.queue me bj)):=
 (Hl.vh a (r:=.br) rfl _).congr (λr=>by cases r<;>simp[view,upd,N.ar,N.h?,N.q?,N.x?]) (λ_ _=>rfl)
def aq.nS (a:aq A H n X U)(hc:n.ar id=some c)(f:CR->CR):aq A H (n.bE id f) X (U.set (A.conn id) (fN A.gw id (H.chm id) (f c.r))):=
 (Hl.vh a (r:=.conn id) (by simp[view,hc]) _).congr (λr=>by
  cases r
  case conn i=>by_cases e:i=id<;>simp[view,upd,e,hc]
  case chm i=>by_cases e:i=id<;>simp[view,upd,e,hc]
  case mc=>simp only[view,upd,N.bE,N.dM,reduceCtorEq,if_false];rw[oQ _ _ _ λi=>(i,pV (A.conn i))]
  all_goals simp[view,upd]<;>rfl) (λ_ _=>rfl)
def L2 {α γ δ:Type}{F:α->γ}(g:γ->δ){x y:Option α}(h:x.map F=y.map F):(x.map λa=>g (F a))=y.map λa=>g (F a):=by
 have e:∀z:Option α,(z.map λa=>g (F a))=(z.map F).map g:=λz=>by cases z<;>rfl
 rw[e,e,h]
def Ns {γ:Type}{f:HN->HN}(F:HN->γ)(h:∀x,n.h? id no=some x->F (f x)=F x)(i:Int)(j:Nat):((n.bC id no f).h? i j).map F=(n.h? i j).map F:=by
 rw[jY];split
 ·rename_i e;obtain⟨rfl,rfl⟩:=e
  cases hx:n.h? i j with
  |none=>rfl
  |some x=>simp[h x hx]
 ·rfl
def Nr {γ:Type}{f:HN->HN}(F:HN->γ){i:Int}{j:Nat}(h:¬(i=id/\j=no)):((n.bC id no f).h? i j).map F=(n.h? i j).map F:=by rw[jY,if_neg h]
def Nu {f:HN->HN}{v:V}{r0:Ref}(h1:(∀x,n.h? id no=some x->(f x).r=x.r)\/r0=.chan id no)(h2:(∀x,n.h? id no=some x->(f x).un=x.un)\/r0=.un id no)(h3:(∀x,n.h? id no=some x->(f x).co=x.co)\/r0=.co id no)
 (hv:view (n.bC id no f) A H X r0=some v):∀r,view (n.bC id no f) A H X r=upd (view n A H X) r0 (some v) r:=by
 intro r;by_cases e:r=r0
 ·subst e;simp[upd,hv]
 simp only[upd,if_neg e]
 cases r with
 |chan i j=>
  refine L2 (F:=λh:HN=>h.r) (λr=>V.obj (iH (A.conn i) j (A.un i j) (A.co i j) r)) ?_;rcases h1 with h|rfl
  ·exact Ns _ h i j
  ·exact Nr _ λx=>e (by rw[x.1,x.2])
 |un i j=>
  refine L2 (F:=λh:HN=>h.un) (λl=>V.pz (l.map λe=>((e.1:Int),um (A.queue e.2.1) e.2.2))) ?_;rcases h2 with h|rfl
  ·exact Ns _ h i j
  ·exact Nr _ λx=>e (by rw[x.1,x.2])
 |co i j=>
  refine L2 (F:=λh:HN=>h.co) (λl=>V.ye (l.map λe=>(e.1,pV (A.cons e.2)))) ?_;rcases h3 with h|rfl
  ·exact Ns _ h i j
  ·exact Nr _ λx=>e (by rw[x.1,x.2])
 |mc=>simp only[view,N.bC,N.dM];rw[oQ _ _ _ λi=>(i,pV (A.conn i))]
 |conn i=>
  simp only[view,vJ];split
  ·cases n.ar i<;>rfl
  ·rfl
 |chm i=>
  simp only[view,vJ];split
  ·cases n.ar i with
   |none=>rfl
   |some c=>simp only[Option.map_some];rw[oQ _ _ _ λj:Nat=>((j:Int),pV (A.chan i j))]
  ·rfl
 |_=>rfl
def aq.setH (a:aq A H n X U)(hh:n.h? id no=some h)(f:HN->HN)(h1:(f h).un=h.un)(h2:(f h).co=h.co):aq A H (n.bC id no f) X (U.set (A.chan id no) (iH (A.conn id) no (A.un id no) (A.co id no) (f h).r)):=by have k:=Hl.vh a (r:=.chan id no) (by simp[view,hh]) (iH (A.conn id) no (A.un id no) (A.co id no) (f h).r);exact Hl.congr k (Nu (f:=f) (.inr rfl) (.inl λx hx=>by rw[hh]at hx;cases hx;exact h1) (.inl λx hx=>by rw[hh]at hx;cases hx;exact h2) (by simp[view,hh])) (λ_ _=>rfl)
def aq.yt (a:aq A H n X U)(hh:n.h? id no=some h)(f:HR->HR):aq A H (n.cN id no f) X (U.set (A.chan id no) (iH (A.conn id) no (A.un id no) (A.co id no) (f h.r))):=a.setH hh (λh=>{h with r:=f h.r}) rfl rfl
def aq.U5 (a:aq A H n X U)(hh:n.h? id no=some h)(f:HN->HN)(h1:(f h).r=h.r)(h2:(f h).co=h.co)(ho:oN (.pz ((f h).un.map λe=>((e.1:Int),um (A.queue e.2.1) e.2.2))) o):
 aq A H (n.bC id no f) X (U.set (A.un id no) o):=by
 have k:=Hl.set a (r:=.un id no) (by simp[view,hh]) ho;exact Hl.congr k (Nu (f:=f) (.inl λx hx=>by rw[hh]at hx;cases hx;exact h1) (.inr rfl) (.inl λx hx=>by rw[hh]at hx;cases hx;exact h2) (by simp[view,hh])) (λ_ _=>rfl)
def aq.MS (a:aq A H n X U)(hh:n.h? id no=some h)(f:HN->HN)(h1:(f h).r=h.r)(h2:(f h).un=h.un)(ho:oN (.ye ((f h).co.map λe=>(e.1,pV (A.cons e.2)))) o):
 aq A H (n.bC id no f) X (U.set (A.co id no) o):=by
 have k:=Hl.set a (r:=.co id no) (by simp[view,hh]) ho;exact Hl.congr k (Nu (f:=f) (.inl λx hx=>by rw[hh]at hx;cases hx;exact h1) (.inl λx hx=>by rw[hh]at hx;cases hx;exact h2) (.inr rfl) (by simp[view,hh])) (λ_ _=>rfl)
def aq.HY (a:aq A H n X U)(hq:n.q? nm=some q)(f:QN->QN)(h1:(f q).ready=q.ready)(h2:(f q).cons=q.cons):aq A H (n.bK nm f) X (U.set (A.queue nm) (fQ nm (H.rv nm) (f q).held (f q).last (H.cv nm))):=
 (Hl.vh a (r:=.queue nm) (by simp[view,hq]) _).congr (λr=>by
  cases r
  case queue i=>by_cases e:i=nm<;>simp[view,upd,e,hq]
  case ft i=>by_cases e:i=nm<;>simp[view,upd,e,hq,h1]
  case iy i=>by_cases e:i=nm<;>simp[view,upd,e,hq,h2]
  case mq=>simp only[view,upd,N.bK,reduceCtorEq,if_false];rw[oQ _ _ _ λi=>(i,pV (A.queue i))]
  all_goals simp[view,upd]<;>rfl) (λ_ _=>rfl)
def aq.jX (a:aq A H n X U):U.f A.gw=some (.cells [iV n.cfg.jr,iV n.cfg.frame,iV n.cfg.gG,iV n.cfg.queue,iV n.cfg.body,pV A.br,iV n.clock,iV n.last,.map (some A.mc)].toArray 74 (0,0)):=a.gw
def aq.tU (a:aq A H n X U):U.f A.br=some (.cells [.map (some A.mq),iV n.cfg.queue,iV n.messages,iV n.bj].toArray 116 (0,0)):=a.br
def aq.eQ (a:aq A H n X U)(hc:n.ar id=some c):U.f (A.conn id)=some (.cells [pV A.gw,iV id,iV c.r.ph,sV c.r.rest,.bool c.r.kA,.map (some (H.chm id)),iV c.r.de,iV c.r.frame,iV c.r.gG,iV c.r.iu,iV c.r.recv,sV c.r.out].toArray 90 (0,0)):=a.conn hc
def aq.bX (a:aq A H n X U)(hh:n.h? id no=some h):U.f (A.chan id no)=some (.cells [pV (A.conn id),iV no,.bool h.r.closing,iV h.r.mo,iV h.r.tag,.map (some (A.un id no)),.map (some (A.co id no)),iV h.r.want,sV h.r.key,sV h.r.body,iV h.r.size].toArray 276 (0,0)):=a.chan hh
def aq.tH (a:aq A H n X U)(hq:n.q? nm=some q):U.f (A.queue nm)=some (.cells [sV nm,H.rv nm,iV q.held,iV q.last,H.cv nm].toArray 81 (0,0)):=a.queue hq
def aq.vK (a:aq A H n X U)(hx:n.x? k=some x):U.f (A.cons k)=some (.cells [.iface 185 (pV (A.chan x.id x.no)),iV k,sV x.tag,pV (A.queue x.q),.bool x.fJ].toArray 191 (0,0)):=a.cons hx
def aq.eK {p:Nat×Obj}(a:aq A H n (p::X) U):U.f p.1=some p.2:=a.ext (i:=0) rfl
def aq.ext1 {p q:Nat×Obj}(a:aq A H n (q::p::X) U):U.f p.1=some p.2:=a.ext (i:=1) rfl
def I4 {α β:Type}[DecidableEq α](l:List (α×β))(k:α)(f g:β->β):dD (dD l k f) k g=dD l k λx=>g (f x):=by unfold dD;rw[List.map_map];apply List.map_congr_left;intro e _;simp only[Function.comp];by_cases h:e.1=k<;>simp[h]
def Ff (f g:QN->QN):(n.bK nm f).bK nm g=n.bK nm λq=>g (f q):=by simp only[N.bK,I4]
def aqN:n.bK nm (λq=>q)=n:=by
 have:dD n.aN nm (λq=>q)=n.aN:=by unfold dD;conv=>rhs;rw[<-List.map_id n.aN]
                                  exact List.map_congr_left λe _=>al
 simp only[N.bK,this]
def Nq (f g:CN->CN):(n.dM id f).dM id g=n.dM id λc=>g (f c):=by simp only[N.dM,I4]
def Nt (f g:HN->HN):(n.bC id no f).bC id no g=n.bC id no λh=>g (f h):=by simp only[N.bC,Nq,I4]
end
def Hid.jP(H:Hid)(nm:List UInt8)(v:Value):Hid:={H with rv:=λx=>if x=nm then v else H.rv x}
def Hid.pE(H:Hid)(nm:List UInt8)(v:Value):Hid:={H with cv:=λx=>if x=nm then v else H.cv x}
def Hid.vf(H:Hid)(id:Int)(b:Nat):Hid:={H with chm:=λx=>if x=id then b else H.chm x}
def Apart(w:Ref->Option V)(ad:Ref->Nat)(r:Ref)(b:Nat):Prop:=∀r',r'≠r->(w r').isSome->ad r'≠b
variable {w:Ref->Option V}{ad:Ref->Nat}
def Hl.apart(h:Hl w ad U)(r:Ref)(hr:(w r).isSome):Apart w ad r (ad r):=λr' aE hs e=>aE (h.inj r' r hs hr e)
variable {f:CN->CN}
def Hl.tR(h:Hl w ad U)(r:Ref)(hb:U.f b=none):Apart w ad r b:=λr' _ hs e=>by obtain⟨u,hu⟩:=Option.isSome_iff_exists.1 hs;obtain⟨o',h1,_⟩:=h.has r' u hu;rw[e,hb]at h1;cases h1
section
variable {U:Hp}{w':Ref->Option V}{r:Ref}{b:Nat}{o:Obj}{H:Hid}{n:N}{X:Ext}{nm:List UInt8}{c:CN}{k:Int}{f:CN->CN}
variable {A:Lay}{id:Int}{h:HN}{q:QN}{x:XN}
def akf {v:Value}{ms:List aR}(h:gR U ms v)(hn:kW v=false):∃o,U.f (pN v)=some o/\oN (.ft v ms) o:=by
 cases h with
 |none e=>cases hn
 |«at»a pre pad c h1 h2 h3=>exact⟨_,h3,a,pre,pad,c,rfl,h1,h2,rfl⟩
def UJ (hq:n.q? nm=some q)(hn:kW (H.rv nm)=false):view n A H X (.ft nm)=some (.ft (H.rv nm) q.ready):=by simp[view,hq,zZ,hn]
def PM (hq:n.q? nm=some q)(hn:kW (H.cv nm)=false):view n A H X (.iy nm)=some (.iy (H.cv nm) (q.cons.map λk=>pV (A.cons k))):=by simp[view,hq,CF,hn]
def aq.MT (a:aq A H n X U)(hq:n.q? nm=some q){rv:Value}(f:QN->QN)(hf:(f q).cons=q.cons)(hb:Apart (view n A H X) (cG A H X) (.ft nm) b)(ho:oN (.ft rv (f q).ready) o)(Dj:pN rv=b):
 aq A (H.jP nm rv) (n.bK nm f) X ((U.set b o).set (A.queue nm) (fQ nm rv (f q).held (f q).last (H.cv nm))):=by
 have h1:=Hl.put a hb ho;have h2:=Hl.vh h1 (r:=.queue nm) (by simp[upd,view,hq]) (fQ nm rv (f q).held (f q).last (H.cv nm));have e2:upd (cG A H X) (.ft nm) b (.queue nm)=A.queue nm:=by simp[upd,cG]
 rw[e2]at h2
 have mI:¬(kW rv=true/\(f q).ready=[]):=by rintro⟨e,_⟩;obtain⟨_,_,_,_,e2,_⟩:=ho;rw[Hk e]at e2;simp at e2
 refine Hl.congr h2 (λr=>?_) (λr hr=>?_)
 ·cases r
  case queue i=>by_cases e:i=nm<;>simp[view,upd,e,hq,Hid.jP]
  case ft i=>by_cases e:i=nm<;>simp[view,upd,e,hq,Hid.jP,zZ,mI]
  case iy i=>by_cases e:i=nm<;>simp[view,upd,e,hq,Hid.jP,hf]
  case mq=>simp only[view,upd,N.bK,reduceCtorEq,if_false];rw[oQ _ _ _ λi=>(i,pV (A.queue i))]
  all_goals simp[view,upd]<;>rfl
 ·cases r
  case ft i=>by_cases e:i=nm<;>simp[cG,upd,e,Dj,Hid.jP]
  all_goals simp[cG,upd]<;>rfl
def aq.ak7 (a:aq A H n X U)(hq:n.q? nm=some q)(f:QN->QN)(hf:(f q).cons=q.cons)(hr:(f q).ready=[]):
 aq A (H.jP nm (.slice none 0 0)) (n.bK nm f) X (U.set (A.queue nm) (fQ nm (.slice none 0 0) (f q).held (f q).last (H.cv nm))):=by
 have h1:=Hl.sub (w':=upd (view n A H X) (.ft nm) none) a (λr=>by by_cases e:r=.ft nm<;>simp[upd,e]);have h2:=Hl.vh h1 (r:=.queue nm) (by simp[upd,view,hq]) (fQ nm (.slice none 0 0) (f q).held (f q).last (H.cv nm));refine Hl.congr h2 (λr=>?_) (λr bZ=>?_)
 ·cases r
  case queue i=>by_cases e:i=nm<;>simp[view,upd,e,hq,Hid.jP]
  case ft i=>
   by_cases e:i=nm
   ·simp[view,upd,e,hq,Hid.jP,zZ,kW,hr]
   ·simp[view,upd,e,Hid.jP]
  case iy i=>by_cases e:i=nm<;>simp[view,upd,e,hq,Hid.jP,hf]
  case mq=>simp only[view,upd,N.bK,reduceCtorEq,if_false];rw[oQ _ _ _ λi=>(i,pV (A.queue i))]
  all_goals simp[view,upd]<;>rfl
 ·cases r
  case ft i=>
   by_cases e:i=nm
   ·subst e;simp[view,hq,Hid.jP,zZ,kW,hr]at bZ
   ·simp[cG,e,Hid.jP]
  all_goals simp[cG]<;>rfl
def aq.aiH (a:aq A H n X U)(hq:n.q? nm=some q){rv:Value}(f:QN->QN)(hf:(f q).cons=q.cons)(hn:kW (H.rv nm)=false)(DR:kW rv=false)(hm:gR U (f q).ready rv)(hb:pN rv=pN (H.rv nm)):
 aq A (H.jP nm rv) (n.bK nm f) X (U.set (A.queue nm) (fQ nm rv (f q).held (f q).last (H.cv nm))):=by
 obtain⟨o,h1,h2⟩:=akf hm DR;have:=a.MT hq (b:=pN rv) f hf (by rw[hb];exact Hl.apart a (.ft nm) (by rw[UJ hq hn];rfl)) h2 rfl;rwa[G1 h1]at this
def aq.U3 (a:aq A H n X U)(hq:n.q? nm=some q){cv:Value}(f:QN->QN)(hf:(f q).ready=q.ready)(hb:Apart (view n A H X) (cG A H X) (.iy nm) b)(ho:oN (.iy cv ((f q).cons.map λk=>pV (A.cons k))) o)(Dj:pN cv=b):
 aq A (H.pE nm cv) (n.bK nm f) X ((U.set b o).set (A.queue nm) (fQ nm (H.rv nm) (f q).held (f q).last cv)):=by
 have h1:=Hl.put a hb ho;have h2:=Hl.vh h1 (r:=.queue nm) (by simp[upd,view,hq]) (fQ nm (H.rv nm) (f q).held (f q).last cv);have e2:upd (cG A H X) (.iy nm) b (.queue nm)=A.queue nm:=by simp[upd,cG]
 rw[e2]at h2
 have mI:¬(kW cv=true/\(f q).cons=[]):=by rintro⟨e,_⟩;obtain⟨_,_,e2,_⟩:=ho;rw[Hk e]at e2;simp at e2
 refine Hl.congr h2 (λr=>?_) (λr hr=>?_)
 ·cases r
  case queue i=>by_cases e:i=nm<;>simp[view,upd,e,hq,Hid.pE]
  case iy i=>by_cases e:i=nm<;>simp[view,upd,e,hq,Hid.pE,CF,mI]
  case ft i=>by_cases e:i=nm<;>simp[view,upd,e,hq,Hid.pE,hf]
  case mq=>simp only[view,upd,N.bK,reduceCtorEq,if_false];rw[oQ _ _ _ λi=>(i,pV (A.queue i))]
  all_goals simp[view,upd]<;>rfl
 ·cases r
  case iy i=>by_cases e:i=nm<;>simp[cG,upd,e,Dj,Hid.pE]
  all_goals simp[cG,upd]<;>rfl
def aq.PT (a:aq A H n X U)(k:Int):aq A H {n with xs:=cB n.xs k} X U:=
 Hl.sub a (λr=>by
  cases r
  case cons j=>
   by_cases e:j=k
   ·exact .inl (by simp[view,N.x?,Cs,e])
   ·exact .inr (by simp[view,N.x?,Cs,e])
  all_goals exact .inr rfl)
def aq.iS (a:aq A H n X U)(hb:U.f b=none)(o:Obj):aq A H n ((b,o)::X) (U.set b o):=by
 have hd:∀r,(∃i,r=.ext i)\/(view n A H X r=view n A H ((b,o)::X) r/\cG A H X r=cG A H ((b,o)::X) r):=λr=>by cases r<;>first|exact .inr ⟨rfl,rfl⟩|exact .inl ⟨_,rfl⟩
 have aE:∀r v,view n A H X r=some v->cG A H X r≠b:=λr v hv e=>by obtain⟨o',h1,_⟩:=a.has r v hv;rw[e,hb]at h1;cases h1
 have es:∀i,view n A H ((b,o)::X) (.ext (i+1))=view n A H X (.ext i):=λi=>by simp[view]
 have ea:∀i,cG A H ((b,o)::X) (.ext (i+1))=cG A H X (.ext i):=λi=>by simp[cG]
 have e0:view n A H ((b,o)::X) (.ext 0)=some (.obj o):=by simp[view]
 have Ju:cG A H ((b,o)::X) (.ext 0)=b:=by simp[cG]
 have key:∀r,r=.ext 0\/∃r',(r=r'/\(∀i,r≠.ext i)\/∃i,r=.ext (i+1)/\r'=.ext i)/\view n A H ((b,o)::X) r=view n A H X r'/\cG A H ((b,o)::X) r=cG A H X r':=by
  intro r;rcases hd r with⟨i,rfl⟩|⟨h1,h2⟩
  ·cases i with
   |zero=>exact .inl rfl
   |succ i=>exact .inr ⟨.ext i,.inr ⟨i,rfl,rfl⟩,es i,ea i⟩
  ·by_cases he:∃i,r=.ext i
   ·obtain⟨i,rfl⟩:=he
    cases i with
    |zero=>exact .inl rfl
    |succ i=>exact .inr ⟨.ext i,.inr ⟨i,rfl,rfl⟩,es i,ea i⟩
   ·exact .inr ⟨r,.inl ⟨rfl,λi e=>he ⟨i,e⟩⟩,h1.symm,h2.symm⟩
 refine⟨λr v hv=>?_,λr r' hr eV e=>?_⟩
 ·rcases key r with rfl|⟨r',_,h1,h2⟩
  ·rw[e0]at hv;cases hv
   exact⟨o,by rw[Ju];exact Hp.bD _ _,rfl⟩
  ·rw[h1]at hv;rw[h2];obtain⟨o',k1,k2⟩:=a.has r' v hv;exact⟨o',by rw[Hp.ay (aE r' v hv)];exact k1,k2⟩
 ·obtain⟨v,hv⟩:=Option.isSome_iff_exists.1 hr;obtain⟨v',Hb⟩:=Option.isSome_iff_exists.1 eV;rcases key r with rfl|⟨s,hs,h1,h2⟩<;>rcases key r' with rfl|⟨s',cT,rK,lB⟩
  ·rfl
  ·rw[Ju,lB]at e;rw[rK]at Hb;exact absurd e.symm (aE _ _ Hb)
  ·rw[Ju,h2]at e;rw[h1]at hv;exact absurd e (aE _ _ hv)
  ·rw[h2,lB]at e;have:=a.inj s s' (by rw[<-h1];exact hr) (by rw[<-rK];exact eV) e;subst this;rcases hs with⟨rfl,g1⟩|⟨i,rfl,rfl⟩<;>rcases cT with⟨rfl,g2⟩|⟨j,rfl,g3⟩
   ·rfl
   ·exact absurd g3 (g1 j)
   ·exact absurd rfl (g2 i)
   ·cases g3;rfl
def aq.oW {p:Nat×Obj}(a:aq A H n (p::X) U):aq A H n X U:=by
 have key:∀r,∃r',view n A H X r=view n A H (p::X) r'/\cG A H X r=cG A H (p::X) r'/\(r'=r/\(∀i,r≠.ext i)\/∃i,r=.ext i/\r'=.ext (i+1)):=by
  intro r;by_cases he:∃i,r=.ext i
  ·obtain⟨i,rfl⟩:=he;exact⟨.ext (i+1),by simp[view],by simp[cG],.inr ⟨i,rfl,rfl⟩⟩
  ·refine⟨r,?_,?_,.inl ⟨rfl,λi e=>he ⟨i,e⟩⟩⟩<;>cases r<;>first|rfl|exact absurd ⟨_,rfl⟩ he
 refine⟨λr v hv=>?_,λr s hr hs e=>?_⟩
 ·obtain⟨r',h1,h2,_⟩:=key r;rw[h2];exact a.has r' v (by rw[<-h1];exact hv)
 ·obtain⟨r',h1,h2,h3⟩:=key r;obtain⟨s',g1,g2,g3⟩:=key s;have:=a.inj r' s' (by rw[<-h1];exact hr) (by rw[<-g1];exact hs) (by rw[<-h2,<-g2];exact e);subst this;rcases h3 with⟨rfl,f1⟩|⟨i,rfl,rfl⟩<;>rcases g3 with⟨rfl,f2⟩|⟨j,rfl,e2⟩
  ·rfl
  ·exact absurd e2 (f1 _)
  ·exact absurd rfl (f2 _)
  ·cases e2;rfl
def aq.Af (a:aq A H n X U){i:Nat}{p:Nat×Obj}(hi:X[i]? =some p)(o:Obj):aq A H n (X.set i (p.1,o)) (U.set p.1 o):=by
 have hl:i<X.length:=(List.getElem?_eq_some_iff.1 hi).1;have e:cG A H X (.ext i)=p.1:=by simp[cG,hi]
 have h1:=Hl.vh a (r:=.ext i) (by simp[view,hi]) o;rw[e]at h1;refine Hl.congr h1 (λr=>?_) (λr hr=>?_)
 ·cases r
  case ext j=>
   by_cases e:i=j
   ·subst e;simp[view,upd,hl]
   ·have:¬Ref.ext j=.ext i:=λx=>e (by cases x;rfl);simp[view,upd,List.getElem?_set_ne e,this]
  all_goals simp[view,upd]
 ·cases r
  case ext j=>
   by_cases e:i=j
   ·subst e;obtain⟨_,e⟩:=List.getElem?_eq_some_iff.1 hi;simp[cG,hl,e]
   ·simp[cG,List.getElem?_set_ne e]
  all_goals simp[cG]
def aq.vg {p:Nat×Obj}(a:aq A H n (p::X) U)(o:Obj):aq A H n ((p.1,o)::X) (U.set p.1 o):=a.Af (i:=0) rfl o
end
end Go.Qw
