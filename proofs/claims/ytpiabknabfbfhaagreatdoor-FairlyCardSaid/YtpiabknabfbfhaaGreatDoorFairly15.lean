/- Part 15. -/
import Derived.Test.YtpiabknabfbfhaaGreatDoorFairly14
set_option linter.all false
set_option maxRecDepth 100000
set_option maxHeartbeats 8000000
namespace Go.Qw
open Go Go.Conc Go.Proofs Go.Proofs.Tryz
section
open Go.ConcX
variable {t:Tk}{σ:Hp}{g:Goroutine}
def apb{E:Env prog}(yL:σ.f t.db=some (.cells #[.chan (some t.c3)] 121 (0,0)))(hT:xZ t.cb t.sb t.ub t.db t.wg t.cs g):
 ax E g σ λg τ=>τ=σ/\∃ρ a,cJ 52 a ρ []/\Fx t.cb t.sb t.ub t.db t.wg ρ/\ρ 50=.chan (some t.c3)/\g=G (bT.at a (.inRegion ur [1]:: .code (.region 12 lM false)::[])) t.cs:=by
 obtain⟨ρ,a,ha,hF,rfl⟩:=hT;rw[apa];refine ax.ctl (λw=>stepG_seq) rfl rfl ?_;refine ax.ctl (λw=>stepG_region) rfl rfl ?_;have hr:List.range ur.size=[0]++[1]:=ah;rw[hr];obtain⟨ps,af,ho⟩:=akm
 refine(Ma (E:=E) (N:=52) (ops:=ur) (F:=λκ=>κ.f t.db=some (.cells #[.chan (some t.c3)] 121 (0,0))) (Ok:=λ_=>True) (Q:=λρ=>Fx t.cb t.sb t.ub t.db t.wg ρ/\ρ 50=.chan (some t.c3)) yL (by simp[bT]) [1] [0] (ds:=[])
  (o0 (a:=⟨t.db,0,none⟩) (v:=.chan (some t.c3)) ho ai hF.d ah ah trivial (λκ h=>oA h rfl) ⟨hF.up ai _,by simp[up]⟩) ha).bind ?_
 rintro g τ ⟨rfl,aD,a',dD,⟨hF',vn⟩,rfl⟩;exact ax.here ⟨rfl,aD,a',dD,hF',vn,rfl⟩
def W2:f60.body=some (Go.ConcX.Gen.body_wait pb):=ah
def SR:(f60.name== "runtime.NumGoroutine")=false:=ah
def N7:f60.body.isNone=false:=ah
def t60:f60.ntmps=84:=ah
def We(wg:Nat):(#[pV wg]++Array.replicate (84-1) undef:Array Value)= #[pV wg,undef,undef,undef,undef,undef,undef,undef,undef,undef,undef,undef,undef,undef,undef,undef,undef,undef,undef,undef,undef,undef,undef,undef,undef,undef,undef,undef,undef,undef,undef,undef,undef,undef,undef,undef,undef,undef,undef,undef,undef,undef,undef,undef,undef,undef,undef,undef,undef,undef,undef,undef,undef,undef,undef,undef,undef,undef,undef,undef,undef,undef,undef,undef,undef,undef,undef,undef,undef,undef,undef,undef,undef,undef,undef,undef,undef,undef,undef,undef,undef,undef,undef,undef]:=ah
def apR{a:Act}{wg:Nat}{cs:List Frame}(h:a.eval (.tmp 7)=pV wg)(w:World):stepG prog true (G (bT.at a [.inRegion lM [0]]) cs) w=
 .go (G ((base 60).at {tmps:=#[pV wg,undef,undef,undef,undef,undef,undef,undef,undef,undef,undef,undef,undef,undef,undef,undef,undef,undef,undef,undef,undef,undef,undef,undef,undef,undef,undef,undef,undef,undef,undef,undef,undef,undef,undef,undef,undef,undef,undef,undef,undef,undef,undef,undef,undef,undef,undef,undef,undef,undef,undef,undef,undef,undef,undef,undef,undef,undef,undef,undef,undef,undef,undef,undef,undef,undef,undef,undef,undef,undef,undef,undef,undef,undef,undef,undef,undef,undef,undef,undef,undef,undef,undef,undef],defers:=[]} [.code (Go.ConcX.Gen.body_wait pb)]) (bT.at a [.inRegion lM [0]]::cs)) w #[]:=by
 obtain⟨LX,Ij,NX,UX,y0⟩:=LL;have jU:(#[Operand.tmp 7]).map a.eval= #[pV wg]:=by simp[h]
 rw[stepG_enter (f:=60) (args:=(#[Operand.tmp 7]).map a.eval) y0 rfl (by simp[bT]) (run_call_body rfl func60 SR N7),enter_at (fn:=f60) _ func60 W2]
 have:listed prog bT.fn a {dst:=some 51,op:=.call {callee:=.value (.func 60),args:=#[.tmp 7],argTypes:=NX},type:=UX,pos:=LX,after:=Ij,guard:=none} w= #[]:=by unfold listed;rw[events_call_body rfl func60 SR N7];exact seen_none _ _
 rw[this,jU,t60,<-We];rfl
def aiI:(prog.funcs[40]?).any (·.norace)=false:=ah
variable {bc:Nat}{m:Machine}{T:Trace}
def abn(hW:t.HE=wgBlock 131 KK 0)(hc:t.Ok t.cb)(hd:t.Ok t.db)(FO:t.cb≠t.db)(pG:CW t.wg t.cw){vb:Value}(l7:σ.f t.cb=some (.cells #[vb] 70 (0,0)))(yL:σ.f t.db=some (.cells #[.chan (some t.c3)] 121 (0,0)))(hT:xZ t.cb t.sb t.ub t.db t.wg t.cs g)(mG:t.A.St 0 t.j (t.sW bc) g σ m T):
 ∃N m' T' a,runNT prog N m T=(.next m',T')/\a.defers=[]/\yk prog t.W (G (bT.at a [.inRegion lM []]) t.cs) σ m' T':=by
 have t0:t.A.gf 0 t.j:=.inl ⟨rfl,rfl⟩;obtain⟨N1,m1,T1,g1,τ,r1,pa,rfl,ρ,a,ha,hF,vn,rfl⟩:=apb (E:=t.A.env t.IG t0 (t.Cp bc)) yL hT m T mG;obtain⟨ps,af,cg,ty,ho⟩:=akn
 obtain⟨N2,gs,w0,sl,T2,q,J,n,y,r2,cl⟩:=t.A.shut (t.Cp bc) (λcc cP=>by
  simp only[iW,List.mem_toArray,List.mem_cons,List.not_mem_nil,or_false]at cP
  rcases cP with rfl|rfl<;>rfl) (c3:=t.c3) (kk:=1) (z:=.agg #[]) (.inr (.inr rfl)) (by rfl) pa (g':=G (bT.at (a.put none (.tuple #[])) (.inRegion ur []:: .code (.region 12 lM false)::[])) t.cs) rfl (by simp[mayWake,G,Frame.at,bT,ho]) rfl (λw k h=>Tk.KR (.inr (.inr rfl)) h)
  (λw k hk=>stepG_close ho rfl (by simp[bT]) rfl (by rw[ha.eval];exact vn) hk aiI)
 obtain⟨e1,e2,e3,e4,e5,e6,e7,e8,e9,kr,⟨kc,Ci⟩,e12,IL,e14,e15,An,e17,hB⟩:=cl;have bj:∀{b:Nat} {o:Obj},w0.heap[b]? =some o->b<w0.heap.size:=λh=>(Array.getElem?_eq_some_iff.1 h).1;have hw:t.wg<w0.heap.size:=bj kr.2;have hu:t.ub<w0.heap.size:=bj kr.1;have h3:t.c3<w0.heap.size:=bj Ci;obtain⟨k1,AS⟩:=e12 t.c1 (.inl rfl) t.d13;have h1:t.c1<w0.heap.size:=bj AS;replace hB:t.Bd<=w0.heap.size:=hB;have hb:=An.heap l7;have AJ:=An.heap yL;have dD:=ha.put (dst:=none) rfl (.tuple #[]);obtain⟨a',hea⟩:∃a',a'=a.put none (.tuple #[]):=⟨_,rfl⟩;rw[<-hea]at dD e1
 have Ju:∃mn,MJ (jn t bc a' w0 vb (.chan (some t.c3)) hc hd hu h1 FO hw h3 hB pG hb) 1 0 mn (G (bT.at a' (.inRegion ur []:: .code (.region 12 lM false)::[])) t.cs) w0:=by
  letI:=yh;letI:=vK t a' w0 t.cb hc hw hB
  refine⟨3+1+1+1,.a1 ?_⟩;have bw:∀w w',RPa 131 t.wg t.cb [vb] w w'->(Aside2 t.cb t.wg w0 w/\KPa 131 t.wg t.cb [vb] w)->(Aside2 t.cb t.wg w0 w'/\KPa 131 t.wg t.cb [vb] w'):=λw w' r h=>⟨h.1.trans r.aside,r.ka h.2⟩;have hD:∀w:World,DPi (λ_=>True) t.wg t.cb w0.heap.size w w #[]:=λw=>⟨λ_ _=>rfl,al⟩;have h0:Aside2 t.cb t.wg w0 w0/\KPa 131 t.wg t.cb [vb] w0:=⟨⟨rfl,rfl,rfl,rfl,λ_ _ _=>rfl⟩,.inl (by have:=kr.2;rw[hW]at this;exact this)⟩;refine qn (Kn:=λw=>Aside2 t.cb t.wg w0 w/\KPa 131 t.wg t.cb [vb] w) bw hD rfl (λw=>stepG_region_end) ?_ w0 h0;refine qn bw hD rfl (λw=>stepG_region) ?_;have hr:List.range lM.size=[0]:=ah;rw[hr];obtain⟨LX,Ij,NX,UX,y0⟩:=LL;refine qn bw hD rfl (g':=G ((base 60).at {tmps:=#[pV t.wg,undef,undef,undef,undef,undef,undef,undef,undef,undef,undef,undef,undef,undef,undef,undef,undef,undef,undef,undef,undef,undef,undef,undef,undef,undef,undef,undef,undef,undef,undef,undef,undef,undef,undef,undef,undef,undef,undef,undef,undef,undef,undef,undef,undef,undef,undef,undef,undef,undef,undef,undef,undef,undef,undef,undef,undef,undef,undef,undef,undef,undef,undef,undef,undef,undef,undef,undef,undef,undef,undef,undef,undef,undef,undef,undef,undef,undef,undef,undef,undef,undef,undef,undef],defers:=[]} [.code (Go.ConcX.Gen.body_wait pb)]) (bT.at a' [.inRegion lM [0]]::t.cs)) (λw=>?_) ?_
  ·exact apR (by rw[dD.eval];simp[ak,aB,hF.w]) w
  ·intro w hw;exact Go.ConcX.Gen.waitStart (P:=prog) (L:=pb) HD (Low:=w0.heap.size) (vals:=[vb]) (F:=λw=>Aside2 t.cb t.wg w0 w) (λw w' h1 h2=>h2.trans h1) w hw
 obtain⟨mn,Ju⟩:=Ju
 have hJ:JInv (jn t bc a' w0 vb (.chan (some t.c3)) hc hd hu h1 FO hw h3 hB pG hb) (7-0,n,Go.ConcN.sumTo gs.size q,rk 0 1,mn) (crowd gs w0 sl) T2:=by refine⟨gs,w0,sl,q,_,y,1,0,mn,0,0,n,none,rfl,e1,e2,Ju,.c0 e3 (dW.more (λw h=>h.1) e4) ⟨kr.1,⟨kc,Ci⟩,k1,AS⟩,⟨e5,e6,e7,e8,e9,jC.ofK (Still:=λ_=>False) e15 (λ_ h=>h) (λi hi=>?_),λ_=>hb,λ_=>AJ⟩,.inl ⟨aa,aa,by have:=kr.2;rw[hW]at this;exact this⟩,rfl,aa,rfl⟩;obtain⟨op,aS,JG⟩:=Option.map_eq_some_iff.1 hi;exact e14 op (Array.mem_of_getElem? aS) _ ⟨_,rfl,rfl⟩ JG
 obtain⟨N3,m3,T3,r3,P3,w3,zF,q3,a3,n3,rfl,z1,z2,z3,z4⟩:=ahu hJ
 letI:=yh;letI:=vK t a' w0 t.cb hc hw hB
 obtain⟨N4,P4,a4,w4,Mj,T4,q4,r4,y1,y2,⟨_,y3,y4⟩,y5,y6⟩:=walk_beside (P:=prog) (Shun:=t.S) (B:=w0.heap.size) (D:=DPj (λ_=>True) t.wg t.cb w0.heap.size) (λ_ _ es hD e he=>by
  obtain⟨f1,f2,f3,f4⟩:=evL_of_EvJ (Shun:=t.S) (B':=w0.heap.size) (λ_ h=>h) (hD.2 e he)
  exact⟨λx hx hs=>f1 x hx (.inl hs),f2,f3,f4⟩) _ n3 P3 a3 w3 zF T3 q3 (Nat.le_refl _) z1 z3 z4 z2
 have jL:∀b,(t.Jh b\/b=t.wg)->J b:=λb h=>e17 b (.inr (.inr ⟨⟨b,0,none⟩,rfl,.inl ⟨_,rfl,h⟩⟩));refine⟨_,_,_,a'.put ((lM[0]?).bind (·.dst)) (.tuple #[]),runNT_then (runNT_then (runNT_then r1 r2) r3) r4,(by obtain⟨_,_,_,_,y0⟩:=LL;rw[y0];exact dD.defers),P4,w4,Mj,q4,λb=>t.Jh b\/b=t.wg,rfl,?_,y5,?_,⟨λ{b o} h=>?_,λb h=>An.fA b (jL b h),λb h=>?_⟩,⟨y4.os.trans IL.os,y4.tape.trans IL.tape,y4.output.trans IL.output⟩,λ_ _ _ h=>h.elim⟩
 ·rw[y2,y3]
 ·rw[y4.size];exact y6
 ·have aE:b≠t.wg:=λe=>by subst e;have:=An.fA _ (jL t.wg (.inr rfl));rw[this]at h;cases h
  rw[y4.block b aE];exact An.heap h
 ·rw[y4.size];exact An.low b (jL b h)
end
variable {P:Program}{E:Env P}{σ:Hp}{ρ:av}{ds:List Deferred}{ty:Nat}
def MX{t el:TypeId}{d:Nat}{ps:String}{af:Array Edge}{g:Option (Nat×Bool)}{nx:av->List Deferred->Hp->Prop}{pn:List PanicEntry->Hp->Prop}(hu:∃dir,P.underlying t=some (.chan dir el))(hi:(P.info? el).isSome=true)(h:∀b,σ.f b=none->nx (up ρ d (.chan (some b))) ds (σ.set b (.chan 0 #[] false 0 0 false))):wpOp E ⟨some d,.makeChan t (.const (.int .i64 0)),ty,ps,af,g⟩ ρ ds σ nx pn:=by
 obtain⟨dir,hu⟩:=hu;obtain⟨i,hi⟩:=Option.isSome_iff_exists.1 hi;unfold wpOp execOp;simp only[Instr.makeChan,asInt,asIntOf,aH,bq,ak,dZ,hu,fQ,hi];rw[if_neg (by rw[show IntKind.i64.max=9223372036854775807 from rfl];simp)];simp only[aH,xW,bq];exact h
noncomputable def zj:Array Oper:=bK (bM (aQ ja))
noncomputable def LM:Array Oper:=bK (bM ja)
noncomputable def qP:Code:=aQ (aQ ja)
def Vr:ja=.seq (.region 0 LM false) (.seq (.region 1 zj true) qP):=ah
def mZ:Obj:=.chan 0 #[] false 0 0 false
structure dR (σ ae:Hp) (ρ:av) (sc sb ty:Nat) (lc la ls:Bool):Prop where
 c:lc=true->∃c,ρ sc=.chan (some c)/\σ.f c=none/\ae.f c=some mZ
 a:la=true->∃b,ρ sb=pV b/\σ.f b=none/\ae.f b=some (.cells #[if ls=true then ρ sc else .chan none] ty (0,0))
 s:ls=true->lc=true/\la=true
variable {ae:Hp}{b:Nat}
def tu(h:σ.le ae)(hb:ae.f b=none):σ.f b=none:=by
 cases e:σ.f b with
 |none=>rfl
 |some x=>rw[h b x e]at hb;cases hb
variable {o:Obj}
def BB{x:Nat}{p:Obj}(hb:ae.f b=none)(hx:ae.f x=some p):(ae.set b o).f x=some p:=by
 have:x≠b:=λe=>by rw[e,hb]at hx;cases hx
 simpa[Hp.set,this]using hx
variable {aD:av}{sc sb:Nat}{lc la ls:Bool}
def dR.new(h:dR σ ae ρ sc sb ty lc la ls)(hb:ae.f b=none)(h1:aD sc=ρ sc)(h2:aD sb=ρ sb):dR σ (ae.set b o) aD sc sb ty lc la ls:=by
 refine⟨λe=>?_,λe=>?_,h.s⟩
 ·obtain⟨c,k1,k2,k3⟩:=h.c e;exact⟨c,h1.trans k1,k2,BB hb k3⟩
 ·obtain⟨c,k1,k2,k3⟩:=h.a e;exact⟨c,h2.trans k1,k2,by rw[h1];exact BB hb k3⟩
def dR.chan(h:dR σ ae ρ sc sb ty false la ls)(hl:σ.le ae)(hb:ae.f b=none)(h1:aD sc=.chan (some b))(h2:aD sb=ρ sb):dR σ (ae.set b mZ) aD sc sb ty true la ls:=by
 have hs:ls=false:=by
  cases e:ls with
  |false=>rfl
  |true=>exact absurd (h.s e).1 al
 subst hs;refine⟨λ_=>⟨b,h1,tu hl hb,by simp[Hp.set]⟩,λe=>?_,λe=>by cases e⟩;obtain⟨c,k1,k2,k3⟩:=h.a e;exact⟨c,h2.trans k1,k2,BB hb (by simpa using k3)⟩
def dR.box(h:dR σ ae ρ sc sb ty lc false ls)(hl:σ.le ae)(hb:ae.f b=none)(h1:aD sc=ρ sc)(h2:aD sb=pV b):dR σ (ae.set b (.cells #[.chan none] ty (0,0))) aD sc sb ty lc true ls:=by
 have hs:ls=false:=by
  cases e:ls with
  |false=>rfl
  |true=>exact absurd (h.s e).2 al
 subst hs;refine⟨λe=>?_,λ_=>⟨b,h2,tu hl hb,by simp[Hp.set]⟩,λe=>by cases e⟩;obtain⟨c,k1,k2,k3⟩:=h.c e;exact⟨c,h1.trans k1,k2,BB hb k3⟩
def dR.st(h:dR σ ae ρ sc sb ty true true ls){c:Value}(h0:ρ sb=pV b)(hc:ρ sc=c):dR σ (ae.set b (.cells #[c] ty (0,0))) ρ sc sb ty true true true:=by
 obtain⟨b',k1,k2,k3⟩:=h.a rfl;rw[h0]at k1;simp only[Value.pointer.injEq,Option.some.injEq,Addr.mk.injEq,and_true]at k1;subst k1;refine⟨λ_=>?_,λ_=>⟨b,h0,k2,by simp[Hp.set,hc]⟩,λ_=>⟨rfl,rfl⟩⟩;obtain⟨x,j1,j2,j3⟩:=h.c rfl;refine⟨x,j1,j2,?_⟩;have:x≠b:=λe=>by rw[e,k3]at j3;simp[mZ]at j3
 simpa[Hp.set,this]using j3
def dR.other(h:dR σ ae ρ sc sb ty lc la ls){MI:Nat}{v v':Value}(hb:ae.f b=some (.cells #[v] MI (0,0)))(hty:MI≠ty):dR σ (ae.set b (.cells #[v'] MI (0,0))) ρ sc sb ty lc la ls:=by
 refine⟨λe=>?_,λe=>?_,h.s⟩
 ·obtain⟨c,k1,k2,k3⟩:=h.c e;have:c≠b:=λe=>by rw[e,hb]at k3;simp[mZ]at k3
  exact⟨c,k1,k2,by simpa[Hp.set,this]using k3⟩
 ·obtain⟨c,k1,k2,k3⟩:=h.a e;have:c≠b:=λe=>by rw[e,hb]at k3;simp at k3;exact hty k3.2
  exact⟨c,k1,k2,by simpa[Hp.set,this]using k3⟩
structure E2 (σ:Hp) (r2 r3:Value) (L:Nat->Bool) (ρ:av) (ds:List Deferred) (ae:Hp):Prop where
 ds:ds=[]
 r2:ρ 2=r2
 r3:ρ 3=r3
 le:σ.le ae
 t0:dR σ ae ρ 9 4 119 (L 0) (L 3) (L 6)
 t1:dR σ ae ρ 10 5 120 (L 1) (L 4) (L 7)
 t2:dR σ ae ρ 11 6 121 (L 2) (L 5) (L 8)
 n01:L 0=true->L 1=true->ρ 9≠ρ 10
 n02:L 0=true->L 2=true->ρ 9≠ρ 11
 n12:L 1=true->L 2=true->ρ 10≠ρ 11
def vQ(h:σ.le ae)(hb:ae.f b=none)(o:Obj):σ.le (ae.set b o):=λx p hx=>BB hb (h x p hx)
def K9(h:σ.le ae)(hb:σ.f b=none)(o:Obj):σ.le (ae.set b o):=λx p hx=>by
 have:x≠b:=λe=>by rw[e,hb]at hx;cases hx
 simpa[Hp.set,this]using h x p hx
def Bc(h:dR σ ae ρ sc sb ty true la ls)(hb:ae.f b=none):ρ sc≠.chan (some b):=by obtain⟨c,k1,_,k3⟩:=h.c rfl;rw[k1];intro e;simp only[Value.chan.injEq,Option.some.injEq]at e;rw[e,hb]at k3;cases k3
def aaP{E:Env prog}{Q:Post}{kg:Hp}{r2 r3:Value}(L:Nat->Bool)(i:Nat)(o:Oper)(ρ:av)(ds:List Deferred)(σ:Hp)(K:av->List Deferred->Hp->Prop)(ho:zj[i]? =some o)(hL:L i=false)(he:∀e∈o.after,Region.binds .any e=true->L e.on=true)(h:E2 kg r2 r3 L ρ ds σ)(hK:∀aD cX ae,E2 kg r2 r3 (λj=>L j||j==i) aD cX ae->K aD cX ae):lP E 52 zj Q i K ρ ds σ:=by
 unfold lP;rw[ho];simp only[zj,ja,f40,Option.getD_some,aQ,bM,bK]at ho;obtain⟨e1,e2,e3,e4,e5,e6,e7,e8,e9,kr⟩:=h;rcases i with _|_|_|_|_|_|_|_|_|i
 ·
  simp only[List.getElem?_toArray,List.getElem?_cons_zero,Option.some.injEq]at ho;subst ho;refine⟨rfl,?_⟩;rw[if_pos (by simp[Region.wanted]),if_neg (by simp[cT])];refine MX (el:=3) ⟨_,underlying119⟩ ah λb hb=>hK _ _ _ ?_;rw[hL]at e5;constructor
  ·exact e1
  ·simpa[up]using e2
  ·simpa[up]using e3
  ·exact vQ e4 hb _
  ·simpa[up,hL,mZ]using(dR.chan (aD:=up ρ 9 (.chan (some b))) e5 e4 hb (by simp[up]) (by simp[up]))
  ·simpa[up]using(dR.new (aD:=up ρ 9 (.chan (some b))) e6 hb (by simp[up]) (by simp[up]))
  ·simpa[up]using(dR.new (aD:=up ρ 9 (.chan (some b))) e7 hb (by simp[up]) (by simp[up]))
  ·intro _ h2;simp at h2;rw[h2]at e6;have:=Bc e6 hb;simpa[up]usingλe=>this e.symm
  ·intro _ h2;simp at h2;rw[h2]at e7;have:=Bc e7 hb;simpa[up]usingλe=>this e.symm
  ·intro h1 h2;simp at h1 h2;simpa[up]using kr h1 h2
 ·
  simp only[List.getElem?_toArray,List.getElem?_cons_zero,List.getElem?_cons_succ,Option.some.injEq]at ho;subst ho;refine⟨rfl,?_⟩;rw[if_pos (by simp[Region.wanted]),if_neg (by simp[cT])];refine MX (el:=135) ⟨_,underlying120⟩ ah λb hb=>hK _ _ _ ?_;rw[hL]at e6;constructor
  ·exact e1
  ·simpa[up]using e2
  ·simpa[up]using e3
  ·exact vQ e4 hb _
  ·simpa[up]using(dR.new (aD:=up ρ 10 (.chan (some b))) e5 hb (by simp[up]) (by simp[up]))
  ·simpa[up,hL,mZ]using(dR.chan (aD:=up ρ 10 (.chan (some b))) e6 e4 hb (by simp[up]) (by simp[up]))
  ·simpa[up]using(dR.new (aD:=up ρ 10 (.chan (some b))) e7 hb (by simp[up]) (by simp[up]))
  ·intro h2 _;simp at h2;rw[h2]at e5;have:=Bc e5 hb;simpa[up]using this
  ·intro h1 h2;simp at h1 h2;simpa[up]using e9 h1 h2
  ·intro _ h2;simp at h2;rw[h2]at e7;have:=Bc e7 hb;simpa[up]usingλe=>this e.symm
 ·
  simp only[List.getElem?_toArray,List.getElem?_cons_zero,List.getElem?_cons_succ,Option.some.injEq]at ho;subst ho;refine⟨rfl,?_⟩;rw[if_pos (by simp[Region.wanted]),if_neg (by simp[cT])];refine MX (el:=122) ⟨_,underlying121⟩ ah λb hb=>hK _ _ _ ?_;rw[hL]at e7;constructor
  ·exact e1
  ·simpa[up]using e2
  ·simpa[up]using e3
  ·exact vQ e4 hb _
  ·simpa[up]using(dR.new (aD:=up ρ 11 (.chan (some b))) e5 hb (by simp[up]) (by simp[up]))
  ·simpa[up]using(dR.new (aD:=up ρ 11 (.chan (some b))) e6 hb (by simp[up]) (by simp[up]))
  ·simpa[up,hL,mZ]using(dR.chan (aD:=up ρ 11 (.chan (some b))) e7 e4 hb (by simp[up]) (by simp[up]))
  ·intro h1 h2;simp at h1 h2;simpa[up]using e8 h1 h2
  ·intro h2 _;simp at h2;rw[h2]at e5;have:=Bc e5 hb;simpa[up]using this
  ·intro h2 _;simp at h2;rw[h2]at e6;have:=Bc e6 hb;simpa[up]using this
 ·
  simp only[List.getElem?_toArray,List.getElem?_cons_zero,List.getElem?_cons_succ,Option.some.injEq]at ho;subst ho;refine⟨rfl,?_⟩;rw[if_pos (by simp[Region.wanted]),if_neg (by simp[cT])];refine rK ?_;refine ag ?_;refineλb hb=>hK _ _ _ ?_;simp only[aB,show(Value.chan none).cells= #[.chan none]from rfl];rw[hL]at e5;constructor
  ·exact e1
  ·simpa[up]using e2
  ·simpa[up]using e3
  ·exact vQ e4 hb _
  ·simpa[up,hL]using(dR.box (aD:=up ρ 4 (pV b)) e5 e4 hb (by simp[up]) (by simp[up]))
  ·simpa[up]using(dR.new (aD:=up ρ 4 (pV b)) e6 hb (by simp[up]) (by simp[up]))
  ·simpa[up]using(dR.new (aD:=up ρ 4 (pV b)) e7 hb (by simp[up]) (by simp[up]))
  ·intro h1 h2;simp at h1 h2;simpa[up]using e8 h1 h2
  ·intro h1 h2;simp at h1 h2;simpa[up]using e9 h1 h2
  ·intro h1 h2;simp at h1 h2;simpa[up]using kr h1 h2
 ·
  simp only[List.getElem?_toArray,List.getElem?_cons_zero,List.getElem?_cons_succ,Option.some.injEq]at ho;subst ho;refine⟨rfl,?_⟩;rw[if_pos (by simp[Region.wanted]),if_neg (by simp[cT])];refine rK ?_;refine ag ?_;refineλb hb=>hK _ _ _ ?_;simp only[aB,show(Value.chan none).cells= #[.chan none]from rfl];rw[hL]at e6;constructor
  ·exact e1
  ·simpa[up]using e2
  ·simpa[up]using e3
  ·exact vQ e4 hb _
  ·simpa[up]using(dR.new (aD:=up ρ 5 (pV b)) e5 hb (by simp[up]) (by simp[up]))
  ·simpa[up,hL]using(dR.box (aD:=up ρ 5 (pV b)) e6 e4 hb (by simp[up]) (by simp[up]))
  ·simpa[up]using(dR.new (aD:=up ρ 5 (pV b)) e7 hb (by simp[up]) (by simp[up]))
  ·intro h1 h2;simp at h1 h2;simpa[up]using e8 h1 h2
  ·intro h1 h2;simp at h1 h2;simpa[up]using e9 h1 h2
  ·intro h1 h2;simp at h1 h2;simpa[up]using kr h1 h2
 ·
  simp only[List.getElem?_toArray,List.getElem?_cons_zero,List.getElem?_cons_succ,Option.some.injEq]at ho;subst ho;refine⟨rfl,?_⟩;rw[if_pos (by simp[Region.wanted]),if_neg (by simp[cT])];refine rK ?_;refine ag ?_;refineλb hb=>hK _ _ _ ?_;simp only[aB,show(Value.chan none).cells= #[.chan none]from rfl];rw[hL]at e7;constructor
  ·exact e1
  ·simpa[up]using e2
  ·simpa[up]using e3
  ·exact vQ e4 hb _
  ·simpa[up]using(dR.new (aD:=up ρ 6 (pV b)) e5 hb (by simp[up]) (by simp[up]))
  ·simpa[up]using(dR.new (aD:=up ρ 6 (pV b)) e6 hb (by simp[up]) (by simp[up]))
  ·simpa[up,hL]using(dR.box (aD:=up ρ 6 (pV b)) e7 e4 hb (by simp[up]) (by simp[up]))
  ·intro h1 h2;simp at h1 h2;simpa[up]using e8 h1 h2
  ·intro h1 h2;simp at h1 h2;simpa[up]using e9 h1 h2
  ·intro h1 h2;simp at h1 h2;simpa[up]using kr h1 h2
 ·
  simp only[List.getElem?_toArray,List.getElem?_cons_zero,List.getElem?_cons_succ,Option.some.injEq]at ho;subst ho;refine⟨rfl,?_⟩;rw[if_pos (by simp[Region.wanted]),if_neg (by simp[cT])];refine rK ?_;have hc:L 0=true:=by simpa using he {on:=0,ground:=.data} al rfl
  have ha:L 3=true:=by simpa using he {on:=3,ground:=.data} al rfl
  rw[hc,ha]at e5;obtain⟨b,k1,k2,k3⟩:=e5.a rfl;obtain⟨c,j1,j2,j3⟩:=e5.c rfl;rw[hL]at k3;simp only[Bool.false_eq_true,if_false]at k3;refine bO k1 j1 k3 ?_;refine hK _ _ _ ?_;constructor
  ·exact e1
  ·exact e2
  ·exact e3
  ·exact K9 e4 k2 _
  ·simpa[hc,ha]using(dR.st e5 k1 j1)
  ·simpa using(dR.other e6 k3 ai)
  ·simpa using(dR.other e7 k3 ai)
  ·intro h1 h2;simp at h1 h2;exact e8 h1 h2
  ·intro h1 h2;simp at h1 h2;exact e9 h1 h2
  ·intro h1 h2;simp at h1 h2;exact kr h1 h2
 ·
  simp only[List.getElem?_toArray,List.getElem?_cons_zero,List.getElem?_cons_succ,Option.some.injEq]at ho;subst ho;refine⟨rfl,?_⟩;rw[if_pos (by simp[Region.wanted]),if_neg (by simp[cT])];refine rK ?_;have hc:L 1=true:=by simpa using he {on:=1,ground:=.data} al rfl
  have ha:L 4=true:=by simpa using he {on:=4,ground:=.data} al rfl
  rw[hc,ha]at e6;obtain⟨b,k1,k2,k3⟩:=e6.a rfl;obtain⟨c,j1,j2,j3⟩:=e6.c rfl;rw[hL]at k3;simp only[Bool.false_eq_true,if_false]at k3;refine bO k1 j1 k3 ?_;refine hK _ _ _ ?_;constructor
  ·exact e1
  ·exact e2
  ·exact e3
  ·exact K9 e4 k2 _
  ·simpa using(dR.other e5 k3 ai)
  ·simpa[hc,ha]using(dR.st e6 k1 j1)
  ·simpa using(dR.other e7 k3 ai)
  ·intro h1 h2;simp at h1 h2;exact e8 h1 h2
  ·intro h1 h2;simp at h1 h2;exact e9 h1 h2
  ·intro h1 h2;simp at h1 h2;exact kr h1 h2
 ·
  simp only[List.getElem?_toArray,List.getElem?_cons_zero,List.getElem?_cons_succ,Option.some.injEq]at ho;subst ho;refine⟨rfl,?_⟩;rw[if_pos (by simp[Region.wanted]),if_neg (by simp[cT])];refine rK ?_;have hc:L 2=true:=by simpa using he {on:=2,ground:=.data} al rfl
  have ha:L 5=true:=by simpa using he {on:=5,ground:=.data} al rfl
  rw[hc,ha]at e7;obtain⟨b,k1,k2,k3⟩:=e7.a rfl;obtain⟨c,j1,j2,j3⟩:=e7.c rfl;rw[hL]at k3;simp only[Bool.false_eq_true,if_false]at k3;refine bO k1 j1 k3 ?_;refine hK _ _ _ ?_;constructor
  ·exact e1
  ·exact e2
  ·exact e3
  ·exact K9 e4 k2 _
  ·simpa using(dR.other e5 k3 ai)
  ·simpa using(dR.other e6 k3 ai)
  ·simpa[hc,ha]using(dR.st e7 k1 j1)
  ·intro h1 h2;simp at h1 h2;exact e8 h1 h2
  ·intro h1 h2;simp at h1 h2;exact e9 h1 h2
  ·intro h1 h2;simp at h1 h2;exact kr h1 h2
 ·simp at ho
structure Nf (σ τ:Hp) (bc:Nat) (ch:List UInt8) (cb kb sb ub db c1 c2 c3:Nat):Prop where
 le:σ.le τ
 c:τ.f cb=some (.cells #[pV bc] 70 (0,0))
 k:τ.f kb=some (.cells #[.string (B ch)] 9 (0,0))
 s:τ.f sb=some (.cells #[.chan (some c1)] 119 (0,0))
 u:τ.f ub=some (.cells #[.chan (some c2)] 120 (0,0))
 d:τ.f db=some (.cells #[.chan (some c3)] 121 (0,0))
 h1:τ.f c1=some mZ
 h2:τ.f c2=some mZ
 h3:τ.f c3=some mZ
 nc:σ.f cb=none
 nk:σ.f kb=none
 ns:σ.f sb=none
 nu:σ.f ub=none
 nd:σ.f db=none
 n1:σ.f c1=none
 n2:σ.f c2=none
 n3:σ.f c3=none
 d12:c1≠c2
 d13:c1≠c3
 d23:c2≠c3
def WZ:f40.body=some ja:=ah
def aiK{ops:Array Oper}(h:(ops.toList.zipIdx.all λp=>p.1.after.all λe=>decide (e.on<p.2))=true):∀(i:Nat) (o:Oper),ops[i]? =some o->∀e∈o.after,e.on<i:=by intro i o ho e he;rw[List.all_eq_true]at h;have:=h (o,i) (by rw[List.mk_mem_zipIdx_iff_getElem?];simpa using ho);rw[Array.all_eq_true_iff_forall_mem]at this;simpa using this e he
def aiJ:(zj.toList.zipIdx.all λp=>p.1.after.all λe=>decide (e.on<p.2))=true:=ah
def an3:zj.size=9:=ah
def entry{E:Env prog}{bc:Nat}{ch:List UInt8}{cs:List Frame}:
 ax E (G (Frame.enter prog 40 #[pV bc,.string (B ch)] .normal) cs) σ λg τ=>∃cb kb sb ub db c1 c2 c3,Nf σ τ bc ch cb kb sb ub db c1 c2 c3/\∃ρ a,cJ 52 a ρ []/\
  ρ 2=pV cb/\ρ 3=pV kb/\ρ 4=pV sb/\ρ 5=pV ub/\ρ 6=pV db/\g=G (bT.at a [.code qP]) cs:=by
 rw[enter_at _ func40 WZ,Vr];have Dh:f40.ntmps=52:=rfl;rw[Dh];have tE:=rV #[pV bc,.string (B ch)] 52 al;generalize sH:nB _ 52=mo at tE;have q0:mo 0=pV bc:=by rw[<-sH];rfl
 have q1:mo 1=.string (B ch):=by rw[<-sH];rfl
 clear sH;generalize(⟨_++Array.replicate (52-_) undef,[]⟩:Act)=a0 at tE|-;change ax E (G (bT.at a0 [.code (.seq (.region 0 LM false) (.seq (.region 1 zj true) qP))]) cs) σ _;refine ax.ctl (λw=>stepG_seq) rfl rfl ?_;refine(np (E:=E) (N:=52) (X:=λρ ds τ=>ds=[]/\∃cb kb,ρ 2=pV cb/\ρ 3=pV kb/\σ.f cb=none/\σ.f kb=none/\σ.le τ/\τ.f cb=some (.cells #[pV bc] 70 (0,0))/\τ.f kb=some (.cells #[.string (B ch)] 9 (0,0))) ?_ (by simp[bT]) tE).bind ?_
 ·simp only[LM,ja,f40,Option.getD_some,bM,bK];refine aG q0 ?_;refineλcb l7=>?_;simp only[go_sem,seval,q1,aB];refineλkb sB=>?_;simp only[go_sem,seval,aB];refine⟨rfl,cb,kb,by simp[up],by simp[up],l7,?_,?_,?_,by simp[Hp.set]⟩
  ·exact tu (vQ (λ_ _ h=>h) l7 _) sB
  ·exact vQ (vQ (λ_ _ h=>h) l7 _) sB _
  ·exact BB sB (by simp[Hp.set])
 rintro g τ ⟨pY,_,a1,da,⟨rfl,cb,kb,r2,r3,l7,sB,hle,hc,hk⟩,rfl⟩;refine ax.ctl (λw=>stepG_seq) rfl rfl ?_;have hm:prog.follows .mixedOrders=true:=ah;refine(np (E:=E) (N:=52) (X:=λρ ds cC=>E2 τ (pV cb) (pV kb) (λ_=>true) ρ ds cC) ?_ (by simp[bT]) da).bind ?_
 ·intro t;refine ap7 (I:=E2 τ (pV cb) (pV kb)) hm ?_ (λL i o ρ ds σ K=>aaP L i o ρ ds σ K) ?_ ?_ t
  ·exact aiK aiJ
  ·intro L ρ ds cC lB h;rw[an3]at lB;have e:∀i,i<9->L i=true:=lB;obtain⟨e1,e2,e3,e4,e5,e6,e7,e8,e9,kr⟩:=h
   exact⟨e1,e2,e3,e4,by rw[e 0 ai,e 3 ai,e 6 ai]at e5;exact e5,by rw[e 1 ai,e 4 ai,e 7 ai]at e6;exact e6,by rw[e 2 ai,e 5 ai,e 8 ai]at e7;exact e7,
    λ_ _=>e8 (e 0 ai) (e 1 ai),λ_ _=>e9 (e 0 ai) (e 2 ai),λ_ _=>kr (e 1 ai) (e 2 ai)⟩
  ·exact⟨rfl,r2,r3,(λ_ _ h=>h),⟨(λh=>by cases h),(λh=>by cases h),(λh=>by cases h)⟩,⟨(λh=>by cases h),(λh=>by cases h),(λh=>by cases h)⟩,⟨(λh=>by cases h),(λh=>by cases h),(λh=>by cases h)⟩,(λh=>by cases h),(λh=>by cases h),(λh=>by cases h)⟩
 rintro g cC ⟨lR,_,a2,gp,⟨rfl,s2,s3,nQ,t0,t1,t2,Sx,Sy,SA⟩,rfl⟩;obtain⟨c1,i1,i2,i3⟩:=t0.c rfl;obtain⟨sb,i4,i5,i6⟩:=t0.a rfl;obtain⟨c2,j1,j2,j3⟩:=t1.c rfl;obtain⟨ub,j4,j5,j6⟩:=t1.a rfl;obtain⟨c3,k1,k2,k3⟩:=t2.c rfl;obtain⟨db,k4,k5,k6⟩:=t2.a rfl;simp only[if_true,i1,j1,k1]at i6 j6 k6 Sx Sy SA;refine ax.here ⟨cb,kb,sb,ub,db,c1,c2,c3,⟨λb o h=>nQ b o (hle b o h),nQ _ _ hc,nQ _ _ hk,i6,j6,k6,i3,j3,k3,l7,sB,tu hle i5,tu hle j5,tu hle k5,tu hle i2,tu hle j2,tu hle k2,?_,?_,?_⟩,lR,a2,gp,s2,s3,i4,j4,k4,rfl⟩
 ·exactλe=>Sx trivial trivial (by rw[e])
 ·exactλe=>Sy trivial trivial (by rw[e])
 ·exactλe=>SA trivial trivial (by rw[e])
section
open Go.ConcX
noncomputable def g2:Array Oper:=bK (bM qP)
noncomputable def g3:Array Oper:=bK (bM (aQ qP))
noncomputable def g4:Array Oper:=bK (bM (aQ (aQ qP)))
def am3:qP=.seq (.region 2 g2 false) (.seq (.region 3 g3 false) (.seq (.region 4 g4 false) iy)):=ah
def abO:∃ps af ty,g2[0]? =some {dst:=some 7,op:=.alloc 131,type:=ty,pos:=ps,after:=af,guard:=none}:=⟨_,_,_,by simp only[g2,qP,ja,f40,Option.getD_some,aQ,bM,bK];rfl⟩
def PL:∃ps af ty cg,g3[0]? =some {dst:=some 12,op:=.call {callee:=.value (.func 55),args:=#[.tmp 7,.const (.int .i64 1)],argTypes:=cg},type:=ty,pos:=ps,after:=af,guard:=none}:=⟨_,_,_,_,by simp only[g3,qP,ja,f40,Option.getD_some,aQ,bM,bK];rfl⟩
def abR:∃ps af ty,g4[0]? =some {dst:=some 13,op:=.makeFunc (.func 56) #[] #[.tmp 7,.tmp 2,.tmp 3,.tmp 4,.tmp 5,.tmp 6],type:=ty,pos:=ps,after:=af,guard:=none}:=⟨_,_,_,by simp only[g4,qP,ja,f40,Option.getD_some,aQ,bM,bK];rfl⟩
def abS:∃ps af ty cg,g4[1]? =some {dst:=none,op:=.go {callee:=.value (.tmp 13),args:=#[],argTypes:=cg},type:=ty,pos:=ps,after:=af,guard:=none}:=⟨_,_,_,_,by simp only[g4,qP,ja,f40,Option.getD_some,aQ,bM,bK];rfl⟩
def LS(S Q:Loc->Prop)(B:Nat)(g:Goroutine)(d:Nat)(R:World->Prop)(m:Machine)(T:Trace):Prop:=
 ∃gs w sl q,m=crowd gs w sl/\gs[0]? =some g/\Lone prog S Q B gs w T q d/\R w
section
variable {N:Nat}
variable {S Q:Loc->Prop}{B d:Nat}{g g':Goroutine}{R R':World->Prop}{m:Machine}{T:Trace}
def LS.step (h:LS S Q B g d R m T)(hr:g.status=.running)(hR:∀w dd,R w->R (w.at dd))(hs:∀w,R w->∃w',stepG prog true g w=.go g' w' #[]/\R' w'):∃N m' T',runNT prog N m T=(.next m',T')/\LS S Q B g' d R' m' T':=by
 obtain⟨gs,w,sl,q,rfl,hg,hl,hw⟩:=h
 obtain⟨N,bZ,a',w',bE,T',q',es,h1,h2,h3,⟨rfl,rfl,h4⟩,h5⟩:=hl.go hg hr sl (X:=λa' w' es=>a'=g'/\es= #[]/\R' w') (λdd=>by
  obtain⟨w',k1,k2⟩:=hs (w.at dd) (hR w dd hw)
  exact⟨g',w',#[],k1,al,rfl,rfl,k2⟩)
 refine⟨N,_,T',h1,bZ,w',bE,q',rfl,h3,?_,h4⟩;simpa[deafBehind]using h5
def LS.ctl (h:LS S Q B g d R m T)(hr:g.status=.running)(hR:∀w dd,R w->R (w.at dd))(hs:∀w,stepG prog true g w=.go g' w #[]):∃N m' T',runNT prog N m T=(.next m',T')/\LS S Q B g' d R m' T':=
 h.step hr hR λw hw=>⟨w,hs w,hw⟩
end
variable {N:Nat}
def two{m:Machine}{T:Trace}{X Y:Machine->Trace->Prop}(h:∃N m' T',runNT P N m T=(.next m',T')/\X m' T')(k:∀m' T',X m' T'->∃N oT ov,runNT P N m' T'=(.next oT,ov)/\Y oT ov):∃N oT ov,runNT P N m T=(.next oT,ov)/\Y oT ov:=by obtain⟨N,m',T',h1,h2⟩:=h;obtain⟨N',oT,ov,k1,k2⟩:=k m' T' h2;exact⟨N+N',oT,ov,runNT_then h1 k1,k2⟩
variable {a:Act}{k:List Item}{cs:List Frame}
def V2{ops:Array Oper}{ps:String}{af:Array Edge}{rest:List Nat}(ho:ops[0]? =some {dst:=some 7,op:=.alloc 131,type:=ty,pos:=ps,after:=af,guard:=none})(w:World):
 stepG prog true (G (bT.at a (.inRegion ops (0::rest)::k)) cs) w=.go (G (bT.at (a.put (some 7) (pV w.heap.size)) (.inRegion ops rest::k)) cs) (w.alloc (wgBlock 131 0 0)) #[]:=by
 have hr:(execOp a.eval {dst:=some 7,op:=.alloc 131,type:=ty,pos:=ps,after:=af,guard:=none}).run prog w=.ok (.value (pV w.heap.size)) (w.alloc (wgBlock 131 0 0)):=by unfold execOp;simp[go_sem,zeroValue131];rfl
 have he:(execOp a.eval {dst:=some 7,op:=.alloc 131,type:=ty,pos:=ps,after:=af,guard:=none}).events prog w #[]= #[]:=by unfold execOp;simp[go_sem,zeroValue131]
 rw[stepG_value ho rfl (by simp[bT]) hr,listed_none he]
variable {x0 x1 x2 x3 x4 x5:Nat}
def abM(h7:a.eval (.tmp 7)=pV x0)(h2:a.eval (.tmp 2)=pV x1)(h3:a.eval (.tmp 3)=pV x2)(h4:a.eval (.tmp 4)=pV x3)(h5:a.eval (.tmp 5)=pV x4)(h6:a.eval (.tmp 6)=pV x5)(w:World):
 stepG prog true (G (bT.at a (.inRegion g4 [0,1]::k)) cs) w=.go (G (bT.at (a.put (some 13) (.func (.func 56) #[] (oz x0 x1 x2 x3 x4 x5))) (.inRegion g4 [1]::k)) cs) w #[]:=by
 obtain⟨ps,af,ty,ho⟩:=abR
 have hr:(execOp a.eval {dst:=some 13,op:=.makeFunc (.func 56) #[] #[.tmp 7,.tmp 2,.tmp 3,.tmp 4,.tmp 5,.tmp 6],type:=ty,pos:=ps,after:=af,guard:=none}).run prog w=.ok (.value (.func (.func 56) #[] (oz x0 x1 x2 x3 x4 x5))) w:=by unfold execOp;simp[Instr.makeFunc,h7,h2,h3,h4,h5,h6,oz]
 have he:(execOp a.eval {dst:=some 13,op:=.makeFunc (.func 56) #[] #[.tmp 7,.tmp 2,.tmp 3,.tmp 4,.tmp 5,.tmp 6],type:=ty,pos:=ps,after:=af,guard:=none}).events prog w #[]= #[]:=by unfold execOp;simp[Instr.makeFunc]
 rw[stepG_value ho rfl (by simp[bT]) hr,listed_none he]
def acK(h:a.eval (.tmp 13)=.func (.func 56) #[] (oz x0 x1 x2 x3 x4 x5))(w:World):
 stepG prog true (G (bT.at a (.inRegion g4 [1]::k)) cs) w=.spawn (G (bT.at a (.inRegion g4 []::k)) cs) (born prog (call56 x0 x1 x2 x3 x4 x5)) w #[]:=by
 obtain⟨ps,af,ty,cg,ho⟩:=abS
 have hr:(execOp a.eval {dst:=none,op:=.go {callee:=.value (.tmp 13),args:=#[],argTypes:=cg},type:=ty,pos:=ps,after:=af,guard:=none}).run prog w=.ok (.spawn (call56 x0 x1 x2 x3 x4 x5)) w:=by unfold execOp;simp[resolve,h,Deferred.ofValue,call56]
 have he:(execOp a.eval {dst:=none,op:=.go {callee:=.value (.tmp 13),args:=#[],argTypes:=cg},type:=ty,pos:=ps,after:=af,guard:=none}).events prog w #[]= #[]:=by unfold execOp;simp[resolve,h,Deferred.ofValue]
 rw[stepG_spawn ho rfl (by simp[bT]) hr rfl,listed_none he];rfl
def W0:f55.body=some (Go.ConcX.Gen.body_add pb):=ah
def SQ:(f55.name== "runtime.NumGoroutine")=false:=ah
def N6:f55.body.isNone=false:=ah
def t55:f55.ntmps=117:=ah
def Ie(wg:Nat):Array Value:=#[pV wg,.int .i64 1,undef,undef,undef,undef,undef,undef,undef,undef,undef,undef,undef,undef,undef,undef,undef,undef,undef,undef,undef,undef,undef,undef,undef,undef,undef,undef,undef,undef,undef,undef,undef,undef,undef,undef,undef,undef,undef,undef,undef,undef,undef,undef,undef,undef,undef,undef,undef,undef,undef,undef,undef,undef,undef,undef,undef,undef,undef,undef,undef,undef,undef,undef,undef,undef,undef,undef,undef,undef,undef,undef,undef,undef,undef,undef,undef,undef,undef,undef,undef,undef,undef,undef,undef,undef,undef,undef,undef,undef,undef,undef,undef,undef,undef,undef,undef,undef,undef,undef,undef,undef,undef,undef,undef,undef,undef,undef,undef,undef,undef,undef,undef,undef,undef,undef,undef]
def Wd(wg:Nat):(#[pV wg,.int .i64 1]++Array.replicate (117-2) undef:Array Value)=Ie wg:=ah
def VP{wg:Nat}(h:a.eval (.tmp 7)=pV wg)(w:World):stepG prog true (G (bT.at a (.inRegion g3 [0]::k)) cs) w=
 .go (G ((base 55).at {tmps:=Ie wg,defers:=[]} [.code (Go.ConcX.Gen.body_add pb)]) (bT.at a (.inRegion g3 [0]::k)::cs)) w #[]:=by
 obtain⟨ps,af,ty,cg,ho⟩:=PL
 have jU:(#[Operand.tmp 7,.const (.int .i64 1)]).map a.eval= #[pV wg,.int .i64 1]:=by simp[h];rfl
 rw[stepG_enter (f:=55) (args:=(#[Operand.tmp 7,.const (.int .i64 1)]).map a.eval) ho rfl (by simp[bT]) (run_call_body rfl func55 SQ N6),enter_at (fn:=f55) _ func55 W0]
 have:listed prog bT.fn a {dst:=some 12,op:=.call {callee:=.value (.func 55),args:=#[.tmp 7,.const (.int .i64 1)],argTypes:=cg},type:=ty,pos:=ps,after:=af,guard:=none} w= #[]:=by unfold listed;rw[events_call_body rfl func55 SQ N6];exact seen_none _ _
 rw[this,jU,t55,<-Wd];rfl
section
variable {P:Program}{N:Nat}{b:Nat}
variable {S Q:Loc->Prop}{B:Nat}{wg C:Nat}
@[reducible] def VN (S:Loc->Prop)(B wg C:Nat)(hW:wg<B)(hC:C<B)(Jk:∀a:Addr,a.block=C->¬S (.cell a)):Shy wg C:=
 let Y:Shy wg C:=shyOf S B wg C (λ_ _=>True) hW hC Jk
 {ok:=λact=>okF S B wg act/\∀a,act≠.mark (.release a)
  atomicWg:=λa wr h=>⟨Y.atomicWg a wr h,al⟩
  readWg:=λa h=>⟨Y.readWg a h,al⟩
  writeWg:=λa h=>⟨Y.writeWg a h,al⟩
  theirs:=λa wr h=>⟨Y.theirs a wr h,al⟩
  disable:=⟨Y.disable,al⟩
  enable:=⟨Y.enable,al⟩
  relMerge:=⟨Y.relMerge,al⟩
  acquire:=⟨Y.acquire,al⟩
  go1:=⟨Y.go1,al⟩
  start:=⟨Y.start,al⟩
  stop:=λ_ _=>True}
def Pp {m:Mark}(h1:m=.disable\/m=.enable):∀e∈#[mk m],EW S B e:=by intro e he;simp only[List.mem_toArray,List.mem_cons,List.not_mem_nil,or_false]at he;subst he;rcases h1 with rfl|rfl<;>exact⟨λb hb=>by simp[mk,MemAct.ofEvent,MemAct.touch?]at hb,trivial,by simp[mk]⟩
def aiF {gs:Array Goroutine}{w:World}{sl:Option (Nat×Nat)}{T:Trace}{q:Nat->Nat}{a:Act}{k:List Item}{cs:List Frame}(hl:Lone prog S Q B gs w T q 0)(hg:gs[0]? =some (G ((base 55).at {tmps:=Ie wg,defers:=[]} [.code (Go.ConcX.Gen.body_add pb)]) (bT.at a (.inRegion g3 [0]::k)::cs)))
 (hw:WgAt 131 wg w 0 0) (hW:wg<B) (hC:C<B) (Jk:∀a:Addr,a.block=C->¬S (.cell a)):
 ∃N bZ w' bE T' q',runNT prog N (crowd gs w sl) T=(.next (crowd bZ w' bE),T')/\bZ.size=gs.size/\bZ[0]? =some (G (bT.at (a.put ((g3[0]?).bind (·.dst)) (.tuple #[])) (.inRegion g3 []::k)) cs)/\Lone prog S Q B bZ w' T' q' 0/\∃dd,w'=(w.setCell (stA wg) (.int .u64 KK)).at dd:=by
 letI:Shy wg C:=VN S B wg C hW hC Jk
 let StopG:Goroutine->World->Prop:=λg w₁=>g=G (bT.at (a.put ((g3[0]?).bind (·.dst)) (.tuple #[])) (.inRegion g3 []::k)) cs/\AtRel (w.setCell (stA wg) (.int .u64 KK)) w₁
 have hG:=Go.ConcX.Gen.addPos (P:=prog) (L:=pb) (Wg:=wg) (C:=C) (StopG:=StopG) (mT:=0) (b₀:=bT) (a₀:=a) (ops₀:=g3) (i₀:=0) (rest₀:=[]) (k₀:=k) (cs:=cs) HD w hw (λw₁ hr=>⟨rfl,hr⟩)
 have hD:∀w w' es,DE (EvS wg C) w w' es->∀e∈es,EW S B e/\e.loc≠.mark .disable/\e.loc≠.mark .enable:=by
  intro w w' es h e he;obtain⟨h1,h2,h3,h4,h5,h6,h7⟩:=h e he
  have hm:∀m,MemAct.ofEvent e≠.mark m->e.loc≠.mark m:=by rintro m hm e2;apply hm;obtain⟨l,wr,sy⟩:=e;simp only at e2;subst e2;rfl
  exact⟨⟨λb hb hs=>(h6.1 b hb).1 hs,h6.2.1,λa e2=>h7 a (by
   obtain⟨l,wr,sy⟩:=e
   simp only at e2
   subst e2
   rfl)⟩,hm _ h4,hm _ h5⟩
 obtain⟨N1,P1,a1,w1,Mi,T1,q1,r1,z1,g1,pa,l1⟩:=hl.goes hD 12 sl hg hG
 obtain⟨N2,wQ,a2,w2,wC,T2,q2,IQ,r2,z2,g2',⟨rfl,n2,hG2⟩,l2⟩:=l1.go g1 (pa 0).1 Mi (X:=λa' w' es=>es= #[mk .disable]/\∃n,Goes prog true AtRel (DE (EvS wg C)) (AtMkS prog .enable λa w=>∃n,Goes prog true AtRel (DE (EvS wg C)) StopG n a w) n a' w') (λdd=>by
  obtain⟨_,a',h1,h2⟩:=pa dd
  exact⟨a',_,_,h1,Pp (.inl rfl),rfl,h2⟩)
 obtain⟨N3,P3,a3,w3,zF,T3,q3,r3,z3,g3',qR,l3⟩:=l2.goes hD n2 wC g2' hG2
 obtain⟨N4,P4,a4,w4,Mj,T4,q4,es4,r4,z4,g4',⟨rfl,n4,hG4⟩,l4⟩:=l3.go g3' (qR 0).1 zF (X:=λa' w' es=>es= #[mk .enable]/\∃n,Goes prog true AtRel (DE (EvS wg C)) StopG n a' w') (λdd=>by
  obtain⟨_,a',h1,h2⟩:=qR dd
  exact⟨a',_,_,h1,Pp (.inr rfl),rfl,h2⟩)
 obtain⟨N5,gs5,a5,w5,sl5,T5,q5,r5,z5,g5',zI,l5⟩:=l4.goes hD n4 Mj g4' hG4;obtain⟨e5,dd,h5⟩:=zI w5.drawn;have hd:deafBehind (deafBehind 0 #[mk .disable]) #[mk .enable]=0:=by rfl
 rw[hd]at l5;refine⟨_,gs5,w5,sl5,T5,q5,runNT_then (runNT_then (runNT_then (runNT_then r1 r2) r3) r4) r5,?_,by rw[g5',e5],l5,dd,h5⟩;rw[z5,z4,z3,z2,z1]
end
end
end Go.Qw
