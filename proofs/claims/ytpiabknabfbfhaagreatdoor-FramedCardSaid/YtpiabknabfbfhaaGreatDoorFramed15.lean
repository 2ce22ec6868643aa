/- 15 -/
import Derived.Test.YtpiabknabfbfhaaGreatDoorFramed14
set_option linter.all false
set_option maxRecDepth 100000
set_option maxHeartbeats 8000000
namespace Go.Qw
open Go Go.Conc Go.Proofs Go.Proofs.Tryz
section
open Go.ConcX
variable {t:Tk}{U:Hp}{g:Goroutine}
def aps{E:Env prog}(yQ:U.f t.db=some (.cells #[.chan (some t.c3)] 121 (0,0)))(hT:yf t.cb t.sb t.ub t.db t.wg t.cs g):
 ax E g U λg R=>R=U/\∃I a,cM 52 a I []/\Fx t.cb t.sb t.ub t.db t.wg I/\I 50=.chan (some t.c3)/\g=G (bT.at a (.inRegion uC [1]:: .code (.region 12 lT false)::[])) t.cs:=by
 obtain⟨I,a,ha,hF,rfl⟩:=hT;rw[apr];refine ax.ctl (λw=>stepG_seq) rfl rfl ?_;refine ax.ctl (λw=>stepG_region) rfl rfl ?_;have hr:List.range uC.size=[0]++[1]:=ah;rw[hr];obtain⟨ps,af,ho⟩:=akF
 refine(Mg (E:=E) (N:=52) (ops:=uC) (F:=λκ=>κ.f t.db=some (.cells #[.chan (some t.c3)] 121 (0,0))) (Ok:=λ_=>True) (Q:=λI=>Fx t.cb t.sb t.ub t.db t.wg I/\I 50=.chan (some t.c3)) yQ (by simp[bT]) [1] [0] (ds:=[])
  (py (a:=⟨t.db,0,none⟩) (v:=.chan (some t.c3)) ho an hF.d ah ah trivial (λκ h=>oH h rfl) ⟨hF.up an _,by simp[up]⟩) ha).bind ?_
 rintro g R ⟨rfl,aC,a',dJ,⟨hF',Cw⟩,rfl⟩;exact ax.here ⟨rfl,aC,a',dJ,hF',Cw,rfl⟩
def Xt:f60.body=some (Go.ConcX.Gen.body_wait pz):=ah
def SW:(f60.name== "runtime.NumGoroutine")=false:=ah
def Oe:f60.body.isNone=false:=ah
def t60:f60.ntmps=84:=ah
def Wm(wg:Nat):(#[pV wg]++Array.replicate (84-1) undef:Array Value)= #[pV wg,undef,undef,undef,undef,undef,undef,undef,undef,undef,undef,undef,undef,undef,undef,undef,undef,undef,undef,undef,undef,undef,undef,undef,undef,undef,undef,undef,undef,undef,undef,undef,undef,undef,undef,undef,undef,undef,undef,undef,undef,undef,undef,undef,undef,undef,undef,undef,undef,undef,undef,undef,undef,undef,undef,undef,undef,undef,undef,undef,undef,undef,undef,undef,undef,undef,undef,undef,undef,undef,undef,undef,undef,undef,undef,undef,undef,undef,undef,undef,undef,undef,undef,undef]:=ah
def aqb{a:Act}{wg:Nat}{cs:List Frame}(h:a.eval (.tmp 7)=pV wg)(w:World):stepG prog true (G (bT.at a [.inRegion lT [0]]) cs) w=
 .go (G ((base 60).at {tmps:=#[pV wg,undef,undef,undef,undef,undef,undef,undef,undef,undef,undef,undef,undef,undef,undef,undef,undef,undef,undef,undef,undef,undef,undef,undef,undef,undef,undef,undef,undef,undef,undef,undef,undef,undef,undef,undef,undef,undef,undef,undef,undef,undef,undef,undef,undef,undef,undef,undef,undef,undef,undef,undef,undef,undef,undef,undef,undef,undef,undef,undef,undef,undef,undef,undef,undef,undef,undef,undef,undef,undef,undef,undef,undef,undef,undef,undef,undef,undef,undef,undef,undef,undef,undef,undef],defers:=[]} [.code (Go.ConcX.Gen.body_wait pz)]) (bT.at a [.inRegion lT [0]]::cs)) w #[]:=by
 obtain⟨L6,Ip,N9,U2,y9⟩:=LV;have ki:(#[Operand.tmp 7]).map a.eval= #[pV wg]:=by simp[h]
 rw[stepG_enter (f:=60) (args:=(#[Operand.tmp 7]).map a.eval) y9 rfl (by simp[bT]) (run_call_body rfl func60 SW Oe),enter_at (fn:=f60) _ func60 Xt]
 have:listed prog bT.fn a {dst:=some 51,op:=.call {callee:=.value (.func 60),args:=#[.tmp 7],argTypes:=N9},type:=U2,pos:=L6,after:=Ip,guard:=none} w= #[]:=by unfold listed;rw[events_call_body rfl func60 SW Oe];exact seen_none _ _
 rw[this,ki,t60,<-Wm];rfl
def ai1:(prog.funcs[40]?).any (·.norace)=false:=ah
variable {bc:Nat}{m:Machine}{T:Trace}
def abL(hW:t.HG=wgBlock 131 KK 0)(hc:t.Ok t.cb)(hd:t.Ok t.db)(FQ:t.cb≠t.db)(pP:CW t.wg t.cw){vb:Value}(mf:U.f t.cb=some (.cells #[vb] 70 (0,0)))(yQ:U.f t.db=some (.cells #[.chan (some t.c3)] 121 (0,0)))(hT:yf t.cb t.sb t.ub t.db t.wg t.cs g)(mL:t.A.St 0 t.j (t.sW bc) g U m T):
 ∃N m' T' a,runNT prog N m T=(.next m',T')/\a.defers=[]/\yo prog t.W (G (bT.at a [.inRegion lT []]) t.cs) U m' T':=by
 have t0:t.A.gf 0 t.j:=.inl ⟨rfl,rfl⟩;obtain⟨N1,m1,T1,g1,R,r1,lr,rfl,I,a,ha,hF,Cw,rfl⟩:=aps (E:=t.A.env t.IN t0 (t.Cp bc)) yQ hT m T mL;obtain⟨ps,af,cz,ty,ho⟩:=akG
 obtain⟨N2,gs,w0,sl,T2,q,J,n,y,r2,cl⟩:=t.A.shut (t.Cp bc) (λcc cR=>by
  simp only[iW,List.mem_toArray,List.mem_cons,List.not_mem_nil,or_false]at cR
  rcases cR with rfl|rfl<;>rfl) (c3:=t.c3) (kk:=1) (z:=.agg #[]) (.inr (.inr rfl)) (by rfl) lr (g':=G (bT.at (a.put none (.tuple #[])) (.inRegion uC []:: .code (.region 12 lT false)::[])) t.cs) rfl (by simp[mayWake,G,Frame.at,bT,ho]) rfl (λw k h=>Tk.KZ (.inr (.inr rfl)) h)
  (λw k hk=>stepG_close ho rfl (by simp[bT]) rfl (by rw[ha.eval];exact Cw) hk ai1)
 obtain⟨e1,e2,e3,e4,e5,e6,e7,e8,e9,kF,⟨kc,Ch⟩,e12,IV,e14,e15,An,e17,hB⟩:=cl;have aZ:∀{b:Nat} {o:Obj},w0.heap[b]? =some o->b<w0.heap.size:=λh=>(Array.getElem?_eq_some_iff.1 h).1;have hw:t.wg<w0.heap.size:=aZ kF.2;have hu:t.ub<w0.heap.size:=aZ kF.1;have h3:t.c3<w0.heap.size:=aZ Ch;obtain⟨k1,Gm⟩:=e12 t.c1 (.inl rfl) t.d13;have h1:t.c1<w0.heap.size:=aZ Gm;replace hB:t.Bd<=w0.heap.size:=hB;have hb:=An.heap mf;have AJ:=An.heap yQ;have dJ:=ha.put (dst:=none) rfl (.tuple #[]);obtain⟨a',hea⟩:∃a',a'=a.put none (.tuple #[]):=⟨_,rfl⟩;rw[<-hea]at dJ e1
 have JE:∃mn,MJ (jn t bc a' w0 vb (.chan (some t.c3)) hc hd hu h1 FQ hw h3 hB pP hb) 1 0 mn (G (bT.at a' (.inRegion uC []:: .code (.region 12 lT false)::[])) t.cs) w0:=by
  letI:=yl;letI:=vQ t a' w0 t.cb hc hw hB
  refine⟨3+1+1+1,.a1 ?_⟩;have bt:∀w w',RPa 131 t.wg t.cb [vb] w w'->(Aside2 t.cb t.wg w0 w/\KPa 131 t.wg t.cb [vb] w)->(Aside2 t.cb t.wg w0 w'/\KPa 131 t.wg t.cb [vb] w'):=λw w' r h=>⟨h.1.trans r.aside,r.ka h.2⟩;have hD:∀w:World,DPi (λ_=>True) t.wg t.cb w0.heap.size w w #[]:=λw=>⟨λ_ _=>rfl,ak⟩;have h0:Aside2 t.cb t.wg w0 w0/\KPa 131 t.wg t.cb [vb] w0:=⟨⟨rfl,rfl,rfl,rfl,λ_ _ _=>rfl⟩,.inl (by have:=kF.2;rw[hW]at this;exact this)⟩;refine qz (Kn:=λw=>Aside2 t.cb t.wg w0 w/\KPa 131 t.wg t.cb [vb] w) bt hD rfl (λw=>stepG_region_end) ?_ w0 h0;refine qz bt hD rfl (λw=>stepG_region) ?_;have hr:List.range lT.size=[0]:=ah;rw[hr];obtain⟨L6,Ip,N9,U2,y9⟩:=LV;refine qz bt hD rfl (g':=G ((base 60).at {tmps:=#[pV t.wg,undef,undef,undef,undef,undef,undef,undef,undef,undef,undef,undef,undef,undef,undef,undef,undef,undef,undef,undef,undef,undef,undef,undef,undef,undef,undef,undef,undef,undef,undef,undef,undef,undef,undef,undef,undef,undef,undef,undef,undef,undef,undef,undef,undef,undef,undef,undef,undef,undef,undef,undef,undef,undef,undef,undef,undef,undef,undef,undef,undef,undef,undef,undef,undef,undef,undef,undef,undef,undef,undef,undef,undef,undef,undef,undef,undef,undef,undef,undef,undef,undef,undef,undef],defers:=[]} [.code (Go.ConcX.Gen.body_wait pz)]) (bT.at a' [.inRegion lT [0]]::t.cs)) (λw=>?_) ?_
  ·exact aqb (by rw[dJ.eval];simp[ai,aA,hF.w]) w
  ·intro w hw;exact Go.ConcX.Gen.waitStart (P:=prog) (L:=pz) HF (Low:=w0.heap.size) (vals:=[vb]) (F:=λw=>Aside2 t.cb t.wg w0 w) (λw w' h1 h2=>h2.trans h1) w hw
 obtain⟨mn,JE⟩:=JE
 have hJ:JInv (jn t bc a' w0 vb (.chan (some t.c3)) hc hd hu h1 FQ hw h3 hB pP hb) (7-0,n,Go.ConcN.sumTo gs.size q,rk 0 1,mn) (crowd gs w0 sl) T2:=by refine⟨gs,w0,sl,q,_,y,1,0,mn,0,0,n,none,rfl,e1,e2,JE,.c0 e3 (dY.more (λw h=>h.1) e4) ⟨kF.1,⟨kc,Ch⟩,k1,Gm⟩,⟨e5,e6,e7,e8,e9,jH.ofK (Still:=λ_=>False) e15 (λ_ h=>h) (λi hi=>?_),λ_=>hb,λ_=>AJ⟩,.inl ⟨aa,aa,by have:=kF.2;rw[hW]at this;exact this⟩,rfl,aa,rfl⟩;obtain⟨op,aR,JP⟩:=Option.map_eq_some_iff.1 hi;exact e14 op (Array.mem_of_getElem? aR) _ ⟨_,rfl,rfl⟩ JP
 obtain⟨N3,m3,T3,r3,P8,w3,zF,q3,a3,n3,rfl,z1,z2,z3,z4⟩:=ahO hJ
 letI:=yl;letI:=vQ t a' w0 t.cb hc hw hB
 obtain⟨N4,P9,a4,w4,Mq,T4,q4,r4,y1,y2,⟨_,y3,y4⟩,y5,y6⟩:=walk_beside (P:=prog) (Shun:=t.S) (B:=w0.heap.size) (D:=DPj (λ_=>True) t.wg t.cb w0.heap.size) (λ_ _ es hD e he=>by
  obtain⟨f1,f2,f3,f4⟩:=evL_of_EvJ (Shun:=t.S) (B':=w0.heap.size) (λ_ h=>h) (hD.2 e he)
  exact⟨λx hx hs=>f1 x hx (.inl hs),f2,f3,f4⟩) _ n3 P8 a3 w3 zF T3 q3 (Nat.le_refl _) z1 z3 z4 z2
 have jT:∀b,(t.Jh b\/b=t.wg)->J b:=λb h=>e17 b (.inr (.inr ⟨⟨b,0,none⟩,rfl,.inl ⟨_,rfl,h⟩⟩));refine⟨_,_,_,a'.put ((lT[0]?).bind (·.dst)) (.tuple #[]),runNT_then (runNT_then (runNT_then r1 r2) r3) r4,(by obtain⟨_,_,_,_,y9⟩:=LV;rw[y9];exact dJ.defers),P9,w4,Mq,q4,λb=>t.Jh b\/b=t.wg,rfl,?_,y5,?_,⟨λ{b o} h=>?_,λb h=>An.gV b (jT b h),λb h=>?_⟩,⟨y4.os.trans IV.os,y4.tape.trans IV.tape,y4.output.trans IV.output⟩,λ_ _ _ h=>h.elim⟩
 ·rw[y2,y3]
 ·rw[y4.size];exact y6
 ·have aE:b≠t.wg:=λe=>by subst e;have:=An.gV _ (jT t.wg (.inr rfl));rw[this]at h;cases h
  rw[y4.block b aE];exact An.heap h
 ·rw[y4.size];exact An.low b (jT b h)
end
variable {P:Program}{E:Env P}{U:Hp}{I:av}{ds:List Deferred}{ty:Nat}
def M4{t el:TypeId}{d:Nat}{ps:String}{af:Array Edge}{g:Option (Nat×Bool)}{nx:av->List Deferred->Hp->Prop}{pn:List PanicEntry->Hp->Prop}(hu:∃dir,P.underlying t=some (.chan dir el))(hi:(P.info? el).isSome=true)(h:∀b,U.f b=none->nx (up I d (.chan (some b))) ds (U.set b (.chan 0 #[] false 0 0 false))):wpOp E ⟨some d,.makeChan t (.const (.int .i64 0)),ty,ps,af,g⟩ I ds U nx pn:=by
 obtain⟨dir,hu⟩:=hu;obtain⟨i,hi⟩:=Option.isSome_iff_exists.1 hi;unfold wpOp execOp;simp only[Instr.makeChan,asInt,asIntOf,aF,bl,ai,eg,hu,fO,hi];rw[if_neg (by rw[show IntKind.i64.max=9223372036854775807 from rfl];simp)];simp only[aF,xY,bl];exact h
noncomputable def zp:Array Oper:=bK (bM (aO jb))
noncomputable def LW:Array Oper:=bK (bM jb)
noncomputable def qV:Code:=aO (aO jb)
def Vw:jb=.seq (.region 0 LW false) (.seq (.region 1 zp true) qV):=ah
def nv:Obj:=.chan 0 #[] false 0 0 false
structure dV (U ae:Hp) (I:av) (sc sb ty:Nat) (lc la ls:Bool):Prop where
 c:lc=true->∃c,I sc=.chan (some c)/\U.f c=none/\ae.f c=some nv
 a:la=true->∃b,I sb=pV b/\U.f b=none/\ae.f b=some (.cells #[if ls=true then I sc else .chan none] ty (0,0))
 s:ls=true->lc=true/\la=true
variable {ae:Hp}{b:Nat}
def tH(h:U.le ae)(hb:ae.f b=none):U.f b=none:=by
 cases e:U.f b with
 |none=>rfl
 |some x=>rw[h b x e]at hb;cases hb
variable {o:Obj}
def BB{x:Nat}{p:Obj}(hb:ae.f b=none)(hx:ae.f x=some p):(ae.set b o).f x=some p:=by
 have:x≠b:=λe=>by rw[e,hb]at hx;cases hx
 simpa[Hp.set,this]using hx
variable {aC:av}{sc sb:Nat}{lc la ls:Bool}
def dV.new(h:dV U ae I sc sb ty lc la ls)(hb:ae.f b=none)(h1:aC sc=I sc)(h2:aC sb=I sb):dV U (ae.set b o) aC sc sb ty lc la ls:=by
 refine⟨λe=>?_,λe=>?_,h.s⟩
 ·obtain⟨c,k1,k2,k3⟩:=h.c e;exact⟨c,h1.trans k1,k2,BB hb k3⟩
 ·obtain⟨c,k1,k2,k3⟩:=h.a e;exact⟨c,h2.trans k1,k2,by rw[h1];exact BB hb k3⟩
def dV.chan(h:dV U ae I sc sb ty false la ls)(hl:U.le ae)(hb:ae.f b=none)(h1:aC sc=.chan (some b))(h2:aC sb=I sb):dV U (ae.set b nv) aC sc sb ty true la ls:=by
 have hs:ls=false:=by
  cases e:ls with
  |false=>rfl
  |true=>exact absurd (h.s e).1 ak
 subst hs;refine⟨λ_=>⟨b,h1,tH hl hb,by simp[Hp.set]⟩,λe=>?_,λe=>by cases e⟩;obtain⟨c,k1,k2,k3⟩:=h.a e;exact⟨c,h2.trans k1,k2,BB hb (by simpa using k3)⟩
def dV.box(h:dV U ae I sc sb ty lc false ls)(hl:U.le ae)(hb:ae.f b=none)(h1:aC sc=I sc)(h2:aC sb=pV b):dV U (ae.set b (.cells #[.chan none] ty (0,0))) aC sc sb ty lc true ls:=by
 have hs:ls=false:=by
  cases e:ls with
  |false=>rfl
  |true=>exact absurd (h.s e).2 ak
 subst hs;refine⟨λe=>?_,λ_=>⟨b,h2,tH hl hb,by simp[Hp.set]⟩,λe=>by cases e⟩;obtain⟨c,k1,k2,k3⟩:=h.c e;exact⟨c,h1.trans k1,k2,BB hb k3⟩
def dV.st(h:dV U ae I sc sb ty true true ls){c:Value}(h0:I sb=pV b)(hc:I sc=c):dV U (ae.set b (.cells #[c] ty (0,0))) I sc sb ty true true true:=by
 obtain⟨b',k1,k2,k3⟩:=h.a rfl;rw[h0]at k1;simp only[Value.pointer.injEq,Option.some.injEq,Addr.mk.injEq,and_true]at k1;subst k1;refine⟨λ_=>?_,λ_=>⟨b,h0,k2,by simp[Hp.set,hc]⟩,λ_=>⟨rfl,rfl⟩⟩;obtain⟨x,j1,j2,j3⟩:=h.c rfl;refine⟨x,j1,j2,?_⟩;have:x≠b:=λe=>by rw[e,k3]at j3;simp[nv]at j3
 simpa[Hp.set,this]using j3
def dV.other(h:dV U ae I sc sb ty lc la ls){MP:Nat}{v v':Value}(hb:ae.f b=some (.cells #[v] MP (0,0)))(hty:MP≠ty):dV U (ae.set b (.cells #[v'] MP (0,0))) I sc sb ty lc la ls:=by
 refine⟨λe=>?_,λe=>?_,h.s⟩
 ·obtain⟨c,k1,k2,k3⟩:=h.c e;have:c≠b:=λe=>by rw[e,hb]at k3;simp[nv]at k3
  exact⟨c,k1,k2,by simpa[Hp.set,this]using k3⟩
 ·obtain⟨c,k1,k2,k3⟩:=h.a e;have:c≠b:=λe=>by rw[e,hb]at k3;simp at k3;exact hty k3.2
  exact⟨c,k1,k2,by simpa[Hp.set,this]using k3⟩
structure E8 (U:Hp) (r2 r3:Value) (L:Nat->Bool) (I:av) (ds:List Deferred) (ae:Hp):Prop where
 ds:ds=[]
 r2:I 2=r2
 r3:I 3=r3
 le:U.le ae
 t0:dV U ae I 9 4 119 (L 0) (L 3) (L 6)
 t1:dV U ae I 10 5 120 (L 1) (L 4) (L 7)
 t2:dV U ae I 11 6 121 (L 2) (L 5) (L 8)
 n01:L 0=true->L 1=true->I 9≠I 10
 n02:L 0=true->L 2=true->I 9≠I 11
 n12:L 1=true->L 2=true->I 10≠I 11
def vV(h:U.le ae)(hb:ae.f b=none)(o:Obj):U.le (ae.set b o):=λx p hx=>BB hb (h x p hx)
def Lg(h:U.le ae)(hb:U.f b=none)(o:Obj):U.le (ae.set b o):=λx p hx=>by
 have:x≠b:=λe=>by rw[e,hb]at hx;cases hx
 simpa[Hp.set,this]using h x p hx
def Bf(h:dV U ae I sc sb ty true la ls)(hb:ae.f b=none):I sc≠.chan (some b):=by obtain⟨c,k1,_,k3⟩:=h.c rfl;rw[k1];intro e;simp only[Value.chan.injEq,Option.some.injEq]at e;rw[e,hb]at k3;cases k3
def abg{E:Env prog}{Q:Post}{kD:Hp}{r2 r3:Value}(L:Nat->Bool)(i:Nat)(o:Oper)(I:av)(ds:List Deferred)(U:Hp)(K:av->List Deferred->Hp->Prop)(ho:zp[i]? =some o)(hL:L i=false)(he:∀e∈o.after,Region.binds .any e=true->L e.on=true)(h:E8 kD r2 r3 L I ds U)(hK:∀aC cV ae,E8 kD r2 r3 (λj=>L j||j==i) aC cV ae->K aC cV ae):lV E 52 zp Q i K I ds U:=by
 unfold lV;rw[ho];simp only[zp,jb,f40,Option.getD_some,aO,bM,bK]at ho;obtain⟨e1,e2,e3,e4,e5,e6,e7,e8,e9,kF⟩:=h;rcases i with _|_|_|_|_|_|_|_|_|i
 ·
  simp only[List.getElem?_toArray,List.getElem?_cons_zero,Option.some.injEq]at ho;subst ho;refine⟨rfl,?_⟩;rw[if_pos (by simp[Region.wanted]),if_neg (by simp[cW])];refine M4 (el:=3) ⟨_,underlying119⟩ ah λb hb=>hK _ _ _ ?_;rw[hL]at e5;constructor
  ·exact e1
  ·simpa[up]using e2
  ·simpa[up]using e3
  ·exact vV e4 hb _
  ·simpa[up,hL,nv]using(dV.chan (aC:=up I 9 (.chan (some b))) e5 e4 hb (by simp[up]) (by simp[up]))
  ·simpa[up]using(dV.new (aC:=up I 9 (.chan (some b))) e6 hb (by simp[up]) (by simp[up]))
  ·simpa[up]using(dV.new (aC:=up I 9 (.chan (some b))) e7 hb (by simp[up]) (by simp[up]))
  ·intro _ h2;simp at h2;rw[h2]at e6;have:=Bf e6 hb;simpa[up]usingλe=>this e.symm
  ·intro _ h2;simp at h2;rw[h2]at e7;have:=Bf e7 hb;simpa[up]usingλe=>this e.symm
  ·intro h1 h2;simp at h1 h2;simpa[up]using kF h1 h2
 ·
  simp only[List.getElem?_toArray,List.getElem?_cons_zero,List.getElem?_cons_succ,Option.some.injEq]at ho;subst ho;refine⟨rfl,?_⟩;rw[if_pos (by simp[Region.wanted]),if_neg (by simp[cW])];refine M4 (el:=135) ⟨_,underlying120⟩ ah λb hb=>hK _ _ _ ?_;rw[hL]at e6;constructor
  ·exact e1
  ·simpa[up]using e2
  ·simpa[up]using e3
  ·exact vV e4 hb _
  ·simpa[up]using(dV.new (aC:=up I 10 (.chan (some b))) e5 hb (by simp[up]) (by simp[up]))
  ·simpa[up,hL,nv]using(dV.chan (aC:=up I 10 (.chan (some b))) e6 e4 hb (by simp[up]) (by simp[up]))
  ·simpa[up]using(dV.new (aC:=up I 10 (.chan (some b))) e7 hb (by simp[up]) (by simp[up]))
  ·intro h2 _;simp at h2;rw[h2]at e5;have:=Bf e5 hb;simpa[up]using this
  ·intro h1 h2;simp at h1 h2;simpa[up]using e9 h1 h2
  ·intro _ h2;simp at h2;rw[h2]at e7;have:=Bf e7 hb;simpa[up]usingλe=>this e.symm
 ·
  simp only[List.getElem?_toArray,List.getElem?_cons_zero,List.getElem?_cons_succ,Option.some.injEq]at ho;subst ho;refine⟨rfl,?_⟩;rw[if_pos (by simp[Region.wanted]),if_neg (by simp[cW])];refine M4 (el:=122) ⟨_,underlying121⟩ ah λb hb=>hK _ _ _ ?_;rw[hL]at e7;constructor
  ·exact e1
  ·simpa[up]using e2
  ·simpa[up]using e3
  ·exact vV e4 hb _
  ·simpa[up]using(dV.new (aC:=up I 11 (.chan (some b))) e5 hb (by simp[up]) (by simp[up]))
  ·simpa[up]using(dV.new (aC:=up I 11 (.chan (some b))) e6 hb (by simp[up]) (by simp[up]))
  ·simpa[up,hL,nv]using(dV.chan (aC:=up I 11 (.chan (some b))) e7 e4 hb (by simp[up]) (by simp[up]))
  ·intro h1 h2;simp at h1 h2;simpa[up]using e8 h1 h2
  ·intro h2 _;simp at h2;rw[h2]at e5;have:=Bf e5 hb;simpa[up]using this
  ·intro h2 _;simp at h2;rw[h2]at e6;have:=Bf e6 hb;simpa[up]using this
 ·
  simp only[List.getElem?_toArray,List.getElem?_cons_zero,List.getElem?_cons_succ,Option.some.injEq]at ho;subst ho;refine⟨rfl,?_⟩;rw[if_pos (by simp[Region.wanted]),if_neg (by simp[cW])];refine rV ?_;refine ag ?_;refineλb hb=>hK _ _ _ ?_;simp only[aA,show(Value.chan none).cells= #[.chan none]from rfl];rw[hL]at e5;constructor
  ·exact e1
  ·simpa[up]using e2
  ·simpa[up]using e3
  ·exact vV e4 hb _
  ·simpa[up,hL]using(dV.box (aC:=up I 4 (pV b)) e5 e4 hb (by simp[up]) (by simp[up]))
  ·simpa[up]using(dV.new (aC:=up I 4 (pV b)) e6 hb (by simp[up]) (by simp[up]))
  ·simpa[up]using(dV.new (aC:=up I 4 (pV b)) e7 hb (by simp[up]) (by simp[up]))
  ·intro h1 h2;simp at h1 h2;simpa[up]using e8 h1 h2
  ·intro h1 h2;simp at h1 h2;simpa[up]using e9 h1 h2
  ·intro h1 h2;simp at h1 h2;simpa[up]using kF h1 h2
 ·
  simp only[List.getElem?_toArray,List.getElem?_cons_zero,List.getElem?_cons_succ,Option.some.injEq]at ho;subst ho;refine⟨rfl,?_⟩;rw[if_pos (by simp[Region.wanted]),if_neg (by simp[cW])];refine rV ?_;refine ag ?_;refineλb hb=>hK _ _ _ ?_;simp only[aA,show(Value.chan none).cells= #[.chan none]from rfl];rw[hL]at e6;constructor
  ·exact e1
  ·simpa[up]using e2
  ·simpa[up]using e3
  ·exact vV e4 hb _
  ·simpa[up]using(dV.new (aC:=up I 5 (pV b)) e5 hb (by simp[up]) (by simp[up]))
  ·simpa[up,hL]using(dV.box (aC:=up I 5 (pV b)) e6 e4 hb (by simp[up]) (by simp[up]))
  ·simpa[up]using(dV.new (aC:=up I 5 (pV b)) e7 hb (by simp[up]) (by simp[up]))
  ·intro h1 h2;simp at h1 h2;simpa[up]using e8 h1 h2
  ·intro h1 h2;simp at h1 h2;simpa[up]using e9 h1 h2
  ·intro h1 h2;simp at h1 h2;simpa[up]using kF h1 h2
 ·
  simp only[List.getElem?_toArray,List.getElem?_cons_zero,List.getElem?_cons_succ,Option.some.injEq]at ho;subst ho;refine⟨rfl,?_⟩;rw[if_pos (by simp[Region.wanted]),if_neg (by simp[cW])];refine rV ?_;refine ag ?_;refineλb hb=>hK _ _ _ ?_;simp only[aA,show(Value.chan none).cells= #[.chan none]from rfl];rw[hL]at e7;constructor
  ·exact e1
  ·simpa[up]using e2
  ·simpa[up]using e3
  ·exact vV e4 hb _
  ·simpa[up]using(dV.new (aC:=up I 6 (pV b)) e5 hb (by simp[up]) (by simp[up]))
  ·simpa[up]using(dV.new (aC:=up I 6 (pV b)) e6 hb (by simp[up]) (by simp[up]))
  ·simpa[up,hL]using(dV.box (aC:=up I 6 (pV b)) e7 e4 hb (by simp[up]) (by simp[up]))
  ·intro h1 h2;simp at h1 h2;simpa[up]using e8 h1 h2
  ·intro h1 h2;simp at h1 h2;simpa[up]using e9 h1 h2
  ·intro h1 h2;simp at h1 h2;simpa[up]using kF h1 h2
 ·
  simp only[List.getElem?_toArray,List.getElem?_cons_zero,List.getElem?_cons_succ,Option.some.injEq]at ho;subst ho;refine⟨rfl,?_⟩;rw[if_pos (by simp[Region.wanted]),if_neg (by simp[cW])];refine rV ?_;have hc:L 0=true:=by simpa using he {on:=0,ground:=.data} ak rfl
  have ha:L 3=true:=by simpa using he {on:=3,ground:=.data} ak rfl
  rw[hc,ha]at e5;obtain⟨b,k1,k2,k3⟩:=e5.a rfl;obtain⟨c,j1,j2,j3⟩:=e5.c rfl;rw[hL]at k3;simp only[Bool.false_eq_true,if_false]at k3;refine bR k1 j1 k3 ?_;refine hK _ _ _ ?_;constructor
  ·exact e1
  ·exact e2
  ·exact e3
  ·exact Lg e4 k2 _
  ·simpa[hc,ha]using(dV.st e5 k1 j1)
  ·simpa using(dV.other e6 k3 an)
  ·simpa using(dV.other e7 k3 an)
  ·intro h1 h2;simp at h1 h2;exact e8 h1 h2
  ·intro h1 h2;simp at h1 h2;exact e9 h1 h2
  ·intro h1 h2;simp at h1 h2;exact kF h1 h2
 ·
  simp only[List.getElem?_toArray,List.getElem?_cons_zero,List.getElem?_cons_succ,Option.some.injEq]at ho;subst ho;refine⟨rfl,?_⟩;rw[if_pos (by simp[Region.wanted]),if_neg (by simp[cW])];refine rV ?_;have hc:L 1=true:=by simpa using he {on:=1,ground:=.data} ak rfl
  have ha:L 4=true:=by simpa using he {on:=4,ground:=.data} ak rfl
  rw[hc,ha]at e6;obtain⟨b,k1,k2,k3⟩:=e6.a rfl;obtain⟨c,j1,j2,j3⟩:=e6.c rfl;rw[hL]at k3;simp only[Bool.false_eq_true,if_false]at k3;refine bR k1 j1 k3 ?_;refine hK _ _ _ ?_;constructor
  ·exact e1
  ·exact e2
  ·exact e3
  ·exact Lg e4 k2 _
  ·simpa using(dV.other e5 k3 an)
  ·simpa[hc,ha]using(dV.st e6 k1 j1)
  ·simpa using(dV.other e7 k3 an)
  ·intro h1 h2;simp at h1 h2;exact e8 h1 h2
  ·intro h1 h2;simp at h1 h2;exact e9 h1 h2
  ·intro h1 h2;simp at h1 h2;exact kF h1 h2
 ·
  simp only[List.getElem?_toArray,List.getElem?_cons_zero,List.getElem?_cons_succ,Option.some.injEq]at ho;subst ho;refine⟨rfl,?_⟩;rw[if_pos (by simp[Region.wanted]),if_neg (by simp[cW])];refine rV ?_;have hc:L 2=true:=by simpa using he {on:=2,ground:=.data} ak rfl
  have ha:L 5=true:=by simpa using he {on:=5,ground:=.data} ak rfl
  rw[hc,ha]at e7;obtain⟨b,k1,k2,k3⟩:=e7.a rfl;obtain⟨c,j1,j2,j3⟩:=e7.c rfl;rw[hL]at k3;simp only[Bool.false_eq_true,if_false]at k3;refine bR k1 j1 k3 ?_;refine hK _ _ _ ?_;constructor
  ·exact e1
  ·exact e2
  ·exact e3
  ·exact Lg e4 k2 _
  ·simpa using(dV.other e5 k3 an)
  ·simpa using(dV.other e6 k3 an)
  ·simpa[hc,ha]using(dV.st e7 k1 j1)
  ·intro h1 h2;simp at h1 h2;exact e8 h1 h2
  ·intro h1 h2;simp at h1 h2;exact e9 h1 h2
  ·intro h1 h2;simp at h1 h2;exact kF h1 h2
 ·simp at ho
structure Nj (U R:Hp) (bc:Nat) (ch:List UInt8) (cb kb sb ub db c1 c2 c3:Nat):Prop where
 le:U.le R
 c:R.f cb=some (.cells #[pV bc] 70 (0,0))
 k:R.f kb=some (.cells #[.string (B ch)] 9 (0,0))
 s:R.f sb=some (.cells #[.chan (some c1)] 119 (0,0))
 u:R.f ub=some (.cells #[.chan (some c2)] 120 (0,0))
 d:R.f db=some (.cells #[.chan (some c3)] 121 (0,0))
 h1:R.f c1=some nv
 h2:R.f c2=some nv
 h3:R.f c3=some nv
 nc:U.f cb=none
 nk:U.f kb=none
 ns:U.f sb=none
 nu:U.f ub=none
 nd:U.f db=none
 n1:U.f c1=none
 n2:U.f c2=none
 n3:U.f c3=none
 d12:c1≠c2
 d13:c1≠c3
 d23:c2≠c3
def Xo:f40.body=some jb:=ah
def ai3{ops:Array Oper}(h:(ops.toList.zipIdx.all λp=>p.1.after.all λe=>decide (e.on<p.2))=true):∀(i:Nat) (o:Oper),ops[i]? =some o->∀e∈o.after,e.on<i:=by intro i o ho e he;rw[List.all_eq_true]at h;have:=h (o,i) (by rw[List.mk_mem_zipIdx_iff_getElem?];simpa using ho);rw[Array.all_eq_true_iff_forall_mem]at this;simpa using this e he
def ai2:(zp.toList.zipIdx.all λp=>p.1.after.all λe=>decide (e.on<p.2))=true:=ah
def aoh:zp.size=9:=ah
def entry{E:Env prog}{bc:Nat}{ch:List UInt8}{cs:List Frame}:
 ax E (G (Frame.enter prog 40 #[pV bc,.string (B ch)] .normal) cs) U λg R=>∃cb kb sb ub db c1 c2 c3,Nj U R bc ch cb kb sb ub db c1 c2 c3/\∃I a,cM 52 a I []/\
  I 2=pV cb/\I 3=pV kb/\I 4=pV sb/\I 5=pV ub/\I 6=pV db/\g=G (bT.at a [.code qV]) cs:=by
 rw[enter_at _ func40 Xo,Vw];have Dn:f40.ntmps=52:=rfl;rw[Dn];have tO:=sr #[pV bc,.string (B ch)] 52 ak;generalize sQ:nG _ 52=mz at tO;have q0:mz 0=pV bc:=by rw[<-sQ];rfl
 have q1:mz 1=.string (B ch):=by rw[<-sQ];rfl
 clear sQ;generalize(⟨_++Array.replicate (52-_) undef,[]⟩:Act)=a0 at tO|-;change ax E (G (bT.at a0 [.code (.seq (.region 0 LW false) (.seq (.region 1 zp true) qV))]) cs) U _;refine ax.ctl (λw=>stepG_seq) rfl rfl ?_;refine(nB (E:=E) (N:=52) (X:=λI ds R=>ds=[]/\∃cb kb,I 2=pV cb/\I 3=pV kb/\U.f cb=none/\U.f kb=none/\U.le R/\R.f cb=some (.cells #[pV bc] 70 (0,0))/\R.f kb=some (.cells #[.string (B ch)] 9 (0,0))) ?_ (by simp[bT]) tO).bind ?_
 ·simp only[LW,jb,f40,Option.getD_some,bM,bK];refine aH q0 ?_;refineλcb mf=>?_;simp only[go_sem,seval,q1,aA];refineλkb sK=>?_;simp only[go_sem,seval,aA];refine⟨rfl,cb,kb,by simp[up],by simp[up],mf,?_,?_,?_,by simp[Hp.set]⟩
  ·exact tH (vV (λ_ _ h=>h) mf _) sK
  ·exact vV (vV (λ_ _ h=>h) mf _) sK _
  ·exact BB sK (by simp[Hp.set])
 rintro g R ⟨qg,_,a1,de,⟨rfl,cb,kb,r2,r3,mf,sK,hle,hc,hk⟩,rfl⟩;refine ax.ctl (λw=>stepG_seq) rfl rfl ?_;have hm:prog.follows .mixedOrders=true:=ah;refine(nB (E:=E) (N:=52) (X:=λI ds bY=>E8 R (pV cb) (pV kb) (λ_=>true) I ds bY) ?_ (by simp[bT]) de).bind ?_
 ·intro t;refine aqt (atz:=E8 R (pV cb) (pV kb)) hm ?_ (λL i o I ds U K=>abg L i o I ds U K) ?_ ?_ t
  ·exact ai3 ai2
  ·intro L I ds bY lK h;rw[aoh]at lK;have e:∀i,i<9->L i=true:=lK;obtain⟨e1,e2,e3,e4,e5,e6,e7,e8,e9,kF⟩:=h
   exact⟨e1,e2,e3,e4,by rw[e 0 an,e 3 an,e 6 an]at e5;exact e5,by rw[e 1 an,e 4 an,e 7 an]at e6;exact e6,by rw[e 2 an,e 5 an,e 8 an]at e7;exact e7,
    λ_ _=>e8 (e 0 an) (e 1 an),λ_ _=>e9 (e 0 an) (e 2 an),λ_ _=>kF (e 1 an) (e 2 an)⟩
  ·exact⟨rfl,r2,r3,(λ_ _ h=>h),⟨(λh=>by cases h),(λh=>by cases h),(λh=>by cases h)⟩,⟨(λh=>by cases h),(λh=>by cases h),(λh=>by cases h)⟩,⟨(λh=>by cases h),(λh=>by cases h),(λh=>by cases h)⟩,(λh=>by cases h),(λh=>by cases h),(λh=>by cases h)⟩
 rintro g bY ⟨lW,_,a2,gp,⟨rfl,s2,s3,nZ,t0,t1,t2,SC,SD,SF⟩,rfl⟩;obtain⟨c1,i1,i2,i3⟩:=t0.c rfl;obtain⟨sb,i4,i5,i6⟩:=t0.a rfl;obtain⟨c2,j1,j2,j3⟩:=t1.c rfl;obtain⟨ub,j4,j5,j6⟩:=t1.a rfl;obtain⟨c3,k1,k2,k3⟩:=t2.c rfl;obtain⟨db,k4,k5,k6⟩:=t2.a rfl;simp only[if_true,i1,j1,k1]at i6 j6 k6 SC SD SF;refine ax.here ⟨cb,kb,sb,ub,db,c1,c2,c3,⟨λb o h=>nZ b o (hle b o h),nZ _ _ hc,nZ _ _ hk,i6,j6,k6,i3,j3,k3,mf,sK,tH hle i5,tH hle j5,tH hle k5,tH hle i2,tH hle j2,tH hle k2,?_,?_,?_⟩,lW,a2,gp,s2,s3,i4,j4,k4,rfl⟩
 ·exactλe=>SC trivial trivial (by rw[e])
 ·exactλe=>SD trivial trivial (by rw[e])
 ·exactλe=>SF trivial trivial (by rw[e])
section
open Go.ConcX
noncomputable def g2:Array Oper:=bK (bM qV)
noncomputable def g3:Array Oper:=bK (bM (aO qV))
noncomputable def g4:Array Oper:=bK (bM (aO (aO qV)))
def anm:qV=.seq (.region 2 g2 false) (.seq (.region 3 g3 false) (.seq (.region 4 g4 false) iA)):=ah
def ach:∃ps af ty,g2[0]? =some {dst:=some 7,op:=.alloc 131,type:=ty,pos:=ps,after:=af,guard:=none}:=⟨_,_,_,by simp only[g2,qV,jb,f40,Option.getD_some,aO,bM,bK];rfl⟩
def PT:∃ps af ty cz,g3[0]? =some {dst:=some 12,op:=.call {callee:=.value (.func 55),args:=#[.tmp 7,.const (.int .i64 1)],argTypes:=cz},type:=ty,pos:=ps,after:=af,guard:=none}:=⟨_,_,_,_,by simp only[g3,qV,jb,f40,Option.getD_some,aO,bM,bK];rfl⟩
def acm:∃ps af ty,g4[0]? =some {dst:=some 13,op:=.makeFunc (.func 56) #[] #[.tmp 7,.tmp 2,.tmp 3,.tmp 4,.tmp 5,.tmp 6],type:=ty,pos:=ps,after:=af,guard:=none}:=⟨_,_,_,by simp only[g4,qV,jb,f40,Option.getD_some,aO,bM,bK];rfl⟩
def acn:∃ps af ty cz,g4[1]? =some {dst:=none,op:=.go {callee:=.value (.tmp 13),args:=#[],argTypes:=cz},type:=ty,pos:=ps,after:=af,guard:=none}:=⟨_,_,_,_,by simp only[g4,qV,jb,f40,Option.getD_some,aO,bM,bK];rfl⟩
def LS(S Q:Loc->Prop)(B:Nat)(g:Goroutine)(d:Nat)(atA:World->Prop)(m:Machine)(T:Trace):Prop:=
 ∃gs w sl q,m=crowd gs w sl/\gs[0]? =some g/\Lone prog S Q B gs w T q d/\atA w
section
variable {N:Nat}
variable {S Q:Loc->Prop}{B d:Nat}{g g':Goroutine}{atA R':World->Prop}{m:Machine}{T:Trace}
def LS.step (h:LS S Q B g d atA m T)(hr:g.status=.running)(hR:∀w dd,atA w->atA (w.at dd))(hs:∀w,atA w->∃w',stepG prog true g w=.go g' w' #[]/\R' w'):∃N m' T',runNT prog N m T=(.next m',T')/\LS S Q B g' d R' m' T':=by
 obtain⟨gs,w,sl,q,rfl,hg,hl,hw⟩:=h
 obtain⟨N,ck,a',w',bG,T',q',es,h1,h2,h3,⟨rfl,rfl,h4⟩,h5⟩:=hl.go hg hr sl (X:=λa' w' es=>a'=g'/\es= #[]/\R' w') (λdd=>by
  obtain⟨w',k1,k2⟩:=hs (w.at dd) (hR w dd hw)
  exact⟨g',w',#[],k1,ak,rfl,rfl,k2⟩)
 refine⟨N,_,T',h1,ck,w',bG,q',rfl,h3,?_,h4⟩;simpa[deafBehind]using h5
def LS.ctl (h:LS S Q B g d atA m T)(hr:g.status=.running)(hR:∀w dd,atA w->atA (w.at dd))(hs:∀w,stepG prog true g w=.go g' w #[]):∃N m' T',runNT prog N m T=(.next m',T')/\LS S Q B g' d atA m' T':=
 h.step hr hR λw hw=>⟨w,hs w,hw⟩
end
variable {N:Nat}
def two{m:Machine}{T:Trace}{X Y:Machine->Trace->Prop}(h:∃N m' T',runNT P N m T=(.next m',T')/\X m' T')(k:∀m' T',X m' T'->∃N pg oD,runNT P N m' T'=(.next pg,oD)/\Y pg oD):∃N pg oD,runNT P N m T=(.next pg,oD)/\Y pg oD:=by obtain⟨N,m',T',h1,h2⟩:=h;obtain⟨N',pg,oD,k1,k2⟩:=k m' T' h2;exact⟨N+N',pg,oD,runNT_then h1 k1,k2⟩
variable {a:Act}{k:List Item}{cs:List Frame}
def V7{ops:Array Oper}{ps:String}{af:Array Edge}{rest:List Nat}(ho:ops[0]? =some {dst:=some 7,op:=.alloc 131,type:=ty,pos:=ps,after:=af,guard:=none})(w:World):
 stepG prog true (G (bT.at a (.inRegion ops (0::rest)::k)) cs) w=.go (G (bT.at (a.put (some 7) (pV w.heap.size)) (.inRegion ops rest::k)) cs) (w.alloc (wgBlock 131 0 0)) #[]:=by
 have hr:(execOp a.eval {dst:=some 7,op:=.alloc 131,type:=ty,pos:=ps,after:=af,guard:=none}).run prog w=.ok (.value (pV w.heap.size)) (w.alloc (wgBlock 131 0 0)):=by unfold execOp;simp[go_sem,zeroValue131];rfl
 have he:(execOp a.eval {dst:=some 7,op:=.alloc 131,type:=ty,pos:=ps,after:=af,guard:=none}).events prog w #[]= #[]:=by unfold execOp;simp[go_sem,zeroValue131]
 rw[stepG_value ho rfl (by simp[bT]) hr,listed_none he]
variable {x0 x1 x2 x3 x4 x5:Nat}
def acf(h7:a.eval (.tmp 7)=pV x0)(h2:a.eval (.tmp 2)=pV x1)(h3:a.eval (.tmp 3)=pV x2)(h4:a.eval (.tmp 4)=pV x3)(h5:a.eval (.tmp 5)=pV x4)(h6:a.eval (.tmp 6)=pV x5)(w:World):
 stepG prog true (G (bT.at a (.inRegion g4 [0,1]::k)) cs) w=.go (G (bT.at (a.put (some 13) (.func (.func 56) #[] (oG x0 x1 x2 x3 x4 x5))) (.inRegion g4 [1]::k)) cs) w #[]:=by
 obtain⟨ps,af,ty,ho⟩:=acm
 have hr:(execOp a.eval {dst:=some 13,op:=.makeFunc (.func 56) #[] #[.tmp 7,.tmp 2,.tmp 3,.tmp 4,.tmp 5,.tmp 6],type:=ty,pos:=ps,after:=af,guard:=none}).run prog w=.ok (.value (.func (.func 56) #[] (oG x0 x1 x2 x3 x4 x5))) w:=by unfold execOp;simp[Instr.makeFunc,h7,h2,h3,h4,h5,h6,oG]
 have he:(execOp a.eval {dst:=some 13,op:=.makeFunc (.func 56) #[] #[.tmp 7,.tmp 2,.tmp 3,.tmp 4,.tmp 5,.tmp 6],type:=ty,pos:=ps,after:=af,guard:=none}).events prog w #[]= #[]:=by unfold execOp;simp[Instr.makeFunc]
 rw[stepG_value ho rfl (by simp[bT]) hr,listed_none he]
def adf(h:a.eval (.tmp 13)=.func (.func 56) #[] (oG x0 x1 x2 x3 x4 x5))(w:World):
 stepG prog true (G (bT.at a (.inRegion g4 [1]::k)) cs) w=.spawn (G (bT.at a (.inRegion g4 []::k)) cs) (born prog (call56 x0 x1 x2 x3 x4 x5)) w #[]:=by
 obtain⟨ps,af,ty,cz,ho⟩:=acn
 have hr:(execOp a.eval {dst:=none,op:=.go {callee:=.value (.tmp 13),args:=#[],argTypes:=cz},type:=ty,pos:=ps,after:=af,guard:=none}).run prog w=.ok (.spawn (call56 x0 x1 x2 x3 x4 x5)) w:=by unfold execOp;simp[resolve,h,Deferred.ofValue,call56]
 have he:(execOp a.eval {dst:=none,op:=.go {callee:=.value (.tmp 13),args:=#[],argTypes:=cz},type:=ty,pos:=ps,after:=af,guard:=none}).events prog w #[]= #[]:=by unfold execOp;simp[resolve,h,Deferred.ofValue]
 rw[stepG_spawn ho rfl (by simp[bT]) hr rfl,listed_none he];rfl
def Xr:f55.body=some (Go.ConcX.Gen.body_add pz):=ah
def SV:(f55.name== "runtime.NumGoroutine")=false:=ah
def Od:f55.body.isNone=false:=ah
def t55:f55.ntmps=117:=ah
def Ik(wg:Nat):Array Value:=#[pV wg,.int .i64 1,undef,undef,undef,undef,undef,undef,undef,undef,undef,undef,undef,undef,undef,undef,undef,undef,undef,undef,undef,undef,undef,undef,undef,undef,undef,undef,undef,undef,undef,undef,undef,undef,undef,undef,undef,undef,undef,undef,undef,undef,undef,undef,undef,undef,undef,undef,undef,undef,undef,undef,undef,undef,undef,undef,undef,undef,undef,undef,undef,undef,undef,undef,undef,undef,undef,undef,undef,undef,undef,undef,undef,undef,undef,undef,undef,undef,undef,undef,undef,undef,undef,undef,undef,undef,undef,undef,undef,undef,undef,undef,undef,undef,undef,undef,undef,undef,undef,undef,undef,undef,undef,undef,undef,undef,undef,undef,undef,undef,undef,undef,undef,undef,undef,undef,undef]
def Wl(wg:Nat):(#[pV wg,.int .i64 1]++Array.replicate (117-2) undef:Array Value)=Ik wg:=ah
def VU{wg:Nat}(h:a.eval (.tmp 7)=pV wg)(w:World):stepG prog true (G (bT.at a (.inRegion g3 [0]::k)) cs) w=
 .go (G ((base 55).at {tmps:=Ik wg,defers:=[]} [.code (Go.ConcX.Gen.body_add pz)]) (bT.at a (.inRegion g3 [0]::k)::cs)) w #[]:=by
 obtain⟨ps,af,ty,cz,ho⟩:=PT
 have ki:(#[Operand.tmp 7,.const (.int .i64 1)]).map a.eval= #[pV wg,.int .i64 1]:=by simp[h];rfl
 rw[stepG_enter (f:=55) (args:=(#[Operand.tmp 7,.const (.int .i64 1)]).map a.eval) ho rfl (by simp[bT]) (run_call_body rfl func55 SV Od),enter_at (fn:=f55) _ func55 Xr]
 have:listed prog bT.fn a {dst:=some 12,op:=.call {callee:=.value (.func 55),args:=#[.tmp 7,.const (.int .i64 1)],argTypes:=cz},type:=ty,pos:=ps,after:=af,guard:=none} w= #[]:=by unfold listed;rw[events_call_body rfl func55 SV Od];exact seen_none _ _
 rw[this,ki,t55,<-Wl];rfl
section
variable {P:Program}{N:Nat}{b:Nat}
variable {S Q:Loc->Prop}{B:Nat}{wg C:Nat}
@[reducible] def VS (S:Loc->Prop)(B wg C:Nat)(hW:wg<B)(hC:C<B)(Ju:∀a:Addr,a.block=C->¬S (.cell a)):Shy wg C:=
 let Y:Shy wg C:=shyOf S B wg C (λ_ _=>True) hW hC Ju
 {ok:=λact=>okF S B wg act/\∀a,act≠.mark (.release a)
  atomicWg:=λa wr h=>⟨Y.atomicWg a wr h,ak⟩
  readWg:=λa h=>⟨Y.readWg a h,ak⟩
  writeWg:=λa h=>⟨Y.writeWg a h,ak⟩
  theirs:=λa wr h=>⟨Y.theirs a wr h,ak⟩
  disable:=⟨Y.disable,ak⟩
  enable:=⟨Y.enable,ak⟩
  relMerge:=⟨Y.relMerge,ak⟩
  acquire:=⟨Y.acquire,ak⟩
  go1:=⟨Y.go1,ak⟩
  start:=⟨Y.start,ak⟩
  stop:=λ_ _=>True}
def Pv {m:Mark}(h1:m=.disable\/m=.enable):∀e∈#[mk m],E3 S B e:=by intro e he;simp only[List.mem_toArray,List.mem_cons,List.not_mem_nil,or_false]at he;subst he;rcases h1 with rfl|rfl<;>exact⟨λb hb=>by simp[mk,MemAct.ofEvent,MemAct.touch?]at hb,trivial,by simp[mk]⟩
def aiY {gs:Array Goroutine}{w:World}{sl:Option (Nat×Nat)}{T:Trace}{q:Nat->Nat}{a:Act}{k:List Item}{cs:List Frame}(hl:Lone prog S Q B gs w T q 0)(hg:gs[0]? =some (G ((base 55).at {tmps:=Ik wg,defers:=[]} [.code (Go.ConcX.Gen.body_add pz)]) (bT.at a (.inRegion g3 [0]::k)::cs)))
 (hw:WgAt 131 wg w 0 0) (hW:wg<B) (hC:C<B) (Ju:∀a:Addr,a.block=C->¬S (.cell a)):
 ∃N ck w' bG T' q',runNT prog N (crowd gs w sl) T=(.next (crowd ck w' bG),T')/\ck.size=gs.size/\ck[0]? =some (G (bT.at (a.put ((g3[0]?).bind (·.dst)) (.tuple #[])) (.inRegion g3 []::k)) cs)/\Lone prog S Q B ck w' T' q' 0/\∃dd,w'=(w.setCell (stA wg) (.int .u64 KK)).at dd:=by
 letI:Shy wg C:=VS S B wg C hW hC Ju
 let StopG:Goroutine->World->Prop:=λg w₁=>g=G (bT.at (a.put ((g3[0]?).bind (·.dst)) (.tuple #[])) (.inRegion g3 []::k)) cs/\AtRel (w.setCell (stA wg) (.int .u64 KK)) w₁
 have hG:=Go.ConcX.Gen.addPos (P:=prog) (L:=pz) (Wg:=wg) (C:=C) (StopG:=StopG) (mT:=0) (b₀:=bT) (a₀:=a) (ops₀:=g3) (i₀:=0) (rest₀:=[]) (k₀:=k) (cs:=cs) HF w hw (λw₁ hr=>⟨rfl,hr⟩)
 have hD:∀w w' es,DE (EvS wg C) w w' es->∀e∈es,E3 S B e/\e.loc≠.mark .disable/\e.loc≠.mark .enable:=by
  intro w w' es h e he;obtain⟨h1,h2,h3,h4,h5,h6,h7⟩:=h e he
  have hm:∀m,MemAct.ofEvent e≠.mark m->e.loc≠.mark m:=by rintro m hm e2;apply hm;obtain⟨l,wr,sy⟩:=e;simp only at e2;subst e2;rfl
  exact⟨⟨λb hb hs=>(h6.1 b hb).1 hs,h6.2.1,λa e2=>h7 a (by
   obtain⟨l,wr,sy⟩:=e
   simp only at e2
   subst e2
   rfl)⟩,hm _ h4,hm _ h5⟩
 obtain⟨N1,P7,a1,w1,Mp,T1,q1,r1,z1,g1,lr,l1⟩:=hl.goes hD 12 sl hg hG
 obtain⟨N2,wY,a2,w2,wH,T2,q2,IZ,r2,z2,g2',⟨rfl,n2,hG2⟩,l2⟩:=l1.go g1 (lr 0).1 Mp (X:=λa' w' es=>es= #[mk .disable]/\∃n,Goes prog true AtRel (DE (EvS wg C)) (AtMkS prog .enable λa w=>∃n,Goes prog true AtRel (DE (EvS wg C)) StopG n a w) n a' w') (λdd=>by
  obtain⟨_,a',h1,h2⟩:=lr dd
  exact⟨a',_,_,h1,Pv (.inl rfl),rfl,h2⟩)
 obtain⟨N3,P8,a3,w3,zF,T3,q3,r3,z3,g3',qZ,l3⟩:=l2.goes hD n2 wH g2' hG2
 obtain⟨N4,P9,a4,w4,Mq,T4,q4,es4,r4,z4,g4',⟨rfl,n4,hG4⟩,l4⟩:=l3.go g3' (qZ 0).1 zF (X:=λa' w' es=>es= #[mk .enable]/\∃n,Goes prog true AtRel (DE (EvS wg C)) StopG n a' w') (λdd=>by
  obtain⟨_,a',h1,h2⟩:=qZ dd
  exact⟨a',_,_,h1,Pv (.inr rfl),rfl,h2⟩)
 obtain⟨N5,gs5,a5,w5,sl5,T5,q5,r5,z5,g5',zI,l5⟩:=l4.goes hD n4 Mq g4' hG4;obtain⟨e5,dd,h5⟩:=zI w5.drawn;have hd:deafBehind (deafBehind 0 #[mk .disable]) #[mk .enable]=0:=by rfl
 rw[hd]at l5;refine⟨_,gs5,w5,sl5,T5,q5,runNT_then (runNT_then (runNT_then (runNT_then r1 r2) r3) r4) r5,?_,by rw[g5',e5],l5,dd,h5⟩;rw[z5,z4,z3,z2,z1]
end
end
end Go.Qw
