/- 11 -/
import Derived.Test.YtpiabknabfbfhaaGreatDoorKept10
set_option linter.all false
set_option maxRecDepth 100000
set_option maxHeartbeats 8000000
namespace Go.Qw
open Go Go.Conc Go.Proofs Go.Proofs.Tryz
structure Wf (n:N):Prop where
 un:∀id no h,n.h? id no=some h->∀e∈h.un,(n.q? e.2.1).isSome
 xq:∀k x,n.x? k=some x->(n.q? x.q).isSome
 xh:∀k x,n.x? k=some x->∃h,n.h? x.id x.no=some h/\bq h.co x.tag=some k
 co:∀id no h,n.h? id no=some h->∀e∈h.co,∃x,n.x? e.2=some x/\x.id=id/\x.no=no/\x.tag=e.1
 qc:∀nm q,n.q? nm=some q->∀k∈q.cons,∃x,n.x? k=some x/\x.q=nm
section
variable {A':Lay}{H:Hid}{H':Hid}{X:Ext}{U:Hp}{no:Nat}{nm:List UInt8}{h:HN}{q:QN}{k:Int}{x:XN}{o:Obj}{b:Nat}
variable {A:Lay}{n:N}{id:Int}{c:CN}
def aiU {id:Int}{c:CN}(h:(id,c)∈n.aF):(n.ar id).isSome:=by
 cases e:n.ar id with
 |none=>exact absurd rfl (jc e _ h)
 |some _=>rfl
def aiT {no:Nat}{h:HN}{c:CN}(hc:n.ar id=some c)(hm:(no,h)∈c.ch):(n.h? id no).isSome:=by
 unfold N.h?;rw[hc,Option.bind_some]
 cases e:bq c.ch no with
 |none=>exact absurd rfl (jc e _ hm)
 |some _=>rfl
def xX {nm:List UInt8}{q:QN}(h:(nm,q)∈n.aN):(n.q? nm).isSome:=by
 cases e:n.q? nm with
 |none=>exact absurd rfl (jc e _ h)
 |some _=>rfl
structure NK (n:N) (A A':Lay) (H H':Hid):Prop where
 gw:A'.gw=A.gw
 br:A'.br=A.br
 mq:A'.mq=A.mq
 mc:A'.mc=A.mc
 l1:A'.L1=A.L1
 conn:∀id,(n.ar id).isSome->A'.conn id=A.conn id/\H'.chm id=H.chm id
 chan:∀id no,(n.h? id no).isSome->A'.chan id no=A.chan id no/\A'.un id no=A.un id no/\A'.co id no=A.co id no
 queue:∀nm,(n.q? nm).isSome->A'.queue nm=A.queue nm/\H'.rv nm=H.rv nm/\H'.cv nm=H.cv nm
 cons:∀k,(n.x? k).isSome->A'.cons k=A.cons k
def aev (hh:n.h? id no=some h):(n.ar id).isSome:=by obtain⟨c,hc⟩:=xD hh;rw[hc];rfl
def aq.HU (a:aq A H n X U)(w:Wf n)(g:NK n A A' H H'):aq A' H' n X U:=by
 have hv:∀r,view n A' H' X r=view n A H X r:=by
  intro r
  cases r with
  |b0|ext=>rfl
  |b1=>simp[view,g.l1]
  |gw=>simp[view,g.br,g.mc]
  |br=>simp[view,g.mq]
  |mq=>simp only[view];congr 2;exact List.map_congr_left λe he=>by rw[(g.queue e.1 (xX he)).1]
  |mc=>simp only[view];congr 2;exact List.map_congr_left λe he=>by rw[(g.conn e.1 (aiU he)).1]
  |conn id=>simp only[view];cases hc:n.ar id with
   |none=>rfl
   |some c=>simp[g.gw,(g.conn id (by rw[hc];rfl)).2]
  |chm id=>simp only[view];cases hc:n.ar id with
   |none=>rfl
   |some c=>simp only[Option.map_some];congr 2;exact List.map_congr_left λe he=>by rw[(g.chan id e.1 (aiT hc he)).1]
  |chan id no=>simp only[view];cases hh:n.h? id no with
   |none=>rfl
   |some h=>obtain⟨_,e2,e3⟩:=g.chan id no (by rw[hh];rfl);simp[e2,e3,(g.conn id (aev hh)).1]
  |un id no=>simp only[view];cases hh:n.h? id no with
   |none=>rfl
   |some h=>simp only[Option.map_some];congr 2;exact List.map_congr_left λe he=>by rw[(g.queue e.2.1 (w.un id no h hh e he)).1]
  |co id no=>simp only[view];cases hh:n.h? id no with
   |none=>rfl
   |some h=>simp only[Option.map_some];congr 2;exact List.map_congr_left λe he=>by obtain⟨x,hx,_⟩:=w.co id no h hh e he;rw[g.cons e.2 (by rw[hx];rfl)]
  |queue nm=>simp only[view];cases hq:n.q? nm with
   |none=>rfl
   |some q=>obtain⟨_,e2,e3⟩:=g.queue nm (by rw[hq];rfl);simp[e2,e3]
  |ft nm=>simp only[view];cases hq:n.q? nm with
   |none=>rfl
   |some q=>obtain⟨_,e2,e3⟩:=g.queue nm (by rw[hq];rfl);simp[e2]
  |iy nm=>simp only[view];cases hq:n.q? nm with
   |none=>rfl
   |some q=>
    obtain⟨_,e2,e3⟩:=g.queue nm (by rw[hq];rfl);have:(q.cons.map λk=>pV (A'.cons k))=q.cons.map λk=>pV (A.cons k):=List.map_congr_left λk hk=>by obtain⟨x,hx,_⟩:=w.qc nm q hq k hk;rw[g.cons k (by rw[hx];rfl)]
    simp[e3,this]
  |cons k=>simp only[view];cases hx:n.x? k with
   |none=>rfl
   |some x=>obtain⟨h,hh,_⟩:=w.xh k x hx;simp[(g.chan x.id x.no (by rw[hh];rfl)).1,(g.queue x.q (w.xq k x hx)).1]
 refine Hl.congr a hv (λr hr=>?_);have nn:∀{α β:Type} {o:Option α} {f:α->β},(o.map f).isSome->o.isSome:=λh=>by simpa using h
 have nb:∀{α β:Type} {o:Option α} {f:α->Option β},(o.bind f).isSome->o.isSome:=λ{α β o f} h=>by cases o with|none=>cases h|some=>rfl
 cases r with
 |b0|b1|ext=>rfl
 |gw=>exact g.gw
 |br=>exact g.br
 |mq=>exact g.mq
 |mc=>exact g.mc
 |conn id=>exact(g.conn id (nn hr)).1
 |chm id=>exact(g.conn id (nn hr)).2
 |chan id no=>exact(g.chan id no (nn hr)).1
 |un id no=>exact(g.chan id no (nn hr)).2.1
 |co id no=>exact(g.chan id no (nn hr)).2.2
 |queue nm=>exact(g.queue nm (nn hr)).1
 |ft nm=>simp only[cG];rw[(g.queue nm (nb hr)).2.1]
 |iy nm=>simp only[cG];rw[(g.queue nm (nb hr)).2.2]
 |cons k=>exact g.cons k (nn hr)
def Lay.tI (A:Lay)(nm:List UInt8)(b:Nat):Lay:={A with queue:=λx=>if x=nm then b else A.queue x}
def M0 {α β:Type}[DecidableEq α]{f:α->Option β}{a x:α}(h:f a=none)(hx:(f x).isSome):¬x=a:=λe=>by subst e;rw[h]at hx;cases hx
def aq.akz (a:aq A H n X U)(w:Wf n)(hq:n.q? nm=none)(hb:U.f b=none)(ho:oN (.ye ((cZ cP n.aN nm ⟨[],0,0,[]⟩).map λe=>(e.1,pV ((A.tI nm b).queue e.1)))) o):
 aq (A.tI nm b) ((H.jP nm (.slice none 0 0)).pE nm (.slice none 0 0)) {n with aN:=cZ cP n.aN nm ⟨[],0,0,[]⟩} X ((U.set b (fQ nm (.slice none 0 0) 0 0 (.slice none 0 0))).set A.mq o):=by
 have h0:=a.HU w (A':=A.tI nm b) (H':=(H.jP nm (.slice none 0 0)).pE nm (.slice none 0 0)) ⟨rfl,rfl,rfl,rfl,rfl,λ_ _=>⟨rfl,rfl⟩,λ_ _ _=>⟨rfl,rfl,rfl⟩,λx hx=>by simp[Lay.tI,Hid.jP,Hid.pE,M0 (f:=n.q?) hq hx],λ_ _=>rfl⟩;have h1:=Hl.put h0 (r:=.queue nm) (b:=b) (v:=.obj (fQ nm (.slice none 0 0) 0 0 (.slice none 0 0))) (Hl.tR h0 _ hb) (_root_.id rfl)
 have e1:upd (cG (A.tI nm b) ((H.jP nm (.slice none 0 0)).pE nm (.slice none 0 0)) X) (.queue nm) b=cG (A.tI nm b) ((H.jP nm (.slice none 0 0)).pE nm (.slice none 0 0)) X:=by
  funext r;unfold upd;split
  ·rename_i e;subst e;simp[cG,Lay.tI]
  ·rfl
 rw[e1]at h1;have h2:=Hl.set h1 (r:=.mq) (by simp[upd,view]) ho;refine Hl.congr h2 (λr=>?_) (λ_ _=>rfl);have qZ:∀i,N.q? {n with aN:=cZ cP n.aN nm ⟨[],0,0,[]⟩} i=if i=nm then some ⟨[],0,0,[]⟩else n.q? i:=λi=>yQ _ _ _ _ hq
 cases r
 case queue i=>by_cases e:i=nm<;>simp[view,upd,e,qZ,Hid.jP,Hid.pE]
 case ft i=>
  by_cases e:i=nm
  ·subst e;simp[view,upd,qZ,hq,Hid.jP,Hid.pE,zZ,kW]
  ·simp[view,upd,e,qZ]
 case iy i=>
  by_cases e:i=nm
  ·subst e;simp[view,upd,qZ,hq,Hid.jP,Hid.pE,CF,kW]
  ·simp[view,upd,e,qZ]
 all_goals simp[view,upd]<;>rfl
def Lay.B5 (A:Lay)(k:Int)(b:Nat):Lay:={A with cons:=λx=>if x=k then b else A.cons x}
end
@[go_sem] def atl{x:Array Operand}{a:Array TypeId}:cW (.call ⟨.builtin .copy,x,a⟩)=false:=bp
variable {U:Hp}{P:Program}{v:Value}{n:Nat}{H:Halt->Hp->Prop}
def ajs(h:tB v=some n){Q:Nat->Hp->Prop}(k:Q n U):wpS P (Builtin.lenOf v) Q H U:=by cases v<;>first|(simp only[tB,Option.some.injEq]at h;subst h;exact k)|cases h
variable {I:av}{ds:List Deferred}{dst:Option Tmp}{ty:TypeId}{pos:String}{af:Array Edge}{g:Option (Nat×Bool)}{nx:av->List Deferred->Hp->Prop}{pn:List PanicEntry->Hp->Prop}{E:Env P}{t u:TypeId}{x y:Operand}{b off:Nat}{e:TypeId}{L:List Value}
def F9(el:oO P t){dl dc k:Nat}{new:List Value}(hx:ak I x=.slice (some ⟨b,off,none⟩) dl dc)(hn:tB (ak I y)=some k)(iZ:jd U el.z (Nat.min k dl) (ak I y)=some new.toArray)(hb:U.f b=some (.cells L.toArray e (0,0)))(hle:off+new.length<=L.length)(kV:new.all dn=true)(h:nx (aC I dst (goInt (Nat.min k dl))) ds (U.set b (.cells (L.take off++new++L.drop (off+new.length)).toArray e (0,0)))):
 aT E ⟨dst,.call ⟨.builtin .copy,#[x,y],#[t,u]⟩,ty,pos,af,g⟩ I ds U nx pn:=by
 have jK:=el.hu;obtain⟨i,zv,hi,hz,hzero,Bv,fC⟩:=el.hi;show wpOp E _ I ds U nx pn;unfold wpOp;simp only[execOp,resolve,aG,bt,invoke];show wpS P (do pure (Next.value (<-Builtin.copy_ #[t,u] ty (#[x,y].map (ak I)))):Sem Next) _ _ _;rw[lU];have e1: #[x,y].map (ak I)= #[.slice (some ⟨b,off,none⟩) dl dc,ak I y]:=by simp[hx]
 rw[e1];simp only[Builtin.copy_,List.getElem?_toArray,List.getElem?_cons_zero,List.getElem?_cons_succ,aG,eg,jK];refine ajs hn ?_;simp only[sizeOf,aG,gu,hi,bt,hz];refine CS iZ ?_;simp only[aG];refine Fj (e:=e) (a:=⟨b,off,none⟩) rfl new 0 L.toArray U _ hb (aY hle) kV ?_
 have e2:(L.toArray.extract 0 (off+0)++new.toArray++L.toArray.extract (off+0+new.length) L.toArray.size:Array Value)=(L.take off++new++L.drop (off+new.length)).toArray:=by apply Array.ext';simp[List.take_of_length_le]
 rw[e2];exact h
variable {c:Nat}
def Xi(el:oO P t){base:Option Addr}{l:Nat}{k:IntKind}(hu:P.underlying u=some (.int k)){old:Array Value}(hx:ak I x=.slice base l c)(hy:ak I y=.int .i64 n)(Lr:0<el.z)(Bp:0<n)(hold:jd U el.z l (.slice base l c)=some old)(gn:(2*(l+n)+192)*el.bytes<=2^48)(kD:0<el.bytes)(af6:l+n<=4611686018427387904)(hc:c<l+n)(fP:∀b cap,U.f b=none->l+n<=cap->nx (aC I dst (.slice (some ⟨b,0,none⟩) (l+n) cap)) ds (U.set b (.cells (old++Builtin.zeroCells el.zero n++Builtin.zeroCells el.zero (cap-(l+n))) el.e))):
 aT E ⟨dst,.call ⟨.builtin .append,#[x,y],#[t,u]⟩,ty,pos,af,g⟩ I ds U nx pn:=by
 have jK:=el.hu;obtain⟨i,zv,hi,hz,hzero,Bv,hb⟩:=el.hi;have w1:IntKind.i64.wrap (n:Int)=n:=wrap64 aa aa
 have v8:(n:Int)*el.bytes<=2^48:=by
  have:n*el.bytes<=(2*(l+n)+192)*el.bytes:=Nat.mul_le_mul_right _ aa;have h2:n*el.bytes<=2^48:=Nat.le_trans this gn
  exact_mod_cast h2
 have hnz:¬n*el.z=0:=Nat.ne_of_gt (Nat.mul_pos Bp Lr);show wpOp E _ I ds U nx pn;unfold wpOp;simp only[execOp,resolve,aG,bt,invoke];show wpS P (do pure (Next.value (<-Builtin.append_ #[t,u] ty (#[x,y].map (ak I)))):Sem Next) _ _ _;rw[lU];have e1: #[x,y].map (ak I)= #[.slice base l c,.int .i64 n]:=by simp[hx,hy]
 rw[e1];simp only[Builtin.append_,List.getElem?_toArray,List.getElem?_cons_zero,List.getElem?_cons_succ,aG,eg,jK,sizeOf,gu,hi,bt,hu];simp only[if_true,aG,asInt,asIntOf,bt,w1];have nn:¬(n:Int)<0:=aa;have n2:¬(n:Int)*(i.bytes:Int)>2^48:=by rw[hb];omega
 simp only[if_neg nn,aG,gu,hi,if_neg n2,bt,Int.toNat_natCast,Bool.not_true,Bool.false_eq_true,if_false,hz,if_neg hnz];rw[if_neg (by omega:¬l+n<=c)];simp only[aG,gu,hi,hb]
 rw[if_neg (by intro⟨h1,_⟩;have:IntKind.i64.max=9223372036854775807:=ai
               omega)]
 have GU:=nextslicecap_le hc;simp only[aG,gu,hi,hb];rw[if_neg (by have:=Nat.mul_le_mul_right el.bytes GU;omega)];simp only[aG,Is];rw[if_neg (by simp[Question.forced])];intro tt;have Bb:l+n<=(Question.appendCap (l+n) c el.e).cut tt:=by simp only[Question.cut];omega
 simp only[gu,hi,askRoom]
 have fin:wpS P (do
  let old<-Builtin.firstCells el.z l (Value.slice base l c)
  let new<-(do pure (Builtin.zeroCells (<-zeroValue el.e).cells n):Sem (Array Value))
  let r<-zeroValue el.e
  let q<-newRow el.e (old++new++Builtin.zeroCells r.cells ((Question.appendCap (l+n) c el.e).cut tt-(l+n)))
  pure (Value.slice (some q) (l+n) ((Question.appendCap (l+n) c el.e).cut tt)))
  (λv U=>pI (λv ae=>nx (aC I dst v) ds ae) (λd ae=>nx (aC I dst undef) (d::ds) ae)
   (λf args ae=>aw E f args ae (yk (λv ae=>nx (aC I dst v) ds ae) pn)) (Next.value v) U)
  (sG λv ae=>pn [{v:=v,recovered:=false}] ae) U:=by
  simp only[aG];refine CS hold ?_;simp only[zeroValue,aG,gu,hi,hzero,bt,newRow,yA,Bv];intro b cD;exact fP b _ cD Bb
 simp only[aG]at fin;split
 ·simp only[Nz];exact⟨rfl,fin⟩
 ·simp only[bt];exact fin
variable {op:BinOp}{a b:Option Addr}{m d:Nat}
@[go_sem] def atH:fi P op t (.slice a n c) (.slice b m d)=none:=by unfold fi;cases op<;>cases P.underlying t<;>first|rfl|(rename_i d;cases d<;>rfl)
@[go_sem] def atG:nO P op t x y (.slice a n c) (.slice b m d)=none:=by unfold nO;cases op<;>cases P.underlying t<;>first|rfl|(rename_i d;cases d<;>rfl)
@[go_sem] def arX:cK op (.slice a n c) (.slice b m d)=none:=by cases op<;>rfl
def Qb(hu:P.underlying t=some (.slice e))(hx:ak I x=.slice b n c)(hy:ak I y=.slice none 0 0)(h:nx (aC I dst (.bool b.isNone)) ds U):
 wpOp E ⟨dst,.binOp .eql t x y u,ty,pos,af,g⟩ I ds U nx pn:=by
 unfold wpOp;simp only[execOp,hx,hy,aG];refine y0 ?_ ⟨al,al⟩;unfold binOp;simp only[aG,bt];refine CP λk=>?_;unfold Op.equalIn;simp only[aG,eg,hu]
 cases b<;>exact h
def aaI(el:oO P t){b:Nat}{z0:Value}(hz:el.zero= #[z0])(SE:dn z0=true)(hx:ak I x=.slice (some ⟨b,off,none⟩) n c)(hb:U.f b=some (.cells L.toArray e (0,0)))(hle:off+n<=L.length)(h:nx (aC I dst (.tuple #[])) ds (U.set b (.cells (L.take off++List.replicate n z0++L.drop (off+n)).toArray e (0,0)))):
 aT E ⟨dst,.call ⟨.builtin .clear,#[x],#[t]⟩,ty,pos,af,g⟩ I ds U nx pn:=by
 have jK:=el.hu;obtain⟨i,zv,hi,gU,hzero,Bv,fC⟩:=el.hi;show wpOp E _ I ds U nx pn;unfold wpOp;simp only[execOp,resolve,aG,bt,invoke];show wpS P (do pure (Next.value (<-Builtin.clear_ #[t] ty (#[x].map (ak I)))):Sem Next) _ _ _;rw[lU];have e1: #[x].map (ak I)= #[.slice (some ⟨b,off,none⟩) n c]:=by simp[hx]
 rw[e1]
 cases n with
 |zero=>
  simp only[Builtin.clear_,List.getElem?_toArray,List.getElem?_cons_zero,aG,eg,jK,bt];have:L.take off++List.replicate 0 z0++L.drop (off+0)=L:=al;rw[this]at h
  have e0:U.set b (.cells L.toArray e (0,0))=U:=Hp.ext' λy=>by
   by_cases ey:y=b
   ·subst ey;rw[Hp.bD,hb]
   ·rw[Hp.aM _ ey]
  rw[e0]at h;exact h
 |succ n=>
  simp only[Builtin.clear_,List.getElem?_toArray,List.getElem?_cons_zero,aG,eg,jK,zeroValue,gu,hi,hzero,bt,Bv,hz]
  have ez:(Builtin.zeroCells #[z0] (n+1)).toList=List.replicate (n+1) z0:=by rw[Fs]
  rw[ez];refine Fj (e:=e) (a:=⟨b,off,none⟩) rfl _ 0 L.toArray U _ hb (aY hle) (by simp[SE]) ?_
  have e2:(L.toArray.extract 0 (off+0)++(List.replicate (n+1) z0).toArray++L.toArray.extract (off+0+(List.replicate (n+1) z0).length) L.toArray.size:Array Value)=(L.take off++List.replicate (n+1) z0++L.drop (off+(n+1))).toArray:=by apply Array.ext';simp[List.take_of_length_le]
  rw[e2];exact h
def Pp(hu:P.underlying t=some (.slice e))(hx:ak I x=.slice b n c)(h:nx (aC I dst (.int .i64 c)) ds U):
 aT E ⟨dst,.call ⟨.builtin .cap,#[x],#[t]⟩,ty,pos,af,g⟩ I ds U nx pn:=by
 show wpOp E _ I ds U nx pn;unfold wpOp;simp only[execOp,resolve,aG,bt,invoke];show wpS P (do pure (Next.value (<-Builtin.cap_ #[t] ty (#[x].map (ak I)))):Sem Next) _ _ _;rw[lU];have e1: #[x].map (ak I)= #[.slice b n c]:=by simp[hx]
 rw[e1];simp only[Builtin.cap_,List.getElem?_toArray,List.getElem?_cons_zero,aG,eg,hu];exact h
variable {lo hi:Option Operand}{K:Value->Prop}
def an1{z:Nat}(h:iX P t=some z):fK P (.slice t x lo hi none) I U K=xf False z K (lo.map (ak I)) (hi.map (ak I)) (ak I x):=by
 obtain⟨e,he,hs,hz⟩:=CO h;subst hz;unfold fK cU;simp only[H8 he];generalize ak I x=vx;generalize lo.map (ak I)=l;generalize hi.map (ak I)=u
 cases vx<;>try exact gJ
 rename_i a n c;simp only[xf,js]
 cases l with
 |none=>
  simp only[nT,mL]
  cases u with
  |none=>simp only[jQ,jx,hs,and_true];exact vN
  |some hh=>simp only[jQ,jx];cases hh<;>first|exact gJ|(simp only[hs,and_true];exact vN)
 |some ll=>
  cases ll<;>try exact gJ
  simp only[nT,mL]
  cases u with
  |none=>simp only[jQ,jx,hs,and_true];exact vN
  |some hh=>simp only[jQ,jx];cases hh<;>first|exact gJ|(simp only[hs,and_true];exact vN)
@[go_sem] def at1(hs:qw P t=false):fK P (.slice t x lo hi none) I U K=qJ False (λz=>xf False z K (lo.map (ak I)) (hi.map (ak I)) (ak I x)) (iX P t):=by
 cases h:iX P t with
 |some z=>rw[vO,an1 h]
 |none=>
  rw[Ge]
  have e0:cU P (.slice t x lo hi none) I U=match P.underlying t,ak I x with
   |some .string,.string s=>match nT (lo.map (ak I)),jQ s.size (hi.map (ak I))with
    |some l,some h=>if 0<=l/\l<=h/\h<=s.size then some (.string (s.extract l.toNat h.toNat))else none
    |_,_=>none
   |some (.slice e),.slice a n c=>match nT (lo.map (ak I)),jQ n (hi.map (ak I))with
    |some l,some h=>if 0<=l/\l<=h/\h<=c/\(P.info? e).isSome=true then
     some (.slice (if c=l.toNat then a else a.map (·.add (l.toNat*cC P e))) (h.toNat-l.toNat) (c-l.toNat))else none
    |_,_=>none
   |_,_=>none:=rfl
  have key:cU P (.slice t x lo hi none) I U=none:=by
   rw[e0];split
   ·rename_i hu _;simp[qw,hu]at hs
   ·rename_i e a n c hu _
    have hi:(P.info? e).isSome=false:=by
     cases hh:P.info? e with
     |none=>rfl
     |some i=>simp[iX,tJ,hu,hh]at h
    simp only[hi,Bool.false_eq_true,and_false,if_false];split<;>rfl
   ·rfl
  unfold fK;rw[key];exact gJ
variable {J:Hp}{E:Env prog}{y:Int}
def aaU{x:Int}:aw E 225 #[iV x,iV y] U λe J=>e=.returned (iV (if x<y then-1 else if y<x then 1 else 0))/\J=U:=by
 refine fZ func225 ntmps225 results225 rfl al λQ aD an aB=>?_;refine ag ?_;refine aZ Lx ?_;refine ag ?_;refine aZ Lx ?_;refine ag ?_;by_cases h1:x<y
 ·simp only[go_sem,seval,h1,decide_true];exact an aI ao ⟨by simp[up,h1],rfl⟩
 ·by_cases h2:y<x
  ·simp only[go_sem,seval,h1,h2,decide_true,decide_false];exact an aI ao ⟨by simp[up,h1,h2],rfl⟩
  ·simp only[go_sem,seval,h1,h2,decide_false];exact an aI ao ⟨by simp[up,h1,h2],rfl⟩
variable {m:aR}
def Pz:aw E 224 #[m.v,iV y] U λe J=>e=.returned (iV (if m.seq<y then-1 else if y<m.seq then 1 else 0))/\U.le J:=by refine fZ func224 ntmps224 results224 rfl al λQ aD an aB=>?_;simp only[go_sem,seval,aR.v];refineλb hb=>?_;simp only[go_sem,seval];refine Pj ads aaU ?_;simp only[go_sem,seval];exact an aI ao ⟨by simp[up],kK hb⟩
variable {ms:List aR}
def aaK(hm:gR U ms v)(hn:ms.length<=1000000):
 aw E 227 #[v] U λe J=>∃rv,e=.returned rv/\(rv=.slice none 0 0/\ms=[]/\J=U\/∃a c pad,rv=.slice (some ⟨a,0,none⟩) ms.length c/\U.f a=none/\ms.length<=c/\4*(c-ms.length)<=List.length (α:=Value) pad/\(U.set a (.cells (bh ms++pad).toArray 193 (0,0))).le J/\U.le J):=by
 refine aV func227 ntmps227 results227 λQ aD an aB=>?_;have Il:prog.underlying 78=some (.slice 193):=ah
 cases hm with
 |none h0=>
  subst h0;refine ag ?_;refine Qb Il (b:=none) (n:=0) (c:=0) ?_ ?_ ?_
  ·exact au
  ·exact au
  simp only[go_sem,seval,Option.isNone_none];exact an aI ao ⟨_,rfl,.inl ⟨by simp[up],rfl,rfl⟩⟩
 |«at»a pre pad c h1 h2 h3=>
  refine ag ?_;refine Qb Il (b:=some ⟨a,pre.length,none⟩) (n:=ms.length) (c:=c) ?_ ?_ ?_
  ·exact au
  ·exact au
  simp only[go_sem,seval,Option.isNone_some];refineλb hb=>?_;have Hx:¬a=b:=bl hb h3;have e2:ms.length*4=(bh ms).length:=by rw[pB];omega
  have iZ:∀o,jd (U.set b o) iW.z ms.length (.slice (some ⟨a,pre.length,none⟩) ms.length c)=some (bh ms).toArray:=by
   intro o;show(cellsOf (U.set b o) ⟨a,pre.length,none⟩ (ms.length*4))=_;have e:pre.length+ms.length*4<=pre.length+(bh ms).length+pad.length:=by rw[pB];omega
   simp only[cellsOf,Hp.ay Hx,h3,List.size_toArray,List.length_append,true_and,if_pos e];congr 1;apply Array.ext';simp[e2]
  refine ag ?_;refine sM iW (base:=some ⟨b,0,none⟩) (l:=0) (c:=0) (n:=ms.length) (old:=#[]) (new:=(bh ms).toArray) ah ?_ ?_ ?_ (by simp only[go_sem,seval];exact iZ _) ?_ aa ?_ ?_
  ·exact au
  ·exact au
  ·show(cellsOf _ ⟨b,0,none⟩ (0*4))=_;simp[cellsOf,Hp.bD]
  ·show(2*(0+ms.length)+192)*48<=2^48;omega
  ·intro h0;have GP:ms=[]:=List.length_eq_zero_iff.1 aa;subst GP;refine⟨_,⟨_,_,aX,rfl,by simp[bh],by simp[bh],rfl⟩,?_⟩;simp only[go_sem,seval,Nat.zero_add,List.length_nil];refine an aI ao ⟨_,rfl,.inr ⟨b,0,[],by simp[up],hb,Nat.le_refl _,al,?_,?_⟩⟩
   ·simp[bh];exact Hp.le_refl _
   ·exact kK hb
  ·intro hc b2 cap dA jZ
   have tq:U.f b2=none:=by
    cases hs:U.f b2 with
    |none=>rfl
    |some o=>have:=kK (o:=.cells #[] 193 (0,0)) hb b2 o hs;rw[Hp.ay (bl hs hb)]at dA;rw[hs]at dA;cases dA
   simp only[go_sem,seval,Nat.zero_add]at jZ|-;refine an aI ao ⟨_,rfl,.inr ⟨b2,cap,(Builtin.zeroCells iW.zero (cap-ms.length)).toList,by simp[up],tq,jZ,by rw[Fq];omega,?_,?_⟩⟩
   ·have e3:((bh ms).toArray++Builtin.zeroCells iW.zero (cap-ms.length))=(bh ms++(Builtin.zeroCells iW.zero (cap-ms.length)).toList).toArray:=by apply Array.ext';simp
    rw[<-e3];exact El (kK hb) _ _
   ·exact Hp.le_trans (kK hb) (kK dA)
variable {pad:List Value}{i:Nat}
def ajh{pre:List Value}(hi:i<ms.length):∃p2 q2,pre++bh ms++pad=p2++ms[i].vals++q2/\p2.length=pre.length+i*4:=by
 refine⟨pre++bh (ms.take i),bh (ms.drop (i+1))++pad,?_,?_⟩
 ·have this:bh ms=bh (ms.take i)++(ms[i].vals++bh (ms.drop (i+1))):=by
   have h1:bh (ms.take i)++bh (ms.drop i)=bh ms:=by unfold bh;rw[<-List.flatMap_append,List.take_append_drop]
   rw[<-h1,<-List.getElem_cons_drop hi];rfl
  rw[this];simp
 ·rw[List.length_append,pB,List.length_take];omega
variable {x:XN}{α:Type}
def aqh{l:List α}{p:α->Bool}(h1:∀x∈l.take i,p x=true)(h2:∀x∈l.drop i,p x=false)(hi:i<=l.length):(l.takeWhile p).length=i/\l.takeWhile p=l.take i/\l.dropWhile p=l.drop i:=by
 have e1:l.takeWhile p=l.take i:=by
  conv=>lhs;rw[<-List.take_append_drop i l]
  rw[List.takeWhile_append_of_pos h1]
  cases hd:l.drop i with
  |nil=>simp
  |cons a t=>simp[h2 a (by rw[hd];simp)]
 refine⟨by rw[e1,List.length_take];omega,e1,?_⟩;have e2:=List.takeWhile_append_dropWhile (p:=p) (l:=l);rw[e1]at e2;have e3:=List.take_append_drop i l;exact List.append_cancel_left (e2.trans e3.symm)
variable {b:Nat}
def Y6{no:Int}(hm:gR U ms v)(hn:ms.length<=1000000)(hs:ms.Pairwise λa b=>a.seq<b.seq):
 aw E 223 #[v,iV no,.func (.func 224) #[] #[]] U λe J=>(∃b:Bool,e=.returned (.tuple #[iV ((ms.takeWhile λx=>decide (x.seq<no)).length:Nat),.bool b]))/\U.le J:=by
 refine aV func223 ntmps223 results223 λQ aD an aB=>?_;obtain⟨base,cap,rfl⟩:=hm.shape
 have im:∀{J:Hp},U.le J->∀i (hi:i<ms.length),∃a off p2 q2,base=some ⟨a,off,none⟩/\J.f a=some (.cells (p2++ms[i].vals++q2).toArray 193 (0,0))/\p2.length=off+i*4:=by
  intro J hle i hi;generalize hl:ms.length=L at hm
  cases hm with
  |none h0=>subst h0;simp at hi
  |«at»a pre pad c h1 h2 h3=>
   obtain⟨p2,q2,e1,e2⟩:=ajh (pre:=pre) (pad:=pad) hi;exact⟨a,pre.length,p2,q2,rfl,by rw[<-e1];exact hle _ _ h3,e2⟩
 refine ag ?_;refine dh (λm I ds ae=>ds=[]/\I 0=.slice base ms.length cap/\I 1=iV no/\I 2=.func (.func 224) #[] #[]/\I 8=iV ms.length/\U.le ae/\∃i j:Nat,m=j-i/\i<=j/\j<=ms.length/\I 9=iV i/\I 10=iV j/\(∀x∈ms.take i,x.seq<no)/\(∀x∈ms.drop j,¬x.seq<no)) ms.length ?_ ?_
 ·refine⟨rfl,?_,?_,?_,?_,Hp.le_refl _,0,ms.length,al,aa,aa,?_,?_,al,al⟩<;>exact au
 ·rintro m I ds ae X ⟨rfl,h0,h1,h2,h8,hle,i,j,rfl,qU,hj,h9,bB,Bo,Dx⟩ hX;by_cases c0:i<j
  ·have vF:(i:Int)<j:=aa;have w1:IntKind.i64.wrap ((i:Int)+j)=((i+j:Nat):Int):=cJ
   have wu:∀k:Nat,k<=2000000->IntKind.u64.wrap (k:Int)=k:=λk hk=>by have:((k:Int) % 18446744073709551616)=k:=aa;simpa[IntKind.wrap,IntKind.bits,IntKind.signed]using this
   have ws:yu .u64 ((i+j:Nat):Int) 1=(((i+j)/2:Nat):Int):=by show Int.fdiv _ (2^(min (1:Int).toNat 64))=_;rw[show(2:Int)^(min (1:Int).toNat 64)=2 from rfl,Int.fdiv_eq_ediv_of_nonneg _ aa];omega
   obtain⟨h,hh⟩:∃h,h=(i+j)/2:=⟨_,rfl⟩;have nF:i<=h/\h<j:=aa;obtain⟨a,off,p2,q2,rfl,hf,e2⟩:=im hle h aa;have w2:IntKind.i64.wrap (((i+j)/2:Nat):Int)=h:=by rw[<-hh];exact wrap64 aa aa
   have w3:=fT h;have b1:(0:Int)<=h/\(h:Int)<ms.length:=aa;simp only[go_sem,seval,h0,h2,h9,bB,vF,decide_true,w1,wu (i+j) aa,ws,w2];refine⟨b1,?_⟩;refine ag ?_;refine Ms (pre:=p2) (pad:=q2) (m:=ms[h]) (e:=193) hf (by simp[e2]) ?_;refine aJ h1 ?_;rw[ER (f:=224) (l:=#[]) (cap:=#[]) au];refine ag ?_;refine aL Pz ?_;rintro v J ⟨hv,ov⟩
   cases hv
   have qX:=Hp.le_trans hle ov;by_cases c1:ms[h].seq<no
   ·simp only[go_sem,seval,if_pos c1,w3];refine hX (j-(h+1)) _ _ _ _ aa ⟨rfl,?_,?_,?_,?_,qX,h+1,j,rfl,aa,hj,?_,?_,?_,Dx⟩ ao
    ·exact aQ h0
    ·exact aQ h1
    ·exact aQ h2
    ·exact aQ h8
    ·exact au
    ·exact aQ bB
    ·intro x hx;obtain⟨k,hk,rfl⟩:=List.mem_take_iff_getElem.1 hx;by_cases e:k=h
     ·subst e;exact c1
     ·have:=List.pairwise_iff_getElem.1 hs k h aa aa aa;omega
   ·have c2:¬(if no<ms[h].seq then(1:Int)else 0)<0:=by split<;>omega
    simp only[go_sem,seval,if_neg c1,c2,decide_false];refine hX (h-i) _ _ _ _ aa ⟨rfl,?_,?_,?_,?_,qX,i,h,rfl,aa,aa,?_,?_,Bo,?_⟩ ao
    ·exact aQ h0
    ·exact aQ h1
    ·exact aQ h2
    ·exact aQ h8
    ·exact aQ h9
    ·exact au
    ·intro x hx;obtain⟨k,hk,rfl⟩:=List.mem_drop_iff_getElem.1 hx;by_cases e:k=0
     ·subst e;simpa using c1
     ·have:=List.pairwise_iff_getElem.1 hs h (h+k) aa aa aa;omega
  ·have vF:¬(i:Int)<j:=aa;obtain rfl:i=j:=aa;have ew:(ms.takeWhile λx=>decide (x.seq<no)).length=i:=(aqh (λx hx=>by simpa using Bo x hx) (λx hx=>by simpa using Dx x hx) hj).1;by_cases c4:i<ms.length
   ·have Jc:(i:Int)<ms.length:=aa;have b1:(0:Int)<=i/\(i:Int)<ms.length:=aa;obtain⟨a,off,p2,q2,rfl,hf,e2⟩:=im hle i c4;simp only[go_sem,seval,h0,h2,h8,h9,bB,vF,Jc,decide_true,decide_false];refine⟨aa,?_⟩;refine ag ?_;refine Ms (pre:=p2) (pad:=q2) (m:=ms[i]) (e:=193) hf (by simp[e2]) ?_;refine aJ h1 ?_;rw[ER (f:=224) (l:=#[]) (cap:=#[]) au];refine ag ?_;refine aL Pz ?_;rintro v J ⟨hv,ov⟩
    cases hv
    refine ag ?_;exact an ji ao ⟨⟨decide ((if ms[i].seq<no then(-1:Int)else if no<ms[i].seq then 1 else 0)=0),by simp[up,ew]⟩,Hp.le_trans hle ov⟩
   ·have Jc:¬(i:Int)<ms.length:=aa;simp only[go_sem,seval,h8,h9,bB,vF,Jc,decide_false];exact an ji ao ⟨⟨false,by simp[up,ew]⟩,hle⟩
variable {a:Addr}{c:Array Value}
def Hz{z:Nat×Nat}(ha:U.f a.block=some (.cells c e z)){Q:Unit->Hp->Prop}(k:Q () U):wpS P (noView a) Q H U:=by simp only[noView,viewAt,aG,An,Hp.shape?,ha];refine⟨rfl,?_⟩;simp only[Option.isSome_some,if_true,bt,Option.isSome_none,Bool.false_eq_true,if_false];exact k
def Vm(ha:U.f a.block=some (.cells c e (0,0))){Q:Bool->Hp->Prop}(k:Q false U):wpS P (stringish a) Q H U:=by have h0:∀n,(decide (0<=n)&&decide (n<0))=false:=al;simp only[stringish,aG,It,Hp.frozen?,ha,h0];refine⟨rfl,?_⟩;simp only[Bool.false_eq_true,if_false,aG,An,Hp.shape?,ha];refine⟨rfl,?_⟩;simp only[It,Hp.frozen?,ha,h0];exact⟨rfl,k⟩
variable {c':Array Value}
def Tm{b:Addr}{e':TypeId}(ha:U.f a.block=some (.cells c e (0,0)))(hb:U.f b.block=some (.cells c' e' (0,0))){Q:Bool->Hp->Prop}(k:Q false U):wpS P (mayBeOne a b) Q H U:=by
 simp only[mayBeOne,aG];refine Vm ha (Vm hb ?_);simp only[bt,An,Bool.false_and,Bool.or_false]
 first|exact k|exact⟨by rw[ha];rfl,by rw[hb];rfl,k⟩
variable {a bn:Nat}
def al9{la ca:Nat}{x y:List Value}(ha:U.f a=some (.cells x.toArray 193 (0,0)))(hb:U.f bn=some (.cells y.toArray 193 (0,0)))(hx:0<x.length)(hy:0<y.length)(aE:¬bn=a)(k:nx (aC I dst (.bool false)) ds U):kx E 241 #[.slice (some ⟨bn,0,none⟩) 1 1,.slice (some ⟨a,off,none⟩) la ca] U dst I ds nx pn:=by
 refine fV func241 rfl ah ah (ex:=Extern.SlicesOverlaps.overlaps #[78,78] #[4]) ah ?_;have Il:prog.underlying 78=some (.slice 193):=ah
 obtain⟨ie,vW,hiz⟩:∃ie,prog.info? 193=some ie/\ie.size=4:=by obtain⟨i,zv,h1,h2,_⟩:=iW.hi;exact⟨i,h1,h2⟩
 have af4:(bn !=a)=true:=aY aE;have af5:(bn==a)=false:=aY aE;have Sw:¬x.length=0:=aa;have SC:¬y.length=0:=aa
 have e:Extern.SlicesOverlaps.overlaps #[78,78] #[4] #[.slice (some ⟨bn,0,none⟩) 1 1,.slice (some ⟨a,off,none⟩) la ca]=(do
  let .slice elem<-underlying 78|stuck "slices.overlaps: slice type expected"
  let size<-sizeOf elem
  if 1=0\/la=0\/size=0 then pure (.bool false)
  else if bn !=a&&(<-frozen ⟨bn,0,none⟩)&&(<-frozen ⟨a,off,none⟩)then unsupported .addressObserved
  else do
   if bn !=a then do
    noView ⟨bn,0,none⟩;noView ⟨a,off,none⟩
    if<-mayBeOne ⟨bn,0,none⟩ ⟨a,off,none⟩then return .bool ((<-choose (.extern "sameAddr.stringBytes" 2))==1)
   pure (.bool (bn==a&&0<off+la*size&&off<0+1*size))):=rfl
 show wpS prog (Extern.SlicesOverlaps.overlaps #[78,78] #[4] #[.slice (some ⟨bn,0,none⟩) 1 1,.slice (some ⟨a,off,none⟩) la ca]) _ _ _;rw[e];simp only[aG,eg,Il,sizeOf,gu,vW,bt,hiz];by_cases hl:la=0
 ·simp only[hl,true_or,or_true,if_true,bt];exact k
 ·have hc:¬(1=0\/la=0\/4=0):=aa;rw[if_neg hc];simp only[af4,af5,if_true,aG,It,Hp.frozen?,ha,hb,Bool.true_and];refine⟨rfl,rfl,?_⟩;have hf:(decide (0<=0)&&decide (0<0)&&(decide (0<=off)&&decide (off<0)))=false:=al;simp only[hf,Bool.false_eq_true,if_false,aG];refine Hz hb (Hz ha (Tm hb ha ?_));simp only[Bool.false_eq_true,if_false,bt,Bool.false_and];exact k
def M4{A Z new:List α}(h:A.length=off):(A++Z).take off++new++(A++Z).drop (off+new.length)=A++new++Z.drop new.length:=by subst h;rw[List.take_left' rfl,List.drop_append,List.drop_of_length_le (Nat.le_add_right _ _),Nat.add_sub_cancel_left,List.nil_append]
def Tw(ms:List aR):(bh ms).all dn=true:=by simp only[bh,List.all_eq_true,List.mem_flatMap];rintro x ⟨m,_,hx⟩;simp only[aR.vals,List.mem_cons,List.not_mem_nil,or_false]at hx;rcases hx with rfl|rfl|rfl|rfl<;>rfl
variable {o:Obj}
def SM(hm:gR U ms v)(hn:ms.length<=1000000)(cD:U.f bn=some (.cells #[iV m.seq,sV m.key,sV m.body,.bool m.again] 193 (0,0)))(hi:i<=ms.length)(hv:∀off n c,v≠.slice (some ⟨bn,off,none⟩) n c):
 aw E 226 #[v,iV i,.slice (some ⟨bn,0,none⟩) 1 1] U λe J=>∃rv a o,e=.returned rv/\(U.f a=none\/∃off n c z,v=.slice (some ⟨a,off,none⟩) n c/\U.f a=some (.cells z 193 (0,0)))/\(∃z,o=.cells z 193 (0,0))/\(∀bW:Hp,bW.f a=some o->gR bW (ms.take i++m::ms.drop i) rv)/\(U.set a o).le J:=by
 refine aV func226 ntmps226 results226 λQ aD an aB=>?_;obtain⟨base,cap,rfl⟩:=hm.shape
 have jZ:ms.length<=cap:=by
  generalize hL:ms.length=L at hm|-
  cases hm with
  |none h0=>subst h0;simp
  |«at»a pre pad c h1 h2 h3=>exact h1
 have b1:(0:Int)<=i/\(i:Int)<=ms.length:=aa;refine ag ?_;refine⟨aa,?_⟩;by_cases c0:i=ms.length
 ·have vF:(i:Int)=ms.length:=aa;simp only[go_sem,seval,vF,decide_true];refine Ox (v0:=.slice base ms.length cap) (m:=m) (bn:=bn) hm ?_ ?_ cD hn ?_
  ·exact au
  ·exact au
  intro rv a o h1 h2 h3;refine ag ?_;refine an aI ao ⟨rv,a,o,by simp[up],h1,h3,λJ eO=>?_,Hp.le_refl _⟩;rw[c0,List.take_length,List.drop_length];exact h2 J eO
 ·have vF:¬(i:Int)=ms.length:=aa
  have hx:∃a pre pad,base=some ⟨a,List.length (α:=Value) pre,none⟩/\4*(cap-ms.length)<=List.length (α:=Value) pad/\U.f a=some (.cells (pre++bh ms++pad).toArray 193 (0,0)):=by
   generalize hL:ms.length=L at hm
   cases hm with
   |none h0=>subst h0;exfalso;apply c0;simpa using hi
   |«at»a pre pad c h1 h2 h3=>exact⟨a,pre,pad,rfl,h2,h3⟩
  obtain⟨a,pre,pad,rfl,h2,h3⟩:=hx;have hia:i<ms.length:=aa;have w1:IntKind.i64.wrap ((ms.length:Int)+1)=((ms.length+1:Nat):Int):=cJ;have w2:IntKind.i64.wrap (((ms.length+1:Nat):Int)-i)=((ms.length+1-i:Nat):Int):=cJ;have w3:=fT i;have w4:IntKind.i64.wrap (1+(i:Int))=((i+1:Nat):Int):=by rw[Int.add_comm];exact w3
  have eD:(bh (ms.drop i)).length=4*(ms.length-i):=by rw[pB,List.length_drop]
  have eT:(bh (ms.take i)).length=4*i:=by rw[pB,List.length_take,Nat.min_eq_left hi]
  have eM:bh ms=bh (ms.take i)++bh (ms.drop i):=by unfold bh;rw[<-List.flatMap_append,List.take_append_drop]
  have eL:pre++bh ms++pad=(pre++bh (ms.take i))++(bh (ms.drop i)++pad):=by rw[eM];simp
  have eR:bh (ms.take i++m::ms.drop i)=bh (ms.take i)++(m.vals++bh (ms.drop i)):=by simp[bh]
  have Hx:¬bn=a:=λe=>hv pre.length ms.length cap (by rw[e]);by_cases c1:cap<ms.length+1
  ·have vG:(((ms.length+1:Nat):Int))>(cap:Int):=aa;simp only[go_sem,seval,vF,w1,decide_true,decide_false];refine Pp (e:=193) ah (b:=some ⟨a,pre.length,none⟩) (n:=ms.length) (c:=cap) ?_ ?_
   ·exact au
   simp only[go_sem,seval,vG,decide_true];refine⟨aa,?_⟩;refine bu w1 w2 ?_;refine Xi iW (base:=some ⟨a,pre.length,none⟩) (l:=i) (c:=cap) (n:=ms.length+1-i) (k:=.i64) (old:=(bh (ms.take i)).toArray) ah ?_ ?_ ai aa ?_ ?_ ai aa aa ?_
   ·simp only[go_sem,seval,ite_self,Nat.sub_zero]
   ·exact au
   ·show cellsOf U ⟨a,pre.length,none⟩ (i*4)=_;have e:pre.length+i*4<=(pre++bh ms++pad).toArray.size:=by simp[pB];omega
    simp only[cellsOf,h3,true_and,if_pos e];congr 1;apply Array.ext';rw[eL];have:i*4=(bh (ms.take i)).length:=by rw[eT];omega
    simp[this]
   ·show(2*(i+(ms.length+1-i))+192)*48<=2^48;omega
   intro b cp hb hcp;have nb:¬bn=b:=bl hb cD;have wN:¬a=b:=bl hb h3;have k1:¬cp-i=0:=aa;have k2:¬cp-(i+1)=0:=aa;have k3:¬cap-i=0:=aa;refine ag ?_;refine⟨aa,?_⟩;refine ag ?_
   have eZ:∃Z:List Value,(Builtin.zeroCells iW.zero (ms.length+1-i)++Builtin.zeroCells iW.zero (cp-(i+(ms.length+1-i)))).toList=Z/\Z.length=4*(cp-i):=⟨_,rfl,by rw[Array.toList_append,List.length_append,Fq,Fq];omega⟩
   obtain⟨Z,hZ,Kf⟩:=eZ
   have aeP:((bh (ms.take i)).toArray++Builtin.zeroCells iW.zero (ms.length+1-i)++Builtin.zeroCells iW.zero (cp-(i+(ms.length+1-i))):Array Value)=(bh (ms.take i)++Z).toArray:=by rw[<-hZ];apply Array.ext';simp
   rw[aeP];refine F9 iW (b:=b) (off:=0+i*4) (k:=1) (dl:=ms.length+1-i) (dc:=cp-i) (new:=m.vals) (L:=bh (ms.take i)++Z) (e:=193) ?_ ?_ ?_ aX ?_ ?_ ?_
   ·have e:i+(ms.length+1-i)-i=ms.length+1-i:=aa;have k1':¬cp=i:=aa;exact xg k1' e
   ·exact au
   ·have e:Nat.min 1 (ms.length+1-i)=1:=by show min _ _=_;omega
    refine aJ e ?_;show cellsOf _ ⟨bn,0,none⟩ 4=_;simp[cellsOf,Hp.ay nb,cD,aR.vals]
   ·simp[aR.vals,Kf,eT];omega
   ·simp[aR.vals,dn]
   have e4:m.vals.length=4:=rfl
   have s1:(bh (ms.take i)++Z).take (0+i*4)++m.vals++(bh (ms.take i)++Z).drop (0+i*4+m.vals.length)=(bh (ms.take i)++m.vals)++Z.drop 4:=by rw[List.take_left' (by rw[eT];omega),List.drop_append,List.drop_of_length_le (by rw[eT,e4];omega),eT,e4,List.nil_append];congr 2;omega
   rw[s1,Hp.set_set];refine ag ?_;refine bJ 9 ?_;refine aJ w3 ?_;refine⟨aa,?_⟩;refine ag ?_;refine⟨aa,?_⟩;refine ag ?_;refine F9 iW (b:=b) (off:=0+(i+1)*4) (k:=ms.length-i) (dl:=ms.length-i) (dc:=cp-(i+1)) (new:=bh (ms.drop i)) (L:=(bh (ms.take i)++m.vals)++Z.drop 4) (e:=193) ?_ ?_ ?_ aX ?_ ?_ ?_
   ·have e:i+(ms.length+1-i)-(i+1)=ms.length-i:=aa;have k2':¬cp=i+1:=aa;exact xg k2' e
   ·exact au
   ·have e:Nat.min (ms.length-i) (ms.length-i)=ms.length-i:=Nat.min_self _;have qj:¬cap=i:=aa;refine bu e qj ?_;show cellsOf _ ⟨a,pre.length+i*4,none⟩ ((ms.length-i)*4)=_;have e2:pre.length+i*4+(ms.length-i)*4<=(pre++bh ms++pad).toArray.size:=by simp[pB];omega
    simp only[cellsOf,Hp.ay wN,h3,true_and,if_pos e2];congr 1;apply Array.ext';rw[eL];have e3:pre.length+i*4=(pre++bh (ms.take i)).length:=by rw[List.length_append,eT];omega
    have e4:(ms.length-i)*4=(bh (ms.drop i)).length:=by rw[eD];omega
    rw[e3,e4];simp
   ·simp[aR.vals,Kf,eT,eD];omega
   ·exact Tw _
   have s2:(bh (ms.take i)++m.vals++Z.drop 4).take (0+(i+1)*4)++bh (ms.drop i)++(bh (ms.take i)++m.vals++Z.drop 4).drop (0+(i+1)*4+(bh (ms.drop i)).length)=bh (ms.take i++m::ms.drop i)++(Z.drop 4).drop (bh (ms.drop i)).length:=by
    have e5:(bh (ms.take i)++m.vals).length=0+(i+1)*4:=by rw[List.length_append,eT,e4];omega
    rw[M4 e5,eR];simp
   rw[s2,Hp.set_set];refine gp ?_;refine ag ?_;refine an aI ao ⟨_,b,_,rfl,.inl hb,⟨_,rfl⟩,λJ eO=>?_,Hp.le_refl _⟩;have el:i+(ms.length+1-i)=(ms.take i++m::ms.drop i).length:=by simp;omega
   have:=gR.at (U:=J) (ms:=ms.take i++m::ms.drop i) b [] ((Z.drop 4).drop (bh (ms.drop i)).length) cp (by rw[<-el];exact hcp) (by rw[<-el,List.length_drop,List.length_drop,Kf,eD];omega) (aY eO);simp[up,el];simpa using this
  ·have vG:¬(((ms.length+1:Nat):Int))>(cap:Int):=aa;simp only[go_sem,seval,vF,w1,decide_false];refine Pp (e:=193) ah (b:=some ⟨a,pre.length,none⟩) (n:=ms.length) (c:=cap) ?_ ?_
   ·exact au
   have k3:¬cap-i=0:=aa;have k4:¬cap-(i+1)=0:=aa;simp only[go_sem,seval,vG,w1,decide_false];refine⟨aa,?_⟩;simp only[go_sem,seval,w3,ite_self,Nat.sub_zero];refine⟨aa,?_⟩;have k5:¬cap=i+1:=aa;refine aJ k5 ?_;refine al9 (x:=pre++bh ms++pad) (y:=[iV m.seq,sV m.key,sV m.body,.bool m.again]) h3 cD (by simp[pB];omega) al Hx ?_;refine ag ?_;refine bJ 9 ?_;refine aJ w3 ?_;refine⟨aa,?_⟩;refine aJ k5 ?_;refine⟨aa,?_⟩;refine ag ?_;obtain⟨Y,hY⟩:∃Y,Y=bh (ms.drop i)++pad:=⟨_,rfl⟩;have Gr:Y.length=4*(ms.length-i)+pad.length:=by rw[hY,List.length_append,eD]
   have qj:¬cap=i:=aa;refine F9 iW (b:=a) (off:=pre.length+(i+1)*4) (k:=ms.length+1-i) (dl:=ms.length-i) (dc:=cap-(i+1)) (new:=bh (ms.drop i)) (L:=pre++bh ms++pad) (e:=193) ?_ ?_ ?_ h3 ?_ ?_ ?_
   ·have e:ms.length+1-(i+1)=ms.length-i:=aa;exact xg k5 e
   ·exact au
   ·have e:Nat.min (ms.length+1-i) (ms.length-i)=ms.length-i:=by show min _ _=_;omega
    refine bu e qj ?_;show cellsOf _ ⟨a,pre.length+i*4,none⟩ ((ms.length-i)*4)=_;have e2:pre.length+i*4+(ms.length-i)*4<=(pre++bh ms++pad).toArray.size:=by simp[pB];omega
    simp only[cellsOf,h3,true_and,if_pos e2];congr 1;apply Array.ext';rw[eL];have e3:pre.length+i*4=(pre++bh (ms.take i)).length:=by rw[List.length_append,eT];omega
    have e4:(ms.length-i)*4=(bh (ms.drop i)).length:=by rw[eD];omega
    rw[e3,e4];simp
   ·simp[pB];omega
   ·exact Tw _
   have s1:(pre++bh ms++pad).take (pre.length+(i+1)*4)++bh (ms.drop i)++(pre++bh ms++pad).drop (pre.length+(i+1)*4+(bh (ms.drop i)).length)=(pre++bh (ms.take i))++(Y.take 4++bh (ms.drop i)++Y.drop (4+(bh (ms.drop i)).length)):=by
    rw[eL,<-hY];have e5:(pre++bh (ms.take i)).length=pre.length+i*4:=by rw[List.length_append,eT];omega
    have e6:(pre++bh (ms.take i)++Y.take 4).length=pre.length+(i+1)*4:=by rw[List.length_append,e5,List.length_take,Gr];omega
    have e7:pre++bh (ms.take i)++Y=(pre++bh (ms.take i)++Y.take 4)++Y.drop 4:=al;rw[e7,M4 e6,List.drop_drop];simp
   rw[s1];refine gp ?_;refine ag ?_;refine⟨aa,?_⟩;refine aJ qj ?_;have e4:m.vals.length=4:=rfl;refine F9 iW (b:=a) (off:=pre.length+i*4) (k:=1) (dl:=ms.length+1-i) (dc:=cap-i) (new:=m.vals) (L:=(pre++bh (ms.take i))++(Y.take 4++bh (ms.drop i)++Y.drop (4+(bh (ms.drop i)).length))) (e:=193) ?_ ?_ ?_ aX ?_ ?_ ?_
   ·exact aQ qj
   ·exact au
   ·have e:Nat.min 1 (ms.length+1-i)=1:=by show min _ _=_;omega
    refine aJ e ?_;show cellsOf _ ⟨bn,0,none⟩ 4=_;simp[cellsOf,Hp.ay Hx,cD,aR.vals]
   ·simp only[List.length_append,List.length_take,List.length_drop,eT,eD,Gr,e4];omega
   ·simp[aR.vals,dn]
   have s2:((pre++bh (ms.take i))++(Y.take 4++bh (ms.drop i)++Y.drop (4+(bh (ms.drop i)).length))).take (pre.length+i*4)++m.vals++((pre++bh (ms.take i))++(Y.take 4++bh (ms.drop i)++Y.drop (4+(bh (ms.drop i)).length))).drop (pre.length+i*4+m.vals.length)=pre++bh (ms.take i++m::ms.drop i)++Y.drop (4+(bh (ms.drop i)).length):=by
    have e5:(pre++bh (ms.take i)).length=pre.length+i*4:=by rw[List.length_append,eT];omega
    have e6:(Y.take 4).length=4:=by rw[List.length_take,Gr];omega
    rw[M4 e5,e4,List.append_assoc (Y.take 4),List.drop_left' e6,eR];simp
   rw[s2,Hp.set_set];refine ag ?_;refine an aI ao ⟨_,a,_,rfl,.inr ⟨_,_,_,_,rfl,h3⟩,⟨_,rfl⟩,λJ eO=>?_,Hp.le_refl _⟩;have el:ms.length+1=(ms.take i++m::ms.drop i).length:=by simp;omega
   have:=gR.at (U:=J) (ms:=ms.take i++m::ms.drop i) a pre (Y.drop (4+(bh (ms.drop i)).length)) cap (by rw[<-el];omega) (by rw[<-el,List.length_drop,Gr,eD];omega) eO;simp[up,el];simpa using this
def OV(i:Nat)(hi:i=(ms.takeWhile λx=>decide (x.seq<m.seq)).length):jA ms m=ms.take i++{m with again:=true}::ms.drop i:=by
 have h1:=List.takeWhile_append_dropWhile (p:=λx:aR=>decide (x.seq<m.seq)) (l:=ms);unfold jA
 have e1:ms.take i=ms.takeWhile λx=>decide (x.seq<m.seq):=by
  conv=>lhs;rw[<-h1]
  rw[hi,List.take_left' rfl]
 have e2:ms.drop i=ms.dropWhile λx=>decide (x.seq<m.seq):=by
  conv=>lhs;rw[<-h1]
  rw[hi,List.drop_left' rfl]
 rw[e1,e2]
def Py(hm:gR U ms v)(hn:ms.length<=1000000):
 aw E 227 #[v] U λe J=>∃rv,e=.returned rv/\gR J ms rv/\U.le J/\∀a off n c,rv=.slice (some ⟨a,off,none⟩) n c->U.f a=none/\∃o,J.f a=some o:=by
 refine(aaK hm hn).mono ?_;rintro e J ⟨rv,rfl,h⟩;refine⟨rv,rfl,?_⟩;rcases h with⟨rfl,rfl,rfl⟩|⟨a,c,pad,rfl,h1,h2,h3,h4,h5⟩
 ·exact⟨.none rfl,Hp.le_refl _,λa off n c h=>by simp at h⟩
 ·refine⟨?_,h5,λa' off n c' h=>?_⟩
  ·exact .at a [] pad c h2 h3 (h4 _ _ (by rw[Hp.bD];simp))
  ·simp only[Value.slice.injEq,Option.some.injEq,Addr.mk.injEq]at h;obtain⟨⟨rfl,_⟩,_⟩:=h;exact⟨h1,_,h4 _ _ aX⟩
def OU{q:Nat}{oq Ue:Obj}{fY:Hp}(hq:U.f q=some oq)(ha:U.f a=none)(h1:U.le J)(h2:(J.set a o).le fY):((U.set a o).set q Ue).le (fY.set q Ue):=by
 refine iv (λx p hx=>?_) _ _;by_cases e:x=a
 ·subst e;rw[Hp.bD]at hx;exact h2 _ _ (by rw[Hp.bD];exact hx)
 ·rw[Hp.ay e]at hx;exact h2 _ _ (by rw[Hp.ay e];exact h1 _ _ hx)
def Yh{q:Nat}{rv cons:Value}{name:List UInt8}{held last:Int}(hq:U.f q=some (fQ name rv held last cons))(hm:gR U ms rv)(hn:ms.length<=1000000)(hs:ms.Pairwise λa b=>a.seq<b.seq):
 aw E 187 #[pV q,m.v] U λe J=>e=.returned (.tuple #[])/\∃jj a o,U.f a=none/\(∃z,o=.cells z 193 (0,0))/\(∀bW:Hp,bW.f a=some o->gR bW (jA ms m) jj)/\((U.set a o).set q (fQ name jj held last cons)).le J:=by
 refine aV func187 ntmps187 results187 λQ aD an aB=>?_;obtain⟨base,cap,rfl⟩:=hm.shape;simp only[fQ]at hq;simp only[go_sem,seval,aR.v];refineλb hb=>?_;have n1:∀{x o},U.f x=some o->¬x=b:=λh e=>by subst e;rw[hb]at h;cases h
 refine ag ?_;rw[Hp.set_set];have jy:∀o,(U.set b o).f q=_:=λo=>(Hp.ay (n1 hq)).trans hq;have kG:∀o,U.le (U.set b o):=λo=>kK hb;refine bJ 12 ?_;refine aJ jy ?_;refine dG adq (Y6 (hm.le (kG _)) hn hs) ?_ (λch ae ⟨⟨_,h⟩,_⟩=>by cases h);rintro v J ⟨⟨bb,hv⟩,ov⟩;obtain⟨i,hi⟩:∃i,i=(ms.takeWhile λx=>decide (x.seq<m.seq)).length:=⟨_,rfl⟩;obtain rfl:v=.tuple #[iV i,.bool bb]:=by rw[hi];injection hv
 have tb:i<=ms.length:=by rw[hi];exact(List.takeWhile_sublist _).length_le
 have gT:=ov _ _ (jy _);refine⟨dJ jy,?_⟩;refine ag ?_;have dA:=ov _ _ (Hp.bD (U:=U) b _);refine Ny 5 8 [0,1,2,3,4,6,7,5,8,9,10,11,12] [0,1,2,3,4,6,7,8,5,9,10,11,12] (λ_ _ _=>False) ah jU (λ_ _ _ _ h=>h.elim) ?_ ?_<;>simp only[iw,List.modify_toArray,List.modify_succ_cons,List.modify_zero_cons]
 ·refine bu gT dA ?_;refine aL (Py (hm.le (Hp.le_trans (kG _) ov)) hn) ?_;rintro v dp ⟨rv,hv,zu,qX,gM⟩
  cases hv
  have l8:=qX _ _ gT;have ig:=qX _ _ dA;refine⟨dJ ig,?_⟩;refine ag ?_;refineλbn cD=>?_;have ow:∀o,dp.le (dp.set bn o):=λo=>kK cD;have DW:=λo=>ow o _ _ l8;have zg:=λo=>ow o _ _ ig;refine⟨jf DW zg,?_⟩;refine ag ?_;refine aL (SM (m:={m with again:=true}) (i:=i) (zu.le (ow _)) hn aX tb (λoff n c h=>?_)) ?_
  ·obtain⟨_,o,ho⟩:=gM _ _ _ _ h;rw[cD]at ho;cases ho
  rintro v fY ⟨jj,a,o,hv,h1,h2,h3,h4⟩
  cases hv
  have zq:U.le J:=Hp.le_trans (kG _) ov
  have zf:U.f a=none:=by
   cases hs:U.f a with
   |none=>rfl
   |some p=>
    rcases h1 with h1|⟨off,n,c,z,h1,_⟩
    ·rw[ow _ _ _ (qX _ _ (zq _ _ hs))]at h1;cases h1
    ·have:=(gM _ _ _ _ h1).1;rw[zq _ _ hs]at this;cases this
  have wc:fY.f q=_:=h4 _ _ ((Hp.ay (bl hq zf)).trans (DW _));obtain⟨b',c',Lp⟩:=(h3 (U.set a o) aX).shape;subst Lp;refine⟨dJ wc,?_⟩;refine aJ wc ?_;refine⟨dJ wc,?_⟩;refine aD dz ao ⟨rfl,_,a,o,zf,h2,λbW eO=>?_,OU hq zf (Hp.le_trans zq (Hp.le_trans qX (ow _))) h4⟩;rw[OV i hi];exact h3 bW eO
 ·refine bu gT dA ?_;refineλbn cD=>?_;have ow:∀o,J.le (J.set bn o):=λo=>kK cD;have DW:=λo=>ow o _ _ gT;have zg:=λo=>ow o _ _ dA;refine⟨dJ DW,?_⟩;refine ag ?_;refine aL (Py (hm.le (Hp.le_trans (Hp.le_trans (kG _) ov) (ow _))) hn) ?_;rintro v dp ⟨rv,hv,zu,qX,gM⟩
  cases hv
  have l8:=qX _ _ (DW _);have ig:=qX _ _ (zg _);refine⟨jf l8 ig,?_⟩;refine ag ?_;refine aL (SM (m:={m with again:=true}) (i:=i) zu hn (qX _ _ aX) tb (λoff n c h=>?_)) ?_
  ·have:=(gM _ _ _ _ h).1;rw[Hp.bD]at this;cases this
  rintro v fY ⟨jj,a,o,hv,h1,h2,h3,h4⟩
  cases hv
  have zq:U.le J:=Hp.le_trans (kG _) ov
  have zf:U.f a=none:=by
   cases hs:U.f a with
   |none=>rfl
   |some p=>
    rcases h1 with h1|⟨off,n,c,z,h1,_⟩
    ·rw[qX _ _ (ow _ _ _ (zq _ _ hs))]at h1;cases h1
    ·have:=(gM _ _ _ _ h1).1;rw[ow _ _ _ (zq _ _ hs)]at this;cases this
  have wc:fY.f q=_:=h4 _ _ ((Hp.ay (bl hq zf)).trans l8);obtain⟨b',c',Lp⟩:=(h3 (U.set a o) aX).shape;subst Lp;refine⟨dJ wc,?_⟩;refine aJ wc ?_;refine⟨dJ wc,?_⟩;refine aD dz ao ⟨rfl,_,a,o,zf,h2,λbW eO=>?_,OU hq zf (Hp.le_trans zq (Hp.le_trans (ow _) qX)) h4⟩;rw[OV i hi];exact h3 bW eO
section
variable {h:HN}{k:Int}{o:Obj}{b:Nat}{c:Nat}{v:Value}
variable {α:Type}[DecidableEq α]{l:List (α×Value×Nat)}{kv:List (α×Value)}{k:α}
abbrev uZ (l:List (α×Value×Nat)):List (α×Value):=l.map λe=>(e.1,e.2.1)
def so (o:pL l c)(p:(uZ l).Perm kv)(h:(k,v)∈kv):∃st,du l k=some (k,v,st):=by
 obtain⟨e,he,h2⟩:=List.mem_map.1 (p.mem_iff.2 h)
 cases h2
 refine⟨e.2.2,?_⟩;unfold du;rw[List.find?_eq_some_iff_append];obtain⟨s,t,bw⟩:=List.append_of_mem he;refine⟨al,s,t,bw,λa ha=>?_⟩;have hu:=o.uniq;unfold jT at hu;rw[bw,List.map_append,List.nodup_append]at hu;simpa usingλe2=>hu.2.2 _ (List.mem_map_of_mem ha) _ al e2
def map_none (p:(uZ l).Perm kv)(h:∀e∈kv,e.1≠k):du l k=none:=by unfold du;rw[List.find?_eq_none];intro e he;have:(e.1,e.2.1)∈kv:=p.mem_iff.1 (List.mem_map_of_mem he);simpa using h _ this
def Ez (o:pL l c)(p:(uZ l).Perm kv)(h:∀e∈kv,e.1≠k)(v:Value):pL (jB l k v c) (jN l k c)/\(uZ (jB l k v c)).Perm ((k,v)::kv):=by
 have hn:=map_none p h;simp only[jB,jN,hn,Option.isSome_none,Bool.false_eq_true,if_false];refine⟨⟨?_,?_,?_⟩,?_⟩
 ·have hu:=o.uniq;unfold jT at hu|-;rw[List.map_append,List.nodup_append];refine⟨hu,al,?_⟩;intro a ha b hb;obtain⟨e,he,rfl⟩:=List.mem_map.1 ha;simp only[List.map_cons,List.map_nil,List.mem_singleton]at hb;subst hb;exact h _ (p.mem_iff.1 (List.mem_map_of_mem he))
 ·intro e he;rcases List.mem_append.1 he with he|he
  ·have:=o.old e he;omega
  ·simp only[List.mem_singleton]at he;subst he;simp
 ·rw[List.map_append,List.nodup_append];refine⟨o.nd,al,?_⟩;intro a ha b hb;obtain⟨e,he,rfl⟩:=List.mem_map.1 ha;simp only[List.map_cons,List.map_nil,List.mem_singleton]at hb;subst hb;have:=o.old e he;omega
 ·simp only[uZ,List.map_append,List.map_cons,List.map_nil];exact List.perm_append_comm.trans (p.cons _)
def Ey (o:pL l c)(p:(uZ l).Perm kv)(k:α):pL (sr l k) c/\(uZ (sr l k)).Perm (kv.filter λe=>decide (e.1≠k)):=by
 refine⟨⟨?_,λe he=>o.old e (List.mem_filter.1 he).1,?_⟩,?_⟩
 ·exact List.Nodup.sublist (List.Sublist.map _ List.filter_sublist) o.uniq
 ·exact List.Nodup.sublist (List.Sublist.map _ List.filter_sublist) o.nd
 ·have e1:uZ (sr l k)=(uZ l).filter λe=>decide (e.1≠k):=by unfold sr uZ;rw[List.filter_map];rfl
  rw[e1];exact p.filter _
end
def aj0{c:Nat}:pL ([]:List (α×Value×Nat)) c:=⟨by simp[jT],al,al⟩
section
variable {H:Hid}{X:Ext}{U:Hp}{J:Hp}{no:Nat}{nm:List UInt8}{h:HN}{q:QN}{k:Int}{x:XN}{o:Obj}{b:Nat}{E:Env prog}{c:Nat}{v:Value}{m:aR}{tag:Nat}{back:Bool}
variable {A:Lay}{n:N}{id:Int}
def aqB (f:Nat×(List UInt8×aR)->Value)(un:List (Nat×(List UInt8×aR))):((un.map λe=>((e.1:Int),f e)).filter λe=>decide (e.1≠(tag:Int)))=(cB un tag).map λe=>((e.1:Int),f e):=by unfold cB;rw[List.filter_map];congr 1;apply List.filter_congr;intro e _;simp only[Function.comp,decide_eq_decide];omega
def OY {ms:List aR}{rv:Value}{b:Nat}{o:Obj}(ho:∀bW:Hp,bW.f b=some o->gR bW ms rv)(uu:ms≠[]):kW rv=false/\pN rv=b/\oN (.ft rv ms) o:=by
 have h:=ho ⟨λx=>if x=b then some o else none⟩ al
 cases h with
 |none e=>exact absurd e uu
 |«at»a pre pad c h1 h2 h3=>
  by_cases e:a=b
  ·subst e;simp only[if_true,Option.some.injEq]at h3;exact⟨rfl,rfl,a,pre,pad,c,rfl,h1,h2,h3⟩
  ·simp[e]at h3
def U7 (a:aq A H n X U)(hh:n.h? id no=some h)(hu:bq h.un tag=some (nm,m))(hq:n.q? nm=some q)(b1:1<=q.held/\q.held<=1000000)(b2:q.ready.length<=1000000)(hs:q.ready.Pairwise λa b=>a.seq<b.seq):
 aw E 142 #[pV (A.chan id no),iV tag,.bool back] U λe J=>e=.returned (.tuple #[])/\At A (n.settle id no tag back) X J:=by
 refine aV func142 ntmps142 results142 λQ aD an aB=>?_;obtain⟨l,c,gm,il,iC⟩:=a.un hh;obtain⟨st,hf⟩:=so il iC (List.mem_map_of_mem (f:=λe:Nat×(List UInt8×aR)=>((e.1:Int),um (A.queue e.2.1) e.2.2)) (jb hu));have wh:IntKind.i64.wrap (q.held-1)=q.held-1:=wrap64 aa aa;refine aJ (a.bX hh) ?_;refine j9 (b:=A.un id no) (k:=(tag:Int)) (l:=l) (c:=c) BD (z:=.agg #[.pointer none,iV 0,sV [],sV [],.bool false]) ah ?_ gm ?_ ?_
 ·exact au
 ·exact au
 have dt:((du l (tag:Int)).map (·.2.1)).getD (.agg #[.pointer none,iV 0,sV [],sV [],.bool false])=.agg #[pV (A.queue nm),iV m.seq,sV m.key,sV m.body,.bool m.again]:=by rw[hf];rfl
 rw[if_neg Bool.false_ne_true,dt];refine ag ?_;refineλb6 pZ=>?_;refine ag ?_;rw[Hp.set_set];have a6:=λo=>a.iS pZ o;have h6:=λo=>(a6 o).bX hh;obtain⟨d1,d2⟩:=Ey il iC (tag:Int);refine aJ h6 ?_;refine CK (b:=A.un id no) (k:=(tag:Int)) (l:=l) (c:=c) BD il.uniq ?_ (kK pZ _ _ gm) ?_ ?_
 ·exact au
 ·exact au
 have a7:=λo=>(a6 o).U5 hh (λh=>{h with un:=cB h.un tag}) rfl rfl (o:=aU aW (sr l tag) c) ⟨_,_,rfl,d1,by simp only;rw[<-aqB (tag:=tag) (f:=λe=>um (A.queue e.2.1) e.2.2)];exact d2⟩;have x7:=λo=>(a7 o).eK;have Sg:(n.bC id no λh=>{h with un:=cB h.un tag}).q? nm=some q:=hq;have q7:=λo=>(a7 o).tH Sg;simp only at x7;have a8:=λo=>(a7 o).HY Sg (λq=>{q with held:=q.held-1}) rfl rfl;have x8:=λo=>(a8 o).eK;simp only[fQ]at x8;refine bN x7 q7 wh ?_
 have es:n.settle id no tag back=((n.bC id no λh=>{h with un:=cB h.un tag}).bK nm λq=>{q with held:=q.held-1}).bK nm λq=>{q with ready:=if back then jA q.ready m else q.ready}:=by unfold N.settle;rw[hh];simp only[Option.bind_some,hu];rw[Ff]
 cases back with
 |false=>
  refine ag ?_;refine aD dz ao ⟨rfl,H,?_⟩;rw[es];simp only[Bool.false_eq_true,if_false];rw[aqN];exact(a8 _).oW
 |true=>
  refine aJ x8 ?_;have DX:((n.bC id no λh=>{h with un:=cB h.un tag}).bK nm λq=>{q with held:=q.held-1}).q? nm=some {q with held:=q.held-1}:=by simp[hq]
  refine aL (Yh (m:=m) ((a8 _).queue DX) ((a8 _).ft DX) b2 hs) ?_;rintro v J ⟨hv,jj,b,o,hb,⟨z,hz⟩,ho,hle⟩
  cases hv
  refine ag ?_;refine aD dz ao ⟨rfl,H.jP nm jj,?_⟩;obtain⟨_,k2,k3⟩:=OY ho (by simp[jA]);rw[es];exact(((a8 _).MT DX (λq=>{q with ready:=jA q.ready m}) rfl (Hl.tR (a8 _) (.ft nm) hb) (o:=o) (rv:=jj) k3 k2).le hle).oW
end
variable {β:Type}{l:List (α×β)}{j:Nat}
def HA(nd:(l.map (·.1)).Nodup)(hj:j<l.length):∀e∈l.take j,¬e.1=l[j].1:=by intro e he hx;obtain⟨i,hi,rfl⟩:=List.getElem_of_mem he;rw[List.length_take]at hi;rw[List.getElem_take]at hx;have h1:(l.map (·.1))[i]'(by simp;omega)=(l.map (·.1))[j]'(aY hj):=aY hx;exact(List.pairwise_iff_getElem.1 nd) i j (by simp;omega) (aY hj) aa h1
def To{x:aR}{R:List aR}:jA (x::R) m=if x.seq<m.seq then x::jA R m else{m with again:=true}::x::R:=by unfold jA;by_cases h:x.seq<m.seq<;>simp[h,List.takeWhile_cons,List.dropWhile_cons]
def Tn {a b:aR}(h:a.seq≠b.seq):∀R:List aR,jA (jA R a) b=jA (jA R b) a
 |[]=>by
  show jA [_] b=jA [_] a;simp only[To]
  (repeat' split)<;>first|rfl|omega
 |x::R=>by
  have ih:=Tn h R;simp only[To,ih,apply_ite λl=>jA l a,apply_ite λl=>jA l b]
  (repeat' split)<;>first|rfl|omega
def W9 [DecidableEq α]{k k':α}(h:k≠k')(f g:β->β):dD (dD l k f) k' g=dD (dD l k' g) k f:=by
 unfold dD;rw[List.map_map,List.map_map];refine List.map_congr_left λe _=>?_;by_cases h1:e.1=k<;>by_cases h2:e.1=k'<;>simp[h1,h2]
 all_goals first|exact absurd (h1.symm.trans h2) h|simp_all
def tP(l:List (Nat×(List UInt8×aR))):Prop:=∀e∈l,∀f∈l,e.1≠f.1->e.2.1=f.2.1->e.2.2.seq≠f.2.2.seq
section
variable {no:Nat}{h:HN}{q:QN}{k:Int}{x:XN}{b:Nat}{g:Option (Nat×Bool)}{m:aR}
variable {n:N}{id:Int}
def aoP (n:N)(id:Int)(no t:Nat)(b:Bool):n.settle id no t b=n\/∃h e,n.h? id no=some h/\bq h.un t=some e/\n.settle id no t b=(n.bC id no λh=>{h with un:=cB h.un t}).bK e.1 λq=>{q with held:=q.held-1,ready:=if b then jA q.ready e.2 else q.ready}:=by
 unfold N.settle
 cases hh:n.h? id no with
 |none=>exact .inl rfl
 |some h=>cases hu:bq h.un t with
  |none=>simp[hu]
  |some e=>exact .inr ⟨h,e,rfl,hu,by simp[hu]⟩
def aoO {t u:Nat}{b:Bool}(D:∀h,n.h? id no=some h->tP h.un):(n.settle id no t b).settle id no u b=(n.settle id no u b).settle id no t b:=by
 by_cases Bt:t=u
 ·rw[Bt]
 have S:∀{m:N} {t:Nat} {h:HN} {e},m.h? id no=some h->bq h.un t=some e->m.settle id no t b=(m.bC id no λh=>{h with un:=cB h.un t}).bK e.1 λq=>{q with held:=q.held-1,ready:=if b then jA q.ready e.2 else q.ready}:=λh1 h2=>by unfold N.settle;rw[h1];simp[h2]
 have Z:∀{m:N} {t:Nat} {h:HN},m.h? id no=some h->bq h.un t=none->m.settle id no t b=m:=λh1 h2=>by unfold N.settle;rw[h1];simp[h2]
 cases hh:n.h? id no with
 |none=>unfold N.settle;simp[hh]
 |some h=>
  have A:∀{t:Nat} {w:List UInt8} {g:QN->QN},((n.bC id no λh=>{h with un:=cB h.un t}).bK w g).h? id no=some {h with un:=cB h.un t}:=λ{t w g}=>by show(n.bC id no λh=>{h with un:=cB h.un t}).h? id no=_;rw[jY,if_pos ⟨rfl,rfl⟩,hh];rfl
  have aus:∀{t u:Nat},t≠u->bq (cB h.un t) u=bq h.un u:=λh=>by rw[Cs,if_neg λe=>h e.symm]
  cases ht:bq h.un t with
  |none=>rw[Z hh ht];cases hu:bq h.un u with
   |none=>rw[Z hh hu,Z hh ht]
   |some f=>rw[S hh hu,Z A (show bq (cB h.un u) t=none by rw[aus λe=>Bt e.symm,ht])]
  |some e=>cases hu:bq h.un u with
   |none=>rw[Z hh hu,S hh ht,Z A (show bq (cB h.un t) u=none by rw[aus Bt,hu])]
   |some f=>
    rw[S hh ht,S hh hu,S A (show bq (cB h.un t) u=some f by rw[aus Bt,hu]),S A (show bq (cB h.un u) t=some e by rw[aus λe=>Bt e.symm,ht])];have c1:∀{m:N} {w:List UInt8} {g:QN->QN} {k:HN->HN},(m.bK w g).bC id no k=(m.bC id no k).bK w g:=rfl
    have c3:((n.bC id no λh=>{h with un:=cB h.un t}).bC id no λh=>{h with un:=cB h.un u})=(n.bC id no λh=>{h with un:=cB h.un u}).bC id no λh=>{h with un:=cB h.un t}:=by rw[Nt,Nt];congr 1;funext h;simp only[HN.mk.injEq,true_and,and_true];unfold cB;rw[List.filter_filter,List.filter_filter];congr 1;funext x;exact Bool.and_comm _ _
    rw[c1,c1,c3];by_cases hq:e.1=f.1
    ·rw[hq,Ff,Ff];congr 1;funext q;have:=D h hh _ (jb ht) _ (jb hu) Bt hq
     cases b
     ·rfl
     ·simp only[if_true,Tn this]
    ·unfold N.bK;simp only[W9 hq]
def aoH {t:Nat}{b:Bool}(D:∀h,n.h? id no=some h->tP h.un):∀h,(n.settle id no t b).h? id no=some h->tP h.un:=by
 rcases aoP n id no t b with e|⟨g,e,hg,_,hs⟩
 ·rw[e];exact D
 ·intro h hh;rw[hs]at hh;have:=jY (n:=n) (id:=id) (no:=no) (aK:=id) (dB:=no) (g:=λh=>{h with un:=cB h.un t});rw[if_pos ⟨rfl,rfl⟩,hg]at this
  cases hh.symm.trans this
  exactλe he f hf=>D _ hg e (List.mem_filter.1 he).1 f (List.mem_filter.1 hf).1
def U6 {p:Nat->Bool}{b:Bool}{l m:List (Nat×(List UInt8×aR))}(hp:l.Perm m):∀{n:N},(∀h,n.h? id no=some h->tP h.un)->n.iO id no p b l=n.iO id no p b m:=by
 have step:∀{n:N} {e:Nat×(List UInt8×aR)},(∀h,n.h? id no=some h->tP h.un)->∀h,(if p e.1 then n.settle id no e.1 b else n).h? id no=some h->tP h.un:=λD=>by split;exact aoH D;exact D
 induction hp with
 |nil=>intro n _;rfl
 |cons e _ ih=>intro n D;exact ih (step D)
 |swap e f l=>
  intro n D;show List.foldl _ _ l=List.foldl _ _ l;congr 1;by_cases h1:p e.1=true<;>by_cases h2:p f.1=true<;>simp only[h1,h2,if_true,if_false,Bool.false_eq_true];exact aoO D
 |trans _ _ i j=>intro n D;rw[i D,j D]
end
variable {E:Env P}{e1 e2:TypeId}
def abW{x y:Operand}{i:TypeInfo}(hu:P.underlying t=some (.pointer e))(hi:P.info? e=some i)(gU:i.size≠0)(hx:ak I x=pV a)(hy:ak I y=pV b)(ha:U.f a=some (.cells c e1 (0,0)))(hb:U.f b=some (.cells c' e2 (0,0)))(h:nx (aC I dst (.bool (decide (a=b)))) ds U):wpOp E ⟨dst,.binOp .eql t x y u,ty,pos,af,g⟩ I ds U nx pn:=by
 have hz:∀n,(decide (0<=n)&&decide (n<0))=false:=al;unfold wpOp;simp only[execOp,hx,hy,aG];refine y0 ?_ ⟨al,al⟩;unfold binOp;simp only[aG,bt];refine CP λk=>?_;unfold Op.equalIn;simp only[aG,eg,hu,samePointer,sameAddr,sizeOf,gu,hi,bt];rw[if_pos gU];by_cases dm:a=b
 ·subst dm;simp only[beq_self_eq_true,if_true,bt];rw[decide_eq_true rfl]at h;exact h
 ·have A7:(a==b)=false:=aY dm;simp only[A7,Bool.false_eq_true,if_false,aG,It,Hp.frozen?,ha,hb,hz];refine⟨rfl,rfl,?_⟩;simp only[Bool.false_and,Bool.false_eq_true,if_false,aG];refine Hz ha (Hz hb (Tm ha hb ?_));simp only[Bool.false_eq_true,if_false,bt];rw[decide_eq_false dm]at h;exact h
variable {c:Nat}
def FE(U:Hp)(cs:List Nat):Prop:=∀x∈cs,∃c:Array Value,U.f x=some (.cells c 191 (0,0))
def Sl.form{ety:TypeId}{xs:List Value}(h:Sl ety U xs v):(xs=[]/\v=.slice none 0 0)\/∃(a:Nat) (pad:List Value),v=.slice (some ⟨a,0,none⟩) xs.length (xs.length+pad.length)/\U.f a=some (.cells (xs++pad).toArray ety (0,0)):=by
 cases h with
 |nil h0=>exact .inl ⟨h0,rfl⟩
 |«at»a pad ha=>exact .inr ⟨a,pad,rfl,ha⟩
variable {E:Env prog}{cb bx:Nat}
def SP{x:Nat}{c:Array Value}(nC:U.f bx=some (.cells #[pV cb] 186 (0,0)))(ha:U.f x=some (.cells c e1 (0,0)))(hb:U.f cb=some (.cells c' e2 (0,0))):
 aw E 185 #[pV x,pV bx] U λe J=>e=.returned (.bool (decide (x=cb)))/\J=U:=by
 refine fZ func185 ntmps185 results185 rfl al λQ aD an aB=>?_;refine aJ nC ?_;obtain⟨i,hi,gU⟩:∃i,prog.info? 191=some i/\i.size≠0:=⟨t191,ah,by rw[show t191.size=5 by kernel_rfl];decide⟩;refine abW (e:=191) (a:=x) (b:=cb) ah hi gU ?_ ?_ ha hb ?_
 ·exact au
 ·exact au
 refine ag ?_;exact an aI ao ⟨by simp[up],rfl⟩
variable {h:HN}{cs:List Nat}
def ahp(hv:Sl 186 U (cs.map pV) v)(hn:cs.length<=1000000)(hl:FE U cs)(hc:FE U [cb])(nC:U.f bx=some (.cells #[pV cb] 186 (0,0))):
 aw E 221 #[v,.func (.func 185) #[] #[pV bx]] U λe J=>(e=.returned (iV (-1))/\cb∉cs\/∃i:Nat,e=.returned (iV i)/\∃h:i<cs.length,cs[i]=cb/\cb∉cs.take i)/\J=U:=by
 refine aV func221 ntmps221 results221 λQ aD an aB=>?_;obtain⟨base,cap,rfl,hr⟩:=hv.read;refine ag ?_;refine dh (λm I ds ae=>ds=[]/\I 0=.slice base cs.length cap/\I 1=.func (.func 185) #[] #[pV bx]/\I 7=iV cs.length/\ae=U/\∃i:Nat,i+m=cs.length/\I 8=iV i/\cb∉cs.take i) cs.length ?_ ?_
 ·refine⟨rfl,?_,?_,?_,rfl,0,al,?_,al⟩<;>exact au
 ·rintro m I ds ae X ⟨rfl,h0,h1,h7,rfl,i,Bl,h8,oy⟩ hX
  cases m with
  |zero=>
   have c0:¬(i:Int)<cs.length:=aa;simp only[go_sem,seval,h7,h8,c0,decide_false];rw[List.take_of_length_le aa]at oy;exact an aI ao ⟨.inl ⟨by simp[up],oy⟩,rfl⟩
  |succ m=>
   have hi:i<cs.length:=aa;have c0:(i:Int)<cs.length:=aa;obtain⟨a,L,rfl,ha,hL⟩:=hr i hi;obtain⟨c1,wC⟩:=hl cs[i] (List.getElem_mem hi);obtain⟨c2,tk⟩:=hc cb al;have w1:=fT i;have b1:(0:Int)<=i/\(i:Int)<cs.length:=aa;simp only[go_sem,seval,h0,h1,h7,h8,c0,decide_true];refine⟨aa,?_⟩;refine bu ha hL ?_;rw[ER (f:=185) (l:=#[]) (cap:=#[pV bx]) au];refine ag ?_;refine aZ (SP nC wC tk) ?_;by_cases hx:cs[i]=cb
   ·simp only[go_sem,seval,hx,decide_true];exact an aI ao ⟨.inr ⟨i,by simp[up],hi,hx,oy⟩,rfl⟩
   ·simp only[go_sem,seval,hx,decide_false,h8,w1];refine hX m _ _ _ _ aa ⟨rfl,?_,?_,?_,rfl,i+1,aa,?_,?_⟩ ao
    ·exact aQ h0
    ·exact aQ h1
    ·exact aQ h7
    ·exact au
    ·intro hm;rw[List.take_succ_eq_append_getElem hi,List.mem_append]at hm;rcases hm with h|h
     ·exact oy h
     ·exact hx (List.mem_singleton.1 h).symm
def abx(hv:Sl 186 U (cs.map pV) v)(hn:cs.length<=1000000)(hl:FE U cs)(hc:FE U [cb])(nC:U.f bx=some (.cells #[pV cb] 186 (0,0)))(cD:∀off n c,v≠.slice (some ⟨bx,off,none⟩) n c):
 aw E 184 #[v,.func (.func 185) #[] #[pV bx]] U λe J=>(e=.returned v/\cb∉cs/\J=U)\/∃(a:Nat) (pad:List Value),(∃n c,v=.slice (some ⟨a,0,none⟩) n c)/\
  e=.returned (.slice (some ⟨a,0,none⟩) (cs.filter λx=>decide (x≠cb)).length ((cs.filter λx=>decide (x≠cb)).length+pad.length))/\J=U.set a (.cells ((cs.filter λx=>decide (x≠cb)).map pV++pad).toArray 186 (0,0)):=by
 refine aV func184 ntmps184 results184 λQ aD an aB=>?_;obtain⟨base,cap,rfl,hr⟩:=hv.read;refine ag ?_;refine dG ado (ahp hv hn hl hc nC) ?_ (λch ae ⟨h,_⟩=>by rcases h with⟨h,_⟩|⟨_,h,_⟩<;>cases h);rintro w J ⟨hw,rfl⟩;rcases hw with⟨hw,oy⟩|⟨i,hw,hi,hxi,oy⟩
 ·cases hw
  refine ag ?_;exact an aI ao (.inl ⟨by simp[up],oy,rfl⟩)
 cases hw
 obtain⟨a,pad,rfl,ha,jZ⟩:∃(a:Nat) (pad:List Value),base=some ⟨a,0,none⟩/\J.f a=some (.cells (cs.map pV++pad).toArray 186 (0,0))/\cap=cs.length+pad.length:=by
  rcases hv.form with⟨h0,_⟩|⟨a,pad,h1,h2⟩
  ·simp at h0;subst h0;simp at hi
  ·simp only[Value.slice.injEq]at h1;exact⟨a,pad,h1.1,h2,aY h1.2.2⟩
 subst jZ;have cm:¬(i:Int)= -1:=aa;have w1:=fT i;have TX:∀{x c},J.f x=some (.cells c 191 (0,0))->¬x=a:=λh e=>by subst e;rw[ha]at h;simp at h
 have nbx:¬bx=a:=λe=>cD 0 cs.length (cs.length+pad.length) (by rw[e]);simp only[go_sem,seval,cm,decide_false,w1]
 refine dh (λm I ds ae=>ds=[]/\I 0=.slice (some ⟨a,0,none⟩) cs.length (cs.length+pad.length)/\I 1=.func (.func 185) #[] #[pV bx]/\∃(i j:Nat) (L:List Value),j+m=cs.length/\I 5=iV i/\I 6=iV j/\i<j/\
  L.take i=((cs.take j).filter λx=>decide (x≠cb)).map pV/\L.drop j=(cs.drop j).map pV++pad/\L.length=cs.length+pad.length/\ae=J.set a (.cells L.toArray 186 (0,0))) (cs.length-(i+1)) ?_ ?_
 ·refine⟨rfl,?_,?_,i,i+1,cs.map pV++pad,aa,?_,?_,aa,?_,?_,al,(G1 ha).symm⟩
  ·exact au
  ·exact au
  ·exact au
  ·exact au
  ·have e1:(cs.take (i+1)).filter (λx=>decide (x≠cb))=cs.take i:=by
    rw[List.take_succ_eq_append_getElem hi,List.filter_append]
    have e2:(cs.take i).filter (λx=>decide (x≠cb))=cs.take i:=by rw[List.filter_eq_self];intro x hx;simpa usingλe:x=cb=>oy (e▸hx)
    rw[e2];simp[hxi]
   rw[e1,List.take_append_of_le_length (by simp;omega),List.map_take]
  ·rw[List.drop_append_of_le_length (by simp;omega),List.map_drop]
 ·rintro m I ds ae X ⟨rfl,h0,h1,i,j,L,xL,h5,h6,qU,qP,A5,Q6,rfl⟩ hX
  have tb:((cs.take j).filter λx=>decide (x≠cb)).length=i:=by have:=congrArg List.length qP;simp only[List.length_map,List.length_take]at this;omega
  have J5:(J.set a (.cells L.toArray 186 (0,0))).f a=some (.cells L.toArray 186 (0,0)):=aX
  cases m with
  |zero=>
   have vX:j=cs.length:=aa;have c0:¬(j:Int)<cs.length:=aa;simp only[go_sem,seval,h0,h5,h6,c0,decide_false];refine⟨aa,?_⟩;have k1:¬cs.length+pad.length-i=0:=aa;have k2:¬cs.length+pad.length=i:=aa;have ef:(cs.take j).filter (λx=>decide (x≠cb))=cs.filter λx=>decide (x≠cb):=by rw[List.take_of_length_le aa]
   rw[ef]at qP tb;rw[vX,List.drop_length]at A5;refine ag ?_;refine aaI P5 (z0:=.pointer none) rfl rfl (b:=a) (off:=0+i*1) (n:=cs.length-i) (c:=cs.length+pad.length-i) ?_ J5 aa ?_
   ·exact aQ k2
   have eL:L.take (0+i*1)++List.replicate (cs.length-i) (.pointer none)++L.drop (0+i*1+(cs.length-i))=(cs.filter λx=>decide (x≠cb)).map pV++(List.replicate (cs.length-i) (.pointer none)++pad):=by rw[show 0+i*1=i by omega,show i+(cs.length-i)=cs.length by omega,qP,A5];simp
   rw[eL,Hp.set_set];refine bu h0 h5 ?_;refine⟨aa,?_⟩;refine ag ?_;refine an aI ao (.inr ⟨a,_,⟨_,_,rfl⟩,?_,rfl⟩);have e1:i+(List.replicate (cs.length-i) (Value.pointer none)++pad).length=cs.length+pad.length:=by rw[List.length_append,List.length_replicate];omega
   rw[tb,e1];simp[up]
  |succ m=>
   have hj:j<cs.length:=aa;have c0:(j:Int)<cs.length:=aa;rw[<-List.getElem_cons_drop hj]at A5;obtain⟨c1,wC⟩:=hl cs[j] (List.getElem_mem hj);obtain⟨c2,tk⟩:=hc cb al
   have hLj:L[j]? =some (pV cs[j]):=by have e0:L[j]? =(L.drop j)[0]? :=al;rw[e0,A5];rfl
   have w3:=fT j;have w4:=fT i;simp only[go_sem,seval,h0,h6,c0,decide_true];refine⟨aa,?_⟩;refine bN J5 hLj h1 ?_;rw[ER (f:=185) (l:=#[]) (cap:=#[pV bx]) au];refine ag ?_;refine aZ (SP ((Hp.ay nbx).trans nC) ((Hp.ay (TX wC)).trans wC) ((Hp.ay (TX tk)).trans tk)) ?_;by_cases hx:cs[j]=cb
   ·simp only[go_sem,seval,hx,decide_true,h6,w3];refine hX m _ _ _ _ aa ⟨rfl,?_,?_,i,j+1,L,aa,?_,?_,aa,?_,?_,Q6,rfl⟩ ao
    ·exact aQ h0
    ·exact aQ h1
    ·exact aQ h5
    ·exact au
    ·rw[qP,List.take_succ_eq_append_getElem hj,List.filter_append];simp[hx]
    ·rw[<-List.tail_drop,A5];rfl
   ·simp only[go_sem,seval,hx,decide_false,h0,h5];refine⟨aa,?_⟩;have Gp:∃y,L[i]? =some y:=⟨L[i]'aa,by rw[List.getElem?_eq_getElem]⟩;obtain⟨y,hy⟩:=Gp;refine aJ J5 ?_;refine⟨aa,?_⟩;rw[Hp.set_set];refine fR h5 h6 w3 w4 ?_;have bd:i<L.length:=aa;refine hX m _ _ _ _ aa ⟨rfl,?_,?_,i+1,j+1,L.set i (pV cs[j]),aa,?_,?_,aa,?_,?_,aY Q6,rfl⟩ ao
    ·exact aQ h0
    ·exact aQ h1
    ·exact au
    ·exact au
    ·rw[List.take_succ_eq_append_getElem (aY bd),List.getElem_set_self,List.take_set_of_le (Nat.le_refl _),qP,List.take_succ_eq_append_getElem hj,List.filter_append];simp[hx]
    ·rw[List.drop_set_of_lt aa,<-List.tail_drop,A5];rfl
section
variable {H:Hid}{X:Ext}{U:Hp}{J:Hp}{nm:List UInt8}{h:HN}{q:QN}{k:Int}{x:XN}{o:Obj}{b:Nat}{E:Env prog}{c:Nat}{v:Value}{cs:List Nat}{cb:Nat}{bx:Nat}
variable {A:Lay}{n:N}{id:Int}
def Sl.le {ety:TypeId}{U J:Hp}{xs:List Value}{v:Value}(h:Sl ety U xs v)(k:U.le J):Sl ety J xs v:=by
 cases h with
 |nil h0=>exact .nil h0
 |«at»a pad ha=>exact .at a pad (k _ _ ha)
def aa1 (a:aq A H n X U){j k:Int}(hj:(n.x? j).isSome)(hk:(n.x? k).isSome)(e:A.cons j=A.cons k):j=k:=by
 have:=a.inj (.cons j) (.cons k) (by simpa[view]using hj) (by simpa[view]using hk) (by simpa[cG]using e)
 cases this;rfl
def Pm (a:aq A H n X U)(w:∀j∈q.cons,(n.x? j).isSome)(hx:n.x? k=some x)(hq:n.q? x.q=some q)(hn:q.cons.length<=1000000):
 aw E 140 #[pV A.br,pV (A.cons k)] U λe J=>e=.returned (.tuple #[])/\At A (n.cancel k) X J:=by
 refine aV func140 ntmps140 results140 λQ aD an aB=>?_;have hs:=a.iy hq;have emap:(q.cons.map λk=>pV (A.cons k))=(q.cons.map A.cons).map pV:=by rw[List.map_map];rfl
 rw[emap]at hs;obtain⟨base,cap,lF,_⟩:=hs.read;have mJ:=a.tH hq;rw[lF]at mJ;simp only[List.length_map]at mJ;refine ag ?_;refineλbx nC=>?_;have a1:=λo=>a.iS nC o;have iY:=λo=>(a1 o).eK;simp only at iY;have cF:=λo=>(a1 o).vK hx;have jy:=λo=>kK (o:=o) nC _ _ mJ;refine ag ?_;refine bJ 16 ?_;refine bN iY cF jy ?_
 have R5:∀j,(n.x? j).isSome->∀o,∃c:Array Value,(U.set bx o).f (A.cons j)=some (.cells c 191 (0,0)):=λj hj o=>by obtain⟨y,hy⟩:=Option.isSome_iff_exists.1 hj;exact⟨_,(a1 o).cons hy⟩
 have cD:∀off n c,H.cv x.q≠.slice (some ⟨bx,off,none⟩) n c:=λoff n' c e=>by
  rcases hs.form with⟨_,h2⟩|⟨a',pad,h1,h2⟩
  ·rw[h2]at e;cases e
  ·rw[h1]at e;simp only[Value.slice.injEq,Option.some.injEq,Addr.mk.injEq]at e;rw[e.1.1]at h2;rw[h2]at nC;cases nC
 refine dG adi (abx (cs:=q.cons.map A.cons) (v:=.slice base q.cons.length cap) (cb:=A.cons k) (bx:=bx) ?_ (aY hn) ?_ ?_ (iY _) (by rw[lF]at cD;simpa using cD)) ?_ (λch ae h=>by rcases h with⟨h,_⟩|⟨_,_,_,h,_⟩<;>cases h)
 ·have:=λo=>hs.le (kK (o:=o) nC);rw[lF]at this;simpa using this _
 ·intro y hy;obtain⟨j,hj,rfl⟩:=List.mem_map.1 hy;exact R5 j (w j hj) _
 ·intro y hy;simp only[List.mem_singleton]at hy;subst hy;exact R5 k (by rw[hx];rfl) _
 have afB:(q.cons.map A.cons).filter (λy=>decide (y≠A.cons k))=(q.cons.filter λj=>decide (j≠k)).map A.cons:=by rw[List.filter_map];congr 1;apply List.filter_congr;intro j hj;simp only[Function.comp,decide_eq_decide,ne_eq];exact not_congr ⟨λe=>aa1 a (w j hj) (by rw[hx];rfl) e,λe=>by rw[e]⟩
 have es:n.cancel k={n.bK x.q (λq=>{q with cons:=q.cons.filter λj=>decide (j≠k)})with xs:=cB n.xs k}:=by unfold N.cancel;rw[hx]
 rintro v J (⟨hv,oy,rfl⟩|⟨b,pad,⟨n',c',hv0⟩,hv,rfl⟩)
 ·cases hv
  have hk:q.cons.filter (λj=>decide (j≠k))=q.cons:=by rw[List.filter_eq_self];intro j hj;simpa usingλe:j=k=>oy (by subst e;exact List.mem_map_of_mem hj)
  refine⟨jf iY cF,?_⟩;refine aJ jy ?_;refine⟨dE iY cF jy,?_⟩;refine aD dz ao ⟨rfl,H,?_⟩;have a2:=(a1 (.cells (Value.cells (pV (A.cons k))) 186)).HY (nm:=x.q) hq (λq=>{q with cons:=q.cons.filter λj=>decide (j≠k)}) rfl hk;rw[lF]at a2;simp only[List.length_map]at a2;rw[es];exact a2.oW.PT k
 ·rw[afB]at hv|-;have hb:base=some ⟨b,0,none⟩:=by injection hv0
  obtain⟨z,Kt⟩:∃z,U.f b=some (.cells z 186 (0,0)):=by
   rcases hs.form with⟨_,h2⟩|⟨a',amh,h1,h2⟩
   ·rw[lF,hb]at h2;cases h2
   ·rw[lF,hb]at h1;simp only[Value.slice.injEq,Option.some.injEq,Addr.mk.injEq]at h1;rw[h1.1.1];exact⟨_,h2⟩
  have n1:¬bx=b:=bl nC Kt;have n2:¬A.cons k=b:=λe=>by have:=a.cons hx;rw[e,Kt]at this;simp[lz]at this
  have n3:¬A.queue x.q=b:=λe=>by rw[e,Kt]at mJ;simp at mJ
  have dA:=λo o'=>(Hp.ay (o:=o') n1).trans (iY o);have dV:=λo o'=>(Hp.ay (o:=o') n2).trans (cF o);have gT:=λo o'=>(Hp.ay (o:=o') n3).trans (jy o)
  cases hv
  refine⟨jf dA dV,?_⟩;refine aJ gT ?_;refine⟨dE dA dV gT,?_⟩;refine aD dz ao ⟨rfl,H.pE x.q (.slice (some ⟨b,0,none⟩) ((q.cons.filter λj=>decide (j≠k)).map A.cons).length (((q.cons.filter λj=>decide (j≠k)).map A.cons).length+pad.length)),?_⟩;have DT:kW (H.cv x.q)=false:=by rw[lF,hb];rfl
  have eb:pN (H.cv x.q)=b:=by rw[lF,hb];rfl
  have ec:((q.cons.filter λj=>decide (j≠k)).map λj=>pV (A.cons j))=((q.cons.filter λj=>decide (j≠k)).map A.cons).map pV:=by rw[List.map_map];rfl
  have a2:=(a1 (.cells (Value.cells (pV (A.cons k))) 186)).U3 (nm:=x.q) hq (b:=b) (λq=>{q with cons:=q.cons.filter λj=>decide (j≠k)}) rfl
   (by have:=Hl.apart (a1 (.cells (Value.cells (pV (A.cons k))) 186)) (.iy x.q) (by rw[PM hq DT];rfl);rw[<-eb];exact this)
   (cv:=.slice (some ⟨b,0,none⟩) ((q.cons.filter λj=>decide (j≠k)).map A.cons).length (((q.cons.filter λj=>decide (j≠k)).map A.cons).length+pad.length)) (o:=.cells (((q.cons.filter λj=>decide (j≠k)).map A.cons).map pV++pad).toArray 186 (0,0))
   ⟨b,pad,al,by simp only;rw[ec]⟩ rfl
  rw[es];exact a2.oW.PT k
end
abbrev dS(blk:Nat)(n cap:Nat):Value:=.slice (some ⟨blk,0,none⟩) n cap
def Mx(U:Hp)(blk:Nat)(d:List Int)(pad:List Value)(J:Hp):Prop:=∃xs:List Int,xs.Perm d/\J=U.set blk (.cells (xs.map aW++pad).toArray 3 (0,0))
def sK(U:Hp)(blk n:Nat):Prop:=∃L:List Value,U.f blk=some (.cells L.toArray 3 (0,0))/\∀i<n,∃x:Int,L[i]? =some (iV x)
def BB{E:Env P}{N:Nat}{c:Code}{Q:Post}(e:Ex)(F:av->Hp->Prop)(h2:∀az ae,F az ae->Q e az [] ae)(h1:∀Q':Post,(∀az ae,F az ae->Q' e az [] ae)->cO E N c Q' I [] U):cO E N c Q I [] U:=h1 Q h2
variable {blk:Nat}
def sK.two(h:sK U blk n)(hi:i<n)(hj:j<n):∃(L:List Value) (x y:Int),U.f blk=some (.cells L.toArray 3 (0,0))/\((0:Int)<=i/\(i:Int)<n)/\((0:Int)<=j/\(j:Int)<n)/\L[i]? =some (iV x)/\L[j]? =some (iV y):=by obtain⟨L,h1,h2⟩:=h;obtain⟨x,hx⟩:=h2 i hi;obtain⟨y,hy⟩:=h2 j hj;exact⟨L,x,y,h1,aa,aa,hx,hy⟩
variable {sb:Nat}
def sK.set(h:sK U blk n)(aE:blk≠sb)(o:Obj):sK (U.set sb o) blk n:=by obtain⟨L,h1,h2⟩:=h;exact⟨L,(Hp.ay aE).trans h1,h2⟩
variable {d:List Int}
def Mx.two(h:Mx U blk d pad J)(hi:i<d.length)(hj:j<d.length):∃(L:List Value) (x y:Int),J.f blk=some (.cells L.toArray 3 (0,0))/\((0:Int)<=i/\(i:Int)<d.length)/\((0:Int)<=j/\(j:Int)<d.length)/\L[i]? =some (iV x)/\L[j]? =some (iV y)/\i<L.length/\j<L.length/\Mx U blk d pad (J.set blk (.cells ((L.set i (iV y)).set j (iV x)).toArray 3 (0,0))):=by
 obtain⟨xs,p,rfl⟩:=h;have hl:=p.length_eq;rw[<-hl]at hi hj;refine⟨_,xs[i],xs[j],aX,aa,aa,?_,?_,by simp;omega,by simp;omega,(xs.set i xs[j]).set j xs[i],(List.set_set_perm hi hj).trans p,?_⟩
 ·rw[List.getElem?_append_left (aY hi)];simp[hi,aW]
 ·rw[List.getElem?_append_left (aY hj)];simp[hj,aW]
 ·rw[Hp.set_set,List.set_append_left _ _ (aY hi),List.set_append_left _ _ (aY hj),List.map_set,List.map_set];rfl
def Mx.rd(h:Mx U blk d pad J):sK J blk d.length:=by have k:=h;obtain⟨xs,p,rfl⟩:=k;exact⟨_,aX,λi hi=>by obtain⟨L,x,_,h1,_,_,h2,_⟩:=h.two hi hi;rw[Hp.bD]at h1;cases h1;exact⟨x,h2⟩⟩
variable {cap et:Nat}{s:Int}{lo hi:Nat}
def My(hd:sK U blk n)(hs:U.f sb=some (.cells [iV s].toArray et (0,0)))(ha:lo<=a/\a<hi)(hb:lo<=b/\b<hi)(hn:hi<=n):
 aw E 237 #[dS blk n cap,iV a,iV b,pV sb] U λe J=>(∃x y:Nat,(lo<=x/\x<hi)/\(lo<=y/\y<hi)/\e=.returned (.tuple #[iV x,iV y]))/\∃s:Int,J=U.set sb (.cells [iV s].toArray et (0,0)):=by
 refine aV func237 ntmps237 results237 λQ aD an aB=>?_;obtain⟨L,x,y,fa,c1,c2,ga,gb⟩:=hd.two (i:=a) (j:=b) aa aa;simp only[go_sem,seval,dS];refine bJ 9 ?_;refine mr c1 c2 fa ga gb ?_;refine aZ px ?_;refine⟨dE fa ga gb,?_⟩
 cases decide (y<x)with
 |false=>
  refine ag ?_;exact an (J:=U) ji ao ⟨⟨a,b,ha,hb,by simp[up]⟩,s,by rw[Hp.HZ hs]⟩
 |true=>
  refine aJ hs ?_;exact an ji ao ⟨⟨b,a,hb,ha,by simp[up]⟩,_,rfl⟩
def L5(hd:sK U blk n)(hs:U.f sb=some (.cells [iV s].toArray et (0,0)))(aE:blk≠sb)(ha:lo<=a/\a<hi)(hb:lo<=b/\b<hi)(hc:lo<=c/\c<hi)(hn:hi<=n):
 aw E 213 #[dS blk n cap,iV a,iV b,iV c,pV sb] U λe J=>(∃x:Nat,(lo<=x/\x<hi)/\e=.returned (iV x))/\∃s:Int,J=U.set sb (.cells [iV s].toArray et (0,0)):=by
 refine aV func213 ntmps213 results213 λQ aD an aB=>?_;have qi:∀o,(U.set sb o).f sb=some o:=λ_=>aX;refine ag ?_;refine dG JP (My (cap:=cap) hd hs ha hb hn) ?_ (λch ae ⟨⟨_,_,_,_,h⟩,_⟩=>by cases h);rintro v J ⟨⟨x1,y1,wC,hy1,hv⟩,s1,rfl⟩
 cases hv
 refine ag ?_;refine dG JP (My (cap:=cap) (hd.set aE _) (qi _) hy1 hc hn) ?_ (λch ae ⟨⟨_,_,_,_,h⟩,_⟩=>by cases h);rintro v J ⟨⟨x2,y2,tk,SD,hv⟩,s2,rfl⟩
 cases hv
 rw[Hp.set_set];refine ag ?_;refine dG JP (My (cap:=cap) (hd.set aE _) (qi _) wC tk hn) ?_ (λch ae ⟨⟨_,_,_,_,h⟩,_⟩=>by cases h);rintro v J ⟨⟨x3,y3,Sx,hy3,hv⟩,s3,rfl⟩
 cases hv
 rw[Hp.set_set];refine ag ?_;exact an aI ao ⟨⟨y3,hy3,by simp[up]⟩,s3,rfl⟩
def L4(hd:sK U blk n)(hs:U.f sb=some (.cells [iV s].toArray et (0,0)))(aE:blk≠sb)(ha:lo+1<=a/\a+1<hi)(hn:hi<=n)(hh:hi<=1000000):
 aw E 212 #[dS blk n cap,iV a,pV sb] U λe J=>(∃x:Nat,(lo<=x/\x<hi)/\e=.returned (iV x))/\∃s:Int,J=U.set sb (.cells [iV s].toArray et (0,0)):=by
 refine aV func212 ntmps212 results212 λQ aD an aB=>?_;have w1:IntKind.i64.wrap ((a:Int)-1)=((a-1:Nat):Int):=cJ;have w2:=fT a;refine bu w1 w2 ?_;refine aL (L5 (cap:=cap) (lo:=lo) (hi:=hi) hd hs aE aa aa aa hn) ?_;rintro v J ⟨⟨x,hx,hv⟩,s2,rfl⟩
 cases hv
 refine ag ?_;exact an aI ao ⟨⟨x,hx,by simp[up]⟩,s2,rfl⟩
def aoe(M:Mx U blk d pad J)(hb:b<=d.length)(iY:1<=b)(hn:d.length<=1000000)(ha:a<=b):
 aw E 166 #[dS blk d.length cap,iV a,iV b] J λe J=>e=.returned (.tuple #[])/\Mx U blk d pad J:=by
 refine aV func166 ntmps166 results166 λQ aD an aB=>?_;have w1:IntKind.i64.wrap ((b:Int)-1)=((b-1:Nat):Int):=cJ;have sk:∀x,dn (iV x)=true:=λ_=>rfl;refine aJ w1 ?_;refine dh (λm I ds ae=>ds=[]/\I 0=dS blk d.length cap/\∃(i j:Nat),m=j-i/\I 6=iV i/\I 7=iV j/\j<b/\Mx U blk d pad ae) (b-1-a) ?_ ?_
 ·refine⟨rfl,?_,a,b-1,rfl,?_,?_,aa,M⟩<;>exact au
 rintro m I ds cY Y ⟨rfl,h0,i,j,rfl,h6,h7,hj,M⟩ hY;by_cases qU:i<j
 ·have k:(i:Int)<j:=aa;have w2:=fT i;have w3:IntKind.i64.wrap ((j:Int)-1)=((j-1:Nat):Int):=cJ;refine bN h6 h7 k ?_;obtain⟨L,x,y,fa,cx,cy,gx,gy,l1,l2,M2⟩:=M.two (i:=i) (j:=j) aa aa;refine bJ 16 ?_;simp only[go_sem,seval,h0,h6,h7,cx,cy,fa,gx,gy,sk,l1];refine⟨dE fa gx gy,?_⟩;refine ag ?_;refine⟨l2,?_⟩;refine⟨dE fa gx gy,?_⟩;refine fR h6 h7 w2 w3 ?_
  try rw[Hp.set_set]
  refine hY (j-1-(i+1)) _ _ _ _ aa ⟨rfl,?_,i+1,j-1,rfl,?_,?_,aa,M2⟩ ao<;>exact aQ h0
 ·have k:¬(i:Int)<j:=aa;refine bN h6 h7 k ?_;exact aD dz ao ⟨rfl,M⟩
def ahw(M:Mx U blk d pad J)(dm:a<=b)(hb:b<=d.length)(hn:d.length<=1000000):
 aw E 162 #[dS blk d.length cap,iV a,iV b] J λe J=>e=.returned (.tuple #[])/\Mx U blk d pad J:=by
 refine aV func162 ntmps162 results162 λQ aD an aB=>?_;have w1:=fT a;have sk:∀x,dn (iV x)=true:=λ_=>rfl;refine aJ w1 ?_;refine dh (λm I ds ae=>ds=[]/\I 0=dS blk d.length cap/\I 1=iV a/\I 2=iV b/\∃i:Nat,m=b-i/\I 6=iV i/\a<i/\i<=b+1/\Mx U blk d pad ae) (b-(a+1)) ?_ ?_
 ·refine⟨rfl,?_,?_,?_,a+1,rfl,?_,aa,aa,M⟩<;>exact au
 rintro m I ds cY Y ⟨rfl,h0,h1,h2,i,rfl,h6,Df,Dz,M⟩ hY;by_cases qU:i<b
 ·have k:(i:Int)<b:=aa;have w2:=fT i;refine bN h2 h6 k ?_;refine dh (λ(j:Nat) I ds ae=>ds=[]/\I 0=dS blk d.length cap/\I 1=iV a/\I 2=iV b/\I 6=iV i/\I 7=iV j/\a<=j/\j<=i/\Mx U blk d pad ae) i ?_ ?_
  ·refine⟨rfl,?_,?_,?_,?_,?_,aa,aa,M⟩<;>exact iP h0 h1 h2 h6
  clear M h0 h1 h2 h6;rintro j I ds cY Y2 ⟨rfl,h0,h1,h2,h6,h7,haj,Bm,M⟩ Kc;refine ag ?_;refine bJ 15 ?_;by_cases hj:a<j
  ·obtain⟨p,hp⟩:∃p,p=j-1:=⟨_,rfl⟩;have kj:(j:Int)>a:=aa;have w3:IntKind.i64.wrap ((j:Int)-1)=(p:Int):=cJ;obtain⟨L,x,y,fa,c1,c2,gi,gj⟩:=M.rd.two (i:=j) (j:=p) aa aa;simp only[go_sem,seval,h0,h1,h7,kj,c1,c2,w3,fa,gi,gj];refine aZ px ?_;refine⟨dE fa gi gj,?_⟩
   cases decide (x<y)with
   |false=>
    refine bu h6 w2 ?_;refine hY (b-(i+1)) _ _ _ _ aa ⟨rfl,?_,?_,?_,i+1,rfl,?_,aa,aa,M⟩ ao<;>exact nW h0 h1 h2
   |true=>
    refine ag ?_;obtain⟨L,x,y,fa,cx,cy,gx,gy,l1,l2,M2⟩:=M.two (i:=j) (j:=p) aa aa;refine bJ 18 ?_;simp only[go_sem,seval,h0,h7,w3,cx,cy,fa,gx,gy,sk,l1];refine⟨dE fa gx gy,?_⟩;refine ag ?_;refine⟨l2,?_⟩;refine⟨dE fa gx gy,?_⟩;refine bu h7 w3 ?_
    try rw[Hp.set_set]
    refine Kc p _ _ _ _ aa ⟨rfl,?_,?_,?_,?_,?_,aa,aa,M2⟩ ao<;>exact iP h0 h1 h2 h6
  ·have kj:¬(j:Int)>a:=aa;refine mr h1 h6 h7 kj w2 ?_;refine hY (b-(i+1)) _ _ _ _ aa ⟨rfl,?_,?_,?_,i+1,rfl,?_,aa,aa,M⟩ ao<;>exact nW h0 h1 h2
 ·have k:¬(i:Int)<b:=aa;refine bN h2 h6 k ?_;exact aD dz ao ⟨rfl,M⟩
def aaB(hd:sK U blk n)(dm:a+12<b)(hb:b<=n)(hn:n<=1000000):
 aw E 165 #[dS blk n cap,iV a,iV b] U λe J=>(∃(x:Nat) (h:Int),(a<=x/\x<b)/\e=.returned (.tuple #[iV x,iV h]))/\J=U:=by
 refine aV func165 ntmps165 results165 λQ aD an aB=>?_;obtain⟨l,hl⟩:∃l,l=b-a:=⟨_,rfl⟩;obtain⟨q,hq⟩:∃q,q=l/4:=⟨_,rfl⟩;have w1:IntKind.i64.wrap ((b:Int)-(a:Int))=(l:Int):=cJ
 have w4:IntKind.i64.wrap ((l:Int).tdiv 4)=(q:Int):=by
  have:(l:Int).tdiv 4=(q:Int):=by rw[hq];rfl
  rw[this,wrap64 aa aa]
 obtain⟨j2,qV⟩:∃j,j=q*2:=⟨_,rfl⟩;obtain⟨k3,RZ⟩:∃j,j=q*3:=⟨_,rfl⟩;obtain⟨i,hi⟩:∃i,i=a+q:=⟨_,rfl⟩;obtain⟨j,hj⟩:∃j,j=a+j2:=⟨_,rfl⟩;obtain⟨k,hk⟩:∃k,k=a+k3:=⟨_,rfl⟩;have m2:IntKind.i64.wrap ((q:Int)*2)=(j2:Int):=cJ;have m3:IntKind.i64.wrap ((q:Int)*3)=(k3:Int):=cJ;have m0:IntKind.i64.wrap ((q:Int)*1)=(q:Int):=cJ;have t1:IntKind.i64.wrap ((a:Int)+(q:Int))=(i:Int):=cJ;have t2:IntKind.i64.wrap ((a:Int)+(j2:Int))=(j:Int):=cJ;have t3:IntKind.i64.wrap ((a:Int)+(k3:Int))=(k:Int):=cJ;have k8:(8:Int)<=l:=aa;refine aJ w1 ?_;refineλb9 pc=>?_;have aE:blk≠b9:=λe=>by obtain⟨_,h,_⟩:=hd;rw[e,pc]at h;cases h
 have gM:∀o,U.le (U.set b9 o):=λo x p hx=>by rw[Hp.ay (bl pc hx)];exact hx
 have ec:(Value.int IntKind.i64 0).cells=[iV 0].toArray:=by first|rfl|simp[Value.cells]
 have fO:∀o,sK (U.set b9 o) blk n:=λo=>hd.set aE o;have qi:∀o,(U.set b9 o).f b9=some o:=λ_=>aX;refine jl w4 m0 m2 m3 t1 t2 t3 k8 ?_;rw[ec];by_cases oj:l>=50
 ·have LC:(50:Int)<=l:=aa;refine aJ LC ?_;refine aL (L4 (cap:=cap) (a:=i) (lo:=a) (hi:=b) (s:=0) (et:=3) (fO _) (qi _) aE aa hb aa) ?_;rintro v J ⟨⟨x1,wC,hv⟩,s1,rfl⟩
  cases hv
  rw[Hp.set_set];refine ag ?_;refine aL (L4 (cap:=cap) (a:=j) (lo:=a) (hi:=b) (s:=s1) (et:=3) (fO _) (qi _) aE aa hb aa) ?_;rintro v J ⟨⟨x2,tk,hv⟩,s2,rfl⟩
  cases hv
  rw[Hp.set_set];refine ag ?_;refine aL (L4 (cap:=cap) (a:=k) (lo:=a) (hi:=b) (s:=s2) (et:=3) (fO _) (qi _) aE aa hb aa) ?_;rintro v J ⟨⟨x3,Sx,hv⟩,s3,rfl⟩
  cases hv
  rw[Hp.set_set];refine ag ?_;refine aL (L5 (cap:=cap) (lo:=a) (hi:=b) (s:=s3) (et:=3) (fO _) (qi _) aE wC tk Sx hb) ?_;rintro v J ⟨⟨x,hx,hv⟩,s,rfl⟩
  cases hv
  rw[Hp.set_set];by_cases z0:s=0
  ·refine bu qi z0 ?_;exact an ji (gM _) ⟨⟨x,_,hx,by simp[up];rfl⟩,rfl⟩
  by_cases z1:s=12
  ·refine bu qi z1 ?_;exact an ji (gM _) ⟨⟨x,_,hx,by simp[up];rfl⟩,rfl⟩
  ·refine bN qi z0 z1 ?_;exact an ji (gM _) ⟨⟨x,_,hx,by simp[up];rfl⟩,rfl⟩
 ·have LC:¬(50:Int)<=l:=aa;refine aJ LC ?_;refine aL (L5 (cap:=cap) (lo:=a) (hi:=b) (s:=0) (et:=3) (fO _) (qi _) aE (b:=j) (a:=i) (c:=k) aa aa aa hb) ?_;rintro v J ⟨⟨x,hx,hv⟩,s,rfl⟩
  cases hv
  rw[Hp.set_set];by_cases z0:s=0
  ·refine bu qi z0 ?_;exact an ji (gM _) ⟨⟨x,_,hx,by simp[up];rfl⟩,rfl⟩
  by_cases z1:s=12
  ·refine bu qi z1 ?_;exact an ji (gM _) ⟨⟨x,_,hx,by simp[up];rfl⟩,rfl⟩
  ·refine bN qi z0 z1 ?_;exact an ji (gM _) ⟨⟨x,_,hx,by simp[up];rfl⟩,rfl⟩
def U9{first:Nat}(M:Mx U blk d pad J)(hb:first+hi<=d.length)(Bo:lo<=d.length)(hn:d.length<=1000000):
 aw E 209 #[dS blk d.length cap,iV lo,iV hi,iV first] J λe J=>e=.returned (.tuple #[])/\Mx U blk d pad J:=by
 refine aV func209 ntmps209 results209 λQ aD an aB=>?_;have sk:∀x,dn (iV x)=true:=λ_=>rfl;refine ag ?_;refine dh (λm I ds ae=>ds=[]/\I 0=dS blk d.length cap/\I 2=iV hi/\I 3=iV first/\∃root:Nat,m=hi-root/\I 8=iV root/\root<=d.length/\Mx U blk d pad ae) (hi-lo) ?_ ?_
 ·refine⟨rfl,?_,?_,?_,lo,rfl,?_,Bo,M⟩<;>exact au
 clear M;rintro m I ds J Y ⟨rfl,h0,h2,h3,root,rfl,h8,Br,M⟩ hY;obtain⟨r2,bZ⟩:∃r2,r2=2*root:=⟨_,rfl⟩;obtain⟨ch,dO⟩:∃ch,ch=2*root+1:=⟨_,rfl⟩;have m1:IntKind.i64.wrap (2*(root:Int))=(r2:Int):=cJ;have m2:IntKind.i64.wrap ((r2:Int)+1)=(ch:Int):=cJ;have m3:=fT ch;by_cases xI:hi<=ch
 ·have k1:(hi:Int)<=ch:=aa;refine mr h2 h8 m1 m2 k1 ?_;exact aD dz ao ⟨rfl,M⟩
 have k1:¬(hi:Int)<=ch:=aa;refine Al (fL λK1 pa=>?_);refine bN h8 m1 m2 ?_;refine pa _ _ _ (fL λK2 pX=>?_);refine bu h2 k1 ?_;refine pX _ _ _ (fL λK3 rM=>?_);clear pa pX
 have tail:∀(I:av) (c:Nat),I 0=dS blk d.length cap->I 2=iV hi->I 3=iV first->I 8=iV root->I 9=iV c->root<c->c<hi->K3 I [] J:=by
  clear h0 h2 h3 h8 I;intro I c h0 h2 h3 h8 h9 hrc hc;refine rM _ _ _ ?_;clear rM;obtain⟨p,hp⟩:∃p,p=first+root:=⟨_,rfl⟩
  obtain⟨q,hq⟩:∃q,q=first+c:=⟨_,rfl⟩
  have wp:IntKind.i64.wrap ((first:Int)+(root:Int))=(p:Int):=cJ;have wq:IntKind.i64.wrap ((first:Int)+(c:Int))=(q:Int):=cJ;obtain⟨L,x,y,fa,cx,cy,gx,gy,l1,l2,M2⟩:=M.two (i:=p) (j:=q) aa aa;refine ag ?_;refine bJ 14 ?_;simp only[go_sem,seval,h0,h3,h8,h9,wp,wq,cx,cy,fa,gx,gy];refine aZ px ?_;refine⟨dE fa gx gy,?_⟩
  cases decide (x<y)with
  |false=>
   refine ag ?_;exact an dz ao ⟨rfl,M⟩
  |true=>
   refine ag ?_;refine bJ 24 ?_;simp only[go_sem,seval,h0,h3,h8,h9,wp,wq,cx,cy,fa,gx,gy,sk,l1];refine⟨dE fa gx gy,?_⟩;refine ag ?_;refine⟨l2,?_⟩;refine⟨dE fa gx gy,?_⟩;refine aJ h9 ?_
   try rw[Hp.set_set]
   refine hY (hi-c) _ _ _ _ aa ⟨rfl,?_,?_,?_,c,rfl,?_,aa,M2⟩ ao<;>exact nW h0 h2 h3
 refine ag ?_;refine bJ 20 ?_;by_cases gm:ch+1<hi
 ·have k2:((ch+1:Nat):Int)<hi:=aa;obtain⟨p,hp⟩:∃p,p=first+ch:=⟨_,rfl⟩
  have wp:IntKind.i64.wrap ((first:Int)+(ch:Int))=(p:Int):=cJ;have wq:=fT p;obtain⟨L,x,y,fa,cx,cy,gx,gy⟩:=M.rd.two (i:=p) (j:=p+1) aa aa;simp only[go_sem,seval,h0,h2,h3,m3,k2,wp,wq,cx,cy,fa,gx,gy];refine aZ px ?_;refine⟨dE fa gx gy,?_⟩
  cases decide (x<y)with
  |true=>
   refine aJ m3 ?_;refine tail _ (ch+1) ?_ ?_ ?_ ?_ ?_ aa aa<;>exact iP h0 h2 h3 h8
  |false=>
   refine ag ?_;refine tail _ ch ?_ ?_ ?_ ?_ ?_ aa aa<;>exact iP h0 h2 h3 h8
 ·have k2:¬((ch+1:Nat):Int)<hi:=aa;refine bN h2 m3 k2 ?_;refine tail _ ch ?_ ?_ ?_ ?_ ?_ aa aa<;>exact iP h0 h2 h3 h8
def afg(M:Mx U blk d pad J)(dm:a+12<b)(hb:b<=d.length)(hn:d.length<=1000000):
 aw E 163 #[dS blk d.length cap,iV a,iV b] J λe J=>e=.returned (.tuple #[])/\Mx U blk d pad J:=by
 refine aV func163 ntmps163 results163 λQ aD an aB=>?_;have sk:∀x,dn (iV x)=true:=λ_=>rfl;obtain⟨hi,Dx⟩:∃hi,hi=b-a:=⟨_,rfl⟩;obtain⟨mG,asQ⟩:∃mG,mG=hi-1:=⟨_,rfl⟩;obtain⟨g,hg⟩:∃g,g=mG/2:=⟨_,rfl⟩;have w1:IntKind.i64.wrap ((b:Int)-(a:Int))=(hi:Int):=cJ;have w2:IntKind.i64.wrap ((hi:Int)-1)=(mG:Int):=cJ
 have w3:IntKind.i64.wrap ((mG:Int).tdiv 2)=(g:Int):=by
  have:(mG:Int).tdiv 2=(g:Int):=by rw[hg];rfl
  rw[this,wrap64 aa aa]
 refine bN w1 w2 w3 ?_;refine dh (λk I ds ae=>ds=[]/\I 0=dS blk d.length cap/\I 6=iV a/\I 7=iV 0/\I 8=iV hi/\∃z:Int,z=(k:Int)-1/\I 9=iV z/\k<=g+1/\Mx U blk d pad ae) (g+1) ?_ ?_
 ·refine⟨rfl,?_,?_,?_,?_,g,aa,?_,Nat.le_refl _,M⟩<;>exact au
 clear M;rintro k I ds J Y ⟨rfl,h0,h6,h7,h8,z,hz,h9,hk,M⟩ hY;have w4:IntKind.i64.wrap (z-1)=z-1:=cJ
 cases k with
 |succ k=>
  have c0:(0:Int)<=z:=aa;obtain rfl:z=(k:Int):=aa;refine mr h0 h6 h8 h9 c0 ?_;refine aL (U9 M aa aa aa) ?_;rintro v J ⟨hv,M⟩
  cases hv
  refine bu h9 w4 ?_;refine hY k _ _ _ _ aa ⟨rfl,?_,?_,?_,?_,_,rfl,?_,aa,M⟩ ao<;>exact iP h0 h6 h7 h8
 |zero=>
  have c0:¬(0:Int)<=z:=aa;refine fR h8 h9 c0 w2 ?_;clear hY hz;refine dh (λk I ds ae=>ds=[]/\I 0=dS blk d.length cap/\I 6=iV a/\I 7=iV 0/\∃z:Int,z=(k:Int)-1/\I 10=iV z/\k<=hi/\Mx U blk d pad ae) hi ?_ ?_
  ·refine⟨rfl,?_,?_,?_,mG,aa,?_,Nat.le_refl _,M⟩<;>exact nW h0 h6 h7
  clear M h0 h6 h7 h8 h9 I w4 c0 z;rintro k I ds J Y ⟨rfl,h0,h6,h7,z,hz,bB,hk,M⟩ hY;have w4:IntKind.i64.wrap (z-1)=z-1:=cJ
  cases k with
  |succ k=>
   have c1:(0:Int)<=z:=aa;obtain rfl:z=(k:Int):=aa;obtain⟨y',uG⟩:∃y,y=a+k:=⟨_,rfl⟩;have w6:IntKind.i64.wrap ((a:Int)+(k:Int))=(y':Int):=cJ;refine bu bB c1 ?_;obtain⟨L,x,y,fa,cx,cy,gx,gy,l1,l2,M2⟩:=M.two (i:=a) (j:=y') aa aa;refine bJ 20 ?_;simp only[go_sem,seval,h0,h6,bB,w6,cx,cy,fa,gx,gy,sk,l1];refine⟨dE fa gx gy,?_⟩;refine ag ?_;refine⟨l2,?_⟩;refine⟨dE fa gx gy,?_⟩;refine fR h0 h6 h7 bB ?_
   try rw[Hp.set_set]
   have hsd:=U9 (E:=E) (cap:=cap) (lo:=0) (hi:=k) (first:=a) M2 aa aa aa;refine aL hsd ?_;rintro v J ⟨hv,M⟩
   cases hv
   refine bu bB w4 ?_;refine hY k _ _ _ _ aa ⟨rfl,?_,?_,?_,_,rfl,?_,aa,M⟩ ao<;>exact nW h0 h6 h7
  |zero=>
   have c1:¬(0:Int)<=z:=aa;refine bu bB c1 ?_;exact aD dz ao ⟨rfl,M⟩
end Go.Qw
