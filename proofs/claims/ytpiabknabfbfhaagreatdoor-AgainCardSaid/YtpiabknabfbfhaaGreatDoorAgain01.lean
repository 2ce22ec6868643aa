/- 1 -/
import Derived.Conc.Beside
import Derived.Conc.Listed
import Derived.Conc.Own
import Derived.Conc.Token
import Derived.KernelRfl
set_option linter.all false
set_option maxRecDepth 100000
set_option maxHeartbeats 8000000
namespace Go.Qw
open Go
variable {p:Prop}
def aa(h:p:=by omega):p:=h
def ah(h:p:=by kernel_rfl):p:=h
def ai(h:p:=by decide):p:=h
def jb(h:p:=by decide+kernel):p:=h
def al(h:p:=by simp):p:=h
variable {q:Prop}
def aW(h:p)(e:p->q:=by intro h;simpa using h):q:=e h
abbrev pV(b:Nat):Go.Value:=.pointer (some ⟨b,0,none⟩)
def bp{α:Sort _}{a b:α}(h:a=b:=by rfl):a=b:=h
def ag(h:q)(e:q->p:=by intro h;simp only[go_sem,seval];exact h):p:=e h
def au(e:p:=by simp only[go_sem,seval]<;>rfl):p:=e
variable {F0:Prop}
def aJ(a:F0)(h:q)(e:F0->q->p:=by intro a h;simp only[go_sem,seval,a];exact h):p:=e a h
def aQ(a:F0)(e:F0->p:=by intro a;simp only[go_sem,seval,a]<;>rfl):p:=e a
variable {F1:Prop}
def bu(a:F0)(b:F1)(h:q)(e:F0->F1->q->p:=by intro a b h;simp only[go_sem,seval,a,b];exact h):p:=e a b h
def xu(a:F0)(b:F1)(e:F0->F1->p:=by intro a b;simp only[go_sem,seval,a,b]<;>rfl):p:=e a b
variable {F2:Prop}
def bR(a:F0)(b:F1)(c:F2)(h:q)(e:F0->F1->F2->q->p:=by intro a b c h;simp only[go_sem,seval,a,b,c];exact h):p:=e a b c h
def nW(a:F0)(b:F1)(c:F2)(e:F0->F1->F2->p:=by intro a b c;simp only[go_sem,seval,a,b,c]<;>rfl):p:=e a b c
variable {F3:Prop}
def fV(a:F0)(b:F1)(c:F2)(d:F3)(h:q)(e:F0->F1->F2->F3->q->p:=by intro a b c d h;simp only[go_sem,seval,a,b,c,d];exact h):p:=e a b c d h
def iP(a:F0)(b:F1)(c:F2)(d:F3)(e:F0->F1->F2->F3->p:=by intro a b c d;simp only[go_sem,seval,a,b,c,d]<;>rfl):p:=e a b c d
variable {F4:Prop}
def lI(a:F0)(b:F1)(c:F2)(d:F3)(f:F4)(h:q)(e:F0->F1->F2->F3->F4->q->p:=by intro a b c d f h;simp only[go_sem,seval,a,b,c,d,f];exact h):p:=e a b c d f h
def pI(a:F0)(b:F1)(c:F2)(d:F3)(f:F4)(e:F0->F1->F2->F3->F4->p:=by intro a b c d f;simp only[go_sem,seval,a,b,c,d,f]<;>rfl):p:=e a b c d f
variable {F5:Prop}
def jQ(a:F0)(b:F1)(c:F2)(d:F3)(f:F4)(g:F5)(h:q)(e:F0->F1->F2->F3->F4->F5->q->p:=by intro a b c d f g h;simp only[go_sem,seval,a,b,c,d,f,g];exact h):p:=e a b c d f g h
def Iu(a:F0)(b:F1)(c:F2)(d:F3)(f:F4)(g:F5)(e:F0->F1->F2->F3->F4->F5->p:=by intro a b c d f g;simp only[go_sem,seval,a,b,c,d,f,g]<;>rfl):p:=e a b c d f g
variable {F6:Prop}
def jR(a:F0)(b:F1)(c:F2)(d:F3)(f:F4)(g:F5)(i:F6)(h:q)(e:F0->F1->F2->F3->F4->F5->F6->q->p:=by intro a b c d f g i h;simp only[go_sem,seval,a,b,c,d,f,g,i];exact h):p:=e a b c d f g i h
def Iv(a:F0)(b:F1)(c:F2)(d:F3)(f:F4)(g:F5)(i:F6)(e:F0->F1->F2->F3->F4->F5->F6->p:=by intro a b c d f g i;simp only[go_sem,seval,a,b,c,d,f,g,i]<;>rfl):p:=e a b c d f g i
def jE{F7:Prop}(a:F0)(b:F1)(c:F2)(d:F3)(f:F4)(g:F5)(i:F6)(j:F7)(h:q)(e:F0->F1->F2->F3->F4->F5->F6->F7->q->p:=by intro a b c d f g i j h;simp only[go_sem,seval,a,b,c,d,f,g,i,j];exact h):p:=e a b c d f g i j h
def sI{F7:Prop}(a:F0)(b:F1)(c:F2)(d:F3)(f:F4)(g:F5)(i:F6)(j:F7)(e:F0->F1->F2->F3->F4->F5->F6->F7->p:=by intro a b c d f g i j;simp only[go_sem,seval,a,b,c,d,f,g,i,j]<;>rfl):p:=e a b c d f g i j
structure Hp where
 f:Nat->Option Obj
structure cR (au2:Nat->Prop) (w:World) (U:Hp):Prop where
 heap:∀{b:Nat} {o:Obj},U.f b=some o->w.heap[b]? =some o
 fP:∀b,au2 b->U.f b=none
 low:∀b,au2 b->b<w.heap.size
def Hp.le(U J:Hp):Prop:=∀b o,U.f b=some o->J.f b=some o
def Hp.le_refl(U:Hp):U.le U:=λ_ _ h=>h
variable {U J:Hp}
def Hp.le_trans{υ:Hp}(h:U.le J)(k:J.le υ):U.le υ:=λb o x=>k b o (h b o x)
def Hp.cell?(U:Hp)(a:Addr):Option Value:=
 match U.f a.block with
 |some (.cells c _ _)=>if a.spot.isSome then none else c[a.off]?
 |_=>none
def Hp.frozen?(U:Hp)(a:Addr):Bool:=
 match U.f a.block with
 |some (.cells _ _ (lo,hi))=>lo<=a.off&&a.off<hi
 |_=>false
def Hp.shape?(U:Hp)(r:Nat):Option (TypeId×Nat):=
 match U.f r with
 |some (.cells c elem _)=>some (elem,c.size)
 |_=>none
def Hp.set(U:Hp)(b:Nat)(o:Obj):Hp:={f:=λx=>if x=b then some o else U.f x}
def Hp.modify(U:Hp)(b:Nat)(g:Obj->Obj):Hp:={f:=λx=>if x=b then(U.f b).map g else U.f x}
def y8(a:Addr)(v:Value):Obj->Obj
 | .cells c elem frozen=>.cells (if a.spot.isSome then c else c.setIfInBounds a.off v) elem frozen
 |o=>o
def Gf(a:Addr)(n:Nat):Obj->Obj
 | .cells c elem (lo,hi)=>.cells c elem (if lo==hi then(a.off,a.off+n)else(min lo a.off,max hi (a.off+n)))
 |o=>o
def Hp.setCell(U:Hp)(a:Addr)(v:Value):Hp:=U.modify a.block (y8 a v)
def Hp.freeze(U:Hp)(a:Addr)(n:Nat):Hp:=if n=0 then U else U.modify a.block (Gf a n)
def BZ:Mark->Bool
 | .extern _| .noRoom=>true
 |_=>false
def BW:Obj->Bool
 | .cells .. =>false
 |_=>true
variable {α:Type}
def wpS(P:Program):Sem α->(α->Hp->Prop)->(Halt->Hp->Prop)->Hp->Prop
 | .pure a,Q,_,U=>Q a U
 | .load _ a k,Q,H,U=>∃v,U.cell? a=some v/\wpS P (k v) Q H U
 | .store _ _ (.agg _) _,_,_,_| .store _ _ (.tuple _) _,_,_,_=>False
 | .store _ a v k,Q,H,U=>(∃u,U.cell? a=some u)/\U.frozen? a=false/\wpS P k Q H (U.setCell a v)
 | .new o k,Q,H,U=>∀b,U.f b=none->wpS P (k b) Q H (U.set b o)
 | .shape r k,Q,H,U=>(U.f r).isSome=true/\wpS P (k (U.shape? r)) Q H U
 | .freeze a n k,Q,H,U=>(U.f a.block).isSome=true/\wpS P k Q H (U.freeze a n)
 | .frozen a k,Q,H,U=>(U.f a.block).isSome=true/\wpS P (k (U.frozen? a)) Q H U
 | .getObj r k,Q,H,U=>∃o,U.f r=some o/\BW o=true/\wpS P (k o) Q H U
 | .setObj r o k,Q,H,U=>∃o',U.f r=some o'/\BW o'=true/\wpS P k Q H (U.set r o)
 | .choose q k,Q,H,U=>if q.forced then wpS P (k 0) Q H U else∀t,wpS P (k (q.cut t)) Q H U
 | .sys _ _,_,_,_=>False
 | .program k,Q,H,U=>wpS P (k P) Q H U
 | .mark m k,Q,H,U=>BZ m=true/\wpS P k Q H U
 | .halt h,_,H,U=>H h U
variable {P:Program}{H:Halt->Hp->Prop}
def NU{Q Q':α->Hp->Prop}{H':Halt->Hp->Prop}(hq:∀a U,Q a U->Q' a U)(hh:∀h U,H h U->H' h U):
 ∀(s:Sem α) (U:Hp),wpS P s Q H U->wpS P s Q' H' U:=by
 intro s
 induction s with
 |pure a=>exactλU h=>hq _ _ h
 |load m a k ih=>exactλU ⟨v,hv,h⟩=>⟨v,hv,ih v U h⟩
 |store m a v k ih=>
  intro U h
  cases v<;>first|exact h.elim|exact⟨h.1,h.2.1,ih _ h.2.2⟩
 |new o k ih=>exactλU h b hb=>ih _ _ (h b hb)
 |shape r k ih=>exactλU h=>⟨h.1,ih _ _ h.2⟩
 |freeze a n k ih=>exactλU h=>⟨h.1,ih _ h.2⟩
 |frozen a k ih=>exactλU h=>⟨h.1,ih _ _ h.2⟩
 |getObj r k ih=>exactλU ⟨o,ho,hc,h⟩=>⟨o,ho,hc,ih _ _ h⟩
 |setObj r o k ih=>exactλU ⟨o',ho,hc,h⟩=>⟨o',ho,hc,ih _ h⟩
 |choose q k ih=>
  intro U h;unfold wpS at h|-;split
  ·rename_i hf;rw[if_pos hf]at h;exact ih _ _ h
  ·rename_i hf;rw[if_neg hf]at h;exactλt=>ih _ _ (h t)
 |sys c k ih=>exactλU h=>h.elim
 |program k ih=>exactλU h=>ih _ _ h
 |mark m k ih=>exactλU h=>⟨h.1,ih _ h.2⟩
 |halt h=>exactλU x=>hh _ _ x
def arV{β:Type}{Q:β->Hp->Prop}(f:α->Sem β):
 ∀(s:Sem α) (U:Hp),wpS P s (λa U=>wpS P (f a) Q H U) H U->wpS P (s.bind f) Q H U:=by
 intro s
 induction s with
 |pure a=>exactλU h=>h
 |load m a k ih=>exactλU ⟨v,hv,h⟩=>⟨v,hv,ih v U h⟩
 |store m a v k ih=>
  intro U h
  cases v<;>first|exact h.elim|exact⟨h.1,h.2.1,ih _ h.2.2⟩
 |new o k ih=>exactλU h b hb=>ih _ _ (h b hb)
 |shape r k ih=>exactλU h=>⟨h.1,ih _ _ h.2⟩
 |freeze a n k ih=>exactλU h=>⟨h.1,ih _ h.2⟩
 |frozen a k ih=>exactλU h=>⟨h.1,ih _ _ h.2⟩
 |getObj r k ih=>exactλU ⟨o,ho,hc,h⟩=>⟨o,ho,hc,ih _ _ h⟩
 |setObj r o k ih=>exactλU ⟨o',ho,hc,h⟩=>⟨o',ho,hc,ih _ h⟩
 |choose q k ih=>
  intro U h;unfold Sem.bind;unfold wpS at h|-;split
  ·rename_i hf;rw[if_pos hf]at h;exact ih _ _ h
  ·rename_i hf;rw[if_neg hf]at h;exactλt=>ih _ _ (h t)
 |sys c k ih=>exactλU h=>h.elim
 |program k ih=>exactλU h=>ih _ _ h
 |mark m k ih=>exactλU h=>⟨h.1,ih _ h.2⟩
 |halt h=>exactλU x=>x
def iD(au2:Nat->Prop)(n:Nat)(e:Event):Prop:=
 match e.loc with
 | .cell a=>¬au2 a.block/\a.block<n
 | .obj r=>¬au2 r/\r<n
 | .mark m=>BZ m=true
 |_=>False
variable {au2:Nat->Prop}
def iD.mono{n n':Nat}(h:n<=n'){e:Event}(he:iD au2 n e):iD au2 n' e:=by
 unfold iD at he|-
 cases hl:e.loc<;>rw[hl]at he<;>first|exact he|exact⟨he.1,by have:=he.2;omega⟩
structure Kept (au2:Nat->Prop) (w w':World):Prop where
 hidden:∀b,au2 b->w'.heap[b]? =w.heap[b]?
 os:w'.os=w.os
 tape:w'.tape=w.tape
 output:w'.output=w.output
 um:w.heap.size<=w'.heap.size
def Kept.refl(au2:Nat->Prop)(w:World):Kept au2 w w:=⟨λ_ _=>rfl,rfl,rfl,rfl,Nat.le_refl _⟩
def Kept.trans {au2:Nat->Prop}{a b c:World}(h:Kept au2 a b)(k:Kept au2 b c):Kept au2 a c:=
 ⟨λx hx=>(k.hidden x hx).trans (h.hidden x hx),k.os.trans h.os,k.tape.trans h.tape,k.output.trans h.output,Nat.le_trans h.um k.um⟩
variable {w:World}{b:Nat}{o:Obj}
def cR.sB(h:cR au2 w U)(hb:U.f b=some o):¬au2 b:=λhj=>by rw[h.fP b hj]at hb;cases hb
def cR.lt(h:cR au2 w U)(hb:U.f b=some o):b<w.heap.size:=(Array.getElem?_eq_some_iff.1 (h.heap hb)).1
def cR.iQ(h:cR au2 w U)(k:J.le U):cR au2 w J:=by
 refine⟨λhb=>h.heap (k _ _ hb),λb hj=>?_,h.low⟩
 cases hb:J.f b with
 |none=>rfl
 |some o=>have:=k b o hb;rw[h.fP b hj]at this;cases this
def AT{a:Addr}{v:Value}(h:U.cell? a=some v):∃c e z,U.f a.block=some (.cells c e z)/\a.spot=none/\c[a.off]? =some v:=by
 unfold Hp.cell? at h;split at h
 ·rename_i c e z hb;refine⟨c,e,z,hb,?_⟩;by_cases hs:a.spot.isSome=true
  ·rw[if_pos hs]at h;cases h
  ·rw[if_neg hs]at h;exact⟨aW hs,h⟩
 ·cases h
def cR.cell (h:cR au2 w U){a:Addr}{v:Value}(hc:U.cell? a=some v):w.cell? a=some v:=by obtain⟨c,e,z,hb,hs,hv⟩:=AT hc;simp[World.cell?,h.heap hb,hs,hv]
def cR.J9(h:cR au2 w U){a:Addr}(hb:U.f a.block=some o):w.frozen? a=U.frozen? a:=by simp only[World.frozen?,Hp.frozen?,h.heap hb,hb];rfl
def cR.VC(h:cR au2 w U){r:Nat}(hb:U.f r=some o):w.shape? r=U.shape? r:=by simp only[World.shape?,Hp.shape?,h.heap hb,hb];rfl
def cR.modify (h:cR au2 w U){b:Nat}{o:Obj}(hb:U.f b=some o)(g:Obj->Obj):cR au2 {w with heap:=w.heap.modify b g} (U.modify b g):=by
 refine⟨λ{x o'} hx=>?_,λx hx=>?_,λx hx=>by simpa using h.low x hx⟩
 ·simp only[Hp.modify]at hx;by_cases e:x=b
  ·subst e;rw[if_pos rfl,hb]at hx;rw[Array.getElem?_modify,if_pos rfl,h.heap hb];exact hx
  ·rw[if_neg e]at hx;rw[Array.getElem?_modify,if_neg (λz=>e z.symm)];exact h.heap hx
 ·simp only[Hp.modify];by_cases e:x=b
  ·subst e;exact absurd hx (h.sB hb)
  ·rw[if_neg e];exact h.fP x hx
def Kept.modify(h:cR au2 w U)(hb:U.f b=some o)(g:Obj->Obj):Kept au2 w {w with heap:=w.heap.modify b g}:=by refine⟨λx hx=>?_,rfl,rfl,rfl,al⟩;have:x≠b:=λe=>h.sB hb (e▸hx);simp only[Array.getElem?_modify];rw[if_neg (λz=>this z.symm)]
def cR.fresh(h:cR au2 w U):U.f w.heap.size=none:=by
 cases hb:U.f w.heap.size with
 |none=>rfl
 |some o=>exact absurd (h.lt hb) (Nat.lt_irrefl _)
def cR.push(h:cR au2 w U)(o:Obj):cR au2 {w with heap:=w.heap.push o} (U.set w.heap.size o):=by
 refine⟨λ{x o'} hx=>?_,λx hx=>?_,λx hx=>by have:=h.low x hx;simp;omega⟩
 ·simp only[Hp.set]at hx;by_cases e:x=w.heap.size
  ·subst e;rw[if_pos rfl]at hx;simpa using hx
  ·rw[if_neg e]at hx;have:=h.lt hx;simp only[Array.getElem?_push];rw[if_neg e];exact h.heap hx
 ·simp only[Hp.set];rw[if_neg (by have:=h.low x hx;omega)];exact h.fP x hx
def Kept.push(h:cR au2 w U)(o:Obj):Kept au2 w {w with heap:=w.heap.push o}:=by refine⟨λx hx=>?_,rfl,rfl,rfl,al⟩;have:=h.low x hx;simp only[Array.getElem?_push];rw[if_neg aa]
def cR.setObj(h:cR au2 w U)(hb:U.f b=some o)(o':Obj):cR au2 {w with heap:=w.heap.setIfInBounds b o'} (U.set b o'):=by
 have bl:b<w.heap.size:=h.lt hb;refine⟨λ{x bW} hx=>?_,λx hx=>?_,λx hx=>by simpa using h.low x hx⟩
 ·simp only[Hp.set]at hx;by_cases e:x=b
  ·subst e;rw[if_pos rfl]at hx;rw[<-hx];exact Array.getElem?_setIfInBounds_self_of_lt bl
  ·rw[if_neg e]at hx;show(w.heap.setIfInBounds b o')[x]? =_;rw[Array.getElem?_setIfInBounds_ne (λz=>e z.symm)];exact h.heap hx
 ·simp only[Hp.set];by_cases e:x=b
  ·subst e;exact absurd hx (h.sB hb)
  ·rw[if_neg e];exact h.fP x hx
def Kept.setObj(h:cR au2 w U)(hb:U.f b=some o)(o':Obj):Kept au2 w {w with heap:=w.heap.setIfInBounds b o'}:=by refine⟨λx hx=>?_,rfl,rfl,rfl,al⟩;have:x≠b:=λe=>h.sB hb (e▸hx);exact Array.getElem?_setIfInBounds_ne (λz=>this z.symm)
def cR.drew(h:cR au2 w U)(d:Nat):cR au2 {w with drawn:=d} U:=⟨h.heap,h.fP,h.low⟩
def mW(au2:Nat->Prop)(Q:α->Hp->Prop)(H:Halt->Hp->Prop)(w:World)(es:Array Event)(r:Result α×Array Event):Prop:=
 ∃(w':World) (ae:Hp) (bY:Array Event),r.2=es++bY/\cR au2 w' ae/\Kept au2 w w'/\(∀e∈bY,iD au2 w'.heap.size e)/\
  ((∃a,r.1=.ok a w'/\Q a ae)\/(∃h,r.1=.halt h w'/\H h ae))
variable {Q:α->Hp->Prop}{w₁:World}{es:Array Event}{r:Result α×Array Event}
def mW.step{es₁:Array Event}(hk:Kept au2 w w₁)(he:∀e∈es₁,iD au2 w₁.heap.size e)(h:mW au2 Q H w₁ (es++es₁) r):mW au2 Q H w es r:=by
 obtain⟨w',ae,bY,e1,hs,eF,gp,hr⟩:=h;refine⟨w',ae,es₁++bY,by rw[e1,Array.append_assoc],hs,hk.trans eF,λe hm=>?_,hr⟩;rcases Array.mem_append.1 hm with hm|hm
 ·exact(he e hm).mono eF.um
 ·exact gp e hm
def mW.step0(hk:Kept au2 w w₁)(h:mW au2 Q H w₁ es r):mW au2 Q H w es r:=
 mW.step (es₁:=#[]) hk al (aW h)
theorem push_eq_append(a:Array α)(x:α):a.push x=a++ #[x]:=al
theorem oL:
 ∀(s:Sem α) (w:World) (U:Hp) (es:Array Event),wpS P s Q H U->cR au2 w U->mW au2 Q H w es (s.runT P w es):=by
 intro s
 induction s with
 |pure a=>exactλw U es h hs=>⟨w,U,#[],by simp[Sem.runT],hs,.refl au2 w,al,.inl ⟨a,rfl,h⟩⟩
 |load m a k ih=>
  rintro w U es ⟨v,hv,h⟩ hs;have hw:=hs.cell hv;obtain⟨c,e,z,hb,_,_⟩:=AT hv;unfold Sem.runT;simp only[hw];rw[push_eq_append];refine mW.step (.refl au2 w) (λx hx=>?_) (ih v w U _ h hs);simp at hx;subst hx;exact⟨hs.sB hb,hs.lt hb⟩
 |store m a v k ih=>
  intro w U es h hs
  have key:(∃u,U.cell? a=some u)/\U.frozen? a=false/\wpS P k Q H (U.setCell a v)->(∀cs,v≠.agg cs)->(∀cs,v≠.tuple cs)->mW au2 Q H w es ((Sem.store m a v k).runT P w es):=by
   rintro⟨⟨u,hu⟩,hz,h⟩ h1 h2;have hw:=hs.cell hu;obtain⟨c,e,z,hb,_,_⟩:=AT hu;have gJ:w.frozen? a=false:=by rw[hs.J9 hb];exact hz
   have e1:(Sem.store m a v k).runT P w es=k.runT P (w.setCell a v) (es.push ⟨.cell a,true,m== .atomic⟩):=by cases v<;>first|exact absurd rfl (h1 _)|exact absurd rfl (h2 _)|simp[Sem.runT,hw,gJ]
   rw[e1,push_eq_append];have cU:cR au2 (w.setCell a v) (U.setCell a v):=hs.modify hb (y8 a v);have hk:Kept au2 w (w.setCell a v):=Kept.modify hs hb (y8 a v);refine mW.step hk (λx hx=>?_) (ih (w.setCell a v) (U.setCell a v) _ h cU);simp at hx;subst hx;exact⟨hs.sB hb,Nat.lt_of_lt_of_le (hs.lt hb) hk.um⟩
  cases v<;>first|exact h.elim|exact key h al al
 |new o k ih=>
  intro w U es h hs;unfold Sem.runT;exact mW.step0 (Kept.push hs o) (ih _ _ _ _ (h _ hs.fresh) (hs.push o))
 |shape r k ih=>
  rintro w U es ⟨hv,h⟩ hs;obtain⟨o,ho⟩:=Option.isSome_iff_exists.1 hv;unfold Sem.runT;rw[hs.VC ho];exact ih _ _ _ _ h hs
 |freeze a n k ih=>
  rintro w U es ⟨hv,h⟩ hs;obtain⟨o,ho⟩:=Option.isSome_iff_exists.1 hv;unfold Sem.runT;by_cases hn:n=0
  ·have e1:w.freeze a n=w:=by simp[World.freeze,hn]
   have e2:U.freeze a n=U:=by simp[Hp.freeze,hn]
   rw[e1];rw[e2]at h;exact ih _ _ _ h hs
  ·have e1:w.freeze a n={w with heap:=w.heap.modify a.block (Gf a n)}:=by simp only[World.freeze,hn,if_false];rfl
   have e2:U.freeze a n=U.modify a.block (Gf a n):=by simp[Hp.freeze,hn]
   rw[e1];rw[e2]at h;exact mW.step0 (Kept.modify hs ho _) (ih _ _ _ h (hs.modify ho _))
 |frozen a k ih=>
  rintro w U es ⟨hv,h⟩ hs;obtain⟨o,ho⟩:=Option.isSome_iff_exists.1 hv;unfold Sem.runT;rw[hs.J9 ho];exact ih _ _ _ _ h hs
 |getObj r k ih=>
  rintro w U es ⟨o,ho,hc,h⟩ hs;have hw:=hs.heap ho
  have e1:(Sem.getObj r k).runT P w es=(k o).runT P w (es.push ⟨.obj r,false,o.isChan⟩):=by cases o<;>first|(simp[BW]at hc;done)|(simp only[Sem.runT,hw])
  rw[e1,push_eq_append];refine mW.step (.refl au2 w) (λx hx=>?_) (ih _ _ _ _ h hs);simp at hx;subst hx;exact⟨hs.sB ho,hs.lt ho⟩
 |setObj r o k ih=>
  rintro w U es ⟨o',ho,hc,h⟩ hs;have hw:=hs.heap ho
  have e1:(Sem.setObj r o k).runT P w es=k.runT P {w with heap:=w.heap.setIfInBounds r o} (es.push ⟨.obj r,true,o.isChan⟩):=by cases o'<;>first|(simp[BW]at hc;done)|(simp only[Sem.runT,hw])
  rw[e1,push_eq_append];refine mW.step (Kept.setObj hs ho o) (λx hx=>?_) (ih _ _ _ h (hs.setObj ho o));simp at hx;subst hx;refine⟨hs.sB ho,?_⟩;have:=hs.lt ho;simpa using this
 |choose q k ih=>
  intro w U es h hs;unfold wpS at h;unfold Sem.runT;split
  ·rename_i hf;rw[if_pos hf]at h;exact ih _ _ _ _ h hs
  ·rename_i hf;rw[if_neg hf]at h;exact mW.step0 (w₁:={w with drawn:=w.drawn+1}) ⟨λ_ _=>rfl,rfl,rfl,rfl,Nat.le_refl _⟩ (ih _ _ _ _ (h _) (hs.drew _))
 |sys c k ih=>exactλw U es h=>h.elim
 |program k ih=>exactλw U es h hs=>ih _ w U es h hs
 |mark m k ih=>
  rintro w U es ⟨hm,h⟩ hs;unfold Sem.runT;rw[push_eq_append];refine mW.step (.refl au2 w) (λx hx=>?_) (ih _ _ _ h hs);simp at hx;subst hx;exact hm
 |halt h=>exactλw U es x hs=>⟨w,U,#[],by simp[Sem.runT],hs,.refl au2 w,al,.inr ⟨h,rfl,x⟩⟩
def bj{a c d:Nat}{x y:Option Obj}(h:U.f c=x)(k:U.f d=y)(e:x=y->False:=by intro e;cases e)(o:(a=c/\b=d)\/(a=d/\b=c):=by first|exact .inl ⟨rfl,rfl⟩|exact .inr ⟨rfl,rfl⟩):a≠b:=λz=>e (by rcases o with⟨u,v⟩|⟨u,v⟩<;>subst u<;>subst v<;>rw[<-h,<-k,z])
def ao:U.le U:=Hp.le_refl _
section
open Go.Conc
def gZ(P:Program)(main:Bool)(g:Goroutine)(U:Hp)(X:Goroutine->Hp->Prop):Prop:=
 ∀au2 w,cR au2 w U->(stepG P main g w).goes λg' w' es=>∃ae,cR au2 w' ae/\Kept au2 w w'/\(∀e∈es,iD au2 w'.heap.size e)/\g'.status=.running/\X g' ae
structure Env (P:Program) where
 main:Bool
 st:Goroutine->Hp->Machine->Trace->Prop
 iQ:∀{g U J m T},st g U m T->J.le U->st g J m T
 own:∀g U m T (X:Goroutine->Hp->Prop),st g U m T->g.status=.running->gZ P main g U X->
  ∃N m' T' g' ae,runNT P N m T=(.next m',T')/\st g' ae m' T'/\g'.status=.running/\X g' ae
section
variable {au2:Nat->Prop}{w:World}{U:Hp}
variable {P:Program}(E:Env P)
def ax (g:Goroutine)(U:Hp)(S:Goroutine->Hp->Prop):Prop:=
 ∀m T,E.st g U m T->∃N m' T' g' ae,runNT P N m T=(.next m',T')/\E.st g' ae m' T'/\S g' ae
variable {E}
def ax.here {g:Goroutine}{U:Hp}{S:Goroutine->Hp->Prop}(h:S g U):ax E g U S:=
 λm T hm=>⟨0,m,T,g,U,rfl,hm,h⟩
def ax.bind {g:Goroutine}{U:Hp}{S S':Goroutine->Hp->Prop}(h:ax E g U S)(k:∀g' ae,S g' ae->ax E g' ae S'):ax E g U S':=by intro m T hm;obtain⟨N,m',T',g',ae,h1,h2,h3⟩:=h m T hm;obtain⟨N',pz,oO,C7,gA,k1,k2,k3⟩:=k g' ae h3 m' T' h2;exact⟨N+N',pz,oO,C7,gA,runNT_then h1 k1,k2,k3⟩
def ax.iQ {g:Goroutine}{U J:Hp}{S:Goroutine->Hp->Prop}(h:ax E g J S)(k:J.le U):ax E g U S:=
 λm T hm=>h m T (E.iQ hm k)
def ax.mono {g:Goroutine}{U:Hp}{S S':Goroutine->Hp->Prop}(h:ax E g U S)(k:∀g' ae,S g' ae->S' g' ae):ax E g U S':=
 h.bind λg' ae x=>ax.here (k g' ae x)
def ax.step {g:Goroutine}{U:Hp}{S:Goroutine->Hp->Prop}{X:Goroutine->Hp->Prop}(hr:g.status=.running)(h:gZ P E.main g U X)(k:∀g' ae,X g' ae->ax E g' ae S):ax E g U S:=by intro m T hm;obtain⟨N,m',T',g',ae,h1,h2,_,h3⟩:=E.own g U m T X hm hr h;obtain⟨N',pz,oO,C7,gA,k1,k2,k3⟩:=k g' ae h3 m' T' h2;exact⟨N+N',pz,oO,C7,gA,runNT_then h1 k1,k2,k3⟩
def gZ.ctl {main:Bool}{g g':Goroutine}{U:Hp}{X:Goroutine->Hp->Prop}(h:∀w,stepG P main g w=.go g' w)(hr:g'.status=.running)(hX:X g' U):gZ P main g U X:=by intro au2 w hs;rw[h w];exact⟨U,hs,.refl au2 w,al,hr,hX⟩
def ax.ctl {g g':Goroutine}{U:Hp}{S:Goroutine->Hp->Prop}(h:∀w,stepG P E.main g w=.go g' w)(hr:g.status=.running)(eX:g'.status=.running)(k:ax E g' U S):ax E g U S:=
 ax.step (X:=λs9 rI=>s9=g'/\rI=U) hr (gZ.ctl h eX ⟨rfl,rfl⟩) (λ_ _ ⟨e1,e2⟩=>by subst e1;subst e2;exact k)
def gZ.mono {main:Bool}{g:Goroutine}{U:Hp}{X Y:Goroutine->Hp->Prop}(h:gZ P main g U X)(k:∀g' ae,X g' ae->Y g' ae):gZ P main g U Y:=by
 intro au2 w hs;have:=h au2 w hs
 cases hg:stepG P main g w<;>rw[hg]at this<;>first|exact this.elim|skip
 obtain⟨ae,h1,h2,h3,h4,h5⟩:=this;exact⟨ae,h1,h2,h3,h4,k _ _ h5⟩
end
def pK(V:Value->Hp->Prop)(D:Deferred->Hp->Prop)(C:FuncId->Array Value->Hp->Prop):Next->Hp->Prop
 | .value v,U=>V v U
 | .skip,U=>V undef U
 | .defer d,U=>D d U
 | .enter f args,U=>C f args U
 |_,_=>False
def sL(Pn:Value->Hp->Prop):Halt->Hp->Prop
 | .panic v,U=>Pn v U
 |_,_=>False
variable {main:Bool}{b:Frame}{a:Act}{k:List Item}{cs:List Frame}
def Nr{ops:Array Oper}{i:Nat}{rest:List Nat}{o:Oper}(ho:ops[i]? =some o)(hw:Region.wanted o (yielded ops a.tmps)=true)(hk:b.kind≠.early){V:Value->Hp->Prop}{D:Deferred->Hp->Prop}{C:FuncId->Array Value->Hp->Prop}{Pn:Value->Hp->Prop}(h:wpS P (execOp a.eval o) (pK V D C) (sL Pn) U):
 gZ P main (G (b.at a (.inRegion ops (i::rest)::k)) cs) U λg ae=>
  (∃v,V v ae/\g=G (b.at (a.put o.dst v) (.inRegion ops rest::k)) cs)\/
  (∃d,D d ae/\g=G (b.at ({a with defers:=d::a.defers}.put o.dst undef) (.inRegion ops rest::k)) cs)\/
  (∃f args,C f args ae/\g=G (Frame.enter P f args .normal) (b.at a (.inRegion ops (i::rest)::k)::cs))\/
  (∃v,Pn v ae/\g=G ((b.at a (.inRegion ops (i::rest)::k)).raise [{v,recovered:=false}]) cs):=by
 intro au2 w hs
 have fC:∀v,(b.at a (.inRegion ops (i::rest)::k)).finish v=b.at (a.put o.dst v) (.inRegion ops rest::k):=by intro v;rw[Frame.finish_at,ho];rfl
 have ou:(b.kind==CallKind.early)=false:=aW hk;obtain⟨w',ae,bY,e1,cU,eF,gp,hr⟩:=oL (execOp a.eval o) w U #[] h hs;have gF:((execOp a.eval o).runT P w #[]).2=bY:=by simpa using e1
 rw[stepG_oper ho hw];have iJ:∀e∈seen P b.fn bY,iD au2 w'.heap.size e:=λe he=>gp e (mem_seen he);rcases hr with⟨nx,hn,hq⟩|⟨hh,hn,hq⟩
 ·have e2:(execOp a.eval o).runT P w #[]=(.ok nx w',bY):=Prod.ext hn gF
  cases nx<;>first|exact hq.elim|skip
  ·rename_i v
   have:stepG.apply P true (b.at a (.inRegion ops (i::rest)::k)) cs none (execOp a.eval o) w=.go (G (b.at (a.put o.dst v) (.inRegion ops rest::k)) cs) w' (seen P b.fn bY):=by rw[<-fC];simp[stepG.apply,-Sem.runT_eq,e2,G,Frame.at,ou,GStep.after]
   rw[this];exact⟨ae,cU,eF,iJ,rfl,.inl ⟨v,hq,rfl⟩⟩
  ·have:stepG.apply P true (b.at a (.inRegion ops (i::rest)::k)) cs none (execOp a.eval o) w=.go (G (b.at (a.put o.dst undef) (.inRegion ops rest::k)) cs) w' (seen P b.fn bY):=by rw[<-fC];simp[stepG.apply,-Sem.runT_eq,e2,G,Frame.at,ou,GStep.after]
   rw[this];exact⟨ae,cU,eF,iJ,rfl,.inl ⟨undef,hq,rfl⟩⟩
  ·rename_i f args
   have:stepG.apply P true (b.at a (.inRegion ops (i::rest)::k)) cs none (execOp a.eval o) w=.go (G (Frame.enter P f args .normal) (b.at a (.inRegion ops (i::rest)::k)::cs)) w' (seen P b.fn bY):=by simp[stepG.apply,-Sem.runT_eq,e2,G,Frame.at,ou,GStep.after]
   rw[this];exact⟨ae,cU,eF,iJ,rfl,.inr (.inr (.inl ⟨f,args,hq,rfl⟩))⟩
  ·rename_i d
   have DF:({b.at a (.inRegion ops (i::rest)::k)with defers:=d::a.defers}:Frame).finish undef=b.at ({a with defers:=d::a.defers}.put o.dst undef) (.inRegion ops rest::k):=by have:=Frame.finish_at b {a with defers:=d::a.defers} ops i rest k undef;rw[ho]at this;exact this
   have:stepG.apply P true (b.at a (.inRegion ops (i::rest)::k)) cs none (execOp a.eval o) w=.go (G (b.at ({a with defers:=d::a.defers}.put o.dst undef) (.inRegion ops rest::k)) cs) w' (seen P b.fn bY):=by rw[<-DF];simp[stepG.apply,-Sem.runT_eq,e2,G,Frame.at,ou,GStep.after]
   rw[this];exact⟨ae,cU,eF,iJ,rfl,.inr (.inl ⟨d,hq,rfl⟩)⟩
 ·have e2:(execOp a.eval o).runT P w #[]=(.halt hh w',bY):=Prod.ext hn gF
  cases hh<;>first|exact hq.elim|skip
  rename_i v
  have:stepG.apply P true (b.at a (.inRegion ops (i::rest)::k)) cs none (execOp a.eval o) w=.go (G ((b.at a (.inRegion ops (i::rest)::k)).raise [{v,recovered:=false}]) cs) w' (seen P b.fn bY):=by simp[stepG.apply,-Sem.runT_eq,e2,G,Frame.at,ou,GStep.after]
  rw[this];exact⟨ae,cU,eF,iJ,rfl,.inr (.inr (.inr ⟨v,hq,rfl⟩))⟩
abbrev av:=Nat->Value
def up(I:av)(d:Nat)(v:Value)(t:Nat):Value:=if t=d then v else I t
def aB(I:av):Option Tmp->Value->av
 |some d,v=>up I d v
 |none,_=>I
def pD(N:Nat):Option Tmp->Bool
 |some d=>decide (d<N)
 |none=>true
def ak(I:av):Operand->Value
 | .tmp t=>I t
 | .const v=>v
 | .global g=>pV g
 | .func f=>.func (.func f) #[] #[]
def CJ:Value->Option Bool
 | .bool b=>some b
 |_=>none
def gX(N:Nat)(ops:Array Oper)(I:av)(j:Nat):Option Bool:=
 match(ops[j]?).bind (·.dst)with
 |some d=>if d<N then CJ (I d)else none
 |none=>none
structure cM (N:Nat) (a:Act) (I:av) (ds:List Deferred):Prop where
 size:a.tmps.size=N
 defers:a.defers=ds
 tmps:∀t,a.tmps.getD t undef=I t
variable {N:Nat}{I:av}{ds:List Deferred}
def cM.eval (h:cM N a I ds):a.eval=ak I:=by
 funext x
 cases x<;>simp only[Act.eval,ak]
 exact h.tmps _
def cM.yI(h:cM N a I ds)(ops:Array Oper):yielded ops a.tmps=gX N ops I:=by
 funext j
 unfold yielded gX
 cases(ops[j]?).bind (·.dst)with
 |none=>rfl
 |some d=>
  simp only[Option.bind_some];by_cases hd:d<N
  ·rw[if_pos hd];have jH:d<a.tmps.size:=by rw[h.size];exact hd
   have:=h.tmps d;rw[Array.getD_eq_getD_getElem?,Array.getElem?_eq_getElem jH,Option.getD_some]at this;rw[Array.getElem?_eq_getElem jH,this]
   cases I d<;>rfl
  ·rw[if_neg hd];rw[Array.getElem?_eq_none (by rw[h.size];exact Nat.le_of_not_lt hd)]
def cM.put (h:cM N a I ds){dst:Option Tmp}(hd:pD N dst=true)(v:Value):cM N (a.put dst v) (aB I dst v) ds:=by
 cases dst with
 |none=>exact h
 |some d=>
  have jH:d<N:=of_decide_eq_true hd;refine⟨by simp[Act.put,h.size],h.defers,λt=>?_⟩;simp only[Act.put,aB,up];have:=h.tmps t;rw[Array.getD_eq_getD_getElem?]at this|-;by_cases e:t=d
  ·subst e;rw[if_pos rfl,Array.getElem?_setIfInBounds_self_of_lt (by rw[h.size];exact jH)];rfl
  ·rw[if_neg e,Array.getElem?_setIfInBounds_ne (λz=>e z.symm)];exact this
def cM.defer(h:cM N a I ds)(d:Deferred):cM N {a with defers:=d::a.defers} I (d::ds):=⟨h.size,by simp[h.defers],h.tmps⟩
inductive Fin where
 |returned (v:Value)
 |panicked (chain:List PanicEntry)
inductive Ex where
 |normal
 |exit (id:Nat)
 |ret
 |panic (chain:List PanicEntry)
def Ca(fn:Func)(I:av):Sem Value:=do
 let vs<-fn.results.mapM λ
  | .tmp t=>pure (I t)
  | .cell a t=>do loadVar t (<-asAddr (I a))
 pure (if h:vs.size=1 then vs[0]else .tuple vs)
def Leaving(P:Program)(fr:Frame)(U:Hp):Fin->Prop
 | .returned v=>fr.mode=.returning/\fr.defers=[]/\fr.kind=.normal/\∃fn,P.funcs[fr.fn]? =some fn/\wpS P (results fn fr.tmps) (λv' ae=>v'=v/\ae=U) (λ_ _=>False) U
 | .panicked chain=>fr.mode=.panicking chain/\fr.defers=[]/\∃fn,P.funcs[fr.fn]? =some fn
section
variable {U:Hp}
variable {P:Program}(E:Env P)
def ay (f:FuncId)(args:Array Value)(U:Hp)(R:Fin->Hp->Prop):Prop:=
 ∀cs,ax E (G (Frame.enter P f args .normal) cs) U λg ae=>∃e fr,g=G fr cs/\fr.fn=f/\Leaving P fr ae e/\R e ae
def ay.mono {E:Env P}{f:FuncId}{args:Array Value}{U:Hp}{R R':Fin->Hp->Prop}(h:ay E f args U R)(k:∀e ae,R e ae->R' e ae):ay E f args U R':=
 λcs=>(h cs).mono λ_ _ ⟨e,fr,h1,h0,h2,h3⟩=>⟨e,fr,h1,h0,h2,k _ _ h3⟩
abbrev Rv (v:Value)(U:Hp):Fin->Hp->Prop:=λe J=>e=.returned v/\J=U
abbrev Post:=Ex->av->List Deferred->Hp->Prop
def yr (nx:Value->Hp->Prop)(pn:List PanicEntry->Hp->Prop):Fin->Hp->Prop
 | .returned v,U=>nx v U
 | .panicked ch,U=>pn ch U
def wpOp (o:Oper)(I:av)(ds:List Deferred)(U:Hp)(nx:av->List Deferred->Hp->Prop)(pn:List PanicEntry->Hp->Prop):Prop:=
 wpS P (execOp (ak I) o) (pK (λv ae=>nx (aB I o.dst v) ds ae) (λd ae=>nx (aB I o.dst undef) (d::ds) ae)
  (λf args ae=>ay E f args ae (yr (λv gA=>nx (aB I o.dst v) ds gA) pn)))
  (sL λv ae=>pn [{v,recovered:=false}] ae) U
end
variable {E:Env P}{fr c:Frame}{v:Value}{S:Goroutine->Hp->Prop}
def aj2(h:Leaving P fr U (.returned v))(k:ax E (G (c.finish v) cs) U S):ax E (G fr (c::cs)) U S:=by
 obtain⟨hm,hd,hk,fn,hf,hr⟩:=h;refine ax.step (X:=λs9 rI=>s9=G (c.finish v) cs/\rI=U) rfl (λau2 w hs=>?_) (λ_ _ ⟨e1,e2⟩=>by subst e1;subst e2;exact k);obtain⟨w',ae,bY,e1,cU,eF,gp,fp⟩:=oL (results fn fr.tmps) w U #[] hr hs;rcases fp with⟨v',hn,rfl,rfl⟩|⟨_,_,hf⟩
 ·have gF:((results fn fr.tmps).runT P w #[]).2=bY:=by simpa using e1
  have e2:(results fn fr.tmps).runT P w #[]=(.ok v' w',bY):=Prod.ext hn gF
  have:stepG P E.main (G fr (c::cs)) w=.go (G (c.finish v') cs) w' (seen P fr.fn bY):=by simp[G,stepG,hm,unwind,hd,hf,-Sem.runT_eq,e2,doReturn,hk,GStep.after]
  rw[this];exact⟨_,cU,eF,λe he=>gp e (mem_seen he),rfl,rfl,rfl⟩
 ·exact hf.elim
def aj1{chain:List PanicEntry}(h:Leaving P fr U (.panicked chain))(k:ax E (G (c.raise chain) cs) U S):ax E (G fr (c::cs)) U S:=by obtain⟨hm,hd,fn,hf⟩:=h;refine ax.ctl (g':=G (c.raise chain) cs) (λw=>?_) rfl rfl k;simp[G,stepG,hm,unwind,hd,Frame.catches,hf]
variable {args:Array Value}
def ay.run{f:FuncId}{R:Fin->Hp->Prop}(h:ay E f args U R)(hv:∀v ae,R (.returned v) ae->ax E (G (c.finish v) cs) ae S)(hp:∀ch ae,R (.panicked ch) ae->ax E (G (c.raise ch) cs) ae S):ax E (G (Frame.enter P f args .normal) (c::cs)) U S:=by
 refine(h (c::cs)).bind ?_;rintro g ae ⟨e,fr,rfl,_,hl,hR⟩
 cases e with
 |returned v=>exact aj2 hl (hv v ae hR)
 |panicked ch=>exact aj1 hl (hp ch ae hR)
theorem bt(a:α):wpS P (pure a:Sem α) Q H U=Q a U:=rfl
variable {β:Type}{R:β->Hp->Prop}
theorem aG(s:Sem α)(f:α->Sem β):wpS P (s>>=f) R H U=wpS P s (λa U=>wpS P (f a) R H U) H U:=by
 apply propext;constructor
 ·show wpS P (s.bind f) R H U->_
  induction s generalizing U with
  |pure a=>exactλh=>h
  |load m a k ih=>exactλ⟨v,hv,h⟩=>⟨v,hv,ih v h⟩
  |store m a v k ih=>
   intro h
   cases v<;>first|exact h.elim|exact⟨h.1,h.2.1,ih h.2.2⟩
  |new o k ih=>exactλh b hb=>ih _ (h b hb)
  |shape r k ih=>exactλh=>⟨h.1,ih _ h.2⟩
  |freeze a n k ih=>exactλh=>⟨h.1,ih h.2⟩
  |frozen a k ih=>exactλh=>⟨h.1,ih _ h.2⟩
  |getObj r k ih=>exactλ⟨o,ho,hc,h⟩=>⟨o,ho,hc,ih _ h⟩
  |setObj r o k ih=>exactλ⟨o',ho,hc,h⟩=>⟨o',ho,hc,ih h⟩
  |choose q k ih=>
   intro h;unfold Sem.bind at h;unfold wpS at h|-;split
   ·rename_i hf;rw[if_pos hf]at h;exact ih _ h
   ·rename_i hf;rw[if_neg hf]at h;exactλt=>ih _ (h t)
  |sys c k ih=>exactλh=>h.elim
  |program k ih=>exactλh=>ih _ h
  |mark m k ih=>exactλh=>⟨h.1,ih h.2⟩
  |halt h=>exactλx=>x
 ·exact arV f s U
theorem ar0(s:Sem α)(f:α->β):wpS P (f<$>s) R H U=wpS P s (λa U=>R (f a) U) H U:=aG s (λa=>pure (f a))
def Av{Q:Program->Hp->Prop}:wpS P program Q H U=Q P U:=rfl
def Wp(a:Addr)(m:Mode){Q:Value->Hp->Prop}:wpS P (load a m) Q H U=∃v,U.cell? a=some v/\Q v U:=rfl
def yH(o:Obj){Q:Nat->Hp->Prop}:wpS P (newObj o) Q H U=∀b,U.f b=none->Q b (U.set b o):=rfl
def oK(r:Nat){Q:Obj->Hp->Prop}:wpS P (getObj r) Q H U=∃o,U.f r=some o/\BW o=true/\Q o U:=rfl
def tW(r:Nat)(o:Obj){Q:Unit->Hp->Prop}:wpS P (setObj r o) Q H U=∃o',U.f r=some o'/\BW o'=true/\Q () (U.set r o):=rfl
def Aw(r:Nat){Q:Option (TypeId×Nat)->Hp->Prop}:wpS P (shape r) Q H U=((U.f r).isSome=true/\Q (U.shape? r) U):=rfl
def II(a:Addr){Q:Bool->Hp->Prop}:wpS P (frozen a) Q H U=((U.f a.block).isSome=true/\Q (U.frozen? a) U):=rfl
def Wo(a:Addr)(n:Nat){Q:Unit->Hp->Prop}:wpS P (freeze a n) Q H U=((U.f a.block).isSome=true/\Q () (U.freeze a n)):=rfl
def IH(q:Question){Q:Nat->Hp->Prop}:wpS P (choose q) Q H U=if q.forced then Q 0 U else∀t,Q (q.cut t) U:=rfl
def NT(m:Mark){Q:Unit->Hp->Prop}:wpS P (mark m) Q H U=(BZ m=true/\Q () U):=rfl
def eu(t:TypeId){Q:TypeDesc->Hp->Prop}:wpS P (underlying t) Q H U=match P.underlying t with|some d=>Q d U|none=>H (.stuck "no such type") U:=by
 simp only[underlying,aG,Av]
 cases P.underlying t<;>rfl
def gl(t:TypeId){Q:TypeInfo->Hp->Prop}:wpS P (typeInfo t) Q H U=match P.info? t with|some i=>Q i U|none=>H (.stuck "no such type") U:=by
 simp only[typeInfo,aG,Av]
 cases P.info? t<;>rfl
def dp:Value->Bool
 | .agg _| .tuple _=>false
 |_=>true
def ar1{Q:Unit->Hp->Prop}(a:Addr)(v:Value)(h:dp v=true):
 wpS P (store a v) Q H U=((∃u,U.cell? a=some u)/\U.frozen? a=false/\Q () (U.setCell a v)):=by
 cases v<;>first|rfl|cases h
def dD(P:Program)(t:TypeId):Bool:=match P.underlying t with|some (.struct _)|some (.array _ _)=>true|_=>false
def dt(P:Program)(t:TypeId):Bool:=(P.underlying t).isSome&&(P.info? t).isSome
def cD(P:Program)(t:TypeId):Nat:=match P.info? t with|some i=>i.size|none=>0
def dv(P:Program)(t:TypeId):Option Value:=match P.info? t with|some i=>i.zero|none=>none
def bM(P:Program)(s:TypeId)(f:Nat):Option Nat:=
 match P.underlying s with
 |some (.struct fs)=>match fs[f]? with
  |some x=>if(P.info? x.type).isSome&&cD P x.type !=0 then some x.offset else none
  |none=>none
 |_=>none
def tR(P:Program)(t:TypeId):Option TypeId:=match P.underlying t with|some (.slice e)=>some e|_=>none
def cellsOf(U:Hp)(a:Addr)(n:Nat):Option (Array Value):=
 match U.f a.block with
 |some (.cells c _ _)=>if a.spot=none/\a.off+n<=c.size then some (c.extract a.off (a.off+n))else none
 |_=>none
variable {a:Addr}
def Addr.FX(h:a.spot=none)(i:Nat):a.add i=⟨a.block,a.off+i,none⟩:=by
 obtain⟨b,o,s⟩:=a;simp only at h;subst h;unfold Addr.add;split
 ·rename_i h;subst h;simp
 ·rfl
variable {c:Array Value}{e:TypeId}{z:Nat×Nat}
def IJ(hb:U.f a.block=some (.cells c e z))(hs:a.spot=none)(n:Nat):
 ∀(i:Nat) (acc:Array Value) (Q:Array Value->Hp->Prop),a.off+i+n<=c.size->Q (acc++c.extract (a.off+i) (a.off+i+n)) U->wpS P (loadCellsFrom a i n acc) Q H U:=by
 induction n with
 |zero=>
  intro i acc Q _ h
  have e:acc++c.extract (a.off+i) (a.off+i+0)=acc:=by apply Array.ext';simp only[Array.toList_append,Array.toList_extract,List.extract_eq_take_drop];simp
  rw[e]at h;exact h
 |succ n ih=>
  intro i acc Q bl h
  have hc:U.cell? (a.add i)=some c[a.off+i]:=by rw[Addr.FX hs];simp[Hp.cell?,hb]
  simp only[loadCellsFrom,aG,Wp];refine⟨_,hc,ih (i+1) _ Q aa ?_⟩
  have:acc.push c[a.off+i]++c.extract (a.off+(i+1)) (a.off+(i+1)+n)=acc++c.extract (a.off+i) (a.off+i+(n+1)):=by
   apply Array.ext';simp only[Array.toList_append,Array.toList_push,Array.toList_extract,List.append_assoc];congr 1;simp only[List.extract_eq_take_drop,List.singleton_append];rw[show a.off+(i+1)+n-(a.off+(i+1))=n by omega,show a.off+i+(n+1)-(a.off+i)=n+1 by omega]
   have hd:List.drop (a.off+i) c.toList=c[a.off+i]::List.drop (a.off+(i+1)) c.toList:=by rw[List.drop_eq_getElem_cons (by simpa using(by omega:a.off+i<c.size))];simp[Nat.add_assoc]
   rw[hd,List.take_succ_cons]
  rw[this];exact h
def oD(P:Program)(t:TypeId)(a:Addr)(U:Hp)(k:Value->Prop):Prop:=
 if dD P t then match cellsOf U a (cD P t)with
  |some cs=>k (.agg cs)
  |none=>False
 else match U.cell? a with
  |some v=>k v
  |none=>False
variable {t:TypeId}
def wT{Q:Value->Hp->Prop}(ht:dt P t=true)(h:oD P t a U (λv=>Q v U)):wpS P (loadVar t a) Q H U:=by
 unfold dt at ht;simp only[Bool.and_eq_true,Option.isSome_iff_exists]at ht;obtain⟨⟨d,hd⟩,⟨i,hi⟩⟩:=ht;unfold oD dD at h;simp only[loadVar,isAgg,aG,eu,hd]
 have key:∀(b:Bool),(if b=true then(match cellsOf U a (cD P t)with|some cs=>Q (.agg cs) U|none=>False)else(match U.cell? a with|some v=>Q v U|none=>False))->
  wpS P (if b=true then(do pure (.agg (<-loadCells a (<-sizeOf t))))else load a:Sem Value) Q H U:=by
  intro b hh
  cases b with
  |true=>
   simp only[if_true]at hh|-;simp only[sizeOf,aG,gl,hi,bt];unfold cellsOf at hh;split at hh
   ·rename_i cs qT;split at qT
    ·rename_i c e z hb;split at qT
     ·rename_i bl;obtain rfl:=Option.some.inj qT;refine IJ hb bl.1 _ 0 #[] _ (by have:=bl.2;simpa[cD,hi]using this) ?_;have e1:cD P t=i.size:=by simp[cD,hi]
      rw[e1]at hh;simpa using hh
     ·cases qT
    ·cases qT
   ·exact hh.elim
  |false=>
   simp only[Bool.false_eq_true,if_false]at hh|-;simp only[Wp];split at hh
   ·rename_i v hv;exact⟨v,hv,hh⟩
   ·exact hh.elim
 rw[hd]at h
 cases d<;>simp only[bt]at h|-<;>first|exact key true h|exact key false h
def Hp.ext'(hf:∀b,U.f b=J.f b):U=J:=by obtain⟨f⟩:=U;obtain⟨g⟩:=J;have:f=g:=funext hf;subst this;rfl
variable {b:Nat}
def Hp.modify_eq(hb:U.f b=some o)(g:Obj->Obj):U.modify b g=U.set b (g o):=
 Hp.ext' λx=>by simp only[Hp.modify,Hp.set,hb,Option.map_some]
def Hp.set_set(b:Nat)(o o':Obj):(U.set b o).set b o'=U.set b o':=
 Hp.ext' λx=>by simp only[Hp.set];split<;>rfl
def Hp.Ii(hb:U.f b=some o):U.set b o=U:=
 Hp.ext' λx=>by
  simp only[Hp.set];split
  ·rename_i h;rw[h,hb]
  ·rfl
def Hp.bD(b:Nat)(o:Obj):(U.set b o).f b=some o:=by simp[Hp.set]
def Hp.aO{x:Nat}(o:Obj)(h:x≠b):(U.set b o).f x=U.f x:=by simp[Hp.set,h]
def apq(hb:U.f a.block=some (.cells c e z))(hs:a.spot=none):U.setCell a v=U.set a.block (.cells (c.setIfInBounds a.off v) e z):=by unfold Hp.setCell;rw[Hp.modify_eq hb];simp[y8,hs]
def vz(P:Program)(t:TypeId)(a:Addr)(v:Value)(U:Hp)(k:Hp->Prop):Prop:=
 match U.f a.block with
 |some (.cells c e z)=>
  if dp v then a.spot=none/\a.off<c.size/\z=(0,0)/\cD P t=1/\k (U.set a.block (.cells (c.setIfInBounds a.off v) e z))
  else a.spot=none/\a.off+v.cells.size<=c.size/\z=(0,0)/\cD P t=v.cells.size/\v.cells.all dp=true/\
   k (U.set a.block (.cells (c.extract 0 a.off++v.cells++c.extract (a.off+v.cells.size) c.size) e z))
 |_=>False
def Fu(hs:a.spot=none)(vs:List Value):
 ∀(i:Nat) (c:Array Value) (U:Hp) (Q:Unit->Hp->Prop),U.f a.block=some (.cells c e (0,0))->a.off+i+vs.length<=c.size->vs.all dp=true->
  Q () (U.set a.block (.cells (c.extract 0 (a.off+i)++vs.toArray++c.extract (a.off+i+vs.length) c.size) e (0,0)))->wpS P (storeCells a vs i) Q H U:=by
 induction vs with
 |nil=>
  intro i c U Q hb bl _ h;simp only[storeCells,bt]
  have e1:c.extract 0 (a.off+i)++([]:List Value).toArray++c.extract (a.off+i+([]:List Value).length) c.size=c:=by apply Array.ext';simp only[Array.toList_append,Array.toList_extract,List.extract_eq_take_drop,Nat.sub_zero,List.drop_zero,List.append_nil,List.length_nil,Nat.add_zero];rw[List.take_of_length_le (l:=List.drop (a.off+i) c.toList) al];exact List.take_append_drop _ _
  rw[e1,Hp.Ii hb]at h;exact h
 |cons v vs ih=>
  intro i c U Q hb bl lU h;simp only[List.all_cons,Bool.and_eq_true]at lU;simp only[List.length_cons]at bl;simp only[storeCells,aG];rw[ar1 _ _ lU.1,Addr.FX hs];have dJ:U.f (⟨a.block,a.off+i,none⟩:Addr).block=some (.cells c e (0,0)):=hb;have zB:a.off+i<c.size:=aa;refine⟨⟨c[a.off+i],by simp[Hp.cell?,hb,zB]⟩,by simp[Hp.frozen?,hb],?_⟩;rw[apq dJ rfl];refine ih (i+1) (c.setIfInBounds (a.off+i) v) _ Q (Hp.bD _ _) (by simp;omega) lU.2 ?_;rw[Hp.set_set]
  have e1:(c.setIfInBounds (a.off+i) v).extract 0 (a.off+(i+1))++vs.toArray++(c.setIfInBounds (a.off+i) v).extract (a.off+(i+1)+vs.length) (c.setIfInBounds (a.off+i) v).size=c.extract 0 (a.off+i)++(v::vs).toArray++c.extract (a.off+i+(v::vs).length) c.size:=by
   apply Array.ext';simp only[Array.toList_append,Array.toList_extract,Array.toList_setIfInBounds,List.extract_eq_take_drop,Nat.sub_zero,List.drop_zero,Array.size_setIfInBounds,List.length_cons]
   have h1:List.take (a.off+(i+1)) (c.toList.set (a.off+i) v)=List.take (a.off+i) c.toList++[v]:=by rw[show a.off+(i+1)=(a.off+i)+1 by omega,List.take_succ_eq_append_getElem (aW zB)];rw[List.take_set_of_le (Nat.le_refl _)];simp
   have h2:List.drop (a.off+(i+1)+vs.length) (c.toList.set (a.off+i) v)=List.drop (a.off+i+(vs.length+1)) c.toList:=by rw[List.drop_set_of_lt aa,show a.off+(i+1)+vs.length=a.off+i+(vs.length+1)by omega]
   rw[h1,h2,show c.size-(a.off+(i+1)+vs.length)=c.size-(a.off+i+(vs.length+1))by omega];simp
  rw[e1];exact h
def PT(h:dp v=true):v.cells= #[v]:=by cases v<;>first|rfl|cases h
def Nq{Q:Unit->Hp->Prop}(ht:dt P t=true)(h:vz P t a v U (λae=>Q () ae)):wpS P (storeVar t a v) Q H U:=by
 unfold dt at ht;simp only[Bool.and_eq_true,Option.isSome_iff_exists]at ht;obtain⟨_,⟨i,hi⟩⟩:=ht;unfold vz at h;split at h
 ·rename_i c e z hb;have gQ:cD P t=i.size:=by simp[cD,hi]
  simp only[storeVar,sizeOf,aG,gl,hi,bt];split at h
  ·rename_i hv;obtain⟨hs,bl,rfl,h1,hk⟩:=h;rw[PT hv];rw[if_neg (by simp;omega)];simp only[bt];refine Fu hs [v] 0 c U _ hb (by simp;omega) (by simp[hv]) ?_
   have e1:c.extract 0 (a.off+0)++[v].toArray++c.extract (a.off+0+[v].length) c.size=c.setIfInBounds a.off v:=by apply Array.ext';simp only[Array.toList_append,Array.toList_extract,Array.toList_setIfInBounds,List.extract_eq_take_drop,Nat.sub_zero,List.drop_zero,Nat.add_zero,List.length_cons,List.length_nil,Nat.zero_add];rw[List.set_eq_take_append_cons_drop,if_pos (aW bl),List.take_of_length_le (l:=List.drop (a.off+1) c.toList) al];simp
   rw[e1];exact hk
  ·obtain⟨hs,bl,rfl,h1,lU,hk⟩:=h;rw[if_neg aa];refine Fu hs v.cells.toList 0 c U _ hb (aW bl) (by rw[<-Array.all_toList]at lU;exact lU) ?_;simpa using hk
 ·exact h.elim
def aZ:(U.set b o).f b=some o:=Hp.bD _ _
def xe(cs:List Value)(off:Nat)(vs:List Value):List Value:=cs.take off++vs++cs.drop (off+vs.length)
def qJ(pl:List (Nat×Nat))(cs:List Value):List (Nat×Value)->Option (List Value)
 |[]=>some cs
 |(i,v)::rest=>match pl[i]? with
  |some (off,size)=>if v.cells.size=size/\off+size<=cs.length then qJ pl (xe cs off v.cells.toList) rest else none
  |none=>none
def adu(vs:List Value):∀(cs:Array Value) (off j:Nat),off+j+vs.length<=cs.size->
 (vs.zipIdx j).foldl (λcs (x:Value×Nat)=>cs.setIfInBounds (off+x.2) x.1) cs=(xe cs.toList (off+j) vs).toArray:=by
 induction vs with
 |nil=>intro cs off j h;simp[xe]
 |cons v vs ih=>
  intro cs off j h;simp only[List.length_cons]at h;simp only[List.zipIdx_cons,List.foldl_cons];rw[ih _ _ _ (by simp;omega)];congr 1;simp only[xe,Array.toList_setIfInBounds,List.length_cons];have bl:off+j<cs.toList.length:=by simp;omega
  rw[show off+(j+1)=off+j+1 by omega];rw[List.take_set,List.drop_set_of_lt aa]
  have:(cs.toList.take (off+j+1)).set (off+j) v=cs.toList.take (off+j)++[v]:=by rw[List.take_succ_eq_append_getElem bl,List.set_append_right _ _ (by simp;omega)];simp[Nat.min_eq_left (show off+j<=cs.size by omega)]
  rw[this];simp[Nat.add_assoc,Nat.add_comm,Nat.add_left_comm]
def JY(pl:List (Nat×Nat)){place:Nat->Option (Nat×Nat)}(se:∀(i:Nat) (x:Nat×Nat),pl[i]? =some x->place i=some x)(parts:List (Nat×Value)):∀(cs r:List Value),qJ pl cs parts=some r->Instr.fill place cs.toArray parts=some r.toArray:=by
 induction parts with
 |nil=>intro cs r h;simp[qJ]at h;subst h;rfl
 |cons p parts ih=>
  obtain⟨i,v⟩:=p;intro cs r h;simp only[qJ]at h
  cases hp:pl[i]? with
  |none=>rw[hp]at h;cases h
  |some q=>
   obtain⟨off,size⟩:=q;rw[hp]at h;simp only at h;split at h
   ·rename_i hc;simp only[Instr.fill,se _ _ hp];have h1:(v.cells.size≠size||off+v.cells.size>cs.toArray.size)=false:=by simp[hc.1];omega
    rw[if_neg (by simp[hc.1];omega)]
    have h2:v.cells.zipIdx.foldl (λcs (x:Value×Nat)=>cs.setIfInBounds (off+x.2) x.1) cs.toArray=(xe cs off v.cells.toList).toArray:=by rw[<-Array.foldl_toList];have:=adu v.cells.toList cs.toArray off 0 (by simp;omega);simpa using this
    have:=ih _ _ h;rw[<-h2]at this;exact this
   ·cases h
def jC(P:Program)(t:TypeId):Option (List (Nat×Nat)):=match P.underlying t with
 |some (.struct fields)=>fields.toList.mapM λf=>(P.info? f.type).map λi=>(f.offset,i.size)
 |_=>none
theorem arZ{f:α->Sem β}{h:α->Option β}(hf:∀a b (Q:β->Hp->Prop) (H:Halt->Hp->Prop) (U:Hp),h a=some b->Q b U->wpS P (f a) Q H U):
 ∀(l:List α) (r:List β) (Q:List β->Hp->Prop) (H:Halt->Hp->Prop) (U:Hp),l.mapM h=some r->Q r U->wpS P (l.mapM f) Q H U:=by
 intro l
 induction l with
 |nil=>intro r Q H U hr hq;simp at hr;subst hr;simp only[List.mapM_nil,bt];exact hq
 |cons a l ih=>
  intro r Q H U hr hq;simp only[List.mapM_cons,Option.bind_eq_bind,Option.bind_eq_some_iff,Option.pure_def,Option.some.injEq]at hr;obtain⟨b,hb,bs,hbs,rfl⟩:=hr;simp only[List.mapM_cons,aG];refine hf a b _ _ _ hb ?_;refine ih bs _ _ _ hbs ?_;exact hq
def kN(P:Program)(t:TypeId)(n:Nat):Option (TypeId×List (Nat×Nat)×List Value):=match P.underlying t with
 |some (.slice e)=>match P.info? e with
  |some i=>if n*i.size>2^24 then none else if n*i.size=0 then some (e,(List.range n).map λk=>(k*i.size,i.size),[])else match i.zero with
   |some z=>some (e,(List.range n).map λk=>(k*i.size,i.size),(List.range (n*i.size)).map λk=>z.cells[k % z.cells.size]!)
   |none=>none
  |none=>none
 |_=>none
def vL(s:ByteArray):Array Value:=s.data.map λb=>.int .u8 b.toNat
def lL(P:Program)(s d:TypeId):Option TypeId:=match P.underlying s,P.underlying d with
 |some .string,some (.slice e)=>match P.underlying e with
  |some (.int .u8)=>some e
  |_=>none
 |_,_=>none
def lJ(P:Program)(a:TypeId):Value->Option Value
 | .iface u v=>match P.underlying a with
   |some (.interface _)=>none
   |some _=>if u=a then some (.tuple #[v,.bool true])else(dv P a).map λz=>.tuple #[z,.bool false]
   |none=>none
 | .nilIface=>match P.underlying a with
   |some (.interface _)=>none
   |some _=>(dv P a).map λz=>.tuple #[z,.bool false]
   |none=>none
 |_=>none
def ck(P:Program)(f:FuncId):Bool:=match P.funcs[f]? with
 |some fn=> !(fn.name== "runtime.NumGoroutine")&& !fn.body.isNone
 |none=>false
def cK(op:BinOp)(x y:Value):Option Value:=
 match op,x,y with
 | .add,.int k a,.int k' b=>if k=k' then some (.int k (k.wrap (a+b)))else none
 | .sub,.int k a,.int k' b=>if k=k' then some (.int k (k.wrap (a-b)))else none
 | .mul,.int k a,.int k' b=>if k=k' then some (.int k (k.wrap (a*b)))else none
 | .quo,.int k a,.int k' b=>if k=k'/\b≠0 then some (.int k (k.wrap (a.tdiv b)))else none
 | .rem,.int k a,.int k' b=>if k=k'/\b≠0 then some (.int k (a.tmod b))else none
 | .eql,.int k a,.int k' b=>if k=k' then some (.bool (a==b))else none
 | .neq,.int k a,.int k' b=>if k=k' then some (.bool (a !=b))else none
 | .lss,.int k a,.int k' b=>if k=k' then some (.bool (decide (a<b)))else none
 | .leq,.int k a,.int k' b=>if k=k' then some (.bool (decide (a<=b)))else none
 | .gtr,.int k a,.int k' b=>if k=k' then some (.bool (decide (a>b)))else none
 | .geq,.int k a,.int k' b=>if k=k' then some (.bool (decide (a>=b)))else none
 | .shl,.int k a,.int _ b=>if 0<=b then some (.int k (k.wrap (a*2^(min b.toNat k.bits))))else none
 | .shr,.int k a,.int _ b=>if 0<=b then some (.int k (a.fdiv (2^(min b.toNat k.bits))))else none
 | .or,.int k a,.int k' b=>if k=k' then some (.int k (k.wrap ((BitVec.ofInt k.bits a|||BitVec.ofInt k.bits b).toNat)))else none
 | .and,.int k a,.int k' b=>if k=k' then some (.int k (k.wrap ((BitVec.ofInt k.bits a&&&BitVec.ofInt k.bits b).toNat)))else none
 | .xor,.int k a,.int k' b=>if k=k' then some (.int k (k.wrap ((BitVec.ofInt k.bits a^^^BitVec.ofInt k.bits b).toNat)))else none
 | .add,.string a,.string b=>if((a.size+b.size:Nat):Int)<=9223372036854775807 then some (.string (a++b))else none
 | .eql,.string a,.string b=>some (.bool (a.toList==b.toList))
 | .neq,.string a,.string b=>some (.bool (!(a.toList==b.toList)))
 | .lss,.string a,.string b=>some (.bool (Op.bytesLess a.toList b.toList))
 | .gtr,.string a,.string b=>some (.bool !(Op.bytesLess a.toList b.toList||a.toList==b.toList))
 |_,_,_=>none
def ft(P:Program)(op:BinOp)(t:TypeId)(x y:Value):Option Value:=
 match op,P.underlying t,x,y with
 | .eql,some (.pointer _),.pointer none,.pointer b=>some (.bool b.isNone)
 | .eql,some (.pointer _),.pointer _,.pointer none=>some (.bool false)
 | .neq,some (.pointer _),.pointer none,.pointer b=>some (.bool !b.isNone)
 | .neq,some (.pointer _),.pointer _,.pointer none=>some (.bool true)
 | .eql,some (.bool),.bool a,.bool b=>some (.bool (a==b))
 | .neq,some (.bool),.bool a,.bool b=>some (.bool !(a==b))
 | .eql,some (.interface _),.nilIface,.iface _ _| .eql,some (.interface _),.iface _ _,.nilIface=>some (.bool false)
 | .neq,some (.interface _),.nilIface,.iface _ _| .neq,some (.interface _),.iface _ _,.nilIface=>some (.bool true)
 |_,_,_,_=>none
def nQ(P:Program)(op:BinOp)(t:TypeId)(x y:Operand)(a b:Value):Option Value:=
 match op,P.underlying t,a,b with
 | .eql,some (.interface _),.nilIface,.nilIface=>if(Region.isConst x||Region.isConst y)then some (.bool true)else none
 | .neq,some (.interface _),.nilIface,.nilIface=>if(Region.isConst x||Region.isConst y)then some (.bool false)else none
 |_,_,_,_=>none
def vB(op:UnOp)(x:Value):Option Value:=
 match op,x with
 | .neg,.int k n=>some (.int k (k.wrap (0-n)))
 | .not,.bool b=>some (.bool !b)
 |_,_=>none
def mw(P:Program)(src dst:TypeId)(x:Value):Option Value:=
 match P.underlying src,P.underlying dst,x with
 |some _,some (.int k),.int _ n=>some (.int k (k.wrap n))
 |some _,some .string,.string s=>some (.string s)
 |_,_,_=>none
def nU(lo:Option Value):Option Int:=match lo with|none=>some 0|some (.int _ i)=>some i|_=>none
def jS(n:Nat)(hi:Option Value):Option Int:=match hi with|none=>some n|some (.int _ i)=>some i|_=>none
section
variable {U:Hp}
variable {P:Program}(E:Env P)
def kx (f:FuncId)(args:Array Value)(U:Hp)(dst:Option Tmp)(I:av)(ds:List Deferred)(nx:av->List Deferred->Hp->Prop)(pn:List PanicEntry->Hp->Prop):Prop:=
 wpS P (callFunc f args) (pK (λv ae=>nx (aB I dst v) ds ae) (λd ae=>nx (aB I dst undef) (d::ds) ae)
  (λf args ae=>ay E f args ae (yr (λv gA=>nx (aB I dst v) ds gA) pn))) (sL λv ae=>pn [{v,recovered:=false}] ae) U
def yi (x:Value):Option Value:=
 match x with
 | .string s=>some (.int .i64 s.size)
 | .slice _ n _=>some (.int .i64 n)
 |_=>none
def yh (P:Program)(t:TypeId)(x:Value):Bool:=
 match P.underlying t,x with
 |some .string,.string _|some (.slice _),.slice _ _ _=>true
 |_,_=>false
def aU (o:Oper)(I:av)(ds:List Deferred)(U:Hp)(nx:av->List Deferred->Hp->Prop)(pn:List PanicEntry->Hp->Prop):Prop:=
 let done (v:Value):Prop:=nx (aB I o.dst v) ds U
 match o.op with
 | .move x| .assign x=>done (ak I x)
 | .pick c a b=>match ak I c with
   | .bool true=>done (ak I a)
   | .bool false=>done (ak I b)
   |_=>False
 | .alloc t=>match dv P t with
   |some z=>∀b,U.f b=none->nx (aB I o.dst (pV b)) ds (U.set b (.cells z.cells t))
   |none=>False
 | .box t x=>∀b,U.f b=none->nx (aB I o.dst (pV b)) ds (U.set b (.cells (ak I x).cells t))
 | .load t x=>match ak I x with
   | .pointer (some a)=>dt P t=true/\oD P t a U done
   |_=>False
 | .store t x v=>match ak I x with
   | .pointer (some a)=>dt P t=true/\vz P t a (ak I v) U λae=>nx (aB I o.dst undef) ds ae
   |_=>False
 | .nilCheck x=>match ak I x with
   | .pointer (some a)=>done (.pointer (some a))
   | .func (.func f) l c=>done (.func (.func f) l c)
   |_=>False
 | .fieldAddr s x f=>match ak I x,bM P s f with
   | .pointer (some a),some off=>done (.pointer (some (a.add off)))
   |_,_=>False
 | .binOp op t x y _=>match cK op (ak I x) (ak I y)with
   |some v=>done v
   |none=>match ft P op t (ak I x) (ak I y)with
    |some v=>done v
    |none=>match nQ P op t x y (ak I x) (ak I y)with
     |some v=>done v
     |none=>wpOp E o I ds U nx pn
 | .unOp op _ x=>match vB op (ak I x)with
   |some v=>done v
   |none=>False
 | .convert src dst x=>match mw P src dst (ak I x)with
   |some v=>done v
   |none=>match lL P src dst,ak I x with
    |some e,.string s=>∀b pad z,U.f b=none->nx (aB I o.dst (.slice (some ⟨b,0,none⟩) s.size (s.size+pad))) ds (U.set b (.cells (vL s++Array.replicate pad (.int .u8 0)) e z))
    |_,_=>wpOp E o I ds U nx pn
 | .build t parts=>match dv P t,jC P t with
   |some z,some pl=>match qJ pl z.cells.toList (parts.toList.map λ(i,x)=>(i,ak I x))with
    |some r=>done (.agg r.toArray)
    |none=>False
   |_,_=>wpOp E o I ds U nx pn
 | .buildSlice t n parts=>match kN P t n with
   |some (e,pl,zs)=>match qJ pl zs (parts.toList.map λ(i,x)=>(i,ak I x))with
    |some r=>∀b,U.f b=none->nx (aB I o.dst (.slice (some ⟨b,0,none⟩) n n)) ds (U.set b (.cells r.toArray e))
    |none=>False
   |none=>wpOp E o I ds U nx pn
 | .typeAssert x _ a true=>match lJ P a (ak I x)with
   |some v=>done v
   |none=>wpOp E o I ds U nx pn
 | .makeInterface t x=>match P.underlying t with
   |some (.interface _)=>False
   |some _=>done (.iface t (ak I x))
   |none=>False
 | .makeFunc fn l c=>done (.func fn (l.map (ak I)) (c.map (ak I)))
 | .extract x i=>match ak I x with
   | .tuple vs=>match vs[i]? with
     |some v=>done v
     |none=>False
   |_=>False
 | .indexAddr t x i=>match tR P t,ak I x,ak I i with
   |some e,.slice (some a) n _,.int _ k=>(0<=k/\k<n/\(P.info? e).isSome=true)/\done (.pointer (some (a.add (k.toNat*cD P e))))
   |_,_,_=>wpOp E o I ds U nx pn
 | .index t x i=>match P.underlying t,ak I x,ak I i with
   |some .string,.string s,.int _ k=>∃h:0<=k/\k.toNat<s.size,done (.int .u8 (s[k.toNat]'h.2).toNat)
   |_,_,_=>wpOp E o I ds U nx pn
 | .slice t x lo hi mx=>match P.underlying t,ak I x,mx with
   |some .string,.string s,none=>match nU (lo.map (ak I)),jS s.size (hi.map (ak I))with
    |some l,some h=>(0<=l/\l<=h/\h<=s.size)/\done (.string (s.extract l.toNat h.toNat))
    |_,_=>False
   |some (.slice e),.slice a n c,none=>match nU (lo.map (ak I)),jS n (hi.map (ak I))with
    |some l,some h=>(0<=l/\l<=h/\h<=c/\(P.info? e).isSome=true)/\
     done (.slice (if c=l.toNat then a else a.map (·.add (l.toNat*cD P e))) (h.toNat-l.toNat) (c-l.toNat))
    |_,_=>False
   |_,_,_=>wpOp E o I ds U nx pn
 | .makeMap _ none=>∀b,U.f b=none->nx (aB I o.dst (.map (some b))) ds (U.set b (.map #[] 0))
 | .call c=>match c.callee with
   | .value (.func f)=>kx E f (c.args.map (ak I)) U o.dst I ds nx pn
   | .value (.tmp x)=>match I x with
     | .func (.func f) l cap=>kx E f (l++c.args.map (ak I)++cap) U o.dst I ds nx pn
     |_=>wpOp E o I ds U nx pn
   | .builtin .len=>match c.argTypes[0]?,(c.args.map (ak I))[0]? with
     |some t,some x=>match yh P t x,yi x with
      |true,some v=>done v
      |_,_=>wpOp E o I ds U nx pn
     |_,_=>wpOp E o I ds U nx pn
   |_=>wpOp E o I ds U nx pn
 | .panic x=>pn [{v:=ak I x,recovered:=false}] U/\(match ak I x with| .iface _ _=>True|_=>False)
 |_=>wpOp E o I ds U nx pn
end
variable {A:Next->Hp->Prop}
def lN(s:Sem Value):wpS P (do pure (Next.value (<-s)):Sem Next) A H U=wpS P s (λv U=>A (.value v) U) H U:=by rw[aG];rfl
def Wq(s:Sem Unit):wpS P (do s;pure Next.skip:Sem Next) A H U=wpS P s (λ_ U=>A .skip U) H U:=by rw[aG];rfl
variable {f:FuncId}
def aiR(h:ck P f=true):∃fn,P.funcs[f]? =some fn/\(fn.name== "runtime.NumGoroutine")=false/\fn.body.isNone=false:=by
 unfold ck at h;split at h
 ·rename_i fn hf;simp only[Bool.and_eq_true,Bool.not_eq_true']at h;exact⟨fn,hf,h.1,h.2⟩
 ·cases h
def IG(h:ck P f=true)(k:A (.enter f args) U):wpS P (callFunc f args) A H U:=by obtain⟨fn,hf,h1,h2⟩:=aiR h;unfold callFunc;rw[aG,Av,hf];simp only[h1,h2];exact k
variable {nx:av->List Deferred->Hp->Prop}{pn:List PanicEntry->Hp->Prop}{dst:Option Tmp}
def PF(h:kx E f args U dst I ds nx pn):
 wpS P (callFunc f args) (pK (λv ae=>nx (aB I dst v) ds ae) (λd ae=>nx (aB I dst undef) (d::ds) ae)
  (λf args ae=>ay E f args ae (yr (λv gA=>nx (aB I dst v) ds gA) pn))) (sL λv ae=>pn [{v,recovered:=false}] ae) U:=
 h
def Gc(hg:ck P f=true)(h:ay E f args U (yr (λv gA=>nx (aB I dst v) ds gA) pn)):kx E f args U dst I ds nx pn:=
 IG hg h
variable {op:BinOp}
def Y8{A:Value->Hp->Prop}{x y:Value}(h:cK op x y=some v)(k:A v U):wpS P (binOp op t x y) A H U:=by
 unfold cK at h
 split at h<;>first
  |(obtain rfl:=Option.some.inj h;simpa[binOp,Op.stringOp,bt]using k)
  |(split at h
    ·rename_i hc
     first
     |(subst hc;obtain rfl:=Option.some.inj h;simpa[binOp,Op.intArith,Op.intCmp,Op.intBits,bt]using k)
     |(obtain⟨rfl,hb⟩:=hc;obtain rfl:=Option.some.inj h;simpa[binOp,Op.intDiv,hb,bt]using k)
     |(obtain rfl:=Option.some.inj h;simpa[binOp,Op.shift,Int.not_lt.2 hc,bt]using k)
     |(obtain rfl:=Option.some.inj h
       have cF:¬(IntKind.i64.max<((_:Nat):Int)):=Int.not_lt.2 hc
       simp only[binOp,Op.stringOp,gt_iff_lt,if_neg cF,bt];exact k)
    ·cases h)
  |cases h
variable {A:α->Hp->Prop}{c:Prop}{s t:Sem α}
theorem arY [Decidable c](h:wpS P s A H U)(k:wpS P t A H U):wpS P (if c then s else t) A H U:=by
 split
 ·exact h
 ·exact k
theorem arX [Decidable c](hc:c)(h:wpS P s A H U):wpS P (if c then s else t) A H U:=by rw[if_pos hc];exact h
variable {t:TypeId}{a b:Value}
def zd{A:Unit->Hp->Prop}{x y:Operand}(k:A () U)(h:(∀c,a≠.agg c)/\(a=.nilIface->b=.nilIface->(Region.isConst x||Region.isConst y)=true)):wpS P (eqGuard op t x y a b) A H U:=by
 unfold eqGuard;refine arY k ?_;obtain⟨h1,h2⟩:=h
 cases a<;>cases b<;>first
  |exact k
  |exact absurd rfl (h1 _)
  |(have h3:=h2 rfl rfl
    refine arX ?_ k
    cases x<;>cases y<;>first|rfl|(simp[Region.isConst]at h3))
variable {x y:Value}
def C2{A:Bool->Hp->Prop}(h:∀n,wpS P (Op.equalIn (n+1) t x y) A H U):wpS P (Op.equal t x y) A H U:=by
 unfold Op.equal;exact h 9999
variable {A:Value->Hp->Prop}
def alB(h:ft P op t x y=some v)(k:A v U):wpS P (binOp op t x y) A H U:=by
 unfold ft at h
 split at h<;>first
  |(obtain rfl:=Option.some.inj h
    rename_i hu
    unfold binOp
    simp only[aG,bt]
    refine C2 λn=>?_
    unfold Op.equalIn
    simp only[aG,eu,hu]
    first|exact k|(rename_i b;cases b<;>exact k))
  |cases h
def alz{x y:Operand}(h:nQ P op t x y a b=some v)(k:A v U):
 wpS P (do eqGuard op t x y a b;binOp op t a b) A H U:=by
 unfold nQ at h
 split at h<;>first
  |(split at h
    ·rename_i hu hc
     obtain rfl:=Option.some.inj h
     rw[aG]
     refine zd ?_ ⟨al,λ_ _=>hc⟩
     unfold binOp
     simp only[aG,bt]
     refine C2 λn=>?_
     unfold Op.equalIn
     simp only[aG,eu,hu]
     exact k
    ·cases h)
  |cases h
def ard{op:UnOp}(h:vB op x=some v)(k:A v U):wpS P (Op.unary op x) A H U:=by
 unfold vB at h
 split at h<;>first
  |(obtain rfl:=Option.some.inj h;exact k)
  |cases h
variable {s d:TypeId}
def abP(h:mw P s d x=some v)(k:A v U):wpS P (convert s d x) A H U:=by
 unfold mw at h
 split at h<;>first
  |(obtain rfl:=Option.some.inj h
    rename_i h1 h2
    unfold convert
    simp only[aG,eu,h1,h2]
    exact k)
  |cases h
def Pt(h:cK op x y=some v):(∀c,x≠.agg c)/\x≠.nilIface:=by unfold cK at h;split at h<;>first|(cases h;done)|exact⟨al,al⟩
def alA(h:ft P op t x y=some v):(∀c,x≠.agg c)/\(x=.nilIface->y≠.nilIface):=by unfold ft at h;split at h<;>first|(cases h;done)|exact⟨al,al⟩
def Im(h:tR P t=some e):P.underlying t=some (.slice e):=by
 unfold tR at h;split at h
 ·obtain rfl:=Option.some.inj h;assumption
 ·cases h
def adh{f off:Nat}(h:bM P s f=some off):∃fs x i,P.underlying s=some (.struct fs)/\fs[f]? =some x/\P.info? x.type=some i/\i.size≠0/\x.offset=off:=by
 unfold bM at h;split at h
 ·rename_i fs hu;split at h
  ·rename_i x hx;split at h
   ·rename_i hc;simp only[Bool.and_eq_true,Option.isSome_iff_exists,bne_iff_ne,ne_eq]at hc;obtain⟨⟨i,hi⟩,hz⟩:=hc;refine⟨fs,x,i,hu,hx,hi,?_,Option.some.inj h⟩;simpa[cD,hi]using hz
   ·cases h
  ·cases h
 ·cases h
def Il{B:Nat->Hp->Prop}(kk:IntKind)(i:Int)(y:Nat)(code:BoundsCode)(h0:0<=i)(h1:i<=y)(hb:B i.toNat U):wpS P (Instr.sliceBound (.int kk i) y code) B H U:=by unfold Instr.sliceBound;simp only[aG,asIntOf,bt];rw[if_pos ⟨h0,h1⟩];exact hb
variable {n c:Nat}
def VG{A:Nat×Nat×Nat->Hp->Prop}{isS:Bool}{lo hi:Option Value}{l h:Int}(hl:nU lo=some l)(hh:jS n hi=some h)(h0:0<=l)(h1:l<=h)(h2:h<=c)(k:A (l.toNat,h.toNat,c) U):wpS P (Instr.sliceBounds isS n c lo hi none) A H U:=by
 have Bu:(lo=none/\l=0)\/∃kk,lo=some (.int kk l):=by
  unfold nU at hl;split at hl
  ·exact .inl ⟨rfl,(Option.some.inj hl).symm⟩
  ·rename_i kk i;exact .inr ⟨kk,by rw[Option.some.inj hl]⟩
  ·cases hl
 have DN:(hi=none/\h=n)\/∃kk,hi=some (.int kk h):=by
  unfold jS at hh;split at hh
  ·exact .inl ⟨rfl,(Option.some.inj hh).symm⟩
  ·rename_i kk i;exact .inr ⟨kk,by rw[Option.some.inj hh]⟩
  ·cases hh
 clear hl hh;unfold Instr.sliceBounds;rcases DN with⟨rfl,rfl⟩|⟨kh,rfl⟩<;>rcases Bu with⟨rfl,rfl⟩|⟨kl,rfl⟩<;>simp only[aG,bt]
 ·simpa using k
 ·exact Il kl l n _ h0 h1 (by simpa using k)
 ·exact Il kh h c _ aa h2 (by simpa using k)
 ·exact Il kh h c _ aa h2 (Il kl l _ _ h0 aa k)
def To{A:Next->Hp->Prop}{cap:Array Value}(k:wpS P (callFunc f (args++cap)) A H U):wpS P (invoke (.fn (.func f) cap) args) A H U:=k
variable {kk:IntKind}{i:Int}
def aic{a:Addr}(hu:P.underlying t=some (.slice e))(h0:0<=i)(h1:i<n)(hi:(P.info? e).isSome=true)(k:A (.pointer (some (a.add (i.toNat*cD P e)))) U):wpS P (Instr.indexAt t (.slice (some a) n c) (.int kk i)) A H U:=by
 obtain⟨ti,SU⟩:=Option.isSome_iff_exists.1 hi;unfold Instr.indexAt;simp only[aG,asIntOf,bt,eu,hu];rw[if_pos ⟨h0,h1⟩];simp only[aG,sizeOf,gl,SU,bt];simpa[cD,SU]using k
def aid{s:ByteArray}(hu:P.underlying t=some .string)(h:0<=i/\i.toNat<s.size)(k:A (.int .u8 (s[i.toNat]'h.2).toNat) U):wpS P (Instr.index t (.string s) (.int kk i)) A H U:=by
 unfold Instr.index;simp only[aG,asIntOf,bt,eu,hu];rw[if_pos h.1];have:s[i.toNat]? =some (s[i.toNat]'h.2):=getElem?_pos s i.toNat h.2;rw[this];exact k
variable {ty:TypeId}{pos:String}{af:Array Edge}{g:Option (Nat×Bool)}{parts:Array (Nat×Operand)}{pl:List (Nat×Nat)}{r:List Value}
def ZQ{z:Value}(hz:dv P t=some z)(hp:jC P t=some pl)(hr:qJ pl z.cells.toList (parts.toList.map λ(i,x)=>(i,ak I x))=some r)(h:nx (aB I dst (.agg r.toArray)) ds U):wpOp E ⟨dst,.build t parts,ty,pos,af,g⟩ I ds U nx pn:=by
 unfold wpOp;simp only[execOp,Instr.build,zeroValue,aG,gl];unfold dv at hz
 cases hi:P.info? t with
 |none=>rw[hi]at hz;cases hz
 |some i=>
  rw[hi]at hz;simp only at hz;simp only[hz,bt];unfold jC at hp;split at hp
  ·rename_i fields hu;simp only[eu,hu,aG];rw[Array.mapM_eq_mapM_toList,ar0];refine arZ (h:=λf=>(P.info? f.type).map λi=>(f.offset,i.size)) ?_ _ pl _ _ _ hp ?_
   ·intro a b Q H U hb hq;obtain⟨j,hj,rfl⟩:=Option.map_eq_some_iff.1 hb;simp only[aG,sizeOf,gl,hj,bt];exact hq
   ·have e2:(parts.map λ(i,x)=>(i,ak I x)).toList=parts.toList.map λ(i,x)=>(i,ak I x):=al;have:=JY pl (place:=λi=>(pl.toArray)[i]?) (λi x hx=>by simpa using hx) _ _ _ hr;rw[Array.toArray_toList]at this;simp only[e2,this,bt];exact h
  ·cases hp
def ZP{zs:List Value}(hb:kN P t n=some (e,pl,zs))(hr:qJ pl zs (parts.toList.map λ(i,x)=>(i,ak I x))=some r)(h:∀b,U.f b=none->nx (aB I dst (.slice (some ⟨b,0,none⟩) n n)) ds (U.set b (.cells r.toArray e))):wpOp E ⟨dst,.buildSlice t n parts,ty,pos,af,g⟩ I ds U nx pn:=by
 unfold wpOp;simp only[execOp,Instr.buildSlice,aG,eu];unfold kN at hb;split at hb
 ·rename_i e' hu;simp only[hu]
  cases hi:P.info? e' with
  |none=>rw[hi]at hb;cases hb
  |some i=>
   rw[hi]at hb;simp only at hb;have e2:(parts.map λ(i,x)=>(i,ak I x)).toList=parts.toList.map λ(i,x)=>(i,ak I x):=al
   have se:∀(k:Nat) (x:Nat×Nat),((List.range n).map λk=>(k*i.size,i.size))[k]? =some x->(λk=>some (k*i.size,i.size)) k=some x:=by intro k x hx;obtain⟨m,hm,rfl⟩:=Option.map_eq_some_iff.1 (by simpa using hx:((List.range n)[k]?).map (λk=>(k*i.size,i.size))=some x);have:=List.getElem?_eq_some_iff.1 hm;obtain⟨_,h2⟩:=this;simp at h2;subst h2;rfl
   split at hb
   ·cases hb
   ·rename_i gQ;split at hb
    ·rename_i h0
     cases hb
     simp only[sizeOf,aG,gl,hi,bt];rw[if_neg gQ];simp only[aG,bt,h0,if_true];have:=JY _ se _ _ _ hr;simp only[e2]
     have e3:((Array.range 0).map λx=>(#[]:Array Value)[x %(#[]:Array Value).size]!)=([]:List Value).toArray:=by apply Array.ext';simp
     rw[e3,this];simp only[bt,newRow,aG,yH];exact h
    ·rename_i h0;split at hb
     ·rename_i z hz
      cases hb
      simp only[sizeOf,aG,gl,hi,bt];rw[if_neg gQ];simp only[zeroValue];rw[if_neg h0];simp only[aG,gl,hi,hz,bt];have:=JY _ se _ _ _ hr;simp only[e2]
      have e3:((Array.range (n*i.size)).map λx=>z.cells[x % z.cells.size]!)=((List.range (n*i.size)).map λk=>z.cells[k % z.cells.size]!).toArray:=by apply Array.ext';simp
      rw[e3,this];simp only[bt,newRow,aG,yH];exact h
     ·cases hb
 ·cases hb
def aqD{a:TypeId}{x:Operand}(hv:lJ P a (ak I x)=some v)(h:nx (aB I dst v) ds U):wpOp E ⟨dst,.typeAssert x t a true,ty,pos,af,g⟩ I ds U nx pn:=by
 unfold wpOp;simp only[execOp,Instr.typeAssert,aG,eu]
 have Tc:∀z,dv P a=some z->∀(Q:Value->Hp->Prop) (H:Halt->Hp->Prop),Q z U->wpS P (zeroValue a) Q H U:=by
  intro z hz Q H hq;simp only[zeroValue,aG,gl];unfold dv at hz
  cases hi:P.info? a with
  |none=>rw[hi]at hz;cases hz
  |some i=>rw[hi]at hz;simp only at hz;simp only[hz];exact hq
 unfold lJ at hv;split at hv
 ·rename_i u w hx;rw[hx]
  cases hu:P.underlying a with
  |none=>rw[hu]at hv;cases hv
  |some d=>
   rw[hu]at hv
   cases d with
   |interface m=>cases hv
   |_=>
    simp only at hv|-;split at hv
    ·rename_i hc
     cases hv
     rw[if_pos hc];exact h
    ·rename_i hc;obtain⟨z,hz,rfl⟩:=Option.map_eq_some_iff.1 hv;rw[if_neg hc];simp only[if_true,aG];exact Tc z hz _ _ h
 ·rename_i hx;rw[hx]
  cases hu:P.underlying a with
  |none=>rw[hu]at hv;cases hv
  |some d=>
   rw[hu]at hv
   cases d with
   |interface m=>cases hv
   |_=>
    simp only at hv|-;obtain⟨z,hz,rfl⟩:=Option.map_eq_some_iff.1 hv;simp only[if_true,aG];exact Tc z hz _ _ h
 ·cases hv
def aqq{src:TypeId}{x:Operand}{s:ByteArray}(he:lL P src d=some e)(hx:ak I x=.string s)(h:∀b pad z,U.f b=none->nx (aB I dst (.slice (some ⟨b,0,none⟩) s.size (s.size+pad))) ds (U.set b (.cells (vL s++Array.replicate pad (.int .u8 0)) e z))):wpOp E ⟨dst,.convert src d x,ty,pos,af,g⟩ I ds U nx pn:=by
 unfold wpOp;simp only[execOp,convert,aG,eu];unfold lL at he;split at he
 ·rename_i e' hs hd;split at he
  ·rename_i hu
   cases he
   simp only[hs,hd,hx,aG,eu,hu,Conv.stringToBytes,IH];rw[if_neg (by simp[Question.forced])];intro t b hb;simp only[markStringish,aG,bt,Aw];show(_/\_);refine⟨by simp[Hp.set],?_⟩
   have e1:(U.set b (Obj.cells (s.data.map (λb=>Value.int IntKind.u8 b.toNat)++Array.replicate ((Question.appendCap s.size 0 e).cut t-s.size) (Value.int IntKind.u8 0)) e)).shape? b=
    some (e,(s.data.map (λb=>Value.int IntKind.u8 b.toNat)++Array.replicate ((Question.appendCap s.size 0 e).cut t-s.size) (Value.int IntKind.u8 0)).size):=by
    simp[Hp.shape?,Hp.set]
   rw[e1];simp only[Wo];refine⟨by simp[Hp.set],?_⟩
   have j0:(Question.appendCap s.size 0 e).cut t=s.size+((Question.appendCap s.size 0 e).cut t-s.size):=by simp only[Question.cut];omega
   have hz:=h b ((Question.appendCap s.size 0 e).cut t-s.size);rw[<-j0]at hz
   have e2:∀n,∃z,((U.set b (Obj.cells (s.data.map (λb=>Value.int IntKind.u8 b.toNat)++Array.replicate ((Question.appendCap s.size 0 e).cut t-s.size) (Value.int IntKind.u8 0)) e)).freeze {block:=b,off:=n} 1)=
    U.set b (Obj.cells (vL s++Array.replicate ((Question.appendCap s.size 0 e).cut t-s.size) (Value.int IntKind.u8 0)) e z):=by
    intro n;refine⟨(n,n+1),Hp.ext' λx=>?_⟩;simp only[Hp.freeze,Hp.modify,Hp.set,vL];by_cases Ei:x=b<;>simp[Ei,Gf]
   obtain⟨z,hz2⟩:=e2 _;rw[hz2];exact hz z hb
  ·cases he
 ·cases he
def sC{o:Oper}(h:aU E o I ds U nx pn):wpOp E o I ds U nx pn:=by
 obtain⟨dst,op,type,pos,after,guard⟩:=o
 cases op with
 |move x=>exact h
 |assign x=>exact h
 |pick c a b=>
  simp only[aU]at h;unfold wpOp;simp only[execOp,aG];split at h
  ·rename_i hc;rw[hc];exact h
  ·rename_i hc;rw[hc];exact h
  ·exact h.elim
 |alloc t=>
  simp only[aU]at h;unfold wpOp;simp only[execOp,Instr.alloc,zeroValue,aG,gl];unfold dv at h
  cases hi:P.info? t with
  |none=>rw[hi]at h;exact h.elim
  |some i=>
   rw[hi]at h
   cases hz:i.zero with
   |none=>simp only[hz]at h
   |some z=>
    simp only[hz]at h|-;exact h
 |box t x=>exact h
 |build t parts=>
  simp only[aU]at h;split at h
  ·rename_i z pl hz hp;split at h
   ·rename_i r hr;exact ZQ hz hp hr h
   ·exact h.elim
  ·exact h
 |buildSlice t n parts=>
  simp only[aU]at h;split at h
  ·rename_i e pl zs hb;split at h
   ·rename_i r hr;exact ZP hb hr h
   ·exact h.elim
  ·exact h
 |insert t m k v=>exact h
 |load t x=>
  simp only[aU]at h;unfold wpOp;simp only[execOp,Instr.loadAt,aG];split at h
  ·rename_i a hx;rw[hx];exact wT h.1 h.2
  ·exact h.elim
 |store t x v=>
  simp only[aU]at h;unfold wpOp;simp only[execOp,Instr.storeAt,aG];split at h
  ·rename_i a hx;rw[hx];exact Nq h.1 h.2
  ·exact h.elim
 |ready g=>exact h
 |waits g=>exact h
 |nilCheck x=>
  simp only[aU]at h;unfold wpOp;simp only[execOp];split at h
  ·rename_i a hx;rw[hx];exact h
  ·rename_i f l c hx;rw[hx];exact h
  ·exact h.elim
 |binOp op t x y t2=>
  simp only[aU]at h
  cases hb:cK op (ak I x) (ak I y)with
  |some v=>
   rw[hb]at h;unfold wpOp;simp only[execOp,aG];have hn:=Pt hb;exact zd (Y8 hb h) ⟨hn.1,λe=>absurd e hn.2⟩
  |none=>
   rw[hb]at h
   cases hv:ft P op t (ak I x) (ak I y)with
   |some v=>
    rw[hv]at h;unfold wpOp;simp only[execOp,aG];have hn:=alA hv;exact zd (alB hv h) ⟨hn.1,λe e'=>absurd e' (hn.2 e)⟩
   |none=>
    rw[hv]at h
    cases hw:nQ P op t x y (ak I x) (ak I y)with
    |some v=>
     rw[hw]at h;unfold wpOp;simp only[execOp,lN];exact alz hw h
    |none=>rw[hw]at h;exact h
 |unOp op t x=>
  simp only[aU]at h;unfold wpOp;simp only[execOp,lN];split at h
  ·rename_i v hv;exact ard hv h
  ·exact h.elim
 |convert s d x=>
  simp only[aU]at h;split at h
  ·rename_i v hv;unfold wpOp;simp only[execOp,lN];exact abP hv h
  ·split at h
   ·rename_i e b he hb;exact aqq he hb h
   ·exact h
 |sliceToArrayPointer d x=>exact h
 |makeInterface t x=>
  simp only[aU]at h;unfold wpOp;simp only[execOp,Instr.makeInterface,aG,eu];split at h
  ·exact h.elim
  ·rename_i d hn hd;rw[hd]
   cases d<;>first|exact absurd rfl (hn _)|exact h
  ·exact h.elim
 |makeFunc fn l c=>exact h
 |makeMap t r=>
  cases r with
  |none=>exact h
  |some r=>exact h
 |makeChan t s=>exact h
 |makeSlice t l c=>exact h
 |slice t x lo hi mx=>
  simp only[aU]at h;split at h
  ·rename_i s hu hx;unfold wpOp;simp only[execOp,Instr.sliceAt,Instr.slice,aG,eu,hu,hx];split at h
   ·rename_i l hh hl Lg;obtain⟨⟨h0,h1,h2⟩,hk⟩:=h;simp only[Option.map_none,Option.isSome_none,Bool.false_eq_true,if_false];simp only[aG,bt];exact VG hl Lg h0 h1 h2 hk
   ·exact h.elim
  ·rename_i e a n c hu hx;unfold wpOp;simp only[execOp,Instr.sliceAt,Instr.slice,aG,eu,hu,hx];split at h
   ·rename_i l hh hl Lg;obtain⟨⟨h0,h1,h2,h3⟩,hk⟩:=h;obtain⟨i,hi⟩:=Option.isSome_iff_exists.1 h3;refine VG hl Lg h0 h1 h2 ?_;simp only[sizeOf,aG,gl,hi,bt];have:cD P e=i.size:=by simp[cD,hi]
    rw[this]at hk;exact hk
   ·exact h.elim
  ·exact h
 |fieldAddr s x f=>
  simp only[aU]at h;unfold wpOp;simp only[execOp,Instr.fieldAt,aG,eu];split at h
  ·rename_i a off hx hf;obtain⟨fs,fx,i,hu,hg,hi,hz,rfl⟩:=adh hf;rw[hu];simp only;rw[hg];simp only[hx,fieldPlace,sizeOf,aG,gl,hi,Instr.sureAddr,bt];rw[if_neg hz];exact h
  ·exact h.elim
 |field t x f=>exact h
 |indexAddr t x i=>
  simp only[aU]at h;split at h
  ·rename_i e a n c kk k hs hx hi;unfold wpOp;simp only[execOp,lN,hx,hi];obtain⟨⟨h0,h1,h2⟩,hk⟩:=h;exact aic (Im hs) h0 h1 h2 hk
  ·exact h
 |index t x i=>
  simp only[aU]at h;split at h
  ·rename_i s kk k hu hx hi;obtain⟨hh,hk⟩:=h;unfold wpOp;simp only[execOp,lN,hx,hi];exact aid hu hh hk
  ·exact h
 |lookup t x i ok=>exact h
 |mapUpdate t m k v=>exact h
 |mapEntry t m k=>exact h
 |entryStore t m k v=>exact h
 |range t x=>exact h
 |next i s=>exact h
 |entry i=>exact h
 |typeAssert x t a ok=>
  cases ok with
  |false=>exact h
  |true=>
   simp only[aU]at h;split at h
   ·rename_i v hv;exact aqD hv h
   ·exact h
 |extract x i=>
  simp only[aU]at h;unfold wpOp;simp only[execOp,lN,Instr.extract];split at h
  ·rename_i vs hx;rw[hx];simp only;split at h
   ·rename_i v hv;rw[hv];exact h
   ·exact h.elim
  ·exact h.elim
 |call c=>
  simp only[aU]at h;split at h
  ·rename_i f hc;unfold wpOp;simp only[execOp,resolve,hc,ak,Deferred.ofValue,aG,bt];refine To ?_;simpa using PF h
  ·rename_i x hc;split at h
   ·rename_i f l cap hx;unfold wpOp;simp only[execOp,resolve,hc,ak,hx,Deferred.ofValue,aG,bt];exact To (PF h)
   ·exact h
  ·rename_i hc;split at h
   ·rename_i t x ht hx;split at h
    ·rename_i v h1 h2;unfold wpOp;simp only[execOp,resolve,hc,aG,bt,invoke,builtin,Builtin.len_,ht,hx];unfold yh at h1;split at h1
     ·rename_i s hu;rw[eu,hu];simp only[yi,Option.some.injEq]at h2;subst h2;exact h
     ·rename_i e a n c hu;rw[eu,hu];simp only[yi,Option.some.injEq]at h2;subst h2;exact h
     ·cases h1
    ·exact h
   ·exact h
  ·exact h
 |go c=>exact h
 |defer c=>exact h
 |panic x=>
  simp only[aU]at h;unfold wpOp;simp only[execOp,lN,Instr.panic];obtain⟨h1,h2⟩:=h;split at h2
  ·rename_i t v hx;rw[hx]at h1|-;exact h1
  ·exact h2.elim
 |send c x=>exact h
 |recv t c ok=>exact h
 |select cs b=>exact h
end
end Go.Qw
