/- 1 -/
import Derived.Conc.Beside
import Derived.Conc.Listed
import Derived.Conc.Own
import Derived.Conc.Token
import Derived.KernelRfl
set_option linter.all false
set_option maxRecDepth 100000
set_option maxHeartbeats 8000000
namespace Go.Qw
open Go
variable {p:Prop}
def aa(h:p:=by omega):p:=h
def ah(h:p:=by kernel_rfl):p:=h
def an(h:p:=by decide):p:=h
def kE(h:p:=by decide+kernel):p:=h
def ak(h:p:=by simp):p:=h
variable {q:Prop}
def aV(h:p)(e:p->q:=by intro h;simpa using h):q:=e h
abbrev pV(b:Nat):Go.Value:=.pointer (some ⟨b,0,none⟩)
def bj{α:Sort _}{a b:α}(h:a=b:=by rfl):a=b:=h
def ag(h:q)(e:q->p:=by intro h;simp only[go_sem,seval];exact h):p:=e h
def au(e:p:=by simp only[go_sem,seval]<;>rfl):p:=e
variable {F0:Prop}
def aH(a:F0)(h:q)(e:F0->q->p:=by intro a h;simp only[go_sem,seval,a];exact h):p:=e a h
def aP(a:F0)(e:F0->p:=by intro a;simp only[go_sem,seval,a]<;>rfl):p:=e a
variable {F1:Prop}
def bq(a:F0)(b:F1)(h:q)(e:F0->F1->q->p:=by intro a b h;simp only[go_sem,seval,a,b];exact h):p:=e a b h
def wL(a:F0)(b:F1)(e:F0->F1->p:=by intro a b;simp only[go_sem,seval,a,b]<;>rfl):p:=e a b
variable {F2:Prop}
def bR(a:F0)(b:F1)(c:F2)(h:q)(e:F0->F1->F2->q->p:=by intro a b c h;simp only[go_sem,seval,a,b,c];exact h):p:=e a b c h
def nH(a:F0)(b:F1)(c:F2)(e:F0->F1->F2->p:=by intro a b c;simp only[go_sem,seval,a,b,c]<;>rfl):p:=e a b c
variable {F3:Prop}
def fA(a:F0)(b:F1)(c:F2)(d:F3)(h:q)(e:F0->F1->F2->F3->q->p:=by intro a b c d h;simp only[go_sem,seval,a,b,c,d];exact h):p:=e a b c d h
def ic(a:F0)(b:F1)(c:F2)(d:F3)(e:F0->F1->F2->F3->p:=by intro a b c d;simp only[go_sem,seval,a,b,c,d]<;>rfl):p:=e a b c d
variable {F4:Prop}
def ln(a:F0)(b:F1)(c:F2)(d:F3)(f:F4)(h:q)(e:F0->F1->F2->F3->F4->q->p:=by intro a b c d f h;simp only[go_sem,seval,a,b,c,d,f];exact h):p:=e a b c d f h
def qf(a:F0)(b:F1)(c:F2)(d:F3)(f:F4)(e:F0->F1->F2->F3->F4->p:=by intro a b c d f;simp only[go_sem,seval,a,b,c,d,f]<;>rfl):p:=e a b c d f
variable {F5:Prop}
def Mn(a:F0)(b:F1)(c:F2)(d:F3)(f:F4)(g:F5)(h:q)(e:F0->F1->F2->F3->F4->F5->q->p:=by intro a b c d f g h;simp only[go_sem,seval,a,b,c,d,f,g];exact h):p:=e a b c d f g h
def Hy(a:F0)(b:F1)(c:F2)(d:F3)(f:F4)(g:F5)(e:F0->F1->F2->F3->F4->F5->p:=by intro a b c d f g;simp only[go_sem,seval,a,b,c,d,f,g]<;>rfl):p:=e a b c d f g
variable {F6:Prop}
def Ey(a:F0)(b:F1)(c:F2)(d:F3)(f:F4)(g:F5)(i:F6)(h:q)(e:F0->F1->F2->F3->F4->F5->F6->q->p:=by intro a b c d f g i h;simp only[go_sem,seval,a,b,c,d,f,g,i];exact h):p:=e a b c d f g i h
def Hz(a:F0)(b:F1)(c:F2)(d:F3)(f:F4)(g:F5)(i:F6)(e:F0->F1->F2->F3->F4->F5->F6->p:=by intro a b c d f g i;simp only[go_sem,seval,a,b,c,d,f,g,i]<;>rfl):p:=e a b c d f g i
def rY{F7:Prop}(a:F0)(b:F1)(c:F2)(d:F3)(f:F4)(g:F5)(i:F6)(j:F7)(h:q)(e:F0->F1->F2->F3->F4->F5->F6->F7->q->p:=by intro a b c d f g i j h;simp only[go_sem,seval,a,b,c,d,f,g,i,j];exact h):p:=e a b c d f g i j h
def tr{F7:Prop}(a:F0)(b:F1)(c:F2)(d:F3)(f:F4)(g:F5)(i:F6)(j:F7)(e:F0->F1->F2->F3->F4->F5->F6->F7->p:=by intro a b c d f g i j;simp only[go_sem,seval,a,b,c,d,f,g,i,j]<;>rfl):p:=e a b c d f g i j
structure Hp where
 f:Nat->Option Obj
structure cP (J:Nat->Prop) (w:World) (U:Hp):Prop where
 heap:∀{b:Nat} {o:Obj},U.f b=some o->w.heap[b]? =some o
 gV:∀b,J b->U.f b=none
 low:∀b,J b->b<w.heap.size
def Hp.le(U R:Hp):Prop:=∀b o,U.f b=some o->R.f b=some o
def Hp.le_refl(U:Hp):U.le U:=λ_ _ h=>h
variable {U R:Hp}
def Hp.le_trans{υ:Hp}(h:U.le R)(k:R.le υ):U.le υ:=λb o x=>k b o (h b o x)
def Hp.cell?(U:Hp)(a:Addr):Option Value:=
 match U.f a.block with
 |some (.cells c _ _)=>if a.spot.isSome then none else c[a.off]?
 |_=>none
def Hp.frozen?(U:Hp)(a:Addr):Bool:=
 match U.f a.block with
 |some (.cells _ _ (lo,hi))=>lo<=a.off&&a.off<hi
 |_=>false
def Hp.shape?(U:Hp)(r:Nat):Option (TypeId×Nat):=
 match U.f r with
 |some (.cells c elem _)=>some (elem,c.size)
 |_=>none
def Hp.set(U:Hp)(b:Nat)(o:Obj):Hp:={f:=λx=>if x=b then some o else U.f x}
def Hp.modify(U:Hp)(b:Nat)(g:Obj->Obj):Hp:={f:=λx=>if x=b then(U.f b).map g else U.f x}
def yy(a:Addr)(v:Value):Obj->Obj
 | .cells c elem frozen=>.cells (if a.spot.isSome then c else c.setIfInBounds a.off v) elem frozen
 |o=>o
def Ft(a:Addr)(n:Nat):Obj->Obj
 | .cells c elem (lo,hi)=>.cells c elem (if lo==hi then(a.off,a.off+n)else(min lo a.off,max hi (a.off+n)))
 |o=>o
def Hp.setCell(U:Hp)(a:Addr)(v:Value):Hp:=U.modify a.block (yy a v)
def Hp.freeze(U:Hp)(a:Addr)(n:Nat):Hp:=if n=0 then U else U.modify a.block (Ft a n)
def Bm:Mark->Bool
 | .extern _| .noRoom=>true
 |_=>false
def Bi:Obj->Bool
 | .cells .. =>false
 |_=>true
variable {α:Type}
def wpS(P:Program):Sem α->(α->Hp->Prop)->(Halt->Hp->Prop)->Hp->Prop
 | .pure a,Q,_,U=>Q a U
 | .load _ a k,Q,H,U=>∃v,U.cell? a=some v/\wpS P (k v) Q H U
 | .store _ _ (.agg _) _,_,_,_| .store _ _ (.tuple _) _,_,_,_=>False
 | .store _ a v k,Q,H,U=>(∃u,U.cell? a=some u)/\U.frozen? a=false/\wpS P k Q H (U.setCell a v)
 | .new o k,Q,H,U=>∀b,U.f b=none->wpS P (k b) Q H (U.set b o)
 | .shape r k,Q,H,U=>(U.f r).isSome=true/\wpS P (k (U.shape? r)) Q H U
 | .freeze a n k,Q,H,U=>(U.f a.block).isSome=true/\wpS P k Q H (U.freeze a n)
 | .frozen a k,Q,H,U=>(U.f a.block).isSome=true/\wpS P (k (U.frozen? a)) Q H U
 | .getObj r k,Q,H,U=>∃o,U.f r=some o/\Bi o=true/\wpS P (k o) Q H U
 | .setObj r o k,Q,H,U=>∃o',U.f r=some o'/\Bi o'=true/\wpS P k Q H (U.set r o)
 | .choose q k,Q,H,U=>if q.forced then wpS P (k 0) Q H U else∀t,wpS P (k (q.cut t)) Q H U
 | .sys _ _,_,_,_=>False
 | .program k,Q,H,U=>wpS P (k P) Q H U
 | .mark m k,Q,H,U=>Bm m=true/\wpS P k Q H U
 | .halt h,_,H,U=>H h U
variable {P:Program}{H:Halt->Hp->Prop}
def M3{Q Q':α->Hp->Prop}{H':Halt->Hp->Prop}(hq:∀a U,Q a U->Q' a U)(hh:∀h U,H h U->H' h U):
 ∀(s:Sem α) (U:Hp),wpS P s Q H U->wpS P s Q' H' U:=by
 intro s
 induction s with
 |pure a=>exactλU h=>hq _ _ h
 |load m a k ih=>exactλU ⟨v,hv,h⟩=>⟨v,hv,ih v U h⟩
 |store m a v k ih=>
  intro U h
  cases v<;>first|exact h.elim|exact⟨h.1,h.2.1,ih _ h.2.2⟩
 |new o k ih=>exactλU h b hb=>ih _ _ (h b hb)
 |shape r k ih=>exactλU h=>⟨h.1,ih _ _ h.2⟩
 |freeze a n k ih=>exactλU h=>⟨h.1,ih _ h.2⟩
 |frozen a k ih=>exactλU h=>⟨h.1,ih _ _ h.2⟩
 |getObj r k ih=>exactλU ⟨o,ho,hc,h⟩=>⟨o,ho,hc,ih _ _ h⟩
 |setObj r o k ih=>exactλU ⟨o',ho,hc,h⟩=>⟨o',ho,hc,ih _ h⟩
 |choose q k ih=>
  intro U h;unfold wpS at h|-;split
  ·rename_i hf;rw[if_pos hf]at h;exact ih _ _ h
  ·rename_i hf;rw[if_neg hf]at h;exactλt=>ih _ _ (h t)
 |sys c k ih=>exactλU h=>h.elim
 |program k ih=>exactλU h=>ih _ _ h
 |mark m k ih=>exactλU h=>⟨h.1,ih _ h.2⟩
 |halt h=>exactλU x=>hh _ _ x
def aqv{β:Type}{Q:β->Hp->Prop}(f:α->Sem β):
 ∀(s:Sem α) (U:Hp),wpS P s (λa U=>wpS P (f a) Q H U) H U->wpS P (s.bind f) Q H U:=by
 intro s
 induction s with
 |pure a=>exactλU h=>h
 |load m a k ih=>exactλU ⟨v,hv,h⟩=>⟨v,hv,ih v U h⟩
 |store m a v k ih=>
  intro U h
  cases v<;>first|exact h.elim|exact⟨h.1,h.2.1,ih _ h.2.2⟩
 |new o k ih=>exactλU h b hb=>ih _ _ (h b hb)
 |shape r k ih=>exactλU h=>⟨h.1,ih _ _ h.2⟩
 |freeze a n k ih=>exactλU h=>⟨h.1,ih _ h.2⟩
 |frozen a k ih=>exactλU h=>⟨h.1,ih _ _ h.2⟩
 |getObj r k ih=>exactλU ⟨o,ho,hc,h⟩=>⟨o,ho,hc,ih _ _ h⟩
 |setObj r o k ih=>exactλU ⟨o',ho,hc,h⟩=>⟨o',ho,hc,ih _ h⟩
 |choose q k ih=>
  intro U h;unfold Sem.bind;unfold wpS at h|-;split
  ·rename_i hf;rw[if_pos hf]at h;exact ih _ _ h
  ·rename_i hf;rw[if_neg hf]at h;exactλt=>ih _ _ (h t)
 |sys c k ih=>exactλU h=>h.elim
 |program k ih=>exactλU h=>ih _ _ h
 |mark m k ih=>exactλU h=>⟨h.1,ih _ h.2⟩
 |halt h=>exactλU x=>x
def iv(J:Nat->Prop)(n:Nat)(e:Event):Prop:=
 match e.loc with
 | .cell a=>¬J a.block/\a.block<n
 | .obj r=>¬J r/\r<n
 | .mark m=>Bm m=true
 |_=>False
variable {J:Nat->Prop}
def iv.mono{n n':Nat}(h:n<=n'){e:Event}(he:iv J n e):iv J n' e:=by
 unfold iv at he|-
 cases hl:e.loc<;>rw[hl]at he<;>first|exact he|exact⟨he.1,by have:=he.2;omega⟩
structure Kept (J:Nat->Prop) (w w':World):Prop where
 hidden:∀b,J b->w'.heap[b]? =w.heap[b]?
 os:w'.os=w.os
 tape:w'.tape=w.tape
 output:w'.output=w.output
 tI:w.heap.size<=w'.heap.size
def Kept.refl(J:Nat->Prop)(w:World):Kept J w w:=⟨λ_ _=>rfl,rfl,rfl,rfl,Nat.le_refl _⟩
def Kept.trans {J:Nat->Prop}{a b c:World}(h:Kept J a b)(k:Kept J b c):Kept J a c:=
 ⟨λx hx=>(k.hidden x hx).trans (h.hidden x hx),k.os.trans h.os,k.tape.trans h.tape,k.output.trans h.output,Nat.le_trans h.tI k.tI⟩
variable {w:World}{b:Nat}{o:Obj}
def cP.rU(h:cP J w U)(hb:U.f b=some o):¬J b:=λhj=>by rw[h.gV b hj]at hb;cases hb
def cP.lt(h:cP J w U)(hb:U.f b=some o):b<w.heap.size:=(Array.getElem?_eq_some_iff.1 (h.heap hb)).1
def cP.iD(h:cP J w U)(k:R.le U):cP J w R:=by
 refine⟨λhb=>h.heap (k _ _ hb),λb hj=>?_,h.low⟩
 cases hb:R.f b with
 |none=>rfl
 |some o=>have:=k b o hb;rw[h.gV b hj]at this;cases this
def Ai{a:Addr}{v:Value}(h:U.cell? a=some v):∃c e z,U.f a.block=some (.cells c e z)/\a.spot=none/\c[a.off]? =some v:=by
 unfold Hp.cell? at h;split at h
 ·rename_i c e z hb;refine⟨c,e,z,hb,?_⟩;by_cases hs:a.spot.isSome=true
  ·rw[if_pos hs]at h;cases h
  ·rw[if_neg hs]at h;exact⟨aV hs,h⟩
 ·cases h
def cP.cell (h:cP J w U){a:Addr}{v:Value}(hc:U.cell? a=some v):w.cell? a=some v:=by obtain⟨c,e,z,hb,hs,hv⟩:=Ai hc;simp[World.cell?,h.heap hb,hs,hv]
def cP.Jf(h:cP J w U){a:Addr}(hb:U.f a.block=some o):w.frozen? a=U.frozen? a:=by simp only[World.frozen?,Hp.frozen?,h.heap hb,hb];rfl
def cP.Uw(h:cP J w U){r:Nat}(hb:U.f r=some o):w.shape? r=U.shape? r:=by simp only[World.shape?,Hp.shape?,h.heap hb,hb];rfl
def cP.modify (h:cP J w U){b:Nat}{o:Obj}(hb:U.f b=some o)(g:Obj->Obj):cP J {w with heap:=w.heap.modify b g} (U.modify b g):=by
 refine⟨λ{x o'} hx=>?_,λx hx=>?_,λx hx=>by simpa using h.low x hx⟩
 ·simp only[Hp.modify]at hx;by_cases e:x=b
  ·subst e;rw[if_pos rfl,hb]at hx;rw[Array.getElem?_modify,if_pos rfl,h.heap hb];exact hx
  ·rw[if_neg e]at hx;rw[Array.getElem?_modify,if_neg (λz=>e z.symm)];exact h.heap hx
 ·simp only[Hp.modify];by_cases e:x=b
  ·subst e;exact absurd hx (h.rU hb)
  ·rw[if_neg e];exact h.gV x hx
def Kept.modify(h:cP J w U)(hb:U.f b=some o)(g:Obj->Obj):Kept J w {w with heap:=w.heap.modify b g}:=by refine⟨λx hx=>?_,rfl,rfl,rfl,ak⟩;have:x≠b:=λe=>h.rU hb (e▸hx);simp only[Array.getElem?_modify];rw[if_neg (λz=>this z.symm)]
def cP.fresh(h:cP J w U):U.f w.heap.size=none:=by
 cases hb:U.f w.heap.size with
 |none=>rfl
 |some o=>exact absurd (h.lt hb) (Nat.lt_irrefl _)
def cP.push(h:cP J w U)(o:Obj):cP J {w with heap:=w.heap.push o} (U.set w.heap.size o):=by
 refine⟨λ{x o'} hx=>?_,λx hx=>?_,λx hx=>by have:=h.low x hx;simp;omega⟩
 ·simp only[Hp.set]at hx;by_cases e:x=w.heap.size
  ·subst e;rw[if_pos rfl]at hx;simpa using hx
  ·rw[if_neg e]at hx;have:=h.lt hx;simp only[Array.getElem?_push];rw[if_neg e];exact h.heap hx
 ·simp only[Hp.set];rw[if_neg (by have:=h.low x hx;omega)];exact h.gV x hx
def Kept.push(h:cP J w U)(o:Obj):Kept J w {w with heap:=w.heap.push o}:=by refine⟨λx hx=>?_,rfl,rfl,rfl,ak⟩;have:=h.low x hx;simp only[Array.getElem?_push];rw[if_neg aa]
def cP.setObj(h:cP J w U)(hb:U.f b=some o)(o':Obj):cP J {w with heap:=w.heap.setIfInBounds b o'} (U.set b o'):=by
 have aZ:b<w.heap.size:=h.lt hb;refine⟨λ{x bU} hx=>?_,λx hx=>?_,λx hx=>by simpa using h.low x hx⟩
 ·simp only[Hp.set]at hx;by_cases e:x=b
  ·subst e;rw[if_pos rfl]at hx;rw[<-hx];exact Array.getElem?_setIfInBounds_self_of_lt aZ
  ·rw[if_neg e]at hx;show(w.heap.setIfInBounds b o')[x]? =_;rw[Array.getElem?_setIfInBounds_ne (λz=>e z.symm)];exact h.heap hx
 ·simp only[Hp.set];by_cases e:x=b
  ·subst e;exact absurd hx (h.rU hb)
  ·rw[if_neg e];exact h.gV x hx
def Kept.setObj(h:cP J w U)(hb:U.f b=some o)(o':Obj):Kept J w {w with heap:=w.heap.setIfInBounds b o'}:=by refine⟨λx hx=>?_,rfl,rfl,rfl,ak⟩;have:x≠b:=λe=>h.rU hb (e▸hx);exact Array.getElem?_setIfInBounds_ne (λz=>this z.symm)
def cP.drew(h:cP J w U)(d:Nat):cP J {w with drawn:=d} U:=⟨h.heap,h.gV,h.low⟩
def mB(J:Nat->Prop)(Q:α->Hp->Prop)(H:Halt->Hp->Prop)(w:World)(es:Array Event)(r:Result α×Array Event):Prop:=
 ∃(w':World) (ae:Hp) (bW:Array Event),r.2=es++bW/\cP J w' ae/\Kept J w w'/\(∀e∈bW,iv J w'.heap.size e)/\
  ((∃a,r.1=.ok a w'/\Q a ae)\/(∃h,r.1=.halt h w'/\H h ae))
variable {Q:α->Hp->Prop}{w₁:World}{es:Array Event}{r:Result α×Array Event}
def mB.step{es₁:Array Event}(hk:Kept J w w₁)(he:∀e∈es₁,iv J w₁.heap.size e)(h:mB J Q H w₁ (es++es₁) r):mB J Q H w es r:=by
 obtain⟨w',ae,bW,e1,hs,dZ,fT,hr⟩:=h;refine⟨w',ae,es₁++bW,by rw[e1,Array.append_assoc],hs,hk.trans dZ,λe hm=>?_,hr⟩;rcases Array.mem_append.1 hm with hm|hm
 ·exact(he e hm).mono dZ.tI
 ·exact fT e hm
def mB.step0(hk:Kept J w w₁)(h:mB J Q H w₁ es r):mB J Q H w es r:=
 mB.step (es₁:=#[]) hk ak (aV h)
theorem push_eq_append(a:Array α)(x:α):a.push x=a++ #[x]:=ak
theorem oA:
 ∀(s:Sem α) (w:World) (U:Hp) (es:Array Event),wpS P s Q H U->cP J w U->mB J Q H w es (s.runT P w es):=by
 intro s
 induction s with
 |pure a=>exactλw U es h hs=>⟨w,U,#[],by simp[Sem.runT],hs,.refl J w,ak,.inl ⟨a,rfl,h⟩⟩
 |load m a k ih=>
  rintro w U es ⟨v,hv,h⟩ hs;have hw:=hs.cell hv;obtain⟨c,e,z,hb,_,_⟩:=Ai hv;unfold Sem.runT;simp only[hw];rw[push_eq_append];refine mB.step (.refl J w) (λx hx=>?_) (ih v w U _ h hs);simp at hx;subst hx;exact⟨hs.rU hb,hs.lt hb⟩
 |store m a v k ih=>
  intro w U es h hs
  have key:(∃u,U.cell? a=some u)/\U.frozen? a=false/\wpS P k Q H (U.setCell a v)->(∀cs,v≠.agg cs)->(∀cs,v≠.tuple cs)->mB J Q H w es ((Sem.store m a v k).runT P w es):=by
   rintro⟨⟨u,hu⟩,hz,h⟩ h1 h2;have hw:=hs.cell hu;obtain⟨c,e,z,hb,_,_⟩:=Ai hu;have gU:w.frozen? a=false:=by rw[hs.Jf hb];exact hz
   have e1:(Sem.store m a v k).runT P w es=k.runT P (w.setCell a v) (es.push ⟨.cell a,true,m== .atomic⟩):=by cases v<;>first|exact absurd rfl (h1 _)|exact absurd rfl (h2 _)|simp[Sem.runT,hw,gU]
   rw[e1,push_eq_append];have cS:cP J (w.setCell a v) (U.setCell a v):=hs.modify hb (yy a v);have hk:Kept J w (w.setCell a v):=Kept.modify hs hb (yy a v);refine mB.step hk (λx hx=>?_) (ih (w.setCell a v) (U.setCell a v) _ h cS);simp at hx;subst hx;exact⟨hs.rU hb,Nat.lt_of_lt_of_le (hs.lt hb) hk.tI⟩
  cases v<;>first|exact h.elim|exact key h ak ak
 |new o k ih=>
  intro w U es h hs;unfold Sem.runT;exact mB.step0 (Kept.push hs o) (ih _ _ _ _ (h _ hs.fresh) (hs.push o))
 |shape r k ih=>
  rintro w U es ⟨hv,h⟩ hs;obtain⟨o,ho⟩:=Option.isSome_iff_exists.1 hv;unfold Sem.runT;rw[hs.Uw ho];exact ih _ _ _ _ h hs
 |freeze a n k ih=>
  rintro w U es ⟨hv,h⟩ hs;obtain⟨o,ho⟩:=Option.isSome_iff_exists.1 hv;unfold Sem.runT;by_cases hn:n=0
  ·have e1:w.freeze a n=w:=by simp[World.freeze,hn]
   have e2:U.freeze a n=U:=by simp[Hp.freeze,hn]
   rw[e1];rw[e2]at h;exact ih _ _ _ h hs
  ·have e1:w.freeze a n={w with heap:=w.heap.modify a.block (Ft a n)}:=by simp only[World.freeze,hn,if_false];rfl
   have e2:U.freeze a n=U.modify a.block (Ft a n):=by simp[Hp.freeze,hn]
   rw[e1];rw[e2]at h;exact mB.step0 (Kept.modify hs ho _) (ih _ _ _ h (hs.modify ho _))
 |frozen a k ih=>
  rintro w U es ⟨hv,h⟩ hs;obtain⟨o,ho⟩:=Option.isSome_iff_exists.1 hv;unfold Sem.runT;rw[hs.Jf ho];exact ih _ _ _ _ h hs
 |getObj r k ih=>
  rintro w U es ⟨o,ho,hc,h⟩ hs;have hw:=hs.heap ho
  have e1:(Sem.getObj r k).runT P w es=(k o).runT P w (es.push ⟨.obj r,false,o.isChan⟩):=by cases o<;>first|(simp[Bi]at hc;done)|(simp only[Sem.runT,hw])
  rw[e1,push_eq_append];refine mB.step (.refl J w) (λx hx=>?_) (ih _ _ _ _ h hs);simp at hx;subst hx;exact⟨hs.rU ho,hs.lt ho⟩
 |setObj r o k ih=>
  rintro w U es ⟨o',ho,hc,h⟩ hs;have hw:=hs.heap ho
  have e1:(Sem.setObj r o k).runT P w es=k.runT P {w with heap:=w.heap.setIfInBounds r o} (es.push ⟨.obj r,true,o.isChan⟩):=by cases o'<;>first|(simp[Bi]at hc;done)|(simp only[Sem.runT,hw])
  rw[e1,push_eq_append];refine mB.step (Kept.setObj hs ho o) (λx hx=>?_) (ih _ _ _ h (hs.setObj ho o));simp at hx;subst hx;refine⟨hs.rU ho,?_⟩;have:=hs.lt ho;simpa using this
 |choose q k ih=>
  intro w U es h hs;unfold wpS at h;unfold Sem.runT;split
  ·rename_i hf;rw[if_pos hf]at h;exact ih _ _ _ _ h hs
  ·rename_i hf;rw[if_neg hf]at h;exact mB.step0 (w₁:={w with drawn:=w.drawn+1}) ⟨λ_ _=>rfl,rfl,rfl,rfl,Nat.le_refl _⟩ (ih _ _ _ _ (h _) (hs.drew _))
 |sys c k ih=>exactλw U es h=>h.elim
 |program k ih=>exactλw U es h hs=>ih _ w U es h hs
 |mark m k ih=>
  rintro w U es ⟨hm,h⟩ hs;unfold Sem.runT;rw[push_eq_append];refine mB.step (.refl J w) (λx hx=>?_) (ih _ _ _ h hs);simp at hx;subst hx;exact hm
 |halt h=>exactλw U es x hs=>⟨w,U,#[],by simp[Sem.runT],hs,.refl J w,ak,.inr ⟨h,rfl,x⟩⟩
def bh{a c d:Nat}{x y:Option Obj}(h:U.f c=x)(k:U.f d=y)(e:x=y->False:=by intro e;cases e)(o:(a=c/\b=d)\/(a=d/\b=c):=by first|exact .inl ⟨rfl,rfl⟩|exact .inr ⟨rfl,rfl⟩):a≠b:=λz=>e (by rcases o with⟨u,v⟩|⟨u,v⟩<;>subst u<;>subst v<;>rw[<-h,<-k,z])
def ao:U.le U:=Hp.le_refl _
section
open Go.Conc
def gQ(P:Program)(main:Bool)(g:Goroutine)(U:Hp)(X:Goroutine->Hp->Prop):Prop:=
 ∀J w,cP J w U->(stepG P main g w).goes λg' w' es=>∃ae,cP J w' ae/\Kept J w w'/\(∀e∈es,iv J w'.heap.size e)/\g'.status=.running/\X g' ae
structure Env (P:Program) where
 main:Bool
 st:Goroutine->Hp->Machine->Trace->Prop
 iD:∀{g U R m T},st g U m T->R.le U->st g R m T
 own:∀g U m T (X:Goroutine->Hp->Prop),st g U m T->g.status=.running->gQ P main g U X->
  ∃N m' T' g' ae,runNT P N m T=(.next m',T')/\st g' ae m' T'/\g'.status=.running/\X g' ae
section
variable {J:Nat->Prop}{w:World}{U:Hp}
variable {P:Program}(E:Env P)
def ax (g:Goroutine)(U:Hp)(S:Goroutine->Hp->Prop):Prop:=
 ∀m T,E.st g U m T->∃N m' T' g' ae,runNT P N m T=(.next m',T')/\E.st g' ae m' T'/\S g' ae
variable {E}
def ax.here {g:Goroutine}{U:Hp}{S:Goroutine->Hp->Prop}(h:S g U):ax E g U S:=
 λm T hm=>⟨0,m,T,g,U,rfl,hm,h⟩
def ax.bind {g:Goroutine}{U:Hp}{S S':Goroutine->Hp->Prop}(h:ax E g U S)(k:∀g' ae,S g' ae->ax E g' ae S'):ax E g U S':=by intro m T hm;obtain⟨N,m',T',g',ae,h1,h2,h3⟩:=h m T hm;obtain⟨N',pg,oD,Cr,fZ,k1,k2,k3⟩:=k g' ae h3 m' T' h2;exact⟨N+N',pg,oD,Cr,fZ,runNT_then h1 k1,k2,k3⟩
def ax.iD {g:Goroutine}{U R:Hp}{S:Goroutine->Hp->Prop}(h:ax E g R S)(k:R.le U):ax E g U S:=
 λm T hm=>h m T (E.iD hm k)
def ax.mono {g:Goroutine}{U:Hp}{S S':Goroutine->Hp->Prop}(h:ax E g U S)(k:∀g' ae,S g' ae->S' g' ae):ax E g U S':=
 h.bind λg' ae x=>ax.here (k g' ae x)
def ax.step {g:Goroutine}{U:Hp}{S:Goroutine->Hp->Prop}{X:Goroutine->Hp->Prop}(hr:g.status=.running)(h:gQ P E.main g U X)(k:∀g' ae,X g' ae->ax E g' ae S):ax E g U S:=by intro m T hm;obtain⟨N,m',T',g',ae,h1,h2,_,h3⟩:=E.own g U m T X hm hr h;obtain⟨N',pg,oD,Cr,fZ,k1,k2,k3⟩:=k g' ae h3 m' T' h2;exact⟨N+N',pg,oD,Cr,fZ,runNT_then h1 k1,k2,k3⟩
def gQ.ctl {main:Bool}{g g':Goroutine}{U:Hp}{X:Goroutine->Hp->Prop}(h:∀w,stepG P main g w=.go g' w)(hr:g'.status=.running)(hX:X g' U):gQ P main g U X:=by intro J w hs;rw[h w];exact⟨U,hs,.refl J w,ak,hr,hX⟩
def ax.ctl {g g':Goroutine}{U:Hp}{S:Goroutine->Hp->Prop}(h:∀w,stepG P E.main g w=.go g' w)(hr:g.status=.running)(gC:g'.status=.running)(k:ax E g' U S):ax E g U S:=
 ax.step (X:=λsB rh=>sB=g'/\rh=U) hr (gQ.ctl h gC ⟨rfl,rfl⟩) (λ_ _ ⟨e1,e2⟩=>by subst e1;subst e2;exact k)
def gQ.mono {main:Bool}{g:Goroutine}{U:Hp}{X Y:Goroutine->Hp->Prop}(h:gQ P main g U X)(k:∀g' ae,X g' ae->Y g' ae):gQ P main g U Y:=by
 intro J w hs;have:=h J w hs
 cases hg:stepG P main g w<;>rw[hg]at this<;>first|exact this.elim|skip
 obtain⟨ae,h1,h2,h3,h4,h5⟩:=this;exact⟨ae,h1,h2,h3,h4,k _ _ h5⟩
end
def pB(V:Value->Hp->Prop)(D:Deferred->Hp->Prop)(C:FuncId->Array Value->Hp->Prop):Next->Hp->Prop
 | .value v,U=>V v U
 | .skip,U=>V undef U
 | .defer d,U=>D d U
 | .enter f args,U=>C f args U
 |_,_=>False
def se(Pn:Value->Hp->Prop):Halt->Hp->Prop
 | .panic v,U=>Pn v U
 |_,_=>False
variable {main:Bool}{b:Frame}{a:Act}{k:List Item}{cs:List Frame}
def My{ops:Array Oper}{i:Nat}{rest:List Nat}{o:Oper}(ho:ops[i]? =some o)(hw:Region.wanted o (yielded ops a.tmps)=true)(hk:b.kind≠.early){V:Value->Hp->Prop}{D:Deferred->Hp->Prop}{C:FuncId->Array Value->Hp->Prop}{Pn:Value->Hp->Prop}(h:wpS P (execOp a.eval o) (pB V D C) (se Pn) U):
 gQ P main (G (b.at a (.inRegion ops (i::rest)::k)) cs) U λg ae=>
  (∃v,V v ae/\g=G (b.at (a.put o.dst v) (.inRegion ops rest::k)) cs)\/
  (∃d,D d ae/\g=G (b.at ({a with defers:=d::a.defers}.put o.dst undef) (.inRegion ops rest::k)) cs)\/
  (∃f args,C f args ae/\g=G (Frame.enter P f args .normal) (b.at a (.inRegion ops (i::rest)::k)::cs))\/
  (∃v,Pn v ae/\g=G ((b.at a (.inRegion ops (i::rest)::k)).raise [{v,recovered:=false}]) cs):=by
 intro J w hs
 have fe:∀v,(b.at a (.inRegion ops (i::rest)::k)).finish v=b.at (a.put o.dst v) (.inRegion ops rest::k):=by intro v;rw[Frame.finish_at,ho];rfl
 have nY:(b.kind==CallKind.early)=false:=aV hk;obtain⟨w',ae,bW,e1,cS,dZ,fT,hr⟩:=oA (execOp a.eval o) w U #[] h hs;have gm:((execOp a.eval o).runT P w #[]).2=bW:=by simpa using e1
 rw[stepG_oper ho hw];have iz:∀e∈seen P b.fn bW,iv J w'.heap.size e:=λe he=>fT e (mem_seen he);rcases hr with⟨nx,hn,hq⟩|⟨hh,hn,hq⟩
 ·have e2:(execOp a.eval o).runT P w #[]=(.ok nx w',bW):=Prod.ext hn gm
  cases nx<;>first|exact hq.elim|skip
  ·rename_i v
   have:stepG.apply P true (b.at a (.inRegion ops (i::rest)::k)) cs none (execOp a.eval o) w=.go (G (b.at (a.put o.dst v) (.inRegion ops rest::k)) cs) w' (seen P b.fn bW):=by rw[<-fe];simp[stepG.apply,-Sem.runT_eq,e2,G,Frame.at,nY,GStep.after]
   rw[this];exact⟨ae,cS,dZ,iz,rfl,.inl ⟨v,hq,rfl⟩⟩
  ·have:stepG.apply P true (b.at a (.inRegion ops (i::rest)::k)) cs none (execOp a.eval o) w=.go (G (b.at (a.put o.dst undef) (.inRegion ops rest::k)) cs) w' (seen P b.fn bW):=by rw[<-fe];simp[stepG.apply,-Sem.runT_eq,e2,G,Frame.at,nY,GStep.after]
   rw[this];exact⟨ae,cS,dZ,iz,rfl,.inl ⟨undef,hq,rfl⟩⟩
  ·rename_i f args
   have:stepG.apply P true (b.at a (.inRegion ops (i::rest)::k)) cs none (execOp a.eval o) w=.go (G (Frame.enter P f args .normal) (b.at a (.inRegion ops (i::rest)::k)::cs)) w' (seen P b.fn bW):=by simp[stepG.apply,-Sem.runT_eq,e2,G,Frame.at,nY,GStep.after]
   rw[this];exact⟨ae,cS,dZ,iz,rfl,.inr (.inr (.inl ⟨f,args,hq,rfl⟩))⟩
  ·rename_i d
   have C2:({b.at a (.inRegion ops (i::rest)::k)with defers:=d::a.defers}:Frame).finish undef=b.at ({a with defers:=d::a.defers}.put o.dst undef) (.inRegion ops rest::k):=by have:=Frame.finish_at b {a with defers:=d::a.defers} ops i rest k undef;rw[ho]at this;exact this
   have:stepG.apply P true (b.at a (.inRegion ops (i::rest)::k)) cs none (execOp a.eval o) w=.go (G (b.at ({a with defers:=d::a.defers}.put o.dst undef) (.inRegion ops rest::k)) cs) w' (seen P b.fn bW):=by rw[<-C2];simp[stepG.apply,-Sem.runT_eq,e2,G,Frame.at,nY,GStep.after]
   rw[this];exact⟨ae,cS,dZ,iz,rfl,.inr (.inl ⟨d,hq,rfl⟩)⟩
 ·have e2:(execOp a.eval o).runT P w #[]=(.halt hh w',bW):=Prod.ext hn gm
  cases hh<;>first|exact hq.elim|skip
  rename_i v
  have:stepG.apply P true (b.at a (.inRegion ops (i::rest)::k)) cs none (execOp a.eval o) w=.go (G ((b.at a (.inRegion ops (i::rest)::k)).raise [{v,recovered:=false}]) cs) w' (seen P b.fn bW):=by simp[stepG.apply,-Sem.runT_eq,e2,G,Frame.at,nY,GStep.after]
  rw[this];exact⟨ae,cS,dZ,iz,rfl,.inr (.inr (.inr ⟨v,hq,rfl⟩))⟩
abbrev av:=Nat->Value
def up(I:av)(d:Nat)(v:Value)(t:Nat):Value:=if t=d then v else I t
def aA(I:av):Option Tmp->Value->av
 |some d,v=>up I d v
 |none,_=>I
def pr(N:Nat):Option Tmp->Bool
 |some d=>decide (d<N)
 |none=>true
def ai(I:av):Operand->Value
 | .tmp t=>I t
 | .const v=>v
 | .global g=>pV g
 | .func f=>.func (.func f) #[] #[]
def B4:Value->Option Bool
 | .bool b=>some b
 |_=>none
def gO(N:Nat)(ops:Array Oper)(I:av)(j:Nat):Option Bool:=
 match(ops[j]?).bind (·.dst)with
 |some d=>if d<N then B4 (I d)else none
 |none=>none
structure cM (N:Nat) (a:Act) (I:av) (ds:List Deferred):Prop where
 size:a.tmps.size=N
 defers:a.defers=ds
 tmps:∀t,a.tmps.getD t undef=I t
variable {N:Nat}{I:av}{ds:List Deferred}
def cM.eval (h:cM N a I ds):a.eval=ai I:=by
 funext x
 cases x<;>simp only[Act.eval,ai]
 exact h.tmps _
def cM.yc(h:cM N a I ds)(ops:Array Oper):yielded ops a.tmps=gO N ops I:=by
 funext j
 unfold yielded gO
 cases(ops[j]?).bind (·.dst)with
 |none=>rfl
 |some d=>
  simp only[Option.bind_some];by_cases hd:d<N
  ·rw[if_pos hd];have jv:d<a.tmps.size:=by rw[h.size];exact hd
   have:=h.tmps d;rw[Array.getD_eq_getD_getElem?,Array.getElem?_eq_getElem jv,Option.getD_some]at this;rw[Array.getElem?_eq_getElem jv,this]
   cases I d<;>rfl
  ·rw[if_neg hd];rw[Array.getElem?_eq_none (by rw[h.size];exact Nat.le_of_not_lt hd)]
def cM.put (h:cM N a I ds){dst:Option Tmp}(hd:pr N dst=true)(v:Value):cM N (a.put dst v) (aA I dst v) ds:=by
 cases dst with
 |none=>exact h
 |some d=>
  have jv:d<N:=of_decide_eq_true hd;refine⟨by simp[Act.put,h.size],h.defers,λt=>?_⟩;simp only[Act.put,aA,up];have:=h.tmps t;rw[Array.getD_eq_getD_getElem?]at this|-;by_cases e:t=d
  ·subst e;rw[if_pos rfl,Array.getElem?_setIfInBounds_self_of_lt (by rw[h.size];exact jv)];rfl
  ·rw[if_neg e,Array.getElem?_setIfInBounds_ne (λz=>e z.symm)];exact this
def cM.defer(h:cM N a I ds)(d:Deferred):cM N {a with defers:=d::a.defers} I (d::ds):=⟨h.size,by simp[h.defers],h.tmps⟩
inductive Fin where
 |returned (v:Value)
 |panicked (chain:List PanicEntry)
inductive Ex where
 |normal
 |exit (id:Nat)
 |ret
 |panic (chain:List PanicEntry)
def By(fn:Func)(I:av):Sem Value:=do
 let vs<-fn.results.mapM λ
  | .tmp t=>pure (I t)
  | .cell a t=>do loadVar t (<-asAddr (I a))
 pure (if h:vs.size=1 then vs[0]else .tuple vs)
def Leaving(P:Program)(fr:Frame)(U:Hp):Fin->Prop
 | .returned v=>fr.mode=.returning/\fr.defers=[]/\fr.kind=.normal/\∃fn,P.funcs[fr.fn]? =some fn/\wpS P (results fn fr.tmps) (λv' ae=>v'=v/\ae=U) (λ_ _=>False) U
 | .panicked chain=>fr.mode=.panicking chain/\fr.defers=[]/\∃fn,P.funcs[fr.fn]? =some fn
section
variable {U:Hp}
variable {P:Program}(E:Env P)
def aw (f:FuncId)(args:Array Value)(U:Hp)(atA:Fin->Hp->Prop):Prop:=
 ∀cs,ax E (G (Frame.enter P f args .normal) cs) U λg ae=>∃e fr,g=G fr cs/\fr.fn=f/\Leaving P fr ae e/\atA e ae
def aw.mono {E:Env P}{f:FuncId}{args:Array Value}{U:Hp}{atA R':Fin->Hp->Prop}(h:aw E f args U atA)(k:∀e ae,atA e ae->R' e ae):aw E f args U R':=
 λcs=>(h cs).mono λ_ _ ⟨e,fr,h1,h0,h2,h3⟩=>⟨e,fr,h1,h0,h2,k _ _ h3⟩
abbrev Rv (v:Value)(U:Hp):Fin->Hp->Prop:=λe R=>e=.returned v/\R=U
abbrev Post:=Ex->av->List Deferred->Hp->Prop
def xL (nx:Value->Hp->Prop)(pn:List PanicEntry->Hp->Prop):Fin->Hp->Prop
 | .returned v,U=>nx v U
 | .panicked ch,U=>pn ch U
def wpOp (o:Oper)(I:av)(ds:List Deferred)(U:Hp)(nx:av->List Deferred->Hp->Prop)(pn:List PanicEntry->Hp->Prop):Prop:=
 wpS P (execOp (ai I) o) (pB (λv ae=>nx (aA I o.dst v) ds ae) (λd ae=>nx (aA I o.dst undef) (d::ds) ae)
  (λf args ae=>aw E f args ae (xL (λv fZ=>nx (aA I o.dst v) ds fZ) pn)))
  (se λv ae=>pn [{v,recovered:=false}] ae) U
end
variable {E:Env P}{fr c:Frame}{v:Value}{S:Goroutine->Hp->Prop}
def aiA(h:Leaving P fr U (.returned v))(k:ax E (G (c.finish v) cs) U S):ax E (G fr (c::cs)) U S:=by
 obtain⟨hm,hd,hk,fn,hf,hr⟩:=h;refine ax.step (X:=λsB rh=>sB=G (c.finish v) cs/\rh=U) rfl (λJ w hs=>?_) (λ_ _ ⟨e1,e2⟩=>by subst e1;subst e2;exact k);obtain⟨w',ae,bW,e1,cS,dZ,fT,fC⟩:=oA (results fn fr.tmps) w U #[] hr hs;rcases fC with⟨v',hn,rfl,rfl⟩|⟨_,_,hf⟩
 ·have gm:((results fn fr.tmps).runT P w #[]).2=bW:=by simpa using e1
  have e2:(results fn fr.tmps).runT P w #[]=(.ok v' w',bW):=Prod.ext hn gm
  have:stepG P E.main (G fr (c::cs)) w=.go (G (c.finish v') cs) w' (seen P fr.fn bW):=by simp[G,stepG,hm,unwind,hd,hf,-Sem.runT_eq,e2,doReturn,hk,GStep.after]
  rw[this];exact⟨_,cS,dZ,λe he=>fT e (mem_seen he),rfl,rfl,rfl⟩
 ·exact hf.elim
def aiz{chain:List PanicEntry}(h:Leaving P fr U (.panicked chain))(k:ax E (G (c.raise chain) cs) U S):ax E (G fr (c::cs)) U S:=by obtain⟨hm,hd,fn,hf⟩:=h;refine ax.ctl (g':=G (c.raise chain) cs) (λw=>?_) rfl rfl k;simp[G,stepG,hm,unwind,hd,Frame.catches,hf]
def aw.run{f:FuncId}{args:Array Value}{atA:Fin->Hp->Prop}(h:aw E f args U atA)(hv:∀v ae,atA (.returned v) ae->ax E (G (c.finish v) cs) ae S)(hp:∀ch ae,atA (.panicked ch) ae->ax E (G (c.raise ch) cs) ae S):ax E (G (Frame.enter P f args .normal) (c::cs)) U S:=by
 refine(h (c::cs)).bind ?_;rintro g ae ⟨e,fr,rfl,_,hl,hR⟩
 cases e with
 |returned v=>exact aiA hl (hv v ae hR)
 |panicked ch=>exact aiz hl (hp ch ae hR)
theorem bl(a:α):wpS P (pure a:Sem α) Q H U=Q a U:=rfl
variable {β:Type}{atA:β->Hp->Prop}
theorem aF(s:Sem α)(f:α->Sem β):wpS P (s>>=f) atA H U=wpS P s (λa U=>wpS P (f a) atA H U) H U:=by
 apply propext;constructor
 ·show wpS P (s.bind f) atA H U->_
  induction s generalizing U with
  |pure a=>exactλh=>h
  |load m a k ih=>exactλ⟨v,hv,h⟩=>⟨v,hv,ih v h⟩
  |store m a v k ih=>
   intro h
   cases v<;>first|exact h.elim|exact⟨h.1,h.2.1,ih h.2.2⟩
  |new o k ih=>exactλh b hb=>ih _ (h b hb)
  |shape r k ih=>exactλh=>⟨h.1,ih _ h.2⟩
  |freeze a n k ih=>exactλh=>⟨h.1,ih h.2⟩
  |frozen a k ih=>exactλh=>⟨h.1,ih _ h.2⟩
  |getObj r k ih=>exactλ⟨o,ho,hc,h⟩=>⟨o,ho,hc,ih _ h⟩
  |setObj r o k ih=>exactλ⟨o',ho,hc,h⟩=>⟨o',ho,hc,ih h⟩
  |choose q k ih=>
   intro h;unfold Sem.bind at h;unfold wpS at h|-;split
   ·rename_i hf;rw[if_pos hf]at h;exact ih _ h
   ·rename_i hf;rw[if_neg hf]at h;exactλt=>ih _ (h t)
  |sys c k ih=>exactλh=>h.elim
  |program k ih=>exactλh=>ih _ h
  |mark m k ih=>exactλh=>⟨h.1,ih h.2⟩
  |halt h=>exactλx=>x
 ·exact aqv f s U
theorem aqA(s:Sem α)(f:α->β):wpS P (f<$>s) atA H U=wpS P s (λa U=>atA (f a) U) H U:=aF s (λa=>pure (f a))
def zK{Q:Program->Hp->Prop}:wpS P program Q H U=Q P U:=rfl
def Vi(a:Addr)(m:Mode){Q:Value->Hp->Prop}:wpS P (load a m) Q H U=∃v,U.cell? a=some v/\Q v U:=rfl
def xY(o:Obj){Q:Nat->Hp->Prop}:wpS P (newObj o) Q H U=∀b,U.f b=none->Q b (U.set b o):=rfl
def oz(r:Nat){Q:Obj->Hp->Prop}:wpS P (getObj r) Q H U=∃o,U.f r=some o/\Bi o=true/\Q o U:=rfl
def tv(r:Nat)(o:Obj){Q:Unit->Hp->Prop}:wpS P (setObj r o) Q H U=∃o',U.f r=some o'/\Bi o'=true/\Q () (U.set r o):=rfl
def zL(r:Nat){Q:Option (TypeId×Nat)->Hp->Prop}:wpS P (shape r) Q H U=((U.f r).isSome=true/\Q (U.shape? r) U):=rfl
def HM(a:Addr){Q:Bool->Hp->Prop}:wpS P (frozen a) Q H U=((U.f a.block).isSome=true/\Q (U.frozen? a) U):=rfl
def Vh(a:Addr)(n:Nat){Q:Unit->Hp->Prop}:wpS P (freeze a n) Q H U=((U.f a.block).isSome=true/\Q () (U.freeze a n)):=rfl
def HL(q:Question){Q:Nat->Hp->Prop}:wpS P (choose q) Q H U=if q.forced then Q 0 U else∀t,Q (q.cut t) U:=rfl
def M1(m:Mark){Q:Unit->Hp->Prop}:wpS P (mark m) Q H U=(Bm m=true/\Q () U):=rfl
def eg(t:TypeId){Q:TypeDesc->Hp->Prop}:wpS P (underlying t) Q H U=match P.underlying t with|some d=>Q d U|none=>H (.stuck "no such type") U:=by
 simp only[underlying,aF,zK]
 cases P.underlying t<;>rfl
def fO(t:TypeId){Q:TypeInfo->Hp->Prop}:wpS P (typeInfo t) Q H U=match P.info? t with|some i=>Q i U|none=>H (.stuck "no such type") U:=by
 simp only[typeInfo,aF,zK]
 cases P.info? t<;>rfl
def di:Value->Bool
 | .agg _| .tuple _=>false
 |_=>true
def aqB{Q:Unit->Hp->Prop}(a:Addr)(v:Value)(h:di v=true):
 wpS P (store a v) Q H U=((∃u,U.cell? a=some u)/\U.frozen? a=false/\Q () (U.setCell a v)):=by
 cases v<;>first|rfl|cases h
def dD(P:Program)(t:TypeId):Bool:=match P.underlying t with|some (.struct _)|some (.array _ _)=>true|_=>false
def dk(P:Program)(t:TypeId):Bool:=(P.underlying t).isSome&&(P.info? t).isSome
def cC(P:Program)(t:TypeId):Nat:=match P.info? t with|some i=>i.size|none=>0
def du(P:Program)(t:TypeId):Option Value:=match P.info? t with|some i=>i.zero|none=>none
def bL(P:Program)(s:TypeId)(f:Nat):Option Nat:=
 match P.underlying s with
 |some (.struct fs)=>match fs[f]? with
  |some x=>if(P.info? x.type).isSome&&cC P x.type !=0 then some x.offset else none
  |none=>none
 |_=>none
def tn(P:Program)(t:TypeId):Option TypeId:=match P.underlying t with|some (.slice e)=>some e|_=>none
def cellsOf(U:Hp)(a:Addr)(n:Nat):Option (Array Value):=
 match U.f a.block with
 |some (.cells c _ _)=>if a.spot=none/\a.off+n<=c.size then some (c.extract a.off (a.off+n))else none
 |_=>none
variable {a:Addr}
def Addr.Ff(h:a.spot=none)(i:Nat):a.add i=⟨a.block,a.off+i,none⟩:=by
 obtain⟨b,o,s⟩:=a;simp only at h;subst h;unfold Addr.add;split
 ·rename_i h;subst h;simp
 ·rfl
variable {c:Array Value}{e:TypeId}{z:Nat×Nat}
def M0(hb:U.f a.block=some (.cells c e z))(hs:a.spot=none)(n:Nat):
 ∀(i:Nat) (acc:Array Value) (Q:Array Value->Hp->Prop),a.off+i+n<=c.size->Q (acc++c.extract (a.off+i) (a.off+i+n)) U->wpS P (loadCellsFrom a i n acc) Q H U:=by
 induction n with
 |zero=>
  intro i acc Q _ h
  have e:acc++c.extract (a.off+i) (a.off+i+0)=acc:=by apply Array.ext';simp only[Array.toList_append,Array.toList_extract,List.extract_eq_take_drop];simp
  rw[e]at h;exact h
 |succ n ih=>
  intro i acc Q aZ h
  have hc:U.cell? (a.add i)=some c[a.off+i]:=by rw[Addr.Ff hs];simp[Hp.cell?,hb]
  simp only[loadCellsFrom,aF,Vi];refine⟨_,hc,ih (i+1) _ Q aa ?_⟩
  have:acc.push c[a.off+i]++c.extract (a.off+(i+1)) (a.off+(i+1)+n)=acc++c.extract (a.off+i) (a.off+i+(n+1)):=by
   apply Array.ext';simp only[Array.toList_append,Array.toList_push,Array.toList_extract,List.append_assoc];congr 1;simp only[List.extract_eq_take_drop,List.singleton_append];rw[show a.off+(i+1)+n-(a.off+(i+1))=n by omega,show a.off+i+(n+1)-(a.off+i)=n+1 by omega]
   have hd:List.drop (a.off+i) c.toList=c[a.off+i]::List.drop (a.off+(i+1)) c.toList:=by rw[List.drop_eq_getElem_cons (by simpa using(by omega:a.off+i<c.size))];simp[Nat.add_assoc]
   rw[hd,List.take_succ_cons]
  rw[this];exact h
def oj(P:Program)(t:TypeId)(a:Addr)(U:Hp)(k:Value->Prop):Prop:=
 if dD P t then match cellsOf U a (cC P t)with
  |some cs=>k (.agg cs)
  |none=>False
 else match U.cell? a with
  |some v=>k v
  |none=>False
def rO{t:TypeId}{Q:Value->Hp->Prop}(ht:dk P t=true)(h:oj P t a U (λv=>Q v U)):wpS P (loadVar t a) Q H U:=by
 unfold dk at ht;simp only[Bool.and_eq_true,Option.isSome_iff_exists]at ht;obtain⟨⟨d,hd⟩,⟨i,hi⟩⟩:=ht;unfold oj dD at h;simp only[loadVar,isAgg,aF,eg,hd]
 have key:∀(b:Bool),(if b=true then(match cellsOf U a (cC P t)with|some cs=>Q (.agg cs) U|none=>False)else(match U.cell? a with|some v=>Q v U|none=>False))->
  wpS P (if b=true then(do pure (.agg (<-loadCells a (<-sizeOf t))))else load a:Sem Value) Q H U:=by
  intro b hh
  cases b with
  |true=>
   simp only[if_true]at hh|-;simp only[sizeOf,aF,fO,hi,bl];unfold cellsOf at hh;split at hh
   ·rename_i cs jQ;split at jQ
    ·rename_i c e z hb;split at jQ
     ·rename_i aZ;obtain rfl:=Option.some.inj jQ;refine M0 hb aZ.1 _ 0 #[] _ (by have:=aZ.2;simpa[cC,hi]using this) ?_;have e1:cC P t=i.size:=by simp[cC,hi]
      rw[e1]at hh;simpa using hh
     ·cases jQ
    ·cases jQ
   ·exact hh.elim
  |false=>
   simp only[Bool.false_eq_true,if_false]at hh|-;simp only[Vi];split at hh
   ·rename_i v hv;exact⟨v,hv,hh⟩
   ·exact hh.elim
 rw[hd]at h
 cases d<;>simp only[bl]at h|-<;>first|exact key true h|exact key false h
def Hp.ext'(hf:∀b,U.f b=R.f b):U=R:=by obtain⟨f⟩:=U;obtain⟨g⟩:=R;have:f=g:=funext hf;subst this;rfl
variable {b:Nat}
def Hp.modify_eq(hb:U.f b=some o)(g:Obj->Obj):U.modify b g=U.set b (g o):=
 Hp.ext' λx=>by simp only[Hp.modify,Hp.set,hb,Option.map_some]
def Hp.set_set(b:Nat)(o o':Obj):(U.set b o).set b o'=U.set b o':=
 Hp.ext' λx=>by simp only[Hp.set];split<;>rfl
def Hp.Hm(hb:U.f b=some o):U.set b o=U:=
 Hp.ext' λx=>by
  simp only[Hp.set];split
  ·rename_i h;rw[h,hb]
  ·rfl
def Hp.bD(b:Nat)(o:Obj):(U.set b o).f b=some o:=by simp[Hp.set]
def Hp.aM{x:Nat}(o:Obj)(h:x≠b):(U.set b o).f x=U.f x:=by simp[Hp.set,h]
def anV(hb:U.f a.block=some (.cells c e z))(hs:a.spot=none):U.setCell a v=U.set a.block (.cells (c.setIfInBounds a.off v) e z):=by unfold Hp.setCell;rw[Hp.modify_eq hb];simp[yy,hs]
def tp(P:Program)(t:TypeId)(a:Addr)(v:Value)(U:Hp)(k:Hp->Prop):Prop:=
 match U.f a.block with
 |some (.cells c e z)=>
  if di v then a.spot=none/\a.off<c.size/\z=(0,0)/\cC P t=1/\k (U.set a.block (.cells (c.setIfInBounds a.off v) e z))
  else a.spot=none/\a.off+v.cells.size<=c.size/\z=(0,0)/\cC P t=v.cells.size/\v.cells.all di=true/\
   k (U.set a.block (.cells (c.extract 0 a.off++v.cells++c.extract (a.off+v.cells.size) c.size) e z))
 |_=>False
def ER(hs:a.spot=none)(vs:List Value):
 ∀(i:Nat) (c:Array Value) (U:Hp) (Q:Unit->Hp->Prop),U.f a.block=some (.cells c e (0,0))->a.off+i+vs.length<=c.size->vs.all di=true->
  Q () (U.set a.block (.cells (c.extract 0 (a.off+i)++vs.toArray++c.extract (a.off+i+vs.length) c.size) e (0,0)))->wpS P (storeCells a vs i) Q H U:=by
 induction vs with
 |nil=>
  intro i c U Q hb aZ _ h;simp only[storeCells,bl]
  have e1:c.extract 0 (a.off+i)++([]:List Value).toArray++c.extract (a.off+i+([]:List Value).length) c.size=c:=by apply Array.ext';simp only[Array.toList_append,Array.toList_extract,List.extract_eq_take_drop,Nat.sub_zero,List.drop_zero,List.append_nil,List.length_nil,Nat.add_zero];rw[List.take_of_length_le (l:=List.drop (a.off+i) c.toList) ak];exact List.take_append_drop _ _
  rw[e1,Hp.Hm hb]at h;exact h
 |cons v vs ih=>
  intro i c U Q hb aZ lK h;simp only[List.all_cons,Bool.and_eq_true]at lK;simp only[List.length_cons]at aZ;simp only[storeCells,aF];rw[aqB _ _ lK.1,Addr.Ff hs];have cD:U.f (⟨a.block,a.off+i,none⟩:Addr).block=some (.cells c e (0,0)):=hb;have yV:a.off+i<c.size:=aa;refine⟨⟨c[a.off+i],by simp[Hp.cell?,hb,yV]⟩,by simp[Hp.frozen?,hb],?_⟩;rw[anV cD rfl];refine ih (i+1) (c.setIfInBounds (a.off+i) v) _ Q (Hp.bD _ _) (by simp;omega) lK.2 ?_;rw[Hp.set_set]
  have e1:(c.setIfInBounds (a.off+i) v).extract 0 (a.off+(i+1))++vs.toArray++(c.setIfInBounds (a.off+i) v).extract (a.off+(i+1)+vs.length) (c.setIfInBounds (a.off+i) v).size=c.extract 0 (a.off+i)++(v::vs).toArray++c.extract (a.off+i+(v::vs).length) c.size:=by
   apply Array.ext';simp only[Array.toList_append,Array.toList_extract,Array.toList_setIfInBounds,List.extract_eq_take_drop,Nat.sub_zero,List.drop_zero,Array.size_setIfInBounds,List.length_cons]
   have h1:List.take (a.off+(i+1)) (c.toList.set (a.off+i) v)=List.take (a.off+i) c.toList++[v]:=by rw[show a.off+(i+1)=(a.off+i)+1 by omega,List.take_succ_eq_append_getElem (aV yV)];rw[List.take_set_of_le (Nat.le_refl _)];simp
   have h2:List.drop (a.off+(i+1)+vs.length) (c.toList.set (a.off+i) v)=List.drop (a.off+i+(vs.length+1)) c.toList:=by rw[List.drop_set_of_lt aa,show a.off+(i+1)+vs.length=a.off+i+(vs.length+1)by omega]
   rw[h1,h2,show c.size-(a.off+(i+1)+vs.length)=c.size-(a.off+i+(vs.length+1))by omega];simp
  rw[e1];exact h
def OL(h:di v=true):v.cells= #[v]:=by cases v<;>first|rfl|cases h
def Hs{t:TypeId}{Q:Unit->Hp->Prop}(ht:dk P t=true)(h:tp P t a v U (λae=>Q () ae)):wpS P (storeVar t a v) Q H U:=by
 unfold dk at ht;simp only[Bool.and_eq_true,Option.isSome_iff_exists]at ht;obtain⟨_,⟨i,hi⟩⟩:=ht;unfold tp at h;split at h
 ·rename_i c e z hb;have gD:cC P t=i.size:=by simp[cC,hi]
  simp only[storeVar,sizeOf,aF,fO,hi,bl];split at h
  ·rename_i hv;obtain⟨hs,aZ,rfl,h1,hk⟩:=h;rw[OL hv];rw[if_neg (by simp;omega)];simp only[bl];refine ER hs [v] 0 c U _ hb (by simp;omega) (by simp[hv]) ?_
   have e1:c.extract 0 (a.off+0)++[v].toArray++c.extract (a.off+0+[v].length) c.size=c.setIfInBounds a.off v:=by apply Array.ext';simp only[Array.toList_append,Array.toList_extract,Array.toList_setIfInBounds,List.extract_eq_take_drop,Nat.sub_zero,List.drop_zero,Nat.add_zero,List.length_cons,List.length_nil,Nat.zero_add];rw[List.set_eq_take_append_cons_drop,if_pos (aV aZ),List.take_of_length_le (l:=List.drop (a.off+1) c.toList) ak];simp
   rw[e1];exact hk
  ·obtain⟨hs,aZ,rfl,h1,lK,hk⟩:=h;rw[if_neg aa];refine ER hs v.cells.toList 0 c U _ hb (aV aZ) (by rw[<-Array.all_toList]at lK;exact lK) ?_;simpa using hk
 ·exact h.elim
def aT:(U.set b o).f b=some o:=Hp.bD _ _
end
end Go.Qw
