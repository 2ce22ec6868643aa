/- 13 -/
import Derived.Test.YtpiabknabfbfhaaGreatDoorKept12
set_option linter.all false
set_option maxRecDepth 100000
set_option maxHeartbeats 8000000
namespace Go.Qw
open Go Go.Conc Go.Proofs Go.Proofs.Tryz
variable {U:Hp}
def ajW{h:Nat}{Q:FuncId×Value->Hp->Prop}{H:Halt->Hp->Prop}:wpS prog (method (prog.types.size+Made.depth) 185 (pV h) "Take") Q H U=Q (328,pV h) U:=ah
section
variable {E:Env prog}{H:Hid}{n:N}{X:Ext}{U:Hp}{no:Nat}{c:CN}{h:HN}{nm:List UInt8}{q:QN}{m:aR}{k:Int}{x:XN}
variable {A:Lay}{id:Int}
def Wy (n:N)(k:Int)(m:aR):Prop:=∃(x:XN) (c:CN) (h:HN) (q:QN) (fr:Nat),n.x? k=some x/\n.ar x.id=some c/\n.h? x.id x.no=some h/\n.q? x.q=some q/\(0<=h.r.tag/\h.r.tag<=1000000000000)/\(0<=q.held/\q.held<=1000000)/\(∀e∈h.un,(e.1:Int)≠h.r.tag+1)/\
 c.r.frame=(fr:Int)/\(9<=fr/\fr<=1000000)/\x.no<1000000/\c.r.out.length<=100000000000000/\m.body.length<=100000/\m.key.length<=1000/\x.tag.length<=1000
structure IM (n:N):Prop where
 jG:dR cP (n.aN.map (·.1))
 len:n.aN.length<=12
 vq:∀nm q,n.q? nm=some q->IG n nm q/\q.ready.length<=1000
 take:∀nm q m ms k,n.q? nm=some q->q.ready=m::ms->n.vq q=some k->Wy (n.bK nm λq=>{q with ready:=q.ready.tail,last:=k}) k m
def Uy {f:QN->QN}:(n.bK nm f).aN.map (·.1)=n.aN.map (·.1):=oQ n.aN nm f λx=>x
def anp {na:Bool}:(n.hand id no nm m na).aN.map (·.1)=n.aN.map (·.1):=by
 unfold N.hand;split
 ·rfl
 ·rw[Uy];rfl
def anr:(n.take k m).aN.map (·.1)=n.aN.map (·.1):=by
 unfold N.take;split
 ·rfl
 ·exact anp
def anq {n':N}(h:n.ja nm=some n'):n'.aN.map (·.1)=n.aN.map (·.1):=by
 unfold N.ja at h;split at h
 ·cases h
 ·split at h
  ·cases h
  ·split at h
   ·cases h
   ·cases h;rw[anr,Uy]
def arv {j:Int}:(n.take k m).x? j=n.x? j:=by
 unfold N.take;split
 ·rfl
 ·simp only[N.give,V2,V1]
def aoJ {f:Nat}(h:n.ja nm=none):n.kM f nm=n:=by
 cases f with
 |zero=>rfl
 |succ f=>unfold N.kM;rw[h]
def aoI (hq:n.q? nm=some q){ms:List aR}(hr:q.ready=m::ms)(ht:n.vq q=some k):n.ja nm=some ((n.bK nm λq=>{q with ready:=q.ready.tail,last:=k}).take k m):=by unfold N.ja;simp only[hq,hr,ht]
def Uv {na:Bool}{di:List UInt8}(h:n.q? di=some q):∃q',(n.hand id no nm m na).q? di=some q'/\q'.ready=q.ready:=by
 unfold N.hand;split
 ·exact⟨q,h,rfl⟩
 ·rw[vc];split
  ·exact⟨{q with held:=q.held+1},by rw[HL,h];rfl,rfl⟩
  ·exact⟨q,h,rfl⟩
def anl (h:n.q? nm=some q):∃q',(n.take k m).q? nm=some q'/\q'.ready=q.ready:=by
 unfold N.take;split
 ·exact⟨q,h,rfl⟩
 ·exact Uv h
def U0 {auu:N->Prop}(hJ:∀n,auu n->IM n)(j0:∀n nm n',auu n->n.ja nm=some n'->auu n')(a:aq A H n X U)(j:auu n):
 aw E 54 #[pV A.br] U λe J=>e=.returned (.tuple #[])/\At A n.serve X J/\auu n.serve:=by
 refine Z2 func54 ntmps54 results54 rfl al λQ aD an aB=>?_;have S:=hJ n j;obtain⟨lq,kq,jy,gT,l8⟩:=a.mq;have R6:lq.length=n.aN.length:=by have:=l8.length_eq;simpa using this
 obtain⟨nf,zy⟩:∃nf:Nat->List UInt8,∀e∈n.aN,nf (A.queue e.1)=e.1:=by
  refine⟨λb=>((n.aN.find? λe=>decide (A.queue e.1=b)).map (·.1)).getD [],λe he=>?_⟩
  cases hf:n.aN.find? λe'=>decide (A.queue e'.1=A.queue e.1)with
  |none=>have:=List.find?_eq_none.1 hf e he;simp at this
  |some e'=>
   have h1:=List.find?_some hf;simp only[decide_eq_true_eq]at h1;have:=a.inj (.queue e'.1) (.queue e.1) (by have:=xX (List.mem_of_find?_eq_some hf);simpa[view]using this) (by have:=xX he;simpa[view]using this) (by simpa[cG]using h1);injection this with e1;simp only[hf];simpa using e1
 have th:=l8.map (·.2);simp only[List.map_map]at th;obtain⟨qs,zC,nL⟩:=zR th (xs:=n.aN.map λe=>A.queue e.1) (f:=dY) (by simp[List.map_map,Function.comp_def,dY])
 have KQ:qC U nf qs:=by intro b hb;obtain⟨e,he,rfl⟩:=List.mem_map.1 (zC.mem_iff.1 hb);obtain⟨q,hq⟩:=Option.isSome_iff_exists.1 (xX he);exact⟨_,a.tH hq,by simp[zy e he]⟩
 refine ag ?_;refine aL (Vg a.tU rfl jy gT.old gT.nd (by rw[R6];exact S.len) (by simpa[Function.comp_def]using nL) KQ) ?_;rintro v J ⟨hle,v',ys,hv,p1,p2,p3,p4⟩
 cases hv
 have wD:ys=n.aN.map λe=>A.queue e.1:=by
  have e1:ys.map nf=n.aN.map (·.1):=by
   refine Ah wK I5 (((p1.trans zC).map nf).trans ?_) ?_ S.jG
   ·rw[List.map_map];have:(n.aN.map (nf∘λe=>A.queue e.1))=n.aN.map (·.1):=List.map_congr_left λe he=>zy e he;rw[this]
   ·rw[dR,List.pairwise_map];exact p2
  have e2:ys.map (λb=>A.queue (nf b))=ys:=by
   conv=>rhs;rw[<-List.map_id ys]
   apply List.map_congr_left;intro b hb;obtain⟨e,he,rfl⟩:=List.mem_map.1 ((p1.trans zC).mem_iff.1 hb);simp[zy e he]
  rw[<-e2];have:=congrArg (List.map A.queue) e1;simpa[List.map_map,Function.comp_def]using this
 subst wD;obtain⟨X',a1,rn⟩:=a.AB hle p3 p4;obtain⟨base,cap,rfl,_⟩:=p3.read;have hl:(n.aN.map λe=>A.queue e.1).length=n.aN.length:=al;refine aJ hl ?_;refine dh (λm I ds ae=>ds=[]/\I 8=.slice base n.aN.length cap/\I 9=iV n.aN.length/\∃(j:Nat) (H':Hid) (n1:N),j+m=n.aN.length/\I 10=iV j/\aq A H' n1 X' ae/\auu n1/\n1.aN.map (·.1)=n.aN.map (·.1)/\n1=((n.aN.map (·.1)).take j).foldl (λn nm=>n.kM (n.ready nm) nm) n) n.aN.length ?_ ?_
 ·refine⟨rfl,?_,?_,0,H,n,al,?_,a1,j,rfl,rfl⟩<;>exact aQ hl
 rintro m I ds cY Y ⟨rfl,h8,h9,i,H1,n1,xL,bB,a1,j1,iB,xN⟩ hY
 cases m with
 |zero=>
  have c0:¬(i:Int)<n.aN.length:=aa;have xJ:i=n.aN.length:=aa;simp only[go_sem,seval,h9,bB,c0,decide_false];have e:n1=n.serve:=by rw[xN,xJ,List.take_of_length_le al];rfl
  exact aD dz ao ⟨rfl,⟨H1,by rw[<-e];exact(rn a1).1⟩,by rw[<-e];exact j1⟩
 |succ m=>
  have hi:i<n.aN.length:=aa;have c0:(i:Int)<n.aN.length:=aa;have S1:=hJ n1 j1;obtain⟨_,sj⟩:=rn a1;obtain⟨b2,yX,e2,r2⟩:=sj.read;simp only[Value.slice.injEq]at e2;obtain⟨rfl,_,_⟩:=e2;obtain⟨ba,L,rfl,ij,hL⟩:=r2 i (aY hi);simp only[List.getElem_map,dY]at hL;obtain⟨nm,jJ⟩:∃nm,nm=n.aN[i].1:=⟨_,rfl⟩;rw[<-jJ]at hL
  have KZ:∀n2:N,n2.aN.map (·.1)=n.aN.map (·.1)->(n2.q? nm).isSome:=by
   intro n2 h2;have:nm∈n2.aN.map (·.1):=by rw[h2,jJ];exact List.mem_map_of_mem (List.getElem_mem hi)
   obtain⟨e,he,h3⟩:=List.mem_map.1 this;rw[<-h3];exact xX he
  have w1:IntKind.i64.wrap ((i:Int)+1)=((i+1:Nat):Int):=by have:=S.len;rw[wrap64 aa aa];rfl
  simp only[go_sem,seval,h8,h9,bB,c0,decide_true];refine⟨aa,?_⟩;refine bu ij hL ?_;refine dh (λm' I ds gE=>ds=[]/\I 3=pV (A.queue nm)/\I 8=.slice (some ⟨ba,0,none⟩) n.aN.length cap/\I 9=iV n.aN.length/\I 10=iV i/\∃(H':Hid) (n2:N),aq A H' n2 X' gE/\auu n2/\n2.aN.map (·.1)=n.aN.map (·.1)/\n2.ready nm=m'/\n2.kM (n2.ready nm) nm=n1.kM (n1.ready nm) nm) (n1.ready nm) ?_ ?_
  ·refine⟨rfl,?_,?_,?_,?_,H1,n1,a1,j1,iB,rfl,rfl⟩<;>exact nW h8 h9 bB
  rintro m' I ds jo Y2 ⟨rfl,h3,h8,h9,bB,H2,n2,a2,j2,ik,bZ,iK⟩ Kc;have S2:=hJ n2 j2;obtain⟨q,hq⟩:=Option.isSome_iff_exists.1 (KZ n2 ik);obtain⟨T2,DZ⟩:=S2.vq nm q hq;have hrq:n2.ready nm=q.ready.length:=by unfold N.ready;rw[hq];rfl
  obtain⟨rb,rc,iq⟩:=(a2.ft hq).shape;have mJ:=a2.tH hq;rw[iq]at mJ
  have step:∀n3:N,n3=n1.kM (n1.ready nm) nm->n3=((n.aN.map (·.1)).take (i+1)).foldl (λn nm=>n.kM (n.ready nm) nm) n:=by intro n3 h;rw[List.take_succ_eq_append_getElem (aY hi),List.foldl_append,<-xN];simp only[List.getElem_map,List.foldl_cons,List.foldl_nil];rw[<-jJ];exact h
  have out:n2.ja nm=none->n2=n1.kM (n1.ready nm) nm:=λh=>by rw[<-iK,aoJ h]
  cases gO:q.ready with
  |nil=>
   have lH:¬((([]:List aR).length:Nat):Int)>0:=ai;rw[gO]at mJ;have as3:¬((0:Nat):Int)>0:=ai;have e1:n2.ja nm=none:=by unfold N.ja;simp only[hq,gO]
   simp only[go_sem,seval,h3,bB,mJ,List.length_nil,decide_false,w1];refine hY m _ _ _ _ aa ⟨rfl,?_,?_,i+1,H2,n2,aa,?_,a2,j2,ik,step n2 (out e1)⟩ ao
   ·exact aQ h8
   ·exact aQ h9
   ·exact au
  |cons mm ms=>
   have lH:((q.ready.length:Nat):Int)>0:=by rw[gO];simp
   simp only[go_sem,seval,h3,mJ,lH,decide_true];refine aL (aqu a2 hq T2) ?_;rintro v dp ⟨hv,rfl⟩
   cases ht:n2.vq q with
   |none=>
    rw[ht]at hv
    cases hv
    have e1:n2.ja nm=none:=by unfold N.ja;simp only[hq,gO,ht]
    refine bu bB w1 ?_;refine hY m _ _ _ _ aa ⟨rfl,?_,?_,i+1,H2,n2,aa,?_,a2,j2,ik,step n2 (out e1)⟩ ao
    ·exact aQ h8
    ·exact aQ h9
    ·exact au
   |some k=>
    rw[ht]at hv
    cases hv
    obtain⟨x,c,h,q',fr,hx,hc,hh,bz,t1,t2,t3,t4,t5,t6,t7,t8,t9,t10⟩:=S2.take nm q mm ms k hq gO ht;have tk:n2.x? k=some x:=hx;have a3:=a2.HY hq (λq=>{q with last:=k}) rfl rfl;rw[iq]at a3;refine bN h3 (a2.vK tk) mJ ?_;generalize hZ:Hp.set dp (A.queue nm) _=vu;replace a3:=dU a3 hZ;have l8:(n2.bK nm λq=>{q with last:=k}).q? nm=some {q with last:=k}:=by rw[vc,if_pos rfl,hq];rfl
    have uu:ms.length<=1000:=by have:=congrArg List.length gO;simp only[List.length_cons]at this;omega
    refine aL (TM a3 l8 gO uu) ?_;rintro v fU ⟨hv,H4,a4⟩;obtain rfl:v=.tuple #[.agg #[iV mm.seq,sV mm.key,sV mm.body,.bool mm.again],.bool true]:=by injection hv
    rw[Ff]at a4;simp only[go_sem,seval];refineλb5 lZ=>?_;simp only[go_sem,seval];rw[Hp.set_set];have a5:=λo=>a4.iS lZ o;have x5:=λo=>(a5 o).eK;simp only at x5;have Sy:(n2.bK nm λq=>{q with ready:=q.ready.tail,last:=k}).x? k=some x:=hx;have c5:=λo=>(a5 o).vK Sy;refine bJ 7 ?_;refine bu c5 x5 ?_;refine mh (t:=185) (v:=pV (A.chan x.id x.no)) (recv:=pV (A.chan x.id x.no)) (f:=328) (name:= "Take") ?_ (λQ H h=>by rw[ajW];exact h) ?_
    ·exact au
    refine ag ?_;refine aL (aqj (m:=mm) (a5 _) hx hc hh bz t1 t2 t3 t4 t5 t6 t7 t8 t9 t10) ?_;rintro v yC ⟨hv,a6⟩
    cases hv
    have hs:=aoI hq gO ht;have j5:=j0 n2 nm _ j2 hs;have hk5:=(anq hs).trans ik;obtain⟨q5,wc,er5⟩:=anl (k:=k) (m:=mm) (n:=n2.bK nm λq=>{q with ready:=q.ready.tail,last:=k}) (q:={q with ready:=q.ready.tail,last:=k}) (nm:=nm) (by rw[vc,if_pos rfl,hq];rfl);have G3:N.ready ((n2.bK nm λq=>{q with ready:=q.ready.tail,last:=k}).take k mm) nm=ms.length:=by unfold N.ready;rw[wc];simp[er5,gO]
    have Br:n2.ready nm=ms.length+1:=by rw[hrq,gO];rfl
    have uE:((n2.bK nm λq=>{q with ready:=q.ready.tail,last:=k}).take k mm).x? k=some x:=by rw[arv];exact Sy
    have x6:=a6.eK;simp only at x6;refine⟨jf x6 (a6.vK uE),?_⟩;refine ag ?_;refine Kc ms.length _ _ _ _ aa ⟨rfl,?_,?_,?_,?_,_,_,a6.oW,j5,hk5,G3,?_⟩ ao
    ·exact aQ h3
    ·exact aQ h8
    ·exact aQ h9
    ·exact aQ bB
    ·rw[G3,<-iK,Br];show _=N.kM (ms.length+1) n2 nm
     conv=>rhs;unfold N.kM
     rw[hs]
end
def Er.ext(er:Er)(b:Nat):Ext:=match er with
 | .nil=>[]
 | .soft e cl me| .cL e cl me=>[(b,tX e cl me)]
def Er.v(er:Er)(b:Nat):Value:=match er with
 | .nil=>.nilIface
 | .soft _ _ _=>.iface 296 (.agg #[pV b])
 | .cL _ _ _=>.iface 214 (pV b)
structure qB (A A':Lay):Prop where
 gw:A'.gw=A.gw
 br:A'.br=A.br
 conn:A'.conn=A.conn
def qB.refl(A:Lay):qB A A:=⟨rfl,rfl,rfl⟩
def iG(A:Lay)(X:Ext)(n:N)(bf:Nat)(f:FR)(r:HO)(e:Fin)(J:Hp):Prop:=match r with
 | .ok n' er=>∃A' H' b f',e=.returned (er.v b)/\qB A A'/\aq A' H' n' (er.ext b++(bf,bP f')::X) J
 | .bad cl me=>∃H' s,e=.panicked lX/\aq A H' n ((bf,bP {f with s:=s,cl:=cl,me:=me})::X) J
section
variable {E:Env prog}{H:Hid}{n:N}{X:Ext}{U:Hp}{no:Nat}{c:CN}{h:HN}{nm:List UInt8}{q:QN}{k:Int}{x:XN}{bf:Nat}{f:FR}{I:av}{ds:List Deferred}{dst:Option Tmp}{nx:av->List Deferred->Hp->Prop}{pn:List PanicEntry->Hp->Prop}
variable {A:Lay}{id:Int}
def aq.ff (a:aq A H n ((bf,bP f)::X) U):U.f bf=some (.cells [iV f.u.kind,iV f.u.channel,sV f.u.jh,.bool f.u.kC,.bool f.u.gv,sV f.s,iV f.cl,iV f.me].toArray 293 (0,0)):=a.eK
def iU {α:Type}{g:FuncId}{args:Array Value}{fv:α->Value}{r:Option (α×List UInt8)}(hg:cz prog g=true)(a:aq A H n ((bf,bP f)::X) U)(h:aw E g args U (rD U bf 5 f.vals 293 fv r))
 (k:∀v rest J,r=some (v,rest)->aq A H n ((bf,bP {f with s:=rest})::X) J->nx (aC I dst (fv v)) ds J) (kp:r=none->∀s J,aq A H n ((bf,bP {f with s:=s})::X) J->pn lX J):kx E g args U dst I ds nx pn:=
 Cy hg h (λv rest hr=>k v rest _ hr (a.vg (bP {f with s:=rest}))) (λhr l=>kp hr l _ (a.vg (bP {f with s:=l})))
def qE (a:aq A H n ((bf,bP f)::X) U)(k:f.s=[]->nx (aC I dst (.tuple #[])) ds U)(kp:f.s≠[]->pn lX U):kx E 229 #[.pointer (some ⟨bf,5,none⟩)] U dst I ds nx pn:=by
 by_cases hs:f.s=[]
 ·refine aZ (P6 a.ff (by rw[hs];rfl)) (k hs)
 ·exact Ph adt (abS a.ff rfl hs) (kp hs)
def jW {e cl me:Nat}(a:aq A H n ((bf,bP f)::X) U)(aH:f.cl=(cl:Int))(aO:f.me=(me:Int)):
 aw E 189 #[pV bf,iV e] U λe' J=>∃b,e'=.returned ((Er.cL e cl me).v b)/\aq A H n ((Er.cL e cl me).ext b++(bf,bP f)::X) J:=by
 refine(acf (e:=(e:Int)) a.eK).mono ?_;rintro e' J ⟨b,rfl,hb,rfl⟩;rw[aH,aO];exact⟨b,rfl,a.iS hb _⟩
def xd {e cl me:Nat}(a:aq A H n ((bf,bP f)::X) U)(aH:f.cl=(cl:Int))(aO:f.me=(me:Int)):
 aw E 266 #[pV bf,.iface 215 (iV e)] U λe' J=>∃b,e'=.returned ((Er.soft e cl me).v b)/\aq A H n ((Er.soft e cl me).ext b++(bf,bP f)::X) J:=by
 refine aV func266 ntmps266 results266 λQ aD an aB=>?_;have hf:=a.ff;rw[aH,aO]at hf;refine ag ?_;refine bJ 14 ?_;refine aJ hf ?_;refine⟨dJ hf,?_⟩;refine ag ?_;refineλb hb=>?_;have a1:=λo=>a.iS hb o;have f1:=λo=>(a1 o).ext1;simp only[bP,FR.vals,aH,aO]at f1;refine⟨dJ f1,?_⟩;refine ag ?_;refine⟨dJ f1,?_⟩;exact an aI ao ⟨b,by simp[up,Er.v],a1 _⟩
def JF (a:aq A H n X U)(hq:n.q? nm=some q):aw E 287 #[pV A.br,sV nm] U λe J=>e=.returned (.tuple #[pV (A.queue nm),.nilIface])/\J=U:=by obtain⟨l,c,h1,h2,h3⟩:=a.mq;obtain⟨st,bw⟩:=so h2 h3 (List.mem_map_of_mem (f:=λe:List UInt8×QN=>(e.1,pV (A.queue e.1))) (jb hq));exact acw a.br h1 bw
def JE (a:aq A H n X U)(hq:n.q? nm=none):aw E 287 #[pV A.br,sV nm] U λe J=>e=.returned (.tuple #[.pointer none,.iface 215 (iV 404)])/\J=U:=by
 obtain⟨l,c,h1,h2,h3⟩:=a.mq;have bw:=map_none h3 (k:=nm) (λe he=>by obtain⟨y,hy,rfl⟩:=List.mem_map.1 he;exact jc hq y hy);refine fZ func287 ntmps287 results287 rfl al λQ aD an aB=>?_;simp only[go_sem,seval,a.tU];refine j9 (b:=A.mq) (k:=nm) (l:=l) (c:=c) wG (z:=.pointer none) ah ?_ h1 ?_ ?_
 ·simp only[go_sem,seval]
 ·simp only[go_sem,seval];rfl
 have dt:((du l nm).map (·.2.1)).getD (.pointer none)=.pointer none:=by rw[bw];rfl
 simp only[go_sem,seval,dt,Bool.false_eq_true];exact an ji ao ⟨by simp[up],rfl⟩
def amK (a:aq A H n X U)(hq:n.q? nm=some q):aw E 288 #[pV (A.queue nm)] U λe J=>e=.returned (iV q.ready.length)/\At A (n.bK nm λq=>{q with ready:=[]}) X J:=by refine aV func288 ntmps288 results288 λQ aD an aB=>?_;obtain⟨b,c,iq⟩:=(a.ft hq).shape;have hf:=a.tH hq;rw[iq]at hf;refine aJ hf ?_;exact an aI ao ⟨by simp[up],_,a.ak7 hq (λq=>{q with ready:=[]}) rfl rfl⟩
def amL {cl me:Nat}(a:aq A H n ((bf,bP f)::X) U)(hc:n.ar id=some c)(hh:n.h? id no=some h)(aH:f.cl=(cl:Int))(aO:f.me=(me:Int))(eC:no<1000000)(fP:c.r.out.length<=100000000000000)(jy:∀nm q,n.q? nm=some q->q.ready.length<=1000):
 aw E 269 #[pV (A.chan id no),pV bf] U (iG A X n bf f (n.pD id no f.s cl me)):=by
 refine aV func269 ntmps269 results269 λQ aD an aB=>?_;refine ag ?_;refine iU sU a (tK a.ff rfl) (λnm rest J hr a1=>?_) (λhr s J a1=>aB _ _ _ _ ao ?_)
 rotate_left
 ·have e:n.pD id no f.s cl me=.bad cl me:=by unfold N.pD;rw[hr]
  rw[e];exact⟨H,s,rfl,by rw[<-aH,<-aO];exact a1⟩
 refine ag ?_;refine qE a1 (λhs=>?_) (λhs=>aB _ _ _ _ ao ?_)
 rotate_left
 ·have e:n.pD id no f.s cl me=.bad cl me:=by
   unfold N.pD;rw[hr];simp only at hs;cases rest with
   |nil=>exact absurd rfl hs
   |cons x l=>rfl
  rw[e];exact⟨H,rest,rfl,by rw[<-aH,<-aO];exact a1⟩
 simp only at hs;subst hs;refine bN (a1.bX hh) (a1.eQ hc) a1.jX ?_
 cases hq:n.q? nm with
 |none=>
  have e:n.pD id no f.s cl me=.ok n (.soft 404 cl me):=by unfold N.pD;rw[hr];simp only[hq]
  refine aZ (JE a1 hq) ?_;refine ag ?_;refine aL (xd (e:=404) a1 aH aO) ?_;rintro v cV ⟨b,hv,a2⟩
  cases hv
  refine ag ?_;refine an aI ao ?_;rw[e];exact⟨A,H,b,_,by simp[up],.refl A,a2⟩
 |some q=>
  have e:n.pD id no f.s cl me=.ok ((n.bK nm λq=>{q with ready:=[]}).send id (ck no 50 31 [.long q.ready.length])) .nil:=by unfold N.pD;rw[hr];simp only[hq]
  refine aZ (JF a1 hq) ?_;refine ag ?_;refine bJ 13 ?_;refine aJ (a1.bX hh) ?_;refine aL (amK a1 hq) ?_;rintro v cV ⟨hv,H2,a2⟩
  cases hv
  have fI:(n.bK nm λq=>{q with ready:=[]}).h? id no=some h:=hh;have dV:(n.bK nm λq=>{q with ready:=[]}).ar id=some c:=hc;refine⟨by(repeat(first|exact jM|(apply jL;(focus decide+kernel))|(refine lK rfl (aQ (a2.bX fI)) ?_))),?_⟩;refine ag ?_;refineλbn cD=>?_;have a3:=λo=>a2.fresh cD o;have f3:=λo=>(a3 o).bX fI;refine⟨dJ f3,?_⟩;refine ag ?_;have DZ:=jy nm q hq;refine aL (pQ (ch:=no) (cl:=50) (me:=31) (xs:=[.long q.ready.length]) (a3 _) dV (.inr ⟨bn,rfl,aX⟩) ?_ al aa ai ai (by simp[dg,eJ,bH]) aa) ?_
  ·simp[lr];omega
  rintro v fU ⟨hv,a4⟩
  cases hv
  have KE:((n.bK nm λq=>{q with ready:=[]}).send id (ck no 50 31 [.long q.ready.length])).h? id no=some h:=by rw[pY];exact fI
  refine⟨by(repeat(first|exact jM|(apply jL;(focus decide+kernel))|(refine lK rfl (aQ (a4.bX KE)) ?_))),?_⟩;refine ag ?_;refine an aI ao ?_;rw[e];exact⟨A,H2,0,_,by simp[up,Er.v],.refl A,a4⟩
end
section
variable {E:Env prog}{H:Hid}{n:N}{X:Ext}{U:Hp}{no:Nat}{c:CN}{h:HN}{q:QN}{k:Int}{x:XN}{bf:Nat}{f:FR}{I:av}
variable {A:Lay}{id:Int}
def aaP (f:List UInt8×Int->Value)(tg:List UInt8)(co:List (List UInt8×Int)):((co.map λe=>(e.1,f e)).filter λe=>decide (e.1≠tg))=(cB co tg).map λe=>(e.1,f e):=by unfold cB;rw[List.filter_map];congr 1
def Z7 {cl me:Nat}(a:aq A H n ((bf,bP f)::X) U)(hc:n.ar id=some c)(hh:n.h? id no=some h)(aH:f.cl=(cl:Int))(aO:f.me=(me:Int))(eC:no<1000000)(fP:c.r.out.length<=100000000000000)
 (hk:∀tg k,bq h.co tg=some k->Fu n k) (hs:f.s.length<=1000000):
 aw E 271 #[pV (A.chan id no),pV bf] U (iG A X n bf f (n.qF id no h f.s cl me)):=by
 refine aV func271 ntmps271 results271 λQ aD an aB=>?_;refine ag ?_;refine iU sU a (tK a.ff rfl) (λtg rest J hr a1=>?_) (λhr s J a1=>aB _ _ _ _ ao ?_)
 rotate_left
 ·have e:n.qF id no h f.s cl me=.bad cl me:=by unfold N.qF;rw[hr]
  rw[e];exact⟨H,s,rfl,by rw[<-aH,<-aO];exact a1⟩
 refine ag ?_;refine qE a1 (λhs=>?_) (λhs=>aB _ _ _ _ ao ?_)
 rotate_left
 ·have e:n.qF id no h f.s cl me=.bad cl me:=by
   unfold N.qF;rw[hr];simp only at hs;cases rest with
   |nil=>exact absurd rfl hs
   |cons x l=>rfl
  rw[e];exact⟨H,rest,rfl,by rw[<-aH,<-aO];exact a1⟩
 simp only at hs;subst hs;have e:n.qF id no h f.s cl me=.ok ((n.rz id no h tg).send id (ck no 60 31 [.text tg])) .nil:=by unfold N.qF;rw[hr]
 have htl:tg.length<=1000000:=by
  unfold jE fp at hr;split at hr
  ·simp only[Option.bind_some,yn]at hr;split at hr
   ·simp only[Option.some.injEq,Prod.mk.injEq]at hr;rw[<-hr.1,List.length_take,List.length_drop];omega
   ·cases hr
  ·cases hr
 obtain⟨l,kk,gm,il,iC⟩:=a1.co hh
 have tail:∀{H2:Hid} {n2:N} {cV:Hp} {I:av} {h2:HN} {c2:CN},aq A H2 n2 ((bf,bP {f with s:=[]})::X) cV->n2.h? id no=some h2->n2.ar id=some c2->c2.r.out.length<=100000000000000->n2=n.rz id no h tg->I 0=pV (A.chan id no)->I 5=sV tg->
  cO E 52 (bO (aP (aP (aP (aP (f271.body.getD .skip)))))) (lQ (cO E 52 (aP (aP (aP (aP (aP (f271.body.getD .skip)))))) Q) Q) I [] cV:=by
  intro H2 n2 cV I h2 c2 a2 fI dV zB xO h0 h5;simp only[f271,Option.getD_some,aP,bO];refine bJ 12 ?_;refine bN h0 h5 (a2.bX fI) ?_;refineλbn cD=>?_;have a3:=λo=>a2.fresh cD o;have f3:=λo=>(a3 o).bX fI;refine⟨dJ f3,?_⟩;refine ag ?_;refine aL (pQ (ch:=no) (cl:=60) (me:=31) (xs:=[.text tg]) (a3 _) dV (.inr ⟨bn,rfl,aX⟩) (by simp[lr]) al aa ai ai (by simp[dg,eJ,bH];omega) aa) ?_;rintro v fU ⟨hv,a4⟩
  cases hv
  have f4:=a4.bX (h:=h2) (by rw[pY];exact fI);refine⟨dE h0 h5 f4,?_⟩;refine ag ?_;refine an aI ao ?_;rw[e,<-xO];exact⟨A,H2,0,_,by simp[up,Er.v],.refl A,a4⟩
 refine aJ (a1.bX hh) ?_;refine j9 (b:=A.co id no) (k:=tg) (l:=l) (c:=kk) zK (z:=.pointer none) ah ?_ gm ?_ ?_
 ·exact au
 ·exact au
 rw[if_neg Bool.false_ne_true]
 cases hg:bq h.co tg with
 |none=>
  have dt:((du l tg).map (·.2.1)).getD (.pointer none)=.pointer none:=by rw[map_none iC (k:=tg) (λe he=>by obtain⟨y,hy,rfl⟩:=List.mem_map.1 he;exact jc hg y hy)];rfl
  rw[dt];refine ag ?_;refine tail a1 hh hc fP (by unfold N.rz;rw[hg]) ?_ ?_
  ·exact au
  ·exact au
 |some k=>
  obtain⟨st,bw⟩:=so il iC (List.mem_map_of_mem (f:=λe:List UInt8×Int=>(e.1,pV (A.cons e.2))) (jb hg));have dt:((du l tg).map (·.2.1)).getD (.pointer none)=pV (A.cons k):=by rw[bw];rfl
  obtain⟨x,q,hx,hq,DZ,pg⟩:=hk tg k hg;rw[dt];refine bN (a1.bX hh) (a1.eQ hc) a1.jX ?_;refine aL (Pm a1 pg hx hq DZ) ?_;rintro v cV ⟨hv,H2,a2⟩
  cases hv
  have fI:(n.cancel k).h? id no=some h:=by rw[Re];exact hh
  obtain⟨l2,k2,pf,ur,zu⟩:=a2.co fI;refine aJ (a2.bX fI) ?_;refine CK (b:=A.co id no) (k:=tg) (l:=l2) (c:=k2) zK ur.uniq ?_ pf ?_ ?_
  ·exact au
  ·exact au
  obtain⟨d1,d2⟩:=Ey ur zu tg;have a3:=a2.MS fI (λh=>{h with co:=cB h.co tg}) rfl rfl (o:=aU bT (sr l2 tg) k2) ⟨_,_,rfl,d1,by simp only;rw[<-aaP (f:=λe=>pV (A.cons e.2)) (tg:=tg)];exact d2⟩;refine ag ?_;refine tail a3 (h2:={h with co:=cB h.co tg}) (c2:={c with ch:=dD c.ch no λh=>{h with co:=cB h.co tg}}) (by simp[hh]) (by simp[hc]) fP (by unfold N.rz;rw[hg]) ?_ ?_
  ·exact au
  ·exact au
end
section
variable {E:Env prog}{H:Hid}{n:N}{X:Ext}{U:Hp}{no:Nat}{c:CN}{h:HN}{nm:List UInt8}{q:QN}{m:aR}{x:XN}{bf:Nat}{f:FR}{I:av}{ds:List Deferred}
variable {A:Lay}{id:Int}
def ame {w:Nat}{s:List UInt8}{r:Nat×List UInt8}(h:fp w s=some r):r.2.length+w=s.length:=by
 unfold fp at h;split at h
 ·cases h;simp;omega
 ·cases h
def amf {s:List UInt8}{r:List UInt8×List UInt8}(h:jE s=some r):r.1.length+r.2.length+1=s.length:=by
 unfold jE at h;obtain⟨x,h1,h2⟩:=Option.bind_eq_some_iff.1 h;have:=ame h1;unfold yn at h2;split at h2
 ·cases h2;simp;omega
 ·cases h2
def II (n:N)(h:HN):Prop:=(0<=h.r.tag/\h.r.tag<=1000000000000)/\(∀e∈h.un,(e.1:Int)≠h.r.tag+1)/\∀nm q,n.q? nm=some q->(0<=q.held/\q.held<=1000000)/\q.ready.length<=1000/\∀m∈q.ready,m.body.length<=100000/\m.key.length<=1000
def ac5 {cl me fr:Nat}(a:aq A H n ((bf,bP f)::X) U)(hc:n.ar id=some c)(hh:n.h? id no=some h)(aH:f.cl=(cl:Int))(aO:f.me=(me:Int))(eC:no<1000000)(fP:c.r.out.length<=100000000000000)
 (gM:c.r.frame=(fr:Int)) (f1:9<=fr/\fr<=1000000) (G:II n h):
 aw E 272 #[pV (A.chan id no),pV bf] U (iG A X n bf f (n.get id no f.s cl me)):=by
 refine aV func272 ntmps272 results272 λQ aD an aB=>?_;refine ag ?_;refine yy [0,1,2,4,5,6,3,7,8,9] (λch ds U=>ds=[]/\(iG A X n bf f (n.get id no f.s cl me)) (.panicked ch) U) ah jU (λch I ds U h=>by obtain⟨rfl,h⟩:=h;exact aB _ _ _ _ ao h) ?_;refine ag ?_;refine iU sU a (tK a.ff rfl) (λnm s1 J hr a1=>?_) (λhr s J a1=>⟨rfl,?_⟩)
 rotate_left
 ·have e:n.get id no f.s cl me=.bad cl me:=by unfold N.get;rw[hr]
  rw[e];exact⟨H,s,rfl,by rw[<-aH,<-aO];exact a1⟩
 refine gp ?_;refine ag ?_;refine iU JQ a1 (JH a1.ff rfl) (λna s2 fM bZ a2=>?_) (λbZ s J a2=>⟨rfl,?_⟩)
 rotate_left
 ·have e:n.get id no f.s cl me=.bad cl me:=by unfold N.get;rw[hr];simp only[bZ]
  rw[e];exact⟨H,s,rfl,by rw[<-aH,<-aO];exact a2⟩
 simp only at bZ;refine gp ?_;refine ag ?_;refine qE a2 (λhs=>?_) (λhs=>aB _ _ _ _ ao ?_)
 rotate_left
 ·have e:n.get id no f.s cl me=.bad cl me:=by
   unfold N.get;rw[hr];simp only[bZ];simp only at hs;cases s2 with
   |nil=>exact absurd rfl hs
   |cons x l=>rfl
  rw[e];exact⟨H,s2,rfl,by rw[<-aH,<-aO];exact a2⟩
 simp only at hs;subst hs;obtain⟨g1,g2,g3⟩:=G;refine bN (a2.bX hh) (a2.eQ hc) a2.jX ?_
 cases hq:n.q? nm with
 |none=>
  have e:n.get id no f.s cl me=.ok n (.soft 404 cl me):=by unfold N.get;rw[hr];simp only[bZ,hq]
  refine aZ (JE a2 hq) ?_;refine ag ?_;refine aL (xd (e:=404) a2 aH aO) ?_;rintro v cV ⟨b,hv,a3⟩
  cases hv
  refine ag ?_;refine an aI ao ?_;rw[e];exact⟨A,H,b,_,by simp[up],.refl A,a3⟩
 |some q=>
  obtain⟨q1,q2,q3⟩:=g3 nm q hq;refine aZ (JF a2 hq) ?_;refine ag ?_
  cases gO:q.ready with
  |nil=>
   have e:n.get id no f.s cl me=.ok (n.send id (ck no 60 72 [])) .nil:=by unfold N.get;rw[hr];simp only[bZ,hq,gO]
   obtain⟨rb,rc,iq⟩:=(a2.ft hq).shape;have mJ:=a2.queue hq;rw[iq,gO]at mJ;refine aL (akB (b:=rb) (c:=rc) mJ) ?_;rintro v cV ⟨hv,hle⟩;obtain rfl:v=.tuple #[.agg #[iV 0,sV [],sV [],.bool false],.bool false]:=by injection hv
   simp only[go_sem,seval];refineλb9 pc=>?_;simp only[go_sem,seval];rw[Hp.set_set];have a3:=λo=>(a2.le hle).fresh pc o;have f3:=λo=>(a3 o).bX hh;refine bJ 9 ?_;refine aJ f3 ?_;refine aL (pQ (ch:=no) (cl:=60) (me:=72) (xs:=[]) (a3 _) hc (.inl ⟨rfl,rfl⟩) al al aa ai ai (by simp[dg]) aa) ?_;rintro v fU ⟨hv,a4⟩
   cases hv
   have f4:=a4.bX (h:=h) (by rw[pY];exact hh);refine⟨dJ f4,?_⟩;refine ag ?_;refine an aI ao ?_;rw[e];exact⟨A,H,0,_,by simp[up,Er.v],.refl A,a4⟩
  |cons m ms=>
   obtain⟨tg,Bs⟩:∃tg:Nat,h.r.tag=(tg:Int):=⟨h.r.tag.toNat,aa⟩;have Jy:h.r.tag+1=((tg+1:Nat):Int):=aa;have uu:ms.length<=1000:=by have:=congrArg List.length gO;simp only[List.length_cons]at this;omega
   obtain⟨m1,m2⟩:=q3 m (by rw[gO];simp);refine aL (TM a2 hq gO uu) ?_;rintro v cV ⟨hv,H3,a3⟩;obtain rfl:v=.tuple #[.agg #[iV m.seq,sV m.key,sV m.body,.bool m.again],.bool true]:=by injection hv
   simp only[go_sem,seval];refineλb9 pc=>?_;simp only[go_sem,seval];rw[Hp.set_set];have a4:=λo=>a3.iS pc o;have x4:=λo=>(a4 o).eK;simp only at x4;have l8:(n.bK nm λq=>{q with ready:=q.ready.tail}).q? nm=some {q with ready:=q.ready.tail}:=by rw[vc,if_pos rfl,hq];rfl
   have zm:(n.bK nm λq=>{q with ready:=q.ready.tail}).h? id no=some h:=hh;have lD:(n.bK nm λq=>{q with ready:=q.ready.tail}).ar id=some c:=hc;refine ag ?_;refine aL (Rq (m:=m) (na:=na) (a4 _) zm l8 g1 q1 g2) ?_;rintro v fY ⟨hv,a5⟩;obtain rfl:v=iV ((tg+1:Nat):Int):=by rw[<-Jy];injection hv
   generalize hN:n.bK nm (λq=>{q with ready:=q.ready.tail})=n3 at a5 l8 zm lD;obtain⟨c6,iA,sQ⟩:=PE (n:=n3) (no:=no) (nm:=nm) (m:=m) (na:=na) lD;obtain⟨h6,pe,eh6⟩:=Rf (n:=n3) (nm:=nm) (m:=m) (na:=na) zm;obtain⟨q6,uB,eq6⟩:=Uv (n:=n3) (id:=id) (no:=no) (nm:=nm) (m:=m) (na:=na) l8;have Sj:q6.ready.length=ms.length:=by rw[eq6];simp[gO]
   have x5:=a5.eK;simp only at x5;refine ag ?_;refine bJ 21 ?_;refine bu (a5.bX pe) x5 ?_;obtain⟨rb,rc,iq⟩:=(a5.ft uB).shape;have Sh:=a5.queue uB;rw[iq]at Sh;refine aZ (MK Sh) ?_;refine⟨by(repeat(first|exact jM|(apply jL;(focus decide+kernel))|(refine lK rfl (xg (a5.bX pe) x5) ?_))),?_⟩;refine ag ?_;refineλbn cD=>?_;have a7:=λo=>a5.fresh cD o;have x7:=λo=>(a7 o).eK;simp only at x7;have h7:=λo=>(a7 o).bX pe;refine⟨dJ h7,?_⟩;refine ag ?_;refine aL (pQ (ch:=no) (cl:=60) (me:=71) (xs:=[.mM (tg+1),.flag m.again,.text m.key,.long ms.length]) (a7 _) iA (.inr ⟨bn,by rw[<-Sj];rfl,by rw[<-Sj];exact Hp.bD _ _⟩) ?_ al aa ai ai ?_ (by rw[sQ];omega)) ?_
   ·simp[lr];omega
   ·simp[dg,eJ,bH];omega
   rintro v τ8 ⟨hv,a8⟩
   cases hv
   have aeY:(ck no 60 71 [.mM (tg+1),.flag m.again,.text m.key,.long ms.length]).length<=3000:=by rw[Jd];simp[dg,eJ,bH];omega
   generalize hS:ck no 60 71 [.mM (tg+1),.flag m.again,.text m.key,.long ms.length]=S at a8 aeY;have Dv:((n3.hand id no nm m na).send id S).h? id no=some h6:=by rw[pY];exact pe
   have zi:((n3.hand id no nm m na).send id S).ar id=some {c6 with r:={c6.r with out:=c6.r.out++S,iu:=(n3.hand id no nm m na).clock}}:=by rw[sO,if_pos rfl,iA];rfl
   have x8:=a8.eK;simp only at x8;have h8:=a8.bX Dv;have f8:=a8.eQ zi;simp only[sQ,gM]at f8;refine⟨jf h8 x8,?_⟩;refine ag ?_;refine bJ 19 ?_;refine bN h8 x8 f8 ?_;refine aZ (PH (ch:=no) (size:=fr) (body:=m.body) aa f1.1 f1.2 aa) ?_;refine⟨dJ h8,?_⟩;refine ag ?_
   have ae3:(mz no m.body fr).length<=1000000:=by unfold mz;have:=Ul no (fr-8) aa m.body.length m.body (Nat.le_refl _);simp only[List.length_append,ju,bH];omega
   refine aL (MQ (s:=mz no m.body fr) a8 zi (by simp only[List.length_append,sQ];omega)) ?_;rintro v vu ⟨hv,a9⟩
   cases hv
   have x9:=a9.eK;simp only at x9;have KF:(((n3.hand id no nm m na).send id S).send id (mz no m.body fr)).h? id no=some h6:=by rw[pY];exact Dv
   obtain⟨c9,Dl,Jv⟩:∃c9,(((n3.hand id no nm m na).send id S).send id (mz no m.body fr)).ar id=some c9/\c9.r.frame=fr:=by rw[sO,if_pos rfl,zi];exact⟨_,rfl,by simp only;rw[sQ];exact gM⟩
   have h9:=a9.bX KF;have f9:=a9.eQ Dl;rw[Jv]at f9;refine⟨dE h9 x9 f9,?_⟩;refine ag ?_;refine an aI ao ?_
   have e:n.get id no f.s cl me=.ok (((n3.hand id no nm m na).send id S).send id (mz no m.body fr)) .nil:=by
    unfold N.get;rw[hr];have e1:n.tag id no=tg:=by unfold N.tag;rw[hh];simp[Bs]
    have e2:(n3.hand id no nm m na).frame id=fr:=by unfold N.frame;rw[iA];simp[sQ,gM]
    simp only[bZ,hq,gO,N.give,e1,hN,e2,hS]
   rw[e];exact⟨A,H3,0,_,by simp[up,Er.v],.refl A,a9.oW⟩
end
section
variable {E:Env prog}{H:Hid}{n:N}{X:Ext}{U:Hp}{no:Nat}{c:CN}{h:HN}{nm:List UInt8}{q:QN}{m:aR}{k:Int}{x:XN}{bf:Nat}{f:FR}{I:av}{ds:List Deferred}{nx:av->List Deferred->Hp->Prop}{pn:List PanicEntry->Hp->Prop}
variable {A:Lay}{id:Int}
def tr (tag:Nat)(many:Bool)(t:Nat):Bool:=decide (t=tag)||(many&&(decide (t<tag)||decide (tag=0)))
def aoN {p:Nat->Bool}{b:Bool}{l:List (Nat×(List UInt8×aR))}{j:Nat}(hj:j<l.length):n.iO id no p b (l.take (j+1))=if p l[j].1 then(n.iO id no p b (l.take j)).settle id no l[j].1 b else n.iO id no p b (l.take j):=by unfold N.iO;rw[List.take_succ_eq_append_getElem hj,List.foldl_append];rfl
structure IF (n:N) (id:Int) (no:Nat) (h:HN) (p:Nat->Bool) (b:Bool):Prop where
 nd:(h.un.map (·.1)).Nodup
 sep:tP h.un
 len:h.un.length<=1000
 step:∀l e,e∈h.un->(∀x∈l,¬x.1=e.1)->p e.1=true->IE (n.iO id no p b l) id no e
def aoQ {cl me:Nat}(a:aq A H n ((bf,bP f)::X) U)(hh:n.h? id no=some h)(aH:f.cl=(cl:Int))(aO:f.me=(me:Int))
 (S:∀tag many b,IF n id no h (tr tag many) b):
 aw E 273 #[pV (A.chan id no),pV bf] U (iG A X n bf f (n.settled id no h f.s cl me)):=by
 refine aV func273 ntmps273 results273 λQ aD an aB=>?_;refine ag ?_;refine yy [0,1,2,4,5,6,8,9,10,3,7,11,12,13,14] (λch ds U=>ds=[]/\(iG A X n bf f (n.settled id no h f.s cl me)) (.panicked ch) U) ah jU (λch I ds U h=>by obtain⟨rfl,h⟩:=h;exact aB _ _ _ _ ao h) ?_;refine ag ?_;refine iU og a (oG (w:=4) a.ff rfl ai) (λhigh s1 J hr a1=>?_) (λhr s J a1=>⟨rfl,?_⟩)
 rotate_left
 ·have e:n.settled id no h f.s cl me=.bad cl me:=by unfold N.settled;rw[hr]
  rw[e];exact⟨H,s,rfl,by rw[<-aH,<-aO];exact a1⟩
 refine gp ?_;refine ag ?_;refine iU og a1 (oG (w:=4) a1.ff rfl ai) (λtag s2 fM bZ a2=>?_) (λbZ s J a2=>⟨rfl,?_⟩)
 rotate_left
 ·have e:n.settled id no h f.s cl me=.bad cl me:=by unfold N.settled;rw[hr];simp only[bZ]
  rw[e];exact⟨H,s,rfl,by rw[<-aH,<-aO];exact a2⟩
 simp only at bZ;refine gp ?_;refine ag ?_;refine iU JQ a2 (JH a2.ff rfl) (λflag s3 cV eN a3=>?_) (λeN s J a3=>⟨rfl,?_⟩)
 rotate_left
 ·have e:n.settled id no h f.s cl me=.bad cl me:=by unfold N.settled;rw[hr];simp only[bZ,eN]
  rw[e];exact⟨H,s,rfl,by rw[<-aH,<-aO];exact a3⟩
 simp only at eN;refine gp ?_;refine ag ?_;refine qE a3 (λhs=>?_) (λhs=>aB _ _ _ _ ao ?_)
 rotate_left
 ·have e:n.settled id no h f.s cl me=.bad cl me:=by
   unfold N.settled;rw[hr];simp only[bZ,eN];simp only at hs;cases s3 with
   |nil=>exact absurd rfl hs
   |cons x l=>rfl
  rw[e];exact⟨H,s3,rfl,by rw[<-aH,<-aO];exact a3⟩
 simp only at hs;subst hs;obtain⟨mW,De⟩:∃mW:Bool,mW=decide (me=80):=⟨_,rfl⟩;obtain⟨xe,G6⟩:∃b:Bool,b=(bq h.un tag).isSome:=⟨_,rfl⟩;obtain⟨back,Rs⟩:∃b:Bool,b=(!mW&&flag):=⟨_,rfl⟩
 have loop:∀(I:av) (J:Hp) (H1:Hid) (many:Bool),many=(mW&&flag)->aq A H1 n ((bf,bP {f with s:=[]})::X) J->I 0=pV (A.chan id no)->I 6=iV tag->I 7=.bool flag->I 8=.bool mW->I 11=.bool many->
  ((decide (high=0)&&xe)||(many&&decide (high=0)&&decide (tag=0)))=true->
  cO E 104 (aP (aP (aP (aP (aP (aP (aP (aP (f273.body.getD .skip))))))))) Q I [] J:=by
  intro I J H1 many DM a4 h0 h6 h7 h8 bR gB
  have e:n.settled id no h f.s cl me=.ok (n.iO id no (tr tag many) back h.un) .nil:=by
   unfold N.settled;rw[hr];simp only[bZ,eN];have c1:(decide (high=0)&&(bq h.un tag).isSome||decide (me=80)&&flag&&decide (high=0)&&decide (tag=0))=true:=by rw[<-G6,<-De,<-DM];exact gB
   rw[if_pos c1];have c2:decide (me≠80)= !mW:=by rw[De];simp
   rw[c2,<-Rs,<-De,<-DM];rfl
  simp only[f273,Option.getD_some,aP];obtain⟨lu,ku,xR,zF,xS⟩:=a4.un hh;have zt:lu.length=h.un.length:=by have:=xS.length_eq;simpa using this
  have SS:=S tag many back;refine bu h0 (a4.bX hh) ?_;refine aL (Vf xR zF.old zF.nd (by rw[zt];exact SS.len)) ?_;rintro v fY ⟨uq,v',ys,hv,p1,_,p3,p4⟩
  cases hv
  obtain⟨ts,wy,rfl⟩:=zR (p1.trans (by have:=xS.map (·.1);simpa[List.map_map,Function.comp_def]using this)) (xs:=h.un) (f:=λe=>((e.1:Nat):Int)) rfl;have hl:=wy.length_eq;obtain⟨X2,a5,Ab⟩:=a4.AB uq p3 p4;obtain⟨Cw,rF,rfl,_⟩:=p3.read;have il:(ts.map λe=>((e.1:Nat):Int)).length=ts.length:=al;refine aJ il ?_;refine dh (λm I ds ae=>ds=[]/\I 0=pV (A.chan id no)/\I 6=iV tag/\I 7=.bool flag/\I 8=.bool mW/\I 11=.bool many/\I 74=.slice Cw ts.length rF/\I 75=iV ts.length/\∃(j:Nat) (H':Hid),j+m=ts.length/\I 76=iV j/\aq A H' (n.iO id no (tr tag many) back (ts.take j)) X2 ae) ts.length ?_ ?_
  ·refine⟨rfl,?_,?_,?_,?_,?_,?_,?_,0,H1,al,?_,a5⟩<;>exact Ih h0 h6 h7 h8 bR il
  clear h0 h6 h7 h8 bR;rintro m I ds dx Y ⟨rfl,h0,h6,h7,h8,bR,ue,sZ,j,H5,xL,rL,aj⟩ hY;have w1:IntKind.i64.wrap ((j:Int)+1)=((j+1:Nat):Int):=by have:=SS.len;rw[wrap64 aa aa];rfl
  cases m with
  |zero=>
   have c0:¬(j:Int)<ts.length:=aa;have vX:j=ts.length:=aa;rw[vX,List.take_length]at aj;simp only[go_sem,seval,sZ,rL,c0,decide_false];refine an aI ao ?_;rw[e,<-U6 wy λg hg=>by cases hh.symm.trans hg;exact SS.sep];exact⟨A,H5,0,_,by simp[up,Er.v],.refl A,(Ab aj).1⟩
  |succ m=>
   have hj:j<ts.length:=aa;have c0:(j:Int)<ts.length:=aa;obtain⟨_,sj⟩:=Ab aj;obtain⟨b2,yX,e2,r2⟩:=sj.read;simp only[Value.slice.injEq]at e2;obtain⟨rfl,_,_⟩:=e2;obtain⟨ba,L,rfl,ij,hL⟩:=r2 j (aY hj);simp only[List.getElem_map,aW]at hL;obtain⟨t,ht⟩:∃t,t=ts[j].1:=⟨_,rfl⟩;rw[<-ht]at hL;have Lf:=aoN (n:=n) (id:=id) (no:=no) (p:=tr tag many) (b:=back) hj;rw[<-ht]at Lf;have can:=SS.step (ts.take j) ts[j] (wy.mem_iff.1 (List.getElem_mem hj)) (HA ((wy.map (·.1)).nodup_iff.2 SS.nd) hj);rw[<-ht]at can;refine fL λK1 pa=>?_;simp only[go_sem,seval,sZ,rL,c0,decide_true];refine pa _ _ _ (fL λK2 pX=>?_);refine ag ?_;refine pX _ _ _ (fL λK3 rM=>Al (fL λK4 uh=>?_));refine bu ue rL ?_;refine⟨aa,?_⟩;refine bu ij hL ?_;refine uh _ _ _ (fL λK5 A4=>?_)
   have go:∀(az:av) (v:Bool),v=tr tag many t->az 94=.bool v->az 13=iV t->az 0=pV (A.chan id no)->az 6=iV tag->az 7=.bool flag->az 8=.bool mW->az 11=.bool many->az 74=.slice (some ⟨ba,0,none⟩) ts.length rF->az 75=iV ts.length->az 76=iV j->K5 az [] dx:=by
    clear h0 h6 h7 h8 bR ue sZ rL;intro az v hv Q0 mC h0 h6 h7 h8 bR ue sZ rL;refine A4 _ _ _ ?_
    cases v with
    |false=>
     refine aJ Q0 ?_;refine rM _ _ _ ?_;refine bu rL w1 ?_;refine hY m _ _ _ _ aa ⟨rfl,?_,?_,?_,?_,?_,?_,?_,j+1,H5,aa,?_,by rw[Lf,<-hv,if_neg Bool.false_ne_true];exact aj⟩ ao<;>exact vp h0 h6 h7 h8 bR ue sZ
    |true=>
     obtain⟨h',q,dX,iD,hq,b1,AI,hs⟩:=can hv.symm;rw[<-ht]at iD;subst Rs
     cases mW
     all_goals
      simp only[go_sem,seval,Q0,h0,h7,h8,mC,Bool.not_true,Bool.not_false];refine aL (U7 (nm:=ts[j].2.1) (m:=ts[j].2.2) (tag:=t) aj dX iD hq b1 AI hs) ?_;rintro v2 cV ⟨mf,H2,a2⟩
      cases mf
      refine ag ?_;refine rM _ _ _ ?_;refine bu rL w1 ?_;refine hY m _ _ _ _ aa ⟨rfl,?_,?_,?_,?_,?_,?_,?_,j+1,H2,aa,?_,by rw[Lf,<-hv,if_pos rfl];exact a2⟩ ao<;>exact vp h0 h6 h7 h8 bR ue sZ
   by_cases d1:t=tag
   ·have sP:(t:Int)=tag:=aa;simp only[go_sem,seval,h6,eq_true sP,decide_true];refine go _ true (by simp[tr,d1]) ?_ ?_ ?_ ?_ ?_ ?_ ?_ ?_ ?_ ?_<;>exact sD h0 h6 h7 h8 bR ue sZ rL
   have sP:¬(t:Int)=tag:=aa
   cases hm:many with
   |false=>
    rw[hm]at go bR;simp only[go_sem,seval,h6,bR,sP,decide_false];refine go _ false (by simp[tr,d1]) ?_ ?_ ?_ ?_ ?_ ?_ ?_ ?_ ?_ ?_<;>exact sD h0 h6 h7 h8 bR ue sZ rL
   |true=>
    rw[hm]at go bR;by_cases d2:t<tag
    ·have xp:(t:Int)<tag:=aa;simp only[go_sem,seval,h6,bR,sP,xp,decide_true,decide_false];refine go _ true (by simp[tr,d2]) ?_ ?_ ?_ ?_ ?_ ?_ ?_ ?_ ?_ ?_<;>exact sD h0 h6 h7 h8 bR ue sZ rL
    have xp:¬(t:Int)<tag:=aa;by_cases d3:tag=0
    ·have Jm:(tag:Int)=0:=aa;simp only[go_sem,seval,h6,bR,sP,xp,eq_true Jm,decide_true,decide_false];refine go _ true (by simp[tr,d3]) ?_ ?_ ?_ ?_ ?_ ?_ ?_ ?_ ?_ ?_<;>exact sD h0 h6 h7 h8 bR ue sZ rL
    ·have Jm:¬(tag:Int)=0:=aa;simp only[go_sem,seval,h6,bR,sP,xp,Jm,decide_false];refine go _ false (by simp[tr,d1,d2,d3]) ?_ ?_ ?_ ?_ ?_ ?_ ?_ ?_ ?_ ?_<;>exact sD h0 h6 h7 h8 bR ue sZ rL
 have fail:(!(decide (high=0)&&xe)&& !(mW&&flag&&decide (high=0)&&decide (tag=0)))=true->n.settled id no h f.s cl me=.ok n (.soft 406 cl me):=by
  intro hf;unfold N.settled;rw[hr];simp only[bZ,eN]
  have c1:¬(decide (high=0)&&(bq h.un tag).isSome||decide (me=80)&&flag&&decide (high=0)&&decide (tag=0))=true:=by rw[<-G6,<-De];intro hc;rcases Bool.or_eq_true_iff.1 hc with hc|hc<;>simp only[hc,Bool.not_true,Bool.false_and,Bool.and_false]at hf<;>cases hf
  rw[if_neg c1]
 have r7:∀(I:av) (J:Hp) (H1:Hid) (many there:Bool),many=(mW&&flag)->there=(decide (high=0)&&xe)->aq A H1 n ((bf,bP {f with s:=[]})::X) J->I 0=pV (A.chan id no)->I 1=pV bf->I 5=iV high->I 6=iV tag->I 7=.bool flag->I 8=.bool mW->I 10=.bool there->I 11=.bool many->
  cO E 104 (aP (aP (aP (aP (aP (aP (aP (f273.body.getD .skip)))))))) Q I [] J:=by
  intro I J H1 many there DM G9 a4 h0 h1 h5 h6 h7 h8 bB bR;have lp:=λaz k0 k6 k7 k8 tv gB=>loop az J H1 many DM a4 k0 k6 k7 k8 tv gB;simp only[f273,Option.getD_some,aP]at lp|-;refine fL λK hK=>?_;have yd:∀az,az 0=I 0->az 6=I 6->az 7=I 7->az 8=I 8->az 11=I 11->((decide (high=0)&&xe)||(many&&decide (high=0)&&decide (tag=0)))=true->K az [] J:=λaz k0 k6 k7 k8 tv gB=>hK _ _ _ (lp az (by rw[k0,h0]) (by rw[k6,h6]) (by rw[k7,h7]) (by rw[k8,h8]) (by rw[tv,bR]) gB);clear lp hK
  cases there with
  |true=>
   simp only[go_sem,seval,bB,Bool.not_true];refine yd _ ?_ ?_ ?_ ?_ ?_ (by rw[<-G9];rfl)<;>exact au
  |false=>
   have bad:∀{az:av} {nx:av->List Deferred->Hp->Prop} {pn:List PanicEntry->Hp->Prop} {d:Option Tmp},(many&&decide (high=0)&&decide (tag=0))=false->(∀b cV,aq A H1 n ((Er.soft 406 cl me).ext b++(bf,bP {f with s:=[]})::X) cV->iG A X n bf f (n.settled id no h f.s cl me) (.returned ((Er.soft 406 cl me).v b)) cV->nx (aC az d ((Er.soft 406 cl me).v b)) [] cV)->kx E 266 #[pV bf,.iface 215 (iV 406)] J d az [] nx pn:=by
    intro az nx pn d hb k;refine aL (xd (e:=406) a4 aH aO) ?_;rintro v cV ⟨b,hv,a5⟩
    cases hv
    refine k b cV a5 ?_;rw[fail (by rw[<-G9,<-DM,hb];rfl)];exact⟨A,H1,b,_,rfl,.refl A,a5⟩
   cases hm:many with
   |false=>
    rw[hm]at bR;simp only[go_sem,seval,h1,bB,bR,Bool.not_false];refine bad (by rw[hm];rfl) λb cV a5 eE=>?_;refine ag ?_;exact an aI ao (by simpa[up]using eE)
   |true=>
    rw[hm]at bR;by_cases d1:high=0
    ·have sP:(high:Int)=0:=aa;by_cases d2:tag=0
     ·have xp:(tag:Int)=0:=aa;simp only[go_sem,seval,h5,h6,bB,bR,Bool.not_false,Bool.not_true,eq_true sP,eq_true xp,decide_true];refine yd _ ?_ ?_ ?_ ?_ ?_ (by rw[hm,d1,d2];simp)<;>exact au
     ·have xp:¬(tag:Int)=0:=aa;simp only[go_sem,seval,h1,h5,h6,bB,bR,Bool.not_false,eq_true sP,xp,decide_true,decide_false];refine bad (by simp[d2]) λb cV a5 eE=>?_;refine ag ?_;exact an aI ao (by simpa[up]using eE)
    ·have sP:¬(high:Int)=0:=aa;simp only[go_sem,seval,h1,h5,bB,bR,Bool.not_false,sP,decide_false];refine bad (by simp[d1]) λb cV a5 eE=>?_;refine ag ?_;exact an aI ao (by simpa[up]using eE)
 have r6:∀(I:av) (J:Hp) (H1:Hid) (there:Bool),there=(decide (high=0)&&xe)->aq A H1 n ((bf,bP {f with s:=[]})::X) J->I 0=pV (A.chan id no)->I 1=pV bf->I 5=iV high->I 6=iV tag->I 7=.bool flag->I 8=.bool mW->I 10=.bool there->
  cO E 104 (aP (aP (aP (aP (aP (aP (f273.body.getD .skip))))))) Q I [] J:=by
  intro I J H1 there G9 a4 h0 h1 h5 h6 h7 h8 bB;have lp:=λaz many hm k0 k1 k5 k6 k7 k8 tu tv=>r7 az J H1 many there hm G9 a4 k0 k1 k5 k6 k7 k8 tu tv;simp only[f273,Option.getD_some,aP]at lp|-;refine fL λK hK=>?_;have yd:∀az many,many=(mW&&flag)->az 0=I 0->az 1=I 1->az 5=I 5->az 6=I 6->az 7=I 7->az 8=I 8->az 10=I 10->az 11=.bool many->K az [] J:=λaz many hm k0 k1 k5 k6 k7 k8 tu tv=>hK _ _ _ (lp az many hm (by rw[k0,h0]) (by rw[k1,h1]) (by rw[k5,h5]) (by rw[k6,h6]) (by rw[k7,h7]) (by rw[k8,h8]) (by rw[tu,bB]) tv);clear lp hK
  cases mW with
  |true=>
   refine bu h7 h8 ?_;refine yd _ flag rfl ?_ ?_ ?_ ?_ ?_ ?_ ?_ ?_<;>exact au
  |false=>
   refine aJ h8 ?_;refine yd _ false rfl ?_ ?_ ?_ ?_ ?_ ?_ ?_ ?_<;>exact au
 have r5:∀(I:av) (J:Hp) (H1:Hid),aq A H1 n ((bf,bP {f with s:=[]})::X) J->I 0=pV (A.chan id no)->I 1=pV bf->I 5=iV high->I 6=iV tag->I 7=.bool flag->I 8=.bool mW->I 10=.bool xe->
  cO E 104 (aP (aP (aP (aP (aP (f273.body.getD .skip)))))) Q I [] J:=by
  intro I J H1 a4 h0 h1 h5 h6 h7 h8 bB;have lp:=λaz there hm k0 k1 k5 k6 k7 k8 tu=>r6 az J H1 there hm a4 k0 k1 k5 k6 k7 k8 tu;simp only[f273,Option.getD_some,aP]at lp|-;refine fL λK hK=>?_;have yd:∀az there,there=(decide (high=0)&&xe)->az 0=I 0->az 1=I 1->az 5=I 5->az 6=I 6->az 7=I 7->az 8=I 8->az 10=.bool there->K az [] J:=λaz there hm k0 k1 k5 k6 k7 k8 tu=>hK _ _ _ (lp az there hm (by rw[k0,h0]) (by rw[k1,h1]) (by rw[k5,h5]) (by rw[k6,h6]) (by rw[k7,h7]) (by rw[k8,h8]) tu);clear lp hK;have ez:decide ((high:Int)=0)=decide (high=0):=al
  cases D6:xe with
  |true=>
   rw[D6]at bB;refine bu h5 bB ?_;refine yd _ (decide ((high:Int)=0)) (by rw[ez,D6,Bool.and_true]) ?_ ?_ ?_ ?_ ?_ ?_ ?_<;>exact au
  |false=>
   rw[D6]at bB;refine aJ bB ?_;refine yd _ false (by rw[D6,Bool.and_false]) ?_ ?_ ?_ ?_ ?_ ?_ ?_<;>exact au
 show cO E 104 (aP (aP (aP (f273.body.getD .skip)))) Q _ [] _;simp only[f273,Option.getD_some,aP]at r5|-;refine fL λK hK=>?_;have eme:decide ((me:Int)=80)=mW:=by rw[De];simp;omega
 have RQ:=a3.ff;rw[aO]at RQ;refine aJ RQ ?_;refine hK _ _ _ (fL λK4 uh=>?_);clear hK;obtain⟨lu,ku,xR,zF,xS⟩:=a3.un hh;refine aJ (a3.bX hh) ?_;refine j9 (b:=A.un id no) (k:=(tag:Int)) (l:=lu) (c:=ku) BD (z:=.agg #[.pointer none,iV 0,sV [],sV [],.bool false]) ah ?_ xR ?_ ?_
 ·exact au
 ·exact au
 have dt:∃x1 x2 x3 x4 x5,((du lu (tag:Int)).map (·.2.1)).getD (.agg #[.pointer none,iV 0,sV [],sV [],.bool false])=.agg #[.pointer x1,iV x2,sV x3,sV x4,.bool x5]/\(du lu (tag:Int)).isSome=xe:=by
  cases hg:bq h.un tag with
  |none=>
   have:=map_none xS (k:=(tag:Int)) (λe he=>by obtain⟨y,hy,rfl⟩:=List.mem_map.1 he;exactλe2=>jc hg y hy (by simp only at e2;omega));rw[this];exact⟨none,0,[],[],false,rfl,by rw[G6,hg];rfl⟩
  |some v=>
   obtain⟨st,bw⟩:=so zF xS (List.mem_map_of_mem (f:=λe:Nat×(List UInt8×aR)=>((e.1:Int),um (A.queue e.2.1) e.2.2)) (jb hg));rw[bw];exact⟨some ⟨A.queue v.1,0,none⟩,v.2.seq,v.2.key,v.2.body,v.2.again,rfl,by rw[G6,hg];rfl⟩
 obtain⟨x1,x2,x3,x4,x5,hv1,mf⟩:=dt;rw[if_pos rfl,hv1,mf];refine ag ?_;refineλb9 pc=>?_;refine ag ?_;refine uh _ _ _ (r5 _ _ H ?_ ?_ ?_ ?_ ?_ ?_ ?_ ?_)
 ·first|exact a3.fresh pc _|(rw[Hp.set_set];exact a3.fresh pc _)
 all_goals simp only[go_sem,seval,eme]
end
def Em(r:Nat):Bool:=(decide (97<=r)&&decide (r<=122))||(decide (65<=r)&&decide (r<=90))
def xr(r:Nat):Bool:=decide (48<=r)&&decide (r<=57)
def qo(r:Nat):Bool:=decide (r<128)&&(Em r||(xr r||(decide (r=46)||(decide (r=95)||decide (r=45)))))
def aqd:∀r:_root_.Fin 128,(decide (¬Cu IntKind.u8 (Go.Lib.propertiesTab.getD r.val 0) 96=0))=Em r.val:=jU
def T9(b:UInt8):okB b=qo b.toNat:=by unfold okB qo Em xr;rw[Bool.eq_iff_iff];simp only[Bool.or_eq_true,Bool.and_eq_true,decide_eq_true_eq];omega
variable {s:List UInt8}{p:Nat}
def abo(hp:p<s.length)(h:s[p].toNat<128):Utf8.decode (B s) p=(s[p].toNat,1):=by
 have e:((B s).get! (p+0)).toNat=s[p].toNat:=by simp[B,ByteArray.get!,hp]
 unfold Utf8.decode;simp only[e];rw[if_pos h]
def decode_high(hp:p<s.length)(h:¬s[p].toNat<128):128<=(Utf8.decode (B s) p).1:=by
 have e:((B s).get! (p+0)).toNat=s[p].toNat:=by simp[B,ByteArray.get!,hp]
 have re:128<=Utf8.runeError:=ai;unfold Utf8.decode;simp only[e];rw[if_neg h];split
 ·split
  ·assumption
  ·exact re
 ·split
  ·split
   ·rename_i h1;simp only[Bool.and_eq_true,decide_eq_true_eq,ge_iff_le]at h1|-;omega
   ·exact re
  ·split
   ·split
    ·rename_i h1;simp only[Bool.and_eq_true,decide_eq_true_eq,ge_iff_le]at h1|-;omega
    ·exact re
   ·exact re
variable {E:Env prog}{f:FR}{L:List Value}{r:Nat}
def ajC(hr:r<128)(hp:U.f 1=some (.cells L.toArray 396 (0,0)))(hq:L[r]? =some (.int .u8 (Go.Lib.propertiesTab.getD r 0))):aw E 300 #[.int .i32 r] U λe J=>e=.returned (.bool (Em r))/\J=U:=by
 refine fZ func300 ntmps300 results300 rfl al λQ aD an aB=>?_
 have w1:IntKind.u32.wrap (r:Int)=r:=by have:((r:Int) % 4294967296)=r:=aa;simpa[IntKind.wrap,IntKind.bits,IntKind.signed]using this
 have w2:IntKind.u8.wrap (r:Int)=r:=by have:((r:Int) % 256)=r:=aa;simpa[IntKind.wrap,IntKind.bits,IntKind.signed]using this
 have c1:(r:Int)<=255:=aa;simp only[go_sem,seval,w1,w2,c1,decide_true];refine ahr (e:=5) (n:=256) (b:=1) (k:=.u8) (j:=r) ah (ie:=t5) ah ah ?_ ?_ aa aa ah ?_
 ·exact au
 ·exact au
 simp only[go_sem,seval,hp,Int.toNat_natCast,hq];refine an aI ao ⟨?_,rfl⟩;simp only[up,if_true];rw[aqd ⟨r,hr⟩]
def aby(hr:r<128):aw E 301 #[.int .i32 r] U λe J=>e=.returned (.bool (xr r))/\J=U:=by
 refine fZ func301 ntmps301 results301 rfl al λQ aD an aB=>?_;have c1:(r:Int)<=255:=aa;by_cases h:48<=r
 ·have h':(48:Int)<=r:=aa;have e:decide ((r:Int)<=57)=xr r:=by unfold xr;simp[h];omega
  simp only[go_sem,seval,c1,h',decide_true,e];exact an aI ao ⟨by simp[up],rfl⟩
 ·have h':¬(48:Int)<=r:=aa;have e:xr r=false:=by unfold xr;simp[h]
  simp only[go_sem,seval,c1,h',decide_true,decide_false];exact an aI ao ⟨by simp[up,e],rfl⟩
def Tc(hp:U.f 1=some (.cells L.toArray 396 (0,0)))(hq:∀i<128,L[i]? =some (.int .u8 (Go.Lib.propertiesTab.getD i 0))):aw E 299 #[.int .i32 r] U λe J=>e=.returned (.bool (qo r))/\J=U:=by
 refine fZ func299 ntmps299 results299 rfl al λQ aD an aB=>?_;by_cases hr:r<128
 ·have c1:(r:Int)<=127:=aa;simp only[go_sem,seval,c1,decide_true];refine aZ (ajC hr hp (hq r hr)) ?_
  cases hl:Em r with
  |true=>
   have e:qo r=true:=by simp[qo,hr,hl]
   refine ag ?_;exact an aI ao ⟨by simp[up,e],rfl⟩
  |false=>
   refine ag ?_;refine aZ (aby hr) ?_
   cases hd:xr r with
   |true=>
    have e:qo r=true:=by simp[qo,hr,hd]
    refine ag ?_;exact an aI ao ⟨by simp[up,e],rfl⟩
   |false=>
    have e:qo r=(decide (r=46)||(decide (r=95)||decide (r=45))):=by simp[qo,hr,hl,hd]
    by_cases h1:r=46
    ·have rK:(r:Int)=46:=aa;simp only[go_sem,seval,eq_true rK,decide_true];exact an aI ao ⟨by rw[e];simp[up,h1],rfl⟩
    ·have rK:¬(r:Int)=46:=aa;by_cases h2:r=95
     ·have lB:(r:Int)=95:=aa;simp only[go_sem,seval,rK,eq_true lB,decide_true,decide_false];exact an aI ao ⟨by rw[e];simp[up,h2],rfl⟩
     ·have lB:¬(r:Int)=95:=aa;have e3:decide ((r:Int)=45)=decide (r=45):=by simp;omega
      simp only[go_sem,seval,rK,lB,decide_false,e3];exact an aI ao ⟨by simp[up,e,h1,h2],rfl⟩
 ·have c1:¬(r:Int)<=127:=aa;have e:qo r=false:=by simp[qo,hr]
  simp only[go_sem,seval,c1,decide_false];exact an aI ao ⟨by simp[up,e],rfl⟩
def akl(hp:U.f 1=some (.cells L.toArray 396 (0,0)))(hq:∀i<128,L[i]? =some (.int .u8 (Go.Lib.propertiesTab.getD i 0))):aw E 298 #[sV s] U λe J=>e=.returned (.bool (named s))/\J=U:=by
 refine fZ func298 ntmps298 results298 rfl al λQ aD an aB=>?_;refine ag ?_;refine anK (s:=s) ah ?_ ?_
 ·exact au
 intro it hit;have n1:¬1=it:=bl hit hp;have hle:∀o,U.le (U.set it o):=λo=>kK hit;refine ag ?_;refine dh (λm I ds ae=>ds=[]/\I 0=sV s/\I 6=pV it/\∃p:Nat,p+m=s.length/\(∀b∈s.take p,okB b=true)/\ae=U.set it (.stringIter (B s) p)) s.length ?_ ?_
 ·refine⟨rfl,?_,?_,0,al,al,rfl⟩<;>exact au
 ·rintro m I ds ae X ⟨rfl,h0,h6,p,Bq,gB,rfl⟩ hX
  cases m with
  |succ m=>
   have rX:p<s.length:=aa;refine ag ?_;refine TL (s:=s) (pos':=p) h6 aX (λ_=>?_) (λh=>absurd rX h);rw[Hp.set_set];by_cases hb:s[p].toNat<128
   ·rw[abo rX hb];refine ag ?_;refine aZ (Tc (by rw[Hp.ay n1];exact hp) hq) ?_;rw[<-T9]
    cases ho:okB s[p]with
    |true=>
     simp only[go_sem,seval,Bool.not_true];refine hX m _ _ _ _ aa ⟨rfl,?_,?_,p+1,aa,?_,rfl⟩ ao
     ·exact aQ h0
     ·exact aQ h6
     ·intro b hb;rw[List.take_succ_eq_append_getElem rX,List.mem_append]at hb;rcases hb with hb|hb
      ·exact gB b hb
      ·rw[List.mem_singleton.1 hb];exact ho
    |false=>
     have e:named s=false:=by
      unfold named;have:s.all okB=false:=by rw[List.all_eq_false];exact⟨s[p],List.getElem_mem rX,by simp[ho]⟩
      rw[this,Bool.and_false]
     simp only[go_sem,seval,Bool.not_false];exact an (J:=U) aI (hle _) ⟨by simp[up,e],rfl⟩
   ·have hr:=decode_high rX hb;obtain⟨rr,D3⟩:∃rr,rr=(Utf8.decode (B s) p).1:=⟨_,rfl⟩;rw[<-D3]at hr|-;refine ag ?_;refine aZ (Tc (by rw[Hp.ay n1];exact hp) hq) ?_;have e1:qo rr=false:=by unfold qo;rw[decide_eq_false aa];rfl
    have e:named s=false:=by
     unfold named
     have:s.all okB=false:=by rw[List.all_eq_false];refine⟨s[p],List.getElem_mem rX,?_⟩;rw[T9];unfold qo;rw[decide_eq_false hb];simp
     rw[this,Bool.and_false]
    rw[e1];simp only[go_sem,seval,Bool.not_false];exact an (J:=U) aI (hle _) ⟨by simp[up,e],rfl⟩
  |zero=>
   refine ag ?_;refine TL (s:=s) (pos':=p) h6 aX (λh=>absurd h aa) (λ_=>?_);have lY:s.all okB=true:=by rw[List.all_eq_true];rw[List.take_of_length_le aa]at gB;exact gB
   by_cases h1:s=[]
   ·have e:named s=false:=by unfold named;simp[h1]
    simp only[go_sem,seval,h0,eq_true h1,decide_true];exact an (J:=U) aI (hle _) ⟨by simp[up,e],rfl⟩
   ·have e:named s=decide ((s.length:Int)<=16):=by unfold named;rw[lY];simp[h1];omega
    refine bu h0 h1 ?_;exact an (J:=U) aI (hle _) ⟨by simp[up,e],rfl⟩
variable {I:av}{ds:List Deferred}{dst:Option Tmp}{nx:av->List Deferred->Hp->Prop}{pn:List PanicEntry->Hp->Prop}{P:Program}{ty:TypeId}{pos:String}{af:Array Edge}{g:Option (Nat×Bool)}{E:Env P}
def Qa{t u d:TypeId}{x y:Operand}{i j:Int}{k:IntKind}{inf:TypeInfo}(hu:∃ms,P.underlying t=some (.interface ms))(hd:P.underlying d=some (.int k))(hi:P.info? d=some inf)(hc:inf.comparable=true)(hx:ak I x=.iface d (iV i))(hy:ak I y=.iface d (iV j))(h:nx (aC I dst (.bool (decide (i=j)))) ds U):wpOp E ⟨dst,.binOp .eql t x y u,ty,pos,af,g⟩ I ds U nx pn:=by
 unfold wpOp;simp only[execOp,hx,hy,aG];refine y0 ?_ ⟨al,al⟩;unfold binOp;simp only[aG,bt];obtain⟨ms,hu⟩:=hu;show wpS P (Op.equalIn (9998+1+1) t _ _) _ _ U;unfold Op.equalIn;simp only[aG,eg,hu,ne_eq,not_true_eq_false,if_false,gu,hi,hc,Bool.not_true,Bool.false_eq_true];unfold Op.equalIn;simp only[aG,eg,hd,if_true,bt];have e:(i==j)=decide (i=j):=by by_cases h:i=j<;>simp[h]
 rw[e];exact h
section
variable {E:Env prog}{H:Hid}{n:N}{X:Ext}{U:Hp}{c:CN}{nm:List UInt8}{q:QN}{k:Int}{x:XN}{f:FR}
variable {A:Lay}{id:Int}
def abm (a:aq A H n X U)(w:Wf n):
 aw E 286 #[pV A.br,sV nm] U λe J=>(∃q,n.q? nm=some q/\e=.returned (.tuple #[pV (A.queue nm),.nilIface])/\J=U)\/
  (n.q? nm=none/\named nm=false/\e=.returned (.tuple #[.pointer none,.iface 215 (iV 502)])/\aq A H n X J)\/
  (n.q? nm=none/\named nm=true/\n.aN.length=8/\e=.returned (.tuple #[.pointer none,.iface 215 (iV 506)])/\aq A H n X J)\/
  (n.q? nm=none/\named nm=true/\n.aN.length≠8/\∃b H',e=.returned (.tuple #[pV b,.nilIface])/\aq (A.tI nm b) H' {n with aN:=cZ cP n.aN nm ⟨[],0,0,[]⟩} X J):=by
 refine aV func286 ntmps286 results286 λQ aD an aB=>?_;obtain⟨l,k,h1,h2,h3⟩:=a.mq;have hlen:l.length=n.aN.length:=by have:=h3.length_eq;simpa using this
 refine aJ a.tU ?_;refine j9 (b:=A.mq) (k:=nm) (l:=l) (c:=k) wG (z:=.pointer none) ah ?_ h1 ?_ ?_
 ·exact au
 ·exact au
 rw[if_neg Bool.false_ne_true]
 cases hq:n.q? nm with
 |some q=>
  obtain⟨st,bw⟩:=so h2 h3 (List.mem_map_of_mem (f:=λe:List UInt8×QN=>(e.1,pV (A.queue e.1))) (jb hq));have dt:((du l nm).map (·.2.1)).getD (.pointer none)=pV (A.queue nm):=by rw[bw];rfl
  rw[dt];refine ag ?_;exact an ji ao (.inl ⟨q,hq,by simp[up],rfl⟩)
 |none=>
  have bw:=map_none h3 (k:=nm) (λe he=>by obtain⟨y,hy,rfl⟩:=List.mem_map.1 he;exact jc hq y hy);have dt:((du l nm).map (·.2.1)).getD (.pointer none)=.pointer none:=by rw[bw];rfl
  rw[dt];refine ag ?_;refine aZ (akl a.b1 A.tab) ?_
  cases jJ:named nm with
  |false=>
   simp only[go_sem,seval,Bool.not_false];exact an ji ao (.inr (.inl ⟨hq,jJ,by simp[up],a⟩))
  |true=>
   simp only[go_sem,seval,Bool.not_true,a.tU];refine Hu wG ?_ h1 ?_
   ·exact au
   by_cases h8:n.aN.length=8
   ·have JX:(l.length:Int)=8:=aa;simp only[go_sem,seval,eq_true JX,decide_true];exact an ji ao (.inr (.inr (.inl ⟨hq,jJ,h8,by simp[up],a⟩)))
   ·have JX:¬(l.length:Int)=8:=aa;simp only[go_sem,seval,JX,decide_false];refineλb hb=>?_;have a1:=λo=>a.fresh hb o;have f1:=λo=>(a1 o).tU;refine aJ f1 ?_;refine BH (b:=A.mq) (k:=nm) wG h2.uniq ?_ (kK hb _ _ h1) ?_ ?_
    ·exact au
    ·exact au
    obtain⟨d1,d2⟩:=Ez h2 h3 (k:=nm) (λe he=>by obtain⟨y,hy,rfl⟩:=List.mem_map.1 he;exact jc hq y hy) (pV b);refine ag ?_;refine an ji ao (.inr (.inr (.inr ⟨hq,jJ,h8,b,_,by simp[up],a.akz w hq hb ⟨_,_,rfl,d1,?_⟩⟩)));refine d2.trans (List.Perm.symm ?_);refine((vA (lt:=cP) n.aN nm ⟨[],0,0,[]⟩).map _).trans ?_;simp only[List.map_cons,Lay.tI,if_true];refine List.Perm.cons _ (List.Perm.of_eq (List.map_congr_left λe he=>?_));rw[if_neg (λx=>by have:=jc hq e he;exact this x)]
end
section
variable {E:Env prog}{H:Hid}{n:N}{X:Ext}{U:Hp}{no:Nat}{c:CN}{h:HN}{nm:List UInt8}{q:QN}{k:Int}{x:XN}{bf:Nat}{f:FR}{I:av}
variable {A:Lay}{id:Int}
def ahg (d:Option TypeDesc):Array (String×TypeId):=match d with|some (.interface ms)=>ms|_=>#[]
def SJ:∃ms,prog.underlying 45=some (.interface ms):=⟨ahg (prog.underlying 45),ah⟩
def aql {s:List UInt8}{r:List UInt8×List UInt8}(h:jE s=some r):r.1.length<=s.length:=by have:=amf h;omega
def abn {cl me:Nat}(a:aq A H n ((bf,bP f)::X) U)(w:Wf n)(hc:n.ar id=some c)(hh:n.h? id no=some h)(aH:f.cl=(cl:Int))(aO:f.me=(me:Int))(eC:no<1000000)(fP:c.r.out.length<=100000000000000)(jK:f.s.length<=1000000)
 (jy:∀nm q,n.q? nm=some q->q.ready.length<=1000/\q.cons.length<=1000000):
 aw E 268 #[pV (A.chan id no),pV bf] U (iG A X n bf f (n.declare id no f.s cl me)):=by
 refine aV func268 ntmps268 results268 λQ aD an aB=>?_;refine ag ?_;refine iU sU a (tK a.ff rfl) (λnm rest J hr a1=>?_) (λhr s J a1=>aB _ _ _ _ ao ?_)
 rotate_left
 ·have e:n.declare id no f.s cl me=.bad cl me:=by unfold N.declare;rw[hr]
  rw[e];exact⟨H,s,rfl,by rw[<-aH,<-aO];exact a1⟩
 refine ag ?_;refine qE a1 (λhs=>?_) (λhs=>aB _ _ _ _ ao ?_)
 rotate_left
 ·have e:n.declare id no f.s cl me=.bad cl me:=by
   unfold N.declare;rw[hr];simp only at hs;cases rest with
   |nil=>exact absurd rfl hs
   |cons x l=>rfl
  rw[e];exact⟨H,rest,rfl,by rw[<-aH,<-aO];exact a1⟩
 simp only at hs;subst hs;have htl:nm.length<=1000000:=by have:=aql hr;simp only at this;omega
 have tail:∀{A1:Lay} {H1:Hid} {n1:N} {fM:Hp} {I:av} {q1:QN},aq A1 H1 n1 ((bf,bP {f with s:=[]})::X) fM->qB A A1->n1.h? id no=some h->n1.ar id=some c->n1.q? nm=some q1->q1.ready.length<=1000->q1.cons.length<=1000000->
  n.declare id no f.s cl me=.ok (n1.send id (ck no 50 11 [.text nm,.long q1.ready.length,.long q1.cons.length])) .nil->I 0=pV (A1.chan id no)->I 5=sV nm->I 6=pV (A1.queue nm)->
  cO E 60 (bO (aP (aP (aP (aP (aP (f268.body.getD .skip))))))) (lQ (cO E 60 (aP (aP (aP (aP (aP (aP (f268.body.getD .skip))))))) Q) Q) I [] fM:=by
  intro A1 H1 n1 fM I q1 a2 hk fI dV gT Br Dm e h0 h5 h6;simp only[f268,Option.getD_some,aP,bO];obtain⟨rb,rc,iq⟩:=(a2.ft gT).shape;obtain⟨cb,cc,lF,_⟩:=(show Sl 186 fM ((q1.cons.map A1.cons).map pV) _ by rw[List.map_map];exact a2.iy gT).read;simp only[List.length_map]at lF;have mJ:=a2.queue gT;rw[iq,lF]at mJ;refine AP [0,1,2,3,4,5,6,7,8,9,10,13,11,12,14,15,16,17] ?_;refine fR h0 h5 h6 (a2.bX fI) ?_;refine aZ (MK mJ) ?_;refine⟨by(repeat(first|exact jM|(apply jL;(focus decide+kernel))|(refine lK rfl (aQ (a2.bX fI)) ?_))),?_⟩;refine ag ?_;refine aZ (PG mJ) ?_;refine⟨by(repeat(first|exact jM|(apply jL;(focus decide+kernel))|(refine lK rfl (aQ (a2.bX fI)) ?_))),?_⟩;refine ag ?_;refineλbn cD=>?_;have a3:=λo=>a2.fresh cD o;have f3:=λo=>(a3 o).bX fI;refine⟨dJ f3,?_⟩;refine ag ?_;refine aL (pQ (ch:=no) (cl:=50) (me:=11) (xs:=[.text nm,.long q1.ready.length,.long q1.cons.length]) (a3 _) dV (.inr ⟨bn,rfl,aX⟩) ?_ al aa ai ai ?_ aa) ?_
  ·simp[lr];omega
  ·simp[dg,eJ,bH];omega
  rintro v fU ⟨hv,a4⟩
  cases hv
  have f4:=a4.bX (h:=h) (by rw[pY];exact fI);refine⟨kg4 h0 h5 h6 f4,?_⟩;refine ag ?_;refine an aI ao ?_;rw[e];exact⟨A1,H1,0,_,by simp[up,Er.v],hk,a4⟩
 refine bN (a1.bX hh) (a1.eQ hc) a1.jX ?_;refine dG adF (abm a1 w) ?_ (λch ae h=>by rcases h with⟨_,_,h,_⟩|⟨_,_,h,_⟩|⟨_,_,_,h,_⟩|⟨_,_,_,_,_,h,_⟩<;>cases h);rintro v cV (⟨q,hq,hv,rfl⟩|⟨hq,jJ,hv,a2⟩|⟨hq,jJ,KP,hv,a2⟩|⟨hq,jJ,KP,b,H2,hv,a2⟩)
 ·cases hv
  obtain⟨l1,l2⟩:=jy nm q hq;refine ag ?_;refine tail a1 (.refl A) hh hc hq l1 l2 (by unfold N.declare;rw[hr];simp only[hq]) ?_ ?_ ?_<;>exact au
 ·cases hv
  have e:n.declare id no f.s cl me=.ok n (.cL 502 cl me):=by unfold N.declare;rw[hr];simp only[hq,jJ,if_true]
  refine ag ?_;refine Qa (d:=215) (i:=502) (j:=502) (k:=.i64) (inf:=t215) SJ ah ah ah ?_ ?_ ?_
  ·exact au
  ·exact au
  simp only[go_sem,seval,decide_true];refine aL (jW (e:=502) a2 aH aO) ?_;rintro v dp ⟨b,hv,a3⟩
  cases hv
  refine ag ?_;refine an aI ao ?_;rw[e];exact⟨A,H,b,_,by simp[up],.refl A,a3⟩
 ·cases hv
  have e:n.declare id no f.s cl me=.ok n (.soft 506 cl me):=by unfold N.declare;rw[hr];simp only[hq,jJ,KP];rfl
  refine ag ?_;refine Qa (d:=215) (i:=506) (j:=502) (k:=.i64) (inf:=t215) SJ ah ah ah ?_ ?_ ?_
  ·exact au
  ·exact au
  refine ag ?_;refine aL (xd (e:=506) a2 aH aO) ?_;rintro v dp ⟨b,hv,a3⟩
  cases hv
  refine ag ?_;refine an aI ao ?_;rw[e];exact⟨A,H,b,_,by simp[up],.refl A,a3⟩
 ·cases hv
  have e:n.declare id no f.s cl me=.ok (({n with aN:=cZ cP n.aN nm ⟨[],0,0,[]⟩}:N).send id (ck no 50 11 [.text nm,.long 0,.long 0])) .nil:=by unfold N.declare;rw[hr];simp only[hq,jJ];rw[if_neg al,if_neg KP]
  refine ag ?_;refine tail (A1:=A.tI nm b) (q1:=⟨[],0,0,[]⟩) a2 ⟨rfl,rfl,rfl⟩ hh hc ?_ al al e ?_ ?_ ?_
  ·show bq (cZ cP n.aN nm ⟨[],0,0,[]⟩) nm=_;rw[yQ _ _ _ _ hq,if_pos rfl]
  ·exact au
  ·exact au
  ·simp only[go_sem,seval,Lay.tI]
end
section
variable {H:Hid}{n:N}{X:Ext}{U:Hp}{no:Nat}{h:HN}{q:QN}{k:Int}{x:XN}
variable {A:Lay}
def aq.acb (a:aq A H n ((A.cons k,lz (A.chan x.id x.no) k x.tag (A.queue x.q) x.fJ)::X) U)(hk:n.x? k=none):aq A H {n with xs:=n.xs++[(k,x)]} X U:=by
 have SA:∀i,N.x? {n with xs:=n.xs++[(k,x)]} i=if i=k then some x else n.x? i:=by
  intro i;unfold N.x? bq;simp only[List.find?_append,List.find?_cons,List.find?_nil];by_cases e:i=k
  ·subst e;have:(n.xs.find? λe=>decide (e.1=i))=none:=by unfold N.x? bq at hk;simpa using hk
   simp[this]
  ·have e2:¬k=i:=λz=>e z.symm;simp[e2,e]
 have key:∀r,∃r',view {n with xs:=n.xs++[(k,x)]} A H X r=view n A H ((A.cons k,lz (A.chan x.id x.no) k x.tag (A.queue x.q) x.fJ)::X) r'/\cG A H X r=cG A H ((A.cons k,lz (A.chan x.id x.no) k x.tag (A.queue x.q) x.fJ)::X) r'/\
  ((r=.cons k/\r'=.ext 0)\/(∃i,r=.ext i/\r'=.ext (i+1))\/(r'=r/\(∀i,r≠.ext i)/\r≠.cons k)):=by
  intro r;by_cases e1:r=.cons k
  ·exact⟨.ext 0,by subst e1;simp[view,SA],by subst e1;simp[cG],.inl ⟨e1,rfl⟩⟩
  ·by_cases e2:∃i,r=.ext i
   ·obtain⟨i,rfl⟩:=e2;exact⟨.ext (i+1),by simp[view],by simp[cG],.inr (.inl ⟨i,rfl,rfl⟩)⟩
   ·refine⟨r,?_,?_,.inr (.inr ⟨rfl,λi h=>e2 ⟨i,h⟩,e1⟩)⟩
    ·cases r<;>first|rfl|exact absurd ⟨_,rfl⟩ e2|skip
     rename_i j;have:¬j=k:=λh=>e1 (by rw[h]);simp[view,SA,this]
    ·cases r<;>first|rfl|exact absurd ⟨_,rfl⟩ e2
 refine⟨λr v hv=>?_,λr s hr hs e=>?_⟩
 ·obtain⟨r',h1,h2,_⟩:=key r;rw[h2];exact a.has r' v (by rw[<-h1];exact hv)
 ·obtain⟨r',h1,h2,h3⟩:=key r;obtain⟨s',g1,g2,g3⟩:=key s;have h:=a.inj r' s' (by rw[<-h1];exact hr) (by rw[<-g1];exact hs) (by rw[<-h2,<-g2];exact e);rcases h3 with⟨rfl,rfl⟩|⟨i,rfl,rfl⟩|⟨rfl,f1,f2⟩<;>rcases g3 with⟨rfl,rfl⟩|⟨j,rfl,rfl⟩|⟨rfl,k1,k2⟩
  ·rfl
  ·cases h
  ·exact absurd h.symm (k1 _)
  ·cases h
  ·cases h;rfl
  ·exact absurd h.symm (k1 _)
  ·exact absurd h (f1 _)
  ·exact absurd h (f1 _)
  ·exact h
end
section
variable {E:Env prog}{H:Hid}{n:N}{X:Ext}{U:Hp}{no:Nat}{c:CN}{h:HN}{nm:List UInt8}{q:QN}{k:Int}{x:XN}{bf:Nat}{f:FR}{I:av}{ds:List Deferred}{A':Lay}{J:Hp}
variable {A:Lay}{id:Int}
def aa3 {cl me:Nat}(a:aq A H n ((bf,bP f)::X) U)(w:Wf n)(hc:n.ar id=some c)(hh:n.h? id no=some h)(aH:f.cl=(cl:Int))(aO:f.me=(me:Int))(eC:no<1000000)(fP:c.r.out.length<=100000000000000)(asN:h.co.length<=4)
 (iZ:n.x? (n.bj+1)=none) (b1:0<=n.bj/\n.bj<=1000000000000) (jy:∀nm q,n.q? nm=some q->q.cons.length<=1000):
 aw E 270 #[pV (A.chan id no),pV bf] U (iG A X n bf f (n.consume id no h f.s cl me)):=by
 refine aV func270 ntmps270 results270 λQ aD an aB=>?_;refine ag ?_;refine yy [0,1,2,4,5,6,8,9,10,3,7,11,12,13,14] (λch ds U=>ds=[]/\(iG A X n bf f (n.consume id no h f.s cl me)) (.panicked ch) U) ah jU (λch I ds U h=>by obtain⟨rfl,h⟩:=h;exact aB _ _ _ _ ao h) ?_;refine ag ?_;refine iU sU a (tK a.ff rfl) (λnm s1 J hr a1=>?_) (λhr s J a1=>⟨rfl,?_⟩)
 rotate_left
 ·have e:n.consume id no h f.s cl me=.bad cl me:=by unfold N.consume;rw[hr]
  rw[e];exact⟨H,s,rfl,by rw[<-aH,<-aO];exact a1⟩
 refine gp ?_;refine ag ?_;refine iU sU a1 (tK a1.ff rfl) (λtg s2 fM bZ a2=>?_) (λbZ s J a2=>⟨rfl,?_⟩)
 rotate_left
 ·have e:n.consume id no h f.s cl me=.bad cl me:=by unfold N.consume;rw[hr];simp only[bZ]
  rw[e];exact⟨H,s,rfl,by rw[<-aH,<-aO];exact a2⟩
 simp only at bZ;refine gp ?_;refine ag ?_;refine iU JQ a2 (JH a2.ff rfl) (λna s3 cV eN a3=>?_) (λeN s J a3=>⟨rfl,?_⟩)
 rotate_left
 ·have e:n.consume id no h f.s cl me=.bad cl me:=by unfold N.consume;rw[hr];simp only[bZ,eN]
  rw[e];exact⟨H,s,rfl,by rw[<-aH,<-aO];exact a3⟩
 simp only at eN;refine gp ?_;refine ag ?_;refine qE a3 (λhs=>?_) (λhs=>aB _ _ _ _ ao ?_)
 rotate_left
 ·have e:n.consume id no h f.s cl me=.bad cl me:=by
   unfold N.consume;rw[hr];simp only[bZ,eN];simp only at hs;cases s3 with
   |nil=>exact absurd rfl hs
   |cons x l=>rfl
  rw[e];exact⟨H,s3,rfl,by rw[<-aH,<-aO];exact a3⟩
 simp only at hs;subst hs;by_cases t1:tg.length<1
 ·have Ib:(tg.length:Int)<1:=aa;have e:n.consume id no h f.s cl me=.ok n (.cL 502 cl me):=by unfold N.consume;rw[hr];simp only[bZ,eN];rw[if_pos (.inl t1)]
  simp only[go_sem,seval,Ib,decide_true];refine aL (jW (e:=502) a3 aH aO) ?_;rintro v dp ⟨b,hv,a4⟩
  cases hv
  refine ag ?_;refine an aI ao ?_;rw[e];exact⟨A,H,b,_,by simp[up],.refl A,a4⟩
 have Ib:¬(tg.length:Int)<1:=aa;by_cases t2:tg.length>8
 ·have Nc:(tg.length:Int)>8:=aa;have e:n.consume id no h f.s cl me=.ok n (.cL 502 cl me):=by unfold N.consume;rw[hr];simp only[bZ,eN];rw[if_pos (.inr t2)]
  simp only[go_sem,seval,Ib,Nc,decide_true,decide_false];refine aL (jW (e:=502) a3 aH aO) ?_;rintro v dp ⟨b,hv,a4⟩
  cases hv
  refine ag ?_;refine an aI ao ?_;rw[e];exact⟨A,H,b,_,by simp[up],.refl A,a4⟩
 have Nc:¬(tg.length:Int)>8:=aa;have G8:¬(tg.length<1\/tg.length>8):=aa;simp only[go_sem,seval,Ib,Nc,decide_false,a3.bX hh,a3.eQ hc,a3.jX]
 cases hq:n.q? nm with
 |none=>
  have e:n.consume id no h f.s cl me=.ok n (.soft 404 cl me):=by unfold N.consume;rw[hr];simp only[bZ,eN];rw[if_neg G8];simp only[hq]
  refine aZ (JE a3 hq) ?_;refine ag ?_;refine aL (xd (e:=404) a3 aH aO) ?_;rintro v dp ⟨b,hv,a4⟩
  cases hv
  refine ag ?_;refine an aI ao ?_;rw[e];exact⟨A,H,b,_,by simp[up],.refl A,a4⟩
 |some q=>
 refine aZ (JF a3 hq) ?_;obtain⟨lc,kc,o1,o2,o3⟩:=a3.co hh;have Bn:lc.length=h.co.length:=by have:=o3.length_eq;simpa using this
 refine aJ (a3.bX hh) ?_;refine j9 (b:=A.co id no) (k:=tg) (l:=lc) (c:=kc) zK (z:=.pointer none) ah ?_ o1 ?_ ?_
 ·exact au
 ·exact au
 rw[if_neg Bool.false_ne_true]
 cases hg:bq h.co tg with
 |some k=>
  have e:n.consume id no h f.s cl me=.ok n (.cL 530 cl me):=by unfold N.consume;rw[hr];simp only[bZ,eN];rw[if_neg G8];simp only[hq,hg];rfl
  obtain⟨st,bw⟩:=so o2 o3 (List.mem_map_of_mem (f:=λe:List UInt8×Int=>(e.1,pV (A.cons e.2))) (jb hg));have dt:((du lc tg).map (·.2.1)).getD (.pointer none)=pV (A.cons k):=by rw[bw];rfl
  rw[dt];refine ag ?_;refine aL (jW (e:=530) a3 aH aO) ?_;rintro v dp ⟨b,hv,a4⟩
  cases hv
  refine ag ?_;refine an aI ao ?_;rw[e];exact⟨A,H,b,_,by simp[up],.refl A,a4⟩
 |none=>
 have DN:∀e∈(h.co.map λe=>(e.1,pV (A.cons e.2))),e.1≠tg:=λe he=>by obtain⟨y,hy,rfl⟩:=List.mem_map.1 he;exact jc hg y hy
 have dt:((du lc tg).map (·.2.1)).getD (.pointer none)=.pointer none:=by rw[map_none o3 DN];rfl
 rw[dt];refine aJ (a3.bX hh) ?_;refine Hu zK ?_ o1 ?_
 ·exact au
 by_cases h4:h.co.length=4
 ·have sY:(lc.length:Int)=4:=aa;have e:n.consume id no h f.s cl me=.ok n (.soft 506 cl me):=by unfold N.consume;rw[hr];simp only[bZ,eN];rw[if_neg G8];simp only[hq,hg,h4];rfl
  simp only[go_sem,seval,eq_true sY,decide_true];refine aL (xd (e:=506) a3 aH aO) ?_;rintro v dp ⟨b,hv,a4⟩
  cases hv
  refine ag ?_;refine an aI ao ?_;rw[e];exact⟨A,H,b,_,by simp[up],.refl A,a4⟩
 have sY:¬(lc.length:Int)=4:=aa;have e:n.consume id no h f.s cl me=.ok ((n.kP id no nm tg na).send id (ck no 60 21 [.text tg])) .nil:=by unfold N.consume;rw[hr];simp only[bZ,eN];rw[if_neg G8];simp only[hq,hg];rw[if_neg al,if_neg h4]
 simp only[go_sem,seval,sY,decide_false];refineλcb mE=>?_;have I0:NK n A (A.B5 (n.bj+1) cb) H H:=⟨rfl,rfl,rfl,rfl,rfl,λ_ _=>⟨rfl,rfl⟩,λ_ _ _=>⟨rfl,rfl,rfl⟩,λ_ _=>⟨rfl,rfl,rfl⟩,λj hj=>by simp[Lay.B5,M0 (f:=n.x?) iZ hj]⟩;have a4:=a3.HU w I0
 have RE:(h.co.map λe=>(e.1,pV ((A.B5 (n.bj+1) cb).cons e.2)))=h.co.map λe=>(e.1,pV (A.cons e.2)):=List.map_congr_left λe he=>by obtain⟨x,hx,_⟩:=w.co id no h hh e he;rw[I0.cons e.2 (by rw[hx];rfl)]
 have Gv:(A.B5 (n.bj+1) cb).cons (n.bj+1)=cb:=by simp[Lay.B5]
 generalize hA:A.B5 (n.bj+1) cb=A' at a4 RE Gv I0;have eA:A'.chan=A.chan/\A'.conn=A.conn/\A'.co=A.co/\A'.queue=A.queue/\A'.br=A.br/\A'.gw=A.gw:=by rw[<-hA];exact⟨rfl,rfl,rfl,rfl,rfl,rfl⟩
 obtain⟨xu,yZ,AS,Gc,CM,P4⟩:=eA;have a5:=λo=>a4.iS mE o;have f5:=λo=>(a5 o).bX hh;simp only[xu,yZ,AS]at f5;refine aJ f5 ?_;refine BH (b:=A.co id no) (k:=tg) zK o2.uniq ?_ (kK mE _ _ o1) ?_ ?_
 ·exact au
 ·exact au
 obtain⟨d1,d2⟩:=Ez o2 o3 DN (pV cb)
 have a6:=λo=>(a5 o).MS hh (λh=>{h with co:=cZ cP h.co tg (n.bj+1)}) rfl rfl (o:=aU bT (jB lc tg (pV cb) kc) (jN lc tg kc)) ⟨_,_,rfl,d1,by
  refine d2.trans (List.Perm.symm ?_)
  refine((vA (lt:=cP) h.co tg (n.bj+1)).map _).trans ?_
  simp only[List.map_cons,Gv,RE]
  exact List.Perm.refl _⟩
 have iA:(n.bC id no λh=>{h with co:=cZ cP h.co tg (n.bj+1)}).ar id=some {c with ch:=dD c.ch no λh=>{h with co:=cZ cP h.co tg (n.bj+1)}}:=by simp[hc]
 have pe:(n.bC id no λh=>{h with co:=cZ cP h.co tg (n.bj+1)}).h? id no=some {h with co:=cZ cP h.co tg (n.bj+1)}:=by simp[hh]
 have uB:(n.bC id no λh=>{h with co:=cZ cP h.co tg (n.bj+1)}).q? nm=some q:=hq;generalize hN:(n.bC id no λh=>{h with co:=cZ cP h.co tg (n.bj+1)})=n6 at a6 iA pe uB;have f6:=λo=>(a6 o).bX pe;have g6:=λo=>(a6 o).eQ iA;have w6:=λo=>(a6 o).jX;simp only[xu,yZ,AS,CM,P4]at f6 g6 w6;refine bN f6 g6 w6 ?_;have aeZ:q.cons.length<=1000:=jy nm q hq;generalize kI:Hp.set (Hp.set cV cb _) (A.co id no) _=yC
 have b6:aq A' H n6 ((cb,lz (A'.chan id no) 0 tg (A'.queue nm) na)::(bf,bP {f with s:=[]})::X) yC:=by refine dU (a6 (lz (A'.chan id no) 0 tg (A'.queue nm) na)) ?_;rw[<-kI,xu,AS,Gc];rfl
 have emap:(q.cons.map λk=>pV (A'.cons k))=(q.cons.map A'.cons).map pV:=by rw[List.map_map];rfl
 have jK:=b6.iy uB;rw[emap]at jK;have qR:=b6.br;rw[CM]at qR;have uE:=b6.eK;have qZ:=b6.queue uB;rw[Gc]at qZ;simp only[xu,Gc]at uE;refine aL (aa2 qR uE qZ jK (aY aeZ) (by rw[<-hN];exact b1)) ?_;rintro v pH ⟨hv,ab,pad,dm,afR⟩
 cases hv
 have a8:=(b6.U2 n6.messages (n6.bj+1)).vg (lz (A'.chan id no) (n6.bj+1) tg (A'.queue nm) na)
 have TF:∀{x o},yC.f x=some o->(∀z,o≠.cells z 186 (0,0))->¬ab=x:=by
  intro x o hx hz e;subst e;rcases dm with dm|⟨c',dm⟩
  ·rw[hx]at dm;cases dm
  ·rcases jK.form with⟨_,h2⟩|⟨a',amh,h2,h3⟩
   ·rw[dm]at h2;cases h2
   ·rw[dm]at h2;simp only[Value.slice.injEq,Option.some.injEq,Addr.mk.injEq]at h2;rw[h2.1.1,h3]at hx;exact hz _ (Option.some.inj hx).symm
 have n8:({n6 with messages:=n6.messages,bj:=n6.bj+1}:N).q? nm=some q:=uB
 have a9:=a8.U3 (nm:=nm) n8 (b:=ab) (λq=>{q with cons:=q.cons++[n.bj+1]}) rfl
  (by
   rcases dm with dm|⟨c',dm⟩
   ·refine Hl.tR a8 _ ?_
    rw[Hp.ay (TF uE (by simp[lz])),Hp.ay (by rw[CM];exact TF qR (by simp[ix]))];exact dm
   ·have DT:kW (H.cv nm)=false:=by rw[dm];rfl
    have eb:pN (H.cv nm)=ab:=by rw[dm];rfl
    have:=Hl.apart a8 (.iy nm) (by rw[PM n8 DT];rfl)
    rw[<-eb];exact this)
  (cv:=.slice (some ⟨ab,0,none⟩) ((q.cons.map A'.cons).length+1) ((q.cons.map A'.cons).length+1+pad.length)) (o:=.cells ((q.cons.map A'.cons).map pV++[pV cb]++pad).toArray 186 (0,0))
  ⟨ab,pad,al,by simp only[List.map_append,List.map_cons,List.map_nil,Gv,emap]⟩ rfl
 have yP:=a9.le (J:=pH) (by rw[CM,xu,Gc];exact afR)
 have IQ:aq A' (H.pE nm (.slice (some ⟨ab,0,none⟩) ((q.cons.map A'.cons).length+1) ((q.cons.map A'.cons).length+1+pad.length))) (n.kP id no nm tg na) ((bf,bP {f with s:=[]})::X) pH:=by
  have en:n6.bj=n.bj:=by rw[<-hN];rfl
  rw[en]at yP
  have:=aq.acb (A:=A') (k:=n.bj+1) (x:=⟨id,no,tg,nm,na⟩) (by rw[Gv];exact yP) (by
   show n6.x? (n.bj+1)=none
   rw[<-hN];exact iZ)
  rw[<-hN]at this;exact this
 have KD:(n.kP id no nm tg na).h? id no=some {h with co:=cZ cP h.co tg (n.bj+1)}:=by rw[<-hN]at pe;exact pe
 have aeT:(n.kP id no nm tg na).ar id=some {c with ch:=dD c.ch no λh=>{h with co:=cZ cP h.co tg (n.bj+1)}}:=by rw[<-hN]at iA;exact iA
 have f11:=IQ.bX KD;simp only[xu,yZ,AS]at f11;refine ag ?_;refine bJ 12 ?_;refine aJ f11 ?_;refineλbn cD=>?_;have f12:=λo=>(IQ.fresh cD o).bX KD;simp only[xu,yZ,AS]at f12;refine⟨dJ f12,?_⟩;refine ag ?_;have RA:=λo=>pQ (E:=E) (ch:=no) (cl:=60) (me:=21) (xs:=[.text tg]) (IQ.fresh cD o) aeT (v:=.slice (some ⟨bn,0,none⟩) 1 1);rw[yZ]at RA;refine aL (RA _ (.inr ⟨bn,rfl,aX⟩) (by simp[lr]) al aa ai ai (by simp[dg,eJ,bH];omega) (by simp only;omega)) ?_;rintro v aur ⟨hv,Oh⟩
 cases hv
 have f13:=Oh.bX (h:={h with co:=cZ cP h.co tg (n.bj+1)}) (by rw[pY];exact KD);simp only[xu,yZ,AS]at f13;refine⟨dJ f13,?_⟩;refine ag ?_;refine an aI ao ?_;rw[e];exact⟨A',_,0,_,by simp[up,Er.v],⟨P4,CM,yZ⟩,Oh⟩
end
section
variable {E:Env prog}{H:Hid}{n:N}{X:Ext}{U:Hp}{no:Nat}{c:CN}{h:HN}{nm:List UInt8}{q:QN}{k:Int}{x:XN}{bf:Nat}{f:FR}{I:av}{ds:List Deferred}{dst:Option Tmp}{nx:av->List Deferred->Hp->Prop}{pn:List PanicEntry->Hp->Prop}{J:Hp}
variable {A:Lay}{id:Int}
def wE {cl me:Nat}(hk:f.u.kind=1)(aH:f.cl=(cl:Int))(aO:f.me=(me:Int))(x y:Nat):f.lI (x:Int) [(y:Int)]=decide (cl=x/\me=y):=by simp only[FR.lI,hk,aH,aO,decide_true,Bool.true_and,List.mem_singleton];by_cases h1:cl=x<;>by_cases h2:me=y<;>simp[h1,h2]<;>omega
def ah8 {cl me:Nat}(hk:f.u.kind=1)(aH:f.cl=(cl:Int))(aO:f.me=(me:Int))(x y z:Nat):f.lI (x:Int) [(y:Int),(z:Int)]=decide (cl=x/\(me=y\/me=z)):=by simp only[FR.lI,hk,aH,aO,decide_true,Bool.true_and,List.mem_cons,List.not_mem_nil,or_false];by_cases h1:cl=x<;>by_cases h2:me=y<;>by_cases h3:me=z<;>simp[h1,h2,h3]<;>omega
def uL {x:Int}{ms:List Int}{p:Prop}[Decidable p]{b cap:Nat}{o:Obj}{dst:Option Tmp}{I:av}{ds:List Deferred}{nx:av->List Deferred->Hp->Prop}{pn:List PanicEntry->Hp->Prop}(i:f.lI x ms=decide p)(a:aq A H n ((bf,bP f)::X) U)(hb:U.f b=none)
 (k:∀ae,aq A H n ((bf,bP f)::X) ae->nx (aC I dst (.bool (decide p))) ds ae) (ho:o=.cells (ms.map iV++[]).toArray 3 (0,0):=by rfl) (hn:ms.length<=1000:=by decide):kx E 193 #[pV bf,iV x,.slice (some ⟨b,0,none⟩) ms.length cap] (U.set b o) dst I ds nx pn:=by
 subst ho;refine aZ (uK (pad:=[]) (a.fresh hb _).eK aX hn) ?_;rw[i];exact k _ (a.fresh hb _)
def sC {R:Fin->Hp->Prop}{x y:Fin}{J:Hp}(h:R x J)(e:y=x):R y J:=e▸h
def Ql (a:aq A H n ((bf,bP f)::X) U):aw E 230 #[pV bf] U λe J=>(tF f.s=some []/\e=.returned (.tuple #[])/\aq A H n ((bf,bP {f with s:=[]})::X) J)\/(tF f.s≠some []/\e=.panicked lX/\∃s,aq A H n ((bf,bP {f with s:=s})::X) J):=by
 refine aV func230 ntmps230 results230 λQ aD an aB=>?_;refine ag ?_;refine iU og a (oG (w:=2) a.ff rfl ai) (λk s1 J hr a1=>?_) (λhr s J a1=>aB _ _ _ _ ao (.inr ⟨by unfold tF;rw[hr];simp,rfl,s,a1⟩));refine ag ?_;refine iU sU a1 (tK a1.ff rfl) (λtx s2 J bZ a2=>?_) (λbZ s J a2=>aB _ _ _ _ ao (.inr ⟨by unfold tF;rw[hr];simp only at bZ|-;rw[bZ];simp,rfl,s,a2⟩));simp only at bZ;refine ag ?_;refine iU og a2 (oG (w:=4) a2.ff rfl ai) (λk3 s3 J eN a3=>?_) (λeN s J a3=>aB _ _ _ _ ao (.inr ⟨by unfold tF;rw[hr];simp only at eN|-;rw[bZ];simp only;rw[eN];simp,rfl,s,a3⟩));simp only at eN;have e:tF f.s=some s3:=by unfold tF;rw[hr];simp only;rw[bZ];simp only;rw[eN]
 refine ag ?_;refine qE a3 (λhs=>?_) (λhs=>aB _ _ _ _ ao (.inr ⟨by rw[e];simpa using hs,rfl,s3,a3⟩));simp only at hs;subst hs;refine ag ?_;exact aD dz ao (.inl ⟨e,by simp[up],a3⟩)
structure IL (n:N) (id:Int) (no:Nat) (c:CN) (h:HN):Prop where
 w:Wf n
 yc:no<1000000
 out:c.r.out.length<=100000000000000
 co:h.co.length<=4
 new:n.x? (n.bj+1)=none
 bj:0<=n.bj/\n.bj<=1000000000000
 q:∀nm q,n.q? nm=some q->q.ready.length<=1000/\q.cons.length<=1000
 can:∀tg k,bq h.co tg=some k->Fu n k
 frame:∃fr:Nat,c.r.frame=(fr:Int)/\9<=fr/\fr<=1000000
 get:II n h
 settle:∀tag many b,IF n id no h (tr tag many) b
 fin:yF (n.send id (ck no 20 41 [])) id no h
def aka {cl me:Nat}(a:aq A H n ((bf,bP f)::X) U)(M:IL n id no c h)(hc:n.ar id=some c)(hh:n.h? id no=some h)(hk:f.u.kind=1)(aH:f.cl=(cl:Int))(aO:f.me=(me:Int))(jK:f.s.length<=1000000):
 aw E 246 #[pV (A.chan id no),pV bf] U (iG A X n bf f (n.method id no h f.s cl me)):=by
 refine aV func246 ntmps246 results246 λQ aD an aB=>?_;refine ag ?_;refineλb1 iY=>?_;refine ag ?_;refine uL (x:=20) (ms:=[10]) (wE hk aH aO 20 10) a iY λcY a1=>?_;by_cases m1:cl=20/\me=10
 ·have e:n.method id no h f.s cl me=.ok n (.cL 504 cl me):=by unfold N.method;rw[if_pos m1]
  simp only[go_sem,seval,decide_eq_true m1];refine aL (jW (e:=504) a1 aH aO) ?_;rintro v dp ⟨b,hv,a4⟩
  cases hv
  refine ag ?_;refine an aI ao ?_;rw[e];exact⟨A,H,b,_,by simp[up],.refl A,a4⟩
 simp only[go_sem,seval,decide_eq_false m1];refineλb2 dA=>?_;refine ag ?_;refine uL (x:=20) (ms:=[40]) (wE hk aH aO 20 40) a1 dA λjo a2=>?_;by_cases m2:cl=20/\me=40
 ·have e:n.method id no h f.s cl me=n.close id no f.s cl me:=by unfold N.method;rw[if_neg m1,if_pos m2]
  simp only[go_sem,seval,decide_eq_true m2];refine dG QL (Ql a2) ?_ (λch J hx=>aB _ _ _ _ ao ?_)
  rotate_left
  ·rcases hx with⟨_,h,_⟩|⟨hp,h,s,a4⟩
   ·cases h
   ·cases h
    have e2:n.close id no f.s cl me=.bad cl me:=by
     unfold N.close;cases hq:tF f.s with
     |none=>rfl
     |some l=>cases l with
      |nil=>exact absurd hq hp
      |cons x l=>rfl
    rw[e,e2];exact⟨H,s,rfl,by rw[<-aH,<-aO];exact a4⟩
  rintro v dp (⟨hp,hv,a4⟩|⟨_,h,_⟩)
  rotate_left
  ·cases h
  cases hv
  have e2:n.close id no f.s cl me=.ok ((n.send id (ck no 20 41 [])).pS id no) .nil:=by unfold N.close;rw[hp]
  refine ag ?_;refine bJ 9 ?_;refine aJ (a4.bX hh) ?_;have eC:=M.yc;have fP:=M.out;refine aL (pQ (ch:=no) (cl:=20) (me:=41) (xs:=[]) a4 hc (.inl ⟨rfl,rfl⟩) al al aa ai ai (by simp[dg]) aa) ?_;rintro v fU ⟨hv,a5⟩
  cases hv
  have zn:(n.send id (ck no 20 41 [])).h? id no=some h:=by rw[pY];exact hh
  have lE:(n.send id (ck no 20 41 [])).ar id=some {c with r:={c.r with out:=c.r.out++ck no 20 41 [],iu:=n.clock}}:=by rw[sO,if_pos rfl,hc];rfl
  refine⟨by(repeat(first|exact jM|(apply jL;(focus decide+kernel))|(refine lK rfl (aQ (a5.bX zn)) ?_))),?_⟩;refine ag ?_;refine aL (Jw a5 lE zn M.fin) ?_;rintro v fY ⟨hv,H2,a6⟩
  cases hv
  refine ag ?_;refine an aI ao ?_;rw[e,e2];exact⟨A,H2,0,_,by simp[up,Er.v],.refl A,a6⟩
 simp only[go_sem,seval,decide_eq_false m2];refineλb3 ig=>?_;refine ag ?_;refine uL (x:=50) (ms:=[10]) (wE hk aH aO 50 10) a2 ig λCg a3=>?_;by_cases m3:cl=50/\me=10
 ·have e:n.method id no h f.s cl me=n.declare id no f.s cl me:=by unfold N.method;rw[if_neg m1,if_neg m2,if_pos m3]
  simp only[go_sem,seval,decide_eq_true m3];refine dG adz (abn a3 M.w hc hh aH aO M.yc M.out jK (λnm q hq=>⟨(M.q nm q hq).1,Nat.le_trans (M.q nm q hq).2 ai⟩)) ?_ (λch J h=>aB _ _ _ _ ao (by rw[e];exact h));intro v J h;refine ag ?_;exact an aI ao (by rw[e];exact sC h (by simp[up]))
 simp only[go_sem,seval,decide_eq_false m3];refineλb4 zg=>?_;refine ag ?_;refine uL (x:=50) (ms:=[30]) (wE hk aH aO 50 30) a3 zg λV7 a4=>?_;by_cases m4:cl=50/\me=30
 ·have e:n.method id no h f.s cl me=n.pD id no f.s cl me:=by unfold N.method;rw[if_neg m1,if_neg m2,if_neg m3,if_pos m4]
  simp only[go_sem,seval,decide_eq_true m4];refine dG adA (amL a4 hc hh aH aO M.yc M.out (λnm q hq=>(M.q nm q hq).1)) ?_ (λch J h=>aB _ _ _ _ ao (by rw[e];exact h));intro v J h;refine ag ?_;exact an aI ao (by rw[e];exact sC h (by simp[up]))
 simp only[go_sem,seval,decide_eq_false m4];refineλb5 lZ=>?_;refine ag ?_;refine uL (x:=60) (ms:=[10]) (wE hk aH aO 60 10) a4 lZ λdx a5=>?_;by_cases m5:cl=60/\me=10
 ·have e:n.method id no h f.s cl me=n.sB id no f.s cl me:=by unfold N.method;rw[if_neg m1,if_neg m2,if_neg m3,if_neg m4,if_pos m5]
  simp only[go_sem,seval,decide_eq_true m5];refine iU og a5 (oG (w:=2) a5.ff rfl ai) (λk s1 J hr a1=>?_) (λhr s J a1=>aB _ _ _ _ ao ?_)
  rotate_left
  ·have e2:n.sB id no f.s cl me=.bad cl me:=by unfold N.sB;rw[hr]
   rw[e,e2];exact⟨H,s,rfl,by rw[<-aH,<-aO];exact a1⟩
  refine ag ?_;refine qE a1 (λhs=>?_) (λhs=>aB _ _ _ _ ao ?_)
  rotate_left
  ·have e2:n.sB id no f.s cl me=.bad cl me:=by
    unfold N.sB;rw[hr];simp only at hs;cases s1 with
    |nil=>exact absurd rfl hs
    |cons x l=>rfl
   rw[e,e2];exact⟨H,s1,rfl,by rw[<-aH,<-aO];exact a1⟩
  simp only at hs;subst hs;have e2:n.sB id no f.s cl me=.ok ((n.cN id no λr=>{r with mo:=k}).send id (ck no 60 11 [])) .nil:=by unfold N.sB;rw[hr]
  refine aJ (a1.bX hh) ?_;have a2:=a1.yt hh λr=>{r with mo:=k};generalize hZ:Hp.set J (A.chan id no) _=cV;replace a2:=dU a2 hZ;have fI:(n.cN id no λr=>{r with mo:=(k:Int)}).h? id no=some {h with r:={h.r with mo:=k}}:=by simp[N.cN,hh]
  have dV:(n.cN id no λr=>{r with mo:=(k:Int)}).ar id=some {c with ch:=dD c.ch no λh=>{h with r:={h.r with mo:=k}}}:=by simp[N.cN,hc]
  refine bJ 9 ?_;refine aJ (a2.bX fI) ?_;have eC:=M.yc;have fP:=M.out;refine aL (pQ (ch:=no) (cl:=60) (me:=11) (xs:=[]) a2 dV (.inl ⟨rfl,rfl⟩) al al aa ai ai (by simp[dg]) (by show c.r.out.length<=_;omega)) ?_;rintro v fU ⟨hv,a5⟩
  cases hv
  have zn:((n.cN id no λr=>{r with mo:=(k:Int)}).send id (ck no 60 11 [])).h? id no=some {h with r:={h.r with mo:=(k:Int)}}:=by rw[pY];exact fI
  refine⟨by(repeat(first|exact jM|(apply jL;(focus decide+kernel))|(refine lK rfl (aQ (a5.bX zn)) ?_))),?_⟩;refine ag ?_;refine an aI ao ?_;rw[e,e2];exact⟨A,H,0,_,by simp[up,Er.v],.refl A,a5⟩
 simp only[go_sem,seval,decide_eq_false m5];refineλb6 pZ=>?_;refine ag ?_;refine uL (x:=60) (ms:=[20]) (wE hk aH aO 60 20) a5 pZ λsF a6=>?_;by_cases m6:cl=60/\me=20
 ·have e:n.method id no h f.s cl me=n.consume id no h f.s cl me:=by unfold N.method;rw[if_neg m1,if_neg m2,if_neg m3,if_neg m4,if_neg m5,if_pos m6]
  simp only[go_sem,seval,decide_eq_true m6];refine dG adB (aa3 a6 M.w hc hh aH aO M.yc M.out M.co M.new M.bj (λnm q hq=>(M.q nm q hq).2)) ?_ (λch J h=>aB _ _ _ _ ao (by rw[e];exact h));intro v J h;refine ag ?_;exact an aI ao (by rw[e];exact sC h (by simp[up]))
 simp only[go_sem,seval,decide_eq_false m6];refineλb7 Dh=>?_;refine ag ?_;refine uL (x:=60) (ms:=[30]) (wE hk aH aO 60 30) a6 Dh λAo a7=>?_;by_cases m7:cl=60/\me=30
 ·have e:n.method id no h f.s cl me=n.qF id no h f.s cl me:=by unfold N.method;rw[if_neg m1,if_neg m2,if_neg m3,if_neg m4,if_neg m5,if_neg m6,if_pos m7]
  simp only[go_sem,seval,decide_eq_true m7];refine dG adC (Z7 a7 hc hh aH aO M.yc M.out M.can jK) ?_ (λch J h=>aB _ _ _ _ ao (by rw[e];exact h));intro v J h;refine ag ?_;exact an aI ao (by rw[e];exact sC h (by simp[up]))
 simp only[go_sem,seval,decide_eq_false m7];refineλb8 hb8=>?_;refine ag ?_;refine uL (x:=60) (ms:=[40]) (wE hk aH aO 60 40) a7 hb8 λFt a8=>?_;by_cases m8:cl=60/\me=40
 ·have e:n.method id no h f.s cl me=n.sA id no f.s cl me:=by unfold N.method;rw[if_neg m1,if_neg m2,if_neg m3,if_neg m4,if_neg m5,if_neg m6,if_neg m7,if_pos m8]
  simp only[go_sem,seval,decide_eq_true m8];refine iU sU a8 (tK a8.ff rfl) (λk s1 J hr a1=>?_) (λhr s J a1=>aB _ _ _ _ ao ?_)
  rotate_left
  ·have e2:n.sA id no f.s cl me=.bad cl me:=by unfold N.sA;rw[hr]
   rw[e,e2];exact⟨H,s,rfl,by rw[<-aH,<-aO];exact a1⟩
  refine ag ?_;refine qE a1 (λhs=>?_) (λhs=>aB _ _ _ _ ao ?_)
  rotate_left
  ·have e2:n.sA id no f.s cl me=.bad cl me:=by
    unfold N.sA;rw[hr];simp only at hs;cases s1 with
    |nil=>exact absurd rfl hs
    |cons x l=>rfl
   rw[e,e2];exact⟨H,s1,rfl,by rw[<-aH,<-aO];exact a1⟩
  simp only at hs;subst hs;have e2:n.sA id no f.s cl me=.ok (n.cN id no λr=>{r with key:=k,want:=2}) .nil:=by unfold N.sA;rw[hr]
  refine aJ (a1.bX hh) ?_;have a2:=a1.yt hh λr=>{r with key:=k,want:=2};refine an aI ao ?_;rw[e,e2];exact⟨A,H,0,_,by simp[up,Er.v],.refl A,dU a2 rfl⟩
 simp only[go_sem,seval,decide_eq_false m8];refineλb9 pc=>?_;refine ag ?_;refine uL (x:=60) (ms:=[70]) (wE hk aH aO 60 70) a8 pc λσ9 a9=>?_;by_cases m9:cl=60/\me=70
 ·have e:n.method id no h f.s cl me=n.get id no f.s cl me:=by unfold N.method;rw[if_neg m1,if_neg m2,if_neg m3,if_neg m4,if_neg m5,if_neg m6,if_neg m7,if_neg m8,if_pos m9]
  simp only[go_sem,seval,decide_eq_true m9];obtain⟨fr,gM,f1,f2⟩:=M.frame;refine dG adD (ac5 a9 hc hh aH aO M.yc M.out gM ⟨f1,f2⟩ M.get) ?_ (λch J h=>aB _ _ _ _ ao (by rw[e];exact h));intro v J h;refine ag ?_;exact an aI ao (by rw[e];exact sC h (by simp[up]))
 simp only[go_sem,seval,decide_eq_false m9];refineλb10 aeI=>?_;refine ag ?_;refine uL (x:=60) (ms:=[80,90]) (ah8 hk aH aO 60 80 90) a9 aeI λauo yP=>?_;by_cases Ev:cl=60/\(me=80\/me=90)
 ·have e:n.method id no h f.s cl me=n.settled id no h f.s cl me:=by unfold N.method;rw[if_neg m1,if_neg m2,if_neg m3,if_neg m4,if_neg m5,if_neg m6,if_neg m7,if_neg m8,if_neg m9,if_pos Ev]
  simp only[go_sem,seval,decide_eq_true Ev];refine dG adE (aoQ yP hh aH aO M.settle) ?_ (λch J h=>aB _ _ _ _ ao (by rw[e];exact h));intro v J h;refine ag ?_;exact an aI ao (by rw[e];exact sC h (by simp[up]))
 simp only[go_sem,seval,decide_eq_false Ev];have RN:=yP.ff;rw[aH,aO]at RN;refine aJ RN ?_;by_cases Tj:cl=10
 ·have e:n.method id no h f.s cl me=.ok n (.cL 503 cl me):=by unfold N.method;rw[if_neg m1,if_neg m2,if_neg m3,if_neg m4,if_neg m5,if_neg m6,if_neg m7,if_neg m8,if_neg m9,if_neg Ev,if_pos Tj]
  have LY:(cl:Int)=10:=aa;simp only[go_sem,seval,eq_true LY,decide_true];refine aL (jW (e:=503) yP aH aO) ?_;rintro v dp ⟨b,hv,a4⟩
  cases hv
  refine ag ?_;refine an aI ao ?_;rw[e];exact⟨A,H,b,_,by simp[up],.refl A,a4⟩
 have e:n.method id no h f.s cl me=.ok n (.cL 540 cl me):=by unfold N.method;rw[if_neg m1,if_neg m2,if_neg m3,if_neg m4,if_neg m5,if_neg m6,if_neg m7,if_neg m8,if_neg m9,if_neg Ev,if_neg Tj]
 have LY:¬(cl:Int)=10:=aa;simp only[go_sem,seval,LY,decide_false];refine aL (jW (e:=540) yP aH aO) ?_;rintro v dp ⟨b,hv,a4⟩
 cases hv
 refine ag ?_;refine an aI ao ?_;rw[e];exact⟨A,H,b,_,by simp[up],.refl A,a4⟩
end
end Go.Qw
