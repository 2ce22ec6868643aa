/- 35 -/
import Derived.Test.YtpiabknabfbfhaaGreatDoorFramed34
set_option linter.all false
set_option maxRecDepth 100000
set_option maxHeartbeats 8000000
namespace Go.Qw
open Go Go.Conc Go.Proofs Go.Proofs.Tryz
section
variable {E:Env prog}{H:Hid}{n:N}{X:Ext}{U:Hp}{c:CN}
variable {A:Lay}{id:Int}
def aq.D8 (a:aq A H n X U)(hc:n.ar id=some c):∃l k st,U.f A.mc=some (aU aW l k)/\pE l k/\(l.map λe=>(e.1,e.2.1)).Perm (n.aD.map λe=>(e.1,pV (A.conn e.1)))/\dt l id=some (id,pV (A.conn id),st):=by obtain⟨l,k,h1,h2,h3⟩:=a.mc;obtain⟨st,bt⟩:=rP (k:=id) (v:=pV (A.conn id)) h2 h3 (List.mem_map.2 ⟨(id,c),gI hc,rfl⟩);exact⟨l,k,st,h1,h2,h3,bt⟩
def aq.Im {ety:TypeId}{ys:List Value}{v:Value}{R:Hp}(a:aq A H n X U)(l:U.le R)(hs:Sl ety R ys v)(hf:∀a n c,v=.slice (some a) n c->U.f a.block=none):
 ∃Y,aq A H n (Y++X) R/\∀{A':Lay} {H':Hid} {n':N} {ae:Hp} {X':Ext},aq A' H' n' (Y++X') ae->Sl ety ae ys v:=by
 rcases hs.form with⟨h1,h2⟩|⟨b,pad,h1,h2⟩
 ·exact⟨[],a.le l,λa'=>by rw[h2];exact .nil h1⟩
 ·refine⟨[(b,.cells (ys++pad).toArray ety (0,0))],a.NA l (hf _ _ _ h1) h2,λa'=>by rw[h1];exact .at b pad a'.ei⟩
def aq.Fz {Z Y:Ext}(a:aq A H n (Z++(Y++X)) U):aq A H n (Z++X) U:=by
 refine a.zy (λi=>if i<Z.length then i else i+Y.length) (λi hi=>?_) (λi j _ _ e=>by split at e<;>split at e<;>omega);split
 ·rename_i h;rw[List.getElem?_append_left h,List.getElem?_append_left h]
 ·rename_i h;rw[List.getElem?_append_right aa,List.getElem?_append_right aa,List.getElem?_append_right aa];congr 1;omega
def alv (a:aq A H n X U){T:Int}{K:Nat}(O:Ok T K [] n)(hT:T+400<=1000000000000)(hK:K+40000000<=100000000000000):
 aw E 39 #[pV A.gw] U λe R=>∃v Xp H',e=.returned v/\PX n.iY.outs v Xp/\aq A H' n.iY.clean (Xp++X) R:=by
 refine aX func39 ntmps39 results39 λQ aB al az=>?_;obtain⟨lc,kc,cG,dU,kT⟩:=a.mc;have AR:lc.length=n.aD.length:=by have:=kT.length_eq;simpa using this
 have mU:=O.lc;refine aH a.jM ?_;refine aJ (Mt cG dU.old dU.nd aa) ?_;rintro v R ⟨hle,v',ys,hv,p1,p2,p3,p4⟩
 cases hv
 obtain rfl:ys=n.aD.map (·.1):=by
  refine zG Ba Fh (p1.trans ?_) (p2 aa) ?_
  ·have:=kT.map (·.1);simpa[List.map_map,Function.comp_def]using this
  ·have:=O.sc;exact this.imp λh=>by simp[jV];omega
 obtain⟨X1,a1,qU⟩:=a.zZ hle p3 p4;obtain⟨base,cap,rfl,_⟩:=p3.read;have hl:(n.aD.map (·.1)).length=n.aD.length:=ak;refine aH hl ?_;refine cZ (λm I ds ae=>ds=[]/\I 0=pV A.gw/\I 14=.slice base n.aD.length cap/\I 15=iV n.aD.length/\∃(j:Nat) (H':Hid),j+m=n.aD.length/\I 16=iV j/\aq A H' (n.leaves ((n.aD.map (·.1)).take j)) X1 ae) n.aD.length ?_ ?_
 ·refine⟨rfl,?_,?_,?_,0,H,ak,?_,a1⟩<;>exact aP hl
 rintro m I ds dg Y ⟨rfl,h0,l9,kG,j,H1,xm,wZ,aj⟩ hY
 cases m with
 |succ m=>
  have hj:j<n.aD.length:=aa;have tR:j<(n.aD.map (·.1)).length:=aa;have c0:(j:Int)<n.aD.length:=aa;obtain⟨_,sj⟩:=qU aj;obtain⟨b2,yA,e2,r2⟩:=sj.read;simp only[Value.slice.injEq]at e2;obtain⟨rfl,_,_⟩:=e2;obtain⟨ba,L,rfl,gT,hL⟩:=r2 j (aV hj);simp only[List.getElem_map,aW]at hL;have w1:=fM j;have hs:=aiC (n:=n) tR;simp only[List.getElem_map]at hs;generalize gV:n.aD[j].1=id at*;have qE:(n.ar id).isSome:=lR.2 (by rw[<-gV];exact List.mem_map_of_mem (f:=(·.1)) (List.getElem_mem hj));obtain⟨cj,iO⟩:=Option.isSome_iff_exists.1 (DJ qE (Ep (n:=n) (l:=(n.aD.map (·.1)).take j)));obtain⟨lm,km,st,oW,yX,yY,Kj⟩:=aj.D8 iO;have dr:((dt lm id).map (·.2.1)).getD (.pointer none)=pV (A.conn id):=by rw[Kj];rfl
  have pU:=uF iO;simp only[go_sem,seval,l9,kG,wZ,c0,decide_true];refine⟨aa,?_⟩;refine fA gT hL h0 aj.jM ?_;refine jU (b:=A.mc) (k:=id) (l:=lm) (c:=km) ur (z:=.pointer none) ah ?_ oW ?_ ?_
  ·exact au
  ·exact au
  rw[if_neg Bool.false_ne_true,dr];by_cases h5:cj.r.ph=5
  ·rw[if_pos (by rw[pU];exact h5)]at hs;refine bq (aj.eC iO) h5 ?_;refine aJ (Ll aj iO ((O.leaves).Fq iO)) ?_;rintro v2 cU ⟨lP,H2,a2⟩
   cases lP
   refine bq wZ w1 ?_;refine hY m _ _ _ _ aa ⟨rfl,?_,?_,?_,j+1,H2,aa,?_,by rw[hs];exact a2⟩ ao
   ·exact aP h0
   ·exact aP l9
   ·exact aP kG
   ·exact au
  ·rw[if_neg (by rw[pU];exact h5)]at hs;refine fA (aj.eC iO) h5 wZ w1 ?_;refine hY m _ _ _ _ aa ⟨rfl,?_,?_,?_,j+1,H1,aa,?_,by rw[hs];exact aj⟩ ao
   ·exact aP h0
   ·exact aP l9
   ·exact aP kG
   ·exact au
 |zero=>
  have c0:¬(j:Int)<n.aD.length:=aa;obtain rfl:j=n.aD.length:=aa;rw[show(n.aD.map (·.1)).take n.aD.length=n.aD.map (·.1)from List.take_of_length_le ak]at aj;obtain⟨aj,_⟩:=qU aj;have hOl:=O.leaves (l:=n.aD.map (·.1));simp only[go_sem,seval,h0,kG,wZ,c0,decide_false,aj.jM];have af6:=Um (E:=E) (J:=nO T K [] 400) (λn j=>j.Hj hT hK) (λn nm n' j h=>j.step h) aj hOl.Mi;refine aJ af6 ?_;rintro v3 dv ⟨DC,⟨H3,a3⟩,J3⟩
  cases DC
  rw[<-EH]at a3 J3;have Os:=J3.ok;have nd:=Os.nc;have ase:=Os.lc;obtain⟨ls,ks,jS,iy,Dy⟩:=a3.mc;have hls:ls.length=n.iY.aD.length:=by have:=Dy.length_eq;simpa using this
  generalize hsn:n.iY=s at*;refine bq h0 a3.jM ?_;refine aJ (Mt jS iy.old iy.nd aa) ?_;rintro v gH ⟨n7,v',ys,hv,q1,q2,q3,q4⟩
  cases hv
  obtain rfl:ys=s.aD.map (·.1):=by
   refine zG Ba Fh (q1.trans ?_) (q2 aa) ?_
   ·have:=Dy.map (·.1);simpa[List.map_map,Function.comp_def]using this
   ·have:=Os.sc;exact this.imp λh=>by simp[jV];omega
  obtain⟨Y2,a4,zA⟩:=a3.Im n7 q3 q4;obtain⟨B3,rm,rfl,_⟩:=q3.read;have gX:(s.aD.map (·.1)).length=s.aD.length:=ak;refine aH gX ?_;refine cZ (λm I ds ae=>ds=[]/\I 0=pV A.gw/\I 43=.slice B3 s.aD.length rm/\I 44=iV s.aD.length/\∃(j:Nat) (H':Hid) (v:Value) (Xp:Ext),j+m=s.aD.length/\I 45=iV j/\I 6=v/\PX (s.os j) v Xp/\aq A H' (s.cl j) (Xp++(Y2++X)) ae) s.aD.length ?_ ?_
  ·refine⟨rfl,?_,?_,?_,0,H3,_,[],ak,?_,rfl,?_,by rw[Z3];exact a4⟩<;>simp only[go_sem,seval,gX]
   ·exact h0
   ·exact .none rfl
  clear h0 l9 kG wZ;rintro m I ds dg Y ⟨rfl,h0,vt,tK,j,H1,v0,Xp,xm,Aw,h6,CG,aj⟩ hY
  cases m with
  |succ m=>
   have hj:j<s.aD.length:=aa;have c0:(j:Int)<s.aD.length:=aa;have sj:=zA (aq.oK aj);obtain⟨b2,yA,e2,r2⟩:=sj.read;simp only[Value.slice.injEq]at e2;obtain⟨rfl,_,_⟩:=e2;obtain⟨ba,L,rfl,gT,hL⟩:=r2 j (aV hj);simp only[List.getElem_map,aW]at hL;have w1:=fM j;have iO:=Z0 nd hj;have kk:= @Z2 s j nd hj;have kd:= @Z1 s j nd hj;have ko:=ali hj;have cku:=II nd hj;generalize gV:s.aD[j].1=id at*;generalize cR:s.aD[j].2=cj at*;obtain⟨lm,km,st,oW,yX,yY,Kj⟩:=aj.D8 iO;have dr:((dt lm id).map (·.2.1)).getD (.pointer none)=pV (A.conn id):=by rw[Kj];rfl
   simp only[go_sem,seval,vt,tK,Aw,c0,decide_true];refine⟨aa,?_⟩;refine fA gT hL h0 aj.jM ?_;refine jU (b:=A.mc) (k:=id) (l:=lm) (c:=km) ur (z:=.pointer none) ah ?_ oW ?_ ?_
   ·exact au
   ·exact au
   rw[if_neg Bool.false_ne_true,dr];by_cases ho:cj.r.out=[]
   ·simp only[go_sem,seval,aj.eC iO,ho,decide_true];have a5:=aq.nD aj iO λr=>{r with out:=[]};refine ag ?_;generalize JI:Hp.set dg (A.conn id) _=dz;replace a5:=dT a5 JI;have kU:((s.cl j).bC id λr=>{r with out:=[]}).ar id=some {cj with r:={cj.r with out:=[]}}:=by rw[qm,if_pos rfl,iO];rfl
    by_cases h5:cj.r.ph=5
    ·refine bR h5 a5.jM h0 ?_;obtain⟨l5,k5,zI,Lr,D5,Ls,m54⟩:=a5.D8 kU;refine Cg (b:=A.mc) (k:=id) (l:=l5) (c:=k5) ur D5.uniq ?_ Lr ?_ ?_
     ·exact au
     ·exact au
     obtain⟨d1,d2⟩:=D6 D5 Ls id
     have em:((((s.cl j).bC id λr=>{r with out:=[]}).aD.map λe=>(e.1,pV (A.conn e.1))).filter λe=>decide (e.1≠id))=(cH ((s.cl j).bC id λr=>{r with out:=[]}).aD id).map λe=>(e.1,pV (A.conn e.1)):=by unfold cH;rw[List.filter_map];rfl
     rw[em]at d2;have a6:=a5.O6 id ⟨_,_,rfl,d1,d2⟩;rw[kd h5]at a6;refine bq Aw w1 ?_;refine hY m _ _ _ _ aa ⟨rfl,?_,?_,?_,j+1,H1,v0,Xp,aa,?_,?_,(by rw[ko,if_pos ho,List.append_nil];exact CG),a6⟩ ao
     ·exact aP h0
     ·exact aP vt
     ·exact aP tK
     ·exact au
     ·exact aP h6
    ·refine bR h5 Aw w1 ?_;rw[kk h5]at a5;refine hY m _ _ _ _ aa ⟨rfl,?_,?_,?_,j+1,H1,v0,Xp,aa,?_,?_,(by rw[ko,if_pos ho,List.append_nil];exact CG),a5⟩ ao
     ·exact aP h0
     ·exact aP vt
     ·exact aP tK
     ·exact au
     ·exact aP h6
   ·refine bq (aj.eC iO) ho ?_;refineλbn cE=>?_;have fr:=λo=>aj.fresh cE o;refine ag ?_;generalize yJ:Hp.set dg bn _=rZ;have a6:=dT (fr _) yJ;have JW:rZ.f bn=some (.cells #[iV id,sV cj.r.out] 55 (0,0)):=by rw[<-yJ];exact Hp.bD _ _
    refine Wi CG a6 (id:=id) (s:=cj.r.out) ?_ ?_ JW (by have:=alh (n:=s) (j:=j);omega) ?_
    ·exact aP h6
    ·exact au
    intro v7 Nw pA Qk a7;have a5:=aq.nD a7 iO λr=>{r with out:=[]};refine aH (a7.eC iO) ?_;generalize JI:Hp.set pA (A.conn id) _=dz;replace a5:=dT a5 JI;have kU:((s.cl j).bC id λr=>{r with out:=[]}).ar id=some {cj with r:={cj.r with out:=[]}}:=by rw[qm,if_pos rfl,iO];rfl
    by_cases h5:cj.r.ph=5
    ·refine bR h5 a5.jM h0 ?_;obtain⟨l5,k5,zI,Lr,D5,Ls,m54⟩:=a5.D8 kU;refine Cg (b:=A.mc) (k:=id) (l:=l5) (c:=k5) ur D5.uniq ?_ Lr ?_ ?_
     ·exact au
     ·exact au
     obtain⟨d1,d2⟩:=D6 D5 Ls id
     have em:((((s.cl j).bC id λr=>{r with out:=[]}).aD.map λe=>(e.1,pV (A.conn e.1))).filter λe=>decide (e.1≠id))=(cH ((s.cl j).bC id λr=>{r with out:=[]}).aD id).map λe=>(e.1,pV (A.conn e.1)):=by unfold cH;rw[List.filter_map];rfl
     rw[em]at d2;have a6:=a5.O6 id ⟨_,_,rfl,d1,d2⟩;rw[kd h5]at a6;refine bq Aw w1 ?_;refine hY m _ _ _ _ aa ⟨rfl,?_,?_,?_,j+1,H1,v7,Nw,aa,?_,?_,(by rw[ko,if_neg ho];exact Qk),a6⟩ ao
     ·exact aP h0
     ·exact aP vt
     ·exact aP tK
     ·exact au
     ·exact aP h6
    ·refine bR h5 Aw w1 ?_;rw[kk h5]at a5;refine hY m _ _ _ _ aa ⟨rfl,?_,?_,?_,j+1,H1,v7,Nw,aa,?_,?_,(by rw[ko,if_neg ho];exact Qk),a5⟩ ao
     ·exact aP h0
     ·exact aP vt
     ·exact aP tK
     ·exact au
     ·exact aP h6
  |zero=>
   have c0:¬(j:Int)<s.aD.length:=aa;obtain rfl:j=s.aD.length:=aa;rw[ZZ]at aj;rw[alg]at CG;simp only[go_sem,seval,tK,Aw,h6,c0,decide_false];refine al aG ao ⟨v0,Xp,H1,by simp[up],CG,aj.Fz⟩
end
def ye(A:Lay)(n:N)(X:Ext)(U:Hp):Prop:=∃A',qi A A'/\At A' n X U
def N.more(n:N)(id:Int)(s:List UInt8):N:=n.bC id λr=>{r with rest:=r.rest++s}
variable {c:CN}
def N.fr(n:N)(id:Int):Int:=((n.ar id).map λ(c:CN)=>c.r.frame).getD 0
section
variable {E:Env prog}{H:Hid}{n:N}{X:Ext}{U:Hp}{c:CN}
variable {A:Lay}{id:Int}
def qi.trans {A B C:Lay}(a:qi A B)(b:qi B C):qi A C:=⟨b.gw.trans a.gw,b.br.trans a.br,b.conn.trans a.conn⟩
def Jd (hc:n.ar id=some c):n.fr id=c.r.frame:=by unfold N.fr;rw[hc];rfl
def Ca (a:ye A n X U)(hc:n.ar id=some c):∃m,U.f (A.conn id)=some (.cells (c.r.vals A.gw id m).toArray 90 (0,0)):=by obtain⟨A',k,H,a⟩:=a;have:=a.conn hc;rw[k.conn,k.gw]at this;exact⟨_,this⟩
def Jl (A:Lay)(id:Int)(X:Ext):FS where
 γ:=N
 atz:=λn U=>pD id n/\ye A n X U
 J:=λn U=>ye A n X U
 K:=λn U=>(n.ar id).isSome/\ye A n X U
 ou:=λn s=>pD id (n.more id s)
 bc:=A.conn id
 bg:=A.gw
 bb:=A.br
 ph:=λn=>n.ph id
 fr:=λn=>n.fr id
 rest:=λn=>n.rest id
 nx:=λa u b=>pD id a/\u=(a.cut id).1/\b=(a.cut id).2
 un:=λb u c=>(∃a,pD id a/\a.ph id≠5/\u.idle=false/\u=(a.cut id).1/\b=(a.cut id).2)/\c=b.unit id u
 sv:=λc d=>d=c.serve
 add:=λn s=>n.more id s
 μ:=λn=>n.mu id
 conn:=by rintro a U ⟨F,h⟩;obtain⟨c,hc⟩:=Option.isSome_iff_exists.1 F.is;obtain⟨m,hm⟩:=Ca h hc;exact⟨_,hm,⟨rfl,rfl,by rw[uF hc];rfl,by rw[Jd hc];rfl⟩,by rw[zC hc];rfl⟩
 Ca:=by rintro a U ⟨is,h⟩;obtain⟨c,hc⟩:=Option.isSome_iff_exists.1 is;obtain⟨m,hm⟩:=Ca h hc;exact⟨_,hm,⟨rfl,rfl,by rw[uF hc];rfl,by rw[Jd hc];rfl⟩⟩
 gate:=by rintro a U ⟨is,A',k,H,h⟩;have:=h.gw;rw[k.gw,k.br]at this;exact⟨_,this,rfl,rfl⟩
 grow:=by
  rintro a U l s fU ⟨F,A',k,H,h⟩ hl;refine⟨fU,A',k,H,?_⟩;obtain⟨c,hc⟩:=Option.isSome_iff_exists.1 F.is;have h1:=h.conn hc;have h2:=h.nD hc λr=>{r with rest:=r.rest++s};rw[k.conn,k.gw]at h1 h2
  have e:l=c.r.vals A.gw id (H.chm id):=by rw[h1]at hl;simp only[Option.some.injEq,fu,Obj.cells.injEq,and_true]at hl;exact(List.toArray_inj hl).symm
  subst e;rw[zC hc];exact h2
 small:=by rintro a U ⟨F,_⟩;exact F.rest
 TG:=λa s=>wx (Kp.bC λ_=>rfl)
 PN:=λa s=>by unfold N.fr N.more;rw[qm,if_pos rfl,Option.map_map];rfl
 next:=by rintro E a U ⟨F,A',k,H,h⟩;obtain⟨c,hc⟩:=Option.isSome_iff_exists.1 F.is;obtain⟨T,K,O,_,_⟩:=F.ex;have gU:=(O.c _ _ hc).r.frame;have h1:=h.conn hc;rw[k.conn,k.gw]at h1;have h2:=h.nD hc λr=>{r with je:=(eI c.r.je c.r.rest c.r.frame).2.1,rest:=(eI c.r.je c.r.rest c.r.frame).2.2};rw[k.conn,k.gw]at h2;have hn:=ajU (E:=E) (l:=c.r.vals A.gw id (H.chm id)) (s:=c.r.rest) (size:=c.r.frame) (gr:=c.r.je) h1 rfl rfl ⟨aa,aa⟩;rw[Jd hc];refine hn.mono λe R ⟨e1,e2⟩=>⟨(a.cut id).1,(a.cut id).2,⟨F,rfl,rfl⟩,⟨A',k,H,?_⟩,by rw[Cc hc];exact e1⟩;rw[Cc hc];exact h2.le e2
 unit:=by rintro E a u b U hp ⟨F,rfl,rfl⟩ hi ⟨A',k,H,h⟩;obtain⟨c,hc⟩:=Option.isSome_iff_exists.1 F.is;obtain⟨T,K,O,hT,hK⟩:=F.ex;have kc:=Cd O hc;have O1:=O.cut hc;have cG:=yB hc;have Qc:=apW (E:=E) (u:=(a.cut id).1) h cG O1.cfg.ok (by have:=(O1.c _ _ cG).r.out;omega) (O1.Fq cG) (λ_ _ _=>ab1 h cG O1 aa aa kc.pay kc.ch);rw[k.conn]at Qc;refine Qc.mono ?_;rintro e R ⟨rfl,A2,k2,h2⟩;exact⟨_,⟨⟨a,F,hp,hi,rfl,rfl⟩,rfl⟩,⟨(Kp.unit A5).is (by rw[cG];rfl),A2,k.trans k2,h2⟩,rfl⟩
 serve:=by rintro E b u c U ⟨⟨a,F,hp,hi,rfl,rfl⟩,rfl⟩ ⟨is,A',k,H,h⟩;obtain⟨c0,hc⟩:=Option.isSome_iff_exists.1 F.is;obtain⟨T,K,O,hT,hK⟩:=F.ex;have kc:=Cd O hc;have O1:=O.cut hc;have O2:=O1.unit (id:=id) (u:=(a.cut id).1) kc.pay kc.ch.1 (by rw[yB hc];rfl);have hs:=Um (E:=E) (J:=nO (T+1) (K+102000) [] 400) (λn j=>j.Hj aa aa) (λn nm n' j h=>j.step h) h O2.Mi;rw[k.br]at hs;refine hs.mono ?_;rintro e R ⟨rfl,h2,_⟩;exact⟨_,rfl,⟨(F.step hp hi).1,A',k,h2⟩,rfl⟩
 idle:=by rintro a u b U ⟨F,rfl,rfl⟩ hi h;exact⟨(F.aax hi).1,h⟩
 dec:=by rintro a u b c d hp ⟨F,rfl,rfl⟩ hi ⟨_,rfl⟩ rfl;exact(F.step hp hi).2
def I3 {f:Nat}(h:n.ph id=5):n.js (f+1) id=n:=by unfold N.js;exact if_pos h
def abG {f:Nat}(h:n.ph id≠5)(hi:(n.cut id).1.idle=true):n.js (f+1) id=(n.cut id).2:=by unfold N.js;rw[if_neg h,if_pos hi]
def abH {f:Nat}(h:n.ph id≠5)(hi:(n.cut id).1.idle=false):n.js (f+1) id=(((n.cut id).2.unit id (n.cut id).1).serve).js f id:=by rw[N.js,if_neg h,if_neg (by rw[hi];simp)]
def adk {A:Lay}{id:Int}{X:Ext}{a b:(Jl A id X).γ}(h:(Jl A id X).Loop a b):∀f,N.mu a id<f->N.js f a id=b:=by
 induction h with
 |gone hp=>
  intro f hf
  cases f with
  |zero=>omega
  |succ f=>exact I3 hp
 |idle hp hn hi=>
  obtain⟨F,rfl,rfl⟩:=hn;intro f hf
  cases f with
  |zero=>omega
  |succ f=>exact abG hp hi
 |step hp hn hi hu hs _ ih=>
  obtain⟨F,rfl,rfl⟩:=hn;obtain⟨_,rfl⟩:=hu;obtain rfl:=hs;intro f hf
  cases f with
  |zero=>omega
  |succ f=>
   have:=(F.step hp hi).2;exact(abH hp hi).trans (ih f aa)
def abF {W:World}{φ:Hp}{s:List UInt8}(F:pD id n)(F2:pD id (n.more id s))(h:ye A n X U)(hp:n.ph id≠5)(hs:s.length<=4611686018427387904){f:Nat}(hf:(n.more id s).mu id<f):
 aw (nF W φ) 40 #[pV (A.conn id),sV s] U λe R=>e=.returned (.tuple #[])/\ye A ((n.more id s).js f id) X R:=by
 refine(abK (Jl A id X) (W:=W) (φ:=φ) (a:=n) (ch:=s) F2 ⟨F,h⟩ hp hs).mono ?_;rintro e R ⟨rfl,b,hl,hI⟩;refine⟨rfl,?_⟩;have:=adk hl f hf;have h2:ye A b X R:=hI.2;rw[<-this]at h2;exact h2
end
def Gw(g:Nat)(n:N)(X:Ext)(U:Hp):Prop:=∃A,A.gw=g/\At A n X U
section
variable {E:Env prog}{H:Hid}{n:N}{X:Ext}{U:Hp}{c:CN}{g:Nat}{T:Int}
variable {A:Lay}{id:Int}
def aq.ajk (a:aq A H n X U)(hc:n.ar id=none):∃l k,U.f A.mc=some (aU aW l k)/\dt l id=none:=by obtain⟨l,k,h1,h2,h3⟩:=a.mc;refine⟨l,k,h1,map_none h3 λe he hx=>?_⟩;obtain⟨e0,h0,rfl⟩:=List.mem_map.1 he;exact iF hc e0 h0 hx
def No (g:Nat)(m:N)(X:Ext)(ev:Value->Fin)(e:Fin)(R:Hp):Prop:=∃v Xp,e=ev v/\PX m.outs v Xp/\Gw g m.clean (Xp++X) R
def PC {W:World}{φ:Hp}{s:List UInt8}(h:Gw g n X U)(atz:Inv T n)(hs:s.length<=900000)(hT:T+402*(s.length+4107:Nat)+2000<=1000000000000):
 aw (nF W φ) 25 #[pV g,iV id,sV s] U λe R=>match n.ar id with
  |none=>e=.returned (.tuple #[.slice none 0 0,.iface 51 (iV 3)])/\R=U
  |some _=>No g (n.feed id s) X (λv=>.returned (.tuple #[v,.nilIface])) e R:=by
 obtain⟨A,rfl,H,a⟩:=h
 cases hc:n.ar id with
 |none=>
  obtain⟨l,k,h1,h2⟩:=a.ajk hc;exact abE a.gw h1 h2
 |some c=>
  simp only[];obtain⟨l,k,st,h1,h2,h3,h4⟩:=a.D8 hc
  have fin:∀{m:N} {A':Lay} {bY:Hp},qi A A'->At A' m X bY->(O:∃T K,Ok T K [] m/\T+400<=1000000000000/\K+40000000<=100000000000000)->m.iY=n.feed id s->
   aw (nF W φ) 39 #[pV A.gw] bY λe' bY=>∃v,e'=.returned v/\No A.gw (n.feed id s) X (λv=>.returned (.tuple #[v,.nilIface])) (.returned (.tuple #[v,.nilIface])) bY:=by
   rintro m A' bY k ⟨H',a'⟩ ⟨T,K,O,o1,o2⟩ he;have:=alv (E:=nF W φ) a' O o1 o2;rw[k.gw]at this;refine this.mono ?_;rintro e R ⟨v,Xp,H2,rfl,hp,h2⟩;rw[he]at hp h2;exact⟨v,rfl,v,Xp,rfl,hp,A',k.gw,H2,h2⟩
  by_cases fE:s=[]
  ·subst fE;refine abD a.gw h1 h4 (fin (.refl A) ⟨H,a⟩ ⟨T,0,atz.ok,aa,aa⟩ ?_);unfold N.feed;rw[if_pos rfl]
  ·refine abC a.gw h1 h4 (a.conn hc) fE ?_;have a1:=a.nD hc λr=>{r with recv:=n.clock}
   have hm:(n.bC id λr=>{r with recv:=n.clock}).more id s=n.recv id s:=by unfold N.more N.recv N.bC;rw[MR]
   have hr:=T7 (s:=s) hc;have AW:=atz.rest id;have O1:Ok T 0 [] (n.bC id λr=>{r with recv:=n.clock}):=atz.ok.bC (Nat.le_refl _) λc hc=>⟨(atz.ok.c _ _ hc).r.out,(atz.ok.c _ _ hc).r.frame,(atz.ok.c _ _ hc).r.dm⟩;have r1:(n.bC id λr=>{r with recv:=n.clock}).rest id=n.rest id:=Ua (f:=λr=>{r with recv:=n.clock}) λ_=>rfl;have m1:=GX (n:=n.bC id λr=>{r with recv:=n.clock}) (id:=id);have m2:=GX (n:=n.recv id s) (id:=id);rw[r1]at m1;rw[hr,List.length_append]at m2
   have F1:pD id (n.bC id λr=>{r with recv:=n.clock}):=by
    refine⟨⟨T,0,O1,?_,?_⟩,zj (by rw[hc];rfl),by rw[r1];omega⟩
    ·omega
    ·omega
   have F2:pD id ((n.bC id λr=>{r with recv:=n.clock}).more id s):=by
    rw[hm];refine⟨⟨T,0,atz.ok.recv,?_,?_⟩,Se (by rw[hc];rfl),by rw[hr,List.length_append];omega⟩
    ·omega
    ·omega
   have pU:(n.bC id λr=>{r with recv:=n.clock}).ph id≠5:=by have:(n.bC id λr=>{r with recv:=n.clock}).ph id=n.ph id:=wx (Kp.bC λ_=>rfl);rw[this,uF hc];exact atz.ph _ _ hc
   have Cv:=abF (W:=W) (φ:=φ) (s:=s) (f:=((n.recv id s).rest id).length+2) F1 F2 ⟨A,.refl A,H,a1⟩ pU aa (by rw[hm,hr,List.length_append];omega);rw[hm]at Cv;refine Cv.mono ?_;rintro e R ⟨rfl,A',k,h5⟩;refine⟨rfl,fin k h5 ?_ ?_⟩
   ·have f1:=atz.ok.tF (s:=s) hc;exact⟨_,_,f1.ok,aa,aa⟩
   ·unfold N.feed;rw[if_neg fE];rfl
def aan (h:Gw g n X U)(atz:Inv T n)(hl:n.aD.length<=3)(mi:n.last<=1000000000):
 aw E 37 #[pV g] U λe R=>e=.returned (.tuple #[iV (n.last+1),.nilIface])/\Gw g n.connect X R:=by
 obtain⟨A,rfl,H,a⟩:=h;obtain⟨l,k,h1,h2,h3⟩:=a.mc;have h0:=atz.ok.last;have Df:l.length=n.aD.length:=by have:=h3.length_eq;simpa using this
 refine(aam a.gw h1 aa h2.uniq aa aa).mono ?_;rintro e R ⟨b,m,rfl,hb,hm,aE,rfl⟩;refine⟨rfl,?_⟩;have eV:=atz.ok.LG;have a1:=a.anX n.clock (n.last+1);have F9:∀{x:Nat},U.f x=none->¬x=A.gw:=λhx e=>by rw[e,a.gw]at hx;cases hx
 have Gh:=D7 h2 h3 (k:=n.last+1) (λe he hx=>by
  obtain⟨e0,h0,rfl⟩:=List.mem_map.1 he
  exact iF eV e0 h0 hx) (pV b)
 have a2:=a1.ajL (id:=n.last+1) (m:=m) (b:=b) ⟨atz.ok.w.un,atz.ok.w.xq,atz.ok.w.xh,atz.ok.w.co,atz.ok.w.qc⟩ eV ((Hp.ay (F9 hm)).trans hm) ((Hp.ay (F9 hb)).trans hb) aE ⟨0,[],false,0,n.cfg.frame,0,n.clock,n.clock,[]⟩ (o:=aU aW (jk l (n.last+1) (pV b) k) (jB l (n.last+1) k)) ⟨_,_,rfl,Gh.1,?_⟩
 ·exact⟨A.qY (n.last+1) b,rfl,_,a2⟩
 ·refine Gh.2.trans ?_;rw[List.map_append]
  have e1:(n.aD.map λe=>(e.1,pV ((A.qY (n.last+1) b).conn e.1)))=n.aD.map λe=>(e.1,pV (A.conn e.1)):=List.map_congr_left λe he=>by have:¬e.1=n.last+1:=iF eV e he;simp[Lay.qY,this]
  rw[e1];have e2:([(n.last+1,(⟨⟨0,[],false,0,n.cfg.frame,0,n.clock,n.clock,[]⟩,[]⟩:CN))].map λe=>(e.1,pV ((A.qY (n.last+1) b).conn e.1)))=[(n.last+1,pV b)]:=by simp[Lay.qY]
  rw[e2];exact(List.perm_append_singleton _ _).symm
structure Base (U:Hp) (L1:List Value):Prop where
 b0:U.f 0=some (.cells #[rT 45] 143 (0,0))
 b1:U.f 1=some (.cells L1.toArray 396 (0,0))
 l1:L1=Bn
def ajI {cfg:jZ}{L1:List Value}(hb:Base U L1)(G:E5 cfg)(hq:1<=cfg.queue)(hc:1<=cfg.jc)(CV:cfg.gh<=50)(ma:0<=cfg.body):
 aw E 32 #[.agg cfg.vals.toArray] U λe R=>∃g,e=.returned (.tuple #[pV g,.nilIface])/\Gw g (N.new cfg) [] R:=by
 have g1:=G.jc;have g2:=G.frame;have g3:=G.queue;have g4:=G.body;have g5:=G.ok.gh;refine(ajH aa aa aa aa aa aa aa aa aa aa).mono ?_;rintro e R ⟨g,br,mq,mc,rfl,k1,k2,k3,k4,n1,n2,n3,n4,n5,n6,rfl⟩;have h0:=hb.b0;have h1:=hb.b1;have z0:∀{x:Nat},U.f x=none->¬0=x:=λhx e=>by subst e;rw[h0]at hx;cases hx
 have z1:∀{x:Nat},U.f x=none->¬1=x:=λhx e=>by subst e;rw[h1]at hx;cases hx
 refine⟨g,rfl,⟨g,br,mq,mc,λ_=>0,λ_ _=>0,λ_ _=>0,λ_ _=>0,λ_=>0,λ_=>0,L1,hb.l1⟩,rfl,⟨λ_=>0,λ_=>.nilIface,λ_=>.nilIface⟩,⟨λr v hv=>?_,λr r' hr gC he=>?_⟩⟩
 ·cases r with
  |b0=>cases hv;exact⟨_,by show Hp.f _ 0=_;rw[Hp.ay (z0 k1),Hp.ay (z0 k4),Hp.ay (z0 k2),Hp.ay (z0 k3)];exact h0,rfl⟩
  |b1=>cases hv;exact⟨_,by show Hp.f _ 1=_;rw[Hp.ay (z1 k1),Hp.ay (z1 k4),Hp.ay (z1 k2),Hp.ay (z1 k3)];exact h1,rfl⟩
  |gw=>cases hv;exact⟨_,aT,rfl⟩
  |br=>cases hv;exact⟨_,by show Hp.f _ br=_;rw[Hp.ay (λe=>n5 e.symm),Hp.ay (λe=>n3 e.symm)];exact Hp.bD _ _,rfl⟩
  |mq=>cases hv;exact⟨_,by show Hp.f _ mq=_;rw[Hp.ay (λe=>n4 e.symm),Hp.ay (λe=>n2 e.symm),Hp.ay (λe=>n1 e.symm)];exact Hp.bD _ _,[],0,rfl,⟨by simp[jI],ak,ak⟩,by simp[N.new]⟩
  |mc=>cases hv;exact⟨_,by show Hp.f _ mc=_;rw[Hp.ay (λe=>n6 e.symm)];exact Hp.bD _ _,[],0,rfl,⟨by simp[jI],ak,ak⟩,by simp[N.new]⟩
  |_=>cases hv
 ·have q1:=z0 k1;have q2:=z0 k2;have q3:=z0 k3;have q4:=z0 k4;have p1:=z1 k1;have p2:=z1 k2;have p3:=z1 k3;have p4:=z1 k4
  cases r<;>cases r'<;>first|rfl|(cases hr;done)|(cases gC;done)|(exfalso;simp only[cI]at he;omega)
end
inductive SX {α:Type} (f:α->List Value) (z:Nat) (e:TypeId) (l:List α):Value->Ext->Prop
 |none:l=[]->SX f z e l (.slice Option.none 0 0) []
 |at(a c:Nat) (pad:List Value):l.length<=c->z*(c-l.length)<=pad.length->SX f z e l (.slice (some ⟨a,0,Option.none⟩) l.length c) [(a,.cells (l.flatMap f++pad).toArray e (0,0))]
def abS{α:Type}{f:α->List Value}{z:Nat}(hf:∀a,(f a).length=z)(l:List α):(l.flatMap f).length=z*l.length:=by
 induction l with
 |nil=>rfl
 |cons e l ih=>rw[List.flatMap_cons,List.length_append,ih,hf,List.length_cons,Nat.mul_succ];omega
section
variable {E:Env prog}{H:Hid}{n:N}{X:Ext}{U:Hp}{c:CN}{g:Nat}{I:av}{ds:List Deferred}{dst:Option Tmp}{ty:TypeId}{pos:String}{af:Array Edge}{nx:av->List Deferred->Hp->Prop}{pn:List PanicEntry->Hp->Prop}
variable {A:Lay}{id:Int}
variable {g:Option (Nat×Bool)}
def Vs {t:TypeId}(el:oC prog t)(hz:el.zero.size=el.z)(k:Nat):(Builtin.zeroCells el.zero k).toList.length=k*el.z:=by rw[Array.length_toList];simp[Builtin.zeroCells,hz]
def Wj {α:Type}{f:α->List Value}{t u:TypeId}(el:oC prog t)(hu:Bj prog u=true)(hf:∀a,(f a).length=el.z)(hz:el.zero.size=el.z)(hby:el.bytes<=100)(RY:1<=el.z)(kI:∀a,(f a).toArray.all di=true)
 {x y:Operand} {l:List α} {v0:Value} {Xp:Ext} {m:α} {bn:Nat} (hv:SX f el.z el.e l v0 Xp) (a:aq A H n (Xp++X) U) (hx:ai I x=v0) (hy:ai I y=.slice (some ⟨bn,0,none⟩) 1 1) (cE:U.f bn=some (.cells (f m).toArray el.e (0,0))) (fJ:l.length<=1000000)
 (h:∀v' BW R,SX f el.z el.e (l++[m]) v' BW->aq A H n (BW++X) R->nx (aA I dst v') ds R):
 aS E ⟨dst,.call ⟨.builtin .append,#[x,y],#[t,u]⟩,ty,pos,af,g⟩ I ds U nx pn:=by
 have hn:s7 (ai I y)=some 1:=by rw[hy];rfl
 have tU:(f m).toArray.size=el.z:=by simp[hf]
 have iL:iM U el.z 1 (ai I y)=some (f m).toArray:=by
  rw[hy];show cellsOf U ⟨bn,0,none⟩ (1*el.z)=_;have e:0+1*el.z<=(f m).length:=by rw[hf];omega
  simp only[cellsOf,cE,List.size_toArray,true_and,if_pos e];congr 1;apply Array.ext';have e5:(f m).take el.z=f m:=List.take_of_length_le (by rw[hf];exact Nat.le_refl _);simp[e5]
 have gX:∀n,n<=1000000->(2*(n+1)+192)*el.bytes<=2^48:=by intro n hn;have:=Nat.mul_le_mul_left (2*(n+1)+192) hby;omega
 have hfm:(l++[m]).flatMap f=l.flatMap f++f m:=ak;have Df:=abS hf l
 cases hv with
 |none h0=>
  subst h0;refine ss el (base:=none) (l:=0) (c:=0) (n:=1) (old:=#[]) (new:=_) hu hx hn rfl iL (gX 0 aa) aa (λhc=>aa) ?_;intro hc b cap eU jP;have a1:=aq.iE (X:=X) a eU (.cells (#[]++(f m).toArray++Builtin.zeroCells el.zero (cap-(0+1))) el.e);refine h _ [_] _ (.at b cap (Builtin.zeroCells el.zero (cap-1)).toList (aV jP) (by rw[Vs el hz,Nat.mul_comm];simp)) ?_
  have e:(([]++[m]).flatMap f++(Builtin.zeroCells el.zero (cap-1)).toList).toArray= #[]++(f m).toArray++Builtin.zeroCells el.zero (cap-(0+1)):=by apply Array.ext';simp
  rw[e];exact a1
 |«at»b c pad h1 h2=>
  have h3:U.f b=some (.cells (l.flatMap f++pad).toArray el.e (0,0)):=aq.ei (X:=X) a;have e2:l.length*el.z=(l.flatMap f).length:=by rw[Df,Nat.mul_comm]
  have hold:iM U el.z l.length (.slice (some ⟨b,0,none⟩) l.length c)=some (l.flatMap f).toArray:=by show(cellsOf U ⟨b,0,none⟩ (l.length*el.z))=_;have e:0+l.length*el.z<=(l.flatMap f).length+pad.length:=aa;simp only[cellsOf,h3,List.size_toArray,List.length_append,true_and,if_pos e];congr 1;apply Array.ext';simp[e2]
  refine ss el (base:=some ⟨b,0,none⟩) (l:=l.length) (c:=c) (n:=1) (old:=(l.flatMap f).toArray) (new:=_) hu hx hn hold iL (gX _ fJ) aa ?_ ?_
  ·intro hc
   have sM:el.z<=pad.length:=by refine Nat.le_trans ?_ h2;have:el.z*1<=el.z*(c-l.length):=Nat.mul_le_mul_left _ aa;omega
   have e3:((l.flatMap f++pad).toArray.extract 0 (0+l.length*el.z)++(f m).toArray++(l.flatMap f++pad).toArray.extract (0+l.length*el.z+(f m).toArray.size) (l.flatMap f++pad).toArray.size)=((l++[m]).flatMap f++pad.drop el.z).toArray:=by rw[hfm,Nat.zero_add,e2,tU];generalize l.flatMap f=L;have d1:(L++pad).take L.length=L:=List.take_left' rfl;have d2:(L++pad).drop (L.length+el.z)=pad.drop el.z:=List.drop_length_add_append ..;apply Array.ext';simp only[Array.toList_append,Array.toList_extract,List.extract_eq_take_drop,List.drop_zero,Nat.sub_zero,List.size_toArray,d1,d2];rw[List.take_of_length_le (by simp only[List.length_append,List.length_drop];omega)]
   refine⟨_,⟨_,_,h3,rfl,?_,kI m,rfl⟩,?_⟩
   ·show 0+l.length*el.z+(f m).toArray.size<=_;rw[tU];simp only[List.size_toArray,List.length_append];omega
   ·show nx _ _ (U.set b (.cells ((l.flatMap f++pad).toArray.extract 0 (0+l.length*el.z)++(f m).toArray++(l.flatMap f++pad).toArray.extract (0+l.length*el.z+(f m).toArray.size) (l.flatMap f++pad).toArray.size) el.e (0,0)));rw[e3];have e4:l.length+1=(l++[m]).length:=ak;rw[e4];refine h _ [(b,_)] _ (.at b c (pad.drop el.z) (by simp;omega) ?_) (aq.uL (X:=X) a _);rw[List.length_drop,List.length_append,List.length_singleton]
    have e5:el.z*(c-l.length)=el.z*(c-(l.length+1))+el.z:=by rw[<-Nat.mul_succ];congr 1;omega
    omega
  ·intro hc b' cap eU jP;have a1:=aq.iE a eU (.cells ((l.flatMap f).toArray++(f m).toArray++Builtin.zeroCells el.zero (cap-(l.length+1))) el.e)
   have e:((l++[m]).flatMap f++(Builtin.zeroCells el.zero (cap-(l.length+1))).toList).toArray=(l.flatMap f).toArray++(f m).toArray++Builtin.zeroCells el.zero (cap-(l.length+1)):=by apply Array.ext';simp
   have e4:l.length+1=(l++[m]).length:=ak;rw[<-e]at a1|-;rw[e4]at a1|-;refine h _ [(b',_)] _ (.at b' cap (Builtin.zeroCells el.zero (cap-(l++[m]).length)).toList (aV jP) (by rw[Vs el hz,Nat.mul_comm];omega)) ?_
   exact a1.zy (λi=>if i=0 then 0 else i+1) (λi hi=>by
    cases i with
    |zero=>rfl
    |succ i=>rfl) (λi j _ _ e=>by split at e<;>split at e<;>omega)
end
structure QS where
 name:List UInt8
 ready:Int
 held:Int
 cons:Int
def QS.vals(q:QS):List Value:=[sV q.name,iV q.ready,iV q.held,iV q.cons]
def N.nC(n:N):List QS:=n.aL.map λe=>⟨e.1,e.2.ready.length,e.2.held,e.2.cons.length⟩
def abb:oC prog 34 where
 e:=39
 z:=4
 zero:=#[.string (B []),.int .i64 0,.int .i64 0,.int .i64 0]
 bytes:=40
 hu:=ah
 hi:=⟨t39,.agg #[.string (B []),.int .i64 0,.int .i64 0,.int .i64 0],ah,ah,ah,rfl,ah⟩
section
variable {E:Env prog}{H:Hid}{n:N}{X:Ext}{U:Hp}
variable {A:Lay}{id:Int}
def aow (a:aq A H n X U)(af5:dP cN (n.aL.map (·.1)))(hlen:n.aL.length<=12):
 aw E 34 #[pV A.br] U λe R=>∃v Y,e=.returned v/\aq A H n (Y++X) R/\Sl 77 R ((n.aL.map λe=>A.queue e.1).map dX) v/\∀{A':Lay} {H':Hid} {n':N} {ae:Hp} {X':Ext},aq A' H' n' (Y++X') ae->Sl 77 ae ((n.aL.map λe=>A.queue e.1).map dX) v:=by
 obtain⟨lq,kq,jh,gB,lM⟩:=a.mq;have Rm:lq.length=n.aL.length:=by have:=lM.length_eq;simpa using this
 obtain⟨nf,y7⟩:∃nf:Nat->List UInt8,∀e∈n.aL,nf (A.queue e.1)=e.1:=by
  refine⟨λb=>((n.aL.find? λe=>decide (A.queue e.1=b)).map (·.1)).getD [],λe he=>?_⟩
  cases hf:n.aL.find? λe'=>decide (A.queue e'.1=A.queue e.1)with
  |none=>have:=List.find?_eq_none.1 hf e he;simp at this
  |some e'=>
   have h1:=List.find?_some hf;simp only[decide_eq_true_eq]at h1;have:=a.inj (.queue e'.1) (.queue e.1) (by have:=xB (List.mem_of_find?_eq_some hf);simpa[view]using this) (by have:=xB he;simpa[view]using this) (by simpa[cI]using h1);injection this with e1;simp only[hf];simpa using e1
 have sM:=lM.map (·.2);simp only[List.map_map]at sM;obtain⟨qs,za,mX⟩:=zt sM (xs:=n.aL.map λe=>A.queue e.1) (f:=dX) (by simp[List.map_map,Function.comp_def,dX])
 have Kq:qj U nf qs:=by intro b hb;obtain⟨e,he,rfl⟩:=List.mem_map.1 (za.mem_iff.1 hb);obtain⟨q,hq⟩:=Option.isSome_iff_exists.1 (xB he);exact⟨_,a.th hq,by simp[y7 e he]⟩
 refine(UE a.tE rfl jh gB.old gB.nd aa (by simpa[Function.comp_def]using mX) Kq).mono ?_;rintro e R ⟨hle,v,ys,rfl,p1,p2,p3,p4⟩
 have vO:ys=n.aL.map λe=>A.queue e.1:=by
  have e1:ys.map nf=n.aL.map (·.1):=by
   refine zG vW Iu (((p1.trans za).map nf).trans ?_) ?_ af5
   ·rw[List.map_map];have:(n.aL.map (nf∘λe=>A.queue e.1))=n.aL.map (·.1):=List.map_congr_left λe he=>y7 e he;rw[this]
   ·rw[dP,List.pairwise_map];exact p2
  have e2:ys.map (λb=>A.queue (nf b))=ys:=by
   conv=>rhs;rw[<-List.map_id ys]
   apply List.map_congr_left;intro b hb;obtain⟨e,he,rfl⟩:=List.mem_map.1 ((p1.trans za).mem_iff.1 hb);simp[y7 e he]
  rw[<-e2];have:=congrArg (List.map A.queue) e1;simpa[List.map_map,Function.comp_def]using this
 subst vO;obtain⟨Y,a1,qU⟩:=a.Im hle p3 p4;exact⟨v,Y,rfl,a1,p3,qU⟩
end
section
variable {E:Env prog}{H:Hid}{n:N}{X:Ext}{U:Hp}{c:CN}{g:Nat}{T:Int}{I:av}{ds:List Deferred}
variable {A:Lay}{id:Int}
def VM (g:Nat)(n:N)(X:Ext)(e:Fin)(R:Hp):Prop:=∃qv cv Xq Y,e=.returned (.agg #[qv,cv])/\SX QS.vals 4 39 n.nC qv Xq/\Gw g n (Xq++(Y++X)) R/\Sl 3 R ((n.aD.map (·.1)).map aW) cv
def ao5:cC prog 36=2:=ah
def ahI:dk prog 36=true:=ah
def aiu {R:Hp}{b:Nat}{a1 a2:Value}{e:Nat}(h:R.f b=some (.cells #[a1,a2] e (0,0))):iQ prog 36 ⟨b,0,none⟩ R=some (.agg #[a1,a2]):=by unfold iQ;rw[if_pos VX,ao5];simp[cellsOf,h]
def aq.Ur {Z:Ext}{b:Nat}{o:Obj}(a:aq A H n (Z++(b,o)::X) U)(o':Obj):aq A H n (Z++(b,o')::X) (U.set b o'):=by have:=a.zE (i:=Z.length) (p:=(b,o)) ak o';simpa[List.set_append]using this
def Uh {K:Nat}{ex:List Int}(h:Gw g n X U)(O:Ok T K ex n):aw E 22 #[pV g] U (VM g n X):=by
 obtain⟨A,rfl,H,a⟩:=h;refine aX func22 ntmps22 results22 λQ aB al az=>?_;obtain⟨lc,kc,cG,dU,kT⟩:=a.mc;have AR:lc.length=n.aD.length:=by have:=kT.length_eq;simpa using this
 have mU:=O.lc;have hl8:=O.lq;refine ag ?_;refineλb2 dh=>?_;have g2:=λo=>(a.iE dh o).jM;have a2:=a.iE dh (.cells [.slice none 0 0,.slice none 0 0].toArray 36 (0,0));simp only[go_sem,seval,g2];generalize vw:Hp.set U b2 _=ja;replace a2:=dT a2 vw;obtain⟨lc,kc,cG,dU,kT⟩:=a2.mc;have AR:lc.length=n.aD.length:=by have:=kT.length_eq;simpa using this
 refine aJ (Mt cG dU.old dU.nd aa) ?_;rintro cv R ⟨hle,v',ys,hv,p1,p2,p3,p4⟩
 cases hv
 obtain rfl:ys=n.aD.map (·.1):=by
  refine zG Ba Fh (p1.trans ?_) (p2 aa) ?_
  ·have:=kT.map (·.1);simpa[List.map_map,Function.comp_def]using this
  ·have:=O.sc;exact this.imp λh=>by simp[jV];omega
 obtain⟨Yc,a3,ani⟩:=a2.Im hle p3 p4;obtain⟨Ag,Ah,rfl,_⟩:=p3.read;refine ag ?_;refineλb3 gS=>?_;have g3:=λo=>(a3.iE gS o).tE;have h3:=λo=>(a3.iE gS o).jM;have a4:=a3.iE gS (.cells [.slice none 0 0,.slice Ag (n.aD.map (·.1)).length Ah].toArray 36 (0,0));refine aH h3 ?_;rw[Hp.set_set];generalize hZ4:Hp.set R b3 _=Vt;replace a4:=dT a4 hZ4;refine aJ (aow a4 O.sq aa) ?_;rintro v dA ⟨v',Yq,hv,a5,q3,anj⟩
 cases hv
 obtain⟨base,cap,rfl,_⟩:=q3.read;have hl:(n.aL.map λe=>A.queue e.1).length=n.aL.length:=ak;refine aH hl ?_;refine cZ (λm I ds ae=>ds=[]/\I 2=pV b2/\I 3=pV b3/\I 16=.slice base n.aL.length cap/\I 17=iV n.aL.length/\∃(j:Nat) (v:Value) (Xq:Ext),j+m=n.aL.length/\I 18=iV j/\SX QS.vals 4 39 (n.nC.take j) v Xq/\aq A H n (Xq++(Yq++((b3,.cells [v,.slice Ag (n.aD.map (·.1)).length Ah].toArray 36 (0,0))::(Yc++((b2,.cells [.slice none 0 0,.slice none 0 0].toArray 36 (0,0))::X))))) ae) n.aL.length ?_ ?_
 ·refine⟨rfl,?_,?_,?_,?_,0,.slice none 0 0,[],ak,?_,.none rfl,a5⟩<;>exact aP hl
 rintro m I ds dg Y ⟨rfl,h2,h3,wZ,Jo,j,v,Xq,xm,vr,vv,aj⟩ hY;have f3:dg.f b3=some (.cells #[v,.slice Ag (n.aD.map (·.1)).length Ah] 36 (0,0)):=(aq.oK (aq.oK aj)).ei;have f2:dg.f b2=some (.cells #[.slice none 0 0,.slice none 0 0] 36 (0,0)):=(aq.oK (aq.oK (aq.oK aj)).oL).ei
 cases m with
 |succ m=>
  have hj:j<n.aL.length:=aa;have c0:(j:Int)<n.aL.length:=aa;have sj:=anj (aq.oK aj);obtain⟨bb2,yA,e2,r2⟩:=sj.read;simp only[Value.slice.injEq]at e2;obtain⟨rfl,_,_⟩:=e2;obtain⟨ba,L,rfl,gT,hL⟩:=r2 j (aV hj);simp only[List.getElem_map,dX]at hL;have w1:=fM j;obtain⟨nm,jx⟩:∃nm,nm=n.aL[j].1:=⟨_,rfl⟩;rw[<-jx]at hL;have hq:n.q? nm=some n.aL[j].2:=by rw[jx];exact ni O.nq (List.getElem_mem hj)
  generalize qK:n.aL[j].2=q at*;have fq:=aj.th hq;simp only[go_sem,seval,wZ,Jo,vr,c0,decide_true];refine⟨aa,?_⟩;refine bq gT hL ?_;refine Al [0,1,2,3,4,5,8,9,10,11,6,12,7,13,14,15,16,17,18] ?_;obtain⟨rb,rc,gZ⟩:=(aj.eQ hq).shape
  obtain⟨sb,sc,kg⟩:∃b c,H.cv nm=.slice b q.cons.length c:=by
   rcases(aj.il hq).form with⟨h1,h2⟩|⟨b,pad,h1,_⟩
   ·have:q.cons=[]:=aV h1;exact⟨_,_,by rw[h2,this];rfl⟩
   ·exact⟨_,_,by rw[h1];simp only[List.length_map];rfl⟩
  have Jb:=aj.queue hq;rw[gZ,kg]at fq Jb;refine bR h3 f3 fq ?_;refine bz (Md Jb) ?_;refine⟨iP f3 fq,?_⟩;refine ag ?_;refine bz (OW Jb) ?_;refine⟨iP f3 fq,?_⟩;refine ag ?_;refine⟨dL f3,?_⟩;refine ag ?_;refineλbn cE=>?_;have fr:=λo=>aj.fresh cE o;have PM:=λo=>(aq.oK (aq.oK (fr o))).ei;simp only at PM;have frq:=λo=>(fr o).th hq;rw[gZ,kg]at frq;refine⟨dL PM,?_⟩;refine ag ?_;generalize yJ:Hp.set dg bn _=rZ;have a6:=dT (fr _) yJ;have JW:rZ.f bn=some (.cells (QS.vals ⟨nm,q.ready.length,q.held,q.cons.length⟩).toArray 39 (0,0)):=by rw[<-yJ];exact Hp.bD _ _
  refine Wj abb (f:=QS.vals) ah (λ_=>rfl) rfl an an (λ_=>by simp[QS.vals,di]) vv a6 ?_ ?_ JW (by simp;omega) ?_
  ·exact au
  ·exact au
  intro v7 VP pA Ql a7;have f37:pA.f b3=some (.cells #[v,.slice Ag (n.aD.map (·.1)).length Ah] 36 (0,0)):=(aq.oK (aq.oK a7)).ei;have Jc:=a7.th hq;rw[gZ,kg]at Jc;refine⟨iP f37 Jc,?_⟩;refine bq h3 f37 ?_;rw[<-List.append_assoc]at a7;have a8:=a7.Ur (.cells [v7,.slice Ag (n.aD.map (·.1)).length Ah].toArray 36 (0,0))
  have vM:∃b c,v7=.slice b (n.nC.take j++[(⟨nm,q.ready.length,q.held,q.cons.length⟩:QS)]).length c:=by cases Ql with
   |none h=>simp at h
   |«at»b c pad _ _=>exact⟨_,_,rfl⟩
  obtain⟨Ue,Uf,vM⟩:=vM;rw[vM]at a8;refine aH vM ?_;refine⟨iP f37 Jc,?_⟩;refine bq vr w1 ?_
  have hsj:n.nC.take (j+1)=n.nC.take j++[⟨nm,q.ready.length,q.held,q.cons.length⟩]:=by
   have tR:j<n.nC.length:=by simpa[N.nC]using hj
   rw[List.take_succ_eq_append_getElem tR];congr 2;simp only[N.nC,List.getElem_map,jx,qK]
  refine hY m _ _ _ _ aa ⟨rfl,?_,?_,?_,?_,j+1,v7,VP,aa,?_,by rw[hsj];exact Ql,?_⟩ ao
  ·exact aP h2
  ·exact aP h3
  ·exact aP wZ
  ·exact aP Jo
  ·exact au
  ·rw[vM,<-List.append_assoc];exact dT a8 rfl
 |zero=>
  have c0:¬(j:Int)<n.aL.length:=aa;obtain rfl:j=n.aL.length:=aa;rw[List.take_of_length_le (by simp[N.nC])]at vv
  have vM:∃b c,v=.slice b n.nC.length c:=by cases vv with
   |none h=>exact⟨_,_,by rw[h];rfl⟩
   |«at»b c pad _ _=>exact⟨_,_,rfl⟩
  obtain⟨Ue,Uf,vM⟩:=vM;rw[vM]at f3 vv;simp only[go_sem,seval,h2,h3,Jo,vr,c0,decide_false,f3,f2];have k0:=aq.Fz (Z:=Xq) (Y:=Yq) aj;have k1:aq A H n (Xq++(Yc++(b2,.cells [.slice none 0 0,.slice none 0 0].toArray 36 (0,0))::X)) dg:=aq.Fz (Z:=Xq) (Y:=[(b3,_)]) k0;rw[<-List.append_assoc]at k1;have k2:=(k1.Ur (.cells [.slice Ue n.nC.length Uf,.slice Ag (n.aD.map (·.1)).length Ah].toArray 36 (0,0)));have k3:aq A H n ((Xq++Yc)++X) _:=aq.Fz (Z:=Xq++Yc) (Y:=[(b2,_)]) k2;rw[List.append_assoc]at k3;refine al (nA (b:=b2) ?_ ahI (aiu aT)) ao ⟨_,_,Xq,Yc,rfl,vv,⟨A,rfl,H,dT k3 rfl⟩,ani (aq.oK (dT k3 rfl))⟩;exact aP h2
end
def N.then(n:N)(id:Int)(s:List UInt8):N:=match n.ar id with
 |none=>n
 |some _=>(n.feed id s).clean
def Inv.then {n:N}{T:Int}{id:Int}{s:List UInt8}(atz:Inv T n):Inv (T+402*(s.length+4107:Nat)) (n.then id s):=by
 unfold N.then;split
 ·exact atz.mono aa
 ·exact atz.feed
variable {l:List (Int×List UInt8)}
def alN{pad:List Value}{i:Nat}(h:i<l.length):(fY l++pad)[i*2]? =some (iV l[i].1)/\(fY l++pad)[i*2+1]? =some (sV l[i].2):=by
 have hl:=G6 l;rw[List.getElem?_append_left aa,List.getElem?_append_left aa];clear hl
 induction l generalizing i with
 |nil=>simp at h
 |cons e l ih=>
  have e1:fY (e::l)=iV e.1::sV e.2::fY l:=by simp[fY]
  rw[e1]
  cases i with
  |zero=>exact⟨rfl,rfl⟩
  |succ i=>
   have h':i<l.length:=aV h;have:=ih h';have a1:(i+1)*2=i*2+1+1:=aa;have a2:(i+1)*2+1=i*2+1+1+1:=aa;rw[a2,a1];simpa using this
variable {v:Value}{Xp:Ext}
def PX.shape(h:PX l v Xp):∃b c,v=.slice b l.length c:=by
 cases h with
 |none h=>exact⟨_,_,by rw[h];rfl⟩
 |«at»a c pad _ _=>exact⟨_,_,rfl⟩
variable {X:Ext}{H:Hid}{n:N}{U:Hp}
def PX.read{A:Lay}(h:PX l v Xp)(a:aq A H n (Xp++X) U):∃b c,v=.slice b l.length c/\∀i (hi:i<l.length),∃(a:Nat) (L:List Value),b=some ⟨a,0,Option.none⟩/\U.f a=some (.cells L.toArray 55 (0,0))/\L[i*2]? =some (iV l[i].1)/\L[i*2+1]? =some (sV l[i].2):=by
 cases h with
 |none h=>exact⟨_,_,by rw[h];rfl,λi hi=>by rw[h]at hi;simp at hi⟩
 |«at»b c pad _ _=>exact⟨_,_,rfl,λi hi=>⟨b,_,rfl,aq.ei (X:=X) a,alN hi⟩⟩
def Gw.drop{g:Nat}{Y:Ext}(h:Gw g n (Y++X) U):Gw g n X U:=by obtain⟨A,e,H,a⟩:=h;exact⟨A,e,H,a.oK⟩
section
variable {n:N}{c:CN}{T:Int}
variable {A:Lay}{id:Int}
def alj {s:List UInt8}(atz:Inv T n):(n.feed id s).outs.length<=4:=by
 have h1:(n.feed id s).outs.length<=(n.feed id s).aD.length:=by unfold N.outs;refine Nat.le_trans (List.length_filter_le _ _) ?_;simp
 have h2:(n.feed id s).aD.length<=4:=by
  unfold N.feed;split
  ·exact atz.ok.iY.lc
  ·cases hc:n.ar id with
   |none=>
    have e:n.tF id s=n:=by
     have e1:n.recv id s=n:=by unfold N.recv N.bC N.dn;have:dw n.aD id (λc=>{c with r:={c.r with recv:=n.clock,rest:=c.r.rest++s}})=n.aD:=yt λe he hx=>absurd hx (iF hc e he);rw[this]
     rw[Cm,e1];exact I3 (by unfold N.ph;rw[hc];rfl)
    rw[e];exact atz.ok.iY.lc
   |some c=>exact(atz.ok.tF hc).ok.iY.lc
 omega
end
def vk:jZ:=⟨4,200,50,50,1000⟩
def nK:List UInt8:=j7 0 10 30 (bp 2 4++bp 4 200++bp 2 50)++j7 0 10 41 (bp 1 0)++j7 1 20 11 (bp 4 0)
def aqc:nK.length=49:=kE
section
variable {H:Hid}{n:N}{X:Ext}{U:Hp}{g:Nat}{T:Int}{W:World}{φ:Hp}
variable {A:Lay}{id:Int}
def Q2 {h:Nat}:(pQ h).length<=200:=by unfold pQ;simp only[List.length_append,B5,cB,List.length_cons,List.length_nil];have:pK.length=8:=rfl;omega
def ahP {h:Nat}(hh:h<=1000)(hg:Gw g n X U)(atz:Inv T n)(hl:n.aD.length<=3)(mi:n.last<=1000000000)(hT:T<=100000000000){ot:List UInt8}
 (fK:(n.connect.feed (n.last+1) (pQ h)).outs=[(n.last+1,ot)]) (h1:ot.length=nK.length+22) (h2:ot.take nK.length=nK):
 aw (nF W φ) 23 #[pV g,iV h] U λe R=>e=.returned (iV (n.last+1))/\Gw g (n.connect.then (n.last+1) (pQ h)) X R:=by
 refine aX func23 ntmps23 results23 λQ aB al az=>?_;refine ag ?_;refine aJ (aan hg atz hl mi) ?_;rintro v R ⟨hv,g1⟩
 cases hv
 have I1:=atz.connect hl;refine ag ?_;refine bz (aeF hh) ?_;refine ag ?_;have hlen:=Q2 (h:=h);have mg:=Ak (id:=n.last+1) atz.ok;rw[if_pos rfl]at mg;have yF:=PC (W:=W) (φ:=φ) (id:=n.last+1) (s:=pQ h) g1 I1 aa aa;rw[mg]at yF;have aga:n.connect.then (n.last+1) (pQ h)=(n.connect.feed (n.last+1) (pQ h)).clean:=by unfold N.then;rw[mg]
 rw[aga]at al;refine aJ yF ?_;rintro v cU ⟨v',Xp,hv,hp,A,hA,H,a⟩
 cases hv
 rw[fK]at hp;obtain⟨b,cap,rfl,Kz⟩:=hp.read a;obtain⟨ab,L,rfl,dq,CF,oR⟩:=Kz 0 ak;simp only[List.getElem_cons_zero,Nat.zero_mul,Nat.zero_add]at CF oR;refine ag ?_;refine bz (qP (n:=4) (w:=2) an an) ?_;refine ag ?_;refine bz (qP (n:=200) (w:=4) an an) ?_;refine ag ?_;refine bz (qP (n:=50) (w:=2) an an) ?_;have l1:(bp 2 4).length+(bp 4 200).length<=9223372036854775807:=an;have l2:(bp 2 4++bp 4 200).length+(bp 2 50).length<=9223372036854775807:=an;refine bq l1 l2 ?_;refine bz (zm (ch:=0) (cl:=10) (me:=30) (p:=bp 2 4++bp 4 200++bp 2 50) an an an an) ?_;refine ag ?_;refine bz (GV (s:=[]) an) ?_;refine ag ?_;refine bz (zm (ch:=0) (cl:=10) (me:=41) (p:=bp 1 0) an an an an) ?_;have m1:(j7 0 10 30 (bp 2 4++bp 4 200++bp 2 50)).length+(j7 0 10 41 (bp 1 0)).length<=9223372036854775807:=an;have m2:(j7 0 10 30 (bp 2 4++bp 4 200++bp 2 50)++j7 0 10 41 (bp 1 0)).length+(j7 1 20 11 (bp 4 0)).length<=9223372036854775807:=an;refine aH m1 ?_;refine bz (qP (n:=0) (w:=4) an an) ?_;refine ag ?_;refine bz (zm (ch:=1) (cl:=20) (me:=11) (p:=bp 4 0) an an an an) ?_;have eW:j7 0 10 30 (bp 2 4++bp 4 200++bp 2 50)++j7 0 10 41 (bp 1 0)++j7 1 20 11 (bp 4 0)=nK:=rfl;have c1:(([(n.last+1,ot)]:List (Int×List UInt8)).length:Int)=1:=rfl;have nt:(decide ¬True)=false:=an;have lw:(ot.length:Int)=(nK.length:Int)+22:=aa
 have ww:IntKind.i64.wrap ((nK.length:Int)+22)=(nK.length:Int)+22:=by have:=aqc;rw[wrap64 aa aa]
 refine Mn m2 eW dq oR lw ww ?_;refine⟨aa,?_⟩;have tw0:ot.take (nK.length-0)=nK:=h2;simp only[go_sem,seval,lw,tw0,Int.toNat_natCast];exact al aG ao ⟨by simp[up],A,hA,H,a.oK⟩
def IF:E5 vk:=⟨⟨an,an,an⟩,an,an,an,an,an⟩
def Oj {h:Nat}{L1:List Value}(hh:h<=1000)(hb:Base U L1){ot:List UInt8}
 (fK:((N.new vk).connect.feed 1 (pQ h)).outs=[(1,ot)]) (h1:ot.length=nK.length+22) (h2:ot.take nK.length=nK):
 aw (nF W φ) 13 #[iV h] U λe R=>∃g,e=.returned (.tuple #[pV g,iV 1])/\Gw g ((N.new vk).connect.then 1 (pQ h)) [] R:=by
 refine aX func13 ntmps13 results13 λQ aB al az=>?_;refine ag ?_;refine aJ (ajI (cfg:=vk) hb IF an an an an) ?_;rintro v R ⟨g,hv,hg⟩
 cases hv
 refine ag ?_;refine aJ (ahP (n:=N.new vk) hh hg (Inv.new IF) an an an fK h1 h2) ?_;rintro w R ⟨hw,hB⟩;obtain rfl:w=iV 1:=by injection hw
 simp only[go_sem,seval];exact al (iT) ao ⟨g,by simp[up],hB⟩
end
def L3:List UInt8:=nK++cg 1 50 11 [.text [113],.long 0,.long 0]
def Ty:L3.length=nK.length+22:=kE
def Tz:L3.take nK.length=nK:=kE
def lr:N:=⟨vk,0,1,0,0,[(1,⟨⟨3,[],true,4,64,0,0,0,[]⟩,[(1,⟨fV,[],[]⟩)]⟩)],[([113],⟨[],0,0,[]⟩)],[]⟩
def Ol:((N.new vk).connect.feed 1 (pQ 0)).outs=[(1,L3)]:=kE
def Iy:(N.new vk).connect.then 1 (pQ 0)=lr:=ah
def V8:List UInt8:=[48,49,50,51,52,53,54,55,56,57,97,98,99,100,101,102,103,104,105,106,107,108,109,110,111,112,113,114,115,116,117,118,119,120,121,122]
def IA(i:Nat):List UInt8:=[(97+i % 26).toUInt8,(97+i/26 % 26).toUInt8]++(List.replicate (i % 5) V8).flatten
def R8:Inv 2000000 lr:=by have h:=((Inv.new IF).connect an).then (id:=1) (s:=pQ 0);rw[Iy]at h;have:=Q2 (h:=0);exact h.mono aa
def SX.one{f:QS->List Value}{z e:Nat}{x:QS}{A:Lay}(h:SX f z e [x] v Xp)(a:aq A H n (Xp++X) U):∃(b c:Nat) (L:List Value),v=.slice (some ⟨b,0,Option.none⟩) 1 c/\U.f b=some (.cells (f x++L).toArray e (0,0)):=by
 cases h with
 |none h=>cases h
 |«at»b c pad _ _=>exact⟨b,c,pad,rfl,by have:=aq.ei (X:=X) a;simpa using this⟩
def Gw.ve{g:Nat}(h:Gw g n X U):U.f 0=some (.cells #[rT 45] 143 (0,0))/\U.f 1=some (.cells Bn.toArray 396 (0,0)):=by obtain⟨A,_,H,a⟩:=h;refine⟨a.b0,?_⟩;rw[<-A.oR];exact a.b1
def Base.same{R:Hp}{L1:List Value}{g:Nat}(hb:Base U L1)(h:Gw g n X R):R.f 0=U.f 0/\R.f 1=U.f 1:=by rw[hb.b0,hb.b1,h.ve.1,h.ve.2,hb.l1];exact⟨rfl,rfl⟩
end Go.Qw
