/- 9 -/
import Derived.Test.YtpiabknabfbfhaaGreatDoorAgain08
set_option linter.all false
set_option maxRecDepth 100000
set_option maxHeartbeats 8000000
namespace Go.Qw
open Go Go.Conc Go.Proofs Go.Proofs.Tryz
def dP{A:Lay}{H:Hid}{n:N}{X:Ext}{Z Z':Hp}(a:aq A H n X Z)(e:Z=Z'):aq A H n X Z':=e▸a
def ui(e cl me:Nat):Obj:=.cells [iV e,iV cl,iV me].toArray 217 (0,0)
def QW(e cl me:Nat):(dg (oZ e cl me)).length=7:=by simp[dg,eI,oZ,bJ]
section
variable {E:Env prog}{H:Hid}{n:N}{X:Ext}{U:Hp}{no:Nat}{c:CN}{h:HN}{b:Nat}{e:Nat}{cl:Nat}{me:Nat}
variable {A:Lay}{id:Int}
def apR (a:aq A H n X U)(hb:(b,ui e cl me)∈X)(hc:n.ar id=some c)(hh:n.h? id no=some h)(R:yL n id no h)(eH:no<1000000)(he:e<1000000/\cl<1000000/\me<1000000)(eS:c.r.out.length<=100000000000000):
 ay E 151 #[pV (A.chan id no),pV b] U λe' J=>e'=.returned (.tuple #[])/\At A (n.soft id no e cl me) X J:=by
 refine aX func151 ntmps151 results151 λQ aD an aA=>?_;refine ag ?_;refine aK (M7 a hc hh R) ?_;rintro v J ⟨hv,H1,a1⟩
 cases hv
 obtain⟨c1,cG,ec⟩:=B7 (B6.trans (B5 hc));obtain⟨h1,nH,eh⟩:=Va (U9.trans (U8 hh));refine aJ (a1.bX nH) ?_;have a2:=a1.yA nH λr=>{r with closing:=true};generalize hZ:J.set (A.chan id no) _=cQ;replace a2:=dP a2 hZ;have fE:((n.release id no).cN id no λr=>{r with closing:=true}).h? id no=some {h1 with r:={h1.r with closing:=true}}:=by simp[nH]
 have dX:∃c2,((n.release id no).cN id no λr=>{r with closing:=true}).ar id=some c2/\c2.r=c.r:=by refine B7 (rp.trans ?_);rw[B5 cG,ec]
 obtain⟨c2,dX,ec2⟩:=dX;have fb:=a2.mem hb;simp only[ui]at fb;refine bG 26 ?_;refine bu (a2.bX fE) fb ?_;refineλbn cE=>?_;have a3:=λo=>a2.fresh cE o;have f3:=λo=>(a3 o).mem hb;simp only[ui]at f3;have g3:=λo=>(a3 o).bX fE;refine L4 g3 ?_;refine ag ?_;refine aK (pS (ch:=no) (cl:=20) (me:=40) (xs:=oZ e cl me) (a3 _) dX (.inr ⟨bn,rfl,aZ⟩) ?_ (by simp[oZ]) aa ai ai (by rw[QW];decide) (by rw[ec2];omega)) ?_
 ·simp[oZ,lh];omega
 rintro v iu ⟨hv,a4⟩
 cases hv
 have f4:=a4.mem hb;simp only[ui]at f4;have Le:(((n.release id no).cN id no λr=>{r with closing:=true}).send id (bK no 20 40 (oZ e cl me))).h? id no=some {h1 with r:={h1.r with closing:=true}}:=by rw[pZ];exact fE
 have g4:=a4.bX Le;refine Tz f4 g4 ?_;exact aD dA ao ⟨rfl,H1,a4⟩
def RV (a:aq A H n X U)(hb:(b,ui e cl me)∈X)(hc:n.ar id=some c)(R:AF n id c)(he:e<1000000/\cl<1000000/\me<1000000)(eS:c.r.out.length<=100000000000000):
 ay E 106 #[pV (A.conn id),pV b] U λe' J=>e'=.returned (.tuple #[])/\At A (n.cL id e cl me) X J:=by
 refine aX func106 ntmps106 results106 λQ aD an aA=>?_;refine ag ?_;refine aK (Me a hc R) ?_;rintro v J ⟨hv,H1,a1⟩
 cases hv
 have cG:∃c1,(n.leave id).ar id=some c1/\c1.r=c.r:=by
  have e:n.leave id=(n.gV id c.ch).dN id λc=>{c with ch:=[]}:=by unfold N.leave;rw[hc];rfl
  obtain⟨c1,cG,ec⟩:=B7 (E4.trans (B5 hc):(n.gV id c.ch).rC id=some c.r);exact⟨{c1 with ch:=[]},by rw[e];simp[cG],ec⟩
 obtain⟨c1,cG,ec⟩:=cG;refine aJ (a1.eJ cG) ?_;have a2:=a1.mQ cG λr=>{r with ph:=4};generalize hZ:J.set (A.conn id) _=cQ;replace a2:=dP a2 hZ;have dX:((n.leave id).bA id λr=>{r with ph:=4}).ar id=some {c1 with r:={c1.r with ph:=4}}:=by simp[cG]
 have fb:=a2.mem hb;simp only[ui]at fb;refine bG 19 ?_;refine aJ fb ?_;refineλbn cE=>?_;have a3:=λo=>a2.fresh cE o;have f3:=λo=>(a3 o).mem hb;simp only[ui]at f3;refine⟨dL f3,?_⟩;refine ag ?_;refine aK (pS (ch:=0) (cl:=10) (me:=50) (xs:=oZ e cl me) (a3 _) dX (.inr ⟨bn,rfl,aZ⟩) ?_ (by simp[oZ]) aa ai ai (by rw[QW];decide) (by simp only;rw[ec];omega)) ?_
 ·simp[oZ,lh];omega
 rintro v iu ⟨hv,a4⟩
 cases hv
 have f4:=a4.mem hb;simp only[ui]at f4;refine⟨dL f4,?_⟩;exact aD dA ao ⟨rfl,H1,a4⟩
def JU (a:aq A H n X U)(hc:n.ar id=some c)(hh:n.h? id no=some h)(R:yL n id no h):
 ay E 243 #[pV (A.chan id no)] U λe' J=>e'=.returned (.tuple #[])/\At A (n.oY id no) X J:=by
 refine aX func243 ntmps243 results243 λQ aD an aA=>?_;refine ag ?_;refine aK (M7 a hc hh R) ?_;rintro v J ⟨hv,H1,a1⟩
 cases hv
 obtain⟨c1,cG,ec⟩:=B7 (B6.trans (B5 hc));obtain⟨h1,nH,eh⟩:=Va (U9.trans (U8 hh));obtain⟨lj,kj,nJ,qW,xS⟩:=a1.chm cG;refine ag ?_;refine bG 12 ?_;refine bu (a1.bX nH) (a1.eJ cG) ?_;refine CY (b:=H1.chm id) (k:=(no:Int)) (l:=lj) (c:=kj) uZ qW.uniq ?_ nJ ?_ ?_
 ·exact au
 ·exact au
 obtain⟨d1,d2⟩:=EI qW xS (no:Int)
 have em:((c1.ch.map λe=>((e.1:Int),pV (A.chan id e.1))).filter λe=>decide (e.1≠(no:Int)))=(cC c1.ch no).map λe=>((e.1:Int),pV (A.chan id e.1)):=by unfold cC;rw[List.filter_map];congr 1;apply List.filter_congr;intro e _;simp only[Function.comp,decide_eq_decide];omega
 rw[em]at d2;have a2:=a1.aca cG no ⟨_,_,rfl,d1,d2⟩;have nch:¬A.chan id no=H1.chm id:=λe=>by have:=a1.chan nH;rw[e,nJ]at this;simp[aV,iF]at this
 have ncn:¬A.conn id=H1.chm id:=λe=>by have:=a1.conn cG;rw[e,nJ]at this;simp[aV,fI]at this
 have g2:=λo=>(Hp.az (o:=o) nch).trans (a1.bX nH);have f2:=λo=>(Hp.az (o:=o) ncn).trans (a1.eJ cG);refine Tz g2 f2 ?_;exact aD dA ao ⟨rfl,H1,a2⟩
end
section
variable {E:Env prog}{H:Hid}{n:N}{X:Ext}{U:Hp}{no:Nat}{c:CN}{h:HN}{b:Nat}{e:Nat}{nm:List UInt8}{q:QN}{m:aM}{k:Int}
variable {A:Lay}{id:Int}
def RU {na:Bool}(a:aq A H n X U)(hh:n.h? id no=some h)(hq:n.q? nm=some q)(b1:0<=h.r.tag/\h.r.tag<=1000000000000)(b2:0<=q.held/\q.held<=1000000)(iX:∀e∈h.un,(e.1:Int)≠h.r.tag+1):
 ay E 291 #[pV (A.chan id no),pV (A.queue nm),m.v,.bool na] U λe J=>e=.returned (iV (h.r.tag+1))/\aq A H (n.hand id no nm m na) X J:=by
 show ay E 291 #[pV (A.chan id no),pV (A.queue nm),.agg #[iV m.seq,sV m.key,sV m.body,.bool m.again],.bool na] U _;refine aX func291 ntmps291 results291 λQ aD an aA=>?_;have w1:IntKind.i64.wrap (h.r.tag+1)=h.r.tag+1:=wrap64 aa aa;have w2:IntKind.i64.wrap (q.held+1)=q.held+1:=wrap64 aa aa;refine ag ?_;refineλb5 lV=>?_;refine ag ?_;have a5:=λo=>a.iR lV o;have f5:=λo=>(a5 o).bX hh;refine bu f5 w1 ?_;have a6:=λo=>(a5 o).yA hh λr=>{r with tag:=r.tag+1};generalize hZ:Hp.set (Hp.set U b5 _) (A.chan id no) _=xv;replace a6:=dP (a6 _) hZ;have pf:(n.cN id no λr=>{r with tag:=r.tag+1}).h? id no=some {h with r:={h.r with tag:=h.r.tag+1}}:=by simp[hh]
 cases na with
 |true=>
  refine aJ (a6.bX pf) ?_;refine an aI ao ⟨by simp[up],?_⟩;exact a6.oW
 |false=>
  have uM:(n.cN id no λr=>{r with tag:=r.tag+1}).q? nm=some q:=hq;refine bu (a6.tN uM) w2 ?_;have a7:=a6.Ih uM (λq=>{q with held:=q.held+1}) rfl rfl;generalize v8:Hp.set xv (A.queue nm) _=lP;replace a7:=dP a7 v8;have x7:=a7.eK;simp only at x7;have DK:((n.cN id no λr=>{r with tag:=r.tag+1}).bH nm λq=>{q with held:=q.held+1}).h? id no=some {h with r:={h.r with tag:=h.r.tag+1}}:=by simp[hh]
  obtain⟨l,kk,fY,ig,iA⟩:=a7.un DK;refine bG 12 ?_;refine bu (a7.bX DK) x7 ?_;refine⟨by(repeat(first|exact jL|(apply jK;(focus decide+kernel))|(refine lF rfl (aQ (a7.bX DK)) ?_))),?_⟩;refine ag ?_;refine BO (b:=A.un id no) (k:=h.r.tag+1) (l:=l) (c:=kk) BK ig.uniq ?_ fY ?_ ?_
  ·exact au
  ·exact au
  refine ag ?_
  have hnk:∀e∈(h.un.map λe=>((e.1:Int),uB (A.queue e.2.1) e.2.2)),e.1≠h.r.tag+1:=by intro e he;obtain⟨y,hy,rfl⟩:=List.mem_map.1 he;exact iX y hy
  obtain⟨d1,d2⟩:=EJ ig iA hnk (uB (A.queue nm) m);have et:(((h.r.tag+1).toNat:Nat):Int)=h.r.tag+1:=aa
  have a8:=a7.Vz DK (λh=>{h with un:=h.un++[(h.r.tag.toNat,(nm,m))]}) rfl rfl (o:=aV aY (jz l (h.r.tag+1) (.agg #[pV (A.queue nm),iV m.seq,sV m.key,sV m.body,.bool m.again]) kk) (jM l (h.r.tag+1) kk))
   ⟨_,_,rfl,d1,d2.trans (by simp only[List.map_append,List.map_cons,List.map_nil,et];exact List.perm_append_comm (l₁:=[_]))⟩
  have f8:=a8.bX (h:={h with r:={h.r with tag:=h.r.tag+1},un:=h.un++[((h.r.tag+1).toNat,(nm,m))]}) (by rw[jZ,DK];simp);have x8:=a8.eK;simp only at x8;refine⟨jg f8 x8,?_⟩;refine aJ f8 ?_;refine an aI ao ⟨by simp[up],?_⟩
  have es:n.hand id no nm m false=((n.cN id no λr=>{r with tag:=r.tag+1}).bH nm λq=>{q with held:=q.held+1}).bB id no λh=>{h with un:=h.un++[(h.r.tag.toNat,(nm,m))]}:=by have e1:∀(n:N) (f:HN->HN) (g:QN->QN),(n.bH nm g).bB id no f=(n.bB id no f).bH nm g:=λ_ _ _=>rfl;rw[e1];unfold N.hand N.cN;rw[NN,if_neg Bool.false_ne_true]
  rw[es];exact a8.oW
end
section
variable {n:N}{no:Nat}{c:CN}{h:HN}{nm:List UInt8}{m:aM}{k:Int}{na:Bool}
variable {id:Int}
def P5 (hc:n.ar id=some c):∃c',(n.hand id no nm m na).ar id=some c'/\c'.r=c.r:=by
 unfold N.hand;split
 ·simp[hc]
 ·simp[hc]
def RH (hh:n.h? id no=some h):∃h',(n.hand id no nm m na).h? id no=some h'/\h'.r={h.r with tag:=h.r.tag+1}:=by
 unfold N.hand;split
 ·simp[hh]
 ·simp[hh]
def Wx:(n.hand id no nm m na).x? k=n.x? k:=by unfold N.hand;split<;>rfl
end
section
variable {E:Env prog}{H:Hid}{n:N}{X:Ext}{U:Hp}{no:Nat}{c:CN}{h:HN}{e:Nat}{cl:Nat}{me:Nat}{nm:List UInt8}{q:QN}{m:aM}{k:Int}{x:XN}{na:Bool}
variable {A:Lay}{id:Int}
def aqW {fr:Nat}(a:aq A H n X U)(hx:n.x? k=some x)(hc:n.ar x.id=some c)(hh:n.h? x.id x.no=some h)(hq:n.q? x.q=some q)(b1:0<=h.r.tag/\h.r.tag<=1000000000000)(b2:0<=q.held/\q.held<=1000000)(iX:∀e∈h.un,(e.1:Int)≠h.r.tag+1)
 (gJ:c.r.frame=(fr:Int)) (f1:9<=fr/\fr<=1000000) (eH:x.no<1000000) (eS:c.r.out.length<=100000000000000) (RY:m.body.length<=100000) (atx:m.key.length<=1000) (atO:x.tag.length<=1000):
 ay E 328 #[pV (A.chan x.id x.no),pV (A.cons k),m.v] U λe J=>e=.returned (.tuple #[])/\aq A H (n.take k m) X J:=by
 show ay E 328 #[pV (A.chan x.id x.no),pV (A.cons k),.agg #[iV m.seq,sV m.key,sV m.body,.bool m.again]] U _;refine aX func328 ntmps328 results328 λQ aD an aA=>?_;obtain⟨tg,Bz⟩:∃tg:Nat,h.r.tag=(tg:Int):=⟨h.r.tag.toNat,aa⟩;refine ag ?_;refineλb5 lV=>?_;refine ag ?_;have a5:=λo=>a.iR lV o;have x5:=λo=>(a5 o).eK;simp only at x5;have c5:=λo=>(a5 o).vQ hx;refine bG 12 ?_;refine bu c5 x5 ?_;refine aK (RU (m:=m) (na:=x.fG) (a5 _) hh hq b1 b2 iX) ?_;rintro v J ⟨hv,a6⟩;have JW:h.r.tag+1=((tg+1:Nat):Int):=aa;obtain rfl:v=iV ((tg+1:Nat):Int):=by rw[<-JW];injection hv
 obtain⟨c6,iz,s6⟩:=P5 (n:=n) (no:=x.no) (nm:=x.q) (m:=m) (na:=x.fG) hc;obtain⟨h6,pf,eh6⟩:=RH (n:=n) (nm:=x.q) (m:=m) (na:=x.fG) hh;have uP:(n.hand x.id x.no x.q m x.fG).x? k=some x:=by rw[Wx];exact hx
 have x6:=a6.eK;simp only at x6;refine⟨jg x6 (a6.vQ uP),?_⟩;refine ag ?_;refine bG 23 ?_;refine bR (a6.bX pf) (a6.vQ uP) x6 ?_;refineλbn cE=>?_;have a7:=λo=>a6.fresh cE o;have x7:=λo=>(a7 o).eK;simp only at x7;have h7:=λo=>(a7 o).bX pf;have c7:=λo=>(a7 o).vQ uP;refine⟨dL h7,?_⟩;refine ag ?_;refine aK (pS (ch:=x.no) (cl:=60) (me:=60) (xs:=[.text x.tag,.mM (tg+1),.flag m.again,.text m.key]) (a7 _) iz (.inr ⟨bn,rfl,aZ⟩) ?_ al aa ai ai ?_ (by rw[s6];omega)) ?_
 ·simp[lh];omega
 ·simp[dg,eI,bJ];omega
 rintro v Cq ⟨hv,a8⟩
 cases hv
 have aH:(bK x.no 60 60 [.text x.tag,.mM (tg+1),.flag m.again,.text m.key]).length<=3000:=by rw[JA];simp[dg,eI,bJ];omega
 generalize hS:bK x.no 60 60 [.text x.tag,.mM (tg+1),.flag m.again,.text m.key]=S at a8 aH;have DL:((n.hand x.id x.no x.q m x.fG).send x.id S).h? x.id x.no=some h6:=by rw[pZ];exact pf
 have zp:((n.hand x.id x.no x.q m x.fG).send x.id S).ar x.id=some {c6 with r:={c6.r with out:=c6.r.out++S,iq:=(n.hand x.id x.no x.q m x.fG).clock}}:=by rw[sZ,if_pos rfl,iz];rfl
 have hx8:((n.hand x.id x.no x.q m x.fG).send x.id S).x? k=some x:=by rw[Wy];exact uP
 have x8:=a8.eK;simp only at x8;have h8:=a8.bX DL;have cc8:=a8.vQ hx8;have f8:=a8.eJ zp;simp only[s6,gJ]at f8;refine⟨dF h8 cc8 x8,?_⟩;refine ag ?_;refine bG 19 ?_;refine bR h8 x8 f8 ?_;refine aT (P8 (ch:=x.no) (size:=fr) (body:=m.body) aa f1.1 f1.2 aa) ?_;refine⟨dL h8,?_⟩;refine ag ?_
 have afM:(mv x.no m.body fr).length<=1000000:=by unfold mv;have:=US x.no (fr-8) aa m.body.length m.body (Nat.le_refl _);simp only[List.length_append,kP,bJ];omega
 refine aK (Na (s:=mv x.no m.body fr) a8 zp (by simp only[List.length_append,s6];omega)) ?_;rintro v vD ⟨hv,a9⟩
 cases hv
 have x9:=a9.eK;simp only at x9;have Lf:(((n.hand x.id x.no x.q m x.fG).send x.id S).send x.id (mv x.no m.body fr)).h? x.id x.no=some h6:=by rw[pZ];exact DL
 have Dx:∃c9,(((n.hand x.id x.no x.q m x.fG).send x.id S).send x.id (mv x.no m.body fr)).ar x.id=some c9/\c9.r.frame=fr:=by rw[sZ,if_pos rfl,zp];exact⟨_,rfl,by simp only;rw[s6];exact gJ⟩
 obtain⟨c9,Dx,JS⟩:=Dx;have h9:=a9.bX Lf;have f9:=a9.eJ Dx;rw[JS]at f9;refine⟨dF h9 x9 f9,?_⟩;refine aD dA ao ⟨rfl,?_⟩
 have e:n.take k m=((n.hand x.id x.no x.q m x.fG).send x.id S).send x.id (mv x.no m.body fr):=by
  unfold N.take;rw[hx];have e1:n.tag x.id x.no=tg:=by unfold N.tag;rw[hh];simp[Bz]
  have e2:(n.hand x.id x.no x.q m x.fG).frame x.id=fr:=by unfold N.frame;rw[iz];simp[s6,gJ]
  simp only[N.give,e1,e2,hS]
 rw[e];exact a9.oW
end
section
variable {E:Env prog}{H:Hid}{n:N}{X:Ext}{U:Hp}{no:Nat}{c:CN}{h:HN}{b:Nat}{e:Nat}{nm:List UInt8}{q:QN}{m:aM}{k:Int}{x:XN}
variable {A:Lay}{id:Int}
def IX (n:N)(nm:List UInt8)(q:QN):Prop:=q.cons.length<=1000/\∀k∈q.cons,∃x h,n.x? k=some x/\x.q=nm/\n.h? x.id x.no=some h
def oU (A:Lay)(n:N)(k:Int):gY:=match n.x? k with
 |some x=>⟨A.cons k,A.chan x.id x.no,k,x.tag,x.fG,match n.h? x.id x.no with|some h=>h.r.free h.un.length|none=>false⟩
 |none=>⟨0,0,k,[],false,false⟩
def abE:(oU A n k).may=n.may k:=by
 unfold oU N.may gY.may
 cases n.x? k with
 |none=>rfl
 |some x=>simp only[];cases n.h? x.id x.no<;>rfl
def abF:(oU A n k).no=k:=by unfold oU;cases n.x? k<;>rfl
def aq7 (cs:List Int)(last:Int):Ch (cs.map (oU A n)) last=(((cs.filter n.may).find? λk=>decide (k>last)).or (cs.filter n.may).head?).map (oU A n):=by
 unfold Ch
 have e1:(cs.map (oU A n)).filter gY.may=(cs.filter n.may).map (oU A n):=by rw[List.filter_map];congr 1;apply List.filter_congr;intro k _;exact abE
 rw[e1,List.find?_map];have e2:((λx:gY=>decide (x.no>last))∘oU A n)=λk=>decide (k>last):=by funext k;simp[abF]
 rw[e2]
 cases(cs.filter n.may).find? λk=>decide (k>last)with
 |some k=>rfl
 |none=>cases cs.filter n.may<;>rfl
def aq8 (a:aq A H n X U)(hq:n.q? nm=some q)(T:IX n nm q):
 ay E 89 #[pV (A.queue nm)] U λe J=>e=.returned (match n.vA q with|some k=>pV (A.cons k)|none=>.pointer none)/\J=U:=by
 have hv:=a.ix hq
 have ev:(q.cons.map λk=>pV (A.cons k))=(q.cons.map (oU A n)).map λx=>pV x.cb:=by rw[List.map_map];apply List.map_congr_left;intro k hk;obtain⟨x,h,hx,_⟩:=T.2 k hk;simp[oU,hx]
 rw[ev]at hv;refine(aq6 (a.queue hq) hv (λy hy=>?_) (by simpa using T.1)).mono ?_
 ·obtain⟨k,hk,rfl⟩:=List.mem_map.1 hy;obtain⟨x,h,hx,zP,hh⟩:=T.2 k hk;obtain⟨l,c,h1,h2,h3⟩:=a.un hh;have hlen:l.length=h.un.length:=by have:=h3.length_eq;simpa using this
  refine⟨?_,A.conn x.id,A.un x.id x.no,A.co x.id x.no,c,x.no,h.r,l,?_,?_,?_⟩
  ·have:=a.cons hx;rw[zP]at this;simpa[oU,hx]using this
  ·simpa[oU,hx]using a.chan hh
  ·exact h1
  ·simp[oU,hx,hh,hlen]
 ·rintro e J ⟨rfl,rfl⟩;refine⟨?_,rfl⟩;rw[aq7];unfold N.vA
  cases hz:((q.cons.filter n.may).find? λk=>decide (k>q.last)).or (q.cons.filter n.may).head? with
  |none=>rfl
  |some k=>
   have hk:k∈q.cons:=by
    cases hf:(q.cons.filter n.may).find? λk=>decide (k>q.last)with
    |some j=>rw[hf,Option.some_or]at hz;cases hz;exact(List.mem_filter.1 (List.mem_of_find?_eq_some hf)).1
    |none=>
     rw[hf,Option.none_or]at hz;obtain⟨l,hl⟩:=List.head?_eq_some_iff.1 hz;have:k∈q.cons.filter n.may:=by rw[hl];simp
     exact(List.mem_filter.1 this).1
   obtain⟨x,h,hx,_⟩:=T.2 k hk;simp[rm,oU,hx]
def Uo {ms:List aM}(a:aq A H n X U)(hq:n.q? nm=some q)(hr:q.ready=m::ms)(hn:ms.length<=1000):
 ay E 90 #[pV (A.queue nm)] U λe J=>e=.returned (.tuple #[m.v,.bool true])/\At A (n.bH nm λq=>{q with ready:=q.ready.tail}) X J:=by
 refine(alh (a.queue hq) (by rw[<-hr];exact a.fw hq) hn).mono ?_;rintro e J ⟨rfl,jj,hm,hle,b,off,UF,n1,n1',c1,vN,e1,e2⟩;refine⟨rfl,H.jO nm jj,?_⟩;have:=a.ajs hq (rv:=jj) (λq=>{q with ready:=q.ready.tail}) rfl (by rw[e1];rfl) (by rw[e2];rfl) (by simp only;rw[hr];exact hm) (by rw[e1,e2];rfl);exact this.le hle
end
variable {U:Hp}
def akD{h:Nat}{Q:FuncId×Value->Hp->Prop}{H:Halt->Hp->Prop}:wpS prog (method (prog.types.size+Made.depth) 185 (pV h) "Take") Q H U=Q (328,pV h) U:=ah
section
variable {E:Env prog}{H:Hid}{n:N}{X:Ext}{U:Hp}{no:Nat}{c:CN}{h:HN}{b:Nat}{e:Nat}{nm:List UInt8}{q:QN}{m:aM}{k:Int}{x:XN}{na:Bool}
variable {A:Lay}{id:Int}
def W7 (n:N)(k:Int)(m:aM):Prop:=∃(x:XN) (c:CN) (h:HN) (q:QN) (fr:Nat),n.x? k=some x/\n.ar x.id=some c/\n.h? x.id x.no=some h/\n.q? x.q=some q/\(0<=h.r.tag/\h.r.tag<=1000000000000)/\(0<=q.held/\q.held<=1000000)/\(∀e∈h.un,(e.1:Int)≠h.r.tag+1)/\
 c.r.frame=(fr:Int)/\(9<=fr/\fr<=1000000)/\x.no<1000000/\c.r.out.length<=100000000000000/\m.body.length<=100000/\m.key.length<=1000/\x.tag.length<=1000
structure I9 (n:N):Prop where
 jF:dV cP (n.aN.map (·.1))
 len:n.aN.length<=12
 vA:∀nm q,n.q? nm=some q->IX n nm q/\q.ready.length<=1000
 take:∀nm q m ms k,n.q? nm=some q->q.ready=m::ms->n.vA q=some k->W7 (n.bH nm λq=>{q with ready:=q.ready.tail,last:=k}) k m
def U3 {f:QN->QN}:(n.bH nm f).aN.map (·.1)=n.aN.map (·.1):=oP n.aN nm f λx=>x
def an5 {na:Bool}:(n.hand id no nm m na).aN.map (·.1)=n.aN.map (·.1):=by
 unfold N.hand;split
 ·rfl
 ·rw[U3];rfl
def an7:(n.take k m).aN.map (·.1)=n.aN.map (·.1):=by
 unfold N.take;split
 ·rfl
 ·exact an5
def an6 {n':N}(h:n.iY nm=some n'):n'.aN.map (·.1)=n.aN.map (·.1):=by
 unfold N.iY at h;split at h
 ·cases h
 ·split at h
  ·cases h
  ·split at h
   ·cases h
   ·cases h;rw[an7,U3]
def ar7 {j:Int}:(n.take k m).x? j=n.x? j:=by
 unfold N.take;split
 ·rfl
 ·simp only[N.give,Wy,Wx]
def apo {f:Nat}(h:n.iY nm=none):n.kI f nm=n:=by
 cases f with
 |zero=>rfl
 |succ f=>unfold N.kI;rw[h]
def apn (hq:n.q? nm=some q){ms:List aM}(hr:q.ready=m::ms)(ht:n.vA q=some k):n.iY nm=some ((n.bH nm λq=>{q with ready:=q.ready.tail,last:=k}).take k m):=by unfold N.iY;simp only[hq,hr,ht]
def U0 {na:Bool}{dm:List UInt8}(h:n.q? dm=some q):∃q',(n.hand id no nm m na).q? dm=some q'/\q'.ready=q.ready:=by
 unfold N.hand;split
 ·exact⟨q,h,rfl⟩
 ·rw[vn];split
  ·exact⟨{q with held:=q.held+1},by rw[H0,h];rfl,rfl⟩
  ·exact⟨q,h,rfl⟩
def an1 (h:n.q? nm=some q):∃q',(n.take k m).q? nm=some q'/\q'.ready=q.ready:=by
 unfold N.take;split
 ·exact⟨q,h,rfl⟩
 ·exact U0 h
def Vu {au2:N->Prop}(hJ:∀n,au2 n->I9 n)(j8:∀n nm n',au2 n->n.iY nm=some n'->au2 n')(a:aq A H n X U)(j:au2 n):
 ay E 54 #[pV A.br] U λe J=>e=.returned (.tuple #[])/\At A n.serve X J/\au2 n.serve:=by
 refine aaJ func54 ntmps54 results54 rfl al λQ aD an aA=>?_;have S:=hJ n j;obtain⟨lq,kq,jv,gP,lX⟩:=a.mq;have Sy:lq.length=n.aN.length:=by have:=lX.length_eq;simpa using this
 obtain⟨nf,zG⟩:∃nf:Nat->List UInt8,∀e∈n.aN,nf (A.queue e.1)=e.1:=by
  refine⟨λb=>((n.aN.find? λe=>decide (A.queue e.1=b)).map (·.1)).getD [],λe he=>?_⟩
  cases hf:n.aN.find? λe'=>decide (A.queue e'.1=A.queue e.1)with
  |none=>have:=List.find?_eq_none.1 hf e he;simp at this
  |some e'=>
   have h1:=List.find?_some hf;simp only[decide_eq_true_eq]at h1;have:=a.inj (.queue e'.1) (.queue e.1) (by have:=yg (List.mem_of_find?_eq_some hf);simpa[view]using this) (by have:=yg he;simpa[view]using this) (by simpa[cI]using h1);injection this with e1;simp only[hf];simpa using e1
 have qZ:=lX.map (·.2);simp only[List.map_map]at qZ;obtain⟨qs,zJ,nN⟩:=Ab qZ (xs:=n.aN.map λe=>A.queue e.1) (f:=ep) (by simp[List.map_map,Function.comp_def,ep])
 have Lp:qB U nf qs:=by intro b hb;obtain⟨e,he,rfl⟩:=List.mem_map.1 (zJ.mem_iff.1 hb);obtain⟨q,hq⟩:=Option.isSome_iff_exists.1 (yg he);exact⟨_,a.tN hq,by simp[zG e he]⟩
 refine ag ?_;refine aK (VK a.uf rfl jv gP.old gP.nd (by rw[Sy];exact S.len) (by simpa[Function.comp_def]using nN) Lp) ?_;rintro v J ⟨hle,v',ys,hv,p1,p2,p3,p4⟩
 cases hv
 have wL:ys=n.aN.map λe=>A.queue e.1:=by
  have e1:ys.map nf=n.aN.map (·.1):=by
   refine Aq wW Jq (((p1.trans zJ).map nf).trans ?_) ?_ S.jF
   ·rw[List.map_map];have:(n.aN.map (nf∘λe=>A.queue e.1))=n.aN.map (·.1):=List.map_congr_left λe he=>zG e he;rw[this]
   ·rw[dV,List.pairwise_map];exact p2
  have e2:ys.map (λb=>A.queue (nf b))=ys:=by
   conv=>rhs;rw[<-List.map_id ys]
   apply List.map_congr_left;intro b hb;obtain⟨e,he,rfl⟩:=List.mem_map.1 ((p1.trans zJ).mem_iff.1 hb);simp[zG e he]
  rw[<-e2];have:=congrArg (List.map A.queue) e1;simpa[List.map_map,Function.comp_def]using this
 subst wL;obtain⟨X',a1,ru⟩:=a.AJ hle p3 p4;obtain⟨base,cap,rfl,_⟩:=p3.read;have hl:(n.aN.map λe=>A.queue e.1).length=n.aN.length:=al;refine aJ hl ?_;refine di (λm I ds ae=>ds=[]/\I 8=.slice base n.aN.length cap/\I 9=iV n.aN.length/\∃(j:Nat) (H':Hid) (n1:N),j+m=n.aN.length/\I 10=iV j/\aq A H' n1 X' ae/\au2 n1/\n1.aN.map (·.1)=n.aN.map (·.1)/\n1=((n.aN.map (·.1)).take j).foldl (λn nm=>n.kI (n.ready nm) nm) n) n.aN.length ?_ ?_
 ·refine⟨rfl,?_,?_,0,H,n,al,?_,a1,j,rfl,rfl⟩<;>exact aQ hl
 rintro m I ds cX Y ⟨rfl,h8,h9,i,H1,n1,xT,bC,a1,j1,jf,uH⟩ hY
 cases m with
 |zero=>
  have c0:¬(i:Int)<n.aN.length:=aa;have xR:i=n.aN.length:=aa;simp only[go_sem,seval,h9,bC,c0,decide_false];have e:n1=n.serve:=by rw[uH,xR,List.take_of_length_le al];rfl
  exact aD dA ao ⟨rfl,⟨H1,by rw[<-e];exact(ru a1).1⟩,by rw[<-e];exact j1⟩
 |succ m=>
  have hi:i<n.aN.length:=aa;have c0:(i:Int)<n.aN.length:=aa;have S1:=hJ n1 j1;obtain⟨_,sj⟩:=ru a1;obtain⟨b2,za,e2,r2⟩:=sj.read;simp only[Value.slice.injEq]at e2;obtain⟨rfl,_,_⟩:=e2;obtain⟨ba,L,rfl,ib,hL⟩:=r2 i (aW hi);simp only[List.getElem_map,ep]at hL;obtain⟨nm,jI⟩:∃nm,nm=n.aN[i].1:=⟨_,rfl⟩;rw[<-jI]at hL
  have Lw:∀n2:N,n2.aN.map (·.1)=n.aN.map (·.1)->(n2.q? nm).isSome:=by
   intro n2 h2;have:nm∈n2.aN.map (·.1):=by rw[h2,jI];exact List.mem_map_of_mem (List.getElem_mem hi)
   obtain⟨e,he,h3⟩:=List.mem_map.1 this;rw[<-h3];exact yg he
  have w1:IntKind.i64.wrap ((i:Int)+1)=((i+1:Nat):Int):=by have:=S.len;rw[wrap64 aa aa];rfl
  simp only[go_sem,seval,h8,h9,bC,c0,decide_true];refine⟨aa,?_⟩;refine bu ib hL ?_;refine di (λm' I ds gA=>ds=[]/\I 3=pV (A.queue nm)/\I 8=.slice (some ⟨ba,0,none⟩) n.aN.length cap/\I 9=iV n.aN.length/\I 10=iV i/\∃(H':Hid) (n2:N),aq A H' n2 X' gA/\au2 n2/\n2.aN.map (·.1)=n.aN.map (·.1)/\n2.ready nm=m'/\n2.kI (n2.ready nm) nm=n1.kI (n1.ready nm) nm) (n1.ready nm) ?_ ?_
  ·refine⟨rfl,?_,?_,?_,?_,H1,n1,a1,j1,jf,rfl,rfl⟩<;>exact nW h8 h9 bC
  rintro m' I ds jm Y2 ⟨rfl,h3,h8,h9,bC,H2,n2,a2,j2,ic,bZ,iH⟩ Kz;have S2:=hJ n2 j2;obtain⟨q,hq⟩:=Option.isSome_iff_exists.1 (Lw n2 ic);obtain⟨T2,Ea⟩:=S2.vA nm q hq;have hrq:n2.ready nm=q.ready.length:=by unfold N.ready;rw[hq];rfl
  obtain⟨rb,rc,ik⟩:=(a2.fw hq).shape;have mJ:=a2.tN hq;rw[ik]at mJ
  have step:∀n3:N,n3=n1.kI (n1.ready nm) nm->n3=((n.aN.map (·.1)).take (i+1)).foldl (λn nm=>n.kI (n.ready nm) nm) n:=by intro n3 h;rw[List.take_succ_eq_append_getElem (aW hi),List.foldl_append,<-uH];simp only[List.getElem_map,List.foldl_cons,List.foldl_nil];rw[<-jI];exact h
  have out:n2.iY nm=none->n2=n1.kI (n1.ready nm) nm:=λh=>by rw[<-iH,apo h]
  cases gK:q.ready with
  |nil=>
   have lW:¬((([]:List aM).length:Nat):Int)>0:=ai;rw[gK]at mJ;have atz:¬((0:Nat):Int)>0:=ai;have e1:n2.iY nm=none:=by unfold N.iY;simp only[hq,gK]
   simp only[go_sem,seval,h3,bC,mJ,List.length_nil,decide_false,w1];refine hY m _ _ _ _ aa ⟨rfl,?_,?_,i+1,H2,n2,aa,?_,a2,j2,ic,step n2 (out e1)⟩ ao
   ·exact aQ h8
   ·exact aQ h9
   ·exact au
  |cons mm ms=>
   have lW:((q.ready.length:Nat):Int)>0:=by rw[gK];simp
   simp only[go_sem,seval,h3,mJ,lW,decide_true];refine aK (aq8 a2 hq T2) ?_;rintro v dB ⟨hv,rfl⟩
   cases ht:n2.vA q with
   |none=>
    rw[ht]at hv
    cases hv
    have e1:n2.iY nm=none:=by unfold N.iY;simp only[hq,gK,ht]
    refine bu bC w1 ?_;refine hY m _ _ _ _ aa ⟨rfl,?_,?_,i+1,H2,n2,aa,?_,a2,j2,ic,step n2 (out e1)⟩ ao
    ·exact aQ h8
    ·exact aQ h9
    ·exact au
   |some k=>
    rw[ht]at hv
    cases hv
    obtain⟨x,c,h,q',fr,hx,hc,hh,bz,t1,t2,t3,t4,t5,t6,t7,t8,t9,t10⟩:=S2.take nm q mm ms k hq gK ht;have rh:n2.x? k=some x:=hx;have a3:=a2.Ih hq (λq=>{q with last:=k}) rfl rfl;rw[ik]at a3;refine bR h3 (a2.vQ rh) mJ ?_;generalize hZ:Hp.set dB (A.queue nm) _=vD;replace a3:=dP a3 hZ;have lX:(n2.bH nm λq=>{q with last:=k}).q? nm=some {q with last:=k}:=by rw[vn,if_pos rfl,hq];rfl
    have uG:ms.length<=1000:=by have:=congrArg List.length gK;simp only[List.length_cons]at this;omega
    refine aK (Uo a3 lX gK uG) ?_;rintro v iu ⟨hv,H4,a4⟩;obtain rfl:v=.tuple #[.agg #[iV mm.seq,sV mm.key,sV mm.body,.bool mm.again],.bool true]:=by injection hv
    rw[Fp]at a4;simp only[go_sem,seval];refineλb5 lV=>?_;simp only[go_sem,seval];rw[Hp.set_set];have a5:=λo=>a4.iR lV o;have x5:=λo=>(a5 o).eK;simp only at x5;have S6:(n2.bH nm λq=>{q with ready:=q.ready.tail,last:=k}).x? k=some x:=hx;have c5:=λo=>(a5 o).vQ S6;refine bG 7 ?_;refine bu c5 x5 ?_;refine ma (t:=185) (v:=pV (A.chan x.id x.no)) (recv:=pV (A.chan x.id x.no)) (f:=328) (name:= "Take") ?_ (λQ H h=>by rw[akD];exact h) ?_
    ·exact au
    refine ag ?_;refine aK (aqW (m:=mm) (a5 _) hx hc hh bz t1 t2 t3 t4 t5 t6 t7 t8 t9 t10) ?_;rintro v xv ⟨hv,a6⟩
    cases hv
    have hs:=apn hq gK ht;have j5:=j8 n2 nm _ j2 hs;have hk5:=(an6 hs).trans ic;obtain⟨q5,wF,er5⟩:=an1 (k:=k) (m:=mm) (n:=n2.bH nm λq=>{q with ready:=q.ready.tail,last:=k}) (q:={q with ready:=q.ready.tail,last:=k}) (nm:=nm) (by rw[vn,if_pos rfl,hq];rfl);have He:N.ready ((n2.bH nm λq=>{q with ready:=q.ready.tail,last:=k}).take k mm) nm=ms.length:=by unfold N.ready;rw[wF];simp[er5,gK]
    have By:n2.ready nm=ms.length+1:=by rw[hrq,gK];rfl
    have uP:((n2.bH nm λq=>{q with ready:=q.ready.tail,last:=k}).take k mm).x? k=some x:=by rw[ar7];exact S6
    have x6:=a6.eK;simp only at x6;refine⟨jg x6 (a6.vQ uP),?_⟩;refine ag ?_;refine Kz ms.length _ _ _ _ aa ⟨rfl,?_,?_,?_,?_,_,_,a6.oW,j5,hk5,He,?_⟩ ao
    ·exact aQ h3
    ·exact aQ h8
    ·exact aQ h9
    ·exact aQ bC
    ·rw[He,<-iH,By];show _=N.kI (ms.length+1) n2 nm
     conv=>rhs;unfold N.kI
     rw[hs]
end
variable {e cl me:Nat}
def Er.ext(er:Er)(b:Nat):Ext:=match er with
 | .nil=>[]
 | .soft e cl me| .cL e cl me=>[(b,ui e cl me)]
def Er.v(er:Er)(b:Nat):Value:=match er with
 | .nil=>.nilIface
 | .soft _ _ _=>.iface 296 (.agg #[pV b])
 | .cL _ _ _=>.iface 214 (pV b)
structure qA (A A':Lay):Prop where
 gw:A'.gw=A.gw
 br:A'.br=A.br
 conn:A'.conn=A.conn
def qA.refl(A:Lay):qA A A:=⟨rfl,rfl,rfl⟩
variable {b:Nat}
def iE(A:Lay)(X:Ext)(n:N)(bf:Nat)(f:FR)(r:HO)(e:Fin)(J:Hp):Prop:=match r with
 | .ok n' er=>∃A' H' b f',e=.returned (er.v b)/\qA A A'/\aq A' H' n' (er.ext b++(bf,bP f')::X) J
 | .bad cl me=>∃H' s,e=.panicked lT/\aq A H' n ((bf,bP {f with s:=s,cl:=cl,me:=me})::X) J
section
variable {E:Env prog}{H:Hid}{n:N}{X:Ext}{U:Hp}{no:Nat}{c:CN}{h:HN}{b:Nat}{e:Nat}{cl:Nat}{me:Nat}{nm:List UInt8}{q:QN}{k:Int}{x:XN}{bf:Nat}{f:FR}{I:av}{ds:List Deferred}{dst:Option Tmp}{nx:av->List Deferred->Hp->Prop}{pn:List PanicEntry->Hp->Prop}
variable {A:Lay}{id:Int}
def aq.fi (a:aq A H n ((bf,bP f)::X) U):U.f bf=some (.cells [iV f.u.kind,iV f.u.channel,sV f.u.ji,.bool f.u.kz,.bool f.u.gm,sV f.s,iV f.cl,iV f.me].toArray 293 (0,0)):=a.eK
def iT {α:Type}{g:FuncId}{args:Array Value}{fv:α->Value}{r:Option (α×List UInt8)}(hg:ck prog g=true)(a:aq A H n ((bf,bP f)::X) U)(h:ay E g args U (rJ U bf 5 f.vals 293 fv r))
 (k:∀v rest J,r=some (v,rest)->aq A H n ((bf,bP {f with s:=rest})::X) J->nx (aB I dst (fv v)) ds J) (kp:r=none->∀s J,aq A H n ((bf,bP {f with s:=s})::X) J->pn lT J):kx E g args U dst I ds nx pn:=
 CK hg h (λv rest hr=>k v rest _ hr (a.vq (bP {f with s:=rest}))) (λhr l=>kp hr l _ (a.vq (bP {f with s:=l})))
def qD (a:aq A H n ((bf,bP f)::X) U)(k:f.s=[]->nx (aB I dst (.tuple #[])) ds U)(kp:f.s≠[]->pn lT U):kx E 229 #[.pointer (some ⟨bf,5,none⟩)] U dst I ds nx pn:=by
 by_cases hs:f.s=[]
 ·refine aT (Qr a.fi (by rw[hs];rfl)) (k hs)
 ·exact PG aed (acF a.fi rfl hs) (kp hs)
def jY {e cl me:Nat}(a:aq A H n ((bf,bP f)::X) U)(aH:f.cl=(cl:Int))(aP:f.me=(me:Int)):
 ay E 189 #[pV bf,iV e] U λe' J=>∃b,e'=.returned ((Er.cL e cl me).v b)/\aq A H n ((Er.cL e cl me).ext b++(bf,bP f)::X) J:=by
 refine(ac3 (e:=(e:Int)) a.eK).mono ?_;rintro e' J ⟨b,rfl,hb,rfl⟩;rw[aH,aP];exact⟨b,rfl,a.iR hb _⟩
def xp {e cl me:Nat}(a:aq A H n ((bf,bP f)::X) U)(aH:f.cl=(cl:Int))(aP:f.me=(me:Int)):
 ay E 266 #[pV bf,.iface 215 (iV e)] U λe' J=>∃b,e'=.returned ((Er.soft e cl me).v b)/\aq A H n ((Er.soft e cl me).ext b++(bf,bP f)::X) J:=by
 refine aX func266 ntmps266 results266 λQ aD an aA=>?_;have hf:=a.fi;rw[aH,aP]at hf;refine ag ?_;refine bG 14 ?_;refine aJ hf ?_;refine⟨dL hf,?_⟩;refine ag ?_;refineλb hb=>?_;have a1:=λo=>a.iR hb o;have f1:=λo=>(a1 o).ext1;simp only[bP,FR.vals,aH,aP]at f1;refine⟨dL f1,?_⟩;refine ag ?_;refine⟨dL f1,?_⟩;exact an aI ao ⟨b,by simp[up,Er.v],a1 _⟩
def J2 (a:aq A H n X U)(hq:n.q? nm=some q):ay E 287 #[pV A.br,sV nm] U λe J=>e=.returned (.tuple #[pV (A.queue nm),.nilIface])/\J=U:=by obtain⟨l,c,h1,h2,h3⟩:=a.mq;obtain⟨st,bw⟩:=sw h2 h3 (List.mem_map_of_mem (f:=λe:List UInt8×QN=>(e.1,pV (A.queue e.1))) (iZ hq));exact adi a.br h1 bw
def J1 (a:aq A H n X U)(hq:n.q? nm=none):ay E 287 #[pV A.br,sV nm] U λe J=>e=.returned (.tuple #[.pointer none,.iface 215 (iV 404)])/\J=U:=by
 obtain⟨l,c,h1,h2,h3⟩:=a.mq;have bw:=map_none h3 (k:=nm) (λe he=>by obtain⟨y,hy,rfl⟩:=List.mem_map.1 he;exact ja hq y hy);refine fR func287 ntmps287 results287 rfl al λQ aD an aA=>?_;simp only[go_sem,seval,a.uf];refine jy (b:=A.mq) (k:=nm) (l:=l) (c:=c) wQ (z:=.pointer none) ah ?_ h1 ?_ ?_
 ·simp only[go_sem,seval]
 ·simp only[go_sem,seval];rfl
 have de:((dq l nm).map (·.2.1)).getD (.pointer none)=.pointer none:=by rw[bw];rfl
 simp only[go_sem,seval,de,Bool.false_eq_true];exact an iO ao ⟨by simp[up],rfl⟩
def anr (a:aq A H n X U)(hq:n.q? nm=some q):ay E 288 #[pV (A.queue nm)] U λe J=>e=.returned (iV q.ready.length)/\At A (n.bH nm λq=>{q with ready:=[]}) X J:=by refine aX func288 ntmps288 results288 λQ aD an aA=>?_;obtain⟨b,c,ik⟩:=(a.fw hq).shape;have hf:=a.tN hq;rw[ik]at hf;refine aJ hf ?_;exact an aI ao ⟨by simp[up],_,a.alP hq (λq=>{q with ready:=[]}) rfl rfl⟩
def ans {cl me:Nat}(a:aq A H n ((bf,bP f)::X) U)(hc:n.ar id=some c)(hh:n.h? id no=some h)(aH:f.cl=(cl:Int))(aP:f.me=(me:Int))(eH:no<1000000)(eS:c.r.out.length<=100000000000000)(jv:∀nm q,n.q? nm=some q->q.ready.length<=1000):
 ay E 269 #[pV (A.chan id no),pV bf] U (iE A X n bf f (n.pE id no f.s cl me)):=by
 refine aX func269 ntmps269 results269 λQ aD an aA=>?_;refine ag ?_;refine iT s8 a (tU a.fi rfl) (λnm rest J hr a1=>?_) (λhr s J a1=>aA _ _ _ _ ao ?_)
 rotate_left
 ·have e:n.pE id no f.s cl me=.bad cl me:=by unfold N.pE;rw[hr]
  rw[e];exact⟨H,s,rfl,by rw[<-aH,<-aP];exact a1⟩
 refine ag ?_;refine qD a1 (λhs=>?_) (λhs=>aA _ _ _ _ ao ?_)
 rotate_left
 ·have e:n.pE id no f.s cl me=.bad cl me:=by
   unfold N.pE;rw[hr];simp only at hs;cases rest with
   |nil=>exact absurd rfl hs
   |cons x l=>rfl
  rw[e];exact⟨H,rest,rfl,by rw[<-aH,<-aP];exact a1⟩
 simp only at hs;subst hs;refine bR (a1.bX hh) (a1.eJ hc) a1.jG ?_
 cases hq:n.q? nm with
 |none=>
  have e:n.pE id no f.s cl me=.ok n (.soft 404 cl me):=by unfold N.pE;rw[hr];simp only[hq]
  refine aT (J1 a1 hq) ?_;refine ag ?_;refine aK (xp (e:=404) a1 aH aP) ?_;rintro v cQ ⟨b,hv,a2⟩
  cases hv
  refine ag ?_;refine an aI ao ?_;rw[e];exact⟨A,H,b,_,by simp[up],.refl A,a2⟩
 |some q=>
  have e:n.pE id no f.s cl me=.ok ((n.bH nm λq=>{q with ready:=[]}).send id (bK no 50 31 [.long q.ready.length])) .nil:=by unfold N.pE;rw[hr];simp only[hq]
  refine aT (J2 a1 hq) ?_;refine ag ?_;refine bG 13 ?_;refine aJ (a1.bX hh) ?_;refine aK (anr a1 hq) ?_;rintro v cQ ⟨hv,H2,a2⟩
  cases hv
  have fE:(n.bH nm λq=>{q with ready:=[]}).h? id no=some h:=hh;have dX:(n.bH nm λq=>{q with ready:=[]}).ar id=some c:=hc;refine⟨by(repeat(first|exact jL|(apply jK;(focus decide+kernel))|(refine lF rfl (aQ (a2.bX fE)) ?_))),?_⟩;refine ag ?_;refineλbn cE=>?_;have a3:=λo=>a2.fresh cE o;have f3:=λo=>(a3 o).bX fE;refine⟨dL f3,?_⟩;refine ag ?_;have Ea:=jv nm q hq;refine aK (pS (ch:=no) (cl:=50) (me:=31) (xs:=[.long q.ready.length]) (a3 _) dX (.inr ⟨bn,rfl,aZ⟩) ?_ al aa ai ai (by simp[dg,eI,bJ]) aa) ?_
  ·simp[lh];omega
  rintro v iu ⟨hv,a4⟩
  cases hv
  have Le:((n.bH nm λq=>{q with ready:=[]}).send id (bK no 50 31 [.long q.ready.length])).h? id no=some h:=by rw[pZ];exact fE
  refine⟨by(repeat(first|exact jL|(apply jK;(focus decide+kernel))|(refine lF rfl (aQ (a4.bX Le)) ?_))),?_⟩;refine ag ?_;refine an aI ao ?_;rw[e];exact⟨A,H2,0,_,by simp[up,Er.v],.refl A,a4⟩
end
section
variable {E:Env prog}{H:Hid}{n:N}{X:Ext}{U:Hp}{no:Nat}{c:CN}{h:HN}{b:Nat}{e:Nat}{cl:Nat}{me:Nat}{q:QN}{k:Int}{x:XN}{bf:Nat}{f:FR}{I:av}
variable {A:Lay}{id:Int}
def abx (f:List UInt8×Int->Value)(tg:List UInt8)(co:List (List UInt8×Int)):((co.map λe=>(e.1,f e)).filter λe=>decide (e.1≠tg))=(cC co tg).map λe=>(e.1,f e):=by unfold cC;rw[List.filter_map];congr 1
def aaO {cl me:Nat}(a:aq A H n ((bf,bP f)::X) U)(hc:n.ar id=some c)(hh:n.h? id no=some h)(aH:f.cl=(cl:Int))(aP:f.me=(me:Int))(eH:no<1000000)(eS:c.r.out.length<=100000000000000)
 (hk:∀tg k,bq h.co tg=some k->FE n k) (hs:f.s.length<=1000000):
 ay E 271 #[pV (A.chan id no),pV bf] U (iE A X n bf f (n.qE id no h f.s cl me)):=by
 refine aX func271 ntmps271 results271 λQ aD an aA=>?_;refine ag ?_;refine iT s8 a (tU a.fi rfl) (λtg rest J hr a1=>?_) (λhr s J a1=>aA _ _ _ _ ao ?_)
 rotate_left
 ·have e:n.qE id no h f.s cl me=.bad cl me:=by unfold N.qE;rw[hr]
  rw[e];exact⟨H,s,rfl,by rw[<-aH,<-aP];exact a1⟩
 refine ag ?_;refine qD a1 (λhs=>?_) (λhs=>aA _ _ _ _ ao ?_)
 rotate_left
 ·have e:n.qE id no h f.s cl me=.bad cl me:=by
   unfold N.qE;rw[hr];simp only at hs;cases rest with
   |nil=>exact absurd rfl hs
   |cons x l=>rfl
  rw[e];exact⟨H,rest,rfl,by rw[<-aH,<-aP];exact a1⟩
 simp only at hs;subst hs;have e:n.qE id no h f.s cl me=.ok ((n.rF id no h tg).send id (bK no 60 31 [.text tg])) .nil:=by unfold N.qE;rw[hr]
 have htl:tg.length<=1000000:=by
  unfold jB fu at hr;split at hr
  ·simp only[Option.bind_some,yv]at hr;split at hr
   ·simp only[Option.some.injEq,Prod.mk.injEq]at hr;rw[<-hr.1,List.length_take,List.length_drop];omega
   ·cases hr
  ·cases hr
 obtain⟨l,kk,fY,ig,iA⟩:=a1.co hh
 have tail:∀{H2:Hid} {n2:N} {cQ:Hp} {I:av} {h2:HN} {c2:CN},aq A H2 n2 ((bf,bP {f with s:=[]})::X) cQ->n2.h? id no=some h2->n2.ar id=some c2->c2.r.out.length<=100000000000000->n2=n.rF id no h tg->I 0=pV (A.chan id no)->I 5=sV tg->
  cO E 52 (bO (aR (aR (aR (aR (f271.body.getD .skip)))))) (lK (cO E 52 (aR (aR (aR (aR (aR (f271.body.getD .skip)))))) Q) Q) I [] cQ:=by
  intro H2 n2 cQ I h2 c2 a2 fE dX zI xW h0 h5;simp only[f271,Option.getD_some,aR,bO];refine bG 12 ?_;refine bR h0 h5 (a2.bX fE) ?_;refineλbn cE=>?_;have a3:=λo=>a2.fresh cE o;have f3:=λo=>(a3 o).bX fE;refine⟨dL f3,?_⟩;refine ag ?_;refine aK (pS (ch:=no) (cl:=60) (me:=31) (xs:=[.text tg]) (a3 _) dX (.inr ⟨bn,rfl,aZ⟩) (by simp[lh]) al aa ai ai (by simp[dg,eI,bJ];omega) aa) ?_;rintro v iu ⟨hv,a4⟩
  cases hv
  have f4:=a4.bX (h:=h2) (by rw[pZ];exact fE);refine⟨dF h0 h5 f4,?_⟩;refine ag ?_;refine an aI ao ?_;rw[e,<-xW];exact⟨A,H2,0,_,by simp[up,Er.v],.refl A,a4⟩
 refine aJ (a1.bX hh) ?_;refine jy (b:=A.co id no) (k:=tg) (l:=l) (c:=kk) zV (z:=.pointer none) ah ?_ fY ?_ ?_
 ·exact au
 ·exact au
 rw[if_neg Bool.false_ne_true]
 cases hg:bq h.co tg with
 |none=>
  have de:((dq l tg).map (·.2.1)).getD (.pointer none)=.pointer none:=by rw[map_none iA (k:=tg) (λe he=>by obtain⟨y,hy,rfl⟩:=List.mem_map.1 he;exact ja hg y hy)];rfl
  rw[de];refine ag ?_;refine tail a1 hh hc eS (by unfold N.rF;rw[hg]) ?_ ?_
  ·exact au
  ·exact au
 |some k=>
  obtain⟨st,bw⟩:=sw ig iA (List.mem_map_of_mem (f:=λe:List UInt8×Int=>(e.1,pV (A.cons e.2))) (iZ hg));have de:((dq l tg).map (·.2.1)).getD (.pointer none)=pV (A.cons k):=by rw[bw];rfl
  obtain⟨x,q,hx,hq,Ea,pk⟩:=hk tg k hg;rw[de];refine bR (a1.bX hh) (a1.eJ hc) a1.jG ?_;refine aK (PL a1 pk hx hq Ea) ?_;rintro v cQ ⟨hv,H2,a2⟩
  cases hv
  have fE:(n.cancel k).h? id no=some h:=by rw[RG];exact hh
  obtain⟨l2,k2,pg,uF,zD⟩:=a2.co fE;refine aJ (a2.bX fE) ?_;refine CY (b:=A.co id no) (k:=tg) (l:=l2) (c:=k2) zV uF.uniq ?_ pg ?_ ?_
  ·exact au
  ·exact au
  obtain⟨d1,d2⟩:=EI uF zD tg;have a3:=a2.Nc fE (λh=>{h with co:=cC h.co tg}) rfl rfl (o:=aV bU (sx l2 tg) k2) ⟨_,_,rfl,d1,by simp only;rw[<-abx (f:=λe=>pV (A.cons e.2)) (tg:=tg)];exact d2⟩;refine ag ?_;refine tail a3 (h2:={h with co:=cC h.co tg}) (c2:={c with ch:=dE c.ch no λh=>{h with co:=cC h.co tg}}) (by simp[hh]) (by simp[hc]) eS (by unfold N.rF;rw[hg]) ?_ ?_
  ·exact au
  ·exact au
end
section
variable {E:Env prog}{H:Hid}{n:N}{X:Ext}{U:Hp}{no:Nat}{c:CN}{h:HN}{b:Nat}{e:Nat}{cl:Nat}{me:Nat}{nm:List UInt8}{q:QN}{m:aM}{x:XN}{na:Bool}{bf:Nat}{f:FR}{I:av}{ds:List Deferred}
variable {A:Lay}{id:Int}
def amT {w:Nat}{s:List UInt8}{r:Nat×List UInt8}(h:fu w s=some r):r.2.length+w=s.length:=by
 unfold fu at h;split at h
 ·cases h;simp;omega
 ·cases h
def amU {s:List UInt8}{r:List UInt8×List UInt8}(h:jB s=some r):r.1.length+r.2.length+1=s.length:=by
 unfold jB at h;obtain⟨x,h1,h2⟩:=Option.bind_eq_some_iff.1 h;have:=amT h1;unfold yv at h2;split at h2
 ·cases h2;simp;omega
 ·cases h2
def IZ (n:N)(h:HN):Prop:=(0<=h.r.tag/\h.r.tag<=1000000000000)/\(∀e∈h.un,(e.1:Int)≠h.r.tag+1)/\∀nm q,n.q? nm=some q->(0<=q.held/\q.held<=1000000)/\q.ready.length<=1000/\∀m∈q.ready,m.body.length<=100000/\m.key.length<=1000
def adS {cl me fr:Nat}(a:aq A H n ((bf,bP f)::X) U)(hc:n.ar id=some c)(hh:n.h? id no=some h)(aH:f.cl=(cl:Int))(aP:f.me=(me:Int))(eH:no<1000000)(eS:c.r.out.length<=100000000000000)
 (gJ:c.r.frame=(fr:Int)) (f1:9<=fr/\fr<=1000000) (G:IZ n h):
 ay E 272 #[pV (A.chan id no),pV bf] U (iE A X n bf f (n.get id no f.s cl me)):=by
 refine aX func272 ntmps272 results272 λQ aD an aA=>?_;refine ag ?_;refine yF [0,1,2,4,5,6,3,7,8,9] (λch ds U=>ds=[]/\(iE A X n bf f (n.get id no f.s cl me)) (.panicked ch) U) ah jb (λch I ds U h=>by obtain⟨rfl,h⟩:=h;exact aA _ _ _ _ ao h) ?_;refine ag ?_;refine iT s8 a (tU a.fi rfl) (λnm s1 J hr a1=>?_) (λhr s J a1=>⟨rfl,?_⟩)
 rotate_left
 ·have e:n.get id no f.s cl me=.bad cl me:=by unfold N.get;rw[hr]
  rw[e];exact⟨H,s,rfl,by rw[<-aH,<-aP];exact a1⟩
 refine gf ?_;refine ag ?_;refine iT Kd a1 (J4 a1.fi rfl) (λna s2 fA bZ a2=>?_) (λbZ s J a2=>⟨rfl,?_⟩)
 rotate_left
 ·have e:n.get id no f.s cl me=.bad cl me:=by unfold N.get;rw[hr];simp only[bZ]
  rw[e];exact⟨H,s,rfl,by rw[<-aH,<-aP];exact a2⟩
 simp only at bZ;refine gf ?_;refine ag ?_;refine qD a2 (λhs=>?_) (λhs=>aA _ _ _ _ ao ?_)
 rotate_left
 ·have e:n.get id no f.s cl me=.bad cl me:=by
   unfold N.get;rw[hr];simp only[bZ];simp only at hs;cases s2 with
   |nil=>exact absurd rfl hs
   |cons x l=>rfl
  rw[e];exact⟨H,s2,rfl,by rw[<-aH,<-aP];exact a2⟩
 simp only at hs;subst hs;obtain⟨g1,g2,g3⟩:=G;refine bR (a2.bX hh) (a2.eJ hc) a2.jG ?_
 cases hq:n.q? nm with
 |none=>
  have e:n.get id no f.s cl me=.ok n (.soft 404 cl me):=by unfold N.get;rw[hr];simp only[bZ,hq]
  refine aT (J1 a2 hq) ?_;refine ag ?_;refine aK (xp (e:=404) a2 aH aP) ?_;rintro v cQ ⟨b,hv,a3⟩
  cases hv
  refine ag ?_;refine an aI ao ?_;rw[e];exact⟨A,H,b,_,by simp[up],.refl A,a3⟩
 |some q=>
  obtain⟨q1,q2,q3⟩:=g3 nm q hq;refine aT (J2 a2 hq) ?_;refine ag ?_
  cases gK:q.ready with
  |nil=>
   have e:n.get id no f.s cl me=.ok (n.send id (bK no 60 72 [])) .nil:=by unfold N.get;rw[hr];simp only[bZ,hq,gK]
   obtain⟨rb,rc,ik⟩:=(a2.fw hq).shape;have mJ:=a2.queue hq;rw[ik,gK]at mJ;refine aK (ali (b:=rb) (c:=rc) mJ) ?_;rintro v cQ ⟨hv,hle⟩;obtain rfl:v=.tuple #[.agg #[iV 0,sV [],sV [],.bool false],.bool false]:=by injection hv
   simp only[go_sem,seval];refineλb9 pd=>?_;simp only[go_sem,seval];rw[Hp.set_set];have a3:=λo=>(a2.le hle).fresh pd o;have f3:=λo=>(a3 o).bX hh;refine bG 9 ?_;refine aJ f3 ?_;refine aK (pS (ch:=no) (cl:=60) (me:=72) (xs:=[]) (a3 _) hc (.inl ⟨rfl,rfl⟩) al al aa ai ai (by simp[dg]) aa) ?_;rintro v iu ⟨hv,a4⟩
   cases hv
   have f4:=a4.bX (h:=h) (by rw[pZ];exact hh);refine⟨dL f4,?_⟩;refine ag ?_;refine an aI ao ?_;rw[e];exact⟨A,H,0,_,by simp[up,Er.v],.refl A,a4⟩
  |cons m ms=>
   obtain⟨tg,Bz⟩:∃tg:Nat,h.r.tag=(tg:Int):=⟨h.r.tag.toNat,aa⟩;have JW:h.r.tag+1=((tg+1:Nat):Int):=aa;have uG:ms.length<=1000:=by have:=congrArg List.length gK;simp only[List.length_cons]at this;omega
   obtain⟨m1,m2⟩:=q3 m (by rw[gK];simp);refine aK (Uo a2 hq gK uG) ?_;rintro v cQ ⟨hv,H3,a3⟩;obtain rfl:v=.tuple #[.agg #[iV m.seq,sV m.key,sV m.body,.bool m.again],.bool true]:=by injection hv
   simp only[go_sem,seval];refineλb9 pd=>?_;simp only[go_sem,seval];rw[Hp.set_set];have a4:=λo=>a3.iR pd o;have x4:=λo=>(a4 o).eK;simp only at x4;have lX:(n.bH nm λq=>{q with ready:=q.ready.tail}).q? nm=some {q with ready:=q.ready.tail}:=by rw[vn,if_pos rfl,hq];rfl
   have zu:(n.bH nm λq=>{q with ready:=q.ready.tail}).h? id no=some h:=hh;have lv:(n.bH nm λq=>{q with ready:=q.ready.tail}).ar id=some c:=hc;refine ag ?_;refine aK (RU (m:=m) (na:=na) (a4 _) zu lX g1 q1 g2) ?_;rintro v gB ⟨hv,a5⟩;obtain rfl:v=iV ((tg+1:Nat):Int):=by rw[<-JW];injection hv
   generalize hN:n.bH nm (λq=>{q with ready:=q.ready.tail})=n3 at a5 lX zu lv;obtain⟨c6,iz,s6⟩:=P5 (n:=n3) (no:=no) (nm:=nm) (m:=m) (na:=na) lv;obtain⟨h6,pf,eh6⟩:=RH (n:=n3) (nm:=nm) (m:=m) (na:=na) zu;obtain⟨q6,uM,eq6⟩:=U0 (n:=n3) (id:=id) (no:=no) (nm:=nm) (m:=m) (na:=na) lX;have SN:q6.ready.length=ms.length:=by rw[eq6];simp[gK]
   have x5:=a5.eK;simp only at x5;refine ag ?_;refine bG 21 ?_;refine bu (a5.bX pf) x5 ?_;obtain⟨rb,rc,ik⟩:=(a5.fw uM).shape;have SL:=a5.queue uM;rw[ik]at SL;refine aT (M6 SL) ?_;refine⟨by(repeat(first|exact jL|(apply jK;(focus decide+kernel))|(refine lF rfl (xu (a5.bX pf) x5) ?_))),?_⟩;refine ag ?_;refineλbn cE=>?_;have a7:=λo=>a5.fresh cE o;have x7:=λo=>(a7 o).eK;simp only at x7;have h7:=λo=>(a7 o).bX pf;refine⟨dL h7,?_⟩;refine ag ?_;refine aK (pS (ch:=no) (cl:=60) (me:=71) (xs:=[.mM (tg+1),.flag m.again,.text m.key,.long ms.length]) (a7 _) iz (.inr ⟨bn,by rw[<-SN];rfl,by rw[<-SN];exact Hp.bD _ _⟩) ?_ al aa ai ai ?_ (by rw[s6];omega)) ?_
   ·simp[lh];omega
   ·simp[dg,eI,bJ];omega
   rintro v Cq ⟨hv,a8⟩
   cases hv
   have afH:(bK no 60 71 [.mM (tg+1),.flag m.again,.text m.key,.long ms.length]).length<=3000:=by rw[JA];simp[dg,eI,bJ];omega
   generalize hS:bK no 60 71 [.mM (tg+1),.flag m.again,.text m.key,.long ms.length]=S at a8 afH;have DL:((n3.hand id no nm m na).send id S).h? id no=some h6:=by rw[pZ];exact pf
   have zp:((n3.hand id no nm m na).send id S).ar id=some {c6 with r:={c6.r with out:=c6.r.out++S,iq:=(n3.hand id no nm m na).clock}}:=by rw[sZ,if_pos rfl,iz];rfl
   have x8:=a8.eK;simp only at x8;have h8:=a8.bX DL;have f8:=a8.eJ zp;simp only[s6,gJ]at f8;refine⟨jg h8 x8,?_⟩;refine ag ?_;refine bG 19 ?_;refine bR h8 x8 f8 ?_;refine aT (P8 (ch:=no) (size:=fr) (body:=m.body) aa f1.1 f1.2 aa) ?_;refine⟨dL h8,?_⟩;refine ag ?_
   have afM:(mv no m.body fr).length<=1000000:=by unfold mv;have:=US no (fr-8) aa m.body.length m.body (Nat.le_refl _);simp only[List.length_append,kP,bJ];omega
   refine aK (Na (s:=mv no m.body fr) a8 zp (by simp only[List.length_append,s6];omega)) ?_;rintro v vD ⟨hv,a9⟩
   cases hv
   have x9:=a9.eK;simp only at x9;have Lf:(((n3.hand id no nm m na).send id S).send id (mv no m.body fr)).h? id no=some h6:=by rw[pZ];exact DL
   obtain⟨c9,Dx,JS⟩:∃c9,(((n3.hand id no nm m na).send id S).send id (mv no m.body fr)).ar id=some c9/\c9.r.frame=fr:=by rw[sZ,if_pos rfl,zp];exact⟨_,rfl,by simp only;rw[s6];exact gJ⟩
   have h9:=a9.bX Lf;have f9:=a9.eJ Dx;rw[JS]at f9;refine⟨dF h9 x9 f9,?_⟩;refine ag ?_;refine an aI ao ?_
   have e:n.get id no f.s cl me=.ok (((n3.hand id no nm m na).send id S).send id (mv no m.body fr)) .nil:=by
    unfold N.get;rw[hr];have e1:n.tag id no=tg:=by unfold N.tag;rw[hh];simp[Bz]
    have e2:(n3.hand id no nm m na).frame id=fr:=by unfold N.frame;rw[iz];simp[s6,gJ]
    simp only[bZ,hq,gK,N.give,e1,hN,e2,hS]
   rw[e];exact⟨A,H3,0,_,by simp[up,Er.v],.refl A,a9.oW⟩
end
section
variable {E:Env prog}{H:Hid}{n:N}{X:Ext}{U:Hp}{no:Nat}{c:CN}{h:HN}{b:Nat}{e:Nat}{cl:Nat}{me:Nat}{nm:List UInt8}{q:QN}{m:aM}{k:Int}{x:XN}{bf:Nat}{f:FR}{I:av}{ds:List Deferred}{nx:av->List Deferred->Hp->Prop}{pn:List PanicEntry->Hp->Prop}
variable {A:Lay}{id:Int}
def tD (tag:Nat)(many:Bool)(t:Nat):Bool:=decide (t=tag)||(many&&(decide (t<tag)||decide (tag=0)))
def apt {p:Nat->Bool}{b:Bool}{l:List (Nat×(List UInt8×aM))}{j:Nat}(hj:j<l.length):n.jP id no p b (l.take (j+1))=if p l[j].1 then(n.jP id no p b (l.take j)).settle id no l[j].1 b else n.jP id no p b (l.take j):=by unfold N.jP;rw[List.take_succ_eq_append_getElem hj,List.foldl_append];rfl
structure IW (n:N) (id:Int) (no:Nat) (h:HN) (p:Nat->Bool) (b:Bool):Prop where
 nd:(h.un.map (·.1)).Nodup
 sep:tZ h.un
 len:h.un.length<=1000
 step:∀l e,e∈h.un->(∀x∈l,¬x.1=e.1)->p e.1=true->IV (n.jP id no p b l) id no e
def apw {cl me:Nat}(a:aq A H n ((bf,bP f)::X) U)(hh:n.h? id no=some h)(aH:f.cl=(cl:Int))(aP:f.me=(me:Int))
 (S:∀tag many b,IW n id no h (tD tag many) b):
 ay E 273 #[pV (A.chan id no),pV bf] U (iE A X n bf f (n.settled id no h f.s cl me)):=by
 refine aX func273 ntmps273 results273 λQ aD an aA=>?_;refine ag ?_;refine yF [0,1,2,4,5,6,8,9,10,3,7,11,12,13,14] (λch ds U=>ds=[]/\(iE A X n bf f (n.settled id no h f.s cl me)) (.panicked ch) U) ah jb (λch I ds U h=>by obtain⟨rfl,h⟩:=h;exact aA _ _ _ _ ao h) ?_;refine ag ?_;refine iT oj a (oG (w:=4) a.fi rfl ai) (λhigh s1 J hr a1=>?_) (λhr s J a1=>⟨rfl,?_⟩)
 rotate_left
 ·have e:n.settled id no h f.s cl me=.bad cl me:=by unfold N.settled;rw[hr]
  rw[e];exact⟨H,s,rfl,by rw[<-aH,<-aP];exact a1⟩
 refine gf ?_;refine ag ?_;refine iT oj a1 (oG (w:=4) a1.fi rfl ai) (λtag s2 fA bZ a2=>?_) (λbZ s J a2=>⟨rfl,?_⟩)
 rotate_left
 ·have e:n.settled id no h f.s cl me=.bad cl me:=by unfold N.settled;rw[hr];simp only[bZ]
  rw[e];exact⟨H,s,rfl,by rw[<-aH,<-aP];exact a2⟩
 simp only at bZ;refine gf ?_;refine ag ?_;refine iT Kd a2 (J4 a2.fi rfl) (λflag s3 cQ eN a3=>?_) (λeN s J a3=>⟨rfl,?_⟩)
 rotate_left
 ·have e:n.settled id no h f.s cl me=.bad cl me:=by unfold N.settled;rw[hr];simp only[bZ,eN]
  rw[e];exact⟨H,s,rfl,by rw[<-aH,<-aP];exact a3⟩
 simp only at eN;refine gf ?_;refine ag ?_;refine qD a3 (λhs=>?_) (λhs=>aA _ _ _ _ ao ?_)
 rotate_left
 ·have e:n.settled id no h f.s cl me=.bad cl me:=by
   unfold N.settled;rw[hr];simp only[bZ,eN];simp only at hs;cases s3 with
   |nil=>exact absurd rfl hs
   |cons x l=>rfl
  rw[e];exact⟨H,s3,rfl,by rw[<-aH,<-aP];exact a3⟩
 simp only at hs;subst hs;obtain⟨mX,Dq⟩:∃mX:Bool,mX=decide (me=80):=⟨_,rfl⟩;obtain⟨xr,Hh⟩:∃b:Bool,b=(bq h.un tag).isSome:=⟨_,rfl⟩;obtain⟨back,RX⟩:∃b:Bool,b=(!mX&&flag):=⟨_,rfl⟩
 have loop:∀(I:av) (J:Hp) (H1:Hid) (many:Bool),many=(mX&&flag)->aq A H1 n ((bf,bP {f with s:=[]})::X) J->I 0=pV (A.chan id no)->I 6=iV tag->I 7=.bool flag->I 8=.bool mX->I 11=.bool many->
  ((decide (high=0)&&xr)||(many&&decide (high=0)&&decide (tag=0)))=true->
  cO E 104 (aR (aR (aR (aR (aR (aR (aR (aR (f273.body.getD .skip))))))))) Q I [] J:=by
  intro I J H1 many DZ a4 h0 h6 h7 h8 bT gq
  have e:n.settled id no h f.s cl me=.ok (n.jP id no (tD tag many) back h.un) .nil:=by
   unfold N.settled;rw[hr];simp only[bZ,eN];have c1:(decide (high=0)&&(bq h.un tag).isSome||decide (me=80)&&flag&&decide (high=0)&&decide (tag=0))=true:=by rw[<-Hh,<-Dq,<-DZ];exact gq
   rw[if_pos c1];have c2:decide (me≠80)= !mX:=by rw[Dq];simp
   rw[c2,<-RX,<-Dq,<-DZ];rfl
  simp only[f273,Option.getD_some,aR];obtain⟨lu,ku,xZ,zM,yc⟩:=a4.un hh;have zC:lu.length=h.un.length:=by have:=yc.length_eq;simpa using this
  have SS:=S tag many back;refine bu h0 (a4.bX hh) ?_;refine aK (VJ xZ zM.old zM.nd (by rw[zC];exact SS.len)) ?_;rintro v gB ⟨uE,v',ys,hv,p1,_,p3,p4⟩
  cases hv
  obtain⟨ts,wI,rfl⟩:=Ab (p1.trans (by have:=yc.map (·.1);simpa[List.map_map,Function.comp_def]using this)) (xs:=h.un) (f:=λe=>((e.1:Nat):Int)) rfl;have hl:=wI.length_eq;obtain⟨X2,a5,Ai⟩:=a4.AJ uE p3 p4;obtain⟨CI,rL,rfl,_⟩:=p3.read;have ig:(ts.map λe=>((e.1:Nat):Int)).length=ts.length:=al;refine aJ ig ?_;refine di (λm I ds ae=>ds=[]/\I 0=pV (A.chan id no)/\I 6=iV tag/\I 7=.bool flag/\I 8=.bool mX/\I 11=.bool many/\I 74=.slice CI ts.length rL/\I 75=iV ts.length/\∃(j:Nat) (H':Hid),j+m=ts.length/\I 76=iV j/\aq A H' (n.jP id no (tD tag many) back (ts.take j)) X2 ae) ts.length ?_ ?_
  ·refine⟨rfl,?_,?_,?_,?_,?_,?_,?_,0,H1,al,?_,a5⟩<;>exact Iu h0 h6 h7 h8 bT ig
  clear h0 h6 h7 h8 bT;rintro m I ds dx Y ⟨rfl,h0,h6,h7,h8,bT,ur,tb,j,H5,xT,rR,aj⟩ hY;have w1:IntKind.i64.wrap ((j:Int)+1)=((j+1:Nat):Int):=by have:=SS.len;rw[wrap64 aa aa];rfl
  cases m with
  |zero=>
   have c0:¬(j:Int)<ts.length:=aa;have wB:j=ts.length:=aa;rw[wB,List.take_length]at aj;simp only[go_sem,seval,tb,rR,c0,decide_false];refine an aI ao ?_;rw[e,<-VA wI λg hg=>by cases hh.symm.trans hg;exact SS.sep];exact⟨A,H5,0,_,by simp[up,Er.v],.refl A,(Ai aj).1⟩
  |succ m=>
   have hj:j<ts.length:=aa;have c0:(j:Int)<ts.length:=aa;obtain⟨_,sj⟩:=Ai aj;obtain⟨b2,za,e2,r2⟩:=sj.read;simp only[Value.slice.injEq]at e2;obtain⟨rfl,_,_⟩:=e2;obtain⟨ba,L,rfl,ib,hL⟩:=r2 j (aW hj);simp only[List.getElem_map,aY]at hL;obtain⟨t,ht⟩:∃t,t=ts[j].1:=⟨_,rfl⟩;rw[<-ht]at hL;have LC:=apt (n:=n) (id:=id) (no:=no) (p:=tD tag many) (b:=back) hj;rw[<-ht]at LC;have can:=SS.step (ts.take j) ts[j] (wI.mem_iff.1 (List.getElem_mem hj)) (HM ((wI.map (·.1)).nodup_iff.2 SS.nd) hj);rw[<-ht]at can;refine dU λK1 mB=>?_;simp only[go_sem,seval,tb,rR,c0,decide_true];refine mB _ _ _ (dU λK2 nB=>?_);refine ag ?_;refine nB _ _ _ (dU λK3 pb=>Ck (dU λK4 qO=>?_));refine bu ur rR ?_;refine⟨aa,?_⟩;refine bu ib hL ?_;refine qO _ _ _ (dU λK5 vZ=>?_)
   have go:∀(aC:av) (v:Bool),v=tD tag many t->aC 94=.bool v->aC 13=iV t->aC 0=pV (A.chan id no)->aC 6=iV tag->aC 7=.bool flag->aC 8=.bool mX->aC 11=.bool many->aC 74=.slice (some ⟨ba,0,none⟩) ts.length rL->aC 75=iV ts.length->aC 76=iV j->K5 aC [] dx:=by
    clear h0 h6 h7 h8 bT ur tb rR;intro aC v hv Rq mz h0 h6 h7 h8 bT ur tb rR;refine vZ _ _ _ ?_
    cases v with
    |false=>
     refine aJ Rq ?_;refine pb _ _ _ ?_;refine bu rR w1 ?_;refine hY m _ _ _ _ aa ⟨rfl,?_,?_,?_,?_,?_,?_,?_,j+1,H5,aa,?_,by rw[LC,<-hv,if_neg Bool.false_ne_true];exact aj⟩ ao<;>exact Iv h0 h6 h7 h8 bT ur tb
    |true=>
     obtain⟨h',q,ei,iB,hq,b1,AP,hs⟩:=can hv.symm;rw[<-ht]at iB;subst RX
     cases mX
     all_goals
      simp only[go_sem,seval,Rq,h0,h7,h8,mz,Bool.not_true,Bool.not_false];refine aK (VB (nm:=ts[j].2.1) (m:=ts[j].2.2) (tag:=t) aj ei iB hq b1 AP hs) ?_;rintro v2 cQ ⟨l8,H2,a2⟩
      cases l8
      refine ag ?_;refine pb _ _ _ ?_;refine bu rR w1 ?_;refine hY m _ _ _ _ aa ⟨rfl,?_,?_,?_,?_,?_,?_,?_,j+1,H2,aa,?_,by rw[LC,<-hv,if_pos rfl];exact a2⟩ ao<;>exact Iv h0 h6 h7 h8 bT ur tb
   by_cases d1:t=tag
   ·have s5:(t:Int)=tag:=aa;simp only[go_sem,seval,h6,eq_true s5,decide_true];refine go _ true (by simp[tD,d1]) ?_ ?_ ?_ ?_ ?_ ?_ ?_ ?_ ?_ ?_<;>exact sI h0 h6 h7 h8 bT ur tb rR
   have s5:¬(t:Int)=tag:=aa
   cases hm:many with
   |false=>
    rw[hm]at go bT;simp only[go_sem,seval,h6,bT,s5,decide_false];refine go _ false (by simp[tD,d1]) ?_ ?_ ?_ ?_ ?_ ?_ ?_ ?_ ?_ ?_<;>exact sI h0 h6 h7 h8 bT ur tb rR
   |true=>
    rw[hm]at go bT;by_cases d2:t<tag
    ·have xA:(t:Int)<tag:=aa;simp only[go_sem,seval,h6,bT,s5,xA,decide_true,decide_false];refine go _ true (by simp[tD,d2]) ?_ ?_ ?_ ?_ ?_ ?_ ?_ ?_ ?_ ?_<;>exact sI h0 h6 h7 h8 bT ur tb rR
    have xA:¬(t:Int)<tag:=aa;by_cases d3:tag=0
    ·have JK:(tag:Int)=0:=aa;simp only[go_sem,seval,h6,bT,s5,xA,eq_true JK,decide_true,decide_false];refine go _ true (by simp[tD,d3]) ?_ ?_ ?_ ?_ ?_ ?_ ?_ ?_ ?_ ?_<;>exact sI h0 h6 h7 h8 bT ur tb rR
    ·have JK:¬(tag:Int)=0:=aa;simp only[go_sem,seval,h6,bT,s5,xA,JK,decide_false];refine go _ false (by simp[tD,d1,d2,d3]) ?_ ?_ ?_ ?_ ?_ ?_ ?_ ?_ ?_ ?_<;>exact sI h0 h6 h7 h8 bT ur tb rR
 have fail:(!(decide (high=0)&&xr)&& !(mX&&flag&&decide (high=0)&&decide (tag=0)))=true->n.settled id no h f.s cl me=.ok n (.soft 406 cl me):=by
  intro hf;unfold N.settled;rw[hr];simp only[bZ,eN]
  have c1:¬(decide (high=0)&&(bq h.un tag).isSome||decide (me=80)&&flag&&decide (high=0)&&decide (tag=0))=true:=by rw[<-Hh,<-Dq];intro hc;rcases Bool.or_eq_true_iff.1 hc with hc|hc<;>simp only[hc,Bool.not_true,Bool.false_and,Bool.and_false]at hf<;>cases hf
  rw[if_neg c1]
 have r7:∀(I:av) (J:Hp) (H1:Hid) (many there:Bool),many=(mX&&flag)->there=(decide (high=0)&&xr)->aq A H1 n ((bf,bP {f with s:=[]})::X) J->I 0=pV (A.chan id no)->I 1=pV bf->I 5=iV high->I 6=iV tag->I 7=.bool flag->I 8=.bool mX->I 10=.bool there->I 11=.bool many->
  cO E 104 (aR (aR (aR (aR (aR (aR (aR (f273.body.getD .skip)))))))) Q I [] J:=by
  intro I J H1 many there DZ Hk a4 h0 h1 h5 h6 h7 h8 bC bT;have lp:=λaC k0 k6 k7 k8 wP gq=>loop aC J H1 many DZ a4 k0 k6 k7 k8 wP gq;simp only[f273,Option.getD_some,aR]at lp|-;refine dU λK hK=>?_;have yk:∀aC,aC 0=I 0->aC 6=I 6->aC 7=I 7->aC 8=I 8->aC 11=I 11->((decide (high=0)&&xr)||(many&&decide (high=0)&&decide (tag=0)))=true->K aC [] J:=λaC k0 k6 k7 k8 wP gq=>hK _ _ _ (lp aC (by rw[k0,h0]) (by rw[k6,h6]) (by rw[k7,h7]) (by rw[k8,h8]) (by rw[wP,bT]) gq);clear lp hK
  cases there with
  |true=>
   simp only[go_sem,seval,bC,Bool.not_true];refine yk _ ?_ ?_ ?_ ?_ ?_ (by rw[<-Hk];rfl)<;>exact au
  |false=>
   have bad:∀{aC:av} {nx:av->List Deferred->Hp->Prop} {pn:List PanicEntry->Hp->Prop} {d:Option Tmp},(many&&decide (high=0)&&decide (tag=0))=false->(∀b cQ,aq A H1 n ((Er.soft 406 cl me).ext b++(bf,bP {f with s:=[]})::X) cQ->iE A X n bf f (n.settled id no h f.s cl me) (.returned ((Er.soft 406 cl me).v b)) cQ->nx (aB aC d ((Er.soft 406 cl me).v b)) [] cQ)->kx E 266 #[pV bf,.iface 215 (iV 406)] J d aC [] nx pn:=by
    intro aC nx pn d hb k;refine aK (xp (e:=406) a4 aH aP) ?_;rintro v cQ ⟨b,hv,a5⟩
    cases hv
    refine k b cQ a5 ?_;rw[fail (by rw[<-Hk,<-DZ,hb];rfl)];exact⟨A,H1,b,_,rfl,.refl A,a5⟩
   cases hm:many with
   |false=>
    rw[hm]at bT;simp only[go_sem,seval,h1,bC,bT,Bool.not_false];refine bad (by rw[hm];rfl) λb cQ a5 fp=>?_;refine ag ?_;exact an aI ao (by simpa[up]using fp)
   |true=>
    rw[hm]at bT;by_cases d1:high=0
    ·have s5:(high:Int)=0:=aa;by_cases d2:tag=0
     ·have xA:(tag:Int)=0:=aa;simp only[go_sem,seval,h5,h6,bC,bT,Bool.not_false,Bool.not_true,eq_true s5,eq_true xA,decide_true];refine yk _ ?_ ?_ ?_ ?_ ?_ (by rw[hm,d1,d2];simp)<;>exact au
     ·have xA:¬(tag:Int)=0:=aa;simp only[go_sem,seval,h1,h5,h6,bC,bT,Bool.not_false,eq_true s5,xA,decide_true,decide_false];refine bad (by simp[d2]) λb cQ a5 fp=>?_;refine ag ?_;exact an aI ao (by simpa[up]using fp)
    ·have s5:¬(high:Int)=0:=aa;simp only[go_sem,seval,h1,h5,bC,bT,Bool.not_false,s5,decide_false];refine bad (by simp[d1]) λb cQ a5 fp=>?_;refine ag ?_;exact an aI ao (by simpa[up]using fp)
 have r6:∀(I:av) (J:Hp) (H1:Hid) (there:Bool),there=(decide (high=0)&&xr)->aq A H1 n ((bf,bP {f with s:=[]})::X) J->I 0=pV (A.chan id no)->I 1=pV bf->I 5=iV high->I 6=iV tag->I 7=.bool flag->I 8=.bool mX->I 10=.bool there->
  cO E 104 (aR (aR (aR (aR (aR (aR (f273.body.getD .skip))))))) Q I [] J:=by
  intro I J H1 there Hk a4 h0 h1 h5 h6 h7 h8 bC;have lp:=λaC many hm k0 k1 k5 k6 k7 k8 wO wP=>r7 aC J H1 many there hm Hk a4 k0 k1 k5 k6 k7 k8 wO wP;simp only[f273,Option.getD_some,aR]at lp|-;refine dU λK hK=>?_;have yk:∀aC many,many=(mX&&flag)->aC 0=I 0->aC 1=I 1->aC 5=I 5->aC 6=I 6->aC 7=I 7->aC 8=I 8->aC 10=I 10->aC 11=.bool many->K aC [] J:=λaC many hm k0 k1 k5 k6 k7 k8 wO wP=>hK _ _ _ (lp aC many hm (by rw[k0,h0]) (by rw[k1,h1]) (by rw[k5,h5]) (by rw[k6,h6]) (by rw[k7,h7]) (by rw[k8,h8]) (by rw[wO,bC]) wP);clear lp hK
  cases mX with
  |true=>
   refine bu h7 h8 ?_;refine yk _ flag rfl ?_ ?_ ?_ ?_ ?_ ?_ ?_ ?_<;>exact au
  |false=>
   refine aJ h8 ?_;refine yk _ false rfl ?_ ?_ ?_ ?_ ?_ ?_ ?_ ?_<;>exact au
 have r5:∀(I:av) (J:Hp) (H1:Hid),aq A H1 n ((bf,bP {f with s:=[]})::X) J->I 0=pV (A.chan id no)->I 1=pV bf->I 5=iV high->I 6=iV tag->I 7=.bool flag->I 8=.bool mX->I 10=.bool xr->
  cO E 104 (aR (aR (aR (aR (aR (f273.body.getD .skip)))))) Q I [] J:=by
  intro I J H1 a4 h0 h1 h5 h6 h7 h8 bC;have lp:=λaC there hm k0 k1 k5 k6 k7 k8 wO=>r6 aC J H1 there hm a4 k0 k1 k5 k6 k7 k8 wO;simp only[f273,Option.getD_some,aR]at lp|-;refine dU λK hK=>?_;have yk:∀aC there,there=(decide (high=0)&&xr)->aC 0=I 0->aC 1=I 1->aC 5=I 5->aC 6=I 6->aC 7=I 7->aC 8=I 8->aC 10=.bool there->K aC [] J:=λaC there hm k0 k1 k5 k6 k7 k8 wO=>hK _ _ _ (lp aC there hm (by rw[k0,h0]) (by rw[k1,h1]) (by rw[k5,h5]) (by rw[k6,h6]) (by rw[k7,h7]) (by rw[k8,h8]) wO);clear lp hK;have ez:decide ((high:Int)=0)=decide (high=0):=al
  cases Eg:xr with
  |true=>
   rw[Eg]at bC;refine bu h5 bC ?_;refine yk _ (decide ((high:Int)=0)) (by rw[ez,Eg,Bool.and_true]) ?_ ?_ ?_ ?_ ?_ ?_ ?_<;>exact au
  |false=>
   rw[Eg]at bC;refine aJ bC ?_;refine yk _ false (by rw[Eg,Bool.and_false]) ?_ ?_ ?_ ?_ ?_ ?_ ?_<;>exact au
 show cO E 104 (aR (aR (aR (f273.body.getD .skip)))) Q _ [] _;simp only[f273,Option.getD_some,aR]at r5|-;refine dU λK hK=>?_;have eme:decide ((me:Int)=80)=mX:=by rw[Dq];simp;omega
 have Sh:=a3.fi;rw[aP]at Sh;refine aJ Sh ?_;refine hK _ _ _ (dU λK4 qO=>?_);clear hK;obtain⟨lu,ku,xZ,zM,yc⟩:=a3.un hh;refine aJ (a3.bX hh) ?_;refine jy (b:=A.un id no) (k:=(tag:Int)) (l:=lu) (c:=ku) BK (z:=.agg #[.pointer none,iV 0,sV [],sV [],.bool false]) ah ?_ xZ ?_ ?_
 ·exact au
 ·exact au
 have de:∃x1 x2 x3 x4 x5,((dq lu (tag:Int)).map (·.2.1)).getD (.agg #[.pointer none,iV 0,sV [],sV [],.bool false])=.agg #[.pointer x1,iV x2,sV x3,sV x4,.bool x5]/\(dq lu (tag:Int)).isSome=xr:=by
  cases hg:bq h.un tag with
  |none=>
   have:=map_none yc (k:=(tag:Int)) (λe he=>by obtain⟨y,hy,rfl⟩:=List.mem_map.1 he;exactλe2=>ja hg y hy (by simp only at e2;omega));rw[this];exact⟨none,0,[],[],false,rfl,by rw[Hh,hg];rfl⟩
  |some v=>
   obtain⟨st,bw⟩:=sw zM yc (List.mem_map_of_mem (f:=λe:Nat×(List UInt8×aM)=>((e.1:Int),uB (A.queue e.2.1) e.2.2)) (iZ hg));rw[bw];exact⟨some ⟨A.queue v.1,0,none⟩,v.2.seq,v.2.key,v.2.body,v.2.again,rfl,by rw[Hh,hg];rfl⟩
 obtain⟨x1,x2,x3,x4,x5,hv1,l8⟩:=de;rw[if_pos rfl,hv1,l8];refine ag ?_;refineλb9 pd=>?_;refine ag ?_;refine qO _ _ _ (r5 _ _ H ?_ ?_ ?_ ?_ ?_ ?_ ?_ ?_)
 ·first|exact a3.fresh pd _|(rw[Hp.set_set];exact a3.fresh pd _)
 all_goals simp only[go_sem,seval,eme]
end
def Ey(r:Nat):Bool:=(decide (97<=r)&&decide (r<=122))||(decide (65<=r)&&decide (r<=90))
def xB(r:Nat):Bool:=decide (48<=r)&&decide (r<=57)
def qp(r:Nat):Bool:=decide (r<128)&&(Ey r||(xB r||(decide (r=46)||(decide (r=95)||decide (r=45)))))
def aqQ:∀r:_root_.Fin 128,(decide (¬CG IntKind.u8 (Go.Lib.propertiesTab.getD r.val 0) 96=0))=Ey r.val:=jb
def UG(b:UInt8):okB b=qp b.toNat:=by unfold okB qp Ey xB;rw[Bool.eq_iff_iff];simp only[Bool.or_eq_true,Bool.and_eq_true,decide_eq_true_eq];omega
variable {s:List UInt8}{p:Nat}
def ab4(hp:p<s.length)(h:s[p].toNat<128):Utf8.decode (B s) p=(s[p].toNat,1):=by
 have e:((B s).get! (p+0)).toNat=s[p].toNat:=by simp[B,ByteArray.get!,hp]
 unfold Utf8.decode;simp only[e];rw[if_pos h]
def decode_high(hp:p<s.length)(h:¬s[p].toNat<128):128<=(Utf8.decode (B s) p).1:=by
 have e:((B s).get! (p+0)).toNat=s[p].toNat:=by simp[B,ByteArray.get!,hp]
 have re:128<=Utf8.runeError:=ai;unfold Utf8.decode;simp only[e];rw[if_neg h];split
 ·split
  ·assumption
  ·exact re
 ·split
  ·split
   ·rename_i h1;simp only[Bool.and_eq_true,decide_eq_true_eq,ge_iff_le]at h1|-;omega
   ·exact re
  ·split
   ·split
    ·rename_i h1;simp only[Bool.and_eq_true,decide_eq_true_eq,ge_iff_le]at h1|-;omega
    ·exact re
   ·exact re
variable {E:Env prog}{f:FR}{L:List Value}{r:Nat}
def akj(hr:r<128)(hp:U.f 1=some (.cells L.toArray 396 (0,0)))(hq:L[r]? =some (.int .u8 (Go.Lib.propertiesTab.getD r 0))):ay E 300 #[.int .i32 r] U λe J=>e=.returned (.bool (Ey r))/\J=U:=by
 refine fR func300 ntmps300 results300 rfl al λQ aD an aA=>?_
 have w1:IntKind.u32.wrap (r:Int)=r:=by have:((r:Int) % 4294967296)=r:=aa;simpa[IntKind.wrap,IntKind.bits,IntKind.signed]using this
 have w2:IntKind.u8.wrap (r:Int)=r:=by have:((r:Int) % 256)=r:=aa;simpa[IntKind.wrap,IntKind.bits,IntKind.signed]using this
 have c1:(r:Int)<=255:=aa;simp only[go_sem,seval,w1,w2,c1,decide_true];refine aib (e:=5) (n:=256) (b:=1) (k:=.u8) (j:=r) ah (ie:=t5) ah ah ?_ ?_ aa aa ah ?_
 ·exact au
 ·exact au
 simp only[go_sem,seval,hp,Int.toNat_natCast,hq];refine an aI ao ⟨?_,rfl⟩;simp only[up,if_true];rw[aqQ ⟨r,hr⟩]
def ace(hr:r<128):ay E 301 #[.int .i32 r] U λe J=>e=.returned (.bool (xB r))/\J=U:=by
 refine fR func301 ntmps301 results301 rfl al λQ aD an aA=>?_;have c1:(r:Int)<=255:=aa;by_cases h:48<=r
 ·have h':(48:Int)<=r:=aa;have e:decide ((r:Int)<=57)=xB r:=by unfold xB;simp[h];omega
  simp only[go_sem,seval,c1,h',decide_true,e];exact an aI ao ⟨by simp[up],rfl⟩
 ·have h':¬(48:Int)<=r:=aa;have e:xB r=false:=by unfold xB;simp[h]
  simp only[go_sem,seval,c1,h',decide_true,decide_false];exact an aI ao ⟨by simp[up,e],rfl⟩
def TJ(hp:U.f 1=some (.cells L.toArray 396 (0,0)))(hq:∀i<128,L[i]? =some (.int .u8 (Go.Lib.propertiesTab.getD i 0))):ay E 299 #[.int .i32 r] U λe J=>e=.returned (.bool (qp r))/\J=U:=by
 refine fR func299 ntmps299 results299 rfl al λQ aD an aA=>?_;by_cases hr:r<128
 ·have c1:(r:Int)<=127:=aa;simp only[go_sem,seval,c1,decide_true];refine aT (akj hr hp (hq r hr)) ?_
  cases hl:Ey r with
  |true=>
   have e:qp r=true:=by simp[qp,hr,hl]
   refine ag ?_;exact an aI ao ⟨by simp[up,e],rfl⟩
  |false=>
   refine ag ?_;refine aT (ace hr) ?_
   cases hd:xB r with
   |true=>
    have e:qp r=true:=by simp[qp,hr,hd]
    refine ag ?_;exact an aI ao ⟨by simp[up,e],rfl⟩
   |false=>
    have e:qp r=(decide (r=46)||(decide (r=95)||decide (r=45))):=by simp[qp,hr,hl,hd]
    by_cases h1:r=46
    ·have rP:(r:Int)=46:=aa;simp only[go_sem,seval,eq_true rP,decide_true];exact an aI ao ⟨by rw[e];simp[up,h1],rfl⟩
    ·have rP:¬(r:Int)=46:=aa;by_cases h2:r=95
     ·have lr:(r:Int)=95:=aa;simp only[go_sem,seval,rP,eq_true lr,decide_true,decide_false];exact an aI ao ⟨by rw[e];simp[up,h2],rfl⟩
     ·have lr:¬(r:Int)=95:=aa;have e3:decide ((r:Int)=45)=decide (r=45):=by simp;omega
      simp only[go_sem,seval,rP,lr,decide_false,e3];exact an aI ao ⟨by simp[up,e,h1,h2],rfl⟩
 ·have c1:¬(r:Int)<=127:=aa;have e:qp r=false:=by simp[qp,hr]
  simp only[go_sem,seval,c1,decide_false];exact an aI ao ⟨by simp[up,e],rfl⟩
def ak2(hp:U.f 1=some (.cells L.toArray 396 (0,0)))(hq:∀i<128,L[i]? =some (.int .u8 (Go.Lib.propertiesTab.getD i 0))):ay E 298 #[sV s] U λe J=>e=.returned (.bool (named s))/\J=U:=by
 refine fR func298 ntmps298 results298 rfl al λQ aD an aA=>?_;refine ag ?_;refine aop (s:=s) ah ?_ ?_
 ·exact au
 intro it hit;have n1:¬1=it:=bj hit hp;have hle:∀o,U.le (U.set it o):=λo=>kG hit;refine ag ?_;refine di (λm I ds ae=>ds=[]/\I 0=sV s/\I 6=pV it/\∃p:Nat,p+m=s.length/\(∀b∈s.take p,okB b=true)/\ae=U.set it (.stringIter (B s) p)) s.length ?_ ?_
 ·refine⟨rfl,?_,?_,0,al,al,rfl⟩<;>exact au
 ·rintro m I ds ae X ⟨rfl,h0,h6,p,Bv,gq,rfl⟩ hX
  cases m with
  |succ m=>
   have se:p<s.length:=aa;refine ag ?_;refine Ul (s:=s) (pos':=p) h6 aZ (λ_=>?_) (λh=>absurd se h);rw[Hp.set_set];by_cases hb:s[p].toNat<128
   ·rw[ab4 se hb];refine ag ?_;refine aT (TJ (by rw[Hp.az n1];exact hp) hq) ?_;rw[<-UG]
    cases ho:okB s[p]with
    |true=>
     simp only[go_sem,seval,Bool.not_true];refine hX m _ _ _ _ aa ⟨rfl,?_,?_,p+1,aa,?_,rfl⟩ ao
     ·exact aQ h0
     ·exact aQ h6
     ·intro b hb;rw[List.take_succ_eq_append_getElem se,List.mem_append]at hb;rcases hb with hb|hb
      ·exact gq b hb
      ·rw[List.mem_singleton.1 hb];exact ho
    |false=>
     have e:named s=false:=by
      unfold named;have:s.all okB=false:=by rw[List.all_eq_false];exact⟨s[p],List.getElem_mem se,by simp[ho]⟩
      rw[this,Bool.and_false]
     simp only[go_sem,seval,Bool.not_false];exact an (J:=U) aI (hle _) ⟨by simp[up,e],rfl⟩
   ·have hr:=decode_high se hb;obtain⟨rr,Ed⟩:∃rr,rr=(Utf8.decode (B s) p).1:=⟨_,rfl⟩;rw[<-Ed]at hr|-;refine ag ?_;refine aT (TJ (by rw[Hp.az n1];exact hp) hq) ?_;have e1:qp rr=false:=by unfold qp;rw[decide_eq_false aa];rfl
    have e:named s=false:=by
     unfold named
     have:s.all okB=false:=by rw[List.all_eq_false];refine⟨s[p],List.getElem_mem se,?_⟩;rw[UG];unfold qp;rw[decide_eq_false hb];simp
     rw[this,Bool.and_false]
    rw[e1];simp only[go_sem,seval,Bool.not_false];exact an (J:=U) aI (hle _) ⟨by simp[up,e],rfl⟩
  |zero=>
   refine ag ?_;refine Ul (s:=s) (pos':=p) h6 aZ (λh=>absurd h aa) (λ_=>?_);have lU:s.all okB=true:=by rw[List.all_eq_true];rw[List.take_of_length_le aa]at gq;exact gq
   by_cases h1:s=[]
   ·have e:named s=false:=by unfold named;simp[h1]
    simp only[go_sem,seval,h0,eq_true h1,decide_true];exact an (J:=U) aI (hle _) ⟨by simp[up,e],rfl⟩
   ·have e:named s=decide ((s.length:Int)<=16):=by unfold named;rw[lU];simp[h1];omega
    refine bu h0 h1 ?_;exact an (J:=U) aI (hle _) ⟨by simp[up,e],rfl⟩
variable {I:av}{ds:List Deferred}{dst:Option Tmp}{nx:av->List Deferred->Hp->Prop}{pn:List PanicEntry->Hp->Prop}{P:Program}{ty:TypeId}{pos:String}{af:Array Edge}{g:Option (Nat×Bool)}{E:Env P}
def Qv{t u d:TypeId}{x y:Operand}{i j:Int}{k:IntKind}{inf:TypeInfo}(hu:∃ms,P.underlying t=some (.interface ms))(hd:P.underlying d=some (.int k))(hi:P.info? d=some inf)(hc:inf.comparable=true)(hx:ak I x=.iface d (iV i))(hy:ak I y=.iface d (iV j))(h:nx (aB I dst (.bool (decide (i=j)))) ds U):wpOp E ⟨dst,.binOp .eql t x y u,ty,pos,af,g⟩ I ds U nx pn:=by
 unfold wpOp;simp only[execOp,hx,hy,aG];refine zd ?_ ⟨al,al⟩;unfold binOp;simp only[aG,bt];obtain⟨ms,hu⟩:=hu;show wpS P (Op.equalIn (9998+1+1) t _ _) _ _ U;unfold Op.equalIn;simp only[aG,eu,hu,ne_eq,not_true_eq_false,if_false,gl,hi,hc,Bool.not_true,Bool.false_eq_true];unfold Op.equalIn;simp only[aG,eu,hd,if_true,bt];have e:(i==j)=decide (i=j):=by by_cases h:i=j<;>simp[h]
 rw[e];exact h
section
variable {E:Env prog}{H:Hid}{n:N}{X:Ext}{U:Hp}{c:CN}{b:Nat}{e:Nat}{nm:List UInt8}{q:QN}{k:Int}{x:XN}{f:FR}
variable {A:Lay}{id:Int}
def ab2 (a:aq A H n X U)(w:Wf n):
 ay E 286 #[pV A.br,sV nm] U λe J=>(∃q,n.q? nm=some q/\e=.returned (.tuple #[pV (A.queue nm),.nilIface])/\J=U)\/
  (n.q? nm=none/\named nm=false/\e=.returned (.tuple #[.pointer none,.iface 215 (iV 502)])/\aq A H n X J)\/
  (n.q? nm=none/\named nm=true/\n.aN.length=8/\e=.returned (.tuple #[.pointer none,.iface 215 (iV 506)])/\aq A H n X J)\/
  (n.q? nm=none/\named nm=true/\n.aN.length≠8/\∃b H',e=.returned (.tuple #[pV b,.nilIface])/\aq (A.tQ nm b) H' {n with aN:=da cP n.aN nm ⟨[],0,0,[]⟩} X J):=by
 refine aX func286 ntmps286 results286 λQ aD an aA=>?_;obtain⟨l,k,h1,h2,h3⟩:=a.mq;have hlen:l.length=n.aN.length:=by have:=h3.length_eq;simpa using this
 refine aJ a.uf ?_;refine jy (b:=A.mq) (k:=nm) (l:=l) (c:=k) wQ (z:=.pointer none) ah ?_ h1 ?_ ?_
 ·exact au
 ·exact au
 rw[if_neg Bool.false_ne_true]
 cases hq:n.q? nm with
 |some q=>
  obtain⟨st,bw⟩:=sw h2 h3 (List.mem_map_of_mem (f:=λe:List UInt8×QN=>(e.1,pV (A.queue e.1))) (iZ hq));have de:((dq l nm).map (·.2.1)).getD (.pointer none)=pV (A.queue nm):=by rw[bw];rfl
  rw[de];refine ag ?_;exact an iO ao (.inl ⟨q,hq,by simp[up],rfl⟩)
 |none=>
  have bw:=map_none h3 (k:=nm) (λe he=>by obtain⟨y,hy,rfl⟩:=List.mem_map.1 he;exact ja hq y hy);have de:((dq l nm).map (·.2.1)).getD (.pointer none)=.pointer none:=by rw[bw];rfl
  rw[de];refine ag ?_;refine aT (ak2 a.b1 A.tab) ?_
  cases jI:named nm with
  |false=>
   simp only[go_sem,seval,Bool.not_false];exact an iO ao (.inr (.inl ⟨hq,jI,by simp[up],a⟩))
  |true=>
   simp only[go_sem,seval,Bool.not_true,a.uf];refine HF wQ ?_ h1 ?_
   ·exact au
   by_cases h8:n.aN.length=8
   ·have Kj:(l.length:Int)=8:=aa;simp only[go_sem,seval,eq_true Kj,decide_true];exact an iO ao (.inr (.inr (.inl ⟨hq,jI,h8,by simp[up],a⟩)))
   ·have Kj:¬(l.length:Int)=8:=aa;simp only[go_sem,seval,Kj,decide_false];refineλb hb=>?_;have a1:=λo=>a.fresh hb o;have f1:=λo=>(a1 o).uf;refine aJ f1 ?_;refine BO (b:=A.mq) (k:=nm) wQ h2.uniq ?_ (kG hb _ _ h1) ?_ ?_
    ·exact au
    ·exact au
    obtain⟨d1,d2⟩:=EJ h2 h3 (k:=nm) (λe he=>by obtain⟨y,hy,rfl⟩:=List.mem_map.1 he;exact ja hq y hy) (pV b);refine ag ?_;refine an iO ao (.inr (.inr (.inr ⟨hq,jI,h8,b,_,by simp[up],a.alg w hq hb ⟨_,_,rfl,d1,?_⟩⟩)));refine d2.trans (List.Perm.symm ?_);refine((vH (lt:=cP) n.aN nm ⟨[],0,0,[]⟩).map _).trans ?_;simp only[List.map_cons,Lay.tQ,if_true];refine List.Perm.cons _ (List.Perm.of_eq (List.map_congr_left λe he=>?_));rw[if_neg (λx=>by have:=ja hq e he;exact this x)]
end
section
variable {E:Env prog}{H:Hid}{n:N}{X:Ext}{U:Hp}{no:Nat}{c:CN}{h:HN}{b:Nat}{e:Nat}{cl:Nat}{me:Nat}{nm:List UInt8}{q:QN}{k:Int}{x:XN}{bf:Nat}{f:FR}{I:av}
variable {A:Lay}{id:Int}
def ah0 (d:Option TypeDesc):Array (String×TypeId):=match d with|some (.interface ms)=>ms|_=>#[]
def Th:∃ms,prog.underlying 45=some (.interface ms):=⟨ah0 (prog.underlying 45),ah⟩
def aqY {s:List UInt8}{r:List UInt8×List UInt8}(h:jB s=some r):r.1.length<=s.length:=by have:=amU h;omega
def ab3 {cl me:Nat}(a:aq A H n ((bf,bP f)::X) U)(w:Wf n)(hc:n.ar id=some c)(hh:n.h? id no=some h)(aH:f.cl=(cl:Int))(aP:f.me=(me:Int))(eH:no<1000000)(eS:c.r.out.length<=100000000000000)(jJ:f.s.length<=1000000)
 (jv:∀nm q,n.q? nm=some q->q.ready.length<=1000/\q.cons.length<=1000000):
 ay E 268 #[pV (A.chan id no),pV bf] U (iE A X n bf f (n.declare id no f.s cl me)):=by
 refine aX func268 ntmps268 results268 λQ aD an aA=>?_;refine ag ?_;refine iT s8 a (tU a.fi rfl) (λnm rest J hr a1=>?_) (λhr s J a1=>aA _ _ _ _ ao ?_)
 rotate_left
 ·have e:n.declare id no f.s cl me=.bad cl me:=by unfold N.declare;rw[hr]
  rw[e];exact⟨H,s,rfl,by rw[<-aH,<-aP];exact a1⟩
 refine ag ?_;refine qD a1 (λhs=>?_) (λhs=>aA _ _ _ _ ao ?_)
 rotate_left
 ·have e:n.declare id no f.s cl me=.bad cl me:=by
   unfold N.declare;rw[hr];simp only at hs;cases rest with
   |nil=>exact absurd rfl hs
   |cons x l=>rfl
  rw[e];exact⟨H,rest,rfl,by rw[<-aH,<-aP];exact a1⟩
 simp only at hs;subst hs;have htl:nm.length<=1000000:=by have:=aqY hr;simp only at this;omega
 have tail:∀{A1:Lay} {H1:Hid} {n1:N} {fA:Hp} {I:av} {q1:QN},aq A1 H1 n1 ((bf,bP {f with s:=[]})::X) fA->qA A A1->n1.h? id no=some h->n1.ar id=some c->n1.q? nm=some q1->q1.ready.length<=1000->q1.cons.length<=1000000->
  n.declare id no f.s cl me=.ok (n1.send id (bK no 50 11 [.text nm,.long q1.ready.length,.long q1.cons.length])) .nil->I 0=pV (A1.chan id no)->I 5=sV nm->I 6=pV (A1.queue nm)->
  cO E 60 (bO (aR (aR (aR (aR (aR (f268.body.getD .skip))))))) (lK (cO E 60 (aR (aR (aR (aR (aR (aR (f268.body.getD .skip))))))) Q) Q) I [] fA:=by
  intro A1 H1 n1 fA I q1 a2 hk fE dX gP By Dy e h0 h5 h6;simp only[f268,Option.getD_some,aR,bO];obtain⟨rb,rc,ik⟩:=(a2.fw gP).shape;obtain⟨cb,cc,j7,_⟩:=(show Sl 186 fA ((q1.cons.map A1.cons).map pV) _ by rw[List.map_map];exact a2.ix gP).read;simp only[List.length_map]at j7;have mJ:=a2.queue gP;rw[ik,j7]at mJ;refine AW [0,1,2,3,4,5,6,7,8,9,10,13,11,12,14,15,16,17] ?_;refine fV h0 h5 h6 (a2.bX fE) ?_;refine aT (M6 mJ) ?_;refine⟨by(repeat(first|exact jL|(apply jK;(focus decide+kernel))|(refine lF rfl (aQ (a2.bX fE)) ?_))),?_⟩;refine ag ?_;refine aT (P7 mJ) ?_;refine⟨by(repeat(first|exact jL|(apply jK;(focus decide+kernel))|(refine lF rfl (aQ (a2.bX fE)) ?_))),?_⟩;refine ag ?_;refineλbn cE=>?_;have a3:=λo=>a2.fresh cE o;have f3:=λo=>(a3 o).bX fE;refine⟨dL f3,?_⟩;refine ag ?_;refine aK (pS (ch:=no) (cl:=50) (me:=11) (xs:=[.text nm,.long q1.ready.length,.long q1.cons.length]) (a3 _) dX (.inr ⟨bn,rfl,aZ⟩) ?_ al aa ai ai ?_ aa) ?_
  ·simp[lh];omega
  ·simp[dg,eI,bJ];omega
  rintro v iu ⟨hv,a4⟩
  cases hv
  have f4:=a4.bX (h:=h) (by rw[pZ];exact fE);refine⟨kg4 h0 h5 h6 f4,?_⟩;refine ag ?_;refine an aI ao ?_;rw[e];exact⟨A1,H1,0,_,by simp[up,Er.v],hk,a4⟩
 refine bR (a1.bX hh) (a1.eJ hc) a1.jG ?_;refine dH aep (ab2 a1 w) ?_ (λch ae h=>by rcases h with⟨_,_,h,_⟩|⟨_,_,h,_⟩|⟨_,_,_,h,_⟩|⟨_,_,_,_,_,h,_⟩<;>cases h);rintro v cQ (⟨q,hq,hv,rfl⟩|⟨hq,jI,hv,a2⟩|⟨hq,jI,Lo,hv,a2⟩|⟨hq,jI,Lo,b,H2,hv,a2⟩)
 ·cases hv
  obtain⟨l1,l2⟩:=jv nm q hq;refine ag ?_;refine tail a1 (.refl A) hh hc hq l1 l2 (by unfold N.declare;rw[hr];simp only[hq]) ?_ ?_ ?_<;>exact au
 ·cases hv
  have e:n.declare id no f.s cl me=.ok n (.cL 502 cl me):=by unfold N.declare;rw[hr];simp only[hq,jI,if_true]
  refine ag ?_;refine Qv (d:=215) (i:=502) (j:=502) (k:=.i64) (inf:=t215) Th ah ah ah ?_ ?_ ?_
  ·exact au
  ·exact au
  simp only[go_sem,seval,decide_true];refine aK (jY (e:=502) a2 aH aP) ?_;rintro v dB ⟨b,hv,a3⟩
  cases hv
  refine ag ?_;refine an aI ao ?_;rw[e];exact⟨A,H,b,_,by simp[up],.refl A,a3⟩
 ·cases hv
  have e:n.declare id no f.s cl me=.ok n (.soft 506 cl me):=by unfold N.declare;rw[hr];simp only[hq,jI,Lo];rfl
  refine ag ?_;refine Qv (d:=215) (i:=506) (j:=502) (k:=.i64) (inf:=t215) Th ah ah ah ?_ ?_ ?_
  ·exact au
  ·exact au
  refine ag ?_;refine aK (xp (e:=506) a2 aH aP) ?_;rintro v dB ⟨b,hv,a3⟩
  cases hv
  refine ag ?_;refine an aI ao ?_;rw[e];exact⟨A,H,b,_,by simp[up],.refl A,a3⟩
 ·cases hv
  have e:n.declare id no f.s cl me=.ok (({n with aN:=da cP n.aN nm ⟨[],0,0,[]⟩}:N).send id (bK no 50 11 [.text nm,.long 0,.long 0])) .nil:=by unfold N.declare;rw[hr];simp only[hq,jI];rw[if_neg al,if_neg Lo]
  refine ag ?_;refine tail (A1:=A.tQ nm b) (q1:=⟨[],0,0,[]⟩) a2 ⟨rfl,rfl,rfl⟩ hh hc ?_ al al e ?_ ?_ ?_
  ·show bq (da cP n.aN nm ⟨[],0,0,[]⟩) nm=_;rw[yX _ _ _ _ hq,if_pos rfl]
  ·exact au
  ·exact au
  ·simp only[go_sem,seval,Lay.tQ]
end
section
variable {H:Hid}{n:N}{X:Ext}{U:Hp}{no:Nat}{h:HN}{e:Nat}{q:QN}{k:Int}{x:XN}
variable {A:Lay}
def aq.acY (a:aq A H n ((A.cons k,ln (A.chan x.id x.no) k x.tag (A.queue x.q) x.fG)::X) U)(hk:n.x? k=none):aq A H {n with xs:=n.xs++[(k,x)]} X U:=by
 have S8:∀i,N.x? {n with xs:=n.xs++[(k,x)]} i=if i=k then some x else n.x? i:=by
  intro i;unfold N.x? bq;simp only[List.find?_append,List.find?_cons,List.find?_nil];by_cases e:i=k
  ·subst e;have:(n.xs.find? λe=>decide (e.1=i))=none:=by unfold N.x? bq at hk;simpa using hk
   simp[this]
  ·have e2:¬k=i:=λz=>e z.symm;simp[e2,e]
 have key:∀r,∃r',view {n with xs:=n.xs++[(k,x)]} A H X r=view n A H ((A.cons k,ln (A.chan x.id x.no) k x.tag (A.queue x.q) x.fG)::X) r'/\cI A H X r=cI A H ((A.cons k,ln (A.chan x.id x.no) k x.tag (A.queue x.q) x.fG)::X) r'/\
  ((r=.cons k/\r'=.ext 0)\/(∃i,r=.ext i/\r'=.ext (i+1))\/(r'=r/\(∀i,r≠.ext i)/\r≠.cons k)):=by
  intro r;by_cases e1:r=.cons k
  ·exact⟨.ext 0,by subst e1;simp[view,S8],by subst e1;simp[cI],.inl ⟨e1,rfl⟩⟩
  ·by_cases e2:∃i,r=.ext i
   ·obtain⟨i,rfl⟩:=e2;exact⟨.ext (i+1),by simp[view],by simp[cI],.inr (.inl ⟨i,rfl,rfl⟩)⟩
   ·refine⟨r,?_,?_,.inr (.inr ⟨rfl,λi h=>e2 ⟨i,h⟩,e1⟩)⟩
    ·cases r<;>first|rfl|exact absurd ⟨_,rfl⟩ e2|skip
     rename_i j;have:¬j=k:=λh=>e1 (by rw[h]);simp[view,S8,this]
    ·cases r<;>first|rfl|exact absurd ⟨_,rfl⟩ e2
 refine⟨λr v hv=>?_,λr s hr hs e=>?_⟩
 ·obtain⟨r',h1,h2,_⟩:=key r;rw[h2];exact a.has r' v (by rw[<-h1];exact hv)
 ·obtain⟨r',h1,h2,h3⟩:=key r;obtain⟨s',g1,g2,g3⟩:=key s;have h:=a.inj r' s' (by rw[<-h1];exact hr) (by rw[<-g1];exact hs) (by rw[<-h2,<-g2];exact e);rcases h3 with⟨rfl,rfl⟩|⟨i,rfl,rfl⟩|⟨rfl,f1,f2⟩<;>rcases g3 with⟨rfl,rfl⟩|⟨j,rfl,rfl⟩|⟨rfl,k1,k2⟩
  ·rfl
  ·cases h
  ·exact absurd h.symm (k1 _)
  ·cases h
  ·cases h;rfl
  ·exact absurd h.symm (k1 _)
  ·exact absurd h (f1 _)
  ·exact absurd h (f1 _)
  ·exact h
end
section
variable {E:Env prog}{H:Hid}{n:N}{X:Ext}{U:Hp}{no:Nat}{c:CN}{h:HN}{b:Nat}{e:Nat}{cl:Nat}{me:Nat}{nm:List UInt8}{q:QN}{k:Int}{x:XN}{na:Bool}{bf:Nat}{f:FR}{I:av}{ds:List Deferred}{A':Lay}{J:Hp}
variable {A:Lay}{id:Int}
def abL {cl me:Nat}(a:aq A H n ((bf,bP f)::X) U)(w:Wf n)(hc:n.ar id=some c)(hh:n.h? id no=some h)(aH:f.cl=(cl:Int))(aP:f.me=(me:Int))(eH:no<1000000)(eS:c.r.out.length<=100000000000000)(atn:h.co.length<=4)
 (iX:n.x? (n.bh+1)=none) (b1:0<=n.bh/\n.bh<=1000000000000) (jv:∀nm q,n.q? nm=some q->q.cons.length<=1000):
 ay E 270 #[pV (A.chan id no),pV bf] U (iE A X n bf f (n.consume id no h f.s cl me)):=by
 refine aX func270 ntmps270 results270 λQ aD an aA=>?_;refine ag ?_;refine yF [0,1,2,4,5,6,8,9,10,3,7,11,12,13,14] (λch ds U=>ds=[]/\(iE A X n bf f (n.consume id no h f.s cl me)) (.panicked ch) U) ah jb (λch I ds U h=>by obtain⟨rfl,h⟩:=h;exact aA _ _ _ _ ao h) ?_;refine ag ?_;refine iT s8 a (tU a.fi rfl) (λnm s1 J hr a1=>?_) (λhr s J a1=>⟨rfl,?_⟩)
 rotate_left
 ·have e:n.consume id no h f.s cl me=.bad cl me:=by unfold N.consume;rw[hr]
  rw[e];exact⟨H,s,rfl,by rw[<-aH,<-aP];exact a1⟩
 refine gf ?_;refine ag ?_;refine iT s8 a1 (tU a1.fi rfl) (λtg s2 fA bZ a2=>?_) (λbZ s J a2=>⟨rfl,?_⟩)
 rotate_left
 ·have e:n.consume id no h f.s cl me=.bad cl me:=by unfold N.consume;rw[hr];simp only[bZ]
  rw[e];exact⟨H,s,rfl,by rw[<-aH,<-aP];exact a2⟩
 simp only at bZ;refine gf ?_;refine ag ?_;refine iT Kd a2 (J4 a2.fi rfl) (λna s3 cQ eN a3=>?_) (λeN s J a3=>⟨rfl,?_⟩)
 rotate_left
 ·have e:n.consume id no h f.s cl me=.bad cl me:=by unfold N.consume;rw[hr];simp only[bZ,eN]
  rw[e];exact⟨H,s,rfl,by rw[<-aH,<-aP];exact a3⟩
 simp only at eN;refine gf ?_;refine ag ?_;refine qD a3 (λhs=>?_) (λhs=>aA _ _ _ _ ao ?_)
 rotate_left
 ·have e:n.consume id no h f.s cl me=.bad cl me:=by
   unfold N.consume;rw[hr];simp only[bZ,eN];simp only at hs;cases s3 with
   |nil=>exact absurd rfl hs
   |cons x l=>rfl
  rw[e];exact⟨H,s3,rfl,by rw[<-aH,<-aP];exact a3⟩
 simp only at hs;subst hs;by_cases t1:tg.length<1
 ·have Iq:(tg.length:Int)<1:=aa;have e:n.consume id no h f.s cl me=.ok n (.cL 502 cl me):=by unfold N.consume;rw[hr];simp only[bZ,eN];rw[if_pos (.inl t1)]
  simp only[go_sem,seval,Iq,decide_true];refine aK (jY (e:=502) a3 aH aP) ?_;rintro v dB ⟨b,hv,a4⟩
  cases hv
  refine ag ?_;refine an aI ao ?_;rw[e];exact⟨A,H,b,_,by simp[up],.refl A,a4⟩
 have Iq:¬(tg.length:Int)<1:=aa;by_cases t2:tg.length>8
 ·have Nx:(tg.length:Int)>8:=aa;have e:n.consume id no h f.s cl me=.ok n (.cL 502 cl me):=by unfold N.consume;rw[hr];simp only[bZ,eN];rw[if_pos (.inr t2)]
  simp only[go_sem,seval,Iq,Nx,decide_true,decide_false];refine aK (jY (e:=502) a3 aH aP) ?_;rintro v dB ⟨b,hv,a4⟩
  cases hv
  refine ag ?_;refine an aI ao ?_;rw[e];exact⟨A,H,b,_,by simp[up],.refl A,a4⟩
 have Nx:¬(tg.length:Int)>8:=aa;have Hj:¬(tg.length<1\/tg.length>8):=aa;simp only[go_sem,seval,Iq,Nx,decide_false,a3.bX hh,a3.eJ hc,a3.jG]
 cases hq:n.q? nm with
 |none=>
  have e:n.consume id no h f.s cl me=.ok n (.soft 404 cl me):=by unfold N.consume;rw[hr];simp only[bZ,eN];rw[if_neg Hj];simp only[hq]
  refine aT (J1 a3 hq) ?_;refine ag ?_;refine aK (xp (e:=404) a3 aH aP) ?_;rintro v dB ⟨b,hv,a4⟩
  cases hv
  refine ag ?_;refine an aI ao ?_;rw[e];exact⟨A,H,b,_,by simp[up],.refl A,a4⟩
 |some q=>
 refine aT (J2 a3 hq) ?_;obtain⟨lc,kc,o1,o2,o3⟩:=a3.co hh;have Bt:lc.length=h.co.length:=by have:=o3.length_eq;simpa using this
 refine aJ (a3.bX hh) ?_;refine jy (b:=A.co id no) (k:=tg) (l:=lc) (c:=kc) zV (z:=.pointer none) ah ?_ o1 ?_ ?_
 ·exact au
 ·exact au
 rw[if_neg Bool.false_ne_true]
 cases hg:bq h.co tg with
 |some k=>
  have e:n.consume id no h f.s cl me=.ok n (.cL 530 cl me):=by unfold N.consume;rw[hr];simp only[bZ,eN];rw[if_neg Hj];simp only[hq,hg];rfl
  obtain⟨st,bw⟩:=sw o2 o3 (List.mem_map_of_mem (f:=λe:List UInt8×Int=>(e.1,pV (A.cons e.2))) (iZ hg));have de:((dq lc tg).map (·.2.1)).getD (.pointer none)=pV (A.cons k):=by rw[bw];rfl
  rw[de];refine ag ?_;refine aK (jY (e:=530) a3 aH aP) ?_;rintro v dB ⟨b,hv,a4⟩
  cases hv
  refine ag ?_;refine an aI ao ?_;rw[e];exact⟨A,H,b,_,by simp[up],.refl A,a4⟩
 |none=>
 have D1:∀e∈(h.co.map λe=>(e.1,pV (A.cons e.2))),e.1≠tg:=λe he=>by obtain⟨y,hy,rfl⟩:=List.mem_map.1 he;exact ja hg y hy
 have de:((dq lc tg).map (·.2.1)).getD (.pointer none)=.pointer none:=by rw[map_none o3 D1];rfl
 rw[de];refine aJ (a3.bX hh) ?_;refine HF zV ?_ o1 ?_
 ·exact au
 by_cases h4:h.co.length=4
 ·have ta:(lc.length:Int)=4:=aa;have e:n.consume id no h f.s cl me=.ok n (.soft 506 cl me):=by unfold N.consume;rw[hr];simp only[bZ,eN];rw[if_neg Hj];simp only[hq,hg,h4];rfl
  simp only[go_sem,seval,eq_true ta,decide_true];refine aK (xp (e:=506) a3 aH aP) ?_;rintro v dB ⟨b,hv,a4⟩
  cases hv
  refine ag ?_;refine an aI ao ?_;rw[e];exact⟨A,H,b,_,by simp[up],.refl A,a4⟩
 have ta:¬(lc.length:Int)=4:=aa;have e:n.consume id no h f.s cl me=.ok ((n.kM id no nm tg na).send id (bK no 60 21 [.text tg])) .nil:=by unfold N.consume;rw[hr];simp only[bZ,eN];rw[if_neg Hj];simp only[hq,hg];rw[if_neg al,if_neg h4]
 simp only[go_sem,seval,ta,decide_false];refineλcb mE=>?_;have Jm:N9 n A (A.Cc (n.bh+1) cb) H H:=⟨rfl,rfl,rfl,rfl,rfl,λ_ _=>⟨rfl,rfl⟩,λ_ _ _=>⟨rfl,rfl,rfl⟩,λ_ _=>⟨rfl,rfl,rfl⟩,λj hj=>by simp[Lay.Cc,Nl (f:=n.x?) iX hj]⟩;have a4:=a3.Ib w Jm
 have R6:(h.co.map λe=>(e.1,pV ((A.Cc (n.bh+1) cb).cons e.2)))=h.co.map λe=>(e.1,pV (A.cons e.2)):=List.map_congr_left λe he=>by obtain⟨x,hx,_⟩:=w.co id no h hh e he;rw[Jm.cons e.2 (by rw[hx];rfl)]
 have GH:(A.Cc (n.bh+1) cb).cons (n.bh+1)=cb:=by simp[Lay.Cc]
 generalize hA:A.Cc (n.bh+1) cb=A' at a4 R6 GH Jm;have eA:A'.chan=A.chan/\A'.conn=A.conn/\A'.co=A.co/\A'.queue=A.queue/\A'.br=A.br/\A'.gw=A.gw:=by rw[<-hA];exact⟨rfl,rfl,rfl,rfl,rfl,rfl⟩
 obtain⟨xD,zc,AZ,Gl,C0,Qp⟩:=eA;have a5:=λo=>a4.iR mE o;have f5:=λo=>(a5 o).bX hh;simp only[xD,zc,AZ]at f5;refine aJ f5 ?_;refine BO (b:=A.co id no) (k:=tg) zV o2.uniq ?_ (kG mE _ _ o1) ?_ ?_
 ·exact au
 ·exact au
 obtain⟨d1,d2⟩:=EJ o2 o3 D1 (pV cb)
 have a6:=λo=>(a5 o).Nc hh (λh=>{h with co:=da cP h.co tg (n.bh+1)}) rfl rfl (o:=aV bU (jz lc tg (pV cb) kc) (jM lc tg kc)) ⟨_,_,rfl,d1,by
  refine d2.trans (List.Perm.symm ?_)
  refine((vH (lt:=cP) h.co tg (n.bh+1)).map _).trans ?_
  simp only[List.map_cons,GH,R6]
  exact List.Perm.refl _⟩
 have iz:(n.bB id no λh=>{h with co:=da cP h.co tg (n.bh+1)}).ar id=some {c with ch:=dE c.ch no λh=>{h with co:=da cP h.co tg (n.bh+1)}}:=by simp[hc]
 have pf:(n.bB id no λh=>{h with co:=da cP h.co tg (n.bh+1)}).h? id no=some {h with co:=da cP h.co tg (n.bh+1)}:=by simp[hh]
 have uM:(n.bB id no λh=>{h with co:=da cP h.co tg (n.bh+1)}).q? nm=some q:=hq;generalize hN:(n.bB id no λh=>{h with co:=da cP h.co tg (n.bh+1)})=n6 at a6 iz pf uM;have f6:=λo=>(a6 o).bX pf;have g6:=λo=>(a6 o).eJ iz;have w6:=λo=>(a6 o).jG;simp only[xD,zc,AZ,C0,Qp]at f6 g6 w6;refine bR f6 g6 w6 ?_;have afI:q.cons.length<=1000:=jv nm q hq;generalize kE:Hp.set (Hp.set cQ cb _) (A.co id no) _=xv
 have b6:aq A' H n6 ((cb,ln (A'.chan id no) 0 tg (A'.queue nm) na)::(bf,bP {f with s:=[]})::X) xv:=by refine dP (a6 (ln (A'.chan id no) 0 tg (A'.queue nm) na)) ?_;rw[<-kE,xD,AZ,Gl];rfl
 have emap:(q.cons.map λk=>pV (A'.cons k))=(q.cons.map A'.cons).map pV:=by rw[List.map_map];rfl
 have jJ:=b6.ix uM;rw[emap]at jJ;have qR:=b6.br;rw[C0]at qR;have uP:=b6.eK;have ra:=b6.queue uM;rw[Gl]at ra;simp only[xD,Gl]at uP;refine aK (abK qR uP ra jJ (aW afI) (by rw[<-hN];exact b1)) ?_;rintro v lP ⟨hv,ab,pad,dr,agI⟩
 cases hv
 have a8:=(b6.Vw n6.messages (n6.bh+1)).vq (ln (A'.chan id no) (n6.bh+1) tg (A'.queue nm) na)
 have Uf:∀{x o},xv.f x=some o->(∀z,o≠.cells z 186 (0,0))->¬ab=x:=by
  intro x o hx hz e;subst e;rcases dr with dr|⟨c',dr⟩
  ·rw[hx]at dr;cases dr
  ·rcases jJ.form with⟨_,h2⟩|⟨a',amV,h2,h3⟩
   ·rw[dr]at h2;cases h2
   ·rw[dr]at h2;simp only[Value.slice.injEq,Option.some.injEq,Addr.mk.injEq]at h2;rw[h2.1.1,h3]at hx;exact hz _ (Option.some.inj hx).symm
 have n8:({n6 with messages:=n6.messages,bh:=n6.bh+1}:N).q? nm=some q:=uM
 have a9:=a8.Vx (nm:=nm) n8 (b:=ab) (λq=>{q with cons:=q.cons++[n.bh+1]}) rfl
  (by
   rcases dr with dr|⟨c',dr⟩
   ·refine Hl.ud a8 _ ?_
    rw[Hp.az (Uf uP (by simp[ln])),Hp.az (by rw[C0];exact Uf qR (by simp[iw]))];exact dr
   ·have D4:kU (H.cv nm)=false:=by rw[dr];rfl
    have eb:pP (H.cv nm)=ab:=by rw[dr];rfl
    have:=Hl.apart a8 (.ix nm) (by rw[Qc n8 D4];rfl)
    rw[<-eb];exact this)
  (cv:=.slice (some ⟨ab,0,none⟩) ((q.cons.map A'.cons).length+1) ((q.cons.map A'.cons).length+1+pad.length)) (o:=.cells ((q.cons.map A'.cons).map pV++[pV cb]++pad).toArray 186 (0,0))
  ⟨ab,pad,al,by simp only[List.map_append,List.map_cons,List.map_nil,GH,emap]⟩ rfl
 have yW:=a9.le (J:=lP) (by rw[C0,xD,Gl];exact agI)
 have Jd:aq A' (H.pG nm (.slice (some ⟨ab,0,none⟩) ((q.cons.map A'.cons).length+1) ((q.cons.map A'.cons).length+1+pad.length))) (n.kM id no nm tg na) ((bf,bP {f with s:=[]})::X) lP:=by
  have en:n6.bh=n.bh:=by rw[<-hN];rfl
  rw[en]at yW
  have:=aq.acY (A:=A') (k:=n.bh+1) (x:=⟨id,no,tg,nm,na⟩) (by rw[GH];exact yW) (by
   show n6.x? (n.bh+1)=none
   rw[<-hN];exact iX)
  rw[<-hN]at this;exact this
 have Ld:(n.kM id no nm tg na).h? id no=some {h with co:=da cP h.co tg (n.bh+1)}:=by rw[<-hN]at pf;exact pf
 have afC:(n.kM id no nm tg na).ar id=some {c with ch:=dE c.ch no λh=>{h with co:=da cP h.co tg (n.bh+1)}}:=by rw[<-hN]at iz;exact iz
 have f11:=Jd.bX Ld;simp only[xD,zc,AZ]at f11;refine ag ?_;refine bG 12 ?_;refine aJ f11 ?_;refineλbn cE=>?_;have f12:=λo=>(Jd.fresh cE o).bX Ld;simp only[xD,zc,AZ]at f12;refine⟨dL f12,?_⟩;refine ag ?_;have R3:=λo=>pS (E:=E) (ch:=no) (cl:=60) (me:=21) (xs:=[.text tg]) (Jd.fresh cE o) afC (v:=.slice (some ⟨bn,0,none⟩) 1 1);rw[zc]at R3;refine aK (R3 _ (.inr ⟨bn,rfl,aZ⟩) (by simp[lh]) al aa ai ai (by simp[dg,eI,bJ];omega) (by simp only;omega)) ?_;rintro v auZ ⟨hv,OL⟩
 cases hv
 have f13:=OL.bX (h:={h with co:=da cP h.co tg (n.bh+1)}) (by rw[pZ];exact Ld);simp only[xD,zc,AZ]at f13;refine⟨dL f13,?_⟩;refine ag ?_;refine an aI ao ?_;rw[e];exact⟨A',_,0,_,by simp[up,Er.v],⟨Qp,C0,zc⟩,OL⟩
end
section
variable {E:Env prog}{H:Hid}{n:N}{X:Ext}{U:Hp}{no:Nat}{c:CN}{h:HN}{b:Nat}{e:Nat}{cl:Nat}{me:Nat}{nm:List UInt8}{q:QN}{k:Int}{x:XN}{bf:Nat}{f:FR}{I:av}{ds:List Deferred}{dst:Option Tmp}{nx:av->List Deferred->Hp->Prop}{pn:List PanicEntry->Hp->Prop}{J:Hp}
variable {A:Lay}{id:Int}
def wM {cl me:Nat}(hk:f.u.kind=1)(aH:f.cl=(cl:Int))(aP:f.me=(me:Int))(x y:Nat):f.lD (x:Int) [(y:Int)]=decide (cl=x/\me=y):=by simp only[FR.lD,hk,aH,aP,decide_true,Bool.true_and,List.mem_singleton];by_cases h1:cl=x<;>by_cases h2:me=y<;>simp[h1,h2]<;>omega
def aiT {cl me:Nat}(hk:f.u.kind=1)(aH:f.cl=(cl:Int))(aP:f.me=(me:Int))(x y z:Nat):f.lD (x:Int) [(y:Int),(z:Int)]=decide (cl=x/\(me=y\/me=z)):=by simp only[FR.lD,hk,aH,aP,decide_true,Bool.true_and,List.mem_cons,List.not_mem_nil,or_false];by_cases h1:cl=x<;>by_cases h2:me=y<;>by_cases h3:me=z<;>simp[h1,h2,h3]<;>omega
def uW {x:Int}{ms:List Int}{p:Prop}[Decidable p]{b cap:Nat}{o:Obj}{dst:Option Tmp}{I:av}{ds:List Deferred}{nx:av->List Deferred->Hp->Prop}{pn:List PanicEntry->Hp->Prop}(i:f.lD x ms=decide p)(a:aq A H n ((bf,bP f)::X) U)(hb:U.f b=none)
 (k:∀ae,aq A H n ((bf,bP f)::X) ae->nx (aB I dst (.bool (decide p))) ds ae) (ho:o=.cells (ms.map iV++[]).toArray 3 (0,0):=by rfl) (hn:ms.length<=1000:=by decide):kx E 193 #[pV bf,iV x,.slice (some ⟨b,0,none⟩) ms.length cap] (U.set b o) dst I ds nx pn:=by
 subst ho;refine aT (uU (pad:=[]) (a.fresh hb _).eK aZ hn) ?_;rw[i];exact k _ (a.fresh hb _)
def sG {R:Fin->Hp->Prop}{x y:Fin}{J:Hp}(h:R x J)(e:y=x):R y J:=e▸h
def QK (a:aq A H n ((bf,bP f)::X) U):ay E 230 #[pV bf] U λe J=>(sD f.s=some []/\e=.returned (.tuple #[])/\aq A H n ((bf,bP {f with s:=[]})::X) J)\/(sD f.s≠some []/\e=.panicked lT/\∃s,aq A H n ((bf,bP {f with s:=s})::X) J):=by
 refine aX func230 ntmps230 results230 λQ aD an aA=>?_;refine ag ?_;refine iT oj a (oG (w:=2) a.fi rfl ai) (λk s1 J hr a1=>?_) (λhr s J a1=>aA _ _ _ _ ao (.inr ⟨by unfold sD;rw[hr];simp,rfl,s,a1⟩));refine ag ?_;refine iT s8 a1 (tU a1.fi rfl) (λtx s2 J bZ a2=>?_) (λbZ s J a2=>aA _ _ _ _ ao (.inr ⟨by unfold sD;rw[hr];simp only at bZ|-;rw[bZ];simp,rfl,s,a2⟩));simp only at bZ;refine ag ?_;refine iT oj a2 (oG (w:=4) a2.fi rfl ai) (λk3 s3 J eN a3=>?_) (λeN s J a3=>aA _ _ _ _ ao (.inr ⟨by unfold sD;rw[hr];simp only at eN|-;rw[bZ];simp only;rw[eN];simp,rfl,s,a3⟩));simp only at eN;have e:sD f.s=some s3:=by unfold sD;rw[hr];simp only;rw[bZ];simp only;rw[eN]
 refine ag ?_;refine qD a3 (λhs=>?_) (λhs=>aA _ _ _ _ ao (.inr ⟨by rw[e];simpa using hs,rfl,s3,a3⟩));simp only at hs;subst hs;refine ag ?_;exact aD dA ao (.inl ⟨e,by simp[up],a3⟩)
structure I8 (n:N) (id:Int) (no:Nat) (c:CN) (h:HN):Prop where
 w:Wf n
 yj:no<1000000
 out:c.r.out.length<=100000000000000
 co:h.co.length<=4
 new:n.x? (n.bh+1)=none
 bh:0<=n.bh/\n.bh<=1000000000000
 q:∀nm q,n.q? nm=some q->q.ready.length<=1000/\q.cons.length<=1000
 can:∀tg k,bq h.co tg=some k->FE n k
 frame:∃fr:Nat,c.r.frame=(fr:Int)/\9<=fr/\fr<=1000000
 get:IZ n h
 settle:∀tag many b,IW n id no h (tD tag many) b
 fin:yL (n.send id (bK no 20 41 [])) id no h
def akR {cl me:Nat}(a:aq A H n ((bf,bP f)::X) U)(M:I8 n id no c h)(hc:n.ar id=some c)(hh:n.h? id no=some h)(hk:f.u.kind=1)(aH:f.cl=(cl:Int))(aP:f.me=(me:Int))(jJ:f.s.length<=1000000):
 ay E 246 #[pV (A.chan id no),pV bf] U (iE A X n bf f (n.method id no h f.s cl me)):=by
 refine aX func246 ntmps246 results246 λQ aD an aA=>?_;refine ag ?_;refineλb1 jd=>?_;refine ag ?_;refine uW (x:=20) (ms:=[10]) (wM hk aH aP 20 10) a jd λcX a1=>?_;by_cases m1:cl=20/\me=10
 ·have e:n.method id no h f.s cl me=.ok n (.cL 504 cl me):=by unfold N.method;rw[if_pos m1]
  simp only[go_sem,seval,decide_eq_true m1];refine aK (jY (e:=504) a1 aH aP) ?_;rintro v dB ⟨b,hv,a4⟩
  cases hv
  refine ag ?_;refine an aI ao ?_;rw[e];exact⟨A,H,b,_,by simp[up],.refl A,a4⟩
 simp only[go_sem,seval,decide_eq_false m1];refineλb2 fO=>?_;refine ag ?_;refine uW (x:=20) (ms:=[40]) (wM hk aH aP 20 40) a1 fO λjm a2=>?_;by_cases m2:cl=20/\me=40
 ·have e:n.method id no h f.s cl me=n.close id no f.s cl me:=by unfold N.method;rw[if_neg m1,if_pos m2]
  simp only[go_sem,seval,decide_eq_true m2];refine dH Rf (QK a2) ?_ (λch J hx=>aA _ _ _ _ ao ?_)
  rotate_left
  ·rcases hx with⟨_,h,_⟩|⟨hp,h,s,a4⟩
   ·cases h
   ·cases h
    have e2:n.close id no f.s cl me=.bad cl me:=by
     unfold N.close;cases hq:sD f.s with
     |none=>rfl
     |some l=>cases l with
      |nil=>exact absurd hq hp
      |cons x l=>rfl
    rw[e,e2];exact⟨H,s,rfl,by rw[<-aH,<-aP];exact a4⟩
  rintro v dB (⟨hp,hv,a4⟩|⟨_,h,_⟩)
  rotate_left
  ·cases h
  cases hv
  have e2:n.close id no f.s cl me=.ok ((n.send id (bK no 20 41 [])).oY id no) .nil:=by unfold N.close;rw[hp]
  refine ag ?_;refine bG 9 ?_;refine aJ (a4.bX hh) ?_;have eH:=M.yj;have eS:=M.out;refine aK (pS (ch:=no) (cl:=20) (me:=41) (xs:=[]) a4 hc (.inl ⟨rfl,rfl⟩) al al aa ai ai (by simp[dg]) aa) ?_;rintro v iu ⟨hv,a5⟩
  cases hv
  have zw:(n.send id (bK no 20 41 [])).h? id no=some h:=by rw[pZ];exact hh
  have lz:(n.send id (bK no 20 41 [])).ar id=some {c with r:={c.r with out:=c.r.out++bK no 20 41 [],iq:=n.clock}}:=by rw[sZ,if_pos rfl,hc];rfl
  refine⟨by(repeat(first|exact jL|(apply jK;(focus decide+kernel))|(refine lF rfl (aQ (a5.bX zw)) ?_))),?_⟩;refine ag ?_;refine aK (JU a5 lz zw M.fin) ?_;rintro v gB ⟨hv,H2,a6⟩
  cases hv
  refine ag ?_;refine an aI ao ?_;rw[e,e2];exact⟨A,H2,0,_,by simp[up,Er.v],.refl A,a6⟩
 simp only[go_sem,seval,decide_eq_false m2];refineλb3 hU=>?_;refine ag ?_;refine uW (x:=50) (ms:=[10]) (wM hk aH aP 50 10) a2 hU λCp a3=>?_;by_cases m3:cl=50/\me=10
 ·have e:n.method id no h f.s cl me=n.declare id no f.s cl me:=by unfold N.method;rw[if_neg m1,if_neg m2,if_pos m3]
  simp only[go_sem,seval,decide_eq_true m3];refine dH aej (ab3 a3 M.w hc hh aH aP M.yj M.out jJ (λnm q hq=>⟨(M.q nm q hq).1,Nat.le_trans (M.q nm q hq).2 ai⟩)) ?_ (λch J h=>aA _ _ _ _ ao (by rw[e];exact h));intro v J h;refine ag ?_;exact an aI ao (by rw[e];exact sG h (by simp[up]))
 simp only[go_sem,seval,decide_eq_false m3];refineλb4 zn=>?_;refine ag ?_;refine uW (x:=50) (ms:=[30]) (wM hk aH aP 50 30) a3 zn λWC a4=>?_;by_cases m4:cl=50/\me=30
 ·have e:n.method id no h f.s cl me=n.pE id no f.s cl me:=by unfold N.method;rw[if_neg m1,if_neg m2,if_neg m3,if_pos m4]
  simp only[go_sem,seval,decide_eq_true m4];refine dH aek (ans a4 hc hh aH aP M.yj M.out (λnm q hq=>(M.q nm q hq).1)) ?_ (λch J h=>aA _ _ _ _ ao (by rw[e];exact h));intro v J h;refine ag ?_;exact an aI ao (by rw[e];exact sG h (by simp[up]))
 simp only[go_sem,seval,decide_eq_false m4];refineλb5 lV=>?_;refine ag ?_;refine uW (x:=60) (ms:=[10]) (wM hk aH aP 60 10) a4 lV λdx a5=>?_;by_cases m5:cl=60/\me=10
 ·have e:n.method id no h f.s cl me=n.sF id no f.s cl me:=by unfold N.method;rw[if_neg m1,if_neg m2,if_neg m3,if_neg m4,if_pos m5]
  simp only[go_sem,seval,decide_eq_true m5];refine iT oj a5 (oG (w:=2) a5.fi rfl ai) (λk s1 J hr a1=>?_) (λhr s J a1=>aA _ _ _ _ ao ?_)
  rotate_left
  ·have e2:n.sF id no f.s cl me=.bad cl me:=by unfold N.sF;rw[hr]
   rw[e,e2];exact⟨H,s,rfl,by rw[<-aH,<-aP];exact a1⟩
  refine ag ?_;refine qD a1 (λhs=>?_) (λhs=>aA _ _ _ _ ao ?_)
  rotate_left
  ·have e2:n.sF id no f.s cl me=.bad cl me:=by
    unfold N.sF;rw[hr];simp only at hs;cases s1 with
    |nil=>exact absurd rfl hs
    |cons x l=>rfl
   rw[e,e2];exact⟨H,s1,rfl,by rw[<-aH,<-aP];exact a1⟩
  simp only at hs;subst hs;have e2:n.sF id no f.s cl me=.ok ((n.cN id no λr=>{r with mj:=k}).send id (bK no 60 11 [])) .nil:=by unfold N.sF;rw[hr]
  refine aJ (a1.bX hh) ?_;have a2:=a1.yA hh λr=>{r with mj:=k};generalize hZ:Hp.set J (A.chan id no) _=cQ;replace a2:=dP a2 hZ;have fE:(n.cN id no λr=>{r with mj:=(k:Int)}).h? id no=some {h with r:={h.r with mj:=k}}:=by simp[N.cN,hh]
  have dX:(n.cN id no λr=>{r with mj:=(k:Int)}).ar id=some {c with ch:=dE c.ch no λh=>{h with r:={h.r with mj:=k}}}:=by simp[N.cN,hc]
  refine bG 9 ?_;refine aJ (a2.bX fE) ?_;have eH:=M.yj;have eS:=M.out;refine aK (pS (ch:=no) (cl:=60) (me:=11) (xs:=[]) a2 dX (.inl ⟨rfl,rfl⟩) al al aa ai ai (by simp[dg]) (by show c.r.out.length<=_;omega)) ?_;rintro v iu ⟨hv,a5⟩
  cases hv
  have zw:((n.cN id no λr=>{r with mj:=(k:Int)}).send id (bK no 60 11 [])).h? id no=some {h with r:={h.r with mj:=(k:Int)}}:=by rw[pZ];exact fE
  refine⟨by(repeat(first|exact jL|(apply jK;(focus decide+kernel))|(refine lF rfl (aQ (a5.bX zw)) ?_))),?_⟩;refine ag ?_;refine an aI ao ?_;rw[e,e2];exact⟨A,H,0,_,by simp[up,Er.v],.refl A,a5⟩
 simp only[go_sem,seval,decide_eq_false m5];refineλb6 qa=>?_;refine ag ?_;refine uW (x:=60) (ms:=[20]) (wM hk aH aP 60 20) a5 qa λsK a6=>?_;by_cases m6:cl=60/\me=20
 ·have e:n.method id no h f.s cl me=n.consume id no h f.s cl me:=by unfold N.method;rw[if_neg m1,if_neg m2,if_neg m3,if_neg m4,if_neg m5,if_pos m6]
  simp only[go_sem,seval,decide_eq_true m6];refine dH ael (abL a6 M.w hc hh aH aP M.yj M.out M.co M.new M.bh (λnm q hq=>(M.q nm q hq).2)) ?_ (λch J h=>aA _ _ _ _ ao (by rw[e];exact h));intro v J h;refine ag ?_;exact an aI ao (by rw[e];exact sG h (by simp[up]))
 simp only[go_sem,seval,decide_eq_false m6];refineλb7 Dt=>?_;refine ag ?_;refine uW (x:=60) (ms:=[30]) (wM hk aH aP 60 30) a6 Dt λAx a7=>?_;by_cases m7:cl=60/\me=30
 ·have e:n.method id no h f.s cl me=n.qE id no h f.s cl me:=by unfold N.method;rw[if_neg m1,if_neg m2,if_neg m3,if_neg m4,if_neg m5,if_neg m6,if_pos m7]
  simp only[go_sem,seval,decide_eq_true m7];refine dH aem (aaO a7 hc hh aH aP M.yj M.out M.can jJ) ?_ (λch J h=>aA _ _ _ _ ao (by rw[e];exact h));intro v J h;refine ag ?_;exact an aI ao (by rw[e];exact sG h (by simp[up]))
 simp only[go_sem,seval,decide_eq_false m7];refineλb8 hb8=>?_;refine ag ?_;refine uW (x:=60) (ms:=[40]) (wM hk aH aP 60 40) a7 hb8 λFD a8=>?_;by_cases m8:cl=60/\me=40
 ·have e:n.method id no h f.s cl me=n.sE id no f.s cl me:=by unfold N.method;rw[if_neg m1,if_neg m2,if_neg m3,if_neg m4,if_neg m5,if_neg m6,if_neg m7,if_pos m8]
  simp only[go_sem,seval,decide_eq_true m8];refine iT s8 a8 (tU a8.fi rfl) (λk s1 J hr a1=>?_) (λhr s J a1=>aA _ _ _ _ ao ?_)
  rotate_left
  ·have e2:n.sE id no f.s cl me=.bad cl me:=by unfold N.sE;rw[hr]
   rw[e,e2];exact⟨H,s,rfl,by rw[<-aH,<-aP];exact a1⟩
  refine ag ?_;refine qD a1 (λhs=>?_) (λhs=>aA _ _ _ _ ao ?_)
  rotate_left
  ·have e2:n.sE id no f.s cl me=.bad cl me:=by
    unfold N.sE;rw[hr];simp only at hs;cases s1 with
    |nil=>exact absurd rfl hs
    |cons x l=>rfl
   rw[e,e2];exact⟨H,s1,rfl,by rw[<-aH,<-aP];exact a1⟩
  simp only at hs;subst hs;have e2:n.sE id no f.s cl me=.ok (n.cN id no λr=>{r with key:=k,want:=2}) .nil:=by unfold N.sE;rw[hr]
  refine aJ (a1.bX hh) ?_;have a2:=a1.yA hh λr=>{r with key:=k,want:=2};refine an aI ao ?_;rw[e,e2];exact⟨A,H,0,_,by simp[up,Er.v],.refl A,dP a2 rfl⟩
 simp only[go_sem,seval,decide_eq_false m8];refineλb9 pd=>?_;refine ag ?_;refine uW (x:=60) (ms:=[70]) (wM hk aH aP 60 70) a8 pd λσ9 a9=>?_;by_cases m9:cl=60/\me=70
 ·have e:n.method id no h f.s cl me=n.get id no f.s cl me:=by unfold N.method;rw[if_neg m1,if_neg m2,if_neg m3,if_neg m4,if_neg m5,if_neg m6,if_neg m7,if_neg m8,if_pos m9]
  simp only[go_sem,seval,decide_eq_true m9];obtain⟨fr,gJ,f1,f2⟩:=M.frame;refine dH aen (adS a9 hc hh aH aP M.yj M.out gJ ⟨f1,f2⟩ M.get) ?_ (λch J h=>aA _ _ _ _ ao (by rw[e];exact h));intro v J h;refine ag ?_;exact an aI ao (by rw[e];exact sG h (by simp[up]))
 simp only[go_sem,seval,decide_eq_false m9];refineλb10 afr=>?_;refine ag ?_;refine uW (x:=60) (ms:=[80,90]) (aiT hk aH aP 60 80 90) a9 afr λauW yW=>?_;by_cases EG:cl=60/\(me=80\/me=90)
 ·have e:n.method id no h f.s cl me=n.settled id no h f.s cl me:=by unfold N.method;rw[if_neg m1,if_neg m2,if_neg m3,if_neg m4,if_neg m5,if_neg m6,if_neg m7,if_neg m8,if_neg m9,if_pos EG]
  simp only[go_sem,seval,decide_eq_true EG];refine dH aeo (apw yW hh aH aP M.settle) ?_ (λch J h=>aA _ _ _ _ ao (by rw[e];exact h));intro v J h;refine ag ?_;exact an aI ao (by rw[e];exact sG h (by simp[up]))
 simp only[go_sem,seval,decide_eq_false EG];have Sf:=yW.fi;rw[aH,aP]at Sf;refine aJ Sf ?_;by_cases TQ:cl=10
 ·have e:n.method id no h f.s cl me=.ok n (.cL 503 cl me):=by unfold N.method;rw[if_neg m1,if_neg m2,if_neg m3,if_neg m4,if_neg m5,if_neg m6,if_neg m7,if_neg m8,if_neg m9,if_neg EG,if_pos TQ]
  have Mj:(cl:Int)=10:=aa;simp only[go_sem,seval,eq_true Mj,decide_true];refine aK (jY (e:=503) yW aH aP) ?_;rintro v dB ⟨b,hv,a4⟩
  cases hv
  refine ag ?_;refine an aI ao ?_;rw[e];exact⟨A,H,b,_,by simp[up],.refl A,a4⟩
 have e:n.method id no h f.s cl me=.ok n (.cL 540 cl me):=by unfold N.method;rw[if_neg m1,if_neg m2,if_neg m3,if_neg m4,if_neg m5,if_neg m6,if_neg m7,if_neg m8,if_neg m9,if_neg EG,if_neg TQ]
 have Mj:¬(cl:Int)=10:=aa;simp only[go_sem,seval,Mj,decide_false];refine aK (jY (e:=540) yW aH aP) ?_;rintro v dB ⟨b,hv,a4⟩
 cases hv
 refine ag ?_;refine an aI ao ?_;rw[e];exact⟨A,H,b,_,by simp[up],.refl A,a4⟩
end
section
variable {E:Env prog}{H:Hid}{n:N}{X:Ext}{U:Hp}{no:Nat}{c:CN}{h:HN}{b:Nat}{e:Nat}{cl:Nat}{me:Nat}{nm:List UInt8}{q:QN}{m:aM}{k:Int}{x:XN}{bf:Nat}{f:FR}{I:av}{ds:List Deferred}{P:Program}{g:Option (Nat×Bool)}{J:Hp}{r:HR}
variable {A:Lay}{id:Int}
def yR (n:N):Prop:=(0<=n.messages/\n.messages<=1000000000000)/\∀nm q,n.q? nm=some q->q.ready.length<=1000/\0<=q.held/\q.held<=1000000
def anq {key body:List UInt8}(a:aq A H n X U)(P:yR n):
 ay E 285 #[pV A.br,sV key,sV body] U λe J=>e=.returned (if(n.jN key body).2 then .nilIface else .iface 215 (iV 506))/\At A (n.jN key body).1 X J:=by
 obtain⟨rZ,jv⟩:=P;obtain⟨l,k,h1,h2,h3⟩:=a.mq
 cases hq:n.q? key with
 |none=>
  have e:n.jN key body=(n,true):=by unfold N.jN;simp only[hq]
  have bw:=map_none h3 (k:=key) (λe he=>by obtain⟨y,hy,rfl⟩:=List.mem_map.1 he;exact ja hq y hy);refine aX func285 ntmps285 results285 λQ aD an aA=>?_;refine aJ a.uf ?_;refine jy (b:=A.mq) (k:=key) (l:=l) (c:=k) wQ (z:=.pointer none) ah ?_ h1 ?_ ?_
  ·exact au
  ·exact au
  have de:((dq l key).map (·.2.1)).getD (.pointer none)=.pointer none:=by rw[bw];rfl
  simp only[go_sem,seval,de,Bool.false_eq_true];exact an aI ao ⟨by simp[up,e],by rw[e];exact⟨H,a⟩⟩
 |some q=>
 obtain⟨st,bw⟩:=sw h2 h3 (List.mem_map_of_mem (f:=λe:List UInt8×QN=>(e.1,pV (A.queue e.1))) (iZ hq));obtain⟨q1,q2,q3⟩:=jv key q hq;by_cases hr:(q.ready.length:Int)+q.held>=n.cfg.queue
 ·have e:n.jN key body=(n,false):=by unfold N.jN;simp only[hq];rw[if_pos hr]
  obtain⟨b0,c0,ik⟩:=(a.fw hq).shape;have hf:=a.tN hq;rw[ik]at hf;have wl:IntKind.i64.wrap ((q.ready.length:Int)+q.held)=(q.ready.length:Int)+q.held:=wrap64 aa aa;refine aX func285 ntmps285 results285 λQ aD an aA=>?_;refine aJ a.uf ?_;refine jy (b:=A.mq) (k:=key) (l:=l) (c:=k) wQ (z:=.pointer none) ah ?_ h1 ?_ ?_
  ·exact au
  ·exact au
  have de:((dq l key).map (·.2.1)).getD (.pointer none)=pV (A.queue key):=by rw[bw];rfl
  simp only[go_sem,seval,de,Bool.false_eq_true];refine bG 15 ?_;simp only[go_sem,seval,hf,a.uf,wl,hr,decide_true];exact an aI ao ⟨by simp[up,e],by rw[e];exact⟨H,a⟩⟩
 ·have e:n.jN key body=(({n with messages:=n.messages+1}:N).bH key λq=>{q with ready:=q.ready++[⟨n.messages+1,key,body,false⟩]},true):=by unfold N.jN;simp only[hq];rw[if_neg hr]
  refine(anp (key:=key) (body:=body) a.br h1 bw (a.queue hq) (a.fw hq) q1 ⟨q2,q3⟩ aa rZ).mono ?_;rintro e' J ⟨rfl,jj,ab,o,dr,⟨z,rfl⟩,ho,hle⟩;refine⟨by rw[e];rfl,?_⟩;rw[e];have a1:=a.Vw (n.messages+1) n.bh;obtain⟨k1,k2,k3⟩:=Pq ho al
  have nbr:¬ab=A.br:=λe=>by subst e;rcases dr with h|⟨_,_,_,_,_,h⟩<;>(rw[a.br]at h;simp[iw]at h)
  have sf:({n with messages:=n.messages+1,bh:=n.bh}:N).q? key=some q:=hq;refine⟨H.jO key jj,((a1.Nd sf (λq=>{q with ready:=q.ready++[⟨n.messages+1,key,body,false⟩]}) rfl ?_ (o:=.cells z 193 (0,0)) (rv:=jj) k3 k2)).le hle⟩;rcases dr with h|⟨off,m,cc,z',e1,h⟩
  ·exact Hl.ud a1 (.fw key) ((Hp.az nbr).trans h)
  ·have D4:kU (H.rv key)=false:=by rw[e1];rfl
   have eb:pP (H.rv key)=ab:=by rw[e1];rfl
   have:=Hl.apart a1 (.fw key) (by rw[Ve sf D4];rfl);rw[<-eb];exact this
def arp {g k:HR->HR}(hk:∀r,k (g r)=k r):(n.cN id no g).cN id no k=n.cN id no k:=by
 simp only[N.cN,N.bB,N.dN,dE,List.map_map];congr 1;refine List.map_congr_left λe _=>?_;simp only[Function.comp];by_cases h1:e.1=id
 ·simp only[if_pos h1,List.map_map];congr 2;refine List.map_congr_left λe' _=>?_;simp only[Function.comp];by_cases h2:e'.1=no
  ·simp only[if_pos h2,hk]
  ·simp only[if_neg h2]
 ·simp only[if_neg h1]
def Wj (a:aq A H (n.cN id no λ_=>r) ((bf,bP f)::X) U)(hc:n.ar id=some c)(hh:n.h? id no=some h)(aH:f.cl=((60:Nat):Int))(aP:f.me=((40:Nat):Int))(P:yR n):
 ay E 267 #[pV (A.chan id no),pV bf] U (iE A X n bf f (n.whole id no r)):=by
 refine aX func267 ntmps267 results267 λQ aD an aA=>?_;have nH:(n.cN id no λ_=>r).h? id no=some {h with r:=r}:=by simp[N.cN,hh]
 refine ag ?_;refine bG 10 ?_;by_cases hs:(r.body.length:Int)<r.size
 ·have e:n.whole id no r=.ok (n.cN id no λ_=>r) .nil:=by unfold N.whole;rw[if_pos hs]
  simp only[go_sem,seval,a.bX nH,hs,decide_true];refine an aI ao ?_;rw[e];exact⟨A,H,0,_,by simp[up,Er.v],.refl A,a⟩
 have e:n.whole id no r=.ok ((n.cN id no λ_=>{r with want:=1}).jN r.key r.body).1 (if((n.cN id no λ_=>{r with want:=1}).jN r.key r.body).2 then .nil else .soft 506 60 40):=by unfold N.whole;rw[if_neg hs]
 simp only[go_sem,seval,a.bX nH,hs,decide_false];have a2:=a.yA nH λ_=>{r with want:=1};rw[arp (g:=λ_=>r) (k:=λ_=>{r with want:=1}) (λ_=>rfl)]at a2;generalize hZ:Hp.set U (A.chan id no) _=cQ;replace a2:=dP a2 hZ;have fE:(n.cN id no λ_=>{r with want:=1}).h? id no=some {h with r:={r with want:=1}}:=by simp[N.cN,hh]
 have dX:(n.cN id no λ_=>{r with want:=1}).ar id=some {c with ch:=dE c.ch no λh=>{h with r:={r with want:=1}}}:=by simp[N.cN,hc]
 have P2:yR (n.cN id no λ_=>{r with want:=1}):=P;generalize hN:(n.cN id no λ_=>{r with want:=1})=n2 at a2 fE dX P2 e;refine bG 20 ?_;refine bR (a2.bX fE) (a2.eJ dX) a2.jG ?_;refine aK (anq (key:=r.key) (body:=r.body) a2 P2) ?_;rintro v dB ⟨hv,H3,a3⟩
 cases hp:(n2.jN r.key r.body).2 with
 |true=>
  rw[hp]at hv e
  cases hv
  refine gf ?_;refine ag ?_;refine an aI ao ?_;rw[e];exact⟨A,H3,0,_,by simp[up,Er.v],.refl A,a3⟩
 |false=>
  rw[hp]at hv e
  cases hv
  refine gf ?_;refine ag ?_;refine aK (xp (e:=506) a3 aH aP) ?_;rintro v iu ⟨b,hv,a4⟩
  cases hv
  refine ag ?_;refine an aI ao ?_;rw[e];exact⟨A,H3,b,_,by simp[up],.refl A,a4⟩
def amW (a:aq A H n ((bf,bP f)::X) U)(hc:n.ar id=some c)(hh:n.h? id no=some h)(aH:f.cl=((60:Nat):Int))(aP:f.me=((40:Nat):Int))(P:yR n)(hl:h.r.body.length+f.s.length<=1000000):
 ay E 245 #[pV (A.chan id no),pV bf] U (iE A X n bf f (n.part id no h.r f.s)):=by
 refine aX func245 ntmps245 results245 λQ aD an aA=>?_;have l1:h.r.body.length+f.s.length<=9223372036854775807:=aa;refine ag ?_;refine bG 13 ?_;refine bR (a.bX hh) a.fi l1 ?_;refine⟨by(repeat(first|exact jL|(apply jK;(focus decide+kernel))|(refine lF rfl (xu (a.bX hh) a.fi) ?_))),?_⟩;refine ag ?_;have a2:=a.yA hh λ_=>{h.r with body:=h.r.body++f.s};have a3:=a.yA hh λr=>{r with body:=r.body++f.s};generalize hZ:Hp.set U (A.chan id no) _=cQ;replace a2:=dP a2 hZ;replace a3:=dP a3 hZ;have fE:(n.cN id no λ_=>{h.r with body:=h.r.body++f.s}).h? id no=some {h with r:={h.r with body:=h.r.body++f.s}}:=by simp[N.cN,hh]
 refine bG 10 ?_;by_cases hs:((h.r.body++f.s).length:Int)>h.r.size
 ·have e:n.part id no h.r f.s=.ok (n.cN id no λr=>{r with body:=r.body++f.s}) (.cL 502 60 40):=by unfold N.part;rw[if_pos hs]
  simp only[go_sem,seval,a2.bX fE,hs,decide_true];refine aK (jY (e:=502) a3 aH aP) ?_;rintro v iu ⟨b,hv,a4⟩
  cases hv
  refine ag ?_;refine an aI ao ?_;rw[e];exact⟨A,H,b,_,by simp[up],.refl A,a4⟩
 have e:n.part id no h.r f.s=n.whole id no {h.r with body:=h.r.body++f.s}:=by unfold N.part;rw[if_neg hs]
 simp only[go_sem,seval,a2.bX fE,hs,decide_false];refine dH Rg (Wj a2 hc hh aH aP P) ?_ (λch J h=>aA _ _ _ _ ao (by rw[e];exact h));intro v J h;refine ag ?_;exact an aI ao (by rw[e];exact sG h (by simp[up]))
def afW (a:aq A H n ((bf,bP f)::X) U)(hc:n.ar id=some c)(hh:n.h? id no=some h)(aH:f.cl=((60:Nat):Int))(aP:f.me=((40:Nat):Int))(P:yR n):
 ay E 244 #[pV (A.chan id no),pV bf] U (iE A X n bf f (n.header id no h.r f.s)):=by
 refine aX func244 ntmps244 results244 λQ aD an aA=>?_
 have bad:∀{s:List UInt8} {J:Hp},n.header id no h.r f.s=.bad 60 40->aq A H n ((bf,bP {f with s:=s})::X) J->iE A X n bf f (n.header id no h.r f.s) (.panicked lT) J:=by intro s J e a1;rw[e];exact⟨H,s,rfl,by rw[<-aH,<-aP];exact a1⟩
 refine ag ?_;refine yF [0,1,2,4,5,6,8,9,10,12,13,14,3,7,11,15,16,17,18,19] (λch ds U=>ds=[]/\(iE A X n bf f (n.header id no h.r f.s)) (.panicked ch) U) ah jb (λch I ds U h=>by obtain⟨rfl,h⟩:=h;exact aA _ _ _ _ ao h) ?_;refine ag ?_;refine iT oj a (oG (w:=2) a.fi rfl ai) (λx1 s1 J fz a1=>?_) (λfz s J a1=>⟨rfl,bad (by unfold N.header;rw[fz]) a1⟩);refine gf ?_;refine ag ?_;refine iT oj a1 (oG (w:=2) a1.fi rfl ai) (λx2 s2 cQ bZ a2=>?_) (λbZ s J a2=>⟨rfl,bad (by unfold N.header;rw[fz];simp only at bZ|-;rw[bZ]) a2⟩);simp only at bZ;refine gf ?_;refine ag ?_;refine iT oj a2 (oG (w:=4) a2.fi rfl ai) (λx3 s3 dB eN a3=>?_) (λeN s J a3=>⟨rfl,bad (by unfold N.header;rw[fz];simp only at eN|-;rw[bZ];simp only;rw[eN]) a3⟩);simp only at eN;refine gf ?_;refine ag ?_;refine iT oj a3 (oG (w:=4) a3.fi rfl ai) (λx4 s4 iu uN a4=>?_) (λuN s J a4=>⟨rfl,bad (by unfold N.header;rw[fz];simp only at uN|-;rw[bZ];simp only;rw[eN];simp only;rw[uN]) a4⟩);simp only at uN;refine gf ?_;refine ag ?_
 refine qD a4 (λhs=>?_) (λhs=>aA _ _ _ _ ao (bad (s:=s4) (by
  unfold N.header;rw[fz];simp only;rw[bZ];simp only;rw[eN];simp only;rw[uN]
  simp only at hs;cases s4 with
  |nil=>exact absurd rfl hs
  |cons x l=>rfl) a4))
 simp only at hs;subst hs;by_cases t1:x1≠60\/x2≠0
 ·have e:n.header id no h.r f.s=.ok n (.cL 502 60 40):=by unfold N.header;rw[fz];simp only;rw[bZ];simp only;rw[eN];simp only;rw[uN];simp only;rw[if_pos t1]
  by_cases k1:(x1:Int)=60
  ·have k2:¬(x2:Int)=0:=aa;simp only[go_sem,seval,eq_true k1,k2,decide_true,decide_false];refine aK (jY (e:=502) a4 aH aP) ?_;rintro v gB ⟨b,hv,a5⟩
   cases hv
   refine ag ?_;refine an aI ao ?_;rw[e];exact⟨A,H,b,_,by simp[up],.refl A,a5⟩
  ·simp only[go_sem,seval,k1,decide_true];refine aK (jY (e:=502) a4 aH aP) ?_;rintro v gB ⟨b,hv,a5⟩
   cases hv
   refine ag ?_;refine an aI ao ?_;rw[e];exact⟨A,H,b,_,by simp[up],.refl A,a5⟩
 have k1:(x1:Int)=60:=aa;have k2:(x2:Int)=0:=aa;simp only[go_sem,seval,eq_true k1,eq_true k2,decide_true,decide_false];by_cases t2:x3>0\/(x4:Int)>n.cfg.body
 ·have e:n.header id no h.r f.s=.ok n (.soft 311 60 40):=by unfold N.header;rw[fz];simp only;rw[bZ];simp only;rw[eN];simp only;rw[uN];simp only;rw[if_neg t1,if_pos t2]
  by_cases k3:(x3:Int)>0
  ·simp only[go_sem,seval,k3,decide_true];refine aK (xp (e:=311) a4 aH aP) ?_;rintro v gB ⟨b,hv,a5⟩
   cases hv
   refine ag ?_;refine an aI ao ?_;rw[e];exact⟨A,H,b,_,by simp[up],.refl A,a5⟩
  ·have k4:(x4:Int)>n.cfg.body:=aa;simp only[go_sem,seval,k3,k4,a4.bX hh,a4.eJ hc,a4.jG,decide_true,decide_false];refine aK (xp (e:=311) a4 aH aP) ?_;rintro v gB ⟨b,hv,a5⟩
   cases hv
   refine ag ?_;refine an aI ao ?_;rw[e];exact⟨A,H,b,_,by simp[up],.refl A,a5⟩
 have k3:¬(x3:Int)>0:=aa;have k4:¬(x4:Int)>n.cfg.body:=aa;have e:n.header id no h.r f.s=n.whole id no {h.r with want:=3,size:=x4,body:=[]}:=by unfold N.header;rw[fz];simp only;rw[bZ];simp only;rw[eN];simp only;rw[uN];simp only;rw[if_neg t1,if_neg t2]
 have GN:=a4.bX hh;simp only[go_sem,seval,k3,k4,GN,a4.eJ hc,a4.jG,decide_true,decide_false];have a5:=a4.yA hh λ_=>{h.r with want:=3,size:=(x4:Int),body:=[]};rw[Hp.set_set,Hp.set_set];generalize hZ:Hp.set iu (A.chan id no) _=gB;replace a5:=dP a5 hZ;refine dH Rg (Wj a5 hc hh aH aP P) ?_ (λch J hx=>aA _ _ _ _ ao ?_)
 ·intro v J hx;refine ag ?_;refine an aI ao ?_;rw[e]
  cases hw:n.whole id no {h.r with want:=3,size:=(x4:Int),body:=[]}<;>(rw[hw]at hx;exact sG hx (by simp[up]))
 ·rw[e]
  cases hw:n.whole id no {h.r with want:=3,size:=(x4:Int),body:=[]}<;>(rw[hw]at hx;exact hx)
end
section
variable {E:Env prog}{H:Hid}{n:N}{X:Ext}{U:Hp}{no:Nat}{c:CN}{h:HN}{b:Nat}{e:Nat}{cl:Nat}{me:Nat}{x:XN}{bf:Nat}{f:FR}{P:Program}{J:Hp}{r:HR}
variable {A:Lay}{id:Int}
def Ej {cl me:Nat}(aH:f.cl=(cl:Int))(aP:f.me=(me:Int))(x y:Nat):f.lD (x:Int) [(y:Int)]=decide (f.u.kind=1/\cl=x/\me=y):=by simp only[FR.lD,aH,aP,List.mem_singleton];by_cases h0:f.u.kind=1<;>by_cases h1:cl=x<;>by_cases h2:me=y<;>simp[h0,h1,h2]<;>omega
def aiS {cl me:Nat}(aH:f.cl=(cl:Int))(aP:f.me=(me:Int))(x y z:Nat):f.lD (x:Int) [(y:Int),(z:Int)]=decide (f.u.kind=1/\cl=x/\(me=y\/me=z)):=by simp only[FR.lD,aH,aP,List.mem_cons,List.not_mem_nil,or_false];by_cases h0:f.u.kind=1<;>by_cases h1:cl=x<;>by_cases h2:me=y<;>by_cases h3:me=z<;>simp[h0,h1,h2,h3]<;>omega
structure FH (n:N) (id:Int) (no:Nat) (c:CN) (h:HN):Prop where
 M:I8 n id no c h
 P:yR n
 want:0<=h.r.want/\h.r.want<=3
 body:h.r.body.length<=500000
 rel:yL n id no h
def adz {cl me:Nat}(a:aq A H n ((bf,bP f)::X) U)(F:FH n id no c h)(hc:n.ar id=some c)(hh:n.h? id no=some h)(aH:f.cl=(cl:Int))(aP:f.me=(me:Int))(jJ:f.s.length<=500000):
 ay E 231 #[pV (A.chan id no),pV bf] U (iE A X n bf f (n.js id no h f.u.kind f.s cl me)):=by
 refine aX func231 ntmps231 results231 λQ aD an aA=>?_;have eH:=F.M.yj;have eS:=F.M.out;have dR:=a.bX hh
 cases wv:h.r.closing with
 |true=>
  rw[wv]at dR;refine aJ dR ?_;refineλb1 jd=>?_;refine ag ?_;have o1:=a.fresh jd;generalize nD:Hp.set U b1 _=cX;have a1:aq A H n ((bf,bP f)::X) cX:=dP (o1 _) nD;have j8:cX.f b1=some (.cells (([40]:List Int).map iV++[]).toArray 3 (0,0)):=by rw[<-nD];exact Hp.bD _ _
  refine aT (uU (ms:=[40]) (pad:=[]) a1.eK j8 al) ?_;have i1:f.lD 20 [40]=decide (f.u.kind=1/\cl=20/\me=40):=Ej aH aP 20 40;have i2:f.lD 20 [40,41]=decide (f.u.kind=1/\cl=20/\(me=40\/me=41)):=aiS aH aP 20 40 41;by_cases m1:f.u.kind=1/\cl=20/\me=40
  ·have e:n.js id no h f.u.kind f.s cl me=.ok ((n.send id (bK no 20 41 [])).oY id no) .nil:=by unfold N.js;rw[wv,if_pos rfl,if_pos m1]
   rw[decide_eq_true m1]at i1;rw[decide_eq_true ⟨m1.1,m1.2.1,.inl m1.2.2⟩]at i2;refine aJ i1 ?_;refine bG 9 ?_;refine aJ (a1.bX hh) ?_;refine aK (pS (ch:=no) (cl:=20) (me:=41) (xs:=[]) a1 hc (.inl ⟨rfl,rfl⟩) al al aa ai ai (by simp[dg]) aa) ?_;rintro v iu ⟨hv,a5⟩
   cases hv
   have zw:(n.send id (bK no 20 41 [])).h? id no=some h:=by rw[pZ];exact hh
   have lz:(n.send id (bK no 20 41 [])).ar id=some {c with r:={c.r with out:=c.r.out++bK no 20 41 [],iq:=n.clock}}:=by rw[sZ,if_pos rfl,hc];rfl
   refine⟨by(repeat(first|exact jL|(apply jK;(focus decide+kernel))|(refine lF rfl (aQ (a5.bX zw)) ?_))),?_⟩;refine ag ?_;refineλb2 fO=>?_;refine ag ?_;have o2:=a5.fresh fO;generalize v8:Hp.set iu b2 _=jm;have a6:aq A H (n.send id (bK no 20 41 [])) ((bf,bP f)::X) jm:=dP (o2 _) v8;have iH:jm.f b2=some (.cells (([40,41]:List Int).map iV++[]).toArray 3 (0,0)):=by rw[<-v8];exact Hp.bD _ _
   refine aT (uU (ms:=[40,41]) (pad:=[]) a6.eK iH al) ?_;refine aJ i2 ?_;refine aK (JU a6 lz zw F.M.fin) ?_;rintro v gB ⟨hv,H2,a7⟩
   cases hv
   refine ag ?_;refine an aI ao ?_;rw[e];exact⟨A,H2,0,_,by simp[up,Er.v],.refl A,a7⟩
  rw[decide_eq_false m1]at i1;refine aJ i1 ?_;refineλb2 fO=>?_;refine ag ?_;have o2:=a1.fresh fO;generalize v8:Hp.set cX b2 _=jm;have a2:aq A H n ((bf,bP f)::X) jm:=dP (o2 _) v8;have iH:jm.f b2=some (.cells (([40,41]:List Int).map iV++[]).toArray 3 (0,0)):=by rw[<-v8];exact Hp.bD _ _
  refine aT (uU (ms:=[40,41]) (pad:=[]) a2.eK iH al) ?_;by_cases m2:f.u.kind=1/\cl=20/\me=41
  ·have e:n.js id no h f.u.kind f.s cl me=.ok (n.oY id no) .nil:=by unfold N.js;rw[wv,if_pos rfl,if_neg m1,if_pos m2]
   rw[decide_eq_true ⟨m2.1,m2.2.1,.inr m2.2.2⟩]at i2;refine aJ i2 ?_;refine aK (JU a2 hc hh F.rel) ?_;rintro v gB ⟨hv,H2,a7⟩
   cases hv
   refine ag ?_;refine an aI ao ?_;rw[e];exact⟨A,H2,0,_,by simp[up,Er.v],.refl A,a7⟩
  ·have e:n.js id no h f.u.kind f.s cl me=.ok n .nil:=by unfold N.js;rw[wv,if_pos rfl,if_neg m1,if_neg m2]
   rw[decide_eq_false (λ⟨x,y,z⟩=>z.elim (λz=>m1 ⟨x,y,z⟩) (λz=>m2 ⟨x,y,z⟩))]at i2;refine aJ i2 ?_;refine an aI ao ?_;rw[e];exact⟨A,H,0,_,by simp[up,Er.v],.refl A,a2⟩
 |false=>
  rw[wv]at dR;have hf:=a.fi;refine aJ dR ?_;refine bG 11 ?_;refine bu dR hf ?_;refine akJ (a:=h.r.want) (b:=1) ?_ ?_ ?_
  ·exact au
  ·exact au
  refine⟨dL hf,?_⟩;by_cases t1:f.u.kind=max h.r.want 1
  rotate_left
  ·have e:n.js id no h f.u.kind f.s cl me=.ok n (.cL 505 cl me):=by unfold N.js;rw[wv,if_neg Bool.false_ne_true,if_pos t1]
   refine aJ t1 ?_;refine aK (jY (e:=505) a aH aP) ?_;rintro v iu ⟨b,hv,a4⟩
   cases hv
   refine ag ?_;refine an aI ao ?_;rw[e];exact⟨A,H,b,_,by simp[up],.refl A,a4⟩
  obtain⟨w1,w2⟩:=F.want;have Sp:f.u.kind=1\/f.u.kind=2\/f.u.kind=3:=aa;simp only[go_sem,seval,hf,eq_true t1,decide_true];rcases Sp with k1|k2|k3
  ·have e:n.js id no h f.u.kind f.s cl me=n.method id no h f.s cl me:=by unfold N.js;rw[wv,if_neg Bool.false_ne_true,if_neg (by simpa using t1),if_neg aa,if_neg aa]
   have n2:¬f.u.kind=2:=aa;have n3:¬f.u.kind=3:=aa;simp only[go_sem,seval,n2,n3,decide_false];refine dH aeh (akR a F.M hc hh k1 aH aP aa) ?_ (λch J hx=>aA _ _ _ _ ao (by rw[e];exact hx));intro v J hx;refine ag ?_;exact an aI ao (by rw[e];exact sG hx (by simp[up]))
  ·have e:n.js id no h f.u.kind f.s cl me=n.header id no h.r f.s:=by unfold N.js;rw[wv,if_neg Bool.false_ne_true,if_neg (by simpa using t1),if_pos k2]
   simp only[go_sem,seval,hf,eq_true k2,decide_true];have a2:=a.vq (bP {f with cl:=60,me:=40});rw[Hp.set_set];generalize hZ:Hp.set U bf _=cQ;replace a2:=dP a2 hZ;refine dH aef (afW a2 hc hh rfl rfl F.P) ?_ (λch J hx=>aA _ _ _ _ ao ?_)
   ·intro v J hx;refine ag ?_;refine an aI ao ?_;rw[e]
    cases hw:n.header id no h.r f.s<;>(rw[hw]at hx;exact sG hx (by simp[up]))
   ·rw[e]
    cases hw:n.header id no h.r f.s<;>(rw[hw]at hx;exact hx)
  ·have e:n.js id no h f.u.kind f.s cl me=n.part id no h.r f.s:=by unfold N.js;rw[wv,if_neg Bool.false_ne_true,if_neg (by simpa using t1),if_neg aa,if_pos k3]
   have n2:¬f.u.kind=2:=aa;simp only[go_sem,seval,hf,n2,eq_true k3,decide_true,decide_false];have a2:=a.vq (bP {f with cl:=60,me:=40});rw[Hp.set_set];generalize hZ:Hp.set U bf _=cQ;replace a2:=dP a2 hZ;have hbo:=F.body;refine dH aeg (amW a2 hc hh rfl rfl F.P (by show _+f.s.length<=_;omega)) ?_ (λch J hx=>aA _ _ _ _ ao ?_)
   ·intro v J hx;refine ag ?_;refine an aI ao ?_;rw[e]
    cases hw:n.part id no h.r f.s<;>(rw[hw]at hx;exact sG hx (by simp[up]))
   ·rw[e]
    cases hw:n.part id no h.r f.s<;>(rw[hw]at hx;exact hx)
def abO {cl me:Nat}(a:aq A H n ((bf,bP f)::X) U)(hc:n.ar id=some c)(R:AF n id c)(aH:f.cl=(cl:Int))(aP:f.me=(me:Int))(eS:c.r.out.length<=100000000000000):
 ay E 191 #[pV (A.conn id),pV bf] U (iE A X n bf f (n.control id f.u.kind f.s cl me)):=by
 refine aX func191 ntmps191 results191 λQ aD an aA=>?_;refine ag ?_;refineλb1 jd=>?_;refine ag ?_;have o1:=a.fresh jd;generalize nD:Hp.set U b1 _=cX;have a1:aq A H n ((bf,bP f)::X) cX:=dP (o1 _) nD;have j8:cX.f b1=some (.cells (([50]:List Int).map iV++[]).toArray 3 (0,0)):=by rw[<-nD];exact Hp.bD _ _
 refine aT (uU (ms:=[50]) (pad:=[]) a1.eK j8 al) ?_;have i1:f.lD 10 [50]=decide (f.u.kind=1/\cl=10/\me=50):=Ej aH aP 10 50;by_cases m1:f.u.kind=1/\cl=10/\me=50
 rotate_left
 ·have e:n.control id f.u.kind f.s cl me=.ok n (.cL 503 cl me):=by unfold N.control;rw[if_neg m1]
  rw[decide_eq_false m1]at i1;refine aJ i1 ?_;refine aK (jY (e:=503) a1 aH aP) ?_;rintro v iu ⟨b,hv,a4⟩
  cases hv
  refine ag ?_;refine an aI ao ?_;rw[e];exact⟨A,H,b,_,by simp[up],.refl A,a4⟩
 rw[decide_eq_true m1]at i1;refine aJ i1 ?_;refine dH Rf (QK a1) ?_ (λch J hx=>aA _ _ _ _ ao ?_)
 rotate_left
 ·rcases hx with⟨_,h,_⟩|⟨hp,h,s,a4⟩
  ·cases h
  ·cases h
   have e:n.control id f.u.kind f.s cl me=.bad cl me:=by
    unfold N.control;rw[if_pos m1];cases hq:sD f.s with
    |none=>rfl
    |some l=>cases l with
     |nil=>exact absurd hq hp
     |cons x l=>rfl
   rw[e];exact⟨H,s,rfl,by rw[<-aH,<-aP];exact a4⟩
 rintro v dB (⟨hp,hv,a4⟩|⟨_,h,_⟩)
 rotate_left
 ·cases h
 cases hv
 have e:n.control id f.u.kind f.s cl me=.ok (((n.leave id).send id (bK 0 10 51 [])).bA id λr=>{r with ph:=5}) .nil:=by unfold N.control;rw[if_pos m1,hp]
 refine ag ?_;refine aK (Me a4 hc R) ?_;rintro v gB ⟨hv,H2,a5⟩
 cases hv
 have lz:∃c1,(n.leave id).ar id=some c1/\c1.r=c.r:=by
  have e:n.leave id=(n.gV id c.ch).dN id λc=>{c with ch:=[]}:=by unfold N.leave;rw[hc];rfl
  obtain⟨c1,cG,ec⟩:=B7 (E4.trans (B5 hc):(n.gV id c.ch).rC id=some c.r);exact⟨{c1 with ch:=[]},by rw[e];simp[cG],ec⟩
 obtain⟨c1,cG,ec⟩:=lz;refine ag ?_;refine aK (pS (ch:=0) (cl:=10) (me:=51) (xs:=[]) a5 cG (.inl ⟨rfl,rfl⟩) al al ai ai ai (by simp[dg]) (by rw[ec];omega)) ?_;rintro v xv ⟨hv,a6⟩
 cases hv
 have iz:((n.leave id).send id (bK 0 10 51 [])).ar id=some {c1 with r:={c1.r with out:=c1.r.out++bK 0 10 51 [],iq:=(n.leave id).clock}}:=by rw[sZ,if_pos rfl,cG];rfl
 refine aJ (a6.eJ iz) ?_;have a7:=a6.mQ iz λr=>{r with ph:=5};refine an aI ao ?_;rw[e];exact⟨A,H2,0,_,by simp[up,Er.v],.refl A,dP a7 rfl⟩
end
section
variable {E:Env prog}{H:Hid}{n:N}{X:Ext}{U:Hp}{no:Nat}{c:CN}{h:HN}{b:Nat}{e:Nat}{cl:Nat}{me:Nat}{nm:List UInt8}{k:Int}{x:XN}{bf:Nat}{f:FR}{J:Hp}{r:HR}
variable {A:Lay}{id:Int}
def amz {cl me:Nat}(a:aq A H n ((bf,bP f)::X) U)(w:Wf n)(hc:n.ar id=some c)(F:∀h,n.h? id no=some h->FH n id no c h)(dR:f.u.channel=(no:Int))(eH:no<1000000)(aH:f.cl=(cl:Int))(aP:f.me=(me:Int))(eS:c.r.out.length<=100000000000000)(jJ:f.s.length<=500000):
 ay E 192 #[pV (A.conn id),pV bf] U (iE A X n bf f (n.kW id c no f.u.kind f.s cl me)):=by
 have hf:=a.fi;rw[dR]at hf;have cT:=a.eJ hc;obtain⟨l,k,m1,m2,m3⟩:=a.chm hc;have i1:f.lD 20 [10]=decide (f.u.kind=1/\cl=20/\me=10):=Ej aH aP 20 10;by_cases t1:(no:Int)>c.r.cZ
 ·have e:n.kW id c no f.u.kind f.s cl me=.ok n (.cL 504 cl me):=by unfold N.kW;rw[if_pos t1]
  refine aX func192 ntmps192 results192 λQ aD an aA=>?_;refine ag ?_;refine bG 10 ?_;simp only[go_sem,seval,cT,hf,t1,decide_true];refine aK (jY (e:=504) a aH aP) ?_;rintro v iu ⟨b,hv,a4⟩
  cases hv
  refine ag ?_;refine an aI ao ?_;rw[e];exact⟨A,H,b,_,by simp[up],.refl A,a4⟩
 cases hg:bq c.ch no with
 |some h=>
  have hh:n.h? id no=some h:=by unfold N.h?;rw[hc];exact hg
  have e:n.kW id c no f.u.kind f.s cl me=n.js id no h f.u.kind f.s cl me:=by unfold N.kW;rw[if_neg t1,hg]
  obtain⟨st,bw⟩:=sw m2 m3 (List.mem_map_of_mem (f:=λe:Nat×HN=>((e.1:Int),pV (A.chan id e.1))) (iZ hg));have de:((dq l (no:Int)).map (·.2.1)).getD (.pointer none)=pV (A.chan id no):=by rw[bw];rfl
  refine aX func192 ntmps192 results192 λQ aD an aA=>?_;refine ag ?_;refine bG 10 ?_;simp only[go_sem,seval,cT,hf,t1,decide_false];refine bG 11 ?_;refine bu cT hf ?_;refine jy (b:=H.chm id) (k:=(no:Int)) (l:=l) (c:=k) uZ (z:=.pointer none) ah ?_ m1 ?_ ?_
  ·exact au
  ·exact au
  refine⟨jg hf cT,?_⟩;simp only[go_sem,seval,de,Bool.false_eq_true];refine dH aee (adz a (F h hh) hc hh aH aP jJ) ?_ (λch J hx=>aA _ _ _ _ ao (by rw[e];exact hx));intro v J hx;refine ag ?_;exact an aI ao (by rw[e];exact sG hx (by simp[up]))
 |none=>
 have D1:∀e∈(c.ch.map λe=>((e.1:Int),pV (A.chan id e.1))),e.1≠(no:Int):=λe he=>by obtain⟨y,hy,rfl⟩:=List.mem_map.1 he;have:=ja hg y hy;show(y.1:Int)≠no;omega
 have hl:dq l (no:Int)=none:=map_none m3 D1;by_cases k1:f.u.kind=1/\cl=20/\me=10
 ·rw[decide_eq_true k1]at i1;by_cases ht:∃s0,jB f.s=some (s0,[])
  ·obtain⟨s0,ht⟩:=ht
   have e:n.kW id c no f.u.kind f.s cl me=.ok ((n.dN id λc=>{c with ch:=da lG c.ch no ⟨gu,[],[]⟩}).send id (bK no 20 11 [.long 0])) .nil:=by unfold N.kW;rw[if_neg t1,hg];simp only;rw[if_pos k1,ht]
   refine(amy a.gw (a.conn hc) m1 m2.uniq a.eK dR eH aa hl i1 ht eS).mono ?_;rintro e' J ⟨rfl,un,co,hb,u1,u2,u3,n1,n2,n3,rfl⟩;rw[e];have a1:=a.vq (bP {f with s:=[]})
   have fresh:∀{x},U.f x=none->(U.set bf (bP {f with s:=[]})).f x=none:=λ{x} hx=>by rw[Hp.az (bj hx a.eK)];exact hx
   obtain⟨d1,d2⟩:=EJ m2 m3 D1 (pV hb)
   have G2:(c.ch.map λe=>((e.1:Int),pV ((A.setChan id no hb un co).chan id e.1)))=c.ch.map λe=>((e.1:Int),pV (A.chan id e.1)):=List.map_congr_left λe he=>by have:¬e.1=no:=ja hg e he;simp[Lay.setChan,this]
   have jd:(A.setChan id no hb un co).chan id no=hb:=by simp[Lay.setChan]
   have a2:=a1.ale w hc hg (hb:=hb) (ub:=un) (cb:=co) (fresh u1) (fresh u2) (fresh u3) (λe=>n1 e.symm) n2 n3 (o:=aV aY (jz l (no:Int) (pV hb) k) (jM l (no:Int) k)) ⟨_,_,rfl,d1,by
    refine d2.trans (List.Perm.symm ?_)
    refine((vH (lt:=lG) c.ch no ⟨gu,[],[]⟩).map _).trans ?_
    simp only[List.map_cons,jd,G2]
    exact List.Perm.refl _⟩
   have dX:(n.dN id λc=>{c with ch:=da lG c.ch no ⟨gu,[],[]⟩}).ar id=some {c with ch:=da lG c.ch no ⟨gu,[],[]⟩}:=by simp[hc]
   have a3:=a2.mQ dX λr=>{r with out:=r.out++bK no 20 11 [.long 0],iq:=n.clock};exact⟨A.setChan id no hb un co,H,0,_,rfl,⟨rfl,rfl,rfl⟩,a3⟩
  ·have e:n.kW id c no f.u.kind f.s cl me=.bad cl me:=by
    unfold N.kW;rw[if_neg t1,hg];simp only;rw[if_pos k1]
    cases hp:jB f.s with
    |none=>rfl
    |some p=>
     obtain⟨x,y⟩:=p
     cases y with
     |nil=>exact absurd ⟨x,hp⟩ ht
     |cons z y=>rfl
   have de:((dq l (no:Int)).map (·.2.1)).getD (.pointer none)=.pointer none:=by rw[hl];rfl
   refine aX func192 ntmps192 results192 λQ aD an aA=>?_;refine ag ?_;refine bG 10 ?_;simp only[go_sem,seval,cT,hf,t1,decide_false];refine bG 11 ?_;refine bu cT hf ?_;refine jy (b:=H.chm id) (k:=(no:Int)) (l:=l) (c:=k) uZ (z:=.pointer none) ah ?_ m1 ?_ ?_
   ·exact au
   ·exact au
   refine⟨jg hf cT,?_⟩;simp only[go_sem,seval,de,Bool.false_eq_true];refineλb1 jd=>?_;refine ag ?_;have o1:=a.fresh jd;generalize nD:Hp.set U b1 _=cX;have a1:aq A H n ((bf,bP f)::X) cX:=dP (o1 _) nD;have j8:cX.f b1=some (.cells (([10]:List Int).map iV++[]).toArray 3 (0,0)):=by rw[<-nD];exact Hp.bD _ _
   refine aT (uU (ms:=[10]) (pad:=[]) a1.eK j8 al) ?_;refine aJ i1 ?_;refine iT s8 a1 (tU a1.fi rfl) (λnm rest J hr a2=>?_) (λhr s J a2=>aA _ _ _ _ ao (by rw[e];exact⟨H,s,rfl,by rw[<-aH,<-aP];exact a2⟩));refine ag ?_;refine qD a2 (λhs=>?_) (λhs=>aA _ _ _ _ ao (by rw[e];exact⟨H,rest,rfl,by rw[<-aH,<-aP];exact a2⟩));simp only at hs;subst hs;exact absurd ⟨nm,hr⟩ ht
 ·have e:n.kW id c no f.u.kind f.s cl me=.ok n (.cL 504 cl me):=by unfold N.kW;rw[if_neg t1,hg];simp only;rw[if_neg k1]
  rw[decide_eq_false k1]at i1;have de:((dq l (no:Int)).map (·.2.1)).getD (.pointer none)=.pointer none:=by rw[hl];rfl
  refine aX func192 ntmps192 results192 λQ aD an aA=>?_;refine ag ?_;refine bG 10 ?_;simp only[go_sem,seval,cT,hf,t1,decide_false];refine bG 11 ?_;refine bu cT hf ?_;refine jy (b:=H.chm id) (k:=(no:Int)) (l:=l) (c:=k) uZ (z:=.pointer none) ah ?_ m1 ?_ ?_
  ·exact au
  ·exact au
  refine⟨jg hf cT,?_⟩;simp only[go_sem,seval,de,Bool.false_eq_true];refineλb1 jd=>?_;refine ag ?_;have o1:=a.fresh jd;generalize nD:Hp.set U b1 _=cX;have a1:aq A H n ((bf,bP f)::X) cX:=dP (o1 _) nD;have j8:cX.f b1=some (.cells (([10]:List Int).map iV++[]).toArray 3 (0,0)):=by rw[<-nD];exact Hp.bD _ _
  refine aT (uU (ms:=[10]) (pad:=[]) a1.eK j8 al) ?_;refine aJ i1 ?_;refine aK (jY (e:=504) a1 aH aP) ?_;rintro v iu ⟨b,hv,a4⟩
  cases hv
  refine ag ?_;refine an aI ao ?_;rw[e];exact⟨A,H,b,_,by simp[up],.refl A,a4⟩
end
section
variable {E:Env prog}{H:Hid}{n:N}{X:Ext}{U:Hp}{c:CN}{h:HN}{b:Nat}{e:Nat}{cl:Nat}{me:Nat}{nm:List UInt8}{m:aM}{k:Int}{x:XN}{bf:Nat}{f:FR}{I:av}{ds:List Deferred}{J:Hp}{r:HR}
variable {A:Lay}{id:Int}
def Y0 {cl me:Nat}(a:aq A H n ((bf,bP f)::X) U)(hc:n.ar id=some c)(qi:c.r.ph=1\/c.r.ph=2)(aH:f.cl=(cl:Int))(aP:f.me=(me:Int))(eS:c.r.out.length<=100000000000000):
 ay E 190 #[pV (A.conn id),pV bf] U (iE A X n bf f (n.begin id c f.u.channel f.u.kind f.s cl me)):=by
 refine aX func190 ntmps190 results190 λQ aD an aA=>?_;refine ag ?_;refineλm hm=>?_;have nm:∀{x o},U.f x=some o->¬x=m:=λh e=>by subst e;rw[hm]at h;cases h
 refine ag ?_;refine Tm (b:=m) (k:=1) (l:=[]) (c:=0) (w:=iV 31) (l':=[(1,iV 31,0)]) (c':=1) L3 (by simp[jW]) ?_ aZ ?_ ?_ rfl rfl ?_
 ·exact au
 ·exact au
 ·exact au
 intro fA sr;have pg:fA.f m=some (aV aY [(1,iV 31,0)] 1):=by rw[sr];exact Hp.bD _ _
 refine ag ?_;refine Tm (b:=m) (k:=2) (l:=[(1,iV 31,0)]) (c:=1) (w:=iV 40) (l':=[(1,iV 31,0),(2,iV 40,1)]) (c':=2) L3 (by simp[jW]) ?_ pg ?_ ?_ rfl rfl ?_
 ·exact au
 ·exact au
 ·exact au
 intro J fF;have uF:J.f m=some (aV aY [(1,iV 31,0),(2,iV 40,1)] 2):=by rw[fF];exact Hp.bD _ _
 have hle:U.le J:=λx y h=>by rw[fF,Hp.az (nm h),sr,Hp.az (nm h),Hp.az (nm h)];exact h
 clear fF sr pg;have a1:=a.le hle;have cG:=a1.eJ hc;refine aJ cG ?_;refine jy (b:=m) (k:=c.r.ph) (l:=[(1,iV 31,0),(2,iV 40,1)]) (c:=2) L3 (z:=iV 0) ah ?_ uF ?_ ?_
 ·exact au
 ·exact au
 obtain⟨W,hW⟩:∃W:Nat,W=if c.r.ph=1 then 31 else 40:=⟨_,rfl⟩
 have de:((dq [((1:Int),iV 31,0),(2,iV 40,1)] c.r.ph).map (·.2.1)).getD (iV 0)=iV W:=by rcases qi with h|h<;>(rw[hW,h];rfl)
 simp only[go_sem,seval,de,Bool.false_eq_true];refineλbm dK=>?_;refine ag ?_;have o1:=a1.fresh dK;generalize nD:Hp.set J bm _=cX;have a2:aq A H n ((bf,bP f)::X) cX:=dP (o1 _) nD;have j8:cX.f bm=some (.cells (([(W:Int)]:List Int).map iV++[]).toArray 3 (0,0)):=by rw[<-nD];exact Hp.bD _ _
 refine aT (uU (ms:=[(W:Int)]) (pad:=[]) a2.eK j8 al) ?_;have i1:f.lD 10 [(W:Int)]=decide (f.u.kind=1/\cl=10/\me=W):=Ej aH aP 10 W;by_cases k1:f.u.kind=1/\cl=10/\me=W
 rotate_left
 ·have e:n.begin id c f.u.channel f.u.kind f.s cl me=.ok n (.cL 503 cl me):=by unfold N.begin;rw[<-hW,if_pos (.inl k1)]
  rw[decide_eq_false k1]at i1;refine aJ i1 ?_;refine aK (jY (e:=503) (a2) aH aP) ?_;rintro v vD ⟨b,hv,a9⟩
  cases hv
  refine ag ?_;refine an aI ao ?_;rw[e];exact⟨A,H,b,_,by simp[up],.refl A,a9⟩
 rw[decide_eq_true k1]at i1;have Sg:=a2.fi;by_cases k2:f.u.channel=0
 rotate_left
 ·have e:n.begin id c f.u.channel f.u.kind f.s cl me=.ok n (.cL 503 cl me):=by unfold N.begin;rw[if_pos (.inr k2)]
  refine bR i1 Sg k2 ?_;refine aK (jY (e:=503) (a2) aH aP) ?_;rintro v vD ⟨b,hv,a9⟩
  cases hv
  refine ag ?_;refine an aI ao ?_;rw[e];exact⟨A,H,b,_,by simp[up],.refl A,a9⟩
 have kn:¬(¬(f.u.kind=1/\cl=10/\me=(if c.r.ph=1 then 31 else 40))\/f.u.channel≠0):=by rw[<-hW];exactλh=>h.elim (λh=>h k1) (λh=>h k2)
 have dX:=a2.eJ hc;simp only[go_sem,seval,i1,Sg,eq_true k2,decide_true,dX]
 have bad:∀{s:List UInt8} {J:Hp},n.begin id c f.u.channel f.u.kind f.s cl me=.bad cl me->aq A H n ((bf,bP {f with s:=s})::X) J->iE A X n bf f (n.begin id c f.u.channel f.u.kind f.s cl me) (.panicked lT) J:=by intro s J e a1;rw[e];exact⟨H,s,rfl,by rw[<-aH,<-aP];exact a1⟩
 by_cases p2:c.r.ph=2
 ·simp only[go_sem,seval,eq_true p2,decide_true];refine iT s8 a2 (tU a2.fi rfl) (λtx rest J hr a3=>?_) (λhr s J a3=>aA _ _ _ _ ao (bad (by unfold N.begin;rw[if_neg kn,if_pos p2,hr]) a3));refine ag ?_
  refine qD a3 (λhs=>?_) (λhs=>aA _ _ _ _ ao (bad (s:=rest) (by
   unfold N.begin;rw[if_neg kn,if_pos p2,hr]
   simp only at hs;cases rest with
   |nil=>exact absurd rfl hs
   |cons x l=>rfl) a3))
  simp only at hs;subst hs;have e:n.begin id c f.u.channel f.u.kind f.s cl me=.ok ((n.bA id λr=>{r with ph:=3}).send id (bK 0 10 41 [.text []])) .nil:=by unfold N.begin;rw[if_neg kn,if_pos p2,hr]
  refine aJ (a3.eJ hc) ?_;have a4:=a3.mQ hc λr=>{r with ph:=3};generalize hZ:Hp.set J (A.conn id) _=cQ;replace a4:=dP a4 hZ;have hc4:(n.bA id λr=>{r with ph:=3}).ar id=some {c with r:={c.r with ph:=3}}:=by simp[hc]
  refineλba ib=>?_;have a5:=λo=>a4.fresh ib o;refine ag ?_;refine aK (pS (ch:=0) (cl:=10) (me:=41) (xs:=[.text []]) (a5 _) hc4 (.inr ⟨ba,rfl,aZ⟩) (by simp[lh]) al ai ai ai ai (by show c.r.out.length<=_;omega)) ?_;rintro v xv ⟨hv,a6⟩
  cases hv
  refine ag ?_;refine an aI ao ?_;rw[e];exact⟨A,H,0,_,by simp[up,Er.v],.refl A,a6⟩
 simp only[go_sem,seval,p2,decide_false];refine yF [0,1,2,4,5,6,8,9,10,3,7,11,12,13,14] (λch ds U=>ds=[]/\(iE A X n bf f (n.begin id c f.u.channel f.u.kind f.s cl me)) (.panicked ch) U) ah jb (λch I ds U h=>by obtain⟨rfl,h⟩:=h;exact aA _ _ _ _ ao h) ?_;refine ag ?_;refine iT oj a2 (oG (w:=2) a2.fi rfl ai) (λx1 s1 dB fz a3=>?_) (λfz s J a3=>⟨rfl,bad (by unfold N.begin;rw[if_neg kn,if_neg p2,fz]) a3⟩);refine gf ?_;refine ag ?_;refine iT oj a3 (oG (w:=4) a3.fi rfl ai) (λx2 s2 iu bZ a4=>?_) (λbZ s J a4=>⟨rfl,bad (by unfold N.begin;rw[if_neg kn,if_neg p2,fz];simp only at bZ|-;rw[bZ]) a4⟩);simp only at bZ;refine gf ?_;refine ag ?_;refine iT oj a4 (oG (w:=2) a4.fi rfl ai) (λx3 s3 gB eN a5=>?_) (λeN s J a5=>⟨rfl,bad (by unfold N.begin;rw[if_neg kn,if_neg p2,fz];simp only at eN|-;rw[bZ];simp only;rw[eN]) a5⟩);simp only at eN;refine gf ?_;refine ag ?_
 refine qD a5 (λhs=>?_) (λhs=>aA _ _ _ _ ao (bad (s:=s3) (by
  unfold N.begin;rw[if_neg kn,if_neg p2,fz];simp only;rw[bZ];simp only;rw[eN]
  simp only at hs;cases s3 with
  |nil=>exact absurd rfl hs
  |cons x l=>rfl) a5))
 simp only at hs;subst hs;refine bu (a5.eJ hc) a5.jG ?_;refineλba ib=>?_;refine ag ?_;rw[Hp.set_set];have a6:=λo=>a5.fresh ib o;have mE:=λo=>(a6 o).eJ hc
 have e0:n.begin id c f.u.channel f.u.kind f.s cl me=if x1<1\/(x1:Int)>n.cfg.jq\/x2<64\/(x2:Int)>n.cfg.frame\/(x3:Int)>n.cfg.gD then .ok n (.cL 530 cl me)
  else .ok (n.bA id λr=>{r with cZ:=x1,frame:=x2,gD:=x3,ph:=2}) .nil:=by
  unfold N.begin;rw[if_neg kn,if_neg p2,fz];simp only;rw[bZ];simp only;rw[eN]
 by_cases d1:(x1:Int)<1
 ·have e:=e0.trans (if_pos (.inl aa));simp only[go_sem,seval,d1,decide_true];refine aK (jY (f:={f with s:=[]}) (e:=530) (a6 _) aH aP) ?_;rintro v vD ⟨b,hv,a9⟩
  cases hv
  refine ag ?_;refine an aI ao ?_;rw[e];exact⟨A,H,b,_,by simp[up],.refl A,a9⟩
 by_cases d2:(x1:Int)>n.cfg.jq
 ·have e:=e0.trans (if_pos (.inr (.inl d2)));simp only[go_sem,seval,d1,d2,decide_true,decide_false];refine aK (jY (f:={f with s:=[]}) (e:=530) (a6 _) aH aP) ?_;rintro v vD ⟨b,hv,a9⟩
  cases hv
  refine ag ?_;refine an aI ao ?_;rw[e];exact⟨A,H,b,_,by simp[up],.refl A,a9⟩
 by_cases d3:(x2:Int)<64
 ·have e:=e0.trans (if_pos (.inr (.inr (.inl aa))));simp only[go_sem,seval,d1,d2,d3,decide_true,decide_false];refine aK (jY (f:={f with s:=[]}) (e:=530) (a6 _) aH aP) ?_;rintro v vD ⟨b,hv,a9⟩
  cases hv
  refine ag ?_;refine an aI ao ?_;rw[e];exact⟨A,H,b,_,by simp[up],.refl A,a9⟩
 by_cases d4:(x2:Int)>n.cfg.frame
 ·have e:=e0.trans (if_pos (.inr (.inr (.inr (.inl d4)))));simp only[go_sem,seval,d1,d2,d3,d4,decide_true,decide_false];refine aK (jY (f:={f with s:=[]}) (e:=530) (a6 _) aH aP) ?_;rintro v vD ⟨b,hv,a9⟩
  cases hv
  refine ag ?_;refine an aI ao ?_;rw[e];exact⟨A,H,b,_,by simp[up],.refl A,a9⟩
 by_cases d5:(x3:Int)>n.cfg.gD
 ·have e:=e0.trans (if_pos (.inr (.inr (.inr (.inr d5)))));simp only[go_sem,seval,d1,d2,d3,d4,d5,decide_true,decide_false];refine aK (jY (f:={f with s:=[]}) (e:=530) (a6 _) aH aP) ?_;rintro v vD ⟨b,hv,a9⟩
  cases hv
  refine ag ?_;refine an aI ao ?_;rw[e];exact⟨A,H,b,_,by simp[up],.refl A,a9⟩
 have e:=e0.trans (if_neg aa);simp only[go_sem,seval,d1,d2,d3,d4,d5,decide_true,decide_false,mE];have a7:=λo=>(a6 o).mQ hc λr=>{r with cZ:=(x1:Int),frame:=(x2:Int),gD:=(x3:Int),ph:=2};refine an aI ao ?_;rw[e];exact⟨A,H,0,_,by simp[up,Er.v],.refl A,dP (a7 _) (by first|rfl|(simp only[Hp.set_set];rfl))⟩
end
section
variable {H:Hid}{n:N}{X:Ext}{U:Hp}{h:HN}{e:Nat}{g:Option (Nat×Bool)}{r:HR}
variable {A:Lay}
def aq.Ah (a:aq A H n X U){Y:Ext}(g:Nat->Nat)(hg:∀i,i<Y.length->Y[i]? =X[g i]?)(hi:∀i j,i<Y.length->j<Y.length->g i=g j->i=j):aq A H n Y U:=by
 have key:∀r,(view n A H Y r).isSome->∃r',view n A H Y r=view n A H X r'/\cI A H Y r=cI A H X r'/\((r'=r/\∀i,r≠.ext i)\/∃i,i<Y.length/\r=.ext i/\r'=.ext (g i)):=by
  intro r hr;by_cases he:∃i,r=.ext i
  ·obtain⟨i,rfl⟩:=he
   have hl:i<Y.length:=by
    by_cases h:i<Y.length
    ·exact h
    ·simp[view,List.getElem?_eq_none (Nat.le_of_not_lt h)]at hr
   exact⟨.ext (g i),by simp only[view,hg i hl],by simp only[cI,hg i hl],.inr ⟨i,hl,rfl,rfl⟩⟩
  ·refine⟨r,?_,?_,.inl ⟨rfl,λi e=>he ⟨i,e⟩⟩⟩<;>cases r<;>first|rfl|exact absurd ⟨_,rfl⟩ he
 refine⟨λr v hv=>?_,λr s hr hs e=>?_⟩
 ·obtain⟨r',h1,h2,_⟩:=key r (by rw[hv];rfl);rw[h2];exact a.has r' v (by rw[<-h1];exact hv)
 ·obtain⟨r',h1,h2,h3⟩:=key r hr;obtain⟨s',g1,g2,g3⟩:=key s hs;have h:=a.inj r' s' (by rw[<-h1];exact hr) (by rw[<-g1];exact hs) (by rw[<-h2,<-g2];exact e);rcases h3 with⟨e1,f1⟩|⟨i,l1,e1,gF⟩<;>rcases g3 with⟨e2,f2⟩|⟨j,l2,e2,Qo⟩
  ·rw[<-e1,<-e2,h]
  ·exact absurd (by rw[<-e1,h,Qo]) (f1 (g j))
  ·exact absurd (by rw[<-e2,<-h,gF]) (f2 (g i))
  ·rw[gF,Qo]at h;rw[e1,e2,hi i j l1 l2 (by injection h)]
end
variable {main:Bool}{cs:List Frame}{fr:Frame}
def aqo{df:FuncId}{caps:Array Value}{chain:List PanicEntry}(hm:fr.mode=.panicking chain)(hd:fr.defers=gE df caps::ds)(hg:ck P df=true):
 gZ P main (G fr cs) U λg ae=>ae=U/\g=G (Frame.enter P df caps .deferred) ({fr with defers:=ds}::cs):=by
 intro au2 w cU
 have h:wpS P (invoke (gE df caps).target (gE df caps).args) (λn ae=>n=.enter df caps/\ae=U) (λ_ _=>False) U:=by simp only[gE,invoke];refine IG hg ?_;simp
 obtain⟨w',ae,bY,e1,iH,eF,gp,hr⟩:=oL _ w U #[] h cU;rcases hr with⟨nx,hn,rfl,rfl⟩|⟨hh,hn,hq⟩
 ·have gF:((invoke (gE df caps).target (gE df caps).args).runT P w #[]).2=bY:=by simpa using e1
  have e2:(invoke (gE df caps).target (gE df caps).args).runT P w #[]=(_,bY):=Prod.ext hn gF;have iJ:∀fn,∀e∈seen P fn bY,iD au2 w'.heap.size e:=λfn e he=>gp e (mem_seen he);have qg:((gE df caps).target matches .nil)=false:=rfl
  have step:stepG P main (G fr cs) w=callDeferred P {fr with defers:=ds} cs none (gE df caps) w:=by simp only[G,stepG,hm,unwind,hd];rfl
  rw[step];unfold callDeferred;simp only[qg];generalize invoke (gE df caps).target (gE df caps).args=s at e2|-;simp only[e2,GStep.after];exact⟨_,iH,eF,λe he=>iJ _ e (aW he),rfl,rfl,rfl⟩
 ·exact hq.elim
variable {a:Act}{b:Frame}{k:List Item}{c:Frame}
def aqm{ops:Array Oper}{i:Nat}{rest:List Nat}{cB:Array TypeId}{gd:Option (Nat×Bool)}{v:Value}(ho:ops[i]? =some ⟨dst,.call ⟨.builtin .recover,#[],cB⟩,ty,pos,af,gd⟩)(hw:Region.wanted ⟨dst,.call ⟨.builtin .recover,#[],cB⟩,ty,pos,af,gd⟩ (yielded ops a.tmps)=true)(hb:b.kind=.deferred)(hc:c.mode=.panicking [{v:=v,recovered:=false}]):
 gZ P main (G (b.at a (.inRegion ops (i::rest)::k)) (c::cs)) U λg ae=>ae=U/\g=G (b.at (a.put dst v) (.inRegion ops rest::k)) ({c with mode:=.panicking [{v:=v,recovered:=true}]}::cs):=by
 intro au2 w hs
 have h:wpS P (execOp a.eval ⟨dst,.call ⟨.builtin .recover,#[],cB⟩,ty,pos,af,gd⟩) (λn ae=>n=.recover/\ae=U) (λ_ _=>False) U:=by simp only[execOp,resolve,aG,bt,invoke];exact⟨rfl,rfl⟩
 obtain⟨w',ae,bY,e1,cU,eF,gp,hr⟩:=oL _ w U #[] h hs;have gF:((execOp a.eval ⟨dst,.call ⟨.builtin .recover,#[],cB⟩,ty,pos,af,gd⟩).runT P w #[]).2=bY:=by simpa using e1
 rw[stepG_oper ho hw];have iJ:∀fn,∀e∈seen P fn bY,iD au2 w'.heap.size e:=λfn e he=>gp e (mem_seen he);have fC:(b.at a (.inRegion ops (i::rest)::k)).finish v=b.at (a.put dst v) (.inRegion ops rest::k):=by rw[Frame.finish_at,ho];rfl
 have LJ:tryRecover (b.at a (.inRegion ops (i::rest)::k)) (c::cs)=some (v,{c with mode:=.panicking [{v:=v,recovered:=true}]}::cs):=by unfold tryRecover;simp only[Frame.at,hb,hc]
 rcases hr with⟨nx,hn,hq,rfl⟩|⟨hh,hn,hq⟩
 ·subst hq;have e2:(execOp a.eval ⟨dst,.call ⟨.builtin .recover,#[],cB⟩,ty,pos,af,gd⟩).runT P w #[]=(_,bY):=Prod.ext hn gF;generalize execOp a.eval _=s at e2|-;unfold stepG.apply;have Lz:(b.at a (.inRegion ops (i::rest)::k)).roundOf=none:=rfl;simp only[if_true,e2,Lz,LJ,GStep.after,fC];refine⟨_,cU,eF,λe he=>?_,rfl,rfl,rfl⟩;split at he
  ·simp[seen]at he
  ·simp only[Array.append_empty]at he;exact iJ _ e he
 ·exact hq.elim
def aqh{fn:Func}{v:Value}(hm:fr.mode=.returning)(hd:fr.defers=[])(hk:fr.kind=.deferred)(hc:c.mode=.panicking [{v:=v,recovered:=true}])(hf:P.funcs[fr.fn]? =some fn)(hr:fn.results= #[]):
 gZ P main (G fr (c::cs)) U λg ae=>ae=U/\g=G {c with mode:=.returning} cs:=by
 intro au2 w hs
 have fp:∀tmps,wpS P (results fn tmps) (λv' ae=>v'=.tuple #[]/\ae=U) (λ_ _=>False) U:=by intro tmps;simp[results,hr,bt]
 obtain⟨w',ae,bY,e1,cU,eF,gp,Ed⟩:=oL (results fn fr.tmps) w U #[] (fp _) hs;rcases Ed with⟨v',hn,rfl,rfl⟩|⟨_,_,hq⟩
 ·have gF:((results fn fr.tmps).runT P w #[]).2=bY:=by simpa using e1
  have e2:(results fn fr.tmps).runT P w #[]=(.ok (.tuple #[]) w',bY):=Prod.ext hn gF
  have:stepG P main (G fr (c::cs)) w=.go (G {c with mode:=.returning} cs) w' (seen P fr.fn bY):=by simp[G,stepG,hm,unwind,hd,hf,-Sem.runT_eq,e2,doReturn,hk,GStep.after,hc]
  rw[this];exact⟨_,cU,eF,λe he=>gp e (mem_seen he),rfl,rfl,rfl⟩
 ·exact hq.elim
end Go.Qw
