/- The law Framed of queuewirekeep returns true for every input that its guards let in: the row over the given program, tied to its text; no condition besides. -/
import Derived.Test.YtpiabknabfbfhaaGreatDoorCards
import Derived.Test.YtpiabknabfbfhaaGreatDoorTie
import Derived.SevenTiedAt
import Derived.Test.YtpiabknabfbfhaaGreatDoorFramed39
set_option linter.all false
set_option maxRecDepth 100000
set_option maxHeartbeats 8000000
namespace Go.Proofs.YtpiabknabfbfhaaGreatDoor
open Go Go.Qw
theorem apy (Lk:Looks){p:Pinned}{s:OpenSpec}{c:OpenClaim}(kinds:List LaidKind)(MI:Bool)(yL:Bool×String)(lk g:Bool)
 (hc:c.holds p s) (hw:c.wfByText s=true) (agb:c.laidByTextAt Lk p kinds MI)
 (bt:c.start=.entering) (vG:c.noBlocks=false/\c.again=false) (hm:p.checked.prog.mainIs=some (yL.1,yL.2.toList)) (hn:(!yL.1&&yL.2.isEmpty&& !lk)=false)
 (hl:∀f fn,p.checked.prog.funcNamed c.func=some f->p.checked.prog.funcs[f]? =some fn->lk=p.checked.prog.looks []/\∀(j:Nat) t,fn.params[j]? =some t->p.checked.prog.wantsStandIn t=false)
 (hg:g=c.goesBy p.checked.prog):
 Claim7.holds p (.plain s) {stood:={row:=c,standIns:=[],harness:=yL,looks:=lk},kinds:=[],alts:=[],goes:=g,laidByText:=true,laidKinds:=kinds,laidTests:=MI,laidLooks:=Lk}:=by
 have h6:∀r:OpenClaim,Claim7.isSixth {stood:={row:=r,standIns:=[],harness:=yL,looks:=lk},kinds:=[]}=false:=λr=>by simpa[Claim7.isSixth]using hn
 exact⟨Claim7.tied_new_at Lk kinds MI (Claim7.new_of_sixth hc yL lk bt vG hm (h6 c) hl) hw,(λD hD=>by cases hD),agb,(λh=>by cases h),hg⟩
theorem ab8:Rows.FramedSaid:=
 OpenClaim.holds_of_wide_leaving 6 Tryz.f6 rfl rfl rfl rfl rfl rfl rfl ⟨rfl,rfl,rfl,rfl,rfl⟩ rfl rfl rfl rfl rfl XI Tryz.func6 XH XG XJ
  (λos started H enc _=>ab6 os started H enc)
theorem framed_card:Rows.FramedCardSaid:=
 apy .later [.handle,.data,.pinned,.pinned] true (true,"3c310d2ca3cb1cec6d5937fe32e7f1f8b4eb53f7f1f85f53cb108448302eb172") true true
  ab8 (by kernel_rfl) framed_row_tie rfl ⟨rfl,rfl⟩ (by kernel_rfl) rfl
  (λf fn hf rD=>by
   obtain rfl:f=6:=Option.some.inj ((show Tryz.prog.funcNamed "queuewire/queuewirekeep.Framed" =some 6 by kernel_rfl).symm.trans hf)|>.symm
   obtain rfl:fn=Tryz.f6:=(Option.some.inj (Tryz.func6.symm.trans rD)).symm
   exact⟨by kernel_rfl,λj t ht=>by
    rw[Tryz.params6]at ht
    have hm:t∈[49]:=by
     have:=Array.mem_of_getElem? ht
     simpa using this
    have lK:([49].all λu=> !Tryz.prog.wantsStandIn u)=true:=by kernel_rfl
    exact(show Tryz.prog.wantsStandIn t=false by simpa using List.all_eq_true.1 lK t hm)⟩)
  (by kernel_rfl)
#print axioms framed_card
end Go.Proofs.YtpiabknabfbfhaaGreatDoor
