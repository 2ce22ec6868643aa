/- The law Again of queuewirekeep returns true for every input that its guards let in: the row over the given program, tied to its text; no condition besides. -/
import Derived.Test.YtpiabknabfbfhaaGreatDoorCards
import Derived.Test.YtpiabknabfbfhaaGreatDoorTie
import Derived.SevenTiedAt
import Derived.Test.YtpiabknabfbfhaaGreatDoorAgain13
set_option linter.all false
set_option maxRecDepth 100000
set_option maxHeartbeats 8000000
namespace Go.Proofs.YtpiabknabfbfhaaGreatDoor
open Go Go.Qw
theorem aq0 (Lk:Looks){p:Pinned}{s:OpenSpec}{c:OpenClaim}(kinds:List LaidKind)(NB:Bool)(zl:Bool×String)(lk g:Bool)
 (hc:c.holds p s) (hw:c.wfByText s=true) (ahA:c.laidByTextAt Lk p kinds NB)
 (bw:c.start=.entering) (wE:c.noBlocks=false/\c.again=false) (hm:p.checked.prog.mainIs=some (zl.1,zl.2.toList)) (hn:(!zl.1&&zl.2.isEmpty&& !lk)=false)
 (hl:∀f fn,p.checked.prog.funcNamed c.func=some f->p.checked.prog.funcs[f]? =some fn->lk=p.checked.prog.looks []/\∀(j:Nat) t,fn.params[j]? =some t->p.checked.prog.wantsStandIn t=false)
 (hg:g=c.goesBy p.checked.prog):
 Claim7.holds p (.plain s) {stood:={row:=c,standIns:=[],harness:=zl,looks:=lk},kinds:=[],alts:=[],goes:=g,laidByText:=true,laidKinds:=kinds,laidTests:=NB,laidLooks:=Lk}:=by
 have h6:∀r:OpenClaim,Claim7.isSixth {stood:={row:=r,standIns:=[],harness:=zl,looks:=lk},kinds:=[]}=false:=λr=>by simpa[Claim7.isSixth]using hn
 exact⟨Claim7.tied_new_at Lk kinds NB (Claim7.new_of_sixth hc zl lk bw wE hm (h6 c) hl) hw,(λD hD=>by cases hD),ahA,(λh=>by cases h),hg⟩
theorem XD:Rows.AgainSaid:=
 OpenClaim.holds_of_wide_leaving 5 Tryz.f5 rfl rfl rfl rfl rfl rfl rfl ⟨rfl,rfl,rfl,rfl,rfl⟩ rfl rfl rfl rfl rfl Y6 Tryz.func5 Y5 Y4 Y7
  (λos started H enc _=>XA os started H enc)
theorem again_card:Rows.AgainCardSaid:=
 aq0 .later [.handle,.data,.pinned,.pinned] true (true,"3c310d2ca3cb1cec6d5937fe32e7f1f8b4eb53f7f1f85f53cb108448302eb172") true true
  XD (by kernel_rfl) again_row_tie rfl ⟨rfl,rfl⟩ (by kernel_rfl) rfl
  (λf fn hf rV=>by
   obtain rfl:f=5:=Option.some.inj ((show Tryz.prog.funcNamed "queuewire/queuewirekeep.Again" =some 5 by kernel_rfl).symm.trans hf)|>.symm
   obtain rfl:fn=Tryz.f5:=(Option.some.inj (Tryz.func5.symm.trans rV)).symm
   exact⟨by kernel_rfl,λj t ht=>by
    rw[Tryz.params5]at ht
    have hm:t∈[3]:=by
     have:=Array.mem_of_getElem? ht
     simpa using this
    have lU:([3].all λu=> !Tryz.prog.wantsStandIn u)=true:=by kernel_rfl
    exact(show Tryz.prog.wantsStandIn t=false by simpa using List.all_eq_true.1 lU t hm)⟩)
  (by kernel_rfl)
#print axioms again_card
end Go.Proofs.YtpiabknabfbfhaaGreatDoor
