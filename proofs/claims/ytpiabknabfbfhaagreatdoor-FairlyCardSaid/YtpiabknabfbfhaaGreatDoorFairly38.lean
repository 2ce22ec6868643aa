/- The law Fairly of queuewirekeep returns true for every input that its guards let in: the row over the given program, tied to its text; no condition besides. -/
import Derived.Test.YtpiabknabfbfhaaGreatDoorCards
import Derived.Test.YtpiabknabfbfhaaGreatDoorTie
import Derived.SevenTiedAt
import Derived.Test.YtpiabknabfbfhaaGreatDoorFairly37
set_option linter.all false
set_option maxRecDepth 100000
set_option maxHeartbeats 8000000
namespace Go.Proofs.YtpiabknabfbfhaaGreatDoor
open Go Go.Qw
theorem aph (Lk:Looks){p:Pinned}{s:OpenSpec}{c:OpenClaim}(kinds:List LaidKind)(MC:Bool)(yG:Bool×String)(lk g:Bool)
 (hc:c.holds p s) (hw:c.wfByText s=true) (afJ:c.laidByTextAt Lk p kinds MC)
 (bw:c.start=.entering) (vz:c.noBlocks=false/\c.again=false) (hm:p.checked.prog.mainIs=some (yG.1,yG.2.toList)) (hn:(!yG.1&&yG.2.isEmpty&& !lk)=false)
 (hl:∀f fn,p.checked.prog.funcNamed c.func=some f->p.checked.prog.funcs[f]? =some fn->lk=p.checked.prog.looks []/\∀(j:Nat) t,fn.params[j]? =some t->p.checked.prog.wantsStandIn t=false)
 (hg:g=c.goesBy p.checked.prog):
 Claim7.holds p (.plain s) {stood:={row:=c,standIns:=[],harness:=yG,looks:=lk},kinds:=[],alts:=[],goes:=g,laidByText:=true,laidKinds:=kinds,laidTests:=MC,laidLooks:=Lk}:=by
 have h6:∀r:OpenClaim,Claim7.isSixth {stood:={row:=r,standIns:=[],harness:=yG,looks:=lk},kinds:=[]}=false:=λr=>by simpa[Claim7.isSixth]using hn
 exact⟨Claim7.tied_new_at Lk kinds MC (Claim7.new_of_sixth hc yG lk bw vz hm (h6 c) hl) hw,(λD hD=>by cases hD),afJ,(λh=>by cases h),hg⟩
theorem abc:Rows.FairlySaid:=
 OpenClaim.holds_of_wide_leaving 4 Tryz.f4 rfl rfl rfl rfl rfl rfl rfl ⟨rfl,rfl,rfl,rfl,rfl⟩ rfl rfl rfl rfl rfl Xi Tryz.func4 Xh Xg Xj
  (λos started H enc _=>aba os started H enc)
theorem fairly_card:Rows.FairlyCardSaid:=
 aph .later [.handle,.data,.pinned,.pinned] true (true,"3c310d2ca3cb1cec6d5937fe32e7f1f8b4eb53f7f1f85f53cb108448302eb172") true true
  abc (by kernel_rfl) fairly_row_tie rfl ⟨rfl,rfl⟩ (by kernel_rfl) rfl
  (λf fn hf rm=>by
   obtain rfl:f=4:=Option.some.inj ((show Tryz.prog.funcNamed "queuewire/queuewirekeep.Fairly" =some 4 by kernel_rfl).symm.trans hf)|>.symm
   obtain rfl:fn=Tryz.f4:=(Option.some.inj (Tryz.func4.symm.trans rm)).symm
   exact⟨by kernel_rfl,λj t ht=>by
    rw[Tryz.params4]at ht
    have hm:t∈[3]:=by
     have:=Array.mem_of_getElem? ht
     simpa using this
    have lB:([3].all λu=> !Tryz.prog.wantsStandIn u)=true:=by kernel_rfl
    exact(show Tryz.prog.wantsStandIn t=false by simpa using List.all_eq_true.1 lB t hm)⟩)
  (by kernel_rfl)
#print axioms fairly_card
end Go.Proofs.YtpiabknabfbfhaaGreatDoor
