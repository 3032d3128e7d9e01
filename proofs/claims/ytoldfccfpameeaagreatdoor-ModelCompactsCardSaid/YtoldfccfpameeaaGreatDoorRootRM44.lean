/- PROVED HERE: decretallaw25.ModelCompacts returns true, whatever the input; the input reads as it did. No conditions but the card's own: the listed variables hold what the program's text lays. -/
import Derived.Test.YtoldfccfpameeaaGreatDoorX16
import Derived.Test.YtoldfccfpameeaaGreatDoorTie
import Derived.Test.YtoldfccfpameeaaGreatDoorCards
import Derived.SevenTiedAt
set_option linter.all false
namespace Go.Proofs.YtoldfccfpameeaaGreatDoor
open Go.AM Go.ChangeShapes Go.WideShapes Go.ChangeAt Go.RowKit
set_option maxRecDepth 100000 in
def CZ (os : Os) (started : os.Started) (H : Type) (enc : TypeId × Value -> H) :
    ReturnsInHanded {} Tryz.checked os 5 .any (fun w args=>(Rows.modelCompactsSpec.pre enc Tryz.checked.prog Tryz.f5 [] false w args/\laidMetH Tryz.prog ye w)/\sizedMet enc Tryz.checked.prog Tryz.f5 (OpenSpec.ofChange Rows.modelCompactsSpec) false w args) (Rows.modelCompactsSpec.post enc Tryz.checked.prog Tryz.f5 false true false false):=by
 refine afc #[.slice none 0 0,.int .i64 0] started (by kernel_rfl) Tryz.func5 (by kernel_rfl) (by kernel_rfl) (by kernel_rfl) (by kernel_rfl) (by kernel_rfl) ?_;intro W base args ds gs before hval hW hG;have hW':=hW;obtain⟨p,q,hA,hV,rfl,_,_⟩:=hW;rw[Tryz.params5]at hA hval;obtain⟨v0,vs0,d0,sO,p0,q0,ha,rfl,rfl,h0,hA⟩:=trodAll_cons hA;obtain⟨v1,vs1,d1,VO,p1,q1,rfl,rfl,rfl,h1,hA⟩:=trodAll_cons hA;obtain⟨rfl,rfl,rfl⟩:=trodAll_nil hA;obtain⟨rfl,rfl⟩:=trodVars_none hV;obtain rfl:args = #[v0,v1]:=by rw[<-Array.toList_inj,ha]
 obtain⟨a0,ZS,mF⟩:=VL (hval 0 22 v0 rfl rfl) h0;obtain⟨n1,rfl,rfl,rfl,wn1⟩:=open_int Tryz.underlying3 (hval 1 3 v1 rfl rfl) h1;have hn1:nM n1:=by simpa[nM,Lit.wf,IntKind.min,IntKind.max,IntKind.signed,IntKind.bits]using wn1
 exact En (KU a0 n1 ZS hn1) hW' hG kids full (by rw[Tryz.params5];decide) rfl rfl Tryz.underlying4 rfl rfl (ajB mF (VR.int _ n1))
def Jb: Rows.modelCompactsRow.wf (OpenSpec.ofChange Rows.modelCompactsSpec)=true:=by kernel_rfl
def Jc: namedTie Tryz.checked.prog Rows.modelCompactsRow.named Rows.modelCompactsSpec.vars=true:=by kernel_rfl
def Jd: (Rows.modelCompactsRow.inPlace==Tryz.checked.prog.inPlace 5)=true:=by kernel_rfl
def Je: (Rows.modelCompactsRow.unfollowed==Tryz.checked.prog.unfollowed 5)=true:=by kernel_rfl
def Jf: (Rows.modelCompactsRow.recurses==Tryz.checked.prog.recurses 5)=true:=by kernel_rfl
def Jg: (Rows.modelCompactsRow.named==Tryz.checked.prog.varsNamed 5)=true:=by kernel_rfl
def Jh: (Rows.modelCompactsRow.plainKeys==Tryz.checked.prog.plainKeys)=true:=by kernel_rfl
def Ji: (Rows.modelCompactsRow.lifted==Tryz.checked.prog.liftsFinal)=true:=by kernel_rfl
def C0: joinedFacts Tryz.checked.prog 5 Tryz.f5 Rows.modelCompactsSpec Rows.modelCompactsRow=true:=by
 unfold joinedFacts;rw[Jb,Jc,Jd,Je,Jf,Jg,Jh,Ji,VM,VN,Ru,Rv];kernel_rfl
def HY: Rows.ModelCompactsSaid :=
 OpenClaim.holds_of_wide 5 Tryz.f5 rfl rfl rfl rfl rfl rfl rfl ⟨rfl,rfl,rfl,rfl,rfl⟩ rfl rfl rfl rfl rfl (by kernel_rfl) Tryz.func5 C0
  (of_decide_eq_true (by kernel_rfl)) (by unfold Func.isWrapper;first|(rw[if_pos (by decide +kernel)];kernel_rfl)|(rw[if_neg (by decide +kernel)];exact⟨rfl,rfl⟩))
  (fun os started H enc _=>CZ os started H enc)
theorem modelCompacts_holds: Rows.ModelCompactsCardSaid :=
 Claim7.holds_tied_plain_at .later [] [.data, .data, .data] true (true, "9bcb15f2d34581820abdc5bc8f3bb99517f0a42d1064fceca4edbae380a54eb6") true
  HY (fun _ h=>by cases h) (by kernel_rfl) (fun _ h=>by cases h) modelCompacts_row_tie rfl ⟨rfl,rfl⟩ (by kernel_rfl) rfl
  (fun f fn hf hfn => by
    obtain rfl : f = 5 := Option.some.inj ((show Tryz.prog.funcNamed "decretal/decretallaw25.ModelCompacts" = some 5 by kernel_rfl).symm.trans hf) |>.symm
    obtain rfl:fn=Tryz.f5:=(Option.some.inj (Tryz.func5.symm.trans hfn)).symm
    exact⟨by kernel_rfl,fun j t ht=>by
     rw[Tryz.params5]at ht
     have h3:Tryz.prog.wantsStandIn t=false:=by
      rcases j with _|_|j
      ·obtain rfl:22=t:=by simpa using ht
       kernel_rfl
      ·obtain rfl:3=t:=by simpa using ht
       kernel_rfl
      simp at ht
     exact h3⟩)
  (KS _ Oq _ rfl)
