/- PROVED HERE: decretallaw29.ScriptOnly returns true, whatever the input; the input reads as it did. No conditions but the card's own: the listed variables hold what the program's text lays. -/
import Derived.Test.YtcjcnfcedihckaaGreatDoorW41
import Derived.Test.YtcjcnfcedihckaaGreatDoorTie
import Derived.Test.YtcjcnfcedihckaaGreatDoorCards
import Derived.SevenTiedAt
set_option linter.all false
namespace Go.Proofs.YtcjcnfcedihckaaGreatDoor
open Go.AM Go.ChangeShapes Go.WideShapes Go.ChangeAt Go.RowKit
set_option maxRecDepth 100000 in
def Ea (os : Os) (started : os.Started) (H : Type) (enc : TypeId × Value -> H) :
    ReturnsInHanded {} Tryz.checked os 5 .any (fun w args=>(Rows.scriptOnlySpec.pre enc Tryz.checked.prog Tryz.f5 [] false w args/\laidMetH Tryz.prog uJ w)/\sizedMet enc Tryz.checked.prog Tryz.f5 (OpenSpec.ofChange Rows.scriptOnlySpec) false w args) (Rows.scriptOnlySpec.post enc Tryz.checked.prog Tryz.f5 false true false false):=by
 refine RZ #[.string ByteArray.empty] started (by kernel_rfl) Tryz.func5 (by kernel_rfl) (by kernel_rfl) (by kernel_rfl) (by kernel_rfl) (by kernel_rfl) ?_;intro W base args ds gs before hval hW hG;have Ui:=hW;obtain⟨p,q,hA,hV,rfl,_,_⟩:=hW;rw[Tryz.params5]at hA hval;obtain⟨v0,vs0,d0,qB,p0,q0,ha,rfl,rfl,h0,hA⟩:=trodAll_cons hA;obtain⟨rfl,rfl,rfl⟩:=trodAll_nil hA;obtain⟨rfl,rfl⟩:=trodVars_none hV;obtain rfl:args = #[v0]:=by rw[<-Array.toList_inj,ha]
 obtain⟨s0,rfl,rfl,rfl,_⟩:=ChangeMaps.open_string Tryz.underlying9 (hval 0 9 v0 rfl rfl) h0;exact vD (E_ s0.data.toList) Ui hG kids full (by rw[Tryz.params5];decide) rfl rfl Tryz.underlying4 rfl rfl (Zk (VR.string s0))
def LZ: Rows.scriptOnlyRow.wf (OpenSpec.ofChange Rows.scriptOnlySpec)=true:=by kernel_rfl
def L0: namedTie Tryz.checked.prog Rows.scriptOnlyRow.named Rows.scriptOnlySpec.vars=true:=by kernel_rfl
def L1: (Rows.scriptOnlyRow.inPlace==Tryz.checked.prog.inPlace 5)=true:=by kernel_rfl
def L2: (Rows.scriptOnlyRow.unfollowed==Tryz.checked.prog.unfollowed 5)=true:=by kernel_rfl
def L3: (Rows.scriptOnlyRow.recurses==Tryz.checked.prog.recurses 5)=true:=by kernel_rfl
def L4: (Rows.scriptOnlyRow.named==Tryz.checked.prog.varsNamed 5)=true:=by kernel_rfl
def L5: (Rows.scriptOnlyRow.plainKeys==Tryz.checked.prog.plainKeys)=true:=by kernel_rfl
def L6: (Rows.scriptOnlyRow.lifted==Tryz.checked.prog.liftsFinal)=true:=by kernel_rfl
def Eb: joinedFacts Tryz.checked.prog 5 Tryz.f5 Rows.scriptOnlySpec Rows.scriptOnlyRow=true:=by
 unfold joinedFacts;rw[LZ,L0,L1,L2,L3,L4,L5,L6,Ix,Iy,E8,E9];kernel_rfl
def IA: Rows.ScriptOnlySaid :=
 OpenClaim.holds_of_wide 5 Tryz.f5 rfl rfl rfl rfl rfl rfl rfl ⟨rfl,rfl,rfl,rfl,rfl⟩ rfl rfl rfl rfl rfl (by kernel_rfl) Tryz.func5 Eb
  (of_decide_eq_true (by kernel_rfl)) (by unfold Func.isWrapper;first|(rw[if_pos (by decide +kernel)];kernel_rfl)|(rw[if_neg (by decide +kernel)];exact⟨rfl,rfl⟩))
  (fun os started H enc _=>Ea os started H enc)
theorem scriptOnly_holds: Rows.ScriptOnlyCardSaid :=
 Claim7.holds_tied_plain_at .later [] [.data, .data, .data, .data, .sentinel, .sentinel, .pinned] true (true, "180e4aded3dd834949180afd017526bcebc91dce440e147fe37e430a1c8c0923") true
  IA (fun _ h=>by cases h) (by kernel_rfl) (fun _ h=>by cases h) scriptOnly_row_tie rfl ⟨rfl,rfl⟩ (by kernel_rfl) rfl
  (fun f fn hf hfn => by
    obtain rfl : f = 5 := Option.some.inj ((show Tryz.prog.funcNamed "decretal/decretallaw29.ScriptOnly" = some 5 by kernel_rfl).symm.trans hf) |>.symm
    obtain rfl:fn=Tryz.f5:=(Option.some.inj (Tryz.func5.symm.trans hfn)).symm
    exact⟨by kernel_rfl,fun j t ht=>by
     rw[Tryz.params5]at ht
     have h3:Tryz.prog.wantsStandIn t=false:=by
      rcases j with _|j
      ·obtain rfl:9=t:=by simpa using ht
       kernel_rfl
      ·simp at ht
     exact h3⟩)
  (zQ _ BQ _ rfl)
