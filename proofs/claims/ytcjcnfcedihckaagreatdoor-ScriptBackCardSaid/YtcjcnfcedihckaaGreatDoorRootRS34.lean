/- PROVED HERE: decretallaw29.ScriptBack returns true, whatever the input; the input reads as it did. No conditions but the card's own: the listed variables hold what the program's text lays. -/
import Derived.Test.YtcjcnfcedihckaaGreatDoorW41
import Derived.Test.YtcjcnfcedihckaaGreatDoorTie
import Derived.Test.YtcjcnfcedihckaaGreatDoorCards
import Derived.SevenTiedAt
set_option linter.all false
namespace Go.Proofs.YtcjcnfcedihckaaGreatDoor
open Go.AM Go.ChangeShapes Go.WideShapes Go.ChangeAt Go.RowKit
set_option maxRecDepth 100000 in
def D9 (os : Os) (started : os.Started) (H : Type) (enc : TypeId × Value -> H) :
    ReturnsInHanded {} Tryz.checked os 4 .any (fun w args=>(Rows.scriptBackSpec.pre enc Tryz.checked.prog Tryz.f4 [] false w args/\laidMetH Tryz.prog uJ w)/\sizedMet enc Tryz.checked.prog Tryz.f4 (OpenSpec.ofChange Rows.scriptBackSpec) false w args) (Rows.scriptBackSpec.post enc Tryz.checked.prog Tryz.f4 false true false false):=by
 refine RZ #[.slice none 0 0] started (by kernel_rfl) Tryz.func4 (by kernel_rfl) (by kernel_rfl) (by kernel_rfl) (by kernel_rfl) (by kernel_rfl) ?_;intro W base args ds gs before hval hW hG;have Ui:=hW;obtain⟨p,q,hA,hV,rfl,_,_⟩:=hW;rw[Tryz.params4]at hA hval;obtain⟨v0,vs0,d0,qB,p0,q0,ha,rfl,rfl,h0,hA⟩:=trodAll_cons hA;obtain⟨rfl,rfl,rfl⟩:=trodAll_nil hA;obtain⟨rfl,rfl⟩:=trodVars_none hV;obtain rfl:args = #[v0]:=by rw[<-Array.toList_inj,ha]
 obtain⟨c0,y6,lg⟩:=QH (hval 0 22 v0 rfl rfl) h0;exact vD (E7 c0 y6) Ui hG kids full (by rw[Tryz.params4];decide) rfl rfl Tryz.underlying4 rfl rfl (Zk lg)
def LQ: Rows.scriptBackRow.wf (OpenSpec.ofChange Rows.scriptBackSpec)=true:=by kernel_rfl
def LR: namedTie Tryz.checked.prog Rows.scriptBackRow.named Rows.scriptBackSpec.vars=true:=by kernel_rfl
def LS: (Rows.scriptBackRow.inPlace==Tryz.checked.prog.inPlace 4)=true:=by kernel_rfl
def LU: (Rows.scriptBackRow.unfollowed==Tryz.checked.prog.unfollowed 4)=true:=by kernel_rfl
def LV: (Rows.scriptBackRow.recurses==Tryz.checked.prog.recurses 4)=true:=by kernel_rfl
def LW: (Rows.scriptBackRow.named==Tryz.checked.prog.varsNamed 4)=true:=by kernel_rfl
def LX: (Rows.scriptBackRow.plainKeys==Tryz.checked.prog.plainKeys)=true:=by kernel_rfl
def LY: (Rows.scriptBackRow.lifted==Tryz.checked.prog.liftsFinal)=true:=by kernel_rfl
def D_: joinedFacts Tryz.checked.prog 4 Tryz.f4 Rows.scriptBackSpec Rows.scriptBackRow=true:=by
 unfold joinedFacts;rw[LQ,LR,LS,LU,LV,LW,LX,LY,Ix,Iy,E8,E9];kernel_rfl
def Iz: Rows.ScriptBackSaid :=
 OpenClaim.holds_of_wide 4 Tryz.f4 rfl rfl rfl rfl rfl rfl rfl ⟨rfl,rfl,rfl,rfl,rfl⟩ rfl rfl rfl rfl rfl (by kernel_rfl) Tryz.func4 D_
  (of_decide_eq_true (by kernel_rfl)) (by unfold Func.isWrapper;first|(rw[if_pos (by decide +kernel)];kernel_rfl)|(rw[if_neg (by decide +kernel)];exact⟨rfl,rfl⟩))
  (fun os started H enc _=>D9 os started H enc)
theorem scriptBack_holds: Rows.ScriptBackCardSaid :=
 Claim7.holds_tied_plain_at .later [] [.data, .data, .data, .data, .sentinel, .sentinel, .pinned] true (true, "180e4aded3dd834949180afd017526bcebc91dce440e147fe37e430a1c8c0923") true
  Iz (fun _ h=>by cases h) (by kernel_rfl) (fun _ h=>by cases h) scriptBack_row_tie rfl ⟨rfl,rfl⟩ (by kernel_rfl) rfl
  (fun f fn hf hfn => by
    obtain rfl : f = 4 := Option.some.inj ((show Tryz.prog.funcNamed "decretal/decretallaw29.ScriptBack" = some 4 by kernel_rfl).symm.trans hf) |>.symm
    obtain rfl:fn=Tryz.f4:=(Option.some.inj (Tryz.func4.symm.trans hfn)).symm
    exact⟨by kernel_rfl,fun j t ht=>by
     rw[Tryz.params4]at ht
     have h3:Tryz.prog.wantsStandIn t=false:=by
      rcases j with _|j
      ·obtain rfl:22=t:=by simpa using ht
       kernel_rfl
      ·simp at ht
     exact h3⟩)
  (zQ _ BQ _ rfl)
