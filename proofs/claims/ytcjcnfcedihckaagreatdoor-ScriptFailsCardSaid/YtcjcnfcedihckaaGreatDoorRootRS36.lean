/- PROVED HERE: decretallaw29.ScriptFails returns true, whatever the input; the input reads as it did. No conditions but the card's own: the listed variables hold what the program's text lays. -/
import Derived.Test.YtcjcnfcedihckaaGreatDoorW41
import Derived.Test.YtcjcnfcedihckaaGreatDoorTie
import Derived.Test.YtcjcnfcedihckaaGreatDoorCards
import Derived.SevenTiedAt
set_option linter.all false
namespace Go.Proofs.YtcjcnfcedihckaaGreatDoor
open Go.AM Go.ChangeShapes Go.WideShapes Go.ChangeAt Go.RowKit
set_option maxRecDepth 100000 in
def BR (os : Os) (started : os.Started) (H : Type) (enc : TypeId × Value -> H) :
    ReturnsInHanded {} Tryz.checked os 6 .any (fun w args=>(Rows.scriptFailsSpec.pre enc Tryz.checked.prog Tryz.f6 [] false w args/\laidMetH Tryz.prog uJ w)/\sizedMet enc Tryz.checked.prog Tryz.f6 (OpenSpec.ofChange Rows.scriptFailsSpec) false w args) (Rows.scriptFailsSpec.post enc Tryz.checked.prog Tryz.f6 false true false false):=by
 refine RZ #[.slice none 0 0,.int .i64 0,.string ByteArray.empty] started (by kernel_rfl) Tryz.func6 (by kernel_rfl) (by kernel_rfl) (by kernel_rfl) (by kernel_rfl) (by kernel_rfl) ?_;intro W base args ds gs before hval hW hG;have Ui:=hW;obtain⟨p,q,hA,hV,rfl,_,_⟩:=hW;rw[Tryz.params6]at hA hval;obtain⟨v0,vs0,d0,qB,p0,q0,ha,rfl,rfl,h0,hA⟩:=trodAll_cons hA;obtain⟨v1,vs1,d1,QI,p1,q1,rfl,rfl,rfl,h1,hA⟩:=trodAll_cons hA;obtain⟨v2,vs2,d2,ds2,p2,q2,rfl,rfl,rfl,h2,hA⟩:=trodAll_cons hA;obtain⟨rfl,rfl,rfl⟩:=trodAll_nil hA;obtain⟨rfl,rfl⟩:=trodVars_none hV;obtain rfl:args = #[v0,v1,v2]:=by rw[<-Array.toList_inj,ha]
 obtain⟨c0,y6,lg⟩:=QH (hval 0 22 v0 rfl rfl) h0;obtain⟨n1,rfl,rfl,rfl,wn1⟩:=open_int Tryz.underlying3 (hval 1 3 v1 rfl rfl) h1;have hn1:iu n1:=by simpa[iu,Lit.wf,IntKind.min,IntKind.max,IntKind.signed,IntKind.bits]using wn1
 obtain⟨s2,rfl,rfl,rfl,_⟩:=ChangeMaps.open_string Tryz.underlying9 (hval 2 9 v2 rfl rfl) h2;exact vD (Ec c0 n1 s2.data.toList y6 hn1) Ui hG kids full (by rw[Tryz.params6];decide) rfl rfl Tryz.underlying4 rfl rfl (adO lg (VR.int _ n1) (VR.string s2))
def IB: Rows.scriptFailsRow.wf (OpenSpec.ofChange Rows.scriptFailsSpec)=true:=by kernel_rfl
def IC: namedTie Tryz.checked.prog Rows.scriptFailsRow.named Rows.scriptFailsSpec.vars=true:=by kernel_rfl
def IE: (Rows.scriptFailsRow.inPlace==Tryz.checked.prog.inPlace 6)=true:=by kernel_rfl
def IG: (Rows.scriptFailsRow.unfollowed==Tryz.checked.prog.unfollowed 6)=true:=by kernel_rfl
def II: (Rows.scriptFailsRow.recurses==Tryz.checked.prog.recurses 6)=true:=by kernel_rfl
def IJ: (Rows.scriptFailsRow.named==Tryz.checked.prog.varsNamed 6)=true:=by kernel_rfl
def IK: (Rows.scriptFailsRow.plainKeys==Tryz.checked.prog.plainKeys)=true:=by kernel_rfl
def IL: (Rows.scriptFailsRow.lifted==Tryz.checked.prog.liftsFinal)=true:=by kernel_rfl
def BS: joinedFacts Tryz.checked.prog 6 Tryz.f6 Rows.scriptFailsSpec Rows.scriptFailsRow=true:=by
 unfold joinedFacts;rw[IB,IC,IE,IG,II,IJ,IK,IL,Ix,Iy,E8,E9];kernel_rfl
def Gm: Rows.ScriptFailsSaid :=
 OpenClaim.holds_of_wide 6 Tryz.f6 rfl rfl rfl rfl rfl rfl rfl ⟨rfl,rfl,rfl,rfl,rfl⟩ rfl rfl rfl rfl rfl (by kernel_rfl) Tryz.func6 BS
  (of_decide_eq_true (by kernel_rfl)) (by unfold Func.isWrapper;first|(rw[if_pos (by decide +kernel)];kernel_rfl)|(rw[if_neg (by decide +kernel)];exact⟨rfl,rfl⟩))
  (fun os started H enc _=>BR os started H enc)
theorem scriptFails_holds: Rows.ScriptFailsCardSaid :=
 Claim7.holds_tied_plain_at .later [] [.data, .data, .data, .data, .sentinel, .sentinel, .pinned] true (true, "180e4aded3dd834949180afd017526bcebc91dce440e147fe37e430a1c8c0923") true
  Gm (fun _ h=>by cases h) (by kernel_rfl) (fun _ h=>by cases h) scriptFails_row_tie rfl ⟨rfl,rfl⟩ (by kernel_rfl) rfl
  (fun f fn hf hfn => by
    obtain rfl : f = 6 := Option.some.inj ((show Tryz.prog.funcNamed "decretal/decretallaw29.ScriptFails" = some 6 by kernel_rfl).symm.trans hf) |>.symm
    obtain rfl:fn=Tryz.f6:=(Option.some.inj (Tryz.func6.symm.trans hfn)).symm
    exact⟨by kernel_rfl,fun j t ht=>by
     rw[Tryz.params6]at ht
     have h3:Tryz.prog.wantsStandIn t=false:=by
      rcases j with _|_|_|j
      ·obtain rfl:22=t:=by simpa using ht
       kernel_rfl
      ·obtain rfl:3=t:=by simpa using ht
       kernel_rfl
      ·obtain rfl:9=t:=by simpa using ht
       kernel_rfl
      ·simp at ht
     exact h3⟩)
  (zQ _ BQ _ rfl)
