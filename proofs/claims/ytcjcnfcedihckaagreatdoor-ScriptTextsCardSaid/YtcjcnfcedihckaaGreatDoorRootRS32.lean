/- PROVED HERE: decretallaw29.ScriptTexts returns true, whatever the input; the input reads as it did. No conditions but the card's own: the listed variables hold what the program's text lays. -/
import Derived.Test.YtcjcnfcedihckaaGreatDoorV39
import Derived.Test.YtcjcnfcedihckaaGreatDoorTie
import Derived.Test.YtcjcnfcedihckaaGreatDoorCards
import Derived.SevenTiedAt
set_option linter.all false
namespace Go.Proofs.YtcjcnfcedihckaaGreatDoor
open Go.AM Go.ChangeShapes Go.WideShapes Go.ChangeAt Go.RowKit
set_option maxRecDepth 100000 in
def AK (os : Os) (started : os.Started) (H : Type) (enc : TypeId × Value -> H) :
    ReturnsInHanded {} Tryz.checked os 3 .any (fun w args=>(Rows.scriptTextsSpec.pre enc Tryz.checked.prog Tryz.f3 [] false w args/\laidMetH Tryz.prog wv w)/\sizedMet enc Tryz.checked.prog Tryz.f3 (OpenSpec.ofChange Rows.scriptTextsSpec) false w args) (Rows.scriptTextsSpec.post enc Tryz.checked.prog Tryz.f3 false true false false):=by
 refine aaQ #[.slice none 0 0,.string ByteArray.empty,.int .u8 0] started (by kernel_rfl) Tryz.func3 (by kernel_rfl) (by kernel_rfl) (by kernel_rfl) (by kernel_rfl) (by kernel_rfl) ?_;intro W base args ds gs before hval hW hG;have hW':=hW;obtain⟨p,q,hA,hV,rfl,_,_⟩:=hW;rw[Tryz.params3]at hA hval;obtain⟨v0,vs0,d0,mS,p0,q0,ha,rfl,rfl,h0,hA⟩:=trodAll_cons hA;obtain⟨v1,vs1,d1,zY,p1,q1,rfl,rfl,rfl,h1,hA⟩:=trodAll_cons hA;obtain⟨v2,vs2,d2,ds2,p2,q2,rfl,rfl,rfl,h2,hA⟩:=trodAll_cons hA;obtain⟨rfl,rfl,rfl⟩:=trodAll_nil hA;obtain⟨rfl,rfl⟩:=trodVars_none hV;obtain rfl:args = #[v0,v1,v2]:=by rw[<-Array.toList_inj,ha]
 obtain⟨c0,hr0,mD⟩:=Xk (hval 0 22 v0 rfl rfl) h0;obtain⟨s1,rfl,rfl,rfl,_⟩:=ChangeMaps.open_string Tryz.underlying9 (hval 1 9 v1 rfl rfl) h1;obtain⟨n2,rfl,rfl,rfl,wn2⟩:=open_int Tryz.underlying5 (hval 2 5 v2 rfl rfl) h2;have Sp:0<=n2/\n2<=255:=by simpa[Lit.wf,IntKind.min,IntKind.max,IntKind.signed,IntKind.bits]using wn2
 exact KA (AL c0 s1.data.toList n2 hr0 Sp) hW' hG kids full (by rw[Tryz.params3];decide) rfl rfl Tryz.underlying4 rfl rfl (aaR mD (VR.string s1) (VR.int _ n2))
def HM: Rows.scriptTextsRow.wf (OpenSpec.ofChange Rows.scriptTextsSpec)=true:=by kernel_rfl
def HN: namedTie Tryz.checked.prog Rows.scriptTextsRow.named Rows.scriptTextsSpec.vars=true:=by kernel_rfl
def HO: (Rows.scriptTextsRow.inPlace==Tryz.checked.prog.inPlace 3)=true:=by kernel_rfl
def HP: (Rows.scriptTextsRow.unfollowed==Tryz.checked.prog.unfollowed 3)=true:=by kernel_rfl
def HQ: (Rows.scriptTextsRow.recurses==Tryz.checked.prog.recurses 3)=true:=by kernel_rfl
def HR: (Rows.scriptTextsRow.named==Tryz.checked.prog.varsNamed 3)=true:=by kernel_rfl
def HS: (Rows.scriptTextsRow.plainKeys==Tryz.checked.prog.plainKeys)=true:=by kernel_rfl
def HT: (Rows.scriptTextsRow.lifted==Tryz.checked.prog.liftsFinal)=true:=by kernel_rfl
def AN: joinedFacts Tryz.checked.prog 3 Tryz.f3 Rows.scriptTextsSpec Rows.scriptTextsRow=true:=by
 unfold joinedFacts;rw[HM,HN,HO,HP,HQ,HR,HS,HT,Xl,Xm,UY,UZ];kernel_rfl
def Fx: Rows.ScriptTextsSaid :=
 OpenClaim.holds_of_wide 3 Tryz.f3 rfl rfl rfl rfl rfl rfl rfl ⟨rfl,rfl,rfl,rfl,rfl⟩ rfl rfl rfl rfl rfl (by kernel_rfl) Tryz.func3 AN
  (of_decide_eq_true (by kernel_rfl)) (by unfold Func.isWrapper;first|(rw[if_pos (by decide +kernel)];kernel_rfl)|(rw[if_neg (by decide +kernel)];exact⟨rfl,rfl⟩))
  (fun os started H enc _=>AK os started H enc)
theorem scriptTexts_holds: Rows.ScriptTextsCardSaid :=
 Claim7.holds_tied_plain_at .later [] [.data, .data, .data, .data, .sentinel, .sentinel, .pinned] true (true, "180e4aded3dd834949180afd017526bcebc91dce440e147fe37e430a1c8c0923") true
  Fx (fun _ h=>by cases h) (by kernel_rfl) (fun _ h=>by cases h) scriptTexts_row_tie rfl ⟨rfl,rfl⟩ (by kernel_rfl) rfl
  (fun f fn hf hfn => by
    obtain rfl : f = 3 := Option.some.inj ((show Tryz.prog.funcNamed "decretal/decretallaw29.ScriptTexts" = some 3 by kernel_rfl).symm.trans hf) |>.symm
    obtain rfl:fn=Tryz.f3:=(Option.some.inj (Tryz.func3.symm.trans hfn)).symm
    exact⟨by kernel_rfl,fun j t ht=>by
     rw[Tryz.params3]at ht
     have h3:Tryz.prog.wantsStandIn t=false:=by
      rcases j with _|_|_|j
      ·obtain rfl:22=t:=by simpa using ht
       kernel_rfl
      ·obtain rfl:9=t:=by simpa using ht
       kernel_rfl
      ·obtain rfl:5=t:=by simpa using ht
       kernel_rfl
      ·simp at ht
     exact h3⟩)
  (QB _ Sq _ rfl)
