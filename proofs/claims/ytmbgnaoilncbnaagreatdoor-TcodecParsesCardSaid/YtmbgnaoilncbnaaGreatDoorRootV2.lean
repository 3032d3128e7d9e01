/- PROVED HERE: decretallaw19.TcodecParses returns true, whatever the input; the input reads as it did. No conditions but the card's own: the listed variables hold what the program's text lays. -/
import Derived.Test.YtmbgnaoilncbnaaGreatDoorZ38
import Derived.Test.YtmbgnaoilncbnaaGreatDoorTie
import Derived.Test.YtmbgnaoilncbnaaGreatDoorCards
import Derived.SevenTiedAt
set_option linter.unnecessarySimpa false
set_option linter.unusedSimpArgs false
set_option linter.unusedVariables false
namespace Go.Proofs.YtmbgnaoilncbnaaGreatDoor
open Go.AM Go.ChangeShapes Go.WideShapes Go.ChangeAt Go.RowKit
set_option maxRecDepth 100000 in
theorem FR(os:Os)(started:os.Started)(H:Type)(enc:TypeId × Value→H):
 ReturnsInHanded {} Tryz.checked os 4 .any (fun w args=>(Rows.tcodecParsesSpec.pre enc Tryz.checked.prog Tryz.f4 [] false w args∧laidMetH Tryz.prog tD w)∧sizedMet enc Tryz.checked.prog Tryz.f4 (OpenSpec.ofChange Rows.tcodecParsesSpec) false w args) (Rows.tcodecParsesSpec.post enc Tryz.checked.prog Tryz.f4 false true false false):=by
 refine Qy #[.string ByteArray.empty] started (by kernel_rfl) Tryz.func4 (by kernel_rfl) (by kernel_rfl) (by kernel_rfl) (by kernel_rfl) (by kernel_rfl) ?_
 intro W base args ds gs before hval hW hG
 have QG:=hW
 obtain⟨p,q,hA,hV,rfl,_,_⟩:=hW
 rw[Tryz.params4]at hA hval
 obtain⟨v0,vs0,d0,lT,p0,q0,ha,rfl,rfl,h0,hA⟩:=trodAll_cons hA
 obtain⟨rfl,rfl,rfl⟩:=trodAll_nil hA
 obtain⟨rfl,rfl⟩:=trodVars_none hV
 obtain rfl:args = #[v0]:=by rw[← Array.toList_inj,ha]
 obtain⟨s0,rfl,rfl,rfl,_⟩:=ChangeMaps.open_string Tryz.underlying9 (hval 0 9 v0 rfl rfl) h0
 exact rY (F3 s0.data.toList) QG hG kids full (by rw[Tryz.params4];decide) rfl rfl Tryz.underlying4 rfl rfl (ZY (VR.string s0))
theorem KU: Rows.tcodecParsesRow.wf (OpenSpec.ofChange Rows.tcodecParsesSpec)=true:=by kernel_rfl
theorem KV: namedTie Tryz.checked.prog Rows.tcodecParsesRow.named Rows.tcodecParsesSpec.vars=true:=by kernel_rfl
theorem KW: (Rows.tcodecParsesRow.inPlace==Tryz.checked.prog.inPlace 4)=true:=by kernel_rfl
theorem KX: (Rows.tcodecParsesRow.unfollowed==Tryz.checked.prog.unfollowed 4)=true:=by kernel_rfl
theorem KY: (Rows.tcodecParsesRow.recurses==Tryz.checked.prog.recurses 4)=true:=by kernel_rfl
theorem KZ: (Rows.tcodecParsesRow.named==Tryz.checked.prog.varsNamed 4)=true:=by kernel_rfl
theorem K0: (Rows.tcodecParsesRow.plainKeys==Tryz.checked.prog.plainKeys)=true:=by kernel_rfl
theorem K1: (Rows.tcodecParsesRow.lifted==Tryz.checked.prog.liftsFinal)=true:=by kernel_rfl
theorem FT: joinedFacts Tryz.checked.prog 4 Tryz.f4 Rows.tcodecParsesSpec Rows.tcodecParsesRow=true:=by
 unfold joinedFacts
 rw[KU,KV,KW,KX,KY,KZ,K0,K1,Io,Ip,Dv,Dw]
 kernel_rfl
theorem JU: Rows.TcodecParsesSaid :=
 OpenClaim.holds_of_wide 4 Tryz.f4 rfl rfl rfl rfl rfl rfl rfl ⟨rfl,rfl,rfl,rfl,rfl⟩ rfl rfl rfl rfl rfl (by kernel_rfl) Tryz.func4 FT
  (of_decide_eq_true (by kernel_rfl)) (by unfold Func.isWrapper;first|(rw[if_pos (by decide +kernel)];kernel_rfl)|(rw[if_neg (by decide +kernel)];exact⟨rfl,rfl⟩))
  (fun os started H enc _=>FR os started H enc)
theorem tcodecParses_holds: Rows.TcodecParsesCardSaid :=
 Claim7.holds_tied_plain_at .later [] [.data, .data, .data] true (true, "7fd39b441e49197c36bddc88708feb7a5eab2a27fa32c29dc58c64db58688971") false
  JU (fun _ h=>by cases h) (by kernel_rfl) (fun _ h=>by cases h) tcodecParses_row_tie rfl ⟨rfl,rfl⟩ (by kernel_rfl) rfl
  (fun f fn hf hfn => by
    obtain rfl : f = 4 := Option.some.inj ((show Tryz.prog.funcNamed "decretal/decretallaw19.TcodecParses" = some 4 by kernel_rfl).symm.trans hf) |>.symm
    obtain rfl:fn=Tryz.f4:=(Option.some.inj (Tryz.func4.symm.trans hfn)).symm
    exact⟨by kernel_rfl,fun j t ht=>by
     rw[Tryz.params4]at ht
     have h3:Tryz.prog.wantsStandIn t=false:=by
      rcases j with _|j
      ·obtain rfl:9=t:=by simpa using ht
       kernel_rfl
      ·simp at ht
     exact h3⟩)
  (by kernel_rfl)
end Go.Proofs.YtmbgnaoilncbnaaGreatDoor
