/- PROVED HERE: decretallaw21.EntryAgain returns true, whatever the input; the input reads as it did. No conditions. -/
import Derived.Test.YthakfmmgnjpmdaaGreatW42
set_option linter.all false
namespace Go.Proofs.YthakfmmgnjpmdaaGreat
open Go.AM Go.ChangeShapes Go.WideShapes Go.ChangeAt Go.RowKit
set_option maxRecDepth 100000 in
def FC (os : Os) (started : os.Started) (H : Type) (enc : TypeId × Value -> H) :
    ReturnsInHanded {} Tryz.checked os 4 .any (Rows.entryAgainSpec.pre6 enc Tryz.checked.prog Tryz.f4 [] false) (Rows.entryAgainSpec.post enc Tryz.checked.prog Tryz.f4 false true false false):=by
 refine aas started (by kernel_rfl) Tryz.func4
  (ChangeSpec.witness6 (enc:=enc) (C:=Tryz.checked) false ⟨#[],#[ab3,ab3,VQ],[]⟩ 8 (by kernel_rfl) (by kernel_rfl) (by kernel_rfl) (by kernel_rfl)) ?_
 intro W base args ds gs before hval hW _;have hW':=hW;obtain⟨p,q,hA,hV,rfl,_,_⟩:=hW;rw[Tryz.params4]at hA hval;obtain⟨v0,vs0,d0,n6,p0,q0,ha,rfl,rfl,h0,hA⟩:=trodAll_cons hA;obtain⟨v1,vs1,d1,vW,p1,q1,rfl,rfl,rfl,h1,hA⟩:=trodAll_cons hA;obtain⟨v2,vs2,d2,ds2,p2,q2,rfl,rfl,rfl,h2,hA⟩:=trodAll_cons hA;obtain⟨rfl,rfl,rfl⟩:=trodAll_nil hA;obtain⟨rfl,rfl⟩:=trodVars_none hV;obtain rfl:args = #[v0,v1,v2]:=by rw[<-Array.toList_inj,ha]
 obtain⟨a0,VT,kp⟩:=VW (hval 0 38 v0 rfl rfl) h0;obtain⟨a1,hr1,hv1⟩:=VW (hval 1 38 v1 rfl rfl) h1;obtain⟨a2,vX,VU⟩:=OA (hval 2 27 v2 rfl rfl) h2;exact Cg (GD a0 a1 a2 VT hr1 vX) hW' (aat W) kids full (by rw[Tryz.params4];decide) rfl rfl Tryz.underlying4 rfl rfl (aau kp hv1 VU)
theorem entryAgain_holds: Rows.EntryAgainSaid :=
 OpenClaim.holds_of_wide 4 Tryz.f4 rfl rfl rfl rfl rfl rfl rfl ⟨rfl,rfl,rfl,rfl,rfl⟩ rfl rfl rfl rfl rfl (by kernel_rfl) Tryz.func4 (by kernel_rfl)
  (of_decide_eq_true (by kernel_rfl)) (by unfold Func.isWrapper;first|(rw[if_pos (by decide +kernel)];kernel_rfl)|(rw[if_neg (by decide +kernel)];exact⟨rfl,rfl⟩))
  (fun os started H enc _=>FC os started H enc)
