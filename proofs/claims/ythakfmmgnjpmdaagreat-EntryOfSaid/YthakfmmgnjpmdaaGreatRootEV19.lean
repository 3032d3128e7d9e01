/- PROVED HERE: decretallaw21.EntryOf returns true, whatever the input; the input reads as it did. No conditions. -/
import Derived.Test.YthakfmmgnjpmdaaGreatW42
set_option linter.all false
namespace Go.Proofs.YthakfmmgnjpmdaaGreat
open Go.AM Go.ChangeShapes Go.WideShapes Go.ChangeAt Go.RowKit
set_option maxRecDepth 100000 in
def Kh (os : Os) (started : os.Started) (H : Type) (enc : TypeId × Value -> H) :
    ReturnsInHanded {} Tryz.checked os 3 .any (Rows.entryOfSpec.pre6 enc Tryz.checked.prog Tryz.f3 [] false) (Rows.entryOfSpec.post enc Tryz.checked.prog Tryz.f3 false true false false):=by
 refine aas started (by kernel_rfl) Tryz.func3
  (ChangeSpec.witness6 (enc:=enc) (C:=Tryz.checked) false ⟨#[],#[VQ,.int .i64 0,.slice none 0 0],[]⟩ 8 (by kernel_rfl) (by kernel_rfl) (by kernel_rfl) (by kernel_rfl)) ?_
 intro W base args ds gs before hval hW _;have hW':=hW;obtain⟨p,q,hA,hV,rfl,_,_⟩:=hW;rw[Tryz.params3]at hA hval;obtain⟨v0,vs0,d0,n6,p0,q0,ha,rfl,rfl,h0,hA⟩:=trodAll_cons hA;obtain⟨v1,vs1,d1,vW,p1,q1,rfl,rfl,rfl,h1,hA⟩:=trodAll_cons hA;obtain⟨v2,vs2,d2,ds2,p2,q2,rfl,rfl,rfl,h2,hA⟩:=trodAll_cons hA;obtain⟨rfl,rfl,rfl⟩:=trodAll_nil hA;obtain⟨rfl,rfl⟩:=trodVars_none hV;obtain rfl:args = #[v0,v1,v2]:=by rw[<-Array.toList_inj,ha]
 obtain⟨a0,VT,kp⟩:=OA (hval 0 27 v0 rfl rfl) h0;obtain⟨n1,rfl,rfl,rfl,wn1⟩:=open_int Tryz.underlying3 (hval 1 3 v1 rfl rfl) h1;obtain⟨a2,vX,VU⟩:=ab2 (hval 2 28 v2 rfl rfl) h2;exact Cg (Na a0 n1 a2 VT vX) hW' (aat W) kids full (by rw[Tryz.params3];decide) rfl rfl Tryz.underlying4 rfl rfl (aau kp (VR.int .i64 n1) VU)
theorem entryOf_holds: Rows.EntryOfSaid :=
 OpenClaim.holds_of_wide 3 Tryz.f3 rfl rfl rfl rfl rfl rfl rfl ⟨rfl,rfl,rfl,rfl,rfl⟩ rfl rfl rfl rfl rfl (by kernel_rfl) Tryz.func3 (by kernel_rfl)
  (of_decide_eq_true (by kernel_rfl)) (by unfold Func.isWrapper;first|(rw[if_pos (by decide +kernel)];kernel_rfl)|(rw[if_neg (by decide +kernel)];exact⟨rfl,rfl⟩))
  (fun os started H enc _=>Kh os started H enc)
