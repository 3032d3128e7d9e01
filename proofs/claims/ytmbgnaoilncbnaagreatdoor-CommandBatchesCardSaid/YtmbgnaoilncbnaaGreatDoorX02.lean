/- Part. -/
import Derived.Test.YtmbgnaoilncbnaaGreatDoorX01
set_option linter.all false
namespace Go.AM
variable {P:Program}
def SL{op:BinOp}{x y:AV}{K K':AV->Prop}(h:∀ v,K v->K' v): iV op x y K->iV op x y K':=by
 unfold iV;split<;>intro hh<;>first|exact h _ hh|exact⟨hh.1,h _ hh.2⟩|exact⟨hh.1,hh.2.1,h _ hh.2.2⟩|exact hh.elim
def aed{op:BinOp}{x y:AV}{K:AV->Prop}: iV op x y K-> ∃ v,iV op x y (fun v'=>v'=v)/\K v:=by
 unfold iV;split<;>intro hh<;>first|exact⟨_,rfl,hh⟩|exact⟨_,⟨hh.1,rfl⟩,hh.2⟩|exact⟨_,⟨hh.1,hh.2.1,rfl⟩,hh.2.2⟩|exact hh.elim
def U4{op:UnOp}{x:AV}{K K':AV->Prop}(h:∀ v,K v->K' v): JX op x K->JX op x K':=by
 unfold JX;split<;>intro hh<;>simp_all
def ae9{op:UnOp}{x:AV}{K:AV->Prop}: JX op x K-> ∃ v,JX op x (fun v'=>v'=v)/\K v:=by
 unfold JX;split<;>intro hh<;>simp_all
def dz{x:Option AV}{d y:Nat}{K K':Nat->Prop}(h:∀ v,K v->K' v): bound x d y K->bound x d y K':=by
 unfold bound;split<;>intro hh<;>simp_all
def sH{x:Option AV}{d y:Nat}{K:Nat->Prop}: bound x d y K-> ∃ v,bound x d y (fun v'=>v'=v)/\K v:=by
 unfold bound;split<;>intro hh<;>simp_all
def MY{el:El}{x:AV}{off:Nat}{ag:Bool}{n:Nat}{K K':AV->Prop}(h:∀ v,K v->K' v): partOf el x off ag n K->partOf el x off ag n K':=by
 unfold partOf;split
 ·exact h _
 ·rintro⟨h1,h2⟩;refine⟨h1,?_⟩;split at h2
  ·exact⟨h _ h2.1,h2.2⟩
  ·exact h2.elim
def SM{el:El}{x:AV}{off:Nat}{ag:Bool}{n:Nat}{K:AV->Prop}: partOf el x off ag n K-> ∃ v,partOf el x off ag n (fun v'=>v'=v)/\K v:=by
 unfold partOf;split
 ·intro h;exact⟨_,rfl,h⟩
 ·rintro⟨h1,h2⟩;split at h2
  ·exact⟨_,⟨h1,rfl,h2.2⟩,h2.1⟩
  ·exact h2.elim
def nv{σ : aj}{l:Nat}{o:aX}(τ : aj)(h : σ[l]? = some o): (σ++ τ)[l]? = some o:=by
 rw[List.getElem?_append_left (aN.1 h).1];exact h
def BJ{σ : aj}{ag:Bool}{n:Nat}{p:AV}{K K':AV->Prop}(h:∀ v,K v->K' v): nJ σ ag n p K->nJ σ ag n p K':=by
 unfold nJ;intro hh;split at hh
 ·split at hh
  ·exact⟨hh.1,hh.2.1,h _ hh.2.2⟩
  ·exact hh.elim
 ·exact MY h hh
 ·split at hh
  ·exact⟨hh.1,hh.2.1,hh.2.2.1,MY h hh.2.2.2⟩
  ·exact hh.elim
 ·exact hh.elim
def acy{σ : aj}{ag:Bool}{n:Nat}{p:AV}{K:AV->Prop}(hh:nJ σ ag n p K): ∃ v,(∀ τ,nJ (σ++ τ) ag n p (fun v'=>v'=v))/\K v:=by
 unfold nJ at hh;split at hh
 ·split at hh
  ·rename_i h;exact⟨_,fun τ=>by simp only[nJ,nv τ h];exact⟨hh.1,hh.2.1,trivial⟩,hh.2.2⟩
  ·exact hh.elim
 ·obtain⟨v,h1,h2⟩:=SM hh;exact⟨v,fun τ=>h1,h2⟩
 ·split at hh
  ·rename_i h;obtain⟨v,h1,h2⟩:=SM hh.2.2.2;exact⟨v,fun τ=>by simp only[nJ,nv τ h];exact⟨hh.1,hh.2.1,hh.2.2.1,h1⟩,h2⟩
  ·exact hh.elim
 ·exact hh.elim
def MZ{σ : aj}{n:Nat}{p v:AV}{K K':aj->Prop}(h:∀ v,K v->K' v): sG σ n p v K->sG σ n p v K':=by
 unfold sG;rintro⟨h1,h2,hh⟩;refine⟨h1,h2,?_⟩;split at hh
 ·split at hh
  ·exact⟨hh.1,h _ hh.2⟩
  ·exact hh.elim
 ·split at hh
  ·exact⟨hh.1,hh.2.1,hh.2.2.1,hh.2.2.2.1,hh.2.2.2.2.1,h _ hh.2.2.2.2.2⟩
  ·exact hh.elim
 ·exact hh.elim
def BK{σ : aj}{el:El}{x:AV}{K K':List AV->Prop}(h:∀ v,K v->K' v): iA σ el x K->iA σ el x K':=by
 unfold iA;intro hh;split at hh
 ·exact h _ hh
 ·exact⟨hh.1,h _ hh.2⟩
 ·refine⟨hh.1,?_⟩;have hh:=hh.2;split at hh
  ·exact⟨hh.1,hh.2.1,h _ hh.2.2⟩
  ·exact hh.elim
 ·exact⟨hh.1,h _ hh.2⟩
 ·exact hh.elim
def acz{σ : aj}{el:El}{x:AV}{K:List AV->Prop}(hh:iA σ el x K): ∃ v,(∀ τ,iA (σ++ τ) el x (fun v'=>v'=v))/\K v:=by
 unfold iA at hh;split at hh
 ·exact⟨_,fun τ=>rfl,hh⟩
 ·exact⟨_,fun τ=>⟨hh.1,rfl⟩,hh.2⟩
 ·obtain⟨h0,hh⟩:=hh;split at hh
  ·rename_i h;exact⟨_,fun τ=>by simp only[iA,nv τ h];exact⟨h0,hh.1,hh.2.1,trivial⟩,hh.2.2⟩
  ·exact hh.elim
 ·exact⟨_,fun τ=>⟨hh.1,rfl⟩,hh.2⟩
 ·exact hh.elim
def aa4{σ : aj}{T:Option TypeId}{el:El}{x y:AV}{K K':AV->aj->Prop}(h:∀ v s,K v s->K' v s): uL σ T el x y K->uL σ T el x y K':=by
 unfold uL;refine BK fun ys hh=>⟨hh.1,?_⟩;have hh:=hh.2;split at hh
 ·split at hh
  ·simp_all
  ·rename_i h0;simp only[h0,if_false];exact⟨hh.1,h _ _ hh.2⟩
 ·refine⟨hh.1,?_⟩;have hh:=hh.2;split at hh
  ·rename_i h0;simp only[h0,if_true];exact h _ _ hh
  ·rename_i h0;simp only[h0,if_false];exact⟨hh.1,h _ _ hh.2⟩
 ·refine⟨hh.1,?_⟩;have hh:=hh.2;split at hh
  ·exact⟨hh.1,hh.2.1,hh.2.2.1,hh.2.2.2.1,hh.2.2.2.2.1,hh.2.2.2.2.2.1,h _ _ hh.2.2.2.2.2.2⟩
  ·exact hh.elim
 ·exact hh.elim
def SN{op:Bool}{x y:AV}{K K':AV->Prop}(h:∀ v,K v->K' v): JY op x y K->JY op x y K':=by
 unfold JY;split<;>intro hh<;>simp_all
def aee{op:Bool}{x y:AV}{K:AV->Prop}: JY op x y K-> ∃ v,JY op x y (fun v'=>v'=v)/\K v:=by
 unfold JY;split<;>intro hh<;>simp_all
def wY{op:Bool}{K K':AV->Prop}(h:∀ v,K v->K' v): ∀(ys:List AV) (x:AV),vF op x ys K->vF op x ys K'
 | [],x=>h x
 | y::ys,x=>SN fun z=>wY h ys z
def N0{op:Bool}{K:AV->Prop}: ∀(ys:List AV) (x:AV),vF op x ys K-> ∃ v,vF op x ys (fun v'=>v'=v)/\K v
 | [],x=>fun h=>⟨x,rfl,h⟩
 | y :: ys, x => fun h => by
   obtain⟨z,h1,h2⟩:=aee h;obtain⟨v,h3,h4⟩:=N0 ys z h2;exact⟨v,SN (fun z' e=>by subst e;exact h3) h1,h4⟩
def Fi{e:Env}{K K':List AV->Prop}(h:∀ v,K v->K' v): ∀(ps:List (Nat × Nat × AX)) (z:List AV),nu z e ps K->nu z e ps K'
 | [],z=>h z
 |(off,n,x)::r,z=>fun hh=>⟨hh.1,hh.2.1,hh.2.2.1,Fi h r _ hh.2.2.2⟩
def SO{e:Env}{K:List AV->Prop}: ∀(ps:List (Nat × Nat × AX)) (z:List AV),nu z e ps K-> ∃ v,nu z e ps (fun v'=>v'=v)/\K v
 | [],z=>fun h=>⟨z,rfl,h⟩
 | (off, n, x) :: r, z => fun hh => by
   obtain⟨v,h1,h2⟩:=SO r _ hh.2.2.2;exact⟨v,⟨hh.1,hh.2.1,hh.2.2.1,h1⟩,h2⟩
def wZ{el:El}{e:Env}{K K':List AV->Prop}(h:∀ v,K v->K' v): ∀(ps:List (Nat × AX)) (z:List AV),lX el z e ps K->lX el z e ps K'
 | [],z=>h z
 |(i,x)::r,z=>fun hh=>⟨hh.1,hh.2.1,wZ h r _ hh.2.2⟩
def He{el:El}{e:Env}{K:List AV->Prop}: ∀(ps:List (Nat × AX)) (z:List AV),lX el z e ps K-> ∃ v,lX el z e ps (fun v'=>v'=v)/\K v
 | [],z=>fun h=>⟨z,rfl,h⟩
 | (i, x) :: r, z => fun hh => by
   obtain⟨v,h1,h2⟩:=He r _ hh.2.2;exact⟨v,⟨hh.1,hh.2.1,h1⟩,h2⟩
def AX.uses: AX->List Nat
 | .t n=>[n]
 | .c _=>[]
def AX.Zx: Option AX->List Nat
 | some x=>x.uses
 | none=>[]
def AX.tS(l:List AX): List Nat:=l.flatMap AX.uses
def bp.uses: bp->List Nat
 | .mv x | .box x | .Cx _ x | .load _ _ x | .lD x | .un _ x | .jP _ x | .Po x | .MW x | .wX x | .G8 _ x | .gS _ x | .field _ _ _ x | .ext x _ | .len _ x | .panic x | .NY x | .NZ x | .IB _ x | .Pp x | .Pq _ x | .Mg _ x=>x.uses
 | .pick c a b=>c.uses++a.uses++b.uses
 | .alloc _ _ | .iZ _ | .hold=>[]
 | .kY k _ _=>[k]
 | .qv k _ _ x y=>k::(x.uses++y.uses)
 | .build _ ps=>AX.tS (ps.map (·.2.2))
 | .bK _ _ _ _ ps=>AX.tS (ps.map (·.2))
 | .store _ x v=>x.uses++v.uses
 | .bin _ x y | .qd _ _ _ x y | .cz _ _ x y | .gL x y | .Cv _ _ x y | .app _ _ x y | .Cw _ x y | .MX _ x y | .rG _ _ x y | .vE _ _ x y=>x.uses++y.uses
 | .qu _ f c=>AX.tS f++AX.tS c
 | .pG x lo hi | .yq _ x lo hi=>x.uses++AX.Zx lo++AX.Zx hi
 | .call _ f args | .mL f args=>f.uses++AX.tS args
 | .min x xs | .max x xs=>x.uses++AX.tS xs
def AX.e7{e e':Env}{x:AX}(h:∀ t ∈ x.uses,e t=e' t): x.ev e=x.ev e':=by
 cases x with
 | t n=>exact h n (by simp[AX.uses])
 | c a=>rfl
def AX.Eh{e e':Env}{x:Option AX}(h:∀ t ∈ AX.Zx x,e t=e' t): x.map (AX.ev e)=x.map (AX.ev e'):=by
 cases x with
 | none=>rfl
 | some x=>exact congrArg some (AX.e7 h)
def AX.wz{e e':Env}{l:List AX}(h:∀ t ∈ AX.tS l,e t=e' t): l.map (AX.ev e)=l.map (AX.ev e'):=by
 refine List.map_congr_left fun x hx=>AX.e7 fun t ht=>h t ?_;exact List.mem_flatMap.2 ⟨x,hx,ht⟩
def JZ{e e':Env}{K:List AV->Prop}: ∀(ps:List (Nat × Nat × AX)) (z:List AV),(∀ t ∈ AX.tS (ps.map (·.2.2)),e t=e' t)->nu z e ps K=nu z e' ps K
 | [],z,_=>rfl
 | (off, n, x) :: r, z, h => by
   have h1:x.ev e=x.ev e':=AX.e7 fun t ht=>h t (by simp[AX.tS,ht]);simp only[nu,h1];rw[JZ r _ fun t ht=>h t (by simp only[bu,AX.tS,de,List.mem_append];exact .inr ht)]
def IC{el:El}{e e':Env}{K:List AV->Prop}: ∀(ps:List (Nat × AX)) (z:List AV),(∀ t ∈ AX.tS (ps.map (·.2)),e t=e' t)->lX el z e ps K=lX el z e' ps K
 | [],z,_=>rfl
 | (i, x) :: r, z, h => by
   have h1:x.ev e=x.ev e':=AX.e7 fun t ht=>h t (by simp[AX.tS,ht]);simp only[lX,h1];rw[IC r _ fun t ht=>h t (by simp only[bu,AX.tS,de,List.mem_append];exact .inr ht)]
def zK{o:bp}{e e':Env}{σ : aj}{K Kp:AV->aj->Prop}(h:∀ t ∈ o.uses,e t=e' t): o.run P e σ K Kp=o.run P e' σ K Kp:=by
 cases o<;>simp only[bp.uses,List.mem_append]at h
 case build z ps=>exact JZ ps _ h
 case bK mt el z n ps=>exact IC ps _ h
 case alloc=>rfl
 case iZ=>rfl
 case hold=>rfl
 case kY k T cs=>simp only[bp.run,h k (by simp)]
 case qv k T el x y=>simp only[bp.run,h k (by simp),AX.e7 (x:=x) (fun t ht=>h t (by simp[ht])),AX.e7 (x:=y) (fun t ht=>h t (by simp[ht]))]
 case pick c a b=>simp only[bp.run,AX.e7 (fun t ht=>h t (.inl (.inl ht))),AX.e7 (fun t ht=>h t (.inl (.inr ht))),AX.e7 (fun t ht=>h t (.inr ht))]
 case qu f a b=>simp only[bp.run,AX.wz (fun t ht=>h t (.inl ht)),AX.wz (fun t ht=>h t (.inr ht))]
 case pG x lo hi=>simp only[bp.run,AX.e7 (fun t ht=>h t (.inl (.inl ht))),AX.Eh (fun t ht=>h t (.inl (.inr ht))),AX.Eh (fun t ht=>h t (.inr ht))]
 case yq el x lo hi=>simp only[bp.run,AX.e7 (fun t ht=>h t (.inl (.inl ht))),AX.Eh (fun t ht=>h t (.inl (.inr ht))),AX.Eh (fun t ht=>h t (.inr ht))]
 case call q f args=>simp only[bp.run,AX.e7 (fun t ht=>h t (.inl ht)),AX.wz (fun t ht=>h t (.inr ht))]
 case mL f args=>simp only[bp.run,AX.e7 (fun t ht=>h t (.inl ht)),AX.wz (fun t ht=>h t (.inr ht))]
 case min x xs=>simp only[bp.run,AX.e7 (fun t ht=>h t (.inl ht)),AX.wz (fun t ht=>h t (.inr ht))]
 case max x xs=>simp only[bp.run,AX.e7 (fun t ht=>h t (.inl ht)),AX.wz (fun t ht=>h t (.inr ht))]
 all_goals first
  | simp only[bp.run,AX.e7 h]
  | simp only[bp.run,AX.e7 (fun t ht=>h t (.inl ht)),AX.e7 (fun t ht=>h t (.inr ht))]
inductive Cls where
 | pu|rd|al|st|ap|no
deriving DecidableEq
def bp.cls: bp->Cls
 | .mv _ | .pick .. | .build .. | .lD _ | .bin .. | .qd .. | .un .. | .jP .. | .Po _ | .G8 .. | .qu .. | .pG .. | .gS .. | .field .. | .gL .. | .Cv .. | .ext .. | .len .. | .min .. | .max .. | .vE ..=> .pu
 | .bK mt ..=>if mt then .al else .pu
 | .load .. | .wX _ | .yq .. | .cz .. | .IB ..=> .rd
 | .call q ..=>if q then .rd else .no
 | .alloc .. | .box _ | .Cx .. | .MW _ | .rG .. | .iZ _=> .al
 | .store .. | .mL .. | .kY .. | .qv ..=> .st
 | .app ..=> .ap
 | _=> .no
def Cy{o:bp}{e:Env}{σ : aj}{K K' Kp Kp':AV->aj->Prop}(h:∀ v s,K v s->K' v s)(hp:∀ v s,Kp v s->Kp' v s): o.run P e σ K Kp->o.run P e σ K' Kp':=by
 cases o<;>simp only[bp.run]
 case mv x=>exact h _ _
 case alloc T cs=>exact h _ _
 case iZ el=>exact h _ _
 case hold=>exact h _ _
 case Cx=>exact fun hh=>⟨hh.1,h _ _ hh.2⟩
 case kY k T cs =>
  split
  ·split
   ·exact h _ _
   ·exact id
  ·exact id
 case qv k T el x y =>
  split
  ·split
   ·split
    ·exact fun hh=>⟨hh.1,hh.2.1,hh.2.2.1,h _ _ hh.2.2.2⟩
    ·exact id
   ·exact id
  ·exact id
 case G8 t x=>exact h _ _
 case qu f a b=>exact h _ _
 case box x=>exact fun hh=>⟨hh.1,h _ _ hh.2⟩
 case build z ps=>exact Fi (fun v=>h _ _) _ _
 case bK mt el z n ps=>exact wZ (fun v=>by split<;>exact h _ _) _ _
 case load ag n x=>exact BJ fun v=>h _ _
 case store n x v=>exact MZ fun v=>h _ _
 case bin op x y=>exact SL fun v=>h _ _
 case un op x=>exact U4 fun v=>h _ _
 case app T el x y=>exact aa4 h
 case Mg=>exact fun hh=>⟨hh.1,h _ _ hh.2⟩
 case IB =>
  split
  ·exact h _ _
  ·refine fun hh=>⟨hh.1,?_⟩;have hh:=hh.2;split at hh
   ·exact⟨hh.1,hh.2.1,hh.2.2.1,h _ _ hh.2.2.2⟩
   ·exact hh.elim
  ·exact id
 case Cw =>
  split
  ·exact fun hh=>⟨hh.1,h _ _ hh.2⟩
  ·refine fun hh=>⟨hh.1,hh.2.1,hh.2.2.1,?_⟩;have hh:=hh.2.2.2;split at hh
   ·obtain⟨a1,a2,a3,a4,a5,s,a6,a7⟩:=hh;exact⟨a1,a2,a3,a4,a5,s,a6,h _ _ a7⟩
   ·exact hh.elim
  ·exact id
 case Pp =>
  split
  ·split
   ·exact fun hh=>⟨hh.1,h _ _ hh.2⟩
   ·exact id
  ·exact id
 case Pq =>
  split
  ·split
   ·exact fun hh=>⟨hh.1,h _ _ hh.2⟩
   ·exact id
  ·exact id
 case MX =>
  split
  ·refine fun hh=>⟨hh.1,hh.2.1,?_⟩;have hh:=hh.2.2;split at hh
   ·exact h _ _ hh
   ·exact hh.elim
  ·exact id
 case min x xs=>exact wY (fun v=>h _ _) _ _
 case max x xs=>exact wY (fun v=>h _ _) _ _
 case wX x=>exact fun hh=>⟨hh.1,BK (fun v ⟨s,h1,h2⟩=>⟨s,h1,h _ _ h2⟩) hh.2⟩
 case pick c a b=>split<;>first|exact h _ _|exact id
 case lD x=>split<;>first|exact h _ _|exact id
 case qd=>split<;>first|exact h _ _|exact id
 case jP=>split<;>first|exact h _ _|exact id
 case Po=>split<;>first|exact h _ _|exact id
 case vE=>split<;>first|exact h _ _|exact id
 case gS=>split<;>first|exact h _ _|exact id
 case panic=>split<;>first|exact hp _ _|exact id
 case NY=>split<;>first|exact h _ _|exact id
 case NZ =>
  split
  ·split
   ·split<;>exact h _ _
   ·exact id
  ·exact id
 case len=>split<;>first|exact h _ _|exact id
 case MW=>split<;>first|exact fun hh=>⟨hh.1,h _ _ hh.2⟩|exact id
 case ext=>split<;>first|exact fun hh=>⟨hh.1,h _ _ hh.2⟩|exact id
 case field=>split<;>first|exact fun hh=>⟨hh.1,hh.2.1,h _ _ hh.2.2⟩|exact id
 case gL=>split<;>first|exact fun hh=>⟨hh.1,hh.2.1,h _ _ hh.2.2⟩|exact id
 case Cv=>split<;>first|exact fun hh=>⟨hh.1,hh.2.1,hh.2.2.1,hh.2.2.2.1,h _ _ hh.2.2.2.2⟩|exact id
 case rG=>split<;>first|exact fun hh=>⟨hh.1,hh.2.1,hh.2.2.1,hh.2.2.2.1,h _ _ hh.2.2.2.2⟩|exact id
 case pG x lo hi=>split<;>first|exact dz (fun _=>dz fun _=>h _ _)|exact id
 case yq el x lo hi =>
  split
  ·exact dz (fun _=>dz fun _=>h _ _)
  ·exact fun hh=>⟨hh.1,dz (fun _=>dz fun _=>h _ _) hh.2⟩
  ·refine fun hh=>⟨hh.1,?_⟩;have hh:=hh.2;split at hh
   ·exact⟨hh.1,hh.2.1,hh.2.2.1,dz (fun _=>dz fun _=>h _ _) hh.2.2.2⟩
   ·exact hh.elim
  ·exact id
 case cz el arr x i =>
  intro hh;split at hh
  ·split at hh
   ·exact⟨hh.1,hh.2.1,hh.2.2.1,h _ _ hh.2.2.2⟩
   ·refine⟨hh.1,hh.2.1,hh.2.2.1,?_⟩;have hh:=hh.2.2.2;split at hh
    ·exact⟨hh.1,hh.2.1,h _ _ hh.2.2⟩
    ·exact hh.elim
   ·exact⟨hh.1,hh.2.1,h _ _ hh.2.2⟩
   ·exact⟨hh.1,hh.2.1,h _ _ hh.2.2⟩
   ·exact⟨hh.1,hh.2.1,h _ _ hh.2.2⟩
   ·exact hh.elim
  ·exact hh.elim
 case mL f args =>
  split
  ·unfold Mf;split
   ·exact fun⟨l,ob,nQ,r,h1,h2,h3,h4,h5⟩=>⟨l,ob,nQ,r,h1,h2,h3,h4,h _ _ h5⟩
   ·exact id
  ·exact id
 case call q f args =>
  split
  ·split
   ·exact fun⟨r,h1,h2⟩=>⟨r,h1,h _ _ h2⟩
   ·exact fun hh=>hh.mono fun o s=>by cases o<;>first|exact h _ _|exact hp _ _
  ·split
   ·exact id
   ·exact fun hh=>hh.mono fun o s=>by cases o<;>first|exact h _ _|exact hp _ _
  ·exact id
abbrev Is(v:AV)(σ : aj): AV->aj->Prop:=fun v' σ'=>v'=v/\σ' = σ
abbrev No: AV->aj->Prop:=fun _ _=>False
def ag2{o:bp}{e:Env}{σ : aj}{K Kp:AV->aj->Prop}(hc:o.cls = .pu)(hh:o.run P e σ K Kp): ∃ v,(∀ σ',o.run P e σ' (Is v σ') No)/\K v σ:=by
 cases o<;>simp only[bp.cls]at hc<;>(try (cases hc;done))<;>simp only[bp.run]at hh ⊢
 case mv x=>exact⟨_,fun _=>⟨rfl,rfl⟩,hh⟩
 case G8 t x=>exact⟨_,fun _=>⟨rfl,rfl⟩,hh⟩
 case qu f a b=>exact⟨_,fun _=>⟨rfl,rfl⟩,hh⟩
 case build z ps=>obtain⟨v,h1,h2⟩:=SO _ _ hh;exact⟨_,fun _=>Fi (fun v' e=>⟨congrArg AV.agg e,rfl⟩) _ _ h1,h2⟩
 case bK mt el z n ps =>
  cases mt
  ·obtain⟨v,h1,h2⟩:=He _ _ hh;simp only[Bool.false_eq_true,if_false]at h2 ⊢;exact⟨_,fun _=>wZ (fun v' e=>⟨congrArg (AV.aK true el) e,rfl⟩) _ _ h1,h2⟩
  ·cases hc
 case bin op x y=>obtain⟨v,h1,h2⟩:=aed hh;exact⟨v,fun _=>SL (fun v' e=>⟨e,rfl⟩) h1,h2⟩
 case un op x=>obtain⟨v,h1,h2⟩:=ae9 hh;exact⟨v,fun _=>U4 (fun v' e=>⟨e,rfl⟩) h1,h2⟩
 case min x xs=>obtain⟨v,h1,h2⟩:=N0 _ _ hh;exact⟨v,fun _=>wY (fun v' e=>⟨e,rfl⟩) _ _ h1,h2⟩
 case max x xs=>obtain⟨v,h1,h2⟩:=N0 _ _ hh;exact⟨v,fun _=>wY (fun v' e=>⟨e,rfl⟩) _ _ h1,h2⟩
 case pick c a b=>split at hh<;>first|exact⟨_,fun _=>⟨rfl,rfl⟩,hh⟩|exact hh.elim
 case lD x=>split at hh<;>first|exact⟨_,fun _=>⟨rfl,rfl⟩,hh⟩|exact hh.elim
 case qd=>split at hh<;>first|exact⟨_,fun _=>⟨rfl,rfl⟩,hh⟩|exact hh.elim
 case jP=>split at hh<;>first|exact⟨_,fun _=>⟨rfl,rfl⟩,hh⟩|exact hh.elim
 case Po=>split at hh<;>first|exact⟨_,fun _=>⟨rfl,rfl⟩,hh⟩|exact hh.elim
 case vE=>split at hh<;>first|exact⟨_,fun _=>⟨rfl,rfl⟩,hh⟩|exact hh.elim
 case gS=>split at hh<;>first|exact⟨_,fun _=>⟨rfl,rfl⟩,hh⟩|exact hh.elim
 case len=>split at hh<;>first|exact⟨_,fun _=>⟨rfl,rfl⟩,hh⟩|exact hh.elim
 case ext=>split at hh<;>first|exact⟨_,fun _=>⟨hh.1,rfl,rfl⟩,hh.2⟩|exact hh.elim
 case field=>split at hh<;>first|exact⟨_,fun _=>⟨hh.1,hh.2.1,rfl,rfl⟩,hh.2.2⟩|exact hh.elim
 case gL=>split at hh<;>first|exact⟨_,fun _=>⟨hh.1,hh.2.1,rfl,rfl⟩,hh.2.2⟩|exact hh.elim
 case Cv=>split at hh<;>first|exact⟨_,fun _=>⟨hh.1,hh.2.1,hh.2.2.1,hh.2.2.2.1,rfl,rfl⟩,hh.2.2.2.2⟩|exact hh.elim
 case pG x lo hi =>
  split at hh
  ·obtain⟨v,h1,h2⟩:=sH hh;obtain⟨u,h3,h4⟩:=sH h2;exact⟨_,fun _=>dz (fun v' e=>by subst e;exact dz (fun u' e=>by subst e;exact⟨rfl,rfl⟩) h3) h1,h4⟩
  ·exact hh.elim
 case call q f args=>split at hc<;>cases hc
def ag3{o:bp}{e:Env}{σ : aj}{K Kp:AV->aj->Prop}(hc:o.cls = .rd)(hh:o.run P e σ K Kp): ∃ v,(∀ τ,o.run P e (σ++ τ) (Is v (σ++ τ)) No)/\K v σ:=by
 cases o<;>simp only[bp.cls]at hc<;>(try (cases hc;done))<;>simp only[bp.run]at hh ⊢
 case bK mt el z n ps=>split at hc<;>cases hc
 case load ag n x=>obtain⟨v,h1,h2⟩:=acy hh;exact⟨v,fun τ=>BJ (fun v' e=>⟨e,rfl⟩) (h1 τ),h2⟩
 case wX x =>
  obtain⟨v,h1,s,h2,h3⟩:=acz hh.2;exact⟨_,fun τ=>⟨hh.1,BK (fun v' (e:v'=v)=>⟨s,by rw[e];exact h2,rfl,rfl⟩) (h1 τ)⟩,h3⟩
 case IB el x =>
  split at hh
  ·exact⟨_,fun _=>⟨rfl,rfl⟩,hh⟩
  ·obtain⟨h0,hh⟩:=hh;split at hh
   ·rename_i h;refine⟨_,fun τ=>⟨h0,?_⟩,hh.2.2.2⟩;simp only[nv τ h];exact⟨hh.1,hh.2.1,hh.2.2.1,by trivial⟩
   ·exact hh.elim
  ·exact hh.elim
 case yq el x lo hi =>
  split at hh
  ·obtain⟨v,h1,h2⟩:=sH hh;obtain⟨u,h3,h4⟩:=sH h2;exact⟨_,fun _=>dz (fun v' e=>by subst e;exact dz (fun u' e=>by subst e;exact⟨rfl,rfl⟩) h3) h1,h4⟩
  ·obtain⟨v,h1,h2⟩:=sH hh.2;obtain⟨u,h3,h4⟩:=sH h2;exact⟨_,fun _=>⟨hh.1,dz (fun v' e=>by subst e;exact dz (fun u' e=>by subst e;exact⟨rfl,rfl⟩) h3) h1⟩,h4⟩
  ·obtain⟨h0,hh⟩:=hh;split at hh
   ·rename_i h;obtain⟨v,h1,h2⟩:=sH hh.2.2.2;obtain⟨u,h3,h4⟩:=sH h2;refine⟨_,fun τ=>⟨h0,?_⟩,h4⟩;simp only[nv τ h];exact⟨hh.1,hh.2.1,hh.2.2.1,dz (fun v' e=>by subst e;exact dz (fun u' e=>by subst e;exact⟨rfl,rfl⟩) h3) h1⟩
   ·exact hh.elim
  ·exact hh.elim
 case cz el arr x i =>
  split at hh
  ·split at hh
   ·exact⟨_,fun τ=>⟨hh.1,hh.2.1,hh.2.2.1,rfl,rfl⟩,hh.2.2.2⟩
   ·obtain⟨h0,h1,h2,hh⟩:=hh;split at hh
    ·rename_i h;refine⟨_,fun τ=>⟨h0,h1,h2,?_⟩,hh.2.2⟩;simp only[nv τ h];exact⟨hh.1,hh.2.1,by trivial⟩
    ·exact hh.elim
   ·exact⟨_,fun τ=>⟨hh.1,hh.2.1,rfl,rfl⟩,hh.2.2⟩
   ·exact⟨_,fun τ=>⟨hh.1,hh.2.1,rfl,rfl⟩,hh.2.2⟩
   ·exact⟨_,fun τ=>⟨hh.1,hh.2.1,rfl,rfl⟩,hh.2.2⟩
   ·exact hh.elim
  ·exact hh.elim
 case call q f args =>
  cases q with
  | false=>cases hc
  | true =>
    split at hh
    ·simp only[if_true]at hh ⊢;obtain⟨r,h1,h2⟩:=hh;exact⟨r,fun τ=>⟨r,fun τ'=>by rw[List.append_assoc σ];exact h1 _,rfl,rfl⟩,h2⟩
    ·exact hh.elim
    ·exact hh.elim
def adX{o:bp}{e:Env}{σ : aj}{K Kp:AV->aj->Prop}(hc:o.cls = .al)(hh:o.run P e σ K Kp): ∃ v τ,o.run P e σ (Is v (σ++ τ)) No/\K v (σ++ τ):=by
 cases o<;>simp only[bp.cls]at hc<;>(try (cases hc;done))<;>simp only[bp.run]at hh ⊢
 case alloc T cs=>exact⟨_,_,⟨rfl,rfl⟩,hh⟩
 case Cx=>exact⟨_,_,⟨hh.1,rfl,rfl⟩,hh.2⟩
 case iZ el=>exact⟨_,_,⟨rfl,rfl⟩,hh⟩
 case box x=>exact⟨_,_,⟨hh.1,rfl,rfl⟩,hh.2⟩
 case MW x=>split at hh<;>first|exact⟨_,_,⟨hh.1,rfl,rfl⟩,hh.2⟩|exact hh.elim
 case rG=>split at hh<;>first|exact⟨_,_,⟨hh.1,hh.2.1,hh.2.2.1,hh.2.2.2.1,rfl,rfl⟩,hh.2.2.2.2⟩|exact hh.elim
 case call q f args=>split at hc<;>cases hc
 case bK mt el z n ps =>
  cases mt
  ·cases hc
  ·obtain⟨v,h1,h2⟩:=He _ _ hh;simp only[if_true]at h2 ⊢;exact⟨_,_,wZ (fun v' e=>by subst e;exact⟨rfl,rfl⟩) _ _ h1,h2⟩
def SP{σ : aj}{n:Nat}{p v:AV}{K:aj->Prop}(hh:sG σ n p v K): ∃ l o o',σ[l]? = some o/\o.like o'/\p.obj=some l/\sG σ n p v (fun s=>s = σ.set l o')/\K (σ.set l o'):=by
 unfold sG at hh;obtain⟨h1,h2,hh⟩:=hh;split at hh
 ·split at hh
  ·rename_i h;exact⟨_,_,_,h,trivial,rfl,by simp only[sG,h];exact⟨h1,h2,hh.1,trivial⟩,hh.2⟩
  ·exact hh.elim
 ·split at hh
  ·rename_i h;obtain⟨e1,e2,e3,e4,e5,hK⟩:=hh;subst e1;exact⟨_,_,_,h,⟨_,rfl,by simp⟩,rfl,by simp only[sG,h];exact⟨h1,h2,trivial,e2,e3,e4,e5,trivial⟩,hK⟩
  ·exact hh.elim
 ·exact hh.elim
def ag4{o:bp}{e:Env}{σ : aj}{K Kp:AV->aj->Prop}(hc:o.cls = .st)(hh:o.run P e σ K Kp): ∃ v σ',o.run P e σ (Is v σ') No/\K v σ':=by
 cases o<;>simp only[bp.cls]at hc<;>(try (cases hc;done))<;>simp only[bp.run]at hh ⊢
 case bK=>split at hc<;>cases hc
 case call=>split at hc<;>cases hc
 case mL f args =>
  split at hh
  ·unfold Mf at *;split at hh
   ·obtain⟨l,ob,nQ,r,h1,h2,h3,h4,h5⟩:=hh;exact⟨r,_,⟨l,ob,nQ,r,h1,h2,h3,h4,rfl,rfl⟩,h5⟩
   ·exact hh.elim
  ·exact hh.elim
 case store n x v =>
  obtain⟨l,o,o',_,_,_,h1,h2⟩:=SP hh;exact⟨_,_,MZ (fun s e=>⟨rfl,e⟩) h1,h2⟩
 case kY k T cs =>
  split at hh
  ·rename_i n h1;split at hh
   ·rename_i h2;exact⟨_,_,⟨rfl,rfl⟩,hh⟩
   ·exact hh.elim
  ·exact hh.elim
 case qv k T el x y =>
  split at hh
  ·split at hh
   ·split at hh
    ·exact⟨_,_,⟨hh.1,hh.2.1,hh.2.2.1,rfl,rfl⟩,hh.2.2.2⟩
    ·exact hh.elim
   ·exact hh.elim
  ·exact hh.elim
def ag5{o:bp}{e:Env}{σ : aj}{K Kp:AV->aj->Prop}(hc:o.cls = .ap)(hh:o.run P e σ K Kp): ∃ v σ',o.run P e σ (Is v σ') No/\K v σ':=by
 cases o<;>simp only[bp.cls]at hc<;>(try (cases hc;done))<;>simp only[bp.run]at hh ⊢
 case bK=>split at hc<;>cases hc
 case call=>split at hc<;>cases hc
 case app T el x y =>
  have key:∀ ys:List AV,∀ K':AV->aj->Prop,(ys.all (fun a=>a.fits el)=true/\match x.ev e with
   | .ae=>if ys.length=0 then K' .ae σ else fS ys.length el/\K' (.own el σ.length ys.length 0 ys.length) (σ++[.cn T el ys])
   | .aK true bN xs=>bN=el/\if ys.length=0 then K' (.aK true el xs) σ else fS (xs.length+ys.length) el/\K' (.own el σ.length (xs.length+ys.length) 0 (xs.length+ys.length)) (σ++[.cn T el (xs++ys)])
   | .own bN l m lo n => bN = el /\ match σ[l]? with
     | some (.cn T' dM xs)=>(T'=none\/T'=T)/\dM=el/\m=xs.length/\lo=0/\n=xs.length/\fS (xs.length+ys.length) el/\K' (.own el l (xs.length+ys.length) 0 (xs.length+ys.length)) (σ.set l (.cn T' el (xs++ys)))
     | _=>False
   | _=>False)-> ∃ v σ',K' v σ'/\(ys.all (fun a=>a.fits el)=true/\match x.ev e with
   | .ae=>if ys.length=0 then Is v σ' .ae σ else fS ys.length el/\Is v σ' (.own el σ.length ys.length 0 ys.length) (σ++[.cn T el ys])
   | .aK true bN xs=>bN=el/\if ys.length=0 then Is v σ' (.aK true el xs) σ else fS (xs.length+ys.length) el/\Is v σ' (.own el σ.length (xs.length+ys.length) 0 (xs.length+ys.length)) (σ++[.cn T el (xs++ys)])
   | .own bN l m lo n => bN = el /\ match σ[l]? with
     | some (.cn T' dM xs)=>(T'=none\/T'=T)/\dM=el/\m=xs.length/\lo=0/\n=xs.length/\fS (xs.length+ys.length) el/\Is v σ' (.own el l (xs.length+ys.length) 0 (xs.length+ys.length)) (σ.set l (.cn T' el (xs++ys)))
     | _=>False
   | _=>False):=fun ys K'=>by
   rintro⟨h1,h2⟩;split at h2
   ·split at h2
    ·exact⟨_,_,h2,h1,by rw[if_pos (by assumption)];exact⟨rfl,rfl⟩⟩
    ·exact⟨_,_,h2.2,h1,by rw[if_neg (by assumption)];exact⟨h2.1,rfl,rfl⟩⟩
   ·obtain⟨rfl,h2⟩:=h2;split at h2
    ·exact⟨_,_,h2,h1,rfl,by rw[if_pos (by assumption)];exact⟨rfl,rfl⟩⟩
    ·exact⟨_,_,h2.2,h1,rfl,by rw[if_neg (by assumption)];exact⟨h2.1,rfl,rfl⟩⟩
   ·obtain⟨rfl,h2⟩:=h2;split at h2
    ·rename_i hk;refine⟨_,_,h2.2.2.2.2.2.2,h1,rfl,?_⟩;exact⟨h2.1,h2.2.1,h2.2.2.1,h2.2.2.2.1,h2.2.2.2.2.1,h2.2.2.2.2.2.1,rfl,rfl⟩
    ·exact h2.elim
   ·exact h2.elim
  have hh:iA σ el (y.ev e) fun ys=> ∃ v σ',K v σ'/\_:=BK (fun ys h=>key ys K h) hh
  have out:∀ {B:List AV->AV->aj->Prop},(iA σ el (y.ev e) fun ys=> ∃ v σ',K v σ'/\B ys v σ')-> ∃ v σ',(iA σ el (y.ev e) fun ys=>B ys v σ')/\K v σ':=fun {B} h=>by
   unfold iA at *;split at h
   ·obtain⟨v,s,h1,h2⟩:=h;exact⟨v,s,h2,h1⟩
   ·obtain⟨h0,v,s,h1,h2⟩:=h;exact⟨v,s,⟨h0,h2⟩,h1⟩
   ·obtain⟨h0,h⟩:=h;split at h
    ·obtain⟨q1,q2,v,s,h1,h2⟩:=h;exact⟨v,s,⟨h0,q1,q2,h2⟩,h1⟩
    ·exact h.elim
   ·obtain⟨h0,v,s,h1,h2⟩:=h;exact⟨v,s,⟨h0,h2⟩,h1⟩
   ·exact h.elim
  exact out hh
def bp.D(P:Program)(o:bp)(e:Env)(σ : aj)(v:AV)(σ':aj): Prop :=
 match o.cls with
 | .pu=>(∀ s,o.run P e s (Is v s) No)/\σ' = σ
 | .rd=>(∀ τ,o.run P e (σ++ τ) (Is v (σ++ τ)) No)/\σ' = σ
 | .al=>o.run P e σ (Is v σ') No
 | .st=>o.run P e σ (Is v σ') No
 | .ap=>o.run P e σ (Is v σ') No
 | .no=>False
def zL{o:bp}{e:Env}{σ : aj}{K Kp:AV->aj->Prop}{v:AV}{σ':aj}(hK:K v σ')(h:o.run P e σ (Is v σ') No): o.run P e σ K Kp :=
 Cy (fun v' s h=>by obtain⟨e1,e2⟩:=h;subst e1;subst e2;exact hK) (fun _ _ h=>False.elim h) h
def Mh{o:bp}{e:Env}{σ : aj}{K Kp:AV->aj->Prop}(hc:o.cls≠ .no): o.run P e σ K Kp↔ ∃ v σ',o.D P e σ v σ'/\K v σ':=by
 unfold bp.D;constructor
 ·intro hh;split
  ·rename_i h;obtain⟨v,h1,h2⟩:=ag2 h hh;exact⟨v,σ,⟨h1,rfl⟩,h2⟩
  ·rename_i h;obtain⟨v,h1,h2⟩:=ag3 h hh;exact⟨v,σ,⟨h1,rfl⟩,h2⟩
  ·rename_i h;obtain⟨v,τ,h1,h2⟩:=adX h hh;exact⟨v,_,h1,h2⟩
  ·rename_i h;exact ag4 h hh
  ·rename_i h;exact ag5 h hh
  ·rename_i h;exact(hc h).elim
 ·rintro⟨v,σ',hD,hK⟩;split at hD
  ·obtain⟨h1,rfl⟩:=hD;exact zL hK (h1 _)
  ·obtain⟨h1,rfl⟩:=hD;have h2:=h1 [];rw[List.append_nil]at h2;exact zL hK h2
  ·exact zL hK hD
  ·exact zL hK hD
  ·exact zL hK hD
  ·exact hD.elim
def Yy{o:bp}{e e':Env}{σ : aj}{v:AV}{σ':aj}(h:∀ t ∈ o.uses,e t=e' t)(hD:o.D P e σ v σ'): o.D P e' σ v σ':=by
 unfold bp.D at *;split at hD
 ·exact⟨fun s=>by rw[<-zK h];exact hD.1 s,hD.2⟩
 ·exact⟨fun s=>by rw[<-zK h];exact hD.1 s,hD.2⟩
 ·rw[<-zK h];exact hD
 ·rw[<-zK h];exact hD
 ·rw[<-zK h];exact hD
 ·exact hD.elim
def ae_{o:bp}{e:Env}{σ : aj}{v:AV}{σ':aj}(hc:o.cls = .pu\/o.cls = .rd)(hD:o.D P e σ v σ'): σ' = σ:=by
 unfold bp.D at hD;rcases hc with hc|hc<;>simp only[hc]at hD<;>exact hD.2
def afa{o:bp}{e:Env}{σ : aj}{v:AV}{σ':aj}(hc:o.cls = .pu\/o.cls = .rd)(hD:o.D P e σ v σ')(τ : aj): o.D P e (σ++ τ) v (σ++ τ):=by
 unfold bp.D at *;rcases hc with hc|hc<;>simp only[hc]at hD ⊢
 ·exact⟨hD.1,trivial⟩
 ·exact⟨fun alu=>by rw[List.append_assoc];exact hD.1 _,trivial⟩
def afb{o:bp}{e:Env}{σ : aj}{v:AV}{σ':aj}(hc:o.cls = .pu)(hD:o.D P e σ v σ')(s:aj): o.D P e s v s:=by
 unfold bp.D at *;simp only[hc]at hD ⊢;exact⟨hD.1,trivial⟩
def aiL{o:bp}{e:Env}{σ : aj}{v:AV}{σ':aj}(hc:o.cls = .al)(hD:o.D P e σ v σ'): ∃ τ,σ' = σ++ τ:=by
 unfold bp.D at hD;simp only[hc]at hD;obtain⟨v',τ,_,h⟩:=adX hc hD;exact⟨τ,h.2.symm⟩
def bp.tT: bp->Option (Option AX)
 | .load _ _ x=>some (some x)
 | .yq .. | .cz ..=>some none
 | _=>none
def bp.vZ: bp->Option AX
 | .store _ x _=>some x
 | .mL _ (x::_)=>some x
 | .kY k _ _=>some (.t k)
 | .qv k _ _ _ _=>some (.t k)
 | .app _ _ x _=>some x
 | _=>none
def mH(p q:AV): Prop:= ∀ l,p.obj=some l->q.obj=some l->False
def Mi{σ τ : aj}{l:Nat}{o:aX}(h:l < σ.length): σ.set l o++ τ =(σ++ τ).set l o:=by
 rw[fA _ _ h]
def SQ{σ : aj}{ag:Bool}{n:Nat}{p:AV}{K:AV->Prop}{l:Nat}{o:aX}(h:p.obj≠some l)(hh:nJ σ ag n p K): nJ (σ.set l o) ag n p K:=by
 unfold nJ at *;split at hh
 ·rename_i l' off;have hne:l≠l':=fun e=>h (by rw[e];rfl);rw[aH hne];exact hh
 ·exact hh
 ·rename_i el l' m i off;have hne:l≠l':=fun e=>h (by rw[e];rfl);rw[aH hne];exact hh
 ·exact hh
def ag6 {o : bp} {e : Env} {σ : aj} {v : AV} {σ' : aj} {l : Nat} {ob nQ : aX} {rx : Option AX} (hr : o.tT = some rx) (hl : σ[l]? = some ob) (Pr : ob.like nQ) (hap : ∀ x, rx = some x -> (x.ev e).obj ≠ some l) (hD : o.D P e σ v σ') :
    o.D P e (σ.set l nQ) v (σ.set l nQ):=by
 have hlt:l < σ.length:=(aN.1 hl).1;have hc:o.cls = .rd:=by cases o<;>simp[bp.tT]at hr<;>rfl
 unfold bp.D at *;simp only[hc]at hD ⊢;refine⟨fun τ=>?_,trivial⟩;have h:=hD.1 τ;rw[Mi hlt];have hl':(σ++ τ)[l]? = some ob:=nv τ hl;generalize σ++ τ = s at *;have U5:l<s.length:=(aN.1 hl').1
 have shape:∀ (k:Nat) (T:Option TypeId) (el:El) (xs:List AV),s[k]? = some (.cn T el xs)-> ∃ ys,(s.set l nQ)[k]? = some (.cn T el ys)/\ys.length=xs.length:=fun k T el xs hk=>by
  by_cases w6:l=k
  ·subst w6;rw[hl']at hk;cases hk;obtain⟨ys,rfl,h2⟩:=Pr;exact⟨ys,by simp[U5],h2⟩
  ·exact⟨xs,by rw[aH w6];exact hk,rfl⟩
 cases o<;>simp only[bp.tT]at hr<;>(try (cases hr;done))<;>simp only[bp.run]at h ⊢
 case load ag n x =>
  cases hr;exact BJ (fun v' h=>⟨h.1,rfl⟩) (SQ (hap x rfl) h)
 case yq el x lo hi =>
  split at h
  ·exact dz (fun _=>dz fun _ h=>⟨h.1,rfl⟩) h
  ·exact⟨h.1,dz (fun _=>dz fun _ h=>⟨h.1,rfl⟩) h.2⟩
  ·refine⟨h.1,?_⟩;have h:=h.2;split at h
   ·rename_i hk;obtain⟨ys,h1,h2⟩:=shape _ _ _ _ hk;simp only[h1,h2];exact⟨h.1,h.2.1,h.2.2.1,dz (fun _=>dz fun _ h=>⟨h.1,rfl⟩) h.2.2.2⟩
   ·exact h.elim
  ·exact h
 case cz el arr x i =>
  split at h
  ·split at h
   ·exact⟨h.1,h.2.1,h.2.2.1,h.2.2.2.1,rfl⟩
   ·refine⟨h.1,h.2.1,h.2.2.1,?_⟩;have h:=h.2.2.2;split at h
    ·rename_i hk;obtain⟨ys,h1,h2⟩:=shape _ _ _ _ hk;simp only[h1,h2];exact⟨h.1,h.2.1,h.2.2.1,rfl⟩
    ·exact h.elim
   ·exact⟨h.1,h.2.1,h.2.2.1,rfl⟩
   ·exact⟨h.1,h.2.1,h.2.2.1,rfl⟩
   ·exact⟨h.1,h.2.1,h.2.2.1,rfl⟩
   ·exact h.elim
  ·exact h.elim
def afc{o:bp}{e:Env}{σ : aj}{v:AV}{σ':aj}(hc:o.cls = .st)(hD:o.D P e σ v σ'): ∃ y l ob nQ,o.vZ=some y/\σ[l]? = some ob/\ob.like nQ/\(y.ev e).obj=some l/\σ' = σ.set l nQ:=by
 unfold bp.D at hD;simp only[hc]at hD;cases o<;>simp only[bp.cls]at hc<;>(try (cases hc;done))<;>simp only[bp.run]at hD
 case bK=>split at hc<;>cases hc
 case call=>split at hc<;>cases hc
 case mL f args =>
  split at hD
  ·cases args with
   | nil=>exact hD.elim
   | cons x xs =>
     obtain⟨l,ob,nQ,r,h1,h2,h3,_,h5⟩:=hD;exact⟨x,l,ob,nQ,rfl,h2,h3,h1,h5.2.symm⟩
  ·exact hD.elim
 case store n x v =>
  obtain⟨l,ob,nQ,h1,h2,h3,_,h5⟩:=SP hD;exact⟨x,l,ob,nQ,rfl,h1,h2,h3,h5.2.symm⟩
 case kY k T cs =>
  split at hD
  ·rename_i n h1;split at hD
   ·rename_i h2;refine⟨.t k,n,.lM,.bF T cs,rfl,h2,trivial,?_,hD.2.symm⟩;simp only[AX.ev,h1,AV.obj]
   ·exact hD.elim
  ·exact hD.elim
 case qv k T el x y =>
  split at hD
  ·rename_i n h1;split at hD
   ·rename_i h2;split at hD
    ·refine⟨.t k,n,.lM,.cn T el _,rfl,h2,trivial,?_,hD.2.2.2.2.symm⟩;simp only[AX.ev,h1,AV.obj]
    ·exact hD.elim
   ·exact hD.elim
  ·exact hD.elim
def bp.UU: bp->Option Nat
 | .kY k _ _=>some k
 | .qv k _ _ _ _=>some k
 | _=>none
def adY {o : bp} {k : Nat} {e : Env} {σ : aj} {v : AV} {σ' : aj} (h : o.UU = some k) (hD : o.D P e σ v σ') :
    ∃ n ob,e k = .ref n 0/\σ[n]? = some .lM/\ob≠ .lM/\σ' = σ.set n ob/\ ∀ s:aj,s[n]? = some .lM->o.D P e s v (s.set n ob):=by
 cases o<;>simp[bp.UU]at h
 case kY k' T cs =>
  subst h;have hD:bp.run P (.kY k' T cs) e σ (Is v σ') No:=hD;simp only[bp.run]at hD;split at hD
  ·rename_i n h1;split at hD
   ·rename_i h2;refine⟨n,_,h1,h2,by simp,hD.2.symm,fun s hs=>?_⟩;show bp.run P (.kY k' T cs) e s (Is v _) No;simp only[bp.run,h1,hs];exact⟨hD.1,rfl⟩
   ·exact hD.elim
  ·exact hD.elim
 case qv k' T el x y =>
  subst h;have hD:bp.run P (.qv k' T el x y) e σ (Is v σ') No:=hD;simp only[bp.run]at hD;split at hD
  ·rename_i n h1;split at hD
   ·rename_i h2;split at hD
    ·rename_i ys h3;refine⟨n,_,h1,h2,by simp,hD.2.2.2.2.symm,fun s hs=>?_⟩;show bp.run P (.qv k' T el x y) e s (Is v _) No;simp only[bp.run,h1,hs,h3];exact⟨hD.1,hD.2.1,hD.2.2.1,hD.2.2.2.1,rfl⟩
    ·exact hD.elim
   ·exact hD.elim
  ·exact hD.elim
def bp.rH: bp->Option AX
 | .load _ _ x=>some x
 | .yq _ x _ _=>some x
 | .cz _ _ x _=>some x
 | _=>none
def Ps{o:bp}{x:AX}(h:o.rH=some x): o.cls = .rd:=by
 cases o<;>simp[bp.rH]at h<;>rfl
def Yz{o:bp}{e:Env}{σ : aj}{v:AV}{σ':aj}{x:AX}{l:Nat}{ob:aX}(hr:o.rH=some x)(hlt:l < σ.length)(hne:(x.ev e).obj≠some l)(hD:o.D P e σ v σ'): o.D P e (σ.set l ob) v (σ.set l ob):=by
 have hc:=Ps hr;unfold bp.D at *;simp only[hc]at hD ⊢;refine⟨fun τ=>?_,trivial⟩;have h:=hD.1 τ;rw[Mi hlt];generalize σ++ τ = s at *;cases o<;>simp only[bp.rH]at hr<;>(try (cases hr;done))<;>cases hr<;>simp only[bp.run]at h ⊢
 case load ag n =>
  exact BJ (fun v' h=>⟨h.1,rfl⟩) (SQ hne h)
 case yq el lo hi =>
  split at h
  ·exact dz (fun _=>dz fun _ h=>⟨h.1,rfl⟩) h
  ·exact⟨h.1,dz (fun _=>dz fun _ h=>⟨h.1,rfl⟩) h.2⟩
  ·rename_i bN l' m o n hx;have acA:l≠l':=fun e=>hne (by rw[hx,e];rfl);refine⟨h.1,?_⟩;have h:=h.2;rw[aH acA];split at h
   ·rename_i hk;simp only[hk];exact⟨h.1,h.2.1,h.2.2.1,dz (fun _=>dz fun _ h=>⟨h.1,rfl⟩) h.2.2.2⟩
   ·exact h.elim
  ·exact h
 case cz el arr i =>
  split at h
  ·split at h
   ·exact⟨h.1,h.2.1,h.2.2.1,h.2.2.2.1,rfl⟩
   ·rename_i bN l' m o n hx;have acA:l≠l':=fun e=>hne (by rw[hx,e];rfl);refine⟨h.1,h.2.1,h.2.2.1,?_⟩;have h:=h.2.2.2;rw[aH acA];split at h
    ·rename_i hk;simp only[hk];exact⟨h.1,h.2.1,h.2.2.1,rfl⟩
    ·exact h.elim
   ·exact⟨h.1,h.2.1,h.2.2.1,rfl⟩
   ·exact⟨h.1,h.2.1,h.2.2.1,rfl⟩
   ·exact⟨h.1,h.2.1,h.2.2.1,rfl⟩
   ·exact h.elim
  ·exact h.elim
def aiM{o:bp}{e:Env}{σ : aj}{v:AV}{σ':aj}(hc:o.cls = .ap)(hD:o.D P e σ v σ'): ∃ y,o.vZ=some y/\((∃ τ,σ' = σ++ τ)\/ ∃ l ob,l < σ.length/\(y.ev e).obj=some l/\σ' = σ.set l ob):=by
 unfold bp.D at hD;simp only[hc]at hD;cases o<;>simp only[bp.cls]at hc<;>(try (cases hc;done))<;>simp only[bp.run]at hD
 case bK=>split at hc<;>cases hc
 case call=>split at hc<;>cases hc
 case app T el x y =>
  refine⟨x,rfl,?_⟩
  have key:∀ ys:List AV,(match x.ev e with
   | .ae=>if ys.length=0 then Is v σ' .ae σ else fS ys.length el/\Is v σ' (.own el σ.length ys.length 0 ys.length) (σ++[.cn T el ys])
   | .aK true bN xs=>bN=el/\if ys.length=0 then Is v σ' (.aK true el xs) σ else fS (xs.length+ys.length) el/\Is v σ' (.own el σ.length (xs.length+ys.length) 0 (xs.length+ys.length)) (σ++[.cn T el (xs++ys)])
   | .own bN l m lo n => bN = el /\ match σ[l]? with
     | some (.cn T' dM xs)=>(T'=none\/T'=T)/\dM=el/\m=xs.length/\lo=0/\n=xs.length/\fS (xs.length+ys.length) el/\Is v σ' (.own el l (xs.length+ys.length) 0 (xs.length+ys.length)) (σ.set l (.cn T' el (xs++ys)))
     | _=>False
   | _=>False)->(∃ τ,σ' = σ++ τ)\/ ∃ l ob,l < σ.length/\(x.ev e).obj=some l/\σ' = σ.set l ob:=fun ys h=>by
   split at h
   ·split at h
    ·exact .inl ⟨[],by rw[List.append_nil];exact h.2.symm⟩
    ·exact .inl ⟨_,h.2.2.symm⟩
   ·have h:=h.2;split at h
    ·exact .inl ⟨[],by rw[List.append_nil];exact h.2.symm⟩
    ·exact .inl ⟨_,h.2.2.symm⟩
   ·rename_i bN l m lo n hx;have h:=h.2;split at h
    ·rename_i hk;exact .inr ⟨l,_,(aN.1 hk).1,by rw[hx];rfl,h.2.2.2.2.2.2.2.symm⟩
    ·exact h.elim
   ·exact h.elim
  unfold uL iA at hD;split at hD
  ·exact key _ hD.2
  ·exact key _ hD.2.2
  ·have hD:=hD.2;split at hD
   ·exact key _ hD.2.2.2
   ·exact hD.elim
  ·exact key _ hD.2.2
  ·exact hD.elim
end Go.AM
