/- Part. -/
import Derived.Test.YthakfmmgnjpmdaaGreatDoorW01
set_option linter.all false
namespace Go.AM
variable {P:Program}
def Lb{op:BinOp}{x y:AV}{K K':AV->Prop}(h:∀ v,K v->K' v): kp op x y K->kp op x y K':=by
 unfold kp;split<;>intro hh<;>first|exact h _ hh|exact⟨hh.1,h _ hh.2⟩|exact⟨hh.1,hh.2.1,h _ hh.2.2⟩|exact hh.elim
def acr{op:BinOp}{x y:AV}{K:AV->Prop}: kp op x y K-> ∃ v,kp op x y (fun v'=>v'=v)/\K v:=by
 unfold kp;split<;>intro hh<;>first|exact⟨_,rfl,hh⟩|exact⟨_,⟨hh.1,rfl⟩,hh.2⟩|exact⟨_,⟨hh.1,hh.2.1,rfl⟩,hh.2.2⟩|exact hh.elim
def Oh{op:UnOp}{x:AV}{K K':AV->Prop}(h:∀ v,K v->K' v): C_ op x K->C_ op x K':=by
 unfold C_;split<;>intro hh<;>simp_all
def ad2{op:UnOp}{x:AV}{K:AV->Prop}: C_ op x K-> ∃ v,C_ op x (fun v'=>v'=v)/\K v:=by
 unfold C_;split<;>intro hh<;>simp_all
def cK{x:Option AV}{d y:Nat}{K K':Nat->Prop}(h:∀ v,K v->K' v): bound x d y K->bound x d y K':=by
 unfold bound;split<;>intro hh<;>simp_all
def lg{x:Option AV}{d y:Nat}{K:Nat->Prop}: bound x d y K-> ∃ v,bound x d y (fun v'=>v'=v)/\K v:=by
 unfold bound;split<;>intro hh<;>simp_all
def FX{el:El}{x:AV}{off:Nat}{ag:Bool}{n:Nat}{K K':AV->Prop}(h:∀ v,K v->K' v): partOf el x off ag n K->partOf el x off ag n K':=by
 unfold partOf;split
 ·exact h _
 ·rintro⟨h1,h2⟩;refine⟨h1,?_⟩;split at h2
  ·exact⟨h _ h2.1,h2.2⟩
  ·exact h2.elim
def Ld{el:El}{x:AV}{off:Nat}{ag:Bool}{n:Nat}{K:AV->Prop}: partOf el x off ag n K-> ∃ v,partOf el x off ag n (fun v'=>v'=v)/\K v:=by
 unfold partOf;split
 ·intro h;exact⟨_,rfl,h⟩
 ·rintro⟨h1,h2⟩;split at h2
  ·exact⟨_,⟨h1,rfl,h2.2⟩,h2.1⟩
  ·exact h2.elim
def jC{σ : ae}{l:Nat}{o:bj}(τ : ae)(h : σ[l]? = some o): (σ++ τ)[l]? = some o:=by
 rw[aJ (aK.1 h).1];exact h
def mh{σ : ae}{ag:Bool}{n:Nat}{p:AV}{K K':AV->Prop}(h:∀ v,K v->K' v): iS σ ag n p K->iS σ ag n p K':=by
 unfold iS;intro hh;split at hh
 ·split at hh
  ·exact⟨hh.1,hh.2.1,h _ hh.2.2⟩
  ·exact hh.elim
 ·exact FX h hh
 ·split at hh
  ·exact⟨hh.1,hh.2.1,hh.2.2.1,FX h hh.2.2.2⟩
  ·exact hh.elim
 ·exact hh.elim
def uX{σ : ae}{ag:Bool}{n:Nat}{p:AV}{K:AV->Prop}(hh:iS σ ag n p K): ∃ v,(∀ τ,iS (σ++ τ) ag n p (fun v'=>v'=v))/\K v:=by
 unfold iS at hh;split at hh
 ·split at hh
  ·rename_i h;exact⟨_,fun τ=>by simp only[iS,jC τ h];exact⟨hh.1,hh.2.1,trivial⟩,hh.2.2⟩
  ·exact hh.elim
 ·obtain⟨v,h1,h2⟩:=Ld hh;exact⟨v,fun τ=>h1,h2⟩
 ·split at hh
  ·rename_i h;obtain⟨v,h1,h2⟩:=Ld hh.2.2.2;exact⟨v,fun τ=>by simp only[iS,jC τ h];exact⟨hh.1,hh.2.1,hh.2.2.1,h1⟩,h2⟩
  ·exact hh.elim
 ·exact hh.elim
def vB{σ : ae}{n:Nat}{p v:AV}{K K':ae->Prop}(h:∀ v,K v->K' v): oc σ n p v K->oc σ n p v K':=by
 unfold oc;rintro⟨h1,h2,hh⟩;refine⟨h1,h2,?_⟩;split at hh
 ·split at hh
  ·exact⟨hh.1,h _ hh.2⟩
  ·exact hh.elim
 ·split at hh
  ·exact⟨hh.1,hh.2.1,hh.2.2.1,hh.2.2.2.1,hh.2.2.2.2.1,h _ hh.2.2.2.2.2⟩
  ·exact hh.elim
 ·exact hh.elim
def kL{σ : ae}{el:El}{x:AV}{K K':List AV->Prop}(h:∀ v,K v->K' v): gj σ el x K->gj σ el x K':=by
 unfold gj;intro hh;split at hh
 ·exact h _ hh
 ·exact⟨hh.1,h _ hh.2⟩
 ·refine⟨hh.1,?_⟩;have hh:=hh.2;split at hh
  ·exact⟨hh.1,hh.2.1,h _ hh.2.2⟩
  ·exact hh.elim
 ·exact⟨hh.1,h _ hh.2⟩
 ·exact⟨hh.1,hh.2.1,mh (fun _=>h _) hh.2.2⟩
 ·exact hh.elim
def GH{σ : ae}{el:El}{x:AV}{K:List AV->Prop}(hh:gj σ el x K): ∃ v,(∀ τ,gj (σ++ τ) el x (fun v'=>v'=v))/\K v:=by
 unfold gj at hh;split at hh
 ·exact⟨_,fun τ=>rfl,hh⟩
 ·exact⟨_,fun τ=>⟨hh.1,rfl⟩,hh.2⟩
 ·obtain⟨h0,hh⟩:=hh;split at hh
  ·rename_i h;exact⟨_,fun τ=>by simp only[gj,jC τ h];exact⟨h0,hh.1,hh.2.1,trivial⟩,hh.2.2⟩
  ·exact hh.elim
 ·exact⟨_,fun τ=>⟨hh.1,rfl⟩,hh.2⟩
 ·obtain⟨h0,h1,hh⟩:=hh;obtain⟨v,h2,h3⟩:=uX hh;exact⟨_,fun τ=>⟨h0,h1,mh (fun v' e=>congrArg AV.cells e) (h2 τ)⟩,h3⟩
 ·exact hh.elim
def Le{σ : ae}{T:Option TypeId}{el:El}{x y:AV}{K K':AV->ae->Prop}(h:∀ v s,K v s->K' v s): pU σ T el x y K->pU σ T el x y K':=by
 unfold pU;refine kL fun ys hh=>⟨hh.1,?_⟩;have hh:=hh.2;split at hh
 ·split at hh
  ·simp_all
  ·rename_i h0;simp only[h0,if_false];exact⟨hh.1,h _ _ hh.2⟩
 ·refine⟨hh.1,?_⟩;have hh:=hh.2;split at hh
  ·rename_i h0;simp only[h0,if_true];exact h _ _ hh
  ·rename_i h0;simp only[h0,if_false];exact⟨hh.1,h _ _ hh.2⟩
 ·refine⟨hh.1,?_⟩;have hh:=hh.2;split at hh
  ·exact⟨hh.1,hh.2.1,hh.2.2.1,hh.2.2.2.1,hh.2.2.2.2.1,hh.2.2.2.2.2.1,h _ _ hh.2.2.2.2.2.2⟩
  ·exact hh.elim
 ·exact hh.elim
def Lf{op:Bool}{x y:AV}{K K':AV->Prop}(h:∀ v,K v->K' v): Da op x y K->Da op x y K':=by
 unfold Da;split<;>intro hh<;>simp_all
def acs{op:Bool}{x y:AV}{K:AV->Prop}: Da op x y K-> ∃ v,Da op x y (fun v'=>v'=v)/\K v:=by
 unfold Da;split<;>intro hh<;>simp_all
def tJ{op:Bool}{K K':AV->Prop}(h:∀ v,K v->K' v): ∀(ys:List AV) (x:AV),sk op x ys K->sk op x ys K'
 | [],x=>h x
 | y::ys,x=>Lf fun z=>tJ h ys z
def GI{op:Bool}{K:AV->Prop}: ∀(ys:List AV) (x:AV),sk op x ys K-> ∃ v,sk op x ys (fun v'=>v'=v)/\K v
 | [],x=>fun h=>⟨x,rfl,h⟩
 | y :: ys, x => fun h => by
   obtain⟨z,h1,h2⟩:=acs h;obtain⟨v,h3,h4⟩:=GI ys z h2;exact⟨v,Lf (fun z' e=>by subst e;exact h3) h1,h4⟩
def zD{e:Env}{K K':List AV->Prop}(h:∀ v,K v->K' v): ∀(ps:List (Nat × Nat × AX)) (z:List AV),mO z e ps K->mO z e ps K'
 | [],z=>h z
 |(off,n,x)::r,z=>fun hh=>⟨hh.1,hh.2.1,hh.2.2.1,zD h r _ hh.2.2.2⟩
def Lg{e:Env}{K:List AV->Prop}: ∀(ps:List (Nat × Nat × AX)) (z:List AV),mO z e ps K-> ∃ v,mO z e ps (fun v'=>v'=v)/\K v
 | [],z=>fun h=>⟨z,rfl,h⟩
 | (off, n, x) :: r, z => fun hh => by
   obtain⟨v,h1,h2⟩:=Lg r _ hh.2.2.2;exact⟨v,⟨hh.1,hh.2.1,hh.2.2.1,h1⟩,h2⟩
def tK{el:El}{e:Env}{K K':List AV->Prop}(h:∀ v,K v->K' v): ∀(ps:List (Nat × AX)) (z:List AV),lT el z e ps K->lT el z e ps K'
 | [],z=>h z
 |(i,x)::r,z=>fun hh=>⟨hh.1,hh.2.1,tK h r _ hh.2.2⟩
def Bo{el:El}{e:Env}{K:List AV->Prop}: ∀(ps:List (Nat × AX)) (z:List AV),lT el z e ps K-> ∃ v,lT el z e ps (fun v'=>v'=v)/\K v
 | [],z=>fun h=>⟨z,rfl,h⟩
 | (i, x) :: r, z => fun hh => by
   obtain⟨v,h1,h2⟩:=Bo r _ hh.2.2;exact⟨v,⟨hh.1,hh.2.1,h1⟩,h2⟩
def AX.uses: AX->List Nat
 | .t n=>[n]
 | .c _=>[]
def AX.Ua: Option AX->List Nat
 | some x=>x.uses
 | none=>[]
def AX.qd(l:List AX): List Nat:=l.flatMap AX.uses
def bg.uses: bg->List Nat
 | .mv x | .box x | .xU _ x | .load _ _ x | .sj x | .un _ x | .ko _ x | .Sw x | .Sx x | .C9 x | .vy _ x | .qU _ x | .field _ _ _ x | .ext x _ | .len _ x | .panic x | .GD x | .GF x | .Cx _ x | .HX x | .HY _ x | .Fb _ x=>x.uses
 | .pick c a b=>c.uses++a.uses++b.uses
 | .alloc _ _ | .kK _ | .hold=>[]
 | .ex _ xs=>AX.qd xs
 | .lR k _ _=>[k]
 | .qb k _ _ x y=>k::(x.uses++y.uses)
 | .qc k _ _ x y=>k::(x.uses++y.uses)
 | .build _ ps=>AX.qd (ps.map (·.2.2))
 | .mc _ _ _ _ ps=>AX.qd (ps.map (·.2))
 | .store _ x v=>x.uses++v.uses
 | .bin _ x y | .mN _ _ _ x y | .jT _ _ x y | .nR x y | .zB _ _ x y | .app _ _ x y | .xS _ x y | .FW _ x y | .pK _ _ x y | .qV _ _ x y=>x.uses++y.uses
 | .rH _ f c=>AX.qd f++AX.qd c
 | .uK x lo hi | .uL _ x lo hi=>x.uses++AX.Ua lo++AX.Ua hi
 | .call _ f args | .sD f args=>f.uses++AX.qd args
 | .min x xs | .max x xs=>x.uses++AX.qd xs
def AX.fA{e e':Env}{x:AX}(h:∀ t ∈ x.uses,e t=e' t): x.ev e=x.ev e':=by
 cases x with
 | t n=>exact h n (by simp[AX.uses])
 | c a=>rfl
def AX.yY{e e':Env}{x:Option AX}(h:∀ t ∈ AX.Ua x,e t=e' t): x.map (AX.ev e)=x.map (AX.ev e'):=by
 cases x with
 | none=>rfl
 | some x=>exact congrArg some (AX.fA h)
def AX.oH{e e':Env}{l:List AX}(h:∀ t ∈ AX.qd l,e t=e' t): l.map (AX.ev e)=l.map (AX.ev e'):=by
 refine List.map_congr_left fun x hx=>AX.fA fun t ht=>h t ?_;exact List.mem_flatMap.2 ⟨x,hx,ht⟩
def Dc{e e':Env}{K:List AV->Prop}: ∀(ps:List (Nat × Nat × AX)) (z:List AV),(∀ t ∈ AX.qd (ps.map (·.2.2)),e t=e' t)->mO z e ps K=mO z e' ps K
 | [],z,_=>rfl
 | (off, n, x) :: r, z, h => by
   have h1:x.ev e=x.ev e':=AX.fA fun t ht=>h t (by simp[AX.qd,ht]);simp only[mO,h1];rw[Dc r _ fun t ht=>h t (by simp only[bf,AX.qd,fh,List.mem_append];exact .inr ht)]
def Cy{el:El}{e e':Env}{K:List AV->Prop}: ∀(ps:List (Nat × AX)) (z:List AV),(∀ t ∈ AX.qd (ps.map (·.2)),e t=e' t)->lT el z e ps K=lT el z e' ps K
 | [],z,_=>rfl
 | (i, x) :: r, z, h => by
   have h1:x.ev e=x.ev e':=AX.fA fun t ht=>h t (by simp[AX.qd,ht]);simp only[lT,h1];rw[Cy r _ fun t ht=>h t (by simp only[bf,AX.qd,fh,List.mem_append];exact .inr ht)]
def sW{o:bg}{e e':Env}{σ : ae}{K Kp:AV->ae->Prop}(h:∀ t ∈ o.uses,e t=e' t): o.run P e σ K Kp=o.run P e' σ K Kp:=by
 cases o<;>simp only[bg.uses,List.mem_append]at h
 case build z ps=>exact Dc ps _ h
 case mc mt el z n ps=>exact Cy ps _ h
 case ex o xs=>simp only[bg.run,AX.oH h]
 case alloc=>rfl
 case kK=>rfl
 case hold=>rfl
 case lR k T cs=>simp only[bg.run,h k (by simp)]
 case qb k T el x y=>simp only[bg.run,h k (by simp),AX.fA (x:=x) (fun t ht=>h t (by simp[ht])),AX.fA (x:=y) (fun t ht=>h t (by simp[ht]))]
 case qc k el z x y=>simp only[bg.run,h k (by simp),AX.fA (x:=x) (fun t ht=>h t (by simp[ht])),AX.fA (x:=y) (fun t ht=>h t (by simp[ht]))]
 case pick c a b=>simp only[bg.run,AX.fA (fun t ht=>h t (.inl (.inl ht))),AX.fA (fun t ht=>h t (.inl (.inr ht))),AX.fA (fun t ht=>h t (.inr ht))]
 case rH f a b=>simp only[bg.run,AX.oH (fun t ht=>h t (.inl ht)),AX.oH (fun t ht=>h t (.inr ht))]
 case uK x lo hi=>simp only[bg.run,AX.fA (fun t ht=>h t (.inl (.inl ht))),AX.yY (fun t ht=>h t (.inl (.inr ht))),AX.yY (fun t ht=>h t (.inr ht))]
 case uL el x lo hi=>simp only[bg.run,AX.fA (fun t ht=>h t (.inl (.inl ht))),AX.yY (fun t ht=>h t (.inl (.inr ht))),AX.yY (fun t ht=>h t (.inr ht))]
 case call q f args=>simp only[bg.run,AX.fA (fun t ht=>h t (.inl ht)),AX.oH (fun t ht=>h t (.inr ht))]
 case sD f args=>simp only[bg.run,AX.fA (fun t ht=>h t (.inl ht)),AX.oH (fun t ht=>h t (.inr ht))]
 case min x xs=>simp only[bg.run,AX.fA (fun t ht=>h t (.inl ht)),AX.oH (fun t ht=>h t (.inr ht))]
 case max x xs=>simp only[bg.run,AX.fA (fun t ht=>h t (.inl ht)),AX.oH (fun t ht=>h t (.inr ht))]
 all_goals first
  | simp only[bg.run,AX.fA h]
  | simp only[bg.run,AX.fA (fun t ht=>h t (.inl ht)),AX.fA (fun t ht=>h t (.inr ht))]
inductive Cls where
 | pu|rd|al|st|ap|cw|no
deriving DecidableEq
def fV.cls: fV->Cls
 | .La .. | .JZ .. | .Od ..=> .pu
 | .inv _ | .pc _=> .no
 | .GA .. | .GB | .J0 _ | .GC _=> .rd
 | .HV=> .al
 | .cw ..=> .cw
 | _=> .cw
def bg.cls: bg->Cls
 | .ex o _=>o.cls
 | .mv _ | .pick .. | .build .. | .sj _ | .bin .. | .mN .. | .un .. | .ko .. | .Sw _ | .vy .. | .rH .. | .uK .. | .qU .. | .field .. | .nR .. | .zB .. | .ext .. | .len .. | .min .. | .max .. | .qV ..=> .pu
 | .mc mt ..=>if mt then .al else .pu
 | .load .. | .C9 _ | .uL .. | .jT .. | .Cx ..=> .rd
 | .call q ..=>if q then .rd else .no
 | .alloc .. | .box _ | .xU .. | .Sx _ | .pK .. | .kK _=> .al
 | .store .. | .sD .. | .lR .. | .qb .. | .qc ..=> .st
 | .app ..=> .ap
 | _=> .no
def je{lo:Option AV}{hi mx:AV}{cap:Nat}{K K':Nat->Nat->Nat->Prop}(h:∀ a b c,K a b c->K' a b c): oY lo hi mx cap K->oY lo hi mx cap K' :=
 cK fun _=>cK fun _=>cK fun _=>h _ _ _
def Lh{σ : ae}{el:El}{x:AV}{lo:Option AV}{hi mx:AV}{K K':AV->ae->Prop}(h:∀ v s,K v s->K' v s): zC σ el x lo hi mx K->zC σ el x lo hi mx K':=by
 unfold zC;split
 ·exact je fun _ _ _=>h _ _
 ·exact fun hh=>⟨hh.1,je (fun _ _ _=>h _ _) hh.2⟩
 ·refine fun hh=>⟨hh.1,?_⟩;have hh:=hh.2;split at hh
  ·refine⟨hh.1,hh.2.1,hh.2.2.1,je (fun l b m=>?_) hh.2.2.2⟩;by_cases e:m=l
   ·simp only[e,if_true];exact h _ _
   ·simp only[e,if_false];exact fun k=>⟨k.1,h _ _ k.2⟩
  ·exact hh.elim
 ·exact id
def Wy{σ : ae}{el:El}{x y:AV}{K K':AV->ae->Prop}(h:∀ v s,K v s->K' v s): GG σ el x y K->GG σ el x y K':=by
 unfold GG;split
 ·refine fun hh=>⟨hh.1,kL (fun ys hh=>⟨hh.1,?_⟩) hh.2⟩;have hh:=hh.2;split at hh
  ·exact⟨hh.1,hh.2.1,hh.2.2.1,hh.2.2.2.1,h _ _ hh.2.2.2.2⟩
  ·exact hh.elim
 ·exact Le h
def Ub{σ : ae}{el:El}{x y:AV}{K K':AV->ae->Prop}(h:∀ v s,K v s->K' v s): HZ σ el x y K->HZ σ el x y K':=by
 unfold HZ;refine kL fun ys hh=>⟨hh.1,?_⟩;have hh:=hh.2;unfold Db at *;split at hh
 ·exact h _ _ hh
 ·exact⟨hh.1,h _ _ hh.2⟩
 ·exact⟨hh.1,hh.2.1,vB (fun s=>h _ s) hh.2.2⟩
 ·refine⟨hh.1,?_⟩;have hh:=hh.2;split at hh
  ·exact⟨hh.1,hh.2.1,hh.2.2.1,h _ _ hh.2.2.2⟩
  ·exact hh.elim
 ·exact hh.elim
def vP{el:El}{n:Nat}{p:AV}{lo hi:Option AV}{K K':AV->Prop}(h:∀ v,K v->K' v): Bl el n p lo hi K->Bl el n p lo hi K' :=
 fun hh=>⟨hh.1,cK (fun _=>cK fun _=>h _) hh.2⟩
def Bp{el:El}{x:AV}{lo:Option AV}{hi mx:AV}{K K':AV->Prop}(h:∀ v,K v->K' v): vz el x lo hi mx K->vz el x lo hi mx K':=by
 unfold vz;split
 ·exact je fun _ _ _=>h _
 ·exact fun hh=>⟨hh.1,je (fun _ _ _=>h _) hh.2⟩
 ·exact fun hh=>⟨hh.1,je (fun _ _ _=>h _) hh.2⟩
 ·exact id
def Uc{σ : ae}{el:El}{x y:AV}{K K':AV->Prop}(h:∀ v,K v->K' v): Fc σ el x y K->Fc σ el x y K':=by
 unfold Fc;refine kL fun ys hh=>⟨hh.1,hh.2.1,?_⟩;have hh:=hh.2.2;split at hh
 ·exact⟨hh.1,h _ hh.2⟩
 ·exact⟨hh.1,hh.2.1,h _ hh.2.2⟩
 ·exact hh.elim
def H7{σ : ae}{x:AV}{K K':Bool->Prop}(h:∀ v,K v->K' v): wZ σ x K->wZ σ x K':=by
 unfold wZ;split
 ·exact h _
 ·exact h _
 ·exact h _
 ·split
  ·exact fun hh=>⟨hh.1,hh.2.1,h _ hh.2.2⟩
  ·exact id
 ·exact id
def Zs{σ : ae}{x:AV}{K:Bool->Prop}(hh:wZ σ x K): ∃ v,(∀ τ,wZ (σ++ τ) x (fun v'=>v'=v))/\K v:=by
 unfold wZ at hh ⊢;split at hh
 ·exact⟨_,fun _=>rfl,hh⟩
 ·exact⟨_,fun _=>rfl,hh⟩
 ·exact⟨_,fun _=>rfl,hh⟩
 ·split at hh
  ·rename_i h1;exact⟨false,fun τ=>by simp only[jC τ h1];exact⟨hh.1,hh.2.1,trivial⟩,hh.2.2⟩
  ·exact hh.elim
 ·exact hh.elim
def Li{T:TypeId}{ok:Bool}{z x:AV}{K K':AV->Prop}(h:∀ v,K v->K' v): xV T ok z x K->xV T ok z x K':=by
 unfold xV;split
 ·split
  ·exact h _
  ·exact fun hh=>⟨hh.1,h _ hh.2⟩
 ·exact fun hh=>⟨hh.1,h _ hh.2⟩
 ·exact id
def Wz{σ : ae}{n:Nat}{x:AV}{K K':AV->ae->Prop}(h:∀ v s,K v s->K' v s): Bm σ n x K->Bm σ n x K':=by
 unfold Bm;split
 ·exact fun hh=>⟨hh.1,hh.2.1,hh.2.2.1,h _ _ hh.2.2.2⟩
 ·refine fun hh=>⟨hh.1,?_⟩;have hh:=hh.2;split at hh
  ·exact⟨hh.1,hh.2.1,hh.2.2.1,hh.2.2.2.1,hh.2.2.2.2.1,h _ _ hh.2.2.2.2.2⟩
  ·exact hh.elim
 ·exact id
def Ud{σ : ae}{kd:Option IntKind}{zero x k:AV}{K K':AV->ae->Prop}(h:∀ v s,K v s->K' v s): w5 σ kd zero x k K->w5 σ kd zero x k K':=by
 unfold w5;split
 ·refine fun hh=>⟨hh.1,?_⟩;have hh:=hh.2;split at hh
  ·split at hh
   ·exact h _ _ hh
   ·exact h _ _ hh
   ·exact hh.elim
  ·exact hh.elim
 ·exact id
def H8{σ : ae}{x s v:AV}{K K':ae->Prop}(h:∀ s,K s->K' s): vA σ x s v K->vA σ x s v K':=by
 unfold vA;split
 ·split
  ·exact fun hh=>⟨hh.1,hh.2.1,h _ hh.2.2⟩
  ·exact id
 ·exact id
def Lj{σ : ae}{el:El}{zero x:AV}{K K':ae->Prop}(h:∀ s,K s->K' s): Bn σ el zero x K->Bn σ el zero x K':=by
 unfold Bn;split
 ·exact h _
 ·exact h _
 ·refine fun hh=>⟨hh.1,hh.2.1,?_⟩;have hh:=hh.2.2;split at hh
  ·exact⟨hh.1,hh.2.1,hh.2.2.1,h _ hh.2.2.2⟩
  ·exact hh.elim
 ·exact id
def acu{T:TypeId}{ok:Bool}{z x:AV}{K:AV->Prop}(hh:xV T ok z x K): ∃ v,xV T ok z x (fun v'=>v'=v)/\K v:=by
 unfold xV at hh ⊢;split at hh
 ·split at hh
  ·rename_i e;exact⟨_,by rw[if_pos e],hh⟩
  ·rename_i e;exact⟨_,by rw[if_neg e];exact⟨hh.1,rfl⟩,hh.2⟩
 ·exact⟨_,⟨hh.1,rfl⟩,hh.2⟩
 ·exact hh.elim
def acv{σ : ae}{n:Nat}{x:AV}{K:AV->ae->Prop}(hh:Bm σ n x K): ∃ v σ',Bm σ n x (fun v' s'=>v'=v/\s' = σ')/\K v σ':=by
 unfold Bm at hh ⊢;split at hh
 ·exact⟨_,_,⟨hh.1,hh.2.1,hh.2.2.1,rfl,rfl⟩,hh.2.2.2⟩
 ·obtain⟨h0,hh⟩:=hh;split at hh
  ·exact⟨_,_,⟨h0,hh.1,hh.2.1,hh.2.2.1,hh.2.2.2.1,hh.2.2.2.2.1,rfl,rfl⟩,hh.2.2.2.2.2⟩
  ·exact hh.elim
 ·exact hh.elim
def Zt{σ : ae}{kd:Option IntKind}{zero x k:AV}{K:AV->ae->Prop}(hh:w5 σ kd zero x k K): ∃ v σ',w5 σ kd zero x k (fun v' s'=>v'=v/\s' = σ')/\K v σ':=by
 unfold w5 at hh ⊢;split at hh
 ·obtain⟨h0,hh⟩:=hh;split at hh
  ·split at hh
   ·exact⟨_,_,⟨h0,rfl,rfl⟩,hh⟩
   ·exact⟨_,_,⟨h0,rfl,rfl⟩,hh⟩
   ·exact hh.elim
  ·exact hh.elim
 ·exact hh.elim
def Zu{σ : ae}{x s v:AV}{K:ae->Prop}(hh:vA σ x s v K): ∃ σ',vA σ x s v (fun s'=>s' = σ')/\K σ':=by
 unfold vA at hh ⊢;split at hh
 ·split at hh
  ·exact⟨_,⟨hh.1,hh.2.1,rfl⟩,hh.2.2⟩
  ·exact hh.elim
 ·exact hh.elim
def WA{σ : ae}{x:AV}{K K':AV->ae->Prop}(h:∀ v s,K v s->K' v s): xW σ x K->xW σ x K':=by
 unfold xW;split
 ·exact h _ _
 ·exact h _ _
 ·split
  ·exact fun⟨a,b,c,d⟩=>⟨a,b,c,h _ _ d⟩
  ·exact id
 ·exact id
def acw{σ : ae}{el:El}{zero x:AV}{K:ae->Prop}(hh:Bn σ el zero x K): ∃ σ',Bn σ el zero x (fun s'=>s' = σ')/\K σ':=by
 unfold Bn at hh ⊢;split at hh
 ·exact⟨_,rfl,hh⟩
 ·exact⟨_,rfl,hh⟩
 ·obtain⟨h0,h1,hh⟩:=hh;split at hh
  ·exact⟨_,⟨h0,h1,hh.1,hh.2.1,hh.2.2.1,rfl⟩,hh.2.2.2⟩
  ·exact hh.elim
 ·exact hh.elim
def fV.sE{o:fV}{vs:List AV}{σ : ae}{K K' Kp WB:AV->ae->Prop}(h:∀ v s,K v s->K' v s)(hp:∀ v s,Kp v s->WB v s): o.run P vs σ K Kp->o.run P vs σ K' WB:=by
 unfold fV.run;split
 ·exact Lh h
 ·exact Lh h
 ·exact h _ _
 ·exact fun hh=>⟨hh.1,h _ _ hh.2⟩
 ·refine fun hh=>⟨hh.1,?_⟩;have hh:=hh.2;split at hh
  ·split at hh
   ·exact h _ _ hh
   ·exact h _ _ hh
   ·exact hh.elim
  ·exact hh.elim
 ·refine fun hh=>⟨hh.1,?_⟩;have hh:=hh.2;split at hh
  ·split at hh
   ·exact h _ _ hh
   ·exact hh.elim
  ·exact hh.elim
 ·exact h _ _
 ·split
  ·exact h _ _
  ·exact id
 ·exact vP fun v=>h v σ
 ·exact vP fun v=>h v σ
 ·exact vP fun v=>h v σ
 ·exact vP fun v=>h v σ
 ·exact Ub h
 ·exact Wy h
 ·exact Uc fun v=>h v σ
 ·exact H7 fun v=>h _ σ
 ·exact fun⟨r,s2,h1,h2,h3⟩=>⟨r,s2,h1,h2,h _ _ h3⟩
 ·exact Bp fun v=>h v σ
 ·exact Bp fun v=>h v σ
 ·split
  ·refine fun hh=>hh.mono fun o s=>?_;cases o
   ·exact h _ _
   ·exact hp _ _
  ·exact id
 ·exact Li fun v=>h v σ
 ·exact Wz h
 ·exact Ud h
 ·exact H8 fun s=>h _ s
 ·exact Lj fun s=>h _ s
 ·rintro⟨o,h1,h2⟩;refine⟨o,h1,?_⟩;cases o
  ·exact h _ _ h2
  ·exact fun s=>hp _ _ (h2 s)
 ·exact WA h
 ·exact id
def sE{o:bg}{e:Env}{σ : ae}{K K' Kp WB:AV->ae->Prop}(h:∀ v s,K v s->K' v s)(hp:∀ v s,Kp v s->WB v s): o.run P e σ K Kp->o.run P e σ K' WB:=by
 cases o<;>simp only[bg.run]
 case ex o xs=>exact fV.sE h hp
 case mv x=>exact h _ _
 case alloc T cs=>exact h _ _
 case kK el=>exact h _ _
 case hold=>exact h _ _
 case xU=>exact fun hh=>⟨hh.1,h _ _ hh.2⟩
 case lR k T cs =>
  split
  ·split
   ·exact h _ _
   ·exact id
  ·exact id
 case qb k T el x y =>
  split
  ·split
   ·split
    ·exact fun hh=>⟨hh.1,hh.2.1,hh.2.2.1,h _ _ hh.2.2.2⟩
    ·exact id
   ·exact id
  ·exact id
 case qc k el z x y =>
  split
  ·split
   ·split
    ·exact fun hh=>⟨hh.1,hh.2.1,hh.2.2.1,hh.2.2.2.1,h _ _ hh.2.2.2.2⟩
    ·exact id
   ·exact id
  ·exact id
 case vy t x=>exact h _ _
 case rH f a b=>exact h _ _
 case box x=>exact fun hh=>⟨hh.1,h _ _ hh.2⟩
 case build z ps=>exact zD (fun v=>h _ _) _ _
 case mc mt el z n ps=>exact tK (fun v=>by split<;>exact h _ _) _ _
 case load ag n x=>exact mh fun v=>h _ _
 case store n x v=>exact vB fun v=>h _ _
 case bin op x y=>exact Lb fun v=>h _ _
 case un op x=>exact Oh fun v=>h _ _
 case app T el x y=>exact Le h
 case Fb=>exact fun hh=>⟨hh.1,h _ _ hh.2⟩
 case Cx =>
  split
  ·exact h _ _
  ·refine fun hh=>⟨hh.1,?_⟩;have hh:=hh.2;split at hh
   ·exact⟨hh.1,hh.2.1,hh.2.2.1,h _ _ hh.2.2.2⟩
   ·exact hh.elim
  ·exact id
 case xS =>
  split
  ·exact fun hh=>⟨hh.1,h _ _ hh.2⟩
  ·refine fun hh=>⟨hh.1,hh.2.1,hh.2.2.1,?_⟩;have hh:=hh.2.2.2;split at hh
   ·obtain⟨a1,a2,a3,a4,a5,s,a6,a7⟩:=hh;exact⟨a1,a2,a3,a4,a5,s,a6,h _ _ a7⟩
   ·exact hh.elim
  ·exact id
 case HX =>
  split
  ·split
   ·exact fun hh=>⟨hh.1,h _ _ hh.2⟩
   ·exact id
  ·exact id
 case HY =>
  split
  ·split
   ·exact fun hh=>⟨hh.1,h _ _ hh.2⟩
   ·exact id
  ·exact id
 case FW =>
  split
  ·refine fun hh=>⟨hh.1,hh.2.1,?_⟩;have hh:=hh.2.2;split at hh
   ·exact h _ _ hh
   ·exact hh.elim
  ·exact id
 case min x xs=>exact tJ (fun v=>h _ _) _ _
 case max x xs=>exact tJ (fun v=>h _ _) _ _
 case C9 x=>exact fun hh=>⟨hh.1,kL (fun v ⟨s,h1,h2⟩=>⟨s,h1,h _ _ h2⟩) hh.2⟩
 case pick c a b=>split<;>first|exact h _ _|exact id
 case sj x=>split<;>first|exact h _ _|exact id
 case mN=>split<;>first|exact h _ _|exact id
 case ko=>split<;>first|exact h _ _|exact id
 case Sw=>split<;>first|exact h _ _|exact id
 case qV=>split<;>first|exact h _ _|exact id
 case qU=>split<;>first|exact h _ _|exact id
 case panic=>split<;>first|exact hp _ _|exact id
 case GD=>split<;>first|exact h _ _|exact id
 case GF =>
  split
  ·split
   ·split<;>exact h _ _
   ·exact id
  ·exact id
 case len=>split<;>first|exact h _ _|exact id
 case Sx=>split<;>first|exact fun hh=>⟨hh.1,h _ _ hh.2⟩|exact id
 case ext=>split<;>first|exact fun hh=>⟨hh.1,h _ _ hh.2⟩|exact id
 case field=>split<;>first|exact fun hh=>⟨hh.1,hh.2.1,h _ _ hh.2.2⟩|exact id
 case nR=>split<;>first|exact fun hh=>⟨hh.1,hh.2.1,h _ _ hh.2.2⟩|exact id
 case zB=>split<;>first|exact fun hh=>⟨hh.1,hh.2.1,hh.2.2.1,hh.2.2.2.1,h _ _ hh.2.2.2.2⟩|exact id
 case pK=>split<;>first|exact fun hh=>⟨hh.1,hh.2.1,hh.2.2.1,hh.2.2.2.1,h _ _ hh.2.2.2.2⟩|exact id
 case uK x lo hi=>split<;>first|exact cK (fun _=>cK fun _=>h _ _)|exact id
 case uL el x lo hi =>
  split
  ·exact cK (fun _=>cK fun _=>h _ _)
  ·exact fun hh=>⟨hh.1,cK (fun _=>cK fun _=>h _ _) hh.2⟩
  ·refine fun hh=>⟨hh.1,?_⟩;have hh:=hh.2;split at hh
   ·exact⟨hh.1,hh.2.1,hh.2.2.1,cK (fun _=>cK fun _=>h _ _) hh.2.2.2⟩
   ·exact hh.elim
  ·exact id
 case jT el arr x i =>
  intro hh;split at hh
  ·split at hh
   ·exact⟨hh.1,hh.2.1,hh.2.2.1,h _ _ hh.2.2.2⟩
   ·refine⟨hh.1,hh.2.1,hh.2.2.1,?_⟩;have hh:=hh.2.2.2;split at hh
    ·exact⟨hh.1,hh.2.1,h _ _ hh.2.2⟩
    ·exact hh.elim
   ·exact⟨hh.1,hh.2.1,h _ _ hh.2.2⟩
   ·exact⟨hh.1,hh.2.1,h _ _ hh.2.2⟩
   ·exact⟨hh.1,hh.2.1,h _ _ hh.2.2⟩
   ·exact hh.elim
  ·exact hh.elim
 case sD f args =>
  split
  ·unfold Fa;split
   ·exact fun⟨l,ob,nj,r,h1,h2,h3,h4,h5⟩=>⟨l,ob,nj,r,h1,h2,h3,h4,h _ _ h5⟩
   ·exact id
  ·exact id
 case call q f args =>
  split
  ·split
   ·exact fun⟨r,h1,h2⟩=>⟨r,h1,h _ _ h2⟩
   ·exact fun hh=>hh.mono fun o s=>by cases o<;>first|exact h _ _|exact hp _ _
  ·split
   ·exact id
   ·exact fun hh=>hh.mono fun o s=>by cases o<;>first|exact h _ _|exact hp _ _
  ·exact id
abbrev Is(v:AV)(σ : ae): AV->ae->Prop:=fun v' σ'=>v'=v/\σ' = σ
abbrev No: AV->ae->Prop:=fun _ _=>False
def acy{el:El}{n:Nat}{p:AV}{lo hi:Option AV}{K:AV->Prop}(hh:Bl el n p lo hi K): ∃ v,Bl el n p lo hi (fun v'=>v'=v)/\K v:=by
 obtain⟨v,h1,h2⟩:=lg hh.2;obtain⟨u,h3,h4⟩:=lg h2;exact⟨_,⟨hh.1,cK (fun v' e=>by subst e;exact cK (fun u' e=>by subst e;rfl) h3) h1⟩,h4⟩
def sX{lo:Option AV}{hi mx:AV}{cap:Nat}{K:Nat->Nat->Nat->Prop}(h:oY lo hi mx cap K): ∃ a b c,oY lo hi mx cap (fun a' b' c'=>a'=a/\b'=b/\c'=c)/\K a b c:=by
 obtain⟨m,h1,h2⟩:=lg h;obtain⟨b,h3,h4⟩:=lg h2;obtain⟨a,h5,h6⟩:=lg h4;exact⟨a,b,m,cK (fun m' e=>by subst e;exact cK (fun b' e=>by subst e;exact cK (fun a' e=>⟨e,rfl,rfl⟩) h5) h3) h1,h6⟩
def Zv{el:El}{x:AV}{lo:Option AV}{hi mx:AV}{K:AV->Prop}(hh:vz el x lo hi mx K): ∃ v,vz el x lo hi mx (fun v'=>v'=v)/\K v:=by
 unfold vz at hh ⊢;split at hh
 ·obtain⟨a,b,c,h1,h2⟩:=sX hh;exact⟨_,je (fun _ _ _ _=>rfl) h1,h2⟩
 ·obtain⟨a,b,c,h1,h2⟩:=sX hh.2;exact⟨_,⟨hh.1,je (fun _ _ _ e=>by obtain⟨rfl,rfl,rfl⟩:=e;rfl) h1⟩,h2⟩
 ·obtain⟨a,b,c,h1,h2⟩:=sX hh.2;exact⟨_,⟨hh.1,je (fun _ _ _ _=>rfl) h1⟩,h2⟩
 ·exact hh.elim
def fV.Fe{o:fV}{vs:List AV}{σ : ae}{K Kp:AV->ae->Prop}(hc:o.cls = .pu)(hh:o.run P vs σ K Kp): ∃ v,(∀ σ',o.run P vs σ' (Is v σ') No)/\K v σ:=by
 cases o<;>simp only[fV.cls]at hc<;>(try (cases hc;done))
 ·unfold fV.run at hh ⊢
  split at hh<;>(try (rename_i h;cases h))<;>first
   |(obtain⟨v,h1,h2⟩:=acy hh;exact⟨v,fun σ'=>vP (fun v' e=>⟨e,rfl⟩) h1,h2⟩)
   | exact hh.elim
 ·unfold fV.run at hh ⊢
  split at hh<;>(try (rename_i h;cases h))<;>first
   |(obtain⟨v,h1,h2⟩:=Zv hh;exact⟨v,fun σ'=>Bp (fun v' e=>⟨e,rfl⟩) h1,h2⟩)
   | exact hh.elim
 ·unfold fV.run at hh ⊢
  split at hh<;>(try (rename_i h;cases h))<;>first
   |(obtain⟨v,h1,h2⟩:=acu hh;exact⟨v,fun σ'=>Li (fun v' e=>⟨e,rfl⟩) h1,h2⟩)
   | exact hh.elim
def fV.Bq{o:fV}{vs:List AV}{σ : ae}{K Kp:AV->ae->Prop}(hc:o.cls = .rd)(hh:o.run P vs σ K Kp): ∃ v,(∀ τ,o.run P vs (σ++ τ) (Is v (σ++ τ)) No)/\K v σ:=by
 cases o<;>simp only[fV.cls]at hc<;>(try (cases hc;done))
 case GC neg =>
  unfold fV.run at hh ⊢;split at hh<;>(try (rename_i h;cases h))<;>(try exact hh.elim);obtain⟨v,h1,h2⟩:=Zs hh;exact⟨_,fun τ=>H7 (fun v' e=>by subst e;exact⟨rfl,rfl⟩) (h1 τ),h2⟩
 case J0 el =>
  unfold fV.run at hh ⊢;split at hh<;>(try (rename_i h;cases h))<;>(try exact hh.elim);unfold Fc at hh ⊢;obtain⟨ys,h1,h2,h3,h4⟩:=GH hh;split at h4
  ·exact⟨_,fun τ=>kL (fun zs (e:zs=ys)=>by subst e;exact⟨h2,h3,h4.1,rfl,rfl⟩) (h1 τ),h4.2⟩
  ·exact⟨_,fun τ=>kL (fun zs (e:zs=ys)=>by subst e;exact⟨h2,h3,h4.1,h4.2.1,rfl,rfl⟩) (h1 τ),h4.2.2⟩
  ·exact h4.elim
 case GA kd ok zero =>
  unfold fV.run at hh ⊢;split at hh<;>(try (rename_i h;cases h))
  ·exact⟨_,fun τ=>⟨hh.1,rfl,rfl⟩,hh.2⟩
  ·obtain⟨h0,hh⟩:=hh;split at hh
   ·rename_i h1;split at hh
    ·rename_i h2;exact⟨_,fun τ=>by simp only[jC τ h1,h2];exact⟨h0,rfl,rfl⟩,hh⟩
    ·rename_i h2;exact⟨_,fun τ=>by simp only[jC τ h1,h2];exact⟨h0,rfl,rfl⟩,hh⟩
    ·exact hh.elim
   ·exact hh.elim
  ·exact hh.elim
 case GB =>
  unfold fV.run at hh ⊢;split at hh<;>(try (rename_i h;cases h))
  ·exact⟨_,fun τ=>⟨rfl,rfl⟩,hh⟩
  ·split at hh
   ·rename_i h1;exact⟨_,fun τ=>by simp only[jC τ h1];exact⟨rfl,rfl⟩,hh⟩
   ·exact hh.elim
  ·exact hh.elim
def fV.H9{o:fV}{vs:List AV}{σ : ae}{K Kp:AV->ae->Prop}(hc:o.cls = .al)(hh:o.run P vs σ K Kp): ∃ v τ,o.run P vs σ (Is v (σ++ τ)) No/\K v (σ++ τ):=by
 cases o<;>simp only[fV.cls]at hc<;>(try (cases hc;done));unfold fV.run at hh ⊢;split at hh<;>(try (rename_i h;cases h))
 ·exact⟨_,_,⟨rfl,rfl⟩,hh⟩
 ·exact hh.elim
def fV.H_{o:fV}: o.cls≠ .st/\o.cls≠ .ap:=by cases o<;>simp[fV.cls]
def Fe{o:bg}{e:Env}{σ : ae}{K Kp:AV->ae->Prop}(hc:o.cls = .pu)(hh:o.run P e σ K Kp): ∃ v,(∀ σ',o.run P e σ' (Is v σ') No)/\K v σ:=by
 cases o<;>simp only[bg.cls]at hc<;>(try (cases hc;done))<;>simp only[bg.run]at hh ⊢
 case ex o xs=>exact fV.Fe hc hh
 case mv x=>exact⟨_,fun _=>⟨rfl,rfl⟩,hh⟩
 case vy t x=>exact⟨_,fun _=>⟨rfl,rfl⟩,hh⟩
 case rH f a b=>exact⟨_,fun _=>⟨rfl,rfl⟩,hh⟩
 case build z ps=>obtain⟨v,h1,h2⟩:=Lg _ _ hh;exact⟨_,fun _=>zD (fun v' e=>⟨congrArg AV.agg e,rfl⟩) _ _ h1,h2⟩
 case mc mt el z n ps =>
  cases mt
  ·obtain⟨v,h1,h2⟩:=Bo _ _ hh;simp only[aG,if_false]at h2 ⊢;exact⟨_,fun _=>tK (fun v' e=>⟨congrArg (AV.aN true el) e,rfl⟩) _ _ h1,h2⟩
  ·cases hc
 case bin op x y=>obtain⟨v,h1,h2⟩:=acr hh;exact⟨v,fun _=>Lb (fun v' e=>⟨e,rfl⟩) h1,h2⟩
 case un op x=>obtain⟨v,h1,h2⟩:=ad2 hh;exact⟨v,fun _=>Oh (fun v' e=>⟨e,rfl⟩) h1,h2⟩
 case min x xs=>obtain⟨v,h1,h2⟩:=GI _ _ hh;exact⟨v,fun _=>tJ (fun v' e=>⟨e,rfl⟩) _ _ h1,h2⟩
 case max x xs=>obtain⟨v,h1,h2⟩:=GI _ _ hh;exact⟨v,fun _=>tJ (fun v' e=>⟨e,rfl⟩) _ _ h1,h2⟩
 case pick c a b=>split at hh<;>first|exact⟨_,fun _=>⟨rfl,rfl⟩,hh⟩|exact hh.elim
 case sj x=>split at hh<;>first|exact⟨_,fun _=>⟨rfl,rfl⟩,hh⟩|exact hh.elim
 case mN=>split at hh<;>first|exact⟨_,fun _=>⟨rfl,rfl⟩,hh⟩|exact hh.elim
 case ko=>split at hh<;>first|exact⟨_,fun _=>⟨rfl,rfl⟩,hh⟩|exact hh.elim
 case Sw=>split at hh<;>first|exact⟨_,fun _=>⟨rfl,rfl⟩,hh⟩|exact hh.elim
 case qV=>split at hh<;>first|exact⟨_,fun _=>⟨rfl,rfl⟩,hh⟩|exact hh.elim
 case qU=>split at hh<;>first|exact⟨_,fun _=>⟨rfl,rfl⟩,hh⟩|exact hh.elim
 case len=>split at hh<;>first|exact⟨_,fun _=>⟨rfl,rfl⟩,hh⟩|exact hh.elim
 case ext=>split at hh<;>first|exact⟨_,fun _=>⟨hh.1,rfl,rfl⟩,hh.2⟩|exact hh.elim
 case field=>split at hh<;>first|exact⟨_,fun _=>⟨hh.1,hh.2.1,rfl,rfl⟩,hh.2.2⟩|exact hh.elim
 case nR=>split at hh<;>first|exact⟨_,fun _=>⟨hh.1,hh.2.1,rfl,rfl⟩,hh.2.2⟩|exact hh.elim
 case zB=>split at hh<;>first|exact⟨_,fun _=>⟨hh.1,hh.2.1,hh.2.2.1,hh.2.2.2.1,rfl,rfl⟩,hh.2.2.2.2⟩|exact hh.elim
 case uK x lo hi =>
  split at hh
  ·obtain⟨v,h1,h2⟩:=lg hh;obtain⟨u,h3,h4⟩:=lg h2;exact⟨_,fun _=>cK (fun v' e=>by subst e;exact cK (fun u' e=>by subst e;exact⟨rfl,rfl⟩) h3) h1,h4⟩
  ·exact hh.elim
 case call q f args=>split at hc<;>cases hc
def Bq{o:bg}{e:Env}{σ : ae}{K Kp:AV->ae->Prop}(hc:o.cls = .rd)(hh:o.run P e σ K Kp): ∃ v,(∀ τ,o.run P e (σ++ τ) (Is v (σ++ τ)) No)/\K v σ:=by
 cases o<;>simp only[bg.cls]at hc<;>(try (cases hc;done))<;>simp only[bg.run]at hh ⊢
 case ex o xs=>exact fV.Bq hc hh
 case mc mt el z n ps=>split at hc<;>cases hc
 case load ag n x=>obtain⟨v,h1,h2⟩:=uX hh;exact⟨v,fun τ=>mh (fun v' e=>⟨e,rfl⟩) (h1 τ),h2⟩
 case C9 x =>
  obtain⟨v,h1,s,h2,h3⟩:=GH hh.2;exact⟨_,fun τ=>⟨hh.1,kL (fun v' (e:v'=v)=>⟨s,by rw[e];exact h2,rfl,rfl⟩) (h1 τ)⟩,h3⟩
 case Cx el x =>
  split at hh
  ·exact⟨_,fun _=>⟨rfl,rfl⟩,hh⟩
  ·obtain⟨h0,hh⟩:=hh;split at hh
   ·rename_i h;refine⟨_,fun τ=>⟨h0,?_⟩,hh.2.2.2⟩;simp only[jC τ h];exact⟨hh.1,hh.2.1,hh.2.2.1,by trivial⟩
   ·exact hh.elim
  ·exact hh.elim
 case uL el x lo hi =>
  split at hh
  ·obtain⟨v,h1,h2⟩:=lg hh;obtain⟨u,h3,h4⟩:=lg h2;exact⟨_,fun _=>cK (fun v' e=>by subst e;exact cK (fun u' e=>by subst e;exact⟨rfl,rfl⟩) h3) h1,h4⟩
  ·obtain⟨v,h1,h2⟩:=lg hh.2;obtain⟨u,h3,h4⟩:=lg h2;exact⟨_,fun _=>⟨hh.1,cK (fun v' e=>by subst e;exact cK (fun u' e=>by subst e;exact⟨rfl,rfl⟩) h3) h1⟩,h4⟩
  ·obtain⟨h0,hh⟩:=hh;split at hh
   ·rename_i h;obtain⟨v,h1,h2⟩:=lg hh.2.2.2;obtain⟨u,h3,h4⟩:=lg h2;refine⟨_,fun τ=>⟨h0,?_⟩,h4⟩;simp only[jC τ h];exact⟨hh.1,hh.2.1,hh.2.2.1,cK (fun v' e=>by subst e;exact cK (fun u' e=>by subst e;exact⟨rfl,rfl⟩) h3) h1⟩
   ·exact hh.elim
  ·exact hh.elim
 case jT el arr x i =>
  split at hh
  ·split at hh
   ·exact⟨_,fun τ=>⟨hh.1,hh.2.1,hh.2.2.1,rfl,rfl⟩,hh.2.2.2⟩
   ·obtain⟨h0,h1,h2,hh⟩:=hh;split at hh
    ·rename_i h;refine⟨_,fun τ=>⟨h0,h1,h2,?_⟩,hh.2.2⟩;simp only[jC τ h];exact⟨hh.1,hh.2.1,by trivial⟩
    ·exact hh.elim
   ·exact⟨_,fun τ=>⟨hh.1,hh.2.1,rfl,rfl⟩,hh.2.2⟩
   ·exact⟨_,fun τ=>⟨hh.1,hh.2.1,rfl,rfl⟩,hh.2.2⟩
   ·exact⟨_,fun τ=>⟨hh.1,hh.2.1,rfl,rfl⟩,hh.2.2⟩
   ·exact hh.elim
  ·exact hh.elim
 case call q f args =>
  cases q with
  | false=>cases hc
  | true =>
    split at hh
    ·simp only[if_true]at hh ⊢;obtain⟨r,h1,h2⟩:=hh;exact⟨r,fun τ=>⟨r,fun kM=>by rw[aP σ];exact h1 _,rfl,rfl⟩,h2⟩
    ·exact hh.elim
    ·exact hh.elim
def H9{o:bg}{e:Env}{σ : ae}{K Kp:AV->ae->Prop}(hc:o.cls = .al)(hh:o.run P e σ K Kp): ∃ v τ,o.run P e σ (Is v (σ++ τ)) No/\K v (σ++ τ):=by
 cases o<;>simp only[bg.cls]at hc<;>(try (cases hc;done))<;>simp only[bg.run]at hh ⊢
 case ex o xs=>exact fV.H9 hc hh
 case alloc T cs=>exact⟨_,_,⟨rfl,rfl⟩,hh⟩
 case xU=>exact⟨_,_,⟨hh.1,rfl,rfl⟩,hh.2⟩
 case kK el=>exact⟨_,_,⟨rfl,rfl⟩,hh⟩
 case box x=>exact⟨_,_,⟨hh.1,rfl,rfl⟩,hh.2⟩
 case Sx x=>split at hh<;>first|exact⟨_,_,⟨hh.1,rfl,rfl⟩,hh.2⟩|exact hh.elim
 case pK=>split at hh<;>first|exact⟨_,_,⟨hh.1,hh.2.1,hh.2.2.1,hh.2.2.2.1,rfl,rfl⟩,hh.2.2.2.2⟩|exact hh.elim
 case call q f args=>split at hc<;>cases hc
 case mc mt el z n ps =>
  cases mt
  ·cases hc
  ·obtain⟨v,h1,h2⟩:=Bo _ _ hh;simp only[if_true]at h2 ⊢;exact⟨_,_,tK (fun v' e=>by subst e;exact⟨rfl,rfl⟩) _ _ h1,h2⟩
def Dd{σ : ae}{n:Nat}{p v:AV}{K:ae->Prop}(hh:oc σ n p v K): ∃ l o o',σ[l]? = some o/\o.like o'/\p.obj=some l/\oc σ n p v (fun s=>s = σ.set l o')/\K (σ.set l o'):=by
 unfold oc at hh;obtain⟨h1,h2,hh⟩:=hh;split at hh
 ·split at hh
  ·rename_i h;exact⟨_,_,_,h,trivial,rfl,by simp only[oc,h];exact⟨h1,h2,hh.1,trivial⟩,hh.2⟩
  ·exact hh.elim
 ·split at hh
  ·rename_i h;obtain⟨e1,e2,e3,e4,e5,hK⟩:=hh;subst e1;exact⟨_,_,_,h,⟨_,rfl,by simp⟩,rfl,by simp only[oc,h];exact⟨h1,h2,trivial,e2,e3,e4,e5,trivial⟩,hK⟩
  ·exact hh.elim
 ·exact hh.elim
def af1{o:bg}{e:Env}{σ : ae}{K Kp:AV->ae->Prop}(hc:o.cls = .st)(hh:o.run P e σ K Kp): ∃ v σ',o.run P e σ (Is v σ') No/\K v σ':=by
 cases o<;>simp only[bg.cls]at hc<;>(try (cases hc;done))<;>simp only[bg.run]at hh ⊢
 case ex=>exact absurd hc fV.H_.1
 case mc=>split at hc<;>cases hc
 case call=>split at hc<;>cases hc
 case sD f args =>
  split at hh
  ·unfold Fa at *;split at hh
   ·obtain⟨l,ob,nj,r,h1,h2,h3,h4,h5⟩:=hh;exact⟨r,_,⟨l,ob,nj,r,h1,h2,h3,h4,rfl,rfl⟩,h5⟩
   ·exact hh.elim
  ·exact hh.elim
 case store n x v =>
  obtain⟨l,o,o',_,_,_,h1,h2⟩:=Dd hh;exact⟨_,_,vB (fun s e=>⟨rfl,e⟩) h1,h2⟩
 case lR k T cs =>
  split at hh
  ·rename_i n h1;split at hh
   ·rename_i h2;exact⟨_,_,⟨rfl,rfl⟩,hh⟩
   ·exact hh.elim
  ·exact hh.elim
 case qb k T el x y =>
  split at hh
  ·split at hh
   ·split at hh
    ·exact⟨_,_,⟨hh.1,hh.2.1,hh.2.2.1,rfl,rfl⟩,hh.2.2.2⟩
    ·exact hh.elim
   ·exact hh.elim
  ·exact hh.elim
 case qc k el z x y =>
  split at hh
  ·split at hh
   ·split at hh
    ·exact⟨_,_,⟨hh.1,hh.2.1,hh.2.2.1,hh.2.2.2.1,rfl,rfl⟩,hh.2.2.2.2⟩
    ·exact hh.elim
   ·exact hh.elim
  ·exact hh.elim
def abX{o:bg}{e:Env}{σ : ae}{K Kp:AV->ae->Prop}(hc:o.cls = .ap)(hh:o.run P e σ K Kp): ∃ v σ',o.run P e σ (Is v σ') No/\K v σ':=by
 cases o<;>simp only[bg.cls]at hc<;>(try (cases hc;done))<;>simp only[bg.run]at hh ⊢
 case ex=>exact absurd hc fV.H_.2
 case mc=>split at hc<;>cases hc
 case call=>split at hc<;>cases hc
 case app T el x y =>
  have key:∀ ys:List AV,∀ K':AV->ae->Prop,(ys.all (fun a=>a.fits el)=true/\match x.ev e with
   | .aA=>if ys.length=0 then K' .aA σ else gN ys.length el/\K' (.own el σ.length ys.length 0 ys.length) (σ++[.cj T el ys])
   | .aN true aZ xs=>aZ=el/\if ys.length=0 then K' (.aN true el xs) σ else gN (xs.length+ys.length) el/\K' (.own el σ.length (xs.length+ys.length) 0 (xs.length+ys.length)) (σ++[.cj T el (xs++ys)])
   | .own aZ l m lo n => aZ = el /\ match σ[l]? with
     | some (.cj T' aY xs)=>(T'=none\/T'=T)/\aY=el/\m=xs.length/\lo=0/\n=xs.length/\gN (xs.length+ys.length) el/\K' (.own el l (xs.length+ys.length) 0 (xs.length+ys.length)) (σ.set l (.cj T' el (xs++ys)))
     | _=>False
   | _=>False)-> ∃ v σ',K' v σ'/\(ys.all (fun a=>a.fits el)=true/\match x.ev e with
   | .aA=>if ys.length=0 then Is v σ' .aA σ else gN ys.length el/\Is v σ' (.own el σ.length ys.length 0 ys.length) (σ++[.cj T el ys])
   | .aN true aZ xs=>aZ=el/\if ys.length=0 then Is v σ' (.aN true el xs) σ else gN (xs.length+ys.length) el/\Is v σ' (.own el σ.length (xs.length+ys.length) 0 (xs.length+ys.length)) (σ++[.cj T el (xs++ys)])
   | .own aZ l m lo n => aZ = el /\ match σ[l]? with
     | some (.cj T' aY xs)=>(T'=none\/T'=T)/\aY=el/\m=xs.length/\lo=0/\n=xs.length/\gN (xs.length+ys.length) el/\Is v σ' (.own el l (xs.length+ys.length) 0 (xs.length+ys.length)) (σ.set l (.cj T' el (xs++ys)))
     | _=>False
   | _=>False):=fun ys K'=>by
   rintro⟨h1,h2⟩;split at h2
   ·split at h2
    ·exact⟨_,_,h2,h1,by rw[if_pos (by assumption)];exact⟨rfl,rfl⟩⟩
    ·exact⟨_,_,h2.2,h1,by rw[if_neg (by assumption)];exact⟨h2.1,rfl,rfl⟩⟩
   ·obtain⟨rfl,h2⟩:=h2;split at h2
    ·exact⟨_,_,h2,h1,rfl,by rw[if_pos (by assumption)];exact⟨rfl,rfl⟩⟩
    ·exact⟨_,_,h2.2,h1,rfl,by rw[if_neg (by assumption)];exact⟨h2.1,rfl,rfl⟩⟩
   ·obtain⟨rfl,h2⟩:=h2;split at h2
    ·rename_i hk;refine⟨_,_,h2.2.2.2.2.2.2,h1,rfl,?_⟩;exact⟨h2.1,h2.2.1,h2.2.2.1,h2.2.2.2.1,h2.2.2.2.2.1,h2.2.2.2.2.2.1,rfl,rfl⟩
    ·exact h2.elim
   ·exact h2.elim
  have hh:gj σ el (y.ev e) fun ys=> ∃ v σ',K v σ'/\_:=kL (fun ys h=>key ys K h) hh
  have out:∀ {B:List AV->AV->ae->Prop},(gj σ el (y.ev e) fun ys=> ∃ v σ',K v σ'/\B ys v σ')-> ∃ v σ',(gj σ el (y.ev e) fun ys=>B ys v σ')/\K v σ':=fun {B} h=>by
   unfold gj at *;split at h
   ·obtain⟨v,s,h1,h2⟩:=h;exact⟨v,s,h2,h1⟩
   ·obtain⟨h0,v,s,h1,h2⟩:=h;exact⟨v,s,⟨h0,h2⟩,h1⟩
   ·obtain⟨h0,h⟩:=h;split at h
    ·obtain⟨q1,q2,v,s,h1,h2⟩:=h;exact⟨v,s,⟨h0,q1,q2,h2⟩,h1⟩
    ·exact h.elim
   ·obtain⟨h0,v,s,h1,h2⟩:=h;exact⟨v,s,⟨h0,h2⟩,h1⟩
   ·obtain⟨h0,h0',h⟩:=h;obtain⟨u,h1,v,s,h2,h3⟩:=uX h;exact⟨v,s,⟨h0,h0',mh (fun u' (e:u'=u)=>by subst e;exact h3) (by simpa using h1 [])⟩,h2⟩
   ·exact h.elim
  exact out hh
def Ll{σ : ae}{el:El}{x:AV}{K:List AV->Prop}(hh:gj σ el x K): ∃ v,gj σ el x (fun v'=>v'=v)/\K v:=by
 obtain⟨v,h1,h2⟩:=GH hh;exact⟨v,by simpa using h1 [],h2⟩
def acz{σ : ae}{T:Option TypeId}{el:El}{x y:AV}{K:AV->ae->Prop}(hh:pU σ T el x y K): ∃ v σ',pU σ T el x y (Is v σ')/\K v σ':=by
 have:=abX (P:=default) (o:= .app T el (.c x) (.c y)) (e:=fun _=> .undef) (σ:=σ) (K:=K) (Kp:=No) rfl hh;obtain⟨v,σ',h1,h2⟩:=this;exact⟨v,σ',h1,h2⟩
def acA{σ : ae}{x:AV}{K:AV->ae->Prop}(hh:xW σ x K): ∃ v σ',xW σ x (Is v σ')/\K v σ':=by
 unfold xW at hh ⊢;split at hh
 ·exact⟨_,_,⟨rfl,rfl⟩,hh⟩
 ·exact⟨_,_,⟨rfl,rfl⟩,hh⟩
 ·split at hh
  ·exact⟨_,_,⟨hh.1,hh.2.1,hh.2.2.1,rfl,rfl⟩,hh.2.2.2⟩
  ·exact hh.elim
 ·exact hh.elim
def fV.det{o:fV}{vs:List AV}{σ : ae}{K Kp:AV->ae->Prop}(hni:o.cls≠ .no)(hh:o.run P vs σ K Kp): ∃ v σ',o.run P vs σ (Is v σ') No/\K v σ':=by
 cases o with
 | inv n=>exact absurd rfl hni
 | pc n=>exact absurd rfl hni
 | cw n k C8 =>
   unfold fV.run at hh ⊢;split at hh<;>(try (rename_i h;cases h))<;>(try exact hh.elim);obtain⟨r,s2,h1,h2,h3⟩:=hh;exact⟨r,s2,⟨r,s2,h1,h2,rfl,rfl⟩,h3⟩
 | GC neg =>
   obtain⟨v,h1,h2⟩:=fV.Bq (o:= .GC neg) rfl hh;exact⟨v,σ,by simpa using h1 [],h2⟩
 | J0 el =>
   obtain⟨v,h1,h2⟩:=fV.Bq (o:= .J0 el) rfl hh;exact⟨v,σ,by simpa using h1 [],h2⟩
 | JZ el lo =>
   obtain⟨v,h1,h2⟩:=fV.Fe (o:= .JZ el lo) rfl hh;exact⟨v,σ,h1 _,h2⟩
 | Od T ok z =>
   obtain⟨v,h1,h2⟩:=fV.Fe (o:= .Od T ok z) rfl hh;exact⟨v,σ,h1 _,h2⟩
 | s2a n =>
   unfold fV.run at hh ⊢;split at hh<;>(try (rename_i h;cases h))<;>(try exact hh.elim);obtain⟨v,σ',h1,h2⟩:=acv hh;exact⟨v,σ',h1,h2⟩
 | Zr kd z =>
   unfold fV.run at hh ⊢;split at hh<;>(try (rename_i h;cases h))<;>(try exact hh.elim);obtain⟨v,σ',h1,h2⟩:=Zt hh;exact⟨v,σ',h1,h2⟩
 | T8 =>
   unfold fV.run at hh ⊢;split at hh<;>(try (rename_i h;cases h))<;>(try exact hh.elim);obtain⟨σ',h1,h2⟩:=Zu hh;exact⟨_,σ',H8 (fun s e=>⟨rfl,e⟩) h1,h2⟩
 | clr el z =>
   unfold fV.run at hh ⊢;split at hh<;>(try (rename_i h;cases h))<;>(try exact hh.elim);obtain⟨σ',h1,h2⟩:=acw hh;exact⟨_,σ',Lj (fun s e=>⟨rfl,e⟩) h1,h2⟩
 | Wx =>
   unfold fV.run at hh ⊢;split at hh<;>(try (rename_i h;cases h))<;>(try exact hh.elim);obtain⟨v,σ',h1,h2⟩:=acA hh;exact⟨v,σ',h1,h2⟩
 | La el n lo hi =>
   obtain⟨v,h1,h2⟩:=fV.Fe (o:= .La el n lo hi) rfl hh;exact⟨v,σ,h1 σ,h2⟩
 | GA kd ok zero =>
   obtain⟨v,h1,h2⟩:=fV.Bq (o:= .GA kd ok zero) rfl hh;exact⟨v,σ,by simpa using h1 [],h2⟩
 | GB =>
   obtain⟨v,h1,h2⟩:=fV.Bq (o:= .GB) rfl hh;exact⟨v,σ,by simpa using h1 [],h2⟩
 | HV =>
   obtain⟨v,τ,h1,h2⟩:=fV.H9 (o:= .HV) rfl hh;exact⟨v,_,h1,h2⟩
 | HW kd =>
   unfold fV.run at hh ⊢;split at hh<;>(try (rename_i h;cases h))<;>(try exact hh.elim);obtain⟨h0,hh⟩:=hh;split at hh
   ·rename_i h1;split at hh
    ·rename_i h2;refine⟨_,_,?_,hh⟩;exact⟨h0,rfl,rfl⟩
    ·exact hh.elim
   ·exact hh.elim
 | sl3 el lo =>
   have key:∀ {x:AV} {l:Option AV} {h m:AV},zC σ el x l h m K-> ∃ v σ',zC σ el x l h m (Is v σ')/\K v σ':=fun {x l h m} hh=>by
    unfold zC at hh ⊢;split at hh
    ·obtain⟨a,b,c,h1,h2⟩:=sX hh;exact⟨_,_,je (fun _ _ _ _=>⟨rfl,rfl⟩) h1,h2⟩
    ·obtain⟨a,b,c,h1,h2⟩:=sX hh.2;exact⟨_,_,⟨hh.1,je (fun _ _ _ e=>by obtain⟨rfl,rfl,rfl⟩:=e;exact⟨rfl,rfl⟩) h1⟩,h2⟩
    ·obtain⟨h0,hh⟩:=hh;split at hh
     ·rename_i hk;obtain⟨k1,k2,k3,hh⟩:=hh;obtain⟨a,b,c,h1,h2⟩:=sX hh;by_cases e:c=a
      ·rw[if_pos e]at h2;exact⟨_,_,⟨h0,k1,k2,k3,je (fun _ _ _ e'=>by obtain⟨rfl,rfl,rfl⟩:=e';rw[if_pos e];exact⟨rfl,rfl⟩) h1⟩,h2⟩
      ·rw[if_neg e]at h2;exact⟨_,_,⟨h0,k1,k2,k3,je (fun _ _ _ e'=>by obtain⟨rfl,rfl,rfl⟩:=e';rw[if_neg e];exact⟨h2.1,rfl,rfl⟩) h1⟩,h2.2⟩
     ·exact hh.elim
    ·exact hh.elim
   unfold fV.run at hh ⊢;split at hh<;>(try (rename_i h;cases h))<;>first|exact key hh|exact hh.elim
 | copy el =>
   unfold fV.run at hh ⊢;split at hh<;>(try (rename_i h;cases h))<;>(try exact hh.elim)
   ·rename_i x y;obtain⟨ys,h1,h2,h3⟩:=Ll hh
    have key:∃ v σ',Db σ el x ys (Is v σ')/\K v σ':=by
     unfold Db at h3 ⊢;split at h3
     ·exact⟨_,_,⟨rfl,rfl⟩,h3⟩
     ·exact⟨_,_,⟨h3.1,rfl,rfl⟩,h3.2⟩
     ·obtain⟨l,o,o',_,_,_,h4,h5⟩:=Dd h3.2.2;exact⟨_,_,⟨h3.1,h3.2.1,vB (fun s e=>⟨rfl,e⟩) h4⟩,h5⟩
     ·obtain⟨h0,h3⟩:=h3;split at h3
      ·exact⟨_,_,⟨h0,h3.1,h3.2.1,h3.2.2.1,rfl,rfl⟩,h3.2.2.2⟩
      ·exact h3.elim
     ·exact h3.elim
    obtain⟨v,σ',h4,h5⟩:=key;exact⟨v,σ',kL (fun ys' (e:ys'=ys)=>by subst e;exact⟨h2,h4⟩) h1,h5⟩
 | apx el =>
   unfold fV.run at hh ⊢;split at hh<;>(try (rename_i h;cases h))<;>(try exact hh.elim)
   ·unfold GG at hh ⊢;split at hh
    ·obtain⟨h0,hh⟩:=hh;obtain⟨ys,h1,h2,h3⟩:=Ll hh;split at h3
     ·rename_i hk;refine⟨_,_,⟨h0,kL (fun ys' (e:ys'=ys)=>⟨e ▸ h2,?_⟩) h1⟩,h3.2.2.2.2⟩;subst e;exact⟨h3.1,h3.2.1,h3.2.2.1,h3.2.2.2.1,rfl,rfl⟩
     ·exact h3.elim
    ·exact acz hh
def bg.D(P:Program)(o:bg)(e:Env)(σ : ae)(v:AV)(σ':ae): Prop :=
 match o.cls with
 | .pu=>(∀ s,o.run P e s (Is v s) No)/\σ' = σ
 | .rd=>(∀ τ,o.run P e (σ++ τ) (Is v (σ++ τ)) No)/\σ' = σ
 | .al=>o.run P e σ (Is v σ') No
 | .st=>o.run P e σ (Is v σ') No
 | .ap=>o.run P e σ (Is v σ') No
 | .cw=>o.run P e σ (Is v σ') No
 | .no=>False
def sY{o:bg}{e:Env}{σ : ae}{K Kp:AV->ae->Prop}{v:AV}{σ':ae}(hK:K v σ')(h:o.run P e σ (Is v σ') No): o.run P e σ K Kp :=
 sE (fun v' s h=>by obtain⟨e1,e2⟩:=h;subst e1;subst e2;exact hK) (fun _ _ h=>False.elim h) h
def af2{o:bg}{e:Env}{σ : ae}{K Kp:AV->ae->Prop}(hc:o.cls = .cw)(hh:o.run P e σ K Kp): ∃ v σ',o.run P e σ (Is v σ') No/\K v σ':=by
 cases o<;>simp only[bg.cls]at hc<;>(try (cases hc;done))
 case mc=>split at hc<;>cases hc
 case call=>split at hc<;>cases hc
 case ex o xs=>exact fV.det (by rw[hc];decide) (show o.run P (xs.map (AX.ev e)) σ K Kp from hh)
def Ff{o:bg}{e:Env}{σ : ae}{K Kp:AV->ae->Prop}(hc:o.cls≠ .no): o.run P e σ K Kp↔ ∃ v σ',o.D P e σ v σ'/\K v σ':=by
 unfold bg.D;constructor
 ·intro hh;split
  ·rename_i h;obtain⟨v,h1,h2⟩:=Fe h hh;exact⟨v,σ,⟨h1,rfl⟩,h2⟩
  ·rename_i h;obtain⟨v,h1,h2⟩:=Bq h hh;exact⟨v,σ,⟨h1,rfl⟩,h2⟩
  ·rename_i h;obtain⟨v,τ,h1,h2⟩:=H9 h hh;exact⟨v,_,h1,h2⟩
  ·rename_i h;exact af1 h hh
  ·rename_i h;exact abX h hh
  ·rename_i h;exact af2 h hh
  ·rename_i h;exact(hc h).elim
 ·rintro⟨v,σ',hD,hK⟩;split at hD
  ·obtain⟨h1,rfl⟩:=hD;exact sY hK (h1 _)
  ·obtain⟨h1,rfl⟩:=hD;have h2:=h1 [];rw[bB]at h2;exact sY hK h2
  ·exact sY hK hD
  ·exact sY hK hD
  ·exact sY hK hD
  ·exact sY hK hD
  ·exact hD.elim
def Sy{o:bg}{e e':Env}{σ : ae}{v:AV}{σ':ae}(h:∀ t ∈ o.uses,e t=e' t)(hD:o.D P e σ v σ'): o.D P e' σ v σ':=by
 unfold bg.D at *;split at hD
 ·exact⟨fun s=>by rw[<-sW h];exact hD.1 s,hD.2⟩
 ·exact⟨fun s=>by rw[<-sW h];exact hD.1 s,hD.2⟩
 ·rw[<-sW h];exact hD
 ·rw[<-sW h];exact hD
 ·rw[<-sW h];exact hD
 ·rw[<-sW h];exact hD
 ·exact hD.elim
def ad3{o:bg}{e:Env}{σ : ae}{v:AV}{σ':ae}(hc:o.cls = .pu\/o.cls = .rd)(hD:o.D P e σ v σ'): σ' = σ:=by
 unfold bg.D at hD;rcases hc with hc|hc<;>simp only[hc]at hD<;>exact hD.2
def ad4{o:bg}{e:Env}{σ : ae}{v:AV}{σ':ae}(hc:o.cls = .pu\/o.cls = .rd)(hD:o.D P e σ v σ')(τ : ae): o.D P e (σ++ τ) v (σ++ τ):=by
 unfold bg.D at *;rcases hc with hc|hc<;>simp only[hc]at hD ⊢
 ·exact⟨hD.1,trivial⟩
 ·exact⟨fun aj6=>by rw[aP];exact hD.1 _,trivial⟩
def ad5{o:bg}{e:Env}{σ : ae}{v:AV}{σ':ae}(hc:o.cls = .pu)(hD:o.D P e σ v σ')(s:ae): o.D P e s v s:=by
 unfold bg.D at *;simp only[hc]at hD ⊢;exact⟨hD.1,trivial⟩
def ahv{o:bg}{e:Env}{σ : ae}{v:AV}{σ':ae}(hc:o.cls = .al)(hD:o.D P e σ v σ'): ∃ τ,σ' = σ++ τ:=by
 unfold bg.D at hD;simp only[hc]at hD;obtain⟨v',τ,_,h⟩:=H9 hc hD;exact⟨τ,h.2.symm⟩
def bg.qW: bg->Option (Option AX)
 | .load _ _ x=>some (some x)
 | .uL .. | .jT ..=>some none
 | _=>none
def bg.sF: bg->Option AX
 | .store _ x _=>some x
 | .sD _ (x::_)=>some x
 | .lR k _ _=>some (.t k)
 | .qb k _ _ _ _=>some (.t k)
 | .qc k _ _ _ _=>some (.t k)
 | .app _ _ x _=>some x
 | _=>none
def rN(p q:AV): Prop:= ∀ l,p.obj=some l->q.obj=some l->False
def Sz{σ τ : ae}{l:Nat}{o:bj}(h:l < σ.length): σ.set l o++ τ =(σ++ τ).set l o:=by
 rw[iO _ _ h]
def Lm{σ : ae}{ag:Bool}{n:Nat}{p:AV}{K:AV->Prop}{l:Nat}{o:bj}(h:p.obj≠some l)(hh:iS σ ag n p K): iS (σ.set l o) ag n p K:=by
 unfold iS at *;split at hh
 ·rename_i l' off;have hne:l≠l':=fun e=>h (by rw[e];rfl);rw[aI hne];exact hh
 ·exact hh
 ·rename_i el l' m i off;have hne:l≠l':=fun e=>h (by rw[e];rfl);rw[aI hne];exact hh
 ·exact hh
def af3 {o : bg} {e : Env} {σ : ae} {v : AV} {σ' : ae} {l : Nat} {ob nj : bj} {rx : Option AX} (hr : o.qW = some rx) (hl : σ[l]? = some ob) (Ia : ob.like nj) (hap : ∀ x, rx = some x -> (x.ev e).obj ≠ some l) (hD : o.D P e σ v σ') :
    o.D P e (σ.set l nj) v (σ.set l nj):=by
 have hlt:l < σ.length:=(aK.1 hl).1;have hc:o.cls = .rd:=by cases o<;>simp[bg.qW]at hr<;>rfl
 unfold bg.D at *;simp only[hc]at hD ⊢;refine⟨fun τ=>?_,trivial⟩;have h:=hD.1 τ;rw[Sz hlt];have hl':(σ++ τ)[l]? = some ob:=jC τ hl;generalize σ++ τ = s at *;have De:l<s.length:=(aK.1 hl').1
 have shape:∀ (k:Nat) (T:Option TypeId) (el:El) (xs:List AV),s[k]? = some (.cj T el xs)-> ∃ ys,(s.set l nj)[k]? = some (.cj T el ys)/\ys.length=xs.length:=fun k T el xs hk=>by
  by_cases Df:l=k
  ·subst Df;rw[hl']at hk;cases hk;obtain⟨ys,rfl,h2⟩:=Ia;exact⟨ys,by simp[De],h2⟩
  ·exact⟨xs,by rw[aI Df];exact hk,rfl⟩
 cases o<;>simp only[bg.qW]at hr<;>(try (cases hr;done))<;>simp only[bg.run]at h ⊢
 case load ag n x =>
  cases hr;exact mh (fun v' h=>⟨h.1,rfl⟩) (Lm (hap x rfl) h)
 case uL el x lo hi =>
  split at h
  ·exact cK (fun _=>cK fun _ h=>⟨h.1,rfl⟩) h
  ·exact⟨h.1,cK (fun _=>cK fun _ h=>⟨h.1,rfl⟩) h.2⟩
  ·refine⟨h.1,?_⟩;have h:=h.2;split at h
   ·rename_i hk;obtain⟨ys,h1,h2⟩:=shape _ _ _ _ hk;simp only[h1,h2];exact⟨h.1,h.2.1,h.2.2.1,cK (fun _=>cK fun _ h=>⟨h.1,rfl⟩) h.2.2.2⟩
   ·exact h.elim
  ·exact h
 case jT el arr x i =>
  split at h
  ·split at h
   ·exact⟨h.1,h.2.1,h.2.2.1,h.2.2.2.1,rfl⟩
   ·refine⟨h.1,h.2.1,h.2.2.1,?_⟩;have h:=h.2.2.2;split at h
    ·rename_i hk;obtain⟨ys,h1,h2⟩:=shape _ _ _ _ hk;simp only[h1,h2];exact⟨h.1,h.2.1,h.2.2.1,rfl⟩
    ·exact h.elim
   ·exact⟨h.1,h.2.1,h.2.2.1,rfl⟩
   ·exact⟨h.1,h.2.1,h.2.2.1,rfl⟩
   ·exact⟨h.1,h.2.1,h.2.2.1,rfl⟩
   ·exact h.elim
  ·exact h.elim
def ad6{o:bg}{e:Env}{σ : ae}{v:AV}{σ':ae}(hc:o.cls = .st)(hD:o.D P e σ v σ'): ∃ y l ob nj,o.sF=some y/\σ[l]? = some ob/\ob.like nj/\(y.ev e).obj=some l/\σ' = σ.set l nj:=by
 unfold bg.D at hD;simp only[hc]at hD;cases o<;>simp only[bg.cls]at hc<;>(try (cases hc;done))<;>simp only[bg.run]at hD
 case ex=>exact absurd hc fV.H_.1
 case mc=>split at hc<;>cases hc
 case call=>split at hc<;>cases hc
 case sD f args =>
  split at hD
  ·cases args with
   | nil=>exact hD.elim
   | cons x xs =>
     obtain⟨l,ob,nj,r,h1,h2,h3,_,h5⟩:=hD;exact⟨x,l,ob,nj,rfl,h2,h3,h1,h5.2.symm⟩
  ·exact hD.elim
 case store n x v =>
  obtain⟨l,ob,nj,h1,h2,h3,_,h5⟩:=Dd hD;exact⟨x,l,ob,nj,rfl,h1,h2,h3,h5.2.symm⟩
 case lR k T cs =>
  split at hD
  ·rename_i n h1;split at hD
   ·rename_i h2;refine⟨.t k,n,.resv,.bM T cs,rfl,h2,trivial,?_,hD.2.symm⟩;simp only[AX.ev,h1,AV.obj]
   ·exact hD.elim
  ·exact hD.elim
 case qb k T el x y =>
  split at hD
  ·rename_i n h1;split at hD
   ·rename_i h2;split at hD
    ·refine⟨.t k,n,.resv,.cj T el _,rfl,h2,trivial,?_,hD.2.2.2.2.symm⟩;simp only[AX.ev,h1,AV.obj]
    ·exact hD.elim
   ·exact hD.elim
  ·exact hD.elim
 case qc k el z x y =>
  split at hD
  ·rename_i n h1;split at hD
   ·rename_i h2;split at hD
    ·refine⟨.t k,n,.resv,.vec el _,rfl,h2,trivial,?_,hD.2.2.2.2.2.symm⟩;simp only[AX.ev,h1,AV.obj]
    ·exact hD.elim
   ·exact hD.elim
  ·exact hD.elim
def bg.NZ: bg->Option Nat
 | .lR k _ _=>some k
 | .qb k _ _ _ _=>some k
 | .qc k _ _ _ _=>some k
 | _=>none
def abY {o : bg} {k : Nat} {e : Env} {σ : ae} {v : AV} {σ' : ae} (h : o.NZ = some k) (hD : o.D P e σ v σ') :
    ∃ n ob,e k = .ref n 0/\σ[n]? = some .resv/\ob≠ .resv/\σ' = σ.set n ob/\ ∀ s:ae,s[n]? = some .resv->o.D P e s v (s.set n ob):=by
 cases o<;>simp[bg.NZ]at h
 case lR k' T cs =>
  subst h;have hD:bg.run P (.lR k' T cs) e σ (Is v σ') No:=hD;simp only[bg.run]at hD;split at hD
  ·rename_i n h1;split at hD
   ·rename_i h2;refine⟨n,_,h1,h2,by simp,hD.2.symm,fun s hs=>?_⟩;show bg.run P (.lR k' T cs) e s (Is v _) No;simp only[bg.run,h1,hs];exact⟨hD.1,rfl⟩
   ·exact hD.elim
  ·exact hD.elim
 case qb k' T el x y =>
  subst h;have hD:bg.run P (.qb k' T el x y) e σ (Is v σ') No:=hD;simp only[bg.run]at hD;split at hD
  ·rename_i n h1;split at hD
   ·rename_i h2;split at hD
    ·rename_i ys h3;refine⟨n,_,h1,h2,by simp,hD.2.2.2.2.symm,fun s hs=>?_⟩;show bg.run P (.qb k' T el x y) e s (Is v _) No;simp only[bg.run,h1,hs,h3];exact⟨hD.1,hD.2.1,hD.2.2.1,hD.2.2.2.1,rfl⟩
    ·exact hD.elim
   ·exact hD.elim
  ·exact hD.elim
 case qc k' el z x y =>
  subst h;have hD:bg.run P (.qc k' el z x y) e σ (Is v σ') No:=hD;simp only[bg.run]at hD;split at hD
  ·rename_i n h1;split at hD
   ·rename_i h2;split at hD
    ·rename_i i m h3 h4;refine⟨n,_,h1,h2,by simp,hD.2.2.2.2.2.symm,fun s hs=>?_⟩;show bg.run P (.qc k' el z x y) e s (Is v _) No;simp only[bg.run,h1,hs,h3,h4];exact⟨hD.1,hD.2.1,hD.2.2.1,hD.2.2.2.1,hD.2.2.2.2.1,rfl⟩
    ·exact hD.elim
   ·exact hD.elim
  ·exact hD.elim
def bg.pL: bg->Option AX
 | .load _ _ x=>some x
 | .uL _ x _ _=>some x
 | .jT _ _ x _=>some x
 | _=>none
def Ib{o:bg}{x:AX}(h:o.pL=some x): o.cls = .rd:=by
 cases o<;>simp[bg.pL]at h<;>rfl
def SA{o:bg}{e:Env}{σ : ae}{v:AV}{σ':ae}{x:AX}{l:Nat}{ob:bj}(hr:o.pL=some x)(hlt:l < σ.length)(hne:(x.ev e).obj≠some l)(hD:o.D P e σ v σ'): o.D P e (σ.set l ob) v (σ.set l ob):=by
 have hc:=Ib hr;unfold bg.D at *;simp only[hc]at hD ⊢;refine⟨fun τ=>?_,trivial⟩;have h:=hD.1 τ;rw[Sz hlt];generalize σ++ τ = s at *;cases o<;>simp only[bg.pL]at hr<;>(try (cases hr;done))<;>cases hr<;>simp only[bg.run]at h ⊢
 case load ag n =>
  exact mh (fun v' h=>⟨h.1,rfl⟩) (Lm hne h)
 case uL el lo hi =>
  split at h
  ·exact cK (fun _=>cK fun _ h=>⟨h.1,rfl⟩) h
  ·exact⟨h.1,cK (fun _=>cK fun _ h=>⟨h.1,rfl⟩) h.2⟩
  ·rename_i aZ l' m o n hx;have Zw:l≠l':=fun e=>hne (by rw[hx,e];rfl);refine⟨h.1,?_⟩;have h:=h.2;rw[aI Zw];split at h
   ·rename_i hk;simp only[hk];exact⟨h.1,h.2.1,h.2.2.1,cK (fun _=>cK fun _ h=>⟨h.1,rfl⟩) h.2.2.2⟩
   ·exact h.elim
  ·exact h
 case jT el arr i =>
  split at h
  ·split at h
   ·exact⟨h.1,h.2.1,h.2.2.1,h.2.2.2.1,rfl⟩
   ·rename_i aZ l' m o n hx;have Zw:l≠l':=fun e=>hne (by rw[hx,e];rfl);refine⟨h.1,h.2.1,h.2.2.1,?_⟩;have h:=h.2.2.2;rw[aI Zw];split at h
    ·rename_i hk;simp only[hk];exact⟨h.1,h.2.1,h.2.2.1,rfl⟩
    ·exact h.elim
   ·exact⟨h.1,h.2.1,h.2.2.1,rfl⟩
   ·exact⟨h.1,h.2.1,h.2.2.1,rfl⟩
   ·exact⟨h.1,h.2.1,h.2.2.1,rfl⟩
   ·exact h.elim
  ·exact h.elim
def ahw{o:bg}{e:Env}{σ : ae}{v:AV}{σ':ae}(hc:o.cls = .ap)(hD:o.D P e σ v σ'): ∃ y,o.sF=some y/\((∃ τ,σ' = σ++ τ)\/ ∃ l ob,l < σ.length/\(y.ev e).obj=some l/\σ' = σ.set l ob):=by
 unfold bg.D at hD;simp only[hc]at hD;cases o<;>simp only[bg.cls]at hc<;>(try (cases hc;done))<;>simp only[bg.run]at hD
 case ex=>exact absurd hc fV.H_.2
 case mc=>split at hc<;>cases hc
 case call=>split at hc<;>cases hc
 case app T el x y =>
  refine⟨x,rfl,?_⟩
  have key:∀ ys:List AV,(match x.ev e with
   | .aA=>if ys.length=0 then Is v σ' .aA σ else gN ys.length el/\Is v σ' (.own el σ.length ys.length 0 ys.length) (σ++[.cj T el ys])
   | .aN true aZ xs=>aZ=el/\if ys.length=0 then Is v σ' (.aN true el xs) σ else gN (xs.length+ys.length) el/\Is v σ' (.own el σ.length (xs.length+ys.length) 0 (xs.length+ys.length)) (σ++[.cj T el (xs++ys)])
   | .own aZ l m lo n => aZ = el /\ match σ[l]? with
     | some (.cj T' aY xs)=>(T'=none\/T'=T)/\aY=el/\m=xs.length/\lo=0/\n=xs.length/\gN (xs.length+ys.length) el/\Is v σ' (.own el l (xs.length+ys.length) 0 (xs.length+ys.length)) (σ.set l (.cj T' el (xs++ys)))
     | _=>False
   | _=>False)->(∃ τ,σ' = σ++ τ)\/ ∃ l ob,l < σ.length/\(x.ev e).obj=some l/\σ' = σ.set l ob:=fun ys h=>by
   split at h
   ·split at h
    ·exact .inl ⟨[],by rw[bB];exact h.2.symm⟩
    ·exact .inl ⟨_,h.2.2.symm⟩
   ·have h:=h.2;split at h
    ·exact .inl ⟨[],by rw[bB];exact h.2.symm⟩
    ·exact .inl ⟨_,h.2.2.symm⟩
   ·rename_i aZ l m lo n hx;have h:=h.2;split at h
    ·rename_i hk;exact .inr ⟨l,_,(aK.1 hk).1,by rw[hx];rfl,h.2.2.2.2.2.2.2.symm⟩
    ·exact h.elim
   ·exact h.elim
  unfold pU gj at hD;split at hD
  ·exact key _ hD.2
  ·exact key _ hD.2.2
  ·have hD:=hD.2;split at hD
   ·exact key _ hD.2.2.2
   ·exact hD.elim
  ·exact key _ hD.2.2
  ·obtain⟨u,_,h2⟩:=uX hD.2.2;exact key _ h2.2
  ·exact hD.elim
