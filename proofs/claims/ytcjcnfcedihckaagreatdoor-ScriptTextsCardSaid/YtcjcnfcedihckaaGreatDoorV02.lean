/- Part. -/
import Derived.Test.YtcjcnfcedihckaaGreatDoorV01
set_option linter.all false
namespace Go.AM
variable {P:Program}
def Jq{op:BinOp}{x y:AV}{K K':AV->Prop}(h:∀ v,K v->K' v): jn op x y K->jn op x y K':=by
 unfold jn;split<;>intro hh<;>first|exact h _ hh|exact⟨hh.1,h _ hh.2⟩|exact⟨hh.1,hh.2.1,h _ hh.2.2⟩|exact hh.elim
def Xn{op:BinOp}{x y:AV}{K:AV->Prop}: jn op x y K-> ∃ v,jn op x y (fun v'=>v'=v)/\K v:=by
 unfold jn;split<;>intro hh<;>first|exact⟨_,rfl,hh⟩|exact⟨_,⟨hh.1,rfl⟩,hh.2⟩|exact⟨_,⟨hh.1,hh.2.1,rfl⟩,hh.2.2⟩|exact hh.elim
def LP{op:UnOp}{x:AV}{K K':AV->Prop}(h:∀ v,K v->K' v): AP op x K->AP op x K':=by
 unfold AP;split<;>intro hh<;>simp_all
def YJ{op:UnOp}{x:AV}{K:AV->Prop}: AP op x K-> ∃ v,AP op x (fun v'=>v'=v)/\K v:=by
 unfold AP;split<;>intro hh<;>simp_all
def bZ{x:Option AV}{d y:Nat}{K K':Nat->Prop}(h:∀ v,K v->K' v): bound x d y K->bound x d y K':=by
 unfold bound;split<;>intro hh<;>simp_all
def j0{x:Option AV}{d y:Nat}{K:Nat->Prop}: bound x d y K-> ∃ v,bound x d y (fun v'=>v'=v)/\K v:=by
 unfold bound;split<;>intro hh<;>simp_all
def Dm{el:El}{x:AV}{off:Nat}{ag:Bool}{n:Nat}{K K':AV->Prop}(h:∀ v,K v->K' v): partOf el x off ag n K->partOf el x off ag n K':=by
 unfold partOf;split
 ·exact h _
 ·rintro⟨h1,h2⟩;refine⟨h1,?_⟩;split at h2
  ·exact⟨h _ h2.1,h2.2⟩
  ·exact h2.elim
def Jr{el:El}{x:AV}{off:Nat}{ag:Bool}{n:Nat}{K:AV->Prop}: partOf el x off ag n K-> ∃ v,partOf el x off ag n (fun v'=>v'=v)/\K v:=by
 unfold partOf;split
 ·intro h;exact⟨_,rfl,h⟩
 ·rintro⟨h1,h2⟩;split at h2
  ·exact⟨_,⟨h1,rfl,h2.2⟩,h2.1⟩
  ·exact h2.elim
def iT{σ : ae}{l:Nat}{o:bx}(τ : ae)(h : σ[l]? = some o): (σ++ τ)[l]? = some o:=by
 rw[aN (aP.1 h).1];exact h
def kJ{σ : ae}{ag:Bool}{n:Nat}{p:AV}{K K':AV->Prop}(h:∀ v,K v->K' v): ia σ ag n p K->ia σ ag n p K':=by
 unfold ia;intro hh;split at hh
 ·split at hh
  ·exact⟨hh.1,hh.2.1,h _ hh.2.2⟩
  ·exact hh.elim
 ·exact Dm h hh
 ·split at hh
  ·exact⟨hh.1,hh.2.1,hh.2.2.1,Dm h hh.2.2.2⟩
  ·exact hh.elim
 ·exact hh.elim
def sw{σ : ae}{ag:Bool}{n:Nat}{p:AV}{K:AV->Prop}(hh:ia σ ag n p K): ∃ v,(∀ τ,ia (σ++ τ) ag n p (fun v'=>v'=v))/\K v:=by
 unfold ia at hh;split at hh
 ·split at hh
  ·rename_i h;exact⟨_,fun τ=>by simp only[ia,iT τ h];exact⟨hh.1,hh.2.1,trivial⟩,hh.2.2⟩
  ·exact hh.elim
 ·obtain⟨v,h1,h2⟩:=Jr hh;exact⟨v,fun τ=>h1,h2⟩
 ·split at hh
  ·rename_i h;obtain⟨v,h1,h2⟩:=Jr hh.2.2.2;exact⟨v,fun τ=>by simp only[ia,iT τ h];exact⟨hh.1,hh.2.1,hh.2.2.1,h1⟩,h2⟩
  ·exact hh.elim
 ·exact hh.elim
def tf{σ : ae}{n:Nat}{p v:AV}{K K':ae->Prop}(h:∀ v,K v->K' v): mL σ n p v K->mL σ n p v K':=by
 unfold mL;rintro⟨h1,h2,hh⟩;refine⟨h1,h2,?_⟩;split at hh
 ·split at hh
  ·exact⟨hh.1,h _ hh.2⟩
  ·exact hh.elim
 ·split at hh
  ·exact⟨hh.1,hh.2.1,hh.2.2.1,hh.2.2.2.1,hh.2.2.2.2.1,h _ hh.2.2.2.2.2⟩
  ·exact hh.elim
 ·exact hh.elim
def jJ{σ : ae}{el:El}{x:AV}{K K':List AV->Prop}(h:∀ v,K v->K' v): fZ σ el x K->fZ σ el x K':=by
 unfold fZ;intro hh;split at hh
 ·exact h _ hh
 ·exact⟨hh.1,h _ hh.2⟩
 ·refine⟨hh.1,?_⟩;have hh:=hh.2;split at hh
  ·exact⟨hh.1,hh.2.1,h _ hh.2.2⟩
  ·exact hh.elim
 ·exact⟨hh.1,h _ hh.2⟩
 ·exact⟨hh.1,hh.2.1,kJ (fun _=>h _) hh.2.2⟩
 ·exact hh.elim
def D7{σ : ae}{el:El}{x:AV}{K:List AV->Prop}(hh:fZ σ el x K): ∃ v,(∀ τ,fZ (σ++ τ) el x (fun v'=>v'=v))/\K v:=by
 unfold fZ at hh;split at hh
 ·exact⟨_,fun τ=>rfl,hh⟩
 ·exact⟨_,fun τ=>⟨hh.1,rfl⟩,hh.2⟩
 ·obtain⟨h0,hh⟩:=hh;split at hh
  ·rename_i h;exact⟨_,fun τ=>by simp only[fZ,iT τ h];exact⟨h0,hh.1,hh.2.1,trivial⟩,hh.2.2⟩
  ·exact hh.elim
 ·exact⟨_,fun τ=>⟨hh.1,rfl⟩,hh.2⟩
 ·obtain⟨h0,h1,hh⟩:=hh;obtain⟨v,h2,h3⟩:=sw hh;exact⟨_,fun τ=>⟨h0,h1,kJ (fun v' e=>congrArg AV.cells e) (h2 τ)⟩,h3⟩
 ·exact hh.elim
def Js{σ : ae}{T:Option TypeId}{el:El}{x y:AV}{K K':AV->ae->Prop}(h:∀ v s,K v s->K' v s): pH σ T el x y K->pH σ T el x y K':=by
 unfold pH;refine jJ fun ys hh=>⟨hh.1,?_⟩;have hh:=hh.2;split at hh
 ·split at hh
  ·simp_all
  ·rename_i h0;simp only[h0,if_false];exact⟨hh.1,h _ _ hh.2⟩
 ·refine⟨hh.1,?_⟩;have hh:=hh.2;split at hh
  ·rename_i h0;simp only[h0,if_true];exact h _ _ hh
  ·rename_i h0;simp only[h0,if_false];exact⟨hh.1,h _ _ hh.2⟩
 ·refine⟨hh.1,?_⟩;have hh:=hh.2;split at hh
  ·exact⟨hh.1,hh.2.1,hh.2.2.1,hh.2.2.2.1,hh.2.2.2.2.1,hh.2.2.2.2.2.1,h _ _ hh.2.2.2.2.2.2⟩
  ·exact hh.elim
 ·exact hh.elim
def Jt{op:Bool}{x y:AV}{K K':AV->Prop}(h:∀ v,K v->K' v): AS op x y K->AS op x y K':=by
 unfold AS;split<;>intro hh<;>simp_all
def Xo{op:Bool}{x y:AV}{K:AV->Prop}: AS op x y K-> ∃ v,AS op x y (fun v'=>v'=v)/\K v:=by
 unfold AS;split<;>intro hh<;>simp_all
def qT{op:Bool}{K K':AV->Prop}(h:∀ v,K v->K' v): ∀(ys:List AV) (x:AV),qf op x ys K->qf op x ys K'
 | [],x=>h x
 | y::ys,x=>Jt fun z=>qT h ys z
def D8{op:Bool}{K:AV->Prop}: ∀(ys:List AV) (x:AV),qf op x ys K-> ∃ v,qf op x ys (fun v'=>v'=v)/\K v
 | [],x=>fun h=>⟨x,rfl,h⟩
 | y :: ys, x => fun h => by
   obtain⟨z,h1,h2⟩:=Xo h;obtain⟨v,h3,h4⟩:=D8 ys z h2;exact⟨v,Jt (fun z' e=>by subst e;exact h3) h1,h4⟩
def xg{e:Env}{K K':List AV->Prop}(h:∀ v,K v->K' v): ∀(ps:List (Nat × Nat × AX)) (z:List AV),lg z e ps K->lg z e ps K'
 | [],z=>h z
 |(off,n,x)::r,z=>fun hh=>⟨hh.1,hh.2.1,hh.2.2.1,xg h r _ hh.2.2.2⟩
def Ju{e:Env}{K:List AV->Prop}: ∀(ps:List (Nat × Nat × AX)) (z:List AV),lg z e ps K-> ∃ v,lg z e ps (fun v'=>v'=v)/\K v
 | [],z=>fun h=>⟨z,rfl,h⟩
 | (off, n, x) :: r, z => fun hh => by
   obtain⟨v,h1,h2⟩:=Ju r _ hh.2.2.2;exact⟨v,⟨hh.1,hh.2.1,hh.2.2.1,h1⟩,h2⟩
def qU{el:El}{e:Env}{K K':List AV->Prop}(h:∀ v,K v->K' v): ∀(ps:List (Nat × AX)) (z:List AV),kr el z e ps K->kr el z e ps K'
 | [],z=>h z
 |(i,x)::r,z=>fun hh=>⟨hh.1,hh.2.1,qU h r _ hh.2.2⟩
def yQ{el:El}{e:Env}{K:List AV->Prop}: ∀(ps:List (Nat × AX)) (z:List AV),kr el z e ps K-> ∃ v,kr el z e ps (fun v'=>v'=v)/\K v
 | [],z=>fun h=>⟨z,rfl,h⟩
 | (i, x) :: r, z => fun hh => by
   obtain⟨v,h1,h2⟩:=yQ r _ hh.2.2;exact⟨v,⟨hh.1,hh.2.1,h1⟩,h2⟩
def AX.uses: AX->List Nat
 | .t n=>[n]
 | .c _=>[]
def AX.QE: Option AX->List Nat
 | some x=>x.uses
 | none=>[]
def AX.nZ(l:List AX): List Nat:=l.flatMap AX.uses
def br.uses: br->List Nat
 | .mv x | .box x | .vt _ x | .load _ _ x | .kI x | .un _ x | .ld _ x | .Pt x | .St x | .sj x | .CM _ x | .gQ _ x | .field _ _ _ x | .ext x _ | .len _ x | .panic x | .D3 x | .D4 x | .zZ _ x | .FE x | .FF _ x | .CN _ x=>x.uses
 | .pick c a b=>c.uses++a.uses++b.uses
 | .alloc _ _ | .jI _ | .hold=>[]
 | .ex _ xs=>AX.nZ xs
 | .kW k _ _=>[k]
 | .oS k _ _ x y=>k::(x.uses++y.uses)
 | .oU k _ _ x y=>k::(x.uses++y.uses)
 | .build _ ps=>AX.nZ (ps.map (·.2.2))
 | .iG _ _ _ _ ps=>AX.nZ (ps.map (·.2))
 | .store _ x v=>x.uses++v.uses
 | .bin _ x y | .oa _ _ _ x y | .eH _ _ x y | .fU x y | .xe _ _ x y | .app _ _ x y | .vq _ x y | .Dl _ x y | .mK _ _ x y | .oT _ _ x y=>x.uses++y.uses
 | .vp _ f c=>AX.nZ f++AX.nZ c
 | .lf x lo hi | .tF _ x lo hi=>x.uses++AX.QE lo++AX.QE hi
 | .call _ f args | .mJ f args=>f.uses++AX.nZ args
 | .min x xs | .max x xs=>x.uses++AX.nZ xs
def AX.ep{e e':Env}{x:AX}(h:∀ t ∈ x.uses,e t=e' t): x.ev e=x.ev e':=by
 cases x with
 | t n=>exact h n (by simp[AX.uses])
 | c a=>rfl
def AX.wD{e e':Env}{x:Option AX}(h:∀ t ∈ AX.QE x,e t=e' t): x.map (AX.ev e)=x.map (AX.ev e'):=by
 cases x with
 | none=>rfl
 | some x=>exact congrArg some (AX.ep h)
def AX.mT{e e':Env}{l:List AX}(h:∀ t ∈ AX.nZ l,e t=e' t): l.map (AX.ev e)=l.map (AX.ev e'):=by
 refine List.map_congr_left fun x hx=>AX.ep fun t ht=>h t ?_;exact List.mem_flatMap.2 ⟨x,hx,ht⟩
def AY{e e':Env}{K:List AV->Prop}: ∀(ps:List (Nat × Nat × AX)) (z:List AV),(∀ t ∈ AX.nZ (ps.map (·.2.2)),e t=e' t)->lg z e ps K=lg z e' ps K
 | [],z,_=>rfl
 | (off, n, x) :: r, z, h => by
   have h1:x.ev e=x.ev e':=AX.ep fun t ht=>h t (by simp[AX.nZ,ht]);simp only[lg,h1];rw[AY r _ fun t ht=>h t (by simp only[aR,AX.nZ,fQ,List.mem_append];exact .inr ht)]
def z6{el:El}{e e':Env}{K:List AV->Prop}: ∀(ps:List (Nat × AX)) (z:List AV),(∀ t ∈ AX.nZ (ps.map (·.2)),e t=e' t)->kr el z e ps K=kr el z e' ps K
 | [],z,_=>rfl
 | (i, x) :: r, z, h => by
   have h1:x.ev e=x.ev e':=AX.ep fun t ht=>h t (by simp[AX.nZ,ht]);simp only[kr,h1];rw[z6 r _ fun t ht=>h t (by simp only[aR,AX.nZ,fQ,List.mem_append];exact .inr ht)]
def qD{o:br}{e e':Env}{σ : ae}{K Kp:AV->ae->Prop}(h:∀ t ∈ o.uses,e t=e' t): o.run P e σ K Kp=o.run P e' σ K Kp:=by
 cases o<;>simp only[br.uses,List.mem_append]at h
 case build z ps=>exact AY ps _ h
 case iG mt el z n ps=>exact z6 ps _ h
 case ex o xs=>simp only[br.run,AX.mT h]
 case alloc=>rfl
 case jI=>rfl
 case hold=>rfl
 case kW k T cs=>simp only[br.run,h k (by simp)]
 case oS k T el x y=>simp only[br.run,h k (by simp),AX.ep (x:=x) (fun t ht=>h t (by simp[ht])),AX.ep (x:=y) (fun t ht=>h t (by simp[ht]))]
 case oU k el z x y=>simp only[br.run,h k (by simp),AX.ep (x:=x) (fun t ht=>h t (by simp[ht])),AX.ep (x:=y) (fun t ht=>h t (by simp[ht]))]
 case pick c a b=>simp only[br.run,AX.ep (fun t ht=>h t (.inl (.inl ht))),AX.ep (fun t ht=>h t (.inl (.inr ht))),AX.ep (fun t ht=>h t (.inr ht))]
 case vp f a b=>simp only[br.run,AX.mT (fun t ht=>h t (.inl ht)),AX.mT (fun t ht=>h t (.inr ht))]
 case lf x lo hi=>simp only[br.run,AX.ep (fun t ht=>h t (.inl (.inl ht))),AX.wD (fun t ht=>h t (.inl (.inr ht))),AX.wD (fun t ht=>h t (.inr ht))]
 case tF el x lo hi=>simp only[br.run,AX.ep (fun t ht=>h t (.inl (.inl ht))),AX.wD (fun t ht=>h t (.inl (.inr ht))),AX.wD (fun t ht=>h t (.inr ht))]
 case call q f args=>simp only[br.run,AX.ep (fun t ht=>h t (.inl ht)),AX.mT (fun t ht=>h t (.inr ht))]
 case mJ f args=>simp only[br.run,AX.ep (fun t ht=>h t (.inl ht)),AX.mT (fun t ht=>h t (.inr ht))]
 case min x xs=>simp only[br.run,AX.ep (fun t ht=>h t (.inl ht)),AX.mT (fun t ht=>h t (.inr ht))]
 case max x xs=>simp only[br.run,AX.ep (fun t ht=>h t (.inl ht)),AX.mT (fun t ht=>h t (.inr ht))]
 all_goals first
  | simp only[br.run,AX.ep h]
  | simp only[br.run,AX.ep (fun t ht=>h t (.inl ht)),AX.ep (fun t ht=>h t (.inr ht))]
inductive Cls where
 | pu|rd|al|st|ap|cw|no
deriving DecidableEq
def fI.cls: fI->Cls
 | .LK .. | .LL .. | .Ss ..=> .pu
 | .inv _ | .pc _=> .no
 | .HU .. | .HV | .LM _ | .LN _=> .rd
 | .Ly=> .al
 | .cw ..=> .cw
 | _=> .cw
def br.cls: br->Cls
 | .ex o _=>o.cls
 | .mv _ | .pick .. | .build .. | .kI _ | .bin .. | .oa .. | .un .. | .ld .. | .Pt _ | .CM .. | .vp .. | .lf .. | .gQ .. | .field .. | .fU .. | .xe .. | .ext .. | .len .. | .min .. | .max .. | .oT ..=> .pu
 | .iG mt ..=>if mt then .al else .pu
 | .load .. | .sj _ | .tF .. | .eH .. | .zZ ..=> .rd
 | .call q ..=>if q then .rd else .no
 | .alloc .. | .box _ | .vt .. | .St _ | .mK .. | .jI _=> .al
 | .store .. | .mJ .. | .kW .. | .oS .. | .oU ..=> .st
 | .app ..=> .ap
 | _=> .no
def iA{lo:Option AV}{hi mx:AV}{cap:Nat}{K K':Nat->Nat->Nat->Prop}(h:∀ a b c,K a b c->K' a b c): pO lo hi mx cap K->pO lo hi mx cap K' :=
 bZ fun _=>bZ fun _=>bZ fun _=>h _ _ _
def Jv{σ : ae}{el:El}{x:AV}{lo:Option AV}{hi mx:AV}{K K':AV->ae->Prop}(h:∀ v s,K v s->K' v s): AU σ el x lo hi mx K->AU σ el x lo hi mx K':=by
 unfold AU;split
 ·exact iA fun _ _ _=>h _ _
 ·exact fun hh=>⟨hh.1,iA (fun _ _ _=>h _ _) hh.2⟩
 ·refine fun hh=>⟨hh.1,?_⟩;have hh:=hh.2;split at hh
  ·refine⟨hh.1,hh.2.1,hh.2.2.1,iA (fun l b m=>?_) hh.2.2.2⟩;by_cases e:m=l
   ·simp only[e,if_true];exact h _ _
   ·simp only[e,if_false];exact fun k=>⟨k.1,h _ _ k.2⟩
  ·exact hh.elim
 ·exact id
def Sv{σ : ae}{el:El}{x y:AV}{K K':AV->ae->Prop}(h:∀ v s,K v s->K' v s): LO σ el x y K->LO σ el x y K':=by
 unfold LO;split
 ·refine fun hh=>⟨hh.1,jJ (fun ys hh=>⟨hh.1,?_⟩) hh.2⟩;have hh:=hh.2;split at hh
  ·exact⟨hh.1,hh.2.1,hh.2.2.1,hh.2.2.2.1,h _ _ hh.2.2.2.2⟩
  ·exact hh.elim
 ·exact Js h
def QG{σ : ae}{el:El}{x y:AV}{K K':AV->ae->Prop}(h:∀ v s,K v s->K' v s): Lz σ el x y K->Lz σ el x y K':=by
 unfold Lz;refine jJ fun ys hh=>⟨hh.1,?_⟩;have hh:=hh.2;unfold FG at *;split at hh
 ·exact h _ _ hh
 ·exact⟨hh.1,h _ _ hh.2⟩
 ·exact⟨hh.1,hh.2.1,tf (fun s=>h _ s) hh.2.2⟩
 ·refine⟨hh.1,?_⟩;have hh:=hh.2;split at hh
  ·exact⟨hh.1,hh.2.1,hh.2.2.1,h _ _ hh.2.2.2⟩
  ·exact hh.elim
 ·exact hh.elim
def tG{el:El}{n:Nat}{p:AV}{lo hi:Option AV}{K K':AV->Prop}(h:∀ v,K v->K' v): AW el n p lo hi K->AW el n p lo hi K' :=
 fun hh=>⟨hh.1,bZ (fun _=>bZ fun _=>h _) hh.2⟩
def yR{el:El}{x:AV}{lo:Option AV}{hi mx:AV}{K K':AV->Prop}(h:∀ v,K v->K' v): wC el x lo hi mx K->wC el x lo hi mx K':=by
 unfold wC;split
 ·exact iA fun _ _ _=>h _
 ·exact fun hh=>⟨hh.1,iA (fun _ _ _=>h _) hh.2⟩
 ·exact fun hh=>⟨hh.1,iA (fun _ _ _=>h _) hh.2⟩
 ·exact id
def QH{σ : ae}{el:El}{x y:AV}{K K':AV->Prop}(h:∀ v,K v->K' v): FH σ el x y K->FH σ el x y K':=by
 unfold FH;refine jJ fun ys hh=>⟨hh.1,hh.2.1,?_⟩;have hh:=hh.2.2;split at hh
 ·exact⟨hh.1,h _ hh.2⟩
 ·exact⟨hh.1,hh.2.1,h _ hh.2.2⟩
 ·exact hh.elim
def FJ{σ : ae}{x:AV}{K K':Bool->Prop}(h:∀ v,K v->K' v): yL σ x K->yL σ x K':=by
 unfold yL;split
 ·exact h _
 ·exact h _
 ·exact h _
 ·split
  ·exact fun hh=>⟨hh.1,hh.2.1,h _ hh.2.2⟩
  ·exact id
 ·exact id
def U2{σ : ae}{x:AV}{K:Bool->Prop}(hh:yL σ x K): ∃ v,(∀ τ,yL (σ++ τ) x (fun v'=>v'=v))/\K v:=by
 unfold yL at hh ⊢;split at hh
 ·exact⟨_,fun _=>rfl,hh⟩
 ·exact⟨_,fun _=>rfl,hh⟩
 ·exact⟨_,fun _=>rfl,hh⟩
 ·split at hh
  ·rename_i h1;exact⟨false,fun τ=>by simp only[iT τ h1];exact⟨hh.1,hh.2.1,trivial⟩,hh.2.2⟩
  ·exact hh.elim
 ·exact hh.elim
def Jw{T:TypeId}{ok:Bool}{z x:AV}{K K':AV->Prop}(h:∀ v,K v->K' v): yM T ok z x K->yM T ok z x K':=by
 unfold yM;split
 ·split
  ·exact h _
  ·exact fun hh=>⟨hh.1,h _ hh.2⟩
 ·exact fun hh=>⟨hh.1,h _ hh.2⟩
 ·exact id
def Sw{σ : ae}{n:Nat}{x:AV}{K K':AV->ae->Prop}(h:∀ v s,K v s->K' v s): D5 σ n x K->D5 σ n x K':=by
 unfold D5;split
 ·exact fun hh=>⟨hh.1,hh.2.1,hh.2.2.1,h _ _ hh.2.2.2⟩
 ·refine fun hh=>⟨hh.1,?_⟩;have hh:=hh.2;split at hh
  ·exact⟨hh.1,hh.2.1,hh.2.2.1,hh.2.2.2.1,hh.2.2.2.2.1,h _ _ hh.2.2.2.2.2⟩
  ·exact hh.elim
 ·exact id
def QI{σ : ae}{kd:Option IntKind}{zero x k:AV}{K K':AV->ae->Prop}(h:∀ v s,K v s->K' v s): yN σ kd zero x k K->yN σ kd zero x k K':=by
 unfold yN;split
 ·refine fun hh=>⟨hh.1,?_⟩;have hh:=hh.2;split at hh
  ·split at hh
   ·exact h _ _ hh
   ·exact h _ _ hh
   ·exact hh.elim
  ·exact hh.elim
 ·exact id
def FK{σ : ae}{x s v:AV}{K K':ae->Prop}(h:∀ s,K s->K' s): yO σ x s v K->yO σ x s v K':=by
 unfold yO;split
 ·split
  ·exact fun hh=>⟨hh.1,hh.2.1,h _ hh.2.2⟩
  ·exact id
 ·exact id
def Jx{σ : ae}{el:El}{zero x:AV}{K K':ae->Prop}(h:∀ s,K s->K' s): D6 σ el zero x K->D6 σ el zero x K':=by
 unfold D6;split
 ·exact h _
 ·exact h _
 ·refine fun hh=>⟨hh.1,hh.2.1,?_⟩;have hh:=hh.2.2;split at hh
  ·exact⟨hh.1,hh.2.1,hh.2.2.1,h _ hh.2.2.2⟩
  ·exact hh.elim
 ·exact id
def Xp{T:TypeId}{ok:Bool}{z x:AV}{K:AV->Prop}(hh:yM T ok z x K): ∃ v,yM T ok z x (fun v'=>v'=v)/\K v:=by
 unfold yM at hh ⊢;split at hh
 ·split at hh
  ·rename_i e;exact⟨_,by rw[if_pos e],hh⟩
  ·rename_i e;exact⟨_,by rw[if_neg e];exact⟨hh.1,rfl⟩,hh.2⟩
 ·exact⟨_,⟨hh.1,rfl⟩,hh.2⟩
 ·exact hh.elim
def Xq{σ : ae}{n:Nat}{x:AV}{K:AV->ae->Prop}(hh:D5 σ n x K): ∃ v σ',D5 σ n x (fun v' s'=>v'=v/\s' = σ')/\K v σ':=by
 unfold D5 at hh ⊢;split at hh
 ·exact⟨_,_,⟨hh.1,hh.2.1,hh.2.2.1,rfl,rfl⟩,hh.2.2.2⟩
 ·obtain⟨h0,hh⟩:=hh;split at hh
  ·exact⟨_,_,⟨h0,hh.1,hh.2.1,hh.2.2.1,hh.2.2.2.1,hh.2.2.2.2.1,rfl,rfl⟩,hh.2.2.2.2.2⟩
  ·exact hh.elim
 ·exact hh.elim
def U3{σ : ae}{kd:Option IntKind}{zero x k:AV}{K:AV->ae->Prop}(hh:yN σ kd zero x k K): ∃ v σ',yN σ kd zero x k (fun v' s'=>v'=v/\s' = σ')/\K v σ':=by
 unfold yN at hh ⊢;split at hh
 ·obtain⟨h0,hh⟩:=hh;split at hh
  ·split at hh
   ·exact⟨_,_,⟨h0,rfl,rfl⟩,hh⟩
   ·exact⟨_,_,⟨h0,rfl,rfl⟩,hh⟩
   ·exact hh.elim
  ·exact hh.elim
 ·exact hh.elim
def U4{σ : ae}{x s v:AV}{K:ae->Prop}(hh:yO σ x s v K): ∃ σ',yO σ x s v (fun s'=>s' = σ')/\K σ':=by
 unfold yO at hh ⊢;split at hh
 ·split at hh
  ·exact⟨_,⟨hh.1,hh.2.1,rfl⟩,hh.2.2⟩
  ·exact hh.elim
 ·exact hh.elim
def Sx{σ : ae}{x:AV}{K K':AV->ae->Prop}(h:∀ v s,K v s->K' v s): yP σ x K->yP σ x K':=by
 unfold yP;split
 ·exact h _ _
 ·exact h _ _
 ·split
  ·exact fun⟨a,b,c,d⟩=>⟨a,b,c,h _ _ d⟩
  ·exact id
 ·exact id
def Xr{σ : ae}{el:El}{zero x:AV}{K:ae->Prop}(hh:D6 σ el zero x K): ∃ σ',D6 σ el zero x (fun s'=>s' = σ')/\K σ':=by
 unfold D6 at hh ⊢;split at hh
 ·exact⟨_,rfl,hh⟩
 ·exact⟨_,rfl,hh⟩
 ·obtain⟨h0,h1,hh⟩:=hh;split at hh
  ·exact⟨_,⟨h0,h1,hh.1,hh.2.1,hh.2.2.1,rfl⟩,hh.2.2.2⟩
  ·exact hh.elim
 ·exact hh.elim
def fI.qp{o:fI}{vs:List AV}{σ : ae}{K K' Kp Sy:AV->ae->Prop}(h:∀ v s,K v s->K' v s)(hp:∀ v s,Kp v s->Sy v s): o.run P vs σ K Kp->o.run P vs σ K' Sy:=by
 unfold fI.run;split
 ·exact Jv h
 ·exact Jv h
 ·exact h _ _
 ·exact fun hh=>⟨hh.1,h _ _ hh.2⟩
 ·refine fun hh=>⟨hh.1,?_⟩;have hh:=hh.2;split at hh
  ·split at hh
   ·exact h _ _ hh
   ·exact h _ _ hh
   ·exact hh.elim
  ·exact hh.elim
 ·refine fun hh=>⟨hh.1,?_⟩;have hh:=hh.2;split at hh
  ·split at hh
   ·exact h _ _ hh
   ·exact hh.elim
  ·exact hh.elim
 ·exact h _ _
 ·split
  ·exact h _ _
  ·exact id
 ·exact tG fun v=>h v σ
 ·exact tG fun v=>h v σ
 ·exact tG fun v=>h v σ
 ·exact tG fun v=>h v σ
 ·exact QG h
 ·exact Sv h
 ·exact QH fun v=>h v σ
 ·exact FJ fun v=>h _ σ
 ·exact fun⟨r,s2,h1,h2,h3⟩=>⟨r,s2,h1,h2,h _ _ h3⟩
 ·exact yR fun v=>h v σ
 ·exact yR fun v=>h v σ
 ·split
  ·refine fun hh=>hh.mono fun o s=>?_;cases o
   ·exact h _ _
   ·exact hp _ _
  ·exact id
 ·exact Jw fun v=>h v σ
 ·exact Sw h
 ·exact QI h
 ·exact FK fun s=>h _ s
 ·exact Jx fun s=>h _ s
 ·rintro⟨o,h1,h2⟩;refine⟨o,h1,?_⟩;cases o
  ·exact h _ _ h2
  ·exact fun s=>hp _ _ (h2 s)
 ·exact Sx h
 ·exact id
def qp{o:br}{e:Env}{σ : ae}{K K' Kp Sy:AV->ae->Prop}(h:∀ v s,K v s->K' v s)(hp:∀ v s,Kp v s->Sy v s): o.run P e σ K Kp->o.run P e σ K' Sy:=by
 cases o<;>simp only[br.run]
 case ex o xs=>exact fI.qp h hp
 case mv x=>exact h _ _
 case alloc T cs=>exact h _ _
 case jI el=>exact h _ _
 case hold=>exact h _ _
 case vt=>exact fun hh=>⟨hh.1,h _ _ hh.2⟩
 case kW k T cs =>
  split
  ·split
   ·exact h _ _
   ·exact id
  ·exact id
 case oS k T el x y =>
  split
  ·split
   ·split
    ·exact fun hh=>⟨hh.1,hh.2.1,hh.2.2.1,h _ _ hh.2.2.2⟩
    ·exact id
   ·exact id
  ·exact id
 case oU k el z x y =>
  split
  ·split
   ·split
    ·exact fun hh=>⟨hh.1,hh.2.1,hh.2.2.1,hh.2.2.2.1,h _ _ hh.2.2.2.2⟩
    ·exact id
   ·exact id
  ·exact id
 case CM t x=>exact h _ _
 case vp f a b=>exact h _ _
 case box x=>exact fun hh=>⟨hh.1,h _ _ hh.2⟩
 case build z ps=>exact xg (fun v=>h _ _) _ _
 case iG mt el z n ps=>exact qU (fun v=>by split<;>exact h _ _) _ _
 case load ag n x=>exact kJ fun v=>h _ _
 case store n x v=>exact tf fun v=>h _ _
 case bin op x y=>exact Jq fun v=>h _ _
 case un op x=>exact LP fun v=>h _ _
 case app T el x y=>exact Js h
 case CN=>exact fun hh=>⟨hh.1,h _ _ hh.2⟩
 case zZ =>
  split
  ·exact h _ _
  ·refine fun hh=>⟨hh.1,?_⟩;have hh:=hh.2;split at hh
   ·exact⟨hh.1,hh.2.1,hh.2.2.1,h _ _ hh.2.2.2⟩
   ·exact hh.elim
  ·exact id
 case vq =>
  split
  ·exact fun hh=>⟨hh.1,h _ _ hh.2⟩
  ·refine fun hh=>⟨hh.1,hh.2.1,hh.2.2.1,?_⟩;have hh:=hh.2.2.2;split at hh
   ·obtain⟨a1,a2,a3,a4,a5,s,a6,a7⟩:=hh;exact⟨a1,a2,a3,a4,a5,s,a6,h _ _ a7⟩
   ·exact hh.elim
  ·exact id
 case FE =>
  split
  ·split
   ·exact fun hh=>⟨hh.1,h _ _ hh.2⟩
   ·exact id
  ·exact id
 case FF =>
  split
  ·split
   ·exact fun hh=>⟨hh.1,h _ _ hh.2⟩
   ·exact id
  ·exact id
 case Dl =>
  split
  ·refine fun hh=>⟨hh.1,hh.2.1,?_⟩;have hh:=hh.2.2;split at hh
   ·exact h _ _ hh
   ·exact hh.elim
  ·exact id
 case min x xs=>exact qT (fun v=>h _ _) _ _
 case max x xs=>exact qT (fun v=>h _ _) _ _
 case sj x=>exact fun hh=>⟨hh.1,jJ (fun v ⟨s,h1,h2⟩=>⟨s,h1,h _ _ h2⟩) hh.2⟩
 case pick c a b=>split<;>first|exact h _ _|exact id
 case kI x=>split<;>first|exact h _ _|exact id
 case oa=>split<;>first|exact h _ _|exact id
 case ld=>split<;>first|exact h _ _|exact id
 case Pt=>split<;>first|exact h _ _|exact id
 case oT=>split<;>first|exact h _ _|exact id
 case gQ=>split<;>first|exact h _ _|exact id
 case panic=>split<;>first|exact hp _ _|exact id
 case D3=>split<;>first|exact h _ _|exact id
 case D4 =>
  split
  ·split
   ·split<;>exact h _ _
   ·exact id
  ·exact id
 case len=>split<;>first|exact h _ _|exact id
 case St=>split<;>first|exact fun hh=>⟨hh.1,h _ _ hh.2⟩|exact id
 case ext=>split<;>first|exact fun hh=>⟨hh.1,h _ _ hh.2⟩|exact id
 case field=>split<;>first|exact fun hh=>⟨hh.1,hh.2.1,h _ _ hh.2.2⟩|exact id
 case fU=>split<;>first|exact fun hh=>⟨hh.1,hh.2.1,h _ _ hh.2.2⟩|exact id
 case xe=>split<;>first|exact fun hh=>⟨hh.1,hh.2.1,hh.2.2.1,hh.2.2.2.1,h _ _ hh.2.2.2.2⟩|exact id
 case mK=>split<;>first|exact fun hh=>⟨hh.1,hh.2.1,hh.2.2.1,hh.2.2.2.1,h _ _ hh.2.2.2.2⟩|exact id
 case lf x lo hi=>split<;>first|exact bZ (fun _=>bZ fun _=>h _ _)|exact id
 case tF el x lo hi =>
  split
  ·exact bZ (fun _=>bZ fun _=>h _ _)
  ·exact fun hh=>⟨hh.1,bZ (fun _=>bZ fun _=>h _ _) hh.2⟩
  ·refine fun hh=>⟨hh.1,?_⟩;have hh:=hh.2;split at hh
   ·exact⟨hh.1,hh.2.1,hh.2.2.1,bZ (fun _=>bZ fun _=>h _ _) hh.2.2.2⟩
   ·exact hh.elim
  ·exact id
 case eH el arr x i =>
  intro hh;split at hh
  ·split at hh
   ·exact⟨hh.1,hh.2.1,hh.2.2.1,h _ _ hh.2.2.2⟩
   ·refine⟨hh.1,hh.2.1,hh.2.2.1,?_⟩;have hh:=hh.2.2.2;split at hh
    ·exact⟨hh.1,hh.2.1,h _ _ hh.2.2⟩
    ·exact hh.elim
   ·exact⟨hh.1,hh.2.1,h _ _ hh.2.2⟩
   ·exact⟨hh.1,hh.2.1,h _ _ hh.2.2⟩
   ·exact⟨hh.1,hh.2.1,h _ _ hh.2.2⟩
   ·exact hh.elim
  ·exact hh.elim
 case mJ f args =>
  split
  ·unfold CL;split
   ·exact fun⟨l,ob,lI,r,h1,h2,h3,h4,h5⟩=>⟨l,ob,lI,r,h1,h2,h3,h4,h _ _ h5⟩
   ·exact id
  ·exact id
 case call q f args =>
  split
  ·split
   ·exact fun⟨r,h1,h2⟩=>⟨r,h1,h _ _ h2⟩
   ·exact fun hh=>hh.mono fun o s=>by cases o<;>first|exact h _ _|exact hp _ _
  ·split
   ·exact id
   ·exact fun hh=>hh.mono fun o s=>by cases o<;>first|exact h _ _|exact hp _ _
  ·exact id
abbrev Is(v:AV)(σ : ae): AV->ae->Prop:=fun v' σ'=>v'=v/\σ' = σ
abbrev No: AV->ae->Prop:=fun _ _=>False
def Xs{el:El}{n:Nat}{p:AV}{lo hi:Option AV}{K:AV->Prop}(hh:AW el n p lo hi K): ∃ v,AW el n p lo hi (fun v'=>v'=v)/\K v:=by
 obtain⟨v,h1,h2⟩:=j0 hh.2;obtain⟨u,h3,h4⟩:=j0 h2;exact⟨_,⟨hh.1,bZ (fun v' e=>by subst e;exact bZ (fun u' e=>by subst e;rfl) h3) h1⟩,h4⟩
def qE{lo:Option AV}{hi mx:AV}{cap:Nat}{K:Nat->Nat->Nat->Prop}(h:pO lo hi mx cap K): ∃ a b c,pO lo hi mx cap (fun a' b' c'=>a'=a/\b'=b/\c'=c)/\K a b c:=by
 obtain⟨m,h1,h2⟩:=j0 h;obtain⟨b,h3,h4⟩:=j0 h2;obtain⟨a,h5,h6⟩:=j0 h4;exact⟨a,b,m,bZ (fun m' e=>by subst e;exact bZ (fun b' e=>by subst e;exact bZ (fun a' e=>⟨e,rfl,rfl⟩) h5) h3) h1,h6⟩
def U5{el:El}{x:AV}{lo:Option AV}{hi mx:AV}{K:AV->Prop}(hh:wC el x lo hi mx K): ∃ v,wC el x lo hi mx (fun v'=>v'=v)/\K v:=by
 unfold wC at hh ⊢;split at hh
 ·obtain⟨a,b,c,h1,h2⟩:=qE hh;exact⟨_,iA (fun _ _ _ _=>rfl) h1,h2⟩
 ·obtain⟨a,b,c,h1,h2⟩:=qE hh.2;exact⟨_,⟨hh.1,iA (fun _ _ _ e=>by obtain⟨rfl,rfl,rfl⟩:=e;rfl) h1⟩,h2⟩
 ·obtain⟨a,b,c,h1,h2⟩:=qE hh.2;exact⟨_,⟨hh.1,iA (fun _ _ _ _=>rfl) h1⟩,h2⟩
 ·exact hh.elim
def fI.CP{o:fI}{vs:List AV}{σ : ae}{K Kp:AV->ae->Prop}(hc:o.cls = .pu)(hh:o.run P vs σ K Kp): ∃ v,(∀ σ',o.run P vs σ' (Is v σ') No)/\K v σ:=by
 cases o<;>simp only[fI.cls]at hc<;>(try (cases hc;done))
 ·unfold fI.run at hh ⊢
  split at hh<;>(try (rename_i h;cases h))<;>first
   |(obtain⟨v,h1,h2⟩:=Xs hh;exact⟨v,fun σ'=>tG (fun v' e=>⟨e,rfl⟩) h1,h2⟩)
   | exact hh.elim
 ·unfold fI.run at hh ⊢
  split at hh<;>(try (rename_i h;cases h))<;>first
   |(obtain⟨v,h1,h2⟩:=U5 hh;exact⟨v,fun σ'=>yR (fun v' e=>⟨e,rfl⟩) h1,h2⟩)
   | exact hh.elim
 ·unfold fI.run at hh ⊢
  split at hh<;>(try (rename_i h;cases h))<;>first
   |(obtain⟨v,h1,h2⟩:=Xp hh;exact⟨v,fun σ'=>Jw (fun v' e=>⟨e,rfl⟩) h1,h2⟩)
   | exact hh.elim
def fI.yS{o:fI}{vs:List AV}{σ : ae}{K Kp:AV->ae->Prop}(hc:o.cls = .rd)(hh:o.run P vs σ K Kp): ∃ v,(∀ τ,o.run P vs (σ++ τ) (Is v (σ++ τ)) No)/\K v σ:=by
 cases o<;>simp only[fI.cls]at hc<;>(try (cases hc;done))
 case LN neg =>
  unfold fI.run at hh ⊢;split at hh<;>(try (rename_i h;cases h))<;>(try exact hh.elim);obtain⟨v,h1,h2⟩:=U2 hh;exact⟨_,fun τ=>FJ (fun v' e=>by subst e;exact⟨rfl,rfl⟩) (h1 τ),h2⟩
 case LM el =>
  unfold fI.run at hh ⊢;split at hh<;>(try (rename_i h;cases h))<;>(try exact hh.elim);unfold FH at hh ⊢;obtain⟨ys,h1,h2,h3,h4⟩:=D7 hh;split at h4
  ·exact⟨_,fun τ=>jJ (fun zs (e:zs=ys)=>by subst e;exact⟨h2,h3,h4.1,rfl,rfl⟩) (h1 τ),h4.2⟩
  ·exact⟨_,fun τ=>jJ (fun zs (e:zs=ys)=>by subst e;exact⟨h2,h3,h4.1,h4.2.1,rfl,rfl⟩) (h1 τ),h4.2.2⟩
  ·exact h4.elim
 case HU kd ok zero =>
  unfold fI.run at hh ⊢;split at hh<;>(try (rename_i h;cases h))
  ·exact⟨_,fun τ=>⟨hh.1,rfl,rfl⟩,hh.2⟩
  ·obtain⟨h0,hh⟩:=hh;split at hh
   ·rename_i h1;split at hh
    ·rename_i h2;exact⟨_,fun τ=>by simp only[iT τ h1,h2];exact⟨h0,rfl,rfl⟩,hh⟩
    ·rename_i h2;exact⟨_,fun τ=>by simp only[iT τ h1,h2];exact⟨h0,rfl,rfl⟩,hh⟩
    ·exact hh.elim
   ·exact hh.elim
  ·exact hh.elim
 case HV =>
  unfold fI.run at hh ⊢;split at hh<;>(try (rename_i h;cases h))
  ·exact⟨_,fun τ=>⟨rfl,rfl⟩,hh⟩
  ·split at hh
   ·rename_i h1;exact⟨_,fun τ=>by simp only[iT τ h1];exact⟨rfl,rfl⟩,hh⟩
   ·exact hh.elim
  ·exact hh.elim
def fI.FL{o:fI}{vs:List AV}{σ : ae}{K Kp:AV->ae->Prop}(hc:o.cls = .al)(hh:o.run P vs σ K Kp): ∃ v τ,o.run P vs σ (Is v (σ++ τ)) No/\K v (σ++ τ):=by
 cases o<;>simp only[fI.cls]at hc<;>(try (cases hc;done));unfold fI.run at hh ⊢;split at hh<;>(try (rename_i h;cases h))
 ·exact⟨_,_,⟨rfl,rfl⟩,hh⟩
 ·exact hh.elim
def fI.FM{o:fI}: o.cls≠ .st/\o.cls≠ .ap:=by cases o<;>simp[fI.cls]
def CP{o:br}{e:Env}{σ : ae}{K Kp:AV->ae->Prop}(hc:o.cls = .pu)(hh:o.run P e σ K Kp): ∃ v,(∀ σ',o.run P e σ' (Is v σ') No)/\K v σ:=by
 cases o<;>simp only[br.cls]at hc<;>(try (cases hc;done))<;>simp only[br.run]at hh ⊢
 case ex o xs=>exact fI.CP hc hh
 case mv x=>exact⟨_,fun _=>⟨rfl,rfl⟩,hh⟩
 case CM t x=>exact⟨_,fun _=>⟨rfl,rfl⟩,hh⟩
 case vp f a b=>exact⟨_,fun _=>⟨rfl,rfl⟩,hh⟩
 case build z ps=>obtain⟨v,h1,h2⟩:=Ju _ _ hh;exact⟨_,fun _=>xg (fun v' e=>⟨congrArg AV.agg e,rfl⟩) _ _ h1,h2⟩
 case iG mt el z n ps =>
  cases mt
  ·obtain⟨v,h1,h2⟩:=yQ _ _ hh;simp only[Bool.false_eq_true,if_false]at h2 ⊢;exact⟨_,fun _=>qU (fun v' e=>⟨congrArg (AV.aF true el) e,rfl⟩) _ _ h1,h2⟩
  ·cases hc
 case bin op x y=>obtain⟨v,h1,h2⟩:=Xn hh;exact⟨v,fun _=>Jq (fun v' e=>⟨e,rfl⟩) h1,h2⟩
 case un op x=>obtain⟨v,h1,h2⟩:=YJ hh;exact⟨v,fun _=>LP (fun v' e=>⟨e,rfl⟩) h1,h2⟩
 case min x xs=>obtain⟨v,h1,h2⟩:=D8 _ _ hh;exact⟨v,fun _=>qT (fun v' e=>⟨e,rfl⟩) _ _ h1,h2⟩
 case max x xs=>obtain⟨v,h1,h2⟩:=D8 _ _ hh;exact⟨v,fun _=>qT (fun v' e=>⟨e,rfl⟩) _ _ h1,h2⟩
 case pick c a b=>split at hh<;>first|exact⟨_,fun _=>⟨rfl,rfl⟩,hh⟩|exact hh.elim
 case kI x=>split at hh<;>first|exact⟨_,fun _=>⟨rfl,rfl⟩,hh⟩|exact hh.elim
 case oa=>split at hh<;>first|exact⟨_,fun _=>⟨rfl,rfl⟩,hh⟩|exact hh.elim
 case ld=>split at hh<;>first|exact⟨_,fun _=>⟨rfl,rfl⟩,hh⟩|exact hh.elim
 case Pt=>split at hh<;>first|exact⟨_,fun _=>⟨rfl,rfl⟩,hh⟩|exact hh.elim
 case oT=>split at hh<;>first|exact⟨_,fun _=>⟨rfl,rfl⟩,hh⟩|exact hh.elim
 case gQ=>split at hh<;>first|exact⟨_,fun _=>⟨rfl,rfl⟩,hh⟩|exact hh.elim
 case len=>split at hh<;>first|exact⟨_,fun _=>⟨rfl,rfl⟩,hh⟩|exact hh.elim
 case ext=>split at hh<;>first|exact⟨_,fun _=>⟨hh.1,rfl,rfl⟩,hh.2⟩|exact hh.elim
 case field=>split at hh<;>first|exact⟨_,fun _=>⟨hh.1,hh.2.1,rfl,rfl⟩,hh.2.2⟩|exact hh.elim
 case fU=>split at hh<;>first|exact⟨_,fun _=>⟨hh.1,hh.2.1,rfl,rfl⟩,hh.2.2⟩|exact hh.elim
 case xe=>split at hh<;>first|exact⟨_,fun _=>⟨hh.1,hh.2.1,hh.2.2.1,hh.2.2.2.1,rfl,rfl⟩,hh.2.2.2.2⟩|exact hh.elim
 case lf x lo hi =>
  split at hh
  ·obtain⟨v,h1,h2⟩:=j0 hh;obtain⟨u,h3,h4⟩:=j0 h2;exact⟨_,fun _=>bZ (fun v' e=>by subst e;exact bZ (fun u' e=>by subst e;exact⟨rfl,rfl⟩) h3) h1,h4⟩
  ·exact hh.elim
 case call q f args=>split at hc<;>cases hc
def yS{o:br}{e:Env}{σ : ae}{K Kp:AV->ae->Prop}(hc:o.cls = .rd)(hh:o.run P e σ K Kp): ∃ v,(∀ τ,o.run P e (σ++ τ) (Is v (σ++ τ)) No)/\K v σ:=by
 cases o<;>simp only[br.cls]at hc<;>(try (cases hc;done))<;>simp only[br.run]at hh ⊢
 case ex o xs=>exact fI.yS hc hh
 case iG mt el z n ps=>split at hc<;>cases hc
 case load ag n x=>obtain⟨v,h1,h2⟩:=sw hh;exact⟨v,fun τ=>kJ (fun v' e=>⟨e,rfl⟩) (h1 τ),h2⟩
 case sj x =>
  obtain⟨v,h1,s,h2,h3⟩:=D7 hh.2;exact⟨_,fun τ=>⟨hh.1,jJ (fun v' (e:v'=v)=>⟨s,by rw[e];exact h2,rfl,rfl⟩) (h1 τ)⟩,h3⟩
 case zZ el x =>
  split at hh
  ·exact⟨_,fun _=>⟨rfl,rfl⟩,hh⟩
  ·obtain⟨h0,hh⟩:=hh;split at hh
   ·rename_i h;refine⟨_,fun τ=>⟨h0,?_⟩,hh.2.2.2⟩;simp only[iT τ h];exact⟨hh.1,hh.2.1,hh.2.2.1,by trivial⟩
   ·exact hh.elim
  ·exact hh.elim
 case tF el x lo hi =>
  split at hh
  ·obtain⟨v,h1,h2⟩:=j0 hh;obtain⟨u,h3,h4⟩:=j0 h2;exact⟨_,fun _=>bZ (fun v' e=>by subst e;exact bZ (fun u' e=>by subst e;exact⟨rfl,rfl⟩) h3) h1,h4⟩
  ·obtain⟨v,h1,h2⟩:=j0 hh.2;obtain⟨u,h3,h4⟩:=j0 h2;exact⟨_,fun _=>⟨hh.1,bZ (fun v' e=>by subst e;exact bZ (fun u' e=>by subst e;exact⟨rfl,rfl⟩) h3) h1⟩,h4⟩
  ·obtain⟨h0,hh⟩:=hh;split at hh
   ·rename_i h;obtain⟨v,h1,h2⟩:=j0 hh.2.2.2;obtain⟨u,h3,h4⟩:=j0 h2;refine⟨_,fun τ=>⟨h0,?_⟩,h4⟩;simp only[iT τ h];exact⟨hh.1,hh.2.1,hh.2.2.1,bZ (fun v' e=>by subst e;exact bZ (fun u' e=>by subst e;exact⟨rfl,rfl⟩) h3) h1⟩
   ·exact hh.elim
  ·exact hh.elim
 case eH el arr x i =>
  split at hh
  ·split at hh
   ·exact⟨_,fun τ=>⟨hh.1,hh.2.1,hh.2.2.1,rfl,rfl⟩,hh.2.2.2⟩
   ·obtain⟨h0,h1,h2,hh⟩:=hh;split at hh
    ·rename_i h;refine⟨_,fun τ=>⟨h0,h1,h2,?_⟩,hh.2.2⟩;simp only[iT τ h];exact⟨hh.1,hh.2.1,by trivial⟩
    ·exact hh.elim
   ·exact⟨_,fun τ=>⟨hh.1,hh.2.1,rfl,rfl⟩,hh.2.2⟩
   ·exact⟨_,fun τ=>⟨hh.1,hh.2.1,rfl,rfl⟩,hh.2.2⟩
   ·exact⟨_,fun τ=>⟨hh.1,hh.2.1,rfl,rfl⟩,hh.2.2⟩
   ·exact hh.elim
  ·exact hh.elim
 case call q f args =>
  cases q with
  | false=>cases hc
  | true =>
    split at hh
    ·simp only[if_true]at hh ⊢;obtain⟨r,h1,h2⟩:=hh;exact⟨r,fun τ=>⟨r,fun τ'=>by rw[List.append_assoc σ];exact h1 _,rfl,rfl⟩,h2⟩
    ·exact hh.elim
    ·exact hh.elim
def FL{o:br}{e:Env}{σ : ae}{K Kp:AV->ae->Prop}(hc:o.cls = .al)(hh:o.run P e σ K Kp): ∃ v τ,o.run P e σ (Is v (σ++ τ)) No/\K v (σ++ τ):=by
 cases o<;>simp only[br.cls]at hc<;>(try (cases hc;done))<;>simp only[br.run]at hh ⊢
 case ex o xs=>exact fI.FL hc hh
 case alloc T cs=>exact⟨_,_,⟨rfl,rfl⟩,hh⟩
 case vt=>exact⟨_,_,⟨hh.1,rfl,rfl⟩,hh.2⟩
 case jI el=>exact⟨_,_,⟨rfl,rfl⟩,hh⟩
 case box x=>exact⟨_,_,⟨hh.1,rfl,rfl⟩,hh.2⟩
 case St x=>split at hh<;>first|exact⟨_,_,⟨hh.1,rfl,rfl⟩,hh.2⟩|exact hh.elim
 case mK=>split at hh<;>first|exact⟨_,_,⟨hh.1,hh.2.1,hh.2.2.1,hh.2.2.2.1,rfl,rfl⟩,hh.2.2.2.2⟩|exact hh.elim
 case call q f args=>split at hc<;>cases hc
 case iG mt el z n ps =>
  cases mt
  ·cases hc
  ·obtain⟨v,h1,h2⟩:=yQ _ _ hh;simp only[if_true]at h2 ⊢;exact⟨_,_,qU (fun v' e=>by subst e;exact⟨rfl,rfl⟩) _ _ h1,h2⟩
def AZ{σ : ae}{n:Nat}{p v:AV}{K:ae->Prop}(hh:mL σ n p v K): ∃ l o o',σ[l]? = some o/\o.like o'/\p.obj=some l/\mL σ n p v (fun s=>s = σ.set l o')/\K (σ.set l o'):=by
 unfold mL at hh;obtain⟨h1,h2,hh⟩:=hh;split at hh
 ·split at hh
  ·rename_i h;exact⟨_,_,_,h,trivial,rfl,by simp only[mL,h];exact⟨h1,h2,hh.1,trivial⟩,hh.2⟩
  ·exact hh.elim
 ·split at hh
  ·rename_i h;obtain⟨e1,e2,e3,e4,e5,hK⟩:=hh;subst e1;exact⟨_,_,_,h,⟨_,rfl,by simp⟩,rfl,by simp only[mL,h];exact⟨h1,h2,trivial,e2,e3,e4,e5,trivial⟩,hK⟩
  ·exact hh.elim
 ·exact hh.elim
def aaW{o:br}{e:Env}{σ : ae}{K Kp:AV->ae->Prop}(hc:o.cls = .st)(hh:o.run P e σ K Kp): ∃ v σ',o.run P e σ (Is v σ') No/\K v σ':=by
 cases o<;>simp only[br.cls]at hc<;>(try (cases hc;done))<;>simp only[br.run]at hh ⊢
 case ex=>exact absurd hc fI.FM.1
 case iG=>split at hc<;>cases hc
 case call=>split at hc<;>cases hc
 case mJ f args =>
  split at hh
  ·unfold CL at *;split at hh
   ·obtain⟨l,ob,lI,r,h1,h2,h3,h4,h5⟩:=hh;exact⟨r,_,⟨l,ob,lI,r,h1,h2,h3,h4,rfl,rfl⟩,h5⟩
   ·exact hh.elim
  ·exact hh.elim
 case store n x v =>
  obtain⟨l,o,o',_,_,_,h1,h2⟩:=AZ hh;exact⟨_,_,tf (fun s e=>⟨rfl,e⟩) h1,h2⟩
 case kW k T cs =>
  split at hh
  ·rename_i n h1;split at hh
   ·rename_i h2;exact⟨_,_,⟨rfl,rfl⟩,hh⟩
   ·exact hh.elim
  ·exact hh.elim
 case oS k T el x y =>
  split at hh
  ·split at hh
   ·split at hh
    ·exact⟨_,_,⟨hh.1,hh.2.1,hh.2.2.1,rfl,rfl⟩,hh.2.2.2⟩
    ·exact hh.elim
   ·exact hh.elim
  ·exact hh.elim
 case oU k el z x y =>
  split at hh
  ·split at hh
   ·split at hh
    ·exact⟨_,_,⟨hh.1,hh.2.1,hh.2.2.1,hh.2.2.2.1,rfl,rfl⟩,hh.2.2.2.2⟩
    ·exact hh.elim
   ·exact hh.elim
  ·exact hh.elim
def WB{o:br}{e:Env}{σ : ae}{K Kp:AV->ae->Prop}(hc:o.cls = .ap)(hh:o.run P e σ K Kp): ∃ v σ',o.run P e σ (Is v σ') No/\K v σ':=by
 cases o<;>simp only[br.cls]at hc<;>(try (cases hc;done))<;>simp only[br.run]at hh ⊢
 case ex=>exact absurd hc fI.FM.2
 case iG=>split at hc<;>cases hc
 case call=>split at hc<;>cases hc
 case app T el x y =>
  have key:∀ ys:List AV,∀ K':AV->ae->Prop,(ys.all (fun a=>a.fits el)=true/\match x.ev e with
   | .ai=>if ys.length=0 then K' .ai σ else gE ys.length el/\K' (.own el σ.length ys.length 0 ys.length) (σ++[.cy T el ys])
   | .aF true bz xs=>bz=el/\if ys.length=0 then K' (.aF true el xs) σ else gE (xs.length+ys.length) el/\K' (.own el σ.length (xs.length+ys.length) 0 (xs.length+ys.length)) (σ++[.cy T el (xs++ys)])
   | .own bz l m lo n => bz = el /\ match σ[l]? with
     | some (.cy T' cK xs)=>(T'=none\/T'=T)/\cK=el/\m=xs.length/\lo=0/\n=xs.length/\gE (xs.length+ys.length) el/\K' (.own el l (xs.length+ys.length) 0 (xs.length+ys.length)) (σ.set l (.cy T' el (xs++ys)))
     | _=>False
   | _=>False)-> ∃ v σ',K' v σ'/\(ys.all (fun a=>a.fits el)=true/\match x.ev e with
   | .ai=>if ys.length=0 then Is v σ' .ai σ else gE ys.length el/\Is v σ' (.own el σ.length ys.length 0 ys.length) (σ++[.cy T el ys])
   | .aF true bz xs=>bz=el/\if ys.length=0 then Is v σ' (.aF true el xs) σ else gE (xs.length+ys.length) el/\Is v σ' (.own el σ.length (xs.length+ys.length) 0 (xs.length+ys.length)) (σ++[.cy T el (xs++ys)])
   | .own bz l m lo n => bz = el /\ match σ[l]? with
     | some (.cy T' cK xs)=>(T'=none\/T'=T)/\cK=el/\m=xs.length/\lo=0/\n=xs.length/\gE (xs.length+ys.length) el/\Is v σ' (.own el l (xs.length+ys.length) 0 (xs.length+ys.length)) (σ.set l (.cy T' el (xs++ys)))
     | _=>False
   | _=>False):=fun ys K'=>by
   rintro⟨h1,h2⟩;split at h2
   ·split at h2
    ·exact⟨_,_,h2,h1,by rw[if_pos (by assumption)];exact⟨rfl,rfl⟩⟩
    ·exact⟨_,_,h2.2,h1,by rw[if_neg (by assumption)];exact⟨h2.1,rfl,rfl⟩⟩
   ·obtain⟨rfl,h2⟩:=h2;split at h2
    ·exact⟨_,_,h2,h1,rfl,by rw[if_pos (by assumption)];exact⟨rfl,rfl⟩⟩
    ·exact⟨_,_,h2.2,h1,rfl,by rw[if_neg (by assumption)];exact⟨h2.1,rfl,rfl⟩⟩
   ·obtain⟨rfl,h2⟩:=h2;split at h2
    ·rename_i hk;refine⟨_,_,h2.2.2.2.2.2.2,h1,rfl,?_⟩;exact⟨h2.1,h2.2.1,h2.2.2.1,h2.2.2.2.1,h2.2.2.2.2.1,h2.2.2.2.2.2.1,rfl,rfl⟩
    ·exact h2.elim
   ·exact h2.elim
  have hh:fZ σ el (y.ev e) fun ys=> ∃ v σ',K v σ'/\_:=jJ (fun ys h=>key ys K h) hh
  have out:∀ {B:List AV->AV->ae->Prop},(fZ σ el (y.ev e) fun ys=> ∃ v σ',K v σ'/\B ys v σ')-> ∃ v σ',(fZ σ el (y.ev e) fun ys=>B ys v σ')/\K v σ':=fun {B} h=>by
   unfold fZ at *;split at h
   ·obtain⟨v,s,h1,h2⟩:=h;exact⟨v,s,h2,h1⟩
   ·obtain⟨h0,v,s,h1,h2⟩:=h;exact⟨v,s,⟨h0,h2⟩,h1⟩
   ·obtain⟨h0,h⟩:=h;split at h
    ·obtain⟨q1,q2,v,s,h1,h2⟩:=h;exact⟨v,s,⟨h0,q1,q2,h2⟩,h1⟩
    ·exact h.elim
   ·obtain⟨h0,v,s,h1,h2⟩:=h;exact⟨v,s,⟨h0,h2⟩,h1⟩
   ·obtain⟨h0,h0',h⟩:=h;obtain⟨u,h1,v,s,h2,h3⟩:=sw h;exact⟨v,s,⟨h0,h0',kJ (fun u' (e:u'=u)=>by subst e;exact h3) (by simpa using h1 [])⟩,h2⟩
   ·exact h.elim
  exact out hh
def Jy{σ : ae}{el:El}{x:AV}{K:List AV->Prop}(hh:fZ σ el x K): ∃ v,fZ σ el x (fun v'=>v'=v)/\K v:=by
 obtain⟨v,h1,h2⟩:=D7 hh;exact⟨v,by simpa using h1 [],h2⟩
def Xt{σ : ae}{T:Option TypeId}{el:El}{x y:AV}{K:AV->ae->Prop}(hh:pH σ T el x y K): ∃ v σ',pH σ T el x y (Is v σ')/\K v σ':=by
 have:=WB (P:=default) (o:= .app T el (.c x) (.c y)) (e:=fun _=> .undef) (σ:=σ) (K:=K) (Kp:=No) rfl hh;obtain⟨v,σ',h1,h2⟩:=this;exact⟨v,σ',h1,h2⟩
def Xu{σ : ae}{x:AV}{K:AV->ae->Prop}(hh:yP σ x K): ∃ v σ',yP σ x (Is v σ')/\K v σ':=by
 unfold yP at hh ⊢;split at hh
 ·exact⟨_,_,⟨rfl,rfl⟩,hh⟩
 ·exact⟨_,_,⟨rfl,rfl⟩,hh⟩
 ·split at hh
  ·exact⟨_,_,⟨hh.1,hh.2.1,hh.2.2.1,rfl,rfl⟩,hh.2.2.2⟩
  ·exact hh.elim
 ·exact hh.elim
def fI.det{o:fI}{vs:List AV}{σ : ae}{K Kp:AV->ae->Prop}(hni:o.cls≠ .no)(hh:o.run P vs σ K Kp): ∃ v σ',o.run P vs σ (Is v σ') No/\K v σ':=by
 cases o with
 | inv n=>exact absurd rfl hni
 | pc n=>exact absurd rfl hni
 | cw n k AO =>
   unfold fI.run at hh ⊢;split at hh<;>(try (rename_i h;cases h))<;>(try exact hh.elim);obtain⟨r,s2,h1,h2,h3⟩:=hh;exact⟨r,s2,⟨r,s2,h1,h2,rfl,rfl⟩,h3⟩
 | LN neg =>
   obtain⟨v,h1,h2⟩:=fI.yS (o:= .LN neg) rfl hh;exact⟨v,σ,by simpa using h1 [],h2⟩
 | LM el =>
   obtain⟨v,h1,h2⟩:=fI.yS (o:= .LM el) rfl hh;exact⟨v,σ,by simpa using h1 [],h2⟩
 | LL el lo =>
   obtain⟨v,h1,h2⟩:=fI.CP (o:= .LL el lo) rfl hh;exact⟨v,σ,h1 _,h2⟩
 | Ss T ok z =>
   obtain⟨v,h1,h2⟩:=fI.CP (o:= .Ss T ok z) rfl hh;exact⟨v,σ,h1 _,h2⟩
 | s2a n =>
   unfold fI.run at hh ⊢;split at hh<;>(try (rename_i h;cases h))<;>(try exact hh.elim);obtain⟨v,σ',h1,h2⟩:=Xq hh;exact⟨v,σ',h1,h2⟩
 | YE kd z =>
   unfold fI.run at hh ⊢;split at hh<;>(try (rename_i h;cases h))<;>(try exact hh.elim);obtain⟨v,σ',h1,h2⟩:=U3 hh;exact⟨v,σ',h1,h2⟩
 | YF =>
   unfold fI.run at hh ⊢;split at hh<;>(try (rename_i h;cases h))<;>(try exact hh.elim);obtain⟨σ',h1,h2⟩:=U4 hh;exact⟨_,σ',FK (fun s e=>⟨rfl,e⟩) h1,h2⟩
 | clr el z =>
   unfold fI.run at hh ⊢;split at hh<;>(try (rename_i h;cases h))<;>(try exact hh.elim);obtain⟨σ',h1,h2⟩:=Xr hh;exact⟨_,σ',Jx (fun s e=>⟨rfl,e⟩) h1,h2⟩
 | WA =>
   unfold fI.run at hh ⊢;split at hh<;>(try (rename_i h;cases h))<;>(try exact hh.elim);obtain⟨v,σ',h1,h2⟩:=Xu hh;exact⟨v,σ',h1,h2⟩
 | LK el n lo hi =>
   obtain⟨v,h1,h2⟩:=fI.CP (o:= .LK el n lo hi) rfl hh;exact⟨v,σ,h1 σ,h2⟩
 | HU kd ok zero =>
   obtain⟨v,h1,h2⟩:=fI.yS (o:= .HU kd ok zero) rfl hh;exact⟨v,σ,by simpa using h1 [],h2⟩
 | HV =>
   obtain⟨v,h1,h2⟩:=fI.yS (o:= .HV) rfl hh;exact⟨v,σ,by simpa using h1 [],h2⟩
 | Ly =>
   obtain⟨v,τ,h1,h2⟩:=fI.FL (o:= .Ly) rfl hh;exact⟨v,_,h1,h2⟩
 | Sr kd =>
   unfold fI.run at hh ⊢;split at hh<;>(try (rename_i h;cases h))<;>(try exact hh.elim);obtain⟨h0,hh⟩:=hh;split at hh
   ·rename_i h1;split at hh
    ·rename_i h2;refine⟨_,_,?_,hh⟩;exact⟨h0,rfl,rfl⟩
    ·exact hh.elim
   ·exact hh.elim
 | YD el lo =>
   have key:∀ {x:AV} {l:Option AV} {h m:AV},AU σ el x l h m K-> ∃ v σ',AU σ el x l h m (Is v σ')/\K v σ':=fun {x l h m} hh=>by
    unfold AU at hh ⊢;split at hh
    ·obtain⟨a,b,c,h1,h2⟩:=qE hh;exact⟨_,_,iA (fun _ _ _ _=>⟨rfl,rfl⟩) h1,h2⟩
    ·obtain⟨a,b,c,h1,h2⟩:=qE hh.2;exact⟨_,_,⟨hh.1,iA (fun _ _ _ e=>by obtain⟨rfl,rfl,rfl⟩:=e;exact⟨rfl,rfl⟩) h1⟩,h2⟩
    ·obtain⟨h0,hh⟩:=hh;split at hh
     ·rename_i hk;obtain⟨k1,k2,k3,hh⟩:=hh;obtain⟨a,b,c,h1,h2⟩:=qE hh;by_cases e:c=a
      ·rw[if_pos e]at h2;exact⟨_,_,⟨h0,k1,k2,k3,iA (fun _ _ _ e'=>by obtain⟨rfl,rfl,rfl⟩:=e';rw[if_pos e];exact⟨rfl,rfl⟩) h1⟩,h2⟩
      ·rw[if_neg e]at h2;exact⟨_,_,⟨h0,k1,k2,k3,iA (fun _ _ _ e'=>by obtain⟨rfl,rfl,rfl⟩:=e';rw[if_neg e];exact⟨h2.1,rfl,rfl⟩) h1⟩,h2.2⟩
     ·exact hh.elim
    ·exact hh.elim
   unfold fI.run at hh ⊢;split at hh<;>(try (rename_i h;cases h))<;>first|exact key hh|exact hh.elim
 | copy el =>
   unfold fI.run at hh ⊢;split at hh<;>(try (rename_i h;cases h))<;>(try exact hh.elim)
   ·rename_i x y;obtain⟨ys,h1,h2,h3⟩:=Jy hh
    have key:∃ v σ',FG σ el x ys (Is v σ')/\K v σ':=by
     unfold FG at h3 ⊢;split at h3
     ·exact⟨_,_,⟨rfl,rfl⟩,h3⟩
     ·exact⟨_,_,⟨h3.1,rfl,rfl⟩,h3.2⟩
     ·obtain⟨l,o,o',_,_,_,h4,h5⟩:=AZ h3.2.2;exact⟨_,_,⟨h3.1,h3.2.1,tf (fun s e=>⟨rfl,e⟩) h4⟩,h5⟩
     ·obtain⟨h0,h3⟩:=h3;split at h3
      ·exact⟨_,_,⟨h0,h3.1,h3.2.1,h3.2.2.1,rfl,rfl⟩,h3.2.2.2⟩
      ·exact h3.elim
     ·exact h3.elim
    obtain⟨v,σ',h4,h5⟩:=key;exact⟨v,σ',jJ (fun ys' (e:ys'=ys)=>by subst e;exact⟨h2,h4⟩) h1,h5⟩
 | apx el =>
   unfold fI.run at hh ⊢;split at hh<;>(try (rename_i h;cases h))<;>(try exact hh.elim)
   ·unfold LO at hh ⊢;split at hh
    ·obtain⟨h0,hh⟩:=hh;obtain⟨ys,h1,h2,h3⟩:=Jy hh;split at h3
     ·rename_i hk;refine⟨_,_,⟨h0,jJ (fun ys' (e:ys'=ys)=>⟨e ▸ h2,?_⟩) h1⟩,h3.2.2.2.2⟩;subst e;exact⟨h3.1,h3.2.1,h3.2.2.1,h3.2.2.2.1,rfl,rfl⟩
     ·exact h3.elim
    ·exact Xt hh
def br.D(P:Program)(o:br)(e:Env)(σ : ae)(v:AV)(σ':ae): Prop :=
 match o.cls with
 | .pu=>(∀ s,o.run P e s (Is v s) No)/\σ' = σ
 | .rd=>(∀ τ,o.run P e (σ++ τ) (Is v (σ++ τ)) No)/\σ' = σ
 | .al=>o.run P e σ (Is v σ') No
 | .st=>o.run P e σ (Is v σ') No
 | .ap=>o.run P e σ (Is v σ') No
 | .cw=>o.run P e σ (Is v σ') No
 | .no=>False
def qF{o:br}{e:Env}{σ : ae}{K Kp:AV->ae->Prop}{v:AV}{σ':ae}(hK:K v σ')(h:o.run P e σ (Is v σ') No): o.run P e σ K Kp :=
 qp (fun v' s h=>by obtain⟨e1,e2⟩:=h;subst e1;subst e2;exact hK) (fun _ _ h=>False.elim h) h
def aaX{o:br}{e:Env}{σ : ae}{K Kp:AV->ae->Prop}(hc:o.cls = .cw)(hh:o.run P e σ K Kp): ∃ v σ',o.run P e σ (Is v σ') No/\K v σ':=by
 cases o<;>simp only[br.cls]at hc<;>(try (cases hc;done))
 case iG=>split at hc<;>cases hc
 case call=>split at hc<;>cases hc
 case ex o xs=>exact fI.det (by rw[hc];decide) (show o.run P (xs.map (AX.ev e)) σ K Kp from hh)
def CQ{o:br}{e:Env}{σ : ae}{K Kp:AV->ae->Prop}(hc:o.cls≠ .no): o.run P e σ K Kp↔ ∃ v σ',o.D P e σ v σ'/\K v σ':=by
 unfold br.D;constructor
 ·intro hh;split
  ·rename_i h;obtain⟨v,h1,h2⟩:=CP h hh;exact⟨v,σ,⟨h1,rfl⟩,h2⟩
  ·rename_i h;obtain⟨v,h1,h2⟩:=yS h hh;exact⟨v,σ,⟨h1,rfl⟩,h2⟩
  ·rename_i h;obtain⟨v,τ,h1,h2⟩:=FL h hh;exact⟨v,_,h1,h2⟩
  ·rename_i h;exact aaW h hh
  ·rename_i h;exact WB h hh
  ·rename_i h;exact aaX h hh
  ·rename_i h;exact(hc h).elim
 ·rintro⟨v,σ',hD,hK⟩;split at hD
  ·obtain⟨h1,rfl⟩:=hD;exact qF hK (h1 _)
  ·obtain⟨h1,rfl⟩:=hD;have h2:=h1 [];rw[List.append_nil]at h2;exact qF hK h2
  ·exact qF hK hD
  ·exact qF hK hD
  ·exact qF hK hD
  ·exact qF hK hD
  ·exact hD.elim
def Pu{o:br}{e e':Env}{σ : ae}{v:AV}{σ':ae}(h:∀ t ∈ o.uses,e t=e' t)(hD:o.D P e σ v σ'): o.D P e' σ v σ':=by
 unfold br.D at *;split at hD
 ·exact⟨fun s=>by rw[<-qD h];exact hD.1 s,hD.2⟩
 ·exact⟨fun s=>by rw[<-qD h];exact hD.1 s,hD.2⟩
 ·rw[<-qD h];exact hD
 ·rw[<-qD h];exact hD
 ·rw[<-qD h];exact hD
 ·rw[<-qD h];exact hD
 ·exact hD.elim
def YK{o:br}{e:Env}{σ : ae}{v:AV}{σ':ae}(hc:o.cls = .pu\/o.cls = .rd)(hD:o.D P e σ v σ'): σ' = σ:=by
 unfold br.D at hD;rcases hc with hc|hc<;>simp only[hc]at hD<;>exact hD.2
def YL{o:br}{e:Env}{σ : ae}{v:AV}{σ':ae}(hc:o.cls = .pu\/o.cls = .rd)(hD:o.D P e σ v σ')(τ : ae): o.D P e (σ++ τ) v (σ++ τ):=by
 unfold br.D at *;rcases hc with hc|hc<;>simp only[hc]at hD ⊢
 ·exact⟨hD.1,trivial⟩
 ·exact⟨fun ae1=>by rw[List.append_assoc];exact hD.1 _,trivial⟩
def YM{o:br}{e:Env}{σ : ae}{v:AV}{σ':ae}(hc:o.cls = .pu)(hD:o.D P e σ v σ')(s:ae): o.D P e s v s:=by
 unfold br.D at *;simp only[hc]at hD ⊢;exact⟨hD.1,trivial⟩
def acy{o:br}{e:Env}{σ : ae}{v:AV}{σ':ae}(hc:o.cls = .al)(hD:o.D P e σ v σ'): ∃ τ,σ' = σ++ τ:=by
 unfold br.D at hD;simp only[hc]at hD;obtain⟨v',τ,_,h⟩:=FL hc hD;exact⟨τ,h.2.symm⟩
def br.oV: br->Option (Option AX)
 | .load _ _ x=>some (some x)
 | .tF .. | .eH ..=>some none
 | _=>none
def br.qt: br->Option AX
 | .store _ x _=>some x
 | .mJ _ (x::_)=>some x
 | .kW k _ _=>some (.t k)
 | .oS k _ _ _ _=>some (.t k)
 | .oU k _ _ _ _=>some (.t k)
 | .app _ _ x _=>some x
 | _=>none
def pP(p q:AV): Prop:= ∀ l,p.obj=some l->q.obj=some l->False
def Pv{σ τ : ae}{l:Nat}{o:bx}(h:l < σ.length): σ.set l o++ τ =(σ++ τ).set l o:=by
 rw[List.set_append_left _ _ h]
def Jz{σ : ae}{ag:Bool}{n:Nat}{p:AV}{K:AV->Prop}{l:Nat}{o:bx}(h:p.obj≠some l)(hh:ia σ ag n p K): ia (σ.set l o) ag n p K:=by
 unfold ia at *;split at hh
 ·rename_i l' off;have hne:l≠l':=fun e=>h (by rw[e];rfl);rw[List.getElem?_set_ne hne];exact hh
 ·exact hh
 ·rename_i el l' m i off;have hne:l≠l':=fun e=>h (by rw[e];rfl);rw[List.getElem?_set_ne hne];exact hh
 ·exact hh
def aaY {o : br} {e : Env} {σ : ae} {v : AV} {σ' : ae} {l : Nat} {ob lI : bx} {rx : Option AX} (hr : o.oV = some rx) (hl : σ[l]? = some ob) (FN : ob.like lI) (hap : ∀ x, rx = some x -> (x.ev e).obj ≠ some l) (hD : o.D P e σ v σ') :
    o.D P e (σ.set l lI) v (σ.set l lI):=by
 have hlt:l < σ.length:=(aP.1 hl).1;have hc:o.cls = .rd:=by cases o<;>simp[br.oV]at hr<;>rfl
 unfold br.D at *;simp only[hc]at hD ⊢;refine⟨fun τ=>?_,trivial⟩;have h:=hD.1 τ;rw[Pv hlt];have hl':(σ++ τ)[l]? = some ob:=iT τ hl;generalize σ++ τ = s at *;have A0:l<s.length:=(aP.1 hl').1
 have shape:∀ (k:Nat) (T:Option TypeId) (el:El) (xs:List AV),s[k]? = some (.cy T el xs)-> ∃ ys,(s.set l lI)[k]? = some (.cy T el ys)/\ys.length=xs.length:=fun k T el xs hk=>by
  by_cases oc:l=k
  ·subst oc;rw[hl']at hk;cases hk;obtain⟨ys,rfl,h2⟩:=FN;exact⟨ys,by simp[A0],h2⟩
  ·exact⟨xs,by rw[List.getElem?_set_ne oc];exact hk,rfl⟩
 cases o<;>simp only[br.oV]at hr<;>(try (cases hr;done))<;>simp only[br.run]at h ⊢
 case load ag n x =>
  cases hr;exact kJ (fun v' h=>⟨h.1,rfl⟩) (Jz (hap x rfl) h)
 case tF el x lo hi =>
  split at h
  ·exact bZ (fun _=>bZ fun _ h=>⟨h.1,rfl⟩) h
  ·exact⟨h.1,bZ (fun _=>bZ fun _ h=>⟨h.1,rfl⟩) h.2⟩
  ·refine⟨h.1,?_⟩;have h:=h.2;split at h
   ·rename_i hk;obtain⟨ys,h1,h2⟩:=shape _ _ _ _ hk;simp only[h1,h2];exact⟨h.1,h.2.1,h.2.2.1,bZ (fun _=>bZ fun _ h=>⟨h.1,rfl⟩) h.2.2.2⟩
   ·exact h.elim
  ·exact h
 case eH el arr x i =>
  split at h
  ·split at h
   ·exact⟨h.1,h.2.1,h.2.2.1,h.2.2.2.1,rfl⟩
   ·refine⟨h.1,h.2.1,h.2.2.1,?_⟩;have h:=h.2.2.2;split at h
    ·rename_i hk;obtain⟨ys,h1,h2⟩:=shape _ _ _ _ hk;simp only[h1,h2];exact⟨h.1,h.2.1,h.2.2.1,rfl⟩
    ·exact h.elim
   ·exact⟨h.1,h.2.1,h.2.2.1,rfl⟩
   ·exact⟨h.1,h.2.1,h.2.2.1,rfl⟩
   ·exact⟨h.1,h.2.1,h.2.2.1,rfl⟩
   ·exact h.elim
  ·exact h.elim
def YN{o:br}{e:Env}{σ : ae}{v:AV}{σ':ae}(hc:o.cls = .st)(hD:o.D P e σ v σ'): ∃ y l ob lI,o.qt=some y/\σ[l]? = some ob/\ob.like lI/\(y.ev e).obj=some l/\σ' = σ.set l lI:=by
 unfold br.D at hD;simp only[hc]at hD;cases o<;>simp only[br.cls]at hc<;>(try (cases hc;done))<;>simp only[br.run]at hD
 case ex=>exact absurd hc fI.FM.1
 case iG=>split at hc<;>cases hc
 case call=>split at hc<;>cases hc
 case mJ f args =>
  split at hD
  ·cases args with
   | nil=>exact hD.elim
   | cons x xs =>
     obtain⟨l,ob,lI,r,h1,h2,h3,_,h5⟩:=hD;exact⟨x,l,ob,lI,rfl,h2,h3,h1,h5.2.symm⟩
  ·exact hD.elim
 case store n x v =>
  obtain⟨l,ob,lI,h1,h2,h3,_,h5⟩:=AZ hD;exact⟨x,l,ob,lI,rfl,h1,h2,h3,h5.2.symm⟩
 case kW k T cs =>
  split at hD
  ·rename_i n h1;split at hD
   ·rename_i h2;refine⟨.t k,n,.resv,.bM T cs,rfl,h2,trivial,?_,hD.2.symm⟩;simp only[AX.ev,h1,AV.obj]
   ·exact hD.elim
  ·exact hD.elim
 case oS k T el x y =>
  split at hD
  ·rename_i n h1;split at hD
   ·rename_i h2;split at hD
    ·refine⟨.t k,n,.resv,.cy T el _,rfl,h2,trivial,?_,hD.2.2.2.2.symm⟩;simp only[AX.ev,h1,AV.obj]
    ·exact hD.elim
   ·exact hD.elim
  ·exact hD.elim
 case oU k el z x y =>
  split at hD
  ·rename_i n h1;split at hD
   ·rename_i h2;split at hD
    ·refine⟨.t k,n,.resv,.vec el _,rfl,h2,trivial,?_,hD.2.2.2.2.2.symm⟩;simp only[AX.ev,h1,AV.obj]
    ·exact hD.elim
   ·exact hD.elim
  ·exact hD.elim
def br.LA: br->Option Nat
 | .kW k _ _=>some k
 | .oS k _ _ _ _=>some k
 | .oU k _ _ _ _=>some k
 | _=>none
def WC {o : br} {k : Nat} {e : Env} {σ : ae} {v : AV} {σ' : ae} (h : o.LA = some k) (hD : o.D P e σ v σ') :
    ∃ n ob,e k = .ref n 0/\σ[n]? = some .resv/\ob≠ .resv/\σ' = σ.set n ob/\ ∀ s:ae,s[n]? = some .resv->o.D P e s v (s.set n ob):=by
 cases o<;>simp[br.LA]at h
 case kW k' T cs =>
  subst h;have hD:br.run P (.kW k' T cs) e σ (Is v σ') No:=hD;simp only[br.run]at hD;split at hD
  ·rename_i n h1;split at hD
   ·rename_i h2;refine⟨n,_,h1,h2,by simp,hD.2.symm,fun s hs=>?_⟩;show br.run P (.kW k' T cs) e s (Is v _) No;simp only[br.run,h1,hs];exact⟨hD.1,rfl⟩
   ·exact hD.elim
  ·exact hD.elim
 case oS k' T el x y =>
  subst h;have hD:br.run P (.oS k' T el x y) e σ (Is v σ') No:=hD;simp only[br.run]at hD;split at hD
  ·rename_i n h1;split at hD
   ·rename_i h2;split at hD
    ·rename_i ys h3;refine⟨n,_,h1,h2,by simp,hD.2.2.2.2.symm,fun s hs=>?_⟩;show br.run P (.oS k' T el x y) e s (Is v _) No;simp only[br.run,h1,hs,h3];exact⟨hD.1,hD.2.1,hD.2.2.1,hD.2.2.2.1,rfl⟩
    ·exact hD.elim
   ·exact hD.elim
  ·exact hD.elim
 case oU k' el z x y =>
  subst h;have hD:br.run P (.oU k' el z x y) e σ (Is v σ') No:=hD;simp only[br.run]at hD;split at hD
  ·rename_i n h1;split at hD
   ·rename_i h2;split at hD
    ·rename_i i m h3 h4;refine⟨n,_,h1,h2,by simp,hD.2.2.2.2.2.symm,fun s hs=>?_⟩;show br.run P (.oU k' el z x y) e s (Is v _) No;simp only[br.run,h1,hs,h3,h4];exact⟨hD.1,hD.2.1,hD.2.2.1,hD.2.2.2.1,hD.2.2.2.2.1,rfl⟩
    ·exact hD.elim
   ·exact hD.elim
  ·exact hD.elim
def br.nM: br->Option AX
 | .load _ _ x=>some x
 | .tF _ x _ _=>some x
 | .eH _ _ x _=>some x
 | _=>none
def FO{o:br}{x:AX}(h:o.nM=some x): o.cls = .rd:=by
 cases o<;>simp[br.nM]at h<;>rfl
def Pw{o:br}{e:Env}{σ : ae}{v:AV}{σ':ae}{x:AX}{l:Nat}{ob:bx}(hr:o.nM=some x)(hlt:l < σ.length)(hne:(x.ev e).obj≠some l)(hD:o.D P e σ v σ'): o.D P e (σ.set l ob) v (σ.set l ob):=by
 have hc:=FO hr;unfold br.D at *;simp only[hc]at hD ⊢;refine⟨fun τ=>?_,trivial⟩;have h:=hD.1 τ;rw[Pv hlt];generalize σ++ τ = s at *;cases o<;>simp only[br.nM]at hr<;>(try (cases hr;done))<;>cases hr<;>simp only[br.run]at h ⊢
 case load ag n =>
  exact kJ (fun v' h=>⟨h.1,rfl⟩) (Jz hne h)
 case tF el lo hi =>
  split at h
  ·exact bZ (fun _=>bZ fun _ h=>⟨h.1,rfl⟩) h
  ·exact⟨h.1,bZ (fun _=>bZ fun _ h=>⟨h.1,rfl⟩) h.2⟩
  ·rename_i bz l' m o n hx;have U6:l≠l':=fun e=>hne (by rw[hx,e];rfl);refine⟨h.1,?_⟩;have h:=h.2;rw[List.getElem?_set_ne U6];split at h
   ·rename_i hk;simp only[hk];exact⟨h.1,h.2.1,h.2.2.1,bZ (fun _=>bZ fun _ h=>⟨h.1,rfl⟩) h.2.2.2⟩
   ·exact h.elim
  ·exact h
 case eH el arr i =>
  split at h
  ·split at h
   ·exact⟨h.1,h.2.1,h.2.2.1,h.2.2.2.1,rfl⟩
   ·rename_i bz l' m o n hx;have U6:l≠l':=fun e=>hne (by rw[hx,e];rfl);refine⟨h.1,h.2.1,h.2.2.1,?_⟩;have h:=h.2.2.2;rw[List.getElem?_set_ne U6];split at h
    ·rename_i hk;simp only[hk];exact⟨h.1,h.2.1,h.2.2.1,rfl⟩
    ·exact h.elim
   ·exact⟨h.1,h.2.1,h.2.2.1,rfl⟩
   ·exact⟨h.1,h.2.1,h.2.2.1,rfl⟩
   ·exact⟨h.1,h.2.1,h.2.2.1,rfl⟩
   ·exact h.elim
  ·exact h.elim
def acz{o:br}{e:Env}{σ : ae}{v:AV}{σ':ae}(hc:o.cls = .ap)(hD:o.D P e σ v σ'): ∃ y,o.qt=some y/\((∃ τ,σ' = σ++ τ)\/ ∃ l ob,l < σ.length/\(y.ev e).obj=some l/\σ' = σ.set l ob):=by
 unfold br.D at hD;simp only[hc]at hD;cases o<;>simp only[br.cls]at hc<;>(try (cases hc;done))<;>simp only[br.run]at hD
 case ex=>exact absurd hc fI.FM.2
 case iG=>split at hc<;>cases hc
 case call=>split at hc<;>cases hc
 case app T el x y =>
  refine⟨x,rfl,?_⟩
  have key:∀ ys:List AV,(match x.ev e with
   | .ai=>if ys.length=0 then Is v σ' .ai σ else gE ys.length el/\Is v σ' (.own el σ.length ys.length 0 ys.length) (σ++[.cy T el ys])
   | .aF true bz xs=>bz=el/\if ys.length=0 then Is v σ' (.aF true el xs) σ else gE (xs.length+ys.length) el/\Is v σ' (.own el σ.length (xs.length+ys.length) 0 (xs.length+ys.length)) (σ++[.cy T el (xs++ys)])
   | .own bz l m lo n => bz = el /\ match σ[l]? with
     | some (.cy T' cK xs)=>(T'=none\/T'=T)/\cK=el/\m=xs.length/\lo=0/\n=xs.length/\gE (xs.length+ys.length) el/\Is v σ' (.own el l (xs.length+ys.length) 0 (xs.length+ys.length)) (σ.set l (.cy T' el (xs++ys)))
     | _=>False
   | _=>False)->(∃ τ,σ' = σ++ τ)\/ ∃ l ob,l < σ.length/\(x.ev e).obj=some l/\σ' = σ.set l ob:=fun ys h=>by
   split at h
   ·split at h
    ·exact .inl ⟨[],by rw[List.append_nil];exact h.2.symm⟩
    ·exact .inl ⟨_,h.2.2.symm⟩
   ·have h:=h.2;split at h
    ·exact .inl ⟨[],by rw[List.append_nil];exact h.2.symm⟩
    ·exact .inl ⟨_,h.2.2.symm⟩
   ·rename_i bz l m lo n hx;have h:=h.2;split at h
    ·rename_i hk;exact .inr ⟨l,_,(aP.1 hk).1,by rw[hx];rfl,h.2.2.2.2.2.2.2.symm⟩
    ·exact h.elim
   ·exact h.elim
  unfold pH fZ at hD;split at hD
  ·exact key _ hD.2
  ·exact key _ hD.2.2
  ·have hD:=hD.2;split at hD
   ·exact key _ hD.2.2.2
   ·exact hD.elim
  ·exact key _ hD.2.2
  ·obtain⟨u,_,h2⟩:=sw hD.2.2;exact key _ h2.2
  ·exact hD.elim
