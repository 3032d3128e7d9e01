/- Part. -/
import Derived.Test.YtdohdkdejmhgnaaGreatDoorY00
import Derived.Laws.Sem
set_option linter.all false
namespace Go.AM
variable {P:Program}
def Ls{op:BinOp}{x y:AV}{K K':AV->Prop}(h:∀ v,K v->K' v): jR op x y K->jR op x y K':=by
 unfold jR;split<;>intro hh<;>first|exact h _ hh|exact⟨hh.1,h _ hh.2⟩|exact⟨hh.1,hh.2.1,h _ hh.2.2⟩|exact hh.elim
def abo{op:BinOp}{x y:AV}{K:AV->Prop}: jR op x y K-> ∃ v,jR op x y (fun v'=>v'=v)/\K v:=by
 unfold jR;split<;>intro hh<;>first|exact⟨_,rfl,hh⟩|exact⟨_,⟨hh.1,rfl⟩,hh.2⟩|exact⟨_,⟨hh.1,hh.2.1,rfl⟩,hh.2.2⟩|exact hh.elim
def N3{op:UnOp}{x:AV}{K K':AV->Prop}(h:∀ v,K v->K' v): Cu op x K->Cu op x K':=by
 unfold Cu;split<;>intro hh<;>simp_all
def ade{op:UnOp}{x:AV}{K:AV->Prop}: Cu op x K-> ∃ v,Cu op x (fun v'=>v'=v)/\K v:=by
 unfold Cu;split<;>intro hh<;>simp_all
def cG{x:Option AV}{d y:Nat}{K K':Nat->Prop}(h:∀ v,K v->K' v): bound x d y K->bound x d y K':=by
 unfold bound;split<;>intro hh<;>simp_all
def kN{x:Option AV}{d y:Nat}{K:Nat->Prop}: bound x d y K-> ∃ v,bound x d y (fun v'=>v'=v)/\K v:=by
 unfold bound;split<;>intro hh<;>simp_all
def Gr{el:El}{x:AV}{off:Nat}{ag:Bool}{n:Nat}{K K':AV->Prop}(h:∀ v,K v->K' v): partOf el x off ag n K->partOf el x off ag n K':=by
 unfold partOf;split
 ·exact h _
 rintro⟨h1,h2⟩;refine⟨h1,?_⟩;split at h2
 ·exact⟨h _ h2.1,h2.2⟩
 exact h2.elim
def Lt{el:El}{x:AV}{off:Nat}{ag:Bool}{n:Nat}{K:AV->Prop}: partOf el x off ag n K-> ∃ v,partOf el x off ag n (fun v'=>v'=v)/\K v:=by
 unfold partOf;split
 ·intro h;exact⟨_,rfl,h⟩
 rintro⟨h1,h2⟩;split at h2
 ·exact⟨_,⟨h1,rfl,h2.2⟩,h2.1⟩
 exact h2.elim
def ju{σ : ai}{l:Nat}{o:bG}(H:ai)(h : σ[l]? = some o): (σ++H)[l]? = some o:=by
 rw[aO (aK.1 h).1];exact h
def kU{σ : ai}{ag:Bool}{n:Nat}{p:AV}{K K':AV->Prop}(h:∀ v,K v->K' v): gE σ ag n p K->gE σ ag n p K':=by
 unfold gE;intro hh;split at hh
 ·split at hh
  ·exact⟨hh.1,hh.2.1,h _ hh.2.2⟩
  exact hh.elim
 ·exact Gr h hh
 ·split at hh
  ·exact⟨hh.1,hh.2.1,hh.2.2.1,Gr h hh.2.2.2⟩
  exact hh.elim
 exact hh.elim
def oe{σ : ai}{ag:Bool}{n:Nat}{p:AV}{K:AV->Prop}(hh:gE σ ag n p K): ∃ v,(∀ H,gE (σ++H) ag n p (fun v'=>v'=v))/\K v:=by
 unfold gE at hh;split at hh
 ·split at hh
  ·rename_i h;exact⟨_,fun H=>by simp only[gE,ju H h];exact⟨hh.1,hh.2.1,trivial⟩,hh.2.2⟩
  exact hh.elim
 ·obtain⟨v,h1,h2⟩:=Lt hh;exact⟨v,fun H=>h1,h2⟩
 ·split at hh
  ·rename_i h;obtain⟨v,h1,h2⟩:=Lt hh.2.2.2;exact⟨v,fun H=>by simp only[gE,ju H h];exact⟨hh.1,hh.2.1,hh.2.2.1,h1⟩,h2⟩
  exact hh.elim
 exact hh.elim
def ud{σ : ai}{n:Nat}{p v:AV}{K K':ai->Prop}(h:∀ v,K v->K' v): mE σ n p v K->mE σ n p v K':=by
 unfold mE;rintro⟨h1,h2,hh⟩;refine⟨h1,h2,?_⟩;split at hh
 ·split at hh
  ·exact⟨hh.1,h _ hh.2⟩
  exact hh.elim
 ·split at hh
  ·exact⟨hh.1,hh.2.1,hh.2.2.1,hh.2.2.2.1,hh.2.2.2.2.1,h _ hh.2.2.2.2.2⟩
  exact hh.elim
 exact hh.elim
def ko{σ : ai}{el:El}{x:AV}{K K':List AV->Prop}(h:∀ v,K v->K' v): fL σ el x K->fL σ el x K':=by
 unfold fL;intro hh;split at hh
 ·exact h _ hh
 ·exact⟨hh.1,h _ hh.2⟩
 ·refine⟨hh.1,?_⟩;have hh:=hh.2;split at hh
  ·exact⟨hh.1,hh.2.1,h _ hh.2.2⟩
  exact hh.elim
 ·exact⟨hh.1,h _ hh.2⟩
 ·exact⟨hh.1,hh.2.1,kU (fun _=>h _) hh.2.2⟩
 exact hh.elim
def G_{σ : ai}{el:El}{x:AV}{K:List AV->Prop}(hh:fL σ el x K): ∃ v,(∀ H,fL (σ++H) el x (fun v'=>v'=v))/\K v:=by
 unfold fL at hh;split at hh
 ·exact⟨_,fun H=>rfl,hh⟩
 ·exact⟨_,fun H=>⟨hh.1,rfl⟩,hh.2⟩
 ·obtain⟨h0,hh⟩:=hh;split at hh
  ·rename_i h;exact⟨_,fun H=>by simp only[fL,ju H h];exact⟨h0,hh.1,hh.2.1,trivial⟩,hh.2.2⟩
  exact hh.elim
 ·exact⟨_,fun H=>⟨hh.1,rfl⟩,hh.2⟩
 ·obtain⟨h0,h1,hh⟩:=hh;obtain⟨v,h2,h3⟩:=oe hh;exact⟨_,fun H=>⟨h0,h1,kU (fun v' e=>bC AV.cells e) (h2 H)⟩,h3⟩
 exact hh.elim
def Lu{σ : ai}{T:Option TypeId}{el:El}{x y:AV}{K K':AV->ai->Prop}(h:∀ v s,K v s->K' v s): oc σ T el x y K->oc σ T el x y K':=by
 unfold oc;refine ko fun ys hh=>⟨hh.1,?_⟩;have hh:=hh.2;split at hh
 ·split at hh
  ·simp_all
  rename_i h0;simp only[h0,if_false];exact⟨hh.1,h _ _ hh.2⟩
 ·refine⟨hh.1,?_⟩;have hh:=hh.2;split at hh
  ·rename_i h0;simp only[h0,if_true];exact h _ _ hh
  rename_i h0;simp only[h0,if_false];exact⟨hh.1,h _ _ hh.2⟩
 ·refine⟨hh.1,?_⟩;have hh:=hh.2;split at hh
  ·exact⟨hh.1,hh.2.1,hh.2.2.1,hh.2.2.2.1,hh.2.2.2.2.1,hh.2.2.2.2.2.1,h _ _ hh.2.2.2.2.2.2⟩
  exact hh.elim
 exact hh.elim
def Lv{op:Bool}{x y:AV}{K K':AV->Prop}(h:∀ v,K v->K' v): Dp op x y K->Dp op x y K':=by
 unfold Dp;split<;>intro hh<;>simp_all
def abp{op:Bool}{x y:AV}{K:AV->Prop}: Dp op x y K-> ∃ v,Dp op x y (fun v'=>v'=v)/\K v:=by
 unfold Dp;split<;>intro hh<;>simp_all
def rY{op:Bool}{K K':AV->Prop}(h:∀ v,K v->K' v): ∀(ys:List AV) (x:AV),po op x ys K->po op x ys K'
 | [],x=>h x
 | y::ys,x=>Lv fun z=>rY h ys z
def He{op:Bool}{K:AV->Prop}: ∀(ys:List AV) (x:AV),po op x ys K-> ∃ v,po op x ys (fun v'=>v'=v)/\K v
 | [],x=>fun h=>⟨x,rfl,h⟩
 | y :: ys, x => fun h => by
   obtain⟨z,h1,h2⟩:=abp h;obtain⟨v,h3,h4⟩:=He ys z h2;exact⟨v,Lv (fun z' e=>by subst e;exact h3) h1,h4⟩
def zu{e:Env}{K K':List AV->Prop}(h:∀ v,K v->K' v): ∀(ps:List (Nat × Nat × AX)) (z:List AV),lP z e ps K->lP z e ps K'
 | [],z=>h z
 |(off,n,x)::r,z=>fun hh=>⟨hh.1,hh.2.1,hh.2.2.1,zu h r _ hh.2.2.2⟩
def Lw{e:Env}{K:List AV->Prop}: ∀(ps:List (Nat × Nat × AX)) (z:List AV),lP z e ps K-> ∃ v,lP z e ps (fun v'=>v'=v)/\K v
 | [],z=>fun h=>⟨z,rfl,h⟩
 | (off, n, x) :: r, z => fun hh => by
   obtain⟨v,h1,h2⟩:=Lw r _ hh.2.2.2;exact⟨v,⟨hh.1,hh.2.1,hh.2.2.1,h1⟩,h2⟩
def rZ{el:El}{e:Env}{K K':List AV->Prop}(h:∀ v,K v->K' v): ∀(ps:List (Nat × AX)) (z:List AV),kM el z e ps K->kM el z e ps K'
 | [],z=>h z
 |(i,x)::r,z=>fun hh=>⟨hh.1,hh.2.1,rZ h r _ hh.2.2⟩
def Bi{el:El}{e:Env}{K:List AV->Prop}: ∀(ps:List (Nat × AX)) (z:List AV),kM el z e ps K-> ∃ v,kM el z e ps (fun v'=>v'=v)/\K v
 | [],z=>fun h=>⟨z,rfl,h⟩
 | (i, x) :: r, z => fun hh => by
   obtain⟨v,h1,h2⟩:=Bi r _ hh.2.2;exact⟨v,⟨hh.1,hh.2.1,h1⟩,h2⟩
def AX.uses: AX->List Nat
 | .t n=>[n]
 | .c _=>[]
def AX.S_: Option AX->List Nat
 | some x=>x.uses
 | none=>[]
def AX.pq(l:List AX): List Nat:=l.flatMap AX.uses
def bf.uses: bf->List Nat
 | .mv x | .box x | .vo _ x | .load _ _ x | .p8 x | .un _ x | .n9 _ x | .N1 x | .N2 x | .yu x | .Bc _ x | .pn _ x | .field _ _ _ x | .ext x _ | .len _ x | .panic x | .Dm x | .Dn x | .z6 _ x | .Gp x | .Gq _ x | .Bd _ x=>x.uses
 | .pick c a b=>c.uses++a.uses++b.uses
 | .alloc _ _ | .nw _ | .hold=>[]
 | .ex _ xs=>AX.pq xs
 | .jO k _ _=>[k]
 | .n_ k _ _ x y=>k::(x.uses++y.uses)
 | .oa k _ _ x y=>k::(x.uses++y.uses)
 | .build _ ps=>AX.pq (ps.map (·.2.2))
 | .kG _ _ _ _ ps=>AX.pq (ps.map (·.2))
 | .store _ x v=>x.uses++v.uses
 | .bin _ x y | .rW _ _ _ x y | .jh _ _ x y | .mb x y | .wX _ _ x y | .app _ _ x y | .vi _ x y | .Dl _ x y | .l7 _ _ x y | .p_ _ _ x y=>x.uses++y.uses
 | .vg _ f c=>AX.pq f++AX.pq c
 | .vD x lo hi | .Ct _ x lo hi=>x.uses++AX.S_ lo++AX.S_ hi
 | .call _ f args | .qG f args=>f.uses++AX.pq args
 | .min x xs | .max x xs=>x.uses++AX.pq xs
def AX.eX{e e':Env}{x:AX}(h:∀ t ∈ x.uses,e t=e' t): x.ev e=x.ev e':=by
 cases x with
 | t n=>exact h n (by simp[AX.uses])
 | c a=>rfl
def AX.yw{e e':Env}{x:Option AX}(h:∀ t ∈ AX.S_ x,e t=e' t): x.map (AX.ev e)=x.map (AX.ev e'):=by
 cases x with
 | none=>rfl
 | some x=>exact bC some (AX.eX h)
def AX.n5{e e':Env}{l:List AX}(h:∀ t ∈ AX.pq l,e t=e' t): l.map (AX.ev e)=l.map (AX.ev e'):=by
 refine List.map_congr_left fun x hx=>AX.eX fun t ht=>h t ?_;exact List.mem_flatMap.2 ⟨x,hx,ht⟩
def Dq{e e':Env}{K:List AV->Prop}: ∀(ps:List (Nat × Nat × AX)) (z:List AV),(∀ t ∈ AX.pq (ps.map (·.2.2)),e t=e' t)->lP z e ps K=lP z e' ps K
 | [],z,_=>rfl
 | (off, n, x) :: r, z, h => by
   have h1:x.ev e=x.ev e':=AX.eX fun t ht=>h t (by simp[AX.pq,ht]);simp only[lP,h1];rw[Dq r _ fun t ht=>h t (by simp only[bN,AX.pq,List.flatMap_cons,List.mem_append];exact .inr ht)]
def Cv{el:El}{e e':Env}{K:List AV->Prop}: ∀(ps:List (Nat × AX)) (z:List AV),(∀ t ∈ AX.pq (ps.map (·.2)),e t=e' t)->kM el z e ps K=kM el z e' ps K
 | [],z,_=>rfl
 | (i, x) :: r, z, h => by
   have h1:x.ev e=x.ev e':=AX.eX fun t ht=>h t (by simp[AX.pq,ht]);simp only[kM,h1];rw[Cv r _ fun t ht=>h t (by simp only[bN,AX.pq,List.flatMap_cons,List.mem_append];exact .inr ht)]
def rF{o:bf}{e e':Env}{σ : ai}{K Kp:AV->ai->Prop}(h:∀ t ∈ o.uses,e t=e' t): o.run P e σ K Kp=o.run P e' σ K Kp:=by
 cases o<;>simp only[bf.uses,List.mem_append]at h
 case build z ps=>exact Dq ps _ h
 case kG mt el z n ps=>exact Cv ps _ h
 case ex o xs=>simp only[bf.run,AX.n5 h]
 case alloc=>rfl
 case nw=>rfl
 case hold=>rfl
 case jO k T cs=>simp only[bf.run,h k aT]
 case n_ k T el x y=>simp only[bf.run,h k aT,AX.eX (x:=x) (fun t ht=>h t (by simp[ht])),AX.eX (x:=y) (fun t ht=>h t (by simp[ht]))]
 case oa k el z x y=>simp only[bf.run,h k aT,AX.eX (x:=x) (fun t ht=>h t (by simp[ht])),AX.eX (x:=y) (fun t ht=>h t (by simp[ht]))]
 case pick c a b=>simp only[bf.run,AX.eX (fun t ht=>h t (.inl (.inl ht))),AX.eX (fun t ht=>h t (.inl (.inr ht))),AX.eX (fun t ht=>h t (.inr ht))]
 case vg f a b=>simp only[bf.run,AX.n5 (fun t ht=>h t (.inl ht)),AX.n5 (fun t ht=>h t (.inr ht))]
 case vD x lo hi=>simp only[bf.run,AX.eX (fun t ht=>h t (.inl (.inl ht))),AX.yw (fun t ht=>h t (.inl (.inr ht))),AX.yw (fun t ht=>h t (.inr ht))]
 case Ct el x lo hi=>simp only[bf.run,AX.eX (fun t ht=>h t (.inl (.inl ht))),AX.yw (fun t ht=>h t (.inl (.inr ht))),AX.yw (fun t ht=>h t (.inr ht))]
 case call q f args=>simp only[bf.run,AX.eX (fun t ht=>h t (.inl ht)),AX.n5 (fun t ht=>h t (.inr ht))]
 case qG f args=>simp only[bf.run,AX.eX (fun t ht=>h t (.inl ht)),AX.n5 (fun t ht=>h t (.inr ht))]
 case min x xs=>simp only[bf.run,AX.eX (fun t ht=>h t (.inl ht)),AX.n5 (fun t ht=>h t (.inr ht))]
 case max x xs=>simp only[bf.run,AX.eX (fun t ht=>h t (.inl ht)),AX.n5 (fun t ht=>h t (.inr ht))]
 all_goals first
  | simp only[bf.run,AX.eX h]
  | simp only[bf.run,AX.eX (fun t ht=>h t (.inl ht)),AX.eX (fun t ht=>h t (.inr ht))]
inductive Cls where
 | pu|rd|al|st|ap|cw|no
deriving DecidableEq
def ef.cls: ef->Cls
 | .Ik .. | .G7 .. | .RO ..=> .pu
 | .inv _ | .pc _ | .G9 _=> .no
 | .Bb .. | .Dj | .G8 _ | .Dk _=> .rd
 | .Fv=> .al
 | .cw ..=> .cw
 | _=> .cw
def bf.cls: bf->Cls
 | .ex o _=>o.cls
 | .mv _ | .pick .. | .build .. | .p8 _ | .bin .. | .rW .. | .un .. | .n9 .. | .N1 _ | .Bc .. | .vg .. | .vD .. | .pn .. | .field .. | .mb .. | .wX .. | .ext .. | .len .. | .min .. | .max .. | .p_ ..=> .pu
 | .kG mt ..=>if mt then .al else .pu
 | .load .. | .yu _ | .Ct .. | .jh .. | .z6 ..=> .rd
 | .call q ..=>if q then .rd else .no
 | .alloc .. | .box _ | .vo .. | .N2 _ | .l7 .. | .nw _=> .al
 | .store .. | .qG .. | .jO .. | .n_ .. | .oa ..=> .st
 | .app ..=> .ap
 | _=> .no
def iF{lo:Option AV}{hi mx:AV}{cap:Nat}{K K':Nat->Nat->Nat->Prop}(h:∀ a b c,K a b c->K' a b c): mc lo hi mx cap K->mc lo hi mx cap K' :=
 cG fun _=>cG fun _=>cG fun _=>h _ _ _
def Ly{σ : ai}{el:El}{x:AV}{lo:Option AV}{hi mx:AV}{K K':AV->ai->Prop}(h:∀ v s,K v s->K' v s): wY σ el x lo hi mx K->wY σ el x lo hi mx K':=by
 unfold wY;split
 ·exact iF fun _ _ _=>h _ _
 ·exact fun hh=>⟨hh.1,iF (fun _ _ _=>h _ _) hh.2⟩
 ·refine fun hh=>⟨hh.1,?_⟩;have hh:=hh.2;split at hh
  ·refine⟨hh.1,hh.2.1,hh.2.2.1,iF (fun l b m=>?_) hh.2.2.2⟩;by_cases e:m=l
   ·simp only[e,if_true];exact h _ _
   simp only[e,if_false];exact fun k=>⟨k.1,h _ _ k.2⟩
  exact hh.elim
 exact id
def Vr{σ : ai}{el:El}{x y:AV}{K K':AV->ai->Prop}(h:∀ v s,K v s->K' v s): zo σ el x y K->zo σ el x y K':=by
 unfold zo;split
 ·refine fun hh=>⟨hh.1,ko (fun ys hh=>⟨hh.1,?_⟩) hh.2⟩;have hh:=hh.2;split at hh
  ·exact⟨hh.1,hh.2.1,hh.2.2.1,hh.2.2.2.1,h _ _ hh.2.2.2.2⟩
  exact hh.elim
 exact Lu h
def Ta{σ : ai}{el:El}{x y:AV}{K K':AV->ai->Prop}(h:∀ v s,K v s->K' v s): Io σ el x y K->Io σ el x y K':=by
 unfold Io;refine ko fun ys hh=>⟨hh.1,?_⟩;have hh:=hh.2;unfold wZ at *;split at hh
 ·exact h _ _ hh
 ·exact⟨hh.1,h _ _ hh.2⟩
 ·exact⟨hh.1,hh.2.1,ud (fun s=>h _ s) hh.2.2⟩
 ·refine⟨hh.1,?_⟩;have hh:=hh.2;split at hh
  ·exact⟨hh.1,hh.2.1,hh.2.2.1,h _ _ hh.2.2.2⟩
  exact hh.elim
 exact hh.elim
def uG{el:El}{n:Nat}{p:AV}{lo hi:Option AV}{K K':AV->Prop}(h:∀ v,K v->K' v): zp el n p lo hi K->zp el n p lo hi K' :=
 fun hh=>⟨hh.1,cG (fun _=>cG fun _=>h _) hh.2⟩
def Bj{el:El}{x:AV}{lo:Option AV}{hi mx:AV}{K K':AV->Prop}(h:∀ v,K v->K' v): rX el x lo hi mx K->rX el x lo hi mx K':=by
 unfold rX;split
 ·exact iF fun _ _ _=>h _
 ·exact fun hh=>⟨hh.1,iF (fun _ _ _=>h _) hh.2⟩
 ·exact fun hh=>⟨hh.1,iF (fun _ _ _=>h _) hh.2⟩
 exact id
def Tb{σ : ai}{el:El}{x y:AV}{K K':AV->Prop}(h:∀ v,K v->K' v): Fx σ el x y K->Fx σ el x y K':=by
 unfold Fx;refine ko fun ys hh=>⟨hh.1,hh.2.1,?_⟩;have hh:=hh.2.2;split at hh
 ·exact⟨hh.1,h _ hh.2⟩
 ·exact⟨hh.1,hh.2.1,h _ hh.2.2⟩
 exact hh.elim
def Bk{σ : ai}{x:AV}{K K':Bool->Prop}(h:∀ v,K v->K' v): qY σ x K->qY σ x K':=by
 unfold qY;split
 ·exact h _
 ·exact h _
 ·exact h _
 ·split
  ·exact fun hh=>⟨hh.1,hh.2.1,h _ hh.2.2⟩
  exact id
 exact id
def Tc{σ : ai}{x:AV}{K K':Bool->Prop}(h:∀ v,K v->K' v): Fy σ x K->Fy σ x K':=by
 unfold Fy;split
 ·exact fun hh=>⟨h _ hh.1,h _ hh.2⟩
 exact Bk h
def Yt{σ : ai}{x:AV}{K:Bool->Prop}(hh:qY σ x K): ∃ v,(∀ H,qY (σ++H) x (fun v'=>v'=v))/\K v:=by
 unfold qY at hh |-;split at hh
 ·exact⟨_,fun _=>rfl,hh⟩
 ·exact⟨_,fun _=>rfl,hh⟩
 ·exact⟨_,fun _=>rfl,hh⟩
 ·split at hh
  ·rename_i h1;exact⟨false,fun H=>by simp only[ju H h1];exact⟨hh.1,hh.2.1,trivial⟩,hh.2.2⟩
  exact hh.elim
 exact hh.elim
def LA{T:TypeId}{ok:Bool}{z x:AV}{K K':AV->Prop}(h:∀ v,K v->K' v): zq T ok z x K->zq T ok z x K':=by
 unfold zq;split
 ·split
  ·exact h _
  exact fun hh=>⟨hh.1,h _ hh.2⟩
 ·exact fun hh=>⟨hh.1,h _ hh.2⟩
 exact id
def Vs{σ : ai}{n:Nat}{x:AV}{K K':AV->ai->Prop}(h:∀ v s,K v s->K' v s): Bf σ n x K->Bf σ n x K':=by
 unfold Bf;split
 ·exact fun hh=>⟨hh.1,hh.2.1,hh.2.2.1,h _ _ hh.2.2.2⟩
 ·refine fun hh=>⟨hh.1,?_⟩;have hh:=hh.2;split at hh
  ·exact⟨hh.1,hh.2.1,hh.2.2.1,hh.2.2.2.1,hh.2.2.2.2.1,h _ _ hh.2.2.2.2.2⟩
  exact hh.elim
 exact id
def Td{σ : ai}{kd:Option IntKind}{zero x k:AV}{K K':AV->ai->Prop}(h:∀ v s,K v s->K' v s): vZ σ kd zero x k K->vZ σ kd zero x k K':=by
 unfold vZ;split
 ·refine fun hh=>⟨hh.1,?_⟩;have hh:=hh.2;split at hh
  ·split at hh
   ·exact h _ _ hh
   ·exact h _ _ hh
   exact hh.elim
  exact hh.elim
 exact id
def Ip{σ : ai}{x s v:AV}{K K':ai->Prop}(h:∀ s,K s->K' s): uc σ x s v K->uc σ x s v K':=by
 unfold uc;split
 ·split
  ·exact fun hh=>⟨hh.1,hh.2.1,h _ hh.2.2⟩
  exact id
 exact id
def LB{σ : ai}{el:El}{zero x:AV}{K K':ai->Prop}(h:∀ s,K s->K' s): Bg σ el zero x K->Bg σ el zero x K':=by
 unfold Bg;split
 ·exact h _
 ·exact h _
 ·refine fun hh=>⟨hh.1,hh.2.1,?_⟩;have hh:=hh.2.2;split at hh
  ·exact⟨hh.1,hh.2.1,hh.2.2.1,h _ hh.2.2.2⟩
  exact hh.elim
 exact id
def abq{T:TypeId}{ok:Bool}{z x:AV}{K:AV->Prop}(hh:zq T ok z x K): ∃ v,zq T ok z x (fun v'=>v'=v)/\K v:=by
 unfold zq at hh |-;split at hh
 ·split at hh
  ·rename_i e;exact⟨_,by rw[aB e],hh⟩
  rename_i e;exact⟨_,by rw[aq e];exact⟨hh.1,rfl⟩,hh.2⟩
 ·exact⟨_,⟨hh.1,rfl⟩,hh.2⟩
 exact hh.elim
def abr{σ : ai}{n:Nat}{x:AV}{K:AV->ai->Prop}(hh:Bf σ n x K): ∃ v σ',Bf σ n x (fun v' s'=>v'=v/\s' = σ')/\K v σ':=by
 unfold Bf at hh |-;split at hh
 ·exact⟨_,_,⟨hh.1,hh.2.1,hh.2.2.1,rfl,rfl⟩,hh.2.2.2⟩
 ·obtain⟨h0,hh⟩:=hh;split at hh
  ·exact⟨_,_,⟨h0,hh.1,hh.2.1,hh.2.2.1,hh.2.2.2.1,hh.2.2.2.2.1,rfl,rfl⟩,hh.2.2.2.2.2⟩
  exact hh.elim
 exact hh.elim
def Yu{σ : ai}{kd:Option IntKind}{zero x k:AV}{K:AV->ai->Prop}(hh:vZ σ kd zero x k K): ∃ v σ',vZ σ kd zero x k (fun v' s'=>v'=v/\s' = σ')/\K v σ':=by
 unfold vZ at hh |-;split at hh
 ·obtain⟨h0,hh⟩:=hh;split at hh
  ·split at hh
   ·exact⟨_,_,⟨h0,rfl,rfl⟩,hh⟩
   ·exact⟨_,_,⟨h0,rfl,rfl⟩,hh⟩
   exact hh.elim
  exact hh.elim
 exact hh.elim
def Yv{σ : ai}{x s v:AV}{K:ai->Prop}(hh:uc σ x s v K): ∃ σ',uc σ x s v (fun s'=>s' = σ')/\K σ':=by
 unfold uc at hh |-;split at hh
 ·split at hh
  ·exact⟨_,⟨hh.1,hh.2.1,rfl⟩,hh.2.2⟩
  exact hh.elim
 exact hh.elim
def Vt{σ : ai}{x:AV}{K K':AV->ai->Prop}(h:∀ v s,K v s->K' v s): Bh σ x K->Bh σ x K':=by
 unfold Bh;split
 ·exact h _ _
 ·exact h _ _
 ·split
  ·exact fun⟨a,b,c,d⟩=>⟨a,b,c,h _ _ d⟩
  exact id
 exact id
def abt{σ : ai}{el:El}{zero x:AV}{K:ai->Prop}(hh:Bg σ el zero x K): ∃ σ',Bg σ el zero x (fun s'=>s' = σ')/\K σ':=by
 unfold Bg at hh |-;split at hh
 ·exact⟨_,rfl,hh⟩
 ·exact⟨_,rfl,hh⟩
 ·obtain⟨h0,h1,hh⟩:=hh;split at hh
  ·exact⟨_,⟨h0,h1,hh.1,hh.2.1,hh.2.2.1,rfl⟩,hh.2.2.2⟩
  exact hh.elim
 exact hh.elim
def ef.m_{o:ef}{vs:List AV}{σ : ai}{K K' Kp Vu:AV->ai->Prop}(h:∀ v s,K v s->K' v s)(hp:∀ v s,Kp v s->Vu v s): o.run P vs σ K Kp->o.run P vs σ K' Vu:=by
 unfold ef.run;split
 ·exact Ly h
 ·exact Ly h
 ·exact h _ _
 ·exact fun hh=>⟨hh.1,h _ _ hh.2⟩
 ·refine fun hh=>⟨hh.1,?_⟩;have hh:=hh.2;split at hh
  ·split at hh
   ·exact h _ _ hh
   ·exact h _ _ hh
   exact hh.elim
  exact hh.elim
 ·refine fun hh=>⟨hh.1,?_⟩;have hh:=hh.2;split at hh
  ·split at hh
   ·exact h _ _ hh
   exact hh.elim
  exact hh.elim
 ·exact h _ _
 ·split
  ·exact h _ _
  exact id
 ·exact uG fun v=>h v σ
 ·exact uG fun v=>h v σ
 ·exact uG fun v=>h v σ
 ·exact uG fun v=>h v σ
 ·exact Ta h
 ·exact Vr h
 ·exact Tb fun v=>h v σ
 ·exact Bk fun v=>h _ σ
 ·exact fun⟨r,s2,h1,h2,h3⟩=>⟨r,s2,h1,h2,h _ _ h3⟩
 ·exact Bj fun v=>h v σ
 ·exact Bj fun v=>h v σ
 ·split
  ·refine fun hh=>hh.mono fun o s=>?_;cases o
   ·exact h _ _
   exact hp _ _
  exact id
 ·exact LA fun v=>h v σ
 ·exact Vs h
 ·exact Td h
 ·exact Ip fun s=>h _ s
 ·exact LB fun s=>h _ s
 ·rintro⟨o,h1,h2⟩;refine⟨o,h1,?_⟩;cases o
  ·exact h _ _ h2
  exact fun s=>hp _ _ (h2 s)
 ·exact Vt h
 ·exact Tc fun v=>h _ σ
 exact id
def m_{o:bf}{e:Env}{σ : ai}{K K' Kp Vu:AV->ai->Prop}(h:∀ v s,K v s->K' v s)(hp:∀ v s,Kp v s->Vu v s): o.run P e σ K Kp->o.run P e σ K' Vu:=by
 cases o<;>simp only[bf.run]
 case ex o xs=>exact ef.m_ h hp
 case mv x=>exact h _ _
 case alloc T cs=>exact h _ _
 case nw el=>exact h _ _
 case hold=>exact h _ _
 case vo=>exact fun hh=>⟨hh.1,h _ _ hh.2⟩
 case jO k T cs =>
  split
  ·split
   ·exact h _ _
   exact id
  exact id
 case n_ k T el x y =>
  split
  ·split
   ·split
    ·exact fun hh=>⟨hh.1,hh.2.1,hh.2.2.1,h _ _ hh.2.2.2⟩
    exact id
   exact id
  exact id
 case oa k el z x y =>
  split
  ·split
   ·split
    ·exact fun hh=>⟨hh.1,hh.2.1,hh.2.2.1,hh.2.2.2.1,h _ _ hh.2.2.2.2⟩
    exact id
   exact id
  exact id
 case Bc t x=>exact h _ _
 case vg f a b=>exact h _ _
 case box x=>exact fun hh=>⟨hh.1,h _ _ hh.2⟩
 case build z ps=>exact zu (fun v=>h _ _) _ _
 case kG mt el z n ps=>exact rZ (fun v=>by split<;>exact h _ _) _ _
 case load ag n x=>exact kU fun v=>h _ _
 case store n x v=>exact ud fun v=>h _ _
 case bin op x y=>exact Ls fun v=>h _ _
 case un op x=>exact N3 fun v=>h _ _
 case app T el x y=>exact Lu h
 case Bd=>exact fun hh=>⟨hh.1,h _ _ hh.2⟩
 case z6 =>
  split
  ·exact h _ _
  ·refine fun hh=>⟨hh.1,?_⟩;have hh:=hh.2;split at hh
   ·exact⟨hh.1,hh.2.1,hh.2.2.1,h _ _ hh.2.2.2⟩
   exact hh.elim
  exact id
 case vi =>
  split
  ·exact fun hh=>⟨hh.1,h _ _ hh.2⟩
  ·refine fun hh=>⟨hh.1,hh.2.1,hh.2.2.1,?_⟩;have hh:=hh.2.2.2;split at hh
   ·obtain⟨a1,a2,a3,a4,a5,s,a6,a7⟩:=hh;exact⟨a1,a2,a3,a4,a5,s,a6,h _ _ a7⟩
   exact hh.elim
  exact id
 case Gp =>
  split
  ·split
   ·exact fun hh=>⟨hh.1,h _ _ hh.2⟩
   exact id
  exact id
 case Gq =>
  split
  ·split
   ·exact fun hh=>⟨hh.1,h _ _ hh.2⟩
   exact id
  exact id
 case Dl =>
  split
  ·refine fun hh=>⟨hh.1,hh.2.1,?_⟩;have hh:=hh.2.2;split at hh
   ·exact h _ _ hh
   exact hh.elim
  exact id
 case min x xs=>exact rY (fun v=>h _ _) _ _
 case max x xs=>exact rY (fun v=>h _ _) _ _
 case yu x=>exact fun hh=>⟨hh.1,ko (fun v ⟨s,h1,h2⟩=>⟨s,h1,h _ _ h2⟩) hh.2⟩
 case pick c a b=>split<;>first|exact h _ _|exact id
 case p8 x=>split<;>first|exact h _ _|exact id
 case rW=>split<;>first|exact h _ _|exact id
 case n9=>split<;>first|exact h _ _|exact id
 case N1=>split<;>first|exact h _ _|exact id
 case p_=>split<;>first|exact h _ _|exact id
 case pn=>split<;>first|exact h _ _|exact id
 case panic=>split<;>first|exact hp _ _|exact id
 case Dm=>split<;>first|exact h _ _|exact id
 case Dn =>
  split
  ·split
   ·split<;>exact h _ _
   exact id
  exact id
 case len=>split<;>first|exact h _ _|exact id
 case N2=>split<;>first|exact fun hh=>⟨hh.1,h _ _ hh.2⟩|exact id
 case ext=>split<;>first|exact fun hh=>⟨hh.1,h _ _ hh.2⟩|exact id
 case field=>split<;>first|exact fun hh=>⟨hh.1,hh.2.1,h _ _ hh.2.2⟩|exact id
 case mb=>split<;>first|exact fun hh=>⟨hh.1,hh.2.1,h _ _ hh.2.2⟩|exact id
 case wX=>split<;>first|exact fun hh=>⟨hh.1,hh.2.1,hh.2.2.1,hh.2.2.2.1,h _ _ hh.2.2.2.2⟩|exact id
 case l7=>split<;>first|exact fun hh=>⟨hh.1,hh.2.1,hh.2.2.1,hh.2.2.2.1,h _ _ hh.2.2.2.2⟩|exact id
 case vD x lo hi=>split<;>first|exact cG (fun _=>cG fun _=>h _ _)|exact id
 case Ct el x lo hi =>
  split
  ·exact cG (fun _=>cG fun _=>h _ _)
  ·exact fun hh=>⟨hh.1,cG (fun _=>cG fun _=>h _ _) hh.2⟩
  ·refine fun hh=>⟨hh.1,?_⟩;have hh:=hh.2;split at hh
   ·exact⟨hh.1,hh.2.1,hh.2.2.1,cG (fun _=>cG fun _=>h _ _) hh.2.2.2⟩
   exact hh.elim
  exact id
 case jh el arr x i =>
  intro hh;split at hh
  ·split at hh
   ·exact⟨hh.1,hh.2.1,hh.2.2.1,h _ _ hh.2.2.2⟩
   ·refine⟨hh.1,hh.2.1,hh.2.2.1,?_⟩;have hh:=hh.2.2.2;split at hh
    ·exact⟨hh.1,hh.2.1,h _ _ hh.2.2⟩
    exact hh.elim
   ·exact⟨hh.1,hh.2.1,h _ _ hh.2.2⟩
   ·exact⟨hh.1,hh.2.1,h _ _ hh.2.2⟩
   ·exact⟨hh.1,hh.2.1,h _ _ hh.2.2⟩
   exact hh.elim
  exact hh.elim
 case qG f args =>
  split
  ·unfold Ba;split
   ·exact fun⟨l,ob,mA,r,h1,h2,h3,h4,h5⟩=>⟨l,ob,mA,r,h1,h2,h3,h4,h _ _ h5⟩
   exact id
  exact id
 case call q f args =>
  split
  ·split
   ·exact fun⟨r,h1,h2⟩=>⟨r,h1,h _ _ h2⟩
   exact fun hh=>hh.mono fun o s=>by cases o<;>first|exact h _ _|exact hp _ _
  ·split
   ·exact id
   exact fun hh=>hh.mono fun o s=>by cases o<;>first|exact h _ _|exact hp _ _
  exact id
abbrev Is(v:AV)(σ : ai): AV->ai->Prop:=fun v' σ'=>v'=v/\σ' = σ
abbrev No: AV->ai->Prop:=fun _ _=>False
def abu{el:El}{n:Nat}{p:AV}{lo hi:Option AV}{K:AV->Prop}(hh:zp el n p lo hi K): ∃ v,zp el n p lo hi (fun v'=>v'=v)/\K v:=by
 obtain⟨v,h1,h2⟩:=kN hh.2;obtain⟨u,h3,h4⟩:=kN h2;exact⟨_,⟨hh.1,cG (fun v' e=>by subst e;exact cG (fun u' e=>by subst e;rfl) h3) h1⟩,h4⟩
def rG{lo:Option AV}{hi mx:AV}{cap:Nat}{K:Nat->Nat->Nat->Prop}(h:mc lo hi mx cap K): ∃ a b c,mc lo hi mx cap (fun a' b' c'=>a'=a/\b'=b/\c'=c)/\K a b c:=by
 obtain⟨m,h1,h2⟩:=kN h;obtain⟨b,h3,h4⟩:=kN h2;obtain⟨a,h5,h6⟩:=kN h4;exact⟨a,b,m,cG (fun m' e=>by subst e;exact cG (fun b' e=>by subst e;exact cG (fun a' e=>⟨e,rfl,rfl⟩) h5) h3) h1,h6⟩
def Yw{el:El}{x:AV}{lo:Option AV}{hi mx:AV}{K:AV->Prop}(hh:rX el x lo hi mx K): ∃ v,rX el x lo hi mx (fun v'=>v'=v)/\K v:=by
 unfold rX at hh |-;split at hh
 ·obtain⟨a,b,c,h1,h2⟩:=rG hh;exact⟨_,iF (fun _ _ _ _=>rfl) h1,h2⟩
 ·obtain⟨a,b,c,h1,h2⟩:=rG hh.2;exact⟨_,⟨hh.1,iF (fun _ _ _ e=>by obtain⟨rfl,rfl,rfl⟩:=e;rfl) h1⟩,h2⟩
 ·obtain⟨a,b,c,h1,h2⟩:=rG hh.2;exact⟨_,⟨hh.1,iF (fun _ _ _ _=>rfl) h1⟩,h2⟩
 exact hh.elim
def ef.Fz{o:ef}{vs:List AV}{σ : ai}{K Kp:AV->ai->Prop}(hc:o.cls = .pu)(hh:o.run P vs σ K Kp): ∃ v,(∀ σ',o.run P vs σ' (Is v σ') No)/\K v σ:=by
 cases o<;>simp only[ef.cls]at hc<;>(try (cases hc;done))
 ·unfold ef.run at hh |-
  split at hh<;>(try (rename_i h;cases h))<;>first
   |(obtain⟨v,h1,h2⟩:=abu hh;exact⟨v,fun σ'=>uG (fun v' e=>⟨e,rfl⟩) h1,h2⟩)
   | exact hh.elim
 ·unfold ef.run at hh |-
  split at hh<;>(try (rename_i h;cases h))<;>first
   |(obtain⟨v,h1,h2⟩:=Yw hh;exact⟨v,fun σ'=>Bj (fun v' e=>⟨e,rfl⟩) h1,h2⟩)
   | exact hh.elim
 unfold ef.run at hh |-
 split at hh<;>(try (rename_i h;cases h))<;>first
  |(obtain⟨v,h1,h2⟩:=abq hh;exact⟨v,fun σ'=>LA (fun v' e=>⟨e,rfl⟩) h1,h2⟩)
  | exact hh.elim
def ef.Bl{o:ef}{vs:List AV}{σ : ai}{K Kp:AV->ai->Prop}(hc:o.cls = .rd)(hh:o.run P vs σ K Kp): ∃ v,(∀ H,o.run P vs (σ++H) (Is v (σ++H)) No)/\K v σ:=by
 cases o<;>simp only[ef.cls]at hc<;>(try (cases hc;done))
 case Dk neg =>
  unfold ef.run at hh |-;split at hh<;>(try (rename_i h;cases h))<;>(try exact hh.elim);obtain⟨v,h1,h2⟩:=Yt hh;exact⟨_,fun H=>Bk (fun v' e=>by subst e;exact⟨rfl,rfl⟩) (h1 H),h2⟩
 case G8 el =>
  unfold ef.run at hh |-;split at hh<;>(try (rename_i h;cases h))<;>(try exact hh.elim);unfold Fx at hh |-;obtain⟨ys,h1,h2,h3,h4⟩:=G_ hh;split at h4
  ·exact⟨_,fun H=>ko (fun zs (e:zs=ys)=>by subst e;exact⟨h2,h3,h4.1,rfl,rfl⟩) (h1 H),h4.2⟩
  ·exact⟨_,fun H=>ko (fun zs (e:zs=ys)=>by subst e;exact⟨h2,h3,h4.1,h4.2.1,rfl,rfl⟩) (h1 H),h4.2.2⟩
  exact h4.elim
 case Bb kd ok zero =>
  unfold ef.run at hh |-;split at hh<;>(try (rename_i h;cases h))
  ·exact⟨_,fun H=>⟨hh.1,rfl,rfl⟩,hh.2⟩
  ·obtain⟨h0,hh⟩:=hh;split at hh
   ·rename_i h1;split at hh
    ·rename_i h2;exact⟨_,fun H=>by simp only[ju H h1,h2];exact⟨h0,rfl,rfl⟩,hh⟩
    ·rename_i h2;exact⟨_,fun H=>by simp only[ju H h1,h2];exact⟨h0,rfl,rfl⟩,hh⟩
    exact hh.elim
   exact hh.elim
  exact hh.elim
 case Dj =>
  unfold ef.run at hh |-;split at hh<;>(try (rename_i h;cases h))
  ·exact⟨_,fun H=>⟨rfl,rfl⟩,hh⟩
  ·split at hh
   ·rename_i h1;exact⟨_,fun H=>by simp only[ju H h1];exact⟨rfl,rfl⟩,hh⟩
   exact hh.elim
  exact hh.elim
def ef.Iq{o:ef}{vs:List AV}{σ : ai}{K Kp:AV->ai->Prop}(hc:o.cls = .al)(hh:o.run P vs σ K Kp): ∃ v H,o.run P vs σ (Is v (σ++H)) No/\K v (σ++H):=by
 cases o<;>simp only[ef.cls]at hc<;>(try (cases hc;done));unfold ef.run at hh |-;split at hh<;>(try (rename_i h;cases h))
 ·exact⟨_,_,⟨rfl,rfl⟩,hh⟩
 exact hh.elim
def ef.Ir{o:ef}: o.cls≠ .st/\o.cls≠ .ap:=by cases o<;>simp[ef.cls]
def Fz{o:bf}{e:Env}{σ : ai}{K Kp:AV->ai->Prop}(hc:o.cls = .pu)(hh:o.run P e σ K Kp): ∃ v,(∀ σ',o.run P e σ' (Is v σ') No)/\K v σ:=by
 cases o<;>simp only[bf.cls]at hc<;>(try (cases hc;done))<;>simp only[bf.run]at hh |-
 case ex o xs=>exact ef.Fz hc hh
 case mv x=>exact⟨_,fun _=>⟨rfl,rfl⟩,hh⟩
 case Bc t x=>exact⟨_,fun _=>⟨rfl,rfl⟩,hh⟩
 case vg f a b=>exact⟨_,fun _=>⟨rfl,rfl⟩,hh⟩
 case build z ps=>obtain⟨v,h1,h2⟩:=Lw _ _ hh;exact⟨_,fun _=>zu (fun v' e=>⟨bC AV.agg e,rfl⟩) _ _ h1,h2⟩
 case kG mt el z n ps =>
  cases mt
  ·obtain⟨v,h1,h2⟩:=Bi _ _ hh;simp only[aN,if_false]at h2 |-;exact⟨_,fun _=>rZ (fun v' e=>⟨bC (AV.aH true el) e,rfl⟩) _ _ h1,h2⟩
  ·cases hc
 case bin op x y=>obtain⟨v,h1,h2⟩:=abo hh;exact⟨v,fun _=>Ls (fun v' e=>⟨e,rfl⟩) h1,h2⟩
 case un op x=>obtain⟨v,h1,h2⟩:=ade hh;exact⟨v,fun _=>N3 (fun v' e=>⟨e,rfl⟩) h1,h2⟩
 case min x xs=>obtain⟨v,h1,h2⟩:=He _ _ hh;exact⟨v,fun _=>rY (fun v' e=>⟨e,rfl⟩) _ _ h1,h2⟩
 case max x xs=>obtain⟨v,h1,h2⟩:=He _ _ hh;exact⟨v,fun _=>rY (fun v' e=>⟨e,rfl⟩) _ _ h1,h2⟩
 case pick c a b=>split at hh<;>first|exact⟨_,fun _=>⟨rfl,rfl⟩,hh⟩|exact hh.elim
 case p8 x=>split at hh<;>first|exact⟨_,fun _=>⟨rfl,rfl⟩,hh⟩|exact hh.elim
 case rW=>split at hh<;>first|exact⟨_,fun _=>⟨rfl,rfl⟩,hh⟩|exact hh.elim
 case n9=>split at hh<;>first|exact⟨_,fun _=>⟨rfl,rfl⟩,hh⟩|exact hh.elim
 case N1=>split at hh<;>first|exact⟨_,fun _=>⟨rfl,rfl⟩,hh⟩|exact hh.elim
 case p_=>split at hh<;>first|exact⟨_,fun _=>⟨rfl,rfl⟩,hh⟩|exact hh.elim
 case pn=>split at hh<;>first|exact⟨_,fun _=>⟨rfl,rfl⟩,hh⟩|exact hh.elim
 case len=>split at hh<;>first|exact⟨_,fun _=>⟨rfl,rfl⟩,hh⟩|exact hh.elim
 case ext=>split at hh<;>first|exact⟨_,fun _=>⟨hh.1,rfl,rfl⟩,hh.2⟩|exact hh.elim
 case field=>split at hh<;>first|exact⟨_,fun _=>⟨hh.1,hh.2.1,rfl,rfl⟩,hh.2.2⟩|exact hh.elim
 case mb=>split at hh<;>first|exact⟨_,fun _=>⟨hh.1,hh.2.1,rfl,rfl⟩,hh.2.2⟩|exact hh.elim
 case wX=>split at hh<;>first|exact⟨_,fun _=>⟨hh.1,hh.2.1,hh.2.2.1,hh.2.2.2.1,rfl,rfl⟩,hh.2.2.2.2⟩|exact hh.elim
 case vD x lo hi =>
  split at hh
  ·obtain⟨v,h1,h2⟩:=kN hh;obtain⟨u,h3,h4⟩:=kN h2;exact⟨_,fun _=>cG (fun v' e=>by subst e;exact cG (fun u' e=>by subst e;exact⟨rfl,rfl⟩) h3) h1,h4⟩
  exact hh.elim
 case call q f args=>split at hc<;>cases hc
def Bl{o:bf}{e:Env}{σ : ai}{K Kp:AV->ai->Prop}(hc:o.cls = .rd)(hh:o.run P e σ K Kp): ∃ v,(∀ H,o.run P e (σ++H) (Is v (σ++H)) No)/\K v σ:=by
 cases o<;>simp only[bf.cls]at hc<;>(try (cases hc;done))<;>simp only[bf.run]at hh |-
 case ex o xs=>exact ef.Bl hc hh
 case kG mt el z n ps=>split at hc<;>cases hc
 case load ag n x=>obtain⟨v,h1,h2⟩:=oe hh;exact⟨v,fun H=>kU (fun v' e=>⟨e,rfl⟩) (h1 H),h2⟩
 case yu x =>
  obtain⟨v,h1,s,h2,h3⟩:=G_ hh.2;exact⟨_,fun H=>⟨hh.1,ko (fun v' (e:v'=v)=>⟨s,by rw[e];exact h2,rfl,rfl⟩) (h1 H)⟩,h3⟩
 case z6 el x =>
  split at hh
  ·exact⟨_,fun _=>⟨rfl,rfl⟩,hh⟩
  ·obtain⟨h0,hh⟩:=hh;split at hh
   ·rename_i h;refine⟨_,fun H=>⟨h0,?_⟩,hh.2.2.2⟩;simp only[ju H h];exact⟨hh.1,hh.2.1,hh.2.2.1,by trivial⟩
   exact hh.elim
  exact hh.elim
 case Ct el x lo hi =>
  split at hh
  ·obtain⟨v,h1,h2⟩:=kN hh;obtain⟨u,h3,h4⟩:=kN h2;exact⟨_,fun _=>cG (fun v' e=>by subst e;exact cG (fun u' e=>by subst e;exact⟨rfl,rfl⟩) h3) h1,h4⟩
  ·obtain⟨v,h1,h2⟩:=kN hh.2;obtain⟨u,h3,h4⟩:=kN h2;exact⟨_,fun _=>⟨hh.1,cG (fun v' e=>by subst e;exact cG (fun u' e=>by subst e;exact⟨rfl,rfl⟩) h3) h1⟩,h4⟩
  ·obtain⟨h0,hh⟩:=hh;split at hh
   ·rename_i h;obtain⟨v,h1,h2⟩:=kN hh.2.2.2;obtain⟨u,h3,h4⟩:=kN h2;refine⟨_,fun H=>⟨h0,?_⟩,h4⟩;simp only[ju H h];exact⟨hh.1,hh.2.1,hh.2.2.1,cG (fun v' e=>by subst e;exact cG (fun u' e=>by subst e;exact⟨rfl,rfl⟩) h3) h1⟩
   exact hh.elim
  exact hh.elim
 case jh el arr x i =>
  split at hh
  ·split at hh
   ·exact⟨_,fun H=>⟨hh.1,hh.2.1,hh.2.2.1,rfl,rfl⟩,hh.2.2.2⟩
   ·obtain⟨h0,h1,h2,hh⟩:=hh;split at hh
    ·rename_i h;refine⟨_,fun H=>⟨h0,h1,h2,?_⟩,hh.2.2⟩;simp only[ju H h];exact⟨hh.1,hh.2.1,by trivial⟩
    exact hh.elim
   ·exact⟨_,fun H=>⟨hh.1,hh.2.1,rfl,rfl⟩,hh.2.2⟩
   ·exact⟨_,fun H=>⟨hh.1,hh.2.1,rfl,rfl⟩,hh.2.2⟩
   ·exact⟨_,fun H=>⟨hh.1,hh.2.1,rfl,rfl⟩,hh.2.2⟩
   exact hh.elim
  exact hh.elim
 case call q f args =>
  cases q with
  | false=>cases hc
  | true =>
    split at hh
    ·simp only[if_true]at hh |-;obtain⟨r,h1,h2⟩:=hh;exact⟨r,fun H=>⟨r,fun τ'=>by rw[fY σ];exact h1 _,rfl,rfl⟩,h2⟩
    ·exact hh.elim
    exact hh.elim
def Iq{o:bf}{e:Env}{σ : ai}{K Kp:AV->ai->Prop}(hc:o.cls = .al)(hh:o.run P e σ K Kp): ∃ v H,o.run P e σ (Is v (σ++H)) No/\K v (σ++H):=by
 cases o<;>simp only[bf.cls]at hc<;>(try (cases hc;done))<;>simp only[bf.run]at hh |-
 case ex o xs=>exact ef.Iq hc hh
 case alloc T cs=>exact⟨_,_,⟨rfl,rfl⟩,hh⟩
 case vo=>exact⟨_,_,⟨hh.1,rfl,rfl⟩,hh.2⟩
 case nw el=>exact⟨_,_,⟨rfl,rfl⟩,hh⟩
 case box x=>exact⟨_,_,⟨hh.1,rfl,rfl⟩,hh.2⟩
 case N2 x=>split at hh<;>first|exact⟨_,_,⟨hh.1,rfl,rfl⟩,hh.2⟩|exact hh.elim
 case l7=>split at hh<;>first|exact⟨_,_,⟨hh.1,hh.2.1,hh.2.2.1,hh.2.2.2.1,rfl,rfl⟩,hh.2.2.2.2⟩|exact hh.elim
 case call q f args=>split at hc<;>cases hc
 case kG mt el z n ps =>
  cases mt
  ·cases hc
  obtain⟨v,h1,h2⟩:=Bi _ _ hh;simp only[if_true]at h2 |-;exact⟨_,_,rZ (fun v' e=>by subst e;exact⟨rfl,rfl⟩) _ _ h1,h2⟩
def Dr{σ : ai}{n:Nat}{p v:AV}{K:ai->Prop}(hh:mE σ n p v K): ∃ l o o',σ[l]? = some o/\o.like o'/\p.obj=some l/\mE σ n p v (fun s=>s = σ.set l o')/\K (σ.set l o'):=by
 unfold mE at hh;obtain⟨h1,h2,hh⟩:=hh;split at hh
 ·split at hh
  ·rename_i h;exact⟨_,_,_,h,trivial,rfl,by simp only[mE,h];exact⟨h1,h2,hh.1,trivial⟩,hh.2⟩
  exact hh.elim
 ·split at hh
  ·rename_i h;obtain⟨e1,e2,e3,e4,e5,hK⟩:=hh;subst e1;exact⟨_,_,_,h,⟨_,rfl,aT⟩,rfl,by simp only[mE,h];exact⟨h1,h2,trivial,e2,e3,e4,e5,trivial⟩,hK⟩
  exact hh.elim
 exact hh.elim
def aic{o:bf}{e:Env}{σ : ai}{K Kp:AV->ai->Prop}(hc:o.cls = .st)(hh:o.run P e σ K Kp): ∃ v σ',o.run P e σ (Is v σ') No/\K v σ':=by
 cases o<;>simp only[bf.cls]at hc<;>(try (cases hc;done))<;>simp only[bf.run]at hh |-
 case ex=>exact absurd hc ef.Ir.1
 case kG=>split at hc<;>cases hc
 case call=>split at hc<;>cases hc
 case qG f args =>
  split at hh
  ·unfold Ba at *;split at hh
   ·obtain⟨l,ob,mA,r,h1,h2,h3,h4,h5⟩:=hh;exact⟨r,_,⟨l,ob,mA,r,h1,h2,h3,h4,rfl,rfl⟩,h5⟩
   exact hh.elim
  exact hh.elim
 case store n x v =>
  obtain⟨l,o,o',_,_,_,h1,h2⟩:=Dr hh;exact⟨_,_,ud (fun s e=>⟨rfl,e⟩) h1,h2⟩
 case jO k T cs =>
  split at hh
  ·rename_i n h1;split at hh
   ·rename_i h2;exact⟨_,_,⟨rfl,rfl⟩,hh⟩
   exact hh.elim
  exact hh.elim
 case n_ k T el x y =>
  split at hh
  ·split at hh
   ·split at hh
    ·exact⟨_,_,⟨hh.1,hh.2.1,hh.2.2.1,rfl,rfl⟩,hh.2.2.2⟩
    exact hh.elim
   exact hh.elim
  exact hh.elim
 case oa k el z x y =>
  split at hh
  ·split at hh
   ·split at hh
    ·exact⟨_,_,⟨hh.1,hh.2.1,hh.2.2.1,hh.2.2.2.1,rfl,rfl⟩,hh.2.2.2.2⟩
    exact hh.elim
   exact hh.elim
  exact hh.elim
def aaR{o:bf}{e:Env}{σ : ai}{K Kp:AV->ai->Prop}(hc:o.cls = .ap)(hh:o.run P e σ K Kp): ∃ v σ',o.run P e σ (Is v σ') No/\K v σ':=by
 cases o<;>simp only[bf.cls]at hc<;>(try (cases hc;done))<;>simp only[bf.run]at hh |-
 case ex=>exact absurd hc ef.Ir.2
 case kG=>split at hc<;>cases hc
 case call=>split at hc<;>cases hc
 case app T el x y =>
  have key:∀ ys:List AV,∀ K':AV->ai->Prop,(ys.all (fun a=>a.fits el)=true/\match x.ev e with
   | .aP=>if ys.length=0 then K' .aP σ else fE ys.length el/\K' (.own el σ.length ys.length 0 ys.length) (σ++[.bW T el ys])
   | .aH true aS xs=>aS=el/\if ys.length=0 then K' (.aH true el xs) σ else fE (xs.length+ys.length) el/\K' (.own el σ.length (xs.length+ys.length) 0 (xs.length+ys.length)) (σ++[.bW T el (xs++ys)])
   | .own aS l m lo n => aS = el /\ match σ[l]? with
     | some (.bW T' bq xs)=>(T'=none\/T'=T)/\bq=el/\m=xs.length/\lo=0/\n=xs.length/\fE (xs.length+ys.length) el/\K' (.own el l (xs.length+ys.length) 0 (xs.length+ys.length)) (σ.set l (.bW T' el (xs++ys)))
     | _=>False
   | _=>False)-> ∃ v σ',K' v σ'/\(ys.all (fun a=>a.fits el)=true/\match x.ev e with
   | .aP=>if ys.length=0 then Is v σ' .aP σ else fE ys.length el/\Is v σ' (.own el σ.length ys.length 0 ys.length) (σ++[.bW T el ys])
   | .aH true aS xs=>aS=el/\if ys.length=0 then Is v σ' (.aH true el xs) σ else fE (xs.length+ys.length) el/\Is v σ' (.own el σ.length (xs.length+ys.length) 0 (xs.length+ys.length)) (σ++[.bW T el (xs++ys)])
   | .own aS l m lo n => aS = el /\ match σ[l]? with
     | some (.bW T' bq xs)=>(T'=none\/T'=T)/\bq=el/\m=xs.length/\lo=0/\n=xs.length/\fE (xs.length+ys.length) el/\Is v σ' (.own el l (xs.length+ys.length) 0 (xs.length+ys.length)) (σ.set l (.bW T' el (xs++ys)))
     | _=>False
   | _=>False):=fun ys K'=>by
   rintro⟨h1,h2⟩;split at h2
   ·split at h2
    ·exact⟨_,_,h2,h1,by rw[aB (by assumption)];exact⟨rfl,rfl⟩⟩
    exact⟨_,_,h2.2,h1,by rw[aq (by assumption)];exact⟨h2.1,rfl,rfl⟩⟩
   ·obtain⟨rfl,h2⟩:=h2;split at h2
    ·exact⟨_,_,h2,h1,rfl,by rw[aB (by assumption)];exact⟨rfl,rfl⟩⟩
    exact⟨_,_,h2.2,h1,rfl,by rw[aq (by assumption)];exact⟨h2.1,rfl,rfl⟩⟩
   ·obtain⟨rfl,h2⟩:=h2;split at h2
    ·rename_i hk;refine⟨_,_,h2.2.2.2.2.2.2,h1,rfl,?_⟩;exact⟨h2.1,h2.2.1,h2.2.2.1,h2.2.2.2.1,h2.2.2.2.2.1,h2.2.2.2.2.2.1,rfl,rfl⟩
    exact h2.elim
   exact h2.elim
  have hh:fL σ el (y.ev e) fun ys=> ∃ v σ',K v σ'/\_:=ko (fun ys h=>key ys K h) hh
  have out:∀ {B:List AV->AV->ai->Prop},(fL σ el (y.ev e) fun ys=> ∃ v σ',K v σ'/\B ys v σ')-> ∃ v σ',(fL σ el (y.ev e) fun ys=>B ys v σ')/\K v σ':=fun {B} h=>by
   unfold fL at *;split at h
   ·obtain⟨v,s,h1,h2⟩:=h;exact⟨v,s,h2,h1⟩
   ·obtain⟨h0,v,s,h1,h2⟩:=h;exact⟨v,s,⟨h0,h2⟩,h1⟩
   ·obtain⟨h0,h⟩:=h;split at h
    ·obtain⟨q1,q2,v,s,h1,h2⟩:=h;exact⟨v,s,⟨h0,q1,q2,h2⟩,h1⟩
    exact h.elim
   ·obtain⟨h0,v,s,h1,h2⟩:=h;exact⟨v,s,⟨h0,h2⟩,h1⟩
   ·obtain⟨h0,h0',h⟩:=h;obtain⟨u,h1,v,s,h2,h3⟩:=oe h;exact⟨v,s,⟨h0,h0',kU (fun u' (e:u'=u)=>by subst e;exact h3) (by simpa using h1 [])⟩,h2⟩
   exact h.elim
  exact out hh
def LC{σ : ai}{el:El}{x:AV}{K:List AV->Prop}(hh:fL σ el x K): ∃ v,fL σ el x (fun v'=>v'=v)/\K v:=by
 obtain⟨v,h1,h2⟩:=G_ hh;exact⟨v,by simpa using h1 [],h2⟩
def abv{σ : ai}{T:Option TypeId}{el:El}{x y:AV}{K:AV->ai->Prop}(hh:oc σ T el x y K): ∃ v σ',oc σ T el x y (Is v σ')/\K v σ':=by
 have:=aaR (P:=default) (o:= .app T el (.c x) (.c y)) (e:=fun _=> .undef) (σ:=σ) (K:=K) (Kp:=No) rfl hh;obtain⟨v,σ',h1,h2⟩:=this;exact⟨v,σ',h1,h2⟩
def abw{σ : ai}{x:AV}{K:AV->ai->Prop}(hh:Bh σ x K): ∃ v σ',Bh σ x (Is v σ')/\K v σ':=by
 unfold Bh at hh |-;split at hh
 ·exact⟨_,_,⟨rfl,rfl⟩,hh⟩
 ·exact⟨_,_,⟨rfl,rfl⟩,hh⟩
 ·split at hh
  ·exact⟨_,_,⟨hh.1,hh.2.1,hh.2.2.1,rfl,rfl⟩,hh.2.2.2⟩
  exact hh.elim
 exact hh.elim
def ef.det{o:ef}{vs:List AV}{σ : ai}{K Kp:AV->ai->Prop}(hni:o.cls≠ .no)(hh:o.run P vs σ K Kp): ∃ v σ',o.run P vs σ (Is v σ') No/\K v σ':=by
 cases o with
 | inv n=>exact absurd rfl hni
 | pc n=>exact absurd rfl hni
 | G9 n=>exact absurd rfl hni
 | cw n k iT =>
   unfold ef.run at hh |-;split at hh<;>(try (rename_i h;cases h))<;>(try exact hh.elim);obtain⟨r,s2,h1,h2,h3⟩:=hh;exact⟨r,s2,⟨r,s2,h1,h2,rfl,rfl⟩,h3⟩
 | Dk neg =>
   obtain⟨v,h1,h2⟩:=ef.Bl (o:= .Dk neg) rfl hh;exact⟨v,σ,by simpa using h1 [],h2⟩
 | G8 el =>
   obtain⟨v,h1,h2⟩:=ef.Bl (o:= .G8 el) rfl hh;exact⟨v,σ,by simpa using h1 [],h2⟩
 | G7 el lo =>
   obtain⟨v,h1,h2⟩:=ef.Fz (o:= .G7 el lo) rfl hh;exact⟨v,σ,h1 _,h2⟩
 | RO T ok z =>
   obtain⟨v,h1,h2⟩:=ef.Fz (o:= .RO T ok z) rfl hh;exact⟨v,σ,h1 _,h2⟩
 | s2a n =>
   unfold ef.run at hh |-;split at hh<;>(try (rename_i h;cases h))<;>(try exact hh.elim);obtain⟨v,σ',h1,h2⟩:=abr hh;exact⟨v,σ',h1,h2⟩
 | S9 kd z =>
   unfold ef.run at hh |-;split at hh<;>(try (rename_i h;cases h))<;>(try exact hh.elim);obtain⟨v,σ',h1,h2⟩:=Yu hh;exact⟨v,σ',h1,h2⟩
 | N0 =>
   unfold ef.run at hh |-;split at hh<;>(try (rename_i h;cases h))<;>(try exact hh.elim);obtain⟨σ',h1,h2⟩:=Yv hh;exact⟨_,σ',Ip (fun s e=>⟨rfl,e⟩) h1,h2⟩
 | clr el z =>
   unfold ef.run at hh |-;split at hh<;>(try (rename_i h;cases h))<;>(try exact hh.elim);obtain⟨σ',h1,h2⟩:=abt hh;exact⟨_,σ',LB (fun s e=>⟨rfl,e⟩) h1,h2⟩
 | frz =>
   unfold ef.run at hh |-;split at hh<;>(try (rename_i h;cases h))<;>(try exact hh.elim);obtain⟨v,σ',h1,h2⟩:=abw hh;exact⟨v,σ',h1,h2⟩
 | Ik el n lo hi =>
   obtain⟨v,h1,h2⟩:=ef.Fz (o:= .Ik el n lo hi) rfl hh;exact⟨v,σ,h1 σ,h2⟩
 | Bb kd ok zero =>
   obtain⟨v,h1,h2⟩:=ef.Bl (o:= .Bb kd ok zero) rfl hh;exact⟨v,σ,by simpa using h1 [],h2⟩
 | Dj =>
   obtain⟨v,h1,h2⟩:=ef.Bl (o:= .Dj) rfl hh;exact⟨v,σ,by simpa using h1 [],h2⟩
 | Fv =>
   obtain⟨v,H,h1,h2⟩:=ef.Iq (o:= .Fv) rfl hh;exact⟨v,_,h1,h2⟩
 | zZ kd =>
   unfold ef.run at hh |-;split at hh<;>(try (rename_i h;cases h))<;>(try exact hh.elim);obtain⟨h0,hh⟩:=hh;split at hh
   ·rename_i h1;split at hh
    ·rename_i h2;refine⟨_,_,?_,hh⟩;exact⟨h0,rfl,rfl⟩
    exact hh.elim
   exact hh.elim
 | Vp el lo =>
   have key:∀ {x:AV} {l:Option AV} {h m:AV},wY σ el x l h m K-> ∃ v σ',wY σ el x l h m (Is v σ')/\K v σ':=fun {x l h m} hh=>by
    unfold wY at hh |-;split at hh
    ·obtain⟨a,b,c,h1,h2⟩:=rG hh;exact⟨_,_,iF (fun _ _ _ _=>⟨rfl,rfl⟩) h1,h2⟩
    ·obtain⟨a,b,c,h1,h2⟩:=rG hh.2;exact⟨_,_,⟨hh.1,iF (fun _ _ _ e=>by obtain⟨rfl,rfl,rfl⟩:=e;exact⟨rfl,rfl⟩) h1⟩,h2⟩
    ·obtain⟨h0,hh⟩:=hh;split at hh
     ·rename_i hk;obtain⟨k1,k2,k3,hh⟩:=hh;obtain⟨a,b,c,h1,h2⟩:=rG hh;by_cases e:c=a
      ·rw[aB e]at h2;exact⟨_,_,⟨h0,k1,k2,k3,iF (fun _ _ _ e'=>by obtain⟨rfl,rfl,rfl⟩:=e';rw[aB e];exact⟨rfl,rfl⟩) h1⟩,h2⟩
      rw[aq e]at h2;exact⟨_,_,⟨h0,k1,k2,k3,iF (fun _ _ _ e'=>by obtain⟨rfl,rfl,rfl⟩:=e';rw[aq e];exact⟨h2.1,rfl,rfl⟩) h1⟩,h2.2⟩
     exact hh.elim
    exact hh.elim
   unfold ef.run at hh |-;split at hh<;>(try (rename_i h;cases h))<;>first|exact key hh|exact hh.elim
 | copy el =>
   unfold ef.run at hh |-;split at hh<;>(try (rename_i h;cases h))<;>(try exact hh.elim)
   ·rename_i x y;obtain⟨ys,h1,h2,h3⟩:=LC hh
    have key:∃ v σ',wZ σ el x ys (Is v σ')/\K v σ':=by
     unfold wZ at h3 |-;split at h3
     ·exact⟨_,_,⟨rfl,rfl⟩,h3⟩
     ·exact⟨_,_,⟨h3.1,rfl,rfl⟩,h3.2⟩
     ·obtain⟨l,o,o',_,_,_,h4,h5⟩:=Dr h3.2.2;exact⟨_,_,⟨h3.1,h3.2.1,ud (fun s e=>⟨rfl,e⟩) h4⟩,h5⟩
     ·obtain⟨h0,h3⟩:=h3;split at h3
      ·exact⟨_,_,⟨h0,h3.1,h3.2.1,h3.2.2.1,rfl,rfl⟩,h3.2.2.2⟩
      exact h3.elim
     exact h3.elim
    obtain⟨v,σ',h4,h5⟩:=key;exact⟨v,σ',ko (fun ys' (e:ys'=ys)=>by subst e;exact⟨h2,h4⟩) h1,h5⟩
 | Vq el =>
   unfold ef.run at hh |-;split at hh<;>(try (rename_i h;cases h))<;>(try exact hh.elim)
   ·unfold zo at hh |-;split at hh
    ·obtain⟨h0,hh⟩:=hh;obtain⟨ys,h1,h2,h3⟩:=LC hh;split at h3
     ·rename_i hk;refine⟨_,_,⟨h0,ko (fun ys' (e:ys'=ys)=>⟨e ▸ h2,?_⟩) h1⟩,h3.2.2.2.2⟩;subst e;exact⟨h3.1,h3.2.1,h3.2.2.1,h3.2.2.2.1,rfl,rfl⟩
     exact h3.elim
    exact abv hh
def bf.D(P:Program)(o:bf)(e:Env)(σ : ai)(v:AV)(σ':ai): Prop :=
 match o.cls with
 | .pu=>(∀ s,o.run P e s (Is v s) No)/\σ' = σ
 | .rd=>(∀ H,o.run P e (σ++H) (Is v (σ++H)) No)/\σ' = σ
 | .al=>o.run P e σ (Is v σ') No
 | .st=>o.run P e σ (Is v σ') No
 | .ap=>o.run P e σ (Is v σ') No
 | .cw=>o.run P e σ (Is v σ') No
 | .no=>False
def rH{o:bf}{e:Env}{σ : ai}{K Kp:AV->ai->Prop}{v:AV}{σ':ai}(hK:K v σ')(h:o.run P e σ (Is v σ') No): o.run P e σ K Kp :=
 m_ (fun v' s h=>by obtain⟨e1,e2⟩:=h;subst e1;subst e2;exact hK) (fun _ _ h=>False.elim h) h
def aid{o:bf}{e:Env}{σ : ai}{K Kp:AV->ai->Prop}(hc:o.cls = .cw)(hh:o.run P e σ K Kp): ∃ v σ',o.run P e σ (Is v σ') No/\K v σ':=by
 cases o<;>simp only[bf.cls]at hc<;>(try (cases hc;done))
 case kG=>split at hc<;>cases hc
 case call=>split at hc<;>cases hc
 case ex o xs=>exact ef.det (by rw[hc];decide) (show o.run P (xs.map (AX.ev e)) σ K Kp from hh)
def wK{o:bf}{e:Env}{σ : ai}{K Kp:AV->ai->Prop}(hc:o.cls≠ .no): o.run P e σ K Kp↔ ∃ v σ',o.D P e σ v σ'/\K v σ':=by
 unfold bf.D;constructor
 ·intro hh;split
  ·rename_i h;obtain⟨v,h1,h2⟩:=Fz h hh;exact⟨v,σ,⟨h1,rfl⟩,h2⟩
  ·rename_i h;obtain⟨v,h1,h2⟩:=Bl h hh;exact⟨v,σ,⟨h1,rfl⟩,h2⟩
  ·rename_i h;obtain⟨v,H,h1,h2⟩:=Iq h hh;exact⟨v,_,h1,h2⟩
  ·rename_i h;exact aic h hh
  ·rename_i h;exact aaR h hh
  ·rename_i h;exact aid h hh
  rename_i h;exact(hc h).elim
 rintro⟨v,σ',hD,hK⟩;split at hD
 ·obtain⟨h1,rfl⟩:=hD;exact rH hK (h1 _)
 ·obtain⟨h1,rfl⟩:=hD;have h2:=h1 [];rw[cI]at h2;exact rH hK h2
 ·exact rH hK hD
 ·exact rH hK hD
 ·exact rH hK hD
 ·exact rH hK hD
 exact hD.elim
def RP{o:bf}{e e':Env}{σ : ai}{v:AV}{σ':ai}(h:∀ t ∈ o.uses,e t=e' t)(hD:o.D P e σ v σ'): o.D P e' σ v σ':=by
 unfold bf.D at *;split at hD
 ·exact⟨fun s=>by rw[<-rF h];exact hD.1 s,hD.2⟩
 ·exact⟨fun s=>by rw[<-rF h];exact hD.1 s,hD.2⟩
 ·rw[<-rF h];exact hD
 ·rw[<-rF h];exact hD
 ·rw[<-rF h];exact hD
 ·rw[<-rF h];exact hD
 exact hD.elim
def adf{o:bf}{e:Env}{σ : ai}{v:AV}{σ':ai}(hc:o.cls = .pu\/o.cls = .rd)(hD:o.D P e σ v σ'): σ' = σ:=by
 unfold bf.D at hD;rcases hc with hc|hc<;>simp only[hc]at hD<;>exact hD.2
def adg{o:bf}{e:Env}{σ : ai}{v:AV}{σ':ai}(hc:o.cls = .pu\/o.cls = .rd)(hD:o.D P e σ v σ')(H:ai): o.D P e (σ++H) v (σ++H):=by
 unfold bf.D at *;rcases hc with hc|hc<;>simp only[hc]at hD |-
 ·exact⟨hD.1,trivial⟩
 exact⟨fun an9=>by rw[fY];exact hD.1 _,trivial⟩
def adh{o:bf}{e:Env}{σ : ai}{v:AV}{σ':ai}(hc:o.cls = .pu)(hD:o.D P e σ v σ')(s:ai): o.D P e s v s:=by
 unfold bf.D at *;simp only[hc]at hD |-;exact⟨hD.1,trivial⟩
def akc{o:bf}{e:Env}{σ : ai}{v:AV}{σ':ai}(hc:o.cls = .al)(hD:o.D P e σ v σ'): ∃ H,σ' = σ++H:=by
 unfold bf.D at hD;simp only[hc]at hD;obtain⟨v',H,_,h⟩:=Iq hc hD;exact⟨H,h.2.symm⟩
def bf.qa: bf->Option (Option AX)
 | .load _ _ x=>some (some x)
 | .Ct .. | .jh ..=>some none
 | _=>none
def bf.rj: bf->Option AX
 | .store _ x _=>some x
 | .qG _ (x::_)=>some x
 | .jO k _ _=>some (.t k)
 | .n_ k _ _ _ _=>some (.t k)
 | .oa k _ _ _ _=>some (.t k)
 | .app _ _ x _=>some x
 | _=>none
def pJ(p q:AV): Prop:= ∀ l,p.obj=some l->q.obj=some l->False
def RQ{σ H:ai}{l:Nat}{o:bG}(h:l < σ.length): σ.set l o++H=(σ++H).set l o:=by
 rw[List.set_append_left _ _ h]
def yx{σ : ai}{ag:Bool}{n:Nat}{p:AV}{K:AV->Prop}{l:Nat}{o:bG}(h:p.obj≠some l)(hh:gE σ ag n p K): gE (σ.set l o) ag n p K:=by
 unfold gE at *;split at hh
 ·rename_i l' off;have hne:l≠l':=fun e=>h (by rw[e];rfl);rw[aI hne];exact hh
 ·exact hh
 ·rename_i el l' m i off;have hne:l≠l':=fun e=>h (by rw[e];rfl);rw[aI hne];exact hh
 exact hh
def aie {o : bf} {e : Env} {σ : ai} {v : AV} {σ' : ai} {l : Nat} {ob mA : bG} {rx : Option AX} (hr : o.qa = some rx) (hl : σ[l]? = some ob) (Iu : ob.like mA) (hap : ∀ x, rx = some x -> (x.ev e).obj ≠ some l) (hD : o.D P e σ v σ') :
    o.D P e (σ.set l mA) v (σ.set l mA):=by
 have hlt:l < σ.length:=(aK.1 hl).1;have hc:o.cls = .rd:=by cases o<;>simp[bf.qa]at hr<;>rfl
 unfold bf.D at *;simp only[hc]at hD |-;refine⟨fun H=>?_,trivial⟩;have h:=hD.1 H;rw[RQ hlt];have hl':(σ++H)[l]? = some ob:=ju H hl;generalize σ++H=s at *;have Ds:l<s.length:=(aK.1 hl').1
 have shape:∀ (k:Nat) (T:Option TypeId) (el:El) (xs:List AV),s[k]? = some (.bW T el xs)-> ∃ ys,(s.set l mA)[k]? = some (.bW T el ys)/\ys.length=xs.length:=fun k T el xs hk=>by
  by_cases Dt:l=k
  ·subst Dt;rw[hl']at hk;cases hk;obtain⟨ys,rfl,h2⟩:=Iu;exact⟨ys,by simp[Ds],h2⟩
  exact⟨xs,by rw[aI Dt];exact hk,rfl⟩
 cases o<;>simp only[bf.qa]at hr<;>(try (cases hr;done))<;>simp only[bf.run]at h |-
 case load ag n x =>
  cases hr;exact kU (fun v' h=>⟨h.1,rfl⟩) (yx (hap x rfl) h)
 case Ct el x lo hi =>
  split at h
  ·exact cG (fun _=>cG fun _ h=>⟨h.1,rfl⟩) h
  ·exact⟨h.1,cG (fun _=>cG fun _ h=>⟨h.1,rfl⟩) h.2⟩
  ·refine⟨h.1,?_⟩;have h:=h.2;split at h
   ·rename_i hk;obtain⟨ys,h1,h2⟩:=shape _ _ _ _ hk;simp only[h1,h2];exact⟨h.1,h.2.1,h.2.2.1,cG (fun _=>cG fun _ h=>⟨h.1,rfl⟩) h.2.2.2⟩
   exact h.elim
  exact h
 case jh el arr x i =>
  split at h
  ·split at h
   ·exact⟨h.1,h.2.1,h.2.2.1,h.2.2.2.1,rfl⟩
   ·refine⟨h.1,h.2.1,h.2.2.1,?_⟩;have h:=h.2.2.2;split at h
    ·rename_i hk;obtain⟨ys,h1,h2⟩:=shape _ _ _ _ hk;simp only[h1,h2];exact⟨h.1,h.2.1,h.2.2.1,rfl⟩
    exact h.elim
   ·exact⟨h.1,h.2.1,h.2.2.1,rfl⟩
   ·exact⟨h.1,h.2.1,h.2.2.1,rfl⟩
   ·exact⟨h.1,h.2.1,h.2.2.1,rfl⟩
   exact h.elim
  exact h.elim
def adi{o:bf}{e:Env}{σ : ai}{v:AV}{σ':ai}(hc:o.cls = .st)(hD:o.D P e σ v σ'): ∃ y l ob mA,o.rj=some y/\σ[l]? = some ob/\ob.like mA/\(y.ev e).obj=some l/\σ' = σ.set l mA:=by
 unfold bf.D at hD;simp only[hc]at hD;cases o<;>simp only[bf.cls]at hc<;>(try (cases hc;done))<;>simp only[bf.run]at hD
 case ex=>exact absurd hc ef.Ir.1
 case kG=>split at hc<;>cases hc
 case call=>split at hc<;>cases hc
 case qG f args =>
  split at hD
  ·cases args with
   | nil=>exact hD.elim
   | cons x xs =>
     obtain⟨l,ob,mA,r,h1,h2,h3,_,h5⟩:=hD;exact⟨x,l,ob,mA,rfl,h2,h3,h1,h5.2.symm⟩
  exact hD.elim
 case store n x v =>
  obtain⟨l,ob,mA,h1,h2,h3,_,h5⟩:=Dr hD;exact⟨x,l,ob,mA,rfl,h1,h2,h3,h5.2.symm⟩
 case jO k T cs =>
  split at hD
  ·rename_i n h1;split at hD
   ·rename_i h2;refine⟨.t k,n,.resv,.bH T cs,rfl,h2,trivial,?_,hD.2.symm⟩;simp only[AX.ev,h1,AV.obj]
   exact hD.elim
  exact hD.elim
 case n_ k T el x y =>
  split at hD
  ·rename_i n h1;split at hD
   ·rename_i h2;split at hD
    ·refine⟨.t k,n,.resv,.bW T el _,rfl,h2,trivial,?_,hD.2.2.2.2.symm⟩;simp only[AX.ev,h1,AV.obj]
    exact hD.elim
   exact hD.elim
  exact hD.elim
 case oa k el z x y =>
  split at hD
  ·rename_i n h1;split at hD
   ·rename_i h2;split at hD
    ·refine⟨.t k,n,.resv,.vec el _,rfl,h2,trivial,?_,hD.2.2.2.2.2.symm⟩;simp only[AX.ev,h1,AV.obj]
    exact hD.elim
   exact hD.elim
  exact hD.elim
def bf.NJ: bf->Option Nat
 | .jO k _ _=>some k
 | .n_ k _ _ _ _=>some k
 | .oa k _ _ _ _=>some k
 | _=>none
def aaS {o : bf} {k : Nat} {e : Env} {σ : ai} {v : AV} {σ' : ai} (h : o.NJ = some k) (hD : o.D P e σ v σ') :
    ∃ n ob,e k = .ref n 0/\σ[n]? = some .resv/\ob≠ .resv/\σ' = σ.set n ob/\ ∀ s:ai,s[n]? = some .resv->o.D P e s v (s.set n ob):=by
 cases o<;>simp[bf.NJ]at h
 case jO k' T cs =>
  subst h;have hD:bf.run P (.jO k' T cs) e σ (Is v σ') No:=hD;simp only[bf.run]at hD;split at hD
  ·rename_i n h1;split at hD
   ·rename_i h2;refine⟨n,_,h1,h2,aT,hD.2.symm,fun s hs=>?_⟩;show bf.run P (.jO k' T cs) e s (Is v _) No;simp only[bf.run,h1,hs];exact⟨hD.1,rfl⟩
   exact hD.elim
  exact hD.elim
 case n_ k' T el x y =>
  subst h;have hD:bf.run P (.n_ k' T el x y) e σ (Is v σ') No:=hD;simp only[bf.run]at hD;split at hD
  ·rename_i n h1;split at hD
   ·rename_i h2;split at hD
    ·rename_i ys h3;refine⟨n,_,h1,h2,aT,hD.2.2.2.2.symm,fun s hs=>?_⟩;show bf.run P (.n_ k' T el x y) e s (Is v _) No;simp only[bf.run,h1,hs,h3];exact⟨hD.1,hD.2.1,hD.2.2.1,hD.2.2.2.1,rfl⟩
    exact hD.elim
   exact hD.elim
  exact hD.elim
 case oa k' el z x y =>
  subst h;have hD:bf.run P (.oa k' el z x y) e σ (Is v σ') No:=hD;simp only[bf.run]at hD;split at hD
  ·rename_i n h1;split at hD
   ·rename_i h2;split at hD
    ·rename_i i m h3 h4;refine⟨n,_,h1,h2,aT,hD.2.2.2.2.2.symm,fun s hs=>?_⟩;show bf.run P (.oa k' el z x y) e s (Is v _) No;simp only[bf.run,h1,hs,h3,h4];exact⟨hD.1,hD.2.1,hD.2.2.1,hD.2.2.2.1,hD.2.2.2.2.1,rfl⟩
    exact hD.elim
   exact hD.elim
  exact hD.elim
def bf.oQ: bf->Option AX
 | .load _ _ x=>some x
 | .Ct _ x _ _=>some x
 | .jh _ _ x _=>some x
 | _=>none
def Iv{o:bf}{x:AX}(h:o.oQ=some x): o.cls = .rd:=by
 cases o<;>simp[bf.oQ]at h<;>rfl
def RR{o:bf}{e:Env}{σ : ai}{v:AV}{σ':ai}{x:AX}{l:Nat}{ob:bG}(hr:o.oQ=some x)(hlt:l < σ.length)(hne:(x.ev e).obj≠some l)(hD:o.D P e σ v σ'): o.D P e (σ.set l ob) v (σ.set l ob):=by
 have hc:=Iv hr;unfold bf.D at *;simp only[hc]at hD |-;refine⟨fun H=>?_,trivial⟩;have h:=hD.1 H;rw[RQ hlt];generalize σ++H=s at *;cases o<;>simp only[bf.oQ]at hr<;>(try (cases hr;done))<;>cases hr<;>simp only[bf.run]at h |-
 case load ag n =>
  exact kU (fun v' h=>⟨h.1,rfl⟩) (yx hne h)
 case Ct el lo hi =>
  split at h
  ·exact cG (fun _=>cG fun _ h=>⟨h.1,rfl⟩) h
  ·exact⟨h.1,cG (fun _=>cG fun _ h=>⟨h.1,rfl⟩) h.2⟩
  ·rename_i aS l' m o n hx;have Yx:l≠l':=fun e=>hne (by rw[hx,e];rfl);refine⟨h.1,?_⟩;have h:=h.2;rw[aI Yx];split at h
   ·rename_i hk;simp only[hk];exact⟨h.1,h.2.1,h.2.2.1,cG (fun _=>cG fun _ h=>⟨h.1,rfl⟩) h.2.2.2⟩
   exact h.elim
  exact h
 case jh el arr i =>
  split at h
  ·split at h
   ·exact⟨h.1,h.2.1,h.2.2.1,h.2.2.2.1,rfl⟩
   ·rename_i aS l' m o n hx;have Yx:l≠l':=fun e=>hne (by rw[hx,e];rfl);refine⟨h.1,h.2.1,h.2.2.1,?_⟩;have h:=h.2.2.2;rw[aI Yx];split at h
    ·rename_i hk;simp only[hk];exact⟨h.1,h.2.1,h.2.2.1,rfl⟩
    exact h.elim
   ·exact⟨h.1,h.2.1,h.2.2.1,rfl⟩
   ·exact⟨h.1,h.2.1,h.2.2.1,rfl⟩
   ·exact⟨h.1,h.2.1,h.2.2.1,rfl⟩
   exact h.elim
  exact h.elim
def akd{o:bf}{e:Env}{σ : ai}{v:AV}{σ':ai}(hc:o.cls = .ap)(hD:o.D P e σ v σ'): ∃ y,o.rj=some y/\((∃ H,σ' = σ++H)\/ ∃ l ob,l < σ.length/\(y.ev e).obj=some l/\σ' = σ.set l ob):=by
 unfold bf.D at hD;simp only[hc]at hD;cases o<;>simp only[bf.cls]at hc<;>(try (cases hc;done))<;>simp only[bf.run]at hD
 case ex=>exact absurd hc ef.Ir.2
 case kG=>split at hc<;>cases hc
 case call=>split at hc<;>cases hc
 case app T el x y =>
  refine⟨x,rfl,?_⟩
  have key:∀ ys:List AV,(match x.ev e with
   | .aP=>if ys.length=0 then Is v σ' .aP σ else fE ys.length el/\Is v σ' (.own el σ.length ys.length 0 ys.length) (σ++[.bW T el ys])
   | .aH true aS xs=>aS=el/\if ys.length=0 then Is v σ' (.aH true el xs) σ else fE (xs.length+ys.length) el/\Is v σ' (.own el σ.length (xs.length+ys.length) 0 (xs.length+ys.length)) (σ++[.bW T el (xs++ys)])
   | .own aS l m lo n => aS = el /\ match σ[l]? with
     | some (.bW T' bq xs)=>(T'=none\/T'=T)/\bq=el/\m=xs.length/\lo=0/\n=xs.length/\fE (xs.length+ys.length) el/\Is v σ' (.own el l (xs.length+ys.length) 0 (xs.length+ys.length)) (σ.set l (.bW T' el (xs++ys)))
     | _=>False
   | _=>False)->(∃ H,σ' = σ++H)\/ ∃ l ob,l < σ.length/\(x.ev e).obj=some l/\σ' = σ.set l ob:=fun ys h=>by
   split at h
   ·split at h
    ·exact .inl ⟨[],by rw[cI];exact h.2.symm⟩
    exact .inl ⟨_,h.2.2.symm⟩
   ·have h:=h.2;split at h
    ·exact .inl ⟨[],by rw[cI];exact h.2.symm⟩
    exact .inl ⟨_,h.2.2.symm⟩
   ·rename_i aS l m lo n hx;have h:=h.2;split at h
    ·rename_i hk;exact .inr ⟨l,_,(aK.1 hk).1,by rw[hx];rfl,h.2.2.2.2.2.2.2.symm⟩
    exact h.elim
   exact h.elim
  unfold oc fL at hD;split at hD
  ·exact key _ hD.2
  ·exact key _ hD.2.2
  ·have hD:=hD.2;split at hD
   ·exact key _ hD.2.2.2
   exact hD.elim
  ·exact key _ hD.2.2
  ·obtain⟨u,_,h2⟩:=oe hD.2.2;exact key _ h2.2
  exact hD.elim
end Go.AM
namespace Go.AM
def v7: Value->Option AV
 | .bool b=>some (.bool b)
 | .int k n=>some (.int k n)
 | .string s=>some (.str s.data.toList)
 | .pointer none=>some .ew
 | .slice none l c=>if l=0/\c=0 then some .aP else none
 | .map none=>some .iU
 | .nilFunc=>some .ld
 | .nilIface=>some .eG
 | _=>none
def Iw: List Value->Option (List AV)
 | []=>some []
 | v :: vs => match v7 v, Iw vs with
   | some a,some az=>some (a::az)
   | _,_=>none
def Vv: Value->Option AV
 | .agg cs=>(Iw cs.toList).map .agg
 | v=>v7 v
def cX(nt:Nat): Operand->Option AX
 | .tmp t=>if t<nt then some (.t t)else none
 | .const v=>(Vv v).map .c
 | .func f=>some (.c (.fn (.func f) [] []))
 | .global _=>none
def Cw(nt:Nat): List Operand->Option (List AX)
 | []=>some []
 | x :: xs => match cX nt x, Cw nt xs with
   | some a,some az=>some (a::az)
   | _,_=>none
def RT(nt:Nat): Option Operand->Option (Option AX)
 | none=>some none
 | some x=>(cX nt x).map some
def pK{α : Type}(nt:Nat)(at_:Nat->Option α): List (Nat × Operand)->Option (List (α × AX))
 | []=>some []
 | (i, x) :: r => match at_ i, cX nt x, pK nt at_ r with
   | some p,some a,some az=>some ((p,a)::az)
   | _,_,_=>none
section
variable (P:Program)
def lI(t:TypeId): Option Bool :=
 match P.underlying t with
 | some (.struct _)|some (.array _ _)=>some true
 | some _=>some false
 | none=>none
def iV(t:TypeId): Option El :=
 match lI P t,P.info? t with
 | some ag,some i=>if(ag || i.size==1) && i.bytes<=24*(i.size+1) && i.size<=1000 && i.zero.any (fun v=>v.cells.size==i.size)then some ⟨ag,i.size⟩else none
 | _,_=>none
def jv(t:TypeId): Option AV:=(P.info? t).bind fun i=>i.zero.bind Vv
def uf(fk:TypeId->Option (List Kd)): Nat->List Field->Option (List Kd)
 | _,[]=>some []
 | off, f :: fs => if f.name == "_" || f.offset != off then none else match fk f.type, P.info? f.type with
   | some ks,some i=>if i.size==ks.length then(uf fk (off+ks.length) fs).map (ks++ ·)else none
   | _,_=>none
def n6: (d:Nat)->TypeId->Option (List Kd)
 | 0,_=>none
 | d + 1, t => match P.underlying t with
   | some .bool=>some [.b]
   | some (.int _)=>some [.i]
   | some .string=>some [.s]
   | some (.struct fs)=>if P.stoodInHeld t then none else uf P (n6 d) 0 fs.toList
   | some (.array n e) => match n6 d e, P.info? e with
     | some ks,some i=>if i.size==ks.length && P.cellsOf e==ks.length then some (List.replicate n ks).flatten else none
     | _,_=>none
   | _=>none
structure Hints where
 mt:List Nat:=[]
 Hf:List Nat:=[]
 adj:List (Nat × El):=[]
 Vw:List Nat:=[]
 mth:List Nat:=[]
 rsv:List (Nat × Nat):=[]
def w5(b:Bool)(t:TypeId): Option TypeId:=if b then some t else none
def yy(b:Bool)(t:TypeId): w5 b t=none\/w5 b t=some t:=by cases b<;>simp[w5]
def og: Operand->Bool
 | .const (.slice none l c)=>l==0 && c==0
 | _=>false
def kV: Operand->Bool
 | .const (.pointer none) | .const .nilIface | .const .nilFunc | .const (.map none)=>true
 | _=>false
def J9: TypeDesc->Option NK
 | .pointer _=>some .p
 | .interface _=>some .i
 | .func ..=>some .f
 | .map ..=>some .m
 | _=>none
def z8: TypeDesc->Option (Option IntKind)
 | .string=>some none
 | .int k=>some (some k)
 | _=>none
def aaT: Operand->Option FuncId
 | .func f => match P.funcs[f]? with
   | some fn=>if fn.body.isNone then some f else none
   | none=>none
 | _=>none
def Vx(m q:Bool)(f:AX)(args:List AX): bf:=if m then .qG f args else .call q f args
def aaU(d:Bool)(el:El)(lo:Bool): ef:=if d then .G7 el lo else .Vp el lo
def Du: Option Nat->List Nat->Bool
 | some d,l=>l.contains d
 | none,_=>false
def Te(h:Hints): Option Nat->List (Nat × El)
 | some d=>h.adj.filterMap fun(k,el)=>if k / 100000=d+1 then some (k % 100000,el)else none
 | none=>[]
def Yy(l:List (Nat × El))(m q:Bool)(f:AX)(args:List AX): bf:=match l,f with
 | _::_,.c (.fn (.func n) [] [])=> .ex (.cw n args.length []) args
 | _,_=>Vx m q f args
def aif(h:Hints): Option Nat->Bool
 | some d=>h.mth.contains (200000+d)
 | none=>false
def Yz(p:Bool)(l:List (Nat × El))(m q:Bool)(f:AX)(args:List AX): bf:=match p,f with
 | true,.c (.fn (.func n) [] [])=> .ex (.pc n) args
 | _,_=>Yy l m q f args
def pL(nt:Nat)(h:Hints)(draw:Bool)(o:Oper): Option bf :=
 let has (l:List Nat):Bool:=match o.dst with
  | some d=>l.contains d
  | none=>false
 let vec:Option El:=match o.dst with
  | some d=>h.adj.lookup d
  | none=>none
 match o.op with
 | .move x=>(cX nt x).map fun a=>if !draw && Du o.dst h.Hf then .ex .frz [a]else .mv a
 | .assign x => match vec with
   | some el=>if og x then some (.nw el)else (cX nt x).map .mv
   | none=>(cX nt x).map .mv
 | .pick c a b => match cX nt c, cX nt a, cX nt b with
   | some c,some a,some b=>some (.pick c a b)
   | _,_,_=>none
 | .alloc t => match jv P t with
   | some z=>if z.cells.all AV.scalar then some (match o.dst.bind (fun d=>h.rsv.lookup d)with|some i=> .jO (nt+i) (w5 (has h.Vw) t) z.cells|none=> .alloc (w5 (has h.Vw) t) z.cells)else none
   | none=>none
 | .box t x=>(cX nt x).map fun ax=>if Du o.dst h.Vw then .vo t ax else .box ax
 | .build t parts => match jv P t, P.underlying t with
   | some z, some (.struct fs) =>
     if fs.toList.all (fun f=>(P.info? f.type).isSome) && z.cells.all AV.scalar then
      (pK nt (fun i=>(fs[i]?).map fun f=>(f.offset,P.cellsOf f.type)) parts.toList).map fun ps=> .build z.cells (ps.map fun p=>(p.1.1,p.1.2,p.2))
     else none
   | some z, some (.array _ el) =>
     if(P.info? el).isSome && z.cells.all AV.scalar then
      (pK nt (fun i=>some (i*P.cellsOf el,P.cellsOf el)) parts.toList).map fun ps=> .build z.cells (ps.map fun p=>(p.1.1,p.1.2,p.2))
     else none
   | _,_=>none
 | .buildSlice t n parts => match P.underlying t with
   | some (.slice e) => match iV P e, jv P e with
     | some el,some z=>if n*el.sz<=2^24 && z.fits el then(pK nt some parts.toList).map fun ps=> .kG (has h.mt) el z n ps else none
     | _,_=>none
   | _=>none
 | .load t a => match lI P t, P.info? t, cX nt a with
   | some ag,some i,some x=>if ag || i.size==1 then some (.load ag i.size x)else none
   | _,_,_=>none
 | .store t a v => match P.info? t, cX nt a, cX nt v with
   | some i,some x,some y=>some (.store i.size x y)
   | _,_,_=>none
 | .nilCheck x=>(cX nt x).map .p8
 | .binOp op t x y _ => match cX nt x, cX nt y with
   | some a, some b =>
     match P.underlying t with
     | some (.int _)|some .string=>some (.bin op a b)
     | some (.slice _) => if og y then (match op with
        | .eql=>some (.ex (if !draw && Du o.dst h.Hf then .G9 false else .Dk false) [a])
        | .neq=>some (.ex (if !draw && Du o.dst h.Hf then .G9 true else .Dk true) [a])
        | _=>none)else none
     | some d =>
       match J9 d with
       | some k =>
         if k == .p && !(kV x || kV y)then
          match d with
          | .pointer te => match P.info? te, op with
            | some _,.eql=>some (.Dl false a b)
            | some _,.neq=>some (.Dl true a b)
            | _,_=>none
          | _=>none
         else if kV x || kV y then
          match op with
          | .eql=>some (.p_ false k a b)
          | .neq=>some (.p_ true k a b)
          | _=>none
         else none
       | none =>
       match n6 P 12 t,lI P t,P.info? t with
       | some ks, some ag, some i =>
         if i.size==ks.length && (!ag || !P.eqGuardType P.depth t)then
          match op with
          | .eql=>some (.rW false ag ks a b)
          | .neq=>some (.rW true ag ks a b)
          | _=>none
         else none
       | _,_,_=>none
     | none=>none
   | _,_=>none
 | .unOp op _ x=>(cX nt x).map (.un op)
 | .convert s d x => match P.underlying s, P.underlying d, cX nt x with
   | some (.int _),some (.int k),some a=>some (.n9 k a)
   | some .string,some .string,some a=>some (.N1 a)
   | some .string, some (.slice e), some a => match P.underlying e, P.info? e with
     | some (.int .u8),some i=>if i.size==1 && i.bytes<=48 then some (.N2 a)else none
     | _,_=>none
   | some (.slice e), some .string, some a => match P.underlying e, P.info? e with
     | some (.int .u8),some i=>if i.size==1 then some (.yu a)else none
     | _,_=>none
   | some (.pointer t), some .unsafePointer, some a => match P.info? t with
     | some i=>if i.size==0 then none else some (.Gp a)
     | none=>none
   | some .unsafePointer, some (.pointer t), some a => match P.info? t with
     | some _=>some (.Gq t a)
     | none=>none
   | _,_,_=>none
 | .makeInterface t x => match P.underlying t with
   | some (.interface _)|none=>none
   | _=>(cX nt x).map (.Bc t)
 | .makeFunc fn first cap => match Cw nt first.toList, Cw nt cap.toList with
   | some a,some b=>some (.vg fn a b)
   | _,_=>none
 | .slice t x lo hi mx => match cX nt x, RT nt lo, RT nt hi, RT nt mx with
   | some a, some l, some h, some m =>
     match P.underlying t with
     | some .string=>if m.isNone then some (.vD a l h)else none
     | some (.slice e) => match m, h with
       | none,_=>(iV P e).map fun el=> .Ct el a l h
       | some mx,some hi=>(iV P e).map fun el=> .ex (aaU draw el l.isSome) (a::l.toList++[hi,mx])
       | _,_=>none
     | some (.array n e)=>if m.isNone then(iV P e).map fun el=> .ex (.Ik el n l.isSome h.isSome) (a::l.toList++h.toList)else none
     | _=>none
   | _,_,_,_=>none
 | .fieldAddr s x f => match P.underlying s, cX nt x with
   | some (.struct fs),some a=>(fs[f]?).bind fun fi=>if((P.info? fi.type).map (·.size)).getD 0==0 then none else some (.pn fi.offset a)
   | _,_=>none
 | .field s x f => match P.underlying s, cX nt x with
   | some (.struct fs), some a => (fs[f]?).bind fun fi => match lI P fi.type, P.info? fi.type with
     | some ag,some i=>if ag || i.size==1 then some (.field ag fi.offset i.size a)else none
     | _,_=>none
   | _,_=>none
 | .indexAddr t x i => match P.underlying t, cX nt x, cX nt i with
   | some (.slice e),some a,some b=>(iV P e).map fun el=> .jh el none a b
   | some (.array n e),some a,some b=>(iV P e).map fun el=> .jh el (some n) a b
   | _,_,_=>none
 | .index t x i => match P.underlying t, cX nt x, cX nt i with
   | some .string,some a,some b=>some (.mb a b)
   | some (.array n e),some a,some b=>(iV P e).map fun el=> .wX el n a b
   | _,_,_=>none
 | .extract x i=>(cX nt x).map fun a=> .ext a i
 | .makeSlice t l c => match P.underlying t, cX nt l, cX nt c with
   | some (.slice e), some a, some b => match iV P e, jv P e with
     | some el,some z=>some (match o.dst.bind (fun d=>h.rsv.lookup d)with|some i=> .oa (nt+i) el z a b|none=> .l7 el z a b)
     | _,_=>none
   | _,_,_=>none
 | .panic x=>(cX nt x).map .panic
 | .makeMap t none=>some (.ex .Fv [])
 | .lookup t x k ok => match P.underlying t, cX nt x, cX nt k with
   | some (.map key elem), some a, some b => match (P.underlying key).bind z8, jv P elem with
     | some kd,some z=>some (.ex (.Bb kd ok z) [a,b])
     | _,_=>none
   | _,_,_=>none
 | .mapUpdate t m k v | .insert t m k v => match P.underlying t, cX nt m, cX nt k, cX nt v with
   | some (.map key _), some a, some b, some c => match (P.underlying key).bind z8 with
     | some kd=>some (.ex (.zZ kd) [a,b,c])
     | none=>none
   | _,_,_,_=>none
 | .mapEntry t m k => match P.underlying t, cX nt m, cX nt k with
   | some (.map key elem), some a, some b => match (P.underlying key).bind z8, jv P elem with
     | some kd,some z=>some (.ex (.S9 kd z) [a,b])
     | _,_=>none
   | _,_,_=>none
 | .entryStore _ m s v => match cX nt m, cX nt s, cX nt v with
   | some a,some b,some c=>some (.ex .N0 [a,b,c])
   | _,_,_=>none
 | .sliceToArrayPointer t x => match P.underlying t, cX nt x with
   | some (.array n _),some a=>some (.ex (.s2a n) [a])
   | _,_=>none
 | .typeAssert x _ T ok => match P.underlying T with
   | some (.interface _)=>none
   | none=>none
   | some _ => match cX nt x, jv P T with
     | some a,some z=>some (.ex (.RO T ok z) [a])
     | _,_=>none
 | .range t x => match P.underlying t with
   | some .string=>(cX nt x).map .Dm
   | _=>none
 | .next x b=>if b then(cX nt x).map .Dn else none
 | .call c => match c.callee with
   | .value f => match aaT P f, cX nt f, Cw nt c.args.toList with
     | some g,_,some [a]=>some (.Bd g a)
     | _,some a,some az=>some (Yz (draw && aif h o.dst) (if draw then Te h o.dst else []) (draw && has h.mth) (if draw then !has h.Hf else has h.Hf) a az)
     | _,_,_=>none
   | .invoke r name => match cX nt r, Cw nt c.args.toList with
     | some a,some az=>some (.ex (.inv name) (a::az))
     | _,_=>none
   | .builtin .len => match c.argTypes[0]?, c.args.toList with
     | some t, [x] => match P.underlying t with
       | some .string=>(cX nt x).map (.len true)
       | some (.slice _)=>(cX nt x).map (.len false)
       | some (.map _ _)=>(cX nt x).map fun a=> .ex .Dj [a]
       | _=>none
     | _,_=>none
   | .builtin .append => match c.argTypes[0]?, c.argTypes[1]?, c.args.toList with
     | some t, some u, [x, y] => match P.underlying t, P.underlying u, cX nt x, cX nt y with
       | some (.slice e),some (.slice _),some a,some b=>(iV P e).map fun el=>if Du o.dst h.mt then .ex (.Vq el) [a,b]else if Du o.dst h.Hf then .ex (.G8 el) [a,b]else (match o.dst.bind (fun d=>h.rsv.lookup d)with|some i=> .n_ (nt+i) none el a b|none=> .app (w5 (has h.Vw) e) el a b)
       | some (.slice e),some .string,some a,some b=>(iV P e).map fun el=>if Du o.dst h.mt then .ex (.Vq el) [a,b]else .app (w5 (has h.Vw) e) el a b
       | _,_,_,_=>none
     | _,_,_=>none
   | .builtin .copy => match c.argTypes[0]?, c.args.toList with
     | some t, [x, y] => match P.underlying t, cX nt x, cX nt y with
       | some (.slice e),some a,some b=>(iV P e).map fun el=> .ex (.copy el) [a,b]
       | _,_,_=>none
     | _,_=>none
   | .builtin .clear => match c.argTypes[0]?, c.args.toList with
     | some t, [x] => match P.underlying t, cX nt x with
       | some (.slice e), some a => match iV P e, jv P e with
         | some el,some z=>some (.ex (.clr el z) [a])
         | _,_=>none
       | _,_=>none
     | _,_=>none
   | .builtin .unsafeSliceData => match c.argTypes[0]?, c.args.toList with
     | some t, [x] => match P.underlying t, cX nt x with
       | some (.slice e),some a=>(iV P e).map fun el=> .z6 el a
       | _,_=>none
     | _,_=>none
   | .builtin .unsafeString => match c.argTypes.toList, c.args.toList with
     | [t, _], [x, y] => match P.underlying t, cX nt x, cX nt y with
       | some (.pointer e),some a,some b=>if P.cellsOf e==1 then some (.vi e a b)else none
       | _,_,_=>none
     | _,_=>none
   | .builtin .min => match Cw nt c.args.toList with
     | some (a::az)=>some (.min a az)
     | _=>none
   | .builtin .max => match Cw nt c.args.toList with
     | some (a::az)=>some (.max a az)
     | _=>none
   | _=>none
 | _=>none
end
structure fm (nt:Nat) (g:aC) (w:World) (e:Env) (tmps:Array Value):Prop where
 size:tmps.size=nt
 rel:∀ t,t<nt->VR g w (e t) (tmps.getD t Go.undef)
def fm.mono{nt:Nat}{g g':aC}{w w':World}{e:Env}{tmps:Array Value}(h:fm nt g w e tmps)(hm:jQ g w g' w'): fm nt g' w' e tmps :=
 ⟨h.size,fun t ht=>(h.rel t ht).mono hm⟩
def fm.put{nt:Nat}{g:aC}{w:World}{e:Env}{a:Act}(h:fm nt g w e a.tmps)(d:Option Nat){x:AV}{v:Value}(hv:VR g w x v): fm nt g w (cZ e d x) (a.put d v).tmps:=by
 cases d with
 | none=>exact h
 | some d =>
   refine⟨by simp[Act.put,h.size],fun t ht=>?_⟩;simp only[cZ,Act.put];by_cases e1:t=d
   ·subst e1;have:t<a.tmps.size:=by rw[h.size];exact ht
    simp[this,hv]
   have:=h.rel t ht;simp only[aq e1];simpa[Array.getElem?_setIfInBounds_ne (Ne.symm e1)]using this
def LG{v:Value}{a:AV}(h:v7 v=some a)(g:aC)(w:World): VR g w a v/\a.scalar=true:=by
 cases v<;>simp only[v7]at h
 case bool b=>cases h;exact⟨.bool b,rfl⟩
 case int k n=>cases h;exact⟨.int k n,rfl⟩
 case string s=>cases h;exact⟨by simpa using VR.str (g:=g) (w:=w) s.data.toList,rfl⟩
 case pointer p=>cases p<;>simp[v7]at h;subst h;exact⟨.ew,rfl⟩
 case slice p l c =>
  cases p with
  | none =>
    simp only[v7]at h;split at h
    ·rename_i e;obtain⟨rfl,rfl⟩:=e;cases h;exact⟨.aP,rfl⟩
    ·cases h
  | some p=>simp[v7]at h
 case map p=>cases p<;>simp[v7]at h;subst h;exact⟨.iU,rfl⟩
 case nilFunc=>cases h;exact⟨.ld,rfl⟩
 case nilIface=>cases h;exact⟨.eG,rfl⟩
 all_goals cases h
def Tf {vs : List Value} {az : List AV} (h : Iw vs = some az) (g : aC) (w : World) :
    az.length=vs.length/\az.all AV.scalar=true/\ ∀ i,i<az.length->VR g w (az.getD i .undef) (vs.getD i Go.undef):=by
 induction vs generalizing az with
 | nil=>cases h;exact⟨rfl,rfl,fun i hi=>absurd hi (Nat.not_lt_zero _)⟩
 | cons v vs ih =>
   simp only[Iw]at h;split at h
   ·rename_i a az' h1 h2;cases h;obtain⟨i1,i2,i3⟩:=ih h2;obtain⟨j1,j2⟩:=LG h1 g w;refine⟨by simp[i1],by simpa[j2]using i2,fun i hi=>?_⟩;cases i with
    | zero=>simpa using j1
    | succ i=>simpa using i3 i (by simpa using hi)
   ·cases h
def J_{v:Value}{a:AV}(h:Vv v=some a)(g:aC)(w:World): VR g w a v/\a.cells.all AV.scalar=true:=by
 by_cases hv:∃ cs,v = .agg cs
 ·obtain⟨cs,rfl⟩:=hv;simp only[Vv,aW]at h;obtain⟨az,h1,rfl⟩:=h;obtain⟨i1,i2,i3⟩:=Tf h1 g w;exact⟨.agg az cs (by simpa using i1) i2 (fun i hi=>by simpa using i3 i hi),i2⟩
 have h':v7 v=some a:=by
  cases v<;>simp only[Vv]at h<;>first|exact h|exact absurd ⟨_,rfl⟩ hv
 obtain⟨j1,j2⟩:=LG h' g w;refine⟨j1,?_⟩;cases a<;>simp[AV.scalar]at j2<;>simp[AV.cells,AV.scalar]
def bL{nt:Nat}{x:Operand}{ax:AX}{g:aC}{w:World}{e:Env}{a:Act}(h:cX nt x=some ax)(hE:fm nt g w e a.tmps): VR g w (ax.ev e) (a.eval x):=by
 cases x with
 | tmp t =>
   simp only[cX]at h;split at h
   ·cases h;exact hE.rel t ‹_›
   ·cases h
 | const v =>
   simp only[cX,aW]at h;obtain⟨b,h1,rfl⟩:=h;exact(J_ h1 g w).1
 | global n=>cases h
 | func f=>cases h;exact .fn _ [] [] #[] #[] rfl rfl (fun i hi=>absurd hi (Nat.not_lt_zero _)) (fun i hi=>absurd hi (Nat.not_lt_zero _))
def abx {nt : Nat} {xs : List Operand} {az : List AX} {g : aC} {w : World} {e : Env} {a : Act} (h : Cw nt xs = some az) (hE : fm nt g w e a.tmps) :
    az.length=xs.length/\ ∀ i,i<az.length->VR g w ((az.map (AX.ev e)).getD i .undef) ((xs.map a.eval).getD i Go.undef):=by
 induction xs generalizing az with
 | nil=>cases h;exact⟨rfl,fun i hi=>absurd hi (Nat.not_lt_zero _)⟩
 | cons x xs ih =>
   simp only[Cw]at h;split at h
   ·rename_i b bs h1 h2;cases h;obtain⟨i1,i2⟩:=ih h2;refine⟨by simp[i1],fun i hi=>?_⟩;cases i with
    | zero=>simpa using bL h1 hE
    | succ i=>simpa using i2 i (by simpa using hi)
   ·cases h
def Nh{v:Value}(h:v.oneCell'=true): v.cells = #[v]:=by
 cases v<;>first|rfl|(simp[Value.oneCell']at h;done)
def lj {g : aC} {w : World} {a : AV} {v : Value} (h : VR g w a v) (hs : a.cells.all AV.scalar = true) :
    a.cells.length=v.cells.size/\ ∀ i,i<a.cells.length->VR g w (a.cells.getD i .undef) (v.cells.getD i Go.undef):=by
 by_cases hv:∃ cs,a = .agg cs
 ·obtain⟨cs,rfl⟩:=hv;cases h with
  | agg cs vs hl hs h=>exact⟨hl,h⟩
 have hc:a.cells=[a]:=by cases a<;>first|rfl|exact absurd ⟨_,rfl⟩ hv
 rw[hc]at hs;have hsc:a.scalar=true:=by simpa using hs
 have h1:=Nh (h.Fu hsc);rw[hc,h1];refine⟨rfl,fun i hi=>?_⟩;have:i=0:=by simpa using hi
 subst this;simpa using h
def v8{cs:List AV}(h:cs.all AV.scalar=true){i:Nat}(hi:i<cs.length): (cs.getD i .undef).scalar=true:=by
 have:=bt.1 h (cs[i]) (c9 _);simpa[hi]using this
def bD(P:Program)(s:Sem Value)(g:aC)(w:World)(σ : ai)(K:AV->ai->Prop): Prop :=
 ∃ v w' g' av σ',s.run P w = .ok v w'/\Rel g' w' σ'/\ep σ g w σ' g' w'/\VR g' w' av v/\K av σ'
def bD.pure {P : Program} {s : Sem Value} {g : aC} {w : World} {σ : ai} {K : AV -> ai -> Prop} {v : Value} {av : AV} (hR : Rel g w σ) (h : s.run P w = .ok v w) (hv : VR g w av v) (hk : K av σ) :
    bD P s g w σ K:=⟨v,w,g,av,σ,h,hR,.refl _ _ _,hv,hk⟩
section
variable {P:Program} {g:aC} {w:World} {σ : ai} {K:AV->ai->Prop}
def run_typeInfo{t:TypeId}{i:TypeInfo}(h:P.info? t=some i)(w:World): (typeInfo t).run P w = .ok i w:=by
 simp[typeInfo,h]
def aU{t:TypeId}{d:TypeDesc}(h:P.underlying t=some d)(w:World): (underlying t).run P w = .ok d w:=by
 simp[underlying,h]
def c_{t:TypeId}{i:TypeInfo}(h:P.info? t=some i)(w:World): (sizeOf t).run P w = .ok i.size w:=by
 simp[sizeOf,run_typeInfo h]
def jX{t:TypeId}{b:Bool}(h:lI P t=some b)(w:World): (isAgg t).run P w = .ok b w:=by
 unfold lI at h;split at h
 ·rename_i hu;cases h;simp[isAgg,aU hu]
 ·rename_i hu;cases h;simp[isAgg,aU hu]
 ·rename_i d h1 h2 hu;cases h;simp only[isAgg,Sem.run_bind,aU hu,Result.andThen_ok];cases d<;>first|rfl|exact absurd hu (h1 _)|exact absurd hu (h2 _ _)
 ·cases h
def rm{t:TypeId}{z:AV}(h:jv P t=some z)(w:World): ∃ v,(zeroValue t).run P w = .ok v w/\ ∀ g w,VR g w z v/\z.cells.all AV.scalar=true:=by
 unfold jv at h;cases hi:P.info? t with
 | none=>simp[hi]at h
 | some i =>
   simp only[hi,Option.bind_some]at h;cases hz:i.zero with
   | none=>simp[hz]at h
   | some v =>
     simp only[hz,Option.bind_some]at h;exact⟨v,by simp[zeroValue,run_typeInfo hi,hz],fun g w=>J_ h g w⟩
def uH(w:World)(vs:Array Value)(t:TypeId): Row (w.alloc (.cells vs t)) w.heap.size vs:=by
 refine⟨t,(0,0),heap_alloc_new w _,fun i _=>?_⟩;exact World.frozen?_alloc_new w vs t i
def mF(el:El)(w:World)(vs:Array Value)(t:TypeId): qF el (w.alloc (.cells vs t)) w.heap.size vs :=
 ⟨uH w vs t,fun _ i=>World.frozen?_alloc_new w vs t i⟩
def Dv (hR : Rel g w σ) (t : TypeId) {cs : List AV} {vs : Array Value} (hs : cs.all AV.scalar = true) (hl : cs.length = vs.size)
    (h:∀ i,i<cs.length->VR g w (cs.getD i .undef) (vs.getD i Go.undef))
    (T : Option TypeId) (hT : T = none \/ T = some t) : ∃ g', Rel g' (w.alloc (.cells vs t)) (σ ++ [.bH T cs]) /\ ep σ g w (σ ++ [.bH T cs]) g' (w.alloc (.cells vs t)) /\
      VR g' (w.alloc (.cells vs t)) (.ref σ.length 0) (.pointer (some ⟨w.heap.size,0,none⟩)):=by
 have hm:=kj g w (.cells vs t) 1 (some w.heap.size) 0 hR.lt
 have hty:tf (w.alloc (.cells vs t)) w.heap.size cs.length T:=by
  rcases hT with rfl|rfl
  ·trivial
  have:(w.alloc (.cells vs t)).heap[w.heap.size]? = some (.cells vs t):=by show(w.heap.push _)[w.heap.size]? = _;simp
  simp only[tf,World.shape?,this,hl]
 obtain⟨h1,h2⟩:=hR.pG (.cells vs t) (.bH T cs) 1 0
  ⟨by simp[aC.push],hs,w.heap.size,vs,by simp[aC.push],uH w vs t,hl.symm,fun i hi=>(h i hi).mono hm,hty⟩
 refine⟨_,h1,h2,.ref _ _ _ ⟨by simp[aC.push,hR.len],_,rfl,fun _=>⟨by simp[aC.push,hR.len],rfl⟩⟩⟩
def QC {t : TypeId} {T : Option TypeId} (hT : T = none \/ T = some t) {z : AV} (hR : Rel g w σ) (hz : jv P t = some z) (hK : K (.ref σ.length 0) (σ ++ [.bH T z.cells])) :
    bD P (Instr.alloc t true (.tuple #[])) g w σ K:=by
 obtain⟨v,h1,h2⟩:=rm hz w;obtain⟨h3,h4⟩:=h2 g w;obtain⟨h5,h6⟩:=lj h3 h4;obtain⟨g',r1,r2,r3⟩:=Dv hR t h4 h5 h6 T hT;refine⟨_,_,g',_,_,?_,r1,r2,r3,hK⟩;simp[Instr.alloc,h1,newVar,newRow]
def Ni {t : TypeId} {T : Option TypeId} (hT : T = none \/ T = some t) {n : Nat} {z : AV} (hR : Rel g w σ) (hn : σ[n]? = some .resv) (hz : jv P t = some z) (hK : K (.ref n 0) (σ.set n (.bH T z.cells))) :
    bD P (Instr.alloc t true (.tuple #[])) g w σ K:=by
 obtain⟨v,h1,h2⟩:=rm hz w;obtain⟨h3,h4⟩:=h2 g w;obtain⟨h5,h6⟩:=lj h3 h4;obtain⟨mz,hb0,_⟩:=hR.ok n _ hn;have hnn:n<g.n:=by rw[<-hR.len];exact(aK.1 hn).1
 have hty:∀ vs:Array Value,z.cells.length=vs.size->tf (w.alloc (.cells vs t)) w.heap.size z.cells.length T:=fun vs hl=>by
  rcases hT with rfl|rfl
  ·trivial
  have:(w.alloc (.cells vs t)).heap[w.heap.size]? = some (.cells vs t):=by show(w.heap.push _)[w.heap.size]? = _;simp
  simp only[tf,World.shape?,this,hl]
 obtain⟨r1,r2⟩:=hR.change (w':=w.alloc (.cells _ t)) (o':= .bH T z.cells) hn rfl 1 (some w.heap.size) 0 0 ae (fun h=>by omega) aT rfl rfl rfl
  (fun b hb _=>heap_alloc_old w _ hb) (fun b hb=>by cases hb;exact .inr (Nat.le_refl _))
  (fun hm=>⟨by simp[aC.reset],h4,w.heap.size,_,by simp[aC.reset],uH w _ t,h5.symm,fun i hi=>(h6 i hi).mono hm,hty _ h5⟩)
 refine⟨_,_,_,_,_,?_,r1,r2,.ref _ _ _ ⟨⟨hnn,by simp[aC.reset]⟩,⟨w.heap.size,0,none⟩,rfl,fun _=>⟨by simp[aC.reset],rfl⟩⟩,hK⟩;simp[Instr.alloc,h1,newVar,newRow]
def Vy {t : TypeId} {a : AV} {v : Value} (hR : Rel g w σ) (hv : VR g w a v) (hs : a.cells.all AV.scalar = true) (hK : K (.ref σ.length 0) (σ ++ [.cells a.cells])) :
    bD P (Instr.box t v) g w σ K:=by
 obtain⟨h5,h6⟩:=lj hv hs;obtain⟨g',r1,r2,r3⟩:=Dv hR t hs h5 h6 none (.inl rfl);refine⟨_,_,g',_,_,?_,r1,r2,r3,hK⟩;simp[Instr.box,newVar,newRow]
def Ti {t : TypeId} {a : AV} {v : Value} (hR : Rel g w σ) (hv : VR g w a v) (hs : a.cells.all AV.scalar = true) (hK : K (.ref σ.length 0) (σ ++ [.bH (some t) a.cells])) :
    bD P (Instr.box t v) g w σ K:=by
 obtain⟨h5,h6⟩:=lj hv hs;obtain⟨g',r1,r2,r3⟩:=Dv hR t hs h5 h6 (some t) (.inr rfl);refine⟨_,_,g',_,_,?_,r1,r2,r3,hK⟩;simp[Instr.box,newVar,newRow]
def run_loadCells {b o : Nat} {n : Nat} (hc : ∀ c, c < n -> (w.cell? ⟨b, o + c, none⟩).isSome = true) :
    ∀(i:Nat) (acc:Array Value) (m:Nat),i+m=n->(loadCellsFrom ⟨b,o,none⟩ i m acc).run P w = .ok (acc++((List.range' i m).map fun c=>dn w ⟨b,o+c,none⟩).toArray) w:=by
 intro i acc m
 induction m generalizing i acc with
 | zero=>intro _;simp[loadCellsFrom]
 | succ m ih =>
   intro hi;have h1:=hc i ae
   have ha:(⟨b,o,none⟩:Addr).add i=⟨b,o+i,none⟩:=by
    unfold Addr.add;split
    ·rename_i h0;subst h0;rfl
    rfl
   obtain⟨v,hv⟩:=eJ.1 h1;simp only[loadCellsFrom,Sem.run_bind,run_load,ha,hv,Result.andThen_ok];rw[ih (i+1) (acc.push v) ae];simp[List.range'_succ,dn,hv]
def Hg {t : TypeId} {ag : Bool} {i : TypeInfo} {b o : Nat} (hA : lI P t = some ag) (hi : P.info? t = some i) (h1 : ag = false -> i.size = 1)
    (hc:∀ c,c<i.size->(w.cell? ⟨b,o+c,none⟩).isSome=true) :
    (loadVar t ⟨b,o,none⟩).run P w = .ok (if ag then .agg ((List.range i.size).map fun c=>dn w ⟨b,o+c,none⟩).toArray else dn w ⟨b,o,none⟩) w:=by
 cases ag with
 | true =>
   have:=run_loadCells (P:=P) hc 0 #[] i.size ae;simp[loadVar,jX hA,c_ hi,loadCells,this,iL]
 | false =>
   have h2:=hc 0 (by rw[h1 rfl];omega);obtain⟨v,hv⟩:=eJ.1 h2;simp only[dP]at hv;simp[loadVar,jX hA,hv,dn]
end
section
variable {P:Program} {g:aC} {w:World} {σ : ai} {K:AV->ai->Prop}
def Hh {g : aC} {w : World} {ag : Bool} {n : Nat} {b o : Nat} {cs : List AV} (h1 : ag = false -> n = 1) (hl : cs.length = n) (hs : ag = true -> cs.all AV.scalar = true)
    (h:∀ c,c<n->VR g w (cs.getD c .undef) (dn w ⟨b,o+c,none⟩)) :
    VR g w (if ag then .agg cs else cs.getD 0 .undef) (if ag then .agg ((List.range n).map fun c=>dn w ⟨b,o+c,none⟩).toArray else dn w ⟨b,o,none⟩):=by
 cases ag with
 | true =>
   refine .agg cs _ (by simp[hl]) (hs rfl) (fun i hi=>?_);have:=h i ae;have h2:i<n:=ae;simpa[h2]using this
 | false =>
   have:=h 0 (by rw[h1 rfl];omega);simpa using this
def iA{cs:List AV}{off n c:Nat}(hc:c<n): ((cs.drop off).take n).getD c .undef=cs.getD (off+c) .undef:=by
 simp[hc]
def oG{cs:List AV}(h:cs.all AV.scalar=true)(off n:Nat): ((cs.drop off).take n).all AV.scalar=true:=by
 rw[bt]at h |-;exact fun x hx=>h x (List.mem_of_mem_drop (List.mem_of_mem_take hx))
def Ka{el:El}{x:AV}(h:x.fits el=true)(ha:el.ag=false): el.sz=1:=by
 cases x<;>simp_all[AV.fits]
def Tj {g : aC} {w : World} {el : El} {x : AV} {b o : Nat} (hel : el.ag = false -> el.sz = 1) (ft : x.fits el = true)
    (h:∀ c,c<el.sz->VR g w (x.cell c) (dn w ⟨b,o+c,none⟩)) :
    VR g w x (if el.ag then .agg ((List.range el.sz).map fun c=>dn w ⟨b,o+c,none⟩).toArray else dn w ⟨b,o,none⟩):=by
 by_cases hx:∃ cs,x = .agg cs
 ·obtain⟨cs,rfl⟩:=hx;simp only[AV.fits,aD,beq_iff_eq]at ft;obtain⟨⟨h1,h2⟩,h3⟩:=ft;have:=Hh (g:=g) (w:=w) (ag:=el.ag) (n:=el.sz) (b:=b) (o:=o) (cs:=cs) hel h2 (fun _=>h3) h;rw[h1]at this |-;simpa using this
 have hag:el.ag=false:=by
  cases x<;>first
   | exact absurd ⟨_,rfl⟩ hx
   |(simp only[AV.fits,aD,dR]at ft;exact ft.1)
   | cases ft
 have h0:=h 0 (by rw[hel hag];omega);have hc:x.cell 0=x:=by cases x<;>first|rfl|exact absurd ⟨_,rfl⟩ hx
 rw[hc]at h0;rw[hag];simpa using h0
def Ix {t : TypeId} {ag : Bool} {i : TypeInfo} {el : El} {x : AV} {b o off : Nat} (hel : el.ag = false -> el.sz = 1) (hA : lI P t = some ag) (hi : P.info? t = some i) (h1 : ag = false -> i.size = 1)
    (ft:x.fits el=true) (hc:∀ c,c<el.sz->(w.cell? ⟨b,o+c,none⟩).isSome=true)
    (h:∀ c,c<el.sz->VR g w (x.cell c) (dn w ⟨b,o+c,none⟩)) {K:AV->Prop} (hK:partOf el x off ag i.size K) :
    ∃ v av,(loadVar t ⟨b,o+off,none⟩).run P w = .ok v w/\VR g w av v/\K av:=by
 unfold partOf at hK;split at hK
 ·rename_i e;obtain⟨rfl,e2,rfl⟩:=e;refine⟨_,x,Hg hA hi h1 (fun c lg=>hc c ae),?_,hK⟩;have:=Tj hel ft h;rw[<-e2]at this;simpa using this
 obtain⟨h2,h3⟩:=hK;cases x<;>simp only at h3
 case agg cs =>
  obtain⟨h4,h5⟩:=h3;simp only[AV.fits,aD,beq_iff_eq]at ft;obtain⟨⟨_,hl⟩,hs⟩:=ft;have e:∀ c,(⟨b,o+off+c,none⟩:Addr)=⟨b,o+(off+c),none⟩:=fun c=>by rw[bP]
  refine⟨_,_,Hg hA hi h1 (fun c lg=>by rw[e];exact hc (off+c) ae),?_,h4⟩
  have:=Hh (g:=g) (w:=w) (ag:=ag) (n:=i.size) (b:=b) (o:=o+off) (cs:=(cs.drop off).take i.size) h1 (by simp;omega) (fun _=>oG hs _ _)
   (fun c lg=>by rw[iA lg,e];exact h (off+c) ae)
  cases ag with
  | true=>simpa using this
  | false =>
    rw[h1 rfl]at this;have e0:((cs.drop off).take 1).getD 0 .undef=cs.getD off .undef:=by rw[iA ae];rfl
    simp only[aN,if_false]at this |-;rw[e0]at this;exact this
def Dw {t : TypeId} {ag : Bool} {i : TypeInfo} {p : AV} {v : Value} (hR : Rel g w σ) (hA : lI P t = some ag) (hi : P.info? t = some i) (h1 : ag = false -> i.size = 1)
    (hv:VR g w p v)
    {K:AV->Prop} (hK:gE σ ag i.size p K):∃ u av,(Instr.loadAt t v).run P w = .ok u w/\VR g w av u/\K av:=by
 cases hv<;>simp only[gE]at hK
 case ref l off h =>
  obtain⟨hl,A,rfl,vE⟩:=h;split at hK
  ·rename_i cs hcs;obtain⟨k1,k2,k3⟩:=hK;obtain⟨o1,o2,b,vs,o3,o4,o5,o6,_⟩:=hR.ok l _ hcs;obtain⟨a1,a2⟩:=vE o1;have hb:A.block=b:=by rw[a1]at o3;cases o3;rfl
   rw[a2,hb];have hcell:∀ c,c<i.size->w.cell? ⟨b,off+c,none⟩=some (vs.getD (off+c) Go.undef):=fun c hc=>o4.cell ae;have hD:∀ c,c<i.size->dn w ⟨b,off+c,none⟩=vs.getD (off+c) Go.undef:=fun c hc=>by simp[dn,hcell c hc]
   have hrun:=Hg (P:=P) (w:=w) (b:=b) (o:=off) hA hi h1 (fun c hc=>by simp[hcell c hc]);refine⟨_,_,by simpa[Instr.loadAt,Instr.sureAddr]using hrun,?_,k3⟩
   have:=Hh (g:=g) (w:=w) (ag:=ag) (n:=i.size) (b:=b) (o:=off) (cs:=(cs.drop off).take i.size) h1 (by simp;omega) (fun _=>oG o2 _ _)
    (fun c hc=>by rw[iA hc,hD c hc];exact o6 (off+c) ae)
   cases ag with
   | true=>simpa using this
   | false =>
     rw[h1 rfl]at this;have e0:((cs.drop off).take 1).getD 0 .undef=cs.getD off .undef:=by rw[iA ae];rfl
     simp only[aN,if_false]at this |-;rw[e0]at this;exact this
  exact hK.elim
 case cN el x off b o hi' ft hc h =>
  have hel:el.ag=false->el.sz=1:=Ka ft;obtain⟨v,av,r1,r2,r3⟩:=Ix (P:=P) hel hA hi h1 ft hc h hK;exact⟨_,_,by simpa[Instr.loadAt,Instr.sureAddr]using r1,r2,r3⟩
 case dw el l m j off h =>
  obtain⟨hl,hm,A,rfl,vE⟩:=h;split at hK
  ·rename_i aS xs hxs;obtain⟨rfl,rfl,k3,k4⟩:=hK;obtain⟨o1,o2,o3⟩:=hR.ok l _ hxs;rcases o3 with⟨rfl,_,_⟩|⟨b,vs,b1,b2,b3,b4,b5,_⟩
   ·exact absurd k3 (cJ _)
   obtain⟨a1,a2⟩:=vE o1.symm;have hb:A.block=b:=by rw[a1]at b1;cases b1;rfl
   rw[a2,hb]
   have hlt:∀ c,c<aS.sz->g.off l+j*aS.sz+c<vs.size:=fun c hc=>by
    rw[b3];have:j*aS.sz+aS.sz<=g.cap l*aS.sz:=by rw[<-dy];exact bw _ ae
    omega
   have hcell:∀ c,c<aS.sz->w.cell? ⟨b,g.off l+j*aS.sz+c,none⟩=some (vs.getD (g.off l+j*aS.sz+c) Go.undef):=fun c hc=>b2.cell (hlt c hc);have hsome:∀ c,c<aS.sz->(w.cell? ⟨b,g.off l+j*aS.sz+c,none⟩).isSome=true:=fun c hc=>by rw[hcell c hc];rfl
   have hD:∀ c,c<aS.sz->dn w ⟨b,g.off l+j*aS.sz+c,none⟩=vs.getD (g.off l+j*aS.sz+c) Go.undef:=fun c hc=>by unfold dn;rw[hcell c hc];rfl
   obtain⟨v,av,r1,r2,r3⟩:=Ix (P:=P) (g:=g) (b:=b) (o:=g.off l+j*aS.sz) (Ka (o2 j k3)) hA hi h1 (o2 j k3) hsome
    (fun c hc=>by rw[hD c hc];exact b5 j c k3 hc) k4
   exact⟨_,_,by simpa[Instr.loadAt,Instr.sureAddr]using r1,r2,r3⟩
  exact hK.elim
def Iy {n : Nat} {p : AV} {A : Addr} (hR : Rel g w σ) (hv : VR g w p (.pointer (some A))) {K : AV -> Prop} (hK : gE σ true n p K) :
    ∃ b o cs,A=⟨b,o,none⟩/\cs.length=n/\cs.all AV.scalar=true/\K (.agg cs)/\(∀ c,c<n->(w.cell? ⟨b,o+c,none⟩).isSome=true)/\ ∀ c,c<n->VR g w (cs.getD c .undef) (dn w ⟨b,o+c,none⟩):=by
 have part:∀ {el:El} {x:AV} {b o off:Nat},x.fits el=true->(∀ c,c<el.sz->(w.cell? ⟨b,o+c,none⟩).isSome=true)->(∀ c,c<el.sz->VR g w (x.cell c) (dn w ⟨b,o+c,none⟩))->partOf el x off true n K ->
  ∃ cs,cs.length=n/\cs.all AV.scalar=true/\K (.agg cs)/\(∀ c,c<n->(w.cell? ⟨b,o+off+c,none⟩).isSome=true)/\ ∀ c,c<n->VR g w (cs.getD c .undef) (dn w ⟨b,o+off+c,none⟩):=by
  intro el x b o off ft hc h hK;unfold partOf at hK;split at hK
  ·rename_i e;obtain⟨rfl,rfl,e3⟩:=e;cases x<;>simp only[AV.fits,<-e3,Bool.not_true,Bool.false_and,Bool.true_and,Bool.false_eq_true,Bool.and_eq_true,beq_iff_eq]at ft;exact⟨_,ft.1,ft.2,hK,hc,h⟩
  obtain⟨h2,h3⟩:=hK;cases x<;>simp only at h3
  case agg cs =>
   simp only[AV.fits,aD,beq_iff_eq]at ft;obtain⟨⟨_,hl⟩,hs⟩:=ft;refine⟨(cs.drop off).take n,by simp;omega,oG hs _ _,by simpa using h3.1,fun c lg=>by rw[bP];exact hc _ ae,fun c lg=>?_⟩;rw[iA lg,bP];exact h (off+c) ae
 cases hv<;>simp only[gE]at hK
 case ref l off h =>
  obtain⟨hl,A',e,vE⟩:=h;cases e;split at hK
  ·rename_i cs hcs;obtain⟨k1,_,k3⟩:=hK;obtain⟨o1,o2,b,vs,o3,o4,o5,o6,_⟩:=hR.ok l _ hcs;obtain⟨a1,a2⟩:=vE o1;have hb:A.block=b:=by rw[a1]at o3;cases o3;rfl
   rw[hb]at a2;have hcell:∀ c,c<n->w.cell? ⟨b,off+c,none⟩=some (vs.getD (off+c) Go.undef):=fun c hc=>o4.cell ae;refine⟨b,off,(cs.drop off).take n,a2,by simp;omega,oG o2 _ _,by simpa using k3,fun c hc=>by rw[hcell c hc];rfl,fun c hc=>?_⟩;rw[iA hc];have:dn w ⟨b,off+c,none⟩=vs.getD (off+c) Go.undef:=by simp[dn,hcell c hc]
   rw[this];exact o6 (off+c) ae
  exact hK.elim
 case cN el x off b o hi' ft hc h =>
  obtain⟨cs,h1,h2,h3,h4,h5⟩:=part ft hc h hK;exact⟨b,o+off,cs,rfl,h1,h2,h3,h4,h5⟩
 case dw el l m j off h =>
  obtain⟨hl,hm,A',e,vE⟩:=h;cases e;split at hK
  ·rename_i aS xs hxs;obtain⟨rfl,rfl,k3,k4⟩:=hK;obtain⟨o1,o2,o3⟩:=hR.ok l _ hxs;rcases o3 with⟨rfl,_,_⟩|⟨b,vs,b1,b2,b3,b4,b5,_⟩
   ·exact absurd k3 (cJ _)
   obtain⟨a1,a2⟩:=vE o1.symm;have hb:A.block=b:=by rw[a1]at b1;cases b1;rfl
   rw[hb]at a2
   have hlt:∀ c,c<aS.sz->g.off l+j*aS.sz+c<vs.size:=fun c hc=>by
    rw[b3];have:j*aS.sz+aS.sz<=g.cap l*aS.sz:=by rw[<-dy];exact bw _ ae
    omega
   have hcell:∀ c,c<aS.sz->w.cell? ⟨b,g.off l+j*aS.sz+c,none⟩=some (vs.getD (g.off l+j*aS.sz+c) Go.undef):=fun c hc=>b2.cell (hlt c hc);have hD:∀ c,c<aS.sz->dn w ⟨b,g.off l+j*aS.sz+c,none⟩=vs.getD (g.off l+j*aS.sz+c) Go.undef:=fun c hc=>by unfold dn;rw[hcell c hc];rfl
   obtain⟨cs,h1,h2,h3,h4,h5⟩:=part (b:=b) (o:=g.off l+j*aS.sz) (o2 j k3) (fun c hc=>by rw[hcell c hc];rfl) (fun c hc=>by rw[hD c hc];exact b5 j c k3 hc) k4;exact⟨b,_,cs,a2,h1,h2,h3,h4,h5⟩
  exact hK.elim
def Tk {t : TypeId} {ag : Bool} {i : TypeInfo} {p : AV} {v : Value} (hR : Rel g w σ) (hA : lI P t = some ag) (hi : P.info? t = some i) (h1 : ag = false -> i.size = 1)
    (hv:VR g w p v) (hK:gE σ ag i.size p fun v=>K v σ):bD P (Instr.loadAt t v) g w σ K:=by
 obtain⟨u,av,r1,r2,r3⟩:=Dw (P:=P) hR hA hi h1 hv hK;exact bD.pure hR r1 r2 r3
end
section
variable {P:Program} {g:aC} {w:World} {σ : ai} {K:AV->ai->Prop}
def add_plain(b o n:Nat): (⟨b,o,none⟩:Addr).add n=⟨b,o+n,none⟩:=by
 unfold Addr.add;split
 ·rename_i h;subst h;rfl
 rfl
def nI {b o : Nat} : ∀ (us : List Value) (w : World) (vs : Array Value) (i : Nat), Row w b vs -> o + i + us.length <= vs.size -> (∀ u ∈ us, u.oneCell' = true) ->
    (storeCells ⟨b,o,none⟩ us i).run P w = .ok () (setRow w b (o+i) us):=by
 intro us
 induction us with
 | nil=>intro w vs i _ _ _;rfl
 | cons u us ih =>
   intro w vs i hr hl h1;simp only[aE]at hl;have hc:=hr.cell (i:=o+i) ae;obtain⟨T,fz,_,hf⟩:=id hr;simp only[storeCells,Sem.run_bind,add_plain];rw[run_store P w _ u .plain (h1 u (List.mem_cons_self ..)),hc];simp only[hf (o+i) ae,aN,if_false,Result.andThen_ok];rw[ih _ (vs.setIfInBounds (o+i) u) (i+1) (hr.set (o+i) u) (by simp;omega) (fun x hx=>h1 x (cP _ hx))];rfl
def fq(cs:List AV)(i:Nat)(az:List AV): (dm cs i az).length=cs.length:=by
 induction az generalizing cs i with
 | nil=>rfl
 | cons a az ih=>simp[dm,ih]
def mg (cs : List AV) (i : Nat) (az : List AV) (hi : i + az.length <= cs.length) (j : Nat) :
    (dm cs i az).getD j .undef=if i<=j/\j<i+az.length then az.getD (j-i) .undef else cs.getD j .undef:=by
 induction az generalizing cs i with
 | nil=>simp[dm];intro h1 h2;omega
 | cons a az ih =>
   simp only[aE]at hi;rw[dm,ih (cs.set i a) (i+1) (by simp;omega)];by_cases h1:i+1<=j/\j<i+1+az.length
   ·rw[aB h1,aB (by simp only[aE];omega)];obtain⟨k,rfl⟩:∃ k,j=i+1+k:=⟨j-(i+1),ae⟩;rw[show i+1+k-(i+1)=k by omega,show i+1+k-i=k+1 by omega];simp
   rw[aq h1];by_cases h2:j=i
   ·subst h2;rw[aB (by simp only[aE];omega)];have hlt:j<cs.length:=ae;simp[hlt]
   rw[aq (by simp only[aE];omega)];simp[aI (Ne.symm h2)]
def zw{cs:List AV}(h:cs.all AV.scalar=true)(i:Nat){az:List AV}(ha:az.all AV.scalar=true): (dm cs i az).all AV.scalar=true:=by
 induction az generalizing cs i with
 | nil=>exact h
 | cons a az ih =>
   simp only[List.all_cons,aD]at ha;refine ih ?_ (i+1) ha.2;rw[bt]at h |-;intro x hx;rcases List.mem_or_eq_of_mem_set hx with hx|rfl
   ·exact h x hx
   exact ha.1
def N4{g:aC}{w:World}{a:AV}{v:Value}(h:VR g w a v)(hs:a.cells.all AV.scalar=true): ∀ u ∈ v.cells.toList,u.oneCell'=true:=by
 obtain⟨h1,h2⟩:=lj h hs;intro u hu;obtain⟨i,hi,rfl⟩:=hU.1 hu;simp at hi;have:=(h2 i ae).Fu (v8 hs ae);simpa[hi]using this
def Gs {n : Nat} {p x : AV} {v : Value} {us : List Value} {Kσ : ai -> Prop} (hR : Rel g w σ) (hv : VR g w p v) (c1 : x.cells.length = us.length)
    (c2:∀ i,i<x.cells.length->VR g w (x.cells.getD i .undef) (us.getD i Go.undef)) (h1:∀ u ∈ us,u.oneCell'=true)
    (hK:mE σ n p x Kσ) :
    ∃ A w' g' σ',v = .pointer (some A)/\(storeCells A us).run P w = .ok () w'/\Rel g' w' σ'/\ep σ g w σ' g' w'/\Kσ σ':=by
 obtain⟨hn,hs,hK⟩:=hK;cases hv<;>simp only at hK
 case ref l off h =>
  obtain⟨hl,A,rfl,vE⟩:=h;split at hK
  ·rename_i T cs hcs;obtain⟨k1,k2⟩:=hK;obtain⟨o1,o2,b,vs,o3,o4,o5,o6,o7⟩:=hR.ok l _ hcs;obtain⟨a1,a2⟩:=vE o1;have hb:A.block=b:=by rw[a1]at o3;cases o3;rfl
   have hrun:=nI (P:=P) (b:=b) (o:=off) us w vs 0 o4 (by simp;omega) h1;obtain⟨f1,f2,f3,f4,f5⟩:=jt w b (off+0) us
   obtain⟨r1,r2⟩:=hR.update (o':= .bH T (dm cs off x.cells)) hcs rfl o3 f1 f2 f3 f4 f5
    (fun hm => ⟨o1, zw o2 _ hs, b, _, o3, o4.setRow (off + 0) _, by rw [size_putRow, fq]; exact o5, fun j hj => by
      rw[fq]at hj;rw[mg _ _ _ ae,jd _ _ _ (by simp;omega)];simp only[dP,<-c1];split
      ·rename_i hh;have:=(c2 (j-off) ae).mono hm;simpa using this
      ·exact(o6 j hj).mono hm,by
       cases T with
       | none=>trivial
       | some T=>rw[fq];exact(pH _ _ _ _ _).trans o7⟩)
   refine⟨A,_,g,_,rfl,?_,r1,r2,k2⟩;rw[a2,hb];simpa using hrun
  exact hK.elim
 case dw el l m j off h =>
  obtain⟨hl,hm,A,rfl,vE⟩:=h;split at hK
  ·rename_i T aS xs hxs;obtain⟨rfl,rfl,k3,k4,k5,k6⟩:=hK;obtain⟨o1,o2,o3⟩:=hR.ok l _ hxs;rcases o3 with⟨rfl,_,_⟩|⟨b,vs,b1,b2,b3,b4,b5,b6⟩
   ·exact absurd k3 (cJ _)
   obtain⟨a1,a2⟩:=vE o1.symm;have hb:A.block=b:=by rw[a1]at b1;cases b1;rfl
   have hrow:g.off l+j*aS.sz+aS.sz<=vs.size:=by
    rw[b3];have:j*aS.sz+aS.sz<=g.cap l*aS.sz:=by rw[<-dy];exact bw _ ae
    omega
   have hrun:=nI (P:=P) (b:=b) (o:=g.off l+j*aS.sz+off) us w vs 0 b2.1 (by simp;omega) h1;obtain⟨f1,f2,f3,f4,f5⟩:=jt w b (g.off l+j*aS.sz+off+0) us;have hfit:=o2 j k3
   have hnew:(if aS.ag then AV.agg (dm (xs.getD j .undef).cells off x.cells)else x).fits aS=true /\
    ∀ c,c<aS.sz->(if aS.ag then AV.agg (dm (xs.getD j .undef).cells off x.cells)else x).cell c=(if off<=c/\c<off+n then x.cells.getD (c-off) .undef else(xs.getD j .undef).cell c):=by
    cases hag:aS.ag with
    | true =>
      generalize hy:xs.getD j .undef=y at hfit;cases y<;>simp only[AV.fits,hag,Bool.not_true,Bool.false_and,Bool.true_and,Bool.and_eq_true,beq_iff_eq,Bool.false_eq_true]at hfit
      case agg cs =>
       refine⟨?_,fun c hc=>?_⟩
       ·show(aS.ag && (dm cs off x.cells).length==aS.sz && (dm cs off x.cells).all AV.scalar)=true;rw[hag,fq,zw hfit.2 off hs,hfit.1];simp
       show(dm cs off x.cells).getD c .undef=_;rw[mg _ _ _ ae,hn];rfl
    | false =>
      have hx:=k5 hag;have hsz:=Ka hfit hag
      have qz:x.cells=[x]/\ ∀ c,x.cell c=x:=by
       cases x<;>first
        |(simp[AV.fits,hag]at hx;done)
        | exact⟨rfl,fun _=>rfl⟩
      have hn1:n=1:=by rw[<-hn,qz.1];rfl
      refine⟨by simpa using hx,fun c hc=>?_⟩;have h0:c=0/\off=0:=ae;obtain⟨rfl,rfl⟩:=h0;rw[aq aT,qz.2,aB ae,qz.1];rfl
   obtain⟨n1,n2⟩:=hnew;generalize (if aS.ag then AV.agg (dm (xs.getD j .undef).cells off x.cells)else x)=y at n1 n2 k6
   obtain⟨r1,r2⟩:=hR.update (o':= .bW T aS (xs.set j y)) hxs rfl b1 f1 f2 f3 f4 f5
    (fun hm => ⟨by simpa using o1, fun i' hi' => by
      simp only[eC]at hi';by_cases e:i'=j
      ·subst e;simpa[k3]using n1
      ·have:=o2 i' hi';simpa[aI (Ne.symm e)]using this,
      .inr ⟨b,_,b1,b2.setRow _ _,by rw[size_putRow];exact b3,by simpa using b4,fun i' c hi' hc=>by
       simp only[eC]at hi';rw[jd _ _ _ (by simp;omega)];simp only[dP,<-c1,hn];by_cases e:i'=j
       ·subst e;rw[show (xs.set i' y).getD i' .undef=y by simp[k3],n2 c hc];by_cases h2:off<=c/\c<off+n
        ·rw[aB h2,aB ae,show g.off l+i'*aS.sz+c-(g.off l+i'*aS.sz+off)=c-off by omega];have:=(c2 (c-off) ae).mono hm;simpa using this
        rw[aq h2,aq ae];exact(b5 i' c hi' hc).mono hm
       ·rw[show (xs.set j y).getD i' .undef=xs.getD i' .undef by simp[aI (Ne.symm e)]]
        have hne:¬ (g.off l+j*aS.sz+off<=g.off l+i'*aS.sz+c/\g.off l+i'*aS.sz+c<g.off l+j*aS.sz+off+n):=by
         rintro⟨q1,q2⟩;rcases Nat.lt_or_gt_of_ne e with h2|h2
         ·have:(i'+1)*aS.sz<=j*aS.sz:=bw _ h2;rw[dy]at this;omega
         have:(j+1)*aS.sz<=i'*aS.sz:=bw _ h2;rw[dy]at this;omega
        rw[aq hne];exact(b5 i' c hi' hc).mono hm,by
       cases T with
       | none=>trivial
       | some T=>rw[size_putRow];exact⟨(pH _ _ _ _ _).trans b6.1,b6.2⟩⟩⟩)
   refine⟨A,_,g,_,rfl,?_,r1,r2,k6⟩;rw[a2,hb];simpa using hrun
  exact hK.elim
def QE {t : TypeId} {i : TypeInfo} {p x : AV} {v u : Value} (hR : Rel g w σ) (hi : P.info? t = some i) (hv : VR g w p v) (hu : VR g w x u)
    (hK:mE σ i.size p x fun σ'=>K (.bg []) σ') :
    ∃ w' g' σ',(Instr.storeAt t v u).run P w = .ok () w'/\Rel g' w' σ'/\ep σ g w σ' g' w'/\K (.bg []) σ':=by
 obtain⟨c1,c2⟩:=lj hu hK.2.1;obtain⟨A,w',g',σ',rfl,h2,h3,h4,h5⟩:=Gs (P:=P) (us:=u.cells.toList) hR hv (by simpa using c1) (fun i hi=>by simpa using c2 i hi) (N4 hu hK.2.1) hK;refine⟨w',g',σ',?_,h3,h4,h5⟩;have hn:=hK.1;simp only[Instr.storeAt,Instr.sureAddr,Sem.run_bind,Sem.run_pure,Result.andThen_ok,storeVar,c_ hi];have e1:¬ u.cells.size≠i.size:=ae;simp only[aq e1,Sem.run_pure,Result.andThen_ok];exact h2
end
section
variable {P:Program} {g:aC} {w:World} {σ : ai} {K:AV->ai->Prop}
def N5(l:List UInt8): (⟨l.toArray⟩:ByteArray).toList=l:=by
 have key:∀ (n:Nat) (b:ByteArray) (i:Nat) (r:List UInt8),b.size-i=n->ByteArray.toList.loop b i r=r.reverse++b.data.toList.drop i:=by
  intro n
  induction n with
  | zero =>
    intro b i r h;unfold ByteArray.toList.loop;rw[aq ae]
    have:b.data.toList.length<=i:=by
     have:b.data.toList.length=b.size:=by rw[dB];rfl
     omega
    rw[List.drop_eq_nil_of_le this,cI]
  | succ n ih =>
    intro b i r h;have hi:i<b.size:=ae;unfold ByteArray.toList.loop;rw[aB hi,ih b (i+1) _ ae];have hi':i<b.data.toList.length:=by rw[dB];exact hi
    have Cx:i<b.data.size:=hi;rw[gy hi',List.reverse_cons,fY,List.singleton_append]
    congr 2
    show b.data[i]! = _;rw[getElem!_pos b.data i Cx];simp
 have:=key _ ⟨l.toArray⟩ 0 [] rfl;simpa[ByteArray.toList]using this
def Dx (t : TypeId) (k : IntKind) (n m : Int) (w : World) :
    (binOp .add t (.int k n) (.int k m)).run P w = .ok (.int k (dQ k (n+m))) w/\(binOp .sub t (.int k n) (.int k m)).run P w = .ok (.int k (dQ k (n-m))) w /\
    (binOp .mul t (.int k n) (.int k m)).run P w = .ok (.int k (dQ k (n*m))) w:=by
 simp[binOp,Op.intArith,dQ]
def RU (t : TypeId) (k : IntKind) (n m : Int) (w : World) (h : m ≠ 0) :
    (binOp .quo t (.int k n) (.int k m)).run P w = .ok (.int k (dQ k (n.tdiv m))) w/\(binOp .rem t (.int k n) (.int k m)).run P w = .ok (.int k (n.tmod m)) w:=by
 simp[binOp,Op.intDiv,dQ,h]
def Bm (t : TypeId) (k : IntKind) (n m : Int) (w : World) :
    (binOp .and t (.int k n) (.int k m)).run P w = .ok (.int k (jE .and k n m)) w/\(binOp .or t (.int k n) (.int k m)).run P w = .ok (.int k (jE .or k n m)) w /\
    (binOp .xor t (.int k n) (.int k m)).run P w = .ok (.int k (jE .xor k n m)) w/\(binOp .andNot t (.int k n) (.int k m)).run P w = .ok (.int k (jE .andNot k n m)) w:=by
 simp[binOp,Op.intBits,jE]
def LH (t : TypeId) (k k' : IntKind) (n m : Int) (w : World) (h : 0 <= m) :
    (binOp .shl t (.int k n) (.int k' m)).run P w = .ok (.int k (dQ k (n*2 ^ (Nat.min m.toNat k.bits)))) w/\(binOp .shr t (.int k n) (.int k' m)).run P w = .ok (.int k (n.fdiv (2 ^ (Nat.min m.toNat k.bits)))) w:=by
 have h1:¬ m<0:=ae;simp[binOp,Op.shift,dQ,h1,Nat.min_def]
def wL (t : TypeId) (k : IntKind) (n m : Int) (w : World) :
    (binOp .eql t (.int k n) (.int k m)).run P w = .ok (.bool (n==m)) w/\(binOp .neq t (.int k n) (.int k m)).run P w = .ok (.bool (!(n==m))) w /\
    (binOp .lss t (.int k n) (.int k m)).run P w = .ok (.bool (decide (n<m))) w/\(binOp .leq t (.int k n) (.int k m)).run P w = .ok (.bool (decide (n<=m))) w /\
    (binOp .gtr t (.int k n) (.int k m)).run P w = .ok (.bool (decide (m<n))) w/\(binOp .geq t (.int k n) (.int k m)).run P w = .ok (.bool (decide (m<=n))) w:=by
 simp[binOp,Op.intCmp,bne]
def wM (t : TypeId) (s u : List UInt8) (w : World) :
    (binOp .eql t (.string ⟨s.toArray⟩) (.string ⟨u.toArray⟩)).run P w = .ok (.bool (s==u)) w/\(binOp .neq t (.string ⟨s.toArray⟩) (.string ⟨u.toArray⟩)).run P w = .ok (.bool (!(s==u))) w /\
    (binOp .lss t (.string ⟨s.toArray⟩) (.string ⟨u.toArray⟩)).run P w = .ok (.bool (Op.bytesLess s u)) w/\(binOp .leq t (.string ⟨s.toArray⟩) (.string ⟨u.toArray⟩)).run P w = .ok (.bool (Op.bytesLess s u || s==u)) w /\
    (binOp .gtr t (.string ⟨s.toArray⟩) (.string ⟨u.toArray⟩)).run P w = .ok (.bool (!(Op.bytesLess s u || s==u))) w/\(binOp .geq t (.string ⟨s.toArray⟩) (.string ⟨u.toArray⟩)).run P w = .ok (.bool (!Op.bytesLess s u)) w:=by
 simp[binOp,Op.stringOp,N5]
def aby (t : TypeId) (s u : List UInt8) (w : World) (h : ((s.length + u.length : Nat) : Int) <= IntKind.i64.max) :
    (binOp .add t (.string ⟨s.toArray⟩) (.string ⟨u.toArray⟩)).run P w = .ok (.string ⟨(s++u).toArray⟩) w:=by
 have h1:¬ (((⟨s.toArray⟩:ByteArray).size+(⟨u.toArray⟩:ByteArray).size:Nat):Int)>IntKind.i64.max:=by
  simp only[ByteArray.size,eM];omega
 simp only[binOp,Op.stringOp,aq h1,Sem.run_pure]
 congr 2
def Vz {op : BinOp} {t : TypeId} {x y : AV} {a b : Value} (hR : Rel g w σ) (hx : VR g w x a) (hy : VR g w y b)
    (hK:jR op x y fun v=>K v σ):bD P (binOp op t a b) g w σ K:=by
 cases hx<;>cases hy<;>(try (cases op<;>exact hK.elim))
 case int.int k n k' m =>
  cases op<;>simp only[jR]at hK
  case shl=>exact bD.pure hR (LH t k k' n m w hK.1).1 (.int _ _) hK.2
  case shr=>exact bD.pure hR (LH t k k' n m w hK.1).2 (.int _ _) hK.2
  all_goals obtain⟨rfl,hK⟩:=hK
  case add=>exact bD.pure hR (Dx t k n m w).1 (.int _ _) hK
  case sub=>exact bD.pure hR (Dx t k n m w).2.1 (.int _ _) hK
  case mul=>exact bD.pure hR (Dx t k n m w).2.2 (.int _ _) hK
  case quo=>exact bD.pure hR (RU t k n m w hK.1).1 (.int _ _) hK.2
  case rem=>exact bD.pure hR (RU t k n m w hK.1).2 (.int _ _) hK.2
  case and=>exact bD.pure hR (Bm t k n m w).1 (.int _ _) hK
  case or=>exact bD.pure hR (Bm t k n m w).2.1 (.int _ _) hK
  case xor=>exact bD.pure hR (Bm t k n m w).2.2.1 (.int _ _) hK
  case andNot=>exact bD.pure hR (Bm t k n m w).2.2.2 (.int _ _) hK
  case eql=>exact bD.pure hR (wL t k n m w).1 (.bool _) hK
  case neq=>exact bD.pure hR (wL t k n m w).2.1 (.bool _) hK
  case lss=>exact bD.pure hR (wL t k n m w).2.2.1 (.bool _) hK
  case leq=>exact bD.pure hR (wL t k n m w).2.2.2.1 (.bool _) hK
  case gtr=>exact bD.pure hR (wL t k n m w).2.2.2.2.1 (.bool _) hK
  case geq=>exact bD.pure hR (wL t k n m w).2.2.2.2.2 (.bool _) hK
 case str.str s u =>
  cases op<;>simp only[jR]at hK
  case add=>exact bD.pure hR (aby t s u w hK.1) (.str _) hK.2
  case eql=>exact bD.pure hR (wM t s u w).1 (.bool _) hK
  case neq=>exact bD.pure hR (wM t s u w).2.1 (.bool _) hK
  case lss=>exact bD.pure hR (wM t s u w).2.2.1 (.bool _) hK
  case leq=>exact bD.pure hR (wM t s u w).2.2.2.1 (.bool _) hK
  case gtr=>exact bD.pure hR (wM t s u w).2.2.2.2.1 (.bool _) hK
  case geq=>exact bD.pure hR (wM t s u w).2.2.2.2.2 (.bool _) hK
def YA{op:UnOp}{x:AV}{a:Value}(hR:Rel g w σ)(hx:VR g w x a)(hK:Cu op x fun v=>K v σ): bD P (Op.unary op a) g w σ K:=by
 cases hx<;>(try (cases op<;>exact hK.elim))
 case bool b =>
  cases op<;>simp only[Cu]at hK
  case not=>exact bD.pure hR (by simp[Op.unary]) (.bool _) hK
 case int k n =>
  cases op<;>simp only[Cu]at hK
  case neg=>exact bD.pure hR (by simp[Op.unary,Op.intArith];rfl) (.int k _) hK
  case xor=>exact bD.pure hR (by simp[Op.unary,Op.intBits];rfl) (.int k _) hK
def Tl {s d : TypeId} {k k' : IntKind} {x : AV} {a : Value} (hR : Rel g w σ) (h1 : P.underlying s = some (.int k')) (h2 : P.underlying d = some (.int k)) (hx : VR g w x a)
    (hK:match (generalizing:=false) x with | .int _ n=>K (.int k (dQ k n)) σ | _=>False):bD P (convert s d a) g w σ K:=by
 cases hx<;>simp only at hK
 case int k0 n=>exact bD.pure hR (by simp[convert,aU h1,aU h2,Conv.intToInt];rfl) (.int k _) hK
def VA {s d : TypeId} {x : AV} {a : Value} (hR : Rel g w σ) (h1 : P.underlying s = some .string) (h2 : P.underlying d = some .string) (hx : VR g w x a) (hs : ∃ u, x = .str u)
    (hK:K x σ):bD P (convert s d a) g w σ K:=by
 obtain⟨u,rfl⟩:=hs;cases hx;exact bD.pure hR (by simp[convert,aU h1,aU h2]) (.str _) hK
def Nj {x : AV} {a : Value} {i : Nat} (hR : Rel g w σ) (hx : VR g w x a) (hK : match (generalizing := false) x with | .bg vs => i < vs.length /\ K (vs.getD i .undef) σ | _ => False) :
    bD P (Instr.extract a i) g w σ K:=by
 cases hx<;>simp only at hK
 case bg cs vs hl h =>
  obtain⟨h1,h2⟩:=hK;have h3:i<vs.size:=ae;exact bD.pure hR (v:=vs.getD i Go.undef) (by simp[Instr.extract,h3]) (h i h1) h2
def Tm {t : TypeId} {x y : AV} {a b : Value} (hR : Rel g w σ) (hu : P.underlying t = some .string) (hx : VR g w x a) (hy : VR g w y b)
    (hK:match (generalizing:=false) x,y with | .str s,.int _ k=>0<=k/\k<s.length/\K (.int .u8 (s.getD k.toNat 0).toNat) σ | _,_=>False):bD P (Instr.index t a b) g w σ K:=by
 cases hx<;>cases hy<;>simp only at hK
 case str.int s k n =>
  obtain⟨h1,h2,h3⟩:=hK;have h4:n.toNat<s.length:=ae
  have h5:(⟨s.toArray⟩:ByteArray)[n.toNat]? = some (s.getD n.toNat 0):=by
   have:n.toNat<(⟨s.toArray⟩:ByteArray).size:=by simpa[ByteArray.size]using h4
   rw[getElem?_pos (⟨s.toArray⟩:ByteArray) n.toNat this]
   congr 1
   simp[ByteArray.getElem_eq_getElem_data,h4]
  refine bD.pure hR ?_ (.int .u8 _) h3;simp only[Instr.index,asIntOf,Sem.run_bind,Sem.run_pure,Result.andThen_ok,aU hu,aB h1,h5]
end
