/- Part of a proof: see Root. -/
import Derived.Test.YtmbgnaoilncbnaaGreatDoorZ01
set_option linter.unnecessarySimpa false
set_option linter.unusedSimpArgs false
set_option linter.unusedVariables false
namespace Go.AM
variable {P:Program}
theorem Ot{op:BinOp}{x y:AV}{K K':AV→Prop}(h:∀ v,K v→K' v): fT op x y K→fT op x y K':=by
 unfold fT
 split<;>intro hh<;>first|exact h _ hh|exact⟨hh.1,h _ hh.2⟩|exact⟨hh.1,hh.2.1,h _ hh.2.2⟩|exact hh.elim
theorem aan{op:BinOp}{x y:AV}{K:AV→Prop}: fT op x y K→ ∃ v,fT op x y (fun v'=>v'=v)∧K v:=by
 unfold fT
 split<;>intro hh<;>first|exact⟨_,rfl,hh⟩|exact⟨_,⟨hh.1,rfl⟩,hh.2⟩|exact⟨_,⟨hh.1,hh.2.1,rfl⟩,hh.2.2⟩|exact hh.elim
theorem QI{op:UnOp}{x:AV}{K K':AV→Prop}(h:∀ v,K v→K' v): F8 op x K→F8 op x K':=by
 unfold F8
 split<;>intro hh<;>simp_all
theorem abl{op:UnOp}{x:AV}{K:AV→Prop}: F8 op x K→ ∃ v,F8 op x (fun v'=>v'=v)∧K v:=by
 unfold F8
 split<;>intro hh<;>simp_all
theorem cC{x:Option AV}{d y:Nat}{K K':Nat→Prop}(h:∀ v,K v→K' v): bound x d y K→bound x d y K':=by
 unfold bound
 split<;>intro hh<;>simp_all
theorem pz{x:Option AV}{d y:Nat}{K:Nat→Prop}: bound x d y K→ ∃ v,bound x d y (fun v'=>v'=v)∧K v:=by
 unfold bound
 split<;>intro hh<;>simp_all
theorem I7{el:El}{x:AV}{off:Nat}{ag:Bool}{n:Nat}{K K':AV→Prop}(h:∀ v,K v→K' v): partOf el x off ag n K→partOf el x off ag n K':=by
 unfold partOf
 split
 ·exact h _
 ·rintro⟨h1,h2⟩
  refine⟨h1,?_⟩
  split at h2
  ·exact⟨h _ h2.1,h2.2⟩
  ·exact h2.elim
theorem Ou{el:El}{x:AV}{off:Nat}{ag:Bool}{n:Nat}{K:AV→Prop}: partOf el x off ag n K→ ∃ v,partOf el x off ag n (fun v'=>v'=v)∧K v:=by
 unfold partOf
 split
 ·intro h;exact⟨_,rfl,h⟩
 ·rintro⟨h1,h2⟩
  split at h2
  ·exact⟨_,⟨h1,rfl,h2.2⟩,h2.1⟩
  ·exact h2.elim
theorem kQ{σ : ai}{l:Nat}{o:aR}(τ : ai)(h : σ[l]? = some o): (σ++ τ)[l]? = some o:=by
 rw[List.getElem?_append_left (List.getElem?_eq_some_iff.1 h).1];exact h
theorem yB{σ : ai}{ag:Bool}{n:Nat}{p:AV}{K K':AV→Prop}(h:∀ v,K v→K' v): lf σ ag n p K→lf σ ag n p K':=by
 unfold lf
 intro hh
 split at hh
 ·split at hh
  ·exact⟨hh.1,hh.2.1,h _ hh.2.2⟩
  ·exact hh.elim
 ·exact I7 h hh
 ·split at hh
  ·exact⟨hh.1,hh.2.1,hh.2.2.1,I7 h hh.2.2.2⟩
  ·exact hh.elim
 ·exact hh.elim
theorem Yw{σ : ai}{ag:Bool}{n:Nat}{p:AV}{K:AV→Prop}(hh:lf σ ag n p K): ∃ v,(∀ τ,lf (σ++ τ) ag n p (fun v'=>v'=v))∧K v:=by
 unfold lf at hh
 split at hh
 ·split at hh
  ·rename_i h
   exact⟨_,fun τ=>by simp only[lf,kQ τ h];exact⟨hh.1,hh.2.1,trivial⟩,hh.2.2⟩
  ·exact hh.elim
 ·obtain⟨v,h1,h2⟩:=Ou hh
  exact⟨v,fun τ=>h1,h2⟩
 ·split at hh
  ·rename_i h
   obtain⟨v,h1,h2⟩:=Ou hh.2.2.2
   exact⟨v,fun τ=>by simp only[lf,kQ τ h];exact⟨hh.1,hh.2.1,hh.2.2.1,h1⟩,h2⟩
  ·exact hh.elim
 ·exact hh.elim
theorem I8{σ : ai}{n:Nat}{p v:AV}{K K':ai→Prop}(h:∀ v,K v→K' v): pq σ n p v K→pq σ n p v K':=by
 unfold pq
 rintro⟨h1,h2,hh⟩
 refine⟨h1,h2,?_⟩
 split at hh
 ·split at hh
  ·exact⟨hh.1,h _ hh.2⟩
  ·exact hh.elim
 ·split at hh
  ·exact⟨hh.1,hh.2.1,hh.2.2.1,hh.2.2.2.1,hh.2.2.2.2.1,h _ hh.2.2.2.2.2⟩
  ·exact hh.elim
 ·exact hh.elim
theorem yC{σ : ai}{el:El}{x:AV}{K K':List AV→Prop}(h:∀ v,K v→K' v): fy σ el x K→fy σ el x K':=by
 unfold fy
 intro hh
 split at hh
 ·exact h _ hh
 ·exact⟨hh.1,h _ hh.2⟩
 ·refine⟨hh.1,?_⟩
  have hh:=hh.2
  split at hh
  ·exact⟨hh.1,hh.2.1,h _ hh.2.2⟩
  ·exact hh.elim
 ·exact⟨hh.1,h _ hh.2⟩
 ·exact hh.elim
theorem Yx{σ : ai}{el:El}{x:AV}{K:List AV→Prop}(hh:fy σ el x K): ∃ v,(∀ τ,fy (σ++ τ) el x (fun v'=>v'=v))∧K v:=by
 unfold fy at hh
 split at hh
 ·exact⟨_,fun τ=>rfl,hh⟩
 ·exact⟨_,fun τ=>⟨hh.1,rfl⟩,hh.2⟩
 ·obtain⟨h0,hh⟩:=hh
  split at hh
  ·rename_i h
   exact⟨_,fun τ=>by simp only[fy,kQ τ h];exact⟨h0,hh.1,hh.2.1,trivial⟩,hh.2.2⟩
  ·exact hh.elim
 ·exact⟨_,fun τ=>⟨hh.1,rfl⟩,hh.2⟩
 ·exact hh.elim
theorem WS{σ : ai}{T:Option TypeId}{el:El}{x y:AV}{K K':AV→ai→Prop}(h:∀ v s,K v s→K' v s): rh σ T el x y K→rh σ T el x y K':=by
 unfold rh
 refine yC fun ys hh=>⟨hh.1,?_⟩
 have hh:=hh.2
 split at hh
 ·split at hh
  ·simp_all
  ·rename_i h0;simp only[h0,if_false];exact⟨hh.1,h _ _ hh.2⟩
 ·refine⟨hh.1,?_⟩
  have hh:=hh.2
  split at hh
  ·rename_i h0;simp only[h0,if_true];exact h _ _ hh
  ·rename_i h0;simp only[h0,if_false];exact⟨hh.1,h _ _ hh.2⟩
 ·refine⟨hh.1,?_⟩
  have hh:=hh.2
  split at hh
  ·exact⟨hh.1,hh.2.1,hh.2.2.1,hh.2.2.2.1,hh.2.2.2.2.1,hh.2.2.2.2.2.1,h _ _ hh.2.2.2.2.2.2⟩
  ·exact hh.elim
 ·exact hh.elim
theorem Ov{op:Bool}{x y:AV}{K K':AV→Prop}(h:∀ v,K v→K' v): F9 op x y K→F9 op x y K':=by
 unfold F9
 split<;>intro hh<;>simp_all
theorem aao{op:Bool}{x y:AV}{K:AV→Prop}: F9 op x y K→ ∃ v,F9 op x y (fun v'=>v'=v)∧K v:=by
 unfold F9
 split<;>intro hh<;>simp_all
theorem tH{op:Bool}{K K':AV→Prop}(h:∀ v,K v→K' v): ∀(ys:List AV) (x:AV),r8 op x ys K→r8 op x ys K'
 | [],x=>h x
 | y::ys,x=>Ov fun z=>tH h ys z
theorem JY{op:Bool}{K:AV→Prop}: ∀(ys:List AV) (x:AV),r8 op x ys K→ ∃ v,r8 op x ys (fun v'=>v'=v)∧K v
 | [],x=>fun h=>⟨x,rfl,h⟩
 | y :: ys, x => fun h => by
   obtain⟨z,h1,h2⟩:=aao h
   obtain⟨v,h3,h4⟩:=JY ys z h2
   exact⟨v,Ov (fun z' e=>by subst e;exact h3) h1,h4⟩
theorem BP{e:Env}{K K':List AV→Prop}(h:∀ v,K v→K' v): ∀(ps:List (Nat × Nat × AX)) (z:List AV),kP z e ps K→kP z e ps K'
 | [],z=>h z
 |(off,n,x)::r,z=>fun hh=>⟨hh.1,hh.2.1,hh.2.2.1,BP h r _ hh.2.2.2⟩
theorem Ow{e:Env}{K:List AV→Prop}: ∀(ps:List (Nat × Nat × AX)) (z:List AV),kP z e ps K→ ∃ v,kP z e ps (fun v'=>v'=v)∧K v
 | [],z=>fun h=>⟨z,rfl,h⟩
 | (off, n, x) :: r, z => fun hh => by
   obtain⟨v,h1,h2⟩:=Ow r _ hh.2.2.2
   exact⟨v,⟨hh.1,hh.2.1,hh.2.2.1,h1⟩,h2⟩
theorem tI{el:El}{e:Env}{K K':List AV→Prop}(h:∀ v,K v→K' v): ∀(ps:List (Nat × AX)) (z:List AV),jJ el z e ps K→jJ el z e ps K'
 | [],z=>h z
 |(i,x)::r,z=>fun hh=>⟨hh.1,hh.2.1,tI h r _ hh.2.2⟩
theorem DE{el:El}{e:Env}{K:List AV→Prop}: ∀(ps:List (Nat × AX)) (z:List AV),jJ el z e ps K→ ∃ v,jJ el z e ps (fun v'=>v'=v)∧K v
 | [],z=>fun h=>⟨z,rfl,h⟩
 | (i, x) :: r, z => fun hh => by
   obtain⟨v,h1,h2⟩:=DE r _ hh.2.2
   exact⟨v,⟨hh.1,hh.2.1,h1⟩,h2⟩
def AX.uses: AX→List Nat
 | .t n=>[n]
 | .c _=>[]
def AX.Va: Option AX→List Nat
 | some x=>x.uses
 | none=>[]
def AX.qv(l:List AX): List Nat:=l.flatMap AX.uses
def aX.uses: aX→List Nat
 | .mv x | .box x | .zi _ x | .load _ _ x | .jn x | .un _ x | .gW _ x | .K4 x | .K5 x | .uV x | .DA _ x | .eV _ x | .field _ _ _ x | .ext x _ | .len _ x | .panic x | .JW x | .JX x | .EO _ x | .K6 x | .K7 _ x | .Ir _ x=>x.uses
 | .pick c a b=>c.uses++a.uses++b.uses
 | .alloc _ _ | .iB _ | .hold=>[]
 | .jb k _ _=>[k]
 | .nx k _ _ x y=>k::(x.uses++y.uses)
 | .build _ ps=>AX.qv (ps.map (·.2.2))
 | .bD _ _ _ _ ps=>AX.qv (ps.map (·.2))
 | .store _ x v=>x.uses++v.uses
 | .bin _ x y | .ni _ _ _ x y | .bQ _ _ x y | .eJ x y | .zg _ _ x y | .app _ _ x y | .zh _ x y | .I6 _ x y | .oh _ _ x y | .r7 _ _ x y=>x.uses++y.uses
 | .vy _ f c=>AX.qv f++AX.qv c
 | .mK x lo hi | .uW _ x lo hi=>x.uses++AX.Va lo++AX.Va hi
 | .call _ f args | .j9 f args=>f.uses++AX.qv args
 | .min x xs | .max x xs=>x.uses++AX.qv xs
theorem AX.dz{e e':Env}{x:AX}(h:∀ t ∈ x.uses,e t=e' t): x.ev e=x.ev e':=by
 cases x with
 | t n=>exact h n (by simp[AX.uses])
 | c a=>rfl
theorem AX.A7{e e':Env}{x:Option AX}(h:∀ t ∈ AX.Va x,e t=e' t): x.map (AX.ev e)=x.map (AX.ev e'):=by
 cases x with
 | none=>rfl
 | some x=>exact congrArg some (AX.dz h)
theorem AX.sU{e e':Env}{l:List AX}(h:∀ t ∈ AX.qv l,e t=e' t): l.map (AX.ev e)=l.map (AX.ev e'):=by
 refine List.map_congr_left fun x hx=>AX.dz fun t ht=>h t ?_
 exact List.mem_flatMap.2 ⟨x,hx,ht⟩
theorem Ga{e e':Env}{K:List AV→Prop}: ∀(ps:List (Nat × Nat × AX)) (z:List AV),(∀ t ∈ AX.qv (ps.map (·.2.2)),e t=e' t)→kP z e ps K=kP z e' ps K
 | [],z,_=>rfl
 | (off, n, x) :: r, z, h => by
   have h1:x.ev e=x.ev e':=AX.dz fun t ht=>h t (by simp[AX.qv,ht])
   simp only[kP,h1]
   rw[Ga r _ fun t ht=>h t (by simp only[List.map_cons,AX.qv,List.flatMap_cons,List.mem_append];exact .inr ht)]
theorem EP{el:El}{e e':Env}{K:List AV→Prop}: ∀(ps:List (Nat × AX)) (z:List AV),(∀ t ∈ AX.qv (ps.map (·.2)),e t=e' t)→jJ el z e ps K=jJ el z e' ps K
 | [],z,_=>rfl
 | (i, x) :: r, z, h => by
   have h1:x.ev e=x.ev e':=AX.dz fun t ht=>h t (by simp[AX.qv,ht])
   simp only[jJ,h1]
   rw[EP r _ fun t ht=>h t (by simp only[List.map_cons,AX.qv,List.flatMap_cons,List.mem_append];exact .inr ht)]
theorem wO{o:aX}{e e':Env}{σ : ai}{K Kp:AV→ai→Prop}(h:∀ t ∈ o.uses,e t=e' t): o.run P e σ K Kp=o.run P e' σ K Kp:=by
 cases o<;>simp only[aX.uses,List.mem_append]at h
 case build z ps=>exact Ga ps _ h
 case bD mt el z n ps=>exact EP ps _ h
 case alloc=>rfl
 case iB=>rfl
 case hold=>rfl
 case jb k T cs=>simp only[aX.run,h k (by simp)]
 case nx k T el x y=>simp only[aX.run,h k (by simp),AX.dz (x:=x) (fun t ht=>h t (by simp[ht])),AX.dz (x:=y) (fun t ht=>h t (by simp[ht]))]
 case pick c a b=>simp only[aX.run,AX.dz (fun t ht=>h t (.inl (.inl ht))),AX.dz (fun t ht=>h t (.inl (.inr ht))),AX.dz (fun t ht=>h t (.inr ht))]
 case vy f a b=>simp only[aX.run,AX.sU (fun t ht=>h t (.inl ht)),AX.sU (fun t ht=>h t (.inr ht))]
 case mK x lo hi=>simp only[aX.run,AX.dz (fun t ht=>h t (.inl (.inl ht))),AX.A7 (fun t ht=>h t (.inl (.inr ht))),AX.A7 (fun t ht=>h t (.inr ht))]
 case uW el x lo hi=>simp only[aX.run,AX.dz (fun t ht=>h t (.inl (.inl ht))),AX.A7 (fun t ht=>h t (.inl (.inr ht))),AX.A7 (fun t ht=>h t (.inr ht))]
 case call q f args=>simp only[aX.run,AX.dz (fun t ht=>h t (.inl ht)),AX.sU (fun t ht=>h t (.inr ht))]
 case j9 f args=>simp only[aX.run,AX.dz (fun t ht=>h t (.inl ht)),AX.sU (fun t ht=>h t (.inr ht))]
 case min x xs=>simp only[aX.run,AX.dz (fun t ht=>h t (.inl ht)),AX.sU (fun t ht=>h t (.inr ht))]
 case max x xs=>simp only[aX.run,AX.dz (fun t ht=>h t (.inl ht)),AX.sU (fun t ht=>h t (.inr ht))]
 all_goals first
  | simp only[aX.run,AX.dz h]
  | simp only[aX.run,AX.dz (fun t ht=>h t (.inl ht)),AX.dz (fun t ht=>h t (.inr ht))]
inductive Cls where
 | pu|rd|al|st|ap|no
deriving DecidableEq
def aX.cls: aX→Cls
 | .mv _ | .pick .. | .build .. | .jn _ | .bin .. | .ni .. | .un .. | .gW .. | .K4 _ | .DA .. | .vy .. | .mK .. | .eV .. | .field .. | .eJ .. | .zg .. | .ext .. | .len .. | .min .. | .max .. | .r7 ..=> .pu
 | .bD mt ..=>if mt then .al else .pu
 | .load .. | .uV _ | .uW .. | .bQ .. | .EO ..=> .rd
 | .call q ..=>if q then .rd else .no
 | .alloc .. | .box _ | .zi .. | .K5 _ | .oh .. | .iB _=> .al
 | .store .. | .j9 .. | .jb .. | .nx ..=> .st
 | .app ..=> .ap
 | _=> .no
theorem zj{o:aX}{e:Env}{σ : ai}{K K' Kp Kp':AV→ai→Prop}(h:∀ v s,K v s→K' v s)(hp:∀ v s,Kp v s→Kp' v s): o.run P e σ K Kp→o.run P e σ K' Kp':=by
 cases o<;>simp only[aX.run]
 case mv x=>exact h _ _
 case alloc T cs=>exact h _ _
 case iB el=>exact h _ _
 case hold=>exact h _ _
 case zi=>exact fun hh=>⟨hh.1,h _ _ hh.2⟩
 case jb k T cs =>
  split
  ·split
   ·exact h _ _
   ·exact id
  ·exact id
 case nx k T el x y =>
  split
  ·split
   ·split
    ·exact fun hh=>⟨hh.1,hh.2.1,hh.2.2.1,h _ _ hh.2.2.2⟩
    ·exact id
   ·exact id
  ·exact id
 case DA t x=>exact h _ _
 case vy f a b=>exact h _ _
 case box x=>exact fun hh=>⟨hh.1,h _ _ hh.2⟩
 case build z ps=>exact BP (fun v=>h _ _) _ _
 case bD mt el z n ps=>exact tI (fun v=>by split<;>exact h _ _) _ _
 case load ag n x=>exact yB fun v=>h _ _
 case store n x v=>exact I8 fun v=>h _ _
 case bin op x y=>exact Ot fun v=>h _ _
 case un op x=>exact QI fun v=>h _ _
 case app T el x y=>exact WS h
 case Ir=>exact fun hh=>⟨hh.1,h _ _ hh.2⟩
 case EO =>
  split
  ·exact h _ _
  ·refine fun hh=>⟨hh.1,?_⟩
   have hh:=hh.2
   split at hh
   ·exact⟨hh.1,hh.2.1,hh.2.2.1,h _ _ hh.2.2.2⟩
   ·exact hh.elim
  ·exact id
 case zh =>
  split
  ·exact fun hh=>⟨hh.1,h _ _ hh.2⟩
  ·refine fun hh=>⟨hh.1,hh.2.1,hh.2.2.1,?_⟩
   have hh:=hh.2.2.2
   split at hh
   ·obtain⟨a1,a2,a3,a4,a5,s,a6,a7⟩:=hh
    exact⟨a1,a2,a3,a4,a5,s,a6,h _ _ a7⟩
   ·exact hh.elim
  ·exact id
 case K6 =>
  split
  ·split
   ·exact fun hh=>⟨hh.1,h _ _ hh.2⟩
   ·exact id
  ·exact id
 case K7 =>
  split
  ·split
   ·exact fun hh=>⟨hh.1,h _ _ hh.2⟩
   ·exact id
  ·exact id
 case I6 =>
  split
  ·refine fun hh=>⟨hh.1,hh.2.1,?_⟩
   have hh:=hh.2.2
   split at hh
   ·exact h _ _ hh
   ·exact hh.elim
  ·exact id
 case min x xs=>exact tH (fun v=>h _ _) _ _
 case max x xs=>exact tH (fun v=>h _ _) _ _
 case uV x=>exact fun hh=>⟨hh.1,yC (fun v ⟨s,h1,h2⟩=>⟨s,h1,h _ _ h2⟩) hh.2⟩
 case pick c a b=>split<;>first|exact h _ _|exact id
 case jn x=>split<;>first|exact h _ _|exact id
 case ni=>split<;>first|exact h _ _|exact id
 case gW=>split<;>first|exact h _ _|exact id
 case K4=>split<;>first|exact h _ _|exact id
 case r7=>split<;>first|exact h _ _|exact id
 case eV=>split<;>first|exact h _ _|exact id
 case panic=>split<;>first|exact hp _ _|exact id
 case JW=>split<;>first|exact h _ _|exact id
 case JX =>
  split
  ·split
   ·split<;>exact h _ _
   ·exact id
  ·exact id
 case len=>split<;>first|exact h _ _|exact id
 case K5=>split<;>first|exact fun hh=>⟨hh.1,h _ _ hh.2⟩|exact id
 case ext=>split<;>first|exact fun hh=>⟨hh.1,h _ _ hh.2⟩|exact id
 case field=>split<;>first|exact fun hh=>⟨hh.1,hh.2.1,h _ _ hh.2.2⟩|exact id
 case eJ=>split<;>first|exact fun hh=>⟨hh.1,hh.2.1,h _ _ hh.2.2⟩|exact id
 case zg=>split<;>first|exact fun hh=>⟨hh.1,hh.2.1,hh.2.2.1,hh.2.2.2.1,h _ _ hh.2.2.2.2⟩|exact id
 case oh=>split<;>first|exact fun hh=>⟨hh.1,hh.2.1,hh.2.2.1,hh.2.2.2.1,h _ _ hh.2.2.2.2⟩|exact id
 case mK x lo hi=>split<;>first|exact cC (fun _=>cC fun _=>h _ _)|exact id
 case uW el x lo hi =>
  split
  ·exact cC (fun _=>cC fun _=>h _ _)
  ·exact fun hh=>⟨hh.1,cC (fun _=>cC fun _=>h _ _) hh.2⟩
  ·refine fun hh=>⟨hh.1,?_⟩
   have hh:=hh.2
   split at hh
   ·exact⟨hh.1,hh.2.1,hh.2.2.1,cC (fun _=>cC fun _=>h _ _) hh.2.2.2⟩
   ·exact hh.elim
  ·exact id
 case bQ el arr x i =>
  intro hh
  split at hh
  ·split at hh
   ·exact⟨hh.1,hh.2.1,hh.2.2.1,h _ _ hh.2.2.2⟩
   ·refine⟨hh.1,hh.2.1,hh.2.2.1,?_⟩
    have hh:=hh.2.2.2
    split at hh
    ·exact⟨hh.1,hh.2.1,h _ _ hh.2.2⟩
    ·exact hh.elim
   ·exact⟨hh.1,hh.2.1,h _ _ hh.2.2⟩
   ·exact⟨hh.1,hh.2.1,h _ _ hh.2.2⟩
   ·exact⟨hh.1,hh.2.1,h _ _ hh.2.2⟩
   ·exact hh.elim
  ·exact hh.elim
 case j9 f args =>
  split
  ·unfold Iq
   split
   ·exact fun⟨l,ob,lu,r,h1,h2,h3,h4,h5⟩=>⟨l,ob,lu,r,h1,h2,h3,h4,h _ _ h5⟩
   ·exact id
  ·exact id
 case call q f args =>
  split
  ·split
   ·exact fun⟨r,h1,h2⟩=>⟨r,h1,h _ _ h2⟩
   ·exact fun hh=>hh.mono fun o s=>by cases o<;>first|exact h _ _|exact hp _ _
  ·split
   ·exact id
   ·exact fun hh=>hh.mono fun o s=>by cases o<;>first|exact h _ _|exact hp _ _
  ·exact id
abbrev Is(v:AV)(σ : ai): AV→ai→Prop:=fun v' σ'=>v'=v∧σ' = σ
abbrev No: AV→ai→Prop:=fun _ _=>False
theorem adj{o:aX}{e:Env}{σ : ai}{K Kp:AV→ai→Prop}(hc:o.cls = .pu)(hh:o.run P e σ K Kp): ∃ v,(∀ σ',o.run P e σ' (Is v σ') No)∧K v σ:=by
 cases o<;>simp only[aX.cls]at hc<;>(try (cases hc;done))<;>simp only[aX.run]at hh ⊢
 case mv x=>exact⟨_,fun _=>⟨rfl,rfl⟩,hh⟩
 case DA t x=>exact⟨_,fun _=>⟨rfl,rfl⟩,hh⟩
 case vy f a b=>exact⟨_,fun _=>⟨rfl,rfl⟩,hh⟩
 case build z ps=>obtain⟨v,h1,h2⟩:=Ow _ _ hh;exact⟨_,fun _=>BP (fun v' e=>⟨congrArg AV.agg e,rfl⟩) _ _ h1,h2⟩
 case bD mt el z n ps =>
  cases mt
  ·obtain⟨v,h1,h2⟩:=DE _ _ hh
   simp only[Bool.false_eq_true,if_false]at h2 ⊢
   exact⟨_,fun _=>tI (fun v' e=>⟨congrArg (AV.aG true el) e,rfl⟩) _ _ h1,h2⟩
  ·cases hc
 case bin op x y=>obtain⟨v,h1,h2⟩:=aan hh;exact⟨v,fun _=>Ot (fun v' e=>⟨e,rfl⟩) h1,h2⟩
 case un op x=>obtain⟨v,h1,h2⟩:=abl hh;exact⟨v,fun _=>QI (fun v' e=>⟨e,rfl⟩) h1,h2⟩
 case min x xs=>obtain⟨v,h1,h2⟩:=JY _ _ hh;exact⟨v,fun _=>tH (fun v' e=>⟨e,rfl⟩) _ _ h1,h2⟩
 case max x xs=>obtain⟨v,h1,h2⟩:=JY _ _ hh;exact⟨v,fun _=>tH (fun v' e=>⟨e,rfl⟩) _ _ h1,h2⟩
 case pick c a b=>split at hh<;>first|exact⟨_,fun _=>⟨rfl,rfl⟩,hh⟩|exact hh.elim
 case jn x=>split at hh<;>first|exact⟨_,fun _=>⟨rfl,rfl⟩,hh⟩|exact hh.elim
 case ni=>split at hh<;>first|exact⟨_,fun _=>⟨rfl,rfl⟩,hh⟩|exact hh.elim
 case gW=>split at hh<;>first|exact⟨_,fun _=>⟨rfl,rfl⟩,hh⟩|exact hh.elim
 case K4=>split at hh<;>first|exact⟨_,fun _=>⟨rfl,rfl⟩,hh⟩|exact hh.elim
 case r7=>split at hh<;>first|exact⟨_,fun _=>⟨rfl,rfl⟩,hh⟩|exact hh.elim
 case eV=>split at hh<;>first|exact⟨_,fun _=>⟨rfl,rfl⟩,hh⟩|exact hh.elim
 case len=>split at hh<;>first|exact⟨_,fun _=>⟨rfl,rfl⟩,hh⟩|exact hh.elim
 case ext=>split at hh<;>first|exact⟨_,fun _=>⟨hh.1,rfl,rfl⟩,hh.2⟩|exact hh.elim
 case field=>split at hh<;>first|exact⟨_,fun _=>⟨hh.1,hh.2.1,rfl,rfl⟩,hh.2.2⟩|exact hh.elim
 case eJ=>split at hh<;>first|exact⟨_,fun _=>⟨hh.1,hh.2.1,rfl,rfl⟩,hh.2.2⟩|exact hh.elim
 case zg=>split at hh<;>first|exact⟨_,fun _=>⟨hh.1,hh.2.1,hh.2.2.1,hh.2.2.2.1,rfl,rfl⟩,hh.2.2.2.2⟩|exact hh.elim
 case mK x lo hi =>
  split at hh
  ·obtain⟨v,h1,h2⟩:=pz hh
   obtain⟨u,h3,h4⟩:=pz h2
   exact⟨_,fun _=>cC (fun v' e=>by subst e;exact cC (fun u' e=>by subst e;exact⟨rfl,rfl⟩) h3) h1,h4⟩
  ·exact hh.elim
 case call q f args=>split at hc<;>cases hc
theorem adk{o:aX}{e:Env}{σ : ai}{K Kp:AV→ai→Prop}(hc:o.cls = .rd)(hh:o.run P e σ K Kp): ∃ v,(∀ τ,o.run P e (σ++ τ) (Is v (σ++ τ)) No)∧K v σ:=by
 cases o<;>simp only[aX.cls]at hc<;>(try (cases hc;done))<;>simp only[aX.run]at hh ⊢
 case bD mt el z n ps=>split at hc<;>cases hc
 case load ag n x=>obtain⟨v,h1,h2⟩:=Yw hh;exact⟨v,fun τ=>yB (fun v' e=>⟨e,rfl⟩) (h1 τ),h2⟩
 case uV x =>
  obtain⟨v,h1,s,h2,h3⟩:=Yx hh.2
  exact⟨_,fun τ=>⟨hh.1,yC (fun v' (e:v'=v)=>⟨s,by rw[e];exact h2,rfl,rfl⟩) (h1 τ)⟩,h3⟩
 case EO el x =>
  split at hh
  ·exact⟨_,fun _=>⟨rfl,rfl⟩,hh⟩
  ·obtain⟨h0,hh⟩:=hh
   split at hh
   ·rename_i h
    refine⟨_,fun τ=>⟨h0,?_⟩,hh.2.2.2⟩
    simp only[kQ τ h]
    exact⟨hh.1,hh.2.1,hh.2.2.1,by trivial⟩
   ·exact hh.elim
  ·exact hh.elim
 case uW el x lo hi =>
  split at hh
  ·obtain⟨v,h1,h2⟩:=pz hh
   obtain⟨u,h3,h4⟩:=pz h2
   exact⟨_,fun _=>cC (fun v' e=>by subst e;exact cC (fun u' e=>by subst e;exact⟨rfl,rfl⟩) h3) h1,h4⟩
  ·obtain⟨v,h1,h2⟩:=pz hh.2
   obtain⟨u,h3,h4⟩:=pz h2
   exact⟨_,fun _=>⟨hh.1,cC (fun v' e=>by subst e;exact cC (fun u' e=>by subst e;exact⟨rfl,rfl⟩) h3) h1⟩,h4⟩
  ·obtain⟨h0,hh⟩:=hh
   split at hh
   ·rename_i h
    obtain⟨v,h1,h2⟩:=pz hh.2.2.2
    obtain⟨u,h3,h4⟩:=pz h2
    refine⟨_,fun τ=>⟨h0,?_⟩,h4⟩
    simp only[kQ τ h]
    exact⟨hh.1,hh.2.1,hh.2.2.1,cC (fun v' e=>by subst e;exact cC (fun u' e=>by subst e;exact⟨rfl,rfl⟩) h3) h1⟩
   ·exact hh.elim
  ·exact hh.elim
 case bQ el arr x i =>
  split at hh
  ·split at hh
   ·exact⟨_,fun τ=>⟨hh.1,hh.2.1,hh.2.2.1,rfl,rfl⟩,hh.2.2.2⟩
   ·obtain⟨h0,h1,h2,hh⟩:=hh
    split at hh
    ·rename_i h
     refine⟨_,fun τ=>⟨h0,h1,h2,?_⟩,hh.2.2⟩
     simp only[kQ τ h]
     exact⟨hh.1,hh.2.1,by trivial⟩
    ·exact hh.elim
   ·exact⟨_,fun τ=>⟨hh.1,hh.2.1,rfl,rfl⟩,hh.2.2⟩
   ·exact⟨_,fun τ=>⟨hh.1,hh.2.1,rfl,rfl⟩,hh.2.2⟩
   ·exact⟨_,fun τ=>⟨hh.1,hh.2.1,rfl,rfl⟩,hh.2.2⟩
   ·exact hh.elim
  ·exact hh.elim
 case call q f args =>
  cases q with
  | false=>cases hc
  | true =>
    split at hh
    ·simp only[if_true]at hh ⊢
     obtain⟨r,h1,h2⟩:=hh
     exact⟨r,fun τ=>⟨r,fun τ'=>by rw[List.append_assoc σ];exact h1 _,rfl,rfl⟩,h2⟩
    ·exact hh.elim
    ·exact hh.elim
theorem Z0{o:aX}{e:Env}{σ : ai}{K Kp:AV→ai→Prop}(hc:o.cls = .al)(hh:o.run P e σ K Kp): ∃ v τ,o.run P e σ (Is v (σ++ τ)) No∧K v (σ++ τ):=by
 cases o<;>simp only[aX.cls]at hc<;>(try (cases hc;done))<;>simp only[aX.run]at hh ⊢
 case alloc T cs=>exact⟨_,_,⟨rfl,rfl⟩,hh⟩
 case zi=>exact⟨_,_,⟨hh.1,rfl,rfl⟩,hh.2⟩
 case iB el=>exact⟨_,_,⟨rfl,rfl⟩,hh⟩
 case box x=>exact⟨_,_,⟨hh.1,rfl,rfl⟩,hh.2⟩
 case K5 x=>split at hh<;>first|exact⟨_,_,⟨hh.1,rfl,rfl⟩,hh.2⟩|exact hh.elim
 case oh=>split at hh<;>first|exact⟨_,_,⟨hh.1,hh.2.1,hh.2.2.1,hh.2.2.2.1,rfl,rfl⟩,hh.2.2.2.2⟩|exact hh.elim
 case call q f args=>split at hc<;>cases hc
 case bD mt el z n ps =>
  cases mt
  ·cases hc
  ·obtain⟨v,h1,h2⟩:=DE _ _ hh
   simp only[if_true]at h2 ⊢
   exact⟨_,_,tI (fun v' e=>by subst e;exact⟨rfl,rfl⟩) _ _ h1,h2⟩
theorem Ox{σ : ai}{n:Nat}{p v:AV}{K:ai→Prop}(hh:pq σ n p v K): ∃ l o o',σ[l]? = some o∧o.like o'∧p.obj=some l∧pq σ n p v (fun s=>s = σ.set l o')∧K (σ.set l o'):=by
 unfold pq at hh
 obtain⟨h1,h2,hh⟩:=hh
 split at hh
 ·split at hh
  ·rename_i h
   exact⟨_,_,_,h,trivial,rfl,by simp only[pq,h];exact⟨h1,h2,hh.1,trivial⟩,hh.2⟩
  ·exact hh.elim
 ·split at hh
  ·rename_i h
   obtain⟨e1,e2,e3,e4,e5,hK⟩:=hh
   subst e1
   exact⟨_,_,_,h,⟨_,rfl,by simp⟩,rfl,by simp only[pq,h];exact⟨h1,h2,trivial,e2,e3,e4,e5,trivial⟩,hK⟩
  ·exact hh.elim
 ·exact hh.elim
theorem adl{o:aX}{e:Env}{σ : ai}{K Kp:AV→ai→Prop}(hc:o.cls = .st)(hh:o.run P e σ K Kp): ∃ v σ',o.run P e σ (Is v σ') No∧K v σ':=by
 cases o<;>simp only[aX.cls]at hc<;>(try (cases hc;done))<;>simp only[aX.run]at hh ⊢
 case bD=>split at hc<;>cases hc
 case call=>split at hc<;>cases hc
 case j9 f args =>
  split at hh
  ·unfold Iq at *
   split at hh
   ·obtain⟨l,ob,lu,r,h1,h2,h3,h4,h5⟩:=hh
    exact⟨r,_,⟨l,ob,lu,r,h1,h2,h3,h4,rfl,rfl⟩,h5⟩
   ·exact hh.elim
  ·exact hh.elim
 case store n x v =>
  obtain⟨l,o,o',_,_,_,h1,h2⟩:=Ox hh
  exact⟨_,_,I8 (fun s e=>⟨rfl,e⟩) h1,h2⟩
 case jb k T cs =>
  split at hh
  ·rename_i n h1
   split at hh
   ·rename_i h2
    exact⟨_,_,⟨rfl,rfl⟩,hh⟩
   ·exact hh.elim
  ·exact hh.elim
 case nx k T el x y =>
  split at hh
  ·split at hh
   ·split at hh
    ·exact⟨_,_,⟨hh.1,hh.2.1,hh.2.2.1,rfl,rfl⟩,hh.2.2.2⟩
    ·exact hh.elim
   ·exact hh.elim
  ·exact hh.elim
theorem adn{o:aX}{e:Env}{σ : ai}{K Kp:AV→ai→Prop}(hc:o.cls = .ap)(hh:o.run P e σ K Kp): ∃ v σ',o.run P e σ (Is v σ') No∧K v σ':=by
 cases o<;>simp only[aX.cls]at hc<;>(try (cases hc;done))<;>simp only[aX.run]at hh ⊢
 case bD=>split at hc<;>cases hc
 case call=>split at hc<;>cases hc
 case app T el x y =>
  have key:∀ ys:List AV,∀ K':AV→ai→Prop,(ys.all (fun a=>a.fits el)=true∧match x.ev e with
   | .ae=>if ys.length=0 then K' .ae σ else dX ys.length el∧K' (.own el σ.length ys.length 0 ys.length) (σ++[.bM T el ys])
   | .aG true bu xs=>bu=el∧if ys.length=0 then K' (.aG true el xs) σ else dX (xs.length+ys.length) el∧K' (.own el σ.length (xs.length+ys.length) 0 (xs.length+ys.length)) (σ++[.bM T el (xs++ys)])
   | .own bu l m lo n => bu = el ∧ match σ[l]? with
     | some (.bM T' cL xs)=>(T'=none∨T'=T)∧cL=el∧m=xs.length∧lo=0∧n=xs.length∧dX (xs.length+ys.length) el∧K' (.own el l (xs.length+ys.length) 0 (xs.length+ys.length)) (σ.set l (.bM T' el (xs++ys)))
     | _=>False
   | _=>False)→ ∃ v σ',K' v σ'∧(ys.all (fun a=>a.fits el)=true∧match x.ev e with
   | .ae=>if ys.length=0 then Is v σ' .ae σ else dX ys.length el∧Is v σ' (.own el σ.length ys.length 0 ys.length) (σ++[.bM T el ys])
   | .aG true bu xs=>bu=el∧if ys.length=0 then Is v σ' (.aG true el xs) σ else dX (xs.length+ys.length) el∧Is v σ' (.own el σ.length (xs.length+ys.length) 0 (xs.length+ys.length)) (σ++[.bM T el (xs++ys)])
   | .own bu l m lo n => bu = el ∧ match σ[l]? with
     | some (.bM T' cL xs)=>(T'=none∨T'=T)∧cL=el∧m=xs.length∧lo=0∧n=xs.length∧dX (xs.length+ys.length) el∧Is v σ' (.own el l (xs.length+ys.length) 0 (xs.length+ys.length)) (σ.set l (.bM T' el (xs++ys)))
     | _=>False
   | _=>False):=fun ys K'=>by
   rintro⟨h1,h2⟩
   split at h2
   ·split at h2
    ·exact⟨_,_,h2,h1,by rw[if_pos (by assumption)];exact⟨rfl,rfl⟩⟩
    ·exact⟨_,_,h2.2,h1,by rw[if_neg (by assumption)];exact⟨h2.1,rfl,rfl⟩⟩
   ·obtain⟨rfl,h2⟩:=h2
    split at h2
    ·exact⟨_,_,h2,h1,rfl,by rw[if_pos (by assumption)];exact⟨rfl,rfl⟩⟩
    ·exact⟨_,_,h2.2,h1,rfl,by rw[if_neg (by assumption)];exact⟨h2.1,rfl,rfl⟩⟩
   ·obtain⟨rfl,h2⟩:=h2
    split at h2
    ·rename_i hk
     refine⟨_,_,h2.2.2.2.2.2.2,h1,rfl,?_⟩
     exact⟨h2.1,h2.2.1,h2.2.2.1,h2.2.2.2.1,h2.2.2.2.2.1,h2.2.2.2.2.2.1,rfl,rfl⟩
    ·exact h2.elim
   ·exact h2.elim
  have hh:fy σ el (y.ev e) fun ys=> ∃ v σ',K v σ'∧_:=yC (fun ys h=>key ys K h) hh
  have out:∀ {B:List AV→AV→ai→Prop},(fy σ el (y.ev e) fun ys=> ∃ v σ',K v σ'∧B ys v σ')→ ∃ v σ',(fy σ el (y.ev e) fun ys=>B ys v σ')∧K v σ':=fun {B} h=>by
   unfold fy at *
   split at h
   ·obtain⟨v,s,h1,h2⟩:=h;exact⟨v,s,h2,h1⟩
   ·obtain⟨h0,v,s,h1,h2⟩:=h;exact⟨v,s,⟨h0,h2⟩,h1⟩
   ·obtain⟨h0,h⟩:=h
    split at h
    ·obtain⟨q1,q2,v,s,h1,h2⟩:=h;exact⟨v,s,⟨h0,q1,q2,h2⟩,h1⟩
    ·exact h.elim
   ·obtain⟨h0,v,s,h1,h2⟩:=h;exact⟨v,s,⟨h0,h2⟩,h1⟩
   ·exact h.elim
  exact out hh
def aX.D(P:Program)(o:aX)(e:Env)(σ : ai)(v:AV)(σ':ai): Prop :=
 match o.cls with
 | .pu=>(∀ s,o.run P e s (Is v s) No)∧σ' = σ
 | .rd=>(∀ τ,o.run P e (σ++ τ) (Is v (σ++ τ)) No)∧σ' = σ
 | .al=>o.run P e σ (Is v σ') No
 | .st=>o.run P e σ (Is v σ') No
 | .ap=>o.run P e σ (Is v σ') No
 | .no=>False
theorem wP{o:aX}{e:Env}{σ : ai}{K Kp:AV→ai→Prop}{v:AV}{σ':ai}(hK:K v σ')(h:o.run P e σ (Is v σ') No): o.run P e σ K Kp :=
 zj (fun v' s h=>by obtain⟨e1,e2⟩:=h;subst e1;subst e2;exact hK) (fun _ _ h=>False.elim h) h
theorem Iu{o:aX}{e:Env}{σ : ai}{K Kp:AV→ai→Prop}(hc:o.cls≠ .no): o.run P e σ K Kp↔ ∃ v σ',o.D P e σ v σ'∧K v σ':=by
 unfold aX.D
 constructor
 ·intro hh
  split
  ·rename_i h;obtain⟨v,h1,h2⟩:=adj h hh;exact⟨v,σ,⟨h1,rfl⟩,h2⟩
  ·rename_i h;obtain⟨v,h1,h2⟩:=adk h hh;exact⟨v,σ,⟨h1,rfl⟩,h2⟩
  ·rename_i h;obtain⟨v,τ,h1,h2⟩:=Z0 h hh;exact⟨v,_,h1,h2⟩
  ·rename_i h;exact adl h hh
  ·rename_i h;exact adn h hh
  ·rename_i h;exact(hc h).elim
 ·rintro⟨v,σ',hD,hK⟩
  split at hD
  ·obtain⟨h1,rfl⟩:=hD
   exact wP hK (h1 _)
  ·obtain⟨h1,rfl⟩:=hD
   have h2:=h1 []
   rw[List.append_nil]at h2
   exact wP hK h2
  ·exact wP hK hD
  ·exact wP hK hD
  ·exact wP hK hD
  ·exact hD.elim
theorem Ug{o:aX}{e e':Env}{σ : ai}{v:AV}{σ':ai}(h:∀ t ∈ o.uses,e t=e' t)(hD:o.D P e σ v σ'): o.D P e' σ v σ':=by
 unfold aX.D at *
 split at hD
 ·exact⟨fun s=>by rw[← wO h];exact hD.1 s,hD.2⟩
 ·exact⟨fun s=>by rw[← wO h];exact hD.1 s,hD.2⟩
 ·rw[← wO h];exact hD
 ·rw[← wO h];exact hD
 ·rw[← wO h];exact hD
 ·exact hD.elim
theorem abm{o:aX}{e:Env}{σ : ai}{v:AV}{σ':ai}(hc:o.cls = .pu∨o.cls = .rd)(hD:o.D P e σ v σ'): σ' = σ:=by
 unfold aX.D at hD
 rcases hc with hc|hc<;>simp only[hc]at hD<;>exact hD.2
theorem abn{o:aX}{e:Env}{σ : ai}{v:AV}{σ':ai}(hc:o.cls = .pu∨o.cls = .rd)(hD:o.D P e σ v σ')(τ : ai): o.D P e (σ++ τ) v (σ++ τ):=by
 unfold aX.D at *
 rcases hc with hc|hc<;>simp only[hc]at hD ⊢
 ·exact⟨hD.1,trivial⟩
 ·exact⟨fun ahJ=>by rw[List.append_assoc];exact hD.1 _,trivial⟩
theorem abo{o:aX}{e:Env}{σ : ai}{v:AV}{σ':ai}(hc:o.cls = .pu)(hD:o.D P e σ v σ')(s:ai): o.D P e s v s:=by
 unfold aX.D at *
 simp only[hc]at hD ⊢
 exact⟨hD.1,trivial⟩
theorem ae4{o:aX}{e:Env}{σ : ai}{v:AV}{σ':ai}(hc:o.cls = .al)(hD:o.D P e σ v σ'): ∃ τ,σ' = σ++ τ:=by
 unfold aX.D at hD
 simp only[hc]at hD
 obtain⟨v',τ,_,h⟩:=Z0 hc hD
 exact⟨τ,h.2.symm⟩
def aX.qw: aX→Option (Option AX)
 | .load _ _ x=>some (some x)
 | .uW .. | .bQ ..=>some none
 | _=>none
def aX.sE: aX→Option AX
 | .store _ x _=>some x
 | .j9 _ (x::_)=>some x
 | .jb k _ _=>some (.t k)
 | .nx k _ _ _ _=>some (.t k)
 | .app _ _ x _=>some x
 | _=>none
def j6(p q:AV): Prop:= ∀ l,p.obj=some l→q.obj=some l→False
theorem Uh{σ τ : ai}{l:Nat}{o:aR}(h:l < σ.length): σ.set l o++ τ =(σ++ τ).set l o:=by
 rw[List.set_append_left _ _ h]
theorem Oy{σ : ai}{ag:Bool}{n:Nat}{p:AV}{K:AV→Prop}{l:Nat}{o:aR}(h:p.obj≠some l)(hh:lf σ ag n p K): lf (σ.set l o) ag n p K:=by
 unfold lf at *
 split at hh
 ·rename_i l' off
  have hne:l≠l':=fun e=>h (by rw[e];rfl)
  rw[List.getElem?_set_ne hne];exact hh
 ·exact hh
 ·rename_i el l' m i off
  have hne:l≠l':=fun e=>h (by rw[e];rfl)
  rw[List.getElem?_set_ne hne];exact hh
 ·exact hh
theorem ado{o:aX}{e:Env}{σ : ai}{v:AV}{σ':ai}{l:Nat}{ob lu:aR}{rx:Option AX}(hr:o.qw=some rx)(hl : σ[l]? = some ob)(K8:ob.like lu)(hap:∀ x,rx=some x→(x.ev e).obj≠some l)(hD:o.D P e σ v σ'):
 o.D P e (σ.set l lu) v (σ.set l lu):=by
 have hlt:l < σ.length:=(List.getElem?_eq_some_iff.1 hl).1
 have hc:o.cls = .rd:=by cases o<;>simp[aX.qw]at hr<;>rfl
 unfold aX.D at *
 simp only[hc]at hD ⊢
 refine⟨fun τ=>?_,trivial⟩
 have h:=hD.1 τ
 rw[Uh hlt]
 have hl':(σ++ τ)[l]? = some ob:=kQ τ hl
 generalize σ++ τ = s at *
 have QJ:l<s.length:=(List.getElem?_eq_some_iff.1 hl').1
 have shape:∀ (k:Nat) (T:Option TypeId) (el:El) (xs:List AV),s[k]? = some (.bM T el xs)→ ∃ ys,(s.set l lu)[k]? = some (.bM T el ys)∧ys.length=xs.length:=fun k T el xs hk=>by
  by_cases tJ:l=k
  ·subst tJ
   rw[hl']at hk
   cases hk
   obtain⟨ys,rfl,h2⟩:=K8
   exact⟨ys,by simp[QJ],h2⟩
  ·exact⟨xs,by rw[List.getElem?_set_ne tJ];exact hk,rfl⟩
 cases o<;>simp only[aX.qw]at hr<;>(try (cases hr;done))<;>simp only[aX.run]at h ⊢
 case load ag n x =>
  cases hr
  exact yB (fun v' h=>⟨h.1,rfl⟩) (Oy (hap x rfl) h)
 case uW el x lo hi =>
  split at h
  ·exact cC (fun _=>cC fun _ h=>⟨h.1,rfl⟩) h
  ·exact⟨h.1,cC (fun _=>cC fun _ h=>⟨h.1,rfl⟩) h.2⟩
  ·refine⟨h.1,?_⟩
   have h:=h.2
   split at h
   ·rename_i hk
    obtain⟨ys,h1,h2⟩:=shape _ _ _ _ hk
    simp only[h1,h2]
    exact⟨h.1,h.2.1,h.2.2.1,cC (fun _=>cC fun _ h=>⟨h.1,rfl⟩) h.2.2.2⟩
   ·exact h.elim
  ·exact h
 case bQ el arr x i =>
  split at h
  ·split at h
   ·exact⟨h.1,h.2.1,h.2.2.1,h.2.2.2.1,rfl⟩
   ·refine⟨h.1,h.2.1,h.2.2.1,?_⟩
    have h:=h.2.2.2
    split at h
    ·rename_i hk
     obtain⟨ys,h1,h2⟩:=shape _ _ _ _ hk
     simp only[h1,h2]
     exact⟨h.1,h.2.1,h.2.2.1,rfl⟩
    ·exact h.elim
   ·exact⟨h.1,h.2.1,h.2.2.1,rfl⟩
   ·exact⟨h.1,h.2.1,h.2.2.1,rfl⟩
   ·exact⟨h.1,h.2.1,h.2.2.1,rfl⟩
   ·exact h.elim
  ·exact h.elim
theorem abp{o:aX}{e:Env}{σ : ai}{v:AV}{σ':ai}(hc:o.cls = .st)(hD:o.D P e σ v σ'): ∃ y l ob lu,o.sE=some y∧σ[l]? = some ob∧ob.like lu∧(y.ev e).obj=some l∧σ' = σ.set l lu:=by
 unfold aX.D at hD
 simp only[hc]at hD
 cases o<;>simp only[aX.cls]at hc<;>(try (cases hc;done))<;>simp only[aX.run]at hD
 case bD=>split at hc<;>cases hc
 case call=>split at hc<;>cases hc
 case j9 f args =>
  split at hD
  ·cases args with
   | nil=>exact hD.elim
   | cons x xs =>
     obtain⟨l,ob,lu,r,h1,h2,h3,_,h5⟩:=hD
     exact⟨x,l,ob,lu,rfl,h2,h3,h1,h5.2.symm⟩
  ·exact hD.elim
 case store n x v =>
  obtain⟨l,ob,lu,h1,h2,h3,_,h5⟩:=Ox hD
  exact⟨x,l,ob,lu,rfl,h1,h2,h3,h5.2.symm⟩
 case jb k T cs =>
  split at hD
  ·rename_i n h1
   split at hD
   ·rename_i h2
    refine⟨.t k,n,.jz,.bj T cs,rfl,h2,trivial,?_,hD.2.symm⟩
    simp only[AX.ev,h1,AV.obj]
   ·exact hD.elim
  ·exact hD.elim
 case nx k T el x y =>
  split at hD
  ·rename_i n h1
   split at hD
   ·rename_i h2
    split at hD
    ·refine⟨.t k,n,.jz,.bM T el _,rfl,h2,trivial,?_,hD.2.2.2.2.symm⟩
     simp only[AX.ev,h1,AV.obj]
    ·exact hD.elim
   ·exact hD.elim
  ·exact hD.elim
def aX.QB: aX→Option Nat
 | .jb k _ _=>some k
 | .nx k _ _ _ _=>some k
 | _=>none
theorem Z1{o:aX}{k:Nat}{e:Env}{σ : ai}{v:AV}{σ':ai}(h:o.QB=some k)(hD:o.D P e σ v σ'):
 ∃ n ob,e k = .ref n 0∧σ[n]? = some .jz∧ob≠ .jz∧σ' = σ.set n ob∧ ∀ s:ai,s[n]? = some .jz→o.D P e s v (s.set n ob):=by
 cases o<;>simp[aX.QB]at h
 case jb k' T cs =>
  subst h
  have hD:aX.run P (.jb k' T cs) e σ (Is v σ') No:=hD
  simp only[aX.run]at hD
  split at hD
  ·rename_i n h1
   split at hD
   ·rename_i h2
    refine⟨n,_,h1,h2,by simp,hD.2.symm,fun s hs=>?_⟩
    show aX.run P (.jb k' T cs) e s (Is v _) No
    simp only[aX.run,h1,hs]
    exact⟨hD.1,rfl⟩
   ·exact hD.elim
  ·exact hD.elim
 case nx k' T el x y =>
  subst h
  have hD:aX.run P (.nx k' T el x y) e σ (Is v σ') No:=hD
  simp only[aX.run]at hD
  split at hD
  ·rename_i n h1
   split at hD
   ·rename_i h2
    split at hD
    ·rename_i ys h3
     refine⟨n,_,h1,h2,by simp,hD.2.2.2.2.symm,fun s hs=>?_⟩
     show aX.run P (.nx k' T el x y) e s (Is v _) No
     simp only[aX.run,h1,hs,h3]
     exact⟨hD.1,hD.2.1,hD.2.2.1,hD.2.2.2.1,rfl⟩
    ·exact hD.elim
   ·exact hD.elim
  ·exact hD.elim
def aX.om: aX→Option AX
 | .load _ _ x=>some x
 | .uW _ x _ _=>some x
 | .bQ _ _ x _=>some x
 | _=>none
theorem K9{o:aX}{x:AX}(h:o.om=some x): o.cls = .rd:=by
 cases o<;>simp[aX.om]at h<;>rfl
theorem Ui{o:aX}{e:Env}{σ : ai}{v:AV}{σ':ai}{x:AX}{l:Nat}{ob:aR}(hr:o.om=some x)(hlt:l < σ.length)(hne:(x.ev e).obj≠some l)(hD:o.D P e σ v σ'): o.D P e (σ.set l ob) v (σ.set l ob):=by
 have hc:=K9 hr
 unfold aX.D at *
 simp only[hc]at hD ⊢
 refine⟨fun τ=>?_,trivial⟩
 have h:=hD.1 τ
 rw[Uh hlt]
 generalize σ++ τ = s at *
 cases o<;>simp only[aX.om]at hr<;>(try (cases hr;done))<;>cases hr<;>simp only[aX.run]at h ⊢
 case load ag n =>
  exact yB (fun v' h=>⟨h.1,rfl⟩) (Oy hne h)
 case uW el lo hi =>
  split at h
  ·exact cC (fun _=>cC fun _ h=>⟨h.1,rfl⟩) h
  ·exact⟨h.1,cC (fun _=>cC fun _ h=>⟨h.1,rfl⟩) h.2⟩
  ·rename_i bu l' m o n hx
   have Yy:l≠l':=fun e=>hne (by rw[hx,e];rfl)
   refine⟨h.1,?_⟩
   have h:=h.2
   rw[List.getElem?_set_ne Yy]
   split at h
   ·rename_i hk
    simp only[hk]
    exact⟨h.1,h.2.1,h.2.2.1,cC (fun _=>cC fun _ h=>⟨h.1,rfl⟩) h.2.2.2⟩
   ·exact h.elim
  ·exact h
 case bQ el arr i =>
  split at h
  ·split at h
   ·exact⟨h.1,h.2.1,h.2.2.1,h.2.2.2.1,rfl⟩
   ·rename_i bu l' m o n hx
    have Yy:l≠l':=fun e=>hne (by rw[hx,e];rfl)
    refine⟨h.1,h.2.1,h.2.2.1,?_⟩
    have h:=h.2.2.2
    rw[List.getElem?_set_ne Yy]
    split at h
    ·rename_i hk
     simp only[hk]
     exact⟨h.1,h.2.1,h.2.2.1,rfl⟩
    ·exact h.elim
   ·exact⟨h.1,h.2.1,h.2.2.1,rfl⟩
   ·exact⟨h.1,h.2.1,h.2.2.1,rfl⟩
   ·exact⟨h.1,h.2.1,h.2.2.1,rfl⟩
   ·exact h.elim
  ·exact h.elim
theorem ae5{o:aX}{e:Env}{σ : ai}{v:AV}{σ':ai}(hc:o.cls = .ap)(hD:o.D P e σ v σ'): ∃ y,o.sE=some y∧((∃ τ,σ' = σ++ τ)∨ ∃ l ob,l < σ.length∧(y.ev e).obj=some l∧σ' = σ.set l ob):=by
 unfold aX.D at hD
 simp only[hc]at hD
 cases o<;>simp only[aX.cls]at hc<;>(try (cases hc;done))<;>simp only[aX.run]at hD
 case bD=>split at hc<;>cases hc
 case call=>split at hc<;>cases hc
 case app T el x y =>
  refine⟨x,rfl,?_⟩
  have key:∀ ys:List AV,(match x.ev e with
   | .ae=>if ys.length=0 then Is v σ' .ae σ else dX ys.length el∧Is v σ' (.own el σ.length ys.length 0 ys.length) (σ++[.bM T el ys])
   | .aG true bu xs=>bu=el∧if ys.length=0 then Is v σ' (.aG true el xs) σ else dX (xs.length+ys.length) el∧Is v σ' (.own el σ.length (xs.length+ys.length) 0 (xs.length+ys.length)) (σ++[.bM T el (xs++ys)])
   | .own bu l m lo n => bu = el ∧ match σ[l]? with
     | some (.bM T' cL xs)=>(T'=none∨T'=T)∧cL=el∧m=xs.length∧lo=0∧n=xs.length∧dX (xs.length+ys.length) el∧Is v σ' (.own el l (xs.length+ys.length) 0 (xs.length+ys.length)) (σ.set l (.bM T' el (xs++ys)))
     | _=>False
   | _=>False)→(∃ τ,σ' = σ++ τ)∨ ∃ l ob,l < σ.length∧(x.ev e).obj=some l∧σ' = σ.set l ob:=fun ys h=>by
   split at h
   ·split at h
    ·exact .inl ⟨[],by rw[List.append_nil];exact h.2.symm⟩
    ·exact .inl ⟨_,h.2.2.symm⟩
   ·have h:=h.2
    split at h
    ·exact .inl ⟨[],by rw[List.append_nil];exact h.2.symm⟩
    ·exact .inl ⟨_,h.2.2.symm⟩
   ·rename_i bu l m lo n hx
    have h:=h.2
    split at h
    ·rename_i hk
     exact .inr ⟨l,_,(List.getElem?_eq_some_iff.1 hk).1,by rw[hx];rfl,h.2.2.2.2.2.2.2.symm⟩
    ·exact h.elim
   ·exact h.elim
  unfold rh fy at hD
  split at hD
  ·exact key _ hD.2
  ·exact key _ hD.2.2
  ·have hD:=hD.2
   split at hD
   ·exact key _ hD.2.2.2
   ·exact hD.elim
  ·exact key _ hD.2.2
  ·exact hD.elim
end Go.AM
