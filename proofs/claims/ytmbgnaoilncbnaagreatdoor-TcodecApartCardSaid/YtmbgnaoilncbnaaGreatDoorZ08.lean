/- Part of a proof: see Root. -/
import Derived.Test.YtmbgnaoilncbnaaGreatDoorZ07
set_option linter.unnecessarySimpa false
set_option linter.unusedSimpArgs false
set_option linter.unusedVariables false
namespace Go.AM
def cq.uses(g:cq): List Nat:=g.op.uses++(match g.guard with|some (k,_)=>[k]|none=>[])
def gK(P:Program)(Q:AQ)(g:cq)(K:Env→ai→Prop)(e:Env)(σ : ai): Prop :=
 match g.guard with
 | none=>g.op.run P e σ (fun v σ'=>K (dJ e g.dst v) σ') (fun v σ'=>Q (.panic v) e σ')
 | some (k, b) => match e k with
   | .bool t => (t = b → g.op.run P (dJ e (some k) (.bool b)) σ (fun v σ' => K (dJ (dJ e (some k) (.bool b)) g.dst v) σ') (fun v σ' => Q (.panic v) (dJ e (some k) (.bool b)) σ')) ∧
      (t = !b→K (dJ (dJ e (some k) (.bool (!b))) g.dst (.bJ [])) σ)
   | .bJ []=>K (dJ e g.dst (.bJ [])) σ
   | _=>False
theorem vB{e:Env}{k:Nat}{v:AV}(h:e k=v): dJ e (some k) v=e:=by
 funext n;simp only[dJ];split
 ·rename_i h1;subst h1;exact h.symm
 ·rfl
section
variable {P:Program} {Q:AQ}
theorem qy(g:cq)(r:List cq)(e:Env)(σ : ai): dA P Q (g::r) e σ = gK P Q g (dA P Q r) e σ:=by
 obtain⟨o,d,gd⟩:=g
 cases gd with
 | none=>rfl
 | some kb=>obtain⟨k,b⟩:=kb;rfl
def cq.D(P:Program)(g:cq)(e:Env)(σ : ai)(v:AV)(σ':ai): Prop :=
 match g.guard with
 | none=>g.op.D P e σ v σ'
 | some (k, b) => match e k with
   | .bool t=>if t=b then g.op.D P e σ v σ' else v = .bJ []∧σ' = σ
   | .bJ []=>v = .bJ []∧σ' = σ
   | _=>False
theorem jU{g:cq}{e:Env}{σ : ai}{v:AV}{σ':ai}(h:g.D P e σ v σ'): (g.op.D P e σ v σ'∧ ∀ s u s',g.op.D P e s u s'→g.D P e s u s')∨(v = .bJ []∧σ' = σ∧ ∀ s,g.D P e s (.bJ []) s):=by
 unfold cq.D at *
 split at h
 ·exact .inl ⟨h,fun _ _ _ h=>h⟩
 ·split at h
  ·split at h
   ·rename_i h1 h2;simp only[if_pos h2];exact .inl ⟨h,fun _ _ _ h=>h⟩
   ·rename_i h1 h2;simp only[if_neg h2];exact .inr ⟨h.1,h.2,fun _=>⟨trivial,trivial⟩⟩
  ·exact .inr ⟨h.1,h.2,fun _=>⟨rfl,rfl⟩⟩
  ·exact h.elim
theorem iO{g:cq}{K:Env→ai→Prop}{e:Env}{σ : ai}(hc:g.op.cls≠ .no): gK P Q g K e σ↔ ∃ v σ',g.D P e σ v σ'∧K (dJ e g.dst v) σ':=by
 unfold gK cq.D
 split
 ·exact Iu hc
 ·rename_i k b hg
  split
  ·rename_i t ht
   by_cases htb:t=b
   ·subst htb
    rw[vB ht]
    simp only[↓reduceIte]
    constructor
    ·exact fun h=>(Iu hc).1 (h.1 trivial)
    ·exact fun h=>⟨fun _=>(Iu hc).2 h,fun h=>by cases t<;>cases h⟩
   ·have hn:t = !b:=by cases t<;>cases b<;>simp_all
    have hs:dJ e (some k) (.bool (!b))=e:=vB (by rw[ht,hn])
    simp only[if_neg htb,hs]
    constructor
    ·exact fun h=>⟨_,σ,⟨rfl,rfl⟩,h.2 hn⟩
    ·rintro⟨v,τ,⟨rfl,rfl⟩,h⟩
     exact⟨fun h'=>absurd h' htb,fun _=>h⟩
  ·constructor
   ·exact fun h=>⟨_,σ,⟨rfl,rfl⟩,h⟩
   ·rintro⟨v,τ,⟨rfl,rfl⟩,h⟩
    exact h
  ·constructor
   ·exact fun h=>h.elim
   ·exact fun⟨_,_,h,_⟩=>h.elim
theorem Q4{g:cq}{K K':Env→ai→Prop}{e:Env}{σ : ai}(h:∀ e σ,K e σ→K' e σ): gK P Q g K e σ→gK P Q g K' e σ:=by
 unfold gK
 split
 ·exact zj (fun v s=>h _ _) (fun _ _ h=>h)
 ·split
  ·exact fun hh=>⟨fun ht=>zj (fun v s=>h _ _) (fun _ _ h=>h) (hh.1 ht),fun ht=>h _ _ (hh.2 ht)⟩
  ·exact h _ _
  ·exact id
theorem Q5{g:cq}{e e':Env}{σ : ai}{v:AV}{σ':ai}(h:∀ t ∈ g.uses,e t=e' t)(hD:g.D P e σ v σ'): g.D P e' σ v σ':=by
 have ho:∀ t ∈ g.op.uses,e t=e' t:=fun t ht=>h t (List.mem_append_left _ ht)
 unfold cq.D at *
 split at hD
 ·rename_i hg;exact Ug ho hD
 ·rename_i k b hg
  have hk:e k=e' k:=h k (by simp[cq.uses,hg])
  rw[← hk]
  split at hD
  ·split at hD
   ·rename_i h1 h2;simp only[h1,if_pos h2];exact Ug ho hD
   ·rename_i h1 h2;simp only[h1,if_neg h2];exact hD
  ·simp_all
  ·exact hD.elim
theorem sW{g:cq}{e:Env}{σ : ai}{v:AV}{σ':ai}(hc:g.op.cls = .pu∨g.op.cls = .rd)(hD:g.D P e σ v σ'): σ' = σ:=by
 rcases jU hD with⟨h,_⟩|⟨_,h,_⟩
 ·exact abm hc h
 ·exact h
theorem Uo{g:cq}{e:Env}{σ : ai}{v:AV}{σ':ai}(hc:g.op.cls = .pu∨g.op.cls = .rd)(hD:g.D P e σ v σ')(τ : ai): g.D P e (σ++ τ) v (σ++ τ):=by
 rcases jU hD with⟨h,f⟩|⟨rfl,_,f⟩
 ·exact f _ _ _ (abn hc h τ)
 ·exact f _
theorem Up{g:cq}{e:Env}{σ : ai}{v:AV}{σ':ai}(hc:g.op.cls = .pu)(hD:g.D P e σ v σ')(s:ai): g.D P e s v s:=by
 rcases jU hD with⟨h,f⟩|⟨rfl,_,f⟩
 ·exact f _ _ _ (abo hc h s)
 ·exact f _
theorem ads{g:cq}{e:Env}{σ : ai}{v:AV}{σ':ai}(hc:g.op.cls = .al)(hD:g.D P e σ v σ'): ∃ τ,σ' = σ++ τ:=by
 rcases jU hD with⟨h,_⟩|⟨_,h,_⟩
 ·exact ae4 hc h
 ·exact⟨[],by simp[h]⟩
theorem abt{g:cq}{e:Env}{σ : ai}{v:AV}{σ':ai}{l:Nat}{ob lu:aR}{rx:Option AX}(hr:g.op.qw=some rx)(hl : σ[l]? = some ob)(K8:ob.like lu)(hap:∀ x,rx=some x→(x.ev e).obj≠some l)(hD:g.D P e σ v σ'):
 g.D P e (σ.set l lu) v (σ.set l lu):=by
 rcases jU hD with⟨h,f⟩|⟨rfl,_,f⟩
 ·exact f _ _ _ (ado hr hl K8 hap h)
 ·exact f _
theorem adt{g:cq}{e:Env}{σ : ai}{v:AV}{σ':ai}(hc:g.op.cls = .st)(hD:g.D P e σ v σ'): σ' = σ∨ ∃ y l ob lu,g.op.sE=some y∧σ[l]? = some ob∧ob.like lu∧(y.ev e).obj=some l∧σ' = σ.set l lu:=by
 rcases jU hD with⟨h,_⟩|⟨_,h,_⟩
 ·exact .inr (abp hc h)
 ·exact .inl h
def iP(d:Option Nat)(l:List Nat): Bool:=match d with
 | some d=> !l.contains d
 | none=>true
def QC(j k:aX): Bool :=
 match j.cls,k.cls with
 | .no,_|_,.no=>false
 | .pu,_|_,.pu=>true
 | .rd,.rd | .rd,.al=>true
 | .rd,.st=>j.qw.isSome
 | .st, .st => match j.QB, k.QB with
   | some a,some b=>a != b
   | _,_=>false
 | .st,.rd=>j.sE.isSome && k.om.isSome
 | .rd, .ap => match j.qw with
   | some (some _)=>true
   | _=>false
 | _,_=>false
def Lj(j k:cq): Bool :=
 QC j.op k.op && iP j.dst k.uses && iP k.dst j.uses && iP j.dst k.dst.toList
def needs(j k:cq): Option (AX × AX):=match j.op.qw,k.op.sE with
 | some (some x),some y=>some (x,y)
 | _, _ => match j.op.sE, k.op.om with
   | some y,some x=>some (x,y)
   | _,_=>none
theorem Vr{o:aX}{x:AX}(h:o.om=some x): o.sE=none:=by
 cases o<;>simp[aX.om]at h<;>rfl
theorem gR{e:Env}{d:Option Nat}{l:List Nat}{v:AV}(h:iP d l=true): ∀ t ∈ l,dJ e d v t=e t:=by
 intro t ht
 cases d with
 | none=>rfl
 | some d =>
   simp only[iP,Bool.not_eq_true',List.contains_eq_mem,decide_eq_false_iff_not]at h
   simp only[dJ]
   rw[if_neg (by rintro rfl;exact h ht)]
theorem YI{e:Env}{j k:Option Nat}{v u:AV}(h:iP j k.toList=true): dJ (dJ e j v) k u=dJ (dJ e k u) j v:=by
 funext t
 cases j with
 | none=>rfl
 | some j =>
   cases k with
   | none=>rfl
   | some k =>
     simp[iP]at h
     simp only[dJ]
     by_cases h1:t=k
     ·subst h1;simp[Ne.symm h]
     ·simp[h1]
theorem YJ{j k:aX}(h:QC j k=true): j.cls≠ .no∧k.cls≠ .no:=by
 unfold QC at h
 split at h<;>simp_all
theorem swap{j k:cq}{K:Env→ai→Prop}{e:Env}{σ : ai}(h:Lj j k=true)(hap:∀ x y,needs j k=some (x,y)→(iP j.dst (x.uses++y.uses)=true∧iP k.dst (x.uses++y.uses)=true)∧ ∀ e σ,K e σ→j6 (x.ev e) (y.ev e))
 (hh:gK P Q j (gK P Q k K) e σ):gK P Q k (gK P Q j K) e σ:=by
 simp only[Lj,Bool.and_eq_true]at h
 obtain⟨⟨⟨zp,s1⟩,s2⟩,s3⟩:=h
 obtain⟨hj,hk⟩:=YJ zp
 obtain⟨vj,σj,dj,hh⟩:=(iO hj).1 hh
 obtain⟨vk,σk,dk,hK⟩:=(iO hk).1 hh
 have EW:k.D P e σj vk σk:=Q5 (gR s1) dk
 have tr:∀ {s s'},j.D P e s vj s'→j.D P (dJ e k.dst vk) s vj s':=fun h=>Q5 (fun t ht=>(gR s2 t ht).symm) h
 have Ul:=hK
 rw[YI s3]at hK
 have kpu:k.op.cls = .pu→gK P Q k (gK P Q j K) e σ:=fun hc=>by
  have:=sW (.inl hc) EW
  subst this
  exact(iO hk).2 ⟨vk,σ,Up hc EW σ,(iO hj).2 ⟨vj,_,tr dj,hK⟩⟩
 have OM : σj = σ→j.D P e σk vj σk→gK P Q k (gK P Q j K) e σ:=fun h1 h2=>by
  subst h1
  exact(iO hk).2 ⟨vk,σk,EW,(iO hj).2 ⟨vj,_,tr h2,hK⟩⟩
 unfold QC at zp
 split at zp<;>(try (cases zp;done))
 ·rename_i hc _
  exact OM (sW (.inl hc) dj) (Up hc dj _)
 ·rename_i hc _ _
  exact kpu hc
 ·rename_i hc Jb
  have h1:=sW (.inr hc) dj
  have h2:=sW (.inr Jb) EW
  subst h1;subst h2
  exact OM rfl dj
 ·rename_i hc Jb
  have h1:=sW (.inr hc) dj
  subst h1
  obtain⟨τ,rfl⟩:=ads Jb EW
  exact OM rfl (Uo (.inr hc) dj τ)
 ·rename_i hc Jb
  have h1:=sW (.inr hc) dj
  subst h1
  rcases adt Jb EW with rfl|⟨y,l,ob,lu,hy,hl,K8,Q6,rfl⟩
  ·exact OM rfl dj
  ·obtain⟨rx,Ll⟩:=Option.isSome_iff_exists.1 zp
   refine OM rfl (abt Ll hl K8 (fun x hx=>?_) dj)
   subst hx
   have hn:needs j k=some (x,y):=by simp[needs,Ll,hy]
   obtain⟨⟨a1,a2⟩,a3⟩:=hap x y hn
   have ha:=a3 _ _ Ul
   have ex:∀ t ∈ x.uses++y.uses,dJ (dJ e j.dst vj) k.dst vk t=e t:=fun t ht=>by
    rw[gR a2 t ht,gR a1 t ht]
   rw[AX.dz (x:=x) (fun t ht=>ex t (List.mem_append_left _ ht)),AX.dz (x:=y) (fun t ht=>ex t (List.mem_append_right _ ht))]at ha
   exact fun h1=>ha l h1 Q6
 ·
  split at zp
  ·rename_i a b ra rb
   rcases jU dj with⟨dj1,dj2⟩|⟨rfl,rfl,Cu⟩
   ·rcases jU EW with⟨dk1,dk2⟩|⟨rfl,rfl,hk2⟩
    ·obtain⟨n,o1,n1,n2,n3,rfl,n4⟩:=Z1 ra dj1
     obtain⟨m,o2,m1,m2,m3,rfl,m4⟩:=Z1 rb dk1
     have hnm:n≠m:=by
      rintro rfl
      rw[List.getElem?_set_self (List.getElem?_eq_some_iff.1 n2).1]at m2
      exact n3 (Option.some.inj m2)
     rw[List.getElem?_set_ne hnm]at m2
     refine(iO hk).2 ⟨_,_,dk2 _ _ _ (m4 σ m2),(iO hj).2 ⟨_,_,tr (dj2 _ _ _ (n4 _ (by rw[List.getElem?_set_ne (Ne.symm hnm)];exact n2))),?_⟩⟩
     rw[List.set_comm _ _ (Ne.symm hnm)]
     exact hK
    ·exact(iO hk).2 ⟨_,_,hk2 σ,(iO hj).2 ⟨_,_,tr dj,hK⟩⟩
   ·exact(iO hk).2 ⟨_,_,EW,(iO hj).2 ⟨_,_,tr (Cu _),hK⟩⟩
  ·cases zp
 ·
  rename_i hc _
  simp only[Bool.and_eq_true,Option.isSome_iff_exists]at zp
  obtain⟨⟨y,ry⟩,x,rx⟩:=zp
  have h2:=sW (.inr (K9 rx)) EW
  subst h2
  rcases jU dj with⟨dj1,_⟩|⟨rfl,rfl,_⟩
  ·obtain⟨y',l,ob,lu,hy,n2,_,adu,rfl⟩:=abp hc dj1
   obtain rfl:y=y':=by rw[ry]at hy;exact Option.some.inj hy
   have hn:needs j k=some (x,y):=by
    unfold needs
    rw[Vr rx,ry,rx]
    cases j.op.qw with
    | none=>rfl
    | some o=>cases o<;>rfl
   obtain⟨⟨a1,a2⟩,a3⟩:=hap x y hn
   have ha:=a3 _ _ Ul
   have ex:∀ t ∈ x.uses++y.uses,dJ (dJ e j.dst vj) k.dst vk t=e t:=fun t ht=>by
    rw[gR a2 t ht,gR a1 t ht]
   rw[AX.dz (x:=x) (fun t ht=>ex t (List.mem_append_left _ ht)),AX.dz (x:=y) (fun t ht=>ex t (List.mem_append_right _ ht))]at ha
   have hlt:=(List.getElem?_eq_some_iff.1 n2).1
   have Q6:(x.ev e).obj≠some l:=fun h=>ha l h adu
   have back:(σ.set l lu).set l ob = σ:=by
    rw[List.set_set]
    apply List.ext_getElem?
    intro i
    by_cases hi:i=l
    ·subst hi;rw[List.getElem?_set_self hlt];exact n2.symm
    ·rw[List.getElem?_set_ne (Ne.symm hi)]
   have dk':k.D P e σ vk σ:=by
    rcases jU EW with⟨q1,q2⟩|⟨rfl,_,q⟩
    ·have:=Ui (ob:=ob) rx (by simpa using hlt) Q6 q1
     rw[back]at this
     exact q2 _ _ _ this
    ·exact q σ
   exact(iO hk).2 ⟨vk,σ,dk',(iO hj).2 ⟨vj,_,tr dj,hK⟩⟩
  ·exact(iO hk).2 ⟨vk,_,EW,(iO hj).2 ⟨_,_,tr dj,hK⟩⟩
 ·
  rename_i hc Jb
  have h1:=sW (.inr hc) dj
  subst h1
  split at zp
  ·rename_i x Ll
   have hro:j.op.om=some x:=by
    revert Ll
    cases j.op<;>simp[aX.qw,aX.om]
   rcases jU EW with⟨dk1,_⟩|⟨rfl,rfl,_⟩
   ·obtain⟨y,hy,⟨τ,rfl⟩|⟨l,ob,hlt,Q6,rfl⟩⟩:=ae5 Jb dk1
    ·exact OM rfl (Uo (.inr hc) dj τ)
    ·have hn:needs j k=some (x,y):=by simp[needs,Ll,hy]
     obtain⟨⟨a1,a2⟩,a3⟩:=hap x y hn
     have ha:=a3 _ _ Ul
     have ex:∀ t ∈ x.uses++y.uses,dJ (dJ e j.dst vj) k.dst vk t=e t:=fun t ht=>by
      rw[gR a2 t ht,gR a1 t ht]
     rw[AX.dz (x:=x) (fun t ht=>ex t (List.mem_append_left _ ht)),AX.dz (x:=y) (fun t ht=>ex t (List.mem_append_right _ ht))]at ha
     refine OM rfl ?_
     rcases jU dj with⟨q1,q2⟩|⟨rfl,_,q⟩
     ·exact q2 _ _ _ (Ui hro hlt (fun h=>ha l h Q6) q1)
     ·exact q _
   ·exact OM rfl dj
  ·cases zp
variable (P Q) in
def Vs(ops:Nat→cq)(qV:Nat→List Nat): Nat→List Nat→Env→ai→Prop
 | 0,l,e,σ=>l=[]∧Q .normal e σ
 | n+1,l,e,σ=>((∀ i ∈ l,∃ j ∈ qV i,j ∈ l)→Q .normal e σ)∧ ∀ i ∈ l,(∀ j ∈ qV i,j ∉ l)→gK P Q (ops i) (Vs ops qV n (l.erase i)) e σ
def aX.goes: aX→Bool
 | .app ..=>true
 | o=>o.cls != .no
theorem Q7{o:aX}{e:Env}{σ : ai}{K Kp:AV→ai→Prop}(h:o.goes=true)(hh:o.run P e σ K Kp): ∃ v σ',K v σ':=by
 by_cases hn:o.cls≠ .no
 ·obtain⟨v,σ',_,h⟩:=(Iu hn).1 hh
  exact⟨v,σ',h⟩
 ·cases o<;>simp[aX.goes]at h<;>(try (exact absurd h hn))
  rename_i T el x1 y1
  simp only[aX.run,rh]at hh
  generalize AX.ev e _=y at hh
  have key:∀ (ys:List AV) (x:AV),(match x with
   | .ae=>if ys.length=0 then K .ae σ else dX ys.length el∧K (.own el σ.length ys.length 0 ys.length) (σ++[.bM T el ys])
   | .aG true bu xs=>bu=el∧if ys.length=0 then K (.aG true el xs) σ else dX (xs.length+ys.length) el∧K (.own el σ.length (xs.length+ys.length) 0 (xs.length+ys.length)) (σ++[.bM T el (xs++ys)])
   | .own bu l m lo n => bu = el ∧ match σ[l]? with
     | some (.bM T' cL xs)=>(T'=none∨T'=T)∧cL=el∧m=xs.length∧lo=0∧n=xs.length∧dX (xs.length+ys.length) el∧K (.own el l (xs.length+ys.length) 0 (xs.length+ys.length)) (σ.set l (.bM T' el (xs++ys)))
     | _=>False
   | _=>False)→ ∃ v σ',K v σ':=fun ys x hx=>by
   split at hx
   ·split at hx
    ·exact⟨_,_,hx⟩
    ·exact⟨_,_,hx.2⟩
   ·replace hx:=hx.2
    split at hx
    ·exact⟨_,_,hx⟩
    ·exact⟨_,_,hx.2⟩
   ·replace hx:=hx.2
    split at hx
    ·exact⟨_,_,hx.2.2.2.2.2.2⟩
    ·exact hx.elim
   ·exact hx.elim
  unfold fy at hh
  split at hh
  ·exact key _ _ hh.2
  ·exact key _ _ hh.2.2
  ·replace hh:=hh.2
   split at hh
   ·exact key _ _ hh.2.2.2
   ·exact hh.elim
  ·exact key _ _ hh.2.2
  ·exact hh.elim
theorem YK{g:cq}{K:Env→ai→Prop}{e:Env}{σ : ai}(hc:g.op.goes=true)(h:gK P Q g K e σ): ∃ v σ',K (dJ e g.dst v) σ':=by
 unfold gK at h
 split at h
 ·exact Q7 hc h
 ·rename_i k b hg
  split at h
  ·rename_i t ht
   by_cases htb:t=b
   ·obtain⟨v,s,h⟩:=Q7 hc (h.1 htb)
    rw[vB (by rw[ht,htb])]at h
    exact⟨v,s,h⟩
   ·have hn:t = !b:=by cases t<;>cases b<;>simp_all
    have h:=h.2 hn
    rw[vB (by rw[ht,hn])]at h
    exact⟨_,_,h⟩
  ·exact⟨_,_,h⟩
  ·exact h.elim
theorem Xc{C:Env→Prop}{us:List Nat}(hC:∀ e σ,Q .normal e σ→C e)(Uq:∀ e e',(∀ t ∈ us,e' t=e t)→C e'→C e): ∀(l:List cq) (e:Env) (σ : ai),(∀ g ∈ l,g.op.goes=true∧iP g.dst us=true)→dA P Q l e σ→C e
 | [],e,σ,_,h=>hC e σ h
 | g :: l, e, σ, hl, h => by
   rw[qy]at h
   obtain⟨h1,h2⟩:=hl g (by simp)
   obtain⟨v,σ',h⟩:=YK h1 h
   exact Uq e _ (gR h2) (Xc hC Uq l _ σ' (fun g hg=>hl g (by simp[hg])) h)
theorem Q8{jK:List (AX × AX)}{e:Env}(h:pD jK e){x y:AX}(hm:(x,y) ∈ jK): j6 (x.ev e) (y.ev e):=by
 induction jK with
 | nil=>cases hm
 | cons p r ih =>
   obtain⟨a,b⟩:=p
   rcases List.mem_cons.1 hm with h1|h1
   ·cases h1;exact h.1
   ·exact ih h.2 h1
def Q9(ops:Nat→cq)(n:Nat)(jK:List (AX × AX))(ck:List Nat)(j k:Nat): Prop :=
 Lj (ops j) (ops k)=true∧ ∀ x y,needs (ops j) (ops k)=some (x,y)→(x,y) ∈ jK∧ ∀ m,j≤m→m<n→(m=k∨m ∉ ck)→(ops m).op.goes=true∧iP (ops m).dst (x.uses++y.uses)=true
theorem Xd{ops:Nat→cq}{n:Nat}{jK:List (AX × AX)}{k:Nat}{ck:List Nat}{l2:List Nat}: ∀(l1:List Nat) (e:Env) (σ : ai),(∀ j ∈ l1,Q9 ops n jK ck j k)→(∀ m ∈ l1++l2,m ∉ ck)→(l1++k::l2).Pairwise (· < ·)→(∀ i ∈ l1++k::l2,i<n) →
 dA P (ny jK Q) ((l1++k::l2).map ops) e σ→dA P (ny jK Q) ((k::(l1++l2)).map ops) e σ
 | [],e,σ,_,_,_,_,h=>h
 | j :: l1, e, σ, hc, hnc, hs, hn, h => by
   rw[List.cons_append,List.map_cons,qy]at h
   rw[List.map_cons,qy,List.cons_append,List.map_cons]
   have heq:dA P (ny jK Q) (ops j::(l1++l2).map ops)=gK P (ny jK Q) (ops j) (dA P (ny jK Q) ((l1++l2).map ops)):=by funext e σ;exact qy _ _ _ _
   rw[heq]
   rw[List.cons_append,List.pairwise_cons]at hs
   obtain⟨zq,Q_⟩:=hc j (by simp)
   refine swap zq (fun x y hxy=>?_) (Q4 (fun e σ h=>?_) h)
   ·obtain⟨hm,hall⟩:=Q_ x y hxy
    have Cv:j<k:=hs.1 k (by simp)
    refine⟨⟨(hall j (Nat.le_refl _) (hn j (by simp)) (.inr (hnc j (by simp)))).2,(hall k (Nat.le_of_lt Cv) (hn k (by simp)) (.inl rfl)).2⟩,fun e σ hK=>?_⟩
    refine Xc (Q:=ny jK Q) (C:=fun e=>j6 (x.ev e) (y.ev e)) (us:=x.uses++y.uses) (fun e σ h=>Q8 h.1 hm) (fun e e' he h=>?_) _ e σ (fun g hg=>?_) hK
    ·rw[AX.dz (x:=x) (fun t ht=>(he t (List.mem_append_left _ ht)).symm),AX.dz (x:=y) (fun t ht=>(he t (List.mem_append_right _ ht)).symm)]
     exact h
    ·obtain⟨m,wT,rfl⟩:=List.mem_map.1 hg
     have Gm:m ∈ l1++k::l2:=by
      rcases List.mem_append.1 wT with h|h<;>simp[h]
     exact hall m (Nat.le_of_lt (hs.1 m Gm)) (hn m (List.mem_cons_of_mem _ Gm)) (.inr (hnc m (List.mem_cons_of_mem _ wT)))
   ·have:=Xd l1 e σ (fun j hj=>hc j (by simp[hj])) (fun m hm=>hnc m (List.mem_cons_of_mem _ hm)) hs.2 (fun i hi=>hn i (List.mem_cons_of_mem _ hi)) h
    simpa only[List.map_cons,qy]using this
theorem behind{qV cl:Nat→List Nat}{l:List Nat}(hlt:∀ k,∀ m ∈ qV k,m<k)(c_:∀ k,∀ j ∈ cl k,j ∈ qV k∨ ∃ m ∈ qV k,j ∈ cl m)(hinv:∀ z,z ∉ l→ ∀ i ∈ qV z,i ∉ l){j:Nat}:
 ∀(k:Nat),(∀ i ∈ qV k,i ∉ l)→j ∈ cl k→j ∉ l:=by
 intro k
 induction k using Nat.strongRecOn with
 | _ k ih =>
   intro hr hj
   rcases c_ k j hj with h|⟨m,hm,h⟩
   ·exact hr j h
   ·exact ih m (hlt k m hm) (hinv m (hr m hm)) h
theorem Tb{ops:Nat→cq}{qV cl:Nat→List Nat}{N:Nat}{jK:List (AX × AX)}(hlt:∀ k,∀ m ∈ qV k,m<k)(c_:∀ k,∀ j ∈ cl k,j ∈ qV k∨ ∃ m ∈ qV k,j ∈ cl m): ∀(n:Nat) (l:List Nat) (e:Env) (σ : ai),l.length=n →
 (∀ z,z ∉ l→ ∀ i ∈ qV z,i ∉ l)→(∀ i ∈ l,i<N)→l.Pairwise (fun j k=>j<k∧(j ∈ cl k∨Q9 ops N jK (cl k) j k))→dA P (ny jK Q) (l.map ops) e σ→Vs P (ny jK Q) ops qV n l e σ:=by
 intro n
 induction n with
 | zero=>intro l e σ hl _ _ _ h;cases l with|nil=>exact⟨rfl,h⟩|cons=>cases hl
 | succ n ih =>
   intro l e σ hl hinv hN hp h
   refine⟨fun hno=>?_,fun i hi hr=>?_⟩
   ·cases l with
    | nil=>exact h
    | cons x r =>
      obtain⟨j,hj,hjl⟩:=hno x (by simp)
      have h1:=hlt x j hj
      rcases List.mem_cons.1 hjl with rfl|h2
      ·exact absurd h1 (Nat.lt_irrefl _)
      ·have:=((List.pairwise_cons.1 hp).1 j h2).1
       omega
   ·obtain⟨l1,l2,rfl,hni⟩:=List.eq_append_cons_of_mem hi
    have he:(l1++i::l2).erase i=l1++l2:=by rw[List.erase_append_right _ hni,List.erase_cons_head]
    have hp':=List.pairwise_append.1 hp
    have hcp:∀ j ∈ l1,Q9 ops N jK (cl i) j i:=fun j hj=>by
     rcases(hp'.2.2 j hj i (by simp)).2 with h1|h1
     ·exact absurd (by simp[hj]) (behind hlt c_ hinv i hr h1)
     ·exact h1
    have hb:=Xd l1 e σ hcp (fun m hm hmc=>behind hlt c_ hinv i hr hmc (by rcases List.mem_append.1 hm with h|h<;>simp[h])) (hp.imp fun h=>h.1) hN h
    rw[List.map_cons,qy]at hb
    rw[he]
    refine Q4 (fun e σ h=>ih _ e σ ?_ (fun z hz j hj hjl=>?_) (fun m hm=>hN m ?_) ?_ h) hb
    ·simp at hl ⊢;omega
    ·have abu : j ∈ l1 ++ i :: l2 := by
      rcases List.mem_append.1 hjl with h|h<;>simp[h]
     by_cases hzi:z=i
     ·subst hzi;exact hr j hj abu
     ·refine hinv z (fun hz'=>hz ?_) j hj abu
      rcases List.mem_append.1 hz' with h|h
      ·simp[h]
      ·rcases List.mem_cons.1 h with h|h
       ·exact absurd h hzi
       ·simp[h]
    ·rcases List.mem_append.1 hm with h|h<;>simp[h]
    ·refine List.Pairwise.sublist ?_ hp
     exact List.Sublist.append_left (List.sublist_cons_self _ _) _
end
section
variable {P:Program}
def CG(P:Program)(nt:Nat)(h:Hints)(dr:Bool)(all:Array Oper)(o:Oper)(g:cq): Prop :=
 wQ P nt h dr o=some g.op∧g.dst=o.dst∧match o.guard with
  | none=>g.guard=none
  | some (j,b)=> ∃ k,(all[j]?).bind (·.dst)=some k∧k<nt∧g.guard=some (k,b)
theorem Cw{nt:Nat}{h:Hints}{dr:Bool}{all:Array Oper}: ∀(l:List Oper) (gs:List cq),j_ P nt h dr all l=some gs→gs.length=l.length∧ ∀(i:Nat) (o:Oper),l[i]? = some o→ ∃ g,gs[i]? = some g∧CG P nt h dr all o g:=by
 intro l
 induction l with
 | nil=>intro gs hc;cases hc;exact⟨rfl,fun i o hi=>by cases hi⟩
 | cons o l ih =>
   intro gs hc
   simp only[j_]at hc
   split at hc
   ·rename_i ao gs' h1 h2
    obtain⟨i1,i2⟩:=ih gs' h2
    split at hc
    ·rename_i hg
     cases hc
     refine⟨by simp[i1],fun i o' hi=>?_⟩
     cases i with
     | zero=>cases hi;exact⟨_,rfl,h1,rfl,by rw[hg]⟩
     | succ i=>exact i2 i o' hi
    ·rename_i j b hg
     split at hc
     ·rename_i k hk
      split at hc
      ·rename_i hlt
       cases hc
       refine⟨by simp[i1],fun i o' hi=>?_⟩
       cases i with
       | zero=>cases hi;exact⟨_,rfl,h1,rfl,by rw[hg];exact⟨k,hk,hlt,rfl⟩⟩
       | succ i=>exact i2 i o' hi
      ·cases hc
     ·cases hc
   ·cases hc
theorem Xe{ro:Option Nat}{wn:Nat}{nt:Nat}{h:Hints}{dr:Bool}{ops:Array Oper}{B:Nat}{Q:AQ}{g0:aK}{w0:World}{sS:ai}{o:Oper}{gp:cq}{i:Nat}{K:Env→ai→Prop}{KK:Act→World→Prop}
 {g:aK} {w:World} {σ : ai} {e:Env} {a:Act} (Uq:CG P nt h dr ops o gp) (h0:ops[i]? = some o) (hR:Rel g w σ) (hE:ek nt g w e a.tmps) (hd:iC B σ g w a.defers) (hev:eM sS g0 w0 σ g w)
 (hk:∀ g' w' σ' e' a',K e' σ'→Rel g' w' σ'→ek nt g' w' e' a'.tmps→iC B σ' g' w' a'.defers→eM sS g0 w0 σ' g' w'→KK a' w') (hw:gK P Q gp K e σ):wpOpIn (WF ro) wn P ops (QR nt B g0 w0 sS Q) i KK a w:=by
 obtain⟨h1,hds,hgd⟩:=Uq
 have go:∀ (e1:Env),ek nt g w e1 a.tmps→gp.op.run P e1 σ (fun v σ'=>K (dJ e1 gp.dst v) σ') (fun v σ'=>Q (.panic v) e1 σ')→o.wpIn (WF ro) wn P a w KK (QR nt B g0 w0 sS Q):=fun e1 zo hrun=>by
  rw[hds]at hrun
  refine Oper.Q3 ?_ ?_ (Q1 h1 hR zo hrun)
  ·rintro a' w' ⟨v,g',av,σ',rfl,r1,r2,r3,r4⟩
   exact hk g' w' σ' (dJ e1 o.dst av) (a.put o.dst v) r4 r1 ((zo.mono r2.mono).put o.dst r3) (by rw[put_defers];exact hd.step r2) (hev.trans r2)
  ·rintro ex a' w' ⟨rfl,v,g',av,σ',rfl,r1,r2,r3,r4⟩
   exact⟨g',e1,σ',hd.step r2,r1,zo.mono r2.mono,hev.trans r2,v,av,rfl,r3,r4⟩
 have pass:∀ (e1:Env),ek nt g w e1 a.tmps→K (dJ e1 gp.dst (.bJ [])) σ→KK (a.put o.dst Go.undef) w:=fun e1 zo hrun =>
  hk g w σ (dJ e1 gp.dst (.bJ [])) (a.put o.dst Go.undef) hrun hR (by rw[hds];exact zo.put o.dst (.bJ [] #[] rfl (fun i hi=>absurd hi (Nat.not_lt_zero _)))) (by rw[put_defers];exact hd) hev
 unfold wpOpIn
 simp only[h0]
 unfold gK at hw
 split at hgd
 ·rename_i hg
  simp only[hgd]at hw
  have Vq:Region.wanted o (yielded ops a.tmps)=true:=by simp[Region.wanted,hg]
  rw[if_pos Vq]
  exact go e hE hw
 ·rename_i j b hg
  obtain⟨k,hk',hlt,hgg⟩:=hgd
  simp only[hgg]at hw
  obtain⟨w1,w2⟩:=OL (ops:=ops) hE hg hk' hlt
  split at hw
  ·rename_i t ht
   have hwn:=w1 t ht
   by_cases htb:t=b
   ·subst htb
    rw[hwn,if_pos (by simp)]
    exact go _ (hE.congr ht) (hw.1 rfl)
   ·have:t = !b:=by cases t<;>cases b<;>simp_all
    rw[hwn,if_neg (by simpa using htb)]
    refine⟨fun _ _=>trivial,pass _ (hE.congr ?_) (hw.2 this)⟩
    rw[ht,this]
  ·rename_i ht
   rw[w2 ht,if_neg (by simp)]
   exact⟨fun _ _=>trivial,pass e hE hw⟩
  ·exact hw.elim
def iU(ops:Array Oper)(i:Nat): List Nat :=
 match ops[i]? with
 | some o=>(o.after.toList.filter (Region.binds .any)).map (·.on)
 | none=>[]
def r9: cq:=⟨.iB ⟨false,0⟩,none,none⟩
theorem Xf{ro:Option Nat}{wn:Nat}{nt:Nat}{h:Hints}{ops:Array Oper}{B:Nat}{Q:AQ}{g0:aK}{w0:World}{sS:ai}{gs:List cq}(hc:j_ P nt h true ops ops.toList=some gs)(hlt:∀ i,∀ j ∈ iU ops i,j<i):
 ∀ (n : Nat) (l : List Nat) (listed : Array Bool) (g : aK) (w : World) (σ : ai) (e : Env) (a : Act), listed.size = ops.size → l.Nodup → (∀ i, i ∈ l ↔ i < ops.size ∧ listed.getD i true = false) →
   Vs P Q (fun i=>gs.getD i r9) (iU ops) n l e σ→Rel g w σ→ek nt g w e a.tmps→iC B σ g w a.defers→eM sS g0 w0 σ g w →
   wpAnyIn (WF ro) wn P .any ops (QR nt B g0 w0 sS Q) n listed a w:=by
 obtain⟨hlen,xy⟩:=Cw ops.toList gs hc
 have mem:∀ (l:List Nat) (listed:Array Bool),(∀ i,i ∈ l↔i<ops.size∧listed.getD i true=false)→ ∀ i,i ∈ Region.ready .any ops listed→i ∈ l∧ ∀ j ∈ iU ops i,j ∉ l:=by
  intro l listed hl i hi
  simp only[Region.ready,List.mem_filter,List.mem_range,Bool.and_eq_true,Bool.not_eq_true']at hi
  obtain⟨hlt,hun,abv⟩:=hi
  refine⟨(hl i).2 ⟨hlt,hun⟩,fun j hj hjl=>?_⟩
  obtain⟨OO,Cu⟩:=(hl j).1 hjl
  have ho:ops[i]? = some ops[i]:=by simp[hlt]
  simp only[iU,ho,List.mem_map,List.mem_filter]at hj
  obtain⟨ed,⟨he1,Ra⟩,rfl⟩:=hj
  simp only[ho,Option.map_some,Option.getD_some]at abv
  have:=Array.all_eq_true_iff_forall_mem.1 abv ed (by simpa using he1)
  simp only[Ra,Bool.not_true,Bool.false_or]at this
  rcases Nat.lt_or_ge ed.on listed.size with h'|h'
  ·simp[h']at this Cu;rw[this]at Cu;cases Cu
  ·simp[Array.getElem?_eq_none h']at this
 have afg:∀ (l:List Nat) (listed:Array Bool),listed.size=ops.size→(∀ i,i ∈ l↔i<ops.size∧listed.getD i true=false)→Region.ready .any ops listed=[]→ ∀ i ∈ l,∃ j ∈ iU ops i,j ∈ l:=by
  intro l listed hsz hl hnil i hi
  obtain⟨Ur,hun⟩:=(hl i).1 hi
  have ho:ops[i]? = some ops[i]:=by simp[Ur]
  have hnot:i ∉ Region.ready .any ops listed:=by rw[hnil];simp
  simp only[Region.ready,List.mem_filter,List.mem_range,Bool.and_eq_true,Bool.not_eq_true',Ur,hun,ho,Option.map_some,Option.getD_some,true_and,Array.all_eq_true_iff_forall_mem]at hnot
  simp only[Classical.not_forall,Bool.not_eq_true,Bool.or_eq_false_iff,Bool.not_eq_false']at hnot
  obtain⟨ed,he,hbd,hls⟩:=hnot
  have hj:ed.on ∈ iU ops i:=by
   simp only[iU,ho,List.mem_map,List.mem_filter]
   exact⟨ed,⟨by simpa using he,hbd⟩,rfl⟩
  have h1:=hlt i _ hj
  refine⟨_,hj,(hl _).2 ⟨by omega,?_⟩⟩
  have h2:ed.on<listed.size:=by omega
  simp[h2]at hls ⊢
  exact hls
 intro n
 induction n with
 | zero =>
   intro l listed g w σ e a hsz fg hl ha hR hE hd hev
   obtain⟨rfl,hq⟩:=ha
   refine⟨?_,g,e,σ,hd,hR,hE,hev,hq⟩
   refine List.eq_nil_iff_forall_not_mem.2 fun i hi=>?_
   exact absurd (mem _ _ hl i hi).1 (by simp)
 | succ n ih =>
   intro l listed g w σ e a hsz fg hl ha hR hE hd hev
   refine⟨fun hnil=>⟨g,e,σ,hd,hR,hE,hev,ha.1 (afg l listed hsz hl hnil)⟩,fun i hi=>?_⟩
   obtain⟨Us,hr⟩:=mem l listed hl i hi
   have QJ:=((hl i).1 Us).1
   have ho:ops[i]? = some ops[i]:=by simp[QJ]
   obtain⟨gp,hgp,Uq⟩:=xy i ops[i] (by simp[QJ])
   have hrun:=ha.2 i Us hr
   have hgd:gs.getD i r9=gp:=by simp[List.getD,hgp]
   have hrun:gK P Q gp (Vs P Q (fun i=>gs.getD i r9) (iU ops) n (l.erase i)) e σ:=by rw[← hgd];exact hrun
   refine Xe Uq ho hR hE hd hev (fun g' w' σ' e' a' hK hR' Ut hd' afh=>?_) hrun
   refine ih (l.erase i) _ g' w' σ' e' a' (by simp[hsz]) (fg.erase i) (fun k=>?_) hK hR' Ut hd' afh
   rw[fg.mem_erase_iff,hl k]
   by_cases hki:k=i
   ·subst hki
    simp[hsz,QJ]
   ·have : (listed.setIfInBounds i true).getD k true = listed.getD k true := by
     simp[Array.getD_eq_getD_getElem?,Array.getElem?_setIfInBounds_ne (Ne.symm hki)]
    rw[this]
    simp[hki]
def Ba(qV:Nat→List Nat): Nat→List (List Nat)
 | 0=>[]
 | n+1=>let c:=Ba qV n;c++[((qV n).flatMap fun m=>c.getD m []).foldl (fun l x=>if l.contains x then l else x::l) (qV n)]
def Rb(ops:Array Oper)(gs:List cq): Bool :=
 let n:=ops.size
 let cl:=Ba (iU ops) n
 (List.range n).all fun k => (iU ops k).all (· < k) && (cl.getD k []).all (fun j => (iU ops k).contains j || (iU ops k).any fun m => (cl.getD m []).contains j) &&
   (List.range k).all fun j => (cl.getD k []).contains j || (Lj (gs.getD j r9) (gs.getD k r9) && match needs (gs.getD j r9) (gs.getD k r9) with
     | some (x,y)=>(List.range n).all fun m=>decide (m<j) ||(decide (m≠k) && (cl.getD k []).contains m) ||((gs.getD m r9).op.goes && iP (gs.getD m r9).dst (x.uses++y.uses))
     | none=>true)
def Ns(ops:Array Oper)(gs:List cq): List (AX × AX) :=
 let cl:=Ba (iU ops) ops.size
 (List.range ops.size).flatMap fun k=>(List.range k).filterMap fun j=>if(cl.getD k []).contains j then none else needs (gs.getD j r9) (gs.getD k r9)
theorem OP(qV:Nat→List Nat): ∀ n,(Ba qV n).length=n
 | 0=>rfl
 | n+1=>by simp[Ba,OP qV n]
theorem QR.mono{nt:Nat}{B:Nat}{g:aK}{w:World}{σ : ai}{Q Q':AQ}(h:∀ ex e σ,Q ex e σ→Q' ex e σ){ex:Exit}{a:Act}{w2:World}(hq:QR nt B g w σ Q ex a w2): QR nt B g w σ Q' ex a w2:=by
 obtain⟨g',e',σ',h1,h2,h3,h4,h5⟩:=hq
 refine⟨g',e',σ',h1,h2,h3,h4,?_⟩
 cases ex with
 | panic chain=>obtain⟨v,av,r1,r2,r3⟩:=h5;exact⟨v,av,r1,r2,h _ _ _ r3⟩
 | outgrown=>exact h5
 | normal=>exact h _ _ _ h5
 | exit id=>exact h _ _ _ h5
 | goto l=>exact h _ _ _ h5
 | ret=>exact h _ _ _ h5
theorem Vt{ro:Option Nat}{wn:Nat}{nt:Nat}{h:Hints}{ops:Array Oper}{B:Nat}{Q:AQ}{gs:List cq}{id:Nat}{g:aK}{w:World}{σ : ai}{e:Env}{a:Act}(hc:j_ P nt h true ops ops.toList=some gs)
 (hok:Rb ops gs=true) (hm:P.follows .mixedOrders=true) (hw:dA P (ny (Ns ops gs) Q) gs e σ) (hR:Rel g w σ) (hE:ek nt g w e a.tmps) (hd:iC B σ g w a.defers):(Code.region id ops true).wpIn (WF ro) wn P (QR nt B g w σ Q) a w:=by
 simp only[Rb,List.all_eq_true,List.mem_range,Bool.and_eq_true,Bool.or_eq_true,decide_eq_true_eq,List.any_eq_true,List.contains_iff_mem]at hok
 have hlt:∀ i,∀ j ∈ iU ops i,j<i:=fun i j hj=>by
  by_cases hi:i<ops.size
  ·exact(hok i hi).1.1 j hj
  ·have:iU ops i=[]:=by simp[iU,Array.getElem?_eq_none (Nat.le_of_not_lt hi)]
   rw[this]at hj;cases hj
 obtain⟨hlen,_⟩:=Cw ops.toList gs hc
 refine wpIn_mono (wpIn_region_any hm ?_) fun ex a' w'=>QR.mono (Q:=ny (Ns ops gs) Q) fun _ _ _=>YG
 have hR':=hR.drew (w.drawn+1)
 have hev:=eM.drew σ g w (w.drawn+1)
 refine Xf hc hlt ops.size (List.range ops.size) _ g _ σ e a (by simp) List.nodup_range (fun i=>by simp;intro h;simp[h]) ?_ hR' (hE.mono hev.mono) (hd.step hev) hev
 refine Tb (cl:=fun k=>(Ba (iU ops) ops.size).getD k []) (N:=ops.size) hlt (fun k j hj=>?_) _ _ e σ (by simp) (fun z hz i hi=>?_) (fun i hi=>by simpa using hi) ?_ ?_
 ·by_cases hk:k<ops.size
  ·exact(hok k hk).1.2 j hj
  ·have : (Ba (iU ops) ops.size).getD k [] = [] := by
    have:=OP (iU ops) ops.size
    rw[List.getD_eq_getElem?_getD,List.getElem?_eq_none (by omega)];rfl
   rw[this]at hj;cases hj
 ·have:iU ops z=[]:=by simp at hz;simp[iU,Array.getElem?_eq_none hz]
  rw[this]at hi;cases hi
 ·refine List.pairwise_iff_getElem.2 fun i j hi hj hij=>?_
  simp only[List.getElem_range]
  simp at hi hj
  refine⟨hij,?_⟩
  by_cases c_:i ∈ (Ba (iU ops) ops.size).getD j []
  ·exact .inl c_
  ·refine .inr ?_
   rcases(hok j hj).2 i hij with h1|⟨h1,h2⟩
   ·exact absurd h1 c_
   ·refine⟨h1,fun x y hxy=>⟨?_,fun m wT Gm hm3=>?_⟩⟩
    ·refine List.mem_flatMap.2 ⟨j,by simpa using hj,List.mem_filterMap.2 ⟨i,by simpa using hij,?_⟩⟩
     rw[if_neg (by simpa[List.contains_iff_mem]using c_)]
     exact hxy
    ·simp only[hxy,List.all_eq_true,List.mem_range,Bool.and_eq_true,Bool.or_eq_true,decide_eq_true_eq]at h2
     rcases h2 m Gm with(h3|h3)|h3
     ·omega
     ·rcases hm3 with h4|h4
      ·exact absurd h4 h3.1
      ·exact absurd (List.contains_iff_mem.1 h3.2) h4
     ·exact h3
 ·have : (List.range ops.size).map (fun i => gs.getD i r9) = gs := by
   apply List.ext_getElem
   ·simp[hlen]
   ·intro i h1 h2;simp[List.getD_eq_getElem?_getD,h2]
  rw[this]
  exact hw
end
end Go.AM
