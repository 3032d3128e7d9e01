/- Part. -/
import Derived.Test.YthakfmmgnjpmdaaGreatW07
set_option linter.all false
namespace Go.AM
def cz.uses(g:cz): List Nat:=g.op.uses++(match g.guard with|some (k,_)=>[k]|none=>[])
def iw(P:Program)(Q:AQ)(g:cz)(K:Env->ae->Prop)(e:Env)(σ : ae): Prop :=
 match g.guard with
 | none=>g.op.run P e σ (fun v σ'=>K (upd e g.dst v) σ') (fun v σ'=>Q (.panic v) e σ')
 | some (k, b) => match e k with
   | .bool t => (t = b -> g.op.run P (upd e (some k) (.bool b)) σ (fun v σ' => K (upd (upd e (some k) (.bool b)) g.dst v) σ') (fun v σ' => Q (.panic v) (upd e (some k) (.bool b)) σ')) /\
      (t = !b->K (upd (upd e (some k) (.bool (!b))) g.dst (.bJ [])) σ)
   | .bJ []=>K (upd e g.dst (.bJ [])) σ
   | _=>False
def upd_same{e:Env}{k:Nat}{v:AV}(h:e k=v): upd e (some k) v=e:=by
 funext n;simp only[upd];split
 ·rename_i h1;subst h1;exact h.symm
 ·rfl
section
variable {P:Program} {Q:AQ}
def qI(g:cz)(r:List cz)(e:Env)(σ : ae): ef P Q (g::r) e σ = iw P Q g (ef P Q r) e σ:=by
 obtain⟨o,d,gd⟩:=g;cases gd with
 | none=>rfl
 | some kb=>obtain⟨k,b⟩:=kb;rfl
def cz.D(P:Program)(g:cz)(e:Env)(σ : ae)(v:AV)(σ':ae): Prop :=
 match g.guard with
 | none=>g.op.D P e σ v σ'
 | some (k, b) => match e k with
   | .bool t=>if t=b then g.op.D P e σ v σ' else v = .bJ []/\σ' = σ
   | .bJ []=>v = .bJ []/\σ' = σ
   | _=>False
def kx{g:cz}{e:Env}{σ : ae}{v:AV}{σ':ae}(h:g.D P e σ v σ'): (g.op.D P e σ v σ'/\ ∀ s u s',g.op.D P e s u s'->g.D P e s u s')\/(v = .bJ []/\σ' = σ/\ ∀ s,g.D P e s (.bJ []) s):=by
 unfold cz.D at *;split at h
 ·exact .inl ⟨h,fun _ _ _ h=>h⟩
 ·split at h
  ·split at h
   ·rename_i h1 h2;simp only[if_pos h2];exact .inl ⟨h,fun _ _ _ h=>h⟩
   ·rename_i h1 h2;simp only[if_neg h2];exact .inr ⟨h.1,h.2,fun _=>⟨trivial,trivial⟩⟩
  ·exact .inr ⟨h.1,h.2,fun _=>⟨rfl,rfl⟩⟩
  ·exact h.elim
def jG{g:cz}{K:Env->ae->Prop}{e:Env}{σ : ae}(hc:g.op.cls≠ .no): iw P Q g K e σ↔ ∃ v σ',g.D P e σ v σ'/\K (upd e g.dst v) σ':=by
 unfold iw cz.D;split
 ·exact Fc hc
 ·rename_i k b hg;split
  ·rename_i t ht;by_cases htb:t=b
   ·subst htb;rw[upd_same ht];simp only[↓reduceIte];constructor
    ·exact fun h=>(Fc hc).1 (h.1 trivial)
    ·exact fun h=>⟨fun _=>(Fc hc).2 h,fun h=>by cases t<;>cases h⟩
   ·have hn:t = !b:=by cases t<;>cases b<;>simp_all
    have hs:upd e (some k) (.bool (!b))=e:=upd_same (by rw[ht,hn]);simp only[if_neg htb,hs];constructor
    ·exact fun h=>⟨_,σ,⟨rfl,rfl⟩,h.2 hn⟩
    ·rintro⟨v,τ,⟨rfl,rfl⟩,h⟩;exact⟨fun h'=>absurd h' htb,fun _=>h⟩
  ·constructor
   ·exact fun h=>⟨_,σ,⟨rfl,rfl⟩,h⟩
   ·rintro⟨v,τ,⟨rfl,rfl⟩,h⟩;exact h
  ·constructor
   ·exact fun h=>h.elim
   ·exact fun⟨_,_,h,_⟩=>h.elim
def GQ{g:cz}{K K':Env->ae->Prop}{e:Env}{σ : ae}(h:∀ e σ,K e σ->K' e σ): iw P Q g K e σ->iw P Q g K' e σ:=by
 unfold iw;split
 ·exact sj (fun v s=>h _ _) (fun _ _ h=>h)
 ·split
  ·exact fun hh=>⟨fun ht=>sj (fun v s=>h _ _) (fun _ _ h=>h) (hh.1 ht),fun ht=>h _ _ (hh.2 ht)⟩
  ·exact h _ _
  ·exact id
def GR{g:cz}{e e':Env}{σ : ae}{v:AV}{σ':ae}(h:∀ t ∈ g.uses,e t=e' t)(hD:g.D P e σ v σ'): g.D P e' σ v σ':=by
 have ho:∀ t ∈ g.op.uses,e t=e' t:=fun t ht=>h t (dH _ ht);unfold cz.D at *;split at hD
 ·rename_i hg;exact SH ho hD
 ·rename_i k b hg;have hk:e k=e' k:=h k (by simp[cz.uses,hg]);rw[<-hk];split at hD
  ·split at hD
   ·rename_i h1 h2;simp only[h1,if_pos h2];exact SH ho hD
   ·rename_i h1 h2;simp only[h1,if_neg h2];exact hD
  ·simp_all
  ·exact hD.elim
def qJ{g:cz}{e:Env}{σ : ae}{v:AV}{σ':ae}(hc:g.op.cls = .pu\/g.op.cls = .rd)(hD:g.D P e σ v σ'): σ' = σ:=by
 rcases kx hD with⟨h,_⟩|⟨_,h,_⟩
 ·exact acd hc h
 ·exact h
def SV{g:cz}{e:Env}{σ : ae}{v:AV}{σ':ae}(hc:g.op.cls = .pu\/g.op.cls = .rd)(hD:g.D P e σ v σ')(τ : ae): g.D P e (σ++ τ) v (σ++ τ):=by
 rcases kx hD with⟨h,f⟩|⟨rfl,_,f⟩
 ·exact f _ _ _ (ace hc h τ)
 ·exact f _
def SW{g:cz}{e:Env}{σ : ae}{v:AV}{σ':ae}(hc:g.op.cls = .pu)(hD:g.D P e σ v σ')(s:ae): g.D P e s v s:=by
 rcases kx hD with⟨h,f⟩|⟨rfl,_,f⟩
 ·exact f _ _ _ (acf hc h s)
 ·exact f _
def ad3{g:cz}{e:Env}{σ : ae}{v:AV}{σ':ae}(hc:g.op.cls = .al)(hD:g.D P e σ v σ'): ∃ τ,σ' = σ++ τ:=by
 rcases kx hD with⟨h,_⟩|⟨_,h,_⟩
 ·exact aff hc h
 ·exact⟨[],by simp[h]⟩
def acm {g : cz} {e : Env} {σ : ae} {v : AV} {σ' : ae} {l : Nat} {ob mZ : bE} {rx : Option AX} (hr : g.op.qH = some rx) (hl : σ[l]? = some ob) (Ii : ob.like mZ) (hap : ∀ x, rx = some x -> (x.ev e).obj ≠ some l) (hD : g.D P e σ v σ') :
    g.D P e (σ.set l mZ) v (σ.set l mZ):=by
 rcases kx hD with⟨h,f⟩|⟨rfl,_,f⟩
 ·exact f _ _ _ (adW hr hl Ii hap h)
 ·exact f _
def ad4{g:cz}{e:Env}{σ : ae}{v:AV}{σ':ae}(hc:g.op.cls = .st)(hD:g.D P e σ v σ'): σ' = σ\/ ∃ y l ob mZ,g.op.sk=some y/\σ[l]? = some ob/\ob.like mZ/\(y.ev e).obj=some l/\σ' = σ.set l mZ:=by
 rcases kx hD with⟨h,_⟩|⟨_,h,_⟩
 ·exact .inr (acg hc h)
 ·exact .inl h
def jw(d:Option Nat)(l:List Nat): Bool:=match d with
 | some d=> !l.contains d
 | none=>true
def yA(ag:Bool)(n t:Nat): List (Bool × Nat)->List AX->Bool
 |(ag',n')::r,.t t'::xs=>(ag==ag' && n==n' && t==t') || yA ag n t r xs
 | _::r,_::xs=>yA ag n t r xs
 | _,_=>false
def OX: bA->bA->Bool
 | .load ag n (.t t),.ex (.cw _ k C5) az=>yA ag n t C5 (az.drop k)
 | _,_=>false
def Ol(j k:bA): Bool :=
 match j.cls,k.cls with
 | .no,_|_,.no=>false
 | .pu,_|_,.pu=>true
 | .rd,.rd | .rd,.al=>true
 | .rd,.st=>j.qH.isSome
 | .st, .st => match j.Oi, k.Oi with
   | some a,some b=>a != b
   | _,_=>false
 | .st,.rd=>j.sk.isSome && k.pq.isSome
 | .rd, .ap => match j.qH with
   | some (some _)=>true
   | _=>false
 | .rd,.cw=>OX j k
 | _,_=>false
def bA.GU: bA->Bool
 | .ex (.pc _) _=>true
 | _=>false
def Ur(j k:bA): Bool:=k.GU && decide (j.cls≠ .no)
def Iz(j k:cz): Bool :=
 (Ol j.op k.op || Ur j.op k.op) && jw j.dst k.uses && jw k.dst j.uses && jw j.dst k.dst.toList
def needs(j k:cz): Option (AX × AX):=match j.op.qH,k.op.sk with
 | some (some x),some y=>some (x,y)
 | _, _ => match j.op.sk, k.op.pq with
   | some y,some x=>some (x,y)
   | _,_=>none
def Us{o:bA}{x:AX}(h:o.pq=some x): o.sk=none:=by
 cases o<;>simp[bA.pq]at h<;>rfl
def iY{e:Env}{d:Option Nat}{l:List Nat}{v:AV}(h:jw d l=true): ∀ t ∈ l,upd e d v t=e t:=by
 intro t ht;cases d with
 | none=>rfl
 | some d =>
   simp only[jw,cy,List.contains_eq_mem,decide_eq_false_iff_not]at h;simp only[upd];rw[if_neg (by rintro rfl;exact h ht)]
def GV{e:Env}{j k:Option Nat}{v u:AV}(h:jw j k.toList=true): upd (upd e j v) k u=upd (upd e k u) j v:=by
 funext t
 cases j with
 | none=>rfl
 | some j =>
   cases k with
   | none=>rfl
   | some k =>
     simp[jw]at h;simp only[upd];by_cases h1:t=k
     ·subst h1;simp[Ne.symm h]
     ·simp[h1]
def YL{j k:bA}(h:Ol j k=true): j.cls≠ .no/\k.cls≠ .no:=by
 unfold Ol at h;split at h<;>simp_all
def IA{el:El}{x:AV}{off:Nat}{ag:Bool}{n:Nat}{K K':AV->Prop}(h1:partOf el x off ag n K)(h2:partOf el x off ag n K'): ∃ v,K v/\K' v:=by
 unfold partOf at h1 h2;by_cases h:off=0/\n=el.sz/\ag=el.ag
 ·rw[if_pos h]at h1 h2;exact⟨_,h1,h2⟩
 ·rw[if_neg h]at h1 h2;obtain⟨_,h1⟩:=h1;obtain⟨_,h2⟩:=h2;cases x<;>first|exact h1.elim|exact⟨_,h1.1,h2.1⟩
def Wv{σ : ae}{ag:Bool}{n:Nat}{p:AV}{K K':AV->Prop}(h1:iR σ ag n p K)(h2:iR σ ag n p K'): ∃ v,K v/\K' v:=by
 unfold iR at h1 h2;cases p<;>(try exact h1.elim)
 case ref l off =>
  dsimp only at h1 h2;split at h1
  ·rename_i h;rw[h]at h2;exact⟨_,h1.2.2,h2.2.2⟩
  ·exact h1.elim
 case eL el x off=>exact IA h1 h2
 case fR el l m i off =>
  dsimp only at h1 h2;split at h1
  ·rename_i h;rw[h]at h2;exact IA h1.2.2.2 h2.2.2.2
  ·exact h1.elim
def Dq{σ σ2:ae}{e:Env}{ag:Bool}{n t:Nat}: ∀(C5:List (Bool × Nat)) (xs:List AX),yA ag n t C5 xs=true->Ib σ σ2 C5 (xs.map (AX.ev e))-> ∃ v,iR σ ag n (e t) (fun u=>u=v)/\iR σ2 ag n (e t) (fun u=>u=v)
 | [],xs,h,_=>by cases xs<;>simp[yA]at h
 |(ag',n')::r,[],h,_=>by simp[yA]at h
 | (ag', n') :: r, x :: xs, h, hk => by
   obtain⟨h1,h2⟩:=hk;cases x with
   | c a=>exact Dq r xs (by simpa[yA]using h) h2
   | t t' =>
     simp only[yA,bO,aC,beq_iff_eq]at h;rcases h with⟨⟨rfl,rfl⟩,rfl⟩|h
     ·exact h1
     ·exact Dq r xs h h2
def afo{j k:bA}{e:Env}{σ σ2:ae}{vj vk:AV}(h:OX j k=true)(dj:j.D P e σ vj σ)(dk:k.D P e σ vk σ2): j.D P e σ2 vj σ2:=by
 unfold OX at h;split at h
 ·rename_i ag n t f k C5 az;obtain⟨hj,_⟩:=(show(∀ τ,(bA.load ag n (.t t)).run P e (σ++ τ) (Is vj (σ++ τ)) No)/\σ = σ from dj)
  replace dk:(fX.cw f k C5).run P (az.map (AX.ev e)) σ (Is vk σ2) No:=dk
  obtain⟨s2,hk,rfl⟩:∃ s2,Ib σ s2 C5 ((az.map (AX.ev e)).drop k)/\s2 = σ2:=by
   cases az with
   | nil=>exact dk.elim
   | cons x xs=>obtain⟨r,s2,_,hk,_,e2⟩:=dk;exact⟨s2,hk,e2⟩
  rw[<-List.map_drop]at hk;obtain⟨v,h1,h2⟩:=Dq _ _ h hk
  have h3:iR σ ag n (e t) (fun u=>u=vj):=by
   have:iR (σ++[]) ag n (e t) (fun u=>Is vj (σ++[]) u (σ++[])):=hj [];rw[bH]at this;exact me (fun v h=>h.1) this
  obtain⟨u,rfl,rfl⟩:=Wv h1 h3;obtain⟨u',h4,rfl⟩:=uq h2
  exact(show(∀ τ,(bA.load ag n (.t t)).run P e (s2++ τ) (Is u' (s2++ τ)) No)/\s2=s2 from
   ⟨fun τ=>(show iR (s2++ τ) ag n (e t) (fun u=>Is u' (s2++ τ) u (s2++ τ)) from me (fun v h=>⟨h,rfl⟩) (h4 τ)),rfl⟩)
 ·cases h
def cz.pcR(P:Program)(g:cz)(n:FuncId)(az:List AX)(e:Env): Option Out->Prop
 | none => match g.guard with
   | none=>False
   | some (k, b) => match e k with
     | .bool t=>t = !b
     | .bJ []=>True
     | _=>False
 | some o => (∀ s, eU P n (az.map (AX.ev e)) s fun o' s' => o' = o /\ s' = s) /\ match g.guard with
   | none=>True
   | some (k,b)=>e k = .bool b
def pcE(P:Program)(Q:AQ)(d:Option Nat)(K:Env->ae->Prop)(e:Env)(σ : ae): Option Out->Prop
 | none=>K (upd e d (.bJ [])) σ
 | some (.ret r)=>K (upd e d r) σ
 | some (.panic v)=> ∀ s,Q (.panic v) e s
def Ww{g:cz}{n:FuncId}{az:List AX}{K:Env->ae->Prop}{e:Env}{σ : ae}(hg:g.op = .ex (.pc n) az): iw P Q g K e σ↔ ∃ o,g.pcR P n az e o/\pcE P Q g.dst K e σ o:=by
 have key:∀ {K1:AV->ae->Prop} {K2:AV->ae->Prop},g.op.run P e σ K1 K2↔ ∃ o,(∀ s,eU P n (az.map (AX.ev e)) s fun o' s'=>o'=o/\s'=s)/\pcK (fun r=>K1 r σ) (fun v=> ∀ s,K2 v s) o:=by
  intro K1 K2;rw[hg];exact Iff.rfl
 unfold iw cz.pcR;cases hgd:g.guard with
 | none =>
   simp only;rw[key];constructor
   ·rintro⟨o,h1,h2⟩;exact⟨some o,⟨h1,trivial⟩,by cases o<;>exact h2⟩
   ·rintro⟨o,h1,h2⟩;cases o with
    | none=>exact h1.elim
    | some o=>exact⟨o,h1.1,by cases o<;>exact h2⟩
 | some kb =>
   obtain⟨k,b⟩:=kb;simp only;split
   ·rename_i t ht;constructor
    ·rintro⟨h1,h2⟩;by_cases htb:t=b
     ·have h1:=h1 htb;subst htb;rw[upd_same ht,key]at h1;obtain⟨o,h3,h4⟩:=h1;exact⟨some o,⟨h3,by rw[ht]⟩,by cases o<;>exact h4⟩
     ·have hn:t = !b:=by cases t<;>cases b<;>simp_all
      have h2:=h2 hn;rw[upd_same (by rw[ht,hn])]at h2;exact⟨none,by rw[ht];exact hn,h2⟩
    ·rintro⟨o,h1,h2⟩;cases o with
     | none =>
       rw[ht]at h1;have h1:t = !b:=h1;refine⟨fun h=>absurd h (by rw[h1];cases b<;>decide),fun _=>?_⟩;rw[upd_same (by rw[ht,h1])];exact h2
     | some o =>
       obtain⟨h3,h4⟩:=h1;have h4:e k = .bool b:=h4;have htb:t=b:=AV.bool.inj (ht.symm.trans h4);refine⟨fun _=>?_,fun h=>absurd h (by rw[htb];cases b<;>decide)⟩;rw[upd_same h4,key];exact⟨o,h3,by cases o<;>exact h2⟩
   ·rename_i ht;constructor
    ·intro h;exact⟨none,by rw[ht];trivial,h⟩
    ·rintro⟨o,h1,h2⟩;cases o with
     | none=>exact h2
     | some o=>exact absurd (ht.symm.trans h1.2) (by simp)
   ·rename_i h3 h4;constructor
    ·exact fun h=>h.elim
    ·rintro⟨o,h1,h2⟩;cases o with
     | none =>
       exact False.elim h1
     | some o=>exact(h3 _ h1.2).elim
def aaX {j k : cz} {K : Env -> ae -> Prop} {e : Env} {σ : ae} (nT : Ur j.op k.op = true) (s1 : jw j.dst k.uses = true) (s2 : jw k.dst j.uses = true) (s3 : jw j.dst k.dst.toList = true)
    (hQ:∀ v e e' σ,Q (.panic v) e σ->Q (.panic v) e' σ) (hh:iw P Q j (iw P Q k K) e σ):iw P Q k (iw P Q j K) e σ:=by
 simp only[Ur,aC,decide_eq_true_eq]at nT;obtain⟨hk,hj⟩:=nT
 obtain⟨n,az,hg⟩:∃ n az,k.op = .ex (.pc n) az:=by
  revert hk;cases k.op<;>simp[bA.GU];rename_i o xs;cases o<;>simp[bA.GU]
 obtain⟨vj,SZ,dj,hh⟩:=(jG hj).1 hh;obtain⟨o,h1,h2⟩:=(Ww hg).1 hh;have hu:∀ t ∈ k.uses,upd e j.dst vj t=e t:=iY s1
 have hz:az.map (AX.ev (upd e j.dst vj))=az.map (AX.ev e):=by
  exact AX.ow fun t ht=>hu t (by simp only[cz.uses,hg];exact dH _ ht)
 have hR:k.pcR P n az e o:=by
  have Wx:∀ m b,k.guard=some (m,b)->upd e j.dst vj m=e m:=fun m b h=>hu m (by simp[cz.uses,h]);unfold cz.pcR at h1 ⊢;cases o with
  | none =>
    cases hgd:k.guard with
    | none=>rw[hgd]at h1;exact h1.elim
    | some kb=>obtain⟨m,b⟩:=kb;rw[hgd]at h1;simp only[Wx m b hgd]at h1;exact h1
  | some o =>
    rw[hz]at h1;refine⟨h1.1,?_⟩;cases hgd:k.guard with
    | none=>trivial
    | some kb=>obtain⟨m,b⟩:=kb;have:=h1.2;rw[hgd]at this;simp only[Wx m b hgd]at this;exact this
 have tr:∀ v,j.D P (upd e k.dst v) σ vj SZ:=fun v=>GR (fun t ht=>(iY s2 t ht).symm) dj;refine(Ww hg).2 ⟨o,hR,?_⟩;cases o with
 | none=>exact(jG hj).2 ⟨vj,SZ,tr _,by rw[<-GV s3];exact h2⟩
 | some o =>
   cases o with
   | ret r=>exact(jG hj).2 ⟨vj,SZ,tr _,by rw[<-GV s3];exact h2⟩
   | panic v=>exact fun s=>hQ _ _ _ _ (h2 s)
def swap {j k : cz} {K : Env -> ae -> Prop} {e : Env} {σ : ae} (h : Iz j k = true) (hQ : k.op.GU = true -> ∀ v e e' σ, Q (.panic v) e σ -> Q (.panic v) e' σ) (hap : ∀ x y, needs j k = some (x, y) -> (jw j.dst (x.uses ++ y.uses) = true /\ jw k.dst (x.uses ++ y.uses) = true) /\ ∀ e σ, K e σ -> rA (x.ev e) (y.ev e))
    (hh:iw P Q j (iw P Q k K) e σ):iw P Q k (iw P Q j K) e σ:=by
 simp only[Iz,aC]at h;obtain⟨⟨⟨nT,s1⟩,s2⟩,s3⟩:=h;rcases Bool.or_eq_true _ _ ▸ nT with nT|nT
 case inr=>exact aaX nT s1 s2 s3 (hQ (by simp only[Ur,aC]at nT;exact nT.1)) hh
 obtain⟨hj,hk⟩:=YL nT;obtain⟨vj,SZ,dj,hh⟩:=(jG hj).1 hh;obtain⟨vk,σk,dk,hK⟩:=(jG hk).1 hh;have zK:k.D P e SZ vk σk:=GR (iY s1) dk;have tr:∀ {s s'},j.D P e s vj s'->j.D P (upd e k.dst vk) s vj s':=fun h=>GR (fun t ht=>(iY s2 t ht).symm) h;have SP:=hK;rw[GV s3]at hK
 have kpu:k.op.cls = .pu->iw P Q k (iw P Q j K) e σ:=fun hc=>by
  have:=qJ (.inl hc) zK;subst this;exact(jG hk).2 ⟨vk,σ,SW hc zK σ,(jG hj).2 ⟨vj,_,tr dj,hK⟩⟩
 have Dr:SZ = σ->j.D P e σk vj σk->iw P Q k (iw P Q j K) e σ:=fun h1 h2=>by
  subst h1;exact(jG hk).2 ⟨vk,σk,zK,(jG hj).2 ⟨vj,_,tr h2,hK⟩⟩
 unfold Ol at nT;split at nT<;>(try (cases nT;done))
 ·rename_i hc _;exact Dr (qJ (.inl hc) dj) (SW hc dj _)
 ·rename_i hc _ _;exact kpu hc
 ·rename_i hc hc2;have h1:=qJ (.inr hc) dj;have h2:=qJ (.inr hc2) zK;subst h1;subst h2;exact Dr rfl dj
 ·rename_i hc hc2;have h1:=qJ (.inr hc) dj;subst h1;obtain⟨τ,rfl⟩:=ad3 hc2 zK;exact Dr rfl (SV (.inr hc) dj τ)
 ·rename_i hc hc2;have h1:=qJ (.inr hc) dj;subst h1;rcases ad4 hc2 zK with rfl|⟨y,l,ob,mZ,hy,hl,Ii,OY,rfl⟩
  ·exact Dr rfl dj
  ·obtain⟨rx,qZ⟩:=fW.1 nT;refine Dr rfl (acm qZ hl Ii (fun x hx=>?_) dj);subst hx;have hn:needs j k=some (x,y):=by simp[needs,qZ,hy]
   obtain⟨⟨a1,a2⟩,a3⟩:=hap x y hn;have ha:=a3 _ _ SP
   have ex:∀ t ∈ x.uses++y.uses,upd (upd e j.dst vj) k.dst vk t=e t:=fun t ht=>by
    rw[iY a2 t ht,iY a1 t ht]
   rw[AX.eM (x:=x) (fun t ht=>ex t (dH _ ht)),AX.eM (x:=y) (fun t ht=>ex t (eA _ ht))]at ha;exact fun h1=>ha l h1 OY
 ·
  split at nT
  ·rename_i a b ra rb;rcases kx dj with⟨dj1,dj2⟩|⟨rfl,rfl,sJ⟩
   ·rcases kx zK with⟨Wy,dk2⟩|⟨rfl,rfl,iX⟩
    ·obtain⟨n,o1,n1,n2,n3,rfl,n4⟩:=aaw ra dj1;obtain⟨m,o2,m1,m2,m3,rfl,m4⟩:=aaw rb Wy
     have hnm:n≠m:=by
      rintro rfl;rw[fG (aQ.1 n2).1]at m2;exact n3 (Option.some.inj m2)
     rw[bP hnm]at m2;refine(jG hk).2 ⟨_,_,dk2 _ _ _ (m4 σ m2),(jG hj).2 ⟨_,_,tr (dj2 _ _ _ (n4 _ (by rw[bP (Ne.symm hnm)];exact n2))),?_⟩⟩;rw[List.set_comm _ _ (Ne.symm hnm)];exact hK
    ·exact(jG hk).2 ⟨_,_,iX σ,(jG hj).2 ⟨_,_,tr dj,hK⟩⟩
   ·exact(jG hk).2 ⟨_,_,zK,(jG hj).2 ⟨_,_,tr (sJ _),hK⟩⟩
  ·cases nT
 ·
  rename_i hc _;simp only[aC,fW]at nT;obtain⟨⟨y,ry⟩,x,rx⟩:=nT;have h2:=qJ (.inr (Ij rx)) zK;subst h2;rcases kx dj with⟨dj1,_⟩|⟨rfl,rfl,_⟩
  ·obtain⟨y',l,ob,mZ,hy,n2,_,ad5,rfl⟩:=acg hc dj1;obtain rfl:y=y':=by rw[ry]at hy;exact Option.some.inj hy
   have hn:needs j k=some (x,y):=by
    unfold needs;rw[Us rx,ry,rx];cases j.op.qH with
    | none=>rfl
    | some o=>cases o<;>rfl
   obtain⟨⟨a1,a2⟩,a3⟩:=hap x y hn;have ha:=a3 _ _ SP
   have ex:∀ t ∈ x.uses++y.uses,upd (upd e j.dst vj) k.dst vk t=e t:=fun t ht=>by
    rw[iY a2 t ht,iY a1 t ht]
   rw[AX.eM (x:=x) (fun t ht=>ex t (dH _ ht)),AX.eM (x:=y) (fun t ht=>ex t (eA _ ht))]at ha;have hlt:=(aQ.1 n2).1;have OY:(x.ev e).obj≠some l:=fun h=>ha l h ad5
   have back:(σ.set l mZ).set l ob = σ:=by
    rw[List.set_set];apply List.ext_getElem?;intro i;by_cases hi:i=l
    ·subst hi;rw[fG hlt];exact n2.symm
    ·rw[bP (Ne.symm hi)]
   have dk':k.D P e σ vk σ:=by
    rcases kx zK with⟨q1,q2⟩|⟨rfl,_,q⟩
    ·have:=SJ (ob:=ob) rx (by simpa using hlt) OY q1;rw[back]at this;exact q2 _ _ _ this
    ·exact q σ
   exact(jG hk).2 ⟨vk,σ,dk',(jG hj).2 ⟨vj,_,tr dj,hK⟩⟩
  ·exact(jG hk).2 ⟨vk,_,zK,(jG hj).2 ⟨_,_,tr dj,hK⟩⟩
 ·
  rename_i hc hc2;have h1:=qJ (.inr hc) dj;subst h1;split at nT
  ·rename_i x qZ
   have hro:j.op.pq=some x:=by
    revert qZ;cases j.op<;>simp[bA.qH,bA.pq]
   rcases kx zK with⟨Wy,_⟩|⟨rfl,rfl,_⟩
   ·obtain⟨y,hy,⟨τ,rfl⟩|⟨l,ob,hlt,OY,rfl⟩⟩:=afg hc2 Wy
    ·exact Dr rfl (SV (.inr hc) dj τ)
    ·have hn:needs j k=some (x,y):=by simp[needs,qZ,hy]
     obtain⟨⟨a1,a2⟩,a3⟩:=hap x y hn;have ha:=a3 _ _ SP
     have ex:∀ t ∈ x.uses++y.uses,upd (upd e j.dst vj) k.dst vk t=e t:=fun t ht=>by
      rw[iY a2 t ht,iY a1 t ht]
     rw[AX.eM (x:=x) (fun t ht=>ex t (dH _ ht)),AX.eM (x:=y) (fun t ht=>ex t (eA _ ht))]at ha;refine Dr rfl ?_;rcases kx dj with⟨q1,q2⟩|⟨rfl,_,q⟩
     ·exact q2 _ _ _ (SJ hro hlt (fun h=>ha l h OY) q1)
     ·exact q _
   ·exact Dr rfl dj
  ·cases nT
 ·
  rename_i hc _;have h1:=qJ (.inr hc) dj;subst h1;rcases kx zK with⟨Wy,_⟩|⟨rfl,rfl,_⟩
  ·rcases kx dj with⟨q1,q2⟩|⟨rfl,_,q⟩
   ·exact Dr rfl (q2 _ _ _ (afo nT q1 Wy))
   ·exact Dr rfl (q _)
  ·exact Dr rfl dj
variable (P Q) in
def GX(ops:Nat->cz)(jk:Nat->List Nat): Nat->List Nat->Env->ae->Prop
 | 0,l,e,σ=>l=[]/\Q .normal e σ
 | n+1,l,e,σ=>((∀ i ∈ l,∃ j ∈ jk i,j ∈ l)->Q .normal e σ)/\ ∀ i ∈ l,(∀ j ∈ jk i,j ∉ l)->iw P Q (ops i) (GX ops jk n (l.erase i)) e σ
def fX.goes: fX->Bool
 | .inv _ | .pc _=>false
 | _=>true
def bA.goes: bA->Bool
 | .app ..=>true
 | .ex o _=>o.goes
 | o=>o.cls != .no
def OZ{o:bA}{e:Env}{σ : ae}{K Kp:AV->ae->Prop}(h:o.goes=true)(hh:o.run P e σ K Kp): ∃ v σ',K v σ':=by
 by_cases hn:o.cls≠ .no
 ·obtain⟨v,σ',_,h⟩:=(Fc hn).1 hh;exact⟨v,σ',h⟩
 ·by_cases hx:∃ o' xs,o = .ex o' xs
  ·obtain⟨o',xs,rfl⟩:=hx;obtain⟨v,σ',_,h1⟩:=fX.det (by replace h:o'.goes=true:=h;cases o'<;>first|(intro e;cases e;done)|(cases h;done)) (show o'.run P (xs.map (AX.ev e)) σ K Kp from hh);exact⟨v,σ',h1⟩
  cases o<;>(try (exact absurd ⟨_,_,rfl⟩ hx))<;>simp[bA.goes]at h<;>(try (exact absurd h hn));rename_i T el x1 y1;simp only[bA.run,uo]at hh;generalize AX.ev e _=y at hh
  have key:∀ (ys:List AV) (x:AV),(match x with
   | .ai=>if ys.length=0 then K .ai σ else jj ys.length el/\K (.own el σ.length ys.length 0 ys.length) (σ++[.dW T el ys])
   | .aG true bB xs=>bB=el/\if ys.length=0 then K (.aG true el xs) σ else jj (xs.length+ys.length) el/\K (.own el σ.length (xs.length+ys.length) 0 (xs.length+ys.length)) (σ++[.dW T el (xs++ys)])
   | .own bB l m lo n => bB = el /\ match σ[l]? with
     | some (.dW T' dQ xs)=>(T'=none\/T'=T)/\dQ=el/\m=xs.length/\lo=0/\n=xs.length/\jj (xs.length+ys.length) el/\K (.own el l (xs.length+ys.length) 0 (xs.length+ys.length)) (σ.set l (.dW T' el (xs++ys)))
     | _=>False
   | _=>False)-> ∃ v σ',K v σ':=fun ys x hx=>by
   split at hx
   ·split at hx
    ·exact⟨_,_,hx⟩
    ·exact⟨_,_,hx.2⟩
   ·replace hx:=hx.2
    split at hx
    ·exact⟨_,_,hx⟩
    ·exact⟨_,_,hx.2⟩
   ·replace hx:=hx.2
    split at hx
    ·exact⟨_,_,hx.2.2.2.2.2.2⟩
    ·exact hx.elim
   ·exact hx.elim
  unfold ja at hh;split at hh
  ·exact key _ _ hh.2
  ·exact key _ _ hh.2.2
  ·replace hh:=hh.2
   split at hh
   ·exact key _ _ hh.2.2.2
   ·exact hh.elim
  ·exact key _ _ hh.2.2
  ·obtain⟨u,_,h2⟩:=uq hh.2.2;exact key _ _ h2.2
  ·exact hh.elim
def YM{g:cz}{K:Env->ae->Prop}{e:Env}{σ : ae}(hc:g.op.goes=true)(h:iw P Q g K e σ): ∃ v σ',K (upd e g.dst v) σ':=by
 unfold iw at h;split at h
 ·exact OZ hc h
 ·rename_i k b hg;split at h
  ·rename_i t ht;by_cases htb:t=b
   ·obtain⟨v,s,h⟩:=OZ hc (h.1 htb);rw[upd_same (by rw[ht,htb])]at h;exact⟨v,s,h⟩
   ·have hn:t = !b:=by cases t<;>cases b<;>simp_all
    have h:=h.2 hn;rw[upd_same (by rw[ht,hn])]at h;exact⟨_,_,h⟩
  ·exact⟨_,_,h⟩
  ·exact h.elim
def Wz{C:Env->Prop}{us:List Nat}(hC:∀ e σ,Q .normal e σ->C e)(S0:∀ e e',(∀ t ∈ us,e' t=e t)->C e'->C e): ∀(l:List cz) (e:Env) (σ : ae),(∀ g ∈ l,g.op.goes=true/\jw g.dst us=true)->ef P Q l e σ->C e
 | [],e,σ,_,h=>hC e σ h
 | g :: l, e, σ, hl, h => by
   rw[qI]at h;obtain⟨h1,h2⟩:=hl g (by simp);obtain⟨v,σ',h⟩:=YM h1 h;exact S0 e _ (iY h2) (Wz hC S0 l _ σ' (fun g hg=>hl g (by simp[hg])) h)
def O1{jS:List (AX × AX)}{e:Env}(h:qb jS e){x y:AX}(hm:(x,y) ∈ jS): rA (x.ev e) (y.ev e):=by
 induction jS with
 | nil=>cases hm
 | cons p r ih =>
   obtain⟨a,b⟩:=p;rcases List.mem_cons.1 hm with h1|h1
   ·cases h1;exact h.1
   ·exact ih h.2 h1
def O2(ops:Nat->cz)(n:Nat)(jS:List (AX × AX))(ck:List Nat)(j k:Nat): Prop :=
 (Iz (ops j) (ops k)=true/\((ops k).op.GU=true->Ff jS=true))/\ ∀ x y,needs (ops j) (ops k)=some (x,y)->(x,y) ∈ jS/\ ∀ m,j<=m->m<n->(m=k\/m ∉ ck)->(ops m).op.goes=true/\jw (ops m).dst (x.uses++y.uses)=true
def WA {ops : Nat -> cz} {n : Nat} {jS : List (AX × AX)} {k : Nat} {ck : List Nat} {l2 : List Nat} : ∀ (l1 : List Nat) (e : Env) (σ : ae), (∀ j ∈ l1, O2 ops n jS ck j k) -> (∀ m ∈ l1 ++ l2, m ∉ ck) -> (l1 ++ k :: l2).Pairwise (· < ·) -> (∀ i ∈ l1 ++ k :: l2, i < n) ->
    ef P (kf jS Q) ((l1++k::l2).map ops) e σ->ef P (kf jS Q) ((k::(l1++l2)).map ops) e σ
 | [],e,σ,_,_,_,_,h=>h
 | j :: l1, e, σ, hc, hnc, hs, hn, h => by
   rw[cV,bf,qI]at h;rw[bf,qI,cV,bf];have heq:ef P (kf jS Q) (ops j::(l1++l2).map ops)=iw P (kf jS Q) (ops j) (ef P (kf jS Q) ((l1++l2).map ops)):=by funext e σ;exact qI _ _ _ _
   rw[heq];rw[cV,er]at hs;obtain⟨s8,Ds⟩:=hc j (by simp);refine swap s8.1 (fun h v e e' σ=>Wt (s8.2 h)) (fun x y hxy=>?_) (GQ (fun e σ h=>?_) h)
   ·obtain⟨hm,YN⟩:=Ds x y hxy;have WB:j<k:=hs.1 k (by simp);refine⟨⟨(YN j (Nat.le_refl _) (hn j (by simp)) (.inr (hnc j (by simp)))).2,(YN k (Nat.le_of_lt WB) (hn k (by simp)) (.inl rfl)).2⟩,fun e σ hK=>?_⟩;refine Wz (Q:=kf jS Q) (C:=fun e=>rA (x.ev e) (y.ev e)) (us:=x.uses++y.uses) (fun e σ h=>O1 h.1 hm) (fun e e' he h=>?_) _ e σ (fun g hg=>?_) hK
    ·rw[AX.eM (x:=x) (fun t ht=>(he t (dH _ ht)).symm),AX.eM (x:=y) (fun t ht=>(he t (eA _ ht)).symm)];exact h
    ·obtain⟨m,zL,rfl⟩:=eZ.1 hg
     have Ma:m ∈ l1++k::l2:=by
      rcases List.mem_append.1 zL with h|h<;>simp[h]
     exact YN m (Nat.le_of_lt (hs.1 m Ma)) (hn m (da _ Ma)) (.inr (hnc m (da _ zL)))
   ·have:=WA l1 e σ (fun j hj=>hc j (by simp[hj])) (fun m hm=>hnc m (da _ hm)) hs.2 (fun i hi=>hn i (da _ hi)) h;simpa only[bf,qI]using this
def behind {jk cl : Nat -> List Nat} {l : List Nat} (hlt : ∀ k, ∀ m ∈ jk k, m < k) (ic : ∀ k, ∀ j ∈ cl k, j ∈ jk k \/ ∃ m ∈ jk k, j ∈ cl m) (hinv : ∀ z, z ∉ l -> ∀ i ∈ jk z, i ∉ l) {j : Nat} :
    ∀(k:Nat),(∀ i ∈ jk k,i ∉ l)->j ∈ cl k->j ∉ l:=by
 intro k
 induction k using Nat.strongRecOn with
 | _ k ih =>
   intro hr hj;rcases ic k j hj with h|⟨m,hm,h⟩
   ·exact hr j h
   ·exact ih m (hlt k m hm) (hinv m (hr m hm)) h
def Rp {ops : Nat -> cz} {jk cl : Nat -> List Nat} {N : Nat} {jS : List (AX × AX)} (hlt : ∀ k, ∀ m ∈ jk k, m < k) (ic : ∀ k, ∀ j ∈ cl k, j ∈ jk k \/ ∃ m ∈ jk k, j ∈ cl m) : ∀ (n : Nat) (l : List Nat) (e : Env) (σ : ae), l.length = n ->
    (∀ z,z ∉ l-> ∀ i ∈ jk z,i ∉ l)->(∀ i ∈ l,i<N)->l.Pairwise (fun j k=>j<k/\(j ∈ cl k\/O2 ops N jS (cl k) j k))->ef P (kf jS Q) (l.map ops) e σ->GX P (kf jS Q) ops jk n l e σ:=by
 intro n
 induction n with
 | zero=>intro l e σ hl _ _ _ h;cases l with|nil=>exact⟨rfl,h⟩|cons=>cases hl
 | succ n ih =>
   intro l e σ hl hinv hN hp h;refine⟨fun hno=>?_,fun i hi hr=>?_⟩
   ·cases l with
    | nil=>exact h
    | cons x r =>
      obtain⟨j,hj,Mb⟩:=hno x (by simp);have h1:=hlt x j hj;rcases List.mem_cons.1 Mb with rfl|h2
      ·exact absurd h1 (Nat.lt_irrefl _)
      ·have:=((er.1 hp).1 j h2).1;omega
   ·obtain⟨l1,l2,rfl,hni⟩:=List.eq_append_cons_of_mem hi;have he:(l1++i::l2).erase i=l1++l2:=by rw[List.erase_append_right _ hni,List.erase_cons_head]
    have hp':=eR.1 hp
    have hcp:∀ j ∈ l1,O2 ops N jS (cl i) j i:=fun j hj=>by
     rcases(hp'.2.2 j hj i (by simp)).2 with h1|h1
     ·exact absurd (by simp[hj]) (behind hlt ic hinv i hr h1)
     ·exact h1
    have hb:=WA l1 e σ hcp (fun m hm hmc=>behind hlt ic hinv i hr hmc (by rcases List.mem_append.1 hm with h|h<;>simp[h])) (hp.imp fun h=>h.1) hN h;rw[bf,qI]at hb;rw[he];refine GQ (fun e σ h=>ih _ e σ ?_ (fun z hz j hj Mb=>?_) (fun m hm=>hN m ?_) ?_ h) hb
    ·simp at hl ⊢;omega
    ·have acn : j ∈ l1 ++ i :: l2 := by
      rcases List.mem_append.1 Mb with h|h<;>simp[h]
     by_cases hzi:z=i
     ·subst hzi;exact hr j hj acn
     ·refine hinv z (fun hz'=>hz ?_) j hj acn;rcases List.mem_append.1 hz' with h|h
      ·simp[h]
      ·rcases List.mem_cons.1 h with h|h
       ·exact absurd h hzi
       ·simp[h]
    ·rcases List.mem_append.1 hm with h|h<;>simp[h]
    ·refine List.Pairwise.sublist ?_ hp;exact List.Sublist.append_left (List.sublist_cons_self _ _) _
end
section
variable {P:Program}
def CG(P:Program)(nt:Nat)(h:Hints)(dr:Bool)(all:Array Oper)(o:Oper)(g:cz): Prop :=
 u_ P nt h dr o=some g.op/\g.dst=o.dst/\match o.guard with
  | none=>g.guard=none
  | some (j,b)=> ∃ k,(all[j]?).bind (·.dst)=some k/\k<nt/\g.guard=some (k,b)
def Kt{nt:Nat}{h:Hints}{dr:Bool}{all:Array Oper}: ∀(l:List Oper) (gs:List cz),lg P nt h dr all l=some gs->gs.length=l.length/\ ∀(i:Nat) (o:Oper),l[i]? = some o-> ∃ g,gs[i]? = some g/\CG P nt h dr all o g:=by
 intro l
 induction l with
 | nil=>intro gs hc;cases hc;exact⟨rfl,fun i o hi=>by cases hi⟩
 | cons o l ih =>
   intro gs hc;simp only[lg]at hc;split at hc
   ·rename_i ao gs' h1 h2;obtain⟨i1,i2⟩:=ih gs' h2;split at hc
    ·rename_i hg;cases hc;refine⟨by simp[i1],fun i o' hi=>?_⟩;cases i with
     | zero=>cases hi;exact⟨_,rfl,h1,rfl,by rw[hg]⟩
     | succ i=>exact i2 i o' hi
    ·rename_i j b hg;split at hc
     ·rename_i k hk;split at hc
      ·rename_i hlt;cases hc;refine⟨by simp[i1],fun i o' hi=>?_⟩;cases i with
       | zero=>cases hi;exact⟨_,rfl,h1,rfl,by rw[hg];exact⟨k,hk,hlt,rfl⟩⟩
       | succ i=>exact i2 i o' hi
      ·cases hc
     ·cases hc
   ·cases hc
def WC {X : List Deferred} {ro : Option Nat} {wn : Nat} {nt : Nat} {h : Hints} {dr : Bool} {ops : Array Oper} {B : Nat -> Prop} {Q : AQ} {g0 : aM} {w0 : World} {mY : ae} {o : Oper} {gp : cz} {i : Nat} {K : Env -> ae -> Prop} {KK : Act -> World -> Prop}
    {g:aM} {w:World} {σ : ae} {e:Env} {a:Act} (S0:CG P nt h dr ops o gp) (h0:ops[i]? = some o) (hR:Rel g w σ) (hE:f_ nt g w e a.tmps) (hd:ku X B σ g w a.defers) (dI:fN mY g0 w0 σ g w)
    (hk:∀ g' w' σ' e' a',K e' σ'->Rel g' w' σ'->f_ nt g' w' e' a'.tmps->ku X B σ' g' w' a'.defers->fN mY g0 w0 σ' g' w'->KK a' w') (hw:iw P Q gp K e σ):wpOpIn (WF ro) wn P ops (QR X nt B g0 w0 mY Q) i KK a w:=by
 obtain⟨h1,hds,hgd⟩:=S0
 have go:∀ (e1:Env),f_ nt g w e1 a.tmps->gp.op.run P e1 σ (fun v σ'=>K (upd e1 gp.dst v) σ') (fun v σ'=>Q (.panic v) e1 σ')->o.wpIn (WF ro) wn P a w KK (QR X nt B g0 w0 mY Q):=fun e1 xj hrun=>by
  rw[hds]at hrun;refine Oper.GO ?_ ?_ (OW h1 hR xj hrun)
  ·rintro a' w' ⟨v,g',av,σ',rfl,r1,r2,r3,r4⟩;exact hk g' w' σ' (upd e1 o.dst av) (a.put o.dst v) r4 r1 ((xj.mono r2.mono).put o.dst r3) (by rw[put_defers];exact hd.step r2) (dI.trans r2)
  ·rintro ex a' w' ⟨rfl,v,g',av,σ',rfl,r1,r2,r3,r4⟩;exact⟨g',e1,σ',hd.step r2,r1,xj.mono r2.mono,dI.trans r2,v,av,rfl,r3,r4⟩
 have pass:∀ (e1:Env),f_ nt g w e1 a.tmps->K (upd e1 gp.dst (.bJ [])) σ->KK (a.put o.dst Go.undef) w:=fun e1 xj hrun =>
  hk g w σ (upd e1 gp.dst (.bJ [])) (a.put o.dst Go.undef) hrun hR (by rw[hds];exact xj.put o.dst (.bJ [] #[] rfl (fun i hi=>absurd hi (dY _)))) (by rw[put_defers];exact hd) dI
 unfold wpOpIn;simp only[h0];unfold iw at hw;split at hgd
 ·rename_i hg;simp only[hgd]at hw;have Uq:Region.wanted o (yielded ops a.tmps)=true:=by simp[Region.wanted,hg]
  rw[if_pos Uq];exact go e hE hw
 ·rename_i j b hg;obtain⟨k,hk',hlt,hgg⟩:=hgd;simp only[hgg]at hw;obtain⟨w1,w2⟩:=L9 (ops:=ops) hE hg hk' hlt;split at hw
  ·rename_i t ht;have hwn:=w1 t ht;by_cases htb:t=b
   ·subst htb;rw[hwn,if_pos (by simp)];exact go _ (hE.congr ht) (hw.1 rfl)
   ·have:t = !b:=by cases t<;>cases b<;>simp_all
    rw[hwn,if_neg (by simpa using htb)];refine⟨fun _ _=>trivial,pass _ (hE.congr ?_) (hw.2 this)⟩;rw[ht,this]
  ·rename_i ht;rw[w2 ht,if_neg (by simp)];exact⟨fun _ _=>trivial,pass e hE hw⟩
  ·exact hw.elim
def lI(ops:Array Oper)(i:Nat): List Nat :=
 match ops[i]? with
 | some o=>(o.after.toList.filter (Region.binds .any)).map (·.on)
 | none=>[]
def oG: cz:=⟨.ji ⟨false,0⟩,none,none⟩
def WD {X : List Deferred} {ro : Option Nat} {wn : Nat} {nt : Nat} {h : Hints} {ops : Array Oper} {B : Nat -> Prop} {Q : AQ} {g0 : aM} {w0 : World} {mY : ae} {gs : List cz} (hc : lg P nt h true ops ops.toList = some gs) (hlt : ∀ i, ∀ j ∈ lI ops i, j < i) :
    ∀ (n : Nat) (l : List Nat) (listed : Array Bool) (g : aM) (w : World) (σ : ae) (e : Env) (a : Act), listed.size = ops.size -> l.Nodup -> (∀ i, i ∈ l ↔ i < ops.size /\ listed.getD i true = false) ->
      GX P Q (fun i=>gs.getD i oG) (lI ops) n l e σ->Rel g w σ->f_ nt g w e a.tmps->ku X B σ g w a.defers->fN mY g0 w0 σ g w ->
      wpAnyIn (WF ro) wn P .any ops (QR X nt B g0 w0 mY Q) n listed a w:=by
 obtain⟨hlen,sn⟩:=Kt ops.toList gs hc
 have mem:∀ (l:List Nat) (listed:Array Bool),(∀ i,i ∈ l↔i<ops.size/\listed.getD i true=false)-> ∀ i,i ∈ Region.ready .any ops listed->i ∈ l/\ ∀ j ∈ lI ops i,j ∉ l:=by
  intro l listed hl i hi;simp only[Region.ready,List.mem_filter,gj,aC,cy]at hi;obtain⟨hlt,hun,Ku⟩:=hi;refine⟨(hl i).2 ⟨hlt,hun⟩,fun j hj Mb=>?_⟩;obtain⟨Cj,sJ⟩:=(hl j).1 Mb;have ho:ops[i]? = some ops[i]:=by simp[hlt]
  simp only[lI,ho,eZ,List.mem_filter]at hj;obtain⟨ed,⟨he1,he2⟩,rfl⟩:=hj;simp only[ho,fJ,bC]at Ku;have:=Array.all_eq_true_iff_forall_mem.1 Ku ed (by simpa using he1);simp only[he2,Bool.not_true,Bool.false_or]at this;rcases Nat.lt_or_ge ed.on listed.size with h'|h'
  ·simp[h']at this sJ;rw[this]at sJ;cases sJ
  ·simp[Array.getElem?_eq_none h']at this
 have afp:∀ (l:List Nat) (listed:Array Bool),listed.size=ops.size->(∀ i,i ∈ l↔i<ops.size/\listed.getD i true=false)->Region.ready .any ops listed=[]-> ∀ i ∈ l,∃ j ∈ lI ops i,j ∈ l:=by
  intro l listed hsz hl jn i hi;obtain⟨S1,hun⟩:=(hl i).1 hi;have ho:ops[i]? = some ops[i]:=by simp[S1]
  have hnot:i ∉ Region.ready .any ops listed:=by rw[jn];simp
  simp only[Region.ready,List.mem_filter,gj,aC,cy,S1,hun,ho,fJ,bC,true_and,Array.all_eq_true_iff_forall_mem]at hnot;simp only[Classical.not_forall,Bool.not_eq_true,Bool.or_eq_false_iff,Bool.not_eq_false']at hnot;obtain⟨ed,he,hbd,hls⟩:=hnot
  have hj:ed.on ∈ lI ops i:=by
   simp only[lI,ho,eZ,List.mem_filter];exact⟨ed,⟨by simpa using he,hbd⟩,rfl⟩
  have h1:=hlt i _ hj;refine⟨_,hj,(hl _).2 ⟨by omega,?_⟩⟩;have h2:ed.on<listed.size:=by omega
  simp[h2]at hls ⊢;exact hls
 intro n
 induction n with
 | zero =>
   intro l listed g w σ e a hsz iK hl ha hR hE hd dI;obtain⟨rfl,hq⟩:=ha;refine⟨?_,g,e,σ,hd,hR,hE,dI,hq⟩;refine List.eq_nil_iff_forall_not_mem.2 fun i hi=>?_;exact absurd (mem _ _ hl i hi).1 (by simp)
 | succ n ih =>
   intro l listed g w σ e a hsz iK hl ha hR hE hd dI;refine⟨fun jn=>⟨g,e,σ,hd,hR,hE,dI,ha.1 (afp l listed hsz hl jn)⟩,fun i hi=>?_⟩;obtain⟨hil,hr⟩:=mem l listed hl i hi;have Dc:=((hl i).1 hil).1;have ho:ops[i]? = some ops[i]:=by simp[Dc]
   obtain⟨gp,hgp,S0⟩:=sn i ops[i] (by simp[Dc]);have hrun:=ha.2 i hil hr;have hgd:gs.getD i oG=gp:=by simp[List.getD,hgp]
   have hrun:iw P Q gp (GX P Q (fun i=>gs.getD i oG) (lI ops) n (l.erase i)) e σ:=by rw[<-hgd];exact hrun
   refine WC S0 ho hR hE hd dI (fun g' w' σ' e' a' hK nX Mc hd' afq=>?_) hrun;refine ih (l.erase i) _ g' w' σ' e' a' (by simp[hsz]) (iK.erase i) (fun k=>?_) hK nX Mc hd' afq;rw[iK.mem_erase_iff,hl k];by_cases O4:k=i
   ·subst O4;simp[hsz,Dc]
   ·have : (listed.setIfInBounds i true).getD k true = listed.getD k true := by
     simp[eD,Array.getElem?_setIfInBounds_ne (Ne.symm O4)]
    rw[this];simp[O4]
def wq(jk:Nat->List Nat): Nat->List (List Nat)
 | 0=>[]
 | n+1=>let c:=wq jk n;c++[((jk n).flatMap fun m=>c.getD m []).foldl (fun l x=>if l.contains x then l else x::l) (jk n)]
def Fg(n:Nat)(jk:Nat->List Nat)(gs:List cz): Bool :=
 let cl:=wq jk n
 (List.range n).all fun k => (jk k).all (· < k) && (cl.getD k []).all (fun j => (jk k).contains j || (jk k).any fun m => (cl.getD m []).contains j) &&
   (List.range k).all fun j => (cl.getD k []).contains j || (Iz (gs.getD j oG) (gs.getD k oG) && match needs (gs.getD j oG) (gs.getD k oG) with
     | some (x,y)=>(List.range n).all fun m=>decide (m<j) ||(decide (m≠k) && (cl.getD k []).contains m) ||((gs.getD m oG).op.goes && jw (gs.getD m oG).dst (x.uses++y.uses))
     | none=>true)
def uv(n:Nat)(jk:Nat->List Nat)(gs:List cz): List (AX × AX) :=
 let cl:=wq jk n
 ((List.range n).flatMap fun k=>(List.range k).filterMap fun j=>if(cl.getD k []).contains j then none else needs (gs.getD j oG) (gs.getD k oG))++if gs.any fun g=>g.op.GU then [(.c .j4,.c .j4)]else []
def aaY(h:Hints)(ops:Array Oper): List Nat :=
 let n:=ops.size
 let cl:=wq (lI ops) n
 let ls:=(List.range n).filter fun i=>match(ops[i]?).bind (·.dst)with
  | some d=>h.mth.contains (100000+d)
  | none=>false
 let late:=fun k=>ls.contains k || ls.any fun i=>(cl.getD k []).contains i
 (List.range n).filter (fun k=> !late k)++(List.range n).filter late
def O5(n:Nat)(p:List Nat): Bool:=decide (p.length=n) && decide p.Nodup && p.all (· < n) && (List.range n).all fun x=>p.contains x
def Dt(jk:Nat->List Nat)(p:List Nat)(i:Nat): List Nat:=match p[i]? with
 | some k=>(jk k).map fun j=>p.idxOf j
 | none=>[]
def s9(gs:List cz)(p:List Nat): List cz:=p.map fun i=>gs.getD i oG
def YO(n:Nat)(jk:Nat->List Nat): Bool:=(List.range n).all fun k=>(jk k).all (· < k)
def Md(jk:Nat->List Nat): ∀ n,(wq jk n).length=n
 | 0=>rfl
 | n+1=>by simp[wq,Md jk n]
def QR.mono{X:List Deferred}{nt:Nat}{B:Nat->Prop}{g:aM}{w:World}{σ : ae}{Q Q':AQ}(h:∀ ex e σ,Q ex e σ->Q' ex e σ){ex:Exit}{a:Act}{w2:World}(hq:QR X nt B g w σ Q ex a w2): QR X nt B g w σ Q' ex a w2:=by
 obtain⟨g',e',σ',h1,h2,h3,h4,h5⟩:=hq;refine⟨g',e',σ',h1,h2,h3,h4,?_⟩;cases ex with
 | panic chain=>obtain⟨v,av,r1,r2,r3⟩:=h5;exact⟨v,av,r1,r2,h _ _ _ r3⟩
 | outgrown=>exact h5
 | normal=>exact h _ _ _ h5
 | exit id=>exact h _ _ _ h5
 | goto l=>exact h _ _ _ h5
 | ret=>exact h _ _ _ h5
def ad6 {Q : AQ} {n : Nat} {jk : Nat -> List Nat} {gs : List cz} {e : Env} {σ : ae} (hlen : gs.length = n) (hz : ∀ z, n <= z -> jk z = []) (hok : Fg n jk gs = true) (hw : ef P (kf (uv n jk gs) Q) gs e σ) :
    GX P (kf (uv n jk gs) Q) (fun i=>gs.getD i oG) jk n (List.range n) e σ:=by
 simp only[Fg,bg,gj,aC,bO,decide_eq_true_eq,List.any_eq_true,List.contains_iff_mem]at hok
 have hlt:∀ i,∀ j ∈ jk i,j<i:=fun i j hj=>by
  by_cases hi:i<n
  ·exact(hok i hi).1.1 j hj
  ·rw[hz i (Nat.le_of_not_lt hi)]at hj;cases hj
 refine Rp (cl:=fun k=>(wq jk n).getD k []) (N:=n) hlt (fun k j hj=>?_) _ _ e σ (by simp) (fun z hz' i hi=>?_) (fun i hi=>by simpa using hi) ?_ ?_
 ·by_cases hk:k<n
  ·exact(hok k hk).1.2 j hj
  ·have : (wq jk n).getD k [] = [] := by
    have:=Md jk n;rw[aB,fQ (by omega)];rfl
   rw[this]at hj;cases hj
 ·have:jk z=[]:=hz z (by simpa using hz');rw[this]at hi;cases hi
 ·refine List.pairwise_iff_getElem.2 fun i j hi hj hij=>?_;simp only[List.getElem_range];simp at hi hj;refine⟨hij,?_⟩;by_cases ic:i ∈ (wq jk n).getD j []
  ·exact .inl ic
  ·refine .inr ?_;rcases(hok j hj).2 i hij with h1|⟨h1,h2⟩
   ·exact absurd h1 ic
   ·refine⟨⟨h1,fun hpc=>?_⟩,fun x y hxy=>⟨?_,fun m zL Ma hm3=>?_⟩⟩
    ·have ha:(gs.any fun g=>g.op.GU)=true:=List.any_eq_true.2 ⟨_,(by show gs.getD j oG ∈ gs;rw[aB,aE (by omega)];exact eW _),hpc⟩;unfold Ff uv;rw[if_pos ha];simp[Ws]
    ·refine dH _ (List.mem_flatMap.2 ⟨j,by simpa using hj,List.mem_filterMap.2 ⟨i,by simpa using hij,?_⟩⟩);rw[if_neg (by simpa[List.contains_iff_mem]using ic)];exact hxy
    ·simp only[hxy,bg,gj,aC,bO,decide_eq_true_eq]at h2;rcases h2 m Ma with(h3|h3)|h3
     ·omega
     ·rcases hm3 with h4|h4
      ·exact absurd h4 h3.1
      ·exact absurd (List.contains_iff_mem.1 h3.2) h4
     ·exact h3
 ·have : (List.range n).map (fun i => gs.getD i oG) = gs := by
   apply List.ext_getElem
   ·simp[hlen]
   ·intro i h1 h2;simp[aB,h2]
  rw[this];exact hw
def O6 {Q : AQ} {ops ops' : Nat -> cz} {jk aco : Nat -> List Nat} {N : Nat} {f : Nat -> Nat} (hinj : ∀ i, i < N -> ∀ j, j < N -> f i = f j -> i = j) (Kv : ∀ i, i < N -> ops' i = ops (f i)) (Ku : ∀ i, i < N -> ∀ j, j < N -> (j ∈ aco i ↔ f j ∈ jk (f i))) :
    ∀(n:Nat) (l l':List Nat) (e:Env) (σ : ae),l.Nodup->l'.Nodup->(∀ i ∈ l,i<N)->(∀ x,x ∈ l'↔ ∃ i,i ∈ l/\f i=x)->GX P Q ops' aco n l e σ->GX P Q ops jk n l' e σ
 | 0, l, l', e, σ, _, _, _, hl, h => by
   obtain⟨h1,h2⟩:=h;subst h1;refine⟨?_,h2⟩;cases l' with
   | nil=>rfl
   | cons x _=>obtain⟨i,hi,_⟩:=(hl x).1 (by simp);cases hi
 | n + 1, l, l', e, σ, hd, hd', hN, hl, h => by
   obtain⟨h1,h2⟩:=h;refine⟨fun hx=>h1 fun i hi=>?_,fun x hx hr=>?_⟩
   ·obtain⟨y,hy1,S2⟩:=hx (f i) ((hl _).2 ⟨i,hi,rfl⟩);obtain⟨j,hj,rfl⟩:=(hl y).1 S2;exact⟨j,(Ku i (hN i hi) j (hN j hj)).2 hy1,hj⟩
   ·obtain⟨i,hi,rfl⟩:=(hl x).1 hx;have h3:=h2 i hi fun j hj Mb=>hr (f j) ((Ku i (hN i hi) j (hN j Mb)).1 hj) ((hl _).2 ⟨j,Mb,rfl⟩);rw[Kv i (hN i hi)]at h3;refine GQ (fun e σ h4=>?_) h3;refine O6 hinj Kv Ku n (l.erase i) (l'.erase (f i)) e σ (hd.erase i) (hd'.erase _) (fun k hk=>hN k (List.mem_of_mem_erase hk)) (fun z=>?_) h4;rw[hd'.mem_erase_iff,hl z];constructor
    ·rintro⟨hz,k,hk,rfl⟩;exact⟨k,hd.mem_erase_iff.2 ⟨fun O4=>hz (by rw[O4]),hk⟩,rfl⟩
    ·rintro⟨k,hk,rfl⟩;obtain⟨O4,hk⟩:=hd.mem_erase_iff.1 hk;exact⟨fun hf=>O4 (hinj k (hN k hk) i (hN i hi) hf),k,hk,rfl⟩
def Ut {X : List Deferred} {ro : Option Nat} {wn : Nat} {nt : Nat} {h : Hints} {ops : Array Oper} {B : Nat -> Prop} {Q : AQ} {gs : List cz} {p : List Nat} {id : Nat} {g : aM} {w : World} {σ : ae} {e : Env} {a : Act} (hc : lg P nt h true ops ops.toList = some gs)
    (hlt:YO ops.size (lI ops)=true) (hp:O5 ops.size p=true) (hok:Fg ops.size (Dt (lI ops) p) (s9 gs p)=true) (hm:P.follows .mixedOrders=true) (hw:ef P (kf (uv ops.size (Dt (lI ops) p) (s9 gs p)) Q) (s9 gs p) e σ) (hR:Rel g w σ) (hE:f_ nt g w e a.tmps) (hd:ku X B σ g w a.defers):(Code.region id ops true).wpIn (WF ro) wn P (QR X nt B g w σ Q) a w:=by
 have Dc:∀ i,∀ j ∈ lI ops i,j<i:=fun i j hj=>by
  by_cases hi:i<ops.size
  ·simp only[YO,bg,gj,decide_eq_true_eq]at hlt;exact hlt i hi j hj
  ·have:lI ops i=[]:=by simp[lI,Array.getElem?_eq_none (h_ hi)]
   rw[this]at hj;cases hj
 simp only[O5,aC,decide_eq_true_eq,bg]at hp;obtain⟨⟨⟨s8,Ds⟩,Du⟩,Me⟩:=hp;refine wpIn_mono (wpIn_region_any hm ?_) fun ex a' w'=>QR.mono (Q:=kf (uv ops.size (Dt (lI ops) p) (s9 gs p)) Q) fun _ _ _=>YK;have nX:=hR.drew (w.drawn+1);have dI:=fN.drew σ g w (w.drawn+1);refine WD hc Dc ops.size (List.range ops.size) _ g _ σ e a (by simp) List.nodup_range (fun i=>by simp;intro h;simp[h]) ?_ nX (hE.mono dI.mono) (hd.step dI) dI;have key:=ad6 (P:=P) (Q:=Q) (n:=ops.size) (jk:=Dt (lI ops) p) (gs:=s9 gs p) (e:=e) (σ:=σ) (by simp[s9,s8]) (fun z hz=>by simp[Dt,fQ (show p.length<=z by omega)]) hok hw;have hge:∀ i (hi:i<ops.size),p[i]? = some (p.getD i 0):=fun i hi=>by rw[aB,aE (by omega)];rfl
 have hinj:∀ i,i<ops.size-> ∀ j,j<ops.size->p.getD i 0=p.getD j 0->i=j:=fun i hi j hj hij=>by
  have e1:=hge i hi;have e2:=hge j hj;rw[hij]at e1;exact(List.getElem?_inj (by omega) Ds).1 (e1.trans e2.symm)
 have hidx:∀ j,j<ops.size->p.idxOf (p.getD j 0)=j:=fun j hj=>by
  rw[aB,aE (by omega)];exact Ds.idxOf_getElem j (by omega)
 have acp:∀ x,x<ops.size->x ∈ p:=fun x hx=>List.contains_iff_mem.1 (Me x (by simpa using hx));refine O6 (N:=ops.size) (f:=fun i=>p.getD i 0) hinj (fun i hi=>?_) (fun i hi j hj=>?_) _ _ _ e σ List.nodup_range List.nodup_range (fun i hi=>by simpa using hi) (fun x=>?_) key
 ·simp only[s9,aB,List.getElem?_map];rw[hge i hi];rfl
 ·simp only[Dt];rw[hge i hi];simp only[eZ];constructor
  ·rintro⟨k,hk,rfl⟩
   have hkp:k ∈ p:=by
    have:=Dc _ k hk;have h5:p.getD i 0<ops.size:=Du _ (List.mem_of_getElem? (hge i hi));exact acp k (by omega)
   have:p.getD (p.idxOf k) 0=k:=by
    rw[aB,aE (List.idxOf_lt_length_iff.2 hkp)];exact List.getElem_idxOf _
   rw[this];exact hk
  ·intro hk;exact⟨_,hk,hidx j hj⟩
 ·constructor
  ·intro hx;have hx:=acp x (by simpa using hx);obtain⟨i,hi,rfl⟩:=bT hx;exact⟨i,by simp;omega,by rw[aB,aE hi];rfl⟩
  ·rintro⟨i,hi,rfl⟩;simp only[gj]at hi ⊢;exact Du _ (List.mem_of_getElem? (hge i hi))
end
