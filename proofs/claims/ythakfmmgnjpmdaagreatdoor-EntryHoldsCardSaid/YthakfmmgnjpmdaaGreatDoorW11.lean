/- Part. -/
import Derived.Test.YthakfmmgnjpmdaaGreatDoorW10
set_option linter.all false
namespace Go.AM
def cH.uses(g:cH): List Nat:=g.op.uses++(match g.guard with|some (k,_)=>[k]|none=>[])
def iF(P:Program)(Q:AQ)(g:cH)(K:Env->ae->Prop)(e:Env)(σ : ae): Prop :=
 match g.guard with
 | none=>g.op.run P e σ (fun v σ'=>K (upd e g.dst v) σ') (fun v σ'=>Q (.panic v) e σ')
 | some (k, b) => match e k with
   | .bool t => (t = b -> g.op.run P (upd e (some k) (.bool b)) σ (fun v σ' => K (upd (upd e (some k) (.bool b)) g.dst v) σ') (fun v σ' => Q (.panic v) (upd e (some k) (.bool b)) σ')) /\
      (t = !b->K (upd (upd e (some k) (.bool (!b))) g.dst (.bH [])) σ)
   | .bH []=>K (upd e g.dst (.bH [])) σ
   | _=>False
def upd_same{e:Env}{k:Nat}{v:AV}(h:e k=v): upd e (some k) v=e:=by
 funext n;simp only[upd];split
 ·rename_i h1;subst h1;exact h.symm
 ·rfl
section
variable {P:Program} {Q:AQ}
def qY(g:cH)(r:List cH)(e:Env)(σ : ae): eU P Q (g::r) e σ = iF P Q g (eU P Q r) e σ:=by
 obtain⟨o,d,gd⟩:=g;cases gd with
 | none=>rfl
 | some kb=>obtain⟨k,b⟩:=kb;rfl
def cH.D(P:Program)(g:cH)(e:Env)(σ : ae)(v:AV)(σ':ae): Prop :=
 match g.guard with
 | none=>g.op.D P e σ v σ'
 | some (k, b) => match e k with
   | .bool t=>if t=b then g.op.D P e σ v σ' else v = .bH []/\σ' = σ
   | .bH []=>v = .bH []/\σ' = σ
   | _=>False
def kN{g:cH}{e:Env}{σ : ae}{v:AV}{σ':ae}(h:g.D P e σ v σ'): (g.op.D P e σ v σ'/\ ∀ s u s',g.op.D P e s u s'->g.D P e s u s')\/(v = .bH []/\σ' = σ/\ ∀ s,g.D P e s (.bH []) s):=by
 unfold cH.D at *;split at h
 ·exact .inl ⟨h,fun _ _ _ h=>h⟩
 ·split at h
  ·split at h
   ·rename_i h1 h2;simp only[if_pos h2];exact .inl ⟨h,fun _ _ _ h=>h⟩
   ·rename_i h1 h2;simp only[if_neg h2];exact .inr ⟨h.1,h.2,fun _=>⟨trivial,trivial⟩⟩
  ·exact .inr ⟨h.1,h.2,fun _=>⟨rfl,rfl⟩⟩
  ·exact h.elim
def jN{g:cH}{K:Env->ae->Prop}{e:Env}{σ : ae}(hc:g.op.cls≠ .no): iF P Q g K e σ↔ ∃ v σ',g.D P e σ v σ'/\K (upd e g.dst v) σ':=by
 unfold iF cH.D;split
 ·exact Ff hc
 ·rename_i k b hg;split
  ·rename_i t ht;by_cases htb:t=b
   ·subst htb;rw[upd_same ht];simp only[↓reduceIte];constructor
    ·exact fun h=>(Ff hc).1 (h.1 trivial)
    ·exact fun h=>⟨fun _=>(Ff hc).2 h,fun h=>by cases t<;>cases h⟩
   ·have hn:t = !b:=by cases t<;>cases b<;>simp_all
    have hs:upd e (some k) (.bool (!b))=e:=upd_same (by rw[ht,hn]);simp only[if_neg htb,hs];constructor
    ·exact fun h=>⟨_,σ,⟨rfl,rfl⟩,h.2 hn⟩
    ·rintro⟨v,τ,⟨rfl,rfl⟩,h⟩;exact⟨fun h'=>absurd h' htb,fun _=>h⟩
  ·constructor
   ·exact fun h=>⟨_,σ,⟨rfl,rfl⟩,h⟩
   ·rintro⟨v,τ,⟨rfl,rfl⟩,h⟩;exact h
  ·constructor
   ·exact fun h=>h.elim
   ·exact fun⟨_,_,h,_⟩=>h.elim
def GQ{g:cH}{K K':Env->ae->Prop}{e:Env}{σ : ae}(h:∀ e σ,K e σ->K' e σ): iF P Q g K e σ->iF P Q g K' e σ:=by
 unfold iF;split
 ·exact sE (fun v s=>h _ _) (fun _ _ h=>h)
 ·split
  ·exact fun hh=>⟨fun ht=>sE (fun v s=>h _ _) (fun _ _ h=>h) (hh.1 ht),fun ht=>h _ _ (hh.2 ht)⟩
  ·exact h _ _
  ·exact id
def GR{g:cH}{e e':Env}{σ : ae}{v:AV}{σ':ae}(h:∀ t ∈ g.uses,e t=e' t)(hD:g.D P e σ v σ'): g.D P e' σ v σ':=by
 have ho:∀ t ∈ g.op.uses,e t=e' t:=fun t ht=>h t (cW _ ht);unfold cH.D at *;split at hD
 ·rename_i hg;exact Sy ho hD
 ·rename_i k b hg;have hk:e k=e' k:=h k (by simp[cH.uses,hg]);rw[<-hk];split at hD
  ·split at hD
   ·rename_i h1 h2;simp only[h1,if_pos h2];exact Sy ho hD
   ·rename_i h1 h2;simp only[h1,if_neg h2];exact hD
  ·simp_all
  ·exact hD.elim
def qZ{g:cH}{e:Env}{σ : ae}{v:AV}{σ':ae}(hc:g.op.cls = .pu\/g.op.cls = .rd)(hD:g.D P e σ v σ'): σ' = σ:=by
 rcases kN hD with⟨h,_⟩|⟨_,h,_⟩
 ·exact ad3 hc h
 ·exact h
def SH{g:cH}{e:Env}{σ : ae}{v:AV}{σ':ae}(hc:g.op.cls = .pu\/g.op.cls = .rd)(hD:g.D P e σ v σ')(τ : ae): g.D P e (σ++ τ) v (σ++ τ):=by
 rcases kN hD with⟨h,f⟩|⟨rfl,_,f⟩
 ·exact f _ _ _ (ad4 hc h τ)
 ·exact f _
def SI{g:cH}{e:Env}{σ : ae}{v:AV}{σ':ae}(hc:g.op.cls = .pu)(hD:g.D P e σ v σ')(s:ae): g.D P e s v s:=by
 rcases kN hD with⟨h,f⟩|⟨rfl,_,f⟩
 ·exact f _ _ _ (ad5 hc h s)
 ·exact f _
def af9{g:cH}{e:Env}{σ : ae}{v:AV}{σ':ae}(hc:g.op.cls = .al)(hD:g.D P e σ v σ'): ∃ τ,σ' = σ++ τ:=by
 rcases kN hD with⟨h,_⟩|⟨_,h,_⟩
 ·exact ahv hc h
 ·exact⟨[],by simp[h]⟩
def aef {g : cH} {e : Env} {σ : ae} {v : AV} {σ' : ae} {l : Nat} {ob nj : bj} {rx : Option AX} (hr : g.op.qW = some rx) (hl : σ[l]? = some ob) (Ia : ob.like nj) (hap : ∀ x, rx = some x -> (x.ev e).obj ≠ some l) (hD : g.D P e σ v σ') :
    g.D P e (σ.set l nj) v (σ.set l nj):=by
 rcases kN hD with⟨h,f⟩|⟨rfl,_,f⟩
 ·exact f _ _ _ (af3 hr hl Ia hap h)
 ·exact f _
def af_{g:cH}{e:Env}{σ : ae}{v:AV}{σ':ae}(hc:g.op.cls = .st)(hD:g.D P e σ v σ'): σ' = σ\/ ∃ y l ob nj,g.op.sF=some y/\σ[l]? = some ob/\ob.like nj/\(y.ev e).obj=some l/\σ' = σ.set l nj:=by
 rcases kN hD with⟨h,_⟩|⟨_,h,_⟩
 ·exact .inr (ad6 hc h)
 ·exact .inl h
def jE(d:Option Nat)(l:List Nat): Bool:=match d with
 | some d=> !l.contains d
 | none=>true
def y8(ag:Bool)(n t:Nat): List (Bool × Nat)->List AX->Bool
 |(ag',n')::r,.t t'::xs=>(ag==ag' && n==n' && t==t') || y8 ag n t r xs
 | _::r,_::xs=>y8 ag n t r xs
 | _,_=>false
def OC: bg->bg->Bool
 | .load ag n (.t t),.ex (.cw _ k C8) az=>y8 ag n t C8 (az.drop k)
 | _,_=>false
def N1(j k:bg): Bool :=
 match j.cls,k.cls with
 | .no,_|_,.no=>false
 | .pu,_|_,.pu=>true
 | .rd,.rd | .rd,.al=>true
 | .rd,.st=>j.qW.isSome
 | .st, .st => match j.NZ, k.NZ with
   | some a,some b=>a != b
   | _,_=>false
 | .st,.rd=>j.sF.isSome && k.pL.isSome
 | .rd, .ap => match j.qW with
   | some (some _)=>true
   | _=>false
 | .rd,.cw=>OC j k
 | _,_=>false
def bg.GU: bg->Bool
 | .ex (.pc _) _=>true
 | _=>false
def UD(j k:bg): Bool:=k.GU && decide (j.cls≠ .no)
def Ip(j k:cH): Bool :=
 (N1 j.op k.op || UD j.op k.op) && jE j.dst k.uses && jE k.dst j.uses && jE j.dst k.dst.toList
def needs(j k:cH): Option (AX × AX):=match j.op.qW,k.op.sF with
 | some (some x),some y=>some (x,y)
 | _, _ => match j.op.sF, k.op.pL with
   | some y,some x=>some (x,y)
   | _,_=>none
def UE{o:bg}{x:AX}(h:o.pL=some x): o.sF=none:=by
 cases o<;>simp[bg.pL]at h<;>rfl
def iZ{e:Env}{d:Option Nat}{l:List Nat}{v:AV}(h:jE d l=true): ∀ t ∈ l,upd e d v t=e t:=by
 intro t ht;cases d with
 | none=>rfl
 | some d =>
   simp only[jE,cy,List.contains_eq_mem,decide_eq_false_iff_not]at h;simp only[upd];rw[if_neg (by rintro rfl;exact h ht)]
def GV{e:Env}{j k:Option Nat}{v u:AV}(h:jE j k.toList=true): upd (upd e j v) k u=upd (upd e k u) j v:=by
 funext t
 cases j with
 | none=>rfl
 | some j =>
   cases k with
   | none=>rfl
   | some k =>
     simp[jE]at h;simp only[upd];by_cases h1:t=k
     ·subst h1;simp[Ne.symm h]
     ·simp[h1]
def ZO{j k:bg}(h:N1 j k=true): j.cls≠ .no/\k.cls≠ .no:=by
 unfold N1 at h;split at h<;>simp_all
def Iq{el:El}{x:AV}{off:Nat}{ag:Bool}{n:Nat}{K K':AV->Prop}(h1:partOf el x off ag n K)(h2:partOf el x off ag n K'): ∃ v,K v/\K' v:=by
 unfold partOf at h1 h2;by_cases h:off=0/\n=el.sz/\ag=el.ag
 ·rw[if_pos h]at h1 h2;exact⟨_,h1,h2⟩
 ·rw[if_neg h]at h1 h2;obtain⟨_,h1⟩:=h1;obtain⟨_,h2⟩:=h2;cases x<;>first|exact h1.elim|exact⟨_,h1.1,h2.1⟩
def Xa{σ : ae}{ag:Bool}{n:Nat}{p:AV}{K K':AV->Prop}(h1:iS σ ag n p K)(h2:iS σ ag n p K'): ∃ v,K v/\K' v:=by
 unfold iS at h1 h2;cases p<;>(try exact h1.elim)
 case ref l off =>
  dsimp only at h1 h2;split at h1
  ·rename_i h;rw[h]at h2;exact⟨_,h1.2.2,h2.2.2⟩
  ·exact h1.elim
 case eK el x off=>exact Iq h1 h2
 case fm el l m i off =>
  dsimp only at h1 h2;split at h1
  ·rename_i h;rw[h]at h2;exact Iq h1.2.2.2 h2.2.2.2
  ·exact h1.elim
def Dr{σ σ2:ae}{e:Env}{ag:Bool}{n t:Nat}: ∀(C8:List (Bool × Nat)) (xs:List AX),y8 ag n t C8 xs=true->H6 σ σ2 C8 (xs.map (AX.ev e))-> ∃ v,iS σ ag n (e t) (fun u=>u=v)/\iS σ2 ag n (e t) (fun u=>u=v)
 | [],xs,h,_=>by cases xs<;>simp[y8]at h
 |(ag',n')::r,[],h,_=>by simp[y8]at h
 | (ag', n') :: r, x :: xs, h, hk => by
   obtain⟨h1,h2⟩:=hk;cases x with
   | c a=>exact Dr r xs (by simpa[y8]using h) h2
   | t t' =>
     simp only[y8,bU,aj,beq_iff_eq]at h;rcases h with⟨⟨rfl,rfl⟩,rfl⟩|h
     ·exact h1
     ·exact Dr r xs h h2
def ahI{j k:bg}{e:Env}{σ σ2:ae}{vj vk:AV}(h:OC j k=true)(dj:j.D P e σ vj σ)(dk:k.D P e σ vk σ2): j.D P e σ2 vj σ2:=by
 unfold OC at h;split at h
 ·rename_i ag n t f k C8 az;obtain⟨hj,_⟩:=(show(∀ τ,(bg.load ag n (.t t)).run P e (σ++ τ) (Is vj (σ++ τ)) No)/\σ = σ from dj)
  replace dk:(fV.cw f k C8).run P (az.map (AX.ev e)) σ (Is vk σ2) No:=dk
  obtain⟨s2,hk,rfl⟩:∃ s2,H6 σ s2 C8 ((az.map (AX.ev e)).drop k)/\s2 = σ2:=by
   cases az with
   | nil=>exact dk.elim
   | cons x xs=>obtain⟨r,s2,_,hk,_,e2⟩:=dk;exact⟨s2,hk,e2⟩
  rw[<-List.map_drop]at hk;obtain⟨v,h1,h2⟩:=Dr _ _ h hk
  have h3:iS σ ag n (e t) (fun u=>u=vj):=by
   have:iS (σ++[]) ag n (e t) (fun u=>Is vj (σ++[]) u (σ++[])):=hj [];rw[bB]at this;exact mh (fun v h=>h.1) this
  obtain⟨u,rfl,rfl⟩:=Xa h1 h3;obtain⟨u',h4,rfl⟩:=uX h2
  exact(show(∀ τ,(bg.load ag n (.t t)).run P e (s2++ τ) (Is u' (s2++ τ)) No)/\s2=s2 from
   ⟨fun τ=>(show iS (s2++ τ) ag n (e t) (fun u=>Is u' (s2++ τ) u (s2++ τ)) from mh (fun v h=>⟨h,rfl⟩) (h4 τ)),rfl⟩)
 ·cases h
def cH.pcR(P:Program)(g:cH)(n:FuncId)(az:List AX)(e:Env): Option Out->Prop
 | none => match g.guard with
   | none=>False
   | some (k, b) => match e k with
     | .bool t=>t = !b
     | .bH []=>True
     | _=>False
 | some o => (∀ s, dZ P n (az.map (AX.ev e)) s fun o' s' => o' = o /\ s' = s) /\ match g.guard with
   | none=>True
   | some (k,b)=>e k = .bool b
def pcE(P:Program)(Q:AQ)(d:Option Nat)(K:Env->ae->Prop)(e:Env)(σ : ae): Option Out->Prop
 | none=>K (upd e d (.bH [])) σ
 | some (.ret r)=>K (upd e d r) σ
 | some (.panic v)=> ∀ s,Q (.panic v) e s
def Xb{g:cH}{n:FuncId}{az:List AX}{K:Env->ae->Prop}{e:Env}{σ : ae}(hg:g.op = .ex (.pc n) az): iF P Q g K e σ↔ ∃ o,g.pcR P n az e o/\pcE P Q g.dst K e σ o:=by
 have key:∀ {K1:AV->ae->Prop} {K2:AV->ae->Prop},g.op.run P e σ K1 K2↔ ∃ o,(∀ s,dZ P n (az.map (AX.ev e)) s fun o' s'=>o'=o/\s'=s)/\pcK (fun r=>K1 r σ) (fun v=> ∀ s,K2 v s) o:=by
  intro K1 K2;rw[hg];exact Iff.rfl
 unfold iF cH.pcR;cases hgd:g.guard with
 | none =>
   simp only;rw[key];constructor
   ·rintro⟨o,h1,h2⟩;exact⟨some o,⟨h1,trivial⟩,by cases o<;>exact h2⟩
   ·rintro⟨o,h1,h2⟩;cases o with
    | none=>exact h1.elim
    | some o=>exact⟨o,h1.1,by cases o<;>exact h2⟩
 | some kb =>
   obtain⟨k,b⟩:=kb;simp only;split
   ·rename_i t ht;constructor
    ·rintro⟨h1,h2⟩;by_cases htb:t=b
     ·have h1:=h1 htb;subst htb;rw[upd_same ht,key]at h1;obtain⟨o,h3,h4⟩:=h1;exact⟨some o,⟨h3,by rw[ht]⟩,by cases o<;>exact h4⟩
     ·have hn:t = !b:=by cases t<;>cases b<;>simp_all
      have h2:=h2 hn;rw[upd_same (by rw[ht,hn])]at h2;exact⟨none,by rw[ht];exact hn,h2⟩
    ·rintro⟨o,h1,h2⟩;cases o with
     | none =>
       rw[ht]at h1;have h1:t = !b:=h1;refine⟨fun h=>absurd h (by rw[h1];cases b<;>decide),fun _=>?_⟩;rw[upd_same (by rw[ht,h1])];exact h2
     | some o =>
       obtain⟨h3,h4⟩:=h1;have h4:e k = .bool b:=h4;have htb:t=b:=AV.bool.inj (ht.symm.trans h4);refine⟨fun _=>?_,fun h=>absurd h (by rw[htb];cases b<;>decide)⟩;rw[upd_same h4,key];exact⟨o,h3,by cases o<;>exact h2⟩
   ·rename_i ht;constructor
    ·intro h;exact⟨none,by rw[ht];trivial,h⟩
    ·rintro⟨o,h1,h2⟩;cases o with
     | none=>exact h2
     | some o=>exact absurd (ht.symm.trans h1.2) (by simp)
   ·rename_i h3 h4;constructor
    ·exact fun h=>h.elim
    ·rintro⟨o,h1,h2⟩;cases o with
     | none =>
       exact False.elim h1
     | some o=>exact(h3 _ h1.2).elim
def acI {j k : cH} {K : Env -> ae -> Prop} {e : Env} {σ : ae} (nU : UD j.op k.op = true) (s1 : jE j.dst k.uses = true) (s2 : jE k.dst j.uses = true) (s3 : jE j.dst k.dst.toList = true)
    (hQ:∀ v e e' σ,Q (.panic v) e σ->Q (.panic v) e' σ) (hh:iF P Q j (iF P Q k K) e σ):iF P Q k (iF P Q j K) e σ:=by
 simp only[UD,aj,decide_eq_true_eq]at nU;obtain⟨hk,hj⟩:=nU
 obtain⟨n,az,hg⟩:∃ n az,k.op = .ex (.pc n) az:=by
  revert hk;cases k.op<;>simp[bg.GU];rename_i o xs;cases o<;>simp[bg.GU]
 obtain⟨vj,SJ,dj,hh⟩:=(jN hj).1 hh;obtain⟨o,h1,h2⟩:=(Xb hg).1 hh;have hu:∀ t ∈ k.uses,upd e j.dst vj t=e t:=iZ s1
 have hz:az.map (AX.ev (upd e j.dst vj))=az.map (AX.ev e):=by
  exact AX.oH fun t ht=>hu t (by simp only[cH.uses,hg];exact cW _ ht)
 have hR:k.pcR P n az e o:=by
  have hgk:∀ m b,k.guard=some (m,b)->upd e j.dst vj m=e m:=fun m b h=>hu m (by simp[cH.uses,h]);unfold cH.pcR at h1 ⊢;cases o with
  | none =>
    cases hgd:k.guard with
    | none=>rw[hgd]at h1;exact h1.elim
    | some kb=>obtain⟨m,b⟩:=kb;rw[hgd]at h1;simp only[hgk m b hgd]at h1;exact h1
  | some o =>
    rw[hz]at h1;refine⟨h1.1,?_⟩;cases hgd:k.guard with
    | none=>trivial
    | some kb=>obtain⟨m,b⟩:=kb;have:=h1.2;rw[hgd]at this;simp only[hgk m b hgd]at this;exact this
 have tr:∀ v,j.D P (upd e k.dst v) σ vj SJ:=fun v=>GR (fun t ht=>(iZ s2 t ht).symm) dj;refine(Xb hg).2 ⟨o,hR,?_⟩;cases o with
 | none=>exact(jN hj).2 ⟨vj,SJ,tr _,by rw[<-GV s3];exact h2⟩
 | some o =>
   cases o with
   | ret r=>exact(jN hj).2 ⟨vj,SJ,tr _,by rw[<-GV s3];exact h2⟩
   | panic v=>exact fun s=>hQ _ _ _ _ (h2 s)
def swap {j k : cH} {K : Env -> ae -> Prop} {e : Env} {σ : ae} (h : Ip j k = true) (hQ : k.op.GU = true -> ∀ v e e' σ, Q (.panic v) e σ -> Q (.panic v) e' σ) (hap : ∀ x y, needs j k = some (x, y) -> (jE j.dst (x.uses ++ y.uses) = true /\ jE k.dst (x.uses ++ y.uses) = true) /\ ∀ e σ, K e σ -> rN (x.ev e) (y.ev e))
    (hh:iF P Q j (iF P Q k K) e σ):iF P Q k (iF P Q j K) e σ:=by
 simp only[Ip,aj]at h;obtain⟨⟨⟨nU,s1⟩,s2⟩,s3⟩:=h;rcases Bool.or_eq_true _ _ ▸ nU with nU|nU
 case inr=>exact acI nU s1 s2 s3 (hQ (by simp only[UD,aj]at nU;exact nU.1)) hh
 obtain⟨hj,hk⟩:=ZO nU;obtain⟨vj,SJ,dj,hh⟩:=(jN hj).1 hh;obtain⟨vk,σk,dk,hK⟩:=(jN hk).1 hh;have Ah:k.D P e SJ vk σk:=GR (iZ s1) dk;have tr:∀ {s s'},j.D P e s vj s'->j.D P (upd e k.dst vk) s vj s':=fun h=>GR (fun t ht=>(iZ s2 t ht).symm) h;have rO:=hK;rw[GV s3]at hK
 have kpu:k.op.cls = .pu->iF P Q k (iF P Q j K) e σ:=fun hc=>by
  have:=qZ (.inl hc) Ah;subst this;exact(jN hk).2 ⟨vk,σ,SI hc Ah σ,(jN hj).2 ⟨vj,_,tr dj,hK⟩⟩
 have Ds:SJ = σ->j.D P e σk vj σk->iF P Q k (iF P Q j K) e σ:=fun h1 h2=>by
  subst h1;exact(jN hk).2 ⟨vk,σk,Ah,(jN hj).2 ⟨vj,_,tr h2,hK⟩⟩
 unfold N1 at nU;split at nU<;>(try (cases nU;done))
 ·rename_i hc _;exact Ds (qZ (.inl hc) dj) (SI hc dj _)
 ·rename_i hc _ _;exact kpu hc
 ·rename_i hc hc2;have h1:=qZ (.inr hc) dj;have h2:=qZ (.inr hc2) Ah;subst h1;subst h2;exact Ds rfl dj
 ·rename_i hc hc2;have h1:=qZ (.inr hc) dj;subst h1;obtain⟨τ,rfl⟩:=af9 hc2 Ah;exact Ds rfl (SH (.inr hc) dj τ)
 ·rename_i hc hc2;have h1:=qZ (.inr hc) dj;subst h1;rcases af_ hc2 Ah with rfl|⟨y,l,ob,nj,hy,hl,Ia,OD,rfl⟩
  ·exact Ds rfl dj
  ·obtain⟨rx,x7⟩:=fM.1 nU;refine Ds rfl (aef x7 hl Ia (fun x hx=>?_) dj);subst hx;have hn:needs j k=some (x,y):=by simp[needs,x7,hy]
   obtain⟨⟨a1,a2⟩,a3⟩:=hap x y hn;have ha:=a3 _ _ rO
   have ex:∀ t ∈ x.uses++y.uses,upd (upd e j.dst vj) k.dst vk t=e t:=fun t ht=>by
    rw[iZ a2 t ht,iZ a1 t ht]
   rw[AX.fA (x:=x) (fun t ht=>ex t (cW _ ht)),AX.fA (x:=y) (fun t ht=>ex t (ek _ ht))]at ha;exact fun h1=>ha l h1 OD
 ·
  split at nU
  ·rename_i a b ra rb;rcases kN dj with⟨dj1,dj2⟩|⟨rfl,rfl,uM⟩
   ·rcases kN Ah with⟨Xc,dk2⟩|⟨rfl,rfl,kR⟩
    ·obtain⟨n,o1,n1,n2,n3,rfl,n4⟩:=abY ra dj1;obtain⟨m,o2,m1,m2,m3,rfl,m4⟩:=abY rb Xc
     have hnm:n≠m:=by
      rintro rfl;rw[List.getElem?_set_self (aK.1 n2).1]at m2;exact n3 (Option.some.inj m2)
     rw[aI hnm]at m2;refine(jN hk).2 ⟨_,_,dk2 _ _ _ (m4 σ m2),(jN hj).2 ⟨_,_,tr (dj2 _ _ _ (n4 _ (by rw[aI (Ne.symm hnm)];exact n2))),?_⟩⟩;rw[List.set_comm _ _ (Ne.symm hnm)];exact hK
    ·exact(jN hk).2 ⟨_,_,kR σ,(jN hj).2 ⟨_,_,tr dj,hK⟩⟩
   ·exact(jN hk).2 ⟨_,_,Ah,(jN hj).2 ⟨_,_,tr (uM _),hK⟩⟩
  ·cases nU
 ·
  rename_i hc _;simp only[aj,fM]at nU;obtain⟨⟨y,ry⟩,x,rx⟩:=nU;have h2:=qZ (.inr (Ib rx)) Ah;subst h2;rcases kN dj with⟨dj1,_⟩|⟨rfl,rfl,_⟩
  ·obtain⟨y',l,ob,nj,hy,n2,_,aga,rfl⟩:=ad6 hc dj1;obtain rfl:y=y':=by rw[ry]at hy;exact Option.some.inj hy
   have hn:needs j k=some (x,y):=by
    unfold needs;rw[UE rx,ry,rx];cases j.op.qW with
    | none=>rfl
    | some o=>cases o<;>rfl
   obtain⟨⟨a1,a2⟩,a3⟩:=hap x y hn;have ha:=a3 _ _ rO
   have ex:∀ t ∈ x.uses++y.uses,upd (upd e j.dst vj) k.dst vk t=e t:=fun t ht=>by
    rw[iZ a2 t ht,iZ a1 t ht]
   rw[AX.fA (x:=x) (fun t ht=>ex t (cW _ ht)),AX.fA (x:=y) (fun t ht=>ex t (ek _ ht))]at ha;have hlt:=(aK.1 n2).1;have OD:(x.ev e).obj≠some l:=fun h=>ha l h aga
   have back:(σ.set l nj).set l ob = σ:=by
    rw[eu];apply List.ext_getElem?;intro i;by_cases hi:i=l
    ·subst hi;rw[List.getElem?_set_self hlt];exact n2.symm
    ·rw[aI (Ne.symm hi)]
   have dk':k.D P e σ vk σ:=by
    rcases kN Ah with⟨q1,q2⟩|⟨rfl,_,q⟩
    ·have:=SA (ob:=ob) rx (by simpa using hlt) OD q1;rw[back]at this;exact q2 _ _ _ this
    ·exact q σ
   exact(jN hk).2 ⟨vk,σ,dk',(jN hj).2 ⟨vj,_,tr dj,hK⟩⟩
  ·exact(jN hk).2 ⟨vk,_,Ah,(jN hj).2 ⟨_,_,tr dj,hK⟩⟩
 ·
  rename_i hc hc2;have h1:=qZ (.inr hc) dj;subst h1;split at nU
  ·rename_i x x7
   have hro:j.op.pL=some x:=by
    revert x7;cases j.op<;>simp[bg.qW,bg.pL]
   rcases kN Ah with⟨Xc,_⟩|⟨rfl,rfl,_⟩
   ·obtain⟨y,hy,⟨τ,rfl⟩|⟨l,ob,hlt,OD,rfl⟩⟩:=ahw hc2 Xc
    ·exact Ds rfl (SH (.inr hc) dj τ)
    ·have hn:needs j k=some (x,y):=by simp[needs,x7,hy]
     obtain⟨⟨a1,a2⟩,a3⟩:=hap x y hn;have ha:=a3 _ _ rO
     have ex:∀ t ∈ x.uses++y.uses,upd (upd e j.dst vj) k.dst vk t=e t:=fun t ht=>by
      rw[iZ a2 t ht,iZ a1 t ht]
     rw[AX.fA (x:=x) (fun t ht=>ex t (cW _ ht)),AX.fA (x:=y) (fun t ht=>ex t (ek _ ht))]at ha;refine Ds rfl ?_;rcases kN dj with⟨q1,q2⟩|⟨rfl,_,q⟩
     ·exact q2 _ _ _ (SA hro hlt (fun h=>ha l h OD) q1)
     ·exact q _
   ·exact Ds rfl dj
  ·cases nU
 ·
  rename_i hc _;have h1:=qZ (.inr hc) dj;subst h1;rcases kN Ah with⟨Xc,_⟩|⟨rfl,rfl,_⟩
  ·rcases kN dj with⟨q1,q2⟩|⟨rfl,_,q⟩
   ·exact Ds rfl (q2 _ _ _ (ahI nU q1 Xc))
   ·exact Ds rfl (q _)
  ·exact Ds rfl dj
variable (P Q) in
def GX(ops:Nat->cH)(ji:Nat->List Nat): Nat->List Nat->Env->ae->Prop
 | 0,l,e,σ=>l=[]/\Q .normal e σ
 | n+1,l,e,σ=>((∀ i ∈ l,∃ j ∈ ji i,j ∈ l)->Q .normal e σ)/\ ∀ i ∈ l,(∀ j ∈ ji i,j ∉ l)->iF P Q (ops i) (GX ops ji n (l.erase i)) e σ
def fV.goes: fV->Bool
 | .inv _ | .pc _=>false
 | _=>true
def bg.goes: bg->Bool
 | .app ..=>true
 | .ex o _=>o.goes
 | o=>o.cls != .no
def OE{o:bg}{e:Env}{σ : ae}{K Kp:AV->ae->Prop}(h:o.goes=true)(hh:o.run P e σ K Kp): ∃ v σ',K v σ':=by
 by_cases hn:o.cls≠ .no
 ·obtain⟨v,σ',_,h⟩:=(Ff hn).1 hh;exact⟨v,σ',h⟩
 ·by_cases hx:∃ o' xs,o = .ex o' xs
  ·obtain⟨o',xs,rfl⟩:=hx;obtain⟨v,σ',_,h1⟩:=fV.det (by replace h:o'.goes=true:=h;cases o'<;>first|(intro e;cases e;done)|(cases h;done)) (show o'.run P (xs.map (AX.ev e)) σ K Kp from hh);exact⟨v,σ',h1⟩
  cases o<;>(try (exact absurd ⟨_,_,rfl⟩ hx))<;>simp[bg.goes]at h<;>(try (exact absurd h hn));rename_i T el x1 y1;simp only[bg.run,pU]at hh;generalize AX.ev e _=y at hh
  have key:∀ (ys:List AV) (x:AV),(match x with
   | .aA=>if ys.length=0 then K .aA σ else gN ys.length el/\K (.own el σ.length ys.length 0 ys.length) (σ++[.cj T el ys])
   | .aN true aZ xs=>aZ=el/\if ys.length=0 then K (.aN true el xs) σ else gN (xs.length+ys.length) el/\K (.own el σ.length (xs.length+ys.length) 0 (xs.length+ys.length)) (σ++[.cj T el (xs++ys)])
   | .own aZ l m lo n => aZ = el /\ match σ[l]? with
     | some (.cj T' aY xs)=>(T'=none\/T'=T)/\aY=el/\m=xs.length/\lo=0/\n=xs.length/\gN (xs.length+ys.length) el/\K (.own el l (xs.length+ys.length) 0 (xs.length+ys.length)) (σ.set l (.cj T' el (xs++ys)))
     | _=>False
   | _=>False)-> ∃ v σ',K v σ':=fun ys x hx=>by
   split at hx
   ·split at hx
    ·exact⟨_,_,hx⟩
    ·exact⟨_,_,hx.2⟩
   ·replace hx:=hx.2
    split at hx
    ·exact⟨_,_,hx⟩
    ·exact⟨_,_,hx.2⟩
   ·replace hx:=hx.2
    split at hx
    ·exact⟨_,_,hx.2.2.2.2.2.2⟩
    ·exact hx.elim
   ·exact hx.elim
  unfold gj at hh;split at hh
  ·exact key _ _ hh.2
  ·exact key _ _ hh.2.2
  ·replace hh:=hh.2
   split at hh
   ·exact key _ _ hh.2.2.2
   ·exact hh.elim
  ·exact key _ _ hh.2.2
  ·obtain⟨u,_,h2⟩:=uX hh.2.2;exact key _ _ h2.2
  ·exact hh.elim
def ZP{g:cH}{K:Env->ae->Prop}{e:Env}{σ : ae}(hc:g.op.goes=true)(h:iF P Q g K e σ): ∃ v σ',K (upd e g.dst v) σ':=by
 unfold iF at h;split at h
 ·exact OE hc h
 ·rename_i k b hg;split at h
  ·rename_i t ht;by_cases htb:t=b
   ·obtain⟨v,s,h⟩:=OE hc (h.1 htb);rw[upd_same (by rw[ht,htb])]at h;exact⟨v,s,h⟩
   ·have hn:t = !b:=by cases t<;>cases b<;>simp_all
    have h:=h.2 hn;rw[upd_same (by rw[ht,hn])]at h;exact⟨_,_,h⟩
  ·exact⟨_,_,h⟩
  ·exact h.elim
def Xd{C:Env->Prop}{us:List Nat}(hC:∀ e σ,Q .normal e σ->C e)(SK:∀ e e',(∀ t ∈ us,e' t=e t)->C e'->C e): ∀(l:List cH) (e:Env) (σ : ae),(∀ g ∈ l,g.op.goes=true/\jE g.dst us=true)->eU P Q l e σ->C e
 | [],e,σ,_,h=>hC e σ h
 | g :: l, e, σ, hl, h => by
   rw[qY]at h;obtain⟨h1,h2⟩:=hl g (by simp);obtain⟨v,σ',h⟩:=ZP h1 h;exact SK e _ (iZ h2) (Xd hC SK l _ σ' (fun g hg=>hl g (by simp[hg])) h)
def OG{jX:List (AX × AX)}{e:Env}(h:qy jX e){x y:AX}(hm:(x,y) ∈ jX): rN (x.ev e) (y.ev e):=by
 induction jX with
 | nil=>cases hm
 | cons p r ih =>
   obtain⟨a,b⟩:=p;rcases List.mem_cons.1 hm with h1|h1
   ·cases h1;exact h.1
   ·exact ih h.2 h1
def OH(ops:Nat->cH)(n:Nat)(jX:List (AX × AX))(ck:List Nat)(j k:Nat): Prop :=
 (Ip (ops j) (ops k)=true/\((ops k).op.GU=true->Fk jX=true))/\ ∀ x y,needs (ops j) (ops k)=some (x,y)->(x,y) ∈ jX/\ ∀ m,j<=m->m<n->(m=k\/m ∉ ck)->(ops m).op.goes=true/\jE (ops m).dst (x.uses++y.uses)=true
def Xe {ops : Nat -> cH} {n : Nat} {jX : List (AX × AX)} {k : Nat} {ck : List Nat} {l2 : List Nat} : ∀ (l1 : List Nat) (e : Env) (σ : ae), (∀ j ∈ l1, OH ops n jX ck j k) -> (∀ m ∈ l1 ++ l2, m ∉ ck) -> (l1 ++ k :: l2).Pairwise (· < ·) -> (∀ i ∈ l1 ++ k :: l2, i < n) ->
    eU P (j6 jX Q) ((l1++k::l2).map ops) e σ->eU P (j6 jX Q) ((k::(l1++l2)).map ops) e σ
 | [],e,σ,_,_,_,_,h=>h
 | j :: l1, e, σ, hc, hnc, hs, hn, h => by
   rw[bt,bf,qY]at h;rw[bf,qY,bt,bf];have heq:eU P (j6 jX Q) (ops j::(l1++l2).map ops)=iF P (j6 jX Q) (ops j) (eU P (j6 jX Q) ((l1++l2).map ops)):=by funext e σ;exact qY _ _ _ _
   rw[heq];rw[bt,eY]at hs;obtain⟨Dt,LP⟩:=hc j (by simp);refine swap Dt.1 (fun h v e e' σ=>W9 (Dt.2 h)) (fun x y hxy=>?_) (GQ (fun e σ h=>?_) h)
   ·obtain⟨hm,ZQ⟩:=LP x y hxy;have Du:j<k:=hs.1 k (by simp);refine⟨⟨(ZQ j (Nat.le_refl _) (hn j (by simp)) (.inr (hnc j (by simp)))).2,(ZQ k (Nat.le_of_lt Du) (hn k (by simp)) (.inl rfl)).2⟩,fun e σ hK=>?_⟩;refine Xd (Q:=j6 jX Q) (C:=fun e=>rN (x.ev e) (y.ev e)) (us:=x.uses++y.uses) (fun e σ h=>OG h.1 hm) (fun e e' he h=>?_) _ e σ (fun g hg=>?_) hK
    ·rw[AX.fA (x:=x) (fun t ht=>(he t (cW _ ht)).symm),AX.fA (x:=y) (fun t ht=>(he t (ek _ ht)).symm)];exact h
    ·obtain⟨m,LQ,rfl⟩:=dW.1 hg
     have LR:m ∈ l1++k::l2:=by
      rcases List.mem_append.1 LQ with h|h<;>simp[h]
     exact ZQ m (Nat.le_of_lt (hs.1 m LR)) (hn m (bJ _ LR)) (.inr (hnc m (bJ _ LQ)))
   ·have:=Xe l1 e σ (fun j hj=>hc j (by simp[hj])) (fun m hm=>hnc m (bJ _ hm)) hs.2 (fun i hi=>hn i (bJ _ hi)) h;simpa only[bf,qY]using this
def behind {ji cl : Nat -> List Nat} {l : List Nat} (hlt : ∀ k, ∀ m ∈ ji k, m < k) (lJ : ∀ k, ∀ j ∈ cl k, j ∈ ji k \/ ∃ m ∈ ji k, j ∈ cl m) (hinv : ∀ z, z ∉ l -> ∀ i ∈ ji z, i ∉ l) {j : Nat} :
    ∀(k:Nat),(∀ i ∈ ji k,i ∉ l)->j ∈ cl k->j ∉ l:=by
 intro k
 induction k using Nat.strongRecOn with
 | _ k ih =>
   intro hr hj;rcases lJ k j hj with h|⟨m,hm,h⟩
   ·exact hr j h
   ·exact ih m (hlt k m hm) (hinv m (hr m hm)) h
def Rk {ops : Nat -> cH} {ji cl : Nat -> List Nat} {N : Nat} {jX : List (AX × AX)} (hlt : ∀ k, ∀ m ∈ ji k, m < k) (lJ : ∀ k, ∀ j ∈ cl k, j ∈ ji k \/ ∃ m ∈ ji k, j ∈ cl m) : ∀ (n : Nat) (l : List Nat) (e : Env) (σ : ae), l.length = n ->
    (∀ z,z ∉ l-> ∀ i ∈ ji z,i ∉ l)->(∀ i ∈ l,i<N)->l.Pairwise (fun j k=>j<k/\(j ∈ cl k\/OH ops N jX (cl k) j k))->eU P (j6 jX Q) (l.map ops) e σ->GX P (j6 jX Q) ops ji n l e σ:=by
 intro n
 induction n with
 | zero=>intro l e σ hl _ _ _ h;cases l with|nil=>exact⟨rfl,h⟩|cons=>cases hl
 | succ n ih =>
   intro l e σ hl hinv hN hp h;refine⟨fun hno=>?_,fun i hi hr=>?_⟩
   ·cases l with
    | nil=>exact h
    | cons x r =>
      obtain⟨j,hj,rD⟩:=hno x (by simp);have h1:=hlt x j hj;rcases List.mem_cons.1 rD with rfl|h2
      ·exact absurd h1 (ij _)
      ·have:=((eY.1 hp).1 j h2).1;omega
   ·obtain⟨l1,l2,rfl,hni⟩:=List.eq_append_cons_of_mem hi;have he:(l1++i::l2).erase i=l1++l2:=by rw[List.erase_append_right _ hni,List.erase_cons_head]
    have hp':=fC.1 hp
    have hcp:∀ j ∈ l1,OH ops N jX (cl i) j i:=fun j hj=>by
     rcases(hp'.2.2 j hj i (by simp)).2 with h1|h1
     ·exact absurd (by simp[hj]) (behind hlt lJ hinv i hr h1)
     ·exact h1
    have hb:=Xe l1 e σ hcp (fun m hm hmc=>behind hlt lJ hinv i hr hmc (by rcases List.mem_append.1 hm with h|h<;>simp[h])) (hp.imp fun h=>h.1) hN h;rw[bf,qY]at hb;rw[he];refine GQ (fun e σ h=>ih _ e σ ?_ (fun z hz j hj rD=>?_) (fun m hm=>hN m ?_) ?_ h) hb
    ·simp at hl ⊢;omega
    ·have aeg : j ∈ l1 ++ i :: l2 := by
      rcases List.mem_append.1 rD with h|h<;>simp[h]
     by_cases hzi:z=i
     ·subst hzi;exact hr j hj aeg
     ·refine hinv z (fun hz'=>hz ?_) j hj aeg;rcases List.mem_append.1 hz' with h|h
      ·simp[h]
      ·rcases List.mem_cons.1 h with h|h
       ·exact absurd h hzi
       ·simp[h]
    ·rcases List.mem_append.1 hm with h|h<;>simp[h]
    ·refine List.Pairwise.sublist ?_ hp;exact List.Sublist.append_left (List.sublist_cons_self _ _) _
end
section
variable {P:Program}
def CG(P:Program)(nt:Nat)(h:Hints)(dr:Bool)(all:Array Oper)(o:Oper)(g:cH): Prop :=
 vQ P nt h dr o=some g.op/\g.dst=o.dst/\match o.guard with
  | none=>g.guard=none
  | some (j,b)=> ∃ k,(all[j]?).bind (·.dst)=some k/\k<nt/\g.guard=some (k,b)
def J8{nt:Nat}{h:Hints}{dr:Bool}{all:Array Oper}: ∀(l:List Oper) (gs:List cH),lA P nt h dr all l=some gs->gs.length=l.length/\ ∀(i:Nat) (o:Oper),l[i]? = some o-> ∃ g,gs[i]? = some g/\CG P nt h dr all o g:=by
 intro l
 induction l with
 | nil=>intro gs hc;cases hc;exact⟨rfl,fun i o hi=>by cases hi⟩
 | cons o l ih =>
   intro gs hc;simp only[lA]at hc;split at hc
   ·rename_i ao gs' h1 h2;obtain⟨i1,i2⟩:=ih gs' h2;split at hc
    ·rename_i hg;cases hc;refine⟨by simp[i1],fun i o' hi=>?_⟩;cases i with
     | zero=>cases hi;exact⟨_,rfl,h1,rfl,by rw[hg]⟩
     | succ i=>exact i2 i o' hi
    ·rename_i j b hg;split at hc
     ·rename_i k hk;split at hc
      ·rename_i hlt;cases hc;refine⟨by simp[i1],fun i o' hi=>?_⟩;cases i with
       | zero=>cases hi;exact⟨_,rfl,h1,rfl,by rw[hg];exact⟨k,hk,hlt,rfl⟩⟩
       | succ i=>exact i2 i o' hi
      ·cases hc
     ·cases hc
   ·cases hc
def Xf {X : List Deferred} {ro : Option Nat} {wn : Nat} {nt : Nat} {h : Hints} {dr : Bool} {ops : Array Oper} {B : Nat -> Prop} {Q : AQ} {g0 : aE} {w0 : World} {ni : ae} {o : Oper} {gp : cH} {i : Nat} {K : Env -> ae -> Prop} {KK : Act -> World -> Prop}
    {g:aE} {w:World} {σ : ae} {e:Env} {a:Act} (SK:CG P nt h dr ops o gp) (h0:ops[i]? = some o) (hR:Rel g w σ) (hE:fN nt g w e a.tmps) (hd:jq X B σ g w a.defers) (eH:e7 ni g0 w0 σ g w)
    (hk:∀ g' w' σ' e' a',K e' σ'->Rel g' w' σ'->fN nt g' w' e' a'.tmps->jq X B σ' g' w' a'.defers->e7 ni g0 w0 σ' g' w'->KK a' w') (hw:iF P Q gp K e σ):wpOpIn (WF ro) wn P ops (QR X nt B g0 w0 ni Q) i KK a w:=by
 obtain⟨h1,hds,hgd⟩:=SK
 have go:∀ (e1:Env),fN nt g w e1 a.tmps->gp.op.run P e1 σ (fun v σ'=>K (upd e1 gp.dst v) σ') (fun v σ'=>Q (.panic v) e1 σ')->o.wpIn (WF ro) wn P a w KK (QR X nt B g0 w0 ni Q):=fun e1 x6 hrun=>by
  rw[hds]at hrun;refine Oper.GO ?_ ?_ (Ox h1 hR x6 hrun)
  ·rintro a' w' ⟨v,g',av,σ',rfl,r1,r2,r3,r4⟩;exact hk g' w' σ' (upd e1 o.dst av) (a.put o.dst v) r4 r1 ((x6.mono r2.mono).put o.dst r3) (by rw[put_defers];exact hd.step r2) (eH.trans r2)
  ·rintro ex a' w' ⟨rfl,v,g',av,σ',rfl,r1,r2,r3,r4⟩;exact⟨g',e1,σ',hd.step r2,r1,x6.mono r2.mono,eH.trans r2,v,av,rfl,r3,r4⟩
 have pass:∀ (e1:Env),fN nt g w e1 a.tmps->K (upd e1 gp.dst (.bH [])) σ->KK (a.put o.dst Go.undef) w:=fun e1 x6 hrun =>
  hk g w σ (upd e1 gp.dst (.bH [])) (a.put o.dst Go.undef) hrun hR (by rw[hds];exact x6.put o.dst (.bH [] #[] rfl (fun i hi=>absurd hi (cE _)))) (by rw[put_defers];exact hd) eH
 unfold wpOpIn;simp only[h0];unfold iF at hw;split at hgd
 ·rename_i hg;simp only[hgd]at hw;have UC:Region.wanted o (yielded ops a.tmps)=true:=by simp[Region.wanted,hg]
  rw[if_pos UC];exact go e hE hw
 ·rename_i j b hg;obtain⟨k,hk',hlt,hgg⟩:=hgd;simp only[hgg]at hw;obtain⟨w1,w2⟩:=LN (ops:=ops) hE hg hk' hlt;split at hw
  ·rename_i t ht;have hwn:=w1 t ht;by_cases htb:t=b
   ·subst htb;rw[hwn,if_pos (by simp)];exact go _ (hE.congr ht) (hw.1 rfl)
   ·have:t = !b:=by cases t<;>cases b<;>simp_all
    rw[hwn,if_neg (by simpa using htb)];refine⟨fun _ _=>trivial,pass _ (hE.congr ?_) (hw.2 this)⟩;rw[ht,this]
  ·rename_i ht;rw[w2 ht,if_neg (by simp)];exact⟨fun _ _=>trivial,pass e hE hw⟩
  ·exact hw.elim
def lV(ops:Array Oper)(i:Nat): List Nat :=
 match ops[i]? with
 | some o=>(o.after.toList.filter (Region.binds .any)).map (·.on)
 | none=>[]
def oN: cH:=⟨.kK ⟨false,0⟩,none,none⟩
def Xg {X : List Deferred} {ro : Option Nat} {wn : Nat} {nt : Nat} {h : Hints} {ops : Array Oper} {B : Nat -> Prop} {Q : AQ} {g0 : aE} {w0 : World} {ni : ae} {gs : List cH} (hc : lA P nt h true ops ops.toList = some gs) (hlt : ∀ i, ∀ j ∈ lV ops i, j < i) :
    ∀ (n : Nat) (l : List Nat) (listed : Array Bool) (g : aE) (w : World) (σ : ae) (e : Env) (a : Act), listed.size = ops.size -> l.Nodup -> (∀ i, i ∈ l ↔ i < ops.size /\ listed.getD i true = false) ->
      GX P Q (fun i=>gs.getD i oN) (lV ops) n l e σ->Rel g w σ->fN nt g w e a.tmps->jq X B σ g w a.defers->e7 ni g0 w0 σ g w ->
      wpAnyIn (WF ro) wn P .any ops (QR X nt B g0 w0 ni Q) n listed a w:=by
 obtain⟨hlen,mj⟩:=J8 ops.toList gs hc
 have mem:∀ (l:List Nat) (listed:Array Bool),(∀ i,i ∈ l↔i<ops.size/\listed.getD i true=false)-> ∀ i,i ∈ Region.ready .any ops listed->i ∈ l/\ ∀ j ∈ lV ops i,j ∉ l:=by
  intro l listed hl i hi;simp only[Region.ready,List.mem_filter,cV,aj,cy]at hi;obtain⟨hlt,hun,J9⟩:=hi;refine⟨(hl i).2 ⟨hlt,hun⟩,fun j hj rD=>?_⟩;obtain⟨Lv,uM⟩:=(hl j).1 rD;have ho:ops[i]? = some ops[i]:=by simp[hlt]
  simp only[lV,ho,dW,List.mem_filter]at hj;obtain⟨ed,⟨he1,he2⟩,rfl⟩:=hj;simp only[ho,cR,bw]at J9;have:=Array.all_eq_true_iff_forall_mem.1 J9 ed (by simpa using he1);simp only[he2,Bool.not_true,Bool.false_or]at this;rcases Nat.lt_or_ge ed.on listed.size with h'|h'
  ·simp[h']at this uM;rw[this]at uM;cases uM
  ·simp[Array.getElem?_eq_none h']at this
 have ahJ:∀ (l:List Nat) (listed:Array Bool),listed.size=ops.size->(∀ i,i ∈ l↔i<ops.size/\listed.getD i true=false)->Region.ready .any ops listed=[]-> ∀ i ∈ l,∃ j ∈ lV ops i,j ∈ l:=by
  intro l listed hsz hl kT i hi;obtain⟨SE,hun⟩:=(hl i).1 hi;have ho:ops[i]? = some ops[i]:=by simp[SE]
  have hnot:i ∉ Region.ready .any ops listed:=by rw[kT];simp
  simp only[Region.ready,List.mem_filter,cV,aj,cy,SE,hun,ho,cR,bw,true_and,Array.all_eq_true_iff_forall_mem]at hnot;simp only[Classical.not_forall,Bool.not_eq_true,gQ,Bool.not_eq_false']at hnot;obtain⟨ed,he,hbd,hls⟩:=hnot
  have hj:ed.on ∈ lV ops i:=by
   simp only[lV,ho,dW,List.mem_filter];exact⟨ed,⟨by simpa using he,hbd⟩,rfl⟩
  have h1:=hlt i _ hj;refine⟨_,hj,(hl _).2 ⟨by omega,?_⟩⟩;have h2:ed.on<listed.size:=by omega
  simp[h2]at hls ⊢;exact hls
 intro n
 induction n with
 | zero =>
   intro l listed g w σ e a hsz fG hl ha hR hE hd eH;obtain⟨rfl,hq⟩:=ha;refine⟨?_,g,e,σ,hd,hR,hE,eH,hq⟩;refine List.eq_nil_iff_forall_not_mem.2 fun i hi=>?_;exact absurd (mem _ _ hl i hi).1 (by simp)
 | succ n ih =>
   intro l listed g w σ e a hsz fG hl ha hR hE hd eH;refine⟨fun kT=>⟨g,e,σ,hd,hR,hE,eH,ha.1 (ahJ l listed hsz hl kT)⟩,fun i hi=>?_⟩;obtain⟨SL,hr⟩:=mem l listed hl i hi;have De:=((hl i).1 SL).1;have ho:ops[i]? = some ops[i]:=by simp[De]
   obtain⟨gp,hgp,SK⟩:=mj i ops[i] (by simp[De]);have hrun:=ha.2 i SL hr;have hgd:gs.getD i oN=gp:=by simp[List.getD,hgp]
   have hrun:iF P Q gp (GX P Q (fun i=>gs.getD i oN) (lV ops) n (l.erase i)) e σ:=by rw[<-hgd];exact hrun
   refine Xf SK ho hR hE hd eH (fun g' w' σ' e' a' hK kY Xh hd' ahK=>?_) hrun;refine ih (l.erase i) _ g' w' σ' e' a' (by simp[hsz]) (fG.erase i) (fun k=>?_) hK kY Xh hd' ahK;rw[fG.mem_erase_iff,hl k];by_cases OI:k=i
   ·subst OI;simp[hsz,De]
   ·have : (listed.setIfInBounds i true).getD k true = listed.getD k true := by
     simp[dX,Array.getElem?_setIfInBounds_ne (Ne.symm OI)]
    rw[this];simp[OI]
def xe(ji:Nat->List Nat): Nat->List (List Nat)
 | 0=>[]
 | n+1=>let c:=xe ji n;c++[((ji n).flatMap fun m=>c.getD m []).foldl (fun l x=>if l.contains x then l else x::l) (ji n)]
def Fl(n:Nat)(ji:Nat->List Nat)(gs:List cH): Bool :=
 let cl:=xe ji n
 (List.range n).all fun k => (ji k).all (· < k) && (cl.getD k []).all (fun j => (ji k).contains j || (ji k).any fun m => (cl.getD m []).contains j) &&
   (List.range k).all fun j => (cl.getD k []).contains j || (Ip (gs.getD j oN) (gs.getD k oN) && match needs (gs.getD j oN) (gs.getD k oN) with
     | some (x,y)=>(List.range n).all fun m=>decide (m<j) ||(decide (m≠k) && (cl.getD k []).contains m) ||((gs.getD m oN).op.goes && jE (gs.getD m oN).dst (x.uses++y.uses))
     | none=>true)
def u4(n:Nat)(ji:Nat->List Nat)(gs:List cH): List (AX × AX) :=
 let cl:=xe ji n
 ((List.range n).flatMap fun k=>(List.range k).filterMap fun j=>if(cl.getD k []).contains j then none else needs (gs.getD j oN) (gs.getD k oN))++if gs.any fun g=>g.op.GU then [(.c .jB,.c .jB)]else []
def acJ(h:Hints)(ops:Array Oper): List Nat :=
 let n:=ops.size
 let cl:=xe (lV ops) n
 let ls:=(List.range n).filter fun i=>match(ops[i]?).bind (·.dst)with
  | some d=>h.mth.contains (100000+d)
  | none=>false
 let late:=fun k=>ls.contains k || ls.any fun i=>(cl.getD k []).contains i
 (List.range n).filter (fun k=> !late k)++(List.range n).filter late
def OJ(n:Nat)(p:List Nat): Bool:=decide (p.length=n) && decide p.Nodup && p.all (· < n) && (List.range n).all fun x=>p.contains x
def Dv(ji:Nat->List Nat)(p:List Nat)(i:Nat): List Nat:=match p[i]? with
 | some k=>(ji k).map fun j=>p.idxOf j
 | none=>[]
def tR(gs:List cH)(p:List Nat): List cH:=p.map fun i=>gs.getD i oN
def ZR(n:Nat)(ji:Nat->List Nat): Bool:=(List.range n).all fun k=>(ji k).all (· < k)
def LS(ji:Nat->List Nat): ∀ n,(xe ji n).length=n
 | 0=>rfl
 | n+1=>by simp[xe,LS ji n]
def QR.mono{X:List Deferred}{nt:Nat}{B:Nat->Prop}{g:aE}{w:World}{σ : ae}{Q Q':AQ}(h:∀ ex e σ,Q ex e σ->Q' ex e σ){ex:Exit}{a:Act}{w2:World}(hq:QR X nt B g w σ Q ex a w2): QR X nt B g w σ Q' ex a w2:=by
 obtain⟨g',e',σ',h1,h2,h3,h4,h5⟩:=hq;refine⟨g',e',σ',h1,h2,h3,h4,?_⟩;cases ex with
 | panic chain=>obtain⟨v,av,r1,r2,r3⟩:=h5;exact⟨v,av,r1,r2,h _ _ _ r3⟩
 | outgrown=>exact h5
 | normal=>exact h _ _ _ h5
 | exit id=>exact h _ _ _ h5
 | goto l=>exact h _ _ _ h5
 | ret=>exact h _ _ _ h5
def agb {Q : AQ} {n : Nat} {ji : Nat -> List Nat} {gs : List cH} {e : Env} {σ : ae} (hlen : gs.length = n) (hz : ∀ z, n <= z -> ji z = []) (hok : Fl n ji gs = true) (hw : eU P (j6 (u4 n ji gs) Q) gs e σ) :
    GX P (j6 (u4 n ji gs) Q) (fun i=>gs.getD i oN) ji n (List.range n) e σ:=by
 simp only[Fl,aV,cV,aj,bU,decide_eq_true_eq,List.any_eq_true,List.contains_iff_mem]at hok
 have hlt:∀ i,∀ j ∈ ji i,j<i:=fun i j hj=>by
  by_cases hi:i<n
  ·exact(hok i hi).1.1 j hj
  ·rw[hz i (Nat.le_of_not_lt hi)]at hj;cases hj
 refine Rk (cl:=fun k=>(xe ji n).getD k []) (N:=n) hlt (fun k j hj=>?_) _ _ e σ (by simp) (fun z hz' i hi=>?_) (fun i hi=>by simpa using hi) ?_ ?_
 ·by_cases hk:k<n
  ·exact(hok k hk).1.2 j hj
  ·have : (xe ji n).getD k [] = [] := by
    have:=LS ji n;rw[ai,gw (by omega)];rfl
   rw[this]at hj;cases hj
 ·have:ji z=[]:=hz z (by simpa using hz');rw[this]at hi;cases hi
 ·refine List.pairwise_iff_getElem.2 fun i j hi hj hij=>?_;simp only[List.getElem_range];simp at hi hj;refine⟨hij,?_⟩;by_cases lJ:i ∈ (xe ji n).getD j []
  ·exact .inl lJ
  ·refine .inr ?_;rcases(hok j hj).2 i hij with h1|⟨h1,h2⟩
   ·exact absurd h1 lJ
   ·refine⟨⟨h1,fun hpc=>?_⟩,fun x y hxy=>⟨?_,fun m LQ LR hm3=>?_⟩⟩
    ·have ha:(gs.any fun g=>g.op.GU)=true:=List.any_eq_true.2 ⟨_,(by show gs.getD j oN ∈ gs;rw[ai,aF (by omega)];exact dD _),hpc⟩;unfold Fk u4;rw[if_pos ha];simp[W8]
    ·refine cW _ (List.mem_flatMap.2 ⟨j,by simpa using hj,List.mem_filterMap.2 ⟨i,by simpa using hij,?_⟩⟩);rw[if_neg (by simpa[List.contains_iff_mem]using lJ)];exact hxy
    ·simp only[hxy,aV,cV,aj,bU,decide_eq_true_eq]at h2;rcases h2 m LR with(h3|h3)|h3
     ·omega
     ·rcases hm3 with h4|h4
      ·exact absurd h4 h3.1
      ·exact absurd (List.contains_iff_mem.1 h3.2) h4
     ·exact h3
 ·have : (List.range n).map (fun i => gs.getD i oN) = gs := by
   apply List.ext_getElem
   ·simp[hlen]
   ·intro i h1 h2;simp[ai,h2]
  rw[this];exact hw
def OL {Q : AQ} {ops ops' : Nat -> cH} {ji aeh : Nat -> List Nat} {N : Nat} {f : Nat -> Nat} (hinj : ∀ i, i < N -> ∀ j, j < N -> f i = f j -> i = j) (J_ : ∀ i, i < N -> ops' i = ops (f i)) (J9 : ∀ i, i < N -> ∀ j, j < N -> (j ∈ aeh i ↔ f j ∈ ji (f i))) :
    ∀(n:Nat) (l l':List Nat) (e:Env) (σ : ae),l.Nodup->l'.Nodup->(∀ i ∈ l,i<N)->(∀ x,x ∈ l'↔ ∃ i,i ∈ l/\f i=x)->GX P Q ops' aeh n l e σ->GX P Q ops ji n l' e σ
 | 0, l, l', e, σ, _, _, _, hl, h => by
   obtain⟨h1,h2⟩:=h;subst h1;refine⟨?_,h2⟩;cases l' with
   | nil=>rfl
   | cons x _=>obtain⟨i,hi,_⟩:=(hl x).1 (by simp);cases hi
 | n + 1, l, l', e, σ, hd, hd', hN, hl, h => by
   obtain⟨h1,h2⟩:=h;refine⟨fun hx=>h1 fun i hi=>?_,fun x hx hr=>?_⟩
   ·obtain⟨y,hy1,SM⟩:=hx (f i) ((hl _).2 ⟨i,hi,rfl⟩);obtain⟨j,hj,rfl⟩:=(hl y).1 SM;exact⟨j,(J9 i (hN i hi) j (hN j hj)).2 hy1,hj⟩
   ·obtain⟨i,hi,rfl⟩:=(hl x).1 hx;have h3:=h2 i hi fun j hj rD=>hr (f j) ((J9 i (hN i hi) j (hN j rD)).1 hj) ((hl _).2 ⟨j,rD,rfl⟩);rw[J_ i (hN i hi)]at h3;refine GQ (fun e σ h4=>?_) h3;refine OL hinj J_ J9 n (l.erase i) (l'.erase (f i)) e σ (hd.erase i) (hd'.erase _) (fun k hk=>hN k (List.mem_of_mem_erase hk)) (fun z=>?_) h4;rw[hd'.mem_erase_iff,hl z];constructor
    ·rintro⟨hz,k,hk,rfl⟩;exact⟨k,hd.mem_erase_iff.2 ⟨fun OI=>hz (by rw[OI]),hk⟩,rfl⟩
    ·rintro⟨k,hk,rfl⟩;obtain⟨OI,hk⟩:=hd.mem_erase_iff.1 hk;exact⟨fun hf=>OI (hinj k (hN k hk) i (hN i hi) hf),k,hk,rfl⟩
def UG {X : List Deferred} {ro : Option Nat} {wn : Nat} {nt : Nat} {h : Hints} {ops : Array Oper} {B : Nat -> Prop} {Q : AQ} {gs : List cH} {p : List Nat} {id : Nat} {g : aE} {w : World} {σ : ae} {e : Env} {a : Act} (hc : lA P nt h true ops ops.toList = some gs)
    (hlt:ZR ops.size (lV ops)=true) (hp:OJ ops.size p=true) (hok:Fl ops.size (Dv (lV ops) p) (tR gs p)=true) (hm:P.follows .mixedOrders=true) (hw:eU P (j6 (u4 ops.size (Dv (lV ops) p) (tR gs p)) Q) (tR gs p) e σ) (hR:Rel g w σ) (hE:fN nt g w e a.tmps) (hd:jq X B σ g w a.defers):(Code.region id ops true).wpIn (WF ro) wn P (QR X nt B g w σ Q) a w:=by
 have De:∀ i,∀ j ∈ lV ops i,j<i:=fun i j hj=>by
  by_cases hi:i<ops.size
  ·simp only[ZR,aV,cV,decide_eq_true_eq]at hlt;exact hlt i hi j hj
  ·have:lV ops i=[]:=by simp[lV,Array.getElem?_eq_none (fF hi)]
   rw[this]at hj;cases hj
 simp only[OJ,aj,decide_eq_true_eq,aV]at hp;obtain⟨⟨⟨Dt,LP⟩,OM⟩,hp4⟩:=hp;refine wpIn_mono (wpIn_region_any hm ?_) fun ex a' w'=>QR.mono (Q:=j6 (u4 ops.size (Dv (lV ops) p) (tR gs p)) Q) fun _ _ _=>ZN;have kY:=hR.drew (w.drawn+1);have eH:=e7.drew σ g w (w.drawn+1);refine Xg hc De ops.size (List.range ops.size) _ g _ σ e a (by simp) List.nodup_range (fun i=>by simp;intro h;simp[h]) ?_ kY (hE.mono eH.mono) (hd.step eH) eH;have key:=agb (P:=P) (Q:=Q) (n:=ops.size) (ji:=Dv (lV ops) p) (gs:=tR gs p) (e:=e) (σ:=σ) (by simp[tR,Dt]) (fun z hz=>by simp[Dv,gw (show p.length<=z by omega)]) hok hw;have hge:∀ i (hi:i<ops.size),p[i]? = some (p.getD i 0):=fun i hi=>by rw[ai,aF (by omega)];rfl
 have hinj:∀ i,i<ops.size-> ∀ j,j<ops.size->p.getD i 0=p.getD j 0->i=j:=fun i hi j hj hij=>by
  have e1:=hge i hi;have e2:=hge j hj;rw[hij]at e1;exact(List.getElem?_inj (by omega) LP).1 (e1.trans e2.symm)
 have hidx:∀ j,j<ops.size->p.idxOf (p.getD j 0)=j:=fun j hj=>by
  rw[ai,aF (by omega)];exact LP.idxOf_getElem j (by omega)
 have aei:∀ x,x<ops.size->x ∈ p:=fun x hx=>List.contains_iff_mem.1 (hp4 x (by simpa using hx));refine OL (N:=ops.size) (f:=fun i=>p.getD i 0) hinj (fun i hi=>?_) (fun i hi j hj=>?_) _ _ _ e σ List.nodup_range List.nodup_range (fun i hi=>by simpa using hi) (fun x=>?_) key
 ·simp only[tR,ai,g_];rw[hge i hi];rfl
 ·simp only[Dv];rw[hge i hi];simp only[dW];constructor
  ·rintro⟨k,hk,rfl⟩
   have hkp:k ∈ p:=by
    have:=De _ k hk;have h5:p.getD i 0<ops.size:=OM _ (List.mem_of_getElem? (hge i hi));exact aei k (by omega)
   have:p.getD (p.idxOf k) 0=k:=by
    rw[ai,aF (List.idxOf_lt_length_iff.2 hkp)];exact List.getElem_idxOf _
   rw[this];exact hk
  ·intro hk;exact⟨_,hk,hidx j hj⟩
 ·constructor
  ·intro hx;have hx:=aei x (by simpa using hx);obtain⟨i,hi,rfl⟩:=bP hx;exact⟨i,by simp;omega,by rw[ai,aF hi];rfl⟩
  ·rintro⟨i,hi,rfl⟩;simp only[cV]at hi ⊢;exact OM _ (List.mem_of_getElem? (hge i hi))
end
