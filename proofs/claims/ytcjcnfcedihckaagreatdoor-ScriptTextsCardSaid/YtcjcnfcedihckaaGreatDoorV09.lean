/- Part. -/
import Derived.Test.YtcjcnfcedihckaaGreatDoorV08
set_option linter.all false
namespace Go.AM
def b_.uses(g:b_): List Nat:=g.op.uses++(match g.guard with|some (k,_)=>[k]|none=>[])
def gH(P:Program)(Q:AQ)(g:b_)(K:Env->ae->Prop)(e:Env)(σ : ae): Prop :=
 match g.guard with
 | none=>g.op.run P e σ (fun v σ'=>K (eC e g.dst v) σ') (fun v σ'=>Q (.panic v) e σ')
 | some (k, b) => match e k with
   | .bool t => (t = b -> g.op.run P (eC e (some k) (.bool b)) σ (fun v σ' => K (eC (eC e (some k) (.bool b)) g.dst v) σ') (fun v σ' => Q (.panic v) (eC e (some k) (.bool b)) σ')) /\
      (t = !b->K (eC (eC e (some k) (.bool (!b))) g.dst (.bJ [])) σ)
   | .bJ []=>K (eC e g.dst (.bJ [])) σ
   | _=>False
def mj{e:Env}{k:Nat}{v:AV}(h:e k=v): eC e (some k) v=e:=by
 funext n;simp only[eC];split
 ·rename_i h1;subst h1;exact h.symm
 ·rfl
section
variable {P:Program} {Q:AQ}
def oW(g:b_)(r:List b_)(e:Env)(σ : ae): eD P Q (g::r) e σ = gH P Q g (eD P Q r) e σ:=by
 obtain⟨o,d,gd⟩:=g;cases gd with
 | none=>rfl
 | some kb=>obtain⟨k,b⟩:=kb;rfl
def b_.D(P:Program)(g:b_)(e:Env)(σ : ae)(v:AV)(σ':ae): Prop :=
 match g.guard with
 | none=>g.op.D P e σ v σ'
 | some (k, b) => match e k with
   | .bool t=>if t=b then g.op.D P e σ v σ' else v = .bJ []/\σ' = σ
   | .bJ []=>v = .bJ []/\σ' = σ
   | _=>False
def jK{g:b_}{e:Env}{σ : ae}{v:AV}{σ':ae}(h:g.D P e σ v σ'): (g.op.D P e σ v σ'/\ ∀ s u s',g.op.D P e s u s'->g.D P e s u s')\/(v = .bJ []/\σ' = σ/\ ∀ s,g.D P e s (.bJ []) s):=by
 unfold b_.D at *;split at h
 ·exact .inl ⟨h,fun _ _ _ h=>h⟩
 ·split at h
  ·split at h
   ·rename_i h1 h2;simp only[if_pos h2];exact .inl ⟨h,fun _ _ _ h=>h⟩
   ·rename_i h1 h2;simp only[if_neg h2];exact .inr ⟨h.1,h.2,fun _=>⟨trivial,trivial⟩⟩
  ·exact .inr ⟨h.1,h.2,fun _=>⟨rfl,rfl⟩⟩
  ·exact h.elim
def jc{g:b_}{K:Env->ae->Prop}{e:Env}{σ : ae}(hc:g.op.cls≠ .no): gH P Q g K e σ↔ ∃ v σ',g.D P e σ v σ'/\K (eC e g.dst v) σ':=by
 unfold gH b_.D;split
 ·exact CQ hc
 ·rename_i k b hg;split
  ·rename_i t ht;by_cases htb:t=b
   ·subst htb;rw[mj ht];simp only[↓reduceIte];constructor
    ·exact fun h=>(CQ hc).1 (h.1 trivial)
    ·exact fun h=>⟨fun _=>(CQ hc).2 h,fun h=>by cases t<;>cases h⟩
   ·have hn:t = !b:=by cases t<;>cases b<;>simp_all
    have hs:eC e (some k) (.bool (!b))=e:=mj (by rw[ht,hn]);simp only[if_neg htb,hs];constructor
    ·exact fun h=>⟨_,σ,⟨rfl,rfl⟩,h.2 hn⟩
    ·rintro⟨v,τ,⟨rfl,rfl⟩,h⟩;exact⟨fun h'=>absurd h' htb,fun _=>h⟩
  ·constructor
   ·exact fun h=>⟨_,σ,⟨rfl,rfl⟩,h⟩
   ·rintro⟨v,τ,⟨rfl,rfl⟩,h⟩;exact h
  ·constructor
   ·exact fun h=>h.elim
   ·exact fun⟨_,_,h,_⟩=>h.elim
def Ec{g:b_}{K K':Env->ae->Prop}{e:Env}{σ : ae}(h:∀ e σ,K e σ->K' e σ): gH P Q g K e σ->gH P Q g K' e σ:=by
 unfold gH;split
 ·exact qp (fun v s=>h _ _) (fun _ _ h=>h)
 ·split
  ·exact fun hh=>⟨fun ht=>qp (fun v s=>h _ _) (fun _ _ h=>h) (hh.1 ht),fun ht=>h _ _ (hh.2 ht)⟩
  ·exact h _ _
  ·exact id
def Ed{g:b_}{e e':Env}{σ : ae}{v:AV}{σ':ae}(h:∀ t ∈ g.uses,e t=e' t)(hD:g.D P e σ v σ'): g.D P e' σ v σ':=by
 have ho:∀ t ∈ g.op.uses,e t=e' t:=fun t ht=>h t (e7 _ ht);unfold b_.D at *;split at hD
 ·rename_i hg;exact Pu ho hD
 ·rename_i k b hg;have hk:e k=e' k:=h k (by simp[b_.uses,hg]);rw[<-hk];split at hD
  ·split at hD
   ·rename_i h1 h2;simp only[h1,if_pos h2];exact Pu ho hD
   ·rename_i h1 h2;simp only[h1,if_neg h2];exact hD
  ·simp_all
  ·exact hD.elim
def oX{g:b_}{e:Env}{σ : ae}{v:AV}{σ':ae}(hc:g.op.cls = .pu\/g.op.cls = .rd)(hD:g.D P e σ v σ'): σ' = σ:=by
 rcases jK hD with⟨h,_⟩|⟨_,h,_⟩
 ·exact YK hc h
 ·exact h
def PG{g:b_}{e:Env}{σ : ae}{v:AV}{σ':ae}(hc:g.op.cls = .pu\/g.op.cls = .rd)(hD:g.D P e σ v σ')(τ : ae): g.D P e (σ++ τ) v (σ++ τ):=by
 rcases jK hD with⟨h,f⟩|⟨rfl,_,f⟩
 ·exact f _ _ _ (YL hc h τ)
 ·exact f _
def PJ{g:b_}{e:Env}{σ : ae}{v:AV}{σ':ae}(hc:g.op.cls = .pu)(hD:g.D P e σ v σ')(s:ae): g.D P e s v s:=by
 rcases jK hD with⟨h,f⟩|⟨rfl,_,f⟩
 ·exact f _ _ _ (YM hc h s)
 ·exact f _
def aa5{g:b_}{e:Env}{σ : ae}{v:AV}{σ':ae}(hc:g.op.cls = .al)(hD:g.D P e σ v σ'): ∃ τ,σ' = σ++ τ:=by
 rcases jK hD with⟨h,_⟩|⟨_,h,_⟩
 ·exact acy hc h
 ·exact⟨[],by simp[h]⟩
def YY {g : b_} {e : Env} {σ : ae} {v : AV} {σ' : ae} {l : Nat} {ob lI : bx} {rx : Option AX} (hr : g.op.oV = some rx) (hl : σ[l]? = some ob) (FN : ob.like lI) (hap : ∀ x, rx = some x -> (x.ev e).obj ≠ some l) (hD : g.D P e σ v σ') :
    g.D P e (σ.set l lI) v (σ.set l lI):=by
 rcases jK hD with⟨h,f⟩|⟨rfl,_,f⟩
 ·exact f _ _ _ (aaY hr hl FN hap h)
 ·exact f _
def aa6{g:b_}{e:Env}{σ : ae}{v:AV}{σ':ae}(hc:g.op.cls = .st)(hD:g.D P e σ v σ'): σ' = σ\/ ∃ y l ob lI,g.op.qt=some y/\σ[l]? = some ob/\ob.like lI/\(y.ev e).obj=some l/\σ' = σ.set l lI:=by
 rcases jK hD with⟨h,_⟩|⟨_,h,_⟩
 ·exact .inr (YN hc h)
 ·exact .inl h
def iV(d:Option Nat)(l:List Nat): Bool:=match d with
 | some d=> !l.contains d
 | none=>true
def wG(ag:Bool)(n t:Nat): List (Bool × Nat)->List AX->Bool
 |(YZ,n')::r,.t t'::xs=>(ag==YZ && n==n' && t==t') || wG ag n t r xs
 | _::r,_::xs=>wG ag n t r xs
 | _,_=>false
def L3: br->br->Bool
 | .load ag n (.t t),.ex (.cw _ k AO) az=>wG ag n t AO (az.drop k)
 | _,_=>false
def LB(j k:br): Bool :=
 match j.cls,k.cls with
 | .no,_|_,.no=>false
 | .pu,_|_,.pu=>true
 | .rd,.rd | .rd,.al=>true
 | .rd,.st=>j.oV.isSome
 | .st, .st => match j.LA, k.LA with
   | some a,some b=>a != b
   | _,_=>false
 | .st,.rd=>j.qt.isSome && k.nM.isSome
 | .rd, .ap => match j.oV with
   | some (some _)=>true
   | _=>false
 | .rd,.cw=>L3 j k
 | _,_=>false
def br.Ee: br->Bool
 | .ex (.pc _) _=>true
 | _=>false
def Q9(j k:br): Bool:=k.Ee && decide (j.cls≠ .no)
def FZ(j k:b_): Bool :=
 (LB j.op k.op || Q9 j.op k.op) && iV j.dst k.uses && iV k.dst j.uses && iV j.dst k.dst.toList
def needs(j k:b_): Option (AX × AX):=match j.op.oV,k.op.qt with
 | some (some x),some y=>some (x,y)
 | _, _ => match j.op.qt, k.op.nM with
   | some y,some x=>some (x,y)
   | _,_=>none
def Q_{o:br}{x:AX}(h:o.nM=some x): o.qt=none:=by
 cases o<;>simp[br.nM]at h<;>rfl
def iq{e:Env}{d:Option Nat}{l:List Nat}{v:AV}(h:iV d l=true): ∀ t ∈ l,eC e d v t=e t:=by
 intro t ht;cases d with
 | none=>rfl
 | some d =>
   simp only[iV,bW,List.contains_eq_mem,decide_eq_false_iff_not]at h;simp only[eC];rw[if_neg (by rintro rfl;exact h ht)]
def Ef{e:Env}{j k:Option Nat}{v u:AV}(h:iV j k.toList=true): eC (eC e j v) k u=eC (eC e k u) j v:=by
 funext t
 cases j with
 | none=>rfl
 | some j =>
   cases k with
   | none=>rfl
   | some k =>
     simp[iV]at h;simp only[eC];by_cases h1:t=k
     ·subst h1;simp[Ne.symm h]
     ·simp[h1]
def Vk{j k:br}(h:LB j k=true): j.cls≠ .no/\k.cls≠ .no:=by
 unfold LB at h;split at h<;>simp_all
def F0{el:El}{x:AV}{off:Nat}{ag:Bool}{n:Nat}{K K':AV->Prop}(h1:partOf el x off ag n K)(h2:partOf el x off ag n K'): ∃ v,K v/\K' v:=by
 unfold partOf at h1 h2;by_cases h:off=0/\n=el.sz/\ag=el.ag
 ·rw[if_pos h]at h1 h2;exact⟨_,h1,h2⟩
 ·rw[if_neg h]at h1 h2;obtain⟨_,h1⟩:=h1;obtain⟨_,h2⟩:=h2;cases x<;>first|exact h1.elim|exact⟨_,h1.1,h2.1⟩
def S0{σ : ae}{ag:Bool}{n:Nat}{p:AV}{K K':AV->Prop}(h1:ia σ ag n p K)(h2:ia σ ag n p K'): ∃ v,K v/\K' v:=by
 unfold ia at h1 h2;cases p<;>(try exact h1.elim)
 case ref l off =>
  dsimp only at h1 h2;split at h1
  ·rename_i h;rw[h]at h2;exact⟨_,h1.2.2,h2.2.2⟩
  ·exact h1.elim
 case eA el x off=>exact F0 h1 h2
 case eG el l m i off =>
  dsimp only at h1 h2;split at h1
  ·rename_i h;rw[h]at h2;exact F0 h1.2.2.2 h2.2.2.2
  ·exact h1.elim
def Bd{σ σ2:ae}{e:Env}{ag:Bool}{n t:Nat}: ∀(AO:List (Bool × Nat)) (xs:List AX),wG ag n t AO xs=true->FI σ σ2 AO (xs.map (AX.ev e))-> ∃ v,ia σ ag n (e t) (fun u=>u=v)/\ia σ2 ag n (e t) (fun u=>u=v)
 | [],xs,h,_=>by cases xs<;>simp[wG]at h
 |(YZ,n')::r,[],h,_=>by simp[wG]at h
 | (YZ, n') :: r, x :: xs, h, hk => by
   obtain⟨h1,h2⟩:=hk;cases x with
   | c a=>exact Bd r xs (by simpa[wG]using h) h2
   | t t' =>
     simp only[wG,cz,aD,beq_iff_eq]at h;rcases h with⟨⟨rfl,rfl⟩,rfl⟩|h
     ·exact h1
     ·exact Bd r xs h h2
def acK{j k:br}{e:Env}{σ σ2:ae}{vj vk:AV}(h:L3 j k=true)(dj:j.D P e σ vj σ)(dk:k.D P e σ vk σ2): j.D P e σ2 vj σ2:=by
 unfold L3 at h;split at h
 ·rename_i ag n t f k AO az;obtain⟨hj,_⟩:=(show(∀ τ,(br.load ag n (.t t)).run P e (σ++ τ) (Is vj (σ++ τ)) No)/\σ = σ from dj)
  replace dk:(fI.cw f k AO).run P (az.map (AX.ev e)) σ (Is vk σ2) No:=dk
  obtain⟨s2,hk,rfl⟩:∃ s2,FI σ s2 AO ((az.map (AX.ev e)).drop k)/\s2 = σ2:=by
   cases az with
   | nil=>exact dk.elim
   | cons x xs=>obtain⟨r,s2,_,hk,_,e2⟩:=dk;exact⟨s2,hk,e2⟩
  rw[<-List.map_drop]at hk;obtain⟨v,h1,h2⟩:=Bd _ _ h hk
  have h3:ia σ ag n (e t) (fun u=>u=vj):=by
   have:ia (σ++[]) ag n (e t) (fun u=>Is vj (σ++[]) u (σ++[])):=hj [];rw[List.append_nil]at this;exact kJ (fun v h=>h.1) this
  obtain⟨u,rfl,rfl⟩:=S0 h1 h3;obtain⟨u',h4,rfl⟩:=sw h2
  exact(show(∀ τ,(br.load ag n (.t t)).run P e (s2++ τ) (Is u' (s2++ τ)) No)/\s2=s2 from
   ⟨fun τ=>(show ia (s2++ τ) ag n (e t) (fun u=>Is u' (s2++ τ) u (s2++ τ)) from kJ (fun v h=>⟨h,rfl⟩) (h4 τ)),rfl⟩)
 ·cases h
def b_.WN(P:Program)(g:b_)(n:FuncId)(az:List AX)(e:Env): Option Out->Prop
 | none => match g.guard with
   | none=>False
   | some (k, b) => match e k with
     | .bool t=>t = !b
     | .bJ []=>True
     | _=>False
 | some o => (∀ s, dK P n (az.map (AX.ev e)) s fun o' s' => o' = o /\ s' = s) /\ match g.guard with
   | none=>True
   | some (k,b)=>e k = .bool b
def pcE(P:Program)(Q:AQ)(d:Option Nat)(K:Env->ae->Prop)(e:Env)(σ : ae): Option Out->Prop
 | none=>K (eC e d (.bJ [])) σ
 | some (.ret r)=>K (eC e d r) σ
 | some (.panic v)=> ∀ s,Q (.panic v) e s
def S3{g:b_}{n:FuncId}{az:List AX}{K:Env->ae->Prop}{e:Env}{σ : ae}(hg:g.op = .ex (.pc n) az): gH P Q g K e σ↔ ∃ o,g.WN P n az e o/\pcE P Q g.dst K e σ o:=by
 have key:∀ {K1:AV->ae->Prop} {K2:AV->ae->Prop},g.op.run P e σ K1 K2↔ ∃ o,(∀ s,dK P n (az.map (AX.ev e)) s fun o' s'=>o'=o/\s'=s)/\YI (fun r=>K1 r σ) (fun v=> ∀ s,K2 v s) o:=by
  intro K1 K2;rw[hg];exact Iff.rfl
 unfold gH b_.WN;cases hgd:g.guard with
 | none =>
   simp only;rw[key];constructor
   ·rintro⟨o,h1,h2⟩;exact⟨some o,⟨h1,trivial⟩,by cases o<;>exact h2⟩
   ·rintro⟨o,h1,h2⟩;cases o with
    | none=>exact h1.elim
    | some o=>exact⟨o,h1.1,by cases o<;>exact h2⟩
 | some kb =>
   obtain⟨k,b⟩:=kb;simp only;split
   ·rename_i t ht;constructor
    ·rintro⟨h1,h2⟩;by_cases htb:t=b
     ·have h1:=h1 htb;subst htb;rw[mj ht,key]at h1;obtain⟨o,h3,h4⟩:=h1;exact⟨some o,⟨h3,by rw[ht]⟩,by cases o<;>exact h4⟩
     ·have hn:t = !b:=by cases t<;>cases b<;>simp_all
      have h2:=h2 hn;rw[mj (by rw[ht,hn])]at h2;exact⟨none,by rw[ht];exact hn,h2⟩
    ·rintro⟨o,h1,h2⟩;cases o with
     | none =>
       rw[ht]at h1;have h1:t = !b:=h1;refine⟨fun h=>absurd h (by rw[h1];cases b<;>decide),fun _=>?_⟩;rw[mj (by rw[ht,h1])];exact h2
     | some o =>
       obtain⟨h3,h4⟩:=h1;have h4:e k = .bool b:=h4;have htb:t=b:=AV.bool.inj (ht.symm.trans h4);refine⟨fun _=>?_,fun h=>absurd h (by rw[htb];cases b<;>decide)⟩;rw[mj h4,key];exact⟨o,h3,by cases o<;>exact h2⟩
   ·rename_i ht;constructor
    ·intro h;exact⟨none,by rw[ht];trivial,h⟩
    ·rintro⟨o,h1,h2⟩;cases o with
     | none=>exact h2
     | some o=>exact absurd (ht.symm.trans h1.2) (by simp)
   ·rename_i h3 h4;constructor
    ·exact fun h=>h.elim
    ·rintro⟨o,h1,h2⟩;cases o with
     | none =>
       exact False.elim h1
     | some o=>exact(h3 _ h1.2).elim
def XA {j k : b_} {K : Env -> ae -> Prop} {e : Env} {σ : ae} (mo : Q9 j.op k.op = true) (s1 : iV j.dst k.uses = true) (s2 : iV k.dst j.uses = true) (s3 : iV j.dst k.dst.toList = true)
    (hQ:∀ v e e' σ,Q (.panic v) e σ->Q (.panic v) e' σ) (hh:gH P Q j (gH P Q k K) e σ):gH P Q k (gH P Q j K) e σ:=by
 simp only[Q9,aD,decide_eq_true_eq]at mo;obtain⟨hk,hj⟩:=mo
 obtain⟨n,az,hg⟩:∃ n az,k.op = .ex (.pc n) az:=by
  revert hk;cases k.op<;>simp[br.Ee];rename_i o xs;cases o<;>simp[br.Ee]
 obtain⟨vj,PK,dj,hh⟩:=(jc hj).1 hh;obtain⟨o,h1,h2⟩:=(S3 hg).1 hh;have hu:∀ t ∈ k.uses,eC e j.dst vj t=e t:=iq s1
 have hz:az.map (AX.ev (eC e j.dst vj))=az.map (AX.ev e):=by
  exact AX.mT fun t ht=>hu t (by simp only[b_.uses,hg];exact e7 _ ht)
 have hR:k.WN P n az e o:=by
  have S4:∀ m b,k.guard=some (m,b)->eC e j.dst vj m=e m:=fun m b h=>hu m (by simp[b_.uses,h]);unfold b_.WN at h1 ⊢;cases o with
  | none =>
    cases hgd:k.guard with
    | none=>rw[hgd]at h1;exact h1.elim
    | some kb=>obtain⟨m,b⟩:=kb;rw[hgd]at h1;simp only[S4 m b hgd]at h1;exact h1
  | some o =>
    rw[hz]at h1;refine⟨h1.1,?_⟩;cases hgd:k.guard with
    | none=>trivial
    | some kb=>obtain⟨m,b⟩:=kb;have:=h1.2;rw[hgd]at this;simp only[S4 m b hgd]at this;exact this
 have tr:∀ v,j.D P (eC e k.dst v) σ vj PK:=fun v=>Ed (fun t ht=>(iq s2 t ht).symm) dj;refine(S3 hg).2 ⟨o,hR,?_⟩;cases o with
 | none=>exact(jc hj).2 ⟨vj,PK,tr _,by rw[<-Ef s3];exact h2⟩
 | some o =>
   cases o with
   | ret r=>exact(jc hj).2 ⟨vj,PK,tr _,by rw[<-Ef s3];exact h2⟩
   | panic v=>exact fun s=>hQ _ _ _ _ (h2 s)
def swap {j k : b_} {K : Env -> ae -> Prop} {e : Env} {σ : ae} (h : FZ j k = true) (hQ : k.op.Ee = true -> ∀ v e e' σ, Q (.panic v) e σ -> Q (.panic v) e' σ) (hap : ∀ x y, needs j k = some (x, y) -> (iV j.dst (x.uses ++ y.uses) = true /\ iV k.dst (x.uses ++ y.uses) = true) /\ ∀ e σ, K e σ -> pP (x.ev e) (y.ev e))
    (hh:gH P Q j (gH P Q k K) e σ):gH P Q k (gH P Q j K) e σ:=by
 simp only[FZ,aD]at h;obtain⟨⟨⟨mo,s1⟩,s2⟩,s3⟩:=h;rcases Bool.or_eq_true _ _ ▸ mo with mo|mo
 case inr=>exact XA mo s1 s2 s3 (hQ (by simp only[Q9,aD]at mo;exact mo.1)) hh
 obtain⟨hj,hk⟩:=Vk mo;obtain⟨vj,PK,dj,hh⟩:=(jc hj).1 hh;obtain⟨vk,WO,dk,hK⟩:=(jc hk).1 hh;have xQ:k.D P e PK vk WO:=Ed (iq s1) dk;have tr:∀ {s s'},j.D P e s vj s'->j.D P (eC e k.dst vk) s vj s':=fun h=>Ed (fun t ht=>(iq s2 t ht).symm) h;have Pz:=hK;rw[Ef s3]at hK
 have kpu:k.op.cls = .pu->gH P Q k (gH P Q j K) e σ:=fun hc=>by
  have:=oX (.inl hc) xQ;subst this;exact(jc hk).2 ⟨vk,σ,PJ hc xQ σ,(jc hj).2 ⟨vj,_,tr dj,hK⟩⟩
 have Be:PK = σ->j.D P e WO vj WO->gH P Q k (gH P Q j K) e σ:=fun h1 h2=>by
  subst h1;exact(jc hk).2 ⟨vk,WO,xQ,(jc hj).2 ⟨vj,_,tr h2,hK⟩⟩
 unfold LB at mo;split at mo<;>(try (cases mo;done))
 ·rename_i hc _;exact Be (oX (.inl hc) dj) (PJ hc dj _)
 ·rename_i hc _ _;exact kpu hc
 ·rename_i hc hc2;have h1:=oX (.inr hc) dj;have h2:=oX (.inr hc2) xQ;subst h1;subst h2;exact Be rfl dj
 ·rename_i hc hc2;have h1:=oX (.inr hc) dj;subst h1;obtain⟨τ,rfl⟩:=aa5 hc2 xQ;exact Be rfl (PG (.inr hc) dj τ)
 ·rename_i hc hc2;have h1:=oX (.inr hc) dj;subst h1;rcases aa6 hc2 xQ with rfl|⟨y,l,ob,lI,hy,hl,FN,L4,rfl⟩
  ·exact Be rfl dj
  ·obtain⟨rx,F1⟩:=eM.1 mo;refine Be rfl (YY F1 hl FN (fun x hx=>?_) dj);subst hx;have hn:needs j k=some (x,y):=by simp[needs,F1,hy]
   obtain⟨⟨a1,a2⟩,a3⟩:=hap x y hn;have ha:=a3 _ _ Pz
   have ex:∀ t ∈ x.uses++y.uses,eC (eC e j.dst vj) k.dst vk t=e t:=fun t ht=>by
    rw[iq a2 t ht,iq a1 t ht]
   rw[AX.ep (x:=x) (fun t ht=>ex t (e7 _ ht)),AX.ep (x:=y) (fun t ht=>ex t (List.mem_append_right _ ht))]at ha;exact fun h1=>ha l h1 L4
 ·
  split at mo
  ·rename_i a b ra rb;rcases jK dj with⟨Y0,dj2⟩|⟨rfl,rfl,z8⟩
   ·rcases jK xQ with⟨S5,dk2⟩|⟨rfl,rfl,i_⟩
    ·obtain⟨n,o1,n1,n2,n3,rfl,n4⟩:=WC ra Y0;obtain⟨m,o2,m1,m2,m3,rfl,m4⟩:=WC rb S5
     have hnm:n≠m:=by
      rintro rfl;rw[List.getElem?_set_self (aP.1 n2).1]at m2;exact n3 (Option.some.inj m2)
     rw[List.getElem?_set_ne hnm]at m2;refine(jc hk).2 ⟨_,_,dk2 _ _ _ (m4 σ m2),(jc hj).2 ⟨_,_,tr (dj2 _ _ _ (n4 _ (by rw[List.getElem?_set_ne (Ne.symm hnm)];exact n2))),?_⟩⟩;rw[List.set_comm _ _ (Ne.symm hnm)];exact hK
    ·exact(jc hk).2 ⟨_,_,i_ σ,(jc hj).2 ⟨_,_,tr dj,hK⟩⟩
   ·exact(jc hk).2 ⟨_,_,xQ,(jc hj).2 ⟨_,_,tr (z8 _),hK⟩⟩
  ·cases mo
 ·
  rename_i hc _;simp only[aD,eM]at mo;obtain⟨⟨y,ry⟩,x,rx⟩:=mo;have h2:=oX (.inr (FO rx)) xQ;subst h2;rcases jK dj with⟨Y0,_⟩|⟨rfl,rfl,_⟩
  ·obtain⟨y',l,ob,lI,hy,n2,_,aa7,rfl⟩:=YN hc Y0;obtain rfl:y=y':=by rw[ry]at hy;exact Option.some.inj hy
   have hn:needs j k=some (x,y):=by
    unfold needs;rw[Q_ rx,ry,rx];cases j.op.oV with
    | none=>rfl
    | some o=>cases o<;>rfl
   obtain⟨⟨a1,a2⟩,a3⟩:=hap x y hn;have ha:=a3 _ _ Pz
   have ex:∀ t ∈ x.uses++y.uses,eC (eC e j.dst vj) k.dst vk t=e t:=fun t ht=>by
    rw[iq a2 t ht,iq a1 t ht]
   rw[AX.ep (x:=x) (fun t ht=>ex t (e7 _ ht)),AX.ep (x:=y) (fun t ht=>ex t (List.mem_append_right _ ht))]at ha;have hlt:=(aP.1 n2).1;have L4:(x.ev e).obj≠some l:=fun h=>ha l h aa7
   have back:(σ.set l lI).set l ob = σ:=by
    rw[List.set_set];apply List.ext_getElem?;intro i;by_cases hi:i=l
    ·subst hi;rw[List.getElem?_set_self hlt];exact n2.symm
    ·rw[List.getElem?_set_ne (Ne.symm hi)]
   have dk':k.D P e σ vk σ:=by
    rcases jK xQ with⟨q1,q2⟩|⟨rfl,_,q⟩
    ·have:=Pw (ob:=ob) rx (by simpa using hlt) L4 q1;rw[back]at this;exact q2 _ _ _ this
    ·exact q σ
   exact(jc hk).2 ⟨vk,σ,dk',(jc hj).2 ⟨vj,_,tr dj,hK⟩⟩
  ·exact(jc hk).2 ⟨vk,_,xQ,(jc hj).2 ⟨_,_,tr dj,hK⟩⟩
 ·
  rename_i hc hc2;have h1:=oX (.inr hc) dj;subst h1;split at mo
  ·rename_i x F1
   have hro:j.op.nM=some x:=by
    revert F1;cases j.op<;>simp[br.oV,br.nM]
   rcases jK xQ with⟨S5,_⟩|⟨rfl,rfl,_⟩
   ·obtain⟨y,hy,⟨τ,rfl⟩|⟨l,ob,hlt,L4,rfl⟩⟩:=acz hc2 S5
    ·exact Be rfl (PG (.inr hc) dj τ)
    ·have hn:needs j k=some (x,y):=by simp[needs,F1,hy]
     obtain⟨⟨a1,a2⟩,a3⟩:=hap x y hn;have ha:=a3 _ _ Pz
     have ex:∀ t ∈ x.uses++y.uses,eC (eC e j.dst vj) k.dst vk t=e t:=fun t ht=>by
      rw[iq a2 t ht,iq a1 t ht]
     rw[AX.ep (x:=x) (fun t ht=>ex t (e7 _ ht)),AX.ep (x:=y) (fun t ht=>ex t (List.mem_append_right _ ht))]at ha;refine Be rfl ?_;rcases jK dj with⟨q1,q2⟩|⟨rfl,_,q⟩
     ·exact q2 _ _ _ (Pw hro hlt (fun h=>ha l h L4) q1)
     ·exact q _
   ·exact Be rfl dj
  ·cases mo
 ·
  rename_i hc _;have h1:=oX (.inr hc) dj;subst h1;rcases jK xQ with⟨S5,_⟩|⟨rfl,rfl,_⟩
  ·rcases jK dj with⟨q1,q2⟩|⟨rfl,_,q⟩
   ·exact Be rfl (q2 _ _ _ (acK mo q1 S5))
   ·exact Be rfl (q _)
  ·exact Be rfl dj
variable (P Q) in
def Eg(ops:Nat->b_)(iH:Nat->List Nat): Nat->List Nat->Env->ae->Prop
 | 0,l,e,σ=>l=[]/\Q .normal e σ
 | n+1,l,e,σ=>((∀ i ∈ l,∃ j ∈ iH i,j ∈ l)->Q .normal e σ)/\ ∀ i ∈ l,(∀ j ∈ iH i,j ∉ l)->gH P Q (ops i) (Eg ops iH n (l.erase i)) e σ
def fI.goes: fI->Bool
 | .inv _ | .pc _=>false
 | _=>true
def br.goes: br->Bool
 | .app ..=>true
 | .ex o _=>o.goes
 | o=>o.cls != .no
def L5{o:br}{e:Env}{σ : ae}{K Kp:AV->ae->Prop}(h:o.goes=true)(hh:o.run P e σ K Kp): ∃ v σ',K v σ':=by
 by_cases hn:o.cls≠ .no
 ·obtain⟨v,σ',_,h⟩:=(CQ hn).1 hh;exact⟨v,σ',h⟩
 ·by_cases hx:∃ o' xs,o = .ex o' xs
  ·obtain⟨o',xs,rfl⟩:=hx;obtain⟨v,σ',_,h1⟩:=fI.det (by replace h:o'.goes=true:=h;cases o'<;>first|(intro e;cases e;done)|(cases h;done)) (show o'.run P (xs.map (AX.ev e)) σ K Kp from hh);exact⟨v,σ',h1⟩
  cases o<;>(try (exact absurd ⟨_,_,rfl⟩ hx))<;>simp[br.goes]at h<;>(try (exact absurd h hn));rename_i T el x1 y1;simp only[br.run,pH]at hh;generalize AX.ev e _=y at hh
  have key:∀ (ys:List AV) (x:AV),(match x with
   | .ai=>if ys.length=0 then K .ai σ else gE ys.length el/\K (.own el σ.length ys.length 0 ys.length) (σ++[.cy T el ys])
   | .aF true bz xs=>bz=el/\if ys.length=0 then K (.aF true el xs) σ else gE (xs.length+ys.length) el/\K (.own el σ.length (xs.length+ys.length) 0 (xs.length+ys.length)) (σ++[.cy T el (xs++ys)])
   | .own bz l m lo n => bz = el /\ match σ[l]? with
     | some (.cy T' cK xs)=>(T'=none\/T'=T)/\cK=el/\m=xs.length/\lo=0/\n=xs.length/\gE (xs.length+ys.length) el/\K (.own el l (xs.length+ys.length) 0 (xs.length+ys.length)) (σ.set l (.cy T' el (xs++ys)))
     | _=>False
   | _=>False)-> ∃ v σ',K v σ':=fun ys x hx=>by
   split at hx
   ·split at hx
    ·exact⟨_,_,hx⟩
    ·exact⟨_,_,hx.2⟩
   ·replace hx:=hx.2
    split at hx
    ·exact⟨_,_,hx⟩
    ·exact⟨_,_,hx.2⟩
   ·replace hx:=hx.2
    split at hx
    ·exact⟨_,_,hx.2.2.2.2.2.2⟩
    ·exact hx.elim
   ·exact hx.elim
  unfold fZ at hh;split at hh
  ·exact key _ _ hh.2
  ·exact key _ _ hh.2.2
  ·replace hh:=hh.2
   split at hh
   ·exact key _ _ hh.2.2.2
   ·exact hh.elim
  ·exact key _ _ hh.2.2
  ·obtain⟨u,_,h2⟩:=sw hh.2.2;exact key _ _ h2.2
  ·exact hh.elim
def Vl{g:b_}{K:Env->ae->Prop}{e:Env}{σ : ae}(hc:g.op.goes=true)(h:gH P Q g K e σ): ∃ v σ',K (eC e g.dst v) σ':=by
 unfold gH at h;split at h
 ·exact L5 hc h
 ·rename_i k b hg;split at h
  ·rename_i t ht;by_cases htb:t=b
   ·obtain⟨v,s,h⟩:=L5 hc (h.1 htb);rw[mj (by rw[ht,htb])]at h;exact⟨v,s,h⟩
   ·have hn:t = !b:=by cases t<;>cases b<;>simp_all
    have h:=h.2 hn;rw[mj (by rw[ht,hn])]at h;exact⟨_,_,h⟩
  ·exact⟨_,_,h⟩
  ·exact h.elim
def S6{C:Env->Prop}{us:List Nat}(hC:∀ e σ,Q .normal e σ->C e)(PL:∀ e e',(∀ t ∈ us,e' t=e t)->C e'->C e): ∀(l:List b_) (e:Env) (σ : ae),(∀ g ∈ l,g.op.goes=true/\iV g.dst us=true)->eD P Q l e σ->C e
 | [],e,σ,_,h=>hC e σ h
 | g :: l, e, σ, hl, h => by
   rw[oW]at h;obtain⟨h1,h2⟩:=hl g (by simp);obtain⟨v,σ',h⟩:=Vl h1 h;exact PL e _ (iq h2) (S6 hC PL l _ σ' (fun g hg=>hl g (by simp[hg])) h)
def L6{jo:List (AX × AX)}{e:Env}(h:og jo e){x y:AX}(hm:(x,y) ∈ jo): pP (x.ev e) (y.ev e):=by
 induction jo with
 | nil=>cases hm
 | cons p r ih =>
   obtain⟨a,b⟩:=p;rcases List.mem_cons.1 hm with h1|h1
   ·cases h1;exact h.1
   ·exact ih h.2 h1
def L7(ops:Nat->b_)(n:Nat)(jo:List (AX × AX))(ck:List Nat)(j k:Nat): Prop :=
 (FZ (ops j) (ops k)=true/\((ops k).op.Ee=true->CV jo=true))/\ ∀ x y,needs (ops j) (ops k)=some (x,y)->(x,y) ∈ jo/\ ∀ m,j<=m->m<n->(m=k\/m ∉ ck)->(ops m).op.goes=true/\iV (ops m).dst (x.uses++y.uses)=true
def S7 {ops : Nat -> b_} {n : Nat} {jo : List (AX × AX)} {k : Nat} {ck : List Nat} {l2 : List Nat} : ∀ (l1 : List Nat) (e : Env) (σ : ae), (∀ j ∈ l1, L7 ops n jo ck j k) -> (∀ m ∈ l1 ++ l2, m ∉ ck) -> (l1 ++ k :: l2).Pairwise (· < ·) -> (∀ i ∈ l1 ++ k :: l2, i < n) ->
    eD P (jC jo Q) ((l1++k::l2).map ops) e σ->eD P (jC jo Q) ((k::(l1++l2)).map ops) e σ
 | [],e,σ,_,_,_,_,h=>h
 | j :: l1, e, σ, hc, hnc, hs, hn, h => by
   rw[cF,aR,oW]at h;rw[aR,oW,cF,aR];have heq:eD P (jC jo Q) (ops j::(l1++l2).map ops)=gH P (jC jo Q) (ops j) (eD P (jC jo Q) ((l1++l2).map ops)):=by funext e σ;exact oW _ _ _ _
   rw[heq];rw[cF,List.pairwise_cons]at hs;obtain⟨qH,Dq⟩:=hc j (by simp);refine swap qH.1 (fun h v e e' σ=>SX (qH.2 h)) (fun x y hxy=>?_) (Ec (fun e σ h=>?_) h)
   ·obtain⟨hm,L8⟩:=Dq x y hxy;have xR:j<k:=hs.1 k (by simp);refine⟨⟨(L8 j (Nat.le_refl _) (hn j (by simp)) (.inr (hnc j (by simp)))).2,(L8 k (Nat.le_of_lt xR) (hn k (by simp)) (.inl rfl)).2⟩,fun e σ hK=>?_⟩;refine S6 (Q:=jC jo Q) (C:=fun e=>pP (x.ev e) (y.ev e)) (us:=x.uses++y.uses) (fun e σ h=>L6 h.1 hm) (fun e e' he h=>?_) _ e σ (fun g hg=>?_) hK
    ·rw[AX.ep (x:=x) (fun t ht=>(he t (e7 _ ht)).symm),AX.ep (x:=y) (fun t ht=>(he t (List.mem_append_right _ ht)).symm)];exact h
    ·obtain⟨m,xS,rfl⟩:=cW.1 hg
     have PN:m ∈ l1++k::l2:=by
      rcases List.mem_append.1 xS with h|h<;>simp[h]
     exact L8 m (Nat.le_of_lt (hs.1 m PN)) (hn m (cE _ PN)) (.inr (hnc m (cE _ xS)))
   ·have:=S7 l1 e σ (fun j hj=>hc j (by simp[hj])) (fun m hm=>hnc m (cE _ hm)) hs.2 (fun i hi=>hn i (cE _ hi)) h;simpa only[aR,oW]using this
def behind {iH cl : Nat -> List Nat} {l : List Nat} (hlt : ∀ k, ∀ m ∈ iH k, m < k) (fK : ∀ k, ∀ j ∈ cl k, j ∈ iH k \/ ∃ m ∈ iH k, j ∈ cl m) (hinv : ∀ z, z ∉ l -> ∀ i ∈ iH z, i ∉ l) {j : Nat} :
    ∀(k:Nat),(∀ i ∈ iH k,i ∉ l)->j ∈ cl k->j ∉ l:=by
 intro k
 induction k using Nat.strongRecOn with
 | _ k ih =>
   intro hr hj;rcases fK k j hj with h|⟨m,hm,h⟩
   ·exact hr j h
   ·exact ih m (hlt k m hm) (hinv m (hr m hm)) h
def Oh {ops : Nat -> b_} {iH cl : Nat -> List Nat} {N : Nat} {jo : List (AX × AX)} (hlt : ∀ k, ∀ m ∈ iH k, m < k) (fK : ∀ k, ∀ j ∈ cl k, j ∈ iH k \/ ∃ m ∈ iH k, j ∈ cl m) : ∀ (n : Nat) (l : List Nat) (e : Env) (σ : ae), l.length = n ->
    (∀ z,z ∉ l-> ∀ i ∈ iH z,i ∉ l)->(∀ i ∈ l,i<N)->l.Pairwise (fun j k=>j<k/\(j ∈ cl k\/L7 ops N jo (cl k) j k))->eD P (jC jo Q) (l.map ops) e σ->Eg P (jC jo Q) ops iH n l e σ:=by
 intro n
 induction n with
 | zero=>intro l e σ hl _ _ _ h;cases l with|nil=>exact⟨rfl,h⟩|cons=>cases hl
 | succ n ih =>
   intro l e σ hl hinv hN hp h;refine⟨fun hno=>?_,fun i hi hr=>?_⟩
   ·cases l with
    | nil=>exact h
    | cons x r =>
      obtain⟨j,hj,mX⟩:=hno x (by simp);have h1:=hlt x j hj;rcases List.mem_cons.1 mX with rfl|h2
      ·exact absurd h1 (Nat.lt_irrefl _)
      ·have:=((List.pairwise_cons.1 hp).1 j h2).1;omega
   ·obtain⟨l1,l2,rfl,hni⟩:=List.eq_append_cons_of_mem hi;have he:(l1++i::l2).erase i=l1++l2:=by rw[List.erase_append_right _ hni,List.erase_cons_head]
    have hp':=List.pairwise_append.1 hp
    have hcp:∀ j ∈ l1,L7 ops N jo (cl i) j i:=fun j hj=>by
     rcases(hp'.2.2 j hj i (by simp)).2 with h1|h1
     ·exact absurd (by simp[hj]) (behind hlt fK hinv i hr h1)
     ·exact h1
    have hb:=S7 l1 e σ hcp (fun m hm hmc=>behind hlt fK hinv i hr hmc (by rcases List.mem_append.1 hm with h|h<;>simp[h])) (hp.imp fun h=>h.1) hN h;rw[aR,oW]at hb;rw[he];refine Ec (fun e σ h=>ih _ e σ ?_ (fun z hz j hj mX=>?_) (fun m hm=>hN m ?_) ?_ h) hb
    ·simp at hl ⊢;omega
    ·have Y1 : j ∈ l1 ++ i :: l2 := by
      rcases List.mem_append.1 mX with h|h<;>simp[h]
     by_cases hzi:z=i
     ·subst hzi;exact hr j hj Y1
     ·refine hinv z (fun S8=>hz ?_) j hj Y1;rcases List.mem_append.1 S8 with h|h
      ·simp[h]
      ·rcases List.mem_cons.1 h with h|h
       ·exact absurd h hzi
       ·simp[h]
    ·rcases List.mem_append.1 hm with h|h<;>simp[h]
    ·refine List.Pairwise.sublist ?_ hp;exact List.Sublist.append_left (List.sublist_cons_self _ _) _
end
section
variable {P:Program}
def CG(P:Program)(nt:Nat)(h:Hints)(dr:Bool)(all:Array Oper)(o:Oper)(g:b_): Prop :=
 tH P nt h dr o=some g.op/\g.dst=o.dst/\match o.guard with
  | none=>g.guard=none
  | some (j,b)=> ∃ k,(all[j]?).bind (·.dst)=some k/\k<nt/\g.guard=some (k,b)
def H7{nt:Nat}{h:Hints}{dr:Bool}{all:Array Oper}: ∀(l:List Oper) (gs:List b_),kL P nt h dr all l=some gs->gs.length=l.length/\ ∀(i:Nat) (o:Oper),l[i]? = some o-> ∃ g,gs[i]? = some g/\CG P nt h dr all o g:=by
 intro l
 induction l with
 | nil=>intro gs hc;cases hc;exact⟨rfl,fun i o hi=>by cases hi⟩
 | cons o l ih =>
   intro gs hc;simp only[kL]at hc;split at hc
   ·rename_i ao gs' h1 h2;obtain⟨i1,i2⟩:=ih gs' h2;split at hc
    ·rename_i hg;cases hc;refine⟨by simp[i1],fun i o' hi=>?_⟩;cases i with
     | zero=>cases hi;exact⟨_,rfl,h1,rfl,by rw[hg]⟩
     | succ i=>exact i2 i o' hi
    ·rename_i j b hg;split at hc
     ·rename_i k hk;split at hc
      ·rename_i hlt;cases hc;refine⟨by simp[i1],fun i o' hi=>?_⟩;cases i with
       | zero=>cases hi;exact⟨_,rfl,h1,rfl,by rw[hg];exact⟨k,hk,hlt,rfl⟩⟩
       | succ i=>exact i2 i o' hi
      ·cases hc
     ·cases hc
   ·cases hc
def S9 {X : List Deferred} {ro : Option Nat} {wn : Nat} {nt : Nat} {h : Hints} {dr : Bool} {ops : Array Oper} {B : Nat -> Prop} {Q : AQ} {g0 : aM} {w0 : World} {qC : ae} {o : Oper} {gp : b_} {i : Nat} {K : Env -> ae -> Prop} {KK : Act -> World -> Prop}
    {g:aM} {w:World} {σ : ae} {e:Env} {a:Act} (PL:CG P nt h dr ops o gp) (h0:ops[i]? = some o) (hR:Rel g w σ) (hE:ic nt g w e a.tmps) (hd:lU X B σ g w a.defers) (hev:ik qC g0 w0 σ g w)
    (hk:∀ g' w' σ' e' a',K e' σ'->Rel g' w' σ'->ic nt g' w' e' a'.tmps->lU X B σ' g' w' a'.defers->ik qC g0 w0 σ' g' w'->KK a' w') (hw:gH P Q gp K e σ):wpOpIn (WF ro) wn P ops (QR X nt B g0 w0 qC Q) i KK a w:=by
 obtain⟨h1,hds,hgd⟩:=PL
 have go:∀ (e1:Env),ic nt g w e1 a.tmps->gp.op.run P e1 σ (fun v σ'=>K (eC e1 gp.dst v) σ') (fun v σ'=>Q (.panic v) e1 σ')->o.wpIn (WF ro) wn P a w KK (QR X nt B g0 w0 qC Q):=fun e1 vy hrun=>by
  rw[hds]at hrun;refine Oper.L2 ?_ ?_ (L1 h1 hR vy hrun)
  ·rintro a' w' ⟨v,g',av,σ',rfl,r1,r2,r3,r4⟩;exact hk g' w' σ' (eC e1 o.dst av) (a.put o.dst v) r4 r1 ((vy.mono r2.mono).put o.dst r3) (by rw[put_defers];exact hd.step r2) (hev.trans r2)
  ·rintro ex a' w' ⟨rfl,v,g',av,σ',rfl,r1,r2,r3,r4⟩;exact⟨g',e1,σ',hd.step r2,r1,vy.mono r2.mono,hev.trans r2,v,av,rfl,r3,r4⟩
 have pass:∀ (e1:Env),ic nt g w e1 a.tmps->K (eC e1 gp.dst (.bJ [])) σ->KK (a.put o.dst Go.undef) w:=fun e1 vy hrun =>
  hk g w σ (eC e1 gp.dst (.bJ [])) (a.put o.dst Go.undef) hrun hR (by rw[hds];exact vy.put o.dst (.bJ [] #[] rfl (fun i hi=>absurd hi (dL _)))) (by rw[put_defers];exact hd) hev
 unfold wpOpIn;simp only[h0];unfold gH at hw;split at hgd
 ·rename_i hg;simp only[hgd]at hw;have Q8:Region.wanted o (yielded ops a.tmps)=true:=by simp[Region.wanted,hg]
  rw[if_pos Q8];exact go e hE hw
 ·rename_i j b hg;obtain⟨k,hk',hlt,hgg⟩:=hgd;simp only[hgg]at hw;obtain⟨w1,w2⟩:=JM (ops:=ops) hE hg hk' hlt;split at hw
  ·rename_i t ht;have hwn:=w1 t ht;by_cases htb:t=b
   ·subst htb;rw[hwn,if_pos (by simp)];exact go _ (hE.congr ht) (hw.1 rfl)
   ·have:t = !b:=by cases t<;>cases b<;>simp_all
    rw[hwn,if_neg (by simpa using htb)];refine⟨fun _ _=>trivial,pass _ (hE.congr ?_) (hw.2 this)⟩;rw[ht,this]
  ·rename_i ht;rw[w2 ht,if_neg (by simp)];exact⟨fun _ _=>trivial,pass e hE hw⟩
  ·exact hw.elim
def ku(ops:Array Oper)(i:Nat): List Nat :=
 match ops[i]? with
 | some o=>(o.after.toList.filter (Region.binds .any)).map (·.on)
 | none=>[]
def ni: b_:=⟨.jI ⟨false,0⟩,none,none⟩
def S_ {X : List Deferred} {ro : Option Nat} {wn : Nat} {nt : Nat} {h : Hints} {ops : Array Oper} {B : Nat -> Prop} {Q : AQ} {g0 : aM} {w0 : World} {qC : ae} {gs : List b_} (hc : kL P nt h true ops ops.toList = some gs) (hlt : ∀ i, ∀ j ∈ ku ops i, j < i) :
    ∀ (n : Nat) (l : List Nat) (listed : Array Bool) (g : aM) (w : World) (σ : ae) (e : Env) (a : Act), listed.size = ops.size -> l.Nodup -> (∀ i, i ∈ l ↔ i < ops.size /\ listed.getD i true = false) ->
      Eg P Q (fun i=>gs.getD i ni) (ku ops) n l e σ->Rel g w σ->ic nt g w e a.tmps->lU X B σ g w a.defers->ik qC g0 w0 σ g w ->
      wpAnyIn (WF ro) wn P .any ops (QR X nt B g0 w0 qC Q) n listed a w:=by
 obtain⟨hlen,qu⟩:=H7 ops.toList gs hc
 have mem:∀ (l:List Nat) (listed:Array Bool),(∀ i,i ∈ l↔i<ops.size/\listed.getD i true=false)-> ∀ i,i ∈ Region.ready .any ops listed->i ∈ l/\ ∀ j ∈ ku ops i,j ∉ l:=by
  intro l listed hl i hi;simp only[Region.ready,List.mem_filter,dI,aD,bW]at hi;obtain⟨hlt,hun,H8⟩:=hi;refine⟨(hl i).2 ⟨hlt,hun⟩,fun j hj mX=>?_⟩;obtain⟨z7,z8⟩:=(hl j).1 mX;have ho:ops[i]? = some ops[i]:=by simp[hlt]
  simp only[ku,ho,cW,List.mem_filter]at hj;obtain⟨ed,⟨he1,he2⟩,rfl⟩:=hj;simp only[ho,cS,bB]at H8;have:=Array.all_eq_true_iff_forall_mem.1 H8 ed (by simpa using he1);simp only[he2,Bool.not_true,Bool.false_or]at this;rcases Nat.lt_or_ge ed.on listed.size with h'|h'
  ·simp[h']at this z8;rw[this]at z8;cases z8
  ·simp[Array.getElem?_eq_none h']at this
 have acL:∀ (l:List Nat) (listed:Array Bool),listed.size=ops.size->(∀ i,i ∈ l↔i<ops.size/\listed.getD i true=false)->Region.ready .any ops listed=[]-> ∀ i ∈ l,∃ j ∈ ku ops i,j ∈ l:=by
  intro l listed hsz hl yZ i hi;obtain⟨JN,hun⟩:=(hl i).1 hi;have ho:ops[i]? = some ops[i]:=by simp[JN]
  have hnot:i ∉ Region.ready .any ops listed:=by rw[yZ];simp
  simp only[Region.ready,List.mem_filter,dI,aD,bW,JN,hun,ho,cS,bB,true_and,Array.all_eq_true_iff_forall_mem]at hnot;simp only[Classical.not_forall,Bool.not_eq_true,Bool.or_eq_false_iff,Bool.not_eq_false']at hnot;obtain⟨ed,he,hbd,hls⟩:=hnot
  have hj:ed.on ∈ ku ops i:=by
   simp only[ku,ho,cW,List.mem_filter];exact⟨ed,⟨by simpa using he,hbd⟩,rfl⟩
  have h1:=hlt i _ hj;refine⟨_,hj,(hl _).2 ⟨by omega,?_⟩⟩;have h2:ed.on<listed.size:=by omega
  simp[h2]at hls ⊢;exact hls
 intro n
 induction n with
 | zero =>
   intro l listed g w σ e a hsz gG hl ha hR hE hd hev;obtain⟨rfl,hq⟩:=ha;refine⟨?_,g,e,σ,hd,hR,hE,hev,hq⟩;refine List.eq_nil_iff_forall_not_mem.2 fun i hi=>?_;exact absurd (mem _ _ hl i hi).1 (by simp)
 | succ n ih =>
   intro l listed g w σ e a hsz gG hl ha hR hE hd hev;refine⟨fun yZ=>⟨g,e,σ,hd,hR,hE,hev,ha.1 (acL l listed hsz hl yZ)⟩,fun i hi=>?_⟩;obtain⟨WQ,hr⟩:=mem l listed hl i hi;have A0:=((hl i).1 WQ).1;have ho:ops[i]? = some ops[i]:=by simp[A0]
   obtain⟨gp,hgp,PL⟩:=qu i ops[i] (by simp[A0]);have hrun:=ha.2 i WQ hr;have hgd:gs.getD i ni=gp:=by simp[List.getD,hgp]
   have hrun:gH P Q gp (Eg P Q (fun i=>gs.getD i ni) (ku ops) n (l.erase i)) e σ:=by rw[<-hgd];exact hrun
   refine S9 PL ho hR hE hd hev (fun g' w' σ' e' a' hK mW PO hd' acM=>?_) hrun;refine ih (l.erase i) _ g' w' σ' e' a' (by simp[hsz]) (gG.erase i) (fun k=>?_) hK mW PO hd' acM;rw[gG.mem_erase_iff,hl k];by_cases L9:k=i
   ·subst L9;simp[hsz,A0]
   ·have : (listed.setIfInBounds i true).getD k true = listed.getD k true := by
     simp[fT,Array.getElem?_setIfInBounds_ne (Ne.symm L9)]
    rw[this];simp[L9]
def uA(iH:Nat->List Nat): Nat->List (List Nat)
 | 0=>[]
 | n+1=>let c:=uA iH n;c++[((iH n).flatMap fun m=>c.getD m []).foldl (fun l x=>if l.contains x then l else x::l) (iH n)]
def CW(n:Nat)(iH:Nat->List Nat)(gs:List b_): Bool :=
 let cl:=uA iH n
 (List.range n).all fun k => (iH k).all (· < k) && (cl.getD k []).all (fun j => (iH k).contains j || (iH k).any fun m => (cl.getD m []).contains j) &&
   (List.range k).all fun j => (cl.getD k []).contains j || (FZ (gs.getD j ni) (gs.getD k ni) && match needs (gs.getD j ni) (gs.getD k ni) with
     | some (x,y)=>(List.range n).all fun m=>decide (m<j) ||(decide (m≠k) && (cl.getD k []).contains m) ||((gs.getD m ni).op.goes && iV (gs.getD m ni).dst (x.uses++y.uses))
     | none=>true)
def sD(n:Nat)(iH:Nat->List Nat)(gs:List b_): List (AX × AX) :=
 let cl:=uA iH n
 ((List.range n).flatMap fun k=>(List.range k).filterMap fun j=>if(cl.getD k []).contains j then none else needs (gs.getD j ni) (gs.getD k ni))++if gs.any fun g=>g.op.Ee then [(.c .mg,.c .mg)]else []
def XB(h:Hints)(ops:Array Oper): List Nat :=
 let n:=ops.size
 let cl:=uA (ku ops) n
 let ls:=(List.range n).filter fun i=>match(ops[i]?).bind (·.dst)with
  | some d=>h.YP.contains (100000+d)
  | none=>false
 let late:=fun k=>ls.contains k || ls.any fun i=>(cl.getD k []).contains i
 (List.range n).filter (fun k=> !late k)++(List.range n).filter late
def L_(n:Nat)(p:List Nat): Bool:=decide (p.length=n) && decide p.Nodup && p.all (· < n) && (List.range n).all fun x=>p.contains x
def Bf(iH:Nat->List Nat)(p:List Nat)(i:Nat): List Nat:=match p[i]? with
 | some k=>(iH k).map fun j=>p.idxOf j
 | none=>[]
def q8(gs:List b_)(p:List Nat): List b_:=p.map fun i=>gs.getD i ni
def Vm(n:Nat)(iH:Nat->List Nat): Bool:=(List.range n).all fun k=>(iH k).all (· < k)
def JO(iH:Nat->List Nat): ∀ n,(uA iH n).length=n
 | 0=>rfl
 | n+1=>by simp[uA,JO iH n]
def QR.mono{X:List Deferred}{nt:Nat}{B:Nat->Prop}{g:aM}{w:World}{σ : ae}{Q Q':AQ}(h:∀ ex e σ,Q ex e σ->Q' ex e σ){ex:Exit}{a:Act}{w2:World}(hq:QR X nt B g w σ Q ex a w2): QR X nt B g w σ Q' ex a w2:=by
 obtain⟨g',e',σ',h1,h2,h3,h4,h5⟩:=hq;refine⟨g',e',σ',h1,h2,h3,h4,?_⟩;cases ex with
 | panic chain=>obtain⟨v,av,r1,r2,r3⟩:=h5;exact⟨v,av,r1,r2,h _ _ _ r3⟩
 | outgrown=>exact h5
 | normal=>exact h _ _ _ h5
 | exit id=>exact h _ _ _ h5
 | goto l=>exact h _ _ _ h5
 | ret=>exact h _ _ _ h5
def aa8 {Q : AQ} {n : Nat} {iH : Nat -> List Nat} {gs : List b_} {e : Env} {σ : ae} (hlen : gs.length = n) (hz : ∀ z, n <= z -> iH z = []) (hok : CW n iH gs = true) (hw : eD P (jC (sD n iH gs) Q) gs e σ) :
    Eg P (jC (sD n iH gs) Q) (fun i=>gs.getD i ni) iH n (List.range n) e σ:=by
 simp only[CW,bq,dI,aD,cz,decide_eq_true_eq,List.any_eq_true,List.contains_iff_mem]at hok
 have hlt:∀ i,∀ j ∈ iH i,j<i:=fun i j hj=>by
  by_cases hi:i<n
  ·exact(hok i hi).1.1 j hj
  ·rw[hz i (Nat.le_of_not_lt hi)]at hj;cases hj
 refine Oh (cl:=fun k=>(uA iH n).getD k []) (N:=n) hlt (fun k j hj=>?_) _ _ e σ (by simp) (fun z S8 i hi=>?_) (fun i hi=>by simpa using hi) ?_ ?_
 ·by_cases hk:k<n
  ·exact(hok k hk).1.2 j hj
  ·have : (uA iH n).getD k [] = [] := by
    have:=JO iH n;rw[aj,List.getElem?_eq_none (by omega)];rfl
   rw[this]at hj;cases hj
 ·have:iH z=[]:=hz z (by simpa using S8);rw[this]at hi;cases hi
 ·refine List.pairwise_iff_getElem.2 fun i j hi hj hij=>?_;simp only[List.getElem_range];simp at hi hj;refine⟨hij,?_⟩;by_cases fK:i ∈ (uA iH n).getD j []
  ·exact .inl fK
  ·refine .inr ?_;rcases(hok j hj).2 i hij with h1|⟨h1,h2⟩
   ·exact absurd h1 fK
   ·refine⟨⟨h1,fun hpc=>?_⟩,fun x y hxy=>⟨?_,fun m xS PN hm3=>?_⟩⟩
    ·have ha:(gs.any fun g=>g.op.Ee)=true:=List.any_eq_true.2 ⟨_,(by show gs.getD j ni ∈ gs;rw[aj,aK (by omega)];exact dD _),hpc⟩;unfold CV sD;rw[if_pos ha];simp[SW]
    ·refine e7 _ (List.mem_flatMap.2 ⟨j,by simpa using hj,List.mem_filterMap.2 ⟨i,by simpa using hij,?_⟩⟩);rw[if_neg (by simpa[List.contains_iff_mem]using fK)];exact hxy
    ·simp only[hxy,bq,dI,aD,cz,decide_eq_true_eq]at h2;rcases h2 m PN with(h3|h3)|h3
     ·omega
     ·rcases hm3 with h4|h4
      ·exact absurd h4 h3.1
      ·exact absurd (List.contains_iff_mem.1 h3.2) h4
     ·exact h3
 ·have : (List.range n).map (fun i => gs.getD i ni) = gs := by
   apply List.ext_getElem
   ·simp[hlen]
   ·intro i h1 h2;simp[aj,h2]
  rw[this];exact hw
def Ma {Q : AQ} {ops ops' : Nat -> b_} {iH Y2 : Nat -> List Nat} {N : Nat} {f : Nat -> Nat} (hinj : ∀ i, i < N -> ∀ j, j < N -> f i = f j -> i = j) (Y3 : ∀ i, i < N -> ops' i = ops (f i)) (H8 : ∀ i, i < N -> ∀ j, j < N -> (j ∈ Y2 i ↔ f j ∈ iH (f i))) :
    ∀(n:Nat) (l l':List Nat) (e:Env) (σ : ae),l.Nodup->l'.Nodup->(∀ i ∈ l,i<N)->(∀ x,x ∈ l'↔ ∃ i,i ∈ l/\f i=x)->Eg P Q ops' Y2 n l e σ->Eg P Q ops iH n l' e σ
 | 0, l, l', e, σ, _, _, _, hl, h => by
   obtain⟨h1,h2⟩:=h;subst h1;refine⟨?_,h2⟩;cases l' with
   | nil=>rfl
   | cons x _=>obtain⟨i,hi,_⟩:=(hl x).1 (by simp);cases hi
 | n + 1, l, l', e, σ, hd, hd', hN, hl, h => by
   obtain⟨h1,h2⟩:=h;refine⟨fun hx=>h1 fun i hi=>?_,fun x hx hr=>?_⟩
   ·obtain⟨y,hy1,hy2⟩:=hx (f i) ((hl _).2 ⟨i,hi,rfl⟩);obtain⟨j,hj,rfl⟩:=(hl y).1 hy2;exact⟨j,(H8 i (hN i hi) j (hN j hj)).2 hy1,hj⟩
   ·obtain⟨i,hi,rfl⟩:=(hl x).1 hx;have h3:=h2 i hi fun j hj mX=>hr (f j) ((H8 i (hN i hi) j (hN j mX)).1 hj) ((hl _).2 ⟨j,mX,rfl⟩);rw[Y3 i (hN i hi)]at h3;refine Ec (fun e σ h4=>?_) h3;refine Ma hinj Y3 H8 n (l.erase i) (l'.erase (f i)) e σ (hd.erase i) (hd'.erase _) (fun k hk=>hN k (List.mem_of_mem_erase hk)) (fun z=>?_) h4;rw[hd'.mem_erase_iff,hl z];constructor
    ·rintro⟨hz,k,hk,rfl⟩;exact⟨k,hd.mem_erase_iff.2 ⟨fun L9=>hz (by rw[L9]),hk⟩,rfl⟩
    ·rintro⟨k,hk,rfl⟩;obtain⟨L9,hk⟩:=hd.mem_erase_iff.1 hk;exact⟨fun hf=>L9 (hinj k (hN k hk) i (hN i hi) hf),k,hk,rfl⟩
def Ra {X : List Deferred} {ro : Option Nat} {wn : Nat} {nt : Nat} {h : Hints} {ops : Array Oper} {B : Nat -> Prop} {Q : AQ} {gs : List b_} {p : List Nat} {id : Nat} {g : aM} {w : World} {σ : ae} {e : Env} {a : Act} (hc : kL P nt h true ops ops.toList = some gs)
    (hlt:Vm ops.size (ku ops)=true) (hp:L_ ops.size p=true) (hok:CW ops.size (Bf (ku ops) p) (q8 gs p)=true) (hm:P.follows .mixedOrders=true) (hw:eD P (jC (sD ops.size (Bf (ku ops) p) (q8 gs p)) Q) (q8 gs p) e σ) (hR:Rel g w σ) (hE:ic nt g w e a.tmps) (hd:lU X B σ g w a.defers):(Code.region id ops true).wpIn (WF ro) wn P (QR X nt B g w σ Q) a w:=by
 have A0:∀ i,∀ j ∈ ku ops i,j<i:=fun i j hj=>by
  by_cases hi:i<ops.size
  ·simp only[Vm,bq,dI,decide_eq_true_eq]at hlt;exact hlt i hi j hj
  ·have:ku ops i=[]:=by simp[ku,Array.getElem?_eq_none (Nat.le_of_not_lt hi)]
   rw[this]at hj;cases hj
 simp only[L_,aD,decide_eq_true_eq,bq]at hp;obtain⟨⟨⟨qH,Dq⟩,WR⟩,hp4⟩:=hp;refine wpIn_mono (wpIn_region_any hm ?_) fun ex a' w'=>QR.mono (Q:=jC (sD ops.size (Bf (ku ops) p) (q8 gs p)) Q) fun _ _ _=>Vj;have mW:=hR.drew (w.drawn+1);have hev:=ik.drew σ g w (w.drawn+1);refine S_ hc A0 ops.size (List.range ops.size) _ g _ σ e a (by simp) List.nodup_range (fun i=>by simp;intro h;simp[h]) ?_ mW (hE.mono hev.mono) (hd.step hev) hev;have key:=aa8 (P:=P) (Q:=Q) (n:=ops.size) (iH:=Bf (ku ops) p) (gs:=q8 gs p) (e:=e) (σ:=σ) (by simp[q8,qH]) (fun z hz=>by simp[Bf,List.getElem?_eq_none (show p.length<=z by omega)]) hok hw;have hge:∀ i (hi:i<ops.size),p[i]? = some (p.getD i 0):=fun i hi=>by rw[aj,aK (by omega)];rfl
 have hinj:∀ i,i<ops.size-> ∀ j,j<ops.size->p.getD i 0=p.getD j 0->i=j:=fun i hi j hj hij=>by
  have e1:=hge i hi;have e2:=hge j hj;rw[hij]at e1;exact(List.getElem?_inj (by omega) Dq).1 (e1.trans e2.symm)
 have hidx:∀ j,j<ops.size->p.idxOf (p.getD j 0)=j:=fun j hj=>by
  rw[aj,aK (by omega)];exact Dq.idxOf_getElem j (by omega)
 have Y4:∀ x,x<ops.size->x ∈ p:=fun x hx=>List.contains_iff_mem.1 (hp4 x (by simpa using hx));refine Ma (N:=ops.size) (f:=fun i=>p.getD i 0) hinj (fun i hi=>?_) (fun i hi j hj=>?_) _ _ _ e σ List.nodup_range List.nodup_range (fun i hi=>by simpa using hi) (fun x=>?_) key
 ·simp only[q8,aj,List.getElem?_map];rw[hge i hi];rfl
 ·simp only[Bf];rw[hge i hi];simp only[cW];constructor
  ·rintro⟨k,hk,rfl⟩
   have hkp:k ∈ p:=by
    have:=A0 _ k hk;have h5:p.getD i 0<ops.size:=WR _ (gZ (hge i hi));exact Y4 k (by omega)
   have:p.getD (p.idxOf k) 0=k:=by
    rw[aj,aK (List.idxOf_lt_length_iff.2 hkp)];exact List.getElem_idxOf _
   rw[this];exact hk
  ·intro hk;exact⟨_,hk,hidx j hj⟩
 ·constructor
  ·intro hx;have hx:=Y4 x (by simpa using hx);obtain⟨i,hi,rfl⟩:=bA hx;exact⟨i,by simp;omega,by rw[aj,aK hi];rfl⟩
  ·rintro⟨i,hi,rfl⟩;simp only[dI]at hi ⊢;exact WR _ (gZ (hge i hi))
end
