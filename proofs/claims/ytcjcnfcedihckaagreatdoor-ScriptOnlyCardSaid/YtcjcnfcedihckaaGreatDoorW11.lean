/- Part. -/
import Derived.Test.YtcjcnfcedihckaaGreatDoorW10
set_option linter.all false
namespace Go.AM
def cK.uses(g:cK): List Nat:=g.op.uses++(match g.guard with|some (k,_)=>[k]|none=>[])
def gO(P:Program)(Q:AQ)(g:cK)(K:Env->ae->Prop)(e:Env)(σ : ae): Prop :=
 match g.guard with
 | none=>g.op.run P e σ (fun v σ'=>K (eX e g.dst v) σ') (fun v σ'=>Q (.panic v) e σ')
 | some (k, b) => match e k with
   | .bool t => (t = b -> g.op.run P (eX e (some k) (.bool b)) σ (fun v σ' => K (eX (eX e (some k) (.bool b)) g.dst v) σ') (fun v σ' => Q (.panic v) (eX e (some k) (.bool b)) σ')) /\
      (t = !b->K (eX (eX e (some k) (.bool (!b))) g.dst (.bO [])) σ)
   | .bO []=>K (eX e g.dst (.bO [])) σ
   | _=>False
def mV{e:Env}{k:Nat}{v:AV}(h:e k=v): eX e (some k) v=e:=by
 funext n;simp only[eX];split
 ·rename_i h1;subst h1;exact h.symm
 ·rfl
section
variable {P:Program} {Q:AQ}
def pN(g:cK)(r:List cK)(e:Env)(σ : ae): eT P Q (g::r) e σ = gO P Q g (eT P Q r) e σ:=by
 obtain⟨o,d,gd⟩:=g;cases gd with
 | none=>rfl
 | some kb=>obtain⟨k,b⟩:=kb;rfl
def cK.D(P:Program)(g:cK)(e:Env)(σ : ae)(v:AV)(σ':ae): Prop :=
 match g.guard with
 | none=>g.op.D P e σ v σ'
 | some (k, b) => match e k with
   | .bool t=>if t=b then g.op.D P e σ v σ' else v = .bO []/\σ' = σ
   | .bO []=>v = .bO []/\σ' = σ
   | _=>False
def jX{g:cK}{e:Env}{σ : ae}{v:AV}{σ':ae}(h:g.D P e σ v σ'): (g.op.D P e σ v σ'/\ ∀ s u s',g.op.D P e s u s'->g.D P e s u s')\/(v = .bO []/\σ' = σ/\ ∀ s,g.D P e s (.bO []) s):=by
 unfold cK.D at *;split at h
 ·exact .inl ⟨h,fun _ _ _ h=>h⟩
 ·split at h
  ·split at h
   ·rename_i h1 h2;simp only[if_pos h2];exact .inl ⟨h,fun _ _ _ h=>h⟩
   ·rename_i h1 h2;simp only[if_neg h2];exact .inr ⟨h.1,h.2,fun _=>⟨trivial,trivial⟩⟩
  ·exact .inr ⟨h.1,h.2,fun _=>⟨rfl,rfl⟩⟩
  ·exact h.elim
def ja{g:cK}{K:Env->ae->Prop}{e:Env}{σ : ae}(hc:g.op.cls≠ .no): gO P Q g K e σ↔ ∃ v σ',g.D P e σ v σ'/\K (eX e g.dst v) σ':=by
 unfold gO cK.D;split
 ·exact Dc hc
 ·rename_i k b hg;split
  ·rename_i t ht;by_cases htb:t=b
   ·subst htb;rw[mV ht];simp only[↓reduceIte];constructor
    ·exact fun h=>(Dc hc).1 (h.1 trivial)
    ·exact fun h=>⟨fun _=>(Dc hc).2 h,fun h=>by cases t<;>cases h⟩
   ·have hn:t = !b:=by cases t<;>cases b<;>simp_all
    have hs:eX e (some k) (.bool (!b))=e:=mV (by rw[ht,hn]);simp only[if_neg htb,hs];constructor
    ·exact fun h=>⟨_,σ,⟨rfl,rfl⟩,h.2 hn⟩
    ·rintro⟨v,τ,⟨rfl,rfl⟩,h⟩;exact⟨fun h'=>absurd h' htb,fun _=>h⟩
  ·constructor
   ·exact fun h=>⟨_,σ,⟨rfl,rfl⟩,h⟩
   ·rintro⟨v,τ,⟨rfl,rfl⟩,h⟩;exact h
  ·constructor
   ·exact fun h=>h.elim
   ·exact fun⟨_,_,h,_⟩=>h.elim
def Ex{g:cK}{K K':Env->ae->Prop}{e:Env}{σ : ae}(h:∀ e σ,K e σ->K' e σ): gO P Q g K e σ->gO P Q g K' e σ:=by
 unfold gO;split
 ·exact q9 (fun v s=>h _ _) (fun _ _ h=>h)
 ·split
  ·exact fun hh=>⟨fun ht=>q9 (fun v s=>h _ _) (fun _ _ h=>h) (hh.1 ht),fun ht=>h _ _ (hh.2 ht)⟩
  ·exact h _ _
  ·exact id
def Ey{g:cK}{e e':Env}{σ : ae}{v:AV}{σ':ae}(h:∀ t ∈ g.uses,e t=e' t)(hD:g.D P e σ v σ'): g.D P e' σ v σ':=by
 have ho:∀ t ∈ g.op.uses,e t=e' t:=fun t ht=>h t (fB _ ht);unfold cK.D at *;split at hD
 ·rename_i hg;exact Ps ho hD
 ·rename_i k b hg;have hk:e k=e' k:=h k (by simp[cK.uses,hg]);rw[<-hk];split at hD
  ·split at hD
   ·rename_i h1 h2;simp only[h1,if_pos h2];exact Ps ho hD
   ·rename_i h1 h2;simp only[h1,if_neg h2];exact hD
  ·simp_all
  ·exact hD.elim
def pO{g:cK}{e:Env}{σ : ae}{v:AV}{σ':ae}(hc:g.op.cls = .pu\/g.op.cls = .rd)(hD:g.D P e σ v σ'): σ' = σ:=by
 rcases jX hD with⟨h,_⟩|⟨_,h,_⟩
 ·exact aau hc h
 ·exact h
def PC{g:cK}{e:Env}{σ : ae}{v:AV}{σ':ae}(hc:g.op.cls = .pu\/g.op.cls = .rd)(hD:g.D P e σ v σ')(τ : ae): g.D P e (σ++ τ) v (σ++ τ):=by
 rcases jX hD with⟨h,f⟩|⟨rfl,_,f⟩
 ·exact f _ _ _ (aav hc h τ)
 ·exact f _
def PD{g:cK}{e:Env}{σ : ae}{v:AV}{σ':ae}(hc:g.op.cls = .pu)(hD:g.D P e σ v σ')(s:ae): g.D P e s v s:=by
 rcases jX hD with⟨h,f⟩|⟨rfl,_,f⟩
 ·exact f _ _ _ (aaw hc h s)
 ·exact f _
def acK{g:cK}{e:Env}{σ : ae}{v:AV}{σ':ae}(hc:g.op.cls = .al)(hD:g.D P e σ v σ'): ∃ τ,σ' = σ++ τ:=by
 rcases jX hD with⟨h,_⟩|⟨_,h,_⟩
 ·exact ad7 hc h
 ·exact⟨[],by simp[h]⟩
def aaH {g : cK} {e : Env} {σ : ae} {v : AV} {σ' : ae} {l : Nat} {ob mg : aY} {rx : Option AX} (hr : g.op.pM = some rx) (hl : σ[l]? = some ob) (FP : ob.like mg) (hap : ∀ x, rx = some x -> (x.ev e).obj ≠ some l) (hD : g.D P e σ v σ') :
    g.D P e (σ.set l mg) v (σ.set l mg):=by
 rcases jX hD with⟨h,f⟩|⟨rfl,_,f⟩
 ·exact f _ _ _ (acE hr hl FP hap h)
 ·exact f _
def acL{g:cK}{e:Env}{σ : ae}{v:AV}{σ':ae}(hc:g.op.cls = .st)(hD:g.D P e σ v σ'): σ' = σ\/ ∃ y l ob mg,g.op.q_=some y/\σ[l]? = some ob/\ob.like mg/\(y.ev e).obj=some l/\σ' = σ.set l mg:=by
 rcases jX hD with⟨h,_⟩|⟨_,h,_⟩
 ·exact .inr (aax hc h)
 ·exact .inl h
def iW(d:Option Nat)(l:List Nat): Bool:=match d with
 | some d=> !l.contains d
 | none=>true
def xB(ag:Bool)(n t:Nat): List (Bool × Nat)->List AX->Bool
 |(ag',n')::r,.t t'::xs=>(ag==ag' && n==n' && t==t') || xB ag n t r xs
 | _::r,_::xs=>xB ag n t r xs
 | _,_=>false
def LW: bp->bp->Bool
 | .load ag n (.t t),.ex (.cw _ k Bk) az=>xB ag n t Bk (az.drop k)
 | _,_=>false
def Lr(j k:bp): Bool :=
 match j.cls,k.cls with
 | .no,_|_,.no=>false
 | .pu,_|_,.pu=>true
 | .rd,.rd | .rd,.al=>true
 | .rd,.st=>j.pM.isSome
 | .st, .st => match j.Lo, k.Lo with
   | some a,some b=>a != b
   | _,_=>false
 | .st,.rd=>j.q_.isSome && k.oA.isSome
 | .rd, .ap => match j.pM with
   | some (some _)=>true
   | _=>false
 | .rd,.cw=>LW j k
 | _,_=>false
def bp.Ez: bp->Bool
 | .ex (.pc _) _=>true
 | _=>false
def Rn(j k:bp): Bool:=k.Ez && decide (j.cls≠ .no)
def F3(j k:cK): Bool :=
 (Lr j.op k.op || Rn j.op k.op) && iW j.dst k.uses && iW k.dst j.uses && iW j.dst k.dst.toList
def needs(j k:cK): Option (AX × AX):=match j.op.pM,k.op.q_ with
 | some (some x),some y=>some (x,y)
 | _, _ => match j.op.q_, k.op.oA with
   | some y,some x=>some (x,y)
   | _,_=>none
def Ro{o:bp}{x:AX}(h:o.oA=some x): o.q_=none:=by
 cases o<;>simp[bp.oA]at h<;>rfl
def iF{e:Env}{d:Option Nat}{l:List Nat}{v:AV}(h:iW d l=true): ∀ t ∈ l,eX e d v t=e t:=by
 intro t ht;cases d with
 | none=>rfl
 | some d =>
   simp only[iW,cD,List.contains_eq_mem,decide_eq_false_iff_not]at h;simp only[eX];rw[if_neg (by rintro rfl;exact h ht)]
def EA{e:Env}{j k:Option Nat}{v u:AV}(h:iW j k.toList=true): eX (eX e j v) k u=eX (eX e k u) j v:=by
 funext t
 cases j with
 | none=>rfl
 | some j =>
   cases k with
   | none=>rfl
   | some k =>
     simp[iW]at h;simp only[eX];by_cases h1:t=k
     ·subst h1;simp[Ne.symm h]
     ·simp[h1]
def WB{j k:bp}(h:Lr j k=true): j.cls≠ .no/\k.cls≠ .no:=by
 unfold Lr at h;split at h<;>simp_all
def F4{el:El}{x:AV}{off:Nat}{ag:Bool}{n:Nat}{K K':AV->Prop}(h1:partOf el x off ag n K)(h2:partOf el x off ag n K'): ∃ v,K v/\K' v:=by
 unfold partOf at h1 h2;by_cases h:off=0/\n=el.sz/\ag=el.ag
 ·rw[if_pos h]at h1 h2;exact⟨_,h1,h2⟩
 ·rw[if_neg h]at h1 h2;obtain⟨_,h1⟩:=h1;obtain⟨_,h2⟩:=h2;cases x<;>first|exact h1.elim|exact⟨_,h1.1,h2.1⟩
def TM{σ : ae}{ag:Bool}{n:Nat}{p:AV}{K K':AV->Prop}(h1:ik σ ag n p K)(h2:ik σ ag n p K'): ∃ v,K v/\K' v:=by
 unfold ik at h1 h2;cases p<;>(try exact h1.elim)
 case ref l off =>
  dsimp only at h1 h2;split at h1
  ·rename_i h;rw[h]at h2;exact⟨_,h1.2.2,h2.2.2⟩
  ·exact h1.elim
 case dO el x off=>exact F4 h1 h2
 case eD el l m i off =>
  dsimp only at h1 h2;split at h1
  ·rename_i h;rw[h]at h2;exact F4 h1.2.2.2 h2.2.2.2
  ·exact h1.elim
def BE{σ σ2:ae}{e:Env}{ag:Bool}{n t:Nat}: ∀(Bk:List (Bool × Nat)) (xs:List AX),xB ag n t Bk xs=true->FK σ σ2 Bk (xs.map (AX.ev e))-> ∃ v,ik σ ag n (e t) (fun u=>u=v)/\ik σ2 ag n (e t) (fun u=>u=v)
 | [],xs,h,_=>by cases xs<;>simp[xB]at h
 |(ag',n')::r,[],h,_=>by simp[xB]at h
 | (ag', n') :: r, x :: xs, h, hk => by
   obtain⟨h1,h2⟩:=hk;cases x with
   | c a=>exact BE r xs (by simpa[xB]using h) h2
   | t t' =>
     simp only[xB,c_,aq,beq_iff_eq]at h;rcases h with⟨⟨rfl,rfl⟩,rfl⟩|h
     ·exact h1
     ·exact BE r xs h h2
def aej{j k:bp}{e:Env}{σ σ2:ae}{vj vk:AV}(h:LW j k=true)(dj:j.D P e σ vj σ)(dk:k.D P e σ vk σ2): j.D P e σ2 vj σ2:=by
 unfold LW at h;split at h
 ·rename_i ag n t f k Bk az;obtain⟨hj,_⟩:=(show(∀ τ,(bp.load ag n (.t t)).run P e (σ++ τ) (Is vj (σ++ τ)) No)/\σ = σ from dj)
  replace dk:(fD.cw f k Bk).run P (az.map (AX.ev e)) σ (Is vk σ2) No:=dk
  obtain⟨s2,hk,rfl⟩:∃ s2,FK σ s2 Bk ((az.map (AX.ev e)).drop k)/\s2 = σ2:=by
   cases az with
   | nil=>exact dk.elim
   | cons x xs=>obtain⟨r,s2,_,hk,_,e2⟩:=dk;exact⟨s2,hk,e2⟩
  rw[<-List.map_drop]at hk;obtain⟨v,h1,h2⟩:=BE _ _ h hk
  have h3:ik σ ag n (e t) (fun u=>u=vj):=by
   have:ik (σ++[]) ag n (e t) (fun u=>Is vj (σ++[]) u (σ++[])):=hj [];rw[bS]at this;exact lD (fun v h=>h.1) this
  obtain⟨u,rfl,rfl⟩:=TM h1 h3;obtain⟨u',h4,rfl⟩:=tD h2
  exact(show(∀ τ,(bp.load ag n (.t t)).run P e (s2++ τ) (Is u' (s2++ τ)) No)/\s2=s2 from
   ⟨fun τ=>(show ik (s2++ τ) ag n (e t) (fun u=>Is u' (s2++ τ) u (s2++ τ)) from lD (fun v h=>⟨h,rfl⟩) (h4 τ)),rfl⟩)
 ·cases h
def cK.Yt(P:Program)(g:cK)(n:FuncId)(az:List AX)(e:Env): Option Out->Prop
 | none => match g.guard with
   | none=>False
   | some (k, b) => match e k with
     | .bool t=>t = !b
     | .bO []=>True
     | _=>False
 | some o => (∀ s, cN P n (az.map (AX.ev e)) s fun o' s' => o' = o /\ s' = s) /\ match g.guard with
   | none=>True
   | some (k,b)=>e k = .bool b
def pcE(P:Program)(Q:AQ)(d:Option Nat)(K:Env->ae->Prop)(e:Env)(σ : ae): Option Out->Prop
 | none=>K (eX e d (.bO [])) σ
 | some (.ret r)=>K (eX e d r) σ
 | some (.panic v)=> ∀ s,Q (.panic v) e s
def TN{g:cK}{n:FuncId}{az:List AX}{K:Env->ae->Prop}{e:Env}{σ : ae}(hg:g.op = .ex (.pc n) az): gO P Q g K e σ↔ ∃ o,g.Yt P n az e o/\pcE P Q g.dst K e σ o:=by
 have key:∀ {K1:AV->ae->Prop} {K2:AV->ae->Prop},g.op.run P e σ K1 K2↔ ∃ o,(∀ s,cN P n (az.map (AX.ev e)) s fun o' s'=>o'=o/\s'=s)/\pcK (fun r=>K1 r σ) (fun v=> ∀ s,K2 v s) o:=by
  intro K1 K2;rw[hg];exact Iff.rfl
 unfold gO cK.Yt;cases hgd:g.guard with
 | none =>
   simp only;rw[key];constructor
   ·rintro⟨o,h1,h2⟩;exact⟨some o,⟨h1,trivial⟩,by cases o<;>exact h2⟩
   ·rintro⟨o,h1,h2⟩;cases o with
    | none=>exact h1.elim
    | some o=>exact⟨o,h1.1,by cases o<;>exact h2⟩
 | some kb =>
   obtain⟨k,b⟩:=kb;simp only;split
   ·rename_i t ht;constructor
    ·rintro⟨h1,h2⟩;by_cases htb:t=b
     ·have h1:=h1 htb;subst htb;rw[mV ht,key]at h1;obtain⟨o,h3,h4⟩:=h1;exact⟨some o,⟨h3,by rw[ht]⟩,by cases o<;>exact h4⟩
     ·have hn:t = !b:=by cases t<;>cases b<;>simp_all
      have h2:=h2 hn;rw[mV (by rw[ht,hn])]at h2;exact⟨none,by rw[ht];exact hn,h2⟩
    ·rintro⟨o,h1,h2⟩;cases o with
     | none =>
       rw[ht]at h1;have h1:t = !b:=h1;refine⟨fun h=>absurd h (by rw[h1];cases b<;>decide),fun _=>?_⟩;rw[mV (by rw[ht,h1])];exact h2
     | some o =>
       obtain⟨h3,h4⟩:=h1;have h4:e k = .bool b:=h4;have htb:t=b:=AV.bool.inj (ht.symm.trans h4);refine⟨fun _=>?_,fun h=>absurd h (by rw[htb];cases b<;>decide)⟩;rw[mV h4,key];exact⟨o,h3,by cases o<;>exact h2⟩
   ·rename_i ht;constructor
    ·intro h;exact⟨none,by rw[ht];trivial,h⟩
    ·rintro⟨o,h1,h2⟩;cases o with
     | none=>exact h2
     | some o=>exact absurd (ht.symm.trans h1.2) (by simp)
   ·rename_i h3 h4;constructor
    ·exact fun h=>h.elim
    ·rintro⟨o,h1,h2⟩;cases o with
     | none =>
       exact False.elim h1
     | some o=>exact(h3 _ h1.2).elim
def Zc {j k : cK} {K : Env -> ae -> Prop} {e : Env} {σ : ae} (mW : Rn j.op k.op = true) (s1 : iW j.dst k.uses = true) (s2 : iW k.dst j.uses = true) (s3 : iW j.dst k.dst.toList = true)
    (hQ:∀ v e e' σ,Q (.panic v) e σ->Q (.panic v) e' σ) (hh:gO P Q j (gO P Q k K) e σ):gO P Q k (gO P Q j K) e σ:=by
 simp only[Rn,aq,decide_eq_true_eq]at mW;obtain⟨hk,hj⟩:=mW
 obtain⟨n,az,hg⟩:∃ n az,k.op = .ex (.pc n) az:=by
  revert hk;cases k.op<;>simp[bp.Ez];rename_i o xs;cases o<;>simp[bp.Ez]
 obtain⟨vj,PE,dj,hh⟩:=(ja hj).1 hh;obtain⟨o,h1,h2⟩:=(TN hg).1 hh;have hu:∀ t ∈ k.uses,eX e j.dst vj t=e t:=iF s1
 have hz:az.map (AX.ev (eX e j.dst vj))=az.map (AX.ev e):=by
  exact AX.nO fun t ht=>hu t (by simp only[cK.uses,hg];exact fB _ ht)
 have hR:k.Yt P n az e o:=by
  have TO:∀ m b,k.guard=some (m,b)->eX e j.dst vj m=e m:=fun m b h=>hu m (by simp[cK.uses,h]);unfold cK.Yt at h1 ⊢;cases o with
  | none =>
    cases hgd:k.guard with
    | none=>rw[hgd]at h1;exact h1.elim
    | some kb=>obtain⟨m,b⟩:=kb;rw[hgd]at h1;simp only[TO m b hgd]at h1;exact h1
  | some o =>
    rw[hz]at h1;refine⟨h1.1,?_⟩;cases hgd:k.guard with
    | none=>trivial
    | some kb=>obtain⟨m,b⟩:=kb;have:=h1.2;rw[hgd]at this;simp only[TO m b hgd]at this;exact this
 have tr:∀ v,j.D P (eX e k.dst v) σ vj PE:=fun v=>Ey (fun t ht=>(iF s2 t ht).symm) dj;refine(TN hg).2 ⟨o,hR,?_⟩;cases o with
 | none=>exact(ja hj).2 ⟨vj,PE,tr _,by rw[<-EA s3];exact h2⟩
 | some o =>
   cases o with
   | ret r=>exact(ja hj).2 ⟨vj,PE,tr _,by rw[<-EA s3];exact h2⟩
   | panic v=>exact fun s=>hQ _ _ _ _ (h2 s)
def swap {j k : cK} {K : Env -> ae -> Prop} {e : Env} {σ : ae} (h : F3 j k = true) (hQ : k.op.Ez = true -> ∀ v e e' σ, Q (.panic v) e σ -> Q (.panic v) e' σ) (hap : ∀ x y, needs j k = some (x, y) -> (iW j.dst (x.uses ++ y.uses) = true /\ iW k.dst (x.uses ++ y.uses) = true) /\ ∀ e σ, K e σ -> qx (x.ev e) (y.ev e))
    (hh:gO P Q j (gO P Q k K) e σ):gO P Q k (gO P Q j K) e σ:=by
 simp only[F3,aq]at h;obtain⟨⟨⟨mW,s1⟩,s2⟩,s3⟩:=h;rcases Bool.or_eq_true _ _ ▸ mW with mW|mW
 case inr=>exact Zc mW s1 s2 s3 (hQ (by simp only[Rn,aq]at mW;exact mW.1)) hh
 obtain⟨hj,hk⟩:=WB mW;obtain⟨vj,PE,dj,hh⟩:=(ja hj).1 hh;obtain⟨vk,Yu,dk,hK⟩:=(ja hk).1 hh;have yH:k.D P e PE vk Yu:=Ey (iF s1) dk;have tr:∀ {s s'},j.D P e s vj s'->j.D P (eX e k.dst vk) s vj s':=fun h=>Ey (fun t ht=>(iF s2 t ht).symm) h;have qy:=hK;rw[EA s3]at hK
 have kpu:k.op.cls = .pu->gO P Q k (gO P Q j K) e σ:=fun hc=>by
  have:=pO (.inl hc) yH;subst this;exact(ja hk).2 ⟨vk,σ,PD hc yH σ,(ja hj).2 ⟨vj,_,tr dj,hK⟩⟩
 have BG:PE = σ->j.D P e Yu vj Yu->gO P Q k (gO P Q j K) e σ:=fun h1 h2=>by
  subst h1;exact(ja hk).2 ⟨vk,Yu,yH,(ja hj).2 ⟨vj,_,tr h2,hK⟩⟩
 unfold Lr at mW;split at mW<;>(try (cases mW;done))
 ·rename_i hc _;exact BG (pO (.inl hc) dj) (PD hc dj _)
 ·rename_i hc _ _;exact kpu hc
 ·rename_i hc hc2;have h1:=pO (.inr hc) dj;have h2:=pO (.inr hc2) yH;subst h1;subst h2;exact BG rfl dj
 ·rename_i hc hc2;have h1:=pO (.inr hc) dj;subst h1;obtain⟨τ,rfl⟩:=acK hc2 yH;exact BG rfl (PC (.inr hc) dj τ)
 ·rename_i hc hc2;have h1:=pO (.inr hc) dj;subst h1;rcases acL hc2 yH with rfl|⟨y,l,ob,mg,hy,hl,FP,LX,rfl⟩
  ·exact BG rfl dj
  ·obtain⟨rx,F5⟩:=fc.1 mW;refine BG rfl (aaH F5 hl FP (fun x hx=>?_) dj);subst hx;have hn:needs j k=some (x,y):=by simp[needs,F5,hy]
   obtain⟨⟨a1,a2⟩,a3⟩:=hap x y hn;have ha:=a3 _ _ qy
   have ex:∀ t ∈ x.uses++y.uses,eX (eX e j.dst vj) k.dst vk t=e t:=fun t ht=>by
    rw[iF a2 t ht,iF a1 t ht]
   rw[AX.eK (x:=x) (fun t ht=>ex t (fB _ ht)),AX.eK (x:=y) (fun t ht=>ex t (List.mem_append_right _ ht))]at ha;exact fun h1=>ha l h1 LX
 ·
  split at mW
  ·rename_i a b ra rb;rcases jX dj with⟨dj1,dj2⟩|⟨rfl,rfl,FX⟩
   ·rcases jX yH with⟨TP,dk2⟩|⟨rfl,rfl,kR⟩
    ·obtain⟨n,o1,n1,n2,n3,rfl,n4⟩:=Yg ra dj1;obtain⟨m,o2,m1,m2,m3,rfl,m4⟩:=Yg rb TP
     have hnm:n≠m:=by
      rintro rfl;rw[List.getElem?_set_self (aN.1 n2).1]at m2;exact n3 (Option.some.inj m2)
     rw[List.getElem?_set_ne hnm]at m2;refine(ja hk).2 ⟨_,_,dk2 _ _ _ (m4 σ m2),(ja hj).2 ⟨_,_,tr (dj2 _ _ _ (n4 _ (by rw[List.getElem?_set_ne (Ne.symm hnm)];exact n2))),?_⟩⟩;rw[List.set_comm _ _ (Ne.symm hnm)];exact hK
    ·exact(ja hk).2 ⟨_,_,kR σ,(ja hj).2 ⟨_,_,tr dj,hK⟩⟩
   ·exact(ja hk).2 ⟨_,_,yH,(ja hj).2 ⟨_,_,tr (FX _),hK⟩⟩
  ·cases mW
 ·
  rename_i hc _;simp only[aq,fc]at mW;obtain⟨⟨y,ry⟩,x,rx⟩:=mW;have h2:=pO (.inr (FQ rx)) yH;subst h2;rcases jX dj with⟨dj1,_⟩|⟨rfl,rfl,_⟩
  ·obtain⟨y',l,ob,mg,hy,n2,_,acM,rfl⟩:=aax hc dj1;obtain rfl:y=y':=by rw[ry]at hy;exact Option.some.inj hy
   have hn:needs j k=some (x,y):=by
    unfold needs;rw[Ro rx,ry,rx];cases j.op.pM with
    | none=>rfl
    | some o=>cases o<;>rfl
   obtain⟨⟨a1,a2⟩,a3⟩:=hap x y hn;have ha:=a3 _ _ qy
   have ex:∀ t ∈ x.uses++y.uses,eX (eX e j.dst vj) k.dst vk t=e t:=fun t ht=>by
    rw[iF a2 t ht,iF a1 t ht]
   rw[AX.eK (x:=x) (fun t ht=>ex t (fB _ ht)),AX.eK (x:=y) (fun t ht=>ex t (List.mem_append_right _ ht))]at ha;have hlt:=(aN.1 n2).1;have LX:(x.ev e).obj≠some l:=fun h=>ha l h acM
   have back:(σ.set l mg).set l ob = σ:=by
    rw[bA];apply List.ext_getElem?;intro i;by_cases hi:i=l
    ·subst hi;rw[List.getElem?_set_self hlt];exact n2.symm
    ·rw[List.getElem?_set_ne (Ne.symm hi)]
   have dk':k.D P e σ vk σ:=by
    rcases jX yH with⟨q1,q2⟩|⟨rfl,_,q⟩
    ·have:=Pu (ob:=ob) rx (by simpa using hlt) LX q1;rw[back]at this;exact q2 _ _ _ this
    ·exact q σ
   exact(ja hk).2 ⟨vk,σ,dk',(ja hj).2 ⟨vj,_,tr dj,hK⟩⟩
  ·exact(ja hk).2 ⟨vk,_,yH,(ja hj).2 ⟨_,_,tr dj,hK⟩⟩
 ·
  rename_i hc hc2;have h1:=pO (.inr hc) dj;subst h1;split at mW
  ·rename_i x F5
   have hro:j.op.oA=some x:=by
    revert F5;cases j.op<;>simp[bp.pM,bp.oA]
   rcases jX yH with⟨TP,_⟩|⟨rfl,rfl,_⟩
   ·obtain⟨y,hy,⟨τ,rfl⟩|⟨l,ob,hlt,LX,rfl⟩⟩:=ad8 hc2 TP
    ·exact BG rfl (PC (.inr hc) dj τ)
    ·have hn:needs j k=some (x,y):=by simp[needs,F5,hy]
     obtain⟨⟨a1,a2⟩,a3⟩:=hap x y hn;have ha:=a3 _ _ qy
     have ex:∀ t ∈ x.uses++y.uses,eX (eX e j.dst vj) k.dst vk t=e t:=fun t ht=>by
      rw[iF a2 t ht,iF a1 t ht]
     rw[AX.eK (x:=x) (fun t ht=>ex t (fB _ ht)),AX.eK (x:=y) (fun t ht=>ex t (List.mem_append_right _ ht))]at ha;refine BG rfl ?_;rcases jX dj with⟨q1,q2⟩|⟨rfl,_,q⟩
     ·exact q2 _ _ _ (Pu hro hlt (fun h=>ha l h LX) q1)
     ·exact q _
   ·exact BG rfl dj
  ·cases mW
 ·
  rename_i hc _;have h1:=pO (.inr hc) dj;subst h1;rcases jX yH with⟨TP,_⟩|⟨rfl,rfl,_⟩
  ·rcases jX dj with⟨q1,q2⟩|⟨rfl,_,q⟩
   ·exact BG rfl (q2 _ _ _ (aej mW q1 TP))
   ·exact BG rfl (q _)
  ·exact BG rfl dj
variable (P Q) in
def EB(ops:Nat->cK)(iP:Nat->List Nat): Nat->List Nat->Env->ae->Prop
 | 0,l,e,σ=>l=[]/\Q .normal e σ
 | n+1,l,e,σ=>((∀ i ∈ l,∃ j ∈ iP i,j ∈ l)->Q .normal e σ)/\ ∀ i ∈ l,(∀ j ∈ iP i,j ∉ l)->gO P Q (ops i) (EB ops iP n (l.erase i)) e σ
def fD.goes: fD->Bool
 | .inv _ | .pc _=>false
 | _=>true
def bp.goes: bp->Bool
 | .app ..=>true
 | .ex o _=>o.goes
 | o=>o.cls != .no
def LY{o:bp}{e:Env}{σ : ae}{K Kp:AV->ae->Prop}(h:o.goes=true)(hh:o.run P e σ K Kp): ∃ v σ',K v σ':=by
 by_cases hn:o.cls≠ .no
 ·obtain⟨v,σ',_,h⟩:=(Dc hn).1 hh;exact⟨v,σ',h⟩
 ·by_cases hx:∃ o' xs,o = .ex o' xs
  ·obtain⟨o',xs,rfl⟩:=hx;obtain⟨v,σ',_,h1⟩:=fD.det (by replace h:o'.goes=true:=h;cases o'<;>first|(intro e;cases e;done)|(cases h;done)) (show o'.run P (xs.map (AX.ev e)) σ K Kp from hh);exact⟨v,σ',h1⟩
  cases o<;>(try (exact absurd ⟨_,_,rfl⟩ hx))<;>simp[bp.goes]at h<;>(try (exact absurd h hn));rename_i T el x1 y1;simp only[bp.run,oF]at hh;generalize AX.ev e _=y at hh
  have key:∀ (ys:List AV) (x:AV),(match x with
   | .au=>if ys.length=0 then K .au σ else fJ ys.length el/\K (.own el σ.length ys.length 0 ys.length) (σ++[.cy T el ys])
   | .aO true bj xs=>bj=el/\if ys.length=0 then K (.aO true el xs) σ else fJ (xs.length+ys.length) el/\K (.own el σ.length (xs.length+ys.length) 0 (xs.length+ys.length)) (σ++[.cy T el (xs++ys)])
   | .own bj l m lo n => bj = el /\ match σ[l]? with
     | some (.cy T' bg xs)=>(T'=none\/T'=T)/\bg=el/\m=xs.length/\lo=0/\n=xs.length/\fJ (xs.length+ys.length) el/\K (.own el l (xs.length+ys.length) 0 (xs.length+ys.length)) (σ.set l (.cy T' el (xs++ys)))
     | _=>False
   | _=>False)-> ∃ v σ',K v σ':=fun ys x hx=>by
   split at hx
   ·split at hx
    ·exact⟨_,_,hx⟩
    ·exact⟨_,_,hx.2⟩
   ·replace hx:=hx.2
    split at hx
    ·exact⟨_,_,hx⟩
    ·exact⟨_,_,hx.2⟩
   ·replace hx:=hx.2
    split at hx
    ·exact⟨_,_,hx.2.2.2.2.2.2⟩
    ·exact hx.elim
   ·exact hx.elim
  unfold fM at hh;split at hh
  ·exact key _ _ hh.2
  ·exact key _ _ hh.2.2
  ·replace hh:=hh.2
   split at hh
   ·exact key _ _ hh.2.2.2
   ·exact hh.elim
  ·exact key _ _ hh.2.2
  ·obtain⟨u,_,h2⟩:=tD hh.2.2;exact key _ _ h2.2
  ·exact hh.elim
def WC{g:cK}{K:Env->ae->Prop}{e:Env}{σ : ae}(hc:g.op.goes=true)(h:gO P Q g K e σ): ∃ v σ',K (eX e g.dst v) σ':=by
 unfold gO at h;split at h
 ·exact LY hc h
 ·rename_i k b hg;split at h
  ·rename_i t ht;by_cases htb:t=b
   ·obtain⟨v,s,h⟩:=LY hc (h.1 htb);rw[mV (by rw[ht,htb])]at h;exact⟨v,s,h⟩
   ·have hn:t = !b:=by cases t<;>cases b<;>simp_all
    have h:=h.2 hn;rw[mV (by rw[ht,hn])]at h;exact⟨_,_,h⟩
  ·exact⟨_,_,h⟩
  ·exact h.elim
def TQ{C:Env->Prop}{us:List Nat}(hC:∀ e σ,Q .normal e σ->C e)(PG:∀ e e',(∀ t ∈ us,e' t=e t)->C e'->C e): ∀(l:List cK) (e:Env) (σ : ae),(∀ g ∈ l,g.op.goes=true/\iW g.dst us=true)->eT P Q l e σ->C e
 | [],e,σ,_,h=>hC e σ h
 | g :: l, e, σ, hl, h => by
   rw[pN]at h;obtain⟨h1,h2⟩:=hl g (by simp);obtain⟨v,σ',h⟩:=WC h1 h;exact PG e _ (iF h2) (TQ hC PG l _ σ' (fun g hg=>hl g (by simp[hg])) h)
def LZ{jn:List (AX × AX)}{e:Env}(h:oY jn e){x y:AX}(hm:(x,y) ∈ jn): qx (x.ev e) (y.ev e):=by
 induction jn with
 | nil=>cases hm
 | cons p r ih =>
   obtain⟨a,b⟩:=p;rcases List.mem_cons.1 hm with h1|h1
   ·cases h1;exact h.1
   ·exact ih h.2 h1
def L0(ops:Nat->cK)(n:Nat)(jn:List (AX × AX))(ck:List Nat)(j k:Nat): Prop :=
 (F3 (ops j) (ops k)=true/\((ops k).op.Ez=true->Dg jn=true))/\ ∀ x y,needs (ops j) (ops k)=some (x,y)->(x,y) ∈ jn/\ ∀ m,j<=m->m<n->(m=k\/m ∉ ck)->(ops m).op.goes=true/\iW (ops m).dst (x.uses++y.uses)=true
def TR {ops : Nat -> cK} {n : Nat} {jn : List (AX × AX)} {k : Nat} {ck : List Nat} {l2 : List Nat} : ∀ (l1 : List Nat) (e : Env) (σ : ae), (∀ j ∈ l1, L0 ops n jn ck j k) -> (∀ m ∈ l1 ++ l2, m ∉ ck) -> (l1 ++ k :: l2).Pairwise (· < ·) -> (∀ i ∈ l1 ++ k :: l2, i < n) ->
    eT P (jM jn Q) ((l1++k::l2).map ops) e σ->eT P (jM jn Q) ((k::(l1++l2)).map ops) e σ
 | [],e,σ,_,_,_,_,h=>h
 | j :: l1, e, σ, hc, hnc, hs, hn, h => by
   rw[bD,aZ,pN]at h;rw[aZ,pN,bD,aZ];have heq:eT P (jM jn Q) (ops j::(l1++l2).map ops)=gO P (jM jn Q) (ops j) (eT P (jM jn Q) ((l1++l2).map ops)):=by funext e σ;exact pN _ _ _ _
   rw[heq];rw[bD,List.pairwise_cons]at hs;obtain⟨BH,L1⟩:=hc j (by simp);refine swap BH.1 (fun h v e e' σ=>TH (BH.2 h)) (fun x y hxy=>?_) (Ex (fun e σ h=>?_) h)
   ·obtain⟨hm,L2⟩:=L1 x y hxy;have BI:j<k:=hs.1 k (by simp);refine⟨⟨(L2 j (Nat.le_refl _) (hn j (by simp)) (.inr (hnc j (by simp)))).2,(L2 k (Nat.le_of_lt BI) (hn k (by simp)) (.inl rfl)).2⟩,fun e σ hK=>?_⟩;refine TQ (Q:=jM jn Q) (C:=fun e=>qx (x.ev e) (y.ev e)) (us:=x.uses++y.uses) (fun e σ h=>LZ h.1 hm) (fun e e' he h=>?_) _ e σ (fun g hg=>?_) hK
    ·rw[AX.eK (x:=x) (fun t ht=>(he t (fB _ ht)).symm),AX.eK (x:=y) (fun t ht=>(he t (List.mem_append_right _ ht)).symm)];exact h
    ·obtain⟨m,Jz,rfl⟩:=cC.1 hg
     have PJ:m ∈ l1++k::l2:=by
      rcases List.mem_append.1 Jz with h|h<;>simp[h]
     exact L2 m (Nat.le_of_lt (hs.1 m PJ)) (hn m (bF _ PJ)) (.inr (hnc m (bF _ Jz)))
   ·have:=TR l1 e σ (fun j hj=>hc j (by simp[hj])) (fun m hm=>hnc m (bF _ hm)) hs.2 (fun i hi=>hn i (bF _ hi)) h;simpa only[aZ,pN]using this
def behind {iP cl : Nat -> List Nat} {l : List Nat} (hlt : ∀ k, ∀ m ∈ iP k, m < k) (kj : ∀ k, ∀ j ∈ cl k, j ∈ iP k \/ ∃ m ∈ iP k, j ∈ cl m) (hinv : ∀ z, z ∉ l -> ∀ i ∈ iP z, i ∉ l) {j : Nat} :
    ∀(k:Nat),(∀ i ∈ iP k,i ∉ l)->j ∈ cl k->j ∉ l:=by
 intro k
 induction k using Nat.strongRecOn with
 | _ k ih =>
   intro hr hj;rcases kj k j hj with h|⟨m,hm,h⟩
   ·exact hr j h
   ·exact ih m (hlt k m hm) (hinv m (hr m hm)) h
def Og {ops : Nat -> cK} {iP cl : Nat -> List Nat} {N : Nat} {jn : List (AX × AX)} (hlt : ∀ k, ∀ m ∈ iP k, m < k) (kj : ∀ k, ∀ j ∈ cl k, j ∈ iP k \/ ∃ m ∈ iP k, j ∈ cl m) : ∀ (n : Nat) (l : List Nat) (e : Env) (σ : ae), l.length = n ->
    (∀ z,z ∉ l-> ∀ i ∈ iP z,i ∉ l)->(∀ i ∈ l,i<N)->l.Pairwise (fun j k=>j<k/\(j ∈ cl k\/L0 ops N jn (cl k) j k))->eT P (jM jn Q) (l.map ops) e σ->EB P (jM jn Q) ops iP n l e σ:=by
 intro n
 induction n with
 | zero=>intro l e σ hl _ _ _ h;cases l with|nil=>exact⟨rfl,h⟩|cons=>cases hl
 | succ n ih =>
   intro l e σ hl hinv hN hp h;refine⟨fun hno=>?_,fun i hi hr=>?_⟩
   ·cases l with
    | nil=>exact h
    | cons x r =>
      obtain⟨j,hj,p_⟩:=hno x (by simp);have h1:=hlt x j hj;rcases List.mem_cons.1 p_ with rfl|h2
      ·exact absurd h1 (gx _)
      ·have:=((List.pairwise_cons.1 hp).1 j h2).1;omega
   ·obtain⟨l1,l2,rfl,hni⟩:=List.eq_append_cons_of_mem hi;have he:(l1++i::l2).erase i=l1++l2:=by rw[List.erase_append_right _ hni,List.erase_cons_head]
    have hp':=List.pairwise_append.1 hp
    have hcp:∀ j ∈ l1,L0 ops N jn (cl i) j i:=fun j hj=>by
     rcases(hp'.2.2 j hj i (by simp)).2 with h1|h1
     ·exact absurd (by simp[hj]) (behind hlt kj hinv i hr h1)
     ·exact h1
    have hb:=TR l1 e σ hcp (fun m hm hmc=>behind hlt kj hinv i hr hmc (by rcases List.mem_append.1 hm with h|h<;>simp[h])) (hp.imp fun h=>h.1) hN h;rw[aZ,pN]at hb;rw[he];refine Ex (fun e σ h=>ih _ e σ ?_ (fun z hz j hj p_=>?_) (fun m hm=>hN m ?_) ?_ h) hb
    ·simp at hl ⊢;omega
    ·have aaI : j ∈ l1 ++ i :: l2 := by
      rcases List.mem_append.1 p_ with h|h<;>simp[h]
     by_cases hzi:z=i
     ·subst hzi;exact hr j hj aaI
     ·refine hinv z (fun hz'=>hz ?_) j hj aaI;rcases List.mem_append.1 hz' with h|h
      ·simp[h]
      ·rcases List.mem_cons.1 h with h|h
       ·exact absurd h hzi
       ·simp[h]
    ·rcases List.mem_append.1 hm with h|h<;>simp[h]
    ·refine List.Pairwise.sublist ?_ hp;exact List.Sublist.append_left (List.sublist_cons_self _ _) _
end
section
variable {P:Program}
def CG(P:Program)(nt:Nat)(h:Hints)(dr:Bool)(all:Array Oper)(o:Oper)(g:cK): Prop :=
 uB P nt h dr o=some g.op/\g.dst=o.dst/\match o.guard with
  | none=>g.guard=none
  | some (j,b)=> ∃ k,(all[j]?).bind (·.dst)=some k/\k<nt/\g.guard=some (k,b)
def HK{nt:Nat}{h:Hints}{dr:Bool}{all:Array Oper}: ∀(l:List Oper) (gs:List cK),lE P nt h dr all l=some gs->gs.length=l.length/\ ∀(i:Nat) (o:Oper),l[i]? = some o-> ∃ g,gs[i]? = some g/\CG P nt h dr all o g:=by
 intro l
 induction l with
 | nil=>intro gs hc;cases hc;exact⟨rfl,fun i o hi=>by cases hi⟩
 | cons o l ih =>
   intro gs hc;simp only[lE]at hc;split at hc
   ·rename_i ao gs' h1 h2;obtain⟨i1,i2⟩:=ih gs' h2;split at hc
    ·rename_i hg;cases hc;refine⟨by simp[i1],fun i o' hi=>?_⟩;cases i with
     | zero=>cases hi;exact⟨_,rfl,h1,rfl,by rw[hg]⟩
     | succ i=>exact i2 i o' hi
    ·rename_i j b hg;split at hc
     ·rename_i k hk;split at hc
      ·rename_i hlt;cases hc;refine⟨by simp[i1],fun i o' hi=>?_⟩;cases i with
       | zero=>cases hi;exact⟨_,rfl,h1,rfl,by rw[hg];exact⟨k,hk,hlt,rfl⟩⟩
       | succ i=>exact i2 i o' hi
      ·cases hc
     ·cases hc
   ·cases hc
def TT {X : List Deferred} {ro : Option Nat} {wn : Nat} {nt : Nat} {h : Hints} {dr : Bool} {ops : Array Oper} {B : Nat -> Prop} {Q : AQ} {g0 : aJ} {w0 : World} {rF : ae} {o : Oper} {gp : cK} {i : Nat} {K : Env -> ae -> Prop} {KK : Act -> World -> Prop}
    {g:aJ} {w:World} {σ : ae} {e:Env} {a:Act} (PG:CG P nt h dr ops o gp) (h0:ops[i]? = some o) (hR:Rel g w σ) (hE:fR nt g w e a.tmps) (hd:j6 X B σ g w a.defers) (hev:fg rF g0 w0 σ g w)
    (hk:∀ g' w' σ' e' a',K e' σ'->Rel g' w' σ'->fR nt g' w' e' a'.tmps->j6 X B σ' g' w' a'.defers->fg rF g0 w0 σ' g' w'->KK a' w') (hw:gO P Q gp K e σ):wpOpIn (WF ro) wn P ops (QR X nt B g0 w0 rF Q) i KK a w:=by
 obtain⟨h1,hds,hgd⟩:=PG
 have go:∀ (e1:Env),fR nt g w e1 a.tmps->gp.op.run P e1 σ (fun v σ'=>K (eX e1 gp.dst v) σ') (fun v σ'=>Q (.panic v) e1 σ')->o.wpIn (WF ro) wn P a w KK (QR X nt B g0 w0 rF Q):=fun e1 wB hrun=>by
  rw[hds]at hrun;refine Oper.LV ?_ ?_ (LQ h1 hR wB hrun)
  ·rintro a' w' ⟨v,g',av,σ',rfl,r1,r2,r3,r4⟩;exact hk g' w' σ' (eX e1 o.dst av) (a.put o.dst v) r4 r1 ((wB.mono r2.mono).put o.dst r3) (by rw[put_defers];exact hd.step r2) (hev.trans r2)
  ·rintro ex a' w' ⟨rfl,v,g',av,σ',rfl,r1,r2,r3,r4⟩;exact⟨g',e1,σ',hd.step r2,r1,wB.mono r2.mono,hev.trans r2,v,av,rfl,r3,r4⟩
 have pass:∀ (e1:Env),fR nt g w e1 a.tmps->K (eX e1 gp.dst (.bO [])) σ->KK (a.put o.dst Go.undef) w:=fun e1 wB hrun =>
  hk g w σ (eX e1 gp.dst (.bO [])) (a.put o.dst Go.undef) hrun hR (by rw[hds];exact wB.put o.dst (.bO [] #[] rfl (fun i hi=>absurd hi (cE _)))) (by rw[put_defers];exact hd) hev
 unfold wpOpIn;simp only[h0];unfold gO at hw;split at hgd
 ·rename_i hg;simp only[hgd]at hw;have Rm:Region.wanted o (yielded ops a.tmps)=true:=by simp[Region.wanted,hg]
  rw[if_pos Rm];exact go e hE hw
 ·rename_i j b hg;obtain⟨k,hk',hlt,hgg⟩:=hgd;simp only[hgg]at hw;obtain⟨w1,w2⟩:=Jy (ops:=ops) hE hg hk' hlt;split at hw
  ·rename_i t ht;have hwn:=w1 t ht;by_cases htb:t=b
   ·subst htb;rw[hwn,if_pos (by simp)];exact go _ (hE.congr ht) (hw.1 rfl)
   ·have:t = !b:=by cases t<;>cases b<;>simp_all
    rw[hwn,if_neg (by simpa using htb)];refine⟨fun _ _=>trivial,pass _ (hE.congr ?_) (hw.2 this)⟩;rw[ht,this]
  ·rename_i ht;rw[w2 ht,if_neg (by simp)];exact⟨fun _ _=>trivial,pass e hE hw⟩
  ·exact hw.elim
def kU(ops:Array Oper)(i:Nat): List Nat :=
 match ops[i]? with
 | some o=>(o.after.toList.filter (Region.binds .any)).map (·.on)
 | none=>[]
def nW: cK:=⟨.lB ⟨false,0⟩,none,none⟩
def TV {X : List Deferred} {ro : Option Nat} {wn : Nat} {nt : Nat} {h : Hints} {ops : Array Oper} {B : Nat -> Prop} {Q : AQ} {g0 : aJ} {w0 : World} {rF : ae} {gs : List cK} (hc : lE P nt h true ops ops.toList = some gs) (hlt : ∀ i, ∀ j ∈ kU ops i, j < i) :
    ∀ (n : Nat) (l : List Nat) (listed : Array Bool) (g : aJ) (w : World) (σ : ae) (e : Env) (a : Act), listed.size = ops.size -> l.Nodup -> (∀ i, i ∈ l ↔ i < ops.size /\ listed.getD i true = false) ->
      EB P Q (fun i=>gs.getD i nW) (kU ops) n l e σ->Rel g w σ->fR nt g w e a.tmps->j6 X B σ g w a.defers->fg rF g0 w0 σ g w ->
      wpAnyIn (WF ro) wn P .any ops (QR X nt B g0 w0 rF Q) n listed a w:=by
 obtain⟨hlen,mS⟩:=HK ops.toList gs hc
 have mem:∀ (l:List Nat) (listed:Array Bool),(∀ i,i ∈ l↔i<ops.size/\listed.getD i true=false)-> ∀ i,i ∈ Region.ready .any ops listed->i ∈ l/\ ∀ j ∈ kU ops i,j ∉ l:=by
  intro l listed hl i hi;simp only[Region.ready,List.mem_filter,cU,aq,cD]at hi;obtain⟨hlt,hun,HL⟩:=hi;refine⟨(hl i).2 ⟨hlt,hun⟩,fun j hj p_=>?_⟩;obtain⟨Jh,FX⟩:=(hl j).1 p_;have ho:ops[i]? = some ops[i]:=by simp[hlt]
  simp only[kU,ho,cC,List.mem_filter]at hj;obtain⟨ed,⟨he1,he2⟩,rfl⟩:=hj;simp only[ho,aS,bu]at HL;have:=Array.all_eq_true_iff_forall_mem.1 HL ed (by simpa using he1);simp only[he2,Bool.not_true,Bool.false_or]at this;rcases Nat.lt_or_ge ed.on listed.size with h'|h'
  ·simp[h']at this FX;rw[this]at FX;cases FX
  ·simp[Array.getElem?_eq_none h']at this
 have aek:∀ (l:List Nat) (listed:Array Bool),listed.size=ops.size->(∀ i,i ∈ l↔i<ops.size/\listed.getD i true=false)->Region.ready .any ops listed=[]-> ∀ i ∈ l,∃ j ∈ kU ops i,j ∈ l:=by
  intro l listed hsz hl zD i hi;obtain⟨Py,hun⟩:=(hl i).1 hi;have ho:ops[i]? = some ops[i]:=by simp[Py]
  have hnot:i ∉ Region.ready .any ops listed:=by rw[zD];simp
  simp only[Region.ready,List.mem_filter,cU,aq,cD,Py,hun,ho,aS,bu,true_and,Array.all_eq_true_iff_forall_mem]at hnot;simp only[Classical.not_forall,Bool.not_eq_true,Bool.or_eq_false_iff,Bool.not_eq_false']at hnot;obtain⟨ed,he,hbd,hls⟩:=hnot
  have hj:ed.on ∈ kU ops i:=by
   simp only[kU,ho,cC,List.mem_filter];exact⟨ed,⟨by simpa using he,hbd⟩,rfl⟩
  have h1:=hlt i _ hj;refine⟨_,hj,(hl _).2 ⟨by omega,?_⟩⟩;have h2:ed.on<listed.size:=by omega
  simp[h2]at hls ⊢;exact hls
 intro n
 induction n with
 | zero =>
   intro l listed g w σ e a hsz eO hl ha hR hE hd hev;obtain⟨rfl,hq⟩:=ha;refine⟨?_,g,e,σ,hd,hR,hE,hev,hq⟩;refine List.eq_nil_iff_forall_not_mem.2 fun i hi=>?_;exact absurd (mem _ _ hl i hi).1 (by simp)
 | succ n ih =>
   intro l listed g w σ e a hsz eO hl ha hR hE hd hev;refine⟨fun zD=>⟨g,e,σ,hd,hR,hE,hev,ha.1 (aek l listed hsz hl zD)⟩,fun i hi=>?_⟩;obtain⟨Yv,hr⟩:=mem l listed hl i hi;have Br:=((hl i).1 Yv).1;have ho:ops[i]? = some ops[i]:=by simp[Br]
   obtain⟨gp,hgp,PG⟩:=mS i ops[i] (by simp[Br]);have hrun:=ha.2 i Yv hr;have hgd:gs.getD i nW=gp:=by simp[List.getD,hgp]
   have hrun:gO P Q gp (EB P Q (fun i=>gs.getD i nW) (kU ops) n (l.erase i)) e σ:=by rw[<-hgd];exact hrun
   refine TT PG ho hR hE hd hev (fun g' w' σ' e' a' hK kJ hE' hd' ael=>?_) hrun;refine ih (l.erase i) _ g' w' σ' e' a' (by simp[hsz]) (eO.erase i) (fun k=>?_) hK kJ hE' hd' ael;rw[eO.mem_erase_iff,hl k];by_cases L3:k=i
   ·subst L3;simp[hsz,Br]
   ·have : (listed.setIfInBounds i true).getD k true = listed.getD k true := by
     simp[eC,Array.getElem?_setIfInBounds_ne (Ne.symm L3)]
    rw[this];simp[L3]
def vL(iP:Nat->List Nat): Nat->List (List Nat)
 | 0=>[]
 | n+1=>let c:=vL iP n;c++[((iP n).flatMap fun m=>c.getD m []).foldl (fun l x=>if l.contains x then l else x::l) (iP n)]
def Dh(n:Nat)(iP:Nat->List Nat)(gs:List cK): Bool :=
 let cl:=vL iP n
 (List.range n).all fun k => (iP k).all (· < k) && (cl.getD k []).all (fun j => (iP k).contains j || (iP k).any fun m => (cl.getD m []).contains j) &&
   (List.range k).all fun j => (cl.getD k []).contains j || (F3 (gs.getD j nW) (gs.getD k nW) && match needs (gs.getD j nW) (gs.getD k nW) with
     | some (x,y)=>(List.range n).all fun m=>decide (m<j) ||(decide (m≠k) && (cl.getD k []).contains m) ||((gs.getD m nW).op.goes && iW (gs.getD m nW).dst (x.uses++y.uses))
     | none=>true)
def tH(n:Nat)(iP:Nat->List Nat)(gs:List cK): List (AX × AX) :=
 let cl:=vL iP n
 ((List.range n).flatMap fun k=>(List.range k).filterMap fun j=>if(cl.getD k []).contains j then none else needs (gs.getD j nW) (gs.getD k nW))++if gs.any fun g=>g.op.Ez then [(.c .k_,.c .k_)]else []
def Zd(h:Hints)(ops:Array Oper): List Nat :=
 let n:=ops.size
 let cl:=vL (kU ops) n
 let ls:=(List.range n).filter fun i=>match(ops[i]?).bind (·.dst)with
  | some d=>h.mth.contains (100000+d)
  | none=>false
 let late:=fun k=>ls.contains k || ls.any fun i=>(cl.getD k []).contains i
 (List.range n).filter (fun k=> !late k)++(List.range n).filter late
def L4(n:Nat)(p:List Nat): Bool:=decide (p.length=n) && decide p.Nodup && p.all (· < n) && (List.range n).all fun x=>p.contains x
def BJ(iP:Nat->List Nat)(p:List Nat)(i:Nat): List Nat:=match p[i]? with
 | some k=>(iP k).map fun j=>p.idxOf j
 | none=>[]
def sw(gs:List cK)(p:List Nat): List cK:=p.map fun i=>gs.getD i nW
def WD(n:Nat)(iP:Nat->List Nat): Bool:=(List.range n).all fun k=>(iP k).all (· < k)
def JA(iP:Nat->List Nat): ∀ n,(vL iP n).length=n
 | 0=>rfl
 | n+1=>by simp[vL,JA iP n]
def QR.mono{X:List Deferred}{nt:Nat}{B:Nat->Prop}{g:aJ}{w:World}{σ : ae}{Q Q':AQ}(h:∀ ex e σ,Q ex e σ->Q' ex e σ){ex:Exit}{a:Act}{w2:World}(hq:QR X nt B g w σ Q ex a w2): QR X nt B g w σ Q' ex a w2:=by
 obtain⟨g',e',σ',h1,h2,h3,h4,h5⟩:=hq;refine⟨g',e',σ',h1,h2,h3,h4,?_⟩;cases ex with
 | panic chain=>obtain⟨v,av,r1,r2,r3⟩:=h5;exact⟨v,av,r1,r2,h _ _ _ r3⟩
 | outgrown=>exact h5
 | normal=>exact h _ _ _ h5
 | exit id=>exact h _ _ _ h5
 | goto l=>exact h _ _ _ h5
 | ret=>exact h _ _ _ h5
def acN {Q : AQ} {n : Nat} {iP : Nat -> List Nat} {gs : List cK} {e : Env} {σ : ae} (hlen : gs.length = n) (hz : ∀ z, n <= z -> iP z = []) (hok : Dh n iP gs = true) (hw : eT P (jM (tH n iP gs) Q) gs e σ) :
    EB P (jM (tH n iP gs) Q) (fun i=>gs.getD i nW) iP n (List.range n) e σ:=by
 simp only[Dh,aW,cU,aq,c_,decide_eq_true_eq,List.any_eq_true,List.contains_iff_mem]at hok
 have hlt:∀ i,∀ j ∈ iP i,j<i:=fun i j hj=>by
  by_cases hi:i<n
  ·exact(hok i hi).1.1 j hj
  ·rw[hz i (Nat.le_of_not_lt hi)]at hj;cases hj
 refine Og (cl:=fun k=>(vL iP n).getD k []) (N:=n) hlt (fun k j hj=>?_) _ _ e σ (by simp) (fun z hz' i hi=>?_) (fun i hi=>by simpa using hi) ?_ ?_
 ·by_cases hk:k<n
  ·exact(hok k hk).1.2 j hj
  ·have : (vL iP n).getD k [] = [] := by
    have:=JA iP n;rw[aj,List.getElem?_eq_none (by omega)];rfl
   rw[this]at hj;cases hj
 ·have:iP z=[]:=hz z (by simpa using hz');rw[this]at hi;cases hi
 ·refine List.pairwise_iff_getElem.2 fun i j hi hj hij=>?_;simp only[List.getElem_range];simp at hi hj;refine⟨hij,?_⟩;by_cases kj:i ∈ (vL iP n).getD j []
  ·exact .inl kj
  ·refine .inr ?_;rcases(hok j hj).2 i hij with h1|⟨h1,h2⟩
   ·exact absurd h1 kj
   ·refine⟨⟨h1,fun hpc=>?_⟩,fun x y hxy=>⟨?_,fun m Jz PJ hm3=>?_⟩⟩
    ·have ha:(gs.any fun g=>g.op.Ez)=true:=List.any_eq_true.2 ⟨_,(by show gs.getD j nW ∈ gs;rw[aj,aL (by omega)];exact cQ _),hpc⟩;unfold Dg tH;rw[if_pos ha];simp[TG]
    ·refine fB _ (List.mem_flatMap.2 ⟨j,by simpa using hj,List.mem_filterMap.2 ⟨i,by simpa using hij,?_⟩⟩);rw[if_neg (by simpa[List.contains_iff_mem]using kj)];exact hxy
    ·simp only[hxy,aW,cU,aq,c_,decide_eq_true_eq]at h2;rcases h2 m PJ with(h3|h3)|h3
     ·omega
     ·rcases hm3 with h4|h4
      ·exact absurd h4 h3.1
      ·exact absurd (List.contains_iff_mem.1 h3.2) h4
     ·exact h3
 ·have : (List.range n).map (fun i => gs.getD i nW) = gs := by
   apply List.ext_getElem
   ·simp[hlen]
   ·intro i h1 h2;simp[aj,h2]
  rw[this];exact hw
def L5 {Q : AQ} {ops ops' : Nat -> cK} {iP aaJ : Nat -> List Nat} {N : Nat} {f : Nat -> Nat} (hinj : ∀ i, i < N -> ∀ j, j < N -> f i = f j -> i = j) (aaK : ∀ i, i < N -> ops' i = ops (f i)) (HL : ∀ i, i < N -> ∀ j, j < N -> (j ∈ aaJ i ↔ f j ∈ iP (f i))) :
    ∀(n:Nat) (l l':List Nat) (e:Env) (σ : ae),l.Nodup->l'.Nodup->(∀ i ∈ l,i<N)->(∀ x,x ∈ l'↔ ∃ i,i ∈ l/\f i=x)->EB P Q ops' aaJ n l e σ->EB P Q ops iP n l' e σ
 | 0, l, l', e, σ, _, _, _, hl, h => by
   obtain⟨h1,h2⟩:=h;subst h1;refine⟨?_,h2⟩;cases l' with
   | nil=>rfl
   | cons x _=>obtain⟨i,hi,_⟩:=(hl x).1 (by simp);cases hi
 | n + 1, l, l', e, σ, hd, hd', hN, hl, h => by
   obtain⟨h1,h2⟩:=h;refine⟨fun hx=>h1 fun i hi=>?_,fun x hx hr=>?_⟩
   ·obtain⟨y,hy1,hy2⟩:=hx (f i) ((hl _).2 ⟨i,hi,rfl⟩);obtain⟨j,hj,rfl⟩:=(hl y).1 hy2;exact⟨j,(HL i (hN i hi) j (hN j hj)).2 hy1,hj⟩
   ·obtain⟨i,hi,rfl⟩:=(hl x).1 hx;have h3:=h2 i hi fun j hj p_=>hr (f j) ((HL i (hN i hi) j (hN j p_)).1 hj) ((hl _).2 ⟨j,p_,rfl⟩);rw[aaK i (hN i hi)]at h3;refine Ex (fun e σ h4=>?_) h3;refine L5 hinj aaK HL n (l.erase i) (l'.erase (f i)) e σ (hd.erase i) (hd'.erase _) (fun k hk=>hN k (List.mem_of_mem_erase hk)) (fun z=>?_) h4;rw[hd'.mem_erase_iff,hl z];constructor
    ·rintro⟨hz,k,hk,rfl⟩;exact⟨k,hd.mem_erase_iff.2 ⟨fun L3=>hz (by rw[L3]),hk⟩,rfl⟩
    ·rintro⟨k,hk,rfl⟩;obtain⟨L3,hk⟩:=hd.mem_erase_iff.1 hk;exact⟨fun hf=>L3 (hinj k (hN k hk) i (hN i hi) hf),k,hk,rfl⟩
def Rp {X : List Deferred} {ro : Option Nat} {wn : Nat} {nt : Nat} {h : Hints} {ops : Array Oper} {B : Nat -> Prop} {Q : AQ} {gs : List cK} {p : List Nat} {id : Nat} {g : aJ} {w : World} {σ : ae} {e : Env} {a : Act} (hc : lE P nt h true ops ops.toList = some gs)
    (hlt:WD ops.size (kU ops)=true) (hp:L4 ops.size p=true) (hok:Dh ops.size (BJ (kU ops) p) (sw gs p)=true) (hm:P.follows .mixedOrders=true) (hw:eT P (jM (tH ops.size (BJ (kU ops) p) (sw gs p)) Q) (sw gs p) e σ) (hR:Rel g w σ) (hE:fR nt g w e a.tmps) (hd:j6 X B σ g w a.defers):(Code.region id ops true).wpIn (WF ro) wn P (QR X nt B g w σ Q) a w:=by
 have Br:∀ i,∀ j ∈ kU ops i,j<i:=fun i j hj=>by
  by_cases hi:i<ops.size
  ·simp only[WD,aW,cU,decide_eq_true_eq]at hlt;exact hlt i hi j hj
  ·have:kU ops i=[]:=by simp[kU,Array.getElem?_eq_none (Nat.le_of_not_lt hi)]
   rw[this]at hj;cases hj
 simp only[L4,aq,decide_eq_true_eq,aW]at hp;obtain⟨⟨⟨BH,L1⟩,hp3⟩,hp4⟩:=hp;refine wpIn_mono (wpIn_region_any hm ?_) fun ex a' w'=>QR.mono (Q:=jM (tH ops.size (BJ (kU ops) p) (sw gs p)) Q) fun _ _ _=>WA;have kJ:=hR.drew (w.drawn+1);have hev:=fg.drew σ g w (w.drawn+1);refine TV hc Br ops.size (List.range ops.size) _ g _ σ e a (by simp) List.nodup_range (fun i=>by simp;intro h;simp[h]) ?_ kJ (hE.mono hev.mono) (hd.step hev) hev;have key:=acN (P:=P) (Q:=Q) (n:=ops.size) (iP:=BJ (kU ops) p) (gs:=sw gs p) (e:=e) (σ:=σ) (by simp[sw,BH]) (fun z hz=>by simp[BJ,List.getElem?_eq_none (show p.length<=z by omega)]) hok hw;have hge:∀ i (hi:i<ops.size),p[i]? = some (p.getD i 0):=fun i hi=>by rw[aj,aL (by omega)];rfl
 have hinj:∀ i,i<ops.size-> ∀ j,j<ops.size->p.getD i 0=p.getD j 0->i=j:=fun i hi j hj hij=>by
  have e1:=hge i hi;have e2:=hge j hj;rw[hij]at e1;exact(List.getElem?_inj (by omega) L1).1 (e1.trans e2.symm)
 have hidx:∀ j,j<ops.size->p.idxOf (p.getD j 0)=j:=fun j hj=>by
  rw[aj,aL (by omega)];exact L1.idxOf_getElem j (by omega)
 have aaL:∀ x,x<ops.size->x ∈ p:=fun x hx=>List.contains_iff_mem.1 (hp4 x (by simpa using hx));refine L5 (N:=ops.size) (f:=fun i=>p.getD i 0) hinj (fun i hi=>?_) (fun i hi j hj=>?_) _ _ _ e σ List.nodup_range List.nodup_range (fun i hi=>by simpa using hi) (fun x=>?_) key
 ·simp only[sw,aj,List.getElem?_map];rw[hge i hi];rfl
 ·simp only[BJ];rw[hge i hi];simp only[cC];constructor
  ·rintro⟨k,hk,rfl⟩
   have hkp:k ∈ p:=by
    have:=Br _ k hk;have h5:p.getD i 0<ops.size:=hp3 _ (fW (hge i hi));exact aaL k (by omega)
   have:p.getD (p.idxOf k) 0=k:=by
    rw[aj,aL (List.idxOf_lt_length_iff.2 hkp)];exact List.getElem_idxOf _
   rw[this];exact hk
  ·intro hk;exact⟨_,hk,hidx j hj⟩
 ·constructor
  ·intro hx;have hx:=aaL x (by simpa using hx);obtain⟨i,hi,rfl⟩:=bC hx;exact⟨i,by simp;omega,by rw[aj,aL hi];rfl⟩
  ·rintro⟨i,hi,rfl⟩;simp only[cU]at hi ⊢;exact hp3 _ (fW (hge i hi))
end
