/- Part. -/
import Derived.Test.YtcjcnfcedihckaaGreatDoorW10
set_option linter.all false
namespace Go.AM
def cL.uses(g:cL): List Nat:=g.op.uses++(match g.guard with|some (k,_)=>[k]|none=>[])
def ie(P:Program)(Q:AQ)(g:cL)(K:Env->ae->Prop)(e:Env)(σ : ae): Prop :=
 match g.guard with
 | none=>g.op.run P e σ (fun v σ'=>K (fm e g.dst v) σ') (fun v σ'=>Q (.panic v) e σ')
 | some (k, b) => match e k with
   | .bool t => (t = b -> g.op.run P (fm e (some k) (.bool b)) σ (fun v σ' => K (fm (fm e (some k) (.bool b)) g.dst v) σ') (fun v σ' => Q (.panic v) (fm e (some k) (.bool b)) σ')) /\
      (t = !b->K (fm (fm e (some k) (.bool (!b))) g.dst (.bU [])) σ)
   | .bU []=>K (fm e g.dst (.bU [])) σ
   | _=>False
def nB{e:Env}{k:Nat}{v:AV}(h:e k=v): fm e (some k) v=e:=by
 funext n;simp only[fm];split
 ·rename_i h1;subst h1;exact h.symm
 ·rfl
section
variable {P:Program} {Q:AQ}
def qh(g:cL)(r:List cL)(e:Env)(σ : ae): ff P Q (g::r) e σ = ie P Q g (ff P Q r) e σ:=by
 obtain⟨o,d,gd⟩:=g;cases gd with
 | none=>rfl
 | some kb=>obtain⟨k,b⟩:=kb;rfl
def cL.D(P:Program)(g:cL)(e:Env)(σ : ae)(v:AV)(σ':ae): Prop :=
 match g.guard with
 | none=>g.op.D P e σ v σ'
 | some (k, b) => match e k with
   | .bool t=>if t=b then g.op.D P e σ v σ' else v = .bU []/\σ' = σ
   | .bU []=>v = .bU []/\σ' = σ
   | _=>False
def kq{g:cL}{e:Env}{σ : ae}{v:AV}{σ':ae}(h:g.D P e σ v σ'): (g.op.D P e σ v σ'/\ ∀ s u s',g.op.D P e s u s'->g.D P e s u s')\/(v = .bU []/\σ' = σ/\ ∀ s,g.D P e s (.bU []) s):=by
 unfold cL.D at *;split at h
 ·exact .inl ⟨h,fun _ _ _ h=>h⟩
 ·split at h
  ·split at h
   ·rename_i h1 h2;simp only[if_pos h2];exact .inl ⟨h,fun _ _ _ h=>h⟩
   ·rename_i h1 h2;simp only[if_neg h2];exact .inr ⟨h.1,h.2,fun _=>⟨trivial,trivial⟩⟩
  ·exact .inr ⟨h.1,h.2,fun _=>⟨rfl,rfl⟩⟩
  ·exact h.elim
def jo{g:cL}{K:Env->ae->Prop}{e:Env}{σ : ae}(hc:g.op.cls≠ .no): ie P Q g K e σ↔ ∃ v σ',g.D P e σ v σ'/\K (fm e g.dst v) σ':=by
 unfold ie cL.D;split
 ·exact DO hc
 ·rename_i k b hg;split
  ·rename_i t ht;by_cases htb:t=b
   ·subst htb;rw[nB ht];simp only[↓reduceIte];constructor
    ·exact fun h=>(DO hc).1 (h.1 trivial)
    ·exact fun h=>⟨fun _=>(DO hc).2 h,fun h=>by cases t<;>cases h⟩
   ·have hn:t = !b:=by cases t<;>cases b<;>simp_all
    have hs:fm e (some k) (.bool (!b))=e:=nB (by rw[ht,hn]);simp only[if_neg htb,hs];constructor
    ·exact fun h=>⟨_,σ,⟨rfl,rfl⟩,h.2 hn⟩
    ·rintro⟨v,τ,⟨rfl,rfl⟩,h⟩;exact⟨fun h'=>absurd h' htb,fun _=>h⟩
  ·constructor
   ·exact fun h=>⟨_,σ,⟨rfl,rfl⟩,h⟩
   ·rintro⟨v,τ,⟨rfl,rfl⟩,h⟩;exact h
  ·constructor
   ·exact fun h=>h.elim
   ·exact fun⟨_,_,h,_⟩=>h.elim
def Fq{g:cL}{K K':Env->ae->Prop}{e:Env}{σ : ae}(h:∀ e σ,K e σ->K' e σ): ie P Q g K e σ->ie P Q g K' e σ:=by
 unfold ie;split
 ·exact rM (fun v s=>h _ _) (fun _ _ h=>h)
 ·split
  ·exact fun hh=>⟨fun ht=>rM (fun v s=>h _ _) (fun _ _ h=>h) (hh.1 ht),fun ht=>h _ _ (hh.2 ht)⟩
  ·exact h _ _
  ·exact id
def Fs{g:cL}{e e':Env}{σ : ae}{v:AV}{σ':ae}(h:∀ t ∈ g.uses,e t=e' t)(hD:g.D P e σ v σ'): g.D P e' σ v σ':=by
 have ho:∀ t ∈ g.op.uses,e t=e' t:=fun t ht=>h t (fK _ ht);unfold cL.D at *;split at hD
 ·rename_i hg;exact QM ho hD
 ·rename_i k b hg;have hk:e k=e' k:=h k (by simp[cL.uses,hg]);rw[<-hk];split at hD
  ·split at hD
   ·rename_i h1 h2;simp only[h1,if_pos h2];exact QM ho hD
   ·rename_i h1 h2;simp only[h1,if_neg h2];exact hD
  ·simp_all
  ·exact hD.elim
def qi{g:cL}{e:Env}{σ : ae}{v:AV}{σ':ae}(hc:g.op.cls = .pu\/g.op.cls = .rd)(hD:g.D P e σ v σ'): σ' = σ:=by
 rcases kq hD with⟨h,_⟩|⟨_,h,_⟩
 ·exact abF hc h
 ·exact h
def QY{g:cL}{e:Env}{σ : ae}{v:AV}{σ':ae}(hc:g.op.cls = .pu\/g.op.cls = .rd)(hD:g.D P e σ v σ')(τ : ae): g.D P e (σ++ τ) v (σ++ τ):=by
 rcases kq hD with⟨h,f⟩|⟨rfl,_,f⟩
 ·exact f _ _ _ (abG hc h τ)
 ·exact f _
def QZ{g:cL}{e:Env}{σ : ae}{v:AV}{σ':ae}(hc:g.op.cls = .pu)(hD:g.D P e σ v σ')(s:ae): g.D P e s v s:=by
 rcases kq hD with⟨h,f⟩|⟨rfl,_,f⟩
 ·exact f _ _ _ (abH hc h s)
 ·exact f _
def adY{g:cL}{e:Env}{σ : ae}{v:AV}{σ':ae}(hc:g.op.cls = .al)(hD:g.D P e σ v σ'): ∃ τ,σ' = σ++ τ:=by
 rcases kq hD with⟨h,_⟩|⟨_,h,_⟩
 ·exact afj hc h
 ·exact⟨[],by simp[h]⟩
def abS {g : cL} {e : Env} {σ : ae} {v : AV} {σ' : ae} {l : Nat} {ob mF : aZ} {rx : Option AX} (hr : g.op.qg = some rx) (hl : σ[l]? = some ob) (GB : ob.like mF) (hap : ∀ x, rx = some x -> (x.ev e).obj ≠ some l) (hD : g.D P e σ v σ') :
    g.D P e (σ.set l mF) v (σ.set l mF):=by
 rcases kq hD with⟨h,f⟩|⟨rfl,_,f⟩
 ·exact f _ _ _ (adS hr hl GB hap h)
 ·exact f _
def adZ{g:cL}{e:Env}{σ : ae}{v:AV}{σ':ae}(hc:g.op.cls = .st)(hD:g.D P e σ v σ'): σ' = σ\/ ∃ y l ob mF,g.op.rN=some y/\σ[l]? = some ob/\ob.like mF/\(y.ev e).obj=some l/\σ' = σ.set l mF:=by
 rcases kq hD with⟨h,_⟩|⟨_,h,_⟩
 ·exact .inr (abI hc h)
 ·exact .inl h
def jg(d:Option Nat)(l:List Nat): Bool:=match d with
 | some d=> !l.contains d
 | none=>true
def x4(ag:Bool)(n t:Nat): List (Bool × Nat)->List AX->Bool
 |(ag',n')::r,.t t'::xs=>(ag==ag' && n==n' && t==t') || x4 ag n t r xs
 | _::r,_::xs=>x4 ag n t r xs
 | _,_=>false
def M8: br->br->Bool
 | .load ag n (.t t),.ex (.cw _ k BU) az=>x4 ag n t BU (az.drop k)
 | _,_=>false
def MG(j k:br): Bool :=
 match j.cls,k.cls with
 | .no,_|_,.no=>false
 | .pu,_|_,.pu=>true
 | .rd,.rd | .rd,.al=>true
 | .rd,.st=>j.qg.isSome
 | .st, .st => match j.ME, k.ME with
   | some a,some b=>a != b
   | _,_=>false
 | .st,.rd=>j.rN.isSome && k.oT.isSome
 | .rd, .ap => match j.qg with
   | some (some _)=>true
   | _=>false
 | .rd,.cw=>M8 j k
 | _,_=>false
def br.Ft: br->Bool
 | .ex (.pc _) _=>true
 | _=>false
def SA(j k:br): Bool:=k.Ft && decide (j.cls≠ .no)
def GP(j k:cL): Bool :=
 (MG j.op k.op || SA j.op k.op) && jg j.dst k.uses && jg k.dst j.uses && jg j.dst k.dst.toList
def needs(j k:cL): Option (AX × AX):=match j.op.qg,k.op.rN with
 | some (some x),some y=>some (x,y)
 | _, _ => match j.op.rN, k.op.oT with
   | some y,some x=>some (x,y)
   | _,_=>none
def SB{o:br}{x:AX}(h:o.oT=some x): o.rN=none:=by
 cases o<;>simp[br.oT]at h<;>rfl
def iR{e:Env}{d:Option Nat}{l:List Nat}{v:AV}(h:jg d l=true): ∀ t ∈ l,fm e d v t=e t:=by
 intro t ht;cases d with
 | none=>rfl
 | some d =>
   simp only[jg,cF,List.contains_eq_mem,decide_eq_false_iff_not]at h;simp only[fm];rw[if_neg (by rintro rfl;exact h ht)]
def Fu{e:Env}{j k:Option Nat}{v u:AV}(h:jg j k.toList=true): fm (fm e j v) k u=fm (fm e k u) j v:=by
 funext t
 cases j with
 | none=>rfl
 | some j =>
   cases k with
   | none=>rfl
   | some k =>
     simp[jg]at h;simp only[fm];by_cases h1:t=k
     ·subst h1;simp[Ne.symm h]
     ·simp[h1]
def XK{j k:br}(h:MG j k=true): j.cls≠ .no/\k.cls≠ .no:=by
 unfold MG at h;split at h<;>simp_all
def GQ{el:El}{x:AV}{off:Nat}{ag:Bool}{n:Nat}{K K':AV->Prop}(h1:partOf el x off ag n K)(h2:partOf el x off ag n K'): ∃ v,K v/\K' v:=by
 unfold partOf at h1 h2;by_cases h:off=0/\n=el.sz/\ag=el.ag
 ·rw[if_pos h]at h1 h2;exact⟨_,h1,h2⟩
 ·rw[if_neg h]at h1 h2;obtain⟨_,h1⟩:=h1;obtain⟨_,h2⟩:=h2;cases x<;>first|exact h1.elim|exact⟨_,h1.1,h2.1⟩
def U1{σ : ae}{ag:Bool}{n:Nat}{p:AV}{K K':AV->Prop}(h1:iI σ ag n p K)(h2:iI σ ag n p K'): ∃ v,K v/\K' v:=by
 unfold iI at h1 h2;cases p<;>(try exact h1.elim)
 case ref l off =>
  dsimp only at h1 h2;split at h1
  ·rename_i h;rw[h]at h2;exact⟨_,h1.2.2,h2.2.2⟩
  ·exact h1.elim
 case dY el x off=>exact GQ h1 h2
 case eJ el l m i off =>
  dsimp only at h1 h2;split at h1
  ·rename_i h;rw[h]at h2;exact GQ h1.2.2.2 h2.2.2.2
  ·exact h1.elim
def Cc{σ σ2:ae}{e:Env}{ag:Bool}{n t:Nat}: ∀(BU:List (Bool × Nat)) (xs:List AX),x4 ag n t BU xs=true->Gw σ σ2 BU (xs.map (AX.ev e))-> ∃ v,iI σ ag n (e t) (fun u=>u=v)/\iI σ2 ag n (e t) (fun u=>u=v)
 | [],xs,h,_=>by cases xs<;>simp[x4]at h
 |(ag',n')::r,[],h,_=>by simp[x4]at h
 | (ag', n') :: r, x :: xs, h, hk => by
   obtain⟨h1,h2⟩:=hk;cases x with
   | c a=>exact Cc r xs (by simpa[x4]using h) h2
   | t t' =>
     simp only[x4,dm,aq,beq_iff_eq]at h;rcases h with⟨⟨rfl,rfl⟩,rfl⟩|h
     ·exact h1
     ·exact Cc r xs h h2
def afx{j k:br}{e:Env}{σ σ2:ae}{vj vk:AV}(h:M8 j k=true)(dj:j.D P e σ vj σ)(dk:k.D P e σ vk σ2): j.D P e σ2 vj σ2:=by
 unfold M8 at h;split at h
 ·rename_i ag n t f k BU az;obtain⟨hj,_⟩:=(show(∀ τ,(br.load ag n (.t t)).run P e (σ++ τ) (Is vj (σ++ τ)) No)/\σ = σ from dj)
  replace dk:(fM.cw f k BU).run P (az.map (AX.ev e)) σ (Is vk σ2) No:=dk
  obtain⟨s2,hk,rfl⟩:∃ s2,Gw σ s2 BU ((az.map (AX.ev e)).drop k)/\s2 = σ2:=by
   cases az with
   | nil=>exact dk.elim
   | cons x xs=>obtain⟨r,s2,_,hk,_,e2⟩:=dk;exact⟨s2,hk,e2⟩
  rw[<-List.map_drop]at hk;obtain⟨v,h1,h2⟩:=Cc _ _ h hk
  have h3:iI σ ag n (e t) (fun u=>u=vj):=by
   have:iI (σ++[]) ag n (e t) (fun u=>Is vj (σ++[]) u (σ++[])):=hj [];rw[bY]at this;exact lP (fun v h=>h.1) this
  obtain⟨u,rfl,rfl⟩:=U1 h1 h3;obtain⟨u',h4,rfl⟩:=uf h2
  exact(show(∀ τ,(br.load ag n (.t t)).run P e (s2++ τ) (Is u' (s2++ τ)) No)/\s2=s2 from
   ⟨fun τ=>(show iI (s2++ τ) ag n (e t) (fun u=>Is u' (s2++ τ) u (s2++ τ)) from lP (fun v h=>⟨h,rfl⟩) (h4 τ)),rfl⟩)
 ·cases h
def cL.ZB(P:Program)(g:cL)(n:FuncId)(az:List AX)(e:Env): Option Out->Prop
 | none => match g.guard with
   | none=>False
   | some (k, b) => match e k with
     | .bool t=>t = !b
     | .bU []=>True
     | _=>False
 | some o => (∀ s, cR P n (az.map (AX.ev e)) s fun o' s' => o' = o /\ s' = s) /\ match g.guard with
   | none=>True
   | some (k,b)=>e k = .bool b
def pcE(P:Program)(Q:AQ)(d:Option Nat)(K:Env->ae->Prop)(e:Env)(σ : ae): Option Out->Prop
 | none=>K (fm e d (.bU [])) σ
 | some (.ret r)=>K (fm e d r) σ
 | some (.panic v)=> ∀ s,Q (.panic v) e s
def U2{g:cL}{n:FuncId}{az:List AX}{K:Env->ae->Prop}{e:Env}{σ : ae}(hg:g.op = .ex (.pc n) az): ie P Q g K e σ↔ ∃ o,g.ZB P n az e o/\pcE P Q g.dst K e σ o:=by
 have key:∀ {K1:AV->ae->Prop} {K2:AV->ae->Prop},g.op.run P e σ K1 K2↔ ∃ o,(∀ s,cR P n (az.map (AX.ev e)) s fun o' s'=>o'=o/\s'=s)/\pcK (fun r=>K1 r σ) (fun v=> ∀ s,K2 v s) o:=by
  intro K1 K2;rw[hg];exact Iff.rfl
 unfold ie cL.ZB;cases hgd:g.guard with
 | none =>
   simp only;rw[key];constructor
   ·rintro⟨o,h1,h2⟩;exact⟨some o,⟨h1,trivial⟩,by cases o<;>exact h2⟩
   ·rintro⟨o,h1,h2⟩;cases o with
    | none=>exact h1.elim
    | some o=>exact⟨o,h1.1,by cases o<;>exact h2⟩
 | some kb =>
   obtain⟨k,b⟩:=kb;simp only;split
   ·rename_i t ht;constructor
    ·rintro⟨h1,h2⟩;by_cases htb:t=b
     ·have h1:=h1 htb;subst htb;rw[nB ht,key]at h1;obtain⟨o,h3,h4⟩:=h1;exact⟨some o,⟨h3,by rw[ht]⟩,by cases o<;>exact h4⟩
     ·have hn:t = !b:=by cases t<;>cases b<;>simp_all
      have h2:=h2 hn;rw[nB (by rw[ht,hn])]at h2;exact⟨none,by rw[ht];exact hn,h2⟩
    ·rintro⟨o,h1,h2⟩;cases o with
     | none =>
       rw[ht]at h1;have h1:t = !b:=h1;refine⟨fun h=>absurd h (by rw[h1];cases b<;>decide),fun _=>?_⟩;rw[nB (by rw[ht,h1])];exact h2
     | some o =>
       obtain⟨h3,h4⟩:=h1;have h4:e k = .bool b:=h4;have htb:t=b:=AV.bool.inj (ht.symm.trans h4);refine⟨fun _=>?_,fun h=>absurd h (by rw[htb];cases b<;>decide)⟩;rw[nB h4,key];exact⟨o,h3,by cases o<;>exact h2⟩
   ·rename_i ht;constructor
    ·intro h;exact⟨none,by rw[ht];trivial,h⟩
    ·rintro⟨o,h1,h2⟩;cases o with
     | none=>exact h2
     | some o=>exact absurd (ht.symm.trans h1.2) (by simp)
   ·rename_i h3 h4;constructor
    ·exact fun h=>h.elim
    ·rintro⟨o,h1,h2⟩;cases o with
     | none =>
       exact False.elim h1
     | some o=>exact(h3 _ h1.2).elim
def aap {j k : cL} {K : Env -> ae -> Prop} {e : Env} {σ : ae} (nC : SA j.op k.op = true) (s1 : jg j.dst k.uses = true) (s2 : jg k.dst j.uses = true) (s3 : jg j.dst k.dst.toList = true)
    (hQ:∀ v e e' σ,Q (.panic v) e σ->Q (.panic v) e' σ) (hh:ie P Q j (ie P Q k K) e σ):ie P Q k (ie P Q j K) e σ:=by
 simp only[SA,aq,decide_eq_true_eq]at nC;obtain⟨hk,hj⟩:=nC
 obtain⟨n,az,hg⟩:∃ n az,k.op = .ex (.pc n) az:=by
  revert hk;cases k.op<;>simp[br.Ft];rename_i o xs;cases o<;>simp[br.Ft]
 obtain⟨vj,Q0,dj,hh⟩:=(jo hj).1 hh;obtain⟨o,h1,h2⟩:=(U2 hg).1 hh;have hu:∀ t ∈ k.uses,fm e j.dst vj t=e t:=iR s1
 have hz:az.map (AX.ev (fm e j.dst vj))=az.map (AX.ev e):=by
  exact AX.oa fun t ht=>hu t (by simp only[cL.uses,hg];exact fK _ ht)
 have hR:k.ZB P n az e o:=by
  have U3:∀ m b,k.guard=some (m,b)->fm e j.dst vj m=e m:=fun m b h=>hu m (by simp[cL.uses,h]);unfold cL.ZB at h1 ⊢;cases o with
  | none =>
    cases hgd:k.guard with
    | none=>rw[hgd]at h1;exact h1.elim
    | some kb=>obtain⟨m,b⟩:=kb;rw[hgd]at h1;simp only[U3 m b hgd]at h1;exact h1
  | some o =>
    rw[hz]at h1;refine⟨h1.1,?_⟩;cases hgd:k.guard with
    | none=>trivial
    | some kb=>obtain⟨m,b⟩:=kb;have:=h1.2;rw[hgd]at this;simp only[U3 m b hgd]at this;exact this
 have tr:∀ v,j.D P (fm e k.dst v) σ vj Q0:=fun v=>Fs (fun t ht=>(iR s2 t ht).symm) dj;refine(U2 hg).2 ⟨o,hR,?_⟩;cases o with
 | none=>exact(jo hj).2 ⟨vj,Q0,tr _,by rw[<-Fu s3];exact h2⟩
 | some o =>
   cases o with
   | ret r=>exact(jo hj).2 ⟨vj,Q0,tr _,by rw[<-Fu s3];exact h2⟩
   | panic v=>exact fun s=>hQ _ _ _ _ (h2 s)
def swap {j k : cL} {K : Env -> ae -> Prop} {e : Env} {σ : ae} (h : GP j k = true) (hQ : k.op.Ft = true -> ∀ v e e' σ, Q (.panic v) e σ -> Q (.panic v) e' σ) (hap : ∀ x y, needs j k = some (x, y) -> (jg j.dst (x.uses ++ y.uses) = true /\ jg k.dst (x.uses ++ y.uses) = true) /\ ∀ e σ, K e σ -> qU (x.ev e) (y.ev e))
    (hh:ie P Q j (ie P Q k K) e σ):ie P Q k (ie P Q j K) e σ:=by
 simp only[GP,aq]at h;obtain⟨⟨⟨nC,s1⟩,s2⟩,s3⟩:=h;rcases Bool.or_eq_true _ _ ▸ nC with nC|nC
 case inr=>exact aap nC s1 s2 s3 (hQ (by simp only[SA,aq]at nC;exact nC.1)) hh
 obtain⟨hj,hk⟩:=XK nC;obtain⟨vj,Q0,dj,hh⟩:=(jo hj).1 hh;obtain⟨vk,ZC,dk,hK⟩:=(jo hk).1 hh;have za:k.D P e Q0 vk ZC:=Fs (iR s1) dk;have tr:∀ {s s'},j.D P e s vj s'->j.D P (fm e k.dst vk) s vj s':=fun h=>Fs (fun t ht=>(iR s2 t ht).symm) h;have qV:=hK;rw[Fu s3]at hK
 have kpu:k.op.cls = .pu->ie P Q k (ie P Q j K) e σ:=fun hc=>by
  have:=qi (.inl hc) za;subst this;exact(jo hk).2 ⟨vk,σ,QZ hc za σ,(jo hj).2 ⟨vj,_,tr dj,hK⟩⟩
 have Cd:Q0 = σ->j.D P e ZC vj ZC->ie P Q k (ie P Q j K) e σ:=fun h1 h2=>by
  subst h1;exact(jo hk).2 ⟨vk,ZC,za,(jo hj).2 ⟨vj,_,tr h2,hK⟩⟩
 unfold MG at nC;split at nC<;>(try (cases nC;done))
 ·rename_i hc _;exact Cd (qi (.inl hc) dj) (QZ hc dj _)
 ·rename_i hc _ _;exact kpu hc
 ·rename_i hc hc2;have h1:=qi (.inr hc) dj;have h2:=qi (.inr hc2) za;subst h1;subst h2;exact Cd rfl dj
 ·rename_i hc hc2;have h1:=qi (.inr hc) dj;subst h1;obtain⟨τ,rfl⟩:=adY hc2 za;exact Cd rfl (QY (.inr hc) dj τ)
 ·rename_i hc hc2;have h1:=qi (.inr hc) dj;subst h1;rcases adZ hc2 za with rfl|⟨y,l,ob,mF,hy,hl,GB,M9,rfl⟩
  ·exact Cd rfl dj
  ·obtain⟨rx,GR⟩:=fA.1 nC;refine Cd rfl (abS GR hl GB (fun x hx=>?_) dj);subst hx;have hn:needs j k=some (x,y):=by simp[needs,GR,hy]
   obtain⟨⟨a1,a2⟩,a3⟩:=hap x y hn;have ha:=a3 _ _ qV
   have ex:∀ t ∈ x.uses++y.uses,fm (fm e j.dst vj) k.dst vk t=e t:=fun t ht=>by
    rw[iR a2 t ht,iR a1 t ht]
   rw[AX.eP (x:=x) (fun t ht=>ex t (fK _ ht)),AX.eP (x:=y) (fun t ht=>ex t (List.mem_append_right _ ht))]at ha;exact fun h1=>ha l h1 M9
 ·
  split at nC
  ·rename_i a b ra rb;rcases kq dj with⟨dj1,dj2⟩|⟨rfl,rfl,GJ⟩
   ·rcases kq za with⟨U4,dk2⟩|⟨rfl,rfl,lj⟩
    ·obtain⟨n,o1,n1,n2,n3,rfl,n4⟩:=Zo ra dj1;obtain⟨m,o2,m1,m2,m3,rfl,m4⟩:=Zo rb U4
     have hnm:n≠m:=by
      rintro rfl;rw[List.getElem?_set_self (aP.1 n2).1]at m2;exact n3 (Option.some.inj m2)
     rw[List.getElem?_set_ne hnm]at m2;refine(jo hk).2 ⟨_,_,dk2 _ _ _ (m4 σ m2),(jo hj).2 ⟨_,_,tr (dj2 _ _ _ (n4 _ (by rw[List.getElem?_set_ne (Ne.symm hnm)];exact n2))),?_⟩⟩;rw[List.set_comm _ _ (Ne.symm hnm)];exact hK
    ·exact(jo hk).2 ⟨_,_,lj σ,(jo hj).2 ⟨_,_,tr dj,hK⟩⟩
   ·exact(jo hk).2 ⟨_,_,za,(jo hj).2 ⟨_,_,tr (GJ _),hK⟩⟩
  ·cases nC
 ·
  rename_i hc _;simp only[aq,fA]at nC;obtain⟨⟨y,ry⟩,x,rx⟩:=nC;have h2:=qi (.inr (GC rx)) za;subst h2;rcases kq dj with⟨dj1,_⟩|⟨rfl,rfl,_⟩
  ·obtain⟨y',l,ob,mF,hy,n2,_,ad0,rfl⟩:=abI hc dj1;obtain rfl:y=y':=by rw[ry]at hy;exact Option.some.inj hy
   have hn:needs j k=some (x,y):=by
    unfold needs;rw[SB rx,ry,rx];cases j.op.qg with
    | none=>rfl
    | some o=>cases o<;>rfl
   obtain⟨⟨a1,a2⟩,a3⟩:=hap x y hn;have ha:=a3 _ _ qV
   have ex:∀ t ∈ x.uses++y.uses,fm (fm e j.dst vj) k.dst vk t=e t:=fun t ht=>by
    rw[iR a2 t ht,iR a1 t ht]
   rw[AX.eP (x:=x) (fun t ht=>ex t (fK _ ht)),AX.eP (x:=y) (fun t ht=>ex t (List.mem_append_right _ ht))]at ha;have hlt:=(aP.1 n2).1;have M9:(x.ev e).obj≠some l:=fun h=>ha l h ad0
   have back:(σ.set l mF).set l ob = σ:=by
    rw[bF];apply List.ext_getElem?;intro i;by_cases hi:i=l
    ·subst hi;rw[List.getElem?_set_self hlt];exact n2.symm
    ·rw[List.getElem?_set_ne (Ne.symm hi)]
   have dk':k.D P e σ vk σ:=by
    rcases kq za with⟨q1,q2⟩|⟨rfl,_,q⟩
    ·have:=QO (ob:=ob) rx (by simpa using hlt) M9 q1;rw[back]at this;exact q2 _ _ _ this
    ·exact q σ
   exact(jo hk).2 ⟨vk,σ,dk',(jo hj).2 ⟨vj,_,tr dj,hK⟩⟩
  ·exact(jo hk).2 ⟨vk,_,za,(jo hj).2 ⟨_,_,tr dj,hK⟩⟩
 ·
  rename_i hc hc2;have h1:=qi (.inr hc) dj;subst h1;split at nC
  ·rename_i x GR
   have hro:j.op.oT=some x:=by
    revert GR;cases j.op<;>simp[br.qg,br.oT]
   rcases kq za with⟨U4,_⟩|⟨rfl,rfl,_⟩
   ·obtain⟨y,hy,⟨τ,rfl⟩|⟨l,ob,hlt,M9,rfl⟩⟩:=afk hc2 U4
    ·exact Cd rfl (QY (.inr hc) dj τ)
    ·have hn:needs j k=some (x,y):=by simp[needs,GR,hy]
     obtain⟨⟨a1,a2⟩,a3⟩:=hap x y hn;have ha:=a3 _ _ qV
     have ex:∀ t ∈ x.uses++y.uses,fm (fm e j.dst vj) k.dst vk t=e t:=fun t ht=>by
      rw[iR a2 t ht,iR a1 t ht]
     rw[AX.eP (x:=x) (fun t ht=>ex t (fK _ ht)),AX.eP (x:=y) (fun t ht=>ex t (List.mem_append_right _ ht))]at ha;refine Cd rfl ?_;rcases kq dj with⟨q1,q2⟩|⟨rfl,_,q⟩
     ·exact q2 _ _ _ (QO hro hlt (fun h=>ha l h M9) q1)
     ·exact q _
   ·exact Cd rfl dj
  ·cases nC
 ·
  rename_i hc _;have h1:=qi (.inr hc) dj;subst h1;rcases kq za with⟨U4,_⟩|⟨rfl,rfl,_⟩
  ·rcases kq dj with⟨q1,q2⟩|⟨rfl,_,q⟩
   ·exact Cd rfl (q2 _ _ _ (afx nC q1 U4))
   ·exact Cd rfl (q _)
  ·exact Cd rfl dj
variable (P Q) in
def Fv(ops:Nat->cL)(i_:Nat->List Nat): Nat->List Nat->Env->ae->Prop
 | 0,l,e,σ=>l=[]/\Q .normal e σ
 | n+1,l,e,σ=>((∀ i ∈ l,∃ j ∈ i_ i,j ∈ l)->Q .normal e σ)/\ ∀ i ∈ l,(∀ j ∈ i_ i,j ∉ l)->ie P Q (ops i) (Fv ops i_ n (l.erase i)) e σ
def fM.goes: fM->Bool
 | .inv _ | .pc _=>false
 | _=>true
def br.goes: br->Bool
 | .app ..=>true
 | .ex o _=>o.goes
 | o=>o.cls != .no
def M_{o:br}{e:Env}{σ : ae}{K Kp:AV->ae->Prop}(h:o.goes=true)(hh:o.run P e σ K Kp): ∃ v σ',K v σ':=by
 by_cases hn:o.cls≠ .no
 ·obtain⟨v,σ',_,h⟩:=(DO hn).1 hh;exact⟨v,σ',h⟩
 ·by_cases hx:∃ o' xs,o = .ex o' xs
  ·obtain⟨o',xs,rfl⟩:=hx;obtain⟨v,σ',_,h1⟩:=fM.det (by replace h:o'.goes=true:=h;cases o'<;>first|(intro e;cases e;done)|(cases h;done)) (show o'.run P (xs.map (AX.ev e)) σ K Kp from hh);exact⟨v,σ',h1⟩
  cases o<;>(try (exact absurd ⟨_,_,rfl⟩ hx))<;>simp[br.goes]at h<;>(try (exact absurd h hn));rename_i T el x1 y1;simp only[br.run,oY]at hh;generalize AX.ev e _=y at hh
  have key:∀ (ys:List AV) (x:AV),(match x with
   | .au=>if ys.length=0 then K .au σ else fR ys.length el/\K (.own el σ.length ys.length 0 ys.length) (σ++[.cz T el ys])
   | .aO true bq xs=>bq=el/\if ys.length=0 then K (.aO true el xs) σ else fR (xs.length+ys.length) el/\K (.own el σ.length (xs.length+ys.length) 0 (xs.length+ys.length)) (σ++[.cz T el (xs++ys)])
   | .own bq l m lo n => bq = el /\ match σ[l]? with
     | some (.cz T' bj xs)=>(T'=none\/T'=T)/\bj=el/\m=xs.length/\lo=0/\n=xs.length/\fR (xs.length+ys.length) el/\K (.own el l (xs.length+ys.length) 0 (xs.length+ys.length)) (σ.set l (.cz T' el (xs++ys)))
     | _=>False
   | _=>False)-> ∃ v σ',K v σ':=fun ys x hx=>by
   split at hx
   ·split at hx
    ·exact⟨_,_,hx⟩
    ·exact⟨_,_,hx.2⟩
   ·replace hx:=hx.2
    split at hx
    ·exact⟨_,_,hx⟩
    ·exact⟨_,_,hx.2⟩
   ·replace hx:=hx.2
    split at hx
    ·exact⟨_,_,hx.2.2.2.2.2.2⟩
    ·exact hx.elim
   ·exact hx.elim
  unfold fP at hh;split at hh
  ·exact key _ _ hh.2
  ·exact key _ _ hh.2.2
  ·replace hh:=hh.2
   split at hh
   ·exact key _ _ hh.2.2.2
   ·exact hh.elim
  ·exact key _ _ hh.2.2
  ·obtain⟨u,_,h2⟩:=uf hh.2.2;exact key _ _ h2.2
  ·exact hh.elim
def XL{g:cL}{K:Env->ae->Prop}{e:Env}{σ : ae}(hc:g.op.goes=true)(h:ie P Q g K e σ): ∃ v σ',K (fm e g.dst v) σ':=by
 unfold ie at h;split at h
 ·exact M_ hc h
 ·rename_i k b hg;split at h
  ·rename_i t ht;by_cases htb:t=b
   ·obtain⟨v,s,h⟩:=M_ hc (h.1 htb);rw[nB (by rw[ht,htb])]at h;exact⟨v,s,h⟩
   ·have hn:t = !b:=by cases t<;>cases b<;>simp_all
    have h:=h.2 hn;rw[nB (by rw[ht,hn])]at h;exact⟨_,_,h⟩
  ·exact⟨_,_,h⟩
  ·exact h.elim
def U5{C:Env->Prop}{us:List Nat}(hC:∀ e σ,Q .normal e σ->C e)(Q5:∀ e e',(∀ t ∈ us,e' t=e t)->C e'->C e): ∀(l:List cL) (e:Env) (σ : ae),(∀ g ∈ l,g.op.goes=true/\jg g.dst us=true)->ff P Q l e σ->C e
 | [],e,σ,_,h=>hC e σ h
 | g :: l, e, σ, hl, h => by
   rw[qh]at h;obtain⟨h1,h2⟩:=hl g (by simp);obtain⟨v,σ',h⟩:=XL h1 h;exact Q5 e _ (iR h2) (U5 hC Q5 l _ σ' (fun g hg=>hl g (by simp[hg])) h)
def Na{jK:List (AX × AX)}{e:Env}(h:pK jK e){x y:AX}(hm:(x,y) ∈ jK): qU (x.ev e) (y.ev e):=by
 induction jK with
 | nil=>cases hm
 | cons p r ih =>
   obtain⟨a,b⟩:=p;rcases List.mem_cons.1 hm with h1|h1
   ·cases h1;exact h.1
   ·exact ih h.2 h1
def Nb(ops:Nat->cL)(n:Nat)(jK:List (AX × AX))(ck:List Nat)(j k:Nat): Prop :=
 (GP (ops j) (ops k)=true/\((ops k).op.Ft=true->DS jK=true))/\ ∀ x y,needs (ops j) (ops k)=some (x,y)->(x,y) ∈ jK/\ ∀ m,j<=m->m<n->(m=k\/m ∉ ck)->(ops m).op.goes=true/\jg (ops m).dst (x.uses++y.uses)=true
def U6 {ops : Nat -> cL} {n : Nat} {jK : List (AX × AX)} {k : Nat} {ck : List Nat} {l2 : List Nat} : ∀ (l1 : List Nat) (e : Env) (σ : ae), (∀ j ∈ l1, Nb ops n jK ck j k) -> (∀ m ∈ l1 ++ l2, m ∉ ck) -> (l1 ++ k :: l2).Pairwise (· < ·) -> (∀ i ∈ l1 ++ k :: l2, i < n) ->
    ff P (j4 jK Q) ((l1++k::l2).map ops) e σ->ff P (j4 jK Q) ((k::(l1++l2)).map ops) e σ
 | [],e,σ,_,_,_,_,h=>h
 | j :: l1, e, σ, hc, hnc, hs, hn, h => by
   rw[bD,aU,qh]at h;rw[aU,qh,bD,aU];have heq:ff P (j4 jK Q) (ops j::(l1++l2).map ops)=ie P (j4 jK Q) (ops j) (ff P (j4 jK Q) ((l1++l2).map ops)):=by funext e σ;exact qh _ _ _ _
   rw[heq];rw[bD,List.pairwise_cons]at hs;obtain⟨zb,Nc⟩:=hc j (by simp);refine swap zb.1 (fun h v e e' σ=>UY (zb.2 h)) (fun x y hxy=>?_) (Fq (fun e σ h=>?_) h)
   ·obtain⟨hm,Ac⟩:=Nc x y hxy;have Ce:j<k:=hs.1 k (by simp);refine⟨⟨(Ac j (Nat.le_refl _) (hn j (by simp)) (.inr (hnc j (by simp)))).2,(Ac k (Nat.le_of_lt Ce) (hn k (by simp)) (.inl rfl)).2⟩,fun e σ hK=>?_⟩;refine U5 (Q:=j4 jK Q) (C:=fun e=>qU (x.ev e) (y.ev e)) (us:=x.uses++y.uses) (fun e σ h=>Na h.1 hm) (fun e e' he h=>?_) _ e σ (fun g hg=>?_) hK
    ·rw[AX.eP (x:=x) (fun t ht=>(he t (fK _ ht)).symm),AX.eP (x:=y) (fun t ht=>(he t (List.mem_append_right _ ht)).symm)];exact h
    ·obtain⟨m,KH,rfl⟩:=cy.1 hg
     have Q6:m ∈ l1++k::l2:=by
      rcases List.mem_append.1 KH with h|h<;>simp[h]
     exact Ac m (Nat.le_of_lt (hs.1 m Q6)) (hn m (bI _ Q6)) (.inr (hnc m (bI _ KH)))
   ·have:=U6 l1 e σ (fun j hj=>hc j (by simp[hj])) (fun m hm=>hnc m (bI _ hm)) hs.2 (fun i hi=>hn i (bI _ hi)) h;simpa only[aU,qh]using this
def behind {i_ cl : Nat -> List Nat} {l : List Nat} (hlt : ∀ k, ∀ m ∈ i_ k, m < k) (kr : ∀ k, ∀ j ∈ cl k, j ∈ i_ k \/ ∃ m ∈ i_ k, j ∈ cl m) (hinv : ∀ z, z ∉ l -> ∀ i ∈ i_ z, i ∉ l) {j : Nat} :
    ∀(k:Nat),(∀ i ∈ i_ k,i ∉ l)->j ∈ cl k->j ∉ l:=by
 intro k
 induction k using Nat.strongRecOn with
 | _ k ih =>
   intro hr hj;rcases kr k j hj with h|⟨m,hm,h⟩
   ·exact hr j h
   ·exact ih m (hlt k m hm) (hinv m (hr m hm)) h
def Pv {ops : Nat -> cL} {i_ cl : Nat -> List Nat} {N : Nat} {jK : List (AX × AX)} (hlt : ∀ k, ∀ m ∈ i_ k, m < k) (kr : ∀ k, ∀ j ∈ cl k, j ∈ i_ k \/ ∃ m ∈ i_ k, j ∈ cl m) : ∀ (n : Nat) (l : List Nat) (e : Env) (σ : ae), l.length = n ->
    (∀ z,z ∉ l-> ∀ i ∈ i_ z,i ∉ l)->(∀ i ∈ l,i<N)->l.Pairwise (fun j k=>j<k/\(j ∈ cl k\/Nb ops N jK (cl k) j k))->ff P (j4 jK Q) (l.map ops) e σ->Fv P (j4 jK Q) ops i_ n l e σ:=by
 intro n
 induction n with
 | zero=>intro l e σ hl _ _ _ h;cases l with|nil=>exact⟨rfl,h⟩|cons=>cases hl
 | succ n ih =>
   intro l e σ hl hinv hN hp h;refine⟨fun hno=>?_,fun i hi hr=>?_⟩
   ·cases l with
    | nil=>exact h
    | cons x r =>
      obtain⟨j,hj,qE⟩:=hno x (by simp);have h1:=hlt x j hj;rcases List.mem_cons.1 qE with rfl|h2
      ·exact absurd h1 (gN _)
      ·have:=((List.pairwise_cons.1 hp).1 j h2).1;omega
   ·obtain⟨l1,l2,rfl,hni⟩:=List.eq_append_cons_of_mem hi;have he:(l1++i::l2).erase i=l1++l2:=by rw[List.erase_append_right _ hni,List.erase_cons_head]
    have hp':=List.pairwise_append.1 hp
    have hcp:∀ j ∈ l1,Nb ops N jK (cl i) j i:=fun j hj=>by
     rcases(hp'.2.2 j hj i (by simp)).2 with h1|h1
     ·exact absurd (by simp[hj]) (behind hlt kr hinv i hr h1)
     ·exact h1
    have hb:=U6 l1 e σ hcp (fun m hm hmc=>behind hlt kr hinv i hr hmc (by rcases List.mem_append.1 hm with h|h<;>simp[h])) (hp.imp fun h=>h.1) hN h;rw[aU,qh]at hb;rw[he];refine Fq (fun e σ h=>ih _ e σ ?_ (fun z hz j hj qE=>?_) (fun m hm=>hN m ?_) ?_ h) hb
    ·simp at hl ⊢;omega
    ·have abT : j ∈ l1 ++ i :: l2 := by
      rcases List.mem_append.1 qE with h|h<;>simp[h]
     by_cases hzi:z=i
     ·subst hzi;exact hr j hj abT
     ·refine hinv z (fun hz'=>hz ?_) j hj abT;rcases List.mem_append.1 hz' with h|h
      ·simp[h]
      ·rcases List.mem_cons.1 h with h|h
       ·exact absurd h hzi
       ·simp[h]
    ·rcases List.mem_append.1 hm with h|h<;>simp[h]
    ·refine List.Pairwise.sublist ?_ hp;exact List.Sublist.append_left (List.sublist_cons_self _ _) _
end
section
variable {P:Program}
def CG(P:Program)(nt:Nat)(h:Hints)(dr:Bool)(all:Array Oper)(o:Oper)(g:cL): Prop :=
 u7 P nt h dr o=some g.op/\g.dst=o.dst/\match o.guard with
  | none=>g.guard=none
  | some (j,b)=> ∃ k,(all[j]?).bind (·.dst)=some k/\k<nt/\g.guard=some (k,b)
def I1{nt:Nat}{h:Hints}{dr:Bool}{all:Array Oper}: ∀(l:List Oper) (gs:List cL),lQ P nt h dr all l=some gs->gs.length=l.length/\ ∀(i:Nat) (o:Oper),l[i]? = some o-> ∃ g,gs[i]? = some g/\CG P nt h dr all o g:=by
 intro l
 induction l with
 | nil=>intro gs hc;cases hc;exact⟨rfl,fun i o hi=>by cases hi⟩
 | cons o l ih =>
   intro gs hc;simp only[lQ]at hc;split at hc
   ·rename_i ao gs' h1 h2;obtain⟨i1,i2⟩:=ih gs' h2;split at hc
    ·rename_i hg;cases hc;refine⟨by simp[i1],fun i o' hi=>?_⟩;cases i with
     | zero=>cases hi;exact⟨_,rfl,h1,rfl,by rw[hg]⟩
     | succ i=>exact i2 i o' hi
    ·rename_i j b hg;split at hc
     ·rename_i k hk;split at hc
      ·rename_i hlt;cases hc;refine⟨by simp[i1],fun i o' hi=>?_⟩;cases i with
       | zero=>cases hi;exact⟨_,rfl,h1,rfl,by rw[hg];exact⟨k,hk,hlt,rfl⟩⟩
       | succ i=>exact i2 i o' hi
      ·cases hc
     ·cases hc
   ·cases hc
def U7 {X : List Deferred} {ro : Option Nat} {wn : Nat} {nt : Nat} {h : Hints} {dr : Bool} {ops : Array Oper} {B : Nat -> Prop} {Q : AQ} {g0 : aJ} {w0 : World} {r9 : ae} {o : Oper} {gp : cL} {i : Nat} {K : Env -> ae -> Prop} {KK : Act -> World -> Prop}
    {g:aJ} {w:World} {σ : ae} {e:Env} {a:Act} (Q5:CG P nt h dr ops o gp) (h0:ops[i]? = some o) (hR:Rel g w σ) (hE:fY nt g w e a.tmps) (hd:kC X B σ g w a.defers) (hev:fC r9 g0 w0 σ g w)
    (hk:∀ g' w' σ' e' a',K e' σ'->Rel g' w' σ'->fY nt g' w' e' a'.tmps->kC X B σ' g' w' a'.defers->fC r9 g0 w0 σ' g' w'->KK a' w') (hw:ie P Q gp K e σ):wpOpIn (WF ro) wn P ops (QR X nt B g0 w0 r9 Q) i KK a w:=by
 obtain⟨h1,hds,hgd⟩:=Q5
 have go:∀ (e1:Env),fY nt g w e1 a.tmps->gp.op.run P e1 σ (fun v σ'=>K (fm e1 gp.dst v) σ') (fun v σ'=>Q (.panic v) e1 σ')->o.wpIn (WF ro) wn P a w KK (QR X nt B g0 w0 r9 Q):=fun e1 wZ hrun=>by
  rw[hds]at hrun;refine Oper.M7 ?_ ?_ (M3 h1 hR wZ hrun)
  ·rintro a' w' ⟨v,g',av,σ',rfl,r1,r2,r3,r4⟩;exact hk g' w' σ' (fm e1 o.dst av) (a.put o.dst v) r4 r1 ((wZ.mono r2.mono).put o.dst r3) (by rw[put_defers];exact hd.step r2) (hev.trans r2)
  ·rintro ex a' w' ⟨rfl,v,g',av,σ',rfl,r1,r2,r3,r4⟩;exact⟨g',e1,σ',hd.step r2,r1,wZ.mono r2.mono,hev.trans r2,v,av,rfl,r3,r4⟩
 have pass:∀ (e1:Env),fY nt g w e1 a.tmps->K (fm e1 gp.dst (.bU [])) σ->KK (a.put o.dst Go.undef) w:=fun e1 wZ hrun =>
  hk g w σ (fm e1 gp.dst (.bU [])) (a.put o.dst Go.undef) hrun hR (by rw[hds];exact wZ.put o.dst (.bU [] #[] rfl (fun i hi=>absurd hi (cG _)))) (by rw[put_defers];exact hd) hev
 unfold wpOpIn;simp only[h0];unfold ie at hw;split at hgd
 ·rename_i hg;simp only[hgd]at hw;have Sz:Region.wanted o (yielded ops a.tmps)=true:=by simp[Region.wanted,hg]
  rw[if_pos Sz];exact go e hE hw
 ·rename_i j b hg;obtain⟨k,hk',hlt,hgg⟩:=hgd;simp only[hgg]at hw;obtain⟨w1,w2⟩:=KG (ops:=ops) hE hg hk' hlt;split at hw
  ·rename_i t ht;have hwn:=w1 t ht;by_cases htb:t=b
   ·subst htb;rw[hwn,if_pos (by simp)];exact go _ (hE.congr ht) (hw.1 rfl)
   ·have:t = !b:=by cases t<;>cases b<;>simp_all
    rw[hwn,if_neg (by simpa using htb)];refine⟨fun _ _=>trivial,pass _ (hE.congr ?_) (hw.2 this)⟩;rw[ht,this]
  ·rename_i ht;rw[w2 ht,if_neg (by simp)];exact⟨fun _ _=>trivial,pass e hE hw⟩
  ·exact hw.elim
def lA(ops:Array Oper)(i:Nat): List Nat :=
 match ops[i]? with
 | some o=>(o.after.toList.filter (Region.binds .any)).map (·.on)
 | none=>[]
def ot: cL:=⟨.lp ⟨false,0⟩,none,none⟩
def U8 {X : List Deferred} {ro : Option Nat} {wn : Nat} {nt : Nat} {h : Hints} {ops : Array Oper} {B : Nat -> Prop} {Q : AQ} {g0 : aJ} {w0 : World} {r9 : ae} {gs : List cL} (hc : lQ P nt h true ops ops.toList = some gs) (hlt : ∀ i, ∀ j ∈ lA ops i, j < i) :
    ∀ (n : Nat) (l : List Nat) (listed : Array Bool) (g : aJ) (w : World) (σ : ae) (e : Env) (a : Act), listed.size = ops.size -> l.Nodup -> (∀ i, i ∈ l ↔ i < ops.size /\ listed.getD i true = false) ->
      Fv P Q (fun i=>gs.getD i ot) (lA ops) n l e σ->Rel g w σ->fY nt g w e a.tmps->kC X B σ g w a.defers->fC r9 g0 w0 σ g w ->
      wpAnyIn (WF ro) wn P .any ops (QR X nt B g0 w0 r9 Q) n listed a w:=by
 obtain⟨hlen,nx⟩:=I1 ops.toList gs hc
 have mem:∀ (l:List Nat) (listed:Array Bool),(∀ i,i ∈ l↔i<ops.size/\listed.getD i true=false)-> ∀ i,i ∈ Region.ready .any ops listed->i ∈ l/\ ∀ j ∈ lA ops i,j ∉ l:=by
  intro l listed hl i hi;simp only[Region.ready,List.mem_filter,cY,aq,cF]at hi;obtain⟨hlt,hun,I2⟩:=hi;refine⟨(hl i).2 ⟨hlt,hun⟩,fun j hj qE=>?_⟩;obtain⟨Kn,GJ⟩:=(hl j).1 qE;have ho:ops[i]? = some ops[i]:=by simp[hlt]
  simp only[lA,ho,cy,List.mem_filter]at hj;obtain⟨ed,⟨he1,he2⟩,rfl⟩:=hj;simp only[ho,aT,bA]at I2;have:=Array.all_eq_true_iff_forall_mem.1 I2 ed (by simpa using he1);simp only[he2,Bool.not_true,Bool.false_or]at this;rcases Nat.lt_or_ge ed.on listed.size with h'|h'
  ·simp[h']at this GJ;rw[this]at GJ;cases GJ
  ·simp[Array.getElem?_eq_none h']at this
 have afy:∀ (l:List Nat) (listed:Array Bool),listed.size=ops.size->(∀ i,i ∈ l↔i<ops.size/\listed.getD i true=false)->Region.ready .any ops listed=[]-> ∀ i ∈ l,∃ j ∈ lA ops i,j ∈ l:=by
  intro l listed hsz hl Ab i hi;obtain⟨Kr,hun⟩:=(hl i).1 hi;have ho:ops[i]? = some ops[i]:=by simp[Kr]
  have hnot:i ∉ Region.ready .any ops listed:=by rw[Ab];simp
  simp only[Region.ready,List.mem_filter,cY,aq,cF,Kr,hun,ho,aT,bA,true_and,Array.all_eq_true_iff_forall_mem]at hnot;simp only[Classical.not_forall,Bool.not_eq_true,Bool.or_eq_false_iff,Bool.not_eq_false']at hnot;obtain⟨ed,he,hbd,hls⟩:=hnot
  have hj:ed.on ∈ lA ops i:=by
   simp only[lA,ho,cy,List.mem_filter];exact⟨ed,⟨by simpa using he,hbd⟩,rfl⟩
  have h1:=hlt i _ hj;refine⟨_,hj,(hl _).2 ⟨by omega,?_⟩⟩;have h2:ed.on<listed.size:=by omega
  simp[h2]at hls ⊢;exact hls
 intro n
 induction n with
 | zero =>
   intro l listed g w σ e a hsz eX hl ha hR hE hd hev;obtain⟨rfl,hq⟩:=ha;refine⟨?_,g,e,σ,hd,hR,hE,hev,hq⟩;refine List.eq_nil_iff_forall_not_mem.2 fun i hi=>?_;exact absurd (mem _ _ hl i hi).1 (by simp)
 | succ n ih =>
   intro l listed g w σ e a hsz eX hl ha hR hE hd hev;refine⟨fun Ab=>⟨g,e,σ,hd,hR,hE,hev,ha.1 (afy l listed hsz hl Ab)⟩,fun i hi=>?_⟩;obtain⟨ZD,hr⟩:=mem l listed hl i hi;have B3:=((hl i).1 ZD).1;have ho:ops[i]? = some ops[i]:=by simp[B3]
   obtain⟨gp,hgp,Q5⟩:=nx i ops[i] (by simp[B3]);have hrun:=ha.2 i ZD hr;have hgd:gs.getD i ot=gp:=by simp[List.getD,hgp]
   have hrun:ie P Q gp (Fv P Q (fun i=>gs.getD i ot) (lA ops) n (l.erase i)) e σ:=by rw[<-hgd];exact hrun
   refine U7 Q5 ho hR hE hd hev (fun g' w' σ' e' a' hK kV hE' hd' afz=>?_) hrun;refine ih (l.erase i) _ g' w' σ' e' a' (by simp[hsz]) (eX.erase i) (fun k=>?_) hK kV hE' hd' afz;rw[eX.mem_erase_iff,hl k];by_cases Nd:k=i
   ·subst Nd;simp[hsz,B3]
   ·have : (listed.setIfInBounds i true).getD k true = listed.getD k true := by
     simp[eH,Array.getElem?_setIfInBounds_ne (Ne.symm Nd)]
    rw[this];simp[Nd]
def wq(i_:Nat->List Nat): Nat->List (List Nat)
 | 0=>[]
 | n+1=>let c:=wq i_ n;c++[((i_ n).flatMap fun m=>c.getD m []).foldl (fun l x=>if l.contains x then l else x::l) (i_ n)]
def DU(n:Nat)(i_:Nat->List Nat)(gs:List cL): Bool :=
 let cl:=wq i_ n
 (List.range n).all fun k => (i_ k).all (· < k) && (cl.getD k []).all (fun j => (i_ k).contains j || (i_ k).any fun m => (cl.getD m []).contains j) &&
   (List.range k).all fun j => (cl.getD k []).contains j || (GP (gs.getD j ot) (gs.getD k ot) && match needs (gs.getD j ot) (gs.getD k ot) with
     | some (x,y)=>(List.range n).all fun m=>decide (m<j) ||(decide (m≠k) && (cl.getD k []).contains m) ||((gs.getD m ot).op.goes && jg (gs.getD m ot).dst (x.uses++y.uses))
     | none=>true)
def uk(n:Nat)(i_:Nat->List Nat)(gs:List cL): List (AX × AX) :=
 let cl:=wq i_ n
 ((List.range n).flatMap fun k=>(List.range k).filterMap fun j=>if(cl.getD k []).contains j then none else needs (gs.getD j ot) (gs.getD k ot))++if gs.any fun g=>g.op.Ft then [(.c .lG,.c .lG)]else []
def aaq(h:Hints)(ops:Array Oper): List Nat :=
 let n:=ops.size
 let cl:=wq (lA ops) n
 let ls:=(List.range n).filter fun i=>match(ops[i]?).bind (·.dst)with
  | some d=>h.mth.contains (100000+d)
  | none=>false
 let late:=fun k=>ls.contains k || ls.any fun i=>(cl.getD k []).contains i
 (List.range n).filter (fun k=> !late k)++(List.range n).filter late
def Nf(n:Nat)(p:List Nat): Bool:=decide (p.length=n) && decide p.Nodup && p.all (· < n) && (List.range n).all fun x=>p.contains x
def Cf(i_:Nat->List Nat)(p:List Nat)(i:Nat): List Nat:=match p[i]? with
 | some k=>(i_ k).map fun j=>p.idxOf j
 | none=>[]
def sY(gs:List cL)(p:List Nat): List cL:=p.map fun i=>gs.getD i ot
def XM(n:Nat)(i_:Nat->List Nat): Bool:=(List.range n).all fun k=>(i_ k).all (· < k)
def KI(i_:Nat->List Nat): ∀ n,(wq i_ n).length=n
 | 0=>rfl
 | n+1=>by simp[wq,KI i_ n]
def QR.mono{X:List Deferred}{nt:Nat}{B:Nat->Prop}{g:aJ}{w:World}{σ : ae}{Q Q':AQ}(h:∀ ex e σ,Q ex e σ->Q' ex e σ){ex:Exit}{a:Act}{w2:World}(hq:QR X nt B g w σ Q ex a w2): QR X nt B g w σ Q' ex a w2:=by
 obtain⟨g',e',σ',h1,h2,h3,h4,h5⟩:=hq;refine⟨g',e',σ',h1,h2,h3,h4,?_⟩;cases ex with
 | panic chain=>obtain⟨v,av,r1,r2,r3⟩:=h5;exact⟨v,av,r1,r2,h _ _ _ r3⟩
 | outgrown=>exact h5
 | normal=>exact h _ _ _ h5
 | exit id=>exact h _ _ _ h5
 | goto l=>exact h _ _ _ h5
 | ret=>exact h _ _ _ h5
def ad1 {Q : AQ} {n : Nat} {i_ : Nat -> List Nat} {gs : List cL} {e : Env} {σ : ae} (hlen : gs.length = n) (hz : ∀ z, n <= z -> i_ z = []) (hok : DU n i_ gs = true) (hw : ff P (j4 (uk n i_ gs) Q) gs e σ) :
    Fv P (j4 (uk n i_ gs) Q) (fun i=>gs.getD i ot) i_ n (List.range n) e σ:=by
 simp only[DU,aX,cY,aq,dm,decide_eq_true_eq,List.any_eq_true,List.contains_iff_mem]at hok
 have hlt:∀ i,∀ j ∈ i_ i,j<i:=fun i j hj=>by
  by_cases hi:i<n
  ·exact(hok i hi).1.1 j hj
  ·rw[hz i (Nat.le_of_not_lt hi)]at hj;cases hj
 refine Pv (cl:=fun k=>(wq i_ n).getD k []) (N:=n) hlt (fun k j hj=>?_) _ _ e σ (by simp) (fun z hz' i hi=>?_) (fun i hi=>by simpa using hi) ?_ ?_
 ·by_cases hk:k<n
  ·exact(hok k hk).1.2 j hj
  ·have : (wq i_ n).getD k [] = [] := by
    have:=KI i_ n;rw[aj,List.getElem?_eq_none (by omega)];rfl
   rw[this]at hj;cases hj
 ·have:i_ z=[]:=hz z (by simpa using hz');rw[this]at hi;cases hi
 ·refine List.pairwise_iff_getElem.2 fun i j hi hj hij=>?_;simp only[List.getElem_range];simp at hi hj;refine⟨hij,?_⟩;by_cases kr:i ∈ (wq i_ n).getD j []
  ·exact .inl kr
  ·refine .inr ?_;rcases(hok j hj).2 i hij with h1|⟨h1,h2⟩
   ·exact absurd h1 kr
   ·refine⟨⟨h1,fun hpc=>?_⟩,fun x y hxy=>⟨?_,fun m KH Q6 hm3=>?_⟩⟩
    ·have ha:(gs.any fun g=>g.op.Ft)=true:=List.any_eq_true.2 ⟨_,(by show gs.getD j ot ∈ gs;rw[aj,aN (by omega)];exact cU _),hpc⟩;unfold DS uk;rw[if_pos ha];simp[UX]
    ·refine fK _ (List.mem_flatMap.2 ⟨j,by simpa using hj,List.mem_filterMap.2 ⟨i,by simpa using hij,?_⟩⟩);rw[if_neg (by simpa[List.contains_iff_mem]using kr)];exact hxy
    ·simp only[hxy,aX,cY,aq,dm,decide_eq_true_eq]at h2;rcases h2 m Q6 with(h3|h3)|h3
     ·omega
     ·rcases hm3 with h4|h4
      ·exact absurd h4 h3.1
      ·exact absurd (List.contains_iff_mem.1 h3.2) h4
     ·exact h3
 ·have : (List.range n).map (fun i => gs.getD i ot) = gs := by
   apply List.ext_getElem
   ·simp[hlen]
   ·intro i h1 h2;simp[aj,h2]
  rw[this];exact hw
def Ng {Q : AQ} {ops ops' : Nat -> cL} {i_ abU : Nat -> List Nat} {N : Nat} {f : Nat -> Nat} (hinj : ∀ i, i < N -> ∀ j, j < N -> f i = f j -> i = j) (abV : ∀ i, i < N -> ops' i = ops (f i)) (I2 : ∀ i, i < N -> ∀ j, j < N -> (j ∈ abU i ↔ f j ∈ i_ (f i))) :
    ∀(n:Nat) (l l':List Nat) (e:Env) (σ : ae),l.Nodup->l'.Nodup->(∀ i ∈ l,i<N)->(∀ x,x ∈ l'↔ ∃ i,i ∈ l/\f i=x)->Fv P Q ops' abU n l e σ->Fv P Q ops i_ n l' e σ
 | 0, l, l', e, σ, _, _, _, hl, h => by
   obtain⟨h1,h2⟩:=h;subst h1;refine⟨?_,h2⟩;cases l' with
   | nil=>rfl
   | cons x _=>obtain⟨i,hi,_⟩:=(hl x).1 (by simp);cases hi
 | n + 1, l, l', e, σ, hd, hd', hN, hl, h => by
   obtain⟨h1,h2⟩:=h;refine⟨fun hx=>h1 fun i hi=>?_,fun x hx hr=>?_⟩
   ·obtain⟨y,hy1,hy2⟩:=hx (f i) ((hl _).2 ⟨i,hi,rfl⟩);obtain⟨j,hj,rfl⟩:=(hl y).1 hy2;exact⟨j,(I2 i (hN i hi) j (hN j hj)).2 hy1,hj⟩
   ·obtain⟨i,hi,rfl⟩:=(hl x).1 hx;have h3:=h2 i hi fun j hj qE=>hr (f j) ((I2 i (hN i hi) j (hN j qE)).1 hj) ((hl _).2 ⟨j,qE,rfl⟩);rw[abV i (hN i hi)]at h3;refine Fq (fun e σ h4=>?_) h3;refine Ng hinj abV I2 n (l.erase i) (l'.erase (f i)) e σ (hd.erase i) (hd'.erase _) (fun k hk=>hN k (List.mem_of_mem_erase hk)) (fun z=>?_) h4;rw[hd'.mem_erase_iff,hl z];constructor
    ·rintro⟨hz,k,hk,rfl⟩;exact⟨k,hd.mem_erase_iff.2 ⟨fun Nd=>hz (by rw[Nd]),hk⟩,rfl⟩
    ·rintro⟨k,hk,rfl⟩;obtain⟨Nd,hk⟩:=hd.mem_erase_iff.1 hk;exact⟨fun hf=>Nd (hinj k (hN k hk) i (hN i hi) hf),k,hk,rfl⟩
def SC {X : List Deferred} {ro : Option Nat} {wn : Nat} {nt : Nat} {h : Hints} {ops : Array Oper} {B : Nat -> Prop} {Q : AQ} {gs : List cL} {p : List Nat} {id : Nat} {g : aJ} {w : World} {σ : ae} {e : Env} {a : Act} (hc : lQ P nt h true ops ops.toList = some gs)
    (hlt:XM ops.size (lA ops)=true) (hp:Nf ops.size p=true) (hok:DU ops.size (Cf (lA ops) p) (sY gs p)=true) (hm:P.follows .mixedOrders=true) (hw:ff P (j4 (uk ops.size (Cf (lA ops) p) (sY gs p)) Q) (sY gs p) e σ) (hR:Rel g w σ) (hE:fY nt g w e a.tmps) (hd:kC X B σ g w a.defers):(Code.region id ops true).wpIn (WF ro) wn P (QR X nt B g w σ Q) a w:=by
 have B3:∀ i,∀ j ∈ lA ops i,j<i:=fun i j hj=>by
  by_cases hi:i<ops.size
  ·simp only[XM,aX,cY,decide_eq_true_eq]at hlt;exact hlt i hi j hj
  ·have:lA ops i=[]:=by simp[lA,Array.getElem?_eq_none (Nat.le_of_not_lt hi)]
   rw[this]at hj;cases hj
 simp only[Nf,aq,decide_eq_true_eq,aX]at hp;obtain⟨⟨⟨zb,Nc⟩,hp3⟩,hp4⟩:=hp;refine wpIn_mono (wpIn_region_any hm ?_) fun ex a' w'=>QR.mono (Q:=j4 (uk ops.size (Cf (lA ops) p) (sY gs p)) Q) fun _ _ _=>XJ;have kV:=hR.drew (w.drawn+1);have hev:=fC.drew σ g w (w.drawn+1);refine U8 hc B3 ops.size (List.range ops.size) _ g _ σ e a (by simp) List.nodup_range (fun i=>by simp;intro h;simp[h]) ?_ kV (hE.mono hev.mono) (hd.step hev) hev;have key:=ad1 (P:=P) (Q:=Q) (n:=ops.size) (i_:=Cf (lA ops) p) (gs:=sY gs p) (e:=e) (σ:=σ) (by simp[sY,zb]) (fun z hz=>by simp[Cf,List.getElem?_eq_none (show p.length<=z by omega)]) hok hw;have hge:∀ i (hi:i<ops.size),p[i]? = some (p.getD i 0):=fun i hi=>by rw[aj,aN (by omega)];rfl
 have hinj:∀ i,i<ops.size-> ∀ j,j<ops.size->p.getD i 0=p.getD j 0->i=j:=fun i hi j hj hij=>by
  have e1:=hge i hi;have e2:=hge j hj;rw[hij]at e1;exact(List.getElem?_inj (by omega) Nc).1 (e1.trans e2.symm)
 have hidx:∀ j,j<ops.size->p.idxOf (p.getD j 0)=j:=fun j hj=>by
  rw[aj,aN (by omega)];exact Nc.idxOf_getElem j (by omega)
 have abW:∀ x,x<ops.size->x ∈ p:=fun x hx=>List.contains_iff_mem.1 (hp4 x (by simpa using hx));refine Ng (N:=ops.size) (f:=fun i=>p.getD i 0) hinj (fun i hi=>?_) (fun i hi j hj=>?_) _ _ _ e σ List.nodup_range List.nodup_range (fun i hi=>by simpa using hi) (fun x=>?_) key
 ·simp only[sY,aj,List.getElem?_map];rw[hge i hi];rfl
 ·simp only[Cf];rw[hge i hi];simp only[cy];constructor
  ·rintro⟨k,hk,rfl⟩
   have hkp:k ∈ p:=by
    have:=B3 _ k hk;have h5:p.getD i 0<ops.size:=hp3 _ (gw (hge i hi));exact abW k (by omega)
   have:p.getD (p.idxOf k) 0=k:=by
    rw[aj,aN (List.idxOf_lt_length_iff.2 hkp)];exact List.getElem_idxOf _
   rw[this];exact hk
  ·intro hk;exact⟨_,hk,hidx j hj⟩
 ·constructor
  ·intro hx;have hx:=abW x (by simpa using hx);obtain⟨i,hi,rfl⟩:=bz hx;exact⟨i,by simp;omega,by rw[aj,aN hi];rfl⟩
  ·rintro⟨i,hi,rfl⟩;simp only[cY]at hi ⊢;exact hp3 _ (gw (hge i hi))
end
