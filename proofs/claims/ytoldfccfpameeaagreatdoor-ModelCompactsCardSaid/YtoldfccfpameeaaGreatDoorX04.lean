/- Part. -/
import Derived.Test.YtoldfccfpameeaaGreatDoorX03
import Derived.Scope
import Derived.IntWalk
set_option linter.all false
namespace Go.AM
def c_.uses(g:c_): List Nat:=g.op.uses++(match g.guard with|some (k,_)=>[k]|none=>[])
def fE(P:Program)(Q:AQ)(g:c_)(K:Env->ai->Prop)(e:Env)(σ : ai): Prop :=
 match g.guard with
 | none=>g.op.run P e σ (fun v σ'=>K (eV e g.dst v) σ') (fun v σ'=>Q (.panic v) e σ')
 | some (k, b) => match e k with
   | .bool t => (t = b -> g.op.run P (eV e (some k) (.bool b)) σ (fun v σ' => K (eV (eV e (some k) (.bool b)) g.dst v) σ') (fun v σ' => Q (.panic v) (eV e (some k) (.bool b)) σ')) /\
      (t = !b->K (eV (eV e (some k) (.bool (!b))) g.dst (.bU [])) σ)
   | .bU []=>K (eV e g.dst (.bU [])) σ
   | _=>False
def oK{e:Env}{k:Nat}{v:AV}(h:e k=v): eV e (some k) v=e:=by
 funext n;simp only[eV];split
 ·rename_i h1;subst h1;exact h.symm
 rfl
section
variable {P:Program} {Q:AQ}
def ym(g:c_)(r:List c_)(e:Env)(σ : ai): fD P Q (g::r) e σ = fE P Q g (fD P Q r) e σ:=by
 obtain⟨o,d,gd⟩:=g;cases gd with
 | none=>rfl
 | some kb=>obtain⟨k,b⟩:=kb;rfl
def c_.D(P:Program)(g:c_)(e:Env)(σ : ai)(v:AV)(σ':ai): Prop :=
 match g.guard with
 | none=>g.op.D P e σ v σ'
 | some (k, b) => match e k with
   | .bool t=>if t=b then g.op.D P e σ v σ' else v = .bU []/\σ' = σ
   | .bU []=>v = .bU []/\σ' = σ
   | _=>False
def kz{g:c_}{e:Env}{σ : ai}{v:AV}{σ':ai}(h:g.D P e σ v σ'): (g.op.D P e σ v σ'/\ ∀ s u s',g.op.D P e s u s'->g.D P e s u s')\/(v = .bU []/\σ' = σ/\ ∀ s,g.D P e s (.bU []) s):=by
 unfold c_.D at *;split at h
 ·exact .inl ⟨h,fun _ _ _ h=>h⟩
 split at h
 ·split at h
  ·rename_i h1 h2;simp only[au h2];exact .inl ⟨h,fun _ _ _ h=>h⟩
  rename_i h1 h2;simp only[aj h2];exact .inr ⟨h.1,h.2,fun _=>⟨trivial,trivial⟩⟩
 ·exact .inr ⟨h.1,h.2,fun _=>⟨rfl,rfl⟩⟩
 exact h.elim
def iP{g:c_}{K:Env->ai->Prop}{e:Env}{σ : ai}(hc:g.op.cls≠ .no): fE P Q g K e σ↔ ∃ v σ',g.D P e σ v σ'/\K (eV e g.dst v) σ':=by
 unfold fE c_.D;split
 ·exact Hy hc
 rename_i k b hg;split
 ·rename_i t ht;by_cases htb:t=b
  ·subst htb;rw[oK ht];simp only[↓reduceIte];constructor
   ·exact fun h=>(Hy hc).1 (h.1 trivial)
   exact fun h=>⟨fun _=>(Hy hc).2 h,fun h=>by cases t<;>cases h⟩
  have hn:t = !b:=by cases t<;>cases b<;>simp_all
  have hs:eV e (some k) (.bool (!b))=e:=oK (by rw[ht,hn]);simp only[aj htb,hs];constructor
  ·exact fun h=>⟨_,σ,⟨rfl,rfl⟩,h.2 hn⟩
  rintro⟨v,τ,⟨rfl,rfl⟩,h⟩;exact⟨fun h'=>absurd h' htb,fun _=>h⟩
 ·constructor
  ·exact fun h=>⟨_,σ,⟨rfl,rfl⟩,h⟩
  rintro⟨v,τ,⟨rfl,rfl⟩,h⟩;exact h
 constructor
 ·exact fun h=>h.elim
 exact fun⟨_,_,h,_⟩=>h.elim
def Jz{g:c_}{K K':Env->ai->Prop}{e:Env}{σ : ai}(h:∀ e σ,K e σ->K' e σ): fE P Q g K e σ->fE P Q g K' e σ:=by
 unfold fE;split
 ·exact tW (fun v s=>h _ _) (fun _ _ h=>h)
 split
 ·exact fun hh=>⟨fun ht=>tW (fun v s=>h _ _) (fun _ _ h=>h) (hh.1 ht),fun ht=>h _ _ (hh.2 ht)⟩
 ·exact h _ _
 exact id
def JA{g:c_}{e e':Env}{σ : ai}{v:AV}{σ':ai}(h:∀ t ∈ g.uses,e t=e' t)(hD:g.D P e σ v σ'): g.D P e' σ v σ':=by
 have ho:∀ t ∈ g.op.uses,e t=e' t:=fun t ht=>h t (eL _ ht);unfold c_.D at *;split at hD
 ·rename_i hg;exact VT ho hD
 rename_i k b hg;have hk:e k=e' k:=h k (by simp[c_.uses,hg]);rw[<-hk];split at hD
 ·split at hD
  ·rename_i h1 h2;simp only[h1,au h2];exact VT ho hD
  rename_i h1 h2;simp only[h1,aj h2];exact hD
 ·simp_all
 exact hD.elim
def rY{g:c_}{e:Env}{σ : ai}{v:AV}{σ':ai}(hc:g.op.cls = .pu\/g.op.cls = .rd)(hD:g.D P e σ v σ'): σ' = σ:=by
 rcases kz hD with⟨h,_⟩|⟨_,h,_⟩
 ·exact ahj hc h
 exact h
def Wf{g:c_}{e:Env}{σ : ai}{v:AV}{σ':ai}(hc:g.op.cls = .pu\/g.op.cls = .rd)(hD:g.D P e σ v σ')(τ : ai): g.D P e (σ++ τ) v (σ++ τ):=by
 rcases kz hD with⟨h,f⟩|⟨rfl,_,f⟩
 ·exact f _ _ _ (ahk hc h τ)
 exact f _
def Wg{g:c_}{e:Env}{σ : ai}{v:AV}{σ':ai}(hc:g.op.cls = .pu)(hD:g.D P e σ v σ')(s:ai): g.D P e s v s:=by
 rcases kz hD with⟨h,f⟩|⟨rfl,_,f⟩
 ·exact f _ _ _ (ahl hc h s)
 exact f _
def ajQ{g:c_}{e:Env}{σ : ai}{v:AV}{σ':ai}(hc:g.op.cls = .al)(hD:g.D P e σ v σ'): ∃ τ,σ' = σ++ τ:=by
 rcases kz hD with⟨h,_⟩|⟨_,h,_⟩
 ·exact alq hc h
 exact⟨[],by simp[h]⟩
def ahv {g : c_} {e : Env} {σ : ai} {v : AV} {σ' : ai} {l : Nat} {ob nO : aY} {rx : Option AX} (hr : g.op.rW = some rx) (hl : σ[l]? = some ob) (K5 : ob.like nO) (hap : ∀ x, rx = some x -> (x.ev e).obj ≠ some l) (hD : g.D P e σ v σ') :
    g.D P e (σ.set l nO) v (σ.set l nO):=by
 rcases kz hD with⟨h,f⟩|⟨rfl,_,f⟩
 ·exact f _ _ _ (ajH hr hl K5 hap h)
 exact f _
def ajR{g:c_}{e:Env}{σ : ai}{v:AV}{σ':ai}(hc:g.op.cls = .st)(hD:g.D P e σ v σ'): σ' = σ\/ ∃ y l ob nO,g.op.tX=some y/\σ[l]? = some ob/\ob.like nO/\(y.ev e).obj=some l/\σ' = σ.set l nO:=by
 rcases kz hD with⟨h,_⟩|⟨_,h,_⟩
 ·exact .inr (ahm hc h)
 exact .inl h
def j9(d:Option Nat)(l:List Nat): Bool:=match d with
 | some d=> !l.contains d
 | none=>true
def qP(ag:Bool)(n t:Nat): List (Bool × Nat)->List AX->Bool
 |(ag',n')::r,.t t'::xs=>(ag==ag' && n==n' && t==t') || qP ag n t r xs
 | _::r,_::xs=>qP ag n t r xs
 | _,_=>false
def RR: bx->bx->Bool
 | .load ag n (.t t),.ex (.cw _ k jC) az=>n != 0 && qP ag n t jC (az.drop k)
 | _,_=>false
def RT: bx->bx->Bool
 | .ex (.cw _ c jC) az,.lC k _ cs=>qP true 0 k jC (az.drop c) && cs.all AV.cst
 | _,_=>false
def Rg(j k:bx): Bool :=
 match j.cls,k.cls with
 | .no,_|_,.no=>false
 | .pu,_|_,.pu=>true
 | .rd,.rd | .rd,.al=>true
 | .rd,.st=>j.rW.isSome
 | .st, .st => match j.Re, k.Re with
   | some a,some b=>a != b
   | _,_=>false
 | .st,.rd=>j.tX.isSome && k.qC.isSome
 | .rd, .ap => match j.rW with
   | some (some _)=>true
   | _=>false
 | .rd,.cw=>RR j k
 | .cw,.st=>RT j k
 | _,_=>false
def bx.Di: bx->Bool
 | .ex (.pc _) _=>true
 | _=>false
def X4(j k:bx): Bool:=k.Di && decide (j.cls≠ .no)
def Ll(j k:c_): Bool :=
 (Rg j.op k.op || X4 j.op k.op) && j9 j.dst k.uses && j9 k.dst j.uses && j9 j.dst k.dst.toList
def needs(j k:c_): Option (AX × AX):=match j.op.rW,k.op.tX with
 | some (some x),some y=>some (x,y)
 | _, _ => match j.op.tX, k.op.qC with
   | some y,some x=>some (x,y)
   | _,_=>none
def X5{o:bx}{x:AX}(h:o.qC=some x): o.tX=none:=by
 cases o<;>simp[bx.qC]at h<;>rfl
def jF{e:Env}{d:Option Nat}{l:List Nat}{v:AV}(h:j9 d l=true): ∀ t ∈ l,eV e d v t=e t:=by
 intro t ht;cases d with
 | none=>rfl
 | some d =>
   simp only[j9,ey,List.contains_eq_mem,decide_eq_false_iff_not]at h;simp only[eV];rw[aj (by rintro rfl;exact h ht)]
def JB{e:Env}{j k:Option Nat}{v u:AV}(h:j9 j k.toList=true): eV (eV e j v) k u=eV (eV e k u) j v:=by
 funext t
 cases j with
 | none=>rfl
 | some j =>
   cases k with
   | none=>rfl
   | some k =>
     simp[j9]at h;simp only[eV];by_cases h1:t=k
     ·subst h1;simp[Ne.symm h]
     simp[h1]
def acV{j k:bx}(h:Rg j k=true): j.cls≠ .no/\k.cls≠ .no:=by
 unfold Rg at h;split at h<;>simp_all
def Lm{el:El}{x:AV}{off:Nat}{ag:Bool}{n:Nat}{K K':AV->Prop}(h1:partOf el x off ag n K)(h2:partOf el x off ag n K'): ∃ v,K v/\K' v:=by
 unfold partOf at h1 h2;by_cases h:off=0/\n=el.sz/\ag=el.ag
 ·rw[au h]at h1 h2;exact⟨_,h1,h2⟩
 rw[aj h]at h1 h2;obtain⟨_,h1⟩:=h1;obtain⟨_,h2⟩:=h2;cases x<;>first|exact h1.elim|exact⟨_,h1.1,h2.1⟩
def aap{σ : ai}{ag:Bool}{n:Nat}{p:AV}{K K':AV->Prop}(h1:ij σ ag n p K)(h2:ij σ ag n p K'): ∃ v,K v/\K' v:=by
 unfold ij at h1 h2;cases p<;>(try exact h1.elim)
 case ref l off =>
  dsimp only at h1 h2;split at h1
  ·rename_i h;rw[h]at h2;exact⟨_,h1.2.2,h2.2.2⟩
  exact h1.elim
 case fh el x off=>exact Lm h1 h2
 case fG el l m i off =>
  dsimp only at h1 h2;split at h1
  ·rename_i h;rw[h]at h2;exact Lm h1.2.2.2 h2.2.2.2
  exact h1.elim
def FB{az:List AV}{σ σ2:ai}{e:Env}{ag:Bool}{n t:Nat}(hn:n≠0): ∀(jC:List (Bool × Nat)) (xs:List AX),qP ag n t jC xs=true->og az σ σ2 jC (xs.map (AX.ev e))->e t = .gO\/ ∃ v,ij σ ag n (e t) (fun u=>u=v)/\ij σ2 ag n (e t) (fun u=>u=v)
 | [],xs,h,_=>by cases xs<;>simp[qP]at h
 |(ag',n')::r,[],h,_=>by simp[qP]at h
 | (ag', n') :: r, x :: xs, h, hk => by
   obtain⟨h1,h2⟩:=hk;cases x with
   | c a=>exact FB hn r xs (by simpa[qP]using h) h2
   | t t' =>
     simp only[qP,cN,aD,beq_iff_eq]at h;rcases h with⟨⟨rfl,rfl⟩,rfl⟩|h
     ·rw[aj hn]at h1;exact h1
     exact FB hn r xs h h2
def FC{az:List AV}{σ σ2:ai}{e:Env}{t:Nat}: ∀(jC:List (Bool × Nat)) (xs:List AX),qP true 0 t jC xs=true->og az σ σ2 jC (xs.map (AX.ev e))->e t = .gO\/Xy az σ σ2 (e t)
 | [],xs,h,_=>by cases xs<;>simp[qP]at h
 |(ag',n')::r,[],h,_=>by simp[qP]at h
 | (ag', n') :: r, x :: xs, h, hk => by
   obtain⟨h1,h2⟩:=hk;cases x with
   | c a=>exact FC r xs (by simpa[qP]using h) h2
   | t t' =>
     simp only[qP,cN,aD,beq_iff_eq]at h;rcases h with⟨⟨rfl,rfl⟩,rfl⟩|h
     ·rw[au rfl]at h1;exact h1
     exact FC r xs h h2
def alG{j k:bx}{e:Env}{σ σ2:ai}{vj vk:AV}(h:RR j k=true)(dj:j.D P e σ vj σ)(dk:k.D P e σ vk σ2): j.D P e σ2 vj σ2:=by
 unfold RR at h;split at h
 ·rename_i ag n t f k jC az;simp only[aD,bne_iff_ne,ne_eq]at h;obtain⟨hn,h⟩:=h;obtain⟨hj,_⟩:=(show(∀ τ,(bx.load ag n (.t t)).run P e (σ++ τ) (Is vj (σ++ τ)) No)/\σ = σ from dj)
  replace dk:(gG.cw f k jC).run P (az.map (AX.ev e)) σ (Is vk σ2) No:=dk
  obtain⟨s2,hk,rfl⟩:∃ s2,og ((az.map (AX.ev e)).take k) σ s2 jC ((az.map (AX.ev e)).drop k)/\s2 = σ2:=by
   cases az with
   | nil=>exact dk.elim
   | cons x xs=>obtain⟨r,s2,_,hk,_,e2⟩:=dk;exact⟨s2,hk,e2⟩
  rw[<-List.map_drop]at hk
  have h3:ij σ ag n (e t) (fun u=>u=vj):=by
   have:ij (σ++[]) ag n (e t) (fun u=>Is vj (σ++[]) u (σ++[])):=hj [];rw[bZ]at this;exact nh (fun v h=>h.1) this
  obtain⟨v,h1,h2⟩:=(FB hn _ _ h hk).resolve_left (fun e0=>by rw[e0]at h3;exact h3);obtain⟨u,rfl,rfl⟩:=aap h1 h3;obtain⟨u',h4,rfl⟩:=vN h2
  exact(show(∀ τ,(bx.load ag n (.t t)).run P e (s2++ τ) (Is u' (s2++ τ)) No)/\s2=s2 from
   ⟨fun τ=>(show ij (s2++ τ) ag n (e t) (fun u=>Is u' (s2++ τ) u (s2++ τ)) from nh (fun v h=>⟨h,rfl⟩) (h4 τ)),rfl⟩)
 ·cases h
def Ln{σ : ai}{ag:Bool}{n m:Nat}{p:AV}{K:AV->Prop}(hm : σ[m]? = some .resv)(h:ij σ ag n p K): p.obj≠some m:=by
 intro e;unfold ij at h;split at h
 ·rename_i l off;obtain rfl:l=m:=Option.some.inj e;rw[hm]at h;exact h.elim
 ·cases e
 ·rename_i el l k i off;obtain rfl:l=m:=Option.some.inj e;rw[hm]at h;exact h.elim
 exact h.elim
def aaq{k m:Nat}{σ : ai}{ob:aY}(h:KZ k σ = true)(ho:ob.nP k=true): KZ k (σ.set m ob)=true:=by
 unfold KZ at *;rw[bf]at *;intro o hx;rcases List.mem_or_eq_of_mem_set hx with h1|rfl
 ·exact h o h1
 exact ho
def Lo{az:List AV}{σ σ2:ai}{m:Nat}{T:Option TypeId}{cs:List AV}(h1 : σ[m]? = some .resv)(h2 : σ2[m]? = some .resv)(hc:cs.all AV.cst=true): ∀(jC:List (Bool × Nat)) (ps:List AV),og az σ σ2 jC ps->og az (σ.set m (.bY T cs)) (σ2.set m (.bY T cs)) jC ps
 | [],_,_=>trivial
 | (ag, n) :: r, p :: ps, ⟨h3, h4⟩ => by
   refine⟨?_,Lo h1 h2 hc r ps h4⟩;rcases h3 with h3|h3
   ·exact .inl h3
   refine .inr ?_;by_cases hn:n=0
   ·rw[au hn]at h3 |-;unfold Xy at h3 |-;split at h3
    ·rename_i k;intro hk;by_cases e:m=k
     ·subst e;rw[bw (aE.1 h2).1]at hk;cases hk
     rw[aF e]at hk |-;obtain⟨a,b,c⟩:=h3 hk;exact⟨a,b,aaq c (acU hc)⟩
    exact h3.elim
   rw[aj hn]at h3 |-;obtain⟨v,a,b⟩:=h3;exact⟨v,Ac (Ln h1 a) a,Ac (Ln h2 b) b⟩
 | _::_,[],h=>h.elim
def ahw{j k:bx}{e:Env}{σ σ2 σ3:ai}{vj vk:AV}(h:RT j k=true)(dj:j.D P e σ vj σ2)(dk:k.D P e σ2 vk σ3): ∃ s,k.D P e σ vk s/\j.D P e s vj σ3:=by
 unfold RT at h;split at h
 ·rename_i f c jC az kk T cs;simp only[aD]at h;obtain⟨h,hc⟩:=h
  replace dj:(gG.cw f c jC).run P (az.map (AX.ev e)) σ (Is vj σ2) No:=dj
  have dk:bx.run P (.lC kk T cs) e σ2 (Is vk σ3) No:=dk;cases az with
  | nil=>exact dj.elim
  | cons x xs =>
    obtain⟨r,s2,ajS,hk,rfl,rfl⟩:=dj;simp only[bx.run]at dk;split at dk
    ·rename_i m hm;split at dk
     ·rename_i Ai;obtain⟨rfl,rfl⟩:=dk;have hr:=FC (e:=e) jC ((x::xs).drop c) h (by rw[List.map_drop];exact hk);rw[hm]at hr;obtain⟨r1,r2,r3⟩:=hr.resolve_left (fun e0=>by cases e0) Ai;refine⟨σ.set m (.bY T cs),?_,?_⟩
      ·show bx.run P (.lC kk T cs) e σ (Is _ _) No;simp only[bx.run,hm,r1];exact⟨rfl,rfl⟩
      show(gG.cw f c jC).run P ((x::xs).map (AX.ev e)) (σ.set m (.bY T cs)) (Is _ _) No;exact⟨r,_,cE.resv r1 Ai r2 r3 hc ajS,Lo r1 Ai hc _ _ hk,rfl,rfl⟩
     exact dk.elim
    exact dk.elim
 ·cases h
def c_.pcR(P:Program)(g:c_)(n:FuncId)(az:List AX)(e:Env): Option Out->Prop
 | none => match g.guard with
   | none=>False
   | some (k, b) => match e k with
     | .bool t=>t = !b
     | .bU []=>True
     | _=>False
 | some o => (∀ s, cE P n (az.map (AX.ev e)) s fun o' s' => o' = o /\ s' = s) /\ match g.guard with
   | none=>True
   | some (k,b)=>e k = .bool b
def pcE(P:Program)(Q:AQ)(d:Option Nat)(K:Env->ai->Prop)(e:Env)(σ : ai): Option Out->Prop
 | none=>K (eV e d (.bU [])) σ
 | some (.ret r)=>K (eV e d r) σ
 | some (.panic v)=> ∀ s,Q (.panic v) e s
def aar{g:c_}{n:FuncId}{az:List AX}{K:Env->ai->Prop}{e:Env}{σ : ai}(hg:g.op = .ex (.pc n) az): fE P Q g K e σ↔ ∃ o,g.pcR P n az e o/\pcE P Q g.dst K e σ o:=by
 have key:∀ {K1:AV->ai->Prop} {K2:AV->ai->Prop},g.op.run P e σ K1 K2↔ ∃ o,(∀ s,cE P n (az.map (AX.ev e)) s fun o' s'=>o'=o/\s'=s)/\pcK (fun r=>K1 r σ) (fun v=> ∀ s,K2 v s) o:=by
  intro K1 K2;rw[hg];exact Iff.rfl
 unfold fE c_.pcR;cases hgd:g.guard with
 | none =>
   simp only;rw[key];constructor
   ·rintro⟨o,h1,h2⟩;exact⟨some o,⟨h1,trivial⟩,by cases o<;>exact h2⟩
   rintro⟨o,h1,h2⟩;cases o with
   | none=>exact h1.elim
   | some o=>exact⟨o,h1.1,by cases o<;>exact h2⟩
 | some kb =>
   obtain⟨k,b⟩:=kb;simp only;split
   ·rename_i t ht;constructor
    ·rintro⟨h1,h2⟩;by_cases htb:t=b
     ·have h1:=h1 htb;subst htb;rw[oK ht,key]at h1;obtain⟨o,h3,h4⟩:=h1;exact⟨some o,⟨h3,by rw[ht]⟩,by cases o<;>exact h4⟩
     have hn:t = !b:=by cases t<;>cases b<;>simp_all
     have h2:=h2 hn;rw[oK (by rw[ht,hn])]at h2;exact⟨none,by rw[ht];exact hn,h2⟩
    rintro⟨o,h1,h2⟩;cases o with
    | none =>
      rw[ht]at h1;have h1:t = !b:=h1;refine⟨fun h=>absurd h (by rw[h1];cases b<;>decide),fun _=>?_⟩;rw[oK (by rw[ht,h1])];exact h2
    | some o =>
      obtain⟨h3,h4⟩:=h1;have h4:e k = .bool b:=h4;have htb:t=b:=AV.bool.inj (ht.symm.trans h4);refine⟨fun _=>?_,fun h=>absurd h (by rw[htb];cases b<;>decide)⟩;rw[oK h4,key];exact⟨o,h3,by cases o<;>exact h2⟩
   ·rename_i ht;constructor
    ·intro h;exact⟨none,by rw[ht];trivial,h⟩
    rintro⟨o,h1,h2⟩;cases o with
    | none=>exact h2
    | some o=>exact absurd (ht.symm.trans h1.2) aQ
   rename_i h3 h4;constructor
   ·exact fun h=>h.elim
   rintro⟨o,h1,h2⟩;cases o with
   | none =>
     exact False.elim h1
   | some o=>exact(h3 _ h1.2).elim
def afS {j k : c_} {K : Env -> ai -> Prop} {e : Env} {σ : ai} (nR : X4 j.op k.op = true) (s1 : j9 j.dst k.uses = true) (s2 : j9 k.dst j.uses = true) (s3 : j9 j.dst k.dst.toList = true)
    (hQ:∀ v e e' σ,Q (.panic v) e σ->Q (.panic v) e' σ) (hh:fE P Q j (fE P Q k K) e σ):fE P Q k (fE P Q j K) e σ:=by
 simp only[X4,aD,aM]at nR;obtain⟨hk,hj⟩:=nR
 obtain⟨n,az,hg⟩:∃ n az,k.op = .ex (.pc n) az:=by
  revert hk;cases k.op<;>simp[bx.Di];rename_i o xs;cases o<;>simp[bx.Di]
 obtain⟨vj,Wh,dj,hh⟩:=(iP hj).1 hh;obtain⟨o,h1,h2⟩:=(aar hg).1 hh;have hu:∀ t ∈ k.uses,eV e j.dst vj t=e t:=jF s1
 have hz:az.map (AX.ev (eV e j.dst vj))=az.map (AX.ev e):=by
  exact AX.pD fun t ht=>hu t (by simp only[c_.uses,hg];exact eL _ ht)
 have hR:k.pcR P n az e o:=by
  have Aj:∀ m b,k.guard=some (m,b)->eV e j.dst vj m=e m:=fun m b h=>hu m (by simp[c_.uses,h]);unfold c_.pcR at h1 |-;cases o with
  | none =>
    cases hgd:k.guard with
    | none=>rw[hgd]at h1;exact h1.elim
    | some kb=>obtain⟨m,b⟩:=kb;rw[hgd]at h1;simp only[Aj m b hgd]at h1;exact h1
  | some o =>
    rw[hz]at h1;refine⟨h1.1,?_⟩;cases hgd:k.guard with
    | none=>trivial
    | some kb=>obtain⟨m,b⟩:=kb;have:=h1.2;rw[hgd]at this;simp only[Aj m b hgd]at this;exact this
 have tr:∀ v,j.D P (eV e k.dst v) σ vj Wh:=fun v=>JA (fun t ht=>(jF s2 t ht).symm) dj;refine(aar hg).2 ⟨o,hR,?_⟩;cases o with
 | none=>exact(iP hj).2 ⟨vj,Wh,tr _,by rw[<-JB s3];exact h2⟩
 | some o =>
   cases o with
   | ret r=>exact(iP hj).2 ⟨vj,Wh,tr _,by rw[<-JB s3];exact h2⟩
   | panic v=>exact fun s=>hQ _ _ _ _ (h2 s)
def swap {j k : c_} {K : Env -> ai -> Prop} {e : Env} {σ : ai} (h : Ll j k = true) (hQ : k.op.Di = true -> ∀ v e e' σ, Q (.panic v) e σ -> Q (.panic v) e' σ) (hap : ∀ x y, needs j k = some (x, y) -> (j9 j.dst (x.uses ++ y.uses) = true /\ j9 k.dst (x.uses ++ y.uses) = true) /\ ∀ e σ, K e σ -> sP (x.ev e) (y.ev e))
    (hh:fE P Q j (fE P Q k K) e σ):fE P Q k (fE P Q j K) e σ:=by
 simp only[Ll,aD]at h;obtain⟨⟨⟨nR,s1⟩,s2⟩,s3⟩:=h;rcases Bool.or_eq_true _ _ ▸ nR with nR|nR
 case inr=>exact afS nR s1 s2 s3 (hQ (by simp only[X4,aD]at nR;exact nR.1)) hh
 obtain⟨hj,hk⟩:=acV nR;obtain⟨vj,Wh,dj,hh⟩:=(iP hj).1 hh;obtain⟨vk,σk,dk,hK⟩:=(iP hk).1 hh;have y_:k.D P e Wh vk σk:=JA (jF s1) dk;have tr:∀ {s s'},j.D P e s vj s'->j.D P (eV e k.dst vk) s vj s':=fun h=>JA (fun t ht=>(jF s2 t ht).symm) h;have sQ:=hK;rw[JB s3]at hK
 have kpu:k.op.cls = .pu->fE P Q k (fE P Q j K) e σ:=fun hc=>by
  have:=rY (.inl hc) y_;subst this;exact(iP hk).2 ⟨vk,σ,Wg hc y_ σ,(iP hj).2 ⟨vj,_,tr dj,hK⟩⟩
 have FD:Wh = σ->j.D P e σk vj σk->fE P Q k (fE P Q j K) e σ:=fun h1 h2=>by
  subst h1;exact(iP hk).2 ⟨vk,σk,y_,(iP hj).2 ⟨vj,_,tr h2,hK⟩⟩
 unfold Rg at nR;split at nR<;>(try (cases nR;done))
 ·rename_i hc _;exact FD (rY (.inl hc) dj) (Wg hc dj _)
 ·rename_i hc _ _;exact kpu hc
 ·rename_i hc hc2;have h1:=rY (.inr hc) dj;have h2:=rY (.inr hc2) y_;subst h1;subst h2;exact FD rfl dj
 ·rename_i hc hc2;have h1:=rY (.inr hc) dj;subst h1;obtain⟨τ,rfl⟩:=ajQ hc2 y_;exact FD rfl (Wf (.inr hc) dj τ)
 rename_i hc hc2;have h1:=rY (.inr hc) dj;subst h1;rcases ajR hc2 y_ with rfl|⟨y,l,ob,nO,hy,hl,K5,RU,rfl⟩
 ·exact FD rfl dj
 obtain⟨rx,za⟩:=gD.1 nR;refine FD rfl (ahv za hl K5 (fun x hx=>?_) dj);subst hx;have hn:needs j k=some (x,y):=by simp[needs,za,hy]
 obtain⟨⟨a1,a2⟩,a3⟩:=hap x y hn;have ha:=a3 _ _ sQ
 have ex:∀ t ∈ x.uses++y.uses,eV (eV e j.dst vj) k.dst vk t=e t:=fun t ht=>by
  rw[jF a2 t ht,jF a1 t ht]
 rw[AX.fV (x:=x) (fun t ht=>ex t (eL _ ht)),AX.fV (x:=y) (fun t ht=>ex t (fQ _ ht))]at ha;exact fun h1=>ha l h1 RU
 
 split at nR
 ·rename_i a b ra rb;rcases kz dj with⟨dj1,dj2⟩|⟨rfl,rfl,hj2⟩
  ·rcases kz y_ with⟨RV,dk2⟩|⟨rfl,rfl,kI⟩
   ·obtain⟨n,o1,n1,n2,n3,rfl,n4⟩:=afe ra dj1;obtain⟨m,o2,m1,m2,m3,rfl,m4⟩:=afe rb RV
    have hnm:n≠m:=by
     rintro rfl;rw[bw (aE.1 n2).1]at m2;exact n3 (Option.some.inj m2)
    rw[aF hnm]at m2;refine(iP hk).2 ⟨_,_,dk2 _ _ _ (m4 σ m2),(iP hj).2 ⟨_,_,tr (dj2 _ _ _ (n4 _ (by rw[aF (Ne.symm hnm)];exact n2))),?_⟩⟩;rw[List.set_comm _ _ (Ne.symm hnm)];exact hK
   exact(iP hk).2 ⟨_,_,kI σ,(iP hj).2 ⟨_,_,tr dj,hK⟩⟩
  exact(iP hk).2 ⟨_,_,y_,(iP hj).2 ⟨_,_,tr (hj2 _),hK⟩⟩
 ·cases nR
 
 rename_i hc _;simp only[aD,gD]at nR;obtain⟨⟨y,ry⟩,x,rx⟩:=nR;have h2:=rY (.inr (K6 rx)) y_;subst h2;rcases kz dj with⟨dj1,_⟩|⟨rfl,rfl,_⟩
 ·obtain⟨y',l,ob,nO,hy,n2,_,ajT,rfl⟩:=ahm hc dj1;obtain rfl:y=y':=by rw[ry]at hy;exact Option.some.inj hy
  have hn:needs j k=some (x,y):=by
   unfold needs;rw[X5 rx,ry,rx];cases j.op.rW with
   | none=>rfl
   | some o=>cases o<;>rfl
  obtain⟨⟨a1,a2⟩,a3⟩:=hap x y hn;have ha:=a3 _ _ sQ
  have ex:∀ t ∈ x.uses++y.uses,eV (eV e j.dst vj) k.dst vk t=e t:=fun t ht=>by
   rw[jF a2 t ht,jF a1 t ht]
  rw[AX.fV (x:=x) (fun t ht=>ex t (eL _ ht)),AX.fV (x:=y) (fun t ht=>ex t (fQ _ ht))]at ha;have hlt:=(aE.1 n2).1;have RU:(x.ev e).obj≠some l:=fun h=>ha l h ajT
  have back:(σ.set l nO).set l ob = σ:=by
   rw[ek];apply jy;intro i;by_cases hi:i=l
   ·subst hi;rw[bw hlt];exact n2.symm
   rw[aF (Ne.symm hi)]
  have dk':k.D P e σ vk σ:=by
   rcases kz y_ with⟨q1,q2⟩|⟨rfl,_,q⟩
   ·have:=VW (ob:=ob) rx (by simpa using hlt) RU q1;rw[back]at this;exact q2 _ _ _ this
   exact q σ
  exact(iP hk).2 ⟨vk,σ,dk',(iP hj).2 ⟨vj,_,tr dj,hK⟩⟩
 exact(iP hk).2 ⟨vk,_,y_,(iP hj).2 ⟨_,_,tr dj,hK⟩⟩
 
 rename_i hc hc2;have h1:=rY (.inr hc) dj;subst h1;split at nR
 ·rename_i x za
  have hro:j.op.qC=some x:=by
   revert za;cases j.op<;>simp[bx.rW,bx.qC]
  rcases kz y_ with⟨RV,_⟩|⟨rfl,rfl,_⟩
  ·obtain⟨y,hy,⟨τ,rfl⟩|⟨l,ob,hlt,RU,rfl⟩⟩:=alr hc2 RV
   ·exact FD rfl (Wf (.inr hc) dj τ)
   have hn:needs j k=some (x,y):=by simp[needs,za,hy]
   obtain⟨⟨a1,a2⟩,a3⟩:=hap x y hn;have ha:=a3 _ _ sQ
   have ex:∀ t ∈ x.uses++y.uses,eV (eV e j.dst vj) k.dst vk t=e t:=fun t ht=>by
    rw[jF a2 t ht,jF a1 t ht]
   rw[AX.fV (x:=x) (fun t ht=>ex t (eL _ ht)),AX.fV (x:=y) (fun t ht=>ex t (fQ _ ht))]at ha;refine FD rfl ?_;rcases kz dj with⟨q1,q2⟩|⟨rfl,_,q⟩
   ·exact q2 _ _ _ (VW hro hlt (fun h=>ha l h RU) q1)
   exact q _
  exact FD rfl dj
 ·cases nR
 
 rename_i hc _;have h1:=rY (.inr hc) dj;subst h1;rcases kz y_ with⟨RV,_⟩|⟨rfl,rfl,_⟩
 ·rcases kz dj with⟨q1,q2⟩|⟨rfl,_,q⟩
  ·exact FD rfl (q2 _ _ _ (alG nR q1 RV))
  exact FD rfl (q _)
 exact FD rfl dj
 
 rcases kz dj with⟨dj1,dj2⟩|⟨rfl,rfl,hj2⟩
 ·rcases kz y_ with⟨RV,dk2⟩|⟨rfl,rfl,kI⟩
  ·obtain⟨s,q1,q2⟩:=ahw nR dj1 RV;exact(iP hk).2 ⟨_,_,dk2 _ _ _ q1,(iP hj).2 ⟨_,_,tr (dj2 _ _ _ q2),hK⟩⟩
  exact(iP hk).2 ⟨_,_,kI σ,(iP hj).2 ⟨_,_,tr dj,hK⟩⟩
 exact(iP hk).2 ⟨_,_,y_,(iP hj).2 ⟨_,_,tr (hj2 _),hK⟩⟩
def Dj(D:List Nat): AX->AX
 | .t t=>if D.contains t then .c .gO else .t t
 | .c a=> .c a
def pM(D:List Nat): Nat->List AX->List AX
 | _,[]=>[]
 | 0,x::xs=>Dj D x::pM D 0 xs
 | n+1,x::xs=>x::pM D n xs
def bx.cut(D:List Nat): bx->bx
 | .ex (.cw n c jC) az=> .ex (.cw n c jC) (pM D c az)
 | o=>o
def c_.cut(D:List Nat)(g:c_): c_:= { g with op:=g.op.cut D }
def acW{D D':List Nat}(h:∀ t ∈ D',t ∈ D)(x:AX): Dj D (Dj D' x)=Dj D x:=by
 cases x with
 | c a=>rfl
 | t t =>
   simp only[Dj];by_cases h1:t ∈ D'
   ·simp[h1,h t h1,Dj]
   simp[h1,Dj]
def JC{D D':List Nat}(h:∀ t ∈ D',t ∈ D): ∀(az:List AX) (c:Nat),pM D c (pM D' c az)=pM D c az
 | [],c=>by cases c<;>rfl
 | x::xs,0=>by simp only[pM];rw[acW h,JC h xs 0]
 | x::xs,n+1=>by simp only[pM];rw[JC h xs n]
def FE{D:List Nat}{e:Env}: ∀(az:List AX) (c:Nat),((pM D c az).map (AX.ev e)).take c=(az.map (AX.ev e)).take c
 | [],c=>by cases c<;>rfl
 | x::xs,0=>by simp
 | x::xs,n+1=>by simp only[pM,bB,List.take_succ_cons];rw[FE xs n]
def Lr{A:List AV}{σ σ2:ai}{D:List Nat}{e:Env}: ∀(jC:List (Bool × Nat)) (az:List AX),og A σ σ2 jC (az.map (AX.ev e))->og A σ σ2 jC ((pM D 0 az).map (AX.ev e))
 | [],az,_=>by cases az<;>trivial
 |(ag,n)::r,[],h=>h
 | (ag, n) :: r, x :: xs, ⟨h1, h2⟩ => by
   refine⟨?_,Lr r xs h2⟩;cases x with
   | c a=>exact h1
   | t t =>
     by_cases ht:D.contains t
     ·simp only[Dj,au ht];exact .inl rfl
     simp only[Dj,aj ht];exact h1
def OY{A:List AV}{σ σ2:ai}{D:List Nat}{e:Env}{jC:List (Bool × Nat)}: ∀(az:List AX) (c:Nat),og A σ σ2 jC ((az.map (AX.ev e)).drop c)->og A σ σ2 jC (((pM D c az).map (AX.ev e)).drop c)
 | [],c,h=>by cases c<;>exact h
 | x::xs,0,h=>Lr jC (x::xs) h
 | x::xs,n+1,h=>OY xs n h
def Wi{D:List Nat}{o:bx}{e:Env}{σ : ai}{K Kp:AV->ai->Prop}(h:o.run P e σ K Kp): (o.cut D).run P e σ K Kp:=by
 unfold bx.cut;split
 ·rename_i n c jC az;cases az with
  | nil=>cases c<;>exact h
  | cons x xs =>
    obtain⟨r,s2,h1,h2,h3⟩:=(show(gG.cw n c jC).run P ((x::xs).map (AX.ev e)) σ K Kp from h);have h1:cE P n (((x::xs).map (AX.ev e)).take c) σ _:=h1;have h2:og (((x::xs).map (AX.ev e)).take c) σ s2 jC (((x::xs).map (AX.ev e)).drop c):=h2;rw[<-FE (D:=D)]at h1 h2;have h2:=OY (D:=D) _ _ h2;obtain⟨y,ys,hy⟩:∃ y ys,pM D c (x::xs)=y::ys:=by cases c<;>exact⟨_,_,rfl⟩
    show(gG.cw n c jC).run P ((pM D c (x::xs)).map (AX.ev e)) σ K Kp;rw[hy]at h1 h2 |-;exact⟨r,s2,h1,h2,h3⟩
 exact h
def Wj{D:List Nat}{g:c_}{K:Env->ai->Prop}{e:Env}{σ : ai}(h:fE P Q g K e σ): fE P Q (g.cut D) K e σ:=by
 unfold fE at *
 show(match g.guard with
  | none=>(g.op.cut D).run P e σ (fun v σ'=>K (eV e g.dst v) σ') (fun v σ'=>Q (.panic v) e σ')
  | some (k, b) => match e k with
    | .bool t => (t = b -> (g.op.cut D).run P (eV e (some k) (.bool b)) σ (fun v σ' => K (eV (eV e (some k) (.bool b)) g.dst v) σ') (fun v σ' => Q (.panic v) (eV e (some k) (.bool b)) σ')) /\
       (t = !b->K (eV (eV e (some k) (.bool (!b))) g.dst (.bU [])) σ)
    | .bU []=>K (eV e g.dst (.bU [])) σ
    | _=>False)
 split
 ·rename_i hg;simp only[hg]at h;exact Wi h
 rename_i k b hg;simp only[hg]at h;split
 ·rename_i t ht;simp only[ht]at h;exact⟨fun hb=>Wi (h.1 hb),h.2⟩
 ·rename_i ht;simp only[ht]at h;exact h
 rename_i h1 h2;split at h
 ·rename_i t ht;exact(h1 t ht).elim
 ·rename_i ht;exact(h2 ht).elim
 exact h
def acX{D D':List Nat}(h:∀ t ∈ D',t ∈ D)(o:bx): (o.cut D').cut D=o.cut D:=by
 cases o<;>first|rfl|skip
 rename_i x xs;cases x<;>first|rfl|skip
 rename_i n c jC;show bx.ex (.cw n c jC) (pM D c (pM D' c xs))=bx.ex (.cw n c jC) (pM D c xs);rw[JC h]
def afT{D D':List Nat}(h:∀ t ∈ D',t ∈ D)(g:c_): (g.cut D').cut D=g.cut D:=by
 obtain⟨o,d,gd⟩:=g;simp only[c_.cut,acX h]
def one_le{D D':List Nat}{g:c_}{K:Env->ai->Prop}{e:Env}{σ : ai}(hD:∀ t ∈ D',t ∈ D)(h:fE P Q (g.cut D') K e σ): fE P Q (g.cut D) K e σ:=by
 rw[<-afT hD];exact Wj h
def aas(j k:c_)(D:List Nat): needs j (k.cut D)=needs j k:=by
 obtain⟨o,d,gd⟩:=k;unfold needs;cases o<;>first|rfl|skip
 rename_i x xs;cases x<;>rfl
def ahx(k:c_)(D:List Nat): (k.cut D).op.Di=k.op.Di:=by
 obtain⟨o,d,gd⟩:=k;cases o<;>first|rfl|skip
 rename_i x xs;cases x<;>rfl
def FF(l:List (Nat × El)): bx->bx
 | .ex (.cw n c []) (x::xs)=>if(x::xs).length=c then .ex (.cw n c (l.map fun p=>(p.2.ag,p.2.sz))) ((x::xs)++l.map fun p=> .t p.1)else .ex (.cw n c []) (x::xs)
 | o=>o
def tJ(h:Hints)(g:c_): c_:= { g with op:=FF (XE h g.dst) g.op }
def FG: bx->Bool
 | .ex (.cw _ _ (_::_)) _=>false
 | _=>true
def RW{n c:Nat}{jC:List (Bool × Nat)}{x:AX}{xs zs:List AX}{D:List Nat}{e:Env}{σ : ai}{K Kp:AV->ai->Prop}(hz:∀ e':Env,(zs.map (AX.ev e')).take c=((x::xs).map (AX.ev e')).take c)(hne:zs≠[])(h:((bx.ex (.cw n c jC) zs).cut D).run P e σ K Kp): (bx.ex (.cw n c []) (x::xs)).run P e σ K Kp:=by
 have h:(gG.cw n c jC).run P ((pM D c zs).map (AX.ev e)) σ K Kp:=h
 obtain⟨y,ys,hy⟩:∃ y ys,pM D c zs=y::ys:=by
  cases zs with
  | nil=>exact absurd rfl hne
  | cons z zs=>cases c<;>exact⟨_,_,rfl⟩
 have ht:=FE (D:=D) (e:=e) zs c;rw[hy,hz]at ht;rw[hy]at h;obtain⟨r,s2,h1,_,h3⟩:=h;have h1:cE P n (((y::ys).map (AX.ev e)).take c) σ _:=h1;rw[ht]at h1;exact⟨r,s2,h1,trivial,h3⟩
def OZ{l:List (Nat × El)}{o:bx}{D:List Nat}{e:Env}{σ : ai}{K Kp:AV->ai->Prop}(hp:FG o=true)(h:((FF l o).cut D).run P e σ K Kp): o.run P e σ K Kp:=by
 unfold FF at h;split at h
 ·split at h
  ·rename_i n c x xs hc;refine RW (fun e'=>?_) aQ h;rw[fI,List.take_append_of_le_length (by simp only[cZ];omega)]
  exact RW (fun _=>rfl) aQ h
 rename_i hno;unfold bx.cut at h;split at h
 ·rename_i n c jC az;cases jC with
  | cons=>cases hp
  | nil =>
    cases az with
    | nil=>cases c<;>exact h
    | cons x xs=>exact absurd rfl (hno _ _ _ _)
 exact h
def aat{h:Hints}{D:List Nat}{g:c_}{K:Env->ai->Prop}{e:Env}{σ : ai}(hp:FG g.op=true)(hh:fE P Q ((tJ h g).cut D) K e σ): fE P Q g K e σ:=by
 have hh:(match g.guard with
  | none=>((FF (XE h g.dst) g.op).cut D).run P e σ (fun v σ'=>K (eV e g.dst v) σ') (fun v σ'=>Q (.panic v) e σ')
  | some (k, b) => match e k with
    | .bool t => (t = b -> ((FF (XE h g.dst) g.op).cut D).run P (eV e (some k) (.bool b)) σ (fun v σ' => K (eV (eV e (some k) (.bool b)) g.dst v) σ') (fun v σ' => Q (.panic v) (eV e (some k) (.bool b)) σ')) /\
       (t = !b->K (eV (eV e (some k) (.bool (!b))) g.dst (.bU [])) σ)
    | .bU []=>K (eV e g.dst (.bU [])) σ
    | _=>False):=hh
 unfold fE;split
 ·rename_i hg;simp only[hg]at hh;exact OZ hp hh
 rename_i k b hg;simp only[hg]at hh;split
 ·rename_i t ht;simp only[ht]at hh;exact⟨fun hb=>OZ hp (hh.1 hb),hh.2⟩
 ·rename_i ht;simp only[ht]at hh;exact hh
 rename_i h1 h2;split at hh
 ·rename_i t ht;exact(h1 t ht).elim
 ·rename_i ht;exact(h2 ht).elim
 exact hh
variable (P Q) in
def JD(ops:Nat->c_)(jG:Nat->List Nat): Nat->List Nat->Env->ai->Prop
 | 0,l,e,σ=>l=[]/\Q .normal e σ
 | n+1,l,e,σ=>((∀ i ∈ l,∃ j ∈ jG i,j ∈ l)->Q .normal e σ)/\ ∀ i ∈ l,(∀ j ∈ jG i,j ∉ l)->fE P Q (ops i) (JD ops jG n (l.erase i)) e σ
def gG.goes: gG->Bool
 | .inv _ | .pc _ | .A_ _=>false
 | _=>true
def bx.goes: bx->Bool
 | .app ..=>true
 | .ex o _=>o.goes
 | o=>o.cls != .no
def RX{o:bx}{e:Env}{σ : ai}{K Kp:AV->ai->Prop}(h:o.goes=true)(hh:o.run P e σ K Kp): ∃ v σ',K v σ':=by
 by_cases hn:o.cls≠ .no
 ·obtain⟨v,σ',_,h⟩:=(Hy hn).1 hh;exact⟨v,σ',h⟩
 by_cases hx:∃ o' xs,o = .ex o' xs
 ·obtain⟨o',xs,rfl⟩:=hx;obtain⟨v,σ',_,h1⟩:=gG.det (by replace h:o'.goes=true:=h;cases o'<;>first|(intro e;cases e;done)|(cases h;done)) (show o'.run P (xs.map (AX.ev e)) σ K Kp from hh);exact⟨v,σ',h1⟩
 cases o<;>(try (exact absurd ⟨_,_,rfl⟩ hx))<;>simp[bx.goes]at h<;>(try (exact absurd h hn));rename_i T el x1 y1;simp only[bx.run,oY]at hh;generalize AX.ev e _=y at hh
 have key:∀ (ys:List AV) (x:AV),(match x with
  | .aV=>if ys.length=0 then K .aV σ else gH ys.length el/\K (.own el σ.length ys.length 0 ys.length) (σ++[.dn T el ys])
  | .aR true bD xs=>bD=el/\if ys.length=0 then K (.aR true el xs) σ else gH (xs.length+ys.length) el/\K (.own el σ.length (xs.length+ys.length) 0 (xs.length+ys.length)) (σ++[.dn T el (xs++ys)])
  | .own bD l m lo n => bD = el /\ match σ[l]? with
    | some (.dn T' bN xs)=>(T'=none\/T'=T)/\bN=el/\m=xs.length/\lo=0/\n=xs.length/\gH (xs.length+ys.length) el/\K (.own el l (xs.length+ys.length) 0 (xs.length+ys.length)) (σ.set l (.dn T' el (xs++ys)))
    | _=>False
  | _=>False)-> ∃ v σ',K v σ':=fun ys x hx=>by
  split at hx
  ·split at hx
   ·exact⟨_,_,hx⟩
   exact⟨_,_,hx.2⟩
  ·replace hx:=hx.2
   split at hx
   ·exact⟨_,_,hx⟩
   exact⟨_,_,hx.2⟩
  ·replace hx:=hx.2
   split at hx
   ·exact⟨_,_,hx.2.2.2.2.2.2⟩
   exact hx.elim
  exact hx.elim
 unfold gN at hh;split at hh
 ·exact key _ _ hh.2
 ·exact key _ _ hh.2.2
 ·replace hh:=hh.2
  split at hh
  ·exact key _ _ hh.2.2.2
  exact hh.elim
 ·exact key _ _ hh.2.2
 ·obtain⟨u,_,h2⟩:=vN hh.2.2;exact key _ _ h2.2
 exact hh.elim
def acY{g:c_}{K:Env->ai->Prop}{e:Env}{σ : ai}(hc:g.op.goes=true)(h:fE P Q g K e σ): ∃ v σ',K (eV e g.dst v) σ':=by
 unfold fE at h;split at h
 ·exact RX hc h
 rename_i k b hg;split at h
 ·rename_i t ht;by_cases htb:t=b
  ·obtain⟨v,s,h⟩:=RX hc (h.1 htb);rw[oK (by rw[ht,htb])]at h;exact⟨v,s,h⟩
  have hn:t = !b:=by cases t<;>cases b<;>simp_all
  have h:=h.2 hn;rw[oK (by rw[ht,hn])]at h;exact⟨_,_,h⟩
 ·exact⟨_,_,h⟩
 exact h.elim
def aau{C:Env->Prop}{us:List Nat}(hC:∀ e σ,Q .normal e σ->C e)(Wk:∀ e e',(∀ t ∈ us,e' t=e t)->C e'->C e): ∀(l:List c_) (e:Env) (σ : ai),(∀ g ∈ l,g.op.goes=true/\j9 g.dst us=true)->fD P Q l e σ->C e
 | [],e,σ,_,h=>hC e σ h
 | g :: l, e, σ, hl, h => by
   rw[ym]at h;obtain⟨h1,h2⟩:=hl g aQ;obtain⟨v,σ',h⟩:=acY h1 h;exact Wk e _ (jF h2) (aau hC Wk l _ σ' (fun g hg=>hl g (by simp[hg])) h)
def RY{kp:List (AX × AX)}{e:Env}(h:q_ kp e){x y:AX}(hm:(x,y) ∈ kp): sP (x.ev e) (y.ev e):=by
 induction kp with
 | nil=>cases hm
 | cons p r ih =>
   obtain⟨a,b⟩:=p;rcases List.mem_cons.1 hm with h1|h1
   ·cases h1;exact h.1
   exact ih h.2 h1
def dstsOf(ops:Nat->c_)(j k:Nat): List Nat:=(List.range' j (k-j)).filterMap fun m=>(ops m).dst
def aav{ops:Nat->c_}{i j k:Nat}(h:i<=j): ∀ t ∈ dstsOf ops j k,t ∈ dstsOf ops i k:=by
 intro t ht;obtain⟨m,hm,he⟩:=List.mem_filterMap.1 ht;rw[List.mem_range'_1]at hm;exact List.mem_filterMap.2 ⟨m,by rw[List.mem_range'_1];omega,he⟩
def RZ(ops:Nat->c_)(n:Nat)(kp:List (AX × AX))(ck:List Nat)(j k:Nat): Prop :=
 (Ll (ops j) ((ops k).cut (dstsOf ops j k))=true/\((ops k).op.Di=true->HC kp=true))/\ ∀ x y,needs (ops j) (ops k)=some (x,y)->(x,y) ∈ kp/\ ∀ m,j<=m->m<n->(m=k\/m ∉ ck)->(ops m).op.goes=true/\j9 (ops m).dst (x.uses++y.uses)=true
def aaw {ops : Nat -> c_} {n : Nat} {kp : List (AX × AX)} {k : Nat} {ck : List Nat} {l2 : List Nat} : ∀ (l1 : List Nat) (e : Env) (σ : ai), (∀ j ∈ l1, RZ ops n kp ck j k) -> (∀ m ∈ l1 ++ l2, m ∉ ck) -> (l1 ++ k :: l2).Pairwise (· < ·) -> (∀ i ∈ l1 ++ k :: l2, i < n) ->
    fD P (jI kp Q) ((l1++k::l2).map ops) e σ->fE P (jI kp Q) ((ops k).cut (match l1 with | []=>[]|j::_=>dstsOf ops j k)) (fD P (jI kp Q) ((l1++l2).map ops)) e σ
 | [], e, σ, _, _, _, _, h => by
   rw[bS,bB,ym]at h;exact Wj h
 | j :: l1, e, σ, hc, hnc, hs, hn, h => by
   rw[bK,bB,ym]at h;rw[bK,bB];have heq:fD P (jI kp Q) (ops j::(l1++l2).map ops)=fE P (jI kp Q) (ops j) (fD P (jI kp Q) ((l1++l2).map ops)):=by funext e σ;exact ym _ _ _ _
   rw[heq];rw[bK,fK]at hs;obtain⟨hp1,hp2⟩:=hc j aQ;refine swap hp1.1 (fun h v e e' σ=>aan (hp1.2 (by rw[ahx]at h;exact h))) (fun x y hxy=>?_) (Jz (fun e σ h=>?_) h)
   ·rw[aas]at hxy;obtain⟨hm,hall⟩:=hp2 x y hxy;have FH:j<k:=hs.1 k aQ;refine⟨⟨(hall j (bg _) (hn j aQ) (.inr (hnc j aQ))).2,(hall k (Nat.le_of_lt FH) (hn k aQ) (.inl rfl)).2⟩,fun e σ hK=>?_⟩;refine aau (Q:=jI kp Q) (C:=fun e=>sP (x.ev e) (y.ev e)) (us:=x.uses++y.uses) (fun e σ h=>RY h.1 hm) (fun e e' he h=>?_) _ e σ (fun g hg=>?_) hK
    ·rw[AX.fV (x:=x) (fun t ht=>(he t (eL _ ht)).symm),AX.fV (x:=y) (fun t ht=>(he t (fQ _ ht)).symm)];exact h
    obtain⟨m,wY,rfl⟩:=cI.1 hg
    have Ai:m ∈ l1++k::l2:=by
     rcases List.mem_append.1 wY with h|h<;>simp[h]
    exact hall m (Nat.le_of_lt (hs.1 m Ai)) (hn m (dz _ Ai)) (.inr (hnc m (dz _ wY)))
   have:=aaw l1 e σ (fun j hj=>hc j (by simp[hj])) (fun m hm=>hnc m (dz _ hm)) hs.2 (fun i hi=>hn i (dz _ hi)) h;refine one_le (fun t ht=>?_) this;cases l1 with
   | nil=>cases ht
   | cons j' l1=>exact aav (Nat.le_of_lt (hs.1 j' aQ)) t ht
def behind {jG cl : Nat -> List Nat} {l : List Nat} (hlt : ∀ k, ∀ m ∈ jG k, m < k) (lR : ∀ k, ∀ j ∈ cl k, j ∈ jG k \/ ∃ m ∈ jG k, j ∈ cl m) (hinv : ∀ z, z ∉ l -> ∀ i ∈ jG z, i ∉ l) {j : Nat} :
    ∀(k:Nat),(∀ i ∈ jG k,i ∉ l)->j ∈ cl k->j ∉ l:=by
 intro k
 induction k using Nat.strongRecOn with
 | _ k ih =>
   intro hr hj;rcases lR k j hj with h|⟨m,hm,h⟩
   ·exact hr j h
   exact ih m (hlt k m hm) (hinv m (hr m hm)) h
def UK {ops ahy : Nat -> c_} {jG cl : Nat -> List Nat} {N : Nat} {kp : List (AX × AX)} (h0 : ∀ (i : Nat) (D : List Nat) (K : Env -> ai -> Prop) (e : Env) (σ : ai), fE P (jI kp Q) ((ops i).cut D) K e σ -> fE P (jI kp Q) (ahy i) K e σ) (hlt : ∀ k, ∀ m ∈ jG k, m < k) (lR : ∀ k, ∀ j ∈ cl k, j ∈ jG k \/ ∃ m ∈ jG k, j ∈ cl m) : ∀ (n : Nat) (l : List Nat) (e : Env) (σ : ai), l.length = n ->
    (∀ z,z ∉ l-> ∀ i ∈ jG z,i ∉ l)->(∀ i ∈ l,i<N)->l.Pairwise (fun j k=>j<k/\(j ∈ cl k\/RZ ops N kp (cl k) j k))->fD P (jI kp Q) (l.map ops) e σ->JD P (jI kp Q) ahy jG n l e σ:=by
 intro n
 induction n with
 | zero=>intro l e σ hl _ _ _ h;cases l with|nil=>exact⟨rfl,h⟩|cons=>cases hl
 | succ n ih =>
   intro l e σ hl hinv hN hp h;refine⟨fun hno=>?_,fun i hi hr=>?_⟩
   ·cases l with
    | nil=>exact h
    | cons x r =>
      obtain⟨j,hj,sD⟩:=hno x aQ;have h1:=hlt x j hj;rcases List.mem_cons.1 sD with rfl|h2
      ·exact absurd h1 (Nat.lt_irrefl _)
      have:=((fK.1 hp).1 j h2).1;omega
   obtain⟨l1,l2,rfl,hni⟩:=List.eq_append_cons_of_mem hi;have he:(l1++i::l2).erase i=l1++l2:=by rw[List.erase_append_right _ hni,List.erase_cons_head]
   have hp':=fX.1 hp
   have hcp:∀ j ∈ l1,RZ ops N kp (cl i) j i:=fun j hj=>by
    rcases(hp'.2.2 j hj i aQ).2 with h1|h1
    ·exact absurd (by simp[hj]) (behind hlt lR hinv i hr h1)
    exact h1
   have hb:=aaw l1 e σ hcp (fun m hm hmc=>behind hlt lR hinv i hr hmc (by rcases List.mem_append.1 hm with h|h<;>simp[h])) (hp.imp fun h=>h.1) hN h;have hb:=h0 _ _ _ _ _ hb;rw[he];refine Jz (fun e σ h=>ih _ e σ ?_ (fun z hz j hj sD=>?_) (fun m hm=>hN m ?_) ?_ h) hb
   ·simp at hl |-;omega
   ·have ahz : j ∈ l1 ++ i :: l2 := by
     rcases List.mem_append.1 sD with h|h<;>simp[h]
    by_cases hzi:z=i
    ·subst hzi;exact hr j hj ahz
    refine hinv z (fun hz'=>hz ?_) j hj ahz;rcases List.mem_append.1 hz' with h|h
    ·simp[h]
    rcases List.mem_cons.1 h with h|h
    ·exact absurd h hzi
    simp[h]
   ·rcases List.mem_append.1 hm with h|h<;>simp[h]
   refine List.Pairwise.sublist ?_ hp;exact List.Sublist.append_left (List.sublist_cons_self _ _) _
end
section
variable {P:Program}
def CG(P:Program)(nt:Nat)(h:Hints)(dr:Bool)(all:Array Oper)(o:Oper)(g:c_): Prop :=
 wU P nt h dr o=some g.op/\g.dst=o.dst/\match o.guard with
  | none=>g.guard=none
  | some (j,b)=> ∃ k,(all[j]?).bind (·.dst)=some k/\k<nt/\g.guard=some (k,b)
def Nc{nt:Nat}{h:Hints}{dr:Bool}{all:Array Oper}: ∀(l:List Oper) (gs:List c_),lV P nt h dr all l=some gs->gs.length=l.length/\ ∀(i:Nat) (o:Oper),l[i]? = some o-> ∃ g,gs[i]? = some g/\CG P nt h dr all o g:=by
 intro l
 induction l with
 | nil=>intro gs hc;cases hc;exact⟨rfl,fun i o hi=>by cases hi⟩
 | cons o l ih =>
   intro gs hc;simp only[lV]at hc;split at hc
   ·rename_i ao gs' h1 h2;obtain⟨i1,i2⟩:=ih gs' h2;split at hc
    ·rename_i hg;cases hc;refine⟨by simp[i1],fun i o' hi=>?_⟩;cases i with
     | zero=>cases hi;exact⟨_,rfl,h1,rfl,by rw[hg]⟩
     | succ i=>exact i2 i o' hi
    rename_i j b hg;split at hc
    ·rename_i k hk;split at hc
     ·rename_i hlt;cases hc;refine⟨by simp[i1],fun i o' hi=>?_⟩;cases i with
      | zero=>cases hi;exact⟨_,rfl,h1,rfl,by rw[hg];exact⟨k,hk,hlt,rfl⟩⟩
      | succ i=>exact i2 i o' hi
     ·cases hc
    ·cases hc
   ·cases hc
def aax {X : List Deferred} {ro : Option Nat} {wn : Nat} {nt : Nat} {h : Hints} {dr : Bool} {ops : Array Oper} {B : Nat -> Prop} {Q : AQ} {g0 : aN} {w0 : World} {nN : ai} {o : Oper} {gp : c_} {i : Nat} {K : Env -> ai -> Prop} {KK : Act -> World -> Prop}
    {g:aN} {w:World} {σ : ai} {e:Env} {a:Act} (Wk:CG P nt h dr ops o gp) (h0:ops[i]? = some o) (hR:Rel g w σ) (hE:iJ nt g w e a.tmps) (hd:lu X B σ g w a.defers) (fy:gE nN g0 w0 σ g w)
    (hk:∀ g' w' σ' e' a',K e' σ'->Rel g' w' σ'->iJ nt g' w' e' a'.tmps->lu X B σ' g' w' a'.defers->gE nN g0 w0 σ' g' w'->KK a' w') (hw:fE P Q gp K e σ):wpOpIn (WF ro) wn P ops (QR X nt B g0 w0 nN Q) i KK a w:=by
 obtain⟨h1,hds,hgd⟩:=Wk
 have go:∀ (e1:Env),iJ nt g w e1 a.tmps->gp.op.run P e1 σ (fun v σ'=>K (eV e1 gp.dst v) σ') (fun v σ'=>Q (.panic v) e1 σ')->o.wpIn (WF ro) wn P a w KK (QR X nt B g0 w0 nN Q):=fun e1 y9 hrun=>by
  rw[hds]at hrun;refine Oper.Jw ?_ ?_ (RP h1 hR y9 hrun)
  ·rintro a' w' ⟨v,g',av,σ',rfl,r1,r2,r3,r4⟩;exact hk g' w' σ' (eV e1 o.dst av) (a.put o.dst v) r4 r1 ((y9.mono r2.mono).put o.dst r3) (by rw[put_defers];exact hd.step r2) (fy.trans r2)
  rintro ex a' w' ⟨rfl,v,g',av,σ',rfl,r1,r2,r3,r4⟩;exact⟨g',e1,σ',hd.step r2,r1,y9.mono r2.mono,fy.trans r2,v,av,rfl,r3,r4⟩
 have pass:∀ (e1:Env),iJ nt g w e1 a.tmps->K (eV e1 gp.dst (.bU [])) σ->KK (a.put o.dst Go.undef) w:=fun e1 y9 hrun =>
  hk g w σ (eV e1 gp.dst (.bU [])) (a.put o.dst Go.undef) hrun hR (by rw[hds];exact y9.put o.dst (.bU [] #[] rfl (fun i hi=>absurd hi (dm _)))) (by rw[put_defers];exact hd) fy
 unfold wpOpIn;simp only[h0];unfold fE at hw;split at hgd
 ·rename_i hg;simp only[hgd]at hw;have X0:Region.wanted o (yielded ops a.tmps)=true:=by simp[Region.wanted,hg]
  rw[au X0];exact go e hE hw
 rename_i j b hg;obtain⟨k,hk',hlt,hgg⟩:=hgd;simp only[hgg]at hw;obtain⟨w1,w2⟩:=OW (ops:=ops) hE hg hk' hlt;split at hw
 ·rename_i t ht;have hwn:=w1 t ht;by_cases htb:t=b
  ·subst htb;rw[hwn,au aQ];exact go _ (hE.congr ht) (hw.1 rfl)
  have:t = !b:=by cases t<;>cases b<;>simp_all
  rw[hwn,aj (by simpa using htb)];refine⟨fun _ _=>trivial,pass _ (hE.congr ?_) (hw.2 this)⟩;rw[ht,this]
 ·rename_i ht;rw[w2 ht,aj aQ];exact⟨fun _ _=>trivial,pass e hE hw⟩
 exact hw.elim
def mL(ops:Array Oper)(i:Nat): List Nat :=
 match ops[i]? with
 | some o=>(o.after.toList.filter (Region.binds .any)).map (·.on)
 | none=>[]
def kD: c_:=⟨.lE ⟨false,0⟩,none,none⟩
def aay {X : List Deferred} {ro : Option Nat} {wn : Nat} {nt : Nat} {h : Hints} {ops : Array Oper} {B : Nat -> Prop} {Q : AQ} {g0 : aN} {w0 : World} {nN : ai} {gs : List c_} (hc : lV P nt h true ops ops.toList = some gs) (hlt : ∀ i, ∀ j ∈ mL ops i, j < i) :
    ∀ (n : Nat) (l : List Nat) (listed : Array Bool) (g : aN) (w : World) (σ : ai) (e : Env) (a : Act), listed.size = ops.size -> l.Nodup -> (∀ i, i ∈ l ↔ i < ops.size /\ listed.getD i true = false) ->
      JD P Q (fun i=>gs.getD i kD) (mL ops) n l e σ->Rel g w σ->iJ nt g w e a.tmps->lu X B σ g w a.defers->gE nN g0 w0 σ g w ->
      wpAnyIn (WF ro) wn P .any ops (QR X nt B g0 w0 nN Q) n listed a w:=by
 obtain⟨hlen,qL⟩:=Nc ops.toList gs hc
 have mem:∀ (l:List Nat) (listed:Array Bool),(∀ i,i ∈ l↔i<ops.size/\listed.getD i true=false)-> ∀ i,i ∈ Region.ready .any ops listed->i ∈ l/\ ∀ j ∈ mL ops i,j ∉ l:=by
  intro l listed hl i hi;simp only[Region.ready,List.mem_filter,eF,aD,ey]at hi;obtain⟨hlt,hun,Nd⟩:=hi;refine⟨(hl i).2 ⟨hlt,hun⟩,fun j hj sD=>?_⟩;obtain⟨OJ,hj2⟩:=(hl j).1 sD;have ho:ops[i]? = some ops[i]:=by simp[hlt]
  simp only[mL,ho,cI,List.mem_filter]at hj;obtain⟨ed,⟨he1,he2⟩,rfl⟩:=hj;simp only[ho,dh,bT]at Nd;have:=Array.all_eq_true_iff_forall_mem.1 Nd ed (by simpa using he1);simp only[he2,Bool.not_true,Bool.false_or]at this;rcases Nat.lt_or_ge ed.on listed.size with h'|h'
  ·simp[h']at this hj2;rw[this]at hj2;cases hj2
  simp[Array.getElem?_eq_none h']at this
 have alH:∀ (l:List Nat) (listed:Array Bool),listed.size=ops.size->(∀ i,i ∈ l↔i<ops.size/\listed.getD i true=false)->Region.ready .any ops listed=[]-> ∀ i ∈ l,∃ j ∈ mL ops i,j ∈ l:=by
  intro l listed hsz hl kU i hi;obtain⟨V5,hun⟩:=(hl i).1 hi;have ho:ops[i]? = some ops[i]:=by simp[V5]
  have hnot:i ∉ Region.ready .any ops listed:=by rw[kU];simp
  simp only[Region.ready,List.mem_filter,eF,aD,ey,V5,hun,ho,dh,bT,true_and,Array.all_eq_true_iff_forall_mem]at hnot;simp only[Classical.not_forall,kF,Bool.or_eq_false_iff,Bool.not_eq_false']at hnot;obtain⟨ed,he,hbd,hls⟩:=hnot
  have hj:ed.on ∈ mL ops i:=by
   simp only[mL,ho,cI,List.mem_filter];exact⟨ed,⟨by simpa using he,hbd⟩,rfl⟩
  have h1:=hlt i _ hj;refine⟨_,hj,(hl _).2 ⟨ae,?_⟩⟩;have h2:ed.on<listed.size:=ae;simp[h2]at hls |-;exact hls
 intro n
 induction n with
 | zero =>
   intro l listed g w σ e a hsz hnd hl ha hR hE hd fy;obtain⟨rfl,hq⟩:=ha;refine⟨?_,g,e,σ,hd,hR,hE,fy,hq⟩;refine List.eq_nil_iff_forall_not_mem.2 fun i hi=>?_;exact absurd (mem _ _ hl i hi).1 aQ
 | succ n ih =>
   intro l listed g w σ e a hsz hnd hl ha hR hE hd fy;refine⟨fun kU=>⟨g,e,σ,hd,hR,hE,fy,ha.1 (alH l listed hsz hl kU)⟩,fun i hi=>?_⟩;obtain⟨kK,hr⟩:=mem l listed hl i hi;have Fj:=((hl i).1 kK).1;have ho:ops[i]? = some ops[i]:=by simp[Fj]
   obtain⟨gp,hgp,Wk⟩:=qL i ops[i] (by simp[Fj]);have hrun:=ha.2 i kK hr;have hgd:gs.getD i kD=gp:=by simp[List.getD,hgp]
   have hrun:fE P Q gp (JD P Q (fun i=>gs.getD i kD) (mL ops) n (l.erase i)) e σ:=by rw[<-hgd];exact hrun
   refine aax Wk ho hR hE hd fy (fun g' w' σ' e' a' hK jf hE' hd' alI=>?_) hrun;refine ih (l.erase i) _ g' w' σ' e' a' (by simp[hsz]) (hnd.erase i) (fun k=>?_) hK jf hE' hd' alI;rw[hnd.mem_erase_iff,hl k];by_cases R5:k=i
   ·subst R5;simp[hsz,Fj]
   have:(listed.setIfInBounds i true).getD k true=listed.getD k true:=by
    simp[e8,Array.getElem?_setIfInBounds_ne (Ne.symm R5)]
   rw[this];simp[R5]
def yn(jG:Nat->List Nat): Nat->List (List Nat)
 | 0=>[]
 | n+1=>let c:=yn jG n;c++[((jG n).flatMap fun m=>c.getD m []).foldl (fun l x=>if l.contains x then l else x::l) (jG n)]
def HD(n:Nat)(jG:Nat->List Nat)(gs:List c_): Bool :=
 let cl:=yn jG n
 (List.range n).all fun k => (jG k).all (· < k) && (cl.getD k []).all (fun j => (jG k).contains j || (jG k).any fun m => (cl.getD m []).contains j) &&
   (List.range k).all fun j => (cl.getD k []).contains j || (Ll (gs.getD j kD) ((gs.getD k kD).cut (dstsOf (fun i => gs.getD i kD) j k)) && match needs (gs.getD j kD) (gs.getD k kD) with
     | some (x,y)=>(List.range n).all fun m=>decide (m<j) ||(decide (m≠k) && (cl.getD k []).contains m) ||((gs.getD m kD).op.goes && j9 (gs.getD m kD).dst (x.uses++y.uses))
     | none=>true)
def rh(n:Nat)(jG:Nat->List Nat)(gs:List c_): List (AX × AX) :=
 let cl:=yn jG n
 ((List.range n).flatMap fun k=>(List.range k).filterMap fun j=>if(cl.getD k []).contains j then none else needs (gs.getD j kD) (gs.getD k kD))++if gs.any fun g=>g.op.Di then [(.c .iS,.c .iS)]else []
def afU(h:Hints)(ops:Array Oper): List Nat :=
 let n:=ops.size
 let cl:=yn (mL ops) n
 let ls:=(List.range n).filter fun i=>match(ops[i]?).bind (·.dst)with
  | some d=>h.mth.contains (100000+d)
  | none=>false
 let late:=fun k=>ls.contains k || ls.any fun i=>(cl.getD k []).contains i
 (List.range n).filter (fun k=> !late k)++(List.range n).filter late
def R6(n:Nat)(p:List Nat): Bool:=decide (p.length=n) && decide p.Nodup && p.all (· < n) && (List.range n).all fun x=>p.contains x
def FI(jG:Nat->List Nat)(p:List Nat)(i:Nat): List Nat:=match p[i]? with
 | some k=>(jG k).map fun j=>p.idxOf j
 | none=>[]
def pN(gs:List c_)(p:List Nat): List c_:=p.map fun i=>gs.getD i kD
def acZ(n:Nat)(jG:Nat->List Nat): Bool:=(List.range n).all fun k=>(jG k).all (· < k)
def O1(jG:Nat->List Nat): ∀ n,(yn jG n).length=n
 | 0=>rfl
 | n+1=>by simp[yn,O1 jG n]
def QR.mono{X:List Deferred}{nt:Nat}{B:Nat->Prop}{g:aN}{w:World}{σ : ai}{Q Q':AQ}(h:∀ ex e σ,Q ex e σ->Q' ex e σ){ex:Exit}{a:Act}{w2:World}(hq:QR X nt B g w σ Q ex a w2): QR X nt B g w σ Q' ex a w2:=by
 obtain⟨g',e',σ',h1,h2,h3,h4,h5⟩:=hq;refine⟨g',e',σ',h1,h2,h3,h4,?_⟩;cases ex with
 | panic chain=>obtain⟨v,av,r1,r2,r3⟩:=h5;exact⟨v,av,r1,r2,h _ _ _ r3⟩
 | outgrown=>exact h5
 | normal=>exact h _ _ _ h5
 | exit id=>exact h _ _ _ h5
 | goto l=>exact h _ _ _ h5
 | ret=>exact h _ _ _ h5
def ajU {Q : AQ} {n : Nat} {jG : Nat -> List Nat} {gs gs0 : List c_} {e : Env} {σ : ai} (h0 : ∀ (i : Nat) (D : List Nat) (K : Env -> ai -> Prop) (e : Env) (σ : ai), fE P (jI (rh n jG gs) Q) ((gs.getD i kD).cut D) K e σ -> fE P (jI (rh n jG gs) Q) (gs0.getD i kD) K e σ) (hlen : gs.length = n) (hz : ∀ z, n <= z -> jG z = []) (hok : HD n jG gs = true) (hw : fD P (jI (rh n jG gs) Q) gs e σ) :
    JD P (jI (rh n jG gs) Q) (fun i=>gs0.getD i kD) jG n (List.range n) e σ:=by
 simp only[HD,bf,eF,aD,cN,aM,List.any_eq_true,List.contains_iff_mem]at hok
 have hlt:∀ i,∀ j ∈ jG i,j<i:=fun i j hj=>by
  by_cases hi:i<n
  ·exact(hok i hi).1.1 j hj
  rw[hz i (Nat.le_of_not_lt hi)]at hj;cases hj
 refine UK (ops:=fun i=>gs.getD i kD) (cl:=fun k=>(yn jG n).getD k []) (N:=n) h0 hlt (fun k j hj=>?_) _ _ e σ aQ (fun z hz' i hi=>?_) (fun i hi=>by simpa using hi) ?_ ?_
 ·by_cases hk:k<n
  ·exact(hok k hk).1.2 j hj
  have:(yn jG n).getD k []=[]:=by
   have:=O1 jG n;rw[aq,iD ae];rfl
  rw[this]at hj;cases hj
 ·have:jG z=[]:=hz z (by simpa using hz');rw[this]at hi;cases hi
 ·refine List.pairwise_iff_getElem.2 fun i j hi hj hij=>?_;simp only[List.getElem_range];simp at hi hj;refine⟨hij,?_⟩;by_cases lR:i ∈ (yn jG n).getD j []
  ·exact .inl lR
  refine .inr ?_;rcases(hok j hj).2 i hij with h1|⟨h1,h2⟩
  ·exact absurd h1 lR
  refine⟨⟨h1,fun hpc=>?_⟩,fun x y hxy=>⟨?_,fun m wY Ai hm3=>?_⟩⟩
  ·have ha:(gs.any fun g=>g.op.Di)=true:=List.any_eq_true.2 ⟨_,(by show gs.getD j kD ∈ gs;rw[aq,aG ae];exact dI _),hpc⟩;unfold HC rh;rw[au ha];simp[aam]
  ·refine eL _ (List.mem_flatMap.2 ⟨j,by simpa using hj,List.mem_filterMap.2 ⟨i,by simpa using hij,?_⟩⟩);rw[aj (by simpa[List.contains_iff_mem]using lR)];exact hxy
  simp only[hxy,bf,eF,aD,cN,aM]at h2;rcases h2 m Ai with(h3|h3)|h3
  ·omega
  ·rcases hm3 with h4|h4
   ·exact absurd h4 h3.1
   exact absurd (List.contains_iff_mem.1 h3.2) h4
  exact h3
 have:(List.range n).map (fun i=>gs.getD i kD)=gs:=by
  apply List.ext_getElem
  ·simp[hlen]
  intro i h1 h2;simp[aq,h2]
 rw[this];exact hw
def R7 {Q : AQ} {ops ops' : Nat -> c_} {jG ahA : Nat -> List Nat} {N : Nat} {f : Nat -> Nat} (hinj : ∀ i, i < N -> ∀ j, j < N -> f i = f j -> i = j) (Nf : ∀ i, i < N -> ops' i = ops (f i)) (Nd : ∀ i, i < N -> ∀ j, j < N -> (j ∈ ahA i ↔ f j ∈ jG (f i))) :
    ∀(n:Nat) (l l':List Nat) (e:Env) (σ : ai),l.Nodup->l'.Nodup->(∀ i ∈ l,i<N)->(∀ x,x ∈ l'↔ ∃ i,i ∈ l/\f i=x)->JD P Q ops' ahA n l e σ->JD P Q ops jG n l' e σ
 | 0, l, l', e, σ, _, _, _, hl, h => by
   obtain⟨h1,h2⟩:=h;subst h1;refine⟨?_,h2⟩;cases l' with
   | nil=>rfl
   | cons x _=>obtain⟨i,hi,_⟩:=(hl x).1 aQ;cases hi
 | n + 1, l, l', e, σ, hd, hd', hN, hl, h => by
   obtain⟨h1,h2⟩:=h;refine⟨fun hx=>h1 fun i hi=>?_,fun x hx hr=>?_⟩
   ·obtain⟨y,hy1,Wm⟩:=hx (f i) ((hl _).2 ⟨i,hi,rfl⟩);obtain⟨j,hj,rfl⟩:=(hl y).1 Wm;exact⟨j,(Nd i (hN i hi) j (hN j hj)).2 hy1,hj⟩
   obtain⟨i,hi,rfl⟩:=(hl x).1 hx;have h3:=h2 i hi fun j hj sD=>hr (f j) ((Nd i (hN i hi) j (hN j sD)).1 hj) ((hl _).2 ⟨j,sD,rfl⟩);rw[Nf i (hN i hi)]at h3;refine Jz (fun e σ h4=>?_) h3;refine R7 hinj Nf Nd n (l.erase i) (l'.erase (f i)) e σ (hd.erase i) (hd'.erase _) (fun k hk=>hN k (List.mem_of_mem_erase hk)) (fun z=>?_) h4;rw[hd'.mem_erase_iff,hl z];constructor
   ·rintro⟨hz,k,hk,rfl⟩;exact⟨k,hd.mem_erase_iff.2 ⟨fun R5=>hz (by rw[R5]),hk⟩,rfl⟩
   rintro⟨k,hk,rfl⟩;obtain⟨R5,hk⟩:=hd.mem_erase_iff.1 hk;exact⟨fun hf=>R5 (hinj k (hN k hk) i (hN i hi) hf),k,hk,rfl⟩
def X6 {X : List Deferred} {ro : Option Nat} {wn : Nat} {nt : Nat} {h : Hints} {ops : Array Oper} {B : Nat -> Prop} {Q : AQ} {gs : List c_} {p : List Nat} {id : Nat} {g : aN} {w : World} {σ : ai} {e : Env} {a : Act} (hc : lV P nt h true ops ops.toList = some gs)
    (hlt:acZ ops.size (mL ops)=true) (hp:R6 ops.size p=true) (qQ:gs.all (fun g=>FG g.op)=true) (hok:HD ops.size (FI (mL ops) p) (pN (gs.map (tJ h)) p)=true) (hm:P.follows .mixedOrders=true) (hw:fD P (jI (rh ops.size (FI (mL ops) p) (pN (gs.map (tJ h)) p)) Q) (pN (gs.map (tJ h)) p) e σ) (hR:Rel g w σ) (hE:iJ nt g w e a.tmps) (hd:lu X B σ g w a.defers):(Code.region id ops true).wpIn (WF ro) wn P (QR X nt B g w σ Q) a w:=by
 have Fj:∀ i,∀ j ∈ mL ops i,j<i:=fun i j hj=>by
  by_cases hi:i<ops.size
  ·simp only[acZ,bf,eF,aM]at hlt;exact hlt i hi j hj
  have:mL ops i=[]:=by simp[mL,Array.getElem?_eq_none (ja hi)]
  rw[this]at hj;cases hj
 simp only[R6,aD,aM,bf]at hp;obtain⟨⟨⟨hp1,hp2⟩,R8⟩,hp4⟩:=hp;refine wpIn_mono (wpIn_region_any hm ?_) fun ex a' w'=>QR.mono (Q:=jI (rh ops.size (FI (mL ops) p) (pN (gs.map (tJ h)) p)) Q) fun _ _ _=>acS;have jf:=hR.drew (w.drawn+1);have fy:=gE.drew σ g w (w.drawn+1);refine aay hc Fj ops.size (List.range ops.size) _ g _ σ e a aQ List.nodup_range (fun i=>by simp;intro h;simp[h]) ?_ jf (hE.mono fy.mono) (hd.step fy) fy
 have h0:∀ (Q:AQ) (i:Nat) (D:List Nat) (K:Env->ai->Prop) (e:Env) (σ : ai),fE P Q (((pN (gs.map (tJ h)) p).getD i kD).cut D) K e σ->fE P Q ((pN gs p).getD i kD) K e σ:=fun Q i D K e σ hh=>by
  have e1:∀ k,(gs.map (tJ h)).getD k kD=tJ h (gs.getD k kD):=fun k=>by
   rw[aq,aq,fP];cases gs[k]?<;>rfl
  have e2:(pN (gs.map (tJ h)) p).getD i kD=tJ h ((pN gs p).getD i kD):=by
   unfold pN;simp only[e1];rw[aq,aq,fP,fP];cases p[i]?<;>rfl
  rw[e2]at hh;refine aat ?_ hh
  have e3:∀ k,FG (gs.getD k kD).op=true:=fun k=>by
   rw[aq];cases hk:gs[k]? with
   | none=>rfl
   | some g=>exact bf.1 qQ g (jv hk)
  unfold pN;rw[aq,fP];cases p[i]? with
  | none=>rfl
  | some k=>exact e3 k
 have key:=ajU (P:=P) (Q:=Q) (n:=ops.size) (jG:=FI (mL ops) p) (gs:=pN (gs.map (tJ h)) p) (gs0:=pN gs p) (e:=e) (σ:=σ) (h0 _) (by simp[pN,hp1]) (fun z hz=>by simp[FI,iD (show p.length<=z by omega)]) hok hw;have hge:∀ i (hi:i<ops.size),p[i]? = some (p.getD i 0):=fun i hi=>by rw[aq,aG ae];rfl
 have hinj:∀ i,i<ops.size-> ∀ j,j<ops.size->p.getD i 0=p.getD j 0->i=j:=fun i hi j hj hij=>by
  have e1:=hge i hi;have e2:=hge j hj;rw[hij]at e1;exact(List.getElem?_inj ae hp2).1 (e1.trans e2.symm)
 have hidx:∀ j,j<ops.size->p.idxOf (p.getD j 0)=j:=fun j hj=>by
  rw[aq,aG ae];exact hp2.idxOf_getElem j ae
 have ahB:∀ x,x<ops.size->x ∈ p:=fun x hx=>List.contains_iff_mem.1 (hp4 x (by simpa using hx));refine R7 (N:=ops.size) (f:=fun i=>p.getD i 0) hinj (fun i hi=>?_) (fun i hi j hj=>?_) _ _ _ e σ List.nodup_range List.nodup_range (fun i hi=>by simpa using hi) (fun x=>?_) key
 ·simp only[pN,aq,fP];rw[hge i hi];rfl
 ·simp only[FI];rw[hge i hi];simp only[cI];constructor
  ·rintro⟨k,hk,rfl⟩
   have hkp:k ∈ p:=by
    have:=Fj _ k hk;have h5:p.getD i 0<ops.size:=R8 _ (jv (hge i hi));exact ahB k ae
   have:p.getD (p.idxOf k) 0=k:=by
    rw[aq,aG (List.idxOf_lt_length_iff.2 hkp)];exact List.getElem_idxOf _
   rw[this];exact hk
  intro hk;exact⟨_,hk,hidx j hj⟩
 constructor
 ·intro hx;have hx:=ahB x (by simpa using hx);obtain⟨i,hi,rfl⟩:=bV hx;exact⟨i,by simp;omega,by rw[aq,aG hi];rfl⟩
 rintro⟨i,hi,rfl⟩;simp only[eF]at hi |-;exact R8 _ (jv (hge i hi))
end
def Dk: dL->Option Nat
 | .seq a b => match Dk a with
   | some l=>some l
   | none=>Dk b
 | .label l=>some l
 | _=>none
def kS: dL->Nat->Option dL
 | .seq a b, l => match kS a l with
   | some r=>some (.seq r b)
   | none=>kS b l
 | .label l',l=>if l'==l then some .skip else none
 | _,_=>none
section
variable (P:Program)
def holds(nt:Nat)(gs:List c_): List c_ :=
 (List.range (gs.foldl (fun m g => match g.op with
   | .lC k _ _=>Nat.max m (k+1-nt)
   | .rU k _ _ _ _=>Nat.max m (k+1-nt)
   | .rV k _ _ _ _=>Nat.max m (k+1-nt)
   | _=>m) 0)).map fun i=>⟨.hold,some (nt+i),none⟩
def Iw {X : List Deferred} {P : Program} {Q : AQ} {nt : Nat} {B : Nat -> Prop} {w : World} {tmps : Array Value} {ds : List Deferred} {gs : List c_} : ∀ (l : List Nat) (g : aN) (σ : ai) (e : Env), fD P Q ((l.map fun i => (⟨.hold, some (nt + i), none⟩ : c_)) ++ gs) e σ -> Rel g w σ -> iJ nt g w e tmps -> lu X B σ g w ds ->
    ∃ g' σ' e',fD P Q gs e' σ'/\Rel g' w σ'/\iJ nt g' w e' tmps/\lu X B σ' g' w ds/\gE σ g w σ' g' w
 | [],g,σ,e,h,hR,hE,hd=>⟨g,σ,e,h,hR,hE,hd,.refl _ _ _⟩
 | i :: l, g, σ, e, h, hR, hE, hd => by
   rw[bB,bK]at h;have h:fD P Q ((l.map fun i=>(⟨.hold,some (nt+i),none⟩:c_))++gs) (eV e (some (nt+i)) (.ref σ.length 0)) (σ++[.resv]):=h;obtain⟨r1,r2⟩:=hR.hold
   have hE':iJ nt (g.push 0 none 0) w (eV e (some (nt+i)) (.ref σ.length 0)) tmps:=by
    refine⟨hE.size,fun t ht=>?_⟩;have hne:t≠nt+i:=ae;simp only[eV,aj hne];exact(hE.mono r2.mono).rel t ht
   obtain⟨g',σ',e',h1,h2,h3,h4,h5⟩:=Iw l _ _ _ h r1 hE' (hd.step r2);exact⟨g',σ',e',h1,h2,h3,h4,r2.trans h5⟩
def rcs: Code->List (Code × Code)
 | .rangeFunc _ _ a b=>[(a,b)]
 | .seq a b=>rcs a++rcs b
 | .cond _ a b=>rcs a++rcs b
 | .block _ a=>rcs a
 | .loop a=>rcs a
 | .scope a=>rcs a
 | _=>[]
def aoN(P:Program)(n k:Nat): Code × Code:=match(P.funcs[n]?).bind (·.body)with
 | some c=>(rcs c).getD k (.skip,.skip)
 | none=>(.skip,.skip)
def dX(nt:Nat)(h:Hints)(rd:Bool): Code->Option dL
 | .skip=>some .skip
 | .region _ ops false => match lV P nt h false ops ops.toList with
   | some gs=>some (.region gs)
   | none=>some .stop
 | .region _ ops true => match lV P nt h true ops ops.toList with
   | some gs => let p := afU h ops
     let gd:=pN (gs.map (tJ h)) p
     if(acZ ops.size (mL ops) && R6 ops.size p && gs.all (fun g=>FG g.op) && HD ops.size (FI (mL ops) p) gd) && P.follows .mixedOrders then some (.draw (holds nt gd++gd) (rh ops.size (FI (mL ops) p) gd))else some .stop
   | none=>some .stop
 | .seq a b => match dX nt h rd a, dX nt h rd b with
   | some x,some y=>some (.seq x y)
   | _,_=>none
 | .cond c a b => match cX nt c, dX nt h rd a, dX nt h rd b with
   | some z,some x,some y=>some (.cond z x y)
   | _,_,_=>none
 | .block id c=>(dX nt h rd c).map (.block id)
 | .loop c=>(dX nt h rd c).map .loop
 | .exit id=>some (.exit id)
 | .ret=>some .ret
 | .scope c => match dX nt h rd c with
   | some x => match Dk x with
     | some l => match kS x l with
       | some r=>some (.scope l x r)
       | none=>none
     | none=>none
   | none=>none
 | .label l=>some (.label l)
 | .goto l=>some (.goto l)
 | .rangeFunc _ _ _ _=>none
 | .refuse _=>some .stop
end
def FJ(ro:Option Nat)(P:Program)(m:Machine): m.fenced P (WF ro):=fenced_wide P m
section
variable {P:Program}
def QR.step{X:List Deferred}{nt:Nat}{B:Nat->Prop}{g g':aN}{w w':World}{σ σ':ai}{Q:AQ}(fy:gE σ g w σ' g' w'){ex:Exit}{a:Act}{w2:World}(h:QR X nt B g' w' σ' Q ex a w2): QR X nt B g w σ Q ex a w2:=by
 obtain⟨g2,e2,σ2,h1,h2,h3,h4,h5⟩:=h;exact⟨g2,e2,σ2,h1,h2,h3,fy.trans h4,h5⟩
def Sound(P:Program)(nt:Nat)(h:Hints)(c:Code): Prop :=
 ∀ (X : List Deferred) (ro : Option Nat) (wn : Nat) (B : Nat -> Prop) (ac : dL) (Q : AQ) (g : aN) (w : World) (σ : ai) (e : Env) (a : Act),
   dX P nt h ro.isSome c=some ac->jD P ac Q e σ->Rel g w σ->iJ nt g w e a.tmps->lu X B σ g w a.defers->BX ac B w->c.wpIn (WF ro) wn P (QR X nt B g w σ Q) a w
def R9{nt:Nat}{h:Hints}{rd:Bool}{l:Nat}: ∀(c:Code) (ac ar:dL),dX P nt h rd c=some ac->kS ac l=some ar-> ∃ rest,findLabel c l=some rest/\dX P nt h rd rest=some ar:=by
 intro c
 induction c with
 | seq x y Ak x6 =>
   intro ac ar hc hf;simp only[dX]at hc;split at hc
   ·rename_i ax ay h1 h2;cases hc;simp only[kS]at hf;split at hf
    ·rename_i r hr;cases hf;obtain⟨rest,r1,r2⟩:=Ak ax r h1 hr;exact⟨.seq rest y,by simp[findLabel,r1],by simp[dX,r2,h2]⟩
    rename_i hr;obtain⟨rest,r1,r2⟩:=x6 ay ar h2 hf;refine⟨rest,?_,r2⟩
    have:findLabel x l=none:=by
     have key:∀ (c:Code) (ac:dL),dX P nt h rd c=some ac->kS ac l=none->findLabel c l=none:=by
      intro c
      induction c with
      | seq x y Ak x6 =>
        intro ac hc hf;simp only[dX]at hc;split at hc
        ·rename_i ax ay h1 h2;cases hc;simp only[kS]at hf;split at hf
         ·cases hf
         rename_i hr;simp[findLabel,Ak ax h1 hr,x6 ay h2 hf]
        ·cases hc
      | label l' =>
        intro ac hc hf;cases hc;simp only[kS]at hf;simp only[findLabel];split at hf
        ·cases hf
        rename_i hh;rw[aj hh]
      | _=>intros;rfl
     exact key x ax h1 hr
    simp[findLabel,this,r1]
   ·cases hc
 | label l' =>
   intro ac ar hc hf;cases hc;simp only[kS]at hf;split at hf
   ·rename_i hh;cases hf;exact⟨.skip,by simp only[findLabel];rw[au hh],rfl⟩
   ·cases hf
 | region id ops d =>
   intro ac ar hc hf;cases d<;>simp only[dX]at hc
   ·split at hc<;>(cases hc;cases hf)
   split at hc
   ·split at hc<;>(cases hc;cases hf)
   ·cases hc;cases hf
 | cond z x y =>
   intro ac ar hc hf;simp only[dX]at hc;split at hc
   ·cases hc;cases hf
   ·cases hc
 | block id x=>intro ac ar hc hf;simp only[dX]at hc;obtain⟨gs,_,rfl⟩:=Option.map_eq_some_iff.1 hc;cases hf
 | loop x=>intro ac ar hc hf;simp only[dX]at hc;obtain⟨gs,_,rfl⟩:=Option.map_eq_some_iff.1 hc;cases hf
 | scope x =>
   intro ac ar hc hf;simp only[dX]at hc;split at hc
   ·split at hc
    ·split at hc
     ·cases hc;cases hf
     ·cases hc
    ·cases hc
   ·cases hc
 | _=>intro ac ar hc hf;cases hc<;>cases hf
def aaz: ∀(c:dL) (l:Nat) (r:dL),kS c l=some r->r.nE=true->c.nE=true:=by
 intro c
 induction c with
 | seq a b iha ihb =>
   intro l r h hr;simp only[kS]at h;split at h
   ·rename_i r' h';cases h;simp only[dL.nE,cN]at hr |-;exact hr.imp (iha l r' h') id
   simp only[dL.nE,cN];exact .inr (ihb l r h hr)
 | label l'=>intro l r h hr;simp only[kS]at h;split at h<;>cases h;cases hr
 | _=>intro l r h hr;cases h
def Ls{nt:Nat}{h:Hints}: Sound P nt h .skip:=fun X ro wn B ac Q g w σ e a hc hw hR hE hd hB=>by
 cases hc;exact wpIn_skip ⟨g,e,σ,hd,hR,hE,.refl _ _ _,hw⟩
def O2 {nt : Nat} {h : Hints} {x y : Code} (Ak : Sound P nt h x) (x6 : Sound P nt h y) : Sound P nt h (.seq x y) := by
    intro X ro wn B ac Q g w σ e a hc hw hR hE hd hB;simp only[dX]at hc;split at hc
    ·rename_i ax ay h1 h2;cases hc;refine wpIn_seq (wpIn_mono (Ak X ro wn B ax _ g w σ e a h1 hw hR hE hd (hB.sub (by simp[dL.nE];exact fun h=> .inl h))) ?_);rintro ex a' w' ⟨g',e',σ',r1,r2,r3,r4,r5⟩;cases ex with
     | normal =>
       refine wpIn_mono (x6 X ro wn B ay Q g' w' σ' e' a' h2 r5 r2 r3 r1 ((hB.sub (by simp[dL.nE];exact fun h=> .inr h)).size r4.size)) fun ex a2 w2 hq=>hq.step r4
     | exit id=>exact⟨g',e',σ',r1,r2,r3,r4,r5⟩
     | goto l=>exact⟨g',e',σ',r1,r2,r3,r4,r5⟩
     | ret=>exact⟨g',e',σ',r1,r2,r3,r4,r5⟩
     | panic ch=>exact⟨g',e',σ',r1,r2,r3,r4,r5⟩
     | outgrown=>exact r5.elim
    ·cases hc
def qE{b:Frame}{a:Act}{k:List Item}{cs:List Frame}{w:World}{c:Code}: Go.step P (lone (b.atR a (.code (.scope c)::k)) cs w) = .next (lone (b.atR a (.code c:: .inScope c::k)) cs w) :=
 step_lone_go (by simp[stepG,stepG.exec,Frame.atR])
def Eu{b:Frame}{a:Act}{k:List Item}{cs:List Frame}{w:World}{c:Code}: Go.step P (lone (b.atR a (.inScope c::k)) cs w) = .next (lone (b.atR a k) cs w) :=
 step_lone_go (by simp[stepG,stepG.exec,Frame.atR])
def UL{nt:Nat}{h:Hints}: ∀(c:Code),Sound P nt h c/\ ∀ l rest,findLabel c l=some rest->Sound P nt h rest:=by
 intro c
 induction c with
 | skip=>exact⟨Ls,fun _ _ h=>by cases h⟩
 | region id ops draw =>
   refine⟨?_,fun _ _ h=>by cases h⟩;intro X ro wn B ac Q g w σ e a hc hw hR hE hd hB;cases draw with
   | true =>
     simp only[dX]at hc;split at hc
     ·rename_i gs h1;split at hc
      ·rename_i hok;simp only[aD]at hok;cases hc;obtain⟨g1,σ1,e1,k1,k2,k3,k4,k5⟩:=Iw _ g σ e hw hR hE hd;exact wpIn_mono (X6 h1 hok.1.1.1.1 hok.1.1.1.2 hok.1.1.2 hok.1.2 hok.2 k1 k2 k3 k4) fun _ _ _ hq=>QR.step k5 hq
      ·cases hc;exact hw.elim
     ·cases hc;exact hw.elim
   | false =>
     simp only[dX]at hc;split at hc
     ·rename_i gs h1;cases hc;refine wpIn_region ?_;have:=OX (ro:=ro) (wn:=wn) (B:=B) (ops:=ops) (Q:=Q) (g0:=g) (w0:=w) (nN:=σ) ops.toList 0 gs g w σ e a h1 (fun j _=>by simp) hw hR hE hd (.refl _ _ _);rw[jt];simpa using this
     ·cases hc;exact hw.elim
 | seq x y Ak x6 =>
   refine⟨O2 Ak.1 x6.1,fun l rest hf=>?_⟩;simp only[findLabel]at hf;split at hf
   ·rename_i r hr;cases hf;exact O2 (Ak.2 l r hr) x6.1
   exact x6.2 l rest hf
 | cond z x y Ak x6 =>
   refine⟨?_,fun _ _ h=>by cases h⟩
   replace Ak:=Ak.1
   replace x6:=x6.1
   intro X ro wn B ac Q g w σ e a hc hw hR hE hd hB;simp only[dX]at hc;split at hc
   ·rename_i az ax ay h1 h2 h3;cases hc;have v1:=c9 h1 hE;simp only[jD]at hw;generalize AX.ev e az=zv at v1 hw;generalize fy:a.eval z=cv at v1;cases v1<;>simp only at hw;rename_i t;refine wpIn_cond_split fy (fun ht=>?_) (fun ht=>?_)
    ·exact Ak X ro wn B ax Q g w σ e a h2 (hw.1 ht) hR hE hd (hB.sub (by simp[dL.nE];exact fun h=> .inl h))
    exact x6 X ro wn B ay Q g w σ e a h3 (hw.2 ht) hR hE hd (hB.sub (by simp[dL.nE];exact fun h=> .inr h))
   ·cases hc
 | block id x ih =>
   refine⟨?_,fun _ _ h=>by cases h⟩
   replace ih:=ih.1
   intro X ro wn B ac Q g w σ e a hc hw hR hE hd hB;simp only[dX,bj]at hc;obtain⟨ax,h1,rfl⟩:=hc;refine wpIn_block (wpIn_mono (ih X ro wn B ax _ g w σ e a h1 hw hR hE hd (hB.sub (by simp[dL.nE]))) ?_);rintro ex a' w' ⟨g',e',σ',r1,r2,r3,r4,r5⟩;cases ex with
   | exit i =>
     simp only[uI]at r5;simp only[Exit.inBlock];split
     ·rename_i e1;rw[au e1]at r5;exact⟨g',e',σ',r1,r2,r3,r4,r5⟩
     rename_i e1;rw[aj e1]at r5;exact⟨g',e',σ',r1,r2,r3,r4,r5⟩
   | normal=>exact⟨g',e',σ',r1,r2,r3,r4,r5⟩
   | goto l=>exact⟨g',e',σ',r1,r2,r3,r4,r5⟩
   | ret=>exact⟨g',e',σ',r1,r2,r3,r4,r5⟩
   | panic ch=>exact⟨g',e',σ',r1,r2,r3,r4,r5⟩
   | outgrown=>exact r5.elim
 | loop x ih =>
   refine⟨?_,fun _ _ h=>by cases h⟩
   replace ih:=ih.1
   intro X ro wn B ac Q g w σ e a hc hw hR hE hd hB;simp only[dX,bj]at hc;obtain⟨ax,h1,rfl⟩:=hc;obtain⟨I,⟨n0,hI⟩,ahC⟩:=hw
   have key:∀ (n:Nat) (g1:aN) (w1:World) (σ1:ai) (e1:Env) (a1:Act),I n e1 σ1->Rel g1 w1 σ1->iJ nt g1 w1 e1 a1.tmps->lu X B σ1 g1 w1 a1.defers->BX (.loop ax) B w1 ->
    ∀(b:Frame) (k:List Item) (cs:List Frame),b.roundOf=ro-> ∃ ex a' w',QR X nt B g1 w1 σ1 Q ex a' w'/\ArrivesIn (Machine.fenced P (WF ro)) P (lone (b.atR a1 (.code x:: .inLoop x::k)) cs w1) b k cs ex a' w':=by
    intro n
    induction n using Nat.strongRecOn with
    | _ n ihn =>
      intro g1 w1 σ1 e1 a1 hI1 hR1 y9 BW hB1 b k cs hro;obtain⟨ex,a',w',hq,mW⟩:=ih X ro wn B ax _ g1 w1 σ1 e1 a1 h1 (ahC n e1 σ1 hI1) hR1 y9 BW (hB1.sub (by simp[dL.nE])) b (.inLoop x::k) cs hro trivial (M8 _ _);obtain⟨g',e',σ',r1,r2,r3,r4,r5⟩:=hq;cases ex with
      | normal =>
        obtain⟨m,hlt,hI2⟩:=r5;obtain⟨ex2,a2,w2,Lt,Lu⟩:=ihn m hlt g' w' σ' e' a' hI2 r2 r3 r1 (hB1.size r4.size) b k cs hro;exact⟨ex2,a2,w2,Lt.step r4,.of_steps (StepsIn.trans mW (.one (FJ ro P _) stepR_inLoop)) Lu⟩
      | exit id=>exact⟨_,a',w',⟨g',e',σ',r1,r2,r3,r4,r5⟩,.pass (x:= .inLoop x) rfl (fun _ _=> .inl aQ) mW⟩
      | goto l=>exact⟨_,a',w',⟨g',e',σ',r1,r2,r3,r4,r5⟩,.pass (x:= .inLoop x) rfl (fun _ _=> .inl aQ) mW⟩
      | ret=>exact⟨_,a',w',⟨g',e',σ',r1,r2,r3,r4,r5⟩,.pass (x:= .inLoop x) rfl (fun _ _=> .inl aQ) mW⟩
      | panic ch=>exact⟨_,a',w',⟨g',e',σ',r1,r2,r3,r4,r5⟩,.pass (x:= .inLoop x) rfl (fun _ _=> .inl aQ) mW⟩
      | outgrown=>exact r5.elim
   intro b k cs hro hF hr;obtain⟨ex,a',w',hq,mW⟩:=key _ g w σ e a hI hR hE hd hB b k cs hro;exact⟨ex,a',w',hq,.of_steps (.one (FJ ro P _) stepR_loop) mW⟩
 | exit id=>exact⟨fun X ro wn B ac Q g w σ e a hc hw hR hE hd hB=>by cases hc;exact wpIn_exit ⟨g,e,σ,hd,hR,hE,.refl _ _ _,hw⟩,fun _ _ h=>by cases h⟩
 | ret=>exact⟨fun X ro wn B ac Q g w σ e a hc hw hR hE hd hB=>by cases hc;exact wpIn_ret ⟨g,e,σ,hd,hR,hE,.refl _ _ _,hw⟩,fun _ _ h=>by cases h⟩
 | rangeFunc f ps x y Ak x6=>exact⟨fun _ _ _ _ _ _ _ _ _ _ _ hc=>(by cases hc),fun _ _ h=>by cases h⟩
 | refuse s=>exact⟨fun X ro wn B ac Q g w σ e a hc hw=>(by cases hc;exact hw.elim),fun _ _ h=>by cases h⟩
 | goto l=>exact⟨fun X ro wn B ac Q g w σ e a hc hw hR hE hd hB=>by cases hc;exact wpIn_goto ⟨g,e,σ,hd,hR,hE,.refl _ _ _,hw⟩,fun _ _ h=>by cases h⟩
 | label l =>
   refine⟨fun X ro wn B ac Q g w σ e a hc hw hR hE hd hB=>by cases hc;exact wpIn_label ⟨g,e,σ,hd,hR,hE,.refl _ _ _,hw⟩,fun l' rest hf=>?_⟩;simp only[findLabel]at hf;split at hf
   ·cases hf;exact Ls
   ·cases hf
 | scope x ih =>
   refine⟨?_,fun _ _ h=>by cases h⟩;intro X ro wn B ac Q g w σ e a hc hw hR hE hd hB;simp only[dX]at hc;split at hc
   ·rename_i ax h1;split at hc
    ·rename_i l _;split at hc
     ·rename_i ar h2;cases hc;obtain⟨rest,hf,hcr⟩:=R9 x ax ar h1 h2;have hs:=ih.2 l rest hf;obtain⟨J,ahD,Lv⟩:=hw;intro b k cs hro hF hr;have Ix:∀ m:Machine,m.fenced P (WF ro):=FJ ro P;have hg:gotoIn l (.inScope x::k)=some (.code rest:: .inScope x::k):=by simp[gotoIn,hf]
      have key:∀ (n:Nat) (g1:aN) (w1:World) (σ1:ai) (e1:Env) (a1:Act),J n e1 σ1->Rel g1 w1 σ1->iJ nt g1 w1 e1 a1.tmps->lu X B σ1 g1 w1 a1.defers->BX ax B w1 ->
       ∃ ex a' w',QR X nt B g1 w1 σ1 Q ex a' w'/\ArrivesIn (Machine.fenced P (WF ro)) P (lone (b.atR a1 (.code rest:: .inScope x::k)) cs w1) b k cs ex a' w':=by
       intro n
       induction n using Nat.strongRecOn with
       | _ n ihn =>
         intro g1 w1 σ1 e1 a1 hJ1 hR1 y9 BW hB1;obtain⟨ex,a',w',hq,mW⟩:=hs X ro wn B ar _ g1 w1 σ1 e1 a1 hcr (Lv n e1 σ1 hJ1) hR1 y9 BW (hB1.sub (aaz ax l ar h2)) b (.inScope x::k) cs hro trivial (M8 _ _);obtain⟨g',e',σ',r1,r2,r3,r4,r5⟩:=hq;cases ex with
         | normal=>exact⟨.normal,a',w',⟨g',e',σ',r1,r2,r3,r4,r5⟩,StepsIn.trans mW (.one (Ix _) Eu)⟩
         | exit id=>exact⟨.exit id,a',w',⟨g',e',σ',r1,r2,r3,r4,r5⟩,fun k' hk=>mW.1 k' (by simp[exitTo,hk]),fun BY hk=>mW.2 BY (by simp[exitTo,hk])⟩
         | goto l' =>
           obtain⟨rfl,m,hlt,hJ2⟩:=r5;obtain⟨ex2,a2,w2,Lt,Lu⟩:=ihn m hlt g' w' σ' e' a' hJ2 r2 r3 r1 (hB1.size r4.size);exact⟨ex2,a2,w2,Lt.step r4,.of_steps (mW.1 _ hg) Lu⟩
         | ret=>exact⟨.ret,a',w',⟨g',e',σ',r1,r2,r3,r4,r5⟩,mW⟩
         | panic ch=>exact⟨.panic ch,a',w',⟨g',e',σ',r1,r2,r3,r4,r5⟩,mW⟩
         | outgrown=>exact r5.elim
      obtain⟨ex,a',w',hq,mW⟩:=ih.1 X ro wn B ax _ g w σ e a h1 ahD hR hE hd (hB.sub (by simp[dL.nE])) b (.inScope x::k) cs hro trivial (M8 _ _);obtain⟨g',e',σ',r1,r2,r3,r4,r5⟩:=hq;cases ex with
      | normal=>exact⟨.normal,a',w',⟨g',e',σ',r1,r2,r3,r4,r5⟩,.head (Ix _) qE (StepsIn.trans mW (.one (Ix _) Eu))⟩
      | exit id=>exact⟨.exit id,a',w',⟨g',e',σ',r1,r2,r3,r4,r5⟩,fun k' hk=> .head (Ix _) qE (mW.1 k' (by simp[exitTo,hk])),fun BY hk=>let ⟨k1,p1,p2⟩:=mW.2 BY (by simp[exitTo,hk]);⟨k1,p1,.head (Ix _) qE p2⟩⟩
      | goto l' =>
        obtain⟨rfl,n0,hJ2⟩:=r5;obtain⟨ex2,a2,w2,Lt,Lu⟩:=key _ g' w' σ' e' a' hJ2 r2 r3 r1 ((hB.sub (by simp[dL.nE])).size r4.size);exact⟨ex2,a2,w2,Lt.step r4,.of_steps (.head (Ix _) qE (mW.1 _ hg)) Lu⟩
      | ret=>exact⟨.ret,a',w',⟨g',e',σ',r1,r2,r3,r4,r5⟩,.of_steps (.one (Ix _) qE) mW⟩
      | panic ch=>exact⟨.panic ch,a',w',⟨g',e',σ',r1,r2,r3,r4,r5⟩,.of_steps (.one (Ix _) qE) mW⟩
      | outgrown=>exact r5.elim
     ·cases hc
    ·cases hc
   ·cases hc
def yo{nt:Nat}{h:Hints}(c:Code): Sound P nt h c:=(UL c).1
inductive pO where
 | tmp (t:Nat)
 | cell (t:Nat) (ag:Bool) (n:Nat)
structure X7 where
 nt:Nat
 results:List pO
 body:dL
def lW(P:Program)(nt:Nat): List ResultVar->Option (List pO)
 | []=>some []
 | .tmp t::r=>if t<nt then(lW P nt r).map (.tmp t:: ·)else none
 | .cell a t :: r => match mV P t, P.info? t with
   | some ag,some i=>if a<nt && (ag || i.size==1)then (lW P nt r).map (.cell a ag i.size:: ·)else none
   | _,_=>none
def zb(P:Program)(h:Hints)(fn:Func): Option X7 :=
 match fn.body with
 | some c => match dX P fn.ntmps h false c, lW P fn.ntmps fn.results.toList with
   | some b,some rs=>some ⟨fn.ntmps,rs,b⟩
   | _,_=>none
 | none=>none
def mu(e:Env)(σ : ai): List pO->(List AV->Prop)->Prop
 | [],K=>K []
 | .tmp t::r,K=>mu e σ r fun vs=>K (e t::vs)
 | .cell t ag n::r,K=>ij σ ag n (e t) fun v=>mu e σ r fun vs=>K (v::vs)
def oneOf: List AV->AV
 | [v]=>v
 | vs=> .bU vs
def JE(rs:List pO)(R:Out->ai->Prop): AQ
 | .normal,e,σ=>mu e σ rs fun vs=>R (.ret (oneOf vs)) σ
 | .ret,e,σ=>mu e σ rs fun vs=>R (.ret (oneOf vs)) σ
 | .panic v,_,σ=>R (.panic v) σ
 | _,_,_=>False
def ld(args:List AV): Env:=fun n=>args.getD n .undef
def O4 {nt : Nat} {g : aN} {w : World} {σ : ai} {e : Env} {tmps : Array Value} (hR : Rel g w σ) (hE : iJ nt g w e tmps) : ∀ (rv : List ResultVar) (rs : List pO) (K : List AV -> Prop), lW P nt rv = some rs -> mu e σ rs K ->
    ∃ (vz : List AV) (us : List Value), (rv.mapM fun (r : ResultVar) => (match r with
      | ResultVar.tmp t=>pure (tmps.getD t Go.undef)
      | ResultVar.cell a t=>do loadVar t (← asAddr (tmps.getD a Go.undef)):Sem Value)).run P w=Result.ok us w/\vz.length=us.length/\(∀ i,i<vz.length->VR g w (vz.getD i .undef) (us.getD i Go.undef))/\K vz:=by
 intro rv
 induction rv with
 | nil=>intro rs K h hK;cases h;exact⟨[],[],rfl,rfl,fun i hi=>absurd hi (Nat.not_lt_zero _),hK⟩
 | cons r rv ih =>
   intro rs K h hK;cases r with
   | tmp t =>
     simp only[lW]at h;split at h
     ·rename_i ht;simp only[bj]at h;obtain⟨rs',h1,rfl⟩:=h;obtain⟨vz,us,r1,r2,r3,r4⟩:=ih rs' _ h1 hK;refine⟨e t::vz,tmps.getD t Go.undef::us,?_,by simp[r2],fun i hi=>?_,r4⟩
      ·rw[List.mapM_cons,Sem.run_bind];simp only[Sem.run_pure,Result.andThen_ok,Sem.run_bind,r1]
      ·cases i with
       | zero=>simpa using hE.rel t ht
       | succ i=>simpa using r3 i (by simpa using hi)
     ·cases h
   | cell a t =>
     simp only[lW]at h;split at h
     ·rename_i ag ti hA hi;split at h
      ·rename_i hh;simp only[aD,aM,cN,beq_iff_eq]at hh;simp only[bj]at h;obtain⟨rs',h1,rfl⟩:=h
       have hone:ag=false->ti.size=1:=fun e1=>by
        rcases hh.2 with h|h
        ·rw[e1]at h;cases h
        exact h
       have hv:=hE.rel a hh.1;obtain⟨u,av,l1,l2,l3⟩:=OG (P:=P) hR hA hi hone hv hK
       obtain⟨A,x5⟩:∃ A,tmps.getD a Go.undef = .pointer (some A):=by
        simp only[mu]at hK;generalize e a=p at hv hK;generalize tmps.getD a Go.undef=pv at hv;cases hv<;>simp only[ij]at hK
        ·rename_i h;obtain⟨_,A,h,_⟩:=h;exact⟨A,h⟩
        ·exact⟨_,rfl⟩
        rename_i h;obtain⟨_,_,A,h,_⟩:=h;exact⟨A,h⟩
       obtain⟨vz,us,r1,r2,r3,r4⟩:=ih rs' _ h1 l3;refine⟨av::vz,u::us,?_,by simp[r2],fun i hi=>?_,r4⟩
       ·rw[x5]at l1;simp only[Instr.loadAt,Instr.sureAddr,Sem.run_bind,Sem.run_pure,Result.andThen_ok]at l1;have ha:(asAddr (tmps.getD a Go.undef)).run P w = .ok A w:=by rw[x5];rfl
        rw[List.mapM_cons,Sem.run_bind];simp only[Sem.run_bind,ha,Result.andThen_ok,l1,r1,Sem.run_pure]
       ·cases i with
        | zero=>simpa using l2
        | succ i=>simpa using r3 i (by simpa using hi)
      ·cases h
     ·cases h
def Be{fn:Func}{tmps:Array Value}{us:List Value}{w:World} (h:(fn.results.toList.mapM fun(r:ResultVar)=>(match r with
 | ResultVar.tmp t=>pure (tmps.getD t Go.undef)
 | ResultVar.cell a t => do loadVar t (← asAddr (tmps.getD a Go.undef)) : Sem Value)).run P w = Result.ok us w) :
    (results fn tmps).run P w = .ok (if h:us.toArray.size=1 then us.toArray[0]else .tuple us.toArray) w:=by
 unfold results;rw[Array.mapM_eq_mapM_toList];simp only[Sem.run_bind,Sem.run_map];exact(aW (fun r:Result (List Value)=>(r.andThen fun a w'=>Result.ok a.toArray w').andThen fun a w'=>Sem.run P (pure (if h:a.size=1 then a[0]else Value.tuple a):Sem Value) w') h).trans rfl
def ri {nt : Nat} {fn : Func} {tmps : Array Value} {R : Ending -> World -> Prop} {g0 : aN} {w0 : World} {nN : ai} {g : aN} {σ : ai} {e : Env} {u : FrameMode} {X : List Deferred} (hu : u ≠ .run) : ∀ (ds : List Deferred) (w : World),
    y8 (fun D=>w0.heap.size<=D) σ g w ds->Rel g w σ->iJ nt g w e tmps->gE nN g0 w0 σ g w->(∀ w2,Rel g w2 σ->iJ nt g w2 e tmps->gE nN g0 w0 σ g w2->kH g w g w2->LeavesInM (WF none) 0 P fn tmps R X u w2)->LeavesInM (WF none) 0 P fn tmps R (ds++X) u w
 | [],w,_,hR,hE,hv,JF=>JF w hR hE hv (.refl _ _)
 | d :: ds, w, hd, hR, hE, hv, JF => by
   obtain⟨D,h1,h2,h3,h4,h5⟩:=hd.mark d aQ;obtain⟨r1,r2,r3⟩:=hR.ahe (w':=w.putObj D (.deferred none)) hv h2 h4 h5 aQ rfl rfl rfl (fun c hc=>World.putObj_heap_other hc);refine⟨hu,.inl ⟨D,_,by rw[h1],run_takeDeferred h3,ri hu ds _ ⟨(List.nodup_cons.1 hd.nodup).2,fun d' hd'=>?_⟩ r1 (hE.mono r3) r2 (fun w2 a1 a2 a3 a4=>JF w2 a1 a2 a3 (r3.trans a4))⟩⟩;obtain⟨D',k1,k2,k3,k4,k5⟩:=hd.mark d' (by simp[hd']);refine⟨D',k1,k2,(World.putObj_heap_other (fun e=>?_)).trans k3,k4,k5⟩;subst e;exact(List.nodup_cons.1 hd.nodup).1 (by rw[h1,<-k1];exact hd')
def Wn{g:aN}{w:World}{vz:List AV}{us:List Value}(r2:vz.length=us.length)(r3:∀ i,i<vz.length->VR g w (vz.getD i .undef) (us.getD i Go.undef)): VR g w (oneOf vz) (if h:us.toArray.size=1 then us.toArray[0]else .tuple us.toArray):=by
 match vz,us,r2,r3 with
 | [av],[u],_,r3=>simpa[oneOf]using r3 0 aQ
 | [],[],_,r3=>exact .bU [] #[] rfl (fun i hi=>absurd hi (dm _))
 | a1 :: a2 :: az, u1 :: u2 :: us, r2, r3 =>
   have:¬ (u1::u2::us).toArray.size=1:=aQ;rw[dif_neg this];exact .bU _ _ (by simpa using r2) (fun i hi=>by simpa using r3 i hi)
def Iy {nt : Nat} {fn : Func} {rs : List pO} {g : aN} {w : World} {σ : ai} {R : Out -> ai -> Prop} {ex : Exit} {a : Act} {w' : World} (O5 : lW P nt fn.results.toList = some rs)
    (h:QR [] nt (fun D=>w.heap.size<=D) g w σ (JE rs R) ex a w'):bodyPostM (WF none) 0 P fn (fun e w'=> ∃ out g' σ',Rel g' w' σ'/\gE σ g w σ' g' w'/\A9 g' w' out e/\R out σ') ex a w':=by
 obtain⟨g',e',σ',⟨ms,vA,h1⟩,h2,h3,h4,h5⟩:=h
 have done:mu e' σ' rs (fun vs=>R (.ret (oneOf vs)) σ')->LeavesInM (WF none) 0 P fn a.tmps (fun e w'=> ∃ out g' σ',Rel g' w' σ'/\gE σ g w σ' g' w'/\A9 g' w' out e/\R out σ') a.defers .returning w':=fun hres=>by
  rw[vA];refine ri aQ ms w' h1 h2 h3 h4 (fun w2 h2 h3 h4 _=>?_);obtain⟨vz,us,r1,r2,r3,r4⟩:=O4 (P:=P) h2 h3 fn.results.toList rs _ O5 hres;exact⟨_,Be r1,.ret (oneOf vz),g',σ',h2,h4,Wn r2 r3,r4⟩
 cases ex with
 | normal=>exact done h5
 | ret=>exact done h5
 | panic chain =>
   obtain⟨v,av,rfl,hv,hq⟩:=h5;show LeavesInM (WF none) 0 P fn a.tmps _ a.defers _ w';rw[vA];exact ri aQ ms w' h1 h2 h3 h4 (fun w2 h2 h3 h4 hm=>⟨.panic av,g',σ',h2,h4,⟨v,rfl,hv.mono hm⟩,hq⟩)
 | exit id=>exact h5.elim
 | goto l=>exact h5.elim
 | outgrown=>exact h5.elim
def cE.of_wp {f : FuncId} {fn : Func} {h : Hints} {af : X7} {args : List AV} {σ : ai} {R : Out → ai → Prop} (hf : P.funcs[f]? = some fn) (hn : (fn.name == "runtime.NumGoroutine") = false) (hc : zb P h fn = some af)
    (hl:args.length<=af.nt) (hw:jD P af.body (JE af.results R) (ld args) σ):cE P f args σ R:=by
 unfold zb at hc;split at hc
 ·rename_i c hb;split at hc
  ·rename_i b rs h1 h2;cases hc;refine⟨⟨fn,hf,by simp[hb],hn⟩,fun g w vs hR hlen hv=>?_⟩;refine M9.1 (callsIn_of_wp_marks (F:=WF none) (n:=0) hf hb trivial (wpIn_mono (yo c [] none 0 (fun D=>w.heap.size<=D) b _ g w σ (ld args) _ h1 hw hR ⟨?_,fun t ht=>?_⟩ (lu.nil _ _ _ _ _) (BX.at _ _)) fun ex a w' hq=>Iy h2 hq))
   ·simp only at hl;simp;omega
   by_cases h:t<args.length
   ·have h3:t<vs.size:=ae;have:=hv t h;simp only[ld];rw[e8,fx h3];simpa using this
   have:ld args t = .undef:=by simp[ld,iD (ja h)]
   rw[this];exact .undef _
  ·cases hc
 ·cases hc
end
variable {P:Program}
universe u
inductive Tg {α : Sort u} (K : α):Type where
 | mk
def jS(v:AV){K:AV->Prop}(_:Tg K): Prop:=K v
def tK(σ : ai){K:ai->Prop}(_:Tg K): Prop:=K σ
@[go_sem] def alJ (v:AV) (K:AV->Prop):jS v (.mk:Tg K)=K v:=_root_.id rfl
@[go_sem] def alK (v:ai) (K:ai->Prop):tK v (.mk:Tg K)=K v:=_root_.id rfl
def req(p:Prop){K:Prop}(_:Tg K): Prop:=p/\(p->K)
def yp{p K:Prop}(h:p)(hk:p->K): req p (.mk:Tg K):=⟨h,hk⟩
@[go_sem] def alL (K:Prop):req True (.mk:Tg K)=K:=by simp[req]
def dK(p K:Prop): (p/\K)=req p (.mk:Tg K):=by simp only[req];exact propext ⟨fun h=>⟨h.1,fun _=>h.2⟩,fun h=>⟨h.1,h.2 h.1⟩⟩
@[go_sem ↓] def aoO (e:Env) (n:Nat):AX.ev e (.t n)=e n:=_root_.id rfl
@[go_sem ↓] def aoP (e:Env) (a:AV):AX.ev e (.c a)=a:=_root_.id rfl
def Lw(c:Bool){a b:AV}(_:Tg (a,b)): AV:=if c then a else b
@[go_sem] def anr (a b:AV):Lw true (.mk:Tg (a,b))=a:=_root_.id rfl
@[go_sem] def ans (a b:AV):Lw false (.mk:Tg (a,b))=b:=_root_.id rfl
@[go_sem ↓] def ant (e : Env) (d : Nat) (v : AV) (n : Nat) : eV e (some d) v n = Lw (n == d) (.mk : Tg (v, e n)) := by
  simp only[eV,Lw,beq_iff_eq]
@[go_sem ↓] def alM (e:Env) (v:AV):eV e none v=e:=_root_.id rfl
@[go_sem] def ajV (a:AV) (az:List AV):ld (a::az) 0=a:=_root_.id rfl
@[go_sem] def ajW (a:AV) (az:List AV) (n:Nat):ld (a::az) (n+1)=ld az n:=_root_.id rfl
def Dl(v:AV){T E:Prop}(_:Tg (T,E)): Prop :=
 match v with
 | .bool t=>(t=true->T)/\(t=false->E)
 | _=>False
@[go_sem] def ajX (T E:Prop):Dl (.bool true) (.mk:Tg (T,E))=T:=by simp[Dl]
@[go_sem] def ajl (T E:Prop):Dl (.bool false) (.mk:Tg (T,E))=E:=by simp[Dl]
def afV{t:Bool}{T E:Prop}(h:t=true->T)(h':t=false->E): Dl (.bool t) (.mk:Tg (T,E)):=⟨h,h'⟩
@[go_sem ↓] def alN (Q:AQ) (e:Env) (σ : ai):jD P .skip Q e σ = Q .normal e σ:=_root_.id rfl
@[go_sem ↓] def ajY (ops:List c_) (Q:AQ) (e:Env) (σ : ai):jD P (.region ops) Q e σ = fD P Q ops e σ:=_root_.id rfl
@[go_sem ↓] def alO (ops:List c_) (kp:List (AX × AX)) (Q:AQ) (e:Env) (σ : ai):jD P (.draw ops kp) Q e σ = fD P (jI kp Q) ops e σ:=_root_.id rfl
@[go_sem ↓] def anu (a b:dL) (Q:AQ) (e:Env) (σ : ai):jD P (.seq a b) Q e σ = jD P a (mK (jD P b Q) Q) e σ:=_root_.id rfl
@[go_sem ↓] def alP (c:AX) (a b:dL) (Q:AQ) (e:Env) (σ : ai):jD P (.cond c a b) Q e σ = Dl (c.ev e) (.mk:Tg (jD P a Q e σ,jD P b Q e σ)):=_root_.id rfl
@[go_sem ↓] def akK (id:Nat) (c:dL) (Q:AQ) (e:Env) (σ : ai):jD P (.block id c) Q e σ = jD P c (uI id Q) e σ:=_root_.id rfl
@[go_sem ↓] def alQ (id:Nat) (Q:AQ) (e:Env) (σ : ai):jD P (.exit id) Q e σ = Q (.exit id) e σ:=_root_.id rfl
@[go_sem ↓] def anv (Q:AQ) (e:Env) (σ : ai):jD P .ret Q e σ = Q .ret e σ:=_root_.id rfl
@[go_sem ↓] def akL (l:Nat) (Q:AQ) (e:Env) (σ : ai):jD P (.label l) Q e σ = Q .normal e σ:=_root_.id rfl
@[go_sem ↓] def alR (l:Nat) (Q:AQ) (e:Env) (σ : ai):jD P (.goto l) Q e σ = Q (.goto l) e σ:=_root_.id rfl
def X8{c:dL}{Q:AQ}{e:Env}{σ : ai}(P:Program)(_:Tg (c,Q,e,σ)): Prop:=afj (jD P c) Q e σ
@[go_sem ↓] def alS (c:dL) (Q:AQ) (e:Env) (σ : ai):jD P (.loop c) Q e σ = X8 P (.mk:Tg (c,Q,e,σ)):=_root_.id rfl
def R_{l:Nat}{c r:dL}{Q:AQ}{e:Env}{σ : ai}(P:Program)(_:Tg (l,c,r,Q,e,σ)): Prop:=aao l (jD P c) (jD P r) Q e σ
@[go_sem ↓] def akM (l:Nat) (c r:dL) (Q:AQ) (e:Env) (σ : ai):jD P (.scope l c r) Q e σ = R_ P (.mk:Tg (l,c,r,Q,e,σ)):=_root_.id rfl
@[go_sem ↓] def ahE (K:Env->ai->Prop) (Q:AQ) (e:Env) (σ : ai):mK K Q .normal e σ = K e σ:=_root_.id rfl
@[go_sem ↓] def ajZ (K:Env->ai->Prop) (Q:AQ) (i:Nat) (e:Env) (σ : ai):mK K Q (.exit i) e σ = Q (.exit i) e σ:=_root_.id rfl
@[go_sem ↓] def akN (K:Env->ai->Prop) (Q:AQ) (e:Env) (σ : ai):mK K Q .ret e σ = Q .ret e σ:=_root_.id rfl
@[go_sem ↓] def aj0 (K:Env->ai->Prop) (Q:AQ) (l:Nat) (e:Env) (σ : ai):mK K Q (.goto l) e σ = Q (.goto l) e σ:=_root_.id rfl
@[go_sem ↓] def ajm (K:Env->ai->Prop) (Q:AQ) (v:AV) (e:Env) (σ : ai):mK K Q (.panic v) e σ = Q (.panic v) e σ:=_root_.id rfl
@[go_sem ↓] def ag8 (id:Nat) (Q:AQ) (e:Env) (σ : ai):uI id Q .normal e σ = Q .normal e σ:=_root_.id rfl
@[go_sem ↓] def aj1 (id:Nat) (Q:AQ) (e:Env) (σ : ai):uI id Q .ret e σ = Q .ret e σ:=_root_.id rfl
@[go_sem ↓] def ahF (id:Nat) (Q:AQ) (v:AV) (e:Env) (σ : ai):uI id Q (.panic v) e σ = Q (.panic v) e σ:=_root_.id rfl
def HE(c:Bool){T E:Prop}(_:Tg (T,E)): Prop:=if c then T else E
@[go_sem] def anw (T E:Prop):HE true (.mk:Tg (T,E))=T:=by simp[HE]
@[go_sem] def anx (T E:Prop):HE false (.mk:Tg (T,E))=E:=by simp[HE]
@[go_sem ↓] def ajn (id i : Nat) (Q : AQ) (e : Env) (σ : ai) : uI id Q (.exit i) e σ = HE (i == id) (.mk : Tg (Q .normal e σ, Q (.exit i) e σ)) := by
  simp only[uI,HE,beq_iff_eq]
@[go_sem ↓] def ahG (kp:List (AX × AX)) (Q:AQ) (e:Env) (σ : ai):jI kp Q .normal e σ = req (q_ kp e) (.mk:Tg (Q .normal e σ)):=dK _ _
@[go_sem ↓] def ajo (Q:AQ) (v:AV) (e:Env) (σ : ai):jI [] Q (.panic v) e σ = Q (.panic v) e σ:=_root_.id rfl
@[go_sem ↓] def ahH (Q:AQ) (v:AV) (e:Env) (σ : ai):jI [(.c .iS,.c .iS)] Q (.panic v) e σ = ∀ e',Q (.panic v) e' σ:=_root_.id rfl
@[go_sem ↓] def aj2 (Q:AQ) (e:Env) (σ : ai):fD P Q [] e σ = Q .normal e σ:=_root_.id rfl
@[go_sem ↓] def ajp (Q:AQ) (o:bx) (d:Option Nat) (r:List c_) (e:Env) (σ : ai) :
 fD P Q (⟨o,d,none⟩::r) e σ = o.run P e σ (fun v σ'=>jS v (.mk:Tg fun v=>tK σ' (.mk:Tg fun σ'=>fD P Q r (eV e d v) σ'))) (fun v σ'=>Q (.panic v) e σ'):=rfl
def ou(v:AV)(b:Bool){T E U:Prop}(_:Tg (T,E,U)): Prop :=
 match v with
 | .bool t=>(t=b->T)/\(t = !b->E)
 | .bU []=>U
 | _=>False
@[go_sem] def akO (T E U:Prop):ou (.bool true) true (.mk:Tg (T,E,U))=T:=by simp[ou]
@[go_sem] def akP (T E U:Prop):ou (.bool false) false (.mk:Tg (T,E,U))=T:=by simp[ou]
@[go_sem] def akQ (T E U:Prop):ou (.bool true) false (.mk:Tg (T,E,U))=E:=by simp[ou]
@[go_sem] def akR (T E U:Prop):ou (.bool false) true (.mk:Tg (T,E,U))=E:=by simp[ou]
@[go_sem] def alT (b:Bool) (T E U:Prop):ou (.bU []) b (.mk:Tg (T,E,U))=U:=by simp[ou]
def ac0{t b:Bool}{T E U:Prop}(h:t=b->T)(h':t = !b->E): ou (.bool t) b (.mk:Tg (T,E,U)):=⟨h,h'⟩
@[go_sem ↓] def ahI (Q:AQ) (o:bx) (d:Option Nat) (k:Nat) (b:Bool) (r:List c_) (e:Env) (σ : ai) :
 fD P Q (⟨o,d,some (k,b)⟩::r) e σ = ou (e k) b (.mk:Tg (o.run P (eV e (some k) (.bool b)) σ (fun v σ'=>jS v (.mk:Tg fun v=>tK σ' (.mk:Tg fun σ'=>fD P Q r (eV (eV e (some k) (.bool b)) d v) σ'))) (fun v σ'=>Q (.panic v) (eV e (some k) (.bool b)) σ'),
  fD P Q r (eV (eV e (some k) (.bool (!b))) d (.bU [])) σ,fD P Q r (eV e d (.bU [])) σ)):=by
  simp only[fD,ou,jS,tK];cases e k<;>rfl
section
variable (e:Env) (σ : ai) (K Kp:AV->ai->Prop)
@[go_sem ↓] def aof (x:AX):bx.run P (.mv x) e σ K Kp=K (x.ev e) σ:=_root_.id rfl
@[go_sem ↓] def akS (cs:List AV):bx.run P (.alloc none cs) e σ K Kp=K (.ref σ.length 0) (σ++[.cells cs]):=_root_.id rfl
@[go_sem ↓] def aj3 (T:TypeId) (cs:List AV):bx.run P (.alloc (some T) cs) e σ K Kp=K (.ref σ.length 0) (σ++[.bY (some T) cs]):=_root_.id rfl
@[go_sem ↓] def akT (el:El):bx.run P (.lE el) e σ K Kp=K (.own el σ.length 0 0 0) (σ++[.vec el []]):=_root_.id rfl
def afk(T:TypeId)(v:AV)(σ : ai){K:AV->ai->Prop}(_:Tg K): Prop:=v.cells.all AV.scalar=true/\K (.ref σ.length 0) (σ++[.bY (some T) v.cells])
@[go_sem ↓] def alU (T:TypeId) (x:AX):bx.run P (.y4 T x) e σ K Kp=afk T (x.ev e) σ (.mk:Tg K):=_root_.id rfl
@[go_sem] def alV (T:TypeId) (v:AV) (K:AV->ai->Prop):afk T v σ (.mk:Tg K)=req (v.cells.all AV.scalar=true) (.mk:Tg (K (.ref σ.length 0) (σ++[.bY (some T) v.cells]))):=dK _ _
@[go_sem ↓] def akU (t:TypeId) (x:AX):bx.run P (.wC t x) e σ K Kp=K (.kZ t (x.ev e)) σ:=_root_.id rfl
@[go_sem ↓] def alW (f:Fn) (a b:List AX):bx.run P (.tU f a b) e σ K Kp=K (.fn f (a.map (AX.ev e)) (b.map (AX.ev e))) σ:=_root_.id rfl
def y4(v:AV)(σ : ai){K:AV->ai->Prop}(_:Tg K): Prop:=v.cells.all AV.scalar=true/\K (.ref σ.length 0) (σ++[.cells v.cells])
@[go_sem ↓] def anz (x:AX):bx.run P (.box x) e σ K Kp=y4 (x.ev e) σ (.mk:Tg K):=_root_.id rfl
def X9(c a b:AV){K:AV->Prop}(_:Tg K): Prop:=match c with | .bool t=>K (if t then a else b)|_=>False
@[go_sem ↓] def alX (c a b : AX) : bx.run P (.pick c a b) e σ K Kp = X9 (c.ev e) (a.ev e) (b.ev e) (.mk : Tg fun v => K v σ) := by
  simp only[bx.run,X9];rfl
def loadT(σ : ai)(ag:Bool)(n:Nat)(p:AV){K:AV->Prop}(_:Tg K): Prop:=ij σ ag n p K
def storeT(σ : ai)(n:Nat)(p v:AV){K:ai->Prop}(_:Tg K): Prop:=oe σ n p v K
def jg(op:BinOp)(x y:AV){K:AV->Prop}(_:Tg K): Prop:=kJ op x y K
def unT(op:UnOp)(x:AV){K:AV->Prop}(_:Tg K): Prop:=Ff op x K
@[go_sem ↓] def run_load (ag:Bool) (n:Nat) (x:AX):bx.run P (.load ag n x) e σ K Kp=loadT σ ag n (x.ev e) (.mk:Tg fun v=>K v σ):=_root_.id rfl
@[go_sem ↓] def run_store (n:Nat) (x v:AX):bx.run P (.store n x v) e σ K Kp=storeT σ n (x.ev e) (v.ev e) (.mk:Tg fun σ'=>K (.bU []) σ'):=_root_.id rfl
@[go_sem ↓] def anA (op:BinOp) (x y:AX):bx.run P (.bin op x y) e σ K Kp=jg op (x.ev e) (y.ev e) (.mk:Tg fun v=>K v σ):=_root_.id rfl
@[go_sem ↓] def aog (op:UnOp) (x:AX):bx.run P (.un op x) e σ K Kp=unT op (x.ev e) (.mk:Tg fun v=>K v σ):=_root_.id rfl
def Ng (s : Bool) (x : AV) {K : AV -> Prop} (_ : Tg K) : Prop := match s, x with
    | true,.str s=>K (.int .i64 s.length)
    | false,.aV=>K (.int .i64 0)
    | false,.aR _ _ xs=>K (.int .i64 xs.length)
    | false,.own _ _ _ _ n=>K (.int .i64 n)
    | _,_=>False
@[go_sem ↓] def anB (s : Bool) (x : AX) : bx.run P (.len s x) e σ K Kp = Ng s (x.ev e) (.mk : Tg fun v => K v σ) := by
  simp only[bx.run,Ng];rfl
def ac1(x:AV)(i:Nat){K:AV->Prop}(_:Tg K): Prop:=match x with | .bU vs=>i<vs.length/\K (vs.getD i .undef)|_=>False
@[go_sem ↓] def anC (x : AX) (i : Nat) : bx.run P (.ext x i) e σ K Kp = ac1 (x.ev e) i (.mk : Tg fun v => K v σ) := by
  simp only[bx.run,ac1];rfl
def Dm(op:Bool)(x:AV)(xs:List AV){K:AV->Prop}(_:Tg K): Prop:=tH op x xs K
@[go_sem ↓] def anD (x:AX) (xs:List AX):bx.run P (.min x xs) e σ K Kp=Dm true (x.ev e) (xs.map (AX.ev e)) (.mk:Tg fun v=>K v σ):=_root_.id rfl
@[go_sem ↓] def anE (x:AX) (xs:List AX):bx.run P (.max x xs) e σ K Kp=Dm false (x.ev e) (xs.map (AX.ev e)) (.mk:Tg fun v=>K v σ):=_root_.id rfl
def Nh(K Kp:AV->ai->Prop): Out->ai->Prop
 | .ret r,σ=>K r σ
 | .panic r,σ=>Kp r σ
def HF (P : Program) (q : Bool) (f : AV) (args : List AV) (σ : ai) {K Kp : AV -> ai -> Prop} (_ : Tg (K, Kp)) : Prop := match f with
    | .fn (.func n) first cap =>
      if q then ∃ r,(∀ τ,kq P n (first++args++cap) (σ++ τ) r)/\K r σ
      else cE P n (first++args++cap) σ (Nh K Kp)
    | .qV l=>if q then False else wQ P l args σ (Nh K Kp)
    | _=>False
@[go_sem ↓] def alY (q : Bool) (f : AX) (args : List AX) : bx.run P (.call q f args) e σ K Kp = HF P q (f.ev e) (args.map (AX.ev e)) σ (.mk : Tg (K, Kp)) := by
  simp only[bx.run,HF];rfl
def Rh(P:Program)(n:FuncId)(args:List AV)(σ : ai){K Kp:AV->ai->Prop}(_:Tg (K,Kp)): Prop :=
 ∃ o,(∀ s,cE P n args s fun o' s'=>o'=o/\s'=s)/\pcK (fun r=>K r σ) (fun v=> ∀ s,Kp v s) o
@[go_sem ↓] def aoh (n:FuncId) (args:List AX):bx.run P (.ex (.pc n) args) e σ K Kp=Rh P n (args.map (AX.ev e)) σ (.mk:Tg (K,Kp)):=_root_.id rfl
def FK{n:Int}(h : -9223372036854775808<=n)(h':n<=9223372036854775807): dw .i64 n=n:=IntWalk.i64_in n ⟨h,h'⟩
@[go_sem] def aoi (a b:AV) (K:AV->Prop):X9 (.bool true) a b (.mk:Tg K)=jS a (.mk:Tg K):=_root_.id rfl
@[go_sem] def aoj (a b:AV) (K:AV->Prop):X9 (.bool false) a b (.mk:Tg K)=jS b (.mk:Tg K):=_root_.id rfl
@[go_sem] def anF (v:AV) (K:AV->ai->Prop):y4 v σ (.mk:Tg K)=req (v.cells.all AV.scalar=true) (.mk:Tg (K (.ref σ.length 0) (σ++[.cells v.cells]))):=dK _ _
variable (k:IntKind) (a b:Int) (s t:List UInt8) (p q:Bool) (K:AV->Prop)
@[go_sem] def alZ:jg .add (.int k a) (.int k b) (.mk:Tg K)=K (.int k (dw k (a+b))):=by simp[jg,kJ]
@[go_sem] def al0:jg .sub (.int k a) (.int k b) (.mk:Tg K)=K (.int k (dw k (a-b))):=by simp[jg,kJ]
@[go_sem] def al1:jg .mul (.int k a) (.int k b) (.mk:Tg K)=K (.int k (dw k (a*b))):=by simp[jg,kJ]
@[go_sem] def al2:jg .quo (.int k a) (.int k b) (.mk:Tg K)=req (b≠0) (.mk:Tg (K (.int k (dw k (a.tdiv b))))):=by rw[<-dK];simp[jg,kJ]
@[go_sem] def al3:jg .rem (.int k a) (.int k b) (.mk:Tg K)=req (b≠0) (.mk:Tg (K (.int k (a.tmod b)))):=by rw[<-dK];simp[jg,kJ]
@[go_sem] def al4:jg .eql (.int k a) (.int k b) (.mk:Tg K)=K (.bool (a==b)):=by simp[jg,kJ]
@[go_sem] def al5:jg .neq (.int k a) (.int k b) (.mk:Tg K)=K (.bool (!(a==b))):=by simp[jg,kJ]
@[go_sem] def al6:jg .lss (.int k a) (.int k b) (.mk:Tg K)=K (.bool (decide (a<b))):=by simp[jg,kJ]
@[go_sem] def al7:jg .leq (.int k a) (.int k b) (.mk:Tg K)=K (.bool (decide (a<=b))):=by simp[jg,kJ]
@[go_sem] def al8:jg .gtr (.int k a) (.int k b) (.mk:Tg K)=K (.bool (decide (b<a))):=by simp[jg,kJ]
@[go_sem] def al9:jg .geq (.int k a) (.int k b) (.mk:Tg K)=K (.bool (decide (b<=a))):=by simp[jg,kJ]
@[go_sem] def akV:jg .add (.str s) (.str t) (.mk:Tg K)=req (((s.length+t.length:Nat):Int)<=IntKind.i64.max) (.mk:Tg (K (.str (s++t)))):=by rw[<-dK];simp[jg,kJ]
@[go_sem] def akW:jg .eql (.str s) (.str t) (.mk:Tg K)=K (.bool (s==t)):=by simp[jg,kJ]
@[go_sem] def akX:jg .neq (.str s) (.str t) (.mk:Tg K)=K (.bool (!(s==t))):=by simp[jg,kJ]
@[go_sem] def anG:unT .not (.bool p) (.mk:Tg K)=K (.bool (!p)):=_root_.id rfl
@[go_sem] def aok:Ng true (.str s) (.mk:Tg K)=K (.int .i64 s.length):=_root_.id rfl
@[go_sem] def akY:Ng false .aV (.mk:Tg K)=K (.int .i64 0):=_root_.id rfl
@[go_sem] def al_ (f:Bool) (el:El) (xs:List AV):Ng false (.aR f el xs) (.mk:Tg K)=K (.int .i64 xs.length):=_root_.id rfl
@[go_sem] def ama (el:El) (l m lo n:Nat):Ng false (.own el l m lo n) (.mk:Tg K)=K (.int .i64 n):=_root_.id rfl
@[go_sem] def amb (vs:List AV) (i:Nat):ac1 (.bU vs) i (.mk:Tg K)=req (i<vs.length) (.mk:Tg (K (vs.getD i .undef))):=dK _ _
@[go_sem] def akZ (op:Bool) (x:AV):Dm op x [] (.mk:Tg K)=K x:=_root_.id rfl
@[go_sem] def anH (ys:List AV):Dm true (.int k a) (.int k b::ys) (.mk:Tg K)=Dm true (.int k (if b<a then b else a)) ys (.mk:Tg K):=_root_.id rfl
@[go_sem] def anI (ys:List AV):Dm false (.int k a) (.int k b::ys) (.mk:Tg K)=Dm false (.int k (if a<b then b else a)) ys (.mk:Tg K):=_root_.id rfl
@[go_sem ↓] def amc (K:List AV->Prop):mu e σ [] K=K []:=_root_.id rfl
@[go_sem ↓] def amd (t:Nat) (r:List pO) (K:List AV->Prop):mu e σ (.tmp t::r) K=mu e σ r fun vs=>K (e t::vs):=_root_.id rfl
end
