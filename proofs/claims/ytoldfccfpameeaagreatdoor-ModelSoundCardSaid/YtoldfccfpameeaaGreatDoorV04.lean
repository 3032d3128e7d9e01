/- Part. -/
import Derived.Test.YtoldfccfpameeaaGreatDoorV03
import Derived.Scope
import Derived.IntWalk
set_option linter.all false
namespace Go.AM
def cW.uses(g:cW): List Nat:=g.op.uses++(match g.guard with|some (k,_)=>[k]|none=>[])
def fm(P:Program)(Q:AQ)(g:cW)(K:Env->ai->Prop)(e:Env)(σ : ai): Prop :=
 match g.guard with
 | none=>g.op.run P e σ (fun v σ'=>K (eP e g.dst v) σ') (fun v σ'=>Q (.panic v) e σ')
 | some (k, b) => match e k with
   | .bool t => (t = b -> g.op.run P (eP e (some k) (.bool b)) σ (fun v σ' => K (eP (eP e (some k) (.bool b)) g.dst v) σ') (fun v σ' => Q (.panic v) (eP e (some k) (.bool b)) σ')) /\
      (t = !b->K (eP (eP e (some k) (.bool (!b))) g.dst (.bR [])) σ)
   | .bR []=>K (eP e g.dst (.bR [])) σ
   | _=>False
def oG{e:Env}{k:Nat}{v:AV}(h:e k=v): eP e (some k) v=e:=by
 funext n;simp only[eP];split
 ·rename_i h1;subst h1;exact h.symm
 rfl
section
variable {P:Program} {Q:AQ}
def xY(g:cW)(r:List cW)(e:Env)(σ : ai): fh P Q (g::r) e σ = fm P Q g (fh P Q r) e σ:=by
 obtain⟨o,d,gd⟩:=g;cases gd with
 | none=>rfl
 | some kb=>obtain⟨k,b⟩:=kb;rfl
def cW.D(P:Program)(g:cW)(e:Env)(σ : ai)(v:AV)(σ':ai): Prop :=
 match g.guard with
 | none=>g.op.D P e σ v σ'
 | some (k, b) => match e k with
   | .bool t=>if t=b then g.op.D P e σ v σ' else v = .bR []/\σ' = σ
   | .bR []=>v = .bR []/\σ' = σ
   | _=>False
def kp{g:cW}{e:Env}{σ : ai}{v:AV}{σ':ai}(h:g.D P e σ v σ'): (g.op.D P e σ v σ'/\ ∀ s u s',g.op.D P e s u s'->g.D P e s u s')\/(v = .bR []/\σ' = σ/\ ∀ s,g.D P e s (.bR []) s):=by
 unfold cW.D at *;split at h
 ·exact .inl ⟨h,fun _ _ _ h=>h⟩
 split at h
 ·split at h
  ·rename_i h1 h2;simp only[au h2];exact .inl ⟨h,fun _ _ _ h=>h⟩
  rename_i h1 h2;simp only[aj h2];exact .inr ⟨h.1,h.2,fun _=>⟨trivial,trivial⟩⟩
 ·exact .inr ⟨h.1,h.2,fun _=>⟨rfl,rfl⟩⟩
 exact h.elim
def iO{g:cW}{K:Env->ai->Prop}{e:Env}{σ : ai}(hc:g.op.cls≠ .no): fm P Q g K e σ↔ ∃ v σ',g.D P e σ v σ'/\K (eP e g.dst v) σ':=by
 unfold fm cW.D;split
 ·exact GZ hc
 rename_i k b hg;split
 ·rename_i t ht;by_cases htb:t=b
  ·subst htb;rw[oG ht];simp only[↓reduceIte];constructor
   ·exact fun h=>(GZ hc).1 (h.1 trivial)
   exact fun h=>⟨fun _=>(GZ hc).2 h,fun h=>by cases t<;>cases h⟩
  have hn:t = !b:=by cases t<;>cases b<;>simp_all
  have hs:eP e (some k) (.bool (!b))=e:=oG (by rw[ht,hn]);simp only[aj htb,hs];constructor
  ·exact fun h=>⟨_,σ,⟨rfl,rfl⟩,h.2 hn⟩
  rintro⟨v,τ,⟨rfl,rfl⟩,h⟩;exact⟨fun h'=>absurd h' htb,fun _=>h⟩
 ·constructor
  ·exact fun h=>⟨_,σ,⟨rfl,rfl⟩,h⟩
  rintro⟨v,τ,⟨rfl,rfl⟩,h⟩;exact h
 constructor
 ·exact fun h=>h.elim
 exact fun⟨_,_,h,_⟩=>h.elim
def I1{g:cW}{K K':Env->ai->Prop}{e:Env}{σ : ai}(h:∀ e σ,K e σ->K' e σ): fm P Q g K e σ->fm P Q g K' e σ:=by
 unfold fm;split
 ·exact tL (fun v s=>h _ _) (fun _ _ h=>h)
 split
 ·exact fun hh=>⟨fun ht=>tL (fun v s=>h _ _) (fun _ _ h=>h) (hh.1 ht),fun ht=>h _ _ (hh.2 ht)⟩
 ·exact h _ _
 exact id
def I2{g:cW}{e e':Env}{σ : ai}{v:AV}{σ':ai}(h:∀ t ∈ g.uses,e t=e' t)(hD:g.D P e σ v σ'): g.D P e' σ v σ':=by
 have ho:∀ t ∈ g.op.uses,e t=e' t:=fun t ht=>h t (eK _ ht);unfold cW.D at *;split at hD
 ·rename_i hg;exact Vg ho hD
 rename_i k b hg;have hk:e k=e' k:=h k (by simp[cW.uses,hg]);rw[<-hk];split at hD
 ·split at hD
  ·rename_i h1 h2;simp only[h1,au h2];exact Vg ho hD
  rename_i h1 h2;simp only[h1,aj h2];exact hD
 ·simp_all
 exact hD.elim
def rU{g:cW}{e:Env}{σ : ai}{v:AV}{σ':ai}(hc:g.op.cls = .pu\/g.op.cls = .rd)(hD:g.D P e σ v σ'): σ' = σ:=by
 rcases kp hD with⟨h,_⟩|⟨_,h,_⟩
 ·exact agN hc h
 exact h
def Vv{g:cW}{e:Env}{σ : ai}{v:AV}{σ':ai}(hc:g.op.cls = .pu\/g.op.cls = .rd)(hD:g.D P e σ v σ')(τ : ai): g.D P e (σ++ τ) v (σ++ τ):=by
 rcases kp hD with⟨h,f⟩|⟨rfl,_,f⟩
 ·exact f _ _ _ (agO hc h τ)
 exact f _
def Vw{g:cW}{e:Env}{σ : ai}{v:AV}{σ':ai}(hc:g.op.cls = .pu)(hD:g.D P e σ v σ')(s:ai): g.D P e s v s:=by
 rcases kp hD with⟨h,f⟩|⟨rfl,_,f⟩
 ·exact f _ _ _ (agP hc h s)
 exact f _
def ajg{g:cW}{e:Env}{σ : ai}{v:AV}{σ':ai}(hc:g.op.cls = .al)(hD:g.D P e σ v σ'): ∃ τ,σ' = σ++ τ:=by
 rcases kp hD with⟨h,_⟩|⟨_,h,_⟩
 ·exact akP hc h
 exact⟨[],by simp[h]⟩
def agZ {g : cW} {e : Env} {σ : ai} {v : AV} {σ' : ai} {l : Nat} {ob nJ : aX} {rx : Option AX} (hr : g.op.rS = some rx) (hl : σ[l]? = some ob) (Kg : ob.like nJ) (hap : ∀ x, rx = some x -> (x.ev e).obj ≠ some l) (hD : g.D P e σ v σ') :
    g.D P e (σ.set l nJ) v (σ.set l nJ):=by
 rcases kp hD with⟨h,f⟩|⟨rfl,_,f⟩
 ·exact f _ _ _ (ai8 hr hl Kg hap h)
 exact f _
def ajh{g:cW}{e:Env}{σ : ai}{v:AV}{σ':ai}(hc:g.op.cls = .st)(hD:g.D P e σ v σ'): σ' = σ\/ ∃ y l ob nJ,g.op.tM=some y/\σ[l]? = some ob/\ob.like nJ/\(y.ev e).obj=some l/\σ' = σ.set l nJ:=by
 rcases kp hD with⟨h,_⟩|⟨_,h,_⟩
 ·exact .inr (agQ hc h)
 exact .inl h
def j5(d:Option Nat)(l:List Nat): Bool:=match d with
 | some d=> !l.contains d
 | none=>true
def qJ(ag:Bool)(n t:Nat): List (Bool × Nat)->List AX->Bool
 |(ZJ,n')::r,.t t'::xs=>(ag==ZJ && n==n' && t==t') || qJ ag n t r xs
 | _::r,_::xs=>qJ ag n t r xs
 | _,_=>false
def Rg: bA->bA->Bool
 | .load ag n (.t t),.ex (.cw _ k ku) az=>n != 0 && qJ ag n t ku (az.drop k)
 | _,_=>false
def Rh: bA->bA->Bool
 | .ex (.cw _ c ku) az,.lp k _ cs=>qJ true 0 k ku (az.drop c) && cs.all AV.cst
 | _,_=>false
def Qx(j k:bA): Bool :=
 match j.cls,k.cls with
 | .no,_|_,.no=>false
 | .pu,_|_,.pu=>true
 | .rd,.rd | .rd,.al=>true
 | .rd,.st=>j.rS.isSome
 | .st, .st => match j.Qv, k.Qv with
   | some a,some b=>a != b
   | _,_=>false
 | .st,.rd=>j.tM.isSome && k.qu.isSome
 | .rd, .ap => match j.rS with
   | some (some _)=>true
   | _=>false
 | .rd,.cw=>Rg j k
 | .cw,.st=>Rh j k
 | _,_=>false
def bA.CW: bA->Bool
 | .ex (.pc _) _=>true
 | _=>false
def Xn(j k:bA): Bool:=k.CW && decide (j.cls≠ .no)
def Kw(j k:cW): Bool :=
 (Qx j.op k.op || Xn j.op k.op) && j5 j.dst k.uses && j5 k.dst j.uses && j5 j.dst k.dst.toList
def needs(j k:cW): Option (AX × AX):=match j.op.rS,k.op.tM with
 | some (some x),some y=>some (x,y)
 | _, _ => match j.op.tM, k.op.qu with
   | some y,some x=>some (x,y)
   | _,_=>none
def Xo{o:bA}{x:AX}(h:o.qu=some x): o.tM=none:=by
 cases o<;>simp[bA.qu]at h<;>rfl
def jH{e:Env}{d:Option Nat}{l:List Nat}{v:AV}(h:j5 d l=true): ∀ t ∈ l,eP e d v t=e t:=by
 intro t ht;cases d with
 | none=>rfl
 | some d =>
   simp only[j5,ey,List.contains_eq_mem,decide_eq_false_iff_not]at h;simp only[eP];rw[aj (by rintro rfl;exact h ht)]
def I3{e:Env}{j k:Option Nat}{v u:AV}(h:j5 j k.toList=true): eP (eP e j v) k u=eP (eP e k u) j v:=by
 funext t
 cases j with
 | none=>rfl
 | some j =>
   cases k with
   | none=>rfl
   | some k =>
     simp[j5]at h;simp only[eP];by_cases h1:t=k
     ·subst h1;simp[Ne.symm h]
     simp[h1]
def acn{j k:bA}(h:Qx j k=true): j.cls≠ .no/\k.cls≠ .no:=by
 unfold Qx at h;split at h<;>simp_all
def Kx{el:El}{x:AV}{off:Nat}{ag:Bool}{n:Nat}{K K':AV->Prop}(h1:partOf el x off ag n K)(h2:partOf el x off ag n K'): ∃ v,K v/\K' v:=by
 unfold partOf at h1 h2;by_cases h:off=0/\n=el.sz/\ag=el.ag
 ·rw[au h]at h1 h2;exact⟨_,h1,h2⟩
 rw[aj h]at h1 h2;obtain⟨_,h1⟩:=h1;obtain⟨_,h2⟩:=h2;cases x<;>first|exact h1.elim|exact⟨_,h1.1,h2.1⟩
def ZK{σ : ai}{ag:Bool}{n:Nat}{p:AV}{K K':AV->Prop}(h1:iP σ ag n p K)(h2:iP σ ag n p K'): ∃ v,K v/\K' v:=by
 unfold iP at h1 h2;cases p<;>(try exact h1.elim)
 case ref l off =>
  dsimp only at h1 h2;split at h1
  ·rename_i h;rw[h]at h2;exact⟨_,h1.2.2,h2.2.2⟩
  exact h1.elim
 case eY el x off=>exact Kx h1 h2
 case fy el l m i off =>
  dsimp only at h1 h2;split at h1
  ·rename_i h;rw[h]at h2;exact Kx h1.2.2.2 h2.2.2.2
  exact h1.elim
def E6{az:List AV}{σ σ2:ai}{e:Env}{ag:Bool}{n t:Nat}(hn:n≠0): ∀(ku:List (Bool × Nat)) (xs:List AX),qJ ag n t ku xs=true->p_ az σ σ2 ku (xs.map (AX.ev e))->e t = .ik\/ ∃ v,iP σ ag n (e t) (fun u=>u=v)/\iP σ2 ag n (e t) (fun u=>u=v)
 | [],xs,h,_=>by cases xs<;>simp[qJ]at h
 |(ZJ,n')::r,[],h,_=>by simp[qJ]at h
 | (ZJ, n') :: r, x :: xs, h, hk => by
   obtain⟨h1,h2⟩:=hk;cases x with
   | c a=>exact E6 hn r xs (by simpa[qJ]using h) h2
   | t t' =>
     simp only[qJ,cH,aD,beq_iff_eq]at h;rcases h with⟨⟨rfl,rfl⟩,rfl⟩|h
     ·rw[aj hn]at h1;exact h1
     exact E6 hn r xs h h2
def E7{az:List AV}{σ σ2:ai}{e:Env}{t:Nat}: ∀(ku:List (Bool × Nat)) (xs:List AX),qJ true 0 t ku xs=true->p_ az σ σ2 ku (xs.map (AX.ev e))->e t = .ik\/WU az σ σ2 (e t)
 | [],xs,h,_=>by cases xs<;>simp[qJ]at h
 |(ZJ,n')::r,[],h,_=>by simp[qJ]at h
 | (ZJ, n') :: r, x :: xs, h, hk => by
   obtain⟨h1,h2⟩:=hk;cases x with
   | c a=>exact E7 r xs (by simpa[qJ]using h) h2
   | t t' =>
     simp only[qJ,cH,aD,beq_iff_eq]at h;rcases h with⟨⟨rfl,rfl⟩,rfl⟩|h
     ·rw[au rfl]at h1;exact h1
     exact E7 r xs h h2
def ak4{j k:bA}{e:Env}{σ σ2:ai}{vj vk:AV}(h:Rg j k=true)(dj:j.D P e σ vj σ)(dk:k.D P e σ vk σ2): j.D P e σ2 vj σ2:=by
 unfold Rg at h;split at h
 ·rename_i ag n t f k ku az;simp only[aD,bne_iff_ne,ne_eq]at h;obtain⟨hn,h⟩:=h;obtain⟨hj,_⟩:=(show(∀ τ,(bA.load ag n (.t t)).run P e (σ++ τ) (Is vj (σ++ τ)) No)/\σ = σ from dj)
  replace dk:(gu.cw f k ku).run P (az.map (AX.ev e)) σ (Is vk σ2) No:=dk
  obtain⟨s2,hk,rfl⟩:∃ s2,p_ ((az.map (AX.ev e)).take k) σ s2 ku ((az.map (AX.ev e)).drop k)/\s2 = σ2:=by
   cases az with
   | nil=>exact dk.elim
   | cons x xs=>obtain⟨r,s2,_,hk,_,e2⟩:=dk;exact⟨s2,hk,e2⟩
  rw[<-List.map_drop]at hk
  have h3:iP σ ag n (e t) (fun u=>u=vj):=by
   have:iP (σ++[]) ag n (e t) (fun u=>Is vj (σ++[]) u (σ++[])):=hj [];rw[bW]at this;exact mW (fun v h=>h.1) this
  obtain⟨v,h1,h2⟩:=(E6 hn _ _ h hk).resolve_left (fun e0=>by rw[e0]at h3;exact h3);obtain⟨u,rfl,rfl⟩:=ZK h1 h3;obtain⟨u',h4,rfl⟩:=vA h2
  exact(show(∀ τ,(bA.load ag n (.t t)).run P e (s2++ τ) (Is u' (s2++ τ)) No)/\s2=s2 from
   ⟨fun τ=>(show iP (s2++ τ) ag n (e t) (fun u=>Is u' (s2++ τ) u (s2++ τ)) from mW (fun v h=>⟨h,rfl⟩) (h4 τ)),rfl⟩)
 ·cases h
def Ky{σ : ai}{ag:Bool}{n m:Nat}{p:AV}{K:AV->Prop}(hm : σ[m]? = some .resv)(h:iP σ ag n p K): p.obj≠some m:=by
 intro e;unfold iP at h;split at h
 ·rename_i l off;obtain rfl:l=m:=Option.some.inj e;rw[hm]at h;exact h.elim
 ·cases e
 ·rename_i el l k i off;obtain rfl:l=m:=Option.some.inj e;rw[hm]at h;exact h.elim
 exact h.elim
def ZL{k m:Nat}{σ : ai}{ob:aX}(h:Ka k σ = true)(ho:ob.nL k=true): Ka k (σ.set m ob)=true:=by
 unfold Ka at *;rw[aZ]at *;intro o hx;rcases List.mem_or_eq_of_mem_set hx with h1|rfl
 ·exact h o h1
 exact ho
def Kz{az:List AV}{σ σ2:ai}{m:Nat}{T:Option TypeId}{cs:List AV}(h1 : σ[m]? = some .resv)(h2 : σ2[m]? = some .resv)(hc:cs.all AV.cst=true): ∀(ku:List (Bool × Nat)) (ps:List AV),p_ az σ σ2 ku ps->p_ az (σ.set m (.bV T cs)) (σ2.set m (.bV T cs)) ku ps
 | [],_,_=>trivial
 | (ag, n) :: r, p :: ps, ⟨h3, h4⟩ => by
   refine⟨?_,Kz h1 h2 hc r ps h4⟩;rcases h3 with h3|h3
   ·exact .inl h3
   refine .inr ?_;by_cases hn:n=0
   ·rw[au hn]at h3 ⊢;unfold WU at h3 ⊢;split at h3
    ·rename_i k;intro hk;by_cases e:m=k
     ·subst e;rw[bw (aE.1 h2).1]at hk;cases hk
     rw[aF e]at hk ⊢;obtain⟨a,b,c⟩:=h3 hk;exact⟨a,b,ZL c (acm hc)⟩
    exact h3.elim
   rw[aj hn]at h3 ⊢;obtain⟨v,a,b⟩:=h3;exact⟨v,zM (Ky h1 a) a,zM (Ky h2 b) b⟩
 | _::_,[],h=>h.elim
def ag0{j k:bA}{e:Env}{σ σ2 σ3:ai}{vj vk:AV}(h:Rh j k=true)(dj:j.D P e σ vj σ2)(dk:k.D P e σ2 vk σ3): ∃ s,k.D P e σ vk s/\j.D P e s vj σ3:=by
 unfold Rh at h;split at h
 ·rename_i f c ku az kk T cs;simp only[aD]at h;obtain⟨h,hc⟩:=h
  replace dj:(gu.cw f c ku).run P (az.map (AX.ev e)) σ (Is vj σ2) No:=dj
  have dk:bA.run P (.lp kk T cs) e σ2 (Is vk σ3) No:=dk;cases az with
  | nil=>exact dj.elim
  | cons x xs =>
    obtain⟨r,s2,aji,hk,rfl,rfl⟩:=dj;simp only[bA.run]at dk;split at dk
    ·rename_i m hm;split at dk
     ·rename_i HS;obtain⟨rfl,rfl⟩:=dk;have hr:=E7 (e:=e) ku ((x::xs).drop c) h (by rw[List.map_drop];exact hk);rw[hm]at hr;obtain⟨r1,r2,r3⟩:=hr.resolve_left (fun e0=>by cases e0) HS;refine⟨σ.set m (.bV T cs),?_,?_⟩
      ·show bA.run P (.lp kk T cs) e σ (Is _ _) No;simp only[bA.run,hm,r1];exact⟨rfl,rfl⟩
      show(gu.cw f c ku).run P ((x::xs).map (AX.ev e)) (σ.set m (.bV T cs)) (Is _ _) No;exact⟨r,_,cK.resv r1 HS r2 r3 hc aji,Kz r1 HS hc _ _ hk,rfl,rfl⟩
     exact dk.elim
    exact dk.elim
 ·cases h
def cW.pcR(P:Program)(g:cW)(n:FuncId)(az:List AX)(e:Env): Option Out->Prop
 | none => match g.guard with
   | none=>False
   | some (k, b) => match e k with
     | .bool t=>t = !b
     | .bR []=>True
     | _=>False
 | some o => (∀ s, cK P n (az.map (AX.ev e)) s fun o' s' => o' = o /\ s' = s) /\ match g.guard with
   | none=>True
   | some (k,b)=>e k = .bool b
def pcE(P:Program)(Q:AQ)(d:Option Nat)(K:Env->ai->Prop)(e:Env)(σ : ai): Option Out->Prop
 | none=>K (eP e d (.bR [])) σ
 | some (.ret r)=>K (eP e d r) σ
 | some (.panic v)=> ∀ s,Q (.panic v) e s
def ZM{g:cW}{n:FuncId}{az:List AX}{K:Env->ai->Prop}{e:Env}{σ : ai}(hg:g.op = .ex (.pc n) az): fm P Q g K e σ↔ ∃ o,g.pcR P n az e o/\pcE P Q g.dst K e σ o:=by
 have key:∀ {K1:AV->ai->Prop} {K2:AV->ai->Prop},g.op.run P e σ K1 K2↔ ∃ o,(∀ s,cK P n (az.map (AX.ev e)) s fun o' s'=>o'=o/\s'=s)/\pcK (fun r=>K1 r σ) (fun v=> ∀ s,K2 v s) o:=by
  intro K1 K2;rw[hg];exact Iff.rfl
 unfold fm cW.pcR;cases hgd:g.guard with
 | none =>
   simp only;rw[key];constructor
   ·rintro⟨o,h1,h2⟩;exact⟨some o,⟨h1,trivial⟩,by cases o<;>exact h2⟩
   rintro⟨o,h1,h2⟩;cases o with
   | none=>exact h1.elim
   | some o=>exact⟨o,h1.1,by cases o<;>exact h2⟩
 | some kb =>
   obtain⟨k,b⟩:=kb;simp only;split
   ·rename_i t ht;constructor
    ·rintro⟨h1,h2⟩;by_cases htb:t=b
     ·have h1:=h1 htb;subst htb;rw[oG ht,key]at h1;obtain⟨o,h3,h4⟩:=h1;exact⟨some o,⟨h3,by rw[ht]⟩,by cases o<;>exact h4⟩
     have hn:t = !b:=by cases t<;>cases b<;>simp_all
     have h2:=h2 hn;rw[oG (by rw[ht,hn])]at h2;exact⟨none,by rw[ht];exact hn,h2⟩
    rintro⟨o,h1,h2⟩;cases o with
    | none =>
      rw[ht]at h1;have h1:t = !b:=h1;refine⟨fun h=>absurd h (by rw[h1];cases b<;>decide),fun _=>?_⟩;rw[oG (by rw[ht,h1])];exact h2
    | some o =>
      obtain⟨h3,h4⟩:=h1;have h4:e k = .bool b:=h4;have htb:t=b:=AV.bool.inj (ht.symm.trans h4);refine⟨fun _=>?_,fun h=>absurd h (by rw[htb];cases b<;>decide)⟩;rw[oG h4,key];exact⟨o,h3,by cases o<;>exact h2⟩
   ·rename_i ht;constructor
    ·intro h;exact⟨none,by rw[ht];trivial,h⟩
    rintro⟨o,h1,h2⟩;cases o with
    | none=>exact h2
    | some o=>exact absurd (ht.symm.trans h1.2) aR
   rename_i h3 h4;constructor
   ·exact fun h=>h.elim
   rintro⟨o,h1,h2⟩;cases o with
   | none =>
     exact False.elim h1
   | some o=>exact(h3 _ h1.2).elim
def afk {j k : cW} {K : Env -> ai -> Prop} {e : Env} {σ : ai} (nN : Xn j.op k.op = true) (s1 : j5 j.dst k.uses = true) (s2 : j5 k.dst j.uses = true) (s3 : j5 j.dst k.dst.toList = true)
    (hQ:∀ v e e' σ,Q (.panic v) e σ->Q (.panic v) e' σ) (hh:fm P Q j (fm P Q k K) e σ):fm P Q k (fm P Q j K) e σ:=by
 simp only[Xn,aD,aM]at nN;obtain⟨hk,hj⟩:=nN
 obtain⟨n,az,hg⟩:∃ n az,k.op = .ex (.pc n) az:=by
  revert hk;cases k.op<;>simp[bA.CW];rename_i o xs;cases o<;>simp[bA.CW]
 obtain⟨vj,Vx,dj,hh⟩:=(iO hj).1 hh;obtain⟨o,h1,h2⟩:=(ZM hg).1 hh;have hu:∀ t ∈ k.uses,eP e j.dst vj t=e t:=jH s1
 have hz:az.map (AX.ev (eP e j.dst vj))=az.map (AX.ev e):=by
  exact AX.pA fun t ht=>hu t (by simp only[cW.uses,hg];exact eK _ ht)
 have hR:k.pcR P n az e o:=by
  have KA:∀ m b,k.guard=some (m,b)->eP e j.dst vj m=e m:=fun m b h=>hu m (by simp[cW.uses,h]);unfold cW.pcR at h1 ⊢;cases o with
  | none =>
    cases hgd:k.guard with
    | none=>rw[hgd]at h1;exact h1.elim
    | some kb=>obtain⟨m,b⟩:=kb;rw[hgd]at h1;simp only[KA m b hgd]at h1;exact h1
  | some o =>
    rw[hz]at h1;refine⟨h1.1,?_⟩;cases hgd:k.guard with
    | none=>trivial
    | some kb=>obtain⟨m,b⟩:=kb;have:=h1.2;rw[hgd]at this;simp only[KA m b hgd]at this;exact this
 have tr:∀ v,j.D P (eP e k.dst v) σ vj Vx:=fun v=>I2 (fun t ht=>(jH s2 t ht).symm) dj;refine(ZM hg).2 ⟨o,hR,?_⟩;cases o with
 | none=>exact(iO hj).2 ⟨vj,Vx,tr _,by rw[<-I3 s3];exact h2⟩
 | some o =>
   cases o with
   | ret r=>exact(iO hj).2 ⟨vj,Vx,tr _,by rw[<-I3 s3];exact h2⟩
   | panic v=>exact fun s=>hQ _ _ _ _ (h2 s)
def swap {j k : cW} {K : Env -> ai -> Prop} {e : Env} {σ : ai} (h : Kw j k = true) (hQ : k.op.CW = true -> ∀ v e e' σ, Q (.panic v) e σ -> Q (.panic v) e' σ) (hap : ∀ x y, needs j k = some (x, y) -> (j5 j.dst (x.uses ++ y.uses) = true /\ j5 k.dst (x.uses ++ y.uses) = true) /\ ∀ e σ, K e σ -> sK (x.ev e) (y.ev e))
    (hh:fm P Q j (fm P Q k K) e σ):fm P Q k (fm P Q j K) e σ:=by
 simp only[Kw,aD]at h;obtain⟨⟨⟨nN,s1⟩,s2⟩,s3⟩:=h;rcases Bool.or_eq_true _ _ ▸ nN with nN|nN
 case inr=>exact afk nN s1 s2 s3 (hQ (by simp only[Xn,aD]at nN;exact nN.1)) hh
 obtain⟨hj,hk⟩:=acn nN;obtain⟨vj,Vx,dj,hh⟩:=(iO hj).1 hh;obtain⟨vk,σk,dk,hK⟩:=(iO hk).1 hh;have yO:k.D P e Vx vk σk:=I2 (jH s1) dk;have tr:∀ {s s'},j.D P e s vj s'->j.D P (eP e k.dst vk) s vj s':=fun h=>I2 (fun t ht=>(jH s2 t ht).symm) h;have sL:=hK;rw[I3 s3]at hK
 have kpu:k.op.cls = .pu->fm P Q k (fm P Q j K) e σ:=fun hc=>by
  have:=rU (.inl hc) yO;subst this;exact(iO hk).2 ⟨vk,σ,Vw hc yO σ,(iO hj).2 ⟨vj,_,tr dj,hK⟩⟩
 have E9:Vx = σ->j.D P e σk vj σk->fm P Q k (fm P Q j K) e σ:=fun h1 h2=>by
  subst h1;exact(iO hk).2 ⟨vk,σk,yO,(iO hj).2 ⟨vj,_,tr h2,hK⟩⟩
 unfold Qx at nN;split at nN<;>(try (cases nN;done))
 ·rename_i hc _;exact E9 (rU (.inl hc) dj) (Vw hc dj _)
 ·rename_i hc _ _;exact kpu hc
 ·rename_i hc hc2;have h1:=rU (.inr hc) dj;have h2:=rU (.inr hc2) yO;subst h1;subst h2;exact E9 rfl dj
 ·rename_i hc hc2;have h1:=rU (.inr hc) dj;subst h1;obtain⟨τ,rfl⟩:=ajg hc2 yO;exact E9 rfl (Vv (.inr hc) dj τ)
 rename_i hc hc2;have h1:=rU (.inr hc) dj;subst h1;rcases ajh hc2 yO with rfl|⟨y,l,ob,nJ,hy,hl,Kg,Ri,rfl⟩
 ·exact E9 rfl dj
 obtain⟨rx,yP⟩:=gj.1 nN;refine E9 rfl (agZ yP hl Kg (fun x hx=>?_) dj);subst hx;have hn:needs j k=some (x,y):=by simp[needs,yP,hy]
 obtain⟨⟨a1,a2⟩,a3⟩:=hap x y hn;have ha:=a3 _ _ sL
 have ex:∀ t ∈ x.uses++y.uses,eP (eP e j.dst vj) k.dst vk t=e t:=fun t ht=>by
  rw[jH a2 t ht,jH a1 t ht]
 rw[AX.fM (x:=x) (fun t ht=>ex t (eK _ ht)),AX.fM (x:=y) (fun t ht=>ex t (fG _ ht))]at ha;exact fun h1=>ha l h1 Ri
 
 split at nN
 ·rename_i a b ra rb;rcases kp dj with⟨ZN,dj2⟩|⟨rfl,rfl,hj2⟩
  ·rcases kp yO with⟨Rj,dk2⟩|⟨rfl,rfl,k8⟩
   ·obtain⟨n,o1,n1,n2,n3,rfl,n4⟩:=aeE ra ZN;obtain⟨m,o2,m1,m2,m3,rfl,m4⟩:=aeE rb Rj
    have hnm:n≠m:=by
     rintro rfl;rw[bw (aE.1 n2).1]at m2;exact n3 (Option.some.inj m2)
    rw[aF hnm]at m2;refine(iO hk).2 ⟨_,_,dk2 _ _ _ (m4 σ m2),(iO hj).2 ⟨_,_,tr (dj2 _ _ _ (n4 _ (by rw[aF (Ne.symm hnm)];exact n2))),?_⟩⟩;rw[List.set_comm _ _ (Ne.symm hnm)];exact hK
   exact(iO hk).2 ⟨_,_,k8 σ,(iO hj).2 ⟨_,_,tr dj,hK⟩⟩
  exact(iO hk).2 ⟨_,_,yO,(iO hj).2 ⟨_,_,tr (hj2 _),hK⟩⟩
 ·cases nN
 
 rename_i hc _;simp only[aD,gj]at nN;obtain⟨⟨y,ry⟩,x,rx⟩:=nN;have h2:=rU (.inr (Kh rx)) yO;subst h2;rcases kp dj with⟨ZN,_⟩|⟨rfl,rfl,_⟩
 ·obtain⟨y',l,ob,nJ,hy,n2,_,ajj,rfl⟩:=agQ hc ZN;obtain rfl:y=y':=by rw[ry]at hy;exact Option.some.inj hy
  have hn:needs j k=some (x,y):=by
   unfold needs;rw[Xo rx,ry,rx];cases j.op.rS with
   | none=>rfl
   | some o=>cases o<;>rfl
  obtain⟨⟨a1,a2⟩,a3⟩:=hap x y hn;have ha:=a3 _ _ sL
  have ex:∀ t ∈ x.uses++y.uses,eP (eP e j.dst vj) k.dst vk t=e t:=fun t ht=>by
   rw[jH a2 t ht,jH a1 t ht]
  rw[AX.fM (x:=x) (fun t ht=>ex t (eK _ ht)),AX.fM (x:=y) (fun t ht=>ex t (fG _ ht))]at ha;have hlt:=(aE.1 n2).1;have Ri:(x.ev e).obj≠some l:=fun h=>ha l h ajj
  have back:(σ.set l nJ).set l ob = σ:=by
   rw[d_];apply jA;intro i;by_cases hi:i=l
   ·subst hi;rw[bw hlt];exact n2.symm
   rw[aF (Ne.symm hi)]
  have dk':k.D P e σ vk σ:=by
   rcases kp yO with⟨q1,q2⟩|⟨rfl,_,q⟩
   ·have:=Vi (ob:=ob) rx (by simpa using hlt) Ri q1;rw[back]at this;exact q2 _ _ _ this
   exact q σ
  exact(iO hk).2 ⟨vk,σ,dk',(iO hj).2 ⟨vj,_,tr dj,hK⟩⟩
 exact(iO hk).2 ⟨vk,_,yO,(iO hj).2 ⟨_,_,tr dj,hK⟩⟩
 
 rename_i hc hc2;have h1:=rU (.inr hc) dj;subst h1;split at nN
 ·rename_i x yP
  have hro:j.op.qu=some x:=by
   revert yP;cases j.op<;>simp[bA.rS,bA.qu]
  rcases kp yO with⟨Rj,_⟩|⟨rfl,rfl,_⟩
  ·obtain⟨y,hy,⟨τ,rfl⟩|⟨l,ob,hlt,Ri,rfl⟩⟩:=akQ hc2 Rj
   ·exact E9 rfl (Vv (.inr hc) dj τ)
   have hn:needs j k=some (x,y):=by simp[needs,yP,hy]
   obtain⟨⟨a1,a2⟩,a3⟩:=hap x y hn;have ha:=a3 _ _ sL
   have ex:∀ t ∈ x.uses++y.uses,eP (eP e j.dst vj) k.dst vk t=e t:=fun t ht=>by
    rw[jH a2 t ht,jH a1 t ht]
   rw[AX.fM (x:=x) (fun t ht=>ex t (eK _ ht)),AX.fM (x:=y) (fun t ht=>ex t (fG _ ht))]at ha;refine E9 rfl ?_;rcases kp dj with⟨q1,q2⟩|⟨rfl,_,q⟩
   ·exact q2 _ _ _ (Vi hro hlt (fun h=>ha l h Ri) q1)
   exact q _
  exact E9 rfl dj
 ·cases nN
 
 rename_i hc _;have h1:=rU (.inr hc) dj;subst h1;rcases kp yO with⟨Rj,_⟩|⟨rfl,rfl,_⟩
 ·rcases kp dj with⟨q1,q2⟩|⟨rfl,_,q⟩
  ·exact E9 rfl (q2 _ _ _ (ak4 nN q1 Rj))
  exact E9 rfl (q _)
 exact E9 rfl dj
 
 rcases kp dj with⟨ZN,dj2⟩|⟨rfl,rfl,hj2⟩
 ·rcases kp yO with⟨Rj,dk2⟩|⟨rfl,rfl,k8⟩
  ·obtain⟨s,q1,q2⟩:=ag0 nN ZN Rj;exact(iO hk).2 ⟨_,_,dk2 _ _ _ q1,(iO hj).2 ⟨_,_,tr (dj2 _ _ _ q2),hK⟩⟩
  exact(iO hk).2 ⟨_,_,k8 σ,(iO hj).2 ⟨_,_,tr dj,hK⟩⟩
 exact(iO hk).2 ⟨_,_,yO,(iO hj).2 ⟨_,_,tr (hj2 _),hK⟩⟩
def CX(D:List Nat): AX->AX
 | .t t=>if D.contains t then .c .ik else .t t
 | .c a=> .c a
def pM(D:List Nat): Nat->List AX->List AX
 | _,[]=>[]
 | 0,x::xs=>CX D x::pM D 0 xs
 | n+1,x::xs=>x::pM D n xs
def bA.cut(D:List Nat): bA->bA
 | .ex (.cw n c ku) az=> .ex (.cw n c ku) (pM D c az)
 | o=>o
def cW.cut(D:List Nat)(g:cW): cW:= { g with op:=g.op.cut D }
def aco{D D':List Nat}(h:∀ t ∈ D',t ∈ D)(x:AX): CX D (CX D' x)=CX D x:=by
 cases x with
 | c a=>rfl
 | t t =>
   simp only[CX];by_cases h1:t ∈ D'
   ·simp[h1,h t h1,CX]
   simp[h1,CX]
def I4{D D':List Nat}(h:∀ t ∈ D',t ∈ D): ∀(az:List AX) (c:Nat),pM D c (pM D' c az)=pM D c az
 | [],c=>by cases c<;>rfl
 | x::xs,0=>by simp only[pM];rw[aco h,I4 h xs 0]
 | x::xs,n+1=>by simp only[pM];rw[I4 h xs n]
def E_{D:List Nat}{e:Env}: ∀(az:List AX) (c:Nat),((pM D c az).map (AX.ev e)).take c=(az.map (AX.ev e)).take c
 | [],c=>by cases c<;>rfl
 | x::xs,0=>by simp
 | x::xs,n+1=>by simp only[pM,bB,List.take_succ_cons];rw[E_ xs n]
def KB{A:List AV}{σ σ2:ai}{D:List Nat}{e:Env}: ∀(ku:List (Bool × Nat)) (az:List AX),p_ A σ σ2 ku (az.map (AX.ev e))->p_ A σ σ2 ku ((pM D 0 az).map (AX.ev e))
 | [],az,_=>by cases az<;>trivial
 |(ag,n)::r,[],h=>h
 | (ag, n) :: r, x :: xs, ⟨h1, h2⟩ => by
   refine⟨?_,KB r xs h2⟩;cases x with
   | c a=>exact h1
   | t t =>
     by_cases ht:D.contains t
     ·simp only[CX,au ht];exact .inl rfl
     simp only[CX,aj ht];exact h1
def N_{A:List AV}{σ σ2:ai}{D:List Nat}{e:Env}{ku:List (Bool × Nat)}: ∀(az:List AX) (c:Nat),p_ A σ σ2 ku ((az.map (AX.ev e)).drop c)->p_ A σ σ2 ku (((pM D c az).map (AX.ev e)).drop c)
 | [],c,h=>by cases c<;>exact h
 | x::xs,0,h=>KB ku (x::xs) h
 | x::xs,n+1,h=>N_ xs n h
def Vy{D:List Nat}{o:bA}{e:Env}{σ : ai}{K Kp:AV->ai->Prop}(h:o.run P e σ K Kp): (o.cut D).run P e σ K Kp:=by
 unfold bA.cut;split
 ·rename_i n c ku az;cases az with
  | nil=>cases c<;>exact h
  | cons x xs =>
    obtain⟨r,s2,h1,h2,h3⟩:=(show(gu.cw n c ku).run P ((x::xs).map (AX.ev e)) σ K Kp from h);have h1:cK P n (((x::xs).map (AX.ev e)).take c) σ _:=h1;have h2:p_ (((x::xs).map (AX.ev e)).take c) σ s2 ku (((x::xs).map (AX.ev e)).drop c):=h2;rw[<-E_ (D:=D)]at h1 h2;have h2:=N_ (D:=D) _ _ h2;obtain⟨y,ys,hy⟩:∃ y ys,pM D c (x::xs)=y::ys:=by cases c<;>exact⟨_,_,rfl⟩
    show(gu.cw n c ku).run P ((pM D c (x::xs)).map (AX.ev e)) σ K Kp;rw[hy]at h1 h2 ⊢;exact⟨r,s2,h1,h2,h3⟩
 exact h
def Vz{D:List Nat}{g:cW}{K:Env->ai->Prop}{e:Env}{σ : ai}(h:fm P Q g K e σ): fm P Q (g.cut D) K e σ:=by
 unfold fm at *
 show(match g.guard with
  | none=>(g.op.cut D).run P e σ (fun v σ'=>K (eP e g.dst v) σ') (fun v σ'=>Q (.panic v) e σ')
  | some (k, b) => match e k with
    | .bool t => (t = b -> (g.op.cut D).run P (eP e (some k) (.bool b)) σ (fun v σ' => K (eP (eP e (some k) (.bool b)) g.dst v) σ') (fun v σ' => Q (.panic v) (eP e (some k) (.bool b)) σ')) /\
       (t = !b->K (eP (eP e (some k) (.bool (!b))) g.dst (.bR [])) σ)
    | .bR []=>K (eP e g.dst (.bR [])) σ
    | _=>False)
 split
 ·rename_i hg;simp only[hg]at h;exact Vy h
 rename_i k b hg;simp only[hg]at h;split
 ·rename_i t ht;simp only[ht]at h;exact⟨fun hb=>Vy (h.1 hb),h.2⟩
 ·rename_i ht;simp only[ht]at h;exact h
 rename_i h1 h2;split at h
 ·rename_i t ht;exact(h1 t ht).elim
 ·rename_i ht;exact(h2 ht).elim
 exact h
def acp{D D':List Nat}(h:∀ t ∈ D',t ∈ D)(o:bA): (o.cut D').cut D=o.cut D:=by
 cases o<;>first|rfl|skip
 rename_i x xs;cases x<;>first|rfl|skip
 rename_i n c ku;show bA.ex (.cw n c ku) (pM D c (pM D' c xs))=bA.ex (.cw n c ku) (pM D c xs);rw[I4 h]
def afl{D D':List Nat}(h:∀ t ∈ D',t ∈ D)(g:cW): (g.cut D').cut D=g.cut D:=by
 obtain⟨o,d,gd⟩:=g;simp only[cW.cut,acp h]
def one_le{D D':List Nat}{g:cW}{K:Env->ai->Prop}{e:Env}{σ : ai}(hD:∀ t ∈ D',t ∈ D)(h:fm P Q (g.cut D') K e σ): fm P Q (g.cut D) K e σ:=by
 rw[<-afl hD];exact Vz h
def ZO(j k:cW)(D:List Nat): needs j (k.cut D)=needs j k:=by
 obtain⟨o,d,gd⟩:=k;unfold needs;cases o<;>first|rfl|skip
 rename_i x xs;cases x<;>rfl
def ag1(k:cW)(D:List Nat): (k.cut D).op.CW=k.op.CW:=by
 obtain⟨o,d,gd⟩:=k;cases o<;>first|rfl|skip
 rename_i x xs;cases x<;>rfl
def Fa(l:List (Nat × El)): bA->bA
 | .ex (.cw n c []) (x::xs)=>if(x::xs).length=c then .ex (.cw n c (l.map fun p=>(p.2.ag,p.2.sz))) ((x::xs)++l.map fun p=> .t p.1)else .ex (.cw n c []) (x::xs)
 | o=>o
def tB(h:Hints)(g:cW): cW:= { g with op:=Fa (W0 h g.dst) g.op }
def Fb: bA->Bool
 | .ex (.cw _ _ (_::_)) _=>false
 | _=>true
def Rk{n c:Nat}{ku:List (Bool × Nat)}{x:AX}{xs zs:List AX}{D:List Nat}{e:Env}{σ : ai}{K Kp:AV->ai->Prop}(hz:∀ e':Env,(zs.map (AX.ev e')).take c=((x::xs).map (AX.ev e')).take c)(hne:zs≠[])(h:((bA.ex (.cw n c ku) zs).cut D).run P e σ K Kp): (bA.ex (.cw n c []) (x::xs)).run P e σ K Kp:=by
 have h:(gu.cw n c ku).run P ((pM D c zs).map (AX.ev e)) σ K Kp:=h
 obtain⟨y,ys,hy⟩:∃ y ys,pM D c zs=y::ys:=by
  cases zs with
  | nil=>exact absurd rfl hne
  | cons z zs=>cases c<;>exact⟨_,_,rfl⟩
 have ht:=E_ (D:=D) (e:=e) zs c;rw[hy,hz]at ht;rw[hy]at h;obtain⟨r,s2,h1,_,h3⟩:=h;have h1:cK P n (((y::ys).map (AX.ev e)).take c) σ _:=h1;rw[ht]at h1;exact⟨r,s2,h1,trivial,h3⟩
def Oa{l:List (Nat × El)}{o:bA}{D:List Nat}{e:Env}{σ : ai}{K Kp:AV->ai->Prop}(hp:Fb o=true)(h:((Fa l o).cut D).run P e σ K Kp): o.run P e σ K Kp:=by
 unfold Fa at h;split at h
 ·split at h
  ·rename_i n c x xs hc;refine Rk (fun e'=>?_) aR h;rw[fH,List.take_append_of_le_length (by simp only[dF];omega)]
  exact Rk (fun _=>rfl) aR h
 rename_i hno;unfold bA.cut at h;split at h
 ·rename_i n c ku az;cases ku with
  | cons=>cases hp
  | nil =>
    cases az with
    | nil=>cases c<;>exact h
    | cons x xs=>exact absurd rfl (hno _ _ _ _)
 exact h
def ZP{h:Hints}{D:List Nat}{g:cW}{K:Env->ai->Prop}{e:Env}{σ : ai}(hp:Fb g.op=true)(hh:fm P Q ((tB h g).cut D) K e σ): fm P Q g K e σ:=by
 have hh:(match g.guard with
  | none=>((Fa (W0 h g.dst) g.op).cut D).run P e σ (fun v σ'=>K (eP e g.dst v) σ') (fun v σ'=>Q (.panic v) e σ')
  | some (k, b) => match e k with
    | .bool t => (t = b -> ((Fa (W0 h g.dst) g.op).cut D).run P (eP e (some k) (.bool b)) σ (fun v σ' => K (eP (eP e (some k) (.bool b)) g.dst v) σ') (fun v σ' => Q (.panic v) (eP e (some k) (.bool b)) σ')) /\
       (t = !b->K (eP (eP e (some k) (.bool (!b))) g.dst (.bR [])) σ)
    | .bR []=>K (eP e g.dst (.bR [])) σ
    | _=>False):=hh
 unfold fm;split
 ·rename_i hg;simp only[hg]at hh;exact Oa hp hh
 rename_i k b hg;simp only[hg]at hh;split
 ·rename_i t ht;simp only[ht]at hh;exact⟨fun hb=>Oa hp (hh.1 hb),hh.2⟩
 ·rename_i ht;simp only[ht]at hh;exact hh
 rename_i h1 h2;split at hh
 ·rename_i t ht;exact(h1 t ht).elim
 ·rename_i ht;exact(h2 ht).elim
 exact hh
variable (P Q) in
def I5(ops:Nat->cW)(jI:Nat->List Nat): Nat->List Nat->Env->ai->Prop
 | 0,l,e,σ=>l=[]/\Q .normal e σ
 | n+1,l,e,σ=>((∀ i ∈ l,∃ j ∈ jI i,j ∈ l)->Q .normal e σ)/\ ∀ i ∈ l,(∀ j ∈ jI i,j ∉ l)->fm P Q (ops i) (I5 ops jI n (l.erase i)) e σ
def gu.goes: gu->Bool
 | .inv _ | .pc _ | .AO _=>false
 | _=>true
def bA.goes: bA->Bool
 | .app ..=>true
 | .ex o _=>o.goes
 | o=>o.cls != .no
def Rl{o:bA}{e:Env}{σ : ai}{K Kp:AV->ai->Prop}(h:o.goes=true)(hh:o.run P e σ K Kp): ∃ v σ',K v σ':=by
 by_cases hn:o.cls≠ .no
 ·obtain⟨v,σ',_,h⟩:=(GZ hn).1 hh;exact⟨v,σ',h⟩
 by_cases hx:∃ o' xs,o = .ex o' xs
 ·obtain⟨o',xs,rfl⟩:=hx;obtain⟨v,σ',_,h1⟩:=gu.det (by replace h:o'.goes=true:=h;cases o'<;>first|(intro e;cases e;done)|(cases h;done)) (show o'.run P (xs.map (AX.ev e)) σ K Kp from hh);exact⟨v,σ',h1⟩
 cases o<;>(try (exact absurd ⟨_,_,rfl⟩ hx))<;>simp[bA.goes]at h<;>(try (exact absurd h hn));rename_i T el x1 y1;simp only[bA.run,oT]at hh;generalize AX.ev e _=y at hh
 have key:∀ (ys:List AV) (x:AV),(match x with
  | .aU=>if ys.length=0 then K .aU σ else gw ys.length el/\K (.own el σ.length ys.length 0 ys.length) (σ++[.dh T el ys])
  | .aS true bE xs=>bE=el/\if ys.length=0 then K (.aS true el xs) σ else gw (xs.length+ys.length) el/\K (.own el σ.length (xs.length+ys.length) 0 (xs.length+ys.length)) (σ++[.dh T el (xs++ys)])
  | .own bE l m lo n => bE = el /\ match σ[l]? with
    | some (.dh T' bL xs)=>(T'=none\/T'=T)/\bL=el/\m=xs.length/\lo=0/\n=xs.length/\gw (xs.length+ys.length) el/\K (.own el l (xs.length+ys.length) 0 (xs.length+ys.length)) (σ.set l (.dh T' el (xs++ys)))
    | _=>False
  | _=>False)-> ∃ v σ',K v σ':=fun ys x hx=>by
  split at hx
  ·split at hx
   ·exact⟨_,_,hx⟩
   exact⟨_,_,hx.2⟩
  ·replace hx:=hx.2
   split at hx
   ·exact⟨_,_,hx⟩
   exact⟨_,_,hx.2⟩
  ·replace hx:=hx.2
   split at hx
   ·exact⟨_,_,hx.2.2.2.2.2.2⟩
   exact hx.elim
  exact hx.elim
 unfold gC at hh;split at hh
 ·exact key _ _ hh.2
 ·exact key _ _ hh.2.2
 ·replace hh:=hh.2
  split at hh
  ·exact key _ _ hh.2.2.2
  exact hh.elim
 ·exact key _ _ hh.2.2
 ·obtain⟨u,_,h2⟩:=vA hh.2.2;exact key _ _ h2.2
 exact hh.elim
def acq{g:cW}{K:Env->ai->Prop}{e:Env}{σ : ai}(hc:g.op.goes=true)(h:fm P Q g K e σ): ∃ v σ',K (eP e g.dst v) σ':=by
 unfold fm at h;split at h
 ·exact Rl hc h
 rename_i k b hg;split at h
 ·rename_i t ht;by_cases htb:t=b
  ·obtain⟨v,s,h⟩:=Rl hc (h.1 htb);rw[oG (by rw[ht,htb])]at h;exact⟨v,s,h⟩
  have hn:t = !b:=by cases t<;>cases b<;>simp_all
  have h:=h.2 hn;rw[oG (by rw[ht,hn])]at h;exact⟨_,_,h⟩
 ·exact⟨_,_,h⟩
 exact h.elim
def ZQ{C:Env->Prop}{us:List Nat}(hC:∀ e σ,Q .normal e σ->C e)(VA:∀ e e',(∀ t ∈ us,e' t=e t)->C e'->C e): ∀(l:List cW) (e:Env) (σ : ai),(∀ g ∈ l,g.op.goes=true/\j5 g.dst us=true)->fh P Q l e σ->C e
 | [],e,σ,_,h=>hC e σ h
 | g :: l, e, σ, hl, h => by
   rw[xY]at h;obtain⟨h1,h2⟩:=hl g aR;obtain⟨v,σ',h⟩:=acq h1 h;exact VA e _ (jH h2) (ZQ hC VA l _ σ' (fun g hg=>hl g (by simp[hg])) h)
def Rm{kf:List (AX × AX)}{e:Env}(h:qY kf e){x y:AX}(hm:(x,y) ∈ kf): sK (x.ev e) (y.ev e):=by
 induction kf with
 | nil=>cases hm
 | cons p r ih =>
   obtain⟨a,b⟩:=p;rcases List.mem_cons.1 hm with h1|h1
   ·cases h1;exact h.1
   exact ih h.2 h1
def dstsOf(ops:Nat->cW)(j k:Nat): List Nat:=(List.range' j (k-j)).filterMap fun m=>(ops m).dst
def ZR{ops:Nat->cW}{i j k:Nat}(h:i<=j): ∀ t ∈ dstsOf ops j k,t ∈ dstsOf ops i k:=by
 intro t ht;obtain⟨m,hm,he⟩:=List.mem_filterMap.1 ht;rw[List.mem_range'_1]at hm;exact List.mem_filterMap.2 ⟨m,by rw[List.mem_range'_1];omega,he⟩
def Rn(ops:Nat->cW)(n:Nat)(kf:List (AX × AX))(ck:List Nat)(j k:Nat): Prop :=
 (Kw (ops j) ((ops k).cut (dstsOf ops j k))=true/\((ops k).op.CW=true->G3 kf=true))/\ ∀ x y,needs (ops j) (ops k)=some (x,y)->(x,y) ∈ kf/\ ∀ m,j<=m->m<n->(m=k\/m ∉ ck)->(ops m).op.goes=true/\j5 (ops m).dst (x.uses++y.uses)=true
def ZS {ops : Nat -> cW} {n : Nat} {kf : List (AX × AX)} {k : Nat} {ck : List Nat} {l2 : List Nat} : ∀ (l1 : List Nat) (e : Env) (σ : ai), (∀ j ∈ l1, Rn ops n kf ck j k) -> (∀ m ∈ l1 ++ l2, m ∉ ck) -> (l1 ++ k :: l2).Pairwise (· < ·) -> (∀ i ∈ l1 ++ k :: l2, i < n) ->
    fh P (jK kf Q) ((l1++k::l2).map ops) e σ->fm P (jK kf Q) ((ops k).cut (match l1 with | []=>[]|j::_=>dstsOf ops j k)) (fh P (jK kf Q) ((l1++l2).map ops)) e σ
 | [], e, σ, _, _, _, _, h => by
   rw[bX,bB,xY]at h;exact Vz h
 | j :: l1, e, σ, hc, hnc, hs, hn, h => by
   rw[bQ,bB,xY]at h;rw[bQ,bB];have heq:fh P (jK kf Q) (ops j::(l1++l2).map ops)=fm P (jK kf Q) (ops j) (fh P (jK kf Q) ((l1++l2).map ops)):=by funext e σ;exact xY _ _ _ _
   rw[heq];rw[bQ,fB]at hs;obtain⟨hp1,hp2⟩:=hc j aR;refine swap hp1.1 (fun h v e e' σ=>ZH (hp1.2 (by rw[ag1]at h;exact h))) (fun x y hxy=>?_) (I1 (fun e σ h=>?_) h)
   ·rw[ZO]at hxy;obtain⟨hm,hall⟩:=hp2 x y hxy;have Fc:j<k:=hs.1 k aR;refine⟨⟨(hall j (bf _) (hn j aR) (.inr (hnc j aR))).2,(hall k (Nat.le_of_lt Fc) (hn k aR) (.inl rfl)).2⟩,fun e σ hK=>?_⟩;refine ZQ (Q:=jK kf Q) (C:=fun e=>sK (x.ev e) (y.ev e)) (us:=x.uses++y.uses) (fun e σ h=>Rm h.1 hm) (fun e e' he h=>?_) _ e σ (fun g hg=>?_) hK
    ·rw[AX.fM (x:=x) (fun t ht=>(he t (eK _ ht)).symm),AX.fM (x:=y) (fun t ht=>(he t (fG _ ht)).symm)];exact h
    obtain⟨m,HT,rfl⟩:=dG.1 hg
    have HS:m ∈ l1++k::l2:=by
     rcases List.mem_append.1 HT with h|h<;>simp[h]
    exact hall m (Nat.le_of_lt (hs.1 m HS)) (hn m (dm _ HS)) (.inr (hnc m (dm _ HT)))
   have:=ZS l1 e σ (fun j hj=>hc j (by simp[hj])) (fun m hm=>hnc m (dm _ hm)) hs.2 (fun i hi=>hn i (dm _ hi)) h;refine one_le (fun t ht=>?_) this;cases l1 with
   | nil=>cases ht
   | cons j' l1=>exact ZR (Nat.le_of_lt (hs.1 j' aR)) t ht
def behind {jI cl : Nat -> List Nat} {l : List Nat} (hlt : ∀ k, ∀ m ∈ jI k, m < k) (lM : ∀ k, ∀ j ∈ cl k, j ∈ jI k \/ ∃ m ∈ jI k, j ∈ cl m) (hinv : ∀ z, z ∉ l -> ∀ i ∈ jI z, i ∉ l) {j : Nat} :
    ∀(k:Nat),(∀ i ∈ jI k,i ∉ l)->j ∈ cl k->j ∉ l:=by
 intro k
 induction k using Nat.strongRecOn with
 | _ k ih =>
   intro hr hj;rcases lM k j hj with h|⟨m,hm,h⟩
   ·exact hr j h
   exact ih m (hlt k m hm) (hinv m (hr m hm)) h
def Ua {ops ag2 : Nat -> cW} {jI cl : Nat -> List Nat} {N : Nat} {kf : List (AX × AX)} (h0 : ∀ (i : Nat) (D : List Nat) (K : Env -> ai -> Prop) (e : Env) (σ : ai), fm P (jK kf Q) ((ops i).cut D) K e σ -> fm P (jK kf Q) (ag2 i) K e σ) (hlt : ∀ k, ∀ m ∈ jI k, m < k) (lM : ∀ k, ∀ j ∈ cl k, j ∈ jI k \/ ∃ m ∈ jI k, j ∈ cl m) : ∀ (n : Nat) (l : List Nat) (e : Env) (σ : ai), l.length = n ->
    (∀ z,z ∉ l-> ∀ i ∈ jI z,i ∉ l)->(∀ i ∈ l,i<N)->l.Pairwise (fun j k=>j<k/\(j ∈ cl k\/Rn ops N kf (cl k) j k))->fh P (jK kf Q) (l.map ops) e σ->I5 P (jK kf Q) ag2 jI n l e σ:=by
 intro n
 induction n with
 | zero=>intro l e σ hl _ _ _ h;cases l with|nil=>exact⟨rfl,h⟩|cons=>cases hl
 | succ n ih =>
   intro l e σ hl hinv hN hp h;refine⟨fun hno=>?_,fun i hi hr=>?_⟩
   ·cases l with
    | nil=>exact h
    | cons x r =>
      obtain⟨j,hj,sy⟩:=hno x aR;have h1:=hlt x j hj;rcases List.mem_cons.1 sy with rfl|h2
      ·exact absurd h1 (Nat.lt_irrefl _)
      have:=((fB.1 hp).1 j h2).1;omega
   obtain⟨l1,l2,rfl,hni⟩:=List.eq_append_cons_of_mem hi;have he:(l1++i::l2).erase i=l1++l2:=by rw[List.erase_append_right _ hni,List.erase_cons_head]
   have hp':=fS.1 hp
   have hcp:∀ j ∈ l1,Rn ops N kf (cl i) j i:=fun j hj=>by
    rcases(hp'.2.2 j hj i aR).2 with h1|h1
    ·exact absurd (by simp[hj]) (behind hlt lM hinv i hr h1)
    exact h1
   have hb:=ZS l1 e σ hcp (fun m hm hmc=>behind hlt lM hinv i hr hmc (by rcases List.mem_append.1 hm with h|h<;>simp[h])) (hp.imp fun h=>h.1) hN h;have hb:=h0 _ _ _ _ _ hb;rw[he];refine I1 (fun e σ h=>ih _ e σ ?_ (fun z hz j hj sy=>?_) (fun m hm=>hN m ?_) ?_ h) hb
   ·simp at hl ⊢;omega
   ·have ag3 : j ∈ l1 ++ i :: l2 := by
     rcases List.mem_append.1 sy with h|h<;>simp[h]
    by_cases hzi:z=i
    ·subst hzi;exact hr j hj ag3
    refine hinv z (fun hz'=>hz ?_) j hj ag3;rcases List.mem_append.1 hz' with h|h
    ·simp[h]
    rcases List.mem_cons.1 h with h|h
    ·exact absurd h hzi
    simp[h]
   ·rcases List.mem_append.1 hm with h|h<;>simp[h]
   refine List.Pairwise.sublist ?_ hp;exact List.Sublist.append_left (List.sublist_cons_self _ _) _
end
section
variable {P:Program}
def CG(P:Program)(nt:Nat)(h:Hints)(dr:Bool)(all:Array Oper)(o:Oper)(g:cW): Prop :=
 wH P nt h dr o=some g.op/\g.dst=o.dst/\match o.guard with
  | none=>g.guard=none
  | some (j,b)=> ∃ k,(all[j]?).bind (·.dst)=some k/\k<nt/\g.guard=some (k,b)
def Mr{nt:Nat}{h:Hints}{dr:Bool}{all:Array Oper}: ∀(l:List Oper) (gs:List cW),lP P nt h dr all l=some gs->gs.length=l.length/\ ∀(i:Nat) (o:Oper),l[i]? = some o-> ∃ g,gs[i]? = some g/\CG P nt h dr all o g:=by
 intro l
 induction l with
 | nil=>intro gs hc;cases hc;exact⟨rfl,fun i o hi=>by cases hi⟩
 | cons o l ih =>
   intro gs hc;simp only[lP]at hc;split at hc
   ·rename_i ao gs' h1 h2;obtain⟨i1,i2⟩:=ih gs' h2;split at hc
    ·rename_i hg;cases hc;refine⟨by simp[i1],fun i o' hi=>?_⟩;cases i with
     | zero=>cases hi;exact⟨_,rfl,h1,rfl,by rw[hg]⟩
     | succ i=>exact i2 i o' hi
    rename_i j b hg;split at hc
    ·rename_i k hk;split at hc
     ·rename_i hlt;cases hc;refine⟨by simp[i1],fun i o' hi=>?_⟩;cases i with
      | zero=>cases hi;exact⟨_,rfl,h1,rfl,by rw[hg];exact⟨k,hk,hlt,rfl⟩⟩
      | succ i=>exact i2 i o' hi
     ·cases hc
    ·cases hc
   ·cases hc
def ZU {X : List Deferred} {ro : Option Nat} {wn : Nat} {nt : Nat} {h : Hints} {dr : Bool} {ops : Array Oper} {B : Nat -> Prop} {Q : AQ} {g0 : aN} {w0 : World} {nI : ai} {o : Oper} {gp : cW} {i : Nat} {K : Env -> ai -> Prop} {KK : Act -> World -> Prop}
    {g:aN} {w:World} {σ : ai} {e:Env} {a:Act} (VA:CG P nt h dr ops o gp) (h0:ops[i]? = some o) (hR:Rel g w σ) (hE:iG nt g w e a.tmps) (hd:ld X B σ g w a.defers) (fc:gk nI g0 w0 σ g w)
    (hk:∀ g' w' σ' e' a',K e' σ'->Rel g' w' σ'->iG nt g' w' e' a'.tmps->ld X B σ' g' w' a'.defers->gk nI g0 w0 σ' g' w'->KK a' w') (hw:fm P Q gp K e σ):wpOpIn (WF ro) wn P ops (QR X nt B g0 w0 nI Q) i KK a w:=by
 obtain⟨h1,hds,hgd⟩:=VA
 have go:∀ (e1:Env),iG nt g w e1 a.tmps->gp.op.run P e1 σ (fun v σ'=>K (eP e1 gp.dst v) σ') (fun v σ'=>Q (.panic v) e1 σ')->o.wpIn (WF ro) wn P a w KK (QR X nt B g0 w0 nI Q):=fun e1 yN hrun=>by
  rw[hds]at hrun;refine Oper.IY ?_ ?_ (Re h1 hR yN hrun)
  ·rintro a' w' ⟨v,g',av,σ',rfl,r1,r2,r3,r4⟩;exact hk g' w' σ' (eP e1 o.dst av) (a.put o.dst v) r4 r1 ((yN.mono r2.mono).put o.dst r3) (by rw[put_defers];exact hd.step r2) (fc.trans r2)
  rintro ex a' w' ⟨rfl,v,g',av,σ',rfl,r1,r2,r3,r4⟩;exact⟨g',e1,σ',hd.step r2,r1,yN.mono r2.mono,fc.trans r2,v,av,rfl,r3,r4⟩
 have pass:∀ (e1:Env),iG nt g w e1 a.tmps->K (eP e1 gp.dst (.bR [])) σ->KK (a.put o.dst Go.undef) w:=fun e1 yN hrun =>
  hk g w σ (eP e1 gp.dst (.bR [])) (a.put o.dst Go.undef) hrun hR (by rw[hds];exact yN.put o.dst (.bR [] #[] rfl (fun i hi=>absurd hi (c9 _)))) (by rw[put_defers];exact hd) fc
 unfold wpOpIn;simp only[h0];unfold fm at hw;split at hgd
 ·rename_i hg;simp only[hgd]at hw;have Xk:Region.wanted o (yielded ops a.tmps)=true:=by simp[Region.wanted,hg]
  rw[au Xk];exact go e hE hw
 rename_i j b hg;obtain⟨k,hk',hlt,hgg⟩:=hgd;simp only[hgg]at hw;obtain⟨w1,w2⟩:=N8 (ops:=ops) hE hg hk' hlt;split at hw
 ·rename_i t ht;have hwn:=w1 t ht;by_cases htb:t=b
  ·subst htb;rw[hwn,au aR];exact go _ (hE.congr ht) (hw.1 rfl)
  have:t = !b:=by cases t<;>cases b<;>simp_all
  rw[hwn,aj (by simpa using htb)];refine⟨fun _ _=>trivial,pass _ (hE.congr ?_) (hw.2 this)⟩;rw[ht,this]
 ·rename_i ht;rw[w2 ht,aj aR];exact⟨fun _ _=>trivial,pass e hE hw⟩
 exact hw.elim
def mE(ops:Array Oper)(i:Nat): List Nat :=
 match ops[i]? with
 | some o=>(o.after.toList.filter (Region.binds .any)).map (·.on)
 | none=>[]
def kx: cW:=⟨.lu ⟨false,0⟩,none,none⟩
def ZV {X : List Deferred} {ro : Option Nat} {wn : Nat} {nt : Nat} {h : Hints} {ops : Array Oper} {B : Nat -> Prop} {Q : AQ} {g0 : aN} {w0 : World} {nI : ai} {gs : List cW} (hc : lP P nt h true ops ops.toList = some gs) (hlt : ∀ i, ∀ j ∈ mE ops i, j < i) :
    ∀ (n : Nat) (l : List Nat) (listed : Array Bool) (g : aN) (w : World) (σ : ai) (e : Env) (a : Act), listed.size = ops.size -> l.Nodup -> (∀ i, i ∈ l ↔ i < ops.size /\ listed.getD i true = false) ->
      I5 P Q (fun i=>gs.getD i kx) (mE ops) n l e σ->Rel g w σ->iG nt g w e a.tmps->ld X B σ g w a.defers->gk nI g0 w0 σ g w ->
      wpAnyIn (WF ro) wn P .any ops (QR X nt B g0 w0 nI Q) n listed a w:=by
 obtain⟨hlen,qE⟩:=Mr ops.toList gs hc
 have mem:∀ (l:List Nat) (listed:Array Bool),(∀ i,i ∈ l↔i<ops.size/\listed.getD i true=false)-> ∀ i,i ∈ Region.ready .any ops listed->i ∈ l/\ ∀ j ∈ mE ops i,j ∉ l:=by
  intro l listed hl i hi;simp only[Region.ready,List.mem_filter,eN,aD,ey]at hi;obtain⟨hlt,hun,Ms⟩:=hi;refine⟨(hl i).2 ⟨hlt,hun⟩,fun j hj sy=>?_⟩;obtain⟨NX,hj2⟩:=(hl j).1 sy;have ho:ops[i]? = some ops[i]:=by simp[hlt]
  simp only[mE,ho,dG,List.mem_filter]at hj;obtain⟨ed,⟨he1,he2⟩,rfl⟩:=hj;simp only[ho,c_,bO]at Ms;have:=Array.all_eq_true_iff_forall_mem.1 Ms ed (by simpa using he1);simp only[he2,Bool.not_true,Bool.false_or]at this;rcases Nat.lt_or_ge ed.on listed.size with h'|h'
  ·simp[h']at this hj2;rw[this]at hj2;cases hj2
  simp[Array.getElem?_eq_none h']at this
 have ak5:∀ (l:List Nat) (listed:Array Bool),listed.size=ops.size->(∀ i,i ∈ l↔i<ops.size/\listed.getD i true=false)->Region.ready .any ops listed=[]-> ∀ i ∈ l,∃ j ∈ mE ops i,j ∈ l:=by
  intro l listed hsz hl kY i hi;obtain⟨Vm,hun⟩:=(hl i).1 hi;have ho:ops[i]? = some ops[i]:=by simp[Vm]
  have hnot:i ∉ Region.ready .any ops listed:=by rw[kY];simp
  simp only[Region.ready,List.mem_filter,eN,aD,ey,Vm,hun,ho,c_,bO,true_and,Array.all_eq_true_iff_forall_mem]at hnot;simp only[Classical.not_forall,kB,Bool.or_eq_false_iff,Bool.not_eq_false']at hnot;obtain⟨ed,he,hbd,hls⟩:=hnot
  have hj:ed.on ∈ mE ops i:=by
   simp only[mE,ho,dG,List.mem_filter];exact⟨ed,⟨by simpa using he,hbd⟩,rfl⟩
  have h1:=hlt i _ hj;refine⟨_,hj,(hl _).2 ⟨ae,?_⟩⟩;have h2:ed.on<listed.size:=ae;simp[h2]at hls ⊢;exact hls
 intro n
 induction n with
 | zero =>
   intro l listed g w σ e a hsz hnd hl ha hR hE hd fc;obtain⟨rfl,hq⟩:=ha;refine⟨?_,g,e,σ,hd,hR,hE,fc,hq⟩;refine List.eq_nil_iff_forall_not_mem.2 fun i hi=>?_;exact absurd (mem _ _ hl i hi).1 aR
 | succ n ih =>
   intro l listed g w σ e a hsz hnd hl ha hR hE hd fc;refine⟨fun kY=>⟨g,e,σ,hd,hR,hE,fc,ha.1 (ak5 l listed hsz hl kY)⟩,fun i hi=>?_⟩;obtain⟨mg,hr⟩:=mem l listed hl i hi;have EH:=((hl i).1 mg).1;have ho:ops[i]? = some ops[i]:=by simp[EH]
   obtain⟨gp,hgp,VA⟩:=qE i ops[i] (by simp[EH]);have hrun:=ha.2 i mg hr;have hgd:gs.getD i kx=gp:=by simp[List.getD,hgp]
   have hrun:fm P Q gp (I5 P Q (fun i=>gs.getD i kx) (mE ops) n (l.erase i)) e σ:=by rw[<-hgd];exact hrun
   refine ZU VA ho hR hE hd fc (fun g' w' σ' e' a' hK jf ZW hd' ak6=>?_) hrun;refine ih (l.erase i) _ g' w' σ' e' a' (by simp[hsz]) (hnd.erase i) (fun k=>?_) hK jf ZW hd' ak6;rw[hnd.mem_erase_iff,hl k];by_cases Ro:k=i
   ·subst Ro;simp[hsz,EH]
   have:(listed.setIfInBounds i true).getD k true=listed.getD k true:=by
    simp[eW,Array.getElem?_setIfInBounds_ne (Ne.symm Ro)]
   rw[this];simp[Ro]
def xZ(jI:Nat->List Nat): Nat->List (List Nat)
 | 0=>[]
 | n+1=>let c:=xZ jI n;c++[((jI n).flatMap fun m=>c.getD m []).foldl (fun l x=>if l.contains x then l else x::l) (jI n)]
def G4(n:Nat)(jI:Nat->List Nat)(gs:List cW): Bool :=
 let cl:=xZ jI n
 (List.range n).all fun k => (jI k).all (· < k) && (cl.getD k []).all (fun j => (jI k).contains j || (jI k).any fun m => (cl.getD m []).contains j) &&
   (List.range k).all fun j => (cl.getD k []).contains j || (Kw (gs.getD j kx) ((gs.getD k kx).cut (dstsOf (fun i => gs.getD i kx) j k)) && match needs (gs.getD j kx) (gs.getD k kx) with
     | some (x,y)=>(List.range n).all fun m=>decide (m<j) ||(decide (m≠k) && (cl.getD k []).contains m) ||((gs.getD m kx).op.goes && j5 (gs.getD m kx).dst (x.uses++y.uses))
     | none=>true)
def qZ(n:Nat)(jI:Nat->List Nat)(gs:List cW): List (AX × AX) :=
 let cl:=xZ jI n
 ((List.range n).flatMap fun k=>(List.range k).filterMap fun j=>if(cl.getD k []).contains j then none else needs (gs.getD j kx) (gs.getD k kx))++if gs.any fun g=>g.op.CW then [(.c .iZ,.c .iZ)]else []
def afm(h:Hints)(ops:Array Oper): List Nat :=
 let n:=ops.size
 let cl:=xZ (mE ops) n
 let ls:=(List.range n).filter fun i=>match(ops[i]?).bind (·.dst)with
  | some d=>h.mth.contains (100000+d)
  | none=>false
 let late:=fun k=>ls.contains k || ls.any fun i=>(cl.getD k []).contains i
 (List.range n).filter (fun k=> !late k)++(List.range n).filter late
def Rp(n:Nat)(p:List Nat): Bool:=decide (p.length=n) && decide p.Nodup && p.all (· < n) && (List.range n).all fun x=>p.contains x
def Fe(jI:Nat->List Nat)(p:List Nat)(i:Nat): List Nat:=match p[i]? with
 | some k=>(jI k).map fun j=>p.idxOf j
 | none=>[]
def pN(gs:List cW)(p:List Nat): List cW:=p.map fun i=>gs.getD i kx
def acr(n:Nat)(jI:Nat->List Nat): Bool:=(List.range n).all fun k=>(jI k).all (· < k)
def Ob(jI:Nat->List Nat): ∀ n,(xZ jI n).length=n
 | 0=>rfl
 | n+1=>by simp[xZ,Ob jI n]
def QR.mono{X:List Deferred}{nt:Nat}{B:Nat->Prop}{g:aN}{w:World}{σ : ai}{Q Q':AQ}(h:∀ ex e σ,Q ex e σ->Q' ex e σ){ex:Exit}{a:Act}{w2:World}(hq:QR X nt B g w σ Q ex a w2): QR X nt B g w σ Q' ex a w2:=by
 obtain⟨g',e',σ',h1,h2,h3,h4,h5⟩:=hq;refine⟨g',e',σ',h1,h2,h3,h4,?_⟩;cases ex with
 | panic chain=>obtain⟨v,av,r1,r2,r3⟩:=h5;exact⟨v,av,r1,r2,h _ _ _ r3⟩
 | outgrown=>exact h5
 | normal=>exact h _ _ _ h5
 | exit id=>exact h _ _ _ h5
 | goto l=>exact h _ _ _ h5
 | ret=>exact h _ _ _ h5
def ajk {Q : AQ} {n : Nat} {jI : Nat -> List Nat} {gs gs0 : List cW} {e : Env} {σ : ai} (h0 : ∀ (i : Nat) (D : List Nat) (K : Env -> ai -> Prop) (e : Env) (σ : ai), fm P (jK (qZ n jI gs) Q) ((gs.getD i kx).cut D) K e σ -> fm P (jK (qZ n jI gs) Q) (gs0.getD i kx) K e σ) (hlen : gs.length = n) (hz : ∀ z, n <= z -> jI z = []) (hok : G4 n jI gs = true) (hw : fh P (jK (qZ n jI gs) Q) gs e σ) :
    I5 P (jK (qZ n jI gs) Q) (fun i=>gs0.getD i kx) jI n (List.range n) e σ:=by
 simp only[G4,aZ,eN,aD,cH,aM,List.any_eq_true,List.contains_iff_mem]at hok
 have hlt:∀ i,∀ j ∈ jI i,j<i:=fun i j hj=>by
  by_cases hi:i<n
  ·exact(hok i hi).1.1 j hj
  rw[hz i (Nat.le_of_not_lt hi)]at hj;cases hj
 refine Ua (ops:=fun i=>gs.getD i kx) (cl:=fun k=>(xZ jI n).getD k []) (N:=n) h0 hlt (fun k j hj=>?_) _ _ e σ aR (fun z hz' i hi=>?_) (fun i hi=>by simpa using hi) ?_ ?_
 ·by_cases hk:k<n
  ·exact(hok k hk).1.2 j hj
  have:(xZ jI n).getD k []=[]:=by
   have:=Ob jI n;rw[aq,iy ae];rfl
  rw[this]at hj;cases hj
 ·have:jI z=[]:=hz z (by simpa using hz');rw[this]at hi;cases hi
 ·refine List.pairwise_iff_getElem.2 fun i j hi hj hij=>?_;simp only[List.getElem_range];simp at hi hj;refine⟨hij,?_⟩;by_cases lM:i ∈ (xZ jI n).getD j []
  ·exact .inl lM
  refine .inr ?_;rcases(hok j hj).2 i hij with h1|⟨h1,h2⟩
  ·exact absurd h1 lM
  refine⟨⟨h1,fun hpc=>?_⟩,fun x y hxy=>⟨?_,fun m HT HS hm3=>?_⟩⟩
  ·have ha:(gs.any fun g=>g.op.CW)=true:=List.any_eq_true.2 ⟨_,(by show gs.getD j kx ∈ gs;rw[aq,aG ae];exact dK _),hpc⟩;unfold G3 qZ;rw[au ha];simp[ZG]
  ·refine eK _ (List.mem_flatMap.2 ⟨j,by simpa using hj,List.mem_filterMap.2 ⟨i,by simpa using hij,?_⟩⟩);rw[aj (by simpa[List.contains_iff_mem]using lM)];exact hxy
  simp only[hxy,aZ,eN,aD,cH,aM]at h2;rcases h2 m HS with(h3|h3)|h3
  ·omega
  ·rcases hm3 with h4|h4
   ·exact absurd h4 h3.1
   exact absurd (List.contains_iff_mem.1 h3.2) h4
  exact h3
 have:(List.range n).map (fun i=>gs.getD i kx)=gs:=by
  apply List.ext_getElem
  ·simp[hlen]
  intro i h1 h2;simp[aq,h2]
 rw[this];exact hw
def Rq {Q : AQ} {ops ops' : Nat -> cW} {jI ag4 : Nat -> List Nat} {N : Nat} {f : Nat -> Nat} (hinj : ∀ i, i < N -> ∀ j, j < N -> f i = f j -> i = j) (Mt : ∀ i, i < N -> ops' i = ops (f i)) (Ms : ∀ i, i < N -> ∀ j, j < N -> (j ∈ ag4 i ↔ f j ∈ jI (f i))) :
    ∀(n:Nat) (l l':List Nat) (e:Env) (σ : ai),l.Nodup->l'.Nodup->(∀ i ∈ l,i<N)->(∀ x,x ∈ l'↔ ∃ i,i ∈ l/\f i=x)->I5 P Q ops' ag4 n l e σ->I5 P Q ops jI n l' e σ
 | 0, l, l', e, σ, _, _, _, hl, h => by
   obtain⟨h1,h2⟩:=h;subst h1;refine⟨?_,h2⟩;cases l' with
   | nil=>rfl
   | cons x _=>obtain⟨i,hi,_⟩:=(hl x).1 aR;cases hi
 | n + 1, l, l', e, σ, hd, hd', hN, hl, h => by
   obtain⟨h1,h2⟩:=h;refine⟨fun hx=>h1 fun i hi=>?_,fun x hx hr=>?_⟩
   ·obtain⟨y,hy1,VB⟩:=hx (f i) ((hl _).2 ⟨i,hi,rfl⟩);obtain⟨j,hj,rfl⟩:=(hl y).1 VB;exact⟨j,(Ms i (hN i hi) j (hN j hj)).2 hy1,hj⟩
   obtain⟨i,hi,rfl⟩:=(hl x).1 hx;have h3:=h2 i hi fun j hj sy=>hr (f j) ((Ms i (hN i hi) j (hN j sy)).1 hj) ((hl _).2 ⟨j,sy,rfl⟩);rw[Mt i (hN i hi)]at h3;refine I1 (fun e σ h4=>?_) h3;refine Rq hinj Mt Ms n (l.erase i) (l'.erase (f i)) e σ (hd.erase i) (hd'.erase _) (fun k hk=>hN k (List.mem_of_mem_erase hk)) (fun z=>?_) h4;rw[hd'.mem_erase_iff,hl z];constructor
   ·rintro⟨hz,k,hk,rfl⟩;exact⟨k,hd.mem_erase_iff.2 ⟨fun Ro=>hz (by rw[Ro]),hk⟩,rfl⟩
   rintro⟨k,hk,rfl⟩;obtain⟨Ro,hk⟩:=hd.mem_erase_iff.1 hk;exact⟨fun hf=>Ro (hinj k (hN k hk) i (hN i hi) hf),k,hk,rfl⟩
def Xp {X : List Deferred} {ro : Option Nat} {wn : Nat} {nt : Nat} {h : Hints} {ops : Array Oper} {B : Nat -> Prop} {Q : AQ} {gs : List cW} {p : List Nat} {id : Nat} {g : aN} {w : World} {σ : ai} {e : Env} {a : Act} (hc : lP P nt h true ops ops.toList = some gs)
    (hlt:acr ops.size (mE ops)=true) (hp:Rp ops.size p=true) (qK:gs.all (fun g=>Fb g.op)=true) (hok:G4 ops.size (Fe (mE ops) p) (pN (gs.map (tB h)) p)=true) (hm:P.follows .mixedOrders=true) (hw:fh P (jK (qZ ops.size (Fe (mE ops) p) (pN (gs.map (tB h)) p)) Q) (pN (gs.map (tB h)) p) e σ) (hR:Rel g w σ) (hE:iG nt g w e a.tmps) (hd:ld X B σ g w a.defers):(Code.region id ops true).wpIn (WF ro) wn P (QR X nt B g w σ Q) a w:=by
 have EH:∀ i,∀ j ∈ mE ops i,j<i:=fun i j hj=>by
  by_cases hi:i<ops.size
  ·simp only[acr,aZ,eN,aM]at hlt;exact hlt i hi j hj
  have:mE ops i=[]:=by simp[mE,Array.getElem?_eq_none (ja hi)]
  rw[this]at hj;cases hj
 simp only[Rp,aD,aM,aZ]at hp;obtain⟨⟨⟨hp1,hp2⟩,Rr⟩,hp4⟩:=hp;refine wpIn_mono (wpIn_region_any hm ?_) fun ex a' w'=>QR.mono (Q:=jK (qZ ops.size (Fe (mE ops) p) (pN (gs.map (tB h)) p)) Q) fun _ _ _=>acj;have jf:=hR.drew (w.drawn+1);have fc:=gk.drew σ g w (w.drawn+1);refine ZV hc EH ops.size (List.range ops.size) _ g _ σ e a aR List.nodup_range (fun i=>by simp;intro h;simp[h]) ?_ jf (hE.mono fc.mono) (hd.step fc) fc
 have h0:∀ (Q:AQ) (i:Nat) (D:List Nat) (K:Env->ai->Prop) (e:Env) (σ : ai),fm P Q (((pN (gs.map (tB h)) p).getD i kx).cut D) K e σ->fm P Q ((pN gs p).getD i kx) K e σ:=fun Q i D K e σ hh=>by
  have e1:∀ k,(gs.map (tB h)).getD k kx=tB h (gs.getD k kx):=fun k=>by
   rw[aq,aq,gZ];cases gs[k]?<;>rfl
  have e2:(pN (gs.map (tB h)) p).getD i kx=tB h ((pN gs p).getD i kx):=by
   unfold pN;simp only[e1];rw[aq,aq,gZ,gZ];cases p[i]?<;>rfl
  rw[e2]at hh;refine ZP ?_ hh
  have e3:∀ k,Fb (gs.getD k kx).op=true:=fun k=>by
   rw[aq];cases hk:gs[k]? with
   | none=>rfl
   | some g=>exact aZ.1 qK g (jw hk)
  unfold pN;rw[aq,gZ];cases p[i]? with
  | none=>rfl
  | some k=>exact e3 k
 have key:=ajk (P:=P) (Q:=Q) (n:=ops.size) (jI:=Fe (mE ops) p) (gs:=pN (gs.map (tB h)) p) (gs0:=pN gs p) (e:=e) (σ:=σ) (h0 _) (by simp[pN,hp1]) (fun z hz=>by simp[Fe,iy (show p.length<=z by omega)]) hok hw;have hge:∀ i (hi:i<ops.size),p[i]? = some (p.getD i 0):=fun i hi=>by rw[aq,aG ae];rfl
 have hinj:∀ i,i<ops.size-> ∀ j,j<ops.size->p.getD i 0=p.getD j 0->i=j:=fun i hi j hj hij=>by
  have e1:=hge i hi;have e2:=hge j hj;rw[hij]at e1;exact(List.getElem?_inj ae hp2).1 (e1.trans e2.symm)
 have hidx:∀ j,j<ops.size->p.idxOf (p.getD j 0)=j:=fun j hj=>by
  rw[aq,aG ae];exact hp2.idxOf_getElem j ae
 have ag5:∀ x,x<ops.size->x ∈ p:=fun x hx=>List.contains_iff_mem.1 (hp4 x (by simpa using hx));refine Rq (N:=ops.size) (f:=fun i=>p.getD i 0) hinj (fun i hi=>?_) (fun i hi j hj=>?_) _ _ _ e σ List.nodup_range List.nodup_range (fun i hi=>by simpa using hi) (fun x=>?_) key
 ·simp only[pN,aq,gZ];rw[hge i hi];rfl
 ·simp only[Fe];rw[hge i hi];simp only[dG];constructor
  ·rintro⟨k,hk,rfl⟩
   have hkp:k ∈ p:=by
    have:=EH _ k hk;have h5:p.getD i 0<ops.size:=Rr _ (jw (hge i hi));exact ag5 k ae
   have:p.getD (p.idxOf k) 0=k:=by
    rw[aq,aG (List.idxOf_lt_length_iff.2 hkp)];exact List.getElem_idxOf _
   rw[this];exact hk
  intro hk;exact⟨_,hk,hidx j hj⟩
 constructor
 ·intro hx;have hx:=ag5 x (by simpa using hx);obtain⟨i,hi,rfl⟩:=bP hx;exact⟨i,by simp;omega,by rw[aq,aG hi];rfl⟩
 rintro⟨i,hi,rfl⟩;simp only[eN]at hi ⊢;exact Rr _ (jw (hge i hi))
end
def CY: dI->Option Nat
 | .seq a b => match CY a with
   | some l=>some l
   | none=>CY b
 | .label l=>some l
 | _=>none
def kM: dI->Nat->Option dI
 | .seq a b, l => match kM a l with
   | some r=>some (.seq r b)
   | none=>kM b l
 | .label l',l=>if l'==l then some .skip else none
 | _,_=>none
section
variable (P:Program)
def holds(nt:Nat)(gs:List cW): List cW :=
 (List.range (gs.foldl (fun m g => match g.op with
   | .lp k _ _=>Nat.max m (k+1-nt)
   | .rQ k _ _ _ _=>Nat.max m (k+1-nt)
   | .rR k _ _ _ _=>Nat.max m (k+1-nt)
   | _=>m) 0)).map fun i=>⟨.hold,some (nt+i),none⟩
def HU {X : List Deferred} {P : Program} {Q : AQ} {nt : Nat} {B : Nat -> Prop} {w : World} {tmps : Array Value} {ds : List Deferred} {gs : List cW} : ∀ (l : List Nat) (g : aN) (σ : ai) (e : Env), fh P Q ((l.map fun i => (⟨.hold, some (nt + i), none⟩ : cW)) ++ gs) e σ -> Rel g w σ -> iG nt g w e tmps -> ld X B σ g w ds ->
    ∃ g' σ' e',fh P Q gs e' σ'/\Rel g' w σ'/\iG nt g' w e' tmps/\ld X B σ' g' w ds/\gk σ g w σ' g' w
 | [],g,σ,e,h,hR,hE,hd=>⟨g,σ,e,h,hR,hE,hd,.refl _ _ _⟩
 | i :: l, g, σ, e, h, hR, hE, hd => by
   rw[bB,bQ]at h;have h:fh P Q ((l.map fun i=>(⟨.hold,some (nt+i),none⟩:cW))++gs) (eP e (some (nt+i)) (.ref σ.length 0)) (σ++[.resv]):=h;obtain⟨r1,r2⟩:=hR.hold
   have ZW:iG nt (g.push 0 none 0) w (eP e (some (nt+i)) (.ref σ.length 0)) tmps:=by
    refine⟨hE.size,fun t ht=>?_⟩;have hne:t≠nt+i:=ae;simp only[eP,aj hne];exact(hE.mono r2.mono).rel t ht
   obtain⟨g',σ',e',h1,h2,h3,h4,h5⟩:=HU l _ _ _ h r1 ZW (hd.step r2);exact⟨g',σ',e',h1,h2,h3,h4,r2.trans h5⟩
def rcs: Code->List (Code × Code)
 | .rangeFunc _ _ a b=>[(a,b)]
 | .seq a b=>rcs a++rcs b
 | .cond _ a b=>rcs a++rcs b
 | .block _ a=>rcs a
 | .loop a=>rcs a
 | .scope a=>rcs a
 | _=>[]
def an9(P:Program)(n k:Nat): Code × Code:=match(P.funcs[n]?).bind (·.body)with
 | some c=>(rcs c).getD k (.skip,.skip)
 | none=>(.skip,.skip)
def dS(nt:Nat)(h:Hints)(rd:Bool): Code->Option dI
 | .skip=>some .skip
 | .region _ ops false => match lP P nt h false ops ops.toList with
   | some gs=>some (.region gs)
   | none=>some .stop
 | .region _ ops true => match lP P nt h true ops ops.toList with
   | some gs => let p := afm h ops
     let gd:=pN (gs.map (tB h)) p
     if(acr ops.size (mE ops) && Rp ops.size p && gs.all (fun g=>Fb g.op) && G4 ops.size (Fe (mE ops) p) gd) && P.follows .mixedOrders then some (.draw (holds nt gd++gd) (qZ ops.size (Fe (mE ops) p) gd))else some .stop
   | none=>some .stop
 | .seq a b => match dS nt h rd a, dS nt h rd b with
   | some x,some y=>some (.seq x y)
   | _,_=>none
 | .cond c a b => match cX nt c, dS nt h rd a, dS nt h rd b with
   | some z,some x,some y=>some (.cond z x y)
   | _,_,_=>none
 | .block id c=>(dS nt h rd c).map (.block id)
 | .loop c=>(dS nt h rd c).map .loop
 | .exit id=>some (.exit id)
 | .ret=>some .ret
 | .scope c => match dS nt h rd c with
   | some x => match CY x with
     | some l => match kM x l with
       | some r=>some (.scope l x r)
       | none=>none
     | none=>none
   | none=>none
 | .label l=>some (.label l)
 | .goto l=>some (.goto l)
 | .rangeFunc _ _ _ _=>none
 | .refuse _=>some .stop
end
def Ff(ro:Option Nat)(P:Program)(m:Machine): m.fenced P (WF ro):=fenced_wide P m
section
variable {P:Program}
def QR.step{X:List Deferred}{nt:Nat}{B:Nat->Prop}{g g':aN}{w w':World}{σ σ':ai}{Q:AQ}(fc:gk σ g w σ' g' w'){ex:Exit}{a:Act}{w2:World}(h:QR X nt B g' w' σ' Q ex a w2): QR X nt B g w σ Q ex a w2:=by
 obtain⟨g2,e2,σ2,h1,h2,h3,h4,h5⟩:=h;exact⟨g2,e2,σ2,h1,h2,h3,fc.trans h4,h5⟩
def Sound(P:Program)(nt:Nat)(h:Hints)(c:Code): Prop :=
 ∀ (X : List Deferred) (ro : Option Nat) (wn : Nat) (B : Nat -> Prop) (ac : dI) (Q : AQ) (g : aN) (w : World) (σ : ai) (e : Env) (a : Act),
   dS P nt h ro.isSome c=some ac->jF P ac Q e σ->Rel g w σ->iG nt g w e a.tmps->ld X B σ g w a.defers->BE ac B w->c.wpIn (WF ro) wn P (QR X nt B g w σ Q) a w
def Rs{nt:Nat}{h:Hints}{rd:Bool}{l:Nat}: ∀(c:Code) (ac ar:dI),dS P nt h rd c=some ac->kM ac l=some ar-> ∃ rest,findLabel c l=some rest/\dS P nt h rd rest=some ar:=by
 intro c
 induction c with
 | seq x y zV xK =>
   intro ac ar hc hf;simp only[dS]at hc;split at hc
   ·rename_i ax ay h1 h2;cases hc;simp only[kM]at hf;split at hf
    ·rename_i r hr;cases hf;obtain⟨rest,r1,r2⟩:=zV ax r h1 hr;exact⟨.seq rest y,by simp[findLabel,r1],by simp[dS,r2,h2]⟩
    rename_i hr;obtain⟨rest,r1,r2⟩:=xK ay ar h2 hf;refine⟨rest,?_,r2⟩
    have:findLabel x l=none:=by
     have key:∀ (c:Code) (ac:dI),dS P nt h rd c=some ac->kM ac l=none->findLabel c l=none:=by
      intro c
      induction c with
      | seq x y zV xK =>
        intro ac hc hf;simp only[dS]at hc;split at hc
        ·rename_i ax ay h1 h2;cases hc;simp only[kM]at hf;split at hf
         ·cases hf
         rename_i hr;simp[findLabel,zV ax h1 hr,xK ay h2 hf]
        ·cases hc
      | label l' =>
        intro ac hc hf;cases hc;simp only[kM]at hf;simp only[findLabel];split at hf
        ·cases hf
        rename_i hh;rw[aj hh]
      | _=>intros;rfl
     exact key x ax h1 hr
    simp[findLabel,this,r1]
   ·cases hc
 | label l' =>
   intro ac ar hc hf;cases hc;simp only[kM]at hf;split at hf
   ·rename_i hh;cases hf;exact⟨.skip,by simp only[findLabel];rw[au hh],rfl⟩
   ·cases hf
 | region id ops d =>
   intro ac ar hc hf;cases d<;>simp only[dS]at hc
   ·split at hc<;>(cases hc;cases hf)
   split at hc
   ·split at hc<;>(cases hc;cases hf)
   ·cases hc;cases hf
 | cond z x y =>
   intro ac ar hc hf;simp only[dS]at hc;split at hc
   ·cases hc;cases hf
   ·cases hc
 | block id x=>intro ac ar hc hf;simp only[dS]at hc;obtain⟨gs,_,rfl⟩:=Option.map_eq_some_iff.1 hc;cases hf
 | loop x=>intro ac ar hc hf;simp only[dS]at hc;obtain⟨gs,_,rfl⟩:=Option.map_eq_some_iff.1 hc;cases hf
 | scope x =>
   intro ac ar hc hf;simp only[dS]at hc;split at hc
   ·split at hc
    ·split at hc
     ·cases hc;cases hf
     ·cases hc
    ·cases hc
   ·cases hc
 | _=>intro ac ar hc hf;cases hc<;>cases hf
def ZX: ∀(c:dI) (l:Nat) (r:dI),kM c l=some r->r.nB=true->c.nB=true:=by
 intro c
 induction c with
 | seq a b ZY ZZ =>
   intro l r h hr;simp only[kM]at h;split at h
   ·rename_i r' h';cases h;simp only[dI.nB,cH]at hr ⊢;exact hr.imp (ZY l r' h') id
   simp only[dI.nB,cH];exact .inr (ZZ l r h hr)
 | label l'=>intro l r h hr;simp only[kM]at h;split at h<;>cases h;cases hr
 | _=>intro l r h hr;cases h
def KD{nt:Nat}{h:Hints}: Sound P nt h .skip:=fun X ro wn B ac Q g w σ e a hc hw hR hE hd hB=>by
 cases hc;exact wpIn_skip ⟨g,e,σ,hd,hR,hE,.refl _ _ _,hw⟩
def Oc {nt : Nat} {h : Hints} {x y : Code} (zV : Sound P nt h x) (xK : Sound P nt h y) : Sound P nt h (.seq x y) := by
    intro X ro wn B ac Q g w σ e a hc hw hR hE hd hB;simp only[dS]at hc;split at hc
    ·rename_i ax ay h1 h2;cases hc;refine wpIn_seq (wpIn_mono (zV X ro wn B ax _ g w σ e a h1 hw hR hE hd (hB.sub (by simp[dI.nB];exact fun h=> .inl h))) ?_);rintro ex a' w' ⟨g',e',σ',r1,r2,r3,r4,r5⟩;cases ex with
     | normal =>
       refine wpIn_mono (xK X ro wn B ay Q g' w' σ' e' a' h2 r5 r2 r3 r1 ((hB.sub (by simp[dI.nB];exact fun h=> .inr h)).size r4.size)) fun ex a2 w2 hq=>hq.step r4
     | exit id=>exact⟨g',e',σ',r1,r2,r3,r4,r5⟩
     | goto l=>exact⟨g',e',σ',r1,r2,r3,r4,r5⟩
     | ret=>exact⟨g',e',σ',r1,r2,r3,r4,r5⟩
     | panic ch=>exact⟨g',e',σ',r1,r2,r3,r4,r5⟩
     | outgrown=>exact r5.elim
    ·cases hc
def qw{b:Frame}{a:Act}{k:List Item}{cs:List Frame}{w:World}{c:Code}: Go.step P (lone (b.atR a (.code (.scope c)::k)) cs w) = .next (lone (b.atR a (.code c:: .inScope c::k)) cs w) :=
 step_lone_go (by simp[stepG,stepG.exec,Frame.atR])
def D3{b:Frame}{a:Act}{k:List Item}{cs:List Frame}{w:World}{c:Code}: Go.step P (lone (b.atR a (.inScope c::k)) cs w) = .next (lone (b.atR a k) cs w) :=
 step_lone_go (by simp[stepG,stepG.exec,Frame.atR])
def Ub{nt:Nat}{h:Hints}: ∀(c:Code),Sound P nt h c/\ ∀ l rest,findLabel c l=some rest->Sound P nt h rest:=by
 intro c
 induction c with
 | skip=>exact⟨KD,fun _ _ h=>by cases h⟩
 | region id ops draw =>
   refine⟨?_,fun _ _ h=>by cases h⟩;intro X ro wn B ac Q g w σ e a hc hw hR hE hd hB;cases draw with
   | true =>
     simp only[dS]at hc;split at hc
     ·rename_i gs h1;split at hc
      ·rename_i hok;simp only[aD]at hok;cases hc;obtain⟨g1,σ1,e1,k1,k2,k3,k4,k5⟩:=HU _ g σ e hw hR hE hd;exact wpIn_mono (Xp h1 hok.1.1.1.1 hok.1.1.1.2 hok.1.1.2 hok.1.2 hok.2 k1 k2 k3 k4) fun _ _ _ hq=>QR.step k5 hq
      ·cases hc;exact hw.elim
     ·cases hc;exact hw.elim
   | false =>
     simp only[dS]at hc;split at hc
     ·rename_i gs h1;cases hc;refine wpIn_region ?_;have:=N9 (ro:=ro) (wn:=wn) (B:=B) (ops:=ops) (Q:=Q) (g0:=g) (w0:=w) (nI:=σ) ops.toList 0 gs g w σ e a h1 (fun j _=>by simp) hw hR hE hd (.refl _ _ _);rw[ju];simpa using this
     ·cases hc;exact hw.elim
 | seq x y zV xK =>
   refine⟨Oc zV.1 xK.1,fun l rest hf=>?_⟩;simp only[findLabel]at hf;split at hf
   ·rename_i r hr;cases hf;exact Oc (zV.2 l r hr) xK.1
   exact xK.2 l rest hf
 | cond z x y zV xK =>
   refine⟨?_,fun _ _ h=>by cases h⟩
   replace zV:=zV.1
   replace xK:=xK.1
   intro X ro wn B ac Q g w σ e a hc hw hR hE hd hB;simp only[dS]at hc;split at hc
   ·rename_i az ax ay h1 h2 h3;cases hc;have v1:=cV h1 hE;simp only[jF]at hw;generalize AX.ev e az=zv at v1 hw;generalize fc:a.eval z=cv at v1;cases v1<;>simp only at hw;rename_i t;refine wpIn_cond_split fc (fun ht=>?_) (fun ht=>?_)
    ·exact zV X ro wn B ax Q g w σ e a h2 (hw.1 ht) hR hE hd (hB.sub (by simp[dI.nB];exact fun h=> .inl h))
    exact xK X ro wn B ay Q g w σ e a h3 (hw.2 ht) hR hE hd (hB.sub (by simp[dI.nB];exact fun h=> .inr h))
   ·cases hc
 | block id x ih =>
   refine⟨?_,fun _ _ h=>by cases h⟩
   replace ih:=ih.1
   intro X ro wn B ac Q g w σ e a hc hw hR hE hd hB;simp only[dS,bg]at hc;obtain⟨ax,h1,rfl⟩:=hc;refine wpIn_block (wpIn_mono (ih X ro wn B ax _ g w σ e a h1 hw hR hE hd (hB.sub (by simp[dI.nB]))) ?_);rintro ex a' w' ⟨g',e',σ',r1,r2,r3,r4,r5⟩;cases ex with
   | exit i =>
     simp only[uw]at r5;simp only[Exit.inBlock];split
     ·rename_i e1;rw[au e1]at r5;exact⟨g',e',σ',r1,r2,r3,r4,r5⟩
     rename_i e1;rw[aj e1]at r5;exact⟨g',e',σ',r1,r2,r3,r4,r5⟩
   | normal=>exact⟨g',e',σ',r1,r2,r3,r4,r5⟩
   | goto l=>exact⟨g',e',σ',r1,r2,r3,r4,r5⟩
   | ret=>exact⟨g',e',σ',r1,r2,r3,r4,r5⟩
   | panic ch=>exact⟨g',e',σ',r1,r2,r3,r4,r5⟩
   | outgrown=>exact r5.elim
 | loop x ih =>
   refine⟨?_,fun _ _ h=>by cases h⟩
   replace ih:=ih.1
   intro X ro wn B ac Q g w σ e a hc hw hR hE hd hB;simp only[dS,bg]at hc;obtain⟨ax,h1,rfl⟩:=hc;obtain⟨I,⟨n0,hI⟩,ag6⟩:=hw
   have key:∀ (n:Nat) (g1:aN) (w1:World) (σ1:ai) (e1:Env) (a1:Act),I n e1 σ1->Rel g1 w1 σ1->iG nt g1 w1 e1 a1.tmps->ld X B σ1 g1 w1 a1.defers->BE (.loop ax) B w1 ->
    ∀(b:Frame) (k:List Item) (cs:List Frame),b.roundOf=ro-> ∃ ex a' w',QR X nt B g1 w1 σ1 Q ex a' w'/\ArrivesIn (Machine.fenced P (WF ro)) P (lone (b.atR a1 (.code x:: .inLoop x::k)) cs w1) b k cs ex a' w':=by
    intro n
    induction n using Nat.strongRecOn with
    | _ n ihn =>
      intro g1 w1 σ1 e1 a1 hI1 hR1 yN BD Z0 b k cs hro;obtain⟨ex,a',w',hq,mP⟩:=ih X ro wn B ax _ g1 w1 σ1 e1 a1 h1 (ag6 n e1 σ1 hI1) hR1 yN BD (Z0.sub (by simp[dI.nB])) b (.inLoop x::k) cs hro trivial (Mm _ _);obtain⟨g',e',σ',r1,r2,r3,r4,r5⟩:=hq;cases ex with
      | normal =>
        obtain⟨m,hlt,Z1⟩:=r5;obtain⟨Z2,a2,w2,Od,KE⟩:=ihn m hlt g' w' σ' e' a' Z1 r2 r3 r1 (Z0.size r4.size) b k cs hro;exact⟨Z2,a2,w2,Od.step r4,.of_steps (StepsIn.trans mP (.one (Ff ro P _) stepR_inLoop)) KE⟩
      | exit id=>exact⟨_,a',w',⟨g',e',σ',r1,r2,r3,r4,r5⟩,.pass (x:= .inLoop x) rfl (fun _ _=> .inl aR) mP⟩
      | goto l=>exact⟨_,a',w',⟨g',e',σ',r1,r2,r3,r4,r5⟩,.pass (x:= .inLoop x) rfl (fun _ _=> .inl aR) mP⟩
      | ret=>exact⟨_,a',w',⟨g',e',σ',r1,r2,r3,r4,r5⟩,.pass (x:= .inLoop x) rfl (fun _ _=> .inl aR) mP⟩
      | panic ch=>exact⟨_,a',w',⟨g',e',σ',r1,r2,r3,r4,r5⟩,.pass (x:= .inLoop x) rfl (fun _ _=> .inl aR) mP⟩
      | outgrown=>exact r5.elim
   intro b k cs hro hF hr;obtain⟨ex,a',w',hq,mP⟩:=key _ g w σ e a hI hR hE hd hB b k cs hro;exact⟨ex,a',w',hq,.of_steps (.one (Ff ro P _) stepR_loop) mP⟩
 | exit id=>exact⟨fun X ro wn B ac Q g w σ e a hc hw hR hE hd hB=>by cases hc;exact wpIn_exit ⟨g,e,σ,hd,hR,hE,.refl _ _ _,hw⟩,fun _ _ h=>by cases h⟩
 | ret=>exact⟨fun X ro wn B ac Q g w σ e a hc hw hR hE hd hB=>by cases hc;exact wpIn_ret ⟨g,e,σ,hd,hR,hE,.refl _ _ _,hw⟩,fun _ _ h=>by cases h⟩
 | rangeFunc f ps x y zV xK=>exact⟨fun _ _ _ _ _ _ _ _ _ _ _ hc=>(by cases hc),fun _ _ h=>by cases h⟩
 | refuse s=>exact⟨fun X ro wn B ac Q g w σ e a hc hw=>(by cases hc;exact hw.elim),fun _ _ h=>by cases h⟩
 | goto l=>exact⟨fun X ro wn B ac Q g w σ e a hc hw hR hE hd hB=>by cases hc;exact wpIn_goto ⟨g,e,σ,hd,hR,hE,.refl _ _ _,hw⟩,fun _ _ h=>by cases h⟩
 | label l =>
   refine⟨fun X ro wn B ac Q g w σ e a hc hw hR hE hd hB=>by cases hc;exact wpIn_label ⟨g,e,σ,hd,hR,hE,.refl _ _ _,hw⟩,fun l' rest hf=>?_⟩;simp only[findLabel]at hf;split at hf
   ·cases hf;exact KD
   ·cases hf
 | scope x ih =>
   refine⟨?_,fun _ _ h=>by cases h⟩;intro X ro wn B ac Q g w σ e a hc hw hR hE hd hB;simp only[dS]at hc;split at hc
   ·rename_i ax h1;split at hc
    ·rename_i l _;split at hc
     ·rename_i ar h2;cases hc;obtain⟨rest,hf,hcr⟩:=Rs x ax ar h1 h2;have hs:=ih.2 l rest hf;obtain⟨J,ag7,KG⟩:=hw;intro b k cs hro hF hr;have HV:∀ m:Machine,m.fenced P (WF ro):=Ff ro P;have hg:gotoIn l (.inScope x::k)=some (.code rest:: .inScope x::k):=by simp[gotoIn,hf]
      have key:∀ (n:Nat) (g1:aN) (w1:World) (σ1:ai) (e1:Env) (a1:Act),J n e1 σ1->Rel g1 w1 σ1->iG nt g1 w1 e1 a1.tmps->ld X B σ1 g1 w1 a1.defers->BE ax B w1 ->
       ∃ ex a' w',QR X nt B g1 w1 σ1 Q ex a' w'/\ArrivesIn (Machine.fenced P (WF ro)) P (lone (b.atR a1 (.code rest:: .inScope x::k)) cs w1) b k cs ex a' w':=by
       intro n
       induction n using Nat.strongRecOn with
       | _ n ihn =>
         intro g1 w1 σ1 e1 a1 hJ1 hR1 yN BD Z0;obtain⟨ex,a',w',hq,mP⟩:=hs X ro wn B ar _ g1 w1 σ1 e1 a1 hcr (KG n e1 σ1 hJ1) hR1 yN BD (Z0.sub (ZX ax l ar h2)) b (.inScope x::k) cs hro trivial (Mm _ _);obtain⟨g',e',σ',r1,r2,r3,r4,r5⟩:=hq;cases ex with
         | normal=>exact⟨.normal,a',w',⟨g',e',σ',r1,r2,r3,r4,r5⟩,StepsIn.trans mP (.one (HV _) D3)⟩
         | exit id=>exact⟨.exit id,a',w',⟨g',e',σ',r1,r2,r3,r4,r5⟩,fun k' hk=>mP.1 k' (by simp[exitTo,hk]),fun BG hk=>mP.2 BG (by simp[exitTo,hk])⟩
         | goto l' =>
           obtain⟨rfl,m,hlt,hJ2⟩:=r5;obtain⟨Z2,a2,w2,Od,KE⟩:=ihn m hlt g' w' σ' e' a' hJ2 r2 r3 r1 (Z0.size r4.size);exact⟨Z2,a2,w2,Od.step r4,.of_steps (mP.1 _ hg) KE⟩
         | ret=>exact⟨.ret,a',w',⟨g',e',σ',r1,r2,r3,r4,r5⟩,mP⟩
         | panic ch=>exact⟨.panic ch,a',w',⟨g',e',σ',r1,r2,r3,r4,r5⟩,mP⟩
         | outgrown=>exact r5.elim
      obtain⟨ex,a',w',hq,mP⟩:=ih.1 X ro wn B ax _ g w σ e a h1 ag7 hR hE hd (hB.sub (by simp[dI.nB])) b (.inScope x::k) cs hro trivial (Mm _ _);obtain⟨g',e',σ',r1,r2,r3,r4,r5⟩:=hq;cases ex with
      | normal=>exact⟨.normal,a',w',⟨g',e',σ',r1,r2,r3,r4,r5⟩,.head (HV _) qw (StepsIn.trans mP (.one (HV _) D3))⟩
      | exit id=>exact⟨.exit id,a',w',⟨g',e',σ',r1,r2,r3,r4,r5⟩,fun k' hk=> .head (HV _) qw (mP.1 k' (by simp[exitTo,hk])),fun BG hk=>let ⟨k1,p1,p2⟩:=mP.2 BG (by simp[exitTo,hk]);⟨k1,p1,.head (HV _) qw p2⟩⟩
      | goto l' =>
        obtain⟨rfl,n0,hJ2⟩:=r5;obtain⟨Z2,a2,w2,Od,KE⟩:=key _ g' w' σ' e' a' hJ2 r2 r3 r1 ((hB.sub (by simp[dI.nB])).size r4.size);exact⟨Z2,a2,w2,Od.step r4,.of_steps (.head (HV _) qw (mP.1 _ hg)) KE⟩
      | ret=>exact⟨.ret,a',w',⟨g',e',σ',r1,r2,r3,r4,r5⟩,.of_steps (.one (HV _) qw) mP⟩
      | panic ch=>exact⟨.panic ch,a',w',⟨g',e',σ',r1,r2,r3,r4,r5⟩,.of_steps (.one (HV _) qw) mP⟩
      | outgrown=>exact r5.elim
     ·cases hc
    ·cases hc
   ·cases hc
def x3{nt:Nat}{h:Hints}(c:Code): Sound P nt h c:=(Ub c).1
inductive pO where
 | tmp (t:Nat)
 | cell (t:Nat) (ag:Bool) (n:Nat)
structure Xq where
 nt:Nat
 results:List pO
 body:dI
def lQ(P:Program)(nt:Nat): List ResultVar->Option (List pO)
 | []=>some []
 | .tmp t::r=>if t<nt then(lQ P nt r).map (.tmp t:: ·)else none
 | .cell a t :: r => match mO P t, P.info? t with
   | some ag,some i=>if a<nt && (ag || i.size==1)then (lQ P nt r).map (.cell a ag i.size:: ·)else none
   | _,_=>none
def yQ(P:Program)(h:Hints)(fn:Func): Option Xq :=
 match fn.body with
 | some c => match dS P fn.ntmps h false c, lQ P fn.ntmps fn.results.toList with
   | some b,some rs=>some ⟨fn.ntmps,rs,b⟩
   | _,_=>none
 | none=>none
def mh(e:Env)(σ : ai): List pO->(List AV->Prop)->Prop
 | [],K=>K []
 | .tmp t::r,K=>mh e σ r fun vs=>K (e t::vs)
 | .cell t ag n::r,K=>iP σ ag n (e t) fun v=>mh e σ r fun vs=>K (v::vs)
def oneOf: List AV->AV
 | [v]=>v
 | vs=> .bR vs
def I6(rs:List pO)(R:Out->ai->Prop): AQ
 | .normal,e,σ=>mh e σ rs fun vs=>R (.ret (oneOf vs)) σ
 | .ret,e,σ=>mh e σ rs fun vs=>R (.ret (oneOf vs)) σ
 | .panic v,_,σ=>R (.panic v) σ
 | _,_,_=>False
def kU(args:List AV): Env:=fun n=>args.getD n .undef
def Oe {nt : Nat} {g : aN} {w : World} {σ : ai} {e : Env} {tmps : Array Value} (hR : Rel g w σ) (hE : iG nt g w e tmps) : ∀ (rv : List ResultVar) (rs : List pO) (K : List AV -> Prop), lQ P nt rv = some rs -> mh e σ rs K ->
    ∃ (vf : List AV) (us : List Value), (rv.mapM fun (r : ResultVar) => (match r with
      | ResultVar.tmp t=>pure (tmps.getD t Go.undef)
      | ResultVar.cell a t=>do loadVar t (← asAddr (tmps.getD a Go.undef)):Sem Value)).run P w=Result.ok us w/\vf.length=us.length/\(∀ i,i<vf.length->VR g w (vf.getD i .undef) (us.getD i Go.undef))/\K vf:=by
 intro rv
 induction rv with
 | nil=>intro rs K h hK;cases h;exact⟨[],[],rfl,rfl,fun i hi=>absurd hi (Nat.not_lt_zero _),hK⟩
 | cons r rv ih =>
   intro rs K h hK;cases r with
   | tmp t =>
     simp only[lQ]at h;split at h
     ·rename_i ht;simp only[bg]at h;obtain⟨rs',h1,rfl⟩:=h;obtain⟨vf,us,r1,r2,r3,r4⟩:=ih rs' _ h1 hK;refine⟨e t::vf,tmps.getD t Go.undef::us,?_,by simp[r2],fun i hi=>?_,r4⟩
      ·rw[List.mapM_cons,Sem.run_bind];simp only[Sem.run_pure,Result.andThen_ok,Sem.run_bind,r1]
      ·cases i with
       | zero=>simpa using hE.rel t ht
       | succ i=>simpa using r3 i (by simpa using hi)
     ·cases h
   | cell a t =>
     simp only[lQ]at h;split at h
     ·rename_i ag ti hA hi;split at h
      ·rename_i hh;simp only[aD,aM,cH,beq_iff_eq]at hh;simp only[bg]at h;obtain⟨rs',h1,rfl⟩:=h
       have hone:ag=false->ti.size=1:=fun e1=>by
        rcases hh.2 with h|h
        ·rw[e1]at h;cases h
        exact h
       have hv:=hE.rel a hh.1;obtain⟨u,av,l1,l2,l3⟩:=NU (P:=P) hR hA hi hone hv hK
       obtain⟨A,xJ⟩:∃ A,tmps.getD a Go.undef = .pointer (some A):=by
        simp only[mh]at hK;generalize e a=p at hv hK;generalize tmps.getD a Go.undef=pv at hv;cases hv<;>simp only[iP]at hK
        ·rename_i h;obtain⟨_,A,h,_⟩:=h;exact⟨A,h⟩
        ·exact⟨_,rfl⟩
        rename_i h;obtain⟨_,_,A,h,_⟩:=h;exact⟨A,h⟩
       obtain⟨vf,us,r1,r2,r3,r4⟩:=ih rs' _ h1 l3;refine⟨av::vf,u::us,?_,by simp[r2],fun i hi=>?_,r4⟩
       ·rw[xJ]at l1;simp only[Instr.loadAt,Instr.sureAddr,Sem.run_bind,Sem.run_pure,Result.andThen_ok]at l1;have ha:(asAddr (tmps.getD a Go.undef)).run P w = .ok A w:=by rw[xJ];rfl
        rw[List.mapM_cons,Sem.run_bind];simp only[Sem.run_bind,ha,Result.andThen_ok,l1,r1,Sem.run_pure]
       ·cases i with
        | zero=>simpa using l2
        | succ i=>simpa using r3 i (by simpa using hi)
      ·cases h
     ·cases h
def AY{fn:Func}{tmps:Array Value}{us:List Value}{w:World} (h:(fn.results.toList.mapM fun(r:ResultVar)=>(match r with
 | ResultVar.tmp t=>pure (tmps.getD t Go.undef)
 | ResultVar.cell a t => do loadVar t (← asAddr (tmps.getD a Go.undef)) : Sem Value)).run P w = Result.ok us w) :
    (results fn tmps).run P w = .ok (if h:us.toArray.size=1 then us.toArray[0]else .tuple us.toArray) w:=by
 unfold results;rw[Array.mapM_eq_mapM_toList];simp only[Sem.run_bind,Sem.run_map];exact(bj (fun r:Result (List Value)=>(r.andThen fun a w'=>Result.ok a.toArray w').andThen fun a w'=>Sem.run P (pure (if h:a.size=1 then a[0]else Value.tuple a):Sem Value) w') h).trans rfl
def q8 {nt : Nat} {fn : Func} {tmps : Array Value} {R : Ending -> World -> Prop} {g0 : aN} {w0 : World} {nI : ai} {g : aN} {σ : ai} {e : Env} {u : FrameMode} {X : List Deferred} (hu : u ≠ .run) : ∀ (ds : List Deferred) (w : World),
    yM (fun D=>w0.heap.size<=D) σ g w ds->Rel g w σ->iG nt g w e tmps->gk nI g0 w0 σ g w->(∀ w2,Rel g w2 σ->iG nt g w2 e tmps->gk nI g0 w0 σ g w2->kD g w g w2->LeavesInM (WF none) 0 P fn tmps R X u w2)->LeavesInM (WF none) 0 P fn tmps R (ds++X) u w
 | [],w,_,hR,hE,hv,I7=>I7 w hR hE hv (.refl _ _)
 | d :: ds, w, hd, hR, hE, hv, I7 => by
   obtain⟨D,h1,h2,h3,h4,h5⟩:=hd.mark d aR;obtain⟨r1,r2,r3⟩:=hR.agI (w':=w.putObj D (.deferred none)) hv h2 h4 h5 aR rfl rfl rfl (fun c hc=>World.putObj_heap_other hc);refine⟨hu,.inl ⟨D,_,by rw[h1],run_takeDeferred h3,q8 hu ds _ ⟨(List.nodup_cons.1 hd.nodup).2,fun d' hd'=>?_⟩ r1 (hE.mono r3) r2 (fun w2 a1 a2 a3 a4=>I7 w2 a1 a2 a3 (r3.trans a4))⟩⟩;obtain⟨D',k1,k2,k3,k4,k5⟩:=hd.mark d' (by simp[hd']);refine⟨D',k1,k2,(World.putObj_heap_other (fun e=>?_)).trans k3,k4,k5⟩;subst e;exact(List.nodup_cons.1 hd.nodup).1 (by rw[h1,<-k1];exact hd')
def VC{g:aN}{w:World}{vf:List AV}{us:List Value}(r2:vf.length=us.length)(r3:∀ i,i<vf.length->VR g w (vf.getD i .undef) (us.getD i Go.undef)): VR g w (oneOf vf) (if h:us.toArray.size=1 then us.toArray[0]else .tuple us.toArray):=by
 match vf,us,r2,r3 with
 | [av],[u],_,r3=>simpa[oneOf]using r3 0 aR
 | [],[],_,r3=>exact .bR [] #[] rfl (fun i hi=>absurd hi (c9 _))
 | a1 :: a2 :: az, u1 :: u2 :: us, r2, r3 =>
   have:¬ (u1::u2::us).toArray.size=1:=aR;rw[dif_neg this];exact .bR _ _ (by simpa using r2) (fun i hi=>by simpa using r3 i hi)
def HW {nt : Nat} {fn : Func} {rs : List pO} {g : aN} {w : World} {σ : ai} {R : Out -> ai -> Prop} {ex : Exit} {a : Act} {w' : World} (Og : lQ P nt fn.results.toList = some rs)
    (h:QR [] nt (fun D=>w.heap.size<=D) g w σ (I6 rs R) ex a w'):bodyPostM (WF none) 0 P fn (fun e w'=> ∃ out g' σ',Rel g' w' σ'/\gk σ g w σ' g' w'/\AN g' w' out e/\R out σ') ex a w':=by
 obtain⟨g',e',σ',⟨ms,yR,h1⟩,h2,h3,h4,h5⟩:=h
 have done:mh e' σ' rs (fun vs=>R (.ret (oneOf vs)) σ')->LeavesInM (WF none) 0 P fn a.tmps (fun e w'=> ∃ out g' σ',Rel g' w' σ'/\gk σ g w σ' g' w'/\AN g' w' out e/\R out σ') a.defers .returning w':=fun hres=>by
  rw[yR];refine q8 aR ms w' h1 h2 h3 h4 (fun w2 h2 h3 h4 _=>?_);obtain⟨vf,us,r1,r2,r3,r4⟩:=Oe (P:=P) h2 h3 fn.results.toList rs _ Og hres;exact⟨_,AY r1,.ret (oneOf vf),g',σ',h2,h4,VC r2 r3,r4⟩
 cases ex with
 | normal=>exact done h5
 | ret=>exact done h5
 | panic chain =>
   obtain⟨v,av,rfl,hv,hq⟩:=h5;show LeavesInM (WF none) 0 P fn a.tmps _ a.defers _ w';rw[yR];exact q8 aR ms w' h1 h2 h3 h4 (fun w2 h2 h3 h4 hm=>⟨.panic av,g',σ',h2,h4,⟨v,rfl,hv.mono hm⟩,hq⟩)
 | exit id=>exact h5.elim
 | goto l=>exact h5.elim
 | outgrown=>exact h5.elim
def cK.of_wp {f : FuncId} {fn : Func} {h : Hints} {af : Xq} {args : List AV} {σ : ai} {R : Out → ai → Prop} (hf : P.funcs[f]? = some fn) (hn : (fn.name == "runtime.NumGoroutine") = false) (hc : yQ P h fn = some af)
    (hl:args.length<=af.nt) (hw:jF P af.body (I6 af.results R) (kU args) σ):cK P f args σ R:=by
 unfold yQ at hc;split at hc
 ·rename_i c hb;split at hc
  ·rename_i b rs h1 h2;cases hc;refine⟨⟨fn,hf,by simp[hb],hn⟩,fun g w vs hR hlen hv=>?_⟩;refine Mn.1 (callsIn_of_wp_marks (F:=WF none) (n:=0) hf hb trivial (wpIn_mono (x3 c [] none 0 (fun D=>w.heap.size<=D) b _ g w σ (kU args) _ h1 hw hR ⟨?_,fun t ht=>?_⟩ (ld.nil _ _ _ _ _) (BE.at _ _)) fun ex a w' hq=>HW h2 hq))
   ·simp only at hl;simp;omega
   by_cases h:t<args.length
   ·have h3:t<vs.size:=ae;have:=hv t h;simp only[kU];rw[eW,e8 h3];simpa using this
   have:kU args t = .undef:=by simp[kU,iy (ja h)]
   rw[this];exact .undef _
  ·cases hc
 ·cases hc
end
variable {P:Program}
universe u
inductive Tg {α : Sort u} (K : α):Type where
 | mk
def kj(v:AV){K:AV->Prop}(_:Tg K): Prop:=K v
def wh(σ : ai){K:ai->Prop}(_:Tg K): Prop:=K σ
@[go_sem] def ak7 (v:AV) (K:AV->Prop):kj v (.mk:Tg K)=K v:=_root_.id rfl
@[go_sem] def ak8 (v:ai) (K:ai->Prop):wh v (.mk:Tg K)=K v:=_root_.id rfl
def req(p:Prop){K:Prop}(_:Tg K): Prop:=p/\(p->K)
def G5{p K:Prop}(h:p)(hk:p->K): req p (.mk:Tg K):=⟨h,hk⟩
@[go_sem] def ak9 (K:Prop):req True (.mk:Tg K)=K:=by simp[req]
def dH(p K:Prop): (p/\K)=req p (.mk:Tg K):=by simp only[req];exact propext ⟨fun h=>⟨h.1,fun _=>h.2⟩,fun h=>⟨h.1,h.2 h.1⟩⟩
@[go_sem ↓] def an_ (e:Env) (n:Nat):AX.ev e (.t n)=e n:=_root_.id rfl
@[go_sem ↓] def aoa (e:Env) (a:AV):AX.ev e (.c a)=a:=_root_.id rfl
def KH(c:Bool){a b:AV}(_:Tg (a,b)): AV:=if c then a else b
@[go_sem] def amM (a b:AV):KH true (.mk:Tg (a,b))=a:=_root_.id rfl
@[go_sem] def amN (a b:AV):KH false (.mk:Tg (a,b))=b:=_root_.id rfl
@[go_sem ↓] def amO (e : Env) (d : Nat) (v : AV) (n : Nat) : eP e (some d) v n = KH (n == d) (.mk : Tg (v, e n)) := by
  simp only[eP,KH,beq_iff_eq]
@[go_sem ↓] def ak_ (e:Env) (v:AV):eP e none v=e:=_root_.id rfl
@[go_sem] def ajl (a:AV) (az:List AV):kU (a::az) 0=a:=_root_.id rfl
@[go_sem] def ajm (a:AV) (az:List AV) (n:Nat):kU (a::az) (n+1)=kU az n:=_root_.id rfl
def CZ(v:AV){T E:Prop}(_:Tg (T,E)): Prop :=
 match v with
 | .bool t=>(t=true->T)/\(t=false->E)
 | _=>False
@[go_sem] def ajn (T E:Prop):CZ (.bool true) (.mk:Tg (T,E))=T:=by simp[CZ]
@[go_sem] def aiM (T E:Prop):CZ (.bool false) (.mk:Tg (T,E))=E:=by simp[CZ]
def afn{t:Bool}{T E:Prop}(h:t=true->T)(h':t=false->E): CZ (.bool t) (.mk:Tg (T,E)):=⟨h,h'⟩
@[go_sem ↓] def ala (Q:AQ) (e:Env) (σ : ai):jF P .skip Q e σ = Q .normal e σ:=_root_.id rfl
@[go_sem ↓] def ajo (ops:List cW) (Q:AQ) (e:Env) (σ : ai):jF P (.region ops) Q e σ = fh P Q ops e σ:=_root_.id rfl
@[go_sem ↓] def alb (ops:List cW) (kf:List (AX × AX)) (Q:AQ) (e:Env) (σ : ai):jF P (.draw ops kf) Q e σ = fh P (jK kf Q) ops e σ:=_root_.id rfl
@[go_sem ↓] def amP (a b:dI) (Q:AQ) (e:Env) (σ : ai):jF P (.seq a b) Q e σ = jF P a (mD (jF P b Q) Q) e σ:=_root_.id rfl
@[go_sem ↓] def alc (c:AX) (a b:dI) (Q:AQ) (e:Env) (σ : ai):jF P (.cond c a b) Q e σ = CZ (c.ev e) (.mk:Tg (jF P a Q e σ,jF P b Q e σ)):=_root_.id rfl
@[go_sem ↓] def aj9 (id:Nat) (c:dI) (Q:AQ) (e:Env) (σ : ai):jF P (.block id c) Q e σ = jF P c (uw id Q) e σ:=_root_.id rfl
@[go_sem ↓] def ald (id:Nat) (Q:AQ) (e:Env) (σ : ai):jF P (.exit id) Q e σ = Q (.exit id) e σ:=_root_.id rfl
@[go_sem ↓] def amQ (Q:AQ) (e:Env) (σ : ai):jF P .ret Q e σ = Q .ret e σ:=_root_.id rfl
@[go_sem ↓] def aj_ (l:Nat) (Q:AQ) (e:Env) (σ : ai):jF P (.label l) Q e σ = Q .normal e σ:=_root_.id rfl
@[go_sem ↓] def ale (l:Nat) (Q:AQ) (e:Env) (σ : ai):jF P (.goto l) Q e σ = Q (.goto l) e σ:=_root_.id rfl
def Xr{c:dI}{Q:AQ}{e:Env}{σ : ai}(P:Program)(_:Tg (c,Q,e,σ)): Prop:=aeJ (jF P c) Q e σ
@[go_sem ↓] def alf (c:dI) (Q:AQ) (e:Env) (σ : ai):jF P (.loop c) Q e σ = Xr P (.mk:Tg (c,Q,e,σ)):=_root_.id rfl
def Rt{l:Nat}{c r:dI}{Q:AQ}{e:Env}{σ : ai}(P:Program)(_:Tg (l,c,r,Q,e,σ)): Prop:=ZI l (jF P c) (jF P r) Q e σ
@[go_sem ↓] def akb (l:Nat) (c r:dI) (Q:AQ) (e:Env) (σ : ai):jF P (.scope l c r) Q e σ = Rt P (.mk:Tg (l,c,r,Q,e,σ)):=_root_.id rfl
@[go_sem ↓] def ag8 (K:Env->ai->Prop) (Q:AQ) (e:Env) (σ : ai):mD K Q .normal e σ = K e σ:=_root_.id rfl
@[go_sem ↓] def ajp (K:Env->ai->Prop) (Q:AQ) (i:Nat) (e:Env) (σ : ai):mD K Q (.exit i) e σ = Q (.exit i) e σ:=_root_.id rfl
@[go_sem ↓] def akc (K:Env->ai->Prop) (Q:AQ) (e:Env) (σ : ai):mD K Q .ret e σ = Q .ret e σ:=_root_.id rfl
@[go_sem ↓] def ajq (K:Env->ai->Prop) (Q:AQ) (l:Nat) (e:Env) (σ : ai):mD K Q (.goto l) e σ = Q (.goto l) e σ:=_root_.id rfl
@[go_sem ↓] def aiN (K:Env->ai->Prop) (Q:AQ) (v:AV) (e:Env) (σ : ai):mD K Q (.panic v) e σ = Q (.panic v) e σ:=_root_.id rfl
@[go_sem ↓] def agB (id:Nat) (Q:AQ) (e:Env) (σ : ai):uw id Q .normal e σ = Q .normal e σ:=_root_.id rfl
@[go_sem ↓] def ajr (id:Nat) (Q:AQ) (e:Env) (σ : ai):uw id Q .ret e σ = Q .ret e σ:=_root_.id rfl
@[go_sem ↓] def ag9 (id:Nat) (Q:AQ) (v:AV) (e:Env) (σ : ai):uw id Q (.panic v) e σ = Q (.panic v) e σ:=_root_.id rfl
def G6(c:Bool){T E:Prop}(_:Tg (T,E)): Prop:=if c then T else E
@[go_sem] def amR (T E:Prop):G6 true (.mk:Tg (T,E))=T:=by simp[G6]
@[go_sem] def amS (T E:Prop):G6 false (.mk:Tg (T,E))=E:=by simp[G6]
@[go_sem ↓] def aiO (id i : Nat) (Q : AQ) (e : Env) (σ : ai) : uw id Q (.exit i) e σ = G6 (i == id) (.mk : Tg (Q .normal e σ, Q (.exit i) e σ)) := by
  simp only[uw,G6,beq_iff_eq]
@[go_sem ↓] def ag_ (kf:List (AX × AX)) (Q:AQ) (e:Env) (σ : ai):jK kf Q .normal e σ = req (qY kf e) (.mk:Tg (Q .normal e σ)):=dH _ _
@[go_sem ↓] def aiP (Q:AQ) (v:AV) (e:Env) (σ : ai):jK [] Q (.panic v) e σ = Q (.panic v) e σ:=_root_.id rfl
@[go_sem ↓] def aha (Q:AQ) (v:AV) (e:Env) (σ : ai):jK [(.c .iZ,.c .iZ)] Q (.panic v) e σ = ∀ e',Q (.panic v) e' σ:=_root_.id rfl
@[go_sem ↓] def ajs (Q:AQ) (e:Env) (σ : ai):fh P Q [] e σ = Q .normal e σ:=_root_.id rfl
@[go_sem ↓] def aiQ (Q:AQ) (o:bA) (d:Option Nat) (r:List cW) (e:Env) (σ : ai) :
 fh P Q (⟨o,d,none⟩::r) e σ = o.run P e σ (fun v σ'=>kj v (.mk:Tg fun v=>wh σ' (.mk:Tg fun σ'=>fh P Q r (eP e d v) σ'))) (fun v σ'=>Q (.panic v) e σ'):=rfl
def od(v:AV)(b:Bool){T E U:Prop}(_:Tg (T,E,U)): Prop :=
 match v with
 | .bool t=>(t=b->T)/\(t = !b->E)
 | .bR []=>U
 | _=>False
@[go_sem] def akd (T E U:Prop):od (.bool true) true (.mk:Tg (T,E,U))=T:=by simp[od]
@[go_sem] def ake (T E U:Prop):od (.bool false) false (.mk:Tg (T,E,U))=T:=by simp[od]
@[go_sem] def akf (T E U:Prop):od (.bool true) false (.mk:Tg (T,E,U))=E:=by simp[od]
@[go_sem] def akg (T E U:Prop):od (.bool false) true (.mk:Tg (T,E,U))=E:=by simp[od]
@[go_sem] def alg (b:Bool) (T E U:Prop):od (.bR []) b (.mk:Tg (T,E,U))=U:=by simp[od]
def acs{t b:Bool}{T E U:Prop}(h:t=b->T)(h':t = !b->E): od (.bool t) b (.mk:Tg (T,E,U)):=⟨h,h'⟩
@[go_sem ↓] def ahb (Q:AQ) (o:bA) (d:Option Nat) (k:Nat) (b:Bool) (r:List cW) (e:Env) (σ : ai) :
 fh P Q (⟨o,d,some (k,b)⟩::r) e σ = od (e k) b (.mk:Tg (o.run P (eP e (some k) (.bool b)) σ (fun v σ'=>kj v (.mk:Tg fun v=>wh σ' (.mk:Tg fun σ'=>fh P Q r (eP (eP e (some k) (.bool b)) d v) σ'))) (fun v σ'=>Q (.panic v) (eP e (some k) (.bool b)) σ'),
  fh P Q r (eP (eP e (some k) (.bool (!b))) d (.bR [])) σ,fh P Q r (eP e d (.bR [])) σ)):=by
  simp only[fh,od,kj,wh];cases e k<;>rfl
section
variable (e:Env) (σ : ai) (K Kp:AV->ai->Prop)
@[go_sem ↓] def anB (x:AX):bA.run P (.mv x) e σ K Kp=K (x.ev e) σ:=_root_.id rfl
@[go_sem ↓] def akh (cs:List AV):bA.run P (.alloc none cs) e σ K Kp=K (.ref σ.length 0) (σ++[.cells cs]):=_root_.id rfl
@[go_sem ↓] def ajt (T:TypeId) (cs:List AV):bA.run P (.alloc (some T) cs) e σ K Kp=K (.ref σ.length 0) (σ++[.bV (some T) cs]):=_root_.id rfl
@[go_sem ↓] def aki (el:El):bA.run P (.lu el) e σ K Kp=K (.own el σ.length 0 0 0) (σ++[.vec el []]):=_root_.id rfl
def aeK(T:TypeId)(v:AV)(σ : ai){K:AV->ai->Prop}(_:Tg K): Prop:=v.cells.all AV.scalar=true/\K (.ref σ.length 0) (σ++[.bV (some T) v.cells])
@[go_sem ↓] def alh (T:TypeId) (x:AX):bA.run P (.yI T x) e σ K Kp=aeK T (x.ev e) σ (.mk:Tg K):=_root_.id rfl
@[go_sem] def ali (T:TypeId) (v:AV) (K:AV->ai->Prop):aeK T v σ (.mk:Tg K)=req (v.cells.all AV.scalar=true) (.mk:Tg (K (.ref σ.length 0) (σ++[.bV (some T) v.cells]))):=dH _ _
@[go_sem ↓] def akj (t:TypeId) (x:AX):bA.run P (.v7 t x) e σ K Kp=K (.kR t (x.ev e)) σ:=_root_.id rfl
@[go_sem ↓] def alj (f:Fn) (a b:List AX):bA.run P (.tJ f a b) e σ K Kp=K (.fn f (a.map (AX.ev e)) (b.map (AX.ev e))) σ:=_root_.id rfl
def yI(v:AV)(σ : ai){K:AV->ai->Prop}(_:Tg K): Prop:=v.cells.all AV.scalar=true/\K (.ref σ.length 0) (σ++[.cells v.cells])
@[go_sem ↓] def amT (x:AX):bA.run P (.box x) e σ K Kp=yI (x.ev e) σ (.mk:Tg K):=_root_.id rfl
def Xs(c a b:AV){K:AV->Prop}(_:Tg K): Prop:=match c with | .bool t=>K (if t then a else b)|_=>False
@[go_sem ↓] def alk (c a b : AX) : bA.run P (.pick c a b) e σ K Kp = Xs (c.ev e) (a.ev e) (b.ev e) (.mk : Tg fun v => K v σ) := by
  simp only[bA.run,Xs];rfl
def loadT(σ : ai)(ag:Bool)(n:Nat)(p:AV){K:AV->Prop}(_:Tg K): Prop:=iP σ ag n p K
def storeT(σ : ai)(n:Nat)(p v:AV){K:ai->Prop}(_:Tg K): Prop:=nX σ n p v K
def jg(op:BinOp)(x y:AV){K:AV->Prop}(_:Tg K): Prop:=kE op x y K
def unT(op:UnOp)(x:AV){K:AV->Prop}(_:Tg K): Prop:=ED op x K
@[go_sem ↓] def run_load (ag:Bool) (n:Nat) (x:AX):bA.run P (.load ag n x) e σ K Kp=loadT σ ag n (x.ev e) (.mk:Tg fun v=>K v σ):=_root_.id rfl
@[go_sem ↓] def run_store (n:Nat) (x v:AX):bA.run P (.store n x v) e σ K Kp=storeT σ n (x.ev e) (v.ev e) (.mk:Tg fun σ'=>K (.bR []) σ'):=_root_.id rfl
@[go_sem ↓] def amU (op:BinOp) (x y:AX):bA.run P (.bin op x y) e σ K Kp=jg op (x.ev e) (y.ev e) (.mk:Tg fun v=>K v σ):=_root_.id rfl
@[go_sem ↓] def anC (op:UnOp) (x:AX):bA.run P (.un op x) e σ K Kp=unT op (x.ev e) (.mk:Tg fun v=>K v σ):=_root_.id rfl
def Mu (s : Bool) (x : AV) {K : AV -> Prop} (_ : Tg K) : Prop := match s, x with
    | true,.str s=>K (.int .i64 s.length)
    | false,.aU=>K (.int .i64 0)
    | false,.aS _ _ xs=>K (.int .i64 xs.length)
    | false,.own _ _ _ _ n=>K (.int .i64 n)
    | _,_=>False
@[go_sem ↓] def amV (s : Bool) (x : AX) : bA.run P (.len s x) e σ K Kp = Mu s (x.ev e) (.mk : Tg fun v => K v σ) := by
  simp only[bA.run,Mu];rfl
def acu(x:AV)(i:Nat){K:AV->Prop}(_:Tg K): Prop:=match x with | .bR vs=>i<vs.length/\K (vs.getD i .undef)|_=>False
@[go_sem ↓] def amW (x : AX) (i : Nat) : bA.run P (.ext x i) e σ K Kp = acu (x.ev e) i (.mk : Tg fun v => K v σ) := by
  simp only[bA.run,acu];rfl
def C0(op:Bool)(x:AV)(xs:List AV){K:AV->Prop}(_:Tg K): Prop:=tu op x xs K
@[go_sem ↓] def amX (x:AX) (xs:List AX):bA.run P (.min x xs) e σ K Kp=C0 true (x.ev e) (xs.map (AX.ev e)) (.mk:Tg fun v=>K v σ):=_root_.id rfl
@[go_sem ↓] def amY (x:AX) (xs:List AX):bA.run P (.max x xs) e σ K Kp=C0 false (x.ev e) (xs.map (AX.ev e)) (.mk:Tg fun v=>K v σ):=_root_.id rfl
def Mv(K Kp:AV->ai->Prop): Out->ai->Prop
 | .ret r,σ=>K r σ
 | .panic r,σ=>Kp r σ
def G7 (P : Program) (q : Bool) (f : AV) (args : List AV) (σ : ai) {K Kp : AV -> ai -> Prop} (_ : Tg (K, Kp)) : Prop := match f with
    | .fn (.func n) first cap =>
      if q then ∃ r,(∀ τ,kK P n (first++args++cap) (σ++ τ) r)/\K r σ
      else cK P n (first++args++cap) σ (Mv K Kp)
    | .qR l=>if q then False else wD P l args σ (Mv K Kp)
    | _=>False
@[go_sem ↓] def alm (q : Bool) (f : AX) (args : List AX) : bA.run P (.call q f args) e σ K Kp = G7 P q (f.ev e) (args.map (AX.ev e)) σ (.mk : Tg (K, Kp)) := by
  simp only[bA.run,G7];rfl
def Qy(P:Program)(n:FuncId)(args:List AV)(σ : ai){K Kp:AV->ai->Prop}(_:Tg (K,Kp)): Prop :=
 ∃ o,(∀ s,cK P n args s fun o' s'=>o'=o/\s'=s)/\pcK (fun r=>K r σ) (fun v=> ∀ s,Kp v s) o
@[go_sem ↓] def anD (n:FuncId) (args:List AX):bA.run P (.ex (.pc n) args) e σ K Kp=Qy P n (args.map (AX.ev e)) σ (.mk:Tg (K,Kp)):=_root_.id rfl
def Fg{n:Int}(h : -9223372036854775808<=n)(h':n<=9223372036854775807): di .i64 n=n:=IntWalk.i64_in n ⟨h,h'⟩
@[go_sem] def anE (a b:AV) (K:AV->Prop):Xs (.bool true) a b (.mk:Tg K)=kj a (.mk:Tg K):=_root_.id rfl
@[go_sem] def anF (a b:AV) (K:AV->Prop):Xs (.bool false) a b (.mk:Tg K)=kj b (.mk:Tg K):=_root_.id rfl
@[go_sem] def amZ (v:AV) (K:AV->ai->Prop):yI v σ (.mk:Tg K)=req (v.cells.all AV.scalar=true) (.mk:Tg (K (.ref σ.length 0) (σ++[.cells v.cells]))):=dH _ _
variable (k:IntKind) (a b:Int) (s t:List UInt8) (p q:Bool) (K:AV->Prop)
@[go_sem] def aln:jg .add (.int k a) (.int k b) (.mk:Tg K)=K (.int k (di k (a+b))):=by simp[jg,kE]
@[go_sem] def alo:jg .sub (.int k a) (.int k b) (.mk:Tg K)=K (.int k (di k (a-b))):=by simp[jg,kE]
@[go_sem] def alp:jg .mul (.int k a) (.int k b) (.mk:Tg K)=K (.int k (di k (a*b))):=by simp[jg,kE]
@[go_sem] def alq:jg .quo (.int k a) (.int k b) (.mk:Tg K)=req (b≠0) (.mk:Tg (K (.int k (di k (a.tdiv b))))):=by rw[<-dH];simp[jg,kE]
@[go_sem] def alr:jg .rem (.int k a) (.int k b) (.mk:Tg K)=req (b≠0) (.mk:Tg (K (.int k (a.tmod b)))):=by rw[<-dH];simp[jg,kE]
@[go_sem] def als:jg .eql (.int k a) (.int k b) (.mk:Tg K)=K (.bool (a==b)):=by simp[jg,kE]
@[go_sem] def alu:jg .neq (.int k a) (.int k b) (.mk:Tg K)=K (.bool (!(a==b))):=by simp[jg,kE]
@[go_sem] def alv:jg .lss (.int k a) (.int k b) (.mk:Tg K)=K (.bool (decide (a<b))):=by simp[jg,kE]
@[go_sem] def alw:jg .leq (.int k a) (.int k b) (.mk:Tg K)=K (.bool (decide (a<=b))):=by simp[jg,kE]
@[go_sem] def alx:jg .gtr (.int k a) (.int k b) (.mk:Tg K)=K (.bool (decide (b<a))):=by simp[jg,kE]
@[go_sem] def aly:jg .geq (.int k a) (.int k b) (.mk:Tg K)=K (.bool (decide (b<=a))):=by simp[jg,kE]
@[go_sem] def akk:jg .add (.str s) (.str t) (.mk:Tg K)=req (((s.length+t.length:Nat):Int)<=IntKind.i64.max) (.mk:Tg (K (.str (s++t)))):=by rw[<-dH];simp[jg,kE]
@[go_sem] def akl:jg .eql (.str s) (.str t) (.mk:Tg K)=K (.bool (s==t)):=by simp[jg,kE]
@[go_sem] def akm:jg .neq (.str s) (.str t) (.mk:Tg K)=K (.bool (!(s==t))):=by simp[jg,kE]
@[go_sem] def am0:unT .not (.bool p) (.mk:Tg K)=K (.bool (!p)):=_root_.id rfl
@[go_sem] def anG:Mu true (.str s) (.mk:Tg K)=K (.int .i64 s.length):=_root_.id rfl
@[go_sem] def akn:Mu false .aU (.mk:Tg K)=K (.int .i64 0):=_root_.id rfl
@[go_sem] def alz (f:Bool) (el:El) (xs:List AV):Mu false (.aS f el xs) (.mk:Tg K)=K (.int .i64 xs.length):=_root_.id rfl
@[go_sem] def alA (el:El) (l m lo n:Nat):Mu false (.own el l m lo n) (.mk:Tg K)=K (.int .i64 n):=_root_.id rfl
@[go_sem] def alB (vs:List AV) (i:Nat):acu (.bR vs) i (.mk:Tg K)=req (i<vs.length) (.mk:Tg (K (vs.getD i .undef))):=dH _ _
@[go_sem] def ako (op:Bool) (x:AV):C0 op x [] (.mk:Tg K)=K x:=_root_.id rfl
@[go_sem] def am1 (ys:List AV):C0 true (.int k a) (.int k b::ys) (.mk:Tg K)=C0 true (.int k (if b<a then b else a)) ys (.mk:Tg K):=_root_.id rfl
@[go_sem] def am2 (ys:List AV):C0 false (.int k a) (.int k b::ys) (.mk:Tg K)=C0 false (.int k (if a<b then b else a)) ys (.mk:Tg K):=_root_.id rfl
@[go_sem ↓] def alC (K:List AV->Prop):mh e σ [] K=K []:=_root_.id rfl
@[go_sem ↓] def alD (t:Nat) (r:List pO) (K:List AV->Prop):mh e σ (.tmp t::r) K=mh e σ r fun vs=>K (e t::vs):=_root_.id rfl
end
