/- Part. -/
import Derived.Test.YtmbgnaoilncbnaaGreatDoorX07
set_option linter.all false
namespace Go.AM
def c_.uses(g:c_): List Nat:=g.op.uses++(match g.guard with|some (k,_)=>[k]|none=>[])
def jH(P:Program)(Q:AQ)(g:c_)(K:Env->aj->Prop)(e:Env)(σ : aj): Prop :=
 match g.guard with
 | none=>g.op.run P e σ (fun v σ'=>K (fC e g.dst v) σ') (fun v σ'=>Q (.panic v) e σ')
 | some (k, b) => match e k with
   | .bool t => (t = b -> g.op.run P (fC e (some k) (.bool b)) σ (fun v σ' => K (fC (fC e (some k) (.bool b)) g.dst v) σ') (fun v σ' => Q (.panic v) (fC e (some k) (.bool b)) σ')) /\
      (t = !b->K (fC (fC e (some k) (.bool (!b))) g.dst (.bX [])) σ)
   | .bX []=>K (fC e g.dst (.bX [])) σ
   | _=>False
def yQ{e:Env}{k:Nat}{v:AV}(h:e k=v): fC e (some k) v=e:=by
 funext n;simp only[fC];split
 ·rename_i h1;subst h1;exact h.symm
 ·rfl
section
variable {P:Program} {Q:AQ}
def tV(g:c_)(r:List c_)(e:Env)(σ : aj): fc P Q (g::r) e σ = jH P Q g (fc P Q r) e σ:=by
 obtain⟨o,d,gd⟩:=g;cases gd with
 | none=>rfl
 | some kb=>obtain⟨k,b⟩:=kb;rfl
def c_.D(P:Program)(g:c_)(e:Env)(σ : aj)(v:AV)(σ':aj): Prop :=
 match g.guard with
 | none=>g.op.D P e σ v σ'
 | some (k, b) => match e k with
   | .bool t=>if t=b then g.op.D P e σ v σ' else v = .bX []/\σ' = σ
   | .bX []=>v = .bX []/\σ' = σ
   | _=>False
def mz{g:c_}{e:Env}{σ : aj}{v:AV}{σ':aj}(h:g.D P e σ v σ'): (g.op.D P e σ v σ'/\ ∀ s u s',g.op.D P e s u s'->g.D P e s u s')\/(v = .bX []/\σ' = σ/\ ∀ s,g.D P e s (.bX []) s):=by
 unfold c_.D at *;split at h
 ·exact .inl ⟨h,fun _ _ _ h=>h⟩
 ·split at h
  ·split at h
   ·rename_i h1 h2;simp only[if_pos h2];exact .inl ⟨h,fun _ _ _ h=>h⟩
   ·rename_i h1 h2;simp only[if_neg h2];exact .inr ⟨h.1,h.2,fun _=>⟨trivial,trivial⟩⟩
  ·exact .inr ⟨h.1,h.2,fun _=>⟨rfl,rfl⟩⟩
  ·exact h.elim
def kJ{g:c_}{K:Env->aj->Prop}{e:Env}{σ : aj}(hc:g.op.cls≠ .no): jH P Q g K e σ↔ ∃ v σ',g.D P e σ v σ'/\K (fC e g.dst v) σ':=by
 unfold jH c_.D;split
 ·exact Mh hc
 ·rename_i k b hg;split
  ·rename_i t ht;by_cases htb:t=b
   ·subst htb;rw[yQ ht];simp only[↓reduceIte];constructor
    ·exact fun h=>(Mh hc).1 (h.1 trivial)
    ·exact fun h=>⟨fun _=>(Mh hc).2 h,fun h=>by cases t<;>cases h⟩
   ·have hn:t = !b:=by cases t<;>cases b<;>simp_all
    have hs:fC e (some k) (.bool (!b))=e:=yQ (by rw[ht,hn]);simp only[if_neg htb,hs];constructor
    ·exact fun h=>⟨_,σ,⟨rfl,rfl⟩,h.2 hn⟩
    ·rintro⟨v,τ,⟨rfl,rfl⟩,h⟩;exact⟨fun h'=>absurd h' htb,fun _=>h⟩
  ·constructor
   ·exact fun h=>⟨_,σ,⟨rfl,rfl⟩,h⟩
   ·rintro⟨v,τ,⟨rfl,rfl⟩,h⟩;exact h
  ·constructor
   ·exact fun h=>h.elim
   ·exact fun⟨_,_,h,_⟩=>h.elim
def Vk{g:c_}{K K':Env->aj->Prop}{e:Env}{σ : aj}(h:∀ e σ,K e σ->K' e σ): jH P Q g K e σ->jH P Q g K' e σ:=by
 unfold jH;split
 ·exact Cy (fun v s=>h _ _) (fun _ _ h=>h)
 ·split
  ·exact fun hh=>⟨fun ht=>Cy (fun v s=>h _ _) (fun _ _ h=>h) (hh.1 ht),fun ht=>h _ _ (hh.2 ht)⟩
  ·exact h _ _
  ·exact id
def Vl{g:c_}{e e':Env}{σ : aj}{v:AV}{σ':aj}(h:∀ t ∈ g.uses,e t=e' t)(hD:g.D P e σ v σ'): g.D P e' σ v σ':=by
 have ho:∀ t ∈ g.op.uses,e t=e' t:=fun t ht=>h t (iw _ ht);unfold c_.D at *;split at hD
 ·rename_i hg;exact Yy ho hD
 ·rename_i k b hg;have hk:e k=e' k:=h k (by simp[c_.uses,hg]);rw[<-hk];split at hD
  ·split at hD
   ·rename_i h1 h2;simp only[h1,if_pos h2];exact Yy ho hD
   ·rename_i h1 h2;simp only[h1,if_neg h2];exact hD
  ·simp_all
  ·exact hD.elim
def wB{g:c_}{e:Env}{σ : aj}{v:AV}{σ':aj}(hc:g.op.cls = .pu\/g.op.cls = .rd)(hD:g.D P e σ v σ'): σ' = σ:=by
 rcases mz hD with⟨h,_⟩|⟨_,h,_⟩
 ·exact ae_ hc h
 ·exact h
def YF{g:c_}{e:Env}{σ : aj}{v:AV}{σ':aj}(hc:g.op.cls = .pu\/g.op.cls = .rd)(hD:g.D P e σ v σ')(τ : aj): g.D P e (σ++ τ) v (σ++ τ):=by
 rcases mz hD with⟨h,f⟩|⟨rfl,_,f⟩
 ·exact f _ _ _ (afa hc h τ)
 ·exact f _
def YG{g:c_}{e:Env}{σ : aj}{v:AV}{σ':aj}(hc:g.op.cls = .pu)(hD:g.D P e σ v σ')(s:aj): g.D P e s v s:=by
 rcases mz hD with⟨h,f⟩|⟨rfl,_,f⟩
 ·exact f _ _ _ (afb hc h s)
 ·exact f _
def ag_{g:c_}{e:Env}{σ : aj}{v:AV}{σ':aj}(hc:g.op.cls = .al)(hD:g.D P e σ v σ'): ∃ τ,σ' = σ++ τ:=by
 rcases mz hD with⟨h,_⟩|⟨_,h,_⟩
 ·exact aiL hc h
 ·exact⟨[],by simp[h]⟩
def aff {g : c_} {e : Env} {σ : aj} {v : AV} {σ' : aj} {l : Nat} {ob nQ : aX} {rx : Option AX} (hr : g.op.tT = some rx) (hl : σ[l]? = some ob) (Pr : ob.like nQ) (hap : ∀ x, rx = some x -> (x.ev e).obj ≠ some l) (hD : g.D P e σ v σ') :
    g.D P e (σ.set l nQ) v (σ.set l nQ):=by
 rcases mz hD with⟨h,f⟩|⟨rfl,_,f⟩
 ·exact f _ _ _ (ag6 hr hl Pr hap h)
 ·exact f _
def aha{g:c_}{e:Env}{σ : aj}{v:AV}{σ':aj}(hc:g.op.cls = .st)(hD:g.D P e σ v σ'): σ' = σ\/ ∃ y l ob nQ,g.op.vZ=some y/\σ[l]? = some ob/\ob.like nQ/\(y.ev e).obj=some l/\σ' = σ.set l nQ:=by
 rcases mz hD with⟨h,_⟩|⟨_,h,_⟩
 ·exact .inr (afc hc h)
 ·exact .inl h
def kK(d:Option Nat)(l:List Nat): Bool:=match d with
 | some d=> !l.contains d
 | none=>true
def UW(j k:bp): Bool :=
 match j.cls,k.cls with
 | .no,_|_,.no=>false
 | .pu,_|_,.pu=>true
 | .rd,.rd | .rd,.al=>true
 | .rd,.st=>j.tT.isSome
 | .st, .st => match j.UU, k.UU with
   | some a,some b=>a != b
   | _,_=>false
 | .st,.rd=>j.vZ.isSome && k.rH.isSome
 | .rd, .ap => match j.tT with
   | some (some _)=>true
   | _=>false
 | _,_=>false
def PC(j k:c_): Bool :=
 UW j.op k.op && kK j.dst k.uses && kK k.dst j.uses && kK j.dst k.dst.toList
def needs(j k:c_): Option (AX × AX):=match j.op.tT,k.op.vZ with
 | some (some x),some y=>some (x,y)
 | _, _ => match j.op.vZ, k.op.rH with
   | some y,some x=>some (x,y)
   | _,_=>none
def ZP{o:bp}{x:AX}(h:o.rH=some x): o.vZ=none:=by
 cases o<;>simp[bp.rH]at h<;>rfl
def jK{e:Env}{d:Option Nat}{l:List Nat}{v:AV}(h:kK d l=true): ∀ t ∈ l,fC e d v t=e t:=by
 intro t ht;cases d with
 | none=>rfl
 | some d =>
   simp only[kK,bZ,List.contains_eq_mem,decide_eq_false_iff_not]at h;simp only[fC];rw[if_neg (by rintro rfl;exact h ht)]
def acK{e:Env}{j k:Option Nat}{v u:AV}(h:kK j k.toList=true): fC (fC e j v) k u=fC (fC e k u) j v:=by
 funext t
 cases j with
 | none=>rfl
 | some j =>
   cases k with
   | none=>rfl
   | some k =>
     simp[kK]at h;simp only[fC];by_cases h1:t=k
     ·subst h1;simp[Ne.symm h]
     ·simp[h1]
def acL{j k:bp}(h:UW j k=true): j.cls≠ .no/\k.cls≠ .no:=by
 unfold UW at h;split at h<;>simp_all
def swap {j k : c_} {K : Env -> aj -> Prop} {e : Env} {σ : aj} (h : PC j k = true) (hap : ∀ x y, needs j k = some (x, y) -> (kK j.dst (x.uses ++ y.uses) = true /\ kK k.dst (x.uses ++ y.uses) = true) /\ ∀ e σ, K e σ -> mH (x.ev e) (y.ev e))
    (hh:jH P Q j (jH P Q k K) e σ):jH P Q k (jH P Q j K) e σ:=by
 simp only[PC,aF]at h;obtain⟨⟨⟨CE,s1⟩,s2⟩,s3⟩:=h;obtain⟨hj,hk⟩:=acL CE;obtain⟨vj,σj,dj,hh⟩:=(kJ hj).1 hh;obtain⟨vk,σk,dk,hK⟩:=(kJ hk).1 hh;have IE:k.D P e σj vk σk:=Vl (jK s1) dk;have tr:∀ {s s'},j.D P e s vj s'->j.D P (fC e k.dst vk) s vj s':=fun h=>Vl (fun t ht=>(jK s2 t ht).symm) h;have YC:=hK;rw[acK s3]at hK
 have kpu:k.op.cls = .pu->jH P Q k (jH P Q j K) e σ:=fun hc=>by
  have:=wB (.inl hc) IE;subst this;exact(kJ hk).2 ⟨vk,σ,YG hc IE σ,(kJ hj).2 ⟨vj,_,tr dj,hK⟩⟩
 have S5 : σj = σ->j.D P e σk vj σk->jH P Q k (jH P Q j K) e σ:=fun h1 h2=>by
  subst h1;exact(kJ hk).2 ⟨vk,σk,IE,(kJ hj).2 ⟨vj,_,tr h2,hK⟩⟩
 unfold UW at CE;split at CE<;>(try (cases CE;done))
 ·rename_i hc _;exact S5 (wB (.inl hc) dj) (YG hc dj _)
 ·rename_i hc _ _;exact kpu hc
 ·rename_i hc zQ;have h1:=wB (.inr hc) dj;have h2:=wB (.inr zQ) IE;subst h1;subst h2;exact S5 rfl dj
 ·rename_i hc zQ;have h1:=wB (.inr hc) dj;subst h1;obtain⟨τ,rfl⟩:=ag_ zQ IE;exact S5 rfl (YF (.inr hc) dj τ)
 ·rename_i hc zQ;have h1:=wB (.inr hc) dj;subst h1;rcases aha zQ IE with rfl|⟨y,l,ob,nQ,hy,hl,Pr,Vm,rfl⟩
  ·exact S5 rfl dj
  ·obtain⟨rx,PD⟩:=eZ.1 CE;refine S5 rfl (aff PD hl Pr (fun x hx=>?_) dj);subst hx;have hn:needs j k=some (x,y):=by simp[needs,PD,hy]
   obtain⟨⟨a1,a2⟩,a3⟩:=hap x y hn;have ha:=a3 _ _ YC
   have ex:∀ t ∈ x.uses++y.uses,fC (fC e j.dst vj) k.dst vk t=e t:=fun t ht=>by
    rw[jK a2 t ht,jK a1 t ht]
   rw[AX.e7 (x:=x) (fun t ht=>ex t (iw _ ht)),AX.e7 (x:=y) (fun t ht=>ex t (List.mem_append_right _ ht))]at ha;exact fun h1=>ha l h1 Vm
 ·
  split at CE
  ·rename_i a b ra rb;rcases mz dj with⟨dj1,dj2⟩|⟨rfl,rfl,Ka⟩
   ·rcases mz IE with⟨dk1,dk2⟩|⟨rfl,rfl,hk2⟩
    ·obtain⟨n,o1,n1,n2,n3,rfl,n4⟩:=adY ra dj1;obtain⟨m,o2,m1,m2,m3,rfl,m4⟩:=adY rb dk1
     have hnm:n≠m:=by
      rintro rfl;rw[List.getElem?_set_self (aN.1 n2).1]at m2;exact n3 (Option.some.inj m2)
     rw[aH hnm]at m2;refine(kJ hk).2 ⟨_,_,dk2 _ _ _ (m4 σ m2),(kJ hj).2 ⟨_,_,tr (dj2 _ _ _ (n4 _ (by rw[aH (Ne.symm hnm)];exact n2))),?_⟩⟩;rw[List.set_comm _ _ (Ne.symm hnm)];exact hK
    ·exact(kJ hk).2 ⟨_,_,hk2 σ,(kJ hj).2 ⟨_,_,tr dj,hK⟩⟩
   ·exact(kJ hk).2 ⟨_,_,IE,(kJ hj).2 ⟨_,_,tr (Ka _),hK⟩⟩
  ·cases CE
 ·
  rename_i hc _;simp only[aF,eZ]at CE;obtain⟨⟨y,ry⟩,x,rx⟩:=CE;have h2:=wB (.inr (Ps rx)) IE;subst h2;rcases mz dj with⟨dj1,_⟩|⟨rfl,rfl,_⟩
  ·obtain⟨y',l,ob,nQ,hy,n2,_,ahb,rfl⟩:=afc hc dj1;obtain rfl:y=y':=by rw[ry]at hy;exact Option.some.inj hy
   have hn:needs j k=some (x,y):=by
    unfold needs;rw[ZP rx,ry,rx];cases j.op.tT with
    | none=>rfl
    | some o=>cases o<;>rfl
   obtain⟨⟨a1,a2⟩,a3⟩:=hap x y hn;have ha:=a3 _ _ YC
   have ex:∀ t ∈ x.uses++y.uses,fC (fC e j.dst vj) k.dst vk t=e t:=fun t ht=>by
    rw[jK a2 t ht,jK a1 t ht]
   rw[AX.e7 (x:=x) (fun t ht=>ex t (iw _ ht)),AX.e7 (x:=y) (fun t ht=>ex t (List.mem_append_right _ ht))]at ha;have hlt:=(aN.1 n2).1;have Vm:(x.ev e).obj≠some l:=fun h=>ha l h ahb
   have back:(σ.set l nQ).set l ob = σ:=by
    rw[h_];apply List.ext_getElem?;intro i;by_cases hi:i=l
    ·subst hi;rw[List.getElem?_set_self hlt];exact n2.symm
    ·rw[aH (Ne.symm hi)]
   have dk':k.D P e σ vk σ:=by
    rcases mz IE with⟨q1,q2⟩|⟨rfl,_,q⟩
    ·have:=Yz (ob:=ob) rx (by simpa using hlt) Vm q1;rw[back]at this;exact q2 _ _ _ this
    ·exact q σ
   exact(kJ hk).2 ⟨vk,σ,dk',(kJ hj).2 ⟨vj,_,tr dj,hK⟩⟩
  ·exact(kJ hk).2 ⟨vk,_,IE,(kJ hj).2 ⟨_,_,tr dj,hK⟩⟩
 ·
  rename_i hc zQ;have h1:=wB (.inr hc) dj;subst h1;split at CE
  ·rename_i x PD
   have hro:j.op.rH=some x:=by
    revert PD;cases j.op<;>simp[bp.tT,bp.rH]
   rcases mz IE with⟨dk1,_⟩|⟨rfl,rfl,_⟩
   ·obtain⟨y,hy,⟨τ,rfl⟩|⟨l,ob,hlt,Vm,rfl⟩⟩:=aiM zQ dk1
    ·exact S5 rfl (YF (.inr hc) dj τ)
    ·have hn:needs j k=some (x,y):=by simp[needs,PD,hy]
     obtain⟨⟨a1,a2⟩,a3⟩:=hap x y hn;have ha:=a3 _ _ YC
     have ex:∀ t ∈ x.uses++y.uses,fC (fC e j.dst vj) k.dst vk t=e t:=fun t ht=>by
      rw[jK a2 t ht,jK a1 t ht]
     rw[AX.e7 (x:=x) (fun t ht=>ex t (iw _ ht)),AX.e7 (x:=y) (fun t ht=>ex t (List.mem_append_right _ ht))]at ha;refine S5 rfl ?_;rcases mz dj with⟨q1,q2⟩|⟨rfl,_,q⟩
     ·exact q2 _ _ _ (Yz hro hlt (fun h=>ha l h Vm) q1)
     ·exact q _
   ·exact S5 rfl dj
  ·cases CE
variable (P Q) in
def ZQ(ops:Nat->c_)(uA:Nat->List Nat): Nat->List Nat->Env->aj->Prop
 | 0,l,e,σ=>l=[]/\Q .normal e σ
 | n+1,l,e,σ=>((∀ i ∈ l,∃ j ∈ uA i,j ∈ l)->Q .normal e σ)/\ ∀ i ∈ l,(∀ j ∈ uA i,j ∉ l)->jH P Q (ops i) (ZQ ops uA n (l.erase i)) e σ
def bp.goes: bp->Bool
 | .app ..=>true
 | o=>o.cls != .no
def Vn{o:bp}{e:Env}{σ : aj}{K Kp:AV->aj->Prop}(h:o.goes=true)(hh:o.run P e σ K Kp): ∃ v σ',K v σ':=by
 by_cases hn:o.cls≠ .no
 ·obtain⟨v,σ',_,h⟩:=(Mh hn).1 hh;exact⟨v,σ',h⟩
 ·cases o<;>simp[bp.goes]at h<;>(try (exact absurd h hn));rename_i T el x1 y1;simp only[bp.run,uL]at hh;generalize AX.ev e _=y at hh
  have key:∀ (ys:List AV) (x:AV),(match x with
   | .ae=>if ys.length=0 then K .ae σ else fS ys.length el/\K (.own el σ.length ys.length 0 ys.length) (σ++[.cn T el ys])
   | .aK true bN xs=>bN=el/\if ys.length=0 then K (.aK true el xs) σ else fS (xs.length+ys.length) el/\K (.own el σ.length (xs.length+ys.length) 0 (xs.length+ys.length)) (σ++[.cn T el (xs++ys)])
   | .own bN l m lo n => bN = el /\ match σ[l]? with
     | some (.cn T' dM xs)=>(T'=none\/T'=T)/\dM=el/\m=xs.length/\lo=0/\n=xs.length/\fS (xs.length+ys.length) el/\K (.own el l (xs.length+ys.length) 0 (xs.length+ys.length)) (σ.set l (.cn T' el (xs++ys)))
     | _=>False
   | _=>False)-> ∃ v σ',K v σ':=fun ys x hx=>by
   split at hx
   ·split at hx
    ·exact⟨_,_,hx⟩
    ·exact⟨_,_,hx.2⟩
   ·replace hx:=hx.2
    split at hx
    ·exact⟨_,_,hx⟩
    ·exact⟨_,_,hx.2⟩
   ·replace hx:=hx.2
    split at hx
    ·exact⟨_,_,hx.2.2.2.2.2.2⟩
    ·exact hx.elim
   ·exact hx.elim
  unfold iA at hh;split at hh
  ·exact key _ _ hh.2
  ·exact key _ _ hh.2.2
  ·replace hh:=hh.2
   split at hh
   ·exact key _ _ hh.2.2.2
   ·exact hh.elim
  ·exact key _ _ hh.2.2
  ·exact hh.elim
def acM{g:c_}{K:Env->aj->Prop}{e:Env}{σ : aj}(hc:g.op.goes=true)(h:jH P Q g K e σ): ∃ v σ',K (fC e g.dst v) σ':=by
 unfold jH at h;split at h
 ·exact Vn hc h
 ·rename_i k b hg;split at h
  ·rename_i t ht;by_cases htb:t=b
   ·obtain⟨v,s,h⟩:=Vn hc (h.1 htb);rw[yQ (by rw[ht,htb])]at h;exact⟨v,s,h⟩
   ·have hn:t = !b:=by cases t<;>cases b<;>simp_all
    have h:=h.2 hn;rw[yQ (by rw[ht,hn])]at h;exact⟨_,_,h⟩
  ·exact⟨_,_,h⟩
  ·exact h.elim
def abn{C:Env->Prop}{us:List Nat}(hC:∀ e σ,Q .normal e σ->C e)(YH:∀ e e',(∀ t ∈ us,e' t=e t)->C e'->C e): ∀(l:List c_) (e:Env) (σ : aj),(∀ g ∈ l,g.op.goes=true/\kK g.dst us=true)->fc P Q l e σ->C e
 | [],e,σ,_,h=>hC e σ h
 | g :: l, e, σ, hl, h => by
   rw[tV]at h;obtain⟨h1,h2⟩:=hl g (by simp);obtain⟨v,σ',h⟩:=acM h1 h;exact YH e _ (jK h2) (abn hC YH l _ σ' (fun g hg=>hl g (by simp[hg])) h)
def Vo{lY:List (AX × AX)}{e:Env}(h:sK lY e){x y:AX}(hm:(x,y) ∈ lY): mH (x.ev e) (y.ev e):=by
 induction lY with
 | nil=>cases hm
 | cons p r ih =>
   obtain⟨a,b⟩:=p;rcases List.mem_cons.1 hm with h1|h1
   ·cases h1;exact h.1
   ·exact ih h.2 h1
def Vp(ops:Nat->c_)(n:Nat)(lY:List (AX × AX))(ck:List Nat)(j k:Nat): Prop :=
 PC (ops j) (ops k)=true/\ ∀ x y,needs (ops j) (ops k)=some (x,y)->(x,y) ∈ lY/\ ∀ m,j<=m->m<n->(m=k\/m ∉ ck)->(ops m).op.goes=true/\kK (ops m).dst (x.uses++y.uses)=true
def abo {ops : Nat -> c_} {n : Nat} {lY : List (AX × AX)} {k : Nat} {ck : List Nat} {l2 : List Nat} : ∀ (l1 : List Nat) (e : Env) (σ : aj), (∀ j ∈ l1, Vp ops n lY ck j k) -> (∀ m ∈ l1 ++ l2, m ∉ ck) -> (l1 ++ k :: l2).Pairwise (· < ·) -> (∀ i ∈ l1 ++ k :: l2, i < n) ->
    fc P (qw lY Q) ((l1++k::l2).map ops) e σ->fc P (qw lY Q) ((k::(l1++l2)).map ops) e σ
 | [],e,σ,_,_,_,_,h=>h
 | j :: l1, e, σ, hc, hnc, hs, hn, h => by
   rw[fx,bu,tV]at h;rw[bu,tV,fx,bu];have heq:fc P (qw lY Q) (ops j::(l1++l2).map ops)=jH P (qw lY Q) (ops j) (fc P (qw lY Q) ((l1++l2).map ops)):=by funext e σ;exact tV _ _ _ _
   rw[heq];rw[fx,List.pairwise_cons]at hs;obtain⟨CH,Vq⟩:=hc j (by simp);refine swap CH (fun x y hxy=>?_) (Vk (fun e σ h=>?_) h)
   ·obtain⟨hm,hall⟩:=Vq x y hxy;have FY:j<k:=hs.1 k (by simp);refine⟨⟨(hall j (Nat.le_refl _) (hn j (by simp)) (.inr (hnc j (by simp)))).2,(hall k (Nat.le_of_lt FY) (hn k (by simp)) (.inl rfl)).2⟩,fun e σ hK=>?_⟩;refine abn (Q:=qw lY Q) (C:=fun e=>mH (x.ev e) (y.ev e)) (us:=x.uses++y.uses) (fun e σ h=>Vo h.1 hm) (fun e e' he h=>?_) _ e σ (fun g hg=>?_) hK
    ·rw[AX.e7 (x:=x) (fun t ht=>(he t (iw _ ht)).symm),AX.e7 (x:=y) (fun t ht=>(he t (List.mem_append_right _ ht)).symm)];exact h
    ·obtain⟨m,zR,rfl⟩:=ek.1 hg
     have Kb:m ∈ l1++k::l2:=by
      rcases List.mem_append.1 zR with h|h<;>simp[h]
     exact hall m (Nat.le_of_lt (hs.1 m Kb)) (hn m (cZ _ Kb)) (.inr (hnc m (cZ _ zR)))
   ·have:=abo l1 e σ (fun j hj=>hc j (by simp[hj])) (fun m hm=>hnc m (cZ _ hm)) hs.2 (fun i hi=>hn i (cZ _ hi)) h;simpa only[bu,tV]using this
def behind {uA cl : Nat -> List Nat} {l : List Nat} (hlt : ∀ k, ∀ m ∈ uA k, m < k) (ff : ∀ k, ∀ j ∈ cl k, j ∈ uA k \/ ∃ m ∈ uA k, j ∈ cl m) (hinv : ∀ z, z ∉ l -> ∀ i ∈ uA z, i ∉ l) {j : Nat} :
    ∀(k:Nat),(∀ i ∈ uA k,i ∉ l)->j ∈ cl k->j ∉ l:=by
 intro k
 induction k using Nat.strongRecOn with
 | _ k ih =>
   intro hr hj;rcases ff k j hj with h|⟨m,hm,h⟩
   ·exact hr j h
   ·exact ih m (hlt k m hm) (hinv m (hr m hm)) h
def Xs {ops : Nat -> c_} {uA cl : Nat -> List Nat} {N : Nat} {lY : List (AX × AX)} (hlt : ∀ k, ∀ m ∈ uA k, m < k) (ff : ∀ k, ∀ j ∈ cl k, j ∈ uA k \/ ∃ m ∈ uA k, j ∈ cl m) : ∀ (n : Nat) (l : List Nat) (e : Env) (σ : aj), l.length = n ->
    (∀ z,z ∉ l-> ∀ i ∈ uA z,i ∉ l)->(∀ i ∈ l,i<N)->l.Pairwise (fun j k=>j<k/\(j ∈ cl k\/Vp ops N lY (cl k) j k))->fc P (qw lY Q) (l.map ops) e σ->ZQ P (qw lY Q) ops uA n l e σ:=by
 intro n
 induction n with
 | zero=>intro l e σ hl _ _ _ h;cases l with|nil=>exact⟨rfl,h⟩|cons=>cases hl
 | succ n ih =>
   intro l e σ hl hinv hN hp h;refine⟨fun hno=>?_,fun i hi hr=>?_⟩
   ·cases l with
    | nil=>exact h
    | cons x r =>
      obtain⟨j,hj,hjl⟩:=hno x (by simp);have h1:=hlt x j hj;rcases List.mem_cons.1 hjl with rfl|h2
      ·exact absurd h1 (fO _)
      ·have:=((List.pairwise_cons.1 hp).1 j h2).1;omega
   ·obtain⟨l1,l2,rfl,hni⟩:=List.eq_append_cons_of_mem hi;have he:(l1++i::l2).erase i=l1++l2:=by rw[List.erase_append_right _ hni,List.erase_cons_head]
    have hp':=List.pairwise_append.1 hp
    have hcp:∀ j ∈ l1,Vp ops N lY (cl i) j i:=fun j hj=>by
     rcases(hp'.2.2 j hj i (by simp)).2 with h1|h1
     ·exact absurd (by simp[hj]) (behind hlt ff hinv i hr h1)
     ·exact h1
    have hb:=abo l1 e σ hcp (fun m hm hmc=>behind hlt ff hinv i hr hmc (by rcases List.mem_append.1 hm with h|h<;>simp[h])) (hp.imp fun h=>h.1) hN h;rw[bu,tV]at hb;rw[he];refine Vk (fun e σ h=>ih _ e σ ?_ (fun z hz j hj hjl=>?_) (fun m hm=>hN m ?_) ?_ h) hb
    ·simp at hl ⊢;omega
    ·have afg : j ∈ l1 ++ i :: l2 := by
      rcases List.mem_append.1 hjl with h|h<;>simp[h]
     by_cases hzi:z=i
     ·subst hzi;exact hr j hj afg
     ·refine hinv z (fun hz'=>hz ?_) j hj afg;rcases List.mem_append.1 hz' with h|h
      ·simp[h]
      ·rcases List.mem_cons.1 h with h|h
       ·exact absurd h hzi
       ·simp[h]
    ·rcases List.mem_append.1 hm with h|h<;>simp[h]
    ·refine List.Pairwise.sublist ?_ hp;exact List.Sublist.append_left (List.sublist_cons_self _ _) _
end
section
variable {P:Program}
def CG(P:Program)(nt:Nat)(h:Hints)(dr:Bool)(all:Array Oper)(o:Oper)(g:c_): Prop :=
 zM P nt h dr o=some g.op/\g.dst=o.dst/\match o.guard with
  | none=>g.guard=none
  | some (j,b)=> ∃ k,(all[j]?).bind (·.dst)=some k/\k<nt/\g.guard=some (k,b)
def FZ{nt:Nat}{h:Hints}{dr:Bool}{all:Array Oper}: ∀(l:List Oper) (gs:List c_),mM P nt h dr all l=some gs->gs.length=l.length/\ ∀(i:Nat) (o:Oper),l[i]? = some o-> ∃ g,gs[i]? = some g/\CG P nt h dr all o g:=by
 intro l
 induction l with
 | nil=>intro gs hc;cases hc;exact⟨rfl,fun i o hi=>by cases hi⟩
 | cons o l ih =>
   intro gs hc;simp only[mM]at hc;split at hc
   ·rename_i ao gs' h1 h2;obtain⟨i1,i2⟩:=ih gs' h2;split at hc
    ·rename_i hg;cases hc;refine⟨by simp[i1],fun i o' hi=>?_⟩;cases i with
     | zero=>cases hi;exact⟨_,rfl,h1,rfl,by rw[hg]⟩
     | succ i=>exact i2 i o' hi
    ·rename_i j b hg;split at hc
     ·rename_i k hk;split at hc
      ·rename_i hlt;cases hc;refine⟨by simp[i1],fun i o' hi=>?_⟩;cases i with
       | zero=>cases hi;exact⟨_,rfl,h1,rfl,by rw[hg];exact⟨k,hk,hlt,rfl⟩⟩
       | succ i=>exact i2 i o' hi
      ·cases hc
     ·cases hc
   ·cases hc
def abp {ro : Option Nat} {wn : Nat} {nt : Nat} {h : Hints} {dr : Bool} {ops : Array Oper} {B : Nat} {Q : AQ} {g0 : aO} {w0 : World} {wv : aj} {o : Oper} {gp : c_} {i : Nat} {K : Env -> aj -> Prop} {KK : Act -> World -> Prop}
    {g:aO} {w:World} {σ : aj} {e:Env} {a:Act} (YH:CG P nt h dr ops o gp) (h0:ops[i]? = some o) (hR:Rel g w σ) (hE:gj nt g w e a.tmps) (hd:j_ B σ g w a.defers) (hev:gN wv g0 w0 σ g w)
    (hk:∀ g' w' σ' e' a',K e' σ'->Rel g' w' σ'->gj nt g' w' e' a'.tmps->j_ B σ' g' w' a'.defers->gN wv g0 w0 σ' g' w'->KK a' w') (hw:jH P Q gp K e σ):wpOpIn (WF ro) wn P ops (QR nt B g0 w0 wv Q) i KK a w:=by
 obtain⟨h1,hds,hgd⟩:=YH
 have go:∀ (e1:Env),gj nt g w e1 a.tmps->gp.op.run P e1 σ (fun v σ'=>K (fC e1 gp.dst v) σ') (fun v σ'=>Q (.panic v) e1 σ')->o.wpIn (WF ro) wn P a w KK (QR nt B g0 w0 wv Q):=fun e1 CD hrun=>by
  rw[hds]at hrun;refine Oper.Vj ?_ ?_ (Vh h1 hR CD hrun)
  ·rintro a' w' ⟨v,g',av,σ',rfl,r1,r2,r3,r4⟩;exact hk g' w' σ' (fC e1 o.dst av) (a.put o.dst v) r4 r1 ((CD.mono r2.mono).put o.dst r3) (by rw[put_defers];exact hd.step r2) (hev.trans r2)
  ·rintro ex a' w' ⟨rfl,v,g',av,σ',rfl,r1,r2,r3,r4⟩;exact⟨g',e1,σ',hd.step r2,r1,CD.mono r2.mono,hev.trans r2,v,av,rfl,r3,r4⟩
 have pass:∀ (e1:Env),gj nt g w e1 a.tmps->K (fC e1 gp.dst (.bX [])) σ->KK (a.put o.dst Go.undef) w:=fun e1 CD hrun =>
  hk g w σ (fC e1 gp.dst (.bX [])) (a.put o.dst Go.undef) hrun hR (by rw[hds];exact CD.put o.dst (.bX [] #[] rfl (fun i hi=>absurd hi (eF _)))) (by rw[put_defers];exact hd) hev
 unfold wpOpIn;simp only[h0];unfold jH at hw;split at hgd
 ·rename_i hg;simp only[hgd]at hw;have ZO:Region.wanted o (yielded ops a.tmps)=true:=by simp[Region.wanted,hg]
  rw[if_pos ZO];exact go e hE hw
 ·rename_i j b hg;obtain⟨k,hk',hlt,hgg⟩:=hgd;simp only[hgg]at hw;obtain⟨w1,w2⟩:=S4 (ops:=ops) hE hg hk' hlt;split at hw
  ·rename_i t ht;have hwn:=w1 t ht;by_cases htb:t=b
   ·subst htb;rw[hwn,if_pos (by simp)];exact go _ (hE.congr ht) (hw.1 rfl)
   ·have:t = !b:=by cases t<;>cases b<;>simp_all
    rw[hwn,if_neg (by simpa using htb)];refine⟨fun _ _=>trivial,pass _ (hE.congr ?_) (hw.2 this)⟩;rw[ht,this]
  ·rename_i ht;rw[w2 ht,if_neg (by simp)];exact⟨fun _ _=>trivial,pass e hE hw⟩
  ·exact hw.elim
def kQ(ops:Array Oper)(i:Nat): List Nat :=
 match ops[i]? with
 | some o=>(o.after.toList.filter (Region.binds .any)).map (·.on)
 | none=>[]
def vG: c_:=⟨.iZ ⟨false,0⟩,none,none⟩
def abq {ro : Option Nat} {wn : Nat} {nt : Nat} {h : Hints} {ops : Array Oper} {B : Nat} {Q : AQ} {g0 : aO} {w0 : World} {wv : aj} {gs : List c_} (hc : mM P nt h true ops ops.toList = some gs) (hlt : ∀ i, ∀ j ∈ kQ ops i, j < i) :
    ∀ (n : Nat) (l : List Nat) (listed : Array Bool) (g : aO) (w : World) (σ : aj) (e : Env) (a : Act), listed.size = ops.size -> l.Nodup -> (∀ i, i ∈ l ↔ i < ops.size /\ listed.getD i true = false) ->
      ZQ P Q (fun i=>gs.getD i vG) (kQ ops) n l e σ->Rel g w σ->gj nt g w e a.tmps->j_ B σ g w a.defers->gN wv g0 w0 σ g w ->
      wpAnyIn (WF ro) wn P .any ops (QR nt B g0 w0 wv Q) n listed a w:=by
 obtain⟨hlen,Av⟩:=FZ ops.toList gs hc
 have mem:∀ (l:List Nat) (listed:Array Bool),(∀ i,i ∈ l↔i<ops.size/\listed.getD i true=false)-> ∀ i,i ∈ Region.ready .any ops listed->i ∈ l/\ ∀ j ∈ kQ ops i,j ∉ l:=by
  intro l listed hl i hi;simp only[Region.ready,List.mem_filter,gu,aF,bZ]at hi;obtain⟨hlt,hun,afh⟩:=hi;refine⟨(hl i).2 ⟨hlt,hun⟩,fun j hj hjl=>?_⟩;obtain⟨S6,Ka⟩:=(hl j).1 hjl;have ho:ops[i]? = some ops[i]:=by simp[hlt]
  simp only[kQ,ho,ek,List.mem_filter]at hj;obtain⟨ed,⟨he1,Vr⟩,rfl⟩:=hj;simp only[ho,gC,bT]at afh;have:=Array.all_eq_true_iff_forall_mem.1 afh ed (by simpa using he1);simp only[Vr,Bool.not_true,Bool.false_or]at this;rcases Nat.lt_or_ge ed.on listed.size with h'|h'
  ·simp[h']at this Ka;rw[this]at Ka;cases Ka
  ·simp[Array.getElem?_eq_none h']at this
 have aiY:∀ (l:List Nat) (listed:Array Bool),listed.size=ops.size->(∀ i,i ∈ l↔i<ops.size/\listed.getD i true=false)->Region.ready .any ops listed=[]-> ∀ i ∈ l,∃ j ∈ kQ ops i,j ∈ l:=by
  intro l listed hsz hl hnil i hi;obtain⟨YI,hun⟩:=(hl i).1 hi;have ho:ops[i]? = some ops[i]:=by simp[YI]
  have hnot:i ∉ Region.ready .any ops listed:=by rw[hnil];simp
  simp only[Region.ready,List.mem_filter,gu,aF,bZ,YI,hun,ho,gC,bT,true_and,Array.all_eq_true_iff_forall_mem]at hnot;simp only[Classical.not_forall,dL,fB,Bool.not_eq_false']at hnot;obtain⟨ed,he,hbd,hls⟩:=hnot
  have hj:ed.on ∈ kQ ops i:=by
   simp only[kQ,ho,ek,List.mem_filter];exact⟨ed,⟨by simpa using he,hbd⟩,rfl⟩
  have h1:=hlt i _ hj;refine⟨_,hj,(hl _).2 ⟨by omega,?_⟩⟩;have h2:ed.on<listed.size:=by omega
  simp[h2]at hls ⊢;exact hls
 intro n
 induction n with
 | zero =>
   intro l listed g w σ e a hsz ia hl ha hR hE hd hev;obtain⟨rfl,hq⟩:=ha;refine⟨?_,g,e,σ,hd,hR,hE,hev,hq⟩;refine List.eq_nil_iff_forall_not_mem.2 fun i hi=>?_;exact absurd (mem _ _ hl i hi).1 (by simp)
 | succ n ih =>
   intro l listed g w σ e a hsz ia hl ha hR hE hd hev;refine⟨fun hnil=>⟨g,e,σ,hd,hR,hE,hev,ha.1 (aiY l listed hsz hl hnil)⟩,fun i hi=>?_⟩;obtain⟨YJ,hr⟩:=mem l listed hl i hi;have U5:=((hl i).1 YJ).1;have ho:ops[i]? = some ops[i]:=by simp[U5]
   obtain⟨gp,hgp,YH⟩:=Av i ops[i] (by simp[U5]);have hrun:=ha.2 i YJ hr;have hgd:gs.getD i vG=gp:=by simp[List.getD,hgp]
   have hrun:jH P Q gp (ZQ P Q (fun i=>gs.getD i vG) (kQ ops) n (l.erase i)) e σ:=by rw[<-hgd];exact hrun
   refine abp YH ho hR hE hd hev (fun g' w' σ' e' a' hK hR' YK hd' aiZ=>?_) hrun;refine ih (l.erase i) _ g' w' σ' e' a' (by simp[hsz]) (ia.erase i) (fun k=>?_) hK hR' YK hd' aiZ;rw[ia.mem_erase_iff,hl k];by_cases hki:k=i
   ·subst hki;simp[hsz,U5]
   ·have : (listed.setIfInBounds i true).getD k true = listed.getD k true := by
     simp[fh,Array.getElem?_setIfInBounds_ne (Ne.symm hki)]
    rw[this];simp[hki]
def Em(uA:Nat->List Nat): Nat->List (List Nat)
 | 0=>[]
 | n+1=>let c:=Em uA n;c++[((uA n).flatMap fun m=>c.getD m []).foldl (fun l x=>if l.contains x then l else x::l) (uA n)]
def Vs(ops:Array Oper)(gs:List c_): Bool :=
 let n:=ops.size
 let cl:=Em (kQ ops) n
 (List.range n).all fun k => (kQ ops k).all (· < k) && (cl.getD k []).all (fun j => (kQ ops k).contains j || (kQ ops k).any fun m => (cl.getD m []).contains j) &&
   (List.range k).all fun j => (cl.getD k []).contains j || (PC (gs.getD j vG) (gs.getD k vG) && match needs (gs.getD j vG) (gs.getD k vG) with
     | some (x,y)=>(List.range n).all fun m=>decide (m<j) ||(decide (m≠k) && (cl.getD k []).contains m) ||((gs.getD m vG).op.goes && kK (gs.getD m vG).dst (x.uses++y.uses))
     | none=>true)
def RG(ops:Array Oper)(gs:List c_): List (AX × AX) :=
 let cl:=Em (kQ ops) ops.size
 (List.range ops.size).flatMap fun k=>(List.range k).filterMap fun j=>if(cl.getD k []).contains j then none else needs (gs.getD j vG) (gs.getD k vG)
def S7(uA:Nat->List Nat): ∀ n,(Em uA n).length=n
 | 0=>rfl
 | n+1=>by simp[Em,S7 uA n]
def QR.mono{nt:Nat}{B:Nat}{g:aO}{w:World}{σ : aj}{Q Q':AQ}(h:∀ ex e σ,Q ex e σ->Q' ex e σ){ex:Exit}{a:Act}{w2:World}(hq:QR nt B g w σ Q ex a w2): QR nt B g w σ Q' ex a w2:=by
 obtain⟨g',e',σ',h1,h2,h3,h4,h5⟩:=hq;refine⟨g',e',σ',h1,h2,h3,h4,?_⟩;cases ex with
 | panic chain=>obtain⟨v,av,r1,r2,r3⟩:=h5;exact⟨v,av,r1,r2,h _ _ _ r3⟩
 | outgrown=>exact h5
 | normal=>exact h _ _ _ h5
 | exit id=>exact h _ _ _ h5
 | goto l=>exact h _ _ _ h5
 | ret=>exact h _ _ _ h5
def ZR {ro : Option Nat} {wn : Nat} {nt : Nat} {h : Hints} {ops : Array Oper} {B : Nat} {Q : AQ} {gs : List c_} {id : Nat} {g : aO} {w : World} {σ : aj} {e : Env} {a : Act} (hc : mM P nt h true ops ops.toList = some gs)
    (hok:Vs ops gs=true) (hm:P.follows .mixedOrders=true) (hw:fc P (qw (RG ops gs) Q) gs e σ) (hR:Rel g w σ) (hE:gj nt g w e a.tmps) (hd:j_ B σ g w a.defers):(Code.region id ops true).wpIn (WF ro) wn P (QR nt B g w σ Q) a w:=by
 simp only[Vs,bx,gu,aF,dB,decide_eq_true_eq,List.any_eq_true,List.contains_iff_mem]at hok
 have hlt:∀ i,∀ j ∈ kQ ops i,j<i:=fun i j hj=>by
  by_cases hi:i<ops.size
  ·exact(hok i hi).1.1 j hj
  ·have:kQ ops i=[]:=by simp[kQ,Array.getElem?_eq_none (Nat.le_of_not_lt hi)]
   rw[this]at hj;cases hj
 obtain⟨hlen,_⟩:=FZ ops.toList gs hc;refine wpIn_mono (wpIn_region_any hm ?_) fun ex a' w'=>QR.mono (Q:=qw (RG ops gs) Q) fun _ _ _=>acI;have hR':=hR.drew (w.drawn+1);have hev:=gN.drew σ g w (w.drawn+1);refine abq hc hlt ops.size (List.range ops.size) _ g _ σ e a (by simp) List.nodup_range (fun i=>by simp;intro h;simp[h]) ?_ hR' (hE.mono hev.mono) (hd.step hev) hev;refine Xs (cl:=fun k=>(Em (kQ ops) ops.size).getD k []) (N:=ops.size) hlt (fun k j hj=>?_) _ _ e σ (by simp) (fun z hz i hi=>?_) (fun i hi=>by simpa using hi) ?_ ?_
 ·by_cases hk:k<ops.size
  ·exact(hok k hk).1.2 j hj
  ·have : (Em (kQ ops) ops.size).getD k [] = [] := by
    have:=S7 (kQ ops) ops.size;rw[aE,List.getElem?_eq_none (by omega)];rfl
   rw[this]at hj;cases hj
 ·have:kQ ops z=[]:=by simp at hz;simp[kQ,Array.getElem?_eq_none hz]
  rw[this]at hi;cases hi
 ·refine List.pairwise_iff_getElem.2 fun i j hi hj hij=>?_;simp only[List.getElem_range];simp at hi hj;refine⟨hij,?_⟩;by_cases ff:i ∈ (Em (kQ ops) ops.size).getD j []
  ·exact .inl ff
  ·refine .inr ?_;rcases(hok j hj).2 i hij with h1|⟨h1,h2⟩
   ·exact absurd h1 ff
   ·refine⟨h1,fun x y hxy=>⟨?_,fun m zR Kb hm3=>?_⟩⟩
    ·refine List.mem_flatMap.2 ⟨j,by simpa using hj,List.mem_filterMap.2 ⟨i,by simpa using hij,?_⟩⟩;rw[if_neg (by simpa[List.contains_iff_mem]using ff)];exact hxy
    ·simp only[hxy,bx,gu,aF,dB,decide_eq_true_eq]at h2;rcases h2 m Kb with(h3|h3)|h3
     ·omega
     ·rcases hm3 with h4|h4
      ·exact absurd h4 h3.1
      ·exact absurd (List.contains_iff_mem.1 h3.2) h4
     ·exact h3
 ·have : (List.range ops.size).map (fun i => gs.getD i vG) = gs := by
   apply List.ext_getElem
   ·simp[hlen]
   ·intro i h1 h2;simp[aE,h2]
  rw[this];exact hw
end
end Go.AM
