/- Part. -/
import Derived.Test.YtcjcnfcedihckaaGreatDoorW07
import Derived.MapKept
set_option linter.all false
namespace Go.AM
open Go.MapKept
def Rel.Zt {g : aJ} {w w' : World} {σ : ae} {l b : Nat} {o : aZ} (h : Rel g w σ) (hl : σ[l]? = some o) (ho : o.live = true) (hb : g.base l = some b) (v c fo : Nat) (o' : aZ)
    (hsz:w'.heap.size=w.heap.size) (hos:w'.os=w.os) (v7:w'.tape=w.tape) (hout:w'.output=w.output)
    (qc:∀ c,c≠b->w'.heap[c]? = w.heap[c]?) (hok:kK g w (g.push v (some b) c fo) w'->o'.Ok (g.push v (some b) c fo) w' g.n) :
    Rel (g.push v (some b) c fo) w' (σ.set l .dead++[o'])/\fC σ g w (σ.set l .dead++[o']) (g.push v (some b) c fo) w':=by
 have jQ:Live σ l:=⟨o,hl,ho⟩;have DQ:¬ g.fL b:=h.sL l b jQ hb
 have hm:kK g w (g.push v (some b) c fo) w':=⟨fun d hd=>⟨hd,qc d (fun e=>DQ (e ▸ hd))⟩,Nat.le_succ _,fun k hk=>by
  have:k≠g.n:=eG hk;simp[aJ.push,this]⟩
 have hbase:∀ k,k<g.n->(g.push v (some b) c fo).base k=g.base k:=fun k hk=>by simp[aJ.push,eG hk]
 have hnew:(g.push v (some b) c fo).base g.n=some b:=by simp[aJ.push]
 have hold:∀ k,Live (σ.set l .dead++[o']) k->(k<g.n/\k≠l/\Live σ k)\/k=g.n:=fun k hk=>by
  rcases nu hk with hk|rfl
  ·rcases kM hk with⟨_,_,e⟩|⟨e,hk⟩
   ·simp[aZ.live]at e
   ·exact .inl ⟨by rw[<-h.len];exact hk.lt,e,hk⟩
  ·exact .inr (by simp[h.len])
 refine⟨⟨by simp[aJ.push,h.len],fun d hd=>by rw[hsz];exact h.lt d hd,fun k ok hk=>?_,fun k k' d hk hk' hd hd'=>?_,fun k d hk hd hi=>?_,h.glob.mono hm.fL⟩,
  ⟨hm,Nat.le_of_eq hsz.symm,hos,v7,hout,fun d hd ht=>qc d (fun e=>ht ⟨l,jQ,e ▸ hb⟩),fun d _ hi=> .inl hi,fun d hd ht=>?_⟩⟩
 ·by_cases hlt:k<(σ.set l .dead).length
  ·rw[aH hlt]at hk;simp only[iA]at hlt;have hkn:k<g.n:=by rw[<-h.len];exact hlt
   by_cases e:k=l
   ·subst e;simp[hlt]at hk;subst hk;trivial
   ·rw[List.getElem?_set_ne (Ne.symm e)]at hk;by_cases hv:ok.live=true
    ·exact(h.ok k ok hk).step hm hkn (by simp[aJ.push,eG hkn]) (fun d hd=>qc d (fun e'=>e (h.inj k l d ⟨ok,hk,hv⟩ jQ hd (e' ▸ hb))))
    ·cases ok<;>simp[aZ.live]at hv;trivial
  ·have h1:=(aP.1 hk).1;simp at h1 hlt;have h2:k = σ.length:=by omega
   subst h2;simp at hk;subst hk;rw[h.len];exact hok hm
 ·rcases hold k hk with⟨k1,k2,k3⟩|rfl<;>rcases hold k' hk' with⟨k4,k5,k6⟩|rfl
  ·rw[hbase k k1]at hd;rw[hbase k' k4]at hd';exact h.inj k k' d k3 k6 hd hd'
  ·rw[hbase k k1]at hd;rw[hnew]at hd';cases hd';exact absurd (h.inj k l b k3 jQ hd hb) k2
  ·rw[hbase k' k4]at hd';rw[hnew]at hd;cases hd;exact absurd (h.inj k' l b k6 jQ hd' hb) k5
  ·rfl
 ·rcases hold k hk with⟨k1,k2,k3⟩|rfl
  ·rw[hbase k k1]at hd;exact h.sL k d k3 hd hi
  ·rw[hnew]at hd;cases hd;exact DQ hi
 ·obtain⟨k,hk,hd'⟩:=ht;rcases hold k hk with⟨k1,k2,k3⟩|rfl
  ·exact⟨k,k3,by rw[hbase k k1]at hd';exact hd'⟩
  ·rw[hnew]at hd';cases hd';exact⟨l,jQ,hb⟩
def Rel.kill {g : aJ} {w : World} {σ : ae} {l : Nat} {o : aZ} (h : Rel g w σ) (hl : σ[l]? = some o) (ho : o.live = true) :
    Rel g w (σ.set l .dead)/\fC σ g w (σ.set l .dead) g w:=by
 have:=h.change (w':=w) (o':= .dead) hl ho (g.ver l) (g.base l) (g.cap l) (g.off l) (Nat.le_refl _) (fun _=>⟨rfl,rfl,rfl⟩) (Nat.le_refl _) rfl rfl rfl (fun _ _ _=>rfl) (fun b hb=> .inl hb) (fun _=>trivial);rwa[aJ.v8]at this
def Fo(g:aJ)(v:Nat)(b:Option Nat)(c o:Nat): (g.push v b c o).off g.n=o:=by simp[aJ.push]
section
variable {P:Program} {g:aJ} {w:World} {σ : ae} {K:AV->ae->Prop}
def Fp{σ : ae}{l:Nat}{o:aZ}(h : σ[l]? = some o): σ.set l o = σ:=by
 apply List.ext_getElem?;intro k;by_cases e:k=l
 ·subst e;rw[List.getElem?_set_self (aP.1 h).1];exact h.symm
 ·rw[List.getElem?_set_ne (Ne.symm e)]
def pJ: Option IntKind->TypeDesc->Bool
 | none,.string=>true
 | some k,.int k'=>k==k'
 | _,_=>false
def z_{kd:Option IntKind}{d:TypeDesc}{k:AV}{v:Value}(hd:pJ kd d=true)(hk:k.sN kd=true)(hv:VR g w k v): IsKey d v:=by
 cases kd with
 | none =>
   cases d<;>simp[pJ]at hd;cases k<;>simp[AV.sN]at hk;cases hv;trivial
 | some q =>
   cases d<;>simp[pJ]at hd;subst hd;cases k<;>simp[AV.sN]at hk;cases hv;exact hk.symm
def QX{kd:Option IntKind}{d:TypeDesc}{k q:AV}{v u:Value}{b:Bool}(hd:pJ kd d=true)(hk:k.sN kd=true)(hv:VR g w k v)(hu:VR g w q u)(h:MD k q=some b): Instr.sameNow d v u=some b:=by
 cases kd with
 | none =>
   cases d<;>simp[pJ]at hd;cases k<;>simp[AV.sN]at hk;cases q<;>simp[MD]at h;cases hv;cases hu;subst h;rename_i s s';simp only[Instr.sameNow,Option.some.injEq];have e:=bytes_beq ⟨s.toArray⟩ ⟨s'.toArray⟩;by_cases hs:s=s'
   ·subst hs;rw[e.2 rfl];simp
   ·have h1:¬ ((⟨s.toArray⟩:ByteArray)==⟨s'.toArray⟩)=true:=fun h=>hs (by have:=e.1 h;injection this with this;simpa using this);simp only[Bool.not_eq_true]at h1;rw[h1];simp[hs]
 | some k0 =>
   cases d<;>simp[pJ]at hd;subst hd;cases k<;>simp[AV.sN]at hk;cases q<;>simp[MD]at h;cases hv;cases hu;obtain⟨h1,h2⟩:=h;subst h1;simp[Instr.sameNow,h2]
def wo {kd : Option IntKind} {d : TypeDesc} {k : AV} {v : Value} (hd : pJ kd d = true) (hk : k.sN kd = true) (hv : VR g w k v) : ∀ (es : List (AV × AV)) (ms : List MapEntry) (i : Nat) (r : Option (Nat × AV)), ms.length = es.length ->
    (∀ j,j<es.length->VR g w (es.getD j default).1 (ms.getD j default).key/\VR g w (es.getD j default).2 (ms.getD j default).val)->nU k es i=some r ->
    (r=none/\Instr.findNow d v ms i=some none)\/ ∃ j x u,r=some (i+j,x)/\Instr.findNow d v ms i=some (some (i+j,u))/\VR g w x u/\j<es.length/\Instr.sameNow d v (ms.getD j default).key=some true
 | [], ms, i, r, hl, h, hf => by
   simp[nU]at hf;have:ms=[]:=List.length_eq_zero_iff.1 hl;subst this;subst hf;exact .inl ⟨rfl,rfl⟩
 | (q, x) :: es, ms, i, r, hl, h, hf => by
   cases ms with
   | nil=>simp at hl
   | cons e ms =>
     have h0:=h 0 (by simp);simp only[aV]at h0;simp only[nU]at hf;split at hf
     ·rename_i he;cases hf;have hs:=QX hd hk hv h0.1 he;exact .inr ⟨0,x,e.val,rfl,by simp[Instr.findNow,hs],h0.2,by simp,by simpa using hs⟩
     ·rename_i he;have hs:=QX hd hk hv h0.1 he;rcases wo hd hk hv es ms (i+1) r (by simpa using hl) (fun j hj=>by simpa using h (j+1) (by simpa using hj)) hf with⟨h1,h2⟩|⟨j,y,u,h1,h2,h3,h4,h5⟩
      ·exact .inl ⟨h1,by simp[Instr.findNow,hs,h2]⟩
      ·exact .inr ⟨j+1,y,u,by rw[h1];congr 2;omega,by simp[Instr.findNow,hs,h2];omega,h3,by simpa using h4,by simpa using h5⟩
     ·cases hf
def Kw {ms : Array MapEntry} {es : List (AV × AV)} {clock : Nat} (h : ms.size = es.length) (h1 : clock = es.length) (h2 : ∀ i, i < es.length -> (ms.getD i default).born = i) (k u : Value) (p : AV × AV) :
    clock+1=(es++[p]).length/\ ∀ i,i<(es++[p]).length->((ms.push { key:=k,val:=u,born:=clock }).getD i default).born=i:=by
 refine⟨by simp[h1],fun i hi=>?_⟩;simp only[aA,List.length_cons,List.length_nil]at hi;by_cases e:i<es.length
 ·have h':i<ms.size:=by omega
  have:=h2 i e;simpa[Array.getElem?_push,eG h',h']using this
 ·have:i=ms.size:=by omega
  subst this;have e2:(ms.push { key:=k,val:=u,born:=clock }).getD ms.size default = { key:=k,val:=u,born:=clock }:=by simp
  rw[e2];show clock=_;omega
def yN {ms : Array MapEntry} {es : List (AV × AV)} {clock : Nat} (h : ms.size = es.length) (h1 : clock = es.length) (h2 : ∀ i, i < es.length -> (ms.getD i default).born = i) (j : Nat) (f : MapEntry -> MapEntry) (hf : ∀ e, (f e).born = e.born) (p : AV × AV) :
    clock=(es.set j p).length/\ ∀ i,i<(es.set j p).length->((ms.modify j f).getD i default).born=i:=by
 refine⟨by simp[h1],fun i hi=>?_⟩;simp only[iA]at hi;have h':i<ms.size:=by omega
 have:=h2 i hi;by_cases e:j=i
 ·subst e;simp only[eH,h',Array.getElem?_eq_getElem,bA]at this;simp[h',fJ,hf,this]
 ·simpa[h',fJ,e]using this
def Pr{t:TypeId}(hR:Rel g w σ)(hK:K (.mp σ.length) (σ++[.map []])): bC P (Instr.makeMap t none) g w σ K:=by
 obtain⟨r1,r2⟩:=hR.pF (.map #[] 0) (.map []) 0 0 ⟨by simp[aJ.push],w.heap.size,#[],0,by simp[aJ.push],heap_alloc_new w _,rfl,⟨rfl,fun i hi=>absurd hi (cG _)⟩,fun i hi=>absurd hi (cG _)⟩;refine⟨.map (some w.heap.size),_,_,_,_,?_,r1,r2,.mp _ _ ⟨by simp[aJ.push,hR.len],_,rfl,fun _=>by simp[aJ.push,hR.len]⟩,hK⟩;simp[Instr.makeMap]
def uh{ok:Bool}{v:AV}{u:Value}{b:Bool}(hv:VR g w v u): VR g w (if ok then .bU [v,.bool b]else v) (if ok then .tuple #[u,.bool b]else u):=by
 cases ok with
 | false=>simpa using hv
 | true =>
   refine .bU _ _ rfl (fun i hi=>?_)
   match i,hi with
   | 0,_=>exact hv
   | 1,_=>exact .bool b
def Sn {t key elem : TypeId} {d : TypeDesc} {kd : Option IntKind} {ok : Bool} {zero x k : AV} {a v : Value} (hR : Rel g w σ) (ht : P.underlying t = some (.map key elem)) (hkey : P.underlying key = some d) (hd : pJ kd d = true)
    (hz:jf P elem=some zero) (hx:VR g w x a) (hv:VR g w k v)
    (hK : match (generalizing := false) x with
      | .lG=>k.sN kd=true/\K (if ok then .bU [zero,.bool false]else zero) σ
      | .mp l => k.sN kd = true /\ match σ[l]? with
        | some (.map es) => match nU k es 0 with
          | some (some (_,v))=>K (if ok then .bU [v,.bool true]else v) σ
          | some none=>K (if ok then .bU [zero,.bool false]else zero) σ
          | none=>False
        | _=>False
      | _=>False):bC P (Instr.lookup t a v ok) g w σ K:=by
 obtain⟨z,Kx,Ky⟩:=rO hz w;cases hx<;>simp only at hK
 case lG =>
  obtain⟨hk,hK⟩:=hK;have hi:=z_ hd hk hv;refine bC.pure hR (v:=if ok then .tuple #[z,.bool false]else z) ?_ (uh (Ky g w).1) hK;have hf:(Instr.findKey key v []).run P w = .ok none w:=run_findKey hkey rfl;have hc:(Instr.checkKey true 10000 key v).run P w = .ok () w:=run_checkKey hkey hi true 9999;simp[Instr.lookup,aQ ht,hf,hc,Kx]
 case mp l h =>
  obtain⟨hk,hK⟩:=hK;have hi:=z_ hd hk hv;obtain⟨h1,b,rfl,h2⟩:=h;split at hK
  ·rename_i es vR;obtain⟨o1,b',ms,clock,o2,o3,o4,⟨Ey,B_⟩,o5⟩:=hR.ok l _ vR;have nW:=h2 o1;rw[nW]at o2;cases o2;have hc:(Instr.checkKey ms.isEmpty 10000 key v).run P w = .ok () w:=run_checkKey hkey hi _ 9999;have hg:=Go.MapKept.run_getObj_map (P:=P) o3;have UL:∀ j,j<es.length->VR g w (es.getD j default).1 (ms.toList.getD j default).key/\VR g w (es.getD j default).2 (ms.toList.getD j default).val:=fun j hj=>by simpa using o5 j hj
   generalize UM:nU k es 0=fd at hK;cases fd with
   | none=>exact hK.elim
   | some r =>
     rcases wo hd hk hv es ms.toList 0 r (by simpa using o4) UL UM with⟨rfl,hf⟩|⟨j,x,u,rfl,hf,Zu,_⟩
     ·refine bC.pure hR (v:=if ok then .tuple #[z,.bool false]else z) ?_ (uh (Ky g w).1) hK;have vS:(Instr.findKey key v ms.toList).run P w = .ok none w:=run_findKey hkey hf;simp[Instr.lookup,aQ ht,hg,vS,hc,Kx]
     ·refine bC.pure hR (v:=if ok then .tuple #[u,.bool true]else u) ?_ (uh Zu) hK;have vS:(Instr.findKey key v ms.toList).run P w = .ok (some (0+j,u)) w:=run_findKey hkey hf;simp[Instr.lookup,aQ ht,hg,vS,hc]
  ·exact hK.elim
def M0 {t key elem : TypeId} {d : TypeDesc} {kd : Option IntKind} {l : Nat} {k x : AV} {a v u : Value} {es es' : List (AV × AV)} (hR : Rel g w σ) (ht : P.underlying t = some (.map key elem)) (hkey : P.underlying key = some d) (hd : pJ kd d = true)
    (hx:VR g w (.mp l) a) (hv:VR g w k v) (hu:VR g w x u) (hk:k.sN kd=true) (vR : σ[l]? = some (.map es)) (hs:MN k x es=some es') :
    ∃ w',(Instr.mapUpdate t a v u).run P w = .ok () w'/\Rel g w' (σ.set l (.map es'))/\fC σ g w (σ.set l (.map es')) g w':=by
 have hi:=z_ hd hk hv;cases hx;rename_i h;obtain⟨h1,b,rfl,h2⟩:=h;obtain⟨o1,b',ms,clock,o2,o3,o4,⟨Ey,B_⟩,o5⟩:=hR.ok l _ vR;have nW:=h2 o1;rw[nW]at o2;cases o2;have hc:(Instr.checkKey false 10000 key v).run P w = .ok () w:=run_checkKey hkey hi _ 9999;have hg:=Go.MapKept.run_getObj_map (P:=P) o3;have UL:∀ j,j<es.length->VR g w (es.getD j default).1 (ms.toList.getD j default).key/\VR g w (es.getD j default).2 (ms.toList.getD j default).val:=fun j hj=>by simpa using o5 j hj
 have UN:∀ (ms':Array MapEntry) (ck:Nat),ms'.size=es'.length->(ck=es'.length/\ ∀ i,i<es'.length->(ms'.getD i default).born=i)->(∀ j,j<es'.length->VR g w (es'.getD j default).1 (ms'.getD j default).key/\VR g w (es'.getD j default).2 (ms'.getD j default).val) ->
  Rel g { w with heap:=w.heap.setIfInBounds b (.map ms' ck) } (σ.set l (.map es'))/\fC σ g w (σ.set l (.map es')) g { w with heap:=w.heap.setIfInBounds b (.map ms' ck) }:=fun ms' ck hl Zv hh =>
  hR.update (o':= .map es') vR rfl nW (by simp) rfl rfl rfl (fun c hc=>(heap_set o3).2 c hc) (fun hm=>⟨o1,b,ms',ck,nW,(heap_set o3).1,hl,Zv,fun j hj=>⟨(hh j hj).1.mono hm,(hh j hj).2.mono hm⟩⟩)
 unfold MN at hs;generalize UM:nU k es 0=fd at hs;cases fd with
 | none=>cases hs
 | some r =>
   rcases wo hd hk hv es ms.toList 0 r (by simpa using o4) UL UM with⟨rfl,hf⟩|⟨j,y,q,rfl,hf,Zu,hj,hsame⟩
   ·simp only[Option.some.injEq]at hs;subst hs;have vS:(Instr.findKey key v ms.toList).run P w = .ok none w:=run_findKey hkey hf
    obtain⟨r1,r2⟩:=UN (ms.push { key:=v,val:=u,born:=clock }) (clock+1) (by simp[o4]) (Kw o4 Ey B_ _ _ _) (fun i hi=>by
     simp only[aA,List.length_cons,List.length_nil]at hi;by_cases h:i<es.length
     ·have:=o5 i h;have h':i<ms.size:=by omega
      simpa[aH h,Array.getElem?_push,eG h',h']using this
     ·have:i=es.length:=by omega
      subst this;have e1:(es++[(k,x)]).getD es.length default=(k,x):=by simp
      have e2:(ms.push { key:=v,val:=u,born:=clock }).getD ms.size default = { key:=v,val:=u,born:=clock }:=by simp
      rw[e1,<-o4,e2];exact⟨hv,hu⟩)
    exact⟨_,by simp[Instr.mapUpdate,aQ ht,hg,vS,hc,Go.MapKept.run_setObj_map (P:=P) (.map (ms.push { key:=v,val:=u,born:=clock }) (clock+1)) o3],r1,r2⟩
   ·simp only[Option.some.injEq,b_]at hs;subst hs;have vS:(Instr.findKey key v ms.toList).run P w = .ok (some (0+j,q)) w:=run_findKey hkey hf;have hj':j<ms.size:=by omega
    have hkv:(ms.getD j default).key=v:=by
     have h3:Instr.sameNow d v (ms.toList.getD j default).key=some true:=hsame
     have h4:IsKey d (ms.toList.getD j default).key:=by
      cases d<;>cases v<;>simp[IsKey]at hi<;>(generalize (ms.toList.getD j default).key=z at h3;cases z<;>simp[Instr.sameNow]at h3)<;>simp_all[IsKey]
     obtain⟨r',h5,h6⟩:=sameNow_of_keys hi h4;rw[h3]at h5;cases h5;have:=h6.1 rfl;simpa using this.symm
    have So:((ms[j]?).map (·.key)).getD v=v:=by
     have:ms[j]? = some (ms.getD j default):=by simp[hj']
     rw[this];exact hkv
    obtain⟨r1,r2⟩:=UN (ms.modify j fun e=> { e with key:=v,val:=u }) clock (by simp[o4]) (yN o4 Ey B_ j (fun e=> { e with key:=v,val:=u }) (fun _=>rfl) _) (fun i hi=>by
     simp only[iA]at hi;have hi':i<ms.size:=by omega
     by_cases h:i=j
     ·subst h;simp[hi',hi,fJ,hv,hu]
     ·have:=o5 i hi;simpa[hi',hi,fJ,Ne.symm h,List.getElem?_set_ne (Ne.symm h)]using this)
    refine⟨_,?_,r1,r2⟩;have hst:=run_keyThatStays (P:=P) (w:=w) hi;simp[Instr.mapUpdate,aQ ht,hg,vS,hc,So,hst,Go.MapKept.run_setObj_map (P:=P) (.map (ms.modify j fun e=> { e with key:=v,val:=u }) clock) o3]
def Sp {t key elem : TypeId} {d : TypeDesc} {kd : Option IntKind} {zero x k : AV} {a v : Value} (hR : Rel g w σ) (ht : P.underlying t = some (.map key elem)) (hkey : P.underlying key = some d) (hd : pJ kd d = true)
    (hz:jf P elem=some zero) (hx:VR g w x a) (hv:VR g w k v) (hK:wg σ kd zero x k K):bC P (Instr.mapEntry t a v) g w σ K:=by
 obtain⟨z,Kx,Ky⟩:=rO hz w;unfold wg at hK;cases hx<;>(try exact False.elim hK)
 case mp l h =>
 obtain⟨hk,hK⟩:=hK;have hi:=z_ hd hk hv;obtain⟨h1,b,rfl,h2⟩:=h;split at hK
 ·rename_i es vR;obtain⟨o1,b',ms,clock,o2,o3,o4,⟨Ey,B_⟩,o5⟩:=hR.ok l _ vR;have nW:=h2 o1;rw[nW]at o2;cases o2;have hc:(Instr.checkKey false 10000 key v).run P w = .ok () w:=run_checkKey hkey hi _ 9999;have hg:=Go.MapKept.run_getObj_map (P:=P) o3;have UL:∀ j,j<es.length->VR g w (es.getD j default).1 (ms.toList.getD j default).key/\VR g w (es.getD j default).2 (ms.toList.getD j default).val:=fun j hj=>by simpa using o5 j hj
  have abM:∀ {g:aJ} {w:World} {x:AV} {y:Value} {n:Nat},VR g w x y->VR g w (.bU [x,.int .i64 n]) (.tuple #[y,goInt n]):=fun h=> .bU _ _ rfl (fun i hi=>by
   match i,hi with
   | 0,_=>exact h
   | 1,_=>exact .int _ _)
  generalize UM:nU k es 0=fd at hK;cases fd with
  | none=>exact hK.elim
  | some r =>
    rcases wo hd hk hv es ms.toList 0 r (by simpa using o4) UL UM with⟨rfl,hf⟩|⟨j,y,q,rfl,hf,Zu,hj,hsame⟩
    ·have vS:(Instr.findKey key v ms.toList).run P w = .ok none w:=run_findKey hkey hf
     obtain⟨r1,r2⟩:=hR.update (w':= { w with heap:=w.heap.setIfInBounds b (.map (ms.push { key:=v,val:=z,born:=clock }) (clock+1)) }) (o':= .map (es++[(k,zero)])) vR rfl nW (by simp) rfl rfl rfl (fun c hc=>(heap_set o3).2 c hc)
      (fun hm => ⟨o1, b, _, _, nW, (heap_set o3).1, by simp [o4], Kw o4 Ey B_ _ _ _, fun i hi => by
        simp only[aA,List.length_cons,List.length_nil]at hi;by_cases h:i<es.length
        ·have:=o5 i h;have h':i<ms.size:=by omega
         simpa[aH h,Array.getElem?_push,eG h',h']using And.intro (this.1.mono hm) (this.2.mono hm)
        ·have:i=es.length:=by omega
         subst this;have e1:(es++[(k,zero)]).getD es.length default=(k,zero):=by simp
         have e2:(ms.push { key:=v,val:=z,born:=clock }).getD ms.size default = { key:=v,val:=z,born:=clock }:=by simp
         rw[e1,<-o4,e2];exact⟨hv.mono hm,(Ky _ _).1⟩⟩)
     refine⟨.tuple #[z,goInt clock],_,_,_,_,?_,r1,r2,by rw[Ey];exact abM (Ky _ _).1,hK⟩;simp[Instr.mapEntry,aQ ht,hg,vS,hc,Kx,Go.MapKept.run_setObj_map (P:=P) (.map (ms.push { key:=v,val:=z,born:=clock }) (clock+1)) o3]
    ·have vS:(Instr.findKey key v ms.toList).run P w = .ok (some (0+j,q)) w:=run_findKey hkey hf;have hj':j<ms.size:=by omega
     have hkv:(ms.getD j default).key=v:=by
      have h3:Instr.sameNow d v (ms.toList.getD j default).key=some true:=hsame
      have h4:IsKey d (ms.toList.getD j default).key:=by
       cases d<;>cases v<;>simp[IsKey]at hi<;>(generalize (ms.toList.getD j default).key=z at h3;cases z<;>simp[Instr.sameNow]at h3)<;>simp_all[IsKey]
      obtain⟨r',h5,h6⟩:=sameNow_of_keys hi h4;rw[h3]at h5;cases h5;have:=h6.1 rfl;simpa using this.symm
     have nx:ms[j]? = some (ms.getD j default):=by simp[hj']
     have So:((ms[j]?).map (·.key)).getD v=v:=by rw[nx];exact hkv
     have adX:((ms[j]?).map (fun x=>(x.born:Int))).getD 0=j:=by rw[nx];exact congrArg Int.ofNat (B_ j hj)
     have hst:=run_keyThatStays (P:=P) (w:=w) hi
     obtain⟨r1,r2⟩:=hR.update (w':= { w with heap:=w.heap.setIfInBounds b (.map (ms.modify j fun e=> { e with key:=v }) clock) }) (o':= .map es) vR rfl nW (by simp) rfl rfl rfl (fun c hc=>(heap_set o3).2 c hc)
      (fun hm => ⟨o1, b, _, _, nW, (heap_set o3).1, by simp [o4], by have := yN o4 Ey B_ j (fun e => { e with key := v }) (fun _ => rfl) default; simpa using this, fun i hi => by
        have hi':i<ms.size:=by omega
        have:=o5 i hi;by_cases h:i=j
        ·subst h;have e3:(ms.getD i default).val=ms[i].val:=by simp[hi']
         have e4:es.getD i default=es[i]:=by simp[hi]
         have h5:=And.intro (this.1.mono hm) (this.2.mono hm);rw[hkv]at h5;simpa[hi',hi,fJ]using h5
        ·simpa[hi',hi,fJ,Ne.symm h]using And.intro (this.1.mono hm) (this.2.mono hm)⟩)
     rw[Fp vR]at r1 r2;refine⟨.tuple #[q,goInt j],_,_,_,_,?_,r1,r2,?_,hK⟩
     ·simp only[b_]at vS;simp[Instr.mapEntry,aQ ht,hg,vS,hc,So,adX,hst,Go.MapKept.run_setObj_map (P:=P) (.map (ms.modify j fun e=> { e with key:=v }) clock) o3]
     ·rw[b_];exact abM (Zu.mono r2.mono)
 ·exact hK.elim
def Sq {t : TypeId} {x s v : AV} {a b u : Value} (hR : Rel g w σ) (hx : VR g w x a) (hs : VR g w s b) (hu : VR g w v u) {K : ae -> Prop} (hK : uL σ x s v K) :
    ∃ w' σ',(Instr.entryStore t a b u).run P w = .ok () w'/\Rel g w' σ'/\fC σ g w σ' g w'/\K σ':=by
 unfold uL at hK;split at hK
 case h_2=>exact hK.elim
 rename_i l z;cases hx;rename_i h;cases hs;obtain⟨h1,b,rfl,h2⟩:=h;split at hK
 ·rename_i es vR;obtain⟨hz0,Kx,hK⟩:=hK;obtain⟨o1,b',ms,clock,o2,o3,o4,⟨Ey,B_⟩,o5⟩:=hR.ok l _ vR;have nW:=h2 o1;rw[nW]at o2;cases o2;have hg:=Go.MapKept.run_getObj_map (P:=P) o3;have hj':z.toNat<ms.size:=by omega
  have QV:ms.findIdx? (fun e=>(e.born:Int)==z)=some z.toNat:=by
   rw[Array.findIdx?_eq_some_iff_getElem]
   have Zv:∀ i (hi:i<ms.size),ms[i].born=i:=fun i hi=>by
    have:=B_ i (by omega);simpa[hi]using this
   refine⟨hj',by rw[Zv];simp;omega,fun j hj=>?_⟩;rw[Zv];simp;omega
  obtain⟨r1,r2⟩:=hR.update (w':= { w with heap:=w.heap.setIfInBounds b (.map (ms.modify z.toNat fun e=> { e with val:=u }) clock) }) (o':= .map (es.set z.toNat ((es.getD z.toNat default).1,v))) vR rfl nW (by simp) rfl rfl rfl (fun c hc=>(heap_set o3).2 c hc)
   (fun hm => ⟨o1, b, _, _, nW, (heap_set o3).1, by simp [o4], yN o4 Ey B_ z.toNat (fun e => { e with val := u }) (fun _ => rfl) _, fun i hi => by
     simp only[iA]at hi;have hi':i<ms.size:=by omega
     have:=o5 i hi;by_cases h:i=z.toNat
     ·subst h;have h5:=And.intro (this.1.mono hm) (hu.mono hm);simpa[hi',hi,fJ]using h5
     ·simpa[hi',hi,fJ,Ne.symm h,List.getElem?_set_ne (Ne.symm h)]using And.intro (this.1.mono hm) (this.2.mono hm)⟩)
  refine⟨_,_,?_,r1,r2,hK⟩;simp[Instr.entryStore,hg,asInt,asIntOf,QV,Go.MapKept.run_setObj_map (P:=P) (.map (ms.modify z.toNat fun e=> { e with val:=u }) clock) o3]
 ·exact hK.elim
def Sr {ats : Array TypeId} {r t k e : TypeId} {x : AV} {a : Value} (hR : Rel g w σ) (h0 : ats[0]? = some t) (ht : P.underlying t = some (.map k e)) (hx : VR g w x a)
    (hK : match (generalizing := false) x with
      | .lG=>K (.int .i64 0) σ
      | .mp l => match σ[l]? with
        | some (.map es)=>K (.int .i64 es.length) σ
        | _=>False
      | _=>False):bC P (Builtin.len_ ats r #[a]) g w σ K:=by
 cases hx<;>simp only at hK
 case lG=>exact bC.pure hR (v:=goInt 0) (by simp[Builtin.len_,h0,aQ ht]) (.int _ _) hK
 case mp l h =>
  obtain⟨h1,b,rfl,h2⟩:=h;split at hK
  ·rename_i es vR;obtain⟨o1,b',ms,clock,o2,o3,o4,⟨Ey,B_⟩,o5⟩:=hR.ok l _ vR;have nW:=h2 o1;rw[nW]at o2;cases o2;refine bC.pure hR (v:=goInt es.length) ?_ (.int _ _) hK;simp[Builtin.len_,h0,aQ ht,Go.MapKept.run_getObj_map (P:=P) o3,o4]
  ·exact hK.elim
def aan{p:AV}{A:Addr}(d:Nat)(hp:p.ptr=true)(h:VR g w p (.pointer (some A))): VR g w (p.adv d) (.pointer (some (A.add d))):=by
 cases p<;>simp[AV.ptr]at hp<;>simp only[AV.adv]
 case ref l o =>
  cases h;rename_i hO;obtain⟨h1,A',h2,h3⟩:=hO;cases h2;refine .ref _ _ _ ⟨h1,_,rfl,fun e=>?_⟩;obtain⟨h4,h5⟩:=h3 e;rw[h5,add_plain];exact⟨by rw[h5]at h4;exact h4,rfl⟩
 case dY el y o =>
  cases h;rename_i hc h;rw[add_plain,Nat.add_assoc];refine VR.dY el y _ _ _ ?_ ?_ ?_ ?_<;>assumption
 case eJ el l m i o =>
  cases h;rename_i hO;obtain⟨h1,hm,A',h2,h3⟩:=hO;cases h2;refine .eJ _ _ _ _ _ _ ⟨h1,hm,_,rfl,fun e=>?_⟩;obtain⟨h4,h5⟩:=h3 e;rw[h5,add_plain,Nat.add_assoc];exact⟨by rw[h5]at h4;exact h4,rfl⟩
def Ps{p:AV}{v:Value}(hp:p.ptr=true)(h:VR g w p v): ∃ A,v = .pointer (some A):=by
 cases p<;>simp[AV.ptr]at hp<;>cases h
 case ref hO=>obtain⟨_,A,h2,_⟩:=hO;exact⟨A,h2⟩
 case dY=>exact⟨_,rfl⟩
 case eJ hO=>obtain⟨_,_,A,h2,_⟩:=hO;exact⟨A,h2⟩
def Pt {lo hi : Option AV} {vl vh : Option Value} {n : Nat} {K : Nat -> Nat -> Prop} (hl : mR g w lo vl) (hh : mR g w hi vh)
    (hK:bound hi n n fun h=>bound lo 0 h fun l=>K l h) :
    ∃ l h:Nat,l<=h/\h<=n/\(Instr.sliceBounds false n n vl vh none).run P w = .ok (l,h,n) w/\K l h:=by
 obtain⟨h,hb,kb1,u9⟩:∃ h:Nat,h<=n/\(match vh with|some v=>Instr.sliceBound v n .sliceAlen|none=>Pure.pure n:Sem Nat).run P w = .ok h w/\bound lo 0 h fun l=>K l h:=by
  cases hi with
  | none => cases vh with
    | none=>exact⟨n,Nat.le_refl _,rfl,hK⟩
    | some v=>exact hh.elim
  | some u => cases vh with
    | none=>exact hh.elim
    | some v =>
      have GI:VR g w u v:=hh;cases GI<;>simp only[bound]at hK
      case int k i=>exact⟨i.toNat,by omega,mQ hK.1 (by omega),hK.2.2⟩
 obtain⟨l,lb,r1,r2⟩:∃ l:Nat,l<=h/\(match vl with|some v=>Instr.sliceBound v h .sliceB|none=>Pure.pure 0:Sem Nat).run P w = .ok l w/\K l h:=by
  cases lo with
  | none => cases vl with
    | none=>exact⟨0,bJ _,rfl,u9⟩
    | some v=>exact hl.elim
  | some u => cases vl with
    | none=>exact hl.elim
    | some v =>
      have hl':VR g w u v:=hl;cases hl'<;>simp only[bound]at u9
      case int k i=>exact⟨i.toNat,by omega,mQ u9.1 u9.2.1,u9.2.2⟩
 refine⟨l,h,lb,hb,?_,r2⟩;cases vh<;>cases vl<;>simp_all[Instr.sliceBounds]
def UO {t e : TypeId} {el : El} {n : Nat} {p : AV} {a : Value} {lo hi : Option AV} {vl vh : Option Value} (hR : Rel g w σ) (hu : P.underlying t = some (.array n e)) (he : iP P e = some el)
    (hx:VR g w p a) (hl:mR g w lo vl) (hh:mR g w hi vh) (hK:zS el n p lo hi fun v=>K v σ):bC P (Instr.sliceAt t a vl vh none) g w σ K:=by
 obtain⟨fi,hi',_,hs,_⟩:=gH he;obtain⟨hp,hK⟩:=hK;obtain⟨A,rfl⟩:=Ps hp hx;obtain⟨l,h,q1,q2,q3,q4⟩:=Pt (P:=P) hl hh hK;refine bC.pure hR (v:= .slice (some (if n=l then A else A.add (l*el.sz))) (h-l) (n-l)) ?_ ?_ q4
 ·simp[Instr.sliceAt,aQ hu,Instr.sureAddr,q3,cW hi',hs]
 ·by_cases e:h=l
  ·subst e;rw[if_pos rfl];simpa using VR.iO (g:=g) (w:=w) false el (some (if n=h then A else A.add (h*el.sz))) (n-h) (by simp)
  ·rw[if_neg e,if_neg (by omega)];exact .sK el _ _ _ _ (by omega) (by omega) (aan _ hp hx)
def Aa {ats : Array TypeId} {r sT e : TypeId} {fi : TypeInfo} {w' : World} {base : Option Addr} {dl dc N : Nat} {b : Value} {us : Array Value}
    (h0:ats[0]? = some sT) (hu:P.underlying sT=some (.slice e)) (hi:P.info? e=some fi) (hl:(Builtin.lenOf b).run P w = .ok N w)
    (hf:(Builtin.firstCells fi.size (min N dl) b).run P w = .ok us w) (hst:∀ A,base=some A->(storeCells A us.toList).run P w = .ok () w') (hn:base=none->w'=w) :
    (Builtin.copy_ ats r #[.slice base dl dc,b]).run P w = .ok (.int .i64 (min N dl:Nat)) w':=by
 have vS:(Builtin.firstCells fi.size (N.min dl) b).run P w = .ok us w:=hf;unfold Builtin.copy_;simp only[fy,eO,dQ,h0,Sem.run_bind,aQ hu,Result.andThen_ok,hl,cW hi,vS];cases base with
 | none=>rw[hn rfl];rfl
 | some A=>simp[hst A rfl,goInt]
def Kz{el:El}{ys:List AV}(h:ys.all (fun a=>a.fits el)=true)(m:Nat): ∀ i,i<(ys.take m).length->((ys.take m).getD i .undef).fits el=true:=fun i hi=>by
 simp only[List.length_take]at hi;have h1:i<ys.length:=by omega
 have h2:i<m:=by omega
 have:=aX.1 h (ys[i]) (cU _);simpa[h1,h2]using this
def Ss {ats : Array TypeId} {r sT e : TypeId} {el : El} {x y : AV} {a b : Value} (hR : Rel g w σ)
    (h0:ats[0]? = some sT) (hu:P.underlying sT=some (.slice e)) (he:iP P e=some el)
    (hx:VR g w x a) (hy:VR g w y b) (qV:Gv σ el x y K):bC P (Builtin.copy_ ats r #[a,b]) g w σ K:=by
 obtain⟨fi,hi',_,hs,_⟩:=gH he
 have St:∀ {base:Option Addr} {dc:Nat},a = .slice base 0 dc->(∀ ys:List AV,BX σ el x ys K->K (.int .i64 0) σ)->bC P (Builtin.copy_ ats r #[a,b]) g w σ K:=fun {base dc} ha hk=>by
  obtain⟨ys,us,k1,k2,k3,k4,k5⟩:=sR (P:=P) 0 hR hy qV;have y_:us = #[]:=eR (by simpa using k4);subst ha;refine bC.pure hR (v:= .int .i64 (min ys.length 0:Nat)) (Aa (us:=us) h0 hu hi' k2 (by rw[hs];exact k3) (fun A _=>by rw[y_];simp[storeCells]) (fun _=>rfl)) (by simpa using VR.int _ _) (hk ys k1.2)
 cases hx<;>(try exact(let ⟨_,_,h,_⟩:=sR (P:=P) 0 hR hy qV;h.2.elim))
 case au=>exact St rfl fun ys h=>h
 case iO f bq base cap hf=>exact St rfl fun ys h=>h.2
 case aO f bq xs b' off cap hi hf hx ft hc h =>
  cases xs with
  | nil=>exact St rfl fun ys h=>h.2
  | cons z zs=>exact(let ⟨_,_,h,_⟩:=sR (P:=P) 0 hR hy qV;h.2.elim)
 case sK bq p n A cap hn hc h =>
  obtain⟨ys,us,⟨hfit,hK⟩,k2,k3,k4,k5⟩:=sR (P:=P) n hR hy qV;obtain⟨rfl,rfl,hK⟩:=hK;have ht:=Kz hfit n;have hlen:(ys.take n).length=min n ys.length:=by simp
  obtain⟨A',w',g',σ',e1,r1,r2,r3,r4⟩:=Eu (P:=P) (x:= .agg (ys.take n)) (us:=us.toList) hR h (by simp only[AV.cells,eF,k4,hlen];omega) (fun i hi=>by
   simp only[AV.cells]at hi ⊢;have h1:=k5 i 0 hi (by simp);have h2:=ht i hi
   have hc0:((ys.take n).getD i .undef).cell 0=(ys.take n).getD i .undef:=by
    generalize (ys.take n).getD i .undef=z at h2;cases z<;>first|rfl|(simp[AV.fits]at h2;done)
   rw[hc0]at h1;simpa using h1) (oN k5 (by rw[k4,hlen];congr 1;omega) ht) hK
  cases e1;exact⟨_,_,g',_,_,Aa (us:=us) h0 hu hi' k2 (by rw[hs];exact k3) (fun A e=>by cases e;exact r1) (fun e=>by cases e),r2,r3,.int _ _,r4⟩
 case own bq l m o n h =>
  have sS:VR g w (.own bq l m o n) a:= .own _ _ _ _ _ _ h;obtain⟨ys,us,⟨hfit,hK⟩,k2,k3,k4,k5⟩:=sR (P:=P) n hR hy qV;obtain⟨rfl,hK⟩:=hK;obtain⟨q1,q2,A,cap,rfl,q3⟩:=h;split at hK
  ·rename_i T bj xs hxs;obtain⟨rfl,rfl,k6,hK⟩:=hK;have ht:=Kz hfit n;have hlen:(ys.take n).length=min ys.length n:=by simp;omega
   rcases Nat.eq_zero_or_pos (min ys.length n)with hz|hz
   ·have h1:ys.take n=[]:=fc (by omega);have y_:us = #[]:=eR (by rw[k4,hz];simp);rw[h1]at hK;simp only[eE,Fp hxs]at hK;exact bC.pure hR (Aa (us:=us) h0 hu hi' k2 (by rw[hs];exact k3) (fun A _=>by rw[y_];simp[storeCells]) (fun _=>rfl)) (.int _ _) hK
   ·obtain⟨o1,o2,o3⟩:=hR.ok l _ hxs;obtain⟨q4,q5,q6⟩:=q3 o1.symm;rcases o3 with⟨rfl,_,_⟩|⟨b',vs,b1,b2,b3,b4,b5,b6⟩
    ·simp at q4;omega
    ·have q7:=q6 (by omega);rw[b1]at q7;simp only[aT]at q7;subst q7
     have hrow:g.off l+(o+n)*bj.sz<=vs.size:=by
      have:(o+n)*bj.sz<=g.cap l*bj.sz:=aY _ (by omega);omega
     have hle:min ys.length n*bj.sz<=n*bj.sz:=aY _ (by omega);have hroom:g.off l+o*bj.sz+us.size<=vs.size:=by rw[bE]at hrow;omega
     have hrun:=nV (P:=P) (b:=b') (o:=g.off l+o*bj.sz) us.toList w vs 0 b2 (by simpa using hroom) (oN k5 (by rw[k4,hlen]) ht);obtain⟨f1,f2,f3,f4,f5⟩:=nR w b' (g.off l+o*bj.sz+0) us.toList
     obtain⟨r1,r2⟩:=hR.update (o':= .cz T bj (eE xs o (ys.take n))) hxs rfl b1 f1 f2 f3 f4 f5
      (fun hm => ⟨by rw [fE]; exact o1, fun i hi => by
        rw[fE]at hi;rw[mw _ _ _ (by omega)];split
        ·rename_i hh;exact ht _ (by omega)
        ·exact o2 i hi,
        .inr ⟨b',_,b1,b2.setRow _ _,by rw[size_putRow];exact b3,by rw[fE];exact b4,fun i c hi hc=>by
         rw[fE]at hi;rw[mw _ _ _ (by omega),lX _ _ _ (by simpa using hroom)];simp only[eF,cQ,hlen,k4];by_cases h1:o<=i/\i<o+min ys.length n
         ·obtain⟨j,rfl⟩:∃ j,i=o+j:=⟨i-o,by omega⟩;have hj:j<min ys.length n:=by omega
          have h2:=mS hj hc;rw[if_pos h1,if_pos (by rw[bE];omega),show g.off l+(o+j)*bj.sz+c-(g.off l+o*bj.sz)=j*bj.sz+c by rw[bE];omega,show o+j-o=j by omega];have:=(k5 j c (by omega) hc).mono hm;simpa using this
         ·have hne : ¬ (g.off l + o * bj.sz <= g.off l + i * bj.sz + c /\ g.off l + i * bj.sz + c < g.off l + o * bj.sz + min ys.length n * bj.sz) := by
           rintro⟨z1,z2⟩;rcases Nat.lt_or_ge i o with h2|h2
           ·have:(i+1)*bj.sz<=o*bj.sz:=aY _ h2;rw[cM]at this;omega
           ·have:(o+min ys.length n)*bj.sz<=i*bj.sz:=aY _ (by omega);rw[bE]at this;omega
          rw[if_neg h1,if_neg hne];exact(b5 i c hi hc).mono hm,by
         cases T with
         | none=>trivial
         | some T=>rw[size_putRow];exact⟨(pG _ _ _ _ _).trans b6.1,b6.2⟩⟩⟩)
     exact⟨_,_,g,_,_,Aa (us:=us) h0 hu hi' k2 (by rw[hs];exact k3) (fun A e=>by cases e;exact hrun) (fun e=>by cases e),r1,r2,.int _ _,hK⟩
  ·exact hK.elim
def Pu {ats : Array TypeId} {r sT xT e : TypeId} {d : TypeDesc} {el : El} {base : Option Addr} {sLen sCap : Nat} {x : Value} {us : Array Value}
    (h0:ats[0]? = some sT) (h1:ats[1]? = some xT) (hu:P.underlying sT=some (.slice e)) (hx:P.underlying xT=some d) (hd:∀ k,d≠ .int k) (he:iP P e=some el)
    (hl:(Builtin.lenOf x).run P w = .ok 0 w) (hc:sLen<=sCap) (hn:(Builtin.firstCells el.sz 0 x).run P w = .ok us w) (y_:us = #[]) :
    (Builtin.append_ ats r #[.slice base sLen sCap,x]).run P w = .ok (.slice base sLen sCap) w:=by
 obtain⟨fi,hi,_,hs,_⟩:=gH he;have hfalse:((d matches .int _):Bool)=false:=by cases d<;>first|rfl|exact absurd rfl (hd _)
 rw[y_]at hn;unfold Builtin.append_;simp only[fy,eO,dQ,h0,h1,Sem.run_bind,aQ hu,Result.andThen_ok,cW hi,hs,aQ hx,Sem.run_pure,hfalse,hl,aB,if_false,cQ,if_pos hc,hn,fZ,if_true];cases base<;>simp[storeCells]
def KA {ats : Array TypeId} {r sT xT e : TypeId} {d : TypeDesc} {el : El} {x y : AV} {a b : Value} (hR : Rel g w σ)
    (h0:ats[0]? = some sT) (h1:ats[1]? = some xT) (hu:P.underlying sT=some (.slice e)) (hd':P.underlying xT=some d) (hd:∀ k,d≠ .int k) (he:iP P e=some el)
    (hx:VR g w x a) (hy:VR g w y b) (qV:Fg σ el x y K):bC P (Builtin.append_ ats r #[a,b]) g w σ K:=by
 unfold Fg at qV;split at qV
 ·rename_i bq l m lo n;obtain⟨rfl,qV⟩:=qV;have sS:=hx;cases hx;rename_i h;obtain⟨q1,q2,A,cap,rfl,q3⟩:=h;obtain⟨ys,news,⟨hfit,hK⟩,hl,u_,hsz,hh⟩:=mT (P:=P) hR hy qV
  have x2:∀ i,i<ys.length->(ys.getD i .undef).fits bq=true:=fun i hi=>by
   have:=aX.1 hfit (ys[i]) (cU _);simpa[hi]using this
  have h1c:=oN hh hsz x2;split at hK
  ·rename_i T bj xs hxs;obtain⟨rfl,rfl,k3,hr,hK⟩:=hK;obtain⟨o1,o2,o3⟩:=hR.ok l _ hxs;obtain⟨q4,q5,q6⟩:=q3 o1.symm;rcases o3 with⟨rfl,_,_⟩|⟨b',vs,b1,b2,b3,b4,b5,b6⟩
   ·simp at k3
   have hfo:vs.size=g.off l+(lo+1)*bj.sz+cap*bj.sz:=by
    rw[b3,<-q5,bE cap,Nat.add_comm (cap*_),Nat.add_assoc]
   have KB:(xs.drop (lo+1)).length=n:=by simp;omega
   have hzl:(xs.drop (lo+1)++ys).length=n+ys.length:=by simp;omega
   have Kt:∀ i,i<(xs.drop (lo+1)++ys).length->((xs.drop (lo+1)++ys).getD i .undef).fits bj=true:=fun i hi=>by
    rw[hzl]at hi;by_cases h:i<n
    ·have:=o2 (lo+1+i) (by omega);have h':i<(xs.drop (lo+1)).length:=by omega
     simpa[aH h']using this
    ·obtain⟨j,rfl⟩:∃ j,i=n+j:=⟨i-n,by omega⟩;have:=x2 j (by omega);rw[<-KB];simpa[bL]using this
   have left:∀ i c,i<n->c<bj.sz->VR g w (((xs.drop (lo+1)).getD i .undef).cell c) (vs.getD (g.off l+(lo+1)*bj.sz+i*bj.sz+c) Go.undef):=fun i c hi hc=>by
    have:=b5 (lo+1+i) c (by omega) hc;rw[show g.off l+(lo+1+i)*bj.sz+c=g.off l+(lo+1)*bj.sz+i*bj.sz+c by rw[bE (lo+1)];omega]at this;rw[show (xs.drop (lo+1)).getD i .undef=xs.getD (lo+1+i) .undef by simp];exact this
   have abN:∀ i,i<n->(xs.drop (lo+1)++ys).getD i .undef=(xs.drop (lo+1)).getD i .undef:=fun i hi=>by
    have h':i<(xs.drop (lo+1)).length:=by omega
    simp[aH h']
   have afr:∀ j,(xs.drop (lo+1)++ys).getD (n+j) .undef=ys.getD j .undef:=fun j=>by
    rw[<-KB];simp[bL]
   by_cases hc:n+ys.length<=cap
   ·rcases Nat.eq_zero_or_pos ys.length with hz|hz
    ·have hys:ys=[]:=fc hz;subst hys;have hne:news = #[]:=eR (by simpa using hsz);have hrun:=Pu (P:=P) (r:=r) (base:=A) (sLen:=n) (sCap:=cap) h0 h1 hu hd' hd he hl (by simpa using hc) (u_ w rfl) hne
     obtain⟨r1,r2⟩:=hR.Zt (w':=w) hxs rfl b1 n cap (g.off l+(lo+1)*bj.sz) (.vec bj (xs.drop (lo+1)++[])) rfl rfl rfl rfl (fun _ _=>rfl)
      (fun hm => ⟨by simp [aJ.push]; omega, Kt, .inr ⟨b', vs, by simp [aJ.push], b2, by simp [aJ.push]; exact hfo, by simp [aJ.push]; omega, fun i c hi ko => by
        rw[hzl]at hi;rw[Fo];rw[abN i (by simpa using hi)];exact(left i c (by simpa using hi) ko).mono hm,trivial⟩⟩)
     refine⟨_,_,_,_,_,hrun,r1,r2,.own _ _ _ _ _ _ ⟨by simp[aJ.push,hR.len],by simp[aJ.push,hR.len],_,_,rfl,fun _=>⟨by omega,by simp[aJ.push,hR.len],fun hlt=>?_⟩⟩,hK⟩;simp only[aJ.push,hR.len,if_true]at hlt ⊢;rw[q6 (by omega),b1];simp
    ·have q7:=q6 (by omega);rw[b1]at q7;simp only[aT]at q7;subst q7;have hle:(n+ys.length)*bj.sz<=cap*bj.sz:=aY _ hc;rw[bE]at hle;have hroom:g.off l+(lo+1)*bj.sz+n*bj.sz+news.size<=vs.size:=by omega
     have hrun:=Ew (P:=P) (r:=r) (b:=b') (o:=g.off l+(lo+1)*bj.sz) (sLen:=n) h0 h1 hu hd' hd he hl hc (u_ w rfl) b2 hroom h1c;obtain⟨f1,f2,f3,f4,f5⟩:=nR w b' (g.off l+(lo+1)*bj.sz+n*bj.sz) news.toList
     obtain⟨r1,r2⟩:=hR.Zt hxs rfl b1 (n+ys.length) cap (g.off l+(lo+1)*bj.sz) (.vec bj (xs.drop (lo+1)++ys)) f1 f2 f3 f4 f5
      (fun hm => ⟨by simp [aJ.push]; omega, Kt, .inr ⟨b', _, by simp [aJ.push], b2.setRow _ _, by rw [size_putRow]; simp [aJ.push]; exact hfo, by simp [aJ.push]; omega, fun i c hi ko => by
        rw[hzl]at hi;rw[Fo];rw[lX _ _ _ (by simpa using hroom)];simp only[eF,hsz];by_cases h:i<n
        ·have h2:=mS h ko;rw[if_neg (by omega),abN i h];exact(left i c h ko).mono hm
        ·obtain⟨j,rfl⟩:∃ j,i=n+j:=⟨i-n,by omega⟩;have hj:j<ys.length:=by omega
         have h2:=mS hj ko;rw[afr,if_pos (by rw[bE n];omega),show g.off l+(lo+1)*bj.sz+(n+j)*bj.sz+c-(g.off l+(lo+1)*bj.sz+n*bj.sz)=j*bj.sz+c by rw[bE n];omega];have:=(hh j c hj ko).mono hm;simpa using this,trivial⟩⟩)
     refine⟨_,_,_,_,_,hrun,r1,r2,.own _ _ _ _ _ _ ⟨by simp[aJ.push,hR.len],by simp[aJ.push,hR.len],_,_,rfl,fun _=>⟨by omega,by simp[aJ.push,hR.len],fun hlt=>?_⟩⟩,hK⟩;simp[aJ.push,hR.len]
   ·obtain⟨xs',olds,p1,p2,p3,p4,p5⟩:=mT (P:=P) (K:=fun zs=>zs=(xs.drop (lo+1)).take n) (el:=bj) hR sS (by simp[fP,hxs]);have afs:xs'=xs.drop (lo+1):=by rw[p1];exact bp (by omega)
    subst afs;rw[KB]at p2 p3 p4;obtain⟨cap',rest,dr,k1,k2,k6⟩:=Fl (P:=P) (r:=r) (base:=A) (sLen:=n) (sCap:=cap) h0 h1 hu hd' hd he hl (by omega) hr (fun _=>p3 _ rfl) (fun _=>u_ _ rfl);have k4:=p5.append (rest:=rest) hh (by rw[KB];exact p4) hsz
    have k3:(olds++news++rest).size=cap'*bj.sz:=by
     simp only[Array.size_append,p4,hsz,k2];rw[<-bE,<-bE]
     congr 1
     omega
    obtain⟨r0,e0⟩:=hR.kill hxs rfl;have kV:=r0.drew dr;have hm:=kj g { w with drawn:=dr } (.cells (olds++news++rest) e) (n+ys.length) (some w.heap.size) cap' kV.lt
    obtain⟨r1,r2⟩:=kV.pF (.cells (olds++news++rest) e) (.vec bj (xs.drop (lo+1)++ys)) (n+ys.length) cap'
     ⟨by simp [aJ.push]; omega, Kt, .inr ⟨w.heap.size, _, by simp [aJ.push], mP _ _ e, by simp only [aJ.push, if_true, b_]; exact k3, by simp [aJ.push]; omega, fun i c hi hc => by
       rw[Fo,b_];exact((k4 i c hi hc).mono (fC.drew σ g w dr).mono).mono hm,trivial⟩⟩
    have hlen:=hR.len;refine⟨_,_,_,_,_,k6,r1,e0.trans ((fC.drew (σ.set l .dead) g w dr).trans r2),.own _ _ _ _ _ _ ⟨by simp[aJ.push,hR.len],by simp[aJ.push,hR.len],_,_,rfl,fun _=>⟨by omega,by simp[aJ.push,hR.len],fun _=>by simp[aJ.push,hR.len]⟩⟩,hK⟩
  ·exact hK.elim
 ·exact xZ hR h0 h1 hu hd' hd he hx hy (.inl rfl) qV
def UP{x:AV}{v:Value}(hR:Rel g w σ)(hx:VR g w x v)(hK:zW σ x K): bC P (pure v) g w σ K:=by
 unfold zW at hK;split at hK
 ·exact .pure hR rfl hx hK
 ·exact .pure hR rfl hx hK
 ·rename_i el l m lo n;split at hK
  ·rename_i T bq xs hl;obtain⟨rfl,rfl,hn,hK⟩:=hK;cases hx with
   | own _ _ _ _ _ _ hO =>
   obtain⟨_,_,A,cap,rfl,h4⟩:=hO;obtain⟨lg,pB,hrow⟩:=hR.ok l _ hl;have hlen:((xs.drop lo).take n).length=n:=by simp;omega
   by_cases KC:n=0
   ·subst KC;rw[List.take_zero]at hK;obtain⟨r1,r2⟩:=hR.kill hl rfl;exact⟨_,w,_,_,_,rfl,r1,r2,.iO false bq A cap (fun h=>by cases h),hK⟩
   rcases hrow with⟨hx,_,_⟩|⟨b,vs,hb,hrow,hsz,hle,hc,_⟩
   ·subst hx;simp at hn;omega
   obtain⟨_,h6,h7⟩:=h4 lg.symm;have hlt:lo<g.cap l:=by omega
   have hA:=h7 hlt;rw[hb]at hA;simp only[aT]at hA;subst hA
   have hidx:∀ i c,i<n->c<bq.sz->g.off l+(lo+i)*bq.sz+c<vs.size:=fun i c h1 h2=>by
    rw[hsz];have:(lo+i)*bq.sz+bq.sz<=g.cap l*bq.sz:=by rw[<-cM];exact aY _ (by omega)
    omega
   have hoff:∀ i c,g.off l+lo*bq.sz+(i*bq.sz+c)=g.off l+(lo+i)*bq.sz+c:=fun i c=>by rw[bE];omega
   have nx:∀ i,i<n->((xs.drop lo).take n).getD i .undef=xs.getD (lo+i) .undef:=fun i hi=>by
    simp[aj,List.getElem?_take,hi]
   obtain⟨r1,r2⟩:=hR.freeze hl rfl hb;refine⟨_,w,_,_,_,rfl,r1,r2,?_,hK⟩;have key:=VR.aO (g:=g.iB b) (w:=w) false bq ((xs.drop lo).take n) b (g.off l+lo*bq.sz) cap (.inr rfl) (fun h=>by cases h) (by omega) (fun i h1=>?_) (fun i c h1 h2=>?_) (fun i c h1 h2=>?_)
   ·rw[hlen]at key;exact key
   ·rw[hlen]at h1;rw[nx i h1];exact pB (lo+i) (by omega)
   ·rw[hlen]at h1;rw[hoff,hrow.cell (hidx i c h1 h2)];rfl
   ·rw[hlen]at h1;rw[hoff,nx i h1]
    have e1:dD w ⟨b,g.off l+(lo+i)*bq.sz+c,none⟩=vs.getD (g.off l+(lo+i)*bq.sz+c) Go.undef:=by
     simp only[dD,hrow.cell (hidx i c h1 h2),bA]
    rw[e1];exact(hc (lo+i) c (by omega) h2).mono r2.mono
  ·exact hK.elim
 ·exact hK.elim
def Sv {ats : Array TypeId} {r sT xT e : TypeId} {d : TypeDesc} {el : El} {x y : AV} {a b : Value} (hR : Rel g w σ)
    (h0:ats[0]? = some sT) (h1:ats[1]? = some xT) (hu:P.underlying sT=some (.slice e)) (hd':P.underlying xT=some d) (hd:∀ k,d≠ .int k) (he:iP P e=some el)
    (hx:VR g w x a) (hy:VR g w y b) (qV:DM σ el x y fun v=>K v σ):bC P (Builtin.append_ ats r #[a,b]) g w σ K:=by
 obtain⟨ys,news,⟨hfit,hz,hK⟩,hl,u_,hsz,hh⟩:=mT (P:=P) hR hy qV
 have x2:∀ i,i<ys.length->(ys.getD i .undef).fits el=true:=fun i hi=>by
  have:=aX.1 hfit (ys[i]) (cU _);simpa[hi]using this
 have hn:∀ dr,(Builtin.firstCells el.sz ys.length b).run P { w with drawn:=dr } = .ok news { w with drawn:=dr }:=fun dr=>u_ _ rfl
 have key:∀ (xs:List AV) (olds:Array Value) (base:Option Addr) (sCap:Nat),a = .slice base xs.length sCap->sCap<xs.length+ys.length->fR (xs.length+ys.length) el ->
  (∀ dr,(Builtin.firstCells el.sz xs.length (.slice base xs.length sCap)).run P { w with drawn:=dr } = .ok olds { w with drawn:=dr }) ->
  olds.size=xs.length*el.sz->ic g w el xs olds->(∀ i,i<xs.length->(xs.getD i .undef).fits el=true)->K (.aO false el (xs++ys)) σ->bC P (Builtin.append_ ats r #[a,b]) g w σ K:=by
  intro xs olds base sCap ha hc hr ho hos hoh hof hk;obtain⟨cap,rest,dr,k1,k2,k3⟩:=Fl (P:=P) (r:=r) h0 h1 hu hd' hd he hl hc hr ho hn;have hzs:ic g w el (xs++ys) (olds++news++rest):=hoh.append hh hos hsz
  have hsize:(olds++news++rest).size=cap*el.sz:=by
   simp only[Array.size_append,hos,hsz,k2];rw[<-bE,<-bE]
   congr 1
   omega
  have Kt:∀ i,i<(xs++ys).length->((xs++ys).getD i .undef).fits el=true:=fun i hi=>by
   simp only[aA]at hi;by_cases h:i<xs.length
   ·have:=hof i h;simpa[aH h]using this
   ·obtain⟨j,rfl⟩:∃ j,i=xs.length+j:=⟨i-xs.length,by omega⟩;have:=x2 j (by omega);simpa[bL]using this
  have kV:=hR.drew dr;have hrow:=mP { w with drawn:=dr } (olds++news++rest) e;have hm:=ud g { w with drawn:=dr } (.cells (olds++news++rest) e) kV.lt;obtain⟨r1,r2⟩:=kV.MK (.cells (olds++news++rest) e)
  have hlt:∀ i c,i<(xs++ys).length->c<el.sz->i*el.sz+c<(olds++news++rest).size:=fun i c hi hc=>by
   rw[hsize]
   have h2:i*el.sz+el.sz<=cap*el.sz:=by
    rw[<-cM];refine aY _ ?_;simp only[aA]at hi;omega
   omega
  refine⟨_,_,_,_,σ,by rw[ha];exact k3,r1,(fC.drew σ g w dr).trans r2,?_,hk⟩
  have:=VR.aO (g:=g.iB w.heap.size) (w:=World.alloc { w with drawn:=dr } (.cells (olds++news++rest) e)) false el (xs++ys) w.heap.size 0 cap (.inr rfl) (fun h=>by cases h) (by simpa using k1) Kt
   (fun i c hi hc=>by rw[b_,hrow.cell (hlt i c hi hc)];rfl)
   (fun i c hi hc => by
     have e1:dD (World.alloc { w with drawn:=dr } (.cells (olds++news++rest) e)) ⟨w.heap.size,0+(i*el.sz+c),none⟩=(olds++news++rest).getD (i*el.sz+c) Go.undef:=by
      unfold dD;rw[Nat.zero_add,hrow.cell (hlt i c hi hc)];rfl
     rw[e1];exact((hzs i c hi hc).mono (fC.drew σ g w dr).mono).mono hm)
  simpa using this
 cases hx<;>(try exact False.elim hK)
 case au =>
  exact key [] #[] none 0 rfl (by simp;omega) (by simpa using hK.1) (fun _=>rfl) (by simp) (fun i c hi=>absurd hi (cG _)) (fun i hi=>absurd hi (cG _)) hK.2
 case iO f bq base cap hf =>
  cases f with
  | false=>exact hK.elim
  | true =>
    obtain⟨rfl,hr,hK⟩:=hK;have hcap:cap=0:=hf rfl;subst hcap;exact key [] #[] base 0 rfl (by simp;omega) (by simpa using hr) (fun _=>by cases base<;>simp[Builtin.firstCells,loadCells,loadCellsFrom]) (by simp) (fun i c hi=>absurd hi (Nat.not_lt_zero _)) (fun i hi=>absurd hi (Nat.not_lt_zero _)) hK
 case aO f bq xs b' off cap y9 hf Bi ft hc h =>
  cases f with
  | false=>exact hK.elim
  | true =>
    obtain⟨rfl,hr,hK⟩:=hK;have hcap:cap=xs.length:=hf rfl;subst hcap;have sS:VR g w (.aO true bq xs) (.slice (some ⟨b',off,none⟩) xs.length xs.length):= .aO true bq xs b' off _ y9 hf Bi ft hc h;obtain⟨xs',olds,q1,q2,q3,q4,q5⟩:=mT (P:=P) (K:=fun zs=>zs=xs) (el:=bq) hR sS (by simp[fP]);subst q1;exact key xs' olds _ xs'.length rfl (by omega) hr (fun _=>q3 _ rfl) q4 q5 ft hK
def qX {lo : Option AV} {hi mx : AV} {vl : Option Value} {vh vm : Value} {len cap XD : Nat} {K : Nat -> Nat -> Nat -> Prop} (hl : mR g w lo vl) (hh : VR g w hi vh) (hm : VR g w mx vm) (gy : XD <= cap)
    (hK:oK lo hi mx XD K) :
    ∃ l h m:Nat,l<=h/\h<=m/\m<=XD/\(Instr.sliceBounds true len cap vl (some vh) (some vm)).run P w = .ok (l,h,m) w/\K l h m:=by
 unfold oK at hK;cases hm<;>simp only[bound]at hK;rename_i k1 m;obtain⟨m0,m1,hK⟩:=hK;cases hh<;>simp only[bound]at hK;rename_i k2 h;obtain⟨h0,h1,hK⟩:=hK;have e1:=mQ (P:=P) (w:=w) (k:=k1) (code:= .slice3Acap) m0 (show m<=(cap:Int) by omega);have e2:=mQ (P:=P) (w:=w) (k:=k2) (code:= .slice3B) h0 (show h<=(m.toNat:Int) by omega)
 obtain⟨l,lb,r1,r2⟩:∃ l:Nat,l<=h.toNat/\(match vl with|some v=>Instr.sliceBound v h.toNat .slice3C|none=>Pure.pure 0:Sem Nat).run P w = .ok l w/\K l h.toNat m.toNat:=by
  cases lo with
  | none => cases vl with
    | none=>exact⟨0,bJ _,rfl,hK⟩
    | some v=>exact hl.elim
  | some u => cases vl with
    | none=>exact hl.elim
    | some v =>
      have hl':VR g w u v:=hl;cases hl'<;>simp only[bound]at hK
      case int k i=>exact⟨i.toNat,by omega,mQ hK.1 hK.2.1,hK.2.2⟩
 refine⟨l,h.toNat,m.toNat,lb,by omega,by omega,?_,r2⟩;cases vl<;>simp_all[Instr.sliceBounds]
def Ca {t e : TypeId} {el : El} {x hi mx : AV} {a vh vm : Value} {lo : Option AV} {vl : Option Value} (hR : Rel g w σ) (hu : P.underlying t = some (.slice e)) (he : iP P e = some el)
    (hx:VR g w x a) (hl:mR g w lo vl) (hh:VR g w hi vh) (hm:VR g w mx vm) (hK:yK σ el x lo hi mx K):bC P (Instr.sliceAt t a vl (some vh) (some vm)) g w σ K:=by
 obtain⟨fi,hi',_,hs,_⟩:=gH he
 have run:∀ (A:Option Addr) (len cap l h m:Nat),(Instr.sliceBounds true len cap vl (some vh) (some vm)).run P w = .ok (l,h,m) w ->
  (Instr.sliceAt t (.slice A len cap) vl (some vh) (some vm)).run P w = .ok (.slice (if m=l then A else A.map (·.add (l*el.sz))) (h-l) (m-l)) w:=fun A len cap l h m hb=>by
  simp only[Instr.sliceAt,Sem.run_bind,aQ hu,Result.andThen_ok,Instr.slice,hb,cW hi',hs,Sem.run_pure]
 have abO:∀ {g:aJ} {w:World} {xs:List AV} {b off cap l h m:Nat},g.fL b->xs.length<=cap->h<=xs.length->l<h->h<=m->(∀ i,i<xs.length->(xs.getD i .undef).fits el=true) ->
  (∀ i c,i<xs.length->c<el.sz->(w.cell? ⟨b,off+(i*el.sz+c),none⟩).isSome=true)->(∀ i c,i<xs.length->c<el.sz->VR g w ((xs.getD i .undef).cell c) (dD w ⟨b,off+(i*el.sz+c),none⟩)) ->
  VR g w (.aO (h==m) el ((xs.drop l).take (h-l))) (.slice (some ⟨b,off+l*el.sz,none⟩) (h-l) (m-l)):=by
  intro g w xs b off cap l h m y9 Bi hhl hlt hhm ft hc h';have hlen:((xs.drop l).take (h-l)).length=h-l:=by simp;omega
  have nx:∀ i,i<h-l->((xs.drop l).take (h-l)).getD i .undef=xs.getD (l+i) .undef:=fun i hi=>ia hi;have hoff:∀ i c,off+l*el.sz+(i*el.sz+c)=off+((l+i)*el.sz+c):=fun i c=>by rw[bE];omega
  have:=VR.aO (g:=g) (w:=w) (h==m) el ((xs.drop l).take (h-l)) b (off+l*el.sz) (m-l) y9 (fun e=>by rw[hlen];have:=beq_iff_eq.1 e;omega) (by rw[hlen];omega)
   (fun i hi=>by rw[hlen]at hi;rw[nx i hi];exact ft _ (by omega))
   (fun i c hi gy=>by rw[hlen]at hi;rw[hoff];exact hc _ c (by omega) gy)
   (fun i c hi gy=>by rw[hlen]at hi;rw[nx i hi,hoff];exact h' _ c (by omega) gy)
  rwa[hlen]at this
 unfold yK at hK;cases hx<;>simp only at hK
 case au =>
  obtain⟨l,h,m,q1,q2,q3,q4,q5⟩:=qX (P:=P) (len:=0) (cap:=0) hl hh hm (Nat.le_refl _) hK;have:h=0/\l=0/\m=0:=by omega
  obtain⟨rfl,rfl,rfl⟩:=this;refine bC.pure hR (run none 0 0 0 0 0 q4) ?_ q5;simpa using VR.au
 case iO f bq b cap hf =>
  obtain⟨rfl,hK⟩:=hK;obtain⟨l,h,m,q1,q2,q3,q4,q5⟩:=qX (P:=P) (len:=0) (cap:=cap) hl hh hm (bJ _) hK;have q3:m<=0:=q3;have:h=0/\l=0/\m=0:=by omega
  obtain⟨rfl,rfl,rfl⟩:=this;refine bC.pure hR (run b 0 cap 0 0 0 q4) ?_ q5;simpa using VR.iO (g:=g) (w:=w) true bq b 0 (by simp)
 case aO f bq xs b off cap y9 hf Bi ft hc h =>
  obtain⟨rfl,hK⟩:=hK;obtain⟨l,h',m,q1,q2,q3,q4,q5⟩:=qX (P:=P) (len:=xs.length) (cap:=cap) hl hh hm Bi hK;refine bC.pure hR (run _ _ _ _ _ _ q4) ?_ q5;by_cases e:h'=l
  ·subst e;simpa using VR.iO (h'==m) _ _ (m-h') (fun e=>by have:=beq_iff_eq.1 e;omega)
  ·rw[if_neg (by omega)];simp only[aT,add_plain];exact abO y9 Bi (by omega) (by omega) q2 ft hc h
 case own bq l0 m0 o n h =>
  obtain⟨rfl,hK⟩:=hK;obtain⟨q1,q2,A,cap,rfl,q3⟩:=h;split at hK
  ·rename_i T bj xs hxs;obtain⟨rfl,rfl,sr,hK⟩:=hK;obtain⟨o1,o2,o3⟩:=hR.ok l0 _ hxs;obtain⟨q4,q5,q6⟩:=q3 o1.symm
   have hcap:xs.length<=g.cap l0:=by
    rcases o3 with⟨rfl,_,_⟩|⟨b,vs,b1,b2,b3,b4,b5⟩
    ·exact bJ _
    ·exact b4
   obtain⟨l,h',m,p1,p2,p3,p4,p5⟩:=qX (P:=P) (len:=n) (cap:=cap) hl hh hm (by omega) hK;split at p5
   ·rename_i e;subst e;have:h'=m:=by omega
    subst this;refine bC.pure hR (run _ _ _ _ _ _ p4) ?_ p5;simpa using VR.iO (g:=g) (w:=w) true bj A 0 (by simp)
   ·rename_i e;obtain⟨rfl,p5⟩:=p5;rcases o3 with⟨rfl,_,_⟩|⟨b,vs,b1,b2,b3,b4,b5,_⟩
    ·simp at q4;omega
    have q7:=q6 (by omega);rw[b1]at q7;simp only[aT]at q7;subst q7;obtain⟨r1,r2⟩:=hR.freeze hxs rfl b1;refine⟨_,w,g.iB b,_,_,run _ _ _ _ _ _ p4,r1,r2,?_,p5⟩;rw[if_neg (by omega)];simp only[aT,add_plain]
    have hlt:∀ i c,i<xs.length->c<bj.sz->g.off l0+(i*bj.sz+c)<vs.size:=fun i c hi hc=>by
     rw[b3];have:i*bj.sz+bj.sz<=g.cap l0*bj.sz:=by rw[<-cM];exact aY _ (by omega)
     omega
    have hcell:∀ i c,i<xs.length->c<bj.sz->w.cell? ⟨b,g.off l0+(i*bj.sz+c),none⟩=some (vs.getD (g.off l0+i*bj.sz+c) Go.undef):=fun i c hi hc=>by
     rw[b2.cell (hlt i c hi hc),Nat.add_assoc]
    have:=abO (g:=g.iB b) (w:=w) (xs:=xs) (b:=b) (off:=g.off l0) (cap:=xs.length) (l:=o+l) (h:=o+h') (m:=o+h') (.inr rfl) (Nat.le_refl _) (by omega) (by omega) (Nat.le_refl _) o2
     (fun i c hi hc=>by rw[hcell i c hi hc];rfl)
     (fun i c hi hc => by
       have e1:dD w ⟨b,g.off l0+(i*bj.sz+c),none⟩=vs.getD (g.off l0+i*bj.sz+c) Go.undef:=by unfold dD;rw[hcell i c hi hc];rfl
       rw[e1];exact(b5 i c hi hc).mono r2.mono)
    rw[show (o+h')-(o+l)=h'-l by omega]at this;rw[Nat.add_assoc,<-bE];simpa using this
  ·exact hK.elim
def Sw {t e : TypeId} {el : El} {x hi mx : AV} {a vh vm : Value} {lo : Option AV} {vl : Option Value} (hR : Rel g w σ) (hu : P.underlying t = some (.slice e)) (he : iP P e = some el)
    (hx:VR g w x a) (hl:mR g w lo vl) (hh:VR g w hi vh) (hm:VR g w mx vm) (hK:uK el x lo hi mx fun v=>K v σ):bC P (Instr.sliceAt t a vl (some vh) (some vm)) g w σ K:=by
 unfold uK at hK;split at hK
 ·exact Ca hR hu he hx hl hh hm hK
 ·exact Ca hR hu he hx hl hh hm hK
 ·rename_i bq l0 m0 o n;obtain⟨rfl,hK⟩:=hK;obtain⟨fi,hi',_,hs,_⟩:=gH he;cases hx with
  | own bq l0 m0 o n v h =>
  obtain⟨q1,q2,A,cap,rfl,q3⟩:=h;obtain⟨l,h,m,p1,p2,p3,p4,p5⟩:=qX (P:=P) (len:=n) (cap:=cap) hl hh hm (bJ _) hK;have:h=0/\l=0/\m=0:=by omega
  obtain⟨rfl,rfl,rfl⟩:=this;refine bC.pure hR (v:= .slice A 0 0) ?_ (.iO true _ A 0 (by simp)) p5;simp only[Instr.sliceAt,Sem.run_bind,aQ hu,Result.andThen_ok,Instr.slice,p4,cW hi',hs,Sem.run_pure];simp
 ·exact hK.elim
def Sx{t:TypeId}{name:String}{f:FuncId}{v:Value}(h:MO P t name=some f)(n:Nat): (method (n+1) t v name).run P w = .ok (f,v) w:=by
 unfold MO at h;split at h
 ·rename_i i te hi hu;split at h
  ·rename_i m hm;split at h
   ·rename_i f' hf;split at h
    ·rename_i hp;cases h;have M1:m.path.toList=[]:=by simpa using hp
     simp[method,run_typeInfo hi,hm,M1,hf,follow,receiverAt,aQ hu,Place.get]
    ·cases h
   ·cases h
  ·cases h
 ·cases h
def UQ {T xt : TypeId} {d : TypeDesc} {ok : Bool} {zero x : AV} {a : Value} (hR : Rel g w σ) (hu : P.underlying T = some d) (hd : ∀ l, d ≠ .interface l) (hz : jf P T = some zero) (hx : VR g w x a)
    (hK:zT T ok zero x fun v=>K v σ):bC P (Instr.typeAssert a xt T ok) g w σ K:=by
 obtain⟨z,Kx,Ky⟩:=rO hz w;unfold zT at hK;cases hx<;>(try exact False.elim hK)
 case jn =>
  obtain⟨rfl,hK⟩:=hK;refine bC.pure hR (v:= .tuple #[z,.bool false]) ?_ (uh (ok:=true) (Ky g w).1) hK;cases d<;>first|exact absurd rfl (hd _)|simp[Instr.typeAssert,aQ hu,Kx]
 case kP t y v h =>
  simp only at hK;split at hK
  ·rename_i e;subst e;refine bC.pure hR (v:=if ok then .tuple #[v,.bool true]else v) ?_ (uh h) hK;cases d<;>first|exact absurd rfl (hd _)|simp[Instr.typeAssert,aQ hu]
  ·rename_i e;obtain⟨rfl,hK⟩:=hK;refine bC.pure hR (v:= .tuple #[z,.bool false]) ?_ (uh (ok:=true) (Ky g w).1) hK;cases d<;>first|exact absurd rfl (hd _)|simp[Instr.typeAssert,aQ hu,Kx,e]
def KD{x:AV}(h:x.fits ⟨false,1⟩=true): x.cell 0=x/\x.scalar=true:=by
 cases x<;>first|exact⟨rfl,rfl⟩|(simp[AV.fits]at h;done)
def XE{xs:List AV}{n:Nat}(hn:xs.length=n)(ft:∀ i,i<xs.length->(xs.getD i .undef).fits ⟨false,1⟩=true): (AV.agg xs).fits ⟨true,n⟩=true:=by
 simp only[AV.fits,aq,beq_iff_eq,aX];refine⟨⟨by trivial,hn⟩,fun x hx=>?_⟩;obtain⟨i,hi,rfl⟩:=List.mem_iff_getElem.1 hx;have:=ft i hi;have h2:(xs.getD i .undef)=xs[i]:=by simp[hi]
 rw[h2]at this;exact(KD this).2
def UR{t e:TypeId}{n:Nat}{x:AV}{a:Value}(hR:Rel g w σ)(hu:P.underlying t=some (.array n e))(hx:VR g w x a)(hK:zU σ n x K): bC P (Instr.arrayAt t a) g w σ K:=by
 have run:∀ (A:Option Addr) (len cap:Nat),n<=len->(Instr.arrayAt t (.slice A len cap)).run P w = .ok (.pointer A) w:=fun A len cap h=>by
  have h1:¬ (len<n):=by omega
  simp[Instr.arrayAt,aQ hu,h1]
 have dY:∀ {g:aJ} {w:World} {zs:List AV} {b o:Nat},zs.length=n->g.fL b->(∀ i,i<zs.length->(zs.getD i .undef).fits ⟨false,1⟩=true)->(∀ i,i<n->(w.cell? ⟨b,o+i,none⟩).isSome=true)->(∀ i,i<n->VR g w ((zs.getD i .undef).cell 0) (dD w ⟨b,o+i,none⟩)) ->
  VR g w (.dY ⟨true,n⟩ (.agg zs) 0) (.pointer (some ⟨b,o,none⟩)):=fun {g w zs b o} hl hi ft hc h=>by
  have:=VR.dY (g:=g) (w:=w) ⟨true,n⟩ (.agg zs) 0 b o hi (XE hl ft) hc (fun c wW=>by
   have wW:c<n:=wW;have h1:=h c wW;rw[(KD (ft c (by omega))).1]at h1;exact h1)
  exact this
 unfold zU at hK;cases hx<;>(try exact False.elim hK)
 case iO f el b cap hf =>
  obtain⟨_,h1,h2,_⟩:=hK;simp at h2;omega
 case aO f el xs b off cap y9 hf Bi ft hc h =>
  obtain⟨rfl,h1,h2,hK⟩:=hK;refine bC.pure hR (run _ _ _ h2) (dY (by simp;omega) y9 (fun i hi=>?_) (fun i hi=>?_) (fun i hi=>?_)) hK
  ·simp only[List.length_take]at hi;have:=ft i (by omega);simpa[show i<n by omega]using this
  ·have:=hc i 0 (by omega) (by simp);simpa using this
  ·have:=h i 0 (by omega) (by simp);simpa[hi]using this
 case own el l m o k h =>
  obtain⟨rfl,hK⟩:=hK;obtain⟨q1,q2,A,cap,rfl,q3⟩:=h;split at hK
  ·rename_i T bj xs hxs;obtain⟨rfl,rfl,h1,h2,h3,hK⟩:=hK;obtain⟨o1,o2,o3⟩:=hR.ok l _ hxs;obtain⟨q4,q5,q6⟩:=q3 o1.symm;rcases o3 with⟨rfl,_,_⟩|⟨b,vs,b1,b2,b3,b4,b5,_⟩
   ·simp at h1;omega
   have q7:=q6 (by omega);rw[b1]at q7;simp only[aT,Nat.mul_one]at q7;subst q7;obtain⟨r1,r2⟩:=hR.freeze hxs rfl b1;have hlt:∀ i,i<xs.length->g.off l+i<vs.size:=fun i hi=>by simp only[Nat.mul_one]at b3;omega
   have hcell:∀ i,i<n->w.cell? ⟨b,g.off l+o+i,none⟩=some (vs.getD (g.off l+(o+i)) Go.undef):=fun i hi=>by
    rw[Nat.add_assoc,b2.cell (hlt (o+i) (by omega))]
   refine⟨_,w,g.iB b,_,_,run _ _ _ h3,r1,r2,dY (by simp;omega) (.inr rfl) (fun i hi=>?_) (fun i hi=>?_) (fun i hi=>?_),hK⟩
   ·simp only[List.length_take,List.length_drop]at hi;have:=o2 (o+i) (by omega);simpa[show i<n by omega]using this
   ·rw[hcell i hi];rfl
   ·have:=(b5 (o+i) 0 (by omega) (by simp)).mono r2.mono;have e1:dD w ⟨b,g.off l+o+i,none⟩=vs.getD (g.off l+(o+i)) Go.undef:=by unfold dD;rw[hcell i hi];rfl
    rw[e1];simpa[hi]using this
  ·exact hK.elim
def US {ats : Array TypeId} {r t e : TypeId} {el : El} {z x : AV} {a : Value} (hR : Rel g w σ) (h0 : ats[0]? = some t) (hu : P.underlying t = some (.slice e)) (he : iP P e = some el) (hz : jf P e = some z)
    (hx:VR g w x a) (hK:zV σ el z x fun σ'=>K (.bU []) σ'):bC P (Builtin.clear_ ats r #[a]) g w σ K:=by
 obtain⟨v,z1,z2,z3⟩:=uO he hz;have unit:∀ (g:aJ) (w:World),VR g w (.bU []) (.tuple #[]):=fun g w=> .bU [] #[] rfl (fun i hi=>absurd hi (cG _))
 have empty:∀ (A:Option Addr) (cap:Nat),K (.bU []) σ->bC P (Builtin.clear_ ats r #[.slice A 0 cap]) g w σ K:=fun A cap hK=>by
  refine bC.pure hR (v:= .tuple #[]) ?_ (unit _ _) hK;cases A<;>simp[Builtin.clear_,h0,aQ hu]
 unfold zV at hK;cases hx<;>(try exact False.elim hK)
 case au=>exact empty none 0 hK
 case iO f bq b cap hf=>exact empty b cap hK
 case aO f bq xs b off cap y9 hf Bi ft hc h =>
  cases xs with
  | nil=>exact empty _ cap hK
  | cons y ys=>exact hK.elim
 case own bq l m o n h =>
  obtain⟨rfl,hfz,hK⟩:=hK;obtain⟨q1,q2,A,cap,rfl,q3⟩:=h;split at hK
  ·rename_i T bj xs hxs;obtain⟨rfl,rfl,k6,hK⟩:=hK;rcases Nat.eq_zero_or_pos n with hn|hn
   ·subst hn;simp only[List.replicate_zero,eE,Fp hxs]at hK;exact empty A cap hK
   ·obtain⟨o1,o2,o3⟩:=hR.ok l _ hxs;obtain⟨q4,q5,q6⟩:=q3 o1.symm;rcases o3 with⟨rfl,_,_⟩|⟨b',vs,b1,b2,b3,b4,b5,b6⟩
    ·simp at q4;omega
    ·have q7:=q6 (by omega);rw[b1]at q7;simp only[aT]at q7;subst q7
     have hrow:g.off l+(o+n)*bj.sz<=vs.size:=by
      have:(o+n)*bj.sz<=g.cap l*bj.sz:=aY _ (by omega);omega
     obtain⟨us,y_⟩:∃ us:Array Value,us=(Array.range (n*bj.sz)).map (v.cells[· % v.cells.size]!):=⟨_,rfl⟩;have k4:us.size=n*bj.sz:=by rw[y_];simp
     have k5:ic g w bj (List.replicate n z) us:=by rw[y_];exact wm n (z2 g w) hfz z3
     have ht:∀ i,i<(List.replicate n z).length->((List.replicate n z).getD i .undef).fits bj=true:=fun i hi=>by
      simp only[dP]at hi;simpa[hi]using hfz
     have hlen:(List.replicate n z).length=n:=dP;have hzc:Builtin.zeroCells v.cells n=us:=by rw[y_];simp[Builtin.zeroCells,z3]
     have hroom:g.off l+o*bj.sz+us.size<=vs.size:=by rw[bE]at hrow;omega
     have hrun:=nV (P:=P) (b:=b') (o:=g.off l+o*bj.sz) us.toList w vs 0 b2 (by simpa using hroom) (oN k5 (by rw[k4,hlen]) ht);obtain⟨f1,f2,f3,f4,f5⟩:=nR w b' (g.off l+o*bj.sz+0) us.toList
     obtain⟨r1,r2⟩:=hR.update (o':= .cz T bj (eE xs o (List.replicate n z))) hxs rfl b1 f1 f2 f3 f4 f5
      (fun hm => ⟨by rw [fE]; exact o1, fun i hi => by
        rw[fE]at hi;rw[mw _ _ _ (by omega)];split
        ·rename_i hh;exact ht _ (by omega)
        ·exact o2 i hi,
        .inr ⟨b',_,b1,b2.setRow _ _,by rw[size_putRow];exact b3,by rw[fE];exact b4,fun i c hi hc=>by
         rw[fE]at hi;rw[mw _ _ _ (by omega),lX _ _ _ (by simpa using hroom)];simp only[eF,cQ,hlen,k4];by_cases h1:o<=i/\i<o+n
         ·obtain⟨j,rfl⟩:∃ j,i=o+j:=⟨i-o,by omega⟩;have hj:j<n:=by omega
          have h2:=mS hj hc;rw[if_pos h1,if_pos (by rw[bE];omega),show g.off l+(o+j)*bj.sz+c-(g.off l+o*bj.sz)=j*bj.sz+c by rw[bE];omega,show o+j-o=j by omega];have:=(k5 j c (by omega) hc).mono hm;simpa using this
         ·have hne : ¬ (g.off l + o * bj.sz <= g.off l + i * bj.sz + c /\ g.off l + i * bj.sz + c < g.off l + o * bj.sz + n * bj.sz) := by
           rintro⟨z1,z2⟩;rcases Nat.lt_or_ge i o with h2|h2
           ·have:(i+1)*bj.sz<=o*bj.sz:=aY _ h2;rw[cM]at this;omega
           ·have:(o+n)*bj.sz<=i*bj.sz:=aY _ (by omega);rw[bE]at this;omega
          rw[if_neg h1,if_neg hne];exact(b5 i c hi hc).mono hm,by
         cases T with
         | none=>trivial
         | some T=>rw[size_putRow];exact⟨(pG _ _ _ _ _).trans b6.1,b6.2⟩⟩⟩)
     refine⟨.tuple #[],_,g,.bU [],_,?_,r1,r2,unit _ _,hK⟩;have KC:n≠0:=by omega
     cases n with
     | zero=>exact absurd rfl KC
     | succ n=>simp[Builtin.clear_,h0,aQ hu,z1,hzc,hrun]
  ·exact hK.elim
end
