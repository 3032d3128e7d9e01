/- Part. -/
import Derived.Test.YtcjcnfcedihckaaGreatDoorW07
import Derived.MapKept
set_option linter.all false
namespace Go.AM
open Go.MapKept
def Rel.Yl {g : aJ} {w w' : World} {σ : ae} {l b : Nat} {o : aY} (h : Rel g w σ) (hl : σ[l]? = some o) (ho : o.live = true) (hb : g.base l = some b) (v c fo : Nat) (o' : aY)
    (hsz:w'.heap.size=w.heap.size) (hos:w'.os=w.os) (vC:w'.tape=w.tape) (hout:w'.output=w.output)
    (pJ:∀ c,c≠b->w'.heap[c]? = w.heap[c]?) (hok:kp g w (g.push v (some b) c fo) w'->o'.Ok (g.push v (some b) c fo) w' g.n) :
    Rel (g.push v (some b) c fo) w' (σ.set l .dead++[o'])/\fg σ g w (σ.set l .dead++[o']) (g.push v (some b) c fo) w':=by
 have jw:Live σ l:=⟨o,hl,ho⟩;have De:¬ g.fC b:=h.rX l b jw hb
 have hm:kp g w (g.push v (some b) c fo) w':=⟨fun d hd=>⟨hd,pJ d (fun e=>De (e ▸ hd))⟩,Nat.le_succ _,fun k hk=>by
  have:k≠g.n:=eA hk;simp[aJ.push,this]⟩
 have hbase:∀ k,k<g.n->(g.push v (some b) c fo).base k=g.base k:=fun k hk=>by simp[aJ.push,eA hk]
 have hnew:(g.push v (some b) c fo).base g.n=some b:=by simp[aJ.push]
 have hold:∀ k,Live (σ.set l .dead++[o']) k->(k<g.n/\k≠l/\Live σ k)\/k=g.n:=fun k hk=>by
  rcases mR hk with hk|rfl
  ·rcases kr hk with⟨_,_,e⟩|⟨e,hk⟩
   ·simp[aY.live]at e
   ·exact .inl ⟨by rw[<-h.len];exact hk.lt,e,hk⟩
  ·exact .inr (by simp[h.len])
 refine⟨⟨by simp[aJ.push,h.len],fun d hd=>by rw[hsz];exact h.lt d hd,fun k ok hk=>?_,fun k k' d hk hk' hd hd'=>?_,fun k d hk hd hi=>?_,h.glob.mono hm.fC⟩,
  ⟨hm,Nat.le_of_eq hsz.symm,hos,vC,hout,fun d hd ht=>pJ d (fun e=>ht ⟨l,jw,e ▸ hb⟩),fun d _ hi=> .inl hi,fun d hd ht=>?_⟩⟩
 ·by_cases hlt:k<(σ.set l .dead).length
  ·rw[aC hlt]at hk;simp only[g_]at hlt;have hkn:k<g.n:=by rw[<-h.len];exact hlt
   by_cases e:k=l
   ·subst e;simp[hlt]at hk;subst hk;trivial
   ·rw[List.getElem?_set_ne (Ne.symm e)]at hk;by_cases hv:ok.live=true
    ·exact(h.ok k ok hk).step hm hkn (by simp[aJ.push,eA hkn]) (fun d hd=>pJ d (fun e'=>e (h.inj k l d ⟨ok,hk,hv⟩ jw hd (e' ▸ hb))))
    ·cases ok<;>simp[aY.live]at hv;trivial
  ·have h1:=(aN.1 hk).1;simp at h1 hlt;have h2:k = σ.length:=by omega
   subst h2;simp at hk;subst hk;rw[h.len];exact hok hm
 ·rcases hold k hk with⟨k1,k2,k3⟩|rfl<;>rcases hold k' hk' with⟨k4,k5,k6⟩|rfl
  ·rw[hbase k k1]at hd;rw[hbase k' k4]at hd';exact h.inj k k' d k3 k6 hd hd'
  ·rw[hbase k k1]at hd;rw[hnew]at hd';cases hd';exact absurd (h.inj k l b k3 jw hd hb) k2
  ·rw[hbase k' k4]at hd';rw[hnew]at hd;cases hd;exact absurd (h.inj k' l b k6 jw hd' hb) k5
  ·rfl
 ·rcases hold k hk with⟨k1,k2,k3⟩|rfl
  ·rw[hbase k k1]at hd;exact h.rX k d k3 hd hi
  ·rw[hnew]at hd;cases hd;exact De hi
 ·obtain⟨k,hk,hd'⟩:=ht;rcases hold k hk with⟨k1,k2,k3⟩|rfl
  ·exact⟨k,k3,by rw[hbase k k1]at hd';exact hd'⟩
  ·rw[hnew]at hd';cases hd';exact⟨l,jw,hb⟩
def Rel.kill {g : aJ} {w : World} {σ : ae} {l : Nat} {o : aY} (h : Rel g w σ) (hl : σ[l]? = some o) (ho : o.live = true) :
    Rel g w (σ.set l .dead)/\fg σ g w (σ.set l .dead) g w:=by
 have:=h.change (w':=w) (o':= .dead) hl ho (g.ver l) (g.base l) (g.cap l) (g.off l) (Nat.le_refl _) (fun _=>⟨rfl,rfl,rfl⟩) (Nat.le_refl _) rfl rfl rfl (fun _ _ _=>rfl) (fun b hb=> .inl hb) (fun _=>trivial);rwa[aJ.vD]at this
def Ev(g:aJ)(v:Nat)(b:Option Nat)(c o:Nat): (g.push v b c o).off g.n=o:=by simp[aJ.push]
section
variable {P:Program} {g:aJ} {w:World} {σ : ae} {K:AV->ae->Prop}
def Ew{σ : ae}{l:Nat}{o:aY}(h : σ[l]? = some o): σ.set l o = σ:=by
 apply List.ext_getElem?;intro k;by_cases e:k=l
 ·subst e;rw[List.getElem?_set_self (aN.1 h).1];exact h.symm
 ·rw[List.getElem?_set_ne (Ne.symm e)]
def oX: Option IntKind->TypeDesc->Bool
 | none,.string=>true
 | some k,.int k'=>k==k'
 | _,_=>false
def zB{kd:Option IntKind}{d:TypeDesc}{k:AV}{v:Value}(hd:oX kd d=true)(hk:k.rZ kd=true)(hv:VR g w k v): IsKey d v:=by
 cases kd with
 | none =>
   cases d<;>simp[oX]at hd;cases k<;>simp[AV.rZ]at hk;cases hv;trivial
 | some q =>
   cases d<;>simp[oX]at hd;subst hd;cases k<;>simp[AV.rZ]at hk;cases hv;exact hk.symm
def PA{kd:Option IntKind}{d:TypeDesc}{k q:AV}{v u:Value}{b:Bool}(hd:oX kd d=true)(hk:k.rZ kd=true)(hv:VR g w k v)(hu:VR g w q u)(h:Ln k q=some b): Instr.sameNow d v u=some b:=by
 cases kd with
 | none =>
   cases d<;>simp[oX]at hd;cases k<;>simp[AV.rZ]at hk;cases q<;>simp[Ln]at h;cases hv;cases hu;subst h;rename_i s s';simp only[Instr.sameNow,Option.some.injEq];have e:=bytes_beq ⟨s.toArray⟩ ⟨s'.toArray⟩;by_cases hs:s=s'
   ·subst hs;rw[e.2 rfl];simp
   ·have h1:¬ ((⟨s.toArray⟩:ByteArray)==⟨s'.toArray⟩)=true:=fun h=>hs (by have:=e.1 h;injection this with this;simpa using this);simp only[Bool.not_eq_true]at h1;rw[h1];simp[hs]
 | some k0 =>
   cases d<;>simp[oX]at hd;subst hd;cases k<;>simp[AV.rZ]at hk;cases q<;>simp[Ln]at h;cases hv;cases hu;obtain⟨h1,h2⟩:=h;subst h1;simp[Instr.sameNow,h2]
def vK {kd : Option IntKind} {d : TypeDesc} {k : AV} {v : Value} (hd : oX kd d = true) (hk : k.rZ kd = true) (hv : VR g w k v) : ∀ (es : List (AV × AV)) (ms : List MapEntry) (i : Nat) (r : Option (Nat × AV)), ms.length = es.length ->
    (∀ j,j<es.length->VR g w (es.getD j default).1 (ms.getD j default).key/\VR g w (es.getD j default).2 (ms.getD j default).val)->nD k es i=some r ->
    (r=none/\Instr.findNow d v ms i=some none)\/ ∃ j x u,r=some (i+j,x)/\Instr.findNow d v ms i=some (some (i+j,u))/\VR g w x u/\j<es.length/\Instr.sameNow d v (ms.getD j default).key=some true
 | [], ms, i, r, hl, h, hf => by
   simp[nD]at hf;have:ms=[]:=List.length_eq_zero_iff.1 hl;subst this;subst hf;exact .inl ⟨rfl,rfl⟩
 | (q, x) :: es, ms, i, r, hl, h, hf => by
   cases ms with
   | nil=>simp at hl
   | cons e ms =>
     have h0:=h 0 (by simp);simp only[aT]at h0;simp only[nD]at hf;split at hf
     ·rename_i he;cases hf;have hs:=PA hd hk hv h0.1 he;exact .inr ⟨0,x,e.val,rfl,by simp[Instr.findNow,hs],h0.2,by simp,by simpa using hs⟩
     ·rename_i he;have hs:=PA hd hk hv h0.1 he;rcases vK hd hk hv es ms (i+1) r (by simpa using hl) (fun j hj=>by simpa using h (j+1) (by simpa using hj)) hf with⟨h1,h2⟩|⟨j,y,u,h1,h2,h3,h4,h5⟩
      ·exact .inl ⟨h1,by simp[Instr.findNow,hs,h2]⟩
      ·exact .inr ⟨j+1,y,u,by rw[h1];congr 2;omega,by simp[Instr.findNow,hs,h2];omega,h3,by simpa using h4,by simpa using h5⟩
     ·cases hf
def Jp {ms : Array MapEntry} {es : List (AV × AV)} {clock : Nat} (h : ms.size = es.length) (h1 : clock = es.length) (h2 : ∀ i, i < es.length -> (ms.getD i default).born = i) (k u : Value) (p : AV × AV) :
    clock+1=(es++[p]).length/\ ∀ i,i<(es++[p]).length->((ms.push { key:=k,val:=u,born:=clock }).getD i default).born=i:=by
 refine⟨by simp[h1],fun i hi=>?_⟩;simp only[aA,List.length_cons,List.length_nil]at hi;by_cases e:i<es.length
 ·have h':i<ms.size:=by omega
  have:=h2 i e;simpa[Array.getElem?_push,eA h',h']using this
 ·have:i=ms.size:=by omega
  subst this;have e2:(ms.push { key:=k,val:=u,born:=clock }).getD ms.size default = { key:=k,val:=u,born:=clock }:=by simp
  rw[e2];show clock=_;omega
def yh {ms : Array MapEntry} {es : List (AV × AV)} {clock : Nat} (h : ms.size = es.length) (h1 : clock = es.length) (h2 : ∀ i, i < es.length -> (ms.getD i default).born = i) (j : Nat) (f : MapEntry -> MapEntry) (hf : ∀ e, (f e).born = e.born) (p : AV × AV) :
    clock=(es.set j p).length/\ ∀ i,i<(es.set j p).length->((ms.modify j f).getD i default).born=i:=by
 refine⟨by simp[h1],fun i hi=>?_⟩;simp only[g_]at hi;have h':i<ms.size:=by omega
 have:=h2 i hi;by_cases e:j=i
 ·subst e;simp only[eC,h',Array.getElem?_eq_getElem,bu]at this;simp[h',fA,hf,this]
 ·simpa[h',fA,e]using this
def Ob{t:TypeId}(hR:Rel g w σ)(hK:K (.mp σ.length) (σ++[.map []])): bx P (Instr.makeMap t none) g w σ K:=by
 obtain⟨r1,r2⟩:=hR.oU (.map #[] 0) (.map []) 0 0 ⟨by simp[aJ.push],w.heap.size,#[],0,by simp[aJ.push],heap_alloc_new w _,rfl,⟨rfl,fun i hi=>absurd hi (cE _)⟩,fun i hi=>absurd hi (cE _)⟩;refine⟨.map (some w.heap.size),_,_,_,_,?_,r1,r2,.mp _ _ ⟨by simp[aJ.push,hR.len],_,rfl,fun _=>by simp[aJ.push,hR.len]⟩,hK⟩;simp[Instr.makeMap]
def tF{ok:Bool}{v:AV}{u:Value}{b:Bool}(hv:VR g w v u): VR g w (if ok then .bO [v,.bool b]else v) (if ok then .tuple #[u,.bool b]else u):=by
 cases ok with
 | false=>simpa using hv
 | true =>
   refine .bO _ _ rfl (fun i hi=>?_)
   match i,hi with
   | 0,_=>exact hv
   | 1,_=>exact .bool b
def Ra {t key elem : TypeId} {d : TypeDesc} {kd : Option IntKind} {ok : Bool} {zero x k : AV} {a v : Value} (hR : Rel g w σ) (ht : P.underlying t = some (.map key elem)) (hkey : P.underlying key = some d) (hd : oX kd d = true)
    (hz:iV P elem=some zero) (hx:VR g w x a) (hv:VR g w k v)
    (hK : match (generalizing := false) x with
      | .k_=>k.rZ kd=true/\K (if ok then .bO [zero,.bool false]else zero) σ
      | .mp l => k.rZ kd = true /\ match σ[l]? with
        | some (.map es) => match nD k es 0 with
          | some (some (_,v))=>K (if ok then .bO [v,.bool true]else v) σ
          | some none=>K (if ok then .bO [zero,.bool false]else zero) σ
          | none=>False
        | _=>False
      | _=>False):bx P (Instr.lookup t a v ok) g w σ K:=by
 obtain⟨z,Jq,Jr⟩:=rf hz w;cases hx<;>simp only at hK
 case k_ =>
  obtain⟨hk,hK⟩:=hK;have hi:=zB hd hk hv;refine bx.pure hR (v:=if ok then .tuple #[z,.bool false]else z) ?_ (tF (Jr g w).1) hK;have hf:(Instr.findKey key v []).run P w = .ok none w:=run_findKey hkey rfl;have hc:(Instr.checkKey true 10000 key v).run P w = .ok () w:=run_checkKey hkey hi true 9999;simp[Instr.lookup,aQ ht,hf,hc,Jq]
 case mp l h =>
  obtain⟨hk,hK⟩:=hK;have hi:=zB hd hk hv;obtain⟨h1,b,rfl,h2⟩:=h;split at hK
  ·rename_i es vo;obtain⟨o1,b',ms,clock,o2,o3,o4,⟨DS,Bz⟩,o5⟩:=hR.ok l _ vo;have nF:=h2 o1;rw[nF]at o2;cases o2;have hc:(Instr.checkKey ms.isEmpty 10000 key v).run P w = .ok () w:=run_checkKey hkey hi _ 9999;have hg:=Go.MapKept.run_getObj_map (P:=P) o3;have Tv:∀ j,j<es.length->VR g w (es.getD j default).1 (ms.toList.getD j default).key/\VR g w (es.getD j default).2 (ms.toList.getD j default).val:=fun j hj=>by simpa using o5 j hj
   generalize Tw:nD k es 0=fd at hK;cases fd with
   | none=>exact hK.elim
   | some r =>
     rcases vK hd hk hv es ms.toList 0 r (by simpa using o4) Tv Tw with⟨rfl,hf⟩|⟨j,x,u,rfl,hf,Ym,_⟩
     ·refine bx.pure hR (v:=if ok then .tuple #[z,.bool false]else z) ?_ (tF (Jr g w).1) hK;have vp:(Instr.findKey key v ms.toList).run P w = .ok none w:=run_findKey hkey hf;simp[Instr.lookup,aQ ht,hg,vp,hc,Jq]
     ·refine bx.pure hR (v:=if ok then .tuple #[u,.bool true]else u) ?_ (tF Ym) hK;have vp:(Instr.findKey key v ms.toList).run P w = .ok (some (0+j,u)) w:=run_findKey hkey hf;simp[Instr.lookup,aQ ht,hg,vp,hc]
  ·exact hK.elim
def LP {t key elem : TypeId} {d : TypeDesc} {kd : Option IntKind} {l : Nat} {k x : AV} {a v u : Value} {es es' : List (AV × AV)} (hR : Rel g w σ) (ht : P.underlying t = some (.map key elem)) (hkey : P.underlying key = some d) (hd : oX kd d = true)
    (hx:VR g w (.mp l) a) (hv:VR g w k v) (hu:VR g w x u) (hk:k.rZ kd=true) (vo : σ[l]? = some (.map es)) (hs:LB k x es=some es') :
    ∃ w',(Instr.mapUpdate t a v u).run P w = .ok () w'/\Rel g w' (σ.set l (.map es'))/\fg σ g w (σ.set l (.map es')) g w':=by
 have hi:=zB hd hk hv;cases hx;rename_i h;obtain⟨h1,b,rfl,h2⟩:=h;obtain⟨o1,b',ms,clock,o2,o3,o4,⟨DS,Bz⟩,o5⟩:=hR.ok l _ vo;have nF:=h2 o1;rw[nF]at o2;cases o2;have hc:(Instr.checkKey false 10000 key v).run P w = .ok () w:=run_checkKey hkey hi _ 9999;have hg:=Go.MapKept.run_getObj_map (P:=P) o3;have Tv:∀ j,j<es.length->VR g w (es.getD j default).1 (ms.toList.getD j default).key/\VR g w (es.getD j default).2 (ms.toList.getD j default).val:=fun j hj=>by simpa using o5 j hj
 have Tx:∀ (ms':Array MapEntry) (ck:Nat),ms'.size=es'.length->(ck=es'.length/\ ∀ i,i<es'.length->(ms'.getD i default).born=i)->(∀ j,j<es'.length->VR g w (es'.getD j default).1 (ms'.getD j default).key/\VR g w (es'.getD j default).2 (ms'.getD j default).val) ->
  Rel g { w with heap:=w.heap.setIfInBounds b (.map ms' ck) } (σ.set l (.map es'))/\fg σ g w (σ.set l (.map es')) g { w with heap:=w.heap.setIfInBounds b (.map ms' ck) }:=fun ms' ck hl Yn hh =>
  hR.update (o':= .map es') vo rfl nF (by simp) rfl rfl rfl (fun c hc=>(heap_set o3).2 c hc) (fun hm=>⟨o1,b,ms',ck,nF,(heap_set o3).1,hl,Yn,fun j hj=>⟨(hh j hj).1.mono hm,(hh j hj).2.mono hm⟩⟩)
 unfold LB at hs;generalize Tw:nD k es 0=fd at hs;cases fd with
 | none=>cases hs
 | some r =>
   rcases vK hd hk hv es ms.toList 0 r (by simpa using o4) Tv Tw with⟨rfl,hf⟩|⟨j,y,q,rfl,hf,Ym,hj,hsame⟩
   ·simp only[Option.some.injEq]at hs;subst hs;have vp:(Instr.findKey key v ms.toList).run P w = .ok none w:=run_findKey hkey hf
    obtain⟨r1,r2⟩:=Tx (ms.push { key:=v,val:=u,born:=clock }) (clock+1) (by simp[o4]) (Jp o4 DS Bz _ _ _) (fun i hi=>by
     simp only[aA,List.length_cons,List.length_nil]at hi;by_cases h:i<es.length
     ·have:=o5 i h;have h':i<ms.size:=by omega
      simpa[aC h,Array.getElem?_push,eA h',h']using this
     ·have:i=es.length:=by omega
      subst this;have e1:(es++[(k,x)]).getD es.length default=(k,x):=by simp
      have e2:(ms.push { key:=v,val:=u,born:=clock }).getD ms.size default = { key:=v,val:=u,born:=clock }:=by simp
      rw[e1,<-o4,e2];exact⟨hv,hu⟩)
    exact⟨_,by simp[Instr.mapUpdate,aQ ht,hg,vp,hc,Go.MapKept.run_setObj_map (P:=P) (.map (ms.push { key:=v,val:=u,born:=clock }) (clock+1)) o3],r1,r2⟩
   ·simp only[Option.some.injEq,bV]at hs;subst hs;have vp:(Instr.findKey key v ms.toList).run P w = .ok (some (0+j,q)) w:=run_findKey hkey hf;have hj':j<ms.size:=by omega
    have hkv:(ms.getD j default).key=v:=by
     have h3:Instr.sameNow d v (ms.toList.getD j default).key=some true:=hsame
     have h4:IsKey d (ms.toList.getD j default).key:=by
      cases d<;>cases v<;>simp[IsKey]at hi<;>(generalize (ms.toList.getD j default).key=z at h3;cases z<;>simp[Instr.sameNow]at h3)<;>simp_all[IsKey]
     obtain⟨r',h5,h6⟩:=sameNow_of_keys hi h4;rw[h3]at h5;cases h5;have:=h6.1 rfl;simpa using this.symm
    have Rb:((ms[j]?).map (·.key)).getD v=v:=by
     have:ms[j]? = some (ms.getD j default):=by simp[hj']
     rw[this];exact hkv
    obtain⟨r1,r2⟩:=Tx (ms.modify j fun e=> { e with key:=v,val:=u }) clock (by simp[o4]) (yh o4 DS Bz j (fun e=> { e with key:=v,val:=u }) (fun _=>rfl) _) (fun i hi=>by
     simp only[g_]at hi;have hi':i<ms.size:=by omega
     by_cases h:i=j
     ·subst h;simp[hi',hi,fA,hv,hu]
     ·have:=o5 i hi;simpa[hi',hi,fA,Ne.symm h,List.getElem?_set_ne (Ne.symm h)]using this)
    refine⟨_,?_,r1,r2⟩;have hst:=run_keyThatStays (P:=P) (w:=w) hi;simp[Instr.mapUpdate,aQ ht,hg,vp,hc,Rb,hst,Go.MapKept.run_setObj_map (P:=P) (.map (ms.modify j fun e=> { e with key:=v,val:=u }) clock) o3]
def Rc {t key elem : TypeId} {d : TypeDesc} {kd : Option IntKind} {zero x k : AV} {a v : Value} (hR : Rel g w σ) (ht : P.underlying t = some (.map key elem)) (hkey : P.underlying key = some d) (hd : oX kd d = true)
    (hz:iV P elem=some zero) (hx:VR g w x a) (hv:VR g w k v) (hK:vF σ kd zero x k K):bx P (Instr.mapEntry t a v) g w σ K:=by
 obtain⟨z,Jq,Jr⟩:=rf hz w;unfold vF at hK;cases hx<;>(try exact False.elim hK)
 case mp l h =>
 obtain⟨hk,hK⟩:=hK;have hi:=zB hd hk hv;obtain⟨h1,b,rfl,h2⟩:=h;split at hK
 ·rename_i es vo;obtain⟨o1,b',ms,clock,o2,o3,o4,⟨DS,Bz⟩,o5⟩:=hR.ok l _ vo;have nF:=h2 o1;rw[nF]at o2;cases o2;have hc:(Instr.checkKey false 10000 key v).run P w = .ok () w:=run_checkKey hkey hi _ 9999;have hg:=Go.MapKept.run_getObj_map (P:=P) o3;have Tv:∀ j,j<es.length->VR g w (es.getD j default).1 (ms.toList.getD j default).key/\VR g w (es.getD j default).2 (ms.toList.getD j default).val:=fun j hj=>by simpa using o5 j hj
  have aaB:∀ {g:aJ} {w:World} {x:AV} {y:Value} {n:Nat},VR g w x y->VR g w (.bO [x,.int .i64 n]) (.tuple #[y,goInt n]):=fun h=> .bO _ _ rfl (fun i hi=>by
   match i,hi with
   | 0,_=>exact h
   | 1,_=>exact .int _ _)
  generalize Tw:nD k es 0=fd at hK;cases fd with
  | none=>exact hK.elim
  | some r =>
    rcases vK hd hk hv es ms.toList 0 r (by simpa using o4) Tv Tw with⟨rfl,hf⟩|⟨j,y,q,rfl,hf,Ym,hj,hsame⟩
    ·have vp:(Instr.findKey key v ms.toList).run P w = .ok none w:=run_findKey hkey hf
     obtain⟨r1,r2⟩:=hR.update (w':= { w with heap:=w.heap.setIfInBounds b (.map (ms.push { key:=v,val:=z,born:=clock }) (clock+1)) }) (o':= .map (es++[(k,zero)])) vo rfl nF (by simp) rfl rfl rfl (fun c hc=>(heap_set o3).2 c hc)
      (fun hm => ⟨o1, b, _, _, nF, (heap_set o3).1, by simp [o4], Jp o4 DS Bz _ _ _, fun i hi => by
        simp only[aA,List.length_cons,List.length_nil]at hi;by_cases h:i<es.length
        ·have:=o5 i h;have h':i<ms.size:=by omega
         simpa[aC h,Array.getElem?_push,eA h',h']using And.intro (this.1.mono hm) (this.2.mono hm)
        ·have:i=es.length:=by omega
         subst this;have e1:(es++[(k,zero)]).getD es.length default=(k,zero):=by simp
         have e2:(ms.push { key:=v,val:=z,born:=clock }).getD ms.size default = { key:=v,val:=z,born:=clock }:=by simp
         rw[e1,<-o4,e2];exact⟨hv.mono hm,(Jr _ _).1⟩⟩)
     refine⟨.tuple #[z,goInt clock],_,_,_,_,?_,r1,r2,by rw[DS];exact aaB (Jr _ _).1,hK⟩;simp[Instr.mapEntry,aQ ht,hg,vp,hc,Jq,Go.MapKept.run_setObj_map (P:=P) (.map (ms.push { key:=v,val:=z,born:=clock }) (clock+1)) o3]
    ·have vp:(Instr.findKey key v ms.toList).run P w = .ok (some (0+j,q)) w:=run_findKey hkey hf;have hj':j<ms.size:=by omega
     have hkv:(ms.getD j default).key=v:=by
      have h3:Instr.sameNow d v (ms.toList.getD j default).key=some true:=hsame
      have h4:IsKey d (ms.toList.getD j default).key:=by
       cases d<;>cases v<;>simp[IsKey]at hi<;>(generalize (ms.toList.getD j default).key=z at h3;cases z<;>simp[Instr.sameNow]at h3)<;>simp_all[IsKey]
      obtain⟨r',h5,h6⟩:=sameNow_of_keys hi h4;rw[h3]at h5;cases h5;have:=h6.1 rfl;simpa using this.symm
     have mS:ms[j]? = some (ms.getD j default):=by simp[hj']
     have Rb:((ms[j]?).map (·.key)).getD v=v:=by rw[mS];exact hkv
     have acJ:((ms[j]?).map (fun x=>(x.born:Int))).getD 0=j:=by rw[mS];exact congrArg Int.ofNat (Bz j hj)
     have hst:=run_keyThatStays (P:=P) (w:=w) hi
     obtain⟨r1,r2⟩:=hR.update (w':= { w with heap:=w.heap.setIfInBounds b (.map (ms.modify j fun e=> { e with key:=v }) clock) }) (o':= .map es) vo rfl nF (by simp) rfl rfl rfl (fun c hc=>(heap_set o3).2 c hc)
      (fun hm => ⟨o1, b, _, _, nF, (heap_set o3).1, by simp [o4], by have := yh o4 DS Bz j (fun e => { e with key := v }) (fun _ => rfl) default; simpa using this, fun i hi => by
        have hi':i<ms.size:=by omega
        have:=o5 i hi;by_cases h:i=j
        ·subst h;have e3:(ms.getD i default).val=ms[i].val:=by simp[hi']
         have e4:es.getD i default=es[i]:=by simp[hi]
         have h5:=And.intro (this.1.mono hm) (this.2.mono hm);rw[hkv]at h5;simpa[hi',hi,fA]using h5
        ·simpa[hi',hi,fA,Ne.symm h]using And.intro (this.1.mono hm) (this.2.mono hm)⟩)
     rw[Ew vo]at r1 r2;refine⟨.tuple #[q,goInt j],_,_,_,_,?_,r1,r2,?_,hK⟩
     ·simp only[bV]at vp;simp[Instr.mapEntry,aQ ht,hg,vp,hc,Rb,acJ,hst,Go.MapKept.run_setObj_map (P:=P) (.map (ms.modify j fun e=> { e with key:=v }) clock) o3]
     ·rw[bV];exact aaB (Ym.mono r2.mono)
 ·exact hK.elim
def Re {t : TypeId} {x s v : AV} {a b u : Value} (hR : Rel g w σ) (hx : VR g w x a) (hs : VR g w s b) (hu : VR g w v u) {K : ae -> Prop} (hK : uc σ x s v K) :
    ∃ w' σ',(Instr.entryStore t a b u).run P w = .ok () w'/\Rel g w' σ'/\fg σ g w σ' g w'/\K σ':=by
 unfold uc at hK;split at hK
 case h_2=>exact hK.elim
 rename_i l z;cases hx;rename_i h;cases hs;obtain⟨h1,b,rfl,h2⟩:=h;split at hK
 ·rename_i es vo;obtain⟨hz0,Jq,hK⟩:=hK;obtain⟨o1,b',ms,clock,o2,o3,o4,⟨DS,Bz⟩,o5⟩:=hR.ok l _ vo;have nF:=h2 o1;rw[nF]at o2;cases o2;have hg:=Go.MapKept.run_getObj_map (P:=P) o3;have hj':z.toNat<ms.size:=by omega
  have Px:ms.findIdx? (fun e=>(e.born:Int)==z)=some z.toNat:=by
   rw[Array.findIdx?_eq_some_iff_getElem]
   have Yn:∀ i (hi:i<ms.size),ms[i].born=i:=fun i hi=>by
    have:=Bz i (by omega);simpa[hi]using this
   refine⟨hj',by rw[Yn];simp;omega,fun j hj=>?_⟩;rw[Yn];simp;omega
  obtain⟨r1,r2⟩:=hR.update (w':= { w with heap:=w.heap.setIfInBounds b (.map (ms.modify z.toNat fun e=> { e with val:=u }) clock) }) (o':= .map (es.set z.toNat ((es.getD z.toNat default).1,v))) vo rfl nF (by simp) rfl rfl rfl (fun c hc=>(heap_set o3).2 c hc)
   (fun hm => ⟨o1, b, _, _, nF, (heap_set o3).1, by simp [o4], yh o4 DS Bz z.toNat (fun e => { e with val := u }) (fun _ => rfl) _, fun i hi => by
     simp only[g_]at hi;have hi':i<ms.size:=by omega
     have:=o5 i hi;by_cases h:i=z.toNat
     ·subst h;have h5:=And.intro (this.1.mono hm) (hu.mono hm);simpa[hi',hi,fA]using h5
     ·simpa[hi',hi,fA,Ne.symm h,List.getElem?_set_ne (Ne.symm h)]using And.intro (this.1.mono hm) (this.2.mono hm)⟩)
  refine⟨_,_,?_,r1,r2,hK⟩;simp[Instr.entryStore,hg,asInt,asIntOf,Px,Go.MapKept.run_setObj_map (P:=P) (.map (ms.modify z.toNat fun e=> { e with val:=u }) clock) o3]
 ·exact hK.elim
def Rf {ats : Array TypeId} {r t k e : TypeId} {x : AV} {a : Value} (hR : Rel g w σ) (h0 : ats[0]? = some t) (ht : P.underlying t = some (.map k e)) (hx : VR g w x a)
    (hK : match (generalizing := false) x with
      | .k_=>K (.int .i64 0) σ
      | .mp l => match σ[l]? with
        | some (.map es)=>K (.int .i64 es.length) σ
        | _=>False
      | _=>False):bx P (Builtin.len_ ats r #[a]) g w σ K:=by
 cases hx<;>simp only at hK
 case k_=>exact bx.pure hR (v:=goInt 0) (by simp[Builtin.len_,h0,aQ ht]) (.int _ _) hK
 case mp l h =>
  obtain⟨h1,b,rfl,h2⟩:=h;split at hK
  ·rename_i es vo;obtain⟨o1,b',ms,clock,o2,o3,o4,⟨DS,Bz⟩,o5⟩:=hR.ok l _ vo;have nF:=h2 o1;rw[nF]at o2;cases o2;refine bx.pure hR (v:=goInt es.length) ?_ (.int _ _) hK;simp[Builtin.len_,h0,aQ ht,Go.MapKept.run_getObj_map (P:=P) o3,o4]
  ·exact hK.elim
def Za{p:AV}{A:Addr}(d:Nat)(hp:p.ptr=true)(h:VR g w p (.pointer (some A))): VR g w (p.adv d) (.pointer (some (A.add d))):=by
 cases p<;>simp[AV.ptr]at hp<;>simp only[AV.adv]
 case ref l o =>
  cases h;rename_i hO;obtain⟨h1,A',h2,h3⟩:=hO;cases h2;refine .ref _ _ _ ⟨h1,_,rfl,fun e=>?_⟩;obtain⟨h4,h5⟩:=h3 e;rw[h5,add_plain];exact⟨by rw[h5]at h4;exact h4,rfl⟩
 case dO el y o =>
  cases h;rename_i hc h;rw[add_plain,Nat.add_assoc];refine VR.dO el y _ _ _ ?_ ?_ ?_ ?_<;>assumption
 case eD el l m i o =>
  cases h;rename_i hO;obtain⟨h1,hm,A',h2,h3⟩:=hO;cases h2;refine .eD _ _ _ _ _ _ ⟨h1,hm,_,rfl,fun e=>?_⟩;obtain⟨h4,h5⟩:=h3 e;rw[h5,add_plain,Nat.add_assoc];exact⟨by rw[h5]at h4;exact h4,rfl⟩
def Oc{p:AV}{v:Value}(hp:p.ptr=true)(h:VR g w p v): ∃ A,v = .pointer (some A):=by
 cases p<;>simp[AV.ptr]at hp<;>cases h
 case ref hO=>obtain⟨_,A,h2,_⟩:=hO;exact⟨A,h2⟩
 case dO=>exact⟨_,rfl⟩
 case eD hO=>obtain⟨_,_,A,h2,_⟩:=hO;exact⟨A,h2⟩
def Od {lo hi : Option AV} {vl vh : Option Value} {n : Nat} {K : Nat -> Nat -> Prop} (hl : mD g w lo vl) (hh : mD g w hi vh)
    (hK:bound hi n n fun h=>bound lo 0 h fun l=>K l h) :
    ∃ l h:Nat,l<=h/\h<=n/\(Instr.sliceBounds false n n vl vh none).run P w = .ok (l,h,n) w/\K l h:=by
 obtain⟨h,hb,kb1,uC⟩:∃ h:Nat,h<=n/\(match vh with|some v=>Instr.sliceBound v n .sliceAlen|none=>Pure.pure n:Sem Nat).run P w = .ok h w/\bound lo 0 h fun l=>K l h:=by
  cases hi with
  | none => cases vh with
    | none=>exact⟨n,Nat.le_refl _,rfl,hK⟩
    | some v=>exact hh.elim
  | some u => cases vh with
    | none=>exact hh.elim
    | some v =>
      have FW:VR g w u v:=hh;cases FW<;>simp only[bound]at hK
      case int k i=>exact⟨i.toNat,by omega,mC hK.1 (by omega),hK.2.2⟩
 obtain⟨l,lb,r1,r2⟩:∃ l:Nat,l<=h/\(match vl with|some v=>Instr.sliceBound v h .sliceB|none=>Pure.pure 0:Sem Nat).run P w = .ok l w/\K l h:=by
  cases lo with
  | none => cases vl with
    | none=>exact⟨0,bR _,rfl,uC⟩
    | some v=>exact hl.elim
  | some u => cases vl with
    | none=>exact hl.elim
    | some v =>
      have hl':VR g w u v:=hl;cases hl'<;>simp only[bound]at uC
      case int k i=>exact⟨i.toNat,by omega,mC uC.1 uC.2.1,uC.2.2⟩
 refine⟨l,h,lb,hb,?_,r2⟩;cases vh<;>cases vl<;>simp_all[Instr.sliceBounds]
def Ty {t e : TypeId} {el : El} {n : Nat} {p : AV} {a : Value} {lo hi : Option AV} {vl vh : Option Value} (hR : Rel g w σ) (hu : P.underlying t = some (.array n e)) (he : iC P e = some el)
    (hx:VR g w p a) (hl:mD g w lo vl) (hh:mD g w hi vh) (hK:zm el n p lo hi fun v=>K v σ):bx P (Instr.sliceAt t a vl vh none) g w σ K:=by
 obtain⟨fi,hi',_,hs,_⟩:=gj he;obtain⟨hp,hK⟩:=hK;obtain⟨A,rfl⟩:=Oc hp hx;obtain⟨l,h,q1,q2,q3,q4⟩:=Od (P:=P) hl hh hK;refine bx.pure hR (v:= .slice (some (if n=l then A else A.add (l*el.sz))) (h-l) (n-l)) ?_ ?_ q4
 ·simp[Instr.sliceAt,aQ hu,Instr.sureAddr,q3,cS hi',hs]
 ·by_cases e:h=l
  ·subst e;rw[if_pos rfl];simpa using VR.iB (g:=g) (w:=w) false el (some (if n=h then A else A.add (h*el.sz))) (n-h) (by simp)
  ·rw[if_neg e,if_neg (by omega)];exact .rW el _ _ _ _ (by omega) (by omega) (Za _ hp hx)
def zC {ats : Array TypeId} {r sT e : TypeId} {fi : TypeInfo} {w' : World} {base : Option Addr} {dl dc N : Nat} {b : Value} {us : Array Value}
    (h0:ats[0]? = some sT) (hu:P.underlying sT=some (.slice e)) (hi:P.info? e=some fi) (hl:(Builtin.lenOf b).run P w = .ok N w)
    (hf:(Builtin.firstCells fi.size (min N dl) b).run P w = .ok us w) (hst:∀ A,base=some A->(storeCells A us.toList).run P w = .ok () w') (hn:base=none->w'=w) :
    (Builtin.copy_ ats r #[.slice base dl dc,b]).run P w = .ok (.int .i64 (min N dl:Nat)) w':=by
 have vp:(Builtin.firstCells fi.size (N.min dl) b).run P w = .ok us w:=hf;unfold Builtin.copy_;simp only[eZ,eJ,dL,h0,Sem.run_bind,aQ hu,Result.andThen_ok,hl,cS hi,vp];cases base with
 | none=>rw[hn rfl];rfl
 | some A=>simp[hst A rfl,goInt]
def Js{el:El}{ys:List AV}(h:ys.all (fun a=>a.fits el)=true)(m:Nat): ∀ i,i<(ys.take m).length->((ys.take m).getD i .undef).fits el=true:=fun i hi=>by
 simp only[List.length_take]at hi;have h1:i<ys.length:=by omega
 have h2:i<m:=by omega
 have:=aW.1 h (ys[i]) (cQ _);simpa[h1,h2]using this
def Rg {ats : Array TypeId} {r sT e : TypeId} {el : El} {x y : AV} {a b : Value} (hR : Rel g w σ)
    (h0:ats[0]? = some sT) (hu:P.underlying sT=some (.slice e)) (he:iC P e=some el)
    (hx:VR g w x a) (hy:VR g w y b) (qy:FJ σ el x y K):bx P (Builtin.copy_ ats r #[a,b]) g w σ K:=by
 obtain⟨fi,hi',_,hs,_⟩:=gj he
 have Rh:∀ {base:Option Addr} {dc:Nat},a = .slice base 0 dc->(∀ ys:List AV,Bo σ el x ys K->K (.int .i64 0) σ)->bx P (Builtin.copy_ ats r #[a,b]) g w σ K:=fun {base dc} ha hk=>by
  obtain⟨ys,us,k1,k2,k3,k4,k5⟩:=r_ (P:=P) 0 hR hy qy;have yG:us = #[]:=eL (by simpa using k4);subst ha;refine bx.pure hR (v:= .int .i64 (min ys.length 0:Nat)) (zC (us:=us) h0 hu hi' k2 (by rw[hs];exact k3) (fun A _=>by rw[yG];simp[storeCells]) (fun _=>rfl)) (by simpa using VR.int _ _) (hk ys k1.2)
 cases hx<;>(try exact(let ⟨_,_,h,_⟩:=r_ (P:=P) 0 hR hy qy;h.2.elim))
 case au=>exact Rh rfl fun ys h=>h
 case iB f bj base cap hf=>exact Rh rfl fun ys h=>h.2
 case aO f bj xs b' off cap hi hf hx ft hc h =>
  cases xs with
  | nil=>exact Rh rfl fun ys h=>h.2
  | cons z zs=>exact(let ⟨_,_,h,_⟩:=r_ (P:=P) 0 hR hy qy;h.2.elim)
 case rW bj p n A cap hn hc h =>
  obtain⟨ys,us,⟨hfit,hK⟩,k2,k3,k4,k5⟩:=r_ (P:=P) n hR hy qy;obtain⟨rfl,rfl,hK⟩:=hK;have ht:=Js hfit n;have hlen:(ys.take n).length=min n ys.length:=by simp
  obtain⟨A',w',g',σ',e1,r1,r2,r3,r4⟩:=DO (P:=P) (x:= .agg (ys.take n)) (us:=us.toList) hR h (by simp only[AV.cells,ez,k4,hlen];omega) (fun i hi=>by
   simp only[AV.cells]at hi ⊢;have h1:=k5 i 0 hi (by simp);have h2:=ht i hi
   have hc0:((ys.take n).getD i .undef).cell 0=(ys.take n).getD i .undef:=by
    generalize (ys.take n).getD i .undef=z at h2;cases z<;>first|rfl|(simp[AV.fits]at h2;done)
   rw[hc0]at h1;simpa using h1) (oh k5 (by rw[k4,hlen];congr 1;omega) ht) hK
  cases e1;exact⟨_,_,g',_,_,zC (us:=us) h0 hu hi' k2 (by rw[hs];exact k3) (fun A e=>by cases e;exact r1) (fun e=>by cases e),r2,r3,.int _ _,r4⟩
 case own bj l m o n h =>
  have sj:VR g w (.own bj l m o n) a:= .own _ _ _ _ _ _ h;obtain⟨ys,us,⟨hfit,hK⟩,k2,k3,k4,k5⟩:=r_ (P:=P) n hR hy qy;obtain⟨rfl,hK⟩:=hK;obtain⟨q1,q2,A,cap,rfl,q3⟩:=h;split at hK
  ·rename_i T bg xs hxs;obtain⟨rfl,rfl,k6,hK⟩:=hK;have ht:=Js hfit n;have hlen:(ys.take n).length=min ys.length n:=by simp;omega
   rcases Nat.eq_zero_or_pos (min ys.length n)with hz|hz
   ·have h1:ys.take n=[]:=eR (by omega);have yG:us = #[]:=eL (by rw[k4,hz];simp);rw[h1]at hK;simp only[ew,Ew hxs]at hK;exact bx.pure hR (zC (us:=us) h0 hu hi' k2 (by rw[hs];exact k3) (fun A _=>by rw[yG];simp[storeCells]) (fun _=>rfl)) (.int _ _) hK
   ·obtain⟨o1,o2,o3⟩:=hR.ok l _ hxs;obtain⟨q4,q5,q6⟩:=q3 o1.symm;rcases o3 with⟨rfl,_,_⟩|⟨b',vs,b1,b2,b3,b4,b5,b6⟩
    ·simp at q4;omega
    ·have q7:=q6 (by omega);rw[b1]at q7;simp only[aS]at q7;subst q7
     have hrow:g.off l+(o+n)*bg.sz<=vs.size:=by
      have:(o+n)*bg.sz<=g.cap l*bg.sz:=aX _ (by omega);omega
     have hle:min ys.length n*bg.sz<=n*bg.sz:=aX _ (by omega);have hroom:g.off l+o*bg.sz+us.size<=vs.size:=by rw[bz]at hrow;omega
     have hrun:=nE (P:=P) (b:=b') (o:=g.off l+o*bg.sz) us.toList w vs 0 b2 (by simpa using hroom) (oh k5 (by rw[k4,hlen]) ht);obtain⟨f1,f2,f3,f4,f5⟩:=nA w b' (g.off l+o*bg.sz+0) us.toList
     obtain⟨r1,r2⟩:=hR.update (o':= .cy T bg (ew xs o (ys.take n))) hxs rfl b1 f1 f2 f3 f4 f5
      (fun hm => ⟨by rw [fh]; exact o1, fun i hi => by
        rw[fh]at hi;rw[lX _ _ _ (by omega)];split
        ·rename_i hh;exact ht _ (by omega)
        ·exact o2 i hi,
        .inr ⟨b',_,b1,b2.setRow _ _,by rw[size_putRow];exact b3,by rw[fh];exact b4,fun i c hi hc=>by
         rw[fh]at hi;rw[lX _ _ _ (by omega),lM _ _ _ (by simpa using hroom)];simp only[ez,di,hlen,k4];by_cases h1:o<=i/\i<o+min ys.length n
         ·obtain⟨j,rfl⟩:∃ j,i=o+j:=⟨i-o,by omega⟩;have hj:j<min ys.length n:=by omega
          have h2:=mE hj hc;rw[if_pos h1,if_pos (by rw[bz];omega),show g.off l+(o+j)*bg.sz+c-(g.off l+o*bg.sz)=j*bg.sz+c by rw[bz];omega,show o+j-o=j by omega];have:=(k5 j c (by omega) hc).mono hm;simpa using this
         ·have hne : ¬ (g.off l + o * bg.sz <= g.off l + i * bg.sz + c /\ g.off l + i * bg.sz + c < g.off l + o * bg.sz + min ys.length n * bg.sz) := by
           rintro⟨z1,z2⟩;rcases Nat.lt_or_ge i o with h2|h2
           ·have:(i+1)*bg.sz<=o*bg.sz:=aX _ h2;rw[cL]at this;omega
           ·have:(o+min ys.length n)*bg.sz<=i*bg.sz:=aX _ (by omega);rw[bz]at this;omega
          rw[if_neg h1,if_neg hne];exact(b5 i c hi hc).mono hm,by
         cases T with
         | none=>trivial
         | some T=>rw[size_putRow];exact⟨(oV _ _ _ _ _).trans b6.1,b6.2⟩⟩⟩)
     exact⟨_,_,g,_,_,zC (us:=us) h0 hu hi' k2 (by rw[hs];exact k3) (fun A e=>by cases e;exact hrun) (fun e=>by cases e),r1,r2,.int _ _,hK⟩
  ·exact hK.elim
def Oe {ats : Array TypeId} {r sT xT e : TypeId} {d : TypeDesc} {el : El} {base : Option Addr} {sLen sCap : Nat} {x : Value} {us : Array Value}
    (h0:ats[0]? = some sT) (h1:ats[1]? = some xT) (hu:P.underlying sT=some (.slice e)) (hx:P.underlying xT=some d) (hd:∀ k,d≠ .int k) (he:iC P e=some el)
    (hl:(Builtin.lenOf x).run P w = .ok 0 w) (hc:sLen<=sCap) (hn:(Builtin.firstCells el.sz 0 x).run P w = .ok us w) (yG:us = #[]) :
    (Builtin.append_ ats r #[.slice base sLen sCap,x]).run P w = .ok (.slice base sLen sCap) w:=by
 obtain⟨fi,hi,_,hs,_⟩:=gj he;have hfalse:((d matches .int _):Bool)=false:=by cases d<;>first|rfl|exact absurd rfl (hd _)
 rw[yG]at hn;unfold Builtin.append_;simp only[eZ,eJ,dL,h0,h1,Sem.run_bind,aQ hu,Result.andThen_ok,cS hi,hs,aQ hx,Sem.run_pure,hfalse,hl,aB,if_false,di,if_pos hc,hn,fS,if_true];cases base<;>simp[storeCells]
def Jt {ats : Array TypeId} {r sT xT e : TypeId} {d : TypeDesc} {el : El} {x y : AV} {a b : Value} (hR : Rel g w σ)
    (h0:ats[0]? = some sT) (h1:ats[1]? = some xT) (hu:P.underlying sT=some (.slice e)) (hd':P.underlying xT=some d) (hd:∀ k,d≠ .int k) (he:iC P e=some el)
    (hx:VR g w x a) (hy:VR g w y b) (qy:En σ el x y K):bx P (Builtin.append_ ats r #[a,b]) g w σ K:=by
 unfold En at qy;split at qy
 ·rename_i bj l m lo n;obtain⟨rfl,qy⟩:=qy;have sj:=hx;cases hx;rename_i h;obtain⟨q1,q2,A,cap,rfl,q3⟩:=h;obtain⟨ys,news,⟨hfit,hK⟩,hl,uD,hsz,hh⟩:=mF (P:=P) hR hy qy
  have xy:∀ i,i<ys.length->(ys.getD i .undef).fits bj=true:=fun i hi=>by
   have:=aW.1 hfit (ys[i]) (cQ _);simpa[hi]using this
  have h1c:=oh hh hsz xy;split at hK
  ·rename_i T bg xs hxs;obtain⟨rfl,rfl,k3,hr,hK⟩:=hK;obtain⟨o1,o2,o3⟩:=hR.ok l _ hxs;obtain⟨q4,q5,q6⟩:=q3 o1.symm;rcases o3 with⟨rfl,_,_⟩|⟨b',vs,b1,b2,b3,b4,b5,b6⟩
   ·simp at k3
   have hfo:vs.size=g.off l+(lo+1)*bg.sz+cap*bg.sz:=by
    rw[b3,<-q5,bz cap,Nat.add_comm (cap*_),Nat.add_assoc]
   have Ju:(xs.drop (lo+1)).length=n:=by simp;omega
   have hzl:(xs.drop (lo+1)++ys).length=n+ys.length:=by simp;omega
   have Jm:∀ i,i<(xs.drop (lo+1)++ys).length->((xs.drop (lo+1)++ys).getD i .undef).fits bg=true:=fun i hi=>by
    rw[hzl]at hi;by_cases h:i<n
    ·have:=o2 (lo+1+i) (by omega);have h':i<(xs.drop (lo+1)).length:=by omega
     simpa[aC h']using this
    ·obtain⟨j,rfl⟩:∃ j,i=n+j:=⟨i-n,by omega⟩;have:=xy j (by omega);rw[<-Ju];simpa[bE]using this
   have left:∀ i c,i<n->c<bg.sz->VR g w (((xs.drop (lo+1)).getD i .undef).cell c) (vs.getD (g.off l+(lo+1)*bg.sz+i*bg.sz+c) Go.undef):=fun i c hi hc=>by
    have:=b5 (lo+1+i) c (by omega) hc;rw[show g.off l+(lo+1+i)*bg.sz+c=g.off l+(lo+1)*bg.sz+i*bg.sz+c by rw[bz (lo+1)];omega]at this;rw[show (xs.drop (lo+1)).getD i .undef=xs.getD (lo+1+i) .undef by simp];exact this
   have aaC:∀ i,i<n->(xs.drop (lo+1)++ys).getD i .undef=(xs.drop (lo+1)).getD i .undef:=fun i hi=>by
    have h':i<(xs.drop (lo+1)).length:=by omega
    simp[aC h']
   have aee:∀ j,(xs.drop (lo+1)++ys).getD (n+j) .undef=ys.getD j .undef:=fun j=>by
    rw[<-Ju];simp[bE]
   by_cases hc:n+ys.length<=cap
   ·rcases Nat.eq_zero_or_pos ys.length with hz|hz
    ·have hys:ys=[]:=eR hz;subst hys;have hne:news = #[]:=eL (by simpa using hsz);have hrun:=Oe (P:=P) (r:=r) (base:=A) (sLen:=n) (sCap:=cap) h0 h1 hu hd' hd he hl (by simpa using hc) (uD w rfl) hne
     obtain⟨r1,r2⟩:=hR.Yl (w':=w) hxs rfl b1 n cap (g.off l+(lo+1)*bg.sz) (.vec bg (xs.drop (lo+1)++[])) rfl rfl rfl rfl (fun _ _=>rfl)
      (fun hm => ⟨by simp [aJ.push]; omega, Jm, .inr ⟨b', vs, by simp [aJ.push], b2, by simp [aJ.push]; exact hfo, by simp [aJ.push]; omega, fun i c hi kH => by
        rw[hzl]at hi;rw[Ev];rw[aaC i (by simpa using hi)];exact(left i c (by simpa using hi) kH).mono hm,trivial⟩⟩)
     refine⟨_,_,_,_,_,hrun,r1,r2,.own _ _ _ _ _ _ ⟨by simp[aJ.push,hR.len],by simp[aJ.push,hR.len],_,_,rfl,fun _=>⟨by omega,by simp[aJ.push,hR.len],fun hlt=>?_⟩⟩,hK⟩;simp only[aJ.push,hR.len,if_true]at hlt ⊢;rw[q6 (by omega),b1];simp
    ·have q7:=q6 (by omega);rw[b1]at q7;simp only[aS]at q7;subst q7;have hle:(n+ys.length)*bg.sz<=cap*bg.sz:=aX _ hc;rw[bz]at hle;have hroom:g.off l+(lo+1)*bg.sz+n*bg.sz+news.size<=vs.size:=by omega
     have hrun:=DQ (P:=P) (r:=r) (b:=b') (o:=g.off l+(lo+1)*bg.sz) (sLen:=n) h0 h1 hu hd' hd he hl hc (uD w rfl) b2 hroom h1c;obtain⟨f1,f2,f3,f4,f5⟩:=nA w b' (g.off l+(lo+1)*bg.sz+n*bg.sz) news.toList
     obtain⟨r1,r2⟩:=hR.Yl hxs rfl b1 (n+ys.length) cap (g.off l+(lo+1)*bg.sz) (.vec bg (xs.drop (lo+1)++ys)) f1 f2 f3 f4 f5
      (fun hm => ⟨by simp [aJ.push]; omega, Jm, .inr ⟨b', _, by simp [aJ.push], b2.setRow _ _, by rw [size_putRow]; simp [aJ.push]; exact hfo, by simp [aJ.push]; omega, fun i c hi kH => by
        rw[hzl]at hi;rw[Ev];rw[lM _ _ _ (by simpa using hroom)];simp only[ez,hsz];by_cases h:i<n
        ·have h2:=mE h kH;rw[if_neg (by omega),aaC i h];exact(left i c h kH).mono hm
        ·obtain⟨j,rfl⟩:∃ j,i=n+j:=⟨i-n,by omega⟩;have hj:j<ys.length:=by omega
         have h2:=mE hj kH;rw[aee,if_pos (by rw[bz n];omega),show g.off l+(lo+1)*bg.sz+(n+j)*bg.sz+c-(g.off l+(lo+1)*bg.sz+n*bg.sz)=j*bg.sz+c by rw[bz n];omega];have:=(hh j c hj kH).mono hm;simpa using this,trivial⟩⟩)
     refine⟨_,_,_,_,_,hrun,r1,r2,.own _ _ _ _ _ _ ⟨by simp[aJ.push,hR.len],by simp[aJ.push,hR.len],_,_,rfl,fun _=>⟨by omega,by simp[aJ.push,hR.len],fun hlt=>?_⟩⟩,hK⟩;simp[aJ.push,hR.len]
   ·obtain⟨xs',olds,p1,p2,p3,p4,p5⟩:=mF (P:=P) (K:=fun zs=>zs=(xs.drop (lo+1)).take n) (el:=bg) hR sj (by simp[fM,hxs]);have aef:xs'=xs.drop (lo+1):=by rw[p1];exact bw (by omega)
    subst aef;rw[Ju]at p2 p3 p4;obtain⟨cap',rest,dr,k1,k2,k6⟩:=Et (P:=P) (r:=r) (base:=A) (sLen:=n) (sCap:=cap) h0 h1 hu hd' hd he hl (by omega) hr (fun _=>p3 _ rfl) (fun _=>uD _ rfl);have k4:=p5.append (rest:=rest) hh (by rw[Ju];exact p4) hsz
    have k3:(olds++news++rest).size=cap'*bg.sz:=by
     simp only[Array.size_append,p4,hsz,k2];rw[<-bz,<-bz]
     congr 1
     omega
    obtain⟨r0,e0⟩:=hR.kill hxs rfl;have kJ:=r0.drew dr;have hm:=jV g { w with drawn:=dr } (.cells (olds++news++rest) e) (n+ys.length) (some w.heap.size) cap' kJ.lt
    obtain⟨r1,r2⟩:=kJ.oU (.cells (olds++news++rest) e) (.vec bg (xs.drop (lo+1)++ys)) (n+ys.length) cap'
     ⟨by simp [aJ.push]; omega, Jm, .inr ⟨w.heap.size, _, by simp [aJ.push], mB _ _ e, by simp only [aJ.push, if_true, bV]; exact k3, by simp [aJ.push]; omega, fun i c hi hc => by
       rw[Ev,bV];exact((k4 i c hi hc).mono (fg.drew σ g w dr).mono).mono hm,trivial⟩⟩
    have hlen:=hR.len;refine⟨_,_,_,_,_,k6,r1,e0.trans ((fg.drew (σ.set l .dead) g w dr).trans r2),.own _ _ _ _ _ _ ⟨by simp[aJ.push,hR.len],by simp[aJ.push,hR.len],_,_,rfl,fun _=>⟨by omega,by simp[aJ.push,hR.len],fun _=>by simp[aJ.push,hR.len]⟩⟩,hK⟩
  ·exact hK.elim
 ·exact xx hR h0 h1 hu hd' hd he hx hy (.inl rfl) qy
def Tz{x:AV}{v:Value}(hR:Rel g w σ)(hx:VR g w x v)(hK:zq σ x K): bx P (pure v) g w σ K:=by
 unfold zq at hK;split at hK
 ·exact .pure hR rfl hx hK
 ·exact .pure hR rfl hx hK
 ·rename_i el l m lo n;split at hK
  ·rename_i T bj xs hl;obtain⟨rfl,rfl,hn,hK⟩:=hK;cases hx with
   | own _ _ _ _ _ _ hO =>
   obtain⟨_,_,A,cap,rfl,h4⟩:=hO;obtain⟨lK,oQ,hrow⟩:=hR.ok l _ hl;have hlen:((xs.drop lo).take n).length=n:=by simp;omega
   by_cases Jv:n=0
   ·subst Jv;rw[List.take_zero]at hK;obtain⟨r1,r2⟩:=hR.kill hl rfl;exact⟨_,w,_,_,_,rfl,r1,r2,.iB false bj A cap (fun h=>by cases h),hK⟩
   rcases hrow with⟨hx,_,_⟩|⟨b,vs,hb,hrow,hsz,hle,hc,_⟩
   ·subst hx;simp at hn;omega
   obtain⟨_,h6,h7⟩:=h4 lK.symm;have hlt:lo<g.cap l:=by omega
   have hA:=h7 hlt;rw[hb]at hA;simp only[aS]at hA;subst hA
   have hidx:∀ i c,i<n->c<bj.sz->g.off l+(lo+i)*bj.sz+c<vs.size:=fun i c h1 h2=>by
    rw[hsz];have:(lo+i)*bj.sz+bj.sz<=g.cap l*bj.sz:=by rw[<-cL];exact aX _ (by omega)
    omega
   have hoff:∀ i c,g.off l+lo*bj.sz+(i*bj.sz+c)=g.off l+(lo+i)*bj.sz+c:=fun i c=>by rw[bz];omega
   have mS:∀ i,i<n->((xs.drop lo).take n).getD i .undef=xs.getD (lo+i) .undef:=fun i hi=>by
    simp[aj,List.getElem?_take,hi]
   obtain⟨r1,r2⟩:=hR.freeze hl rfl hb;refine⟨_,w,_,_,_,rfl,r1,r2,?_,hK⟩;have key:=VR.aO (g:=g.hY b) (w:=w) false bj ((xs.drop lo).take n) b (g.off l+lo*bj.sz) cap (.inr rfl) (fun h=>by cases h) (by omega) (fun i h1=>?_) (fun i c h1 h2=>?_) (fun i c h1 h2=>?_)
   ·rw[hlen]at key;exact key
   ·rw[hlen]at h1;rw[mS i h1];exact oQ (lo+i) (by omega)
   ·rw[hlen]at h1;rw[hoff,hrow.cell (hidx i c h1 h2)];rfl
   ·rw[hlen]at h1;rw[hoff,mS i h1]
    have e1:dw w ⟨b,g.off l+(lo+i)*bj.sz+c,none⟩=vs.getD (g.off l+(lo+i)*bj.sz+c) Go.undef:=by
     simp only[dw,hrow.cell (hidx i c h1 h2),bu]
    rw[e1];exact(hc (lo+i) c (by omega) h2).mono r2.mono
  ·exact hK.elim
 ·exact hK.elim
def Ri {ats : Array TypeId} {r sT xT e : TypeId} {d : TypeDesc} {el : El} {x y : AV} {a b : Value} (hR : Rel g w σ)
    (h0:ats[0]? = some sT) (h1:ats[1]? = some xT) (hu:P.underlying sT=some (.slice e)) (hd':P.underlying xT=some d) (hd:∀ k,d≠ .int k) (he:iC P e=some el)
    (hx:VR g w x a) (hy:VR g w y b) (qy:Da σ el x y fun v=>K v σ):bx P (Builtin.append_ ats r #[a,b]) g w σ K:=by
 obtain⟨ys,news,⟨hfit,hz,hK⟩,hl,uD,hsz,hh⟩:=mF (P:=P) hR hy qy
 have xy:∀ i,i<ys.length->(ys.getD i .undef).fits el=true:=fun i hi=>by
  have:=aW.1 hfit (ys[i]) (cQ _);simpa[hi]using this
 have hn:∀ dr,(Builtin.firstCells el.sz ys.length b).run P { w with drawn:=dr } = .ok news { w with drawn:=dr }:=fun dr=>uD _ rfl
 have key:∀ (xs:List AV) (olds:Array Value) (base:Option Addr) (sCap:Nat),a = .slice base xs.length sCap->sCap<xs.length+ys.length->fJ (xs.length+ys.length) el ->
  (∀ dr,(Builtin.firstCells el.sz xs.length (.slice base xs.length sCap)).run P { w with drawn:=dr } = .ok olds { w with drawn:=dr }) ->
  olds.size=xs.length*el.sz->gM g w el xs olds->(∀ i,i<xs.length->(xs.getD i .undef).fits el=true)->K (.aO false el (xs++ys)) σ->bx P (Builtin.append_ ats r #[a,b]) g w σ K:=by
  intro xs olds base sCap ha hc hr ho hos hoh hof hk;obtain⟨cap,rest,dr,k1,k2,k3⟩:=Et (P:=P) (r:=r) h0 h1 hu hd' hd he hl hc hr ho hn;have hzs:gM g w el (xs++ys) (olds++news++rest):=hoh.append hh hos hsz
  have hsize:(olds++news++rest).size=cap*el.sz:=by
   simp only[Array.size_append,hos,hsz,k2];rw[<-bz,<-bz]
   congr 1
   omega
  have Jm:∀ i,i<(xs++ys).length->((xs++ys).getD i .undef).fits el=true:=fun i hi=>by
   simp only[aA]at hi;by_cases h:i<xs.length
   ·have:=hof i h;simpa[aC h]using this
   ·obtain⟨j,rfl⟩:∃ j,i=xs.length+j:=⟨i-xs.length,by omega⟩;have:=xy j (by omega);simpa[bE]using this
  have kJ:=hR.drew dr;have hrow:=mB { w with drawn:=dr } (olds++news++rest) e;have hm:=tC g { w with drawn:=dr } (.cells (olds++news++rest) e) kJ.lt;obtain⟨r1,r2⟩:=kJ.Lz (.cells (olds++news++rest) e)
  have hlt:∀ i c,i<(xs++ys).length->c<el.sz->i*el.sz+c<(olds++news++rest).size:=fun i c hi hc=>by
   rw[hsize]
   have h2:i*el.sz+el.sz<=cap*el.sz:=by
    rw[<-cL];refine aX _ ?_;simp only[aA]at hi;omega
   omega
  refine⟨_,_,_,_,σ,by rw[ha];exact k3,r1,(fg.drew σ g w dr).trans r2,?_,hk⟩
  have:=VR.aO (g:=g.hY w.heap.size) (w:=World.alloc { w with drawn:=dr } (.cells (olds++news++rest) e)) false el (xs++ys) w.heap.size 0 cap (.inr rfl) (fun h=>by cases h) (by simpa using k1) Jm
   (fun i c hi hc=>by rw[bV,hrow.cell (hlt i c hi hc)];rfl)
   (fun i c hi hc => by
     have e1:dw (World.alloc { w with drawn:=dr } (.cells (olds++news++rest) e)) ⟨w.heap.size,0+(i*el.sz+c),none⟩=(olds++news++rest).getD (i*el.sz+c) Go.undef:=by
      unfold dw;rw[Nat.zero_add,hrow.cell (hlt i c hi hc)];rfl
     rw[e1];exact((hzs i c hi hc).mono (fg.drew σ g w dr).mono).mono hm)
  simpa using this
 cases hx<;>(try exact False.elim hK)
 case au =>
  exact key [] #[] none 0 rfl (by simp;omega) (by simpa using hK.1) (fun _=>rfl) (by simp) (fun i c hi=>absurd hi (cE _)) (fun i hi=>absurd hi (cE _)) hK.2
 case iB f bj base cap hf =>
  cases f with
  | false=>exact hK.elim
  | true =>
    obtain⟨rfl,hr,hK⟩:=hK;have hcap:cap=0:=hf rfl;subst hcap;exact key [] #[] base 0 rfl (by simp;omega) (by simpa using hr) (fun _=>by cases base<;>simp[Builtin.firstCells,loadCells,loadCellsFrom]) (by simp) (fun i c hi=>absurd hi (Nat.not_lt_zero _)) (fun i hi=>absurd hi (Nat.not_lt_zero _)) hK
 case aO f bj xs b' off cap yF hf AJ ft hc h =>
  cases f with
  | false=>exact hK.elim
  | true =>
    obtain⟨rfl,hr,hK⟩:=hK;have hcap:cap=xs.length:=hf rfl;subst hcap;have sj:VR g w (.aO true bj xs) (.slice (some ⟨b',off,none⟩) xs.length xs.length):= .aO true bj xs b' off _ yF hf AJ ft hc h;obtain⟨xs',olds,q1,q2,q3,q4,q5⟩:=mF (P:=P) (K:=fun zs=>zs=xs) (el:=bj) hR sj (by simp[fM]);subst q1;exact key xs' olds _ xs'.length rfl (by omega) hr (fun _=>q3 _ rfl) q4 q5 ft hK
def qA {lo : Option AV} {hi mx : AV} {vl : Option Value} {vh vm : Value} {len cap Wu : Nat} {K : Nat -> Nat -> Nat -> Prop} (hl : mD g w lo vl) (hh : VR g w hi vh) (hm : VR g w mx vm) (fX : Wu <= cap)
    (hK:oe lo hi mx Wu K) :
    ∃ l h m:Nat,l<=h/\h<=m/\m<=Wu/\(Instr.sliceBounds true len cap vl (some vh) (some vm)).run P w = .ok (l,h,m) w/\K l h m:=by
 unfold oe at hK;cases hm<;>simp only[bound]at hK;rename_i k1 m;obtain⟨m0,m1,hK⟩:=hK;cases hh<;>simp only[bound]at hK;rename_i k2 h;obtain⟨h0,h1,hK⟩:=hK;have e1:=mC (P:=P) (w:=w) (k:=k1) (code:= .slice3Acap) m0 (show m<=(cap:Int) by omega);have e2:=mC (P:=P) (w:=w) (k:=k2) (code:= .slice3B) h0 (show h<=(m.toNat:Int) by omega)
 obtain⟨l,lb,r1,r2⟩:∃ l:Nat,l<=h.toNat/\(match vl with|some v=>Instr.sliceBound v h.toNat .slice3C|none=>Pure.pure 0:Sem Nat).run P w = .ok l w/\K l h.toNat m.toNat:=by
  cases lo with
  | none => cases vl with
    | none=>exact⟨0,bR _,rfl,hK⟩
    | some v=>exact hl.elim
  | some u => cases vl with
    | none=>exact hl.elim
    | some v =>
      have hl':VR g w u v:=hl;cases hl'<;>simp only[bound]at hK
      case int k i=>exact⟨i.toNat,by omega,mC hK.1 hK.2.1,hK.2.2⟩
 refine⟨l,h.toNat,m.toNat,lb,by omega,by omega,?_,r2⟩;cases vl<;>simp_all[Instr.sliceBounds]
def BA {t e : TypeId} {el : El} {x hi mx : AV} {a vh vm : Value} {lo : Option AV} {vl : Option Value} (hR : Rel g w σ) (hu : P.underlying t = some (.slice e)) (he : iC P e = some el)
    (hx:VR g w x a) (hl:mD g w lo vl) (hh:VR g w hi vh) (hm:VR g w mx vm) (hK:ye σ el x lo hi mx K):bx P (Instr.sliceAt t a vl (some vh) (some vm)) g w σ K:=by
 obtain⟨fi,hi',_,hs,_⟩:=gj he
 have run:∀ (A:Option Addr) (len cap l h m:Nat),(Instr.sliceBounds true len cap vl (some vh) (some vm)).run P w = .ok (l,h,m) w ->
  (Instr.sliceAt t (.slice A len cap) vl (some vh) (some vm)).run P w = .ok (.slice (if m=l then A else A.map (·.add (l*el.sz))) (h-l) (m-l)) w:=fun A len cap l h m hb=>by
  simp only[Instr.sliceAt,Sem.run_bind,aQ hu,Result.andThen_ok,Instr.slice,hb,cS hi',hs,Sem.run_pure]
 have aaD:∀ {g:aJ} {w:World} {xs:List AV} {b off cap l h m:Nat},g.fC b->xs.length<=cap->h<=xs.length->l<h->h<=m->(∀ i,i<xs.length->(xs.getD i .undef).fits el=true) ->
  (∀ i c,i<xs.length->c<el.sz->(w.cell? ⟨b,off+(i*el.sz+c),none⟩).isSome=true)->(∀ i c,i<xs.length->c<el.sz->VR g w ((xs.getD i .undef).cell c) (dw w ⟨b,off+(i*el.sz+c),none⟩)) ->
  VR g w (.aO (h==m) el ((xs.drop l).take (h-l))) (.slice (some ⟨b,off+l*el.sz,none⟩) (h-l) (m-l)):=by
  intro g w xs b off cap l h m yF AJ hhl hlt hhm ft hc h';have hlen:((xs.drop l).take (h-l)).length=h-l:=by simp;omega
  have mS:∀ i,i<h-l->((xs.drop l).take (h-l)).getD i .undef=xs.getD (l+i) .undef:=fun i hi=>gK hi;have hoff:∀ i c,off+l*el.sz+(i*el.sz+c)=off+((l+i)*el.sz+c):=fun i c=>by rw[bz];omega
  have:=VR.aO (g:=g) (w:=w) (h==m) el ((xs.drop l).take (h-l)) b (off+l*el.sz) (m-l) yF (fun e=>by rw[hlen];have:=beq_iff_eq.1 e;omega) (by rw[hlen];omega)
   (fun i hi=>by rw[hlen]at hi;rw[mS i hi];exact ft _ (by omega))
   (fun i c hi fX=>by rw[hlen]at hi;rw[hoff];exact hc _ c (by omega) fX)
   (fun i c hi fX=>by rw[hlen]at hi;rw[mS i hi,hoff];exact h' _ c (by omega) fX)
  rwa[hlen]at this
 unfold ye at hK;cases hx<;>simp only at hK
 case au =>
  obtain⟨l,h,m,q1,q2,q3,q4,q5⟩:=qA (P:=P) (len:=0) (cap:=0) hl hh hm (Nat.le_refl _) hK;have:h=0/\l=0/\m=0:=by omega
  obtain⟨rfl,rfl,rfl⟩:=this;refine bx.pure hR (run none 0 0 0 0 0 q4) ?_ q5;simpa using VR.au
 case iB f bj b cap hf =>
  obtain⟨rfl,hK⟩:=hK;obtain⟨l,h,m,q1,q2,q3,q4,q5⟩:=qA (P:=P) (len:=0) (cap:=cap) hl hh hm (bR _) hK;have q3:m<=0:=q3;have:h=0/\l=0/\m=0:=by omega
  obtain⟨rfl,rfl,rfl⟩:=this;refine bx.pure hR (run b 0 cap 0 0 0 q4) ?_ q5;simpa using VR.iB (g:=g) (w:=w) true bj b 0 (by simp)
 case aO f bj xs b off cap yF hf AJ ft hc h =>
  obtain⟨rfl,hK⟩:=hK;obtain⟨l,h',m,q1,q2,q3,q4,q5⟩:=qA (P:=P) (len:=xs.length) (cap:=cap) hl hh hm AJ hK;refine bx.pure hR (run _ _ _ _ _ _ q4) ?_ q5;by_cases e:h'=l
  ·subst e;simpa using VR.iB (h'==m) _ _ (m-h') (fun e=>by have:=beq_iff_eq.1 e;omega)
  ·rw[if_neg (by omega)];simp only[aS,add_plain];exact aaD yF AJ (by omega) (by omega) q2 ft hc h
 case own bj l0 m0 o n h =>
  obtain⟨rfl,hK⟩:=hK;obtain⟨q1,q2,A,cap,rfl,q3⟩:=h;split at hK
  ·rename_i T bg xs hxs;obtain⟨rfl,rfl,rK,hK⟩:=hK;obtain⟨o1,o2,o3⟩:=hR.ok l0 _ hxs;obtain⟨q4,q5,q6⟩:=q3 o1.symm
   have hcap:xs.length<=g.cap l0:=by
    rcases o3 with⟨rfl,_,_⟩|⟨b,vs,b1,b2,b3,b4,b5⟩
    ·exact bR _
    ·exact b4
   obtain⟨l,h',m,p1,p2,p3,p4,p5⟩:=qA (P:=P) (len:=n) (cap:=cap) hl hh hm (by omega) hK;split at p5
   ·rename_i e;subst e;have:h'=m:=by omega
    subst this;refine bx.pure hR (run _ _ _ _ _ _ p4) ?_ p5;simpa using VR.iB (g:=g) (w:=w) true bg A 0 (by simp)
   ·rename_i e;obtain⟨rfl,p5⟩:=p5;rcases o3 with⟨rfl,_,_⟩|⟨b,vs,b1,b2,b3,b4,b5,_⟩
    ·simp at q4;omega
    have q7:=q6 (by omega);rw[b1]at q7;simp only[aS]at q7;subst q7;obtain⟨r1,r2⟩:=hR.freeze hxs rfl b1;refine⟨_,w,g.hY b,_,_,run _ _ _ _ _ _ p4,r1,r2,?_,p5⟩;rw[if_neg (by omega)];simp only[aS,add_plain]
    have hlt:∀ i c,i<xs.length->c<bg.sz->g.off l0+(i*bg.sz+c)<vs.size:=fun i c hi hc=>by
     rw[b3];have:i*bg.sz+bg.sz<=g.cap l0*bg.sz:=by rw[<-cL];exact aX _ (by omega)
     omega
    have hcell:∀ i c,i<xs.length->c<bg.sz->w.cell? ⟨b,g.off l0+(i*bg.sz+c),none⟩=some (vs.getD (g.off l0+i*bg.sz+c) Go.undef):=fun i c hi hc=>by
     rw[b2.cell (hlt i c hi hc),Nat.add_assoc]
    have:=aaD (g:=g.hY b) (w:=w) (xs:=xs) (b:=b) (off:=g.off l0) (cap:=xs.length) (l:=o+l) (h:=o+h') (m:=o+h') (.inr rfl) (Nat.le_refl _) (by omega) (by omega) (Nat.le_refl _) o2
     (fun i c hi hc=>by rw[hcell i c hi hc];rfl)
     (fun i c hi hc => by
       have e1:dw w ⟨b,g.off l0+(i*bg.sz+c),none⟩=vs.getD (g.off l0+i*bg.sz+c) Go.undef:=by unfold dw;rw[hcell i c hi hc];rfl
       rw[e1];exact(b5 i c hi hc).mono r2.mono)
    rw[show (o+h')-(o+l)=h'-l by omega]at this;rw[Nat.add_assoc,<-bz];simpa using this
  ·exact hK.elim
def Rj {t e : TypeId} {el : El} {x hi mx : AV} {a vh vm : Value} {lo : Option AV} {vl : Option Value} (hR : Rel g w σ) (hu : P.underlying t = some (.slice e)) (he : iC P e = some el)
    (hx:VR g w x a) (hl:mD g w lo vl) (hh:VR g w hi vh) (hm:VR g w mx vm) (hK:ua el x lo hi mx fun v=>K v σ):bx P (Instr.sliceAt t a vl (some vh) (some vm)) g w σ K:=by
 unfold ua at hK;split at hK
 ·exact BA hR hu he hx hl hh hm hK
 ·exact BA hR hu he hx hl hh hm hK
 ·rename_i bj l0 m0 o n;obtain⟨rfl,hK⟩:=hK;obtain⟨fi,hi',_,hs,_⟩:=gj he;cases hx with
  | own bj l0 m0 o n v h =>
  obtain⟨q1,q2,A,cap,rfl,q3⟩:=h;obtain⟨l,h,m,p1,p2,p3,p4,p5⟩:=qA (P:=P) (len:=n) (cap:=cap) hl hh hm (bR _) hK;have:h=0/\l=0/\m=0:=by omega
  obtain⟨rfl,rfl,rfl⟩:=this;refine bx.pure hR (v:= .slice A 0 0) ?_ (.iB true _ A 0 (by simp)) p5;simp only[Instr.sliceAt,Sem.run_bind,aQ hu,Result.andThen_ok,Instr.slice,p4,cS hi',hs,Sem.run_pure];simp
 ·exact hK.elim
def Rk{t:TypeId}{name:String}{f:FuncId}{v:Value}(h:LC P t name=some f)(n:Nat): (method (n+1) t v name).run P w = .ok (f,v) w:=by
 unfold LC at h;split at h
 ·rename_i i te hi hu;split at h
  ·rename_i m hm;split at h
   ·rename_i f' hf;split at h
    ·rename_i hp;cases h;have PB:m.path.toList=[]:=by simpa using hp
     simp[method,run_typeInfo hi,hm,PB,hf,follow,receiverAt,aQ hu,Place.get]
    ·cases h
   ·cases h
  ·cases h
 ·cases h
def TA {T xt : TypeId} {d : TypeDesc} {ok : Bool} {zero x : AV} {a : Value} (hR : Rel g w σ) (hu : P.underlying T = some d) (hd : ∀ l, d ≠ .interface l) (hz : iV P T = some zero) (hx : VR g w x a)
    (hK:zn T ok zero x fun v=>K v σ):bx P (Instr.typeAssert a xt T ok) g w σ K:=by
 obtain⟨z,Jq,Jr⟩:=rf hz w;unfold zn at hK;cases hx<;>(try exact False.elim hK)
 case iT =>
  obtain⟨rfl,hK⟩:=hK;refine bx.pure hR (v:= .tuple #[z,.bool false]) ?_ (tF (ok:=true) (Jr g w).1) hK;cases d<;>first|exact absurd rfl (hd _)|simp[Instr.typeAssert,aQ hu,Jq]
 case kg t y v h =>
  simp only at hK;split at hK
  ·rename_i e;subst e;refine bx.pure hR (v:=if ok then .tuple #[v,.bool true]else v) ?_ (tF h) hK;cases d<;>first|exact absurd rfl (hd _)|simp[Instr.typeAssert,aQ hu]
  ·rename_i e;obtain⟨rfl,hK⟩:=hK;refine bx.pure hR (v:= .tuple #[z,.bool false]) ?_ (tF (ok:=true) (Jr g w).1) hK;cases d<;>first|exact absurd rfl (hd _)|simp[Instr.typeAssert,aQ hu,Jq,e]
def Jw{x:AV}(h:x.fits ⟨false,1⟩=true): x.cell 0=x/\x.scalar=true:=by
 cases x<;>first|exact⟨rfl,rfl⟩|(simp[AV.fits]at h;done)
def Wv{xs:List AV}{n:Nat}(hn:xs.length=n)(ft:∀ i,i<xs.length->(xs.getD i .undef).fits ⟨false,1⟩=true): (AV.agg xs).fits ⟨true,n⟩=true:=by
 simp only[AV.fits,aq,beq_iff_eq,aW];refine⟨⟨by trivial,hn⟩,fun x hx=>?_⟩;obtain⟨i,hi,rfl⟩:=List.mem_iff_getElem.1 hx;have:=ft i hi;have h2:(xs.getD i .undef)=xs[i]:=by simp[hi]
 rw[h2]at this;exact(Jw this).2
def TC{t e:TypeId}{n:Nat}{x:AV}{a:Value}(hR:Rel g w σ)(hu:P.underlying t=some (.array n e))(hx:VR g w x a)(hK:zo σ n x K): bx P (Instr.arrayAt t a) g w σ K:=by
 have run:∀ (A:Option Addr) (len cap:Nat),n<=len->(Instr.arrayAt t (.slice A len cap)).run P w = .ok (.pointer A) w:=fun A len cap h=>by
  have h1:¬ (len<n):=by omega
  simp[Instr.arrayAt,aQ hu,h1]
 have dO:∀ {g:aJ} {w:World} {zs:List AV} {b o:Nat},zs.length=n->g.fC b->(∀ i,i<zs.length->(zs.getD i .undef).fits ⟨false,1⟩=true)->(∀ i,i<n->(w.cell? ⟨b,o+i,none⟩).isSome=true)->(∀ i,i<n->VR g w ((zs.getD i .undef).cell 0) (dw w ⟨b,o+i,none⟩)) ->
  VR g w (.dO ⟨true,n⟩ (.agg zs) 0) (.pointer (some ⟨b,o,none⟩)):=fun {g w zs b o} hl hi ft hc h=>by
  have:=VR.dO (g:=g) (w:=w) ⟨true,n⟩ (.agg zs) 0 b o hi (Wv hl ft) hc (fun c wv=>by
   have wv:c<n:=wv;have h1:=h c wv;rw[(Jw (ft c (by omega))).1]at h1;exact h1)
  exact this
 unfold zo at hK;cases hx<;>(try exact False.elim hK)
 case iB f el b cap hf =>
  obtain⟨_,h1,h2,_⟩:=hK;simp at h2;omega
 case aO f el xs b off cap yF hf AJ ft hc h =>
  obtain⟨rfl,h1,h2,hK⟩:=hK;refine bx.pure hR (run _ _ _ h2) (dO (by simp;omega) yF (fun i hi=>?_) (fun i hi=>?_) (fun i hi=>?_)) hK
  ·simp only[List.length_take]at hi;have:=ft i (by omega);simpa[show i<n by omega]using this
  ·have:=hc i 0 (by omega) (by simp);simpa using this
  ·have:=h i 0 (by omega) (by simp);simpa[hi]using this
 case own el l m o k h =>
  obtain⟨rfl,hK⟩:=hK;obtain⟨q1,q2,A,cap,rfl,q3⟩:=h;split at hK
  ·rename_i T bg xs hxs;obtain⟨rfl,rfl,h1,h2,h3,hK⟩:=hK;obtain⟨o1,o2,o3⟩:=hR.ok l _ hxs;obtain⟨q4,q5,q6⟩:=q3 o1.symm;rcases o3 with⟨rfl,_,_⟩|⟨b,vs,b1,b2,b3,b4,b5,_⟩
   ·simp at h1;omega
   have q7:=q6 (by omega);rw[b1]at q7;simp only[aS,Nat.mul_one]at q7;subst q7;obtain⟨r1,r2⟩:=hR.freeze hxs rfl b1;have hlt:∀ i,i<xs.length->g.off l+i<vs.size:=fun i hi=>by simp only[Nat.mul_one]at b3;omega
   have hcell:∀ i,i<n->w.cell? ⟨b,g.off l+o+i,none⟩=some (vs.getD (g.off l+(o+i)) Go.undef):=fun i hi=>by
    rw[Nat.add_assoc,b2.cell (hlt (o+i) (by omega))]
   refine⟨_,w,g.hY b,_,_,run _ _ _ h3,r1,r2,dO (by simp;omega) (.inr rfl) (fun i hi=>?_) (fun i hi=>?_) (fun i hi=>?_),hK⟩
   ·simp only[List.length_take,List.length_drop]at hi;have:=o2 (o+i) (by omega);simpa[show i<n by omega]using this
   ·rw[hcell i hi];rfl
   ·have:=(b5 (o+i) 0 (by omega) (by simp)).mono r2.mono;have e1:dw w ⟨b,g.off l+o+i,none⟩=vs.getD (g.off l+(o+i)) Go.undef:=by unfold dw;rw[hcell i hi];rfl
    rw[e1];simpa[hi]using this
  ·exact hK.elim
def TD {ats : Array TypeId} {r t e : TypeId} {el : El} {z x : AV} {a : Value} (hR : Rel g w σ) (h0 : ats[0]? = some t) (hu : P.underlying t = some (.slice e)) (he : iC P e = some el) (hz : iV P e = some z)
    (hx:VR g w x a) (hK:zp σ el z x fun σ'=>K (.bO []) σ'):bx P (Builtin.clear_ ats r #[a]) g w σ K:=by
 obtain⟨v,z1,z2,z3⟩:=ug he hz;have unit:∀ (g:aJ) (w:World),VR g w (.bO []) (.tuple #[]):=fun g w=> .bO [] #[] rfl (fun i hi=>absurd hi (cE _))
 have empty:∀ (A:Option Addr) (cap:Nat),K (.bO []) σ->bx P (Builtin.clear_ ats r #[.slice A 0 cap]) g w σ K:=fun A cap hK=>by
  refine bx.pure hR (v:= .tuple #[]) ?_ (unit _ _) hK;cases A<;>simp[Builtin.clear_,h0,aQ hu]
 unfold zp at hK;cases hx<;>(try exact False.elim hK)
 case au=>exact empty none 0 hK
 case iB f bj b cap hf=>exact empty b cap hK
 case aO f bj xs b off cap yF hf AJ ft hc h =>
  cases xs with
  | nil=>exact empty _ cap hK
  | cons y ys=>exact hK.elim
 case own bj l m o n h =>
  obtain⟨rfl,hfz,hK⟩:=hK;obtain⟨q1,q2,A,cap,rfl,q3⟩:=h;split at hK
  ·rename_i T bg xs hxs;obtain⟨rfl,rfl,k6,hK⟩:=hK;rcases Nat.eq_zero_or_pos n with hn|hn
   ·subst hn;simp only[List.replicate_zero,ew,Ew hxs]at hK;exact empty A cap hK
   ·obtain⟨o1,o2,o3⟩:=hR.ok l _ hxs;obtain⟨q4,q5,q6⟩:=q3 o1.symm;rcases o3 with⟨rfl,_,_⟩|⟨b',vs,b1,b2,b3,b4,b5,b6⟩
    ·simp at q4;omega
    ·have q7:=q6 (by omega);rw[b1]at q7;simp only[aS]at q7;subst q7
     have hrow:g.off l+(o+n)*bg.sz<=vs.size:=by
      have:(o+n)*bg.sz<=g.cap l*bg.sz:=aX _ (by omega);omega
     obtain⟨us,yG⟩:∃ us:Array Value,us=(Array.range (n*bg.sz)).map (v.cells[· % v.cells.size]!):=⟨_,rfl⟩;have k4:us.size=n*bg.sz:=by rw[yG];simp
     have k5:gM g w bg (List.replicate n z) us:=by rw[yG];exact vJ n (z2 g w) hfz z3
     have ht:∀ i,i<(List.replicate n z).length->((List.replicate n z).getD i .undef).fits bg=true:=fun i hi=>by
      simp only[dK]at hi;simpa[hi]using hfz
     have hlen:(List.replicate n z).length=n:=dK;have hzc:Builtin.zeroCells v.cells n=us:=by rw[yG];simp[Builtin.zeroCells,z3]
     have hroom:g.off l+o*bg.sz+us.size<=vs.size:=by rw[bz]at hrow;omega
     have hrun:=nE (P:=P) (b:=b') (o:=g.off l+o*bg.sz) us.toList w vs 0 b2 (by simpa using hroom) (oh k5 (by rw[k4,hlen]) ht);obtain⟨f1,f2,f3,f4,f5⟩:=nA w b' (g.off l+o*bg.sz+0) us.toList
     obtain⟨r1,r2⟩:=hR.update (o':= .cy T bg (ew xs o (List.replicate n z))) hxs rfl b1 f1 f2 f3 f4 f5
      (fun hm => ⟨by rw [fh]; exact o1, fun i hi => by
        rw[fh]at hi;rw[lX _ _ _ (by omega)];split
        ·rename_i hh;exact ht _ (by omega)
        ·exact o2 i hi,
        .inr ⟨b',_,b1,b2.setRow _ _,by rw[size_putRow];exact b3,by rw[fh];exact b4,fun i c hi hc=>by
         rw[fh]at hi;rw[lX _ _ _ (by omega),lM _ _ _ (by simpa using hroom)];simp only[ez,di,hlen,k4];by_cases h1:o<=i/\i<o+n
         ·obtain⟨j,rfl⟩:∃ j,i=o+j:=⟨i-o,by omega⟩;have hj:j<n:=by omega
          have h2:=mE hj hc;rw[if_pos h1,if_pos (by rw[bz];omega),show g.off l+(o+j)*bg.sz+c-(g.off l+o*bg.sz)=j*bg.sz+c by rw[bz];omega,show o+j-o=j by omega];have:=(k5 j c (by omega) hc).mono hm;simpa using this
         ·have hne : ¬ (g.off l + o * bg.sz <= g.off l + i * bg.sz + c /\ g.off l + i * bg.sz + c < g.off l + o * bg.sz + n * bg.sz) := by
           rintro⟨z1,z2⟩;rcases Nat.lt_or_ge i o with h2|h2
           ·have:(i+1)*bg.sz<=o*bg.sz:=aX _ h2;rw[cL]at this;omega
           ·have:(o+n)*bg.sz<=i*bg.sz:=aX _ (by omega);rw[bz]at this;omega
          rw[if_neg h1,if_neg hne];exact(b5 i c hi hc).mono hm,by
         cases T with
         | none=>trivial
         | some T=>rw[size_putRow];exact⟨(oV _ _ _ _ _).trans b6.1,b6.2⟩⟩⟩)
     refine⟨.tuple #[],_,g,.bO [],_,?_,r1,r2,unit _ _,hK⟩;have Jv:n≠0:=by omega
     cases n with
     | zero=>exact absurd rfl Jv
     | succ n=>simp[Builtin.clear_,h0,aQ hu,z1,hzc,hrun]
  ·exact hK.elim
end
