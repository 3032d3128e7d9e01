/- Part. -/
import Derived.Test.YtoldfccfpameeaaGreatDoorX02
import Derived.MapKept
set_option linter.all false
set_option maxHeartbeats 1000000
namespace Go.AM
open Go.MapKept
def Rel.afi {g : aN} {w w' : World} {σ : ai} {l b : Nat} {o : aY} (h : Rel g w σ) (hl : σ[l]? = some o) (ho : o.live = true) (hb : g.base l = some b) (v c fo : Nat) (o' : aY)
    (hsz:w'.heap.size=w.heap.size) (hos:w'.os=w.os) (yg:w'.tape=w.tape) (hout:w'.output=w.output)
    (hheap:∀ c,c≠b->w'.heap[c]? = w.heap[c]?) (hok:kH g w (g.push v (some b) c fo) w'->o'.Ok (g.push v (some b) c fo) w' g.n) :
    Rel (g.push v (some b) c fo) w' (σ.set l .dead++[o'])/\gE σ g w (σ.set l .dead++[o']) (g.push v (some b) c fo) w':=by
 have iW:Live σ l:=⟨o,hl,ho⟩;have HB:¬ g.fN b:=h.qc l b iW hb
 have hm:kH g w (g.push v (some b) c fo) w':=⟨fun d hd=>⟨hd,hheap d (fun e=>HB (e ▸ hd))⟩,Nat.le_succ _,fun k hk=>by
  have:k≠g.n:=gi hk;simp[aN.push,this]⟩
 have hbase:∀ k,k<g.n->(g.push v (some b) c fo).base k=g.base k:=fun k hk=>by simp[aN.push,gi hk]
 have hnew:(g.push v (some b) c fo).base g.n=some b:=by simp[aN.push]
 have hold:∀ k,Live (σ.set l .dead++[o']) k->(k<g.n/\k≠l/\Live σ k)\/k=g.n:=fun k hk=>by
  rcases oH hk with hk|rfl
  ·rcases lK hk with⟨_,_,e⟩|⟨e,hk⟩
   ·simp[aY.live]at e
   exact .inl ⟨by rw[<-h.len];exact hk.lt,e,hk⟩
  exact .inr (by simp[h.len])
 refine⟨⟨by simp[aN.push,h.len],fun d hd=>by rw[hsz];exact h.lt d hd,fun k ok hk=>?_,fun k k' d hk hk' hd hd'=>?_,fun k d hk hd hi=>?_,h.glob.mono hm.fN⟩,
  ⟨hm,Nat.le_of_eq hsz.symm,hos,yg,hout,fun d hd ht=>hheap d (fun e=>ht ⟨l,iW,e ▸ hb⟩),fun d _ hi=> .inl hi,fun d hd ht=>?_⟩⟩
 ·by_cases hlt:k<(σ.set l .dead).length
  ·rw[aI hlt]at hk;simp only[dN]at hlt;have hkn:k<g.n:=by rw[<-h.len];exact hlt
   by_cases e:k=l
   ·subst e;simp[hlt]at hk;subst hk;trivial
   rw[aF (Ne.symm e)]at hk;by_cases hv:ok.live=true
   ·exact(h.ok k ok hk).step hm hkn (by simp[aN.push,gi hkn]) (fun d hd=>hheap d (fun e'=>e (h.inj k l d ⟨ok,hk,hv⟩ iW hd (e' ▸ hb))))
   ·cases ok<;>simp[aY.live]at hv;trivial
  have h1:=(aE.1 hk).1;simp at h1 hlt;have h2:k = σ.length:=ae;subst h2;simp at hk;subst hk;rw[h.len];exact hok hm
 ·rcases hold k hk with⟨k1,k2,k3⟩|rfl<;>rcases hold k' hk' with⟨k4,k5,k6⟩|rfl
  ·rw[hbase k k1]at hd;rw[hbase k' k4]at hd';exact h.inj k k' d k3 k6 hd hd'
  ·rw[hbase k k1]at hd;rw[hnew]at hd';cases hd';exact absurd (h.inj k l b k3 iW hd hb) k2
  ·rw[hbase k' k4]at hd';rw[hnew]at hd;cases hd;exact absurd (h.inj k' l b k6 iW hd' hb) k5
  rfl
 ·rcases hold k hk with⟨k1,k2,k3⟩|rfl
  ·rw[hbase k k1]at hd;exact h.qc k d k3 hd hi
  rw[hnew]at hd;cases hd;exact HB hi
 obtain⟨k,hk,hd'⟩:=ht;rcases hold k hk with⟨k1,k2,k3⟩|rfl
 ·exact⟨k,k3,by rw[hbase k k1]at hd';exact hd'⟩
 rw[hnew]at hd';cases hd';exact⟨l,iW,hb⟩
def Rel.kill {g : aN} {w : World} {σ : ai} {l : Nat} {o : aY} (h : Rel g w σ) (hl : σ[l]? = some o) (ho : o.live = true) :
    Rel g w (σ.set l .dead)/\gE σ g w (σ.set l .dead) g w:=by
 have:=h.change (w':=w) (o':= .dead) hl ho (g.ver l) (g.base l) (g.cap l) (g.off l) (bg _) (fun _=>⟨rfl,rfl,rfl⟩) (bg _) rfl rfl rfl (fun _ _ _=>rfl) (fun b hb=> .inl hb) (fun _=>trivial);rwa[aN.KW]at this
def Ju(g:aN)(v:Nat)(b:Option Nat)(c o:Nat): (g.push v b c o).off g.n=o:=by simp[aN.push]
section
variable {P:Program} {g:aN} {w:World} {σ : ai} {K:AV->ai->Prop}
def pK{σ : ai}{l:Nat}{o:aY}(h : σ[l]? = some o): σ.set l o = σ:=by
 apply jy;intro k;by_cases e:k=l
 ·subst e;rw[bw (aE.1 h).1];exact h.symm
 rw[aF (Ne.symm e)]
def xK: Option IntKind->TypeDesc->Bool
 | none,.string=>true
 | some k,.int k'=>k==k'
 | _,_=>false
def Jv{kd:Option IntKind}{d:TypeDesc}{k:AV}{v:Value}(hd:xK kd d=true)(hk:k.pI kd=true)(hv:VR g w k v): IsKey d v:=by
 cases kd with
 | none =>
   cases d<;>simp[xK]at hd;cases k<;>simp[AV.pI]at hk;cases hv;trivial
 | some q =>
   cases d<;>simp[xK]at hd;subst hd;cases k<;>simp[AV.pI]at hk;cases hv;exact hk.symm
def V8{kd:Option IntKind}{d:TypeDesc}{k q:AV}{v u:Value}{b:Bool}(hd:xK kd d=true)(hk:k.pI kd=true)(hv:VR g w k v)(hu:VR g w q u)(h:Rc k q=some b): Instr.sameNow d v u=some b:=by
 cases kd with
 | none =>
   cases d<;>simp[xK]at hd;cases k<;>simp[AV.pI]at hk;cases q<;>simp[Rc]at h;cases hv;cases hu;subst h;rename_i s s';simp only[Instr.sameNow,Option.some.injEq];have e:=bytes_beq ⟨s.toArray⟩ ⟨s'.toArray⟩;by_cases hs:s=s'
   ·subst hs;rw[e.2 rfl];simp
   have h1:¬ ((⟨s.toArray⟩:ByteArray)==⟨s'.toArray⟩)=true:=fun h=>hs (by have:=e.1 h;injection this with this;simpa using this);simp only[kF]at h1;rw[h1];simp[hs]
 | some k0 =>
   cases d<;>simp[xK]at hd;subst hd;cases k<;>simp[AV.pI]at hk;cases q<;>simp[Rc]at h;cases hv;cases hu;obtain⟨h1,h2⟩:=h;subst h1;simp[Instr.sameNow,h2]
def Df {kd : Option IntKind} {d : TypeDesc} {k : AV} {v : Value} (hd : xK kd d = true) (hk : k.pI kd = true) (hv : VR g w k v) : ∀ (es : List (AV × AV)) (ms : List MapEntry) (i : Nat) (r : Option (Nat × AV)), ms.length = es.length ->
    (∀ j,j<es.length->VR g w (es.getD j default).1 (ms.getD j default).key/\VR g w (es.getD j default).2 (ms.getD j default).val)->lM k es i=some r ->
    (r=none/\Instr.findNow d v ms i=some none)\/ ∃ j x u,r=some (i+j,x)/\Instr.findNow d v ms i=some (some (i+j,u))/\VR g w x u/\j<es.length/\Instr.sameNow d v (ms.getD j default).key=some true
 | [], ms, i, r, hl, h, hf => by
   simp[lM]at hf;have:ms=[]:=dA.1 hl;subst this;subst hf;exact .inl ⟨rfl,rfl⟩
 | (q, x) :: es, ms, i, r, hl, h, hf => by
   cases ms with
   | nil=>simp at hl
   | cons e ms =>
     have h0:=h 0 aQ;simp only[cH]at h0;simp only[lM]at hf;split at hf
     ·rename_i he;cases hf;have hs:=V8 hd hk hv h0.1 he;exact .inr ⟨0,x,e.val,rfl,by simp[Instr.findNow,hs],h0.2,aQ,by simpa using hs⟩
     ·rename_i he;have hs:=V8 hd hk hv h0.1 he;rcases Df hd hk hv es ms (i+1) r (by simpa using hl) (fun j hj=>by simpa using h (j+1) (by simpa using hj)) hf with⟨h1,h2⟩|⟨j,y,u,h1,h2,h3,h4,h5⟩
      ·exact .inl ⟨h1,by simp[Instr.findNow,hs,h2]⟩
      exact .inr ⟨j+1,y,u,by rw[h1];congr 2;omega,by simp[Instr.findNow,hs,h2];omega,h3,by simpa using h4,by simpa using h5⟩
     ·cases hf
def aah {ms : Array MapEntry} {es : List (AV × AV)} {clock : Nat} (h : ms.size = es.length) (h1 : clock = es.length) (h2 : ∀ i, i < es.length -> (ms.getD i default).born = i) (k u : Value) (p : AV × AV) :
    clock+1=(es++[p]).length/\ ∀ i,i<(es++[p]).length->((ms.push { key:=k,val:=u,born:=clock }).getD i default).born=i:=by
 refine⟨by simp[h1],fun i hi=>?_⟩;simp only[aC,aO,bt]at hi;by_cases e:i<es.length
 ·have h':i<ms.size:=ae;have:=h2 i e;simpa[Array.getElem?_push,gi h',h']using this
 have:i=ms.size:=ae;subst this;have e2:(ms.push { key:=k,val:=u,born:=clock }).getD ms.size default = { key:=k,val:=u,born:=clock }:=aQ;rw[e2];show clock=_;omega
def UE {ms : Array MapEntry} {es : List (AV × AV)} {clock : Nat} (h : ms.size = es.length) (h1 : clock = es.length) (h2 : ∀ i, i < es.length -> (ms.getD i default).born = i) (j : Nat) (f : MapEntry -> MapEntry) (hf : ∀ e, (f e).born = e.born) (p : AV × AV) :
    clock=(es.set j p).length/\ ∀ i,i<(es.set j p).length->((ms.modify j f).getD i default).born=i:=by
 refine⟨by simp[h1],fun i hi=>?_⟩;simp only[dN]at hi;have h':i<ms.size:=ae;have:=h2 i hi;by_cases e:j=i
 ·subst e;simp only[e8,h',Array.getElem?_eq_getElem,bT]at this;simp[h',Array.getElem_modify,hf,this]
 simpa[h',Array.getElem_modify,e]using this
def UG{t:TypeId}(hR:Rel g w σ)(hK:K (.mp σ.length) (σ++[.map []])): bX P (Instr.makeMap t none) g w σ K:=by
 obtain⟨r1,r2⟩:=hR.tT (.map #[] 0) (.map []) 0 0 ⟨by simp[aN.push],w.heap.size,#[],0,by simp[aN.push],heap_alloc_new w _,rfl,⟨rfl,fun i hi=>absurd hi (dm _)⟩,fun i hi=>absurd hi (dm _)⟩;refine⟨.map (some w.heap.size),_,_,_,_,?_,r1,r2,.mp _ _ ⟨by simp[aN.push,hR.len],_,rfl,fun _=>by simp[aN.push,hR.len]⟩,hK⟩;simp[Instr.makeMap]
def vO{ok:Bool}{v:AV}{u:Value}{b:Bool}(hv:VR g w v u): VR g w (if ok then .bU [v,.bool b]else v) (if ok then .tuple #[u,.bool b]else u):=by
 cases ok with
 | false=>simpa using hv
 | true =>
   refine .bU _ _ rfl (fun i hi=>?_)
   match i,hi with
   | 0,_=>exact hv
   | 1,_=>exact .bool b
def XT {t key elem : TypeId} {d : TypeDesc} {kd : Option IntKind} {ok : Bool} {zero x k : AV} {a v : Value} (hR : Rel g w σ) (ht : P.underlying t = some (.map key elem)) (hkey : P.underlying key = some d) (hd : xK kd d = true)
    (hz:mq P elem=some zero) (hx:VR g w x a) (hv:VR g w k v)
    (hK : match (generalizing := false) x with
      | .iS=>k.pI kd=true/\K (if ok then .bU [zero,.bool false]else zero) σ
      | .mp l => k.pI kd = true /\ match σ[l]? with
        | some (.map es) => match lM k es 0 with
          | some (some (_,v))=>K (if ok then .bU [v,.bool true]else v) σ
          | some none=>K (if ok then .bU [zero,.bool false]else zero) σ
          | none=>False
        | _=>False
      | _=>False):bX P (Instr.lookup t a v ok) g w σ K:=by
 obtain⟨z,hz1,hz2⟩:=y7 hz w;cases hx<;>simp only at hK
 case iS =>
  obtain⟨hk,hK⟩:=hK;have hi:=Jv hd hk hv;refine bX.pure hR (v:=if ok then .tuple #[z,.bool false]else z) ?_ (vO (hz2 g w).1) hK;have hf:(Instr.findKey key v []).run P w = .ok none w:=run_findKey hkey rfl;have hc:(Instr.checkKey true 10000 key v).run P w = .ok () w:=run_checkKey hkey hi true 9999;simp[Instr.lookup,bn ht,hf,hc,hz1]
 case mp l h =>
  obtain⟨hk,hK⟩:=hK;have hi:=Jv hd hk hv;obtain⟨h1,b,rfl,h2⟩:=h;split at hK
  ·rename_i es V9;obtain⟨o1,b',ms,clock,o2,o3,o4,⟨ob1,ob2⟩,o5⟩:=hR.ok l _ V9;have Iu:=h2 o1;rw[Iu]at o2;cases o2;have hc:(Instr.checkKey ms.isEmpty 10000 key v).run P w = .ok () w:=run_checkKey hkey hi _ 9999;have hg:=Go.MapKept.run_getObj_map (P:=P) o3;have o5':∀ j,j<es.length->VR g w (es.getD j default).1 (ms.toList.getD j default).key/\VR g w (es.getD j default).2 (ms.toList.getD j default).val:=fun j hj=>by simpa using o5 j hj
   generalize hfd:lM k es 0=fd at hK;cases fd with
   | none=>exact hK.elim
   | some r =>
     rcases Df hd hk hv es ms.toList 0 r (by simpa using o4) o5' hfd with⟨rfl,hf⟩|⟨j,x,u,rfl,hf,hxu,_⟩
     ·refine bX.pure hR (v:=if ok then .tuple #[z,.bool false]else z) ?_ (vO (hz2 g w).1) hK;have Fy:(Instr.findKey key v ms.toList).run P w = .ok none w:=run_findKey hkey hf;simp[Instr.lookup,bn ht,hg,Fy,hc,hz1]
     refine bX.pure hR (v:=if ok then .tuple #[u,.bool true]else u) ?_ (vO hxu) hK;have Fy:(Instr.findKey key v ms.toList).run P w = .ok (some (0+j,u)) w:=run_findKey hkey hf;simp[Instr.lookup,bn ht,hg,Fy,hc]
  exact hK.elim
def RN {t key elem : TypeId} {d : TypeDesc} {kd : Option IntKind} {l : Nat} {k x : AV} {a v u : Value} {es es' : List (AV × AV)} (hR : Rel g w σ) (ht : P.underlying t = some (.map key elem)) (hkey : P.underlying key = some d) (hd : xK kd d = true)
    (hx:VR g w (.mp l) a) (hv:VR g w k v) (hu:VR g w x u) (hk:k.pI kd=true) (V9 : σ[l]? = some (.map es)) (hs:wS k x es=some es') :
    ∃ w',(Instr.mapUpdate t a v u).run P w = .ok () w'/\Rel g w' (σ.set l (.map es'))/\gE σ g w (σ.set l (.map es')) g w':=by
 have hi:=Jv hd hk hv;cases hx;rename_i h;obtain⟨h1,b,rfl,h2⟩:=h;obtain⟨o1,b',ms,clock,o2,o3,o4,⟨ob1,ob2⟩,o5⟩:=hR.ok l _ V9;have Iu:=h2 o1;rw[Iu]at o2;cases o2;have hc:(Instr.checkKey false 10000 key v).run P w = .ok () w:=run_checkKey hkey hi _ 9999;have hg:=Go.MapKept.run_getObj_map (P:=P) o3;have o5':∀ j,j<es.length->VR g w (es.getD j default).1 (ms.toList.getD j default).key/\VR g w (es.getD j default).2 (ms.toList.getD j default).val:=fun j hj=>by simpa using o5 j hj
 have hup:∀ (ms':Array MapEntry) (ck:Nat),ms'.size=es'.length->(ck=es'.length/\ ∀ i,i<es'.length->(ms'.getD i default).born=i)->(∀ j,j<es'.length->VR g w (es'.getD j default).1 (ms'.getD j default).key/\VR g w (es'.getD j default).2 (ms'.getD j default).val) ->
  Rel g { w with heap:=w.heap.setIfInBounds b (.map ms' ck) } (σ.set l (.map es'))/\gE σ g w (σ.set l (.map es')) g { w with heap:=w.heap.setIfInBounds b (.map ms' ck) }:=fun ms' ck hl hbn hh =>
  hR.update (o':= .map es') V9 rfl Iu aQ rfl rfl rfl (fun c hc=>(heap_set o3).2 c hc) (fun hm=>⟨o1,b,ms',ck,Iu,(heap_set o3).1,hl,hbn,fun j hj=>⟨(hh j hj).1.mono hm,(hh j hj).2.mono hm⟩⟩)
 unfold wS at hs;generalize hfd:lM k es 0=fd at hs;cases fd with
 | none=>cases hs
 | some r =>
   rcases Df hd hk hv es ms.toList 0 r (by simpa using o4) o5' hfd with⟨rfl,hf⟩|⟨j,y,q,rfl,hf,hxu,hj,hsame⟩
   ·simp only[Option.some.injEq]at hs;subst hs;have Fy:(Instr.findKey key v ms.toList).run P w = .ok none w:=run_findKey hkey hf
    obtain⟨r1,r2⟩:=hup (ms.push { key:=v,val:=u,born:=clock }) (clock+1) (by simp[o4]) (aah o4 ob1 ob2 _ _ _) (fun i hi=>by
     simp only[aC,aO,bt]at hi;by_cases h:i<es.length
     ·have:=o5 i h;have h':i<ms.size:=ae;simpa[aI h,Array.getElem?_push,gi h',h']using this
     ·have:i=es.length:=ae;subst this;have e1:(es++[(k,x)]).getD es.length default=(k,x):=aQ;have e2:(ms.push { key:=v,val:=u,born:=clock }).getD ms.size default = { key:=v,val:=u,born:=clock }:=aQ;rw[e1,<-o4,e2];exact⟨hv,hu⟩)
    exact⟨_,by simp[Instr.mapUpdate,bn ht,hg,Fy,hc,Go.MapKept.run_setObj_map (P:=P) (.map (ms.push { key:=v,val:=u,born:=clock }) (clock+1)) o3],r1,r2⟩
   simp only[Option.some.injEq,bL]at hs;subst hs;have Fy:(Instr.findKey key v ms.toList).run P w = .ok (some (0+j,q)) w:=run_findKey hkey hf;have hj':j<ms.size:=ae
   have hkv:(ms.getD j default).key=v:=by
    have h3:Instr.sameNow d v (ms.toList.getD j default).key=some true:=hsame
    have h4:IsKey d (ms.toList.getD j default).key:=by
     cases d<;>cases v<;>simp[IsKey]at hi<;>(generalize (ms.toList.getD j default).key=z at h3;cases z<;>simp[Instr.sameNow]at h3)<;>simp_all[IsKey]
    obtain⟨r',h5,h6⟩:=sameNow_of_keys hi h4;rw[h3]at h5;cases h5;have:=h6.1 rfl;simpa using this.symm
   have ajN:((ms[j]?).map (·.key)).getD v=v:=by
    have:ms[j]? = some (ms.getD j default):=by simp[hj']
    rw[this];exact hkv
   obtain⟨r1,r2⟩:=hup (ms.modify j fun e=> { e with key:=v,val:=u }) clock (by simp[o4]) (UE o4 ob1 ob2 j (fun e=> { e with key:=v,val:=u }) (fun _=>rfl) _) (fun i hi=>by
    simp only[dN]at hi;have hi':i<ms.size:=ae;by_cases h:i=j
    ·subst h;simp[hi',hi,Array.getElem_modify,hv,hu]
    ·have:=o5 i hi;simpa[hi',hi,Array.getElem_modify,Ne.symm h,aF (Ne.symm h)]using this)
   refine⟨_,?_,r1,r2⟩;have hst:=run_keyThatStays (P:=P) (w:=w) hi;simp[Instr.mapUpdate,bn ht,hg,Fy,hc,ajN,hst,Go.MapKept.run_setObj_map (P:=P) (.map (ms.modify j fun e=> { e with key:=v,val:=u }) clock) o3]
def afQ{p:AV}{A:Addr}(d:Nat)(hp:p.ptr=true)(h:VR g w p (.pointer (some A))): VR g w (p.adv d) (.pointer (some (A.add d))):=by
 cases p<;>simp[AV.ptr]at hp<;>simp only[AV.adv]
 case ref l o =>
  cases h;rename_i hO;obtain⟨h1,A',h2,h3⟩:=hO;cases h2;refine .ref _ _ _ ⟨h1,_,rfl,fun e=>?_⟩;obtain⟨h4,h5⟩:=h3 e;rw[h5,add_plain];exact⟨by rw[h5]at h4;exact h4,rfl⟩
 case fh el y o =>
  cases h;rename_i hc h;rw[add_plain,dG];refine VR.fh el y _ _ _ ?_ ?_ ?_ ?_<;>assumption
 case fG el l m i o =>
  cases h;rename_i hO;obtain⟨h1,hm,A',h2,h3⟩:=hO;cases h2;refine .fG _ _ _ _ _ _ ⟨h1,hm,_,rfl,fun e=>?_⟩;obtain⟨h4,h5⟩:=h3 e;rw[h5,add_plain,dG];exact⟨by rw[h5]at h4;exact h4,rfl⟩
def UH{p:AV}{v:Value}(hp:p.ptr=true)(h:VR g w p v): ∃ A,v = .pointer (some A):=by
 cases p<;>simp[AV.ptr]at hp<;>cases h
 case ref hO=>obtain⟨_,A,h2,_⟩:=hO;exact⟨A,h2⟩
 case fh=>exact⟨_,rfl⟩
 case fG hO=>obtain⟨_,_,A,h2,_⟩:=hO;exact⟨A,h2⟩
def UI {lo hi : Option AV} {vl vh : Option Value} {n : Nat} {K : Nat -> Nat -> Prop} (hl : om g w lo vl) (hh : om g w hi vh)
    (hK:bound hi n n fun h=>bound lo 0 h fun l=>K l h) :
    ∃ l h:Nat,l<=h/\h<=n/\(Instr.sliceBounds false n n vl vh none).run P w = .ok (l,h,n) w/\K l h:=by
 obtain⟨h,hb,kb1,wV⟩:∃ h:Nat,h<=n/\(match vh with|some v=>Instr.sliceBound v n .sliceAlen|none=>Pure.pure n:Sem Nat).run P w = .ok h w/\bound lo 0 h fun l=>K l h:=by
  cases hi with
  | none => cases vh with
    | none=>exact⟨n,bg _,rfl,hK⟩
    | some v=>exact hh.elim
  | some u => cases vh with
    | none=>exact hh.elim
    | some v =>
      have La:VR g w u v:=hh;cases La<;>simp only[bound]at hK
      case int k i=>exact⟨i.toNat,ae,oh hK.1 ae,hK.2.2⟩
 obtain⟨l,lb,r1,r2⟩:∃ l:Nat,l<=h/\(match vl with|some v=>Instr.sliceBound v h .sliceB|none=>Pure.pure 0:Sem Nat).run P w = .ok l w/\K l h:=by
  cases lo with
  | none => cases vl with
    | none=>exact⟨0,ew _,rfl,wV⟩
    | some v=>exact hl.elim
  | some u => cases vl with
    | none=>exact hl.elim
    | some v =>
      have hl':VR g w u v:=hl;cases hl'<;>simp only[bound]at wV
      case int k i=>exact⟨i.toNat,ae,oh wV.1 wV.2.1,wV.2.2⟩
 refine⟨l,h,lb,hb,?_,r2⟩;cases vh<;>cases vl<;>simp_all[Instr.sliceBounds]
def aai {t e : TypeId} {el : El} {n : Nat} {p : AV} {a : Value} {lo hi : Option AV} {vl vh : Option Value} (hR : Rel g w σ) (hu : P.underlying t = some (.array n e)) (he : kr P e = some el)
    (hx:VR g w p a) (hl:om g w lo vl) (hh:om g w hi vh) (hK:C6 el n p lo hi fun v=>K v σ):bX P (Instr.sliceAt t a vl vh none) g w σ K:=by
 obtain⟨fi,hi',_,hs,_⟩:=jb he;obtain⟨hp,hK⟩:=hK;obtain⟨A,rfl⟩:=UH hp hx;obtain⟨l,h,q1,q2,q3,q4⟩:=UI (P:=P) hl hh hK;refine bX.pure hR (v:= .slice (some (if n=l then A else A.add (l*el.sz))) (h-l) (n-l)) ?_ ?_ q4
 ·simp[Instr.sliceAt,bn hu,Instr.sureAddr,q3,ep hi',hs]
 by_cases e:h=l
 ·subst e;rw[au rfl];simpa using VR.iT (g:=g) (w:=w) false el (some (if n=h then A else A.add (h*el.sz))) (n-h) aQ
 rw[aj e,aj ae];exact .mg el _ _ _ _ ae ae (afQ _ hp hx)
def Dg {ats : Array TypeId} {r sT e : TypeId} {fi : TypeInfo} {w' : World} {base : Option Addr} {dl dc N : Nat} {b : Value} {us : Array Value}
    (h0:ats[0]? = some sT) (hu:P.underlying sT=some (.slice e)) (hi:P.info? e=some fi) (hl:(Builtin.lenOf b).run P w = .ok N w)
    (hf:(Builtin.firstCells fi.size (min N dl) b).run P w = .ok us w) (hst:∀ A,base=some A->(storeCells A us.toList).run P w = .ok () w') (hn:base=none->w'=w) :
    (Builtin.copy_ ats r #[.slice base dl dc,b]).run P w = .ok (.int .i64 (min N dl:Nat)) w':=by
 have Fy:(Builtin.firstCells fi.size (N.min dl) b).run P w = .ok us w:=hf;unfold Builtin.copy_;simp only[gw,bO,bH,h0,Sem.run_bind,bn hu,Result.andThen_ok,hl,ep hi,Fy];cases base with
 | none=>rw[hn rfl];rfl
 | some A=>simp[hst A rfl,goInt]
def OR{el:El}{ys:List AV}(h:ys.all (fun a=>a.fits el)=true)(m:Nat): ∀ i,i<(ys.take m).length->((ys.take m).getD i .undef).fits el=true:=fun i hi=>by
 simp only[dW]at hi;have h1:i<ys.length:=ae;have h2:i<m:=ae;have:=bf.1 h (ys[i]) (dI _);simpa[h1,h2]using this
def XU {ats : Array TypeId} {r sT e : TypeId} {el : El} {x y : AV} {a b : Value} (hR : Rel g w σ)
    (h0:ats[0]? = some sT) (hu:P.underlying sT=some (.slice e)) (he:kr P e=some el)
    (hx:VR g w x a) (hy:VR g w y b) (sQ:C4 σ el x y K):bX P (Builtin.copy_ ats r #[a,b]) g w σ K:=by
 obtain⟨fi,hi',_,hs,_⟩:=jb he
 have XV:∀ {base:Option Addr} {dc:Nat},a = .slice base 0 dc->(∀ ys:List AV,BU σ el x ys K->K (.int .i64 0) σ)->bX P (Builtin.copy_ ats r #[a,b]) g w σ K:=fun {base dc} ha hk=>by
  obtain⟨ys,us,k1,k2,k3,k4,k5⟩:=uH (P:=P) 0 hR hy sQ;have Fw:us = #[]:=fg (by simpa using k4);subst ha;refine bX.pure hR (v:= .int .i64 (min ys.length 0:Nat)) (Dg (us:=us) h0 hu hi' k2 (by rw[hs];exact k3) (fun A _=>by rw[Fw];simp[storeCells]) (fun _=>rfl)) (by simpa using VR.int _ _) (hk ys k1.2)
 cases hx<;>(try exact(let ⟨_,_,h,_⟩:=uH (P:=P) 0 hR hy sQ;h.2.elim))
 case aV=>exact XV rfl fun ys h=>h
 case iT f bD base cap hf=>exact XV rfl fun ys h=>h.2
 case aR f bD xs b' off cap hi hf hx ft hc h =>
  cases xs with
  | nil=>exact XV rfl fun ys h=>h.2
  | cons z zs=>exact(let ⟨_,_,h,_⟩:=uH (P:=P) 0 hR hy sQ;h.2.elim)
 case mg bD p n A cap hn hc h =>
  obtain⟨ys,us,⟨hfit,hK⟩,k2,k3,k4,k5⟩:=uH (P:=P) n hR hy sQ;obtain⟨rfl,rfl,hK⟩:=hK;have ht:=OR hfit n;have hlen:(ys.take n).length=min n ys.length:=aQ
  obtain⟨A',w',g',σ',e1,r1,r2,r3,r4⟩:=Io (P:=P) (x:= .agg (ys.take n)) (us:=us.toList) hR h (by simp only[AV.cells,ff,k4,hlen];omega) (fun i hi=>by
   simp only[AV.cells]at hi |-;have h1:=k5 i 0 hi aQ;have h2:=ht i hi
   have hc0:((ys.take n).getD i .undef).cell 0=(ys.take n).getD i .undef:=by
    generalize (ys.take n).getD i .undef=z at h2;cases z<;>first|rfl|(simp[AV.fits]at h2;done)
   rw[hc0]at h1;simpa using h1) (tI k5 (by rw[k4,hlen];congr 1;omega) ht) hK
  cases e1;exact⟨_,_,g',_,_,Dg (us:=us) h0 hu hi' k2 (by rw[hs];exact k3) (fun A e=>by cases e;exact r1) (fun e=>by cases e),r2,r3,.int _ _,r4⟩
 case own bD l m o n h =>
  have Bd:VR g w (.own bD l m o n) a:= .own _ _ _ _ _ _ h;obtain⟨ys,us,⟨hfit,hK⟩,k2,k3,k4,k5⟩:=uH (P:=P) n hR hy sQ;obtain⟨rfl,hK⟩:=hK;obtain⟨q1,q2,A,cap,rfl,q3⟩:=h;split at hK
  ·rename_i T bN xs hxs;obtain⟨rfl,rfl,k6,hK⟩:=hK;have ht:=OR hfit n;have hlen:(ys.take n).length=min ys.length n:=by simp;omega
   rcases Nat.eq_zero_or_pos (min ys.length n)with hz|hz
   ·have h1:ys.take n=[]:=eP ae;have Fw:us = #[]:=fg (by rw[k4,hz];simp);rw[h1]at hK;simp only[fM,pK hxs]at hK;exact bX.pure hR (Dg (us:=us) h0 hu hi' k2 (by rw[hs];exact k3) (fun A _=>by rw[Fw];simp[storeCells]) (fun _=>rfl)) (.int _ _) hK
   obtain⟨o1,o2,o3⟩:=hR.ok l _ hxs;obtain⟨q4,q5,q6⟩:=q3 o1.symm;rcases o3 with⟨rfl,_,_⟩|⟨b',vs,b1,b2,b3,b4,b5,b6⟩
   ·simp at q4;omega
   have q7:=q6 ae;rw[b1]at q7;simp only[dh]at q7;subst q7
   have hrow:g.off l+(o+n)*bN.sz<=vs.size:=by
    have:(o+n)*bN.sz<=g.cap l*bN.sz:=bR _ ae;omega
   have hle:min ys.length n*bN.sz<=n*bN.sz:=bR _ ae;have hroom:g.off l+o*bN.sz+us.size<=vs.size:=by rw[cu]at hrow;omega
   have hrun:=rX (P:=P) (b:=b') (o:=g.off l+o*bN.sz) us.toList w vs 0 b2 (by simpa using hroom) (tI k5 (by rw[k4,hlen]) ht);obtain⟨f1,f2,f3,f4,f5⟩:=qY w b' (g.off l+o*bN.sz+0) us.toList
   obtain⟨r1,r2⟩:=hR.update (o':= .dn T bN (fM xs o (ys.take n))) hxs rfl b1 f1 f2 f3 f4 f5
    (fun hm => ⟨by rw [jL]; exact o1, fun i hi => by
      rw[jL]at hi;rw[q9 _ _ _ ae];split
      ·rename_i hh;exact ht _ ae
      ·exact o2 i hi,
      .inr ⟨b',_,b1,b2.setRow _ _,by rw[size_putRow];exact b3,by rw[jL];exact b4,fun i c hi hc=>by
       rw[jL]at hi;rw[q9 _ _ _ ae,oI _ _ _ (by simpa using hroom)];simp only[ff,eZ,hlen,k4];by_cases h1:o<=i/\i<o+min ys.length n
       ·obtain⟨j,rfl⟩:∃ j,i=o+j:=⟨i-o,ae⟩;have hj:j<min ys.length n:=ae;have h2:=oZ hj hc;rw[au h1,au (by rw[cu];omega),show g.off l+(o+j)*bN.sz+c-(g.off l+o*bN.sz)=j*bN.sz+c by rw[cu];omega,show o+j-o=j by omega];have:=(k5 j c ae hc).mono hm;simpa using this
       ·have hne : ¬ (g.off l + o * bN.sz <= g.off l + i * bN.sz + c /\ g.off l + i * bN.sz + c < g.off l + o * bN.sz + min ys.length n * bN.sz) := by
         rintro⟨z1,z2⟩;rcases Nat.lt_or_ge i o with h2|h2
         ·have:(i+1)*bN.sz<=o*bN.sz:=bR _ h2;rw[eH]at this;omega
         have:(o+min ys.length n)*bN.sz<=i*bN.sz:=bR _ ae;rw[cu]at this;omega
        rw[aj h1,aj hne];exact(b5 i c hi hc).mono hm,by
       cases T with
       | none=>trivial
       | some T=>rw[size_putRow];exact⟨(uC _ _ _ _ _).trans b6.1,b6.2⟩⟩⟩)
   exact⟨_,_,g,_,_,Dg (us:=us) h0 hu hi' k2 (by rw[hs];exact k3) (fun A e=>by cases e;exact hrun) (fun e=>by cases e),r1,r2,.int _ _,hK⟩
  exact hK.elim
def UJ {ats : Array TypeId} {r sT xT e : TypeId} {d : TypeDesc} {el : El} {base : Option Addr} {sLen sCap : Nat} {x : Value} {us : Array Value}
    (h0:ats[0]? = some sT) (h1:ats[1]? = some xT) (hu:P.underlying sT=some (.slice e)) (hx:P.underlying xT=some d) (hd:∀ k,d≠ .int k) (he:kr P e=some el)
    (hl:(Builtin.lenOf x).run P w = .ok 0 w) (hc:sLen<=sCap) (hn:(Builtin.firstCells el.sz 0 x).run P w = .ok us w) (Fw:us = #[]) :
    (Builtin.append_ ats r #[.slice base sLen sCap,x]).run P w = .ok (.slice base sLen sCap) w:=by
 obtain⟨fi,hi,_,hs,_⟩:=jb he;have hfalse:((d matches .int _):Bool)=false:=by cases d<;>first|rfl|exact absurd rfl (hd _)
 rw[Fw]at hn;unfold Builtin.append_;simp only[gw,bO,bH,h0,h1,Sem.run_bind,bn hu,Result.andThen_ok,ep hi,hs,bn hx,Sem.run_pure,hfalse,hl,aP,if_false,eZ,au hc,hn,iK,if_true];cases base<;>simp[storeCells]
def OS {ats : Array TypeId} {r sT xT e : TypeId} {d : TypeDesc} {el : El} {x y : AV} {a b : Value} (hR : Rel g w σ)
    (h0:ats[0]? = some sT) (h1:ats[1]? = some xT) (hu:P.underlying sT=some (.slice e)) (hd':P.underlying xT=some d) (hd:∀ k,d≠ .int k) (he:kr P e=some el)
    (hx:VR g w x a) (hy:VR g w y b) (sQ:C5 σ el x y K):bX P (Builtin.append_ ats r #[a,b]) g w σ K:=by
 unfold C5 at sQ;split at sQ
 ·rename_i bD l m lo n;obtain⟨rfl,sQ⟩:=sQ;have Bd:=hx;cases hx;rename_i h;obtain⟨q1,q2,A,cap,rfl,q3⟩:=h;obtain⟨ys,news,⟨hfit,hK⟩,hl,wW,hsz,hh⟩:=oq (P:=P) hR hy sQ
  have Ag:∀ i,i<ys.length->(ys.getD i .undef).fits bD=true:=fun i hi=>by
   have:=bf.1 hfit (ys[i]) (dI _);simpa[hi]using this
  have h1c:=tI hh hsz Ag;split at hK
  ·rename_i T bN xs hxs;obtain⟨rfl,rfl,k3,hr,hK⟩:=hK;obtain⟨o1,o2,o3⟩:=hR.ok l _ hxs;obtain⟨q4,q5,q6⟩:=q3 o1.symm;rcases o3 with⟨rfl,_,_⟩|⟨b',vs,b1,b2,b3,b4,b5,b6⟩
   ·simp at k3
   have hfo:vs.size=g.off l+(lo+1)*bN.sz+cap*bN.sz:=by
    rw[b3,<-q5,cu cap,Nat.add_comm (cap*_),dG]
   have OU:(xs.drop (lo+1)).length=n:=by simp;omega
   have hzl:(xs.drop (lo+1)++ys).length=n+ys.length:=by simp;omega
   have OO:∀ i,i<(xs.drop (lo+1)++ys).length->((xs.drop (lo+1)++ys).getD i .undef).fits bN=true:=fun i hi=>by
    rw[hzl]at hi;by_cases h:i<n
    ·have:=o2 (lo+1+i) ae;have h':i<(xs.drop (lo+1)).length:=ae;simpa[aI h']using this
    obtain⟨j,rfl⟩:∃ j,i=n+j:=⟨i-n,ae⟩;have:=Ag j ae;rw[<-OU];simpa[bp]using this
   have left:∀ i c,i<n->c<bN.sz->VR g w (((xs.drop (lo+1)).getD i .undef).cell c) (vs.getD (g.off l+(lo+1)*bN.sz+i*bN.sz+c) Go.undef):=fun i c hi hc=>by
    have:=b5 (lo+1+i) c ae hc;rw[show g.off l+(lo+1+i)*bN.sz+c=g.off l+(lo+1)*bN.sz+i*bN.sz+c by rw[cu (lo+1)];omega]at this;rw[show (xs.drop (lo+1)).getD i .undef=xs.getD (lo+1+i) .undef by simp];exact this
   have ahq:∀ i,i<n->(xs.drop (lo+1)++ys).getD i .undef=(xs.drop (lo+1)).getD i .undef:=fun i hi=>by
    have h':i<(xs.drop (lo+1)).length:=ae;simp[aI h']
   have aly:∀ j,(xs.drop (lo+1)++ys).getD (n+j) .undef=ys.getD j .undef:=fun j=>by
    rw[<-OU];simp[bp]
   by_cases hc:n+ys.length<=cap
   ·rcases Nat.eq_zero_or_pos ys.length with hz|hz
    ·have hys:ys=[]:=eP hz;subst hys;have hne:news = #[]:=fg (by simpa using hsz);have hrun:=UJ (P:=P) (r:=r) (base:=A) (sLen:=n) (sCap:=cap) h0 h1 hu hd' hd he hl (by simpa using hc) (wW w rfl) hne
     obtain⟨r1,r2⟩:=hR.afi (w':=w) hxs rfl b1 n cap (g.off l+(lo+1)*bN.sz) (.vec bN (xs.drop (lo+1)++[])) rfl rfl rfl rfl (fun _ _=>rfl)
      (fun hm => ⟨by simp [aN.push]; omega, OO, .inr ⟨b', vs, by simp [aN.push], b2, by simp [aN.push]; exact hfo, by simp [aN.push]; omega, fun i c hi mh => by
        rw[hzl]at hi;rw[Ju];rw[ahq i (by simpa using hi)];exact(left i c (by simpa using hi) mh).mono hm,trivial⟩⟩)
     refine⟨_,_,_,_,_,hrun,r1,r2,.own _ _ _ _ _ _ ⟨by simp[aN.push,hR.len],by simp[aN.push,hR.len],_,_,rfl,fun _=>⟨ae,by simp[aN.push,hR.len],fun hlt=>?_⟩⟩,hK⟩;simp only[aN.push,hR.len,if_true]at hlt |-;rw[q6 ae,b1];simp
    have q7:=q6 ae;rw[b1]at q7;simp only[dh]at q7;subst q7;have hle:(n+ys.length)*bN.sz<=cap*bN.sz:=bR _ hc;rw[cu]at hle;have hroom:g.off l+(lo+1)*bN.sz+n*bN.sz+news.size<=vs.size:=ae;have hrun:=Ip (P:=P) (r:=r) (b:=b') (o:=g.off l+(lo+1)*bN.sz) (sLen:=n) h0 h1 hu hd' hd he hl hc (wW w rfl) b2 hroom h1c;obtain⟨f1,f2,f3,f4,f5⟩:=qY w b' (g.off l+(lo+1)*bN.sz+n*bN.sz) news.toList
    obtain⟨r1,r2⟩:=hR.afi hxs rfl b1 (n+ys.length) cap (g.off l+(lo+1)*bN.sz) (.vec bN (xs.drop (lo+1)++ys)) f1 f2 f3 f4 f5
     (fun hm => ⟨by simp [aN.push]; omega, OO, .inr ⟨b', _, by simp [aN.push], b2.setRow _ _, by rw [size_putRow]; simp [aN.push]; exact hfo, by simp [aN.push]; omega, fun i c hi mh => by
       rw[hzl]at hi;rw[Ju];rw[oI _ _ _ (by simpa using hroom)];simp only[ff,hsz];by_cases h:i<n
       ·have h2:=oZ h mh;rw[aj ae,ahq i h];exact(left i c h mh).mono hm
       ·obtain⟨j,rfl⟩:∃ j,i=n+j:=⟨i-n,ae⟩;have hj:j<ys.length:=ae;have h2:=oZ hj mh;rw[aly,au (by rw[cu n];omega),show g.off l+(lo+1)*bN.sz+(n+j)*bN.sz+c-(g.off l+(lo+1)*bN.sz+n*bN.sz)=j*bN.sz+c by rw[cu n];omega];have:=(hh j c hj mh).mono hm;simpa using this,trivial⟩⟩)
    refine⟨_,_,_,_,_,hrun,r1,r2,.own _ _ _ _ _ _ ⟨by simp[aN.push,hR.len],by simp[aN.push,hR.len],_,_,rfl,fun _=>⟨ae,by simp[aN.push,hR.len],fun hlt=>?_⟩⟩,hK⟩;simp[aN.push,hR.len]
   obtain⟨xs',olds,p1,p2,p3,p4,p5⟩:=oq (P:=P) (K:=fun zs=>zs=(xs.drop (lo+1)).take n) (el:=bN) hR Bd (by simp[gN,hxs]);have alz:xs'=xs.drop (lo+1):=by rw[p1];exact bG ae
   subst alz;rw[OU]at p2 p3 p4;obtain⟨cap',rest,dr,k1,k2,k6⟩:=Js (P:=P) (r:=r) (base:=A) (sLen:=n) (sCap:=cap) h0 h1 hu hd' hd he hl ae hr (fun _=>p3 _ rfl) (fun _=>wW _ rfl);have k4:=p5.append (rest:=rest) hh (by rw[OU];exact p4) hsz
   have k3:(olds++news++rest).size=cap'*bN.sz:=by
    simp only[Array.size_append,p4,hsz,k2];rw[<-cu,<-cu]
    congr 1
    omega
   obtain⟨r0,e0⟩:=hR.kill hxs rfl;have jf:=r0.drew dr;have hm:=mH g { w with drawn:=dr } (.cells (olds++news++rest) e) (n+ys.length) (some w.heap.size) cap' jf.lt
   obtain⟨r1,r2⟩:=jf.tT (.cells (olds++news++rest) e) (.vec bN (xs.drop (lo+1)++ys)) (n+ys.length) cap'
    ⟨by simp [aN.push]; omega, OO, .inr ⟨w.heap.size, _, by simp [aN.push], q8 _ _ e, by simp only [aN.push, if_true, bL]; exact k3, by simp [aN.push]; omega, fun i c hi hc => by
      rw[Ju,bL];exact((k4 i c hi hc).mono (gE.drew σ g w dr).mono).mono hm,trivial⟩⟩
   have hlen:=hR.len;refine⟨_,_,_,_,_,k6,r1,e0.trans ((gE.drew (σ.set l .dead) g w dr).trans r2),.own _ _ _ _ _ _ ⟨by simp[aN.push,hR.len],by simp[aN.push,hR.len],_,_,rfl,fun _=>⟨ae,by simp[aN.push,hR.len],fun _=>by simp[aN.push,hR.len]⟩⟩,hK⟩
  exact hK.elim
 exact Fv hR h0 h1 hu hd' hd he hx hy (.inl rfl) sQ
def aaj{x:AV}{v:Value}(hR:Rel g w σ)(hx:VR g w x v)(hK:y6 σ x K): bX P (pure v) g w σ K:=by
 unfold y6 at hK;split at hK
 ·exact .pure hR rfl hx hK
 ·exact .pure hR rfl hx hK
 ·rename_i el l m lo n;split at hK
  ·rename_i T bD xs hl;obtain⟨rfl,rfl,hn,hK⟩:=hK;cases hx with
   | own _ _ _ _ _ _ hO =>
   obtain⟨_,_,A,cap,rfl,h4⟩:=hO;obtain⟨mF,Es,hrow⟩:=hR.ok l _ hl;have hlen:((xs.drop lo).take n).length=n:=by simp;omega
   by_cases V_:n=0
   ·subst V_;rw[gZ]at hK;obtain⟨r1,r2⟩:=hR.kill hl rfl;exact⟨_,w,_,_,_,rfl,r1,r2,.iT false bD A cap (fun h=>by cases h),hK⟩
   rcases hrow with⟨hx,_,_⟩|⟨b,vs,hb,hrow,hsz,hle,hc,_⟩
   ·subst hx;simp at hn;omega
   obtain⟨_,h6,h7⟩:=h4 mF.symm;have hlt:lo<g.cap l:=ae;have hA:=h7 hlt;rw[hb]at hA;simp only[dh]at hA;subst hA
   have hidx:∀ i c,i<n->c<bD.sz->g.off l+(lo+i)*bD.sz+c<vs.size:=fun i c h1 h2=>by
    rw[hsz];have:(lo+i)*bD.sz+bD.sz<=g.cap l*bD.sz:=by rw[<-eH];exact bR _ ae
    omega
   have hoff:∀ i c,g.off l+lo*bD.sz+(i*bD.sz+c)=g.off l+(lo+i)*bD.sz+c:=fun i c=>by rw[cu];omega
   have qL:∀ i,i<n->((xs.drop lo).take n).getD i .undef=xs.getD (lo+i) .undef:=fun i hi=>by
    simp[aq,List.getElem?_take,hi]
   obtain⟨r1,r2⟩:=hR.freeze hl rfl hb;refine⟨_,w,_,_,_,rfl,r1,r2,?_,hK⟩;have key:=VR.aR (g:=g.qX b) (w:=w) false bD ((xs.drop lo).take n) b (g.off l+lo*bD.sz) cap (.inr rfl) (fun h=>by cases h) ae (fun i h1=>?_) (fun i c h1 h2=>?_) (fun i c h1 h2=>?_)
   ·rw[hlen]at key;exact key
   ·rw[hlen]at h1;rw[qL i h1];exact Es (lo+i) ae
   ·rw[hlen]at h1;rw[hoff,hrow.cell (hidx i c h1 h2)];rfl
   rw[hlen]at h1;rw[hoff,qL i h1]
   have e1:eT w ⟨b,g.off l+(lo+i)*bD.sz+c,none⟩=vs.getD (g.off l+(lo+i)*bD.sz+c) Go.undef:=by
    simp only[eT,hrow.cell (hidx i c h1 h2),bT]
   rw[e1];exact(hc (lo+i) c ae h2).mono r2.mono
  exact hK.elim
 exact hK.elim
def XW {ats : Array TypeId} {r sT xT e : TypeId} {d : TypeDesc} {el : El} {x y : AV} {a b : Value} (hR : Rel g w σ)
    (h0:ats[0]? = some sT) (h1:ats[1]? = some xT) (hu:P.underlying sT=some (.slice e)) (hd':P.underlying xT=some d) (hd:∀ k,d≠ .int k) (he:kr P e=some el)
    (hx:VR g w x a) (hy:VR g w y b) (sQ:Hv σ el x y fun v=>K v σ):bX P (Builtin.append_ ats r #[a,b]) g w σ K:=by
 obtain⟨ys,news,⟨hfit,hz,hK⟩,hl,wW,hsz,hh⟩:=oq (P:=P) hR hy sQ
 have Ag:∀ i,i<ys.length->(ys.getD i .undef).fits el=true:=fun i hi=>by
  have:=bf.1 hfit (ys[i]) (dI _);simpa[hi]using this
 have hn:∀ dr,(Builtin.firstCells el.sz ys.length b).run P { w with drawn:=dr } = .ok news { w with drawn:=dr }:=fun dr=>wW _ rfl
 have key:∀ (xs:List AV) (olds:Array Value) (base:Option Addr) (sCap:Nat),a = .slice base xs.length sCap->sCap<xs.length+ys.length->gH (xs.length+ys.length) el ->
  (∀ dr,(Builtin.firstCells el.sz xs.length (.slice base xs.length sCap)).run P { w with drawn:=dr } = .ok olds { w with drawn:=dr }) ->
  olds.size=xs.length*el.sz->jM g w el xs olds->(∀ i,i<xs.length->(xs.getD i .undef).fits el=true)->K (.aR false el (xs++ys)) σ->bX P (Builtin.append_ ats r #[a,b]) g w σ K:=by
  intro xs olds base sCap ha hc hr ho hos hoh hof hk;obtain⟨cap,rest,dr,k1,k2,k3⟩:=Js (P:=P) (r:=r) h0 h1 hu hd' hd he hl hc hr ho hn;have hzs:jM g w el (xs++ys) (olds++news++rest):=hoh.append hh hos hsz
  have hsize:(olds++news++rest).size=cap*el.sz:=by
   simp only[Array.size_append,hos,hsz,k2];rw[<-cu,<-cu]
   congr 1
   omega
  have OO:∀ i,i<(xs++ys).length->((xs++ys).getD i .undef).fits el=true:=fun i hi=>by
   simp only[aC]at hi;by_cases h:i<xs.length
   ·have:=hof i h;simpa[aI h]using this
   obtain⟨j,rfl⟩:∃ j,i=xs.length+j:=⟨i-xs.length,ae⟩;have:=Ag j ae;simpa[bp]using this
  have jf:=hR.drew dr;have hrow:=q8 { w with drawn:=dr } (olds++news++rest) e;have hm:=vL g { w with drawn:=dr } (.cells (olds++news++rest) e) jf.lt;obtain⟨r1,r2⟩:=jf.Rw (.cells (olds++news++rest) e)
  have hlt:∀ i c,i<(xs++ys).length->c<el.sz->i*el.sz+c<(olds++news++rest).size:=fun i c hi hc=>by
   rw[hsize]
   have h2:i*el.sz+el.sz<=cap*el.sz:=by
    rw[<-eH];refine bR _ ?_;simp only[aC]at hi;omega
   omega
  refine⟨_,_,_,_,σ,by rw[ha];exact k3,r1,(gE.drew σ g w dr).trans r2,?_,hk⟩
  have:=VR.aR (g:=g.qX w.heap.size) (w:=World.alloc { w with drawn:=dr } (.cells (olds++news++rest) e)) false el (xs++ys) w.heap.size 0 cap (.inr rfl) (fun h=>by cases h) (by simpa using k1) OO
   (fun i c hi hc=>by rw[bL,hrow.cell (hlt i c hi hc)];rfl)
   (fun i c hi hc => by
     have e1:eT (World.alloc { w with drawn:=dr } (.cells (olds++news++rest) e)) ⟨w.heap.size,0+(i*el.sz+c),none⟩=(olds++news++rest).getD (i*el.sz+c) Go.undef:=by
      unfold eT;rw[Nat.zero_add,hrow.cell (hlt i c hi hc)];rfl
     rw[e1];exact((hzs i c hi hc).mono (gE.drew σ g w dr).mono).mono hm)
  simpa using this
 cases hx<;>(try exact False.elim hK)
 case aV =>
  exact key [] #[] none 0 rfl (by simp;omega) (by simpa using hK.1) (fun _=>rfl) aQ (fun i c hi=>absurd hi (dm _)) (fun i hi=>absurd hi (dm _)) hK.2
 case iT f bD base cap hf =>
  cases f with
  | false=>exact hK.elim
  | true =>
    obtain⟨rfl,hr,hK⟩:=hK;have hcap:cap=0:=hf rfl;subst hcap;exact key [] #[] base 0 rfl (by simp;omega) (by simpa using hr) (fun _=>by cases base<;>simp[Builtin.firstCells,loadCells,loadCellsFrom]) aQ (fun i c hi=>absurd hi (Nat.not_lt_zero _)) (fun i hi=>absurd hi (Nat.not_lt_zero _)) hK
 case aR f bD xs b' off cap Fq hf Ad ft hc h =>
  cases f with
  | false=>exact hK.elim
  | true =>
    obtain⟨rfl,hr,hK⟩:=hK;have hcap:cap=xs.length:=hf rfl;subst hcap;have Bd:VR g w (.aR true bD xs) (.slice (some ⟨b',off,none⟩) xs.length xs.length):= .aR true bD xs b' off _ Fq hf Ad ft hc h;obtain⟨xs',olds,q1,q2,q3,q4,q5⟩:=oq (P:=P) (K:=fun zs=>zs=xs) (el:=bD) hR Bd (by simp[gN]);subst q1;exact key xs' olds _ xs'.length rfl ae hr (fun _=>q3 _ rfl) q4 q5 ft hK
def sS {lo : Option AV} {hi mx : AV} {vl : Option Value} {vh vm : Value} {len cap acN : Nat} {K : Nat -> Nat -> Nat -> Prop} (hl : om g w lo vl) (hh : VR g w hi vh) (hm : VR g w mx vm) (iL : acN <= cap)
    (hK:mo lo hi mx acN K) :
    ∃ l h m:Nat,l<=h/\h<=m/\m<=acN/\(Instr.sliceBounds true len cap vl (some vh) (some vm)).run P w = .ok (l,h,m) w/\K l h m:=by
 unfold mo at hK;cases hm<;>simp only[bound]at hK;rename_i k1 m;obtain⟨m0,m1,hK⟩:=hK;cases hh<;>simp only[bound]at hK;rename_i k2 h;obtain⟨h0,h1,hK⟩:=hK;have e1:=oh (P:=P) (w:=w) (k:=k1) (code:= .slice3Acap) m0 (show m<=(cap:Int) by omega);have e2:=oh (P:=P) (w:=w) (k:=k2) (code:= .slice3B) h0 (show h<=(m.toNat:Int) by omega)
 obtain⟨l,lb,r1,r2⟩:∃ l:Nat,l<=h.toNat/\(match vl with|some v=>Instr.sliceBound v h.toNat .slice3C|none=>Pure.pure 0:Sem Nat).run P w = .ok l w/\K l h.toNat m.toNat:=by
  cases lo with
  | none => cases vl with
    | none=>exact⟨0,ew _,rfl,hK⟩
    | some v=>exact hl.elim
  | some u => cases vl with
    | none=>exact hl.elim
    | some v =>
      have hl':VR g w u v:=hl;cases hl'<;>simp only[bound]at hK
      case int k i=>exact⟨i.toNat,ae,oh hK.1 hK.2.1,hK.2.2⟩
 refine⟨l,h.toNat,m.toNat,lb,ae,ae,?_,r2⟩;cases vl<;>simp_all[Instr.sliceBounds]
def Fz {t e : TypeId} {el : El} {x hi mx : AV} {a vh vm : Value} {lo : Option AV} {vl : Option Value} (hR : Rel g w σ) (hu : P.underlying t = some (.slice e)) (he : kr P e = some el)
    (hx:VR g w x a) (hl:om g w lo vl) (hh:VR g w hi vh) (hm:VR g w mx vm) (hK:Ba σ el x lo hi mx K):bX P (Instr.sliceAt t a vl (some vh) (some vm)) g w σ K:=by
 obtain⟨fi,hi',_,hs,_⟩:=jb he
 have run:∀ (A:Option Addr) (len cap l h m:Nat),(Instr.sliceBounds true len cap vl (some vh) (some vm)).run P w = .ok (l,h,m) w ->
  (Instr.sliceAt t (.slice A len cap) vl (some vh) (some vm)).run P w = .ok (.slice (if m=l then A else A.map (·.add (l*el.sz))) (h-l) (m-l)) w:=fun A len cap l h m hb=>by
  simp only[Instr.sliceAt,Sem.run_bind,bn hu,Result.andThen_ok,Instr.slice,hb,ep hi',hs,Sem.run_pure]
 have ahr:∀ {g:aN} {w:World} {xs:List AV} {b off cap l h m:Nat},g.fN b->xs.length<=cap->h<=xs.length->l<h->h<=m->(∀ i,i<xs.length->(xs.getD i .undef).fits el=true) ->
  (∀ i c,i<xs.length->c<el.sz->(w.cell? ⟨b,off+(i*el.sz+c),none⟩).isSome=true)->(∀ i c,i<xs.length->c<el.sz->VR g w ((xs.getD i .undef).cell c) (eT w ⟨b,off+(i*el.sz+c),none⟩)) ->
  VR g w (.aR (h==m) el ((xs.drop l).take (h-l))) (.slice (some ⟨b,off+l*el.sz,none⟩) (h-l) (m-l)):=by
  intro g w xs b off cap l h m Fq Ad RO hlt hhm ft hc h';have hlen:((xs.drop l).take (h-l)).length=h-l:=by simp;omega
  have qL:∀ i,i<h-l->((xs.drop l).take (h-l)).getD i .undef=xs.getD (l+i) .undef:=fun i hi=>je hi;have hoff:∀ i c,off+l*el.sz+(i*el.sz+c)=off+((l+i)*el.sz+c):=fun i c=>by rw[cu];omega
  have:=VR.aR (g:=g) (w:=w) (h==m) el ((xs.drop l).take (h-l)) b (off+l*el.sz) (m-l) Fq (fun e=>by rw[hlen];have:=beq_iff_eq.1 e;omega) (by rw[hlen];omega)
   (fun i hi=>by rw[hlen]at hi;rw[qL i hi];exact ft _ ae)
   (fun i c hi iL=>by rw[hlen]at hi;rw[hoff];exact hc _ c ae iL)
   (fun i c hi iL=>by rw[hlen]at hi;rw[qL i hi,hoff];exact h' _ c ae iL)
  rwa[hlen]at this
 unfold Ba at hK;cases hx<;>simp only at hK
 case aV =>
  obtain⟨l,h,m,q1,q2,q3,q4,q5⟩:=sS (P:=P) (len:=0) (cap:=0) hl hh hm (bg _) hK;have:h=0/\l=0/\m=0:=ae;obtain⟨rfl,rfl,rfl⟩:=this;refine bX.pure hR (run none 0 0 0 0 0 q4) ?_ q5;simpa using VR.aV
 case iT f bD b cap hf =>
  obtain⟨rfl,hK⟩:=hK;obtain⟨l,h,m,q1,q2,q3,q4,q5⟩:=sS (P:=P) (len:=0) (cap:=cap) hl hh hm (ew _) hK;have q3:m<=0:=q3;have:h=0/\l=0/\m=0:=ae;obtain⟨rfl,rfl,rfl⟩:=this;refine bX.pure hR (run b 0 cap 0 0 0 q4) ?_ q5;simpa using VR.iT (g:=g) (w:=w) true bD b 0 aQ
 case aR f bD xs b off cap Fq hf Ad ft hc h =>
  obtain⟨rfl,hK⟩:=hK;obtain⟨l,h',m,q1,q2,q3,q4,q5⟩:=sS (P:=P) (len:=xs.length) (cap:=cap) hl hh hm Ad hK;refine bX.pure hR (run _ _ _ _ _ _ q4) ?_ q5;by_cases e:h'=l
  ·subst e;simpa using VR.iT (h'==m) _ _ (m-h') (fun e=>by have:=beq_iff_eq.1 e;omega)
  rw[aj ae];simp only[dh,add_plain];exact ahr Fq Ad ae ae q2 ft hc h
 case own bD l0 m0 o n h =>
  obtain⟨rfl,hK⟩:=hK;obtain⟨q1,q2,A,cap,rfl,q3⟩:=h;split at hK
  ·rename_i T bN xs hxs;obtain⟨rfl,rfl,um,hK⟩:=hK;obtain⟨o1,o2,o3⟩:=hR.ok l0 _ hxs;obtain⟨q4,q5,q6⟩:=q3 o1.symm
   have hcap:xs.length<=g.cap l0:=by
    rcases o3 with⟨rfl,_,_⟩|⟨b,vs,b1,b2,b3,b4,b5⟩
    ·exact ew _
    exact b4
   obtain⟨l,h',m,p1,p2,p3,p4,p5⟩:=sS (P:=P) (len:=n) (cap:=cap) hl hh hm ae hK;split at p5
   ·rename_i e;subst e;have:h'=m:=ae;subst this;refine bX.pure hR (run _ _ _ _ _ _ p4) ?_ p5;simpa using VR.iT (g:=g) (w:=w) true bN A 0 aQ
   rename_i e;obtain⟨rfl,p5⟩:=p5;rcases o3 with⟨rfl,_,_⟩|⟨b,vs,b1,b2,b3,b4,b5,_⟩
   ·simp at q4;omega
   have q7:=q6 ae;rw[b1]at q7;simp only[dh]at q7;subst q7;obtain⟨r1,r2⟩:=hR.freeze hxs rfl b1;refine⟨_,w,g.qX b,_,_,run _ _ _ _ _ _ p4,r1,r2,?_,p5⟩;rw[aj ae];simp only[dh,add_plain]
   have hlt:∀ i c,i<xs.length->c<bN.sz->g.off l0+(i*bN.sz+c)<vs.size:=fun i c hi hc=>by
    rw[b3];have:i*bN.sz+bN.sz<=g.cap l0*bN.sz:=by rw[<-eH];exact bR _ ae
    omega
   have hcell:∀ i c,i<xs.length->c<bN.sz->w.cell? ⟨b,g.off l0+(i*bN.sz+c),none⟩=some (vs.getD (g.off l0+i*bN.sz+c) Go.undef):=fun i c hi hc=>by
    rw[b2.cell (hlt i c hi hc),dG]
   have:=ahr (g:=g.qX b) (w:=w) (xs:=xs) (b:=b) (off:=g.off l0) (cap:=xs.length) (l:=o+l) (h:=o+h') (m:=o+h') (.inr rfl) (bg _) ae ae (bg _) o2
    (fun i c hi hc=>by rw[hcell i c hi hc];rfl)
    (fun i c hi hc => by
      have e1:eT w ⟨b,g.off l0+(i*bN.sz+c),none⟩=vs.getD (g.off l0+i*bN.sz+c) Go.undef:=by unfold eT;rw[hcell i c hi hc];rfl
      rw[e1];exact(b5 i c hi hc).mono r2.mono)
   rw[show (o+h')-(o+l)=h'-l by omega]at this;rw[dG,<-cu];simpa using this
  exact hK.elim
def XX {t e : TypeId} {el : El} {x hi mx : AV} {a vh vm : Value} {lo : Option AV} {vl : Option Value} (hR : Rel g w σ) (hu : P.underlying t = some (.slice e)) (he : kr P e = some el)
    (hx:VR g w x a) (hl:om g w lo vl) (hh:VR g w hi vh) (hm:VR g w mx vm) (hK:wD el x lo hi mx fun v=>K v σ):bX P (Instr.sliceAt t a vl (some vh) (some vm)) g w σ K:=by
 unfold wD at hK;split at hK
 ·exact Fz hR hu he hx hl hh hm hK
 ·exact Fz hR hu he hx hl hh hm hK
 ·rename_i bD l0 m0 o n;obtain⟨rfl,hK⟩:=hK;obtain⟨fi,hi',_,hs,_⟩:=jb he;cases hx with
  | own bD l0 m0 o n v h =>
  obtain⟨q1,q2,A,cap,rfl,q3⟩:=h;obtain⟨l,h,m,p1,p2,p3,p4,p5⟩:=sS (P:=P) (len:=n) (cap:=cap) hl hh hm (ew _) hK;have:h=0/\l=0/\m=0:=ae;obtain⟨rfl,rfl,rfl⟩:=this;refine bX.pure hR (v:= .slice A 0 0) ?_ (.iT true _ A 0 aQ) p5;simp only[Instr.sliceAt,Sem.run_bind,bn hu,Result.andThen_ok,Instr.slice,p4,ep hi',hs,Sem.run_pure];simp
 exact hK.elim
def aak {T xt : TypeId} {d : TypeDesc} {ok : Bool} {zero x : AV} {a : Value} (hR : Rel g w σ) (hu : P.underlying T = some d) (hd : ∀ l, d ≠ .interface l) (hz : mq P T = some zero) (hx : VR g w x a)
    (hK:y5 T ok zero x fun v=>K v σ):bX P (Instr.typeAssert a xt T ok) g w σ K:=by
 obtain⟨z,hz1,hz2⟩:=y7 hz w;unfold y5 at hK;cases hx<;>(try exact False.elim hK)
 case jR =>
  obtain⟨rfl,hK⟩:=hK;refine bX.pure hR (v:= .tuple #[z,.bool false]) ?_ (vO (ok:=true) (hz2 g w).1) hK;cases d<;>first|exact absurd rfl (hd _)|simp[Instr.typeAssert,bn hu,hz1]
 case kZ t y v h =>
  simp only at hK;split at hK
  ·rename_i e;subst e;refine bX.pure hR (v:=if ok then .tuple #[v,.bool true]else v) ?_ (vO h) hK;cases d<;>first|exact absurd rfl (hd _)|simp[Instr.typeAssert,bn hu]
  rename_i e;obtain⟨rfl,hK⟩:=hK;refine bX.pure hR (v:= .tuple #[z,.bool false]) ?_ (vO (ok:=true) (hz2 g w).1) hK;cases d<;>first|exact absurd rfl (hd _)|simp[Instr.typeAssert,bn hu,hz1,e]
end
def Et(g:aN)(w:World)(σ : ai)(a:Act)(dst:Option Tmp)(K:AV->ai->Prop)(a':Act)(w':World): Prop :=
 ∃ v g' av σ',a'=a.put dst v/\Rel g' w' σ'/\gE σ g w σ' g' w'/\VR g' w' av v/\K av σ'
def Iv(g:aN)(w:World)(σ : ai)(a:Act)(Kp:AV->ai->Prop)(ex:Exit)(a':Act)(w':World): Prop :=
 a'=a/\ ∃ v g' av σ',ex = .panic [{ v,recovered:=false }]/\Rel g' w' σ'/\gE σ g w σ' g' w'/\VR g' w' av v/\Kp av σ'
abbrev WF(ro:Option Nat): Fence:= { Fence.wide with round:=ro }
def M8(ro:Option Nat)(n:Nat): (WF ro).room n:=fun _ h=>by simp[WF,Fence.wide]at h
def M9{ro:Option Nat}{n:Nat}{P:Program}{f:FuncId}{args:Array Value}{w:World}{R:Ending->World->Prop}: CallsIn (WF ro) n P f args w R↔Calls P f args w R:=callsIn_wide (n:=n)
def Ah(o:Oper): Prop:= ∀ c,o.op≠ .defer c
section
variable {P:Program} {g:aN} {w:World} {σ : ai} {K Kp:AV->ai->Prop} {ro:Option Nat} {wn:Nat}
def qD{o:Oper}{a:Act}{next:Act->World->Prop}{Q:Exit->Act->World->Prop}(hnd:Ah o)(h:o.uponIn (WF ro) wn P a next Q ((execOp a.eval o).run P w)): o.wpIn (WF ro) wn P a w next Q:=by
 refine⟨fun _ _=>trivial,?_⟩;rw[Oper.semAt_eq _ _ _ hnd];exact h
def oJ{o:Oper}{a:Act}{v:Value}{w':World}{next:Act->World->Prop}{Q:Exit->Act->World->Prop}(hnd:Ah o)(h:(execOp a.eval o).run P w = .ok (.value v) w')(hn:next (a.put o.dst v) w'): o.wpIn (WF ro) wn P a w next Q:=by
 refine qD hnd ?_;rw[h];exact hn
def eJ{o:Oper}{a:Act}{s:Sem Value}{Q:Exit->Act->World->Prop}(hnd:Ah o)(h:bX P s g w σ K)(hs:execOp a.eval o=(do pure (.value (← s)):Sem Next)): o.wpIn (WF ro) wn P a w (Et g w σ a o.dst K) Q:=by
 obtain⟨v,w',g',av,σ',h1,h2,h3,h4,h5⟩:=h;refine oJ hnd (v:=v) (w':=w') ?_ ⟨v,g',av,σ',rfl,h2,h3,h4,h5⟩;rw[hs];simp[h1]
def wX{o:Oper}{a:Act}{v:Value}{av:AV}{Q:Exit->Act->World->Prop}(hnd:Ah o)(hR:Rel g w σ)(hs:(execOp a.eval o).run P w = .ok (.value v) w)(hv:VR g w av v)(hk:K av σ): o.wpIn (WF ro) wn P a w (Et g w σ a o.dst K) Q :=
 oJ hnd hs ⟨v,g,av,σ,rfl,hR,.refl _ _ _,hv,hk⟩
def ny{nt:Nat}{x:Option Operand}{ax:Option AX}{e:Env}{a:Act}(h:VX nt x=some ax)(hE:iJ nt g w e a.tmps): om g w (ax.map (AX.ev e)) (x.map a.eval):=by
 cases x with
 | none=>cases h;trivial
 | some x =>
   simp only[VX,bj]at h;obtain⟨b,h1,rfl⟩:=h;exact c9 h1 hE
def vP {nt : Nat} {xs : Array Operand} {az : List AX} {e : Env} {a : Act} (h : Fk nt xs.toList = some az) (hE : iJ nt g w e a.tmps) :
    (az.map (AX.ev e)).length=(xs.map a.eval).size/\ ∀ i,i<(az.map (AX.ev e)).length->VR g w ((az.map (AX.ev e)).getD i .undef) ((xs.map a.eval).getD i Go.undef):=by
 obtain⟨h1,h2⟩:=afL h hE;refine⟨by simp[h1],fun i hi=>?_⟩;have:=h2 i (by simpa using hi);simpa using this
def Dh {az bs : List AV} {us vs : Array Value} (h1 : az.length = us.size) (h2 : ∀ i, i < az.length -> VR g w (az.getD i .undef) (us.getD i Go.undef)) (h3 : bs.length = vs.size) (h4 : ∀ i, i < bs.length -> VR g w (bs.getD i .undef) (vs.getD i Go.undef)) :
    (az++bs).length=(us++vs).size/\ ∀ i,i<(az++bs).length->VR g w ((az++bs).getD i .undef) ((us++vs).getD i Go.undef):=by
 refine⟨by simp[h1,h3],fun i hi=>?_⟩;simp only[aC]at hi;by_cases h:i<az.length
 ·have:=h2 i h;have h5:i<us.size:=ae;simpa[aI h,fx h5]using this
 obtain⟨j,rfl⟩:∃ j,i=az.length+j:=⟨i-az.length,ae⟩;have:=h4 j ae;rw[h1];have e1:(az++bs).getD (us.size+j) .undef=bs.getD j .undef:=by rw[<-h1];simp[bp]
 have e2:(us++vs).getD (us.size+j) Go.undef=vs.getD j Go.undef:=by
  rw[e8,Array.getElem?_append_right ae];simp
 rw[e1,e2];exact this
def aal{f:AX}{args:List AX}{e:Env}{K Kp:AV->ai->Prop}(h:(bx.tV f args).run P e σ K Kp): (bx.call false f args).run P e σ K Kp:=by
 simp only[bx.run]at *;split at h
 ·rename_i n hf;unfold Ht at h;split at h
  ·rename_i a r ha;obtain⟨l,ob,nO,r,_,_,_,h4,h5⟩:=h;simp only[hf,aP,if_false,bS,bZ];exact h4.mono fun o s ⟨e1,e2⟩=>by subst e1;subst e2;exact h5
  exact h.elim
 exact h.elim
def XY{m q:Bool}{f:AX}{args:List AX}{e:Env}{K Kp:AV->ai->Prop}(h:(Z1 m q f args).run P e σ K Kp): ∃ q,(bx.call q f args).run P e σ K Kp:=by
 cases m
 ·exact⟨q,h⟩
 exact⟨false,aal h⟩
def acO{l:List (Nat × El)}{m q:Bool}{f:AX}{args:List AX}{e:Env}{K Kp:AV->ai->Prop}(h:(acG l m q f args).run P e σ K Kp): ∃ q,(bx.call q f args).run P e σ K Kp:=by
 unfold acG at h;split at h
 ·rename_i p l' n;refine⟨false,?_⟩
  have hk:∃ r σ2,cE P n ((args.map (AX.ev e))) σ (fun o σ'=>o = .ret r/\σ' = σ2)/\K r σ2:=by
   replace h:gG.run P (.cw n args.length _) (args.map (AX.ev e)) σ K Kp:=h
   generalize hz:args.map (AX.ev e)=zs at h;cases zs with
   | nil=>exact h.elim
   | cons z zs =>
     obtain⟨r,s2,h1,_,h3⟩:=h;rw[<-hz,bG aQ,hz]at h1;exact⟨r,s2,h1,h3⟩
  obtain⟨r,s2,h1,h3⟩:=hk;simp only[bx.run,AX.ev,aP,if_false,bS,bZ];exact h1.mono fun o s ⟨e1,e2⟩=>by subst e1;subst e2;exact h3
 exact XY h
def acP{p:Bool}{l:List (Nat × El)}{m q:Bool}{f:AX}{args:List AX}{e:Env}{K Kp:AV->ai->Prop}(h:(acH p l m q f args).run P e σ K Kp): ∃ q,(bx.call q f args).run P e σ K Kp:=by
 unfold acH at h;split at h
 ·rename_i n;refine⟨false,?_⟩;obtain⟨o,h1,h2⟩:∃ o,(∀ s,cE P n (args.map (AX.ev e)) s fun o' s'=>o'=o/\s'=s)/\pcK (fun r=>K r σ) (fun v=> ∀ s,Kp v s) o:=h;simp only[bx.run,AX.ev,aP,if_false,bS,bZ];refine(h1 σ).mono fun o' s ⟨e1,e2⟩=>?_;subst e1;subst e2;cases o' with
  | ret r=>exact h2
  | panic v=>exact h2 _
 exact acO h
def Wa {o : Oper} {a : Act} {f : FuncId} {vs : Array Value} {args : List AV} (hnd : Ah o) (hex : (execOp a.eval o).run P w = .ok (.enter f vs) w) (hR : Rel g w σ) (hl : args.length = vs.size)
    (h : ∀ i, i < args.length -> VR g w (args.getD i .undef) (vs.getD i Go.undef)) (hc : cE P f args σ fun
      | .ret r,σ'=>K r σ'
      | .panic r,σ'=>Kp r σ'):o.wpIn (WF ro) wn P a w (Et g w σ a o.dst K) (Iv g w σ a Kp):=by
 refine qD hnd ?_;rw[hex];refine⟨fun h=>by simp[WF,Fence.wide]at h,M9.2 ((hc.2 g w vs hR hl h).mono ?_)⟩;rintro e w' ⟨out,g',σ',h1,h2,h3,h4⟩;cases out with
 | ret r =>
   cases e with
   | returned v=>exact⟨v,g',r,σ',rfl,h1,h2,h3,h4⟩
   | panicked c=>exact h3.elim
   | outgrown=>exact h3.elim
 | panic r =>
   cases e with
   | returned v=>exact h3.elim
   | panicked c=>obtain⟨v,rfl,h3⟩:=h3;exact⟨rfl,v,g',r,σ',rfl,h1,h2,h3,h4⟩
   | outgrown=>exact h3.elim
def acQ {o : Oper} {a : Act} {l b : Nat} {vs : Array Value} {args : List AV} (hnd : Ah o) (hex : (execOp a.eval o).run P w = (Instr.yield b vs).run P w) (hR : Rel g w σ) (hb : g.ver l = 0 -> g.base l = some b) (hl : args.length = vs.size)
    (h : ∀ i, i < args.length -> VR g w (args.getD i .undef) (vs.getD i Go.undef)) (hc : wQ P l args σ fun
      | .ret r,σ'=>K r σ'
      | .panic r,σ'=>Kp r σ'):o.wpIn (WF ro) wn P a w (Et g w σ a o.dst K) (Iv g w σ a Kp):=by
 refine qD hnd ?_;obtain⟨⟨nt,e,ps,ca,cb,st,pe,ho⟩,hc⟩:=hc;have mF:=(hR.ok l _ ho).1;obtain⟨fn,tmps,ca,cb,r1,r2⟩:=hc g w vs b hR (hb mF) hl h;rw[hex,r1];refine⟨fun h=>by simp[WF,Fence.wide]at h,?_⟩;have r3:RoundIn (WF ro) (wn-1) P b fn tmps ca cb w _:=⟨trivial,fun c cs _=>r2.2 c cs (room_wide _)⟩;refine r3.mono ?_;rintro e w' ⟨out,g',σ',h1,h2,h3,h4⟩;cases out with
 | ret r =>
   cases e with
   | returned v=>exact⟨v,g',r,σ',rfl,h1,h2,h3,h4⟩
   | panicked c=>exact h3.elim
   | outgrown=>exact h3.elim
 | panic r =>
   cases e with
   | returned v=>exact h3.elim
   | panicked c=>obtain⟨v,rfl,h3⟩:=h3;exact⟨rfl,v,g',r,σ',rfl,h1,h2,h3,h4⟩
   | outgrown=>exact h3.elim
def M_{d:TypeDesc}{kd:Option IntKind}(h:Hz d=some kd): xK kd d=true:=by
 cases d<;>simp[Hz]at h<;>subst h<;>simp[xK]
def OV {o : Oper} {a : Act} {t key elem : TypeId} {d : TypeDesc} {kd : Option IntKind} {x k y : AV} {m v u : Value} (hnd : Ah o) (hR : Rel g w σ) (ht : P.underlying t = some (.map key elem)) (hkey : P.underlying key = some d) (hd : xK kd d = true)
    (hx:VR g w x m) (hv:VR g w k v) (hu:VR g w y u) (hex:execOp a.eval o=(do Instr.mapUpdate t m v u;Pure.pure .skip:Sem Next))
    (hK:gG.run P (.wR kd) [x,k,y] σ K Kp):o.wpIn (WF ro) wn P a w (Et g w σ a o.dst K) (Iv g w σ a Kp):=by
 unfold gG.run at hK;split at hK<;>(try (rename_i h1 h2;cases h1;done))<;>(try (rename_i h1;cases h1;done))<;>(try exact hK.elim);rename_i l k' v' h1 h2;cases h1;cases h2;obtain⟨hk,hK⟩:=hK;split at hK
 ·rename_i es V9;split at hK
  ·rename_i es' hs;obtain⟨w',r1,r2,r3⟩:=RN hR ht hkey hd hx hv hu hk V9 hs;refine qD hnd ?_;have:(execOp a.eval o).run P w = .ok .skip w':=by rw[hex];simp[r1]
   rw[this];exact⟨.tuple #[],g,.bU [],_,rfl,r2,r3,.bU [] #[] rfl (fun i hi=>absurd hi (dm _)),hK⟩
  exact hK.elim
 exact hK.elim
def FA{f:FuncId}(h:Has P f)(args:Array Value)(w:World): (callFunc f args).run P w = .ok (.enter f args) w:=by
 obtain⟨fn,h1,h2,h3⟩:=h;have h4:fn.body.isNone=false:=by cases hb:fn.body<;>simp_all
 simp only[callFunc,Sem.run_bind,run_program,Result.andThen_ok,h1,h3,h4,aP,if_false,Sem.run_pure]
def RP {nt : Nat} {h : Hints} {dr : Bool} {o : Oper} {ao : bx} {e : Env} {a : Act} (hc : wU P nt h dr o = some ao) (hR : Rel g w σ) (hE : iJ nt g w e a.tmps) (hK : ao.run P e σ K Kp) :
    o.wpIn (WF ro) wn P a w (Et g w σ a o.dst K) (Iv g w σ a Kp):=by
 have hnd:Ah o:=fun c hop=>by simp[wU,hop]at hc
 unfold wU at hc;cases hop:o.op<;>simp only[hop]at hc<;>(try (cases hc;done))
 case move x =>
  simp only[bj]at hc;obtain⟨ax,h1,rfl⟩:=hc;by_cases hb:(!dr && Fm o.dst h.Jp)=true
  ·rw[au hb]at hK;exact eJ hnd (aaj (P:=P) hR (c9 h1 hE) hK) (by simp[execOp,hop])
  rw[aj hb]at hK;exact wX hnd hR (by simp[execOp,hop]) (c9 h1 hE) hK
 case assign x =>
  have mv:∀ ax,cX nt x=some ax->bx.run P (.mv ax) e σ K Kp->o.wpIn (WF ro) wn P a w (Et g w σ a o.dst K) (Iv g w σ a Kp):=fun ax h1 hK =>
   wX hnd hR (by simp[execOp,hop]) (c9 h1 hE) hK
  split at hc
  ·rename_i el hel;split at hc
   ·rename_i kU;cases hc
    have hx:a.eval x = .slice none 0 0:=by
     cases x with
     | const v =>
       cases v with
       | slice p l c =>
         cases p with
         | none=>simp[pJ]at kU;obtain⟨rfl,rfl⟩:=kU;rfl
         | some p=>simp[pJ]at kU
       | _=>simp[pJ]at kU
     | _=>simp[pJ]at kU
    obtain⟨r1,r2⟩:=hR.lE el;refine oJ hnd (v:= .slice none 0 0) (w':=w) (by simp[execOp,hop,hx]) ⟨_,_,_,_,rfl,r1,r2,.own _ _ _ _ _ _ ⟨by simp[aN.push,hR.len],ew _,_,_,rfl,fun _=>⟨ae,by simp[aN.push,hR.len],fun h=>by simp[aN.push,hR.len]at h⟩⟩,hK⟩
   simp only[bj]at hc;obtain⟨ax,h1,rfl⟩:=hc;exact mv ax h1 hK
  simp only[bj]at hc;obtain⟨ax,h1,rfl⟩:=hc;exact mv ax h1 hK
 case pick c x y =>
  split at hc
  ·rename_i ac ax ay h1 h2 h3;cases hc;have hv:=c9 h1 hE;simp only[bx.run]at hK;generalize AX.ev e ac=z at hv hK;generalize fy:a.eval c=cv at hv;cases hv<;>simp only at hK;rename_i t;refine wX hnd (v:=if t then a.eval x else a.eval y) hR (by simp[execOp,hop,fy,asBool]) ?_ hK;cases t
   ·exact c9 h3 hE
   exact c9 h2 hE
  ·cases hc
 case alloc t =>
  split at hc
  ·rename_i z hz;split at hc
   ·simp only[Option.some.injEq]at hc;subst hc;exact eJ hnd (Ux (Fl _ _) hR hz hK) (by simp[execOp,hop])
   ·cases hc
  ·cases hc
 case box t x =>
  simp only[bj]at hc;obtain⟨ax,h1,h2⟩:=hc;split at h2<;>subst h2<;>simp only[bx.run]at hK
  ·exact eJ hnd (XG (t:=t) hR (c9 h1 hE) hK.1 hK.2) (by simp[execOp,hop])
  exact eJ hnd (Z2 (t:=t) hR (c9 h1 hE) hK.1 hK.2) (by simp[execOp,hop])
 case build t parts =>
  split at hc
  ·rename_i z fs hz hu;split at hc
   ·rename_i hh;simp only[aD]at hh;simp only[bj]at hc;obtain⟨ps,h1,rfl⟩:=hc;exact eJ hnd (Ft hR hE hz hh.2 hu hh.1 h1 hK) (by simp[execOp,hop])
   ·cases hc
  ·rename_i z n el hz hu;split at hc
   ·rename_i hh;simp only[aD,gD]at hh;obtain⟨⟨fi,hi⟩,_⟩:=hh;simp only[bj]at hc;obtain⟨ps,h1,rfl⟩:=hc;exact eJ hnd (HZ hR hE hz hu hi h1 hK) (by simp[execOp,hop])
   ·cases hc
  ·cases hc
 case buildSlice t n parts =>
  split at hc
  ·rename_i el hu;split at hc
   ·rename_i bD z he hz;split at hc
    ·rename_i hh;simp only[aD,aM]at hh;simp only[bj]at hc;obtain⟨ps,h1,rfl⟩:=hc;exact eJ hnd (RJ hR hE hu he hz hh.1 hh.2 h1 hK) (by simp[execOp,hop])
    ·cases hc
   ·cases hc
  ·cases hc
 case load t x =>
  split at hc
  ·rename_i ag i ax hA hi h1;split at hc
   ·rename_i hh;cases hc;exact eJ hnd (XI hR hA hi (fun e=>by simpa[e]using hh) (c9 h1 hE) hK) (by simp[execOp,hop])
   ·cases hc
  ·cases hc
 case store t x y =>
  split at hc
  ·rename_i i ax ay hi h1 h2;cases hc;obtain⟨w',g',σ',r1,r2,r3,r4⟩:=Uy (P:=P) hR hi (c9 h1 hE) (c9 h2 hE) hK;refine qD hnd ?_;have:(execOp a.eval o).run P w = .ok .skip w':=by simp[execOp,hop,r1]
   rw[this];exact⟨_,g',.bU [],σ',rfl,r2,r3,.bU [] #[] rfl (fun i hi=>absurd hi (dm _)),r4⟩
  ·cases hc
 case nilCheck x =>
  simp only[bj]at hc;obtain⟨ax,h1,rfl⟩:=hc;obtain⟨v,w',g',av,σ',r1,r2,r3,r4,r5⟩:=UB (P:=P) (K:=K) hop rfl hR (c9 h1 hE) hK;exact oJ hnd r1 ⟨v,g',av,σ',rfl,r2,r3,r4,r5⟩
 case binOp op t x y yt =>
  have hs:∀ {K:AV->ai->Prop},bX P (do eqGuard op t x y (a.eval x) (a.eval y);binOp op t (a.eval x) (a.eval y)) g w σ K->o.wpIn (WF ro) wn P a w (Et g w σ a o.dst K) (Iv g w σ a Kp):=fun hh =>
   eJ hnd hh (by simp[execOp,hop])
  split at hc
  ·rename_i ax ay h1 h2;have v1:=c9 h1 hE;have v2:=c9 h2 hE;split at hc
   ·cases hc;exact hs (Ld hR v1 v2 hK)
   ·cases hc;exact hs (Ld hR v1 v2 hK)
   ·rename_i te hu;split at hc
    ·rename_i hn
     have hy:a.eval y = .slice none 0 0:=by
      unfold pJ at hn;split at hn
      ·rename_i l c;simp only[aD,beq_iff_eq]at hn;rw[hn.1,hn.2];rfl
      ·cases hn
     rw[hy]at hs;split at hc
     ·split at hc
      ·cases hc;exact hs (Lh (op:= .eql) (.inl rfl) hR hu v1 hK)
      ·cases hc
     ·split at hc
      ·cases hc;exact hs (Lh (op:= .neq) (.inr rfl) hR hu v1 hK)
      ·cases hc
     ·cases hc
    ·cases hc
   ·rename_i d _ _ _ hu;split at hc
    ·rename_i k hk;split at hc
     ·split at hc
      ·rename_i te _ hpt;split at hc
       ·rename_i i _ hi;cases hc;exact hs (OQ (op:= .eql) (.inl ⟨rfl,rfl⟩) hR hu hi v1 v2 hK)
       ·rename_i i _ hi;cases hc;exact hs (OQ (op:= .neq) (.inr ⟨rfl,rfl⟩) hR hu hi v1 v2 hK)
       ·cases hc
      ·cases hc
     split at hc
     ·rename_i hn;simp only[cN]at hn;split at hc
      ·cases hc;refine hs (Ir (op:= .eql) (.inl rfl) hR hu hk hn v1 v2 ?_);simp only[bx.run]at hK;generalize pH k (AX.ev e ax) (AX.ev e ay)=r at hK |-;cases r<;>exact hK
      ·cases hc;refine hs (Ir (op:= .neq) (.inr rfl) hR hu hk hn v1 v2 ?_);simp only[bx.run]at hK;generalize pH k (AX.ev e ax) (AX.ev e ay)=r at hK |-;cases r<;>exact hK
      ·cases hc
     ·cases hc
    split at hc
    ·rename_i ks ag i hf hA hi;split at hc
     ·rename_i hh;simp only[aD,beq_iff_eq,cN,ey]at hh
      have hg:ag=true->P.eqGuardType P.depth t=false:=fun e=>by
       rcases hh.2 with h|h
       ·rw[e]at h;cases h
       exact h
      split at hc
      ·cases hc;exact hs (OL (op:= .eql) (.inl rfl) hR hf hA hi hh.1 hg v1 v2 hK)
      ·cases hc;exact hs (OL (op:= .neq) (.inr rfl) hR hf hA hi hh.1 hg v1 v2 hK)
      ·cases hc
     ·cases hc
    ·cases hc
   ·cases hc
  ·cases hc
 case unOp op t x =>
  simp only[bj]at hc;obtain⟨ax,h1,rfl⟩:=hc;exact eJ hnd (acI hR (c9 h1 hE) hK) (by simp[execOp,hop])
 case convert s d x =>
  have hs:bX P (convert s d (a.eval x)) g w σ K->o.wpIn (WF ro) wn P a w (Et g w σ a o.dst K) (Iv g w σ a Kp):=fun hh=>eJ hnd hh (by simp[execOp,hop]);split at hc
  ·rename_i k' k ax hs1 BW h1;cases hc;exact hs (XJ hR hs1 BW (c9 h1 hE) hK)
  ·rename_i ax hs1 BW h1;cases hc;have v1:=c9 h1 hE;simp only[bx.run]at hK;generalize AX.ev e ax=z at v1 hK;cases z<;>simp only at hK;exact hs (Z4 hR hs1 BW v1 ⟨_,rfl⟩ hK)
  ·rename_i el ax hs1 BW h1;split at hc
   ·rename_i i he hi;split at hc
    ·cases hc;have v1:=c9 h1 hE;obtain⟨hn,hK⟩:=hK;refine hs (aac hR hs1 BW he v1 hK ?_);generalize AX.ev e ax=z at v1 hn hK;generalize a.eval x=xv at v1;cases v1<;>simp only[gN]at hK hn
     ·exact⟨_,_,_,rfl⟩
     ·exact⟨_,_,_,rfl⟩
     ·exact⟨_,_,_,rfl⟩
     ·rename_i h;obtain⟨_,_,A,cap,rfl,_⟩:=h;exact⟨_,_,_,rfl⟩
     exact⟨_,_,_,rfl⟩
    ·cases hc
   ·cases hc
  ·rename_i t ax hs1 BW h1;split at hc
   ·rename_i i hi;split at hc
    ·cases hc
    rename_i h0;cases hc;exact hs (aaf hR hs1 BW hi (by simpa using h0) (c9 h1 hE) hK)
   ·cases hc
  ·rename_i t ax hs1 BW h1;split at hc
   ·rename_i i hi;cases hc;exact hs (aag hR hs1 BW hi (c9 h1 hE) hK)
   ·cases hc
  ·cases hc
 case makeInterface t x =>
  split at hc
  ·cases hc
  ·cases hc
  rename_i d h1 h2;simp only[bj]at hc;obtain⟨ax,h3,rfl⟩:=hc;cases hu:P.underlying t with
  | none=>exact absurd hu h2
  | some d=>exact eJ hnd (UC hR hu (fun ms e=>h1 ms (by rw[hu,e])) (c9 h3 hE) hK) (by simp[execOp,hop])
 case makeFunc fn first cap =>
  split at hc
  ·rename_i az bs h1 h2;cases hc;obtain⟨a1,a2⟩:=vP h1 hE;obtain⟨b1,b2⟩:=vP h2 hE;exact wX hnd (v:= .func fn (first.map a.eval) (cap.map a.eval)) hR (by simp[execOp,hop,Instr.makeFunc]) (.fn fn _ _ _ _ a1 b1 a2 b2) hK
  ·cases hc
 case slice t x lo hi mx =>
  split at hc
  ·rename_i ax al ah am h1 h2 h3 h4;have v1:=c9 h1 hE
   have hm:am=none->mx=none:=fun e=>by
    cases mx with
    | none=>rfl
    | some m=>simp only[VX,Option.map_eq_some_iff]at h4;obtain⟨b,_,rfl⟩:=h4;cases e
   split at hc
   ·rename_i hu;split at hc
    ·rename_i hn;cases hc;have:mx=none:=hm (by simpa using hn);subst this;exact eJ hnd (Z5 hR hu v1 (ny h2 hE) (ny h3 hE) hK) (by simp[execOp,hop])
    ·cases hc
   ·rename_i el hu;split at hc
    ·simp only[bj]at hc;obtain⟨bD,he,rfl⟩:=hc;have:mx=none:=hm rfl;subst this;refine eJ hnd (Z6 hR hu he v1 (ny h2 hE) (ny h3 hE) ?_) (by simp[execOp,hop]);simp only[bx.run]at hK;clear v1;generalize AX.ev e ax=z at hK |-;cases z<;>exact hK
    ·rename_i bm bh;simp only[bj]at hc;obtain⟨bD,he,rfl⟩:=hc;have b3:=ny h3 hE;have b4:=ny h4 hE;cases hi with
     | none=>cases h3
     | some hi =>
       cases mx with
       | none=>cases h4
       | some mx =>
         unfold afg at hK;split at hK
         ·refine eJ hnd (XX (vl:=lo.map a.eval) (vh:=a.eval hi) (vm:=a.eval mx) (lo:=al.map (AX.ev e)) hR hu he v1 (ny h2 hE) b3 b4 ?_) (by simp[execOp,hop]);clear h2 b3 b4 v1;cases al with
          | none=>exact hK
          | some al=>exact hK
         refine eJ hnd (Fz (vl:=lo.map a.eval) (vh:=a.eval hi) (vm:=a.eval mx) (lo:=al.map (AX.ev e)) hR hu he v1 (ny h2 hE) b3 b4 ?_) (by simp[execOp,hop]);clear h2 b3 b4 v1;cases al with
         | none=>exact hK
         | some al=>exact hK
    ·cases hc
   ·rename_i n el hu;split at hc
    ·rename_i hn;simp only[bj]at hc;obtain⟨bD,he,rfl⟩:=hc;have:mx=none:=hm (by simpa using hn);subst this;refine eJ hnd (aai (lo:=al.map (AX.ev e)) (hi:=ah.map (AX.ev e)) hR hu he v1 (ny h2 hE) (ny h3 hE) ?_) (by simp[execOp,hop]);clear h2 h3 v1;cases al<;>cases ah<;>exact hK
    ·cases hc
   ·cases hc
  ·cases hc
 case fieldAddr s x f =>
  split at hc
  ·rename_i fs ax hu h1;simp only[gQ]at hc;obtain⟨fi,hf,hc⟩:=hc;split at hc
   ·cases hc
   rename_i h0;cases hc;cases hi:P.info? fi.type with
   | none=>simp[hi]at h0
   | some i=>exact eJ hnd (UA hR hu hf hi (by simpa[hi]using h0) (c9 h1 hE) hK) (by simp[execOp,hop])
  ·cases hc
 case field s x f =>
  split at hc
  ·rename_i fs ax hu h1;simp only[gQ]at hc;obtain⟨fi,hf,hc⟩:=hc;split at hc
   ·rename_i ag i hA hi;split at hc
    ·cases hc;exact eJ hnd (Uz hR hu hf hA hi (c9 h1 hE) hK) (by simp[execOp,hop])
    ·cases hc
   ·cases hc
  ·cases hc
 case indexAddr t x y =>
  split at hc
  ·rename_i el ax ay hu h1 h2;simp only[bj]at hc;obtain⟨bD,he,rfl⟩:=hc;refine eJ hnd (RG hR hu he (c9 h1 hE) (c9 h2 hE) ?_) (by simp[execOp,hop]);simp only[bx.run]at hK;generalize AX.ev e ax=z at hK |-;generalize AX.ev e ay=z' at hK |-;cases z'<;>simp only at hK |-;cases z<;>exact hK
  ·rename_i n el ax ay hu h1 h2;simp only[bj]at hc;obtain⟨bD,he,rfl⟩:=hc;refine eJ hnd (RH hR hu he (c9 h1 hE) (c9 h2 hE) ?_) (by simp[execOp,hop]);simp only[bx.run]at hK;generalize AX.ev e ax=z at hK |-;generalize AX.ev e ay=z' at hK |-;cases z'<;>simp only at hK |-;cases z<;>exact hK
  ·cases hc
 case index t x y =>
  split at hc
  ·rename_i ax ay hu h1 h2;cases hc;exact eJ hnd (XK hR hu (c9 h1 hE) (c9 h2 hE) hK) (by simp[execOp,hop])
  ·rename_i n el ax ay hu h1 h2;simp only[bj]at hc;obtain⟨bD,he,rfl⟩:=hc;exact eJ hnd (XL hR hu he (c9 h1 hE) (c9 h2 hE) hK) (by simp[execOp,hop])
  ·cases hc
 case extract x i =>
  simp only[bj]at hc;obtain⟨ax,h1,rfl⟩:=hc;exact eJ hnd (Qt hR (c9 h1 hE) hK) (by simp[execOp,hop])
 case makeSlice t l c =>
  split at hc
  ·rename_i el al ac hu h1 h2;split at hc
   ·rename_i bD z he hz;cases hc;exact eJ hnd (Qu hR hu he hz (c9 h1 hE) (c9 h2 hE) hK) (by simp[execOp,hop])
   ·cases hc
  ·cases hc
 case range t x =>
  split at hc
  ·rename_i ht;simp only[bj]at hc;obtain⟨ax,h1,rfl⟩:=hc;have hv:=c9 h1 hE;simp only[bx.run]at hK;generalize AX.ev e ax=z at hv hK;generalize fy:a.eval x=xv at hv;cases hv<;>simp only at hK;rename_i s;obtain⟨r1,r2⟩:=hR.tT (.stringIter ⟨s.toArray⟩ 0) (.jA s 0) 1 0 ⟨by simp[aN.push],w.heap.size,by simp[aN.push],heap_alloc_new w _⟩;refine oJ hnd (v:= .pointer (some ⟨w.heap.size,0,none⟩)) (w':=w.alloc (.stringIter ⟨s.toArray⟩ 0)) ?_ ⟨_,_,_,_,rfl,r1,r2,.ref _ _ _ ⟨by simp[aN.push,hR.len],_,rfl,fun _=>⟨by simp[aN.push,hR.len],rfl⟩⟩,hK⟩;simp[execOp,hop,fy,Instr.range,bn ht,newObj,Sem.run]
  ·cases hc
 case next x b =>
  split at hc
  ·rename_i hb;simp only[bj]at hc;obtain⟨ax,h1,rfl⟩:=hc;have hv:=c9 h1 hE;simp only[bx.run]at hK;generalize AX.ev e ax=z at hv hK;split at hK
   ·split at hK
    ·rename_i l _ s pos hl;generalize fy:a.eval x=xv at hv;cases hv with
     | ref _ _ _ hO =>
       obtain⟨_,A,rfl,h2⟩:=hO;obtain⟨mF,bb,uo,iA⟩:=hR.ok l _ hl;obtain⟨h3,h4⟩:=h2 mF;rw[uo]at h3;cases h3;have hsz:(⟨s.toArray⟩:ByteArray).size=s.length:=rfl;split at hK
       ·rename_i hlt
        have hup:=hR.update (o':= .jA s (pos+(Utf8.decode ⟨s.toArray⟩ pos).2)) (w':= { w with heap:=w.heap.setIfInBounds A.block (.stringIter ⟨s.toArray⟩ (pos+(Utf8.decode ⟨s.toArray⟩ pos).2)) }) hl rfl uo
         aQ rfl rfl rfl (fun c hc=>by simp[Array.getElem?_setIfInBounds,Ne.symm hc]) (fun _=>⟨mF,_,uo,by have:=(fq.1 iA).1;simp[this]⟩)
        refine oJ hnd ?_ ⟨_,g,_,_,rfl,hup.1,hup.2,.bU _ #[.bool true,.int .i64 pos,.int .i32 (Utf8.decode ⟨s.toArray⟩ pos).1] rfl (fun i hi=>?_),hK⟩
        ·rw[h4]at fy;have acR:pos<(⟨s.toArray⟩:ByteArray).size:=hlt;simp only[execOp,hop,fy,Instr.next,getObj,setObj,Sem.run_bind,Sem.run,iA,Result.andThen,hb,acR,if_true];have:=(fq.1 iA).1;simp[this,goInt]
        match i,hi with
        | 0,_=>exact .bool true
        | 1,_=>exact .int _ _
        | 2,_=>exact .int _ _
       rename_i hlt;refine oJ hnd (v:= .tuple #[.bool false]) (w':=w) ?_ ⟨_,g,_,_,rfl,hR,.refl _ _ _,.bU _ _ rfl (fun i hi=>?_),hK⟩
       ·rw[h4]at fy;have acR:¬ pos<(⟨s.toArray⟩:ByteArray).size:=hlt;simp only[execOp,hop,fy,Instr.next,getObj,setObj,Sem.run_bind,Sem.run,iA,Result.andThen,hb,acR,if_false];rfl
       match i,hi with
       | 0,_=>exact .bool false
    exact hK.elim
   exact hK.elim
  ·cases hc
 case makeMap t r =>
  cases r with
  | some r=>cases hc
  | none =>
    cases hc;exact eJ hnd (UG (t:=t) hR hK) (by simp[execOp,hop])
 case lookup t x k ok =>
  split at hc
  ·rename_i key elem ax ak ht h1 h2;split at hc
   ·rename_i kd z hk hz;cases hc;obtain⟨d,hd,hkk⟩:=gQ.1 hk;refine eJ hnd (XT (ok:=ok) hR ht hd (M_ hkk) hz (c9 h1 hE) (c9 h2 hE) ?_) (by simp[execOp,hop]);simp only[bx.run,bB,de]at hK;generalize AX.ev e ax=z at hK |-;cases z<;>exact hK
   ·cases hc
  ·cases hc
 case mapUpdate t m k v =>
  split at hc
  ·rename_i key elem am ak av ht h1 h2 h3;split at hc
   ·rename_i kd hk;cases hc;obtain⟨d,hd,hkk⟩:=gQ.1 hk;exact OV hnd hR ht hd (M_ hkk) (c9 h1 hE) (c9 h2 hE) (c9 h3 hE) (by simp[execOp,hop]) hK
   ·cases hc
  ·cases hc
 case insert t m k v =>
  split at hc
  ·rename_i key elem am ak av ht h1 h2 h3;split at hc
   ·rename_i kd hk;cases hc;obtain⟨d,hd,hkk⟩:=gQ.1 hk;exact OV hnd hR ht hd (M_ hkk) (c9 h1 hE) (c9 h2 hE) (c9 h3 hE) (by simp[execOp,hop]) hK
   ·cases hc
  ·cases hc
 case typeAssert x xt T ok =>
  split at hc
  ·cases hc
  ·cases hc
  rename_i d hd hu;split at hc
  ·rename_i ax z h1 hz;cases hc;exact eJ hnd (aak (xt:=xt) hR hu (fun l e=>hd l e) hz (c9 h1 hE) hK) (by simp[execOp,hop])
  ·cases hc
 case panic x =>
  simp only[bj]at hc;obtain⟨ax,h1,rfl⟩:=hc;have v1:=c9 h1 hE;simp only[bx.run]at hK;generalize AX.ev e ax=z at v1 hK;generalize fy:a.eval x=xv at v1;cases v1<;>simp only at hK;rename_i t b v h;refine qD hnd ?_;have:(execOp a.eval o).run P w = .halt (.panic (.iface t v)) w:=by simp[execOp,hop,fy,Instr.panic]
  rw[this];exact⟨rfl,.iface t v,g,.kZ t b,σ,rfl,hR,.refl _ _ _,.kZ t b v h,hK⟩
 case call c =>
  obtain⟨callee,args,ats⟩:=c;simp only at hc;cases callee with
  | invoke r m =>
    simp only at hc;cases hc
  | value f =>
    simp only at hc;split at hc
    ·rename_i gf ax h0 h2;cases hc;obtain⟨⟨fn,hf,hn,hb,qg,mJ⟩,hK⟩:=hK
     have hfg:f = .func gf:=by
      cases f with
      | func f =>
        simp only[aff]at h0;split at h0
        ·split at h0
         ·cases h0;rfl
         ·cases h0
        ·cases h0
      | _=>cases h0
     subst hfg
     have hargs:∃ x0,args = #[x0]/\cX nt x0=some ax:=by
      cases hl:args.toList with
      | nil=>rw[hl]at h2;cases h2
      | cons x0 r =>
        rw[hl]at h2;simp only[Fk]at h2;split at h2
        ·rename_i a1 az1 e1 e2;cases h2;cases r with
         | nil=>exact⟨x0,by rw[<-fW (xs:=args),hl],e1⟩
         | cons x1 r =>
           simp only[Fk]at e2;split at e2<;>cases e2
        ·cases h2
     obtain⟨x0,rfl,hx0⟩:=hargs;have v1:=c9 hx0 hE;refine wX hnd hR (v:=a.eval x0) ?_ v1 hK;simp only[execOp,hop,resolve,Sem.run_bind,Act.eval,Deferred.ofValue,Sem.run_pure,Result.andThen_ok,invoke];simp only[List.map_toArray,bB,de,List.append_toArray,bS,bZ];rw[run_callFunc_extern hf hn hb qg mJ];rfl
    ·rename_i af az h1 h2 _
     have key:∃ q,(bx.call q af az).run P e σ K Kp:=by
      cases hc;exact acP hK
     clear hc hK;obtain⟨qq,hK⟩:=key;have v1:=c9 h1 hE;simp only[bx.run]at hK;generalize AX.ev e af=z at v1 hK;generalize fy:a.eval f=fv at v1;by_cases Li:∃ l,z = .qV l
     ·obtain⟨l,rfl⟩:=Li;cases v1;rename_i hy;obtain⟨hl,b,rfl,hb⟩:=hy;obtain⟨a1,a2⟩:=vP h2 hE;simp only at hK
      have both:∀ q:Bool,(if q then False else wQ P l (az.map (AX.ev e)) σ fun
       | .ret r,σ'=>K r σ'
       | .panic r,σ'=>Kp r σ')->o.wpIn (WF ro) wn P a w (Et g w σ a o.dst K) (Iv g w σ a Kp):=fun q hK=>by
       cases q with
       | true=>exact(by simpa using hK:False).elim
       | false =>
       simp only[aP,if_false]at hK;refine acQ hnd (b:=b) (vs:=args.map a.eval) ?_ hR hb a1 a2 hK;simp only[execOp,hop,resolve,Sem.run_bind,fy,Deferred.ofValue,Sem.run_pure,Result.andThen_ok,invoke];simp
      exact both _ hK
     cases v1<;>(try exact hK.elim)
     case qV=>exact absurd ⟨_,rfl⟩ Li
     rename_i fn first cap first' cap' hl hl' hh La
     cases fn<;>(try exact hK.elim);rename_i n;simp only at hK;obtain⟨a1,a2⟩:=vP h2 hE;obtain⟨b1,b2⟩:=Dh hl hh a1 a2;obtain⟨c1,c2⟩:=Dh b1 b2 hl' La
     have hex:Has P n->(execOp a.eval o).run P w = .ok (.enter n (first'++args.map a.eval++cap')) w:=fun hb=>by
      simp only[execOp,hop,resolve,Sem.run_bind,fy,Deferred.ofValue,Sem.run_pure,Result.andThen_ok,invoke,FA hb]
     have both:∀ q:Bool,(if q then ∃ r,(∀ τ,kq P n (first++az.map (AX.ev e)++cap) (σ++ τ) r)/\K r σ else cE P n (first++az.map (AX.ev e)++cap) σ fun
      | .ret r,σ'=>K r σ'
      | .panic r,σ'=>Kp r σ')->o.wpIn (WF ro) wn P a w (Et g w σ a o.dst K) (Iv g w σ a Kp):=fun q hK=>by
      cases q with
      | true =>
        simp only[if_true]at hK;obtain⟨r,hq,hk⟩:=hK;have hq:=hq [];rw[bZ]at hq;exact Wa hnd (hex hq.1) hR c1 c2 (hq.mono fun out σ' ⟨h1,h2⟩=>by subst h1;subst h2;exact hk)
      | false =>
        simp only[aP,if_false]at hK;exact Wa hnd (hex hK.1) hR c1 c2 hK
     exact both _ hK
    ·cases hc
  | builtin b =>
    have hs:∀ {s:Sem Value} {K:AV->ai->Prop},bX P s g w σ K->builtin b ats o.type (args.map fun | .const _=>true|_=>false) (args.map a.eval)=(do pure (.value (← s)):Sem Next)->o.wpIn (WF ro) wn P a w (Et g w σ a o.dst K) (Iv g w σ a Kp):=fun hh hb=>by
     refine eJ hnd hh ?_;simp only[execOp,hop,resolve];exact hb
    cases b<;>simp only at hc<;>(try (cases hc;done))
    case len =>
     split at hc
     ·rename_i t x ht hx;have hargs:args = #[x]:=by rw[<-fW (xs:=args),hx]
      subst hargs;split at hc
      ·rename_i hu;simp only[bj]at hc;obtain⟨ax,h1,rfl⟩:=hc;refine hs (s:=Builtin.len_ ats o.type #[a.eval x]) (XM hR ht hu (c9 h1 hE) ?_) (by simp[builtin]);simp only[bx.run]at hK;generalize AX.ev e ax=z at hK |-;cases z<;>exact hK
      ·rename_i el hu;simp only[bj]at hc;obtain⟨ax,h1,rfl⟩:=hc;refine hs (s:=Builtin.len_ ats o.type #[a.eval x]) (XO hR ht hu (c9 h1 hE) ?_) (by simp[builtin]);simp only[bx.run]at hK;generalize AX.ev e ax=z at hK |-;cases z<;>exact hK
      ·cases hc
     ·cases hc
    case copy =>
     split at hc
     ·rename_i t x y ht hx;have hargs:args = #[x,y]:=by rw[<-fW (xs:=args),hx]
      subst hargs;split at hc
      ·rename_i el ax ay hu h1 h2;simp only[bj]at hc;obtain⟨el2,he,rfl⟩:=hc;exact hs (s:=Builtin.copy_ ats o.type #[a.eval x,a.eval y]) (XU hR ht hu he (c9 h1 hE) (c9 h2 hE) hK) (by simp[builtin])
      ·cases hc
     ·cases hc
    case append =>
     split at hc
     ·rename_i t u x y ht hu hx;have hargs:args = #[x,y]:=by rw[<-fW (xs:=args),hx]
      subst hargs;split at hc
      ·rename_i el bD ax ay Wb Wc h1 h2;simp only[bj]at hc;obtain⟨el2,he,rfl⟩:=hc;split at hK
       ·exact hs (s:=Builtin.append_ ats o.type #[a.eval x,a.eval y]) (OS hR ht hu Wb Wc aQ he (c9 h1 hE) (c9 h2 hE) hK) (by simp[builtin])
       split at hK
       ·exact hs (s:=Builtin.append_ ats o.type #[a.eval x,a.eval y]) (XW hR ht hu Wb Wc aQ he (c9 h1 hE) (c9 h2 hE) hK) (by simp[builtin])
       exact hs (s:=Builtin.append_ ats o.type #[a.eval x,a.eval y]) (Fv hR ht hu Wb Wc aQ he (c9 h1 hE) (c9 h2 hE) (Fl _ _) hK) (by simp[builtin])
      ·rename_i el ax ay Wb Wc h1 h2;simp only[bj]at hc;obtain⟨el2,he,rfl⟩:=hc;split at hK
       ·exact hs (s:=Builtin.append_ ats o.type #[a.eval x,a.eval y]) (OS hR ht hu Wb Wc aQ he (c9 h1 hE) (c9 h2 hE) hK) (by simp[builtin])
       exact hs (s:=Builtin.append_ ats o.type #[a.eval x,a.eval y]) (Fv hR ht hu Wb Wc aQ he (c9 h1 hE) (c9 h2 hE) (Fl _ _) hK) (by simp[builtin])
      ·cases hc
     ·cases hc
    case unsafeSliceData =>
     split at hc
     ·rename_i t x ht hx;have hargs:args = #[x]:=by rw[<-fW (xs:=args),hx]
      subst hargs;split at hc
      ·rename_i el ax hu h1;simp only[bj]at hc;obtain⟨el2,he,rfl⟩:=hc;exact hs (s:=Builtin.unsafeSliceData_ ats o.type #[a.eval x]) (aae hR (c9 h1 hE) hK) (by simp[builtin])
      ·cases hc
     ·cases hc
    case unsafeString =>
     split at hc
     ·rename_i t t2 x y ht hx;have hargs:args = #[x,y]:=by rw[<-fW (xs:=args),hx]
      have alA:ats = #[t,t2]:=by rw[<-fW (xs:=ats),ht]
      subst hargs;subst alA;split at hc
      ·rename_i e1 ax ay hu h1 h2;split at hc
       ·rename_i hce;cases hc;exact hs (s:=Builtin.unsafeString_ #[t,t2] o.type #[a.eval x,a.eval y]) (XS hR hu (by simpa using hce) (c9 h1 hE) (c9 h2 hE) hK) (by simp[builtin])
       ·cases hc
      ·cases hc
     ·cases hc
    case min =>
     split at hc
     ·rename_i ax az h1;cases hc;obtain⟨a1,a2⟩:=vP h1 hE;cases hl:args.toList with
      | nil=>rw[hl]at h1;cases h1
      | cons x xs =>
        have hargs:args=(x::xs).toArray:=by rw[<-fW (xs:=args),hl]
        subst hargs;have v0:=a2 0 aQ;refine hs (s:=Builtin.min_ ats o.type (a.eval x::xs.map a.eval).toArray) (Z7 (x:=ax.ev e) (xs:=az.map (AX.ev e)) hR (by simpa using v0) (by simpa using a1) (fun i hi=>by simpa using a2 (i+1) (by simpa using hi)) hK) (by simp[builtin])
     ·cases hc
    case max =>
     split at hc
     ·rename_i ax az h1;cases hc;obtain⟨a1,a2⟩:=vP h1 hE;cases hl:args.toList with
      | nil=>rw[hl]at h1;cases h1
      | cons x xs =>
        have hargs:args=(x::xs).toArray:=by rw[<-fW (xs:=args),hl]
        subst hargs;have v0:=a2 0 aQ;refine hs (s:=Builtin.max_ ats o.type (a.eval x::xs.map a.eval).toArray) (Z8 (x:=ax.ev e) (xs:=az.map (AX.ev e)) hR (by simpa using v0) (by simpa using a1) (fun i hi=>by simpa using a2 (i+1) (by simpa using hi)) hK) (by simp[builtin])
     ·cases hc
end
inductive ajO where
 | normal
 | exit (id:Nat)
 | goto (l:Nat)
 | ret
 | panic (v:AV)
structure c_ where
 op:bx
 dst:Option Nat
 guard:Option (Nat × Bool)
abbrev AQ:=ajO->Env->ai->Prop
def fD(P:Program)(Q:AQ): List c_->Env->ai->Prop
 | [],e,σ=>Q .normal e σ
 |⟨o,d,none⟩::r,e,σ=>o.run P e σ (fun v σ'=>fD P Q r (eV e d v) σ') (fun v σ'=>Q (.panic v) e σ')
 | ⟨o, d, some (k, b)⟩ :: r, e, σ => match e k with
   | .bool t => (t = b -> o.run P (eV e (some k) (.bool b)) σ (fun v σ' => fD P Q r (eV (eV e (some k) (.bool b)) d v) σ') (fun v σ' => Q (.panic v) (eV e (some k) (.bool b)) σ')) /\
      (t = !b->fD P Q r (eV (eV e (some k) (.bool (!b))) d (.bU [])) σ)
   | .bU []=>fD P Q r (eV e d (.bU [])) σ
   | _=>False
inductive dL where
 | skip
 | region (ops:List c_)
 | draw (ops:List c_) (kp:List (AX × AX))
 | seq (a b:dL)
 | cond (c:AX) (thn els:dL)
 | block (id:Nat) (body:dL)
 | loop (body:dL)
 | exit (id:Nat)
 | ret
 | scope (l:Nat) (body rest:dL)
 | label (l:Nat)
 | goto (l:Nat)
 | nM (f:AX) (nt:Nat) (ps:List Nat) (ca cb:Code) (asg body:dL)
 | stop
def dL.nE: dL->Bool
 | .seq a b=>a.nE || b.nE
 | .cond _ a b=>a.nE || b.nE
 | .block _ a=>a.nE
 | .loop a=>a.nE
 | .scope _ a _=>a.nE
 | .nM ..=>true
 | _=>false
def BX(ac:dL)(B:Nat->Prop)(w:World): Prop:=ac.nE=true-> ∀ D,w.heap.size<=D->B D
def BX.size{ac:dL}{B:Nat->Prop}{w w':World}(h:BX ac B w)(hs:w.heap.size<=w'.heap.size): BX ac B w':=fun hr D hD=>h hr D (cR hs hD)
def BX.sub{ac ad:dL}{B:Nat->Prop}{w:World}(h:BX ac B w)(hs:ad.nE=true->ac.nE=true): BX ad B w:=fun hr=>h (hs hr)
def BX.at(ac:dL)(w:World): BX ac (fun D=>w.heap.size<=D) w:=fun _ _ h=>h
def mK(K:Env->ai->Prop)(Q:AQ): AQ
 | .normal,e,σ=>K e σ
 | x,e,σ=>Q x e σ
def uI(id:Nat)(Q:AQ): AQ
 | .exit i,e,σ=>if i=id then Q .normal e σ else Q (.exit i) e σ
 | x,e,σ=>Q x e σ
def q_: List (AX × AX)->Env->Prop
 | [],_=>True
 |(x,y)::r,e=>sP (x.ev e) (y.ev e)/\q_ r e
def aam: AX × AX->Bool
 |(.c .iS,.c .iS)=>true
 | _=>false
def HC(kp:List (AX × AX)): Bool:=kp.any aam
def jI(kp:List (AX × AX))(Q:AQ): AQ
 | .normal,e,σ=>q_ kp e/\Q .normal e σ
 | .panic v,e,σ=>if HC kp then ∀ e',Q (.panic v) e' σ else Q (.panic v) e σ
 | x,e,σ=>Q x e σ
def acS{kp:List (AX × AX)}{Q:AQ}: ∀ {ex e σ},jI kp Q ex e σ->Q ex e σ:=fun {ex e σ} h=>by
 cases ex<;>first|exact h.2|exact h|skip
 simp only[jI]at h;split at h
 ·exact h e
 exact h
def aan{kp:List (AX × AX)}{Q:AQ}(h:HC kp=true){v:AV}{e e':Env}{σ : ai}: jI kp Q (.panic v) e σ->jI kp Q (.panic v) e' σ:=by
 simp only[jI,h,if_true];exact id
def afj(body:AQ->Env->ai->Prop)(Q:AQ)(e:Env)(σ : ai): Prop :=
 ∃(I:Nat->Env->ai->Prop),(∃ n,I n e σ)/\ ∀ n e σ,I n e σ->body (mK (fun e' σ'=> ∃ m,m<n/\I m e' σ') Q) e σ
def uJ(l:Nat)(J:Env->ai->Prop)(Q:AQ): AQ
 | .goto l',e,σ=>l'=l/\J e σ
 | x,e,σ=>Q x e σ
def aao(l:Nat)(body rest:AQ->Env->ai->Prop)(Q:AQ)(e:Env)(σ : ai): Prop :=
 ∃(J:Nat->Env->ai->Prop),body (uJ l (fun e σ=> ∃ n,J n e σ) Q) e σ/\ ∀ n e σ,J n e σ->rest (uJ l (fun e' σ'=> ∃ m,m<n/\J m e' σ') Q) e σ
def Wd: List Nat->List AV->Env->Env
 | p::ps,a::az,e=>Wd ps az (eV e (some p) a)
 | _,_,e=>e
def alB(l:Nat)(o o':aY)(B:Env->ai->Prop): AQ
 | .normal,e,σ=>σ[l]? = some o/\B e (σ.set l o')
 | _,_,_=>False
def alC(l:Nat)(o:LoopState->Option Code->aY)(R:Out->ai->Prop): AQ
 | .normal,_,σ=>σ[l]? = some (o .busy none)/\R (.ret (.bool true)) (σ.set l (o .ready none))
 | .ret,_,σ=>σ[l]? = some (o .busy none)/\R (.ret (.bool false)) (σ.set l (o .done (some .ret)))
 | .exit i,_,σ=>σ[l]? = some (o .busy none)/\R (.ret (.bool false)) (σ.set l (o .done (some (.exit i))))
 | .goto i,_,σ=>σ[l]? = some (o .busy none)/\R (.ret (.bool false)) (σ.set l (o .done (some (.goto i))))
 | .panic _,_,_=>False
def alD(l:Nat)(o:LoopState->Option Code->aY)(Q:AQ)(e:Env): Out->ai->Prop
 | .ret _, σ => ∃ st pe, σ[l]? = some (o st pe) /\ st ≠ .busy /\ match pe with
    | none=>Q .normal e (σ.set l .dead)
    | some .ret=>Q .ret e (σ.set l .dead)
    | some (.exit i)=>Q (.exit i) e (σ.set l .dead)
    | some (.goto i)=>Q (.goto i) e (σ.set l .dead)
    | _=>False
 | .panic v,σ=>Q (.panic v) e σ
def XZ(P:Program)(nt:Nat)(ps:List Nat)(ca cb:Code)(f:AV)(asg body:AQ->Env->ai->Prop)(Q:AQ)(e:Env)(σ : ai): Prop :=
 match f with
 | .fn (.func n) first cap => ∀ o : LoopState -> Option Code -> aY, (∀ st pe, o st pe = .loop nt e ps.toArray ca cb st pe) ->
    (∀ σ' args R, σ'[σ.length]? = some (o .ready none) -> args.length = ps.length ->
      asg (alB σ.length (o .ready none) (o .busy none) (body (alC σ.length o R))) (Wd ps args e) σ'->wQ P σ.length args σ' R) ->
    cE P n (first++[.qV σ.length]++cap) (σ++[o .ready none]) (alD σ.length o Q e)
 | _=>False
def jD(P:Program): dL->AQ->Env->ai->Prop
 | .skip,Q,e,σ=>Q .normal e σ
 | .region ops,Q,e,σ=>fD P Q ops e σ
 | .draw ops kp,Q,e,σ=>fD P (jI kp Q) ops e σ
 | .seq a b,Q,e,σ=>jD P a (mK (jD P b Q) Q) e σ
 | .cond c a b, Q, e, σ => match c.ev e with
   | .bool t=>(t=true->jD P a Q e σ)/\(t=false->jD P b Q e σ)
   | _=>False
 | .block id c,Q,e,σ=>jD P c (uI id Q) e σ
 | .loop c,Q,e,σ=>afj (jD P c) Q e σ
 | .exit id,Q,e,σ=>Q (.exit id) e σ
 | .ret,Q,e,σ=>Q .ret e σ
 | .scope l c r,Q,e,σ=>aao l (jD P c) (jD P r) Q e σ
 | .label _,Q,e,σ=>Q .normal e σ
 | .goto l,Q,e,σ=>Q (.goto l) e σ
 | .nM f nt ps ca cb asg body,Q,e,σ=>XZ P nt ps ca cb (f.ev e) (jD P asg) (jD P body) Q e σ
 | .stop,_,_,_=>False
structure y8 (B:Nat->Prop) (σ : ai) (g:aN) (w:World) (ds:List Deferred):Prop where
 nodup:ds.Nodup
 mark:∀ d ∈ ds,∃ D,d = { target:= .collected D,args:= #[] }/\B D/\w.heap[D]? = some (.deferred (some []))/\¬ mG σ g D/\¬ g.fN D
def y8.step{B:Nat->Prop}{σ σ':ai}{g g':aN}{w w':World}{ds:List Deferred}(h:y8 B σ g w ds)(fy:gE σ g w σ' g' w'): y8 B σ' g' w' ds:=by
 refine⟨h.nodup,fun d hd=>?_⟩;obtain⟨D,h1,h2,h3,h4,h5⟩:=h.mark d hd;have hlt:D<w.heap.size:=(fq.1 h3).1;exact⟨D,h1,h2,(fy.frame D hlt h4).trans h3,fun ht=>h4 (fy.BS D hlt ht),fun hi=>(fy.qW D hlt hi).elim h5 h4⟩
def lu(X:List Deferred)(B:Nat->Prop)(σ : ai)(g:aN)(w:World)(ds:List Deferred): Prop:= ∃ ms,ds=ms++X/\y8 B σ g w ms
def lu.nil(X:List Deferred)(B:Nat->Prop)(σ : ai)(g:aN)(w:World): lu X B σ g w X:=⟨[],rfl,List.nodup_nil,fun _ h=>by cases h⟩
def lu.step{X:List Deferred}{B:Nat->Prop}{σ σ':ai}{g g':aN}{w w':World}{ds:List Deferred}(h:lu X B σ g w ds)(fy:gE σ g w σ' g' w'): lu X B σ' g' w' ds :=
 let ⟨ms,h1,h2⟩:=h;⟨ms,h1,h2.step fy⟩
def QR(X:List Deferred)(nt:Nat)(B:Nat->Prop)(g:aN)(w:World)(σ : ai)(Q:AQ)(ex:Exit)(a:Act)(w':World): Prop :=
 ∃ g' e' σ', lu X B σ' g' w' a.defers /\ Rel g' w' σ' /\ iJ nt g' w' e' a.tmps /\ gE σ g w σ' g' w' /\
   match ex with
   | .normal=>Q .normal e' σ'
   | .exit id=>Q (.exit id) e' σ'
   | .goto l=>Q (.goto l) e' σ'
   | .ret=>Q .ret e' σ'
   | .panic chain=> ∃ v av,chain=[{ v,recovered:=false }]/\VR g' w' av v/\Q (.panic av) e' σ'
   | .outgrown=>False
section
variable {P:Program}
def Oper.Jw {F : Fence} {wn : Nat} {o : Oper} {a : Act} {w : World} {K K' : Act -> World -> Prop} {Q Q' : Exit -> Act -> World -> Prop} (h : ∀ a w, K a w -> K' a w) (hq : ∀ e a w, Q e a w -> Q' e a w)
    (hh:o.wpIn F wn P a w K Q):o.wpIn F wn P a w K' Q':=by
 unfold Oper.wpIn at *;refine⟨hh.1,?_⟩
 replace hh:=hh.2
 generalize (o.semAt F.round a.eval).run P w=r at *;cases r with
 | ok n w' =>
   cases n<;>simp only[Oper.uponIn]at hh |- <;>
    first
     | exact h _ _ hh
     | exact ⟨hh.1, CallsIn.mono hh.2 (fun e w'' he => by
        cases e<;>first
         | exact h _ _ he
         | exact hq _ _ _ he
         |(obtain⟨a0,w0,he⟩:=he;exact⟨a0,w0,hq _ _ _ he⟩))⟩
     | exact ⟨hh.1, RoundIn.mono hh.2 (fun e w'' he => by
        cases e<;>first
         | exact h _ _ he
         | exact hq _ _ _ he
         |(obtain⟨a0,w0,he⟩:=he;exact⟨a0,w0,hq _ _ _ he⟩))⟩
     | exact⟨hh.1,RowsIn.mono hh.2 (fun _ _ he=>h _ _ he)⟩
 | halt x w' =>
   cases x<;>simp only[Oper.uponIn]at hh |-<;>first
    | exact hq _ _ _ hh
    | exact hh
def put_defers(a:Act)(d:Option Tmp)(v:Value): (a.put d v).defers=a.defers:=by cases d<;>rfl
def OW {nt : Nat} {g : aN} {w : World} {e : Env} {a : Act} {ops : Array Oper} {o : Oper} {k : Nat} {j : Nat} {b : Bool} (hE : iJ nt g w e a.tmps) (hg : o.guard = some (j, b)) (hd : (ops[j]?).bind (·.dst) = some k) (hk : k < nt) :
    (∀ t,e k = .bool t->Region.wanted o (yielded ops a.tmps)=(t==b))/\(e k = .bU []->Region.wanted o (yielded ops a.tmps)=false):=by
 have hv:=hE.rel k hk;have hlt:k<a.tmps.size:=by rw[hE.size];exact hk
 have qL:a.tmps[k]? = some (a.tmps.getD k Go.undef):=by simp[hlt]
 constructor
 ·intro t ht;rw[ht]at hv;generalize a.tmps.getD k Go.undef=v at hv qL;cases hv;simp only[Region.wanted,hg,yielded,hd,Option.bind_some,qL];cases t<;>cases b<;>rfl
 intro ht;rw[ht]at hv;generalize a.tmps.getD k Go.undef=v at hv qL;cases hv;simp[Region.wanted,hg,yielded,hd,qL]
def iJ.congr{nt:Nat}{g:aN}{w:World}{e:Env}{tmps:Array Value}(h:iJ nt g w e tmps){k:Nat}{x:AV}(hx:e k=x): iJ nt g w (eV e (some k) x) tmps :=
 ⟨h.size, fun t ht => by
   simp only[eV];split
   ·rename_i e1;subst e1;subst hx;exact h.rel _ ht
   ·exact h.rel t ht⟩
def lV(P:Program)(nt:Nat)(h:Hints)(dr:Bool)(all:Array Oper): List Oper->Option (List c_)
 | []=>some []
 | o :: r => match wU P nt h dr o, lV P nt h dr all r with
   | some ao, some gs => match o.guard with
     | none=>some (⟨ao,o.dst,none⟩::gs)
     | some (j, b) => match (all[j]?).bind (·.dst) with
       | some k=>if k<nt then some (⟨ao,o.dst,some (k,b)⟩::gs)else none
       | none=>none
   | _,_=>none
def OX {X : List Deferred} {ro : Option Nat} {wn : Nat} {nt : Nat} {h : Hints} {dr : Bool} {ops : Array Oper} {B : Nat -> Prop} {Q : AQ} {g0 : aN} {w0 : World} {nN : ai} : ∀ (l : List Oper) (i : Nat) (gs : List c_) (g : aN) (w : World) (σ : ai) (e : Env) (a : Act),
    lV P nt h dr ops l=some gs->(∀ j,j<l.length->ops[i+j]? = l[j]?)->fD P Q gs e σ->Rel g w σ->iJ nt g w e a.tmps->lu X B σ g w a.defers->gE nN g0 w0 σ g w ->
    Go.wpOpsIn (WF ro) wn P ops (QR X nt B g0 w0 nN Q) (List.range' i l.length) a w:=by
 intro l
 induction l with
 | nil =>
   intro i gs g w σ e a hc _ hw hR hE hd fy;cases hc;exact⟨g,e,σ,hd,hR,hE,fy,hw⟩
 | cons o l ih =>
   intro i gs g w σ e a hc hidx hw hR hE hd fy;have h0:ops[i]? = some o:=by simpa using hidx 0 aQ
   have Rf:∀ j,j<l.length->ops[i+1+j]? = l[j]?:=fun j hj=>by
    have:=hidx (j+1) (by simpa using hj);simpa[dG,Nat.add_comm 1 j]using this
   simp only[lV]at hc;split at hc
   ·rename_i ao gs' h1 h2
    have go:∀ (e1:Env),iJ nt g w e1 a.tmps->ao.run P e1 σ (fun v σ'=>fD P Q gs' (eV e1 o.dst v) σ') (fun v σ'=>Q (.panic v) e1 σ') ->
     o.wpIn (WF ro) wn P a w (Go.wpOpsIn (WF ro) wn P ops (QR X nt B g0 w0 nN Q) (List.range' (i+1) l.length)) (QR X nt B g0 w0 nN Q):=fun e1 y9 hrun=>by
     refine Oper.Jw ?_ ?_ (RP h1 hR y9 hrun)
     ·rintro a' w' ⟨v,g',av,σ',rfl,r1,r2,r3,r4⟩;exact ih (i+1) gs' g' w' σ' (eV e1 o.dst av) (a.put o.dst v) h2 Rf r4 r1 ((y9.mono r2.mono).put o.dst r3) (by rw[put_defers];exact hd.step r2) (fy.trans r2)
     rintro ex a' w' ⟨rfl,v,g',av,σ',rfl,r1,r2,r3,r4⟩;exact⟨g',e1,σ',hd.step r2,r1,y9.mono r2.mono,fy.trans r2,v,av,rfl,r3,r4⟩
    have pass:∀ (e1:Env),iJ nt g w e1 a.tmps->fD P Q gs' (eV e1 o.dst (.bU [])) σ->Go.wpOpsIn (WF ro) wn P ops (QR X nt B g0 w0 nN Q) (List.range' (i+1) l.length) (a.put o.dst Go.undef) w:=fun e1 y9 hrun =>
     ih (i+1) gs' g w σ (eV e1 o.dst (.bU [])) (a.put o.dst Go.undef) h2 Rf hrun hR (y9.put o.dst (.bU [] #[] rfl (fun i hi=>absurd hi (dm _)))) (by rw[put_defers];exact hd) fy
    rw[aO,List.range'_succ,wpOpsIn_cons];unfold wpOpIn;simp only[h0];split at hc
    ·rename_i hg;cases hc;have X0:Region.wanted o (yielded ops a.tmps)=true:=by simp[Region.wanted,hg]
     rw[au X0];exact go e hE hw
    rename_i j b hg;split at hc
    ·rename_i k hk;split at hc
     ·rename_i hlt;cases hc;obtain⟨w1,w2⟩:=OW (ops:=ops) hE hg hk hlt;simp only[fD]at hw;split at hw
      ·rename_i t ht;have hwn:=w1 t ht;by_cases htb:t=b
       ·subst htb;rw[hwn,au aQ];exact go _ (hE.congr ht) (hw.1 rfl)
       have:t = !b:=by cases t<;>cases b<;>simp_all
       rw[hwn,aj (by simpa using htb)];refine⟨fun _ _=>trivial,pass _ (hE.congr ?_) (hw.2 this)⟩;rw[ht,this]
      ·rename_i ht;rw[w2 ht,aj aQ];exact⟨fun _ _=>trivial,pass e hE hw⟩
      exact hw.elim
     ·cases hc
    ·cases hc
   ·cases hc
end
def ot{m:Nat}{l:List AV}(h:AV.uE m l=true)(i:Nat): (l.getD i .undef).nP m=true:=by
 induction l generalizing i with
 | nil=>simp[AV.nP]
 | cons a l ih =>
   simp only[AV.uE,aD]at h;cases i with
   | zero=>simpa using h.1
   | succ i=>simpa using ih h.2 i
def Jx{m:Nat}{a:AV}(h:a.nP m=true)(c:Nat): (a.cell c).nP m=true:=by
 cases a<;>first|exact h|exact ot (by simpa[AV.nP]using h) c
structure acT (m:Nat) (g g0:aN):Prop where
 fN:∀ b,g.fN b->g0.fN b
 n:g.n<=g0.n
 at_:∀ l,l≠m->g0.ver l=g.ver l/\g0.base l=g.base l/\g0.cap l=g.cap l/\g0.off l=g.off l
def VR.like{m:Nat}{g g0:aN}{w:World}(hL:acT m g g0){a:AV}{v:Value}(h:VR g w a v): a.nP m=true->VR g0 w a v:=by
 induction h with
 | undef v=>exact fun _=> .undef v
 | bool b=>exact fun _=> .bool b
 | int k n=>exact fun _=> .int k n
 | str s=>exact fun _=> .str s
 | agg cs vs hl hs _ ih=>exact fun hp=> .agg cs vs hl hs (fun i h=>ih i h (ot (by simpa[AV.nP]using hp) i))
 | bU cs vs hl _ ih=>exact fun hp=> .bU cs vs hl (fun i h=>ih i h (ot (by simpa[AV.nP]using hp) i))
 | aV=>exact fun _=> .aV
 | iT f el b cap hf=>exact fun _=> .iT f el b cap hf
 | aR f el xs b off cap hb hf hx ft hc _ ih =>
   intro hp;exact .aR f el xs b off cap (hL.fN b hb) hf hx ft hc (fun i c h1 h2=>ih i c h1 h2 (Jx (ot (by simpa[AV.nP]using hp) i) c))
 | own el l mm lo n v h =>
   intro hp;have hne:l≠m:=by simpa[AV.nP]using hp
   obtain⟨h1,h2,A,cap,h3,h4⟩:=h;obtain⟨e1,e2,e3,e4⟩:=hL.at_ l hne;exact .own el l mm lo n v ⟨di h1 hL.n,by rw[e1];exact h2,A,cap,h3,by rw[e1,e2,e3,e4];exact h4⟩
 | ref l off v h =>
   intro hp;have hne:l≠m:=by simpa[AV.nP]using hp
   obtain⟨⟨h1,h0⟩,A,h2,h3⟩:=h;obtain⟨e1,e2,_,_⟩:=hL.at_ l hne;exact .ref l off v ⟨⟨di h1 hL.n,by rw[e1];exact h0⟩,A,h2,by rw[e1,e2];exact h3⟩
 | fh el x off b o hb ft hc _ ih =>
   intro hp;exact .fh el x off b o (hL.fN b hb) ft hc (fun c h2=>ih c h2 (Jx (by simpa[AV.nP]using hp) c))
 | fG el l mm i off v h =>
   intro hp;have hne:l≠m:=by simpa[AV.nP]using hp
   obtain⟨h1,h2,A,h3,h4⟩:=h;obtain⟨e1,e2,_,e4⟩:=hL.at_ l hne;exact .fG el l mm i off v ⟨di h1 hL.n,by rw[e1];exact h2,A,h3,by rw[e1,e2,e4];exact h4⟩
 | gO=>exact fun _=> .gO
 | nQ=>exact fun _=> .nQ
 | jR=>exact fun _=> .jR
 | fn f first cap first' cap' hl hl' _ _ ih qN =>
   intro hp;simp only[AV.nP,aD]at hp;exact .fn f first cap first' cap' hl hl' (fun i h=>ih i h (ot hp.1 i)) (fun i h=>qN i h (ot hp.2 i))
 | kZ t a v _ ih=>exact fun hp=> .kZ t a v (ih (by simpa[AV.nP]using hp))
 | iS=>exact fun _=> .iS
 | nZ v h=>exact fun _=> .nZ v h
 | mp l v h =>
   intro hp;have hne:l≠m:=by simpa[AV.nP]using hp
   obtain⟨h1,b,h2,h3⟩:=h;obtain⟨e1,e2,_,_⟩:=hL.at_ l hne;exact .mp l v ⟨di h1 hL.n,b,h2,by rw[e1,e2];exact h3⟩
 | qV l v h =>
   intro hp;have hne:l≠m:=by simpa[AV.nP]using hp
   obtain⟨h1,b,h2,h3⟩:=h;obtain⟨e1,e2,_,_⟩:=hL.at_ l hne;exact .qV l v ⟨di h1 hL.n,b,h2,by rw[e1,e2];exact h3⟩
 | mg el p n A cap hn hc _ ih=>exact fun hp=> .mg el p n A cap hn hc (ih (by simpa[AV.nP]using hp))
def aY.Ok.like{m:Nat}{g g0:aN}{w:World}{l:Nat}{o:aY}(hL:acT m g g0)(hne:l≠m)(h:o.Ok g w l)(hn:o.nP m=true): o.Ok g0 w l:=by
 obtain⟨e1,e2,e3,e4⟩:=hL.at_ l hne;cases o with
 | bY T cs =>
   obtain⟨h1,hs,b,vs,h2,h3,h4,h5,h6⟩:=h;exact⟨e1.trans h1,hs,b,vs,e2.trans h2,h3,h4,fun i hi=>(h5 i hi).like hL (ot hn i),h6⟩
 | dn T el xs =>
   obtain⟨h1,hf,h2⟩:=h;refine⟨e1.trans h1,hf,?_⟩;rcases h2 with⟨h2,h3,h4⟩|⟨b,vs,h2,h3,h4,h5,h6,h7⟩
   ·exact .inl ⟨h2,e2.trans h3,e3.trans h4.1,e4.trans h4.2⟩
   exact .inr ⟨b,vs,e2.trans h2,h3,by rw[e3,e4];exact h4,by rw[e3];exact h5,fun i c hi hc=>by rw[e4];exact(h6 i c hi hc).like hL (Jx (ot hn i) c),by rw[e4];exact h7⟩
 | jA s pos =>
   obtain⟨h1,b,h2,h3⟩:=h;exact⟨e1.trans h1,b,e2.trans h2,h3⟩
 | map es =>
   obtain⟨h1,b,ms,clock,h2,h3,h4,h6,h5⟩:=h;refine⟨e1.trans h1,b,ms,clock,e2.trans h2,h3,h4,h6,fun i hi=>?_⟩;have:=bf.1 hn (es.getD i default) (by rw[aq,aG hi];exact dI hi);rw[aD]at this;exact⟨(h5 i hi).1.like hL this.1,(h5 i hi).2.like hL this.2⟩
 | loop nt e ps ca cb st pe =>
   obtain⟨h1,b,rec,h2,h3,h4,h5,h6,h7,h8,h9,h10⟩:=h;exact⟨e1.trans h1,b,rec,e2.trans h2,h3,h4,h5,h6,h7,h8,h9,fun t ht=>(h10 t ht).like hL (bf.1 hn t (eF.2 ht))⟩
 | dead=>trivial
 | resv=>exact⟨e1.trans h.1,e2.trans h.2.1,e3.trans h.2.2.1,e4.trans h.2.2.2⟩
def AV.cst: AV->Bool
 | .bool _ | .int .. | .str _ | .aV | .gO | .nQ | .jR | .iS=>true
 | _=>false
def VR.cst{g g':aN}{w w':World}{a:AV}{v:Value}(h:VR g w a v)(hc:a.cst=true): VR g' w' a v:=by
 cases h<;>first|(simp[AV.cst]at hc;done)|constructor
def afR{m:Nat}{a:AV}(hc:a.cst=true): a.nP m=true:=by
 cases a<;>first|(simp[AV.cst]at hc;done)|rfl
def acU{m:Nat}{cs:List AV}(hc:cs.all AV.cst=true): AV.uE m cs=true:=by
 induction cs with
 | nil=>rfl
 | cons a cs ih =>
   simp only[List.all_cons,aD]at hc;simp only[AV.uE,afR hc.1,ih hc.2,iQ]
def ahs{g g':aN}{w:World}{r:AV}{e:Ending}(h:A9 g w (.ret r) e)(hm:kH g w g' w): A9 g' w (.ret r) e:=by
 cases e<;>first|exact VR.mono hm h|exact h
def pL{σ : ai}{m l:Nat}{o:aY}(hne:l≠m)(h:Live σ l): Live (σ.set m o) l:=by
 obtain⟨o',h1,h2⟩:=h;exact⟨o',by rw[aF (Ne.symm hne)];exact h1,h2⟩
def cE.resv {P : Program} {f : FuncId} {args : List AV} {σ s2 : ai} {r : AV} {m : Nat} {T : Option TypeId} {cs : List AV} (hm : σ[m]? = some .resv) (h2 : s2[m]? = some .resv) (ha : AV.uE m args = true) (hs : KZ m σ = true) (hc : cs.all AV.cst = true)
    (h:cE P f args σ (fun o σ'=>o = .ret r/\σ'=s2)):cE P f args (σ.set m (.bY T cs)) (fun o σ'=>o = .ret r/\σ'=s2.set m (.bY T cs)):=by
 refine⟨h.1,fun g w vs hR hl hv=>?_⟩;have hml:m < σ.length:=(aE.1 hm).1;have sH:(σ.set m (.bY T cs))[m]? = some (.bY T cs):=bw hml;obtain⟨Na,hsc,b,us,hb,hrow,alE,hcells,hty⟩:=hR.ok m _ sH;have iW:Live (σ.set m (.bY T cs)) m:=⟨_,sH,rfl⟩;have hL:acT m g (g.reset m 0 none 0 0):=⟨fun _ h=>h,bg _,fun l hne=>by simp[aN.reset,hne]⟩;have Z_:(g.reset m 0 none 0 0).base m=none:=by simp[aN.reset]
 have RQ:∀ l,l≠m->(g.reset m 0 none 0 0).base l=g.base l:=fun l hne=>(hL.at_ l hne).2.1;have Jy:∀ {l c:Nat},(g.reset m 0 none 0 0).base l=some c->l≠m:=fun hl e=>by subst e;rw[Z_]at hl;cases hl
 have hR0:Rel (g.reset m 0 none 0 0) w σ:=by
  refine⟨by have:=hR.len;rw[dN]at this;exact this,hR.lt,fun l o ho=>?_,fun l l' c h1 h3 h4 h5=>?_,fun l c h1 h3=>?_,hR.glob⟩
  ·by_cases e:l=m
   ·subst e;rw[hm]at ho;cases ho;simp[aY.Ok,aN.reset]
   exact(hR.ok l o (by rw[aF (Ne.symm e)];exact ho)).like hL e (bf.1 hs o (jv ho))
  ·have n1:=Jy h4;have n2:=Jy h5;rw[RQ _ n1]at h4;rw[RQ _ n2]at h5;exact hR.inj l l' c (pL n1 h1) (pL n2 h3) h4 h5
  have n1:=Jy h3;rw[RQ _ n1]at h3;exact hR.qc l c (pL n1 h1) h3
 refine(h.2 _ w vs hR0 hl (fun i hi=>(hv i hi).like hL (ot ha i))).mono ?_;rintro e w' ⟨out,g1,s1,r1,r2,r3,rfl,rfl⟩;have X3:b<w.heap.size:=hrow.lt
 have hnt:¬ mG σ (g.reset m 0 none 0 0) b:=by
  rintro⟨l,h1,h3⟩;have n1:=Jy h3;rw[RQ _ n1]at h3;exact n1 (hR.inj l m b (pL n1 h1) iW h3 hb)
 have hheap:w'.heap[b]? = w.heap[b]?:=r2.frame b X3 hnt;have Lj:¬ g.fN b:=hR.qc m b iW hb;obtain⟨q1,q2,q3,q4⟩:=r1.ok m _ h2;have Nb:m<s1.length:=(aE.1 h2).1;have ajP:(s1.set m (.bY T cs))[m]? = some (.bY T cs):=bw Nb;have aht:(g1.reset m 1 (some b) (g.cap m) (g.off m)).base m=some b:=by simp[aN.reset]
 have alF:∀ l,l≠m->(g1.reset m 1 (some b) (g.cap m) (g.off m)).base l=g1.base l:=fun l hne=>by simp[aN.reset,hne]
 have ahu:kH g1 w' (g1.reset m 1 (some b) (g.cap m) (g.off m)) w':=by
  refine⟨fun c hc=>⟨hc,rfl⟩,bg _,fun l _=>?_⟩;by_cases e:l=m
  ·subst e;simp[aN.reset,q1]
  simp[aN.reset,e]
 have hmg:kH g w (g1.reset m 1 (some b) (g.cap m) (g.off m)) w':=by
  refine⟨fun c hc=>r2.mono.fN c hc,r2.mono.n,fun l hl=>?_⟩;by_cases e:l=m
  ·subst e;simp[aN.reset,Na,hb]
  have:=r2.mono.ver l hl;simpa[aN.reset,e]using this
 have hold:∀ l c,Live (s1.set m (.bY T cs)) l->(g1.reset m 1 (some b) (g.cap m) (g.off m)).base l=some c->(l=m/\c=b)\/(l≠m/\Live s1 l/\g1.base l=some c):=fun l c h1 h3=>by
  rcases lK h1 with⟨e,_,_⟩|⟨e,h4⟩
  ·subst e;rw[aht]at h3;exact .inl ⟨rfl,(Option.some.inj h3).symm⟩
  rw[alF _ e]at h3;exact .inr ⟨e,h4,h3⟩
 have hfree:∀ l,Live s1 l->g1.base l=some b->False:=fun l h1 h3=>hnt (r2.BS b X3 ⟨l,h1,h3⟩)
 refine⟨.ret r,g1.reset m 1 (some b) (g.cap m) (g.off m),s1.set m (.bY T cs),⟨?_,r1.lt,fun l o ho=>?_,fun l l' c h1 h3 h4 h5=>?_,fun l c h1 h3 hi=>?_,r1.glob⟩,
  ⟨hmg,r2.size,r2.os,r2.tape,r2.output,fun c hc hn=>r2.frame c hc fun⟨l,h1,h3⟩=>?_,fun c hc hi=>?_,fun c hc ht=>?_⟩,ahs r3 ahu,rfl,rfl⟩
 ·rw[dN];exact r1.len
 ·by_cases e:l=m
  ·subst e;rw[ajP]at ho;cases ho;refine⟨by simp[aN.reset],hsc,b,us,aht,hrow.of_heap hheap,alE,fun i hi=>(hcells i hi).cst ?_,hty.of_heap hheap⟩;rw[aq,aG hi];exact bf.1 hc _ (dI hi)
  rw[aF (Ne.symm e)]at ho;exact(r1.ok l o ho).step ahu (by rw[<-r1.len];exact(aE.1 ho).1) (by simp[aN.reset,e]) (fun _ _=>rfl)
 ·rcases hold l c h1 h4 with⟨a1,a2⟩|⟨a1,a2,a3⟩<;>rcases hold l' c h3 h5 with⟨b1,b2⟩|⟨b1,b2,b3⟩
  ·rw[a1,b1]
  ·subst a2;exact(hfree l' b2 b3).elim
  ·subst b2;exact(hfree l a2 a3).elim
  exact r1.inj l l' c a2 b2 a3 b3
 ·rcases hold l c h1 h3 with⟨a1,a2⟩|⟨a1,a2,a3⟩
  ·subst a2;rcases r2.qW c X3 hi with h4|h4
   ·exact Lj h4
   exact hnt h4
  exact r1.qc l c a2 a3 hi
 ·have n1:=Jy h3;rw[RQ _ n1]at h3;exact hn ⟨l,pL n1 h1,h3⟩
 ·rcases r2.qW c hc hi with h4|⟨l,h1,h3⟩
  ·exact .inl h4
  have n1:=Jy h3;rw[RQ _ n1]at h3;exact .inr ⟨l,pL n1 h1,h3⟩
 obtain⟨l,h1,h3⟩:=ht;rcases hold l c h1 h3 with⟨a1,a2⟩|⟨a1,a2,a3⟩
 ·subst a2;exact⟨m,iW,hb⟩
 obtain⟨k,k1,k2⟩:=r2.BS c hc ⟨l,a2,a3⟩;have n1:=Jy k2;rw[RQ _ n1]at k2;exact⟨k,pL n1 k1,k2⟩
