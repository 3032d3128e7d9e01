/- Part. -/
import Derived.Test.YtoldfccfpameeaaGreatDoorV02
import Derived.MapKept
set_option linter.all false
set_option maxHeartbeats 1000000
namespace Go.AM
open Go.MapKept
def Rel.aeI {g : aN} {w w' : World} {σ : ai} {l b : Nat} {o : aX} (h : Rel g w σ) (hl : σ[l]? = some o) (ho : o.live = true) (hb : g.base l = some b) (v c fo : Nat) (o' : aX)
    (hsz:w'.heap.size=w.heap.size) (hos:w'.os=w.os) (xU:w'.tape=w.tape) (hout:w'.output=w.output)
    (hheap:∀ c,c≠b->w'.heap[c]? = w.heap[c]?) (hok:kD g w (g.push v (some b) c fo) w'->o'.Ok (g.push v (some b) c fo) w' g.n) :
    Rel (g.push v (some b) c fo) w' (σ.set l .dead++[o'])/\gk σ g w (σ.set l .dead++[o']) (g.push v (some b) c fo) w':=by
 have iV:Live σ l:=⟨o,hl,ho⟩;have G2:¬ g.fE b:=h.p7 l b iV hb
 have hm:kD g w (g.push v (some b) c fo) w':=⟨fun d hd=>⟨hd,hheap d (fun e=>G2 (e ▸ hd))⟩,Nat.le_succ _,fun k hk=>by
  have:k≠g.n:=fX hk;simp[aN.push,this]⟩
 have hbase:∀ k,k<g.n->(g.push v (some b) c fo).base k=g.base k:=fun k hk=>by simp[aN.push,fX hk]
 have hnew:(g.push v (some b) c fo).base g.n=some b:=by simp[aN.push]
 have hold:∀ k,Live (σ.set l .dead++[o']) k->(k<g.n/\k≠l/\Live σ k)\/k=g.n:=fun k hk=>by
  rcases oD hk with hk|rfl
  ·rcases lE hk with⟨_,_,e⟩|⟨e,hk⟩
   ·simp[aX.live]at e
   exact .inl ⟨by rw[<-h.len];exact hk.lt,e,hk⟩
  exact .inr (by simp[h.len])
 refine⟨⟨by simp[aN.push,h.len],fun d hd=>by rw[hsz];exact h.lt d hd,fun k ok hk=>?_,fun k k' d hk hk' hd hd'=>?_,fun k d hk hd hi=>?_,h.glob.mono hm.fE⟩,
  ⟨hm,Nat.le_of_eq hsz.symm,hos,xU,hout,fun d hd ht=>hheap d (fun e=>ht ⟨l,iV,e ▸ hb⟩),fun d _ hi=> .inl hi,fun d hd ht=>?_⟩⟩
 ·by_cases hlt:k<(σ.set l .dead).length
  ·rw[aH hlt]at hk;simp only[dM]at hlt;have hkn:k<g.n:=by rw[<-h.len];exact hlt
   by_cases e:k=l
   ·subst e;simp[hlt]at hk;subst hk;trivial
   rw[aF (Ne.symm e)]at hk;by_cases hv:ok.live=true
   ·exact(h.ok k ok hk).step hm hkn (by simp[aN.push,fX hkn]) (fun d hd=>hheap d (fun e'=>e (h.inj k l d ⟨ok,hk,hv⟩ iV hd (e' ▸ hb))))
   ·cases ok<;>simp[aX.live]at hv;trivial
  have h1:=(aE.1 hk).1;simp at h1 hlt;have h2:k = σ.length:=ae;subst h2;simp at hk;subst hk;rw[h.len];exact hok hm
 ·rcases hold k hk with⟨k1,k2,k3⟩|rfl<;>rcases hold k' hk' with⟨k4,k5,k6⟩|rfl
  ·rw[hbase k k1]at hd;rw[hbase k' k4]at hd';exact h.inj k k' d k3 k6 hd hd'
  ·rw[hbase k k1]at hd;rw[hnew]at hd';cases hd';exact absurd (h.inj k l b k3 iV hd hb) k2
  ·rw[hbase k' k4]at hd';rw[hnew]at hd;cases hd;exact absurd (h.inj k' l b k6 iV hd' hb) k5
  rfl
 ·rcases hold k hk with⟨k1,k2,k3⟩|rfl
  ·rw[hbase k k1]at hd;exact h.p7 k d k3 hd hi
  rw[hnew]at hd;cases hd;exact G2 hi
 obtain⟨k,hk,hd'⟩:=ht;rcases hold k hk with⟨k1,k2,k3⟩|rfl
 ·exact⟨k,k3,by rw[hbase k k1]at hd';exact hd'⟩
 rw[hnew]at hd';cases hd';exact⟨l,iV,hb⟩
def Rel.kill {g : aN} {w : World} {σ : ai} {l : Nat} {o : aX} (h : Rel g w σ) (hl : σ[l]? = some o) (ho : o.live = true) :
    Rel g w (σ.set l .dead)/\gk σ g w (σ.set l .dead) g w:=by
 have:=h.change (w':=w) (o':= .dead) hl ho (g.ver l) (g.base l) (g.cap l) (g.off l) (bf _) (fun _=>⟨rfl,rfl,rfl⟩) (bf _) rfl rfl rfl (fun _ _ _=>rfl) (fun b hb=> .inl hb) (fun _=>trivial);rwa[aN.J8]at this
def IW(g:aN)(v:Nat)(b:Option Nat)(c o:Nat): (g.push v b c o).off g.n=o:=by simp[aN.push]
section
variable {P:Program} {g:aN} {w:World} {σ : ai} {K:AV->ai->Prop}
def pK{σ : ai}{l:Nat}{o:aX}(h : σ[l]? = some o): σ.set l o = σ:=by
 apply jA;intro k;by_cases e:k=l
 ·subst e;rw[bw (aE.1 h).1];exact h.symm
 rw[aF (Ne.symm e)]
def xn: Option IntKind->TypeDesc->Bool
 | none,.string=>true
 | some k,.int k'=>k==k'
 | _,_=>false
def IX{kd:Option IntKind}{d:TypeDesc}{k:AV}{v:Value}(hd:xn kd d=true)(hk:k.pI kd=true)(hv:VR g w k v): IsKey d v:=by
 cases kd with
 | none =>
   cases d<;>simp[xn]at hd;cases k<;>simp[AV.pI]at hk;cases hv;trivial
 | some q =>
   cases d<;>simp[xn]at hd;subst hd;cases k<;>simp[AV.pI]at hk;cases hv;exact hk.symm
def Vo{kd:Option IntKind}{d:TypeDesc}{k q:AV}{v u:Value}{b:Bool}(hd:xn kd d=true)(hk:k.pI kd=true)(hv:VR g w k v)(hu:VR g w q u)(h:Qu k q=some b): Instr.sameNow d v u=some b:=by
 cases kd with
 | none =>
   cases d<;>simp[xn]at hd;cases k<;>simp[AV.pI]at hk;cases q<;>simp[Qu]at h;cases hv;cases hu;subst h;rename_i s s';simp only[Instr.sameNow,Option.some.injEq];have e:=bytes_beq ⟨s.toArray⟩ ⟨s'.toArray⟩;by_cases hs:s=s'
   ·subst hs;rw[e.2 rfl];simp
   have h1:¬ ((⟨s.toArray⟩:ByteArray)==⟨s'.toArray⟩)=true:=fun h=>hs (by have:=e.1 h;injection this with this;simpa using this);simp only[kB]at h1;rw[h1];simp[hs]
 | some k0 =>
   cases d<;>simp[xn]at hd;subst hd;cases k<;>simp[AV.pI]at hk;cases q<;>simp[Qu]at h;cases hv;cases hu;obtain⟨h1,h2⟩:=h;subst h1;simp[Instr.sameNow,h2]
def CQ {kd : Option IntKind} {d : TypeDesc} {k : AV} {v : Value} (hd : xn kd d = true) (hk : k.pI kd = true) (hv : VR g w k v) : ∀ (es : List (AV × AV)) (ms : List MapEntry) (i : Nat) (r : Option (Nat × AV)), ms.length = es.length ->
    (∀ j,j<es.length->VR g w (es.getD j default).1 (ms.getD j default).key/\VR g w (es.getD j default).2 (ms.getD j default).val)->lF k es i=some r ->
    (r=none/\Instr.findNow d v ms i=some none)\/ ∃ j x u,r=some (i+j,x)/\Instr.findNow d v ms i=some (some (i+j,u))/\VR g w x u/\j<es.length/\Instr.sameNow d v (ms.getD j default).key=some true
 | [], ms, i, r, hl, h, hf => by
   simp[lF]at hf;have:ms=[]:=dn.1 hl;subst this;subst hf;exact .inl ⟨rfl,rfl⟩
 | (q, x) :: es, ms, i, r, hl, h, hf => by
   cases ms with
   | nil=>simp at hl
   | cons e ms =>
     have h0:=h 0 aR;simp only[de]at h0;simp only[lF]at hf;split at hf
     ·rename_i he;cases hf;have hs:=Vo hd hk hv h0.1 he;exact .inr ⟨0,x,e.val,rfl,by simp[Instr.findNow,hs],h0.2,aR,by simpa using hs⟩
     ·rename_i he;have hs:=Vo hd hk hv h0.1 he;rcases CQ hd hk hv es ms (i+1) r (by simpa using hl) (fun j hj=>by simpa using h (j+1) (by simpa using hj)) hf with⟨h1,h2⟩|⟨j,y,u,h1,h2,h3,h4,h5⟩
      ·exact .inl ⟨h1,by simp[Instr.findNow,hs,h2]⟩
      exact .inr ⟨j+1,y,u,by rw[h1];congr 2;omega,by simp[Instr.findNow,hs,h2];omega,h3,by simpa using h4,by simpa using h5⟩
     ·cases hf
def Zw {ms : Array MapEntry} {es : List (AV × AV)} {clock : Nat} (h : ms.size = es.length) (h1 : clock = es.length) (h2 : ∀ i, i < es.length -> (ms.getD i default).born = i) (k u : Value) (p : AV × AV) :
    clock+1=(es++[p]).length/\ ∀ i,i<(es++[p]).length->((ms.push { key:=k,val:=u,born:=clock }).getD i default).born=i:=by
 refine⟨by simp[h1],fun i hi=>?_⟩;simp only[aA,aO,bu]at hi;by_cases e:i<es.length
 ·have h':i<ms.size:=ae;have:=h2 i e;simpa[Array.getElem?_push,fX h',h']using this
 have:i=ms.size:=ae;subst this;have e2:(ms.push { key:=k,val:=u,born:=clock }).getD ms.size default = { key:=k,val:=u,born:=clock }:=aR;rw[e2];show clock=_;omega
def T6 {ms : Array MapEntry} {es : List (AV × AV)} {clock : Nat} (h : ms.size = es.length) (h1 : clock = es.length) (h2 : ∀ i, i < es.length -> (ms.getD i default).born = i) (j : Nat) (f : MapEntry -> MapEntry) (hf : ∀ e, (f e).born = e.born) (p : AV × AV) :
    clock=(es.set j p).length/\ ∀ i,i<(es.set j p).length->((ms.modify j f).getD i default).born=i:=by
 refine⟨by simp[h1],fun i hi=>?_⟩;simp only[dM]at hi;have h':i<ms.size:=ae;have:=h2 i hi;by_cases e:j=i
 ·subst e;simp only[eW,h',Array.getElem?_eq_getElem,bO]at this;simp[h',Array.getElem_modify,hf,this]
 simpa[h',Array.getElem_modify,e]using this
def T7{t:TypeId}(hR:Rel g w σ)(hK:K (.mp σ.length) (σ++[.map []])): bU P (Instr.makeMap t none) g w σ K:=by
 obtain⟨r1,r2⟩:=hR.vz (.map #[] 0) (.map []) 0 0 ⟨by simp[aN.push],w.heap.size,#[],0,by simp[aN.push],heap_alloc_new w _,rfl,⟨rfl,fun i hi=>absurd hi (c9 _)⟩,fun i hi=>absurd hi (c9 _)⟩;refine⟨.map (some w.heap.size),_,_,_,_,?_,r1,r2,.mp _ _ ⟨by simp[aN.push,hR.len],_,rfl,fun _=>by simp[aN.push,hR.len]⟩,hK⟩;simp[Instr.makeMap]
def vB{ok:Bool}{v:AV}{u:Value}{b:Bool}(hv:VR g w v u): VR g w (if ok then .bR [v,.bool b]else v) (if ok then .tuple #[u,.bool b]else u):=by
 cases ok with
 | false=>simpa using hv
 | true =>
   refine .bR _ _ rfl (fun i hi=>?_)
   match i,hi with
   | 0,_=>exact hv
   | 1,_=>exact .bool b
def Xd {t key elem : TypeId} {d : TypeDesc} {kd : Option IntKind} {ok : Bool} {zero x k : AV} {a v : Value} (hR : Rel g w σ) (ht : P.underlying t = some (.map key elem)) (hkey : P.underlying key = some d) (hd : xn kd d = true)
    (hz:me P elem=some zero) (hx:VR g w x a) (hv:VR g w k v)
    (hK : match (generalizing := false) x with
      | .iZ=>k.pI kd=true/\K (if ok then .bR [zero,.bool false]else zero) σ
      | .mp l => k.pI kd = true /\ match σ[l]? with
        | some (.map es) => match lF k es 0 with
          | some (some (_,v))=>K (if ok then .bR [v,.bool true]else v) σ
          | some none=>K (if ok then .bR [zero,.bool false]else zero) σ
          | none=>False
        | _=>False
      | _=>False):bU P (Instr.lookup t a v ok) g w σ K:=by
 obtain⟨z,Zx,Zy⟩:=yL hz w;cases hx<;>simp only at hK
 case iZ =>
  obtain⟨hk,hK⟩:=hK;have hi:=IX hd hk hv;refine bU.pure hR (v:=if ok then .tuple #[z,.bool false]else z) ?_ (vB (Zy g w).1) hK;have hf:(Instr.findKey key v []).run P w = .ok none w:=run_findKey hkey rfl;have hc:(Instr.checkKey true 10000 key v).run P w = .ok () w:=run_checkKey hkey hi true 9999;simp[Instr.lookup,bp ht,hf,hc,Zx]
 case mp l h =>
  obtain⟨hk,hK⟩:=hK;have hi:=IX hd hk hv;obtain⟨h1,b,rfl,h2⟩:=h;split at hK
  ·rename_i es Vp;obtain⟨o1,b',ms,clock,o2,o3,o4,⟨ob1,Zz⟩,o5⟩:=hR.ok l _ Vp;have Ra:=h2 o1;rw[Ra]at o2;cases o2;have hc:(Instr.checkKey ms.isEmpty 10000 key v).run P w = .ok () w:=run_checkKey hkey hi _ 9999;have hg:=Go.MapKept.run_getObj_map (P:=P) o3;have o5':∀ j,j<es.length->VR g w (es.getD j default).1 (ms.toList.getD j default).key/\VR g w (es.getD j default).2 (ms.toList.getD j default).val:=fun j hj=>by simpa using o5 j hj
   generalize hfd:lF k es 0=fd at hK;cases fd with
   | none=>exact hK.elim
   | some r =>
     rcases CQ hd hk hv es ms.toList 0 r (by simpa using o4) o5' hfd with⟨rfl,hf⟩|⟨j,x,u,rfl,hf,hxu,_⟩
     ·refine bU.pure hR (v:=if ok then .tuple #[z,.bool false]else z) ?_ (vB (Zy g w).1) hK;have EZ:(Instr.findKey key v ms.toList).run P w = .ok none w:=run_findKey hkey hf;simp[Instr.lookup,bp ht,hg,EZ,hc,Zx]
     refine bU.pure hR (v:=if ok then .tuple #[u,.bool true]else u) ?_ (vB hxu) hK;have EZ:(Instr.findKey key v ms.toList).run P w = .ok (some (0+j,u)) w:=run_findKey hkey hf;simp[Instr.lookup,bp ht,hg,EZ,hc]
  exact hK.elim
def Rb {t key elem : TypeId} {d : TypeDesc} {kd : Option IntKind} {l : Nat} {k x : AV} {a v u : Value} {es es' : List (AV × AV)} (hR : Rel g w σ) (ht : P.underlying t = some (.map key elem)) (hkey : P.underlying key = some d) (hd : xn kd d = true)
    (hx:VR g w (.mp l) a) (hv:VR g w k v) (hu:VR g w x u) (hk:k.pI kd=true) (Vp : σ[l]? = some (.map es)) (hs:wF k x es=some es') :
    ∃ w',(Instr.mapUpdate t a v u).run P w = .ok () w'/\Rel g w' (σ.set l (.map es'))/\gk σ g w (σ.set l (.map es')) g w':=by
 have hi:=IX hd hk hv;cases hx;rename_i h;obtain⟨h1,b,rfl,h2⟩:=h;obtain⟨o1,b',ms,clock,o2,o3,o4,⟨ob1,Zz⟩,o5⟩:=hR.ok l _ Vp;have Ra:=h2 o1;rw[Ra]at o2;cases o2;have hc:(Instr.checkKey false 10000 key v).run P w = .ok () w:=run_checkKey hkey hi _ 9999;have hg:=Go.MapKept.run_getObj_map (P:=P) o3;have o5':∀ j,j<es.length->VR g w (es.getD j default).1 (ms.toList.getD j default).key/\VR g w (es.getD j default).2 (ms.toList.getD j default).val:=fun j hj=>by simpa using o5 j hj
 have ZA:∀ (ms':Array MapEntry) (ck:Nat),ms'.size=es'.length->(ck=es'.length/\ ∀ i,i<es'.length->(ms'.getD i default).born=i)->(∀ j,j<es'.length->VR g w (es'.getD j default).1 (ms'.getD j default).key/\VR g w (es'.getD j default).2 (ms'.getD j default).val) ->
  Rel g { w with heap:=w.heap.setIfInBounds b (.map ms' ck) } (σ.set l (.map es'))/\gk σ g w (σ.set l (.map es')) g { w with heap:=w.heap.setIfInBounds b (.map ms' ck) }:=fun ms' ck hl hbn hh =>
  hR.update (o':= .map es') Vp rfl Ra aR rfl rfl rfl (fun c hc=>(heap_set o3).2 c hc) (fun hm=>⟨o1,b,ms',ck,Ra,(heap_set o3).1,hl,hbn,fun j hj=>⟨(hh j hj).1.mono hm,(hh j hj).2.mono hm⟩⟩)
 unfold wF at hs;generalize hfd:lF k es 0=fd at hs;cases fd with
 | none=>cases hs
 | some r =>
   rcases CQ hd hk hv es ms.toList 0 r (by simpa using o4) o5' hfd with⟨rfl,hf⟩|⟨j,y,q,rfl,hf,hxu,hj,hsame⟩
   ·simp only[Option.some.injEq]at hs;subst hs;have EZ:(Instr.findKey key v ms.toList).run P w = .ok none w:=run_findKey hkey hf
    obtain⟨r1,r2⟩:=ZA (ms.push { key:=v,val:=u,born:=clock }) (clock+1) (by simp[o4]) (Zw o4 ob1 Zz _ _ _) (fun i hi=>by
     simp only[aA,aO,bu]at hi;by_cases h:i<es.length
     ·have:=o5 i h;have h':i<ms.size:=ae;simpa[aH h,Array.getElem?_push,fX h',h']using this
     ·have:i=es.length:=ae;subst this;have e1:(es++[(k,x)]).getD es.length default=(k,x):=aR;have e2:(ms.push { key:=v,val:=u,born:=clock }).getD ms.size default = { key:=v,val:=u,born:=clock }:=aR;rw[e1,<-o4,e2];exact⟨hv,hu⟩)
    exact⟨_,by simp[Instr.mapUpdate,bp ht,hg,EZ,hc,Go.MapKept.run_setObj_map (P:=P) (.map (ms.push { key:=v,val:=u,born:=clock }) (clock+1)) o3],r1,r2⟩
   simp only[Option.some.injEq,bJ]at hs;subst hs;have EZ:(Instr.findKey key v ms.toList).run P w = .ok (some (0+j,q)) w:=run_findKey hkey hf;have hj':j<ms.size:=ae
   have hkv:(ms.getD j default).key=v:=by
    have h3:Instr.sameNow d v (ms.toList.getD j default).key=some true:=hsame
    have h4:IsKey d (ms.toList.getD j default).key:=by
     cases d<;>cases v<;>simp[IsKey]at hi<;>(generalize (ms.toList.getD j default).key=z at h3;cases z<;>simp[Instr.sameNow]at h3)<;>simp_all[IsKey]
    obtain⟨r',h5,h6⟩:=sameNow_of_keys hi h4;rw[h3]at h5;cases h5;have:=h6.1 rfl;simpa using this.symm
   have ajd:((ms[j]?).map (·.key)).getD v=v:=by
    have:ms[j]? = some (ms.getD j default):=by simp[hj']
    rw[this];exact hkv
   obtain⟨r1,r2⟩:=ZA (ms.modify j fun e=> { e with key:=v,val:=u }) clock (by simp[o4]) (T6 o4 ob1 Zz j (fun e=> { e with key:=v,val:=u }) (fun _=>rfl) _) (fun i hi=>by
    simp only[dM]at hi;have hi':i<ms.size:=ae;by_cases h:i=j
    ·subst h;simp[hi',hi,Array.getElem_modify,hv,hu]
    ·have:=o5 i hi;simpa[hi',hi,Array.getElem_modify,Ne.symm h,aF (Ne.symm h)]using this)
   refine⟨_,?_,r1,r2⟩;have hst:=run_keyThatStays (P:=P) (w:=w) hi;simp[Instr.mapUpdate,bp ht,hg,EZ,hc,ajd,hst,Go.MapKept.run_setObj_map (P:=P) (.map (ms.modify j fun e=> { e with key:=v,val:=u }) clock) o3]
def afi{p:AV}{A:Addr}(d:Nat)(hp:p.ptr=true)(h:VR g w p (.pointer (some A))): VR g w (p.adv d) (.pointer (some (A.add d))):=by
 cases p<;>simp[AV.ptr]at hp<;>simp only[AV.adv]
 case ref l o =>
  cases h;rename_i hO;obtain⟨h1,A',h2,h3⟩:=hO;cases h2;refine .ref _ _ _ ⟨h1,_,rfl,fun e=>?_⟩;obtain⟨h4,h5⟩:=h3 e;rw[h5,add_plain];exact⟨by rw[h5]at h4;exact h4,rfl⟩
 case eY el y o =>
  cases h;rename_i hc h;rw[add_plain,dB];refine VR.eY el y _ _ _ ?_ ?_ ?_ ?_<;>assumption
 case fy el l m i o =>
  cases h;rename_i hO;obtain⟨h1,hm,A',h2,h3⟩:=hO;cases h2;refine .fy _ _ _ _ _ _ ⟨h1,hm,_,rfl,fun e=>?_⟩;obtain⟨h4,h5⟩:=h3 e;rw[h5,add_plain,dB];exact⟨by rw[h5]at h4;exact h4,rfl⟩
def T8{p:AV}{v:Value}(hp:p.ptr=true)(h:VR g w p v): ∃ A,v = .pointer (some A):=by
 cases p<;>simp[AV.ptr]at hp<;>cases h
 case ref hO=>obtain⟨_,A,h2,_⟩:=hO;exact⟨A,h2⟩
 case eY=>exact⟨_,rfl⟩
 case fy hO=>obtain⟨_,_,A,h2,_⟩:=hO;exact⟨A,h2⟩
def T9 {lo hi : Option AV} {vl vh : Option Value} {n : Nat} {K : Nat -> Nat -> Prop} (hl : nZ g w lo vl) (hh : nZ g w hi vh)
    (hK:bound hi n n fun h=>bound lo 0 h fun l=>K l h) :
    ∃ l h:Nat,l<=h/\h<=n/\(Instr.sliceBounds false n n vl vh none).run P w = .ok (l,h,n) w/\K l h:=by
 obtain⟨h,hb,kb1,wI⟩:∃ h:Nat,h<=n/\(match vh with|some v=>Instr.sliceBound v n .sliceAlen|none=>Pure.pure n:Sem Nat).run P w = .ok h w/\bound lo 0 h fun l=>K l h:=by
  cases hi with
  | none => cases vh with
    | none=>exact⟨n,bf _,rfl,hK⟩
    | some v=>exact hh.elim
  | some u => cases vh with
    | none=>exact hh.elim
    | some v =>
      have Km:VR g w u v:=hh;cases Km<;>simp only[bound]at hK
      case int k i=>exact⟨i.toNat,ae,nY hK.1 ae,hK.2.2⟩
 obtain⟨l,lb,r1,r2⟩:∃ l:Nat,l<=h/\(match vl with|some v=>Instr.sliceBound v h .sliceB|none=>Pure.pure 0:Sem Nat).run P w = .ok l w/\K l h:=by
  cases lo with
  | none => cases vl with
    | none=>exact⟨0,ew _,rfl,wI⟩
    | some v=>exact hl.elim
  | some u => cases vl with
    | none=>exact hl.elim
    | some v =>
      have hl':VR g w u v:=hl;cases hl'<;>simp only[bound]at wI
      case int k i=>exact⟨i.toNat,ae,nY wI.1 wI.2.1,wI.2.2⟩
 refine⟨l,h,lb,hb,?_,r2⟩;cases vh<;>cases vl<;>simp_all[Instr.sliceBounds]
def ZB {t e : TypeId} {el : El} {n : Nat} {p : AV} {a : Value} {lo hi : Option AV} {vl vh : Option Value} (hR : Rel g w σ) (hu : P.underlying t = some (.array n e)) (he : kg P e = some el)
    (hx:VR g w p a) (hl:nZ g w lo vl) (hh:nZ g w hi vh) (hK:CB el n p lo hi fun v=>K v σ):bU P (Instr.sliceAt t a vl vh none) g w σ K:=by
 obtain⟨fi,hi',_,hs,_⟩:=jb he;obtain⟨hp,hK⟩:=hK;obtain⟨A,rfl⟩:=T8 hp hx;obtain⟨l,h,q1,q2,q3,q4⟩:=T9 (P:=P) hl hh hK;refine bU.pure hR (v:= .slice (some (if n=l then A else A.add (l*el.sz))) (h-l) (n-l)) ?_ ?_ q4
 ·simp[Instr.sliceAt,bp hu,Instr.sureAddr,q3,ef hi',hs]
 by_cases e:h=l
 ·subst e;rw[au rfl];simpa using VR.jd (g:=g) (w:=w) false el (some (if n=h then A else A.add (h*el.sz))) (n-h) aR
 rw[aj e,aj ae];exact .l7 el _ _ _ _ ae ae (afi _ hp hx)
def CU {ats : Array TypeId} {r sT e : TypeId} {fi : TypeInfo} {w' : World} {base : Option Addr} {dl dc N : Nat} {b : Value} {us : Array Value}
    (h0:ats[0]? = some sT) (hu:P.underlying sT=some (.slice e)) (hi:P.info? e=some fi) (hl:(Builtin.lenOf b).run P w = .ok N w)
    (hf:(Builtin.firstCells fi.size (min N dl) b).run P w = .ok us w) (hst:∀ A,base=some A->(storeCells A us.toList).run P w = .ok () w') (hn:base=none->w'=w) :
    (Builtin.copy_ ats r #[.slice base dl dc,b]).run P w = .ok (.int .i64 (min N dl:Nat)) w':=by
 have EZ:(Builtin.firstCells fi.size (N.min dl) b).run P w = .ok us w:=hf;unfold Builtin.copy_;simp only[f_,cz,bT,h0,Sem.run_bind,bp hu,Result.andThen_ok,hl,ef hi,EZ];cases base with
 | none=>rw[hn rfl];rfl
 | some A=>simp[hst A rfl,goInt]
def N4{el:El}{ys:List AV}(h:ys.all (fun a=>a.fits el)=true)(m:Nat): ∀ i,i<(ys.take m).length->((ys.take m).getD i .undef).fits el=true:=fun i hi=>by
 simp only[dL]at hi;have h1:i<ys.length:=ae;have h2:i<m:=ae;have:=aZ.1 h (ys[i]) (dK _);simpa[h1,h2]using this
def Xe {ats : Array TypeId} {r sT e : TypeId} {el : El} {x y : AV} {a b : Value} (hR : Rel g w σ)
    (h0:ats[0]? = some sT) (hu:P.underlying sT=some (.slice e)) (he:kg P e=some el)
    (hx:VR g w x a) (hy:VR g w y b) (sL:Cz σ el x y K):bU P (Builtin.copy_ ats r #[a,b]) g w σ K:=by
 obtain⟨fi,hi',_,hs,_⟩:=jb he
 have Xf:∀ {base:Option Addr} {dc:Nat},a = .slice base 0 dc->(∀ ys:List AV,Bz σ el x ys K->K (.int .i64 0) σ)->bU P (Builtin.copy_ ats r #[a,b]) g w σ K:=fun {base dc} ha hk=>by
  obtain⟨ys,us,k1,k2,k3,k4,k5⟩:=uv (P:=P) 0 hR hy sL;have Ks:us = #[]:=fQ (by simpa using k4);subst ha;refine bU.pure hR (v:= .int .i64 (min ys.length 0:Nat)) (CU (us:=us) h0 hu hi' k2 (by rw[hs];exact k3) (fun A _=>by rw[Ks];simp[storeCells]) (fun _=>rfl)) (by simpa using VR.int _ _) (hk ys k1.2)
 cases hx<;>(try exact(let ⟨_,_,h,_⟩:=uv (P:=P) 0 hR hy sL;h.2.elim))
 case aU=>exact Xf rfl fun ys h=>h
 case jd f bE base cap hf=>exact Xf rfl fun ys h=>h.2
 case aS f bE xs b' off cap hi hf hx ft hc h =>
  cases xs with
  | nil=>exact Xf rfl fun ys h=>h.2
  | cons z zs=>exact(let ⟨_,_,h,_⟩:=uv (P:=P) 0 hR hy sL;h.2.elim)
 case l7 bE p n A cap hn hc h =>
  obtain⟨ys,us,⟨hfit,hK⟩,k2,k3,k4,k5⟩:=uv (P:=P) n hR hy sL;obtain⟨rfl,rfl,hK⟩:=hK;have ht:=N4 hfit n;have hlen:(ys.take n).length=min n ys.length:=aR
  obtain⟨A',w',g',σ',e1,r1,r2,r3,r4⟩:=HN (P:=P) (x:= .agg (ys.take n)) (us:=us.toList) hR h (by simp only[AV.cells,eX,k4,hlen];omega) (fun i hi=>by
   simp only[AV.cells]at hi ⊢;have h1:=k5 i 0 hi aR;have h2:=ht i hi
   have hc0:((ys.take n).getD i .undef).cell 0=(ys.take n).getD i .undef:=by
    generalize (ys.take n).getD i .undef=z at h2;cases z<;>first|rfl|(simp[AV.fits]at h2;done)
   rw[hc0]at h1;simpa using h1) (tA k5 (by rw[k4,hlen];congr 1;omega) ht) hK
  cases e1;exact⟨_,_,g',_,_,CU (us:=us) h0 hu hi' k2 (by rw[hs];exact k3) (fun A e=>by cases e;exact r1) (fun e=>by cases e),r2,r3,.int _ _,r4⟩
 case own bE l m o n h =>
  have AW:VR g w (.own bE l m o n) a:= .own _ _ _ _ _ _ h;obtain⟨ys,us,⟨hfit,hK⟩,k2,k3,k4,k5⟩:=uv (P:=P) n hR hy sL;obtain⟨rfl,hK⟩:=hK;obtain⟨q1,q2,A,cap,rfl,q3⟩:=h;split at hK
  ·rename_i T bL xs hxs;obtain⟨rfl,rfl,k6,hK⟩:=hK;have ht:=N4 hfit n;have hlen:(ys.take n).length=min ys.length n:=by simp;omega
   rcases Nat.eq_zero_or_pos (min ys.length n)with hz|hz
   ·have h1:ys.take n=[]:=fx ae;have Ks:us = #[]:=fQ (by rw[k4,hz];simp);rw[h1]at hK;simp only[fD,pK hxs]at hK;exact bU.pure hR (CU (us:=us) h0 hu hi' k2 (by rw[hs];exact k3) (fun A _=>by rw[Ks];simp[storeCells]) (fun _=>rfl)) (.int _ _) hK
   obtain⟨o1,o2,o3⟩:=hR.ok l _ hxs;obtain⟨q4,q5,q6⟩:=q3 o1.symm;rcases o3 with⟨rfl,_,_⟩|⟨b',vs,b1,b2,b3,b4,b5,b6⟩
   ·simp at q4;omega
   have q7:=q6 ae;rw[b1]at q7;simp only[c_]at q7;subst q7
   have hrow:g.off l+(o+n)*bL.sz<=vs.size:=by
    have:(o+n)*bL.sz<=g.cap l*bL.sz:=bM _ ae;omega
   have hle:min ys.length n*bL.sz<=n*bL.sz:=bM _ ae;have hroom:g.off l+o*bL.sz+us.size<=vs.size:=by rw[cj]at hrow;omega
   have hrun:=rT (P:=P) (b:=b') (o:=g.off l+o*bL.sz) us.toList w vs 0 b2 (by simpa using hroom) (tA k5 (by rw[k4,hlen]) ht);obtain⟨f1,f2,f3,f4,f5⟩:=qU w b' (g.off l+o*bL.sz+0) us.toList
   obtain⟨r1,r2⟩:=hR.update (o':= .dh T bL (fD xs o (ys.take n))) hxs rfl b1 f1 f2 f3 f4 f5
    (fun hm => ⟨by rw [jO]; exact o1, fun i hi => by
      rw[jO]at hi;rw[qX _ _ _ ae];split
      ·rename_i hh;exact ht _ ae
      ·exact o2 i hi,
      .inr ⟨b',_,b1,b2.setRow _ _,by rw[size_putRow];exact b3,by rw[jO];exact b4,fun i c hi hc=>by
       rw[jO]at hi;rw[qX _ _ _ ae,oE _ _ _ (by simpa using hroom)];simp only[eX,eV,hlen,k4];by_cases h1:o<=i/\i<o+min ys.length n
       ·obtain⟨j,rfl⟩:∃ j,i=o+j:=⟨i-o,ae⟩;have hj:j<min ys.length n:=ae;have h2:=oU hj hc;rw[au h1,au (by rw[cj];omega),show g.off l+(o+j)*bL.sz+c-(g.off l+o*bL.sz)=j*bL.sz+c by rw[cj];omega,show o+j-o=j by omega];have:=(k5 j c ae hc).mono hm;simpa using this
       ·have hne : ¬ (g.off l + o * bL.sz <= g.off l + i * bL.sz + c /\ g.off l + i * bL.sz + c < g.off l + o * bL.sz + min ys.length n * bL.sz) := by
         rintro⟨z1,z2⟩;rcases Nat.lt_or_ge i o with h2|h2
         ·have:(i+1)*bL.sz<=o*bL.sz:=bM _ h2;rw[eG]at this;omega
         have:(o+min ys.length n)*bL.sz<=i*bL.sz:=bM _ ae;rw[cj]at this;omega
        rw[aj h1,aj hne];exact(b5 i c hi hc).mono hm,by
       cases T with
       | none=>trivial
       | some T=>rw[size_putRow];exact⟨(um _ _ _ _ _).trans b6.1,b6.2⟩⟩⟩)
   exact⟨_,_,g,_,_,CU (us:=us) h0 hu hi' k2 (by rw[hs];exact k3) (fun A e=>by cases e;exact hrun) (fun e=>by cases e),r1,r2,.int _ _,hK⟩
  exact hK.elim
def T_ {ats : Array TypeId} {r sT xT e : TypeId} {d : TypeDesc} {el : El} {base : Option Addr} {sLen sCap : Nat} {x : Value} {us : Array Value}
    (h0:ats[0]? = some sT) (h1:ats[1]? = some xT) (hu:P.underlying sT=some (.slice e)) (hx:P.underlying xT=some d) (hd:∀ k,d≠ .int k) (he:kg P e=some el)
    (hl:(Builtin.lenOf x).run P w = .ok 0 w) (hc:sLen<=sCap) (hn:(Builtin.firstCells el.sz 0 x).run P w = .ok us w) (Ks:us = #[]) :
    (Builtin.append_ ats r #[.slice base sLen sCap,x]).run P w = .ok (.slice base sLen sCap) w:=by
 obtain⟨fi,hi,_,hs,_⟩:=jb he;have hfalse:((d matches .int _):Bool)=false:=by cases d<;>first|rfl|exact absurd rfl (hd _)
 rw[Ks]at hn;unfold Builtin.append_;simp only[f_,cz,bT,h0,h1,Sem.run_bind,bp hu,Result.andThen_ok,ef hi,hs,bp hx,Sem.run_pure,hfalse,hl,aP,if_false,eV,au hc,hn,iH,if_true];cases base<;>simp[storeCells]
def N5 {ats : Array TypeId} {r sT xT e : TypeId} {d : TypeDesc} {el : El} {x y : AV} {a b : Value} (hR : Rel g w σ)
    (h0:ats[0]? = some sT) (h1:ats[1]? = some xT) (hu:P.underlying sT=some (.slice e)) (hd':P.underlying xT=some d) (hd:∀ k,d≠ .int k) (he:kg P e=some el)
    (hx:VR g w x a) (hy:VR g w y b) (sL:CA σ el x y K):bU P (Builtin.append_ ats r #[a,b]) g w σ K:=by
 unfold CA at sL;split at sL
 ·rename_i bE l m lo n;obtain⟨rfl,sL⟩:=sL;have AW:=hx;cases hx;rename_i h;obtain⟨q1,q2,A,cap,rfl,q3⟩:=h;obtain⟨ys,news,⟨hfit,hK⟩,hl,wJ,hsz,hh⟩:=n_ (P:=P) hR hy sL
  have zS:∀ i,i<ys.length->(ys.getD i .undef).fits bE=true:=fun i hi=>by
   have:=aZ.1 hfit (ys[i]) (dK _);simpa[hi]using this
  have h1c:=tA hh hsz zS;split at hK
  ·rename_i T bL xs hxs;obtain⟨rfl,rfl,k3,hr,hK⟩:=hK;obtain⟨o1,o2,o3⟩:=hR.ok l _ hxs;obtain⟨q4,q5,q6⟩:=q3 o1.symm;rcases o3 with⟨rfl,_,_⟩|⟨b',vs,b1,b2,b3,b4,b5,b6⟩
   ·simp at k3
   have hfo:vs.size=g.off l+(lo+1)*bL.sz+cap*bL.sz:=by
    rw[b3,<-q5,cj cap,Nat.add_comm (cap*_),dB]
   have N6:(xs.drop (lo+1)).length=n:=by simp;omega
   have hzl:(xs.drop (lo+1)++ys).length=n+ys.length:=by simp;omega
   have N1:∀ i,i<(xs.drop (lo+1)++ys).length->((xs.drop (lo+1)++ys).getD i .undef).fits bL=true:=fun i hi=>by
    rw[hzl]at hi;by_cases h:i<n
    ·have:=o2 (lo+1+i) ae;have h':i<(xs.drop (lo+1)).length:=ae;simpa[aH h']using this
    obtain⟨j,rfl⟩:∃ j,i=n+j:=⟨i-n,ae⟩;have:=zS j ae;rw[<-N6];simpa[bq]using this
   have left:∀ i c,i<n->c<bL.sz->VR g w (((xs.drop (lo+1)).getD i .undef).cell c) (vs.getD (g.off l+(lo+1)*bL.sz+i*bL.sz+c) Go.undef):=fun i c hi hc=>by
    have:=b5 (lo+1+i) c ae hc;rw[show g.off l+(lo+1+i)*bL.sz+c=g.off l+(lo+1)*bL.sz+i*bL.sz+c by rw[cj (lo+1)];omega]at this;rw[show (xs.drop (lo+1)).getD i .undef=xs.getD (lo+1+i) .undef by simp];exact this
   have agU:∀ i,i<n->(xs.drop (lo+1)++ys).getD i .undef=(xs.drop (lo+1)).getD i .undef:=fun i hi=>by
    have h':i<(xs.drop (lo+1)).length:=ae;simp[aH h']
   have akW:∀ j,(xs.drop (lo+1)++ys).getD (n+j) .undef=ys.getD j .undef:=fun j=>by
    rw[<-N6];simp[bq]
   by_cases hc:n+ys.length<=cap
   ·rcases Nat.eq_zero_or_pos ys.length with hz|hz
    ·have hys:ys=[]:=fx hz;subst hys;have hne:news = #[]:=fQ (by simpa using hsz);have hrun:=T_ (P:=P) (r:=r) (base:=A) (sLen:=n) (sCap:=cap) h0 h1 hu hd' hd he hl (by simpa using hc) (wJ w rfl) hne
     obtain⟨r1,r2⟩:=hR.aeI (w':=w) hxs rfl b1 n cap (g.off l+(lo+1)*bL.sz) (.vec bL (xs.drop (lo+1)++[])) rfl rfl rfl rfl (fun _ _=>rfl)
      (fun hm => ⟨by simp [aN.push]; omega, N1, .inr ⟨b', vs, by simp [aN.push], b2, by simp [aN.push]; exact hfo, by simp [aN.push]; omega, fun i c hi l8 => by
        rw[hzl]at hi;rw[IW];rw[agU i (by simpa using hi)];exact(left i c (by simpa using hi) l8).mono hm,trivial⟩⟩)
     refine⟨_,_,_,_,_,hrun,r1,r2,.own _ _ _ _ _ _ ⟨by simp[aN.push,hR.len],by simp[aN.push,hR.len],_,_,rfl,fun _=>⟨ae,by simp[aN.push,hR.len],fun hlt=>?_⟩⟩,hK⟩;simp only[aN.push,hR.len,if_true]at hlt ⊢;rw[q6 ae,b1];simp
    have q7:=q6 ae;rw[b1]at q7;simp only[c_]at q7;subst q7;have hle:(n+ys.length)*bL.sz<=cap*bL.sz:=bM _ hc;rw[cj]at hle;have hroom:g.off l+(lo+1)*bL.sz+n*bL.sz+news.size<=vs.size:=ae;have hrun:=HO (P:=P) (r:=r) (b:=b') (o:=g.off l+(lo+1)*bL.sz) (sLen:=n) h0 h1 hu hd' hd he hl hc (wJ w rfl) b2 hroom h1c;obtain⟨f1,f2,f3,f4,f5⟩:=qU w b' (g.off l+(lo+1)*bL.sz+n*bL.sz) news.toList
    obtain⟨r1,r2⟩:=hR.aeI hxs rfl b1 (n+ys.length) cap (g.off l+(lo+1)*bL.sz) (.vec bL (xs.drop (lo+1)++ys)) f1 f2 f3 f4 f5
     (fun hm => ⟨by simp [aN.push]; omega, N1, .inr ⟨b', _, by simp [aN.push], b2.setRow _ _, by rw [size_putRow]; simp [aN.push]; exact hfo, by simp [aN.push]; omega, fun i c hi l8 => by
       rw[hzl]at hi;rw[IW];rw[oE _ _ _ (by simpa using hroom)];simp only[eX,hsz];by_cases h:i<n
       ·have h2:=oU h l8;rw[aj ae,agU i h];exact(left i c h l8).mono hm
       ·obtain⟨j,rfl⟩:∃ j,i=n+j:=⟨i-n,ae⟩;have hj:j<ys.length:=ae;have h2:=oU hj l8;rw[akW,au (by rw[cj n];omega),show g.off l+(lo+1)*bL.sz+(n+j)*bL.sz+c-(g.off l+(lo+1)*bL.sz+n*bL.sz)=j*bL.sz+c by rw[cj n];omega];have:=(hh j c hj l8).mono hm;simpa using this,trivial⟩⟩)
    refine⟨_,_,_,_,_,hrun,r1,r2,.own _ _ _ _ _ _ ⟨by simp[aN.push,hR.len],by simp[aN.push,hR.len],_,_,rfl,fun _=>⟨ae,by simp[aN.push,hR.len],fun hlt=>?_⟩⟩,hK⟩;simp[aN.push,hR.len]
   obtain⟨xs',olds,p1,p2,p3,p4,p5⟩:=n_ (P:=P) (K:=fun zs=>zs=(xs.drop (lo+1)).take n) (el:=bL) hR AW (by simp[gC,hxs]);have akX:xs'=xs.drop (lo+1):=by rw[p1];exact bH ae
   subst akX;rw[N6]at p2 p3 p4;obtain⟨cap',rest,dr,k1,k2,k6⟩:=IU (P:=P) (r:=r) (base:=A) (sLen:=n) (sCap:=cap) h0 h1 hu hd' hd he hl ae hr (fun _=>p3 _ rfl) (fun _=>wJ _ rfl);have k4:=p5.append (rest:=rest) hh (by rw[N6];exact p4) hsz
   have k3:(olds++news++rest).size=cap'*bL.sz:=by
    simp only[Array.size_append,p4,hsz,k2];rw[<-cj,<-cj]
    congr 1
    omega
   obtain⟨r0,e0⟩:=hR.kill hxs rfl;have jf:=r0.drew dr;have hm:=nU g { w with drawn:=dr } (.cells (olds++news++rest) e) (n+ys.length) (some w.heap.size) cap' jf.lt
   obtain⟨r1,r2⟩:=jf.vz (.cells (olds++news++rest) e) (.vec bL (xs.drop (lo+1)++ys)) (n+ys.length) cap'
    ⟨by simp [aN.push]; omega, N1, .inr ⟨w.heap.size, _, by simp [aN.push], qW _ _ e, by simp only [aN.push, if_true, bJ]; exact k3, by simp [aN.push]; omega, fun i c hi hc => by
      rw[IW,bJ];exact((k4 i c hi hc).mono (gk.drew σ g w dr).mono).mono hm,trivial⟩⟩
   have hlen:=hR.len;refine⟨_,_,_,_,_,k6,r1,e0.trans ((gk.drew (σ.set l .dead) g w dr).trans r2),.own _ _ _ _ _ _ ⟨by simp[aN.push,hR.len],by simp[aN.push,hR.len],_,_,rfl,fun _=>⟨ae,by simp[aN.push,hR.len],fun _=>by simp[aN.push,hR.len]⟩⟩,hK⟩
  exact hK.elim
 exact EW hR h0 h1 hu hd' hd he hx hy (.inl rfl) sL
def ZC{x:AV}{v:Value}(hR:Rel g w σ)(hx:VR g w x v)(hK:yK σ x K): bU P (pure v) g w σ K:=by
 unfold yK at hK;split at hK
 ·exact .pure hR rfl hx hK
 ·exact .pure hR rfl hx hK
 ·rename_i el l m lo n;split at hK
  ·rename_i T bE xs hl;obtain⟨rfl,rfl,hn,hK⟩:=hK;cases hx with
   | own _ _ _ _ _ _ hO =>
   obtain⟨_,_,A,cap,rfl,h4⟩:=hO;obtain⟨nk,DY,hrow⟩:=hR.ok l _ hl;have hlen:((xs.drop lo).take n).length=n:=by simp;omega
   by_cases Vq:n=0
   ·subst Vq;rw[gO]at hK;obtain⟨r1,r2⟩:=hR.kill hl rfl;exact⟨_,w,_,_,_,rfl,r1,r2,.jd false bE A cap (fun h=>by cases h),hK⟩
   rcases hrow with⟨hx,_,_⟩|⟨b,vs,hb,hrow,hsz,hle,hc,_⟩
   ·subst hx;simp at hn;omega
   obtain⟨_,h6,h7⟩:=h4 nk.symm;have hlt:lo<g.cap l:=ae;have hA:=h7 hlt;rw[hb]at hA;simp only[c_]at hA;subst hA
   have hidx:∀ i c,i<n->c<bE.sz->g.off l+(lo+i)*bE.sz+c<vs.size:=fun i c h1 h2=>by
    rw[hsz];have:(lo+i)*bE.sz+bE.sz<=g.cap l*bE.sz:=by rw[<-eG];exact bM _ ae
    omega
   have hoff:∀ i c,g.off l+lo*bE.sz+(i*bE.sz+c)=g.off l+(lo+i)*bE.sz+c:=fun i c=>by rw[cj];omega
   have qE:∀ i,i<n->((xs.drop lo).take n).getD i .undef=xs.getD (lo+i) .undef:=fun i hi=>by
    simp[aq,List.getElem?_take,hi]
   obtain⟨r1,r2⟩:=hR.freeze hl rfl hb;refine⟨_,w,_,_,_,rfl,r1,r2,?_,hK⟩;have key:=VR.aS (g:=g.qT b) (w:=w) false bE ((xs.drop lo).take n) b (g.off l+lo*bE.sz) cap (.inr rfl) (fun h=>by cases h) ae (fun i h1=>?_) (fun i c h1 h2=>?_) (fun i c h1 h2=>?_)
   ·rw[hlen]at key;exact key
   ·rw[hlen]at h1;rw[qE i h1];exact DY (lo+i) ae
   ·rw[hlen]at h1;rw[hoff,hrow.cell (hidx i c h1 h2)];rfl
   rw[hlen]at h1;rw[hoff,qE i h1]
   have e1:eT w ⟨b,g.off l+(lo+i)*bE.sz+c,none⟩=vs.getD (g.off l+(lo+i)*bE.sz+c) Go.undef:=by
    simp only[eT,hrow.cell (hidx i c h1 h2),bO]
   rw[e1];exact(hc (lo+i) c ae h2).mono r2.mono
  exact hK.elim
 exact hK.elim
def Xg {ats : Array TypeId} {r sT xT e : TypeId} {d : TypeDesc} {el : El} {x y : AV} {a b : Value} (hR : Rel g w σ)
    (h0:ats[0]? = some sT) (h1:ats[1]? = some xT) (hu:P.underlying sT=some (.slice e)) (hd':P.underlying xT=some d) (hd:∀ k,d≠ .int k) (he:kg P e=some el)
    (hx:VR g w x a) (hy:VR g w y b) (sL:GW σ el x y fun v=>K v σ):bU P (Builtin.append_ ats r #[a,b]) g w σ K:=by
 obtain⟨ys,news,⟨hfit,hz,hK⟩,hl,wJ,hsz,hh⟩:=n_ (P:=P) hR hy sL
 have zS:∀ i,i<ys.length->(ys.getD i .undef).fits el=true:=fun i hi=>by
  have:=aZ.1 hfit (ys[i]) (dK _);simpa[hi]using this
 have hn:∀ dr,(Builtin.firstCells el.sz ys.length b).run P { w with drawn:=dr } = .ok news { w with drawn:=dr }:=fun dr=>wJ _ rfl
 have key:∀ (xs:List AV) (olds:Array Value) (base:Option Addr) (sCap:Nat),a = .slice base xs.length sCap->sCap<xs.length+ys.length->gw (xs.length+ys.length) el ->
  (∀ dr,(Builtin.firstCells el.sz xs.length (.slice base xs.length sCap)).run P { w with drawn:=dr } = .ok olds { w with drawn:=dr }) ->
  olds.size=xs.length*el.sz->jP g w el xs olds->(∀ i,i<xs.length->(xs.getD i .undef).fits el=true)->K (.aS false el (xs++ys)) σ->bU P (Builtin.append_ ats r #[a,b]) g w σ K:=by
  intro xs olds base sCap ha hc hr ho hos hoh hof hk;obtain⟨cap,rest,dr,k1,k2,k3⟩:=IU (P:=P) (r:=r) h0 h1 hu hd' hd he hl hc hr ho hn;have hzs:jP g w el (xs++ys) (olds++news++rest):=hoh.append hh hos hsz
  have hsize:(olds++news++rest).size=cap*el.sz:=by
   simp only[Array.size_append,hos,hsz,k2];rw[<-cj,<-cj]
   congr 1
   omega
  have N1:∀ i,i<(xs++ys).length->((xs++ys).getD i .undef).fits el=true:=fun i hi=>by
   simp only[aA]at hi;by_cases h:i<xs.length
   ·have:=hof i h;simpa[aH h]using this
   obtain⟨j,rfl⟩:∃ j,i=xs.length+j:=⟨i-xs.length,ae⟩;have:=zS j ae;simpa[bq]using this
  have jf:=hR.drew dr;have hrow:=qW { w with drawn:=dr } (olds++news++rest) e;have hm:=vy g { w with drawn:=dr } (.cells (olds++news++rest) e) jf.lt;obtain⟨r1,r2⟩:=jf.QN (.cells (olds++news++rest) e)
  have hlt:∀ i c,i<(xs++ys).length->c<el.sz->i*el.sz+c<(olds++news++rest).size:=fun i c hi hc=>by
   rw[hsize]
   have h2:i*el.sz+el.sz<=cap*el.sz:=by
    rw[<-eG];refine bM _ ?_;simp only[aA]at hi;omega
   omega
  refine⟨_,_,_,_,σ,by rw[ha];exact k3,r1,(gk.drew σ g w dr).trans r2,?_,hk⟩
  have:=VR.aS (g:=g.qT w.heap.size) (w:=World.alloc { w with drawn:=dr } (.cells (olds++news++rest) e)) false el (xs++ys) w.heap.size 0 cap (.inr rfl) (fun h=>by cases h) (by simpa using k1) N1
   (fun i c hi hc=>by rw[bJ,hrow.cell (hlt i c hi hc)];rfl)
   (fun i c hi hc => by
     have e1:eT (World.alloc { w with drawn:=dr } (.cells (olds++news++rest) e)) ⟨w.heap.size,0+(i*el.sz+c),none⟩=(olds++news++rest).getD (i*el.sz+c) Go.undef:=by
      unfold eT;rw[Nat.zero_add,hrow.cell (hlt i c hi hc)];rfl
     rw[e1];exact((hzs i c hi hc).mono (gk.drew σ g w dr).mono).mono hm)
  simpa using this
 cases hx<;>(try exact False.elim hK)
 case aU =>
  exact key [] #[] none 0 rfl (by simp;omega) (by simpa using hK.1) (fun _=>rfl) aR (fun i c hi=>absurd hi (c9 _)) (fun i hi=>absurd hi (c9 _)) hK.2
 case jd f bE base cap hf =>
  cases f with
  | false=>exact hK.elim
  | true =>
    obtain⟨rfl,hr,hK⟩:=hK;have hcap:cap=0:=hf rfl;subst hcap;exact key [] #[] base 0 rfl (by simp;omega) (by simpa using hr) (fun _=>by cases base<;>simp[Builtin.firstCells,loadCells,loadCellsFrom]) aR (fun i c hi=>absurd hi (Nat.not_lt_zero _)) (fun i hi=>absurd hi (Nat.not_lt_zero _)) hK
 case aS f bE xs b' off cap EN hf zP ft hc h =>
  cases f with
  | false=>exact hK.elim
  | true =>
    obtain⟨rfl,hr,hK⟩:=hK;have hcap:cap=xs.length:=hf rfl;subst hcap;have AW:VR g w (.aS true bE xs) (.slice (some ⟨b',off,none⟩) xs.length xs.length):= .aS true bE xs b' off _ EN hf zP ft hc h;obtain⟨xs',olds,q1,q2,q3,q4,q5⟩:=n_ (P:=P) (K:=fun zs=>zs=xs) (el:=bE) hR AW (by simp[gC]);subst q1;exact key xs' olds _ xs'.length rfl ae hr (fun _=>q3 _ rfl) q4 q5 ft hK
def sN {lo : Option AV} {hi mx : AV} {vl : Option Value} {vh vm : Value} {len cap ace : Nat} {K : Nat -> Nat -> Nat -> Prop} (hl : nZ g w lo vl) (hh : VR g w hi vh) (hm : VR g w mx vm) (iJ : ace <= cap)
    (hK:mc lo hi mx ace K) :
    ∃ l h m:Nat,l<=h/\h<=m/\m<=ace/\(Instr.sliceBounds true len cap vl (some vh) (some vm)).run P w = .ok (l,h,m) w/\K l h m:=by
 unfold mc at hK;cases hm<;>simp only[bound]at hK;rename_i k1 m;obtain⟨m0,m1,hK⟩:=hK;cases hh<;>simp only[bound]at hK;rename_i k2 h;obtain⟨h0,h1,hK⟩:=hK;have e1:=nY (P:=P) (w:=w) (k:=k1) (code:= .slice3Acap) m0 (show m<=(cap:Int) by omega);have e2:=nY (P:=P) (w:=w) (k:=k2) (code:= .slice3B) h0 (show h<=(m.toNat:Int) by omega)
 obtain⟨l,lb,r1,r2⟩:∃ l:Nat,l<=h.toNat/\(match vl with|some v=>Instr.sliceBound v h.toNat .slice3C|none=>Pure.pure 0:Sem Nat).run P w = .ok l w/\K l h.toNat m.toNat:=by
  cases lo with
  | none => cases vl with
    | none=>exact⟨0,ew _,rfl,hK⟩
    | some v=>exact hl.elim
  | some u => cases vl with
    | none=>exact hl.elim
    | some v =>
      have hl':VR g w u v:=hl;cases hl'<;>simp only[bound]at hK
      case int k i=>exact⟨i.toNat,ae,nY hK.1 hK.2.1,hK.2.2⟩
 refine⟨l,h.toNat,m.toNat,lb,ae,ae,?_,r2⟩;cases vl<;>simp_all[Instr.sliceBounds]
def E0 {t e : TypeId} {el : El} {x hi mx : AV} {a vh vm : Value} {lo : Option AV} {vl : Option Value} (hR : Rel g w σ) (hu : P.underlying t = some (.slice e)) (he : kg P e = some el)
    (hx:VR g w x a) (hl:nZ g w lo vl) (hh:VR g w hi vh) (hm:VR g w mx vm) (hK:AP σ el x lo hi mx K):bU P (Instr.sliceAt t a vl (some vh) (some vm)) g w σ K:=by
 obtain⟨fi,hi',_,hs,_⟩:=jb he
 have run:∀ (A:Option Addr) (len cap l h m:Nat),(Instr.sliceBounds true len cap vl (some vh) (some vm)).run P w = .ok (l,h,m) w ->
  (Instr.sliceAt t (.slice A len cap) vl (some vh) (some vm)).run P w = .ok (.slice (if m=l then A else A.map (·.add (l*el.sz))) (h-l) (m-l)) w:=fun A len cap l h m hb=>by
  simp only[Instr.sliceAt,Sem.run_bind,bp hu,Result.andThen_ok,Instr.slice,hb,ef hi',hs,Sem.run_pure]
 have agV:∀ {g:aN} {w:World} {xs:List AV} {b off cap l h m:Nat},g.fE b->xs.length<=cap->h<=xs.length->l<h->h<=m->(∀ i,i<xs.length->(xs.getD i .undef).fits el=true) ->
  (∀ i c,i<xs.length->c<el.sz->(w.cell? ⟨b,off+(i*el.sz+c),none⟩).isSome=true)->(∀ i c,i<xs.length->c<el.sz->VR g w ((xs.getD i .undef).cell c) (eT w ⟨b,off+(i*el.sz+c),none⟩)) ->
  VR g w (.aS (h==m) el ((xs.drop l).take (h-l))) (.slice (some ⟨b,off+l*el.sz,none⟩) (h-l) (m-l)):=by
  intro g w xs b off cap l h m EN zP Rc hlt hhm ft hc h';have hlen:((xs.drop l).take (h-l)).length=h-l:=by simp;omega
  have qE:∀ i,i<h-l->((xs.drop l).take (h-l)).getD i .undef=xs.getD (l+i) .undef:=fun i hi=>je hi;have hoff:∀ i c,off+l*el.sz+(i*el.sz+c)=off+((l+i)*el.sz+c):=fun i c=>by rw[cj];omega
  have:=VR.aS (g:=g) (w:=w) (h==m) el ((xs.drop l).take (h-l)) b (off+l*el.sz) (m-l) EN (fun e=>by rw[hlen];have:=beq_iff_eq.1 e;omega) (by rw[hlen];omega)
   (fun i hi=>by rw[hlen]at hi;rw[qE i hi];exact ft _ ae)
   (fun i c hi iJ=>by rw[hlen]at hi;rw[hoff];exact hc _ c ae iJ)
   (fun i c hi iJ=>by rw[hlen]at hi;rw[qE i hi,hoff];exact h' _ c ae iJ)
  rwa[hlen]at this
 unfold AP at hK;cases hx<;>simp only at hK
 case aU =>
  obtain⟨l,h,m,q1,q2,q3,q4,q5⟩:=sN (P:=P) (len:=0) (cap:=0) hl hh hm (bf _) hK;have:h=0/\l=0/\m=0:=ae;obtain⟨rfl,rfl,rfl⟩:=this;refine bU.pure hR (run none 0 0 0 0 0 q4) ?_ q5;simpa using VR.aU
 case jd f bE b cap hf =>
  obtain⟨rfl,hK⟩:=hK;obtain⟨l,h,m,q1,q2,q3,q4,q5⟩:=sN (P:=P) (len:=0) (cap:=cap) hl hh hm (ew _) hK;have q3:m<=0:=q3;have:h=0/\l=0/\m=0:=ae;obtain⟨rfl,rfl,rfl⟩:=this;refine bU.pure hR (run b 0 cap 0 0 0 q4) ?_ q5;simpa using VR.jd (g:=g) (w:=w) true bE b 0 aR
 case aS f bE xs b off cap EN hf zP ft hc h =>
  obtain⟨rfl,hK⟩:=hK;obtain⟨l,h',m,q1,q2,q3,q4,q5⟩:=sN (P:=P) (len:=xs.length) (cap:=cap) hl hh hm zP hK;refine bU.pure hR (run _ _ _ _ _ _ q4) ?_ q5;by_cases e:h'=l
  ·subst e;simpa using VR.jd (h'==m) _ _ (m-h') (fun e=>by have:=beq_iff_eq.1 e;omega)
  rw[aj ae];simp only[c_,add_plain];exact agV EN zP ae ae q2 ft hc h
 case own bE l0 m0 o n h =>
  obtain⟨rfl,hK⟩:=hK;obtain⟨q1,q2,A,cap,rfl,q3⟩:=h;split at hK
  ·rename_i T bL xs hxs;obtain⟨rfl,rfl,tZ,hK⟩:=hK;obtain⟨o1,o2,o3⟩:=hR.ok l0 _ hxs;obtain⟨q4,q5,q6⟩:=q3 o1.symm
   have hcap:xs.length<=g.cap l0:=by
    rcases o3 with⟨rfl,_,_⟩|⟨b,vs,b1,b2,b3,b4,b5⟩
    ·exact ew _
    exact b4
   obtain⟨l,h',m,p1,p2,p3,p4,p5⟩:=sN (P:=P) (len:=n) (cap:=cap) hl hh hm ae hK;split at p5
   ·rename_i e;subst e;have:h'=m:=ae;subst this;refine bU.pure hR (run _ _ _ _ _ _ p4) ?_ p5;simpa using VR.jd (g:=g) (w:=w) true bL A 0 aR
   rename_i e;obtain⟨rfl,p5⟩:=p5;rcases o3 with⟨rfl,_,_⟩|⟨b,vs,b1,b2,b3,b4,b5,_⟩
   ·simp at q4;omega
   have q7:=q6 ae;rw[b1]at q7;simp only[c_]at q7;subst q7;obtain⟨r1,r2⟩:=hR.freeze hxs rfl b1;refine⟨_,w,g.qT b,_,_,run _ _ _ _ _ _ p4,r1,r2,?_,p5⟩;rw[aj ae];simp only[c_,add_plain]
   have hlt:∀ i c,i<xs.length->c<bL.sz->g.off l0+(i*bL.sz+c)<vs.size:=fun i c hi hc=>by
    rw[b3];have:i*bL.sz+bL.sz<=g.cap l0*bL.sz:=by rw[<-eG];exact bM _ ae
    omega
   have hcell:∀ i c,i<xs.length->c<bL.sz->w.cell? ⟨b,g.off l0+(i*bL.sz+c),none⟩=some (vs.getD (g.off l0+i*bL.sz+c) Go.undef):=fun i c hi hc=>by
    rw[b2.cell (hlt i c hi hc),dB]
   have:=agV (g:=g.qT b) (w:=w) (xs:=xs) (b:=b) (off:=g.off l0) (cap:=xs.length) (l:=o+l) (h:=o+h') (m:=o+h') (.inr rfl) (bf _) ae ae (bf _) o2
    (fun i c hi hc=>by rw[hcell i c hi hc];rfl)
    (fun i c hi hc => by
      have e1:eT w ⟨b,g.off l0+(i*bL.sz+c),none⟩=vs.getD (g.off l0+i*bL.sz+c) Go.undef:=by unfold eT;rw[hcell i c hi hc];rfl
      rw[e1];exact(b5 i c hi hc).mono r2.mono)
   rw[show (o+h')-(o+l)=h'-l by omega]at this;rw[dB,<-cj];simpa using this
  exact hK.elim
def Xh {t e : TypeId} {el : El} {x hi mx : AV} {a vh vm : Value} {lo : Option AV} {vl : Option Value} (hR : Rel g w σ) (hu : P.underlying t = some (.slice e)) (he : kg P e = some el)
    (hx:VR g w x a) (hl:nZ g w lo vl) (hh:VR g w hi vh) (hm:VR g w mx vm) (hK:v8 el x lo hi mx fun v=>K v σ):bU P (Instr.sliceAt t a vl (some vh) (some vm)) g w σ K:=by
 unfold v8 at hK;split at hK
 ·exact E0 hR hu he hx hl hh hm hK
 ·exact E0 hR hu he hx hl hh hm hK
 ·rename_i bE l0 m0 o n;obtain⟨rfl,hK⟩:=hK;obtain⟨fi,hi',_,hs,_⟩:=jb he;cases hx with
  | own bE l0 m0 o n v h =>
  obtain⟨q1,q2,A,cap,rfl,q3⟩:=h;obtain⟨l,h,m,p1,p2,p3,p4,p5⟩:=sN (P:=P) (len:=n) (cap:=cap) hl hh hm (ew _) hK;have:h=0/\l=0/\m=0:=ae;obtain⟨rfl,rfl,rfl⟩:=this;refine bU.pure hR (v:= .slice A 0 0) ?_ (.jd true _ A 0 aR) p5;simp only[Instr.sliceAt,Sem.run_bind,bp hu,Result.andThen_ok,Instr.slice,p4,ef hi',hs,Sem.run_pure];simp
 exact hK.elim
def ZD {T xt : TypeId} {d : TypeDesc} {ok : Bool} {zero x : AV} {a : Value} (hR : Rel g w σ) (hu : P.underlying T = some d) (hd : ∀ l, d ≠ .interface l) (hz : me P T = some zero) (hx : VR g w x a)
    (hK:yJ T ok zero x fun v=>K v σ):bU P (Instr.typeAssert a xt T ok) g w σ K:=by
 obtain⟨z,Zx,Zy⟩:=yL hz w;unfold yJ at hK;cases hx<;>(try exact False.elim hK)
 case jR =>
  obtain⟨rfl,hK⟩:=hK;refine bU.pure hR (v:= .tuple #[z,.bool false]) ?_ (vB (ok:=true) (Zy g w).1) hK;cases d<;>first|exact absurd rfl (hd _)|simp[Instr.typeAssert,bp hu,Zx]
 case kR t y v h =>
  simp only at hK;split at hK
  ·rename_i e;subst e;refine bU.pure hR (v:=if ok then .tuple #[v,.bool true]else v) ?_ (vB h) hK;cases d<;>first|exact absurd rfl (hd _)|simp[Instr.typeAssert,bp hu]
  rename_i e;obtain⟨rfl,hK⟩:=hK;refine bU.pure hR (v:= .tuple #[z,.bool false]) ?_ (vB (ok:=true) (Zy g w).1) hK;cases d<;>first|exact absurd rfl (hd _)|simp[Instr.typeAssert,bp hu,Zx,e]
end
def DZ(g:aN)(w:World)(σ : ai)(a:Act)(dst:Option Tmp)(K:AV->ai->Prop)(a':Act)(w':World): Prop :=
 ∃ v g' av σ',a'=a.put dst v/\Rel g' w' σ'/\gk σ g w σ' g' w'/\VR g' w' av v/\K av σ'
def HR(g:aN)(w:World)(σ : ai)(a:Act)(Kp:AV->ai->Prop)(ex:Exit)(a':Act)(w':World): Prop :=
 a'=a/\ ∃ v g' av σ',ex = .panic [{ v,recovered:=false }]/\Rel g' w' σ'/\gk σ g w σ' g' w'/\VR g' w' av v/\Kp av σ'
abbrev WF(ro:Option Nat): Fence:= { Fence.wide with round:=ro }
def Mm(ro:Option Nat)(n:Nat): (WF ro).room n:=fun _ h=>by simp[WF,Fence.wide]at h
def Mn{ro:Option Nat}{n:Nat}{P:Program}{f:FuncId}{args:Array Value}{w:World}{R:Ending->World->Prop}: CallsIn (WF ro) n P f args w R↔Calls P f args w R:=callsIn_wide (n:=n)
def zU(o:Oper): Prop:= ∀ c,o.op≠ .defer c
section
variable {P:Program} {g:aN} {w:World} {σ : ai} {K Kp:AV->ai->Prop} {ro:Option Nat} {wn:Nat}
def qv{o:Oper}{a:Act}{next:Act->World->Prop}{Q:Exit->Act->World->Prop}(hnd:zU o)(h:o.uponIn (WF ro) wn P a next Q ((execOp a.eval o).run P w)): o.wpIn (WF ro) wn P a w next Q:=by
 refine⟨fun _ _=>trivial,?_⟩;rw[Oper.semAt_eq _ _ _ hnd];exact h
def oF{o:Oper}{a:Act}{v:Value}{w':World}{next:Act->World->Prop}{Q:Exit->Act->World->Prop}(hnd:zU o)(h:(execOp a.eval o).run P w = .ok (.value v) w')(hn:next (a.put o.dst v) w'): o.wpIn (WF ro) wn P a w next Q:=by
 refine qv hnd ?_;rw[h];exact hn
def eH{o:Oper}{a:Act}{s:Sem Value}{Q:Exit->Act->World->Prop}(hnd:zU o)(h:bU P s g w σ K)(hs:execOp a.eval o=(do pure (.value (← s)):Sem Next)): o.wpIn (WF ro) wn P a w (DZ g w σ a o.dst K) Q:=by
 obtain⟨v,w',g',av,σ',h1,h2,h3,h4,h5⟩:=h;refine oF hnd (v:=v) (w':=w') ?_ ⟨v,g',av,σ',rfl,h2,h3,h4,h5⟩;rw[hs];simp[h1]
def wK{o:Oper}{a:Act}{v:Value}{av:AV}{Q:Exit->Act->World->Prop}(hnd:zU o)(hR:Rel g w σ)(hs:(execOp a.eval o).run P w = .ok (.value v) w)(hv:VR g w av v)(hk:K av σ): o.wpIn (WF ro) wn P a w (DZ g w σ a o.dst K) Q :=
 oF hnd hs ⟨v,g,av,σ,rfl,hR,.refl _ _ _,hv,hk⟩
def nr{nt:Nat}{x:Option Operand}{ax:Option AX}{e:Env}{a:Act}(h:Vj nt x=some ax)(hE:iG nt g w e a.tmps): nZ g w (ax.map (AX.ev e)) (x.map a.eval):=by
 cases x with
 | none=>cases h;trivial
 | some x =>
   simp only[Vj,bg]at h;obtain⟨b,h1,rfl⟩:=h;exact cV h1 hE
def vC {nt : Nat} {xs : Array Operand} {az : List AX} {e : Env} {a : Act} (h : EI nt xs.toList = some az) (hE : iG nt g w e a.tmps) :
    (az.map (AX.ev e)).length=(xs.map a.eval).size/\ ∀ i,i<(az.map (AX.ev e)).length->VR g w ((az.map (AX.ev e)).getD i .undef) ((xs.map a.eval).getD i Go.undef):=by
 obtain⟨h1,h2⟩:=afd h hE;refine⟨by simp[h1],fun i hi=>?_⟩;have:=h2 i (by simpa using hi);simpa using this
def CV {az bs : List AV} {us vs : Array Value} (h1 : az.length = us.size) (h2 : ∀ i, i < az.length -> VR g w (az.getD i .undef) (us.getD i Go.undef)) (h3 : bs.length = vs.size) (h4 : ∀ i, i < bs.length -> VR g w (bs.getD i .undef) (vs.getD i Go.undef)) :
    (az++bs).length=(us++vs).size/\ ∀ i,i<(az++bs).length->VR g w ((az++bs).getD i .undef) ((us++vs).getD i Go.undef):=by
 refine⟨by simp[h1,h3],fun i hi=>?_⟩;simp only[aA]at hi;by_cases h:i<az.length
 ·have:=h2 i h;have h5:i<us.size:=ae;simpa[aH h,e8 h5]using this
 obtain⟨j,rfl⟩:∃ j,i=az.length+j:=⟨i-az.length,ae⟩;have:=h4 j ae;rw[h1];have e1:(az++bs).getD (us.size+j) .undef=bs.getD j .undef:=by rw[<-h1];simp[bq]
 have e2:(us++vs).getD (us.size+j) Go.undef=vs.getD j Go.undef:=by
  rw[eW,Array.getElem?_append_right ae];simp
 rw[e1,e2];exact this
def ZE{f:AX}{args:List AX}{e:Env}{K Kp:AV->ai->Prop}(h:(bA.tK f args).run P e σ K Kp): (bA.call false f args).run P e σ K Kp:=by
 simp only[bA.run]at *;split at h
 ·rename_i n hf;unfold GU at h;split at h
  ·rename_i a r ha;obtain⟨l,ob,nJ,r,_,_,_,h4,h5⟩:=h;simp only[hf,aP,if_false,bX,bW];exact h4.mono fun o s ⟨e1,e2⟩=>by subst e1;subst e2;exact h5
  exact h.elim
 exact h.elim
def Xi{m q:Bool}{f:AX}{args:List AX}{e:Env}{K Kp:AV->ai->Prop}(h:(Zh m q f args).run P e σ K Kp): ∃ q,(bA.call q f args).run P e σ K Kp:=by
 cases m
 ·exact⟨q,h⟩
 exact⟨false,ZE h⟩
def acf{l:List (Nat × El)}{m q:Bool}{f:AX}{args:List AX}{e:Env}{K Kp:AV->ai->Prop}(h:(ab4 l m q f args).run P e σ K Kp): ∃ q,(bA.call q f args).run P e σ K Kp:=by
 unfold ab4 at h;split at h
 ·rename_i p l' n;refine⟨false,?_⟩
  have hk:∃ r σ2,cK P n ((args.map (AX.ev e))) σ (fun o σ'=>o = .ret r/\σ' = σ2)/\K r σ2:=by
   replace h:gu.run P (.cw n args.length _) (args.map (AX.ev e)) σ K Kp:=h
   generalize hz:args.map (AX.ev e)=zs at h;cases zs with
   | nil=>exact h.elim
   | cons z zs =>
     obtain⟨r,s2,h1,_,h3⟩:=h;rw[<-hz,bH aR,hz]at h1;exact⟨r,s2,h1,h3⟩
  obtain⟨r,s2,h1,h3⟩:=hk;simp only[bA.run,AX.ev,aP,if_false,bX,bW];exact h1.mono fun o s ⟨e1,e2⟩=>by subst e1;subst e2;exact h3
 exact Xi h
def acg{p:Bool}{l:List (Nat × El)}{m q:Bool}{f:AX}{args:List AX}{e:Env}{K Kp:AV->ai->Prop}(h:(ab5 p l m q f args).run P e σ K Kp): ∃ q,(bA.call q f args).run P e σ K Kp:=by
 unfold ab5 at h;split at h
 ·rename_i n;refine⟨false,?_⟩;obtain⟨o,h1,h2⟩:∃ o,(∀ s,cK P n (args.map (AX.ev e)) s fun o' s'=>o'=o/\s'=s)/\pcK (fun r=>K r σ) (fun v=> ∀ s,Kp v s) o:=h;simp only[bA.run,AX.ev,aP,if_false,bX,bW];refine(h1 σ).mono fun o' s ⟨e1,e2⟩=>?_;subst e1;subst e2;cases o' with
  | ret r=>exact h2
  | panic v=>exact h2 _
 exact acf h
def Vr {o : Oper} {a : Act} {f : FuncId} {vs : Array Value} {args : List AV} (hnd : zU o) (hex : (execOp a.eval o).run P w = .ok (.enter f vs) w) (hR : Rel g w σ) (hl : args.length = vs.size)
    (h : ∀ i, i < args.length -> VR g w (args.getD i .undef) (vs.getD i Go.undef)) (hc : cK P f args σ fun
      | .ret r,σ'=>K r σ'
      | .panic r,σ'=>Kp r σ'):o.wpIn (WF ro) wn P a w (DZ g w σ a o.dst K) (HR g w σ a Kp):=by
 refine qv hnd ?_;rw[hex];refine⟨fun h=>by simp[WF,Fence.wide]at h,Mn.2 ((hc.2 g w vs hR hl h).mono ?_)⟩;rintro e w' ⟨out,g',σ',h1,h2,h3,h4⟩;cases out with
 | ret r =>
   cases e with
   | returned v=>exact⟨v,g',r,σ',rfl,h1,h2,h3,h4⟩
   | panicked c=>exact h3.elim
   | outgrown=>exact h3.elim
 | panic r =>
   cases e with
   | returned v=>exact h3.elim
   | panicked c=>obtain⟨v,rfl,h3⟩:=h3;exact⟨rfl,v,g',r,σ',rfl,h1,h2,h3,h4⟩
   | outgrown=>exact h3.elim
def ach {o : Oper} {a : Act} {l b : Nat} {vs : Array Value} {args : List AV} (hnd : zU o) (hex : (execOp a.eval o).run P w = (Instr.yield b vs).run P w) (hR : Rel g w σ) (hb : g.ver l = 0 -> g.base l = some b) (hl : args.length = vs.size)
    (h : ∀ i, i < args.length -> VR g w (args.getD i .undef) (vs.getD i Go.undef)) (hc : wD P l args σ fun
      | .ret r,σ'=>K r σ'
      | .panic r,σ'=>Kp r σ'):o.wpIn (WF ro) wn P a w (DZ g w σ a o.dst K) (HR g w σ a Kp):=by
 refine qv hnd ?_;obtain⟨⟨nt,e,ps,ca,cb,st,pe,ho⟩,hc⟩:=hc;have nk:=(hR.ok l _ ho).1;obtain⟨fn,tmps,ca,cb,r1,r2⟩:=hc g w vs b hR (hb nk) hl h;rw[hex,r1];refine⟨fun h=>by simp[WF,Fence.wide]at h,?_⟩;have r3:RoundIn (WF ro) (wn-1) P b fn tmps ca cb w _:=⟨trivial,fun c cs _=>r2.2 c cs (room_wide _)⟩;refine r3.mono ?_;rintro e w' ⟨out,g',σ',h1,h2,h3,h4⟩;cases out with
 | ret r =>
   cases e with
   | returned v=>exact⟨v,g',r,σ',rfl,h1,h2,h3,h4⟩
   | panicked c=>exact h3.elim
   | outgrown=>exact h3.elim
 | panic r =>
   cases e with
   | returned v=>exact h3.elim
   | panicked c=>obtain⟨v,rfl,h3⟩:=h3;exact⟨rfl,v,g',r,σ',rfl,h1,h2,h3,h4⟩
   | outgrown=>exact h3.elim
def Mp{d:TypeDesc}{kd:Option IntKind}(h:G0 d=some kd): xn kd d=true:=by
 cases d<;>simp[G0]at h<;>subst h<;>simp[xn]
def N7 {o : Oper} {a : Act} {t key elem : TypeId} {d : TypeDesc} {kd : Option IntKind} {x k y : AV} {m v u : Value} (hnd : zU o) (hR : Rel g w σ) (ht : P.underlying t = some (.map key elem)) (hkey : P.underlying key = some d) (hd : xn kd d = true)
    (hx:VR g w x m) (hv:VR g w k v) (hu:VR g w y u) (hex:execOp a.eval o=(do Instr.mapUpdate t m v u;Pure.pure .skip:Sem Next))
    (hK:gu.run P (.wE kd) [x,k,y] σ K Kp):o.wpIn (WF ro) wn P a w (DZ g w σ a o.dst K) (HR g w σ a Kp):=by
 unfold gu.run at hK;split at hK<;>(try (rename_i h1 h2;cases h1;done))<;>(try (rename_i h1;cases h1;done))<;>(try exact hK.elim);rename_i l k' v' h1 h2;cases h1;cases h2;obtain⟨hk,hK⟩:=hK;split at hK
 ·rename_i es Vp;split at hK
  ·rename_i es' hs;obtain⟨w',r1,r2,r3⟩:=Rb hR ht hkey hd hx hv hu hk Vp hs;refine qv hnd ?_;have:(execOp a.eval o).run P w = .ok .skip w':=by rw[hex];simp[r1]
   rw[this];exact⟨.tuple #[],g,.bR [],_,rfl,r2,r3,.bR [] #[] rfl (fun i hi=>absurd hi (c9 _)),hK⟩
  exact hK.elim
 exact hK.elim
def E5{f:FuncId}(h:Has P f)(args:Array Value)(w:World): (callFunc f args).run P w = .ok (.enter f args) w:=by
 obtain⟨fn,h1,h2,h3⟩:=h;have h4:fn.body.isNone=false:=by cases hb:fn.body<;>simp_all
 simp only[callFunc,Sem.run_bind,run_program,Result.andThen_ok,h1,h3,h4,aP,if_false,Sem.run_pure]
def Re {nt : Nat} {h : Hints} {dr : Bool} {o : Oper} {ao : bA} {e : Env} {a : Act} (hc : wH P nt h dr o = some ao) (hR : Rel g w σ) (hE : iG nt g w e a.tmps) (hK : ao.run P e σ K Kp) :
    o.wpIn (WF ro) wn P a w (DZ g w σ a o.dst K) (HR g w σ a Kp):=by
 have hnd:zU o:=fun c hop=>by simp[wH,hop]at hc
 unfold wH at hc;cases hop:o.op<;>simp only[hop]at hc<;>(try (cases hc;done))
 case move x =>
  simp only[bg]at hc;obtain⟨ax,h1,rfl⟩:=hc;by_cases hb:(!dr && EK o.dst h.IP)=true
  ·rw[au hb]at hK;exact eH hnd (ZC (P:=P) hR (cV h1 hE) hK) (by simp[execOp,hop])
  rw[aj hb]at hK;exact wK hnd hR (by simp[execOp,hop]) (cV h1 hE) hK
 case assign x =>
  have mv:∀ ax,cX nt x=some ax->bA.run P (.mv ax) e σ K Kp->o.wpIn (WF ro) wn P a w (DZ g w σ a o.dst K) (HR g w σ a Kp):=fun ax h1 hK =>
   wK hnd hR (by simp[execOp,hop]) (cV h1 hE) hK
  split at hc
  ·rename_i el hel;split at hc
   ·rename_i kY;cases hc
    have hx:a.eval x = .slice none 0 0:=by
     cases x with
     | const v =>
       cases v with
       | slice p l c =>
         cases p with
         | none=>simp[pJ]at kY;obtain⟨rfl,rfl⟩:=kY;rfl
         | some p=>simp[pJ]at kY
       | _=>simp[pJ]at kY
     | _=>simp[pJ]at kY
    obtain⟨r1,r2⟩:=hR.lu el;refine oF hnd (v:= .slice none 0 0) (w':=w) (by simp[execOp,hop,hx]) ⟨_,_,_,_,rfl,r1,r2,.own _ _ _ _ _ _ ⟨by simp[aN.push,hR.len],ew _,_,_,rfl,fun _=>⟨ae,by simp[aN.push,hR.len],fun h=>by simp[aN.push,hR.len]at h⟩⟩,hK⟩
   simp only[bg]at hc;obtain⟨ax,h1,rfl⟩:=hc;exact mv ax h1 hK
  simp only[bg]at hc;obtain⟨ax,h1,rfl⟩:=hc;exact mv ax h1 hK
 case pick c x y =>
  split at hc
  ·rename_i ac ax ay h1 h2 h3;cases hc;have hv:=cV h1 hE;simp only[bA.run]at hK;generalize AX.ev e ac=z at hv hK;generalize fc:a.eval c=cv at hv;cases hv<;>simp only at hK;rename_i t;refine wK hnd (v:=if t then a.eval x else a.eval y) hR (by simp[execOp,hop,fc,asBool]) ?_ hK;cases t
   ·exact cV h3 hE
   exact cV h2 hE
  ·cases hc
 case alloc t =>
  split at hc
  ·rename_i z hz;split at hc
   ·simp only[Option.some.injEq]at hc;subst hc;exact eH hnd (TY (EJ _ _) hR hz hK) (by simp[execOp,hop])
   ·cases hc
  ·cases hc
 case box t x =>
  simp only[bg]at hc;obtain⟨ax,h1,h2⟩:=hc;split at h2<;>subst h2<;>simp only[bA.run]at hK
  ·exact eH hnd (W2 (t:=t) hR (cV h1 hE) hK.1 hK.2) (by simp[execOp,hop])
  exact eH hnd (Zi (t:=t) hR (cV h1 hE) hK.1 hK.2) (by simp[execOp,hop])
 case build t parts =>
  split at hc
  ·rename_i z fs hz hu;split at hc
   ·rename_i hh;simp only[aD]at hh;simp only[bg]at hc;obtain⟨ps,h1,rfl⟩:=hc;exact eH hnd (EP hR hE hz hh.2 hu hh.1 h1 hK) (by simp[execOp,hop])
   ·cases hc
  ·rename_i z n el hz hu;split at hc
   ·rename_i hh;simp only[aD,gj]at hh;obtain⟨⟨fi,hi⟩,_⟩:=hh;simp only[bg]at hc;obtain⟨ps,h1,rfl⟩:=hc;exact eH hnd (Hv hR hE hz hu hi h1 hK) (by simp[execOp,hop])
   ·cases hc
  ·cases hc
 case buildSlice t n parts =>
  split at hc
  ·rename_i el hu;split at hc
   ·rename_i bE z he hz;split at hc
    ·rename_i hh;simp only[aD,aM]at hh;simp only[bg]at hc;obtain⟨ps,h1,rfl⟩:=hc;exact eH hnd (Q7 hR hE hu he hz hh.1 hh.2 h1 hK) (by simp[execOp,hop])
    ·cases hc
   ·cases hc
  ·cases hc
 case load t x =>
  split at hc
  ·rename_i ag i ax hA hi h1;split at hc
   ·rename_i hh;cases hc;exact eH hnd (W4 hR hA hi (fun e=>by simpa[e]using hh) (cV h1 hE) hK) (by simp[execOp,hop])
   ·cases hc
  ·cases hc
 case store t x y =>
  split at hc
  ·rename_i i ax ay hi h1 h2;cases hc;obtain⟨w',g',σ',r1,r2,r3,r4⟩:=T0 (P:=P) hR hi (cV h1 hE) (cV h2 hE) hK;refine qv hnd ?_;have:(execOp a.eval o).run P w = .ok .skip w':=by simp[execOp,hop,r1]
   rw[this];exact⟨_,g',.bR [],σ',rfl,r2,r3,.bR [] #[] rfl (fun i hi=>absurd hi (c9 _)),r4⟩
  ·cases hc
 case nilCheck x =>
  simp only[bg]at hc;obtain⟨ax,h1,rfl⟩:=hc;obtain⟨v,w',g',av,σ',r1,r2,r3,r4,r5⟩:=T3 (P:=P) (K:=K) hop rfl hR (cV h1 hE) hK;exact oF hnd r1 ⟨v,g',av,σ',rfl,r2,r3,r4,r5⟩
 case binOp op t x y yt =>
  have hs:∀ {K:AV->ai->Prop},bU P (do eqGuard op t x y (a.eval x) (a.eval y);binOp op t (a.eval x) (a.eval y)) g w σ K->o.wpIn (WF ro) wn P a w (DZ g w σ a o.dst K) (HR g w σ a Kp):=fun hh =>
   eH hnd hh (by simp[execOp,hop])
  split at hc
  ·rename_i ax ay h1 h2;have v1:=cV h1 hE;have v2:=cV h2 hE;split at hc
   ·cases hc;exact hs (Kn hR v1 v2 hK)
   ·cases hc;exact hs (Kn hR v1 v2 hK)
   ·rename_i te hu;split at hc
    ·rename_i hn
     have hy:a.eval y = .slice none 0 0:=by
      unfold pJ at hn;split at hn
      ·rename_i l c;simp only[aD,beq_iff_eq]at hn;rw[hn.1,hn.2];rfl
      ·cases hn
     rw[hy]at hs;split at hc
     ·split at hc
      ·cases hc;exact hs (Kt (op:= .eql) (.inl rfl) hR hu v1 hK)
      ·cases hc
     ·split at hc
      ·cases hc;exact hs (Kt (op:= .neq) (.inr rfl) hR hu v1 hK)
      ·cases hc
     ·cases hc
    ·cases hc
   ·rename_i d _ _ _ hu;split at hc
    ·rename_i k hk;split at hc
     ·split at hc
      ·rename_i te _ hpt;split at hc
       ·rename_i i _ hi;cases hc;exact hs (N3 (op:= .eql) (.inl ⟨rfl,rfl⟩) hR hu hi v1 v2 hK)
       ·rename_i i _ hi;cases hc;exact hs (N3 (op:= .neq) (.inr ⟨rfl,rfl⟩) hR hu hi v1 v2 hK)
       ·cases hc
      ·cases hc
     split at hc
     ·rename_i hn;simp only[cH]at hn;split at hc
      ·cases hc;refine hs (HQ (op:= .eql) (.inl rfl) hR hu hk hn v1 v2 ?_);simp only[bA.run]at hK;generalize pG k (AX.ev e ax) (AX.ev e ay)=r at hK ⊢;cases r<;>exact hK
      ·cases hc;refine hs (HQ (op:= .neq) (.inr rfl) hR hu hk hn v1 v2 ?_);simp only[bA.run]at hK;generalize pG k (AX.ev e ax) (AX.ev e ay)=r at hK ⊢;cases r<;>exact hK
      ·cases hc
     ·cases hc
    split at hc
    ·rename_i ks ag i hf hA hi;split at hc
     ·rename_i hh;simp only[aD,beq_iff_eq,cH,ey]at hh
      have hg:ag=true->P.eqGuardType P.depth t=false:=fun e=>by
       rcases hh.2 with h|h
       ·rw[e]at h;cases h
       exact h
      split at hc
      ·cases hc;exact hs (NY (op:= .eql) (.inl rfl) hR hf hA hi hh.1 hg v1 v2 hK)
      ·cases hc;exact hs (NY (op:= .neq) (.inr rfl) hR hf hA hi hh.1 hg v1 v2 hK)
      ·cases hc
     ·cases hc
    ·cases hc
   ·cases hc
  ·cases hc
 case unOp op t x =>
  simp only[bg]at hc;obtain⟨ax,h1,rfl⟩:=hc;exact eH hnd (ab6 hR (cV h1 hE) hK) (by simp[execOp,hop])
 case convert s d x =>
  have hs:bU P (convert s d (a.eval x)) g w σ K->o.wpIn (WF ro) wn P a w (DZ g w σ a o.dst K) (HR g w σ a Kp):=fun hh=>eH hnd hh (by simp[execOp,hop]);split at hc
  ·rename_i k' k ax hs1 BD h1;cases hc;exact hs (W5 hR hs1 BD (cV h1 hE) hK)
  ·rename_i ax hs1 BD h1;cases hc;have v1:=cV h1 hE;simp only[bA.run]at hK;generalize AX.ev e ax=z at v1 hK;cases z<;>simp only at hK;exact hs (Zk hR hs1 BD v1 ⟨_,rfl⟩ hK)
  ·rename_i el ax hs1 BD h1;split at hc
   ·rename_i i he hi;split at hc
    ·cases hc;have v1:=cV h1 hE;obtain⟨hn,hK⟩:=hK;refine hs (Zr hR hs1 BD he v1 hK ?_);generalize AX.ev e ax=z at v1 hn hK;generalize a.eval x=xv at v1;cases v1<;>simp only[gC]at hK hn
     ·exact⟨_,_,_,rfl⟩
     ·exact⟨_,_,_,rfl⟩
     ·exact⟨_,_,_,rfl⟩
     ·rename_i h;obtain⟨_,_,A,cap,rfl,_⟩:=h;exact⟨_,_,_,rfl⟩
     exact⟨_,_,_,rfl⟩
    ·cases hc
   ·cases hc
  ·rename_i t ax hs1 BD h1;split at hc
   ·rename_i i hi;split at hc
    ·cases hc
    rename_i h0;cases hc;exact hs (Zu hR hs1 BD hi (by simpa using h0) (cV h1 hE) hK)
   ·cases hc
  ·rename_i t ax hs1 BD h1;split at hc
   ·rename_i i hi;cases hc;exact hs (Zv hR hs1 BD hi (cV h1 hE) hK)
   ·cases hc
  ·cases hc
 case makeInterface t x =>
  split at hc
  ·cases hc
  ·cases hc
  rename_i d h1 h2;simp only[bg]at hc;obtain⟨ax,h3,rfl⟩:=hc;cases hu:P.underlying t with
  | none=>exact absurd hu h2
  | some d=>exact eH hnd (T4 hR hu (fun ms e=>h1 ms (by rw[hu,e])) (cV h3 hE) hK) (by simp[execOp,hop])
 case makeFunc fn first cap =>
  split at hc
  ·rename_i az bs h1 h2;cases hc;obtain⟨a1,a2⟩:=vC h1 hE;obtain⟨b1,b2⟩:=vC h2 hE;exact wK hnd (v:= .func fn (first.map a.eval) (cap.map a.eval)) hR (by simp[execOp,hop,Instr.makeFunc]) (.fn fn _ _ _ _ a1 b1 a2 b2) hK
  ·cases hc
 case slice t x lo hi mx =>
  split at hc
  ·rename_i ax al ah am h1 h2 h3 h4;have v1:=cV h1 hE
   have hm:am=none->mx=none:=fun e=>by
    cases mx with
    | none=>rfl
    | some m=>simp only[Vj,Option.map_eq_some_iff]at h4;obtain⟨b,_,rfl⟩:=h4;cases e
   split at hc
   ·rename_i hu;split at hc
    ·rename_i hn;cases hc;have:mx=none:=hm (by simpa using hn);subst this;exact eH hnd (Zl hR hu v1 (nr h2 hE) (nr h3 hE) hK) (by simp[execOp,hop])
    ·cases hc
   ·rename_i el hu;split at hc
    ·simp only[bg]at hc;obtain⟨bE,he,rfl⟩:=hc;have:mx=none:=hm rfl;subst this;refine eH hnd (Zm hR hu he v1 (nr h2 hE) (nr h3 hE) ?_) (by simp[execOp,hop]);simp only[bA.run]at hK;clear v1;generalize AX.ev e ax=z at hK ⊢;cases z<;>exact hK
    ·rename_i bm bh;simp only[bg]at hc;obtain⟨bE,he,rfl⟩:=hc;have b3:=nr h3 hE;have b4:=nr h4 hE;cases hi with
     | none=>cases h3
     | some hi =>
       cases mx with
       | none=>cases h4
       | some mx =>
         unfold aeG at hK;split at hK
         ·refine eH hnd (Xh (vl:=lo.map a.eval) (vh:=a.eval hi) (vm:=a.eval mx) (lo:=al.map (AX.ev e)) hR hu he v1 (nr h2 hE) b3 b4 ?_) (by simp[execOp,hop]);clear h2 b3 b4 v1;cases al with
          | none=>exact hK
          | some al=>exact hK
         refine eH hnd (E0 (vl:=lo.map a.eval) (vh:=a.eval hi) (vm:=a.eval mx) (lo:=al.map (AX.ev e)) hR hu he v1 (nr h2 hE) b3 b4 ?_) (by simp[execOp,hop]);clear h2 b3 b4 v1;cases al with
         | none=>exact hK
         | some al=>exact hK
    ·cases hc
   ·rename_i n el hu;split at hc
    ·rename_i hn;simp only[bg]at hc;obtain⟨bE,he,rfl⟩:=hc;have:mx=none:=hm (by simpa using hn);subst this;refine eH hnd (ZB (lo:=al.map (AX.ev e)) (hi:=ah.map (AX.ev e)) hR hu he v1 (nr h2 hE) (nr h3 hE) ?_) (by simp[execOp,hop]);clear h2 h3 v1;cases al<;>cases ah<;>exact hK
    ·cases hc
   ·cases hc
  ·cases hc
 case fieldAddr s x f =>
  split at hc
  ·rename_i fs ax hu h1;simp only[gK]at hc;obtain⟨fi,hf,hc⟩:=hc;split at hc
   ·cases hc
   rename_i h0;cases hc;cases hi:P.info? fi.type with
   | none=>simp[hi]at h0
   | some i=>exact eH hnd (T2 hR hu hf hi (by simpa[hi]using h0) (cV h1 hE) hK) (by simp[execOp,hop])
  ·cases hc
 case field s x f =>
  split at hc
  ·rename_i fs ax hu h1;simp only[gK]at hc;obtain⟨fi,hf,hc⟩:=hc;split at hc
   ·rename_i ag i hA hi;split at hc
    ·cases hc;exact eH hnd (T1 hR hu hf hA hi (cV h1 hE) hK) (by simp[execOp,hop])
    ·cases hc
   ·cases hc
  ·cases hc
 case indexAddr t x y =>
  split at hc
  ·rename_i el ax ay hu h1 h2;simp only[bg]at hc;obtain⟨bE,he,rfl⟩:=hc;refine eH hnd (QZ hR hu he (cV h1 hE) (cV h2 hE) ?_) (by simp[execOp,hop]);simp only[bA.run]at hK;generalize AX.ev e ax=z at hK ⊢;generalize AX.ev e ay=z' at hK ⊢;cases z'<;>simp only at hK ⊢;cases z<;>exact hK
  ·rename_i n el ax ay hu h1 h2;simp only[bg]at hc;obtain⟨bE,he,rfl⟩:=hc;refine eH hnd (Q0 hR hu he (cV h1 hE) (cV h2 hE) ?_) (by simp[execOp,hop]);simp only[bA.run]at hK;generalize AX.ev e ax=z at hK ⊢;generalize AX.ev e ay=z' at hK ⊢;cases z'<;>simp only at hK ⊢;cases z<;>exact hK
  ·cases hc
 case index t x y =>
  split at hc
  ·rename_i ax ay hu h1 h2;cases hc;exact eH hnd (W6 hR hu (cV h1 hE) (cV h2 hE) hK) (by simp[execOp,hop])
  ·rename_i n el ax ay hu h1 h2;simp only[bg]at hc;obtain⟨bE,he,rfl⟩:=hc;exact eH hnd (W7 hR hu he (cV h1 hE) (cV h2 hE) hK) (by simp[execOp,hop])
  ·cases hc
 case extract x i =>
  simp only[bg]at hc;obtain⟨ax,h1,rfl⟩:=hc;exact eH hnd (PK hR (cV h1 hE) hK) (by simp[execOp,hop])
 case makeSlice t l c =>
  split at hc
  ·rename_i el al ac hu h1 h2;split at hc
   ·rename_i bE z he hz;cases hc;exact eH hnd (PL hR hu he hz (cV h1 hE) (cV h2 hE) hK) (by simp[execOp,hop])
   ·cases hc
  ·cases hc
 case range t x =>
  split at hc
  ·rename_i ht;simp only[bg]at hc;obtain⟨ax,h1,rfl⟩:=hc;have hv:=cV h1 hE;simp only[bA.run]at hK;generalize AX.ev e ax=z at hv hK;generalize fc:a.eval x=xv at hv;cases hv<;>simp only at hK;rename_i s;obtain⟨r1,r2⟩:=hR.vz (.stringIter ⟨s.toArray⟩ 0) (.jC s 0) 1 0 ⟨by simp[aN.push],w.heap.size,by simp[aN.push],heap_alloc_new w _⟩;refine oF hnd (v:= .pointer (some ⟨w.heap.size,0,none⟩)) (w':=w.alloc (.stringIter ⟨s.toArray⟩ 0)) ?_ ⟨_,_,_,_,rfl,r1,r2,.ref _ _ _ ⟨by simp[aN.push,hR.len],_,rfl,fun _=>⟨by simp[aN.push,hR.len],rfl⟩⟩,hK⟩;simp[execOp,hop,fc,Instr.range,bp ht,newObj,Sem.run]
  ·cases hc
 case next x b =>
  split at hc
  ·rename_i hb;simp only[bg]at hc;obtain⟨ax,h1,rfl⟩:=hc;have hv:=cV h1 hE;simp only[bA.run]at hK;generalize AX.ev e ax=z at hv hK;split at hK
   ·split at hK
    ·rename_i l _ s pos hl;generalize fc:a.eval x=xv at hv;cases hv with
     | ref _ _ _ hO =>
       obtain⟨_,A,rfl,h2⟩:=hO;obtain⟨nk,bb,t_,iE⟩:=hR.ok l _ hl;obtain⟨h3,h4⟩:=h2 nk;rw[t_]at h3;cases h3;have hsz:(⟨s.toArray⟩:ByteArray).size=s.length:=rfl;split at hK
       ·rename_i hlt
        have ZA:=hR.update (o':= .jC s (pos+(Utf8.decode ⟨s.toArray⟩ pos).2)) (w':= { w with heap:=w.heap.setIfInBounds A.block (.stringIter ⟨s.toArray⟩ (pos+(Utf8.decode ⟨s.toArray⟩ pos).2)) }) hl rfl t_
         aR rfl rfl rfl (fun c hc=>by simp[Array.getElem?_setIfInBounds,Ne.symm hc]) (fun _=>⟨nk,_,t_,by have:=(fL.1 iE).1;simp[this]⟩)
        refine oF hnd ?_ ⟨_,g,_,_,rfl,ZA.1,ZA.2,.bR _ #[.bool true,.int .i64 pos,.int .i32 (Utf8.decode ⟨s.toArray⟩ pos).1] rfl (fun i hi=>?_),hK⟩
        ·rw[h4]at fc;have aci:pos<(⟨s.toArray⟩:ByteArray).size:=hlt;simp only[execOp,hop,fc,Instr.next,getObj,setObj,Sem.run_bind,Sem.run,iE,Result.andThen,hb,aci,if_true];have:=(fL.1 iE).1;simp[this,goInt]
        match i,hi with
        | 0,_=>exact .bool true
        | 1,_=>exact .int _ _
        | 2,_=>exact .int _ _
       rename_i hlt;refine oF hnd (v:= .tuple #[.bool false]) (w':=w) ?_ ⟨_,g,_,_,rfl,hR,.refl _ _ _,.bR _ _ rfl (fun i hi=>?_),hK⟩
       ·rw[h4]at fc;have aci:¬ pos<(⟨s.toArray⟩:ByteArray).size:=hlt;simp only[execOp,hop,fc,Instr.next,getObj,setObj,Sem.run_bind,Sem.run,iE,Result.andThen,hb,aci,if_false];rfl
       match i,hi with
       | 0,_=>exact .bool false
    exact hK.elim
   exact hK.elim
  ·cases hc
 case makeMap t r =>
  cases r with
  | some r=>cases hc
  | none =>
    cases hc;exact eH hnd (T7 (t:=t) hR hK) (by simp[execOp,hop])
 case lookup t x k ok =>
  split at hc
  ·rename_i key elem ax ak ht h1 h2;split at hc
   ·rename_i kd z hk hz;cases hc;obtain⟨d,hd,hkk⟩:=gK.1 hk;refine eH hnd (Xd (ok:=ok) hR ht hd (Mp hkk) hz (cV h1 hE) (cV h2 hE) ?_) (by simp[execOp,hop]);simp only[bA.run,bB,cY]at hK;generalize AX.ev e ax=z at hK ⊢;cases z<;>exact hK
   ·cases hc
  ·cases hc
 case mapUpdate t m k v =>
  split at hc
  ·rename_i key elem am ak av ht h1 h2 h3;split at hc
   ·rename_i kd hk;cases hc;obtain⟨d,hd,hkk⟩:=gK.1 hk;exact N7 hnd hR ht hd (Mp hkk) (cV h1 hE) (cV h2 hE) (cV h3 hE) (by simp[execOp,hop]) hK
   ·cases hc
  ·cases hc
 case insert t m k v =>
  split at hc
  ·rename_i key elem am ak av ht h1 h2 h3;split at hc
   ·rename_i kd hk;cases hc;obtain⟨d,hd,hkk⟩:=gK.1 hk;exact N7 hnd hR ht hd (Mp hkk) (cV h1 hE) (cV h2 hE) (cV h3 hE) (by simp[execOp,hop]) hK
   ·cases hc
  ·cases hc
 case typeAssert x xt T ok =>
  split at hc
  ·cases hc
  ·cases hc
  rename_i d hd hu;split at hc
  ·rename_i ax z h1 hz;cases hc;exact eH hnd (ZD (xt:=xt) hR hu (fun l e=>hd l e) hz (cV h1 hE) hK) (by simp[execOp,hop])
  ·cases hc
 case panic x =>
  simp only[bg]at hc;obtain⟨ax,h1,rfl⟩:=hc;have v1:=cV h1 hE;simp only[bA.run]at hK;generalize AX.ev e ax=z at v1 hK;generalize fc:a.eval x=xv at v1;cases v1<;>simp only at hK;rename_i t b v h;refine qv hnd ?_;have:(execOp a.eval o).run P w = .halt (.panic (.iface t v)) w:=by simp[execOp,hop,fc,Instr.panic]
  rw[this];exact⟨rfl,.iface t v,g,.kR t b,σ,rfl,hR,.refl _ _ _,.kR t b v h,hK⟩
 case call c =>
  obtain⟨callee,args,ats⟩:=c;simp only at hc;cases callee with
  | invoke r m =>
    simp only at hc;cases hc
  | value f =>
    simp only at hc;split at hc
    ·rename_i gf ax h0 h2;cases hc;obtain⟨⟨fn,hf,hn,hb,sx,nM⟩,hK⟩:=hK
     have hfg:f = .func gf:=by
      cases f with
      | func f =>
        simp only[aeF]at h0;split at h0
        ·split at h0
         ·cases h0;rfl
         ·cases h0
        ·cases h0
      | _=>cases h0
     subst hfg
     have hargs:∃ x0,args = #[x0]/\cX nt x0=some ax:=by
      cases hl:args.toList with
      | nil=>rw[hl]at h2;cases h2
      | cons x0 r =>
        rw[hl]at h2;simp only[EI]at h2;split at h2
        ·rename_i a1 az1 e1 e2;cases h2;cases r with
         | nil=>exact⟨x0,by rw[<-fR (xs:=args),hl],e1⟩
         | cons x1 r =>
           simp only[EI]at e2;split at e2<;>cases e2
        ·cases h2
     obtain⟨x0,rfl,hx0⟩:=hargs;have v1:=cV hx0 hE;refine wK hnd hR (v:=a.eval x0) ?_ v1 hK;simp only[execOp,hop,resolve,Sem.run_bind,Act.eval,Deferred.ofValue,Sem.run_pure,Result.andThen_ok,invoke];simp only[List.map_toArray,bB,cY,List.append_toArray,bX,bW];rw[run_callFunc_extern hf hn hb sx nM];rfl
    ·rename_i af az h1 h2 _
     have key:∃ q,(bA.call q af az).run P e σ K Kp:=by
      cases hc;exact acg hK
     clear hc hK;obtain⟨qq,hK⟩:=key;have v1:=cV h1 hE;simp only[bA.run]at hK;generalize AX.ev e af=z at v1 hK;generalize fc:a.eval f=fv at v1;by_cases Ku:∃ l,z = .qR l
     ·obtain⟨l,rfl⟩:=Ku;cases v1;rename_i hy;obtain⟨hl,b,rfl,hb⟩:=hy;obtain⟨a1,a2⟩:=vC h2 hE;simp only at hK
      have both:∀ q:Bool,(if q then False else wD P l (az.map (AX.ev e)) σ fun
       | .ret r,σ'=>K r σ'
       | .panic r,σ'=>Kp r σ')->o.wpIn (WF ro) wn P a w (DZ g w σ a o.dst K) (HR g w σ a Kp):=fun q hK=>by
       cases q with
       | true=>exact(by simpa using hK:False).elim
       | false =>
       simp only[aP,if_false]at hK;refine ach hnd (b:=b) (vs:=args.map a.eval) ?_ hR hb a1 a2 hK;simp only[execOp,hop,resolve,Sem.run_bind,fc,Deferred.ofValue,Sem.run_pure,Result.andThen_ok,invoke];simp
      exact both _ hK
     cases v1<;>(try exact hK.elim)
     case qR=>exact absurd ⟨_,rfl⟩ Ku
     rename_i fn first cap first' cap' hl hl' hh Km
     cases fn<;>(try exact hK.elim);rename_i n;simp only at hK;obtain⟨a1,a2⟩:=vC h2 hE;obtain⟨b1,b2⟩:=CV hl hh a1 a2;obtain⟨c1,c2⟩:=CV b1 b2 hl' Km
     have hex:Has P n->(execOp a.eval o).run P w = .ok (.enter n (first'++args.map a.eval++cap')) w:=fun hb=>by
      simp only[execOp,hop,resolve,Sem.run_bind,fc,Deferred.ofValue,Sem.run_pure,Result.andThen_ok,invoke,E5 hb]
     have both:∀ q:Bool,(if q then ∃ r,(∀ τ,kK P n (first++az.map (AX.ev e)++cap) (σ++ τ) r)/\K r σ else cK P n (first++az.map (AX.ev e)++cap) σ fun
      | .ret r,σ'=>K r σ'
      | .panic r,σ'=>Kp r σ')->o.wpIn (WF ro) wn P a w (DZ g w σ a o.dst K) (HR g w σ a Kp):=fun q hK=>by
      cases q with
      | true =>
        simp only[if_true]at hK;obtain⟨r,hq,hk⟩:=hK;have hq:=hq [];rw[bW]at hq;exact Vr hnd (hex hq.1) hR c1 c2 (hq.mono fun out σ' ⟨h1,h2⟩=>by subst h1;subst h2;exact hk)
      | false =>
        simp only[aP,if_false]at hK;exact Vr hnd (hex hK.1) hR c1 c2 hK
     exact both _ hK
    ·cases hc
  | builtin b =>
    have hs:∀ {s:Sem Value} {K:AV->ai->Prop},bU P s g w σ K->builtin b ats o.type (args.map fun | .const _=>true|_=>false) (args.map a.eval)=(do pure (.value (← s)):Sem Next)->o.wpIn (WF ro) wn P a w (DZ g w σ a o.dst K) (HR g w σ a Kp):=fun hh hb=>by
     refine eH hnd hh ?_;simp only[execOp,hop,resolve];exact hb
    cases b<;>simp only at hc<;>(try (cases hc;done))
    case len =>
     split at hc
     ·rename_i t x ht hx;have hargs:args = #[x]:=by rw[<-fR (xs:=args),hx]
      subst hargs;split at hc
      ·rename_i hu;simp only[bg]at hc;obtain⟨ax,h1,rfl⟩:=hc;refine hs (s:=Builtin.len_ ats o.type #[a.eval x]) (W8 hR ht hu (cV h1 hE) ?_) (by simp[builtin]);simp only[bA.run]at hK;generalize AX.ev e ax=z at hK ⊢;cases z<;>exact hK
      ·rename_i el hu;simp only[bg]at hc;obtain⟨ax,h1,rfl⟩:=hc;refine hs (s:=Builtin.len_ ats o.type #[a.eval x]) (W9 hR ht hu (cV h1 hE) ?_) (by simp[builtin]);simp only[bA.run]at hK;generalize AX.ev e ax=z at hK ⊢;cases z<;>exact hK
      ·cases hc
     ·cases hc
    case copy =>
     split at hc
     ·rename_i t x y ht hx;have hargs:args = #[x,y]:=by rw[<-fR (xs:=args),hx]
      subst hargs;split at hc
      ·rename_i el ax ay hu h1 h2;simp only[bg]at hc;obtain⟨el2,he,rfl⟩:=hc;exact hs (s:=Builtin.copy_ ats o.type #[a.eval x,a.eval y]) (Xe hR ht hu he (cV h1 hE) (cV h2 hE) hK) (by simp[builtin])
      ·cases hc
     ·cases hc
    case append =>
     split at hc
     ·rename_i t u x y ht hu hx;have hargs:args = #[x,y]:=by rw[<-fR (xs:=args),hx]
      subst hargs;split at hc
      ·rename_i el bE ax ay Vs Vt h1 h2;simp only[bg]at hc;obtain⟨el2,he,rfl⟩:=hc;split at hK
       ·exact hs (s:=Builtin.append_ ats o.type #[a.eval x,a.eval y]) (N5 hR ht hu Vs Vt aR he (cV h1 hE) (cV h2 hE) hK) (by simp[builtin])
       split at hK
       ·exact hs (s:=Builtin.append_ ats o.type #[a.eval x,a.eval y]) (Xg hR ht hu Vs Vt aR he (cV h1 hE) (cV h2 hE) hK) (by simp[builtin])
       exact hs (s:=Builtin.append_ ats o.type #[a.eval x,a.eval y]) (EW hR ht hu Vs Vt aR he (cV h1 hE) (cV h2 hE) (EJ _ _) hK) (by simp[builtin])
      ·rename_i el ax ay Vs Vt h1 h2;simp only[bg]at hc;obtain⟨el2,he,rfl⟩:=hc;split at hK
       ·exact hs (s:=Builtin.append_ ats o.type #[a.eval x,a.eval y]) (N5 hR ht hu Vs Vt aR he (cV h1 hE) (cV h2 hE) hK) (by simp[builtin])
       exact hs (s:=Builtin.append_ ats o.type #[a.eval x,a.eval y]) (EW hR ht hu Vs Vt aR he (cV h1 hE) (cV h2 hE) (EJ _ _) hK) (by simp[builtin])
      ·cases hc
     ·cases hc
    case unsafeSliceData =>
     split at hc
     ·rename_i t x ht hx;have hargs:args = #[x]:=by rw[<-fR (xs:=args),hx]
      subst hargs;split at hc
      ·rename_i el ax hu h1;simp only[bg]at hc;obtain⟨el2,he,rfl⟩:=hc;exact hs (s:=Builtin.unsafeSliceData_ ats o.type #[a.eval x]) (Zt hR (cV h1 hE) hK) (by simp[builtin])
      ·cases hc
     ·cases hc
    case unsafeString =>
     split at hc
     ·rename_i t t2 x y ht hx;have hargs:args = #[x,y]:=by rw[<-fR (xs:=args),hx]
      have akY:ats = #[t,t2]:=by rw[<-fR (xs:=ats),ht]
      subst hargs;subst akY;split at hc
      ·rename_i e1 ax ay hu h1 h2;split at hc
       ·rename_i hce;cases hc;exact hs (s:=Builtin.unsafeString_ #[t,t2] o.type #[a.eval x,a.eval y]) (Xc hR hu (by simpa using hce) (cV h1 hE) (cV h2 hE) hK) (by simp[builtin])
       ·cases hc
      ·cases hc
     ·cases hc
    case min =>
     split at hc
     ·rename_i ax az h1;cases hc;obtain⟨a1,a2⟩:=vC h1 hE;cases hl:args.toList with
      | nil=>rw[hl]at h1;cases h1
      | cons x xs =>
        have hargs:args=(x::xs).toArray:=by rw[<-fR (xs:=args),hl]
        subst hargs;have v0:=a2 0 aR;refine hs (s:=Builtin.min_ ats o.type (a.eval x::xs.map a.eval).toArray) (Zn (x:=ax.ev e) (xs:=az.map (AX.ev e)) hR (by simpa using v0) (by simpa using a1) (fun i hi=>by simpa using a2 (i+1) (by simpa using hi)) hK) (by simp[builtin])
     ·cases hc
    case max =>
     split at hc
     ·rename_i ax az h1;cases hc;obtain⟨a1,a2⟩:=vC h1 hE;cases hl:args.toList with
      | nil=>rw[hl]at h1;cases h1
      | cons x xs =>
        have hargs:args=(x::xs).toArray:=by rw[<-fR (xs:=args),hl]
        subst hargs;have v0:=a2 0 aR;refine hs (s:=Builtin.max_ ats o.type (a.eval x::xs.map a.eval).toArray) (Zo (x:=ax.ev e) (xs:=az.map (AX.ev e)) hR (by simpa using v0) (by simpa using a1) (fun i hi=>by simpa using a2 (i+1) (by simpa using hi)) hK) (by simp[builtin])
     ·cases hc
end
inductive aje where
 | normal
 | exit (id:Nat)
 | goto (l:Nat)
 | ret
 | panic (v:AV)
structure cW where
 op:bA
 dst:Option Nat
 guard:Option (Nat × Bool)
abbrev AQ:=aje->Env->ai->Prop
def fh(P:Program)(Q:AQ): List cW->Env->ai->Prop
 | [],e,σ=>Q .normal e σ
 |⟨o,d,none⟩::r,e,σ=>o.run P e σ (fun v σ'=>fh P Q r (eP e d v) σ') (fun v σ'=>Q (.panic v) e σ')
 | ⟨o, d, some (k, b)⟩ :: r, e, σ => match e k with
   | .bool t => (t = b -> o.run P (eP e (some k) (.bool b)) σ (fun v σ' => fh P Q r (eP (eP e (some k) (.bool b)) d v) σ') (fun v σ' => Q (.panic v) (eP e (some k) (.bool b)) σ')) /\
      (t = !b->fh P Q r (eP (eP e (some k) (.bool (!b))) d (.bR [])) σ)
   | .bR []=>fh P Q r (eP e d (.bR [])) σ
   | _=>False
inductive dI where
 | skip
 | region (ops:List cW)
 | draw (ops:List cW) (kf:List (AX × AX))
 | seq (a b:dI)
 | cond (c:AX) (thn els:dI)
 | block (id:Nat) (body:dI)
 | loop (body:dI)
 | exit (id:Nat)
 | ret
 | scope (l:Nat) (body rest:dI)
 | label (l:Nat)
 | goto (l:Nat)
 | pC (f:AX) (nt:Nat) (ps:List Nat) (ca cb:Code) (asg body:dI)
 | stop
def dI.nB: dI->Bool
 | .seq a b=>a.nB || b.nB
 | .cond _ a b=>a.nB || b.nB
 | .block _ a=>a.nB
 | .loop a=>a.nB
 | .scope _ a _=>a.nB
 | .pC ..=>true
 | _=>false
def BE(ac:dI)(B:Nat->Prop)(w:World): Prop:=ac.nB=true-> ∀ D,w.heap.size<=D->B D
def BE.size{ac:dI}{B:Nat->Prop}{w w':World}(h:BE ac B w)(hs:w.heap.size<=w'.heap.size): BE ac B w':=fun hr D hD=>h hr D (cZ hs hD)
def BE.sub{ac ad:dI}{B:Nat->Prop}{w:World}(h:BE ac B w)(hs:ad.nB=true->ac.nB=true): BE ad B w:=fun hr=>h (hs hr)
def BE.at(ac:dI)(w:World): BE ac (fun D=>w.heap.size<=D) w:=fun _ _ h=>h
def mD(K:Env->ai->Prop)(Q:AQ): AQ
 | .normal,e,σ=>K e σ
 | x,e,σ=>Q x e σ
def uw(id:Nat)(Q:AQ): AQ
 | .exit i,e,σ=>if i=id then Q .normal e σ else Q (.exit i) e σ
 | x,e,σ=>Q x e σ
def qY: List (AX × AX)->Env->Prop
 | [],_=>True
 |(x,y)::r,e=>sK (x.ev e) (y.ev e)/\qY r e
def ZG: AX × AX->Bool
 |(.c .iZ,.c .iZ)=>true
 | _=>false
def G3(kf:List (AX × AX)): Bool:=kf.any ZG
def jK(kf:List (AX × AX))(Q:AQ): AQ
 | .normal,e,σ=>qY kf e/\Q .normal e σ
 | .panic v,e,σ=>if G3 kf then ∀ e',Q (.panic v) e' σ else Q (.panic v) e σ
 | x,e,σ=>Q x e σ
def acj{kf:List (AX × AX)}{Q:AQ}: ∀ {ex e σ},jK kf Q ex e σ->Q ex e σ:=fun {ex e σ} h=>by
 cases ex<;>first|exact h.2|exact h|skip
 simp only[jK]at h;split at h
 ·exact h e
 exact h
def ZH{kf:List (AX × AX)}{Q:AQ}(h:G3 kf=true){v:AV}{e e':Env}{σ : ai}: jK kf Q (.panic v) e σ->jK kf Q (.panic v) e' σ:=by
 simp only[jK,h,if_true];exact id
def aeJ(body:AQ->Env->ai->Prop)(Q:AQ)(e:Env)(σ : ai): Prop :=
 ∃(I:Nat->Env->ai->Prop),(∃ n,I n e σ)/\ ∀ n e σ,I n e σ->body (mD (fun e' σ'=> ∃ m,m<n/\I m e' σ') Q) e σ
def ux(l:Nat)(J:Env->ai->Prop)(Q:AQ): AQ
 | .goto l',e,σ=>l'=l/\J e σ
 | x,e,σ=>Q x e σ
def ZI(l:Nat)(body rest:AQ->Env->ai->Prop)(Q:AQ)(e:Env)(σ : ai): Prop :=
 ∃(J:Nat->Env->ai->Prop),body (ux l (fun e σ=> ∃ n,J n e σ) Q) e σ/\ ∀ n e σ,J n e σ->rest (ux l (fun e' σ'=> ∃ m,m<n/\J m e' σ') Q) e σ
def Vu: List Nat->List AV->Env->Env
 | p::ps,a::az,e=>Vu ps az (eP e (some p) a)
 | _,_,e=>e
def akZ(l:Nat)(o o':aX)(B:Env->ai->Prop): AQ
 | .normal,e,σ=>σ[l]? = some o/\B e (σ.set l o')
 | _,_,_=>False
def ak0(l:Nat)(o:LoopState->Option Code->aX)(R:Out->ai->Prop): AQ
 | .normal,_,σ=>σ[l]? = some (o .busy none)/\R (.ret (.bool true)) (σ.set l (o .ready none))
 | .ret,_,σ=>σ[l]? = some (o .busy none)/\R (.ret (.bool false)) (σ.set l (o .done (some .ret)))
 | .exit i,_,σ=>σ[l]? = some (o .busy none)/\R (.ret (.bool false)) (σ.set l (o .done (some (.exit i))))
 | .goto i,_,σ=>σ[l]? = some (o .busy none)/\R (.ret (.bool false)) (σ.set l (o .done (some (.goto i))))
 | .panic _,_,_=>False
def ak1(l:Nat)(o:LoopState->Option Code->aX)(Q:AQ)(e:Env): Out->ai->Prop
 | .ret _, σ => ∃ st pe, σ[l]? = some (o st pe) /\ st ≠ .busy /\ match pe with
    | none=>Q .normal e (σ.set l .dead)
    | some .ret=>Q .ret e (σ.set l .dead)
    | some (.exit i)=>Q (.exit i) e (σ.set l .dead)
    | some (.goto i)=>Q (.goto i) e (σ.set l .dead)
    | _=>False
 | .panic v,σ=>Q (.panic v) e σ
def Xj(P:Program)(nt:Nat)(ps:List Nat)(ca cb:Code)(f:AV)(asg body:AQ->Env->ai->Prop)(Q:AQ)(e:Env)(σ : ai): Prop :=
 match f with
 | .fn (.func n) first cap => ∀ o : LoopState -> Option Code -> aX, (∀ st pe, o st pe = .loop nt e ps.toArray ca cb st pe) ->
    (∀ σ' args R, σ'[σ.length]? = some (o .ready none) -> args.length = ps.length ->
      asg (akZ σ.length (o .ready none) (o .busy none) (body (ak0 σ.length o R))) (Vu ps args e) σ'->wD P σ.length args σ' R) ->
    cK P n (first++[.qR σ.length]++cap) (σ++[o .ready none]) (ak1 σ.length o Q e)
 | _=>False
def jF(P:Program): dI->AQ->Env->ai->Prop
 | .skip,Q,e,σ=>Q .normal e σ
 | .region ops,Q,e,σ=>fh P Q ops e σ
 | .draw ops kf,Q,e,σ=>fh P (jK kf Q) ops e σ
 | .seq a b,Q,e,σ=>jF P a (mD (jF P b Q) Q) e σ
 | .cond c a b, Q, e, σ => match c.ev e with
   | .bool t=>(t=true->jF P a Q e σ)/\(t=false->jF P b Q e σ)
   | _=>False
 | .block id c,Q,e,σ=>jF P c (uw id Q) e σ
 | .loop c,Q,e,σ=>aeJ (jF P c) Q e σ
 | .exit id,Q,e,σ=>Q (.exit id) e σ
 | .ret,Q,e,σ=>Q .ret e σ
 | .scope l c r,Q,e,σ=>ZI l (jF P c) (jF P r) Q e σ
 | .label _,Q,e,σ=>Q .normal e σ
 | .goto l,Q,e,σ=>Q (.goto l) e σ
 | .pC f nt ps ca cb asg body,Q,e,σ=>Xj P nt ps ca cb (f.ev e) (jF P asg) (jF P body) Q e σ
 | .stop,_,_,_=>False
structure yM (B:Nat->Prop) (σ : ai) (g:aN) (w:World) (ds:List Deferred):Prop where
 nodup:ds.Nodup
 mark:∀ d ∈ ds,∃ D,d = { target:= .collected D,args:= #[] }/\B D/\w.heap[D]? = some (.deferred (some []))/\¬ mB σ g D/\¬ g.fE D
def yM.step{B:Nat->Prop}{σ σ':ai}{g g':aN}{w w':World}{ds:List Deferred}(h:yM B σ g w ds)(fc:gk σ g w σ' g' w'): yM B σ' g' w' ds:=by
 refine⟨h.nodup,fun d hd=>?_⟩;obtain⟨D,h1,h2,h3,h4,h5⟩:=h.mark d hd;have hlt:D<w.heap.size:=(fL.1 h3).1;exact⟨D,h1,h2,(fc.frame D hlt h4).trans h3,fun ht=>h4 (fc.By D hlt ht),fun hi=>(fc.qS D hlt hi).elim h5 h4⟩
def ld(X:List Deferred)(B:Nat->Prop)(σ : ai)(g:aN)(w:World)(ds:List Deferred): Prop:= ∃ ms,ds=ms++X/\yM B σ g w ms
def ld.nil(X:List Deferred)(B:Nat->Prop)(σ : ai)(g:aN)(w:World): ld X B σ g w X:=⟨[],rfl,List.nodup_nil,fun _ h=>by cases h⟩
def ld.step{X:List Deferred}{B:Nat->Prop}{σ σ':ai}{g g':aN}{w w':World}{ds:List Deferred}(h:ld X B σ g w ds)(fc:gk σ g w σ' g' w'): ld X B σ' g' w' ds :=
 let ⟨ms,h1,h2⟩:=h;⟨ms,h1,h2.step fc⟩
def QR(X:List Deferred)(nt:Nat)(B:Nat->Prop)(g:aN)(w:World)(σ : ai)(Q:AQ)(ex:Exit)(a:Act)(w':World): Prop :=
 ∃ g' e' σ', ld X B σ' g' w' a.defers /\ Rel g' w' σ' /\ iG nt g' w' e' a.tmps /\ gk σ g w σ' g' w' /\
   match ex with
   | .normal=>Q .normal e' σ'
   | .exit id=>Q (.exit id) e' σ'
   | .goto l=>Q (.goto l) e' σ'
   | .ret=>Q .ret e' σ'
   | .panic chain=> ∃ v av,chain=[{ v,recovered:=false }]/\VR g' w' av v/\Q (.panic av) e' σ'
   | .outgrown=>False
section
variable {P:Program}
def Oper.IY {F : Fence} {wn : Nat} {o : Oper} {a : Act} {w : World} {K K' : Act -> World -> Prop} {Q Q' : Exit -> Act -> World -> Prop} (h : ∀ a w, K a w -> K' a w) (hq : ∀ e a w, Q e a w -> Q' e a w)
    (hh:o.wpIn F wn P a w K Q):o.wpIn F wn P a w K' Q':=by
 unfold Oper.wpIn at *;refine⟨hh.1,?_⟩
 replace hh:=hh.2
 generalize (o.semAt F.round a.eval).run P w=r at *;cases r with
 | ok n w' =>
   cases n<;>simp only[Oper.uponIn]at hh ⊢ <;>
    first
     | exact h _ _ hh
     | exact ⟨hh.1, CallsIn.mono hh.2 (fun e w'' he => by
        cases e<;>first
         | exact h _ _ he
         | exact hq _ _ _ he
         |(obtain⟨a0,w0,he⟩:=he;exact⟨a0,w0,hq _ _ _ he⟩))⟩
     | exact ⟨hh.1, RoundIn.mono hh.2 (fun e w'' he => by
        cases e<;>first
         | exact h _ _ he
         | exact hq _ _ _ he
         |(obtain⟨a0,w0,he⟩:=he;exact⟨a0,w0,hq _ _ _ he⟩))⟩
     | exact⟨hh.1,RowsIn.mono hh.2 (fun _ _ he=>h _ _ he)⟩
 | halt x w' =>
   cases x<;>simp only[Oper.uponIn]at hh ⊢<;>first
    | exact hq _ _ _ hh
    | exact hh
def put_defers(a:Act)(d:Option Tmp)(v:Value): (a.put d v).defers=a.defers:=by cases d<;>rfl
def N8 {nt : Nat} {g : aN} {w : World} {e : Env} {a : Act} {ops : Array Oper} {o : Oper} {k : Nat} {j : Nat} {b : Bool} (hE : iG nt g w e a.tmps) (hg : o.guard = some (j, b)) (hd : (ops[j]?).bind (·.dst) = some k) (hk : k < nt) :
    (∀ t,e k = .bool t->Region.wanted o (yielded ops a.tmps)=(t==b))/\(e k = .bR []->Region.wanted o (yielded ops a.tmps)=false):=by
 have hv:=hE.rel k hk;have hlt:k<a.tmps.size:=by rw[hE.size];exact hk
 have qE:a.tmps[k]? = some (a.tmps.getD k Go.undef):=by simp[hlt]
 constructor
 ·intro t ht;rw[ht]at hv;generalize a.tmps.getD k Go.undef=v at hv qE;cases hv;simp only[Region.wanted,hg,yielded,hd,Option.bind_some,qE];cases t<;>cases b<;>rfl
 intro ht;rw[ht]at hv;generalize a.tmps.getD k Go.undef=v at hv qE;cases hv;simp[Region.wanted,hg,yielded,hd,qE]
def iG.congr{nt:Nat}{g:aN}{w:World}{e:Env}{tmps:Array Value}(h:iG nt g w e tmps){k:Nat}{x:AV}(hx:e k=x): iG nt g w (eP e (some k) x) tmps :=
 ⟨h.size, fun t ht => by
   simp only[eP];split
   ·rename_i e1;subst e1;subst hx;exact h.rel _ ht
   ·exact h.rel t ht⟩
def lP(P:Program)(nt:Nat)(h:Hints)(dr:Bool)(all:Array Oper): List Oper->Option (List cW)
 | []=>some []
 | o :: r => match wH P nt h dr o, lP P nt h dr all r with
   | some ao, some gs => match o.guard with
     | none=>some (⟨ao,o.dst,none⟩::gs)
     | some (j, b) => match (all[j]?).bind (·.dst) with
       | some k=>if k<nt then some (⟨ao,o.dst,some (k,b)⟩::gs)else none
       | none=>none
   | _,_=>none
def N9 {X : List Deferred} {ro : Option Nat} {wn : Nat} {nt : Nat} {h : Hints} {dr : Bool} {ops : Array Oper} {B : Nat -> Prop} {Q : AQ} {g0 : aN} {w0 : World} {nI : ai} : ∀ (l : List Oper) (i : Nat) (gs : List cW) (g : aN) (w : World) (σ : ai) (e : Env) (a : Act),
    lP P nt h dr ops l=some gs->(∀ j,j<l.length->ops[i+j]? = l[j]?)->fh P Q gs e σ->Rel g w σ->iG nt g w e a.tmps->ld X B σ g w a.defers->gk nI g0 w0 σ g w ->
    Go.wpOpsIn (WF ro) wn P ops (QR X nt B g0 w0 nI Q) (List.range' i l.length) a w:=by
 intro l
 induction l with
 | nil =>
   intro i gs g w σ e a hc _ hw hR hE hd fc;cases hc;exact⟨g,e,σ,hd,hR,hE,fc,hw⟩
 | cons o l ih =>
   intro i gs g w σ e a hc hidx hw hR hE hd fc;have h0:ops[i]? = some o:=by simpa using hidx 0 aR
   have Qw:∀ j,j<l.length->ops[i+1+j]? = l[j]?:=fun j hj=>by
    have:=hidx (j+1) (by simpa using hj);simpa[dB,Nat.add_comm 1 j]using this
   simp only[lP]at hc;split at hc
   ·rename_i ao gs' h1 h2
    have go:∀ (e1:Env),iG nt g w e1 a.tmps->ao.run P e1 σ (fun v σ'=>fh P Q gs' (eP e1 o.dst v) σ') (fun v σ'=>Q (.panic v) e1 σ') ->
     o.wpIn (WF ro) wn P a w (Go.wpOpsIn (WF ro) wn P ops (QR X nt B g0 w0 nI Q) (List.range' (i+1) l.length)) (QR X nt B g0 w0 nI Q):=fun e1 yN hrun=>by
     refine Oper.IY ?_ ?_ (Re h1 hR yN hrun)
     ·rintro a' w' ⟨v,g',av,σ',rfl,r1,r2,r3,r4⟩;exact ih (i+1) gs' g' w' σ' (eP e1 o.dst av) (a.put o.dst v) h2 Qw r4 r1 ((yN.mono r2.mono).put o.dst r3) (by rw[put_defers];exact hd.step r2) (fc.trans r2)
     rintro ex a' w' ⟨rfl,v,g',av,σ',rfl,r1,r2,r3,r4⟩;exact⟨g',e1,σ',hd.step r2,r1,yN.mono r2.mono,fc.trans r2,v,av,rfl,r3,r4⟩
    have pass:∀ (e1:Env),iG nt g w e1 a.tmps->fh P Q gs' (eP e1 o.dst (.bR [])) σ->Go.wpOpsIn (WF ro) wn P ops (QR X nt B g0 w0 nI Q) (List.range' (i+1) l.length) (a.put o.dst Go.undef) w:=fun e1 yN hrun =>
     ih (i+1) gs' g w σ (eP e1 o.dst (.bR [])) (a.put o.dst Go.undef) h2 Qw hrun hR (yN.put o.dst (.bR [] #[] rfl (fun i hi=>absurd hi (c9 _)))) (by rw[put_defers];exact hd) fc
    rw[aO,List.range'_succ,wpOpsIn_cons];unfold wpOpIn;simp only[h0];split at hc
    ·rename_i hg;cases hc;have Xk:Region.wanted o (yielded ops a.tmps)=true:=by simp[Region.wanted,hg]
     rw[au Xk];exact go e hE hw
    rename_i j b hg;split at hc
    ·rename_i k hk;split at hc
     ·rename_i hlt;cases hc;obtain⟨w1,w2⟩:=N8 (ops:=ops) hE hg hk hlt;simp only[fh]at hw;split at hw
      ·rename_i t ht;have hwn:=w1 t ht;by_cases htb:t=b
       ·subst htb;rw[hwn,au aR];exact go _ (hE.congr ht) (hw.1 rfl)
       have:t = !b:=by cases t<;>cases b<;>simp_all
       rw[hwn,aj (by simpa using htb)];refine⟨fun _ _=>trivial,pass _ (hE.congr ?_) (hw.2 this)⟩;rw[ht,this]
      ·rename_i ht;rw[w2 ht,aj aR];exact⟨fun _ _=>trivial,pass e hE hw⟩
      exact hw.elim
     ·cases hc
    ·cases hc
   ·cases hc
end
def oc{m:Nat}{l:List AV}(h:AV.uq m l=true)(i:Nat): (l.getD i .undef).nL m=true:=by
 induction l generalizing i with
 | nil=>simp[AV.nL]
 | cons a l ih =>
   simp only[AV.uq,aD]at h;cases i with
   | zero=>simpa using h.1
   | succ i=>simpa using ih h.2 i
def IZ{m:Nat}{a:AV}(h:a.nL m=true)(c:Nat): (a.cell c).nL m=true:=by
 cases a<;>first|exact h|exact oc (by simpa[AV.nL]using h) c
structure ack (m:Nat) (g g0:aN):Prop where
 fE:∀ b,g.fE b->g0.fE b
 n:g.n<=g0.n
 at_:∀ l,l≠m->g0.ver l=g.ver l/\g0.base l=g.base l/\g0.cap l=g.cap l/\g0.off l=g.off l
def VR.like{m:Nat}{g g0:aN}{w:World}(hL:ack m g g0){a:AV}{v:Value}(h:VR g w a v): a.nL m=true->VR g0 w a v:=by
 induction h with
 | undef v=>exact fun _=> .undef v
 | bool b=>exact fun _=> .bool b
 | int k n=>exact fun _=> .int k n
 | str s=>exact fun _=> .str s
 | agg cs vs hl hs _ ih=>exact fun hp=> .agg cs vs hl hs (fun i h=>ih i h (oc (by simpa[AV.nL]using hp) i))
 | bR cs vs hl _ ih=>exact fun hp=> .bR cs vs hl (fun i h=>ih i h (oc (by simpa[AV.nL]using hp) i))
 | aU=>exact fun _=> .aU
 | jd f el b cap hf=>exact fun _=> .jd f el b cap hf
 | aS f el xs b off cap hb hf hx ft hc _ ih =>
   intro hp;exact .aS f el xs b off cap (hL.fE b hb) hf hx ft hc (fun i c h1 h2=>ih i c h1 h2 (IZ (oc (by simpa[AV.nL]using hp) i) c))
 | own el l mm lo n v h =>
   intro hp;have hne:l≠m:=by simpa[AV.nL]using hp
   obtain⟨h1,h2,A,cap,h3,h4⟩:=h;obtain⟨e1,e2,e3,e4⟩:=hL.at_ l hne;exact .own el l mm lo n v ⟨c7 h1 hL.n,by rw[e1];exact h2,A,cap,h3,by rw[e1,e2,e3,e4];exact h4⟩
 | ref l off v h =>
   intro hp;have hne:l≠m:=by simpa[AV.nL]using hp
   obtain⟨⟨h1,h0⟩,A,h2,h3⟩:=h;obtain⟨e1,e2,_,_⟩:=hL.at_ l hne;exact .ref l off v ⟨⟨c7 h1 hL.n,by rw[e1];exact h0⟩,A,h2,by rw[e1,e2];exact h3⟩
 | eY el x off b o hb ft hc _ ih =>
   intro hp;exact .eY el x off b o (hL.fE b hb) ft hc (fun c h2=>ih c h2 (IZ (by simpa[AV.nL]using hp) c))
 | fy el l mm i off v h =>
   intro hp;have hne:l≠m:=by simpa[AV.nL]using hp
   obtain⟨h1,h2,A,h3,h4⟩:=h;obtain⟨e1,e2,_,e4⟩:=hL.at_ l hne;exact .fy el l mm i off v ⟨c7 h1 hL.n,by rw[e1];exact h2,A,h3,by rw[e1,e2,e4];exact h4⟩
 | ik=>exact fun _=> .ik
 | oC=>exact fun _=> .oC
 | jR=>exact fun _=> .jR
 | fn f first cap first' cap' hl hl' _ _ ih qH =>
   intro hp;simp only[AV.nL,aD]at hp;exact .fn f first cap first' cap' hl hl' (fun i h=>ih i h (oc hp.1 i)) (fun i h=>qH i h (oc hp.2 i))
 | kR t a v _ ih=>exact fun hp=> .kR t a v (ih (by simpa[AV.nL]using hp))
 | iZ=>exact fun _=> .iZ
 | nT v h=>exact fun _=> .nT v h
 | mp l v h =>
   intro hp;have hne:l≠m:=by simpa[AV.nL]using hp
   obtain⟨h1,b,h2,h3⟩:=h;obtain⟨e1,e2,_,_⟩:=hL.at_ l hne;exact .mp l v ⟨c7 h1 hL.n,b,h2,by rw[e1,e2];exact h3⟩
 | qR l v h =>
   intro hp;have hne:l≠m:=by simpa[AV.nL]using hp
   obtain⟨h1,b,h2,h3⟩:=h;obtain⟨e1,e2,_,_⟩:=hL.at_ l hne;exact .qR l v ⟨c7 h1 hL.n,b,h2,by rw[e1,e2];exact h3⟩
 | l7 el p n A cap hn hc _ ih=>exact fun hp=> .l7 el p n A cap hn hc (ih (by simpa[AV.nL]using hp))
def aX.Ok.like{m:Nat}{g g0:aN}{w:World}{l:Nat}{o:aX}(hL:ack m g g0)(hne:l≠m)(h:o.Ok g w l)(hn:o.nL m=true): o.Ok g0 w l:=by
 obtain⟨e1,e2,e3,e4⟩:=hL.at_ l hne;cases o with
 | bV T cs =>
   obtain⟨h1,hs,b,vs,h2,h3,h4,h5,h6⟩:=h;exact⟨e1.trans h1,hs,b,vs,e2.trans h2,h3,h4,fun i hi=>(h5 i hi).like hL (oc hn i),h6⟩
 | dh T el xs =>
   obtain⟨h1,hf,h2⟩:=h;refine⟨e1.trans h1,hf,?_⟩;rcases h2 with⟨h2,h3,h4⟩|⟨b,vs,h2,h3,h4,h5,h6,h7⟩
   ·exact .inl ⟨h2,e2.trans h3,e3.trans h4.1,e4.trans h4.2⟩
   exact .inr ⟨b,vs,e2.trans h2,h3,by rw[e3,e4];exact h4,by rw[e3];exact h5,fun i c hi hc=>by rw[e4];exact(h6 i c hi hc).like hL (IZ (oc hn i) c),by rw[e4];exact h7⟩
 | jC s pos =>
   obtain⟨h1,b,h2,h3⟩:=h;exact⟨e1.trans h1,b,e2.trans h2,h3⟩
 | map es =>
   obtain⟨h1,b,ms,clock,h2,h3,h4,h6,h5⟩:=h;refine⟨e1.trans h1,b,ms,clock,e2.trans h2,h3,h4,h6,fun i hi=>?_⟩;have:=aZ.1 hn (es.getD i default) (by rw[aq,aG hi];exact dK hi);rw[aD]at this;exact⟨(h5 i hi).1.like hL this.1,(h5 i hi).2.like hL this.2⟩
 | loop nt e ps ca cb st pe =>
   obtain⟨h1,b,rec,h2,h3,h4,h5,h6,h7,h8,h9,h10⟩:=h;exact⟨e1.trans h1,b,rec,e2.trans h2,h3,h4,h5,h6,h7,h8,h9,fun t ht=>(h10 t ht).like hL (aZ.1 hn t (eN.2 ht))⟩
 | dead=>trivial
 | resv=>exact⟨e1.trans h.1,e2.trans h.2.1,e3.trans h.2.2.1,e4.trans h.2.2.2⟩
def AV.cst: AV->Bool
 | .bool _ | .int .. | .str _ | .aU | .ik | .oC | .jR | .iZ=>true
 | _=>false
def VR.cst{g g':aN}{w w':World}{a:AV}{v:Value}(h:VR g w a v)(hc:a.cst=true): VR g' w' a v:=by
 cases h<;>first|(simp[AV.cst]at hc;done)|constructor
def afj{m:Nat}{a:AV}(hc:a.cst=true): a.nL m=true:=by
 cases a<;>first|(simp[AV.cst]at hc;done)|rfl
def acm{m:Nat}{cs:List AV}(hc:cs.all AV.cst=true): AV.uq m cs=true:=by
 induction cs with
 | nil=>rfl
 | cons a cs ih =>
   simp only[List.all_cons,aD]at hc;simp only[AV.uq,afj hc.1,ih hc.2,jy]
def agW{g g':aN}{w:World}{r:AV}{e:Ending}(h:AN g w (.ret r) e)(hm:kD g w g' w): AN g' w (.ret r) e:=by
 cases e<;>first|exact VR.mono hm h|exact h
def pL{σ : ai}{m l:Nat}{o:aX}(hne:l≠m)(h:Live σ l): Live (σ.set m o) l:=by
 obtain⟨o',h1,h2⟩:=h;exact⟨o',by rw[aF (Ne.symm hne)];exact h1,h2⟩
def cK.resv {P : Program} {f : FuncId} {args : List AV} {σ s2 : ai} {r : AV} {m : Nat} {T : Option TypeId} {cs : List AV} (hm : σ[m]? = some .resv) (h2 : s2[m]? = some .resv) (ha : AV.uq m args = true) (hs : Ka m σ = true) (hc : cs.all AV.cst = true)
    (h:cK P f args σ (fun o σ'=>o = .ret r/\σ'=s2)):cK P f args (σ.set m (.bV T cs)) (fun o σ'=>o = .ret r/\σ'=s2.set m (.bV T cs)):=by
 refine⟨h.1,fun g w vs hR hl hv=>?_⟩;have hml:m < σ.length:=(aE.1 hm).1;have sE:(σ.set m (.bV T cs))[m]? = some (.bV T cs):=bw hml;obtain⟨Xl,hsc,b,us,hb,hrow,ak2,hcells,hty⟩:=hR.ok m _ sE;have iV:Live (σ.set m (.bV T cs)) m:=⟨_,sE,rfl⟩;have hL:ack m g (g.reset m 0 none 0 0):=⟨fun _ h=>h,bf _,fun l hne=>by simp[aN.reset,hne]⟩;have Zq:(g.reset m 0 none 0 0).base m=none:=by simp[aN.reset]
 have Rf:∀ l,l≠m->(g.reset m 0 none 0 0).base l=g.base l:=fun l hne=>(hL.at_ l hne).2.1;have I0:∀ {l c:Nat},(g.reset m 0 none 0 0).base l=some c->l≠m:=fun hl e=>by subst e;rw[Zq]at hl;cases hl
 have hR0:Rel (g.reset m 0 none 0 0) w σ:=by
  refine⟨by have:=hR.len;rw[dM]at this;exact this,hR.lt,fun l o ho=>?_,fun l l' c h1 h3 h4 h5=>?_,fun l c h1 h3=>?_,hR.glob⟩
  ·by_cases e:l=m
   ·subst e;rw[hm]at ho;cases ho;simp[aX.Ok,aN.reset]
   exact(hR.ok l o (by rw[aF (Ne.symm e)];exact ho)).like hL e (aZ.1 hs o (jw ho))
  ·have n1:=I0 h4;have n2:=I0 h5;rw[Rf _ n1]at h4;rw[Rf _ n2]at h5;exact hR.inj l l' c (pL n1 h1) (pL n2 h3) h4 h5
  have n1:=I0 h3;rw[Rf _ n1]at h3;exact hR.p7 l c (pL n1 h1) h3
 refine(h.2 _ w vs hR0 hl (fun i hi=>(hv i hi).like hL (oc ha i))).mono ?_;rintro e w' ⟨out,g1,s1,r1,r2,r3,rfl,rfl⟩;have Xm:b<w.heap.size:=hrow.lt
 have hnt:¬ mB σ (g.reset m 0 none 0 0) b:=by
  rintro⟨l,h1,h3⟩;have n1:=I0 h3;rw[Rf _ n1]at h3;exact n1 (hR.inj l m b (pL n1 h1) iV h3 hb)
 have hheap:w'.heap[b]? = w.heap[b]?:=r2.frame b Xm hnt;have Kv:¬ g.fE b:=hR.p7 m b iV hb;obtain⟨q1,q2,q3,q4⟩:=r1.ok m _ h2;have Mq:m<s1.length:=(aE.1 h2).1;have ajf:(s1.set m (.bV T cs))[m]? = some (.bV T cs):=bw Mq;have agX:(g1.reset m 1 (some b) (g.cap m) (g.off m)).base m=some b:=by simp[aN.reset]
 have ak3:∀ l,l≠m->(g1.reset m 1 (some b) (g.cap m) (g.off m)).base l=g1.base l:=fun l hne=>by simp[aN.reset,hne]
 have agY:kD g1 w' (g1.reset m 1 (some b) (g.cap m) (g.off m)) w':=by
  refine⟨fun c hc=>⟨hc,rfl⟩,bf _,fun l _=>?_⟩;by_cases e:l=m
  ·subst e;simp[aN.reset,q1]
  simp[aN.reset,e]
 have hmg:kD g w (g1.reset m 1 (some b) (g.cap m) (g.off m)) w':=by
  refine⟨fun c hc=>r2.mono.fE c hc,r2.mono.n,fun l hl=>?_⟩;by_cases e:l=m
  ·subst e;simp[aN.reset,Xl,hb]
  have:=r2.mono.ver l hl;simpa[aN.reset,e]using this
 have hold:∀ l c,Live (s1.set m (.bV T cs)) l->(g1.reset m 1 (some b) (g.cap m) (g.off m)).base l=some c->(l=m/\c=b)\/(l≠m/\Live s1 l/\g1.base l=some c):=fun l c h1 h3=>by
  rcases lE h1 with⟨e,_,_⟩|⟨e,h4⟩
  ·subst e;rw[agX]at h3;exact .inl ⟨rfl,(Option.some.inj h3).symm⟩
  rw[ak3 _ e]at h3;exact .inr ⟨e,h4,h3⟩
 have hfree:∀ l,Live s1 l->g1.base l=some b->False:=fun l h1 h3=>hnt (r2.By b Xm ⟨l,h1,h3⟩)
 refine⟨.ret r,g1.reset m 1 (some b) (g.cap m) (g.off m),s1.set m (.bV T cs),⟨?_,r1.lt,fun l o ho=>?_,fun l l' c h1 h3 h4 h5=>?_,fun l c h1 h3 hi=>?_,r1.glob⟩,
  ⟨hmg,r2.size,r2.os,r2.tape,r2.output,fun c hc hn=>r2.frame c hc fun⟨l,h1,h3⟩=>?_,fun c hc hi=>?_,fun c hc ht=>?_⟩,agW r3 agY,rfl,rfl⟩
 ·rw[dM];exact r1.len
 ·by_cases e:l=m
  ·subst e;rw[ajf]at ho;cases ho;refine⟨by simp[aN.reset],hsc,b,us,agX,hrow.of_heap hheap,ak2,fun i hi=>(hcells i hi).cst ?_,hty.of_heap hheap⟩;rw[aq,aG hi];exact aZ.1 hc _ (dK hi)
  rw[aF (Ne.symm e)]at ho;exact(r1.ok l o ho).step agY (by rw[<-r1.len];exact(aE.1 ho).1) (by simp[aN.reset,e]) (fun _ _=>rfl)
 ·rcases hold l c h1 h4 with⟨a1,a2⟩|⟨a1,a2,a3⟩<;>rcases hold l' c h3 h5 with⟨b1,b2⟩|⟨b1,b2,b3⟩
  ·rw[a1,b1]
  ·subst a2;exact(hfree l' b2 b3).elim
  ·subst b2;exact(hfree l a2 a3).elim
  exact r1.inj l l' c a2 b2 a3 b3
 ·rcases hold l c h1 h3 with⟨a1,a2⟩|⟨a1,a2,a3⟩
  ·subst a2;rcases r2.qS c Xm hi with h4|h4
   ·exact Kv h4
   exact hnt h4
  exact r1.p7 l c a2 a3 hi
 ·have n1:=I0 h3;rw[Rf _ n1]at h3;exact hn ⟨l,pL n1 h1,h3⟩
 ·rcases r2.qS c hc hi with h4|⟨l,h1,h3⟩
  ·exact .inl h4
  have n1:=I0 h3;rw[Rf _ n1]at h3;exact .inr ⟨l,pL n1 h1,h3⟩
 obtain⟨l,h1,h3⟩:=ht;rcases hold l c h1 h3 with⟨a1,a2⟩|⟨a1,a2,a3⟩
 ·subst a2;exact⟨m,iV,hb⟩
 obtain⟨k,k1,k2⟩:=r2.By c hc ⟨l,a2,a3⟩;have n1:=I0 k2;rw[Rf _ n1]at k2;exact⟨k,pL n1 k1,k2⟩
