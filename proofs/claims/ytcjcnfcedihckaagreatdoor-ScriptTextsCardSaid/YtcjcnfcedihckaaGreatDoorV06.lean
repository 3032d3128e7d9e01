/- Part. -/
import Derived.Test.YtcjcnfcedihckaaGreatDoorV05
import Derived.IntWalk
import Derived.Lib.UnsafeStr
import Derived.Lib.Builder
import Derived.Laws.Externs
import Derived.MapKept
set_option linter.all false
namespace Go.AM
section
variable {P:Program} {g:aM} {w:World} {σ : ae} {K:AV->ae->Prop}
def C8 {t : TypeId} {n : Nat} {el : TypeId} {fi : TypeInfo} {z : AV} {e : Env} {a : Act} {nt : Nat} {parts : Array (Nat × Operand)} {ps : List ((Nat × Nat) × AX)} (hR : Rel g w σ) (hE : ic nt g w e a.tmps)
    (hz:lj P t=some z) (hu:P.underlying t=some (.array n el)) (hi:P.info? el=some fi)
    (hp:oe nt (fun i=>some (i*P.cellsOf el,P.cellsOf el)) parts.toList=some ps)
    (hK:lg z.cells e (ps.map fun p=>(p.1.1,p.1.2,p.2)) fun cs=>K (.agg cs) σ):bQ P (Instr.build t (parts.map fun(i,x)=>(i,a.eval x))) g w σ K:=by
 obtain⟨v,h1,h2⟩:=yU hz w;obtain⟨h3,h4⟩:=h2 g w;obtain⟨h5,h6⟩:=kS h3 h4;obtain⟨cs',us,r1,r2,r3,r4,r5,r6⟩:=FU (fun i=>some (i*P.cellsOf el,P.cellsOf el)) hE parts.toList ps z.cells v.cells _ hp h5 h6 h4 hK;refine bQ.pure hR (v:= .agg us) ?_ (.agg cs' us r2 r4 r3) r6;have hc:P.cellsOf el=fi.size:=by simp[Program.cellsOf,hi]
 simp only[Instr.build,Sem.run_bind,h1,Result.andThen_ok,a_ hu,dw hi]
 have CU:Instr.fill (fun i=>some (i*fi.size,fi.size)) v.cells (parts.map fun(i,x)=>(i,a.eval x)).toList=some us:=by
  rw[<-r1,hc]
  congr 1
  simp
 rw[CU];rfl
def FV{el:El}{a:AV}(h:a.fits el=true): a.cells.all AV.scalar=true/\a.cells.length=el.sz/\ ∀ c,c<el.sz->a.cells.getD c .undef=a.cell c:=by
 cases a<;>simp only[AV.fits,Bool.and_eq_true,beq_iff_eq]at h<;>first
  |(obtain⟨⟨_,h2⟩,h3⟩:=h;exact⟨h3,h2,fun _ _=>rfl⟩)
  |(obtain⟨_,h2⟩:=h;exact⟨rfl,by simp[AV.cells,h2],fun c hc=>by rw[show c=0 from by omega];rfl⟩)
  | cases h
def Og {el : El} {e : Env} {a : Act} {nt : Nat} (hE : ic nt g w e a.tmps) : ∀ (parts : List (Nat × Operand)) (ps : List (Nat × AX)) (xs : List AV) (vs : Array Value) (K : List AV -> Prop),
    oe nt some parts=some ps->vs.size=xs.length*el.sz->jz g w el xs vs->(∀ i,i<xs.length->(xs.getD i .undef).fits el=true)->kr el xs e ps K ->
    ∃ xs' us,Instr.fill (fun i=>some (i*el.sz,el.sz)) vs (parts.map fun p=>(p.1,a.eval p.2))=some us/\us.size=xs'.length*el.sz/\xs'.length=xs.length/\jz g w el xs' us/\(∀ i,i<xs'.length->(xs'.getD i .undef).fits el=true)/\K xs':=by
 intro parts
 induction parts with
 | nil =>
   intro ps xs vs K h hs hh hf hK;cases h;exact⟨xs,vs,rfl,hs,rfl,hh,hf,hK⟩
 | cons p parts ih =>
   intro ps xs vs K h hs hh hf hK;obtain⟨i,x⟩:=p;simp only[oe]at h;split at h
   ·rename_i q ax ps' h1 h2 h3;cases h1;cases h;simp only[kr]at hK;obtain⟨k1,k2,k3⟩:=hK;have hv:=cG h2 hE;obtain⟨f1,f2,f3⟩:=FV k1;obtain⟨c1,c2⟩:=kS hv f1
    have hrow:i*el.sz+el.sz<=vs.size:=by
     rw[hs]
     calc i*el.sz+el.sz=(i+1)*el.sz:=by rw[cV]
      _<=xs.length*el.sz:=bE _ k2
    have hput:∀ (us:List Value) (vs:Array Value) (off j:Nat),off+j+us.length<=vs.size->(us.zipIdx j).foldl (fun cs (p:Value × Nat)=>cs.setIfInBounds (off+p.2) p.1) vs=putRow vs (off+j) us:=by
     intro us
     induction us with
     | nil=>intros;rfl
     | cons u us ih =>
       intro vs off j hh;simp only[List.length_cons]at hh;simp only[List.zipIdx_cons,List.foldl_cons,putRow];exact ih _ off (j+1) (by simp;omega)
    have QY:(a.eval x).cells.zipIdx.foldl (fun cs (p:Value × Nat)=>cs.setIfInBounds (i*el.sz+p.2) p.1) vs=putRow vs (i*el.sz) (a.eval x).cells.toList:=by
     have:=hput (a.eval x).cells.toList vs (i*el.sz) 0 (by simp;omega);rw[<-Array.foldl_toList,Array.toList_zipIdx];simpa using this
    obtain⟨xs',us,r1,r2,r3,r4,r5,r6⟩:=ih ps' (xs.set i (ax.ev e)) (putRow vs (i*el.sz) (a.eval x).cells.toList) K h3 (by rw[size_putRow];simpa using hs)
     (fun j c hj hc => by
       simp only[List.length_set]at hj;rw[pM _ _ _ (by simp;omega)];simp only[iz,<-c1,f2];by_cases ej:j=i
       ·subst ej;rw[if_pos (by omega),show(xs.set j (ax.ev e)).getD j .undef=ax.ev e by simp[k2],show j*el.sz+c-j*el.sz=c by omega,← f3 c hc];simpa using c2 c (by omega)
       ·have hne : ¬ (i * el.sz <= j * el.sz + c /\ j * el.sz + c < i * el.sz + el.sz) := by
         rintro⟨q1,q2⟩;rcases Nat.lt_or_gt_of_ne ej with h2|h2
         ·have:(j+1)*el.sz<=i*el.sz:=bE _ h2;rw[cV]at this;omega
         ·have:(i+1)*el.sz<=j*el.sz:=bE _ h2;rw[cV]at this;omega
        rw[if_neg hne,show(xs.set i (ax.ev e)).getD j .undef=xs.getD j .undef by simp[List.getElem?_set_ne (Ne.symm ej)]];exact hh j c hj hc)
     (fun j hj => by
       simp only[List.length_set]at hj;by_cases ej:j=i
       ·subst ej;simpa[k2]using k1
       ·have:=hf j hj;simpa[List.getElem?_set_ne (Ne.symm ej)]using this) k3
    refine⟨xs',us,?_,r2,by rw[r3];simp,r4,r5,r6⟩;simp only[aR,Instr.fill];have e1:¬ ((a.eval x).cells.size≠el.sz\/vs.size<i*el.sz+(a.eval x).cells.size):=by omega
    rw[if_neg (by simpa using e1),QY];exact r1
   ·cases h
def FW {el : El} {z : AV} {v : Value} (n : Nat) (hz : VR g w z v) (hf : z.fits el = true) (hv : v.cells.size = el.sz) :
    jz g w el (List.replicate n z) ((Array.range (n*el.sz)).map (v.cells[· % v.cells.size]!)):=by
 intro i c hi hc;simp only[gD]at hi;have h2:=tJ hi hc;obtain⟨f1,f2,f3⟩:=FV hf;obtain⟨c1,c2⟩:=kS hz f1;have h3:(i*el.sz+c) % el.sz=c:=by rw[Nat.mul_comm,Nat.mul_add_mod];exact Nat.mod_eq_of_lt hc
 have:=c2 c (by omega);rw[f3 c hc]at this;have e1:(List.replicate n z).getD i .undef=z:=by simp[hi]
 rw[e1]
 have e2:((Array.range (n*el.sz)).map (v.cells[· % v.cells.size]!)).getD (i*el.sz+c) Go.undef=v.cells.getD c Go.undef:=by
  have h4:c<v.cells.size:=by omega
  have h5:v.cells[c]! = v.cells[c]:=getElem!_pos v.cells c h4;have h6:v.cells.getD c Go.undef=v.cells[c]:=by rw[<-cN (h:=h4)]
  rw[h6,<-h5];simp[h2,hv,h3]
 rw[e2];exact this
def Dn{e:TypeId}{el:El}{z:AV}(he:kK P e=some el)(hz:lj P e=some z): ∃ v,(∀ w,(zeroValue e).run P w = .ok v w)/\(∀ g w,VR g w z v)/\v.cells.size=el.sz:=by
 obtain⟨fi,hi,_,hs,_,_,_,v,hv,hvs⟩:=jy he;simp only[lj,hi,hv,gk]at hz;exact⟨v,fun w=>by simp[zeroValue,run_typeInfo hi,hv],fun g w=>(HX hz g w).1,hvs⟩
def PA (hR : Rel g w σ) (e : TypeId) {el : El} {zs : List AV} {vs : Array Value} {cap : Nat} (k1 : zs.length <= cap) (k2 : vs.size = cap * el.sz) (k3 : jz g w el zs vs) (k4 : ∀ i, i < zs.length -> (zs.getD i .undef).fits el = true) :
    ∃ g', Rel g' (World.alloc w (.cells vs e)) (σ ++ [.vec el zs]) /\ ik σ g w (σ ++ [.vec el zs]) g' (World.alloc w (.cells vs e)) /\
      VR g' (World.alloc w (.cells vs e)) (.own el σ.length zs.length 0 zs.length) (.slice (some ⟨w.heap.size,0,none⟩) zs.length cap):=by
 have hm:=nY g w (.cells vs e) zs.length (some w.heap.size) cap hR.lt
 obtain⟨r1,r2⟩:=hR.yK (.cells vs e) (.vec el zs) zs.length cap
  ⟨by simp[aM.push],k4,.inr ⟨w.heap.size,vs,by simp[aM.push],tI _ vs e,by simp[aM.push,k2],by simp[aM.push,k1],fun i c hi hc=>by simp only[aM.push,if_true,cj];exact(k3 i c hi hc).mono hm,trivial⟩⟩
 exact⟨_,r1,r2,.own _ _ _ _ _ _ ⟨by simp[aM.push,hR.len],by simp[aM.push,hR.len],_,_,rfl,fun _=>⟨by omega,by simp[aM.push,hR.len],fun _=>by simp[aM.push,hR.len]⟩⟩⟩
def Xz (hR : Rel g w σ) (e : TypeId) {el : El} {zs : List AV} {vs : Array Value} (k2 : vs.size = zs.length * el.sz) (k3 : jz g w el zs vs) (k4 : ∀ i, i < zs.length -> (zs.getD i .undef).fits el = true) :
    ∃ g', Rel g' (World.alloc w (.cells vs e)) σ /\ ik σ g w σ g' (World.alloc w (.cells vs e)) /\
      VR g' (World.alloc w (.cells vs e)) (.aF true el zs) (.slice (some ⟨w.heap.size,0,none⟩) zs.length zs.length):=by
 have hm:=xM g w (.cells vs e) hR.lt;obtain⟨r1,r2⟩:=hR.U0 (.cells vs e)
 have hcell:∀ i c,i<zs.length->c<el.sz->(World.alloc w (.cells vs e)).cell? ⟨w.heap.size,0+(i*el.sz+c),none⟩=some (vs.getD (i*el.sz+c) Go.undef):=fun i c hi hc=>by
  have h2:=tJ hi hc;rw[cj];exact(tI w vs e).cell (by omega)
 exact⟨_,r1,r2,.aF true el zs w.heap.size 0 zs.length (.inr rfl) (fun _=>rfl) (Nat.le_refl _) k4 (fun i c hi hc=>by rw[hcell i c hi hc];rfl) (fun i c hi hc=>by unfold dP;rw[hcell i c hi hc];exact(k3 i c hi hc).mono hm)⟩
def LY {t e : TypeId} {el : El} {z : AV} {mt : Bool} {n : Nat} {en : Env} {a : Act} {nt : Nat} {parts : Array (Nat × Operand)} {ps : List (Nat × AX)} (hR : Rel g w σ) (hE : ic nt g w en a.tmps)
    (hu:P.underlying t=some (.slice e)) (he:kK P e=some el) (hz:lj P e=some z) (hn:n*el.sz<=2 ^ 24) (hzf:z.fits el=true) (hp:oe nt some parts.toList=some ps)
    (hK:kr el (List.replicate n z) en ps fun xs=>if mt then K (.own el σ.length n 0 n) (σ++[.vec el xs])else K (.aF true el xs) σ) :
    bQ P (Instr.buildSlice t n (parts.map fun(i,x)=>(i,a.eval x))) g w σ K:=by
 obtain⟨v,z1,z2,z3⟩:=Dn he hz;obtain⟨fi,hi,_,hs,_⟩:=jy he
 obtain⟨xs,us,r1,r2,r3,r4,r5,r6⟩:=Og (g:=g) (w:=w) (el:=el) hE parts.toList ps (List.replicate n z) ((Array.range (n*el.sz)).map (v.cells[· % v.cells.size]!)) _ hp (by simp) (FW n (z2 g w) hzf z3)
  (fun i hi=>by simp only[gD]at hi;simpa[hi]using hzf) hK
 simp only[gD]at r3
 have run:(Instr.buildSlice t n (parts.map fun(i,x)=>(i,a.eval x))).run P w = .ok (.slice (some ⟨w.heap.size,0,none⟩) n n) (World.alloc w (.cells us e)):=by
  have hn':¬ (n*el.sz>2 ^ 24):=by omega
  have CU:Instr.fill (fun i=>some (i*el.sz,el.sz)) ((Array.range (n*el.sz)).map (v.cells[· % v.cells.size]!)) (parts.map fun(i,x)=>(i,a.eval x)).toList=some us:=by
   rw[<-r1];congr 1;simp
  simp only[Instr.buildSlice,Sem.run_bind,a_ hu,Result.andThen_ok,dw hi,hs,if_neg hn'];by_cases h0:n*el.sz=0
  ·simp only[if_pos h0];rw[Sem.run_bind,Sem.run_pure,Result.andThen_ok]
   have YT:Instr.fill (fun i=>some (i*el.sz,el.sz)) ((Array.range (n*el.sz)).map ((#[]:Array Value)[· % (#[]:Array Value).size]!)) (parts.map fun(i,x)=>(i,a.eval x)).toList=some us:=by
    rw[<-CU];congr 1;simp[h0]
   rw[YT];rfl
  ·simp only[if_neg h0];rw[Sem.run_bind,z1,Result.andThen_ok,Sem.run_bind,Sem.run_pure,Result.andThen_ok];rw[CU];rfl
 cases mt with
 | true =>
   simp only[if_true]at r6;obtain⟨g',q1,q2,q3⟩:=PA hR e (cap:=n) (by omega) (by rw[r2,r3]) r4 r5;rw[r3]at q3;exact⟨_,_,g',_,_,run,q1,q2,q3,r6⟩
 | false =>
   simp only[Bool.false_eq_true,if_false]at r6;obtain⟨g',q1,q2,q3⟩:=Xz hR e r2 r4 r5;rw[r3]at q3;exact⟨_,_,g',_,_,run,q1,q2,q3,r6⟩
def KG {t e : TypeId} {el : El} {z x y : AV} {a b : Value} (hR : Rel g w σ) (hu : P.underlying t = some (.slice e)) (he : kK P e = some el) (hz : lj P e = some z) (hx : VR g w x a) (hy : VR g w y b)
    (hK : match (generalizing := false) x, y with
      | .int .i64 k,.int .i64 m=>z.fits el=true/\0<=k/\k<=m/\m*(el.sz+1)<=2 ^ 40/\K (.own el σ.length k.toNat 0 k.toNat) (σ++[.vec el (List.replicate k.toNat z)])
      | _,_=>False):bQ P (Instr.makeSlice t a b) g w σ K:=by
 obtain⟨v,z1,z2,z3⟩:=Dn he hz;obtain⟨fi,hi,_,hs,_,hb,hsz,_⟩:=jy he;cases hx<;>(try exact False.elim hK);rename_i k1 k;cases hy<;>(try (cases k1<;>exact False.elim hK));rename_i k2 m;cases k1<;>(try exact False.elim hK);cases k2<;>(try exact False.elim hK);simp only at hK;obtain⟨h1,h2,h3,h4,h5⟩:=hK;obtain⟨k,rfl⟩:=Int.eq_ofNat_of_zero_le h2;obtain⟨m,rfl⟩:=Int.eq_ofNat_of_zero_le (Int.le_trans h2 h3);have h4':m*(el.sz+1)<=2 ^ 40:=by exact_mod_cast h4
 have hm:m<=2 ^ 40:=bY (Nat.le_mul_of_pos_right m (by omega)) h4';have h40:(2:Nat) ^ 40=1099511627776:=by decide
 have hkm:k<=m:=by omega
 have WH:∀ j:Nat,j<=m->IntKind.i64.wrap (j:Int)=j:=fun j hj=>IntWalk.i64_in _ (by omega)
 have SM:fi.bytes*m<=2 ^ 48:=by
  have h6:fi.bytes*m<=24*(el.sz+1)*m:=bE _ hb;have h7:24*(el.sz+1)*m=24*(m*(el.sz+1)):=by rw[Nat.mul_assoc,Nat.mul_comm (el.sz+1) m]
  have h48:(2:Nat) ^ 48=281474976710656:=by decide
  omega
 have htl:∀ j:Nat,j<=m->((decide ((j:Int)<0) || decide (((fi.bytes:Nat):Int)*(j:Int)>2 ^ 48))=false):=fun j hj=>by
  have:fi.bytes*j<=2 ^ 48:=bY (Nat.mul_le_mul_left _ hj) SM;have h9:((fi.bytes:Nat):Int)*(j:Int)<=2 ^ 48:=by exact_mod_cast this
  simp only[Bool.or_eq_false_iff,decide_eq_false_iff_not];exact⟨by omega,by omega⟩
 have acB:((Array.range (m*el.sz)).map (v.cells[· % v.cells.size]!)).size=m*el.sz:=by simp
 obtain⟨g',q1,q2,q3⟩:=PA hR e (el:=el) (zs:=List.replicate k z) (vs:=(Array.range (m*el.sz)).map (v.cells[· % v.cells.size]!)) (cap:=m) (by simpa using hkm) acB
  (fun i c hi hc => by
    have:=FW m (z2 g w) h1 z3 i c (by simp at hi ⊢;omega) hc;simp only[gD]at hi;rw[show (List.replicate k z).getD i .undef=z by simp[hi]];rwa[show (List.replicate m z).getD i .undef=z by simp[show i<m by omega]]at this)
  (fun i hi=>by simp only[gD]at hi;simpa[hi]using h1)
 simp only[gD]at q3;refine⟨_,_,g',_,_,?_,q1,q2,q3,by simpa using h5⟩;unfold Instr.makeSlice;simp only[Sem.run_bind,a_ hu,Result.andThen_ok,asInt,asIntOf,Sem.run_pure,run_typeInfo hi,WH k hkm,WH m (Nat.le_refl _)]
 have aa2:¬ (((decide ((m:Int)<0) || decide (((fi.bytes:Nat):Int)*(m:Int)>2 ^ 48)) || decide ((k:Int)<0) || decide ((k:Int)>(m:Int)))=true):=by
  rw[htl m (Nat.le_refl _)];simp;omega
 rw[if_neg aa2];simp only[Sem.run_bind,run_askRoom,Result.andThen_ok,dw hi,hs,fR];by_cases h0:m*el.sz=0
 ·simp only[if_pos h0,Sem.run_pure,Result.andThen_ok,newRow,Sem.run_bind,run_newObj];have e9:∀ f:Nat->Value,(Array.range (m*el.sz)).map f = #[]:=fun f=>by simp[h0]
  rw[e9,e9];rfl
 ·simp only[if_neg h0,Sem.run_bind,z1,Result.andThen_ok,Sem.run_pure,newRow,run_newObj];rfl
def SN {t u e : TypeId} {x : AV} {a : Value} (hR : Rel g w σ) (hs : P.underlying t = some (.slice e)) (hu : P.underlying u = some .string) (he : P.underlying e = some (.int .u8)) (hx : VR g w x a)
    (hK:fZ σ ⟨false,1⟩ x fun xs=> ∃ s:List UInt8,xs=s.map (fun b=>AV.int .u8 b.toNat)/\K (.str s) σ) (hsl:∃ A n c,a = .slice A n c):bQ P (convert t u a) g w σ K:=by
 obtain⟨xs,us,⟨s,hxs,hK⟩,hl,A_,hsz,hh⟩:=uz (P:=P) hR hx hK;obtain⟨A,n,c,rfl⟩:=hsl;subst hxs;simp only[bS,Nat.mul_one]at hl A_ hsz
 have YU:us=(s.map fun b=>Value.int .u8 b.toNat).toArray:=by
  apply Array.ext
  ·simp[hsz]
  ·intro i h1 h2;have:=hh i 0 (by simp;omega) (by simp);simp only[Nat.mul_one,de]at this;rw[<-cN (h:=h1)]at this;have h3:i<s.length:=by omega
   have e1:((s.map fun b=>AV.int .u8 b.toNat).getD i .undef).cell 0 = .int .u8 (s[i]).toNat:=by simp[h3,AV.cell]
   rw[e1]at this;cases h4:us[i]with
   | int k m=>rw[h4]at this;cases this;simp
   | _=>rw[h4]at this;cases this
 simp only[Builtin.lenOf,Sem.run_pure]at hl;cases hl
 have loop:∀ (f:Value->ByteArray->Sem (ForInStep ByteArray)),(∀(b:UInt8) (r:ByteArray),f (.int .u8 b.toNat) r=Pure.pure (.yield (r.push b)))-> ∀(l:List UInt8) (acc:ByteArray) (w:World),(forIn (l.map fun b=>Value.int .u8 b.toNat) acc f).run P w = .ok (l.foldl ByteArray.push acc) w:=by
  intro f hf l
  induction l with
  | nil=>intro acc w;rfl
  | cons b l ih =>
    intro acc w;simp only[aR,List.forIn_cons,hf,Sem.run_bind,Sem.run_pure,Result.andThen_ok,List.foldl_cons];exact ih _ w
 have aa3:∀ (l:List UInt8) (acc:ByteArray),(l.foldl ByteArray.push acc)=⟨acc.data++l.toArray⟩:=by
  intro l
  induction l with
  | nil=>intro acc;simp
  | cons b l ih=>intro acc;rw[List.foldl_cons,ih];simp[ByteArray.push]
 refine bQ.pure hR (v:= .string ⟨s.toArray⟩) ?_ (.str s) hK;simp only[convert,Sem.run_bind,a_ hs,a_ hu,Result.andThen_ok,a_ he];cases A with
 | none =>
   have:s=[]:=by
    have:=A_ w rfl;simp only[Builtin.firstCells,Sem.run_pure]at this;cases this;have:(0:Nat)=s.length:=by simpa using hsz
    exact hY this.symm
   subst this;rfl
 | some A =>
   have h1:=A_ w rfl;simp only[Builtin.firstCells,Nat.mul_one]at h1;simp only[Conv.bytesToString,Sem.run_bind,h1,Result.andThen_ok];rw[YU,<-Array.forIn_toList];rw[show (List.map (fun b=>Value.int .u8 (b.toNat:Int)) s).toArray.toList=List.map (fun b=>Value.int .u8 (b.toNat:Int)) s from rfl];rw[loop _ (fun b r=>by simp) s ByteArray.empty w,aa3];simp
def SO {op : BinOp} {t : TypeId} {ox oy : Operand} (hop : op = .eql \/ op = .neq) (hc : j7 ox = true \/ j7 oy = true) (a b : Value) (ha : ∀ cs, a ≠ .agg cs) (w : World) :
    (eqGuard op t ox oy a b).run P w = .ok () w:=by
 by_cases h:a = .nilIface/\b = .nilIface
 ·obtain⟨rfl,rfl⟩:=h;rcases hc with h|h
  ·cases ox <;> simp only [j7] at h <;> first
    |(cases h;done)
    |(rcases hop with rfl|rfl<;>rfl)
  ·cases oy <;> simp only [j7] at h <;> first
    |(cases h;done)
    |(rcases hop with rfl|rfl<;>cases ox<;>rfl)
 ·rcases hop with rfl | rfl <;> cases a <;> first
   | exact absurd rfl (ha _)
   | rfl
   |(cases b<;>first|rfl|exact absurd ⟨rfl,rfl⟩ h)
def Ba {t : TypeId} {ms : Array (String × TypeId)} (hu : P.underlying t = some (.interface ms)) (u : TypeId) (x : Value) (D : Nat) (w : World) :
    (Op.equalIn (D+1) t .nilIface .nilIface).run P w = .ok true w/\(Op.equalIn (D+1) t .nilIface (.iface u x)).run P w = .ok false w/\(Op.equalIn (D+1) t (.iface u x) .nilIface).run P w = .ok false w:=by
 refine⟨?_,?_,?_⟩<;>simp[Op.equalIn,a_ hu]
def Ea {t : TypeId} {ps rs : Array TypeId} {vd : Bool} (hu : P.underlying t = some (.func ps rs vd)) (u : Fn) (x y : Array Value) (D : Nat) (w : World) :
    (Op.equalIn (D+1) t .nilFunc .nilFunc).run P w = .ok true w/\(Op.equalIn (D+1) t .nilFunc (.func u x y)).run P w = .ok false w/\(Op.equalIn (D+1) t (.func u x y) .nilFunc).run P w = .ok false w:=by
 refine⟨?_,?_,?_⟩<;>simp[Op.equalIn,a_ hu]
def JJ {t : TypeId} {kt et : TypeId} (hu : P.underlying t = some (.map kt et)) (p : Option Nat) (D : Nat) (w : World) :
    (Op.equalIn (D+1) t (.map none) (.map p)).run P w = .ok p.isNone w/\(Op.equalIn (D+1) t (.map p) (.map none)).run P w = .ok p.isNone w:=by
 constructor
 ·simp[Op.equalIn,a_ hu]
 ·cases p<;>simp[Op.equalIn,a_ hu]
def Dp {op : BinOp} {t : TypeId} {k : NK} {x y : AV} {a b : Value} {ox oy : Operand} {d : TypeDesc} (hop : op = .eql \/ op = .neq) (hR : Rel g w σ) (hu : P.underlying t = some d)
    (hd:HW d=some k) (hc:j7 ox=true\/j7 oy=true) (hx:VR g w x a) (hy:VR g w y b)
    (hK : match (generalizing := false) nh k x y with
      | some r=>K (.bool (if op = .neq then !r else r)) σ
      | none=>False):bQ P (do eqGuard op t ox oy a b;binOp op t a b) g w σ K:=by
 have fin:∀ r,(eqGuard op t ox oy a b).run P w = .ok () w->(Op.equalIn 10000 t a b).run P w = .ok r w->(∀ k n,a≠ .int k n)->(∀ k n,a≠ .float k n)->(∀ k n m,a≠ .complex k n m)->(∀ s,a≠ .string s) ->
  K (.bool (if op = .neq then !r else r)) σ->bQ P (do eqGuard op t ox oy a b;binOp op t a b) g w σ K:=by
  intro r h1 h2 n1 n2 n3 n4 hk;refine bQ.pure hR (v:= .bool (if op = .neq then !r else r)) ?_ (.bool _) hk;simp only[Sem.run_bind,h1,Result.andThen_ok]
  have e1:(binOp .eql t a b).run P w = .ok (.bool r) w:=by
   cases a<;>first
    | exact absurd rfl (n1 _ _)
    | exact absurd rfl (n2 _ _)
    | exact absurd rfl (n3 _ _ _)
    | exact absurd rfl (n4 _)
    | simp[binOp,Op.equal,Op.maxDepth,h2]
  have e2:(binOp .neq t a b).run P w = .ok (.bool (!r)) w:=by
   cases a<;>first
    | exact absurd rfl (n1 _ _)
    | exact absurd rfl (n2 _ _)
    | exact absurd rfl (n3 _ _ _)
    | exact absurd rfl (n4 _)
    | simp[binOp,Op.equal,Op.maxDepth,h2]
  rcases hop with rfl|rfl
  ·exact e1
  ·exact e2
 have pQ:∀ (_:True),(∀ cs,a≠ .agg cs)->(eqGuard op t ox oy a b).run P w = .ok () w:=fun _ ha=>SO hop hc a b ha w;cases d<;>simp only[HW]at hd<;>(try cases hd)
 case pointer.refl elem =>
  have acC:∀ p:Option Addr,(Op.equalIn 10000 t (.pointer none) (.pointer p)).run P w = .ok p.isNone w:=fun p=>(JG hu p 9999).1;have acD:∀ p:Option Addr,(Op.equalIn 10000 t (.pointer p) (.pointer none)).run P w = .ok p.isNone w:=fun p=>(JG hu p 9999).2
  have ptr:∀ (z:AV) (v:Value) (r:Bool),VR g w z v->pN .p z=some r-> ∃ p,v = .pointer p/\p.isNone=r:=by
   intro z v r hz h;cases hz<;>simp only[pN]at h<;>(try cases h)
   case ref.refl h=>obtain⟨_,A,rfl,_⟩:=h;exact⟨_,rfl,rfl⟩
   case eA.refl=>exact⟨_,rfl,rfl⟩
   case eG.refl h=>obtain⟨_,_,A,rfl,_⟩:=h;exact⟨_,rfl,rfl⟩
   case iE.refl=>exact⟨_,rfl,rfl⟩
  simp only[nh]at hK;split at hK
  ·rename_i r hr;split at hr
   ·rename_i r' h1 h2;cases hr;obtain⟨p,rfl,hp⟩:=ptr _ _ _ hx h1;obtain⟨q,rfl,hq⟩:=ptr _ _ _ hy h2;have:p=none:=by simpa using hp
    subst this;exact fin _ (pQ trivial (by simp)) (by rw[acC,hq]) (by simp) (by simp) (by simp) (by simp) hK
   ·rename_i h1 h2;cases hr;obtain⟨p,rfl,hp⟩:=ptr _ _ _ hx h1;obtain⟨q,rfl,hq⟩:=ptr _ _ _ hy h2;have:q=none:=by simpa using hq
    subst this;exact fin _ (pQ trivial (by simp)) (by rw[acD,hp]) (by simp) (by simp) (by simp) (by simp) hK
   ·cases hr
  ·exact hK.elim
 case interface.refl ms =>
  have j6:∀ (z:AV) (v:Value) (r:Bool),VR g w z v->pN .i z=some r->(r=true/\v = .nilIface)\/(r=false/\ ∃ u x,v = .iface u x):=by
   intro z v r hz h;cases hz<;>simp only[pN]at h<;>(try cases h)
   case ja.refl=>exact .inl ⟨rfl,rfl⟩
   case j6.refl=>exact .inr ⟨rfl,_,_,rfl⟩
  simp only[nh]at hK;split at hK
  ·rename_i r hr;split at hr
   ·rename_i r' h1 h2;cases hr;rcases j6 _ _ _ hx h1 with⟨_,rfl⟩|⟨e,_⟩
    ·rcases j6 _ _ _ hy h2 with⟨rfl,rfl⟩|⟨rfl,u,v,rfl⟩
     ·exact fin true (pQ trivial (by simp)) (Ba hu 0 .nilIface 9999 w).1 (by simp) (by simp) (by simp) (by simp) hK
     ·exact fin false (pQ trivial (by simp)) (Ba hu u v 9999 w).2.1 (by simp) (by simp) (by simp) (by simp) hK
    ·cases e
   ·rename_i h1 h2;cases hr;rcases j6 _ _ _ hx h1 with⟨e,_⟩|⟨_,u,v,rfl⟩
    ·cases e
    ·rcases j6 _ _ _ hy h2 with⟨_,rfl⟩|⟨e,_⟩
     ·exact fin false (pQ trivial (by simp)) (Ba hu u v 9999 w).2.2 (by simp) (by simp) (by simp) (by simp) hK
     ·cases e
   ·cases hr
  ·exact hK.elim
 case func.refl ps rs vd =>
  have WI:∀ (z:AV) (v:Value) (r:Bool),VR g w z v->pN .f z=some r->(r=true/\v = .nilFunc)\/(r=false/\ ∃ u x y,v = .func u x y):=by
   intro z v r hz h;cases hz<;>simp only[pN]at h<;>(try cases h)
   case qo.refl=>exact .inl ⟨rfl,rfl⟩
   case fn.refl=>exact .inr ⟨rfl,_,_,_,rfl⟩
  simp only[nh]at hK;split at hK
  ·rename_i r hr;split at hr
   ·rename_i r' h1 h2;cases hr;rcases WI _ _ _ hx h1 with⟨_,rfl⟩|⟨e,_⟩
    ·rcases WI _ _ _ hy h2 with⟨rfl,rfl⟩|⟨rfl,u,v,z,rfl⟩
     ·exact fin true (pQ trivial (by simp)) (Ea hu (.func 0) #[] #[] 9999 w).1 (by simp) (by simp) (by simp) (by simp) hK
     ·exact fin false (pQ trivial (by simp)) (Ea hu u v z 9999 w).2.1 (by simp) (by simp) (by simp) (by simp) hK
    ·cases e
   ·rename_i h1 h2;cases hr;rcases WI _ _ _ hx h1 with⟨e,_⟩|⟨_,u,v,z,rfl⟩
    ·cases e
    ·rcases WI _ _ _ hy h2 with⟨_,rfl⟩|⟨e,_⟩
     ·exact fin false (pQ trivial (by simp)) (Ea hu u v z 9999 w).2.2 (by simp) (by simp) (by simp) (by simp) hK
     ·cases e
   ·cases hr
  ·exact hK.elim
 case map.refl kt et =>
  have WJ:∀ (z:AV) (v:Value) (r:Bool),VR g w z v->pN .m z=some r-> ∃ p,v = .map p/\p.isNone=r:=by
   intro z v r hz h;cases hz<;>simp only[pN]at h<;>(try cases h)
   case mg.refl=>exact⟨_,rfl,rfl⟩
   case mp.refl h=>obtain⟨_,A,rfl,_⟩:=h;exact⟨_,rfl,rfl⟩
  simp only[nh]at hK;split at hK
  ·rename_i r hr;split at hr
   ·rename_i r' h1 h2;cases hr;obtain⟨p,rfl,hp⟩:=WJ _ _ _ hx h1;obtain⟨q,rfl,hq⟩:=WJ _ _ _ hy h2;have:p=none:=by simpa using hp
    subst this;exact fin _ (pQ trivial (by simp)) (by rw[<-hq];exact(JJ hu q 9999 w).1) (by simp) (by simp) (by simp) (by simp) hK
   ·rename_i h1 h2;cases hr;obtain⟨p,rfl,hp⟩:=WJ _ _ _ hx h1;obtain⟨q,rfl,hq⟩:=WJ _ _ _ hy h2;have:q=none:=by simpa using hq
    subst this;exact fin _ (pQ trivial (by simp)) (by rw[<-hp];exact(JJ hu p 9999 w).2) (by simp) (by simp) (by simp) (by simp) hK
   ·cases hr
  ·exact hK.elim
end
end Go.AM
namespace Go.AM
section
variable {P:Program} {g:aM} {w:World} {σ : ae} {K:AV->ae->Prop}
def SP {ats : Array TypeId} {ty : TypeId} {el : El} {x : AV} {a : Value} (hR : Rel g w σ) (hx : VR g w x a)
    (hK : match (generalizing := false) x with
      | .ai=>K .iE σ
      | .own bz l m lo n => bz = el /\ match σ[l]? with
        | some (.cy _ cK xs)=>cK=el/\m=xs.length/\0<n/\K (.eG el l m lo 0) σ
        | _=>False
      | _=>False):bQ P (Builtin.unsafeSliceData_ ats ty #[a]) g w σ K:=by
 cases hx<;>simp only at hK
 case ai=>exact bQ.pure hR (Lib.run_unsafeSliceData_nil (P:=P) w ats ty 0 0) .iE hK
 case own bz l m lo n h =>
  obtain⟨rfl,hK⟩:=hK;obtain⟨q1,q2,A,cap,rfl,q3⟩:=h;split at hK
  ·rename_i T cK xs hxs;obtain⟨rfl,rfl,hn,hK⟩:=hK;obtain⟨o1,o2,o3⟩:=hR.ok l _ hxs;obtain⟨q4,q5,q6⟩:=q3 o1.symm;rcases o3 with⟨rfl,_,_⟩|⟨b,vs,b1,b2,b3,b4,b5,_⟩
   ·simp at q4;omega
   ·have q7:=q6 (by omega);rw[b1]at q7;simp only[cS]at q7;subst q7;exact bQ.pure hR (Lib.run_unsafeSliceData_row (P:=P) w ats ty _ n cap (by omega)) (.eG _ _ _ _ _ _ ⟨q1,q2,_,rfl,fun _=>⟨b1,rfl⟩⟩) hK
  ·exact hK.elim
def HZ(w:World)(b n:Nat){c:Nat}(h:c≠b): (w.freeze ⟨b,0,none⟩ n).heap[c]? = w.heap[c]?:=by
 unfold World.freeze;split
 ·rfl
 ·simp only[Array.getElem?_modify];rw[if_neg (Ne.symm h)]
def LZ(w:World)(b n:Nat): (w.freeze ⟨b,0,none⟩ n).heap.size=w.heap.size/\(w.freeze ⟨b,0,none⟩ n).os=w.os/\(w.freeze ⟨b,0,none⟩ n).tape=w.tape/\(w.freeze ⟨b,0,none⟩ n).output=w.output:=by
 unfold World.freeze;split
 ·exact⟨rfl,rfl,rfl,rfl⟩
 ·exact⟨by simp,rfl,rfl,rfl⟩
def Q5 {pt it ty e : TypeId} {x y : AV} {a b : Value} (hR : Rel g w σ) (hp : P.underlying pt = some (.pointer e)) (hc : P.cellsOf e = 1) (hx : VR g w x a) (hy : VR g w y b)
    (hK : match (generalizing := false) x, y with
      | .iE,.int .i64 k=>k=0/\K (.str []) σ
      | .eG el l m lo off, .int .i64 k => lo = 0 /\ off = 0 /\ el = ⟨false, 1⟩ /\ match σ[l]? with
        | some (.cy T' _ xs)=>T'=some e/\m=xs.length/\0<k/\k<=xs.length/\xs.length<=2 ^ 62/\ ∃ s:List UInt8,xs.take k.toNat=s.map (fun b=>AV.int .u8 b.toNat)/\K (.str s) (σ.set l .dead)
        | _=>False
      | _,_=>False):bQ P (Builtin.unsafeString_ #[pt,it] ty #[a,b]) g w σ K:=by
 cases hx<;>(try exact False.elim hK)
 case iE =>
  cases hy<;>(try exact False.elim hK);rename_i q k;cases q<;>(try exact False.elim hK);obtain⟨rfl,hK⟩:=hK;exact bQ.pure hR (Lib.run_unsafeString_none (P:=P) w pt it ty none) (.str []) hK
 case eG el l m lo off h =>
  cases hy<;>(try exact False.elim hK);rename_i q k;cases q<;>(try exact False.elim hK);obtain⟨rfl,rfl,rfl,hK⟩:=hK;obtain⟨hl,hm,A,rfl,hA⟩:=h;split at hK
  ·rename_i T cK xs hxs;obtain⟨rfl,rfl,k1,k2,k3,s,k4,hK⟩:=hK;obtain⟨o1,o2,o3⟩:=hR.ok l _ hxs;rcases o3 with⟨rfl,_,_⟩|⟨b,vs,b1,b2,b3,b4,b5,b6⟩
   ·simp at k2;omega
   ·obtain⟨a1,a2⟩:=hA o1.symm;have hb:A.block=b:=by rw[a1]at b1;cases b1;rfl
    rw[hb]at a2;obtain⟨b6,hz⟩:=b6;rw[hz]at a2 b3 b5;simp only[Nat.zero_mul,cj,de]at a2 b3 b5;subst a2;obtain⟨n,rfl⟩:=Int.eq_ofNat_of_zero_le (Int.le_of_lt k1);simp only[fR]at k4
    have hn:s.length=n:=by
     have:=congrArg List.length k4;simp only[eY,bS]at this;omega
    have hfit:∀ i,i<xs.length->cK.sz=1:=fun i hi=>by
     have hf:=o2 i hi;have e1:i<n\/n<=i:=by omega
     have h0:0<n:=by omega
     have hx0:(xs.take n).getD 0 .undef=(s.map fun b=>AV.int .u8 b.toNat).getD 0 .undef:=by rw[k4]
     have hs0:0<s.length:=by omega
     have acE:xs.getD 0 .undef = .int .u8 (s[0]).toNat:=by
      have hlt:0<xs.length:=by omega
      simpa[h0,hs0,hlt]using hx0
     have:=o2 0 (by omega);rw[acE]at this;simp only[AV.fits,aD,beq_iff_eq]at this;exact this.2
    have hsz:cK.sz=1:=hfit 0 (by omega);rw[hsz,Nat.mul_one]at b3
    have hcell:∀ j x,s[j]? = some x->w.cell? ((⟨b,0,none⟩:Addr).add j)=some (.int .u8 x.toNat):=fun j x hj=>by
     have mX:j<s.length:=(aP.1 hj).1;have hjx:s[j]=x:=(aP.1 hj).2;have h2:=b5 j 0 (by omega) (by omega);rw[hsz]at h2;simp only[Nat.mul_one,de]at h2
     have e2:xs.getD j .undef = .int .u8 x.toNat:=by
      have:(xs.take n).getD j .undef=(s.map fun b=>AV.int .u8 b.toNat).getD j .undef:=by rw[k4]
      have hjn:j<n:=by omega
      have acF:j<xs.length:=by omega
      simpa[hjn,mX,acF,hjx]using this
     rw[e2]at h2
     have e3:(⟨b,0,none⟩:Addr).add j=⟨b,j,none⟩:=by
      unfold Addr.add;split
      ·rename_i h0;subst h0;rfl
      ·simp
     rw[e3,b2.cell (by omega)];generalize vs.getD j Go.undef=u at h2;cases h2;rfl
    have hrun:=Lib.run_unsafeString_row (P:=P) w pt it ty e hp hc b vs.size b6 s (by intro e;subst e;simp at hn;omega) (by omega) (by omega) hcell;rw[hn]at hrun;obtain⟨f1,f2,f3,f4⟩:=LZ w b n;obtain⟨r1,r2⟩:=hR.update (o':= .dead) hxs rfl b1 f1 f2 f3 f4 (fun c hc=>HZ w b n hc) (fun _=>trivial);exact⟨_,_,g,.str s,_,hrun,r1,r2,.str s,hK⟩
  ·exact hK.elim
def SQ {src dst t : TypeId} {i : TypeInfo} {x : AV} {a : Value} (hR : Rel g w σ) (hs : P.underlying src = some (.pointer t)) (hd : P.underlying dst = some .unsafePointer) (hi : P.info? t = some i) (h0 : i.size ≠ 0) (hx : VR g w x a)
    (hK : match (generalizing := false) x with
      | .ref l off => match σ[l]? with
        | some (.bM _ cs)=>off<cs.length/\K (.ref l off) σ
        | _=>False
      | _=>False):bQ P (convert src dst a) g w σ K:=by
 cases hx<;>simp only at hK
 case ref l off h =>
  have hx':VR g w (.ref l off) a:= .ref _ _ _ h;obtain⟨hl,A,rfl,hA⟩:=h;split at hK
  ·rename_i T cs hcs;obtain⟨hlt,hK⟩:=hK;obtain⟨o1,o2,b,vs,o3,o4,o5,o6,_⟩:=hR.ok l _ hcs;obtain⟨a1,a2⟩:=hA o1;have hb:A.block=b:=by rw[a1]at o3;cases o3;rfl
   obtain⟨T',fz,o4,_⟩:=o4;have hsh:w.shape? A.block=some (T',vs.size):=by simp only[World.shape?,hb,o4]
   refine bQ.pure hR (Lib.run_to_unsafe (P:=P) w A hs hd hi h0 hsh (by rw[a2];show off<vs.size;omega)) hx' hK
  ·exact hK.elim
def SR {src dst u : TypeId} {i : TypeInfo} {x : AV} {a : Value} (hR : Rel g w σ) (hs : P.underlying src = some .unsafePointer) (hd : P.underlying dst = some (.pointer u)) (hi : P.info? u = some i) (hx : VR g w x a)
    (hK : match (generalizing := false) x with
      | .ref l off => match σ[l]? with
        | some (.bM (some T) cs)=>liesAt P P.depth T (cs.length / P.cellsOf T) off u 1=true/\K (.ref l off) σ
        | _=>False
      | _=>False):bQ P (convert src dst a) g w σ K:=by
 cases hx<;>simp only at hK
 case ref l off h =>
  have hx':VR g w (.ref l off) a:= .ref _ _ _ h;obtain⟨hl,A,rfl,hA⟩:=h;split at hK
  ·rename_i T cs hcs;obtain⟨hlt,hK⟩:=hK;obtain⟨o1,o2,b,vs,o3,o4,o5,o6,o7⟩:=hR.ok l _ hcs;obtain⟨a1,a2⟩:=hA o1;have hb:A.block=b:=by rw[a1]at o3;cases o3;rfl
   have hsh:w.shape? A.block=some (T,cs.length):=by rw[hb];exact o7
   have hoff:A.off=off:=by rw[a2]
   refine bQ.pure hR (Lib.run_from_unsafe (P:=P) w A hs hd hi hsh (by rw[hoff];exact hlt)) hx' hK
  ·exact hK.elim
def JK {op : BinOp} {t te : TypeId} {i : TypeInfo} {x y : AV} {a b : Value} {ox oy : Operand} {ng : Bool} (hop : (op = .eql /\ ng = false) \/ (op = .neq /\ ng = true)) (hR : Rel g w σ) (hu : P.underlying t = some (.pointer te)) (hi : P.info? te = some i) (hx : VR g w x a) (hy : VR g w y b)
    (hK : match (generalizing := false) x, y with
      | .ref l o, .ref l' o' => l = l' /\ o = o' /\ match σ[l]? with
        | some (.bM _ _)=>K (.bool ng.not) σ
        | _=>False
      | _,_=>False):bQ P (do eqGuard op t ox oy a b;binOp op t a b) g w σ K:=by
 cases hx<;>(try exact False.elim hK);rename_i l o h;cases hy<;>(try exact False.elim hK);rename_i l' o' h';obtain⟨rfl,rfl,hK⟩:=hK;obtain⟨hl,A,rfl,hA⟩:=h;obtain⟨_,A',rfl,uh⟩:=h';split at hK
 ·rename_i T cs hcs;obtain⟨o1,_⟩:=hR.ok l _ hcs;obtain⟨a1,a2⟩:=hA o1;obtain⟨a3,a4⟩:=uh o1
  have hAA:A'=A:=by
   rw[a1]at a3;have:A.block=A'.block:=Option.some.inj a3;rw[a2,a4,this]
  subst hAA
  have heq:∀ d:Nat,(Op.equalIn (d+1) t (.pointer (some A')) (.pointer (some A'))).run P w = .ok true w:=fun d=>by
   simp[Op.equalIn,run_underlying hu,sizeOf,typeInfo,hi,run_sameAddr_same]
  refine bQ.pure hR (v:= .bool ng.not) ?_ (.bool _) hK
  have hg:(eqGuard op t ox oy (.pointer (some A')) (.pointer (some A'))).run P w = .ok () w:=by
   rcases hop with⟨rfl,_⟩|⟨rfl,_⟩<;>rfl
  simp only[Sem.run_bind,hg,Result.andThen_ok];rcases hop with⟨rfl,rfl⟩|⟨rfl,rfl⟩
  ·simp[binOp,Op.equal,Op.maxDepth,heq 9999]
  ·simp[binOp,Op.equal,Op.maxDepth,heq 9999]
 ·exact hK.elim
end
end Go.AM
namespace Go.AM
open Go.MapKept
def Rel.kill {g : aM} {w : World} {σ : ae} {l : Nat} {o : bx} (h : Rel g w σ) (hl : σ[l]? = some o) (ho : o.live = true) :
    Rel g w (σ.set l .dead)/\ik σ g w (σ.set l .dead) g w:=by
 have:=h.change (w':=w) (o':= .dead) hl ho (g.ver l) (g.base l) (g.cap l) (g.off l) (Nat.le_refl _) (fun _=>⟨rfl,rfl,rfl⟩) (Nat.le_refl _) rfl rfl rfl (fun _ _ _=>rfl) (fun b hb=> .inl hb) (fun _=>trivial);rwa[aM.FD]at this
section
variable {P:Program} {g:aM} {w:World} {σ : ae} {K:AV->ae->Prop}
def YV: Option IntKind->TypeDesc->Bool
 | none,.string=>true
 | some k,.int k'=>k==k'
 | _,_=>false
def Eb{ok:Bool}{v:AV}{u:Value}{b:Bool}(hv:VR g w v u): VR g w (if ok then .bJ [v,.bool b]else v) (if ok then .tuple #[u,.bool b]else u):=by
 cases ok with
 | false=>simpa using hv
 | true =>
   refine .bJ _ _ rfl (fun i hi=>?_)
   match i,hi with
   | 0,_=>exact hv
   | 1,_=>exact .bool b
def SS{x:AV}{v:Value}(hR:Rel g w σ)(hx:VR g w x v)(hK:yP σ x K): bQ P (pure v) g w σ K:=by
 unfold yP at hK;split at hK
 ·exact .pure hR rfl hx hK
 ·exact .pure hR rfl hx hK
 ·rename_i el l m lo n;split at hK
  ·rename_i T bz xs hl;obtain⟨rfl,rfl,hn,hK⟩:=hK;cases hx with
   | own _ _ _ _ _ _ hO =>
   obtain⟨_,_,A,cap,rfl,h4⟩:=hO;obtain⟨mD,qW,hrow⟩:=hR.ok l _ hl;have hlen:((xs.drop lo).take n).length=n:=by simp;omega
   by_cases PB:n=0
   ·subst PB;rw[ff]at hK;obtain⟨r1,r2⟩:=hR.kill hl rfl;exact⟨_,w,_,_,_,rfl,r1,r2,.kg false bz A cap (fun h=>by cases h),hK⟩
   rcases hrow with⟨hx,_,_⟩|⟨b,vs,hb,hrow,hsz,hle,hc,_⟩
   ·subst hx;simp at hn;omega
   obtain⟨_,h6,h7⟩:=h4 mD.symm;have hlt:lo<g.cap l:=by omega
   have hA:=h7 hlt;rw[hb]at hA;simp only[cS]at hA;subst hA
   have hidx:∀ i c,i<n->c<bz.sz->g.off l+(lo+i)*bz.sz+c<vs.size:=fun i c h1 h2=>by
    rw[hsz];have:(lo+i)*bz.sz+bz.sz<=g.cap l*bz.sz:=by rw[<-cV];exact bE _ (by omega)
    omega
   have hoff:∀ i c,g.off l+lo*bz.sz+(i*bz.sz+c)=g.off l+(lo+i)*bz.sz+c:=fun i c=>by rw[cY];omega
   have qu:∀ i,i<n->((xs.drop lo).take n).getD i .undef=xs.getD (lo+i) .undef:=fun i hi=>by
    simp[aj,List.getElem?_take,hi]
   obtain⟨r1,r2⟩:=hR.freeze hl rfl hb;refine⟨_,w,_,_,_,rfl,r1,r2,?_,hK⟩;have key:=VR.aF (g:=g.k_ b) (w:=w) false bz ((xs.drop lo).take n) b (g.off l+lo*bz.sz) cap (.inr rfl) (fun h=>by cases h) (by omega) (fun i h1=>?_) (fun i c h1 h2=>?_) (fun i c h1 h2=>?_)
   ·rw[hlen]at key;exact key
   ·rw[hlen]at h1;rw[qu i h1];exact qW (lo+i) (by omega)
   ·rw[hlen]at h1;rw[hoff,hrow.cell (hidx i c h1 h2)];rfl
   ·rw[hlen]at h1;rw[hoff,qu i h1]
    have e1:dP w ⟨b,g.off l+(lo+i)*bz.sz+c,none⟩=vs.getD (g.off l+(lo+i)*bz.sz+c) Go.undef:=by
     simp only[dP,hrow.cell (hidx i c h1 h2),bB]
    rw[e1];exact(hc (lo+i) c (by omega) h2).mono r2.mono
  ·exact hK.elim
 ·exact hK.elim
def SU {T xt : TypeId} {d : TypeDesc} {ok : Bool} {zero x : AV} {a : Value} (hR : Rel g w σ) (hu : P.underlying T = some d) (hd : ∀ l, d ≠ .interface l) (hz : lj P T = some zero) (hx : VR g w x a)
    (hK:yM T ok zero x fun v=>K v σ):bQ P (Instr.typeAssert a xt T ok) g w σ K:=by
 obtain⟨z,hz1,hz2⟩:=yU hz w;unfold yM at hK;cases hx<;>(try exact False.elim hK)
 case ja =>
  obtain⟨rfl,hK⟩:=hK;refine bQ.pure hR (v:= .tuple #[z,.bool false]) ?_ (Eb (ok:=true) (hz2 g w).1) hK;cases d<;>first|exact absurd rfl (hd _)|simp[Instr.typeAssert,a_ hu,hz1]
 case j6 t y v h =>
  simp only at hK;split at hK
  ·rename_i e;subst e;refine bQ.pure hR (v:=if ok then .tuple #[v,.bool true]else v) ?_ (Eb h) hK;cases d<;>first|exact absurd rfl (hd _)|simp[Instr.typeAssert,a_ hu]
  ·rename_i e;obtain⟨rfl,hK⟩:=hK;refine bQ.pure hR (v:= .tuple #[z,.bool false]) ?_ (Eb (ok:=true) (hz2 g w).1) hK;cases d<;>first|exact absurd rfl (hd _)|simp[Instr.typeAssert,a_ hu,hz1,e]
end
