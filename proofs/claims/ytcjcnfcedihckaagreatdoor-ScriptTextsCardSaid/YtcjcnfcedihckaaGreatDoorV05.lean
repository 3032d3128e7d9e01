/- Part. -/
import Derived.Test.YtcjcnfcedihckaaGreatDoorV04
set_option linter.all false
namespace Go.AM
section
variable {P:Program} {g:aM} {w:World} {σ : ae} {K:AV->ae->Prop}
def JF {op : BinOp} {t : TypeId} {ks : List Kd} {ag : Bool} {i : TypeInfo} {x y : AV} {a b : Value} {ox oy : Operand} (hop : op = .eql \/ op = .neq) (hR : Rel g w σ) (hf : mU P 12 t = some ks) (hA : kD P t = some ag) (hi : P.info? t = some i)
    (hs:i.size=ks.length) (hg:ag=true->P.eqGuardType P.depth t=false) (hx:VR g w x a) (hy:VR g w y b)
    (hK : match (generalizing := false) (if ag then (match (generalizing := false) x, y with | .agg az, .agg bs => h_ ks az bs | _, _ => none) else h_ ks [x] [y]) with
      | some r=>K (.bool (if op = .neq then !r else r)) σ
      | none=>False):bQ P (do eqGuard op t ox oy a b;binOp op t a b) g w σ K:=by
 have YS:∀ (ks:List Kd) (az bs:List AV) (r:Bool),h_ ks az bs=some r->az.length=ks.length/\bs.length=ks.length:=by
  intro ks
  induction ks with
  | nil=>intro az bs r h;cases az<;>cases bs<;>simp[h_]at h ⊢
  | cons k ks ih =>
    intro az bs r h;cases az<;>cases bs<;>simp only[h_]at h<;>(try cases h);split at h
    ·rename_i h1 h2;have:=ih _ _ _ h2;simp[this.1,this.2]
    ·cases h
 cases ag with
 | true =>
   simp only[if_true]at hK;cases hx<;>(try exact False.elim hK);cases hy<;>(try exact False.elim hK)
   case agg.agg az vs hl hsc h bs us hl' Vd h' =>
    simp only at hK;split at hK
    ·rename_i r hr;obtain⟨l1,l2⟩:=YS _ _ _ _ hr
     obtain⟨v,u,p1,p2,p3⟩:=Vb (P:=P) (g:=g) (w:=w) 12 t ks 10000 vs us 0 az bs r hf (by omega) ⟨i,hi,hs⟩ l1 l2 (by omega) (by omega)
      (fun j hj=>by simpa using h j (by omega)) (fun j hj=>by simpa using h' j (by omega)) hr
     have e1:v = .agg vs:=by
      have:(part t vs 0).run P w = .ok (.agg (vs.extract 0 (0+i.size))) w:=by simp[part,jt hA,dw hi]
      rw[this]at p1;cases p1;rw[cj,show i.size=vs.size by omega];simp
     have e2:u = .agg us:=by
      have:(part t us 0).run P w = .ok (.agg (us.extract 0 (0+i.size))) w:=by simp[part,jt hA,dw hi]
      rw[this]at p2;cases p2;rw[cj,show i.size=us.size by omega];simp
     subst e1;subst e2;refine bQ.pure hR (v:= .bool (if op = .neq then !r else r)) ?_ (.bool _) hK;simp only[Sem.run_bind,run_eqGuard_agg w op t ox oy vs us (hg rfl),Result.andThen_ok];rcases hop with rfl|rfl
     ·rw[run_eql_struct,p3];rfl
     ·rw[run_neq_struct,p3];rfl
    ·exact hK.elim
 | false =>
   simp only[Bool.false_eq_true,if_false]at hK;split at hK
   ·rename_i r hr;obtain⟨l1,l2⟩:=YS _ _ _ _ hr;simp only[List.length_singleton]at l1
    match ks,l1 with
    | [k], _ =>
      have hd:∃ d,P.underlying t=some d/\((d = .bool/\k = .b)\/((∃ q,d = .int q)/\k = .i)\/(d = .string/\k = .s)):=by
       unfold mU at hf;split at hf
       ·rename_i hu;cases hf;exact⟨_,hu,.inl ⟨rfl,rfl⟩⟩
       ·rename_i q hu;cases hf;exact⟨_,hu,.inr (.inl ⟨⟨q,rfl⟩,rfl⟩)⟩
       ·rename_i hu;cases hf;exact⟨_,hu,.inr (.inr ⟨rfl,rfl⟩)⟩
       ·rename_i fs hu;simp[kD,hu]at hA
       ·rename_i n e hu;simp[kD,hu]at hA
       ·cases hf
      obtain⟨d,hu,hd⟩:=hd;simp only[h_]at hr;split at hr
      ·rename_i r1 r2 h1 h2;cases h2;cases hr;simp only[g_]at *;rcases JD h1 hx hy with⟨rfl,x',y',rfl,rfl,rfl⟩|⟨rfl,q,x',y',rfl,rfl,rfl⟩|⟨rfl,x',y',rfl,rfl,rfl⟩
       ·rcases hd with⟨rfl,_⟩|⟨_,e⟩|⟨_,e⟩
        ·refine bQ.pure hR (v:= .bool (if op = .neq then !(x'==y')else (x'==y'))) ?_ (.bool _) hK;rcases hop with rfl|rfl<;>simp[eqGuard,binOp,Op.equal,Op.maxDepth,run_equalIn_bool' w 9999 t x' y' hu]
        ·cases e
        ·cases e
       ·refine bQ.pure hR (v:= .bool (if op = .neq then !(x'==y')else (x'==y'))) ?_ (.bool _) hK;rcases hop with rfl|rfl<;>simp[eqGuard,binOp,Op.intCmp,bne]
       ·refine bQ.pure hR (v:= .bool (if op = .neq then !(x'==y')else (x'==y'))) ?_ (.bool _) hK;rcases hop with rfl|rfl<;>simp[eqGuard,binOp,Op.stringOp,LR]
      ·cases hr
   ·exact hK.elim
def FT {op : BinOp} {t : TypeId} {x y : AV} {a b : Value} {ox oy : Operand} (hR : Rel g w σ) (hx : VR g w x a) (hy : VR g w y b)
    (hK:jn op x y fun v=>K v σ):bQ P (do eqGuard op t ox oy a b;binOp op t a b) g w σ K:=by
 have hg:(eqGuard op t ox oy a b).run P w = .ok () w:=by
  cases hx<;>cases hy<;>(try (cases op<;>exact hK.elim))<;>cases op<;>rfl
 obtain⟨v,w',g',av,σ',h1,h2⟩:=SC (P:=P) (t:=t) hR hx hy hK;exact⟨v,w',g',av,σ',by simp only[Sem.run_bind,hg,Result.andThen_ok,h1],h2⟩
def JG {elem : TypeId} {t : TypeId} (hu : P.underlying t = some (.pointer elem)) (p : Option Addr) (D : Nat) :
    (Op.equalIn (D+1) t (.pointer none) (.pointer p)).run P w = .ok p.isNone w/\(Op.equalIn (D+1) t (.pointer p) (.pointer none)).run P w = .ok p.isNone w:=by
 constructor
 ·simp[Op.equalIn,a_ hu]
 ·cases p<;>simp[Op.equalIn,a_ hu]
def FU (place : Nat -> Option (Nat × Nat)) {e : Env} {a : Act} {nt : Nat} (hE : ic nt g w e a.tmps) : ∀ (parts : List (Nat × Operand)) (ps : List ((Nat × Nat) × AX)) (cs : List AV) (vs : Array Value) (K : List AV -> Prop),
    oe nt place parts=some ps->cs.length=vs.size->(∀ i,i<cs.length->VR g w (cs.getD i .undef) (vs.getD i Go.undef))->cs.all AV.scalar=true ->
    lg cs e (ps.map fun p=>(p.1.1,p.1.2,p.2)) K ->
    ∃ cs' us,Instr.fill place vs (parts.map fun p=>(p.1,a.eval p.2))=some us/\cs'.length=us.size/\(∀ i,i<cs'.length->VR g w (cs'.getD i .undef) (us.getD i Go.undef))/\cs'.all AV.scalar=true/\us.size=vs.size/\K cs':=by
 intro parts
 induction parts with
 | nil =>
   intro ps cs vs K h hl hr hs hK;cases h;exact⟨cs,vs,rfl,hl,hr,hs,rfl,hK⟩
 | cons p parts ih =>
   intro ps cs vs K h hl hr hs hK;obtain⟨i,x⟩:=p;simp only[oe]at h;split at h
   ·rename_i q ax ps' h1 h2 h3;cases h;obtain⟨off,n⟩:=q;simp only[aR,lg]at hK;obtain⟨k1,k2,k3,k4⟩:=hK;have hv:=cG h2 hE;obtain⟨c1,c2⟩:=kS hv k2
    have hput:∀ (us:List Value) (vs:Array Value) (j:Nat),off+j+us.length<=vs.size->(us.zipIdx j).foldl (fun cs (p:Value × Nat)=>cs.setIfInBounds (off+p.2) p.1) vs=putRow vs (off+j) us:=by
     intro us
     induction us with
     | nil=>intros;rfl
     | cons u us ih =>
       intro vs j hh;simp only[List.length_cons]at hh;simp only[List.zipIdx_cons,List.foldl_cons,putRow];exact ih _ (j+1) (by simp;omega)
    have QY:(a.eval x).cells.zipIdx.foldl (fun cs (p:Value × Nat)=>cs.setIfInBounds (off+p.2) p.1) vs=putRow vs off (a.eval x).cells.toList:=by
     have:=hput (a.eval x).cells.toList vs 0 (by simp;omega);rw[<-Array.foldl_toList,Array.toList_zipIdx];simpa using this
    obtain⟨cs',us,r1,r2,r3,r4,r5,r6⟩:=ih ps' (eK cs off (ax.ev e).cells) (putRow vs off (a.eval x).cells.toList) K h3 (by rw[kX,size_putRow];exact hl)
     (fun j hj => by
       rw[kX]at hj;rw[vu _ _ _ (by omega),pM _ _ _ (by simp;omega)];simp only[iz,<-c1];split
       ·rename_i hh;simpa using c2 (j-off) (by omega)
       ·exact hr j hj) (xh hs off k2) k4
    refine⟨cs',us,?_,r2,r3,r4,by rw[r5,size_putRow],r6⟩;simp only[aR,Instr.fill,h1];have e1:¬ ((a.eval x).cells.size≠n\/vs.size<off+(a.eval x).cells.size):=by omega
    rw[if_neg (by simpa using e1),QY];exact r1
   ·cases h
def A7 {t : TypeId} {fs : Array Field} {z : AV} {e : Env} {a : Act} {nt : Nat} {parts : Array (Nat × Operand)} {ps : List ((Nat × Nat) × AX)} (hR : Rel g w σ) (hE : ic nt g w e a.tmps)
    (hz:lj P t=some z) (hzs:z.cells.all AV.scalar=true) (hu:P.underlying t=some (.struct fs)) (xO:fs.toList.all (fun f=>(P.info? f.type).isSome)=true)
    (hp:oe nt (fun i=>(fs[i]?).map fun f=>(f.offset,P.cellsOf f.type)) parts.toList=some ps)
    (hK:lg z.cells e (ps.map fun p=>(p.1.1,p.1.2,p.2)) fun cs=>K (.agg cs) σ):bQ P (Instr.build t (parts.map fun(i,x)=>(i,a.eval x))) g w σ K:=by
 obtain⟨v,h1,h2⟩:=yU hz w;obtain⟨h3,h4⟩:=h2 g w;obtain⟨h5,h6⟩:=kS h3 h4
 have Xx:∀ (l:List Field),l.all (fun f=>(P.info? f.type).isSome)=true->(l.mapM fun f=>(do pure (f.offset,← sizeOf f.type):Sem (Nat × Nat))).run P w = .ok (l.map fun f=>(f.offset,P.cellsOf f.type)) w:=by
  intro l
  induction l with
  | nil=>intro _;rfl
  | cons f l ih =>
    intro h;simp only[List.all_cons,aD,eM]at h;obtain⟨⟨i,hi⟩,h'⟩:=h;simp only[List.mapM_cons,Sem.run_bind,dw hi,Result.andThen_ok,Sem.run_pure,ih h',aR,Program.cellsOf,hi,cS,bB]
 obtain⟨cs',us,r1,r2,r3,r4,r5,r6⟩:=FU (fun i=>(fs[i]?).map fun f=>(f.offset,P.cellsOf f.type)) hE parts.toList ps z.cells v.cells _ hp h5 h6 h4 hK;refine bQ.pure hR (v:= .agg us) ?_ (.agg cs' us r2 r4 r3) r6
 have hm:(fs.mapM fun f=>(do pure (f.offset,← sizeOf f.type):Sem (Nat × Nat))).run P w = .ok (fs.map fun f=>(f.offset,P.cellsOf f.type)) w:=by
  have:=Xx fs.toList xO;rw[Array.mapM_eq_mapM_toList];simp only[Sem.run_map,this,Result.andThen_ok]
  congr 1
  apply Array.ext';simp
 simp only[Instr.build,Sem.run_bind,h1,Result.andThen_ok,a_ hu,hm]
 have CU:Instr.fill (fun i=>(fs.map fun f=>(f.offset,P.cellsOf f.type))[i]?) v.cells (parts.map fun(i,x)=>(i,a.eval x)).toList=some us:=by
  rw[<-r1]
  congr 1
  ·funext i;simp
  ·simp
 rw[CU];rfl
end
end Go.AM
namespace Go.AM
section
variable {P:Program} {g:aM} {w:World} {σ : ae} {K:AV->ae->Prop}
def jz(g:aM)(w:World)(el:El)(xs:List AV)(vs:Array Value): Prop :=
 ∀ i c,i<xs.length->c<el.sz->VR g w ((xs.getD i .undef).cell c) (vs.getD (i*el.sz+c) Go.undef)
def jz.mono{g g':aM}{w w':World}{el:El}{xs:List AV}{vs:Array Value}(h:jz g w el xs vs)(hm:kH g w g' w'): jz g' w' el xs vs :=
 fun i c hi hc=>(h i c hi hc).mono hm
def tJ{i c n s:Nat}(hi:i<n)(hc:c<s): i*s+c<n*s:=by
 calc i*s+c<i*s+s:=by omega
  _=(i+1)*s:=by rw[cV]
  _<=n*s:=bE _ hi
def jz.append {el : El} {xs ys : List AV} {vs us rest : Array Value} (h : jz g w el xs vs) (h' : jz g w el ys us) (hv : vs.size = xs.length * el.sz) (hu : us.size = ys.length * el.sz) :
    jz g w el (xs++ys) (vs++us++rest):=by
 intro i c hi hc;simp only[aC]at hi;by_cases h1:i<xs.length
 ·have h2:=tJ h1 hc;have e1:(xs++ys).getD i .undef=xs.getD i .undef:=by simp[aN h1]
  have e2:(vs++us++rest).getD (i*el.sz+c) Go.undef=vs.getD (i*el.sz+c) Go.undef:=by
   have h3:i*el.sz+c<vs.size:=by omega
   have h4:i*el.sz+c<(vs++us).size:=by simp;omega
   simp[fj h3,fj h4]
  rw[e1,e2];exact h i c h1 hc
 ·obtain⟨j,rfl⟩:∃ j,i=xs.length+j:=⟨i-xs.length,by omega⟩;have hj:j<ys.length:=by omega
  have h2:=tJ hj hc;have e1:(xs++ys).getD (xs.length+j) .undef=ys.getD j .undef:=by simp[cB]
  have e3:(xs.length+j)*el.sz+c=vs.size+(j*el.sz+c):=by rw[cY,hv];omega
  have e2:(vs++us++rest).getD ((xs.length+j)*el.sz+c) Go.undef=us.getD (j*el.sz+c) Go.undef:=by
   rw[e3];have h4:vs.size+(j*el.sz+c)<(vs++us).size:=by simp;omega
   rw[fT,fj h4,Array.getElem?_append_right (by omega)];simp
  rw[e1,e2];exact h' j c hj hc
def A8 {b o n : Nat} (hc : ∀ c, c < n -> (w.cell? ⟨b, o + c, none⟩).isSome = true) (w2 : World) (hw : w2.heap = w.heap) :
    (loadCells ⟨b,o,none⟩ n).run P w2 = .ok (((List.range n).map fun c=>dP w ⟨b,o+c,none⟩).toArray) w2:=by
 have e:∀ a,w2.cell? a=w.cell? a:=fun a=>by simp only[World.cell?,hw]
 have:=run_loadCells (P:=P) (w:=w2) (b:=b) (o:=o) (fun c h=>by rw[e];exact hc c h) 0 #[] n (by omega);simpa[loadCells,List.range_eq_range',dP,e]using this
def uz {el : El} {x : AV} {v : Value} {K : List AV -> Prop} (hR : Rel g w σ) (hv : VR g w x v) (hK : fZ σ el x K) :
    ∃ xs:List AV,∃ us:Array Value,K xs/\(Builtin.lenOf v).run P w = .ok xs.length w/\(∀ w2:World,w2.heap=w.heap->(Builtin.firstCells el.sz xs.length v).run P w2 = .ok us w2)/\us.size=xs.length*el.sz/\jz g w el xs us:=by
 cases hv<;>simp only[fZ]at hK
 case str s =>
  obtain⟨rfl,hK⟩:=hK;have hs:(⟨s.toArray⟩:ByteArray).size=s.length:=List.size_toArray;refine⟨_,(s.map fun b=>Value.int .u8 b.toNat).toArray,hK,by simp[Builtin.lenOf,hs],fun w2 _=>?_,by simp,fun i c hi hc=>?_⟩
  ·have : (⟨s.toArray⟩ : ByteArray).extract 0 s.length = ⟨s.toArray⟩ := by
    apply ByteArray.ext;simp[ByteArray.data_extract]
   simp[Builtin.firstCells,this]
  ·have hc0:c=0:=by simp at hc;omega
   subst hc0;simp only[bS]at hi;simp[hi,AV.cell];exact .int _ _
 case ai=>exact⟨[],#[],hK,rfl,fun _ _=>rfl,by simp,fun i c hi=>absurd hi (dL _)⟩
 case kg f bz b cap hf =>
  obtain⟨rfl,hK⟩:=hK;refine⟨[],#[],hK,rfl,fun w2 _=>?_,by simp,fun i c hi=>absurd hi (dL _)⟩;cases b with
  | none=>rfl
  | some b=>simp[Builtin.firstCells,loadCells,loadCellsFrom]
 case aF f bz xs b off cap hi hf hx ft hc h =>
  obtain⟨rfl,hK⟩:=hK
  have hcells:∀ c,c<xs.length*bz.sz->(w.cell? ⟨b,off+c,none⟩).isSome=true:=fun c fN=>by
   have hz:0<bz.sz:=by
    rcases Nat.eq_zero_or_pos bz.sz with e|e
    ·rw[e]at fN;simp at fN
    ·exact e
   have:=hc (c / bz.sz) (c % bz.sz) ((Nat.div_lt_iff_lt_mul hz).2 fN) (Nat.mod_lt _ hz);rwa[Nat.div_add_mod' c bz.sz]at this
  refine⟨xs,_,hK,rfl,A8 hcells,by simp,fun i c hi' fN=>?_⟩;have h2:=tJ hi' fN;simpa[h2]using h i c hi' fN
 case own bz l m lo n h =>
  obtain⟨rfl,hK⟩:=hK;obtain⟨q1,q2,A,cap,rfl,q3⟩:=h;split at hK
  ·rename_i cK xs hxs;obtain⟨rfl,rfl,hK⟩:=hK;obtain⟨o1,o2,o3⟩:=hR.ok l _ hxs;obtain⟨q4,q5,q6⟩:=q3 o1.symm;have hlen:((xs.drop lo).take n).length=n:=by simp;omega
   refine⟨(xs.drop lo).take n,?_⟩;rw[hlen];rcases Nat.eq_zero_or_pos n with rfl|hn
   ·refine⟨#[],hK,rfl,fun w2 _=>?_,by simp,fun i c hi=>by simp at hi⟩;cases A with
    | none=>rfl
    | some b=>simp[Builtin.firstCells,loadCells,loadCellsFrom]
   ·rcases o3 with⟨rfl,_,_⟩|⟨b,vs,b1,b2,b3,b4,b5,_⟩
    ·simp at q4;omega
    ·have q7:=q6 (by omega);rw[b1]at q7;simp only[cS]at q7;subst q7
     have hrow:g.off l+lo*cK.sz+n*cK.sz<=vs.size:=by
      have:lo*cK.sz+n*cK.sz<=g.cap l*cK.sz:=by rw[<-cY];exact bE _ (by omega)
      omega
     have hcells:∀ c,c<n*cK.sz->w.cell? ⟨b,g.off l+lo*cK.sz+c,none⟩=some (vs.getD (g.off l+lo*cK.sz+c) Go.undef):=fun c fN=>b2.cell (by omega);refine⟨_,hK,rfl,A8 (fun c fN=>by rw[hcells c fN];rfl),by simp,fun i c hi' fN=>?_⟩;rw[hlen]at hi';have h2:=tJ hi' fN;rw[jb hi']
     have e:(((List.range (n*cK.sz)).map fun c=>dP w ⟨b,g.off l+lo*cK.sz+c,none⟩).toArray).getD (i*cK.sz+c) Go.undef=vs.getD (g.off l+(lo+i)*cK.sz+c) Go.undef:=by
      rw[show g.off l+(lo+i)*cK.sz+c=g.off l+lo*cK.sz+(i*cK.sz+c) by rw[cY];omega];have:=hcells _ h2;simp[h2,dP,this]
     rw[e];exact b5 (lo+i) c (by omega) fN
  ·exact hK.elim
 case vg bz p n A cap hn hc h =>
  obtain⟨rfl,rfl,hK⟩:=hK;obtain⟨b,o,cs,rfl,h1,h2,h3,h4,h5⟩:=QN hR h hK;refine⟨cs,((List.range (n*1)).map fun c=>dP w ⟨b,o+c,none⟩).toArray,h3,by rw[h1];rfl,?_,by simp[h1],fun i c hi fN=>?_⟩
  ·rw[h1];exact A8 (n:=n*1) (fun c hc=>h4 c (by omega))
  ·have hc0:c=0:=by simp at fN;omega
   subst hc0;have:=h5 i (by omega);have hi':i<n:=by omega
   have hsc:=yT h2 hi;have hcell:(cs.getD i .undef).cell 0=cs.getD i .undef:=by generalize cs.getD i .undef=z at hsc;cases z<;>first|rfl|(simp[AV.scalar]at hsc;done)
   rw[hcell];simpa[hi']using this
def JH(need:Nat): ∀(r c:Nat),c<=2*need+512->Builtin.growBy need r c<=2*need+512
 | 0,c,h=>h
 | r + 1, c, h => by
   simp only[Builtin.growBy];split
   ·exact h
   ·exact JH need r _ (by omega)
def QZ{need old:Nat}(h:old<need): Builtin.nextslicecap need old<=2*need+512:=by
 unfold Builtin.nextslicecap;split
 ·omega
 ·split
  ·omega
  ·exact JH need 4 old (by omega)
def Xy{need old bytes sz:Nat}(h:old<need)(hb:bytes<=24*(sz+1))(hs:sz<=1000)(hr:need*(sz+1)<=2 ^ 40): ¬ Builtin.nextslicecap need old*bytes>2 ^ 48:=by
 have h1:=QZ h;have h2:Builtin.nextslicecap need old*bytes<=(2*need+512)*(24*(sz+1)):=Nat.mul_le_mul h1 hb
 have h3:(2*need+512)*(24*(sz+1))=48*(need*(sz+1))+12288*(sz+1):=by
  rw[cY,show 2*need*(24*(sz+1))=48*(need*(sz+1)) by
   rw[Nat.mul_comm 2 need,Nat.mul_assoc,show 2*(24*(sz+1))=48*(sz+1) by omega,Nat.mul_left_comm]]
  omega
 have h4:48*(need*(sz+1))<=48*2 ^ 40:=Nat.mul_le_mul_left _ hr;have h5:(2:Nat) ^ 48=281474976710656:=by decide
 have h6:(2:Nat) ^ 40=1099511627776:=by decide
 omega
def Ve {ats : Array TypeId} {r sT xT e : TypeId} {d : TypeDesc} {el : El} {base : Option Addr} {sLen sCap n : Nat} {x : Value} {olds news : Array Value}
    (h0:ats[0]? = some sT) (h1:ats[1]? = some xT) (hu:P.underlying sT=some (.slice e)) (hx:P.underlying xT=some d) (hd:∀ k,d≠ .int k) (he:kK P e=some el)
    (hl:(Builtin.lenOf x).run P w = .ok n w) (hc:sCap<sLen+n) (hr:(sLen+n)*(el.sz+1)<=2 ^ 40)
    (ho:∀ dr,(Builtin.firstCells el.sz sLen (.slice base sLen sCap)).run P { w with drawn:=dr } = .ok olds { w with drawn:=dr })
    (hn:∀ dr,(Builtin.firstCells el.sz n x).run P { w with drawn:=dr } = .ok news { w with drawn:=dr }) :
    ∃ cap rest dr, sLen + n <= cap /\ rest.size = (cap - (sLen + n)) * el.sz /\
      (Builtin.append_ ats r #[.slice base sLen sCap,x]).run P w = .ok (.slice (some ⟨w.heap.size,0,none⟩) (sLen+n) cap) (World.alloc { w with drawn:=dr } (.cells (olds++news++rest) e)):=by
 obtain⟨fi,hi,_,hs,_,hb,hsz,z,hz,hzs⟩:=jy he;have hroom:=Xy (bytes:=fi.bytes) (old:=sCap) hc hb hsz hr;have hzv:∀ w,(zeroValue e).run P w = .ok z w:=fun w=>by simp[zeroValue,run_typeInfo hi,hz]
 let q:Question:= .appendCap (sLen+n) sCap e
 let cap:=q.cut (w.tape w.drawn q)
 refine⟨cap,Builtin.zeroCells z.cells (cap-(sLen+n)),w.drawn+1,by simp only[cap,q,Question.cut];omega,by simp[Builtin.zeroCells,hzs],?_⟩;have aeX:(match d with | .int _=>true|_=>false)=false:=by cases d<;>first|rfl|exact absurd rfl (hd _)
 have hfalse:((d matches .int _):Bool)=false:=by cases d<;>first|rfl|exact absurd rfl (hd _)
 have aa0:¬ (sLen+n<=sCap):=by omega
 have hbytes:fi.bytes=0->¬ (((sLen+n:Nat):Int)>IntKind.i64.max):=fun _=>by
  have:(sLen+n)*1<=(sLen+n)*(el.sz+1):=Nat.mul_le_mul_left _ (by omega);have h6:(2:Nat) ^ 40=1099511627776:=by decide
  have:IntKind.i64.max=9223372036854775807:=by decide
  omega
 have hb':¬ ((((sLen+n:Nat):Int)>IntKind.i64.max)/\fi.bytes=0):=fun h=>hbytes h.2 h.1;have adY:q.forced=false:=rfl;unfold Builtin.append_;simp only[gC,fO,fP,h0,h1,Sem.run_bind,a_ hu,Result.andThen_ok,dw hi,hs,a_ hx,Sem.run_pure,hfalse,hl,Bool.false_eq_true,if_false,if_neg aa0,run_typeInfo hi,false_or,fJ,if_true];rw[if_neg hb'];simp only[Sem.run_bind,run_typeInfo hi,Result.andThen_ok,if_neg hroom];rw[run_choose];simp only[show (Question.appendCap (sLen+n) sCap e).forced=false from rfl,Bool.false_eq_true,if_false,Result.andThen_ok,run_typeInfo hi,run_askRoom,ho,hn,hzv,newRow,Sem.run_bind,run_newObj,Sem.run_pure];rfl
def Oe {ats : Array TypeId} {r sT xT e : TypeId} {d : TypeDesc} {el : El} {b o : Nat} {sLen sCap n : Nat} {x : Value} {news vs : Array Value}
    (h0:ats[0]? = some sT) (h1:ats[1]? = some xT) (hu:P.underlying sT=some (.slice e)) (hx:P.underlying xT=some d) (hd:∀ k,d≠ .int k) (he:kK P e=some el)
    (hl:(Builtin.lenOf x).run P w = .ok n w) (hc:sLen+n<=sCap)
    (hn:(Builtin.firstCells el.sz n x).run P w = .ok news w) (hr:Row w b vs) (hsz:o+sLen*el.sz+news.size<=vs.size) (h1c:∀ u ∈ news.toList,u.oneCell'=true) :
    (Builtin.append_ ats r #[.slice (some ⟨b,o,none⟩) sLen sCap,x]).run P w = .ok (.slice (some ⟨b,o,none⟩) (sLen+n) sCap) (setRow w b (o+sLen*el.sz) news.toList):=by
 obtain⟨fi,hi,_,hs,_⟩:=jy he;have hfalse:((d matches .int _):Bool)=false:=by cases d<;>first|rfl|exact absurd rfl (hd _)
 have hst:=sx (P:=P) (b:=b) (o:=o+sLen*el.sz) news.toList w vs 0 hr (by simpa using hsz) h1c;unfold Builtin.append_;simp only[gC,fO,fP,h0,h1,Sem.run_bind,a_ hu,Result.andThen_ok,dw hi,hs,a_ hx,Sem.run_pure,hfalse,hl,Bool.false_eq_true,if_false,if_pos hc,hn,fJ,if_true,add_plain];rw[hst];simp
def A9 {ats : Array TypeId} {r sT xT e : TypeId} {d : TypeDesc} {el : El} {sLen sCap n : Nat} {x : Value} {news : Array Value}
    (h0:ats[0]? = some sT) (h1:ats[1]? = some xT) (hu:P.underlying sT=some (.slice e)) (hx:P.underlying xT=some d) (hd:∀ k,d≠ .int k) (he:kK P e=some el)
    (hl:(Builtin.lenOf x).run P w = .ok n w) (hc:sLen+n<=sCap) (hn:(Builtin.firstCells el.sz n x).run P w = .ok news w) :
    (Builtin.append_ ats r #[.slice none sLen sCap,x]).run P w = .ok (.slice none (sLen+n) sCap) w:=by
 obtain⟨fi,hi,_,hs,_⟩:=jy he;have hfalse:((d matches .int _):Bool)=false:=by cases d<;>first|rfl|exact absurd rfl (hd _)
 unfold Builtin.append_;simp only[gC,fO,fP,h0,h1,Sem.run_bind,a_ hu,Result.andThen_ok,dw hi,hs,a_ hx,Sem.run_pure,hfalse,hl,Bool.false_eq_true,if_false,if_pos hc,hn,fJ,if_true]
def KE{el:El}{xs:List AV}{us:Array Value}(h:jz g w el xs us)(hs:us.size=xs.length*el.sz)(hf:∀ i,i<xs.length->(xs.getD i .undef).fits el=true): ∀ u ∈ us.toList,u.oneCell'=true:=by
 intro u hu;obtain⟨k,hk,rfl⟩:=List.mem_iff_getElem.1 hu;simp only[iz]at hk
 have hz:0<el.sz:=by
  rcases Nat.eq_zero_or_pos el.sz with e|e
  ·rw[e]at hs;omega
  ·exact e
 have h1:k / el.sz<xs.length:=(Nat.div_lt_iff_lt_mul hz).2 (by omega);have h2:k % el.sz<el.sz:=Nat.mod_lt _ hz;have:=h _ _ h1 h2;rw[Nat.div_add_mod' k el.sz]at this
 have hsc:((xs.getD (k / el.sz) .undef).cell (k % el.sz)).scalar=true:=by
  have hft:=hf _ h1;generalize xs.getD (k / el.sz) .undef=y at hft
  cases y<;>simp only[AV.fits,Bool.and_eq_true,beq_iff_eq]at hft<;>first
   |(obtain⟨⟨_,q1⟩,q2⟩:=hft;exact yT q2 (by omega))
   | rfl
   | cases hft
 have:=this.CK hsc;simpa[hk]using this
def JI {T : Option TypeId} {ats : Array TypeId} {r sT xT e : TypeId} {d : TypeDesc} {el : El} {x y : AV} {a b : Value} (hR : Rel g w σ)
    (h0:ats[0]? = some sT) (h1:ats[1]? = some xT) (hu:P.underlying sT=some (.slice e)) (hd':P.underlying xT=some d) (hd:∀ k,d≠ .int k) (he:kK P e=some el)
    (hx:VR g w x a) (hy:VR g w y b) (hT:T=none\/T=some e) (Pz:pH σ T el x y K):bQ P (Builtin.append_ ats r #[a,b]) g w σ K:=by
 obtain⟨ys,news,hK,hl,A_,hsz,hh⟩:=uz (P:=P) hR hy Pz;clear Pz;obtain⟨hfit,hK⟩:=hK
 have Q0:∀ i,i<ys.length->(ys.getD i .undef).fits el=true:=fun i hi=>by
  have:=bq.1 hfit (ys[i]) (dD _);simpa[hi]using this
 have h1c:=KE hh hsz Q0;have hn:∀ dr,(Builtin.firstCells el.sz ys.length b).run P { w with drawn:=dr } = .ok news { w with drawn:=dr }:=fun dr=>A_ _ rfl
 have hty:∀ (w1:World) (vs:Array Value),vi (World.alloc w1 (.cells vs e)) w1.heap.size vs.size T:=fun w1 vs=>by
  rcases hT with rfl|rfl
  ·trivial
  ·have:(World.alloc w1 (.cells vs e)).heap[w1.heap.size]? = some (.cells vs e):=heap_alloc_new w1 _;simp only[vi,World.shape?,this]
 have fresh:∀ (xs:List AV) (olds:Array Value) (base:Option Addr) (sCap:Nat),a = .slice base xs.length sCap->sCap<xs.length+ys.length->gE (xs.length+ys.length) el ->
  (∀ dr,(Builtin.firstCells el.sz xs.length (.slice base xs.length sCap)).run P { w with drawn:=dr } = .ok olds { w with drawn:=dr }) ->
  olds.size=xs.length*el.sz->jz g w el xs olds->(∀ i,i<xs.length->(xs.getD i .undef).fits el=true) ->
  ∃ cap rest dr, xs.length + ys.length <= cap /\ rest.size = (cap - (xs.length + ys.length)) * el.sz /\ (olds ++ news ++ rest).size = cap * el.sz /\ jz g w el (xs ++ ys) (olds ++ news ++ rest) /\ (∀ i, i < (xs ++ ys).length -> ((xs ++ ys).getD i .undef).fits el = true) /\
    (Builtin.append_ ats r #[a,b]).run P w = .ok (.slice (some ⟨w.heap.size,0,none⟩) (xs.length+ys.length) cap) (World.alloc { w with drawn:=dr } (.cells (olds++news++rest) e)):=by
  intro xs olds base sCap ha hc hr ho hos hoh hof;obtain⟨cap,rest,dr,k1,k2,k3⟩:=Ve (P:=P) (r:=r) h0 h1 hu hd' hd he hl hc hr ho hn;refine⟨cap,rest,dr,k1,k2,?_,hoh.append hh hos hsz,fun i hi=>?_,by rw[ha];exact k3⟩
  ·simp only[Array.size_append,hos,hsz,k2];rw[<-cY,<-cY]
   congr 1
   omega
  ·simp only[aC]at hi;by_cases h:i<xs.length
   ·have:=hof i h;simpa[aN h]using this
   ·obtain⟨j,rfl⟩:∃ j,i=xs.length+j:=⟨i-xs.length,by omega⟩;have:=Q0 j (by omega);simpa[cB]using this
 have pushed:∀ (zs:List AV) (vs:Array Value) (cap dr:Nat),zs.length<=cap->vs.size=cap*el.sz->jz g w el zs vs->(∀ i,i<zs.length->(zs.getD i .undef).fits el=true) ->
  ∃ g', Rel g' (World.alloc { w with drawn := dr } (.cells vs e)) (σ ++ [.cy T el zs]) /\ ik σ g w (σ ++ [.cy T el zs]) g' (World.alloc { w with drawn := dr } (.cells vs e)) /\
    VR g' (World.alloc { w with drawn:=dr } (.cells vs e)) (.own el σ.length zs.length 0 zs.length) (.slice (some ⟨w.heap.size,0,none⟩) zs.length cap):=by
  intro zs vs cap dr k1 k2 k3 k4;have mW:=hR.drew dr;have hm:=nY g { w with drawn:=dr } (.cells vs e) zs.length (some w.heap.size) cap mW.lt
  obtain⟨r1,r2⟩:=mW.yK (.cells vs e) (.cy T el zs) zs.length cap
   ⟨by simp[aM.push],k4,.inr ⟨w.heap.size,vs,by simp[aM.push],tI _ vs e,by simp[aM.push,k2],by simp[aM.push,k1],fun i c hi hc=>by simp only[aM.push,if_true,cj];exact((k3 i c hi hc).mono (ik.drew σ g w dr).mono).mono hm,by simp only[aM.push,if_true];exact(hty _ _).v⟩⟩
  refine⟨_,r1,(ik.drew σ g w dr).trans r2,.own _ _ _ _ _ _ ⟨by simp[aM.push,hR.len],by simp[aM.push,hR.len],_,_,rfl,fun _=>⟨by omega,by simp[aM.push,hR.len],fun _=>by simp[aM.push,hR.len]⟩⟩⟩
 cases hx<;>(try exact False.elim hK)
 case ai =>
  simp only at hK;split at hK
  ·rename_i hz;refine⟨.slice none 0 0,w,g,.ai,σ,?_,hR,.refl _ _ _,.ai,hK⟩;have:=A9 (P:=P) (r:=r) (sLen:=0) (sCap:=0) h0 h1 hu hd' hd he hl (by omega) (A_ w rfl);rw[this];simp[hz]
  ·rename_i hz;obtain⟨hr,hK⟩:=hK;obtain⟨cap,rest,dr,k1,k2,k3,k4,k5,k6⟩:=fresh [] #[] none 0 rfl (by simp;omega) (by simpa using hr) (fun _=>rfl) (by simp) (fun i c hi=>absurd hi (dL _)) (fun i hi=>absurd hi (dL _));simp only[dB,List.length_nil,cj]at k1 k4 k5 k6;obtain⟨g',r1,r2,r3⟩:=pushed ys _ cap dr k1 k3 k4 k5;exact⟨_,_,g',_,_,k6,r1,r2,r3,hK⟩
 case kg f bz base cap hf =>
  cases f with
  | false=>exact hK.elim
  | true =>
    obtain⟨rfl,hK⟩:=hK;have hcap:cap=0:=hf rfl;subst hcap;split at hK
    ·rename_i hz;refine⟨.slice base 0 0,w,g,.aF true bz [],σ,?_,hR,.refl _ _ _,.kg _ _ _ _ hf,hK⟩;cases base with
     | none =>
       have:=A9 (P:=P) (r:=r) (sLen:=0) (sCap:=0) h0 h1 hu hd' hd he hl (by omega) (A_ w rfl);rw[this];simp[hz]
     | some A =>
       obtain⟨fi,hi,_,hs,_⟩:=jy he;have hfalse:((d matches .int _):Bool)=false:=by cases d<;>first|rfl|exact absurd rfl (hd _)
       have hne:news = #[]:=by rw[hz]at hsz;exact Array.eq_empty_of_size_eq_zero (by simpa using hsz)
       have yX:=A_ w rfl;rw[hne,hz]at yX;rw[hz]at hl;unfold Builtin.append_;simp only[gC,fO,fP,h0,h1,Sem.run_bind,a_ hu,Result.andThen_ok,dw hi,hs,a_ hd',Sem.run_pure,hfalse,hl,Bool.false_eq_true,if_false,de,Nat.le_refl,if_true,yX,fJ];simp[storeCells]
    ·rename_i hz;obtain⟨hr,hK⟩:=hK;obtain⟨cap,rest,dr,k1,k2,k3,k4,k5,k6⟩:=fresh [] #[] base 0 rfl (by simp;omega) (by simpa using hr) (fun _=>by cases base<;>simp[Builtin.firstCells,loadCells,loadCellsFrom]) (by simp) (fun i c hi=>absurd hi (Nat.not_lt_zero _)) (fun i hi=>absurd hi (Nat.not_lt_zero _));simp only[dB,List.length_nil,cj]at k1 k4 k5 k6 hK;obtain⟨g',r1,r2,r3⟩:=pushed ys _ cap dr k1 k3 k4 k5;exact⟨_,_,g',_,_,k6,r1,r2,r3,hK⟩
 case aF f bz xs b' off cap YQ hf YR ft hc h =>
  cases f with
  | false=>exact hK.elim
  | true =>
    obtain⟨rfl,hK⟩:=hK;have hcap:cap=xs.length:=hf rfl;subst hcap;have sy:VR g w (.aF true bz xs) (.slice (some ⟨b',off,none⟩) xs.length xs.length):= .aF true bz xs b' off _ YQ hf YR ft hc h;split at hK
    ·rename_i hz;refine⟨.slice (some ⟨b',off,none⟩) xs.length xs.length,w,g,.aF true bz xs,σ,?_,hR,.refl _ _ _,sy,hK⟩;obtain⟨fi,hi,_,hs,_⟩:=jy he;have hfalse:((d matches .int _):Bool)=false:=by cases d<;>first|rfl|exact absurd rfl (hd _)
     have hne:news = #[]:=by rw[hz]at hsz;exact Array.eq_empty_of_size_eq_zero (by simpa using hsz)
     have yX:=A_ w rfl;rw[hne,hz]at yX;rw[hz]at hl;unfold Builtin.append_;simp only[gC,fO,fP,h0,h1,Sem.run_bind,a_ hu,Result.andThen_ok,dw hi,hs,a_ hd',Sem.run_pure,hfalse,hl,Bool.false_eq_true,if_false,de,Nat.le_refl,if_true,yX,fJ];simp[storeCells]
    ·rename_i hz;obtain⟨hr,hK⟩:=hK;obtain⟨xs',olds,q1,q2,q3,q4,q5⟩:=uz (P:=P) (K:=fun zs=>zs=xs) (el:=bz) hR sy (by simp[fZ]);subst q1;obtain⟨cap,rest,dr,k1,k2,k3,k4,k5,k6⟩:=fresh xs' olds _ xs'.length rfl (by omega) hr (fun _=>q3 _ rfl) q4 q5 ft;obtain⟨g',r1,r2,r3⟩:=pushed (xs'++ys) _ cap dr (by simpa using k1) k3 k4 k5;simp only[aC]at r3;exact⟨_,_,g',_,_,k6,r1,r2,r3,hK⟩
 case own bz l m lo n h =>
  obtain⟨rfl,hK⟩:=hK;have sy:VR g w (.own bz l m lo n) a:= .own _ _ _ _ _ _ h;obtain⟨q1,q2,A,cap,rfl,q3⟩:=h;split at hK
  ·rename_i T' cK xs hxs;obtain⟨hTT,rfl,rfl,rfl,rfl,hr,hK⟩:=hK;obtain⟨o1,o2,o3⟩:=hR.ok l _ hxs;obtain⟨q4,q5,q6⟩:=q3 o1.symm;by_cases hc:xs.length+ys.length<=cap
   ·
    rcases Nat.eq_zero_or_pos ys.length with hz|hz
    ·
     have hne:news = #[]:=by rw[hz]at hsz;exact Array.eq_empty_of_size_eq_zero (by simpa using hsz)
     have hys:ys=[]:=hY hz;subst hys
     have vx : σ.set l (.cy T' cK xs) = σ:=by
      apply List.ext_getElem?;intro k;by_cases e:k=l
      ·subst e;rw[List.getElem?_set_self (by have:=(aP.1 hxs).1;exact this)];exact hxs.symm
      ·rw[List.getElem?_set_ne (Ne.symm e)]
     simp only[List.length_nil,de,List.append_nil,vx]at hK;refine⟨.slice A xs.length cap,w,g,.own cK l xs.length 0 xs.length,σ,?_,hR,.refl _ _ _,sy,hK⟩;obtain⟨fi,hi,_,hs,_⟩:=jy he;have hfalse:((d matches .int _):Bool)=false:=by cases d<;>first|rfl|exact absurd rfl (hd _)
     have yX:=A_ w rfl;rw[hne]at yX;simp only[List.length_nil,de]at hc yX hl;unfold Builtin.append_;simp only[gC,fO,fP,h0,h1,Sem.run_bind,a_ hu,Result.andThen_ok,dw hi,hs,a_ hd',Sem.run_pure,hfalse,hl,Bool.false_eq_true,if_false,de,if_pos hc,yX,fJ,if_true];cases A<;>simp[storeCells]
    ·rcases o3 with⟨rfl,o4,o5⟩|⟨b',vs,b1,b2,b3,b4,b5,b6⟩
     ·simp at q5 hc;omega
     ·have q7:=q6 (by omega);rw[b1]at q7;simp only[cS]at q7;subst q7;have aa1:g.cap l=cap:=by omega
      have hroom:g.off l+(xs.length+ys.length)*cK.sz<=vs.size:=by rw[b3,aa1];exact Nat.add_le_add_left (bE _ hc) _
      rw[cY]at hroom;have hrun:=Oe (P:=P) (r:=r) (b:=b') (o:=g.off l+0*cK.sz) (sLen:=xs.length) h0 h1 hu hd' hd he hl hc (A_ w rfl) b2 (by omega) h1c;obtain⟨f1,f2,f3,f4,f5⟩:=vm w b' (g.off l+0*cK.sz+xs.length*cK.sz) news.toList
      obtain⟨r1,r2⟩:=hR.change (o':= .cy T' cK (xs++ys)) (w':=setRow w b' (g.off l+0*cK.sz+xs.length*cK.sz) news.toList) hxs rfl (xs.length+ys.length) (some b') (g.cap l) (g.off l) (by omega) (fun e=>by omega) (by omega) f2 f3 f4
       (fun c kR hne=>f5 c (fun e=>hne (e ▸ b1))) (fun c kR=> .inl (by rw[b1,kR]))
       (fun hm => ⟨by simp [aM.reset], fun i hi => by
         simp only[aC]at hi;by_cases h:i<xs.length
         ·have:=o2 i h;simpa[aN h]using this
         ·obtain⟨j,rfl⟩:∃ j,i=xs.length+j:=⟨i-xs.length,by omega⟩;have:=Q0 j (by omega);simpa[cB]using this,
         .inr ⟨b',_,by simp[aM.reset],b2.setRow _ _,by rw[size_putRow];simp[aM.reset,b3],by simp[aM.reset];omega,fun i c hi kR=>by
          simp only[aC]at hi;rw[show (g.reset l (xs.length+ys.length) (some b') (g.cap l) (g.off l)).off l=g.off l from by simp[aM.reset]];rw[pM _ _ _ (by simp;omega)];simp only[iz,hsz];by_cases h:i<xs.length
          ·have h2:=tJ h kR;rw[if_neg (by omega),show(xs++ys).getD i .undef=xs.getD i .undef by simp[aN h]];exact(b5 i c h kR).mono hm
          ·obtain⟨j,rfl⟩:∃ j,i=xs.length+j:=⟨i-xs.length,by omega⟩;have hj:j<ys.length:=by omega
           have h2:=tJ hj kR
           rw[cY,if_pos (by omega),show(xs++ys).getD (xs.length+j) .undef=ys.getD j .undef by simp[cB],
            show g.off l+(xs.length*cK.sz+j*cK.sz)+c-(g.off l+0*cK.sz+xs.length*cK.sz)=j*cK.sz+c by omega]
           have:=(hh j c hj kR).mono hm;have h3:j*cK.sz+c<news.size:=by omega
           simpa[h3]using this,by
          cases T' with
          | none=>trivial
          | some T'=>simp only[aM.reset,if_true];rw[size_putRow];exact⟨(vo _ _ _ _ _).trans b6.1,b6.2⟩⟩⟩)
      refine⟨_,_,_,_,_,hrun,r1,r2,.own _ _ _ _ _ _ ⟨by simp[aM.reset];exact q1,by simp[aM.reset],_,_,rfl,fun _=>⟨by omega,by simp[aM.reset];omega,fun _=>by simp[aM.reset]⟩⟩,hK⟩
   ·
    obtain⟨xs',olds,p1,p2,p3,p4,p5⟩:=uz (P:=P) (K:=fun zs=>zs=xs) (el:=cK) hR sy (by simp[fZ,hxs]);subst p1;obtain⟨cap',rest,dr,k1,k2,k3,k4,k5,k6⟩:=fresh xs' olds A cap rfl (by omega) hr (fun _=>p3 _ rfl) p4 p5 o2;have mW:=hR.drew dr
    obtain⟨r1,r2⟩:=mW.change (o':= .cy T' cK (xs'++ys)) (w':=World.alloc { w with drawn:=dr } (.cells (olds++news++rest) e)) hxs rfl (xs'.length+ys.length) (some w.heap.size) cap' 0 (by omega)
     (fun e => by
       have hys:ys.length=0:=by omega
       have:¬ (xs'.length<=cap):=by omega
       have:xs'.length<=g.cap l:=by
        rcases o3 with⟨rfl,_,_⟩|⟨b',vs,b1,b2,b3,b4,b5⟩
        ·exact bD _
        ·exact b4
       omega) (by simp) rfl rfl rfl
     (fun c kR _=>heap_alloc_old _ _ kR) (fun c kR=> .inr (by cases kR;exact Nat.le_refl _))
     (fun hm => ⟨by simp [aM.reset], k5, .inr ⟨w.heap.size, _, by simp [aM.reset], tI { w with drawn := dr } _ e, by simp only [aM.reset, if_true, cj]; exact k3, by simp [aM.reset]; exact k1, fun i c hi kR => by simp only [aM.reset, if_true, cj]; exact ((k4 i c hi kR).mono (ik.drew σ g w dr).mono).mono hm, by
       simp only[aM.reset,if_true];rcases hTT with rfl|rfl
       ·trivial
       ·exact(hty { w with drawn:=dr } _).v⟩⟩)
    refine⟨_,_,_,_,_,k6,r1,(ik.drew σ g w dr).trans r2,.own _ _ _ _ _ _ ⟨by simp[aM.reset];exact q1,by simp[aM.reset],_,_,rfl,fun _=>⟨by omega,by simp[aM.reset],fun _=>by simp[aM.reset]⟩⟩,hK⟩
  ·exact hK.elim
end
